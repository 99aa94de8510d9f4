/- The events are numbered as they come. -/
import Derived.Test.YtdcboianihplpaaXi0
import Derived.Test.YtdcboianihplpaaXf0
import Derived.Test.YtdcboianihplpaaBmh
import Derived.KernelRfl
open Go Go.AM Go.Proofs
namespace C36
/-- How many of some events are calls. -/
def cnt (l : List EvM) : Nat := (l.filter fun x => !x.reply).length
theorem cnt_app (l : List EvM) (x : EvM) : cnt (l ++ [x]) = cnt l + (if x.reply = true then 0 else 1) := by
  simp only [cnt, List.filter_append, List.length_append]
  cases hr : x.reply <;> simp [List.filter_cons, hr]
/-- The events are numbered as they come. -/
structure TabM.seq (m : TabM) : Prop where
  call : ∀ (i : Nat) (x : EvM), m.evs[i]? = some x → x.reply = false → x.call = (cnt (m.evs.take i) : Int) + 1 ∧ x.cmd.call = x.call ∧ x.err = 0 ∧ x.num = 0 ∧ x.text = .empty
  reply : ∀ (i : Nat) (x : EvM), m.evs[i]? = some x → x.reply = true → x.call ≤ (cnt (m.evs.take i) : Int) ∧ x.cmd = noCmd
  all : cnt m.evs = m.ats.length
  wait : (waitM m).length + m.evs.length = 2 * m.ats.length
theorem take_app {α : Type} {l : List α} {x y : α} {i : Nat} (h : l[i]? = some y) : (l ++ [x]).take i = l.take i := by
  have := (List.getElem?_eq_some_iff.1 h).1
  rw [List.take_append_of_le_length (by omega)]
theorem wait_opened {m : TabM} (c : CmdM) : (waitM (m.opened c)).length = (waitM m).length + 1 := by
  have key : ∀ n, n ≤ m.rps.length → waitP (m.rps ++ [-1]) n = waitP m.rps n := by
    intro n
    induction n with
    | zero => intro _; simp [waitP]
    | succ n ih =>
      intro hn
      have ih := ih (by omega)
      simp only [waitP, List.range_succ, List.filter_append, List.map_append] at ih ⊢
      rw [ih]
      have : (m.rps ++ [-1]).getD n 0 = m.rps.getD n 0 := by
        rw [List.getD_eq_getElem?_getD, List.getD_eq_getElem?_getD, List.getElem?_append_left (by omega)]
      simp only [List.filter_cons, List.filter_nil, this]
  have h2 : (m.rps ++ [(-1 : Int)])[m.rps.length]? = some (-1) := by simp
  simp only [waitM, TabM.opened, List.length_append, List.length_singleton]
  rw [wait_next h2, key _ (Nat.le_refl _)]
  simp
theorem opened_seq {m : TabM} (g : m.seq) (c : CmdM) : (m.opened c).seq := by
  refine ⟨fun i x hx hr => ?_, fun i x hx hr => ?_, ?_, ?_⟩
  · rcases get_app hx with q | ⟨rfl, rfl⟩
    · have := g.call i x q hr
      rw [show (m.opened c).evs.take i = m.evs.take i from take_app q]; exact this
    · rw [show (m.opened c).evs.take m.evs.length = m.evs by simp [TabM.opened]]
      have := g.all
      exact ⟨by simp only; omega, rfl, rfl, rfl, rfl⟩
  · rcases get_app hx with q | ⟨rfl, rfl⟩
    · have := g.reply i x q hr
      rw [show (m.opened c).evs.take i = m.evs.take i from take_app q]; exact this
    · cases hr
  · simp only [TabM.opened]
    rw [cnt_app, g.all]; simp
  · have := g.wait
    have h2 := opened_lens m c
    rw [wait_opened]; omega
theorem closed_seq {m : TabM} (g : m.seq) {n' : Nat} (ok : m.ok n') {k0 : Int} (hk : k0 ∈ waitM m) (e n : Int) (d : ByteArray) : (m.closed k0 e n d).seq := by
  obtain ⟨h1, h2, h3⟩ := wait_in ok hk
  refine ⟨fun i x hx hr => ?_, fun i x hx hr => ?_, ?_, ?_⟩
  · rcases get_app hx with q | ⟨rfl, rfl⟩
    · have := g.call i x q hr
      rw [show (m.closed k0 e n d).evs.take i = m.evs.take i from take_app q]; exact this
    · cases hr
  · rcases get_app hx with q | ⟨rfl, rfl⟩
    · have := g.reply i x q hr
      rw [show (m.closed k0 e n d).evs.take i = m.evs.take i from take_app q]; exact this
    · rw [show (m.closed k0 e n d).evs.take m.evs.length = m.evs by simp [TabM.closed]]
      have := g.all
      exact ⟨by simp only; omega, rfl⟩
  · simp only [TabM.closed]
    rw [cnt_app, g.all]; simp
  · have := g.wait
    have h4 := closed_lens m k0 e n d
    have h5 := wait_closed ok hk e n d
    omega
theorem mem_wait {m : TabM} {n' : Nat} (ok : m.ok n') {k : Int} (h1 : ¬ (k < 1 ∨ ((m.ats.length : Nat) : Int) < k)) (h2 : ¬ 0 ≤ m.rps.getD (k - 1).toNat 0) : k ∈ waitM m := by
  obtain ⟨_, e, _⟩ := ok
  exact wait_mem.2 ⟨(k - 1).toNat, by omega, by omega, by omega⟩
theorem stepM_seq {m : TabM} (g : m.seq) {n' : Nat} (ok : m.ok n') (s : StepA) : (stepM m s).seq := by
  unfold stepM
  split
  · unfold closeM
    split
    · exact g
    · rename_i h1
      split
      · exact g
      · split
        · exact g
        · rename_i h2; exact closed_seq g ok (mem_wait ok h1 h2) _ _ _
  · unfold openM
    split
    · exact g
    · split
      · exact g
      · exact opened_seq g _
theorem fill_seq (l : List StepA) : (fillM l).seq := by
  have key : ∀ (l : List StepA) (m : TabM) (n : Nat), m.seq → m.ok n → (l.foldl stepM m).seq := by
    intro l
    induction l with
    | nil => intro m n g _; exact g
    | cons s r ih => intro m n g ok; exact ih _ _ (stepM_seq g ok s) (stepM_ok ok s)
  exact key l _ 0 ⟨fun i x h => (by simp at h), fun i x h => (by simp at h), rfl, rfl⟩ ⟨by decide, rfl, by decide⟩
theorem step_prefix (m : TabM) (s : StepA) : m.evs <+: (stepM m s).evs := by
  unfold stepM
  split
  · unfold closeM
    split
    · exact List.prefix_refl _
    · split
      · exact List.prefix_refl _
      · split
        · exact List.prefix_refl _
        · exact List.prefix_append _ _
  · unfold openM
    split
    · exact List.prefix_refl _
    · split
      · exact List.prefix_refl _
      · exact List.prefix_append _ _
theorem fill_prefix (l : List StepA) (n : Nat) : (fillM (l.take n)).evs <+: (fillM l).evs := by
  have key : ∀ (l : List StepA) (m : TabM), m.evs <+: (l.foldl stepM m).evs := by
    intro l
    induction l with
    | nil => intro m; exact List.prefix_refl _
    | cons s r ih => intro m; exact (step_prefix m s).trans (ih _)
  have : fillM l = (l.drop n).foldl stepM (fillM (l.take n)) := by
    unfold fillM
    rw [← List.foldl_append, List.take_append_drop]
  rw [this]
  exact key _ _
theorem ev_getE {m : TabM} (g : m.good) {i : Nat} {x : EvM} (hx : m.evs[i]? = some x) : getE m x.call = 0 := by
  cases hr : x.reply with
  | false =>
    obtain ⟨h1, h2⟩ := g.call i x hx hr
    have := (List.getElem?_eq_some_iff.1 h2).1
    rw [getE, if_neg (by omega)]
  | true =>
    obtain ⟨h1, h2⟩ := g.reply i x hx hr
    have := (List.getElem?_eq_some_iff.1 h2).1
    have := g.len
    rw [getE, if_neg (by omega)]
theorem ev_getC {m : TabM} (g : m.good) {i : Nat} {x : EvM} (hx : m.evs[i]? = some x) (hr : x.reply = false) : getC m x.call = x.cmd := by
  obtain ⟨h1, h2⟩ := g.call i x hx hr
  have := (List.getElem?_eq_some_iff.1 h2).1
  rw [getC, if_neg (by omega), getD_of h2, show ((i : Int)).toNat = i by omega, getD_of hx]
theorem ev_getR {m : TabM} (g : m.good) {i : Nat} {x : EvM} (hx : m.evs[i]? = some x) (hr : x.reply = true) : getR m x.call = x := by
  obtain ⟨h1, h2⟩ := g.reply i x hx hr
  have := (List.getElem?_eq_some_iff.1 h2).1
  have := g.len
  rw [getR, if_neg (by omega), getD_of h2, if_neg (by omega), show ((i : Int)).toNat = i by omega, getD_of hx]
theorem ev_getB {m : TabM} (g : m.good) {i : Nat} {x : EvM} (hx : m.evs[i]? = some x) (hr : x.reply = true) : getB m x.call = true := by
  obtain ⟨h1, h2⟩ := g.reply i x hx hr
  have := (List.getElem?_eq_some_iff.1 h2).1
  have := g.len
  rw [getB, if_neg (by omega), getD_of h2]; exact decide_eq_true (by omega)
theorem ev_once {m : TabM} (g : m.good) {i j : Nat} {x y : EvM} (hx : m.evs[i]? = some x) (hy : m.evs[j]? = some y) (hr : x.reply = true) (hs : y.reply = true) (hc : x.call = y.call) : i = j := by
  have h1 := (g.reply i x hx hr).2
  have h2 := (g.reply j y hy hs).2
  rw [hc, h2] at h1
  have := Option.some.inj h1
  omega
theorem cnt_next {l : List EvM} {i : Nat} {x : EvM} (hx : l[i]? = some x) : cnt (l.take (i + 1)) = cnt (l.take i) + (if x.reply = true then 0 else 1) := by
  rw [List.take_add_one, hx]
  exact cnt_app _ _
theorem cnt_zero (l : List EvM) : (1 : Int) = (cnt (l.take (0 : Int).toNat) : Int) + 1 := rfl
theorem OwnAt_slack {α : Type} {h : Heap} {f : α → Array Value} {e : TypeId} {xs : List α} {v : Value} (k : OwnAt h e f xs v) (b : Nat) (hb : blk v b) (e0 : TypeId) (h0 : slackElem h b = some e0) : e0 = e := by
  rcases k with ⟨rfl, k⟩ | ⟨b', rfl, hx, k⟩ | ⟨b', rfl, hx, k⟩
  · exact hb.elim
  · cases hb; simp [slackElem, k] at h0
  · cases hb; simpa [slackElem, k] using h0.symm
theorem cmd_zero (h : Heap) (c : CmdM) (hc : c = noCmd) (sa : Option Addr) (ca : Nat) (hl : SliceAt h stepc 2 c.steps (.slice sa c.steps.length ca)) : WCall Try.prog 38 #[(Value.agg (cmdc c (Value.slice sa (c.steps.length) (ca)))), (Value.agg #[(vI 0), (vI 0), (vI 0), (vI 0), (vI 0), (vI 0), (vS .empty), (vI 0), (vI 0), (vS .empty), (vS .empty), (vI 0), (vS .empty), (vI 0), (vI 0), (Value.slice none 0 0), (vI 0), (vI 0), (vI 0), (vI 0), (vB false), (vI 0), (vI 0), (vS .empty)])] h (fun v h1 => v = .bool true ∧ Ext h h1) := by
  subst hc
  exact cmd_same h noCmd sa ca hl none 0 (.inl ⟨rfl, rfl⟩) (Nat.zero_le _)
end C36
