/- Definitions that are known. -/
import Derived.Test.YtbhklepkcgbniaaDoorKi
import Derived.KernelRfl
open Go Go.AM Go.Proofs
namespace C27
theorem bytes_beq (c c' : ByteArray) : (c == c') = decide (c = c') := by
  cases c with | mk a => cases c' with | mk b =>
  have : (ByteArray.mk a == ByteArray.mk b) = (a == b) := by
    show ByteArray.beq _ _ = _
    unfold ByteArray.beq
    rfl
  rw [this]
  by_cases h : a = b <;> simp [h]
theorem int_beq (a b : Int) : (a == b) = decide (a = b) := by by_cases h : a = b <;> simp [h]
theorem bool_beq (a b : Bool) : (a == b) = decide (a = b) := by cases a <;> cases b <;> rfl
theorem eq28 {a0 b0 : Int} {a1 b1 : Int} : eqA Tryd.prog 8 28 (.agg #[.int .i64 a0, .int .i64 a1]) (.agg #[.int .i64 b0, .int .i64 b1]) = some (decide (a0 = b0 ∧ a1 = b1)) := by
  have e : eqA Tryd.prog 8 28 (.agg #[.int .i64 a0, .int .i64 a1]) (.agg #[.int .i64 b0, .int .i64 b1]) = (match (some (a0 == b0) : Option Bool) with | some true => (match (some (a1 == b1) : Option Bool) with | some true => some true | some false => some false | none => none) | some false => some false | none => none) := by kernel_rfl
  rw [e]
  simp only [int_beq, bytes_beq, bool_beq]
  by_cases h0 : a0 = b0 <;> by_cases h1 : a1 = b1 <;> simp [h0, h1]
theorem cmp28_eql {a0 b0 : Int} {a1 b1 : Int} {r : Bool} (e : decide (a0 = b0 ∧ a1 = b1) = r) : binA Tryd.prog .eql 28 (.agg #[.int .i64 a0, .int .i64 a1]) (.agg #[.int .i64 b0, .int .i64 b1]) = some (.bool r) := by
  have k : binA Tryd.prog .eql 28 (.agg #[.int .i64 a0, .int .i64 a1]) (.agg #[.int .i64 b0, .int .i64 b1]) = (eqA Tryd.prog 8 28 (.agg #[.int .i64 a0, .int .i64 a1]) (.agg #[.int .i64 b0, .int .i64 b1])).map .bool := by kernel_rfl
  rw [k, eq28, ← e]; rfl
theorem cmp28_neq {a0 b0 : Int} {a1 b1 : Int} {r : Bool} (e : decide (¬ (a0 = b0 ∧ a1 = b1)) = r) : binA Tryd.prog .neq 28 (.agg #[.int .i64 a0, .int .i64 a1]) (.agg #[.int .i64 b0, .int .i64 b1]) = some (.bool r) := by
  have k : binA Tryd.prog .neq 28 (.agg #[.int .i64 a0, .int .i64 a1]) (.agg #[.int .i64 b0, .int .i64 b1]) = (eqA Tryd.prog 8 28 (.agg #[.int .i64 a0, .int .i64 a1]) (.agg #[.int .i64 b0, .int .i64 b1])).map (fun b => .bool (!b)) := by kernel_rfl
  rw [k, eq28, ← e]
  simp only [Option.map_some, decide_not]
theorem eq32 {a0 b0 : Int} {a1 b1 : Int} : eqA Tryd.prog 8 32 (.agg #[.int .i64 a0, .int .i64 a1]) (.agg #[.int .i64 b0, .int .i64 b1]) = some (decide (a0 = b0 ∧ a1 = b1)) := by
  have e : eqA Tryd.prog 8 32 (.agg #[.int .i64 a0, .int .i64 a1]) (.agg #[.int .i64 b0, .int .i64 b1]) = (match (some (a0 == b0) : Option Bool) with | some true => (match (some (a1 == b1) : Option Bool) with | some true => some true | some false => some false | none => none) | some false => some false | none => none) := by kernel_rfl
  rw [e]
  simp only [int_beq, bytes_beq, bool_beq]
  by_cases h0 : a0 = b0 <;> by_cases h1 : a1 = b1 <;> simp [h0, h1]
theorem cmp32_eql {a0 b0 : Int} {a1 b1 : Int} {r : Bool} (e : decide (a0 = b0 ∧ a1 = b1) = r) : binA Tryd.prog .eql 32 (.agg #[.int .i64 a0, .int .i64 a1]) (.agg #[.int .i64 b0, .int .i64 b1]) = some (.bool r) := by
  have k : binA Tryd.prog .eql 32 (.agg #[.int .i64 a0, .int .i64 a1]) (.agg #[.int .i64 b0, .int .i64 b1]) = (eqA Tryd.prog 8 32 (.agg #[.int .i64 a0, .int .i64 a1]) (.agg #[.int .i64 b0, .int .i64 b1])).map .bool := by kernel_rfl
  rw [k, eq32, ← e]; rfl
theorem cmp32_neq {a0 b0 : Int} {a1 b1 : Int} {r : Bool} (e : decide (¬ (a0 = b0 ∧ a1 = b1)) = r) : binA Tryd.prog .neq 32 (.agg #[.int .i64 a0, .int .i64 a1]) (.agg #[.int .i64 b0, .int .i64 b1]) = some (.bool r) := by
  have k : binA Tryd.prog .neq 32 (.agg #[.int .i64 a0, .int .i64 a1]) (.agg #[.int .i64 b0, .int .i64 b1]) = (eqA Tryd.prog 8 32 (.agg #[.int .i64 a0, .int .i64 a1]) (.agg #[.int .i64 b0, .int .i64 b1])).map (fun b => .bool (!b)) := by kernel_rfl
  rw [k, eq32, ← e]
  simp only [Option.map_some, decide_not]
theorem tim_ok {n : Int} (h : 0 ≤ n ∧ n ≤ 2147483648) : timB n = true := decide_eq_true h
theorem tim_bad {n : Int} (h : ¬ (0 ≤ n ∧ n ≤ 2147483648)) : timB n = false := decide_eq_false h
theorem bud_ok {t b : Int} (h : 0 ≤ t ∧ t ≤ 21 ∧ 0 ≤ b ∧ b ≤ 2147483648) : budB t b = true := decide_eq_true h
theorem lateV_ok {t b n : Int} {d : DefM} {q : Bool} (h : chkE (budB t b) (defB d) (timB n) = 0) (e : decide (0 < d.dl ∧ d.dl ≤ n - b) = q) : lateM t b d n = q := by
  rw [← e]; unfold lateM; rw [h]; simp
theorem lateV_bad {t b n c : Int} {d : DefM} (h : chkE (budB t b) (defB d) (timB n) = c) (hc : ¬ c = 0) : lateM t b d n = false := decide_eq_false fun w => hc (h.symm.trans w.1)
theorem whenV_ok {t b : Int} {d : DefM} (h : chkE (budB t b) (defB d) true = 0) (e : ¬ d.dl = 0) : whenV t b d = b + d.dl ∧ whenB t b d = true := ⟨if_pos ⟨h, e⟩, decide_eq_true ⟨h, e⟩⟩
theorem whenV_no {t b : Int} {d : DefM} (e : d.dl = 0) : whenV t b d = 0 ∧ whenB t b d = false := ⟨if_neg fun w => w.2 e, decide_eq_false fun w => w.2 e⟩
theorem whenV_bad {t b c : Int} {d : DefM} (h : chkE (budB t b) (defB d) true = c) (hc : ¬ c = 0) : whenV t b d = 0 ∧ whenB t b d = false := ⟨if_neg fun w => hc (h.symm.trans w.1), decide_eq_false fun w => hc (h.symm.trans w.1)⟩
theorem leftV_ok {t b q : Int} {d : DefM} (h : chkE (budB t b) (defB d) true = 0) (e : max 0 (d.rt - t) = q) : leftV t b d = q := (if_pos h).trans e
theorem leftV_bad {t b c : Int} {d : DefM} (h : chkE (budB t b) (defB d) true = c) (hc : ¬ c = 0) : leftV t b d = 0 := if_neg fun w => hc (h.symm.trans w)
theorem agV_bad {t b n c : Int} {d : DefM} (h : chkE (budB t b) (defB d) (timB n) = c) (hc : ¬ c = 0) : agE t b d n = c ∧ agB t b d n = false ∧ agT t b d n = 0 ∧ agS t b d n = 0 := by
  have ea : agE t b d n = c := by unfold agE; rw [if_neg (fun w => hc (h.symm.trans w)), h]
  refine ⟨ea, ?_, ?_, ?_⟩
  · unfold agB; rw [ea]; exact decide_eq_false fun w => hc w.1
  · unfold agT; rw [ea]; exact if_neg hc
  · unfold agS; rw [ea]; exact if_neg hc
theorem agV_nine {t b n : Int} {d : DefM} (h : chkE (budB t b) (defB d) (timB n) = 0) (hr : d.rt < t) : agE t b d n = 9 ∧ agB t b d n = false ∧ agT t b d n = 0 ∧ agS t b d n = 0 := by
  have ea : agE t b d n = 9 := by unfold agE; rw [if_pos h, if_pos hr]
  refine ⟨ea, ?_, ?_, ?_⟩
  · unfold agB; rw [ea]; rfl
  · unfold agT; rw [ea]; rfl
  · unfold agS; rw [ea]; rfl
theorem agV_ok {t b n : Int} {d : DefM} {q : Bool} (h : chkE (budB t b) (defB d) (timB n) = 0) (hr : ¬ d.rt < t) (e : decide (t + 1 ≤ d.rt ∧ ¬ (0 < d.dl ∧ d.dl ≤ n - b)) = q) : agE t b d n = 0 ∧ agB t b d n = q ∧ agT t b d n = t + 1 ∧ agS t b d n = b := by
  have ea : agE t b d n = 0 := by unfold agE; rw [if_pos h, if_neg hr]
  have el : lateM t b d n = decide (0 < d.dl ∧ d.dl ≤ n - b) := lateV_ok h rfl
  refine ⟨ea, ?_, ?_, ?_⟩
  · unfold agB; rw [ea, el, ← e]; congr 1; simp only [true_and, decide_eq_false_iff_not]
  · unfold agT; rw [ea]; rfl
  · unfold agS; rw [ea]; rfl
theorem stV_ok {n : Int} {d : DefM} (h : chkE true (defB d) (timB n) = 0) : stS d n = n := if_pos h
theorem stV_bad {n c : Int} {d : DefM} (h : chkE true (defB d) (timB n) = c) (hc : ¬ c = 0) : stS d n = 0 := if_neg fun w => hc (h.symm.trans w)
def madeX : List StepM := [⟨⟨#[107]⟩, -5⟩, ⟨⟨#[109]⟩, 7⟩]
def madeD (rt dl : Int) : DefM := ⟨⟨#[115, 49]⟩, rt, dl, madeX⟩
theorem madeD_ok {rt dl : Int} (h : 0 ≤ rt ∧ rt ≤ 20 ∧ 0 ≤ dl ∧ dl ≤ 100000) : defB (madeD rt dl) = true := by
  have e : defB (madeD rt dl) = (true && decide (0 ≤ rt ∧ rt ≤ 20 ∧ 0 ≤ dl ∧ dl ≤ 100000 ∧ 1 ≤ 2 ∧ 2 ≤ 8) && true) := by kernel_rfl
  rw [e, decide_eq_true (by omega)]; rfl
def noneD (rt dl : Int) : DefM := ⟨⟨#[115, 49]⟩, rt, dl, []⟩
theorem noneD_bad {rt dl : Int} : defB (noneD rt dl) = false := by
  have e : defB (noneD rt dl) = (true && decide (0 ≤ rt ∧ rt ≤ 20 ∧ 0 ≤ dl ∧ dl ≤ 100000 ∧ 1 ≤ 0 ∧ 0 ≤ 8) && true) := by kernel_rfl
  rw [e, decide_eq_false (by omega)]; rfl
def exX : List StepM := [⟨⟨#[97]⟩, 1⟩]
def exD (rt dl : Int) : DefM := ⟨⟨#[100]⟩, rt, dl, exX⟩
theorem exD_ok {rt dl : Int} (h : 0 ≤ rt ∧ rt ≤ 20 ∧ 0 ≤ dl ∧ dl ≤ 100000) : defB (exD rt dl) = true := by
  have e : defB (exD rt dl) = (true && decide (0 ≤ rt ∧ rt ≤ 20 ∧ 0 ≤ dl ∧ dl ≤ 100000 ∧ 1 ≤ 1 ∧ 1 ≤ 8) && true) := by kernel_rfl
  rw [e, decide_eq_true (by omega)]; rfl
theorem lat_row {h : Heap} {b n : Nat} {xs : List StepM} {c : Array Value} (k : h[b]? = some (.cells c 66 (0, 0))) (e : c = flat stepc xs) (hn : xs.length = n) : LAt h stepc 2 xs (.slice (some ⟨b, 0, none⟩) n n) := by
  subst hn
  refine ⟨.inr ⟨b, 0, xs.length, c, 66, (0, 0), rfl, k, by decide, Nat.le_refl _, ?_, ?_⟩, fun q hq => ?_⟩
  · rw [e, flat_size stepc_size]; omega
  · have : c.size = 0 + xs.length * 2 := by rw [e, flat_size stepc_size]; omega
    rw [← this, Array.extract_size]; exact e
  · cases hq; simp [slackElem, k]
theorem lat_none {h : Heap} : LAt h stepc 2 [] (.slice none 0 0) := ⟨.inl ⟨rfl, rfl⟩, fun _ hb => hb.elim⟩
set_option maxHeartbeats 4000000 in
theorem made_ok (h : Heap) (r8 : Int) (hr89 : 0 ≤ r8 ∧ r8 ≤ 255) (d32 : Int) (hd329 : 0 ≤ d32 ∧ d32 ≤ 4294967295) : WCall Tryd.prog 27 #[(Value.int .u8 (r8)), (Value.int .u32 (d32))] h (fun v h1 => ∃ rt dl bq, v = .agg #[.string ⟨#[115, 49]⟩, .int .i64 rt, .int .i64 dl, .slice (some ⟨bq, 0, none⟩) 2 2] ∧ (0 ≤ rt ∧ rt ≤ 20 ∧ 0 ≤ dl ∧ dl ≤ 100000) ∧ LAt h1 stepc 2 madeX (.slice (some ⟨bq, 0, none⟩) 2 2) ∧ Ext h h1) := by
  obtain ⟨b1190, eb1191⟩ : ∃ zq, zq = h.size := ⟨_, rfl⟩
  obtain ⟨h1188, e1189⟩ : ∃ zq, zq = h.push (.cells #[(vS .empty), (vI 0), (vI 0), (Value.slice none 0 0)] 24 (0, 0)) := ⟨_, rfl⟩
  have f1192 := push_new e1189
  rw [← eb1191] at f1192
  have x1193 : Ext h h1188 := by rw [e1189]; exact Ext.push _ _
  have o1194 : h.size ≤ b1190 := by have := (Ext.refl h).size; omega
  have x1195 := (Ext.refl h).trans x1193
  have t1196 : 0 ≤ Int.tmod (r8) 21 ∧ Int.tmod (r8) 21 < 21 := ⟨Int.tmod_nonneg _ (by omega), Int.tmod_lt_of_pos _ (by omega)⟩
  have t1197 : 0 ≤ Int.tmod (d32) 100001 ∧ Int.tmod (d32) 100001 < 100001 := ⟨Int.tmod_nonneg _ (by omega), Int.tmod_lt_of_pos _ (by omega)⟩
  obtain ⟨b1200, eb1201⟩ : ∃ zq, zq = h1188.size := ⟨_, rfl⟩
  obtain ⟨h1198, e1199⟩ : ∃ zq, zq = h1188.push (.cells #[(vS ⟨#[107]⟩), (vI (-5)), (vS ⟨#[109]⟩), (vI 7)] 66 (0, 0)) := ⟨_, rfl⟩
  have f1202 := push_new e1199
  rw [← eb1201] at f1202
  have n1203 : b1200 ≠ b1190 := by have := row_lt f1192; omega
  have x1204 : Ext h1188 h1198 := by rw [e1199]; exact Ext.push _ _
  have o1205 : h.size ≤ b1200 := by have := x1195.size; omega
  have f1206 := x1204 _ _ f1192
  have x1207 := x1195.trans x1204
  obtain ⟨h1208, e1209⟩ : ∃ zq, zq = h1198.setIfInBounds b1190 (.cells #[(vS ⟨#[115, 49]⟩), (vI (Int.tmod (r8) 21)), (vI (Int.tmod (d32) 100001)), (Value.slice (some ⟨b1200, 0, none⟩) 2 2)] 24 (0, 0)) := ⟨_, rfl⟩
  have f1210 := set_same e1209 f1206
  have f1212 := set_other e1209 f1202 n1203.symm
  have x1213 := Ext.setNew x1207 e1209 o1194
  exact hCall_of (n := 200) (T := ⟨fun r i => match r, i with | 0, 0 => some ((vP b1190 0), h1188) | 1, 1 => some ((Value.int .u8 (Int.tmod (r8) 21)), h1188) | 1, 2 => some ((vI (Int.tmod (r8) 21)), h1188) | 1, 4 => some ((Value.int .u32 (Int.tmod (d32) 100001)), h1188) | 1, 5 => some ((vI (Int.tmod (d32) 100001)), h1188) | 1, 8 => some ((vL (some ⟨b1200, 0, none⟩) 2 2), h1198) | 1, 10 => some (undef, h1208) | _, _ => none, fun _ => none, some [(vA #[(vS ⟨#[115, 49]⟩), (vI (Int.tmod (r8) 21)), (vI (Int.tmod (d32) 100001)), (vL (some ⟨b1200, 0, none⟩) 2 2)])]⟩)
    (A := ((vP b1190 0) = (Value.pointer (some ⟨h.size, 0, none⟩)) ∧ h1188 = h.push (.cells #[(vS .empty), (vI 0), (vI 0), (vL none 0 0)] 24 (0, 0))) ∧ (binA Tryd.prog .rem 5 (Value.int .u8 (r8)) (Value.int .u8 21) = some (Value.int .u8 (Int.tmod (r8) 21)) ∧ h1188 = h1188) ∧ ((vI (Int.tmod (r8) 21)) = (vI (IntKind.i64.wrap (Int.tmod (r8) 21))) ∧ h1188 = h1188) ∧ (binA Tryd.prog .rem 54 (Value.int .u32 (d32)) (Value.int .u32 100001) = some (Value.int .u32 (Int.tmod (d32) 100001)) ∧ h1188 = h1188) ∧ ((vI (Int.tmod (d32) 100001)) = (vI (IntKind.i64.wrap (Int.tmod (d32) 100001))) ∧ h1188 = h1188) ∧ ((vL (some ⟨b1200, 0, none⟩) 2 2) = (vL (some ⟨h1188.size, 0, none⟩) 2 2) ∧ h1198 = h1188.push (.cells #[(vS ⟨#[107]⟩), (vI (-5)), (vS ⟨#[109]⟩), (vI 7)] 66 (0, 0))) ∧ (storeT Tryd.prog h1198 24 (vP b1190 0) (vA #[(vS ⟨#[115, 49]⟩), (vI (Int.tmod (r8) 21)), (vI (Int.tmod (d32) 100001)), (vL (some ⟨b1200, 0, none⟩) 2 2)]) = some h1208 ∧ (undef : Value) = undef) ∧ (loadT Tryd.prog h1208 24 (vP b1190 0) = some (vA #[(vS ⟨#[115, 49]⟩), (vI (Int.tmod (r8) 21)), (vI (Int.tmod (d32) 100001)), (vL (some ⟨b1200, 0, none⟩) 2 2)]) ∧ True) ∧ (fun v h1 => ∃ rt dl bq, v = .agg #[.string ⟨#[115, 49]⟩, .int .i64 rt, .int .i64 dl, .slice (some ⟨bq, 0, none⟩) 2 2] ∧ (0 ≤ rt ∧ rt ≤ 20 ∧ 0 ≤ dl ∧ dl ≤ 100000) ∧ LAt h1 stepc 2 madeX (.slice (some ⟨bq, 0, none⟩) 2 2) ∧ Ext h h1) (vA #[(vS ⟨#[115, 49]⟩), (vI (Int.tmod (r8) 21)), (vI (Int.tmod (d32) 100001)), (vL (some ⟨b1200, 0, none⟩) 2 2)]) h1208) (by kernel_rfl) ⟨⟨by rw [eb1191], e1189⟩, ⟨rem_int (by omega), rfl⟩, ⟨by congr 1; rw [IntKind.wrap_i64]; omega, rfl⟩, ⟨rem_int (by omega), rfl⟩, ⟨by congr 1; rw [IntKind.wrap_i64]; omega, rfl⟩, ⟨by rw [eb1201], e1199⟩, ⟨by rw [e1209]; exact store_cells size24 rfl f1206 (by decide) (by simp) rfl (by kernel_rfl), rfl⟩, ⟨load_agg agg24 size24 f1210 (by simp) (by kernel_rfl), trivial⟩, ⟨_, _, b1200, rfl, by omega, lat_row f1212 (by kernel_rfl) rfl, x1213⟩⟩
set_option maxHeartbeats 4000000 in
theorem ex_ok (h : Heap)  : WCall Tryd.prog 28 #[] h (fun v h1 => ∃ rt dl bq, v = .agg #[.string ⟨#[100]⟩, .int .i64 rt, .int .i64 dl, .slice (some ⟨bq, 0, none⟩) 1 1] ∧ (rt = 2 ∧ dl = 10) ∧ LAt h1 stepc 2 exX (.slice (some ⟨bq, 0, none⟩) 1 1) ∧ Ext h h1) := by
  obtain ⟨b1216, eb1217⟩ : ∃ zq, zq = h.size := ⟨_, rfl⟩
  obtain ⟨h1214, e1215⟩ : ∃ zq, zq = h.push (.cells #[(vS .empty), (vI 0), (vI 0), (Value.slice none 0 0)] 24 (0, 0)) := ⟨_, rfl⟩
  have f1218 := push_new e1215
  rw [← eb1217] at f1218
  have x1219 : Ext h h1214 := by rw [e1215]; exact Ext.push _ _
  have o1220 : h.size ≤ b1216 := by have := (Ext.refl h).size; omega
  have x1221 := (Ext.refl h).trans x1219
  obtain ⟨b1224, eb1225⟩ : ∃ zq, zq = h1214.size := ⟨_, rfl⟩
  obtain ⟨h1222, e1223⟩ : ∃ zq, zq = h1214.push (.cells #[(vS ⟨#[97]⟩), (vI 1)] 66 (0, 0)) := ⟨_, rfl⟩
  have f1226 := push_new e1223
  rw [← eb1225] at f1226
  have n1227 : b1224 ≠ b1216 := by have := row_lt f1218; omega
  have x1228 : Ext h1214 h1222 := by rw [e1223]; exact Ext.push _ _
  have o1229 : h.size ≤ b1224 := by have := x1221.size; omega
  have f1230 := x1228 _ _ f1218
  have x1231 := x1221.trans x1228
  obtain ⟨h1232, e1233⟩ : ∃ zq, zq = h1222.setIfInBounds b1216 (.cells #[(vS ⟨#[100]⟩), (vI 2), (vI 10), (Value.slice (some ⟨b1224, 0, none⟩) 1 1)] 24 (0, 0)) := ⟨_, rfl⟩
  have f1234 := set_same e1233 f1230
  have f1236 := set_other e1233 f1226 n1227.symm
  have x1237 := Ext.setNew x1231 e1233 o1220
  exact hCall_of (n := 200) (T := ⟨fun r i => match r, i with | 0, 0 => some ((vP b1216 0), h1214) | 1, 1 => some ((vL (some ⟨b1224, 0, none⟩) 1 1), h1222) | 1, 3 => some (undef, h1232) | _, _ => none, fun _ => none, some [(vA #[(vS ⟨#[100]⟩), (vI 2), (vI 10), (vL (some ⟨b1224, 0, none⟩) 1 1)])]⟩)
    (A := ((vP b1216 0) = (Value.pointer (some ⟨h.size, 0, none⟩)) ∧ h1214 = h.push (.cells #[(vS .empty), (vI 0), (vI 0), (vL none 0 0)] 24 (0, 0))) ∧ ((vL (some ⟨b1224, 0, none⟩) 1 1) = (vL (some ⟨h1214.size, 0, none⟩) 1 1) ∧ h1222 = h1214.push (.cells #[(vS ⟨#[97]⟩), (vI 1)] 66 (0, 0))) ∧ (storeT Tryd.prog h1222 24 (vP b1216 0) (vA #[(vS ⟨#[100]⟩), (vI 2), (vI 10), (vL (some ⟨b1224, 0, none⟩) 1 1)]) = some h1232 ∧ (undef : Value) = undef) ∧ (loadT Tryd.prog h1232 24 (vP b1216 0) = some (vA #[(vS ⟨#[100]⟩), (vI 2), (vI 10), (vL (some ⟨b1224, 0, none⟩) 1 1)]) ∧ True) ∧ (fun v h1 => ∃ rt dl bq, v = .agg #[.string ⟨#[100]⟩, .int .i64 rt, .int .i64 dl, .slice (some ⟨bq, 0, none⟩) 1 1] ∧ (rt = 2 ∧ dl = 10) ∧ LAt h1 stepc 2 exX (.slice (some ⟨bq, 0, none⟩) 1 1) ∧ Ext h h1) (vA #[(vS ⟨#[100]⟩), (vI 2), (vI 10), (vL (some ⟨b1224, 0, none⟩) 1 1)]) h1232) (by kernel_rfl) ⟨⟨by rw [eb1217], e1215⟩, ⟨by rw [eb1225], e1223⟩, ⟨by rw [e1233]; exact store_cells size24 rfl f1230 (by decide) (by simp) rfl (by kernel_rfl), rfl⟩, ⟨load_agg agg24 size24 f1234 (by simp) (by kernel_rfl), trivial⟩, ⟨_, _, b1224, rfl, ⟨rfl, rfl⟩, lat_row f1236 (by kernel_rfl) rfl, x1237⟩⟩
end C27
