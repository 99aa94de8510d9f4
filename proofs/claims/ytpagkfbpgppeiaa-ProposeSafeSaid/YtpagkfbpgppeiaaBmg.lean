/- An abstract machine for Go, part 33: loops over functions, run in symbols. -/
import Derived.Test.YtpagkfbpgppeiaaBme
namespace Go.AM

/-- A row of whatever kind. -/
def At (h : Heap) (b : Nat) (o : Obj) : Prop := h[b]? = some o
theorem At.keep {h h1 : Heap} {b : Nat} {o : Obj} (k : At h b o) (w : ∀ q r, q = b → h[q]? = some r → h1[q]? = some r) : At h1 b o := w b o rfl k
theorem At.blk_lt {h : Heap} {b : Nat} {o : Obj} (k : At h b o) {q : Nat} (hq : q = b) : q < h.size := by subst hq; exact row_lt k

theorem blk_of {v : Value} {b c : Nat} (hb : b = c) (k : blk v c) : blk v b := by subst hb; exact k

/-- Whether a function can be run. -/
def runs (P : Program) (k : FuncId) : Bool := match P.funcs[k]? with
  | some fn => !(fn.name == "runtime.NumGoroutine") && fn.body.isSome
  | none => false

section
variable {P : Program} {h h1 : Heap} {a : Act} {c : Code} {K : Exit → Act → Heap → Prop}

/-- A loop over a function that is never left before its end. -/
theorem wc_range {g : Operand} {params : Array Tmp} {assign body : Code} (hc : c = .rangeFunc g params assign body) (k0 : FuncId) (first cap : Array Value) (l : Nat) (mark : List Deferred) (args : Array Value) (hargs : first ++ #[.func (.yield l) #[] #[]] ++ cap = args) (hok : opndOk g = true) (hg : a.eval g = .func (.func k0) first cap)
    (hr : runs P k0 = true) (he : enterA h a.tmps params assign body none = some (l, mark, h1))
    (hw : WCall P k0 args h1 fun _ h2 => ∃ L2, h2[l]? = some (.loop L2) ∧ L2.state = .ready ∧ L2.pending = none ∧ K .normal { a with defers := mark ++ a.defers } (h2.setIfInBounds l (.loop { L2 with state := .exhausted }))) : WCode P none c a h K := by
  subst hc; subst hargs
  unfold runs at hr
  split at hr
  · rename_i fn hf
    simp only [Bool.and_eq_true, Bool.not_eq_true'] at hr
    obtain ⟨v, h2, s, L2, h3, h4, h5, hk⟩ := hw
    exact ⟨.normal, _, _, sound_rangeFunc hok hg hf hr.1 hr.2 he s h3 (by rw [h4]; simp) (.inl ⟨h5, rfl, rfl, rfl⟩), hk⟩
  · cases hr

/-- A round of a loop over a function, that goes on. -/
theorem w_yield {l : Nat} {args : Array Value} {L : Loop} {K : Heap → Prop} (hl : At h l (.loop L)) (hst : L.state = .ready) (hsz : args.size = L.params.size) (a0 : Act) (ha : a0 = { tmps := roundTmps L args, defers := [] })
    (hw : WCode P (some l) L.assign a0 h fun x a1 h1 => x = .normal ∧ ∃ L1, At h1 l (.loop L1) ∧ L1.state = .ready ∧ WCode P (some l) L.body a1 (h1.setIfInBounds l (.loop { L1 with state := .busy })) fun x a2 h3 => x = .normal ∧ ∃ L3, At h3 l (.loop L3) ∧
      K (h3.setIfInBounds l (.loop { L3 with state := .ready, pending := none }))) : ∃ h', SoundYield P l args h (.bool true) h' ∧ K h' := by
  subst ha
  obtain ⟨x, a1, h1, sa, rfl, L1, h2, h3, x2, a2, h4, sb, rfl, L3, h5, hk⟩ := hw
  exact ⟨_, sound_yield (j := none) hl hst hsz sa h2 h3 sb h5 rfl, hk⟩
def resF (P : Program) (f : FuncId) (h : Heap) (tmps : Array Value) : Option Value := match P.funcs[f]? with
  | some fn => resultsA P h fn tmps
  | none => none
/-- A function's end behind a loop over a function. -/
theorem end_mark {f : FuncId} {K : Value → Heap → Prop} {x : Exit} {a1 : Act} {dv : Nat} (v : Value) (hx : x = .normal ∨ x = .ret) (hd : a1.defers = [{ target := .collected dv, args := #[] }]) (hr : At h1 dv (.deferred (some [])))
    (hv : ∀ h2, resF P f h2 a1.tmps = some v) (hk : K v (h1.setIfInBounds dv (.deferred none))) : endPost P f K x a1 h1 := by
  intro fn hf
  refine ⟨hx, _, v, ?_, ?_, hk⟩
  · rw [hd]
    have : h1[dv]? = some (.deferred (some [])) := hr
    simp only [takeA, this]
  · have := hv (h1.setIfInBounds dv (.deferred none))
    simpa [resF, hf] using this
end
end Go.AM
