/- An abstract machine for Go, part 35: loops over functions that are left before their end. -/
import Derived.Test.YtpagkfbpgppeiaaBmg
namespace Go.AM

section
variable {P : Program} {h h1 : Heap} {a : Act} {c : Code} {K : Exit → Act → Heap → Prop}

/-- A loop over a function that is left by a return. -/
theorem wc_range_ret {g : Operand} {params : Array Tmp} {assign body : Code} (hc : c = .rangeFunc g params assign body) (k0 : FuncId) (first cap : Array Value) (l : Nat) (mark : List Deferred) (args : Array Value) (hargs : first ++ #[.func (.yield l) #[] #[]] ++ cap = args) (hok : opndOk g = true) (hg : a.eval g = .func (.func k0) first cap)
    (hr : runs P k0 = true) (he : enterA h a.tmps params assign body none = some (l, mark, h1))
    (hw : WCall P k0 args h1 fun _ h2 => ∃ L2, h2[l]? = some (.loop L2) ∧ L2.state = .done ∧ L2.pending = some .ret ∧ K .ret { a with defers := mark ++ a.defers } (h2.setIfInBounds l (.loop { L2 with state := .exhausted }))) : WCode P none c a h K := by
  subst hc; subst hargs
  unfold runs at hr
  split at hr
  · rename_i fn hf
    simp only [Bool.and_eq_true, Bool.not_eq_true'] at hr
    obtain ⟨v, h2, s, L2, h3, h4, h5, hk⟩ := hw
    exact ⟨.ret, _, _, sound_rangeFunc hok hg hf hr.1 hr.2 he s h3 (by rw [h4]; simp) (.inr ⟨_, h5, sound_ret⟩), hk⟩
  · cases hr

/-- A round of a loop over a function, that returns. -/
theorem w_yield_ret {l : Nat} {args : Array Value} {L : Loop} {K : Heap → Prop} (hl : At h l (.loop L)) (hst : L.state = .ready) (hsz : args.size = L.params.size) (a0 : Act) (ha : a0 = { tmps := roundTmps L args, defers := [] })
    (hw : WCode P (some l) L.assign a0 h fun x a1 h1 => x = .normal ∧ ∃ L1, At h1 l (.loop L1) ∧ L1.state = .ready ∧ WCode P (some l) L.body a1 (h1.setIfInBounds l (.loop { L1 with state := .busy })) fun x a2 h3 => x = .ret ∧ ∃ L3, At h3 l (.loop L3) ∧
      K (h3.setIfInBounds l (.loop { L3 with state := .done, pending := some .ret }))) : ∃ h', SoundYield P l args h (.bool false) h' ∧ K h' := by
  subst ha
  obtain ⟨x, a1, h1, sa, rfl, L1, h2, h3, x2, a2, h4, sb, rfl, L3, h5, hk⟩ := hw
  exact ⟨_, sound_yield (j := some .ret) hl hst hsz sa h2 h3 sb h5 rfl, hk⟩

theorem wc_eqc {ro : Option Nat} {c d : Code} (e : c = d) (hw : WCode P ro d a h K) : WCode P ro c a h K := e ▸ hw

/-- A function's end behind a loop over a function; the results may lie in memory. -/
theorem end_mark2 {f : FuncId} {K : Value → Heap → Prop} {x : Exit} {a0 : Act} {dv : Nat} (v : Value) (a1 : Act) (ha : a0 = a1) (hx : x = .normal ∨ x = .ret) (hd : a1.defers = [{ target := .collected dv, args := #[] }]) (hr : At h1 dv (.deferred (some [])))
    (hv : resF P f (h1.setIfInBounds dv (.deferred none)) a1.tmps = some v) (hk : K v (h1.setIfInBounds dv (.deferred none))) : endPost P f K x a0 h1 := by
  subst ha
  intro fn hf
  refine ⟨hx, _, v, ?_, ?_, hk⟩
  · rw [hd]
    have : h1[dv]? = some (.deferred (some [])) := hr
    simp only [takeA, this]
  · simpa [resF, hf] using hv
end
end Go.AM
