/- An abstract machine for Go, part 5: operations on values, on both sides. -/
import Derived.Test.YtjkcadbblgefdaaGreatDoorAmd
namespace Go.AM

section sims
variable {P : Program} {R : Ren} {w : World}

theorem intBinA_run {op : BinOp} {t : TypeId} {k : IntKind} {a b : Int} {v : Value} (hop : ¬(op = .shl ∨ op = .shr)) (h : intBinA op k a b = some v) :
    (binOp op t (.int k a) (.int k b)).run P w = .ok v w ∧ VR R v v := by
  cases op <;> simp [intBinA] at h hop <;> first
    | (subst h; exact ⟨by simp [binOp, Op.intArith, Op.intBits, Op.intCmp], by simp⟩)
    | (obtain ⟨h1, h2⟩ := h; subst h2; exact ⟨by simp [binOp, Op.intDiv, h1], by simp⟩)

theorem shiftA_run {op : BinOp} {t : TypeId} {k k' : IntKind} {a b : Int} {v : Value} (hop : op = .shl ∨ op = .shr) (h : shiftA op k a b = some v) :
    (binOp op t (.int k a) (.int k' b)).run P w = .ok v w ∧ VR R v v := by
  unfold shiftA at h
  split at h
  · cases h
  · rename_i hb
    rcases hop with rfl | rfl <;> simp at h <;> subst h <;> exact ⟨by simp [binOp, Op.shift, hb], by simp⟩

theorem strBinA_run {op : BinOp} {t : TypeId} {a b : ByteArray} {v : Value} (h : strBinA op a b = some v) :
    (binOp op t (.string a) (.string b)).run P w = .ok v w ∧ VR R v v := by
  cases op <;> simp [strBinA] at h <;> first
    | (subst h; exact ⟨by simp [binOp, Op.stringOp], by simp⟩)
    | (obtain ⟨h1, h2⟩ := h; subst h2; refine ⟨?_, by simp⟩; simp only [binOp, Op.stringOp]; rw [if_neg (by simpa using h1)]; rfl)

theorem VR.agg_inv {x : Value} {cs : Array Value} (h : VR R x (.agg cs)) : ∃ c, x = .agg c := by
  cases x
  case agg c => exact ⟨c, rfl⟩
  case pointer a => cases a <;> simp at h
  case slice a n c => cases a <;> simp at h
  case map r => cases r <;> simp at h
  case func f a b => rw [VR_func] at h; obtain ⟨_, _, _, e, _⟩ := h; cases e
  case iface t u => rw [VR_tok] at h; have := h.2; simp [opq] at this
  all_goals simp at h
theorem VR.niliface_inv {x : Value} (h : VR R x .nilIface) : x = .nilIface := by
  cases x
  case nilIface => rfl
  case pointer a => cases a <;> simp at h
  case slice a n c => cases a <;> simp at h
  case map r => cases r <;> simp at h
  case func f a b => rw [VR_func] at h; obtain ⟨_, _, _, e, _⟩ := h; cases e
  case iface t u => rw [VR_tok] at h; have := h.2; simp [opq] at this
  all_goals simp at h

theorem eqGuard_run {op : BinOp} {t : TypeId} {ox oy : Operand} {x y x' y' : Value} (h : eqGuardA P t x y = true) (hx : VR R x x') (hy : VR R y y') :
    (eqGuard op t ox oy x' y').run P w = .ok () w := by
  unfold eqGuardA at h
  split at h
  · rw [VR_agg] at hx hy
    obtain ⟨_, rfl, _⟩ := hx
    obtain ⟨_, rfl, _⟩ := hy
    exact run_eqGuard_agg w op t ox oy _ _ (by simpa using h)
  · cases h
  · rename_i h1 h2
    have g1 : ∀ c d, x' = .agg c → y' = .agg d → False := by
      rintro c d rfl rfl
      obtain ⟨c0, rfl⟩ := hx.agg_inv
      obtain ⟨d0, rfl⟩ := hy.agg_inv
      exact h1 _ _ rfl rfl
    have g2 : x' = .nilIface → y' = .nilIface → False := by
      rintro rfl rfl
      exact h2 hx.niliface_inv hy.niliface_inv
    cases op <;> simp only [eqGuard, Bool.not_true, Bool.not_false, Bool.false_eq_true, if_false, if_true] <;> first
      | rfl
      | (split
         · exact (g2 rfl rfl).elim
         · exact (g1 _ _ rfl rfl).elim
         · rfl)

theorem VR.eqKind {x x' : Value} (h : VR R x x') (hk : eqKind x = true) : eqKind x' = true := by
  cases x
  case pointer a => cases a <;> simp at h <;> first | (subst h; rfl) | (obtain ⟨_, rfl, _⟩ := h; rfl)
  case slice a n c => cases a <;> simp at h <;> first | (subst h; rfl) | (obtain ⟨_, _, rfl, _⟩ := h; rfl)
  case map r => cases r <;> simp at h <;> first | (subst h; rfl) | (obtain ⟨_, rfl, _⟩ := h; rfl)
  case func f a b => rw [VR_func] at h; obtain ⟨_, _, _, rfl, _⟩ := h; rfl
  case agg cs => rw [VR_agg] at h; obtain ⟨_, rfl, _⟩ := h; rfl
  case tuple cs => rw [VR_tuple] at h; obtain ⟨_, rfl, _⟩ := h; rfl
  case bool b => simp at h; subst h; rfl
  case nilFunc => simp at h; subst h; rfl
  case nilIface => simp at h; subst h; rfl
  case chan c => simp at h
  case iface t u => simp [Go.AM.eqKind] at hk
  all_goals simp [Go.AM.eqKind] at hk

theorem binOp_eql {t : TypeId} {x y : Value} (h : Go.AM.eqKind x = true) : binOp .eql t x y = (do pure (.bool (← Op.equal t x y))) := by
  cases x <;> simp [Go.AM.eqKind] at h <;> cases y <;> rfl
theorem binOp_neq {t : TypeId} {x y : Value} (h : Go.AM.eqKind x = true) : binOp .neq t x y = (do pure (.bool (!(← Op.equal t x y)))) := by
  cases x <;> simp [Go.AM.eqKind] at h <;> cases y <;> rfl

theorem intGuard_run {op : BinOp} {t : TypeId} {ox oy : Operand} {k k' : IntKind} {a b : Int} : (eqGuard op t ox oy (.int k a) (.int k' b)).run P w = .ok () w := by
  cases op <;> simp [eqGuard]
theorem strGuard_run {op : BinOp} {t : TypeId} {ox oy : Operand} {a b : ByteArray} : (eqGuard op t ox oy (.string a) (.string b)).run P w = .ok () w := by
  cases op <;> simp [eqGuard]
theorem binA_sim {op : BinOp} {t : TypeId} {ox oy : Operand} {x y x' y' v : Value} (h : binA P op t x y = some v) (hx : VR R x x') (hy : VR R y y') :
    (do eqGuard op t ox oy x' y'; binOp op t x' y').run P w = .ok v w ∧ VR R v v := by
  unfold binA at h
  split at h
  · rename_i k a k' b
    simp at hx hy; subst hx hy
    simp only [Sem.run_bind, intGuard_run, Result.andThen_ok]
    split at h
    · rename_i hop; exact shiftA_run hop h
    · rename_i hop
      split at h
      · rename_i e; subst e; exact intBinA_run hop h
      · cases h
  · simp at hx hy; subst hx hy
    simp only [Sem.run_bind, strGuard_run, Result.andThen_ok]
    exact strBinA_run h
  · rename_i hn1 hn2
    have key : ∀ b, eqA P 8 t x y = some b → (Op.equal t x' y').run P w = .ok b w := fun b hb => eqA_sim 8 10000 t x y b x' y' w (by omega) hb hx hy
    split at h
    · split at h
      · rename_i hg
        simp only [Option.map_eq_some_iff] at h
        obtain ⟨b, hb, rfl⟩ := h
        refine ⟨?_, by simp⟩
        simp only [Sem.run_bind, eqGuard_run hg.2 hx hy, Result.andThen_ok, binOp_eql (hx.eqKind hg.1), key b hb, Sem.run_pure]
      · cases h
    · split at h
      · rename_i hg
        simp only [Option.map_eq_some_iff] at h
        obtain ⟨b, hb, rfl⟩ := h
        refine ⟨?_, by simp⟩
        simp only [Sem.run_bind, eqGuard_run hg.2 hx hy, Result.andThen_ok, binOp_neq (hx.eqKind hg.1), key b hb, Sem.run_pure]
      · cases h
    · cases h

theorem unA_sim {op : UnOp} {x x' v : Value} (h : unA op x = some v) (hx : VR R x x') : (Op.unary op x').run P w = .ok v w ∧ VR R v v := by
  unfold unA at h
  split at h
  · cases h; simp at hx; subst hx; exact ⟨by simp [Op.unary, Op.intArith], by simp⟩
  · cases h; simp at hx; subst hx; exact ⟨by simp [Op.unary, Op.intBits], by simp⟩
  · cases h; simp at hx; subst hx; exact ⟨by simp [Op.unary], by simp⟩
  · cases h

theorem convA_sim {src dst : TypeId} {x x' v : Value} (h : convA P src dst x = some v) (hx : VR R x x') : (convert src dst x').run P w = .ok v w ∧ VR R v v := by
  unfold convA at h
  split at h
  · rename_i h1 h2; cases h; simp at hx; subst hx
    refine ⟨?_, by simp⟩
    simp only [convert, Sem.run_bind, run_underlying h1, run_underlying h2, Result.andThen_ok]
    rfl
  · rename_i h1 h2; cases h; simp at hx; subst hx
    refine ⟨?_, by simp⟩
    simp only [convert, Sem.run_bind, run_underlying h1, run_underlying h2, Result.andThen_ok]
    rfl
  · cases h
end sims
end Go.AM
