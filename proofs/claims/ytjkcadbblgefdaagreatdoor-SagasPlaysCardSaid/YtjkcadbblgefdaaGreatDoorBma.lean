/- An abstract machine for Go, part 27: rows that hold the elements of a list, one behind the other. -/
import Derived.Test.YtjkcadbblgefdaaGreatDoorAmz
namespace Go.AM

/-- The cells of a list's elements. -/
def flat {α:Type} (f:α→Array Value):List α→Array Value
  | []=>#[]
  | x :: r=>f x++flat f r

section
variable {α : Type} {f : α → Array Value} {z : Nat}

theorem flat_size (hf:∀ x,(f x).size=z):∀ xs:List α,(flat f xs).size=xs.length * z
  | []=>by simp [flat]
  | x :: r=>by simp only [flat,Array.size_append,hf,flat_size hf r,List.length_cons,Nat.succ_mul]; omega

theorem flat_append:∀ xs ys:List α,flat f (xs++ys)=flat f xs++flat f ys
  | [],ys=>by simp [flat]
  | x :: r,ys=>by simp only [List.cons_append,flat,flat_append r ys,Array.append_assoc]

theorem flat_one (x:α):flat f [x]=f x:=by simp [flat]

theorem flat_get (hf:∀ x,(f x).size=z):∀ (xs:List α) (i j:Nat) (x:α),xs[i]?=some x→j < z→(flat f xs)[i * z + j]?=(f x)[j]?
  | [],i,j,x,h,_=>by simp at h
  | y :: r,0,j,x,h,hj=>by
    simp only [List.getElem?_cons_zero,Option.some.injEq] at h
    subst h
    simp only [flat,Nat.zero_mul,Nat.zero_add]
    rw [Array.getElem?_append,if_pos (by rw [hf]; exact hj)]
  | y :: r,i + 1,j,x,h,hj=>by
    simp only [flat]
    rw [Array.getElem?_append,if_neg (by rw [hf,Nat.succ_mul]; omega),hf]
    have:=flat_get hf r i j x (by simpa using h) hj
    rw [← this]
    congr 1
    rw [Nat.succ_mul]; omega

theorem flat_all (hf:∀ x,(f x).size=z) (xs:List α):(flat f xs).extract 0 (xs.length * z)=flat f xs:=by
  have:=flat_size hf xs
  rw [← this]; simp

theorem flat_splice (hf:∀ x,(f x).size=z) {xs:List α} {i j:Nat} {x y:α} (h:xs[i]?=some x) {vs:List Value} (hj:j + vs.length≤z) (hy:splice (f x) j vs=f y):splice (flat f xs) (i * z + j) vs=flat f (xs.set i y):=by
  have hlt:i < xs.length:=(List.getElem?_eq_some_iff.1 h).1
  have hsz:=flat_size hf xs
  have hle:i * z + z≤xs.length * z:=by
    have:=Nat.mul_le_mul_right z (show i + 1≤xs.length from hlt)
    rw [Nat.succ_mul] at this; exact this
  apply Array.ext_getElem?
  intro k
  rw [splice_get _ _ _ _ (by omega)]
  by_cases hz:z=0
  · subst hz
    have h0:(flat f xs).size=0:=by rw [hsz]; simp
    have h1:(flat f (xs.set i y)).size=0:=by rw [flat_size hf]; simp
    have hv:vs.length=0:=by omega
    rw [if_neg (by omega),Array.getElem?_eq_none (by omega),Array.getElem?_eq_none (by omega)]
  · by_cases hk:k < xs.length * z
    · have hq:k / z < xs.length:=by rw [Nat.div_lt_iff_lt_mul (by omega)]; exact hk
      have hm:k % z < z:=Nat.mod_lt _ (by omega)
      have hdm:k=k / z * z + k % z:=by rw [Nat.mul_comm]; exact (Nat.div_add_mod k z).symm
      generalize hkq:k / z=q at hq hdm
      generalize hkm:k % z=m at hm hdm
      by_cases hqi:q=i
      · subst hqi
        have hs:(xs.set q y)[q]?=some y:=by simp [hlt]
        have g1:=flat_get hf (xs.set q y) q m y hs hm
        have g2:=flat_get hf xs q m x h hm
        rw [hdm,g1,← hy,splice_get _ _ _ _ (by rw [hf]; omega),g2]
        by_cases c:j≤m∧m < j + vs.length
        · rw [if_pos (by omega),if_pos c]; congr 1; omega
        · rw [if_neg (by omega),if_neg c]
      · have hs:(xs.set i y)[q]?=some xs[q]:=by rw [List.getElem?_set_ne (fun e=>hqi e.symm)]; exact List.getElem?_eq_getElem hq
        have g1:=flat_get hf (xs.set i y) q m _ hs hm
        have g2:=flat_get hf xs q m _ (List.getElem?_eq_getElem hq) hm
        rw [hdm,g1,g2,if_neg]
        intro c
        rcases Nat.lt_or_gt_of_ne hqi with hl | hl
        · have:=Nat.mul_le_mul_right z (show q + 1≤i from hl)
          rw [Nat.succ_mul] at this; omega
        · have:=Nat.mul_le_mul_right z (show i + 1≤q from hl)
          rw [Nat.succ_mul] at this; omega
    · rw [if_neg (by omega),Array.getElem?_eq_none (by omega),Array.getElem?_eq_none (by rw [flat_size hf,List.length_set]; omega)]
end
end Go.AM
