/- An abstract machine for Go, part 34: the first elements of a slice. -/
import Derived.Test.YtjkcadbblgefdaaGreatDoorBme
namespace Go.AM

section
variable {α : Type} {f : α → Array Value} {z : Nat} {P : Program} {h : Heap}

theorem flat_take (hf:∀ x,(f x).size=z) (xs:List α) {n:Nat} (hn:n≤xs.length):(flat f xs).extract 0 (n * z)=flat f (xs.take n):=by
  have e:flat f xs=flat f (xs.take n)++flat f (xs.drop n):=by rw [← flat_append,List.take_append_drop]
  have hs:(flat f (xs.take n)).size=n * z:=by rw [flat_size hf,List.length_take,Nat.min_eq_left hn]
  rw [e,← hs]
  simp

/-- The first elements of a slice, as a slice. -/
theorem slice_prefix (hf:∀ x,(f x).size=z) {t e:TypeId} (ht:P.underlying t=some (.slice e)) (hi:(P.info? e).map (·.size)=some z) (hz0:z ≠ 0) {xs:List α} {sa:Option Addr} {cp:Nat} (k:SliceAt h f z xs (.slice sa xs.length cp))
    (hpl:∀ b,blk (.slice sa xs.length cp) b→∀ e0,slackElem h b=some e0→tsz P e0=z) {kd:IntKind} {n:Int} (h0:0≤n) (hn:n≤xs.length) :
    ∃ sb cq,sliceA P h t (.slice sa xs.length cp) none (some (.int kd n)) none=some (.slice sb (xs.take n.toNat).length cq)∧SliceAt h f z (xs.take n.toNat) (.slice sb (xs.take n.toNat).length cq) ∧
      ∀ b,blk (.slice sb (xs.take n.toNat).length cq) b→blk (.slice sa xs.length cp) b:=by
  obtain ⟨i,hi',rfl⟩:=info_of hi
  have hl:(xs.take n.toNat).length=n.toNat:=by rw [List.length_take]; omega
  rcases k with ⟨e1,rfl⟩ | ⟨b,off,cp',c,e0,fr,hv,k⟩
  · cases e1
    have hn0:n=0:=by simp at hn; omega
    subst hn0
    exact ⟨none,0,by simp [sliceA,ht,hi',boundsA,bndA],.inl ⟨rfl,rfl⟩,fun b hb=>hb⟩
  · cases hv
    have hd:deadAt h b=false:=by simp [deadAt,k.row,k.live]
    have hc:=k.len
    have ha:(⟨b,off,none⟩:Addr).add 0=⟨b,off,none⟩:=by rw [addr_add _ rfl]; rfl
    have hb1:boundsA xs.length cp none (some (.int kd n)) none=some (0,n.toNat,cp):=by
      have:0≤n∧n≤(cp:Int):=by omega
      simp [boundsA,bndA,this]
    refine ⟨some ⟨b,off,none⟩,cp,?_,.inr ⟨b,off,cp,c,e0,fr,rfl,⟨k.row,k.live,by omega,?_,?_⟩⟩,fun b hb=>hb⟩
    · simp only [sliceA,ht,hi',hd,hb1]
      rw [if_neg (by simp [hz0])]
      cases hs:slackElem h b with
      | none=>simp only [hl,Nat.sub_zero,Nat.zero_mul,ha,ite_self]
      | some e1=>simp only [hpl b rfl e1 hs,if_true,hl,Nat.sub_zero,Nat.zero_mul,ha]
    · have:=k.fits
      have h1:=Nat.mul_le_mul_right i.size (show n.toNat≤xs.length by omega)
      rw [hl]; omega
    · have h1:=Nat.mul_le_mul_right i.size (show n.toNat≤xs.length by omega)
      have hf':=k.fits
      have q:=flat_take hf xs (n:=n.toNat) (by omega)
      rw [← q,← k.cells,hl]
      apply Array.ext_getElem?
      intro j
      simp only [Array.getElem?_extract]
      by_cases hj:j < n.toNat * i.size
      · rw [if_pos (by omega),if_pos (by simp; omega),if_pos (by omega)]
        congr 1; omega
      · rw [if_neg (by omega),if_neg (by simp; omega)]
end
end Go.AM
