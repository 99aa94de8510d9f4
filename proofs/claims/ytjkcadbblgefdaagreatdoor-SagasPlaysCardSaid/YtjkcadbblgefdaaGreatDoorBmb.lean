/- An abstract machine for Go, part 28: what append comes to. -/
import Derived.Test.YtjkcadbblgefdaaGreatDoorBma
namespace Go.AM

section
variable {P : Program} {h : Heap}

theorem load_all {a:Addr} {c:Array Value} {e:TypeId} {fr:Nat × Nat} (hb:h[a.block]?=some (.cells c e fr)) (hs:a.spot=none) {n:Nat} (hn:a.off + n≤c.size):loadN h a n=some (c.extract a.off (a.off + n)):=by
  simp only [loadN,hb]
  rw [if_pos ⟨hs,hn⟩]

/-- Nothing is added. -/
theorem append_none {t e:TypeId} {x:Option Addr} {n cp:Nat} {c:Array Value} {e0:TypeId} {fr:Nat × Nat} {b off z:Nat} {zv:Value} (ht:P.underlying t=some (.slice e)) (hi:(P.info? e).map (·.size)=some z) (hz:zeroA P e=some zv) (hzs:zv.cells.size=z) (hz0:z ≠ 0)
    (hx:x=some ⟨b,off,none⟩) (hb:h[b]?=some (.cells c e0 fr)) (hd:fr ≠ (2,2)) (hn:n≤cp) (hc:off + n * z≤c.size) (hf:fr.2≤fr.1) {c2:Nat} :
    appendA P h #[t,t] #[.slice x n cp,.slice none 0 c2]=some (.slice x n cp,h):=by
  obtain ⟨i,hi',rfl⟩:=info_of hi
  subst hx
  have hdead:deadAt h b=false:=by simp [deadAt,hb,hd]
  have hst:storeN h ((⟨b,off,none⟩:Addr).add (n * i.size)) (#[]:Array Value).toList=some h:=by
    have hadd:(⟨b,off,none⟩:Addr).add (n * i.size)=⟨b,off + n * i.size,none⟩:=addr_add _ rfl _
    rw [hadd]
    simp only [storeN,hb]
    rw [if_pos ⟨trivial,by simpa using hc,hf,rfl⟩]
    congr 1
    apply Array.ext_getElem?
    intro j
    rw [Array.getElem?_setIfInBounds]
    split
    · rename_i ej; subst ej
      rw [if_pos (row_lt hb)]; exact hb.symm
    · rfl
  simp only [appendA,ht,hi',hz,newsA,hzs,hdead]
  simp [hz0,hn,hst]

/-- An empty slice of a row is added. -/
theorem append_empty {t e e0 e2:TypeId} {b off n cp b2 off2 z:Nat} {c c2:Array Value} {fr fr2:Nat × Nat} {zv:Value} (ht:P.underlying t=some (.slice e)) (hi:(P.info? e).map (·.size)=some z) (hz:zeroA P e=some zv) (hzs:zv.cells.size=z) (hz0:z ≠ 0)
    (hb:h[b]?=some (.cells c e0 fr)) (hd:fr ≠ (2,2)) (hn:n≤cp) (hc:off + n * z≤c.size) (hf:fr.2≤fr.1) (hb2:h[b2]?=some (.cells c2 e2 fr2)) (hc2:off2≤c2.size) {cp2:Nat} :
    appendA P h #[t,t] #[.slice (some ⟨b,off,none⟩) n cp,.slice (some ⟨b2,off2,none⟩) 0 cp2]=some (.slice (some ⟨b,off,none⟩) n cp,h):=by
  obtain ⟨i,hi',rfl⟩:=info_of hi
  have hdead:deadAt h b=false:=by simp [deadAt,hb,hd]
  have hl:=load_all (a:=⟨b2,off2,none⟩) (n:=0 * i.size) hb2 rfl (by simpa using hc2)
  have he:c2.extract off2 (off2 + 0 * i.size)=#[]:=by
    apply Array.eq_empty_of_size_eq_zero
    rw [Array.size_extract]; omega
  simp only [he] at hl
  have hst:storeN h ((⟨b,off,none⟩:Addr).add (n * i.size)) (#[]:Array Value).toList=some h:=by
    have hadd:(⟨b,off,none⟩:Addr).add (n * i.size)=⟨b,off + n * i.size,none⟩:=addr_add _ rfl _
    rw [hadd]
    simp only [storeN,hb]
    rw [if_pos ⟨trivial,by simpa using hc,hf,rfl⟩]
    congr 1
    apply Array.ext_getElem?
    intro j
    rw [Array.getElem?_setIfInBounds]
    split
    · rename_i ej; subst ej
      rw [if_pos (row_lt hb)]; exact hb.symm
    · rfl
  simp only [appendA,ht,hi',hz,newsA,hl,hzs,hdead]
  simp [hz0,hn,hst]

/-- To nothing, some elements of a row. -/
theorem append_nil {t e e0:TypeId} {b off m c2 z bytes:Nat} {c:Array Value} {fr:Nat × Nat} {zv:Value} (ht:P.underlying t=some (.slice e)) (hi:(P.info? e).map (fun i=>(i.size,i.bytes))=some (z,bytes)) (hz:zeroA P e=some zv) (hzs:zv.cells.size=z) (hz0:z ≠ 0)
    (hb:h[b]?=some (.cells c e0 fr)) (hc:off + m * z≤c.size) (hm:m ≠ 0) (hby:m * bytes≤140737488355328) (hml:m≤maxLen) :
    appendA P h #[t,t] #[.slice none 0 0,.slice (some ⟨b,off,none⟩) m c2]=some (.slice (some ⟨h.size,0,none⟩) m m,h.push (.cells (c.extract off (off + m * z)) e (1,1))):=by
  simp only [Option.map_eq_some_iff,Prod.mk.injEq] at hi
  obtain ⟨i,hi',rfl,rfl⟩:=hi
  have hl:=load_all (a:=⟨b,off,none⟩) hb rfl hc
  simp only [appendA,ht,hi',hz,newsA,hl,hzs]
  simp [hz0,hm,hby,hml]

/-- To a full row without hidden room, or to an empty one. -/
theorem append_full {t e e0 e1:TypeId} {a1:Addr} {n cp b off m c2 z bytes:Nat} {c d:Array Value} {fr fr1:Nat × Nat} {zv:Value} (ht:P.underlying t=some (.slice e)) (hi:(P.info? e).map (fun i=>(i.size,i.bytes))=some (z,bytes)) (hz:zeroA P e=some zv) (hzs:zv.cells.size=z) (hz0:z ≠ 0)
    (h1:h[a1.block]?=some (.cells d e1 fr1)) (hs1:a1.spot=none) (hfr1:fr1 ≠ (2,2)) (hfr2:fr1 ≠ (1,1) ∨ cp=0∧a1.off=0) (hd:a1.off + n * z≤d.size) (hfull:cp < n + m)
    (hb:h[b]?=some (.cells c e0 fr)) (hc:off + m * z≤c.size) (hm:m ≠ 0) (hby:(n + m) * bytes≤140737488355328) (hml:n + m≤maxLen) :
    appendA P h #[t,t] #[.slice (some a1) n cp,.slice (some ⟨b,off,none⟩) m c2] =
      some (.slice (some ⟨h.size,0,none⟩) (n + m) (n + m),h.push (.cells (d.extract a1.off (a1.off + n * z)++c.extract off (off + m * z)) e (1,1))):=by
  simp only [Option.map_eq_some_iff,Prod.mk.injEq] at hi
  obtain ⟨i,hi',rfl,rfl⟩:=hi
  have hdead:deadAt h a1.block=false:=by simp [deadAt,h1,hfr1]
  have hl:=load_all (a:=⟨b,off,none⟩) hb rfl hc
  have hl1:=load_all (a:=a1) h1 hs1 hd
  have hroom:¬ n + m≤cp:=by omega
  have hse:slackElem h a1.block=if fr1=(1,1) then some e1 else none:=by simp [slackElem,h1]
  simp only [appendA,ht,hi',hz,newsA,hl,hzs,hdead,hl1,hse]
  rcases hfr2 with q | ⟨q1,q2⟩
  · simp [hz0,hm,hby,hml,hroom,q]
  · by_cases q3:fr1=(1,1)
    · simp [hz0,hm,hby,hml,hroom,q1,q2,q3]
    · simp [hz0,hm,hby,hml,hroom,q3]

/-- To a full row that append has made: the old row is let go. -/
theorem append_grown {t e e0 e1:TypeId} {b1 n b off m c2 z bytes:Nat} {c d:Array Value} {fr:Nat × Nat} {zv:Value} (ht:P.underlying t=some (.slice e)) (hi:(P.info? e).map (fun i=>(i.size,i.bytes))=some (z,bytes)) (hz:zeroA P e=some zv) (hzs:zv.cells.size=z) (hz0:z ≠ 0)
    (h1:h[b1]?=some (.cells d e1 (1,1))) (hn:n ≠ 0) (he1:tsz P e1=z) (hd:n * z≤d.size)
    (hb:h[b]?=some (.cells c e0 fr)) (hc:off + m * z≤c.size) (hm:m ≠ 0) (hone:(c.extract off (off + m * z)).toList.all (·.oneCell')=true) (hby:(n + m) * bytes≤140737488355328) (hml:n + m≤maxLen) :
    appendA P h #[t,t] #[.slice (some ⟨b1,0,none⟩) n n,.slice (some ⟨b,off,none⟩) m c2] =
      some (.slice (some ⟨h.size,0,none⟩) (n + m) (n + m),(h.setIfInBounds b1 deadRow).push (.cells (d.extract 0 (n * z)++c.extract off (off + m * z)) e (1,1))):=by
  simp only [Option.map_eq_some_iff,Prod.mk.injEq] at hi
  obtain ⟨i,hi',rfl,rfl⟩:=hi
  have hl:=load_all (a:=⟨b,off,none⟩) hb rfl hc
  have hl1:=load_all (a:=⟨b1,0,none⟩) (n:=n * i.size) h1 rfl (by simpa using hd)
  simp only [Nat.zero_add] at hl1
  have hroom:¬ n + m≤n:=by omega
  have hdead:deadAt h b1=false:=by simp [deadAt,h1]
  have hse:slackElem h b1=some e1:=by simp [slackElem,h1]
  have hex:¬ (n=0∧True):=by simp [hn]
  have hk:True∧tsz P e1=i.size∧(c.extract off (off + m * i.size)).toList.all (·.oneCell')=true:=⟨trivial,he1,hone⟩
  simp only [appendA,ht,hi',hz,newsA,hl,hzs,hdead,hl1,hse]
  rw [if_neg (by simp),if_neg (by simp [hz0]),if_neg (by simp),if_neg hroom,if_pos ⟨hm,hby,hml⟩]
  rw [if_neg hex,if_pos hk]
end
end Go.AM
