/- An abstract machine for Go, part 40: parts of a list that a slice owns; a list behind a list. -/
import Derived.Test.YtjkcadbblgefdaaGreatDoorBml
namespace Go.AM

section
variable {α : Type} {f : α → Array Value} {z : Nat} {P : Program} {h : Heap}
theorem flat_take' (hf:∀ x,(f x).size=z) (xs:List α) {n:Nat} (hn:n≤xs.length):(flat f xs).extract 0 (n * z)=flat f (xs.take n):=by
  have e:flat f xs=flat f (xs.take n)++flat f (xs.drop n):=by rw [← flat_append,List.take_append_drop]
  have hs:(flat f (xs.take n)).size=n * z:=by rw [flat_size hf,List.length_take,Nat.min_eq_left hn]
  rw [e,← hs]
  simp
theorem flat_drop (hf:∀ x,(f x).size=z) (xs:List α) {n:Nat} (hn:n≤xs.length):(flat f xs).extract (n * z) (xs.length * z)=flat f (xs.drop n):=by
  have e:flat f xs=flat f (xs.take n)++flat f (xs.drop n):=by rw [← flat_append,List.take_append_drop]
  have hs:(flat f (xs.take n)).size=n * z:=by rw [flat_size hf,List.length_take,Nat.min_eq_left hn]
  have ht:(flat f xs).size=xs.length * z:=flat_size hf xs
  rw [← ht,← hs]
  conv=>lhs; rw [e]
  simp
/-- The address of what lies behind some cells. -/
def suf (a:Option Addr) (k:Nat):Option Addr:=a.map fun x=>x.add k
theorem own_pre (hf:∀ x,(f x).size=z) {t e:TypeId} (ht:P.underlying t=some (.slice e)) (hi:(P.info? e).map (·.size)=some z) (hz0:z ≠ 0) {xs:List α} {a:Option Addr} {c:Nat} (k:OwnAt h e f xs (.slice a xs.length c)) {kd:IntKind} {n:Int} (h0:0≤n) (hn:n≤xs.length) :
    sliceA P h t (.slice a xs.length c) none (some (.int kd n)) none=some (.slice a (xs.take n.toNat).length c)∧SliceAt h f z (xs.take n.toNat) (.slice a (xs.take n.toNat).length c):=by
  obtain ⟨i,hi',rfl⟩:=info_of hi
  have hl:(xs.take n.toNat).length=n.toNat:=by rw [List.length_take]; omega
  rcases k with ⟨e1,rfl⟩ | ⟨b,e1,rfl,hr⟩ | ⟨b,e1,hne,hr⟩
  · cases e1
    have hn0:n=0:=by simp at hn; omega
    subst hn0
    exact ⟨by simp [sliceA,ht,hi',boundsA,bndA],.inl ⟨rfl,rfl⟩⟩
  · cases e1
    have hn0:n=0:=by simp at hn; omega
    subst hn0
    have hd:deadAt h b=false:=by simp [deadAt,hr]
    have hs:slackElem h b=none:=by simp [slackElem,hr]
    refine ⟨?_,.inr ⟨b,0,0,#[],e,(0,0),rfl,hr,by decide,Nat.le_refl _,by simp,by simp [flat]⟩⟩
    simp [sliceA,ht,hi',hd,hs,boundsA,bndA,hz0]
  · cases e1
    have hd:deadAt h b=false:=by simp [deadAt,hr]
    have hs:slackElem h b=some e:=by simp [slackElem,hr]
    have ha:(⟨b,0,none⟩:Addr).add 0=⟨b,0,none⟩:=by rw [addr_add _ rfl]
    have hb1:boundsA xs.length xs.length none (some (.int kd n)) none=some (0,n.toNat,xs.length):=by
      have:0≤n∧n≤(xs.length:Int):=by omega
      simp [boundsA,bndA,this]
    refine ⟨?_,.inr ⟨b,0,xs.length,_,e,(1,1),rfl,hr,by decide,by omega,?_,?_⟩⟩
    · simp only [sliceA,ht,hi',hd,hs,hb1]
      rw [if_neg (by simp [hz0]),if_pos (tsz_of hi)]
      simp only [hl,Nat.sub_zero,Nat.zero_mul,ha]
    · rw [flat_size hf,hl]; have:=Nat.mul_le_mul_right i.size (show n.toNat≤xs.length by omega); omega
    · rw [hl,Nat.zero_add]; exact flat_take' hf xs (by omega)
theorem own_suf (hf:∀ x,(f x).size=z) {t e:TypeId} (ht:P.underlying t=some (.slice e)) (hi:(P.info? e).map (·.size)=some z) (hz0:z ≠ 0) {xs:List α} {a:Option Addr} {c:Nat} (k:OwnAt h e f xs (.slice a xs.length c)) {kd:IntKind} {n:Int} (h0:0≤n) (hn:n≤xs.length) :
    sliceA P h t (.slice a xs.length c) (some (.int kd n)) none none=some (.slice (suf a (n.toNat * z)) (xs.drop n.toNat).length (c - n.toNat))∧SliceAt h f z (xs.drop n.toNat) (.slice (suf a (n.toNat * z)) (xs.drop n.toNat).length (c - n.toNat)):=by
  obtain ⟨i,hi',rfl⟩:=info_of hi
  have hl:(xs.drop n.toNat).length=xs.length - n.toNat:=List.length_drop ..
  rcases k with ⟨e1,rfl⟩ | ⟨b,e1,rfl,hr⟩ | ⟨b,e1,hne,hr⟩
  · cases e1
    have hn0:n=0:=by simp at hn; omega
    subst hn0
    exact ⟨by simp [sliceA,ht,hi',boundsA,bndA,suf],.inl ⟨rfl,rfl⟩⟩
  · cases e1
    have hn0:n=0:=by simp at hn; omega
    subst hn0
    have hd:deadAt h b=false:=by simp [deadAt,hr]
    have hs:slackElem h b=none:=by simp [slackElem,hr]
    have ha:(⟨b,0,none⟩:Addr).add 0=⟨b,0,none⟩:=by rw [addr_add _ rfl]
    refine ⟨?_,.inr ⟨b,0,0,#[],e,(0,0),by simp [suf,ha],hr,by decide,Nat.le_refl _,by simp,by simp [flat]⟩⟩
    simp [sliceA,ht,hi',hd,hs,boundsA,bndA,hz0,suf,ha]
  · cases e1
    have hd:deadAt h b=false:=by simp [deadAt,hr]
    have hs:slackElem h b=some e:=by simp [slackElem,hr]
    have ha:(⟨b,0,none⟩:Addr).add (n.toNat * i.size)=⟨b,n.toNat * i.size,none⟩:=by rw [addr_add _ rfl]; simp
    have hb1:boundsA xs.length xs.length (some (.int kd n)) none none=some (n.toNat,xs.length,xs.length):=by
      have:0≤n∧n≤(xs.length:Int):=by omega
      simp [boundsA,bndA,this]
    have hm:n.toNat * i.size + (xs.drop n.toNat).length * i.size=xs.length * i.size:=by rw [hl,← Nat.add_mul]; congr 1; omega
    refine ⟨?_,.inr ⟨b,n.toNat * i.size,xs.length - n.toNat,_,e,(1,1),by simp [suf,ha],hr,by decide,by omega,?_,?_⟩⟩
    · simp only [sliceA,ht,hi',hd,hs,hb1]
      rw [if_neg (by simp [hz0]),if_pos (tsz_of hi)]
      simp only [hl,suf,Option.map_some]
    · rw [flat_size hf,hm]; exact Nat.le_refl _
    · rw [hm]; exact flat_drop hf xs (by omega)
end
theorem flat_one_all {α:Type} {f:α→Array Value} (hone:∀ x,(f x).toList.all (·.oneCell')=true):∀ xs:List α,(flat f xs).toList.all (·.oneCell')=true
  | []=>by simp [flat]
  | x :: r=>by
    have e:flat f (x :: r)=f x++flat f r:=by
      have:=flat_append (f:=f) [x] r
      rw [flat_one] at this; simpa using this
    rw [e,Array.toList_append,List.all_append,hone x,flat_one_all hone r]; rfl
/-- A list is added to a list of one's own. -/
theorem own_append_many {α:Type} {f:α→Array Value} {z:Nat} {P:Program} {h:Heap} {t e:TypeId} {bytes:Nat} {zv:Value} (ht:P.underlying t=some (.slice e)) (hi:(P.info? e).map (fun i=>(i.size,i.bytes))=some (z,bytes)) (hz:zeroA P e=some zv) (hzs:zv.cells.size=z) (hz0:z ≠ 0) (hf:∀ x,(f x).size=z) (hone:∀ x,(f x).toList.all (·.oneCell')=true)
    {xs ys:List α} {v w:Value} (k:OwnAt h e f xs v) (ky:SliceAt h f z ys w) (hby:(xs.length + ys.length) * bytes≤140737488355328) (hml:xs.length + ys.length≤maxLen) :
    ∃ v1 h1,appendA P h #[t,t] #[v,w]=some (v1,h1)∧OwnAt h1 e f (xs++ys) v1∧Chg (blk v) h h1∧(∀ b,blk v1 b→blk v b ∨ h.size≤b):=by
  by_cases h0:ys=[]
  · subst h0
    rw [List.append_nil]
    refine ⟨v,h,?_,k,Chg.refl h,fun b hb=>.inl hb⟩
    rcases ky with ⟨rfl,_⟩ | ⟨b2,off2,cp2,c2,e2,fr2,rfl,ky⟩
    · rcases k with ⟨rfl,rfl⟩ | ⟨b,rfl,rfl,k⟩ | ⟨b,rfl,hne,k⟩
      · obtain ⟨i,hi',rfl⟩:=info_of (info_size hi)
        simp only [appendA,ht,hi',hz,newsA,hzs]
        simp [hz0]
      · exact append_none ht (info_size hi) hz hzs hz0 rfl k (by decide) (Nat.le_refl _) (by simp) (by decide)
      · exact append_none ht (info_size hi) hz hzs hz0 rfl k (by decide) (Nat.le_refl _) (by rw [flat_size hf]; omega) (by decide)
    · have hc2:=ky.fits
      simp only [List.length_nil,Nat.zero_mul,Nat.add_zero] at hc2
      rcases k with ⟨rfl,rfl⟩ | ⟨b,rfl,rfl,k⟩ | ⟨b,rfl,hne,k⟩
      · obtain ⟨i,hi',rfl⟩:=info_of (info_size hi)
        have hl:=load_all (a:=⟨b2,off2,none⟩) (n:=0 * i.size) ky.row rfl (by simpa using hc2)
        simp only [appendA,ht,hi',hz,newsA,hzs,List.length_nil,hl]
        simp [hz0]
      · exact append_empty ht (info_size hi) hz hzs hz0 k (by decide) (Nat.le_refl _) (by simp) (by decide) ky.row hc2
      · exact append_empty ht (info_size hi) hz hzs hz0 k (by decide) (Nat.le_refl _) (by rw [flat_size hf]; omega) (by decide) ky.row hc2
  · have hn:ys.length ≠ 0:=fun q=>h0 (List.eq_nil_of_length_eq_zero q)
    rcases ky with ⟨_,e0⟩ | ⟨b2,off2,cp2,c2,e2,fr2,rfl,ky⟩
    · exact absurd e0 h0
    have hfit:=ky.fits
    have hcl:=ky.cells
    rcases k with ⟨rfl,rfl⟩ | ⟨b,rfl,rfl,k⟩ | ⟨b,rfl,hne,k⟩
    · refine ⟨_,_,append_nil ht hi hz hzs hz0 ky.row hfit hn (by simpa using hby) (by simpa using hml),.inr (.inr ⟨h.size,by simp,by simpa using h0,?_⟩),Chg.ext (Ext.push _ _),fun b hb=>.inr (have q:h.size=b:=(by simpa [blk] using hb); by omega)⟩
      rw [hcl]; simp
    · refine ⟨_,_,append_full (a1:=⟨b,0,none⟩) ht hi hz hzs hz0 k rfl (by decide) (.inl (by decide)) (by simp) (by omega) ky.row hfit hn (by simpa using hby) (by simpa using hml),.inr (.inr ⟨h.size,by simp,by simpa using h0,?_⟩),Chg.ext (Ext.push _ _),fun b hb=>.inr (have q:h.size=b:=(by simpa [blk] using hb); by omega)⟩
      rw [hcl]; simp
    · have hxn:xs.length ≠ 0:=fun q=>hne (List.eq_nil_of_length_eq_zero q)
      refine ⟨_,_,append_grown ht hi hz hzs hz0 k hxn (tsz_of (info_size hi)) (by rw [flat_size hf]; omega) ky.row hfit hn (by rw [hcl]; exact flat_one_all hone ys) hby hml,.inr (.inr ⟨h.size,by simp,by simp [h0],?_⟩),?_,fun b hb=>.inr (have q:h.size=b:=(by simpa [blk] using hb); by omega)⟩
      · rw [hcl,flat_all hf]
        have:=push_new (h:=h.setIfInBounds b deadRow) (o:=.cells (flat f xs++flat f ys) e (1,1)) rfl
        rw [flat_append]
        simpa using this
      · refine ⟨by simp,fun q r hq hn=>?_⟩
        have hqb:b ≠ q:=fun e=>hn e
        exact push_old rfl (set_other rfl hq hqb)
end Go.AM
