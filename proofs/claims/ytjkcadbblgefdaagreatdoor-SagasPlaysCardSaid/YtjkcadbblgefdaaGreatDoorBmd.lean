/- An abstract machine for Go, part 30: what changes and what stays; slices that own what they hold. -/
import Derived.Test.YtjkcadbblgefdaaGreatDoorBmc
namespace Go.AM

/-- Only rows of O change. -/
structure Chg (O:Nat→Prop) (h h1:Heap):Prop where
  size:h.size≤h1.size
  same:∀ b r,h[b]?=some r→¬ O b→h1[b]?=some r

/-- The row that a slice leads to. -/
def blk:Value→Nat→Prop
  | .slice (some a) _ _,b=>a.block=b
  | _,_=>False

/-- A slice that owns its row, which is full. -/
def OwnAt {α:Type} (h:Heap) (e:TypeId) (f:α→Array Value) (xs:List α) (v:Value):Prop :=
  (v=.slice none 0 0∧xs=[]) ∨ (∃ b,v=.slice (some ⟨b,0,none⟩) 0 0∧xs=[]∧h[b]?=some (.cells #[] e (0,0))) ∨
    ∃ b,v=.slice (some ⟨b,0,none⟩) xs.length xs.length∧xs ≠ []∧h[b]?=some (.cells (flat f xs) e (1,1))

/-- Some cells lie in a row from a place on. -/
def CellsAt (h:Heap) (b o:Nat) (cs:Array Value):Prop:=∃ c e fr,h[b]?=some (.cells c e fr)∧o + cs.size≤c.size∧∀ j,j < cs.size→c[o + j]?=cs[j]?

section
variable {α : Type} {f : α → Array Value} {z : Nat} {P : Program} {h h1 h2 : Heap} {O O' : Nat → Prop}

theorem Chg.refl (h:Heap):Chg O h h:=⟨Nat.le_refl _,fun _ _ e _=>e⟩
theorem Chg.trans (a:Chg O h h1) (b:Chg O h1 h2):Chg O h h2:=⟨Nat.le_trans a.size b.size,fun k r e n=>b.same k r (a.same k r e n) n⟩
theorem Chg.weak (a:Chg O h h1) (w:∀ b,O b→O' b):Chg O' h h1:=⟨a.size,fun k r e n=>a.same k r e fun q=>n (w k q)⟩
theorem Chg.ext (a:Ext h h1):Chg O h h1:=⟨a.size,fun k r e _=>a k r e⟩
/-- What changes is new, or of O. -/
theorem Chg.then (a:Chg O h h1) (b:Chg O' h1 h2) (w:∀ b,O' b→O b ∨ h.size≤b):Chg O h h2:=by
  refine ⟨Nat.le_trans a.size b.size,fun k r e n=>b.same k r (a.same k r e n) fun q=>?_⟩
  rcases w k q with q | q
  · exact n q
  · exact absurd (row_lt e) (by omega)
theorem Chg.set {b:Nat} {o:Obj} (e:h1=h.setIfInBounds b o):Chg (fun k=>k=b) h h1:=by
  subst e
  refine ⟨by simp,fun k r e n=>?_⟩
  rw [Array.getElem?_setIfInBounds,if_neg (fun q=>n q.symm)]; exact e
theorem Chg.toExt (a:Chg O h h1) (w:∀ b,O b→h.size≤b):Ext h h1:=fun k r e=>a.same k r e fun q=>absurd (row_lt e) (by have:=w k q; omega)
theorem Chg.toExt' (a:Chg (fun _=>False) h h1):Ext h h1:=a.toExt fun _ q=>q.elim

theorem CellsAt.keep {b o:Nat} {cs:Array Value} (k:CellsAt h b o cs) (w:∀ q r,q=b→h[q]?=some r→h1[q]?=some r):CellsAt h1 b o cs:=by
  obtain ⟨c,e,fr,q,r⟩:=k; exact ⟨c,e,fr,w _ _ rfl q,r⟩
theorem CellsAt.cell {t:TypeId} {b o j:Nat} {cs:Array Value} {v:Value} (k:CellsAt h b o cs) (ht:isAggA P t=some false) (hv:cs[j]?=some v):loadT P h t (.pointer (some ⟨b,o + j,none⟩))=some v:=by
  obtain ⟨c,e,fr,q,r1,r2⟩:=k
  have hj:=(Array.getElem?_eq_some_iff.1 hv).1
  exact load_cell ht q ((r2 j hj).trans hv)
theorem CellsAt.agg {t:TypeId} {b o j n:Nat} {cs d:Array Value} (k:CellsAt h b o cs) (ht:isAggA P t=some true) (hi:(P.info? t).map (·.size)=some n) (hn:j + n≤cs.size) (hd:cs.extract j (j + n)=d) :
    loadT P h t (.pointer (some ⟨b,o + j,none⟩))=some (.agg d):=by
  obtain ⟨c,e,fr,q,r1,r2⟩:=k
  refine load_agg ht hi q (by omega) ?_
  subst hd
  apply Array.ext_getElem?
  intro i
  rw [Array.getElem?_extract,Array.getElem?_extract]
  by_cases hi':i < n
  · rw [if_pos (by omega),if_pos (by omega),← r2 (j + i) (by omega)]; congr 1; omega
  · rw [if_neg (by omega),if_neg (by omega)]

theorem OwnAt.keep {e:TypeId} {xs:List α} {v:Value} (k:OwnAt h e f xs v) (w:∀ b r,blk v b→h[b]?=some r→h1[b]?=some r):OwnAt h1 e f xs v:=by
  rcases k with k | ⟨b,rfl,hx,k⟩ | ⟨b,rfl,hx,k⟩
  · exact .inl k
  · exact .inr (.inl ⟨b,rfl,hx,w _ _ rfl k⟩)
  · exact .inr (.inr ⟨b,rfl,hx,w _ _ rfl k⟩)
theorem OwnAt.blk_lt {e:TypeId} {xs:List α} {v:Value} (k:OwnAt h e f xs v) {b:Nat} (hb:blk v b):b < h.size:=by
  rcases k with ⟨rfl,k⟩ | ⟨b',rfl,hx,k⟩ | ⟨b',rfl,hx,k⟩
  · exact hb.elim
  · cases hb; exact row_lt k
  · cases hb; exact row_lt k
/-- Rows of other types are not the slice's. -/
theorem OwnAt.ne {e e2:TypeId} {xs:List α} {v:Value} (k:OwnAt h e f xs v) {b b2:Nat} {c:Array Value} {fr:Nat × Nat} (hb2:h[b2]?=some (.cells c e2 fr)) (he:e ≠ e2) (hb:blk v b):b ≠ b2:=by
  rintro rfl
  rcases k with ⟨rfl,k⟩ | ⟨b',rfl,hx,k⟩ | ⟨b',rfl,hx,k⟩
  · exact hb.elim
  · cases hb; rw [hb2] at k; cases k; exact he rfl
  · cases hb; rw [hb2] at k; cases k; exact he rfl
theorem OwnAt.apart {β:Type} {g:β→Array Value} {e e2:TypeId} {xs:List α} {ys:List β} {v w:Value} (k:OwnAt h e f xs v) (k2:OwnAt h e2 g ys w) (he:e ≠ e2) {b:Nat} (hb:blk v b) (hb2:blk w b):False:=by
  rcases k2 with ⟨rfl,k2⟩ | ⟨b',rfl,hx,k2⟩ | ⟨b',rfl,hx,k2⟩
  · exact hb2.elim
  · cases hb2; exact k.ne k2 he hb rfl
  · cases hb2; exact k.ne k2 he hb rfl
theorem OwnAt.slice {e:TypeId} {xs:List α} {v:Value} (k:OwnAt h e f xs v) (hf:∀ x,(f x).size=z):SliceAt h f z xs v:=by
  rcases k with ⟨rfl,k⟩ | ⟨b',rfl,hx,k⟩ | ⟨b',rfl,hx,k⟩
  · exact .inl ⟨rfl,k⟩
  · subst hx; exact .inr ⟨b',0,0,_,_,_,rfl,⟨k,by decide,by simp,by simp,by simp [flat]⟩⟩
  · exact .inr ⟨b',0,_,_,_,_,rfl,⟨k,by decide,Nat.le_refl _,by rw [flat_size hf]; omega,by rw [Nat.zero_add,flat_all hf]⟩⟩

theorem SliceAt.keep {xs:List α} {v:Value} (k:SliceAt h f z xs v) (w:∀ b r,blk v b→h[b]?=some r→h1[b]?=some r):SliceAt h1 f z xs v:=by
  rcases k with k | ⟨b,off,cp,c,e,fr,hv,k⟩
  · exact .inl k
  · subst hv; exact .inr ⟨b,off,cp,c,e,fr,rfl,w _ _ rfl k.row,k.live,k.len,k.fits,k.cells⟩
theorem SliceAt.blk_lt {xs:List α} {v:Value} (k:SliceAt h f z xs v) {b:Nat} (hb:blk v b):b < h.size:=by
  rcases k with ⟨rfl,k⟩ | ⟨b',off,cp,c,e,fr,rfl,k⟩
  · exact hb.elim
  · cases hb; exact row_lt k.row

/-- An element of a list that a slice holds. -/
theorem SliceAt.at (hf:∀ x,(f x).size=z) {xs:List α} {v:Value} (k:SliceAt h f z xs v) {i:Nat} {x:α} (hx:xs[i]?=some x) :
    ∃ b o,CellsAt h b o (f x)∧blk v b∧∀ {P:Program} {t e:TypeId} {kd:IntKind} {j:Int},P.underlying t=some (.slice e)→(P.info? e).map (·.size)=some z→j=(i:Int)→indexAddrA P t v (.int kd j)=some (.pointer (some ⟨b,o,none⟩)):=by
  have hlt:i < xs.length:=(List.getElem?_eq_some_iff.1 hx).1
  rcases k with ⟨rfl,rfl⟩ | ⟨b,off,cp,c,e,fr,rfl,k⟩
  · simp at hx
  · refine ⟨b,off + i * z,⟨c,e,fr,k.row,?_,fun j hj=>?_⟩,rfl,fun {P t e2 kd j} ht hi hj=>?_⟩
    · rw [hf]; exact (k.elem hf hx).1
    · rw [hf] at hj; rw [← k.get hf hx hj]; congr 1; omega
    · subst hj
      rw [index_addr ht hi (by omega) (by omega),addr_add _ rfl]
      simp

/-- A list's element that the slice owns is turned. -/
theorem OwnAt.store (hf:∀ x,(f x).size=z) {e:TypeId} {xs:List α} {v:Value} (k:OwnAt h e f xs v) {i:Nat} {x:α} (hx:xs[i]?=some x) :
    ∃ b o,blk v b∧(∀ {P:Program} {t e:TypeId} {kd:IntKind} {j:Int},P.underlying t=some (.slice e)→(P.info? e).map (·.size)=some z→j=(i:Int)→indexAddrA P t v (.int kd j)=some (.pointer (some ⟨b,o,none⟩))) ∧
      (CellsAt h b o (f x))∧∀ {P:Program} {t:TypeId} {n j:Nat} {y:α} {u:Value},(P.info? t).map (·.size)=some n→u.cells.size=n→u.cells.toList.all (·.oneCell')=true→j + n≤z→splice (f x) j u.cells.toList=f y →
        ∃ h1,storeT P h t (.pointer (some ⟨b,o + j,none⟩)) u=some h1∧OwnAt h1 e f (xs.set i y) v∧Chg (fun q=>q=b) h h1∧h1.size=h.size:=by
  have hlt:i < xs.length:=(List.getElem?_eq_some_iff.1 hx).1
  rcases k with ⟨rfl,rfl⟩ | ⟨b,rfl,rfl,k⟩ | ⟨b,rfl,hne,k⟩
  · simp at hx
  · simp at hx
  · have hsz:=flat_size hf xs
    have hle:i * z + z≤xs.length * z:=by
      have:=Nat.mul_le_mul_right z (show i + 1≤xs.length from hlt)
      rw [Nat.succ_mul] at this; exact this
    refine ⟨b,i * z,rfl,fun {P t e2 kd j} ht hi hj=>?_,⟨_,_,_,k,by rw [hf,hsz]; omega,fun j hj=>?_⟩,fun {P t n j y u} hi hu ho hj hs=>?_⟩
    · subst hj
      rw [index_addr ht hi (by omega) (by omega),addr_add _ rfl]
      simp
    · rw [hf] at hj; exact flat_get hf xs i j x hx hj
    · have hul:u.cells.toList.length=n:=by simpa using hu
      refine ⟨_,store_cells hi hu k (by decide) (by omega) ho (flat_splice hf hx (by omega) hs),.inr (.inr ⟨b,by simp,by simpa using hne,set_same rfl k⟩),Chg.set rfl,by simp⟩

theorem tsz_of {e:TypeId} {z:Nat} (hi:(P.info? e).map (·.size)=some z):tsz P e=z:=by simp [tsz,hi]
theorem info_size {e:TypeId} {z bytes:Nat} (hi:(P.info? e).map (fun i=>(i.size,i.bytes))=some (z,bytes)):(P.info? e).map (·.size)=some z:=by
  simp only [Option.map_eq_some_iff,Prod.mk.injEq] at hi ⊢
  obtain ⟨i,hi',rfl,rfl⟩:=hi
  exact ⟨i,hi',rfl⟩

/-- An element is appended to a slice that owns its row. -/
theorem own_append {t e:TypeId} {bytes:Nat} {zv:Value} (ht:P.underlying t=some (.slice e)) (hi:(P.info? e).map (fun i=>(i.size,i.bytes))=some (z,bytes)) (hz:zeroA P e=some zv) (hzs:zv.cells.size=z) (hz0:z ≠ 0) (hf:∀ x,(f x).size=z)
    {xs:List α} {v:Value} {x:α} {b2:Nat} {e2:TypeId} {fr2:Nat × Nat} (k:OwnAt h e f xs v) (hb2:h[b2]?=some (.cells (f x) e2 fr2)) (hone:(f x).toList.all (·.oneCell')=true) (hby:(xs.length + 1) * bytes≤140737488355328) (hml:xs.length + 1≤maxLen) :
    ∃ v1 h1,appendA P h #[t,t] #[v,.slice (some ⟨b2,0,none⟩) 1 1]=some (v1,h1)∧OwnAt h1 e f (xs++[x]) v1∧Chg (blk v) h h1∧(∀ b,blk v1 b→b=h.size)∧h1.size=h.size + 1:=by
  have hx0:(f x).extract 0 (0 + 1 * z)=f x:=by have:=hf x; simp [← this]
  rcases k with ⟨rfl,rfl⟩ | ⟨b,rfl,rfl,k⟩ | ⟨b,rfl,hne,k⟩
  · refine ⟨_,_,append_nil ht hi hz hzs hz0 hb2 (by rw [hf]; omega) (by omega) (by simpa using hby) (by simpa using hml),.inr (.inr ⟨h.size,by simp,by simp,?_⟩),Chg.ext (Ext.push _ _),fun b hb=>?_,by simp⟩
    · rw [hx0]; simp [flat]
    · simpa [blk] using hb.symm
  · refine ⟨_,_,append_full (a1:=⟨b,0,none⟩) ht hi hz hzs hz0 k rfl (by decide) (.inl (by decide)) (by simp) (by omega) hb2 (by rw [hf]; omega) (by omega) (by simpa using hby) (by simpa using hml),.inr (.inr ⟨h.size,by simp,by simp,?_⟩),Chg.ext (Ext.push _ _),fun b hb=>?_,by simp⟩
    · rw [hx0]; simp [flat]
    · simpa [blk] using hb.symm
  · have hn:xs.length ≠ 0:=fun q=>hne (List.eq_nil_of_length_eq_zero q)
    refine ⟨_,_,append_grown ht hi hz hzs hz0 k hn (tsz_of (info_size hi)) (by rw [flat_size hf]; omega) hb2 (by rw [hf]; omega) (by omega) (by rw [hx0]; exact hone) hby hml,.inr (.inr ⟨h.size,by simp,by simp,?_⟩),?_,fun b hb=>?_,by simp⟩
    · rw [hx0,flat_all hf]
      have:=push_new (h:=h.setIfInBounds b deadRow) (o:=.cells (flat f xs++f x) e (1,1)) rfl
      rw [flat_append,flat_one]
      simpa using this
    · refine ⟨by simp,fun q r hq hn=>?_⟩
      have hqb:b ≠ q:=fun e=>hn e
      exact push_old rfl (set_other rfl hq hqb)
    · simpa [blk] using hb.symm

/-- A list is copied into new memory: an empty slice of a row, to which a list is appended. -/
theorem own_clone {t e:TypeId} {bytes:Nat} {zv:Value} (ht:P.underlying t=some (.slice e)) (hi:(P.info? e).map (fun i=>(i.size,i.bytes))=some (z,bytes)) (hz:zeroA P e=some zv) (hzs:zv.cells.size=z) (hz0:z ≠ 0) (hf:∀ x,(f x).size=z)
    {ys:List α} {w:Value} {b0:Nat} (hb0:h[b0]?=some (.cells #[] e (0,0))) (k:SliceAt h f z ys w) (hby:ys.length * bytes≤140737488355328) (hml:ys.length≤maxLen) :
    ∃ v1 h1,appendA P h #[t,t] #[.slice (some ⟨b0,0,none⟩) 0 0,w]=some (v1,h1)∧OwnAt h1 e f ys v1∧Ext h h1∧(∀ b,blk v1 b→b=b0 ∨ b=h.size):=by
  have hnone:ys=[]→w=.slice none 0 0→appendA P h #[t,t] #[.slice (some ⟨b0,0,none⟩) 0 0,w]=some (.slice (some ⟨b0,0,none⟩) 0 0,h):=by
    rintro rfl rfl
    exact append_none ht (info_size hi) hz hzs hz0 rfl hb0 (by decide) (Nat.le_refl _) (by simp) (by decide)
  rcases k with ⟨rfl,rfl⟩ | ⟨b,off,cp,c,e2,fr,rfl,k⟩
  · exact ⟨_,_,hnone rfl rfl,.inr (.inl ⟨b0,rfl,rfl,hb0⟩),Ext.refl h,fun b hb=>.inl hb.symm⟩
  · have hfit:=k.fits
    by_cases h0:ys.length=0
    · have he:ys=[]:=List.eq_nil_of_length_eq_zero h0
      subst he
      exact ⟨_,_,append_empty ht (info_size hi) hz hzs hz0 hb0 (by decide) (Nat.le_refl 0) (by simp) (by decide) k.row (by simpa using hfit),.inr (.inl ⟨b0,rfl,rfl,hb0⟩),Ext.refl h,fun b hb=>.inl hb.symm⟩
    · refine ⟨_,_,append_full (a1:=⟨b0,0,none⟩) ht hi hz hzs hz0 hb0 rfl (by decide) (.inl (by decide)) (by simp) (by omega) k.row hfit h0 (by simpa using hby) (by omega),.inr (.inr ⟨h.size,by simp,fun q=>h0 (by simp [q]),?_⟩),Ext.push _ _,fun b hb=>.inr ?_⟩
      · have:=k.cells
        simp only [Nat.zero_mul,Nat.add_zero]
        rw [this]
        simp
      · simpa [blk] using hb.symm
end
end Go.AM
