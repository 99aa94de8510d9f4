/- Definitions. -/
import Derived.Test.YtjkcadbblgefdaaGreatDoorKc
import Derived.Test.YtjkcadbblgefdaaGreatDoorBmh
import Derived.KernelRfl
open Go Go.AM Go.Proofs
namespace C29
theorem agg2:isAggA Tryz.prog 2=some false:=by kernel_rfl
theorem agg3:isAggA Tryz.prog 3=some false:=by kernel_rfl
theorem agg9:isAggA Tryz.prog 9=some false:=by kernel_rfl
theorem agg29:isAggA Tryz.prog 29=some false:=by kernel_rfl
theorem agg67:isAggA Tryz.prog 67=some true:=by kernel_rfl
theorem size67:(Tryz.prog.info? 67).map (·.size)=some 2:=by kernel_rfl
theorem und29:Tryz.prog.underlying 29=some (.slice 67):=by kernel_rfl
/-- A step of a definition. -/
structure StepM where
 key:ByteArray
 delta:Int
def stepc (x:StepM):Array Value:=#[.string x.key,.int .i64 x.delta]
theorem stepc_size (x:StepM):(stepc x).size=2:=rfl
/-- A definition. -/
structure DefM where
 name:ByteArray
 rt:Int
 dl:Int
 xs:List StepM
def stepB (x:StepM):Bool:=nameB x.key && decide (¬ x.delta=0 ∧ -1152921504606846976≤x.delta∧x.delta≤1152921504606846976)
def goodAt (xs:List StepM) (k:Nat):Bool:=match xs[k]? with | some x=>stepB x && !((xs.take k).any fun y=>decide (y.key=x.key)) | none=>true
def goodS (xs:List StepM) (n:Nat):Bool:=(List.range n).all fun k=>goodAt xs k
def defB (d:DefM):Bool:=nameB d.name && decide (0≤d.rt∧d.rt≤20∧0≤d.dl∧d.dl≤100000∧1≤d.xs.length∧d.xs.length≤8) && goodS d.xs d.xs.length
theorem goodS_succ (xs:List StepM) (n:Nat):goodS xs (n + 1)=(goodS xs n && goodAt xs n):=by simp [goodS,List.range_succ,List.all_append]
theorem goodS_not {xs:List StepM} {k n:Nat} (hk:k < n) (h:goodAt xs k=false):goodS xs n=false:=by
 apply Bool.eq_false_iff.2
 intro w
 have:=List.all_eq_true.1 w k (List.mem_range.2 hk)
 rw [h] at this; cases this
theorem goodAt_some {xs:List StepM} {k:Nat} {x:StepM} (hx:xs[k]?=some x):goodAt xs k=(stepB x && !((xs.take k).any fun y=>decide (y.key=x.key))):=by simp only [goodAt,hx]
/-- A list whose row's hidden room, if there is any, is of its own kind. -/
def LAt {α:Type} (h:Heap) (f:α→Array Value) (z:Nat) (xs:List α) (v:Value):Prop:=SliceAt h f z xs v∧∀ b,blk v b→∀ e0,slackElem h b=some e0→tsz Tryz.prog e0=z
section
variable {α : Type} {h h1 : Heap} {f : α → Array Value} {z : Nat} {xs : List α} {v : Value}
theorem LAt.keep (k:LAt h f z xs v) (w:∀ b r,blk v b→h[b]?=some r→h1[b]?=some r):LAt h1 f z xs v:=by
 refine ⟨k.1.keep w,fun b hb=>?_⟩
 have hl:=k.1.blk_lt hb
 have e:=w b _ hb (Array.getElem?_eq_getElem hl)
 have:=k.2 b hb
 unfold slackElem at this ⊢
 rw [e]; rw [Array.getElem?_eq_getElem hl] at this; exact this
theorem LAt.slice (k:LAt h f z xs v) (_:∀ x,(f x).size=z):SliceAt h f z xs v:=k.1
theorem LAt.blk_lt (k:LAt h f z xs v) {b:Nat} (hb:blk v b):b < h.size:=k.1.blk_lt hb
theorem LAt.pl (k:LAt h f z xs v) (b:Nat) (hb:blk v b) (e0:TypeId) (h0:slackElem h b=some e0):tsz Tryz.prog e0=z:=k.2 b hb e0 h0
theorem lat_of (k:SliceAt h f z xs v) (w:∀ b,blk v b→slackElem h b=none):LAt h f z xs v:=⟨k,fun b hb e0 h0=>by rw [w b hb] at h0; cases h0⟩
/-- What we have made ourselves. -/
theorem OwnAt.lat {e:TypeId} (k:OwnAt h e f xs v) (hf:∀ x,(f x).size=z) (ht:tsz Tryz.prog e=z):LAt h f z xs v:=by
 refine ⟨k.slice hf,fun b hb e0 h0=>?_⟩
 have he:e0=e:=by
  rcases k with ⟨rfl,k⟩ | ⟨b',rfl,hx,k⟩ | ⟨b',rfl,hx,k⟩
  ·exact hb.elim
  ·cases hb; simp only [slackElem,k] at h0; split at h0 <;> simp_all
  ·cases hb; simp only [slackElem,k] at h0; split at h0 <;> simp_all
 rw [he]; exact ht
end
set_option maxHeartbeats 4000000 in
theorem in_ok (h:Heap) (a b:Int):WCall Tryz.prog 86 #[(vI (a)),(vI (b))] h (fun v h1=>v=.bool (decide ((0:Int)≤a∧(a:Int)≤b))∧h=h1):=by
 by_cases c1:(0:Int)≤(a)
 ·by_cases c2:((a):Int)≤(b)
  ·exact hCall_ev [geT 1 1 3 c1,leT 1 5 3 c2] [] (vB true) h ⟨by rw [decide_eq_true (by omega)],rfl⟩
  ·exact hCall_ev [geT 1 1 3 c1,leF 1 5 3 c2] [] (vB false) h ⟨by rw [decide_eq_false (by omega)],rfl⟩
 ·exact hCall_ev [geF 1 1 3 c1] [] (vB false) h ⟨by rw [decide_eq_false (by omega)],rfl⟩
def numE (a:Int):Int:=if a < -1152921504606846976 ∨ 1152921504606846976 < a then 7 else 0
set_option maxHeartbeats 4000000 in
theorem num_ok (h:Heap) (a:Int):WCall Tryz.prog 89 #[(vI (a))] h (fun v h1=>v=.int .i64 (numE a)∧h=h1):=by
 by_cases c1:((a):Int) < (-1152921504606846976)
 ·exact hCall_ev [ltT 1 1 2 c1] [] (vI 7) h ⟨by unfold numE; rw [if_pos (by omega)],rfl⟩
 ·by_cases c2:(1152921504606846976:Int) < (a)
  ·exact hCall_ev [ltF 1 1 2 c1,gtT 1 4 2 c2] [] (vI 7) h ⟨by unfold numE; rw [if_pos (by omega)],rfl⟩
  ·exact hCall_ev [ltF 1 1 2 c1,gtF 1 4 2 c2] [] (vI 0) h ⟨by unfold numE; rw [if_neg (by omega)],rfl⟩
set_option maxHeartbeats 4000000 in
theorem samekey_ok (h:Heap) (x:StepM) {b:Nat} (y:StepM) (hb:h[b]?=some (.cells (stepc y) 67 (0,0))):WCall Tryz.prog 88 #[(Value.agg #[(vS x.key),(vI (x.delta))]),(vP b 0)] h (fun v h1=>v=.bool (decide (x.key=y.key))∧Ext h h1):=by
 obtain ⟨b1,eb2⟩:∃ zq,zq=h.size:=⟨_,rfl⟩
 obtain ⟨h3,e4⟩:∃ zq,zq=h.push (.cells #[(vS x.key),(vI (x.delta))] 67 (0,0)):=⟨_,rfl⟩
 have f5:=push_new e4
 rw [← eb2] at f5
 have x6:Ext h h3:=by rw [e4]; exact Ext.push _ _
 have o7:h.size≤b1:=by have:=(Ext.refl h).size; omega
 have f9:=x6 _ _ hb
 have x10:=(Ext.refl h).trans x6
 by_cases c11:(x.key:ByteArray)=y.key
 ·exact hCall_ev [evA 0 0 eb2 e4,evC 1 1 0 agg9 f5,evC 1 3 0 agg9 f9,seT 1 4 9 c11] [] (vB true) h3 ⟨by rw [decide_eq_true c11],x10⟩
 ·exact hCall_ev [evA 0 0 eb2 e4,evC 1 1 0 agg9 f5,evC 1 3 0 agg9 f9,seF 1 4 9 c11] [] (vB false) h3 ⟨by rw [decide_eq_false c11],x10⟩
set_option maxHeartbeats 4000000 in
theorem ixf_key (h:Heap) {b:Nat} (y:StepM) (hb:h[b]?=some (.cells (stepc y) 67 (0,0))) (xs:List StepM) (sa:Option Addr) (cp:Nat) (hl:SliceAt h stepc 2 xs (.slice sa xs.length cp)) (hlen:xs.length≤9223372036854775807):WCall Tryz.prog 122 #[(Value.slice sa (xs.length) (cp)),(Value.func (.func 88) #[] #[(vP b 0)])] h (fun v h1=>∃ i,v=.int .i64 i∧(0≤i ↔ (xs.any fun x=>decide (x.key=y.key))=true)∧Ext h h1):=by
 refine wcall_by fun K hK=>?_
 refine wcall_at { tmps:=#[(vL sa xs.length cp),(Value.func (.func 88) #[] #[(vP b 0)]),vZ,vZ,vZ,vZ,vZ,vZ,vZ,vZ,vZ,vZ,vZ,vZ,vZ,vZ,vZ,vZ,vZ],defers:=[] } (by kernel_rfl) ?_
 refine wc_seq' (subc (bodyOf Tryz.prog 122) [0]) (subc (bodyOf Tryz.prog 122) [1]) (by kernel_rfl) ?_
 refine wc_ev [] .normal h [(4,(vI 0))] ?_
 refine wc_seq' (subc (bodyOf Tryz.prog 122) [1,0]) (subc (bodyOf Tryz.prog 122) [1,1]) (by kernel_rfl) ?_
 refine wc_seq' (subc (bodyOf Tryz.prog 122) [1,0,0]) (subc (bodyOf Tryz.prog 122) [1,0,1]) (by kernel_rfl) ?_
 refine wc_ev [] .normal h [(6,(vL sa xs.length cp)),(7,(vI ((xs.length:Nat)))),(8,(vI 0))] ?_
 refine wc_block' 0 (subc (bodyOf Tryz.prog 122) [1,0,1,0]) (by kernel_rfl) ?_
 refine wc_loop' (subc (bodyOf Tryz.prog 122) [1,0,1,0,0]) (by kernel_rfl) (fun n' a' h'=>∃ (k:Int) (g0:Nat→Value),a'={ tmps:=#[(vL sa xs.length cp),(Value.func (.func 88) #[] #[(vP b 0)]),vZ,vZ,(g0 4),(g0 5),(vL sa xs.length cp),(vI ((xs.length:Nat))),(vI k),(g0 9),(g0 10),(g0 11),(g0 12),(g0 13),(g0 14),(g0 15),(g0 16),(g0 17),(g0 18)],defers:=[] }∧Ext h h'∧n'=xs.length - k.toNat∧h'[b]?=some (.cells #[(vS y.key),(vI y.delta)] 67 (0,0))∧(0≤k∧k≤xs.length)∧((xs.take k.toNat).any fun x=>decide (x.key=y.key))=false) ?_ (xs.length - (0:Int).toNat) ⟨0,(fun i=>([vU,vU,vU,vU,(vI 0),vZ,vU,vU,vU,vZ,vZ,vZ,vZ,vZ,vZ,vZ,vZ,vZ,vZ]:List Value).getD i undef),by as_aux_lemma=>kernel_rfl,(Ext.refl h),rfl,hb,by omega,rfl⟩
 rintro n' _ h2 ⟨k,g0,rfl,x3,m4,f5,i6,i7⟩
 by_cases c8:((k):Int) < ((xs.length:Nat))
 ·obtain ⟨i9,v10,e11,l12,g13⟩:=list_at xs (e:=(k)) (by omega) (by first | omega | (simp only [List.length_set,List.length_append,List.length_singleton]; omega))
  obtain ⟨b14,o15,k16,q17,a18⟩:=hl.at stepc_size g13
  obtain ⟨_,hh19,sn20,rfl,x21⟩:=samekey_ok h2 v10 y f5
  have f22:=x21 _ _ f5
  have x23:=x3.trans x21
  rcases Bool.eq_false_or_eq_true ((decide (v10.key=y.key))) with c24 | c24
  ·refine wc_ev [ltT 2 0 3 c8,evV 4 3 (vP b14 o15) (show indexAddrA Tryz.prog 29 (vL sa xs.length cp) (vI k)=some (vP b14 o15) from a18 und29 size67 e11),evV 4 4 (vA #[(vS v10.key),(vI v10.delta)]) (show loadT Tryz.prog h2 67 (vP b14 o15)=some (vA #[(vS v10.key),(vI v10.delta)]) from (k16.keep fun b r _ q=>x3 b r q).agg (j:=0) agg67 size67 (show 0 + 2≤2 by decide) (by kernel_rfl)),evFb 4 5 c24 sn20] .ret hh19 [(9,(vB true)),(10,(vI k)),(5,(vI k)),(11,(Value.func (.func 88) #[] #[(vP b 0)])),(12,(vL sa xs.length cp)),(13,(vI k)),(14,(vP b14 o15)),(15,(vA #[(vS v10.key),(vI v10.delta)])),(16,(vB true)),(17,(vI k)),(4,(vI k))] ?_
   exact end_ev [] (vI k) (hK _ _ (⟨_,rfl,⟨fun _=>List.any_eq_true.2 ⟨_,List.mem_of_getElem? g13,c24⟩,fun _=>by omega⟩,x23⟩))
  ·refine wc_ev [ltT 2 0 3 c8,evV 4 3 (vP b14 o15) (show indexAddrA Tryz.prog 29 (vL sa xs.length cp) (vI k)=some (vP b14 o15) from a18 und29 size67 e11),evV 4 4 (vA #[(vS v10.key),(vI v10.delta)]) (show loadT Tryz.prog h2 67 (vP b14 o15)=some (vA #[(vS v10.key),(vI v10.delta)]) from (k16.keep fun b r _ q=>x3 b r q).agg (j:=0) agg67 size67 (show 0 + 2≤2 by decide) (by kernel_rfl)),evFb 4 5 c24 sn20,evV 6 0 (vI ((k) + 1)) (show binA Tryz.prog .add 3 (vI k) (vI 1)=some (vI ((k) + 1)) from add_i64 (by omega) (by omega))] .normal hh19 [(9,(vB true)),(10,(vI k)),(5,(vI k)),(11,(Value.func (.func 88) #[] #[(vP b 0)])),(12,(vL sa xs.length cp)),(13,(vI k)),(14,(vP b14 o15)),(15,(vA #[(vS v10.key),(vI v10.delta)])),(16,(vB false)),(18,(vI ((k) + 1))),(8,(vI ((k) + 1)))] ?_
   exact ⟨xs.length - (k + 1).toNat,by omega,⟨k + 1,(fun i=>([vU,vU,vU,vU,(g0 4),(vI k),vU,vU,vU,(vB true),(vI k),(Value.func (.func 88) #[] #[(vP b 0)]),(vL sa xs.length cp),(vI k),(vP b14 o15),(vA #[(vS v10.key),(vI v10.delta)]),(vB false),(g0 17),(vI ((k) + 1))]:List Value).getD i undef),by as_aux_lemma=>kernel_rfl,x23,rfl,f22,by omega,by rw [show (k + 1).toNat=i9 + 1 by omega,List.take_add_one,g13,List.any_append,show i9=k.toNat by omega,i7]; simp only [Option.toList_some,List.any_cons,List.any_nil,c24]; rfl⟩⟩
 ·refine wc_ev [ltF 2 0 3 c8] (.exit 0) h2 [(9,(vB false))] ?_
  refine wc_ev [] .ret h2 [(4,(vI (-1)))] ?_
  have et:xs.take k.toNat=xs:=List.take_of_length_le (by omega)
  have ea:=i7
  rw [et] at ea
  exact end_ev [] (vI (-1)) (hK _ _ (⟨-1,rfl,by rw [ea]; simp,x3⟩))
set_option maxHeartbeats 4000000 in
theorem any_key (h:Heap) {b:Nat} (y:StepM) (hb:h[b]?=some (.cells (stepc y) 67 (0,0))) (xs:List StepM) (sa:Option Addr) (cp:Nat) (hl:SliceAt h stepc 2 xs (.slice sa xs.length cp)) (hlen:xs.length≤9223372036854775807):WCall Tryz.prog 87 #[(Value.slice sa (xs.length) (cp)),(Value.func (.func 88) #[] #[(vP b 0)])] h (fun v h1=>v=.bool (xs.any fun x=>decide (x.key=y.key))∧Ext h h1):=by
 obtain ⟨_,hh1,sn2,i3,rfl,q4,x5⟩:=ixf_key h y hb xs _ _ (hl.keep fun b r _ q=>(Ext.refl h) b r q) (by omega)
 have x6:=(Ext.refl h).trans x5
 by_cases c7:(0:Int)≤(i3)
 ·exact hCall_ev [evF 1 2 sn2,geT 1 3 3 c7] [] (vB true) hh1 ⟨by rw [q4.1 (by omega)],x6⟩
 ·exact hCall_ev [evF 1 2 sn2,geF 1 3 3 c7] [] (vB false) hh1 ⟨by rw [Bool.eq_false_iff.2 (fun w=>absurd (q4.2 w) (by omega))],x6⟩
set_option maxHeartbeats 4000000 in
theorem dcheck_ok (h:Heap) (d:DefM) (sa:Option Addr) (cp:Nat) (hl:LAt h stepc 2 d.xs (.slice sa d.xs.length cp)) (hlen:d.xs.length≤9223372036854775807):WCall Tryz.prog 49 #[(Value.agg #[(vS d.name),(vI (d.rt)),(vI (d.dl)),(Value.slice sa (d.xs.length) (cp))])] h (fun v h1=>v=.int .i64 (if defB d=true then 0 else 15)∧Ext h h1):=by
 refine wcall_by fun K hK=>?_
 refine wcall_at { tmps:=#[(vA #[(vS d.name),(vI d.rt),(vI d.dl),(vL sa d.xs.length cp)]),vZ,vZ,vZ,vZ,vZ,vZ,vZ,vZ,vZ,vZ,vZ,vZ,vZ,vZ,vZ,vZ,vZ,vZ,vZ,vZ,vZ,vZ,vZ,vZ,vZ,vZ,vZ,vZ,vZ,vZ,vZ,vZ,vZ,vZ,vZ,vZ,vZ,vZ,vZ,vZ,vZ,vZ,vZ,vZ,vZ,vZ,vZ,vZ,vZ,vZ,vZ,vZ,vZ,vZ,vZ,vZ,vZ,vZ,vZ,vZ,vZ,vZ],defers:=[] } (by kernel_rfl) ?_
 refine wc_seq' (subc (bodyOf Tryz.prog 49) [0]) (subc (bodyOf Tryz.prog 49) [1]) (by kernel_rfl) ?_
 obtain ⟨b1,eb2⟩:∃ zq,zq=h.size:=⟨_,rfl⟩
 obtain ⟨h3,e4⟩:∃ zq,zq=h.push (.cells #[(vS d.name),(vI (d.rt)),(vI (d.dl)),(Value.slice sa (d.xs.length) (cp))] 31 (0,0)):=⟨_,rfl⟩
 have f5:=push_new e4
 rw [← eb2] at f5
 have x6:Ext h h3:=by rw [e4]; exact Ext.push _ _
 have o7:h.size≤b1:=by have:=(Ext.refl h).size; omega
 have x8:=(Ext.refl h).trans x6
 refine wc_ev [evA 0 0 eb2 e4] .normal h3 [(1,(vP b1 0)),(2,(vI 0))] ?_
 refine wc_seq' (subc (bodyOf Tryz.prog 49) [1,0]) (subc (bodyOf Tryz.prog 49) [1,1]) (by kernel_rfl) ?_
 obtain ⟨_,hh9,sn10,rfl,x11⟩:=name_ok h3 d.name
 have f12:=x11 _ _ f5
 have x13:=x8.trans x11
 rcases Bool.eq_false_or_eq_true ((nameB d.name)) with c14 | c14
 ·obtain ⟨_,_,sn15,rfl,rfl⟩:=in_ok hh9 (d.rt) 20
  rcases Bool.eq_false_or_eq_true ((decide ((0:Int)≤(d.rt)∧((d.rt):Int)≤20))) with c16 | c16
  ·obtain ⟨_,_,sn17,rfl,rfl⟩:=in_ok hh9 (d.dl) 100000
   rcases Bool.eq_false_or_eq_true ((decide ((0:Int)≤(d.dl)∧((d.dl):Int)≤100000))) with c18 | c18
   ·obtain ⟨_,_,sn19,rfl,rfl⟩:=in_ok hh9 (((d.xs.length:Nat)) - 1) 7
    rcases Bool.eq_false_or_eq_true ((decide ((0:Int)≤(((d.xs.length:Nat)) - 1)∧((((d.xs.length:Nat)) - 1):Int)≤7))) with c20 | c20
    ·refine wc_ev [evC 1 1 0 agg9 f5,evFb 1 2 c14 sn10,evC 1 6 1 agg3 f12,evFb 1 7 c16 sn15,evC 1 12 2 agg3 f12,evFb 1 13 c18 sn17,evC 1 18 3 agg29 f12,evV 1 20 (vI (((d.xs.length:Nat)) - 1)) (show binA Tryz.prog .sub 3 (vI ((d.xs.length:Nat))) (vI 1)=some (vI (((d.xs.length:Nat)) - 1)) from sub_i64 (by omega) (by omega)),evFb 1 21 c20 sn19] .normal hh9 [(6,(vP b1 0)),(7,(vS d.name)),(8,(vB true)),(9,(vB false)),(10,(vB false)),(11,(vP b1 1)),(12,(vI d.rt)),(13,(vB true)),(14,(vB false)),(15,(vB false)),(16,(vB false)),(17,(vP b1 2)),(18,(vI d.dl)),(19,(vB true)),(20,(vB false)),(21,(vB false)),(22,(vB false)),(23,(vP b1 3)),(24,(vL sa d.xs.length cp)),(25,(vI ((d.xs.length:Nat)))),(26,(vI (((d.xs.length:Nat)) - 1))),(27,(vB true)),(28,(vB false)),(29,(vB false))] ?_
     refine wc_act { tmps:=#[(vA #[(vS d.name),(vI d.rt),(vI d.dl),(vL sa d.xs.length cp)]),(vP b1 0),(vI 0),vZ,vZ,vZ,(vP b1 0),(vS d.name),(vB true),(vB false),(vB false),(vP b1 1),(vI d.rt),(vB true),(vB false),(vB false),(vB false),(vP b1 2),(vI d.dl),(vB true),(vB false),(vB false),(vB false),(vP b1 3),(vL sa d.xs.length cp),(vI ((d.xs.length:Nat))),(vI (((d.xs.length:Nat)) - 1)),(vB true),(vB false),(vB false),vZ,vZ,vZ,vZ,vZ,vZ,vZ,vZ,vZ,vZ,vZ,vZ,vZ,vZ,vZ,vZ,vZ,vZ,vZ,vZ,vZ,vZ,vZ,vZ,vZ,vZ,vZ,vZ,vZ,vZ,vZ,vZ,vZ],defers:=[] } (by as_aux_lemma=>kernel_rfl) ?_
     refine wc_seq' (subc (bodyOf Tryz.prog 49) [1,1,0]) (subc (bodyOf Tryz.prog 49) [1,1,1]) (by kernel_rfl) ?_
     refine wc_seq' (subc (bodyOf Tryz.prog 49) [1,1,0,0]) (subc (bodyOf Tryz.prog 49) [1,1,0,1]) (by kernel_rfl) ?_
     refine wc_ev [evC 3 1 3 agg29 f12] .normal hh9 [(30,(vP b1 3)),(31,(vL sa d.xs.length cp)),(32,(vI ((d.xs.length:Nat)))),(33,(vI 0))] ?_
     refine wc_block' 0 (subc (bodyOf Tryz.prog 49) [1,1,0,1,0]) (by kernel_rfl) ?_
     refine wc_loop' (subc (bodyOf Tryz.prog 49) [1,1,0,1,0,0]) (by kernel_rfl) (fun n' a' h'=>∃ (k:Int) (g0:Nat→Value),a'={ tmps:=#[(vA #[(vS d.name),(vI d.rt),(vI d.dl),(vL sa d.xs.length cp)]),(vP b1 0),(g0 2),(g0 3),(g0 4),(g0 5),(vP b1 0),(vS d.name),(vB true),(vB false),(vB false),(vP b1 1),(vI d.rt),(vB true),(vB false),(vB false),(vB false),(vP b1 2),(vI d.dl),(vB true),(vB false),(vB false),(vB false),(vP b1 3),(vL sa d.xs.length cp),(vI ((d.xs.length:Nat))),(vI (((d.xs.length:Nat)) - 1)),(vB true),(vB false),(vB false),(vP b1 3),(vL sa d.xs.length cp),(vI ((d.xs.length:Nat))),(vI k),(g0 34),(g0 35),(g0 36),(g0 37),(g0 38),(g0 39),(g0 40),(g0 41),(g0 42),(g0 43),(g0 44),(g0 45),(g0 46),(g0 47),(g0 48),(g0 49),(g0 50),(g0 51),(g0 52),(g0 53),(g0 54),(g0 55),(g0 56),(g0 57),(g0 58),(g0 59),(g0 60),(g0 61),(g0 62)],defers:=[] }∧Ext h h'∧n'=d.xs.length - k.toNat∧h'[b1]?=some (.cells #[(vS d.name),(vI d.rt),(vI d.dl),(vL sa d.xs.length cp)] 31 (0,0))∧(0≤k∧k≤d.xs.length)∧goodS d.xs k.toNat=true) ?_ (d.xs.length - (0:Int).toNat) ⟨0,(fun i=>([vU,vU,(vI 0),vZ,vZ,vZ,vU,vU,vU,vU,vU,vU,vU,vU,vU,vU,vU,vU,vU,vU,vU,vU,vU,vU,vU,vU,vU,vU,vU,vU,vU,vU,vU,vU,vZ,vZ,vZ,vZ,vZ,vZ,vZ,vZ,vZ,vZ,vZ,vZ,vZ,vZ,vZ,vZ,vZ,vZ,vZ,vZ,vZ,vZ,vZ,vZ,vZ,vZ,vZ,vZ,vZ]:List Value).getD i undef),by as_aux_lemma=>kernel_rfl,x13,rfl,f12,by omega,rfl⟩
     rintro n' _ h21 ⟨k,g0,rfl,x22,m23,f24,i25,i26⟩
     by_cases c27:((k):Int) < ((d.xs.length:Nat))
     ·obtain ⟨i28,v29,e30,l31,g32⟩:=list_at d.xs (e:=(k)) (by omega) (by first | omega | (simp only [List.length_set,List.length_append,List.length_singleton]; omega))
      obtain ⟨b33,o34,k35,q36,a37⟩:=(hl.slice stepc_size).at stepc_size g32
      obtain ⟨b38,eb39⟩:∃ zq,zq=h21.size:=⟨_,rfl⟩
      obtain ⟨h40,e41⟩:∃ zq,zq=h21.push (.cells #[(vS .empty),(vI 0)] 67 (0,0)):=⟨_,rfl⟩
      have f42:=push_new e41
      rw [← eb39] at f42
      have n43:b38 ≠ b1:=by have:=row_lt f24; omega
      have x44:Ext h21 h40:=by rw [e41]; exact Ext.push _ _
      have o45:h.size≤b38:=by have:=x22.size; omega
      have f46:=x44 _ _ f24
      have x47:=x22.trans x44
      obtain ⟨h48,e49⟩:∃ zq,zq=h40.setIfInBounds b38 (.cells #[(vS v29.key),(vI (v29.delta))] 67 (0,0)):=⟨_,rfl⟩
      have f50:=set_same e49 f42
      have f51:=set_other e49 f46 n43
      have x52:=Ext.setNew x47 e49 o45
      obtain ⟨sb53,cq54,e55,p56,b57⟩:=slice_prefix stepc_size und29 size67 (by decide) ((hl.keep fun b r _ q=>x52 b r q).slice stepc_size) ((hl.keep fun b r _ q=>x52 b r q).pl) (kd:=.i64) (n:=((k):Int)) (by omega) (by omega)
      obtain ⟨zs58,e59⟩:∃ zq,zq=d.xs.take (((k):Int)).toNat:=⟨_,rfl⟩
      rw [← e59] at e55 p56 b57
      have lzs60:(zs58.length:Int)=((k):Int):=by rw [e59,List.length_take]; omega
      obtain ⟨_,hh61,sn62,rfl,x63⟩:=any_key h48 v29 f50 zs58 _ _ p56 (by omega)
      have f65:=x63 _ _ f51
      have f66:=x63 _ _ f50
      have x67:=x52.trans x63
      rcases Bool.eq_false_or_eq_true ((zs58.any fun x=>decide (x.key=v29.key))) with c68 | c68
      ·refine wc_ev [ltT 4 0 3 c27,evV 5 1 (vP b33 o34) (show indexAddrA Tryz.prog 29 (vL sa d.xs.length cp) (vI k)=some (vP b33 o34) from a37 und29 size67 e30),evV 5 2 (vA #[(vS v29.key),(vI v29.delta)]) (show loadT Tryz.prog h21 67 (vP b33 o34)=some (vA #[(vS v29.key),(vI v29.delta)]) from (k35.keep fun b r _ q=>x22 b r q).agg (j:=0) agg67 size67 (show 0 + 2≤2 by decide) (by kernel_rfl)),evA 5 3 eb39 e41,evUw 5 5 size67 f42 e49,evC 6 1 3 agg29 f51,evV 6 3 (vL sb53 zs58.length cq54) (show sliceA Tryz.prog h48 29 (vL sa d.xs.length cp) none (some (vI k)) none=some (vL sb53 zs58.length cq54) from e55),evFb 6 5 c68 sn62] .ret hh61 [(34,(vB true)),(35,(vI k)),(36,(vP b33 o34)),(37,(vA #[(vS v29.key),(vI v29.delta)])),(4,(vP b38 0)),(3,(vI k)),(38,(vP b1 3)),(39,(vL sa d.xs.length cp)),(40,(vI k)),(41,(vL sb53 zs58.length cq54)),(42,(Value.func (.func 88) #[] #[(vP b38 0)])),(43,(vB true)),(5,(vB true)),(44,(vB true)),(45,(vB true)),(46,vZ),(47,vZ),(48,vZ),(49,vZ),(50,(vB true)),(51,(vB true)),(52,vZ),(53,vZ),(54,vZ),(55,(vB true)),(56,(vB true)),(57,vZ),(58,vZ),(59,vZ),(60,vZ),(61,(vB true)),(2,(vI 15))] ?_
       exact end_ev [] (vI 15) (hK _ _ (⟨by rw [show defB d=false from by unfold defB; rw [goodS_not (k:=i28) (by omega) (by rw [goodAt_some g32]; rw [show i28=(k:Int).toNat by omega,← e59,c68]; simp),Bool.and_false]]; rfl,x67⟩))
      ·obtain ⟨_,hh69,sn70,rfl,x71⟩:=name_ok hh61 v29.key
       have f72:=x71 _ _ f65
       have f73:=x71 _ _ f66
       have x74:=x67.trans x71
       rcases Bool.eq_false_or_eq_true ((nameB v29.key)) with c75 | c75
       ·by_cases c76:((v29.delta):Int)=0
        ·refine wc_ev [ltT 4 0 3 c27,evV 5 1 (vP b33 o34) (show indexAddrA Tryz.prog 29 (vL sa d.xs.length cp) (vI k)=some (vP b33 o34) from a37 und29 size67 e30),evV 5 2 (vA #[(vS v29.key),(vI v29.delta)]) (show loadT Tryz.prog h21 67 (vP b33 o34)=some (vA #[(vS v29.key),(vI v29.delta)]) from (k35.keep fun b r _ q=>x22 b r q).agg (j:=0) agg67 size67 (show 0 + 2≤2 by decide) (by kernel_rfl)),evA 5 3 eb39 e41,evUw 5 5 size67 f42 e49,evC 6 1 3 agg29 f51,evV 6 3 (vL sb53 zs58.length cq54) (show sliceA Tryz.prog h48 29 (vL sa d.xs.length cp) none (some (vI k)) none=some (vL sb53 zs58.length cq54) from e55),evFb 6 5 c68 sn62,evC 7 3 0 agg9 f66,evFb 7 4 c75 sn70,evC 7 9 1 agg2 f73,eqT 7 10 2 c76] .ret hh69 [(34,(vB true)),(35,(vI k)),(36,(vP b33 o34)),(37,(vA #[(vS v29.key),(vI v29.delta)])),(4,(vP b38 0)),(3,(vI k)),(38,(vP b1 3)),(39,(vL sa d.xs.length cp)),(40,(vI k)),(41,(vL sb53 zs58.length cq54)),(42,(Value.func (.func 88) #[] #[(vP b38 0)])),(43,(vB false)),(5,(vB false)),(44,(vB false)),(45,(vB false)),(46,(vP b38 0)),(47,(vS v29.key)),(48,(vB true)),(49,(vB false)),(50,(vB false)),(51,(vB false)),(52,(vP b38 1)),(53,(vI v29.delta)),(54,(vB true)),(55,(vB true)),(56,(vB true)),(57,vZ),(58,vZ),(59,vZ),(60,vZ),(61,(vB true)),(2,(vI 15))] ?_
         exact end_ev [] (vI 15) (hK _ _ (⟨by rw [show defB d=false from by unfold defB; rw [goodS_not (k:=i28) (by omega) (by rw [goodAt_some g32]; rw [show stepB v29=false from by unfold stepB; rw [decide_eq_false (by (try unfold numE at *); first | omega | (split at * <;> omega)),Bool.and_false]]; rfl),Bool.and_false]]; rfl,x74⟩))
        ·obtain ⟨_,_,sn77,rfl,rfl⟩:=num_ok hh69 (v29.delta)
         by_cases c78:((numE (v29.delta)):Int)=0
         ·refine wc_ev [ltT 4 0 3 c27,evV 5 1 (vP b33 o34) (show indexAddrA Tryz.prog 29 (vL sa d.xs.length cp) (vI k)=some (vP b33 o34) from a37 und29 size67 e30),evV 5 2 (vA #[(vS v29.key),(vI v29.delta)]) (show loadT Tryz.prog h21 67 (vP b33 o34)=some (vA #[(vS v29.key),(vI v29.delta)]) from (k35.keep fun b r _ q=>x22 b r q).agg (j:=0) agg67 size67 (show 0 + 2≤2 by decide) (by kernel_rfl)),evA 5 3 eb39 e41,evUw 5 5 size67 f42 e49,evC 6 1 3 agg29 f51,evV 6 3 (vL sb53 zs58.length cq54) (show sliceA Tryz.prog h48 29 (vL sa d.xs.length cp) none (some (vI k)) none=some (vL sb53 zs58.length cq54) from e55),evFb 6 5 c68 sn62,evC 7 3 0 agg9 f66,evFb 7 4 c75 sn70,evC 7 9 1 agg2 f73,eqF 7 10 2 c76,evC 7 14 1 agg2 f73,evF 7 15 sn77,neF 7 16 34 c78,evV 9 0 (vI ((k) + 1)) (show binA Tryz.prog .add 3 (vI k) (vI 1)=some (vI ((k) + 1)) from add_i64 (by omega) (by omega))] .normal hh69 [(34,(vB true)),(35,(vI k)),(36,(vP b33 o34)),(37,(vA #[(vS v29.key),(vI v29.delta)])),(4,(vP b38 0)),(3,(vI k)),(38,(vP b1 3)),(39,(vL sa d.xs.length cp)),(40,(vI k)),(41,(vL sb53 zs58.length cq54)),(42,(Value.func (.func 88) #[] #[(vP b38 0)])),(43,(vB false)),(5,(vB false)),(44,(vB false)),(45,(vB false)),(46,(vP b38 0)),(47,(vS v29.key)),(48,(vB true)),(49,(vB false)),(50,(vB false)),(51,(vB false)),(52,(vP b38 1)),(53,(vI v29.delta)),(54,(vB false)),(55,(vB false)),(56,(vB false)),(57,(vP b38 1)),(58,(vI v29.delta)),(59,(vI (numE (v29.delta)))),(60,(vB false)),(61,(vB false)),(62,(vI ((k) + 1))),(33,(vI ((k) + 1)))] ?_
          exact ⟨d.xs.length - (k + 1).toNat,by omega,⟨k + 1,(fun i=>([vU,vU,(g0 2),(vI k),(vP b38 0),(vB false),vU,vU,vU,vU,vU,vU,vU,vU,vU,vU,vU,vU,vU,vU,vU,vU,vU,vU,vU,vU,vU,vU,vU,vU,vU,vU,vU,vU,(vB true),(vI k),(vP b33 o34),(vA #[(vS v29.key),(vI v29.delta)]),(vP b1 3),(vL sa d.xs.length cp),(vI k),(vL sb53 zs58.length cq54),(Value.func (.func 88) #[] #[(vP b38 0)]),(vB false),(vB false),(vB false),(vP b38 0),(vS v29.key),(vB true),(vB false),(vB false),(vB false),(vP b38 1),(vI v29.delta),(vB false),(vB false),(vB false),(vP b38 1),(vI v29.delta),(vI (numE (v29.delta))),(vB false),(vB false),(vI ((k) + 1))]:List Value).getD i undef),by as_aux_lemma=>kernel_rfl,x74,rfl,f72,by omega,by rw [show (k + 1).toNat=i28 + 1 by omega,goodS_succ,show i28=k.toNat by omega,i26,← show i28=k.toNat by omega,goodAt_some g32,show stepB v29=true from by unfold stepB; rw [c75,decide_eq_true (by (try unfold numE at *); first | omega | (split at * <;> omega))]; rfl,show i28=(k:Int).toNat by omega,← e59,c68]; rfl⟩⟩
         ·refine wc_ev [ltT 4 0 3 c27,evV 5 1 (vP b33 o34) (show indexAddrA Tryz.prog 29 (vL sa d.xs.length cp) (vI k)=some (vP b33 o34) from a37 und29 size67 e30),evV 5 2 (vA #[(vS v29.key),(vI v29.delta)]) (show loadT Tryz.prog h21 67 (vP b33 o34)=some (vA #[(vS v29.key),(vI v29.delta)]) from (k35.keep fun b r _ q=>x22 b r q).agg (j:=0) agg67 size67 (show 0 + 2≤2 by decide) (by kernel_rfl)),evA 5 3 eb39 e41,evUw 5 5 size67 f42 e49,evC 6 1 3 agg29 f51,evV 6 3 (vL sb53 zs58.length cq54) (show sliceA Tryz.prog h48 29 (vL sa d.xs.length cp) none (some (vI k)) none=some (vL sb53 zs58.length cq54) from e55),evFb 6 5 c68 sn62,evC 7 3 0 agg9 f66,evFb 7 4 c75 sn70,evC 7 9 1 agg2 f73,eqF 7 10 2 c76,evC 7 14 1 agg2 f73,evF 7 15 sn77,neT 7 16 34 c78] .ret hh69 [(34,(vB true)),(35,(vI k)),(36,(vP b33 o34)),(37,(vA #[(vS v29.key),(vI v29.delta)])),(4,(vP b38 0)),(3,(vI k)),(38,(vP b1 3)),(39,(vL sa d.xs.length cp)),(40,(vI k)),(41,(vL sb53 zs58.length cq54)),(42,(Value.func (.func 88) #[] #[(vP b38 0)])),(43,(vB false)),(5,(vB false)),(44,(vB false)),(45,(vB false)),(46,(vP b38 0)),(47,(vS v29.key)),(48,(vB true)),(49,(vB false)),(50,(vB false)),(51,(vB false)),(52,(vP b38 1)),(53,(vI v29.delta)),(54,(vB false)),(55,(vB false)),(56,(vB false)),(57,(vP b38 1)),(58,(vI v29.delta)),(59,(vI (numE (v29.delta)))),(60,(vB true)),(61,(vB true)),(2,(vI 15))] ?_
          exact end_ev [] (vI 15) (hK _ _ (⟨by rw [show defB d=false from by unfold defB; rw [goodS_not (k:=i28) (by omega) (by rw [goodAt_some g32]; rw [show stepB v29=false from by unfold stepB; rw [decide_eq_false (by (try unfold numE at *); first | omega | (split at * <;> omega)),Bool.and_false]]; rfl),Bool.and_false]]; rfl,x74⟩))
       ·refine wc_ev [ltT 4 0 3 c27,evV 5 1 (vP b33 o34) (show indexAddrA Tryz.prog 29 (vL sa d.xs.length cp) (vI k)=some (vP b33 o34) from a37 und29 size67 e30),evV 5 2 (vA #[(vS v29.key),(vI v29.delta)]) (show loadT Tryz.prog h21 67 (vP b33 o34)=some (vA #[(vS v29.key),(vI v29.delta)]) from (k35.keep fun b r _ q=>x22 b r q).agg (j:=0) agg67 size67 (show 0 + 2≤2 by decide) (by kernel_rfl)),evA 5 3 eb39 e41,evUw 5 5 size67 f42 e49,evC 6 1 3 agg29 f51,evV 6 3 (vL sb53 zs58.length cq54) (show sliceA Tryz.prog h48 29 (vL sa d.xs.length cp) none (some (vI k)) none=some (vL sb53 zs58.length cq54) from e55),evFb 6 5 c68 sn62,evC 7 3 0 agg9 f66,evFb 7 4 c75 sn70] .ret hh69 [(34,(vB true)),(35,(vI k)),(36,(vP b33 o34)),(37,(vA #[(vS v29.key),(vI v29.delta)])),(4,(vP b38 0)),(3,(vI k)),(38,(vP b1 3)),(39,(vL sa d.xs.length cp)),(40,(vI k)),(41,(vL sb53 zs58.length cq54)),(42,(Value.func (.func 88) #[] #[(vP b38 0)])),(43,(vB false)),(5,(vB false)),(44,(vB false)),(45,(vB false)),(46,(vP b38 0)),(47,(vS v29.key)),(48,(vB false)),(49,(vB true)),(50,(vB true)),(51,(vB true)),(52,vZ),(53,vZ),(54,vZ),(55,(vB true)),(56,(vB true)),(57,vZ),(58,vZ),(59,vZ),(60,vZ),(61,(vB true)),(2,(vI 15))] ?_
        exact end_ev [] (vI 15) (hK _ _ (⟨by rw [show defB d=false from by unfold defB; rw [goodS_not (k:=i28) (by omega) (by rw [goodAt_some g32]; unfold stepB; rw [c75]; rfl),Bool.and_false]]; rfl,x74⟩))
     ·refine wc_ev [ltF 4 0 3 c27] (.exit 0) h21 [(34,(vB false))] ?_
      refine wc_ev [] .ret h21 [(2,(vI 0))] ?_
      have ek:k.toNat=d.xs.length:=by omega
      have eg:=i26
      rw [ek] at eg
      exact end_ev [] (vI 0) (hK _ _ (⟨by rw [show defB d=true from by unfold defB; rw [c14,decide_eq_true (by simp only [decide_eq_true_eq,decide_eq_false_iff_not] at *; omega),eg]; rfl]; rfl,x22⟩))
    ·refine wc_ev [evC 1 1 0 agg9 f5,evFb 1 2 c14 sn10,evC 1 6 1 agg3 f12,evFb 1 7 c16 sn15,evC 1 12 2 agg3 f12,evFb 1 13 c18 sn17,evC 1 18 3 agg29 f12,evV 1 20 (vI (((d.xs.length:Nat)) - 1)) (show binA Tryz.prog .sub 3 (vI ((d.xs.length:Nat))) (vI 1)=some (vI (((d.xs.length:Nat)) - 1)) from sub_i64 (by omega) (by omega)),evFb 1 21 c20 sn19] .ret hh9 [(6,(vP b1 0)),(7,(vS d.name)),(8,(vB true)),(9,(vB false)),(10,(vB false)),(11,(vP b1 1)),(12,(vI d.rt)),(13,(vB true)),(14,(vB false)),(15,(vB false)),(16,(vB false)),(17,(vP b1 2)),(18,(vI d.dl)),(19,(vB true)),(20,(vB false)),(21,(vB false)),(22,(vB false)),(23,(vP b1 3)),(24,(vL sa d.xs.length cp)),(25,(vI ((d.xs.length:Nat)))),(26,(vI (((d.xs.length:Nat)) - 1))),(27,(vB false)),(28,(vB true)),(29,(vB true)),(2,(vI 15))] ?_
     exact end_ev [] (vI 15) (hK _ _ (⟨by rw [show defB d=false from by unfold defB; rw [decide_eq_false (by simp only [decide_eq_true_eq,decide_eq_false_iff_not] at *; omega),Bool.and_false]; rfl]; rfl,x13⟩))
   ·refine wc_ev [evC 1 1 0 agg9 f5,evFb 1 2 c14 sn10,evC 1 6 1 agg3 f12,evFb 1 7 c16 sn15,evC 1 12 2 agg3 f12,evFb 1 13 c18 sn17] .ret hh9 [(6,(vP b1 0)),(7,(vS d.name)),(8,(vB true)),(9,(vB false)),(10,(vB false)),(11,(vP b1 1)),(12,(vI d.rt)),(13,(vB true)),(14,(vB false)),(15,(vB false)),(16,(vB false)),(17,(vP b1 2)),(18,(vI d.dl)),(19,(vB false)),(20,(vB true)),(21,(vB true)),(22,(vB true)),(23,vZ),(24,vZ),(25,vZ),(26,vZ),(27,vZ),(28,vZ),(29,(vB true)),(2,(vI 15))] ?_
    exact end_ev [] (vI 15) (hK _ _ (⟨by rw [show defB d=false from by unfold defB; rw [decide_eq_false (by simp only [decide_eq_true_eq,decide_eq_false_iff_not] at *; omega),Bool.and_false]; rfl]; rfl,x13⟩))
  ·refine wc_ev [evC 1 1 0 agg9 f5,evFb 1 2 c14 sn10,evC 1 6 1 agg3 f12,evFb 1 7 c16 sn15] .ret hh9 [(6,(vP b1 0)),(7,(vS d.name)),(8,(vB true)),(9,(vB false)),(10,(vB false)),(11,(vP b1 1)),(12,(vI d.rt)),(13,(vB false)),(14,(vB true)),(15,(vB true)),(16,(vB true)),(17,vZ),(18,vZ),(19,vZ),(20,vZ),(21,(vB true)),(22,(vB true)),(23,vZ),(24,vZ),(25,vZ),(26,vZ),(27,vZ),(28,vZ),(29,(vB true)),(2,(vI 15))] ?_
   exact end_ev [] (vI 15) (hK _ _ (⟨by rw [show defB d=false from by unfold defB; rw [decide_eq_false (by simp only [decide_eq_true_eq,decide_eq_false_iff_not] at *; omega),Bool.and_false]; rfl]; rfl,x13⟩))
 ·refine wc_ev [evC 1 1 0 agg9 f5,evFb 1 2 c14 sn10] .ret hh9 [(6,(vP b1 0)),(7,(vS d.name)),(8,(vB false)),(9,(vB true)),(10,(vB true)),(11,vZ),(12,vZ),(13,vZ),(14,vZ),(15,(vB true)),(16,(vB true)),(17,vZ),(18,vZ),(19,vZ),(20,vZ),(21,(vB true)),(22,(vB true)),(23,vZ),(24,vZ),(25,vZ),(26,vZ),(27,vZ),(28,vZ),(29,(vB true)),(2,(vI 15))] ?_
  exact end_ev [] (vI 15) (hK _ _ (⟨by rw [show defB d=false from by unfold defB; rw [c14]; rfl]; rfl,x13⟩))
end C29
