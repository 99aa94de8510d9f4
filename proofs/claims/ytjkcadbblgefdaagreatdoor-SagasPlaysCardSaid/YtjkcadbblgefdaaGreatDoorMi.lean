/- The document: sagas are the same. -/
import Derived.Test.YtjkcadbblgefdaaGreatDoorMh
import Derived.KernelRfl
open Go Go.AM Go.Proofs
namespace C29
theorem eq49 {a0 b0:Int} {a1 b1:Int}:eqA Tryz.prog 8 49 (.agg #[.int .i64 a0,.int .i64 a1]) (.agg #[.int .i64 b0,.int .i64 b1])=some (decide (a0=b0∧a1=b1)):=by
 have e:eqA Tryz.prog 8 49 (.agg #[.int .i64 a0,.int .i64 a1]) (.agg #[.int .i64 b0,.int .i64 b1])=(match (some (a0 == b0):Option Bool) with | some true=>(match (some (a1 == b1):Option Bool) with | some true=>some true | some false=>some false | none=>none) | some false=>some false | none=>none):=by kernel_rfl
 rw [e]
 simp only [int_beq,bytes_beq,bool_beq]
 by_cases h0:a0=b0 <;> by_cases h1:a1=b1 <;> simp [h0,h1]
theorem cmp49_eql {a0 b0:Int} {a1 b1:Int} {r:Bool} (e:decide (a0=b0∧a1=b1)=r):binA Tryz.prog .eql 49 (.agg #[.int .i64 a0,.int .i64 a1]) (.agg #[.int .i64 b0,.int .i64 b1])=some (.bool r):=by
 have k:binA Tryz.prog .eql 49 (.agg #[.int .i64 a0,.int .i64 a1]) (.agg #[.int .i64 b0,.int .i64 b1])=(eqA Tryz.prog 8 49 (.agg #[.int .i64 a0,.int .i64 a1]) (.agg #[.int .i64 b0,.int .i64 b1])).map .bool:=by kernel_rfl
 rw [k,eq49,← e]; rfl
set_option maxHeartbeats 4000000 in
theorem equal_ok (h:Heap) (d:DefM) (sa:Option Addr) (cp:Nat) (hl:LAt h stepc 2 d.xs (.slice sa d.xs.length cp)) (hlen:d.xs.length≤9223372036854775807) (sb:Option Addr) (cq:Nat) (hm:LAt h stepc 2 d.xs (.slice sb d.xs.length cq)):WCall Tryz.prog 100 #[(Value.agg #[(vS d.name),(vI (d.rt)),(vI (d.dl)),(Value.slice sa (d.xs.length) (cp))]),(Value.agg #[(vS d.name),(vI (d.rt)),(vI (d.dl)),(Value.slice sb (d.xs.length) (cq))])] h (fun v h1=>v=.bool true∧Ext h h1):=by
 refine wcall_by fun K hK=>?_
 refine wcall_at { tmps:=#[(vA #[(vS d.name),(vI d.rt),(vI d.dl),(vL sa d.xs.length cp)]),(vA #[(vS d.name),(vI d.rt),(vI d.dl),(vL sb d.xs.length cq)]),vZ,vZ,vZ,vZ,vZ,vZ,vZ,vZ,vZ,vZ,vZ,vZ,vZ,vZ,vZ,vZ,vZ,vZ,vZ,vZ,vZ,vZ,vZ,vZ,vZ,vZ,vZ,vZ,vZ,vZ,vZ,vZ,vZ,vZ,vZ,vZ,vZ,vZ,vZ,vZ,vZ,vZ,vZ,vZ,vZ,vZ,vZ,vZ,vZ,vZ],defers:=[] } (by kernel_rfl) ?_
 refine wc_seq' (subc (bodyOf Tryz.prog 100) [0]) (subc (bodyOf Tryz.prog 100) [1]) (by kernel_rfl) ?_
 obtain ⟨b1,eb2⟩:∃ zq,zq=h.size:=⟨_,rfl⟩
 obtain ⟨h3,e4⟩:∃ zq,zq=h.push (.cells #[(vS d.name),(vI (d.rt)),(vI (d.dl)),(Value.slice sa (d.xs.length) (cp))] 31 (0,0)):=⟨_,rfl⟩
 have f5:=push_new e4
 rw [← eb2] at f5
 have x6:Ext h h3:=by rw [e4]; exact Ext.push _ _
 have o7:h.size≤b1:=by have:=(Ext.refl h).size; omega
 have x8:=(Ext.refl h).trans x6
 obtain ⟨b9,eb10⟩:∃ zq,zq=h3.size:=⟨_,rfl⟩
 obtain ⟨h11,e12⟩:∃ zq,zq=h3.push (.cells #[(vS d.name),(vI (d.rt)),(vI (d.dl)),(Value.slice sb (d.xs.length) (cq))] 31 (0,0)):=⟨_,rfl⟩
 have f13:=push_new e12
 rw [← eb10] at f13
 have x14:Ext h3 h11:=by rw [e12]; exact Ext.push _ _
 have o15:h.size≤b9:=by have:=x8.size; omega
 have f17:=x14 _ _ f5
 have x18:=x8.trans x14
 refine wc_ev [evA 0 0 eb2 e4,evA 0 1 eb10 e12] .normal h11 [(2,(vP b1 0)),(3,(vP b9 0)),(4,(vB false))] ?_
 refine wc_seq' (subc (bodyOf Tryz.prog 100) [1,0]) (subc (bodyOf Tryz.prog 100) [1,1]) (by kernel_rfl) ?_
 refine wc_ev [evC 1 1 0 agg9 f17,evC 1 3 0 agg9 f13,snF 1 4 9 (Eq.refl (d.name:ByteArray)),evC 1 7 1 agg3 f17,evC 1 9 1 agg3 f13,neF 1 10 3 (Eq.refl ((d.rt):Int)),evC 1 14 2 agg3 f17,evC 1 16 2 agg3 f13,neF 1 17 3 (Eq.refl ((d.dl):Int)),evC 1 21 3 agg29 f17,evC 1 24 3 agg29 f13,neF 1 26 3 (Eq.refl (((d.xs.length:Nat)):Int))] .normal h11 [(6,(vP b1 0)),(7,(vS d.name)),(8,(vP b9 0)),(9,(vS d.name)),(10,(vB false)),(11,(vB false)),(12,(vP b1 1)),(13,(vI d.rt)),(14,(vP b9 1)),(15,(vI d.rt)),(16,(vB false)),(17,(vB false)),(18,(vB false)),(19,(vP b1 2)),(20,(vI d.dl)),(21,(vP b9 2)),(22,(vI d.dl)),(23,(vB false)),(24,(vB false)),(25,(vB false)),(26,(vP b1 3)),(27,(vL sa d.xs.length cp)),(28,(vI ((d.xs.length:Nat)))),(29,(vP b9 3)),(30,(vL sb d.xs.length cq)),(31,(vI ((d.xs.length:Nat)))),(32,(vB false)),(33,(vB false))] ?_
 refine wc_act { tmps:=#[(vA #[(vS d.name),(vI d.rt),(vI d.dl),(vL sa d.xs.length cp)]),(vA #[(vS d.name),(vI d.rt),(vI d.dl),(vL sb d.xs.length cq)]),(vP b1 0),(vP b9 0),(vB false),vZ,(vP b1 0),(vS d.name),(vP b9 0),(vS d.name),(vB false),(vB false),(vP b1 1),(vI d.rt),(vP b9 1),(vI d.rt),(vB false),(vB false),(vB false),(vP b1 2),(vI d.dl),(vP b9 2),(vI d.dl),(vB false),(vB false),(vB false),(vP b1 3),(vL sa d.xs.length cp),(vI ((d.xs.length:Nat))),(vP b9 3),(vL sb d.xs.length cq),(vI ((d.xs.length:Nat))),(vB false),(vB false),vZ,vZ,vZ,vZ,vZ,vZ,vZ,vZ,vZ,vZ,vZ,vZ,vZ,vZ,vZ,vZ,vZ,vZ],defers:=[] } (by as_aux_lemma=>kernel_rfl) ?_
 refine wc_seq' (subc (bodyOf Tryz.prog 100) [1,1,0]) (subc (bodyOf Tryz.prog 100) [1,1,1]) (by kernel_rfl) ?_
 refine wc_seq' (subc (bodyOf Tryz.prog 100) [1,1,0,0]) (subc (bodyOf Tryz.prog 100) [1,1,0,1]) (by kernel_rfl) ?_
 refine wc_ev [] .normal h11 [(5,(vI 0))] ?_
 refine wc_block' 0 (subc (bodyOf Tryz.prog 100) [1,1,0,1,0]) (by kernel_rfl) ?_
 refine wc_loop' (subc (bodyOf Tryz.prog 100) [1,1,0,1,0,0]) (by kernel_rfl) (fun n' a' h'=>∃ (k:Int) (g0:Nat→Value),a'={ tmps:=#[(vA #[(vS d.name),(vI d.rt),(vI d.dl),(vL sa d.xs.length cp)]),(vA #[(vS d.name),(vI d.rt),(vI d.dl),(vL sb d.xs.length cq)]),(vP b1 0),(vP b9 0),(g0 4),(vI k),(vP b1 0),(vS d.name),(vP b9 0),(vS d.name),(vB false),(vB false),(vP b1 1),(vI d.rt),(vP b9 1),(vI d.rt),(vB false),(vB false),(vB false),(vP b1 2),(vI d.dl),(vP b9 2),(vI d.dl),(vB false),(vB false),(vB false),(vP b1 3),(vL sa d.xs.length cp),(vI ((d.xs.length:Nat))),(vP b9 3),(vL sb d.xs.length cq),(vI ((d.xs.length:Nat))),(vB false),(vB false),(g0 34),(g0 35),(g0 36),(g0 37),(g0 38),(g0 39),(g0 40),(g0 41),(g0 42),(g0 43),(g0 44),(g0 45),(g0 46),(g0 47),(g0 48),(g0 49),(g0 50),(g0 51)],defers:=[] }∧Ext h h'∧n'=d.xs.length - k.toNat∧h'[b1]?=some (.cells #[(vS d.name),(vI d.rt),(vI d.dl),(vL sa d.xs.length cp)] 31 (0,0))∧h'[b9]?=some (.cells #[(vS d.name),(vI d.rt),(vI d.dl),(vL sb d.xs.length cq)] 31 (0,0))∧(0≤k∧k≤d.xs.length)) ?_ (d.xs.length - (0:Int).toNat) ⟨0,(fun i=>([vU,vU,vU,vU,(vB false),vU,vU,vU,vU,vU,vU,vU,vU,vU,vU,vU,vU,vU,vU,vU,vU,vU,vU,vU,vU,vU,vU,vU,vU,vU,vU,vU,vU,vU,vZ,vZ,vZ,vZ,vZ,vZ,vZ,vZ,vZ,vZ,vZ,vZ,vZ,vZ,vZ,vZ,vZ,vZ]:List Value).getD i undef),by as_aux_lemma=>kernel_rfl,x18,rfl,f17,f13,by omega⟩
 rintro n' _ h19 ⟨k,g0,rfl,x20,m21,f22,f23,i24⟩
 by_cases c25:((k):Int) < ((d.xs.length:Nat))
 ·obtain ⟨i26,v27,e28,l29,g30⟩:=list_at d.xs (e:=(k)) (by omega) (by first | omega | (simp only [List.length_set,List.length_append,List.length_singleton]; omega))
  obtain ⟨b31,o32,k33,q34,a35⟩:=(hl.slice stepc_size).at stepc_size g30
  obtain ⟨b36,o37,k38,q39,a40⟩:=(hm.slice stepc_size).at stepc_size g30
  refine wc_ev [evC 4 2 3 agg29 f22,ltT 4 4 3 c25,evC 6 1 3 agg29 f22,evV 6 3 (vP b31 o32) (show indexAddrA Tryz.prog 29 (vL sa d.xs.length cp) (vI k)=some (vP b31 o32) from a35 und29 size67 e28),evV 6 4 (vA #[(vS v27.key),(vI v27.delta)]) (show loadT Tryz.prog h19 67 (vP b31 o32)=some (vA #[(vS v27.key),(vI v27.delta)]) from (k33.keep fun b r _ q=>x20 b r q).agg (j:=0) agg67 size67 (show 0 + 2≤2 by decide) (by kernel_rfl)),evC 6 6 3 agg29 f23,evV 6 8 (vP b36 o37) (show indexAddrA Tryz.prog 29 (vL sb d.xs.length cq) (vI k)=some (vP b36 o37) from a40 und29 size67 e28),evV 6 9 (vA #[(vS v27.key),(vI v27.delta)]) (show loadT Tryz.prog h19 67 (vP b36 o37)=some (vA #[(vS v27.key),(vI v27.delta)]) from (k38.keep fun b r _ q=>x20 b r q).agg (j:=0) agg67 size67 (show 0 + 2≤2 by decide) (by kernel_rfl)),evV 6 10 (vB false) (show binA Tryz.prog .neq 67 (vA #[(vS v27.key),(vI v27.delta)]) (vA #[(vS v27.key),(vI v27.delta)])=some (vB false) from cmp67_neq (decide_eq_false (not_not_intro ⟨rfl,rfl⟩))),evV 5 1 (vI ((k) + 1)) (show binA Tryz.prog .add 3 (vI k) (vI 1)=some (vI ((k) + 1)) from add_i64 (by omega) (by omega))] .normal h19 [(34,(vI k)),(35,(vP b1 3)),(36,(vL sa d.xs.length cp)),(37,(vI ((d.xs.length:Nat)))),(38,(vB true)),(41,(vP b1 3)),(42,(vL sa d.xs.length cp)),(43,(vI k)),(44,(vP b31 o32)),(45,(vA #[(vS v27.key),(vI v27.delta)])),(46,(vP b9 3)),(47,(vL sb d.xs.length cq)),(48,(vI k)),(49,(vP b36 o37)),(50,(vA #[(vS v27.key),(vI v27.delta)])),(51,(vB false)),(39,(vI k)),(40,(vI ((k) + 1))),(5,(vI ((k) + 1)))] ?_
  exact ⟨d.xs.length - (k + 1).toNat,by omega,⟨k + 1,(fun i=>([vU,vU,vU,vU,(g0 4),vU,vU,vU,vU,vU,vU,vU,vU,vU,vU,vU,vU,vU,vU,vU,vU,vU,vU,vU,vU,vU,vU,vU,vU,vU,vU,vU,vU,vU,(vI k),(vP b1 3),(vL sa d.xs.length cp),(vI ((d.xs.length:Nat))),(vB true),(vI k),(vI ((k) + 1)),(vP b1 3),(vL sa d.xs.length cp),(vI k),(vP b31 o32),(vA #[(vS v27.key),(vI v27.delta)]),(vP b9 3),(vL sb d.xs.length cq),(vI k),(vP b36 o37),(vA #[(vS v27.key),(vI v27.delta)]),(vB false)]:List Value).getD i undef),by as_aux_lemma=>kernel_rfl,x20,rfl,f22,f23,by omega⟩⟩
 ·refine wc_ev [evC 4 2 3 agg29 f22,ltF 4 4 3 c25] (.exit 0) h19 [(34,(vI k)),(35,(vP b1 3)),(36,(vL sa d.xs.length cp)),(37,(vI ((d.xs.length:Nat)))),(38,(vB false))] ?_
  refine wc_ev [] .ret h19 [(4,(vB true))] ?_
  exact end_ev [] (vB true) (hK _ _ (⟨rfl,x20⟩))
set_option maxHeartbeats 4000000 in
theorem same_ok (h:Heap) (s:SagaM) (sa:Option Addr) (cp:Nat) (hl:LAt h stepc 2 s.d.xs (.slice sa s.d.xs.length cp)) (hlen:s.d.xs.length≤9223372036854775807) (sb:Option Addr) (cq:Nat) (hm:LAt h stepc 2 s.d.xs (.slice sb s.d.xs.length cq)):WCall Tryz.prog 68 #[(Value.agg #[(vS s.d.name),(vI (s.d.rt)),(vI (s.d.dl)),(Value.slice sa (s.d.xs.length) (cp)),(vI (s.st)),(vI (s.ix)),(vB s.cn),(vI (s.tr)),(vI (s.bg)),(vI (s.er))]),(Value.agg #[(vS s.d.name),(vI (s.d.rt)),(vI (s.d.dl)),(Value.slice sb (s.d.xs.length) (cq)),(vI (s.st)),(vI (s.ix)),(vB s.cn),(vI (s.tr)),(vI (s.bg)),(vI (s.er))])] h (fun v h1=>v=.bool true∧Ext h h1):=by
 obtain ⟨b1,eb2⟩:∃ zq,zq=h.size:=⟨_,rfl⟩
 obtain ⟨h3,e4⟩:∃ zq,zq=h.push (.cells #[(vS s.d.name),(vI (s.d.rt)),(vI (s.d.dl)),(Value.slice sa (s.d.xs.length) (cp)),(vI (s.st)),(vI (s.ix)),(vB s.cn),(vI (s.tr)),(vI (s.bg)),(vI (s.er))] 51 (0,0)):=⟨_,rfl⟩
 have f5:=push_new e4
 rw [← eb2] at f5
 have x6:Ext h h3:=by rw [e4]; exact Ext.push _ _
 have o7:h.size≤b1:=by have:=(Ext.refl h).size; omega
 have x8:=(Ext.refl h).trans x6
 obtain ⟨b9,eb10⟩:∃ zq,zq=h3.size:=⟨_,rfl⟩
 obtain ⟨h11,e12⟩:∃ zq,zq=h3.push (.cells #[(vS s.d.name),(vI (s.d.rt)),(vI (s.d.dl)),(Value.slice sb (s.d.xs.length) (cq)),(vI (s.st)),(vI (s.ix)),(vB s.cn),(vI (s.tr)),(vI (s.bg)),(vI (s.er))] 51 (0,0)):=⟨_,rfl⟩
 have f13:=push_new e12
 rw [← eb10] at f13
 have x14:Ext h3 h11:=by rw [e12]; exact Ext.push _ _
 have o15:h.size≤b9:=by have:=x8.size; omega
 have f17:=x14 _ _ f5
 have x18:=x8.trans x14
 obtain ⟨_,hh19,sn20,rfl,x21⟩:=equal_ok h11 s.d _ _ (hl.keep fun b r _ q=>x18 b r q) (by omega) _ _ (hm.keep fun b r _ q=>x18 b r q)
 have f22:=x21 _ _ f17
 have f23:=x21 _ _ f13
 have x24:=x18.trans x21
 exact hCall_ev [evA 0 0 eb2 e4,evA 0 1 eb10 e12,evL 1 1 0 agg31 size31 f17,evL 1 3 0 agg31 size31 f13,evF 1 4 sn20,evC 1 7 4 agg3 f22,evC 1 9 4 agg3 f23,eqT 1 10 3 (Eq.refl ((s.st):Int)),evC 1 14 5 agg3 f22,evC 1 16 5 agg3 f23,eqT 1 17 3 (Eq.refl ((s.ix):Int)),evC 1 21 6 agg4 f22,evC 1 23 6 agg4 f23,evV 1 24 (vB true) (show binA Tryz.prog .eql 4 (vB s.cn) (vB s.cn)=some (vB true) from sb_eql _),evL 1 28 7 agg49 size49 f22,evL 1 30 7 agg49 size49 f23,evV 1 31 (vB true) (show binA Tryz.prog .eql 49 (vA #[(vI s.tr),(vI s.bg)]) (vA #[(vI s.tr),(vI s.bg)])=some (vB true) from cmp49_eql (decide_eq_true ⟨rfl,rfl⟩)),evC 1 35 9 agg34 f22,evC 1 37 9 agg34 f23,eqT 1 38 34 (Eq.refl ((s.er):Int))] [] (vB true) hh19 ⟨rfl,x24⟩
end C29
