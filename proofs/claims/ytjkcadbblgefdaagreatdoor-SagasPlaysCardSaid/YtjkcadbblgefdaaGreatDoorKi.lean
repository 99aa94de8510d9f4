/- The document: budgets. -/
import Derived.Test.YtjkcadbblgefdaaGreatDoorKh
import Derived.Test.YtjkcadbblgefdaaGreatDoorKf
import Derived.KernelRfl
open Go Go.AM Go.Proofs
namespace C29
theorem whenB_true {t b:Int} {d:DefM} (h:whenB t b d=true):¬ d.dl=0∧whenV t b d=b + d.dl:=by
 have w:=of_decide_eq_true h
 exact ⟨w.2,if_pos w⟩
theorem whenB_false {t b:Int} {d:DefM} (h:whenB t b d=false) (hb:budB t b=true) (hd:defB d=true):d.dl=0:=by
 have w:=of_decide_eq_false h
 have e:chkE (budB t b) (defB d) true=0:=by rw [hb,hd]; rfl
 exact Classical.byContradiction fun q=>w ⟨e,q⟩
theorem leftV_eq {t b:Int} {d:DefM} (hb:budB t b=true) (hd:defB d=true):leftV t b d=max 0 (d.rt - t):=by
 have e:chkE (budB t b) (defB d) true=0:=by rw [hb,hd]; rfl
 exact if_pos e
set_option maxHeartbeats 4000000 in
theorem rcheck_ok (h:Heap) (t b:Int) (d:DefM) (sa:Option Addr) (cp:Nat) (hl:LAt h stepc 2 d.xs (.slice sa d.xs.length cp)) (hlen:d.xs.length≤9223372036854775807) (hnm:d.name.size≤9223372036854775807) (hks:∀ x ∈ d.xs,x.key.size≤9223372036854775807) (n:Int):WCall Tryz.prog 123 #[(Value.agg #[(vI (t)),(vI (b))]),(Value.agg #[(vS d.name),(vI (d.rt)),(vI (d.dl)),(Value.slice sa (d.xs.length) (cp))]),(vI (n))] h (fun v h1=>v=.int .i64 (chkE (budB t b) (defB d) (timB n))∧Ext h h1):=by
 refine wcall_by fun K hK=>?_
 refine wcall_at { tmps:=#[(vA #[(vI t),(vI b)]),(vA #[(vS d.name),(vI d.rt),(vI d.dl),(vL sa d.xs.length cp)]),(vI n),vZ,vZ,vZ,vZ,vZ,vZ,vZ,vZ,vZ,vZ,vZ,vZ,vZ,vZ,vZ,vZ],defers:=[] } (by kernel_rfl) ?_
 obtain ⟨b1,eb2⟩:∃ zq,zq=h.size:=⟨_,rfl⟩
 obtain ⟨h3,e4⟩:∃ zq,zq=h.push (.cells #[(vI (t)),(vI (b))] 49 (0,0)):=⟨_,rfl⟩
 have f5:=push_new e4
 rw [← eb2] at f5
 have x6:Ext h h3:=by rw [e4]; exact Ext.push _ _
 have o7:h.size≤b1:=by have:=(Ext.refl h).size; omega
 have x8:=(Ext.refl h).trans x6
 obtain ⟨b9,eb10⟩:∃ zq,zq=h3.size:=⟨_,rfl⟩
 obtain ⟨h11,e12⟩:∃ zq,zq=h3.push (.cells #[(vS d.name),(vI (d.rt)),(vI (d.dl)),(Value.slice sa (d.xs.length) (cp))] 31 (0,0)):=⟨_,rfl⟩
 have f13:=push_new e12
 rw [← eb10] at f13
 have x14:Ext h3 h11:=by rw [e12]; exact Ext.push _ _
 have o15:h.size≤b9:=by have:=x8.size; omega
 have f17:=x14 _ _ f5
 have x18:=x8.trans x14
 obtain ⟨_,hh19,sn20,rfl,x21⟩:=rbcheck_ok h11 t b
 have f22:=x21 _ _ f13
 have x23:=x18.trans x21
 by_cases c24:((if budB t b=true then 0 else 2):Int)=0
 ·obtain ⟨_,hh25,sn26,rfl,x27⟩:=rdcheck_ok hh19 d _ _ (hl.keep fun b r _ q=>x23 b r q) (by omega) hnm hks
  have x28:=x23.trans x27
  by_cases c29:((if defB d=true then 0 else 15):Int)=0
  ·by_cases c30:((n):Int) < 0
   ·refine wc_ev [evA 0 0 eb2 e4,evA 0 1 eb10 e12,evLw 1 0 agg49 size49 f17,evF 1 1 sn20,neF 1 2 34 c24,evLw 3 0 agg31 size31 f22,evF 3 1 sn26,neF 3 2 34 c29,ltT 5 1 3 c30] .ret hh25 [(3,(vP b1 0)),(4,(vP b9 0)),(6,(vI 0)),(7,(vA #[(vI t),(vI b)])),(8,(vI (if budB t b=true then 0 else 2))),(9,(vB false)),(10,(vA #[(vS d.name),(vI d.rt),(vI d.dl),(vL sa d.xs.length cp)])),(11,(vI (if defB d=true then 0 else 15))),(12,(vB false)),(13,(vI n)),(14,(vB true)),(15,(vB true)),(16,vZ),(17,vZ),(18,(vB true)),(6,(vI 2))] ?_
    exact end_ev [] (vI 2) (hK _ _ (⟨by unfold chkE; rw [if_pos (ifz (by decide) c24),if_pos (ifz (by decide) c29),if_neg (by unfold timB; simp only [decide_eq_true_eq]; omega)],x28⟩))
   ·by_cases c31:(2147483648:Int) < (n)
    ·refine wc_ev [evA 0 0 eb2 e4,evA 0 1 eb10 e12,evLw 1 0 agg49 size49 f17,evF 1 1 sn20,neF 1 2 34 c24,evLw 3 0 agg31 size31 f22,evF 3 1 sn26,neF 3 2 34 c29,ltF 5 1 3 c30,gtT 5 4 3 c31] .ret hh25 [(3,(vP b1 0)),(4,(vP b9 0)),(6,(vI 0)),(7,(vA #[(vI t),(vI b)])),(8,(vI (if budB t b=true then 0 else 2))),(9,(vB false)),(10,(vA #[(vS d.name),(vI d.rt),(vI d.dl),(vL sa d.xs.length cp)])),(11,(vI (if defB d=true then 0 else 15))),(12,(vB false)),(13,(vI n)),(14,(vB false)),(15,(vB false)),(16,(vI n)),(17,(vB true)),(18,(vB true)),(6,(vI 2))] ?_
     exact end_ev [] (vI 2) (hK _ _ (⟨by unfold chkE; rw [if_pos (ifz (by decide) c24),if_pos (ifz (by decide) c29),if_neg (by unfold timB; simp only [decide_eq_true_eq]; omega)],x28⟩))
    ·refine wc_ev [evA 0 0 eb2 e4,evA 0 1 eb10 e12,evLw 1 0 agg49 size49 f17,evF 1 1 sn20,neF 1 2 34 c24,evLw 3 0 agg31 size31 f22,evF 3 1 sn26,neF 3 2 34 c29,ltF 5 1 3 c30,gtF 5 4 3 c31] .ret hh25 [(3,(vP b1 0)),(4,(vP b9 0)),(6,(vI 0)),(7,(vA #[(vI t),(vI b)])),(8,(vI (if budB t b=true then 0 else 2))),(9,(vB false)),(10,(vA #[(vS d.name),(vI d.rt),(vI d.dl),(vL sa d.xs.length cp)])),(11,(vI (if defB d=true then 0 else 15))),(12,(vB false)),(13,(vI n)),(14,(vB false)),(15,(vB false)),(16,(vI n)),(17,(vB false)),(18,(vB false)),(6,(vI 0))] ?_
     exact end_ev [] (vI 0) (hK _ _ (⟨by unfold chkE; rw [if_pos (ifz (by decide) c24),if_pos (ifz (by decide) c29),if_pos (by unfold timB; simp only [decide_eq_true_eq]; omega)],x28⟩))
  ·refine wc_ev [evA 0 0 eb2 e4,evA 0 1 eb10 e12,evLw 1 0 agg49 size49 f17,evF 1 1 sn20,neF 1 2 34 c24,evLw 3 0 agg31 size31 f22,evF 3 1 sn26,neT 3 2 34 c29] .ret hh25 [(3,(vP b1 0)),(4,(vP b9 0)),(6,(vI 0)),(7,(vA #[(vI t),(vI b)])),(8,(vI (if budB t b=true then 0 else 2))),(9,(vB false)),(10,(vA #[(vS d.name),(vI d.rt),(vI d.dl),(vL sa d.xs.length cp)])),(11,(vI (if defB d=true then 0 else 15))),(12,(vB true)),(6,(vI 15))] ?_
   exact end_ev [] (vI 15) (hK _ _ (⟨by unfold chkE; rw [if_pos (ifz (by decide) c24),if_neg (fun w=>c29 (by rw [if_pos w]))],x28⟩))
 ·refine wc_ev [evA 0 0 eb2 e4,evA 0 1 eb10 e12,evLw 1 0 agg49 size49 f17,evF 1 1 sn20,neT 1 2 34 c24] .ret hh19 [(3,(vP b1 0)),(4,(vP b9 0)),(6,(vI 0)),(7,(vA #[(vI t),(vI b)])),(8,(vI (if budB t b=true then 0 else 2))),(9,(vB true)),(6,(vI 2))] ?_
  exact end_ev [] (vI 2) (hK _ _ (⟨by unfold chkE; rw [if_neg (fun w=>c24 (by rw [if_pos w]))],x23⟩))
set_option maxHeartbeats 4000000 in
theorem rwhen_ok (h:Heap) (t b:Int) (d:DefM) (sa:Option Addr) (cp:Nat) (hl:LAt h stepc 2 d.xs (.slice sa d.xs.length cp)) (hlen:d.xs.length≤9223372036854775807) (hnm:d.name.size≤9223372036854775807) (hks:∀ x ∈ d.xs,x.key.size≤9223372036854775807):WCall Tryz.prog 145 #[(Value.agg #[(vI (t)),(vI (b))]),(Value.agg #[(vS d.name),(vI (d.rt)),(vI (d.dl)),(Value.slice sa (d.xs.length) (cp))])] h (fun v h1=>v=.tuple #[.int .i64 (whenV t b d),.bool (whenB t b d),.int .i64 (chkE (budB t b) (defB d) true)]∧Ext h h1):=by
 refine wcall_by fun K hK=>?_
 refine wcall_at { tmps:=#[(vA #[(vI t),(vI b)]),(vA #[(vS d.name),(vI d.rt),(vI d.dl),(vL sa d.xs.length cp)]),vZ,vZ,vZ,vZ,vZ,vZ,vZ,vZ,vZ,vZ,vZ,vZ,vZ,vZ,vZ,vZ,vZ,vZ,vZ,vZ,vZ,vZ],defers:=[] } (by kernel_rfl) ?_
 obtain ⟨b1,eb2⟩:∃ zq,zq=h.size:=⟨_,rfl⟩
 obtain ⟨h3,e4⟩:∃ zq,zq=h.push (.cells #[(vI (t)),(vI (b))] 49 (0,0)):=⟨_,rfl⟩
 have f5:=push_new e4
 rw [← eb2] at f5
 have x6:Ext h h3:=by rw [e4]; exact Ext.push _ _
 have o7:h.size≤b1:=by have:=(Ext.refl h).size; omega
 have x8:=(Ext.refl h).trans x6
 obtain ⟨b9,eb10⟩:∃ zq,zq=h3.size:=⟨_,rfl⟩
 obtain ⟨h11,e12⟩:∃ zq,zq=h3.push (.cells #[(vS d.name),(vI (d.rt)),(vI (d.dl)),(Value.slice sa (d.xs.length) (cp))] 31 (0,0)):=⟨_,rfl⟩
 have f13:=push_new e12
 rw [← eb10] at f13
 have x14:Ext h3 h11:=by rw [e12]; exact Ext.push _ _
 have o15:h.size≤b9:=by have:=x8.size; omega
 have f17:=x14 _ _ f5
 have x18:=x8.trans x14
 obtain ⟨_,hh19,sn20,rfl,x21⟩:=rcheck_ok h11 t b d _ _ (hl.keep fun b r _ q=>x18 b r q) (by omega) hnm hks 0
 have f22:=x21 _ _ f17
 have f23:=x21 _ _ f13
 have x24:=x18.trans x21
 by_cases c25:((chkE (budB t b) (defB d) true):Int)=0
 ·obtain ⟨z857b,z857d,z857t⟩:=chkE_zero c25
  have:=defB_of z857d
  have:=budB_of z857b
  by_cases c26:((d.dl):Int)=0
  ·refine wc_ev [evA 0 0 eb2 e4,evA 0 1 eb10 e12,evLw 1 0 agg49 size49 f17,evLw 1 1 agg31 size31 f13,evF 1 2 sn20,neF 2 1 34 c25,evC 2 4 2 agg3 f23,eqT 2 5 3 c26] .ret hh19 [(2,(vP b1 0)),(3,(vP b9 0)),(4,(vI 0)),(5,(vB false)),(6,(vI 0)),(8,(vA #[(vI t),(vI b)])),(9,(vA #[(vS d.name),(vI d.rt),(vI d.dl),(vL sa d.xs.length cp)])),(10,(vI (chkE (budB t b) (defB d) true))),(7,(vI (chkE (budB t b) (defB d) true))),(11,(vI (chkE (budB t b) (defB d) true))),(12,(vB false)),(13,(vB false)),(14,(vP b9 2)),(15,(vI d.dl)),(16,(vB true)),(17,(vB true)),(18,(vI (chkE (budB t b) (defB d) true))),(4,(vI 0)),(5,(vB false)),(6,(vI (chkE (budB t b) (defB d) true)))] ?_
   exact end_ev [] (vT #[(vI 0),(vB false),(vI (chkE (budB t b) (defB d) true))]) (hK _ _ (⟨by unfold whenV whenB; rw [if_neg (fun w=>absurd w.2 (by omega)),decide_eq_false (fun w=>absurd w.2 (by omega))],x24⟩))
  ·refine wc_ev [evA 0 0 eb2 e4,evA 0 1 eb10 e12,evLw 1 0 agg49 size49 f17,evLw 1 1 agg31 size31 f13,evF 1 2 sn20,neF 2 1 34 c25,evC 2 4 2 agg3 f23,eqF 2 5 3 c26,evC 4 1 1 agg3 f22,evC 4 3 2 agg3 f23,evV 4 4 (vI ((b) + (d.dl))) (show binA Tryz.prog .add 3 (vI b) (vI d.dl)=some (vI ((b) + (d.dl))) from add_i64 (by omega) (by omega))] .ret hh19 [(2,(vP b1 0)),(3,(vP b9 0)),(4,(vI 0)),(5,(vB false)),(6,(vI 0)),(8,(vA #[(vI t),(vI b)])),(9,(vA #[(vS d.name),(vI d.rt),(vI d.dl),(vL sa d.xs.length cp)])),(10,(vI (chkE (budB t b) (defB d) true))),(7,(vI (chkE (budB t b) (defB d) true))),(11,(vI (chkE (budB t b) (defB d) true))),(12,(vB false)),(13,(vB false)),(14,(vP b9 2)),(15,(vI d.dl)),(16,(vB false)),(17,(vB false)),(19,(vP b1 1)),(20,(vI b)),(21,(vP b9 2)),(22,(vI d.dl)),(23,(vI ((b) + (d.dl)))),(4,(vI ((b) + (d.dl)))),(5,(vB true)),(6,(vI 0))] ?_
   exact end_ev [] (vT #[(vI ((b) + (d.dl))),(vB true),(vI 0)]) (hK _ _ (⟨by unfold whenV whenB; rw [if_pos ⟨c25,by omega⟩,decide_eq_true ⟨c25,by omega⟩,c25],x24⟩))
 ·refine wc_ev [evA 0 0 eb2 e4,evA 0 1 eb10 e12,evLw 1 0 agg49 size49 f17,evLw 1 1 agg31 size31 f13,evF 1 2 sn20,neT 2 1 34 c25] .ret hh19 [(2,(vP b1 0)),(3,(vP b9 0)),(4,(vI 0)),(5,(vB false)),(6,(vI 0)),(8,(vA #[(vI t),(vI b)])),(9,(vA #[(vS d.name),(vI d.rt),(vI d.dl),(vL sa d.xs.length cp)])),(10,(vI (chkE (budB t b) (defB d) true))),(7,(vI (chkE (budB t b) (defB d) true))),(11,(vI (chkE (budB t b) (defB d) true))),(12,(vB true)),(13,(vB true)),(14,vZ),(15,vZ),(16,vZ),(17,(vB true)),(18,(vI (chkE (budB t b) (defB d) true))),(4,(vI 0)),(5,(vB false)),(6,(vI (chkE (budB t b) (defB d) true)))] ?_
  exact end_ev [] (vT #[(vI 0),(vB false),(vI (chkE (budB t b) (defB d) true))]) (hK _ _ (⟨by unfold whenV whenB; rw [if_neg (fun w=>c25 w.1),decide_eq_false (fun w=>c25 w.1)],x24⟩))
set_option maxHeartbeats 4000000 in
theorem rlate_ok (h:Heap) (t b:Int) (d:DefM) (sa:Option Addr) (cp:Nat) (hl:LAt h stepc 2 d.xs (.slice sa d.xs.length cp)) (hlen:d.xs.length≤9223372036854775807) (hnm:d.name.size≤9223372036854775807) (hks:∀ x ∈ d.xs,x.key.size≤9223372036854775807) (n:Int):WCall Tryz.prog 124 #[(Value.agg #[(vI (t)),(vI (b))]),(Value.agg #[(vS d.name),(vI (d.rt)),(vI (d.dl)),(Value.slice sa (d.xs.length) (cp))]),(vI (n))] h (fun v h1=>v=.tuple #[.bool (lateM t b d n),.int .i64 (chkE (budB t b) (defB d) (timB n))]∧Ext h h1):=by
 refine wcall_by fun K hK=>?_
 refine wcall_at { tmps:=#[(vA #[(vI t),(vI b)]),(vA #[(vS d.name),(vI d.rt),(vI d.dl),(vL sa d.xs.length cp)]),(vI n),vZ,vZ,vZ,vZ,vZ,vZ,vZ,vZ,vZ,vZ,vZ,vZ,vZ,vZ,vZ,vZ,vZ,vZ,vZ,vZ,vZ,vZ,vZ,vZ,vZ,vZ,vZ,vZ,vZ],defers:=[] } (by kernel_rfl) ?_
 obtain ⟨b1,eb2⟩:∃ zq,zq=h.size:=⟨_,rfl⟩
 obtain ⟨h3,e4⟩:∃ zq,zq=h.push (.cells #[(vI (t)),(vI (b))] 49 (0,0)):=⟨_,rfl⟩
 have f5:=push_new e4
 rw [← eb2] at f5
 have x6:Ext h h3:=by rw [e4]; exact Ext.push _ _
 have o7:h.size≤b1:=by have:=(Ext.refl h).size; omega
 have x8:=(Ext.refl h).trans x6
 obtain ⟨b9,eb10⟩:∃ zq,zq=h3.size:=⟨_,rfl⟩
 obtain ⟨h11,e12⟩:∃ zq,zq=h3.push (.cells #[(vS d.name),(vI (d.rt)),(vI (d.dl)),(Value.slice sa (d.xs.length) (cp))] 31 (0,0)):=⟨_,rfl⟩
 have f13:=push_new e12
 rw [← eb10] at f13
 have x14:Ext h3 h11:=by rw [e12]; exact Ext.push _ _
 have o15:h.size≤b9:=by have:=x8.size; omega
 have f17:=x14 _ _ f5
 have x18:=x8.trans x14
 obtain ⟨_,hh19,sn20,rfl,x21⟩:=rcheck_ok h11 t b d _ _ (hl.keep fun b r _ q=>x18 b r q) (by omega) hnm hks n
 have f22:=x21 _ _ f17
 have f23:=x21 _ _ f13
 have x24:=x18.trans x21
 by_cases c25:((chkE (budB t b) (defB d) (timB n)):Int)=0
 ·obtain ⟨z886b,z886d,z886t⟩:=chkE_zero c25
  have:=defB_of z886d
  have:=budB_of z886b
  have:=timB_of z886t
  obtain ⟨_,hh26,sn27,rfl,x28⟩:=rwhen_ok hh19 t b d _ _ (hl.keep fun b r _ q=>x24 b r q) (by omega) hnm hks
  have x29:=x24.trans x28
  rcases Bool.eq_false_or_eq_true ((whenB t b d)) with c30 | c30
  ·by_cases c31:((whenV t b d):Int)≤(n)
   ·refine wc_ev [evA 0 0 eb2 e4,evA 0 1 eb10 e12,evLw 1 0 agg49 size49 f17,evLw 1 1 agg31 size31 f13,evF 1 3 sn20,neF 2 1 34 c25,evLw 4 0 agg49 size49 f22,evLw 4 1 agg31 size31 f23,evF 4 2 sn27,evM 5 1 c30,geT 5 4 3 c31] .ret hh26 [(3,(vP b1 0)),(4,(vP b9 0)),(6,(vB false)),(7,(vI 0)),(12,(vA #[(vI t),(vI b)])),(13,(vA #[(vS d.name),(vI d.rt),(vI d.dl),(vL sa d.xs.length cp)])),(14,(vI n)),(15,(vI (chkE (budB t b) (defB d) (timB n)))),(8,(vI (chkE (budB t b) (defB d) (timB n)))),(16,(vI (chkE (budB t b) (defB d) (timB n)))),(17,(vB false)),(20,(vA #[(vI t),(vI b)])),(21,(vA #[(vS d.name),(vI d.rt),(vI d.dl),(vL sa d.xs.length cp)])),(22,(vT #[(vI (whenV t b d)),(vB (whenB t b d)),(vI (chkE (budB t b) (defB d) true))])),(19,(vT #[(vI (whenV t b d)),(vB (whenB t b d)),(vI (chkE (budB t b) (defB d) true))])),(23,(vI (whenV t b d))),(24,(vB (whenB t b d))),(25,(vI (chkE (budB t b) (defB d) true))),(9,(vI (whenV t b d))),(10,(vB (whenB t b d))),(11,(vI (chkE (budB t b) (defB d) true))),(26,(vB (whenB t b d))),(27,(vB true)),(28,(vI n)),(29,(vI (whenV t b d))),(30,(vB true)),(31,(vB true)),(6,(vB true)),(7,(vI 0))] ?_
    obtain ⟨w1,w2⟩:=whenB_true c30
    exact end_ev [] (vT #[(vB true),(vI 0)]) (hK _ _ (⟨by unfold lateM; rw [decide_eq_true (by omega),c25],x29⟩))
   ·refine wc_ev [evA 0 0 eb2 e4,evA 0 1 eb10 e12,evLw 1 0 agg49 size49 f17,evLw 1 1 agg31 size31 f13,evF 1 3 sn20,neF 2 1 34 c25,evLw 4 0 agg49 size49 f22,evLw 4 1 agg31 size31 f23,evF 4 2 sn27,evM 5 1 c30,geF 5 4 3 c31] .ret hh26 [(3,(vP b1 0)),(4,(vP b9 0)),(6,(vB false)),(7,(vI 0)),(12,(vA #[(vI t),(vI b)])),(13,(vA #[(vS d.name),(vI d.rt),(vI d.dl),(vL sa d.xs.length cp)])),(14,(vI n)),(15,(vI (chkE (budB t b) (defB d) (timB n)))),(8,(vI (chkE (budB t b) (defB d) (timB n)))),(16,(vI (chkE (budB t b) (defB d) (timB n)))),(17,(vB false)),(20,(vA #[(vI t),(vI b)])),(21,(vA #[(vS d.name),(vI d.rt),(vI d.dl),(vL sa d.xs.length cp)])),(22,(vT #[(vI (whenV t b d)),(vB (whenB t b d)),(vI (chkE (budB t b) (defB d) true))])),(19,(vT #[(vI (whenV t b d)),(vB (whenB t b d)),(vI (chkE (budB t b) (defB d) true))])),(23,(vI (whenV t b d))),(24,(vB (whenB t b d))),(25,(vI (chkE (budB t b) (defB d) true))),(9,(vI (whenV t b d))),(10,(vB (whenB t b d))),(11,(vI (chkE (budB t b) (defB d) true))),(26,(vB (whenB t b d))),(27,(vB true)),(28,(vI n)),(29,(vI (whenV t b d))),(30,(vB false)),(31,(vB false)),(6,(vB false)),(7,(vI 0))] ?_
    obtain ⟨w1,w2⟩:=whenB_true c30
    exact end_ev [] (vT #[(vB false),(vI 0)]) (hK _ _ (⟨by unfold lateM; rw [decide_eq_false (by omega),c25],x29⟩))
  ·refine wc_ev [evA 0 0 eb2 e4,evA 0 1 eb10 e12,evLw 1 0 agg49 size49 f17,evLw 1 1 agg31 size31 f13,evF 1 3 sn20,neF 2 1 34 c25,evLw 4 0 agg49 size49 f22,evLw 4 1 agg31 size31 f23,evF 4 2 sn27,evM 5 1 c30] .ret hh26 [(3,(vP b1 0)),(4,(vP b9 0)),(6,(vB false)),(7,(vI 0)),(12,(vA #[(vI t),(vI b)])),(13,(vA #[(vS d.name),(vI d.rt),(vI d.dl),(vL sa d.xs.length cp)])),(14,(vI n)),(15,(vI (chkE (budB t b) (defB d) (timB n)))),(8,(vI (chkE (budB t b) (defB d) (timB n)))),(16,(vI (chkE (budB t b) (defB d) (timB n)))),(17,(vB false)),(20,(vA #[(vI t),(vI b)])),(21,(vA #[(vS d.name),(vI d.rt),(vI d.dl),(vL sa d.xs.length cp)])),(22,(vT #[(vI (whenV t b d)),(vB (whenB t b d)),(vI (chkE (budB t b) (defB d) true))])),(19,(vT #[(vI (whenV t b d)),(vB (whenB t b d)),(vI (chkE (budB t b) (defB d) true))])),(23,(vI (whenV t b d))),(24,(vB (whenB t b d))),(25,(vI (chkE (budB t b) (defB d) true))),(9,(vI (whenV t b d))),(10,(vB (whenB t b d))),(11,(vI (chkE (budB t b) (defB d) true))),(26,(vB (whenB t b d))),(27,(vB false)),(28,vZ),(29,vZ),(30,vZ),(31,(vB false)),(6,(vB false)),(7,(vI 0))] ?_
   have w1:=whenB_false c30 z886b z886d
   exact end_ev [] (vT #[(vB false),(vI 0)]) (hK _ _ (⟨by unfold lateM; rw [decide_eq_false (by omega),c25],x29⟩))
 ·refine wc_ev [evA 0 0 eb2 e4,evA 0 1 eb10 e12,evLw 1 0 agg49 size49 f17,evLw 1 1 agg31 size31 f13,evF 1 3 sn20,neT 2 1 34 c25] .ret hh19 [(3,(vP b1 0)),(4,(vP b9 0)),(6,(vB false)),(7,(vI 0)),(12,(vA #[(vI t),(vI b)])),(13,(vA #[(vS d.name),(vI d.rt),(vI d.dl),(vL sa d.xs.length cp)])),(14,(vI n)),(15,(vI (chkE (budB t b) (defB d) (timB n)))),(8,(vI (chkE (budB t b) (defB d) (timB n)))),(16,(vI (chkE (budB t b) (defB d) (timB n)))),(17,(vB true)),(18,(vI (chkE (budB t b) (defB d) (timB n)))),(6,(vB false)),(7,(vI (chkE (budB t b) (defB d) (timB n))))] ?_
  exact end_ev [] (vT #[(vB false),(vI (chkE (budB t b) (defB d) (timB n)))]) (hK _ _ (⟨by unfold lateM; rw [decide_eq_false (fun w=>c25 w.1)],x24⟩))
set_option maxHeartbeats 4000000 in
theorem rleft_ok (h:Heap) (t b:Int) (d:DefM) (sa:Option Addr) (cp:Nat) (hl:LAt h stepc 2 d.xs (.slice sa d.xs.length cp)) (hlen:d.xs.length≤9223372036854775807) (hnm:d.name.size≤9223372036854775807) (hks:∀ x ∈ d.xs,x.key.size≤9223372036854775807):WCall Tryz.prog 146 #[(Value.agg #[(vI (t)),(vI (b))]),(Value.agg #[(vS d.name),(vI (d.rt)),(vI (d.dl)),(Value.slice sa (d.xs.length) (cp))])] h (fun v h1=>v=.tuple #[.int .i64 (leftV t b d),.int .i64 (chkE (budB t b) (defB d) true)]∧Ext h h1):=by
 refine wcall_by fun K hK=>?_
 refine wcall_at { tmps:=#[(vA #[(vI t),(vI b)]),(vA #[(vS d.name),(vI d.rt),(vI d.dl),(vL sa d.xs.length cp)]),vZ,vZ,vZ,vZ,vZ,vZ,vZ,vZ,vZ,vZ,vZ,vZ,vZ,vZ,vZ,vZ,vZ],defers:=[] } (by kernel_rfl) ?_
 obtain ⟨b1,eb2⟩:∃ zq,zq=h.size:=⟨_,rfl⟩
 obtain ⟨h3,e4⟩:∃ zq,zq=h.push (.cells #[(vI (t)),(vI (b))] 49 (0,0)):=⟨_,rfl⟩
 have f5:=push_new e4
 rw [← eb2] at f5
 have x6:Ext h h3:=by rw [e4]; exact Ext.push _ _
 have o7:h.size≤b1:=by have:=(Ext.refl h).size; omega
 have x8:=(Ext.refl h).trans x6
 obtain ⟨b9,eb10⟩:∃ zq,zq=h3.size:=⟨_,rfl⟩
 obtain ⟨h11,e12⟩:∃ zq,zq=h3.push (.cells #[(vS d.name),(vI (d.rt)),(vI (d.dl)),(Value.slice sa (d.xs.length) (cp))] 31 (0,0)):=⟨_,rfl⟩
 have f13:=push_new e12
 rw [← eb10] at f13
 have x14:Ext h3 h11:=by rw [e12]; exact Ext.push _ _
 have o15:h.size≤b9:=by have:=x8.size; omega
 have f17:=x14 _ _ f5
 have x18:=x8.trans x14
 obtain ⟨_,hh19,sn20,rfl,x21⟩:=rcheck_ok h11 t b d _ _ (hl.keep fun b r _ q=>x18 b r q) (by omega) hnm hks 0
 have f22:=x21 _ _ f17
 have f23:=x21 _ _ f13
 have x24:=x18.trans x21
 by_cases c25:((chkE (budB t b) (defB d) true):Int)=0
 ·obtain ⟨z922b,z922d,z922t⟩:=chkE_zero c25
  have:=defB_of z922d
  have:=budB_of z922b
  refine wc_ev [evA 0 0 eb2 e4,evA 0 1 eb10 e12,evLw 1 0 agg49 size49 f17,evLw 1 1 agg31 size31 f13,evF 1 2 sn20,neF 2 1 34 c25,evC 4 1 1 agg3 f23,evC 4 3 0 agg3 f22,evV 4 4 (vI ((d.rt) - (t))) (show binA Tryz.prog .sub 3 (vI d.rt) (vI t)=some (vI ((d.rt) - (t))) from sub_i64 (by omega) (by omega)),evV 4 5 (vI (max 0 ((d.rt) - (t)))) (show (vI (max 0 ((d.rt) - (t))))=(vI (if ((d.rt) - (t)) > 0 then ((d.rt) - (t)) else 0)) from by rw [max_ite])] .ret hh19 [(2,(vP b1 0)),(3,(vP b9 0)),(4,(vI 0)),(5,(vI 0)),(7,(vA #[(vI t),(vI b)])),(8,(vA #[(vS d.name),(vI d.rt),(vI d.dl),(vL sa d.xs.length cp)])),(9,(vI (chkE (budB t b) (defB d) true))),(6,(vI (chkE (budB t b) (defB d) true))),(10,(vI (chkE (budB t b) (defB d) true))),(11,(vB false)),(13,(vP b9 1)),(14,(vI d.rt)),(15,(vP b1 0)),(16,(vI t)),(17,(vI ((d.rt) - (t)))),(18,(vI (max 0 ((d.rt) - (t))))),(4,(vI (max 0 ((d.rt) - (t))))),(5,(vI 0))] ?_
  exact end_ev [] (vT #[(vI (max 0 ((d.rt) - (t)))),(vI 0)]) (hK _ _ (⟨by unfold leftV; rw [if_pos c25,c25],x24⟩))
 ·refine wc_ev [evA 0 0 eb2 e4,evA 0 1 eb10 e12,evLw 1 0 agg49 size49 f17,evLw 1 1 agg31 size31 f13,evF 1 2 sn20,neT 2 1 34 c25] .ret hh19 [(2,(vP b1 0)),(3,(vP b9 0)),(4,(vI 0)),(5,(vI 0)),(7,(vA #[(vI t),(vI b)])),(8,(vA #[(vS d.name),(vI d.rt),(vI d.dl),(vL sa d.xs.length cp)])),(9,(vI (chkE (budB t b) (defB d) true))),(6,(vI (chkE (budB t b) (defB d) true))),(10,(vI (chkE (budB t b) (defB d) true))),(11,(vB true)),(12,(vI (chkE (budB t b) (defB d) true))),(4,(vI 0)),(5,(vI (chkE (budB t b) (defB d) true)))] ?_
  exact end_ev [] (vT #[(vI 0),(vI (chkE (budB t b) (defB d) true))]) (hK _ _ (⟨by unfold leftV; rw [if_neg c25],x24⟩))
set_option maxHeartbeats 4000000 in
theorem rstart_ok (h:Heap) (d:DefM) (sa:Option Addr) (cp:Nat) (hl:LAt h stepc 2 d.xs (.slice sa d.xs.length cp)) (hlen:d.xs.length≤9223372036854775807) (hnm:d.name.size≤9223372036854775807) (hks:∀ x ∈ d.xs,x.key.size≤9223372036854775807) (n:Int):WCall Tryz.prog 91 #[(Value.agg #[(vS d.name),(vI (d.rt)),(vI (d.dl)),(Value.slice sa (d.xs.length) (cp))]),(vI (n))] h (fun v h1=>v=.tuple #[.agg #[.int .i64 0,.int .i64 (stS d n)],.int .i64 (chkE true (defB d) (timB n))]∧Ext h h1):=by
 refine wcall_by fun K hK=>?_
 refine wcall_at { tmps:=#[(vA #[(vS d.name),(vI d.rt),(vI d.dl),(vL sa d.xs.length cp)]),(vI n),vZ,vZ,vZ,vZ,vZ,vZ,vZ,vZ,vZ,vZ,vZ,vZ,vZ,vZ,vZ],defers:=[] } (by kernel_rfl) ?_
 obtain ⟨b1,eb2⟩:∃ zq,zq=h.size:=⟨_,rfl⟩
 obtain ⟨h3,e4⟩:∃ zq,zq=h.push (.cells #[(vS d.name),(vI (d.rt)),(vI (d.dl)),(Value.slice sa (d.xs.length) (cp))] 31 (0,0)):=⟨_,rfl⟩
 have f5:=push_new e4
 rw [← eb2] at f5
 have x6:Ext h h3:=by rw [e4]; exact Ext.push _ _
 have o7:h.size≤b1:=by have:=(Ext.refl h).size; omega
 have x8:=(Ext.refl h).trans x6
 obtain ⟨b9,eb10⟩:∃ zq,zq=h3.size:=⟨_,rfl⟩
 obtain ⟨h11,e12⟩:∃ zq,zq=h3.push (.cells #[(vI 0),(vI 0)] 49 (0,0)):=⟨_,rfl⟩
 have f13:=push_new e12
 rw [← eb10] at f13
 have x14:Ext h3 h11:=by rw [e12]; exact Ext.push _ _
 have o15:h.size≤b9:=by have:=x8.size; omega
 have f17:=x14 _ _ f5
 have x18:=x8.trans x14
 obtain ⟨_,hh19,sn20,rfl,x21⟩:=rcheck_ok h11 0 0 d _ _ (hl.keep fun b r _ q=>x18 b r q) (by omega) hnm hks n
 have f22:=x21 _ _ f13
 have x23:=x18.trans x21
 by_cases c24:((chkE true (defB d) (timB n)):Int)=0
 ·obtain ⟨z950b,z950d,z950t⟩:=chkE_zero c24
  have:=defB_of z950d
  have:=timB_of z950t
  obtain ⟨h25,e26⟩:∃ zq,zq=hh19.setIfInBounds b9 (.cells #[(vI 0),(vI (n))] 49 (0,0)):=⟨_,rfl⟩
  have f27:=set_same e26 f22
  have x28:=Ext.setNew x23 e26 o15
  refine wc_ev [evA 0 0 eb2 e4,evA 0 1 eb10 e12,evLw 1 1 agg31 size31 f17,evF 1 3 sn20,neF 2 1 34 c24,evUw 4 2 size49 f22 e26] .ret h25 [(2,(vP b1 0)),(4,(vP b9 0)),(5,(vI 0)),(7,(vA #[(vI 0),(vI 0)])),(8,(vA #[(vS d.name),(vI d.rt),(vI d.dl),(vL sa d.xs.length cp)])),(9,(vI n)),(10,(vI (chkE true (defB d) (timB n)))),(6,(vI (chkE true (defB d) (timB n)))),(11,(vI (chkE true (defB d) (timB n)))),(12,(vB false)),(15,(vI n)),(16,(vA #[(vI 0),(vI n)])),(5,(vI 0))] ?_
  exact end_ev [evLw 0 0 agg49 size49 f27,evR (vI 0)] (vT #[(vA #[(vI 0),(vI n)]),(vI 0)]) (hK _ _ (⟨by unfold stS; rw [if_pos c24,c24],x28⟩))
 ·obtain ⟨h29,e30⟩:∃ zq,zq=hh19.setIfInBounds b9 (.cells #[(vI 0),(vI 0)] 49 (0,0)):=⟨_,rfl⟩
  have f31:=set_same e30 f22
  have x32:=Ext.setNew x23 e30 o15
  refine wc_ev [evA 0 0 eb2 e4,evA 0 1 eb10 e12,evLw 1 1 agg31 size31 f17,evF 1 3 sn20,neT 2 1 34 c24,evUw 3 2 size49 f22 e30] .ret h29 [(2,(vP b1 0)),(4,(vP b9 0)),(5,(vI 0)),(7,(vA #[(vI 0),(vI 0)])),(8,(vA #[(vS d.name),(vI d.rt),(vI d.dl),(vL sa d.xs.length cp)])),(9,(vI n)),(10,(vI (chkE true (defB d) (timB n)))),(6,(vI (chkE true (defB d) (timB n)))),(11,(vI (chkE true (defB d) (timB n)))),(12,(vB true)),(13,(vA #[(vI 0),(vI 0)])),(14,(vI (chkE true (defB d) (timB n)))),(5,(vI (chkE true (defB d) (timB n))))] ?_
  exact end_ev [evLw 0 0 agg49 size49 f31,evR (vI (chkE true (defB d) (timB n)))] (vT #[(vA #[(vI 0),(vI 0)]),(vI (chkE true (defB d) (timB n)))]) (hK _ _ (⟨by unfold stS; rw [if_neg c24],x32⟩))
set_option maxHeartbeats 4000000 in
theorem ragain_ok (h:Heap) (t b:Int) (d:DefM) (sa:Option Addr) (cp:Nat) (hl:LAt h stepc 2 d.xs (.slice sa d.xs.length cp)) (hlen:d.xs.length≤9223372036854775807) (hnm:d.name.size≤9223372036854775807) (hks:∀ x ∈ d.xs,x.key.size≤9223372036854775807) (n:Int):WCall Tryz.prog 125 #[(Value.agg #[(vI (t)),(vI (b))]),(Value.agg #[(vS d.name),(vI (d.rt)),(vI (d.dl)),(Value.slice sa (d.xs.length) (cp))]),(vI (n))] h (fun v h1=>v=.tuple #[.agg #[.int .i64 (agT t b d n),.int .i64 (agS t b d n)],.bool (agB t b d n),.int .i64 (agE t b d n)]∧Ext h h1):=by
 refine wcall_by fun K hK=>?_
 refine wcall_at { tmps:=#[(vA #[(vI t),(vI b)]),(vA #[(vS d.name),(vI d.rt),(vI d.dl),(vL sa d.xs.length cp)]),(vI n),vZ,vZ,vZ,vZ,vZ,vZ,vZ,vZ,vZ,vZ,vZ,vZ,vZ,vZ,vZ,vZ,vZ,vZ,vZ,vZ,vZ,vZ,vZ,vZ,vZ,vZ,vZ,vZ,vZ,vZ,vZ,vZ,vZ,vZ,vZ,vZ,vZ,vZ,vZ,vZ,vZ,vZ,vZ,vZ,vZ,vZ,vZ,vZ,vZ,vZ],defers:=[] } (by kernel_rfl) ?_
 obtain ⟨b1,eb2⟩:∃ zq,zq=h.size:=⟨_,rfl⟩
 obtain ⟨h3,e4⟩:∃ zq,zq=h.push (.cells #[(vI (t)),(vI (b))] 49 (0,0)):=⟨_,rfl⟩
 have f5:=push_new e4
 rw [← eb2] at f5
 have x6:Ext h h3:=by rw [e4]; exact Ext.push _ _
 have o7:h.size≤b1:=by have:=(Ext.refl h).size; omega
 have x8:=(Ext.refl h).trans x6
 obtain ⟨b9,eb10⟩:∃ zq,zq=h3.size:=⟨_,rfl⟩
 obtain ⟨h11,e12⟩:∃ zq,zq=h3.push (.cells #[(vS d.name),(vI (d.rt)),(vI (d.dl)),(Value.slice sa (d.xs.length) (cp))] 31 (0,0)):=⟨_,rfl⟩
 have f13:=push_new e12
 rw [← eb10] at f13
 have x14:Ext h3 h11:=by rw [e12]; exact Ext.push _ _
 have o15:h.size≤b9:=by have:=x8.size; omega
 have f17:=x14 _ _ f5
 have x18:=x8.trans x14
 obtain ⟨b19,eb20⟩:∃ zq,zq=h11.size:=⟨_,rfl⟩
 obtain ⟨h21,e22⟩:∃ zq,zq=h11.push (.cells #[(vI 0),(vI 0)] 49 (0,0)):=⟨_,rfl⟩
 have f23:=push_new e22
 rw [← eb20] at f23
 have x24:Ext h11 h21:=by rw [e22]; exact Ext.push _ _
 have o25:h.size≤b19:=by have:=x18.size; omega
 have f26:=x24 _ _ f17
 have f27:=x24 _ _ f13
 have x28:=x18.trans x24
 obtain ⟨_,hh29,sn30,rfl,x31⟩:=rcheck_ok h21 t b d _ _ (hl.keep fun b r _ q=>x28 b r q) (by omega) hnm hks n
 have f33:=x31 _ _ f26
 have f34:=x31 _ _ f27
 have f35:=x31 _ _ f23
 have x36:=x28.trans x31
 by_cases c37:((chkE (budB t b) (defB d) (timB n)):Int)=0
 ·obtain ⟨z1004b,z1004d,z1004t⟩:=chkE_zero c37
  have:=defB_of z1004d
  have:=budB_of z1004b
  have:=timB_of z1004t
  by_cases c38:((d.rt):Int) < (t)
  ·obtain ⟨h39,e40⟩:∃ zq,zq=hh29.setIfInBounds b19 (.cells #[(vI 0),(vI 0)] 49 (0,0)):=⟨_,rfl⟩
   have f41:=set_same e40 f35
   have x42:=Ext.setNew x36 e40 o25
   refine wc_ev [evA 0 0 eb2 e4,evA 0 1 eb10 e12,evA 0 2 eb20 e22,evLw 1 0 agg49 size49 f26,evLw 1 1 agg31 size31 f27,evF 1 3 sn30,neF 2 1 34 c37,evC 4 1 0 agg3 f33,evC 4 3 1 agg3 f34,gtT 4 4 3 c38,evUw 5 1 size49 f35 e40] .ret h39 [(3,(vP b1 0)),(4,(vP b9 0)),(6,(vP b19 0)),(7,(vB false)),(8,(vI 0)),(14,(vA #[(vI t),(vI b)])),(15,(vA #[(vS d.name),(vI d.rt),(vI d.dl),(vL sa d.xs.length cp)])),(16,(vI n)),(17,(vI (chkE (budB t b) (defB d) (timB n)))),(9,(vI (chkE (budB t b) (defB d) (timB n)))),(18,(vI (chkE (budB t b) (defB d) (timB n)))),(19,(vB false)),(22,(vP b1 0)),(23,(vI t)),(24,(vP b9 1)),(25,(vI d.rt)),(26,(vB true)),(27,(vA #[(vI 0),(vI 0)])),(7,(vB false)),(8,(vI 9))] ?_
   have ea:agE t b d n=9:=by unfold agE; rw [if_pos c37,if_pos (by omega)]
   exact end_ev [evLw 0 0 agg49 size49 f41,evR (vB false),evR (vI 9)] (vT #[(vA #[(vI 0),(vI 0)]),(vB false),(vI 9)]) (hK _ _ (⟨by unfold agB agT agS; rw [ea]; rfl,x42⟩))
  ·obtain ⟨_,hh43,sn44,rfl,x45⟩:=rlate_ok hh29 t b d _ _ (hl.keep fun b r _ q=>x36 b r q) (by omega) hnm hks n
   have f46:=x45 _ _ f33
   have f47:=x45 _ _ f34
   have f48:=x45 _ _ f35
   have x49:=x36.trans x45
   obtain ⟨_,hh50,sn51,rfl,x52⟩:=rleft_ok hh43 t b d _ _ (hl.keep fun b r _ q=>x49 b r q) (by omega) hnm hks
   have f53:=x52 _ _ f46
   have f54:=x52 _ _ f48
   have x55:=x49.trans x52
   by_cases c56:(0:Int) < (leftV t b d)
   ·rcases Bool.eq_false_or_eq_true ((lateM t b d n)) with c57 | c57
    ·obtain ⟨h58,e59⟩:∃ zq,zq=hh50.setIfInBounds b19 (.cells #[(vI ((t) + 1)),(vI (b))] 49 (0,0)):=⟨_,rfl⟩
     have f60:=set_same e59 f54
     have x61:=Ext.setNew x55 e59 o25
     refine wc_ev [evA 0 0 eb2 e4,evA 0 1 eb10 e12,evA 0 2 eb20 e22,evLw 1 0 agg49 size49 f26,evLw 1 1 agg31 size31 f27,evF 1 3 sn30,neF 2 1 34 c37,evC 4 1 0 agg3 f33,evC 4 3 1 agg3 f34,gtF 4 4 3 c38,evLw 6 0 agg49 size49 f33,evLw 6 1 agg31 size31 f34,evF 6 3 sn44,evLw 7 0 agg49 size49 f46,evLw 7 1 agg31 size31 f47,evF 7 2 sn51,evC 8 1 0 agg3 f53,evV 8 2 (vI ((t) + 1)) (show binA Tryz.prog .add 3 (vI t) (vI 1)=some (vI ((t) + 1)) from add_i64 (by omega) (by omega)),evC 8 4 1 agg3 f53,gtT 8 7 3 c56,evM 8 9 c57,evUw 8 12 size49 f54 e59] .ret h58 [(3,(vP b1 0)),(4,(vP b9 0)),(6,(vP b19 0)),(7,(vB false)),(8,(vI 0)),(14,(vA #[(vI t),(vI b)])),(15,(vA #[(vS d.name),(vI d.rt),(vI d.dl),(vL sa d.xs.length cp)])),(16,(vI n)),(17,(vI (chkE (budB t b) (defB d) (timB n)))),(9,(vI (chkE (budB t b) (defB d) (timB n)))),(18,(vI (chkE (budB t b) (defB d) (timB n)))),(19,(vB false)),(22,(vP b1 0)),(23,(vI t)),(24,(vP b9 1)),(25,(vI d.rt)),(26,(vB false)),(29,(vA #[(vI t),(vI b)])),(30,(vA #[(vS d.name),(vI d.rt),(vI d.dl),(vL sa d.xs.length cp)])),(31,(vI n)),(32,(vT #[(vB (lateM t b d n)),(vI (chkE (budB t b) (defB d) (timB n)))])),(28,(vT #[(vB (lateM t b d n)),(vI (chkE (budB t b) (defB d) (timB n)))])),(33,(vB (lateM t b d n))),(34,(vI (chkE (budB t b) (defB d) (timB n)))),(10,(vB (lateM t b d n))),(11,(vI (chkE (budB t b) (defB d) (timB n)))),(36,(vA #[(vI t),(vI b)])),(37,(vA #[(vS d.name),(vI d.rt),(vI d.dl),(vL sa d.xs.length cp)])),(38,(vT #[(vI (leftV t b d)),(vI (chkE (budB t b) (defB d) true))])),(35,(vT #[(vI (leftV t b d)),(vI (chkE (budB t b) (defB d) true))])),(39,(vI (leftV t b d))),(40,(vI (chkE (budB t b) (defB d) true))),(12,(vI (leftV t b d))),(13,(vI (chkE (budB t b) (defB d) true))),(41,(vP b1 0)),(42,(vI t)),(43,(vI ((t) + 1))),(44,(vP b1 1)),(45,(vI b)),(46,(vA #[(vI ((t) + 1)),(vI b)])),(47,(vI (leftV t b d))),(48,(vB true)),(49,(vB true)),(50,(vB true)),(51,(vB false)),(52,(vB false)),(7,(vB false)),(8,(vI 0))] ?_
     have ea:agE t b d n=0:=by unfold agE; rw [if_pos c37,if_neg (by omega)]
     have el:=leftV_eq z1004b z1004d
     exact end_ev [evLw 0 0 agg49 size49 f60,evR (vB false),evR (vI 0)] (vT #[(vA #[(vI ((t) + 1)),(vI b)]),(vB false),(vI 0)]) (hK _ _ (⟨by unfold agB agT agS; rw [ea,if_pos rfl,if_pos rfl,decide_eq_false (fun w=>by rw [c57] at w; cases w.2.2)],x61⟩))
    ·obtain ⟨h62,e63⟩:∃ zq,zq=hh50.setIfInBounds b19 (.cells #[(vI ((t) + 1)),(vI (b))] 49 (0,0)):=⟨_,rfl⟩
     have f65:=set_same e63 f54
     have x66:=Ext.setNew x55 e63 o25
     refine wc_ev [evA 0 0 eb2 e4,evA 0 1 eb10 e12,evA 0 2 eb20 e22,evLw 1 0 agg49 size49 f26,evLw 1 1 agg31 size31 f27,evF 1 3 sn30,neF 2 1 34 c37,evC 4 1 0 agg3 f33,evC 4 3 1 agg3 f34,gtF 4 4 3 c38,evLw 6 0 agg49 size49 f33,evLw 6 1 agg31 size31 f34,evF 6 3 sn44,evLw 7 0 agg49 size49 f46,evLw 7 1 agg31 size31 f47,evF 7 2 sn51,evC 8 1 0 agg3 f53,evV 8 2 (vI ((t) + 1)) (show binA Tryz.prog .add 3 (vI t) (vI 1)=some (vI ((t) + 1)) from add_i64 (by omega) (by omega)),evC 8 4 1 agg3 f53,gtT 8 7 3 c56,evM 8 9 c57,evUw 8 12 size49 f54 e63] .ret h62 [(3,(vP b1 0)),(4,(vP b9 0)),(6,(vP b19 0)),(7,(vB false)),(8,(vI 0)),(14,(vA #[(vI t),(vI b)])),(15,(vA #[(vS d.name),(vI d.rt),(vI d.dl),(vL sa d.xs.length cp)])),(16,(vI n)),(17,(vI (chkE (budB t b) (defB d) (timB n)))),(9,(vI (chkE (budB t b) (defB d) (timB n)))),(18,(vI (chkE (budB t b) (defB d) (timB n)))),(19,(vB false)),(22,(vP b1 0)),(23,(vI t)),(24,(vP b9 1)),(25,(vI d.rt)),(26,(vB false)),(29,(vA #[(vI t),(vI b)])),(30,(vA #[(vS d.name),(vI d.rt),(vI d.dl),(vL sa d.xs.length cp)])),(31,(vI n)),(32,(vT #[(vB (lateM t b d n)),(vI (chkE (budB t b) (defB d) (timB n)))])),(28,(vT #[(vB (lateM t b d n)),(vI (chkE (budB t b) (defB d) (timB n)))])),(33,(vB (lateM t b d n))),(34,(vI (chkE (budB t b) (defB d) (timB n)))),(10,(vB (lateM t b d n))),(11,(vI (chkE (budB t b) (defB d) (timB n)))),(36,(vA #[(vI t),(vI b)])),(37,(vA #[(vS d.name),(vI d.rt),(vI d.dl),(vL sa d.xs.length cp)])),(38,(vT #[(vI (leftV t b d)),(vI (chkE (budB t b) (defB d) true))])),(35,(vT #[(vI (leftV t b d)),(vI (chkE (budB t b) (defB d) true))])),(39,(vI (leftV t b d))),(40,(vI (chkE (budB t b) (defB d) true))),(12,(vI (leftV t b d))),(13,(vI (chkE (budB t b) (defB d) true))),(41,(vP b1 0)),(42,(vI t)),(43,(vI ((t) + 1))),(44,(vP b1 1)),(45,(vI b)),(46,(vA #[(vI ((t) + 1)),(vI b)])),(47,(vI (leftV t b d))),(48,(vB true)),(49,(vB true)),(50,(vB false)),(51,(vB true)),(52,(vB true)),(7,(vB true)),(8,(vI 0))] ?_
     have ea:agE t b d n=0:=by unfold agE; rw [if_pos c37,if_neg (by omega)]
     have el:=leftV_eq z1004b z1004d
     exact end_ev [evLw 0 0 agg49 size49 f65,evR (vB true),evR (vI 0)] (vT #[(vA #[(vI ((t) + 1)),(vI b)]),(vB true),(vI 0)]) (hK _ _ (⟨by unfold agB agT agS; rw [ea,if_pos rfl,if_pos rfl,decide_eq_true ⟨rfl,by omega,c57⟩],x66⟩))
   ·obtain ⟨h67,e68⟩:∃ zq,zq=hh50.setIfInBounds b19 (.cells #[(vI ((t) + 1)),(vI (b))] 49 (0,0)):=⟨_,rfl⟩
    have f69:=set_same e68 f54
    have x70:=Ext.setNew x55 e68 o25
    refine wc_ev [evA 0 0 eb2 e4,evA 0 1 eb10 e12,evA 0 2 eb20 e22,evLw 1 0 agg49 size49 f26,evLw 1 1 agg31 size31 f27,evF 1 3 sn30,neF 2 1 34 c37,evC 4 1 0 agg3 f33,evC 4 3 1 agg3 f34,gtF 4 4 3 c38,evLw 6 0 agg49 size49 f33,evLw 6 1 agg31 size31 f34,evF 6 3 sn44,evLw 7 0 agg49 size49 f46,evLw 7 1 agg31 size31 f47,evF 7 2 sn51,evC 8 1 0 agg3 f53,evV 8 2 (vI ((t) + 1)) (show binA Tryz.prog .add 3 (vI t) (vI 1)=some (vI ((t) + 1)) from add_i64 (by omega) (by omega)),evC 8 4 1 agg3 f53,gtF 8 7 3 c56,evUw 8 12 size49 f54 e68] .ret h67 [(3,(vP b1 0)),(4,(vP b9 0)),(6,(vP b19 0)),(7,(vB false)),(8,(vI 0)),(14,(vA #[(vI t),(vI b)])),(15,(vA #[(vS d.name),(vI d.rt),(vI d.dl),(vL sa d.xs.length cp)])),(16,(vI n)),(17,(vI (chkE (budB t b) (defB d) (timB n)))),(9,(vI (chkE (budB t b) (defB d) (timB n)))),(18,(vI (chkE (budB t b) (defB d) (timB n)))),(19,(vB false)),(22,(vP b1 0)),(23,(vI t)),(24,(vP b9 1)),(25,(vI d.rt)),(26,(vB false)),(29,(vA #[(vI t),(vI b)])),(30,(vA #[(vS d.name),(vI d.rt),(vI d.dl),(vL sa d.xs.length cp)])),(31,(vI n)),(32,(vT #[(vB (lateM t b d n)),(vI (chkE (budB t b) (defB d) (timB n)))])),(28,(vT #[(vB (lateM t b d n)),(vI (chkE (budB t b) (defB d) (timB n)))])),(33,(vB (lateM t b d n))),(34,(vI (chkE (budB t b) (defB d) (timB n)))),(10,(vB (lateM t b d n))),(11,(vI (chkE (budB t b) (defB d) (timB n)))),(36,(vA #[(vI t),(vI b)])),(37,(vA #[(vS d.name),(vI d.rt),(vI d.dl),(vL sa d.xs.length cp)])),(38,(vT #[(vI (leftV t b d)),(vI (chkE (budB t b) (defB d) true))])),(35,(vT #[(vI (leftV t b d)),(vI (chkE (budB t b) (defB d) true))])),(39,(vI (leftV t b d))),(40,(vI (chkE (budB t b) (defB d) true))),(12,(vI (leftV t b d))),(13,(vI (chkE (budB t b) (defB d) true))),(41,(vP b1 0)),(42,(vI t)),(43,(vI ((t) + 1))),(44,(vP b1 1)),(45,(vI b)),(46,(vA #[(vI ((t) + 1)),(vI b)])),(47,(vI (leftV t b d))),(48,(vB false)),(49,(vB false)),(50,vZ),(51,vZ),(52,(vB false)),(7,(vB false)),(8,(vI 0))] ?_
    have ea:agE t b d n=0:=by unfold agE; rw [if_pos c37,if_neg (by omega)]
    have el:=leftV_eq z1004b z1004d
    exact end_ev [evLw 0 0 agg49 size49 f69,evR (vB false),evR (vI 0)] (vT #[(vA #[(vI ((t) + 1)),(vI b)]),(vB false),(vI 0)]) (hK _ _ (⟨by unfold agB agT agS; rw [ea,if_pos rfl,if_pos rfl,decide_eq_false (fun w=>absurd w.2.1 (by omega))],x70⟩))
 ·obtain ⟨h71,e72⟩:∃ zq,zq=hh29.setIfInBounds b19 (.cells #[(vI 0),(vI 0)] 49 (0,0)):=⟨_,rfl⟩
  have f73:=set_same e72 f35
  have x74:=Ext.setNew x36 e72 o25
  refine wc_ev [evA 0 0 eb2 e4,evA 0 1 eb10 e12,evA 0 2 eb20 e22,evLw 1 0 agg49 size49 f26,evLw 1 1 agg31 size31 f27,evF 1 3 sn30,neT 2 1 34 c37,evUw 3 2 size49 f35 e72] .ret h71 [(3,(vP b1 0)),(4,(vP b9 0)),(6,(vP b19 0)),(7,(vB false)),(8,(vI 0)),(14,(vA #[(vI t),(vI b)])),(15,(vA #[(vS d.name),(vI d.rt),(vI d.dl),(vL sa d.xs.length cp)])),(16,(vI n)),(17,(vI (chkE (budB t b) (defB d) (timB n)))),(9,(vI (chkE (budB t b) (defB d) (timB n)))),(18,(vI (chkE (budB t b) (defB d) (timB n)))),(19,(vB true)),(20,(vA #[(vI 0),(vI 0)])),(21,(vI (chkE (budB t b) (defB d) (timB n)))),(7,(vB false)),(8,(vI (chkE (budB t b) (defB d) (timB n))))] ?_
  have ea:agE t b d n=chkE (budB t b) (defB d) (timB n):=by unfold agE; rw [if_neg c37]
  exact end_ev [evLw 0 0 agg49 size49 f73,evR (vB false),evR (vI (chkE (budB t b) (defB d) (timB n)))] (vT #[(vA #[(vI 0),(vI 0)]),(vB false),(vI (chkE (budB t b) (defB d) (timB n)))]) (hK _ _ (⟨by unfold agB agT agS; rw [ea,if_neg c37,if_neg c37,decide_eq_false (fun w=>c37 w.1)],x74⟩))
end C29
