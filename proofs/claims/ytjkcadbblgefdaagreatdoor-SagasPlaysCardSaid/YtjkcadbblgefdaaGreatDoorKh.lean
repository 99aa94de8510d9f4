/- Budgets. -/
import Derived.Test.YtjkcadbblgefdaaGreatDoorKe
import Derived.KernelRfl
open Go Go.AM Go.Proofs
namespace C29
theorem agg31:isAggA Tryz.prog 31=some true:=by kernel_rfl
theorem agg36:isAggA Tryz.prog 36=some true:=by kernel_rfl
theorem agg49:isAggA Tryz.prog 49=some true:=by kernel_rfl
theorem agg86:isAggA Tryz.prog 86=some false:=by kernel_rfl
theorem size3:(Tryz.prog.info? 3).map (·.size)=some 1:=by kernel_rfl
theorem size31:(Tryz.prog.info? 31).map (·.size)=some 4:=by kernel_rfl
theorem size36:(Tryz.prog.info? 36).map (·.size)=some 2:=by kernel_rfl
theorem size49:(Tryz.prog.info? 49).map (·.size)=some 2:=by kernel_rfl
def budB (t b:Int):Bool:=decide (0≤t∧t≤21∧0≤b∧b≤2147483648)
def timB (n:Int):Bool:=decide (0≤n∧n≤2147483648)
/-- The first error of a budget, a definition and a time. -/
def chkE (bb db tb:Bool):Int:=if bb=true then (if db=true then (if tb=true then 0 else 2) else 15) else 2
section
variable {bb db tb : Bool}
theorem chk1 (c:¬ (if bb=true then (0:Int) else 2)=0):(if bb=true then (0:Int) else 2)=chkE bb db tb:=by cases bb <;> simp [chkE] at *
theorem chk2 (c1:(if bb=true then (0:Int) else 2)=0) (c2:¬ (if db=true then (0:Int) else 15)=0):(if db=true then (0:Int) else 15)=chkE bb db tb:=by cases bb <;> cases db <;> simp [chkE] at *
theorem chk3 (c1:(if bb=true then (0:Int) else 2)=0) (c2:(if db=true then (0:Int) else 15)=0) (c3:¬ (if tb=true then (0:Int) else 2)=0):(if tb=true then (0:Int) else 2)=chkE bb db tb:=by cases bb <;> cases db <;> cases tb <;> simp [chkE] at *
theorem chk4 (c1:(if bb=true then (0:Int) else 2)=0) (c2:(if db=true then (0:Int) else 15)=0) (c3:(if tb=true then (0:Int) else 2)=0):(0:Int)=chkE bb db tb:=by cases bb <;> cases db <;> cases tb <;> simp [chkE] at *
theorem chk0:(if true=true then (0:Int) else 2)=0:=rfl
theorem chkE_zero (h:chkE bb db tb=0):bb=true∧db=true∧tb=true:=by cases bb <;> cases db <;> cases tb <;> simp [chkE] at *
end
theorem budB_of {t b:Int} (h:budB t b=true):0≤t∧t≤21∧0≤b∧b≤2147483648:=of_decide_eq_true h
theorem timB_of {n:Int} (h:timB n=true):0≤n∧n≤2147483648:=of_decide_eq_true h
theorem defB_of {d:DefM} (h:defB d=true):0≤d.rt∧d.rt≤20∧0≤d.dl∧d.dl≤100000∧1≤d.xs.length∧d.xs.length≤8:=by
 unfold defB at h
 simp only [Bool.and_eq_true] at h
 exact of_decide_eq_true h.1.2
theorem max_ite {a b:Int}:(if b > a then b else a)=max a b:=by rw [Int.max_def]; split <;> split <;> omega
def lateM (t b:Int) (d:DefM) (n:Int):Bool:=decide (chkE (budB t b) (defB d) (timB n)=0∧0 < d.dl∧d.dl≤n - b)
def whenV (t b:Int) (d:DefM):Int:=if chkE (budB t b) (defB d) true=0∧¬ d.dl=0 then b + d.dl else 0
def whenB (t b:Int) (d:DefM):Bool:=decide (chkE (budB t b) (defB d) true=0∧¬ d.dl=0)
def leftV (t b:Int) (d:DefM):Int:=if chkE (budB t b) (defB d) true=0 then max 0 (d.rt - t) else 0
def agE (t b:Int) (d:DefM) (n:Int):Int:=if chkE (budB t b) (defB d) (timB n)=0 then (if d.rt < t then 9 else 0) else chkE (budB t b) (defB d) (timB n)
def agB (t b:Int) (d:DefM) (n:Int):Bool:=decide (agE t b d n=0∧t + 1≤d.rt∧lateM t b d n=false)
def agT (t b:Int) (d:DefM) (n:Int):Int:=if agE t b d n=0 then t + 1 else 0
def agS (t b:Int) (d:DefM) (n:Int):Int:=if agE t b d n=0 then b else 0
def stS (d:DefM) (n:Int):Int:=if chkE true (defB d) (timB n)=0 then n else 0
set_option maxHeartbeats 4000000 in
theorem arg_yes (h:Heap) :WCall Tryz.prog 127 #[(vB true)] h (fun v h1=>v=.int .i64 0∧h=h1):=by
 exact hCall_ev [] [] (vI 0) h ⟨rfl,rfl⟩
set_option maxHeartbeats 4000000 in
theorem arg_no (h:Heap) :WCall Tryz.prog 127 #[(vB false)] h (fun v h1=>v=.int .i64 2∧h=h1):=by
 exact hCall_ev [] [] (vI 2) h ⟨rfl,rfl⟩
set_option maxHeartbeats 4000000 in
theorem bcheck_ok (h:Heap) (t b:Int):WCall Tryz.prog 98 #[(Value.agg #[(vI (t)),(vI (b))])] h (fun v h1=>v=.int .i64 (if budB t b=true then 0 else 2)∧Ext h h1):=by
 obtain ⟨b1,eb2⟩:∃ zq,zq=h.size:=⟨_,rfl⟩
 obtain ⟨h3,e4⟩:∃ zq,zq=h.push (.cells #[(vI (t)),(vI (b))] 36 (0,0)):=⟨_,rfl⟩
 have f5:=push_new e4
 rw [← eb2] at f5
 have x6:Ext h h3:=by rw [e4]; exact Ext.push _ _
 have o7:h.size≤b1:=by have:=(Ext.refl h).size; omega
 have x8:=(Ext.refl h).trans x6
 by_cases c9:(0:Int)≤(t)
 ·by_cases c10:((t):Int)≤21
  ·by_cases c11:(0:Int)≤(b)
   ·by_cases c12:((b):Int)≤2147483648
    ·obtain ⟨_,_,sn13,rfl,rfl⟩:=arg_yes h3
     exact hCall_ev [evA 0 0 eb2 e4,evC 1 1 0 agg3 f5,geT 1 2 3 c9,evC 1 5 0 agg3 f5,leT 1 6 3 c10,evC 1 10 1 agg3 f5,geT 1 11 3 c11,evC 1 15 1 agg3 f5,leT 1 16 3 c12,evF 1 18 sn13] [] (vI 0) h3 ⟨by rw [if_pos (by unfold budB; simp only [decide_eq_true_eq]; omega)],x8⟩
    ·obtain ⟨_,_,sn14,rfl,rfl⟩:=arg_no h3
     exact hCall_ev [evA 0 0 eb2 e4,evC 1 1 0 agg3 f5,geT 1 2 3 c9,evC 1 5 0 agg3 f5,leT 1 6 3 c10,evC 1 10 1 agg3 f5,geT 1 11 3 c11,evC 1 15 1 agg3 f5,leF 1 16 3 c12,evF 1 18 sn14] [] (vI 2) h3 ⟨by rw [if_neg (by unfold budB; simp only [decide_eq_true_eq]; omega)],x8⟩
   ·obtain ⟨_,_,sn15,rfl,rfl⟩:=arg_no h3
    exact hCall_ev [evA 0 0 eb2 e4,evC 1 1 0 agg3 f5,geT 1 2 3 c9,evC 1 5 0 agg3 f5,leT 1 6 3 c10,evC 1 10 1 agg3 f5,geF 1 11 3 c11,evF 1 18 sn15] [] (vI 2) h3 ⟨by rw [if_neg (by unfold budB; simp only [decide_eq_true_eq]; omega)],x8⟩
  ·obtain ⟨_,_,sn16,rfl,rfl⟩:=arg_no h3
   exact hCall_ev [evA 0 0 eb2 e4,evC 1 1 0 agg3 f5,geT 1 2 3 c9,evC 1 5 0 agg3 f5,leF 1 6 3 c10,evF 1 18 sn16] [] (vI 2) h3 ⟨by rw [if_neg (by unfold budB; simp only [decide_eq_true_eq]; omega)],x8⟩
 ·obtain ⟨_,_,sn17,rfl,rfl⟩:=arg_no h3
  exact hCall_ev [evA 0 0 eb2 e4,evC 1 1 0 agg3 f5,geF 1 2 3 c9,evF 1 18 sn17] [] (vI 2) h3 ⟨by rw [if_neg (by unfold budB; simp only [decide_eq_true_eq]; omega)],x8⟩
set_option maxHeartbeats 4000000 in
theorem rbcheck_ok (h:Heap) (t b:Int):WCall Tryz.prog 99 #[(Value.agg #[(vI (t)),(vI (b))])] h (fun v h1=>v=.int .i64 (if budB t b=true then 0 else 2)∧Ext h h1):=by
 obtain ⟨b1,eb2⟩:∃ zq,zq=h.size:=⟨_,rfl⟩
 obtain ⟨h3,e4⟩:∃ zq,zq=h.push (.cells #[(vI (t)),(vI (b))] 49 (0,0)):=⟨_,rfl⟩
 have f5:=push_new e4
 rw [← eb2] at f5
 have x6:Ext h h3:=by rw [e4]; exact Ext.push _ _
 have o7:h.size≤b1:=by have:=(Ext.refl h).size; omega
 have x8:=(Ext.refl h).trans x6
 by_cases c9:((t):Int) < 0
 ·exact hCall_ev [evA 0 0 eb2 e4,evC 1 1 0 agg3 f5,ltT 1 2 3 c9] [] (vI 2) h3 ⟨by rw [if_neg (by unfold budB; simp only [decide_eq_true_eq]; omega)],x8⟩
 ·by_cases c10:(21:Int) < (t)
  ·exact hCall_ev [evA 0 0 eb2 e4,evC 1 1 0 agg3 f5,ltF 1 2 3 c9,evC 1 5 0 agg3 f5,gtT 1 6 3 c10] [] (vI 2) h3 ⟨by rw [if_neg (by unfold budB; simp only [decide_eq_true_eq]; omega)],x8⟩
  ·by_cases c11:((b):Int) < 0
   ·exact hCall_ev [evA 0 0 eb2 e4,evC 1 1 0 agg3 f5,ltF 1 2 3 c9,evC 1 5 0 agg3 f5,gtF 1 6 3 c10,evC 1 10 1 agg3 f5,ltT 1 11 3 c11] [] (vI 2) h3 ⟨by rw [if_neg (by unfold budB; simp only [decide_eq_true_eq]; omega)],x8⟩
   ·by_cases c12:(2147483648:Int) < (b)
    ·exact hCall_ev [evA 0 0 eb2 e4,evC 1 1 0 agg3 f5,ltF 1 2 3 c9,evC 1 5 0 agg3 f5,gtF 1 6 3 c10,evC 1 10 1 agg3 f5,ltF 1 11 3 c11,evC 1 15 1 agg3 f5,gtT 1 16 3 c12] [] (vI 2) h3 ⟨by rw [if_neg (by unfold budB; simp only [decide_eq_true_eq]; omega)],x8⟩
    ·exact hCall_ev [evA 0 0 eb2 e4,evC 1 1 0 agg3 f5,ltF 1 2 3 c9,evC 1 5 0 agg3 f5,gtF 1 6 3 c10,evC 1 10 1 agg3 f5,ltF 1 11 3 c11,evC 1 15 1 agg3 f5,gtF 1 16 3 c12] [] (vI 0) h3 ⟨by rw [if_pos (by unfold budB; simp only [decide_eq_true_eq]; omega)],x8⟩
set_option maxHeartbeats 4000000 in
theorem valid1_ok (h:Heap) {bb:Nat} (t b:Int) (hbb:h[bb]?=some (.cells #[.int .i64 t,.int .i64 b] 36 (0,0))):WCall Tryz.prog 189 #[(vP bb 0)] h (fun v h1=>v=.int .i64 (if budB t b=true then 0 else 2)∧Ext h h1):=by
 obtain ⟨_,hh1,sn2,rfl,x3⟩:=bcheck_ok h t b
 have x4:=(Ext.refl h).trans x3
 exact hCall_ev [evLw 1 0 agg36 size36 hbb,evF 1 1 sn2] [] (vI (if budB t b=true then 0 else 2)) hh1 ⟨rfl,x4⟩
set_option maxHeartbeats 4000000 in
theorem at1_ok (h:Heap) {bt:Nat} (n:Int) (hbt:h[bt]?=some (.cells #[.int .i64 n] 3 (0,0))):WCall Tryz.prog 136 #[(vP bt 0)] h (fun v h1=>v=.int .i64 (if timB n=true then 0 else 2)∧Ext h h1):=by
 by_cases c1:(0:Int)≤(n)
 ·by_cases c2:((n):Int)≤2147483648
  ·obtain ⟨_,_,sn3,rfl,rfl⟩:=arg_yes h
   exact hCall_ev [evC 1 0 0 agg3 hbt,geT 1 1 3 c1,evC 1 3 0 agg3 hbt,leT 1 4 3 c2,evF 1 6 sn3] [] (vI 0) h ⟨by rw [if_pos (by unfold timB; simp only [decide_eq_true_eq]; omega)],(Ext.refl h)⟩
  ·obtain ⟨_,_,sn4,rfl,rfl⟩:=arg_no h
   exact hCall_ev [evC 1 0 0 agg3 hbt,geT 1 1 3 c1,evC 1 3 0 agg3 hbt,leF 1 4 3 c2,evF 1 6 sn4] [] (vI 2) h ⟨by rw [if_neg (by unfold timB; simp only [decide_eq_true_eq]; omega)],(Ext.refl h)⟩
 ·obtain ⟨_,_,sn5,rfl,rfl⟩:=arg_no h
  exact hCall_ev [evC 1 0 0 agg3 hbt,geF 1 1 3 c1,evF 1 6 sn5] [] (vI 2) h ⟨by rw [if_neg (by unfold timB; simp only [decide_eq_true_eq]; omega)],(Ext.refl h)⟩
set_option maxHeartbeats 4000000 in
theorem of1_ok (h:Heap) {bd:Nat} (d:DefM) (sa:Option Addr) (cp:Nat) (hl:LAt h stepc 2 d.xs (.slice sa d.xs.length cp)) (hlen:d.xs.length≤9223372036854775807) (hbd:h[bd]?=some (.cells #[(vS d.name),(vI (d.rt)),(vI (d.dl)),(Value.slice sa (d.xs.length) (cp))] 31 (0,0))):WCall Tryz.prog 135 #[(vP bd 0)] h (fun v h1=>v=.int .i64 (if defB d=true then 0 else 15)∧Ext h h1):=by
 obtain ⟨_,hh1,sn2,rfl,x3⟩:=dcheck_ok h d _ _ (hl.keep fun b r _ q=>(Ext.refl h) b r q) (by omega)
 have x4:=(Ext.refl h).trans x3
 by_cases c5:((if defB d=true then 0 else 15):Int)=0
 ·exact hCall_ev [evLw 1 0 agg31 size31 hbd,evF 1 1 sn2,neF 1 2 34 c5] [] (vI 0) hh1 ⟨by rw [c5],x4⟩
 ·exact hCall_ev [evLw 1 0 agg31 size31 hbd,evF 1 1 sn2,neT 1 2 34 c5] [] (vI 15) hh1 ⟨by rw [if_neg (fun w=>c5 (by rw [if_pos w]))],x4⟩
set_option maxHeartbeats 4000000 in
theorem valid_ok (h:Heap) (t b:Int):WCall Tryz.prog 187 #[(Value.agg #[(vI (t)),(vI (b))])] h (fun v h1=>∃ bq,v=.func (.func 189) #[] #[.pointer (some ⟨bq,0,none⟩)]∧h1[bq]?=some (.cells #[(vI (t)),(vI (b))] 36 (0,0))∧Ext h h1):=by
 obtain ⟨b1,eb2⟩:∃ zq,zq=h.size:=⟨_,rfl⟩
 obtain ⟨h3,e4⟩:∃ zq,zq=h.push (.cells #[(vI (t)),(vI (b))] 36 (0,0)):=⟨_,rfl⟩
 have f5:=push_new e4
 rw [← eb2] at f5
 have x6:Ext h h3:=by rw [e4]; exact Ext.push _ _
 have o7:h.size≤b1:=by have:=(Ext.refl h).size; omega
 have x8:=(Ext.refl h).trans x6
 exact hCall_ev [evA 0 0 eb2 e4] [] (Value.func (.func 189) #[] #[(vP b1 0)]) h3 ⟨b1,rfl,f5,x8⟩
set_option maxHeartbeats 4000000 in
theorem at_ok (h:Heap) (n:Int):WCall Tryz.prog 117 #[(vI (n))] h (fun v h1=>∃ bq,v=.func (.func 136) #[] #[.pointer (some ⟨bq,0,none⟩)]∧h1[bq]?=some (.cells #[(vI (n))] 3 (0,0))∧Ext h h1):=by
 obtain ⟨b1,eb2⟩:∃ zq,zq=h.size:=⟨_,rfl⟩
 obtain ⟨h3,e4⟩:∃ zq,zq=h.push (.cells #[(vI (n))] 3 (0,0)):=⟨_,rfl⟩
 have f5:=push_new e4
 rw [← eb2] at f5
 have x6:Ext h h3:=by rw [e4]; exact Ext.push _ _
 have o7:h.size≤b1:=by have:=(Ext.refl h).size; omega
 have x8:=(Ext.refl h).trans x6
 exact hCall_ev [evA 0 0 eb2 e4] [] (Value.func (.func 136) #[] #[(vP b1 0)]) h3 ⟨b1,rfl,f5,x8⟩
set_option maxHeartbeats 4000000 in
theorem of_ok (h:Heap) (name:ByteArray) (rt dl:Int) (sl:Value):WCall Tryz.prog 116 #[(Value.agg #[(vS name),(vI (rt)),(vI (dl)),sl])] h (fun v h1=>∃ bq,v=.func (.func 135) #[] #[.pointer (some ⟨bq,0,none⟩)]∧h1[bq]?=some (.cells #[(vS name),(vI (rt)),(vI (dl)),sl] 31 (0,0))∧Ext h h1):=by
 obtain ⟨b1,eb2⟩:∃ zq,zq=h.size:=⟨_,rfl⟩
 obtain ⟨h3,e4⟩:∃ zq,zq=h.push (.cells #[(vS name),(vI (rt)),(vI (dl)),sl] 31 (0,0)):=⟨_,rfl⟩
 have f5:=push_new e4
 rw [← eb2] at f5
 have x6:Ext h h3:=by rw [e4]; exact Ext.push _ _
 have o7:h.size≤b1:=by have:=(Ext.refl h).size; omega
 have x8:=(Ext.refl h).trans x6
 exact hCall_ev [evA 0 0 eb2 e4] [] (Value.func (.func 135) #[] #[(vP b1 0)]) h3 ⟨b1,rfl,f5,x8⟩
set_option maxHeartbeats 4000000 in
theorem all_dt (h:Heap) {bd:Nat} (d:DefM) (sa:Option Addr) (cp:Nat) (hl:LAt h stepc 2 d.xs (.slice sa d.xs.length cp)) (hlen:d.xs.length≤9223372036854775807) (hbd:h[bd]?=some (.cells #[(vS d.name),(vI (d.rt)),(vI (d.dl)),(Value.slice sa (d.xs.length) (cp))] 31 (0,0))) {bt:Nat} (n:Int) (hbt:h[bt]?=some (.cells #[.int .i64 n] 3 (0,0))) {bs:Nat} (hbs:h[bs]?=some (.cells #[(Value.func (.func 135) #[] #[(vP bd 0)]),(Value.func (.func 136) #[] #[(vP bt 0)])] 86 (0,0))):WCall Tryz.prog 115 #[(Value.slice (some ⟨bs,0,none⟩) 2 2)] h (fun v h1=>v=.int .i64 (chkE true (defB d) (timB n))∧Ext h h1):=by
 refine wcall_by fun K hK=>?_
 refine wcall_at { tmps:=#[(vL (some ⟨bs,0,none⟩) 2 2),vZ,vZ,vZ,vZ,vZ,vZ,vZ,vZ,vZ,vZ,vZ,vZ,vZ,vZ,vZ,vZ,vZ],defers:=[] } (by kernel_rfl) ?_
 refine wc_seq' (subc (bodyOf Tryz.prog 115) [0]) (subc (bodyOf Tryz.prog 115) [1]) (by kernel_rfl) ?_
 refine wc_ev [] .normal h [(2,(vI 0))] ?_
 refine wc_seq' (subc (bodyOf Tryz.prog 115) [1,0]) (subc (bodyOf Tryz.prog 115) [1,1]) (by kernel_rfl) ?_
 refine wc_seq' (subc (bodyOf Tryz.prog 115) [1,0,0]) (subc (bodyOf Tryz.prog 115) [1,0,1]) (by kernel_rfl) ?_
 refine wc_ev [] .normal h [(6,(vL (some ⟨bs,0,none⟩) 2 2)),(7,(vI 2)),(8,(vI 0))] ?_
 refine wc_block' 0 (subc (bodyOf Tryz.prog 115) [1,0,1,0]) (by kernel_rfl) ?_
 refine wc_once (subc (bodyOf Tryz.prog 115) [1,0,1,0,0]) (by kernel_rfl) ?_
 obtain ⟨_,hh1,sn2,rfl,x3⟩:=of1_ok h d _ _ (hl.keep fun b r _ q=>(Ext.refl h) b r q) (by omega) hbd
 have f4:=x3 _ _ hbt
 have f5:=x3 _ _ hbs
 have x6:=(Ext.refl h).trans x3
 by_cases c7:((if defB d=true then 0 else 15):Int)=0
 ·refine wc_ev [evC 3 1 0 agg86 hbs,evF 4 1 sn2,neF 5 1 34 c7] .normal hh1 [(9,(vB true)),(10,(vP bs 0)),(11,(Value.func (.func 135) #[] #[(vP bd 0)])),(4,(Value.func (.func 135) #[] #[(vP bd 0)])),(12,(Value.func (.func 135) #[] #[(vP bd 0)])),(13,(vI (if defB d=true then 0 else 15))),(5,(vI (if defB d=true then 0 else 15))),(14,(vI (if defB d=true then 0 else 15))),(15,(vB false)),(17,(vI 1)),(8,(vI 1))] ?_
  refine wc_once (subc (bodyOf Tryz.prog 115) [1,0,1,0,0]) rfl ?_
  obtain ⟨_,hh8,sn9,rfl,x10⟩:=at1_ok hh1 n f4
  have x11:=x6.trans x10
  by_cases c12:((if timB n=true then 0 else 2):Int)=0
  ·refine wc_ev [evC 3 1 1 agg86 f5,evF 4 1 sn9,neF 5 1 34 c12] .normal hh8 [(9,(vB true)),(10,(vP bs 1)),(11,(Value.func (.func 136) #[] #[(vP bt 0)])),(4,(Value.func (.func 136) #[] #[(vP bt 0)])),(12,(Value.func (.func 136) #[] #[(vP bt 0)])),(13,(vI (if timB n=true then 0 else 2))),(5,(vI (if timB n=true then 0 else 2))),(14,(vI (if timB n=true then 0 else 2))),(15,(vB false)),(17,(vI 2)),(8,(vI 2))] ?_
   refine wc_once (subc (bodyOf Tryz.prog 115) [1,0,1,0,0]) rfl ?_
   refine wc_act { tmps:=#[(vL (some ⟨bs,0,none⟩) 2 2),vZ,(vI 0),vZ,(Value.func (.func 136) #[] #[(vP bt 0)]),(vI (if timB n=true then 0 else 2)),(vL (some ⟨bs,0,none⟩) 2 2),(vI 2),(vI 2),(vB true),(vP bs 1),(Value.func (.func 136) #[] #[(vP bt 0)]),(Value.func (.func 136) #[] #[(vP bt 0)]),(vI (if timB n=true then 0 else 2)),(vI (if timB n=true then 0 else 2)),(vB false),vZ,(vI 2)],defers:=[] } (by as_aux_lemma=>kernel_rfl) ?_
   refine wc_ev [] (.exit 0) hh8 [(9,(vB false))] ?_
   refine wc_ev [] .ret hh8 [(2,(vI 0))] ?_
   exact end_ev [] (vI 0) (hK _ _ (⟨congrArg _ (chk4 chk0 c7 c12),x11⟩))
  ·refine wc_ev [evC 3 1 1 agg86 f5,evF 4 1 sn9,neT 5 1 34 c12] .ret hh8 [(9,(vB true)),(10,(vP bs 1)),(11,(Value.func (.func 136) #[] #[(vP bt 0)])),(4,(Value.func (.func 136) #[] #[(vP bt 0)])),(12,(Value.func (.func 136) #[] #[(vP bt 0)])),(13,(vI (if timB n=true then 0 else 2))),(5,(vI (if timB n=true then 0 else 2))),(14,(vI (if timB n=true then 0 else 2))),(15,(vB true)),(16,(vI (if timB n=true then 0 else 2))),(2,(vI (if timB n=true then 0 else 2)))] ?_
   exact end_ev [] (vI (if timB n=true then 0 else 2)) (hK _ _ (⟨congrArg _ (chk3 chk0 c7 c12),x11⟩))
 ·refine wc_ev [evC 3 1 0 agg86 hbs,evF 4 1 sn2,neT 5 1 34 c7] .ret hh1 [(9,(vB true)),(10,(vP bs 0)),(11,(Value.func (.func 135) #[] #[(vP bd 0)])),(4,(Value.func (.func 135) #[] #[(vP bd 0)])),(12,(Value.func (.func 135) #[] #[(vP bd 0)])),(13,(vI (if defB d=true then 0 else 15))),(5,(vI (if defB d=true then 0 else 15))),(14,(vI (if defB d=true then 0 else 15))),(15,(vB true)),(16,(vI (if defB d=true then 0 else 15))),(2,(vI (if defB d=true then 0 else 15)))] ?_
  exact end_ev [] (vI (if defB d=true then 0 else 15)) (hK _ _ (⟨congrArg _ (chk2 chk0 c7),x6⟩))
set_option maxHeartbeats 4000000 in
theorem all_bdt (h:Heap) {bb:Nat} (t b:Int) (hbb:h[bb]?=some (.cells #[.int .i64 t,.int .i64 b] 36 (0,0))) {bd:Nat} (d:DefM) (sa:Option Addr) (cp:Nat) (hl:LAt h stepc 2 d.xs (.slice sa d.xs.length cp)) (hlen:d.xs.length≤9223372036854775807) (hbd:h[bd]?=some (.cells #[(vS d.name),(vI (d.rt)),(vI (d.dl)),(Value.slice sa (d.xs.length) (cp))] 31 (0,0))) {bt:Nat} (n:Int) (hbt:h[bt]?=some (.cells #[.int .i64 n] 3 (0,0))) {bs:Nat} (hbs:h[bs]?=some (.cells #[(Value.func (.func 189) #[] #[(vP bb 0)]),(Value.func (.func 135) #[] #[(vP bd 0)]),(Value.func (.func 136) #[] #[(vP bt 0)])] 86 (0,0))):WCall Tryz.prog 115 #[(Value.slice (some ⟨bs,0,none⟩) 3 3)] h (fun v h1=>v=.int .i64 (chkE (budB t b) (defB d) (timB n))∧Ext h h1):=by
 refine wcall_by fun K hK=>?_
 refine wcall_at { tmps:=#[(vL (some ⟨bs,0,none⟩) 3 3),vZ,vZ,vZ,vZ,vZ,vZ,vZ,vZ,vZ,vZ,vZ,vZ,vZ,vZ,vZ,vZ,vZ],defers:=[] } (by kernel_rfl) ?_
 refine wc_seq' (subc (bodyOf Tryz.prog 115) [0]) (subc (bodyOf Tryz.prog 115) [1]) (by kernel_rfl) ?_
 refine wc_ev [] .normal h [(2,(vI 0))] ?_
 refine wc_seq' (subc (bodyOf Tryz.prog 115) [1,0]) (subc (bodyOf Tryz.prog 115) [1,1]) (by kernel_rfl) ?_
 refine wc_seq' (subc (bodyOf Tryz.prog 115) [1,0,0]) (subc (bodyOf Tryz.prog 115) [1,0,1]) (by kernel_rfl) ?_
 refine wc_ev [] .normal h [(6,(vL (some ⟨bs,0,none⟩) 3 3)),(7,(vI 3)),(8,(vI 0))] ?_
 refine wc_block' 0 (subc (bodyOf Tryz.prog 115) [1,0,1,0]) (by kernel_rfl) ?_
 refine wc_once (subc (bodyOf Tryz.prog 115) [1,0,1,0,0]) (by kernel_rfl) ?_
 obtain ⟨_,hh1,sn2,rfl,x3⟩:=valid1_ok h t b hbb
 have f4:=x3 _ _ hbd
 have f5:=x3 _ _ hbt
 have f6:=x3 _ _ hbs
 have x7:=(Ext.refl h).trans x3
 by_cases c8:((if budB t b=true then 0 else 2):Int)=0
 ·refine wc_ev [evC 3 1 0 agg86 hbs,evF 4 1 sn2,neF 5 1 34 c8] .normal hh1 [(9,(vB true)),(10,(vP bs 0)),(11,(Value.func (.func 189) #[] #[(vP bb 0)])),(4,(Value.func (.func 189) #[] #[(vP bb 0)])),(12,(Value.func (.func 189) #[] #[(vP bb 0)])),(13,(vI (if budB t b=true then 0 else 2))),(5,(vI (if budB t b=true then 0 else 2))),(14,(vI (if budB t b=true then 0 else 2))),(15,(vB false)),(17,(vI 1)),(8,(vI 1))] ?_
  refine wc_once (subc (bodyOf Tryz.prog 115) [1,0,1,0,0]) rfl ?_
  obtain ⟨_,hh9,sn10,rfl,x11⟩:=of1_ok hh1 d _ _ (hl.keep fun b r _ q=>x7 b r q) (by omega) f4
  have f12:=x11 _ _ f5
  have f13:=x11 _ _ f6
  have x14:=x7.trans x11
  by_cases c15:((if defB d=true then 0 else 15):Int)=0
  ·refine wc_ev [evC 3 1 1 agg86 f6,evF 4 1 sn10,neF 5 1 34 c15] .normal hh9 [(9,(vB true)),(10,(vP bs 1)),(11,(Value.func (.func 135) #[] #[(vP bd 0)])),(4,(Value.func (.func 135) #[] #[(vP bd 0)])),(12,(Value.func (.func 135) #[] #[(vP bd 0)])),(13,(vI (if defB d=true then 0 else 15))),(5,(vI (if defB d=true then 0 else 15))),(14,(vI (if defB d=true then 0 else 15))),(15,(vB false)),(17,(vI 2)),(8,(vI 2))] ?_
   refine wc_once (subc (bodyOf Tryz.prog 115) [1,0,1,0,0]) rfl ?_
   refine wc_act { tmps:=#[(vL (some ⟨bs,0,none⟩) 3 3),vZ,(vI 0),vZ,(Value.func (.func 135) #[] #[(vP bd 0)]),(vI (if defB d=true then 0 else 15)),(vL (some ⟨bs,0,none⟩) 3 3),(vI 3),(vI 2),(vB true),(vP bs 1),(Value.func (.func 135) #[] #[(vP bd 0)]),(Value.func (.func 135) #[] #[(vP bd 0)]),(vI (if defB d=true then 0 else 15)),(vI (if defB d=true then 0 else 15)),(vB false),vZ,(vI 2)],defers:=[] } (by as_aux_lemma=>kernel_rfl) ?_
   obtain ⟨_,hh16,sn17,rfl,x18⟩:=at1_ok hh9 n f12
   have x19:=x14.trans x18
   by_cases c20:((if timB n=true then 0 else 2):Int)=0
   ·refine wc_ev [evC 3 1 2 agg86 f13,evF 4 1 sn17,neF 5 1 34 c20] .normal hh16 [(9,(vB true)),(10,(vP bs 2)),(11,(Value.func (.func 136) #[] #[(vP bt 0)])),(4,(Value.func (.func 136) #[] #[(vP bt 0)])),(12,(Value.func (.func 136) #[] #[(vP bt 0)])),(13,(vI (if timB n=true then 0 else 2))),(5,(vI (if timB n=true then 0 else 2))),(14,(vI (if timB n=true then 0 else 2))),(15,(vB false)),(17,(vI 3)),(8,(vI 3))] ?_
    refine wc_once (subc (bodyOf Tryz.prog 115) [1,0,1,0,0]) rfl ?_
    refine wc_ev [] (.exit 0) hh16 [(9,(vB false))] ?_
    refine wc_ev [] .ret hh16 [(2,(vI 0))] ?_
    exact end_ev [] (vI 0) (hK _ _ (⟨congrArg _ (chk4 c8 c15 c20),x19⟩))
   ·refine wc_ev [evC 3 1 2 agg86 f13,evF 4 1 sn17,neT 5 1 34 c20] .ret hh16 [(9,(vB true)),(10,(vP bs 2)),(11,(Value.func (.func 136) #[] #[(vP bt 0)])),(4,(Value.func (.func 136) #[] #[(vP bt 0)])),(12,(Value.func (.func 136) #[] #[(vP bt 0)])),(13,(vI (if timB n=true then 0 else 2))),(5,(vI (if timB n=true then 0 else 2))),(14,(vI (if timB n=true then 0 else 2))),(15,(vB true)),(16,(vI (if timB n=true then 0 else 2))),(2,(vI (if timB n=true then 0 else 2)))] ?_
    exact end_ev [] (vI (if timB n=true then 0 else 2)) (hK _ _ (⟨congrArg _ (chk3 c8 c15 c20),x19⟩))
  ·refine wc_ev [evC 3 1 1 agg86 f6,evF 4 1 sn10,neT 5 1 34 c15] .ret hh9 [(9,(vB true)),(10,(vP bs 1)),(11,(Value.func (.func 135) #[] #[(vP bd 0)])),(4,(Value.func (.func 135) #[] #[(vP bd 0)])),(12,(Value.func (.func 135) #[] #[(vP bd 0)])),(13,(vI (if defB d=true then 0 else 15))),(5,(vI (if defB d=true then 0 else 15))),(14,(vI (if defB d=true then 0 else 15))),(15,(vB true)),(16,(vI (if defB d=true then 0 else 15))),(2,(vI (if defB d=true then 0 else 15)))] ?_
   exact end_ev [] (vI (if defB d=true then 0 else 15)) (hK _ _ (⟨congrArg _ (chk2 c8 c15),x14⟩))
 ·refine wc_ev [evC 3 1 0 agg86 hbs,evF 4 1 sn2,neT 5 1 34 c8] .ret hh1 [(9,(vB true)),(10,(vP bs 0)),(11,(Value.func (.func 189) #[] #[(vP bb 0)])),(4,(Value.func (.func 189) #[] #[(vP bb 0)])),(12,(Value.func (.func 189) #[] #[(vP bb 0)])),(13,(vI (if budB t b=true then 0 else 2))),(5,(vI (if budB t b=true then 0 else 2))),(14,(vI (if budB t b=true then 0 else 2))),(15,(vB true)),(16,(vI (if budB t b=true then 0 else 2))),(2,(vI (if budB t b=true then 0 else 2)))] ?_
  exact end_ev [] (vI (if budB t b=true then 0 else 2)) (hK _ _ (⟨congrArg _ (chk1 c8),x7⟩))
set_option maxHeartbeats 4000000 in
theorem late_ok (h:Heap) (t b:Int) (d:DefM) (sa:Option Addr) (cp:Nat) (hl:LAt h stepc 2 d.xs (.slice sa d.xs.length cp)) (hlen:d.xs.length≤9223372036854775807) (n:Int):WCall Tryz.prog 183 #[(Value.agg #[(vI (t)),(vI (b))]),(Value.agg #[(vS d.name),(vI (d.rt)),(vI (d.dl)),(Value.slice sa (d.xs.length) (cp))]),(vI (n))] h (fun v h1=>v=.tuple #[.bool (lateM t b d n),.int .i64 (chkE (budB t b) (defB d) (timB n))]∧Ext h h1):=by
 refine wcall_by fun K hK=>?_
 refine wcall_at { tmps:=#[(vA #[(vI t),(vI b)]),(vA #[(vS d.name),(vI d.rt),(vI d.dl),(vL sa d.xs.length cp)]),(vI n),vZ,vZ,vZ,vZ,vZ,vZ,vZ,vZ,vZ,vZ,vZ,vZ,vZ,vZ,vZ,vZ,vZ,vZ,vZ,vZ,vZ,vZ,vZ,vZ,vZ,vZ,vZ,vZ,vZ],defers:=[] } (by kernel_rfl) ?_
 obtain ⟨b1,eb2⟩:∃ zq,zq=h.size:=⟨_,rfl⟩
 obtain ⟨h3,e4⟩:∃ zq,zq=h.push (.cells #[(vI (t)),(vI (b))] 36 (0,0)):=⟨_,rfl⟩
 have f5:=push_new e4
 rw [← eb2] at f5
 have x6:Ext h h3:=by rw [e4]; exact Ext.push _ _
 have o7:h.size≤b1:=by have:=(Ext.refl h).size; omega
 have x8:=(Ext.refl h).trans x6
 obtain ⟨b9,eb10⟩:∃ zq,zq=h3.size:=⟨_,rfl⟩
 obtain ⟨h11,e12⟩:∃ zq,zq=h3.push (.cells #[(vS d.name),(vI (d.rt)),(vI (d.dl)),(Value.slice sa (d.xs.length) (cp))] 31 (0,0)):=⟨_,rfl⟩
 have f13:=push_new e12
 rw [← eb10] at f13
 have x14:Ext h3 h11:=by rw [e12]; exact Ext.push _ _
 have o15:h.size≤b9:=by have:=x8.size; omega
 have f17:=x14 _ _ f5
 have x18:=x8.trans x14
 obtain ⟨_,hh19,sn20,b21,rfl,f22,x23⟩:=valid_ok h11 t b
 have f24:=x23 _ _ f17
 have f25:=x23 _ _ f13
 have x26:=x18.trans x23
 obtain ⟨_,hh27,sn28,b29,rfl,f30,x31⟩:=of_ok hh19 d.name d.rt d.dl (Value.slice sa (d.xs.length) (cp))
 have f33:=x31 _ _ f24
 have f34:=x31 _ _ f25
 have f35:=x31 _ _ f22
 have x36:=x26.trans x31
 obtain ⟨_,hh37,sn38,b39,rfl,f40,x41⟩:=at_ok hh27 n
 have f42:=x41 _ _ f33
 have f43:=x41 _ _ f34
 have f44:=x41 _ _ f35
 have f45:=x41 _ _ f30
 have x46:=x36.trans x41
 obtain ⟨b47,eb48⟩:∃ zq,zq=hh37.size:=⟨_,rfl⟩
 obtain ⟨h49,e50⟩:∃ zq,zq=hh37.push (.cells #[(Value.func (.func 189) #[] #[(vP b21 0)]),(Value.func (.func 135) #[] #[(vP b29 0)]),(Value.func (.func 136) #[] #[(vP b39 0)])] 86 (0,0)):=⟨_,rfl⟩
 have f51:=push_new e50
 rw [← eb48] at f51
 have x52:Ext hh37 h49:=by rw [e50]; exact Ext.push _ _
 have o53:h.size≤b47:=by have:=x46.size; omega
 have f54:=x52 _ _ f42
 have f55:=x52 _ _ f43
 have f56:=x52 _ _ f44
 have f57:=x52 _ _ f45
 have f58:=x52 _ _ f40
 have x59:=x46.trans x52
 obtain ⟨_,h60,s61,rfl,x62⟩:=all_bdt h49 t b f56 d _ _ (hl.keep fun b r _ q=>x59 b r q) (by omega) f57 n f58 f51
 have f63:=x62 _ _ f54
 have f65:=x62 _ _ f55
 have x66:=x59.trans x62
 by_cases c67:((chkE (budB t b) (defB d) (timB n)):Int)=0
 ·obtain ⟨z573b,z573d,z573t⟩:=chkE_zero c67
  have:=defB_of z573d
  have:=budB_of z573b
  have:=timB_of z573t
  by_cases c68:(0:Int) < (d.dl)
  ·by_cases c69:((d.dl):Int)≤((n) - (b))
   ·refine wc_ev [evA 0 0 eb2 e4,evA 0 1 eb10 e12,evLw 1 0 agg36 size36 f17,evLw 1 2 agg31 size31 f13,evF 1 1 sn20,evLw 99 0 agg31 size31 f25,evF 1 3 sn28,evF 1 5 sn38,evS 1 6 3 eb48 e50,evF 1 7 s61,neF 2 1 34 c67,evC 4 1 2 agg3 f65,gtT 4 2 3 c68,evC 4 6 1 agg3 f63,evV 4 7 (vI ((n) - (b))) (show binA Tryz.prog .sub 3 (vI n) (vI b)=some (vI ((n) - (b))) from sub_i64 (by omega) (by omega)),evC 4 9 2 agg3 f65,geT 4 10 3 c69] .ret h60 [(3,(vP b1 0)),(4,(vP b9 0)),(6,(vB false)),(7,(vI 0)),(9,(vA #[(vI t),(vI b)])),(11,(vA #[(vS d.name),(vI d.rt),(vI d.dl),(vL sa d.xs.length cp)])),(13,(vI n)),(10,(Value.func (.func 189) #[] #[(vP b21 0)])),(12,(Value.func (.func 135) #[] #[(vP b29 0)])),(14,(Value.func (.func 136) #[] #[(vP b39 0)])),(15,(vL (some ⟨b47,0,none⟩) 3 3)),(16,(vI (chkE (budB t b) (defB d) (timB n)))),(8,(vI (chkE (budB t b) (defB d) (timB n)))),(17,(vI (chkE (budB t b) (defB d) (timB n)))),(18,(vB false)),(20,(vP b9 2)),(21,(vI d.dl)),(22,(vB true)),(23,(vB true)),(24,(vI n)),(25,(vP b1 1)),(26,(vI b)),(27,(vI ((n) - (b)))),(28,(vP b9 2)),(29,(vI d.dl)),(30,(vB true)),(31,(vB true)),(6,(vB true)),(7,(vI 0))] ?_
    exact end_ev [] (vT #[(vB true),(vI 0)]) (hK _ _ (⟨by unfold lateM; rw [decide_eq_true (by omega),c67],x66⟩))
   ·refine wc_ev [evA 0 0 eb2 e4,evA 0 1 eb10 e12,evLw 1 0 agg36 size36 f17,evLw 1 2 agg31 size31 f13,evF 1 1 sn20,evLw 99 0 agg31 size31 f25,evF 1 3 sn28,evF 1 5 sn38,evS 1 6 3 eb48 e50,evF 1 7 s61,neF 2 1 34 c67,evC 4 1 2 agg3 f65,gtT 4 2 3 c68,evC 4 6 1 agg3 f63,evV 4 7 (vI ((n) - (b))) (show binA Tryz.prog .sub 3 (vI n) (vI b)=some (vI ((n) - (b))) from sub_i64 (by omega) (by omega)),evC 4 9 2 agg3 f65,geF 4 10 3 c69] .ret h60 [(3,(vP b1 0)),(4,(vP b9 0)),(6,(vB false)),(7,(vI 0)),(9,(vA #[(vI t),(vI b)])),(11,(vA #[(vS d.name),(vI d.rt),(vI d.dl),(vL sa d.xs.length cp)])),(13,(vI n)),(10,(Value.func (.func 189) #[] #[(vP b21 0)])),(12,(Value.func (.func 135) #[] #[(vP b29 0)])),(14,(Value.func (.func 136) #[] #[(vP b39 0)])),(15,(vL (some ⟨b47,0,none⟩) 3 3)),(16,(vI (chkE (budB t b) (defB d) (timB n)))),(8,(vI (chkE (budB t b) (defB d) (timB n)))),(17,(vI (chkE (budB t b) (defB d) (timB n)))),(18,(vB false)),(20,(vP b9 2)),(21,(vI d.dl)),(22,(vB true)),(23,(vB true)),(24,(vI n)),(25,(vP b1 1)),(26,(vI b)),(27,(vI ((n) - (b)))),(28,(vP b9 2)),(29,(vI d.dl)),(30,(vB false)),(31,(vB false)),(6,(vB false)),(7,(vI 0))] ?_
    exact end_ev [] (vT #[(vB false),(vI 0)]) (hK _ _ (⟨by unfold lateM; rw [decide_eq_false (by omega),c67],x66⟩))
  ·refine wc_ev [evA 0 0 eb2 e4,evA 0 1 eb10 e12,evLw 1 0 agg36 size36 f17,evLw 1 2 agg31 size31 f13,evF 1 1 sn20,evLw 99 0 agg31 size31 f25,evF 1 3 sn28,evF 1 5 sn38,evS 1 6 3 eb48 e50,evF 1 7 s61,neF 2 1 34 c67,evC 4 1 2 agg3 f65,gtF 4 2 3 c68] .ret h60 [(3,(vP b1 0)),(4,(vP b9 0)),(6,(vB false)),(7,(vI 0)),(9,(vA #[(vI t),(vI b)])),(11,(vA #[(vS d.name),(vI d.rt),(vI d.dl),(vL sa d.xs.length cp)])),(13,(vI n)),(10,(Value.func (.func 189) #[] #[(vP b21 0)])),(12,(Value.func (.func 135) #[] #[(vP b29 0)])),(14,(Value.func (.func 136) #[] #[(vP b39 0)])),(15,(vL (some ⟨b47,0,none⟩) 3 3)),(16,(vI (chkE (budB t b) (defB d) (timB n)))),(8,(vI (chkE (budB t b) (defB d) (timB n)))),(17,(vI (chkE (budB t b) (defB d) (timB n)))),(18,(vB false)),(20,(vP b9 2)),(21,(vI d.dl)),(22,(vB false)),(23,(vB false)),(24,vZ),(25,vZ),(26,vZ),(27,vZ),(28,vZ),(29,vZ),(30,vZ),(31,(vB false)),(6,(vB false)),(7,(vI 0))] ?_
   exact end_ev [] (vT #[(vB false),(vI 0)]) (hK _ _ (⟨by unfold lateM; rw [decide_eq_false (by omega),c67],x66⟩))
 ·refine wc_ev [evA 0 0 eb2 e4,evA 0 1 eb10 e12,evLw 1 0 agg36 size36 f17,evLw 1 2 agg31 size31 f13,evF 1 1 sn20,evLw 99 0 agg31 size31 f25,evF 1 3 sn28,evF 1 5 sn38,evS 1 6 3 eb48 e50,evF 1 7 s61,neT 2 1 34 c67] .ret h60 [(3,(vP b1 0)),(4,(vP b9 0)),(6,(vB false)),(7,(vI 0)),(9,(vA #[(vI t),(vI b)])),(11,(vA #[(vS d.name),(vI d.rt),(vI d.dl),(vL sa d.xs.length cp)])),(13,(vI n)),(10,(Value.func (.func 189) #[] #[(vP b21 0)])),(12,(Value.func (.func 135) #[] #[(vP b29 0)])),(14,(Value.func (.func 136) #[] #[(vP b39 0)])),(15,(vL (some ⟨b47,0,none⟩) 3 3)),(16,(vI (chkE (budB t b) (defB d) (timB n)))),(8,(vI (chkE (budB t b) (defB d) (timB n)))),(17,(vI (chkE (budB t b) (defB d) (timB n)))),(18,(vB true)),(19,(vI (chkE (budB t b) (defB d) (timB n)))),(6,(vB false)),(7,(vI (chkE (budB t b) (defB d) (timB n))))] ?_
  exact end_ev [] (vT #[(vB false),(vI (chkE (budB t b) (defB d) (timB n)))]) (hK _ _ (⟨by unfold lateM; rw [decide_eq_false (fun w=>c67 w.1)],x66⟩))
set_option maxHeartbeats 4000000 in
theorem next_ok (h:Heap) (t b:Int):WCall Tryz.prog 186 #[(Value.agg #[(vI (t)),(vI (b))])] h (fun v h1=>v=(Value.agg #[(vI 0),(vI (b))])∧Ext h h1):=by
 obtain ⟨b1,eb2⟩:∃ zq,zq=h.size:=⟨_,rfl⟩
 obtain ⟨h3,e4⟩:∃ zq,zq=h.push (.cells #[(vI (t)),(vI (b))] 36 (0,0)):=⟨_,rfl⟩
 have f5:=push_new e4
 rw [← eb2] at f5
 have x6:Ext h h3:=by rw [e4]; exact Ext.push _ _
 have o7:h.size≤b1:=by have:=(Ext.refl h).size; omega
 have x8:=(Ext.refl h).trans x6
 obtain ⟨b9,eb10⟩:∃ zq,zq=h3.size:=⟨_,rfl⟩
 obtain ⟨h11,e12⟩:∃ zq,zq=h3.push (.cells #[(vI 0),(vI 0)] 36 (0,0)):=⟨_,rfl⟩
 have f13:=push_new e12
 rw [← eb10] at f13
 have x14:Ext h3 h11:=by rw [e12]; exact Ext.push _ _
 have o15:h.size≤b9:=by have:=x8.size; omega
 have f17:=x14 _ _ f5
 have x18:=x8.trans x14
 obtain ⟨h19,e20⟩:∃ zq,zq=h11.setIfInBounds b9 (.cells #[(vI 0),(vI (b))] 36 (0,0)):=⟨_,rfl⟩
 have f21:=set_same e20 f13
 have x22:=Ext.setNew x18 e20 o15
 exact hCall_ev [evA 0 0 eb2 e4,evA 0 1 eb10 e12,evC 1 1 1 agg3 f17,evUw 1 3 size36 f13 e20] [evLw 0 0 agg36 size36 f21] (vA #[(vI 0),(vI b)]) h19 ⟨rfl,x22⟩
set_option maxHeartbeats 4000000 in
theorem rnext_ok (h:Heap) (t b:Int):WCall Tryz.prog 126 #[(Value.agg #[(vI (t)),(vI (b))])] h (fun v h1=>v=(Value.agg #[(vI 0),(vI (b))])∧Ext h h1):=by
 obtain ⟨b1,eb2⟩:∃ zq,zq=h.size:=⟨_,rfl⟩
 obtain ⟨h3,e4⟩:∃ zq,zq=h.push (.cells #[(vI (t)),(vI (b))] 49 (0,0)):=⟨_,rfl⟩
 have f5:=push_new e4
 rw [← eb2] at f5
 have x6:Ext h h3:=by rw [e4]; exact Ext.push _ _
 have o7:h.size≤b1:=by have:=(Ext.refl h).size; omega
 have x8:=(Ext.refl h).trans x6
 obtain ⟨b9,eb10⟩:∃ zq,zq=h3.size:=⟨_,rfl⟩
 obtain ⟨h11,e12⟩:∃ zq,zq=h3.push (.cells #[(vI 0),(vI 0)] 49 (0,0)):=⟨_,rfl⟩
 have f13:=push_new e12
 rw [← eb10] at f13
 have x14:Ext h3 h11:=by rw [e12]; exact Ext.push _ _
 have o15:h.size≤b9:=by have:=x8.size; omega
 have f17:=x14 _ _ f5
 have x18:=x8.trans x14
 obtain ⟨h19,e20⟩:∃ zq,zq=h11.setIfInBounds b9 (.cells #[(vI 0),(vI (b))] 49 (0,0)):=⟨_,rfl⟩
 have f21:=set_same e20 f13
 have x22:=Ext.setNew x18 e20 o15
 exact hCall_ev [evA 0 0 eb2 e4,evA 0 1 eb10 e12,evC 1 1 1 agg3 f17,evUw 1 3 size49 f13 e20] [evLw 0 0 agg49 size49 f21] (vA #[(vI 0),(vI b)]) h19 ⟨rfl,x22⟩
set_option maxHeartbeats 4000000 in
theorem start_ok (h:Heap) (d:DefM) (sa:Option Addr) (cp:Nat) (hl:LAt h stepc 2 d.xs (.slice sa d.xs.length cp)) (hlen:d.xs.length≤9223372036854775807) (n:Int):WCall Tryz.prog 81 #[(Value.agg #[(vS d.name),(vI (d.rt)),(vI (d.dl)),(Value.slice sa (d.xs.length) (cp))]),(vI (n))] h (fun v h1=>v=.tuple #[.agg #[.int .i64 0,.int .i64 (stS d n)],.int .i64 (chkE true (defB d) (timB n))]∧Ext h h1):=by
 refine wcall_by fun K hK=>?_
 refine wcall_at { tmps:=#[(vA #[(vS d.name),(vI d.rt),(vI d.dl),(vL sa d.xs.length cp)]),(vI n),vZ,vZ,vZ,vZ,vZ,vZ,vZ,vZ,vZ,vZ,vZ,vZ,vZ,vZ,vZ,vZ,vZ],defers:=[] } (by kernel_rfl) ?_
 obtain ⟨b1,eb2⟩:∃ zq,zq=h.size:=⟨_,rfl⟩
 obtain ⟨h3,e4⟩:∃ zq,zq=h.push (.cells #[(vS d.name),(vI (d.rt)),(vI (d.dl)),(Value.slice sa (d.xs.length) (cp))] 31 (0,0)):=⟨_,rfl⟩
 have f5:=push_new e4
 rw [← eb2] at f5
 have x6:Ext h h3:=by rw [e4]; exact Ext.push _ _
 have o7:h.size≤b1:=by have:=(Ext.refl h).size; omega
 have x8:=(Ext.refl h).trans x6
 obtain ⟨b9,eb10⟩:∃ zq,zq=h3.size:=⟨_,rfl⟩
 obtain ⟨h11,e12⟩:∃ zq,zq=h3.push (.cells #[(vI 0),(vI 0)] 36 (0,0)):=⟨_,rfl⟩
 have f13:=push_new e12
 rw [← eb10] at f13
 have x14:Ext h3 h11:=by rw [e12]; exact Ext.push _ _
 have o15:h.size≤b9:=by have:=x8.size; omega
 have f17:=x14 _ _ f5
 have x18:=x8.trans x14
 obtain ⟨_,hh19,sn20,b21,rfl,f22,x23⟩:=of_ok h11 d.name d.rt d.dl (Value.slice sa (d.xs.length) (cp))
 have f24:=x23 _ _ f13
 have x25:=x18.trans x23
 obtain ⟨_,hh26,sn27,b28,rfl,f29,x30⟩:=at_ok hh19 n
 have f31:=x30 _ _ f24
 have f33:=x30 _ _ f22
 have x34:=x25.trans x30
 obtain ⟨b35,eb36⟩:∃ zq,zq=hh26.size:=⟨_,rfl⟩
 obtain ⟨h37,e38⟩:∃ zq,zq=hh26.push (.cells #[(Value.func (.func 135) #[] #[(vP b21 0)]),(Value.func (.func 136) #[] #[(vP b28 0)])] 86 (0,0)):=⟨_,rfl⟩
 have f39:=push_new e38
 rw [← eb36] at f39
 have x40:Ext hh26 h37:=by rw [e38]; exact Ext.push _ _
 have o41:h.size≤b35:=by have:=x34.size; omega
 have f42:=x40 _ _ f31
 have f43:=x40 _ _ f33
 have f44:=x40 _ _ f29
 have x45:=x34.trans x40
 obtain ⟨_,h46,s47,rfl,x48⟩:=all_dt h37 d _ _ (hl.keep fun b r _ q=>x45 b r q) (by omega) f43 n f44 f39
 have f49:=x48 _ _ f42
 have x50:=x45.trans x48
 by_cases c51:((chkE true (defB d) (timB n)):Int)=0
 ·obtain ⟨z688b,z688d,z688t⟩:=chkE_zero c51
  have:=defB_of z688d
  have:=timB_of z688t
  obtain ⟨h52,e53⟩:∃ zq,zq=h46.setIfInBounds b9 (.cells #[(vI 0),(vI (n))] 36 (0,0)):=⟨_,rfl⟩
  have f54:=set_same e53 f49
  have x55:=Ext.setNew x50 e53 o15
  refine wc_ev [evA 0 0 eb2 e4,evA 0 1 eb10 e12,evLw 1 0 agg31 size31 f17,evF 1 1 sn20,evF 1 3 sn27,evS 1 4 2 eb36 e38,evF 1 5 s47,neF 2 1 34 c51,evUw 4 2 size36 f49 e53] .ret h52 [(2,(vP b1 0)),(4,(vP b9 0)),(5,(vI 0)),(7,(vA #[(vS d.name),(vI d.rt),(vI d.dl),(vL sa d.xs.length cp)])),(8,(Value.func (.func 135) #[] #[(vP b21 0)])),(9,(vI n)),(10,(Value.func (.func 136) #[] #[(vP b28 0)])),(11,(vL (some ⟨b35,0,none⟩) 2 2)),(12,(vI (chkE true (defB d) (timB n)))),(6,(vI (chkE true (defB d) (timB n)))),(13,(vI (chkE true (defB d) (timB n)))),(14,(vB false)),(17,(vI n)),(18,(vA #[(vI 0),(vI n)])),(5,(vI 0))] ?_
  exact end_ev [evLw 0 0 agg36 size36 f54,evR (vI 0)] (vT #[(vA #[(vI 0),(vI n)]),(vI 0)]) (hK _ _ (⟨by unfold stS; rw [if_pos c51,c51],x55⟩))
 ·obtain ⟨h56,e57⟩:∃ zq,zq=h46.setIfInBounds b9 (.cells #[(vI 0),(vI 0)] 36 (0,0)):=⟨_,rfl⟩
  have f58:=set_same e57 f49
  have x59:=Ext.setNew x50 e57 o15
  refine wc_ev [evA 0 0 eb2 e4,evA 0 1 eb10 e12,evLw 1 0 agg31 size31 f17,evF 1 1 sn20,evF 1 3 sn27,evS 1 4 2 eb36 e38,evF 1 5 s47,neT 2 1 34 c51,evUw 3 2 size36 f49 e57] .ret h56 [(2,(vP b1 0)),(4,(vP b9 0)),(5,(vI 0)),(7,(vA #[(vS d.name),(vI d.rt),(vI d.dl),(vL sa d.xs.length cp)])),(8,(Value.func (.func 135) #[] #[(vP b21 0)])),(9,(vI n)),(10,(Value.func (.func 136) #[] #[(vP b28 0)])),(11,(vL (some ⟨b35,0,none⟩) 2 2)),(12,(vI (chkE true (defB d) (timB n)))),(6,(vI (chkE true (defB d) (timB n)))),(13,(vI (chkE true (defB d) (timB n)))),(14,(vB true)),(15,(vA #[(vI 0),(vI 0)])),(16,(vI (chkE true (defB d) (timB n)))),(5,(vI (chkE true (defB d) (timB n))))] ?_
  exact end_ev [evLw 0 0 agg36 size36 f58,evR (vI (chkE true (defB d) (timB n)))] (vT #[(vA #[(vI 0),(vI 0)]),(vI (chkE true (defB d) (timB n)))]) (hK _ _ (⟨by unfold stS; rw [if_neg c51],x59⟩))
set_option maxHeartbeats 4000000 in
theorem again_ok (h:Heap) (t b:Int) (d:DefM) (sa:Option Addr) (cp:Nat) (hl:LAt h stepc 2 d.xs (.slice sa d.xs.length cp)) (hlen:d.xs.length≤9223372036854775807) (n:Int):WCall Tryz.prog 184 #[(Value.agg #[(vI (t)),(vI (b))]),(Value.agg #[(vS d.name),(vI (d.rt)),(vI (d.dl)),(Value.slice sa (d.xs.length) (cp))]),(vI (n))] h (fun v h1=>v=.tuple #[.agg #[.int .i64 (agT t b d n),.int .i64 (agS t b d n)],.bool (agB t b d n),.int .i64 (agE t b d n)]∧Ext h h1):=by
 refine wcall_by fun K hK=>?_
 refine wcall_at { tmps:=#[(vA #[(vI t),(vI b)]),(vA #[(vS d.name),(vI d.rt),(vI d.dl),(vL sa d.xs.length cp)]),(vI n),vZ,vZ,vZ,vZ,vZ,vZ,vZ,vZ,vZ,vZ,vZ,vZ,vZ,vZ,vZ,vZ,vZ,vZ,vZ,vZ,vZ,vZ,vZ,vZ,vZ,vZ,vZ,vZ,vZ,vZ,vZ,vZ,vZ,vZ,vZ,vZ,vZ,vZ,vZ],defers:=[] } (by kernel_rfl) ?_
 obtain ⟨b1,eb2⟩:∃ zq,zq=h.size:=⟨_,rfl⟩
 obtain ⟨h3,e4⟩:∃ zq,zq=h.push (.cells #[(vI (t)),(vI (b))] 36 (0,0)):=⟨_,rfl⟩
 have f5:=push_new e4
 rw [← eb2] at f5
 have x6:Ext h h3:=by rw [e4]; exact Ext.push _ _
 have o7:h.size≤b1:=by have:=(Ext.refl h).size; omega
 have x8:=(Ext.refl h).trans x6
 obtain ⟨b9,eb10⟩:∃ zq,zq=h3.size:=⟨_,rfl⟩
 obtain ⟨h11,e12⟩:∃ zq,zq=h3.push (.cells #[(vS d.name),(vI (d.rt)),(vI (d.dl)),(Value.slice sa (d.xs.length) (cp))] 31 (0,0)):=⟨_,rfl⟩
 have f13:=push_new e12
 rw [← eb10] at f13
 have n14:b9 ≠ b1:=by have:=row_lt f5; omega
 have x15:Ext h3 h11:=by rw [e12]; exact Ext.push _ _
 have o16:h.size≤b9:=by have:=x8.size; omega
 have f17:=x15 _ _ f5
 have x18:=x8.trans x15
 obtain ⟨b19,eb20⟩:∃ zq,zq=h11.size:=⟨_,rfl⟩
 obtain ⟨h21,e22⟩:∃ zq,zq=h11.push (.cells #[(vI 0),(vI 0)] 36 (0,0)):=⟨_,rfl⟩
 have f23:=push_new e22
 rw [← eb20] at f23
 have n24:b19 ≠ b1:=by have:=row_lt f17; omega
 have x25:Ext h11 h21:=by rw [e22]; exact Ext.push _ _
 have o26:h.size≤b19:=by have:=x18.size; omega
 have f27:=x25 _ _ f17
 have f28:=x25 _ _ f13
 have x29:=x18.trans x25
 obtain ⟨_,hh30,sn31,rfl,x32⟩:=late_ok h21 t b d _ _ (hl.keep fun b r _ q=>x29 b r q) (by omega) n
 have f33:=x32 _ _ f27
 have f34:=x32 _ _ f28
 have f35:=x32 _ _ f23
 have x36:=x29.trans x32
 by_cases c37:((chkE (budB t b) (defB d) (timB n)):Int)=0
 ·obtain ⟨z748b,z748d,z748t⟩:=chkE_zero c37
  have:=defB_of z748d
  have:=budB_of z748b
  have:=timB_of z748t
  by_cases c38:((d.rt):Int) < (t)
  ·obtain ⟨h39,e40⟩:∃ zq,zq=hh30.setIfInBounds b19 (.cells #[(vI 0),(vI 0)] 36 (0,0)):=⟨_,rfl⟩
   have f41:=set_same e40 f35
   have x42:=Ext.setNew x36 e40 o26
   refine wc_ev [evA 0 0 eb2 e4,evA 0 1 eb10 e12,evA 0 2 eb20 e22,evLw 1 0 agg36 size36 f27,evLw 1 1 agg31 size31 f28,evF 1 3 sn31,neF 2 1 34 c37,evC 4 1 0 agg3 f33,evC 4 3 1 agg3 f34,gtT 4 4 3 c38,evUw 5 1 size36 f35 e40] .ret h39 [(3,(vP b1 0)),(4,(vP b9 0)),(6,(vP b19 0)),(7,(vB false)),(8,(vI 0)),(12,(vA #[(vI t),(vI b)])),(13,(vA #[(vS d.name),(vI d.rt),(vI d.dl),(vL sa d.xs.length cp)])),(14,(vI n)),(15,(vT #[(vB (lateM t b d n)),(vI (chkE (budB t b) (defB d) (timB n)))])),(11,(vT #[(vB (lateM t b d n)),(vI (chkE (budB t b) (defB d) (timB n)))])),(16,(vB (lateM t b d n))),(17,(vI (chkE (budB t b) (defB d) (timB n)))),(9,(vB (lateM t b d n))),(10,(vI (chkE (budB t b) (defB d) (timB n)))),(18,(vI (chkE (budB t b) (defB d) (timB n)))),(19,(vB false)),(22,(vP b1 0)),(23,(vI t)),(24,(vP b9 1)),(25,(vI d.rt)),(26,(vB true)),(27,(vA #[(vI 0),(vI 0)])),(7,(vB false)),(8,(vI 9))] ?_
   have ea:agE t b d n=9:=by unfold agE; rw [if_pos c37,if_pos (by omega)]
   exact end_ev [evLw 0 0 agg36 size36 f41,evR (vB false),evR (vI 9)] (vT #[(vA #[(vI 0),(vI 0)]),(vB false),(vI 9)]) (hK _ _ (⟨by unfold agB agT agS; rw [ea]; rfl,x42⟩))
  ·obtain ⟨h43,e44⟩:∃ zq,zq=hh30.setIfInBounds b1 (.cells #[(vI ((t) + 1)),(vI (b))] 36 (0,0)):=⟨_,rfl⟩
   have f45:=set_same e44 f33
   have f46:=set_other e44 f34 n14.symm
   have f47:=set_other e44 f35 n24.symm
   have x48:=Ext.setNew x36 e44 o7
   by_cases c49:(((t) + 1):Int)≤(d.rt)
   ·rcases Bool.eq_false_or_eq_true ((lateM t b d n)) with c50 | c50
    ·obtain ⟨h51,e52⟩:∃ zq,zq=h43.setIfInBounds b19 (.cells #[(vI ((t) + 1)),(vI (b))] 36 (0,0)):=⟨_,rfl⟩
     have f53:=set_same e52 f47
     have x54:=Ext.setNew x48 e52 o26
     refine wc_ev [evA 0 0 eb2 e4,evA 0 1 eb10 e12,evA 0 2 eb20 e22,evLw 1 0 agg36 size36 f27,evLw 1 1 agg31 size31 f28,evF 1 3 sn31,neF 2 1 34 c37,evC 4 1 0 agg3 f33,evC 4 3 1 agg3 f34,gtF 4 4 3 c38,evC 6 1 0 agg3 f33,evV 6 2 (vI ((t) + 1)) (show binA Tryz.prog .add 3 (vI t) (vI 1)=some (vI ((t) + 1)) from add_i64 (by omega) (by omega)),evT 6 4 0 size3 f33 e44,evLw 7 0 agg36 size36 f45,evC 7 2 0 agg3 f45,evC 7 4 1 agg3 f46,leT 7 5 3 c49,evM 7 7 c50,evUw 7 10 size36 f47 e52] .ret h51 [(3,(vP b1 0)),(4,(vP b9 0)),(6,(vP b19 0)),(7,(vB false)),(8,(vI 0)),(12,(vA #[(vI t),(vI b)])),(13,(vA #[(vS d.name),(vI d.rt),(vI d.dl),(vL sa d.xs.length cp)])),(14,(vI n)),(15,(vT #[(vB (lateM t b d n)),(vI (chkE (budB t b) (defB d) (timB n)))])),(11,(vT #[(vB (lateM t b d n)),(vI (chkE (budB t b) (defB d) (timB n)))])),(16,(vB (lateM t b d n))),(17,(vI (chkE (budB t b) (defB d) (timB n)))),(9,(vB (lateM t b d n))),(10,(vI (chkE (budB t b) (defB d) (timB n)))),(18,(vI (chkE (budB t b) (defB d) (timB n)))),(19,(vB false)),(22,(vP b1 0)),(23,(vI t)),(24,(vP b9 1)),(25,(vI d.rt)),(26,(vB false)),(28,(vP b1 0)),(29,(vI t)),(30,(vI ((t) + 1))),(31,(vP b1 0)),(32,(vA #[(vI ((t) + 1)),(vI b)])),(33,(vP b1 0)),(34,(vI ((t) + 1))),(35,(vP b9 1)),(36,(vI d.rt)),(37,(vB true)),(38,(vB true)),(39,(vB true)),(40,(vB false)),(41,(vB false)),(7,(vB false)),(8,(vI 0))] ?_
     have ea:agE t b d n=0:=by unfold agE; rw [if_pos c37,if_neg (by omega)]
     exact end_ev [evLw 0 0 agg36 size36 f53,evR (vB false),evR (vI 0)] (vT #[(vA #[(vI ((t) + 1)),(vI b)]),(vB false),(vI 0)]) (hK _ _ (⟨by unfold agB agT agS; rw [ea,if_pos rfl,if_pos rfl,decide_eq_false (fun w=>by rw [c50] at w; cases w.2.2)],x54⟩))
    ·obtain ⟨h55,e56⟩:∃ zq,zq=h43.setIfInBounds b19 (.cells #[(vI ((t) + 1)),(vI (b))] 36 (0,0)):=⟨_,rfl⟩
     have f57:=set_same e56 f47
     have x58:=Ext.setNew x48 e56 o26
     refine wc_ev [evA 0 0 eb2 e4,evA 0 1 eb10 e12,evA 0 2 eb20 e22,evLw 1 0 agg36 size36 f27,evLw 1 1 agg31 size31 f28,evF 1 3 sn31,neF 2 1 34 c37,evC 4 1 0 agg3 f33,evC 4 3 1 agg3 f34,gtF 4 4 3 c38,evC 6 1 0 agg3 f33,evV 6 2 (vI ((t) + 1)) (show binA Tryz.prog .add 3 (vI t) (vI 1)=some (vI ((t) + 1)) from add_i64 (by omega) (by omega)),evT 6 4 0 size3 f33 e44,evLw 7 0 agg36 size36 f45,evC 7 2 0 agg3 f45,evC 7 4 1 agg3 f46,leT 7 5 3 c49,evM 7 7 c50,evUw 7 10 size36 f47 e56] .ret h55 [(3,(vP b1 0)),(4,(vP b9 0)),(6,(vP b19 0)),(7,(vB false)),(8,(vI 0)),(12,(vA #[(vI t),(vI b)])),(13,(vA #[(vS d.name),(vI d.rt),(vI d.dl),(vL sa d.xs.length cp)])),(14,(vI n)),(15,(vT #[(vB (lateM t b d n)),(vI (chkE (budB t b) (defB d) (timB n)))])),(11,(vT #[(vB (lateM t b d n)),(vI (chkE (budB t b) (defB d) (timB n)))])),(16,(vB (lateM t b d n))),(17,(vI (chkE (budB t b) (defB d) (timB n)))),(9,(vB (lateM t b d n))),(10,(vI (chkE (budB t b) (defB d) (timB n)))),(18,(vI (chkE (budB t b) (defB d) (timB n)))),(19,(vB false)),(22,(vP b1 0)),(23,(vI t)),(24,(vP b9 1)),(25,(vI d.rt)),(26,(vB false)),(28,(vP b1 0)),(29,(vI t)),(30,(vI ((t) + 1))),(31,(vP b1 0)),(32,(vA #[(vI ((t) + 1)),(vI b)])),(33,(vP b1 0)),(34,(vI ((t) + 1))),(35,(vP b9 1)),(36,(vI d.rt)),(37,(vB true)),(38,(vB true)),(39,(vB false)),(40,(vB true)),(41,(vB true)),(7,(vB true)),(8,(vI 0))] ?_
     have ea:agE t b d n=0:=by unfold agE; rw [if_pos c37,if_neg (by omega)]
     exact end_ev [evLw 0 0 agg36 size36 f57,evR (vB true),evR (vI 0)] (vT #[(vA #[(vI ((t) + 1)),(vI b)]),(vB true),(vI 0)]) (hK _ _ (⟨by unfold agB agT agS; rw [ea,if_pos rfl,if_pos rfl,decide_eq_true ⟨rfl,by omega,c50⟩],x58⟩))
   ·obtain ⟨h59,e60⟩:∃ zq,zq=h43.setIfInBounds b19 (.cells #[(vI ((t) + 1)),(vI (b))] 36 (0,0)):=⟨_,rfl⟩
    have f61:=set_same e60 f47
    have x62:=Ext.setNew x48 e60 o26
    refine wc_ev [evA 0 0 eb2 e4,evA 0 1 eb10 e12,evA 0 2 eb20 e22,evLw 1 0 agg36 size36 f27,evLw 1 1 agg31 size31 f28,evF 1 3 sn31,neF 2 1 34 c37,evC 4 1 0 agg3 f33,evC 4 3 1 agg3 f34,gtF 4 4 3 c38,evC 6 1 0 agg3 f33,evV 6 2 (vI ((t) + 1)) (show binA Tryz.prog .add 3 (vI t) (vI 1)=some (vI ((t) + 1)) from add_i64 (by omega) (by omega)),evT 6 4 0 size3 f33 e44,evLw 7 0 agg36 size36 f45,evC 7 2 0 agg3 f45,evC 7 4 1 agg3 f46,leF 7 5 3 c49,evUw 7 10 size36 f47 e60] .ret h59 [(3,(vP b1 0)),(4,(vP b9 0)),(6,(vP b19 0)),(7,(vB false)),(8,(vI 0)),(12,(vA #[(vI t),(vI b)])),(13,(vA #[(vS d.name),(vI d.rt),(vI d.dl),(vL sa d.xs.length cp)])),(14,(vI n)),(15,(vT #[(vB (lateM t b d n)),(vI (chkE (budB t b) (defB d) (timB n)))])),(11,(vT #[(vB (lateM t b d n)),(vI (chkE (budB t b) (defB d) (timB n)))])),(16,(vB (lateM t b d n))),(17,(vI (chkE (budB t b) (defB d) (timB n)))),(9,(vB (lateM t b d n))),(10,(vI (chkE (budB t b) (defB d) (timB n)))),(18,(vI (chkE (budB t b) (defB d) (timB n)))),(19,(vB false)),(22,(vP b1 0)),(23,(vI t)),(24,(vP b9 1)),(25,(vI d.rt)),(26,(vB false)),(28,(vP b1 0)),(29,(vI t)),(30,(vI ((t) + 1))),(31,(vP b1 0)),(32,(vA #[(vI ((t) + 1)),(vI b)])),(33,(vP b1 0)),(34,(vI ((t) + 1))),(35,(vP b9 1)),(36,(vI d.rt)),(37,(vB false)),(38,(vB false)),(39,vZ),(40,vZ),(41,(vB false)),(7,(vB false)),(8,(vI 0))] ?_
    have ea:agE t b d n=0:=by unfold agE; rw [if_pos c37,if_neg (by omega)]
    exact end_ev [evLw 0 0 agg36 size36 f61,evR (vB false),evR (vI 0)] (vT #[(vA #[(vI ((t) + 1)),(vI b)]),(vB false),(vI 0)]) (hK _ _ (⟨by unfold agB agT agS; rw [ea,if_pos rfl,if_pos rfl,decide_eq_false (fun w=>absurd w.2.1 (by omega))],x62⟩))
 ·obtain ⟨h63,e64⟩:∃ zq,zq=hh30.setIfInBounds b19 (.cells #[(vI 0),(vI 0)] 36 (0,0)):=⟨_,rfl⟩
  have f65:=set_same e64 f35
  have x66:=Ext.setNew x36 e64 o26
  refine wc_ev [evA 0 0 eb2 e4,evA 0 1 eb10 e12,evA 0 2 eb20 e22,evLw 1 0 agg36 size36 f27,evLw 1 1 agg31 size31 f28,evF 1 3 sn31,neT 2 1 34 c37,evUw 3 2 size36 f35 e64] .ret h63 [(3,(vP b1 0)),(4,(vP b9 0)),(6,(vP b19 0)),(7,(vB false)),(8,(vI 0)),(12,(vA #[(vI t),(vI b)])),(13,(vA #[(vS d.name),(vI d.rt),(vI d.dl),(vL sa d.xs.length cp)])),(14,(vI n)),(15,(vT #[(vB (lateM t b d n)),(vI (chkE (budB t b) (defB d) (timB n)))])),(11,(vT #[(vB (lateM t b d n)),(vI (chkE (budB t b) (defB d) (timB n)))])),(16,(vB (lateM t b d n))),(17,(vI (chkE (budB t b) (defB d) (timB n)))),(9,(vB (lateM t b d n))),(10,(vI (chkE (budB t b) (defB d) (timB n)))),(18,(vI (chkE (budB t b) (defB d) (timB n)))),(19,(vB true)),(20,(vA #[(vI 0),(vI 0)])),(21,(vI (chkE (budB t b) (defB d) (timB n)))),(7,(vB false)),(8,(vI (chkE (budB t b) (defB d) (timB n))))] ?_
  have ea:agE t b d n=chkE (budB t b) (defB d) (timB n):=by unfold agE; rw [if_neg c37]
  exact end_ev [evLw 0 0 agg36 size36 f65,evR (vB false),evR (vI (chkE (budB t b) (defB d) (timB n)))] (vT #[(vA #[(vI 0),(vI 0)]),(vB false),(vI (chkE (budB t b) (defB d) (timB n)))]) (hK _ _ (⟨by unfold agB agT agS; rw [ea,if_neg c37,if_neg c37,decide_eq_false (fun w=>c37 w.1)],x66⟩))
theorem ifz {c:Bool} {e:Int} (he:¬ e=0) (h:(if c=true then (0:Int) else e)=0):c=true:=by cases c <;> simp_all
end C29
