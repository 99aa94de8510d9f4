/- Names. -/
import Derived.Test.YtjkcadbblgefdaaGreatDoorProg
import Derived.Test.YtjkcadbblgefdaaGreatDoorBmj
import Derived.KernelRfl
open Go Go.AM Go.Proofs
namespace C29
theorem agg4:isAggA Tryz.prog 4=some false:=by kernel_rfl
theorem size185:(Tryz.prog.info? 185).map (·.size)=some 256:=by kernel_rfl
abbrev vI (n:Int):Value:=.int .i64 n
abbrev vS (s:ByteArray):Value:=.string s
abbrev vB (b:Bool):Value:=.bool b
abbrev vP (b o:Nat):Value:=.pointer (some ⟨b,o,none⟩)
abbrev vL (a:Option Addr) (n c:Nat):Value:=.slice a n c
abbrev vA (c:Array Value):Value:=.agg c
abbrev vT (c:Array Value):Value:=.tuple c
abbrev vZ:Value:=.tuple #[]
abbrev vN:Value:=.pointer none
abbrev vU:Value:=undef
section
variable {a b : Int} (r i t : Nat)
abbrev eqT (c:a=b):Ev:=Go.AM.eqT (P:=Tryz.prog) (k:=.i64) r i t c
abbrev eqF (c:¬ a=b):Ev:=Go.AM.eqF (P:=Tryz.prog) (k:=.i64) r i t c
abbrev neT (c:¬ a=b):Ev:=Go.AM.neT (P:=Tryz.prog) (k:=.i64) r i t c
abbrev neF (c:a=b):Ev:=Go.AM.neF (P:=Tryz.prog) (k:=.i64) r i t c
abbrev ltT (c:a < b):Ev:=Go.AM.ltT (P:=Tryz.prog) (k:=.i64) r i t c
abbrev ltF (c:¬ a < b):Ev:=Go.AM.ltF (P:=Tryz.prog) (k:=.i64) r i t c
abbrev leT (c:a≤b):Ev:=Go.AM.leT (P:=Tryz.prog) (k:=.i64) r i t c
abbrev leF (c:¬ a≤b):Ev:=Go.AM.leF (P:=Tryz.prog) (k:=.i64) r i t c
abbrev gtT (c:b < a):Ev:=Go.AM.gtT (P:=Tryz.prog) (k:=.i64) r i t c
abbrev gtF (c:¬ b < a):Ev:=Go.AM.gtF (P:=Tryz.prog) (k:=.i64) r i t c
abbrev geT (c:b≤a):Ev:=Go.AM.geT (P:=Tryz.prog) (k:=.i64) r i t c
abbrev geF (c:¬ b≤a):Ev:=Go.AM.geF (P:=Tryz.prog) (k:=.i64) r i t c
end
section
variable {a b : ByteArray} (r i t : Nat)
abbrev seT (c:a=b):Ev:=Go.AM.seT (P:=Tryz.prog) r i t c
abbrev seF (c:¬ a=b):Ev:=Go.AM.seF (P:=Tryz.prog) r i t c
abbrev snT (c:¬ a=b):Ev:=Go.AM.snT (P:=Tryz.prog) r i t c
abbrev snF (c:a=b):Ev:=Go.AM.snF (P:=Tryz.prog) r i t c
end
theorem sb_eql (b:Bool):binA Tryz.prog .eql 4 (.bool b) (.bool b)=some (.bool true):=by cases b <;> kernel_rfl
abbrev LD (h:Heap) (t:TypeId) (b o:Nat) (v:Value):Prop:=loadT Tryz.prog h t (vP b o)=some v∧h=h
abbrev BN (o:BinOp) (t:TypeId) (a b v:Value) (h:Heap):Prop:=binA Tryz.prog o t a b=some v∧h=h
section
variable {t : TypeId} {k : IntKind} {a b : Int} {h : Heap}
end
/-- A byte of a text. -/
def byt (s:ByteArray) (k:Nat):Int:=((s.data[k]?.getD 0).toNat:Int)
theorem byt_range (s:ByteArray) (k:Nat):0≤byt s k∧byt s k≤255:=by
 unfold byt
 have:=(s.data[k]?.getD 0).toNat_lt
 omega
theorem str_und:Tryz.prog.underlying 9=some .string:=by kernel_rfl
theorem index_byt {s:ByteArray} {i:Int} {k:IntKind} (h0:0≤i) (h1:i < (s.size:Nat)):indexA Tryz.prog 9 (.string s) (.int k i)=some (.int .u8 (byt s i.toNat)):=by
 have hl:i.toNat < s.data.size:=by have:s.size=s.data.size:=rfl; omega
 have e:s[i.toNat]?=some s.data[i.toNat]:=by
  have:s.size=s.data.size:=rfl
  rw [getElem?_pos s i.toNat (by omega)]; rfl
 simp only [indexA,str_und,h0,if_true,e,Option.map_some,byt]
 rw [Array.getElem?_eq_getElem hl]; rfl
theorem bnd_int {k:IntKind} {i:Int} {n:Nat} (h0:0≤i) (h1:i≤n):bndA (.int k i) n=some i.toNat:=by
 unfold bndA
 simp only
 first
  | rw [if_pos (by omega)]
  | rw [if_pos ⟨h0,by omega⟩]
theorem slice_hi {h:Heap} {s:ByteArray} {i:Int} {k:IntKind} (h0:0≤i) (h1:i≤(s.size:Nat)):sliceA Tryz.prog h 9 (.string s) none (some (.int k i)) none=some (.string (s.extract 0 i.toNat)):=by
 simp only [sliceA,str_und,boundsA,bnd_int h0 h1,Option.isSome_none,Bool.false_eq_true,if_false]
theorem slice_lo {h:Heap} {s:ByteArray} {i:Int} {k:IntKind} (h0:0≤i) (h1:i≤(s.size:Nat)):sliceA Tryz.prog h 9 (.string s) (some (.int k i)) none none=some (.string (s.extract i.toNat s.size)):=by
 simp only [sliceA,str_und,boundsA,bnd_int h0 h1,Option.isSome_none,Bool.false_eq_true,if_false,false_or,Nat.lt_irrefl]
theorem ext_size (s:ByteArray) (a b:Nat):(s.extract a b).size=min b s.size - a:=by simp [ByteArray.size_extract]
theorem byt_ext {s:ByteArray} {a b k:Nat} (h:a + k < b) (hb:b≤s.size):byt (s.extract a b) k=byt s (a + k):=by
 have e1:(s.extract a b).data[k]?=s.data[a + k]?:=by
  have hs:s.size=s.data.size:=rfl
  rw [ByteArray.data_extract,Array.getElem?_extract]
  rw [if_pos (by omega)]
 unfold byt; rw [e1]
theorem ext_all (s:ByteArray):s.extract 0 s.size=s:=by
 apply ByteArray.ext
 have hs:s.size=s.data.size:=rfl
 rw [ByteArray.data_extract,hs,Array.extract_size]
theorem ext_pre (s:ByteArray) {a b:Nat} (h:b≤a):(s.extract 0 a).extract 0 b=s.extract 0 b:=by
 apply ByteArray.ext
 simp only [ByteArray.data_extract,Array.extract_extract]
 congr 1 <;> omega
theorem ext_step {s t:ByteArray} {a b:Nat} (e:t=s.extract 0 a) (h:b≤a):t.extract 0 b=s.extract 0 b:=by rw [e,ext_pre s h]
theorem ext_suf (s:ByteArray) {a:Nat} (h:a≤s.size):(s.extract a s.size).extract 1 (s.extract a s.size).size=s.extract (a + 1) s.size:=by
 apply ByteArray.ext
 have hs:s.size=s.data.size:=rfl
 simp only [ByteArray.data_extract,Array.extract_extract,ext_size]
 congr 1
 omega
theorem emp_iff (t:ByteArray):t=.empty ↔ t.size=0:=by
 constructor
 ·rintro rfl; rfl
 ·intro h
  apply ByteArray.ext
  have hs:t.size=t.data.size:=rfl
  exact Array.eq_empty_of_size_eq_zero (by omega)
/-- The letters and digits of names. -/
def okB (c:Int):Bool:=decide (97≤c∧c≤122 ∨ 48≤c∧c≤57)
def cutset:ByteArray:=⟨#[97,98,99,100,101,102,103,104,105,106,107,108,109,110,111,112,113,114,115,116,117,118,119,120,121,122,48,49,50,51,52,53,54,55,56,57]⟩
def nameset:Array Value:=#[.bool false,.bool false,.bool false,.bool false,.bool false,.bool false,.bool false,.bool false,.bool false,.bool false,.bool false,.bool false,.bool false,.bool false,.bool false,.bool false,.bool false,.bool false,.bool false,.bool false,.bool false,.bool false,.bool false,.bool false,.bool false,.bool false,.bool false,.bool false,.bool false,.bool false,.bool false,.bool false,.bool false,.bool false,.bool false,.bool false,.bool false,.bool false,.bool false,.bool false,.bool false,.bool false,.bool false,.bool false,.bool false,.bool false,.bool false,.bool false,.bool true,.bool true,.bool true,.bool true,.bool true,.bool true,.bool true,.bool true,.bool true,.bool true,.bool false,.bool false,.bool false,.bool false,.bool false,.bool false,.bool false,.bool false,.bool false,.bool false,.bool false,.bool false,.bool false,.bool false,.bool false,.bool false,.bool false,.bool false,.bool false,.bool false,.bool false,.bool false,.bool false,.bool false,.bool false,.bool false,.bool false,.bool false,.bool false,.bool false,.bool false,.bool false,.bool false,.bool false,.bool false,.bool false,.bool false,.bool false,.bool false,.bool true,.bool true,.bool true,.bool true,.bool true,.bool true,.bool true,.bool true,.bool true,.bool true,.bool true,.bool true,.bool true,.bool true,.bool true,.bool true,.bool true,.bool true,.bool true,.bool true,.bool true,.bool true,.bool true,.bool true,.bool true,.bool true,.bool false,.bool false,.bool false,.bool false,.bool false,.bool false,.bool false,.bool false,.bool false,.bool false,.bool false,.bool false,.bool false,.bool false,.bool false,.bool false,.bool false,.bool false,.bool false,.bool false,.bool false,.bool false,.bool false,.bool false,.bool false,.bool false,.bool false,.bool false,.bool false,.bool false,.bool false,.bool false,.bool false,.bool false,.bool false,.bool false,.bool false,.bool false,.bool false,.bool false,.bool false,.bool false,.bool false,.bool false,.bool false,.bool false,.bool false,.bool false,.bool false,.bool false,.bool false,.bool false,.bool false,.bool false,.bool false,.bool false,.bool false,.bool false,.bool false,.bool false,.bool false,.bool false,.bool false,.bool false,.bool false,.bool false,.bool false,.bool false,.bool false,.bool false,.bool false,.bool false,.bool false,.bool false,.bool false,.bool false,.bool false,.bool false,.bool false,.bool false,.bool false,.bool false,.bool false,.bool false,.bool false,.bool false,.bool false,.bool false,.bool false,.bool false,.bool false,.bool false,.bool false,.bool false,.bool false,.bool false,.bool false,.bool false,.bool false,.bool false,.bool false,.bool false,.bool false,.bool false,.bool false,.bool false,.bool false,.bool false,.bool false,.bool false,.bool false,.bool false,.bool false,.bool false,.bool false,.bool false,.bool false,.bool false,.bool false,.bool false,.bool false,.bool false,.bool false,.bool false,.bool false,.bool false,.bool false,.bool false,.bool false,.bool false,.bool false,.bool false,.bool false]
theorem nameset_eq:nameset=((List.range 256).map fun (i:Nat)=>Value.bool (okB (i:Int))).toArray:=by kernel_rfl
theorem nameset_at {c:Int} (h0:0≤c) (h1:c≤255):nameset[c.toNat]?=some (.bool (okB c)):=by
 rw [nameset_eq,List.getElem?_toArray,List.getElem?_map,List.getElem?_range (by omega)]
 simp only [Option.map_some]
 rw [Int.toNat_of_nonneg h0]
def allB (s:ByteArray):Bool:=(List.range s.size).all fun j=>okB (byt s j)
theorem allB_iff (s:ByteArray):allB s=true ↔ ∀ j,j < s.size→okB (byt s j)=true:=by simp [allB,List.all_eq_true]
def nameB (s:ByteArray):Bool:=decide (1≤s.size∧s.size≤16) && allB s
theorem okB_lt {c:Int} (h:okB c=true):48≤c∧c≤122:=by unfold okB at h; have:=of_decide_eq_true h; omega
theorem index_set {b:Nat} {c:Int} (h0:0≤c) (h1:c≤255):indexAddrA Tryz.prog 185 (.pointer (some ⟨b,0,none⟩)) (.int .u8 c)=some (.pointer (some ⟨b,c.toNat,none⟩)):=by
 have e:indexAddrA Tryz.prog 185 (.pointer (some ⟨b,0,none⟩)) (.int .u8 c)=if 0≤c∧c < 256 then some (.pointer (some ((⟨b,0,none⟩:Addr).add (c.toNat * 1)))) else none:=by kernel_rfl
 rw [e,if_pos (by omega),addr_add _ rfl]
 simp
set_option maxHeartbeats 4000000 in
theorem contains_ok (h:Heap) (b:Nat) (hb:h[b]?=some (.cells nameset 185 (0,0))) (c:Int) (hc:0≤c∧c≤255):WCall Tryz.prog 148 #[(vP b 0),(Value.int .u8 (c))] h (fun v h1=>v=.bool (okB c)∧h=h1):=by
 exact hCall_ev [evV 1 3 (Value.pointer (some ⟨b,(c).toNat,none⟩)) (show indexAddrA Tryz.prog 185 (vP b 0) (Value.int .u8 (c))=some (Value.pointer (some ⟨b,(c).toNat,none⟩)) from index_set (by omega) (by omega)),evV 1 4 (vB (okB c)) (show loadT Tryz.prog h 4 (Value.pointer (some ⟨b,(c).toNat,none⟩))=some (vB (okB c)) from load_cell agg4 hb (nameset_at (by omega) (by omega)))] [] (vB (okB c)) h ⟨rfl,rfl⟩
set_option maxHeartbeats 4000000 in
theorem trimR_ok (h:Heap) (b:Nat) (hb:h[b]?=some (.cells nameset 185 (0,0))) (s:ByteArray) (hsz:s.size≤1048576):WCall Tryz.prog 141 #[(vS s),(vP b 0)] h (fun v h1=>∃ k:Nat,k≤s.size∧v=.string (s.extract 0 k)∧(∀ j,k≤j→j < s.size→okB (byt s j)=true)∧(k=0 ∨ okB (byt s (k - 1))=false)∧h=h1):=by
 refine wcall_by fun K hK=>?_
 refine wcall_at { tmps:=#[(vS s),(vP b 0),vZ,vZ,vZ,vZ,vZ,vZ,vZ,vZ,vZ,vZ,vZ,vZ,vZ,vZ,vZ,vZ,vZ,vZ,vZ,vZ],defers:=[] } (by kernel_rfl) ?_
 refine wc_seq' (subc (bodyOf Tryz.prog 141) [0]) (subc (bodyOf Tryz.prog 141) [1]) (by kernel_rfl) ?_
 refine wc_ev [] .normal h [(4,(vS .empty))] ?_
 refine wc_seq' (subc (bodyOf Tryz.prog 141) [1,0]) (subc (bodyOf Tryz.prog 141) [1,1]) (by kernel_rfl) ?_
 refine wc_block' 0 (subc (bodyOf Tryz.prog 141) [1,0,0]) (by kernel_rfl) ?_
 refine wc_loop' (subc (bodyOf Tryz.prog 141) [1,0,0,0]) (by kernel_rfl) (fun n' a' h'=>∃ (k:Int) (t:ByteArray) (gb1:Nat→Value),a'={ tmps:=#[(vS t),(vP b 0),vZ,vZ,(vS .empty),(gb1 5),(gb1 6),(gb1 7),(gb1 8),(gb1 9),(gb1 10),(gb1 11),(gb1 12),(gb1 13),(gb1 14),(gb1 15),(gb1 16),(gb1 17),(gb1 18),(gb1 19),(gb1 20),vZ],defers:=[] }∧h=h'∧n'=k.toNat∧(0≤k∧k≤(s.size:Nat))∧t=s.extract 0 k.toNat∧(∀ j,k.toNat≤j→j < s.size→okB (byt s j)=true)∧((t.size:Nat):Int)=k) ?_ (((s.size:Nat):Int).toNat) ⟨((s.size:Nat):Int),s,(fun i=>([vU,vU,vU,vU,vU,vZ,vZ,vZ,vZ,vZ,vZ,vZ,vZ,vZ,vZ,vZ,vZ,vZ,vZ,vZ,vZ]:List Value).getD i undef),by as_aux_lemma=>kernel_rfl,rfl,rfl,by omega,by rw [Int.toNat_natCast,ext_all],fun j g1 g2=>by omega,rfl⟩
 rintro n' _ _ ⟨k,t,gb1,rfl,rfl,m7,i3,i4,i5,i6⟩
 by_cases c9:(0:Int) < ((t.size:Nat))
 ·have t10:=byt_range t (((((t.size:Nat)) - 1):Int).toNat)
  obtain ⟨_,_,sn12,rfl,rfl⟩:=contains_ok h _ hb (byt t (((((t.size:Nat)) - 1):Int).toNat)) (by omega)
  rcases Bool.eq_false_or_eq_true ((okB (byt t (((((t.size:Nat)) - 1):Int).toNat)))) with c14 | c14
  ·refine wc_ev [gtT 1 2 3 c9,evV 2 4 (vI (((t.size:Nat)) - 1)) (show binA Tryz.prog .sub 3 (vI ((t.size:Nat))) (vI 1)=some (vI (((t.size:Nat)) - 1)) from sub_i64 (by omega) (by omega)),evV 2 5 (Value.int .u8 (byt t (((((t.size:Nat)) - 1):Int).toNat))) (show indexA Tryz.prog 9 (vS t) (vI (((t.size:Nat)) - 1))=some (Value.int .u8 (byt t (((((t.size:Nat)) - 1):Int).toNat))) from index_byt (by omega) (by omega)),evFb 2 6 c14 sn12,evV 3 3 (vI (((t.size:Nat)) - 1)) (show binA Tryz.prog .sub 3 (vI ((t.size:Nat))) (vI 1)=some (vI (((t.size:Nat)) - 1)) from sub_i64 (by omega) (by omega)),evV 3 4 (vS (t.extract 0 (((((t.size:Nat)) - 1):Int).toNat))) (show sliceA Tryz.prog h 9 (vS t) none (some (vI (((t.size:Nat)) - 1))) none=some (vS (t.extract 0 (((((t.size:Nat)) - 1):Int).toNat))) from slice_hi (by omega) (by omega))] .normal h [(5,(vS t)),(6,(vI ((t.size:Nat)))),(7,(vB true)),(8,(vP b 0)),(9,(vS t)),(10,(vS t)),(11,(vI ((t.size:Nat)))),(12,(vI (((t.size:Nat)) - 1))),(13,(Value.int .u8 (byt t (((((t.size:Nat)) - 1):Int).toNat)))),(14,(vB true)),(15,(vB false)),(16,(vS t)),(17,(vS t)),(18,(vI ((t.size:Nat)))),(19,(vI (((t.size:Nat)) - 1))),(20,(vS (t.extract 0 (((((t.size:Nat)) - 1):Int).toNat)))),(0,(vS (t.extract 0 (((((t.size:Nat)) - 1):Int).toNat))))] ?_
   exact ⟨(k - 1).toNat,by omega,⟨k - 1,(t.extract 0 (((((t.size:Nat)) - 1):Int).toNat)),(fun i=>([vU,vU,vU,vU,vU,(vS t),(vI ((t.size:Nat))),(vB true),(vP b 0),(vS t),(vS t),(vI ((t.size:Nat))),(vI (((t.size:Nat)) - 1)),(Value.int .u8 (byt t (((((t.size:Nat)) - 1):Int).toNat))),(vB true),(vB false),(vS t),(vS t),(vI ((t.size:Nat))),(vI (((t.size:Nat)) - 1)),(vS (t.extract 0 (((((t.size:Nat)) - 1):Int).toNat)))]:List Value).getD i undef),by as_aux_lemma=>kernel_rfl,rfl,rfl,by omega,(ext_step i4 (by omega)).trans (by rw [show (((t.size:Nat):Int) - 1).toNat=(k - 1).toNat by omega]),fun j g1 g2=>by
     by_cases g3:k.toNat≤j
     ·exact i5 j g3 g2
     ·have g4:j=0 + (((t.size:Nat):Int) - 1).toNat:=by omega
      rw [g4,← byt_ext (b:=k.toNat) (by omega) (by omega),← i4]; exact c14,by rw [ext_size]; omega⟩⟩
  ·refine wc_ev [gtT 1 2 3 c9,evV 2 4 (vI (((t.size:Nat)) - 1)) (show binA Tryz.prog .sub 3 (vI ((t.size:Nat))) (vI 1)=some (vI (((t.size:Nat)) - 1)) from sub_i64 (by omega) (by omega)),evV 2 5 (Value.int .u8 (byt t (((((t.size:Nat)) - 1):Int).toNat))) (show indexA Tryz.prog 9 (vS t) (vI (((t.size:Nat)) - 1))=some (Value.int .u8 (byt t (((((t.size:Nat)) - 1):Int).toNat))) from index_byt (by omega) (by omega)),evFb 2 6 c14 sn12] (.exit 0) h [(5,(vS t)),(6,(vI ((t.size:Nat)))),(7,(vB true)),(8,(vP b 0)),(9,(vS t)),(10,(vS t)),(11,(vI ((t.size:Nat)))),(12,(vI (((t.size:Nat)) - 1))),(13,(Value.int .u8 (byt t (((((t.size:Nat)) - 1):Int).toNat)))),(14,(vB false)),(15,(vB true))] ?_
   refine wc_ev [] .ret h [(21,(vS t)),(4,(vS t))] ?_
   exact end_ev [] (vS t) (hK _ _ (⟨k.toNat,by omega,by rw [i4],i5,.inr (by rw [show k.toNat - 1=0 + (((t.size:Nat):Int) - 1).toNat by omega,← byt_ext (b:=k.toNat) (by omega) (by omega),← i4]; exact c14),rfl⟩))
 ·refine wc_ev [gtF 1 2 3 c9] (.exit 0) h [(5,(vS t)),(6,(vI ((t.size:Nat)))),(7,(vB false))] ?_
  refine wc_ev [] .ret h [(21,(vS t)),(4,(vS t))] ?_
  exact end_ev [] (vS t) (hK _ _ (⟨k.toNat,by omega,by rw [i4],i5,.inl (by omega),rfl⟩))
set_option maxHeartbeats 4000000 in
theorem trimL_ok (h:Heap) (b:Nat) (hb:h[b]?=some (.cells nameset 185 (0,0))) (s:ByteArray) (hsz:s.size≤1048576):WCall Tryz.prog 140 #[(vS s),(vP b 0)] h (fun v h1=>∃ k:Nat,k≤s.size∧v=.string (s.extract k s.size)∧(∀ j,j < k→okB (byt s j)=true)∧(k=s.size ∨ okB (byt s k)=false)∧h=h1):=by
 refine wcall_by fun K hK=>?_
 refine wcall_at { tmps:=#[(vS s),(vP b 0),vZ,vZ,vZ,vZ,vZ,vZ,vZ,vZ,vZ,vZ,vZ,vZ,vZ,vZ],defers:=[] } (by kernel_rfl) ?_
 refine wc_seq' (subc (bodyOf Tryz.prog 140) [0]) (subc (bodyOf Tryz.prog 140) [1]) (by kernel_rfl) ?_
 refine wc_ev [] .normal h [(4,(vS .empty))] ?_
 refine wc_seq' (subc (bodyOf Tryz.prog 140) [1,0]) (subc (bodyOf Tryz.prog 140) [1,1]) (by kernel_rfl) ?_
 refine wc_block' 0 (subc (bodyOf Tryz.prog 140) [1,0,0]) (by kernel_rfl) ?_
 refine wc_loop' (subc (bodyOf Tryz.prog 140) [1,0,0,0]) (by kernel_rfl) (fun n' a' h'=>∃ (k:Int) (t:ByteArray) (gb15:Nat→Value),a'={ tmps:=#[(vS t),(vP b 0),vZ,vZ,(vS .empty),(gb15 5),(gb15 6),(gb15 7),(gb15 8),(gb15 9),(gb15 10),(gb15 11),(gb15 12),(gb15 13),(gb15 14),vZ],defers:=[] }∧h=h'∧n'=s.size - k.toNat∧(0≤k∧k≤(s.size:Nat))∧t=s.extract k.toNat s.size∧(∀ j,j < k.toNat→okB (byt s j)=true)∧((t.size:Nat):Int)=(s.size:Nat) - k) ?_ (s.size - (0:Int).toNat) ⟨0,s,(fun i=>([vU,vU,vU,vU,vU,vZ,vZ,vZ,vZ,vZ,vZ,vZ,vZ,vZ,vZ]:List Value).getD i undef),by as_aux_lemma=>kernel_rfl,rfl,rfl,by omega,by rw [show ((0:Int)).toNat=0 from rfl,ext_all],fun j g1=>by omega,by omega⟩
 rintro n' _ _ ⟨k,t,gb15,rfl,rfl,m21,i17,i18,i19,i20⟩
 by_cases c23:(0:Int) < ((t.size:Nat))
 ·have t24:=byt_range t (0)
  obtain ⟨_,_,sn26,rfl,rfl⟩:=contains_ok h _ hb (byt t (0)) (by omega)
  rcases Bool.eq_false_or_eq_true ((okB (byt t (0)))) with c28 | c28
  ·refine wc_ev [gtT 1 2 3 c23,evV 2 2 (Value.int .u8 (byt t (0))) (show indexA Tryz.prog 9 (vS t) (vI 0)=some (Value.int .u8 (byt t (0))) from index_byt (by omega) (by omega)),evFb 2 3 c28 sn26,evV 3 1 (vS (t.extract 1 t.size)) (show sliceA Tryz.prog h 9 (vS t) (some (vI 1)) none none=some (vS (t.extract 1 t.size)) from slice_lo (by omega) (by omega))] .normal h [(5,(vS t)),(6,(vI ((t.size:Nat)))),(7,(vB true)),(8,(vP b 0)),(9,(vS t)),(10,(Value.int .u8 (byt t (0)))),(11,(vB true)),(12,(vB false)),(13,(vS t)),(14,(vS (t.extract 1 t.size))),(0,(vS (t.extract 1 t.size)))] ?_
   exact ⟨s.size - (k + 1).toNat,by omega,⟨k + 1,(t.extract 1 t.size),(fun i=>([vU,vU,vU,vU,vU,(vS t),(vI ((t.size:Nat))),(vB true),(vP b 0),(vS t),(Value.int .u8 (byt t (0))),(vB true),(vB false),(vS t),(vS (t.extract 1 t.size))]:List Value).getD i undef),by as_aux_lemma=>kernel_rfl,rfl,rfl,by omega,by rw [i18,ext_suf s (by omega)]; congr 1; omega,fun j g2=>by
     by_cases g3:j < k.toNat
     ·exact i19 j g3
     ·have g4:j=k.toNat + 0:=by omega
      rw [g4,← byt_ext (b:=s.size) (by omega) (by omega),← i18]; exact c28,by rw [ext_size]; omega⟩⟩
  ·refine wc_ev [gtT 1 2 3 c23,evV 2 2 (Value.int .u8 (byt t (0))) (show indexA Tryz.prog 9 (vS t) (vI 0)=some (Value.int .u8 (byt t (0))) from index_byt (by omega) (by omega)),evFb 2 3 c28 sn26] (.exit 0) h [(5,(vS t)),(6,(vI ((t.size:Nat)))),(7,(vB true)),(8,(vP b 0)),(9,(vS t)),(10,(Value.int .u8 (byt t (0)))),(11,(vB false)),(12,(vB true))] ?_
   refine wc_ev [] .ret h [(15,(vS t)),(4,(vS t))] ?_
   exact end_ev [] (vS t) (hK _ _ (⟨k.toNat,by omega,by rw [i18],i19,.inr (by rw [show k.toNat=k.toNat + 0 by omega,← byt_ext (b:=s.size) (by omega) (by omega),← i18]; exact c28),rfl⟩))
 ·refine wc_ev [gtF 1 2 3 c23] (.exit 0) h [(5,(vS t)),(6,(vI ((t.size:Nat)))),(7,(vB false))] ?_
  refine wc_ev [] .ret h [(15,(vS t)),(4,(vS t))] ?_
  exact end_ev [] (vS t) (hK _ _ (⟨k.toNat,by omega,by rw [i18],i19,.inl (by omega),rfl⟩))
theorem makeset_run:callWith Tryz.prog (evalCode Tryz.prog 400) 139 #[.string cutset] (#[deadRow,deadRow]:Heap)=some (.tuple #[.agg nameset,.bool true],((callWith Tryz.prog (evalCode Tryz.prog 400) 139 #[.string cutset] (#[deadRow,deadRow]:Heap)).map (·.2)).getD #[]):=by kernel_rfl
theorem dead_rows:∀ g ∈ globList,(#[deadRow,deadRow]:Heap)[g]?=some deadRow:=by
 intro g hg
 simp only [globList,List.mem_cons,List.not_mem_nil,or_false] at hg
 rcases hg with rfl | rfl <;> rfl
theorem makeset_ok (h:Heap):WCall Tryz.prog 139 #[.string cutset] h (fun v h1=>v=.tuple #[.agg nameset,.bool true]∧h=h1):=by
 refine ⟨_,_,closed_dead2 (evalCall_sound (by kernel_rfl) 400 _ _ _ _ _ makeset_run) (by intro x hx; simp only [List.mem_toArray,List.mem_cons,List.not_mem_nil,or_false] at hx; subst hx; rfl) (by kernel_rfl) rfl h dead_rows,rfl,rfl⟩
theorem trim_law {s:ByteArray} {k m:Nat} (hk:k≤s.size) (h1:∀ j,k≤j→j < s.size→okB (byt s j)=true) (h2:k=0 ∨ okB (byt s (k - 1))=false) (hm:m≤(s.extract 0 k).size) (h3:∀ j,j < m→okB (byt (s.extract 0 k) j)=true)
  (_h4:m=(s.extract 0 k).size ∨ okB (byt (s.extract 0 k) m)=false):(s.extract 0 k).extract m (s.extract 0 k).size=.empty ↔ allB s=true:=by
 rw [emp_iff,allB_iff,ext_size]
 have hs:(s.extract 0 k).size=k:=by rw [ext_size]; omega
 rw [hs] at hm
 rw [hs]
 constructor
 ·intro e j hj
  by_cases g:j < k
  ·have:=h3 j (by omega)
   rw [byt_ext (by omega) hk] at this
   simpa using this
  ·exact h1 j (by omega) hj
 ·intro e
  rcases h2 with h2 | h2
  ·omega
  ·rcases Nat.eq_zero_or_pos k with h0 | h0
   ·omega
   ·rw [e (k - 1) (by omega)] at h2; cases h2
theorem cut_ne:¬ cutset=.empty:=by rw [emp_iff]; decide
set_option maxRecDepth 10000 in
set_option maxHeartbeats 4000000 in
theorem trim_ok (h:Heap) (s:ByteArray) (hsz:s.size≤1048576):WCall Tryz.prog 119 #[(vS s),(vS cutset)] h (fun v h1=>∃ t,v=.string t∧(t=.empty ↔ allB s=true)∧Ext h h1):=by
 refine wcall_by fun K hK=>?_
 refine wcall_at { tmps:=#[(vS s),(vS cutset),vZ,vZ,vZ,vZ,vZ,vZ,vZ,vZ,vZ,vZ,vZ,vZ,vZ,vZ,vZ,vZ,vZ,vZ,vZ,vZ,vZ,vZ,vZ,vZ,vZ,vZ,vZ,vZ,vZ,vZ,vZ,vZ,vZ,vZ,vZ,vZ,vZ,vZ,vZ,vZ,vZ],defers:=[] } (by kernel_rfl) ?_
 by_cases c29:(s:ByteArray)=.empty
 ·refine wc_ev [seT 1 1 9 c29] .ret h [(4,(vS .empty)),(7,(vS s)),(8,(vB true)),(9,(vB true)),(10,vZ),(11,vZ),(12,(vB true)),(13,(vS s)),(4,(vS s))] ?_
  exact end_ev [] (vS s) (hK _ _ (⟨_,rfl,⟨fun _=>by rw [c29]; rfl,fun _=>c29⟩,(Ext.refl h)⟩))
 ·obtain ⟨_,_,sn31,rfl,rfl⟩:=makeset_ok h
  obtain ⟨b35,eb36⟩:∃ zq,zq=h.size:=⟨_,rfl⟩
  obtain ⟨h33,e34⟩:∃ zq,zq=h.push (.cells #[(vB false),(vB false),(vB false),(vB false),(vB false),(vB false),(vB false),(vB false),(vB false),(vB false),(vB false),(vB false),(vB false),(vB false),(vB false),(vB false),(vB false),(vB false),(vB false),(vB false),(vB false),(vB false),(vB false),(vB false),(vB false),(vB false),(vB false),(vB false),(vB false),(vB false),(vB false),(vB false),(vB false),(vB false),(vB false),(vB false),(vB false),(vB false),(vB false),(vB false),(vB false),(vB false),(vB false),(vB false),(vB false),(vB false),(vB false),(vB false),(vB false),(vB false),(vB false),(vB false),(vB false),(vB false),(vB false),(vB false),(vB false),(vB false),(vB false),(vB false),(vB false),(vB false),(vB false),(vB false),(vB false),(vB false),(vB false),(vB false),(vB false),(vB false),(vB false),(vB false),(vB false),(vB false),(vB false),(vB false),(vB false),(vB false),(vB false),(vB false),(vB false),(vB false),(vB false),(vB false),(vB false),(vB false),(vB false),(vB false),(vB false),(vB false),(vB false),(vB false),(vB false),(vB false),(vB false),(vB false),(vB false),(vB false),(vB false),(vB false),(vB false),(vB false),(vB false),(vB false),(vB false),(vB false),(vB false),(vB false),(vB false),(vB false),(vB false),(vB false),(vB false),(vB false),(vB false),(vB false),(vB false),(vB false),(vB false),(vB false),(vB false),(vB false),(vB false),(vB false),(vB false),(vB false),(vB false),(vB false),(vB false),(vB false),(vB false),(vB false),(vB false),(vB false),(vB false),(vB false),(vB false),(vB false),(vB false),(vB false),(vB false),(vB false),(vB false),(vB false),(vB false),(vB false),(vB false),(vB false),(vB false),(vB false),(vB false),(vB false),(vB false),(vB false),(vB false),(vB false),(vB false),(vB false),(vB false),(vB false),(vB false),(vB false),(vB false),(vB false),(vB false),(vB false),(vB false),(vB false),(vB false),(vB false),(vB false),(vB false),(vB false),(vB false),(vB false),(vB false),(vB false),(vB false),(vB false),(vB false),(vB false),(vB false),(vB false),(vB false),(vB false),(vB false),(vB false),(vB false),(vB false),(vB false),(vB false),(vB false),(vB false),(vB false),(vB false),(vB false),(vB false),(vB false),(vB false),(vB false),(vB false),(vB false),(vB false),(vB false),(vB false),(vB false),(vB false),(vB false),(vB false),(vB false),(vB false),(vB false),(vB false),(vB false),(vB false),(vB false),(vB false),(vB false),(vB false),(vB false),(vB false),(vB false),(vB false),(vB false),(vB false),(vB false),(vB false),(vB false),(vB false),(vB false),(vB false),(vB false),(vB false),(vB false),(vB false),(vB false),(vB false),(vB false),(vB false),(vB false),(vB false),(vB false),(vB false),(vB false),(vB false),(vB false),(vB false),(vB false),(vB false),(vB false),(vB false),(vB false),(vB false),(vB false),(vB false),(vB false)] 185 (0,0)):=⟨_,rfl⟩
  have f37:=push_new e34
  rw [← eb36] at f37
  have x38:Ext h h33:=by rw [e34]; exact Ext.push _ _
  have o39:h.size≤b35:=by have:=(Ext.refl h).size; omega
  have x40:=(Ext.refl h).trans x38
  obtain ⟨h41,e42⟩:∃ zq,zq=h33.setIfInBounds b35 (.cells #[(vB false),(vB false),(vB false),(vB false),(vB false),(vB false),(vB false),(vB false),(vB false),(vB false),(vB false),(vB false),(vB false),(vB false),(vB false),(vB false),(vB false),(vB false),(vB false),(vB false),(vB false),(vB false),(vB false),(vB false),(vB false),(vB false),(vB false),(vB false),(vB false),(vB false),(vB false),(vB false),(vB false),(vB false),(vB false),(vB false),(vB false),(vB false),(vB false),(vB false),(vB false),(vB false),(vB false),(vB false),(vB false),(vB false),(vB false),(vB false),(vB true),(vB true),(vB true),(vB true),(vB true),(vB true),(vB true),(vB true),(vB true),(vB true),(vB false),(vB false),(vB false),(vB false),(vB false),(vB false),(vB false),(vB false),(vB false),(vB false),(vB false),(vB false),(vB false),(vB false),(vB false),(vB false),(vB false),(vB false),(vB false),(vB false),(vB false),(vB false),(vB false),(vB false),(vB false),(vB false),(vB false),(vB false),(vB false),(vB false),(vB false),(vB false),(vB false),(vB false),(vB false),(vB false),(vB false),(vB false),(vB false),(vB true),(vB true),(vB true),(vB true),(vB true),(vB true),(vB true),(vB true),(vB true),(vB true),(vB true),(vB true),(vB true),(vB true),(vB true),(vB true),(vB true),(vB true),(vB true),(vB true),(vB true),(vB true),(vB true),(vB true),(vB true),(vB true),(vB false),(vB false),(vB false),(vB false),(vB false),(vB false),(vB false),(vB false),(vB false),(vB false),(vB false),(vB false),(vB false),(vB false),(vB false),(vB false),(vB false),(vB false),(vB false),(vB false),(vB false),(vB false),(vB false),(vB false),(vB false),(vB false),(vB false),(vB false),(vB false),(vB false),(vB false),(vB false),(vB false),(vB false),(vB false),(vB false),(vB false),(vB false),(vB false),(vB false),(vB false),(vB false),(vB false),(vB false),(vB false),(vB false),(vB false),(vB false),(vB false),(vB false),(vB false),(vB false),(vB false),(vB false),(vB false),(vB false),(vB false),(vB false),(vB false),(vB false),(vB false),(vB false),(vB false),(vB false),(vB false),(vB false),(vB false),(vB false),(vB false),(vB false),(vB false),(vB false),(vB false),(vB false),(vB false),(vB false),(vB false),(vB false),(vB false),(vB false),(vB false),(vB false),(vB false),(vB false),(vB false),(vB false),(vB false),(vB false),(vB false),(vB false),(vB false),(vB false),(vB false),(vB false),(vB false),(vB false),(vB false),(vB false),(vB false),(vB false),(vB false),(vB false),(vB false),(vB false),(vB false),(vB false),(vB false),(vB false),(vB false),(vB false),(vB false),(vB false),(vB false),(vB false),(vB false),(vB false),(vB false),(vB false),(vB false),(vB false),(vB false),(vB false),(vB false),(vB false),(vB false),(vB false),(vB false),(vB false),(vB false),(vB false),(vB false),(vB false),(vB false)] 185 (0,0)):=⟨_,rfl⟩
  have f43:=set_same e42 f37
  have x45:=Ext.setNew x40 e42 o39
  obtain ⟨_,_,sn51,k46,u47,rfl,q48,w49,rfl⟩:=trimR_ok h41 _ f43 s (hsz)
  obtain ⟨_,_,sn58,k53,u54,rfl,q55,w56,rfl⟩:=trimL_ok h41 _ f43 (s.extract 0 k46) (by rw [ext_size]; omega)
  refine wc_ev [seF 1 1 9 c29,seF 1 4 9 cut_ne,evF 5 1 sn31,evA 5 5 eb36 e34,evUw 5 6 size185 f37 e42,evF 7 1 sn51,evF 7 2 sn58] .ret h41 [(4,(vS .empty)),(7,(vS s)),(8,(vB false)),(9,(vB false)),(10,(vS cutset)),(11,(vB false)),(12,(vB false)),(14,(vS cutset)),(15,(vI 36)),(16,(vB false)),(17,(vB false)),(18,vZ),(19,vZ),(20,vZ),(21,(vB false)),(30,(vS cutset)),(31,(vT #[(vA #[(vB false),(vB false),(vB false),(vB false),(vB false),(vB false),(vB false),(vB false),(vB false),(vB false),(vB false),(vB false),(vB false),(vB false),(vB false),(vB false),(vB false),(vB false),(vB false),(vB false),(vB false),(vB false),(vB false),(vB false),(vB false),(vB false),(vB false),(vB false),(vB false),(vB false),(vB false),(vB false),(vB false),(vB false),(vB false),(vB false),(vB false),(vB false),(vB false),(vB false),(vB false),(vB false),(vB false),(vB false),(vB false),(vB false),(vB false),(vB false),(vB true),(vB true),(vB true),(vB true),(vB true),(vB true),(vB true),(vB true),(vB true),(vB true),(vB false),(vB false),(vB false),(vB false),(vB false),(vB false),(vB false),(vB false),(vB false),(vB false),(vB false),(vB false),(vB false),(vB false),(vB false),(vB false),(vB false),(vB false),(vB false),(vB false),(vB false),(vB false),(vB false),(vB false),(vB false),(vB false),(vB false),(vB false),(vB false),(vB false),(vB false),(vB false),(vB false),(vB false),(vB false),(vB false),(vB false),(vB false),(vB false),(vB true),(vB true),(vB true),(vB true),(vB true),(vB true),(vB true),(vB true),(vB true),(vB true),(vB true),(vB true),(vB true),(vB true),(vB true),(vB true),(vB true),(vB true),(vB true),(vB true),(vB true),(vB true),(vB true),(vB true),(vB true),(vB true),(vB false),(vB false),(vB false),(vB false),(vB false),(vB false),(vB false),(vB false),(vB false),(vB false),(vB false),(vB false),(vB false),(vB false),(vB false),(vB false),(vB false),(vB false),(vB false),(vB false),(vB false),(vB false),(vB false),(vB false),(vB false),(vB false),(vB false),(vB false),(vB false),(vB false),(vB false),(vB false),(vB false),(vB false),(vB false),(vB false),(vB false),(vB false),(vB false),(vB false),(vB false),(vB false),(vB false),(vB false),(vB false),(vB false),(vB false),(vB false),(vB false),(vB false),(vB false),(vB false),(vB false),(vB false),(vB false),(vB false),(vB false),(vB false),(vB false),(vB false),(vB false),(vB false),(vB false),(vB false),(vB false),(vB false),(vB false),(vB false),(vB false),(vB false),(vB false),(vB false),(vB false),(vB false),(vB false),(vB false),(vB false),(vB false),(vB false),(vB false),(vB false),(vB false),(vB false),(vB false),(vB false),(vB false),(vB false),(vB false),(vB false),(vB false),(vB false),(vB false),(vB false),(vB false),(vB false),(vB false),(vB false),(vB false),(vB false),(vB false),(vB false),(vB false),(vB false),(vB false),(vB false),(vB false),(vB false),(vB false),(vB false),(vB false),(vB false),(vB false),(vB false),(vB false),(vB false),(vB false),(vB false),(vB false),(vB false),(vB false),(vB false),(vB false),(vB false),(vB false),(vB false),(vB false),(vB false),(vB false),(vB false),(vB false),(vB false),(vB false),(vB false)]),(vB true)])),(29,(vT #[(vA #[(vB false),(vB false),(vB false),(vB false),(vB false),(vB false),(vB false),(vB false),(vB false),(vB false),(vB false),(vB false),(vB false),(vB false),(vB false),(vB false),(vB false),(vB false),(vB false),(vB false),(vB false),(vB false),(vB false),(vB false),(vB false),(vB false),(vB false),(vB false),(vB false),(vB false),(vB false),(vB false),(vB false),(vB false),(vB false),(vB false),(vB false),(vB false),(vB false),(vB false),(vB false),(vB false),(vB false),(vB false),(vB false),(vB false),(vB false),(vB false),(vB true),(vB true),(vB true),(vB true),(vB true),(vB true),(vB true),(vB true),(vB true),(vB true),(vB false),(vB false),(vB false),(vB false),(vB false),(vB false),(vB false),(vB false),(vB false),(vB false),(vB false),(vB false),(vB false),(vB false),(vB false),(vB false),(vB false),(vB false),(vB false),(vB false),(vB false),(vB false),(vB false),(vB false),(vB false),(vB false),(vB false),(vB false),(vB false),(vB false),(vB false),(vB false),(vB false),(vB false),(vB false),(vB false),(vB false),(vB false),(vB false),(vB true),(vB true),(vB true),(vB true),(vB true),(vB true),(vB true),(vB true),(vB true),(vB true),(vB true),(vB true),(vB true),(vB true),(vB true),(vB true),(vB true),(vB true),(vB true),(vB true),(vB true),(vB true),(vB true),(vB true),(vB true),(vB true),(vB false),(vB false),(vB false),(vB false),(vB false),(vB false),(vB false),(vB false),(vB false),(vB false),(vB false),(vB false),(vB false),(vB false),(vB false),(vB false),(vB false),(vB false),(vB false),(vB false),(vB false),(vB false),(vB false),(vB false),(vB false),(vB false),(vB false),(vB false),(vB false),(vB false),(vB false),(vB false),(vB false),(vB false),(vB false),(vB false),(vB false),(vB false),(vB false),(vB false),(vB false),(vB false),(vB false),(vB false),(vB false),(vB false),(vB false),(vB false),(vB false),(vB false),(vB false),(vB false),(vB false),(vB false),(vB false),(vB false),(vB false),(vB false),(vB false),(vB false),(vB false),(vB false),(vB false),(vB false),(vB false),(vB false),(vB false),(vB false),(vB false),(vB false),(vB false),(vB false),(vB false),(vB false),(vB false),(vB false),(vB false),(vB false),(vB false),(vB false),(vB false),(vB false),(vB false),(vB false),(vB false),(vB false),(vB false),(vB false),(vB false),(vB false),(vB false),(vB false),(vB false),(vB false),(vB false),(vB false),(vB false),(vB false),(vB false),(vB false),(vB false),(vB false),(vB false),(vB false),(vB false),(vB false),(vB false),(vB false),(vB false),(vB false),(vB false),(vB false),(vB false),(vB false),(vB false),(vB false),(vB false),(vB false),(vB false),(vB false),(vB false),(vB false),(vB false),(vB false),(vB false),(vB false),(vB false),(vB false),(vB false),(vB false),(vB false),(vB false),(vB false)]),(vB true)])),(32,(vA #[(vB false),(vB false),(vB false),(vB false),(vB false),(vB false),(vB false),(vB false),(vB false),(vB false),(vB false),(vB false),(vB false),(vB false),(vB false),(vB false),(vB false),(vB false),(vB false),(vB false),(vB false),(vB false),(vB false),(vB false),(vB false),(vB false),(vB false),(vB false),(vB false),(vB false),(vB false),(vB false),(vB false),(vB false),(vB false),(vB false),(vB false),(vB false),(vB false),(vB false),(vB false),(vB false),(vB false),(vB false),(vB false),(vB false),(vB false),(vB false),(vB true),(vB true),(vB true),(vB true),(vB true),(vB true),(vB true),(vB true),(vB true),(vB true),(vB false),(vB false),(vB false),(vB false),(vB false),(vB false),(vB false),(vB false),(vB false),(vB false),(vB false),(vB false),(vB false),(vB false),(vB false),(vB false),(vB false),(vB false),(vB false),(vB false),(vB false),(vB false),(vB false),(vB false),(vB false),(vB false),(vB false),(vB false),(vB false),(vB false),(vB false),(vB false),(vB false),(vB false),(vB false),(vB false),(vB false),(vB false),(vB false),(vB true),(vB true),(vB true),(vB true),(vB true),(vB true),(vB true),(vB true),(vB true),(vB true),(vB true),(vB true),(vB true),(vB true),(vB true),(vB true),(vB true),(vB true),(vB true),(vB true),(vB true),(vB true),(vB true),(vB true),(vB true),(vB true),(vB false),(vB false),(vB false),(vB false),(vB false),(vB false),(vB false),(vB false),(vB false),(vB false),(vB false),(vB false),(vB false),(vB false),(vB false),(vB false),(vB false),(vB false),(vB false),(vB false),(vB false),(vB false),(vB false),(vB false),(vB false),(vB false),(vB false),(vB false),(vB false),(vB false),(vB false),(vB false),(vB false),(vB false),(vB false),(vB false),(vB false),(vB false),(vB false),(vB false),(vB false),(vB false),(vB false),(vB false),(vB false),(vB false),(vB false),(vB false),(vB false),(vB false),(vB false),(vB false),(vB false),(vB false),(vB false),(vB false),(vB false),(vB false),(vB false),(vB false),(vB false),(vB false),(vB false),(vB false),(vB false),(vB false),(vB false),(vB false),(vB false),(vB false),(vB false),(vB false),(vB false),(vB false),(vB false),(vB false),(vB false),(vB false),(vB false),(vB false),(vB false),(vB false),(vB false),(vB false),(vB false),(vB false),(vB false),(vB false),(vB false),(vB false),(vB false),(vB false),(vB false),(vB false),(vB false),(vB false),(vB false),(vB false),(vB false),(vB false),(vB false),(vB false),(vB false),(vB false),(vB false),(vB false),(vB false),(vB false),(vB false),(vB false),(vB false),(vB false),(vB false),(vB false),(vB false),(vB false),(vB false),(vB false),(vB false),(vB false),(vB false),(vB false),(vB false),(vB false),(vB false),(vB false),(vB false),(vB false),(vB false),(vB false),(vB false),(vB false),(vB false)])),(33,(vB true)),(5,(vP b35 0)),(6,(vB true)),(34,(vB true)),(35,(vS s)),(36,(vS (s.extract 0 k46))),(37,(vS ((s.extract 0 k46).extract k53 (s.extract 0 k46).size))),(4,(vS ((s.extract 0 k46).extract k53 (s.extract 0 k46).size)))] ?_
  exact end_ev [] (vS ((s.extract 0 k46).extract k53 (s.extract 0 k46).size)) (hK _ _ (⟨_,rfl,trim_law u47 q48 w49 u54 q55 w56,x45⟩))
/-- A loop over the runes of a text, at a place. -/
def IterAt (h:Heap) (b:Nat) (s:ByteArray) (k:Nat):Prop:=h[b]?=some (.stringIter s k)
theorem IterAt.keep {h h1:Heap} {b:Nat} {s:ByteArray} {p:Nat} (k:IterAt h b s p) (w:∀ q r,q=b→h[q]?=some r→h1[q]?=some r):IterAt h1 b s p:=w b _ rfl k
theorem IterAt.blk_lt {h:Heap} {b:Nat} {s:ByteArray} {p:Nat} (k:IterAt h b s p) {q:Nat} (hq:q=b):q < h.size:=by subst hq; exact (Array.getElem?_eq_some_iff.1 k).1
theorem IterAt.next {h:Heap} {b:Nat} {s:ByteArray} {p:Nat} (k:IterAt h b s p) (hlt:p < s.size) (ha:byt s p < 128) :
  nextA h (.pointer (some ⟨b,0,none⟩)) true=some (.tuple #[.bool true,.int .i64 (p:Int),.int .i32 (byt s p)],h.setIfInBounds b (.stringIter s (p + 1))):=by
 have hk:h[b]?=some (.stringIter s p):=k
 have hl:p < s.data.size:=hlt
 have hb:byt s p=((s.data[p]).toNat:Int):=by unfold byt; rw [Array.getElem?_eq_getElem hl]; rfl
 have hg:(s.get! (p + 0)).toNat=(s.data[p]).toNat:=by
  have:s.get! p=s.data[p]:=by
   show s.data[p]! = _
   rw [getElem!_pos s.data p hl]
  rw [Nat.add_zero,this]
 have hd:Utf8.decode s p=((s.data[p]).toNat,1):=by
  unfold Utf8.decode
  simp only [hg]
  rw [if_pos (by omega)]
 simp only [nextA,hk,hd,if_pos hlt,goInt,hb]
theorem IterAt.over {h:Heap} {b:Nat} {s:ByteArray} {p:Nat} (k:IterAt h b s p) (hlt:¬ p < s.size):nextA h (.pointer (some ⟨b,0,none⟩)) true=some (.tuple #[.bool false],h):=by
 have hk:h[b]?=some (.stringIter s p):=k
 simp only [nextA,hk,if_neg hlt]
theorem Chg.set' {h h1:Heap} {b:Nat} {o:Obj} (e:h1=h.setIfInBounds b o):Chg (fun k=>k=b) h h1:=Chg.set e
set_option maxHeartbeats 4000000 in
theorem rune_no (h:Heap) (c:Int) (hc:c≤122):WCall Tryz.prog 121 #[(Value.int .i32 (c))] h (fun v h1=>v=.bool false∧h=h1):=by
 by_cases c60:(122:Int) < (c)
 ·exfalso
  omega
 ·exact hCall_ev [evV 1 1 (vB false) (show binA Tryz.prog .gtr 21 (Value.int .i32 (c)) (Value.int .i32 122)=some (vB false) from cmp_gtr (decide_eq_false c60))] [] (vB false) h ⟨rfl,rfl⟩
set_option maxHeartbeats 4000000 in
theorem ixrune_no (h:Heap) (s:ByteArray) (hs:∀ j,j < s.size→byt s j≤122):WCall Tryz.prog 152 #[(vS s),(Value.func (.func 121) #[] #[]),(vB true)] h (fun v h1=>v=.int .i64 (-1)∧Ext h h1):=by
 refine wcall_by fun K hK=>?_
 refine wcall_at { tmps:=#[(vS s),(Value.func (.func 121) #[] #[]),(vB true),vZ,vZ,vZ,vZ,vZ,vZ,vZ,vZ,vZ,vZ,vZ,vZ,vZ,vZ,vZ,vZ,vZ,vZ],defers:=[] } (by kernel_rfl) ?_
 refine wc_seq' (subc (bodyOf Tryz.prog 152) [0]) (subc (bodyOf Tryz.prog 152) [1]) (by kernel_rfl) ?_
 refine wc_ev [] .normal h [(6,(vI 0))] ?_
 refine wc_seq' (subc (bodyOf Tryz.prog 152) [1,0]) (subc (bodyOf Tryz.prog 152) [1,1]) (by kernel_rfl) ?_
 refine wc_seq' (subc (bodyOf Tryz.prog 152) [1,0,0]) (subc (bodyOf Tryz.prog 152) [1,0,1]) (by kernel_rfl) ?_
 obtain ⟨b63,eb64⟩:∃ zq,zq=h.size:=⟨_,rfl⟩
 obtain ⟨h61,e62⟩:∃ zq,zq=h.push (.stringIter s 0):=⟨_,rfl⟩
 have p65:IterAt h61 b63 s 0:=by rw [eb64]; exact push_new e62
 have x66:Ext h h61:=by rw [e62]; exact Ext.push _ _
 have o67:h.size≤b63:=by have:=(Ext.refl h).size; omega
 have x68:=(Ext.refl h).trans x66
 refine wc_ev [evA 1 1 eb64 e62] .normal h61 [(9,(vS s)),(10,(vP b63 0))] ?_
 refine wc_block' 0 (subc (bodyOf Tryz.prog 152) [1,0,1,0]) (by kernel_rfl) ?_
 refine wc_loop' (subc (bodyOf Tryz.prog 152) [1,0,1,0,0]) (by kernel_rfl) (fun n' a' h'=>∃ (u:Nat) (gb69:Nat→Value),a'={ tmps:=#[(vS s),(Value.func (.func 121) #[] #[]),(vB true),vZ,vZ,vZ,(gb69 6),(gb69 7),(gb69 8),(vS s),(vP b63 0),(gb69 11),(gb69 12),(gb69 13),(gb69 14),(gb69 15),(gb69 16),(gb69 17),(gb69 18),(gb69 19),(gb69 20)],defers:=[] }∧Ext h h'∧n'=s.size - u∧u≤s.size∧IterAt h' b63 s u) ?_ (s.size - 0) ⟨0,(fun i=>([vU,vU,vU,vU,vU,vU,(vI 0),vZ,vZ,vU,vU,vZ,vZ,vZ,vZ,vZ,vZ,vZ,vZ,vZ,vZ]:List Value).getD i undef),by as_aux_lemma=>kernel_rfl,x68,rfl,Nat.zero_le _,p65⟩
 rintro n' _ h70 ⟨u,gb69,rfl,x74,m73,i71,p72⟩
 by_cases c75:u < s.size
 ·have t80:=hs u c75
  obtain ⟨h76,e77⟩:∃ zq,zq=h70.setIfInBounds b63 (.stringIter s (u + 1)):=⟨_,rfl⟩
  have p78:IterAt h76 b63 s (u + 1):=set_same e77 p72
  have c79:=Chg.set' e77
  have z81:h.size≤h70.size:=x74.size
  have x82:Ext h _:=(Chg.then (O:=fun _=>False) (Chg.ext x74) c79 (fun b hb=>.inr ((fun zq hz=>by subst hz; exact o67) b hb))).toExt'
  obtain ⟨_,_,sn84,rfl,rfl⟩:=rune_no h76 (byt s u) (by omega)
  refine wc_ev [evH 2 0 (vT #[(vB true),(vI ((u:Nat))),(Value.int .i32 (byt s u))]) h76 (show (nextA h70 (vP b63 0) true=some ((vT #[(vB true),(vI ((u:Nat))),(Value.int .i32 (byt s u))]),h76)) from (by rw [e77]; exact (p72).next c75 (by omega))),evF 4 2 sn84] .normal h76 [(11,(vT #[(vB true),(vI ((u:Nat))),(Value.int .i32 (byt s u))])),(12,(vB true)),(13,(vI ((u:Nat)))),(14,(Value.int .i32 (byt s u))),(7,(vI ((u:Nat)))),(8,(Value.int .i32 (byt s u))),(15,(Value.func (.func 121) #[] #[])),(16,(Value.int .i32 (byt s u))),(17,(vB false)),(18,(vB true)),(19,(vB false))] ?_
  exact ⟨s.size - (u + 1),by omega,⟨u + 1,(fun i=>([vU,vU,vU,vU,vU,vU,(gb69 6),(vI ((u:Nat))),(Value.int .i32 (byt s u)),vU,vU,(vT #[(vB true),(vI ((u:Nat))),(Value.int .i32 (byt s u))]),(vB true),(vI ((u:Nat))),(Value.int .i32 (byt s u)),(Value.func (.func 121) #[] #[]),(Value.int .i32 (byt s u)),(vB false),(vB true),(vB false),(gb69 20)]:List Value).getD i undef),by as_aux_lemma=>kernel_rfl,x82,rfl,by omega,p78⟩⟩
 ·refine wc_ev [evH 2 0 (vT #[(vB false)]) h70 (show (nextA h70 (vP b63 0) true=some ((vT #[(vB false)]),h70)) from (p72).over c75)] (.exit 0) h70 [(11,(vT #[(vB false)])),(12,(vB false))] ?_
  refine wc_ev [] .ret h70 [(6,(vI (-1)))] ?_
  exact end_ev [] (vI (-1)) (hK _ _ (⟨rfl,x74⟩))
set_option maxHeartbeats 4000000 in
theorem ixfrune_no (h:Heap) (s:ByteArray) (hs:∀ j,j < s.size→byt s j≤122):WCall Tryz.prog 144 #[(vS s),(Value.func (.func 121) #[] #[])] h (fun v h1=>v=.int .i64 (-1)∧Ext h h1):=by
 obtain ⟨_,hh86,sn87,rfl,x88⟩:=ixrune_no h s hs
 have x89:=(Ext.refl h).trans x88
 exact hCall_ev [evF 1 2 sn87] [] (vI (-1)) hh86 ⟨rfl,x89⟩
set_option maxHeartbeats 4000000 in
theorem hasrune_no (h:Heap) (s:ByteArray) (hs:∀ j,j < s.size→byt s j≤122):WCall Tryz.prog 120 #[(vS s),(Value.func (.func 121) #[] #[])] h (fun v h1=>v=.bool false∧Ext h h1):=by
 obtain ⟨_,hh90,sn91,rfl,x92⟩:=ixfrune_no h s hs
 have x93:=(Ext.refl h).trans x92
 exact hCall_ev [evF 1 2 sn91] [] (vB false) hh90 ⟨rfl,x93⟩
set_option maxHeartbeats 4000000 in
theorem name_ok (h:Heap) (s:ByteArray):WCall Tryz.prog 85 #[(vS s)] h (fun v h1=>v=.bool (nameB s)∧Ext h h1):=by
 by_cases c94:(1:Int)≤((s.size:Nat))
 ·by_cases c95:(((s.size:Nat)):Int)≤16
  ·obtain ⟨_,hh98,sn99,t96,rfl,q97,x1⟩:=trim_ok h s (by omega)
   have x2:=(Ext.refl h).trans x1
   by_cases c3:(t96:ByteArray)=.empty
   ·obtain ⟨_,hh4,sn5,rfl,x6⟩:=hasrune_no hh98 s (fun j hj=>(okB_lt ((allB_iff _).1 (q97.1 c3) j hj)).2)
    have x7:=x2.trans x6
    exact hCall_ev [geT 1 2 3 c94,leT 1 6 3 c95,evF 1 10 sn99,seT 1 11 9 c3,evF 1 15 sn5] [] (vB true) hh4 ⟨by unfold nameB; rw [decide_eq_true (by omega),q97.1 c3]; rfl,x7⟩
   ·exact hCall_ev [geT 1 2 3 c94,leT 1 6 3 c95,evF 1 10 sn99,seF 1 11 9 c3] [] (vB false) hh98 ⟨by unfold nameB; rw [show allB s=false from Bool.eq_false_iff.2 (fun w=>c3 (q97.2 w)),Bool.and_false],x2⟩
  ·exact hCall_ev [geT 1 2 3 c94,leF 1 6 3 c95] [] (vB false) h ⟨by unfold nameB; rw [decide_eq_false (by omega)]; rfl,(Ext.refl h)⟩
 ·exact hCall_ev [geF 1 2 3 c94] [] (vB false) h ⟨by unfold nameB; rw [decide_eq_false (by omega)]; rfl,(Ext.refl h)⟩
set_option maxHeartbeats 4000000 in
theorem rname_ok (h:Heap) (s:ByteArray) (hsz:s.size≤9223372036854775807):WCall Tryz.prog 90 #[(vS s)] h (fun v h1=>v=.bool (nameB s)∧h=h1):=by
 refine wcall_by fun K hK=>?_
 refine wcall_at { tmps:=#[(vS s),vZ,vZ,vZ,vZ,vZ,vZ,vZ,vZ,vZ,vZ,vZ,vZ,vZ,vZ,vZ,vZ,vZ,vZ,vZ,vZ,vZ,vZ,vZ,vZ,vZ,vZ,vZ,vZ,vZ,vZ,vZ,vZ,vZ,vZ,vZ,vZ,vZ,vZ,vZ],defers:=[] } (by kernel_rfl) ?_
 refine wc_seq' (subc (bodyOf Tryz.prog 90) [0]) (subc (bodyOf Tryz.prog 90) [1]) (by kernel_rfl) ?_
 refine wc_ev [] .normal h [(2,(vB false))] ?_
 refine wc_seq' (subc (bodyOf Tryz.prog 90) [1,0]) (subc (bodyOf Tryz.prog 90) [1,1]) (by kernel_rfl) ?_
 refine wc_seq' (subc (bodyOf Tryz.prog 90) [1,0,0]) (subc (bodyOf Tryz.prog 90) [1,0,1]) (by kernel_rfl) ?_
 refine wc_ev [] .normal h [(3,(vI 0))] ?_
 refine wc_block' 0 (subc (bodyOf Tryz.prog 90) [1,0,1,0]) (by kernel_rfl) ?_
 refine wc_loop' (subc (bodyOf Tryz.prog 90) [1,0,1,0,0]) (by kernel_rfl) (fun n' a' h'=>∃ (k:Int) (g0:Nat→Value),a'={ tmps:=#[(vS s),vZ,(g0 2),(vI k),(g0 4),(g0 5),(g0 6),(g0 7),(g0 8),(g0 9),(g0 10),(g0 11),(g0 12),(g0 13),(g0 14),(g0 15),(g0 16),(g0 17),(g0 18),(g0 19),(g0 20),(g0 21),(g0 22),(g0 23),(g0 24),(g0 25),(g0 26),(g0 27),(g0 28),(g0 29),(g0 30),(g0 31),vZ,vZ,vZ,vZ,vZ,vZ,vZ,vZ],defers:=[] }∧h=h'∧n'=s.size - k.toNat∧(0≤k∧k≤(s.size:Nat))∧(∀ j,j < k.toNat→okB (byt s j)=true)) ?_ (s.size - (0:Int).toNat) ⟨0,(fun i=>([vU,vU,(vB false),vU,vZ,vZ,vZ,vZ,vZ,vZ,vZ,vZ,vZ,vZ,vZ,vZ,vZ,vZ,vZ,vZ,vZ,vZ,vZ,vZ,vZ,vZ,vZ,vZ,vZ,vZ,vZ,vZ]:List Value).getD i undef),by as_aux_lemma=>kernel_rfl,rfl,rfl,by omega,fun j g=>absurd g (by omega)⟩
 rintro n' _ _ ⟨k,g0,rfl,rfl,m1,i2,i3⟩
 by_cases c4:((k):Int) < ((s.size:Nat))
 ·have t5:=byt_range s (((k):Int).toNat)
  by_cases c6:((byt s (((k):Int).toNat)):Int) < 97
  ·have t7:=byt_range s (((k):Int).toNat)
   by_cases c8:((byt s (((k):Int).toNat)):Int) < 48
   ·refine wc_ev [ltT 2 3 3 c4,evV 4 2 (Value.int .u8 (byt s (((k):Int).toNat))) (show indexA Tryz.prog 9 (vS s) (vI k)=some (Value.int .u8 (byt s (((k):Int).toNat))) from index_byt (by omega) (by omega)),evV 4 3 (vB true) (show binA Tryz.prog .lss 5 (Value.int .u8 (byt s (((k):Int).toNat))) (Value.int .u8 97)=some (vB true) from cmp_lss (decide_eq_true c6)),evV 4 13 (Value.int .u8 (byt s (((k):Int).toNat))) (show indexA Tryz.prog 9 (vS s) (vI k)=some (Value.int .u8 (byt s (((k):Int).toNat))) from index_byt (by omega) (by omega)),evV 4 14 (vB true) (show binA Tryz.prog .lss 5 (Value.int .u8 (byt s (((k):Int).toNat))) (Value.int .u8 48)=some (vB true) from cmp_lss (decide_eq_true c8))] .ret h [(4,(vI k)),(5,(vS s)),(6,(vI ((s.size:Nat)))),(7,(vB true)),(10,(vS s)),(11,(vI k)),(12,(Value.int .u8 (byt s (((k):Int).toNat)))),(13,(vB true)),(14,(vB true)),(15,vZ),(16,vZ),(17,vZ),(18,vZ),(19,(vB true)),(20,(vB true)),(21,(vS s)),(22,(vI k)),(23,(Value.int .u8 (byt s (((k):Int).toNat)))),(24,(vB true)),(25,(vB true)),(26,vZ),(27,vZ),(28,vZ),(29,vZ),(30,(vB true)),(31,(vB true)),(2,(vB false))] ?_
    exact end_ev [] (vB false) (hK _ _ (⟨by unfold nameB; rw [show allB s=false from Bool.eq_false_iff.2 (fun w=>absurd (of_decide_eq_true ((allB_iff s).1 w (k:Int).toNat (by omega))) (by omega)),Bool.and_false],rfl⟩))
   ·have t9:=byt_range s (((k):Int).toNat)
    by_cases c10:(57:Int) < (byt s (((k):Int).toNat))
    ·refine wc_ev [ltT 2 3 3 c4,evV 4 2 (Value.int .u8 (byt s (((k):Int).toNat))) (show indexA Tryz.prog 9 (vS s) (vI k)=some (Value.int .u8 (byt s (((k):Int).toNat))) from index_byt (by omega) (by omega)),evV 4 3 (vB true) (show binA Tryz.prog .lss 5 (Value.int .u8 (byt s (((k):Int).toNat))) (Value.int .u8 97)=some (vB true) from cmp_lss (decide_eq_true c6)),evV 4 13 (Value.int .u8 (byt s (((k):Int).toNat))) (show indexA Tryz.prog 9 (vS s) (vI k)=some (Value.int .u8 (byt s (((k):Int).toNat))) from index_byt (by omega) (by omega)),evV 4 14 (vB false) (show binA Tryz.prog .lss 5 (Value.int .u8 (byt s (((k):Int).toNat))) (Value.int .u8 48)=some (vB false) from cmp_lss (decide_eq_false c8)),evV 4 18 (Value.int .u8 (byt s (((k):Int).toNat))) (show indexA Tryz.prog 9 (vS s) (vI k)=some (Value.int .u8 (byt s (((k):Int).toNat))) from index_byt (by omega) (by omega)),evV 4 19 (vB true) (show binA Tryz.prog .gtr 5 (Value.int .u8 (byt s (((k):Int).toNat))) (Value.int .u8 57)=some (vB true) from cmp_gtr (decide_eq_true c10))] .ret h [(4,(vI k)),(5,(vS s)),(6,(vI ((s.size:Nat)))),(7,(vB true)),(10,(vS s)),(11,(vI k)),(12,(Value.int .u8 (byt s (((k):Int).toNat)))),(13,(vB true)),(14,(vB true)),(15,vZ),(16,vZ),(17,vZ),(18,vZ),(19,(vB true)),(20,(vB true)),(21,(vS s)),(22,(vI k)),(23,(Value.int .u8 (byt s (((k):Int).toNat)))),(24,(vB false)),(25,(vB false)),(26,(vS s)),(27,(vI k)),(28,(Value.int .u8 (byt s (((k):Int).toNat)))),(29,(vB true)),(30,(vB true)),(31,(vB true)),(2,(vB false))] ?_
     exact end_ev [] (vB false) (hK _ _ (⟨by unfold nameB; rw [show allB s=false from Bool.eq_false_iff.2 (fun w=>absurd (of_decide_eq_true ((allB_iff s).1 w (k:Int).toNat (by omega))) (by omega)),Bool.and_false],rfl⟩))
    ·refine wc_ev [ltT 2 3 3 c4,evV 4 2 (Value.int .u8 (byt s (((k):Int).toNat))) (show indexA Tryz.prog 9 (vS s) (vI k)=some (Value.int .u8 (byt s (((k):Int).toNat))) from index_byt (by omega) (by omega)),evV 4 3 (vB true) (show binA Tryz.prog .lss 5 (Value.int .u8 (byt s (((k):Int).toNat))) (Value.int .u8 97)=some (vB true) from cmp_lss (decide_eq_true c6)),evV 4 13 (Value.int .u8 (byt s (((k):Int).toNat))) (show indexA Tryz.prog 9 (vS s) (vI k)=some (Value.int .u8 (byt s (((k):Int).toNat))) from index_byt (by omega) (by omega)),evV 4 14 (vB false) (show binA Tryz.prog .lss 5 (Value.int .u8 (byt s (((k):Int).toNat))) (Value.int .u8 48)=some (vB false) from cmp_lss (decide_eq_false c8)),evV 4 18 (Value.int .u8 (byt s (((k):Int).toNat))) (show indexA Tryz.prog 9 (vS s) (vI k)=some (Value.int .u8 (byt s (((k):Int).toNat))) from index_byt (by omega) (by omega)),evV 4 19 (vB false) (show binA Tryz.prog .gtr 5 (Value.int .u8 (byt s (((k):Int).toNat))) (Value.int .u8 57)=some (vB false) from cmp_gtr (decide_eq_false c10)),evV 3 1 (vI ((k) + 1)) (show binA Tryz.prog .add 3 (vI k) (vI 1)=some (vI ((k) + 1)) from add_i64 (by omega) (by omega))] .normal h [(4,(vI k)),(5,(vS s)),(6,(vI ((s.size:Nat)))),(7,(vB true)),(10,(vS s)),(11,(vI k)),(12,(Value.int .u8 (byt s (((k):Int).toNat)))),(13,(vB true)),(14,(vB true)),(15,vZ),(16,vZ),(17,vZ),(18,vZ),(19,(vB true)),(20,(vB true)),(21,(vS s)),(22,(vI k)),(23,(Value.int .u8 (byt s (((k):Int).toNat)))),(24,(vB false)),(25,(vB false)),(26,(vS s)),(27,(vI k)),(28,(Value.int .u8 (byt s (((k):Int).toNat)))),(29,(vB false)),(30,(vB false)),(31,(vB false)),(8,(vI k)),(9,(vI ((k) + 1))),(3,(vI ((k) + 1)))] ?_
     exact ⟨s.size - (k + 1).toNat,by omega,⟨k + 1,(fun i=>([vU,vU,(g0 2),vU,(vI k),(vS s),(vI ((s.size:Nat))),(vB true),(vI k),(vI ((k) + 1)),(vS s),(vI k),(Value.int .u8 (byt s (((k):Int).toNat))),(vB true),(vB true),vZ,vZ,vZ,vZ,(vB true),(vB true),(vS s),(vI k),(Value.int .u8 (byt s (((k):Int).toNat))),(vB false),(vB false),(vS s),(vI k),(Value.int .u8 (byt s (((k):Int).toNat))),(vB false),(vB false),(vB false)]:List Value).getD i undef),by as_aux_lemma=>kernel_rfl,rfl,rfl,by omega,fun j g=>by
     by_cases g3:j < k.toNat
     ·exact i3 j g3
     ·rw [show j=(k:Int).toNat by omega]; exact decide_eq_true (by omega)⟩⟩
  ·have t11:=byt_range s (((k):Int).toNat)
   by_cases c12:(122:Int) < (byt s (((k):Int).toNat))
   ·have t13:=byt_range s (((k):Int).toNat)
    by_cases c14:((byt s (((k):Int).toNat)):Int) < 48
    ·refine wc_ev [ltT 2 3 3 c4,evV 4 2 (Value.int .u8 (byt s (((k):Int).toNat))) (show indexA Tryz.prog 9 (vS s) (vI k)=some (Value.int .u8 (byt s (((k):Int).toNat))) from index_byt (by omega) (by omega)),evV 4 3 (vB false) (show binA Tryz.prog .lss 5 (Value.int .u8 (byt s (((k):Int).toNat))) (Value.int .u8 97)=some (vB false) from cmp_lss (decide_eq_false c6)),evV 4 7 (Value.int .u8 (byt s (((k):Int).toNat))) (show indexA Tryz.prog 9 (vS s) (vI k)=some (Value.int .u8 (byt s (((k):Int).toNat))) from index_byt (by omega) (by omega)),evV 4 8 (vB true) (show binA Tryz.prog .gtr 5 (Value.int .u8 (byt s (((k):Int).toNat))) (Value.int .u8 122)=some (vB true) from cmp_gtr (decide_eq_true c12)),evV 4 13 (Value.int .u8 (byt s (((k):Int).toNat))) (show indexA Tryz.prog 9 (vS s) (vI k)=some (Value.int .u8 (byt s (((k):Int).toNat))) from index_byt (by omega) (by omega)),evV 4 14 (vB true) (show binA Tryz.prog .lss 5 (Value.int .u8 (byt s (((k):Int).toNat))) (Value.int .u8 48)=some (vB true) from cmp_lss (decide_eq_true c14))] .ret h [(4,(vI k)),(5,(vS s)),(6,(vI ((s.size:Nat)))),(7,(vB true)),(10,(vS s)),(11,(vI k)),(12,(Value.int .u8 (byt s (((k):Int).toNat)))),(13,(vB false)),(14,(vB false)),(15,(vS s)),(16,(vI k)),(17,(Value.int .u8 (byt s (((k):Int).toNat)))),(18,(vB true)),(19,(vB true)),(20,(vB true)),(21,(vS s)),(22,(vI k)),(23,(Value.int .u8 (byt s (((k):Int).toNat)))),(24,(vB true)),(25,(vB true)),(26,vZ),(27,vZ),(28,vZ),(29,vZ),(30,(vB true)),(31,(vB true)),(2,(vB false))] ?_
     exact end_ev [] (vB false) (hK _ _ (⟨by unfold nameB; rw [show allB s=false from Bool.eq_false_iff.2 (fun w=>absurd (of_decide_eq_true ((allB_iff s).1 w (k:Int).toNat (by omega))) (by omega)),Bool.and_false],rfl⟩))
    ·have t15:=byt_range s (((k):Int).toNat)
     by_cases c16:(57:Int) < (byt s (((k):Int).toNat))
     ·refine wc_ev [ltT 2 3 3 c4,evV 4 2 (Value.int .u8 (byt s (((k):Int).toNat))) (show indexA Tryz.prog 9 (vS s) (vI k)=some (Value.int .u8 (byt s (((k):Int).toNat))) from index_byt (by omega) (by omega)),evV 4 3 (vB false) (show binA Tryz.prog .lss 5 (Value.int .u8 (byt s (((k):Int).toNat))) (Value.int .u8 97)=some (vB false) from cmp_lss (decide_eq_false c6)),evV 4 7 (Value.int .u8 (byt s (((k):Int).toNat))) (show indexA Tryz.prog 9 (vS s) (vI k)=some (Value.int .u8 (byt s (((k):Int).toNat))) from index_byt (by omega) (by omega)),evV 4 8 (vB true) (show binA Tryz.prog .gtr 5 (Value.int .u8 (byt s (((k):Int).toNat))) (Value.int .u8 122)=some (vB true) from cmp_gtr (decide_eq_true c12)),evV 4 13 (Value.int .u8 (byt s (((k):Int).toNat))) (show indexA Tryz.prog 9 (vS s) (vI k)=some (Value.int .u8 (byt s (((k):Int).toNat))) from index_byt (by omega) (by omega)),evV 4 14 (vB false) (show binA Tryz.prog .lss 5 (Value.int .u8 (byt s (((k):Int).toNat))) (Value.int .u8 48)=some (vB false) from cmp_lss (decide_eq_false c14)),evV 4 18 (Value.int .u8 (byt s (((k):Int).toNat))) (show indexA Tryz.prog 9 (vS s) (vI k)=some (Value.int .u8 (byt s (((k):Int).toNat))) from index_byt (by omega) (by omega)),evV 4 19 (vB true) (show binA Tryz.prog .gtr 5 (Value.int .u8 (byt s (((k):Int).toNat))) (Value.int .u8 57)=some (vB true) from cmp_gtr (decide_eq_true c16))] .ret h [(4,(vI k)),(5,(vS s)),(6,(vI ((s.size:Nat)))),(7,(vB true)),(10,(vS s)),(11,(vI k)),(12,(Value.int .u8 (byt s (((k):Int).toNat)))),(13,(vB false)),(14,(vB false)),(15,(vS s)),(16,(vI k)),(17,(Value.int .u8 (byt s (((k):Int).toNat)))),(18,(vB true)),(19,(vB true)),(20,(vB true)),(21,(vS s)),(22,(vI k)),(23,(Value.int .u8 (byt s (((k):Int).toNat)))),(24,(vB false)),(25,(vB false)),(26,(vS s)),(27,(vI k)),(28,(Value.int .u8 (byt s (((k):Int).toNat)))),(29,(vB true)),(30,(vB true)),(31,(vB true)),(2,(vB false))] ?_
      exact end_ev [] (vB false) (hK _ _ (⟨by unfold nameB; rw [show allB s=false from Bool.eq_false_iff.2 (fun w=>absurd (of_decide_eq_true ((allB_iff s).1 w (k:Int).toNat (by omega))) (by omega)),Bool.and_false],rfl⟩))
     ·refine wc_ev [ltT 2 3 3 c4,evV 4 2 (Value.int .u8 (byt s (((k):Int).toNat))) (show indexA Tryz.prog 9 (vS s) (vI k)=some (Value.int .u8 (byt s (((k):Int).toNat))) from index_byt (by omega) (by omega)),evV 4 3 (vB false) (show binA Tryz.prog .lss 5 (Value.int .u8 (byt s (((k):Int).toNat))) (Value.int .u8 97)=some (vB false) from cmp_lss (decide_eq_false c6)),evV 4 7 (Value.int .u8 (byt s (((k):Int).toNat))) (show indexA Tryz.prog 9 (vS s) (vI k)=some (Value.int .u8 (byt s (((k):Int).toNat))) from index_byt (by omega) (by omega)),evV 4 8 (vB true) (show binA Tryz.prog .gtr 5 (Value.int .u8 (byt s (((k):Int).toNat))) (Value.int .u8 122)=some (vB true) from cmp_gtr (decide_eq_true c12)),evV 4 13 (Value.int .u8 (byt s (((k):Int).toNat))) (show indexA Tryz.prog 9 (vS s) (vI k)=some (Value.int .u8 (byt s (((k):Int).toNat))) from index_byt (by omega) (by omega)),evV 4 14 (vB false) (show binA Tryz.prog .lss 5 (Value.int .u8 (byt s (((k):Int).toNat))) (Value.int .u8 48)=some (vB false) from cmp_lss (decide_eq_false c14)),evV 4 18 (Value.int .u8 (byt s (((k):Int).toNat))) (show indexA Tryz.prog 9 (vS s) (vI k)=some (Value.int .u8 (byt s (((k):Int).toNat))) from index_byt (by omega) (by omega)),evV 4 19 (vB false) (show binA Tryz.prog .gtr 5 (Value.int .u8 (byt s (((k):Int).toNat))) (Value.int .u8 57)=some (vB false) from cmp_gtr (decide_eq_false c16)),evV 3 1 (vI ((k) + 1)) (show binA Tryz.prog .add 3 (vI k) (vI 1)=some (vI ((k) + 1)) from add_i64 (by omega) (by omega))] .normal h [(4,(vI k)),(5,(vS s)),(6,(vI ((s.size:Nat)))),(7,(vB true)),(10,(vS s)),(11,(vI k)),(12,(Value.int .u8 (byt s (((k):Int).toNat)))),(13,(vB false)),(14,(vB false)),(15,(vS s)),(16,(vI k)),(17,(Value.int .u8 (byt s (((k):Int).toNat)))),(18,(vB true)),(19,(vB true)),(20,(vB true)),(21,(vS s)),(22,(vI k)),(23,(Value.int .u8 (byt s (((k):Int).toNat)))),(24,(vB false)),(25,(vB false)),(26,(vS s)),(27,(vI k)),(28,(Value.int .u8 (byt s (((k):Int).toNat)))),(29,(vB false)),(30,(vB false)),(31,(vB false)),(8,(vI k)),(9,(vI ((k) + 1))),(3,(vI ((k) + 1)))] ?_
      exact ⟨s.size - (k + 1).toNat,by omega,⟨k + 1,(fun i=>([vU,vU,(g0 2),vU,(vI k),(vS s),(vI ((s.size:Nat))),(vB true),(vI k),(vI ((k) + 1)),(vS s),(vI k),(Value.int .u8 (byt s (((k):Int).toNat))),(vB false),(vB false),(vS s),(vI k),(Value.int .u8 (byt s (((k):Int).toNat))),(vB true),(vB true),(vB true),(vS s),(vI k),(Value.int .u8 (byt s (((k):Int).toNat))),(vB false),(vB false),(vS s),(vI k),(Value.int .u8 (byt s (((k):Int).toNat))),(vB false),(vB false),(vB false)]:List Value).getD i undef),by as_aux_lemma=>kernel_rfl,rfl,rfl,by omega,fun j g=>by
     by_cases g3:j < k.toNat
     ·exact i3 j g3
     ·rw [show j=(k:Int).toNat by omega]; exact decide_eq_true (by omega)⟩⟩
   ·refine wc_ev [ltT 2 3 3 c4,evV 4 2 (Value.int .u8 (byt s (((k):Int).toNat))) (show indexA Tryz.prog 9 (vS s) (vI k)=some (Value.int .u8 (byt s (((k):Int).toNat))) from index_byt (by omega) (by omega)),evV 4 3 (vB false) (show binA Tryz.prog .lss 5 (Value.int .u8 (byt s (((k):Int).toNat))) (Value.int .u8 97)=some (vB false) from cmp_lss (decide_eq_false c6)),evV 4 7 (Value.int .u8 (byt s (((k):Int).toNat))) (show indexA Tryz.prog 9 (vS s) (vI k)=some (Value.int .u8 (byt s (((k):Int).toNat))) from index_byt (by omega) (by omega)),evV 4 8 (vB false) (show binA Tryz.prog .gtr 5 (Value.int .u8 (byt s (((k):Int).toNat))) (Value.int .u8 122)=some (vB false) from cmp_gtr (decide_eq_false c12)),evV 3 1 (vI ((k) + 1)) (show binA Tryz.prog .add 3 (vI k) (vI 1)=some (vI ((k) + 1)) from add_i64 (by omega) (by omega))] .normal h [(4,(vI k)),(5,(vS s)),(6,(vI ((s.size:Nat)))),(7,(vB true)),(10,(vS s)),(11,(vI k)),(12,(Value.int .u8 (byt s (((k):Int).toNat)))),(13,(vB false)),(14,(vB false)),(15,(vS s)),(16,(vI k)),(17,(Value.int .u8 (byt s (((k):Int).toNat)))),(18,(vB false)),(19,(vB false)),(20,(vB false)),(21,vZ),(22,vZ),(23,vZ),(24,vZ),(25,vZ),(26,vZ),(27,vZ),(28,vZ),(29,vZ),(30,vZ),(31,(vB false)),(8,(vI k)),(9,(vI ((k) + 1))),(3,(vI ((k) + 1)))] ?_
    exact ⟨s.size - (k + 1).toNat,by omega,⟨k + 1,(fun i=>([vU,vU,(g0 2),vU,(vI k),(vS s),(vI ((s.size:Nat))),(vB true),(vI k),(vI ((k) + 1)),(vS s),(vI k),(Value.int .u8 (byt s (((k):Int).toNat))),(vB false),(vB false),(vS s),(vI k),(Value.int .u8 (byt s (((k):Int).toNat))),(vB false),(vB false),(vB false),vZ,vZ,vZ,vZ,vZ,vZ,vZ,vZ,vZ,vZ,(vB false)]:List Value).getD i undef),by as_aux_lemma=>kernel_rfl,rfl,rfl,by omega,fun j g=>by
     by_cases g3:j < k.toNat
     ·exact i3 j g3
     ·rw [show j=(k:Int).toNat by omega]; exact decide_eq_true (by omega)⟩⟩
 ·refine wc_ev [ltF 2 3 3 c4] (.exit 0) h [(4,(vI k)),(5,(vS s)),(6,(vI ((s.size:Nat)))),(7,(vB false))] ?_
  by_cases c17:(1:Int)≤((s.size:Nat))
  ·by_cases c18:(((s.size:Nat)):Int)≤16
   ·refine wc_ev [geT 6 2 3 c17,leT 6 6 3 c18] .ret h [(32,(vS s)),(33,(vI ((s.size:Nat)))),(34,(vB true)),(35,(vB true)),(36,(vS s)),(37,(vI ((s.size:Nat)))),(38,(vB true)),(39,(vB true)),(2,(vB true))] ?_
    exact end_ev [] (vB true) (hK _ _ (⟨by unfold nameB; rw [decide_eq_true (by omega),show allB s=true from (allB_iff s).2 fun j hj=>i3 j (by omega)]; rfl,rfl⟩))
   ·refine wc_ev [geT 6 2 3 c17,leF 6 6 3 c18] .ret h [(32,(vS s)),(33,(vI ((s.size:Nat)))),(34,(vB true)),(35,(vB true)),(36,(vS s)),(37,(vI ((s.size:Nat)))),(38,(vB false)),(39,(vB false)),(2,(vB false))] ?_
    exact end_ev [] (vB false) (hK _ _ (⟨by unfold nameB; rw [decide_eq_false (by omega),show allB s=true from (allB_iff s).2 fun j hj=>i3 j (by omega)]; rfl,rfl⟩))
  ·refine wc_ev [geF 6 2 3 c17] .ret h [(32,(vS s)),(33,(vI ((s.size:Nat)))),(34,(vB false)),(35,(vB false)),(36,vZ),(37,vZ),(38,vZ),(39,(vB false)),(2,(vB false))] ?_
   exact end_ev [] (vB false) (hK _ _ (⟨by unfold nameB; rw [decide_eq_false (by omega),show allB s=true from (allB_iff s).2 fun j hj=>i3 j (by omega)]; rfl,rfl⟩))
end C29
