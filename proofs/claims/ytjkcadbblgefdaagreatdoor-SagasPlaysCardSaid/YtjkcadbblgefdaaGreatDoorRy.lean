/- Scripts that can be read, in the canonical heap. -/
import Derived.Test.YtjkcadbblgefdaaGreatDoorRh
import Derived.Test.YtjkcadbblgefdaaGreatDoorBmf
import Derived.KernelRfl
open Go Go.AM Go.Proofs
namespace C29
theorem und1_2:Tryz.prog.underlying 2=some (.int .i64):=by kernel_rfl
theorem und1_3:Tryz.prog.underlying 3=some (.int .i64):=by kernel_rfl
theorem und1_4:Tryz.prog.underlying 4=some (.bool):=by kernel_rfl
theorem und1_9:Tryz.prog.underlying 9=some (.string):=by kernel_rfl
theorem und1_22:Tryz.prog.underlying 22=some (.slice 40):=by kernel_rfl
theorem und1_29:Tryz.prog.underlying 29=some (.slice 67):=by kernel_rfl
theorem und1_34:Tryz.prog.underlying 34=some (.int .i64):=by kernel_rfl
theorem open67 {H:Type} {enc:TypeId × Value→H} {W:World} {cs:List Value} (h:Reads enc Tryz.prog W 67 cs):∃ (s0:ByteArray) (n1:Int),cs=[.string s0,.int .i64 n1]∧s0.size≤maxLen∧(IntKind.min .i64≤n1∧n1≤IntKind.max .i64)∧True:=by
 have hl:cs.length=2:=(reads_size (fs:=(match Tryz.prog.underlying 67 with | some (.struct fs)=>fs | _=>#[])) (by kernel_rfl) h).trans (by kernel_rfl)
 match cs,hl,h with
 | [c0,c1],_,h =>
  obtain ⟨w0,e0,r0⟩:=reads_at 12 (o:=0) (u:=9) h (by kernel_rfl)
  have q0:c0=w0:=by simpa using e0
  obtain ⟨s0,z0,l0⟩:=reads_string und1_9 r0
  simp only [List.cons.injEq,and_true] at z0; subst q0; subst z0
  obtain ⟨w1,e1,r1⟩:=reads_at 12 (o:=1) (u:=2) h (by kernel_rfl)
  have q1:c1=w1:=by simpa using e1
  obtain ⟨n1,z1,l1⟩:=reads_int und1_2 r1
  simp only [List.cons.injEq,and_true] at z1; subst q1; subst z1
  exact ⟨_,_,rfl,l0,l1,trivial⟩
theorem open40 {H:Type} {enc:TypeId × Value→H} {W:World} {cs:List Value} (h:Reads enc Tryz.prog W 40 cs):∃ (n0:Int) (n1:Int) (n2:Int) (s3:ByteArray) (n4:Int) (n5:Int) (v6:Value) (n7:Int) (n8:Int) (n9:Int) (n10:Int) (s11:ByteArray) (n12:Int) (n13:Int) (v14:Value) (n15:Int) (n16:Int) (b17:Bool) (n18:Int) (n19:Int) (n20:Int),cs=[.int .i64 n0,.int .i64 n1,.int .i64 n2,.string s3,.int .i64 n4,.int .i64 n5,v6,.int .i64 n7,.int .i64 n8,.int .i64 n9,.int .i64 n10,.string s11,.int .i64 n12,.int .i64 n13,v14,.int .i64 n15,.int .i64 n16,.bool b17,.int .i64 n18,.int .i64 n19,.int .i64 n20]∧(IntKind.min .i64≤n0∧n0≤IntKind.max .i64)∧(IntKind.min .i64≤n1∧n1≤IntKind.max .i64)∧(IntKind.min .i64≤n2∧n2≤IntKind.max .i64)∧s3.size≤maxLen∧(IntKind.min .i64≤n4∧n4≤IntKind.max .i64)∧(IntKind.min .i64≤n5∧n5≤IntKind.max .i64)∧Reads enc Tryz.prog W 29 [v6]∧(IntKind.min .i64≤n7∧n7≤IntKind.max .i64)∧(IntKind.min .i64≤n8∧n8≤IntKind.max .i64)∧(IntKind.min .i64≤n9∧n9≤IntKind.max .i64)∧(IntKind.min .i64≤n10∧n10≤IntKind.max .i64)∧s11.size≤maxLen∧(IntKind.min .i64≤n12∧n12≤IntKind.max .i64)∧(IntKind.min .i64≤n13∧n13≤IntKind.max .i64)∧Reads enc Tryz.prog W 29 [v14]∧(IntKind.min .i64≤n15∧n15≤IntKind.max .i64)∧(IntKind.min .i64≤n16∧n16≤IntKind.max .i64)∧(IntKind.min .i64≤n18∧n18≤IntKind.max .i64)∧(IntKind.min .i64≤n19∧n19≤IntKind.max .i64)∧(IntKind.min .i64≤n20∧n20≤IntKind.max .i64)∧True:=by
 have hl:cs.length=21:=(reads_size (fs:=(match Tryz.prog.underlying 40 with | some (.struct fs)=>fs | _=>#[])) (by kernel_rfl) h).trans (by kernel_rfl)
 match cs,hl,h with
 | [c0,c1,c2,c3,c4,c5,c6,c7,c8,c9,c10,c11,c12,c13,c14,c15,c16,c17,c18,c19,c20],_,h =>
  obtain ⟨w0,e0,r0⟩:=reads_at 12 (o:=0) (u:=3) h (by kernel_rfl)
  have q0:c0=w0:=by simpa using e0
  obtain ⟨n0,z0,l0⟩:=reads_int und1_3 r0
  simp only [List.cons.injEq,and_true] at z0; subst q0; subst z0
  obtain ⟨w1,e1,r1⟩:=reads_at 12 (o:=1) (u:=3) h (by kernel_rfl)
  have q1:c1=w1:=by simpa using e1
  obtain ⟨n1,z1,l1⟩:=reads_int und1_3 r1
  simp only [List.cons.injEq,and_true] at z1; subst q1; subst z1
  obtain ⟨w2,e2,r2⟩:=reads_at 12 (o:=2) (u:=3) h (by kernel_rfl)
  have q2:c2=w2:=by simpa using e2
  obtain ⟨n2,z2,l2⟩:=reads_int und1_3 r2
  simp only [List.cons.injEq,and_true] at z2; subst q2; subst z2
  obtain ⟨w3,e3,r3⟩:=reads_at 12 (o:=3) (u:=9) h (by kernel_rfl)
  have q3:c3=w3:=by simpa using e3
  obtain ⟨s3,z3,l3⟩:=reads_string und1_9 r3
  simp only [List.cons.injEq,and_true] at z3; subst q3; subst z3
  obtain ⟨w4,e4,r4⟩:=reads_at 12 (o:=4) (u:=3) h (by kernel_rfl)
  have q4:c4=w4:=by simpa using e4
  obtain ⟨n4,z4,l4⟩:=reads_int und1_3 r4
  simp only [List.cons.injEq,and_true] at z4; subst q4; subst z4
  obtain ⟨w5,e5,r5⟩:=reads_at 12 (o:=5) (u:=3) h (by kernel_rfl)
  have q5:c5=w5:=by simpa using e5
  obtain ⟨n5,z5,l5⟩:=reads_int und1_3 r5
  simp only [List.cons.injEq,and_true] at z5; subst q5; subst z5
  obtain ⟨w6,e6,r6⟩:=reads_at 12 (o:=6) (u:=29) h (by kernel_rfl)
  have q6:c6=w6:=by simpa using e6
  subst q6
  obtain ⟨w7,e7,r7⟩:=reads_at 12 (o:=7) (u:=3) h (by kernel_rfl)
  have q7:c7=w7:=by simpa using e7
  obtain ⟨n7,z7,l7⟩:=reads_int und1_3 r7
  simp only [List.cons.injEq,and_true] at z7; subst q7; subst z7
  obtain ⟨w8,e8,r8⟩:=reads_at 12 (o:=8) (u:=3) h (by kernel_rfl)
  have q8:c8=w8:=by simpa using e8
  obtain ⟨n8,z8,l8⟩:=reads_int und1_3 r8
  simp only [List.cons.injEq,and_true] at z8; subst q8; subst z8
  obtain ⟨w9,e9,r9⟩:=reads_at 12 (o:=9) (u:=3) h (by kernel_rfl)
  have q9:c9=w9:=by simpa using e9
  obtain ⟨n9,z9,l9⟩:=reads_int und1_3 r9
  simp only [List.cons.injEq,and_true] at z9; subst q9; subst z9
  obtain ⟨w10,e10,r10⟩:=reads_at 12 (o:=10) (u:=34) h (by kernel_rfl)
  have q10:c10=w10:=by simpa using e10
  obtain ⟨n10,z10,l10⟩:=reads_int und1_34 r10
  simp only [List.cons.injEq,and_true] at z10; subst q10; subst z10
  obtain ⟨w11,e11,r11⟩:=reads_at 12 (o:=11) (u:=9) h (by kernel_rfl)
  have q11:c11=w11:=by simpa using e11
  obtain ⟨s11,z11,l11⟩:=reads_string und1_9 r11
  simp only [List.cons.injEq,and_true] at z11; subst q11; subst z11
  obtain ⟨w12,e12,r12⟩:=reads_at 12 (o:=12) (u:=3) h (by kernel_rfl)
  have q12:c12=w12:=by simpa using e12
  obtain ⟨n12,z12,l12⟩:=reads_int und1_3 r12
  simp only [List.cons.injEq,and_true] at z12; subst q12; subst z12
  obtain ⟨w13,e13,r13⟩:=reads_at 12 (o:=13) (u:=3) h (by kernel_rfl)
  have q13:c13=w13:=by simpa using e13
  obtain ⟨n13,z13,l13⟩:=reads_int und1_3 r13
  simp only [List.cons.injEq,and_true] at z13; subst q13; subst z13
  obtain ⟨w14,e14,r14⟩:=reads_at 12 (o:=14) (u:=29) h (by kernel_rfl)
  have q14:c14=w14:=by simpa using e14
  subst q14
  obtain ⟨w15,e15,r15⟩:=reads_at 12 (o:=15) (u:=3) h (by kernel_rfl)
  have q15:c15=w15:=by simpa using e15
  obtain ⟨n15,z15,l15⟩:=reads_int und1_3 r15
  simp only [List.cons.injEq,and_true] at z15; subst q15; subst z15
  obtain ⟨w16,e16,r16⟩:=reads_at 12 (o:=16) (u:=3) h (by kernel_rfl)
  have q16:c16=w16:=by simpa using e16
  obtain ⟨n16,z16,l16⟩:=reads_int und1_3 r16
  simp only [List.cons.injEq,and_true] at z16; subst q16; subst z16
  obtain ⟨w17,e17,r17⟩:=reads_at 12 (o:=17) (u:=4) h (by kernel_rfl)
  have q17:c17=w17:=by simpa using e17
  obtain ⟨b17,z17⟩:=reads_bool und1_4 r17
  simp only [List.cons.injEq,and_true] at z17; subst q17; subst z17
  obtain ⟨w18,e18,r18⟩:=reads_at 12 (o:=18) (u:=3) h (by kernel_rfl)
  have q18:c18=w18:=by simpa using e18
  obtain ⟨n18,z18,l18⟩:=reads_int und1_3 r18
  simp only [List.cons.injEq,and_true] at z18; subst q18; subst z18
  obtain ⟨w19,e19,r19⟩:=reads_at 12 (o:=19) (u:=3) h (by kernel_rfl)
  have q19:c19=w19:=by simpa using e19
  obtain ⟨n19,z19,l19⟩:=reads_int und1_3 r19
  simp only [List.cons.injEq,and_true] at z19; subst q19; subst z19
  obtain ⟨w20,e20,r20⟩:=reads_at 12 (o:=20) (u:=34) h (by kernel_rfl)
  have q20:c20=w20:=by simpa using e20
  obtain ⟨n20,z20,l20⟩:=reads_int und1_34 r20
  simp only [List.cons.injEq,and_true] at z20; subst q20; subst z20
  exact ⟨_,_,_,_,_,_,_,_,_,_,_,_,_,_,_,_,_,_,_,_,_,rfl,l0,l1,l2,l3,l4,l5,r6,l7,l8,l9,l10,l11,l12,l13,r14,l15,l16,l18,l19,l20,trivial⟩
theorem slack0 (W:World) (L:List Addr) (b:Nat):slackElem (heap0 W L) b=none:=by
 have key:∀ o,(heap0 W L)[b]?=some o→isSlack (some o)=false:=by
  intro o hb
  simp only [heap0] at hb
  rw [Array.getElem?_append] at hb
  split at hb
  ·rw [Array.getElem?_map] at hb
   cases ho:W.heap[b]? with
   | none=>rw [ho] at hb; cases hb
   | some o' =>
    rw [ho] at hb
    simp only [Option.map_some,Option.some.injEq] at hb
    subst hb
    cases o' with
    | cells c e fr=>exact isSlack_canon _ _ _
    | _=>rfl
  ·simp only [List.getElem?_toArray,List.getElem?_map] at hb
   simp only [Option.map_eq_some_iff] at hb
   obtain ⟨a,_,rfl⟩:=hb
   rfl
 unfold slackElem
 split
 ·rename_i c e fr hb
  have:=key _ hb
  simp only [isSlack,decide_eq_false_iff_not] at this
  rw [if_neg this]
 ·rfl
theorem bridge_steps {H:Type} {enc:TypeId × Value→H} {W:World} {L:List Addr} {v:Value} (h:Reads enc Tryz.prog W 29 [v]) (hv:Listed L v) :
  ∃ (xs:List StepM) (sa:Option Addr) (cp:Nat),canonV W L v=.slice sa xs.length cp∧LAt (heap0 W L) stepc 2 xs (.slice sa xs.length cp)∧xs.length≤9223372036854775807∧∀ x ∈ xs,x.key.size≤9223372036854775807:=by
 obtain ⟨xs,sa,cp,e,k,l,q⟩:=bridge_slice (Q:=fun x:StepM=>x.key.size≤maxLen) und1_29 (by kernel_rfl) (by decide) stepc_size h hv fun cs hr _=>by
  obtain ⟨s0,n1,rfl,l0,l1,_⟩:=open67 hr
  exact ⟨⟨s0,n1⟩,by simp [stepc,canonV],l0⟩
 exact ⟨xs,sa,cp,e,lat_of k fun b _=>slack0 W L b,l,q⟩
theorem bridge_scr {H:Type} {enc:TypeId × Value→H} {W:World} {L:List Addr} {v:Value} (hL:∀ (b:Nat) (c:Array Value) (e:TypeId) (fr:Nat × Nat) (u:Value),W.heap[b]?=some (.cells c e fr)→u ∈ c→Listed L u) (h:Reads enc Tryz.prog W 22 [v]) (hv:Listed L v) :
  ∃ (xs:List StpM) (sa:Option Addr) (cp:Nat),canonV W L v=.slice sa xs.length cp∧LAt (heap0 W L) stpc 21 xs (.slice sa xs.length cp)∧xs.length≤9223372036854775807∧∀ x ∈ xs,POk (heap0 W L) x:=by
 obtain ⟨xs,sa,cp,e,k,l,q⟩:=bridge_slice (Q:=fun x:StpM=>POk (heap0 W L) x) und1_22 (by kernel_rfl) (by decide) stpc_size h hv fun cs hr hocc=>by
  obtain ⟨n0,n1,n2,s3,n4,n5,v6,n7,n8,n9,n10,s11,n12,n13,v14,n15,n16,b17,n18,n19,n20,rfl,hh⟩:=open40 hr
  obtain ⟨f0q,f1q,f2q,f3q,f4q,f5q,f6q,f7q,f8q,f9q,f10q,f11q,f12q,f13q,f14q,f15q,f16q,f17q,f18q,f19q,_⟩:=hh
  obtain ⟨b1,c1,ee1,fr1,g1,g2⟩:=hocc v6 (by simp)
  obtain ⟨b2,c2,ee2,fr2,g3,g4⟩:=hocc v14 (by simp)
  obtain ⟨x1,a1,p1,w1,k1,l1,z1⟩:=bridge_steps f6q (hL _ _ _ _ _ g1 g2)
  obtain ⟨x2,a2,p2,w2,k2,l2,z2⟩:=bridge_steps f14q (hL _ _ _ _ _ g3 g4)
  exact ⟨⟨n0,n1,n2,⟨s3,n4,n5,x1⟩,a1,p1,n7,n8,n9,n10,⟨⟨s11,n12,n13,x2⟩,n15,n16,b17,n18,n19,n20⟩,a2,p2⟩,by simp [stpc,canonV,w1,w2],
   ⟨k1,l1,k2,l2,⟨f3q,z1⟩,⟨f11q,z2⟩,by simpa [IntKind.min,IntKind.max,IntKind.signed,IntKind.bits] using f1q,by simpa [IntKind.min,IntKind.max,IntKind.signed,IntKind.bits] using f7q⟩⟩
 exact ⟨xs,sa,cp,e,C29.lat_of k fun b _=>slack0 W L b,l,q⟩
theorem bridge_scr2 {H:Type} {enc:TypeId × Value→H} {W:World} {L:List Addr} {args:Array Value} (eL:L=badL W args) {v:Value} (h:Reads enc Tryz.prog W 22 [v]) (hv:Listed L v) :
  ∃ (xs:List StpM) (sa:Option Addr) (cp:Nat),canonV W L v=.slice sa xs.length cp∧LAt (heap0 W L) stpc 21 xs (.slice sa xs.length cp)∧xs.length≤9223372036854775807∧∀ x ∈ xs,POk (heap0 W L) x :=
 bridge_scr (fun b c e fr u g1 g2=>by rw [eL]; exact listed_heap g1 g2) h hv
end C29
