/- An abstract machine for Go, part 26: what is known of a heap behind each of its steps. -/
import Derived.Test.YtjkcadbblgefdaaGreatDoorAmy
namespace Go.AM

section
variable {P : Program} {h h1 : Heap}

theorem push_new {o:Obj} (e:h1=h.push o):h1[h.size]?=some o:=by subst e; simp
theorem push_old {o o':Obj} {b:Nat} (e:h1=h.push o) (hb:h[b]?=some o'):h1[b]?=some o':=by
  subst e
  have:=(Array.getElem?_eq_some_iff.1 hb).1
  rw [Array.getElem?_push,if_neg (by omega)]; exact hb
theorem row_lt {o:Obj} {b:Nat} (hb:h[b]?=some o):b < h.size:=(Array.getElem?_eq_some_iff.1 hb).1
theorem set_same {o o':Obj} {b:Nat} (e:h1=h.setIfInBounds b o) (hb:h[b]?=some o'):h1[b]?=some o:=by
  subst e
  have:=(Array.getElem?_eq_some_iff.1 hb).1
  simp [this]
theorem set_other {o o':Obj} {b c:Nat} (e:h1=h.setIfInBounds b o) (hc:h[c]?=some o') (hne:b ≠ c):h1[c]?=some o':=by
  subst e
  rw [Array.getElem?_setIfInBounds,if_neg hne]; exact hc
theorem Ext.setNew {h0:Heap} {o:Obj} {b:Nat} (x:Ext h0 h) (e:h1=h.setIfInBounds b o) (hb:h0.size≤b):Ext h0 h1:=by
  intro c p hc
  subst e
  have:=row_lt hc
  rw [Array.getElem?_setIfInBounds,if_neg (by omega)]
  exact x c p hc

/-- A cell is read. -/
theorem load_cell {t:TypeId} {b off:Nat} {c:Array Value} {e:TypeId} {fr:Nat × Nat} {v:Value} (ht:isAggA P t=some false) (hb:h[b]?=some (.cells c e fr)) (hv:c[off]?=some v) :
    loadT P h t (.pointer (some ⟨b,off,none⟩))=some v:=by
  have hlt:=(Array.getElem?_eq_some_iff.1 hv).1
  have hx:off + 1≤c.size:=hlt
  simp only [loadT,ht,loadN,hb,true_and,hx,if_true,Option.bind_some]
  rw [Array.getElem?_extract,if_pos (by omega)]
  simpa using hv
theorem info_of {t:TypeId} {n:Nat} (hi:(P.info? t).map (·.size)=some n):∃ i,P.info? t=some i∧i.size=n:=by
  simpa using hi
/-- Some cells are read. -/
theorem load_agg {t:TypeId} {b off n:Nat} {c d:Array Value} {e:TypeId} {fr:Nat × Nat} (ht:isAggA P t=some true) (hi:(P.info? t).map (·.size)=some n) (hb:h[b]?=some (.cells c e fr)) (hs:off + n≤c.size) (hd:c.extract off (off + n)=d) :
    loadT P h t (.pointer (some ⟨b,off,none⟩))=some (.agg d):=by
  obtain ⟨i,hi',rfl⟩:=info_of hi
  simp only [loadT,ht,hi',loadN,hb,true_and,hs,if_true,Option.map_some,hd]
/-- Cells are written. -/
theorem store_cells {t:TypeId} {b off n:Nat} {c:Array Value} {e:TypeId} {fr:Nat × Nat} {v:Value} (hi:(P.info? t).map (·.size)=some n) (hs:v.cells.size=n) (hb:h[b]?=some (.cells c e fr)) (hf:fr.2≤fr.1) (hsz:off + n≤c.size) (ho:v.cells.toList.all (·.oneCell')=true)
    {d:Array Value} (hd:splice c off v.cells.toList=d):storeT P h t (.pointer (some ⟨b,off,none⟩)) v=some (h.setIfInBounds b (.cells d e fr)):=by
  obtain ⟨i,hi',rfl⟩:=info_of hi
  have h1:off + v.cells.toList.length≤c.size:=by simpa [hs] using hsz
  simp only [storeT,hi',hs,if_true,storeN,hb]
  rw [if_pos ⟨trivial,h1,hf,ho⟩,hd]

/-- An element's address. -/
theorem index_addr {t e:TypeId} {b off n cp z:Nat} {k:IntKind} {j:Int} (ht:P.underlying t=some (.slice e)) (hi:(P.info? e).map (·.size)=some z) (h0:0≤j) (hn:j < n) :
    indexAddrA P t (.slice (some ⟨b,off,none⟩) n cp) (.int k j)=some (.pointer (some ((⟨b,off,none⟩:Addr).add (j.toNat * z)))):=by
  obtain ⟨i,hi',rfl⟩:=info_of hi
  simp only [indexAddrA,ht,hi']
  rw [if_pos (by constructor <;> omega)]

/-! ### comparisons and sums of whole numbers -/
theorem cmp_lss {t:TypeId} {k:IntKind} {a b:Int} {r:Bool} (e:decide (a < b)=r):binA P .lss t (.int k a) (.int k b)=some (.bool r):=by subst e; simp [binA,intBinA]
theorem cmp_leq {t:TypeId} {k:IntKind} {a b:Int} {r:Bool} (e:decide (a≤b)=r):binA P .leq t (.int k a) (.int k b)=some (.bool r):=by subst e; simp [binA,intBinA]
theorem cmp_gtr {t:TypeId} {k:IntKind} {a b:Int} {r:Bool} (e:decide (b < a)=r):binA P .gtr t (.int k a) (.int k b)=some (.bool r):=by subst e; simp [binA,intBinA]
theorem cmp_geq {t:TypeId} {k:IntKind} {a b:Int} {r:Bool} (e:decide (b≤a)=r):binA P .geq t (.int k a) (.int k b)=some (.bool r):=by subst e; simp [binA,intBinA]
theorem cmp_eql {t:TypeId} {k:IntKind} {a b:Int} {r:Bool} (e:decide (a=b)=r):binA P .eql t (.int k a) (.int k b)=some (.bool r):=by
  subst e; simp [binA,intBinA]; by_cases e:a=b <;> simp [e]
theorem cmp_neq {t:TypeId} {k:IntKind} {a b:Int} {r:Bool} (e:decide (a ≠ b)=r):binA P .neq t (.int k a) (.int k b)=some (.bool r):=by
  subst e; simp [binA,intBinA]; by_cases e:a=b <;> simp [e]
theorem add_i64 {t:TypeId} {a b:Int} (h0 : -9223372036854775808≤a + b) (h1:a + b≤9223372036854775807):binA P .add t (.int .i64 a) (.int .i64 b)=some (.int .i64 (a + b)):=by
  have:IntKind.i64.wrap (a + b)=a + b:=by rw [IntKind.wrap_i64]; omega
  simp [binA,intBinA,this]
theorem sub_i64 {t:TypeId} {a b:Int} (h0 : -9223372036854775808≤a - b) (h1:a - b≤9223372036854775807):binA P .sub t (.int .i64 a) (.int .i64 b)=some (.int .i64 (a - b)):=by
  have:IntKind.i64.wrap (a - b)=a - b:=by rw [IntKind.wrap_i64]; omega
  simp [binA,intBinA,this]
end

/-! ### evidence -/
section
variable {P : Program} {h h1 : Heap} {t e : TypeId} {b n : Nat} {c d : Array Value} {fr : Nat × Nat}
def evV (r i:Nat) (v:Value) {p:Prop} (q:p):Ev:=⟨r,i,v,none,p,q⟩
def evH (r i:Nat) (v:Value) (h1:Heap) {p:Prop} (q:p):Ev:=⟨r,i,v,some h1,p,q⟩
def evR (v:Value):Ev:=⟨0,0,v,none,v=v,rfl⟩
def evA (r i:Nat) {o:Obj} (hb:b=h.size) (e:h1=h.push o):Ev :=
  ⟨r,i,.pointer (some ⟨b,0,none⟩),some h1,Value.pointer (some ⟨b,0,none⟩)=.pointer (some ⟨h.size,0,none⟩)∧h1=h.push o,by rw [hb],e⟩
def evS (r i n:Nat) {o:Obj} (hb:b=h.size) (e:h1=h.push o):Ev :=
  ⟨r,i,.slice (some ⟨b,0,none⟩) n n,some h1,Value.slice (some ⟨b,0,none⟩) n n=.slice (some ⟨h.size,0,none⟩) n n∧h1=h.push o,by rw [hb],e⟩
def evL (r i o:Nat) (ht:isAggA P t=some true) (hi:(P.info? t).map (·.size)=some n) (f:h[b]?=some (.cells c e fr)) (q:decide (o + n≤c.size)=true:=by kernel_rfl):Ev :=
  ⟨r,i,.agg (c.extract o (o + n)),none,loadT P h t (.pointer (some ⟨b,o,none⟩))=some (.agg (c.extract o (o + n))),load_agg ht hi f (of_decide_eq_true q) rfl⟩
theorem load_at (o:Nat) (ht:isAggA P t=some false) (f:h[b]?=some (.cells c e fr)) (q:decide (o < c.size)=true):loadT P h t (.pointer (some ⟨b,o,none⟩))=some (c.getD o undef):=by
  have w:=of_decide_eq_true q
  exact load_cell ht f (by simp [Array.getD,w])
def evC (r i o:Nat) (ht:isAggA P t=some false) (f:h[b]?=some (.cells c e fr)) (q:decide (o < c.size)=true:=by kernel_rfl):Ev :=
  ⟨r,i,c.getD o undef,none,loadT P h t (.pointer (some ⟨b,o,none⟩))=some (c.getD o undef),load_at o ht f q⟩
def evCb (r i o:Nat) (ht:isAggA P t=some false) (f:h[b]?=some (.cells c e fr)) {x y:Bool} (hc:x=y) (q:decide (o < c.size)=true:=by kernel_rfl) (w:c.getD o undef=.bool x:=by kernel_rfl):Ev :=
  ⟨r,i,.bool y,none,loadT P h t (.pointer (some ⟨b,o,none⟩))=some (.bool y),by rw [← hc,← w]; exact load_at o ht f q⟩
theorem store_at {u:Value} (o:Nat) (hi:(P.info? t).map (·.size)=some n) (f:h[b]?=some (.cells c e fr)) (w:h1=h.setIfInBounds b (.cells d e fr))
    (q:(decide (u.cells.size=n) && decide (fr.2≤fr.1) && decide (o + n≤c.size) && u.cells.toList.all (·.oneCell'))=true) (hd:splice c o u.cells.toList=d):storeT P h t (.pointer (some ⟨b,o,none⟩)) u=some h1∧undef=undef:=by
  simp only [Bool.and_eq_true,decide_eq_true_eq] at q
  rw [w]
  exact ⟨store_cells hi q.1.1.1 f q.1.1.2 q.1.2 q.2 hd,rfl⟩
def evT (r i o:Nat) (hi:(P.info? t).map (·.size)=some n) (f:h[b]?=some (.cells c e fr)) (w:h1=h.setIfInBounds b (.cells d e fr))
    (q:(decide ((d.getD o undef).cells.size=n) && decide (fr.2≤fr.1) && decide (o + n≤c.size) && (d.getD o undef).cells.toList.all (·.oneCell'))=true:=by kernel_rfl) (hd:splice c o (d.getD o undef).cells.toList=d:=by kernel_rfl):Ev :=
  ⟨r,i,undef,some h1,storeT P h t (.pointer (some ⟨b,o,none⟩)) (d.getD o undef)=some h1∧undef=undef,store_at o hi f w q hd⟩
def evU (r i o:Nat) (hi:(P.info? t).map (·.size)=some n) (f:h[b]?=some (.cells c e fr)) (w:h1=h.setIfInBounds b (.cells d e fr))
    (q:(decide ((Value.agg (d.extract o (o + n))).cells.size=n) && decide (fr.2≤fr.1) && decide (o + n≤c.size) && (Value.agg (d.extract o (o + n))).cells.toList.all (·.oneCell'))=true:=by kernel_rfl) (hd:splice c o (Value.agg (d.extract o (o + n))).cells.toList=d:=by kernel_rfl):Ev :=
  ⟨r,i,undef,some h1,storeT P h t (.pointer (some ⟨b,o,none⟩)) (.agg (d.extract o (o + n)))=some h1∧undef=undef,store_at o hi f w q hd⟩
theorem whole {c:Array Value} {n:Nat} (q:decide (c.size=n)=true):c.extract 0 (0 + n)=c:=by
  have w:=of_decide_eq_true q
  subst w
  simp
def evLw (r i:Nat) (ht:isAggA P t=some true) (hi:(P.info? t).map (·.size)=some n) (f:h[b]?=some (.cells c e fr)) (q:decide (c.size=n)=true:=by kernel_rfl):Ev :=
  ⟨r,i,.agg c,none,loadT P h t (.pointer (some ⟨b,0,none⟩))=some (.agg c),load_agg ht hi f (by have:=of_decide_eq_true q; omega) (whole q)⟩
theorem splice_whole {c d:Array Value} (q:c.size=d.size):splice c 0 d.toList=d:=by
  apply Array.ext_getElem?
  intro j
  rw [splice_get _ _ _ _ (by simp; omega)]
  split
  · simp
  · rename_i hj
    simp only [Nat.zero_le,Nat.zero_add,Array.length_toList,true_and,Nat.not_lt] at hj
    rw [Array.getElem?_eq_none (by omega),Array.getElem?_eq_none hj]
def evUw (r i:Nat) (hi:(P.info? t).map (·.size)=some n) (f:h[b]?=some (.cells c e fr)) (w:h1=h.setIfInBounds b (.cells d e fr))
    (q:(decide (c.size=n) && decide (d.size=n) && decide (fr.2≤fr.1) && d.toList.all (·.oneCell'))=true:=by kernel_rfl):Ev :=
  ⟨r,i,undef,some h1,storeT P h t (.pointer (some ⟨b,0,none⟩)) (.agg d)=some h1∧undef=undef,by
    simp only [Bool.and_eq_true,decide_eq_true_eq] at q
    exact store_at 0 hi f w (by
      have e:(Value.agg d).cells=d:=rfl
      rw [e]
      simp only [Bool.and_eq_true,decide_eq_true_eq]
      exact ⟨⟨⟨q.1.1.2,q.1.2⟩,by have:=q.1.1.1; omega⟩,q.2⟩) (splice_whole (q.1.1.1.trans q.1.1.2.symm))⟩
def evM (r i:Nat) {x y:Bool} (hc:x=y):Ev:=⟨r,i,.bool y,none,Value.bool y=.bool x,by rw [hc]⟩
def evN (r i:Nat) {x y:Bool} (hc:x=y):Ev:=⟨r,i,.bool (!y),none,Value.bool (!y)=.bool (!x),by rw [hc]⟩
def evQ (r i:Nat) {o:BinOp} {x y v:Value} (q:binA P o t x y=some v):Ev:=⟨r,i,v,none,binA P o t x y=some v,q⟩
def evG (r i:Nat) {x y v:Value} (q:indexAddrA P t x y=some v):Ev:=⟨r,i,v,none,indexAddrA P t x y=some v,q⟩
def evI (r i:Nat) {x y v:Value} (q:indexA P t x y=some v):Ev:=⟨r,i,v,none,indexA P t x y=some v,q⟩
def evO (r i:Nat) {x v:Value} (q:loadT P h t x=some v):Ev:=⟨r,i,v,none,loadT P h t x=some v,q⟩
def evP (r i:Nat) {ts:Array TypeId} {as:Array Value} {v:Value} (q:appendA P h ts as=some (v,h1)):Ev:=⟨r,i,v,some h1,appendA P h ts as=some (v,h1),q⟩
def evF (r i:Nat) {f:FuncId} {as:Array Value} {v:Value} (q:SoundCall P f as h v h1):Ev:=⟨r,i,v,some h1,SoundCall P f as h v h1,q⟩
def evFb (r i:Nat) {f:FuncId} {as:Array Value} {x y:Bool} (hc:x=y) (q:SoundCall P f as h (.bool x) h1):Ev:=⟨r,i,.bool y,some h1,SoundCall P f as h (.bool y) h1,hc ▸ q⟩
def evFe (r i:Nat) {f:FuncId} {as:Array Value} {x y:Value} (hc:x=y) (q:SoundCall P f as h x h1):Ev:=⟨r,i,y,some h1,SoundCall P f as h y h1,hc ▸ q⟩
def evFi (r i:Nat) {f:FuncId} {as:Array Value} {k:IntKind} {x y:Int} (hc:x=y) (q:SoundCall P f as h (.int k x) h1):Ev:=⟨r,i,.int k y,some h1,SoundCall P f as h (.int k y) h1,hc ▸ q⟩
def evFt (r i:Nat) {f:FuncId} {as:Array Value} {x:Prop} [Decidable x] (hc:x) (q:SoundCall P f as h (.bool (decide x)) h1):Ev:=⟨r,i,.bool true,some h1,SoundCall P f as h (.bool true) h1,decide_eq_true hc ▸ q⟩
def evFf (r i:Nat) {f:FuncId} {as:Array Value} {x:Prop} [Decidable x] (hc:¬ x) (q:SoundCall P f as h (.bool (decide x)) h1):Ev:=⟨r,i,.bool false,some h1,SoundCall P f as h (.bool false) h1,decide_eq_false hc ▸ q⟩
end
section
variable {P : Program} {k : IntKind} {a b : Int} (r i t : Nat)
def eqT (c:a=b):Ev:=evQ (P:=P) (t:=t) r i (cmp_eql (k:=k) (decide_eq_true c))
def eqF (c:¬ a=b):Ev:=evQ (P:=P) (t:=t) r i (cmp_eql (k:=k) (decide_eq_false c))
def neT (c:¬ a=b):Ev:=evQ (P:=P) (t:=t) r i (cmp_neq (k:=k) (decide_eq_true c))
def neF (c:a=b):Ev:=evQ (P:=P) (t:=t) r i (cmp_neq (k:=k) (decide_eq_false (not_not_intro c)))
def ltT (c:a < b):Ev:=evQ (P:=P) (t:=t) r i (cmp_lss (k:=k) (decide_eq_true c))
def ltF (c:¬ a < b):Ev:=evQ (P:=P) (t:=t) r i (cmp_lss (k:=k) (decide_eq_false c))
def leT (c:a≤b):Ev:=evQ (P:=P) (t:=t) r i (cmp_leq (k:=k) (decide_eq_true c))
def leF (c:¬ a≤b):Ev:=evQ (P:=P) (t:=t) r i (cmp_leq (k:=k) (decide_eq_false c))
def gtT (c:b < a):Ev:=evQ (P:=P) (t:=t) r i (cmp_gtr (k:=k) (decide_eq_true c))
def gtF (c:¬ b < a):Ev:=evQ (P:=P) (t:=t) r i (cmp_gtr (k:=k) (decide_eq_false c))
def geT (c:b≤a):Ev:=evQ (P:=P) (t:=t) r i (cmp_geq (k:=k) (decide_eq_true c))
def geF (c:¬ b≤a):Ev:=evQ (P:=P) (t:=t) r i (cmp_geq (k:=k) (decide_eq_false c))
end
end Go.AM
