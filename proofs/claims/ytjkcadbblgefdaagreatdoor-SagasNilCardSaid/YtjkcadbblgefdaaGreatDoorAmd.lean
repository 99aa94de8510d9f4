/- An abstract machine for Go, part 4: operations on values. -/
import Derived.Test.YtjkcadbblgefdaaGreatDoorAmc
import Derived.Laws.StructEq
import Derived.Laws.Tables
import Derived.Laws.Small
import Derived.Laws.Pointers
import Derived.Laws.Cover3
import Derived.WalkSpells
namespace Go.AM

section defs
variable (P : Program)

/-- A value of one cell in which no address stands. -/
def flatC : Value → Bool
  | .bool _ | .int .. | .float .. | .complex .. | .string _ | .pointer none | .slice none _ _ | .map none | .nilFunc | .nilIface => true
  | .func (.func _) f c => f.isEmpty && c.isEmpty
  | _ => false
def flatV : Value → Bool
  | .agg cs => cs.all flatC
  | v => flatC v

def zeroA (t : TypeId) : Option Value :=
  match P.info? t with
  | some i => match i.zero with
    | some z => if flatV z then some z else none
    | none => none
  | none => none

def isAggA (t : TypeId) : Option Bool :=
  match P.underlying t with
  | some (.struct _) | some (.array _ _) => some true
  | some _ => some false
  | none => none

def partA (t : TypeId) (cs : Array Value) (off : Nat) : Option Value :=
  match isAggA P t with
  | some true => match P.info? t with
    | some i => some (.agg (cs.extract off (off + i.size)))
    | none => none
  | some false => cs[off]?
  | none => none

def eqFieldsA (eq : TypeId → Value → Value → Option Bool) (xs ys : Array Value) : List Field → Option Bool
  | [] => some true
  | f :: fs =>
    if f.name ≠ "_" then
      match partA P f.type xs f.offset, partA P f.type ys f.offset with
      | some a, some b => match eq f.type a b with
        | some true => eqFieldsA eq xs ys fs
        | some false => some false
        | none => none
      | _, _ => none
    else eqFieldsA eq xs ys fs

/-- x == y, of type t. -/
def eqA : Nat → TypeId → Value → Value → Option Bool
  | 0, _, _, _ => none
  | d + 1, t, x, y =>
    match P.underlying t, x, y with
    | some .bool, .bool a, .bool b => some (a == b)
    | some (.int _), .int k a, .int k' b => if k = k' then some (a == b) else none
    | some .string, .string a, .string b => some (a == b)
    | some (.pointer _), .pointer none, .pointer b => some b.isNone
    | some (.pointer _), .pointer (some _), .pointer none => some false
    | some (.slice _), .slice none _ _, .slice b _ _ => some b.isNone
    | some (.slice _), .slice (some _) _ _, .slice none _ _ => some false
    | some (.map _ _), .map none, .map b => some b.isNone
    | some (.map _ _), .map (some _), .map none => some false
    | some (.func _ _ _), .nilFunc, .nilFunc => some true
    | some (.func _ _ _), .nilFunc, .func _ _ _ => some false
    | some (.func _ _ _), .func _ _ _, .nilFunc => some false
    | some (.struct fields), .agg xs, .agg ys => if P.stoodInHeld t then none else eqFieldsA P (eqA d) xs ys fields.toList
    | _, _, _ => none

def intBinA (op : BinOp) (k : IntKind) (a b : Int) : Option Value :=
  match op with
  | .add => some (.int k (k.wrap (a + b)))
  | .sub => some (.int k (k.wrap (a - b)))
  | .mul => some (.int k (k.wrap (a * b)))
  | .quo => if b = 0 then none else some (.int k (k.wrap (a.tdiv b)))
  | .rem => if b = 0 then none else some (.int k (a.tmod b))
  | .and => some (.int k (k.wrap (BitVec.ofInt k.bits a &&& BitVec.ofInt k.bits b).toNat))
  | .or => some (.int k (k.wrap (BitVec.ofInt k.bits a ||| BitVec.ofInt k.bits b).toNat))
  | .xor => some (.int k (k.wrap (BitVec.ofInt k.bits a ^^^ BitVec.ofInt k.bits b).toNat))
  | .andNot => some (.int k (k.wrap (BitVec.ofInt k.bits a &&& ~~~BitVec.ofInt k.bits b).toNat))
  | .eql => some (.bool (a == b))
  | .neq => some (.bool (a != b))
  | .lss => some (.bool (decide (a < b)))
  | .leq => some (.bool (decide (a ≤ b)))
  | .gtr => some (.bool (decide (a > b)))
  | .geq => some (.bool (decide (a ≥ b)))
  | _ => none

def shiftA (op : BinOp) (k : IntKind) (a b : Int) : Option Value :=
  if b < 0 then none else
  match op with
  | .shl => some (.int k (k.wrap (a * 2 ^ (min b.toNat k.bits))))
  | .shr => some (.int k (a.fdiv (2 ^ (min b.toNat k.bits))))
  | _ => none

def strBinA (op : BinOp) (x y : ByteArray) : Option Value :=
  match op with
  | .add => if ((x.size + y.size : Nat) : Int) > IntKind.i64.max then none else some (.string (x ++ y))
  | .eql => some (.bool (x.toList == y.toList))
  | .neq => some (.bool !(x.toList == y.toList))
  | .lss => some (.bool (Op.bytesLess x.toList y.toList))
  | .leq => some (.bool (Op.bytesLess x.toList y.toList || x.toList == y.toList))
  | .gtr => some (.bool !(Op.bytesLess x.toList y.toList || x.toList == y.toList))
  | .geq => some (.bool !Op.bytesLess x.toList y.toList)
  | _ => none

def eqGuardA (t : TypeId) (x y : Value) : Bool :=
  match x, y with
  | .agg _, .agg _ => !P.eqGuardType P.depth t
  | .nilIface, .nilIface => false
  | _, _ => true

/-- Not a number and not a string. -/
def eqKind : Value → Bool
  | .int .. | .float .. | .complex .. | .string _ | .iface .. => false
  | _ => true

def binA (op : BinOp) (t : TypeId) (x y : Value) : Option Value :=
  match x, y with
  | .int k a, .int k' b => if op = .shl ∨ op = .shr then shiftA op k a b else if k = k' then intBinA op k a b else none
  | .string a, .string b => strBinA op a b
  | x, y =>
    match op with
    | .eql => if eqKind x = true ∧ eqGuardA P t x y = true then (eqA P 8 t x y).map .bool else none
    | .neq => if eqKind x = true ∧ eqGuardA P t x y = true then (eqA P 8 t x y).map fun b => .bool (!b) else none
    | _ => none

def unA (op : UnOp) (x : Value) : Option Value :=
  match op, x with
  | .neg, .int k n => some (.int k (k.wrap (0 - n)))
  | .xor, .int k n => some (.int k (k.wrap (BitVec.ofInt k.bits (if k.signed then -1 else k.max) ^^^ BitVec.ofInt k.bits n).toNat))
  | .not, .bool b => some (.bool !b)
  | _, _ => none

def convA (src dst : TypeId) (x : Value) : Option Value :=
  match P.underlying src, P.underlying dst, x with
  | some _, some (.int k), .int _ n => some (.int k (k.wrap n))
  | some _, some .string, .string s => some (.string s)
  | _, _, _ => none

def max2A : Value → Value → Option Value
  | .int k a, .int _ b => some (.int k (if b > a then b else a))
  | .string a, .string b => some (.string (if !Op.bytesLess a.toList b.toList then a else b))
  | _, _ => none
def min2A : Value → Value → Option Value
  | .int k a, .int _ b => some (.int k (if b < a then b else a))
  | .string a, .string b => some (.string (if Op.bytesLess a.toList b.toList || a.toList == b.toList then a else b))
  | _, _ => none
def maxA : List Value → Option Value
  | [] => none
  | x :: rest => rest.foldlM max2A x
def minA : List Value → Option Value
  | [] => none
  | x :: rest => rest.foldlM min2A x
end defs

section sims
variable {P : Program} {R : Ren} {w : World}

theorem flatC_VR {v : Value} (h : flatC v = true) : VR R v v := by
  unfold flatC at h
  split at h
  case h_11 f first cap =>
    simp only [Bool.and_eq_true, Array.isEmpty_iff] at h
    obtain ⟨rfl, rfl⟩ := h
    rw [VR_func]
    exact ⟨_, _, _, rfl, rfl, ArrR.empty _, ArrR.empty _⟩
  all_goals simp_all

theorem flatC_eq {v v' : Value} (h : flatC v = true) (k : VR R v v') : v' = v := by
  unfold flatC at h
  split at h
  case h_11 f first cap =>
    simp only [Bool.and_eq_true, Array.isEmpty_iff] at h
    obtain ⟨rfl, rfl⟩ := h
    rw [VR_func] at k
    obtain ⟨f', first', cap', rfl, hf, h1, h2⟩ := k
    have e1 : first' = #[] := by have := h1.1; simpa using this
    have e2 : cap' = #[] := by have := h2.1; simpa using this
    simp only [FnR] at hf
    rw [e1, e2, hf]
  all_goals simp_all

theorem flatV_VR {v : Value} (h : flatV v = true) : VR R v v := by
  unfold flatV at h
  split at h
  · rename_i cs
    rw [VR_agg]
    refine ⟨cs, rfl, rfl, fun i u u' hu hu' => ?_⟩
    rw [hu] at hu'; cases hu'
    rw [Array.all_eq_true] at h
    obtain ⟨hi, e⟩ := Array.getElem?_eq_some_iff.1 hu
    have := h i hi
    rw [e] at this
    exact flatC_VR this
  · exact flatC_VR h

theorem zeroA_run {t : TypeId} {z : Value} (h : zeroA P t = some z) : (zeroValue t).run P w = .ok z w ∧ VR R z z ∧ ∃ i, P.info? t = some i ∧ i.zero = some z := by
  unfold zeroA at h
  split at h
  · rename_i i hi
    split at h
    · rename_i z0 hz
      split at h
      · rename_i hf
        cases h
        exact ⟨by simp [zeroValue, typeInfo, hi, hz], flatV_VR hf, i, hi, hz⟩
      · cases h
    · cases h
  · cases h

theorem isAggA_run {t : TypeId} {b : Bool} (h : isAggA P t = some b) : (isAgg t).run P w = .ok b w := by
  unfold isAggA at h
  split at h
  · rename_i fs hu; cases h; simp [isAgg, run_underlying hu]
  · rename_i n e hu; cases h; simp [isAgg, run_underlying hu]
  · rename_i d h1 h2 hu; cases h
    simp only [isAgg, Sem.run_bind, run_underlying hu, Result.andThen_ok]
    cases d <;> first | rfl | exact absurd rfl (h1 _) | exact absurd rfl (h2 _ _)
  · cases h

theorem partA_run {t : TypeId} {cs : Array Value} {off : Nat} {v : Value} (h : partA P t cs off = some v) : (part t cs off).run P w = .ok v w := by
  unfold partA at h
  split at h
  · rename_i ha
    split at h
    · rename_i i hi
      cases h
      simp [part, isAggA_run ha, sizeOf, typeInfo, hi]
    · cases h
  · rename_i ha
    simp [part, isAggA_run ha, h]
  · cases h

theorem partA_rel {t : TypeId} {cs cs' : Array Value} {off : Nat} {v : Value} (hr : ArrR (VR R) cs cs') (h : partA P t cs off = some v) : ∃ v', partA P t cs' off = some v' ∧ VR R v v' := by
  unfold partA at h ⊢
  split at h
  · split at h
    · cases h; exact ⟨_, rfl, by rw [VR_agg]; exact ⟨_, rfl, hr.extract _ _⟩⟩
    · cases h
  · obtain ⟨v', h1, h2⟩ := hr.get h
    exact ⟨v', h1, h2⟩
  · cases h

theorem eqFieldsA_sim {eq : TypeId → Value → Value → Option Bool} {D : Nat}
    (ih : ∀ t x y b x' y' w, eq t x y = some b → VR R x x' → VR R y y' → (Op.equalIn D t x' y').run P w = .ok b w) {xs ys xs' ys' : Array Value} (hx : ArrR (VR R) xs xs') (hy : ArrR (VR R) ys ys') :
    ∀ (fs : List Field) (b : Bool), eqFieldsA P eq xs ys fs = some b → (Op.eqFields D xs' ys' fs).run P w = .ok b w
  | [], b, h => by simp [eqFieldsA] at h; simp [Op.eqFields, ← h]
  | f :: fs, b, h => by
    unfold eqFieldsA at h
    simp only [Op.eqFields, Sem.run_ite]
    split at h
    · rename_i hn
      rw [if_pos hn]
      split at h
      · rename_i a c ha hc
        obtain ⟨a', ha', ra⟩ := partA_rel hx ha
        obtain ⟨c', hc', rc⟩ := partA_rel hy hc
        simp only [Sem.run_bind, partA_run ha', partA_run hc', Result.andThen_ok]
        split at h
        · rename_i he
          rw [ih _ _ _ _ _ _ _ he ra rc]
          simpa using eqFieldsA_sim ih hx hy fs b h
        · rename_i he
          cases h
          rw [ih _ _ _ _ _ _ _ he ra rc]
          simp
        · cases h
      · cases h
    · rename_i hn
      rw [if_neg hn]
      exact eqFieldsA_sim ih hx hy fs b h

theorem eqA_sim : ∀ (d D : Nat) (t : TypeId) (x y : Value) (b : Bool) (x' y' : Value) (w : World), d ≤ D → eqA P d t x y = some b → VR R x x' → VR R y y' → (Op.equalIn D t x' y').run P w = .ok b w := by
  intro d
  induction d with
  | zero => intro D t x y b x' y' w _ h; simp [eqA] at h
  | succ d ih =>
    intro D t x y b x' y' w hD h rx ry
    obtain ⟨D, rfl⟩ : ∃ D', D = D' + 1 := ⟨D - 1, by omega⟩
    unfold eqA at h
    split at h
    · rename_i hu; cases h; simp at rx ry; subst rx ry; simp [Op.equalIn, run_underlying hu]
    · rename_i hu
      split at h
      · rename_i e; cases h; simp at rx ry; subst rx ry e; simp [Op.equalIn, run_underlying hu]
      · cases h
    · rename_i hu; cases h; simp at rx ry; subst rx ry; simp [Op.equalIn, run_underlying hu]
    · rename_i p hu; cases h; simp at rx; subst rx
      cases p <;> simp at ry
      · subst ry; simp [Op.equalIn, run_underlying hu]
      · obtain ⟨_, rfl, _⟩ := ry; simp [Op.equalIn, run_underlying hu]
    · rename_i hu; cases h; simp at rx ry; obtain ⟨_, rfl, _⟩ := rx; subst ry; simp [Op.equalIn, run_underlying hu]
    · rename_i p _ _ hu; cases h; simp at rx; subst rx
      cases p <;> simp at ry
      · subst ry; simp [Op.equalIn, run_underlying hu]
      · obtain ⟨_, _, rfl, _⟩ := ry; simp [Op.equalIn, run_underlying hu]
    · rename_i hu; cases h; simp at rx ry; obtain ⟨_, _, rfl, _⟩ := rx; subst ry; simp [Op.equalIn, run_underlying hu]
    · rename_i p hu; cases h; simp at rx; subst rx
      cases p <;> simp at ry
      · subst ry; simp [Op.equalIn, run_underlying hu]
      · obtain ⟨_, rfl, _⟩ := ry; simp [Op.equalIn, run_underlying hu]
    · rename_i hu; cases h; simp at rx ry; obtain ⟨_, rfl, _⟩ := rx; subst ry; simp [Op.equalIn, run_underlying hu]
    · rename_i hu; cases h; simp at rx ry; subst rx ry; simp [Op.equalIn, run_underlying hu]
    · rename_i hu; cases h; rw [VR_nilfunc] at rx; rw [VR_func] at ry; subst rx; obtain ⟨_, _, _, rfl, _⟩ := ry; simp [Op.equalIn, run_underlying hu]
    · rename_i hu; cases h; rw [VR_nilfunc] at ry; rw [VR_func] at rx; subst ry; obtain ⟨_, _, _, rfl, _⟩ := rx; simp [Op.equalIn, run_underlying hu]
    · rename_i fields xs ys hu
      split at h
      · cases h
      · rename_i hst
        rw [VR_agg] at rx ry
        obtain ⟨xs', rfl, hx⟩ := rx
        obtain ⟨ys', rfl, hy⟩ := ry
        have hf : P.fieldsOf t = fields := by simp [Program.fieldsOf, hu]
        rw [run_equalIn_struct w D t xs' ys' (by rw [hf]; exact hu) (by simpa using hst), hf]
        exact eqFieldsA_sim (fun t x y b x' y' w h1 h2 h3 => ih D t x y b x' y' w (by omega) h1 h2 h3) hx hy _ b h
    · cases h
end sims
end Go.AM
