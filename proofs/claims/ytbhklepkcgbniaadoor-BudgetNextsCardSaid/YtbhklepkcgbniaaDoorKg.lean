/- What is checked of budgets. -/
import Derived.Test.YtbhklepkcgbniaaDoorKf
import Derived.KernelRfl
open Go Go.AM Go.Proofs
namespace C27
theorem agg24 : isAggA Tryd.prog 24 = some true := by kernel_rfl
theorem agg28 : isAggA Tryd.prog 28 = some true := by kernel_rfl
theorem agg69 : isAggA Tryd.prog 69 = some false := by kernel_rfl
theorem size24 : (Tryd.prog.info? 24).map (·.size) = some 4 := by kernel_rfl
theorem size28 : (Tryd.prog.info? 28).map (·.size) = some 2 := by kernel_rfl
def budB (t b : Int) : Bool := decide (0 ≤ t ∧ t ≤ 21 ∧ 0 ≤ b ∧ b ≤ 2147483648)
def timB (n : Int) : Bool := decide (0 ≤ n ∧ n ≤ 2147483648)
/-- The first error of a budget, a definition and a time. -/
def chkE (bb db tb : Bool) : Int := if bb = true then (if db = true then (if tb = true then 0 else 2) else 15) else 2
section
variable {bb db tb : Bool}
theorem chk1 (c : ¬ (if bb = true then (0 : Int) else 2) = 0) : (if bb = true then (0 : Int) else 2) = chkE bb db tb := by cases bb <;> simp [chkE] at *
theorem chk2 (c1 : (if bb = true then (0 : Int) else 2) = 0) (c2 : ¬ (if db = true then (0 : Int) else 15) = 0) : (if db = true then (0 : Int) else 15) = chkE bb db tb := by cases bb <;> cases db <;> simp [chkE] at *
theorem chk3 (c1 : (if bb = true then (0 : Int) else 2) = 0) (c2 : (if db = true then (0 : Int) else 15) = 0) (c3 : ¬ (if tb = true then (0 : Int) else 2) = 0) : (if tb = true then (0 : Int) else 2) = chkE bb db tb := by cases bb <;> cases db <;> cases tb <;> simp [chkE] at *
theorem chk4 (c1 : (if bb = true then (0 : Int) else 2) = 0) (c2 : (if db = true then (0 : Int) else 15) = 0) (c3 : (if tb = true then (0 : Int) else 2) = 0) : (0 : Int) = chkE bb db tb := by cases bb <;> cases db <;> cases tb <;> simp [chkE] at *
theorem chk0 : (if true = true then (0 : Int) else 2) = 0 := rfl
theorem chkE_zero (h : chkE bb db tb = 0) : bb = true ∧ db = true ∧ tb = true := by cases bb <;> cases db <;> cases tb <;> simp [chkE] at *
end
theorem budB_of {t b : Int} (h : budB t b = true) : 0 ≤ t ∧ t ≤ 21 ∧ 0 ≤ b ∧ b ≤ 2147483648 := of_decide_eq_true h
theorem timB_of {n : Int} (h : timB n = true) : 0 ≤ n ∧ n ≤ 2147483648 := of_decide_eq_true h
theorem defB_of {d : DefM} (h : defB d = true) : 0 ≤ d.rt ∧ d.rt ≤ 20 ∧ 0 ≤ d.dl ∧ d.dl ≤ 100000 ∧ 1 ≤ d.xs.length ∧ d.xs.length ≤ 8 := by
  unfold defB at h
  simp only [Bool.and_eq_true] at h
  exact of_decide_eq_true h.1.2
theorem max_ite {a b : Int} : (if b > a then b else a) = max a b := by rw [Int.max_def]; split <;> split <;> omega
def lateM (t b : Int) (d : DefM) (n : Int) : Bool := decide (chkE (budB t b) (defB d) (timB n) = 0 ∧ 0 < d.dl ∧ d.dl ≤ n - b)
def whenV (t b : Int) (d : DefM) : Int := if chkE (budB t b) (defB d) true = 0 ∧ ¬ d.dl = 0 then b + d.dl else 0
def whenB (t b : Int) (d : DefM) : Bool := decide (chkE (budB t b) (defB d) true = 0 ∧ ¬ d.dl = 0)
def leftV (t b : Int) (d : DefM) : Int := if chkE (budB t b) (defB d) true = 0 then max 0 (d.rt - t) else 0
def agE (t b : Int) (d : DefM) (n : Int) : Int := if chkE (budB t b) (defB d) (timB n) = 0 then (if d.rt < t then 9 else 0) else chkE (budB t b) (defB d) (timB n)
def agB (t b : Int) (d : DefM) (n : Int) : Bool := decide (agE t b d n = 0 ∧ t + 1 ≤ d.rt ∧ lateM t b d n = false)
def agT (t b : Int) (d : DefM) (n : Int) : Int := if agE t b d n = 0 then t + 1 else 0
def agS (t b : Int) (d : DefM) (n : Int) : Int := if agE t b d n = 0 then b else 0
def stS (d : DefM) (n : Int) : Int := if chkE true (defB d) (timB n) = 0 then n else 0
set_option maxHeartbeats 4000000 in
theorem arg_yes (h : Heap)  : WCall Tryd.prog 34 #[(vB true)] h (fun v h1 => v = .int .i64 0 ∧ h = h1) := by
  exact hCall_of (n := 200) (T := ⟨fun r i => match r, i with | _, _ => none, fun _ => none, none⟩)
    (A := (fun v h1 => v = .int .i64 0 ∧ h = h1) (vI 0) h) (by kernel_rfl) ⟨rfl, rfl⟩
set_option maxHeartbeats 4000000 in
theorem arg_no (h : Heap)  : WCall Tryd.prog 34 #[(vB false)] h (fun v h1 => v = .int .i64 2 ∧ h = h1) := by
  exact hCall_of (n := 200) (T := ⟨fun r i => match r, i with | _, _ => none, fun _ => none, none⟩)
    (A := (fun v h1 => v = .int .i64 2 ∧ h = h1) (vI 2) h) (by kernel_rfl) ⟨rfl, rfl⟩
set_option maxHeartbeats 4000000 in
theorem bcheck_ok (h : Heap) (t b : Int) : WCall Tryd.prog 21 #[(Value.agg #[(vI (t)), (vI (b))])] h (fun v h1 => v = .int .i64 (if budB t b = true then 0 else 2) ∧ Ext h h1) := by
  obtain ⟨b354, eb355⟩ : ∃ zq, zq = h.size := ⟨_, rfl⟩
  obtain ⟨h352, e353⟩ : ∃ zq, zq = h.push (.cells #[(vI (t)), (vI (b))] 28 (0, 0)) := ⟨_, rfl⟩
  have f356 := push_new e353
  rw [← eb355] at f356
  have x357 : Ext h h352 := by rw [e353]; exact Ext.push _ _
  have o358 : h.size ≤ b354 := by have := (Ext.refl h).size; omega
  have x359 := (Ext.refl h).trans x357
  by_cases c360 : (0 : Int) ≤ (t)
  · by_cases c361 : ((t) : Int) ≤ 21
    · by_cases c362 : (0 : Int) ≤ (b)
      · by_cases c363 : ((b) : Int) ≤ 2147483648
        · obtain ⟨_, _, sn365, rfl, rfl⟩ := arg_yes h352
          exact hCall_of (n := 200) (T := ⟨fun r i => match r, i with | 0, 0 => some ((vP b354 0), h352) | 1, 1 => some ((vI t), h352) | 1, 2 => some ((vB true), h352) | 1, 5 => some ((vI t), h352) | 1, 6 => some ((vB true), h352) | 1, 10 => some ((vI b), h352) | 1, 11 => some ((vB true), h352) | 1, 15 => some ((vI b), h352) | 1, 16 => some ((vB true), h352) | 1, 18 => some ((vI 0), h352) | _, _ => none, fun _ => none, none⟩)
            (A := ((vP b354 0) = (Value.pointer (some ⟨h.size, 0, none⟩)) ∧ h352 = h.push (.cells #[(vI t), (vI b)] 28 (0, 0))) ∧ (loadT Tryd.prog h352 3 (vP b354 0) = some (vI t) ∧ h352 = h352) ∧ (binA Tryd.prog .geq 3 (vI t) (vI 0) = some (vB true) ∧ h352 = h352) ∧ (loadT Tryd.prog h352 3 (vP b354 0) = some (vI t) ∧ h352 = h352) ∧ (binA Tryd.prog .leq 3 (vI t) (vI 21) = some (vB true) ∧ h352 = h352) ∧ (loadT Tryd.prog h352 3 (vP b354 1) = some (vI b) ∧ h352 = h352) ∧ (binA Tryd.prog .geq 3 (vI b) (vI 0) = some (vB true) ∧ h352 = h352) ∧ (loadT Tryd.prog h352 3 (vP b354 1) = some (vI b) ∧ h352 = h352) ∧ (binA Tryd.prog .leq 3 (vI b) (vI 2147483648) = some (vB true) ∧ h352 = h352) ∧ SoundCall Tryd.prog 34 #[(vB true)] h352 (vI 0) h352 ∧ (fun v h1 => v = .int .i64 (if budB t b = true then 0 else 2) ∧ Ext h h1) (vI 0) h352) (by kernel_rfl) ⟨⟨by rw [eb355], e353⟩, ⟨load_cell agg3 f356 rfl, rfl⟩, ⟨cmp_geq (decide_eq_true c360), rfl⟩, ⟨load_cell agg3 f356 rfl, rfl⟩, ⟨cmp_leq (decide_eq_true c361), rfl⟩, ⟨load_cell agg3 f356 rfl, rfl⟩, ⟨cmp_geq (decide_eq_true c362), rfl⟩, ⟨load_cell agg3 f356 rfl, rfl⟩, ⟨cmp_leq (decide_eq_true c363), rfl⟩, sn365, ⟨by rw [if_pos (by unfold budB; simp only [decide_eq_true_eq]; omega)], x359⟩⟩
        · obtain ⟨_, _, sn368, rfl, rfl⟩ := arg_no h352
          exact hCall_of (n := 200) (T := ⟨fun r i => match r, i with | 0, 0 => some ((vP b354 0), h352) | 1, 1 => some ((vI t), h352) | 1, 2 => some ((vB true), h352) | 1, 5 => some ((vI t), h352) | 1, 6 => some ((vB true), h352) | 1, 10 => some ((vI b), h352) | 1, 11 => some ((vB true), h352) | 1, 15 => some ((vI b), h352) | 1, 16 => some ((vB false), h352) | 1, 18 => some ((vI 2), h352) | _, _ => none, fun _ => none, none⟩)
            (A := ((vP b354 0) = (Value.pointer (some ⟨h.size, 0, none⟩)) ∧ h352 = h.push (.cells #[(vI t), (vI b)] 28 (0, 0))) ∧ (loadT Tryd.prog h352 3 (vP b354 0) = some (vI t) ∧ h352 = h352) ∧ (binA Tryd.prog .geq 3 (vI t) (vI 0) = some (vB true) ∧ h352 = h352) ∧ (loadT Tryd.prog h352 3 (vP b354 0) = some (vI t) ∧ h352 = h352) ∧ (binA Tryd.prog .leq 3 (vI t) (vI 21) = some (vB true) ∧ h352 = h352) ∧ (loadT Tryd.prog h352 3 (vP b354 1) = some (vI b) ∧ h352 = h352) ∧ (binA Tryd.prog .geq 3 (vI b) (vI 0) = some (vB true) ∧ h352 = h352) ∧ (loadT Tryd.prog h352 3 (vP b354 1) = some (vI b) ∧ h352 = h352) ∧ (binA Tryd.prog .leq 3 (vI b) (vI 2147483648) = some (vB false) ∧ h352 = h352) ∧ SoundCall Tryd.prog 34 #[(vB false)] h352 (vI 2) h352 ∧ (fun v h1 => v = .int .i64 (if budB t b = true then 0 else 2) ∧ Ext h h1) (vI 2) h352) (by kernel_rfl) ⟨⟨by rw [eb355], e353⟩, ⟨load_cell agg3 f356 rfl, rfl⟩, ⟨cmp_geq (decide_eq_true c360), rfl⟩, ⟨load_cell agg3 f356 rfl, rfl⟩, ⟨cmp_leq (decide_eq_true c361), rfl⟩, ⟨load_cell agg3 f356 rfl, rfl⟩, ⟨cmp_geq (decide_eq_true c362), rfl⟩, ⟨load_cell agg3 f356 rfl, rfl⟩, ⟨cmp_leq (decide_eq_false c363), rfl⟩, sn368, ⟨by rw [if_neg (by unfold budB; simp only [decide_eq_true_eq]; omega)], x359⟩⟩
      · obtain ⟨_, _, sn371, rfl, rfl⟩ := arg_no h352
        exact hCall_of (n := 200) (T := ⟨fun r i => match r, i with | 0, 0 => some ((vP b354 0), h352) | 1, 1 => some ((vI t), h352) | 1, 2 => some ((vB true), h352) | 1, 5 => some ((vI t), h352) | 1, 6 => some ((vB true), h352) | 1, 10 => some ((vI b), h352) | 1, 11 => some ((vB false), h352) | 1, 18 => some ((vI 2), h352) | _, _ => none, fun _ => none, none⟩)
          (A := ((vP b354 0) = (Value.pointer (some ⟨h.size, 0, none⟩)) ∧ h352 = h.push (.cells #[(vI t), (vI b)] 28 (0, 0))) ∧ (loadT Tryd.prog h352 3 (vP b354 0) = some (vI t) ∧ h352 = h352) ∧ (binA Tryd.prog .geq 3 (vI t) (vI 0) = some (vB true) ∧ h352 = h352) ∧ (loadT Tryd.prog h352 3 (vP b354 0) = some (vI t) ∧ h352 = h352) ∧ (binA Tryd.prog .leq 3 (vI t) (vI 21) = some (vB true) ∧ h352 = h352) ∧ (loadT Tryd.prog h352 3 (vP b354 1) = some (vI b) ∧ h352 = h352) ∧ (binA Tryd.prog .geq 3 (vI b) (vI 0) = some (vB false) ∧ h352 = h352) ∧ SoundCall Tryd.prog 34 #[(vB false)] h352 (vI 2) h352 ∧ (fun v h1 => v = .int .i64 (if budB t b = true then 0 else 2) ∧ Ext h h1) (vI 2) h352) (by kernel_rfl) ⟨⟨by rw [eb355], e353⟩, ⟨load_cell agg3 f356 rfl, rfl⟩, ⟨cmp_geq (decide_eq_true c360), rfl⟩, ⟨load_cell agg3 f356 rfl, rfl⟩, ⟨cmp_leq (decide_eq_true c361), rfl⟩, ⟨load_cell agg3 f356 rfl, rfl⟩, ⟨cmp_geq (decide_eq_false c362), rfl⟩, sn371, ⟨by rw [if_neg (by unfold budB; simp only [decide_eq_true_eq]; omega)], x359⟩⟩
    · obtain ⟨_, _, sn374, rfl, rfl⟩ := arg_no h352
      exact hCall_of (n := 200) (T := ⟨fun r i => match r, i with | 0, 0 => some ((vP b354 0), h352) | 1, 1 => some ((vI t), h352) | 1, 2 => some ((vB true), h352) | 1, 5 => some ((vI t), h352) | 1, 6 => some ((vB false), h352) | 1, 18 => some ((vI 2), h352) | _, _ => none, fun _ => none, none⟩)
        (A := ((vP b354 0) = (Value.pointer (some ⟨h.size, 0, none⟩)) ∧ h352 = h.push (.cells #[(vI t), (vI b)] 28 (0, 0))) ∧ (loadT Tryd.prog h352 3 (vP b354 0) = some (vI t) ∧ h352 = h352) ∧ (binA Tryd.prog .geq 3 (vI t) (vI 0) = some (vB true) ∧ h352 = h352) ∧ (loadT Tryd.prog h352 3 (vP b354 0) = some (vI t) ∧ h352 = h352) ∧ (binA Tryd.prog .leq 3 (vI t) (vI 21) = some (vB false) ∧ h352 = h352) ∧ SoundCall Tryd.prog 34 #[(vB false)] h352 (vI 2) h352 ∧ (fun v h1 => v = .int .i64 (if budB t b = true then 0 else 2) ∧ Ext h h1) (vI 2) h352) (by kernel_rfl) ⟨⟨by rw [eb355], e353⟩, ⟨load_cell agg3 f356 rfl, rfl⟩, ⟨cmp_geq (decide_eq_true c360), rfl⟩, ⟨load_cell agg3 f356 rfl, rfl⟩, ⟨cmp_leq (decide_eq_false c361), rfl⟩, sn374, ⟨by rw [if_neg (by unfold budB; simp only [decide_eq_true_eq]; omega)], x359⟩⟩
  · obtain ⟨_, _, sn377, rfl, rfl⟩ := arg_no h352
    exact hCall_of (n := 200) (T := ⟨fun r i => match r, i with | 0, 0 => some ((vP b354 0), h352) | 1, 1 => some ((vI t), h352) | 1, 2 => some ((vB false), h352) | 1, 18 => some ((vI 2), h352) | _, _ => none, fun _ => none, none⟩)
      (A := ((vP b354 0) = (Value.pointer (some ⟨h.size, 0, none⟩)) ∧ h352 = h.push (.cells #[(vI t), (vI b)] 28 (0, 0))) ∧ (loadT Tryd.prog h352 3 (vP b354 0) = some (vI t) ∧ h352 = h352) ∧ (binA Tryd.prog .geq 3 (vI t) (vI 0) = some (vB false) ∧ h352 = h352) ∧ SoundCall Tryd.prog 34 #[(vB false)] h352 (vI 2) h352 ∧ (fun v h1 => v = .int .i64 (if budB t b = true then 0 else 2) ∧ Ext h h1) (vI 2) h352) (by kernel_rfl) ⟨⟨by rw [eb355], e353⟩, ⟨load_cell agg3 f356 rfl, rfl⟩, ⟨cmp_geq (decide_eq_false c360), rfl⟩, sn377, ⟨by rw [if_neg (by unfold budB; simp only [decide_eq_true_eq]; omega)], x359⟩⟩
set_option maxHeartbeats 4000000 in
theorem rbcheck_ok (h : Heap) (t b : Int) : WCall Tryd.prog 22 #[(Value.agg #[(vI (t)), (vI (b))])] h (fun v h1 => v = .int .i64 (if budB t b = true then 0 else 2) ∧ Ext h h1) := by
  obtain ⟨b381, eb382⟩ : ∃ zq, zq = h.size := ⟨_, rfl⟩
  obtain ⟨h379, e380⟩ : ∃ zq, zq = h.push (.cells #[(vI (t)), (vI (b))] 32 (0, 0)) := ⟨_, rfl⟩
  have f383 := push_new e380
  rw [← eb382] at f383
  have x384 : Ext h h379 := by rw [e380]; exact Ext.push _ _
  have o385 : h.size ≤ b381 := by have := (Ext.refl h).size; omega
  have x386 := (Ext.refl h).trans x384
  by_cases c387 : ((t) : Int) < 0
  · exact hCall_of (n := 200) (T := ⟨fun r i => match r, i with | 0, 0 => some ((vP b381 0), h379) | 1, 1 => some ((vI t), h379) | 1, 2 => some ((vB true), h379) | _, _ => none, fun _ => none, none⟩)
      (A := ((vP b381 0) = (Value.pointer (some ⟨h.size, 0, none⟩)) ∧ h379 = h.push (.cells #[(vI t), (vI b)] 32 (0, 0))) ∧ (loadT Tryd.prog h379 3 (vP b381 0) = some (vI t) ∧ h379 = h379) ∧ (binA Tryd.prog .lss 3 (vI t) (vI 0) = some (vB true) ∧ h379 = h379) ∧ (fun v h1 => v = .int .i64 (if budB t b = true then 0 else 2) ∧ Ext h h1) (vI 2) h379) (by kernel_rfl) ⟨⟨by rw [eb382], e380⟩, ⟨load_cell agg3 f383 rfl, rfl⟩, ⟨cmp_lss (decide_eq_true c387), rfl⟩, ⟨by rw [if_neg (by unfold budB; simp only [decide_eq_true_eq]; omega)], x386⟩⟩
  · by_cases c388 : (21 : Int) < (t)
    · exact hCall_of (n := 200) (T := ⟨fun r i => match r, i with | 0, 0 => some ((vP b381 0), h379) | 1, 1 => some ((vI t), h379) | 1, 2 => some ((vB false), h379) | 1, 5 => some ((vI t), h379) | 1, 6 => some ((vB true), h379) | _, _ => none, fun _ => none, none⟩)
        (A := ((vP b381 0) = (Value.pointer (some ⟨h.size, 0, none⟩)) ∧ h379 = h.push (.cells #[(vI t), (vI b)] 32 (0, 0))) ∧ (loadT Tryd.prog h379 3 (vP b381 0) = some (vI t) ∧ h379 = h379) ∧ (binA Tryd.prog .lss 3 (vI t) (vI 0) = some (vB false) ∧ h379 = h379) ∧ (loadT Tryd.prog h379 3 (vP b381 0) = some (vI t) ∧ h379 = h379) ∧ (binA Tryd.prog .gtr 3 (vI t) (vI 21) = some (vB true) ∧ h379 = h379) ∧ (fun v h1 => v = .int .i64 (if budB t b = true then 0 else 2) ∧ Ext h h1) (vI 2) h379) (by kernel_rfl) ⟨⟨by rw [eb382], e380⟩, ⟨load_cell agg3 f383 rfl, rfl⟩, ⟨cmp_lss (decide_eq_false c387), rfl⟩, ⟨load_cell agg3 f383 rfl, rfl⟩, ⟨cmp_gtr (decide_eq_true c388), rfl⟩, ⟨by rw [if_neg (by unfold budB; simp only [decide_eq_true_eq]; omega)], x386⟩⟩
    · by_cases c389 : ((b) : Int) < 0
      · exact hCall_of (n := 200) (T := ⟨fun r i => match r, i with | 0, 0 => some ((vP b381 0), h379) | 1, 1 => some ((vI t), h379) | 1, 2 => some ((vB false), h379) | 1, 5 => some ((vI t), h379) | 1, 6 => some ((vB false), h379) | 1, 10 => some ((vI b), h379) | 1, 11 => some ((vB true), h379) | _, _ => none, fun _ => none, none⟩)
          (A := ((vP b381 0) = (Value.pointer (some ⟨h.size, 0, none⟩)) ∧ h379 = h.push (.cells #[(vI t), (vI b)] 32 (0, 0))) ∧ (loadT Tryd.prog h379 3 (vP b381 0) = some (vI t) ∧ h379 = h379) ∧ (binA Tryd.prog .lss 3 (vI t) (vI 0) = some (vB false) ∧ h379 = h379) ∧ (loadT Tryd.prog h379 3 (vP b381 0) = some (vI t) ∧ h379 = h379) ∧ (binA Tryd.prog .gtr 3 (vI t) (vI 21) = some (vB false) ∧ h379 = h379) ∧ (loadT Tryd.prog h379 3 (vP b381 1) = some (vI b) ∧ h379 = h379) ∧ (binA Tryd.prog .lss 3 (vI b) (vI 0) = some (vB true) ∧ h379 = h379) ∧ (fun v h1 => v = .int .i64 (if budB t b = true then 0 else 2) ∧ Ext h h1) (vI 2) h379) (by kernel_rfl) ⟨⟨by rw [eb382], e380⟩, ⟨load_cell agg3 f383 rfl, rfl⟩, ⟨cmp_lss (decide_eq_false c387), rfl⟩, ⟨load_cell agg3 f383 rfl, rfl⟩, ⟨cmp_gtr (decide_eq_false c388), rfl⟩, ⟨load_cell agg3 f383 rfl, rfl⟩, ⟨cmp_lss (decide_eq_true c389), rfl⟩, ⟨by rw [if_neg (by unfold budB; simp only [decide_eq_true_eq]; omega)], x386⟩⟩
      · by_cases c390 : (2147483648 : Int) < (b)
        · exact hCall_of (n := 200) (T := ⟨fun r i => match r, i with | 0, 0 => some ((vP b381 0), h379) | 1, 1 => some ((vI t), h379) | 1, 2 => some ((vB false), h379) | 1, 5 => some ((vI t), h379) | 1, 6 => some ((vB false), h379) | 1, 10 => some ((vI b), h379) | 1, 11 => some ((vB false), h379) | 1, 15 => some ((vI b), h379) | 1, 16 => some ((vB true), h379) | _, _ => none, fun _ => none, none⟩)
            (A := ((vP b381 0) = (Value.pointer (some ⟨h.size, 0, none⟩)) ∧ h379 = h.push (.cells #[(vI t), (vI b)] 32 (0, 0))) ∧ (loadT Tryd.prog h379 3 (vP b381 0) = some (vI t) ∧ h379 = h379) ∧ (binA Tryd.prog .lss 3 (vI t) (vI 0) = some (vB false) ∧ h379 = h379) ∧ (loadT Tryd.prog h379 3 (vP b381 0) = some (vI t) ∧ h379 = h379) ∧ (binA Tryd.prog .gtr 3 (vI t) (vI 21) = some (vB false) ∧ h379 = h379) ∧ (loadT Tryd.prog h379 3 (vP b381 1) = some (vI b) ∧ h379 = h379) ∧ (binA Tryd.prog .lss 3 (vI b) (vI 0) = some (vB false) ∧ h379 = h379) ∧ (loadT Tryd.prog h379 3 (vP b381 1) = some (vI b) ∧ h379 = h379) ∧ (binA Tryd.prog .gtr 3 (vI b) (vI 2147483648) = some (vB true) ∧ h379 = h379) ∧ (fun v h1 => v = .int .i64 (if budB t b = true then 0 else 2) ∧ Ext h h1) (vI 2) h379) (by kernel_rfl) ⟨⟨by rw [eb382], e380⟩, ⟨load_cell agg3 f383 rfl, rfl⟩, ⟨cmp_lss (decide_eq_false c387), rfl⟩, ⟨load_cell agg3 f383 rfl, rfl⟩, ⟨cmp_gtr (decide_eq_false c388), rfl⟩, ⟨load_cell agg3 f383 rfl, rfl⟩, ⟨cmp_lss (decide_eq_false c389), rfl⟩, ⟨load_cell agg3 f383 rfl, rfl⟩, ⟨cmp_gtr (decide_eq_true c390), rfl⟩, ⟨by rw [if_neg (by unfold budB; simp only [decide_eq_true_eq]; omega)], x386⟩⟩
        · exact hCall_of (n := 200) (T := ⟨fun r i => match r, i with | 0, 0 => some ((vP b381 0), h379) | 1, 1 => some ((vI t), h379) | 1, 2 => some ((vB false), h379) | 1, 5 => some ((vI t), h379) | 1, 6 => some ((vB false), h379) | 1, 10 => some ((vI b), h379) | 1, 11 => some ((vB false), h379) | 1, 15 => some ((vI b), h379) | 1, 16 => some ((vB false), h379) | _, _ => none, fun _ => none, none⟩)
            (A := ((vP b381 0) = (Value.pointer (some ⟨h.size, 0, none⟩)) ∧ h379 = h.push (.cells #[(vI t), (vI b)] 32 (0, 0))) ∧ (loadT Tryd.prog h379 3 (vP b381 0) = some (vI t) ∧ h379 = h379) ∧ (binA Tryd.prog .lss 3 (vI t) (vI 0) = some (vB false) ∧ h379 = h379) ∧ (loadT Tryd.prog h379 3 (vP b381 0) = some (vI t) ∧ h379 = h379) ∧ (binA Tryd.prog .gtr 3 (vI t) (vI 21) = some (vB false) ∧ h379 = h379) ∧ (loadT Tryd.prog h379 3 (vP b381 1) = some (vI b) ∧ h379 = h379) ∧ (binA Tryd.prog .lss 3 (vI b) (vI 0) = some (vB false) ∧ h379 = h379) ∧ (loadT Tryd.prog h379 3 (vP b381 1) = some (vI b) ∧ h379 = h379) ∧ (binA Tryd.prog .gtr 3 (vI b) (vI 2147483648) = some (vB false) ∧ h379 = h379) ∧ (fun v h1 => v = .int .i64 (if budB t b = true then 0 else 2) ∧ Ext h h1) (vI 0) h379) (by kernel_rfl) ⟨⟨by rw [eb382], e380⟩, ⟨load_cell agg3 f383 rfl, rfl⟩, ⟨cmp_lss (decide_eq_false c387), rfl⟩, ⟨load_cell agg3 f383 rfl, rfl⟩, ⟨cmp_gtr (decide_eq_false c388), rfl⟩, ⟨load_cell agg3 f383 rfl, rfl⟩, ⟨cmp_lss (decide_eq_false c389), rfl⟩, ⟨load_cell agg3 f383 rfl, rfl⟩, ⟨cmp_gtr (decide_eq_false c390), rfl⟩, ⟨by rw [if_pos (by unfold budB; simp only [decide_eq_true_eq]; omega)], x386⟩⟩
set_option maxHeartbeats 4000000 in
theorem valid1_ok (h : Heap) {bb : Nat} (t b : Int) (hbb : h[bb]? = some (.cells #[.int .i64 t, .int .i64 b] 28 (0, 0))) : WCall Tryd.prog 39 #[(vP bb 0)] h (fun v h1 => v = .int .i64 (if budB t b = true then 0 else 2) ∧ Ext h h1) := by
  obtain ⟨_, hh391, sn392, rfl, x393⟩ := bcheck_ok h t b
  have x395 := (Ext.refl h).trans x393
  exact hCall_of (n := 200) (T := ⟨fun r i => match r, i with | 1, 0 => some ((vA #[(vI t), (vI b)]), h) | 1, 1 => some ((vI (if budB t b = true then 0 else 2)), hh391) | _, _ => none, fun _ => none, none⟩)
    (A := (loadT Tryd.prog h 28 (vP bb 0) = some (vA #[(vI t), (vI b)]) ∧ h = h) ∧ SoundCall Tryd.prog 21 #[(vA #[(vI t), (vI b)])] h (vI (if budB t b = true then 0 else 2)) hh391 ∧ (fun v h1 => v = .int .i64 (if budB t b = true then 0 else 2) ∧ Ext h h1) (vI (if budB t b = true then 0 else 2)) hh391) (by kernel_rfl) ⟨⟨load_agg agg28 size28 hbb (by simp) (by kernel_rfl), rfl⟩, sn392, ⟨rfl, x395⟩⟩
set_option maxHeartbeats 4000000 in
theorem at1_ok (h : Heap) {bt : Nat} (n : Int) (hbt : h[bt]? = some (.cells #[.int .i64 n] 3 (0, 0))) : WCall Tryd.prog 37 #[(vP bt 0)] h (fun v h1 => v = .int .i64 (if timB n = true then 0 else 2) ∧ Ext h h1) := by
  by_cases c396 : (0 : Int) ≤ (n)
  · by_cases c397 : ((n) : Int) ≤ 2147483648
    · obtain ⟨_, _, sn399, rfl, rfl⟩ := arg_yes h
      exact hCall_of (n := 200) (T := ⟨fun r i => match r, i with | 1, 0 => some ((vI n), h) | 1, 1 => some ((vB true), h) | 1, 3 => some ((vI n), h) | 1, 4 => some ((vB true), h) | 1, 6 => some ((vI 0), h) | _, _ => none, fun _ => none, none⟩)
        (A := (loadT Tryd.prog h 3 (vP bt 0) = some (vI n) ∧ h = h) ∧ (binA Tryd.prog .geq 3 (vI n) (vI 0) = some (vB true) ∧ h = h) ∧ (loadT Tryd.prog h 3 (vP bt 0) = some (vI n) ∧ h = h) ∧ (binA Tryd.prog .leq 3 (vI n) (vI 2147483648) = some (vB true) ∧ h = h) ∧ SoundCall Tryd.prog 34 #[(vB true)] h (vI 0) h ∧ (fun v h1 => v = .int .i64 (if timB n = true then 0 else 2) ∧ Ext h h1) (vI 0) h) (by kernel_rfl) ⟨⟨load_cell agg3 hbt rfl, rfl⟩, ⟨cmp_geq (decide_eq_true c396), rfl⟩, ⟨load_cell agg3 hbt rfl, rfl⟩, ⟨cmp_leq (decide_eq_true c397), rfl⟩, sn399, ⟨by rw [if_pos (by unfold timB; simp only [decide_eq_true_eq]; omega)], (Ext.refl h)⟩⟩
    · obtain ⟨_, _, sn402, rfl, rfl⟩ := arg_no h
      exact hCall_of (n := 200) (T := ⟨fun r i => match r, i with | 1, 0 => some ((vI n), h) | 1, 1 => some ((vB true), h) | 1, 3 => some ((vI n), h) | 1, 4 => some ((vB false), h) | 1, 6 => some ((vI 2), h) | _, _ => none, fun _ => none, none⟩)
        (A := (loadT Tryd.prog h 3 (vP bt 0) = some (vI n) ∧ h = h) ∧ (binA Tryd.prog .geq 3 (vI n) (vI 0) = some (vB true) ∧ h = h) ∧ (loadT Tryd.prog h 3 (vP bt 0) = some (vI n) ∧ h = h) ∧ (binA Tryd.prog .leq 3 (vI n) (vI 2147483648) = some (vB false) ∧ h = h) ∧ SoundCall Tryd.prog 34 #[(vB false)] h (vI 2) h ∧ (fun v h1 => v = .int .i64 (if timB n = true then 0 else 2) ∧ Ext h h1) (vI 2) h) (by kernel_rfl) ⟨⟨load_cell agg3 hbt rfl, rfl⟩, ⟨cmp_geq (decide_eq_true c396), rfl⟩, ⟨load_cell agg3 hbt rfl, rfl⟩, ⟨cmp_leq (decide_eq_false c397), rfl⟩, sn402, ⟨by rw [if_neg (by unfold timB; simp only [decide_eq_true_eq]; omega)], (Ext.refl h)⟩⟩
  · obtain ⟨_, _, sn405, rfl, rfl⟩ := arg_no h
    exact hCall_of (n := 200) (T := ⟨fun r i => match r, i with | 1, 0 => some ((vI n), h) | 1, 1 => some ((vB false), h) | 1, 6 => some ((vI 2), h) | _, _ => none, fun _ => none, none⟩)
      (A := (loadT Tryd.prog h 3 (vP bt 0) = some (vI n) ∧ h = h) ∧ (binA Tryd.prog .geq 3 (vI n) (vI 0) = some (vB false) ∧ h = h) ∧ SoundCall Tryd.prog 34 #[(vB false)] h (vI 2) h ∧ (fun v h1 => v = .int .i64 (if timB n = true then 0 else 2) ∧ Ext h h1) (vI 2) h) (by kernel_rfl) ⟨⟨load_cell agg3 hbt rfl, rfl⟩, ⟨cmp_geq (decide_eq_false c396), rfl⟩, sn405, ⟨by rw [if_neg (by unfold timB; simp only [decide_eq_true_eq]; omega)], (Ext.refl h)⟩⟩
set_option maxHeartbeats 4000000 in
theorem of1_ok (h : Heap) {bd : Nat} (d : DefM) (sa : Option Addr) (cp : Nat) (hl : LAt h stepc 2 d.xs (.slice sa d.xs.length cp)) (hlen : d.xs.length ≤ 9223372036854775807) (hbd : h[bd]? = some (.cells #[(vS d.name), (vI (d.rt)), (vI (d.dl)), (Value.slice sa (d.xs.length) (cp))] 24 (0, 0))) : WCall Tryd.prog 35 #[(vP bd 0)] h (fun v h1 => v = .int .i64 (if defB d = true then 0 else 15) ∧ Ext h h1) := by
  obtain ⟨_, hh407, sn408, rfl, x409⟩ := dcheck_ok h d _ _ (hl.keep fun b r _ q => (Ext.refl h) b r q) (by omega)
  have x411 := (Ext.refl h).trans x409
  by_cases c412 : ((if defB d = true then 0 else 15) : Int) = 0
  · exact hCall_of (n := 200) (T := ⟨fun r i => match r, i with | 1, 0 => some ((vA #[(vS d.name), (vI d.rt), (vI d.dl), (vL sa d.xs.length cp)]), h) | 1, 1 => some ((vI (if defB d = true then 0 else 15)), hh407) | 1, 2 => some ((vB false), hh407) | _, _ => none, fun _ => none, none⟩)
      (A := (loadT Tryd.prog h 24 (vP bd 0) = some (vA #[(vS d.name), (vI d.rt), (vI d.dl), (vL sa d.xs.length cp)]) ∧ h = h) ∧ SoundCall Tryd.prog 36 #[(vA #[(vS d.name), (vI d.rt), (vI d.dl), (vL sa d.xs.length cp)])] h (vI (if defB d = true then 0 else 15)) hh407 ∧ (binA Tryd.prog .neq 29 (vI (if defB d = true then 0 else 15)) (vI 0) = some (vB false) ∧ hh407 = hh407) ∧ (fun v h1 => v = .int .i64 (if defB d = true then 0 else 15) ∧ Ext h h1) (vI 0) hh407) (by kernel_rfl) ⟨⟨load_agg agg24 size24 hbd (by simp) (by kernel_rfl), rfl⟩, sn408, ⟨cmp_neq (decide_eq_false (not_not_intro c412)), rfl⟩, ⟨by rw [c412], x411⟩⟩
  · exact hCall_of (n := 200) (T := ⟨fun r i => match r, i with | 1, 0 => some ((vA #[(vS d.name), (vI d.rt), (vI d.dl), (vL sa d.xs.length cp)]), h) | 1, 1 => some ((vI (if defB d = true then 0 else 15)), hh407) | 1, 2 => some ((vB true), hh407) | _, _ => none, fun _ => none, none⟩)
      (A := (loadT Tryd.prog h 24 (vP bd 0) = some (vA #[(vS d.name), (vI d.rt), (vI d.dl), (vL sa d.xs.length cp)]) ∧ h = h) ∧ SoundCall Tryd.prog 36 #[(vA #[(vS d.name), (vI d.rt), (vI d.dl), (vL sa d.xs.length cp)])] h (vI (if defB d = true then 0 else 15)) hh407 ∧ (binA Tryd.prog .neq 29 (vI (if defB d = true then 0 else 15)) (vI 0) = some (vB true) ∧ hh407 = hh407) ∧ (fun v h1 => v = .int .i64 (if defB d = true then 0 else 15) ∧ Ext h h1) (vI 15) hh407) (by kernel_rfl) ⟨⟨load_agg agg24 size24 hbd (by simp) (by kernel_rfl), rfl⟩, sn408, ⟨cmp_neq (decide_eq_true c412), rfl⟩, ⟨by rw [if_neg (fun w => c412 (by rw [if_pos w]))], x411⟩⟩
set_option maxHeartbeats 4000000 in
theorem valid_ok (h : Heap) (t b : Int) : WCall Tryd.prog 33 #[(Value.agg #[(vI (t)), (vI (b))])] h (fun v h1 => ∃ bq, v = .func (.func 39) #[] #[.pointer (some ⟨bq, 0, none⟩)] ∧ h1[bq]? = some (.cells #[(vI (t)), (vI (b))] 28 (0, 0)) ∧ Ext h h1) := by
  obtain ⟨b415, eb416⟩ : ∃ zq, zq = h.size := ⟨_, rfl⟩
  obtain ⟨h413, e414⟩ : ∃ zq, zq = h.push (.cells #[(vI (t)), (vI (b))] 28 (0, 0)) := ⟨_, rfl⟩
  have f417 := push_new e414
  rw [← eb416] at f417
  have x418 : Ext h h413 := by rw [e414]; exact Ext.push _ _
  have o419 : h.size ≤ b415 := by have := (Ext.refl h).size; omega
  have x420 := (Ext.refl h).trans x418
  exact hCall_of (n := 200) (T := ⟨fun r i => match r, i with | 0, 0 => some ((vP b415 0), h413) | _, _ => none, fun _ => none, none⟩)
    (A := ((vP b415 0) = (Value.pointer (some ⟨h.size, 0, none⟩)) ∧ h413 = h.push (.cells #[(vI t), (vI b)] 28 (0, 0))) ∧ (fun v h1 => ∃ bq, v = .func (.func 39) #[] #[.pointer (some ⟨bq, 0, none⟩)] ∧ h1[bq]? = some (.cells #[(vI t), (vI b)] 28 (0, 0)) ∧ Ext h h1) (Value.func (.func 39) #[] #[(vP b415 0)]) h413) (by kernel_rfl) ⟨⟨by rw [eb416], e414⟩, ⟨b415, rfl, f417, x420⟩⟩
set_option maxHeartbeats 4000000 in
theorem at_ok (h : Heap) (n : Int) : WCall Tryd.prog 31 #[(vI (n))] h (fun v h1 => ∃ bq, v = .func (.func 37) #[] #[.pointer (some ⟨bq, 0, none⟩)] ∧ h1[bq]? = some (.cells #[(vI (n))] 3 (0, 0)) ∧ Ext h h1) := by
  obtain ⟨b423, eb424⟩ : ∃ zq, zq = h.size := ⟨_, rfl⟩
  obtain ⟨h421, e422⟩ : ∃ zq, zq = h.push (.cells #[(vI (n))] 3 (0, 0)) := ⟨_, rfl⟩
  have f425 := push_new e422
  rw [← eb424] at f425
  have x426 : Ext h h421 := by rw [e422]; exact Ext.push _ _
  have o427 : h.size ≤ b423 := by have := (Ext.refl h).size; omega
  have x428 := (Ext.refl h).trans x426
  exact hCall_of (n := 200) (T := ⟨fun r i => match r, i with | 0, 0 => some ((vP b423 0), h421) | _, _ => none, fun _ => none, none⟩)
    (A := ((vP b423 0) = (Value.pointer (some ⟨h.size, 0, none⟩)) ∧ h421 = h.push (.cells #[(vI n)] 3 (0, 0))) ∧ (fun v h1 => ∃ bq, v = .func (.func 37) #[] #[.pointer (some ⟨bq, 0, none⟩)] ∧ h1[bq]? = some (.cells #[(vI n)] 3 (0, 0)) ∧ Ext h h1) (Value.func (.func 37) #[] #[(vP b423 0)]) h421) (by kernel_rfl) ⟨⟨by rw [eb424], e422⟩, ⟨b423, rfl, f425, x428⟩⟩
set_option maxHeartbeats 4000000 in
theorem of_ok (h : Heap) (name : ByteArray) (rt dl : Int) (sl : Value) : WCall Tryd.prog 30 #[(Value.agg #[(vS name), (vI (rt)), (vI (dl)), sl])] h (fun v h1 => ∃ bq, v = .func (.func 35) #[] #[.pointer (some ⟨bq, 0, none⟩)] ∧ h1[bq]? = some (.cells #[(vS name), (vI (rt)), (vI (dl)), sl] 24 (0, 0)) ∧ Ext h h1) := by
  obtain ⟨b431, eb432⟩ : ∃ zq, zq = h.size := ⟨_, rfl⟩
  obtain ⟨h429, e430⟩ : ∃ zq, zq = h.push (.cells #[(vS name), (vI (rt)), (vI (dl)), sl] 24 (0, 0)) := ⟨_, rfl⟩
  have f433 := push_new e430
  rw [← eb432] at f433
  have x434 : Ext h h429 := by rw [e430]; exact Ext.push _ _
  have o435 : h.size ≤ b431 := by have := (Ext.refl h).size; omega
  have x436 := (Ext.refl h).trans x434
  exact hCall_of (n := 200) (T := ⟨fun r i => match r, i with | 0, 0 => some ((vP b431 0), h429) | _, _ => none, fun _ => none, none⟩)
    (A := ((vP b431 0) = (Value.pointer (some ⟨h.size, 0, none⟩)) ∧ h429 = h.push (.cells #[(vS name), (vI rt), (vI dl), sl] 24 (0, 0))) ∧ (fun v h1 => ∃ bq, v = .func (.func 35) #[] #[.pointer (some ⟨bq, 0, none⟩)] ∧ h1[bq]? = some (.cells #[(vS name), (vI rt), (vI dl), sl] 24 (0, 0)) ∧ Ext h h1) (Value.func (.func 35) #[] #[(vP b431 0)]) h429) (by kernel_rfl) ⟨⟨by rw [eb432], e430⟩, ⟨b431, rfl, f433, x436⟩⟩
set_option maxHeartbeats 4000000 in
theorem all_dt (h : Heap) {bd : Nat} (d : DefM) (sa : Option Addr) (cp : Nat) (hl : LAt h stepc 2 d.xs (.slice sa d.xs.length cp)) (hlen : d.xs.length ≤ 9223372036854775807) (hbd : h[bd]? = some (.cells #[(vS d.name), (vI (d.rt)), (vI (d.dl)), (Value.slice sa (d.xs.length) (cp))] 24 (0, 0))) {bt : Nat} (n : Int) (hbt : h[bt]? = some (.cells #[.int .i64 n] 3 (0, 0))) {bs : Nat} (hbs : h[bs]? = some (.cells #[(Value.func (.func 35) #[] #[(vP bd 0)]), (Value.func (.func 37) #[] #[(vP bt 0)])] 69 (0, 0))) : WCall Tryd.prog 29 #[(Value.slice (some ⟨bs, 0, none⟩) 2 2)] h (fun v h1 => v = .int .i64 (chkE true (defB d) (timB n)) ∧ Ext h h1) := by
  suffices H : ∀ K : Value → Heap → Prop, (∀ v h1, (fun v h1 => v = .int .i64 (chkE true (defB d) (timB n)) ∧ Ext h h1) v h1 → K v h1) → WCall Tryd.prog 29 #[(Value.slice (some ⟨bs, 0, none⟩) 2 2)] h K from H _ fun _ _ q => q
  intro K hK
  refine wcall_at { tmps := #[(vL (some ⟨bs, 0, none⟩) 2 2), vZ, vZ, vZ, vZ, vZ, vZ, vZ, vZ, vZ, vZ, vZ, vZ, vZ, vZ, vZ, vZ, vZ], defers := [] } (by kernel_rfl) ?_
  refine wc_seq' (subc (bodyOf Tryd.prog 29) [0]) (subc (bodyOf Tryd.prog 29) [1]) (by kernel_rfl) ?_
  refine wc_upd (n := 200) (T := ⟨fun r i => match r, i with | _, _ => none, fun _ => none, none⟩) (x := .normal) (h1 := h) [(2, (vI 0))]
    (fun q => q) (by intro K'; as_aux_lemma => kernel_rfl) (fun _ q => q) ?_
  refine wc_seq' (subc (bodyOf Tryd.prog 29) [1, 0]) (subc (bodyOf Tryd.prog 29) [1, 1]) (by kernel_rfl) ?_
  refine wc_seq' (subc (bodyOf Tryd.prog 29) [1, 0, 0]) (subc (bodyOf Tryd.prog 29) [1, 0, 1]) (by kernel_rfl) ?_
  refine wc_upd (n := 200) (T := ⟨fun r i => match r, i with | _, _ => none, fun _ => none, none⟩) (x := .normal) (h1 := h) [(6, (vL (some ⟨bs, 0, none⟩) 2 2)), (7, (vI 2)), (8, (vI 0))]
    (fun q => q) (by intro K'; as_aux_lemma => kernel_rfl) (fun _ q => q) ?_
  refine wc_block' 0 (subc (bodyOf Tryd.prog 29) [1, 0, 1, 0]) (by kernel_rfl) ?_
  refine wc_once (subc (bodyOf Tryd.prog 29) [1, 0, 1, 0, 0]) (by kernel_rfl) ?_
  obtain ⟨_, hh437, sn438, rfl, x439⟩ := of1_ok h d _ _ (hl.keep fun b r _ q => (Ext.refl h) b r q) (by omega) hbd
  have f441 := x439 _ _ hbt
  have f442 := x439 _ _ hbs
  have x443 := (Ext.refl h).trans x439
  by_cases c444 : ((if defB d = true then 0 else 15) : Int) = 0
  · refine wc_upd (n := 200) (T := ⟨fun r i => match r, i with | 3, 1 => some ((Value.func (.func 35) #[] #[(vP bd 0)]), h) | 4, 1 => some ((vI (if defB d = true then 0 else 15)), hh437) | 5, 1 => some ((vB false), hh437) | _, _ => none, fun _ => none, none⟩) (x := .normal) (h1 := hh437) [(9, (vB true)), (10, (vP bs 0)), (11, (Value.func (.func 35) #[] #[(vP bd 0)])), (4, (Value.func (.func 35) #[] #[(vP bd 0)])), (12, (Value.func (.func 35) #[] #[(vP bd 0)])), (13, (vI (if defB d = true then 0 else 15))), (5, (vI (if defB d = true then 0 else 15))), (14, (vI (if defB d = true then 0 else 15))), (15, (vB false)), (17, (vI 1)), (8, (vI 1))]
      (fun q => (loadT Tryd.prog h 69 (vP bs 0) = some (Value.func (.func 35) #[] #[(vP bd 0)]) ∧ h = h) ∧ SoundCall Tryd.prog 35 #[(vP bd 0)] h (vI (if defB d = true then 0 else 15)) hh437 ∧ (binA Tryd.prog .neq 29 (vI (if defB d = true then 0 else 15)) (vI 0) = some (vB false) ∧ hh437 = hh437) ∧ q) (by intro K'; as_aux_lemma => kernel_rfl) (fun _ q => ⟨⟨load_cell agg69 hbs rfl, rfl⟩, sn438, ⟨cmp_neq (decide_eq_false (not_not_intro c444)), rfl⟩, q⟩) ?_
    refine wc_once (subc (bodyOf Tryd.prog 29) [1, 0, 1, 0, 0]) rfl ?_
    obtain ⟨_, hh445, sn446, rfl, x447⟩ := at1_ok hh437 n f441
    have x451 := x443.trans x447
    by_cases c452 : ((if timB n = true then 0 else 2) : Int) = 0
    · refine wc_upd (n := 200) (T := ⟨fun r i => match r, i with | 3, 1 => some ((Value.func (.func 37) #[] #[(vP bt 0)]), hh437) | 4, 1 => some ((vI (if timB n = true then 0 else 2)), hh445) | 5, 1 => some ((vB false), hh445) | _, _ => none, fun _ => none, none⟩) (x := .normal) (h1 := hh445) [(9, (vB true)), (10, (vP bs 1)), (11, (Value.func (.func 37) #[] #[(vP bt 0)])), (4, (Value.func (.func 37) #[] #[(vP bt 0)])), (12, (Value.func (.func 37) #[] #[(vP bt 0)])), (13, (vI (if timB n = true then 0 else 2))), (5, (vI (if timB n = true then 0 else 2))), (14, (vI (if timB n = true then 0 else 2))), (15, (vB false)), (17, (vI 2)), (8, (vI 2))]
        (fun q => (loadT Tryd.prog hh437 69 (vP bs 1) = some (Value.func (.func 37) #[] #[(vP bt 0)]) ∧ hh437 = hh437) ∧ SoundCall Tryd.prog 37 #[(vP bt 0)] hh437 (vI (if timB n = true then 0 else 2)) hh445 ∧ (binA Tryd.prog .neq 29 (vI (if timB n = true then 0 else 2)) (vI 0) = some (vB false) ∧ hh445 = hh445) ∧ q) (by intro K'; as_aux_lemma => kernel_rfl) (fun _ q => ⟨⟨load_cell agg69 f442 rfl, rfl⟩, sn446, ⟨cmp_neq (decide_eq_false (not_not_intro c452)), rfl⟩, q⟩) ?_
      refine wc_once (subc (bodyOf Tryd.prog 29) [1, 0, 1, 0, 0]) rfl ?_
      refine wc_act { tmps := #[(vL (some ⟨bs, 0, none⟩) 2 2), vZ, (vI 0), vZ, (Value.func (.func 37) #[] #[(vP bt 0)]), (vI (if timB n = true then 0 else 2)), (vL (some ⟨bs, 0, none⟩) 2 2), (vI 2), (vI 2), (vB true), (vP bs 1), (Value.func (.func 37) #[] #[(vP bt 0)]), (Value.func (.func 37) #[] #[(vP bt 0)]), (vI (if timB n = true then 0 else 2)), (vI (if timB n = true then 0 else 2)), (vB false), vZ, (vI 2)], defers := [] } (by as_aux_lemma => kernel_rfl) ?_
      refine wc_upd (n := 200) (T := ⟨fun r i => match r, i with | _, _ => none, fun _ => none, none⟩) (x := (.exit 0)) (h1 := hh445) [(9, (vB false))]
        (fun q => q) (by intro K'; as_aux_lemma => kernel_rfl) (fun _ q => q) ?_
      refine wc_upd (n := 200) (T := ⟨fun r i => match r, i with | _, _ => none, fun _ => none, none⟩) (x := .ret) (h1 := hh445) [(2, (vI 0))]
        (fun q => q) (by intro K'; as_aux_lemma => kernel_rfl) (fun _ q => q) ?_
      refine end_at (T := ⟨fun _ _ => none, fun _ => none, none⟩) (A := K (vI 0) hh445) (by kernel_rfl) ?_
      exact hK _ _ (⟨congrArg _ (chk4 chk0 c444 c452), x451⟩)
    · refine wc_upd (n := 200) (T := ⟨fun r i => match r, i with | 3, 1 => some ((Value.func (.func 37) #[] #[(vP bt 0)]), hh437) | 4, 1 => some ((vI (if timB n = true then 0 else 2)), hh445) | 5, 1 => some ((vB true), hh445) | _, _ => none, fun _ => none, none⟩) (x := .ret) (h1 := hh445) [(9, (vB true)), (10, (vP bs 1)), (11, (Value.func (.func 37) #[] #[(vP bt 0)])), (4, (Value.func (.func 37) #[] #[(vP bt 0)])), (12, (Value.func (.func 37) #[] #[(vP bt 0)])), (13, (vI (if timB n = true then 0 else 2))), (5, (vI (if timB n = true then 0 else 2))), (14, (vI (if timB n = true then 0 else 2))), (15, (vB true)), (16, (vI (if timB n = true then 0 else 2))), (2, (vI (if timB n = true then 0 else 2)))]
        (fun q => (loadT Tryd.prog hh437 69 (vP bs 1) = some (Value.func (.func 37) #[] #[(vP bt 0)]) ∧ hh437 = hh437) ∧ SoundCall Tryd.prog 37 #[(vP bt 0)] hh437 (vI (if timB n = true then 0 else 2)) hh445 ∧ (binA Tryd.prog .neq 29 (vI (if timB n = true then 0 else 2)) (vI 0) = some (vB true) ∧ hh445 = hh445) ∧ q) (by intro K'; as_aux_lemma => kernel_rfl) (fun _ q => ⟨⟨load_cell agg69 f442 rfl, rfl⟩, sn446, ⟨cmp_neq (decide_eq_true c452), rfl⟩, q⟩) ?_
      refine end_at (T := ⟨fun _ _ => none, fun _ => none, none⟩) (A := K (vI (if timB n = true then 0 else 2)) hh445) (by kernel_rfl) ?_
      exact hK _ _ (⟨congrArg _ (chk3 chk0 c444 c452), x451⟩)
  · refine wc_upd (n := 200) (T := ⟨fun r i => match r, i with | 3, 1 => some ((Value.func (.func 35) #[] #[(vP bd 0)]), h) | 4, 1 => some ((vI (if defB d = true then 0 else 15)), hh437) | 5, 1 => some ((vB true), hh437) | _, _ => none, fun _ => none, none⟩) (x := .ret) (h1 := hh437) [(9, (vB true)), (10, (vP bs 0)), (11, (Value.func (.func 35) #[] #[(vP bd 0)])), (4, (Value.func (.func 35) #[] #[(vP bd 0)])), (12, (Value.func (.func 35) #[] #[(vP bd 0)])), (13, (vI (if defB d = true then 0 else 15))), (5, (vI (if defB d = true then 0 else 15))), (14, (vI (if defB d = true then 0 else 15))), (15, (vB true)), (16, (vI (if defB d = true then 0 else 15))), (2, (vI (if defB d = true then 0 else 15)))]
      (fun q => (loadT Tryd.prog h 69 (vP bs 0) = some (Value.func (.func 35) #[] #[(vP bd 0)]) ∧ h = h) ∧ SoundCall Tryd.prog 35 #[(vP bd 0)] h (vI (if defB d = true then 0 else 15)) hh437 ∧ (binA Tryd.prog .neq 29 (vI (if defB d = true then 0 else 15)) (vI 0) = some (vB true) ∧ hh437 = hh437) ∧ q) (by intro K'; as_aux_lemma => kernel_rfl) (fun _ q => ⟨⟨load_cell agg69 hbs rfl, rfl⟩, sn438, ⟨cmp_neq (decide_eq_true c444), rfl⟩, q⟩) ?_
    refine end_at (T := ⟨fun _ _ => none, fun _ => none, none⟩) (A := K (vI (if defB d = true then 0 else 15)) hh437) (by kernel_rfl) ?_
    exact hK _ _ (⟨congrArg _ (chk2 chk0 c444), x443⟩)
set_option maxHeartbeats 4000000 in
theorem all_bd (h : Heap) {bb : Nat} (t b : Int) (hbb : h[bb]? = some (.cells #[.int .i64 t, .int .i64 b] 28 (0, 0))) {bd : Nat} (d : DefM) (sa : Option Addr) (cp : Nat) (hl : LAt h stepc 2 d.xs (.slice sa d.xs.length cp)) (hlen : d.xs.length ≤ 9223372036854775807) (hbd : h[bd]? = some (.cells #[(vS d.name), (vI (d.rt)), (vI (d.dl)), (Value.slice sa (d.xs.length) (cp))] 24 (0, 0))) {bs : Nat} (hbs : h[bs]? = some (.cells #[(Value.func (.func 39) #[] #[(vP bb 0)]), (Value.func (.func 35) #[] #[(vP bd 0)])] 69 (0, 0))) : WCall Tryd.prog 29 #[(Value.slice (some ⟨bs, 0, none⟩) 2 2)] h (fun v h1 => v = .int .i64 (chkE (budB t b) (defB d) true) ∧ Ext h h1) := by
  suffices H : ∀ K : Value → Heap → Prop, (∀ v h1, (fun v h1 => v = .int .i64 (chkE (budB t b) (defB d) true) ∧ Ext h h1) v h1 → K v h1) → WCall Tryd.prog 29 #[(Value.slice (some ⟨bs, 0, none⟩) 2 2)] h K from H _ fun _ _ q => q
  intro K hK
  refine wcall_at { tmps := #[(vL (some ⟨bs, 0, none⟩) 2 2), vZ, vZ, vZ, vZ, vZ, vZ, vZ, vZ, vZ, vZ, vZ, vZ, vZ, vZ, vZ, vZ, vZ], defers := [] } (by kernel_rfl) ?_
  refine wc_seq' (subc (bodyOf Tryd.prog 29) [0]) (subc (bodyOf Tryd.prog 29) [1]) (by kernel_rfl) ?_
  refine wc_upd (n := 200) (T := ⟨fun r i => match r, i with | _, _ => none, fun _ => none, none⟩) (x := .normal) (h1 := h) [(2, (vI 0))]
    (fun q => q) (by intro K'; as_aux_lemma => kernel_rfl) (fun _ q => q) ?_
  refine wc_seq' (subc (bodyOf Tryd.prog 29) [1, 0]) (subc (bodyOf Tryd.prog 29) [1, 1]) (by kernel_rfl) ?_
  refine wc_seq' (subc (bodyOf Tryd.prog 29) [1, 0, 0]) (subc (bodyOf Tryd.prog 29) [1, 0, 1]) (by kernel_rfl) ?_
  refine wc_upd (n := 200) (T := ⟨fun r i => match r, i with | _, _ => none, fun _ => none, none⟩) (x := .normal) (h1 := h) [(6, (vL (some ⟨bs, 0, none⟩) 2 2)), (7, (vI 2)), (8, (vI 0))]
    (fun q => q) (by intro K'; as_aux_lemma => kernel_rfl) (fun _ q => q) ?_
  refine wc_block' 0 (subc (bodyOf Tryd.prog 29) [1, 0, 1, 0]) (by kernel_rfl) ?_
  refine wc_once (subc (bodyOf Tryd.prog 29) [1, 0, 1, 0, 0]) (by kernel_rfl) ?_
  obtain ⟨_, hh453, sn454, rfl, x455⟩ := valid1_ok h t b hbb
  have f457 := x455 _ _ hbd
  have f458 := x455 _ _ hbs
  have x459 := (Ext.refl h).trans x455
  by_cases c460 : ((if budB t b = true then 0 else 2) : Int) = 0
  · refine wc_upd (n := 200) (T := ⟨fun r i => match r, i with | 3, 1 => some ((Value.func (.func 39) #[] #[(vP bb 0)]), h) | 4, 1 => some ((vI (if budB t b = true then 0 else 2)), hh453) | 5, 1 => some ((vB false), hh453) | _, _ => none, fun _ => none, none⟩) (x := .normal) (h1 := hh453) [(9, (vB true)), (10, (vP bs 0)), (11, (Value.func (.func 39) #[] #[(vP bb 0)])), (4, (Value.func (.func 39) #[] #[(vP bb 0)])), (12, (Value.func (.func 39) #[] #[(vP bb 0)])), (13, (vI (if budB t b = true then 0 else 2))), (5, (vI (if budB t b = true then 0 else 2))), (14, (vI (if budB t b = true then 0 else 2))), (15, (vB false)), (17, (vI 1)), (8, (vI 1))]
      (fun q => (loadT Tryd.prog h 69 (vP bs 0) = some (Value.func (.func 39) #[] #[(vP bb 0)]) ∧ h = h) ∧ SoundCall Tryd.prog 39 #[(vP bb 0)] h (vI (if budB t b = true then 0 else 2)) hh453 ∧ (binA Tryd.prog .neq 29 (vI (if budB t b = true then 0 else 2)) (vI 0) = some (vB false) ∧ hh453 = hh453) ∧ q) (by intro K'; as_aux_lemma => kernel_rfl) (fun _ q => ⟨⟨load_cell agg69 hbs rfl, rfl⟩, sn454, ⟨cmp_neq (decide_eq_false (not_not_intro c460)), rfl⟩, q⟩) ?_
    refine wc_once (subc (bodyOf Tryd.prog 29) [1, 0, 1, 0, 0]) rfl ?_
    obtain ⟨_, hh461, sn462, rfl, x463⟩ := of1_ok hh453 d _ _ (hl.keep fun b r _ q => x459 b r q) (by omega) f457
    have x467 := x459.trans x463
    by_cases c468 : ((if defB d = true then 0 else 15) : Int) = 0
    · refine wc_upd (n := 200) (T := ⟨fun r i => match r, i with | 3, 1 => some ((Value.func (.func 35) #[] #[(vP bd 0)]), hh453) | 4, 1 => some ((vI (if defB d = true then 0 else 15)), hh461) | 5, 1 => some ((vB false), hh461) | _, _ => none, fun _ => none, none⟩) (x := .normal) (h1 := hh461) [(9, (vB true)), (10, (vP bs 1)), (11, (Value.func (.func 35) #[] #[(vP bd 0)])), (4, (Value.func (.func 35) #[] #[(vP bd 0)])), (12, (Value.func (.func 35) #[] #[(vP bd 0)])), (13, (vI (if defB d = true then 0 else 15))), (5, (vI (if defB d = true then 0 else 15))), (14, (vI (if defB d = true then 0 else 15))), (15, (vB false)), (17, (vI 2)), (8, (vI 2))]
        (fun q => (loadT Tryd.prog hh453 69 (vP bs 1) = some (Value.func (.func 35) #[] #[(vP bd 0)]) ∧ hh453 = hh453) ∧ SoundCall Tryd.prog 35 #[(vP bd 0)] hh453 (vI (if defB d = true then 0 else 15)) hh461 ∧ (binA Tryd.prog .neq 29 (vI (if defB d = true then 0 else 15)) (vI 0) = some (vB false) ∧ hh461 = hh461) ∧ q) (by intro K'; as_aux_lemma => kernel_rfl) (fun _ q => ⟨⟨load_cell agg69 f458 rfl, rfl⟩, sn462, ⟨cmp_neq (decide_eq_false (not_not_intro c468)), rfl⟩, q⟩) ?_
      refine wc_once (subc (bodyOf Tryd.prog 29) [1, 0, 1, 0, 0]) rfl ?_
      refine wc_act { tmps := #[(vL (some ⟨bs, 0, none⟩) 2 2), vZ, (vI 0), vZ, (Value.func (.func 35) #[] #[(vP bd 0)]), (vI (if defB d = true then 0 else 15)), (vL (some ⟨bs, 0, none⟩) 2 2), (vI 2), (vI 2), (vB true), (vP bs 1), (Value.func (.func 35) #[] #[(vP bd 0)]), (Value.func (.func 35) #[] #[(vP bd 0)]), (vI (if defB d = true then 0 else 15)), (vI (if defB d = true then 0 else 15)), (vB false), vZ, (vI 2)], defers := [] } (by as_aux_lemma => kernel_rfl) ?_
      refine wc_upd (n := 200) (T := ⟨fun r i => match r, i with | _, _ => none, fun _ => none, none⟩) (x := (.exit 0)) (h1 := hh461) [(9, (vB false))]
        (fun q => q) (by intro K'; as_aux_lemma => kernel_rfl) (fun _ q => q) ?_
      refine wc_upd (n := 200) (T := ⟨fun r i => match r, i with | _, _ => none, fun _ => none, none⟩) (x := .ret) (h1 := hh461) [(2, (vI 0))]
        (fun q => q) (by intro K'; as_aux_lemma => kernel_rfl) (fun _ q => q) ?_
      refine end_at (T := ⟨fun _ _ => none, fun _ => none, none⟩) (A := K (vI 0) hh461) (by kernel_rfl) ?_
      exact hK _ _ (⟨congrArg _ (chk4 c460 c468 chk0), x467⟩)
    · refine wc_upd (n := 200) (T := ⟨fun r i => match r, i with | 3, 1 => some ((Value.func (.func 35) #[] #[(vP bd 0)]), hh453) | 4, 1 => some ((vI (if defB d = true then 0 else 15)), hh461) | 5, 1 => some ((vB true), hh461) | _, _ => none, fun _ => none, none⟩) (x := .ret) (h1 := hh461) [(9, (vB true)), (10, (vP bs 1)), (11, (Value.func (.func 35) #[] #[(vP bd 0)])), (4, (Value.func (.func 35) #[] #[(vP bd 0)])), (12, (Value.func (.func 35) #[] #[(vP bd 0)])), (13, (vI (if defB d = true then 0 else 15))), (5, (vI (if defB d = true then 0 else 15))), (14, (vI (if defB d = true then 0 else 15))), (15, (vB true)), (16, (vI (if defB d = true then 0 else 15))), (2, (vI (if defB d = true then 0 else 15)))]
        (fun q => (loadT Tryd.prog hh453 69 (vP bs 1) = some (Value.func (.func 35) #[] #[(vP bd 0)]) ∧ hh453 = hh453) ∧ SoundCall Tryd.prog 35 #[(vP bd 0)] hh453 (vI (if defB d = true then 0 else 15)) hh461 ∧ (binA Tryd.prog .neq 29 (vI (if defB d = true then 0 else 15)) (vI 0) = some (vB true) ∧ hh461 = hh461) ∧ q) (by intro K'; as_aux_lemma => kernel_rfl) (fun _ q => ⟨⟨load_cell agg69 f458 rfl, rfl⟩, sn462, ⟨cmp_neq (decide_eq_true c468), rfl⟩, q⟩) ?_
      refine end_at (T := ⟨fun _ _ => none, fun _ => none, none⟩) (A := K (vI (if defB d = true then 0 else 15)) hh461) (by kernel_rfl) ?_
      exact hK _ _ (⟨congrArg _ (chk2 c460 c468), x467⟩)
  · refine wc_upd (n := 200) (T := ⟨fun r i => match r, i with | 3, 1 => some ((Value.func (.func 39) #[] #[(vP bb 0)]), h) | 4, 1 => some ((vI (if budB t b = true then 0 else 2)), hh453) | 5, 1 => some ((vB true), hh453) | _, _ => none, fun _ => none, none⟩) (x := .ret) (h1 := hh453) [(9, (vB true)), (10, (vP bs 0)), (11, (Value.func (.func 39) #[] #[(vP bb 0)])), (4, (Value.func (.func 39) #[] #[(vP bb 0)])), (12, (Value.func (.func 39) #[] #[(vP bb 0)])), (13, (vI (if budB t b = true then 0 else 2))), (5, (vI (if budB t b = true then 0 else 2))), (14, (vI (if budB t b = true then 0 else 2))), (15, (vB true)), (16, (vI (if budB t b = true then 0 else 2))), (2, (vI (if budB t b = true then 0 else 2)))]
      (fun q => (loadT Tryd.prog h 69 (vP bs 0) = some (Value.func (.func 39) #[] #[(vP bb 0)]) ∧ h = h) ∧ SoundCall Tryd.prog 39 #[(vP bb 0)] h (vI (if budB t b = true then 0 else 2)) hh453 ∧ (binA Tryd.prog .neq 29 (vI (if budB t b = true then 0 else 2)) (vI 0) = some (vB true) ∧ hh453 = hh453) ∧ q) (by intro K'; as_aux_lemma => kernel_rfl) (fun _ q => ⟨⟨load_cell agg69 hbs rfl, rfl⟩, sn454, ⟨cmp_neq (decide_eq_true c460), rfl⟩, q⟩) ?_
    refine end_at (T := ⟨fun _ _ => none, fun _ => none, none⟩) (A := K (vI (if budB t b = true then 0 else 2)) hh453) (by kernel_rfl) ?_
    exact hK _ _ (⟨congrArg _ (chk1 c460), x459⟩)
set_option maxHeartbeats 4000000 in
theorem all_bdt (h : Heap) {bb : Nat} (t b : Int) (hbb : h[bb]? = some (.cells #[.int .i64 t, .int .i64 b] 28 (0, 0))) {bd : Nat} (d : DefM) (sa : Option Addr) (cp : Nat) (hl : LAt h stepc 2 d.xs (.slice sa d.xs.length cp)) (hlen : d.xs.length ≤ 9223372036854775807) (hbd : h[bd]? = some (.cells #[(vS d.name), (vI (d.rt)), (vI (d.dl)), (Value.slice sa (d.xs.length) (cp))] 24 (0, 0))) {bt : Nat} (n : Int) (hbt : h[bt]? = some (.cells #[.int .i64 n] 3 (0, 0))) {bs : Nat} (hbs : h[bs]? = some (.cells #[(Value.func (.func 39) #[] #[(vP bb 0)]), (Value.func (.func 35) #[] #[(vP bd 0)]), (Value.func (.func 37) #[] #[(vP bt 0)])] 69 (0, 0))) : WCall Tryd.prog 29 #[(Value.slice (some ⟨bs, 0, none⟩) 3 3)] h (fun v h1 => v = .int .i64 (chkE (budB t b) (defB d) (timB n)) ∧ Ext h h1) := by
  suffices H : ∀ K : Value → Heap → Prop, (∀ v h1, (fun v h1 => v = .int .i64 (chkE (budB t b) (defB d) (timB n)) ∧ Ext h h1) v h1 → K v h1) → WCall Tryd.prog 29 #[(Value.slice (some ⟨bs, 0, none⟩) 3 3)] h K from H _ fun _ _ q => q
  intro K hK
  refine wcall_at { tmps := #[(vL (some ⟨bs, 0, none⟩) 3 3), vZ, vZ, vZ, vZ, vZ, vZ, vZ, vZ, vZ, vZ, vZ, vZ, vZ, vZ, vZ, vZ, vZ], defers := [] } (by kernel_rfl) ?_
  refine wc_seq' (subc (bodyOf Tryd.prog 29) [0]) (subc (bodyOf Tryd.prog 29) [1]) (by kernel_rfl) ?_
  refine wc_upd (n := 200) (T := ⟨fun r i => match r, i with | _, _ => none, fun _ => none, none⟩) (x := .normal) (h1 := h) [(2, (vI 0))]
    (fun q => q) (by intro K'; as_aux_lemma => kernel_rfl) (fun _ q => q) ?_
  refine wc_seq' (subc (bodyOf Tryd.prog 29) [1, 0]) (subc (bodyOf Tryd.prog 29) [1, 1]) (by kernel_rfl) ?_
  refine wc_seq' (subc (bodyOf Tryd.prog 29) [1, 0, 0]) (subc (bodyOf Tryd.prog 29) [1, 0, 1]) (by kernel_rfl) ?_
  refine wc_upd (n := 200) (T := ⟨fun r i => match r, i with | _, _ => none, fun _ => none, none⟩) (x := .normal) (h1 := h) [(6, (vL (some ⟨bs, 0, none⟩) 3 3)), (7, (vI 3)), (8, (vI 0))]
    (fun q => q) (by intro K'; as_aux_lemma => kernel_rfl) (fun _ q => q) ?_
  refine wc_block' 0 (subc (bodyOf Tryd.prog 29) [1, 0, 1, 0]) (by kernel_rfl) ?_
  refine wc_once (subc (bodyOf Tryd.prog 29) [1, 0, 1, 0, 0]) (by kernel_rfl) ?_
  obtain ⟨_, hh469, sn470, rfl, x471⟩ := valid1_ok h t b hbb
  have f473 := x471 _ _ hbd
  have f474 := x471 _ _ hbt
  have f475 := x471 _ _ hbs
  have x476 := (Ext.refl h).trans x471
  by_cases c477 : ((if budB t b = true then 0 else 2) : Int) = 0
  · refine wc_upd (n := 200) (T := ⟨fun r i => match r, i with | 3, 1 => some ((Value.func (.func 39) #[] #[(vP bb 0)]), h) | 4, 1 => some ((vI (if budB t b = true then 0 else 2)), hh469) | 5, 1 => some ((vB false), hh469) | _, _ => none, fun _ => none, none⟩) (x := .normal) (h1 := hh469) [(9, (vB true)), (10, (vP bs 0)), (11, (Value.func (.func 39) #[] #[(vP bb 0)])), (4, (Value.func (.func 39) #[] #[(vP bb 0)])), (12, (Value.func (.func 39) #[] #[(vP bb 0)])), (13, (vI (if budB t b = true then 0 else 2))), (5, (vI (if budB t b = true then 0 else 2))), (14, (vI (if budB t b = true then 0 else 2))), (15, (vB false)), (17, (vI 1)), (8, (vI 1))]
      (fun q => (loadT Tryd.prog h 69 (vP bs 0) = some (Value.func (.func 39) #[] #[(vP bb 0)]) ∧ h = h) ∧ SoundCall Tryd.prog 39 #[(vP bb 0)] h (vI (if budB t b = true then 0 else 2)) hh469 ∧ (binA Tryd.prog .neq 29 (vI (if budB t b = true then 0 else 2)) (vI 0) = some (vB false) ∧ hh469 = hh469) ∧ q) (by intro K'; as_aux_lemma => kernel_rfl) (fun _ q => ⟨⟨load_cell agg69 hbs rfl, rfl⟩, sn470, ⟨cmp_neq (decide_eq_false (not_not_intro c477)), rfl⟩, q⟩) ?_
    refine wc_once (subc (bodyOf Tryd.prog 29) [1, 0, 1, 0, 0]) rfl ?_
    obtain ⟨_, hh478, sn479, rfl, x480⟩ := of1_ok hh469 d _ _ (hl.keep fun b r _ q => x476 b r q) (by omega) f473
    have f483 := x480 _ _ f474
    have f484 := x480 _ _ f475
    have x485 := x476.trans x480
    by_cases c486 : ((if defB d = true then 0 else 15) : Int) = 0
    · refine wc_upd (n := 200) (T := ⟨fun r i => match r, i with | 3, 1 => some ((Value.func (.func 35) #[] #[(vP bd 0)]), hh469) | 4, 1 => some ((vI (if defB d = true then 0 else 15)), hh478) | 5, 1 => some ((vB false), hh478) | _, _ => none, fun _ => none, none⟩) (x := .normal) (h1 := hh478) [(9, (vB true)), (10, (vP bs 1)), (11, (Value.func (.func 35) #[] #[(vP bd 0)])), (4, (Value.func (.func 35) #[] #[(vP bd 0)])), (12, (Value.func (.func 35) #[] #[(vP bd 0)])), (13, (vI (if defB d = true then 0 else 15))), (5, (vI (if defB d = true then 0 else 15))), (14, (vI (if defB d = true then 0 else 15))), (15, (vB false)), (17, (vI 2)), (8, (vI 2))]
        (fun q => (loadT Tryd.prog hh469 69 (vP bs 1) = some (Value.func (.func 35) #[] #[(vP bd 0)]) ∧ hh469 = hh469) ∧ SoundCall Tryd.prog 35 #[(vP bd 0)] hh469 (vI (if defB d = true then 0 else 15)) hh478 ∧ (binA Tryd.prog .neq 29 (vI (if defB d = true then 0 else 15)) (vI 0) = some (vB false) ∧ hh478 = hh478) ∧ q) (by intro K'; as_aux_lemma => kernel_rfl) (fun _ q => ⟨⟨load_cell agg69 f475 rfl, rfl⟩, sn479, ⟨cmp_neq (decide_eq_false (not_not_intro c486)), rfl⟩, q⟩) ?_
      refine wc_once (subc (bodyOf Tryd.prog 29) [1, 0, 1, 0, 0]) rfl ?_
      refine wc_act { tmps := #[(vL (some ⟨bs, 0, none⟩) 3 3), vZ, (vI 0), vZ, (Value.func (.func 35) #[] #[(vP bd 0)]), (vI (if defB d = true then 0 else 15)), (vL (some ⟨bs, 0, none⟩) 3 3), (vI 3), (vI 2), (vB true), (vP bs 1), (Value.func (.func 35) #[] #[(vP bd 0)]), (Value.func (.func 35) #[] #[(vP bd 0)]), (vI (if defB d = true then 0 else 15)), (vI (if defB d = true then 0 else 15)), (vB false), vZ, (vI 2)], defers := [] } (by as_aux_lemma => kernel_rfl) ?_
      obtain ⟨_, hh487, sn488, rfl, x489⟩ := at1_ok hh478 n f483
      have x494 := x485.trans x489
      by_cases c495 : ((if timB n = true then 0 else 2) : Int) = 0
      · refine wc_upd (n := 200) (T := ⟨fun r i => match r, i with | 3, 1 => some ((Value.func (.func 37) #[] #[(vP bt 0)]), hh478) | 4, 1 => some ((vI (if timB n = true then 0 else 2)), hh487) | 5, 1 => some ((vB false), hh487) | _, _ => none, fun _ => none, none⟩) (x := .normal) (h1 := hh487) [(9, (vB true)), (10, (vP bs 2)), (11, (Value.func (.func 37) #[] #[(vP bt 0)])), (4, (Value.func (.func 37) #[] #[(vP bt 0)])), (12, (Value.func (.func 37) #[] #[(vP bt 0)])), (13, (vI (if timB n = true then 0 else 2))), (5, (vI (if timB n = true then 0 else 2))), (14, (vI (if timB n = true then 0 else 2))), (15, (vB false)), (17, (vI 3)), (8, (vI 3))]
          (fun q => (loadT Tryd.prog hh478 69 (vP bs 2) = some (Value.func (.func 37) #[] #[(vP bt 0)]) ∧ hh478 = hh478) ∧ SoundCall Tryd.prog 37 #[(vP bt 0)] hh478 (vI (if timB n = true then 0 else 2)) hh487 ∧ (binA Tryd.prog .neq 29 (vI (if timB n = true then 0 else 2)) (vI 0) = some (vB false) ∧ hh487 = hh487) ∧ q) (by intro K'; as_aux_lemma => kernel_rfl) (fun _ q => ⟨⟨load_cell agg69 f484 rfl, rfl⟩, sn488, ⟨cmp_neq (decide_eq_false (not_not_intro c495)), rfl⟩, q⟩) ?_
        refine wc_once (subc (bodyOf Tryd.prog 29) [1, 0, 1, 0, 0]) rfl ?_
        refine wc_upd (n := 200) (T := ⟨fun r i => match r, i with | _, _ => none, fun _ => none, none⟩) (x := (.exit 0)) (h1 := hh487) [(9, (vB false))]
          (fun q => q) (by intro K'; as_aux_lemma => kernel_rfl) (fun _ q => q) ?_
        refine wc_upd (n := 200) (T := ⟨fun r i => match r, i with | _, _ => none, fun _ => none, none⟩) (x := .ret) (h1 := hh487) [(2, (vI 0))]
          (fun q => q) (by intro K'; as_aux_lemma => kernel_rfl) (fun _ q => q) ?_
        refine end_at (T := ⟨fun _ _ => none, fun _ => none, none⟩) (A := K (vI 0) hh487) (by kernel_rfl) ?_
        exact hK _ _ (⟨congrArg _ (chk4 c477 c486 c495), x494⟩)
      · refine wc_upd (n := 200) (T := ⟨fun r i => match r, i with | 3, 1 => some ((Value.func (.func 37) #[] #[(vP bt 0)]), hh478) | 4, 1 => some ((vI (if timB n = true then 0 else 2)), hh487) | 5, 1 => some ((vB true), hh487) | _, _ => none, fun _ => none, none⟩) (x := .ret) (h1 := hh487) [(9, (vB true)), (10, (vP bs 2)), (11, (Value.func (.func 37) #[] #[(vP bt 0)])), (4, (Value.func (.func 37) #[] #[(vP bt 0)])), (12, (Value.func (.func 37) #[] #[(vP bt 0)])), (13, (vI (if timB n = true then 0 else 2))), (5, (vI (if timB n = true then 0 else 2))), (14, (vI (if timB n = true then 0 else 2))), (15, (vB true)), (16, (vI (if timB n = true then 0 else 2))), (2, (vI (if timB n = true then 0 else 2)))]
          (fun q => (loadT Tryd.prog hh478 69 (vP bs 2) = some (Value.func (.func 37) #[] #[(vP bt 0)]) ∧ hh478 = hh478) ∧ SoundCall Tryd.prog 37 #[(vP bt 0)] hh478 (vI (if timB n = true then 0 else 2)) hh487 ∧ (binA Tryd.prog .neq 29 (vI (if timB n = true then 0 else 2)) (vI 0) = some (vB true) ∧ hh487 = hh487) ∧ q) (by intro K'; as_aux_lemma => kernel_rfl) (fun _ q => ⟨⟨load_cell agg69 f484 rfl, rfl⟩, sn488, ⟨cmp_neq (decide_eq_true c495), rfl⟩, q⟩) ?_
        refine end_at (T := ⟨fun _ _ => none, fun _ => none, none⟩) (A := K (vI (if timB n = true then 0 else 2)) hh487) (by kernel_rfl) ?_
        exact hK _ _ (⟨congrArg _ (chk3 c477 c486 c495), x494⟩)
    · refine wc_upd (n := 200) (T := ⟨fun r i => match r, i with | 3, 1 => some ((Value.func (.func 35) #[] #[(vP bd 0)]), hh469) | 4, 1 => some ((vI (if defB d = true then 0 else 15)), hh478) | 5, 1 => some ((vB true), hh478) | _, _ => none, fun _ => none, none⟩) (x := .ret) (h1 := hh478) [(9, (vB true)), (10, (vP bs 1)), (11, (Value.func (.func 35) #[] #[(vP bd 0)])), (4, (Value.func (.func 35) #[] #[(vP bd 0)])), (12, (Value.func (.func 35) #[] #[(vP bd 0)])), (13, (vI (if defB d = true then 0 else 15))), (5, (vI (if defB d = true then 0 else 15))), (14, (vI (if defB d = true then 0 else 15))), (15, (vB true)), (16, (vI (if defB d = true then 0 else 15))), (2, (vI (if defB d = true then 0 else 15)))]
        (fun q => (loadT Tryd.prog hh469 69 (vP bs 1) = some (Value.func (.func 35) #[] #[(vP bd 0)]) ∧ hh469 = hh469) ∧ SoundCall Tryd.prog 35 #[(vP bd 0)] hh469 (vI (if defB d = true then 0 else 15)) hh478 ∧ (binA Tryd.prog .neq 29 (vI (if defB d = true then 0 else 15)) (vI 0) = some (vB true) ∧ hh478 = hh478) ∧ q) (by intro K'; as_aux_lemma => kernel_rfl) (fun _ q => ⟨⟨load_cell agg69 f475 rfl, rfl⟩, sn479, ⟨cmp_neq (decide_eq_true c486), rfl⟩, q⟩) ?_
      refine end_at (T := ⟨fun _ _ => none, fun _ => none, none⟩) (A := K (vI (if defB d = true then 0 else 15)) hh478) (by kernel_rfl) ?_
      exact hK _ _ (⟨congrArg _ (chk2 c477 c486), x485⟩)
  · refine wc_upd (n := 200) (T := ⟨fun r i => match r, i with | 3, 1 => some ((Value.func (.func 39) #[] #[(vP bb 0)]), h) | 4, 1 => some ((vI (if budB t b = true then 0 else 2)), hh469) | 5, 1 => some ((vB true), hh469) | _, _ => none, fun _ => none, none⟩) (x := .ret) (h1 := hh469) [(9, (vB true)), (10, (vP bs 0)), (11, (Value.func (.func 39) #[] #[(vP bb 0)])), (4, (Value.func (.func 39) #[] #[(vP bb 0)])), (12, (Value.func (.func 39) #[] #[(vP bb 0)])), (13, (vI (if budB t b = true then 0 else 2))), (5, (vI (if budB t b = true then 0 else 2))), (14, (vI (if budB t b = true then 0 else 2))), (15, (vB true)), (16, (vI (if budB t b = true then 0 else 2))), (2, (vI (if budB t b = true then 0 else 2)))]
      (fun q => (loadT Tryd.prog h 69 (vP bs 0) = some (Value.func (.func 39) #[] #[(vP bb 0)]) ∧ h = h) ∧ SoundCall Tryd.prog 39 #[(vP bb 0)] h (vI (if budB t b = true then 0 else 2)) hh469 ∧ (binA Tryd.prog .neq 29 (vI (if budB t b = true then 0 else 2)) (vI 0) = some (vB true) ∧ hh469 = hh469) ∧ q) (by intro K'; as_aux_lemma => kernel_rfl) (fun _ q => ⟨⟨load_cell agg69 hbs rfl, rfl⟩, sn470, ⟨cmp_neq (decide_eq_true c477), rfl⟩, q⟩) ?_
    refine end_at (T := ⟨fun _ _ => none, fun _ => none, none⟩) (A := K (vI (if budB t b = true then 0 else 2)) hh469) (by kernel_rfl) ?_
    exact hK _ _ (⟨congrArg _ (chk1 c477), x476⟩)
end C27
