/- The program's tables, in the canonical heap. -/
import Derived.Test.YtjkcadbblgefdaaGreatDoorRows
import Derived.Test.YtjkcadbblgefdaaGreatDoorAmv
import Derived.Test.YtjkcadbblgefdaaGreatDoorKc
import Derived.WalkKit
import Derived.ProofKit
import Derived.OpenShut
import Derived.LaidMore
import Derived.LaidSub
import Derived.Stop.Joined
import Derived.Lib.LaidTab
import Derived.Lib.LaidU8
open Go Go.AM Go.ChangeShapes Go.WideShapes Go.ChangeAt Go.RowKit Go.Proofs
namespace C29
def laidP : DataW Unit := Go.Proofs.YtjkcadbblgefdaaGreatDoor.Rows.laid_skald_saga_phases
def laidF : DataW Unit := Go.Proofs.YtjkcadbblgefdaaGreatDoor.Rows.laid_skald_saga_follow
theorem glF : Tryz.prog.globalNamed "skald/saga.follow" = some 1 := by kernel_rfl
theorem glP : Tryz.prog.globalNamed "skald/saga.phases" = some 0 := by kernel_rfl
theorem tF : (Tryz.prog.globals[1]?).map (·.type) = some 130 := by kernel_rfl
theorem tP : (Tryz.prog.globals[0]?).map (·.type) = some 128 := by kernel_rfl
theorem uF : Tryz.prog.underlying 130 = some (.array 4 129) := by kernel_rfl
theorem uP : Tryz.prog.underlying 128 = some (.array 4 3) := by kernel_rfl
theorem u3 : Tryz.prog.underlying 3 = some (.int .i64) := by kernel_rfl
theorem cP : Tryz.prog.cellsOf 128 = 4 := by kernel_rfl
theorem c3 : Tryz.prog.cellsOf 3 = 1 := by kernel_rfl
theorem cF : Tryz.prog.cellsOf 130 = 4 := by kernel_rfl
theorem c85 : Tryz.prog.cellsOf 129 = 1 := by kernel_rfl
theorem u85 : Tryz.prog.underlying 129 = some (.func #[38, 34, 3] #[38] false) := by kernel_rfl
theorem row0 : ((begin Tryz.prog (fun _ _ => 0) default).world.heap[1]?).bind Obj.row? = some (#[.nilFunc, .nilFunc, .nilFunc, .nilFunc], 130) := by kernel_rfl
theorem row1 : ((begin Tryz.prog (fun _ _ => 0) default).world.heap[0]?).bind Obj.row? = some (#[.int .i64 0, .int .i64 0, .int .i64 0, .int .i64 0], 128) := by kernel_rfl
theorem twoG : 1 < Tryz.prog.globals.size := of_decide_eq_true (by kernel_rfl)
def rowF : Obj := .cells #[.nilFunc, .func (.func 178) #[] #[], .func (.func 179) #[] #[], .func (.func 180) #[] #[]] 130 (0, 0)
def rowP : Obj := .cells #[.int .i64 0, .int .i64 1, .int .i64 3, .int .i64 2] 128 (0, 0)
theorem nil_of_trod {w : World} {fuel : Nat} {v : Value} {q : List MemPlace} (h : DataW.trod (funcToken Tryz.prog) Tryz.prog w 0 (fun _ => true) true fuel 129 [v] = some (.nil, q)) : v = .nilFunc := by
  cases fuel with
  | zero => simp [DataW.trod] at h
  | succ n => cases v <;> simp [DataW.trod] at h; rfl
theorem tables {W : World} {l : List (String × DataW Unit)} (h : laidMetH Tryz.prog l W) (hs : W.ShapedOpen Tryz.prog) (hp : ("skald/saga.phases", laidP) ∈ l) (hf : ("skald/saga.follow", laidF) ∈ l) : W.heap[1]? = some rowF ∧ W.heap[0]? = some rowP := by
  constructor
  · obtain ⟨g, t, cs, fuel, p, hg, ht, hv, hd⟩ := h.funcs hf
    obtain rfl := Option.some.inj (glF.symm.trans hg)
    obtain rfl := Option.some.inj (tF.symm.trans ht)
    have hd' : DataW.trod (funcToken Tryz.prog) Tryz.prog W 0 (fun _ => true) true fuel 130 cs.toList = some (.agg [.nil, .held [40, 115, 107, 97, 108, 100, 47, 115, 97, 103, 97, 46, 83, 97, 103, 97, 41, 46, 102, 111, 114, 119, 97, 114, 100], .held [40, 115, 107, 97, 108, 100, 47, 115, 97, 103, 97, 46, 83, 97, 103, 97, 41, 46, 102, 114, 101, 101], .held [40, 115, 107, 97, 108, 100, 47, 115, 97, 103, 97, 46, 83, 97, 103, 97, 41, 46, 117, 110, 100, 111]], p) := hd
    have hsz : cs.toList.length = 4 := by obtain ⟨_, _, _, _, q, _⟩ := DataW.trod_array uF hd'; rw [q, cF]
    have cell : ∀ (i : Nat) (hi : i < 4) (d : DataW (List UInt8)), ([.nil, .held [40, 115, 107, 97, 108, 100, 47, 115, 97, 103, 97, 46, 83, 97, 103, 97, 41, 46, 102, 111, 114, 119, 97, 114, 100], .held [40, 115, 107, 97, 108, 100, 47, 115, 97, 103, 97, 46, 83, 97, 103, 97, 41, 46, 102, 114, 101, 101], .held [40, 115, 107, 97, 108, 100, 47, 115, 97, 103, 97, 46, 83, 97, 103, 97, 41, 46, 117, 110, 100, 111]] : List (DataW (List UInt8)))[i]? = some d →
        ∃ fuel' q, DataW.trod (funcToken Tryz.prog) Tryz.prog W 0 (fun _ => true) true fuel' 129 [cs.toList[i]] = some (d, q) := by
      intro i hi d hdd
      obtain ⟨f', d', q, h1, h2⟩ := Lib.array_elem uF hd' i hi
      rw [hdd] at h1; cases h1
      rw [c85, Nat.mul_one] at h2
      have : (cs.toList.drop i).take 1 = [cs.toList[i]] := by rw [List.drop_eq_getElem_cons (by omega)]; rfl
      rw [this] at h2
      exact ⟨f', q, h2⟩
    obtain ⟨_, _, k0⟩ := cell 0 (by decide) _ rfl
    obtain ⟨_, _, k1⟩ := cell 1 (by decide) _ rfl
    obtain ⟨_, _, k2⟩ := cell 2 (by decide) _ rfl
    obtain ⟨_, _, k3⟩ := cell 3 (by decide) _ rfl
    have e0 := nil_of_trod k0
    have e1 := func_of_trod (f0 := 178) u85 (by kernel_rfl) k1
    have e2 := func_of_trod (f0 := 179) u85 (by kernel_rfl) k2
    have e3 := func_of_trod (f0 := 180) u85 (by kernel_rfl) k3
    have ecs : cs = #[.nilFunc, .func (.func 178) #[] #[], .func (.func 179) #[] #[], .func (.func 180) #[] #[]] := by
      apply Array.toList_inj.1
      apply List.ext_getElem
      · exact hsz
      · intro i h1 h2
        rcases (show i = 0 ∨ i = 1 ∨ i = 2 ∨ i = 3 by omega) with rfl | rfl | rfl | rfl
        · exact e0
        · exact e1
        · exact e2
        · exact e3
    obtain ⟨c0, w0, _, _⟩ := hs.1 1 _ _ twoG row0
    unfold World.var? at hv
    rw [glF] at hv
    simp only [Option.bind_some, w0, Option.some.injEq] at hv
    rw [w0, hv, ecs]; rfl
  · obtain ⟨g, t, cs, fuel, p, hg, ht, hv, hd⟩ := Lib.laidMet.reads (laidMetH_iff.1 h).1 (List.mem_filter.2 ⟨hp, rfl⟩)
    obtain rfl := Option.some.inj (glP.symm.trans hg)
    obtain rfl := Option.some.inj (tP.symm.trans ht)
    have hd' : DataW.trod (fun _ => ()) Tryz.prog W 0 (fun _ => true) false fuel 128 cs.toList = some (Lib.tabData .i64 [0, 1, 3, 2], p) := hd
    have ecs := Lib.cells_of_tab uP u3 c3 cP hd'
    obtain ⟨c0, w0, _, _⟩ := hs.1 0 _ _ (by have := twoG; omega) row1
    unfold World.var? at hv
    rw [glP] at hv
    simp only [Option.bind_some, w0, Option.some.injEq] at hv
    rw [w0, hv]
    have : cs = #[.int .i64 0, .int .i64 1, .int .i64 3, .int .i64 2] := Array.toList_inj.1 ecs
    rw [this]; rfl
theorem tab0 {W : World} {L : List Addr} (h : W.heap[1]? = some rowF) : (heap0 W L)[1]? = some rowF := by
  have hlt := (Array.getElem?_eq_some_iff.1 h).1
  rw [heap0_old hlt, h]
  simp [rowF, canonObj, canonV, plainFn, canonFr]
theorem tab1 {W : World} {L : List Addr} (h : W.heap[0]? = some rowP) : (heap0 W L)[0]? = some rowP := by
  have hlt := (Array.getElem?_eq_some_iff.1 h).1
  rw [heap0_old hlt, h]
  simp [rowP, canonObj, canonV, canonFr]
theorem tabG {W : World} (h1 : W.heap[1]? = some rowF) (h0 : W.heap[0]? = some rowP) : ∀ g ∈ globList, isRow W.heap[g]? = true := by
  intro g hg
  simp only [globList, List.mem_cons, List.not_mem_nil, or_false] at hg
  rcases hg with rfl | rfl
  · rw [h0]; rfl
  · rw [h1]; rfl
end C29
