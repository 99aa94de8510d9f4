/- The law QuorumSizes, run. -/
import Derived.Test.YtbjehneffpbkeaaDoorKq
import Derived.KernelRfl
open Go Go.AM Go.Proofs
namespace C11
set_option maxHeartbeats 4000000 in
theorem quorum_sizes (h : Heap) (hg : At h 0 tabRow) (n : Int) (_ : -9223372036854775808 ≤ n ∧ n ≤ 9223372036854775807) (s : Int) (hs : 0 ≤ s ∧ s ≤ 18446744073709551615) : WCall Tryd.prog 5 #[(vI (n)), (Value.int .u64 (s))] h (fun v h1 => v = .bool true ∧ Ext h h1) := by
  obtain ⟨_, hh1205, sn1206, rfl, x1207⟩ := size_ok h (n)
  have x1208 := (Ext.refl h).trans x1207
  obtain ⟨_, hh1209, sn1210, rfl, x1211⟩ := rsize_ok hh1205 (n)
  have x1212 := x1208.trans x1211
  obtain ⟨_, hh1217, sn1218, a1213, c1214, rfl, o1215, x1219, b1216⟩ := all_any hh1209 (n)
  have x1220 := x1212.trans x1219
  have := allI_len (n)
  have z1222 : h.size ≤ hh1209.size := x1212.size
  have o1224 : ∀ zz, blk (Value.slice a1213 ((allI (n)).length) (c1214)) zz → h.size ≤ zz := fun zz hz => by have := b1216 zz hz; omega
  obtain ⟨_, hh1229, sn1230, a1225, c1226, rfl, o1227, x1231, b1228⟩ := rall_any hh1217 (n)
  have p1232 := o1215.keep fun b r _ q => x1231 b r q
  have x1233 := x1220.trans x1231
  have := allI_len (n)
  have z1235 : h.size ≤ hh1217.size := x1220.size
  have o1238 : ∀ zz, blk (Value.slice a1225 ((allI (n)).length) (c1226)) zz → h.size ≤ zz := fun zz hz => by have := b1228 zz hz; omega
  obtain ⟨_, _, sn1240, rfl, rfl⟩ := usame hh1229 (allI (n)) _ _ (p1232.slice ucell_size) _ _ (o1227.slice ucell_size) (by omega)
  obtain ⟨_, _, sn1243, rfl, rfl⟩ := count_ok hh1229 (s) (by omega)
  have := pop_le (s).toNat
  obtain ⟨_, hh1245, sn1246, rfl, x1247⟩ := rcount_ok hh1229 (s) (by omega)
  have x1250 := x1233.trans x1247
  have := pop_le (s).toNat
  obtain ⟨_, hh1255, sn1256, a1251, c1252, rfl, o1253, x1257, b1254⟩ := nodes_ok hh1245 (hg.keep fun b r _ q => x1250 b r q) (s) (by omega)
  have x1260 := x1250.trans x1257
  have := nodesI_len (s)
  have := pop_le (s).toNat
  have z1262 : h.size ≤ hh1245.size := x1250.size
  have o1266 : ∀ zz, blk (Value.slice a1251 ((nodesI (s)).length) (c1252)) zz → h.size ≤ zz := fun zz hz => by have := b1254 zz hz; omega
  obtain ⟨_, hh1271, sn1272, a1267, c1268, rfl, o1269, x1273, b1270⟩ := rnodes_ok hh1255 (s) (by omega)
  have p1276 := o1253.keep fun b r _ q => x1273 b r q
  have x1277 := x1260.trans x1273
  have := nodesI_len (s)
  have := pop_le (s).toNat
  have z1279 : h.size ≤ hh1255.size := x1260.size
  have o1284 : ∀ zz, blk (Value.slice a1267 ((nodesI (s)).length) (c1268)) zz → h.size ≤ zz := fun zz hz => by have := b1270 zz hz; omega
  obtain ⟨_, _, sn1286, rfl, rfl⟩ := isame hh1271 (nodesI (s)) _ _ (p1276.slice icell_size) _ _ (o1269.slice icell_size) (by omega)
  obtain ⟨_, _, sn1289, rfl, rfl⟩ := works_ok hh1271 (hg.keep fun b r _ q => x1277 b r q)
  exact hCall_of (n := 200) (T := ⟨fun r i => match r, i with | 1, 1 => some ((Value.tuple #[(vI (szV (n))), (vI (chk0 (n)))]), hh1205) | 2, 1 => some ((Value.tuple #[(vI (szV (n))), (vI (chk0 (n)))]), hh1209) | 3, 1 => some ((Value.tuple #[(Value.slice a1213 ((allI (n)).length) (c1214)), (vI (chk0 (n)))]), hh1217) | 4, 1 => some ((Value.tuple #[(Value.slice a1225 ((allI (n)).length) (c1226)), (vI (chk0 (n)))]), hh1229) | 5, 2 => some ((vB true), hh1229) | 5, 6 => some ((vB true), hh1229) | 5, 11 => some ((vB true), hh1229) | 5, 16 => some ((vB true), hh1229) | 5, 20 => some ((vI (((pop (s).toNat : Nat) : Int))), hh1229) | 5, 22 => some ((vI (((pop (s).toNat : Nat) : Int))), hh1245) | 5, 23 => some ((vB true), hh1245) | 5, 27 => some ((Value.slice a1251 ((nodesI (s)).length) (c1252)), hh1255) | 5, 29 => some ((Value.slice a1267 ((nodesI (s)).length) (c1268)), hh1271) | 5, 30 => some ((vB true), hh1271) | 5, 33 => some ((vB true), hh1271) | _, _ => none, fun _ => none, none⟩)
    (A := SoundCall Tryd.prog 21 #[(vI (n))] h (Value.tuple #[(vI (szV (n))), (vI (chk0 (n)))]) hh1205 ∧ SoundCall Tryd.prog 22 #[(vI (n))] hh1205 (Value.tuple #[(vI (szV (n))), (vI (chk0 (n)))]) hh1209 ∧ SoundCall Tryd.prog 23 #[(vI (n))] hh1209 (Value.tuple #[(Value.slice a1213 ((allI (n)).length) (c1214)), (vI (chk0 (n)))]) hh1217 ∧ SoundCall Tryd.prog 24 #[(vI (n))] hh1217 (Value.tuple #[(Value.slice a1225 ((allI (n)).length) (c1226)), (vI (chk0 (n)))]) hh1229 ∧ (binA Tryd.prog .eql 3 (vI (szV (n))) (vI (szV (n))) = some (vB true) ∧ hh1229 = hh1229) ∧ (binA Tryd.prog .eql 23 (vI (chk0 (n))) (vI (chk0 (n))) = some (vB true) ∧ hh1229 = hh1229) ∧ SoundCall Tryd.prog 25 #[(Value.slice a1213 ((allI (n)).length) (c1214)), (Value.slice a1225 ((allI (n)).length) (c1226))] hh1229 (vB true) hh1229 ∧ (binA Tryd.prog .eql 23 (vI (chk0 (n))) (vI (chk0 (n))) = some (vB true) ∧ hh1229 = hh1229) ∧ SoundCall Tryd.prog 26 #[(Value.int .u64 (s))] hh1229 (vI (((pop (s).toNat : Nat) : Int))) hh1229 ∧ SoundCall Tryd.prog 27 #[(Value.int .u64 (s))] hh1229 (vI (((pop (s).toNat : Nat) : Int))) hh1245 ∧ (binA Tryd.prog .eql 3 (vI (((pop (s).toNat : Nat) : Int))) (vI (((pop (s).toNat : Nat) : Int))) = some (vB true) ∧ hh1245 = hh1245) ∧ SoundCall Tryd.prog 29 #[(Value.int .u64 (s))] hh1245 (Value.slice a1251 ((nodesI (s)).length) (c1252)) hh1255 ∧ SoundCall Tryd.prog 30 #[(Value.int .u64 (s))] hh1255 (Value.slice a1267 ((nodesI (s)).length) (c1268)) hh1271 ∧ SoundCall Tryd.prog 28 #[(Value.slice a1251 ((nodesI (s)).length) (c1252)), (Value.slice a1267 ((nodesI (s)).length) (c1268))] hh1271 (vB true) hh1271 ∧ SoundCall Tryd.prog 18 #[] hh1271 (vB true) hh1271 ∧ (fun v h1 => v = .bool true ∧ Ext h h1) (vB true) hh1271) (by kernel_rfl) ⟨sn1206, sn1210, sn1218, sn1230, ⟨cmp_eql (decide_eq_true rfl), rfl⟩, ⟨cmp_eql (decide_eq_true rfl), rfl⟩, sn1240, ⟨cmp_eql (decide_eq_true rfl), rfl⟩, sn1243, sn1246, ⟨cmp_eql (decide_eq_true rfl), rfl⟩, sn1256, sn1272, sn1286, sn1289, ⟨rfl, x1277⟩⟩
end C11
