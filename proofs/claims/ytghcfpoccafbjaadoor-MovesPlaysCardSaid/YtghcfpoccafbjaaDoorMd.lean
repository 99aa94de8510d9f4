/- Moves are found, given out, taken in; busy keys. -/
import Derived.Test.YtghcfpoccafbjaaDoorMc
import Derived.KernelRfl
open Go Go.AM Go.Proofs
namespace C32
theorem size4 : (Tryd.prog.info? 4).map (·.size) = some 1 := by kernel_rfl
set_option maxHeartbeats 4000000 in
theorem find_ok (h : Heap) {t : Nat} {ms : List MoveM} {sa : Option Addr} {c : Nat} (ht : h[t]? = some (.cells #[.bool true, .slice sa ms.length c] 56 (0, 0))) (ho : OwnAt h 32 movec ms (.slice sa ms.length c)) (h64 : ms.length ≤ 64) (n : Int) (hn9 : -9223372036854775808 ≤ n ∧ n ≤ 9223372036854775807) : WCall Tryd.prog 36 #[(vP t 0), (vI (n))] h (fun v h1 => ((n < 1 ∨ ((ms.length : Nat) : Int) < n) → v = .tuple #[.pointer none, .int .i64 3]) ∧ (∀ w, indexAddrA Tryd.prog 48 (.slice sa ms.length c) (.int .i64 (n - 1)) = some w → 1 ≤ n ∧ n ≤ (ms.length : Nat) → v = .tuple #[w, .int .i64 0]) ∧ h = h1) := by
  obtain ⟨_, _, sn1203, rfl, rfl⟩ := valid_ok h ht
  by_cases c1205 : ((n) : Int) < 1
  · exact hCall_of (n := 200) (T := ⟨fun r i => match r, i with | 1, 1 => some ((vB true), h) | 3, 1 => some ((vB true), h) | _, _ => none, fun _ => none, none⟩)
      (A := SoundCall Tryd.prog 39 #[(vP t 0)] h (vB true) h ∧ (binA Tryd.prog .lss 3 (vI n) (vI 1) = some (vB true) ∧ h = h) ∧ (fun v h1 => ((n < 1 ∨ ((ms.length : Nat) : Int) < n) → v = .tuple #[.pointer none, .int .i64 3]) ∧ (∀ w, indexAddrA Tryd.prog 48 (.slice sa ms.length c) (.int .i64 (n - 1)) = some w → 1 ≤ n ∧ n ≤ (ms.length : Nat) → v = .tuple #[w, .int .i64 0]) ∧ h = h1) (vT #[vN, (vI 3)]) h) (by kernel_rfl) ⟨sn1203, ⟨cmp_lss (decide_eq_true c1205), rfl⟩, ⟨fun _ => rfl, fun _ _ w => absurd w (by omega), rfl⟩⟩
  · by_cases c1206 : (((ms.length : Nat)) : Int) < (n)
    · exact hCall_of (n := 200) (T := ⟨fun r i => match r, i with | 1, 1 => some ((vB true), h) | 3, 1 => some ((vB false), h) | 3, 7 => some ((vL sa ms.length c), h) | 3, 9 => some ((vB true), h) | _, _ => none, fun _ => none, none⟩)
        (A := SoundCall Tryd.prog 39 #[(vP t 0)] h (vB true) h ∧ (binA Tryd.prog .lss 3 (vI n) (vI 1) = some (vB false) ∧ h = h) ∧ (loadT Tryd.prog h 48 (vP t 1) = some (vL sa ms.length c) ∧ h = h) ∧ (binA Tryd.prog .gtr 3 (vI n) (vI ((ms.length : Nat))) = some (vB true) ∧ h = h) ∧ (fun v h1 => ((n < 1 ∨ ((ms.length : Nat) : Int) < n) → v = .tuple #[.pointer none, .int .i64 3]) ∧ (∀ w, indexAddrA Tryd.prog 48 (.slice sa ms.length c) (.int .i64 (n - 1)) = some w → 1 ≤ n ∧ n ≤ (ms.length : Nat) → v = .tuple #[w, .int .i64 0]) ∧ h = h1) (vT #[vN, (vI 3)]) h) (by kernel_rfl) ⟨sn1203, ⟨cmp_lss (decide_eq_false c1205), rfl⟩, ⟨load_cell agg48 ht rfl, rfl⟩, ⟨cmp_gtr (decide_eq_true c1206), rfl⟩, ⟨fun _ => rfl, fun _ _ w => absurd w (by omega), rfl⟩⟩
    · obtain ⟨i1207, v1208, e1209, l1210, g1211⟩ := list_at ms (e := ((n) - 1)) (by omega) (by first | omega | (simp only [List.length_set, List.length_append, List.length_singleton]; omega))
      obtain ⟨b1212, o1213, k1214, q1215, a1216⟩ := (ho.slice movec_size).at movec_size g1211
      exact hCall_of (n := 200) (T := ⟨fun r i => match r, i with | 1, 1 => some ((vB true), h) | 3, 1 => some ((vB false), h) | 3, 7 => some ((vL sa ms.length c), h) | 3, 9 => some ((vB false), h) | 5, 3 => some ((vL sa ms.length c), h) | 5, 5 => some ((vI ((n) - 1)), h) | 5, 6 => some ((vP b1212 o1213), h) | _, _ => none, fun _ => none, none⟩)
        (A := SoundCall Tryd.prog 39 #[(vP t 0)] h (vB true) h ∧ (binA Tryd.prog .lss 3 (vI n) (vI 1) = some (vB false) ∧ h = h) ∧ (loadT Tryd.prog h 48 (vP t 1) = some (vL sa ms.length c) ∧ h = h) ∧ (binA Tryd.prog .gtr 3 (vI n) (vI ((ms.length : Nat))) = some (vB false) ∧ h = h) ∧ (loadT Tryd.prog h 48 (vP t 1) = some (vL sa ms.length c) ∧ h = h) ∧ (binA Tryd.prog .sub 3 (vI n) (vI 1) = some (vI ((n) - 1)) ∧ h = h) ∧ (indexAddrA Tryd.prog 48 (vL sa ms.length c) (vI ((n) - 1)) = some (vP b1212 o1213) ∧ h = h) ∧ (fun v h1 => ((n < 1 ∨ ((ms.length : Nat) : Int) < n) → v = .tuple #[.pointer none, .int .i64 3]) ∧ (∀ w, indexAddrA Tryd.prog 48 (.slice sa ms.length c) (.int .i64 (n - 1)) = some w → 1 ≤ n ∧ n ≤ (ms.length : Nat) → v = .tuple #[w, .int .i64 0]) ∧ h = h1) (vT #[(vP b1212 o1213), (vI 0)]) h) (by kernel_rfl) ⟨sn1203, ⟨cmp_lss (decide_eq_false c1205), rfl⟩, ⟨load_cell agg48 ht rfl, rfl⟩, ⟨cmp_gtr (decide_eq_false c1206), rfl⟩, ⟨load_cell agg48 ht rfl, rfl⟩, ⟨sub_i64 (by omega) (by omega), rfl⟩, ⟨a1216 und48 size32 e1209, rfl⟩, ⟨fun w => absurd w (by omega), fun w hp _ => by rw [a1216 und48 size32 e1209] at hp; cases hp; rfl, rfl⟩⟩
set_option maxHeartbeats 4000000 in
theorem find_nil (h : Heap)  (n : Int) : WCall Tryd.prog 36 #[(Value.pointer none), (vI (n))] h (fun v h1 => v = .tuple #[.pointer none, .int .i64 1] ∧ h = h1) := by
  obtain ⟨_, _, sn1219, rfl, rfl⟩ := valid_nil h
  exact hCall_of (n := 200) (T := ⟨fun r i => match r, i with | 1, 1 => some ((vB false), h) | _, _ => none, fun _ => none, none⟩)
    (A := SoundCall Tryd.prog 39 #[vN] h (vB false) h ∧ (fun v h1 => v = .tuple #[.pointer none, .int .i64 1] ∧ h = h1) (vT #[vN, (vI 1)]) h) (by kernel_rfl) ⟨sn1219, ⟨rfl, rfl⟩⟩
set_option maxHeartbeats 4000000 in
theorem find_bad (h : Heap) {t : Nat} {sa : Option Addr} {n c : Nat} {fr : Nat × Nat} (ht : h[t]? = some (.cells #[.bool false, .slice sa n c] 56 fr)) (n : Int) : WCall Tryd.prog 36 #[(vP t 0), (vI (n))] h (fun v h1 => v = .tuple #[.pointer none, .int .i64 1] ∧ h = h1) := by
  obtain ⟨_, _, sn1222, rfl, rfl⟩ := valid_bad h ht
  exact hCall_of (n := 200) (T := ⟨fun r i => match r, i with | 1, 1 => some ((vB false), h) | _, _ => none, fun _ => none, none⟩)
    (A := SoundCall Tryd.prog 39 #[(vP t 0)] h (vB false) h ∧ (fun v h1 => v = .tuple #[.pointer none, .int .i64 1] ∧ h = h1) (vT #[vN, (vI 1)]) h) (by kernel_rfl) ⟨sn1222, ⟨rfl, rfl⟩⟩
set_option maxHeartbeats 4000000 in
theorem get_ok (h : Heap) {O : Nat → Prop} {t : Nat} {ms : List MoveM} (hT : TabAt 56 32 h O t ms) (h64 : ms.length ≤ 64) (n : Int) (hn9 : -9223372036854775808 ≤ n ∧ n ≤ 9223372036854775807) : WCall Tryd.prog 15 #[(vP t 0), (vI (n))] h (fun v h1 => v = .tuple #[.agg #[(vS (getM ms n).rf), (vS (getM ms n).rt), (vI ((getM ms n).f)), (vI ((getM ms n).t)), (vI ((getM ms n).st)), (vS (getM ms n).d)], .int .i64 (findE ms n)] ∧ Ext h h1) := by
  have hT' := hT
  obtain ⟨a1224, cc1225, T⟩ := hT
  obtain ⟨b1228, eb1229⟩ : ∃ zq, zq = h.size := ⟨_, rfl⟩
  obtain ⟨h1226, e1227⟩ : ∃ zq, zq = h.push (.cells #[(vS .empty), (vS .empty), (vI 0), (vI 0), (vI 0), (vS .empty)] 32 (0, 0)) := ⟨_, rfl⟩
  have f1230 := push_new e1227
  rw [← eb1229] at f1230
  have x1233 : Ext h h1226 := by rw [e1227]; exact Ext.push _ _
  have o1234 : h.size ≤ b1228 := by have := (Ext.refl h).size; omega
  have x1235 := (Ext.refl h).trans x1233
  obtain ⟨w1236, _, s1237, q1238, q1239, rfl⟩ := find_ok h1226 (x1235 _ _ T.row) (T.own.keep fun b r _ q => x1235 b r q) h64 (n) (by omega)
  by_cases c1240 : ((n) < 1 ∨ ((ms.length : Nat) : Int) < (n))
  · have s1241 := s1237
    rw [q1238 c1240] at s1241
    obtain ⟨h1242, e1243⟩ : ∃ zq, zq = h1226.setIfInBounds b1228 (.cells #[(vS .empty), (vS .empty), (vI 0), (vI 0), (vI 0), (vS .empty)] 32 (0, 0)) := ⟨_, rfl⟩
    have f1244 := set_same e1243 f1230
    have x1246 := Ext.setNew x1235 e1243 o1234
    exact hCall_of (n := 200) (T := ⟨fun r i => match r, i with | 0, 0 => some ((vP b1228 0), h1226) | 1, 2 => some ((vT #[vN, (vI 3)]), h1226) | 3, 2 => some (undef, h1242) | _, _ => none, fun _ => none, some [(vA #[(vS .empty), (vS .empty), (vI 0), (vI 0), (vI 0), (vS .empty)]), (vI 3)]⟩)
      (A := ((vP b1228 0) = (Value.pointer (some ⟨h.size, 0, none⟩)) ∧ h1226 = h.push (.cells #[(vS .empty), (vS .empty), (vI 0), (vI 0), (vI 0), (vS .empty)] 32 (0, 0))) ∧ SoundCall Tryd.prog 36 #[(vP t 0), (vI n)] h1226 (vT #[vN, (vI 3)]) h1226 ∧ (storeT Tryd.prog h1226 32 (vP b1228 0) (vA #[(vS .empty), (vS .empty), (vI 0), (vI 0), (vI 0), (vS .empty)]) = some h1242 ∧ (undef : Value) = undef) ∧ (loadT Tryd.prog h1242 32 (vP b1228 0) = some (vA #[(vS .empty), (vS .empty), (vI 0), (vI 0), (vI 0), (vS .empty)]) ∧ (vI 3) = (vI 3) ∧ True) ∧ (fun v h1 => v = .tuple #[.agg #[(vS (getM ms n).rf), (vS (getM ms n).rt), (vI ((getM ms n).f)), (vI ((getM ms n).t)), (vI ((getM ms n).st)), (vS (getM ms n).d)], .int .i64 (findE ms n)] ∧ Ext h h1) (vT #[(vA #[(vS .empty), (vS .empty), (vI 0), (vI 0), (vI 0), (vS .empty)]), (vI 3)]) h1242) (by kernel_rfl) ⟨⟨by rw [eb1229], e1227⟩, s1241, ⟨by rw [e1243]; exact store_cells size32 rfl f1230 (by decide) (by simp) rfl (by kernel_rfl), rfl⟩, ⟨load_agg agg32 size32 f1244 (by simp) (by kernel_rfl), rfl, trivial⟩, ⟨by rw [getM_out (by omega), findE_out (by omega)]; rfl, x1246⟩⟩
  · obtain ⟨i1247, v1248, e1249, l1250, g1251⟩ := list_at ms (e := (n) - 1) (by omega) (by omega)
    obtain ⟨b1252, o1253, q1254, a1255, k1256, u1257⟩ := (T.own.keep fun b r _ q => x1235 b r q).store movec_size g1251
    have s1258 := s1237
    rw [q1239 _ (a1255 und48 size32 e1249) (by omega)] at s1258
    obtain ⟨h1260, e1261⟩ : ∃ zq, zq = h1226.setIfInBounds b1228 (.cells #[(vS v1248.rf), (vS v1248.rt), (vI (v1248.f)), (vI (v1248.t)), (vI (v1248.st)), (vS v1248.d)] 32 (0, 0)) := ⟨_, rfl⟩
    have f1262 := set_same e1261 f1230
    have x1264 := Ext.setNew x1235 e1261 o1234
    exact hCall_of (n := 200) (T := ⟨fun r i => match r, i with | 0, 0 => some ((vP b1228 0), h1226) | 1, 2 => some ((vT #[(vP b1252 o1253), (vI 0)]), h1226) | 4, 2 => some ((vA #[(vS v1248.rf), (vS v1248.rt), (vI v1248.f), (vI v1248.t), (vI v1248.st), (vS v1248.d)]), h1226) | 4, 3 => some (undef, h1260) | _, _ => none, fun _ => none, some [(vA #[(vS v1248.rf), (vS v1248.rt), (vI v1248.f), (vI v1248.t), (vI v1248.st), (vS v1248.d)]), (vI 0)]⟩)
      (A := ((vP b1228 0) = (Value.pointer (some ⟨h.size, 0, none⟩)) ∧ h1226 = h.push (.cells #[(vS .empty), (vS .empty), (vI 0), (vI 0), (vI 0), (vS .empty)] 32 (0, 0))) ∧ SoundCall Tryd.prog 36 #[(vP t 0), (vI n)] h1226 (vT #[(vP b1252 o1253), (vI 0)]) h1226 ∧ (loadT Tryd.prog h1226 32 (vP b1252 o1253) = some (vA #[(vS v1248.rf), (vS v1248.rt), (vI v1248.f), (vI v1248.t), (vI v1248.st), (vS v1248.d)]) ∧ h1226 = h1226) ∧ (storeT Tryd.prog h1226 32 (vP b1228 0) (vA #[(vS v1248.rf), (vS v1248.rt), (vI v1248.f), (vI v1248.t), (vI v1248.st), (vS v1248.d)]) = some h1260 ∧ (undef : Value) = undef) ∧ (loadT Tryd.prog h1260 32 (vP b1228 0) = some (vA #[(vS v1248.rf), (vS v1248.rt), (vI v1248.f), (vI v1248.t), (vI v1248.st), (vS v1248.d)]) ∧ (vI 0) = (vI 0) ∧ True) ∧ (fun v h1 => v = .tuple #[.agg #[(vS (getM ms n).rf), (vS (getM ms n).rt), (vI ((getM ms n).f)), (vI ((getM ms n).t)), (vI ((getM ms n).st)), (vS (getM ms n).d)], .int .i64 (findE ms n)] ∧ Ext h h1) (vT #[(vA #[(vS v1248.rf), (vS v1248.rt), (vI v1248.f), (vI v1248.t), (vI v1248.st), (vS v1248.d)]), (vI 0)]) h1260) (by kernel_rfl) ⟨⟨by rw [eb1229], e1227⟩, s1258, ⟨k1256.agg (j := 0) agg32 size32 (show 0 + 6 ≤ 6 by decide) (by kernel_rfl), rfl⟩, ⟨by rw [e1261]; exact store_cells size32 rfl f1230 (by decide) (by simp) rfl (by kernel_rfl), rfl⟩, ⟨load_agg agg32 size32 f1262 (by simp) (by kernel_rfl), rfl, trivial⟩, ⟨by rw [getM_at g1251 (by omega), findE_at (by omega) (by omega)], x1264⟩⟩
set_option maxHeartbeats 4000000 in
theorem given_ok (h : Heap) {O : Nat → Prop} {t : Nat} {ms : List MoveM} (hT : TabAt 56 32 h O t ms) (h64 : ms.length ≤ 64) (n : Int) (hn9 : -9223372036854775808 ≤ n ∧ n ≤ 9223372036854775807) (d : ByteArray) : WCall Tryd.prog 22 #[(vP t 0), (vI (n)), (vS d)] h (fun v h1 => v = .int .i64 (givenE ms n d) ∧ Chg O h h1 ∧ ∃ O', TabAt 56 32 h1 O' t (givenL ms n d) ∧ ∀ b, O' b → O b ∨ h.size ≤ b) := by
  have hT' := hT
  obtain ⟨a1265, cc1266, T⟩ := hT
  obtain ⟨w1267, _, s1268, q1269, q1270, rfl⟩ := find_ok h T.row T.own h64 (n) (by omega)
  by_cases c1271 : ((n) < 1 ∨ ((ms.length : Nat) : Int) < (n))
  · have s1272 := s1268
    rw [q1269 c1271] at s1272
    have ee : givenE ms n d = 3 := by unfold givenE; rw [findE_out (by omega), if_neg (by decide)]
    exact hCall_of (n := 200) (T := ⟨fun r i => match r, i with | 1, 2 => some ((vT #[vN, (vI 3)]), h) | _, _ => none, fun _ => none, none⟩)
      (A := SoundCall Tryd.prog 36 #[(vP t 0), (vI n)] h (vT #[vN, (vI 3)]) h ∧ (fun v h1 => v = .int .i64 (givenE ms n d) ∧ Chg O h h1 ∧ ∃ O', TabAt 56 32 h1 O' t (givenL ms n d) ∧ ∀ b, O' b → O b ∨ h.size ≤ b) (vI 3) h) (by kernel_rfl) ⟨s1272, ⟨by rw [ee], Chg.refl h, O, by unfold givenL; rw [ee, if_neg (by decide)]; exact hT', fun b hb => .inl hb⟩⟩
  · obtain ⟨i1273, v1274, e1275, l1276, g1277⟩ := list_at ms (e := (n) - 1) (by omega) (by omega)
    obtain ⟨b1278, o1279, q1280, a1281, k1282, u1283⟩ := (T.own.keep fun b r _ q => (Ext.refl h) b r q).store movec_size g1277
    have s1284 := s1268
    rw [q1270 _ (a1281 und48 size32 e1275) (by omega)] at s1284
    by_cases c1286 : (65536 : Int) < ((d.size : Nat))
    · have ee : givenE ms n d = 11 := by unfold givenE; rw [if_pos (findE_at (l := ms) (n := n) (by omega) (by omega)), if_pos (by omega)]
      exact hCall_of (n := 200) (T := ⟨fun r i => match r, i with | 1, 2 => some ((vT #[(vP b1278 o1279), (vI 0)]), h) | 4, 2 => some ((vB true), h) | _, _ => none, fun _ => none, none⟩)
        (A := SoundCall Tryd.prog 36 #[(vP t 0), (vI n)] h (vT #[(vP b1278 o1279), (vI 0)]) h ∧ (binA Tryd.prog .gtr 3 (vI ((d.size : Nat))) (vI 65536) = some (vB true) ∧ h = h) ∧ (fun v h1 => v = .int .i64 (givenE ms n d) ∧ Chg O h h1 ∧ ∃ O', TabAt 56 32 h1 O' t (givenL ms n d) ∧ ∀ b, O' b → O b ∨ h.size ≤ b) (vI 11) h) (by kernel_rfl) ⟨s1284, ⟨cmp_gtr (decide_eq_true c1286), rfl⟩, ⟨by rw [ee], Chg.refl h, O, by unfold givenL; rw [ee, if_neg (by decide)]; exact hT', fun b hb => .inl hb⟩⟩
    · by_cases c1287 : ((v1274.st) : Int) = 1
      · obtain ⟨h1288, e1289, p1290, c1291, z1292⟩ := u1283 (j := 4) (y := { v1274 with st := 2 }) (u := (vI 2)) size3 rfl rfl (by decide) (by kernel_rfl)
        have c1293 : Chg (blk (Value.slice a1265 (ms.length) (cc1266))) h h1288 := c1291.weak fun q hq => by subst hq; exact q1280
        have z1294 : h.size ≤ h.size := (Chg.ext (O := O) (Ext.refl h)).size
        have x1295 := (Chg.ext (O := O) (Ext.refl h)).then c1293 (fun b hb => .inl ((fun b hb => (T.foot b).2 (.inr hb)) b hb))
        have f1296 := c1293.same _ _ ((Ext.refl h) _ _ T.row) (fun hb => (T.own.keep fun b r _ q => (Ext.refl h) b r q).ne ((Ext.refl h) _ _ T.row) (by decide) hb rfl)
        have g1304 : (ms.set i1273 { v1274 with st := 2 })[i1273]? = some { v1274 with st := 2 } := by rw [List.getElem?_set_self (by first | exact l1276 | (simp only [List.length_set]; exact l1276))]
        obtain ⟨b1297, o1298, q1299, a1300, k1301, u1302⟩ := p1290.store movec_size g1304
        have e1303 := (a1281 und48 size32 (kd := .i64) (j := (i1273 : Int)) rfl).symm.trans (a1300 und48 size32 rfl)
        simp only [Option.some.injEq, Value.pointer.injEq, Addr.mk.injEq, and_true] at e1303
        obtain ⟨e1e1303, e2e1303⟩ := e1303
        subst e1e1303
        subst e2e1303
        obtain ⟨h1305, e1306, p1307, c1308, z1309⟩ := u1302 (j := 5) (y := { ({ v1274 with st := 2 }) with d := d }) (u := (vS d)) size9 rfl rfl (by decide) (by kernel_rfl)
        have c1310 : Chg (blk (Value.slice a1265 (ms.length) (cc1266))) h1288 h1305 := c1308.weak fun q hq => by subst hq; exact q1299
        have z1311 : h.size ≤ h1288.size := x1295.size
        have x1312 := x1295.then c1310 (fun b hb => .inl ((fun b hb => (T.foot b).2 (.inr hb)) b hb))
        have f1313 := c1310.same _ _ f1296 (fun hb => p1290.ne f1296 (by decide) hb rfl)
        have g1321 : ((ms.set i1273 { v1274 with st := 2 }).set i1273 { ({ v1274 with st := 2 }) with d := d })[i1273]? = some { ({ v1274 with st := 2 }) with d := d } := by rw [List.getElem?_set_self (by first | exact l1276 | (simp only [List.length_set]; exact l1276))]
        obtain ⟨b1314, o1315, q1316, a1317, k1318, u1319⟩ := p1307.store movec_size g1321
        have e1320 := (a1281 und48 size32 (kd := .i64) (j := (i1273 : Int)) rfl).symm.trans (a1317 und48 size32 rfl)
        simp only [Option.some.injEq, Value.pointer.injEq, Addr.mk.injEq, and_true] at e1320
        obtain ⟨e1e1320, e2e1320⟩ := e1320
        subst e1e1320
        subst e2e1320
        have ee : givenE ms n d = 0 := by unfold givenE; rw [if_pos (findE_at (l := ms) (n := n) (by omega) (by omega)), if_neg (by omega), getM_at g1277 (by omega), if_pos c1287]
        have el9 : givenL ms n d = ms.set i1273 { v1274 with st := 2, d := d } := by unfold givenL; rw [if_pos ee, getM_at g1277 (by omega), show (n - 1).toNat = i1273 by omega]
        have ln9 : (givenL ms n d).length = ms.length := by rw [el9, List.length_set]
        have ow9 := p1307
        rw [List.set_set] at ow9
        exact hCall_of (n := 200) (T := ⟨fun r i => match r, i with | 1, 2 => some ((vT #[(vP b1278 o1279), (vI 0)]), h) | 4, 2 => some ((vB false), h) | 6, 3 => some ((vI v1274.st), h) | 6, 4 => some ((vB false), h) | 8, 5 => some (undef, h1288) | 8, 8 => some (undef, h1305) | _, _ => none, fun _ => none, none⟩)
          (A := SoundCall Tryd.prog 36 #[(vP t 0), (vI n)] h (vT #[(vP b1278 o1279), (vI 0)]) h ∧ (binA Tryd.prog .gtr 3 (vI ((d.size : Nat))) (vI 65536) = some (vB false) ∧ h = h) ∧ (loadT Tryd.prog h 3 (vP b1278 (o1279 + 4)) = some (vI v1274.st) ∧ h = h) ∧ (binA Tryd.prog .neq 3 (vI v1274.st) (vI 1) = some (vB false) ∧ h = h) ∧ (storeT Tryd.prog h 3 (vP b1278 (o1279 + 4)) (vI 2) = some h1288 ∧ (undef : Value) = undef) ∧ (storeT Tryd.prog h1288 9 (vP b1278 (o1279 + 5)) (vS d) = some h1305 ∧ (undef : Value) = undef) ∧ (fun v h1 => v = .int .i64 (givenE ms n d) ∧ Chg O h h1 ∧ ∃ O', TabAt 56 32 h1 O' t (givenL ms n d) ∧ ∀ b, O' b → O b ∨ h.size ≤ b) (vI 0) h1305) (by kernel_rfl) ⟨s1284, ⟨cmp_gtr (decide_eq_false c1286), rfl⟩, ⟨k1282.cell (j := 4) agg3 rfl, rfl⟩, ⟨cmp_neq (decide_eq_false (not_not_intro c1287)), rfl⟩, ⟨e1289, rfl⟩, ⟨e1306, rfl⟩, ⟨by rw [ee], x1312, O, ⟨a1265, cc1266, by rw [ln9]; exact f1313, by rw [ln9, el9]; exact ow9, by rw [ln9]; exact T.foot⟩, fun b hb => .inl hb⟩⟩
      · have ee : givenE ms n d = 9 := by unfold givenE; rw [if_pos (findE_at (l := ms) (n := n) (by omega) (by omega)), if_neg (by omega), getM_at g1277 (by omega), if_neg c1287]
        exact hCall_of (n := 200) (T := ⟨fun r i => match r, i with | 1, 2 => some ((vT #[(vP b1278 o1279), (vI 0)]), h) | 4, 2 => some ((vB false), h) | 6, 3 => some ((vI v1274.st), h) | 6, 4 => some ((vB true), h) | _, _ => none, fun _ => none, none⟩)
          (A := SoundCall Tryd.prog 36 #[(vP t 0), (vI n)] h (vT #[(vP b1278 o1279), (vI 0)]) h ∧ (binA Tryd.prog .gtr 3 (vI ((d.size : Nat))) (vI 65536) = some (vB false) ∧ h = h) ∧ (loadT Tryd.prog h 3 (vP b1278 (o1279 + 4)) = some (vI v1274.st) ∧ h = h) ∧ (binA Tryd.prog .neq 3 (vI v1274.st) (vI 1) = some (vB true) ∧ h = h) ∧ (fun v h1 => v = .int .i64 (givenE ms n d) ∧ Chg O h h1 ∧ ∃ O', TabAt 56 32 h1 O' t (givenL ms n d) ∧ ∀ b, O' b → O b ∨ h.size ≤ b) (vI 9) h) (by kernel_rfl) ⟨s1284, ⟨cmp_gtr (decide_eq_false c1286), rfl⟩, ⟨k1282.cell (j := 4) agg3 rfl, rfl⟩, ⟨cmp_neq (decide_eq_true c1287), rfl⟩, ⟨by rw [ee], Chg.refl h, O, by unfold givenL; rw [ee, if_neg (by decide)]; exact hT', fun b hb => .inl hb⟩⟩
set_option maxHeartbeats 4000000 in
theorem taken_ok (h : Heap) {O : Nat → Prop} {t : Nat} {ms : List MoveM} (hT : TabAt 56 32 h O t ms) (h64 : ms.length ≤ 64) (n : Int) (hn9 : -9223372036854775808 ≤ n ∧ n ≤ 9223372036854775807) : WCall Tryd.prog 23 #[(vP t 0), (vI (n))] h (fun v h1 => v = .int .i64 (takenE ms n) ∧ Chg O h h1 ∧ ∃ O', TabAt 56 32 h1 O' t (takenL ms n) ∧ ∀ b, O' b → O b ∨ h.size ≤ b) := by
  have hT' := hT
  obtain ⟨a1322, cc1323, T⟩ := hT
  obtain ⟨w1324, _, s1325, q1326, q1327, rfl⟩ := find_ok h T.row T.own h64 (n) (by omega)
  by_cases c1328 : ((n) < 1 ∨ ((ms.length : Nat) : Int) < (n))
  · have s1329 := s1325
    rw [q1326 c1328] at s1329
    have ee : takenE ms n = 3 := by unfold takenE; rw [findE_out (by omega), if_neg (by decide)]
    exact hCall_of (n := 200) (T := ⟨fun r i => match r, i with | 1, 2 => some ((vT #[vN, (vI 3)]), h) | _, _ => none, fun _ => none, none⟩)
      (A := SoundCall Tryd.prog 36 #[(vP t 0), (vI n)] h (vT #[vN, (vI 3)]) h ∧ (fun v h1 => v = .int .i64 (takenE ms n) ∧ Chg O h h1 ∧ ∃ O', TabAt 56 32 h1 O' t (takenL ms n) ∧ ∀ b, O' b → O b ∨ h.size ≤ b) (vI 3) h) (by kernel_rfl) ⟨s1329, ⟨by rw [ee], Chg.refl h, O, by unfold takenL; rw [ee, if_neg (by decide)]; exact hT', fun b hb => .inl hb⟩⟩
  · obtain ⟨i1330, v1331, e1332, l1333, g1334⟩ := list_at ms (e := (n) - 1) (by omega) (by omega)
    obtain ⟨b1335, o1336, q1337, a1338, k1339, u1340⟩ := (T.own.keep fun b r _ q => (Ext.refl h) b r q).store movec_size g1334
    have s1341 := s1325
    rw [q1327 _ (a1338 und48 size32 e1332) (by omega)] at s1341
    by_cases c1343 : ((v1331.st) : Int) = 2
    · obtain ⟨h1344, e1345, p1346, c1347, z1348⟩ := u1340 (j := 4) (y := { v1331 with st := 3 }) (u := (vI 3)) size3 rfl rfl (by decide) (by kernel_rfl)
      have c1349 : Chg (blk (Value.slice a1322 (ms.length) (cc1323))) h h1344 := c1347.weak fun q hq => by subst hq; exact q1337
      have z1350 : h.size ≤ h.size := (Chg.ext (O := O) (Ext.refl h)).size
      have x1351 := (Chg.ext (O := O) (Ext.refl h)).then c1349 (fun b hb => .inl ((fun b hb => (T.foot b).2 (.inr hb)) b hb))
      have f1352 := c1349.same _ _ ((Ext.refl h) _ _ T.row) (fun hb => (T.own.keep fun b r _ q => (Ext.refl h) b r q).ne ((Ext.refl h) _ _ T.row) (by decide) hb rfl)
      have g1360 : (ms.set i1330 { v1331 with st := 3 })[i1330]? = some { v1331 with st := 3 } := by rw [List.getElem?_set_self (by first | exact l1333 | (simp only [List.length_set]; exact l1333))]
      obtain ⟨b1353, o1354, q1355, a1356, k1357, u1358⟩ := p1346.store movec_size g1360
      have e1359 := (a1338 und48 size32 (kd := .i64) (j := (i1330 : Int)) rfl).symm.trans (a1356 und48 size32 rfl)
      simp only [Option.some.injEq, Value.pointer.injEq, Addr.mk.injEq, and_true] at e1359
      obtain ⟨e1e1359, e2e1359⟩ := e1359
      subst e1e1359
      subst e2e1359
      obtain ⟨h1361, e1362, p1363, c1364, z1365⟩ := u1358 (j := 5) (y := { ({ v1331 with st := 3 }) with d := .empty }) (u := (vS .empty)) size9 rfl rfl (by decide) (by kernel_rfl)
      have c1366 : Chg (blk (Value.slice a1322 (ms.length) (cc1323))) h1344 h1361 := c1364.weak fun q hq => by subst hq; exact q1355
      have z1367 : h.size ≤ h1344.size := x1351.size
      have x1368 := x1351.then c1366 (fun b hb => .inl ((fun b hb => (T.foot b).2 (.inr hb)) b hb))
      have f1369 := c1366.same _ _ f1352 (fun hb => p1346.ne f1352 (by decide) hb rfl)
      have g1377 : ((ms.set i1330 { v1331 with st := 3 }).set i1330 { ({ v1331 with st := 3 }) with d := .empty })[i1330]? = some { ({ v1331 with st := 3 }) with d := .empty } := by rw [List.getElem?_set_self (by first | exact l1333 | (simp only [List.length_set]; exact l1333))]
      obtain ⟨b1370, o1371, q1372, a1373, k1374, u1375⟩ := p1363.store movec_size g1377
      have e1376 := (a1338 und48 size32 (kd := .i64) (j := (i1330 : Int)) rfl).symm.trans (a1373 und48 size32 rfl)
      simp only [Option.some.injEq, Value.pointer.injEq, Addr.mk.injEq, and_true] at e1376
      obtain ⟨e1e1376, e2e1376⟩ := e1376
      subst e1e1376
      subst e2e1376
      have ee : takenE ms n = 0 := by unfold takenE; rw [if_pos (findE_at (l := ms) (n := n) (by omega) (by omega)), getM_at g1334 (by omega), if_pos c1343]
      have el9 : takenL ms n = ms.set i1330 { v1331 with st := 3, d := .empty } := by unfold takenL; rw [if_pos ee, getM_at g1334 (by omega), show (n - 1).toNat = i1330 by omega]
      have ln9 : (takenL ms n).length = ms.length := by rw [el9, List.length_set]
      have ow9 := p1363
      rw [List.set_set] at ow9
      exact hCall_of (n := 200) (T := ⟨fun r i => match r, i with | 1, 2 => some ((vT #[(vP b1335 o1336), (vI 0)]), h) | 4, 3 => some ((vI v1331.st), h) | 4, 4 => some ((vB false), h) | 6, 4 => some (undef, h1344) | 6, 7 => some (undef, h1361) | _, _ => none, fun _ => none, none⟩)
        (A := SoundCall Tryd.prog 36 #[(vP t 0), (vI n)] h (vT #[(vP b1335 o1336), (vI 0)]) h ∧ (loadT Tryd.prog h 3 (vP b1335 (o1336 + 4)) = some (vI v1331.st) ∧ h = h) ∧ (binA Tryd.prog .neq 3 (vI v1331.st) (vI 2) = some (vB false) ∧ h = h) ∧ (storeT Tryd.prog h 3 (vP b1335 (o1336 + 4)) (vI 3) = some h1344 ∧ (undef : Value) = undef) ∧ (storeT Tryd.prog h1344 9 (vP b1335 (o1336 + 5)) (vS .empty) = some h1361 ∧ (undef : Value) = undef) ∧ (fun v h1 => v = .int .i64 (takenE ms n) ∧ Chg O h h1 ∧ ∃ O', TabAt 56 32 h1 O' t (takenL ms n) ∧ ∀ b, O' b → O b ∨ h.size ≤ b) (vI 0) h1361) (by kernel_rfl) ⟨s1341, ⟨k1339.cell (j := 4) agg3 rfl, rfl⟩, ⟨cmp_neq (decide_eq_false (not_not_intro c1343)), rfl⟩, ⟨e1345, rfl⟩, ⟨e1362, rfl⟩, ⟨by rw [ee], x1368, O, ⟨a1322, cc1323, by rw [ln9]; exact f1369, by rw [ln9, el9]; exact ow9, by rw [ln9]; exact T.foot⟩, fun b hb => .inl hb⟩⟩
    · have ee : takenE ms n = 9 := by unfold takenE; rw [if_pos (findE_at (l := ms) (n := n) (by omega) (by omega)), getM_at g1334 (by omega), if_neg c1343]
      exact hCall_of (n := 200) (T := ⟨fun r i => match r, i with | 1, 2 => some ((vT #[(vP b1335 o1336), (vI 0)]), h) | 4, 3 => some ((vI v1331.st), h) | 4, 4 => some ((vB true), h) | _, _ => none, fun _ => none, none⟩)
        (A := SoundCall Tryd.prog 36 #[(vP t 0), (vI n)] h (vT #[(vP b1335 o1336), (vI 0)]) h ∧ (loadT Tryd.prog h 3 (vP b1335 (o1336 + 4)) = some (vI v1331.st) ∧ h = h) ∧ (binA Tryd.prog .neq 3 (vI v1331.st) (vI 2) = some (vB true) ∧ h = h) ∧ (fun v h1 => v = .int .i64 (takenE ms n) ∧ Chg O h h1 ∧ ∃ O', TabAt 56 32 h1 O' t (takenL ms n) ∧ ∀ b, O' b → O b ∨ h.size ≤ b) (vI 9) h) (by kernel_rfl) ⟨s1341, ⟨k1339.cell (j := 4) agg3 rfl, rfl⟩, ⟨cmp_neq (decide_eq_true c1343), rfl⟩, ⟨by rw [ee], Chg.refl h, O, by unfold takenL; rw [ee, if_neg (by decide)]; exact hT', fun b hb => .inl hb⟩⟩
set_option maxHeartbeats 4000000 in
theorem busy_ok (h : Heap) {O : Nat → Prop} {t : Nat} {ms : List MoveM} (hT : TabAt 56 32 h O t ms) (h64 : ms.length ≤ 64) (key : ByteArray) : WCall Tryd.prog 19 #[(vP t 0), (vS key)] h (fun v h1 => v = .bool (busyB ms key) ∧ Ext h h1) := by
  have hT' := hT
  obtain ⟨a1378, cc1379, T⟩ := hT
  suffices H : ∀ K : Value → Heap → Prop, (∀ v h1, (fun v h1 => v = .bool (busyB ms key) ∧ Ext h h1) v h1 → K v h1) → WCall Tryd.prog 19 #[(vP t 0), (vS key)] h K from H _ fun _ _ q => q
  intro K hK
  refine wcall_at { tmps := #[(vP t 0), (vS key), vZ, vZ, vZ, vZ, vZ, vZ, vZ, vZ, vZ, vZ, vZ, vZ, vZ], defers := [] } (by kernel_rfl) ?_
  refine wc_seq' (subc (bodyOf Tryd.prog 19) [0]) (subc (bodyOf Tryd.prog 19) [1]) (by kernel_rfl) ?_
  obtain ⟨b1382, eb1383⟩ : ∃ zq, zq = h.size := ⟨_, rfl⟩
  obtain ⟨h1380, e1381⟩ : ∃ zq, zq = h.push (.cells #[(vS key)] 9 (0, 0)) := ⟨_, rfl⟩
  have f1384 := push_new e1381
  rw [← eb1383] at f1384
  have x1387 : Ext h h1380 := by rw [e1381]; exact Ext.push _ _
  have o1388 : h.size ≤ b1382 := by have := (Ext.refl h).size; omega
  have x1389 := (Ext.refl h).trans x1387
  obtain ⟨b1392, eb1393⟩ : ∃ zq, zq = h1380.size := ⟨_, rfl⟩
  obtain ⟨h1390, e1391⟩ : ∃ zq, zq = h1380.push (.cells #[(vB false)] 4 (0, 0)) := ⟨_, rfl⟩
  have f1394 := push_new e1391
  rw [← eb1393] at f1394
  have x1398 : Ext h1380 h1390 := by rw [e1391]; exact Ext.push _ _
  have o1399 : h.size ≤ b1392 := by have := x1389.size; omega
  have f1400 := x1398 _ _ f1384
  have x1401 := x1389.trans x1398
  refine wc_upd (n := 200) (T := ⟨fun r i => match r, i with | 0, 0 => some ((vP b1382 0), h1380) | 0, 1 => some ((vP b1392 0), h1390) | _, _ => none, fun _ => none, none⟩) (x := .normal) (h1 := h1390) [(3, (vP b1382 0)), (4, (vP b1392 0))]
    (fun q => ((vP b1382 0) = (Value.pointer (some ⟨h.size, 0, none⟩)) ∧ h1380 = h.push (.cells #[(vS key)] 9 (0, 0))) ∧ ((vP b1392 0) = (Value.pointer (some ⟨h1380.size, 0, none⟩)) ∧ h1390 = h1380.push (.cells #[(vB false)] 4 (0, 0))) ∧ q) (by intro K'; as_aux_lemma => kernel_rfl) (fun _ q => ⟨⟨by rw [eb1383], e1381⟩, ⟨by rw [eb1393], e1391⟩, q⟩) ?_
  refine wc_seq' (subc (bodyOf Tryd.prog 19) [1, 0]) (subc (bodyOf Tryd.prog 19) [1, 1]) (by kernel_rfl) ?_
  refine wc_seq' (subc (bodyOf Tryd.prog 19) [1, 0, 0]) (subc (bodyOf Tryd.prog 19) [1, 0, 1]) (by kernel_rfl) ?_
  obtain ⟨_, h1403, s1404, b1402, rfl, f1405, x1406, o1407⟩ := open_fn h1390 t
  have oo1407 : h.size ≤ b1402 := by have := x1401.size; omega
  have f1412 := x1406 _ _ f1400
  have f1413 := x1406 _ _ f1394
  have x1414 := x1401.trans x1406
  refine wc_upd (n := 200) (T := ⟨fun r i => match r, i with | 1, 1 => some ((Value.func (.func 51) #[] #[(vP b1402 0)]), h1403) | _, _ => none, fun _ => none, none⟩) (x := .normal) (h1 := h1403) [(7, (vP t 0)), (8, (Value.func (.func 51) #[] #[(vP b1402 0)]))]
    (fun q => SoundCall Tryd.prog 35 #[(vP t 0)] h1390 (Value.func (.func 51) #[] #[(vP b1402 0)]) h1403 ∧ q) (by intro K'; as_aux_lemma => kernel_rfl) (fun _ q => ⟨s1404, q⟩) ?_
  refine wc_block' 0 (subc (bodyOf Tryd.prog 19) [1, 0, 1, 0]) (by kernel_rfl) ?_
  refine wc_act { tmps := #[(vP t 0), (vS key), vZ, (vP b1382 0), (vP b1392 0), vZ, vZ, (vP t 0), (Value.func (.func 51) #[] #[(vP b1402 0)]), vZ, vZ, vZ, vZ, vZ, vZ], defers := [] } (by kernel_rfl) ?_
  obtain ⟨dv1415, edv1415⟩ : ∃ zq, zq = h1403.size := ⟨_, rfl⟩
  obtain ⟨lp1416, elp1416⟩ : ∃ zq, zq = h1403.size + 1 := ⟨_, rfl⟩
  obtain ⟨tm1417, etm1417⟩ : ∃ zq : Array Value, zq = #[(vP t 0), (vS key), (Value.tuple #[]), (vP b1382 0), (vP b1392 0), (Value.tuple #[]), (Value.tuple #[]), (vP t 0), (Value.func (.func 51) #[] #[(vP b1402 0)]), (Value.tuple #[]), (Value.tuple #[]), (Value.tuple #[]), (Value.tuple #[]), (Value.tuple #[]), (Value.tuple #[])] := ⟨_, rfl⟩
  obtain ⟨L1418, eL1418⟩ : ∃ zq : Loop, zq = { state := .ready, pending := none, fn := 0, tmps := tm1417, params := #[9, 10], assign := (subc (bodyOf Tryd.prog 19) [1, 0, 1, 0, 0]), body := (subc (bodyOf Tryd.prog 19) [1, 0, 1, 0, 1]), defers := dv1415 } := ⟨_, rfl⟩
  have hs1420 : L1418.state = .ready := by rw [eL1418]
  have hp1421 : L1418.pending = none := by rw [eL1418]
  obtain ⟨h1419, eh1419⟩ : ∃ zq, zq = (h1403.push (.deferred (some []))).push (.loop L1418) := ⟨_, rfl⟩
  have x1422 : Ext h1403 h1419 := by rw [eh1419]; exact (Ext.push _ _).trans (Ext.push _ _)
  have p1423 : At h1419 lp1416 (.loop L1418) := by rw [eh1419, elp1416, show h1403.size + 1 = (h1403.push (.deferred (some []))).size by simp]; exact push_new rfl
  have p1424 : At h1419 dv1415 (.deferred (some [])) := by rw [eh1419, edv1415]; exact push_old (b := h1403.size) rfl (push_new rfl)
  have sh1419 : lp1416 < h1419.size := p1423.blk_lt rfl
  have z1431 : h.size ≤ h1403.size := x1414.size
  have f1432 := x1422 _ _ f1412
  have f1433 := x1422 _ _ f1413
  have f1434 := x1422 _ _ f1405
  have x1435 := x1414.trans x1422
  have z1436 : h.size ≤ h1419.size := x1435.size
  obtain ⟨D1429, eD1430⟩ : ∃ zq : Nat → Prop, zq = (fun b => b = lp1416 ∨ b = b1392 ∨ False) := ⟨_, rfl⟩
  have hD1437 : ∀ b, D1429 b → h.size ≤ b := by
    rw [eD1430]; rintro b (w | w | w)
    · have w1 : b = lp1416 := w; omega
    · have w1 : b = b1392 := w; have := o1399; omega
    · exact w.elim
  have hd1438 : ¬ D1429 dv1415 := by
    rw [eD1430]; rintro (w | w | w)
    · have w1 : dv1415 = lp1416 := w; omega
    · have w1 : dv1415 = b1392 := w; have := row_lt f1413; omega
    · exact w.elim
  obtain ⟨I1426, eI1425⟩ : ∃ zq : Nat → (Nat → Prop) → Heap → Prop, zq = fun (kk : Nat) (Dv : Nat → Prop) (h' : Heap) => Dv = (fun b => b = lp1416 ∨ b = b1392 ∨ False) ∧ At h' lp1416 (.loop L1418) ∧ Chg D1429 h1419 h' ∧ (∀ z, Dv z → D1429 z ∨ h1419.size ≤ z) ∧ h'[b1382]? = some (.cells #[(vS key)] 9 (0, 0)) ∧ h'[b1392]? = some (.cells #[(vB false)] 4 (0, 0)) ∧ (((opn ms ms.length).take kk).any fun y => (rhas y.2.rf y.2.rt key)) = false := ⟨_, rfl⟩
  obtain ⟨E1427, eE1428⟩ : ∃ zq : Heap → Prop, zq = fun (h' : Heap) => At h' lp1416 (.loop { ({ L1418 with state := .busy } : Loop) with state := .done, pending := some .ret }) ∧ Chg D1429 h1419 h' ∧ h'[b1392]? = some (.cells #[(vB true)] 4 (0, 0)) ∧ ((opn ms ms.length).any fun y => (rhas y.2.rf y.2.rt key)) = true := ⟨_, rfl⟩
  have hX1445 : ∀ k D h' h'', I1426 k D h' → Ext h' h'' → I1426 k D h'' := by
    rw [eI1425]
    rintro k _ h' h'' ⟨rfl, p1442, c1443, d1444, f1439, f1440, i1441⟩ xx
    exact ⟨rfl, xx _ _ p1442, c1443.trans (Chg.ext xx), d1444, xx _ _ f1439, xx _ _ f1440, i1441⟩
  have hy1446 : ∀ k y D h', ((opn ms ms.length))[k]? = some y → I1426 k D h' → ∃ b h'' D', SoundYield Tryd.prog lp1416 #[(vI (y.1)), (Value.agg #[(vS y.2.rf), (vS y.2.rt), (vI (y.2.f)), (vI (y.2.t)), (vI (y.2.st)), (vS y.2.d)])] h' (.bool b) h'' ∧ Chg D h' h'' ∧ (∀ z, D' z → D z ∨ h'.size ≤ z) ∧ (if b = true then I1426 (k + 1) D' h'' else E1427 h'') := by
    rw [eI1425]
    rintro k y _ hr hk ⟨rfl, p1442, c1443, d1444, f1439, f1440, i1441⟩
    obtain ⟨Dc, eDc⟩ : ∃ zq : Nat → Prop, zq = (fun b => b = lp1416 ∨ b = b1392 ∨ False) := ⟨_, rfl⟩
    rw [← eDc] at d1444
    rw [← eI1425]
    rw [← eDc]
    suffices hw : ∃ b h'', SoundYield Tryd.prog lp1416 #[(vI (y.1)), (Value.agg #[(vS y.2.rf), (vS y.2.rt), (vI (y.2.f)), (vI (y.2.t)), (vI (y.2.st)), (vS y.2.d)])] hr (.bool b) h'' ∧ (fun b h'' => ∃ D', Chg Dc hr h'' ∧ (∀ z, D' z → Dc z ∨ hr.size ≤ z) ∧ (if b = true then I1426 (k + 1) D' h'' else E1427 h'')) b h'' from by
      obtain ⟨b, h'', q1, D', q2, q3, q4⟩ := hw
      exact ⟨b, h'', D', q1, q2, q3, q4⟩
    refine w_round (args := #[(vI (y.1)), (Value.agg #[(vS y.2.rf), (vS y.2.rt), (vI (y.2.f)), (vI (y.2.t)), (vI (y.2.st)), (vS y.2.d)])]) (K := (fun b h'' => ∃ D', Chg Dc hr h'' ∧ (∀ z, D' z → Dc z ∨ hr.size ≤ z) ∧ (if b = true then I1426 (k + 1) D' h'' else E1427 h''))) p1442 hs1420 (by rw [eL1418]; rfl) { tmps := #[(vP t 0), (vS key), (Value.tuple #[]), (vP b1382 0), (vP b1392 0), (Value.tuple #[]), (Value.tuple #[]), (vP t 0), (Value.func (.func 51) #[] #[(vP b1402 0)]), (vI (y.1)), (Value.agg #[(vS y.2.rf), (vS y.2.rt), (vI (y.2.f)), (vI (y.2.t)), (vI (y.2.st)), (vS y.2.d)]), (Value.tuple #[]), (Value.tuple #[]), (Value.tuple #[]), (Value.tuple #[])], defers := [] } (by rw [eL1418, etm1417]; kernel_rfl) (subc (bodyOf Tryd.prog 19) [1, 0, 1, 0, 0]) (subc (bodyOf Tryd.prog 19) [1, 0, 1, 0, 1]) (by rw [eL1418]) (by rw [eL1418]) ?_
    obtain ⟨b1449, eb1450⟩ : ∃ zq, zq = hr.size := ⟨_, rfl⟩
    obtain ⟨h1447, e1448⟩ : ∃ zq, zq = hr.push (.cells #[(vS .empty), (vS .empty), (vI 0), (vI 0), (vI 0), (vS .empty)] 32 (0, 0)) := ⟨_, rfl⟩
    have f1451 := push_new e1448
    rw [← eb1450] at f1451
    have n1452 : b1449 ≠ b1382 := by have := row_lt f1439; omega
    have n1453 : b1449 ≠ b1392 := by have := row_lt f1440; omega
    have n1455 : ∀ zz, (fun q => q = lp1416) zz → ¬ zz = b1449 := fun zz hz ez => by have := p1442.blk_lt hz; omega
    have x1456 : Ext hr h1447 := by rw [e1448]; exact Ext.push _ _
    have o1457 : hr.size ≤ b1449 := by have := (Chg.refl (O := Dc) hr).size; omega
    have f1458 := x1456 _ _ f1439
    have f1459 := x1456 _ _ f1440
    have p1460 := p1442.keep fun b r _ q => x1456 b r q
    have x1461 := (Chg.refl (O := Dc) hr).trans (Chg.ext x1456)
    obtain ⟨h1462, e1463⟩ : ∃ zq, zq = h1447.setIfInBounds b1449 (.cells #[(vS y.2.rf), (vS y.2.rt), (vI (y.2.f)), (vI (y.2.t)), (vI (y.2.st)), (vS y.2.d)] 32 (0, 0)) := ⟨_, rfl⟩
    have f1464 := set_same e1463 f1451
    have f1465 := set_other e1463 f1458 n1452
    have f1466 := set_other e1463 f1459 n1453
    have p1468 := p1460.keep fun b r hb q => (Chg.set e1463).same b r q (n1455 b hb)
    have x1469 := x1461.then (Chg.set e1463) (fun b hb => by subst hb; exact (.inr o1457))
    refine wc_upd (n := 200) (T := ⟨fun r i => match r, i with | 2, 0 => some ((vP b1449 0), h1447) | 2, 1 => some (undef, h1462) | _, _ => none, fun _ => none, none⟩) (x := .normal) (h1 := h1462) [(6, (vP b1449 0))]
      (fun q => ((vP b1449 0) = (Value.pointer (some ⟨hr.size, 0, none⟩)) ∧ h1447 = hr.push (.cells #[(vS .empty), (vS .empty), (vI 0), (vI 0), (vI 0), (vS .empty)] 32 (0, 0))) ∧ (storeT Tryd.prog h1447 32 (vP b1449 0) (vA #[(vS y.2.rf), (vS y.2.rt), (vI y.2.f), (vI y.2.t), (vI y.2.st), (vS y.2.d)]) = some h1462 ∧ (undef : Value) = undef) ∧ q) (by intro K'; as_aux_lemma => kernel_rfl) (fun _ q => ⟨⟨by rw [eb1450], e1448⟩, ⟨by rw [e1463]; exact store_cells size32 rfl f1451 (by decide) (by simp) rfl (by kernel_rfl), rfl⟩, q⟩) ?_
    refine ⟨rfl, L1418, p1468, hs1420, ?_⟩
    obtain ⟨h1470, e1471⟩ : ∃ zq, zq = h1462.setIfInBounds lp1416 (.loop { L1418 with state := .busy }) := ⟨_, rfl⟩
    have p1472 : At h1470 lp1416 (.loop { L1418 with state := .busy }) := set_same e1471 p1468
    have f1473 := set_other e1471 f1465 (loop_ne p1468 f1465 rfl)
    have f1474 := set_other e1471 f1466 (loop_ne p1468 f1466 rfl)
    have f1475 := set_other e1471 f1464 (loop_ne p1468 f1464 rfl)
    have x1476 := x1469.then (Chg.set e1471) (fun b hb => .inl ((fun b hb => by rw [eDc]; exact .inl hb) b hb))
    rw [← e1471]
    obtain ⟨_, hh1477, sn1478, rfl, x1479⟩ := rhas_ok h1470 y.2.rf y.2.rt key 
    have f1480 := x1479 _ _ f1473
    have f1481 := x1479 _ _ f1474
    have p1483 := p1472.keep fun b r _ q => x1479 b r q
    have x1484 := x1476.trans (Chg.ext x1479)
    rcases Bool.eq_false_or_eq_true ((rhas y.2.rf y.2.rt key)) with c1485 | c1485
    · obtain ⟨h1486, e1487⟩ : ∃ zq, zq = hh1477.setIfInBounds b1392 (.cells #[(vB true)] 4 (0, 0)) := ⟨_, rfl⟩
      have f1488 := set_same e1487 f1481
      have p1492 := p1483.keep fun b r hb q => (Chg.set e1487).same b r q ((fun (b : Nat) hb => loop_ne p1483 f1481 hb) b hb)
      have x1493 := x1484.then (Chg.set e1487) (fun b hb => by subst hb; exact (.inl (by rw [eDc]; exact .inr (.inl rfl))))
      refine wc_upd (n := 200) (T := ⟨fun r i => match r, i with | 3, 1 => some ((vA #[(vS y.2.rf), (vS y.2.rt)]), h1470) | 3, 2 => some ((vS key), h1470) | 3, 3 => some ((vB true), hh1477) | 4, 0 => some (undef, h1486) | _, _ => none, fun _ => none, none⟩) (x := .ret) (h1 := h1486) [(11, (vP b1449 0)), (12, (vA #[(vS y.2.rf), (vS y.2.rt)])), (13, (vS key)), (14, (vB true))]
        (fun q => (loadT Tryd.prog h1470 30 (vP b1449 0) = some (vA #[(vS y.2.rf), (vS y.2.rt)]) ∧ h1470 = h1470) ∧ (loadT Tryd.prog h1470 9 (vP b1382 0) = some (vS key) ∧ h1470 = h1470) ∧ SoundCall Tryd.prog 17 #[(vA #[(vS y.2.rf), (vS y.2.rt)]), (vS key)] h1470 (vB true) hh1477 ∧ (storeT Tryd.prog hh1477 4 (vP b1392 0) (vB true) = some h1486 ∧ (undef : Value) = undef) ∧ q) (by intro K'; as_aux_lemma => kernel_rfl) (fun _ q => ⟨⟨load_agg agg30 size30 f1475 (by simp) (by kernel_rfl), rfl⟩, ⟨load_cell agg9 f1473 rfl, rfl⟩, (by rw [← c1485]; exact sn1478), ⟨by rw [e1487]; exact store_cells size4 rfl f1481 (by decide) (by simp) rfl (by kernel_rfl), rfl⟩, q⟩) ?_
      refine ⟨_, p1492, ?_⟩
      obtain ⟨h1494, e1495⟩ : ∃ zq, zq = h1486.setIfInBounds lp1416 (.loop { ({ L1418 with state := .busy } : Loop) with state := .done, pending := some .ret }) := ⟨_, rfl⟩
      have p1496 : At h1494 lp1416 (.loop { ({ L1418 with state := .busy } : Loop) with state := .done, pending := some .ret }) := set_same e1495 p1492
      have f1498 := set_other e1495 f1488 (loop_ne p1492 f1488 rfl)
      have x1500 := x1493.then (Chg.set e1495) (fun b hb => .inl ((fun b hb => by rw [eDc]; exact .inl hb) b hb))
      refine (show ∃ D', Chg Dc hr (h1494) ∧ (∀ z, D' z → Dc z ∨ hr.size ≤ z) ∧ (if false = true then I1426 (k + 1) D' h1494 else E1427 h1494) from ?_) |> (fun w => by rw [e1495] at w; exact w)
      refine ⟨fun _ => False, x1500, fun z hz => hz.elim, ?_⟩
      rw [if_neg (by decide)]
      rw [eE1428]
      exact ⟨p1496, c1443.then (x1500) d1444, f1498, List.any_eq_true.2 ⟨y, List.mem_of_getElem? hk, c1485⟩⟩
    · refine wc_upd (n := 200) (T := ⟨fun r i => match r, i with | 3, 1 => some ((vA #[(vS y.2.rf), (vS y.2.rt)]), h1470) | 3, 2 => some ((vS key), h1470) | 3, 3 => some ((vB false), hh1477) | _, _ => none, fun _ => none, none⟩) (x := .normal) (h1 := hh1477) [(11, (vP b1449 0)), (12, (vA #[(vS y.2.rf), (vS y.2.rt)])), (13, (vS key)), (14, (vB false))]
        (fun q => (loadT Tryd.prog h1470 30 (vP b1449 0) = some (vA #[(vS y.2.rf), (vS y.2.rt)]) ∧ h1470 = h1470) ∧ (loadT Tryd.prog h1470 9 (vP b1382 0) = some (vS key) ∧ h1470 = h1470) ∧ SoundCall Tryd.prog 17 #[(vA #[(vS y.2.rf), (vS y.2.rt)]), (vS key)] h1470 (vB false) hh1477 ∧ q) (by intro K'; as_aux_lemma => kernel_rfl) (fun _ q => ⟨⟨load_agg agg30 size30 f1475 (by simp) (by kernel_rfl), rfl⟩, ⟨load_cell agg9 f1473 rfl, rfl⟩, (by rw [← c1485]; exact sn1478), q⟩) ?_
      refine ⟨_, p1483, ?_⟩
      obtain ⟨h1501, e1502⟩ : ∃ zq, zq = hh1477.setIfInBounds lp1416 (.loop { ({ L1418 with state := .busy } : Loop) with state := .ready, pending := none }) := ⟨_, rfl⟩
      have p1503 : At h1501 lp1416 (.loop { ({ L1418 with state := .busy } : Loop) with state := .ready, pending := none }) := set_same e1502 p1483
      have f1504 := set_other e1502 f1480 (loop_ne p1483 f1480 rfl)
      have f1505 := set_other e1502 f1481 (loop_ne p1483 f1481 rfl)
      have x1507 := x1484.then (Chg.set e1502) (fun b hb => .inl ((fun b hb => by rw [eDc]; exact .inl hb) b hb))
      have dnew : ∀ z, ((fun b => b = lp1416 ∨ b = b1392 ∨ False)) z → Dc z ∨ hr.size ≤ z := by
        intro z hz; rcases hz with w | w | w
        · exact .inl (by rw [eDc]; exact .inl w)
        · exact .inl (by rw [eDc]; exact .inr (.inl w))
        · exact w.elim
      refine (show ∃ D', Chg Dc hr (h1501) ∧ (∀ z, D' z → Dc z ∨ hr.size ≤ z) ∧ (if true = true then I1426 (k + 1) D' h1501 else E1427 h1501) from ?_) |> (fun w => by rw [e1502] at w; exact w)
      refine ⟨(fun b => b = lp1416 ∨ b = b1392 ∨ False), x1507, dnew, ?_⟩
      rw [if_pos rfl]
      rw [eI1425]
      exact ⟨rfl, (by have q := p1503; rw [loop_back hs1420 hp1421] at q; exact q), c1443.then (x1507) d1444, fun z hz => (dnew z hz).elim (d1444 z) (fun w => .inr (by have := c1443.size; omega)), f1504, f1505, any_next hk i1441 c1485⟩
  have h01508 : I1426 0 D1429 h1419 := by rw [eI1425]; exact ⟨eD1430, p1423, Chg.refl h1419, fun z hz => .inl hz, f1432, f1433, rfl⟩
  refine wc_range_any (h1 := h1419) (c := (subc (bodyOf Tryd.prog 19) [1, 0, 1, 0])) (g := .tmp 8) (params := #[9, 10]) (assign := (subc (bodyOf Tryd.prog 19) [1, 0, 1, 0, 0])) (body := (subc (bodyOf Tryd.prog 19) [1, 0, 1, 0, 1])) (by kernel_rfl) 51 #[] #[(vP b1402 0)] lp1416 [{ target := .collected dv1415, args := #[] }] #[(Value.func (.yield lp1416) #[] #[]), (vP b1402 0)] (by rfl) rfl rfl (by kernel_rfl) (by rw [eh1419, elp1416, eL1418, etm1417, edv1415]; rfl) ?_
  refine (open_it h1419 (hT'.keep fun b r _ q => x1435 b r q) h64 b1402 f1434 lp1416 I1426 E1427 D1429 (fun b hb w => by have := hT'.blk_lt hb; have := hD1437 b w; omega) hX1445 hy1446 h01508).mono fun _ h8 q => ?_
  obtain ⟨q0, q⟩ := q
  rcases q with ⟨Dv, q, qD⟩ | q
  · rw [eI1425] at q
    obtain ⟨eDv, p1512, cgN, hdN, f1509, f1510, i1511⟩ := q
    refine ⟨_, p1512, ?_, leftBy_none hp1421 ?_⟩
    · exact fun w => by rw [hs1420] at w; cases w
    have p1513 : At h8 dv1415 (.deferred (some [])) := q0.same _ _ p1424 hd1438
    obtain ⟨h1514, e1515⟩ : ∃ zq, zq = h8.setIfInBounds lp1416 (.loop { L1418 with state := .exhausted }) := ⟨_, rfl⟩
    have f1518 := set_other e1515 f1510 (loop_ne p1512 f1510 rfl)
    have p1519 := p1513.keep fun b r hb q => (Chg.set e1515).same b r q ((fun b hb hb2 => (show ∀ b : Nat, b = lp1416 → b = dv1415 → False from fun b w1 w2 => by omega) b hb2 hb) b hb)
    rw [← e1515]
    have c1520 := q0.then (Chg.set e1515) (fun b hb => .inl (by rw [eD1430]; exact .inl hb))
    have x1521 : Ext h h1514 := (Chg.then (O := fun _ => False) (Chg.ext x1435) c1520 (fun b hb => .inr (hD1437 b hb))).toExt'
    rw [List.take_length] at i1511
    obtain ⟨h1522, e1523⟩ : ∃ zq, zq = h1514.setIfInBounds b1392 (.cells #[(vB false)] 4 (0, 0)) := ⟨_, rfl⟩
    have f1524 := set_same e1523 f1518
    have p1528 := p1519.keep fun b r hb q => (Chg.set e1523).same b r q ((fun (b : Nat) hb => defer_ne p1519 f1518 hb) b hb)
    have x1529 := Ext.setNew x1521 e1523 o1399
    refine wc_upd (n := 200) (T := ⟨fun r i => match r, i with | 5, 0 => some (undef, h1522) | _, _ => none, fun _ => none, none⟩) (x := .ret) (h1 := h1522) []
      (fun q => (storeT Tryd.prog h1514 4 (vP b1392 0) (vB false) = some h1522 ∧ (undef : Value) = undef) ∧ q) (by intro K'; as_aux_lemma => kernel_rfl) (fun _ q => ⟨⟨by rw [e1523]; exact store_cells size4 rfl f1518 (by decide) (by simp) rfl (by kernel_rfl), rfl⟩, q⟩) ?_
    obtain ⟨h1530, e1531⟩ : ∃ zq, zq = h1522.setIfInBounds dv1415 (.deferred none) := ⟨_, rfl⟩
    have f1534 := set_other e1531 f1524 (defer_ne p1528 f1524 rfl)
    have x1532 : Ext h h1530 := Ext.setNew x1529 e1531 (by omega)
    refine end_mark3 (T := ⟨fun _ _ => none, fun _ => none, some [(vB false)]⟩) (dv := dv1415) { tmps := #[(vP t 0), (vS key), (Value.tuple #[]), (vP b1382 0), (vP b1392 0), (Value.tuple #[]), (Value.tuple #[]), (vP t 0), (Value.func (.func 51) #[] #[(vP b1402 0)]), (Value.tuple #[]), (Value.tuple #[]), (Value.tuple #[]), (Value.tuple #[]), (Value.tuple #[]), (Value.tuple #[])], defers := ([{ target := .collected dv1415, args := #[] }] ++ []) } (by kernel_rfl) (.inr rfl) rfl p1528 e1531 (A := (loadT Tryd.prog h1530 4 (vP b1392 0) = some (vB false) ∧ True) ∧ K (vB false) h1530) (by kernel_rfl) ?_
    exact ⟨⟨load_cell agg4 f1534 rfl, trivial⟩, hK _ _ (⟨by rw [show busyB ms key = false from i1511], x1532⟩)⟩
  · rw [eE1428] at q
    obtain ⟨p1538, cgN, f1537, i1536⟩ := q
    refine ⟨_, p1538, ?_, leftBy_ret rfl ?_⟩
    · exact fun w => by cases w
    have p1539 : At h8 dv1415 (.deferred (some [])) := q0.same _ _ p1424 hd1438
    obtain ⟨h1540, e1541⟩ : ∃ zq, zq = h8.setIfInBounds lp1416 (.loop { ({ ({ L1418 with state := .busy } : Loop) with state := .done, pending := some .ret } : Loop) with state := .exhausted }) := ⟨_, rfl⟩
    have f1543 := set_other e1541 f1537 (loop_ne p1538 f1537 rfl)
    have p1544 := p1539.keep fun b r hb q => (Chg.set e1541).same b r q ((fun b hb hb2 => (show ∀ b : Nat, b = lp1416 → b = dv1415 → False from fun b w1 w2 => by omega) b hb2 hb) b hb)
    rw [← e1541]
    have c1545 := q0.then (Chg.set e1541) (fun b hb => .inl (by rw [eD1430]; exact .inl hb))
    have x1546 : Ext h h1540 := (Chg.then (O := fun _ => False) (Chg.ext x1435) c1545 (fun b hb => .inr (hD1437 b hb))).toExt'
    obtain ⟨h1547, e1548⟩ : ∃ zq, zq = h1540.setIfInBounds dv1415 (.deferred none) := ⟨_, rfl⟩
    have f1550 := set_other e1548 f1543 (defer_ne p1544 f1543 rfl)
    have x1549 : Ext h h1547 := Ext.setNew x1546 e1548 (by omega)
    refine end_mark3 (T := ⟨fun _ _ => none, fun _ => none, some [(vB true)]⟩) (dv := dv1415) { tmps := #[(vP t 0), (vS key), (Value.tuple #[]), (vP b1382 0), (vP b1392 0), (Value.tuple #[]), (Value.tuple #[]), (vP t 0), (Value.func (.func 51) #[] #[(vP b1402 0)]), (Value.tuple #[]), (Value.tuple #[]), (Value.tuple #[]), (Value.tuple #[]), (Value.tuple #[]), (Value.tuple #[])], defers := ([{ target := .collected dv1415, args := #[] }] ++ []) } (by kernel_rfl) (.inr rfl) rfl p1544 e1548 (A := (loadT Tryd.prog h1547 4 (vP b1392 0) = some (vB true) ∧ True) ∧ K (vB true) h1547) (by kernel_rfl) ?_
    exact ⟨⟨load_cell agg4 f1550 rfl, trivial⟩, hK _ _ (⟨by rw [show busyB ms key = true from i1536], x1549⟩)⟩
set_option maxHeartbeats 4000000 in
theorem len_ok (h : Heap) {O : Nat → Prop} {t : Nat} {ms : List MoveM} (hT : TabAt 56 32 h O t ms) : WCall Tryd.prog 24 #[(vP t 0)] h (fun v h1 => v = .int .i64 ((ms.length : Nat) : Int) ∧ h = h1) := by
  have hT' := hT
  obtain ⟨a1552, cc1553, T⟩ := hT
  obtain ⟨_, _, sn1555, rfl, rfl⟩ := valid_ok h T.row
  exact hCall_of (n := 200) (T := ⟨fun r i => match r, i with | 1, 1 => some ((vB true), h) | 3, 3 => some ((vL a1552 ms.length cc1553), h) | _, _ => none, fun _ => none, none⟩)
    (A := SoundCall Tryd.prog 39 #[(vP t 0)] h (vB true) h ∧ (loadT Tryd.prog h 48 (vP t 1) = some (vL a1552 ms.length cc1553) ∧ h = h) ∧ (fun v h1 => v = .int .i64 ((ms.length : Nat) : Int) ∧ h = h1) (vI ((ms.length : Nat))) h) (by kernel_rfl) ⟨sn1555, ⟨load_cell agg48 T.row rfl, rfl⟩, ⟨rfl, rfl⟩⟩
end C32
