/- The examples of the chapter hold; definitions that are looked at. -/
import Derived.Test.YtbhklepkcgbniaaDoorKj
import Derived.KernelRfl
open Go Go.AM Go.Proofs
namespace C27
set_option maxHeartbeats 4000000 in
theorem works_ok (h : Heap)  : WCall Tryd.prog 12 #[] h (fun v h1 => v = .bool true ∧ Ext h h1) := by
  suffices H : ∀ K : Value → Heap → Prop, (∀ v h1, (fun v h1 => v = .bool true ∧ Ext h h1) v h1 → K v h1) → WCall Tryd.prog 12 #[] h K from H _ fun _ _ q => q
  intro K hK
  refine wcall_at { tmps := #[vZ, vZ, vZ, vZ, vZ, vZ, vZ, vZ, vZ, vZ, vZ, vZ, vZ, vZ, vZ, vZ, vZ, vZ, vZ, vZ, vZ, vZ, vZ, vZ, vZ, vZ, vZ, vZ, vZ, vZ, vZ, vZ, vZ, vZ, vZ, vZ, vZ, vZ, vZ, vZ, vZ, vZ, vZ, vZ, vZ, vZ, vZ, vZ, vZ, vZ, vZ, vZ, vZ, vZ, vZ, vZ, vZ, vZ, vZ, vZ, vZ, vZ, vZ, vZ, vZ, vZ, vZ, vZ, vZ, vZ, vZ, vZ, vZ, vZ, vZ, vZ, vZ, vZ, vZ, vZ, vZ, vZ, vZ, vZ, vZ, vZ, vZ, vZ, vZ, vZ, vZ, vZ, vZ, vZ, vZ, vZ, vZ, vZ, vZ, vZ, vZ, vZ, vZ, vZ, vZ, vZ, vZ, vZ, vZ, vZ, vZ, vZ, vZ, vZ, vZ, vZ, vZ, vZ, vZ, vZ, vZ, vZ, vZ, vZ, vZ, vZ, vZ, vZ, vZ], defers := [] } (by kernel_rfl) ?_
  obtain ⟨_, hh1240, sn1241, _, _, b1238, rfl, ⟨rfl, rfl⟩, p1239, x1242⟩ := ex_ok h
  have x1243 := (Ext.refl h).trans x1242
  obtain ⟨b1246, eb1247⟩ : ∃ zq, zq = hh1240.size := ⟨_, rfl⟩
  obtain ⟨h1244, e1245⟩ : ∃ zq, zq = hh1240.push (.cells #[(vS .empty), (vI 0), (vI 0), (Value.slice none 0 0)] 24 (0, 0)) := ⟨_, rfl⟩
  have f1248 := push_new e1245
  rw [← eb1247] at f1248
  have n1249 : ∀ zz, (blk (Value.slice (some ⟨b1238, 0, none⟩) 1 1)) zz → ¬ zz = b1246 := fun zz hz ez => by have := p1239.blk_lt hz; omega
  have x1250 : Ext hh1240 h1244 := by rw [e1245]; exact Ext.push _ _
  have o1251 : h.size ≤ b1246 := by have := x1243.size; omega
  have p1252 := p1239.keep fun b r _ q => x1250 b r q
  have x1253 := x1243.trans x1250
  obtain ⟨h1254, e1255⟩ : ∃ zq, zq = h1244.setIfInBounds b1246 (.cells #[(vS ⟨#[100]⟩), (vI 2), (vI 10), (Value.slice (some ⟨b1238, 0, none⟩) 1 1)] 24 (0, 0)) := ⟨_, rfl⟩
  have f1256 := set_same e1255 f1248
  have p1258 := p1252.keep fun b r hb q => (Chg.set e1255).same b r q (n1249 b hb)
  have x1259 := Ext.setNew x1253 e1255 o1251
  obtain ⟨_, h1262, s1261, rfl, x1263⟩ := start_ok h1254 (exD 2 10) _ _ p1258 (show (1 : Nat) ≤ 9223372036854775807 by decide) 5
  have e1260 : chkE true (defB (exD 2 10)) (timB 5) = 0 := by rw [(exD_ok (by omega)), (tim_ok (by omega))]; rfl
  have f1264 := x1263 _ _ f1256
  have p1265 := p1258.keep fun b r _ q => x1263 b r q
  have x1266 := x1259.trans x1263
  have q1267 : stS (exD 2 10) 5 = 5 := stV_ok e1260
  obtain ⟨b1270, eb1271⟩ : ∃ zq, zq = h1262.size := ⟨_, rfl⟩
  obtain ⟨h1268, e1269⟩ : ∃ zq, zq = h1262.push (.cells #[(vI 0), (vI 0)] 28 (0, 0)) := ⟨_, rfl⟩
  have f1272 := push_new e1269
  rw [← eb1271] at f1272
  have n1273 : b1270 ≠ b1246 := by have := row_lt f1264; omega
  have n1274 : ∀ zz, (blk (Value.slice (some ⟨b1238, 0, none⟩) 1 1)) zz → ¬ zz = b1270 := fun zz hz ez => by have := p1265.blk_lt hz; omega
  have x1275 : Ext h1262 h1268 := by rw [e1269]; exact Ext.push _ _
  have o1276 : h.size ≤ b1270 := by have := x1266.size; omega
  have f1277 := x1275 _ _ f1264
  have p1278 := p1265.keep fun b r _ q => x1275 b r q
  have x1279 := x1266.trans x1275
  obtain ⟨h1280, e1281⟩ : ∃ zq, zq = h1268.setIfInBounds b1270 (.cells #[(vI 0), (vI 5)] 28 (0, 0)) := ⟨_, rfl⟩
  have f1282 := set_same e1281 f1272
  have f1283 := set_other e1281 f1277 n1273
  have p1285 := p1278.keep fun b r hb q => (Chg.set e1281).same b r q (n1274 b hb)
  have x1286 := Ext.setNew x1279 e1281 o1276
  obtain ⟨_, h1289, s1288, rfl, x1290⟩ := when_ok h1280 0 5 (exD 2 10) _ _ p1285 (show (1 : Nat) ≤ 9223372036854775807 by decide)
  have e1287 : chkE (budB 0 5) (defB (exD 2 10)) true = 0 := by rw [(bud_ok (by omega)), (exD_ok (by omega))]; rfl
  have f1291 := x1290 _ _ f1283
  have f1292 := x1290 _ _ f1282
  have p1293 := p1285.keep fun b r _ q => x1290 b r q
  have x1294 := x1286.trans x1290
  have q1295 : whenV 0 5 (exD 2 10) = 15 := (whenV_ok e1287 (show ¬ 10 = 0 by omega)).1
  have q1296 : whenB 0 5 (exD 2 10) = true := (whenV_ok e1287 (show ¬ 10 = 0 by omega)).2
  obtain ⟨_, h1299, s1298, rfl, x1300⟩ := left_ok h1289 0 5 (exD 2 10) _ _ p1293 (show (1 : Nat) ≤ 9223372036854775807 by decide)
  have e1297 : chkE (budB 0 5) (defB (exD 2 10)) true = 0 := by rw [(bud_ok (by omega)), (exD_ok (by omega))]; rfl
  have f1301 := x1300 _ _ f1291
  have f1302 := x1300 _ _ f1292
  have p1303 := p1293.keep fun b r _ q => x1300 b r q
  have x1304 := x1294.trans x1300
  have q1305 : leftV 0 5 (exD 2 10) = 2 := leftV_ok e1297 (by first | rfl | decide)
  obtain ⟨_, h1308, s1307, rfl, x1309⟩ := again_ok h1299 0 5 (exD 2 10) _ _ p1303 (show (1 : Nat) ≤ 9223372036854775807 by decide) 6
  have e1306 : chkE (budB 0 5) (defB (exD 2 10)) (timB 6) = 0 := by rw [(bud_ok (by omega)), (exD_ok (by omega)), (tim_ok (by omega))]; rfl
  have f1310 := x1309 _ _ f1301
  have f1311 := x1309 _ _ f1302
  have p1312 := p1303.keep fun b r _ q => x1309 b r q
  have x1313 := x1304.trans x1309
  have w1314 : agE 0 5 (exD 2 10) 6 = 0 ∧ agB 0 5 (exD 2 10) 6 = true ∧ agT 0 5 (exD 2 10) 6 = 1 ∧ agS 0 5 (exD 2 10) 6 = 5 := agV_ok e1306 (show ¬ 2 < 0 by omega) (decide_eq_true (show (0 + 1 ≤ 2 ∧ ¬ (0 < 10 ∧ 10 ≤ 6 - 5)) by omega))
  have q1315 : agE 0 5 (exD 2 10) 6 = 0 := w1314.1
  have q1316 : agB 0 5 (exD 2 10) 6 = true := w1314.2.1
  have q1317 : agT 0 5 (exD 2 10) 6 = 1 := w1314.2.2.1
  have q1318 : agS 0 5 (exD 2 10) 6 = 5 := w1314.2.2.2
  obtain ⟨b1321, eb1322⟩ : ∃ zq, zq = h1308.size := ⟨_, rfl⟩
  obtain ⟨h1319, e1320⟩ : ∃ zq, zq = h1308.push (.cells #[(vI 0), (vI 0)] 28 (0, 0)) := ⟨_, rfl⟩
  have f1323 := push_new e1320
  rw [← eb1322] at f1323
  have n1324 : b1321 ≠ b1246 := by have := row_lt f1310; omega
  have n1325 : b1321 ≠ b1270 := by have := row_lt f1311; omega
  have n1326 : ∀ zz, (blk (Value.slice (some ⟨b1238, 0, none⟩) 1 1)) zz → ¬ zz = b1321 := fun zz hz ez => by have := p1312.blk_lt hz; omega
  have x1327 : Ext h1308 h1319 := by rw [e1320]; exact Ext.push _ _
  have o1328 : h.size ≤ b1321 := by have := x1313.size; omega
  have f1329 := x1327 _ _ f1310
  have f1330 := x1327 _ _ f1311
  have p1331 := p1312.keep fun b r _ q => x1327 b r q
  have x1332 := x1313.trans x1327
  obtain ⟨h1333, e1334⟩ : ∃ zq, zq = h1319.setIfInBounds b1321 (.cells #[(vI 1), (vI 5)] 28 (0, 0)) := ⟨_, rfl⟩
  have f1335 := set_same e1334 f1323
  have f1336 := set_other e1334 f1329 n1324
  have f1337 := set_other e1334 f1330 n1325
  have p1339 := p1331.keep fun b r hb q => (Chg.set e1334).same b r q (n1326 b hb)
  have x1340 := Ext.setNew x1332 e1334 o1328
  obtain ⟨_, h1343, s1342, rfl, x1344⟩ := again_ok h1333 2 5 (exD 2 10) _ _ p1339 (show (1 : Nat) ≤ 9223372036854775807 by decide) 8
  have e1341 : chkE (budB 2 5) (defB (exD 2 10)) (timB 8) = 0 := by rw [(bud_ok (by omega)), (exD_ok (by omega)), (tim_ok (by omega))]; rfl
  have f1345 := x1344 _ _ f1336
  have f1346 := x1344 _ _ f1337
  have f1347 := x1344 _ _ f1335
  have p1348 := p1339.keep fun b r _ q => x1344 b r q
  have x1349 := x1340.trans x1344
  have w1350 : agE 2 5 (exD 2 10) 8 = 0 ∧ agB 2 5 (exD 2 10) 8 = false ∧ agT 2 5 (exD 2 10) 8 = 3 ∧ agS 2 5 (exD 2 10) 8 = 5 := agV_ok e1341 (show ¬ 2 < 2 by omega) (decide_eq_false (show ¬ (2 + 1 ≤ 2 ∧ ¬ (0 < 10 ∧ 10 ≤ 8 - 5)) by omega))
  have q1351 : agE 2 5 (exD 2 10) 8 = 0 := w1350.1
  have q1352 : agB 2 5 (exD 2 10) 8 = false := w1350.2.1
  have q1353 : agT 2 5 (exD 2 10) 8 = 3 := w1350.2.2.1
  have q1354 : agS 2 5 (exD 2 10) 8 = 5 := w1350.2.2.2
  obtain ⟨b1357, eb1358⟩ : ∃ zq, zq = h1343.size := ⟨_, rfl⟩
  obtain ⟨h1355, e1356⟩ : ∃ zq, zq = h1343.push (.cells #[(vI 0), (vI 0)] 28 (0, 0)) := ⟨_, rfl⟩
  have f1359 := push_new e1356
  rw [← eb1358] at f1359
  have n1360 : b1357 ≠ b1246 := by have := row_lt f1345; omega
  have n1361 : b1357 ≠ b1270 := by have := row_lt f1346; omega
  have n1362 : b1357 ≠ b1321 := by have := row_lt f1347; omega
  have n1363 : ∀ zz, (blk (Value.slice (some ⟨b1238, 0, none⟩) 1 1)) zz → ¬ zz = b1357 := fun zz hz ez => by have := p1348.blk_lt hz; omega
  have x1364 : Ext h1343 h1355 := by rw [e1356]; exact Ext.push _ _
  have o1365 : h.size ≤ b1357 := by have := x1349.size; omega
  have f1366 := x1364 _ _ f1345
  have f1367 := x1364 _ _ f1346
  have f1368 := x1364 _ _ f1347
  have p1369 := p1348.keep fun b r _ q => x1364 b r q
  have x1370 := x1349.trans x1364
  obtain ⟨h1371, e1372⟩ : ∃ zq, zq = h1355.setIfInBounds b1357 (.cells #[(vI 3), (vI 5)] 28 (0, 0)) := ⟨_, rfl⟩
  have f1374 := set_other e1372 f1366 n1360
  have f1375 := set_other e1372 f1367 n1361
  have f1376 := set_other e1372 f1368 n1362
  have p1378 := p1369.keep fun b r hb q => (Chg.set e1372).same b r q (n1363 b hb)
  have x1379 := Ext.setNew x1370 e1372 o1365
  obtain ⟨_, h1382, s1381, rfl, x1383⟩ := again_ok h1371 3 5 (exD 2 10) _ _ p1378 (show (1 : Nat) ≤ 9223372036854775807 by decide) 9
  have e1380 : chkE (budB 3 5) (defB (exD 2 10)) (timB 9) = 0 := by rw [(bud_ok (by omega)), (exD_ok (by omega)), (tim_ok (by omega))]; rfl
  have f1384 := x1383 _ _ f1374
  have f1385 := x1383 _ _ f1375
  have f1386 := x1383 _ _ f1376
  have p1388 := p1378.keep fun b r _ q => x1383 b r q
  have x1389 := x1379.trans x1383
  have w1390 : agE 3 5 (exD 2 10) 9 = 9 ∧ agB 3 5 (exD 2 10) 9 = false ∧ agT 3 5 (exD 2 10) 9 = 0 ∧ agS 3 5 (exD 2 10) 9 = 0 := agV_nine e1380 (show 2 < 3 by omega)
  have q1391 : agE 3 5 (exD 2 10) 9 = 9 := w1390.1
  have q1392 : agB 3 5 (exD 2 10) 9 = false := w1390.2.1
  have q1393 : agT 3 5 (exD 2 10) 9 = 0 := w1390.2.2.1
  have q1394 : agS 3 5 (exD 2 10) 9 = 0 := w1390.2.2.2
  obtain ⟨b1397, eb1398⟩ : ∃ zq, zq = h1382.size := ⟨_, rfl⟩
  obtain ⟨h1395, e1396⟩ : ∃ zq, zq = h1382.push (.cells #[(vI 0), (vI 0)] 28 (0, 0)) := ⟨_, rfl⟩
  have f1399 := push_new e1396
  rw [← eb1398] at f1399
  have n1400 : b1397 ≠ b1246 := by have := row_lt f1384; omega
  have n1401 : b1397 ≠ b1270 := by have := row_lt f1385; omega
  have n1402 : b1397 ≠ b1321 := by have := row_lt f1386; omega
  have n1404 : ∀ zz, (blk (Value.slice (some ⟨b1238, 0, none⟩) 1 1)) zz → ¬ zz = b1397 := fun zz hz ez => by have := p1388.blk_lt hz; omega
  have x1405 : Ext h1382 h1395 := by rw [e1396]; exact Ext.push _ _
  have o1406 : h.size ≤ b1397 := by have := x1389.size; omega
  have f1407 := x1405 _ _ f1384
  have f1408 := x1405 _ _ f1385
  have f1409 := x1405 _ _ f1386
  have p1411 := p1388.keep fun b r _ q => x1405 b r q
  have x1412 := x1389.trans x1405
  obtain ⟨h1413, e1414⟩ : ∃ zq, zq = h1395.setIfInBounds b1397 (.cells #[(vI 0), (vI 0)] 28 (0, 0)) := ⟨_, rfl⟩
  have f1416 := set_other e1414 f1407 n1400
  have f1417 := set_other e1414 f1408 n1401
  have f1418 := set_other e1414 f1409 n1402
  have p1421 := p1411.keep fun b r hb q => (Chg.set e1414).same b r q (n1404 b hb)
  have x1422 := Ext.setNew x1412 e1414 o1406
  obtain ⟨_, h1425, s1424, rfl, x1426⟩ := late_ok h1413 0 5 (exD 2 10) _ _ p1421 (show (1 : Nat) ≤ 9223372036854775807 by decide) 15
  have e1423 : chkE (budB 0 5) (defB (exD 2 10)) (timB 15) = 0 := by rw [(bud_ok (by omega)), (exD_ok (by omega)), (tim_ok (by omega))]; rfl
  have f1428 := x1426 _ _ f1417
  have f1429 := x1426 _ _ f1418
  have x1433 := x1422.trans x1426
  have q1434 : lateM 0 5 (exD 2 10) 15 = true := lateV_ok e1423 (decide_eq_true (show (0 < 10 ∧ 10 ≤ 15 - 5) by omega))
  obtain ⟨_, hh1435, sn1436, rfl, x1437⟩ := next_ok h1425 1 5
  have f1439 := x1437 _ _ f1428
  have x1444 := x1433.trans x1437
  refine wc_upd (n := 200) (T := ⟨fun r i => match r, i with | 1, 0 => some ((vA #[(vS ⟨#[100]⟩), (vI 2), (vI 10), (vL (some ⟨b1238, 0, none⟩) 1 1)]), hh1240) | 1, 1 => some ((vP b1246 0), h1244) | 1, 2 => some (undef, h1254) | 2, 0 => some ((vA #[(vS ⟨#[100]⟩), (vI 2), (vI 10), (vL (some ⟨b1238, 0, none⟩) 1 1)]), h1254) | 2, 1 => some ((vT #[(vA #[(vI 0), (vI 5)]), (vI 0)]), h1262) | 2, 5 => some ((vP b1270 0), h1268) | 2, 6 => some (undef, h1280) | 3, 0 => some ((vA #[(vI 0), (vI 5)]), h1280) | 3, 1 => some ((vA #[(vS ⟨#[100]⟩), (vI 2), (vI 10), (vL (some ⟨b1238, 0, none⟩) 1 1)]), h1280) | 3, 2 => some ((vT #[(vI 15), (vB true), (vI 0)]), h1289) | 4, 0 => some ((vA #[(vI 0), (vI 5)]), h1289) | 4, 1 => some ((vA #[(vS ⟨#[100]⟩), (vI 2), (vI 10), (vL (some ⟨b1238, 0, none⟩) 1 1)]), h1289) | 4, 2 => some ((vT #[(vI 2), (vI 0)]), h1299) | 5, 0 => some ((vA #[(vI 0), (vI 5)]), h1299) | 5, 1 => some ((vA #[(vS ⟨#[100]⟩), (vI 2), (vI 10), (vL (some ⟨b1238, 0, none⟩) 1 1)]), h1299) | 5, 2 => some ((vT #[(vA #[(vI 1), (vI 5)]), (vB true), (vI 0)]), h1308) | 5, 7 => some ((vP b1321 0), h1319) | 5, 8 => some (undef, h1333) | 6, 1 => some ((vA #[(vS ⟨#[100]⟩), (vI 2), (vI 10), (vL (some ⟨b1238, 0, none⟩) 1 1)]), h1333) | 6, 2 => some ((vT #[(vA #[(vI 3), (vI 5)]), (vB false), (vI 0)]), h1343) | 6, 7 => some ((vP b1357 0), h1355) | 6, 8 => some (undef, h1371) | 7, 1 => some ((vA #[(vS ⟨#[100]⟩), (vI 2), (vI 10), (vL (some ⟨b1238, 0, none⟩) 1 1)]), h1371) | 7, 2 => some ((vT #[(vA #[(vI 0), (vI 0)]), (vB false), (vI 9)]), h1382) | 7, 7 => some ((vP b1397 0), h1395) | 7, 8 => some (undef, h1413) | 8, 0 => some ((vA #[(vI 0), (vI 5)]), h1413) | 8, 1 => some ((vA #[(vS ⟨#[100]⟩), (vI 2), (vI 10), (vL (some ⟨b1238, 0, none⟩) 1 1)]), h1413) | 8, 2 => some ((vT #[(vB true), (vI 0)]), h1425) | 9, 0 => some ((vA #[(vI 0), (vI 5)]), h1425) | 9, 2 => some ((vB true), h1425) | 9, 27 => some ((vA #[(vI 1), (vI 5)]), h1425) | 9, 29 => some ((vB true), h1425) | 9, 58 => some ((vA #[(vI 1), (vI 5)]), h1425) | 9, 60 => some ((vA #[(vI 0), (vI 5)]), h1425) | 9, 59 => some ((vA #[(vI 0), (vI 5)]), hh1435) | 9, 61 => some ((vB true), hh1435) | _, _ => none, fun _ => none, none⟩) (x := .ret) (h1 := hh1435) [(0, (vB false)), (20, (vA #[(vS ⟨#[100]⟩), (vI 2), (vI 10), (vL (some ⟨b1238, 0, none⟩) 1 1)])), (1, (vP b1246 0)), (22, (vA #[(vS ⟨#[100]⟩), (vI 2), (vI 10), (vL (some ⟨b1238, 0, none⟩) 1 1)])), (23, (vT #[(vA #[(vI 0), (vI 5)]), (vI 0)])), (21, (vT #[(vA #[(vI 0), (vI 5)]), (vI 0)])), (24, (vA #[(vI 0), (vI 5)])), (25, (vI 0)), (2, (vP b1270 0)), (3, (vI 0)), (27, (vA #[(vI 0), (vI 5)])), (28, (vA #[(vS ⟨#[100]⟩), (vI 2), (vI 10), (vL (some ⟨b1238, 0, none⟩) 1 1)])), (29, (vT #[(vI 15), (vB true), (vI 0)])), (26, (vT #[(vI 15), (vB true), (vI 0)])), (30, (vI 15)), (31, (vB true)), (32, (vI 0)), (4, (vI 15)), (5, (vB true)), (6, (vI 0)), (34, (vA #[(vI 0), (vI 5)])), (35, (vA #[(vS ⟨#[100]⟩), (vI 2), (vI 10), (vL (some ⟨b1238, 0, none⟩) 1 1)])), (36, (vT #[(vI 2), (vI 0)])), (33, (vT #[(vI 2), (vI 0)])), (37, (vI 2)), (38, (vI 0)), (7, (vI 2)), (8, (vI 0)), (40, (vA #[(vI 0), (vI 5)])), (41, (vA #[(vS ⟨#[100]⟩), (vI 2), (vI 10), (vL (some ⟨b1238, 0, none⟩) 1 1)])), (42, (vT #[(vA #[(vI 1), (vI 5)]), (vB true), (vI 0)])), (39, (vT #[(vA #[(vI 1), (vI 5)]), (vB true), (vI 0)])), (43, (vA #[(vI 1), (vI 5)])), (44, (vB true)), (45, (vI 0)), (9, (vP b1321 0)), (10, (vB true)), (11, (vI 0)), (47, (vA #[(vI 2), (vI 5)])), (48, (vA #[(vS ⟨#[100]⟩), (vI 2), (vI 10), (vL (some ⟨b1238, 0, none⟩) 1 1)])), (49, (vT #[(vA #[(vI 3), (vI 5)]), (vB false), (vI 0)])), (46, (vT #[(vA #[(vI 3), (vI 5)]), (vB false), (vI 0)])), (50, (vA #[(vI 3), (vI 5)])), (51, (vB false)), (52, (vI 0)), (12, (vP b1357 0)), (13, (vB false)), (14, (vI 0)), (54, (vA #[(vI 3), (vI 5)])), (55, (vA #[(vS ⟨#[100]⟩), (vI 2), (vI 10), (vL (some ⟨b1238, 0, none⟩) 1 1)])), (56, (vT #[(vA #[(vI 0), (vI 0)]), (vB false), (vI 9)])), (53, (vT #[(vA #[(vI 0), (vI 0)]), (vB false), (vI 9)])), (57, (vA #[(vI 0), (vI 0)])), (58, (vB false)), (59, (vI 9)), (15, (vP b1397 0)), (16, (vB false)), (17, (vI 9)), (61, (vA #[(vI 0), (vI 5)])), (62, (vA #[(vS ⟨#[100]⟩), (vI 2), (vI 10), (vL (some ⟨b1238, 0, none⟩) 1 1)])), (63, (vT #[(vB true), (vI 0)])), (60, (vT #[(vB true), (vI 0)])), (64, (vB true)), (65, (vI 0)), (18, (vB true)), (19, (vI 0)), (66, (vA #[(vI 0), (vI 5)])), (67, (vA #[(vI 0), (vI 5)])), (68, (vB true)), (69, (vB true)), (70, (vI 0)), (71, (vB true)), (72, (vB true)), (73, (vB true)), (74, (vI 15)), (75, (vB true)), (76, (vB true)), (77, (vB true)), (78, (vB true)), (79, (vB true)), (80, (vB true)), (81, (vI 0)), (82, (vB true)), (83, (vB true)), (84, (vB true)), (85, (vI 2)), (86, (vB true)), (87, (vB true)), (88, (vB true)), (89, (vI 0)), (90, (vB true)), (91, (vB true)), (92, (vB true)), (93, (vA #[(vI 1), (vI 5)])), (94, (vA #[(vI 1), (vI 5)])), (95, (vB true)), (96, (vB true)), (97, (vB true)), (98, (vB true)), (99, (vB true)), (100, (vB true)), (101, (vI 0)), (102, (vB true)), (103, (vB true)), (104, (vB true)), (105, (vB false)), (106, (vB true)), (107, (vB true)), (108, (vB true)), (109, (vI 0)), (110, (vB true)), (111, (vB true)), (112, (vB true)), (113, (vI 9)), (114, (vB true)), (115, (vB true)), (116, (vB true)), (117, (vB true)), (118, (vB true)), (119, (vB true)), (120, (vI 0)), (121, (vB true)), (122, (vB true)), (123, (vB true)), (124, (vA #[(vI 1), (vI 5)])), (126, (vA #[(vI 0), (vI 5)])), (125, (vA #[(vI 0), (vI 5)])), (127, (vB true)), (128, (vB true)), (0, (vB true))]
    (fun q => SoundCall Tryd.prog 28 #[] h (vA #[(vS ⟨#[100]⟩), (vI 2), (vI 10), (vL (some ⟨b1238, 0, none⟩) 1 1)]) hh1240 ∧ ((vP b1246 0) = (Value.pointer (some ⟨hh1240.size, 0, none⟩)) ∧ h1244 = hh1240.push (.cells #[(vS .empty), (vI 0), (vI 0), (vL none 0 0)] 24 (0, 0))) ∧ (storeT Tryd.prog h1244 24 (vP b1246 0) (vA #[(vS ⟨#[100]⟩), (vI 2), (vI 10), (vL (some ⟨b1238, 0, none⟩) 1 1)]) = some h1254 ∧ (undef : Value) = undef) ∧ (loadT Tryd.prog h1254 24 (vP b1246 0) = some (vA #[(vS ⟨#[100]⟩), (vI 2), (vI 10), (vL (some ⟨b1238, 0, none⟩) 1 1)]) ∧ h1254 = h1254) ∧ SoundCall Tryd.prog 13 #[(vA #[(vS ⟨#[100]⟩), (vI 2), (vI 10), (vL (some ⟨b1238, 0, none⟩) 1 1)]), (vI 5)] h1254 (vT #[(vA #[(vI 0), (vI 5)]), (vI 0)]) h1262 ∧ ((vP b1270 0) = (Value.pointer (some ⟨h1262.size, 0, none⟩)) ∧ h1268 = h1262.push (.cells #[(vI 0), (vI 0)] 28 (0, 0))) ∧ (storeT Tryd.prog h1268 28 (vP b1270 0) (vA #[(vI 0), (vI 5)]) = some h1280 ∧ (undef : Value) = undef) ∧ (loadT Tryd.prog h1280 28 (vP b1270 0) = some (vA #[(vI 0), (vI 5)]) ∧ h1280 = h1280) ∧ (loadT Tryd.prog h1280 24 (vP b1246 0) = some (vA #[(vS ⟨#[100]⟩), (vI 2), (vI 10), (vL (some ⟨b1238, 0, none⟩) 1 1)]) ∧ h1280 = h1280) ∧ SoundCall Tryd.prog 25 #[(vA #[(vI 0), (vI 5)]), (vA #[(vS ⟨#[100]⟩), (vI 2), (vI 10), (vL (some ⟨b1238, 0, none⟩) 1 1)])] h1280 (vT #[(vI 15), (vB true), (vI 0)]) h1289 ∧ (loadT Tryd.prog h1289 28 (vP b1270 0) = some (vA #[(vI 0), (vI 5)]) ∧ h1289 = h1289) ∧ (loadT Tryd.prog h1289 24 (vP b1246 0) = some (vA #[(vS ⟨#[100]⟩), (vI 2), (vI 10), (vL (some ⟨b1238, 0, none⟩) 1 1)]) ∧ h1289 = h1289) ∧ SoundCall Tryd.prog 17 #[(vA #[(vI 0), (vI 5)]), (vA #[(vS ⟨#[100]⟩), (vI 2), (vI 10), (vL (some ⟨b1238, 0, none⟩) 1 1)])] h1289 (vT #[(vI 2), (vI 0)]) h1299 ∧ (loadT Tryd.prog h1299 28 (vP b1270 0) = some (vA #[(vI 0), (vI 5)]) ∧ h1299 = h1299) ∧ (loadT Tryd.prog h1299 24 (vP b1246 0) = some (vA #[(vS ⟨#[100]⟩), (vI 2), (vI 10), (vL (some ⟨b1238, 0, none⟩) 1 1)]) ∧ h1299 = h1299) ∧ SoundCall Tryd.prog 15 #[(vA #[(vI 0), (vI 5)]), (vA #[(vS ⟨#[100]⟩), (vI 2), (vI 10), (vL (some ⟨b1238, 0, none⟩) 1 1)]), (vI 6)] h1299 (vT #[(vA #[(vI 1), (vI 5)]), (vB true), (vI 0)]) h1308 ∧ ((vP b1321 0) = (Value.pointer (some ⟨h1308.size, 0, none⟩)) ∧ h1319 = h1308.push (.cells #[(vI 0), (vI 0)] 28 (0, 0))) ∧ (storeT Tryd.prog h1319 28 (vP b1321 0) (vA #[(vI 1), (vI 5)]) = some h1333 ∧ (undef : Value) = undef) ∧ (loadT Tryd.prog h1333 24 (vP b1246 0) = some (vA #[(vS ⟨#[100]⟩), (vI 2), (vI 10), (vL (some ⟨b1238, 0, none⟩) 1 1)]) ∧ h1333 = h1333) ∧ SoundCall Tryd.prog 15 #[(vA #[(vI 2), (vI 5)]), (vA #[(vS ⟨#[100]⟩), (vI 2), (vI 10), (vL (some ⟨b1238, 0, none⟩) 1 1)]), (vI 8)] h1333 (vT #[(vA #[(vI 3), (vI 5)]), (vB false), (vI 0)]) h1343 ∧ ((vP b1357 0) = (Value.pointer (some ⟨h1343.size, 0, none⟩)) ∧ h1355 = h1343.push (.cells #[(vI 0), (vI 0)] 28 (0, 0))) ∧ (storeT Tryd.prog h1355 28 (vP b1357 0) (vA #[(vI 3), (vI 5)]) = some h1371 ∧ (undef : Value) = undef) ∧ (loadT Tryd.prog h1371 24 (vP b1246 0) = some (vA #[(vS ⟨#[100]⟩), (vI 2), (vI 10), (vL (some ⟨b1238, 0, none⟩) 1 1)]) ∧ h1371 = h1371) ∧ SoundCall Tryd.prog 15 #[(vA #[(vI 3), (vI 5)]), (vA #[(vS ⟨#[100]⟩), (vI 2), (vI 10), (vL (some ⟨b1238, 0, none⟩) 1 1)]), (vI 9)] h1371 (vT #[(vA #[(vI 0), (vI 0)]), (vB false), (vI 9)]) h1382 ∧ ((vP b1397 0) = (Value.pointer (some ⟨h1382.size, 0, none⟩)) ∧ h1395 = h1382.push (.cells #[(vI 0), (vI 0)] 28 (0, 0))) ∧ (storeT Tryd.prog h1395 28 (vP b1397 0) (vA #[(vI 0), (vI 0)]) = some h1413 ∧ (undef : Value) = undef) ∧ (loadT Tryd.prog h1413 28 (vP b1270 0) = some (vA #[(vI 0), (vI 5)]) ∧ h1413 = h1413) ∧ (loadT Tryd.prog h1413 24 (vP b1246 0) = some (vA #[(vS ⟨#[100]⟩), (vI 2), (vI 10), (vL (some ⟨b1238, 0, none⟩) 1 1)]) ∧ h1413 = h1413) ∧ SoundCall Tryd.prog 23 #[(vA #[(vI 0), (vI 5)]), (vA #[(vS ⟨#[100]⟩), (vI 2), (vI 10), (vL (some ⟨b1238, 0, none⟩) 1 1)]), (vI 15)] h1413 (vT #[(vB true), (vI 0)]) h1425 ∧ (loadT Tryd.prog h1425 28 (vP b1270 0) = some (vA #[(vI 0), (vI 5)]) ∧ h1425 = h1425) ∧ (binA Tryd.prog .eql 28 (vA #[(vI 0), (vI 5)]) (vA #[(vI 0), (vI 5)]) = some (vB true) ∧ h1425 = h1425) ∧ (loadT Tryd.prog h1425 28 (vP b1321 0) = some (vA #[(vI 1), (vI 5)]) ∧ h1425 = h1425) ∧ (binA Tryd.prog .eql 28 (vA #[(vI 1), (vI 5)]) (vA #[(vI 1), (vI 5)]) = some (vB true) ∧ h1425 = h1425) ∧ (loadT Tryd.prog h1425 28 (vP b1321 0) = some (vA #[(vI 1), (vI 5)]) ∧ h1425 = h1425) ∧ (loadT Tryd.prog h1425 28 (vP b1270 0) = some (vA #[(vI 0), (vI 5)]) ∧ h1425 = h1425) ∧ SoundCall Tryd.prog 19 #[(vA #[(vI 1), (vI 5)])] h1425 (vA #[(vI 0), (vI 5)]) hh1435 ∧ (loadT Tryd.prog hh1435 28 (vP b1270 0) = some (vA #[(vI 0), (vI 5)]) ∧ hh1435 = hh1435) ∧ (binA Tryd.prog .eql 28 (vA #[(vI 0), (vI 5)]) (vA #[(vI 0), (vI 5)]) = some (vB true) ∧ hh1435 = hh1435) ∧ q) (by intro K'; as_aux_lemma => kernel_rfl) (fun _ q => ⟨sn1241, ⟨by rw [eb1247], e1245⟩, ⟨by rw [e1255]; exact store_cells size24 rfl f1248 (by decide) (by simp) rfl (by kernel_rfl), rfl⟩, ⟨load_agg agg24 size24 f1256 (by simp) (by kernel_rfl), rfl⟩, (by rw [q1267, e1260] at s1261; exact s1261), ⟨by rw [eb1271], e1269⟩, ⟨by rw [e1281]; exact store_cells size28 rfl f1272 (by decide) (by simp) rfl (by kernel_rfl), rfl⟩, ⟨load_agg agg28 size28 f1282 (by simp) (by kernel_rfl), rfl⟩, ⟨load_agg agg24 size24 f1283 (by simp) (by kernel_rfl), rfl⟩, (by rw [q1295, q1296, e1287] at s1288; exact s1288), ⟨load_agg agg28 size28 f1292 (by simp) (by kernel_rfl), rfl⟩, ⟨load_agg agg24 size24 f1291 (by simp) (by kernel_rfl), rfl⟩, (by rw [q1305, e1297] at s1298; exact s1298), ⟨load_agg agg28 size28 f1302 (by simp) (by kernel_rfl), rfl⟩, ⟨load_agg agg24 size24 f1301 (by simp) (by kernel_rfl), rfl⟩, (by rw [q1315, q1316, q1317, q1318] at s1307; exact s1307), ⟨by rw [eb1322], e1320⟩, ⟨by rw [e1334]; exact store_cells size28 rfl f1323 (by decide) (by simp) rfl (by kernel_rfl), rfl⟩, ⟨load_agg agg24 size24 f1336 (by simp) (by kernel_rfl), rfl⟩, (by rw [q1351, q1352, q1353, q1354] at s1342; exact s1342), ⟨by rw [eb1358], e1356⟩, ⟨by rw [e1372]; exact store_cells size28 rfl f1359 (by decide) (by simp) rfl (by kernel_rfl), rfl⟩, ⟨load_agg agg24 size24 f1374 (by simp) (by kernel_rfl), rfl⟩, (by rw [q1391, q1392, q1393, q1394] at s1381; exact s1381), ⟨by rw [eb1398], e1396⟩, ⟨by rw [e1414]; exact store_cells size28 rfl f1399 (by decide) (by simp) rfl (by kernel_rfl), rfl⟩, ⟨load_agg agg28 size28 f1417 (by simp) (by kernel_rfl), rfl⟩, ⟨load_agg agg24 size24 f1416 (by simp) (by kernel_rfl), rfl⟩, (by rw [q1434, e1423] at s1424; exact s1424), ⟨load_agg agg28 size28 f1428 (by simp) (by kernel_rfl), rfl⟩, ⟨cmp28_eql (decide_eq_true ⟨rfl, rfl⟩), rfl⟩, ⟨load_agg agg28 size28 f1429 (by simp) (by kernel_rfl), rfl⟩, ⟨cmp28_eql (decide_eq_true ⟨rfl, rfl⟩), rfl⟩, ⟨load_agg agg28 size28 f1429 (by simp) (by kernel_rfl), rfl⟩, ⟨load_agg agg28 size28 f1428 (by simp) (by kernel_rfl), rfl⟩, sn1436, ⟨load_agg agg28 size28 f1439 (by simp) (by kernel_rfl), rfl⟩, ⟨cmp28_eql (decide_eq_true ⟨rfl, rfl⟩), rfl⟩, q⟩) ?_
  refine end_at (T := ⟨fun _ _ => none, fun _ => none, none⟩) (A := K (vB true) hh1435) (by kernel_rfl) ?_
  exact hK _ _ (⟨rfl, x1444⟩)
theorem add_wrap {t : TypeId} {a b : Int} : binA Tryd.prog .add t (.int .i64 a) (.int .i64 b) = some (.int .i64 (IntKind.i64.wrap (a + b))) := by simp [binA, intBinA]
set_option maxHeartbeats 4000000 in
theorem few_ok (h : Heap) (d : DefM) (sa : Option Addr) (cp : Nat) (hl : LAt h stepc 2 d.xs (.slice sa d.xs.length cp)) (hlen : d.xs.length ≤ 9223372036854775807) : WCall Tryd.prog 11 #[(Value.agg #[(vS d.name), (vI (d.rt)), (vI (d.dl)), (Value.slice sa (d.xs.length) (cp))])] h (fun v h1 => ∃ q, v = .bool q ∧ Ext h h1) := by
  suffices H : ∀ K : Value → Heap → Prop, (∀ v h1, (fun v h1 => ∃ q, v = .bool q ∧ Ext h h1) v h1 → K v h1) → WCall Tryd.prog 11 #[(Value.agg #[(vS d.name), (vI (d.rt)), (vI (d.dl)), (Value.slice sa (d.xs.length) (cp))])] h K from H _ fun _ _ q => q
  intro K hK
  refine wcall_at { tmps := #[(vA #[(vS d.name), (vI d.rt), (vI d.dl), (vL sa d.xs.length cp)]), vZ, vZ, vZ, vZ, vZ, vZ, vZ, vZ, vZ, vZ, vZ, vZ, vZ, vZ, vZ, vZ, vZ, vZ, vZ, vZ, vZ, vZ, vZ, vZ, vZ, vZ, vZ, vZ, vZ, vZ, vZ, vZ, vZ, vZ, vZ], defers := [] } (by kernel_rfl) ?_
  refine wc_seq' (subc (bodyOf Tryd.prog 11) [0]) (subc (bodyOf Tryd.prog 11) [1]) (by kernel_rfl) ?_
  obtain ⟨b1447, eb1448⟩ : ∃ zq, zq = h.size := ⟨_, rfl⟩
  obtain ⟨h1445, e1446⟩ : ∃ zq, zq = h.push (.cells #[(vS d.name), (vI (d.rt)), (vI (d.dl)), (Value.slice sa (d.xs.length) (cp))] 24 (0, 0)) := ⟨_, rfl⟩
  have f1449 := push_new e1446
  rw [← eb1448] at f1449
  have x1451 : Ext h h1445 := by rw [e1446]; exact Ext.push _ _
  have o1452 : h.size ≤ b1447 := by have := (Ext.refl h).size; omega
  have x1453 := (Ext.refl h).trans x1451
  refine wc_upd (n := 200) (T := ⟨fun r i => match r, i with | 0, 0 => some ((vP b1447 0), h1445) | _, _ => none, fun _ => none, none⟩) (x := .normal) (h1 := h1445) [(1, (vP b1447 0)), (2, (vB false))]
    (fun q => ((vP b1447 0) = (Value.pointer (some ⟨h.size, 0, none⟩)) ∧ h1445 = h.push (.cells #[(vS d.name), (vI d.rt), (vI d.dl), (vL sa d.xs.length cp)] 24 (0, 0))) ∧ q) (by intro K'; as_aux_lemma => kernel_rfl) (fun _ q => ⟨⟨by rw [eb1448], e1446⟩, q⟩) ?_
  refine wc_seq' (subc (bodyOf Tryd.prog 11) [1, 0]) (subc (bodyOf Tryd.prog 11) [1, 1]) (by kernel_rfl) ?_
  refine wc_upd (n := 200) (T := ⟨fun r i => match r, i with | 1, 1 => some ((vS d.name), h1445) | _, _ => none, fun _ => none, none⟩) (x := .normal) (h1 := h1445) [(5, (vP b1447 0)), (6, (vS d.name)), (7, (vI ((d.name.size : Nat)))), (3, (vI ((d.name.size : Nat))))]
    (fun q => (loadT Tryd.prog h1445 9 (vP b1447 0) = some (vS d.name) ∧ h1445 = h1445) ∧ q) (by intro K'; as_aux_lemma => kernel_rfl) (fun _ q => ⟨⟨load_cell agg9 f1449 rfl, rfl⟩, q⟩) ?_
  refine wc_seq' (subc (bodyOf Tryd.prog 11) [1, 1, 0]) (subc (bodyOf Tryd.prog 11) [1, 1, 1]) (by kernel_rfl) ?_
  refine wc_seq' (subc (bodyOf Tryd.prog 11) [1, 1, 0, 0]) (subc (bodyOf Tryd.prog 11) [1, 1, 0, 1]) (by kernel_rfl) ?_
  refine wc_upd (n := 200) (T := ⟨fun r i => match r, i with | _, _ => none, fun _ => none, none⟩) (x := .normal) (h1 := h1445) [(4, (vI 0))]
    (fun q => q) (by intro K'; as_aux_lemma => kernel_rfl) (fun _ q => q) ?_
  refine wc_block' 0 (subc (bodyOf Tryd.prog 11) [1, 1, 0, 1, 0]) (by kernel_rfl) ?_
  refine wc_loop' (subc (bodyOf Tryd.prog 11) [1, 1, 0, 1, 0, 0]) (by kernel_rfl) (fun n' a' h' => ∃ (k : Int) (n : Int) (g0 : Nat → Value), a' = { tmps := #[(vA #[(vS d.name), (vI d.rt), (vI d.dl), (vL sa d.xs.length cp)]), (vP b1447 0), (vB false), (vI n), (vI k), (vP b1447 0), (vS d.name), (vI ((d.name.size : Nat))), (g0 8), (g0 9), (g0 10), (g0 11), (g0 12), (g0 13), (g0 14), (g0 15), (g0 16), (g0 17), (g0 18), (g0 19), (g0 20), (g0 21), (g0 22), (g0 23), (g0 24), (g0 25), (g0 26), (g0 27), vZ, vZ, vZ, vZ, vZ, vZ, vZ, vZ], defers := [] } ∧ Ext h h' ∧ n' = d.xs.length - k.toNat ∧ h'[b1447]? = some (.cells #[(vS d.name), (vI d.rt), (vI d.dl), (vL sa d.xs.length cp)] 24 (0, 0)) ∧ (0 ≤ k ∧ k ≤ d.xs.length ∧ k ≤ 21)) ?_ (d.xs.length - (0 : Int).toNat) ⟨0, ((d.name.size : Nat) : Int), (fun i => ([vU, vU, vU, vU, vU, vU, vU, vU, vZ, vZ, vZ, vZ, vZ, vZ, vZ, vZ, vZ, vZ, vZ, vZ, vZ, vZ, vZ, vZ, vZ, vZ, vZ, vZ] : List Value).getD i undef), by as_aux_lemma => kernel_rfl, x1453, rfl, f1449, by omega⟩
  rintro n' _ h1455 ⟨k, n, g0, rfl, x1459, m1458, f1456, i1457⟩
  by_cases c1460 : ((k) : Int) < ((d.xs.length : Nat))
  · by_cases c1461 : ((k) : Int) < 21
    · obtain ⟨i1462, v1463, e1464, l1465, g1466⟩ := list_at d.xs (e := (k)) (by omega) (by first | omega | (simp only [List.length_set, List.length_append, List.length_singleton]; omega))
      obtain ⟨b1467, o1468, k1469, q1470, a1471⟩ := (hl.slice stepc_size).at stepc_size g1466
      refine wc_upd (n := 200) (T := ⟨fun r i => match r, i with | 3, 2 => some ((vL sa d.xs.length cp), h1455) | 3, 4 => some ((vB true), h1455) | 3, 7 => some ((vB true), h1455) | 5, 2 => some ((vL sa d.xs.length cp), h1455) | 5, 4 => some ((vP b1467 o1468), h1455) | 5, 6 => some ((vS v1463.key), h1455) | 5, 8 => some ((vI (IntKind.i64.wrap ((n) + ((v1463.key.size : Nat))))), h1455) | 4, 1 => some ((vI ((k) + 1)), h1455) | _, _ => none, fun _ => none, none⟩) (x := .normal) (h1 := h1455) [(8, (vI k)), (9, (vP b1447 3)), (10, (vL sa d.xs.length cp)), (11, (vI ((d.xs.length : Nat)))), (12, (vB true)), (13, (vB true)), (14, (vI k)), (15, (vB true)), (16, (vB true)), (19, (vI n)), (20, (vP b1447 3)), (21, (vL sa d.xs.length cp)), (22, (vI k)), (23, (vP b1467 o1468)), (24, (vP b1467 o1468)), (25, (vS v1463.key)), (26, (vI ((v1463.key.size : Nat)))), (27, (vI (IntKind.i64.wrap ((n) + ((v1463.key.size : Nat)))))), (3, (vI (IntKind.i64.wrap ((n) + ((v1463.key.size : Nat)))))), (17, (vI k)), (18, (vI ((k) + 1))), (4, (vI ((k) + 1)))]
        (fun q => (loadT Tryd.prog h1455 22 (vP b1447 3) = some (vL sa d.xs.length cp) ∧ h1455 = h1455) ∧ (binA Tryd.prog .lss 3 (vI k) (vI ((d.xs.length : Nat))) = some (vB true) ∧ h1455 = h1455) ∧ (binA Tryd.prog .lss 3 (vI k) (vI 21) = some (vB true) ∧ h1455 = h1455) ∧ (loadT Tryd.prog h1455 22 (vP b1447 3) = some (vL sa d.xs.length cp) ∧ h1455 = h1455) ∧ (indexAddrA Tryd.prog 22 (vL sa d.xs.length cp) (vI k) = some (vP b1467 o1468) ∧ h1455 = h1455) ∧ (loadT Tryd.prog h1455 9 (vP b1467 o1468) = some (vS v1463.key) ∧ h1455 = h1455) ∧ (binA Tryd.prog .add 3 (vI n) (vI ((v1463.key.size : Nat))) = some (vI (IntKind.i64.wrap ((n) + ((v1463.key.size : Nat))))) ∧ h1455 = h1455) ∧ (binA Tryd.prog .add 3 (vI k) (vI 1) = some (vI ((k) + 1)) ∧ h1455 = h1455) ∧ q) (by intro K'; as_aux_lemma => kernel_rfl) (fun _ q => ⟨⟨load_cell agg22 f1456 rfl, rfl⟩, ⟨cmp_lss (decide_eq_true c1460), rfl⟩, ⟨cmp_lss (decide_eq_true c1461), rfl⟩, ⟨load_cell agg22 f1456 rfl, rfl⟩, ⟨a1471 und22 size66 e1464, rfl⟩, ⟨(k1469.keep fun b r _ q => x1459 b r q).cell (j := 0) agg9 rfl, rfl⟩, ⟨add_wrap, rfl⟩, ⟨add_i64 (by omega) (by omega), rfl⟩, q⟩) ?_
      exact ⟨d.xs.length - (k + 1).toNat, by omega, ⟨k + 1, IntKind.i64.wrap ((n) + ((v1463.key.size : Nat))), (fun i => ([vU, vU, vU, vU, vU, vU, vU, vU, (vI k), (vP b1447 3), (vL sa d.xs.length cp), (vI ((d.xs.length : Nat))), (vB true), (vB true), (vI k), (vB true), (vB true), (vI k), (vI ((k) + 1)), (vI n), (vP b1447 3), (vL sa d.xs.length cp), (vI k), (vP b1467 o1468), (vP b1467 o1468), (vS v1463.key), (vI ((v1463.key.size : Nat))), (vI (IntKind.i64.wrap ((n) + ((v1463.key.size : Nat)))))] : List Value).getD i undef), by as_aux_lemma => kernel_rfl, x1459, rfl, f1456, by omega⟩⟩
    · refine wc_upd (n := 200) (T := ⟨fun r i => match r, i with | 3, 2 => some ((vL sa d.xs.length cp), h1455) | 3, 4 => some ((vB true), h1455) | 3, 7 => some ((vB false), h1455) | _, _ => none, fun _ => none, none⟩) (x := (.exit 0)) (h1 := h1455) [(8, (vI k)), (9, (vP b1447 3)), (10, (vL sa d.xs.length cp)), (11, (vI ((d.xs.length : Nat)))), (12, (vB true)), (13, (vB true)), (14, (vI k)), (15, (vB false)), (16, (vB false))]
        (fun q => (loadT Tryd.prog h1455 22 (vP b1447 3) = some (vL sa d.xs.length cp) ∧ h1455 = h1455) ∧ (binA Tryd.prog .lss 3 (vI k) (vI ((d.xs.length : Nat))) = some (vB true) ∧ h1455 = h1455) ∧ (binA Tryd.prog .lss 3 (vI k) (vI 21) = some (vB false) ∧ h1455 = h1455) ∧ q) (by intro K'; as_aux_lemma => kernel_rfl) (fun _ q => ⟨⟨load_cell agg22 f1456 rfl, rfl⟩, ⟨cmp_lss (decide_eq_true c1460), rfl⟩, ⟨cmp_lss (decide_eq_false c1461), rfl⟩, q⟩) ?_
      by_cases c1473 : (((d.xs.length : Nat)) : Int) ≤ 20
      · by_cases c1474 : ((n) : Int) ≤ 2000
        · refine wc_upd (n := 200) (T := ⟨fun r i => match r, i with | 6, 1 => some ((vL sa d.xs.length cp), h1455) | 6, 3 => some ((vB true), h1455) | 6, 6 => some ((vB true), h1455) | _, _ => none, fun _ => none, none⟩) (x := .ret) (h1 := h1455) [(28, (vP b1447 3)), (29, (vL sa d.xs.length cp)), (30, (vI ((d.xs.length : Nat)))), (31, (vB true)), (32, (vB true)), (33, (vI n)), (34, (vB true)), (35, (vB true)), (2, (vB true))]
            (fun q => (loadT Tryd.prog h1455 22 (vP b1447 3) = some (vL sa d.xs.length cp) ∧ h1455 = h1455) ∧ (binA Tryd.prog .leq 3 (vI ((d.xs.length : Nat))) (vI 20) = some (vB true) ∧ h1455 = h1455) ∧ (binA Tryd.prog .leq 3 (vI n) (vI 2000) = some (vB true) ∧ h1455 = h1455) ∧ q) (by intro K'; as_aux_lemma => kernel_rfl) (fun _ q => ⟨⟨load_cell agg22 f1456 rfl, rfl⟩, ⟨cmp_leq (decide_eq_true c1473), rfl⟩, ⟨cmp_leq (decide_eq_true c1474), rfl⟩, q⟩) ?_
          refine end_at (T := ⟨fun _ _ => none, fun _ => none, none⟩) (A := K (vB true) h1455) (by kernel_rfl) ?_
          exact hK _ _ (⟨_, rfl, x1459⟩)
        · refine wc_upd (n := 200) (T := ⟨fun r i => match r, i with | 6, 1 => some ((vL sa d.xs.length cp), h1455) | 6, 3 => some ((vB true), h1455) | 6, 6 => some ((vB false), h1455) | _, _ => none, fun _ => none, none⟩) (x := .ret) (h1 := h1455) [(28, (vP b1447 3)), (29, (vL sa d.xs.length cp)), (30, (vI ((d.xs.length : Nat)))), (31, (vB true)), (32, (vB true)), (33, (vI n)), (34, (vB false)), (35, (vB false)), (2, (vB false))]
            (fun q => (loadT Tryd.prog h1455 22 (vP b1447 3) = some (vL sa d.xs.length cp) ∧ h1455 = h1455) ∧ (binA Tryd.prog .leq 3 (vI ((d.xs.length : Nat))) (vI 20) = some (vB true) ∧ h1455 = h1455) ∧ (binA Tryd.prog .leq 3 (vI n) (vI 2000) = some (vB false) ∧ h1455 = h1455) ∧ q) (by intro K'; as_aux_lemma => kernel_rfl) (fun _ q => ⟨⟨load_cell agg22 f1456 rfl, rfl⟩, ⟨cmp_leq (decide_eq_true c1473), rfl⟩, ⟨cmp_leq (decide_eq_false c1474), rfl⟩, q⟩) ?_
          refine end_at (T := ⟨fun _ _ => none, fun _ => none, none⟩) (A := K (vB false) h1455) (by kernel_rfl) ?_
          exact hK _ _ (⟨_, rfl, x1459⟩)
      · refine wc_upd (n := 200) (T := ⟨fun r i => match r, i with | 6, 1 => some ((vL sa d.xs.length cp), h1455) | 6, 3 => some ((vB false), h1455) | _, _ => none, fun _ => none, none⟩) (x := .ret) (h1 := h1455) [(28, (vP b1447 3)), (29, (vL sa d.xs.length cp)), (30, (vI ((d.xs.length : Nat)))), (31, (vB false)), (32, (vB false)), (33, vZ), (34, vZ), (35, (vB false)), (2, (vB false))]
          (fun q => (loadT Tryd.prog h1455 22 (vP b1447 3) = some (vL sa d.xs.length cp) ∧ h1455 = h1455) ∧ (binA Tryd.prog .leq 3 (vI ((d.xs.length : Nat))) (vI 20) = some (vB false) ∧ h1455 = h1455) ∧ q) (by intro K'; as_aux_lemma => kernel_rfl) (fun _ q => ⟨⟨load_cell agg22 f1456 rfl, rfl⟩, ⟨cmp_leq (decide_eq_false c1473), rfl⟩, q⟩) ?_
        refine end_at (T := ⟨fun _ _ => none, fun _ => none, none⟩) (A := K (vB false) h1455) (by kernel_rfl) ?_
        exact hK _ _ (⟨_, rfl, x1459⟩)
  · refine wc_upd (n := 200) (T := ⟨fun r i => match r, i with | 3, 2 => some ((vL sa d.xs.length cp), h1455) | 3, 4 => some ((vB false), h1455) | _, _ => none, fun _ => none, none⟩) (x := (.exit 0)) (h1 := h1455) [(8, (vI k)), (9, (vP b1447 3)), (10, (vL sa d.xs.length cp)), (11, (vI ((d.xs.length : Nat)))), (12, (vB false)), (13, (vB false)), (14, vZ), (15, vZ), (16, (vB false))]
      (fun q => (loadT Tryd.prog h1455 22 (vP b1447 3) = some (vL sa d.xs.length cp) ∧ h1455 = h1455) ∧ (binA Tryd.prog .lss 3 (vI k) (vI ((d.xs.length : Nat))) = some (vB false) ∧ h1455 = h1455) ∧ q) (by intro K'; as_aux_lemma => kernel_rfl) (fun _ q => ⟨⟨load_cell agg22 f1456 rfl, rfl⟩, ⟨cmp_lss (decide_eq_false c1460), rfl⟩, q⟩) ?_
    by_cases c1475 : (((d.xs.length : Nat)) : Int) ≤ 20
    · by_cases c1476 : ((n) : Int) ≤ 2000
      · refine wc_upd (n := 200) (T := ⟨fun r i => match r, i with | 6, 1 => some ((vL sa d.xs.length cp), h1455) | 6, 3 => some ((vB true), h1455) | 6, 6 => some ((vB true), h1455) | _, _ => none, fun _ => none, none⟩) (x := .ret) (h1 := h1455) [(28, (vP b1447 3)), (29, (vL sa d.xs.length cp)), (30, (vI ((d.xs.length : Nat)))), (31, (vB true)), (32, (vB true)), (33, (vI n)), (34, (vB true)), (35, (vB true)), (2, (vB true))]
          (fun q => (loadT Tryd.prog h1455 22 (vP b1447 3) = some (vL sa d.xs.length cp) ∧ h1455 = h1455) ∧ (binA Tryd.prog .leq 3 (vI ((d.xs.length : Nat))) (vI 20) = some (vB true) ∧ h1455 = h1455) ∧ (binA Tryd.prog .leq 3 (vI n) (vI 2000) = some (vB true) ∧ h1455 = h1455) ∧ q) (by intro K'; as_aux_lemma => kernel_rfl) (fun _ q => ⟨⟨load_cell agg22 f1456 rfl, rfl⟩, ⟨cmp_leq (decide_eq_true c1475), rfl⟩, ⟨cmp_leq (decide_eq_true c1476), rfl⟩, q⟩) ?_
        refine end_at (T := ⟨fun _ _ => none, fun _ => none, none⟩) (A := K (vB true) h1455) (by kernel_rfl) ?_
        exact hK _ _ (⟨_, rfl, x1459⟩)
      · refine wc_upd (n := 200) (T := ⟨fun r i => match r, i with | 6, 1 => some ((vL sa d.xs.length cp), h1455) | 6, 3 => some ((vB true), h1455) | 6, 6 => some ((vB false), h1455) | _, _ => none, fun _ => none, none⟩) (x := .ret) (h1 := h1455) [(28, (vP b1447 3)), (29, (vL sa d.xs.length cp)), (30, (vI ((d.xs.length : Nat)))), (31, (vB true)), (32, (vB true)), (33, (vI n)), (34, (vB false)), (35, (vB false)), (2, (vB false))]
          (fun q => (loadT Tryd.prog h1455 22 (vP b1447 3) = some (vL sa d.xs.length cp) ∧ h1455 = h1455) ∧ (binA Tryd.prog .leq 3 (vI ((d.xs.length : Nat))) (vI 20) = some (vB true) ∧ h1455 = h1455) ∧ (binA Tryd.prog .leq 3 (vI n) (vI 2000) = some (vB false) ∧ h1455 = h1455) ∧ q) (by intro K'; as_aux_lemma => kernel_rfl) (fun _ q => ⟨⟨load_cell agg22 f1456 rfl, rfl⟩, ⟨cmp_leq (decide_eq_true c1475), rfl⟩, ⟨cmp_leq (decide_eq_false c1476), rfl⟩, q⟩) ?_
        refine end_at (T := ⟨fun _ _ => none, fun _ => none, none⟩) (A := K (vB false) h1455) (by kernel_rfl) ?_
        exact hK _ _ (⟨_, rfl, x1459⟩)
    · refine wc_upd (n := 200) (T := ⟨fun r i => match r, i with | 6, 1 => some ((vL sa d.xs.length cp), h1455) | 6, 3 => some ((vB false), h1455) | _, _ => none, fun _ => none, none⟩) (x := .ret) (h1 := h1455) [(28, (vP b1447 3)), (29, (vL sa d.xs.length cp)), (30, (vI ((d.xs.length : Nat)))), (31, (vB false)), (32, (vB false)), (33, vZ), (34, vZ), (35, (vB false)), (2, (vB false))]
        (fun q => (loadT Tryd.prog h1455 22 (vP b1447 3) = some (vL sa d.xs.length cp) ∧ h1455 = h1455) ∧ (binA Tryd.prog .leq 3 (vI ((d.xs.length : Nat))) (vI 20) = some (vB false) ∧ h1455 = h1455) ∧ q) (by intro K'; as_aux_lemma => kernel_rfl) (fun _ q => ⟨⟨load_cell agg22 f1456 rfl, rfl⟩, ⟨cmp_leq (decide_eq_false c1475), rfl⟩, q⟩) ?_
      refine end_at (T := ⟨fun _ _ => none, fun _ => none, none⟩) (A := K (vB false) h1455) (by kernel_rfl) ?_
      exact hK _ _ (⟨_, rfl, x1459⟩)
end C27
