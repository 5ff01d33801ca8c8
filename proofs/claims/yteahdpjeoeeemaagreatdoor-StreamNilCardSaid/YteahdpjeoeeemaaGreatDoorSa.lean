/- set.table gives the one table of requests, and the closures that only recover do nothing. -/
import Derived.Test.YteahdpjeoeeemaaGreatDoorAx9
import Derived.KernelRfl
import Derived.Test.YteahdpjeoeeemaaGreatDoorChecked
open Go Go.Proofs Go.Proofs.YteahdpjeoeeemaaGreatDoor.Ax
set_option maxRecDepth 1000000
set_option linter.unusedVariables false
set_option linter.unusedSimpArgs false
namespace Go.Proofs.YteahdpjeoeeemaaGreatDoor.TT
theorem hmP : Tryz.prog.follows .mixedOrders = true := by kernel_rfl
theorem hszP : Tryz.prog.funcs.size ≤ 1048576 := by decide +kernel
noncomputable def sqA : Code → Code | .seq a _ => a | c => c
noncomputable def sqB : Code → Code | .seq _ b => b | c => c
noncomputable def blC : Code → Code | .block _ c => c | c => c
noncomputable def loC : Code → Code | .loop c => c | c => c
noncomputable def opsOf : Code → Array Oper | .region _ o _ => o | _ => #[]
noncomputable def tb : Code := (Tryz.f122.body).getD .skip
noncomputable def A0 := sqA tb
noncomputable def A1 := sqA (sqB tb)
noncomputable def T2 := sqB (sqB tb)
noncomputable def A2 := sqA (sqA T2)
noncomputable def OB := loC (blC (sqB (sqA T2)))
noncomputable def A10 := sqA (sqB T2)
noncomputable def A3 := sqA OB
noncomputable def O2 := sqB (sqB OB)
noncomputable def B1 := blC (sqA O2)
noncomputable def A9 := sqB O2
noncomputable def A4 := sqA B1
noncomputable def ops5 := opsOf (sqA (sqB B1))
noncomputable def CC := loC (blC (sqB (sqB B1)))
noncomputable def ops6 := opsOf (sqA CC)
noncomputable def C3 := blC (sqB (sqB CC))
noncomputable def ops7 := opsOf (sqA C3)
noncomputable def c8 := sqB C3
noncomputable def l6 : List Oper := ops6.toList.drop 1
noncomputable def l7 : List Oper := ops7.toList.drop 1
noncomputable def o5 : Oper := (ops5.toList.head?).getD default
noncomputable def o5' : Oper := ((ops5.toList.drop 1).head?).getD default
noncomputable def oN : Oper := (ops6.toList.head?).getD default
noncomputable def oE : Oper := (ops7.toList.head?).getD default
noncomputable def zrow : List AV := [.bool false, .bool false, .nilf]
theorem q3 : ∀ E k r h, (cCode Tryz.prog 30 A3).run E k r h = onR1 (lssV (gt 14 r) (gt 13 r)) (fun v => .ok .normal (st 15 v r) h) .no := by intro E k r h; kernel_rfl
theorem q4 : ∀ E k r h, (cCode Tryz.prog 30 A4).run E k r h = onR1 (indexAddrV 1 (gt 12 r) (gt 14 r)) (fun v => onR1 (onPtr (gt 16 (st 16 v r)) (fun b o => ld1 h b o) .no) (fun u => .ok .normal (st 3 (gt 17 (st 17 u (st 16 v r))) (st 17 u (st 16 v r))) h) .no) .no := by intro E k r h; kernel_rfl
theorem q5 : ∀ E r h, (stepK (cOp Tryz.prog 30 o5) (setD o5.dst).run (fun _ r h => .ok .normal r h)).run E r h = .ok .normal (st 18 (gt 3 r) r) h := by intro E r h; kernel_rfl
theorem q6 : ∀ E r h, (cOps Tryz.prog 30 ops6 l6).run E r h = onR1 (extractV 0 (gt 20 r)) (fun v => .ok .normal (st 21 v r) h) .no := by intro E r h; kernel_rfl
theorem q7 : ∀ E r h, (cOps Tryz.prog 30 ops7 l7).run E r h = onR1 (extractV 0 (gt 22 r)) (fun v => onR1 (extractV 1 (gt 22 (st 23 v r))) (fun u => sw (Nat.blt h.nx most) (
      onRH (onPtr (gt 5 (st 4 (gt 23 (st 5 (.ptr h.nx 0) (st 24 u (st 23 v r)))) (st 5 (.ptr h.nx 0) (st 24 u (st 23 v r))))) (fun b o => cellsX (gt 24 (st 4 (gt 23 (st 5 (.ptr h.nx 0) (st 24 u (st 23 v r)))) (st 5 (.ptr h.nx 0) (st 24 u (st 23 v r))))) (fun cs =>
        sw (Nat.beq (lenX cs) 3) (stL ⟨Hp.set 5 h.nx (.cells zrow 198 false true) h.hp, Nat.succ h.nx⟩ b o cs (fun h' => .ok undefA h') .no) .no) .no) .no) (fun _ h' => .ok .normal (st 4 (gt 23 (st 5 (.ptr h.nx 0) (st 24 u (st 23 v r)))) (st 5 (.ptr h.nx 0) (st 24 u (st 23 v r)))) h') .no) .no) .no) .no := by intro E r h; kernel_rfl
theorem q8 : ∀ E k r h, (cCode Tryz.prog 30 c8).run E k r h = onR1 (onPtr (gt 5 (st 26 (gt 4 (st 25 (gt 1 r) r)) (st 25 (gt 1 r) r))) (fun b o => ldN 3 h b o) .no) (fun v =>
      onRH (updateV 1 h (gt 25 (st 27 v (st 26 (gt 4 (st 25 (gt 1 r) r)) (st 25 (gt 1 r) r)))) (gt 26 (st 27 v (st 26 (gt 4 (st 25 (gt 1 r) r)) (st 25 (gt 1 r) r)))) (gt 27 (st 27 v (st 26 (gt 4 (st 25 (gt 1 r) r)) (st 25 (gt 1 r) r)))))
        (fun _ h' => .ok .normal (st 27 v (st 26 (gt 4 (st 25 (gt 1 r) r)) (st 25 (gt 1 r) r))) h') .no) .no := by intro E k r h; kernel_rfl
theorem q9 : ∀ E k r h, (cCode Tryz.prog 30 A9).run E k r h = onR1 (addV (gt 14 r) (.int 3 (Int.ofNat 1))) (fun v => .ok .normal (st 14 (gt 28 (st 28 v r)) (st 28 v r)) h) .no := by intro E k r h; kernel_rfl
theorem q10 : ∀ E k r h, (cCode Tryz.prog 30 A10).run E k r h = .ok .normal (st 0 (gt 29 (st 29 (gt 1 r) r)) (st 29 (gt 1 r) r)) h := by intro E k r h; kernel_rfl
theorem qr : ∀ r h, (cRes Tryz.prog 30 [.tmp 0]).run r h = some [gt 0 r] := by intro r h; kernel_rfl
theorem tbody : Tryz.f122.body = some (.seq A0 (.seq A1 (.seq (.seq A2 (.block 0 (.loop (.seq A3 (.seq (.cond (.tmp 15) .skip (.exit 0)) (.seq (.block 1 (.seq A4 (.seq (.region 5 ops5 false) (.block 2 (.loop CC))))) A9)))))) (.seq A10 .ret)))) := by kernel_rfl
theorem tfn : Tryz.prog.funcs[122]? = some Tryz.f122 := by kernel_rfl
theorem tnt : Tryz.f122.ntmps = 30 := by kernel_rfl
theorem tres : Tryz.f122.results = #[.tmp 0] := by kernel_rfl
theorem h5 : ops5.toList = [o5, o5'] := by kernel_rfl
theorem h5a : o5.guard = none := by kernel_rfl
theorem h5b : o5'.guard = none := by kernel_rfl
theorem h5c : o5.op = .move (.tmp 3) := by kernel_rfl
theorem h5d : o5'.op = .range 71 (.tmp 18) := by kernel_rfl
theorem h5e : o5'.dst = some 19 := by kernel_rfl
theorem tmapU : (Tryz.prog.underlying 71) = some (.map 9 198) := by kernel_rfl
theorem hC : CC = .seq (.region 6 ops6 false) (.seq (.cond (.tmp 21) .skip (.exit 2)) (.block 3 (.seq (.region 7 ops7 false) c8))) := by kernel_rfl
theorem h6a : ops6.toList = oN :: l6 := by kernel_rfl
theorem h6b : oN.op = .next (.tmp 19) false := by kernel_rfl
theorem h6c : oN.dst = some 20 := by kernel_rfl
theorem h6d : oN.guard = none := by kernel_rfl
theorem h7a : ops7.toList = oE :: l7 := by kernel_rfl
theorem h7b : oE.op = .entry (.tmp 19) := by kernel_rfl
theorem h7c : oE.dst = some 22 := by kernel_rfl
theorem h7d : oE.guard = none := by kernel_rfl
noncomputable def noD (o : Oper) : Bool := match o.op with | .defer _ => false | _ => true
theorem noD_ok {o : Oper} (h : noD o = true) (c : Call) : o.op ≠ .defer c := by intro e; unfold noD at h; rw [e] at h; cases h
theorem d6 : l6.all noD = true := by kernel_rfl
theorem d7 : l7.all noD = true := by kernel_rfl
theorem d8 : noDefer c8 = true := by kernel_rfl
theorem tabCode : TabCode Tryz.prog 122 71 198 zrow Tryz.f122 A0 A1 A2 A3 A4 A9 A10 CC c8 0 2 ops6 ops7 l6 l7 o5 :=
  ⟨tfn, tnt, tres, ⟨1, 5, ops5, o5', tbody, h5, h5a, h5b, fun c hc => (by rw [h5c] at hc; cases hc), h5d, h5e⟩, ⟨_, _, tmapU⟩,
    ⟨⟨6, 7, 3, oN, oE, hC, h6a, h6b, h6c, h6d, h7a, h7b, h7c, h7d⟩, by decide, by decide, by decide, by decide, fun o ho => noD_ok (List.all_eq_true.1 d6 o ho), fun o ho => noD_ok (List.all_eq_true.1 d7 o ho), d8⟩,
    q3, q4, q5, q6, q7, q8, q9, q10, qr, ⟨_, _, _, rfl⟩⟩
noncomputable def parts : List (List (AV × AV)) := [[(.str [98, 114], .agg [.bool true, .bool false, .func 326 [] []]), (.str [102, 108], .agg [.bool true, .bool false, .func 326 [] []]), (.str [115, 112], .agg [.bool true, .bool false, .func 515 [] [.ptr 1 0]]), (.str [111, 115], .agg [.bool false, .bool false, .func 515 [] [.ptr 2 0]]), (.str [98, 112], .agg [.bool true, .bool false, .func 328 [] []]), (.str [112, 110], .agg [.bool false, .bool false, .func 329 [] []]), (.str [112, 108], .agg [.bool false, .bool false, .func 330 [] []]), (.str [112, 111], .agg [.bool false, .bool false, .func 331 [] []]), (.str [110, 101], .agg [.bool false, .bool false, .func 332 [] []]), (.str [109, 107], .agg [.bool false, .bool false, .func 333 [] []]), (.str [114, 116], .agg [.bool false, .bool false, .func 334 [] []]), (.str [110, 115], .agg [.bool false, .bool false, .func 335 [] []]), (.str [114, 115], .agg [.bool false, .bool false, .func 336 [] []]), (.str [100, 105], .agg [.bool false, .bool false, .func 519 [] [.ptr 3 0]]), (.str [100, 97], .agg [.bool false, .bool false, .func 519 [] [.ptr 4 0]]), (.str [100, 116], .agg [.bool false, .bool false, .func 338 [] []]), (.str [119, 104], .agg [.bool false, .bool false, .func 339 [] []]), (.str [99, 104], .agg [.bool false, .bool false, .func 340 [] []])],
  [(.str [102, 105], .agg [.bool true, .bool false, .func 525 [] [.ptr 5 0, .ptr 6 0]]), (.str [110, 102], .agg [.bool true, .bool false, .func 525 [] [.ptr 7 0, .ptr 8 0]]), (.str [110, 97], .agg [.bool false, .bool false, .func 525 [] [.ptr 9 0, .ptr 10 0]]), (.str [110, 104], .agg [.bool false, .bool false, .func 525 [] [.ptr 11 0, .ptr 12 0]]), (.str [104, 121], .agg [.bool false, .bool false, .func 527 [] [.ptr 13 0]]), (.str [108, 103], .agg [.bool false, .bool false, .func 527 [] [.ptr 14 0]]), (.str [107, 101, 114, 110], .agg [.bool false, .bool false, .func 527 [] [.ptr 15 0]]), (.str [97, 100], .agg [.bool false, .bool false, .func 350 [] []]), (.str [99, 101], .agg [.bool true, .bool false, .func 530 [] [.ptr 16 0]]), (.str [117, 108], .agg [.bool false, .bool false, .func 530 [] [.ptr 17 0]]), (.str [99, 117], .agg [.bool false, .bool false, .func 530 [] [.ptr 18 0]]), (.str [108, 108], .agg [.bool false, .bool false, .func 532 [] [.ptr 19 0, .ptr 20 0, .ptr 21 0, .ptr 22 0, .ptr 23 0]]), (.str [108, 116], .agg [.bool false, .bool false, .func 532 [] [.ptr 24 0, .ptr 25 0, .ptr 26 0, .ptr 27 0, .ptr 28 0]]), (.str [105, 110], .agg [.bool true, .bool false, .func 532 [] [.ptr 29 0, .ptr 30 0, .ptr 31 0, .ptr 32 0, .ptr 33 0]]), (.str [118, 115], .agg [.bool false, .bool false, .func 532 [] [.ptr 34 0, .ptr 35 0, .ptr 36 0, .ptr 37 0, .ptr 38 0]]), (.str [108, 115], .agg [.bool false, .bool false, .func 532 [] [.ptr 39 0, .ptr 40 0, .ptr 41 0, .ptr 42 0, .ptr 43 0]]), (.str [116, 105], .agg [.bool true, .bool false, .func 361 [] []]), (.str [112, 115], .agg [.bool false, .bool false, .func 362 [] []]), (.str [102, 116], .agg [.bool false, .bool false, .func 363 [] []]), (.str [115, 115], .agg [.bool false, .bool false, .func 364 [] []]), (.str [104, 119], .agg [.bool false, .bool false, .func 365 [] []]), (.str [116, 97], .agg [.bool false, .bool false, .func 366 [] []]), (.str [116, 99], .agg [.bool false, .bool false, .func 541 [] [.ptr 44 0]]), (.str [108, 99], .agg [.bool false, .bool false, .func 541 [] [.ptr 45 0]]), (.str [110, 109], .agg [.bool false, .bool false, .func 370 [] []]), (.str [110, 110], .agg [.bool false, .bool false, .func 371 [] []]), (.str [109, 99], .agg [.bool false, .bool false, .func 372 [] []]), (.str [101, 118], .agg [.bool false, .bool false, .func 373 [] []]), (.str [101, 118, 99], .agg [.bool false, .bool false, .func 374 [] []])],
  [(.str [116, 108], .agg [.bool false, .bool false, .func 378 [] []]), (.str [112, 99], .agg [.bool false, .bool false, .func 379 [] []]), (.str [99, 104, 97, 114], .agg [.bool false, .bool true, .func 380 [] []]), (.str [116, 114], .agg [.bool false, .bool false, .func 381 [] []]), (.str [99, 111, 108, 111, 114], .agg [.bool false, .bool false, .func 382 [] []]), (.str [102, 112], .agg [.bool false, .bool false, .func 383 [] []])],
  [(.str [110, 114], .agg [.bool false, .bool false, .func 384 [] []]), (.str [97, 102], .agg [.bool false, .bool false, .func 385 [] []]), (.str [114, 114], .agg [.bool false, .bool false, .func 386 [] []]), (.str [100, 115], .agg [.bool false, .bool true, .func 562 [] [.ptr 46 0]]), (.str [97, 115], .agg [.bool false, .bool true, .func 562 [] [.ptr 47 0]]), (.str [100, 101], .agg [.bool false, .bool true, .func 565 [] [.ptr 48 0]]), (.str [97, 109], .agg [.bool false, .bool true, .func 565 [] [.ptr 49 0]]), (.str [105, 103], .agg [.bool false, .bool true, .func 389 [] []]), (.str [114, 109], .agg [.bool false, .bool false, .func 390 [] []]), (.str [114, 110], .agg [.bool false, .bool false, .func 570 [] [.ptr 50 0]]), (.str [97, 108, 115], .agg [.bool false, .bool false, .func 570 [] [.ptr 51 0]]), (.str [99, 104, 111, 112], .agg [.bool false, .bool false, .func 396 [] []]), (.str [115, 117, 98, 115, 116, 114, 105, 110, 103], .agg [.bool false, .bool false, .func 397 [] []]), (.str [108, 101, 110, 103, 116, 104], .agg [.bool false, .bool false, .func 398 [] []])],
  [(.str [105, 102], .agg [.bool false, .bool true, .func 399 [] []]), (.str [105, 101], .agg [.bool false, .bool true, .func 400 [] []]), (.str [101, 108], .agg [.bool false, .bool true, .func 401 [] []]), (.str [119, 104, 105, 108, 101], .agg [.bool false, .bool true, .func 402 [] []]), (.str [115, 111], .agg [.bool false, .bool false, .func 577 [] [.ptr 52 0]]), (.str [110, 120], .agg [.bool false, .bool false, .func 577 [] [.ptr 53 0]]), (.str [114, 101, 116, 117, 114, 110], .agg [.bool false, .bool false, .func 408 [] []]), (.str [115, 104, 105, 102, 116], .agg [.bool false, .bool false, .func 410 [] []]), (.str [101, 120], .agg [.bool false, .bool false, .func 411 [] []]), (.str [97, 98], .agg [.bool false, .bool false, .func 412 [] []]), (.str [116, 109], .agg [.bool false, .bool false, .func 413 [] []]), (.str [110, 111, 112], .agg [.bool false, .bool false, .func 414 [] []]), (.str [99, 99], .agg [.bool false, .bool false, .func 415 [] []]), (.str [99, 50], .agg [.bool false, .bool false, .func 416 [] []]), (.str [105, 116], .agg [.bool false, .bool false, .func 417 [] []]), (.str [101, 109], .agg [.bool false, .bool false, .func 418 [] []]), (.str [111, 117, 116, 112, 117, 116], .agg [.bool false, .bool false, .func 419 [] []])]]
noncomputable def tcells : List LB := [.cells ⟨[.bool false], 4, false, true⟩,
  .cells ⟨[.bool true], 4, false, true⟩,
  .cells ⟨[.bool false], 4, false, true⟩,
  .cells ⟨[.bool true], 4, false, true⟩,
  .cells ⟨[.bool true], 4, false, true⟩,
  .cells ⟨[.func 342 [] []], 407, false, true⟩,
  .cells ⟨[.bool false], 4, false, true⟩,
  .cells ⟨[.func 343 [] []], 407, false, true⟩,
  .cells ⟨[.bool false], 4, false, true⟩,
  .cells ⟨[.func 344 [] []], 407, false, true⟩,
  .cells ⟨[.bool false], 4, false, true⟩,
  .cells ⟨[.func 345 [] []], 407, false, true⟩,
  .cells ⟨[.func 347 [] []], 407, false, true⟩,
  .cells ⟨[.func 348 [] []], 407, false, true⟩,
  .cells ⟨[.func 349 [] []], 407, false, true⟩,
  .cells ⟨[.func 352 [] []], 411, false, true⟩,
  .cells ⟨[.func 353 [] []], 411, false, true⟩,
  .cells ⟨[.func 354 [] []], 411, false, true⟩,
  .cells ⟨[.func 356 [] []], 411, false, true⟩,
  .cells ⟨[.int 4 109], 5, false, true⟩,
  .cells ⟨[.int 3 4680], 3, false, true⟩,
  .cells ⟨[.int 3 0], 3, false, true⟩,
  .cells ⟨[.int 3 1000000], 3, false, true⟩,
  .cells ⟨[.func 357 [] []], 411, false, true⟩,
  .cells ⟨[.int 4 109], 5, false, true⟩,
  .cells ⟨[.int 3 4680], 3, false, true⟩,
  .cells ⟨[.int 3 0], 3, false, true⟩,
  .cells ⟨[.int 3 1000000], 3, false, true⟩,
  .cells ⟨[.func 358 [] []], 411, false, true⟩,
  .cells ⟨[.int 4 109], 5, false, true⟩,
  .cells ⟨[.int 3 0], 3, false, true⟩,
  .cells ⟨[.int 3 0], 3, false, true⟩,
  .cells ⟨[.int 3 1000000], 3, false, true⟩,
  .cells ⟨[.func 359 [] []], 411, false, true⟩,
  .cells ⟨[.int 4 112], 5, false, true⟩,
  .cells ⟨[.int 3 120], 3, false, true⟩,
  .cells ⟨[.int 3 0], 3, false, true⟩,
  .cells ⟨[.int 3 100000], 3, false, true⟩,
  .cells ⟨[.func 360 [] []], 411, false, true⟩,
  .cells ⟨[.int 4 117], 5, false, true⟩,
  .cells ⟨[.int 3 1], 3, false, true⟩,
  .cells ⟨[.int 3 1], 3, false, true⟩,
  .cells ⟨[.int 3 100], 3, false, true⟩,
  .cells ⟨[.func 368 [] []], 415, false, true⟩,
  .cells ⟨[.func 369 [] []], 415, false, true⟩,
  .cells ⟨[.bool false], 4, false, true⟩,
  .cells ⟨[.bool true], 4, false, true⟩,
  .cells ⟨[.bool false], 4, false, true⟩,
  .cells ⟨[.bool true], 4, false, true⟩,
  .cells ⟨[.func 392 [] []], 418, false, true⟩,
  .cells ⟨[.func 394 [] []], 418, false, true⟩,
  .cells ⟨[.func 404 [] []], 418, false, true⟩,
  .cells ⟨[.func 406 [] []], 418, false, true⟩]
noncomputable def txs : List Nat := [12, 14, 15, 16, 17, 19, 20, 21, 22, 23, 24, 25, 26, 27, 28, 29, 30, 31, 32, 37, 33, 36, 34, 35, 42, 38, 41, 39, 40, 47, 43, 46, 44, 45, 52, 48, 51, 49, 50, 57, 53, 56, 54, 55, 58, 59, 62, 63, 64, 65, 66, 67, 69, 70]
noncomputable def specT : Go.Proofs.YteahdpjeoeeemaaGreatDoor.Ax.Spec := ⟨122, 12, none, [], [], .map parts.flatten :: tcells, .map 0, txs, 161⟩
theorem specT_pre : Go.Proofs.YteahdpjeoeeemaaGreatDoor.Ax.Spec.pre ⟨122, 12, none, [], [], .map parts.flatten :: tcells, .map 0, txs, 161⟩ = true := by decide +kernel
theorem specT_rows : rowsK parts.flatten = true := by decide +kernel
theorem specT_tab : tabPre parts tcells txs 12 71 [13, 18, 60, 61, 68] 72 161 = true := by decide +kernel
noncomputable def envT : Env := envA Tryz.prog (fun _ => false) ⟨fun _ => none⟩ 1000 20
theorem specT_run : onXR ((cCode Tryz.prog 30 (.seq A0 (.seq A1 A2))).run envT 1000 rg0 (hcOf 12 .dead [])) (fun e r h => @AEx.casesOn (fun _ => Bool) e (tabChk (nthB txs 161) parts tcells 12 71 [13, 18, 60, 61, 68] 72 r h) (fun _ => false) false) false = true := by decide +kernel
theorem specT_ok {σ : Nat → ByteArray} : ∃ hc', SpecOk Tryz.prog σ specT hc' :=
  table_spec hmP tabCode (fun ρ => env_ok hmP hszP idle_none sums_none 20 ρ) (by kernel_rfl) (enter_of (by decide +kernel)) specT_pre specT_rows specT_tab specT_run
noncomputable def hdA (l : List Oper) : Oper := (l.head?).getD default
noncomputable def ytOf (o : Oper) : Nat := match o.op with | .binOp _ _ _ _ y => y | _ => 0
noncomputable def tsOf (o : Oper) : Array TypeId := match o.op with | .call c => c.argTypes | _ => #[]
noncomputable def cdA : Code → Code | .cond _ a _ => a | c => c
noncomputable def rb189 : Code := (Tryz.f189.body).getD .skip
noncomputable def ro1_189 : Oper := hdA (opsOf (sqA rb189)).toList
noncomputable def ro2_189 : Oper := hdA ((opsOf (sqA rb189)).toList.drop 1)
noncomputable def ro3_189 : Oper := hdA (opsOf (sqA (sqB rb189))).toList
noncomputable def ro4_189 : Oper := hdA ((opsOf (sqA (sqB rb189))).toList.drop 1)
theorem rec189 : Recovers Tryz.prog 189 := ⟨⟨Tryz.f189, 0, 1, ro1_189, ro2_189, ro3_189, ro4_189, 5, 2, 6, 7, 20, ytOf ro4_189, tsOf ro1_189, cdA (sqB (sqB rb189)), by kernel_rfl, by kernel_rfl, by kernel_rfl, by kernel_rfl,
  by kernel_rfl, by kernel_rfl, by kernel_rfl, by kernel_rfl, by kernel_rfl, by kernel_rfl, by kernel_rfl, by kernel_rfl, by kernel_rfl, by kernel_rfl, by kernel_rfl, by kernel_rfl, by decide +kernel, by decide +kernel, by decide +kernel, by decide +kernel, by kernel_rfl⟩⟩
noncomputable def rb278 : Code := (Tryz.f278.body).getD .skip
noncomputable def ro1_278 : Oper := hdA (opsOf (sqA rb278)).toList
noncomputable def ro2_278 : Oper := hdA ((opsOf (sqA rb278)).toList.drop 1)
noncomputable def ro3_278 : Oper := hdA (opsOf (sqA (sqB rb278))).toList
noncomputable def ro4_278 : Oper := hdA ((opsOf (sqA (sqB rb278))).toList.drop 1)
theorem rec278 : Recovers Tryz.prog 278 := ⟨⟨Tryz.f278, 0, 1, ro1_278, ro2_278, ro3_278, ro4_278, 5, 2, 6, 7, 20, ytOf ro4_278, tsOf ro1_278, cdA (sqB (sqB rb278)), by kernel_rfl, by kernel_rfl, by kernel_rfl, by kernel_rfl,
  by kernel_rfl, by kernel_rfl, by kernel_rfl, by kernel_rfl, by kernel_rfl, by kernel_rfl, by kernel_rfl, by kernel_rfl, by kernel_rfl, by kernel_rfl, by kernel_rfl, by kernel_rfl, by decide +kernel, by decide +kernel, by decide +kernel, by decide +kernel, by kernel_rfl⟩⟩
noncomputable def DD : Nat → Bool := fun f => Nat.beq f 189 || Nat.beq f 278
theorem DD_ok : IdleOk Tryz.prog DD := recovers_idle fun f h => by
  unfold DD at h
  simp only [Bool.or_eq_true] at h
  rcases h with h | h
  · rw [nbeq h]; exact rec189
  · rw [nbeq h]; exact rec278
end Go.Proofs.YteahdpjeoeeemaaGreatDoor.TT
