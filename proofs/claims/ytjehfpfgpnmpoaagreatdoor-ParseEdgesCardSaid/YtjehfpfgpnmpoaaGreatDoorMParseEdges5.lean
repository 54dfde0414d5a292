/-
  CALLS OF THE RUN OF 'ParseEdges', each run by the kernel from the objects that it leans on.
-/
import Derived.Test.YtjehfpfgpnmpoaaGreatDoorTbE
import Derived.Test.YtjehfpfgpnmpoaaGreatDoorMParseEdgesT1
set_option linter.all false
set_option maxRecDepth 100000
namespace Go.Proofs.YtjehfpfgpnmpoaaGreatDoor.runParseEdges
open Go Go.Ev
theorem r1 : xmemo tb1 100000000 0 m1 = true := by kernel_rfl
theorem k1 : MemOK Tryz.prog base 8 m1 := memo_ok tb1OK r1
theorem r7 : xmemo tb1 100000000 0 m7 = true := by kernel_rfl
theorem k7 : MemOK Tryz.prog base 8 m7 := memo_ok tb1OK r7
theorem r13 : xmemo tb1 100000000 0 m13 = true := by kernel_rfl
theorem k13 : MemOK Tryz.prog base 8 m13 := memo_ok tb1OK r13
theorem r16 : xmemo tb1 100000000 0 m16 = true := by kernel_rfl
theorem k16 : MemOK Tryz.prog base 8 m16 := memo_ok tb1OK r16
theorem r370 : xmemo tb1 100000000 302 m370 = true := by kernel_rfl
theorem k370 : MemOK Tryz.prog base 39 m370 := memo_ok tb1OK r370
theorem r374 : xmemo tb1 100000000 422 m374 = true := by kernel_rfl
theorem k374 : MemOK Tryz.prog base 39 m374 := memo_ok tb1OK r374
theorem r378 : xmemo tb1 100000000 542 m378 = true := by kernel_rfl
theorem k378 : MemOK Tryz.prog base 39 m378 := memo_ok tb1OK r378
theorem r382 : xmemo tb1 100000000 662 m382 = true := by kernel_rfl
theorem k382 : MemOK Tryz.prog base 39 m382 := memo_ok tb1OK r382
theorem r386 : xmemo tb1 100000000 782 m386 = true := by kernel_rfl
theorem k386 : MemOK Tryz.prog base 39 m386 := memo_ok tb1OK r386
theorem r390 : xmemo tb1 100000000 902 m390 = true := by kernel_rfl
theorem k390 : MemOK Tryz.prog base 39 m390 := memo_ok tb1OK r390
theorem r394 : xmemo tb1 100000000 1022 m394 = true := by kernel_rfl
theorem k394 : MemOK Tryz.prog base 39 m394 := memo_ok tb1OK r394
theorem r398 : xmemo tb1 100000000 1142 m398 = true := by kernel_rfl
theorem k398 : MemOK Tryz.prog base 39 m398 := memo_ok tb1OK r398
theorem r402 : xmemo tb1 100000000 1262 m402 = true := by kernel_rfl
theorem k402 : MemOK Tryz.prog base 39 m402 := memo_ok tb1OK r402
theorem r406 : xmemo tb1 100000000 1382 m406 = true := by kernel_rfl
theorem k406 : MemOK Tryz.prog base 39 m406 := memo_ok tb1OK r406
theorem r410 : xmemo tb1 100000000 1502 m410 = true := by kernel_rfl
theorem k410 : MemOK Tryz.prog base 39 m410 := memo_ok tb1OK r410
theorem r414 : xmemo tb1 100000000 1622 m414 = true := by kernel_rfl
theorem k414 : MemOK Tryz.prog base 39 m414 := memo_ok tb1OK r414
theorem r418 : xmemo tb1 100000000 1742 m418 = true := by kernel_rfl
theorem k418 : MemOK Tryz.prog base 39 m418 := memo_ok tb1OK r418
theorem r422 : xmemo tb1 100000000 1862 m422 = true := by kernel_rfl
theorem k422 : MemOK Tryz.prog base 39 m422 := memo_ok tb1OK r422
theorem r426 : xmemo tb1 100000000 1982 m426 = true := by kernel_rfl
theorem k426 : MemOK Tryz.prog base 39 m426 := memo_ok tb1OK r426
theorem r430 : xmemo tb1 100000000 2102 m430 = true := by kernel_rfl
theorem k430 : MemOK Tryz.prog base 39 m430 := memo_ok tb1OK r430
theorem r434 : xmemo tb1 100000000 2222 m434 = true := by kernel_rfl
theorem k434 : MemOK Tryz.prog base 39 m434 := memo_ok tb1OK r434
theorem r438 : xmemo tb1 100000000 2342 m438 = true := by kernel_rfl
theorem k438 : MemOK Tryz.prog base 39 m438 := memo_ok tb1OK r438
theorem r442 : xmemo tb1 100000000 2462 m442 = true := by kernel_rfl
theorem k442 : MemOK Tryz.prog base 39 m442 := memo_ok tb1OK r442
theorem r446 : xmemo tb1 100000000 2582 m446 = true := by kernel_rfl
theorem k446 : MemOK Tryz.prog base 39 m446 := memo_ok tb1OK r446
theorem r450 : xmemo tb1 100000000 2702 m450 = true := by kernel_rfl
theorem k450 : MemOK Tryz.prog base 39 m450 := memo_ok tb1OK r450
theorem r454 : xmemo tb1 100000000 2822 m454 = true := by kernel_rfl
theorem k454 : MemOK Tryz.prog base 39 m454 := memo_ok tb1OK r454
theorem r458 : xmemo tb1 100000000 2942 m458 = true := by kernel_rfl
theorem k458 : MemOK Tryz.prog base 39 m458 := memo_ok tb1OK r458
theorem r462 : xmemo tb1 100000000 3062 m462 = true := by kernel_rfl
theorem k462 : MemOK Tryz.prog base 39 m462 := memo_ok tb1OK r462
theorem r466 : xmemo tb1 100000000 3182 m466 = true := by kernel_rfl
theorem k466 : MemOK Tryz.prog base 39 m466 := memo_ok tb1OK r466
theorem r470 : xmemo tb1 100000000 3302 m470 = true := by kernel_rfl
theorem k470 : MemOK Tryz.prog base 39 m470 := memo_ok tb1OK r470
theorem r474 : xmemo tb1 100000000 3422 m474 = true := by kernel_rfl
theorem k474 : MemOK Tryz.prog base 39 m474 := memo_ok tb1OK r474
theorem r478 : xmemo tb1 100000000 3542 m478 = true := by kernel_rfl
theorem k478 : MemOK Tryz.prog base 39 m478 := memo_ok tb1OK r478
theorem r482 : xmemo tb1 100000000 3662 m482 = true := by kernel_rfl
theorem k482 : MemOK Tryz.prog base 39 m482 := memo_ok tb1OK r482
theorem r486 : xmemo tb1 100000000 3782 m486 = true := by kernel_rfl
theorem k486 : MemOK Tryz.prog base 39 m486 := memo_ok tb1OK r486
theorem r490 : xmemo tb1 100000000 3902 m490 = true := by kernel_rfl
theorem k490 : MemOK Tryz.prog base 39 m490 := memo_ok tb1OK r490
theorem r494 : xmemo tb1 100000000 4022 m494 = true := by kernel_rfl
theorem k494 : MemOK Tryz.prog base 39 m494 := memo_ok tb1OK r494
theorem r498 : xmemo tb1 100000000 4142 m498 = true := by kernel_rfl
theorem k498 : MemOK Tryz.prog base 39 m498 := memo_ok tb1OK r498
theorem r502 : xmemo tb1 100000000 4262 m502 = true := by kernel_rfl
theorem k502 : MemOK Tryz.prog base 39 m502 := memo_ok tb1OK r502
theorem r506 : xmemo tb1 100000000 4382 m506 = true := by kernel_rfl
theorem k506 : MemOK Tryz.prog base 39 m506 := memo_ok tb1OK r506
end Go.Proofs.YtjehfpfgpnmpoaaGreatDoor.runParseEdges
