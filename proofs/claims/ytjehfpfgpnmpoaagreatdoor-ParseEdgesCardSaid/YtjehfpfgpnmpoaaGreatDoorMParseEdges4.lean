/-
  CALLS OF THE RUN OF 'ParseEdges', each run by the kernel from the objects that it leans on.
-/
import Derived.Test.YtjehfpfgpnmpoaaGreatDoorTbE
import Derived.Test.YtjehfpfgpnmpoaaGreatDoorMParseEdgesT1
set_option linter.all false
set_option maxRecDepth 100000
namespace Go.Proofs.YtjehfpfgpnmpoaaGreatDoor.runParseEdges
open Go Go.Ev
theorem r4 : xmemo tb1 100000000 0 m4 = true := by kernel_rfl
theorem k4 : MemOK Tryz.prog base 8 m4 := memo_ok tb1OK r4
theorem r10 : xmemo tb1 100000000 0 m10 = true := by kernel_rfl
theorem k10 : MemOK Tryz.prog base 8 m10 := memo_ok tb1OK r10
theorem r366 : xmemo tb1 100000000 239 m366 = true := by kernel_rfl
theorem k366 : MemOK Tryz.prog base 15 m366 := memo_ok tb1OK r366
theorem r368 : xmemo tb1 100000000 250 m368 = true := by kernel_rfl
theorem k368 : MemOK Tryz.prog base 39 m368 := memo_ok tb1OK r368
theorem r372 : xmemo tb1 100000000 362 m372 = true := by kernel_rfl
theorem k372 : MemOK Tryz.prog base 39 m372 := memo_ok tb1OK r372
theorem r376 : xmemo tb1 100000000 482 m376 = true := by kernel_rfl
theorem k376 : MemOK Tryz.prog base 39 m376 := memo_ok tb1OK r376
theorem r380 : xmemo tb1 100000000 602 m380 = true := by kernel_rfl
theorem k380 : MemOK Tryz.prog base 39 m380 := memo_ok tb1OK r380
theorem r384 : xmemo tb1 100000000 722 m384 = true := by kernel_rfl
theorem k384 : MemOK Tryz.prog base 39 m384 := memo_ok tb1OK r384
theorem r388 : xmemo tb1 100000000 842 m388 = true := by kernel_rfl
theorem k388 : MemOK Tryz.prog base 39 m388 := memo_ok tb1OK r388
theorem r392 : xmemo tb1 100000000 962 m392 = true := by kernel_rfl
theorem k392 : MemOK Tryz.prog base 39 m392 := memo_ok tb1OK r392
theorem r396 : xmemo tb1 100000000 1082 m396 = true := by kernel_rfl
theorem k396 : MemOK Tryz.prog base 39 m396 := memo_ok tb1OK r396
theorem r400 : xmemo tb1 100000000 1202 m400 = true := by kernel_rfl
theorem k400 : MemOK Tryz.prog base 39 m400 := memo_ok tb1OK r400
theorem r404 : xmemo tb1 100000000 1322 m404 = true := by kernel_rfl
theorem k404 : MemOK Tryz.prog base 39 m404 := memo_ok tb1OK r404
theorem r408 : xmemo tb1 100000000 1442 m408 = true := by kernel_rfl
theorem k408 : MemOK Tryz.prog base 39 m408 := memo_ok tb1OK r408
theorem r412 : xmemo tb1 100000000 1562 m412 = true := by kernel_rfl
theorem k412 : MemOK Tryz.prog base 39 m412 := memo_ok tb1OK r412
theorem r416 : xmemo tb1 100000000 1682 m416 = true := by kernel_rfl
theorem k416 : MemOK Tryz.prog base 39 m416 := memo_ok tb1OK r416
theorem r420 : xmemo tb1 100000000 1802 m420 = true := by kernel_rfl
theorem k420 : MemOK Tryz.prog base 39 m420 := memo_ok tb1OK r420
theorem r424 : xmemo tb1 100000000 1922 m424 = true := by kernel_rfl
theorem k424 : MemOK Tryz.prog base 39 m424 := memo_ok tb1OK r424
theorem r428 : xmemo tb1 100000000 2042 m428 = true := by kernel_rfl
theorem k428 : MemOK Tryz.prog base 39 m428 := memo_ok tb1OK r428
theorem r432 : xmemo tb1 100000000 2162 m432 = true := by kernel_rfl
theorem k432 : MemOK Tryz.prog base 39 m432 := memo_ok tb1OK r432
theorem r436 : xmemo tb1 100000000 2282 m436 = true := by kernel_rfl
theorem k436 : MemOK Tryz.prog base 39 m436 := memo_ok tb1OK r436
theorem r440 : xmemo tb1 100000000 2402 m440 = true := by kernel_rfl
theorem k440 : MemOK Tryz.prog base 39 m440 := memo_ok tb1OK r440
theorem r444 : xmemo tb1 100000000 2522 m444 = true := by kernel_rfl
theorem k444 : MemOK Tryz.prog base 39 m444 := memo_ok tb1OK r444
theorem r448 : xmemo tb1 100000000 2642 m448 = true := by kernel_rfl
theorem k448 : MemOK Tryz.prog base 39 m448 := memo_ok tb1OK r448
theorem r452 : xmemo tb1 100000000 2762 m452 = true := by kernel_rfl
theorem k452 : MemOK Tryz.prog base 39 m452 := memo_ok tb1OK r452
theorem r456 : xmemo tb1 100000000 2882 m456 = true := by kernel_rfl
theorem k456 : MemOK Tryz.prog base 39 m456 := memo_ok tb1OK r456
theorem r460 : xmemo tb1 100000000 3002 m460 = true := by kernel_rfl
theorem k460 : MemOK Tryz.prog base 39 m460 := memo_ok tb1OK r460
theorem r464 : xmemo tb1 100000000 3122 m464 = true := by kernel_rfl
theorem k464 : MemOK Tryz.prog base 39 m464 := memo_ok tb1OK r464
theorem r468 : xmemo tb1 100000000 3242 m468 = true := by kernel_rfl
theorem k468 : MemOK Tryz.prog base 39 m468 := memo_ok tb1OK r468
theorem r472 : xmemo tb1 100000000 3362 m472 = true := by kernel_rfl
theorem k472 : MemOK Tryz.prog base 39 m472 := memo_ok tb1OK r472
theorem r476 : xmemo tb1 100000000 3482 m476 = true := by kernel_rfl
theorem k476 : MemOK Tryz.prog base 39 m476 := memo_ok tb1OK r476
theorem r480 : xmemo tb1 100000000 3602 m480 = true := by kernel_rfl
theorem k480 : MemOK Tryz.prog base 39 m480 := memo_ok tb1OK r480
theorem r484 : xmemo tb1 100000000 3722 m484 = true := by kernel_rfl
theorem k484 : MemOK Tryz.prog base 39 m484 := memo_ok tb1OK r484
theorem r488 : xmemo tb1 100000000 3842 m488 = true := by kernel_rfl
theorem k488 : MemOK Tryz.prog base 39 m488 := memo_ok tb1OK r488
theorem r492 : xmemo tb1 100000000 3962 m492 = true := by kernel_rfl
theorem k492 : MemOK Tryz.prog base 39 m492 := memo_ok tb1OK r492
theorem r496 : xmemo tb1 100000000 4082 m496 = true := by kernel_rfl
theorem k496 : MemOK Tryz.prog base 39 m496 := memo_ok tb1OK r496
theorem r500 : xmemo tb1 100000000 4202 m500 = true := by kernel_rfl
theorem k500 : MemOK Tryz.prog base 39 m500 := memo_ok tb1OK r500
theorem r504 : xmemo tb1 100000000 4322 m504 = true := by kernel_rfl
theorem k504 : MemOK Tryz.prog base 39 m504 := memo_ok tb1OK r504
end Go.Proofs.YtjehfpfgpnmpoaaGreatDoor.runParseEdges
