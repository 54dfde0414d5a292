/-
  CALLS OF THE RUN OF 'ParseEdges', each run by the kernel from the objects that it leans on.
-/
import Derived.Test.YtjehfpfgpnmpoaaGreatDoorTbE
import Derived.Test.YtjehfpfgpnmpoaaGreatDoorMParseEdgesD
set_option linter.all false
set_option maxRecDepth 100000
namespace Go.Proofs.YtjehfpfgpnmpoaaGreatDoor.runParseEdges
open Go Go.Ev
theorem r3 : xmemo tb 100000000 1 m3 = true := by kernel_rfl
theorem k3 : MemOK Tryz.prog base 15 m3 := memo_ok tbOK r3
theorem r12 : xmemo tb 100000000 1 m12 = true := by kernel_rfl
theorem k12 : MemOK Tryz.prog base 15 m12 := memo_ok tbOK r12
theorem r17 : xmemo tb 100000000 246 m17 = true := by kernel_rfl
theorem k17 : MemOK Tryz.prog base 56 m17 := memo_ok tbOK r17
theorem r20 : xmemo tb 100000000 256 m20 = true := by kernel_rfl
theorem k20 : MemOK Tryz.prog base 56 m20 := memo_ok tbOK r20
theorem r25 : xmemo tb 100000000 271 m25 = true := by kernel_rfl
theorem k25 : MemOK Tryz.prog base 56 m25 := memo_ok tbOK r25
theorem r30 : xmemo tb 100000000 286 m30 = true := by kernel_rfl
theorem k30 : MemOK Tryz.prog base 56 m30 := memo_ok tbOK r30
theorem r35 : xmemo tb 100000000 301 m35 = true := by kernel_rfl
theorem k35 : MemOK Tryz.prog base 56 m35 := memo_ok tbOK r35
theorem r40 : xmemo tb 100000000 316 m40 = true := by kernel_rfl
theorem k40 : MemOK Tryz.prog base 56 m40 := memo_ok tbOK r40
theorem r45 : xmemo tb 100000000 331 m45 = true := by kernel_rfl
theorem k45 : MemOK Tryz.prog base 56 m45 := memo_ok tbOK r45
theorem r50 : xmemo tb 100000000 346 m50 = true := by kernel_rfl
theorem k50 : MemOK Tryz.prog base 56 m50 := memo_ok tbOK r50
theorem r55 : xmemo tb 100000000 361 m55 = true := by kernel_rfl
theorem k55 : MemOK Tryz.prog base 56 m55 := memo_ok tbOK r55
theorem r60 : xmemo tb 100000000 376 m60 = true := by kernel_rfl
theorem k60 : MemOK Tryz.prog base 56 m60 := memo_ok tbOK r60
theorem r65 : xmemo tb 100000000 391 m65 = true := by kernel_rfl
theorem k65 : MemOK Tryz.prog base 56 m65 := memo_ok tbOK r65
theorem r70 : xmemo tb 100000000 406 m70 = true := by kernel_rfl
theorem k70 : MemOK Tryz.prog base 56 m70 := memo_ok tbOK r70
theorem r75 : xmemo tb 100000000 421 m75 = true := by kernel_rfl
theorem k75 : MemOK Tryz.prog base 56 m75 := memo_ok tbOK r75
theorem r80 : xmemo tb 100000000 436 m80 = true := by kernel_rfl
theorem k80 : MemOK Tryz.prog base 56 m80 := memo_ok tbOK r80
theorem r85 : xmemo tb 100000000 451 m85 = true := by kernel_rfl
theorem k85 : MemOK Tryz.prog base 56 m85 := memo_ok tbOK r85
theorem r88 : xmemo tb 100000000 460 m88 = true := by kernel_rfl
theorem k88 : MemOK Tryz.prog base 56 m88 := memo_ok tbOK r88
theorem r90 : xmemo tb 100000000 466 m90 = true := by kernel_rfl
theorem k90 : MemOK Tryz.prog base 56 m90 := memo_ok tbOK r90
theorem r95 : xmemo tb 100000000 481 m95 = true := by kernel_rfl
theorem k95 : MemOK Tryz.prog base 56 m95 := memo_ok tbOK r95
theorem r100 : xmemo tb 100000000 496 m100 = true := by kernel_rfl
theorem k100 : MemOK Tryz.prog base 56 m100 := memo_ok tbOK r100
theorem r105 : xmemo tb 100000000 511 m105 = true := by kernel_rfl
theorem k105 : MemOK Tryz.prog base 56 m105 := memo_ok tbOK r105
theorem r108 : xmemo tb 100000000 520 m108 = true := by kernel_rfl
theorem k108 : MemOK Tryz.prog base 56 m108 := memo_ok tbOK r108
theorem r110 : xmemo tb 100000000 526 m110 = true := by kernel_rfl
theorem k110 : MemOK Tryz.prog base 56 m110 := memo_ok tbOK r110
theorem r115 : xmemo tb 100000000 541 m115 = true := by kernel_rfl
theorem k115 : MemOK Tryz.prog base 56 m115 := memo_ok tbOK r115
theorem r120 : xmemo tb 100000000 556 m120 = true := by kernel_rfl
theorem k120 : MemOK Tryz.prog base 56 m120 := memo_ok tbOK r120
theorem r125 : xmemo tb 100000000 571 m125 = true := by kernel_rfl
theorem k125 : MemOK Tryz.prog base 56 m125 := memo_ok tbOK r125
theorem r128 : xmemo tb 100000000 580 m128 = true := by kernel_rfl
theorem k128 : MemOK Tryz.prog base 56 m128 := memo_ok tbOK r128
theorem r130 : xmemo tb 100000000 586 m130 = true := by kernel_rfl
theorem k130 : MemOK Tryz.prog base 56 m130 := memo_ok tbOK r130
theorem r135 : xmemo tb 100000000 601 m135 = true := by kernel_rfl
theorem k135 : MemOK Tryz.prog base 56 m135 := memo_ok tbOK r135
theorem r140 : xmemo tb 100000000 616 m140 = true := by kernel_rfl
theorem k140 : MemOK Tryz.prog base 56 m140 := memo_ok tbOK r140
theorem r145 : xmemo tb 100000000 631 m145 = true := by kernel_rfl
theorem k145 : MemOK Tryz.prog base 56 m145 := memo_ok tbOK r145
theorem r148 : xmemo tb 100000000 640 m148 = true := by kernel_rfl
theorem k148 : MemOK Tryz.prog base 56 m148 := memo_ok tbOK r148
theorem r150 : xmemo tb 100000000 646 m150 = true := by kernel_rfl
theorem k150 : MemOK Tryz.prog base 56 m150 := memo_ok tbOK r150
theorem r155 : xmemo tb 100000000 661 m155 = true := by kernel_rfl
theorem k155 : MemOK Tryz.prog base 56 m155 := memo_ok tbOK r155
theorem r160 : xmemo tb 100000000 676 m160 = true := by kernel_rfl
theorem k160 : MemOK Tryz.prog base 56 m160 := memo_ok tbOK r160
theorem r165 : xmemo tb 100000000 691 m165 = true := by kernel_rfl
theorem k165 : MemOK Tryz.prog base 56 m165 := memo_ok tbOK r165
theorem r168 : xmemo tb 100000000 700 m168 = true := by kernel_rfl
theorem k168 : MemOK Tryz.prog base 56 m168 := memo_ok tbOK r168
theorem r170 : xmemo tb 100000000 706 m170 = true := by kernel_rfl
theorem k170 : MemOK Tryz.prog base 56 m170 := memo_ok tbOK r170
theorem r175 : xmemo tb 100000000 721 m175 = true := by kernel_rfl
theorem k175 : MemOK Tryz.prog base 56 m175 := memo_ok tbOK r175
theorem r180 : xmemo tb 100000000 736 m180 = true := by kernel_rfl
theorem k180 : MemOK Tryz.prog base 56 m180 := memo_ok tbOK r180
theorem r185 : xmemo tb 100000000 751 m185 = true := by kernel_rfl
theorem k185 : MemOK Tryz.prog base 56 m185 := memo_ok tbOK r185
theorem r188 : xmemo tb 100000000 760 m188 = true := by kernel_rfl
theorem k188 : MemOK Tryz.prog base 56 m188 := memo_ok tbOK r188
theorem r190 : xmemo tb 100000000 766 m190 = true := by kernel_rfl
theorem k190 : MemOK Tryz.prog base 56 m190 := memo_ok tbOK r190
theorem r195 : xmemo tb 100000000 781 m195 = true := by kernel_rfl
theorem k195 : MemOK Tryz.prog base 56 m195 := memo_ok tbOK r195
theorem r200 : xmemo tb 100000000 796 m200 = true := by kernel_rfl
theorem k200 : MemOK Tryz.prog base 56 m200 := memo_ok tbOK r200
theorem r205 : xmemo tb 100000000 811 m205 = true := by kernel_rfl
theorem k205 : MemOK Tryz.prog base 56 m205 := memo_ok tbOK r205
theorem r208 : xmemo tb 100000000 820 m208 = true := by kernel_rfl
theorem k208 : MemOK Tryz.prog base 56 m208 := memo_ok tbOK r208
theorem r210 : xmemo tb 100000000 826 m210 = true := by kernel_rfl
theorem k210 : MemOK Tryz.prog base 56 m210 := memo_ok tbOK r210
theorem r215 : xmemo tb 100000000 841 m215 = true := by kernel_rfl
theorem k215 : MemOK Tryz.prog base 56 m215 := memo_ok tbOK r215
theorem r220 : xmemo tb 100000000 856 m220 = true := by kernel_rfl
theorem k220 : MemOK Tryz.prog base 56 m220 := memo_ok tbOK r220
theorem r225 : xmemo tb 100000000 871 m225 = true := by kernel_rfl
theorem k225 : MemOK Tryz.prog base 56 m225 := memo_ok tbOK r225
theorem r228 : xmemo tb 100000000 880 m228 = true := by kernel_rfl
theorem k228 : MemOK Tryz.prog base 56 m228 := memo_ok tbOK r228
theorem r230 : xmemo tb 100000000 886 m230 = true := by kernel_rfl
theorem k230 : MemOK Tryz.prog base 56 m230 := memo_ok tbOK r230
theorem r235 : xmemo tb 100000000 901 m235 = true := by kernel_rfl
theorem k235 : MemOK Tryz.prog base 56 m235 := memo_ok tbOK r235
theorem r240 : xmemo tb 100000000 916 m240 = true := by kernel_rfl
theorem k240 : MemOK Tryz.prog base 56 m240 := memo_ok tbOK r240
theorem r245 : xmemo tb 100000000 931 m245 = true := by kernel_rfl
theorem k245 : MemOK Tryz.prog base 56 m245 := memo_ok tbOK r245
theorem r248 : xmemo tb 100000000 940 m248 = true := by kernel_rfl
theorem k248 : MemOK Tryz.prog base 56 m248 := memo_ok tbOK r248
theorem r250 : xmemo tb 100000000 946 m250 = true := by kernel_rfl
theorem k250 : MemOK Tryz.prog base 56 m250 := memo_ok tbOK r250
theorem r255 : xmemo tb 100000000 961 m255 = true := by kernel_rfl
theorem k255 : MemOK Tryz.prog base 56 m255 := memo_ok tbOK r255
theorem r260 : xmemo tb 100000000 976 m260 = true := by kernel_rfl
theorem k260 : MemOK Tryz.prog base 56 m260 := memo_ok tbOK r260
theorem r265 : xmemo tb 100000000 991 m265 = true := by kernel_rfl
theorem k265 : MemOK Tryz.prog base 56 m265 := memo_ok tbOK r265
theorem r268 : xmemo tb 100000000 1000 m268 = true := by kernel_rfl
theorem k268 : MemOK Tryz.prog base 56 m268 := memo_ok tbOK r268
theorem r270 : xmemo tb 100000000 1006 m270 = true := by kernel_rfl
theorem k270 : MemOK Tryz.prog base 56 m270 := memo_ok tbOK r270
theorem r275 : xmemo tb 100000000 1021 m275 = true := by kernel_rfl
theorem k275 : MemOK Tryz.prog base 56 m275 := memo_ok tbOK r275
theorem r280 : xmemo tb 100000000 1036 m280 = true := by kernel_rfl
theorem k280 : MemOK Tryz.prog base 56 m280 := memo_ok tbOK r280
theorem r285 : xmemo tb 100000000 1051 m285 = true := by kernel_rfl
theorem k285 : MemOK Tryz.prog base 56 m285 := memo_ok tbOK r285
theorem r288 : xmemo tb 100000000 1060 m288 = true := by kernel_rfl
theorem k288 : MemOK Tryz.prog base 56 m288 := memo_ok tbOK r288
theorem r290 : xmemo tb 100000000 1066 m290 = true := by kernel_rfl
theorem k290 : MemOK Tryz.prog base 56 m290 := memo_ok tbOK r290
theorem r295 : xmemo tb 100000000 1081 m295 = true := by kernel_rfl
theorem k295 : MemOK Tryz.prog base 56 m295 := memo_ok tbOK r295
theorem r300 : xmemo tb 100000000 1096 m300 = true := by kernel_rfl
theorem k300 : MemOK Tryz.prog base 56 m300 := memo_ok tbOK r300
theorem r305 : xmemo tb 100000000 1111 m305 = true := by kernel_rfl
theorem k305 : MemOK Tryz.prog base 56 m305 := memo_ok tbOK r305
theorem r308 : xmemo tb 100000000 1120 m308 = true := by kernel_rfl
theorem k308 : MemOK Tryz.prog base 56 m308 := memo_ok tbOK r308
theorem r310 : xmemo tb 100000000 1126 m310 = true := by kernel_rfl
theorem k310 : MemOK Tryz.prog base 56 m310 := memo_ok tbOK r310
theorem r315 : xmemo tb 100000000 1141 m315 = true := by kernel_rfl
theorem k315 : MemOK Tryz.prog base 56 m315 := memo_ok tbOK r315
theorem r320 : xmemo tb 100000000 1156 m320 = true := by kernel_rfl
theorem k320 : MemOK Tryz.prog base 56 m320 := memo_ok tbOK r320
theorem r325 : xmemo tb 100000000 1171 m325 = true := by kernel_rfl
theorem k325 : MemOK Tryz.prog base 56 m325 := memo_ok tbOK r325
theorem r328 : xmemo tb 100000000 1180 m328 = true := by kernel_rfl
theorem k328 : MemOK Tryz.prog base 56 m328 := memo_ok tbOK r328
theorem r330 : xmemo tb 100000000 1186 m330 = true := by kernel_rfl
theorem k330 : MemOK Tryz.prog base 56 m330 := memo_ok tbOK r330
theorem r335 : xmemo tb 100000000 1201 m335 = true := by kernel_rfl
theorem k335 : MemOK Tryz.prog base 56 m335 := memo_ok tbOK r335
theorem r340 : xmemo tb 100000000 1216 m340 = true := by kernel_rfl
theorem k340 : MemOK Tryz.prog base 56 m340 := memo_ok tbOK r340
theorem r345 : xmemo tb 100000000 1231 m345 = true := by kernel_rfl
theorem k345 : MemOK Tryz.prog base 56 m345 := memo_ok tbOK r345
theorem r348 : xmemo tb 100000000 1240 m348 = true := by kernel_rfl
theorem k348 : MemOK Tryz.prog base 56 m348 := memo_ok tbOK r348
theorem r350 : xmemo tb 100000000 1246 m350 = true := by kernel_rfl
theorem k350 : MemOK Tryz.prog base 56 m350 := memo_ok tbOK r350
theorem r355 : xmemo tb 100000000 1261 m355 = true := by kernel_rfl
theorem k355 : MemOK Tryz.prog base 56 m355 := memo_ok tbOK r355
theorem r360 : xmemo tb 100000000 1276 m360 = true := by kernel_rfl
theorem k360 : MemOK Tryz.prog base 56 m360 := memo_ok tbOK r360
theorem r365 : xmemo tb 100000000 1291 m365 = true := by kernel_rfl
theorem k365 : MemOK Tryz.prog base 56 m365 := memo_ok tbOK r365
theorem r367 : xmemo tb 100000000 257 m367 = true := by kernel_rfl
theorem k367 : MemOK Tryz.prog base 39 m367 := memo_ok tbOK r367
theorem r379 : xmemo tb 100000000 609 m379 = true := by kernel_rfl
theorem k379 : MemOK Tryz.prog base 39 m379 := memo_ok tbOK r379
theorem r387 : xmemo tb 100000000 849 m387 = true := by kernel_rfl
theorem k387 : MemOK Tryz.prog base 39 m387 := memo_ok tbOK r387
theorem r395 : xmemo tb 100000000 1089 m395 = true := by kernel_rfl
theorem k395 : MemOK Tryz.prog base 39 m395 := memo_ok tbOK r395
theorem r403 : xmemo tb 100000000 1329 m403 = true := by kernel_rfl
theorem k403 : MemOK Tryz.prog base 39 m403 := memo_ok tbOK r403
theorem r411 : xmemo tb 100000000 1569 m411 = true := by kernel_rfl
theorem k411 : MemOK Tryz.prog base 39 m411 := memo_ok tbOK r411
theorem r419 : xmemo tb 100000000 1809 m419 = true := by kernel_rfl
theorem k419 : MemOK Tryz.prog base 39 m419 := memo_ok tbOK r419
theorem r427 : xmemo tb 100000000 2049 m427 = true := by kernel_rfl
theorem k427 : MemOK Tryz.prog base 39 m427 := memo_ok tbOK r427
theorem r435 : xmemo tb 100000000 2289 m435 = true := by kernel_rfl
theorem k435 : MemOK Tryz.prog base 39 m435 := memo_ok tbOK r435
theorem r443 : xmemo tb 100000000 2529 m443 = true := by kernel_rfl
theorem k443 : MemOK Tryz.prog base 39 m443 := memo_ok tbOK r443
theorem r451 : xmemo tb 100000000 2769 m451 = true := by kernel_rfl
theorem k451 : MemOK Tryz.prog base 39 m451 := memo_ok tbOK r451
theorem r459 : xmemo tb 100000000 3009 m459 = true := by kernel_rfl
theorem k459 : MemOK Tryz.prog base 39 m459 := memo_ok tbOK r459
theorem r467 : xmemo tb 100000000 3249 m467 = true := by kernel_rfl
theorem k467 : MemOK Tryz.prog base 39 m467 := memo_ok tbOK r467
theorem r475 : xmemo tb 100000000 3489 m475 = true := by kernel_rfl
theorem k475 : MemOK Tryz.prog base 39 m475 := memo_ok tbOK r475
theorem r483 : xmemo tb 100000000 3729 m483 = true := by kernel_rfl
theorem k483 : MemOK Tryz.prog base 39 m483 := memo_ok tbOK r483
theorem r491 : xmemo tb 100000000 3969 m491 = true := by kernel_rfl
theorem k491 : MemOK Tryz.prog base 39 m491 := memo_ok tbOK r491
theorem r499 : xmemo tb 100000000 4209 m499 = true := by kernel_rfl
theorem k499 : MemOK Tryz.prog base 39 m499 := memo_ok tbOK r499
end Go.Proofs.YtjehfpfgpnmpoaaGreatDoor.runParseEdges
