/-
  CALLS OF THE RUN OF 'ParseEdges', each run by the kernel from the objects that it leans on.
-/
import Derived.Test.YtjehfpfgpnmpoaaGreatDoorTbE
import Derived.Test.YtjehfpfgpnmpoaaGreatDoorMParseEdgesD
set_option linter.all false
set_option maxRecDepth 100000
namespace Go.Proofs.YtjehfpfgpnmpoaaGreatDoor.runParseEdges
open Go Go.Ev
theorem r15 : xmemo tb 100000000 1 m15 = true := by kernel_rfl
theorem k15 : MemOK Tryz.prog base 15 m15 := memo_ok tbOK r15
theorem r18 : xmemo tb 100000000 250 m18 = true := by kernel_rfl
theorem k18 : MemOK Tryz.prog base 56 m18 := memo_ok tbOK r18
theorem r21 : xmemo tb 100000000 259 m21 = true := by kernel_rfl
theorem k21 : MemOK Tryz.prog base 56 m21 := memo_ok tbOK r21
theorem r23 : xmemo tb 100000000 265 m23 = true := by kernel_rfl
theorem k23 : MemOK Tryz.prog base 56 m23 := memo_ok tbOK r23
theorem r26 : xmemo tb 100000000 274 m26 = true := by kernel_rfl
theorem k26 : MemOK Tryz.prog base 56 m26 := memo_ok tbOK r26
theorem r31 : xmemo tb 100000000 289 m31 = true := by kernel_rfl
theorem k31 : MemOK Tryz.prog base 56 m31 := memo_ok tbOK r31
theorem r33 : xmemo tb 100000000 295 m33 = true := by kernel_rfl
theorem k33 : MemOK Tryz.prog base 56 m33 := memo_ok tbOK r33
theorem r36 : xmemo tb 100000000 304 m36 = true := by kernel_rfl
theorem k36 : MemOK Tryz.prog base 56 m36 := memo_ok tbOK r36
theorem r41 : xmemo tb 100000000 319 m41 = true := by kernel_rfl
theorem k41 : MemOK Tryz.prog base 56 m41 := memo_ok tbOK r41
theorem r46 : xmemo tb 100000000 334 m46 = true := by kernel_rfl
theorem k46 : MemOK Tryz.prog base 56 m46 := memo_ok tbOK r46
theorem r48 : xmemo tb 100000000 340 m48 = true := by kernel_rfl
theorem k48 : MemOK Tryz.prog base 56 m48 := memo_ok tbOK r48
theorem r51 : xmemo tb 100000000 349 m51 = true := by kernel_rfl
theorem k51 : MemOK Tryz.prog base 56 m51 := memo_ok tbOK r51
theorem r56 : xmemo tb 100000000 364 m56 = true := by kernel_rfl
theorem k56 : MemOK Tryz.prog base 56 m56 := memo_ok tbOK r56
theorem r61 : xmemo tb 100000000 379 m61 = true := by kernel_rfl
theorem k61 : MemOK Tryz.prog base 56 m61 := memo_ok tbOK r61
theorem r63 : xmemo tb 100000000 385 m63 = true := by kernel_rfl
theorem k63 : MemOK Tryz.prog base 56 m63 := memo_ok tbOK r63
theorem r66 : xmemo tb 100000000 394 m66 = true := by kernel_rfl
theorem k66 : MemOK Tryz.prog base 56 m66 := memo_ok tbOK r66
theorem r71 : xmemo tb 100000000 409 m71 = true := by kernel_rfl
theorem k71 : MemOK Tryz.prog base 56 m71 := memo_ok tbOK r71
theorem r76 : xmemo tb 100000000 424 m76 = true := by kernel_rfl
theorem k76 : MemOK Tryz.prog base 56 m76 := memo_ok tbOK r76
theorem r78 : xmemo tb 100000000 430 m78 = true := by kernel_rfl
theorem k78 : MemOK Tryz.prog base 56 m78 := memo_ok tbOK r78
theorem r81 : xmemo tb 100000000 439 m81 = true := by kernel_rfl
theorem k81 : MemOK Tryz.prog base 56 m81 := memo_ok tbOK r81
theorem r86 : xmemo tb 100000000 454 m86 = true := by kernel_rfl
theorem k86 : MemOK Tryz.prog base 56 m86 := memo_ok tbOK r86
theorem r91 : xmemo tb 100000000 469 m91 = true := by kernel_rfl
theorem k91 : MemOK Tryz.prog base 56 m91 := memo_ok tbOK r91
theorem r96 : xmemo tb 100000000 484 m96 = true := by kernel_rfl
theorem k96 : MemOK Tryz.prog base 56 m96 := memo_ok tbOK r96
theorem r98 : xmemo tb 100000000 490 m98 = true := by kernel_rfl
theorem k98 : MemOK Tryz.prog base 56 m98 := memo_ok tbOK r98
theorem r101 : xmemo tb 100000000 499 m101 = true := by kernel_rfl
theorem k101 : MemOK Tryz.prog base 56 m101 := memo_ok tbOK r101
theorem r106 : xmemo tb 100000000 514 m106 = true := by kernel_rfl
theorem k106 : MemOK Tryz.prog base 56 m106 := memo_ok tbOK r106
theorem r111 : xmemo tb 100000000 529 m111 = true := by kernel_rfl
theorem k111 : MemOK Tryz.prog base 56 m111 := memo_ok tbOK r111
theorem r116 : xmemo tb 100000000 544 m116 = true := by kernel_rfl
theorem k116 : MemOK Tryz.prog base 56 m116 := memo_ok tbOK r116
theorem r118 : xmemo tb 100000000 550 m118 = true := by kernel_rfl
theorem k118 : MemOK Tryz.prog base 56 m118 := memo_ok tbOK r118
theorem r121 : xmemo tb 100000000 559 m121 = true := by kernel_rfl
theorem k121 : MemOK Tryz.prog base 56 m121 := memo_ok tbOK r121
theorem r126 : xmemo tb 100000000 574 m126 = true := by kernel_rfl
theorem k126 : MemOK Tryz.prog base 56 m126 := memo_ok tbOK r126
theorem r131 : xmemo tb 100000000 589 m131 = true := by kernel_rfl
theorem k131 : MemOK Tryz.prog base 56 m131 := memo_ok tbOK r131
theorem r136 : xmemo tb 100000000 604 m136 = true := by kernel_rfl
theorem k136 : MemOK Tryz.prog base 56 m136 := memo_ok tbOK r136
theorem r138 : xmemo tb 100000000 610 m138 = true := by kernel_rfl
theorem k138 : MemOK Tryz.prog base 56 m138 := memo_ok tbOK r138
theorem r141 : xmemo tb 100000000 619 m141 = true := by kernel_rfl
theorem k141 : MemOK Tryz.prog base 56 m141 := memo_ok tbOK r141
theorem r146 : xmemo tb 100000000 634 m146 = true := by kernel_rfl
theorem k146 : MemOK Tryz.prog base 56 m146 := memo_ok tbOK r146
theorem r151 : xmemo tb 100000000 649 m151 = true := by kernel_rfl
theorem k151 : MemOK Tryz.prog base 56 m151 := memo_ok tbOK r151
theorem r156 : xmemo tb 100000000 664 m156 = true := by kernel_rfl
theorem k156 : MemOK Tryz.prog base 56 m156 := memo_ok tbOK r156
theorem r158 : xmemo tb 100000000 670 m158 = true := by kernel_rfl
theorem k158 : MemOK Tryz.prog base 56 m158 := memo_ok tbOK r158
theorem r161 : xmemo tb 100000000 679 m161 = true := by kernel_rfl
theorem k161 : MemOK Tryz.prog base 56 m161 := memo_ok tbOK r161
theorem r166 : xmemo tb 100000000 694 m166 = true := by kernel_rfl
theorem k166 : MemOK Tryz.prog base 56 m166 := memo_ok tbOK r166
theorem r171 : xmemo tb 100000000 709 m171 = true := by kernel_rfl
theorem k171 : MemOK Tryz.prog base 56 m171 := memo_ok tbOK r171
theorem r176 : xmemo tb 100000000 724 m176 = true := by kernel_rfl
theorem k176 : MemOK Tryz.prog base 56 m176 := memo_ok tbOK r176
theorem r178 : xmemo tb 100000000 730 m178 = true := by kernel_rfl
theorem k178 : MemOK Tryz.prog base 56 m178 := memo_ok tbOK r178
theorem r181 : xmemo tb 100000000 739 m181 = true := by kernel_rfl
theorem k181 : MemOK Tryz.prog base 56 m181 := memo_ok tbOK r181
theorem r186 : xmemo tb 100000000 754 m186 = true := by kernel_rfl
theorem k186 : MemOK Tryz.prog base 56 m186 := memo_ok tbOK r186
theorem r191 : xmemo tb 100000000 769 m191 = true := by kernel_rfl
theorem k191 : MemOK Tryz.prog base 56 m191 := memo_ok tbOK r191
theorem r196 : xmemo tb 100000000 784 m196 = true := by kernel_rfl
theorem k196 : MemOK Tryz.prog base 56 m196 := memo_ok tbOK r196
theorem r198 : xmemo tb 100000000 790 m198 = true := by kernel_rfl
theorem k198 : MemOK Tryz.prog base 56 m198 := memo_ok tbOK r198
theorem r201 : xmemo tb 100000000 799 m201 = true := by kernel_rfl
theorem k201 : MemOK Tryz.prog base 56 m201 := memo_ok tbOK r201
theorem r206 : xmemo tb 100000000 814 m206 = true := by kernel_rfl
theorem k206 : MemOK Tryz.prog base 56 m206 := memo_ok tbOK r206
theorem r211 : xmemo tb 100000000 829 m211 = true := by kernel_rfl
theorem k211 : MemOK Tryz.prog base 56 m211 := memo_ok tbOK r211
theorem r216 : xmemo tb 100000000 844 m216 = true := by kernel_rfl
theorem k216 : MemOK Tryz.prog base 56 m216 := memo_ok tbOK r216
theorem r218 : xmemo tb 100000000 850 m218 = true := by kernel_rfl
theorem k218 : MemOK Tryz.prog base 56 m218 := memo_ok tbOK r218
theorem r221 : xmemo tb 100000000 859 m221 = true := by kernel_rfl
theorem k221 : MemOK Tryz.prog base 56 m221 := memo_ok tbOK r221
theorem r226 : xmemo tb 100000000 874 m226 = true := by kernel_rfl
theorem k226 : MemOK Tryz.prog base 56 m226 := memo_ok tbOK r226
theorem r231 : xmemo tb 100000000 889 m231 = true := by kernel_rfl
theorem k231 : MemOK Tryz.prog base 56 m231 := memo_ok tbOK r231
theorem r236 : xmemo tb 100000000 904 m236 = true := by kernel_rfl
theorem k236 : MemOK Tryz.prog base 56 m236 := memo_ok tbOK r236
theorem r238 : xmemo tb 100000000 910 m238 = true := by kernel_rfl
theorem k238 : MemOK Tryz.prog base 56 m238 := memo_ok tbOK r238
theorem r241 : xmemo tb 100000000 919 m241 = true := by kernel_rfl
theorem k241 : MemOK Tryz.prog base 56 m241 := memo_ok tbOK r241
theorem r246 : xmemo tb 100000000 934 m246 = true := by kernel_rfl
theorem k246 : MemOK Tryz.prog base 56 m246 := memo_ok tbOK r246
theorem r251 : xmemo tb 100000000 949 m251 = true := by kernel_rfl
theorem k251 : MemOK Tryz.prog base 56 m251 := memo_ok tbOK r251
theorem r256 : xmemo tb 100000000 964 m256 = true := by kernel_rfl
theorem k256 : MemOK Tryz.prog base 56 m256 := memo_ok tbOK r256
theorem r258 : xmemo tb 100000000 970 m258 = true := by kernel_rfl
theorem k258 : MemOK Tryz.prog base 56 m258 := memo_ok tbOK r258
theorem r261 : xmemo tb 100000000 979 m261 = true := by kernel_rfl
theorem k261 : MemOK Tryz.prog base 56 m261 := memo_ok tbOK r261
theorem r266 : xmemo tb 100000000 994 m266 = true := by kernel_rfl
theorem k266 : MemOK Tryz.prog base 56 m266 := memo_ok tbOK r266
theorem r271 : xmemo tb 100000000 1009 m271 = true := by kernel_rfl
theorem k271 : MemOK Tryz.prog base 56 m271 := memo_ok tbOK r271
theorem r276 : xmemo tb 100000000 1024 m276 = true := by kernel_rfl
theorem k276 : MemOK Tryz.prog base 56 m276 := memo_ok tbOK r276
theorem r278 : xmemo tb 100000000 1030 m278 = true := by kernel_rfl
theorem k278 : MemOK Tryz.prog base 56 m278 := memo_ok tbOK r278
theorem r281 : xmemo tb 100000000 1039 m281 = true := by kernel_rfl
theorem k281 : MemOK Tryz.prog base 56 m281 := memo_ok tbOK r281
theorem r286 : xmemo tb 100000000 1054 m286 = true := by kernel_rfl
theorem k286 : MemOK Tryz.prog base 56 m286 := memo_ok tbOK r286
theorem r291 : xmemo tb 100000000 1069 m291 = true := by kernel_rfl
theorem k291 : MemOK Tryz.prog base 56 m291 := memo_ok tbOK r291
theorem r296 : xmemo tb 100000000 1084 m296 = true := by kernel_rfl
theorem k296 : MemOK Tryz.prog base 56 m296 := memo_ok tbOK r296
theorem r298 : xmemo tb 100000000 1090 m298 = true := by kernel_rfl
theorem k298 : MemOK Tryz.prog base 56 m298 := memo_ok tbOK r298
theorem r301 : xmemo tb 100000000 1099 m301 = true := by kernel_rfl
theorem k301 : MemOK Tryz.prog base 56 m301 := memo_ok tbOK r301
theorem r306 : xmemo tb 100000000 1114 m306 = true := by kernel_rfl
theorem k306 : MemOK Tryz.prog base 56 m306 := memo_ok tbOK r306
theorem r311 : xmemo tb 100000000 1129 m311 = true := by kernel_rfl
theorem k311 : MemOK Tryz.prog base 56 m311 := memo_ok tbOK r311
theorem r316 : xmemo tb 100000000 1144 m316 = true := by kernel_rfl
theorem k316 : MemOK Tryz.prog base 56 m316 := memo_ok tbOK r316
theorem r318 : xmemo tb 100000000 1150 m318 = true := by kernel_rfl
theorem k318 : MemOK Tryz.prog base 56 m318 := memo_ok tbOK r318
theorem r321 : xmemo tb 100000000 1159 m321 = true := by kernel_rfl
theorem k321 : MemOK Tryz.prog base 56 m321 := memo_ok tbOK r321
theorem r326 : xmemo tb 100000000 1174 m326 = true := by kernel_rfl
theorem k326 : MemOK Tryz.prog base 56 m326 := memo_ok tbOK r326
theorem r331 : xmemo tb 100000000 1189 m331 = true := by kernel_rfl
theorem k331 : MemOK Tryz.prog base 56 m331 := memo_ok tbOK r331
theorem r336 : xmemo tb 100000000 1204 m336 = true := by kernel_rfl
theorem k336 : MemOK Tryz.prog base 56 m336 := memo_ok tbOK r336
theorem r338 : xmemo tb 100000000 1210 m338 = true := by kernel_rfl
theorem k338 : MemOK Tryz.prog base 56 m338 := memo_ok tbOK r338
theorem r341 : xmemo tb 100000000 1219 m341 = true := by kernel_rfl
theorem k341 : MemOK Tryz.prog base 56 m341 := memo_ok tbOK r341
theorem r346 : xmemo tb 100000000 1234 m346 = true := by kernel_rfl
theorem k346 : MemOK Tryz.prog base 56 m346 := memo_ok tbOK r346
theorem r351 : xmemo tb 100000000 1249 m351 = true := by kernel_rfl
theorem k351 : MemOK Tryz.prog base 56 m351 := memo_ok tbOK r351
theorem r356 : xmemo tb 100000000 1264 m356 = true := by kernel_rfl
theorem k356 : MemOK Tryz.prog base 56 m356 := memo_ok tbOK r356
theorem r358 : xmemo tb 100000000 1270 m358 = true := by kernel_rfl
theorem k358 : MemOK Tryz.prog base 56 m358 := memo_ok tbOK r358
theorem r361 : xmemo tb 100000000 1279 m361 = true := by kernel_rfl
theorem k361 : MemOK Tryz.prog base 56 m361 := memo_ok tbOK r361
theorem r373 : xmemo tb 100000000 429 m373 = true := by kernel_rfl
theorem k373 : MemOK Tryz.prog base 39 m373 := memo_ok tbOK r373
theorem r381 : xmemo tb 100000000 669 m381 = true := by kernel_rfl
theorem k381 : MemOK Tryz.prog base 39 m381 := memo_ok tbOK r381
theorem r389 : xmemo tb 100000000 909 m389 = true := by kernel_rfl
theorem k389 : MemOK Tryz.prog base 39 m389 := memo_ok tbOK r389
theorem r397 : xmemo tb 100000000 1149 m397 = true := by kernel_rfl
theorem k397 : MemOK Tryz.prog base 39 m397 := memo_ok tbOK r397
theorem r405 : xmemo tb 100000000 1389 m405 = true := by kernel_rfl
theorem k405 : MemOK Tryz.prog base 39 m405 := memo_ok tbOK r405
theorem r413 : xmemo tb 100000000 1629 m413 = true := by kernel_rfl
theorem k413 : MemOK Tryz.prog base 39 m413 := memo_ok tbOK r413
theorem r421 : xmemo tb 100000000 1869 m421 = true := by kernel_rfl
theorem k421 : MemOK Tryz.prog base 39 m421 := memo_ok tbOK r421
theorem r429 : xmemo tb 100000000 2109 m429 = true := by kernel_rfl
theorem k429 : MemOK Tryz.prog base 39 m429 := memo_ok tbOK r429
theorem r437 : xmemo tb 100000000 2349 m437 = true := by kernel_rfl
theorem k437 : MemOK Tryz.prog base 39 m437 := memo_ok tbOK r437
theorem r445 : xmemo tb 100000000 2589 m445 = true := by kernel_rfl
theorem k445 : MemOK Tryz.prog base 39 m445 := memo_ok tbOK r445
theorem r453 : xmemo tb 100000000 2829 m453 = true := by kernel_rfl
theorem k453 : MemOK Tryz.prog base 39 m453 := memo_ok tbOK r453
theorem r461 : xmemo tb 100000000 3069 m461 = true := by kernel_rfl
theorem k461 : MemOK Tryz.prog base 39 m461 := memo_ok tbOK r461
theorem r469 : xmemo tb 100000000 3309 m469 = true := by kernel_rfl
theorem k469 : MemOK Tryz.prog base 39 m469 := memo_ok tbOK r469
theorem r477 : xmemo tb 100000000 3549 m477 = true := by kernel_rfl
theorem k477 : MemOK Tryz.prog base 39 m477 := memo_ok tbOK r477
theorem r485 : xmemo tb 100000000 3789 m485 = true := by kernel_rfl
theorem k485 : MemOK Tryz.prog base 39 m485 := memo_ok tbOK r485
theorem r493 : xmemo tb 100000000 4029 m493 = true := by kernel_rfl
theorem k493 : MemOK Tryz.prog base 39 m493 := memo_ok tbOK r493
theorem r501 : xmemo tb 100000000 4269 m501 = true := by kernel_rfl
theorem k501 : MemOK Tryz.prog base 39 m501 := memo_ok tbOK r501
end Go.Proofs.YtjehfpfgpnmpoaaGreatDoor.runParseEdges
