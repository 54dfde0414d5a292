/-
  CALLS OF THE RUN OF 'ParseEdges', each run by the kernel from the objects that it leans on.
-/
import Derived.Test.YtjehfpfgpnmpoaaGreatDoorTbE
import Derived.Test.YtjehfpfgpnmpoaaGreatDoorMParseEdgesD
set_option linter.all false
set_option maxRecDepth 100000
namespace Go.Proofs.YtjehfpfgpnmpoaaGreatDoor.runParseEdges
open Go Go.Ev
theorem r6 : xmemo tb 100000000 1 m6 = true := by kernel_rfl
theorem k6 : MemOK Tryz.prog base 15 m6 := memo_ok tbOK r6
theorem r9 : xmemo tb 100000000 1 m9 = true := by kernel_rfl
theorem k9 : MemOK Tryz.prog base 15 m9 := memo_ok tbOK r9
theorem r24 : xmemo tb 100000000 268 m24 = true := by kernel_rfl
theorem k24 : MemOK Tryz.prog base 56 m24 := memo_ok tbOK r24
theorem r29 : xmemo tb 100000000 283 m29 = true := by kernel_rfl
theorem k29 : MemOK Tryz.prog base 56 m29 := memo_ok tbOK r29
theorem r34 : xmemo tb 100000000 298 m34 = true := by kernel_rfl
theorem k34 : MemOK Tryz.prog base 56 m34 := memo_ok tbOK r34
theorem r38 : xmemo tb 100000000 310 m38 = true := by kernel_rfl
theorem k38 : MemOK Tryz.prog base 56 m38 := memo_ok tbOK r38
theorem r39 : xmemo tb 100000000 313 m39 = true := by kernel_rfl
theorem k39 : MemOK Tryz.prog base 56 m39 := memo_ok tbOK r39
theorem r44 : xmemo tb 100000000 328 m44 = true := by kernel_rfl
theorem k44 : MemOK Tryz.prog base 56 m44 := memo_ok tbOK r44
theorem r49 : xmemo tb 100000000 343 m49 = true := by kernel_rfl
theorem k49 : MemOK Tryz.prog base 56 m49 := memo_ok tbOK r49
theorem r53 : xmemo tb 100000000 355 m53 = true := by kernel_rfl
theorem k53 : MemOK Tryz.prog base 56 m53 := memo_ok tbOK r53
theorem r54 : xmemo tb 100000000 358 m54 = true := by kernel_rfl
theorem k54 : MemOK Tryz.prog base 56 m54 := memo_ok tbOK r54
theorem r59 : xmemo tb 100000000 373 m59 = true := by kernel_rfl
theorem k59 : MemOK Tryz.prog base 56 m59 := memo_ok tbOK r59
theorem r64 : xmemo tb 100000000 388 m64 = true := by kernel_rfl
theorem k64 : MemOK Tryz.prog base 56 m64 := memo_ok tbOK r64
theorem r68 : xmemo tb 100000000 400 m68 = true := by kernel_rfl
theorem k68 : MemOK Tryz.prog base 56 m68 := memo_ok tbOK r68
theorem r69 : xmemo tb 100000000 403 m69 = true := by kernel_rfl
theorem k69 : MemOK Tryz.prog base 56 m69 := memo_ok tbOK r69
theorem r74 : xmemo tb 100000000 418 m74 = true := by kernel_rfl
theorem k74 : MemOK Tryz.prog base 56 m74 := memo_ok tbOK r74
theorem r79 : xmemo tb 100000000 433 m79 = true := by kernel_rfl
theorem k79 : MemOK Tryz.prog base 56 m79 := memo_ok tbOK r79
theorem r83 : xmemo tb 100000000 445 m83 = true := by kernel_rfl
theorem k83 : MemOK Tryz.prog base 56 m83 := memo_ok tbOK r83
theorem r84 : xmemo tb 100000000 448 m84 = true := by kernel_rfl
theorem k84 : MemOK Tryz.prog base 56 m84 := memo_ok tbOK r84
theorem r89 : xmemo tb 100000000 463 m89 = true := by kernel_rfl
theorem k89 : MemOK Tryz.prog base 56 m89 := memo_ok tbOK r89
theorem r94 : xmemo tb 100000000 478 m94 = true := by kernel_rfl
theorem k94 : MemOK Tryz.prog base 56 m94 := memo_ok tbOK r94
theorem r99 : xmemo tb 100000000 493 m99 = true := by kernel_rfl
theorem k99 : MemOK Tryz.prog base 56 m99 := memo_ok tbOK r99
theorem r103 : xmemo tb 100000000 505 m103 = true := by kernel_rfl
theorem k103 : MemOK Tryz.prog base 56 m103 := memo_ok tbOK r103
theorem r104 : xmemo tb 100000000 508 m104 = true := by kernel_rfl
theorem k104 : MemOK Tryz.prog base 56 m104 := memo_ok tbOK r104
theorem r109 : xmemo tb 100000000 523 m109 = true := by kernel_rfl
theorem k109 : MemOK Tryz.prog base 56 m109 := memo_ok tbOK r109
theorem r114 : xmemo tb 100000000 538 m114 = true := by kernel_rfl
theorem k114 : MemOK Tryz.prog base 56 m114 := memo_ok tbOK r114
theorem r119 : xmemo tb 100000000 553 m119 = true := by kernel_rfl
theorem k119 : MemOK Tryz.prog base 56 m119 := memo_ok tbOK r119
theorem r123 : xmemo tb 100000000 565 m123 = true := by kernel_rfl
theorem k123 : MemOK Tryz.prog base 56 m123 := memo_ok tbOK r123
theorem r124 : xmemo tb 100000000 568 m124 = true := by kernel_rfl
theorem k124 : MemOK Tryz.prog base 56 m124 := memo_ok tbOK r124
theorem r129 : xmemo tb 100000000 583 m129 = true := by kernel_rfl
theorem k129 : MemOK Tryz.prog base 56 m129 := memo_ok tbOK r129
theorem r134 : xmemo tb 100000000 598 m134 = true := by kernel_rfl
theorem k134 : MemOK Tryz.prog base 56 m134 := memo_ok tbOK r134
theorem r139 : xmemo tb 100000000 613 m139 = true := by kernel_rfl
theorem k139 : MemOK Tryz.prog base 56 m139 := memo_ok tbOK r139
theorem r143 : xmemo tb 100000000 625 m143 = true := by kernel_rfl
theorem k143 : MemOK Tryz.prog base 56 m143 := memo_ok tbOK r143
theorem r144 : xmemo tb 100000000 628 m144 = true := by kernel_rfl
theorem k144 : MemOK Tryz.prog base 56 m144 := memo_ok tbOK r144
theorem r149 : xmemo tb 100000000 643 m149 = true := by kernel_rfl
theorem k149 : MemOK Tryz.prog base 56 m149 := memo_ok tbOK r149
theorem r154 : xmemo tb 100000000 658 m154 = true := by kernel_rfl
theorem k154 : MemOK Tryz.prog base 56 m154 := memo_ok tbOK r154
theorem r159 : xmemo tb 100000000 673 m159 = true := by kernel_rfl
theorem k159 : MemOK Tryz.prog base 56 m159 := memo_ok tbOK r159
theorem r163 : xmemo tb 100000000 685 m163 = true := by kernel_rfl
theorem k163 : MemOK Tryz.prog base 56 m163 := memo_ok tbOK r163
theorem r164 : xmemo tb 100000000 688 m164 = true := by kernel_rfl
theorem k164 : MemOK Tryz.prog base 56 m164 := memo_ok tbOK r164
theorem r169 : xmemo tb 100000000 703 m169 = true := by kernel_rfl
theorem k169 : MemOK Tryz.prog base 56 m169 := memo_ok tbOK r169
theorem r174 : xmemo tb 100000000 718 m174 = true := by kernel_rfl
theorem k174 : MemOK Tryz.prog base 56 m174 := memo_ok tbOK r174
theorem r179 : xmemo tb 100000000 733 m179 = true := by kernel_rfl
theorem k179 : MemOK Tryz.prog base 56 m179 := memo_ok tbOK r179
theorem r183 : xmemo tb 100000000 745 m183 = true := by kernel_rfl
theorem k183 : MemOK Tryz.prog base 56 m183 := memo_ok tbOK r183
theorem r184 : xmemo tb 100000000 748 m184 = true := by kernel_rfl
theorem k184 : MemOK Tryz.prog base 56 m184 := memo_ok tbOK r184
theorem r189 : xmemo tb 100000000 763 m189 = true := by kernel_rfl
theorem k189 : MemOK Tryz.prog base 56 m189 := memo_ok tbOK r189
theorem r194 : xmemo tb 100000000 778 m194 = true := by kernel_rfl
theorem k194 : MemOK Tryz.prog base 56 m194 := memo_ok tbOK r194
theorem r199 : xmemo tb 100000000 793 m199 = true := by kernel_rfl
theorem k199 : MemOK Tryz.prog base 56 m199 := memo_ok tbOK r199
theorem r203 : xmemo tb 100000000 805 m203 = true := by kernel_rfl
theorem k203 : MemOK Tryz.prog base 56 m203 := memo_ok tbOK r203
theorem r204 : xmemo tb 100000000 808 m204 = true := by kernel_rfl
theorem k204 : MemOK Tryz.prog base 56 m204 := memo_ok tbOK r204
theorem r209 : xmemo tb 100000000 823 m209 = true := by kernel_rfl
theorem k209 : MemOK Tryz.prog base 56 m209 := memo_ok tbOK r209
theorem r214 : xmemo tb 100000000 838 m214 = true := by kernel_rfl
theorem k214 : MemOK Tryz.prog base 56 m214 := memo_ok tbOK r214
theorem r219 : xmemo tb 100000000 853 m219 = true := by kernel_rfl
theorem k219 : MemOK Tryz.prog base 56 m219 := memo_ok tbOK r219
theorem r223 : xmemo tb 100000000 865 m223 = true := by kernel_rfl
theorem k223 : MemOK Tryz.prog base 56 m223 := memo_ok tbOK r223
theorem r224 : xmemo tb 100000000 868 m224 = true := by kernel_rfl
theorem k224 : MemOK Tryz.prog base 56 m224 := memo_ok tbOK r224
theorem r229 : xmemo tb 100000000 883 m229 = true := by kernel_rfl
theorem k229 : MemOK Tryz.prog base 56 m229 := memo_ok tbOK r229
theorem r234 : xmemo tb 100000000 898 m234 = true := by kernel_rfl
theorem k234 : MemOK Tryz.prog base 56 m234 := memo_ok tbOK r234
theorem r239 : xmemo tb 100000000 913 m239 = true := by kernel_rfl
theorem k239 : MemOK Tryz.prog base 56 m239 := memo_ok tbOK r239
theorem r243 : xmemo tb 100000000 925 m243 = true := by kernel_rfl
theorem k243 : MemOK Tryz.prog base 56 m243 := memo_ok tbOK r243
theorem r244 : xmemo tb 100000000 928 m244 = true := by kernel_rfl
theorem k244 : MemOK Tryz.prog base 56 m244 := memo_ok tbOK r244
theorem r249 : xmemo tb 100000000 943 m249 = true := by kernel_rfl
theorem k249 : MemOK Tryz.prog base 56 m249 := memo_ok tbOK r249
theorem r254 : xmemo tb 100000000 958 m254 = true := by kernel_rfl
theorem k254 : MemOK Tryz.prog base 56 m254 := memo_ok tbOK r254
theorem r259 : xmemo tb 100000000 973 m259 = true := by kernel_rfl
theorem k259 : MemOK Tryz.prog base 56 m259 := memo_ok tbOK r259
theorem r263 : xmemo tb 100000000 985 m263 = true := by kernel_rfl
theorem k263 : MemOK Tryz.prog base 56 m263 := memo_ok tbOK r263
theorem r264 : xmemo tb 100000000 988 m264 = true := by kernel_rfl
theorem k264 : MemOK Tryz.prog base 56 m264 := memo_ok tbOK r264
theorem r269 : xmemo tb 100000000 1003 m269 = true := by kernel_rfl
theorem k269 : MemOK Tryz.prog base 56 m269 := memo_ok tbOK r269
theorem r274 : xmemo tb 100000000 1018 m274 = true := by kernel_rfl
theorem k274 : MemOK Tryz.prog base 56 m274 := memo_ok tbOK r274
theorem r279 : xmemo tb 100000000 1033 m279 = true := by kernel_rfl
theorem k279 : MemOK Tryz.prog base 56 m279 := memo_ok tbOK r279
theorem r283 : xmemo tb 100000000 1045 m283 = true := by kernel_rfl
theorem k283 : MemOK Tryz.prog base 56 m283 := memo_ok tbOK r283
theorem r284 : xmemo tb 100000000 1048 m284 = true := by kernel_rfl
theorem k284 : MemOK Tryz.prog base 56 m284 := memo_ok tbOK r284
theorem r289 : xmemo tb 100000000 1063 m289 = true := by kernel_rfl
theorem k289 : MemOK Tryz.prog base 56 m289 := memo_ok tbOK r289
theorem r294 : xmemo tb 100000000 1078 m294 = true := by kernel_rfl
theorem k294 : MemOK Tryz.prog base 56 m294 := memo_ok tbOK r294
theorem r299 : xmemo tb 100000000 1093 m299 = true := by kernel_rfl
theorem k299 : MemOK Tryz.prog base 56 m299 := memo_ok tbOK r299
theorem r303 : xmemo tb 100000000 1105 m303 = true := by kernel_rfl
theorem k303 : MemOK Tryz.prog base 56 m303 := memo_ok tbOK r303
theorem r304 : xmemo tb 100000000 1108 m304 = true := by kernel_rfl
theorem k304 : MemOK Tryz.prog base 56 m304 := memo_ok tbOK r304
theorem r309 : xmemo tb 100000000 1123 m309 = true := by kernel_rfl
theorem k309 : MemOK Tryz.prog base 56 m309 := memo_ok tbOK r309
theorem r314 : xmemo tb 100000000 1138 m314 = true := by kernel_rfl
theorem k314 : MemOK Tryz.prog base 56 m314 := memo_ok tbOK r314
theorem r319 : xmemo tb 100000000 1153 m319 = true := by kernel_rfl
theorem k319 : MemOK Tryz.prog base 56 m319 := memo_ok tbOK r319
theorem r323 : xmemo tb 100000000 1165 m323 = true := by kernel_rfl
theorem k323 : MemOK Tryz.prog base 56 m323 := memo_ok tbOK r323
theorem r324 : xmemo tb 100000000 1168 m324 = true := by kernel_rfl
theorem k324 : MemOK Tryz.prog base 56 m324 := memo_ok tbOK r324
theorem r329 : xmemo tb 100000000 1183 m329 = true := by kernel_rfl
theorem k329 : MemOK Tryz.prog base 56 m329 := memo_ok tbOK r329
theorem r334 : xmemo tb 100000000 1198 m334 = true := by kernel_rfl
theorem k334 : MemOK Tryz.prog base 56 m334 := memo_ok tbOK r334
theorem r339 : xmemo tb 100000000 1213 m339 = true := by kernel_rfl
theorem k339 : MemOK Tryz.prog base 56 m339 := memo_ok tbOK r339
theorem r343 : xmemo tb 100000000 1225 m343 = true := by kernel_rfl
theorem k343 : MemOK Tryz.prog base 56 m343 := memo_ok tbOK r343
theorem r344 : xmemo tb 100000000 1228 m344 = true := by kernel_rfl
theorem k344 : MemOK Tryz.prog base 56 m344 := memo_ok tbOK r344
theorem r349 : xmemo tb 100000000 1243 m349 = true := by kernel_rfl
theorem k349 : MemOK Tryz.prog base 56 m349 := memo_ok tbOK r349
theorem r354 : xmemo tb 100000000 1258 m354 = true := by kernel_rfl
theorem k354 : MemOK Tryz.prog base 56 m354 := memo_ok tbOK r354
theorem r359 : xmemo tb 100000000 1273 m359 = true := by kernel_rfl
theorem k359 : MemOK Tryz.prog base 56 m359 := memo_ok tbOK r359
theorem r363 : xmemo tb 100000000 1285 m363 = true := by kernel_rfl
theorem k363 : MemOK Tryz.prog base 56 m363 := memo_ok tbOK r363
theorem r364 : xmemo tb 100000000 1288 m364 = true := by kernel_rfl
theorem k364 : MemOK Tryz.prog base 56 m364 := memo_ok tbOK r364
theorem r377 : xmemo tb 100000000 549 m377 = true := by kernel_rfl
theorem k377 : MemOK Tryz.prog base 39 m377 := memo_ok tbOK r377
theorem r385 : xmemo tb 100000000 789 m385 = true := by kernel_rfl
theorem k385 : MemOK Tryz.prog base 39 m385 := memo_ok tbOK r385
theorem r393 : xmemo tb 100000000 1029 m393 = true := by kernel_rfl
theorem k393 : MemOK Tryz.prog base 39 m393 := memo_ok tbOK r393
theorem r401 : xmemo tb 100000000 1269 m401 = true := by kernel_rfl
theorem k401 : MemOK Tryz.prog base 39 m401 := memo_ok tbOK r401
theorem r409 : xmemo tb 100000000 1509 m409 = true := by kernel_rfl
theorem k409 : MemOK Tryz.prog base 39 m409 := memo_ok tbOK r409
theorem r417 : xmemo tb 100000000 1749 m417 = true := by kernel_rfl
theorem k417 : MemOK Tryz.prog base 39 m417 := memo_ok tbOK r417
theorem r425 : xmemo tb 100000000 1989 m425 = true := by kernel_rfl
theorem k425 : MemOK Tryz.prog base 39 m425 := memo_ok tbOK r425
theorem r433 : xmemo tb 100000000 2229 m433 = true := by kernel_rfl
theorem k433 : MemOK Tryz.prog base 39 m433 := memo_ok tbOK r433
theorem r441 : xmemo tb 100000000 2469 m441 = true := by kernel_rfl
theorem k441 : MemOK Tryz.prog base 39 m441 := memo_ok tbOK r441
theorem r449 : xmemo tb 100000000 2709 m449 = true := by kernel_rfl
theorem k449 : MemOK Tryz.prog base 39 m449 := memo_ok tbOK r449
theorem r457 : xmemo tb 100000000 2949 m457 = true := by kernel_rfl
theorem k457 : MemOK Tryz.prog base 39 m457 := memo_ok tbOK r457
theorem r465 : xmemo tb 100000000 3189 m465 = true := by kernel_rfl
theorem k465 : MemOK Tryz.prog base 39 m465 := memo_ok tbOK r465
theorem r473 : xmemo tb 100000000 3429 m473 = true := by kernel_rfl
theorem k473 : MemOK Tryz.prog base 39 m473 := memo_ok tbOK r473
theorem r481 : xmemo tb 100000000 3669 m481 = true := by kernel_rfl
theorem k481 : MemOK Tryz.prog base 39 m481 := memo_ok tbOK r481
theorem r489 : xmemo tb 100000000 3909 m489 = true := by kernel_rfl
theorem k489 : MemOK Tryz.prog base 39 m489 := memo_ok tbOK r489
theorem r497 : xmemo tb 100000000 4149 m497 = true := by kernel_rfl
theorem k497 : MemOK Tryz.prog base 39 m497 := memo_ok tbOK r497
theorem r505 : xmemo tb 100000000 4389 m505 = true := by kernel_rfl
theorem k505 : MemOK Tryz.prog base 39 m505 := memo_ok tbOK r505
end Go.Proofs.YtjehfpfgpnmpoaaGreatDoor.runParseEdges
