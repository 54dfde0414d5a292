/-
  CALLS OF THE RUN OF 'ParseEdges', each run by the kernel from the objects that it leans on.
-/
import Derived.Test.YtjehfpfgpnmpoaaGreatDoorTbE
import Derived.Test.YtjehfpfgpnmpoaaGreatDoorMParseEdgesD
set_option linter.all false
set_option maxRecDepth 100000
namespace Go.Proofs.YtjehfpfgpnmpoaaGreatDoor.runParseEdges
open Go Go.Ev
theorem r0 : xmemo tb 100000000 1 m0 = true := by kernel_rfl
theorem k0 : MemOK Tryz.prog base 15 m0 := memo_ok tbOK r0
theorem r19 : xmemo tb 100000000 253 m19 = true := by kernel_rfl
theorem k19 : MemOK Tryz.prog base 56 m19 := memo_ok tbOK r19
theorem r22 : xmemo tb 100000000 262 m22 = true := by kernel_rfl
theorem k22 : MemOK Tryz.prog base 56 m22 := memo_ok tbOK r22
theorem r27 : xmemo tb 100000000 277 m27 = true := by kernel_rfl
theorem k27 : MemOK Tryz.prog base 56 m27 := memo_ok tbOK r27
theorem r28 : xmemo tb 100000000 280 m28 = true := by kernel_rfl
theorem k28 : MemOK Tryz.prog base 56 m28 := memo_ok tbOK r28
theorem r32 : xmemo tb 100000000 292 m32 = true := by kernel_rfl
theorem k32 : MemOK Tryz.prog base 56 m32 := memo_ok tbOK r32
theorem r37 : xmemo tb 100000000 307 m37 = true := by kernel_rfl
theorem k37 : MemOK Tryz.prog base 56 m37 := memo_ok tbOK r37
theorem r42 : xmemo tb 100000000 322 m42 = true := by kernel_rfl
theorem k42 : MemOK Tryz.prog base 56 m42 := memo_ok tbOK r42
theorem r43 : xmemo tb 100000000 325 m43 = true := by kernel_rfl
theorem k43 : MemOK Tryz.prog base 56 m43 := memo_ok tbOK r43
theorem r47 : xmemo tb 100000000 337 m47 = true := by kernel_rfl
theorem k47 : MemOK Tryz.prog base 56 m47 := memo_ok tbOK r47
theorem r52 : xmemo tb 100000000 352 m52 = true := by kernel_rfl
theorem k52 : MemOK Tryz.prog base 56 m52 := memo_ok tbOK r52
theorem r57 : xmemo tb 100000000 367 m57 = true := by kernel_rfl
theorem k57 : MemOK Tryz.prog base 56 m57 := memo_ok tbOK r57
theorem r58 : xmemo tb 100000000 370 m58 = true := by kernel_rfl
theorem k58 : MemOK Tryz.prog base 56 m58 := memo_ok tbOK r58
theorem r62 : xmemo tb 100000000 382 m62 = true := by kernel_rfl
theorem k62 : MemOK Tryz.prog base 56 m62 := memo_ok tbOK r62
theorem r67 : xmemo tb 100000000 397 m67 = true := by kernel_rfl
theorem k67 : MemOK Tryz.prog base 56 m67 := memo_ok tbOK r67
theorem r72 : xmemo tb 100000000 412 m72 = true := by kernel_rfl
theorem k72 : MemOK Tryz.prog base 56 m72 := memo_ok tbOK r72
theorem r73 : xmemo tb 100000000 415 m73 = true := by kernel_rfl
theorem k73 : MemOK Tryz.prog base 56 m73 := memo_ok tbOK r73
theorem r77 : xmemo tb 100000000 427 m77 = true := by kernel_rfl
theorem k77 : MemOK Tryz.prog base 56 m77 := memo_ok tbOK r77
theorem r82 : xmemo tb 100000000 442 m82 = true := by kernel_rfl
theorem k82 : MemOK Tryz.prog base 56 m82 := memo_ok tbOK r82
theorem r87 : xmemo tb 100000000 457 m87 = true := by kernel_rfl
theorem k87 : MemOK Tryz.prog base 56 m87 := memo_ok tbOK r87
theorem r92 : xmemo tb 100000000 472 m92 = true := by kernel_rfl
theorem k92 : MemOK Tryz.prog base 56 m92 := memo_ok tbOK r92
theorem r93 : xmemo tb 100000000 475 m93 = true := by kernel_rfl
theorem k93 : MemOK Tryz.prog base 56 m93 := memo_ok tbOK r93
theorem r97 : xmemo tb 100000000 487 m97 = true := by kernel_rfl
theorem k97 : MemOK Tryz.prog base 56 m97 := memo_ok tbOK r97
theorem r102 : xmemo tb 100000000 502 m102 = true := by kernel_rfl
theorem k102 : MemOK Tryz.prog base 56 m102 := memo_ok tbOK r102
theorem r107 : xmemo tb 100000000 517 m107 = true := by kernel_rfl
theorem k107 : MemOK Tryz.prog base 56 m107 := memo_ok tbOK r107
theorem r112 : xmemo tb 100000000 532 m112 = true := by kernel_rfl
theorem k112 : MemOK Tryz.prog base 56 m112 := memo_ok tbOK r112
theorem r113 : xmemo tb 100000000 535 m113 = true := by kernel_rfl
theorem k113 : MemOK Tryz.prog base 56 m113 := memo_ok tbOK r113
theorem r117 : xmemo tb 100000000 547 m117 = true := by kernel_rfl
theorem k117 : MemOK Tryz.prog base 56 m117 := memo_ok tbOK r117
theorem r122 : xmemo tb 100000000 562 m122 = true := by kernel_rfl
theorem k122 : MemOK Tryz.prog base 56 m122 := memo_ok tbOK r122
theorem r127 : xmemo tb 100000000 577 m127 = true := by kernel_rfl
theorem k127 : MemOK Tryz.prog base 56 m127 := memo_ok tbOK r127
theorem r132 : xmemo tb 100000000 592 m132 = true := by kernel_rfl
theorem k132 : MemOK Tryz.prog base 56 m132 := memo_ok tbOK r132
theorem r133 : xmemo tb 100000000 595 m133 = true := by kernel_rfl
theorem k133 : MemOK Tryz.prog base 56 m133 := memo_ok tbOK r133
theorem r137 : xmemo tb 100000000 607 m137 = true := by kernel_rfl
theorem k137 : MemOK Tryz.prog base 56 m137 := memo_ok tbOK r137
theorem r142 : xmemo tb 100000000 622 m142 = true := by kernel_rfl
theorem k142 : MemOK Tryz.prog base 56 m142 := memo_ok tbOK r142
theorem r147 : xmemo tb 100000000 637 m147 = true := by kernel_rfl
theorem k147 : MemOK Tryz.prog base 56 m147 := memo_ok tbOK r147
theorem r152 : xmemo tb 100000000 652 m152 = true := by kernel_rfl
theorem k152 : MemOK Tryz.prog base 56 m152 := memo_ok tbOK r152
theorem r153 : xmemo tb 100000000 655 m153 = true := by kernel_rfl
theorem k153 : MemOK Tryz.prog base 56 m153 := memo_ok tbOK r153
theorem r157 : xmemo tb 100000000 667 m157 = true := by kernel_rfl
theorem k157 : MemOK Tryz.prog base 56 m157 := memo_ok tbOK r157
theorem r162 : xmemo tb 100000000 682 m162 = true := by kernel_rfl
theorem k162 : MemOK Tryz.prog base 56 m162 := memo_ok tbOK r162
theorem r167 : xmemo tb 100000000 697 m167 = true := by kernel_rfl
theorem k167 : MemOK Tryz.prog base 56 m167 := memo_ok tbOK r167
theorem r172 : xmemo tb 100000000 712 m172 = true := by kernel_rfl
theorem k172 : MemOK Tryz.prog base 56 m172 := memo_ok tbOK r172
theorem r173 : xmemo tb 100000000 715 m173 = true := by kernel_rfl
theorem k173 : MemOK Tryz.prog base 56 m173 := memo_ok tbOK r173
theorem r177 : xmemo tb 100000000 727 m177 = true := by kernel_rfl
theorem k177 : MemOK Tryz.prog base 56 m177 := memo_ok tbOK r177
theorem r182 : xmemo tb 100000000 742 m182 = true := by kernel_rfl
theorem k182 : MemOK Tryz.prog base 56 m182 := memo_ok tbOK r182
theorem r187 : xmemo tb 100000000 757 m187 = true := by kernel_rfl
theorem k187 : MemOK Tryz.prog base 56 m187 := memo_ok tbOK r187
theorem r192 : xmemo tb 100000000 772 m192 = true := by kernel_rfl
theorem k192 : MemOK Tryz.prog base 56 m192 := memo_ok tbOK r192
theorem r193 : xmemo tb 100000000 775 m193 = true := by kernel_rfl
theorem k193 : MemOK Tryz.prog base 56 m193 := memo_ok tbOK r193
theorem r197 : xmemo tb 100000000 787 m197 = true := by kernel_rfl
theorem k197 : MemOK Tryz.prog base 56 m197 := memo_ok tbOK r197
theorem r202 : xmemo tb 100000000 802 m202 = true := by kernel_rfl
theorem k202 : MemOK Tryz.prog base 56 m202 := memo_ok tbOK r202
theorem r207 : xmemo tb 100000000 817 m207 = true := by kernel_rfl
theorem k207 : MemOK Tryz.prog base 56 m207 := memo_ok tbOK r207
theorem r212 : xmemo tb 100000000 832 m212 = true := by kernel_rfl
theorem k212 : MemOK Tryz.prog base 56 m212 := memo_ok tbOK r212
theorem r213 : xmemo tb 100000000 835 m213 = true := by kernel_rfl
theorem k213 : MemOK Tryz.prog base 56 m213 := memo_ok tbOK r213
theorem r217 : xmemo tb 100000000 847 m217 = true := by kernel_rfl
theorem k217 : MemOK Tryz.prog base 56 m217 := memo_ok tbOK r217
theorem r222 : xmemo tb 100000000 862 m222 = true := by kernel_rfl
theorem k222 : MemOK Tryz.prog base 56 m222 := memo_ok tbOK r222
theorem r227 : xmemo tb 100000000 877 m227 = true := by kernel_rfl
theorem k227 : MemOK Tryz.prog base 56 m227 := memo_ok tbOK r227
theorem r232 : xmemo tb 100000000 892 m232 = true := by kernel_rfl
theorem k232 : MemOK Tryz.prog base 56 m232 := memo_ok tbOK r232
theorem r233 : xmemo tb 100000000 895 m233 = true := by kernel_rfl
theorem k233 : MemOK Tryz.prog base 56 m233 := memo_ok tbOK r233
theorem r237 : xmemo tb 100000000 907 m237 = true := by kernel_rfl
theorem k237 : MemOK Tryz.prog base 56 m237 := memo_ok tbOK r237
theorem r242 : xmemo tb 100000000 922 m242 = true := by kernel_rfl
theorem k242 : MemOK Tryz.prog base 56 m242 := memo_ok tbOK r242
theorem r247 : xmemo tb 100000000 937 m247 = true := by kernel_rfl
theorem k247 : MemOK Tryz.prog base 56 m247 := memo_ok tbOK r247
theorem r252 : xmemo tb 100000000 952 m252 = true := by kernel_rfl
theorem k252 : MemOK Tryz.prog base 56 m252 := memo_ok tbOK r252
theorem r253 : xmemo tb 100000000 955 m253 = true := by kernel_rfl
theorem k253 : MemOK Tryz.prog base 56 m253 := memo_ok tbOK r253
theorem r257 : xmemo tb 100000000 967 m257 = true := by kernel_rfl
theorem k257 : MemOK Tryz.prog base 56 m257 := memo_ok tbOK r257
theorem r262 : xmemo tb 100000000 982 m262 = true := by kernel_rfl
theorem k262 : MemOK Tryz.prog base 56 m262 := memo_ok tbOK r262
theorem r267 : xmemo tb 100000000 997 m267 = true := by kernel_rfl
theorem k267 : MemOK Tryz.prog base 56 m267 := memo_ok tbOK r267
theorem r272 : xmemo tb 100000000 1012 m272 = true := by kernel_rfl
theorem k272 : MemOK Tryz.prog base 56 m272 := memo_ok tbOK r272
theorem r273 : xmemo tb 100000000 1015 m273 = true := by kernel_rfl
theorem k273 : MemOK Tryz.prog base 56 m273 := memo_ok tbOK r273
theorem r277 : xmemo tb 100000000 1027 m277 = true := by kernel_rfl
theorem k277 : MemOK Tryz.prog base 56 m277 := memo_ok tbOK r277
theorem r282 : xmemo tb 100000000 1042 m282 = true := by kernel_rfl
theorem k282 : MemOK Tryz.prog base 56 m282 := memo_ok tbOK r282
theorem r287 : xmemo tb 100000000 1057 m287 = true := by kernel_rfl
theorem k287 : MemOK Tryz.prog base 56 m287 := memo_ok tbOK r287
theorem r292 : xmemo tb 100000000 1072 m292 = true := by kernel_rfl
theorem k292 : MemOK Tryz.prog base 56 m292 := memo_ok tbOK r292
theorem r293 : xmemo tb 100000000 1075 m293 = true := by kernel_rfl
theorem k293 : MemOK Tryz.prog base 56 m293 := memo_ok tbOK r293
theorem r297 : xmemo tb 100000000 1087 m297 = true := by kernel_rfl
theorem k297 : MemOK Tryz.prog base 56 m297 := memo_ok tbOK r297
theorem r302 : xmemo tb 100000000 1102 m302 = true := by kernel_rfl
theorem k302 : MemOK Tryz.prog base 56 m302 := memo_ok tbOK r302
theorem r307 : xmemo tb 100000000 1117 m307 = true := by kernel_rfl
theorem k307 : MemOK Tryz.prog base 56 m307 := memo_ok tbOK r307
theorem r312 : xmemo tb 100000000 1132 m312 = true := by kernel_rfl
theorem k312 : MemOK Tryz.prog base 56 m312 := memo_ok tbOK r312
theorem r313 : xmemo tb 100000000 1135 m313 = true := by kernel_rfl
theorem k313 : MemOK Tryz.prog base 56 m313 := memo_ok tbOK r313
theorem r317 : xmemo tb 100000000 1147 m317 = true := by kernel_rfl
theorem k317 : MemOK Tryz.prog base 56 m317 := memo_ok tbOK r317
theorem r322 : xmemo tb 100000000 1162 m322 = true := by kernel_rfl
theorem k322 : MemOK Tryz.prog base 56 m322 := memo_ok tbOK r322
theorem r327 : xmemo tb 100000000 1177 m327 = true := by kernel_rfl
theorem k327 : MemOK Tryz.prog base 56 m327 := memo_ok tbOK r327
theorem r332 : xmemo tb 100000000 1192 m332 = true := by kernel_rfl
theorem k332 : MemOK Tryz.prog base 56 m332 := memo_ok tbOK r332
theorem r333 : xmemo tb 100000000 1195 m333 = true := by kernel_rfl
theorem k333 : MemOK Tryz.prog base 56 m333 := memo_ok tbOK r333
theorem r337 : xmemo tb 100000000 1207 m337 = true := by kernel_rfl
theorem k337 : MemOK Tryz.prog base 56 m337 := memo_ok tbOK r337
theorem r342 : xmemo tb 100000000 1222 m342 = true := by kernel_rfl
theorem k342 : MemOK Tryz.prog base 56 m342 := memo_ok tbOK r342
theorem r347 : xmemo tb 100000000 1237 m347 = true := by kernel_rfl
theorem k347 : MemOK Tryz.prog base 56 m347 := memo_ok tbOK r347
theorem r352 : xmemo tb 100000000 1252 m352 = true := by kernel_rfl
theorem k352 : MemOK Tryz.prog base 56 m352 := memo_ok tbOK r352
theorem r353 : xmemo tb 100000000 1255 m353 = true := by kernel_rfl
theorem k353 : MemOK Tryz.prog base 56 m353 := memo_ok tbOK r353
theorem r357 : xmemo tb 100000000 1267 m357 = true := by kernel_rfl
theorem k357 : MemOK Tryz.prog base 56 m357 := memo_ok tbOK r357
theorem r362 : xmemo tb 100000000 1282 m362 = true := by kernel_rfl
theorem k362 : MemOK Tryz.prog base 56 m362 := memo_ok tbOK r362
theorem r369 : xmemo tb 100000000 309 m369 = true := by kernel_rfl
theorem k369 : MemOK Tryz.prog base 39 m369 := memo_ok tbOK r369
theorem r371 : xmemo tb 100000000 369 m371 = true := by kernel_rfl
theorem k371 : MemOK Tryz.prog base 39 m371 := memo_ok tbOK r371
theorem r375 : xmemo tb 100000000 489 m375 = true := by kernel_rfl
theorem k375 : MemOK Tryz.prog base 39 m375 := memo_ok tbOK r375
theorem r383 : xmemo tb 100000000 729 m383 = true := by kernel_rfl
theorem k383 : MemOK Tryz.prog base 39 m383 := memo_ok tbOK r383
theorem r391 : xmemo tb 100000000 969 m391 = true := by kernel_rfl
theorem k391 : MemOK Tryz.prog base 39 m391 := memo_ok tbOK r391
theorem r399 : xmemo tb 100000000 1209 m399 = true := by kernel_rfl
theorem k399 : MemOK Tryz.prog base 39 m399 := memo_ok tbOK r399
theorem r407 : xmemo tb 100000000 1449 m407 = true := by kernel_rfl
theorem k407 : MemOK Tryz.prog base 39 m407 := memo_ok tbOK r407
theorem r415 : xmemo tb 100000000 1689 m415 = true := by kernel_rfl
theorem k415 : MemOK Tryz.prog base 39 m415 := memo_ok tbOK r415
theorem r423 : xmemo tb 100000000 1929 m423 = true := by kernel_rfl
theorem k423 : MemOK Tryz.prog base 39 m423 := memo_ok tbOK r423
theorem r431 : xmemo tb 100000000 2169 m431 = true := by kernel_rfl
theorem k431 : MemOK Tryz.prog base 39 m431 := memo_ok tbOK r431
theorem r439 : xmemo tb 100000000 2409 m439 = true := by kernel_rfl
theorem k439 : MemOK Tryz.prog base 39 m439 := memo_ok tbOK r439
theorem r447 : xmemo tb 100000000 2649 m447 = true := by kernel_rfl
theorem k447 : MemOK Tryz.prog base 39 m447 := memo_ok tbOK r447
theorem r455 : xmemo tb 100000000 2889 m455 = true := by kernel_rfl
theorem k455 : MemOK Tryz.prog base 39 m455 := memo_ok tbOK r455
theorem r463 : xmemo tb 100000000 3129 m463 = true := by kernel_rfl
theorem k463 : MemOK Tryz.prog base 39 m463 := memo_ok tbOK r463
theorem r471 : xmemo tb 100000000 3369 m471 = true := by kernel_rfl
theorem k471 : MemOK Tryz.prog base 39 m471 := memo_ok tbOK r471
theorem r479 : xmemo tb 100000000 3609 m479 = true := by kernel_rfl
theorem k479 : MemOK Tryz.prog base 39 m479 := memo_ok tbOK r479
theorem r487 : xmemo tb 100000000 3849 m487 = true := by kernel_rfl
theorem k487 : MemOK Tryz.prog base 39 m487 := memo_ok tbOK r487
theorem r495 : xmemo tb 100000000 4089 m495 = true := by kernel_rfl
theorem k495 : MemOK Tryz.prog base 39 m495 := memo_ok tbOK r495
theorem r503 : xmemo tb 100000000 4329 m503 = true := by kernel_rfl
theorem k503 : MemOK Tryz.prog base 39 m503 := memo_ok tbOK r503
end Go.Proofs.YtjehfpfgpnmpoaaGreatDoor.runParseEdges
