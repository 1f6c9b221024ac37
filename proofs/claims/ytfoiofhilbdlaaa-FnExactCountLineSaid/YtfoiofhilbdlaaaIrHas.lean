/-
 Texts of the little language.
-/
import Derived.Test.YtfoiofhilbdlaaaIrAllA
import Derived.Test.YtfoiofhilbdlaaaCatThree
import Derived.Test.YtfoiofhilbdlaaaCatFour
set_option linter.unusedSimpArgs false
set_option linter.unusedVariables false
namespace Go.Cat
class HA (K:Nat→List D→List D→Prop):Prop where
 h22:Has K 22 ir_spec_l1In
 h23:Has K 23 ir_impl_within
 h24:Has K 24 ir_spec_l3Binomial
 h25:Has K 25 ir_impl_choose
 h27:Has K 27 ir_impl_BallotNumber
 h28:Has K 28 ir_impl_CatalanNumber
 h64:Has K 64 ir_spec_IsDyck
 h67:Has K 67 ir_impl_IsDyck
 h79:Has K 79 ir_spec_CatalanNumber
 h82:Has K 82 ir_impl_heights
 h84:Has K 84 ir_spec_l3Ways
 h137:Has K 137 ir_spec_l34Numbers
 h138:Has K 138 ir_spec_FormatInt
 h141:Has K 141 ir_impl_line
 h142:Has K 142 ir_impl_list
 h143:Has K 143 ir_impl_FormatInt
 h160:Has K 160 ir_spec_IsBinary
 h162:Has K 162 ir_spec_NodesOf
 h164:Has K 164 ir_spec_WeightsOf
 h169:Has K 169 ir_impl_NodesOf
 h171:Has K 171 ir_impl_WeightsOf
 h184:Has K 184 ir_impl_glued
 h188:Has K 188 ir_spec_l6End
 h191:Has K 191 ir_spec_l16Node
 h194:Has K 194 ir_impl_parseTree
 h196:Has K 196 ir_impl_tree_text
 h197:Has K 197 ir_impl_tree_nodes
 h199:Has K 199 ir_impl_tree_weights
 h208:Has K 208 ir_impl_readTree
 h234:Has K 234 ir_spec_PathsOf
 h256:Has K 256 ir_impl_MotzkinNumber
 h267:Has K 267 ir_spec_MotzkinNumber
 h292:Has K 292 ir_spec_l3All
 h314:Has K 314 ir_impl_allPaths
 h326:Has K 326 ir_impl_allPaths_f1
 h349:Has K 349 ir_spec_IsTamariLess
 h350:Has K 350 ir_impl_IsTamariLess
 h355:Has K 355 ir_spec_IsNoncrossingMatching
 h356:Has K 356 ir_spec_MatchingOf
 h359:Has K 359 ir_impl_matchings
 h360:Has K 360 ir_impl_cycles
 h365:Has K 365 ir_spec_l17Fit
 h367:Has K 367 ir_impl_alike
 h369:Has K 369 ir_spec_CrossingsOf
 h370:Has K 370 ir_spec_l4Partner
 h371:Has K 371 ir_spec_LoopsOf
 h373:Has K 373 ir_impl_partners
 h379:Has K 379 ir_spec_IsMatching
 h400:Has K 400 ir_laws_FnExactCountLine
 h455:Has K 455 ir_spec_CountLine
 h456:Has K 456 ir_impl_CountLine
 h488:Has K 488 ir_spec_LoopTable
 h489:Has K 489 ir_spec_SchroederNumber
 h490:Has K 490 ir_spec_FussNumber
 h491:Has K 491 ir_spec_CountParking
 h492:Has K 492 ir_spec_CountIntervals
 h493:Has K 493 ir_impl_LoopTable
 h495:Has K 495 ir_impl_FussNumber
 h496:Has K 496 ir_impl_CountParking
 h497:Has K 497 ir_impl_CountIntervals
 h501:Has K 501 ir_impl_HeightsOf
 h504:Has K 504 ir_spec_l17Trees
 h506:Has K 506 ir_impl_treesOf
 h513:Has K 513 ir_spec_l6Binary
 h514:Has K 514 ir_impl_treeOfPath
 h518:Has K 518 ir_spec_l2Cut
 h519:Has K 519 ir_impl_FirstReturn
section
variable {K:Nat→List D→List D→Prop} [h:HA K]
instance:Has K 22 ir_spec_l1In:=h.h22
instance:Has K 23 ir_impl_within:=h.h23
instance:Has K 24 ir_spec_l3Binomial:=h.h24
instance:Has K 25 ir_impl_choose:=h.h25
instance:Has K 27 ir_impl_BallotNumber:=h.h27
instance:Has K 28 ir_impl_CatalanNumber:=h.h28
instance:Has K 64 ir_spec_IsDyck:=h.h64
instance:Has K 67 ir_impl_IsDyck:=h.h67
instance:Has K 79 ir_spec_CatalanNumber:=h.h79
instance:Has K 82 ir_impl_heights:=h.h82
instance:Has K 84 ir_spec_l3Ways:=h.h84
instance:Has K 137 ir_spec_l34Numbers:=h.h137
instance:Has K 138 ir_spec_FormatInt:=h.h138
instance:Has K 141 ir_impl_line:=h.h141
instance:Has K 142 ir_impl_list:=h.h142
instance:Has K 143 ir_impl_FormatInt:=h.h143
instance:Has K 160 ir_spec_IsBinary:=h.h160
instance:Has K 162 ir_spec_NodesOf:=h.h162
instance:Has K 164 ir_spec_WeightsOf:=h.h164
instance:Has K 169 ir_impl_NodesOf:=h.h169
instance:Has K 171 ir_impl_WeightsOf:=h.h171
instance:Has K 184 ir_impl_glued:=h.h184
instance:Has K 188 ir_spec_l6End:=h.h188
instance:Has K 191 ir_spec_l16Node:=h.h191
instance:Has K 194 ir_impl_parseTree:=h.h194
instance:Has K 196 ir_impl_tree_text:=h.h196
instance:Has K 197 ir_impl_tree_nodes:=h.h197
instance:Has K 199 ir_impl_tree_weights:=h.h199
instance:Has K 208 ir_impl_readTree:=h.h208
instance:Has K 234 ir_spec_PathsOf:=h.h234
instance:Has K 256 ir_impl_MotzkinNumber:=h.h256
instance:Has K 267 ir_spec_MotzkinNumber:=h.h267
instance:Has K 292 ir_spec_l3All:=h.h292
instance:Has K 314 ir_impl_allPaths:=h.h314
instance:Has K 326 ir_impl_allPaths_f1:=h.h326
instance:Has K 349 ir_spec_IsTamariLess:=h.h349
instance:Has K 350 ir_impl_IsTamariLess:=h.h350
instance:Has K 355 ir_spec_IsNoncrossingMatching:=h.h355
instance:Has K 356 ir_spec_MatchingOf:=h.h356
instance:Has K 359 ir_impl_matchings:=h.h359
instance:Has K 360 ir_impl_cycles:=h.h360
instance:Has K 365 ir_spec_l17Fit:=h.h365
instance:Has K 367 ir_impl_alike:=h.h367
instance:Has K 369 ir_spec_CrossingsOf:=h.h369
instance:Has K 370 ir_spec_l4Partner:=h.h370
instance:Has K 371 ir_spec_LoopsOf:=h.h371
instance:Has K 373 ir_impl_partners:=h.h373
instance:Has K 379 ir_spec_IsMatching:=h.h379
instance:Has K 400 ir_laws_FnExactCountLine:=h.h400
instance:Has K 455 ir_spec_CountLine:=h.h455
instance:Has K 456 ir_impl_CountLine:=h.h456
instance:Has K 488 ir_spec_LoopTable:=h.h488
instance:Has K 489 ir_spec_SchroederNumber:=h.h489
instance:Has K 490 ir_spec_FussNumber:=h.h490
instance:Has K 491 ir_spec_CountParking:=h.h491
instance:Has K 492 ir_spec_CountIntervals:=h.h492
instance:Has K 493 ir_impl_LoopTable:=h.h493
instance:Has K 495 ir_impl_FussNumber:=h.h495
instance:Has K 496 ir_impl_CountParking:=h.h496
instance:Has K 497 ir_impl_CountIntervals:=h.h497
instance:Has K 501 ir_impl_HeightsOf:=h.h501
instance:Has K 504 ir_spec_l17Trees:=h.h504
instance:Has K 506 ir_impl_treesOf:=h.h506
instance:Has K 513 ir_spec_l6Binary:=h.h513
instance:Has K 514 ir_impl_treeOfPath:=h.h514
instance:Has K 518 ir_spec_l2Cut:=h.h518
instance:Has K 519 ir_impl_FirstReturn:=h.h519
end
instance:HA (fun _ _ _=>True):=by constructor <;> exact ⟨fun _ _ _=>trivial⟩
end Go.Cat
