/-
 Texts of the little language.
-/
import Derived.Test.YtfoiofhilbdlaaaIrHas
import Derived.Test.YtfoiofhilbdlaaaRows
import Derived.Test.YtfoiofhilbdlaaaCatThree
import Derived.Test.YtfoiofhilbdlaaaCatFour
set_option linter.unusedSimpArgs false
set_option linter.unusedVariables false
namespace Go.Proofs.Ytfoiofhilbdlaaa.fnExactCountLine
open Go Go.Cat Go.Proofs
set_option maxRecDepth 100000
def tab:List Row:=[⟨22,6,⟨[.v,.v,.v],[.v],[],none⟩⟩,
 ⟨23,16,⟨[.v,.v,.v],[.v],[],none⟩⟩,
 ⟨24,31,⟨[.v,.v],[.v],[],none⟩⟩,
 ⟨25,39,⟨[.v,.v],[.v],[],none⟩⟩,
 ⟨27,37,⟨[.v,.v],[.v],[],none⟩⟩,
 ⟨28,20,⟨[.v],[.v],[],none⟩⟩,
 ⟨64,43,⟨[.v],[.v],[],none⟩⟩,
 ⟨67,67,⟨[.v],[.v],[],none⟩⟩,
 ⟨79,9,⟨[.v],[.v],[],none⟩⟩,
 ⟨82,71,⟨[.v],[(.o .v),.v],[],none⟩⟩,
 ⟨84,30,⟨[.v,.v],[.v],[],none⟩⟩,
 ⟨137,15,⟨[.y],[.v],[],none⟩⟩,
 ⟨138,8,⟨[.v],[.v],[],none⟩⟩,
 ⟨141,18,⟨[.y],[.v],[],none⟩⟩,
 ⟨142,26,⟨[.y],[.v],[],none⟩⟩,
 ⟨143,19,⟨[.v],[.v],[],none⟩⟩,
 ⟨160,57,⟨[.v],[.v],[],none⟩⟩,
 ⟨162,58,⟨[.v],[.v],[],none⟩⟩,
 ⟨164,48,⟨[.v],[(.o .v)],[],none⟩⟩,
 ⟨169,63,⟨[.v],[.v],[],none⟩⟩,
 ⟨171,54,⟨[.v],[(.o .v)],[],none⟩⟩,
 ⟨184,36,⟨[.y,.v],[.v],[],none⟩⟩,
 ⟨188,60,⟨[.v,.v],[.v],[],none⟩⟩,
 ⟨191,59,⟨[.v,.v],[.v],[],none⟩⟩,
 ⟨194,64,⟨[.v],[.v,.v],[],none⟩⟩,
 ⟨196,52,⟨[.v],[.v],[],none⟩⟩,
 ⟨197,69,⟨[.v],[.v],[],none⟩⟩,
 ⟨199,65,⟨[.v,(.o .v)],[(.o .v)],[],none⟩⟩,
 ⟨208,70,⟨[.v,.v],[.v,.v],[],none⟩⟩,
 ⟨234,27,⟨[.v],[(.o .v)],[],none⟩⟩,
 ⟨256,21,⟨[.v],[.v],[],none⟩⟩,
 ⟨267,10,⟨[.v],[.v],[],none⟩⟩,
 ⟨292,42,⟨[.v,.v,.v],[(.o .v)],[],none⟩⟩,
 ⟨314,49,⟨[.v],[(.o .v)],[],none⟩⟩,
 ⟨326,61,⟨[.v,.v,.v,(.b (.o .v)),.v],[],[3],(some (4,326,[3,4]))⟩⟩,
 ⟨349,33,⟨[.v,.v],[.v],[],none⟩⟩,
 ⟨350,41,⟨[.v,.v],[.v],[],none⟩⟩,
 ⟨355,45,⟨[.y],[.v],[],none⟩⟩,
 ⟨356,28,⟨[.v],[(.o .v),.v],[],none⟩⟩,
 ⟨359,34,⟨[.v],[(.o (.o .v))],[],none⟩⟩,
 ⟨360,35,⟨[.y,.y],[.v],[],none⟩⟩,
 ⟨365,47,⟨[.v,.v],[.v],[],none⟩⟩,
 ⟨367,53,⟨[.v,.v,.v],[.v],[],none⟩⟩,
 ⟨369,55,⟨[.y],[.v],[],none⟩⟩,
 ⟨370,44,⟨[.v,.v],[.v],[],none⟩⟩,
 ⟨371,29,⟨[.y,.y],[.v],[],none⟩⟩,
 ⟨373,50,⟨[.v],[(.o .v)],[],none⟩⟩,
 ⟨379,66,⟨[.y],[.v],[],none⟩⟩,
 ⟨400,3,⟨[.v],[.v],[],none⟩⟩,
 ⟨455,4,⟨[.v],[.v],[],none⟩⟩,
 ⟨456,5,⟨[.v],[.v],[],none⟩⟩,
 ⟨488,7,⟨[.v],[(.o .v),.v],[],none⟩⟩,
 ⟨489,11,⟨[.v],[.v],[],none⟩⟩,
 ⟨490,12,⟨[.v,.v],[.v],[],none⟩⟩,
 ⟨491,13,⟨[.v],[.v],[],none⟩⟩,
 ⟨492,14,⟨[.v],[.v],[],none⟩⟩,
 ⟨493,17,⟨[.v],[(.o .v),.v],[],none⟩⟩,
 ⟨494,22,⟨[.v],[.v],[],none⟩⟩,
 ⟨495,23,⟨[.v,.v],[.v],[],none⟩⟩,
 ⟨496,24,⟨[.v],[.v],[],none⟩⟩,
 ⟨497,25,⟨[.v],[.v],[],none⟩⟩,
 ⟨501,68,⟨[.v],[(.o .v)],[],none⟩⟩,
 ⟨504,32,⟨[.v],[(.o .v)],[],none⟩⟩,
 ⟨506,40,⟨[.v],[(.o .v)],[],none⟩⟩,
 ⟨513,46,⟨[.v],[.v],[],none⟩⟩,
 ⟨514,51,⟨[.v],[.v],[],none⟩⟩,
 ⟨518,56,⟨[.v],[.v],[],none⟩⟩,
 ⟨519,62,⟨[.v],[.v,.v,.v],[],none⟩⟩]
theorem tabOk:tabOK Try.prog tab=true:=by kernel_rfl
theorem mixed:Try.prog.follows .mixedOrders=true:=Try.checked.mixed
abbrev K:=KS Try.prog tab
theorem hz {k:Nat} {r:Row} {vt:VT} {hl:HL} {fn:Func} {f:IF} (nt:Nat) (io:List Nat) (fb:Option (Nat×Nat×List Nat)) (hr:rowOf tab k=some r) (hfn:Try.prog.funcs[r.f]?=some fn) (ht:trF (cfOf Try.prog tab nt io fb) (sgOf tab) vt hl fn r.s=some f):Has K k f:=⟨fun _ _ hb=>KS.of_body tabOk mixed hr ht hfn hb⟩
theorem t22:Has K 22 ir_spec_l1In:=hz (r:=⟨22,6,⟨[.v,.v,.v],[.v],[],none⟩⟩) (vt:=[(0,.v),(1,.v),(2,.v),(6,.v)]) (hl:=[(7,[]),(8,[])]) 15 [] none rfl Try.func6 (by kernel_rfl)
theorem t23:Has K 23 ir_impl_within:=hz (r:=⟨23,16,⟨[.v,.v,.v],[.v],[],none⟩⟩) (vt:=[(0,.v),(1,.v),(2,.v),(6,.v)]) (hl:=[(7,[]),(8,[])]) 15 [] none rfl Try.func16 (by kernel_rfl)
theorem t24:Has K 24 ir_spec_l3Binomial:=hz (r:=⟨24,31,⟨[.v,.v],[.v],[],none⟩⟩) (vt:=[(0,.v),(1,.v),(4,.v),(5,.v),(6,.v),(9,.v)]) (hl:=[(3,[]),(11,[]),(27,[]),(59,[]),(27,[]),(27,[]),(4,[])]) 21 [] none rfl Try.func31 (by kernel_rfl)
theorem t25:Has K 25 ir_impl_choose:=hz (r:=⟨25,39,⟨[.v,.v],[.v],[],none⟩⟩) (vt:=[(0,.v),(1,.v),(4,.v),(5,.v),(6,.v),(13,.v),(16,.v)]) (hl:=[(3,[]),(35,[]),(4,[]),(11,[]),(27,[]),(91,[]),(27,[]),(27,[]),(4,[])]) 29 [] none rfl Try.func39 (by kernel_rfl)
theorem t27:Has K 27 ir_impl_BallotNumber:=hz (r:=⟨27,37,⟨[.v,.v],[.v],[],none⟩⟩) (vt:=[(0,.v),(1,.v),(4,.v),(5,(.o .v)),(6,.v),(7,.v),(8,(.o .v)),(9,.v),(18,.v),(23,.v),(24,.v),(25,.v),(33,.v),(42,.v),(54,.v)]) (hl:=[(3,[]),(259,[]),(4,[]),(11,[0,0,1,0]),(1547,[]),(3595,[]),(1563,[]),(1547,[]),(1547,[]),(43,[]),(4139,[]),(107,[0,0,1,0]),(235,[]),(8427,[]),(235,[]),(16619,[]),(235,[]),(235,[]),(43,[]),(43,[]),(4,[])]) 73 [] none rfl Try.func37 (by kernel_rfl)
theorem t28:Has K 28 ir_impl_CatalanNumber:=hz (r:=⟨28,20,⟨[.v],[.v],[],none⟩⟩) (vt:=[(0,.v),(2,.v),(5,.v)]) (hl:=[(1,[]),(5,[]),(2,[]),(2,[])]) 9 [] none rfl Try.func20 (by kernel_rfl)
theorem t64:Has K 64 ir_spec_IsDyck:=hz (r:=⟨64,43,⟨[.v],[.v],[],none⟩⟩) (vt:=[(0,.v),(2,.v),(3,.v),(4,.v),(8,.v),(13,.v),(14,.v),(18,.v),(23,.v)]) (hl:=[(1,[]),(5,[]),(13,[]),(29,[]),(45,[]),(109,[]),(13,[]),(141,[]),(13,[]),(2,[]),(269,[]),(2,[]),(13,[]),(2,[])]) 31 [] none rfl Try.func43 (by kernel_rfl)
theorem t67:Has K 67 ir_impl_IsDyck:=hz (r:=⟨67,67,⟨[.v],[.v],[],none⟩⟩) (vt:=[(0,.v),(2,.v),(4,.v),(7,.v)]) (hl:=[(1,[]),(9,[]),(2,[]),(4,[]),(2,[])]) 14 [] none rfl Try.func67 (by kernel_rfl)
theorem t79:Has K 79 ir_spec_CatalanNumber:=hz (r:=⟨79,9,⟨[.v],[.v],[],none⟩⟩) (vt:=[(0,.v),(2,.v),(5,.v)]) (hl:=[(1,[]),(5,[]),(2,[]),(2,[])]) 9 [] none rfl Try.func9 (by kernel_rfl)
theorem t82:Has K 82 ir_impl_heights:=hz (r:=⟨82,71,⟨[.v],[(.o .v),.v],[],none⟩⟩) (vt:=[(0,.v),(2,(.o .v)),(3,.v),(4,(.o .v)),(5,.v),(6,.v),(11,.v),(16,.v),(17,.v),(21,.v),(26,.v)]) (hl:=[(1,[1,0]),(9,[1,0]),(25,[]),(57,[]),(121,[]),(185,[]),(441,[]),(57,[]),(569,[]),(57,[]),(6,[1,0]),(1081,[]),(6,[1,0]),(57,[]),(57,[]),(6,[])]) 34 [] none rfl Try.func71 (by kernel_rfl)
theorem t84:Has K 84 ir_spec_l3Ways:=hz (r:=⟨84,30,⟨[.v,.v],[.v],[],none⟩⟩) (vt:=[(0,.v),(1,.v),(4,.v),(5,(.o (.o .v))),(6,.v),(7,.v),(11,.v),(23,.v),(49,.v),(58,.v)]) (hl:=[(3,[]),(11,[2,0]),(27,[]),(91,[]),(27,[0,0,0,1,2,0,0]),(59,[]),(187,[]),(315,[]),(59,[0,0,0,1,0,0,0]),(571,[]),(59,[0,0,0,1,0,0,0,0,0,0,0,0,0,0,0]),(59,[0,0,0,1,0,0,0,0,0,0,0,0,0,0,0,0,0,0,0,0,0,0,0,0]),(59,[]),(27,[]),(4,[])]) 83 [] none rfl Try.func30 (by kernel_rfl)
theorem t137:Has K 137 ir_spec_l34Numbers:=hz (r:=⟨137,15,⟨[.y],[.v],[],none⟩⟩) (vt:=[(0,.y),(2,.v),(3,.v),(4,.v),(8,.v),(12,.v),(23,.v)]) (hl:=[(1,[]),(5,[]),(13,[]),(29,[]),(45,[]),(13,[]),(13,[]),(13,[]),(68,[]),(2,[]),(2,[])]) 25 [] none rfl Try.func15 (by kernel_rfl)
theorem t138:Has K 138 ir_spec_FormatInt:=hz (r:=⟨138,8,⟨[.v],[.v],[],none⟩⟩) (vt:=[(0,.v),(2,.v),(3,.v),(4,.v),(5,.v),(7,.v),(11,.v),(15,.v),(27,.v)]) (hl:=[(1,[]),(33,[]),(2,[]),(5,[]),(13,[]),(77,[]),(29,[]),(157,[]),(29,[]),(13,[]),(13,[]),(260,[]),(2,[]),(2,[])]) 31 [] none rfl Try.func8 (by kernel_rfl)
theorem t141:Has K 141 ir_impl_line:=hz (r:=⟨141,18,⟨[.y],[.v],[],none⟩⟩) (vt:=[(0,.y),(2,.v)]) (hl:=[(1,[]),(2,[])]) 5 [] none rfl Try.func18 (by kernel_rfl)
theorem t142:Has K 142 ir_impl_list:=hz (r:=⟨142,26,⟨[.y],[.v],[],none⟩⟩) (vt:=[(0,.y),(2,.v),(3,(.o .v)),(5,.v),(8,.v),(10,.y),(11,.v),(12,.v),(13,.v)]) (hl:=[(1,[]),(17,[]),(2,[]),(5,[1,0]),(228,[]),(484,[]),(236,[]),(228,[]),(228,[]),(2,[])]) 24 [] none rfl Try.func26 (by kernel_rfl)
theorem t143:Has K 143 ir_impl_FormatInt:=hz (r:=⟨143,19,⟨[.v],[.v],[],none⟩⟩) (vt:=[(0,.v),(2,.v),(3,(.o .v)),(4,.v),(5,.v),(6,.v),(7,.v),(9,.v),(13,.v),(19,.v),(29,.v),(38,.v)]) (hl:=[(1,[]),(129,[]),(2,[]),(5,[1,0]),(13,[]),(269,[]),(29,[]),(541,[]),(29,[]),(13,[]),(13,[]),(1028,[]),(4,[]),(100,[]),(2148,[]),(100,[0,0,0,0,0,0,0,0,0,0,0,0,0,5,0,5]),(100,[]),(2,[])]) 59 [] none rfl Try.func19 (by kernel_rfl)
theorem t160:Has K 160 ir_spec_IsBinary:=hz (r:=⟨160,57,⟨[.v],[.v],[],none⟩⟩) (vt:=[(0,.v),(2,.v)]) (hl:=[(1,[]),(2,[])]) 17 [] none rfl Try.func57 (by kernel_rfl)
theorem t162:Has K 162 ir_spec_NodesOf:=hz (r:=⟨162,58,⟨[.v],[.v],[],none⟩⟩) (vt:=[(0,.v),(2,.v),(5,.v)]) (hl:=[(1,[]),(5,[]),(2,[]),(2,[])]) 10 [] none rfl Try.func58 (by kernel_rfl)
theorem t164:Has K 164 ir_spec_WeightsOf:=hz (r:=⟨164,48,⟨[.v],[(.o .v)],[],none⟩⟩) (vt:=[(0,.v),(2,(.o .v)),(3,(.o .v)),(4,.v),(5,.v),(6,.v),(11,.v)]) (hl:=[(1,[1]),(5,[1,0]),(13,[]),(77,[]),(29,[]),(61,[]),(13,[]),(13,[]),(2,[])]) 30 [] none rfl Try.func48 (by kernel_rfl)
theorem t169:Has K 169 ir_impl_NodesOf:=hz (r:=⟨169,63,⟨[.v],[.v],[],none⟩⟩) (vt:=[(0,.v),(2,.v),(3,.v),(4,.v),(11,.v)]) (hl:=[(1,[]),(12,[]),(20,[]),(2,[]),(2,[])]) 14 [] none rfl Try.func63 (by kernel_rfl)
theorem t171:Has K 171 ir_impl_WeightsOf:=hz (r:=⟨171,54,⟨[.v],[(.o .v)],[],none⟩⟩) (vt:=[(0,.v),(2,(.o .v)),(3,.v)]) (hl:=[(1,[1]),(4,[]),(2,[0,1,0,0])]) 13 [] none rfl Try.func54 (by kernel_rfl)
theorem t184:Has K 184 ir_impl_glued:=hz (r:=⟨184,36,⟨[.y,.v],[.v],[],none⟩⟩) (vt:=[(0,.y),(1,.v),(4,.v),(5,.v),(6,.v),(7,.v),(8,.y),(9,.v),(10,.v),(11,.v),(16,.v)]) (hl:=[(3,[]),(11,[]),(458,[]),(970,[]),(506,[]),(1514,[]),(490,[]),(458,[]),(458,[]),(4,[])]) 25 [] none rfl Try.func36 (by kernel_rfl)
theorem t188:Has K 188 ir_spec_l6End:=hz (r:=⟨188,60,⟨[.v,.v],[.v],[],none⟩⟩) (vt:=[(0,.v),(1,.v),(4,.v),(5,.v),(6,.v),(10,.v),(14,.v),(20,.v),(26,.v),(43,.v)]) (hl:=[(3,[]),(35,[]),(4,[]),(67,[]),(4,[]),(131,[]),(4,[]),(9,[]),(265,[]),(4,[]),(17,[]),(528,[]),(4,[]),(4,[])]) 46 [] none rfl Try.func60 (by kernel_rfl)
theorem t191:Has K 191 ir_spec_l16Node:=hz (r:=⟨191,59,⟨[.v,.v],[.v],[],none⟩⟩) (vt:=[(0,.v),(1,.v),(4,.v),(5,.v),(6,.v),(7,.v),(17,.v),(24,.v)]) (hl:=[(3,[]),(11,[]),(27,[]),(59,[]),(123,[]),(4,[]),(171,[]),(4,[]),(4,[])]) 40 [] none rfl Try.func59 (by kernel_rfl)
theorem t194:Has K 194 ir_impl_parseTree:=hz (r:=⟨194,64,⟨[.v],[.v,.v],[],none⟩⟩) (vt:=[(0,.v),(2,.v),(3,.v),(4,.v),(5,.v),(8,.v),(22,.v)]) (hl:=[(1,[]),(33,[]),(6,[]),(25,[]),(72,[]),(6,[]),(6,[])]) 24 [] none rfl Try.func64 (by kernel_rfl)
theorem t196:Has K 196 ir_impl_tree_text:=hz (r:=⟨196,52,⟨[.v],[.v],[],none⟩⟩) (vt:=[(0,.v),(2,.v),(4,.v)]) (hl:=[(1,[]),(5,[]),(2,[]),(2,[])]) 18 [] none rfl Try.func52 (by kernel_rfl)
theorem t197:Has K 197 ir_impl_tree_nodes:=hz (r:=⟨197,69,⟨[.v],[.v],[],none⟩⟩) (vt:=[(0,.v),(2,.v),(4,.v)]) (hl:=[(1,[]),(5,[]),(2,[]),(2,[])]) 17 [] none rfl Try.func69 (by kernel_rfl)
theorem t199:Has K 199 ir_impl_tree_weights:=hz (r:=⟨199,65,⟨[.v,(.o .v)],[(.o .v)],[],none⟩⟩) (vt:=[(0,.v),(1,(.o .v)),(4,(.o .v)),(6,.v)]) (hl:=[(3,[1]),(11,[]),(4,[]),(4,[])]) 26 [] none rfl Try.func65 (by kernel_rfl)
theorem t208:Has K 208 ir_impl_readTree:=hz (r:=⟨208,70,⟨[.v,.v],[.v,.v],[],none⟩⟩) (vt:=[(0,.v),(1,.v),(4,.v),(5,.v),(6,.v),(7,.v),(8,.v),(9,.v),(13,.v),(16,.v),(17,.v),(21,.v),(31,.v),(51,.v)]) (hl:=[(3,[]),(259,[]),(12,[]),(515,[]),(1539,[]),(12,[]),(2051,[]),(49,[]),(4145,[]),(12,[]),(209,[]),(8400,[]),(12,[]),(12,[]),(12,[])]) 58 [] none rfl Try.func70 (by kernel_rfl)
theorem t234:Has K 234 ir_spec_PathsOf:=hz (r:=⟨234,27,⟨[.v],[(.o .v)],[],none⟩⟩) (vt:=[(0,.v),(2,(.o .v)),(5,.v)]) (hl:=[(1,[1]),(5,[]),(2,[1,0]),(2,[])]) 10 [] none rfl Try.func27 (by kernel_rfl)
theorem t256:Has K 256 ir_impl_MotzkinNumber:=hz (r:=⟨256,21,⟨[.v],[.v],[],none⟩⟩) (vt:=[(0,.v),(2,.v),(3,(.o .v)),(4,(.o .v)),(5,.v),(8,.v),(14,.v),(15,.v),(16,.v),(22,.v),(39,.v)]) (hl:=[(1,[]),(33,[]),(2,[]),(5,[0,0,1,0]),(5,[]),(197,[]),(453,[]),(205,[0,0,1,0]),(221,[]),(733,[]),(221,[]),(1245,[]),(221,[]),(221,[]),(197,[]),(197,[]),(2,[])]) 58 [] none rfl Try.func21 (by kernel_rfl)
theorem t267:Has K 267 ir_spec_MotzkinNumber:=hz (r:=⟨267,10,⟨[.v],[.v],[],none⟩⟩) (vt:=[(0,.v),(2,.v),(3,(.o .v)),(4,.v),(5,.v),(6,.v),(9,.v),(13,.v),(24,.v)]) (hl:=[(1,[]),(65,[]),(2,[]),(5,[1,0]),(13,[]),(141,[]),(29,[]),(61,[]),(317,[]),(61,[]),(61,[]),(13,[]),(13,[]),(2,[])]) 49 [] none rfl Try.func10 (by kernel_rfl)
theorem t292:Has K 292 ir_spec_l3All:=hz (r:=⟨292,42,⟨[.v,.v,.v],[(.o .v)],[],none⟩⟩) (vt:=[(0,.v),(1,.v),(2,.v),(6,(.o .v)),(7,(.o .v)),(9,.v),(14,.v),(25,.v)]) (hl:=[(7,[1]),(39,[]),(8,[0,1,0]),(23,[1,0]),(87,[]),(23,[]),(151,[]),(16,[]),(8,[])]) 35 [] none rfl Try.func42 (by kernel_rfl)
theorem t314:Has K 314 ir_impl_allPaths:=hz (r:=⟨314,49,⟨[.v],[(.o .v)],[],none⟩⟩) (vt:=[(0,.v),(2,(.o .v)),(3,(.b (.o .v))),(4,(.b .v))]) (hl:=[(1,[1]),(5,[1,1,0]),(13,[]),(13,[77777,0,0]),(4,[0,0,0,326]),(2,[1,0])]) 12 [] none rfl Try.func49 (by kernel_rfl)
theorem t326:Has K 326 ir_impl_allPaths_f1:=hz (r:=⟨326,61,⟨[.v,.v,.v,(.b (.o .v)),.v],[],[3],(some (4,326,[3,4]))⟩⟩) (vt:=[(0,.v),(1,.v),(2,.v),(3,(.b (.o .v))),(4,.v),(13,.v),(19,.v),(29,.v)]) (hl:=[(63,[]),(8,[1,0,0,0,0]),(95,[]),(31,[0,0,0,0,0,0,326]),(159,[]),(8,[0,0,0,0,0,0,326])]) 37 [3] (some (4,326,[3,4])) rfl Try.func61 (by kernel_rfl)
theorem t349:Has K 349 ir_spec_IsTamariLess:=hz (r:=⟨349,33,⟨[.v,.v],[.v],[],none⟩⟩) (vt:=[(0,.v),(1,.v),(4,.v),(5,.v),(6,.v),(7,.v),(11,.v),(19,.v),(30,.v)]) (hl:=[(3,[]),(67,[]),(4,[]),(10,[]),(24,[]),(56,[]),(184,[]),(312,[]),(4,[]),(56,[]),(4,[])]) 31 [] none rfl Try.func33 (by kernel_rfl)
theorem t350:Has K 350 ir_impl_IsTamariLess:=hz (r:=⟨350,41,⟨[.v,.v],[.v],[],none⟩⟩) (vt:=[(0,.v),(1,.v),(4,.v),(5,.v),(6,.v),(7,.v),(11,.v),(17,.v),(18,.v),(19,.v),(29,.v)]) (hl:=[(3,[]),(67,[]),(4,[]),(24,[]),(408,[]),(920,[]),(440,[]),(1432,[]),(4,[]),(408,[]),(4,[])]) 31 [] none rfl Try.func41 (by kernel_rfl)
theorem t355:Has K 355 ir_spec_IsNoncrossingMatching:=hz (r:=⟨355,45,⟨[.y],[.v],[],none⟩⟩) (vt:=[(0,.y),(2,.v)]) (hl:=[(1,[]),(2,[])]) 6 [] none rfl Try.func45 (by kernel_rfl)
theorem t356:Has K 356 ir_spec_MatchingOf:=hz (r:=⟨356,28,⟨[.v],[(.o .v),.v],[],none⟩⟩) (vt:=[(0,.v),(2,(.o .v)),(3,.v),(4,(.o .v)),(5,.v),(14,.v)]) (hl:=[(1,[1,0]),(9,[1,0]),(25,[]),(57,[]),(25,[]),(25,[]),(6,[])]) 26 [] none rfl Try.func28 (by kernel_rfl)
theorem t359:Has K 359 ir_impl_matchings:=hz (r:=⟨359,34,⟨[.v],[(.o (.o .v))],[],none⟩⟩) (vt:=[(0,.v),(2,(.o (.o .v))),(3,(.o (.o .v))),(5,.v),(8,.v),(9,.v),(10,.v),(11,.v)]) (hl:=[(1,[2]),(5,[2,0]),(116,[]),(244,[]),(124,[]),(116,[0,0,0,2,0,0]),(116,[]),(2,[])]) 21 [] none rfl Try.func34 (by kernel_rfl)
theorem t360:Has K 360 ir_impl_cycles:=hz (r:=⟨360,35,⟨[.y,.y],[.v],[],none⟩⟩) (vt:=[(0,.y),(1,.y),(4,.v),(5,(.o .v)),(6,.v),(7,.v),(8,.v),(13,.v),(14,.v),(15,.v),(20,.v),(28,.v)]) (hl:=[(3,[]),(11,[0,0,1,0]),(27,[]),(411,[]),(923,[]),(443,[]),(1467,[]),(443,[]),(475,[]),(2523,[]),(475,[]),(475,[]),(475,[]),(411,[]),(4,[])]) 47 [] none rfl Try.func35 (by kernel_rfl)
theorem t365:Has K 365 ir_spec_l17Fit:=hz (r:=⟨365,47,⟨[.v,.v],[.v],[],none⟩⟩) (vt:=[(0,.v),(1,.v),(4,.v)]) (hl:=[(3,[]),(4,[])]) 18 [] none rfl Try.func47 (by kernel_rfl)
theorem t367:Has K 367 ir_impl_alike:=hz (r:=⟨367,53,⟨[.v,.v,.v],[.v],[],none⟩⟩) (vt:=[(0,.v),(1,.v),(2,.v),(6,.v),(7,.v)]) (hl:=[(7,[]),(22,[]),(8,[])]) 23 [] none rfl Try.func53 (by kernel_rfl)
theorem t369:Has K 369 ir_spec_CrossingsOf:=hz (r:=⟨369,55,⟨[.y],[.v],[],none⟩⟩) (vt:=[(0,.y),(2,.v),(3,.v),(4,.v),(5,.v),(8,.v),(12,.v),(20,.v),(39,.v)]) (hl:=[(1,[]),(33,[]),(2,[]),(5,[]),(13,[]),(77,[]),(29,[]),(157,[]),(285,[]),(29,[]),(29,[]),(13,[]),(2,[])]) 43 [] none rfl Try.func55 (by kernel_rfl)
theorem t370:Has K 370 ir_spec_l4Partner:=hz (r:=⟨370,44,⟨[.v,.v],[.v],[],none⟩⟩) (vt:=[(0,.v),(1,.v),(4,.v),(5,.v),(6,.v),(7,.v),(11,.v),(16,.v),(22,.v),(28,.v),(32,.v),(38,.v),(44,.v)]) (hl:=[(3,[]),(11,[]),(75,[]),(27,[]),(155,[]),(283,[]),(27,[]),(27,[]),(539,[]),(4,[]),(27,[]),(41,[]),(1065,[]),(2089,[]),(41,[]),(41,[]),(4137,[]),(4,[]),(41,[]),(4,[])]) 46 [] none rfl Try.func44 (by kernel_rfl)
theorem t371:Has K 371 ir_spec_LoopsOf:=hz (r:=⟨371,29,⟨[.y,.y],[.v],[],none⟩⟩) (vt:=[(0,.y),(1,.y),(4,.v),(5,(.o .v)),(6,.v),(7,.v),(8,.v),(23,.v),(30,.v),(36,.v),(44,.v)]) (hl:=[(3,[]),(131,[]),(4,[]),(11,[0,0,1,0]),(27,[]),(59,[]),(315,[]),(571,[]),(59,[]),(123,[]),(1147,[]),(123,[]),(123,[]),(123,[]),(59,[]),(4,[])]) 62 [] none rfl Try.func29 (by kernel_rfl)
theorem t373:Has K 373 ir_impl_partners:=hz (r:=⟨373,50,⟨[.v],[(.o .v)],[],none⟩⟩) (vt:=[(0,.v),(2,(.o .v)),(3,(.o .v)),(4,(.o .v)),(5,.v),(6,.v),(14,.v),(20,.v)]) (hl:=[(1,[1]),(5,[0,0,1,0]),(13,[1,0]),(29,[]),(93,[]),(157,[]),(29,[]),(61,[]),(61,[]),(61,[]),(29,[]),(29,[]),(2,[])]) 45 [] none rfl Try.func50 (by kernel_rfl)
theorem t379:Has K 379 ir_spec_IsMatching:=hz (r:=⟨379,66,⟨[.y],[.v],[],none⟩⟩) (vt:=[(0,.y),(2,.v),(3,.v),(7,.v),(37,.v)]) (hl:=[(1,[]),(5,[]),(13,[]),(21,[]),(2,[]),(5,[]),(2,[])]) 41 [] none rfl Try.func66 (by kernel_rfl)
theorem t400:Has K 400 ir_laws_FnExactCountLine:=hz (r:=⟨400,3,⟨[.v],[.v],[],none⟩⟩) (vt:=[(0,.v),(2,.v),(3,.v),(4,.v),(11,.v)]) (hl:=[(1,[]),(5,[]),(12,[]),(16,[]),(2,[]),(2,[])]) 12 [] none rfl Try.func3 (by kernel_rfl)
theorem t455:Has K 455 ir_spec_CountLine:=hz (r:=⟨455,4,⟨[.v],[.v],[],none⟩⟩) (vt:=[(0,.v),(2,.v),(3,.v),(7,.v)]) (hl:=[(1,[]),(9,[]),(2,[]),(5,[]),(2,[])]) 50 [] none rfl Try.func4 (by kernel_rfl)
theorem t456:Has K 456 ir_impl_CountLine:=hz (r:=⟨456,5,⟨[.v],[.v],[],none⟩⟩) (vt:=[(0,.v),(2,.v),(3,.v),(7,.v)]) (hl:=[(1,[]),(9,[]),(2,[]),(5,[]),(2,[])]) 37 [] none rfl Try.func5 (by kernel_rfl)
theorem t488:Has K 488 ir_spec_LoopTable:=hz (r:=⟨488,7,⟨[.v],[(.o .v),.v],[],none⟩⟩) (vt:=[(0,.v),(2,(.o .v)),(3,.v),(4,.v),(5,(.o .v)),(6,.v),(7,.v),(9,(.o .v)),(10,.v),(11,.v),(12,.v),(15,.v),(23,.v),(44,.v),(50,.v)]) (hl:=[(1,[1,0]),(2049,[]),(6,[1,0,0]),(9,[]),(25,[1,0]),(57,[]),(4153,[]),(121,[]),(57,[]),(57,[]),(144,[0,0,1,0]),(400,[]),(8592,[]),(912,[]),(17296,[]),(1936,[]),(912,[]),(912,[]),(400,[]),(6,[])]) 71 [] none rfl Try.func7 (by kernel_rfl)
theorem t489:Has K 489 ir_spec_SchroederNumber:=hz (r:=⟨489,11,⟨[.v],[.v],[],none⟩⟩) (vt:=[(0,.v),(2,.v),(3,.v),(4,.v),(7,.v),(10,.v)]) (hl:=[(1,[]),(17,[]),(2,[]),(5,[]),(13,[]),(45,[]),(13,[]),(13,[]),(2,[])]) 26 [] none rfl Try.func11 (by kernel_rfl)
theorem t490:Has K 490 ir_spec_FussNumber:=hz (r:=⟨490,12,⟨[.v,.v],[.v],[],none⟩⟩) (vt:=[(0,.v),(1,.v),(4,.v),(12,.v)]) (hl:=[(3,[]),(11,[]),(4,[]),(4,[])]) 24 [] none rfl Try.func12 (by kernel_rfl)
theorem t491:Has K 491 ir_spec_CountParking:=hz (r:=⟨491,13,⟨[.v],[.v],[],none⟩⟩) (vt:=[(0,.v),(2,.v),(3,.v),(4,.v),(7,.v),(10,.v)]) (hl:=[(1,[]),(17,[]),(2,[]),(5,[]),(13,[]),(45,[]),(13,[]),(13,[]),(2,[])]) 18 [] none rfl Try.func13 (by kernel_rfl)
theorem t492:Has K 492 ir_spec_CountIntervals:=hz (r:=⟨492,14,⟨[.v],[.v],[],none⟩⟩) (vt:=[(0,.v),(2,.v),(3,.v),(4,.v),(5,.v),(6,.v),(9,.v),(15,.v),(21,.v),(32,.v)]) (hl:=[(1,[]),(65,[]),(2,[]),(4,[]),(12,[]),(28,[]),(156,[]),(60,[]),(316,[]),(572,[]),(60,[]),(60,[]),(28,[]),(2,[])]) 36 [] none rfl Try.func14 (by kernel_rfl)
theorem t493:Has K 493 ir_impl_LoopTable:=hz (r:=⟨493,17,⟨[.v],[(.o .v),.v],[],none⟩⟩) (vt:=[(0,.v),(2,(.o .v)),(3,.v),(4,(.o .v)),(5,.v),(7,.v),(9,.v),(12,.v),(19,.v),(20,.v),(21,.v),(22,.v),(25,.v),(26,.v),(27,.v),(28,.v)]) (hl:=[(1,[1,0]),(129,[]),(6,[1,0,0]),(9,[0,0,1,0]),(24,[]),(1816,[]),(3864,[]),(1848,[]),(30520,[]),(63288,[]),(30584,[]),(30520,[]),(30520,[]),(1816,[]),(6,[])]) 42 [] none rfl Try.func17 (by kernel_rfl)
theorem t495:Has K 495 ir_impl_FussNumber:=hz (r:=⟨495,23,⟨[.v,.v],[.v],[],none⟩⟩) (vt:=[(0,.v),(1,.v),(4,.v),(12,.v)]) (hl:=[(3,[]),(11,[]),(4,[]),(4,[])]) 24 [] none rfl Try.func23 (by kernel_rfl)
theorem t496:Has K 496 ir_impl_CountParking:=hz (r:=⟨496,24,⟨[.v],[.v],[],none⟩⟩) (vt:=[(0,.v),(2,.v),(3,.v),(4,.v),(5,.v),(9,.v),(14,.v)]) (hl:=[(1,[]),(17,[]),(2,[]),(33,[]),(2,[]),(5,[]),(13,[]),(77,[]),(13,[]),(13,[]),(2,[])]) 22 [] none rfl Try.func24 (by kernel_rfl)
theorem t497:Has K 497 ir_impl_CountIntervals:=hz (r:=⟨497,25,⟨[.v],[.v],[],none⟩⟩) (vt:=[(0,.v),(2,.v),(3,.v),(4,.v),(6,.v),(8,.v),(11,.v),(14,.v),(15,.v),(16,.v),(17,.v),(20,.v),(21,.v),(22,.v),(23,.v),(28,.v)]) (hl:=[(1,[]),(65,[]),(2,[]),(5,[]),(12,[]),(908,[]),(1932,[]),(924,[]),(15260,[]),(31644,[]),(15292,[]),(48028,[]),(15260,[]),(15260,[]),(908,[]),(2,[])]) 34 [] none rfl Try.func25 (by kernel_rfl)
theorem t501:Has K 501 ir_impl_HeightsOf:=hz (r:=⟨501,68,⟨[.v],[(.o .v)],[],none⟩⟩) (vt:=[(0,.v),(2,(.o .v)),(3,(.o .v)),(7,.v)]) (hl:=[(1,[1]),(9,[]),(2,[1,0]),(4,[]),(2,[])]) 15 [] none rfl Try.func68 (by kernel_rfl)
theorem t504:Has K 504 ir_spec_l17Trees:=hz (r:=⟨504,32,⟨[.v],[(.o .v)],[],none⟩⟩) (vt:=[(0,.v),(2,(.o .v)),(3,(.o .v)),(4,.v),(5,.v),(12,.v)]) (hl:=[(1,[1]),(5,[1,0]),(12,[]),(28,[]),(60,[]),(28,[]),(28,[]),(2,[])]) 24 [] none rfl Try.func32 (by kernel_rfl)
theorem t506:Has K 506 ir_impl_treesOf:=hz (r:=⟨506,40,⟨[.v],[(.o .v)],[],none⟩⟩) (vt:=[(0,.v),(2,(.o .v)),(3,(.o .v)),(5,.v),(8,.v),(9,.v),(10,.v),(11,.v)]) (hl:=[(1,[1]),(5,[1,0]),(116,[]),(244,[]),(124,[]),(116,[]),(116,[]),(2,[])]) 22 [] none rfl Try.func40 (by kernel_rfl)
theorem t513:Has K 513 ir_spec_l6Binary:=hz (r:=⟨513,46,⟨[.v],[.v],[],none⟩⟩) (vt:=[(0,.v),(2,.v),(3,.v),(5,.v)]) (hl:=[(1,[]),(9,[]),(2,[]),(5,[]),(2,[])]) 20 [] none rfl Try.func46 (by kernel_rfl)
theorem t514:Has K 514 ir_impl_treeOfPath:=hz (r:=⟨514,51,⟨[.v],[.v],[],none⟩⟩) (vt:=[(0,.v),(2,.v),(3,.v),(4,.v),(5,.v),(13,.v)]) (hl:=[(1,[]),(28,[]),(44,[]),(2,[]),(2,[])]) 20 [] none rfl Try.func51 (by kernel_rfl)
theorem t518:Has K 518 ir_spec_l2Cut:=hz (r:=⟨518,56,⟨[.v],[.v],[],none⟩⟩) (vt:=[(0,.v),(2,.v),(3,.v),(4,.v),(8,.v),(14,.v),(20,.v)]) (hl:=[(1,[]),(5,[]),(13,[]),(29,[]),(45,[]),(13,[]),(13,[]),(77,[]),(2,[]),(13,[]),(2,[])]) 22 [] none rfl Try.func56 (by kernel_rfl)
theorem t519:Has K 519 ir_impl_FirstReturn:=hz (r:=⟨519,62,⟨[.v],[.v,.v,.v],[],none⟩⟩) (vt:=[(0,.v),(2,.v),(3,.v),(4,.v),(5,.v),(6,.v),(13,.v),(20,.v)]) (hl:=[(1,[]),(65,[]),(14,[]),(17,[]),(49,[]),(177,[]),(49,[]),(14,[])]) 30 [] none rfl Try.func62 (by kernel_rfl)
instance:HA K:=⟨t22,t23,t24,t25,t27,t28,t64,t67,t79,t82,t84,t137,t138,t141,t142,t143,t160,t162,t164,t169,t171,t184,t188,t191,t194,t196,t197,t199,t208,t234,t256,t267,t292,t314,t326,t349,t350,t355,t356,t359,t360,t365,t367,t369,t370,t371,t373,t379,t400,t455,t456,t488,t489,t490,t491,t492,t493,t495,t496,t497,t501,t504,t506,t513,t514,t518,t519⟩
end Go.Proofs.Ytfoiofhilbdlaaa.fnExactCountLine
