/-
 Texts of the little language.
-/
import Derived.Test.YtgncagjobmbmaaaIrHas
import Derived.Test.YtgncagjobmbmaaaRows
import Derived.Test.YtgncagjobmbmaaaCatThree
import Derived.Test.YtgncagjobmbmaaaCatFour
set_option linter.unusedSimpArgs false
set_option linter.unusedVariables false
namespace Go.Proofs.Ytgncagjobmbmaaa.fnExactTreeLine
open Go Go.Cat Go.Proofs
set_option maxRecDepth 100000
def tab:List Row:=[⟨22,79,⟨[.v,.v,.v],[.v],[],none⟩⟩,
 ⟨96,7,⟨[.v],[.v],[],none⟩⟩,
 ⟨124,23,⟨[.v],[.v],[],none⟩⟩,
 ⟨125,24,⟨[.v],[.v],[],none⟩⟩,
 ⟨137,46,⟨[.y],[.v],[],none⟩⟩,
 ⟨138,47,⟨[.v],[.v],[],none⟩⟩,
 ⟨141,50,⟨[.y],[.v],[],none⟩⟩,
 ⟨142,51,⟨[.y],[.v],[],none⟩⟩,
 ⟨143,52,⟨[.v],[.v],[],none⟩⟩,
 ⟨160,54,⟨[.v],[.v],[],none⟩⟩,
 ⟨161,55,⟨[.v],[.v,.v],[],none⟩⟩,
 ⟨162,28,⟨[.v],[.v],[],none⟩⟩,
 ⟨163,56,⟨[.v],[.v],[],none⟩⟩,
 ⟨164,57,⟨[.v],[(.o .v)],[],none⟩⟩,
 ⟨165,58,⟨[.v],[.v],[],none⟩⟩,
 ⟨166,59,⟨[.v],[(.o .v)],[],none⟩⟩,
 ⟨167,60,⟨[.v],[.v],[],none⟩⟩,
 ⟨168,61,⟨[.v],[.v,.v],[],none⟩⟩,
 ⟨169,62,⟨[.v],[.v],[],none⟩⟩,
 ⟨170,63,⟨[.v],[.v],[],none⟩⟩,
 ⟨171,64,⟨[.v],[(.o .v)],[],none⟩⟩,
 ⟨172,65,⟨[.v],[.v],[],none⟩⟩,
 ⟨173,66,⟨[.v],[(.o .v)],[],none⟩⟩,
 ⟨184,97,⟨[.y,.v],[.v],[],none⟩⟩,
 ⟨188,81,⟨[.v,.v],[.v],[],none⟩⟩,
 ⟨189,99,⟨[.v],[.v],[],none⟩⟩,
 ⟨190,100,⟨[.v],[(.o .v)],[],none⟩⟩,
 ⟨191,80,⟨[.v,.v],[.v],[],none⟩⟩,
 ⟨192,29,⟨[.v,.v],[.v,.v],[],none⟩⟩,
 ⟨193,101,⟨[.v,.v],[.v,.v],[],none⟩⟩,
 ⟨194,102,⟨[.v],[.v,.v],[],none⟩⟩,
 ⟨195,103,⟨[.v],[.v],[],none⟩⟩,
 ⟨196,84,⟨[.v],[.v],[],none⟩⟩,
 ⟨197,104,⟨[.v],[.v],[],none⟩⟩,
 ⟨198,105,⟨[.v],[(.o .v)],[],none⟩⟩,
 ⟨199,106,⟨[.v,(.o .v)],[(.o .v)],[],none⟩⟩,
 ⟨200,32,⟨[.v,.v],[.v,.v],[],none⟩⟩,
 ⟨201,31,⟨[.v,.v],[(.o .v)],[],none⟩⟩,
 ⟨202,107,⟨[.v,.v],[.v,.v],[],none⟩⟩,
 ⟨207,82,⟨[.v,.v,.v],[.v],[],none⟩⟩,
 ⟨208,124,⟨[.v,.v],[.v,.v],[],none⟩⟩,
 ⟨209,125,⟨[.v,.v,(.o .v)],[(.o .v)],[],none⟩⟩,
 ⟨210,83,⟨[.v,.v],[.v,.v],[],none⟩⟩,
 ⟨213,115,⟨[.v,.v],[.v],[],none⟩⟩]
theorem tabOk:tabOK Try.prog tab=true:=by kernel_rfl
theorem mixed:Try.prog.follows .mixedOrders=true:=Try.checked.mixed
abbrev K:=KS Try.prog tab
theorem hz {k:Nat} {r:Row} {vt:VT} {hl:HL} {fn:Func} {f:IF} (nt:Nat) (io:List Nat) (fb:Option (Nat×Nat×List Nat)) (hr:rowOf tab k=some r) (hfn:Try.prog.funcs[r.f]?=some fn) (ht:trF (cfOf Try.prog tab nt io fb) (sgOf tab) vt hl fn r.s=some f):Has K k f:=⟨fun _ _ hb=>KS.of_body tabOk mixed hr ht hfn hb⟩
theorem t22:Has K 22 ir_spec_l1In:=hz (r:=⟨22,79,⟨[.v,.v,.v],[.v],[],none⟩⟩) (vt:=[(0,.v),(1,.v),(2,.v),(6,.v)]) (hl:=[(7,[]),(8,[])]) 15 [] none rfl Try.func79 (by kernel_rfl)
theorem t96:Has K 96 ir_laws_FnExactTreeLine:=hz (r:=⟨96,7,⟨[.v],[.v],[],none⟩⟩) (vt:=[(0,.v),(2,.v),(3,.v),(4,.v),(7,.v),(14,.v)]) (hl:=[(1,[]),(17,[]),(2,[]),(5,[]),(12,[]),(32,[]),(2,[]),(2,[])]) 15 [] none rfl Try.func7 (by kernel_rfl)
theorem t124:Has K 124 ir_spec_TreeLine:=hz (r:=⟨124,23,⟨[.v],[.v],[],none⟩⟩) (vt:=[(0,.v),(2,.v),(3,.v),(7,.v)]) (hl:=[(1,[]),(9,[]),(2,[]),(5,[]),(2,[])]) 44 [] none rfl Try.func23 (by kernel_rfl)
theorem t125:Has K 125 ir_impl_TreeLine:=hz (r:=⟨125,24,⟨[.v],[.v],[],none⟩⟩) (vt:=[(0,.v),(2,.v),(3,.v),(7,.v)]) (hl:=[(1,[]),(9,[]),(2,[]),(5,[]),(2,[])]) 33 [] none rfl Try.func24 (by kernel_rfl)
theorem t137:Has K 137 ir_spec_l34Numbers:=hz (r:=⟨137,46,⟨[.y],[.v],[],none⟩⟩) (vt:=[(0,.y),(2,.v),(3,.v),(4,.v),(8,.v),(12,.v),(23,.v)]) (hl:=[(1,[]),(5,[]),(13,[]),(29,[]),(45,[]),(13,[]),(13,[]),(13,[]),(68,[]),(2,[]),(2,[])]) 25 [] none rfl Try.func46 (by kernel_rfl)
theorem t138:Has K 138 ir_spec_FormatInt:=hz (r:=⟨138,47,⟨[.v],[.v],[],none⟩⟩) (vt:=[(0,.v),(2,.v),(3,.v),(4,.v),(5,.v),(7,.v),(11,.v),(15,.v),(27,.v)]) (hl:=[(1,[]),(33,[]),(2,[]),(5,[]),(13,[]),(77,[]),(29,[]),(157,[]),(29,[]),(13,[]),(13,[]),(260,[]),(2,[]),(2,[])]) 31 [] none rfl Try.func47 (by kernel_rfl)
theorem t141:Has K 141 ir_impl_line:=hz (r:=⟨141,50,⟨[.y],[.v],[],none⟩⟩) (vt:=[(0,.y),(2,.v)]) (hl:=[(1,[]),(2,[])]) 5 [] none rfl Try.func50 (by kernel_rfl)
theorem t142:Has K 142 ir_impl_list:=hz (r:=⟨142,51,⟨[.y],[.v],[],none⟩⟩) (vt:=[(0,.y),(2,.v),(3,(.o .v)),(5,.v),(8,.v),(10,.y),(11,.v),(12,.v),(13,.v)]) (hl:=[(1,[]),(17,[]),(2,[]),(5,[1,0]),(228,[]),(484,[]),(236,[]),(228,[]),(228,[]),(2,[])]) 24 [] none rfl Try.func51 (by kernel_rfl)
theorem t143:Has K 143 ir_impl_FormatInt:=hz (r:=⟨143,52,⟨[.v],[.v],[],none⟩⟩) (vt:=[(0,.v),(2,.v),(3,(.o .v)),(4,.v),(5,.v),(6,.v),(7,.v),(9,.v),(13,.v),(19,.v),(29,.v),(38,.v)]) (hl:=[(1,[]),(129,[]),(2,[]),(5,[1,0]),(13,[]),(269,[]),(29,[]),(541,[]),(29,[]),(13,[]),(13,[]),(1028,[]),(4,[]),(100,[]),(2148,[]),(100,[0,0,0,0,0,0,0,0,0,0,0,0,0,5,0,5]),(100,[]),(2,[])]) 59 [] none rfl Try.func52 (by kernel_rfl)
theorem t160:Has K 160 ir_spec_IsBinary:=hz (r:=⟨160,54,⟨[.v],[.v],[],none⟩⟩) (vt:=[(0,.v),(2,.v)]) (hl:=[(1,[]),(2,[])]) 17 [] none rfl Try.func54 (by kernel_rfl)
theorem t161:Has K 161 ir_spec_MirrorBinary:=hz (r:=⟨161,55,⟨[.v],[.v,.v],[],none⟩⟩) (vt:=[(0,.v),(2,.v),(3,.v),(6,.v)]) (hl:=[(1,[]),(9,[]),(6,[]),(6,[])]) 9 [] none rfl Try.func55 (by kernel_rfl)
theorem t162:Has K 162 ir_spec_NodesOf:=hz (r:=⟨162,28,⟨[.v],[.v],[],none⟩⟩) (vt:=[(0,.v),(2,.v),(5,.v)]) (hl:=[(1,[]),(5,[]),(2,[]),(2,[])]) 10 [] none rfl Try.func28 (by kernel_rfl)
theorem t163:Has K 163 ir_spec_HeightOf:=hz (r:=⟨163,56,⟨[.v],[.v],[],none⟩⟩) (vt:=[(0,.v),(2,.v),(3,.v),(4,.v),(5,.v),(11,.v)]) (hl:=[(1,[]),(4,[]),(12,[]),(28,[]),(60,[]),(28,[]),(28,[]),(2,[])]) 21 [] none rfl Try.func56 (by kernel_rfl)
theorem t164:Has K 164 ir_spec_WeightsOf:=hz (r:=⟨164,57,⟨[.v],[(.o .v)],[],none⟩⟩) (vt:=[(0,.v),(2,(.o .v)),(3,(.o .v)),(4,.v),(5,.v),(6,.v),(11,.v)]) (hl:=[(1,[1]),(5,[1,0]),(13,[]),(77,[]),(29,[]),(61,[]),(13,[]),(13,[]),(2,[])]) 30 [] none rfl Try.func57 (by kernel_rfl)
theorem t165:Has K 165 ir_spec_CountRight:=hz (r:=⟨165,58,⟨[.v],[.v],[],none⟩⟩) (vt:=[(0,.v),(2,.v),(3,.v),(4,.v),(6,.v),(9,.v),(13,.v),(22,.v)]) (hl:=[(1,[]),(33,[]),(2,[]),(5,[]),(13,[]),(77,[]),(29,[]),(141,[]),(13,[]),(13,[]),(2,[])]) 26 [] none rfl Try.func58 (by kernel_rfl)
theorem t166:Has K 166 ir_spec_NeighboursOf:=hz (r:=⟨166,59,⟨[.v],[(.o .v)],[],none⟩⟩) (vt:=[(0,.v),(2,(.o .v)),(3,(.o .v)),(4,.v),(5,.v),(6,.v),(7,.v),(8,.v),(9,.v),(14,.v),(23,.v),(31,.v),(40,.v)]) (hl:=[(1,[1]),(5,[1,0]),(13,[]),(525,[]),(61,[]),(1053,[]),(13,[]),(13,[]),(69,[]),(2117,[]),(453,[]),(4293,[]),(69,[]),(69,[]),(2,[])]) 46 [] none rfl Try.func59 (by kernel_rfl)
theorem t167:Has K 167 ir_impl_IsBinary:=hz (r:=⟨167,60,⟨[.v],[.v],[],none⟩⟩) (vt:=[(0,.v),(2,.v),(4,.v)]) (hl:=[(1,[]),(4,[]),(2,[])]) 11 [] none rfl Try.func60 (by kernel_rfl)
theorem t168:Has K 168 ir_impl_MirrorBinary:=hz (r:=⟨168,61,⟨[.v],[.v,.v],[],none⟩⟩) (vt:=[(0,.v),(2,.v),(3,.v),(4,.v),(5,.v),(12,.v)]) (hl:=[(1,[]),(24,[]),(40,[]),(6,[]),(6,[])]) 16 [] none rfl Try.func61 (by kernel_rfl)
theorem t169:Has K 169 ir_impl_NodesOf:=hz (r:=⟨169,62,⟨[.v],[.v],[],none⟩⟩) (vt:=[(0,.v),(2,.v),(3,.v),(4,.v),(11,.v)]) (hl:=[(1,[]),(12,[]),(20,[]),(2,[]),(2,[])]) 14 [] none rfl Try.func62 (by kernel_rfl)
theorem t170:Has K 170 ir_impl_HeightOf:=hz (r:=⟨170,63,⟨[.v],[.v],[],none⟩⟩) (vt:=[(0,.v),(2,.v),(3,.v),(5,.v),(8,.v),(10,.v),(11,.v),(12,.v),(13,.v)]) (hl:=[(1,[]),(17,[]),(2,[]),(5,[]),(228,[]),(484,[]),(236,[]),(228,[]),(228,[]),(2,[])]) 21 [] none rfl Try.func63 (by kernel_rfl)
theorem t171:Has K 171 ir_impl_WeightsOf:=hz (r:=⟨171,64,⟨[.v],[(.o .v)],[],none⟩⟩) (vt:=[(0,.v),(2,(.o .v)),(3,.v)]) (hl:=[(1,[1]),(4,[]),(2,[0,1,0,0])]) 13 [] none rfl Try.func64 (by kernel_rfl)
theorem t172:Has K 172 ir_impl_CountRight:=hz (r:=⟨172,65,⟨[.v],[.v],[],none⟩⟩) (vt:=[(0,.v),(2,.v),(3,.v),(4,.v),(6,.v),(9,.v),(11,.v),(12,.v),(13,.v),(21,.v)]) (hl:=[(1,[]),(33,[]),(2,[]),(5,[]),(197,[]),(453,[]),(205,[]),(213,[]),(709,[]),(197,[]),(197,[]),(2,[])]) 26 [] none rfl Try.func65 (by kernel_rfl)
theorem t173:Has K 173 ir_impl_NeighboursOf:=hz (r:=⟨173,66,⟨[.v],[(.o .v)],[],none⟩⟩) (vt:=[(0,.v),(2,(.o .v))]) (hl:=[(1,[1]),(2,[])]) 8 [] none rfl Try.func66 (by kernel_rfl)
theorem t184:Has K 184 ir_impl_glued:=hz (r:=⟨184,97,⟨[.y,.v],[.v],[],none⟩⟩) (vt:=[(0,.y),(1,.v),(4,.v),(5,.v),(6,.v),(7,.v),(8,.y),(9,.v),(10,.v),(11,.v),(16,.v)]) (hl:=[(3,[]),(11,[]),(458,[]),(970,[]),(506,[]),(1514,[]),(490,[]),(458,[]),(458,[]),(4,[])]) 25 [] none rfl Try.func97 (by kernel_rfl)
theorem t188:Has K 188 ir_spec_l6End:=hz (r:=⟨188,81,⟨[.v,.v],[.v],[],none⟩⟩) (vt:=[(0,.v),(1,.v),(4,.v),(5,.v),(6,.v),(10,.v),(14,.v),(20,.v),(26,.v),(43,.v)]) (hl:=[(3,[]),(35,[]),(4,[]),(67,[]),(4,[]),(131,[]),(4,[]),(9,[]),(265,[]),(4,[]),(17,[]),(528,[]),(4,[]),(4,[])]) 46 [] none rfl Try.func81 (by kernel_rfl)
theorem t189:Has K 189 ir_spec_l6Mirror:=hz (r:=⟨189,99,⟨[.v],[.v],[],none⟩⟩) (vt:=[(0,.v),(2,.v),(3,.v),(5,.v)]) (hl:=[(1,[]),(9,[]),(2,[]),(5,[]),(2,[])]) 22 [] none rfl Try.func99 (by kernel_rfl)
theorem t190:Has K 190 ir_spec_LeafLevels:=hz (r:=⟨190,100,⟨[.v],[(.o .v)],[],none⟩⟩) (vt:=[(0,.v),(2,(.o .v)),(3,(.o .v)),(4,.v),(5,.v),(14,.v),(19,.v),(24,.v),(28,.v)]) (hl:=[(1,[1]),(5,[1,0]),(13,[]),(29,[]),(61,[]),(93,[]),(221,[]),(29,[]),(285,[]),(29,[]),(29,[]),(29,[]),(2,[])]) 33 [] none rfl Try.func100 (by kernel_rfl)
theorem t191:Has K 191 ir_spec_l16Node:=hz (r:=⟨191,80,⟨[.v,.v],[.v],[],none⟩⟩) (vt:=[(0,.v),(1,.v),(4,.v),(5,.v),(6,.v),(7,.v),(17,.v),(24,.v)]) (hl:=[(3,[]),(11,[]),(27,[]),(59,[]),(123,[]),(4,[]),(171,[]),(4,[]),(4,[])]) 40 [] none rfl Try.func80 (by kernel_rfl)
theorem t192:Has K 192 ir_spec_RotateRight:=hz (r:=⟨192,29,⟨[.v,.v],[.v,.v],[],none⟩⟩) (vt:=[(0,.v),(1,.v),(4,.v),(5,.v),(6,.v),(7,.v),(8,.v),(9,.v),(10,.v),(16,.v),(26,.v)]) (hl:=[(3,[]),(515,[]),(12,[]),(19,[]),(51,[]),(115,[]),(1139,[]),(12,[]),(243,[]),(259,[]),(12,[])]) 53 [] none rfl Try.func29 (by kernel_rfl)
theorem t193:Has K 193 ir_spec_RotateLeft:=hz (r:=⟨193,101,⟨[.v,.v],[.v,.v],[],none⟩⟩) (vt:=[(0,.v),(1,.v),(4,.v),(5,.v),(6,.v),(7,.v),(8,.v),(9,.v),(10,.v),(16,.v),(29,.v)]) (hl:=[(3,[]),(515,[]),(12,[]),(19,[]),(51,[]),(115,[]),(1139,[]),(12,[]),(243,[]),(259,[]),(12,[])]) 53 [] none rfl Try.func101 (by kernel_rfl)
theorem t194:Has K 194 ir_impl_parseTree:=hz (r:=⟨194,102,⟨[.v],[.v,.v],[],none⟩⟩) (vt:=[(0,.v),(2,.v),(3,.v),(4,.v),(5,.v),(8,.v),(22,.v)]) (hl:=[(1,[]),(33,[]),(6,[]),(25,[]),(72,[]),(6,[]),(6,[])]) 24 [] none rfl Try.func102 (by kernel_rfl)
theorem t195:Has K 195 ir_impl_tree_mirror:=hz (r:=⟨195,103,⟨[.v],[.v],[],none⟩⟩) (vt:=[(0,.v),(2,.v),(4,.v)]) (hl:=[(1,[]),(5,[]),(2,[]),(2,[])]) 17 [] none rfl Try.func103 (by kernel_rfl)
theorem t196:Has K 196 ir_impl_tree_text:=hz (r:=⟨196,84,⟨[.v],[.v],[],none⟩⟩) (vt:=[(0,.v),(2,.v),(4,.v)]) (hl:=[(1,[]),(5,[]),(2,[]),(2,[])]) 18 [] none rfl Try.func84 (by kernel_rfl)
theorem t197:Has K 197 ir_impl_tree_nodes:=hz (r:=⟨197,104,⟨[.v],[.v],[],none⟩⟩) (vt:=[(0,.v),(2,.v),(4,.v)]) (hl:=[(1,[]),(5,[]),(2,[]),(2,[])]) 17 [] none rfl Try.func104 (by kernel_rfl)
theorem t198:Has K 198 ir_impl_LeafLevels:=hz (r:=⟨198,105,⟨[.v],[(.o .v)],[],none⟩⟩) (vt:=[(0,.v),(2,(.o .v)),(3,.v),(4,.v),(11,.v)]) (hl:=[(1,[1]),(12,[]),(20,[]),(2,[1,0]),(2,[0,1,0,0])]) 16 [] none rfl Try.func105 (by kernel_rfl)
theorem t199:Has K 199 ir_impl_tree_weights:=hz (r:=⟨199,106,⟨[.v,(.o .v)],[(.o .v)],[],none⟩⟩) (vt:=[(0,.v),(1,(.o .v)),(4,(.o .v)),(6,.v)]) (hl:=[(3,[1]),(11,[]),(4,[]),(4,[])]) 26 [] none rfl Try.func106 (by kernel_rfl)
theorem t201_w202:HasV K 201 ir_impl_rotations_w202:=⟨(hz (r:=⟨201,31,⟨[.v,.v],[(.o .v)],[],none⟩⟩) (vt:=[(0,.v),(1,.v),(4,(.o .v)),(5,(.o .v)),(6,.v),(7,.v),(8,.v),(13,.v),(23,.v)]) (hl:=[(3,[1]),(11,[1,0]),(27,[]),(155,[]),(123,[0,0,0,202,0,0,0,0,0]),(315,[]),(27,[]),(27,[]),(4,[])]) 29 [] none rfl Try.func31 (by kernel_rfl):Has K 201 ir_impl_rotations_w202).h⟩
theorem t201:Has K 201 ir_impl_rotations:=hz (r:=⟨201,31,⟨[.v,.v],[(.o .v)],[],none⟩⟩) (vt:=[(0,.v),(1,.v),(4,(.o .v)),(5,(.o .v)),(6,.v),(7,.v),(8,.v),(13,.v),(23,.v)]) (hl:=[(3,[1]),(11,[1,0]),(27,[]),(155,[]),(123,[0,0,0,200,0,0,0,0,0]),(315,[]),(27,[]),(27,[]),(4,[])]) 29 [] none rfl Try.func31 (by kernel_rfl)
theorem t207:Has K 207 ir_spec_l16Replace:=hz (r:=⟨207,82,⟨[.v,.v,.v],[.v],[],none⟩⟩) (vt:=[(0,.v),(1,.v),(2,.v),(6,.v),(7,.v),(8,.v),(9,.v),(10,.v),(26,.v),(38,.v)]) (hl:=[(7,[]),(23,[]),(55,[]),(102,[]),(230,[]),(486,[]),(8,[]),(742,[]),(8,[]),(8,[])]) 54 [] none rfl Try.func82 (by kernel_rfl)
theorem t208:Has K 208 ir_impl_readTree:=hz (r:=⟨208,124,⟨[.v,.v],[.v,.v],[],none⟩⟩) (vt:=[(0,.v),(1,.v),(4,.v),(5,.v),(6,.v),(7,.v),(8,.v),(9,.v),(13,.v),(16,.v),(17,.v),(21,.v),(31,.v),(51,.v)]) (hl:=[(3,[]),(259,[]),(12,[]),(515,[]),(1539,[]),(12,[]),(2051,[]),(49,[]),(4145,[]),(12,[]),(209,[]),(8400,[]),(12,[]),(12,[]),(12,[])]) 58 [] none rfl Try.func124 (by kernel_rfl)
theorem t209:Has K 209 ir_impl_tree_levels:=hz (r:=⟨209,125,⟨[.v,.v,(.o .v)],[(.o .v)],[],none⟩⟩) (vt:=[(0,.v),(1,.v),(2,(.o .v)),(6,(.o .v)),(8,.v)]) (hl:=[(7,[1]),(23,[]),(8,[]),(8,[])]) 28 [] none rfl Try.func125 (by kernel_rfl)
theorem t210:Has K 210 ir_impl_node:=hz (r:=⟨210,83,⟨[.v,.v],[.v,.v],[],none⟩⟩) (vt:=[(0,.v),(1,.v),(4,.v),(5,.v),(6,.v),(7,.v),(14,.v)]) (hl:=[(3,[]),(50,[]),(82,[]),(12,[]),(12,[])]) 19 [] none rfl Try.func83 (by kernel_rfl)
theorem t213:Has K 213 ir_impl_tree_find:=hz (r:=⟨213,115,⟨[.v,.v],[.v],[],none⟩⟩) (vt:=[(0,.v),(1,.v),(4,.v),(5,.v),(11,.v),(17,.v),(27,.v)]) (hl:=[(3,[]),(19,[]),(4,[]),(11,[]),(43,[]),(4,[]),(75,[]),(4,[]),(4,[])]) 41 [] none rfl Try.func115 (by kernel_rfl)
instance:HA K:=⟨t22,t96,t124,t125,t137,t138,t141,t142,t143,t160,t161,t162,t163,t164,t165,t166,t167,t168,t169,t170,t171,t172,t173,t184,t188,t189,t190,t191,t192,t193,t194,t195,t196,t197,t198,t199,t201_w202,t201,t207,t208,t209,t210,t213⟩
end Go.Proofs.Ytgncagjobmbmaaa.fnExactTreeLine
