/-
 Texts of the little language.
-/
import Derived.Test.YtgncagjobmbmaaaIrAllA
import Derived.Test.YtgncagjobmbmaaaCatThree
import Derived.Test.YtgncagjobmbmaaaCatFour
set_option linter.unusedSimpArgs false
set_option linter.unusedVariables false
namespace Go.Cat
class HA (K:Nat→List D→List D→Prop):Prop where
 h22:Has K 22 ir_spec_l1In
 h96:Has K 96 ir_laws_FnExactTreeLine
 h124:Has K 124 ir_spec_TreeLine
 h125:Has K 125 ir_impl_TreeLine
 h137:Has K 137 ir_spec_l34Numbers
 h138:Has K 138 ir_spec_FormatInt
 h141:Has K 141 ir_impl_line
 h142:Has K 142 ir_impl_list
 h143:Has K 143 ir_impl_FormatInt
 h160:Has K 160 ir_spec_IsBinary
 h161:Has K 161 ir_spec_MirrorBinary
 h162:Has K 162 ir_spec_NodesOf
 h163:Has K 163 ir_spec_HeightOf
 h164:Has K 164 ir_spec_WeightsOf
 h165:Has K 165 ir_spec_CountRight
 h166:Has K 166 ir_spec_NeighboursOf
 h167:Has K 167 ir_impl_IsBinary
 h168:Has K 168 ir_impl_MirrorBinary
 h169:Has K 169 ir_impl_NodesOf
 h170:Has K 170 ir_impl_HeightOf
 h171:Has K 171 ir_impl_WeightsOf
 h172:Has K 172 ir_impl_CountRight
 h173:Has K 173 ir_impl_NeighboursOf
 h184:Has K 184 ir_impl_glued
 h188:Has K 188 ir_spec_l6End
 h189:Has K 189 ir_spec_l6Mirror
 h190:Has K 190 ir_spec_LeafLevels
 h191:Has K 191 ir_spec_l16Node
 h192:Has K 192 ir_spec_RotateRight
 h193:Has K 193 ir_spec_RotateLeft
 h194:Has K 194 ir_impl_parseTree
 h195:Has K 195 ir_impl_tree_mirror
 h196:Has K 196 ir_impl_tree_text
 h197:Has K 197 ir_impl_tree_nodes
 h198:Has K 198 ir_impl_LeafLevels
 h199:Has K 199 ir_impl_tree_weights
 h201_w202:HasV K 201 ir_impl_rotations_w202
 h201:Has K 201 ir_impl_rotations
 h207:Has K 207 ir_spec_l16Replace
 h208:Has K 208 ir_impl_readTree
 h209:Has K 209 ir_impl_tree_levels
 h210:Has K 210 ir_impl_node
 h213:Has K 213 ir_impl_tree_find
section
variable {K:Nat→List D→List D→Prop} [h:HA K]
instance:Has K 22 ir_spec_l1In:=h.h22
instance:Has K 96 ir_laws_FnExactTreeLine:=h.h96
instance:Has K 124 ir_spec_TreeLine:=h.h124
instance:Has K 125 ir_impl_TreeLine:=h.h125
instance:Has K 137 ir_spec_l34Numbers:=h.h137
instance:Has K 138 ir_spec_FormatInt:=h.h138
instance:Has K 141 ir_impl_line:=h.h141
instance:Has K 142 ir_impl_list:=h.h142
instance:Has K 143 ir_impl_FormatInt:=h.h143
instance:Has K 160 ir_spec_IsBinary:=h.h160
instance:Has K 161 ir_spec_MirrorBinary:=h.h161
instance:Has K 162 ir_spec_NodesOf:=h.h162
instance:Has K 163 ir_spec_HeightOf:=h.h163
instance:Has K 164 ir_spec_WeightsOf:=h.h164
instance:Has K 165 ir_spec_CountRight:=h.h165
instance:Has K 166 ir_spec_NeighboursOf:=h.h166
instance:Has K 167 ir_impl_IsBinary:=h.h167
instance:Has K 168 ir_impl_MirrorBinary:=h.h168
instance:Has K 169 ir_impl_NodesOf:=h.h169
instance:Has K 170 ir_impl_HeightOf:=h.h170
instance:Has K 171 ir_impl_WeightsOf:=h.h171
instance:Has K 172 ir_impl_CountRight:=h.h172
instance:Has K 173 ir_impl_NeighboursOf:=h.h173
instance:Has K 184 ir_impl_glued:=h.h184
instance:Has K 188 ir_spec_l6End:=h.h188
instance:Has K 189 ir_spec_l6Mirror:=h.h189
instance:Has K 190 ir_spec_LeafLevels:=h.h190
instance:Has K 191 ir_spec_l16Node:=h.h191
instance:Has K 192 ir_spec_RotateRight:=h.h192
instance:Has K 193 ir_spec_RotateLeft:=h.h193
instance:Has K 194 ir_impl_parseTree:=h.h194
instance:Has K 195 ir_impl_tree_mirror:=h.h195
instance:Has K 196 ir_impl_tree_text:=h.h196
instance:Has K 197 ir_impl_tree_nodes:=h.h197
instance:Has K 198 ir_impl_LeafLevels:=h.h198
instance:Has K 199 ir_impl_tree_weights:=h.h199
instance:HasV K 201 ir_impl_rotations_w202:=h.h201_w202
instance:Has K 201 ir_impl_rotations:=h.h201
instance:Has K 207 ir_spec_l16Replace:=h.h207
instance:Has K 208 ir_impl_readTree:=h.h208
instance:Has K 209 ir_impl_tree_levels:=h.h209
instance:Has K 210 ir_impl_node:=h.h210
instance:Has K 213 ir_impl_tree_find:=h.h213
end
instance:HA (fun _ _ _=>True):=by constructor <;> exact ⟨fun _ _ _=>trivial⟩
end Go.Cat
