/-
 Texts of the little language.
-/
import Derived.Test.YtgncagjobmbmaaaIrAllA
import Derived.Test.YtgncagjobmbmaaaCatThree
import Derived.Test.YtgncagjobmbmaaaCatFour
set_option linter.unusedSimpArgs false
set_option linter.unusedVariables false
namespace Go.Cat
class HA (K:Nat→List D→List D→Prop):Prop where
 h15:Has K 15 ir_laws_eqStringS
 h16:Has K 16 ir_laws_markStringS
 h17:Has K 17 ir_laws_heldStringS
 h22:Has K 22 ir_spec_l1In
 h26:Has K 26 ir_laws_markText
 h44:Has K 44 ir_laws_eqIntS
 h45:Has K 45 ir_laws_markIntS
 h46:Has K 46 ir_laws_heldIntS
 h119:Has K 119 ir_laws_eqClaim
 h122:Has K 122 ir_laws_markClaim
 h123:Has K 123 ir_laws_heldClaim
 h155:Has K 155 ir_laws_eqIntSS
 h158:Has K 158 ir_laws_markIntSS
 h159:Has K 159 ir_laws_heldIntSS
 h160:Has K 160 ir_spec_IsBinary
 h162:Has K 162 ir_spec_NodesOf
 h164:Has K 164 ir_spec_WeightsOf
 h169:Has K 169 ir_impl_NodesOf
 h171:Has K 171 ir_impl_WeightsOf
 h188:Has K 188 ir_spec_l6End
 h191:Has K 191 ir_spec_l16Node
 h192:Has K 192 ir_spec_RotateRight
 h194:Has K 194 ir_impl_parseTree
 h196:Has K 196 ir_impl_tree_text
 h197:Has K 197 ir_impl_tree_nodes
 h199:Has K 199 ir_impl_tree_weights
 h201_w202:HasV K 201 ir_impl_rotations_w202
 h201:Has K 201 ir_impl_rotations
 h207:Has K 207 ir_spec_l16Replace
 h208:Has K 208 ir_impl_readTree
 h210:Has K 210 ir_impl_node
 h213:Has K 213 ir_impl_tree_find
 h331:Has K 331 ir_laws_FnExactClaimOfOrder
 h339:Has K 339 ir_spec_ClaimOfOrder
 h340:Has K 340 ir_impl_ClaimOfOrder
 h349:Has K 349 ir_spec_IsTamariLess
 h350:Has K 350 ir_impl_IsTamariLess
 h365:Has K 365 ir_spec_l17Fit
 h367:Has K 367 ir_impl_alike
section
variable {K:Nat→List D→List D→Prop} [h:HA K]
instance:Has K 15 ir_laws_eqStringS:=h.h15
instance:Has K 16 ir_laws_markStringS:=h.h16
instance:Has K 17 ir_laws_heldStringS:=h.h17
instance:Has K 22 ir_spec_l1In:=h.h22
instance:Has K 26 ir_laws_markText:=h.h26
instance:Has K 44 ir_laws_eqIntS:=h.h44
instance:Has K 45 ir_laws_markIntS:=h.h45
instance:Has K 46 ir_laws_heldIntS:=h.h46
instance:Has K 119 ir_laws_eqClaim:=h.h119
instance:Has K 122 ir_laws_markClaim:=h.h122
instance:Has K 123 ir_laws_heldClaim:=h.h123
instance:Has K 155 ir_laws_eqIntSS:=h.h155
instance:Has K 158 ir_laws_markIntSS:=h.h158
instance:Has K 159 ir_laws_heldIntSS:=h.h159
instance:Has K 160 ir_spec_IsBinary:=h.h160
instance:Has K 162 ir_spec_NodesOf:=h.h162
instance:Has K 164 ir_spec_WeightsOf:=h.h164
instance:Has K 169 ir_impl_NodesOf:=h.h169
instance:Has K 171 ir_impl_WeightsOf:=h.h171
instance:Has K 188 ir_spec_l6End:=h.h188
instance:Has K 191 ir_spec_l16Node:=h.h191
instance:Has K 192 ir_spec_RotateRight:=h.h192
instance:Has K 194 ir_impl_parseTree:=h.h194
instance:Has K 196 ir_impl_tree_text:=h.h196
instance:Has K 197 ir_impl_tree_nodes:=h.h197
instance:Has K 199 ir_impl_tree_weights:=h.h199
instance:HasV K 201 ir_impl_rotations_w202:=h.h201_w202
instance:Has K 201 ir_impl_rotations:=h.h201
instance:Has K 207 ir_spec_l16Replace:=h.h207
instance:Has K 208 ir_impl_readTree:=h.h208
instance:Has K 210 ir_impl_node:=h.h210
instance:Has K 213 ir_impl_tree_find:=h.h213
instance:Has K 331 ir_laws_FnExactClaimOfOrder:=h.h331
instance:Has K 339 ir_spec_ClaimOfOrder:=h.h339
instance:Has K 340 ir_impl_ClaimOfOrder:=h.h340
instance:Has K 349 ir_spec_IsTamariLess:=h.h349
instance:Has K 350 ir_impl_IsTamariLess:=h.h350
instance:Has K 365 ir_spec_l17Fit:=h.h365
instance:Has K 367 ir_impl_alike:=h.h367
end
instance:HA (fun _ _ _=>True):=by constructor <;> exact ⟨fun _ _ _=>trivial⟩
end Go.Cat
