/-
 Texts of the little language.
-/
import Derived.Test.YtgncagjobmbmaaaIrAllA
import Derived.Test.YtgncagjobmbmaaaCatThree
set_option linter.unusedSimpArgs false
set_option linter.unusedVariables false
namespace Go.Cat
class HA (K:Nat→List D→List D→Prop):Prop where
 h22:Has K 22 ir_spec_l1In
 h23:Has K 23 ir_impl_within
 h42:Has K 42 ir_laws_toIntS
 h44:Has K 44 ir_laws_eqIntS
 h72:Has K 72 ir_impl_equalInts
 h75:Has K 75 ir_impl_copyInts
 h93:Has K 93 ir_laws_FnExactFriezeLine
 h113:Has K 113 ir_spec_FriezeLine
 h114:Has K 114 ir_impl_FriezeLine
 h136:Has K 136 ir_spec_FriezeOf
 h137:Has K 137 ir_spec_l34Numbers
 h138:Has K 138 ir_spec_FormatInt
 h139:Has K 139 ir_spec_SumOfFrieze
 h140:Has K 140 ir_impl_FriezeOf
 h141:Has K 141 ir_impl_line
 h142:Has K 142 ir_impl_list
 h143:Has K 143 ir_impl_FormatInt
 h144:Has K 144 ir_impl_SumOfFrieze
 h179:Has K 179 ir_slices_Index___int_int_
 h180:Has K 180 ir_spec_l22Fine
 h181:Has K 181 ir_spec_l22Rows
 h182:Has K 182 ir_spec_IsFrieze
 h183:Has K 183 ir_impl_IsQuiddity
 h184:Has K 184 ir_impl_glued
 h185:Has K 185 ir_impl_IsFrieze
 h204:Has K 204 ir_impl_cuts
section
variable {K:Nat→List D→List D→Prop} [h:HA K]
instance:Has K 22 ir_spec_l1In:=h.h22
instance:Has K 23 ir_impl_within:=h.h23
instance:Has K 42 ir_laws_toIntS:=h.h42
instance:Has K 44 ir_laws_eqIntS:=h.h44
instance:Has K 72 ir_impl_equalInts:=h.h72
instance:Has K 75 ir_impl_copyInts:=h.h75
instance:Has K 93 ir_laws_FnExactFriezeLine:=h.h93
instance:Has K 113 ir_spec_FriezeLine:=h.h113
instance:Has K 114 ir_impl_FriezeLine:=h.h114
instance:Has K 136 ir_spec_FriezeOf:=h.h136
instance:Has K 137 ir_spec_l34Numbers:=h.h137
instance:Has K 138 ir_spec_FormatInt:=h.h138
instance:Has K 139 ir_spec_SumOfFrieze:=h.h139
instance:Has K 140 ir_impl_FriezeOf:=h.h140
instance:Has K 141 ir_impl_line:=h.h141
instance:Has K 142 ir_impl_list:=h.h142
instance:Has K 143 ir_impl_FormatInt:=h.h143
instance:Has K 144 ir_impl_SumOfFrieze:=h.h144
instance:Has K 179 ir_slices_Index___int_int_:=h.h179
instance:Has K 180 ir_spec_l22Fine:=h.h180
instance:Has K 181 ir_spec_l22Rows:=h.h181
instance:Has K 182 ir_spec_IsFrieze:=h.h182
instance:Has K 183 ir_impl_IsQuiddity:=h.h183
instance:Has K 184 ir_impl_glued:=h.h184
instance:Has K 185 ir_impl_IsFrieze:=h.h185
instance:Has K 204 ir_impl_cuts:=h.h204
end
instance:HA (fun _ _ _=>True):=by constructor <;> exact ⟨fun _ _ _=>trivial⟩
end Go.Cat
