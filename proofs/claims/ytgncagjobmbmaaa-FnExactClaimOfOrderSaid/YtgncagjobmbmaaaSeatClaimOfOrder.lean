/-
 Texts of the little language.
-/
import Derived.Test.YtgncagjobmbmaaaIrHas
import Derived.Test.YtgncagjobmbmaaaRows
import Derived.Test.YtgncagjobmbmaaaCatThree
import Derived.Test.YtgncagjobmbmaaaCatFour
set_option linter.unusedSimpArgs false
set_option linter.unusedVariables false
namespace Go.Proofs.Ytgncagjobmbmaaa.fnExactClaimOfOrder
open Go Go.Cat Go.Proofs
set_option maxRecDepth 100000
def tab:List Row:=[⟨15,33,⟨[.y,.y],[.v],[],none⟩⟩,
 ⟨16,35,⟨[(.o .v),.v],[.v],[0],none⟩⟩,
 ⟨17,37,⟨[.y,.v],[.v],[],none⟩⟩,
 ⟨22,79,⟨[.v,.v,.v],[.v],[],none⟩⟩,
 ⟨26,85,⟨[.v],[.v],[],none⟩⟩,
 ⟨44,19,⟨[.y,.y],[.v],[],none⟩⟩,
 ⟨45,20,⟨[(.o .v),.v],[.v],[0],none⟩⟩,
 ⟨46,38,⟨[.y,.v],[.v],[],none⟩⟩,
 ⟨119,11,⟨[.y,.y],[.v],[],none⟩⟩,
 ⟨122,12,⟨[(.a (.o (.o (.o .v)))),.v],[.v],[0],none⟩⟩,
 ⟨123,13,⟨[.y,.v],[.v],[],none⟩⟩,
 ⟨155,34,⟨[.y,.y],[.v],[],none⟩⟩,
 ⟨158,36,⟨[(.o (.o .v)),.v],[.v],[0],none⟩⟩,
 ⟨159,39,⟨[.y,.v],[.v],[],none⟩⟩,
 ⟨160,54,⟨[.v],[.v],[],none⟩⟩,
 ⟨162,28,⟨[.v],[.v],[],none⟩⟩,
 ⟨164,57,⟨[.v],[(.o .v)],[],none⟩⟩,
 ⟨169,62,⟨[.v],[.v],[],none⟩⟩,
 ⟨171,64,⟨[.v],[(.o .v)],[],none⟩⟩,
 ⟨188,81,⟨[.v,.v],[.v],[],none⟩⟩,
 ⟨191,80,⟨[.v,.v],[.v],[],none⟩⟩,
 ⟨192,29,⟨[.v,.v],[.v,.v],[],none⟩⟩,
 ⟨194,102,⟨[.v],[.v,.v],[],none⟩⟩,
 ⟨196,84,⟨[.v],[.v],[],none⟩⟩,
 ⟨197,104,⟨[.v],[.v],[],none⟩⟩,
 ⟨199,106,⟨[.v,(.o .v)],[(.o .v)],[],none⟩⟩,
 ⟨200,32,⟨[.v,.v],[.v,.v],[],none⟩⟩,
 ⟨201,31,⟨[.v,.v],[(.o .v)],[],none⟩⟩,
 ⟨202,107,⟨[.v,.v],[.v,.v],[],none⟩⟩,
 ⟨207,82,⟨[.v,.v,.v],[.v],[],none⟩⟩,
 ⟨208,124,⟨[.v,.v],[.v,.v],[],none⟩⟩,
 ⟨210,83,⟨[.v,.v],[.v,.v],[],none⟩⟩,
 ⟨213,115,⟨[.v,.v],[.v],[],none⟩⟩,
 ⟨331,3,⟨[.v,.v],[.v],[],none⟩⟩,
 ⟨339,9,⟨[.v,.v],[(.a (.o (.o (.o .v)))),.v],[],none⟩⟩,
 ⟨340,10,⟨[.v,.v],[(.a (.o (.o (.o .v)))),.v],[],none⟩⟩,
 ⟨349,27,⟨[.v,.v],[.v],[],none⟩⟩,
 ⟨350,30,⟨[.v,.v],[.v],[],none⟩⟩,
 ⟨365,67,⟨[.v,.v],[.v],[],none⟩⟩,
 ⟨367,73,⟨[.v,.v,.v],[.v],[],none⟩⟩]
theorem tabOk:tabOK Try.prog tab=true:=by kernel_rfl
theorem mixed:Try.prog.follows .mixedOrders=true:=Try.checked.mixed
abbrev K:=KS Try.prog tab
theorem hz {k:Nat} {r:Row} {vt:VT} {hl:HL} {fn:Func} {f:IF} (nt:Nat) (io:List Nat) (fb:Option (Nat×Nat×List Nat)) (hr:rowOf tab k=some r) (hfn:Try.prog.funcs[r.f]?=some fn) (ht:trF (cfOf Try.prog tab nt io fb) (sgOf tab) vt hl fn r.s=some f):Has K k f:=⟨fun _ _ hb=>KS.of_body tabOk mixed hr ht hfn hb⟩
theorem t15:Has K 15 ir_laws_eqStringS:=hz (r:=⟨15,33,⟨[.y,.y],[.v],[],none⟩⟩) (vt:=[(0,.y),(1,.y),(4,.v),(5,.v),(10,.v),(14,.v),(25,.v)]) (hl:=[(3,[]),(19,[]),(4,[]),(11,[]),(43,[]),(75,[]),(4,[]),(11,[]),(4,[])]) 26 [] none rfl Try.func33 (by kernel_rfl)
theorem t16:Has K 16 ir_laws_markStringS:=hz (r:=⟨16,35,⟨[(.o .v),.v],[.v],[0],none⟩⟩) (vt:=[(0,(.o .v)),(1,.v),(4,.v),(5,.v),(9,.v)]) (hl:=[(3,[]),(11,[]),(27,[]),(11,[]),(11,[]),(11,[]),(5,[])]) 20 [0] none rfl Try.func35 (by kernel_rfl)
theorem t17:Has K 17 ir_laws_heldStringS:=hz (r:=⟨17,37,⟨[.y,.v],[.v],[],none⟩⟩) (vt:=[(0,.y),(1,.v),(4,.v),(5,.v),(9,.v),(18,.v)]) (hl:=[(3,[]),(11,[]),(27,[]),(43,[]),(4,[]),(11,[]),(11,[]),(4,[])]) 22 [] none rfl Try.func37 (by kernel_rfl)
theorem t22:Has K 22 ir_spec_l1In:=hz (r:=⟨22,79,⟨[.v,.v,.v],[.v],[],none⟩⟩) (vt:=[(0,.v),(1,.v),(2,.v),(6,.v)]) (hl:=[(7,[]),(8,[])]) 15 [] none rfl Try.func79 (by kernel_rfl)
theorem t26:Has K 26 ir_laws_markText:=hz (r:=⟨26,85,⟨[.v],[.v],[],none⟩⟩) (vt:=[(0,.v),(2,.v),(3,.v),(5,.v),(7,.v)]) (hl:=[(1,[]),(9,[]),(2,[]),(5,[]),(21,[]),(5,[]),(5,[]),(2,[])]) 20 [] none rfl Try.func85 (by kernel_rfl)
theorem t44:Has K 44 ir_laws_eqIntS:=hz (r:=⟨44,19,⟨[.y,.y],[.v],[],none⟩⟩) (vt:=[(0,.y),(1,.y),(4,.v),(5,.v),(10,.v),(14,.v),(25,.v)]) (hl:=[(3,[]),(19,[]),(4,[]),(11,[]),(43,[]),(75,[]),(4,[]),(11,[]),(4,[])]) 26 [] none rfl Try.func19 (by kernel_rfl)
theorem t45:Has K 45 ir_laws_markIntS:=hz (r:=⟨45,20,⟨[(.o .v),.v],[.v],[0],none⟩⟩) (vt:=[(0,(.o .v)),(1,.v),(4,.v),(5,.v),(9,.v)]) (hl:=[(3,[]),(11,[]),(27,[]),(11,[]),(11,[]),(11,[]),(5,[])]) 19 [0] none rfl Try.func20 (by kernel_rfl)
theorem t46:Has K 46 ir_laws_heldIntS:=hz (r:=⟨46,38,⟨[.y,.v],[.v],[],none⟩⟩) (vt:=[(0,.y),(1,.v),(4,.v),(5,.v),(9,.v),(17,.v)]) (hl:=[(3,[]),(11,[]),(27,[]),(43,[]),(4,[]),(11,[]),(11,[]),(4,[])]) 21 [] none rfl Try.func38 (by kernel_rfl)
theorem t119:Has K 119 ir_laws_eqClaim:=hz (r:=⟨119,11,⟨[.y,.y],[.v],[],none⟩⟩) (vt:=[(0,.y),(1,.y),(2,.y),(3,.y),(4,.v),(9,.v),(14,.v),(19,.v),(25,.v),(31,.v),(37,.v),(43,.v)]) (hl:=[(12,[]),(44,[]),(16,[]),(76,[]),(16,[]),(140,[]),(16,[]),(268,[]),(16,[]),(524,[]),(16,[]),(1036,[]),(16,[]),(2048,[]),(16,[]),(16,[])]) 44 [] none rfl Try.func11 (by kernel_rfl)
theorem t122:Has K 122 ir_laws_markClaim:=hz (r:=⟨122,12,⟨[(.a (.o (.o (.o .v)))),.v],[.v],[0],none⟩⟩) (vt:=[(0,(.a (.o (.o (.o .v))))),(1,.v),(2,.v),(4,.v)]) (hl:=[(7,[77778,0,0]),(7,[0,1,0,101006,0,200006,0]),(7,[0,1,0,101010,0,200010,0]),(7,[0,1,0,101014,0,200014,0]),(3,[0,1,0,102018,0,200018,0]),(9,[0,0,300000])]) 22 [0] none rfl Try.func12 (by kernel_rfl)
theorem t123:Has K 123 ir_laws_heldClaim:=hz (r:=⟨123,13,⟨[.y,.v],[.v],[],none⟩⟩) (vt:=[(0,.y),(1,.v),(2,.y),(4,.v),(10,.v),(16,.v),(22,.v),(28,.v)]) (hl:=[(6,[]),(6,[]),(22,[]),(8,[]),(6,[]),(38,[]),(8,[]),(6,[]),(70,[]),(8,[]),(2,[]),(130,[]),(8,[]),(8,[])]) 30 [] none rfl Try.func13 (by kernel_rfl)
theorem t155:Has K 155 ir_laws_eqIntSS:=hz (r:=⟨155,34,⟨[.y,.y],[.v],[],none⟩⟩) (vt:=[(0,.y),(1,.y),(4,.v),(5,.v),(10,.v),(14,.v),(26,.v)]) (hl:=[(3,[]),(19,[]),(4,[]),(11,[]),(43,[]),(75,[]),(4,[]),(11,[]),(4,[])]) 27 [] none rfl Try.func34 (by kernel_rfl)
theorem t158:Has K 158 ir_laws_markIntSS:=hz (r:=⟨158,36,⟨[(.o (.o .v)),.v],[.v],[0],none⟩⟩) (vt:=[(0,(.o (.o .v))),(1,.v),(4,.v),(5,.v),(9,.v)]) (hl:=[(3,[]),(11,[]),(27,[]),(11,[77776,0,0,0,1,0,101015,0,200015,0]),(11,[]),(5,[])]) 19 [0] none rfl Try.func36 (by kernel_rfl)
theorem t159:Has K 159 ir_laws_heldIntSS:=hz (r:=⟨159,39,⟨[.y,.v],[.v],[],none⟩⟩) (vt:=[(0,.y),(1,.v),(4,.v),(5,.v),(9,.v),(19,.v)]) (hl:=[(3,[]),(11,[]),(27,[]),(11,[]),(43,[]),(4,[]),(11,[]),(4,[])]) 21 [] none rfl Try.func39 (by kernel_rfl)
theorem t160:Has K 160 ir_spec_IsBinary:=hz (r:=⟨160,54,⟨[.v],[.v],[],none⟩⟩) (vt:=[(0,.v),(2,.v)]) (hl:=[(1,[]),(2,[])]) 17 [] none rfl Try.func54 (by kernel_rfl)
theorem t162:Has K 162 ir_spec_NodesOf:=hz (r:=⟨162,28,⟨[.v],[.v],[],none⟩⟩) (vt:=[(0,.v),(2,.v),(5,.v)]) (hl:=[(1,[]),(5,[]),(2,[]),(2,[])]) 10 [] none rfl Try.func28 (by kernel_rfl)
theorem t164:Has K 164 ir_spec_WeightsOf:=hz (r:=⟨164,57,⟨[.v],[(.o .v)],[],none⟩⟩) (vt:=[(0,.v),(2,(.o .v)),(3,(.o .v)),(4,.v),(5,.v),(6,.v),(11,.v)]) (hl:=[(1,[1]),(5,[1,0]),(13,[]),(77,[]),(29,[]),(61,[]),(13,[]),(13,[]),(2,[])]) 30 [] none rfl Try.func57 (by kernel_rfl)
theorem t169:Has K 169 ir_impl_NodesOf:=hz (r:=⟨169,62,⟨[.v],[.v],[],none⟩⟩) (vt:=[(0,.v),(2,.v),(3,.v),(4,.v),(11,.v)]) (hl:=[(1,[]),(12,[]),(20,[]),(2,[]),(2,[])]) 14 [] none rfl Try.func62 (by kernel_rfl)
theorem t171:Has K 171 ir_impl_WeightsOf:=hz (r:=⟨171,64,⟨[.v],[(.o .v)],[],none⟩⟩) (vt:=[(0,.v),(2,(.o .v)),(3,.v)]) (hl:=[(1,[1]),(4,[]),(2,[0,1,0,0])]) 13 [] none rfl Try.func64 (by kernel_rfl)
theorem t188:Has K 188 ir_spec_l6End:=hz (r:=⟨188,81,⟨[.v,.v],[.v],[],none⟩⟩) (vt:=[(0,.v),(1,.v),(4,.v),(5,.v),(6,.v),(10,.v),(14,.v),(20,.v),(26,.v),(43,.v)]) (hl:=[(3,[]),(35,[]),(4,[]),(67,[]),(4,[]),(131,[]),(4,[]),(9,[]),(265,[]),(4,[]),(17,[]),(528,[]),(4,[]),(4,[])]) 46 [] none rfl Try.func81 (by kernel_rfl)
theorem t191:Has K 191 ir_spec_l16Node:=hz (r:=⟨191,80,⟨[.v,.v],[.v],[],none⟩⟩) (vt:=[(0,.v),(1,.v),(4,.v),(5,.v),(6,.v),(7,.v),(17,.v),(24,.v)]) (hl:=[(3,[]),(11,[]),(27,[]),(59,[]),(123,[]),(4,[]),(171,[]),(4,[]),(4,[])]) 40 [] none rfl Try.func80 (by kernel_rfl)
theorem t192:Has K 192 ir_spec_RotateRight:=hz (r:=⟨192,29,⟨[.v,.v],[.v,.v],[],none⟩⟩) (vt:=[(0,.v),(1,.v),(4,.v),(5,.v),(6,.v),(7,.v),(8,.v),(9,.v),(10,.v),(16,.v),(26,.v)]) (hl:=[(3,[]),(515,[]),(12,[]),(19,[]),(51,[]),(115,[]),(1139,[]),(12,[]),(243,[]),(259,[]),(12,[])]) 53 [] none rfl Try.func29 (by kernel_rfl)
theorem t194:Has K 194 ir_impl_parseTree:=hz (r:=⟨194,102,⟨[.v],[.v,.v],[],none⟩⟩) (vt:=[(0,.v),(2,.v),(3,.v),(4,.v),(5,.v),(8,.v),(22,.v)]) (hl:=[(1,[]),(33,[]),(6,[]),(25,[]),(72,[]),(6,[]),(6,[])]) 24 [] none rfl Try.func102 (by kernel_rfl)
theorem t196:Has K 196 ir_impl_tree_text:=hz (r:=⟨196,84,⟨[.v],[.v],[],none⟩⟩) (vt:=[(0,.v),(2,.v),(4,.v)]) (hl:=[(1,[]),(5,[]),(2,[]),(2,[])]) 18 [] none rfl Try.func84 (by kernel_rfl)
theorem t197:Has K 197 ir_impl_tree_nodes:=hz (r:=⟨197,104,⟨[.v],[.v],[],none⟩⟩) (vt:=[(0,.v),(2,.v),(4,.v)]) (hl:=[(1,[]),(5,[]),(2,[]),(2,[])]) 17 [] none rfl Try.func104 (by kernel_rfl)
theorem t199:Has K 199 ir_impl_tree_weights:=hz (r:=⟨199,106,⟨[.v,(.o .v)],[(.o .v)],[],none⟩⟩) (vt:=[(0,.v),(1,(.o .v)),(4,(.o .v)),(6,.v)]) (hl:=[(3,[1]),(11,[]),(4,[]),(4,[])]) 26 [] none rfl Try.func106 (by kernel_rfl)
theorem t201_w202:HasV K 201 ir_impl_rotations_w202:=⟨(hz (r:=⟨201,31,⟨[.v,.v],[(.o .v)],[],none⟩⟩) (vt:=[(0,.v),(1,.v),(4,(.o .v)),(5,(.o .v)),(6,.v),(7,.v),(8,.v),(13,.v),(23,.v)]) (hl:=[(3,[1]),(11,[1,0]),(27,[]),(155,[]),(123,[0,0,0,202,0,0,0,0,0]),(315,[]),(27,[]),(27,[]),(4,[])]) 29 [] none rfl Try.func31 (by kernel_rfl):Has K 201 ir_impl_rotations_w202).h⟩
theorem t201:Has K 201 ir_impl_rotations:=hz (r:=⟨201,31,⟨[.v,.v],[(.o .v)],[],none⟩⟩) (vt:=[(0,.v),(1,.v),(4,(.o .v)),(5,(.o .v)),(6,.v),(7,.v),(8,.v),(13,.v),(23,.v)]) (hl:=[(3,[1]),(11,[1,0]),(27,[]),(155,[]),(123,[0,0,0,200,0,0,0,0,0]),(315,[]),(27,[]),(27,[]),(4,[])]) 29 [] none rfl Try.func31 (by kernel_rfl)
theorem t207:Has K 207 ir_spec_l16Replace:=hz (r:=⟨207,82,⟨[.v,.v,.v],[.v],[],none⟩⟩) (vt:=[(0,.v),(1,.v),(2,.v),(6,.v),(7,.v),(8,.v),(9,.v),(10,.v),(26,.v),(38,.v)]) (hl:=[(7,[]),(23,[]),(55,[]),(102,[]),(230,[]),(486,[]),(8,[]),(742,[]),(8,[]),(8,[])]) 54 [] none rfl Try.func82 (by kernel_rfl)
theorem t208:Has K 208 ir_impl_readTree:=hz (r:=⟨208,124,⟨[.v,.v],[.v,.v],[],none⟩⟩) (vt:=[(0,.v),(1,.v),(4,.v),(5,.v),(6,.v),(7,.v),(8,.v),(9,.v),(13,.v),(16,.v),(17,.v),(21,.v),(31,.v),(51,.v)]) (hl:=[(3,[]),(259,[]),(12,[]),(515,[]),(1539,[]),(12,[]),(2051,[]),(49,[]),(4145,[]),(12,[]),(209,[]),(8400,[]),(12,[]),(12,[]),(12,[])]) 58 [] none rfl Try.func124 (by kernel_rfl)
theorem t210:Has K 210 ir_impl_node:=hz (r:=⟨210,83,⟨[.v,.v],[.v,.v],[],none⟩⟩) (vt:=[(0,.v),(1,.v),(4,.v),(5,.v),(6,.v),(7,.v),(14,.v)]) (hl:=[(3,[]),(50,[]),(82,[]),(12,[]),(12,[])]) 19 [] none rfl Try.func83 (by kernel_rfl)
theorem t213:Has K 213 ir_impl_tree_find:=hz (r:=⟨213,115,⟨[.v,.v],[.v],[],none⟩⟩) (vt:=[(0,.v),(1,.v),(4,.v),(5,.v),(11,.v),(17,.v),(27,.v)]) (hl:=[(3,[]),(19,[]),(4,[]),(11,[]),(43,[]),(4,[]),(75,[]),(4,[]),(4,[])]) 41 [] none rfl Try.func115 (by kernel_rfl)
theorem t331:Has K 331 ir_laws_FnExactClaimOfOrder:=hz (r:=⟨331,3,⟨[.v,.v],[.v],[],none⟩⟩) (vt:=[(0,.v),(1,.v),(4,.v),(5,(.b (.o (.o (.o .v))))),(6,.v),(7,(.b (.o (.o (.o .v))))),(8,.v),(9,.v),(10,.v),(11,(.b (.o (.o (.o .v))))),(12,.v),(15,.v),(18,.v),(39,.v),(47,.v),(50,.v),(65,.v),(70,.v),(73,.v)]) (hl:=[(3,[]),(2051,[]),(4,[]),(4099,[]),(4,[]),(27,[0,0,0,0,0,0,3,0,0]),(123,[0,0,0,0,0,0,3,0,0]),(8251,[]),(4,[]),(187,[]),(187,[77776,0,0,300040,0,400040,0]),(443,[]),(443,[]),(16827,[]),(4,[]),(32955,[]),(4,[]),(1720,[0,0,0,0,0,0,3,0,0]),(65696,[]),(4,[]),(416,[]),(384,[]),(131456,[]),(4,[]),(262144,[]),(4,[]),(4,[])]) 74 [] none rfl Try.func3 (by kernel_rfl)
theorem t339:Has K 339 ir_spec_ClaimOfOrder:=hz (r:=⟨339,9,⟨[.v,.v],[(.a (.o (.o (.o .v)))),.v],[],none⟩⟩) (vt:=[(0,.v),(1,.v),(4,(.b (.o (.o (.o .v))))),(5,.v),(6,(.o .v)),(7,.v),(8,.v),(9,.v),(10,.v),(11,.v),(15,.v),(22,.v),(27,.v),(41,.v)]) (hl:=[(7,[3,0]),(1031,[]),(12,[3,0,0]),(23,[0,1,0]),(55,[]),(2103,[]),(119,[]),(247,[]),(4343,[]),(1015,[]),(8695,[]),(247,[]),(247,[]),(87,[]),(55,[]),(12,[0,0,0,3,0,0])]) 52 [] none rfl Try.func9 (by kernel_rfl)
theorem t340:Has K 340 ir_impl_ClaimOfOrder:=hz (r:=⟨340,10,⟨[.v,.v],[(.a (.o (.o (.o .v)))),.v],[],none⟩⟩) (vt:=[(0,.v),(1,.v),(4,(.b (.o (.o (.o .v))))),(5,.v),(6,(.b (.o (.o (.o .v))))),(7,.v),(9,.v),(13,.v),(23,.v),(25,.v),(26,.v),(27,.v),(28,.v),(33,.v)]) (hl:=[(7,[3,0]),(135,[]),(12,[3,0,0]),(23,[0,0,0,1,3,3,0]),(54,[]),(310,[]),(3638,[]),(7734,[]),(3702,[]),(11894,[]),(54,[]),(3638,[]),(54,[77776,0,1,0,0,101037,0,0,0]),(12,[1,0,0])]) 43 [] none rfl Try.func10 (by kernel_rfl)
theorem t349:Has K 349 ir_spec_IsTamariLess:=hz (r:=⟨349,27,⟨[.v,.v],[.v],[],none⟩⟩) (vt:=[(0,.v),(1,.v),(4,.v),(5,.v),(6,.v),(7,.v),(11,.v),(19,.v),(30,.v)]) (hl:=[(3,[]),(67,[]),(4,[]),(10,[]),(24,[]),(56,[]),(184,[]),(312,[]),(4,[]),(56,[]),(4,[])]) 31 [] none rfl Try.func27 (by kernel_rfl)
theorem t350:Has K 350 ir_impl_IsTamariLess:=hz (r:=⟨350,30,⟨[.v,.v],[.v],[],none⟩⟩) (vt:=[(0,.v),(1,.v),(4,.v),(5,.v),(6,.v),(7,.v),(11,.v),(17,.v),(18,.v),(19,.v),(29,.v)]) (hl:=[(3,[]),(67,[]),(4,[]),(24,[]),(408,[]),(920,[]),(440,[]),(1432,[]),(4,[]),(408,[]),(4,[])]) 31 [] none rfl Try.func30 (by kernel_rfl)
theorem t365:Has K 365 ir_spec_l17Fit:=hz (r:=⟨365,67,⟨[.v,.v],[.v],[],none⟩⟩) (vt:=[(0,.v),(1,.v),(4,.v)]) (hl:=[(3,[]),(4,[])]) 18 [] none rfl Try.func67 (by kernel_rfl)
theorem t367:Has K 367 ir_impl_alike:=hz (r:=⟨367,73,⟨[.v,.v,.v],[.v],[],none⟩⟩) (vt:=[(0,.v),(1,.v),(2,.v),(6,.v),(7,.v)]) (hl:=[(7,[]),(22,[]),(8,[])]) 23 [] none rfl Try.func73 (by kernel_rfl)
instance:HA K:=⟨t15,t16,t17,t22,t26,t44,t45,t46,t119,t122,t123,t155,t158,t159,t160,t162,t164,t169,t171,t188,t191,t192,t194,t196,t197,t199,t201_w202,t201,t207,t208,t210,t213,t331,t339,t340,t349,t350,t365,t367⟩
end Go.Proofs.Ytgncagjobmbmaaa.fnExactClaimOfOrder
