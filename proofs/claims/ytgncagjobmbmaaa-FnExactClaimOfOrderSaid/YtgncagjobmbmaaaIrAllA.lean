/-
 Texts of the little language.
-/
import Derived.Test.YtgncagjobmbmaaaCatThree
set_option linter.unusedSimpArgs false
set_option linter.unusedVariables false
namespace Go.Cat
def zn:Nat→List (Option Nat)→List (Option Nat)
 | 0,l=>l
 | k+1,l=>none::zn k l
def zs (n:Nat) (l:List (Option Nat)):List (Option Nat):=some n::l
def zq (a:List It) (b:List (Option Nat)) (s:S):S:=.seq (.reg a b) s
def zi (p:Pr) (l:List It):List It:=⟨[],[],p⟩::l
def zg (g:List (Nat×Bool)) (p:Pr) (l:List It):List It:=⟨[],g,p⟩::l
def zp:Nat→List It→List It
 | 0,l=>l
 | k+1,l=>⟨[],[],.nop⟩::zp k l
end Go.Cat
namespace Go.Cat
def ir_spec_l1In:IF:=⟨[],3,4,[3],zq (zi (.cs .v (.b false)) []) (zs 0<|zs 1<|zs 2<|zn 1 [])<|
 zq (zp 2<|zi (.bi .geq (.e 0) (.e 1))<|zp 1<|zg [(4,true)] (.cy (.e 0))<|zg [(4,true)] (.cy (.e 2))<|zg [(4,true)] (.bi .leq (.e 5) (.e 6))<|zi (.pk (.e 4) (.e 7) (.c (.b false)))<|zp 1 []) (zn 3<|zs 8 [])<|
 .ret⟩
end Go.Cat
namespace Go.Cat
end Go.Cat
namespace Go.Cat
end Go.Cat
namespace Go.Cat
end Go.Cat
namespace Go.Cat
end Go.Cat
namespace Go.Cat
def ir_impl_NodesOf:IF:=⟨[],1,5,[1],zq (zi (.cs .v (.n 0)) []) (zs 0<|zn 4 [])<|
 zq (zp 1<|zi (.ca 194 [.e 0] 2)<|zp 5 []) (zn 2<|zs 5<|zs 6<|zn 1 [])<|
 .seq (zq (zp 1<|zi (.un .not (.e 3)) []) (zn 2<|zs 2<|zn 1<|zs 5 [])<|
 .cond 4 (zq (zi (.cs .v (.n (-1))) []) (zn 1<|zs 5<|zn 3 [])<|
 .ret) .skip)<|
 zq (zp 1<|zi (.ca 197 [.e 2] 1)<|zp 1 []) (zn 1<|zs 5<|zn 3 [])<|
 .ret⟩
def ir_impl_parseTree:IF:=⟨[],1,7,[1,2],zq (zi (.cs .v .z)<|zi (.cs .v (.b false)) []) (zs 0<|zn 6 [])<|
 .seq (zq (zp 1<|zi (.sn (.e 0))<|zi (.bi .gtr (.e 7) (.c (.n 25))) []) (zs 0<|zn 4<|zs 8<|zn 1 [])<|
 .cond 5 (zq (zi (.cs .v .z)<|zi (.cs .v (.b false)) []) (zn 1<|zs 7<|zs 8<|zn 4 [])<|
 .ret) .skip)<|
 zq (zp 1<|zi (.ca 208 [.e 0,.c (.n 0)] 2)<|zp 5 []) (zs 0<|zn 2<|zs 7<|zs 8<|zn 2 [])<|
 .seq (zq (zp 2<|zi (.sn (.e 0))<|zi (.bi .neq (.e 4) (.e 7))<|zp 1<|zg [(8,false)] (.cy (.e 3))<|zg [(8,false)] (.ca 197 [.e 9] 1)<|zg [(8,false)] (.bi .gtr (.e 10) (.c (.n 8)))<|zi (.pk (.e 8) (.c (.b true)) (.e 11)) []) (zn 3<|zs 3<|zn 2<|zs 12 [])<|
 .cond 6 (zq (zi (.cs .v .z)<|zi (.cs .v (.b false)) []) (zn 1<|zs 7<|zs 8<|zn 4 [])<|
 .ret) .skip)<|
 zq (zp 2<|zi (.cs .v (.b true)) []) (zn 1<|zs 3<|zs 7<|zn 4 [])<|
 .ret⟩
def ir_impl_readTree:IF:=⟨[],2,14,[2,3],zq (zi (.cs .v .z)<|zi (.cs .v (.n 0)) []) (zs 0<|zs 1<|zn 12 [])<|
 .seq (zq (zp 2<|zi (.sn (.e 0))<|zi (.bi .geq (.e 1) (.e 14)) []) (zs 0<|zs 1<|zn 6<|zs 15<|zn 5 [])<|
 .cond 8 (zq (zi (.cs .v .z)<|zi (.cs .v (.n (-1))) []) (zn 2<|zs 14<|zs 15<|zn 10 [])<|
 .ret) .skip)<|
 .seq (zq (zp 2<|zi (.sx (.e 0) (.e 1)) []) (zs 0<|zs 1<|zn 7<|zs 14<|zn 4 [])<|
 .block 0<|zq (zi (.bi .eql (.e 9) (.c (.y 46)))<|zp 1 []) (zs 0<|zs 1<|zn 7<|zs 9<|zs 14<|zn 3 [])<|
 .cond 10 (zq (zp 1<|zi (.bi .add (.e 1) (.c (.n 1)))<|zi (.cs .v .z)<|zp 1 []) (zn 2<|zs 15<|zs 14<|zn 10 [])<|
 .ret) (zq (zi (.bi .eql (.e 9) (.c (.y 40)))<|zp 1 []) (zs 0<|zs 1<|zn 9<|zs 14<|zn 2 [])<|
 .cond 11 (zq (zp 2<|zi (.bi .add (.e 1) (.c (.n 1)))<|zi (.ca 208 [.e 0,.e 14] 2)<|zp 5 []) (zs 0<|zn 3<|zs 15<|zs 16<|zn 8 [])<|
 .seq (zq (zp 1<|zi (.bi .lss (.e 5) (.c (.n 0))) []) (zs 0<|zn 3<|zs 4<|zs 5<|zn 6<|zs 14<|zn 1 [])<|
 .cond 12 (zq (zi (.cs .v .z)<|zi (.cs .v (.n (-1))) []) (zn 2<|zs 14<|zs 15<|zn 10 [])<|
 .ret) .skip)<|
 zq (zp 2<|zi (.ca 208 [.e 0,.e 5] 2)<|zp 5 []) (zs 0<|zn 3<|zs 4<|zn 1<|zs 14<|zs 15<|zn 6 [])<|
 .seq (zq (zp 1<|zi (.bi .lss (.e 7) (.c (.n 0)))<|zp 1<|zg [(14,false)] (.cy (.e 7))<|zg [(14,false)] (.cy (.e 0))<|zg [(14,false)] (.sn (.e 16))<|zg [(14,false)] (.bi .geq (.e 15) (.e 17))<|zi (.pk (.e 14) (.c (.b true)) (.e 18))<|zp 1<|zg [(19,false)] (.cy (.e 0))<|zg [(19,false)] (.cy (.e 7))<|zg [(19,false)] (.sx (.e 20) (.e 21))<|zg [(19,false)] (.bi .neq (.e 22) (.c (.y 41)))<|zi (.pk (.e 19) (.c (.b true)) (.e 23)) []) (zn 4<|zs 4<|zn 1<|zs 6<|zs 7<|zn 5<|zs 24 [])<|
 .cond 13 (zq (zi (.cs .v .z)<|zi (.cs .v (.n (-1))) []) (zn 2<|zs 14<|zs 15<|zn 10 [])<|
 .ret) .skip)<|
 zq (zp 2<|zi (.bg 0 [(.e 4,0),(.e 6,0)])<|zi (.bp (.e 14))<|zp 1<|zi (.bi .add (.e 7) (.c (.n 1)))<|zp 2 []) (zn 2<|zs 15<|zs 16<|zn 10 [])<|
 .ret) .skip))<|
 zq (zi (.cs .v .z)<|zi (.cs .v (.n (-1))) []) (zn 2<|zs 14<|zs 15<|zn 10 [])<|
 .ret⟩
end Go.Cat
namespace Go.Cat
def ir_spec_IsBinary:IF:=⟨[],1,2,[1],zq (zi (.cs .v (.b false)) []) (zs 0<|zn 1 [])<|
 zq (zp 1<|zi (.sn (.e 0))<|zi (.bi .leq (.e 2) (.c (.n 25)))<|zp 1<|zg [(3,true)] (.cy (.e 0))<|zg [(3,true)] (.ca 188 [.e 4,.c (.n 0)] 1)<|zg [(3,true)] (.cy (.e 0))<|zg [(3,true)] (.sn (.e 6))<|zg [(3,true)] (.bi .eql (.e 5) (.e 7))<|zi (.pk (.e 3) (.e 8) (.c (.b false)))<|zp 1<|zg [(9,true)] (.cy (.e 0))<|zg [(9,true)] (.bi .neq (.e 10) (.c (.s [])))<|zi (.pk (.e 9) (.e 11) (.c (.b false)))<|zp 1 []) (zn 1<|zs 12 [])<|
 .ret⟩
def ir_spec_NodesOf:IF:=⟨[],1,3,[1],zq (zi (.cs .v (.n 0)) []) (zs 0<|zn 2 [])<|
 .seq (zq (zp 1<|zi (.ca 160 [.e 0] 1)<|zi (.un .not (.e 3)) []) (zs 0<|zn 1<|zs 4 [])<|
 .cond 2 (zq (zi (.cs .v (.n (-1))) []) (zn 1<|zs 3<|zn 1 [])<|
 .ret) .skip)<|
 zq (zp 1<|zi (.sn (.e 0))<|zi (.bi .sub (.e 3) (.c (.n 1)))<|zi (.bi .quo (.e 4) (.c (.n 3)))<|zp 1 []) (zn 1<|zs 5<|zn 1 [])<|
 .ret⟩
def ir_spec_l6End:IF:=⟨[],2,10,[2],zq (zi (.cs .v (.n 0)) []) (zs 0<|zs 1<|zn 8 [])<|
 .seq (zq (zp 2<|zi (.sn (.e 0))<|zi (.bi .geq (.e 1) (.e 10)) []) (zs 0<|zs 1<|zn 3<|zs 11<|zn 4 [])<|
 .cond 5 (zq (zi (.cs .v (.n (-1))) []) (zn 2<|zs 10<|zn 7 [])<|
 .ret) .skip)<|
 .seq (zq (zp 2<|zi (.sx (.e 0) (.e 1))<|zi (.bi .eql (.e 10) (.c (.y 46))) []) (zs 0<|zs 1<|zn 4<|zs 11<|zn 3 [])<|
 .cond 6 (zq (zp 1<|zi (.bi .add (.e 1) (.c (.n 1)))<|zp 1 []) (zn 2<|zs 10<|zn 7 [])<|
 .ret) .skip)<|
 .seq (zq (zp 2<|zi (.sx (.e 0) (.e 1))<|zi (.bi .neq (.e 10) (.c (.y 40))) []) (zs 0<|zs 1<|zn 5<|zs 11<|zn 2 [])<|
 .cond 7 (zq (zi (.cs .v (.n (-1))) []) (zn 2<|zs 10<|zn 7 [])<|
 .ret) .skip)<|
 zq (zp 2<|zi (.bi .add (.e 1) (.c (.n 1)))<|zi (.ca 188 [.e 0,.e 10] 1)<|zp 1 []) (zs 0<|zn 2<|zs 11<|zn 6 [])<|
 .seq (zq (zp 1<|zi (.bi .lss (.e 3) (.c (.n 0))) []) (zs 0<|zn 2<|zs 3<|zn 4<|zs 10<|zn 1 [])<|
 .cond 8 (zq (zi (.cs .v (.n (-1))) []) (zn 2<|zs 10<|zn 7 [])<|
 .ret) .skip)<|
 zq (zp 2<|zi (.ca 188 [.e 0,.e 3] 1)<|zp 1 []) (zs 0<|zn 3<|zs 10<|zn 5 [])<|
 .seq (zq (zp 1<|zi (.bi .lss (.e 4) (.c (.n 0)))<|zp 1<|zg [(10,false)] (.cy (.e 4))<|zg [(10,false)] (.cy (.e 0))<|zg [(10,false)] (.sn (.e 12))<|zg [(10,false)] (.bi .geq (.e 11) (.e 13))<|zi (.pk (.e 10) (.c (.b true)) (.e 14))<|zp 1<|zg [(15,false)] (.cy (.e 0))<|zg [(15,false)] (.cy (.e 4))<|zg [(15,false)] (.sx (.e 16) (.e 17))<|zg [(15,false)] (.bi .neq (.e 18) (.c (.y 41)))<|zi (.pk (.e 15) (.c (.b true)) (.e 19)) []) (zn 4<|zs 4<|zn 4<|zs 20 [])<|
 .cond 9 (zq (zi (.cs .v (.n (-1))) []) (zn 2<|zs 10<|zn 7 [])<|
 .ret) .skip)<|
 zq (zp 1<|zi (.bi .add (.e 4) (.c (.n 1)))<|zp 1 []) (zn 2<|zs 10<|zn 7 [])<|
 .ret⟩
end Go.Cat
namespace Go.Cat
def ir_impl_tree_find:IF:=⟨[],2,7,[2],zq (zi (.cs .v .z) []) (zs 0<|zs 1<|zn 5 [])<|
 .seq (zq (zp 1<|zi (.nz true (.e 0))<|zp 1<|zg [(7,false)] (.cy (.e 1))<|zg [(7,false)] (.bi .lss (.e 8) (.c (.n 0)))<|zi (.pk (.e 7) (.c (.b true)) (.e 9)) []) (zs 0<|zs 1<|zn 2<|zs 10<|zn 2 [])<|
 .cond 4 (zq (zi (.cs .v .z) []) (zn 2<|zs 7<|zn 4 [])<|
 .ret) .skip)<|
 zq (zp 1<|zi (.nn (.e 0))<|zi (.fp false (.e 7) 0)<|zp 1<|zi (.ca 197 [.e 8] 1)<|zp 1 []) (zs 0<|zs 1<|zn 1<|zs 9<|zn 3 [])<|
 .seq (.block 0<|zq (zp 2<|zi (.bi .lss (.e 1) (.e 3))<|zp 1 []) (zs 0<|zs 1<|zn 1<|zs 3<|zn 1<|zs 7<|zn 1 [])<|
 .cond 5 (zq (zp 1<|zi (.nn (.e 0))<|zi (.fp false (.e 7) 0)<|zp 2<|zi (.ca 213 [.e 8,.e 1] 1)<|zp 1 []) (zn 2<|zs 9<|zn 4 [])<|
 .ret) (zq (zp 2<|zi (.bi .eql (.e 1) (.e 3))<|zp 1 []) (zs 0<|zs 1<|zn 1<|zs 3<|zn 2<|zs 7 [])<|
 .cond 6 (zq (zp 2 []) (zn 2<|zs 0<|zn 4 [])<|
 .ret) .skip))<|
 zq (zp 1<|zi (.nn (.e 0))<|zi (.fp false (.e 7) 1)<|zp 3<|zi (.bi .sub (.e 1) (.e 3))<|zi (.bi .sub (.e 9) (.c (.n 1)))<|zi (.ca 213 [.e 8,.e 10] 1)<|zp 1 []) (zn 2<|zs 11<|zn 4 [])<|
 .ret⟩
def ir_impl_tree_nodes:IF:=⟨[],1,3,[1],zq (zi (.cs .v (.n 0)) []) (zs 0<|zn 2 [])<|
 .seq (zq (zp 1<|zi (.nz true (.e 0)) []) (zs 0<|zn 1<|zs 3 [])<|
 .cond 2 (zq (zi (.cs .v (.n 0)) []) (zn 1<|zs 3<|zn 1 [])<|
 .ret) .skip)<|
 zq (zp 1<|zi (.nn (.e 0))<|zi (.fp false (.e 3) 0)<|zp 1<|zi (.ca 197 [.e 4] 1)<|zp 1<|zi (.nn (.e 0))<|zi (.fp false (.e 6) 1)<|zp 1<|zi (.ca 197 [.e 7] 1)<|zi (.bi .add (.e 5) (.e 8))<|zi (.bi .add (.e 9) (.c (.n 1)))<|zp 1 []) (zn 1<|zs 10<|zn 1 [])<|
 .ret⟩
def ir_impl_tree_text:IF:=⟨[],1,3,[1],zq (zi (.cs .v (.s [])) []) (zs 0<|zn 2 [])<|
 .seq (zq (zp 1<|zi (.nz true (.e 0)) []) (zs 0<|zn 1<|zs 3 [])<|
 .cond 2 (zq (zi (.cs .v (.s [46])) []) (zn 1<|zs 3<|zn 1 [])<|
 .ret) .skip)<|
 zq (zp 1<|zi (.nn (.e 0))<|zi (.fp false (.e 3) 0)<|zp 1<|zi (.ca 196 [.e 4] 1)<|zi (.bi .add (.c (.s [40])) (.e 5))<|zp 1<|zi (.nn (.e 0))<|zi (.fp false (.e 7) 1)<|zp 1<|zi (.ca 196 [.e 8] 1)<|zi (.bi .add (.e 6) (.e 9))<|zi (.bi .add (.e 10) (.c (.s [41])))<|zp 1 []) (zn 1<|zs 11<|zn 1 [])<|
 .ret⟩
def ir_impl_tree_weights:IF:=⟨[],2,4,[2],zq (zi (.cs (.o .v) (.l [])) []) (zs 0<|zs 1<|zn 2 [])<|
 .seq (zq (zp 1<|zi (.nz true (.e 0)) []) (zs 0<|zs 1<|zn 1<|zs 4 [])<|
 .cond 3 (zq (zp 2 []) (zn 2<|zs 1<|zn 1 [])<|
 .ret) .skip)<|
 zq (zp 1<|zi (.nn (.e 0))<|zi (.fp false (.e 4) 1)<|zp 2<|zi (.nn (.e 0))<|zi (.fp false (.e 6) 0)<|zp 2<|zi (.ca 199 [.e 7,.e 1] 1)<|zp 1<|zi (.nn (.e 0))<|zi (.fp false (.e 9) 1)<|zp 1<|zi (.ca 197 [.e 10] 1)<|zi (.li (.o .v) [.e 11])<|zi (.ap false (.e 8) (.e 12))<|zi (.ca 199 [.e 5,.e 13] 1)<|zp 1 []) (zn 2<|zs 14<|zn 1 [])<|
 .ret⟩
end Go.Cat
namespace Go.Cat
end Go.Cat
namespace Go.Cat
end Go.Cat
namespace Go.Cat
end Go.Cat
namespace Go.Cat
end Go.Cat
namespace Go.Cat
end Go.Cat
namespace Go.Cat
end Go.Cat
namespace Go.Cat
end Go.Cat
namespace Go.Cat
end Go.Cat
namespace Go.Cat
end Go.Cat
namespace Go.Cat
end Go.Cat
namespace Go.Cat
end Go.Cat
namespace Go.Cat
def ir_impl_WeightsOf:IF:=⟨[],1,3,[1],zq (zi (.cs (.o .v) (.l [])) []) (zs 0<|zn 2 [])<|
 zq (zp 1<|zi (.ca 194 [.e 0] 2)<|zp 5 []) (zn 2<|zs 3 [])<|
 zq (zp 1<|zi (.li (.o .v) [])<|zi (.ca 199 [.e 2,.e 3] 1)<|zp 1 []) (zn 1<|zs 4<|zn 1 [])<|
 .ret⟩
def ir_impl_node:IF:=⟨[],2,7,[2,3],zq (zi (.cs .v .z)<|zi (.cs .v .z) []) (zs 0<|zs 1<|zn 5 [])<|
 zq (zp 1<|zi (.ca 194 [.e 0] 2)<|zp 5 []) (zn 1<|zs 1<|zn 2<|zs 7<|zs 8<|zn 1 [])<|
 .seq (zq (zp 1<|zi (.un .not (.e 5)) []) (zn 1<|zs 1<|zn 2<|zs 4<|zn 1<|zs 7 [])<|
 .cond 6 (zq (zi (.cs .v .z)<|zi (.cs .v .z) []) (zn 2<|zs 7<|zs 8<|zn 3 [])<|
 .ret) .skip)<|
 zq (zp 3<|zi (.ca 213 [.e 4,.e 1] 1)<|zp 2 []) (zn 2<|zs 4<|zs 7<|zn 3 [])<|
 .ret⟩
def ir_impl_rotations:IF:=⟨[],2,9,[2],zq (zi (.cs (.o .v) (.l [])) []) (zs 0<|zs 1<|zn 7 [])<|
 zq (zi (.li (.o .v) [])<|zp 1 []) (zs 0<|zs 1<|zn 1<|zs 9<|zn 5 [])<|
 .seq (zq (zi (.cs .v (.n 0)) []) (zs 0<|zs 1<|zn 1<|zs 3<|zs 9<|zn 4 [])<|
 .block 0<|.loop<|.seq (zq (zp 2<|zi (.ca 169 [.e 0] 1)<|zi (.bi .lss (.e 4) (.e 9)) []) (zs 0<|zs 1<|zn 1<|zs 3<|zs 4<|zn 2<|zs 10<|zn 1 [])<|
 .cond 7 .skip (.exit 0))<|
 .seq (.block 1<|zq (zp 3<|zi (.cd (.e 1) 200 [.e 0,.e 4] 2)<|zp 5 []) (zs 0<|zs 1<|zn 1<|zs 3<|zs 4<|zs 9<|zs 10<|zn 2 [])<|
 zq (zp 1 []) (zs 0<|zs 1<|zn 1<|zs 3<|zs 4<|zs 5<|zn 2<|zs 6 [])<|
 .cond 8 (.reg (zp 2<|zi (.li (.o .v) [.e 5])<|zi (.ap false (.e 3) (.e 9))<|zp 1 []) (zs 0<|zs 1<|zn 1<|zs 10<|zs 4<|zn 4 [])) .skip)<|
 .reg (zp 1<|zi (.bi .add (.e 4) (.c (.n 1)))<|zp 1 []) (zs 0<|zs 1<|zn 1<|zs 3<|zs 9<|zn 4 []))<|
 zq (zp 2 []) (zn 2<|zs 3<|zn 6 [])<|
 .ret⟩
def ir_impl_rotations_w202:IF:=⟨[],2,9,[2],zq (zi (.cs (.o .v) (.l [])) []) (zs 0<|zs 1<|zn 7 [])<|
 zq (zi (.li (.o .v) [])<|zp 1 []) (zs 0<|zs 1<|zn 1<|zs 9<|zn 5 [])<|
 .seq (zq (zi (.cs .v (.n 0)) []) (zs 0<|zs 1<|zn 1<|zs 3<|zs 9<|zn 4 [])<|
 .block 0<|.loop<|.seq (zq (zp 2<|zi (.ca 169 [.e 0] 1)<|zi (.bi .lss (.e 4) (.e 9)) []) (zs 0<|zs 1<|zn 1<|zs 3<|zs 4<|zn 2<|zs 10<|zn 1 [])<|
 .cond 7 .skip (.exit 0))<|
 .seq (.block 1<|zq (zp 3<|zi (.cd (.e 1) 202 [.e 0,.e 4] 2)<|zp 5 []) (zs 0<|zs 1<|zn 1<|zs 3<|zs 4<|zs 9<|zs 10<|zn 2 [])<|
 zq (zp 1 []) (zs 0<|zs 1<|zn 1<|zs 3<|zs 4<|zs 5<|zn 2<|zs 6 [])<|
 .cond 8 (.reg (zp 2<|zi (.li (.o .v) [.e 5])<|zi (.ap false (.e 3) (.e 9))<|zp 1 []) (zs 0<|zs 1<|zn 1<|zs 10<|zs 4<|zn 4 [])) .skip)<|
 .reg (zp 1<|zi (.bi .add (.e 4) (.c (.n 1)))<|zp 1 []) (zs 0<|zs 1<|zn 1<|zs 3<|zs 9<|zn 4 []))<|
 zq (zp 2 []) (zn 2<|zs 3<|zn 6 [])<|
 .ret⟩
end Go.Cat
namespace Go.Cat
def ir_laws_eqClaim:IF:=⟨[],2,12,[4],zq (zi (.bp (.e 0))<|zi (.bp (.e 1))<|zi (.cs .v (.b false)) []) (zn 2<|zs 12<|zs 13<|zn 8 [])<|
 .seq (zq (zi (.fp true (.e 2) 0)<|zp 1<|zi (.fp true (.e 3) 0)<|zp 1<|zi (.bi .neq (.e 12) (.e 13)) []) (zn 2<|zs 2<|zs 3<|zn 1<|zs 14<|zn 6 [])<|
 .cond 5 (zq (zi (.cs .v (.b false)) []) (zn 4<|zs 12<|zn 7 [])<|
 .ret) .skip)<|
 .seq (zq (zi (.fp true (.e 2) 1)<|zp 1<|zi (.fp true (.e 3) 1)<|zp 1<|zi (.bi .neq (.e 12) (.e 13)) []) (zn 2<|zs 2<|zs 3<|zn 2<|zs 14<|zn 5 [])<|
 .cond 6 (zq (zi (.cs .v (.b false)) []) (zn 4<|zs 12<|zn 7 [])<|
 .ret) .skip)<|
 .seq (zq (zi (.fp true (.e 2) 2)<|zp 1<|zi (.fp true (.e 3) 2)<|zp 1<|zi (.bi .neq (.e 12) (.e 13)) []) (zn 2<|zs 2<|zs 3<|zn 3<|zs 14<|zn 4 [])<|
 .cond 7 (zq (zi (.cs .v (.b false)) []) (zn 4<|zs 12<|zn 7 [])<|
 .ret) .skip)<|
 .seq (zq (zi (.fp false (.e 2) 3)<|zp 1<|zi (.fp false (.e 3) 3)<|zp 1<|zi (.ca 15 [.e 12,.e 13] 1)<|zi (.un .not (.e 14)) []) (zn 2<|zs 2<|zs 3<|zn 4<|zs 15<|zn 3 [])<|
 .cond 8 (zq (zi (.cs .v (.b false)) []) (zn 4<|zs 12<|zn 7 [])<|
 .ret) .skip)<|
 .seq (zq (zi (.fp false (.e 2) 4)<|zp 1<|zi (.fp false (.e 3) 4)<|zp 1<|zi (.ca 44 [.e 12,.e 13] 1)<|zi (.un .not (.e 14)) []) (zn 2<|zs 2<|zs 3<|zn 5<|zs 15<|zn 2 [])<|
 .cond 9 (zq (zi (.cs .v (.b false)) []) (zn 4<|zs 12<|zn 7 [])<|
 .ret) .skip)<|
 .seq (zq (zi (.fp false (.e 2) 5)<|zp 1<|zi (.fp false (.e 3) 5)<|zp 1<|zi (.ca 44 [.e 12,.e 13] 1)<|zi (.un .not (.e 14)) []) (zn 2<|zs 2<|zs 3<|zn 6<|zs 15<|zn 1 [])<|
 .cond 10 (zq (zi (.cs .v (.b false)) []) (zn 4<|zs 12<|zn 7 [])<|
 .ret) .skip)<|
 .seq (zq (zi (.fp false (.e 2) 6)<|zp 1<|zi (.fp false (.e 3) 6)<|zp 1<|zi (.ca 155 [.e 12,.e 13] 1)<|zi (.un .not (.e 14)) []) (zn 11<|zs 15 [])<|
 .cond 11 (zq (zi (.cs .v (.b false)) []) (zn 4<|zs 12<|zn 7 [])<|
 .ret) .skip)<|
 zq (zi (.cs .v (.b true)) []) (zn 4<|zs 12<|zn 7 [])<|
 .ret⟩
def ir_laws_eqIntS:IF:=⟨[],2,7,[2],zq (zi (.cs .v (.b false)) []) (zs 0<|zs 1<|zn 5 [])<|
 .seq (zq (zp 1<|zi (.ln (.e 0) [])<|zp 1<|zi (.ln (.e 1) [])<|zi (.bi .neq (.e 7) (.e 8)) []) (zs 0<|zs 1<|zn 2<|zs 9<|zn 2 [])<|
 .cond 4 (zq (zi (.cs .v (.b false)) []) (zn 2<|zs 7<|zn 4 [])<|
 .ret) .skip)<|
 .seq (zq (zi (.cs .v (.n 0)) []) (zs 0<|zs 1<|zn 1<|zs 7<|zn 3 [])<|
 .block 0<|.loop<|.seq (zq (zp 2<|zi (.ln (.e 0) [])<|zi (.bi .lss (.e 3) (.e 7)) []) (zs 0<|zs 1<|zn 1<|zs 3<|zn 1<|zs 8<|zn 1 [])<|
 .cond 5 .skip (.exit 0))<|
 .seq (.block 1<|zq (zp 2<|zi (.iy (.e 0) (.e 3))<|zp 3<|zi (.iy (.e 1) (.e 3))<|zp 1<|zi (.bi .neq (.e 7) (.e 8)) []) (zs 0<|zs 1<|zn 1<|zs 3<|zn 2<|zs 9 [])<|
 .cond 6 (zq (zi (.cs .v (.b false)) []) (zn 2<|zs 7<|zn 4 [])<|
 .ret) .skip)<|
 .reg (zp 1<|zi (.bi .add (.e 3) (.c (.n 1)))<|zp 1 []) (zs 0<|zs 1<|zn 1<|zs 7<|zn 3 []))<|
 zq (zi (.cs .v (.b true)) []) (zn 2<|zs 7<|zn 4 [])<|
 .ret⟩
def ir_laws_eqIntSS:IF:=⟨[],2,7,[2],zq (zi (.cs .v (.b false)) []) (zs 0<|zs 1<|zn 5 [])<|
 .seq (zq (zp 1<|zi (.ln (.e 0) [])<|zp 1<|zi (.ln (.e 1) [])<|zi (.bi .neq (.e 7) (.e 8)) []) (zs 0<|zs 1<|zn 2<|zs 9<|zn 2 [])<|
 .cond 4 (zq (zi (.cs .v (.b false)) []) (zn 2<|zs 7<|zn 4 [])<|
 .ret) .skip)<|
 .seq (zq (zi (.cs .v (.n 0)) []) (zs 0<|zs 1<|zn 1<|zs 7<|zn 3 [])<|
 .block 0<|.loop<|.seq (zq (zp 2<|zi (.ln (.e 0) [])<|zi (.bi .lss (.e 3) (.e 7)) []) (zs 0<|zs 1<|zn 1<|zs 3<|zn 1<|zs 8<|zn 1 [])<|
 .cond 5 .skip (.exit 0))<|
 .seq (.block 1<|zq (zp 2<|zi (.ix (.e 0) [] (.e 3))<|zp 3<|zi (.ix (.e 1) [] (.e 3))<|zp 1<|zi (.ca 44 [.e 7,.e 8] 1)<|zi (.un .not (.e 9)) []) (zs 0<|zs 1<|zn 1<|zs 3<|zn 2<|zs 10 [])<|
 .cond 6 (zq (zi (.cs .v (.b false)) []) (zn 2<|zs 7<|zn 4 [])<|
 .ret) .skip)<|
 .reg (zp 1<|zi (.bi .add (.e 3) (.c (.n 1)))<|zp 1 []) (zs 0<|zs 1<|zn 1<|zs 7<|zn 3 []))<|
 zq (zi (.cs .v (.b true)) []) (zn 2<|zs 7<|zn 4 [])<|
 .ret⟩
def ir_laws_eqStringS:IF:=⟨[],2,7,[2],zq (zi (.cs .v (.b false)) []) (zs 0<|zs 1<|zn 5 [])<|
 .seq (zq (zp 1<|zi (.ln (.e 0) [])<|zp 1<|zi (.ln (.e 1) [])<|zi (.bi .neq (.e 7) (.e 8)) []) (zs 0<|zs 1<|zn 2<|zs 9<|zn 2 [])<|
 .cond 4 (zq (zi (.cs .v (.b false)) []) (zn 2<|zs 7<|zn 4 [])<|
 .ret) .skip)<|
 .seq (zq (zi (.cs .v (.n 0)) []) (zs 0<|zs 1<|zn 1<|zs 7<|zn 3 [])<|
 .block 0<|.loop<|.seq (zq (zp 2<|zi (.ln (.e 0) [])<|zi (.bi .lss (.e 3) (.e 7)) []) (zs 0<|zs 1<|zn 1<|zs 3<|zn 1<|zs 8<|zn 1 [])<|
 .cond 5 .skip (.exit 0))<|
 .seq (.block 1<|zq (zp 2<|zi (.iy (.e 0) (.e 3))<|zp 3<|zi (.iy (.e 1) (.e 3))<|zp 1<|zi (.bi .neq (.e 7) (.e 8)) []) (zs 0<|zs 1<|zn 1<|zs 3<|zn 2<|zs 9 [])<|
 .cond 6 (zq (zi (.cs .v (.b false)) []) (zn 2<|zs 7<|zn 4 [])<|
 .ret) .skip)<|
 .reg (zp 1<|zi (.bi .add (.e 3) (.c (.n 1)))<|zp 1 []) (zs 0<|zs 1<|zn 1<|zs 7<|zn 3 []))<|
 zq (zi (.cs .v (.b true)) []) (zn 2<|zs 7<|zn 4 [])<|
 .ret⟩
def ir_laws_heldClaim:IF:=⟨[],2,8,[3],zq (zi (.bp (.e 0))<|zi (.cs .v (.n 0)) []) (zn 1<|zs 1<|zs 8<|zn 5 [])<|
 zq (zi (.fp false (.e 2) 3)<|zp 2<|zi (.ca 17 [.e 8,.e 1] 1)<|zp 1 []) (zn 1<|zs 9<|zs 2<|zn 5 [])<|
 .seq (zq (zp 1<|zi (.bi .lss (.e 1) (.c (.n 0))) []) (zn 1<|zs 1<|zs 2<|zn 1<|zs 8<|zn 3 [])<|
 .cond 4 (zq (zi (.cs .v (.n (-1))) []) (zn 3<|zs 8<|zn 4 [])<|
 .ret) .skip)<|
 zq (zi (.fp false (.e 2) 4)<|zp 2<|zi (.ca 46 [.e 8,.e 1] 1)<|zp 1 []) (zn 1<|zs 9<|zs 2<|zn 5 [])<|
 .seq (zq (zp 1<|zi (.bi .lss (.e 1) (.c (.n 0))) []) (zn 1<|zs 1<|zs 2<|zn 2<|zs 8<|zn 2 [])<|
 .cond 5 (zq (zi (.cs .v (.n (-1))) []) (zn 3<|zs 8<|zn 4 [])<|
 .ret) .skip)<|
 zq (zi (.fp false (.e 2) 5)<|zp 2<|zi (.ca 46 [.e 8,.e 1] 1)<|zp 1 []) (zn 1<|zs 9<|zs 2<|zn 5 [])<|
 .seq (zq (zp 1<|zi (.bi .lss (.e 1) (.c (.n 0))) []) (zn 1<|zs 1<|zs 2<|zn 3<|zs 8<|zn 1 [])<|
 .cond 6 (zq (zi (.cs .v (.n (-1))) []) (zn 3<|zs 8<|zn 4 [])<|
 .ret) .skip)<|
 zq (zi (.fp false (.e 2) 6)<|zp 2<|zi (.ca 159 [.e 8,.e 1] 1)<|zp 1 []) (zn 1<|zs 9<|zn 6 [])<|
 .seq (zq (zp 1<|zi (.bi .lss (.e 1) (.c (.n 0))) []) (zn 1<|zs 1<|zn 5<|zs 8 [])<|
 .cond 7 (zq (zi (.cs .v (.n (-1))) []) (zn 3<|zs 8<|zn 4 [])<|
 .ret) .skip)<|
 zq (zp 2 []) (zn 3<|zs 1<|zn 4 [])<|
 .ret⟩
def ir_laws_heldIntS:IF:=⟨[],2,6,[2],zq (zi (.cs .v (.n 0)) []) (zs 0<|zs 1<|zn 4 [])<|
 .seq (zq (zi (.cs .v (.n 0)) []) (zs 0<|zs 1<|zn 1<|zs 6<|zn 2 [])<|
 .block 0<|.loop<|.seq (zq (zp 2<|zi (.ln (.e 0) [])<|zi (.bi .lss (.e 3) (.e 6)) []) (zs 0<|zs 1<|zn 1<|zs 3<|zs 7<|zn 1 [])<|
 .cond 4 .skip (.exit 0))<|
 .seq (.block 1<|.seq (zq (zp 2<|zi (.iy (.e 0) (.e 3))<|zp 2<|zi (.bi .neq (.e 6) (.e 1)) []) (zs 0<|zs 1<|zn 1<|zs 3<|zn 1<|zs 7 [])<|
 .cond 5 (zq (zi (.cs .v (.n (-1))) []) (zn 2<|zs 6<|zn 3 [])<|
 .ret) .skip)<|
 .reg (zp 1<|zi (.bi .add (.e 1) (.c (.n 1)))<|zp 1 []) (zs 0<|zs 6<|zn 1<|zs 3<|zn 2 []))<|
 .reg (zp 1<|zi (.bi .add (.e 3) (.c (.n 1)))<|zp 1 []) (zs 0<|zs 1<|zn 1<|zs 6<|zn 2 []))<|
 zq (zp 2 []) (zn 2<|zs 1<|zn 3 [])<|
 .ret⟩
def ir_laws_heldIntSS:IF:=⟨[],2,6,[2],zq (zi (.cs .v (.n 0)) []) (zs 0<|zs 1<|zn 4 [])<|
 .seq (zq (zi (.cs .v (.n 0)) []) (zs 0<|zs 1<|zn 1<|zs 6<|zn 2 [])<|
 .block 0<|.loop<|.seq (zq (zp 2<|zi (.ln (.e 0) [])<|zi (.bi .lss (.e 3) (.e 6)) []) (zs 0<|zs 1<|zn 1<|zs 3<|zs 7<|zn 1 [])<|
 .cond 4 .skip (.exit 0))<|
 .seq (.block 1<|zq (zp 2<|zi (.ix (.e 0) [] (.e 3))<|zp 2<|zi (.ca 46 [.e 6,.e 1] 1)<|zp 1 []) (zs 0<|zs 7<|zn 1<|zs 3<|zn 2 [])<|
 zq (zp 1<|zi (.bi .lss (.e 1) (.c (.n 0))) []) (zs 0<|zs 1<|zn 1<|zs 3<|zn 1<|zs 6 [])<|
 .cond 5 (zq (zi (.cs .v (.n (-1))) []) (zn 2<|zs 6<|zn 3 [])<|
 .ret) .skip)<|
 .reg (zp 1<|zi (.bi .add (.e 3) (.c (.n 1)))<|zp 1 []) (zs 0<|zs 1<|zn 1<|zs 6<|zn 2 []))<|
 zq (zp 2 []) (zn 2<|zs 1<|zn 3 [])<|
 .ret⟩
def ir_laws_heldStringS:IF:=⟨[],2,6,[2],zq (zi (.cs .v (.n 0)) []) (zs 0<|zs 1<|zn 4 [])<|
 .seq (zq (zi (.cs .v (.n 0)) []) (zs 0<|zs 1<|zn 1<|zs 6<|zn 2 [])<|
 .block 0<|.loop<|.seq (zq (zp 2<|zi (.ln (.e 0) [])<|zi (.bi .lss (.e 3) (.e 6)) []) (zs 0<|zs 1<|zn 1<|zs 3<|zs 7<|zn 1 [])<|
 .cond 4 .skip (.exit 0))<|
 .seq (.block 1<|.seq (zq (zp 2<|zi (.iy (.e 0) (.e 3))<|zp 2<|zi (.ca 26 [.e 1] 1)<|zi (.bi .neq (.e 6) (.e 7)) []) (zs 0<|zs 1<|zn 1<|zs 3<|zn 1<|zs 8 [])<|
 .cond 5 (zq (zi (.cs .v (.n (-1))) []) (zn 2<|zs 6<|zn 3 [])<|
 .ret) .skip)<|
 .reg (zp 1<|zi (.bi .add (.e 1) (.c (.n 1)))<|zp 1 []) (zs 0<|zs 6<|zn 1<|zs 3<|zn 2 []))<|
 .reg (zp 1<|zi (.bi .add (.e 3) (.c (.n 1)))<|zp 1 []) (zs 0<|zs 1<|zn 1<|zs 6<|zn 2 []))<|
 zq (zp 2 []) (zn 2<|zs 1<|zn 3 [])<|
 .ret⟩
def ir_laws_markClaim:IF:=⟨[],2,4,[3,0],zq (zi (.wl 7 (.e 0))<|zi (.cs .v (.n 0))<|zi (.gt (.e 4) [.k 3])<|zp 2<|zi (.sp 4 [.k 3] 1)<|zi (.ca 16 [.e 7,.e 1] 2)<|zi (.jn 8 [.k 3] (.e 10) 1)<|zp 1<|zi (.gt (.e 11) [.k 4])<|zp 2<|zi (.sp 11 [.k 4] 1)<|zi (.ca 45 [.e 13,.e 9] 2)<|zi (.jn 14 [.k 4] (.e 16) 1)<|zp 1<|zi (.gt (.e 17) [.k 5])<|zp 2<|zi (.sp 17 [.k 5] 1)<|zi (.ca 45 [.e 19,.e 15] 2)<|zi (.jn 20 [.k 5] (.e 22) 1)<|zp 1<|zi (.gt (.e 23) [.k 6])<|zp 2<|zi (.sp 23 [.k 6] 2)<|zi (.ca 158 [.e 25,.e 21] 2)<|zi (.jn 26 [.k 6] (.e 28) 2)<|zp 3<|zi (.sw 29) []) (zs 30<|zn 2<|zs 27 [])<|
 .ret⟩
def ir_laws_markIntS:IF:=⟨[],2,5,[2,0],zq (zi (.cs .v (.n 0)) []) (zs 0<|zs 1<|zn 3 [])<|
 .seq (zq (zi (.cs .v (.n 0)) []) (zs 0<|zs 1<|zn 1<|zs 5<|zn 1 [])<|
 .block 0<|.loop<|.seq (zq (zp 2<|zi (.ln (.e 0) [])<|zi (.bi .lss (.e 3) (.e 5)) []) (zs 0<|zs 1<|zn 1<|zs 3<|zs 6 [])<|
 .cond 4 .skip (.exit 0))<|
 .seq (.block 1<|zq (zp 3<|zi (.ix (.e 0) [] (.e 3))<|zi (.up 0 [.e 3] (.e 1)) []) (zs 6<|zs 1<|zn 1<|zs 3<|zn 1 [])<|
 .reg (zp 1<|zi (.bi .add (.e 1) (.c (.n 1)))<|zp 1 []) (zs 0<|zs 5<|zn 1<|zs 3<|zn 1 []))<|
 .reg (zp 1<|zi (.bi .add (.e 3) (.c (.n 1)))<|zp 1 []) (zs 0<|zs 1<|zn 1<|zs 5<|zn 1 []))<|
 zq (zp 2 []) (zs 0<|zn 1<|zs 1<|zn 2 [])<|
 .ret⟩
def ir_laws_markIntSS:IF:=⟨[],2,5,[2,0],zq (zi (.cs .v (.n 0)) []) (zs 0<|zs 1<|zn 3 [])<|
 .seq (zq (zi (.cs .v (.n 0)) []) (zs 0<|zs 1<|zn 1<|zs 5<|zn 1 [])<|
 .block 0<|.loop<|.seq (zq (zp 2<|zi (.ln (.e 0) [])<|zi (.bi .lss (.e 3) (.e 5)) []) (zs 0<|zs 1<|zn 1<|zs 3<|zs 6 [])<|
 .cond 4 .skip (.exit 0))<|
 .seq (.block 1<|.reg (zp 2<|zi (.ix (.e 0) [] (.e 3))<|zp 2<|zi (.sp 0 [.e 3] 1)<|zi (.ca 45 [.e 6,.e 1] 2)<|zi (.jn 7 [.e 3] (.e 9) 1)<|zp 1 []) (zs 10<|zs 8<|zn 1<|zs 3<|zn 1 []))<|
 .reg (zp 1<|zi (.bi .add (.e 3) (.c (.n 1)))<|zp 1 []) (zs 0<|zs 1<|zn 1<|zs 5<|zn 1 []))<|
 zq (zp 2 []) (zs 0<|zn 1<|zs 1<|zn 2 [])<|
 .ret⟩
def ir_laws_markStringS:IF:=⟨[],2,5,[2,0],zq (zi (.cs .v (.n 0)) []) (zs 0<|zs 1<|zn 3 [])<|
 .seq (zq (zi (.cs .v (.n 0)) []) (zs 0<|zs 1<|zn 1<|zs 5<|zn 1 [])<|
 .block 0<|.loop<|.seq (zq (zp 2<|zi (.ln (.e 0) [])<|zi (.bi .lss (.e 3) (.e 5)) []) (zs 0<|zs 1<|zn 1<|zs 3<|zs 6 [])<|
 .cond 4 .skip (.exit 0))<|
 .seq (.block 1<|zq (zp 3<|zi (.ca 26 [.e 1] 1)<|zi (.ix (.e 0) [] (.e 3))<|zi (.up 0 [.e 3] (.e 5)) []) (zs 7<|zs 1<|zn 1<|zs 3<|zn 1 [])<|
 .reg (zp 1<|zi (.bi .add (.e 1) (.c (.n 1)))<|zp 1 []) (zs 0<|zs 5<|zn 1<|zs 3<|zn 1 []))<|
 .reg (zp 1<|zi (.bi .add (.e 3) (.c (.n 1)))<|zp 1 []) (zs 0<|zs 1<|zn 1<|zs 5<|zn 1 []))<|
 zq (zp 2 []) (zs 0<|zn 1<|zs 1<|zn 2 [])<|
 .ret⟩
def ir_laws_markText:IF:=⟨[],1,5,[1],zq (zi (.cs .v (.s [])) []) (zs 0<|zn 4 [])<|
 .seq (zq (zp 1<|zi (.bi .leq (.e 0) (.c (.n 0))) []) (zs 0<|zn 2<|zs 5<|zn 1 [])<|
 .cond 3 (zq (zi (.cs .v (.s [109,48])) []) (zn 1<|zs 5<|zn 3 [])<|
 .ret) .skip)<|
 zq (zi (.cs .v (.s [])) []) (zs 0<|zn 1<|zs 5<|zn 2 [])<|
 .seq (.block 0<|.loop<|.seq (zq (zp 1<|zi (.bi .gtr (.e 0) (.c (.n 0))) []) (zs 0<|zn 1<|zs 2<|zn 1<|zs 5 [])<|
 .cond 4 .skip (.exit 0))<|
 .block 1<|zq (zp 1<|zi (.bi .rem (.e 0) (.c (.n 10)))<|zi (.bi .add (.c (.n 48)) (.e 5))<|zi (.cv .u8 (.e 6))<|zi (.li (.o .v) [.e 7])<|zi (.bs (.e 8))<|zp 1<|zi (.bi .add (.e 9) (.e 2))<|zp 1 []) (zs 0<|zn 1<|zs 10<|zn 2 [])<|
 .reg (zp 1<|zi (.bi .quo (.e 0) (.c (.n 10)))<|zp 1 []) (zs 5<|zn 1<|zs 2<|zn 2 []))<|
 zq (zp 1<|zi (.bi .add (.c (.s [109])) (.e 2))<|zp 1 []) (zn 1<|zs 5<|zn 3 [])<|
 .ret⟩
end Go.Cat
namespace Go.Cat
def ir_impl_IsTamariLess:IF:=⟨[],2,11,[2],zq (zi (.cs .v (.b false)) []) (zs 0<|zs 1<|zn 9 [])<|
 .seq (zq (zp 2<|zi (.ca 367 [.e 0,.e 1,.c (.n 8)] 1)<|zi (.un .not (.e 11)) []) (zs 0<|zs 1<|zn 4<|zs 12<|zn 4 [])<|
 .cond 6 (zq (zi (.cs .v (.b false)) []) (zn 2<|zs 11<|zn 8 [])<|
 .ret) .skip)<|
 zq (zp 1<|zi (.ca 171 [.e 0] 1)<|zp 1<|zi (.ca 171 [.e 1] 1)<|zp 2 []) (zn 3<|zs 11<|zs 12<|zn 6 [])<|
 .seq (zq (zp 1<|zi (.ln (.e 3) [])<|zi (.cs .v (.n 0)) []) (zn 3<|zs 3<|zs 4<|zn 2<|zs 11<|zs 12<|zn 2 [])<|
 .block 0<|.loop<|zq (zi (.bi .lss (.e 8) (.e 7)) []) (zn 3<|zs 3<|zs 4<|zn 2<|zs 7<|zs 8<|zs 11<|zn 1 [])<|
 .seq (.cond 9 .skip (.exit 0))<|
 .seq (.block 1<|zq (zp 2 []) (zn 3<|zs 3<|zs 4<|zs 8<|zn 1<|zs 7<|zs 8<|zn 2 [])<|
 zq (zp 2<|zi (.ix (.e 3) [] (.e 5))<|zp 3<|zi (.ix (.e 4) [] (.e 5))<|zp 1<|zi (.bi .gtr (.e 11) (.e 12)) []) (zn 3<|zs 3<|zs 4<|zn 2<|zs 7<|zs 8<|zn 1<|zs 13 [])<|
 .cond 10 (zq (zi (.cs .v (.b false)) []) (zn 2<|zs 11<|zn 8 [])<|
 .ret) .skip)<|
 .reg (zi (.bi .add (.e 8) (.c (.n 1)))<|zp 1 []) (zn 3<|zs 3<|zs 4<|zn 2<|zs 7<|zs 11<|zn 2 []))<|
 zq (zi (.cs .v (.b true)) []) (zn 2<|zs 11<|zn 8 [])<|
 .ret⟩
def ir_impl_alike:IF:=⟨[],3,5,[3],zq (zi (.cs .v (.b false)) []) (zs 0<|zs 1<|zs 2<|zn 2 [])<|
 zq (zp 1<|zi (.ca 169 [.e 0] 1)<|zp 1 []) (zn 1<|zs 1<|zs 2<|zn 1<|zs 5 [])<|
 zq (zp 1<|zi (.bi .geq (.e 4) (.c (.n 0)))<|zp 1<|zg [(5,true)] (.cy (.e 4))<|zg [(5,true)] (.cy (.e 2))<|zg [(5,true)] (.bi .leq (.e 6) (.e 7))<|zi (.pk (.e 5) (.e 8) (.c (.b false)))<|zp 1<|zg [(9,true)] (.cy (.e 4))<|zg [(9,true)] (.cy (.e 1))<|zg [(9,true)] (.ca 169 [.e 11] 1)<|zg [(9,true)] (.bi .eql (.e 10) (.e 12))<|zi (.pk (.e 9) (.e 13) (.c (.b false)))<|zp 1 []) (zn 3<|zs 14<|zn 1 [])<|
 .ret⟩
end Go.Cat
namespace Go.Cat
def ir_impl_ClaimOfOrder:IF:=⟨[(0,7)],2,14,[2,3],zq (zi (.cs (.b (.o (.o (.o .v)))) (.g [.n 0,.s [],.s [],.l [],.l [],.l [],.l []]))<|zi (.cs .v (.b false)) []) (zs 0<|zs 1<|zs 14<|zn 11 [])<|
 .seq (zq (zp 2<|zi (.ca 350 [.e 0,.e 1] 1)<|zi (.un .not (.e 14)) []) (zs 0<|zs 1<|zs 2<|zn 4<|zs 15<|zn 6 [])<|
 .cond 7 (zq (zi (.bg 3 [(.c (.n 0),0),(.c (.s []),0),(.c (.s []),0),(.c (.l []),1),(.c (.l []),1),(.c (.l []),1),(.c (.l []),1)])<|zi (.ws 2 7 (.e 14))<|zi (.cs .v (.b false)) []) (zn 2<|zs 15<|zs 16<|zn 10 [])<|
 .ret) .skip)<|
 zq (zp 3<|zi (.li (.o .v) [.e 0])<|zi (.bg 3 [(.c (.n 1),0),(.e 0,0),(.e 1,0),(.e 14,1),(.c (.l []),1),(.c (.l []),1),(.c (.l []),1)])<|zi (.cs (.b (.o (.o (.o .v)))) (.g [.n 0,.s [],.s [],.l [],.l [],.l [],.l []]))<|zi (.ws 16 7 (.e 15)) []) (zs 0<|zs 1<|zs 2<|zn 1<|zs 17<|zn 9 [])<|
 .seq (zq (zp 2 []) (zn 1<|zs 1<|zs 2<|zn 1<|zs 4<|zs 0<|zn 8 [])<|
 .block 0<|.loop<|.seq (zq (zp 2<|zi (.bi .neq (.e 5) (.e 1)) []) (zn 1<|zs 1<|zs 2<|zn 1<|zs 4<|zs 5<|zn 2<|zs 14<|zn 5 [])<|
 .cond 8 .skip (.exit 0))<|
 .block 1<|.seq (zq (zp 1<|zi (.ca 201 [.e 5,.c (.f 200 [])] 1)<|zi (.ln (.e 14) [])<|zi (.cs .v (.n 0)) []) (zn 1<|zs 1<|zs 2<|zn 1<|zs 4<|zs 5<|zn 3<|zs 14<|zs 15<|zs 16<|zn 2 [])<|
 .block 2<|.loop<|zq (zi (.bi .lss (.e 11) (.e 10)) []) (zn 1<|zs 1<|zs 2<|zn 1<|zs 4<|zs 5<|zn 3<|zs 9<|zs 10<|zs 11<|zs 14<|zn 1 [])<|
 .seq (.cond 12 .skip (.exit 2))<|
 .seq (.block 3<|zq (zi (.ix (.e 9) [] (.e 11))<|zp 2 []) (zn 1<|zs 1<|zs 2<|zn 1<|zs 4<|zs 5<|zs 14<|zn 2<|zs 9<|zs 10<|zs 11<|zn 2 [])<|
 zq (zp 2<|zi (.ca 350 [.e 6,.e 1] 1) []) (zn 1<|zs 1<|zs 2<|zn 1<|zs 4<|zs 5<|zs 6<|zn 2<|zs 9<|zs 10<|zs 11<|zn 1<|zs 14 [])<|
 .cond 13 (zq (zp 2 []) (zn 1<|zs 1<|zs 2<|zn 1<|zs 4<|zs 6<|zn 8 [])<|
 .exit 2) .skip)<|
 .reg (zi (.bi .add (.e 11) (.c (.n 1)))<|zp 1 []) (zn 1<|zs 1<|zs 2<|zn 1<|zs 4<|zs 5<|zn 3<|zs 9<|zs 10<|zs 14<|zn 2 []))<|
 .reg (zi (.gt (.e 4) [.k 3])<|zp 2<|zi (.li (.o .v) [.e 5])<|zi (.sp 4 [.k 3] 1)<|zi (.ap false (.e 16) (.e 15))<|zi (.gt (.e 17) [.k 3])<|zi (.uq 17 [.k 3] (.e 18) 1 3) []) (zn 1<|zs 1<|zs 2<|zn 1<|zs 20<|zs 5<|zn 8 []))<|
 zq (zi (.wl 7 (.e 4))<|zi (.ws 2 7 (.e 14))<|zi (.cs .v (.b true)) []) (zn 2<|zs 15<|zs 16<|zn 10 [])<|
 .ret⟩
end Go.Cat
namespace Go.Cat
def ir_laws_FnExactClaimOfOrder:IF:=⟨[],2,19,[2],zq (zi (.cs .v (.b false)) []) (zs 0<|zs 1<|zn 17 [])<|
 .seq (zq (zp 1<|zi (.sn (.e 0))<|zi (.bi .gtr (.e 19) (.c (.n 1048576))) []) (zs 0<|zs 1<|zn 9<|zs 20<|zn 7 [])<|
 .cond 11 (zq (zi (.cs .v (.b true)) []) (zn 2<|zs 19<|zn 16 [])<|
 .ret) .skip)<|
 .seq (zq (zp 1<|zi (.sn (.e 1))<|zi (.bi .gtr (.e 19) (.c (.n 1048576))) []) (zs 0<|zs 1<|zn 10<|zs 20<|zn 6 [])<|
 .cond 12 (zq (zi (.cs .v (.b true)) []) (zn 2<|zs 19<|zn 16 [])<|
 .ret) .skip)<|
 zq (zp 2<|zi (.ca 339 [.e 0,.e 1] 2)<|zp 3<|zi (.cs (.b (.o (.o (.o .v)))) (.g [.n 0,.s [],.s [],.l [],.l [],.l [],.l []]))<|zi (.ws 21 7 (.e 19))<|zp 1 []) (zs 0<|zs 1<|zn 1<|zs 22<|zs 20<|zn 14 [])<|
 zq (zp 2<|zi (.ca 340 [.e 0,.e 1] 2)<|zp 3<|zi (.cs (.b (.o (.o (.o .v)))) (.g [.n 0,.s [],.s [],.l [],.l [],.l [],.l []]))<|zi (.ws 21 7 (.e 19))<|zp 1 []) (zs 0<|zs 1<|zn 1<|zs 3<|zs 4<|zs 22<|zs 20<|zn 12 [])<|
 .seq (zq (zi (.wl 7 (.e 5))<|zi (.wl 7 (.e 3))<|zi (.ca 119 [.e 19,.e 20] 1)<|zi (.un .not (.e 21))<|zp 1<|zg [(22,false)] (.cy (.e 6))<|zg [(22,false)] (.cy (.e 4))<|zg [(22,false)] (.bb .neq (.e 23) (.e 24))<|zi (.pk (.e 22) (.c (.b true)) (.e 25)) []) (zs 0<|zs 1<|zn 1<|zs 3<|zs 4<|zs 5<|zn 7<|zs 26<|zn 5 [])<|
 .cond 13 (zq (zi (.cs .v (.b false)) []) (zn 2<|zs 19<|zn 16 [])<|
 .ret) .skip)<|
 zq (zi (.cs .v (.n 1)) []) (zs 0<|zs 1<|zn 1<|zs 3<|zs 4<|zs 5<|zn 1<|zs 19<|zn 11 [])<|
 zq (zi (.wl 7 (.e 5))<|zp 1<|zi (.sw 5)<|zi (.ca 122 [.e 20,.e 7] 2)<|zi (.cy (.e 23))<|zp 1 []) (zs 0<|zs 1<|zn 1<|zs 3<|zs 4<|zs 24<|zn 1<|zs 22<|zn 11 [])<|
 zq (zi (.cs .v (.n 1)) []) (zs 0<|zs 1<|zn 1<|zs 3<|zs 4<|zs 5<|zn 1<|zs 7<|zs 19<|zn 10 [])<|
 zq (zi (.wl 7 (.e 5))<|zp 1<|zi (.ca 123 [.e 19,.e 8] 1)<|zp 1 []) (zs 0<|zs 1<|zn 1<|zs 3<|zs 4<|zs 5<|zn 1<|zs 7<|zs 20<|zn 10 [])<|
 .seq (zq (zp 1<|zi (.bi .lss (.e 8) (.c (.n 0))) []) (zs 0<|zs 1<|zn 1<|zs 3<|zs 4<|zs 5<|zn 1<|zs 7<|zs 8<|zn 5<|zs 19<|zn 4 [])<|
 .cond 14 (zq (zi (.cs .v (.b false)) []) (zn 2<|zs 19<|zn 16 [])<|
 .ret) .skip)<|
 .seq (zq (zp 2<|zi (.bi .neq (.e 8) (.e 7)) []) (zs 0<|zs 1<|zn 1<|zs 3<|zs 4<|zs 5<|zn 1<|zs 7<|zn 7<|zs 19<|zn 3 [])<|
 .cond 15 (zq (zi (.cs .v (.b false)) []) (zn 2<|zs 19<|zn 16 [])<|
 .ret) .skip)<|
 zq (zp 2<|zi (.ca 340 [.e 0,.e 1] 2)<|zp 3<|zi (.cs (.b (.o (.o (.o .v)))) (.g [.n 0,.s [],.s [],.l [],.l [],.l [],.l []]))<|zi (.ws 21 7 (.e 19))<|zp 1 []) (zn 3<|zs 3<|zs 4<|zs 5<|zn 1<|zs 7<|zn 1<|zs 22<|zs 20<|zn 8 [])<|
 .seq (zq (zi (.wl 7 (.e 9))<|zi (.wl 7 (.e 3))<|zi (.ca 119 [.e 19,.e 20] 1)<|zi (.un .not (.e 21))<|zp 1<|zg [(22,false)] (.cy (.e 10))<|zg [(22,false)] (.cy (.e 4))<|zg [(22,false)] (.bb .neq (.e 23) (.e 24))<|zi (.pk (.e 22) (.c (.b true)) (.e 25)) []) (zn 5<|zs 5<|zn 1<|zs 7<|zn 8<|zs 26<|zn 2 [])<|
 .cond 16 (zq (zi (.cs .v (.b false)) []) (zn 2<|zs 19<|zn 16 [])<|
 .ret) .skip)<|
 zq (zi (.cs .v (.n 1)) []) (zn 5<|zs 5<|zn 1<|zs 7<|zs 19<|zn 10 [])<|
 zq (zi (.wl 7 (.e 5))<|zp 1<|zi (.ca 123 [.e 19,.e 8] 1)<|zp 1 []) (zn 7<|zs 7<|zs 20<|zn 10 [])<|
 .seq (zq (zp 1<|zi (.bi .lss (.e 8) (.c (.n 0))) []) (zn 7<|zs 7<|zs 8<|zn 8<|zs 19<|zn 1 [])<|
 .cond 17 (zq (zi (.cs .v (.b false)) []) (zn 2<|zs 19<|zn 16 [])<|
 .ret) .skip)<|
 .seq (zq (zp 2<|zi (.bi .neq (.e 8) (.e 7)) []) (zn 18<|zs 19 [])<|
 .cond 18 (zq (zi (.cs .v (.b false)) []) (zn 2<|zs 19<|zn 16 [])<|
 .ret) .skip)<|
 zq (zi (.cs .v (.b true)) []) (zn 2<|zs 19<|zn 16 [])<|
 .ret⟩
end Go.Cat
namespace Go.Cat
def ir_spec_RotateRight:IF:=⟨[],2,11,[2,3],zq (zi (.cs .v (.s []))<|zi (.cs .v (.b false)) []) (zs 0<|zs 1<|zn 9 [])<|
 .seq (zq (zp 2<|zi (.ca 162 [.e 0] 1)<|zi (.bi .sub (.e 11) (.c (.n 1)))<|zi (.ca 22 [.e 1,.c (.n 0),.e 12] 1)<|zi (.un .not (.e 13)) []) (zs 0<|zs 1<|zn 7<|zs 14<|zn 1 [])<|
 .cond 9 (zq (zi (.cs .v (.s []))<|zi (.cs .v (.b false)) []) (zn 2<|zs 11<|zs 12<|zn 7 [])<|
 .ret) .skip)<|
 zq (zp 2<|zi (.ca 191 [.e 0,.e 1] 1)<|zp 1 []) (zs 0<|zs 1<|zn 2<|zs 11<|zn 6 [])<|
 zq (zp 1<|zi (.ca 188 [.e 4,.c (.n 1)] 1)<|zp 1 []) (zs 0<|zs 1<|zn 2<|zs 4<|zs 11<|zn 5 [])<|
 zq (zp 2<|zi (.ss (.e 4) (some (.c (.n 1))) (some (.e 5)))<|zp 1 []) (zs 0<|zs 1<|zn 2<|zs 4<|zs 5<|zs 11<|zn 4 [])<|
 .seq (zq (zp 1<|zi (.bi .eql (.e 6) (.c (.s [46]))) []) (zs 0<|zs 1<|zn 2<|zs 4<|zs 5<|zs 6<|zn 3<|zs 11 [])<|
 .cond 10 (zq (zi (.cs .v (.s []))<|zi (.cs .v (.b false)) []) (zn 2<|zs 11<|zs 12<|zn 7 [])<|
 .ret) .skip)<|
 zq (zp 1<|zi (.ca 188 [.e 6,.c (.n 1)] 1)<|zp 1 []) (zs 0<|zs 1<|zn 2<|zs 4<|zs 5<|zs 6<|zs 11<|zn 3 [])<|
 zq (zp 2<|zi (.ss (.e 6) (some (.c (.n 1))) (some (.e 7)))<|zi (.bi .add (.c (.s [40])) (.e 11))<|zi (.bi .add (.e 12) (.c (.s [40])))<|zp 3<|zi (.sn (.e 6))<|zi (.bi .sub (.e 14) (.c (.n 1)))<|zi (.ss (.e 6) (some (.e 7)) (some (.e 15)))<|zi (.bi .add (.e 13) (.e 16))<|zp 3<|zi (.sn (.e 4))<|zi (.bi .sub (.e 18) (.c (.n 1)))<|zi (.ss (.e 4) (some (.e 5)) (some (.e 19)))<|zi (.bi .add (.e 17) (.e 20))<|zi (.bi .add (.e 21) (.c (.s [41,41])))<|zp 1 []) (zs 0<|zs 1<|zn 6<|zs 22<|zn 2 [])<|
 zq (zp 3<|zi (.ca 207 [.e 0,.e 1,.e 8] 1)<|zp 1<|zi (.cs .v (.b true)) []) (zn 2<|zs 11<|zs 12<|zn 7 [])<|
 .ret⟩
def ir_spec_WeightsOf:IF:=⟨[],1,7,[1],zq (zi (.cs (.o .v) (.l [])) []) (zs 0<|zn 6 [])<|
 zq (zi (.li (.o .v) [])<|zp 1 []) (zs 0<|zn 1<|zs 7<|zn 4 [])<|
 .seq (zq (zi (.cs .v (.n 0)) []) (zs 0<|zn 1<|zs 2<|zs 7<|zn 3 [])<|
 .block 0<|.loop<|.seq (zq (zp 2<|zi (.ca 162 [.e 0] 1)<|zi (.bi .lss (.e 3) (.e 7)) []) (zs 0<|zn 1<|zs 2<|zs 3<|zn 2<|zs 8 [])<|
 .cond 6 .skip (.exit 0))<|
 .seq (.block 1<|zq (zp 2<|zi (.ca 191 [.e 0,.e 3] 1)<|zp 1 []) (zs 0<|zn 1<|zs 2<|zs 3<|zs 7<|zn 2 [])<|
 zq (zp 1<|zi (.ca 188 [.e 4,.c (.n 1)] 1)<|zp 1 []) (zs 0<|zn 1<|zs 2<|zs 3<|zs 4<|zs 7<|zn 1 [])<|
 .reg (zp 2<|zi (.sn (.e 4))<|zi (.bi .sub (.e 7) (.c (.n 1)))<|zp 1<|zi (.bi .sub (.e 8) (.e 5))<|zi (.bi .sub (.e 9) (.c (.n 1)))<|zi (.bi .quo (.e 10) (.c (.n 3)))<|zi (.li (.o .v) [.e 11])<|zi (.ap false (.e 2) (.e 12))<|zp 1 []) (zs 0<|zn 1<|zs 13<|zs 3<|zn 3 []))<|
 .reg (zp 1<|zi (.bi .add (.e 3) (.c (.n 1)))<|zp 1 []) (zs 0<|zn 1<|zs 2<|zs 7<|zn 3 []))<|
 zq (zp 2 []) (zn 1<|zs 2<|zn 5 [])<|
 .ret⟩
def ir_spec_l16Node:IF:=⟨[],2,8,[2],zq (zi (.cs .v (.s [])) []) (zs 0<|zs 1<|zn 6 [])<|
 zq (zp 1<|zi (.ca 188 [.e 0,.c (.n 1)] 1)<|zp 1 []) (zs 0<|zs 1<|zn 1<|zs 8<|zn 4 [])<|
 zq (zp 2<|zi (.ss (.e 0) (some (.c (.n 1))) (some (.e 3)))<|zp 1 []) (zs 0<|zs 1<|zn 1<|zs 3<|zs 8<|zn 3 [])<|
 zq (zp 1<|zi (.sn (.e 4))<|zi (.bi .sub (.e 8) (.c (.n 1)))<|zi (.bi .quo (.e 9) (.c (.n 3)))<|zp 1 []) (zs 0<|zs 1<|zn 1<|zs 3<|zs 4<|zs 10<|zn 2 [])<|
 .seq (.block 0<|zq (zp 2<|zi (.bi .lss (.e 1) (.e 5))<|zp 1 []) (zs 0<|zs 1<|zn 1<|zs 3<|zs 4<|zs 5<|zs 8<|zn 1 [])<|
 .cond 6 (zq (zp 2<|zi (.ca 191 [.e 4,.e 1] 1)<|zp 1 []) (zn 2<|zs 8<|zn 5 [])<|
 .ret) (zq (zp 2<|zi (.bi .gtr (.e 1) (.e 5))<|zp 1 []) (zs 0<|zs 1<|zn 1<|zs 3<|zn 1<|zs 5<|zn 1<|zs 8 [])<|
 .cond 7 (zq (zp 3<|zi (.sn (.e 0))<|zi (.bi .sub (.e 8) (.c (.n 1)))<|zi (.ss (.e 0) (some (.e 3)) (some (.e 9)))<|zp 2<|zi (.bi .sub (.e 1) (.e 5))<|zi (.bi .sub (.e 11) (.c (.n 1)))<|zi (.ca 191 [.e 10,.e 12] 1)<|zp 1 []) (zn 2<|zs 13<|zn 5 [])<|
 .ret) .skip))<|
 zq (zp 2 []) (zn 2<|zs 0<|zn 5 [])<|
 .ret⟩
def ir_spec_l16Replace:IF:=⟨[],3,10,[3],zq (zi (.cs .v (.s [])) []) (zs 0<|zs 1<|zs 2<|zn 7 [])<|
 zq (zp 1<|zi (.ca 188 [.e 0,.c (.n 1)] 1)<|zp 1 []) (zs 0<|zs 1<|zs 2<|zn 1<|zs 10<|zn 5 [])<|
 zq (zp 2<|zi (.ss (.e 0) (some (.c (.n 1))) (some (.e 4)))<|zp 1 []) (zs 0<|zs 1<|zs 2<|zn 1<|zs 4<|zs 10<|zn 4 [])<|
 zq (zp 3<|zi (.sn (.e 0))<|zi (.bi .sub (.e 10) (.c (.n 1)))<|zi (.ss (.e 0) (some (.e 4)) (some (.e 11)))<|zp 1 []) (zn 1<|zs 1<|zs 2<|zn 2<|zs 5<|zs 12<|zn 3 [])<|
 zq (zp 1<|zi (.sn (.e 5))<|zi (.bi .sub (.e 10) (.c (.n 1)))<|zi (.bi .quo (.e 11) (.c (.n 3)))<|zp 1 []) (zn 1<|zs 1<|zs 2<|zn 2<|zs 5<|zs 6<|zs 12<|zn 2 [])<|
 .seq (.block 0<|zq (zp 2<|zi (.bi .lss (.e 1) (.e 7))<|zp 1 []) (zn 1<|zs 1<|zs 2<|zn 2<|zs 5<|zs 6<|zs 7<|zs 10<|zn 1 [])<|
 .cond 8 (zq (zp 3<|zi (.ca 207 [.e 5,.e 1,.e 2] 1)<|zi (.bi .add (.c (.s [40])) (.e 10))<|zp 1<|zi (.bi .add (.e 11) (.e 6))<|zi (.bi .add (.e 12) (.c (.s [41])))<|zp 1 []) (zn 3<|zs 13<|zn 6 [])<|
 .ret) (zq (zp 2<|zi (.bi .gtr (.e 1) (.e 7))<|zp 1 []) (zn 1<|zs 1<|zs 2<|zn 2<|zs 5<|zs 6<|zs 7<|zn 1<|zs 10 [])<|
 .cond 9 (zq (zp 1<|zi (.bi .add (.c (.s [40])) (.e 5))<|zp 3<|zi (.bi .sub (.e 1) (.e 7))<|zi (.bi .sub (.e 11) (.c (.n 1)))<|zp 1<|zi (.ca 207 [.e 6,.e 12,.e 2] 1)<|zi (.bi .add (.e 10) (.e 13))<|zi (.bi .add (.e 14) (.c (.s [41])))<|zp 1 []) (zn 3<|zs 15<|zn 6 [])<|
 .ret) .skip))<|
 zq (zp 2 []) (zn 3<|zs 2<|zn 6 [])<|
 .ret⟩
end Go.Cat
namespace Go.Cat
def ir_spec_IsTamariLess:IF:=⟨[],2,9,[2],zq (zi (.cs .v (.b false)) []) (zs 0<|zs 1<|zn 7 [])<|
 .seq (zq (zp 2<|zi (.ca 365 [.e 0,.e 1] 1)<|zi (.un .not (.e 9)) []) (zs 0<|zs 1<|zn 4<|zs 10<|zn 2 [])<|
 .cond 6 (zq (zi (.cs .v (.b false)) []) (zn 2<|zs 9<|zn 6 [])<|
 .ret) .skip)<|
 zq (zp 1<|zi (.ca 164 [.e 0] 1)<|zp 1 []) (zn 1<|zs 1<|zn 1<|zs 9<|zn 5 [])<|
 zq (zp 1<|zi (.ca 164 [.e 1] 1)<|zp 1 []) (zn 3<|zs 3<|zs 9<|zn 4 [])<|
 .seq (zq (zi (.cs .v (.n 0)) []) (zn 3<|zs 3<|zs 4<|zs 9<|zn 3 [])<|
 .block 0<|.loop<|.seq (zq (zp 2<|zi (.ln (.e 3) [])<|zi (.bi .lss (.e 5) (.e 9)) []) (zn 3<|zs 3<|zs 4<|zs 5<|zn 1<|zs 10<|zn 1 [])<|
 .cond 7 .skip (.exit 0))<|
 .seq (.block 1<|zq (zp 2<|zi (.ix (.e 3) [] (.e 5))<|zp 3<|zi (.ix (.e 4) [] (.e 5))<|zp 1<|zi (.bi .gtr (.e 9) (.e 10)) []) (zn 3<|zs 3<|zs 4<|zs 5<|zn 2<|zs 11 [])<|
 .cond 8 (zq (zi (.cs .v (.b false)) []) (zn 2<|zs 9<|zn 6 [])<|
 .ret) .skip)<|
 .reg (zp 1<|zi (.bi .add (.e 5) (.c (.n 1)))<|zp 1 []) (zn 3<|zs 3<|zs 4<|zs 9<|zn 3 []))<|
 zq (zi (.cs .v (.b true)) []) (zn 2<|zs 9<|zn 6 [])<|
 .ret⟩
def ir_spec_l17Fit:IF:=⟨[],2,3,[2],zq (zi (.cs .v (.b false)) []) (zs 0<|zs 1<|zn 1 [])<|
 zq (zp 1<|zi (.ca 160 [.e 0] 1)<|zp 1<|zg [(3,true)] (.cy (.e 1))<|zg [(3,true)] (.ca 160 [.e 4] 1)<|zi (.pk (.e 3) (.e 5) (.c (.b false)))<|zp 1<|zg [(6,true)] (.cy (.e 0))<|zg [(6,true)] (.sn (.e 7))<|zg [(6,true)] (.cy (.e 1))<|zg [(6,true)] (.sn (.e 9))<|zg [(6,true)] (.bi .eql (.e 8) (.e 10))<|zi (.pk (.e 6) (.e 11) (.c (.b false)))<|zp 1 []) (zn 2<|zs 12 [])<|
 .ret⟩
end Go.Cat
namespace Go.Cat
def ir_spec_ClaimOfOrder:IF:=⟨[(0,7)],2,14,[2,3],zq (zi (.cs (.b (.o (.o (.o .v)))) (.g [.n 0,.s [],.s [],.l [],.l [],.l [],.l []]))<|zi (.cs .v (.b false)) []) (zs 0<|zs 1<|zs 14<|zn 11 [])<|
 .seq (zq (zp 2<|zi (.ca 349 [.e 0,.e 1] 1)<|zi (.un .not (.e 14)) []) (zs 0<|zs 1<|zs 2<|zn 7<|zs 15<|zn 3 [])<|
 .cond 10 (zq (zi (.bg 3 [(.c (.n 0),0),(.c (.s []),0),(.c (.s []),0),(.c (.l []),1),(.c (.l []),1),(.c (.l []),1),(.c (.l []),1)])<|zi (.ws 2 7 (.e 14))<|zi (.cs .v (.b false)) []) (zn 2<|zs 15<|zs 16<|zn 10 [])<|
 .ret) .skip)<|
 zq (zp 1<|zi (.li (.o .v) [.e 0])<|zp 1 []) (zs 0<|zs 1<|zs 2<|zn 1<|zs 14<|zn 9 [])<|
 .seq (zq (zp 2 []) (zs 0<|zs 1<|zs 2<|zn 1<|zs 4<|zs 0<|zn 8 [])<|
 .block 0<|.loop<|.seq (zq (zp 2<|zi (.bi .neq (.e 5) (.e 1)) []) (zs 0<|zs 1<|zs 2<|zn 1<|zs 4<|zs 5<|zn 5<|zs 14<|zn 2 [])<|
 .cond 11 .skip (.exit 0))<|
 .block 1<|zq (zi (.cs .v (.s [])) []) (zs 0<|zs 1<|zs 2<|zn 1<|zs 4<|zs 5<|zs 14<|zn 7 [])<|
 .seq (zq (zp 1<|zi (.ca 162 [.e 5] 1)<|zi (.bi .sub (.e 14) (.c (.n 1)))<|zp 1 []) (zs 0<|zs 1<|zs 2<|zn 1<|zs 4<|zs 5<|zs 6<|zs 15<|zn 6 [])<|
 .block 2<|.loop<|.seq (zq (zp 1<|zi (.bi .geq (.e 7) (.c (.n 0))) []) (zs 0<|zs 1<|zs 2<|zn 1<|zs 4<|zs 5<|zs 6<|zs 7<|zn 4<|zs 14<|zn 1 [])<|
 .cond 12 .skip (.exit 2))<|
 .seq (.block 3<|zq (zp 2<|zi (.ca 192 [.e 5,.e 7] 2)<|zp 5 []) (zs 0<|zs 1<|zs 2<|zn 1<|zs 4<|zs 5<|zs 6<|zs 7<|zs 14<|zs 15<|zn 4 [])<|
 zq (zp 2<|zg [(9,true)] (.cy (.e 8))<|zg [(9,true)] (.cy (.e 1))<|zg [(9,true)] (.ca 349 [.e 14,.e 15] 1)<|zi (.pk (.e 9) (.e 16) (.c (.b false))) []) (zs 0<|zs 1<|zs 2<|zn 1<|zs 4<|zs 5<|zs 6<|zs 7<|zs 8<|zn 4<|zs 17 [])<|
 .cond 13 (.reg (zp 2 []) (zs 0<|zs 1<|zs 2<|zn 1<|zs 4<|zs 5<|zs 8<|zs 7<|zn 6 [])) .skip)<|
 .reg (zp 1<|zi (.bi .sub (.e 7) (.c (.n 1)))<|zp 1 []) (zs 0<|zs 1<|zs 2<|zn 1<|zs 4<|zs 5<|zs 6<|zs 14<|zn 6 []))<|
 zq (zp 2<|zi (.li (.o .v) [.e 6])<|zi (.ap false (.e 4) (.e 14))<|zp 1 []) (zs 0<|zs 1<|zs 2<|zn 1<|zs 15<|zn 1<|zs 6<|zn 7 [])<|
 .reg (zp 2 []) (zs 0<|zs 1<|zs 2<|zn 1<|zs 4<|zs 6<|zn 8 []))<|
 zq (zp 3<|zi (.bg 3 [(.c (.n 1),0),(.e 0,0),(.e 1,0),(.e 4,1),(.c (.l []),1),(.c (.l []),1),(.c (.l []),1)])<|zi (.ws 2 7 (.e 14))<|zi (.cs .v (.b true)) []) (zn 2<|zs 15<|zs 16<|zn 10 [])<|
 .ret⟩
end Go.Cat
namespace Go.Cat
end Go.Cat
namespace Go.Cat
end Go.Cat
namespace Go.Cat
end Go.Cat
namespace Go.Cat
end Go.Cat
namespace Go.Cat
end Go.Cat
namespace Go.Cat
end Go.Cat
namespace Go.Cat
end Go.Cat
namespace Go.Cat
end Go.Cat
namespace Go.Cat
end Go.Cat
namespace Go.Cat
end Go.Cat
namespace Go.Cat
end Go.Cat
namespace Go.Cat
end Go.Cat
