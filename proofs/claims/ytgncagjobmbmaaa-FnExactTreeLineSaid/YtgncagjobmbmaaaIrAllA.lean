/-
 Texts of the little language.
-/
import Derived.Test.YtgncagjobmbmaaaCatThree
set_option linter.unusedSimpArgs false
set_option linter.unusedVariables false
namespace Go.Cat
def zn:Nat→List (Option Nat)→List (Option Nat)
 | 0,l=>l
 | k+1,l=>none::zn k l
def zs (n:Nat) (l:List (Option Nat)):List (Option Nat):=some n::l
def zq (a:List It) (b:List (Option Nat)) (s:S):S:=.seq (.reg a b) s
def zi (p:Pr) (l:List It):List It:=⟨[],[],p⟩::l
def zg (g:List (Nat×Bool)) (p:Pr) (l:List It):List It:=⟨[],g,p⟩::l
def zp:Nat→List It→List It
 | 0,l=>l
 | k+1,l=>⟨[],[],.nop⟩::zp k l
def ir_impl_FormatInt:IF:=⟨[],1,12,[1],zq (zi (.cs .v (.s [])) []) (zs 0<|zn 11 [])<|
 .seq (zq (zp 1<|zi (.bi .eql (.e 0) (.c (.n 0))) []) (zs 0<|zn 6<|zs 12<|zn 4 [])<|
 .cond 7 (zq (zi (.cs .v (.s [48])) []) (zn 1<|zs 12<|zn 10 [])<|
 .ret) .skip)<|
 zq (zi (.li (.o .v) [])<|zp 1 []) (zs 0<|zn 1<|zs 12<|zn 9 [])<|
 .seq (zq (zp 2 []) (zs 0<|zn 1<|zs 2<|zs 0<|zn 8 [])<|
 .block 0<|.loop<|.seq (zq (zp 1<|zi (.bi .neq (.e 3) (.c (.n 0))) []) (zs 0<|zn 1<|zs 2<|zs 3<|zn 4<|zs 12<|zn 3 [])<|
 .cond 8 .skip (.exit 0))<|
 .seq (.block 1<|zq (zp 1<|zi (.bi .rem (.e 3) (.c (.n 10)))<|zp 1 []) (zs 0<|zn 1<|zs 2<|zs 3<|zs 12<|zn 7 [])<|
 .seq (zq (zp 1<|zi (.bi .lss (.e 4) (.c (.n 0))) []) (zs 0<|zn 1<|zs 2<|zs 3<|zs 4<|zn 4<|zs 12<|zn 2 [])<|
 .cond 9 (.reg (zp 1<|zi (.un .neg (.e 4))<|zp 1 []) (zs 0<|zn 1<|zs 2<|zs 3<|zs 12<|zn 7 [])) .skip)<|
 .reg (zp 2<|zi (.bi .add (.c (.n 48)) (.e 4))<|zi (.cv .u8 (.e 12))<|zi (.li (.o .v) [.e 13])<|zi (.ap false (.e 2) (.e 14))<|zp 1 []) (zs 0<|zn 1<|zs 15<|zs 3<|zn 8 []))<|
 .reg (zp 1<|zi (.bi .quo (.e 3) (.c (.n 10)))<|zp 1 []) (zs 0<|zn 1<|zs 2<|zs 12<|zn 8 []))<|
 .seq (zq (zp 1<|zi (.bi .lss (.e 0) (.c (.n 0))) []) (zn 2<|zs 2<|zn 7<|zs 12<|zn 1 [])<|
 .cond 10 (.reg (zp 1<|zi (.li (.o .v) [.c (.y 45)])<|zi (.ap false (.e 2) (.e 12))<|zp 1 []) (zn 2<|zs 13<|zn 9 [])) .skip)<|
 .seq (zq (zp 1<|zi (.ln (.e 2) [])<|zi (.bi .sub (.e 12) (.c (.n 1)))<|zi (.cs .v (.n 0))<|zp 1 []) (zn 2<|zs 2<|zn 2<|zs 14<|zs 13<|zn 5 [])<|
 .block 2<|.loop<|.seq (zq (zp 2<|zi (.bi .lss (.e 5) (.e 6)) []) (zn 2<|zs 2<|zn 2<|zs 5<|zs 6<|zn 4<|zs 12 [])<|
 .cond 11 .skip (.exit 2))<|
 .seq (.block 3<|.reg (zp 6<|zi (.ix (.e 2) [] (.e 6))<|zp 3<|zi (.ix (.e 2) [] (.e 5))<|zp 1<|zi (.ix (.e 2) [] (.e 5))<|zi (.up 2 [.e 5] (.e 12))<|zi (.ix (.e 15) [] (.e 6))<|zi (.up 15 [.e 6] (.e 13)) []) (zn 2<|zs 17<|zn 2<|zs 5<|zs 6<|zn 5 []))<|
 .reg (zp 1<|zi (.bi .add (.e 5) (.c (.n 1)))<|zp 1<|zi (.bi .sub (.e 6) (.c (.n 1)))<|zp 2 []) (zn 2<|zs 2<|zn 2<|zs 12<|zs 13<|zn 5 []))<|
 zq (zp 1<|zi (.bs (.e 2))<|zp 1 []) (zn 1<|zs 12<|zn 10 [])<|
 .ret⟩
end Go.Cat
namespace Go.Cat
def ir_spec_FormatInt:IF:=⟨[],1,9,[1],zq (zi (.cs .v (.s [])) []) (zs 0<|zn 8 [])<|
 .seq (zq (zp 1<|zi (.bi .eql (.e 0) (.c (.n 0))) []) (zs 0<|zn 4<|zs 9<|zn 3 [])<|
 .cond 5 (zq (zi (.cs .v (.s [48])) []) (zn 1<|zs 9<|zn 7 [])<|
 .ret) .skip)<|
 zq (zi (.cs .v (.s [])) []) (zs 0<|zn 1<|zs 9<|zn 6 [])<|
 zq (zp 1<|zi (.bi .lss (.e 0) (.c (.n 0)))<|zp 1 []) (zs 0<|zn 1<|zs 2<|zs 9<|zn 5 [])<|
 .seq (.block 0<|.loop<|.seq (zq (zp 1<|zi (.bi .neq (.e 0) (.c (.n 0))) []) (zs 0<|zn 1<|zs 2<|zs 3<|zn 2<|zs 9<|zn 2 [])<|
 .cond 6 .skip (.exit 0))<|
 .block 1<|zq (zp 1<|zi (.bi .rem (.e 0) (.c (.n 10)))<|zp 1 []) (zs 0<|zn 1<|zs 2<|zs 3<|zs 9<|zn 4 [])<|
 .seq (zq (zp 1<|zi (.bi .lss (.e 4) (.c (.n 0))) []) (zs 0<|zn 1<|zs 2<|zs 3<|zs 4<|zn 2<|zs 9<|zn 1 [])<|
 .cond 7 (.reg (zp 1<|zi (.un .neg (.e 4))<|zp 1 []) (zs 0<|zn 1<|zs 2<|zs 3<|zs 9<|zn 4 [])) .skip)<|
 zq (zp 1<|zi (.bi .add (.c (.n 48)) (.e 4))<|zi (.cv .u8 (.e 9))<|zi (.li (.o .v) [.e 10])<|zi (.bs (.e 11))<|zp 1<|zi (.bi .add (.e 12) (.e 2))<|zp 1 []) (zs 0<|zn 1<|zs 13<|zs 3<|zn 5 [])<|
 .reg (zp 1<|zi (.bi .quo (.e 0) (.c (.n 10)))<|zp 1 []) (zs 9<|zn 1<|zs 2<|zs 3<|zn 5 []))<|
 .seq (zq (zp 1 []) (zn 2<|zs 2<|zn 5<|zs 3 [])<|
 .cond 8 (zq (zp 1<|zi (.bi .add (.c (.s [45])) (.e 2))<|zp 1 []) (zn 1<|zs 9<|zn 7 [])<|
 .ret) .skip)<|
 zq (zp 2 []) (zn 1<|zs 2<|zn 7 [])<|
 .ret⟩
def ir_spec_l1In:IF:=⟨[],3,4,[3],zq (zi (.cs .v (.b false)) []) (zs 0<|zs 1<|zs 2<|zn 1 [])<|
 zq (zp 2<|zi (.bi .geq (.e 0) (.e 1))<|zp 1<|zg [(4,true)] (.cy (.e 0))<|zg [(4,true)] (.cy (.e 2))<|zg [(4,true)] (.bi .leq (.e 5) (.e 6))<|zi (.pk (.e 4) (.e 7) (.c (.b false)))<|zp 1 []) (zn 3<|zs 8 [])<|
 .ret⟩
end Go.Cat
namespace Go.Cat
def ir_impl_glued:IF:=⟨[],2,11,[2],zq (zi (.cs .v (.s [])) []) (zs 0<|zs 1<|zn 9 [])<|
 zq (zi (.cs .v (.s [])) []) (zs 0<|zs 1<|zn 1<|zs 11<|zn 7 [])<|
 .seq (zq (zp 1<|zi (.ln (.e 0) [])<|zi (.cs .v (.n 0)) []) (zn 1<|zs 1<|zn 1<|zs 3<|zn 2<|zs 0<|zs 11<|zs 12<|zn 2 [])<|
 .block 0<|.loop<|zq (zi (.bi .lss (.e 8) (.e 7)) []) (zn 1<|zs 1<|zn 1<|zs 3<|zn 2<|zs 6<|zs 7<|zs 8<|zs 11<|zn 1 [])<|
 .seq (.cond 9 .skip (.exit 0))<|
 .seq (.block 1<|zq (zp 1<|zi (.iy (.e 6) (.e 8))<|zp 3 []) (zn 1<|zs 1<|zn 1<|zs 3<|zs 8<|zs 11<|zs 6<|zs 7<|zs 8<|zn 2 [])<|
 .seq (zq (zp 1<|zi (.bi .gtr (.e 4) (.c (.n 0))) []) (zn 1<|zs 1<|zn 1<|zs 3<|zn 1<|zs 5<|zs 6<|zs 7<|zs 8<|zn 1<|zs 11 [])<|
 .cond 10 (.reg (zp 2<|zi (.bi .add (.e 3) (.e 1))<|zp 1 []) (zn 1<|zs 1<|zn 1<|zs 11<|zn 1<|zs 5<|zs 6<|zs 7<|zs 8<|zn 2 [])) .skip)<|
 .reg (zp 2<|zi (.bi .add (.e 3) (.e 5))<|zp 1 []) (zn 1<|zs 1<|zn 1<|zs 11<|zn 2<|zs 6<|zs 7<|zs 8<|zn 2 []))<|
 .reg (zi (.bi .add (.e 8) (.c (.n 1)))<|zp 1 []) (zn 1<|zs 1<|zn 1<|zs 3<|zn 2<|zs 6<|zs 7<|zs 11<|zn 2 []))<|
 zq (zp 2 []) (zn 2<|zs 3<|zn 8 [])<|
 .ret⟩
end Go.Cat
namespace Go.Cat
end Go.Cat
namespace Go.Cat
end Go.Cat
namespace Go.Cat
end Go.Cat
namespace Go.Cat
def ir_impl_HeightOf:IF:=⟨[],1,9,[1],zq (zi (.cs .v (.n 0)) []) (zs 0<|zn 8 [])<|
 .seq (zq (zp 1<|zi (.ca 167 [.e 0] 1)<|zi (.un .not (.e 9)) []) (zs 0<|zn 3<|zs 10<|zn 4 [])<|
 .cond 4 (zq (zi (.cs .v (.n (-1))) []) (zn 1<|zs 9<|zn 7 [])<|
 .ret) .skip)<|
 zq (zi (.cs .v (.n 0)) []) (zs 0<|zn 1<|zs 9<|zn 6 [])<|
 .seq (zq (zp 1<|zi (.ca 198 [.e 0] 1)<|zi (.ln (.e 9) [])<|zi (.cs .v (.n 0)) []) (zn 2<|zs 2<|zn 2<|zs 9<|zs 10<|zs 11<|zn 1 [])<|
 .block 0<|.loop<|zq (zi (.bi .lss (.e 7) (.e 6)) []) (zn 2<|zs 2<|zn 2<|zs 5<|zs 6<|zs 7<|zs 9 [])<|
 .seq (.cond 8 .skip (.exit 0))<|
 .seq (.block 1<|zq (zi (.ix (.e 5) [] (.e 7))<|zp 2 []) (zn 2<|zs 2<|zs 9<|zn 1<|zs 5<|zs 6<|zs 7<|zn 1 [])<|
 .reg (zp 2<|zi (.mx (.e 2) (.e 3))<|zp 1 []) (zn 2<|zs 9<|zn 2<|zs 5<|zs 6<|zs 7<|zn 1 []))<|
 .reg (zi (.bi .add (.e 7) (.c (.n 1)))<|zp 1 []) (zn 2<|zs 2<|zn 2<|zs 5<|zs 6<|zs 9<|zn 1 []))<|
 zq (zp 2 []) (zn 1<|zs 2<|zn 7 [])<|
 .ret⟩
def ir_impl_IsBinary:IF:=⟨[],1,3,[1],zq (zi (.cs .v (.b false)) []) (zs 0<|zn 2 [])<|
 zq (zp 1<|zi (.ca 194 [.e 0] 2)<|zp 5 []) (zn 2<|zs 4 [])<|
 zq (zp 2 []) (zn 1<|zs 2<|zn 1 [])<|
 .ret⟩
def ir_impl_LeafLevels:IF:=⟨[],1,5,[1],zq (zi (.cs (.o .v) (.l [])) []) (zs 0<|zn 4 [])<|
 zq (zp 1<|zi (.ca 194 [.e 0] 2)<|zp 5 []) (zn 2<|zs 5<|zs 6<|zn 1 [])<|
 .seq (zq (zp 1<|zi (.un .not (.e 3)) []) (zn 2<|zs 2<|zn 1<|zs 5 [])<|
 .cond 4 (zq (zi (.li (.o .v) [])<|zp 1 []) (zn 1<|zs 5<|zn 3 [])<|
 .ret) .skip)<|
 zq (zp 1<|zi (.li (.o .v) [])<|zi (.ca 209 [.e 2,.c (.n 0),.e 5] 1)<|zp 1 []) (zn 1<|zs 6<|zn 3 [])<|
 .ret⟩
def ir_impl_MirrorBinary:IF:=⟨[],1,6,[1,2],zq (zi (.cs .v (.s []))<|zi (.cs .v (.b false)) []) (zs 0<|zn 5 [])<|
 zq (zp 1<|zi (.ca 194 [.e 0] 2)<|zp 5 []) (zn 3<|zs 6<|zs 7<|zn 1 [])<|
 .seq (zq (zp 1<|zi (.un .not (.e 4)) []) (zn 3<|zs 3<|zn 1<|zs 6 [])<|
 .cond 5 (zq (zi (.cs .v (.s []))<|zi (.cs .v (.b false)) []) (zn 1<|zs 6<|zs 7<|zn 3 [])<|
 .ret) .skip)<|
 zq (zp 1<|zi (.ca 195 [.e 3] 1)<|zi (.ca 196 [.e 6] 1)<|zp 1<|zi (.cs .v (.b true)) []) (zn 1<|zs 7<|zs 8<|zn 3 [])<|
 .ret⟩
def ir_impl_NodesOf:IF:=⟨[],1,5,[1],zq (zi (.cs .v (.n 0)) []) (zs 0<|zn 4 [])<|
 zq (zp 1<|zi (.ca 194 [.e 0] 2)<|zp 5 []) (zn 2<|zs 5<|zs 6<|zn 1 [])<|
 .seq (zq (zp 1<|zi (.un .not (.e 3)) []) (zn 2<|zs 2<|zn 1<|zs 5 [])<|
 .cond 4 (zq (zi (.cs .v (.n (-1))) []) (zn 1<|zs 5<|zn 3 [])<|
 .ret) .skip)<|
 zq (zp 1<|zi (.ca 197 [.e 2] 1)<|zp 1 []) (zn 1<|zs 5<|zn 3 [])<|
 .ret⟩
def ir_impl_parseTree:IF:=⟨[],1,7,[1,2],zq (zi (.cs .v .z)<|zi (.cs .v (.b false)) []) (zs 0<|zn 6 [])<|
 .seq (zq (zp 1<|zi (.sn (.e 0))<|zi (.bi .gtr (.e 7) (.c (.n 25))) []) (zs 0<|zn 4<|zs 8<|zn 1 [])<|
 .cond 5 (zq (zi (.cs .v .z)<|zi (.cs .v (.b false)) []) (zn 1<|zs 7<|zs 8<|zn 4 [])<|
 .ret) .skip)<|
 zq (zp 1<|zi (.ca 208 [.e 0,.c (.n 0)] 2)<|zp 5 []) (zs 0<|zn 2<|zs 7<|zs 8<|zn 2 [])<|
 .seq (zq (zp 2<|zi (.sn (.e 0))<|zi (.bi .neq (.e 4) (.e 7))<|zp 1<|zg [(8,false)] (.cy (.e 3))<|zg [(8,false)] (.ca 197 [.e 9] 1)<|zg [(8,false)] (.bi .gtr (.e 10) (.c (.n 8)))<|zi (.pk (.e 8) (.c (.b true)) (.e 11)) []) (zn 3<|zs 3<|zn 2<|zs 12 [])<|
 .cond 6 (zq (zi (.cs .v .z)<|zi (.cs .v (.b false)) []) (zn 1<|zs 7<|zs 8<|zn 4 [])<|
 .ret) .skip)<|
 zq (zp 2<|zi (.cs .v (.b true)) []) (zn 1<|zs 3<|zs 7<|zn 4 [])<|
 .ret⟩
def ir_impl_readTree:IF:=⟨[],2,14,[2,3],zq (zi (.cs .v .z)<|zi (.cs .v (.n 0)) []) (zs 0<|zs 1<|zn 12 [])<|
 .seq (zq (zp 2<|zi (.sn (.e 0))<|zi (.bi .geq (.e 1) (.e 14)) []) (zs 0<|zs 1<|zn 6<|zs 15<|zn 5 [])<|
 .cond 8 (zq (zi (.cs .v .z)<|zi (.cs .v (.n (-1))) []) (zn 2<|zs 14<|zs 15<|zn 10 [])<|
 .ret) .skip)<|
 .seq (zq (zp 2<|zi (.sx (.e 0) (.e 1)) []) (zs 0<|zs 1<|zn 7<|zs 14<|zn 4 [])<|
 .block 0<|zq (zi (.bi .eql (.e 9) (.c (.y 46)))<|zp 1 []) (zs 0<|zs 1<|zn 7<|zs 9<|zs 14<|zn 3 [])<|
 .cond 10 (zq (zp 1<|zi (.bi .add (.e 1) (.c (.n 1)))<|zi (.cs .v .z)<|zp 1 []) (zn 2<|zs 15<|zs 14<|zn 10 [])<|
 .ret) (zq (zi (.bi .eql (.e 9) (.c (.y 40)))<|zp 1 []) (zs 0<|zs 1<|zn 9<|zs 14<|zn 2 [])<|
 .cond 11 (zq (zp 2<|zi (.bi .add (.e 1) (.c (.n 1)))<|zi (.ca 208 [.e 0,.e 14] 2)<|zp 5 []) (zs 0<|zn 3<|zs 15<|zs 16<|zn 8 [])<|
 .seq (zq (zp 1<|zi (.bi .lss (.e 5) (.c (.n 0))) []) (zs 0<|zn 3<|zs 4<|zs 5<|zn 6<|zs 14<|zn 1 [])<|
 .cond 12 (zq (zi (.cs .v .z)<|zi (.cs .v (.n (-1))) []) (zn 2<|zs 14<|zs 15<|zn 10 [])<|
 .ret) .skip)<|
 zq (zp 2<|zi (.ca 208 [.e 0,.e 5] 2)<|zp 5 []) (zs 0<|zn 3<|zs 4<|zn 1<|zs 14<|zs 15<|zn 6 [])<|
 .seq (zq (zp 1<|zi (.bi .lss (.e 7) (.c (.n 0)))<|zp 1<|zg [(14,false)] (.cy (.e 7))<|zg [(14,false)] (.cy (.e 0))<|zg [(14,false)] (.sn (.e 16))<|zg [(14,false)] (.bi .geq (.e 15) (.e 17))<|zi (.pk (.e 14) (.c (.b true)) (.e 18))<|zp 1<|zg [(19,false)] (.cy (.e 0))<|zg [(19,false)] (.cy (.e 7))<|zg [(19,false)] (.sx (.e 20) (.e 21))<|zg [(19,false)] (.bi .neq (.e 22) (.c (.y 41)))<|zi (.pk (.e 19) (.c (.b true)) (.e 23)) []) (zn 4<|zs 4<|zn 1<|zs 6<|zs 7<|zn 5<|zs 24 [])<|
 .cond 13 (zq (zi (.cs .v .z)<|zi (.cs .v (.n (-1))) []) (zn 2<|zs 14<|zs 15<|zn 10 [])<|
 .ret) .skip)<|
 zq (zp 2<|zi (.bg 0 [(.e 4,0),(.e 6,0)])<|zi (.bp (.e 14))<|zp 1<|zi (.bi .add (.e 7) (.c (.n 1)))<|zp 2 []) (zn 2<|zs 15<|zs 16<|zn 10 [])<|
 .ret) .skip))<|
 zq (zi (.cs .v .z)<|zi (.cs .v (.n (-1))) []) (zn 2<|zs 14<|zs 15<|zn 10 [])<|
 .ret⟩
end Go.Cat
namespace Go.Cat
def ir_spec_HeightOf:IF:=⟨[],1,6,[1],zq (zi (.cs .v (.n 0)) []) (zs 0<|zn 5 [])<|
 zq (zp 1<|zi (.ca 190 [.e 0] 1)<|zp 1 []) (zn 2<|zs 6<|zn 3 [])<|
 zq (zi (.cs .v (.n (-1))) []) (zn 2<|zs 2<|zs 6<|zn 2 [])<|
 .seq (zq (zi (.cs .v (.n 0)) []) (zn 2<|zs 2<|zs 3<|zs 6<|zn 1 [])<|
 .block 0<|.loop<|.seq (zq (zp 2<|zi (.ln (.e 2) [])<|zi (.bi .lss (.e 4) (.e 6)) []) (zn 2<|zs 2<|zs 3<|zs 4<|zs 7 [])<|
 .cond 5 .skip (.exit 0))<|
 .seq (.block 1<|.reg (zp 3<|zi (.ix (.e 2) [] (.e 4))<|zp 1<|zi (.mx (.e 3) (.e 6))<|zp 1 []) (zn 2<|zs 2<|zs 7<|zs 4<|zn 1 []))<|
 .reg (zp 1<|zi (.bi .add (.e 4) (.c (.n 1)))<|zp 1 []) (zn 2<|zs 2<|zs 3<|zs 6<|zn 1 []))<|
 zq (zp 2 []) (zn 1<|zs 3<|zn 4 [])<|
 .ret⟩
def ir_spec_IsBinary:IF:=⟨[],1,2,[1],zq (zi (.cs .v (.b false)) []) (zs 0<|zn 1 [])<|
 zq (zp 1<|zi (.sn (.e 0))<|zi (.bi .leq (.e 2) (.c (.n 25)))<|zp 1<|zg [(3,true)] (.cy (.e 0))<|zg [(3,true)] (.ca 188 [.e 4,.c (.n 0)] 1)<|zg [(3,true)] (.cy (.e 0))<|zg [(3,true)] (.sn (.e 6))<|zg [(3,true)] (.bi .eql (.e 5) (.e 7))<|zi (.pk (.e 3) (.e 8) (.c (.b false)))<|zp 1<|zg [(9,true)] (.cy (.e 0))<|zg [(9,true)] (.bi .neq (.e 10) (.c (.s [])))<|zi (.pk (.e 9) (.e 11) (.c (.b false)))<|zp 1 []) (zn 1<|zs 12 [])<|
 .ret⟩
def ir_spec_LeafLevels:IF:=⟨[],1,9,[1],zq (zi (.cs (.o .v) (.l [])) []) (zs 0<|zn 8 [])<|
 zq (zi (.li (.o .v) [])<|zp 1 []) (zs 0<|zn 1<|zs 9<|zn 6 [])<|
 zq (zi (.cs .v (.n 0)) []) (zs 0<|zn 1<|zs 2<|zs 9<|zn 5 [])<|
 .seq (zq (zi (.cs .v (.n 0)) []) (zs 0<|zn 1<|zs 2<|zs 3<|zs 9<|zn 4 [])<|
 .block 0<|.loop<|.seq (zq (zp 2<|zi (.sn (.e 0))<|zi (.bi .lss (.e 4) (.e 9))<|zp 1<|zg [(10,true)] (.cy (.e 0))<|zg [(10,true)] (.ca 160 [.e 11] 1)<|zi (.pk (.e 10) (.e 12) (.c (.b false))) []) (zs 0<|zn 1<|zs 2<|zs 3<|zs 4<|zs 13<|zn 3 [])<|
 .cond 5 .skip (.exit 0))<|
 .seq (.block 1<|zq (zp 2<|zi (.sx (.e 0) (.e 4)) []) (zs 0<|zn 1<|zs 2<|zs 3<|zs 4<|zn 1<|zs 9<|zn 2 [])<|
 .block 2<|zq (zi (.bi .eql (.e 6) (.c (.y 40)))<|zp 1 []) (zs 0<|zn 1<|zs 2<|zs 3<|zs 4<|zn 1<|zs 6<|zs 9<|zn 1 [])<|
 .cond 7 (.reg (zp 1<|zi (.bi .add (.e 3) (.c (.n 1)))<|zp 1 []) (zs 0<|zn 1<|zs 2<|zs 9<|zs 4<|zn 4 [])) (zq (zi (.bi .eql (.e 6) (.c (.y 41)))<|zp 1 []) (zs 0<|zn 1<|zs 2<|zs 3<|zs 4<|zn 3<|zs 9 [])<|
 .cond 8 (.reg (zp 1<|zi (.bi .sub (.e 3) (.c (.n 1)))<|zp 1 []) (zs 0<|zn 1<|zs 2<|zs 9<|zs 4<|zn 4 [])) (.reg (zp 2<|zi (.li (.o .v) [.e 3])<|zi (.ap false (.e 2) (.e 9))<|zp 1 []) (zs 0<|zn 1<|zs 10<|zs 3<|zs 4<|zn 4 []))))<|
 .reg (zp 1<|zi (.bi .add (.e 4) (.c (.n 1)))<|zp 1 []) (zs 0<|zn 1<|zs 2<|zs 3<|zs 9<|zn 4 []))<|
 zq (zp 2 []) (zn 1<|zs 2<|zn 7 [])<|
 .ret⟩
def ir_spec_MirrorBinary:IF:=⟨[],1,4,[1,2],zq (zi (.cs .v (.s []))<|zi (.cs .v (.b false)) []) (zs 0<|zn 3 [])<|
 .seq (zq (zp 1<|zi (.ca 160 [.e 0] 1)<|zi (.un .not (.e 4)) []) (zs 0<|zn 2<|zs 5 [])<|
 .cond 3 (zq (zi (.cs .v (.s []))<|zi (.cs .v (.b false)) []) (zn 1<|zs 4<|zs 5<|zn 1 [])<|
 .ret) .skip)<|
 zq (zp 1<|zi (.ca 189 [.e 0] 1)<|zp 1<|zi (.cs .v (.b true)) []) (zn 1<|zs 4<|zs 5<|zn 1 [])<|
 .ret⟩
def ir_spec_NodesOf:IF:=⟨[],1,3,[1],zq (zi (.cs .v (.n 0)) []) (zs 0<|zn 2 [])<|
 .seq (zq (zp 1<|zi (.ca 160 [.e 0] 1)<|zi (.un .not (.e 3)) []) (zs 0<|zn 1<|zs 4 [])<|
 .cond 2 (zq (zi (.cs .v (.n (-1))) []) (zn 1<|zs 3<|zn 1 [])<|
 .ret) .skip)<|
 zq (zp 1<|zi (.sn (.e 0))<|zi (.bi .sub (.e 3) (.c (.n 1)))<|zi (.bi .quo (.e 4) (.c (.n 3)))<|zp 1 []) (zn 1<|zs 5<|zn 1 [])<|
 .ret⟩
def ir_spec_l6End:IF:=⟨[],2,10,[2],zq (zi (.cs .v (.n 0)) []) (zs 0<|zs 1<|zn 8 [])<|
 .seq (zq (zp 2<|zi (.sn (.e 0))<|zi (.bi .geq (.e 1) (.e 10)) []) (zs 0<|zs 1<|zn 3<|zs 11<|zn 4 [])<|
 .cond 5 (zq (zi (.cs .v (.n (-1))) []) (zn 2<|zs 10<|zn 7 [])<|
 .ret) .skip)<|
 .seq (zq (zp 2<|zi (.sx (.e 0) (.e 1))<|zi (.bi .eql (.e 10) (.c (.y 46))) []) (zs 0<|zs 1<|zn 4<|zs 11<|zn 3 [])<|
 .cond 6 (zq (zp 1<|zi (.bi .add (.e 1) (.c (.n 1)))<|zp 1 []) (zn 2<|zs 10<|zn 7 [])<|
 .ret) .skip)<|
 .seq (zq (zp 2<|zi (.sx (.e 0) (.e 1))<|zi (.bi .neq (.e 10) (.c (.y 40))) []) (zs 0<|zs 1<|zn 5<|zs 11<|zn 2 [])<|
 .cond 7 (zq (zi (.cs .v (.n (-1))) []) (zn 2<|zs 10<|zn 7 [])<|
 .ret) .skip)<|
 zq (zp 2<|zi (.bi .add (.e 1) (.c (.n 1)))<|zi (.ca 188 [.e 0,.e 10] 1)<|zp 1 []) (zs 0<|zn 2<|zs 11<|zn 6 [])<|
 .seq (zq (zp 1<|zi (.bi .lss (.e 3) (.c (.n 0))) []) (zs 0<|zn 2<|zs 3<|zn 4<|zs 10<|zn 1 [])<|
 .cond 8 (zq (zi (.cs .v (.n (-1))) []) (zn 2<|zs 10<|zn 7 [])<|
 .ret) .skip)<|
 zq (zp 2<|zi (.ca 188 [.e 0,.e 3] 1)<|zp 1 []) (zs 0<|zn 3<|zs 10<|zn 5 [])<|
 .seq (zq (zp 1<|zi (.bi .lss (.e 4) (.c (.n 0)))<|zp 1<|zg [(10,false)] (.cy (.e 4))<|zg [(10,false)] (.cy (.e 0))<|zg [(10,false)] (.sn (.e 12))<|zg [(10,false)] (.bi .geq (.e 11) (.e 13))<|zi (.pk (.e 10) (.c (.b true)) (.e 14))<|zp 1<|zg [(15,false)] (.cy (.e 0))<|zg [(15,false)] (.cy (.e 4))<|zg [(15,false)] (.sx (.e 16) (.e 17))<|zg [(15,false)] (.bi .neq (.e 18) (.c (.y 41)))<|zi (.pk (.e 15) (.c (.b true)) (.e 19)) []) (zn 4<|zs 4<|zn 4<|zs 20 [])<|
 .cond 9 (zq (zi (.cs .v (.n (-1))) []) (zn 2<|zs 10<|zn 7 [])<|
 .ret) .skip)<|
 zq (zp 1<|zi (.bi .add (.e 4) (.c (.n 1)))<|zp 1 []) (zn 2<|zs 10<|zn 7 [])<|
 .ret⟩
def ir_spec_l6Mirror:IF:=⟨[],1,4,[1],zq (zi (.cs .v (.s [])) []) (zs 0<|zn 3 [])<|
 .seq (zq (zp 1<|zi (.bi .eql (.e 0) (.c (.s [46]))) []) (zs 0<|zn 2<|zs 4 [])<|
 .cond 3 (zq (zi (.cs .v (.s [46])) []) (zn 1<|zs 4<|zn 2 [])<|
 .ret) .skip)<|
 zq (zp 1<|zi (.ca 188 [.e 0,.c (.n 1)] 1)<|zp 1 []) (zs 0<|zn 1<|zs 4<|zn 1 [])<|
 zq (zp 3<|zi (.sn (.e 0))<|zi (.bi .sub (.e 4) (.c (.n 1)))<|zi (.ss (.e 0) (some (.e 2)) (some (.e 5)))<|zi (.ca 189 [.e 6] 1)<|zi (.bi .add (.c (.s [40])) (.e 7))<|zp 2<|zi (.ss (.e 0) (some (.c (.n 1))) (some (.e 2)))<|zi (.ca 189 [.e 9] 1)<|zi (.bi .add (.e 8) (.e 10))<|zi (.bi .add (.e 11) (.c (.s [41])))<|zp 1 []) (zn 1<|zs 12<|zn 2 [])<|
 .ret⟩
end Go.Cat
namespace Go.Cat
def ir_impl_tree_find:IF:=⟨[],2,7,[2],zq (zi (.cs .v .z) []) (zs 0<|zs 1<|zn 5 [])<|
 .seq (zq (zp 1<|zi (.nz true (.e 0))<|zp 1<|zg [(7,false)] (.cy (.e 1))<|zg [(7,false)] (.bi .lss (.e 8) (.c (.n 0)))<|zi (.pk (.e 7) (.c (.b true)) (.e 9)) []) (zs 0<|zs 1<|zn 2<|zs 10<|zn 2 [])<|
 .cond 4 (zq (zi (.cs .v .z) []) (zn 2<|zs 7<|zn 4 [])<|
 .ret) .skip)<|
 zq (zp 1<|zi (.nn (.e 0))<|zi (.fp false (.e 7) 0)<|zp 1<|zi (.ca 197 [.e 8] 1)<|zp 1 []) (zs 0<|zs 1<|zn 1<|zs 9<|zn 3 [])<|
 .seq (.block 0<|zq (zp 2<|zi (.bi .lss (.e 1) (.e 3))<|zp 1 []) (zs 0<|zs 1<|zn 1<|zs 3<|zn 1<|zs 7<|zn 1 [])<|
 .cond 5 (zq (zp 1<|zi (.nn (.e 0))<|zi (.fp false (.e 7) 0)<|zp 2<|zi (.ca 213 [.e 8,.e 1] 1)<|zp 1 []) (zn 2<|zs 9<|zn 4 [])<|
 .ret) (zq (zp 2<|zi (.bi .eql (.e 1) (.e 3))<|zp 1 []) (zs 0<|zs 1<|zn 1<|zs 3<|zn 2<|zs 7 [])<|
 .cond 6 (zq (zp 2 []) (zn 2<|zs 0<|zn 4 [])<|
 .ret) .skip))<|
 zq (zp 1<|zi (.nn (.e 0))<|zi (.fp false (.e 7) 1)<|zp 3<|zi (.bi .sub (.e 1) (.e 3))<|zi (.bi .sub (.e 9) (.c (.n 1)))<|zi (.ca 213 [.e 8,.e 10] 1)<|zp 1 []) (zn 2<|zs 11<|zn 4 [])<|
 .ret⟩
def ir_impl_tree_levels:IF:=⟨[],3,5,[3],zq (zi (.cs (.o .v) (.l [])) []) (zs 0<|zs 1<|zs 2<|zn 2 [])<|
 .seq (zq (zp 1<|zi (.nz true (.e 0)) []) (zs 0<|zs 1<|zs 2<|zn 1<|zs 5 [])<|
 .cond 4 (zq (zp 2<|zi (.li (.o .v) [.e 1])<|zi (.ap false (.e 2) (.e 5))<|zp 1 []) (zn 3<|zs 6<|zn 1 [])<|
 .ret) .skip)<|
 zq (zp 1<|zi (.nn (.e 0))<|zi (.fp false (.e 5) 1)<|zp 2<|zi (.bi .add (.e 1) (.c (.n 1)))<|zp 1<|zi (.nn (.e 0))<|zi (.fp false (.e 8) 0)<|zp 2<|zi (.bi .add (.e 1) (.c (.n 1)))<|zp 1<|zi (.ca 209 [.e 9,.e 10,.e 2] 1)<|zi (.ca 209 [.e 6,.e 7,.e 11] 1)<|zp 1 []) (zn 3<|zs 12<|zn 1 [])<|
 .ret⟩
def ir_impl_tree_mirror:IF:=⟨[],1,3,[1],zq (zi (.cs .v .z) []) (zs 0<|zn 2 [])<|
 .seq (zq (zp 1<|zi (.nz true (.e 0)) []) (zs 0<|zn 1<|zs 3 [])<|
 .cond 2 (zq (zi (.cs .v .z) []) (zn 1<|zs 3<|zn 1 [])<|
 .ret) .skip)<|
 zq (zp 1<|zi (.nn (.e 0))<|zi (.fp false (.e 3) 1)<|zp 1<|zi (.ca 195 [.e 4] 1)<|zp 1<|zi (.nn (.e 0))<|zi (.fp false (.e 6) 0)<|zp 1<|zi (.ca 195 [.e 7] 1)<|zi (.bg 0 [(.e 5,0),(.e 8,0)])<|zi (.bp (.e 9))<|zp 1 []) (zn 1<|zs 10<|zn 1 [])<|
 .ret⟩
def ir_impl_tree_nodes:IF:=⟨[],1,3,[1],zq (zi (.cs .v (.n 0)) []) (zs 0<|zn 2 [])<|
 .seq (zq (zp 1<|zi (.nz true (.e 0)) []) (zs 0<|zn 1<|zs 3 [])<|
 .cond 2 (zq (zi (.cs .v (.n 0)) []) (zn 1<|zs 3<|zn 1 [])<|
 .ret) .skip)<|
 zq (zp 1<|zi (.nn (.e 0))<|zi (.fp false (.e 3) 0)<|zp 1<|zi (.ca 197 [.e 4] 1)<|zp 1<|zi (.nn (.e 0))<|zi (.fp false (.e 6) 1)<|zp 1<|zi (.ca 197 [.e 7] 1)<|zi (.bi .add (.e 5) (.e 8))<|zi (.bi .add (.e 9) (.c (.n 1)))<|zp 1 []) (zn 1<|zs 10<|zn 1 [])<|
 .ret⟩
def ir_impl_tree_text:IF:=⟨[],1,3,[1],zq (zi (.cs .v (.s [])) []) (zs 0<|zn 2 [])<|
 .seq (zq (zp 1<|zi (.nz true (.e 0)) []) (zs 0<|zn 1<|zs 3 [])<|
 .cond 2 (zq (zi (.cs .v (.s [46])) []) (zn 1<|zs 3<|zn 1 [])<|
 .ret) .skip)<|
 zq (zp 1<|zi (.nn (.e 0))<|zi (.fp false (.e 3) 0)<|zp 1<|zi (.ca 196 [.e 4] 1)<|zi (.bi .add (.c (.s [40])) (.e 5))<|zp 1<|zi (.nn (.e 0))<|zi (.fp false (.e 7) 1)<|zp 1<|zi (.ca 196 [.e 8] 1)<|zi (.bi .add (.e 6) (.e 9))<|zi (.bi .add (.e 10) (.c (.s [41])))<|zp 1 []) (zn 1<|zs 11<|zn 1 [])<|
 .ret⟩
def ir_impl_tree_weights:IF:=⟨[],2,4,[2],zq (zi (.cs (.o .v) (.l [])) []) (zs 0<|zs 1<|zn 2 [])<|
 .seq (zq (zp 1<|zi (.nz true (.e 0)) []) (zs 0<|zs 1<|zn 1<|zs 4 [])<|
 .cond 3 (zq (zp 2 []) (zn 2<|zs 1<|zn 1 [])<|
 .ret) .skip)<|
 zq (zp 1<|zi (.nn (.e 0))<|zi (.fp false (.e 4) 1)<|zp 2<|zi (.nn (.e 0))<|zi (.fp false (.e 6) 0)<|zp 2<|zi (.ca 199 [.e 7,.e 1] 1)<|zp 1<|zi (.nn (.e 0))<|zi (.fp false (.e 9) 1)<|zp 1<|zi (.ca 197 [.e 10] 1)<|zi (.li (.o .v) [.e 11])<|zi (.ap false (.e 8) (.e 12))<|zi (.ca 199 [.e 5,.e 13] 1)<|zp 1 []) (zn 2<|zs 14<|zn 1 [])<|
 .ret⟩
end Go.Cat
namespace Go.Cat
end Go.Cat
namespace Go.Cat
end Go.Cat
namespace Go.Cat
end Go.Cat
namespace Go.Cat
end Go.Cat
namespace Go.Cat
end Go.Cat
namespace Go.Cat
end Go.Cat
namespace Go.Cat
end Go.Cat
namespace Go.Cat
end Go.Cat
namespace Go.Cat
end Go.Cat
namespace Go.Cat
end Go.Cat
namespace Go.Cat
end Go.Cat
namespace Go.Cat
def ir_impl_CountRight:IF:=⟨[],1,10,[1],zq (zi (.cs .v (.n 0)) []) (zs 0<|zn 9 [])<|
 .seq (zq (zp 1<|zi (.ca 167 [.e 0] 1)<|zi (.un .not (.e 10)) []) (zs 0<|zn 4<|zs 11<|zn 4 [])<|
 .cond 5 (zq (zi (.cs .v (.n (-1))) []) (zn 1<|zs 10<|zn 8 [])<|
 .ret) .skip)<|
 zq (zi (.cs .v (.n 0)) []) (zs 0<|zn 1<|zs 10<|zn 7 [])<|
 .seq (zq (zp 1<|zi (.ca 169 [.e 0] 1)<|zi (.cs .v (.n 0)) []) (zs 0<|zn 1<|zs 2<|zn 3<|zs 10<|zs 11<|zn 2 [])<|
 .block 0<|.loop<|zq (zi (.bi .lss (.e 7) (.e 6)) []) (zs 0<|zn 1<|zs 2<|zn 3<|zs 6<|zs 7<|zs 10<|zn 1 [])<|
 .seq (.cond 8 .skip (.exit 0))<|
 .seq (.block 1<|zq (zp 2 []) (zs 0<|zn 1<|zs 2<|zs 7<|zn 2<|zs 6<|zs 7<|zn 2 [])<|
 zq (zp 2<|zi (.ca 200 [.e 0,.e 3] 2)<|zp 5 []) (zs 0<|zn 1<|zs 2<|zn 1<|zs 11<|zn 1<|zs 6<|zs 7<|zn 2 [])<|
 zq (zp 1 []) (zs 0<|zn 1<|zs 2<|zn 3<|zs 6<|zs 7<|zn 1<|zs 4 [])<|
 .cond 9 (.reg (zp 1<|zi (.bi .add (.e 2) (.c (.n 1)))<|zp 1 []) (zs 0<|zn 1<|zs 10<|zn 3<|zs 6<|zs 7<|zn 2 [])) .skip)<|
 .reg (zi (.bi .add (.e 7) (.c (.n 1)))<|zp 1 []) (zs 0<|zn 1<|zs 2<|zn 3<|zs 6<|zs 10<|zn 2 []))<|
 zq (zp 2 []) (zn 1<|zs 2<|zn 8 [])<|
 .ret⟩
def ir_impl_NeighboursOf:IF:=⟨[],1,2,[1],zq (zi (.cs (.o .v) (.l [])) []) (zs 0<|zn 1 [])<|
 zq (zp 1<|zi (.ca 201 [.e 0,.c (.f 200 [])] 1)<|zp 1<|zi (.ca 201 [.e 0,.c (.f 202 [])] 1)<|zi (.ap false (.e 2) (.e 3))<|zp 1 []) (zn 1<|zs 4 [])<|
 .ret⟩
def ir_impl_WeightsOf:IF:=⟨[],1,3,[1],zq (zi (.cs (.o .v) (.l [])) []) (zs 0<|zn 2 [])<|
 zq (zp 1<|zi (.ca 194 [.e 0] 2)<|zp 5 []) (zn 2<|zs 3 [])<|
 zq (zp 1<|zi (.li (.o .v) [])<|zi (.ca 199 [.e 2,.e 3] 1)<|zp 1 []) (zn 1<|zs 4<|zn 1 [])<|
 .ret⟩
def ir_impl_node:IF:=⟨[],2,7,[2,3],zq (zi (.cs .v .z)<|zi (.cs .v .z) []) (zs 0<|zs 1<|zn 5 [])<|
 zq (zp 1<|zi (.ca 194 [.e 0] 2)<|zp 5 []) (zn 1<|zs 1<|zn 2<|zs 7<|zs 8<|zn 1 [])<|
 .seq (zq (zp 1<|zi (.un .not (.e 5)) []) (zn 1<|zs 1<|zn 2<|zs 4<|zn 1<|zs 7 [])<|
 .cond 6 (zq (zi (.cs .v .z)<|zi (.cs .v .z) []) (zn 2<|zs 7<|zs 8<|zn 3 [])<|
 .ret) .skip)<|
 zq (zp 3<|zi (.ca 213 [.e 4,.e 1] 1)<|zp 2 []) (zn 2<|zs 4<|zs 7<|zn 3 [])<|
 .ret⟩
def ir_impl_rotations:IF:=⟨[],2,9,[2],zq (zi (.cs (.o .v) (.l [])) []) (zs 0<|zs 1<|zn 7 [])<|
 zq (zi (.li (.o .v) [])<|zp 1 []) (zs 0<|zs 1<|zn 1<|zs 9<|zn 5 [])<|
 .seq (zq (zi (.cs .v (.n 0)) []) (zs 0<|zs 1<|zn 1<|zs 3<|zs 9<|zn 4 [])<|
 .block 0<|.loop<|.seq (zq (zp 2<|zi (.ca 169 [.e 0] 1)<|zi (.bi .lss (.e 4) (.e 9)) []) (zs 0<|zs 1<|zn 1<|zs 3<|zs 4<|zn 2<|zs 10<|zn 1 [])<|
 .cond 7 .skip (.exit 0))<|
 .seq (.block 1<|zq (zp 3<|zi (.cd (.e 1) 200 [.e 0,.e 4] 2)<|zp 5 []) (zs 0<|zs 1<|zn 1<|zs 3<|zs 4<|zs 9<|zs 10<|zn 2 [])<|
 zq (zp 1 []) (zs 0<|zs 1<|zn 1<|zs 3<|zs 4<|zs 5<|zn 2<|zs 6 [])<|
 .cond 8 (.reg (zp 2<|zi (.li (.o .v) [.e 5])<|zi (.ap false (.e 3) (.e 9))<|zp 1 []) (zs 0<|zs 1<|zn 1<|zs 10<|zs 4<|zn 4 [])) .skip)<|
 .reg (zp 1<|zi (.bi .add (.e 4) (.c (.n 1)))<|zp 1 []) (zs 0<|zs 1<|zn 1<|zs 3<|zs 9<|zn 4 []))<|
 zq (zp 2 []) (zn 2<|zs 3<|zn 6 [])<|
 .ret⟩
def ir_impl_rotations_w202:IF:=⟨[],2,9,[2],zq (zi (.cs (.o .v) (.l [])) []) (zs 0<|zs 1<|zn 7 [])<|
 zq (zi (.li (.o .v) [])<|zp 1 []) (zs 0<|zs 1<|zn 1<|zs 9<|zn 5 [])<|
 .seq (zq (zi (.cs .v (.n 0)) []) (zs 0<|zs 1<|zn 1<|zs 3<|zs 9<|zn 4 [])<|
 .block 0<|.loop<|.seq (zq (zp 2<|zi (.ca 169 [.e 0] 1)<|zi (.bi .lss (.e 4) (.e 9)) []) (zs 0<|zs 1<|zn 1<|zs 3<|zs 4<|zn 2<|zs 10<|zn 1 [])<|
 .cond 7 .skip (.exit 0))<|
 .seq (.block 1<|zq (zp 3<|zi (.cd (.e 1) 202 [.e 0,.e 4] 2)<|zp 5 []) (zs 0<|zs 1<|zn 1<|zs 3<|zs 4<|zs 9<|zs 10<|zn 2 [])<|
 zq (zp 1 []) (zs 0<|zs 1<|zn 1<|zs 3<|zs 4<|zs 5<|zn 2<|zs 6 [])<|
 .cond 8 (.reg (zp 2<|zi (.li (.o .v) [.e 5])<|zi (.ap false (.e 3) (.e 9))<|zp 1 []) (zs 0<|zs 1<|zn 1<|zs 10<|zs 4<|zn 4 [])) .skip)<|
 .reg (zp 1<|zi (.bi .add (.e 4) (.c (.n 1)))<|zp 1 []) (zs 0<|zs 1<|zn 1<|zs 3<|zs 9<|zn 4 []))<|
 zq (zp 2 []) (zn 2<|zs 3<|zn 6 [])<|
 .ret⟩
end Go.Cat
namespace Go.Cat
def ir_impl_TreeLine:IF:=⟨[],1,4,[1],zq (zi (.cs .v (.s [])) []) (zs 0<|zn 3 [])<|
 .seq (zq (zp 1<|zi (.ca 167 [.e 0] 1)<|zi (.un .not (.e 4)) []) (zs 0<|zn 2<|zs 5 [])<|
 .cond 3 (zq (zi (.cs .v (.s [])) []) (zn 1<|zs 4<|zn 2 [])<|
 .ret) .skip)<|
 zq (zp 1<|zi (.ca 168 [.e 0] 2)<|zp 5 []) (zs 0<|zn 1<|zs 4<|zn 1 [])<|
 zq (zp 2<|zi (.ca 169 [.e 0] 1)<|zi (.ca 143 [.e 4] 1)<|zp 1<|zi (.ca 170 [.e 0] 1)<|zi (.ca 143 [.e 6] 1)<|zp 1<|zi (.ca 171 [.e 0] 1)<|zi (.ca 142 [.e 8] 1)<|zp 1<|zi (.ca 172 [.e 0] 1)<|zi (.ca 143 [.e 10] 1)<|zp 1<|zi (.ca 173 [.e 0] 1)<|zi (.ln (.e 12) [])<|zi (.ca 143 [.e 13] 1)<|zp 1<|zi (.li (.o .v) [.c (.s [116,114,101,101]),.e 0,.c (.s [110,111,100,101,115]),.e 5,.c (.s [104,101,105,103,104,116]),.e 7,.c (.s [119,101,105,103,104,116,115]),.e 9,.c (.s [117,112]),.e 11,.c (.s [110,101,105,103,104,98,111,117,114,115]),.e 14,.c (.s [109,105,114,114,111,114]),.e 2])<|zi (.ca 141 [.e 15] 1)<|zp 1 []) (zn 1<|zs 16<|zn 2 [])<|
 .ret⟩
def ir_impl_line:IF:=⟨[],1,2,[1],zq (zi (.cs .v (.s [])) []) (zs 0<|zn 1 [])<|
 zq (zp 1<|zi (.ca 184 [.e 0,.c (.s [32])] 1)<|zp 1 []) (zn 1<|zs 2 [])<|
 .ret⟩
def ir_impl_list:IF:=⟨[],1,9,[1],zq (zi (.cs .v (.s [])) []) (zs 0<|zn 8 [])<|
 .seq (zq (zp 1<|zi (.ln (.e 0) [])<|zi (.bi .eql (.e 9) (.c (.n 0))) []) (zs 0<|zn 3<|zs 10<|zn 4 [])<|
 .cond 4 (zq (zi (.cs .v (.s [110,111,110,101])) []) (zn 1<|zs 9<|zn 7 [])<|
 .ret) .skip)<|
 zq (zi (.li (.o .v) [])<|zp 1 []) (zs 0<|zn 1<|zs 9<|zn 6 [])<|
 .seq (zq (zp 1<|zi (.ln (.e 0) [])<|zi (.cs .v (.n 0)) []) (zn 2<|zs 2<|zn 2<|zs 0<|zs 9<|zs 10<|zn 1 [])<|
 .block 0<|.loop<|zq (zi (.bi .lss (.e 7) (.e 6)) []) (zn 2<|zs 2<|zn 2<|zs 5<|zs 6<|zs 7<|zs 9 [])<|
 .seq (.cond 8 .skip (.exit 0))<|
 .seq (.block 1<|zq (zi (.iy (.e 5) (.e 7))<|zp 2 []) (zn 2<|zs 2<|zs 9<|zn 1<|zs 5<|zs 6<|zs 7<|zn 1 [])<|
 .reg (zp 2<|zi (.ca 143 [.e 3] 1)<|zi (.li (.o .v) [.e 9])<|zi (.ap false (.e 2) (.e 10))<|zp 1 []) (zn 2<|zs 11<|zn 2<|zs 5<|zs 6<|zs 7<|zn 1 []))<|
 .reg (zi (.bi .add (.e 7) (.c (.n 1)))<|zp 1 []) (zn 2<|zs 2<|zn 2<|zs 5<|zs 6<|zs 9<|zn 1 []))<|
 zq (zp 1<|zi (.ca 184 [.e 2,.c (.s [44])] 1)<|zp 1 []) (zn 1<|zs 9<|zn 7 [])<|
 .ret⟩
end Go.Cat
namespace Go.Cat
def ir_laws_FnExactTreeLine:IF:=⟨[],1,6,[1],zq (zi (.cs .v (.b false)) []) (zs 0<|zn 5 [])<|
 .seq (zq (zp 1<|zi (.sn (.e 0))<|zi (.bi .gtr (.e 6) (.c (.n 1048576))) []) (zs 0<|zn 3<|zs 7<|zn 1 [])<|
 .cond 4 (zq (zi (.cs .v (.b true)) []) (zn 1<|zs 6<|zn 4 [])<|
 .ret) .skip)<|
 zq (zp 1<|zi (.ca 124 [.e 0] 1)<|zp 1 []) (zs 0<|zn 1<|zs 6<|zn 3 [])<|
 zq (zp 1<|zi (.ca 125 [.e 0] 1)<|zp 1 []) (zn 2<|zs 2<|zs 6<|zn 2 [])<|
 .seq (zq (zp 2<|zi (.bi .neq (.e 3) (.e 2)) []) (zn 5<|zs 6 [])<|
 .cond 5 (zq (zi (.cs .v (.b false)) []) (zn 1<|zs 6<|zn 4 [])<|
 .ret) .skip)<|
 zq (zi (.cs .v (.b true)) []) (zn 1<|zs 6<|zn 4 [])<|
 .ret⟩
end Go.Cat
namespace Go.Cat
def ir_spec_CountRight:IF:=⟨[],1,8,[1],zq (zi (.cs .v (.n 0)) []) (zs 0<|zn 7 [])<|
 .seq (zq (zp 1<|zi (.ca 160 [.e 0] 1)<|zi (.un .not (.e 8)) []) (zs 0<|zn 4<|zs 9<|zn 2 [])<|
 .cond 5 (zq (zi (.cs .v (.n (-1))) []) (zn 1<|zs 8<|zn 6 [])<|
 .ret) .skip)<|
 zq (zi (.cs .v (.n 0)) []) (zs 0<|zn 1<|zs 8<|zn 5 [])<|
 .seq (zq (zi (.cs .v (.n 0)) []) (zs 0<|zn 1<|zs 2<|zs 8<|zn 4 [])<|
 .block 0<|.loop<|.seq (zq (zp 2<|zi (.ca 162 [.e 0] 1)<|zi (.bi .lss (.e 3) (.e 8)) []) (zs 0<|zn 1<|zs 2<|zs 3<|zn 2<|zs 9<|zn 1 [])<|
 .cond 6 .skip (.exit 0))<|
 .seq (.block 1<|zq (zp 2<|zi (.ca 192 [.e 0,.e 3] 2)<|zp 5 []) (zs 0<|zn 1<|zs 2<|zs 3<|zs 9<|zn 3 [])<|
 zq (zp 1 []) (zs 0<|zn 1<|zs 2<|zs 3<|zn 3<|zs 4 [])<|
 .cond 7 (.reg (zp 1<|zi (.bi .add (.e 2) (.c (.n 1)))<|zp 1 []) (zs 0<|zn 1<|zs 8<|zs 3<|zn 4 [])) .skip)<|
 .reg (zp 1<|zi (.bi .add (.e 3) (.c (.n 1)))<|zp 1 []) (zs 0<|zn 1<|zs 2<|zs 8<|zn 4 []))<|
 zq (zp 2 []) (zn 1<|zs 2<|zn 6 [])<|
 .ret⟩
def ir_spec_NeighboursOf:IF:=⟨[],1,13,[1],zq (zi (.cs (.o .v) (.l [])) []) (zs 0<|zn 12 [])<|
 zq (zi (.li (.o .v) [])<|zp 1 []) (zs 0<|zn 1<|zs 13<|zn 10 [])<|
 .seq (zq (zi (.cs .v (.n 0)) []) (zs 0<|zn 1<|zs 2<|zs 13<|zn 9 [])<|
 .block 0<|.loop<|.seq (zq (zp 2<|zi (.ca 162 [.e 0] 1)<|zi (.bi .lss (.e 3) (.e 13)) []) (zs 0<|zn 1<|zs 2<|zs 3<|zn 5<|zs 14<|zn 3 [])<|
 .cond 9 .skip (.exit 0))<|
 .seq (.block 1<|zq (zp 2<|zi (.ca 192 [.e 0,.e 3] 2)<|zp 5 []) (zs 0<|zn 1<|zs 2<|zs 3<|zs 13<|zs 14<|zn 7 [])<|
 zq (zp 1 []) (zs 0<|zn 1<|zs 2<|zs 3<|zs 4<|zn 5<|zs 5<|zn 2 [])<|
 .cond 10 (.reg (zp 2<|zi (.li (.o .v) [.e 4])<|zi (.ap false (.e 2) (.e 13))<|zp 1 []) (zs 0<|zn 1<|zs 14<|zs 3<|zn 9 [])) .skip)<|
 .reg (zp 1<|zi (.bi .add (.e 3) (.c (.n 1)))<|zp 1 []) (zs 0<|zn 1<|zs 2<|zs 13<|zn 9 []))<|
 .seq (zq (zi (.cs .v (.n 0)) []) (zs 0<|zn 1<|zs 2<|zn 3<|zs 13<|zn 6 [])<|
 .block 2<|.loop<|.seq (zq (zp 2<|zi (.ca 162 [.e 0] 1)<|zi (.bi .lss (.e 6) (.e 13)) []) (zs 0<|zn 1<|zs 2<|zn 3<|zs 6<|zn 4<|zs 14<|zn 1 [])<|
 .cond 11 .skip (.exit 2))<|
 .seq (.block 3<|zq (zp 2<|zi (.ca 193 [.e 0,.e 6] 2)<|zp 5 []) (zs 0<|zn 1<|zs 2<|zn 3<|zs 6<|zs 13<|zs 14<|zn 4 [])<|
 zq (zp 1 []) (zs 0<|zn 1<|zs 2<|zn 3<|zs 6<|zs 7<|zn 4<|zs 8 [])<|
 .cond 12 (.reg (zp 2<|zi (.li (.o .v) [.e 7])<|zi (.ap false (.e 2) (.e 13))<|zp 1 []) (zs 0<|zn 1<|zs 14<|zn 3<|zs 6<|zn 6 [])) .skip)<|
 .reg (zp 1<|zi (.bi .add (.e 6) (.c (.n 1)))<|zp 1 []) (zs 0<|zn 1<|zs 2<|zn 3<|zs 13<|zn 6 []))<|
 zq (zp 2 []) (zn 1<|zs 2<|zn 11 [])<|
 .ret⟩
def ir_spec_RotateLeft:IF:=⟨[],2,11,[2,3],zq (zi (.cs .v (.s []))<|zi (.cs .v (.b false)) []) (zs 0<|zs 1<|zn 9 [])<|
 .seq (zq (zp 2<|zi (.ca 162 [.e 0] 1)<|zi (.bi .sub (.e 11) (.c (.n 1)))<|zi (.ca 22 [.e 1,.c (.n 0),.e 12] 1)<|zi (.un .not (.e 13)) []) (zs 0<|zs 1<|zn 7<|zs 14<|zn 1 [])<|
 .cond 9 (zq (zi (.cs .v (.s []))<|zi (.cs .v (.b false)) []) (zn 2<|zs 11<|zs 12<|zn 7 [])<|
 .ret) .skip)<|
 zq (zp 2<|zi (.ca 191 [.e 0,.e 1] 1)<|zp 1 []) (zs 0<|zs 1<|zn 2<|zs 11<|zn 6 [])<|
 zq (zp 1<|zi (.ca 188 [.e 4,.c (.n 1)] 1)<|zp 1 []) (zs 0<|zs 1<|zn 2<|zs 4<|zs 11<|zn 5 [])<|
 zq (zp 3<|zi (.sn (.e 4))<|zi (.bi .sub (.e 11) (.c (.n 1)))<|zi (.ss (.e 4) (some (.e 5)) (some (.e 12)))<|zp 1 []) (zs 0<|zs 1<|zn 2<|zs 4<|zs 5<|zs 13<|zn 4 [])<|
 .seq (zq (zp 1<|zi (.bi .eql (.e 6) (.c (.s [46]))) []) (zs 0<|zs 1<|zn 2<|zs 4<|zs 5<|zs 6<|zn 3<|zs 11 [])<|
 .cond 10 (zq (zi (.cs .v (.s []))<|zi (.cs .v (.b false)) []) (zn 2<|zs 11<|zs 12<|zn 7 [])<|
 .ret) .skip)<|
 zq (zp 1<|zi (.ca 188 [.e 6,.c (.n 1)] 1)<|zp 1 []) (zs 0<|zs 1<|zn 2<|zs 4<|zs 5<|zs 6<|zs 11<|zn 3 [])<|
 zq (zp 2<|zi (.ss (.e 4) (some (.c (.n 1))) (some (.e 5)))<|zi (.bi .add (.c (.s [40,40])) (.e 11))<|zp 2<|zi (.ss (.e 6) (some (.c (.n 1))) (some (.e 7)))<|zi (.bi .add (.e 12) (.e 13))<|zi (.bi .add (.e 14) (.c (.s [41])))<|zp 3<|zi (.sn (.e 6))<|zi (.bi .sub (.e 16) (.c (.n 1)))<|zi (.ss (.e 6) (some (.e 7)) (some (.e 17)))<|zi (.bi .add (.e 15) (.e 18))<|zi (.bi .add (.e 19) (.c (.s [41])))<|zp 1 []) (zs 0<|zs 1<|zn 6<|zs 20<|zn 2 [])<|
 zq (zp 3<|zi (.ca 207 [.e 0,.e 1,.e 8] 1)<|zp 1<|zi (.cs .v (.b true)) []) (zn 2<|zs 11<|zs 12<|zn 7 [])<|
 .ret⟩
def ir_spec_RotateRight:IF:=⟨[],2,11,[2,3],zq (zi (.cs .v (.s []))<|zi (.cs .v (.b false)) []) (zs 0<|zs 1<|zn 9 [])<|
 .seq (zq (zp 2<|zi (.ca 162 [.e 0] 1)<|zi (.bi .sub (.e 11) (.c (.n 1)))<|zi (.ca 22 [.e 1,.c (.n 0),.e 12] 1)<|zi (.un .not (.e 13)) []) (zs 0<|zs 1<|zn 7<|zs 14<|zn 1 [])<|
 .cond 9 (zq (zi (.cs .v (.s []))<|zi (.cs .v (.b false)) []) (zn 2<|zs 11<|zs 12<|zn 7 [])<|
 .ret) .skip)<|
 zq (zp 2<|zi (.ca 191 [.e 0,.e 1] 1)<|zp 1 []) (zs 0<|zs 1<|zn 2<|zs 11<|zn 6 [])<|
 zq (zp 1<|zi (.ca 188 [.e 4,.c (.n 1)] 1)<|zp 1 []) (zs 0<|zs 1<|zn 2<|zs 4<|zs 11<|zn 5 [])<|
 zq (zp 2<|zi (.ss (.e 4) (some (.c (.n 1))) (some (.e 5)))<|zp 1 []) (zs 0<|zs 1<|zn 2<|zs 4<|zs 5<|zs 11<|zn 4 [])<|
 .seq (zq (zp 1<|zi (.bi .eql (.e 6) (.c (.s [46]))) []) (zs 0<|zs 1<|zn 2<|zs 4<|zs 5<|zs 6<|zn 3<|zs 11 [])<|
 .cond 10 (zq (zi (.cs .v (.s []))<|zi (.cs .v (.b false)) []) (zn 2<|zs 11<|zs 12<|zn 7 [])<|
 .ret) .skip)<|
 zq (zp 1<|zi (.ca 188 [.e 6,.c (.n 1)] 1)<|zp 1 []) (zs 0<|zs 1<|zn 2<|zs 4<|zs 5<|zs 6<|zs 11<|zn 3 [])<|
 zq (zp 2<|zi (.ss (.e 6) (some (.c (.n 1))) (some (.e 7)))<|zi (.bi .add (.c (.s [40])) (.e 11))<|zi (.bi .add (.e 12) (.c (.s [40])))<|zp 3<|zi (.sn (.e 6))<|zi (.bi .sub (.e 14) (.c (.n 1)))<|zi (.ss (.e 6) (some (.e 7)) (some (.e 15)))<|zi (.bi .add (.e 13) (.e 16))<|zp 3<|zi (.sn (.e 4))<|zi (.bi .sub (.e 18) (.c (.n 1)))<|zi (.ss (.e 4) (some (.e 5)) (some (.e 19)))<|zi (.bi .add (.e 17) (.e 20))<|zi (.bi .add (.e 21) (.c (.s [41,41])))<|zp 1 []) (zs 0<|zs 1<|zn 6<|zs 22<|zn 2 [])<|
 zq (zp 3<|zi (.ca 207 [.e 0,.e 1,.e 8] 1)<|zp 1<|zi (.cs .v (.b true)) []) (zn 2<|zs 11<|zs 12<|zn 7 [])<|
 .ret⟩
def ir_spec_WeightsOf:IF:=⟨[],1,7,[1],zq (zi (.cs (.o .v) (.l [])) []) (zs 0<|zn 6 [])<|
 zq (zi (.li (.o .v) [])<|zp 1 []) (zs 0<|zn 1<|zs 7<|zn 4 [])<|
 .seq (zq (zi (.cs .v (.n 0)) []) (zs 0<|zn 1<|zs 2<|zs 7<|zn 3 [])<|
 .block 0<|.loop<|.seq (zq (zp 2<|zi (.ca 162 [.e 0] 1)<|zi (.bi .lss (.e 3) (.e 7)) []) (zs 0<|zn 1<|zs 2<|zs 3<|zn 2<|zs 8 [])<|
 .cond 6 .skip (.exit 0))<|
 .seq (.block 1<|zq (zp 2<|zi (.ca 191 [.e 0,.e 3] 1)<|zp 1 []) (zs 0<|zn 1<|zs 2<|zs 3<|zs 7<|zn 2 [])<|
 zq (zp 1<|zi (.ca 188 [.e 4,.c (.n 1)] 1)<|zp 1 []) (zs 0<|zn 1<|zs 2<|zs 3<|zs 4<|zs 7<|zn 1 [])<|
 .reg (zp 2<|zi (.sn (.e 4))<|zi (.bi .sub (.e 7) (.c (.n 1)))<|zp 1<|zi (.bi .sub (.e 8) (.e 5))<|zi (.bi .sub (.e 9) (.c (.n 1)))<|zi (.bi .quo (.e 10) (.c (.n 3)))<|zi (.li (.o .v) [.e 11])<|zi (.ap false (.e 2) (.e 12))<|zp 1 []) (zs 0<|zn 1<|zs 13<|zs 3<|zn 3 []))<|
 .reg (zp 1<|zi (.bi .add (.e 3) (.c (.n 1)))<|zp 1 []) (zs 0<|zn 1<|zs 2<|zs 7<|zn 3 []))<|
 zq (zp 2 []) (zn 1<|zs 2<|zn 5 [])<|
 .ret⟩
def ir_spec_l16Node:IF:=⟨[],2,8,[2],zq (zi (.cs .v (.s [])) []) (zs 0<|zs 1<|zn 6 [])<|
 zq (zp 1<|zi (.ca 188 [.e 0,.c (.n 1)] 1)<|zp 1 []) (zs 0<|zs 1<|zn 1<|zs 8<|zn 4 [])<|
 zq (zp 2<|zi (.ss (.e 0) (some (.c (.n 1))) (some (.e 3)))<|zp 1 []) (zs 0<|zs 1<|zn 1<|zs 3<|zs 8<|zn 3 [])<|
 zq (zp 1<|zi (.sn (.e 4))<|zi (.bi .sub (.e 8) (.c (.n 1)))<|zi (.bi .quo (.e 9) (.c (.n 3)))<|zp 1 []) (zs 0<|zs 1<|zn 1<|zs 3<|zs 4<|zs 10<|zn 2 [])<|
 .seq (.block 0<|zq (zp 2<|zi (.bi .lss (.e 1) (.e 5))<|zp 1 []) (zs 0<|zs 1<|zn 1<|zs 3<|zs 4<|zs 5<|zs 8<|zn 1 [])<|
 .cond 6 (zq (zp 2<|zi (.ca 191 [.e 4,.e 1] 1)<|zp 1 []) (zn 2<|zs 8<|zn 5 [])<|
 .ret) (zq (zp 2<|zi (.bi .gtr (.e 1) (.e 5))<|zp 1 []) (zs 0<|zs 1<|zn 1<|zs 3<|zn 1<|zs 5<|zn 1<|zs 8 [])<|
 .cond 7 (zq (zp 3<|zi (.sn (.e 0))<|zi (.bi .sub (.e 8) (.c (.n 1)))<|zi (.ss (.e 0) (some (.e 3)) (some (.e 9)))<|zp 2<|zi (.bi .sub (.e 1) (.e 5))<|zi (.bi .sub (.e 11) (.c (.n 1)))<|zi (.ca 191 [.e 10,.e 12] 1)<|zp 1 []) (zn 2<|zs 13<|zn 5 [])<|
 .ret) .skip))<|
 zq (zp 2 []) (zn 2<|zs 0<|zn 5 [])<|
 .ret⟩
def ir_spec_l16Replace:IF:=⟨[],3,10,[3],zq (zi (.cs .v (.s [])) []) (zs 0<|zs 1<|zs 2<|zn 7 [])<|
 zq (zp 1<|zi (.ca 188 [.e 0,.c (.n 1)] 1)<|zp 1 []) (zs 0<|zs 1<|zs 2<|zn 1<|zs 10<|zn 5 [])<|
 zq (zp 2<|zi (.ss (.e 0) (some (.c (.n 1))) (some (.e 4)))<|zp 1 []) (zs 0<|zs 1<|zs 2<|zn 1<|zs 4<|zs 10<|zn 4 [])<|
 zq (zp 3<|zi (.sn (.e 0))<|zi (.bi .sub (.e 10) (.c (.n 1)))<|zi (.ss (.e 0) (some (.e 4)) (some (.e 11)))<|zp 1 []) (zn 1<|zs 1<|zs 2<|zn 2<|zs 5<|zs 12<|zn 3 [])<|
 zq (zp 1<|zi (.sn (.e 5))<|zi (.bi .sub (.e 10) (.c (.n 1)))<|zi (.bi .quo (.e 11) (.c (.n 3)))<|zp 1 []) (zn 1<|zs 1<|zs 2<|zn 2<|zs 5<|zs 6<|zs 12<|zn 2 [])<|
 .seq (.block 0<|zq (zp 2<|zi (.bi .lss (.e 1) (.e 7))<|zp 1 []) (zn 1<|zs 1<|zs 2<|zn 2<|zs 5<|zs 6<|zs 7<|zs 10<|zn 1 [])<|
 .cond 8 (zq (zp 3<|zi (.ca 207 [.e 5,.e 1,.e 2] 1)<|zi (.bi .add (.c (.s [40])) (.e 10))<|zp 1<|zi (.bi .add (.e 11) (.e 6))<|zi (.bi .add (.e 12) (.c (.s [41])))<|zp 1 []) (zn 3<|zs 13<|zn 6 [])<|
 .ret) (zq (zp 2<|zi (.bi .gtr (.e 1) (.e 7))<|zp 1 []) (zn 1<|zs 1<|zs 2<|zn 2<|zs 5<|zs 6<|zs 7<|zn 1<|zs 10 [])<|
 .cond 9 (zq (zp 1<|zi (.bi .add (.c (.s [40])) (.e 5))<|zp 3<|zi (.bi .sub (.e 1) (.e 7))<|zi (.bi .sub (.e 11) (.c (.n 1)))<|zp 1<|zi (.ca 207 [.e 6,.e 12,.e 2] 1)<|zi (.bi .add (.e 10) (.e 13))<|zi (.bi .add (.e 14) (.c (.s [41])))<|zp 1 []) (zn 3<|zs 15<|zn 6 [])<|
 .ret) .skip))<|
 zq (zp 2 []) (zn 3<|zs 2<|zn 6 [])<|
 .ret⟩
end Go.Cat
namespace Go.Cat
def ir_spec_TreeLine:IF:=⟨[],1,4,[1],zq (zi (.cs .v (.s [])) []) (zs 0<|zn 3 [])<|
 .seq (zq (zp 1<|zi (.ca 160 [.e 0] 1)<|zi (.un .not (.e 4)) []) (zs 0<|zn 2<|zs 5 [])<|
 .cond 3 (zq (zi (.cs .v (.s [])) []) (zn 1<|zs 4<|zn 2 [])<|
 .ret) .skip)<|
 zq (zp 1<|zi (.ca 161 [.e 0] 2)<|zp 5 []) (zs 0<|zn 1<|zs 4<|zn 1 [])<|
 zq (zp 1<|zi (.bi .add (.c (.s [116,114,101,101,32])) (.e 0))<|zi (.bi .add (.e 4) (.c (.s [32,110,111,100,101,115,32])))<|zp 1<|zi (.ca 162 [.e 0] 1)<|zi (.ca 138 [.e 6] 1)<|zi (.bi .add (.e 5) (.e 7))<|zi (.bi .add (.e 8) (.c (.s [32,104,101,105,103,104,116,32])))<|zp 1<|zi (.ca 163 [.e 0] 1)<|zi (.ca 138 [.e 10] 1)<|zi (.bi .add (.e 9) (.e 11))<|zi (.bi .add (.e 12) (.c (.s [32,119,101,105,103,104,116,115,32])))<|zp 1<|zi (.ca 164 [.e 0] 1)<|zi (.ca 137 [.e 14] 1)<|zi (.bi .add (.e 13) (.e 15))<|zi (.bi .add (.e 16) (.c (.s [32,117,112,32])))<|zp 1<|zi (.ca 165 [.e 0] 1)<|zi (.ca 138 [.e 18] 1)<|zi (.bi .add (.e 17) (.e 19))<|zi (.bi .add (.e 20) (.c (.s [32,110,101,105,103,104,98,111,117,114,115,32])))<|zp 1<|zi (.ca 166 [.e 0] 1)<|zi (.ln (.e 22) [])<|zi (.ca 138 [.e 23] 1)<|zi (.bi .add (.e 21) (.e 24))<|zi (.bi .add (.e 25) (.c (.s [32,109,105,114,114,111,114,32])))<|zp 1<|zi (.bi .add (.e 26) (.e 2))<|zp 1 []) (zn 1<|zs 27<|zn 2 [])<|
 .ret⟩
def ir_spec_l34Numbers:IF:=⟨[],1,7,[1],zq (zi (.cs .v (.s [])) []) (zs 0<|zn 6 [])<|
 zq (zi (.cs .v (.s [])) []) (zs 0<|zn 1<|zs 7<|zn 4 [])<|
 .seq (zq (zi (.cs .v (.n 0)) []) (zs 0<|zn 1<|zs 2<|zs 7<|zn 3 [])<|
 .block 0<|.loop<|.seq (zq (zp 2<|zi (.ln (.e 0) [])<|zi (.bi .lss (.e 3) (.e 7)) []) (zs 0<|zn 1<|zs 2<|zs 3<|zs 8<|zn 2 [])<|
 .cond 4 .skip (.exit 0))<|
 .seq (.block 1<|.seq (zq (zp 1<|zi (.bi .gtr (.e 3) (.c (.n 0))) []) (zs 0<|zn 1<|zs 2<|zs 3<|zn 1<|zs 7<|zn 1 [])<|
 .cond 5 (.reg (zp 1<|zi (.bi .add (.e 2) (.c (.s [44])))<|zp 1 []) (zs 0<|zn 1<|zs 7<|zs 3<|zn 3 [])) .skip)<|
 .reg (zp 3<|zi (.iy (.e 0) (.e 3))<|zp 1<|zi (.ca 138 [.e 7] 1)<|zi (.bi .add (.e 2) (.e 8))<|zp 1 []) (zs 0<|zn 1<|zs 9<|zs 3<|zn 3 []))<|
 .reg (zp 1<|zi (.bi .add (.e 3) (.c (.n 1)))<|zp 1 []) (zs 0<|zn 1<|zs 2<|zs 7<|zn 3 []))<|
 .seq (zq (zp 1<|zi (.bi .eql (.e 2) (.c (.s []))) []) (zn 2<|zs 2<|zn 3<|zs 7 [])<|
 .cond 6 (zq (zi (.cs .v (.s [110,111,110,101])) []) (zn 1<|zs 7<|zn 5 [])<|
 .ret) .skip)<|
 zq (zp 2 []) (zn 1<|zs 2<|zn 5 [])<|
 .ret⟩
end Go.Cat
namespace Go.Cat
end Go.Cat
namespace Go.Cat
end Go.Cat
namespace Go.Cat
end Go.Cat
namespace Go.Cat
end Go.Cat
namespace Go.Cat
end Go.Cat
namespace Go.Cat
end Go.Cat
namespace Go.Cat
end Go.Cat
namespace Go.Cat
end Go.Cat
namespace Go.Cat
end Go.Cat
namespace Go.Cat
end Go.Cat
namespace Go.Cat
end Go.Cat
namespace Go.Cat
end Go.Cat
namespace Go.Cat
end Go.Cat
namespace Go.Cat
end Go.Cat
namespace Go.Cat
end Go.Cat
namespace Go.Cat
end Go.Cat
namespace Go.Cat
end Go.Cat
namespace Go.Cat
end Go.Cat
namespace Go.Cat
end Go.Cat
namespace Go.Cat
end Go.Cat
namespace Go.Cat
end Go.Cat
namespace Go.Cat
end Go.Cat
namespace Go.Cat
end Go.Cat
namespace Go.Cat
end Go.Cat
namespace Go.Cat
end Go.Cat
namespace Go.Cat
end Go.Cat
