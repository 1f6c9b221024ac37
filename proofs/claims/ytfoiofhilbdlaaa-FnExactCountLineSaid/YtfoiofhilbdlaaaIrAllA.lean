/-
 Texts of the little language.
-/
import Derived.Test.YtfoiofhilbdlaaaCatThree
set_option linter.unusedSimpArgs false
set_option linter.unusedVariables false
namespace Go.Cat
def zn:Nat→List (Option Nat)→List (Option Nat)
 | 0,l=>l
 | k+1,l=>none::zn k l
def zs (n:Nat) (l:List (Option Nat)):List (Option Nat):=some n::l
def zq (a:List It) (b:List (Option Nat)) (s:S):S:=.seq (.reg a b) s
def zi (p:Pr) (l:List It):List It:=⟨[],[],p⟩::l
def zg (g:List (Nat×Bool)) (p:Pr) (l:List It):List It:=⟨[],g,p⟩::l
def zp:Nat→List It→List It
 | 0,l=>l
 | k+1,l=>⟨[],[],.nop⟩::zp k l
def ir_impl_FormatInt:IF:=⟨[],1,12,[1],zq (zi (.cs .v (.s [])) []) (zs 0<|zn 11 [])<|
 .seq (zq (zp 1<|zi (.bi .eql (.e 0) (.c (.n 0))) []) (zs 0<|zn 6<|zs 12<|zn 4 [])<|
 .cond 7 (zq (zi (.cs .v (.s [48])) []) (zn 1<|zs 12<|zn 10 [])<|
 .ret) .skip)<|
 zq (zi (.li (.o .v) [])<|zp 1 []) (zs 0<|zn 1<|zs 12<|zn 9 [])<|
 .seq (zq (zp 2 []) (zs 0<|zn 1<|zs 2<|zs 0<|zn 8 [])<|
 .block 0<|.loop<|.seq (zq (zp 1<|zi (.bi .neq (.e 3) (.c (.n 0))) []) (zs 0<|zn 1<|zs 2<|zs 3<|zn 4<|zs 12<|zn 3 [])<|
 .cond 8 .skip (.exit 0))<|
 .seq (.block 1<|zq (zp 1<|zi (.bi .rem (.e 3) (.c (.n 10)))<|zp 1 []) (zs 0<|zn 1<|zs 2<|zs 3<|zs 12<|zn 7 [])<|
 .seq (zq (zp 1<|zi (.bi .lss (.e 4) (.c (.n 0))) []) (zs 0<|zn 1<|zs 2<|zs 3<|zs 4<|zn 4<|zs 12<|zn 2 [])<|
 .cond 9 (.reg (zp 1<|zi (.un .neg (.e 4))<|zp 1 []) (zs 0<|zn 1<|zs 2<|zs 3<|zs 12<|zn 7 [])) .skip)<|
 .reg (zp 2<|zi (.bi .add (.c (.n 48)) (.e 4))<|zi (.cv .u8 (.e 12))<|zi (.li (.o .v) [.e 13])<|zi (.ap false (.e 2) (.e 14))<|zp 1 []) (zs 0<|zn 1<|zs 15<|zs 3<|zn 8 []))<|
 .reg (zp 1<|zi (.bi .quo (.e 3) (.c (.n 10)))<|zp 1 []) (zs 0<|zn 1<|zs 2<|zs 12<|zn 8 []))<|
 .seq (zq (zp 1<|zi (.bi .lss (.e 0) (.c (.n 0))) []) (zn 2<|zs 2<|zn 7<|zs 12<|zn 1 [])<|
 .cond 10 (.reg (zp 1<|zi (.li (.o .v) [.c (.y 45)])<|zi (.ap false (.e 2) (.e 12))<|zp 1 []) (zn 2<|zs 13<|zn 9 [])) .skip)<|
 .seq (zq (zp 1<|zi (.ln (.e 2) [])<|zi (.bi .sub (.e 12) (.c (.n 1)))<|zi (.cs .v (.n 0))<|zp 1 []) (zn 2<|zs 2<|zn 2<|zs 14<|zs 13<|zn 5 [])<|
 .block 2<|.loop<|.seq (zq (zp 2<|zi (.bi .lss (.e 5) (.e 6)) []) (zn 2<|zs 2<|zn 2<|zs 5<|zs 6<|zn 4<|zs 12 [])<|
 .cond 11 .skip (.exit 2))<|
 .seq (.block 3<|.reg (zp 6<|zi (.ix (.e 2) [] (.e 6))<|zp 3<|zi (.ix (.e 2) [] (.e 5))<|zp 1<|zi (.ix (.e 2) [] (.e 5))<|zi (.up 2 [.e 5] (.e 12))<|zi (.ix (.e 15) [] (.e 6))<|zi (.up 15 [.e 6] (.e 13)) []) (zn 2<|zs 17<|zn 2<|zs 5<|zs 6<|zn 5 []))<|
 .reg (zp 1<|zi (.bi .add (.e 5) (.c (.n 1)))<|zp 1<|zi (.bi .sub (.e 6) (.c (.n 1)))<|zp 2 []) (zn 2<|zs 2<|zn 2<|zs 12<|zs 13<|zn 5 []))<|
 zq (zp 1<|zi (.bs (.e 2))<|zp 1 []) (zn 1<|zs 12<|zn 10 [])<|
 .ret⟩
def ir_impl_within:IF:=⟨[],3,4,[3],zq (zi (.cs .v (.b false)) []) (zs 0<|zs 1<|zs 2<|zn 1 [])<|
 zq (zp 2<|zi (.bi .geq (.e 0) (.e 1))<|zp 1<|zg [(4,true)] (.cy (.e 0))<|zg [(4,true)] (.cy (.e 2))<|zg [(4,true)] (.bi .leq (.e 5) (.e 6))<|zi (.pk (.e 4) (.e 7) (.c (.b false)))<|zp 1 []) (zn 3<|zs 8 [])<|
 .ret⟩
end Go.Cat
namespace Go.Cat
def ir_spec_FormatInt:IF:=⟨[],1,9,[1],zq (zi (.cs .v (.s [])) []) (zs 0<|zn 8 [])<|
 .seq (zq (zp 1<|zi (.bi .eql (.e 0) (.c (.n 0))) []) (zs 0<|zn 4<|zs 9<|zn 3 [])<|
 .cond 5 (zq (zi (.cs .v (.s [48])) []) (zn 1<|zs 9<|zn 7 [])<|
 .ret) .skip)<|
 zq (zi (.cs .v (.s [])) []) (zs 0<|zn 1<|zs 9<|zn 6 [])<|
 zq (zp 1<|zi (.bi .lss (.e 0) (.c (.n 0)))<|zp 1 []) (zs 0<|zn 1<|zs 2<|zs 9<|zn 5 [])<|
 .seq (.block 0<|.loop<|.seq (zq (zp 1<|zi (.bi .neq (.e 0) (.c (.n 0))) []) (zs 0<|zn 1<|zs 2<|zs 3<|zn 2<|zs 9<|zn 2 [])<|
 .cond 6 .skip (.exit 0))<|
 .block 1<|zq (zp 1<|zi (.bi .rem (.e 0) (.c (.n 10)))<|zp 1 []) (zs 0<|zn 1<|zs 2<|zs 3<|zs 9<|zn 4 [])<|
 .seq (zq (zp 1<|zi (.bi .lss (.e 4) (.c (.n 0))) []) (zs 0<|zn 1<|zs 2<|zs 3<|zs 4<|zn 2<|zs 9<|zn 1 [])<|
 .cond 7 (.reg (zp 1<|zi (.un .neg (.e 4))<|zp 1 []) (zs 0<|zn 1<|zs 2<|zs 3<|zs 9<|zn 4 [])) .skip)<|
 zq (zp 1<|zi (.bi .add (.c (.n 48)) (.e 4))<|zi (.cv .u8 (.e 9))<|zi (.li (.o .v) [.e 10])<|zi (.bs (.e 11))<|zp 1<|zi (.bi .add (.e 12) (.e 2))<|zp 1 []) (zs 0<|zn 1<|zs 13<|zs 3<|zn 5 [])<|
 .reg (zp 1<|zi (.bi .quo (.e 0) (.c (.n 10)))<|zp 1 []) (zs 9<|zn 1<|zs 2<|zs 3<|zn 5 []))<|
 .seq (zq (zp 1 []) (zn 2<|zs 2<|zn 5<|zs 3 [])<|
 .cond 8 (zq (zp 1<|zi (.bi .add (.c (.s [45])) (.e 2))<|zp 1 []) (zn 1<|zs 9<|zn 7 [])<|
 .ret) .skip)<|
 zq (zp 2 []) (zn 1<|zs 2<|zn 7 [])<|
 .ret⟩
def ir_spec_l1In:IF:=⟨[],3,4,[3],zq (zi (.cs .v (.b false)) []) (zs 0<|zs 1<|zs 2<|zn 1 [])<|
 zq (zp 2<|zi (.bi .geq (.e 0) (.e 1))<|zp 1<|zg [(4,true)] (.cy (.e 0))<|zg [(4,true)] (.cy (.e 2))<|zg [(4,true)] (.bi .leq (.e 5) (.e 6))<|zi (.pk (.e 4) (.e 7) (.c (.b false)))<|zp 1 []) (zn 3<|zs 8 [])<|
 .ret⟩
end Go.Cat
namespace Go.Cat
def ir_impl_FirstReturn:IF:=⟨[],1,8,[1,2,3],zq (zi (.cs .v (.s []))<|zi (.cs .v (.s []))<|zi (.cs .v (.b false)) []) (zs 0<|zn 7 [])<|
 .seq (zq (zp 1<|zi (.ca 67 [.e 0] 1)<|zi (.un .not (.e 8))<|zp 1<|zg [(9,false)] (.cy (.e 0))<|zg [(9,false)] (.bi .eql (.e 10) (.c (.s [])))<|zi (.pk (.e 9) (.c (.b true)) (.e 11)) []) (zs 0<|zn 5<|zs 12<|zn 1 [])<|
 .cond 6 (zq (zi (.cs .v (.s []))<|zi (.cs .v (.s []))<|zi (.cs .v (.b false)) []) (zn 1<|zs 8<|zs 9<|zs 10<|zn 4 [])<|
 .ret) .skip)<|
 zq (zp 1<|zi (.ca 501 [.e 0] 1)<|zp 1 []) (zs 0<|zn 3<|zs 8<|zn 3 [])<|
 zq (zi (.cs .v (.n 1)) []) (zs 0<|zn 3<|zs 4<|zs 8<|zn 2 [])<|
 .seq (.block 0<|.loop<|.seq (zq (zp 2<|zi (.ix (.e 4) [] (.e 5))<|zp 1<|zi (.bi .neq (.e 8) (.c (.n 0))) []) (zs 0<|zn 3<|zs 4<|zs 5<|zn 1<|zs 9 [])<|
 .cond 7 .skip (.exit 0))<|
 .block 1<|.reg (zp 1<|zi (.bi .add (.e 5) (.c (.n 1)))<|zp 1 []) (zs 0<|zn 3<|zs 4<|zs 8<|zn 2 []))<|
 zq (zp 2<|zi (.bi .sub (.e 5) (.c (.n 1)))<|zi (.ss (.e 0) (some (.c (.n 1))) (some (.e 8)))<|zp 2<|zi (.ss (.e 0) (some (.e 5)) none)<|zp 2<|zi (.cs .v (.b true)) []) (zn 1<|zs 9<|zs 10<|zs 11<|zn 4 [])<|
 .ret⟩
def ir_impl_HeightsOf:IF:=⟨[],1,4,[1],zq (zi (.cs (.o .v) (.l [])) []) (zs 0<|zn 3 [])<|
 .seq (zq (zp 1<|zi (.ca 67 [.e 0] 1)<|zi (.un .not (.e 4)) []) (zs 0<|zn 2<|zs 5 [])<|
 .cond 3 (zq (zi (.li (.o .v) [])<|zp 1 []) (zn 1<|zs 4<|zn 2 [])<|
 .ret) .skip)<|
 zq (zp 1<|zi (.ca 82 [.e 0] 2)<|zp 5 []) (zn 2<|zs 4<|zn 1 [])<|
 zq (zp 2 []) (zn 1<|zs 2<|zn 2 [])<|
 .ret⟩
def ir_impl_IsDyck:IF:=⟨[],1,4,[1],zq (zi (.cs .v (.b false)) []) (zs 0<|zn 3 [])<|
 .seq (zq (zp 1<|zi (.sn (.e 0))<|zi (.bi .gtr (.e 4) (.c (.n 16))) []) (zs 0<|zn 2<|zs 5 [])<|
 .cond 3 (zq (zi (.cs .v (.b false)) []) (zn 1<|zs 4<|zn 2 [])<|
 .ret) .skip)<|
 zq (zp 1<|zi (.ca 82 [.e 0] 2)<|zp 5 []) (zn 2<|zs 5<|zn 1 [])<|
 zq (zp 2 []) (zn 1<|zs 2<|zn 2 [])<|
 .ret⟩
def ir_impl_glued:IF:=⟨[],2,11,[2],zq (zi (.cs .v (.s [])) []) (zs 0<|zs 1<|zn 9 [])<|
 zq (zi (.cs .v (.s [])) []) (zs 0<|zs 1<|zn 1<|zs 11<|zn 7 [])<|
 .seq (zq (zp 1<|zi (.ln (.e 0) [])<|zi (.cs .v (.n 0)) []) (zn 1<|zs 1<|zn 1<|zs 3<|zn 2<|zs 0<|zs 11<|zs 12<|zn 2 [])<|
 .block 0<|.loop<|zq (zi (.bi .lss (.e 8) (.e 7)) []) (zn 1<|zs 1<|zn 1<|zs 3<|zn 2<|zs 6<|zs 7<|zs 8<|zs 11<|zn 1 [])<|
 .seq (.cond 9 .skip (.exit 0))<|
 .seq (.block 1<|zq (zp 1<|zi (.iy (.e 6) (.e 8))<|zp 3 []) (zn 1<|zs 1<|zn 1<|zs 3<|zs 8<|zs 11<|zs 6<|zs 7<|zs 8<|zn 2 [])<|
 .seq (zq (zp 1<|zi (.bi .gtr (.e 4) (.c (.n 0))) []) (zn 1<|zs 1<|zn 1<|zs 3<|zn 1<|zs 5<|zs 6<|zs 7<|zs 8<|zn 1<|zs 11 [])<|
 .cond 10 (.reg (zp 2<|zi (.bi .add (.e 3) (.e 1))<|zp 1 []) (zn 1<|zs 1<|zn 1<|zs 11<|zn 1<|zs 5<|zs 6<|zs 7<|zs 8<|zn 2 [])) .skip)<|
 .reg (zp 2<|zi (.bi .add (.e 3) (.e 5))<|zp 1 []) (zn 1<|zs 1<|zn 1<|zs 11<|zn 2<|zs 6<|zs 7<|zs 8<|zn 2 []))<|
 .reg (zi (.bi .add (.e 8) (.c (.n 1)))<|zp 1 []) (zn 1<|zs 1<|zn 1<|zs 3<|zn 2<|zs 6<|zs 7<|zs 11<|zn 2 []))<|
 zq (zp 2 []) (zn 2<|zs 3<|zn 8 [])<|
 .ret⟩
def ir_impl_heights:IF:=⟨[],1,11,[1,2],zq (zi (.cs (.o .v) (.l []))<|zi (.cs .v (.b false)) []) (zs 0<|zn 10 [])<|
 zq (zi (.li (.o .v) [.c (.n 0)])<|zp 1 []) (zs 0<|zn 2<|zs 11<|zn 7 [])<|
 zq (zi (.cs .v (.n 0)) []) (zs 0<|zn 2<|zs 3<|zs 11<|zn 6 [])<|
 .seq (zq (zi (.cs .v (.n 0)) []) (zs 0<|zn 2<|zs 3<|zs 4<|zs 11<|zn 5 [])<|
 .block 0<|.loop<|.seq (zq (zp 2<|zi (.sn (.e 0))<|zi (.bi .lss (.e 5) (.e 11)) []) (zs 0<|zn 2<|zs 3<|zs 4<|zs 5<|zs 12<|zn 4 [])<|
 .cond 6 .skip (.exit 0))<|
 .seq (.block 1<|.seq (zq (zp 2<|zi (.sx (.e 0) (.e 5)) []) (zs 0<|zn 2<|zs 3<|zs 4<|zs 5<|zn 1<|zs 11<|zn 3 [])<|
 .block 2<|zq (zi (.bi .eql (.e 7) (.c (.y 117)))<|zp 1 []) (zs 0<|zn 2<|zs 3<|zs 4<|zs 5<|zn 1<|zs 7<|zs 11<|zn 2 [])<|
 .cond 8 (.reg (zp 1<|zi (.bi .add (.e 4) (.c (.n 1)))<|zp 1 []) (zs 0<|zn 2<|zs 3<|zs 11<|zs 5<|zn 5 [])) (zq (zi (.bi .eql (.e 7) (.c (.y 100)))<|zp 1 []) (zs 0<|zn 2<|zs 3<|zs 4<|zs 5<|zn 3<|zs 11<|zn 1 [])<|
 .cond 9 (.reg (zp 1<|zi (.bi .sub (.e 4) (.c (.n 1)))<|zp 1 []) (zs 0<|zn 2<|zs 3<|zs 11<|zs 5<|zn 5 [])) (zq (zi (.cs (.o .v) (.l []))<|zi (.cs .v (.b false)) []) (zn 1<|zs 11<|zs 12<|zn 8 [])<|
 .ret)))<|
 .seq (zq (zp 1<|zi (.bi .lss (.e 4) (.c (.n 0))) []) (zs 0<|zn 2<|zs 3<|zs 4<|zs 5<|zn 4<|zs 11 [])<|
 .cond 10 (zq (zi (.cs (.o .v) (.l []))<|zi (.cs .v (.b false)) []) (zn 1<|zs 11<|zs 12<|zn 8 [])<|
 .ret) .skip)<|
 .reg (zp 2<|zi (.li (.o .v) [.e 4])<|zi (.ap false (.e 3) (.e 11))<|zp 1 []) (zs 0<|zn 2<|zs 12<|zs 4<|zs 5<|zn 5 []))<|
 .reg (zp 1<|zi (.bi .add (.e 5) (.c (.n 1)))<|zp 1 []) (zs 0<|zn 2<|zs 3<|zs 4<|zs 11<|zn 5 []))<|
 zq (zp 2<|zi (.bi .eql (.e 4) (.c (.n 0)))<|zp 2 []) (zn 1<|zs 3<|zs 11<|zn 8 [])<|
 .ret⟩
end Go.Cat
namespace Go.Cat
def ir_impl_MotzkinNumber:IF:=⟨[],1,11,[1],zq (zi (.cs .v (.n 0)) []) (zs 0<|zn 10 [])<|
 .seq (zq (zp 1<|zi (.ca 23 [.e 0,.c (.n 0),.c (.n 20)] 1)<|zi (.un .not (.e 11)) []) (zs 0<|zn 4<|zs 12<|zn 5 [])<|
 .cond 5 (zq (zi (.cs .v (.n (-1))) []) (zn 1<|zs 11<|zn 9 [])<|
 .ret) .skip)<|
 zq (zp 1<|zi (.bi .add (.e 0) (.c (.n 2)))<|zi (.mk (.n 0) (.e 11) (.e 11))<|zp 1 []) (zs 0<|zn 1<|zs 12<|zn 8 [])<|
 zq (zp 1<|zi (.ix (.e 2) [] (.c (.n 0)))<|zi (.up 2 [.k 0] (.c (.n 1))) []) (zs 0<|zn 1<|zs 12<|zn 8 [])<|
 .seq (zq (zp 1<|zi (.cs .v (.n 0)) []) (zs 0<|zn 1<|zs 2<|zn 3<|zs 0<|zs 11<|zn 3 [])<|
 .block 0<|.loop<|zq (zi (.bi .lss (.e 7) (.e 6)) []) (zs 0<|zn 1<|zs 2<|zn 3<|zs 6<|zs 7<|zs 11<|zn 2 [])<|
 .seq (.cond 8 .skip (.exit 0))<|
 .seq (.block 1<|zq (zp 1<|zi (.bi .add (.e 0) (.c (.n 2)))<|zi (.mk (.n 0) (.e 11) (.e 11))<|zp 1 []) (zs 0<|zn 1<|zs 2<|zs 12<|zn 2<|zs 6<|zs 7<|zn 3 [])<|
 .seq (zq (zi (.cs .v (.n 0)) []) (zs 0<|zn 1<|zs 2<|zs 3<|zs 11<|zn 1<|zs 6<|zs 7<|zn 3 [])<|
 .block 2<|.loop<|.seq (zq (zp 2<|zi (.bi .leq (.e 4) (.e 0)) []) (zs 0<|zn 1<|zs 2<|zs 3<|zs 4<|zn 1<|zs 6<|zs 7<|zn 1<|zs 11<|zn 1 [])<|
 .cond 9 .skip (.exit 2))<|
 .seq (.block 3<|zq (zp 4<|zi (.ix (.e 2) [] (.e 4))<|zp 3<|zi (.bi .add (.e 4) (.c (.n 1)))<|zi (.ix (.e 2) [] (.e 12))<|zp 1<|zi (.bi .add (.e 11) (.e 13))<|zi (.ix (.e 3) [] (.e 4))<|zi (.up 3 [.e 4] (.e 14)) []) (zs 0<|zn 1<|zs 2<|zs 16<|zs 4<|zn 1<|zs 6<|zs 7<|zn 3 [])<|
 zq (zp 1<|zi (.bi .gtr (.e 4) (.c (.n 0))) []) (zs 0<|zn 1<|zs 2<|zs 3<|zs 4<|zn 1<|zs 6<|zs 7<|zn 2<|zs 11 [])<|
 .cond 10 (.reg (zp 4<|zi (.ix (.e 3) [] (.e 4))<|zp 3<|zi (.bi .sub (.e 4) (.c (.n 1)))<|zi (.ix (.e 2) [] (.e 12))<|zp 1<|zi (.bi .add (.e 11) (.e 13))<|zi (.ix (.e 3) [] (.e 4))<|zi (.up 3 [.e 4] (.e 14)) []) (zs 0<|zn 1<|zs 2<|zs 16<|zs 4<|zn 1<|zs 6<|zs 7<|zn 3 [])) .skip)<|
 .reg (zp 1<|zi (.bi .add (.e 4) (.c (.n 1)))<|zp 1 []) (zs 0<|zn 1<|zs 2<|zs 3<|zs 11<|zn 1<|zs 6<|zs 7<|zn 3 []))<|
 .reg (zp 2 []) (zs 0<|zn 1<|zs 3<|zn 3<|zs 6<|zs 7<|zn 3 []))<|
 .reg (zi (.bi .add (.e 7) (.c (.n 1)))<|zp 1 []) (zs 0<|zn 1<|zs 2<|zn 3<|zs 6<|zs 11<|zn 3 []))<|
 zq (zp 1<|zi (.ix (.e 2) [] (.c (.n 0)))<|zp 2 []) (zn 1<|zs 11<|zn 9 [])<|
 .ret⟩
end Go.Cat
namespace Go.Cat
end Go.Cat
namespace Go.Cat
def ir_spec_IsDyck:IF:=⟨[],1,9,[1],zq (zi (.cs .v (.b false)) []) (zs 0<|zn 8 [])<|
 zq (zi (.cs .v (.n 0)) []) (zs 0<|zn 1<|zs 9<|zn 6 [])<|
 .seq (zq (zi (.cs .v (.n 0)) []) (zs 0<|zn 1<|zs 2<|zs 9<|zn 5 [])<|
 .block 0<|.loop<|.seq (zq (zp 2<|zi (.sn (.e 0))<|zi (.bi .lss (.e 3) (.e 9)) []) (zs 0<|zn 1<|zs 2<|zs 3<|zs 10<|zn 4 [])<|
 .cond 4 .skip (.exit 0))<|
 .seq (.block 1<|.seq (zq (zp 2<|zi (.sx (.e 0) (.e 3)) []) (zs 0<|zn 1<|zs 2<|zs 3<|zn 1<|zs 9<|zn 3 [])<|
 .block 2<|zq (zi (.bi .eql (.e 5) (.c (.y 117)))<|zp 1 []) (zs 0<|zn 1<|zs 2<|zs 3<|zn 1<|zs 5<|zs 9<|zn 2 [])<|
 .cond 6 (.reg (zp 1<|zi (.bi .add (.e 2) (.c (.n 1)))<|zp 1 []) (zs 0<|zn 1<|zs 9<|zs 3<|zn 5 [])) (zq (zi (.bi .eql (.e 5) (.c (.y 100)))<|zp 1 []) (zs 0<|zn 1<|zs 2<|zs 3<|zn 3<|zs 9<|zn 1 [])<|
 .cond 7 (.reg (zp 1<|zi (.bi .sub (.e 2) (.c (.n 1)))<|zp 1 []) (zs 0<|zn 1<|zs 9<|zs 3<|zn 5 [])) (zq (zi (.cs .v (.b false)) []) (zn 1<|zs 9<|zn 7 [])<|
 .ret)))<|
 zq (zp 1<|zi (.bi .lss (.e 2) (.c (.n 0))) []) (zs 0<|zn 1<|zs 2<|zs 3<|zn 4<|zs 9 [])<|
 .cond 8 (zq (zi (.cs .v (.b false)) []) (zn 1<|zs 9<|zn 7 [])<|
 .ret) .skip)<|
 .reg (zp 1<|zi (.bi .add (.e 3) (.c (.n 1)))<|zp 1 []) (zs 0<|zn 1<|zs 2<|zs 9<|zn 5 []))<|
 zq (zp 1<|zi (.bi .eql (.e 2) (.c (.n 0)))<|zp 1<|zg [(9,true)] (.cy (.e 0))<|zg [(9,true)] (.sn (.e 10))<|zg [(9,true)] (.bi .leq (.e 11) (.c (.n 16)))<|zi (.pk (.e 9) (.e 12) (.c (.b false)))<|zp 1 []) (zn 1<|zs 13<|zn 7 [])<|
 .ret⟩
def ir_spec_l2Cut:IF:=⟨[],1,7,[1],zq (zi (.cs .v (.n 0)) []) (zs 0<|zn 6 [])<|
 zq (zi (.cs .v (.n 0)) []) (zs 0<|zn 1<|zs 7<|zn 4 [])<|
 .seq (zq (zi (.cs .v (.n 0)) []) (zs 0<|zn 1<|zs 2<|zs 7<|zn 3 [])<|
 .block 0<|.loop<|.seq (zq (zp 2<|zi (.sn (.e 0))<|zi (.bi .lss (.e 3) (.e 7)) []) (zs 0<|zn 1<|zs 2<|zs 3<|zs 8<|zn 2 [])<|
 .cond 4 .skip (.exit 0))<|
 .seq (.block 1<|.seq (zq (zp 2<|zi (.sx (.e 0) (.e 3))<|zi (.bi .eql (.e 7) (.c (.y 117))) []) (zs 0<|zn 1<|zs 2<|zs 3<|zn 1<|zs 8<|zn 1 [])<|
 .cond 5 (.reg (zp 1<|zi (.bi .add (.e 2) (.c (.n 1)))<|zp 1 []) (zs 0<|zn 1<|zs 7<|zs 3<|zn 3 [])) (.reg (zp 1<|zi (.bi .sub (.e 2) (.c (.n 1)))<|zp 1 []) (zs 0<|zn 1<|zs 7<|zs 3<|zn 3 [])))<|
 zq (zp 1<|zi (.bi .eql (.e 2) (.c (.n 0))) []) (zs 0<|zn 1<|zs 2<|zs 3<|zn 2<|zs 7 [])<|
 .cond 6 (zq (zp 2 []) (zn 1<|zs 3<|zn 5 [])<|
 .ret) .skip)<|
 .reg (zp 1<|zi (.bi .add (.e 3) (.c (.n 1)))<|zp 1 []) (zs 0<|zn 1<|zs 2<|zs 7<|zn 3 []))<|
 zq (zi (.cs .v (.n (-1))) []) (zn 1<|zs 7<|zn 5 [])<|
 .ret⟩
end Go.Cat
namespace Go.Cat
def ir_impl_NodesOf:IF:=⟨[],1,5,[1],zq (zi (.cs .v (.n 0)) []) (zs 0<|zn 4 [])<|
 zq (zp 1<|zi (.ca 194 [.e 0] 2)<|zp 5 []) (zn 2<|zs 5<|zs 6<|zn 1 [])<|
 .seq (zq (zp 1<|zi (.un .not (.e 3)) []) (zn 2<|zs 2<|zn 1<|zs 5 [])<|
 .cond 4 (zq (zi (.cs .v (.n (-1))) []) (zn 1<|zs 5<|zn 3 [])<|
 .ret) .skip)<|
 zq (zp 1<|zi (.ca 197 [.e 2] 1)<|zp 1 []) (zn 1<|zs 5<|zn 3 [])<|
 .ret⟩
def ir_impl_parseTree:IF:=⟨[],1,7,[1,2],zq (zi (.cs .v .z)<|zi (.cs .v (.b false)) []) (zs 0<|zn 6 [])<|
 .seq (zq (zp 1<|zi (.sn (.e 0))<|zi (.bi .gtr (.e 7) (.c (.n 25))) []) (zs 0<|zn 4<|zs 8<|zn 1 [])<|
 .cond 5 (zq (zi (.cs .v .z)<|zi (.cs .v (.b false)) []) (zn 1<|zs 7<|zs 8<|zn 4 [])<|
 .ret) .skip)<|
 zq (zp 1<|zi (.ca 208 [.e 0,.c (.n 0)] 2)<|zp 5 []) (zs 0<|zn 2<|zs 7<|zs 8<|zn 2 [])<|
 .seq (zq (zp 2<|zi (.sn (.e 0))<|zi (.bi .neq (.e 4) (.e 7))<|zp 1<|zg [(8,false)] (.cy (.e 3))<|zg [(8,false)] (.ca 197 [.e 9] 1)<|zg [(8,false)] (.bi .gtr (.e 10) (.c (.n 8)))<|zi (.pk (.e 8) (.c (.b true)) (.e 11)) []) (zn 3<|zs 3<|zn 2<|zs 12 [])<|
 .cond 6 (zq (zi (.cs .v .z)<|zi (.cs .v (.b false)) []) (zn 1<|zs 7<|zs 8<|zn 4 [])<|
 .ret) .skip)<|
 zq (zp 2<|zi (.cs .v (.b true)) []) (zn 1<|zs 3<|zs 7<|zn 4 [])<|
 .ret⟩
def ir_impl_readTree:IF:=⟨[],2,14,[2,3],zq (zi (.cs .v .z)<|zi (.cs .v (.n 0)) []) (zs 0<|zs 1<|zn 12 [])<|
 .seq (zq (zp 2<|zi (.sn (.e 0))<|zi (.bi .geq (.e 1) (.e 14)) []) (zs 0<|zs 1<|zn 6<|zs 15<|zn 5 [])<|
 .cond 8 (zq (zi (.cs .v .z)<|zi (.cs .v (.n (-1))) []) (zn 2<|zs 14<|zs 15<|zn 10 [])<|
 .ret) .skip)<|
 .seq (zq (zp 2<|zi (.sx (.e 0) (.e 1)) []) (zs 0<|zs 1<|zn 7<|zs 14<|zn 4 [])<|
 .block 0<|zq (zi (.bi .eql (.e 9) (.c (.y 46)))<|zp 1 []) (zs 0<|zs 1<|zn 7<|zs 9<|zs 14<|zn 3 [])<|
 .cond 10 (zq (zp 1<|zi (.bi .add (.e 1) (.c (.n 1)))<|zi (.cs .v .z)<|zp 1 []) (zn 2<|zs 15<|zs 14<|zn 10 [])<|
 .ret) (zq (zi (.bi .eql (.e 9) (.c (.y 40)))<|zp 1 []) (zs 0<|zs 1<|zn 9<|zs 14<|zn 2 [])<|
 .cond 11 (zq (zp 2<|zi (.bi .add (.e 1) (.c (.n 1)))<|zi (.ca 208 [.e 0,.e 14] 2)<|zp 5 []) (zs 0<|zn 3<|zs 15<|zs 16<|zn 8 [])<|
 .seq (zq (zp 1<|zi (.bi .lss (.e 5) (.c (.n 0))) []) (zs 0<|zn 3<|zs 4<|zs 5<|zn 6<|zs 14<|zn 1 [])<|
 .cond 12 (zq (zi (.cs .v .z)<|zi (.cs .v (.n (-1))) []) (zn 2<|zs 14<|zs 15<|zn 10 [])<|
 .ret) .skip)<|
 zq (zp 2<|zi (.ca 208 [.e 0,.e 5] 2)<|zp 5 []) (zs 0<|zn 3<|zs 4<|zn 1<|zs 14<|zs 15<|zn 6 [])<|
 .seq (zq (zp 1<|zi (.bi .lss (.e 7) (.c (.n 0)))<|zp 1<|zg [(14,false)] (.cy (.e 7))<|zg [(14,false)] (.cy (.e 0))<|zg [(14,false)] (.sn (.e 16))<|zg [(14,false)] (.bi .geq (.e 15) (.e 17))<|zi (.pk (.e 14) (.c (.b true)) (.e 18))<|zp 1<|zg [(19,false)] (.cy (.e 0))<|zg [(19,false)] (.cy (.e 7))<|zg [(19,false)] (.sx (.e 20) (.e 21))<|zg [(19,false)] (.bi .neq (.e 22) (.c (.y 41)))<|zi (.pk (.e 19) (.c (.b true)) (.e 23)) []) (zn 4<|zs 4<|zn 1<|zs 6<|zs 7<|zn 5<|zs 24 [])<|
 .cond 13 (zq (zi (.cs .v .z)<|zi (.cs .v (.n (-1))) []) (zn 2<|zs 14<|zs 15<|zn 10 [])<|
 .ret) .skip)<|
 zq (zp 2<|zi (.bg 0 [(.e 4,0),(.e 6,0)])<|zi (.bp (.e 14))<|zp 1<|zi (.bi .add (.e 7) (.c (.n 1)))<|zp 2 []) (zn 2<|zs 15<|zs 16<|zn 10 [])<|
 .ret) .skip))<|
 zq (zi (.cs .v .z)<|zi (.cs .v (.n (-1))) []) (zn 2<|zs 14<|zs 15<|zn 10 [])<|
 .ret⟩
def ir_impl_treeOfPath:IF:=⟨[],1,6,[1],zq (zi (.cs .v .z) []) (zs 0<|zn 5 [])<|
 zq (zp 1<|zi (.ca 519 [.e 0] 3)<|zp 7 []) (zn 2<|zs 6<|zs 7<|zs 8<|zn 1 [])<|
 .seq (zq (zp 1<|zi (.un .not (.e 4)) []) (zn 2<|zs 2<|zs 3<|zn 1<|zs 6 [])<|
 .cond 5 (zq (zi (.cs .v .z) []) (zn 1<|zs 6<|zn 4 [])<|
 .ret) .skip)<|
 zq (zp 1<|zi (.ca 514 [.e 2] 1)<|zp 1<|zi (.ca 514 [.e 3] 1)<|zi (.bg 0 [(.e 6,0),(.e 7,0)])<|zi (.bp (.e 8))<|zp 1 []) (zn 1<|zs 9<|zn 4 [])<|
 .ret⟩
end Go.Cat
namespace Go.Cat
def ir_spec_IsBinary:IF:=⟨[],1,2,[1],zq (zi (.cs .v (.b false)) []) (zs 0<|zn 1 [])<|
 zq (zp 1<|zi (.sn (.e 0))<|zi (.bi .leq (.e 2) (.c (.n 25)))<|zp 1<|zg [(3,true)] (.cy (.e 0))<|zg [(3,true)] (.ca 188 [.e 4,.c (.n 0)] 1)<|zg [(3,true)] (.cy (.e 0))<|zg [(3,true)] (.sn (.e 6))<|zg [(3,true)] (.bi .eql (.e 5) (.e 7))<|zi (.pk (.e 3) (.e 8) (.c (.b false)))<|zp 1<|zg [(9,true)] (.cy (.e 0))<|zg [(9,true)] (.bi .neq (.e 10) (.c (.s [])))<|zi (.pk (.e 9) (.e 11) (.c (.b false)))<|zp 1 []) (zn 1<|zs 12 [])<|
 .ret⟩
def ir_spec_NodesOf:IF:=⟨[],1,3,[1],zq (zi (.cs .v (.n 0)) []) (zs 0<|zn 2 [])<|
 .seq (zq (zp 1<|zi (.ca 160 [.e 0] 1)<|zi (.un .not (.e 3)) []) (zs 0<|zn 1<|zs 4 [])<|
 .cond 2 (zq (zi (.cs .v (.n (-1))) []) (zn 1<|zs 3<|zn 1 [])<|
 .ret) .skip)<|
 zq (zp 1<|zi (.sn (.e 0))<|zi (.bi .sub (.e 3) (.c (.n 1)))<|zi (.bi .quo (.e 4) (.c (.n 3)))<|zp 1 []) (zn 1<|zs 5<|zn 1 [])<|
 .ret⟩
def ir_spec_l6Binary:IF:=⟨[],1,4,[1],zq (zi (.cs .v (.s [])) []) (zs 0<|zn 3 [])<|
 .seq (zq (zp 1<|zi (.bi .eql (.e 0) (.c (.s []))) []) (zs 0<|zn 2<|zs 4 [])<|
 .cond 3 (zq (zi (.cs .v (.s [46])) []) (zn 1<|zs 4<|zn 2 [])<|
 .ret) .skip)<|
 zq (zp 1<|zi (.ca 518 [.e 0] 1)<|zp 1 []) (zs 0<|zn 1<|zs 4<|zn 1 [])<|
 zq (zp 2<|zi (.ss (.e 0) (some (.c (.n 1))) (some (.e 2)))<|zi (.ca 513 [.e 4] 1)<|zi (.bi .add (.c (.s [40])) (.e 5))<|zp 2<|zi (.bi .add (.e 2) (.c (.n 1)))<|zi (.ss (.e 0) (some (.e 7)) none)<|zi (.ca 513 [.e 8] 1)<|zi (.bi .add (.e 6) (.e 9))<|zi (.bi .add (.e 10) (.c (.s [41])))<|zp 1 []) (zn 1<|zs 11<|zn 2 [])<|
 .ret⟩
def ir_spec_l6End:IF:=⟨[],2,10,[2],zq (zi (.cs .v (.n 0)) []) (zs 0<|zs 1<|zn 8 [])<|
 .seq (zq (zp 2<|zi (.sn (.e 0))<|zi (.bi .geq (.e 1) (.e 10)) []) (zs 0<|zs 1<|zn 3<|zs 11<|zn 4 [])<|
 .cond 5 (zq (zi (.cs .v (.n (-1))) []) (zn 2<|zs 10<|zn 7 [])<|
 .ret) .skip)<|
 .seq (zq (zp 2<|zi (.sx (.e 0) (.e 1))<|zi (.bi .eql (.e 10) (.c (.y 46))) []) (zs 0<|zs 1<|zn 4<|zs 11<|zn 3 [])<|
 .cond 6 (zq (zp 1<|zi (.bi .add (.e 1) (.c (.n 1)))<|zp 1 []) (zn 2<|zs 10<|zn 7 [])<|
 .ret) .skip)<|
 .seq (zq (zp 2<|zi (.sx (.e 0) (.e 1))<|zi (.bi .neq (.e 10) (.c (.y 40))) []) (zs 0<|zs 1<|zn 5<|zs 11<|zn 2 [])<|
 .cond 7 (zq (zi (.cs .v (.n (-1))) []) (zn 2<|zs 10<|zn 7 [])<|
 .ret) .skip)<|
 zq (zp 2<|zi (.bi .add (.e 1) (.c (.n 1)))<|zi (.ca 188 [.e 0,.e 10] 1)<|zp 1 []) (zs 0<|zn 2<|zs 11<|zn 6 [])<|
 .seq (zq (zp 1<|zi (.bi .lss (.e 3) (.c (.n 0))) []) (zs 0<|zn 2<|zs 3<|zn 4<|zs 10<|zn 1 [])<|
 .cond 8 (zq (zi (.cs .v (.n (-1))) []) (zn 2<|zs 10<|zn 7 [])<|
 .ret) .skip)<|
 zq (zp 2<|zi (.ca 188 [.e 0,.e 3] 1)<|zp 1 []) (zs 0<|zn 3<|zs 10<|zn 5 [])<|
 .seq (zq (zp 1<|zi (.bi .lss (.e 4) (.c (.n 0)))<|zp 1<|zg [(10,false)] (.cy (.e 4))<|zg [(10,false)] (.cy (.e 0))<|zg [(10,false)] (.sn (.e 12))<|zg [(10,false)] (.bi .geq (.e 11) (.e 13))<|zi (.pk (.e 10) (.c (.b true)) (.e 14))<|zp 1<|zg [(15,false)] (.cy (.e 0))<|zg [(15,false)] (.cy (.e 4))<|zg [(15,false)] (.sx (.e 16) (.e 17))<|zg [(15,false)] (.bi .neq (.e 18) (.c (.y 41)))<|zi (.pk (.e 15) (.c (.b true)) (.e 19)) []) (zn 4<|zs 4<|zn 4<|zs 20 [])<|
 .cond 9 (zq (zi (.cs .v (.n (-1))) []) (zn 2<|zs 10<|zn 7 [])<|
 .ret) .skip)<|
 zq (zp 1<|zi (.bi .add (.e 4) (.c (.n 1)))<|zp 1 []) (zn 2<|zs 10<|zn 7 [])<|
 .ret⟩
end Go.Cat
namespace Go.Cat
def ir_impl_tree_nodes:IF:=⟨[],1,3,[1],zq (zi (.cs .v (.n 0)) []) (zs 0<|zn 2 [])<|
 .seq (zq (zp 1<|zi (.nz true (.e 0)) []) (zs 0<|zn 1<|zs 3 [])<|
 .cond 2 (zq (zi (.cs .v (.n 0)) []) (zn 1<|zs 3<|zn 1 [])<|
 .ret) .skip)<|
 zq (zp 1<|zi (.nn (.e 0))<|zi (.fp false (.e 3) 0)<|zp 1<|zi (.ca 197 [.e 4] 1)<|zp 1<|zi (.nn (.e 0))<|zi (.fp false (.e 6) 1)<|zp 1<|zi (.ca 197 [.e 7] 1)<|zi (.bi .add (.e 5) (.e 8))<|zi (.bi .add (.e 9) (.c (.n 1)))<|zp 1 []) (zn 1<|zs 10<|zn 1 [])<|
 .ret⟩
def ir_impl_tree_text:IF:=⟨[],1,3,[1],zq (zi (.cs .v (.s [])) []) (zs 0<|zn 2 [])<|
 .seq (zq (zp 1<|zi (.nz true (.e 0)) []) (zs 0<|zn 1<|zs 3 [])<|
 .cond 2 (zq (zi (.cs .v (.s [46])) []) (zn 1<|zs 3<|zn 1 [])<|
 .ret) .skip)<|
 zq (zp 1<|zi (.nn (.e 0))<|zi (.fp false (.e 3) 0)<|zp 1<|zi (.ca 196 [.e 4] 1)<|zi (.bi .add (.c (.s [40])) (.e 5))<|zp 1<|zi (.nn (.e 0))<|zi (.fp false (.e 7) 1)<|zp 1<|zi (.ca 196 [.e 8] 1)<|zi (.bi .add (.e 6) (.e 9))<|zi (.bi .add (.e 10) (.c (.s [41])))<|zp 1 []) (zn 1<|zs 11<|zn 1 [])<|
 .ret⟩
def ir_impl_tree_weights:IF:=⟨[],2,4,[2],zq (zi (.cs (.o .v) (.l [])) []) (zs 0<|zs 1<|zn 2 [])<|
 .seq (zq (zp 1<|zi (.nz true (.e 0)) []) (zs 0<|zs 1<|zn 1<|zs 4 [])<|
 .cond 3 (zq (zp 2 []) (zn 2<|zs 1<|zn 1 [])<|
 .ret) .skip)<|
 zq (zp 1<|zi (.nn (.e 0))<|zi (.fp false (.e 4) 1)<|zp 2<|zi (.nn (.e 0))<|zi (.fp false (.e 6) 0)<|zp 2<|zi (.ca 199 [.e 7,.e 1] 1)<|zp 1<|zi (.nn (.e 0))<|zi (.fp false (.e 9) 1)<|zp 1<|zi (.ca 197 [.e 10] 1)<|zi (.li (.o .v) [.e 11])<|zi (.ap false (.e 8) (.e 12))<|zi (.ca 199 [.e 5,.e 13] 1)<|zp 1 []) (zn 2<|zs 14<|zn 1 [])<|
 .ret⟩
def ir_slices_Reverse___string_string_:IF:=⟨[],1,4,[0],zq (zp 1<|zi (.ln (.e 0) [])<|zi (.bi .sub (.e 4) (.c (.n 1)))<|zi (.cs .v (.n 0))<|zp 1 []) (zs 0<|zs 6<|zs 5<|zn 1 [])<|
 .block 0<|.loop<|.seq (zq (zp 2<|zi (.bi .lss (.e 1) (.e 2)) []) (zs 0<|zs 1<|zs 2<|zs 4 [])<|
 .cond 3 .skip (.exit 0))<|
 .seq (.block 1<|.reg (zp 6<|zi (.ix (.e 0) [] (.e 2))<|zp 3<|zi (.ix (.e 0) [] (.e 1))<|zp 1<|zi (.ix (.e 0) [] (.e 1))<|zi (.up 0 [.e 1] (.e 4))<|zi (.ix (.e 7) [] (.e 2))<|zi (.up 7 [.e 2] (.e 5)) []) (zs 9<|zs 1<|zs 2<|zn 1 []))<|
 .reg (zp 1<|zi (.bi .add (.e 1) (.c (.n 1)))<|zp 1<|zi (.bi .sub (.e 2) (.c (.n 1)))<|zp 2 []) (zs 0<|zs 4<|zs 5<|zn 1 [])⟩
end Go.Cat
namespace Go.Cat
def ir_impl_partners:IF:=⟨[],1,8,[1],zq (zi (.cs (.o .v) (.l [])) []) (zs 0<|zn 7 [])<|
 zq (zp 1<|zi (.sn (.e 0))<|zi (.mk (.n 0) (.e 8) (.e 8))<|zp 1 []) (zs 0<|zn 1<|zs 9<|zn 5 [])<|
 zq (zi (.li (.o .v) [])<|zp 1 []) (zs 0<|zn 1<|zs 2<|zs 8<|zn 4 [])<|
 .seq (zq (zi (.cs .v (.n 0)) []) (zs 0<|zn 1<|zs 2<|zs 3<|zs 8<|zn 3 [])<|
 .block 0<|.loop<|.seq (zq (zp 2<|zi (.sn (.e 0))<|zi (.bi .lss (.e 4) (.e 8)) []) (zs 0<|zn 1<|zs 2<|zs 3<|zs 4<|zn 1<|zs 9<|zn 1 [])<|
 .cond 6 .skip (.exit 0))<|
 .seq (.block 1<|.seq (zq (zp 2<|zi (.sx (.e 0) (.e 4))<|zi (.bi .eql (.e 8) (.c (.y 117))) []) (zs 0<|zn 1<|zs 2<|zs 3<|zs 4<|zn 2<|zs 9 [])<|
 .cond 7 (zq (zp 2<|zi (.li (.o .v) [.e 4])<|zi (.ap false (.e 3) (.e 8))<|zp 1 []) (zs 0<|zn 1<|zs 2<|zs 9<|zs 4<|zn 3 [])<|
 .exit 1) .skip)<|
 zq (zp 2<|zi (.ln (.e 3) [])<|zi (.bi .sub (.e 8) (.c (.n 1)))<|zi (.ix (.e 3) [] (.e 9))<|zp 2 []) (zs 0<|zn 1<|zs 2<|zs 3<|zs 4<|zs 10<|zn 2 [])<|
 zq (zp 2<|zi (.ln (.e 3) [])<|zi (.bi .sub (.e 8) (.c (.n 1)))<|zi (.sb true (.e 3) none (some (.e 9)))<|zp 1 []) (zs 0<|zn 1<|zs 2<|zs 10<|zs 4<|zs 5<|zn 2 [])<|
 zq (zp 3<|zi (.ix (.e 2) [] (.e 4))<|zi (.up 2 [.e 4] (.e 5)) []) (zs 0<|zn 1<|zs 9<|zs 3<|zs 4<|zs 5<|zn 2 [])<|
 .reg (zp 3<|zi (.ix (.e 2) [] (.e 5))<|zi (.up 2 [.e 5] (.e 4)) []) (zs 0<|zn 1<|zs 9<|zs 3<|zs 4<|zn 3 []))<|
 .reg (zp 1<|zi (.bi .add (.e 4) (.c (.n 1)))<|zp 1 []) (zs 0<|zn 1<|zs 2<|zs 3<|zs 8<|zn 3 []))<|
 zq (zp 2 []) (zn 1<|zs 2<|zn 6 [])<|
 .ret⟩
end Go.Cat
namespace Go.Cat
end Go.Cat
namespace Go.Cat
end Go.Cat
namespace Go.Cat
end Go.Cat
namespace Go.Cat
end Go.Cat
namespace Go.Cat
end Go.Cat
namespace Go.Cat
def ir_spec_CrossingsOf:IF:=⟨[],1,9,[1],zq (zi (.cs .v (.n 0)) []) (zs 0<|zn 8 [])<|
 .seq (zq (zp 1<|zi (.ca 379 [.e 0] 1)<|zi (.un .not (.e 9)) []) (zs 0<|zn 4<|zs 10<|zn 3 [])<|
 .cond 5 (zq (zi (.cs .v (.n (-1))) []) (zn 1<|zs 9<|zn 7 [])<|
 .ret) .skip)<|
 zq (zi (.cs .v (.n 0)) []) (zs 0<|zn 1<|zs 9<|zn 6 [])<|
 .seq (zq (zi (.cs .v (.n 0)) []) (zs 0<|zn 1<|zs 2<|zs 9<|zn 5 [])<|
 .block 0<|.loop<|.seq (zq (zp 2<|zi (.ln (.e 0) [])<|zi (.bi .lss (.e 3) (.e 9)) []) (zs 0<|zn 1<|zs 2<|zs 3<|zn 2<|zs 10<|zn 2 [])<|
 .cond 6 .skip (.exit 0))<|
 .seq (.block 1<|zq (zp 1<|zi (.bi .add (.e 3) (.c (.n 1)))<|zp 1 []) (zs 0<|zn 1<|zs 2<|zs 3<|zs 9<|zn 4 [])<|
 .block 2<|.loop<|.seq (zq (zp 2<|zi (.ln (.e 0) [])<|zi (.bi .lss (.e 4) (.e 9)) []) (zs 0<|zn 1<|zs 2<|zs 3<|zs 4<|zn 2<|zs 10<|zn 1 [])<|
 .cond 7 .skip (.exit 2))<|
 .seq (.block 3<|zq (zp 3<|zi (.iy (.e 0) (.e 3))<|zp 1<|zi (.bi .lss (.e 4) (.e 9))<|zp 1<|zg [(10,true)] .nop<|zg [(10,true)] (.cy (.e 3))<|zg [(10,true)] (.iy (.e 0) (.e 11))<|zg [(10,true)] .nop<|zg [(10,true)] .nop<|zg [(10,true)] (.cy (.e 4))<|zg [(10,true)] (.iy (.e 0) (.e 13))<|zg [(10,true)] .nop<|zg [(10,true)] (.bi .lss (.e 12) (.e 14))<|zi (.pk (.e 10) (.e 15) (.c (.b false))) []) (zs 0<|zn 1<|zs 2<|zs 3<|zs 4<|zn 3<|zs 16 [])<|
 .cond 8 (.reg (zp 1<|zi (.bi .add (.e 2) (.c (.n 1)))<|zp 1 []) (zs 0<|zn 1<|zs 9<|zs 3<|zs 4<|zn 4 [])) .skip)<|
 .reg (zp 1<|zi (.bi .add (.e 4) (.c (.n 1)))<|zp 1 []) (zs 0<|zn 1<|zs 2<|zs 3<|zs 9<|zn 4 []))<|
 .reg (zp 1<|zi (.bi .add (.e 3) (.c (.n 1)))<|zp 1 []) (zs 0<|zn 1<|zs 2<|zs 9<|zn 5 []))<|
 zq (zp 2 []) (zn 1<|zs 2<|zn 7 [])<|
 .ret⟩
def ir_spec_IsMatching:IF:=⟨[],1,5,[1],zq (zi (.cs .v (.b false)) []) (zs 0<|zn 4 [])<|
 .seq (zq (zi (.cs .v (.n 0)) []) (zs 0<|zn 1<|zs 5<|zn 2 [])<|
 .block 0<|.loop<|.seq (zq (zp 2<|zi (.ln (.e 0) [])<|zi (.bi .lss (.e 2) (.e 5)) []) (zs 0<|zn 1<|zs 2<|zs 6<|zn 1 [])<|
 .cond 3 .skip (.exit 0))<|
 .seq (.block 1<|zq (zp 2<|zi (.iy (.e 0) (.e 2))<|zp 2<|zi (.ln (.e 0) [])<|zi (.bi .sub (.e 6) (.c (.n 1)))<|zi (.ca 22 [.e 5,.c (.n 0),.e 7] 1)<|zi (.un .not (.e 8))<|zp 1<|zg [(9,false)] .nop<|zg [(9,false)] (.cy (.e 2))<|zg [(9,false)] (.iy (.e 0) (.e 10))<|zg [(9,false)] .nop<|zg [(9,false)] (.cy (.e 2))<|zg [(9,false)] (.bi .eql (.e 11) (.e 12))<|zi (.pk (.e 9) (.c (.b true)) (.e 13))<|zp 1<|zg [(14,false)] .nop<|zg [(14,false)] .nop<|zg [(14,false)] (.cy (.e 2))<|zg [(14,false)] (.iy (.e 0) (.e 15))<|zg [(14,false)] .nop<|zg [(14,false)] (.iy (.e 0) (.e 16))<|zg [(14,false)] .nop<|zg [(14,false)] (.cy (.e 2))<|zg [(14,false)] (.bi .neq (.e 17) (.e 18))<|zi (.pk (.e 14) (.c (.b true)) (.e 19)) []) (zs 0<|zn 1<|zs 2<|zn 1<|zs 20 [])<|
 .cond 4 (zq (zi (.cs .v (.b false)) []) (zn 1<|zs 5<|zn 3 [])<|
 .ret) .skip)<|
 .reg (zp 1<|zi (.bi .add (.e 2) (.c (.n 1)))<|zp 1 []) (zs 0<|zn 1<|zs 5<|zn 2 []))<|
 zq (zp 1<|zi (.ln (.e 0) [])<|zi (.bi .leq (.e 5) (.c (.n 16)))<|zp 1 []) (zn 1<|zs 6<|zn 3 [])<|
 .ret⟩
def ir_spec_IsNoncrossingMatching:IF:=⟨[],1,2,[1],zq (zi (.cs .v (.b false)) []) (zs 0<|zn 1 [])<|
 zq (zp 1<|zi (.ca 369 [.e 0] 1)<|zi (.bi .eql (.e 2) (.c (.n 0)))<|zp 1 []) (zn 1<|zs 3 [])<|
 .ret⟩
def ir_spec_MatchingOf:IF:=⟨[],1,6,[1,2],zq (zi (.cs (.o .v) (.l []))<|zi (.cs .v (.b false)) []) (zs 0<|zn 5 [])<|
 zq (zi (.li (.o .v) [])<|zp 1 []) (zs 0<|zn 2<|zs 6<|zn 2 [])<|
 .seq (zq (zi (.cs .v (.n 0)) []) (zs 0<|zn 2<|zs 3<|zs 6<|zn 1 [])<|
 .block 0<|.loop<|.seq (zq (zp 2<|zi (.sn (.e 0))<|zi (.bi .lss (.e 4) (.e 6))<|zp 1<|zg [(7,true)] (.cy (.e 0))<|zg [(7,true)] (.ca 64 [.e 8] 1)<|zi (.pk (.e 7) (.e 9) (.c (.b false))) []) (zs 0<|zn 2<|zs 3<|zs 4<|zs 10 [])<|
 .cond 5 .skip (.exit 0))<|
 .seq (.block 1<|.reg (zp 3<|zi (.ca 370 [.e 0,.e 4] 1)<|zi (.li (.o .v) [.e 6])<|zi (.ap false (.e 3) (.e 7))<|zp 1 []) (zs 0<|zn 2<|zs 8<|zs 4<|zn 1 []))<|
 .reg (zp 1<|zi (.bi .add (.e 4) (.c (.n 1)))<|zp 1 []) (zs 0<|zn 2<|zs 3<|zs 6<|zn 1 []))<|
 zq (zp 2<|zi (.ca 64 [.e 0] 1)<|zp 2 []) (zn 1<|zs 3<|zs 6<|zn 3 [])<|
 .ret⟩
end Go.Cat
namespace Go.Cat
end Go.Cat
namespace Go.Cat
def ir_spec_l4Partner:IF:=⟨[],2,13,[2],zq (zi (.cs .v (.n 0)) []) (zs 0<|zs 1<|zn 11 [])<|
 zq (zi (.cs .v (.n 0)) []) (zs 0<|zs 1<|zn 1<|zs 13<|zn 9 [])<|
 .seq (zq (zp 2<|zi (.sx (.e 0) (.e 1))<|zi (.bi .eql (.e 13) (.c (.y 117))) []) (zs 0<|zs 1<|zn 1<|zs 3<|zn 2<|zs 14<|zn 6 [])<|
 .cond 6 (zq (zp 2 []) (zs 0<|zs 1<|zn 1<|zs 3<|zs 1<|zn 8 [])<|
 .block 0<|.loop<|.seq (zq (zp 2<|zi (.sn (.e 0))<|zi (.bi .lss (.e 4) (.e 13)) []) (zs 0<|zs 1<|zn 1<|zs 3<|zs 4<|zn 2<|zs 14<|zn 5 [])<|
 .cond 7 .skip (.exit 0))<|
 .seq (.block 1<|.seq (zq (zp 2<|zi (.sx (.e 0) (.e 4))<|zi (.bi .eql (.e 13) (.c (.y 117))) []) (zs 0<|zs 1<|zn 1<|zs 3<|zs 4<|zn 3<|zs 14<|zn 4 [])<|
 .cond 8 (.reg (zp 1<|zi (.bi .add (.e 3) (.c (.n 1)))<|zp 1 []) (zs 0<|zs 1<|zn 1<|zs 13<|zs 4<|zn 8 [])) (.reg (zp 1<|zi (.bi .sub (.e 3) (.c (.n 1)))<|zp 1 []) (zs 0<|zs 1<|zn 1<|zs 13<|zs 4<|zn 8 [])))<|
 zq (zp 1<|zi (.bi .eql (.e 3) (.c (.n 0))) []) (zs 0<|zs 1<|zn 1<|zs 3<|zs 4<|zn 4<|zs 13<|zn 3 [])<|
 .cond 9 (zq (zp 2 []) (zn 2<|zs 4<|zn 10 [])<|
 .ret) .skip)<|
 .reg (zp 1<|zi (.bi .add (.e 4) (.c (.n 1)))<|zp 1 []) (zs 0<|zs 1<|zn 1<|zs 3<|zs 13<|zn 8 [])) .skip)<|
 .seq (zq (zp 2 []) (zs 0<|zn 2<|zs 3<|zn 1<|zs 1<|zn 7 [])<|
 .block 2<|.loop<|.seq (zq (zp 1<|zi (.bi .geq (.e 5) (.c (.n 0))) []) (zs 0<|zn 2<|zs 3<|zn 1<|zs 5<|zn 4<|zs 13<|zn 2 [])<|
 .cond 10 .skip (.exit 2))<|
 .seq (.block 3<|.seq (zq (zp 2<|zi (.sx (.e 0) (.e 5))<|zi (.bi .eql (.e 13) (.c (.y 100))) []) (zs 0<|zn 2<|zs 3<|zn 1<|zs 5<|zn 5<|zs 14<|zn 1 [])<|
 .cond 11 (.reg (zp 1<|zi (.bi .add (.e 3) (.c (.n 1)))<|zp 1 []) (zs 0<|zn 2<|zs 13<|zn 1<|zs 5<|zn 7 [])) (.reg (zp 1<|zi (.bi .sub (.e 3) (.c (.n 1)))<|zp 1 []) (zs 0<|zn 2<|zs 13<|zn 1<|zs 5<|zn 7 [])))<|
 zq (zp 1<|zi (.bi .eql (.e 3) (.c (.n 0))) []) (zs 0<|zn 2<|zs 3<|zn 1<|zs 5<|zn 6<|zs 13 [])<|
 .cond 12 (zq (zp 2 []) (zn 2<|zs 5<|zn 10 [])<|
 .ret) .skip)<|
 .reg (zp 1<|zi (.bi .sub (.e 5) (.c (.n 1)))<|zp 1 []) (zs 0<|zn 2<|zs 3<|zn 1<|zs 13<|zn 7 []))<|
 zq (zi (.cs .v (.n (-1))) []) (zn 2<|zs 13<|zn 10 [])<|
 .ret⟩
end Go.Cat
namespace Go.Cat
end Go.Cat
namespace Go.Cat
end Go.Cat
namespace Go.Cat
def ir_impl_NeighboursOf:IF:=⟨[],1,2,[1],zq (zi (.cs (.o .v) (.l [])) []) (zs 0<|zn 1 [])<|
 zq (zp 1<|zi (.ca 201 [.e 0,.c (.f 200 [])] 1)<|zp 1<|zi (.ca 201 [.e 0,.c (.f 202 [])] 1)<|zi (.ap false (.e 2) (.e 3))<|zp 1 []) (zn 1<|zs 4 [])<|
 .ret⟩
def ir_impl_WeightsOf:IF:=⟨[],1,3,[1],zq (zi (.cs (.o .v) (.l [])) []) (zs 0<|zn 2 [])<|
 zq (zp 1<|zi (.ca 194 [.e 0] 2)<|zp 5 []) (zn 2<|zs 3 [])<|
 zq (zp 1<|zi (.li (.o .v) [])<|zi (.ca 199 [.e 2,.e 3] 1)<|zp 1 []) (zn 1<|zs 4<|zn 1 [])<|
 .ret⟩
def ir_impl_rotations:IF:=⟨[],2,9,[2],zq (zi (.cs (.o .v) (.l [])) []) (zs 0<|zs 1<|zn 7 [])<|
 zq (zi (.li (.o .v) [])<|zp 1 []) (zs 0<|zs 1<|zn 1<|zs 9<|zn 5 [])<|
 .seq (zq (zi (.cs .v (.n 0)) []) (zs 0<|zs 1<|zn 1<|zs 3<|zs 9<|zn 4 [])<|
 .block 0<|.loop<|.seq (zq (zp 2<|zi (.ca 169 [.e 0] 1)<|zi (.bi .lss (.e 4) (.e 9)) []) (zs 0<|zs 1<|zn 1<|zs 3<|zs 4<|zn 2<|zs 10<|zn 1 [])<|
 .cond 7 .skip (.exit 0))<|
 .seq (.block 1<|zq (zp 3<|zi (.cd (.e 1) 200 [.e 0,.e 4] 2)<|zp 5 []) (zs 0<|zs 1<|zn 1<|zs 3<|zs 4<|zs 9<|zs 10<|zn 2 [])<|
 zq (zp 1 []) (zs 0<|zs 1<|zn 1<|zs 3<|zs 4<|zs 5<|zn 2<|zs 6 [])<|
 .cond 8 (.reg (zp 2<|zi (.li (.o .v) [.e 5])<|zi (.ap false (.e 3) (.e 9))<|zp 1 []) (zs 0<|zs 1<|zn 1<|zs 10<|zs 4<|zn 4 [])) .skip)<|
 .reg (zp 1<|zi (.bi .add (.e 4) (.c (.n 1)))<|zp 1 []) (zs 0<|zs 1<|zn 1<|zs 3<|zs 9<|zn 4 []))<|
 zq (zp 2 []) (zn 2<|zs 3<|zn 6 [])<|
 .ret⟩
def ir_impl_rotations_w202:IF:=⟨[],2,9,[2],zq (zi (.cs (.o .v) (.l [])) []) (zs 0<|zs 1<|zn 7 [])<|
 zq (zi (.li (.o .v) [])<|zp 1 []) (zs 0<|zs 1<|zn 1<|zs 9<|zn 5 [])<|
 .seq (zq (zi (.cs .v (.n 0)) []) (zs 0<|zs 1<|zn 1<|zs 3<|zs 9<|zn 4 [])<|
 .block 0<|.loop<|.seq (zq (zp 2<|zi (.ca 169 [.e 0] 1)<|zi (.bi .lss (.e 4) (.e 9)) []) (zs 0<|zs 1<|zn 1<|zs 3<|zs 4<|zn 2<|zs 10<|zn 1 [])<|
 .cond 7 .skip (.exit 0))<|
 .seq (.block 1<|zq (zp 3<|zi (.cd (.e 1) 202 [.e 0,.e 4] 2)<|zp 5 []) (zs 0<|zs 1<|zn 1<|zs 3<|zs 4<|zs 9<|zs 10<|zn 2 [])<|
 zq (zp 1 []) (zs 0<|zs 1<|zn 1<|zs 3<|zs 4<|zs 5<|zn 2<|zs 6 [])<|
 .cond 8 (.reg (zp 2<|zi (.li (.o .v) [.e 5])<|zi (.ap false (.e 3) (.e 9))<|zp 1 []) (zs 0<|zs 1<|zn 1<|zs 10<|zs 4<|zn 4 [])) .skip)<|
 .reg (zp 1<|zi (.bi .add (.e 4) (.c (.n 1)))<|zp 1 []) (zs 0<|zs 1<|zn 1<|zs 3<|zs 9<|zn 4 []))<|
 zq (zp 2 []) (zn 2<|zs 3<|zn 6 [])<|
 .ret⟩
end Go.Cat
namespace Go.Cat
def ir_impl_BallotNumber:IF:=⟨[],2,15,[2],zq (zi (.cs .v (.n 0)) []) (zs 0<|zs 1<|zn 13 [])<|
 .seq (zq (zp 1<|zi (.ca 23 [.e 0,.c (.n 0),.c (.n 15)] 1)<|zi (.un .not (.e 15))<|zp 1<|zg [(16,false)] (.cy (.e 1))<|zg [(16,false)] (.cy (.e 0))<|zg [(16,false)] (.ca 23 [.e 17,.e 18,.c (.n 15)] 1)<|zg [(16,false)] (.un .not (.e 19))<|zi (.pk (.e 16) (.c (.b true)) (.e 20)) []) (zs 0<|zs 1<|zn 6<|zs 21<|zn 6 [])<|
 .cond 8 (zq (zi (.cs .v (.n 0)) []) (zn 2<|zs 15<|zn 12 [])<|
 .ret) .skip)<|
 zq (zp 1<|zi (.bi .add (.e 1) (.c (.n 1)))<|zi (.mk (.n 0) (.e 15) (.e 15))<|zp 1 []) (zs 0<|zs 1<|zn 1<|zs 16<|zn 11 [])<|
 .seq (zq (zp 1<|zi (.ln (.e 3) [])<|zi (.cs .v (.n 0)) []) (zs 0<|zs 1<|zn 1<|zs 3<|zn 5<|zs 15<|zs 16<|zn 4 [])<|
 .block 0<|.loop<|zq (zi (.bi .lss (.e 10) (.e 9)) []) (zs 0<|zs 1<|zn 1<|zs 3<|zn 5<|zs 9<|zs 10<|zs 15<|zn 3 [])<|
 .seq (.cond 11 .skip (.exit 0))<|
 .seq (.block 1<|zq (zp 2 []) (zs 0<|zs 1<|zn 1<|zs 3<|zs 10<|zn 4<|zs 9<|zs 10<|zn 4 [])<|
 .reg (zp 2<|zi (.ix (.e 3) [] (.e 4))<|zi (.up 3 [.e 4] (.c (.n 1))) []) (zs 0<|zs 1<|zn 1<|zs 16<|zn 5<|zs 9<|zs 10<|zn 4 []))<|
 .reg (zi (.bi .add (.e 10) (.c (.n 1)))<|zp 1 []) (zs 0<|zs 1<|zn 1<|zs 3<|zn 5<|zs 9<|zs 15<|zn 4 []))<|
 .seq (zq (zi (.cs .v (.n 1)) []) (zs 0<|zs 1<|zn 1<|zs 3<|zn 1<|zs 15<|zn 9 [])<|
 .block 2<|.loop<|.seq (zq (zp 2<|zi (.bi .leq (.e 5) (.e 0)) []) (zs 0<|zs 1<|zn 1<|zs 3<|zn 1<|zs 5<|zn 6<|zs 15<|zn 2 [])<|
 .cond 12 .skip (.exit 2))<|
 .seq (.block 3<|zq (zp 1<|zi (.bi .add (.e 1) (.c (.n 1)))<|zi (.mk (.n 0) (.e 15) (.e 15))<|zp 1 []) (zs 0<|zs 1<|zn 1<|zs 3<|zn 1<|zs 5<|zs 16<|zn 8 [])<|
 .seq (zq (zp 2 []) (zs 0<|zs 1<|zn 1<|zs 3<|zn 1<|zs 5<|zs 6<|zs 5<|zn 7 [])<|
 .block 4<|.loop<|.seq (zq (zp 2<|zi (.bi .leq (.e 7) (.e 1)) []) (zs 0<|zs 1<|zn 1<|zs 3<|zn 1<|zs 5<|zs 6<|zs 7<|zn 5<|zs 15<|zn 1 [])<|
 .cond 13 .skip (.exit 4))<|
 .seq (.block 5<|zq (zp 4<|zi (.ix (.e 3) [] (.e 7))<|zp 1<|zi (.ix (.e 6) [] (.e 7))<|zi (.up 6 [.e 7] (.e 15)) []) (zs 0<|zs 1<|zn 1<|zs 3<|zn 1<|zs 5<|zs 17<|zs 7<|zn 7 [])<|
 zq (zp 2<|zi (.bi .gtr (.e 7) (.e 5)) []) (zs 0<|zs 1<|zn 1<|zs 3<|zn 1<|zs 5<|zs 6<|zs 7<|zn 6<|zs 15 [])<|
 .cond 14 (.reg (zp 4<|zi (.ix (.e 6) [] (.e 7))<|zp 3<|zi (.bi .sub (.e 7) (.c (.n 1)))<|zi (.ix (.e 6) [] (.e 16))<|zp 1<|zi (.bi .add (.e 15) (.e 17))<|zi (.ix (.e 6) [] (.e 7))<|zi (.up 6 [.e 7] (.e 18)) []) (zs 0<|zs 1<|zn 1<|zs 3<|zn 1<|zs 5<|zs 20<|zs 7<|zn 7 [])) .skip)<|
 .reg (zp 1<|zi (.bi .add (.e 7) (.c (.n 1)))<|zp 1 []) (zs 0<|zs 1<|zn 1<|zs 3<|zn 1<|zs 5<|zs 6<|zs 15<|zn 7 []))<|
 .reg (zp 2 []) (zs 0<|zs 1<|zn 1<|zs 6<|zn 1<|zs 5<|zn 9 []))<|
 .reg (zp 1<|zi (.bi .add (.e 5) (.c (.n 1)))<|zp 1 []) (zs 0<|zs 1<|zn 1<|zs 3<|zn 1<|zs 15<|zn 9 []))<|
 zq (zp 2<|zi (.ix (.e 3) [] (.e 1))<|zp 2 []) (zn 2<|zs 15<|zn 12 [])<|
 .ret⟩
def ir_impl_CatalanNumber:IF:=⟨[],1,3,[1],zq (zi (.cs .v (.n 0)) []) (zs 0<|zn 2 [])<|
 .seq (zq (zp 1<|zi (.ca 23 [.e 0,.c (.n 0),.c (.n 15)] 1)<|zi (.un .not (.e 3)) []) (zs 0<|zn 1<|zs 4 [])<|
 .cond 2 (zq (zi (.cs .v (.n (-1))) []) (zn 1<|zs 3<|zn 1 [])<|
 .ret) .skip)<|
 zq (zp 2<|zi (.ca 27 [.e 0,.e 0] 1)<|zp 1 []) (zn 1<|zs 3<|zn 1 [])<|
 .ret⟩
def ir_impl_allPaths:IF:=⟨[],1,4,[1],zq (zi (.cs (.o .v) (.l [])) []) (zs 0<|zn 3 [])<|
 zq (zi (.li (.o .v) [])<|zi (.cs (.b (.o .v)) (.g [.l []]))<|zi (.up 5 [.k 0] (.e 4)) []) (zs 0<|zn 1<|zs 6<|zn 1 [])<|
 zq (zi (.cs (.b .v) (.g [.u])) []) (zs 0<|zn 1<|zs 2<|zs 4 [])<|
 zq (zp 1<|zi (.cb 3)<|zp 3<|zi (.ca 326 [.c (.s []),.e 0,.e 0,.e 2,.e 4] 1) []) (zn 2<|zs 5<|zn 1 [])<|
 zq (zi (.tk 2)<|zp 1 []) (zn 1<|zs 4<|zn 2 [])<|
 .ret⟩
def ir_impl_allPaths_f1:IF:=⟨[],5,8,[3],.seq (zq (zp 1<|zi (.bi .eql (.e 1) (.c (.n 0)))<|zp 1<|zg [(8,true)] (.cy (.e 2))<|zg [(8,true)] (.bi .eql (.e 9) (.c (.n 0)))<|zi (.pk (.e 8) (.e 10) (.c (.b false))) []) (zs 0<|zs 1<|zs 2<|zs 3<|zs 4<|zs 11<|zn 2 [])<|
 .cond 5 (zq (zi (.tk 3)<|zp 1<|zi (.li (.o .v) [.e 0])<|zi (.ap false (.e 8) (.e 10))<|zi (.up 9 [.k 0] (.e 11)) []) (zn 3<|zs 12<|zn 4 [])<|
 .ret) .skip)<|
 .seq (zq (zp 1<|zi (.bi .gtr (.e 1) (.c (.n 0))) []) (zs 0<|zs 1<|zs 2<|zs 3<|zs 4<|zn 1<|zs 8<|zn 1 [])<|
 .cond 6 (.reg (zp 2<|zi (.bi .add (.e 0) (.c (.s [117])))<|zp 1<|zi (.bi .sub (.e 1) (.c (.n 1)))<|zp 1<|zi (.ca 326 [.e 8,.e 9,.e 2,.e 3,.e 4] 1) []) (zs 0<|zs 1<|zs 2<|zs 10<|zs 4<|zn 3 [])) .skip)<|
 zq (zp 2<|zi (.bi .gtr (.e 2) (.e 1)) []) (zs 0<|zs 1<|zs 2<|zs 3<|zs 4<|zn 2<|zs 8 [])<|
 .cond 7 (.reg (zp 2<|zi (.bi .add (.e 0) (.c (.s [100])))<|zp 2<|zi (.bi .sub (.e 2) (.c (.n 1)))<|zi (.ca 326 [.e 8,.e 1,.e 9,.e 3,.e 4] 1) []) (zn 3<|zs 10<|zn 4 [])) .skip⟩
def ir_impl_choose:IF:=⟨[],2,7,[2],zq (zi (.cs .v (.n 0)) []) (zs 0<|zs 1<|zn 5 [])<|
 .seq (zq (zp 1<|zi (.bi .lss (.e 1) (.c (.n 0)))<|zp 1<|zg [(7,false)] (.cy (.e 1))<|zg [(7,false)] (.cy (.e 0))<|zg [(7,false)] (.bi .gtr (.e 8) (.e 9))<|zi (.pk (.e 7) (.c (.b true)) (.e 10)) []) (zs 0<|zs 1<|zn 3<|zs 11<|zn 1 [])<|
 .cond 5 (zq (zi (.cs .v (.n 0)) []) (zn 2<|zs 7<|zn 4 [])<|
 .ret) .skip)<|
 zq (zi (.cs .v (.n 1)) []) (zs 0<|zs 1<|zn 1<|zs 7<|zn 3 [])<|
 .seq (zq (zi (.cs .v (.n 1)) []) (zs 0<|zs 1<|zn 1<|zs 3<|zs 7<|zn 2 [])<|
 .block 0<|.loop<|.seq (zq (zp 2<|zi (.bi .leq (.e 4) (.e 1)) []) (zs 0<|zs 1<|zn 1<|zs 3<|zs 4<|zn 1<|zs 7 [])<|
 .cond 6 .skip (.exit 0))<|
 .seq (.block 1<|.reg (zp 3<|zi (.bi .sub (.e 0) (.e 1))<|zp 1<|zi (.bi .add (.e 7) (.e 4))<|zi (.bi .mul (.e 3) (.e 8))<|zp 1<|zi (.bi .quo (.e 9) (.e 4))<|zp 1 []) (zs 0<|zs 1<|zn 1<|zs 10<|zs 4<|zn 2 []))<|
 .reg (zp 1<|zi (.bi .add (.e 4) (.c (.n 1)))<|zp 1 []) (zs 0<|zs 1<|zn 1<|zs 3<|zs 7<|zn 2 []))<|
 zq (zp 2 []) (zn 2<|zs 3<|zn 4 [])<|
 .ret⟩
end Go.Cat
namespace Go.Cat
def ir_impl_CountParking:IF:=⟨[],1,7,[1],zq (zi (.cs .v (.n 0)) []) (zs 0<|zn 6 [])<|
 .seq (.block 0<|zq (zp 1<|zi (.ca 23 [.e 0,.c (.n 0),.c (.n 6)] 1)<|zi (.un .not (.e 7))<|zp 1 []) (zs 0<|zn 3<|zs 8<|zn 2 [])<|
 .cond 4 (zq (zi (.cs .v (.n (-1))) []) (zn 1<|zs 7<|zn 5 [])<|
 .ret) (zq (zp 1<|zi (.bi .eql (.e 0) (.c (.n 0)))<|zp 1 []) (zs 0<|zn 4<|zs 7<|zn 1 [])<|
 .cond 5 (zq (zi (.cs .v (.n 1)) []) (zn 1<|zs 7<|zn 5 [])<|
 .ret) .skip))<|
 zq (zi (.cs .v (.n 1)) []) (zs 0<|zn 1<|zs 7<|zn 4 [])<|
 .seq (zq (zi (.cs .v (.n 1)) []) (zs 0<|zn 1<|zs 2<|zs 7<|zn 3 [])<|
 .block 1<|.loop<|.seq (zq (zp 2<|zi (.bi .lss (.e 3) (.e 0)) []) (zs 0<|zn 1<|zs 2<|zs 3<|zn 2<|zs 7 [])<|
 .cond 6 .skip (.exit 1))<|
 .seq (.block 2<|.reg (zp 2<|zi (.bi .add (.e 0) (.c (.n 1)))<|zi (.bi .mul (.e 2) (.e 7))<|zp 1 []) (zs 0<|zn 1<|zs 8<|zs 3<|zn 3 []))<|
 .reg (zp 1<|zi (.bi .add (.e 3) (.c (.n 1)))<|zp 1 []) (zs 0<|zn 1<|zs 2<|zs 7<|zn 3 []))<|
 zq (zp 2 []) (zn 1<|zs 2<|zn 5 [])<|
 .ret⟩
end Go.Cat
namespace Go.Cat
def ir_impl_CountIntervals:IF:=⟨[],1,16,[1],zq (zi (.cs .v (.n 0)) []) (zs 0<|zn 15 [])<|
 .seq (zq (zp 1<|zi (.ca 23 [.e 0,.c (.n 0),.c (.n 5)] 1)<|zi (.un .not (.e 16)) []) (zs 0<|zn 5<|zs 17<|zn 9 [])<|
 .cond 6 (zq (zi (.cs .v (.n (-1))) []) (zn 1<|zs 16<|zn 14 [])<|
 .ret) .skip)<|
 zq (zi (.cs .v (.n 0)) []) (zs 0<|zn 1<|zs 16<|zn 13 [])<|
 zq (zp 1<|zi (.ca 506 [.e 0] 1)<|zp 1 []) (zn 2<|zs 2<|zs 16<|zn 12 [])<|
 .seq (zq (zp 1<|zi (.ln (.e 3) [])<|zi (.cs .v (.n 0)) []) (zn 2<|zs 2<|zs 3<|zn 3<|zs 3<|zs 16<|zs 17<|zn 6 [])<|
 .block 0<|.loop<|zq (zi (.bi .lss (.e 9) (.e 8)) []) (zn 2<|zs 2<|zs 3<|zn 3<|zs 7<|zs 8<|zs 9<|zs 16<|zn 5 [])<|
 .seq (.cond 10 .skip (.exit 0))<|
 .seq (.block 1<|zq (zi (.ix (.e 7) [] (.e 9))<|zp 2 []) (zn 2<|zs 2<|zs 3<|zs 16<|zn 2<|zs 7<|zs 8<|zs 9<|zn 6 [])<|
 zq (zp 1<|zi (.ln (.e 3) [])<|zi (.cs .v (.n 0)) []) (zn 2<|zs 2<|zs 3<|zs 4<|zn 2<|zs 7<|zs 8<|zs 9<|zn 1<|zs 3<|zs 16<|zs 17<|zn 2 [])<|
 .block 2<|.loop<|zq (zi (.bi .lss (.e 13) (.e 12)) []) (zn 2<|zs 2<|zs 3<|zs 4<|zn 2<|zs 7<|zs 8<|zs 9<|zn 1<|zs 11<|zs 12<|zs 13<|zs 16<|zn 1 [])<|
 .seq (.cond 14 .skip (.exit 2))<|
 .seq (.block 3<|zq (zi (.ix (.e 11) [] (.e 13))<|zp 2 []) (zn 2<|zs 2<|zs 3<|zs 4<|zs 16<|zn 1<|zs 7<|zs 8<|zs 9<|zn 1<|zs 11<|zs 12<|zs 13<|zn 2 [])<|
 zq (zp 2<|zi (.ca 350 [.e 4,.e 5] 1) []) (zn 2<|zs 2<|zs 3<|zs 4<|zn 2<|zs 7<|zs 8<|zs 9<|zn 1<|zs 11<|zs 12<|zs 13<|zn 1<|zs 16 [])<|
 .cond 15 (.reg (zp 1<|zi (.bi .add (.e 2) (.c (.n 1)))<|zp 1 []) (zn 2<|zs 16<|zs 3<|zs 4<|zn 2<|zs 7<|zs 8<|zs 9<|zn 1<|zs 11<|zs 12<|zs 13<|zn 2 [])) .skip)<|
 .reg (zi (.bi .add (.e 13) (.c (.n 1)))<|zp 1 []) (zn 2<|zs 2<|zs 3<|zs 4<|zn 2<|zs 7<|zs 8<|zs 9<|zn 1<|zs 11<|zs 12<|zs 16<|zn 2 []))<|
 .reg (zi (.bi .add (.e 9) (.c (.n 1)))<|zp 1 []) (zn 2<|zs 2<|zs 3<|zn 3<|zs 7<|zs 8<|zs 16<|zn 6 []))<|
 zq (zp 2 []) (zn 1<|zs 2<|zn 14 [])<|
 .ret⟩
def ir_impl_IsTamariLess:IF:=⟨[],2,11,[2],zq (zi (.cs .v (.b false)) []) (zs 0<|zs 1<|zn 9 [])<|
 .seq (zq (zp 2<|zi (.ca 367 [.e 0,.e 1,.c (.n 8)] 1)<|zi (.un .not (.e 11)) []) (zs 0<|zs 1<|zn 4<|zs 12<|zn 4 [])<|
 .cond 6 (zq (zi (.cs .v (.b false)) []) (zn 2<|zs 11<|zn 8 [])<|
 .ret) .skip)<|
 zq (zp 1<|zi (.ca 171 [.e 0] 1)<|zp 1<|zi (.ca 171 [.e 1] 1)<|zp 2 []) (zn 3<|zs 11<|zs 12<|zn 6 [])<|
 .seq (zq (zp 1<|zi (.ln (.e 3) [])<|zi (.cs .v (.n 0)) []) (zn 3<|zs 3<|zs 4<|zn 2<|zs 11<|zs 12<|zn 2 [])<|
 .block 0<|.loop<|zq (zi (.bi .lss (.e 8) (.e 7)) []) (zn 3<|zs 3<|zs 4<|zn 2<|zs 7<|zs 8<|zs 11<|zn 1 [])<|
 .seq (.cond 9 .skip (.exit 0))<|
 .seq (.block 1<|zq (zp 2 []) (zn 3<|zs 3<|zs 4<|zs 8<|zn 1<|zs 7<|zs 8<|zn 2 [])<|
 zq (zp 2<|zi (.ix (.e 3) [] (.e 5))<|zp 3<|zi (.ix (.e 4) [] (.e 5))<|zp 1<|zi (.bi .gtr (.e 11) (.e 12)) []) (zn 3<|zs 3<|zs 4<|zn 2<|zs 7<|zs 8<|zn 1<|zs 13 [])<|
 .cond 10 (zq (zi (.cs .v (.b false)) []) (zn 2<|zs 11<|zn 8 [])<|
 .ret) .skip)<|
 .reg (zi (.bi .add (.e 8) (.c (.n 1)))<|zp 1 []) (zn 3<|zs 3<|zs 4<|zn 2<|zs 7<|zs 11<|zn 2 []))<|
 zq (zi (.cs .v (.b true)) []) (zn 2<|zs 11<|zn 8 [])<|
 .ret⟩
def ir_impl_alike:IF:=⟨[],3,5,[3],zq (zi (.cs .v (.b false)) []) (zs 0<|zs 1<|zs 2<|zn 2 [])<|
 zq (zp 1<|zi (.ca 169 [.e 0] 1)<|zp 1 []) (zn 1<|zs 1<|zs 2<|zn 1<|zs 5 [])<|
 zq (zp 1<|zi (.bi .geq (.e 4) (.c (.n 0)))<|zp 1<|zg [(5,true)] (.cy (.e 4))<|zg [(5,true)] (.cy (.e 2))<|zg [(5,true)] (.bi .leq (.e 6) (.e 7))<|zi (.pk (.e 5) (.e 8) (.c (.b false)))<|zp 1<|zg [(9,true)] (.cy (.e 4))<|zg [(9,true)] (.cy (.e 1))<|zg [(9,true)] (.ca 169 [.e 11] 1)<|zg [(9,true)] (.bi .eql (.e 10) (.e 12))<|zi (.pk (.e 9) (.e 13) (.c (.b false)))<|zp 1 []) (zn 3<|zs 14<|zn 1 [])<|
 .ret⟩
def ir_impl_treesOf:IF:=⟨[],1,8,[1],zq (zi (.cs (.o .v) (.l [])) []) (zs 0<|zn 7 [])<|
 zq (zi (.li (.o .v) [])<|zp 1 []) (zs 0<|zn 1<|zs 8<|zn 5 [])<|
 .seq (zq (zp 1<|zi (.ca 314 [.e 0] 1)<|zi (.ln (.e 8) [])<|zi (.cs .v (.n 0)) []) (zn 2<|zs 2<|zn 1<|zs 8<|zs 9<|zs 10<|zn 1 [])<|
 .block 0<|.loop<|zq (zi (.bi .lss (.e 6) (.e 5)) []) (zn 2<|zs 2<|zn 1<|zs 4<|zs 5<|zs 6<|zs 8 [])<|
 .seq (.cond 7 .skip (.exit 0))<|
 .seq (.block 1<|zq (zi (.ix (.e 4) [] (.e 6))<|zp 2 []) (zn 2<|zs 2<|zs 8<|zs 4<|zs 5<|zs 6<|zn 1 [])<|
 .reg (zp 2<|zi (.ca 514 [.e 3] 1)<|zi (.ca 196 [.e 8] 1)<|zi (.li (.o .v) [.e 9])<|zi (.ap false (.e 2) (.e 10))<|zp 1 []) (zn 2<|zs 11<|zn 1<|zs 4<|zs 5<|zs 6<|zn 1 []))<|
 .reg (zi (.bi .add (.e 6) (.c (.n 1)))<|zp 1 []) (zn 2<|zs 2<|zn 1<|zs 4<|zs 5<|zs 8<|zn 1 []))<|
 zq (zp 2 []) (zn 1<|zs 2<|zn 6 [])<|
 .ret⟩
end Go.Cat
namespace Go.Cat
def ir_impl_cycles:IF:=⟨[],2,12,[2],zq (zi (.cs .v (.n 0)) []) (zs 0<|zs 1<|zn 10 [])<|
 zq (zp 1<|zi (.ln (.e 0) [])<|zi (.mk (.b false) (.e 12) (.e 12))<|zp 1 []) (zs 0<|zs 1<|zn 1<|zs 13<|zn 8 [])<|
 zq (zi (.cs .v (.n 0)) []) (zs 0<|zs 1<|zn 1<|zs 3<|zs 12<|zn 7 [])<|
 .seq (zq (zp 1<|zi (.ln (.e 0) [])<|zi (.cs .v (.n 0)) []) (zs 0<|zs 1<|zn 1<|zs 3<|zs 4<|zn 2<|zs 12<|zs 13<|zn 3 [])<|
 .block 0<|.loop<|zq (zi (.bi .lss (.e 8) (.e 7)) []) (zs 0<|zs 1<|zn 1<|zs 3<|zs 4<|zn 2<|zs 7<|zs 8<|zs 12<|zn 2 [])<|
 .seq (.cond 9 .skip (.exit 0))<|
 .seq (.block 1<|zq (zp 2 []) (zs 0<|zs 1<|zn 1<|zs 3<|zs 4<|zs 8<|zn 1<|zs 7<|zs 8<|zn 3 [])<|
 .seq (zq (zp 2<|zi (.ix (.e 3) [] (.e 5))<|zp 1 []) (zs 0<|zs 1<|zn 1<|zs 3<|zs 4<|zs 5<|zn 1<|zs 7<|zs 8<|zn 1<|zs 12<|zn 1 [])<|
 .cond 10 (.exit 1) .skip)<|
 zq (zp 1<|zi (.bi .add (.e 4) (.c (.n 1)))<|zp 1 []) (zs 0<|zs 1<|zn 1<|zs 3<|zs 12<|zs 5<|zn 1<|zs 7<|zs 8<|zn 3 [])<|
 zq (zp 2 []) (zs 0<|zs 1<|zn 1<|zs 3<|zs 4<|zn 1<|zs 5<|zs 7<|zs 8<|zn 3 [])<|
 .block 2<|.loop<|.seq (zq (zp 2<|zi (.ix (.e 3) [] (.e 6))<|zp 1<|zi (.un .not (.e 12)) []) (zs 0<|zs 1<|zn 1<|zs 3<|zs 4<|zn 1<|zs 6<|zs 7<|zs 8<|zn 2<|zs 13 [])<|
 .cond 11 .skip (.exit 2))<|
 .seq (.block 3<|zq (zp 2<|zi (.ix (.e 3) [] (.e 6))<|zi (.up 3 [.e 6] (.c (.b true))) []) (zs 0<|zs 1<|zn 1<|zs 13<|zs 4<|zn 1<|zs 6<|zs 7<|zs 8<|zn 3 [])<|
 .reg (zp 3<|zi (.iy (.e 0) (.e 6))<|zp 1<|zi (.ix (.e 3) [] (.e 12))<|zi (.up 3 [.e 12] (.c (.b true))) []) (zs 0<|zs 1<|zn 1<|zs 14<|zs 4<|zn 1<|zs 6<|zs 7<|zs 8<|zn 3 []))<|
 .reg (zp 3<|zi (.iy (.e 0) (.e 6))<|zp 1<|zi (.iy (.e 1) (.e 12))<|zp 2 []) (zs 0<|zs 1<|zn 1<|zs 3<|zs 4<|zn 1<|zs 13<|zs 7<|zs 8<|zn 3 []))<|
 .reg (zi (.bi .add (.e 8) (.c (.n 1)))<|zp 1 []) (zs 0<|zs 1<|zn 1<|zs 3<|zs 4<|zn 2<|zs 7<|zs 12<|zn 3 []))<|
 zq (zp 2 []) (zn 2<|zs 4<|zn 9 [])<|
 .ret⟩
end Go.Cat
namespace Go.Cat
def ir_impl_LoopTable:IF:=⟨[],1,16,[1,2],zq (zi (.cs (.o .v) (.l []))<|zi (.cs .v (.b false)) []) (zs 0<|zn 15 [])<|
 .seq (zq (zp 1<|zi (.ca 23 [.e 0,.c (.n 0),.c (.n 5)] 1)<|zi (.un .not (.e 16)) []) (zs 0<|zn 6<|zs 17<|zn 8 [])<|
 .cond 7 (zq (zi (.li (.o .v) [])<|zp 1<|zi (.cs .v (.b false)) []) (zn 1<|zs 16<|zs 17<|zn 13 [])<|
 .ret) .skip)<|
 zq (zp 1<|zi (.bi .add (.e 0) (.c (.n 1)))<|zi (.mk (.n 0) (.e 16) (.e 16))<|zp 1 []) (zs 0<|zn 2<|zs 17<|zn 12 [])<|
 zq (zp 1<|zi (.ca 359 [.e 0] 1)<|zp 1 []) (zn 3<|zs 3<|zs 16<|zn 11 [])<|
 .seq (zq (zp 1<|zi (.ln (.e 4) [])<|zi (.cs .v (.n 0)) []) (zn 3<|zs 3<|zs 4<|zn 3<|zs 4<|zs 16<|zs 17<|zn 5 [])<|
 .block 0<|.loop<|zq (zi (.bi .lss (.e 10) (.e 9)) []) (zn 3<|zs 3<|zs 4<|zn 3<|zs 8<|zs 9<|zs 10<|zs 16<|zn 4 [])<|
 .seq (.cond 11 .skip (.exit 0))<|
 .seq (.block 1<|zq (zi (.ix (.e 8) [] (.e 10))<|zp 2 []) (zn 3<|zs 3<|zs 4<|zs 16<|zn 2<|zs 8<|zs 9<|zs 10<|zn 5 [])<|
 zq (zp 1<|zi (.ln (.e 4) [])<|zi (.cs .v (.n 0)) []) (zn 3<|zs 3<|zs 4<|zs 5<|zn 2<|zs 8<|zs 9<|zs 10<|zn 1<|zs 4<|zs 16<|zs 17<|zn 1 [])<|
 .block 2<|.loop<|zq (zi (.bi .lss (.e 14) (.e 13)) []) (zn 3<|zs 3<|zs 4<|zs 5<|zn 2<|zs 8<|zs 9<|zs 10<|zn 1<|zs 12<|zs 13<|zs 14<|zs 16 [])<|
 .seq (.cond 15 .skip (.exit 2))<|
 .seq (.block 3<|zq (zi (.ix (.e 12) [] (.e 14))<|zp 2 []) (zn 3<|zs 3<|zs 4<|zs 5<|zs 16<|zn 1<|zs 8<|zs 9<|zs 10<|zn 1<|zs 12<|zs 13<|zs 14<|zn 1 [])<|
 .reg (zp 3<|zi (.ca 360 [.e 5,.e 6] 1)<|zi (.ix (.e 3) [] (.e 16))<|zp 1<|zi (.bi .add (.e 17) (.c (.n 1)))<|zi (.ix (.e 3) [] (.e 16))<|zi (.up 3 [.e 16] (.e 18)) []) (zn 3<|zs 20<|zs 4<|zs 5<|zn 2<|zs 8<|zs 9<|zs 10<|zn 1<|zs 12<|zs 13<|zs 14<|zn 1 []))<|
 .reg (zi (.bi .add (.e 14) (.c (.n 1)))<|zp 1 []) (zn 3<|zs 3<|zs 4<|zs 5<|zn 2<|zs 8<|zs 9<|zs 10<|zn 1<|zs 12<|zs 13<|zs 16<|zn 1 []))<|
 .reg (zi (.bi .add (.e 10) (.c (.n 1)))<|zp 1 []) (zn 3<|zs 3<|zs 4<|zn 3<|zs 8<|zs 9<|zs 16<|zn 5 []))<|
 zq (zp 2<|zi (.cs .v (.b true)) []) (zn 1<|zs 3<|zs 16<|zn 13 [])<|
 .ret⟩
def ir_impl_matchings:IF:=⟨[],1,8,[1],zq (zi (.cs (.o (.o .v)) (.l [])) []) (zs 0<|zn 7 [])<|
 zq (zi (.li (.o (.o .v)) [])<|zp 1 []) (zs 0<|zn 1<|zs 8<|zn 5 [])<|
 .seq (zq (zp 1<|zi (.ca 314 [.e 0] 1)<|zi (.ln (.e 8) [])<|zi (.cs .v (.n 0)) []) (zn 2<|zs 2<|zn 1<|zs 8<|zs 9<|zs 10<|zn 1 [])<|
 .block 0<|.loop<|zq (zi (.bi .lss (.e 6) (.e 5)) []) (zn 2<|zs 2<|zn 1<|zs 4<|zs 5<|zs 6<|zs 8 [])<|
 .seq (.cond 7 .skip (.exit 0))<|
 .seq (.block 1<|zq (zi (.ix (.e 4) [] (.e 6))<|zp 2 []) (zn 2<|zs 2<|zs 8<|zs 4<|zs 5<|zs 6<|zn 1 [])<|
 .reg (zp 2<|zi (.ca 373 [.e 3] 1)<|zi (.li (.o (.o .v)) [.e 8])<|zi (.ap false (.e 2) (.e 9))<|zp 1 []) (zn 2<|zs 10<|zn 1<|zs 4<|zs 5<|zs 6<|zn 1 []))<|
 .reg (zi (.bi .add (.e 6) (.c (.n 1)))<|zp 1 []) (zn 2<|zs 2<|zn 1<|zs 4<|zs 5<|zs 8<|zn 1 []))<|
 zq (zp 2 []) (zn 1<|zs 2<|zn 6 [])<|
 .ret⟩
end Go.Cat
namespace Go.Cat
def ir_impl_FussNumber:IF:=⟨[],2,4,[2],zq (zi (.cs .v (.n 0)) []) (zs 0<|zs 1<|zn 2 [])<|
 .seq (zq (zp 1<|zi (.ca 23 [.e 0,.c (.n 1),.c (.n 4)] 1)<|zi (.un .not (.e 4))<|zp 1<|zg [(5,false)] (.cy (.e 1))<|zg [(5,false)] (.ca 23 [.e 6,.c (.n 0),.c (.n 6)] 1)<|zg [(5,false)] (.un .not (.e 7))<|zi (.pk (.e 5) (.c (.b true)) (.e 8)) []) (zs 0<|zs 1<|zn 1<|zs 9 [])<|
 .cond 3 (zq (zi (.cs .v (.n (-1))) []) (zn 2<|zs 4<|zn 1 [])<|
 .ret) .skip)<|
 zq (zp 2<|zi (.bi .mul (.e 0) (.e 1))<|zp 1<|zi (.ca 25 [.e 4,.e 1] 1)<|zp 1<|zi (.bi .sub (.e 0) (.c (.n 1)))<|zp 1<|zi (.bi .mul (.e 6) (.e 1))<|zi (.bi .add (.e 7) (.c (.n 1)))<|zi (.bi .quo (.e 5) (.e 8))<|zp 1 []) (zn 2<|zs 9<|zn 1 [])<|
 .ret⟩
end Go.Cat
namespace Go.Cat
def ir_impl_CountLine:IF:=⟨[],1,4,[1],zq (zi (.cs .v (.s [])) []) (zs 0<|zn 3 [])<|
 .seq (zq (zp 1<|zi (.ca 23 [.e 0,.c (.n 0),.c (.n 5)] 1)<|zi (.un .not (.e 4)) []) (zs 0<|zn 2<|zs 5 [])<|
 .cond 3 (zq (zi (.cs .v (.s [])) []) (zn 1<|zs 4<|zn 2 [])<|
 .ret) .skip)<|
 zq (zp 1<|zi (.ca 493 [.e 0] 2)<|zp 5 []) (zs 0<|zn 1<|zs 4<|zn 1 [])<|
 zq (zp 1<|zi (.ca 143 [.e 0] 1)<|zp 1<|zi (.ca 28 [.e 0] 1)<|zi (.ca 143 [.e 5] 1)<|zp 1<|zi (.ca 256 [.e 0] 1)<|zi (.ca 143 [.e 7] 1)<|zp 1<|zi (.ca 494 [.e 0] 1)<|zi (.ca 143 [.e 9] 1)<|zp 1<|zi (.ca 495 [.c (.n 3),.e 0] 1)<|zi (.ca 143 [.e 11] 1)<|zp 1<|zi (.ca 496 [.e 0] 1)<|zi (.ca 143 [.e 13] 1)<|zp 1<|zi (.ca 497 [.e 0] 1)<|zi (.ca 143 [.e 15] 1)<|zp 1<|zi (.ca 142 [.e 2] 1)<|zi (.li (.o .v) [.c (.s [115,105,122,101]),.e 4,.c (.s [99,97,116,97,108,97,110]),.e 6,.c (.s [109,111,116,122,107,105,110]),.e 8,.c (.s [115,99,104,114,111,101,100,101,114]),.e 10,.c (.s [116,101,114,110,97,114,121]),.e 12,.c (.s [112,97,114,107,105,110,103]),.e 14,.c (.s [105,110,116,101,114,118,97,108,115]),.e 16,.c (.s [108,111,111,112,115]),.e 17])<|zi (.ca 141 [.e 18] 1)<|zp 1 []) (zn 1<|zs 19<|zn 2 [])<|
 .ret⟩
def ir_impl_line:IF:=⟨[],1,2,[1],zq (zi (.cs .v (.s [])) []) (zs 0<|zn 1 [])<|
 zq (zp 1<|zi (.ca 184 [.e 0,.c (.s [32])] 1)<|zp 1 []) (zn 1<|zs 2 [])<|
 .ret⟩
def ir_impl_list:IF:=⟨[],1,9,[1],zq (zi (.cs .v (.s [])) []) (zs 0<|zn 8 [])<|
 .seq (zq (zp 1<|zi (.ln (.e 0) [])<|zi (.bi .eql (.e 9) (.c (.n 0))) []) (zs 0<|zn 3<|zs 10<|zn 4 [])<|
 .cond 4 (zq (zi (.cs .v (.s [110,111,110,101])) []) (zn 1<|zs 9<|zn 7 [])<|
 .ret) .skip)<|
 zq (zi (.li (.o .v) [])<|zp 1 []) (zs 0<|zn 1<|zs 9<|zn 6 [])<|
 .seq (zq (zp 1<|zi (.ln (.e 0) [])<|zi (.cs .v (.n 0)) []) (zn 2<|zs 2<|zn 2<|zs 0<|zs 9<|zs 10<|zn 1 [])<|
 .block 0<|.loop<|zq (zi (.bi .lss (.e 7) (.e 6)) []) (zn 2<|zs 2<|zn 2<|zs 5<|zs 6<|zs 7<|zs 9 [])<|
 .seq (.cond 8 .skip (.exit 0))<|
 .seq (.block 1<|zq (zi (.iy (.e 5) (.e 7))<|zp 2 []) (zn 2<|zs 2<|zs 9<|zn 1<|zs 5<|zs 6<|zs 7<|zn 1 [])<|
 .reg (zp 2<|zi (.ca 143 [.e 3] 1)<|zi (.li (.o .v) [.e 9])<|zi (.ap false (.e 2) (.e 10))<|zp 1 []) (zn 2<|zs 11<|zn 2<|zs 5<|zs 6<|zs 7<|zn 1 []))<|
 .reg (zi (.bi .add (.e 7) (.c (.n 1)))<|zp 1 []) (zn 2<|zs 2<|zn 2<|zs 5<|zs 6<|zs 9<|zn 1 []))<|
 zq (zp 1<|zi (.ca 184 [.e 2,.c (.s [44])] 1)<|zp 1 []) (zn 1<|zs 9<|zn 7 [])<|
 .ret⟩
end Go.Cat
namespace Go.Cat
def ir_laws_FnExactCountLine:IF:=⟨[],1,5,[1],zq (zi (.cs .v (.b false)) []) (zs 0<|zn 4 [])<|
 zq (zp 1<|zi (.ca 455 [.e 0] 1)<|zp 1 []) (zs 0<|zn 1<|zs 5<|zn 2 [])<|
 zq (zp 1<|zi (.ca 456 [.e 0] 1)<|zp 1 []) (zn 2<|zs 2<|zs 5<|zn 1 [])<|
 .seq (zq (zp 2<|zi (.bi .neq (.e 3) (.e 2)) []) (zn 4<|zs 5 [])<|
 .cond 4 (zq (zi (.cs .v (.b false)) []) (zn 1<|zs 5<|zn 3 [])<|
 .ret) .skip)<|
 zq (zi (.cs .v (.b true)) []) (zn 1<|zs 5<|zn 3 [])<|
 .ret⟩
end Go.Cat
namespace Go.Cat
def ir_spec_CatalanNumber:IF:=⟨[],1,3,[1],zq (zi (.cs .v (.n 0)) []) (zs 0<|zn 2 [])<|
 .seq (zq (zp 1<|zi (.ca 22 [.e 0,.c (.n 0),.c (.n 15)] 1)<|zi (.un .not (.e 3)) []) (zs 0<|zn 1<|zs 4 [])<|
 .cond 2 (zq (zi (.cs .v (.n (-1))) []) (zn 1<|zs 3<|zn 1 [])<|
 .ret) .skip)<|
 zq (zp 2<|zi (.ca 84 [.e 0,.e 0] 1)<|zp 1 []) (zn 1<|zs 3<|zn 1 [])<|
 .ret⟩
def ir_spec_PathsOf:IF:=⟨[],1,3,[1],zq (zi (.cs (.o .v) (.l [])) []) (zs 0<|zn 2 [])<|
 .seq (zq (zp 1<|zi (.ca 22 [.e 0,.c (.n 0),.c (.n 6)] 1)<|zi (.un .not (.e 3)) []) (zs 0<|zn 1<|zs 4 [])<|
 .cond 2 (zq (zi (.li (.o .v) [])<|zp 1 []) (zn 1<|zs 3<|zn 1 [])<|
 .ret) .skip)<|
 zq (zp 2<|zi (.ca 292 [.c (.s []),.e 0,.e 0] 1)<|zp 1 []) (zn 1<|zs 3<|zn 1 [])<|
 .ret⟩
def ir_spec_l3All:IF:=⟨[],3,8,[3],zq (zi (.cs (.o .v) (.l [])) []) (zs 0<|zs 1<|zs 2<|zn 5 [])<|
 .seq (zq (zp 1<|zi (.bi .eql (.e 2) (.c (.n 0))) []) (zs 0<|zs 1<|zs 2<|zn 2<|zs 8<|zn 2 [])<|
 .cond 5 (zq (zp 1<|zi (.li (.o .v) [.e 0])<|zp 1 []) (zn 3<|zs 8<|zn 4 [])<|
 .ret) .skip)<|
 zq (zi (.li (.o .v) [])<|zp 1 []) (zs 0<|zs 1<|zs 2<|zn 1<|zs 8<|zn 3 [])<|
 .seq (zq (zp 1<|zi (.bi .gtr (.e 1) (.c (.n 0))) []) (zs 0<|zs 1<|zs 2<|zn 1<|zs 4<|zn 1<|zs 8<|zn 1 [])<|
 .cond 6 (.reg (zp 2<|zi (.bi .add (.e 0) (.c (.s [117])))<|zp 1<|zi (.bi .sub (.e 1) (.c (.n 1)))<|zp 1<|zi (.ca 292 [.e 8,.e 9,.e 2] 1)<|zi (.ap false (.e 4) (.e 10))<|zp 1 []) (zs 0<|zs 1<|zs 2<|zn 1<|zs 11<|zn 3 [])) .skip)<|
 .seq (zq (zp 2<|zi (.bi .gtr (.e 2) (.e 1)) []) (zs 0<|zs 1<|zs 2<|zn 1<|zs 4<|zn 2<|zs 8 [])<|
 .cond 7 (.reg (zp 2<|zi (.bi .add (.e 0) (.c (.s [100])))<|zp 2<|zi (.bi .sub (.e 2) (.c (.n 1)))<|zi (.ca 292 [.e 8,.e 1,.e 9] 1)<|zi (.ap false (.e 4) (.e 10))<|zp 1 []) (zn 4<|zs 11<|zn 3 [])) .skip)<|
 zq (zp 2 []) (zn 3<|zs 4<|zn 4 [])<|
 .ret⟩
def ir_spec_l3Binomial:IF:=⟨[],2,6,[2],zq (zi (.cs .v (.n 0)) []) (zs 0<|zs 1<|zn 4 [])<|
 zq (zi (.cs .v (.n 1)) []) (zs 0<|zs 1<|zn 1<|zs 6<|zn 2 [])<|
 .seq (zq (zi (.cs .v (.n 0)) []) (zs 0<|zs 1<|zn 1<|zs 3<|zs 6<|zn 1 [])<|
 .block 0<|.loop<|.seq (zq (zp 2<|zi (.bi .lss (.e 4) (.e 1)) []) (zs 0<|zs 1<|zn 1<|zs 3<|zs 4<|zs 6 [])<|
 .cond 5 .skip (.exit 0))<|
 .seq (.block 1<|.reg (zp 3<|zi (.bi .sub (.e 0) (.e 4))<|zi (.bi .mul (.e 3) (.e 6))<|zp 1<|zi (.bi .add (.e 4) (.c (.n 1)))<|zi (.bi .quo (.e 7) (.e 8))<|zp 1 []) (zs 0<|zs 1<|zn 1<|zs 9<|zs 4<|zn 1 []))<|
 .reg (zp 1<|zi (.bi .add (.e 4) (.c (.n 1)))<|zp 1 []) (zs 0<|zs 1<|zn 1<|zs 3<|zs 6<|zn 1 []))<|
 zq (zp 2 []) (zn 2<|zs 3<|zn 3 [])<|
 .ret⟩
def ir_spec_l3Ways:IF:=⟨[],2,10,[2],zq (zi (.cs .v (.n 0)) []) (zs 0<|zs 1<|zn 8 [])<|
 zq (zi (.li (.o (.o .v)) [])<|zp 1 []) (zs 0<|zs 1<|zn 1<|zs 10<|zn 6 [])<|
 .seq (zq (zi (.cs .v (.n 0)) []) (zs 0<|zs 1<|zn 1<|zs 3<|zs 10<|zn 5 [])<|
 .block 0<|.loop<|.seq (zq (zp 2<|zi (.bi .leq (.e 4) (.e 0)) []) (zs 0<|zs 1<|zn 1<|zs 3<|zs 4<|zn 1<|zs 10<|zn 3 [])<|
 .cond 6 .skip (.exit 0))<|
 .seq (.block 1<|zq (zp 2<|zi (.bi .add (.e 1) (.c (.n 1)))<|zi (.mk (.n 0) (.e 10) (.e 10))<|zi (.li (.o (.o .v)) [.e 11])<|zi (.ap false (.e 3) (.e 12))<|zp 1 []) (zs 0<|zs 1<|zn 1<|zs 13<|zs 4<|zn 5 [])<|
 zq (zp 2 []) (zs 0<|zs 1<|zn 1<|zs 3<|zs 4<|zs 4<|zn 4 [])<|
 .block 2<|.loop<|.seq (zq (zp 2<|zi (.bi .leq (.e 5) (.e 1)) []) (zs 0<|zs 1<|zn 1<|zs 3<|zs 4<|zs 5<|zn 1<|zs 10<|zn 2 [])<|
 .cond 7 .skip (.exit 2))<|
 .seq (.block 3<|.block 4<|zq (zp 1<|zi (.bi .eql (.e 4) (.c (.n 0)))<|zp 1 []) (zs 0<|zs 1<|zn 1<|zs 3<|zs 4<|zs 5<|zn 2<|zs 10<|zn 1 [])<|
 .cond 8 (.reg (zp 2<|zi (.ix (.e 3) [] (.e 4))<|zp 2<|zi (.ix (.e 3) [.e 4] (.e 5))<|zi (.up 3 [.e 4,.e 5] (.c (.n 1))) []) (zs 0<|zs 1<|zn 1<|zs 12<|zs 4<|zs 5<|zn 4 [])) (zq (zp 2<|zi (.bi .eql (.e 5) (.e 4))<|zp 1 []) (zs 0<|zs 1<|zn 1<|zs 3<|zs 4<|zs 5<|zn 3<|zs 10 [])<|
 .cond 9 (.reg (zp 2<|zi (.ix (.e 3) [] (.e 4))<|zp 4<|zi (.bi .sub (.e 4) (.c (.n 1)))<|zi (.ix (.e 3) [] (.e 11))<|zp 2<|zi (.ix (.e 3) [.e 11] (.e 5))<|zp 1<|zi (.ix (.e 3) [.e 4] (.e 5))<|zi (.up 3 [.e 4,.e 5] (.e 13)) []) (zs 0<|zs 1<|zn 1<|zs 15<|zs 4<|zs 5<|zn 4 [])) (.reg (zp 2<|zi (.ix (.e 3) [] (.e 4))<|zp 4<|zi (.bi .sub (.e 4) (.c (.n 1)))<|zi (.ix (.e 3) [] (.e 11))<|zp 2<|zi (.ix (.e 3) [.e 11] (.e 5))<|zp 3<|zi (.ix (.e 3) [] (.e 4))<|zp 2<|zi (.bi .sub (.e 5) (.c (.n 1)))<|zi (.ix (.e 3) [.e 4] (.e 15))<|zp 1<|zi (.bi .add (.e 13) (.e 16))<|zi (.ix (.e 3) [.e 4] (.e 5))<|zi (.up 3 [.e 4,.e 5] (.e 17)) []) (zs 0<|zs 1<|zn 1<|zs 19<|zs 4<|zs 5<|zn 4 []))))<|
 .reg (zp 1<|zi (.bi .add (.e 5) (.c (.n 1)))<|zp 1 []) (zs 0<|zs 1<|zn 1<|zs 3<|zs 4<|zs 10<|zn 4 []))<|
 .reg (zp 1<|zi (.bi .add (.e 4) (.c (.n 1)))<|zp 1 []) (zs 0<|zs 1<|zn 1<|zs 3<|zs 10<|zn 5 []))<|
 zq (zp 2<|zi (.ix (.e 3) [] (.e 0))<|zp 2<|zi (.ix (.e 3) [.e 0] (.e 1))<|zp 2 []) (zn 2<|zs 11<|zn 7 [])<|
 .ret⟩
end Go.Cat
namespace Go.Cat
def ir_spec_CountParking:IF:=⟨[],1,6,[1],zq (zi (.cs .v (.n 0)) []) (zs 0<|zn 5 [])<|
 .seq (zq (zp 1<|zi (.ca 22 [.e 0,.c (.n 0),.c (.n 6)] 1)<|zi (.un .not (.e 6)) []) (zs 0<|zn 3<|zs 7<|zn 1 [])<|
 .cond 4 (zq (zi (.cs .v (.n (-1))) []) (zn 1<|zs 6<|zn 4 [])<|
 .ret) .skip)<|
 zq (zi (.cs .v (.n 1)) []) (zs 0<|zn 1<|zs 6<|zn 3 [])<|
 .seq (zq (zi (.cs .v (.n 1)) []) (zs 0<|zn 1<|zs 2<|zs 6<|zn 2 [])<|
 .block 0<|.loop<|.seq (zq (zp 2<|zi (.bi .lss (.e 3) (.e 0)) []) (zs 0<|zn 1<|zs 2<|zs 3<|zn 1<|zs 6 [])<|
 .cond 5 .skip (.exit 0))<|
 .seq (.block 1<|.reg (zp 2<|zi (.bi .add (.e 0) (.c (.n 1)))<|zi (.bi .mul (.e 2) (.e 6))<|zp 1 []) (zs 0<|zn 1<|zs 7<|zs 3<|zn 2 []))<|
 .reg (zp 1<|zi (.bi .add (.e 3) (.c (.n 1)))<|zp 1 []) (zs 0<|zn 1<|zs 2<|zs 6<|zn 2 []))<|
 zq (zp 2 []) (zn 1<|zs 2<|zn 4 [])<|
 .ret⟩
end Go.Cat
namespace Go.Cat
def ir_spec_NeighboursOf:IF:=⟨[],1,13,[1],zq (zi (.cs (.o .v) (.l [])) []) (zs 0<|zn 12 [])<|
 zq (zi (.li (.o .v) [])<|zp 1 []) (zs 0<|zn 1<|zs 13<|zn 10 [])<|
 .seq (zq (zi (.cs .v (.n 0)) []) (zs 0<|zn 1<|zs 2<|zs 13<|zn 9 [])<|
 .block 0<|.loop<|.seq (zq (zp 2<|zi (.ca 162 [.e 0] 1)<|zi (.bi .lss (.e 3) (.e 13)) []) (zs 0<|zn 1<|zs 2<|zs 3<|zn 5<|zs 14<|zn 3 [])<|
 .cond 9 .skip (.exit 0))<|
 .seq (.block 1<|zq (zp 2<|zi (.ca 192 [.e 0,.e 3] 2)<|zp 5 []) (zs 0<|zn 1<|zs 2<|zs 3<|zs 13<|zs 14<|zn 7 [])<|
 zq (zp 1 []) (zs 0<|zn 1<|zs 2<|zs 3<|zs 4<|zn 5<|zs 5<|zn 2 [])<|
 .cond 10 (.reg (zp 2<|zi (.li (.o .v) [.e 4])<|zi (.ap false (.e 2) (.e 13))<|zp 1 []) (zs 0<|zn 1<|zs 14<|zs 3<|zn 9 [])) .skip)<|
 .reg (zp 1<|zi (.bi .add (.e 3) (.c (.n 1)))<|zp 1 []) (zs 0<|zn 1<|zs 2<|zs 13<|zn 9 []))<|
 .seq (zq (zi (.cs .v (.n 0)) []) (zs 0<|zn 1<|zs 2<|zn 3<|zs 13<|zn 6 [])<|
 .block 2<|.loop<|.seq (zq (zp 2<|zi (.ca 162 [.e 0] 1)<|zi (.bi .lss (.e 6) (.e 13)) []) (zs 0<|zn 1<|zs 2<|zn 3<|zs 6<|zn 4<|zs 14<|zn 1 [])<|
 .cond 11 .skip (.exit 2))<|
 .seq (.block 3<|zq (zp 2<|zi (.ca 193 [.e 0,.e 6] 2)<|zp 5 []) (zs 0<|zn 1<|zs 2<|zn 3<|zs 6<|zs 13<|zs 14<|zn 4 [])<|
 zq (zp 1 []) (zs 0<|zn 1<|zs 2<|zn 3<|zs 6<|zs 7<|zn 4<|zs 8 [])<|
 .cond 12 (.reg (zp 2<|zi (.li (.o .v) [.e 7])<|zi (.ap false (.e 2) (.e 13))<|zp 1 []) (zs 0<|zn 1<|zs 14<|zn 3<|zs 6<|zn 6 [])) .skip)<|
 .reg (zp 1<|zi (.bi .add (.e 6) (.c (.n 1)))<|zp 1 []) (zs 0<|zn 1<|zs 2<|zn 3<|zs 13<|zn 6 []))<|
 zq (zp 2 []) (zn 1<|zs 2<|zn 11 [])<|
 .ret⟩
def ir_spec_RotateLeft:IF:=⟨[],2,11,[2,3],zq (zi (.cs .v (.s []))<|zi (.cs .v (.b false)) []) (zs 0<|zs 1<|zn 9 [])<|
 .seq (zq (zp 2<|zi (.ca 162 [.e 0] 1)<|zi (.bi .sub (.e 11) (.c (.n 1)))<|zi (.ca 22 [.e 1,.c (.n 0),.e 12] 1)<|zi (.un .not (.e 13)) []) (zs 0<|zs 1<|zn 7<|zs 14<|zn 1 [])<|
 .cond 9 (zq (zi (.cs .v (.s []))<|zi (.cs .v (.b false)) []) (zn 2<|zs 11<|zs 12<|zn 7 [])<|
 .ret) .skip)<|
 zq (zp 2<|zi (.ca 191 [.e 0,.e 1] 1)<|zp 1 []) (zs 0<|zs 1<|zn 2<|zs 11<|zn 6 [])<|
 zq (zp 1<|zi (.ca 188 [.e 4,.c (.n 1)] 1)<|zp 1 []) (zs 0<|zs 1<|zn 2<|zs 4<|zs 11<|zn 5 [])<|
 zq (zp 3<|zi (.sn (.e 4))<|zi (.bi .sub (.e 11) (.c (.n 1)))<|zi (.ss (.e 4) (some (.e 5)) (some (.e 12)))<|zp 1 []) (zs 0<|zs 1<|zn 2<|zs 4<|zs 5<|zs 13<|zn 4 [])<|
 .seq (zq (zp 1<|zi (.bi .eql (.e 6) (.c (.s [46]))) []) (zs 0<|zs 1<|zn 2<|zs 4<|zs 5<|zs 6<|zn 3<|zs 11 [])<|
 .cond 10 (zq (zi (.cs .v (.s []))<|zi (.cs .v (.b false)) []) (zn 2<|zs 11<|zs 12<|zn 7 [])<|
 .ret) .skip)<|
 zq (zp 1<|zi (.ca 188 [.e 6,.c (.n 1)] 1)<|zp 1 []) (zs 0<|zs 1<|zn 2<|zs 4<|zs 5<|zs 6<|zs 11<|zn 3 [])<|
 zq (zp 2<|zi (.ss (.e 4) (some (.c (.n 1))) (some (.e 5)))<|zi (.bi .add (.c (.s [40,40])) (.e 11))<|zp 2<|zi (.ss (.e 6) (some (.c (.n 1))) (some (.e 7)))<|zi (.bi .add (.e 12) (.e 13))<|zi (.bi .add (.e 14) (.c (.s [41])))<|zp 3<|zi (.sn (.e 6))<|zi (.bi .sub (.e 16) (.c (.n 1)))<|zi (.ss (.e 6) (some (.e 7)) (some (.e 17)))<|zi (.bi .add (.e 15) (.e 18))<|zi (.bi .add (.e 19) (.c (.s [41])))<|zp 1 []) (zs 0<|zs 1<|zn 6<|zs 20<|zn 2 [])<|
 zq (zp 3<|zi (.ca 207 [.e 0,.e 1,.e 8] 1)<|zp 1<|zi (.cs .v (.b true)) []) (zn 2<|zs 11<|zs 12<|zn 7 [])<|
 .ret⟩
def ir_spec_RotateRight:IF:=⟨[],2,11,[2,3],zq (zi (.cs .v (.s []))<|zi (.cs .v (.b false)) []) (zs 0<|zs 1<|zn 9 [])<|
 .seq (zq (zp 2<|zi (.ca 162 [.e 0] 1)<|zi (.bi .sub (.e 11) (.c (.n 1)))<|zi (.ca 22 [.e 1,.c (.n 0),.e 12] 1)<|zi (.un .not (.e 13)) []) (zs 0<|zs 1<|zn 7<|zs 14<|zn 1 [])<|
 .cond 9 (zq (zi (.cs .v (.s []))<|zi (.cs .v (.b false)) []) (zn 2<|zs 11<|zs 12<|zn 7 [])<|
 .ret) .skip)<|
 zq (zp 2<|zi (.ca 191 [.e 0,.e 1] 1)<|zp 1 []) (zs 0<|zs 1<|zn 2<|zs 11<|zn 6 [])<|
 zq (zp 1<|zi (.ca 188 [.e 4,.c (.n 1)] 1)<|zp 1 []) (zs 0<|zs 1<|zn 2<|zs 4<|zs 11<|zn 5 [])<|
 zq (zp 2<|zi (.ss (.e 4) (some (.c (.n 1))) (some (.e 5)))<|zp 1 []) (zs 0<|zs 1<|zn 2<|zs 4<|zs 5<|zs 11<|zn 4 [])<|
 .seq (zq (zp 1<|zi (.bi .eql (.e 6) (.c (.s [46]))) []) (zs 0<|zs 1<|zn 2<|zs 4<|zs 5<|zs 6<|zn 3<|zs 11 [])<|
 .cond 10 (zq (zi (.cs .v (.s []))<|zi (.cs .v (.b false)) []) (zn 2<|zs 11<|zs 12<|zn 7 [])<|
 .ret) .skip)<|
 zq (zp 1<|zi (.ca 188 [.e 6,.c (.n 1)] 1)<|zp 1 []) (zs 0<|zs 1<|zn 2<|zs 4<|zs 5<|zs 6<|zs 11<|zn 3 [])<|
 zq (zp 2<|zi (.ss (.e 6) (some (.c (.n 1))) (some (.e 7)))<|zi (.bi .add (.c (.s [40])) (.e 11))<|zi (.bi .add (.e 12) (.c (.s [40])))<|zp 3<|zi (.sn (.e 6))<|zi (.bi .sub (.e 14) (.c (.n 1)))<|zi (.ss (.e 6) (some (.e 7)) (some (.e 15)))<|zi (.bi .add (.e 13) (.e 16))<|zp 3<|zi (.sn (.e 4))<|zi (.bi .sub (.e 18) (.c (.n 1)))<|zi (.ss (.e 4) (some (.e 5)) (some (.e 19)))<|zi (.bi .add (.e 17) (.e 20))<|zi (.bi .add (.e 21) (.c (.s [41,41])))<|zp 1 []) (zs 0<|zs 1<|zn 6<|zs 22<|zn 2 [])<|
 zq (zp 3<|zi (.ca 207 [.e 0,.e 1,.e 8] 1)<|zp 1<|zi (.cs .v (.b true)) []) (zn 2<|zs 11<|zs 12<|zn 7 [])<|
 .ret⟩
def ir_spec_WeightsOf:IF:=⟨[],1,7,[1],zq (zi (.cs (.o .v) (.l [])) []) (zs 0<|zn 6 [])<|
 zq (zi (.li (.o .v) [])<|zp 1 []) (zs 0<|zn 1<|zs 7<|zn 4 [])<|
 .seq (zq (zi (.cs .v (.n 0)) []) (zs 0<|zn 1<|zs 2<|zs 7<|zn 3 [])<|
 .block 0<|.loop<|.seq (zq (zp 2<|zi (.ca 162 [.e 0] 1)<|zi (.bi .lss (.e 3) (.e 7)) []) (zs 0<|zn 1<|zs 2<|zs 3<|zn 2<|zs 8 [])<|
 .cond 6 .skip (.exit 0))<|
 .seq (.block 1<|zq (zp 2<|zi (.ca 191 [.e 0,.e 3] 1)<|zp 1 []) (zs 0<|zn 1<|zs 2<|zs 3<|zs 7<|zn 2 [])<|
 zq (zp 1<|zi (.ca 188 [.e 4,.c (.n 1)] 1)<|zp 1 []) (zs 0<|zn 1<|zs 2<|zs 3<|zs 4<|zs 7<|zn 1 [])<|
 .reg (zp 2<|zi (.sn (.e 4))<|zi (.bi .sub (.e 7) (.c (.n 1)))<|zp 1<|zi (.bi .sub (.e 8) (.e 5))<|zi (.bi .sub (.e 9) (.c (.n 1)))<|zi (.bi .quo (.e 10) (.c (.n 3)))<|zi (.li (.o .v) [.e 11])<|zi (.ap false (.e 2) (.e 12))<|zp 1 []) (zs 0<|zn 1<|zs 13<|zs 3<|zn 3 []))<|
 .reg (zp 1<|zi (.bi .add (.e 3) (.c (.n 1)))<|zp 1 []) (zs 0<|zn 1<|zs 2<|zs 7<|zn 3 []))<|
 zq (zp 2 []) (zn 1<|zs 2<|zn 5 [])<|
 .ret⟩
def ir_spec_l16Node:IF:=⟨[],2,8,[2],zq (zi (.cs .v (.s [])) []) (zs 0<|zs 1<|zn 6 [])<|
 zq (zp 1<|zi (.ca 188 [.e 0,.c (.n 1)] 1)<|zp 1 []) (zs 0<|zs 1<|zn 1<|zs 8<|zn 4 [])<|
 zq (zp 2<|zi (.ss (.e 0) (some (.c (.n 1))) (some (.e 3)))<|zp 1 []) (zs 0<|zs 1<|zn 1<|zs 3<|zs 8<|zn 3 [])<|
 zq (zp 1<|zi (.sn (.e 4))<|zi (.bi .sub (.e 8) (.c (.n 1)))<|zi (.bi .quo (.e 9) (.c (.n 3)))<|zp 1 []) (zs 0<|zs 1<|zn 1<|zs 3<|zs 4<|zs 10<|zn 2 [])<|
 .seq (.block 0<|zq (zp 2<|zi (.bi .lss (.e 1) (.e 5))<|zp 1 []) (zs 0<|zs 1<|zn 1<|zs 3<|zs 4<|zs 5<|zs 8<|zn 1 [])<|
 .cond 6 (zq (zp 2<|zi (.ca 191 [.e 4,.e 1] 1)<|zp 1 []) (zn 2<|zs 8<|zn 5 [])<|
 .ret) (zq (zp 2<|zi (.bi .gtr (.e 1) (.e 5))<|zp 1 []) (zs 0<|zs 1<|zn 1<|zs 3<|zn 1<|zs 5<|zn 1<|zs 8 [])<|
 .cond 7 (zq (zp 3<|zi (.sn (.e 0))<|zi (.bi .sub (.e 8) (.c (.n 1)))<|zi (.ss (.e 0) (some (.e 3)) (some (.e 9)))<|zp 2<|zi (.bi .sub (.e 1) (.e 5))<|zi (.bi .sub (.e 11) (.c (.n 1)))<|zi (.ca 191 [.e 10,.e 12] 1)<|zp 1 []) (zn 2<|zs 13<|zn 5 [])<|
 .ret) .skip))<|
 zq (zp 2 []) (zn 2<|zs 0<|zn 5 [])<|
 .ret⟩
def ir_spec_l16Replace:IF:=⟨[],3,10,[3],zq (zi (.cs .v (.s [])) []) (zs 0<|zs 1<|zs 2<|zn 7 [])<|
 zq (zp 1<|zi (.ca 188 [.e 0,.c (.n 1)] 1)<|zp 1 []) (zs 0<|zs 1<|zs 2<|zn 1<|zs 10<|zn 5 [])<|
 zq (zp 2<|zi (.ss (.e 0) (some (.c (.n 1))) (some (.e 4)))<|zp 1 []) (zs 0<|zs 1<|zs 2<|zn 1<|zs 4<|zs 10<|zn 4 [])<|
 zq (zp 3<|zi (.sn (.e 0))<|zi (.bi .sub (.e 10) (.c (.n 1)))<|zi (.ss (.e 0) (some (.e 4)) (some (.e 11)))<|zp 1 []) (zn 1<|zs 1<|zs 2<|zn 2<|zs 5<|zs 12<|zn 3 [])<|
 zq (zp 1<|zi (.sn (.e 5))<|zi (.bi .sub (.e 10) (.c (.n 1)))<|zi (.bi .quo (.e 11) (.c (.n 3)))<|zp 1 []) (zn 1<|zs 1<|zs 2<|zn 2<|zs 5<|zs 6<|zs 12<|zn 2 [])<|
 .seq (.block 0<|zq (zp 2<|zi (.bi .lss (.e 1) (.e 7))<|zp 1 []) (zn 1<|zs 1<|zs 2<|zn 2<|zs 5<|zs 6<|zs 7<|zs 10<|zn 1 [])<|
 .cond 8 (zq (zp 3<|zi (.ca 207 [.e 5,.e 1,.e 2] 1)<|zi (.bi .add (.c (.s [40])) (.e 10))<|zp 1<|zi (.bi .add (.e 11) (.e 6))<|zi (.bi .add (.e 12) (.c (.s [41])))<|zp 1 []) (zn 3<|zs 13<|zn 6 [])<|
 .ret) (zq (zp 2<|zi (.bi .gtr (.e 1) (.e 7))<|zp 1 []) (zn 1<|zs 1<|zs 2<|zn 2<|zs 5<|zs 6<|zs 7<|zn 1<|zs 10 [])<|
 .cond 9 (zq (zp 1<|zi (.bi .add (.c (.s [40])) (.e 5))<|zp 3<|zi (.bi .sub (.e 1) (.e 7))<|zi (.bi .sub (.e 11) (.c (.n 1)))<|zp 1<|zi (.ca 207 [.e 6,.e 12,.e 2] 1)<|zi (.bi .add (.e 10) (.e 13))<|zi (.bi .add (.e 14) (.c (.s [41])))<|zp 1 []) (zn 3<|zs 15<|zn 6 [])<|
 .ret) .skip))<|
 zq (zp 2 []) (zn 3<|zs 2<|zn 6 [])<|
 .ret⟩
end Go.Cat
namespace Go.Cat
def ir_spec_CountIntervals:IF:=⟨[],1,10,[1],zq (zi (.cs .v (.n 0)) []) (zs 0<|zn 9 [])<|
 .seq (zq (zp 1<|zi (.ca 22 [.e 0,.c (.n 0),.c (.n 5)] 1)<|zi (.un .not (.e 10)) []) (zs 0<|zn 5<|zs 11<|zn 3 [])<|
 .cond 6 (zq (zi (.cs .v (.n (-1))) []) (zn 1<|zs 10<|zn 8 [])<|
 .ret) .skip)<|
 zq (zp 1<|zi (.ca 504 [.e 0] 1)<|zp 1 []) (zn 2<|zs 10<|zn 7 [])<|
 zq (zi (.cs .v (.n 0)) []) (zn 2<|zs 2<|zs 10<|zn 6 [])<|
 .seq (zq (zi (.cs .v (.n 0)) []) (zn 2<|zs 2<|zs 3<|zs 10<|zn 5 [])<|
 .block 0<|.loop<|.seq (zq (zp 2<|zi (.ln (.e 2) [])<|zi (.bi .lss (.e 4) (.e 10)) []) (zn 2<|zs 2<|zs 3<|zs 4<|zn 2<|zs 11<|zn 2 [])<|
 .cond 7 .skip (.exit 0))<|
 .seq (.block 1<|zq (zi (.cs .v (.n 0)) []) (zn 2<|zs 2<|zs 3<|zs 4<|zs 10<|zn 4 [])<|
 .block 2<|.loop<|.seq (zq (zp 2<|zi (.ln (.e 2) [])<|zi (.bi .lss (.e 5) (.e 10)) []) (zn 2<|zs 2<|zs 3<|zs 4<|zs 5<|zn 2<|zs 11<|zn 1 [])<|
 .cond 8 .skip (.exit 2))<|
 .seq (.block 3<|zq (zp 2<|zi (.ix (.e 2) [] (.e 4))<|zp 3<|zi (.ix (.e 2) [] (.e 5))<|zp 1<|zi (.ca 349 [.e 10,.e 11] 1) []) (zn 2<|zs 2<|zs 3<|zs 4<|zs 5<|zn 3<|zs 12 [])<|
 .cond 9 (.reg (zp 1<|zi (.bi .add (.e 3) (.c (.n 1)))<|zp 1 []) (zn 2<|zs 2<|zs 10<|zs 4<|zs 5<|zn 4 [])) .skip)<|
 .reg (zp 1<|zi (.bi .add (.e 5) (.c (.n 1)))<|zp 1 []) (zn 2<|zs 2<|zs 3<|zs 4<|zs 10<|zn 4 []))<|
 .reg (zp 1<|zi (.bi .add (.e 4) (.c (.n 1)))<|zp 1 []) (zn 2<|zs 2<|zs 3<|zs 10<|zn 5 []))<|
 zq (zp 2 []) (zn 1<|zs 3<|zn 8 [])<|
 .ret⟩
def ir_spec_IsTamariLess:IF:=⟨[],2,9,[2],zq (zi (.cs .v (.b false)) []) (zs 0<|zs 1<|zn 7 [])<|
 .seq (zq (zp 2<|zi (.ca 365 [.e 0,.e 1] 1)<|zi (.un .not (.e 9)) []) (zs 0<|zs 1<|zn 4<|zs 10<|zn 2 [])<|
 .cond 6 (zq (zi (.cs .v (.b false)) []) (zn 2<|zs 9<|zn 6 [])<|
 .ret) .skip)<|
 zq (zp 1<|zi (.ca 164 [.e 0] 1)<|zp 1 []) (zn 1<|zs 1<|zn 1<|zs 9<|zn 5 [])<|
 zq (zp 1<|zi (.ca 164 [.e 1] 1)<|zp 1 []) (zn 3<|zs 3<|zs 9<|zn 4 [])<|
 .seq (zq (zi (.cs .v (.n 0)) []) (zn 3<|zs 3<|zs 4<|zs 9<|zn 3 [])<|
 .block 0<|.loop<|.seq (zq (zp 2<|zi (.ln (.e 3) [])<|zi (.bi .lss (.e 5) (.e 9)) []) (zn 3<|zs 3<|zs 4<|zs 5<|zn 1<|zs 10<|zn 1 [])<|
 .cond 7 .skip (.exit 0))<|
 .seq (.block 1<|zq (zp 2<|zi (.ix (.e 3) [] (.e 5))<|zp 3<|zi (.ix (.e 4) [] (.e 5))<|zp 1<|zi (.bi .gtr (.e 9) (.e 10)) []) (zn 3<|zs 3<|zs 4<|zs 5<|zn 2<|zs 11 [])<|
 .cond 8 (zq (zi (.cs .v (.b false)) []) (zn 2<|zs 9<|zn 6 [])<|
 .ret) .skip)<|
 .reg (zp 1<|zi (.bi .add (.e 5) (.c (.n 1)))<|zp 1 []) (zn 3<|zs 3<|zs 4<|zs 9<|zn 3 []))<|
 zq (zi (.cs .v (.b true)) []) (zn 2<|zs 9<|zn 6 [])<|
 .ret⟩
def ir_spec_l17Fit:IF:=⟨[],2,3,[2],zq (zi (.cs .v (.b false)) []) (zs 0<|zs 1<|zn 1 [])<|
 zq (zp 1<|zi (.ca 160 [.e 0] 1)<|zp 1<|zg [(3,true)] (.cy (.e 1))<|zg [(3,true)] (.ca 160 [.e 4] 1)<|zi (.pk (.e 3) (.e 5) (.c (.b false)))<|zp 1<|zg [(6,true)] (.cy (.e 0))<|zg [(6,true)] (.sn (.e 7))<|zg [(6,true)] (.cy (.e 1))<|zg [(6,true)] (.sn (.e 9))<|zg [(6,true)] (.bi .eql (.e 8) (.e 10))<|zi (.pk (.e 6) (.e 11) (.c (.b false)))<|zp 1 []) (zn 2<|zs 12 [])<|
 .ret⟩
def ir_spec_l17Trees:IF:=⟨[],1,6,[1],zq (zi (.cs (.o .v) (.l [])) []) (zs 0<|zn 5 [])<|
 zq (zi (.li (.o .v) [])<|zp 1 []) (zs 0<|zn 1<|zs 6<|zn 3 [])<|
 zq (zp 1<|zi (.ca 234 [.e 0] 1)<|zp 1 []) (zn 2<|zs 2<|zs 6<|zn 2 [])<|
 .seq (zq (zi (.cs .v (.n 0)) []) (zn 2<|zs 2<|zs 3<|zs 6<|zn 1 [])<|
 .block 0<|.loop<|.seq (zq (zp 2<|zi (.ln (.e 3) [])<|zi (.bi .lss (.e 4) (.e 6)) []) (zn 2<|zs 2<|zs 3<|zs 4<|zs 7 [])<|
 .cond 5 .skip (.exit 0))<|
 .seq (.block 1<|.reg (zp 3<|zi (.ix (.e 3) [] (.e 4))<|zp 1<|zi (.ca 513 [.e 6] 1)<|zi (.li (.o .v) [.e 7])<|zi (.ap false (.e 2) (.e 8))<|zp 1 []) (zn 2<|zs 9<|zs 3<|zs 4<|zn 1 []))<|
 .reg (zp 1<|zi (.bi .add (.e 4) (.c (.n 1)))<|zp 1 []) (zn 2<|zs 2<|zs 3<|zs 6<|zn 1 []))<|
 zq (zp 2 []) (zn 1<|zs 2<|zn 4 [])<|
 .ret⟩
end Go.Cat
namespace Go.Cat
def ir_spec_LoopTable:IF:=⟨[],1,15,[1,2],zq (zi (.cs (.o .v) (.l []))<|zi (.cs .v (.b false)) []) (zs 0<|zn 14 [])<|
 .seq (zq (zp 1<|zi (.ca 22 [.e 0,.c (.n 0),.c (.n 5)] 1)<|zi (.un .not (.e 15)) []) (zs 0<|zn 10<|zs 16<|zn 3 [])<|
 .cond 11 (zq (zi (.li (.o .v) [])<|zp 1<|zi (.cs .v (.b false)) []) (zn 1<|zs 15<|zs 16<|zn 12 [])<|
 .ret) .skip)<|
 zq (zp 1<|zi (.ca 234 [.e 0] 1)<|zp 1 []) (zs 0<|zn 2<|zs 15<|zn 11 [])<|
 zq (zi (.li (.o .v) [])<|zp 1 []) (zs 0<|zn 2<|zs 3<|zs 15<|zn 10 [])<|
 .seq (zq (zi (.cs .v (.n 0)) []) (zs 0<|zn 2<|zs 3<|zs 4<|zs 15<|zn 9 [])<|
 .block 0<|.loop<|.seq (zq (zp 2<|zi (.ln (.e 3) [])<|zi (.bi .lss (.e 5) (.e 15)) []) (zs 0<|zn 2<|zs 3<|zs 4<|zs 5<|zn 6<|zs 16<|zn 2 [])<|
 .cond 12 .skip (.exit 0))<|
 .seq (.block 1<|zq (zp 2<|zi (.ix (.e 3) [] (.e 5))<|zp 1<|zi (.ca 356 [.e 15] 2)<|zp 5 []) (zs 0<|zn 2<|zs 3<|zs 4<|zs 5<|zs 16<|zn 8 [])<|
 .reg (zp 2<|zi (.li (.o .v) [.e 6])<|zi (.ap false (.e 4) (.e 15))<|zp 1 []) (zs 0<|zn 2<|zs 3<|zs 16<|zs 5<|zn 9 []))<|
 .reg (zp 1<|zi (.bi .add (.e 5) (.c (.n 1)))<|zp 1 []) (zs 0<|zn 2<|zs 3<|zs 4<|zs 15<|zn 9 []))<|
 zq (zp 1<|zi (.bi .add (.e 0) (.c (.n 1)))<|zi (.mk (.n 0) (.e 15) (.e 15))<|zp 1 []) (zn 4<|zs 4<|zn 2<|zs 16<|zn 7 [])<|
 .seq (zq (zi (.cs .v (.n 0)) []) (zn 4<|zs 4<|zn 2<|zs 7<|zs 15<|zn 6 [])<|
 .block 2<|.loop<|.seq (zq (zp 2<|zi (.ln (.e 4) [])<|zi (.bi .lss (.e 8) (.e 15)) []) (zn 4<|zs 4<|zn 2<|zs 7<|zs 8<|zn 4<|zs 16<|zn 1 [])<|
 .cond 13 .skip (.exit 2))<|
 .seq (.block 3<|zq (zi (.cs .v (.n 0)) []) (zn 4<|zs 4<|zn 2<|zs 7<|zs 8<|zs 15<|zn 5 [])<|
 .block 4<|.loop<|.seq (zq (zp 2<|zi (.ln (.e 4) [])<|zi (.bi .lss (.e 9) (.e 15)) []) (zn 4<|zs 4<|zn 2<|zs 7<|zs 8<|zs 9<|zn 4<|zs 16 [])<|
 .cond 14 .skip (.exit 4))<|
 .seq (.block 5<|zq (zp 2<|zi (.ix (.e 4) [] (.e 8))<|zp 3<|zi (.ix (.e 4) [] (.e 9))<|zp 1<|zi (.ca 371 [.e 15,.e 16] 1)<|zp 1 []) (zn 4<|zs 4<|zn 2<|zs 7<|zs 8<|zs 9<|zs 17<|zn 4 [])<|
 .reg (zp 4<|zi (.ix (.e 7) [] (.e 10))<|zp 1<|zi (.bi .add (.e 15) (.c (.n 1)))<|zi (.ix (.e 7) [] (.e 10))<|zi (.up 7 [.e 10] (.e 16)) []) (zn 4<|zs 4<|zn 2<|zs 18<|zs 8<|zs 9<|zn 5 []))<|
 .reg (zp 1<|zi (.bi .add (.e 9) (.c (.n 1)))<|zp 1 []) (zn 4<|zs 4<|zn 2<|zs 7<|zs 8<|zs 15<|zn 5 []))<|
 .reg (zp 1<|zi (.bi .add (.e 8) (.c (.n 1)))<|zp 1 []) (zn 4<|zs 4<|zn 2<|zs 7<|zs 15<|zn 6 []))<|
 zq (zp 2<|zi (.cs .v (.b true)) []) (zn 1<|zs 7<|zs 15<|zn 12 [])<|
 .ret⟩
def ir_spec_LoopsOf:IF:=⟨[],2,11,[2],zq (zi (.cs .v (.n 0)) []) (zs 0<|zs 1<|zn 9 [])<|
 .seq (zq (zp 1<|zi (.ca 355 [.e 0] 1)<|zi (.un .not (.e 11))<|zp 1<|zg [(12,false)] .nop<|zg [(12,false)] (.ca 355 [.e 1] 1)<|zg [(12,false)] (.un .not (.e 13))<|zi (.pk (.e 12) (.c (.b true)) (.e 14))<|zp 1<|zg [(15,false)] .nop<|zg [(15,false)] (.ln (.e 0) [])<|zg [(15,false)] .nop<|zg [(15,false)] (.ln (.e 1) [])<|zg [(15,false)] (.bi .neq (.e 16) (.e 17))<|zi (.pk (.e 15) (.c (.b true)) (.e 18)) []) (zs 0<|zs 1<|zn 5<|zs 19<|zn 3 [])<|
 .cond 7 (zq (zi (.cs .v (.n (-1))) []) (zn 2<|zs 11<|zn 8 [])<|
 .ret) .skip)<|
 zq (zp 1<|zi (.ln (.e 0) [])<|zi (.mk (.b false) (.e 11) (.e 11))<|zp 1 []) (zs 0<|zs 1<|zn 1<|zs 12<|zn 7 [])<|
 zq (zi (.cs .v (.n 0)) []) (zs 0<|zs 1<|zn 1<|zs 3<|zs 11<|zn 6 [])<|
 .seq (zq (zi (.cs .v (.n 0)) []) (zs 0<|zs 1<|zn 1<|zs 3<|zs 4<|zs 11<|zn 5 [])<|
 .block 0<|.loop<|.seq (zq (zp 2<|zi (.ln (.e 0) [])<|zi (.bi .lss (.e 5) (.e 11)) []) (zs 0<|zs 1<|zn 1<|zs 3<|zs 4<|zs 5<|zn 2<|zs 12<|zn 2 [])<|
 .cond 8 .skip (.exit 0))<|
 .seq (.block 1<|.seq (zq (zp 2<|zi (.ix (.e 3) [] (.e 5))<|zp 1 []) (zs 0<|zs 1<|zn 1<|zs 3<|zs 4<|zs 5<|zn 3<|zs 11<|zn 1 [])<|
 .cond 9 (.exit 1) .skip)<|
 zq (zp 1<|zi (.bi .add (.e 4) (.c (.n 1)))<|zp 1 []) (zs 0<|zs 1<|zn 1<|zs 3<|zs 11<|zs 5<|zn 5 [])<|
 zq (zp 2 []) (zs 0<|zs 1<|zn 1<|zs 3<|zs 4<|zs 5<|zs 5<|zn 4 [])<|
 .block 2<|.loop<|.seq (zq (zp 2<|zi (.ix (.e 3) [] (.e 6))<|zp 1<|zi (.un .not (.e 11)) []) (zs 0<|zs 1<|zn 1<|zs 3<|zs 4<|zs 5<|zs 6<|zn 3<|zs 12 [])<|
 .cond 10 .skip (.exit 2))<|
 .seq (.block 3<|zq (zp 2<|zi (.ix (.e 3) [] (.e 6))<|zi (.up 3 [.e 6] (.c (.b true))) []) (zs 0<|zs 1<|zn 1<|zs 12<|zs 4<|zs 5<|zs 6<|zn 4 [])<|
 .reg (zp 3<|zi (.iy (.e 0) (.e 6))<|zp 1<|zi (.ix (.e 3) [] (.e 11))<|zi (.up 3 [.e 11] (.c (.b true))) []) (zs 0<|zs 1<|zn 1<|zs 13<|zs 4<|zs 5<|zs 6<|zn 4 []))<|
 .reg (zp 3<|zi (.iy (.e 0) (.e 6))<|zp 1<|zi (.iy (.e 1) (.e 11))<|zp 2 []) (zs 0<|zs 1<|zn 1<|zs 3<|zs 4<|zs 5<|zs 12<|zn 4 []))<|
 .reg (zp 1<|zi (.bi .add (.e 5) (.c (.n 1)))<|zp 1 []) (zs 0<|zs 1<|zn 1<|zs 3<|zs 4<|zs 11<|zn 5 []))<|
 zq (zp 2 []) (zn 2<|zs 4<|zn 8 [])<|
 .ret⟩
end Go.Cat
namespace Go.Cat
def ir_spec_MotzkinNumber:IF:=⟨[],1,9,[1],zq (zi (.cs .v (.n 0)) []) (zs 0<|zn 8 [])<|
 .seq (zq (zp 1<|zi (.ca 22 [.e 0,.c (.n 0),.c (.n 20)] 1)<|zi (.un .not (.e 9)) []) (zs 0<|zn 5<|zs 10<|zn 2 [])<|
 .cond 6 (zq (zi (.cs .v (.n (-1))) []) (zn 1<|zs 9<|zn 7 [])<|
 .ret) .skip)<|
 zq (zi (.li (.o .v) [.c (.n 1)])<|zp 1 []) (zs 0<|zn 1<|zs 9<|zn 6 [])<|
 .seq (zq (zi (.cs .v (.n 1)) []) (zs 0<|zn 1<|zs 2<|zs 9<|zn 5 [])<|
 .block 0<|.loop<|.seq (zq (zp 2<|zi (.bi .leq (.e 3) (.e 0)) []) (zs 0<|zn 1<|zs 2<|zs 3<|zn 3<|zs 9<|zn 1 [])<|
 .cond 7 .skip (.exit 0))<|
 .seq (.block 1<|zq (zp 2<|zi (.bi .sub (.e 3) (.c (.n 1)))<|zi (.ix (.e 2) [] (.e 9))<|zp 2 []) (zs 0<|zn 1<|zs 2<|zs 3<|zs 10<|zn 4 [])<|
 .seq (zq (zi (.cs .v (.n 0)) []) (zs 0<|zn 1<|zs 2<|zs 3<|zs 4<|zs 9<|zn 3 [])<|
 .block 2<|.loop<|.seq (zq (zp 1<|zi (.bi .add (.e 5) (.c (.n 2)))<|zp 1<|zi (.bi .leq (.e 9) (.e 3)) []) (zs 0<|zn 1<|zs 2<|zs 3<|zs 4<|zs 5<|zn 2<|zs 10 [])<|
 .cond 8 .skip (.exit 2))<|
 .seq (.block 3<|.reg (zp 3<|zi (.ix (.e 2) [] (.e 5))<|zp 3<|zi (.bi .sub (.e 3) (.c (.n 2)))<|zp 1<|zi (.bi .sub (.e 10) (.e 5))<|zi (.ix (.e 2) [] (.e 11))<|zp 1<|zi (.bi .mul (.e 9) (.e 12))<|zi (.bi .add (.e 4) (.e 13))<|zp 1 []) (zs 0<|zn 1<|zs 2<|zs 3<|zs 14<|zs 5<|zn 3 []))<|
 .reg (zp 1<|zi (.bi .add (.e 5) (.c (.n 1)))<|zp 1 []) (zs 0<|zn 1<|zs 2<|zs 3<|zs 4<|zs 9<|zn 3 []))<|
 .reg (zp 2<|zi (.li (.o .v) [.e 4])<|zi (.ap false (.e 2) (.e 9))<|zp 1 []) (zs 0<|zn 1<|zs 10<|zs 3<|zn 5 []))<|
 .reg (zp 1<|zi (.bi .add (.e 3) (.c (.n 1)))<|zp 1 []) (zs 0<|zn 1<|zs 2<|zs 9<|zn 5 []))<|
 zq (zp 2<|zi (.ix (.e 2) [] (.e 0))<|zp 2 []) (zn 1<|zs 9<|zn 7 [])<|
 .ret⟩
end Go.Cat
namespace Go.Cat
def ir_spec_SchroederNumber:IF:=⟨[],1,6,[1],zq (zi (.cs .v (.n 0)) []) (zs 0<|zn 5 [])<|
 .seq (zq (zp 1<|zi (.ca 22 [.e 0,.c (.n 0),.c (.n 12)] 1)<|zi (.un .not (.e 6)) []) (zs 0<|zn 3<|zs 7<|zn 1 [])<|
 .cond 4 (zq (zi (.cs .v (.n (-1))) []) (zn 1<|zs 6<|zn 4 [])<|
 .ret) .skip)<|
 zq (zi (.cs .v (.n 0)) []) (zs 0<|zn 1<|zs 6<|zn 3 [])<|
 .seq (zq (zi (.cs .v (.n 0)) []) (zs 0<|zn 1<|zs 2<|zs 6<|zn 2 [])<|
 .block 0<|.loop<|.seq (zq (zp 2<|zi (.bi .leq (.e 3) (.e 0)) []) (zs 0<|zn 1<|zs 2<|zs 3<|zn 1<|zs 6 [])<|
 .cond 5 .skip (.exit 0))<|
 .seq (.block 1<|.reg (zp 2<|zi (.ca 79 [.e 3] 1)<|zp 2<|zi (.bi .add (.e 0) (.e 3))<|zp 2<|zi (.bi .sub (.e 0) (.e 3))<|zi (.ca 24 [.e 7,.e 8] 1)<|zi (.bi .mul (.e 6) (.e 9))<|zi (.bi .add (.e 2) (.e 10))<|zp 1 []) (zs 0<|zn 1<|zs 11<|zs 3<|zn 2 []))<|
 .reg (zp 1<|zi (.bi .add (.e 3) (.c (.n 1)))<|zp 1 []) (zs 0<|zn 1<|zs 2<|zs 6<|zn 2 []))<|
 zq (zp 2 []) (zn 1<|zs 2<|zn 4 [])<|
 .ret⟩
end Go.Cat
namespace Go.Cat
def ir_spec_FussNumber:IF:=⟨[],2,4,[2],zq (zi (.cs .v (.n 0)) []) (zs 0<|zs 1<|zn 2 [])<|
 .seq (zq (zp 1<|zi (.ca 22 [.e 0,.c (.n 1),.c (.n 4)] 1)<|zi (.un .not (.e 4))<|zp 1<|zg [(5,false)] (.cy (.e 1))<|zg [(5,false)] (.ca 22 [.e 6,.c (.n 0),.c (.n 6)] 1)<|zg [(5,false)] (.un .not (.e 7))<|zi (.pk (.e 5) (.c (.b true)) (.e 8)) []) (zs 0<|zs 1<|zn 1<|zs 9 [])<|
 .cond 3 (zq (zi (.cs .v (.n (-1))) []) (zn 2<|zs 4<|zn 1 [])<|
 .ret) .skip)<|
 zq (zp 2<|zi (.bi .mul (.e 0) (.e 1))<|zp 1<|zi (.ca 24 [.e 4,.e 1] 1)<|zp 1<|zi (.bi .sub (.e 0) (.c (.n 1)))<|zp 1<|zi (.bi .mul (.e 6) (.e 1))<|zi (.bi .add (.e 7) (.c (.n 1)))<|zi (.bi .quo (.e 5) (.e 8))<|zp 1 []) (zn 2<|zs 9<|zn 1 [])<|
 .ret⟩
end Go.Cat
namespace Go.Cat
def ir_spec_CountLine:IF:=⟨[],1,4,[1],zq (zi (.cs .v (.s [])) []) (zs 0<|zn 3 [])<|
 .seq (zq (zp 1<|zi (.ca 22 [.e 0,.c (.n 0),.c (.n 5)] 1)<|zi (.un .not (.e 4)) []) (zs 0<|zn 2<|zs 5 [])<|
 .cond 3 (zq (zi (.cs .v (.s [])) []) (zn 1<|zs 4<|zn 2 [])<|
 .ret) .skip)<|
 zq (zp 1<|zi (.ca 488 [.e 0] 2)<|zp 5 []) (zs 0<|zn 1<|zs 4<|zn 1 [])<|
 zq (zp 1<|zi (.ca 138 [.e 0] 1)<|zi (.bi .add (.c (.s [115,105,122,101,32])) (.e 4))<|zi (.bi .add (.e 5) (.c (.s [32,99,97,116,97,108,97,110,32])))<|zp 1<|zi (.ca 79 [.e 0] 1)<|zi (.ca 138 [.e 7] 1)<|zi (.bi .add (.e 6) (.e 8))<|zi (.bi .add (.e 9) (.c (.s [32,109,111,116,122,107,105,110,32])))<|zp 1<|zi (.ca 267 [.e 0] 1)<|zi (.ca 138 [.e 11] 1)<|zi (.bi .add (.e 10) (.e 12))<|zi (.bi .add (.e 13) (.c (.s [32,115,99,104,114,111,101,100,101,114,32])))<|zp 1<|zi (.ca 489 [.e 0] 1)<|zi (.ca 138 [.e 15] 1)<|zi (.bi .add (.e 14) (.e 16))<|zi (.bi .add (.e 17) (.c (.s [32,116,101,114,110,97,114,121,32])))<|zp 1<|zi (.ca 490 [.c (.n 3),.e 0] 1)<|zi (.ca 138 [.e 19] 1)<|zi (.bi .add (.e 18) (.e 20))<|zi (.bi .add (.e 21) (.c (.s [32,112,97,114,107,105,110,103,32])))<|zp 1<|zi (.ca 491 [.e 0] 1)<|zi (.ca 138 [.e 23] 1)<|zi (.bi .add (.e 22) (.e 24))<|zi (.bi .add (.e 25) (.c (.s [32,105,110,116,101,114,118,97,108,115,32])))<|zp 1<|zi (.ca 492 [.e 0] 1)<|zi (.ca 138 [.e 27] 1)<|zi (.bi .add (.e 26) (.e 28))<|zi (.bi .add (.e 29) (.c (.s [32,108,111,111,112,115,32])))<|zp 1<|zi (.ca 137 [.e 2] 1)<|zi (.bi .add (.e 30) (.e 31))<|zp 1 []) (zn 1<|zs 32<|zn 2 [])<|
 .ret⟩
def ir_spec_l34Numbers:IF:=⟨[],1,7,[1],zq (zi (.cs .v (.s [])) []) (zs 0<|zn 6 [])<|
 zq (zi (.cs .v (.s [])) []) (zs 0<|zn 1<|zs 7<|zn 4 [])<|
 .seq (zq (zi (.cs .v (.n 0)) []) (zs 0<|zn 1<|zs 2<|zs 7<|zn 3 [])<|
 .block 0<|.loop<|.seq (zq (zp 2<|zi (.ln (.e 0) [])<|zi (.bi .lss (.e 3) (.e 7)) []) (zs 0<|zn 1<|zs 2<|zs 3<|zs 8<|zn 2 [])<|
 .cond 4 .skip (.exit 0))<|
 .seq (.block 1<|.seq (zq (zp 1<|zi (.bi .gtr (.e 3) (.c (.n 0))) []) (zs 0<|zn 1<|zs 2<|zs 3<|zn 1<|zs 7<|zn 1 [])<|
 .cond 5 (.reg (zp 1<|zi (.bi .add (.e 2) (.c (.s [44])))<|zp 1 []) (zs 0<|zn 1<|zs 7<|zs 3<|zn 3 [])) .skip)<|
 .reg (zp 3<|zi (.iy (.e 0) (.e 3))<|zp 1<|zi (.ca 138 [.e 7] 1)<|zi (.bi .add (.e 2) (.e 8))<|zp 1 []) (zs 0<|zn 1<|zs 9<|zs 3<|zn 3 []))<|
 .reg (zp 1<|zi (.bi .add (.e 3) (.c (.n 1)))<|zp 1 []) (zs 0<|zn 1<|zs 2<|zs 7<|zn 3 []))<|
 .seq (zq (zp 1<|zi (.bi .eql (.e 2) (.c (.s []))) []) (zn 2<|zs 2<|zn 3<|zs 7 [])<|
 .cond 6 (zq (zi (.cs .v (.s [110,111,110,101])) []) (zn 1<|zs 7<|zn 5 [])<|
 .ret) .skip)<|
 zq (zp 2 []) (zn 1<|zs 2<|zn 5 [])<|
 .ret⟩
end Go.Cat
namespace Go.Cat
end Go.Cat
namespace Go.Cat
end Go.Cat
namespace Go.Cat
end Go.Cat
namespace Go.Cat
end Go.Cat
namespace Go.Cat
end Go.Cat
namespace Go.Cat
end Go.Cat
namespace Go.Cat
end Go.Cat
namespace Go.Cat
def ir_impl_RotationWay:IF:=⟨[],2,21,[2,3],zq (zi (.cs (.o .v) (.l []))<|zi (.cs .v (.b false)) []) (zs 0<|zs 1<|zn 19 [])<|
 .seq (zq (zp 2<|zi (.ca 367 [.e 0,.e 1,.c (.n 5)] 1)<|zi (.un .not (.e 21)) []) (zs 0<|zs 1<|zn 10<|zs 22<|zn 8 [])<|
 .cond 12 (zq (zi (.li (.o .v) [])<|zp 1<|zi (.cs .v (.b false)) []) (zn 2<|zs 21<|zs 22<|zn 17 [])<|
 .ret) .skip)<|
 zq (zi .mm<|zp 1<|zi (.mu 21 (.e 0) (.c (.s [])))<|zp 2 []) (zs 0<|zs 1<|zn 2<|zs 22<|zn 16 [])<|
 zq (zp 1<|zi (.li (.o .v) [.e 0])<|zp 1 []) (zn 1<|zs 1<|zn 2<|zs 4<|zs 21<|zn 15 [])<|
 .seq (zq (zi (.cs .v (.n 0)) []) (zn 1<|zs 1<|zn 2<|zs 4<|zs 5<|zs 21<|zn 14 [])<|
 .block 0<|.loop<|.seq (zq (zp 2<|zi (.ln (.e 5) [])<|zi (.bi .lss (.e 6) (.e 21)) []) (zn 1<|zs 1<|zn 2<|zs 4<|zs 5<|zs 6<|zn 6<|zs 22<|zn 7 [])<|
 .cond 13 .skip (.exit 0))<|
 .seq (.block 1<|.seq (zq (zp 2<|zi (.mo 4 (.e 1) (.s []))<|zp 5 []) (zn 1<|zs 1<|zn 2<|zs 4<|zs 5<|zs 6<|zs 22<|zn 13 [])<|
 zq (zp 1 []) (zn 1<|zs 1<|zn 2<|zs 4<|zs 5<|zs 6<|zn 7<|zs 7<|zn 6 [])<|
 .cond 14 (.exit 0) .skip)<|
 zq (zp 2<|zi (.ix (.e 5) [] (.e 6))<|zp 1<|zi (.ca 173 [.e 21] 1)<|zi (.ln (.e 22) [])<|zi (.cs .v (.n 0)) []) (zn 1<|zs 1<|zn 2<|zs 4<|zs 5<|zs 6<|zn 8<|zs 22<|zs 23<|zs 24<|zn 3 [])<|
 .block 2<|.loop<|zq (zi (.bi .lss (.e 17) (.e 16)) []) (zn 1<|zs 1<|zn 2<|zs 4<|zs 5<|zs 6<|zn 8<|zs 15<|zs 16<|zs 17<|zs 21<|zn 2 [])<|
 .seq (.cond 18 .skip (.exit 2))<|
 .seq (.block 3<|zq (zi (.ix (.e 15) [] (.e 17))<|zp 2 []) (zn 1<|zs 1<|zn 2<|zs 4<|zs 5<|zs 6<|zn 1<|zs 21<|zn 6<|zs 15<|zs 16<|zs 17<|zn 3 [])<|
 zq (zp 2<|zi (.mo 4 (.e 8) (.s []))<|zp 5 []) (zn 1<|zs 1<|zn 2<|zs 4<|zs 5<|zs 6<|zn 1<|zs 8<|zs 22<|zn 5<|zs 15<|zs 16<|zs 17<|zn 3 [])<|
 zq (zp 1<|zi (.un .not (.e 9)) []) (zn 1<|zs 1<|zn 2<|zs 4<|zs 5<|zs 6<|zn 1<|zs 8<|zn 6<|zs 15<|zs 16<|zs 17<|zn 1<|zs 21<|zn 1 [])<|
 .cond 19 (zq (zp 4<|zi (.ix (.e 5) [] (.e 6))<|zp 1<|zi (.mu 4 (.e 8) (.e 21)) []) (zn 1<|zs 1<|zn 2<|zs 22<|zs 5<|zs 6<|zn 1<|zs 8<|zn 6<|zs 15<|zs 16<|zs 17<|zn 3 [])<|
 .reg (zp 2<|zi (.li (.o .v) [.e 8])<|zi (.ap false (.e 5) (.e 21))<|zp 1 []) (zn 1<|zs 1<|zn 2<|zs 4<|zs 22<|zs 6<|zn 8<|zs 15<|zs 16<|zs 17<|zn 3 [])) .skip)<|
 .reg (zi (.bi .add (.e 17) (.c (.n 1)))<|zp 1 []) (zn 1<|zs 1<|zn 2<|zs 4<|zs 5<|zs 6<|zn 8<|zs 15<|zs 16<|zs 21<|zn 3 []))<|
 .reg (zp 1<|zi (.bi .add (.e 6) (.c (.n 1)))<|zp 1 []) (zn 1<|zs 1<|zn 2<|zs 4<|zs 5<|zs 21<|zn 14 []))<|
 zq (zi (.li (.o .v) [])<|zp 1 []) (zn 1<|zs 1<|zn 2<|zs 4<|zn 5<|zs 21<|zn 10 [])<|
 .seq (zq (zp 2 []) (zn 4<|zs 4<|zn 5<|zs 10<|zs 1<|zn 9 [])<|
 .block 4<|.loop<|.seq (zq (zp 1<|zi (.bi .neq (.e 11) (.c (.s []))) []) (zn 4<|zs 4<|zn 5<|zs 10<|zs 11<|zn 8<|zs 21 [])<|
 .cond 20 .skip (.exit 4))<|
 .seq (.block 5<|.reg (zp 2<|zi (.li (.o .v) [.e 11])<|zi (.ap false (.e 10) (.e 21))<|zp 1 []) (zn 4<|zs 4<|zn 5<|zs 22<|zs 11<|zn 9 []))<|
 .reg (zp 2<|zi (.mg 4 (.e 11) (.s []))<|zp 1 []) (zn 4<|zs 4<|zn 5<|zs 10<|zs 21<|zn 9 []))<|
 zq (zp 1<|zi (.ca 368 [.e 10] 1) []) (zn 10<|zs 21<|zn 10 [])<|
 zq (zp 2<|zi (.cs .v (.b true)) []) (zn 2<|zs 10<|zs 21<|zn 17 [])<|
 .ret⟩
end Go.Cat
namespace Go.Cat
def ir_spec_RotationWay:IF:=⟨[],2,13,[2,3],zq (zi (.cs (.o .v) (.l []))<|zi (.cs .v (.b false)) []) (zs 0<|zs 1<|zn 11 [])<|
 .seq (zq (zp 2<|zi (.ca 365 [.e 0,.e 1] 1)<|zi (.un .not (.e 13))<|zp 1<|zg [(14,false)] (.cy (.e 0))<|zg [(14,false)] (.ca 162 [.e 15] 1)<|zg [(14,false)] (.bi .gtr (.e 16) (.c (.n 5)))<|zi (.pk (.e 14) (.c (.b true)) (.e 17)) []) (zs 0<|zs 1<|zn 7<|zs 18<|zn 3 [])<|
 .cond 9 (zq (zi (.li (.o .v) [])<|zp 1<|zi (.cs .v (.b false)) []) (zn 2<|zs 13<|zs 14<|zn 9 [])<|
 .ret) .skip)<|
 zq (zp 1<|zi (.ca 366 [.e 0] 2)<|zp 5 []) (zn 1<|zs 1<|zn 2<|zs 13<|zs 14<|zn 7 [])<|
 .seq (zq (zi (.cs .v (.n 0)) []) (zn 1<|zs 1<|zn 2<|zs 4<|zs 5<|zs 13<|zn 6 [])<|
 .block 0<|.loop<|.seq (zq (zp 2<|zi (.ln (.e 4) [])<|zi (.bi .lss (.e 6) (.e 13)) []) (zn 1<|zs 1<|zn 2<|zs 4<|zs 5<|zs 6<|zn 3<|zs 14<|zn 2 [])<|
 .cond 10 .skip (.exit 0))<|
 .seq (.block 1<|.seq (zq (zp 2<|zi (.ix (.e 4) [] (.e 6))<|zp 2<|zi (.bi .neq (.e 13) (.e 1)) []) (zn 1<|zs 1<|zn 2<|zs 4<|zs 5<|zs 6<|zn 4<|zs 14<|zn 1 [])<|
 .cond 11 (.exit 1) .skip)<|
 zq (zi (.li (.o .v) [])<|zp 1 []) (zn 4<|zs 4<|zs 5<|zs 6<|zs 13<|zn 5 [])<|
 .seq (zq (zp 2 []) (zn 4<|zs 4<|zs 5<|zn 1<|zs 7<|zs 6<|zn 4 [])<|
 .block 2<|.loop<|.seq (zq (zp 1<|zi (.bi .geq (.e 8) (.c (.n 0))) []) (zn 4<|zs 4<|zs 5<|zn 1<|zs 7<|zs 8<|zn 3<|zs 13 [])<|
 .cond 12 .skip (.exit 2))<|
 .seq (.block 3<|.reg (zp 2<|zi (.ix (.e 4) [] (.e 8))<|zp 1<|zi (.li (.o .v) [.e 13])<|zp 1<|zi (.ap false (.e 14) (.e 7))<|zp 1 []) (zn 4<|zs 4<|zs 5<|zn 1<|zs 15<|zs 8<|zn 4 []))<|
 .reg (zp 2<|zi (.ix (.e 5) [] (.e 8))<|zp 2 []) (zn 4<|zs 4<|zs 5<|zn 1<|zs 7<|zs 13<|zn 4 []))<|
 zq (zp 2<|zi (.cs .v (.b true)) []) (zn 2<|zs 7<|zs 13<|zn 9 [])<|
 .ret)<|
 .reg (zp 1<|zi (.bi .add (.e 6) (.c (.n 1)))<|zp 1 []) (zn 1<|zs 1<|zn 2<|zs 4<|zs 5<|zs 13<|zn 6 []))<|
 zq (zi (.li (.o .v) [])<|zp 1<|zi (.cs .v (.b false)) []) (zn 2<|zs 13<|zs 14<|zn 9 [])<|
 .ret⟩
def ir_spec_l20Search:IF:=⟨[],1,11,[1,2],zq (zi (.cs (.o .v) (.l []))<|zi (.cs (.o .v) (.l [])) []) (zs 0<|zn 10 [])<|
 zq (zp 1<|zi (.li (.o .v) [.e 0])<|zp 1 []) (zn 3<|zs 11<|zn 7 [])<|
 zq (zi (.li (.o .v) [.c (.n (-1))])<|zp 1 []) (zn 3<|zs 3<|zs 11<|zn 6 [])<|
 .seq (zq (zi (.cs .v (.n 0)) []) (zn 3<|zs 3<|zs 4<|zs 11<|zn 5 [])<|
 .block 0<|.loop<|.seq (zq (zp 2<|zi (.ln (.e 3) [])<|zi (.bi .lss (.e 5) (.e 11)) []) (zn 3<|zs 3<|zs 4<|zs 5<|zn 2<|zs 12<|zn 2 [])<|
 .cond 8 .skip (.exit 0))<|
 .seq (.block 1<|zq (zp 2<|zi (.ix (.e 3) [] (.e 5))<|zp 1<|zi (.ca 166 [.e 11] 1)<|zp 1 []) (zn 3<|zs 3<|zs 4<|zs 5<|zs 12<|zn 4 [])<|
 zq (zi (.cs .v (.n 0)) []) (zn 3<|zs 3<|zs 4<|zs 5<|zs 6<|zs 11<|zn 3 [])<|
 .block 2<|.loop<|.seq (zq (zp 2<|zi (.ln (.e 6) [])<|zi (.bi .lss (.e 7) (.e 11)) []) (zn 3<|zs 3<|zs 4<|zs 5<|zs 6<|zs 7<|zn 1<|zs 12<|zn 1 [])<|
 .cond 9 .skip (.exit 2))<|
 .seq (.block 3<|zq (zp 3<|zi (.ix (.e 6) [] (.e 7))<|zp 1<|zi (.ca 378 [.e 3,.e 11] 1)<|zi (.un .not (.e 12)) []) (zn 3<|zs 3<|zs 4<|zs 5<|zs 6<|zs 7<|zn 2<|zs 13 [])<|
 .cond 10 (zq (zp 3<|zi (.ix (.e 6) [] (.e 7))<|zp 1<|zi (.li (.o .v) [.e 11])<|zi (.ap false (.e 3) (.e 12))<|zp 1 []) (zn 3<|zs 13<|zs 4<|zs 5<|zs 6<|zs 7<|zn 3 [])<|
 .reg (zp 2<|zi (.li (.o .v) [.e 5])<|zi (.ap false (.e 4) (.e 11))<|zp 1 []) (zn 3<|zs 3<|zs 12<|zs 5<|zs 6<|zs 7<|zn 3 [])) .skip)<|
 .reg (zp 1<|zi (.bi .add (.e 7) (.c (.n 1)))<|zp 1 []) (zn 3<|zs 3<|zs 4<|zs 5<|zs 6<|zs 11<|zn 3 []))<|
 .reg (zp 1<|zi (.bi .add (.e 5) (.c (.n 1)))<|zp 1 []) (zn 3<|zs 3<|zs 4<|zs 11<|zn 5 []))<|
 zq (zp 4 []) (zn 1<|zs 3<|zs 4<|zn 8 [])<|
 .ret⟩
end Go.Cat
namespace Go.Cat
def ir_spec_l15Has:IF:=⟨[],2,6,[2],zq (zi (.cs .v (.b false)) []) (zs 0<|zs 1<|zn 4 [])<|
 .seq (zq (zi (.cs .v (.n 0)) []) (zs 0<|zs 1<|zn 1<|zs 6<|zn 2 [])<|
 .block 0<|.loop<|.seq (zq (zp 2<|zi (.ln (.e 0) [])<|zi (.bi .lss (.e 3) (.e 6)) []) (zs 0<|zs 1<|zn 1<|zs 3<|zs 7<|zn 1 [])<|
 .cond 4 .skip (.exit 0))<|
 .seq (.block 1<|zq (zp 2<|zi (.iy (.e 0) (.e 3))<|zp 2<|zi (.bi .eql (.e 6) (.e 1)) []) (zs 0<|zs 1<|zn 1<|zs 3<|zn 1<|zs 7 [])<|
 .cond 5 (zq (zi (.cs .v (.b true)) []) (zn 2<|zs 6<|zn 3 [])<|
 .ret) .skip)<|
 .reg (zp 1<|zi (.bi .add (.e 3) (.c (.n 1)))<|zp 1 []) (zs 0<|zs 1<|zn 1<|zs 6<|zn 2 []))<|
 zq (zi (.cs .v (.b false)) []) (zn 2<|zs 6<|zn 3 [])<|
 .ret⟩
end Go.Cat
namespace Go.Cat
end Go.Cat
namespace Go.Cat
end Go.Cat
namespace Go.Cat
end Go.Cat
namespace Go.Cat
end Go.Cat
namespace Go.Cat
end Go.Cat
namespace Go.Cat
end Go.Cat
namespace Go.Cat
end Go.Cat
namespace Go.Cat
end Go.Cat
namespace Go.Cat
end Go.Cat
namespace Go.Cat
end Go.Cat
namespace Go.Cat
end Go.Cat
namespace Go.Cat
end Go.Cat
namespace Go.Cat
end Go.Cat
namespace Go.Cat
end Go.Cat
namespace Go.Cat
end Go.Cat
