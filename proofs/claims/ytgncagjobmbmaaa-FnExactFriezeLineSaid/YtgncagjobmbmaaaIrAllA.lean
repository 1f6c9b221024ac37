/-
 Texts of the little language.
-/
import Derived.Test.YtgncagjobmbmaaaCatThree
set_option linter.unusedSimpArgs false
set_option linter.unusedVariables false
namespace Go.Cat
def zn:Nat→List (Option Nat)→List (Option Nat)
 | 0,l=>l
 | k+1,l=>none::zn k l
def zs (n:Nat) (l:List (Option Nat)):List (Option Nat):=some n::l
def zq (a:List It) (b:List (Option Nat)) (s:S):S:=.seq (.reg a b) s
def zi (p:Pr) (l:List It):List It:=⟨[],[],p⟩::l
def zg (g:List (Nat×Bool)) (p:Pr) (l:List It):List It:=⟨[],g,p⟩::l
def zp:Nat→List It→List It
 | 0,l=>l
 | k+1,l=>⟨[],[],.nop⟩::zp k l
def ir_slices_Index___int_int_:IF:=⟨[],2,8,[2],zq (zi (.cs .v (.n 0)) []) (zs 0<|zs 1<|zn 6 [])<|
 .seq (zq (zp 1<|zi (.ln (.e 0) [])<|zi (.cs .v (.n 0)) []) (zs 0<|zs 1<|zn 2<|zs 8<|zs 9<|zn 2 [])<|
 .block 0<|.loop<|zq (zi (.bi .lss (.e 5) (.e 4)) []) (zs 0<|zs 1<|zn 2<|zs 4<|zs 5<|zs 8<|zn 1 [])<|
 .seq (.cond 6 .skip (.exit 0))<|
 .seq (.block 1<|zq (zp 2 []) (zs 0<|zs 1<|zn 1<|zs 5<|zs 4<|zs 5<|zn 2 [])<|
 zq (zp 3<|zi (.iy (.e 0) (.e 3))<|zp 1<|zi (.bi .eql (.e 1) (.e 8)) []) (zs 0<|zs 1<|zn 1<|zs 3<|zs 4<|zs 5<|zn 1<|zs 9 [])<|
 .cond 7 (zq (zp 2 []) (zn 2<|zs 3<|zn 5 [])<|
 .ret) .skip)<|
 .reg (zi (.bi .add (.e 5) (.c (.n 1)))<|zp 1 []) (zs 0<|zs 1<|zn 2<|zs 4<|zs 8<|zn 2 []))<|
 zq (zi (.cs .v (.n (-1))) []) (zn 2<|zs 8<|zn 5 [])<|
 .ret⟩
end Go.Cat
namespace Go.Cat
def ir_laws_eqIntS:IF:=⟨[],2,7,[2],zq (zi (.cs .v (.b false)) []) (zs 0<|zs 1<|zn 5 [])<|
 .seq (zq (zp 1<|zi (.ln (.e 0) [])<|zp 1<|zi (.ln (.e 1) [])<|zi (.bi .neq (.e 7) (.e 8)) []) (zs 0<|zs 1<|zn 2<|zs 9<|zn 2 [])<|
 .cond 4 (zq (zi (.cs .v (.b false)) []) (zn 2<|zs 7<|zn 4 [])<|
 .ret) .skip)<|
 .seq (zq (zi (.cs .v (.n 0)) []) (zs 0<|zs 1<|zn 1<|zs 7<|zn 3 [])<|
 .block 0<|.loop<|.seq (zq (zp 2<|zi (.ln (.e 0) [])<|zi (.bi .lss (.e 3) (.e 7)) []) (zs 0<|zs 1<|zn 1<|zs 3<|zn 1<|zs 8<|zn 1 [])<|
 .cond 5 .skip (.exit 0))<|
 .seq (.block 1<|zq (zp 2<|zi (.iy (.e 0) (.e 3))<|zp 3<|zi (.iy (.e 1) (.e 3))<|zp 1<|zi (.bi .neq (.e 7) (.e 8)) []) (zs 0<|zs 1<|zn 1<|zs 3<|zn 2<|zs 9 [])<|
 .cond 6 (zq (zi (.cs .v (.b false)) []) (zn 2<|zs 7<|zn 4 [])<|
 .ret) .skip)<|
 .reg (zp 1<|zi (.bi .add (.e 3) (.c (.n 1)))<|zp 1 []) (zs 0<|zs 1<|zn 1<|zs 7<|zn 3 []))<|
 zq (zi (.cs .v (.b true)) []) (zn 2<|zs 7<|zn 4 [])<|
 .ret⟩
def ir_laws_toIntS:IF:=⟨[],1,5,[1],zq (zi (.cs (.o .v) (.l [])) []) (zs 0<|zn 4 [])<|
 zq (zp 1<|zi (.ln (.e 0) [])<|zi (.mk (.n 0) (.e 5) (.e 5))<|zp 1 []) (zs 0<|zn 1<|zs 6<|zn 2 [])<|
 .seq (zq (zi (.cs .v (.n 0)) []) (zs 0<|zn 1<|zs 2<|zs 5<|zn 1 [])<|
 .block 0<|.loop<|.seq (zq (zp 2<|zi (.ln (.e 0) [])<|zi (.bi .lss (.e 3) (.e 5)) []) (zs 0<|zn 1<|zs 2<|zs 3<|zs 6 [])<|
 .cond 4 .skip (.exit 0))<|
 .seq (.block 1<|.reg (zp 4<|zi (.iy (.e 0) (.e 3))<|zp 1<|zi (.ix (.e 2) [] (.e 3))<|zi (.up 2 [.e 3] (.e 5)) []) (zs 0<|zn 1<|zs 7<|zs 3<|zn 1 []))<|
 .reg (zp 1<|zi (.bi .add (.e 3) (.c (.n 1)))<|zp 1 []) (zs 0<|zn 1<|zs 2<|zs 5<|zn 1 []))<|
 zq (zp 2 []) (zn 1<|zs 2<|zn 3 [])<|
 .ret⟩
end Go.Cat
namespace Go.Cat
def ir_impl_FormatInt:IF:=⟨[],1,12,[1],zq (zi (.cs .v (.s [])) []) (zs 0<|zn 11 [])<|
 .seq (zq (zp 1<|zi (.bi .eql (.e 0) (.c (.n 0))) []) (zs 0<|zn 6<|zs 12<|zn 4 [])<|
 .cond 7 (zq (zi (.cs .v (.s [48])) []) (zn 1<|zs 12<|zn 10 [])<|
 .ret) .skip)<|
 zq (zi (.li (.o .v) [])<|zp 1 []) (zs 0<|zn 1<|zs 12<|zn 9 [])<|
 .seq (zq (zp 2 []) (zs 0<|zn 1<|zs 2<|zs 0<|zn 8 [])<|
 .block 0<|.loop<|.seq (zq (zp 1<|zi (.bi .neq (.e 3) (.c (.n 0))) []) (zs 0<|zn 1<|zs 2<|zs 3<|zn 4<|zs 12<|zn 3 [])<|
 .cond 8 .skip (.exit 0))<|
 .seq (.block 1<|zq (zp 1<|zi (.bi .rem (.e 3) (.c (.n 10)))<|zp 1 []) (zs 0<|zn 1<|zs 2<|zs 3<|zs 12<|zn 7 [])<|
 .seq (zq (zp 1<|zi (.bi .lss (.e 4) (.c (.n 0))) []) (zs 0<|zn 1<|zs 2<|zs 3<|zs 4<|zn 4<|zs 12<|zn 2 [])<|
 .cond 9 (.reg (zp 1<|zi (.un .neg (.e 4))<|zp 1 []) (zs 0<|zn 1<|zs 2<|zs 3<|zs 12<|zn 7 [])) .skip)<|
 .reg (zp 2<|zi (.bi .add (.c (.n 48)) (.e 4))<|zi (.cv .u8 (.e 12))<|zi (.li (.o .v) [.e 13])<|zi (.ap false (.e 2) (.e 14))<|zp 1 []) (zs 0<|zn 1<|zs 15<|zs 3<|zn 8 []))<|
 .reg (zp 1<|zi (.bi .quo (.e 3) (.c (.n 10)))<|zp 1 []) (zs 0<|zn 1<|zs 2<|zs 12<|zn 8 []))<|
 .seq (zq (zp 1<|zi (.bi .lss (.e 0) (.c (.n 0))) []) (zn 2<|zs 2<|zn 7<|zs 12<|zn 1 [])<|
 .cond 10 (.reg (zp 1<|zi (.li (.o .v) [.c (.y 45)])<|zi (.ap false (.e 2) (.e 12))<|zp 1 []) (zn 2<|zs 13<|zn 9 [])) .skip)<|
 .seq (zq (zp 1<|zi (.ln (.e 2) [])<|zi (.bi .sub (.e 12) (.c (.n 1)))<|zi (.cs .v (.n 0))<|zp 1 []) (zn 2<|zs 2<|zn 2<|zs 14<|zs 13<|zn 5 [])<|
 .block 2<|.loop<|.seq (zq (zp 2<|zi (.bi .lss (.e 5) (.e 6)) []) (zn 2<|zs 2<|zn 2<|zs 5<|zs 6<|zn 4<|zs 12 [])<|
 .cond 11 .skip (.exit 2))<|
 .seq (.block 3<|.reg (zp 6<|zi (.ix (.e 2) [] (.e 6))<|zp 3<|zi (.ix (.e 2) [] (.e 5))<|zp 1<|zi (.ix (.e 2) [] (.e 5))<|zi (.up 2 [.e 5] (.e 12))<|zi (.ix (.e 15) [] (.e 6))<|zi (.up 15 [.e 6] (.e 13)) []) (zn 2<|zs 17<|zn 2<|zs 5<|zs 6<|zn 5 []))<|
 .reg (zp 1<|zi (.bi .add (.e 5) (.c (.n 1)))<|zp 1<|zi (.bi .sub (.e 6) (.c (.n 1)))<|zp 2 []) (zn 2<|zs 2<|zn 2<|zs 12<|zs 13<|zn 5 []))<|
 zq (zp 1<|zi (.bs (.e 2))<|zp 1 []) (zn 1<|zs 12<|zn 10 [])<|
 .ret⟩
def ir_impl_within:IF:=⟨[],3,4,[3],zq (zi (.cs .v (.b false)) []) (zs 0<|zs 1<|zs 2<|zn 1 [])<|
 zq (zp 2<|zi (.bi .geq (.e 0) (.e 1))<|zp 1<|zg [(4,true)] (.cy (.e 0))<|zg [(4,true)] (.cy (.e 2))<|zg [(4,true)] (.bi .leq (.e 5) (.e 6))<|zi (.pk (.e 4) (.e 7) (.c (.b false)))<|zp 1 []) (zn 3<|zs 8 [])<|
 .ret⟩
end Go.Cat
namespace Go.Cat
def ir_impl_copyInts:IF:=⟨[],1,2,[1],zq (zi (.cs (.o .v) (.l [])) []) (zs 0<|zn 1 [])<|
 zq (zi (.li (.o .v) [])<|zp 1<|zi (.ap true (.e 2) (.e 0))<|zp 1 []) (zn 1<|zs 3 [])<|
 .ret⟩
def ir_impl_equalInts:IF:=⟨[],2,9,[2],zq (zi (.cs .v (.b false)) []) (zs 0<|zs 1<|zn 7 [])<|
 .seq (zq (zp 1<|zi (.ln (.e 0) [])<|zp 1<|zi (.ln (.e 1) [])<|zi (.bi .neq (.e 9) (.e 10)) []) (zs 0<|zs 1<|zn 2<|zs 11<|zn 4 [])<|
 .cond 4 (zq (zi (.cs .v (.b false)) []) (zn 2<|zs 9<|zn 6 [])<|
 .ret) .skip)<|
 .seq (zq (zp 1<|zi (.ln (.e 0) [])<|zi (.cs .v (.n 0)) []) (zs 0<|zs 1<|zn 3<|zs 9<|zs 10<|zn 2 [])<|
 .block 0<|.loop<|zq (zi (.bi .lss (.e 6) (.e 5)) []) (zs 0<|zs 1<|zn 3<|zs 5<|zs 6<|zs 9<|zn 1 [])<|
 .seq (.cond 7 .skip (.exit 0))<|
 .seq (.block 1<|zq (zp 2 []) (zs 0<|zs 1<|zn 1<|zs 6<|zn 1<|zs 5<|zs 6<|zn 2 [])<|
 zq (zp 2<|zi (.iy (.e 0) (.e 3))<|zp 3<|zi (.iy (.e 1) (.e 3))<|zp 1<|zi (.bi .neq (.e 9) (.e 10)) []) (zs 0<|zs 1<|zn 3<|zs 5<|zs 6<|zn 1<|zs 11 [])<|
 .cond 8 (zq (zi (.cs .v (.b false)) []) (zn 2<|zs 9<|zn 6 [])<|
 .ret) .skip)<|
 .reg (zi (.bi .add (.e 6) (.c (.n 1)))<|zp 1 []) (zs 0<|zs 1<|zn 3<|zs 5<|zs 9<|zn 2 []))<|
 zq (zi (.cs .v (.b true)) []) (zn 2<|zs 9<|zn 6 [])<|
 .ret⟩
def ir_impl_glued:IF:=⟨[],2,11,[2],zq (zi (.cs .v (.s [])) []) (zs 0<|zs 1<|zn 9 [])<|
 zq (zi (.cs .v (.s [])) []) (zs 0<|zs 1<|zn 1<|zs 11<|zn 7 [])<|
 .seq (zq (zp 1<|zi (.ln (.e 0) [])<|zi (.cs .v (.n 0)) []) (zn 1<|zs 1<|zn 1<|zs 3<|zn 2<|zs 0<|zs 11<|zs 12<|zn 2 [])<|
 .block 0<|.loop<|zq (zi (.bi .lss (.e 8) (.e 7)) []) (zn 1<|zs 1<|zn 1<|zs 3<|zn 2<|zs 6<|zs 7<|zs 8<|zs 11<|zn 1 [])<|
 .seq (.cond 9 .skip (.exit 0))<|
 .seq (.block 1<|zq (zp 1<|zi (.iy (.e 6) (.e 8))<|zp 3 []) (zn 1<|zs 1<|zn 1<|zs 3<|zs 8<|zs 11<|zs 6<|zs 7<|zs 8<|zn 2 [])<|
 .seq (zq (zp 1<|zi (.bi .gtr (.e 4) (.c (.n 0))) []) (zn 1<|zs 1<|zn 1<|zs 3<|zn 1<|zs 5<|zs 6<|zs 7<|zs 8<|zn 1<|zs 11 [])<|
 .cond 10 (.reg (zp 2<|zi (.bi .add (.e 3) (.e 1))<|zp 1 []) (zn 1<|zs 1<|zn 1<|zs 11<|zn 1<|zs 5<|zs 6<|zs 7<|zs 8<|zn 2 [])) .skip)<|
 .reg (zp 2<|zi (.bi .add (.e 3) (.e 5))<|zp 1 []) (zn 1<|zs 1<|zn 1<|zs 11<|zn 2<|zs 6<|zs 7<|zs 8<|zn 2 []))<|
 .reg (zi (.bi .add (.e 8) (.c (.n 1)))<|zp 1 []) (zn 1<|zs 1<|zn 1<|zs 3<|zn 2<|zs 6<|zs 7<|zs 11<|zn 2 []))<|
 zq (zp 2 []) (zn 2<|zs 3<|zn 8 [])<|
 .ret⟩
end Go.Cat
namespace Go.Cat
def ir_impl_FriezeOf:IF:=⟨[],1,18,[1,2],zq (zi (.cs (.o .v) (.l []))<|zi (.cs .v (.b false)) []) (zs 0<|zn 17 [])<|
 .seq (zq (zp 1<|zi (.ca 183 [.e 0] 1)<|zi (.un .not (.e 18)) []) (zs 0<|zn 9<|zs 19<|zn 7 [])<|
 .cond 10 (zq (zi (.li (.o .v) [])<|zp 1<|zi (.cs .v (.b false)) []) (zn 1<|zs 18<|zs 19<|zn 15 [])<|
 .ret) .skip)<|
 zq (zp 1<|zi (.ln (.e 0) [])<|zp 1 []) (zs 0<|zn 2<|zs 18<|zn 14 [])<|
 zq (zp 1<|zi (.mk (.n 0) (.e 3) (.e 3))<|zp 1 []) (zs 0<|zn 2<|zs 3<|zs 18<|zn 13 [])<|
 .seq (zq (zp 1<|zi (.ln (.e 4) [])<|zi (.cs .v (.n 0)) []) (zs 0<|zn 2<|zs 3<|zs 4<|zn 6<|zs 18<|zs 19<|zn 5 [])<|
 .block 0<|.loop<|zq (zi (.bi .lss (.e 12) (.e 11)) []) (zs 0<|zn 2<|zs 3<|zs 4<|zn 6<|zs 11<|zs 12<|zs 18<|zn 4 [])<|
 .seq (.cond 13 .skip (.exit 0))<|
 .seq (.block 1<|zq (zp 2 []) (zs 0<|zn 2<|zs 3<|zs 4<|zs 12<|zn 5<|zs 11<|zs 12<|zn 5 [])<|
 .reg (zp 2<|zi (.ix (.e 4) [] (.e 5))<|zi (.up 4 [.e 5] (.c (.n 1))) []) (zs 0<|zn 2<|zs 3<|zs 19<|zn 6<|zs 11<|zs 12<|zn 5 []))<|
 .reg (zi (.bi .add (.e 12) (.c (.n 1)))<|zp 1 []) (zs 0<|zn 2<|zs 3<|zs 4<|zn 6<|zs 11<|zs 18<|zn 5 []))<|
 zq (zp 1<|zi (.mk (.n 0) (.e 3) (.e 3))<|zp 2<|zi (.ca 75 [.e 0] 1)<|zi (.li (.o .v) [.e 18,.e 4,.e 19])<|zp 1 []) (zn 3<|zs 3<|zn 2<|zs 20<|zn 11 [])<|
 .seq (zq (zi (.cs .v (.n 2)) []) (zn 3<|zs 3<|zn 2<|zs 6<|zs 18<|zn 10 [])<|
 .block 2<|.loop<|.seq (zq (zp 1<|zi (.ln (.e 6) [])<|zp 1<|zi (.bi .leq (.e 18) (.e 3)) []) (zn 3<|zs 3<|zn 2<|zs 6<|zs 7<|zn 6<|zs 19<|zn 3 [])<|
 .cond 14 .skip (.exit 2))<|
 .seq (.block 3<|zq (zp 1<|zi (.mk (.n 0) (.e 3) (.e 3))<|zp 1 []) (zn 3<|zs 3<|zn 2<|zs 6<|zs 7<|zs 18<|zn 9 [])<|
 .seq (zq (zp 1<|zi (.ln (.e 8) [])<|zi (.cs .v (.n 0)) []) (zn 3<|zs 3<|zn 2<|zs 6<|zs 7<|zs 8<|zn 6<|zs 18<|zs 19<|zn 1 [])<|
 .block 4<|.loop<|zq (zi (.bi .lss (.e 16) (.e 15)) []) (zn 3<|zs 3<|zn 2<|zs 6<|zs 7<|zs 8<|zn 6<|zs 15<|zs 16<|zs 18 [])<|
 .seq (.cond 17 .skip (.exit 4))<|
 .seq (.block 5<|zq (zp 2 []) (zn 3<|zs 3<|zn 2<|zs 6<|zs 7<|zs 8<|zs 16<|zn 5<|zs 15<|zs 16<|zn 1 [])<|
 .reg (zp 4<|zi (.ix (.e 6) [] (.e 7))<|zp 2<|zi (.ix (.e 18) [] (.e 9))<|zp 3<|zi (.ix (.e 6) [] (.e 7))<|zp 2<|zi (.bi .add (.e 9) (.c (.n 1)))<|zp 1<|zi (.bi .rem (.e 21) (.e 3))<|zi (.ix (.e 20) [] (.e 22))<|zp 1<|zi (.bi .mul (.e 19) (.e 23))<|zi (.bi .sub (.e 24) (.c (.n 1)))<|zp 2<|zi (.bi .sub (.e 7) (.c (.n 1)))<|zi (.ix (.e 6) [] (.e 26))<|zp 2<|zi (.bi .add (.e 9) (.c (.n 1)))<|zp 1<|zi (.bi .rem (.e 28) (.e 3))<|zi (.ix (.e 27) [] (.e 29))<|zp 1<|zi (.bi .quo (.e 25) (.e 30))<|zi (.ix (.e 8) [] (.e 9))<|zi (.up 8 [.e 9] (.e 31)) []) (zn 3<|zs 3<|zn 2<|zs 6<|zs 7<|zs 33<|zn 6<|zs 15<|zs 16<|zn 1 []))<|
 .reg (zi (.bi .add (.e 16) (.c (.n 1)))<|zp 1 []) (zn 3<|zs 3<|zn 2<|zs 6<|zs 7<|zs 8<|zn 6<|zs 15<|zs 18<|zn 1 []))<|
 .reg (zp 2<|zi (.li (.o .v) [.e 8])<|zi (.ap false (.e 6) (.e 18))<|zp 1 []) (zn 3<|zs 3<|zn 2<|zs 19<|zs 7<|zn 10 []))<|
 .reg (zp 1<|zi (.bi .add (.e 7) (.c (.n 1)))<|zp 1 []) (zn 3<|zs 3<|zn 2<|zs 6<|zs 18<|zn 10 []))<|
 zq (zp 2<|zi (.cs .v (.b true)) []) (zn 1<|zs 6<|zs 18<|zn 15 [])<|
 .ret⟩
def ir_impl_IsFrieze:IF:=⟨[],1,29,[1],zq (zi (.cs .v (.b false)) []) (zs 0<|zn 28 [])<|
 zq (zp 1<|zi (.ln (.e 0) [])<|zi (.bi .sub (.e 29) (.c (.n 1)))<|zp 1 []) (zs 0<|zn 1<|zs 30<|zn 26 [])<|
 .seq (zq (zp 1<|zi (.ca 23 [.e 2,.c (.n 3),.c (.n 10)] 1)<|zi (.un .not (.e 29)) []) (zs 0<|zn 1<|zs 2<|zn 6<|zs 30<|zn 19 [])<|
 .cond 9 (zq (zi (.cs .v (.b false)) []) (zn 1<|zs 29<|zn 27 [])<|
 .ret) .skip)<|
 .seq (zq (zp 1<|zi (.ln (.e 0) [])<|zi (.cs .v (.n 0)) []) (zs 0<|zn 1<|zs 2<|zn 7<|zs 0<|zs 29<|zs 30<|zn 16 [])<|
 .block 0<|.loop<|zq (zi (.bi .lss (.e 12) (.e 11)) []) (zs 0<|zn 1<|zs 2<|zn 7<|zs 10<|zs 11<|zs 12<|zs 29<|zn 15 [])<|
 .seq (.cond 13 .skip (.exit 0))<|
 .seq (.block 1<|zq (zp 1<|zi (.ix (.e 10) [] (.e 12))<|zp 3 []) (zs 0<|zn 1<|zs 2<|zs 12<|zs 29<|zn 5<|zs 10<|zs 11<|zs 12<|zn 16 [])<|
 .seq (zq (zp 1<|zi (.ln (.e 4) [])<|zp 1<|zi (.bi .neq (.e 29) (.e 2)) []) (zs 0<|zn 1<|zs 2<|zs 3<|zs 4<|zn 5<|zs 10<|zs 11<|zs 12<|zn 1<|zs 30<|zn 14 [])<|
 .cond 14 (zq (zi (.cs .v (.b false)) []) (zn 1<|zs 29<|zn 27 [])<|
 .ret) .skip)<|
 zq (zp 1<|zi (.ln (.e 4) [])<|zi (.cs .v (.n 0)) []) (zs 0<|zn 1<|zs 2<|zs 3<|zn 6<|zs 10<|zs 11<|zs 12<|zn 2<|zs 4<|zs 29<|zs 30<|zn 11 [])<|
 .block 2<|.loop<|zq (zi (.bi .lss (.e 17) (.e 16)) []) (zs 0<|zn 1<|zs 2<|zs 3<|zn 6<|zs 10<|zs 11<|zs 12<|zn 2<|zs 15<|zs 16<|zs 17<|zs 29<|zn 10 [])<|
 .seq (.cond 18 .skip (.exit 2))<|
 .seq (.block 3<|zq (zi (.iy (.e 15) (.e 17))<|zp 2 []) (zs 0<|zn 1<|zs 2<|zs 3<|zn 1<|zs 29<|zn 4<|zs 10<|zs 11<|zs 12<|zn 2<|zs 15<|zs 16<|zs 17<|zn 11 [])<|
 .block 4<|zq (zp 1<|zi (.bi .eql (.e 3) (.c (.n 0)))<|zp 1<|zg [(29,false)] (.cy (.e 3))<|zg [(29,false)] (.cy (.e 2))<|zg [(29,false)] (.bi .eql (.e 30) (.e 31))<|zi (.pk (.e 29) (.c (.b true)) (.e 32))<|zp 1 []) (zs 0<|zn 1<|zs 2<|zs 3<|zn 1<|zs 5<|zn 4<|zs 10<|zs 11<|zs 12<|zn 2<|zs 15<|zs 16<|zs 17<|zn 1<|zs 33<|zn 9 [])<|
 .cond 19 (zq (zp 1<|zi (.bi .neq (.e 5) (.c (.n 0))) []) (zs 0<|zn 1<|zs 2<|zs 3<|zn 6<|zs 10<|zs 11<|zs 12<|zn 2<|zs 15<|zs 16<|zs 17<|zn 2<|zs 29<|zn 8 [])<|
 .cond 20 (zq (zi (.cs .v (.b false)) []) (zn 1<|zs 29<|zn 27 [])<|
 .ret) .skip) (zq (zp 1<|zi (.bi .eql (.e 3) (.c (.n 1)))<|zp 1<|zg [(29,false)] (.cy (.e 3))<|zg [(29,false)] (.cy (.e 2))<|zg [(29,false)] (.bi .sub (.e 31) (.c (.n 1)))<|zg [(29,false)] (.bi .eql (.e 30) (.e 32))<|zi (.pk (.e 29) (.c (.b true)) (.e 33))<|zp 1 []) (zs 0<|zn 1<|zs 2<|zs 3<|zn 1<|zs 5<|zn 4<|zs 10<|zs 11<|zs 12<|zn 2<|zs 15<|zs 16<|zs 17<|zn 3<|zs 34<|zn 7 [])<|
 .cond 21 (zq (zp 1<|zi (.bi .neq (.e 5) (.c (.n 1))) []) (zs 0<|zn 1<|zs 2<|zs 3<|zn 6<|zs 10<|zs 11<|zs 12<|zn 2<|zs 15<|zs 16<|zs 17<|zn 4<|zs 29<|zn 6 [])<|
 .cond 22 (zq (zi (.cs .v (.b false)) []) (zn 1<|zs 29<|zn 27 [])<|
 .ret) .skip) (zq (zp 1<|zi (.ca 23 [.e 5,.c (.n 1),.c (.n 100000)] 1)<|zi (.un .not (.e 29))<|zp 1 []) (zs 0<|zn 1<|zs 2<|zs 3<|zn 6<|zs 10<|zs 11<|zs 12<|zn 2<|zs 15<|zs 16<|zs 17<|zn 5<|zs 30<|zn 5 [])<|
 .cond 23 (zq (zi (.cs .v (.b false)) []) (zn 1<|zs 29<|zn 27 [])<|
 .ret) .skip)))<|
 .reg (zi (.bi .add (.e 17) (.c (.n 1)))<|zp 1 []) (zs 0<|zn 1<|zs 2<|zs 3<|zn 6<|zs 10<|zs 11<|zs 12<|zn 2<|zs 15<|zs 16<|zs 29<|zn 11 []))<|
 .reg (zi (.bi .add (.e 12) (.c (.n 1)))<|zp 1 []) (zs 0<|zn 1<|zs 2<|zn 7<|zs 10<|zs 11<|zs 29<|zn 16 []))<|
 .seq (zq (zi (.cs .v (.n 1)) []) (zs 0<|zn 1<|zs 2<|zn 3<|zs 29<|zn 22 [])<|
 .block 5<|.loop<|.seq (zq (zp 2<|zi (.bi .lss (.e 6) (.e 2)) []) (zs 0<|zn 1<|zs 2<|zn 3<|zs 6<|zn 17<|zs 29<|zn 4 [])<|
 .cond 24 .skip (.exit 5))<|
 .seq (.block 6<|zq (zp 1<|zi (.cs .v (.n 0)) []) (zs 0<|zn 1<|zs 2<|zn 3<|zs 6<|zn 18<|zs 2<|zs 29<|zn 2 [])<|
 .block 7<|.loop<|zq (zi (.bi .lss (.e 26) (.e 25)) []) (zs 0<|zn 1<|zs 2<|zn 3<|zs 6<|zn 18<|zs 25<|zs 26<|zs 29<|zn 1 [])<|
 .seq (.cond 27 .skip (.exit 7))<|
 .seq (.block 8<|zq (zp 2 []) (zs 0<|zn 1<|zs 2<|zn 3<|zs 6<|zs 26<|zn 17<|zs 25<|zs 26<|zn 2 [])<|
 zq (zp 1<|zi (.bi .add (.e 7) (.c (.n 1)))<|zp 1<|zi (.bi .rem (.e 29) (.e 2))<|zp 1 []) (zs 0<|zn 1<|zs 2<|zn 3<|zs 6<|zs 7<|zs 30<|zn 16<|zs 25<|zs 26<|zn 2 [])<|
 zq (zp 2<|zi (.ix (.e 0) [] (.e 6))<|zp 2<|zi (.iy (.e 29) (.e 7))<|zp 3<|zi (.ix (.e 0) [] (.e 6))<|zp 2<|zi (.iy (.e 31) (.e 8))<|zp 1<|zi (.bi .mul (.e 30) (.e 32))<|zp 2<|zi (.bi .sub (.e 6) (.c (.n 1)))<|zi (.ix (.e 0) [] (.e 34))<|zp 2<|zi (.iy (.e 35) (.e 8))<|zp 3<|zi (.bi .add (.e 6) (.c (.n 1)))<|zi (.ix (.e 0) [] (.e 37))<|zp 2<|zi (.iy (.e 38) (.e 7))<|zp 1<|zi (.bi .mul (.e 36) (.e 39))<|zi (.bi .sub (.e 33) (.e 40))<|zi (.bi .neq (.e 41) (.c (.n 1))) []) (zs 0<|zn 1<|zs 2<|zn 3<|zs 6<|zn 18<|zs 25<|zs 26<|zn 1<|zs 42 [])<|
 .cond 28 (zq (zi (.cs .v (.b false)) []) (zn 1<|zs 29<|zn 27 [])<|
 .ret) .skip)<|
 .reg (zi (.bi .add (.e 26) (.c (.n 1)))<|zp 1 []) (zs 0<|zn 1<|zs 2<|zn 3<|zs 6<|zn 18<|zs 25<|zs 29<|zn 2 []))<|
 .reg (zp 1<|zi (.bi .add (.e 6) (.c (.n 1)))<|zp 1 []) (zs 0<|zn 1<|zs 2<|zn 3<|zs 29<|zn 22 []))<|
 zq (zi (.cs .v (.b true)) []) (zn 1<|zs 29<|zn 27 [])<|
 .ret⟩
def ir_impl_IsQuiddity:IF:=⟨[],1,3,[1],zq (zi (.cs .v (.b false)) []) (zs 0<|zn 2 [])<|
 zq (zp 1<|zi (.ca 204 [.e 0] 2)<|zp 5 []) (zn 2<|zs 4 [])<|
 zq (zp 2 []) (zn 1<|zs 2<|zn 1 [])<|
 .ret⟩
def ir_impl_SumOfFrieze:IF:=⟨[],1,14,[1],zq (zi (.cs .v (.n 0)) []) (zs 0<|zn 13 [])<|
 .seq (zq (zp 1<|zi (.ca 185 [.e 0] 1)<|zi (.un .not (.e 14)) []) (zs 0<|zn 4<|zs 15<|zn 8 [])<|
 .cond 5 (zq (zi (.cs .v (.n (-1))) []) (zn 1<|zs 14<|zn 12 [])<|
 .ret) .skip)<|
 zq (zi (.cs .v (.n 0)) []) (zs 0<|zn 1<|zs 14<|zn 11 [])<|
 .seq (zq (zp 1<|zi (.ln (.e 0) [])<|zi (.cs .v (.n 0)) []) (zn 2<|zs 2<|zn 3<|zs 0<|zs 14<|zs 15<|zn 5 [])<|
 .block 0<|.loop<|zq (zi (.bi .lss (.e 8) (.e 7)) []) (zn 2<|zs 2<|zn 3<|zs 6<|zs 7<|zs 8<|zs 14<|zn 4 [])<|
 .seq (.cond 9 .skip (.exit 0))<|
 .seq (.block 1<|zq (zi (.ix (.e 6) [] (.e 8))<|zp 2 []) (zn 2<|zs 2<|zs 14<|zn 2<|zs 6<|zs 7<|zs 8<|zn 5 [])<|
 zq (zp 1<|zi (.ln (.e 3) [])<|zi (.cs .v (.n 0)) []) (zn 2<|zs 2<|zn 3<|zs 6<|zs 7<|zs 8<|zn 1<|zs 3<|zs 14<|zs 15<|zn 1 [])<|
 .block 2<|.loop<|zq (zi (.bi .lss (.e 12) (.e 11)) []) (zn 2<|zs 2<|zn 3<|zs 6<|zs 7<|zs 8<|zn 1<|zs 10<|zs 11<|zs 12<|zs 14 [])<|
 .seq (.cond 13 .skip (.exit 2))<|
 .seq (.block 3<|zq (zi (.iy (.e 10) (.e 12))<|zp 2 []) (zn 2<|zs 2<|zn 1<|zs 14<|zn 1<|zs 6<|zs 7<|zs 8<|zn 1<|zs 10<|zs 11<|zs 12<|zn 1 [])<|
 .reg (zp 2<|zi (.bi .add (.e 2) (.e 4))<|zp 1 []) (zn 2<|zs 14<|zn 3<|zs 6<|zs 7<|zs 8<|zn 1<|zs 10<|zs 11<|zs 12<|zn 1 []))<|
 .reg (zi (.bi .add (.e 12) (.c (.n 1)))<|zp 1 []) (zn 2<|zs 2<|zn 3<|zs 6<|zs 7<|zs 8<|zn 1<|zs 10<|zs 11<|zs 14<|zn 1 []))<|
 .reg (zi (.bi .add (.e 8) (.c (.n 1)))<|zp 1 []) (zn 2<|zs 2<|zn 3<|zs 6<|zs 7<|zs 14<|zn 5 []))<|
 zq (zp 2 []) (zn 1<|zs 2<|zn 12 [])<|
 .ret⟩
def ir_impl_cuts:IF:=⟨[],1,23,[1,2],zq (zi (.cs (.o .v) (.l []))<|zi (.cs .v (.b false)) []) (zs 0<|zn 22 [])<|
 .seq (zq (zp 1<|zi (.ln (.e 0) [])<|zi (.ca 23 [.e 23,.c (.n 3),.c (.n 10)] 1)<|zi (.un .not (.e 24)) []) (zs 0<|zn 11<|zs 25<|zn 10 [])<|
 .cond 12 (zq (zi (.cs (.o .v) (.l []))<|zi (.cs .v (.b false)) []) (zn 1<|zs 23<|zs 24<|zn 20 [])<|
 .ret) .skip)<|
 .seq (zq (zp 1<|zi (.ln (.e 0) [])<|zi (.cs .v (.n 0)) []) (zs 0<|zn 12<|zs 0<|zs 23<|zs 24<|zn 7 [])<|
 .block 0<|.loop<|zq (zi (.bi .lss (.e 15) (.e 14)) []) (zs 0<|zn 12<|zs 13<|zs 14<|zs 15<|zs 23<|zn 6 [])<|
 .seq (.cond 16 .skip (.exit 0))<|
 .seq (.block 1<|zq (zi (.iy (.e 13) (.e 15))<|zp 2 []) (zs 0<|zn 2<|zs 23<|zn 9<|zs 13<|zs 14<|zs 15<|zn 7 [])<|
 zq (zp 1<|zi (.ca 23 [.e 3,.c (.n 1),.c (.n 100)] 1)<|zi (.un .not (.e 23)) []) (zs 0<|zn 12<|zs 13<|zs 14<|zs 15<|zn 1<|zs 24<|zn 5 [])<|
 .cond 17 (zq (zi (.cs (.o .v) (.l []))<|zi (.cs .v (.b false)) []) (zn 1<|zs 23<|zs 24<|zn 20 [])<|
 .ret) .skip)<|
 .reg (zi (.bi .add (.e 15) (.c (.n 1)))<|zp 1 []) (zs 0<|zn 12<|zs 13<|zs 14<|zs 23<|zn 7 []))<|
 zq (zp 1<|zi (.ca 75 [.e 0] 1)<|zp 1 []) (zs 0<|zn 3<|zs 23<|zn 18 [])<|
 zq (zi (.li (.o .v) [])<|zp 1 []) (zs 0<|zn 3<|zs 4<|zs 23<|zn 17 [])<|
 .seq (zq (zp 1<|zi (.ln (.e 0) [])<|zi (.cs .v (.n 0)) []) (zn 4<|zs 4<|zs 5<|zn 12<|zs 23<|zs 24<|zn 3 [])<|
 .block 2<|.loop<|zq (zi (.bi .lss (.e 19) (.e 18)) []) (zn 4<|zs 4<|zs 5<|zn 12<|zs 18<|zs 19<|zs 23<|zn 2 [])<|
 .seq (.cond 20 .skip (.exit 2))<|
 .seq (.block 3<|zq (zp 2 []) (zn 4<|zs 4<|zs 5<|zs 19<|zn 11<|zs 18<|zs 19<|zn 3 [])<|
 .reg (zp 2<|zi (.li (.o .v) [.e 6])<|zi (.ap false (.e 5) (.e 23))<|zp 1 []) (zn 4<|zs 4<|zs 24<|zn 12<|zs 18<|zs 19<|zn 3 []))<|
 .reg (zi (.bi .add (.e 19) (.c (.n 1)))<|zp 1 []) (zn 4<|zs 4<|zs 5<|zn 12<|zs 18<|zs 23<|zn 3 []))<|
 zq (zi (.li (.o .v) [])<|zp 1 []) (zn 4<|zs 4<|zs 5<|zn 1<|zs 23<|zn 15 [])<|
 .seq (.block 4<|.loop<|.seq (zq (zp 1<|zi (.ln (.e 4) [])<|zi (.bi .gtr (.e 23) (.c (.n 3))) []) (zn 4<|zs 4<|zs 5<|zn 1<|zs 7<|zn 13<|zs 24<|zn 1 [])<|
 .cond 21 .skip (.exit 4))<|
 .block 5<|zq (zp 1<|zi (.ca 179 [.e 4,.c (.n 1)] 1)<|zp 1 []) (zn 4<|zs 4<|zs 5<|zn 1<|zs 7<|zs 23<|zn 14 [])<|
 .seq (zq (zp 1<|zi (.bi .lss (.e 8) (.c (.n 0))) []) (zn 4<|zs 4<|zs 5<|zn 1<|zs 7<|zs 8<|zn 13<|zs 23 [])<|
 .cond 22 (zq (zi (.cs (.o .v) (.l []))<|zi (.cs .v (.b false)) []) (zn 1<|zs 23<|zs 24<|zn 20 [])<|
 .ret) .skip)<|
 zq (zp 1<|zi (.ln (.e 4) [])<|zp 1 []) (zn 4<|zs 4<|zs 5<|zn 1<|zs 7<|zs 8<|zs 23<|zn 13 [])<|
 zq (zp 2<|zi (.bi .add (.e 8) (.e 9))<|zi (.bi .sub (.e 23) (.c (.n 1)))<|zp 1<|zi (.bi .rem (.e 24) (.e 9))<|zp 1<|zi (.bi .add (.e 8) (.c (.n 1)))<|zp 1<|zi (.bi .rem (.e 26) (.e 9))<|zp 2 []) (zn 4<|zs 4<|zs 5<|zn 1<|zs 7<|zs 8<|zn 1<|zs 25<|zs 27<|zn 11 [])<|
 zq (zp 2<|zi (.ix (.e 4) [] (.e 10))<|zp 1<|zi (.bi .sub (.e 23) (.c (.n 1)))<|zi (.ix (.e 4) [] (.e 10))<|zi (.up 4 [.e 10] (.e 24)) []) (zn 4<|zs 26<|zs 5<|zn 1<|zs 7<|zs 8<|zn 1<|zs 10<|zs 11<|zn 11 [])<|
 zq (zp 2<|zi (.ix (.e 4) [] (.e 11))<|zp 1<|zi (.bi .sub (.e 23) (.c (.n 1)))<|zi (.ix (.e 4) [] (.e 11))<|zi (.up 4 [.e 11] (.e 24)) []) (zn 4<|zs 26<|zs 5<|zn 1<|zs 7<|zs 8<|zn 1<|zs 10<|zs 11<|zn 11 [])<|
 zq (zp 3<|zi (.ix (.e 5) [] (.e 10))<|zp 3<|zi (.ix (.e 5) [] (.e 11))<|zp 1<|zi (.mn (.e 23) (.e 24))<|zp 2<|zi (.ix (.e 5) [] (.e 10))<|zp 3<|zi (.ix (.e 5) [] (.e 11))<|zp 1<|zi (.mx (.e 26) (.e 27))<|zi (.li (.o .v) [.e 25,.e 28])<|zi (.li (.o .v) [.e 29])<|zi (.ap false (.e 7) (.e 30))<|zp 1 []) (zn 4<|zs 4<|zs 5<|zn 1<|zs 31<|zs 8<|zn 14 [])<|
 zq (zp 3<|zi (.bi .add (.e 8) (.c (.n 1)))<|zi (.ca 212 [.e 4,.e 8,.e 23] 1)<|zp 1 []) (zn 4<|zs 24<|zs 5<|zn 1<|zs 7<|zs 8<|zn 14 [])<|
 .reg (zp 3<|zi (.bi .add (.e 8) (.c (.n 1)))<|zi (.ca 212 [.e 5,.e 8,.e 23] 1)<|zp 1 []) (zn 4<|zs 4<|zs 24<|zn 1<|zs 7<|zn 15 []))<|
 zq (zp 2<|zi (.li (.o .v) [.c (.n 1),.c (.n 1),.c (.n 1)])<|zi (.ca 72 [.e 4,.e 23] 1)<|zp 2 []) (zn 1<|zs 7<|zs 24<|zn 20 [])<|
 .ret⟩
end Go.Cat
namespace Go.Cat
def ir_impl_FriezeLine:IF:=⟨[],1,11,[1],zq (zi (.cs .v (.s [])) []) (zs 0<|zn 10 [])<|
 zq (zp 1<|zi (.ca 140 [.e 0] 2)<|zp 5 []) (zn 2<|zs 11<|zs 12<|zn 7 [])<|
 .seq (zq (zp 1<|zi (.un .not (.e 3)) []) (zn 2<|zs 2<|zn 3<|zs 11<|zn 4 [])<|
 .cond 6 (zq (zi (.cs .v (.s [])) []) (zn 1<|zs 11<|zn 9 [])<|
 .ret) .skip)<|
 zq (zi (.cs .v (.s [102,114,105,101,122,101])) []) (zn 2<|zs 2<|zn 1<|zs 11<|zn 6 [])<|
 .seq (zq (zp 2<|zi (.ln (.e 2) [])<|zi (.bi .sub (.e 11) (.c (.n 1)))<|zi (.sb false (.e 2) (some (.c (.n 1))) (some (.e 12)))<|zi (.ln (.e 13) [])<|zi (.cs .v (.n 0)) []) (zn 2<|zs 2<|zn 1<|zs 4<|zn 2<|zs 13<|zs 14<|zs 15<|zn 1 [])<|
 .block 0<|.loop<|zq (zi (.bi .lss (.e 9) (.e 8)) []) (zn 2<|zs 2<|zn 1<|zs 4<|zn 2<|zs 7<|zs 8<|zs 9<|zs 11 [])<|
 .seq (.cond 10 .skip (.exit 0))<|
 .seq (.block 1<|zq (zi (.ix (.e 7) [] (.e 9))<|zp 2 []) (zn 2<|zs 2<|zn 1<|zs 4<|zs 11<|zn 1<|zs 7<|zs 8<|zs 9<|zn 1 [])<|
 .reg (zp 2<|zi (.ca 142 [.e 5] 1)<|zi (.li (.o .v) [.e 4,.e 11])<|zi (.ca 141 [.e 12] 1)<|zp 1 []) (zn 2<|zs 2<|zn 1<|zs 13<|zn 2<|zs 7<|zs 8<|zs 9<|zn 1 []))<|
 .reg (zi (.bi .add (.e 9) (.c (.n 1)))<|zp 1 []) (zn 2<|zs 2<|zn 1<|zs 4<|zn 2<|zs 7<|zs 8<|zs 11<|zn 1 []))<|
 zq (zp 2<|zi (.ca 144 [.e 2] 1)<|zi (.ca 143 [.e 11] 1)<|zi (.li (.o .v) [.e 4,.c (.s [115,117,109]),.e 12])<|zi (.ca 141 [.e 13] 1)<|zp 1 []) (zn 1<|zs 14<|zn 9 [])<|
 .ret⟩
def ir_impl_line:IF:=⟨[],1,2,[1],zq (zi (.cs .v (.s [])) []) (zs 0<|zn 1 [])<|
 zq (zp 1<|zi (.ca 184 [.e 0,.c (.s [32])] 1)<|zp 1 []) (zn 1<|zs 2 [])<|
 .ret⟩
def ir_impl_list:IF:=⟨[],1,9,[1],zq (zi (.cs .v (.s [])) []) (zs 0<|zn 8 [])<|
 .seq (zq (zp 1<|zi (.ln (.e 0) [])<|zi (.bi .eql (.e 9) (.c (.n 0))) []) (zs 0<|zn 3<|zs 10<|zn 4 [])<|
 .cond 4 (zq (zi (.cs .v (.s [110,111,110,101])) []) (zn 1<|zs 9<|zn 7 [])<|
 .ret) .skip)<|
 zq (zi (.li (.o .v) [])<|zp 1 []) (zs 0<|zn 1<|zs 9<|zn 6 [])<|
 .seq (zq (zp 1<|zi (.ln (.e 0) [])<|zi (.cs .v (.n 0)) []) (zn 2<|zs 2<|zn 2<|zs 0<|zs 9<|zs 10<|zn 1 [])<|
 .block 0<|.loop<|zq (zi (.bi .lss (.e 7) (.e 6)) []) (zn 2<|zs 2<|zn 2<|zs 5<|zs 6<|zs 7<|zs 9 [])<|
 .seq (.cond 8 .skip (.exit 0))<|
 .seq (.block 1<|zq (zi (.iy (.e 5) (.e 7))<|zp 2 []) (zn 2<|zs 2<|zs 9<|zn 1<|zs 5<|zs 6<|zs 7<|zn 1 [])<|
 .reg (zp 2<|zi (.ca 143 [.e 3] 1)<|zi (.li (.o .v) [.e 9])<|zi (.ap false (.e 2) (.e 10))<|zp 1 []) (zn 2<|zs 11<|zn 2<|zs 5<|zs 6<|zs 7<|zn 1 []))<|
 .reg (zi (.bi .add (.e 7) (.c (.n 1)))<|zp 1 []) (zn 2<|zs 2<|zn 2<|zs 5<|zs 6<|zs 9<|zn 1 []))<|
 zq (zp 1<|zi (.ca 184 [.e 2,.c (.s [44])] 1)<|zp 1 []) (zn 1<|zs 9<|zn 7 [])<|
 .ret⟩
end Go.Cat
namespace Go.Cat
def ir_laws_FnExactFriezeLine:IF:=⟨[],1,8,[1],zq (zi (.cs .v (.b false)) []) (zs 0<|zn 7 [])<|
 .seq (zq (zp 1<|zi (.ln (.e 0) [])<|zi (.bi .gtr (.e 8) (.c (.n 1048576))) []) (zs 0<|zn 4<|zs 9<|zn 2 [])<|
 .cond 5 (zq (zi (.cs .v (.b true)) []) (zn 1<|zs 8<|zn 6 [])<|
 .ret) .skip)<|
 zq (zp 1<|zi (.ca 42 [.e 0] 1)<|zi (.ca 113 [.e 8] 1)<|zp 1 []) (zs 0<|zn 1<|zs 9<|zn 5 [])<|
 zq (zp 1<|zi (.ca 42 [.e 0] 1)<|zp 1 []) (zs 0<|zn 1<|zs 2<|zs 8<|zn 4 [])<|
 zq (zp 1<|zi (.ca 114 [.e 3] 1)<|zp 1 []) (zs 0<|zn 1<|zs 2<|zs 3<|zs 8<|zn 3 [])<|
 .seq (zq (zp 2<|zi (.bi .neq (.e 4) (.e 2)) []) (zs 0<|zn 2<|zs 3<|zn 2<|zs 8<|zn 1 [])<|
 .cond 6 (zq (zi (.cs .v (.b false)) []) (zn 1<|zs 8<|zn 6 [])<|
 .ret) .skip)<|
 .seq (zq (zp 2<|zi (.ca 42 [.e 0] 1)<|zi (.ca 44 [.e 3,.e 8] 1)<|zi (.un .not (.e 9)) []) (zn 7<|zs 10 [])<|
 .cond 7 (zq (zi (.cs .v (.b false)) []) (zn 1<|zs 8<|zn 6 [])<|
 .ret) .skip)<|
 zq (zi (.cs .v (.b true)) []) (zn 1<|zs 8<|zn 6 [])<|
 .ret⟩
end Go.Cat
namespace Go.Cat
def ir_spec_FormatInt:IF:=⟨[],1,9,[1],zq (zi (.cs .v (.s [])) []) (zs 0<|zn 8 [])<|
 .seq (zq (zp 1<|zi (.bi .eql (.e 0) (.c (.n 0))) []) (zs 0<|zn 4<|zs 9<|zn 3 [])<|
 .cond 5 (zq (zi (.cs .v (.s [48])) []) (zn 1<|zs 9<|zn 7 [])<|
 .ret) .skip)<|
 zq (zi (.cs .v (.s [])) []) (zs 0<|zn 1<|zs 9<|zn 6 [])<|
 zq (zp 1<|zi (.bi .lss (.e 0) (.c (.n 0)))<|zp 1 []) (zs 0<|zn 1<|zs 2<|zs 9<|zn 5 [])<|
 .seq (.block 0<|.loop<|.seq (zq (zp 1<|zi (.bi .neq (.e 0) (.c (.n 0))) []) (zs 0<|zn 1<|zs 2<|zs 3<|zn 2<|zs 9<|zn 2 [])<|
 .cond 6 .skip (.exit 0))<|
 .block 1<|zq (zp 1<|zi (.bi .rem (.e 0) (.c (.n 10)))<|zp 1 []) (zs 0<|zn 1<|zs 2<|zs 3<|zs 9<|zn 4 [])<|
 .seq (zq (zp 1<|zi (.bi .lss (.e 4) (.c (.n 0))) []) (zs 0<|zn 1<|zs 2<|zs 3<|zs 4<|zn 2<|zs 9<|zn 1 [])<|
 .cond 7 (.reg (zp 1<|zi (.un .neg (.e 4))<|zp 1 []) (zs 0<|zn 1<|zs 2<|zs 3<|zs 9<|zn 4 [])) .skip)<|
 zq (zp 1<|zi (.bi .add (.c (.n 48)) (.e 4))<|zi (.cv .u8 (.e 9))<|zi (.li (.o .v) [.e 10])<|zi (.bs (.e 11))<|zp 1<|zi (.bi .add (.e 12) (.e 2))<|zp 1 []) (zs 0<|zn 1<|zs 13<|zs 3<|zn 5 [])<|
 .reg (zp 1<|zi (.bi .quo (.e 0) (.c (.n 10)))<|zp 1 []) (zs 9<|zn 1<|zs 2<|zs 3<|zn 5 []))<|
 .seq (zq (zp 1 []) (zn 2<|zs 2<|zn 5<|zs 3 [])<|
 .cond 8 (zq (zp 1<|zi (.bi .add (.c (.s [45])) (.e 2))<|zp 1 []) (zn 1<|zs 9<|zn 7 [])<|
 .ret) .skip)<|
 zq (zp 2 []) (zn 1<|zs 2<|zn 7 [])<|
 .ret⟩
def ir_spec_l1In:IF:=⟨[],3,4,[3],zq (zi (.cs .v (.b false)) []) (zs 0<|zs 1<|zs 2<|zn 1 [])<|
 zq (zp 2<|zi (.bi .geq (.e 0) (.e 1))<|zp 1<|zg [(4,true)] (.cy (.e 0))<|zg [(4,true)] (.cy (.e 2))<|zg [(4,true)] (.bi .leq (.e 5) (.e 6))<|zi (.pk (.e 4) (.e 7) (.c (.b false)))<|zp 1 []) (zn 3<|zs 8 [])<|
 .ret⟩
end Go.Cat
namespace Go.Cat
def ir_spec_FriezeOf:IF:=⟨[],1,6,[1,2],zq (zi (.cs (.o .v) (.l []))<|zi (.cs .v (.b false)) []) (zs 0<|zn 5 [])<|
 .seq (zq (zp 1<|zi (.ca 180 [.e 0] 1)<|zi (.un .not (.e 6)) []) (zs 0<|zn 3<|zs 7<|zn 1 [])<|
 .cond 4 (zq (zi (.li (.o .v) [])<|zp 1<|zi (.cs .v (.b false)) []) (zn 1<|zs 6<|zs 7<|zn 3 [])<|
 .ret) .skip)<|
 zq (zp 1<|zi (.ca 181 [.e 0] 1)<|zp 1 []) (zn 3<|zs 6<|zn 2 [])<|
 .seq (zq (zp 1<|zi (.ca 182 [.e 3] 1)<|zi (.un .not (.e 6)) []) (zn 3<|zs 3<|zn 1<|zs 7 [])<|
 .cond 5 (zq (zi (.li (.o .v) [])<|zp 1<|zi (.cs .v (.b false)) []) (zn 1<|zs 6<|zs 7<|zn 3 [])<|
 .ret) .skip)<|
 zq (zp 2<|zi (.cs .v (.b true)) []) (zn 1<|zs 3<|zs 6<|zn 3 [])<|
 .ret⟩
def ir_spec_IsFrieze:IF:=⟨[],1,16,[1],zq (zi (.cs .v (.b false)) []) (zs 0<|zn 15 [])<|
 zq (zp 1<|zi (.ln (.e 0) [])<|zi (.bi .sub (.e 16) (.c (.n 1)))<|zp 1 []) (zs 0<|zn 1<|zs 17<|zn 13 [])<|
 .seq (zq (zp 1<|zi (.ca 22 [.e 2,.c (.n 3),.c (.n 10)] 1)<|zi (.un .not (.e 16)) []) (zs 0<|zn 1<|zs 2<|zn 5<|zs 17<|zn 7 [])<|
 .cond 8 (zq (zi (.cs .v (.b false)) []) (zn 1<|zs 16<|zn 14 [])<|
 .ret) .skip)<|
 .seq (zq (zi (.cs .v (.n 0)) []) (zs 0<|zn 1<|zs 2<|zs 16<|zn 12 [])<|
 .block 0<|.loop<|.seq (zq (zp 2<|zi (.bi .leq (.e 3) (.e 2)) []) (zs 0<|zn 1<|zs 2<|zs 3<|zn 5<|zs 16<|zn 6 [])<|
 .cond 9 .skip (.exit 0))<|
 .seq (.block 1<|.seq (zq (zp 2<|zi (.ix (.e 0) [] (.e 3))<|zp 1<|zi (.ln (.e 16) [])<|zp 1<|zi (.bi .neq (.e 17) (.e 2)) []) (zs 0<|zn 1<|zs 2<|zs 3<|zn 6<|zs 18<|zn 5 [])<|
 .cond 10 (zq (zi (.cs .v (.b false)) []) (zn 1<|zs 16<|zn 14 [])<|
 .ret) .skip)<|
 zq (zi (.cs .v (.n 0)) []) (zs 0<|zn 1<|zs 2<|zs 3<|zs 16<|zn 11 [])<|
 .block 2<|.loop<|.seq (zq (zp 2<|zi (.bi .lss (.e 4) (.e 2)) []) (zs 0<|zn 1<|zs 2<|zs 3<|zs 4<|zn 6<|zs 16<|zn 4 [])<|
 .cond 11 .skip (.exit 2))<|
 .seq (.block 3<|zq (zp 1<|zi (.bi .eql (.e 3) (.c (.n 0)))<|zp 1<|zg [(16,false)] (.cy (.e 3))<|zg [(16,false)] (.cy (.e 2))<|zg [(16,false)] (.bi .eql (.e 17) (.e 18))<|zi (.pk (.e 16) (.c (.b true)) (.e 19))<|zp 1 []) (zs 0<|zn 1<|zs 2<|zs 3<|zs 4<|zs 20<|zn 10 [])<|
 zq (zp 2<|zg [(5,true)] .nop<|zg [(5,true)] (.cy (.e 3))<|zg [(5,true)] (.ix (.e 0) [] (.e 16))<|zg [(5,true)] .nop<|zg [(5,true)] (.cy (.e 4))<|zg [(5,true)] (.iy (.e 17) (.e 18))<|zg [(5,true)] .nop<|zg [(5,true)] (.bi .neq (.e 19) (.c (.n 0)))<|zi (.pk (.e 5) (.e 20) (.c (.b false)))<|zp 1<|zg [(21,false)] (.cy (.e 5))<|zg [(21,false)] (.un .not (.e 22))<|zg [(21,false)] (.cy (.e 23))<|zg [(21,false),(24,true)] .nop<|zg [(21,false),(24,true)] (.cy (.e 3))<|zg [(21,false),(24,true)] (.ix (.e 0) [] (.e 25))<|zg [(21,false),(24,true)] .nop<|zg [(21,false),(24,true)] (.cy (.e 4))<|zg [(21,false),(24,true)] (.iy (.e 26) (.e 27))<|zg [(21,false),(24,true)] .nop<|zg [(21,false),(24,true)] (.ca 22 [.e 28,.c (.n 1),.c (.n 100000)] 1)<|zg [(21,false),(24,true)] (.un .not (.e 29))<|zg [(21,false)] (.pk (.e 24) (.e 30) (.c (.b false)))<|zi (.pk (.e 21) (.c (.b true)) (.e 31))<|zp 1<|zg [(32,false)] (.cy (.e 3))<|zg [(32,false)] (.bi .eql (.e 33) (.c (.n 1)))<|zg [(32,false)] (.cy (.e 34))<|zg [(32,false),(35,false)] (.cy (.e 3))<|zg [(32,false),(35,false)] (.cy (.e 2))<|zg [(32,false),(35,false)] (.bi .sub (.e 37) (.c (.n 1)))<|zg [(32,false),(35,false)] (.bi .eql (.e 36) (.e 38))<|zg [(32,false)] (.pk (.e 35) (.c (.b true)) (.e 39))<|zg [(32,false)] (.cy (.e 40))<|zg [(32,false),(41,true)] .nop<|zg [(32,false),(41,true)] (.cy (.e 3))<|zg [(32,false),(41,true)] (.ix (.e 0) [] (.e 42))<|zg [(32,false),(41,true)] .nop<|zg [(32,false),(41,true)] (.cy (.e 4))<|zg [(32,false),(41,true)] (.iy (.e 43) (.e 44))<|zg [(32,false),(41,true)] .nop<|zg [(32,false),(41,true)] (.bi .neq (.e 45) (.c (.n 1)))<|zg [(32,false)] (.pk (.e 41) (.e 46) (.c (.b false)))<|zi (.pk (.e 32) (.c (.b true)) (.e 47)) []) (zs 0<|zn 1<|zs 2<|zs 3<|zs 4<|zn 7<|zs 48<|zn 3 [])<|
 .cond 12 (zq (zi (.cs .v (.b false)) []) (zn 1<|zs 16<|zn 14 [])<|
 .ret) .skip)<|
 .reg (zp 1<|zi (.bi .add (.e 4) (.c (.n 1)))<|zp 1 []) (zs 0<|zn 1<|zs 2<|zs 3<|zs 16<|zn 11 []))<|
 .reg (zp 1<|zi (.bi .add (.e 3) (.c (.n 1)))<|zp 1 []) (zs 0<|zn 1<|zs 2<|zs 16<|zn 12 []))<|
 .seq (zq (zi (.cs .v (.n 1)) []) (zs 0<|zn 1<|zs 2<|zn 3<|zs 16<|zn 9 [])<|
 .block 4<|.loop<|.seq (zq (zp 2<|zi (.bi .lss (.e 6) (.e 2)) []) (zs 0<|zn 1<|zs 2<|zn 3<|zs 6<|zn 6<|zs 16<|zn 2 [])<|
 .cond 13 .skip (.exit 4))<|
 .seq (.block 5<|zq (zi (.cs .v (.n 0)) []) (zs 0<|zn 1<|zs 2<|zn 3<|zs 6<|zs 16<|zn 8 [])<|
 .block 6<|.loop<|.seq (zq (zp 2<|zi (.bi .lss (.e 7) (.e 2)) []) (zs 0<|zn 1<|zs 2<|zn 3<|zs 6<|zs 7<|zn 6<|zs 16<|zn 1 [])<|
 .cond 14 .skip (.exit 6))<|
 .seq (.block 7<|zq (zp 2<|zi (.ix (.e 0) [] (.e 6))<|zp 2<|zi (.iy (.e 16) (.e 7))<|zp 3<|zi (.ix (.e 0) [] (.e 6))<|zp 2<|zi (.bi .add (.e 7) (.c (.n 1)))<|zp 1<|zi (.bi .rem (.e 19) (.e 2))<|zi (.iy (.e 18) (.e 20))<|zp 1<|zi (.bi .mul (.e 17) (.e 21))<|zp 2<|zi (.bi .sub (.e 6) (.c (.n 1)))<|zi (.ix (.e 0) [] (.e 23))<|zp 2<|zi (.bi .add (.e 7) (.c (.n 1)))<|zp 1<|zi (.bi .rem (.e 25) (.e 2))<|zi (.iy (.e 24) (.e 26))<|zp 3<|zi (.bi .add (.e 6) (.c (.n 1)))<|zi (.ix (.e 0) [] (.e 28))<|zp 2<|zi (.iy (.e 29) (.e 7))<|zp 1<|zi (.bi .mul (.e 27) (.e 30))<|zi (.bi .sub (.e 22) (.e 31))<|zi (.bi .neq (.e 32) (.c (.n 1))) []) (zs 0<|zn 1<|zs 2<|zn 3<|zs 6<|zs 7<|zn 7<|zs 33 [])<|
 .cond 15 (zq (zi (.cs .v (.b false)) []) (zn 1<|zs 16<|zn 14 [])<|
 .ret) .skip)<|
 .reg (zp 1<|zi (.bi .add (.e 7) (.c (.n 1)))<|zp 1 []) (zs 0<|zn 1<|zs 2<|zn 3<|zs 6<|zs 16<|zn 8 []))<|
 .reg (zp 1<|zi (.bi .add (.e 6) (.c (.n 1)))<|zp 1 []) (zs 0<|zn 1<|zs 2<|zn 3<|zs 16<|zn 9 []))<|
 zq (zi (.cs .v (.b true)) []) (zn 1<|zs 16<|zn 14 [])<|
 .ret⟩
def ir_spec_SumOfFrieze:IF:=⟨[],1,8,[1],zq (zi (.cs .v (.n 0)) []) (zs 0<|zn 7 [])<|
 .seq (zq (zp 1<|zi (.ca 182 [.e 0] 1)<|zi (.un .not (.e 8)) []) (zs 0<|zn 4<|zs 9<|zn 2 [])<|
 .cond 5 (zq (zi (.cs .v (.n (-1))) []) (zn 1<|zs 8<|zn 6 [])<|
 .ret) .skip)<|
 zq (zi (.cs .v (.n 0)) []) (zs 0<|zn 1<|zs 8<|zn 5 [])<|
 .seq (zq (zi (.cs .v (.n 0)) []) (zs 0<|zn 1<|zs 2<|zs 8<|zn 4 [])<|
 .block 0<|.loop<|.seq (zq (zp 2<|zi (.ln (.e 0) [])<|zi (.bi .lss (.e 3) (.e 8)) []) (zs 0<|zn 1<|zs 2<|zs 3<|zn 2<|zs 9<|zn 1 [])<|
 .cond 6 .skip (.exit 0))<|
 .seq (.block 1<|zq (zi (.cs .v (.n 0)) []) (zs 0<|zn 1<|zs 2<|zs 3<|zs 8<|zn 3 [])<|
 .block 2<|.loop<|.seq (zq (zp 3<|zi (.ix (.e 0) [] (.e 3))<|zp 1<|zi (.ln (.e 8) [])<|zi (.bi .lss (.e 4) (.e 9)) []) (zs 0<|zn 1<|zs 2<|zs 3<|zs 4<|zn 2<|zs 10 [])<|
 .cond 7 .skip (.exit 2))<|
 .seq (.block 3<|.reg (zp 3<|zi (.ix (.e 0) [] (.e 3))<|zp 2<|zi (.iy (.e 8) (.e 4))<|zp 1<|zi (.bi .add (.e 2) (.e 9))<|zp 1 []) (zs 0<|zn 1<|zs 10<|zs 3<|zs 4<|zn 3 []))<|
 .reg (zp 1<|zi (.bi .add (.e 4) (.c (.n 1)))<|zp 1 []) (zs 0<|zn 1<|zs 2<|zs 3<|zs 8<|zn 3 []))<|
 .reg (zp 1<|zi (.bi .add (.e 3) (.c (.n 1)))<|zp 1 []) (zs 0<|zn 1<|zs 2<|zs 8<|zn 4 []))<|
 zq (zp 2 []) (zn 1<|zs 2<|zn 6 [])<|
 .ret⟩
def ir_spec_l22Fine:IF:=⟨[],1,5,[1],zq (zi (.cs .v (.b false)) []) (zs 0<|zn 4 [])<|
 .seq (zq (zi (.cs .v (.n 0)) []) (zs 0<|zn 1<|zs 5<|zn 2 [])<|
 .block 0<|.loop<|.seq (zq (zp 2<|zi (.ln (.e 0) [])<|zi (.bi .lss (.e 2) (.e 5)) []) (zs 0<|zn 1<|zs 2<|zs 6<|zn 1 [])<|
 .cond 3 .skip (.exit 0))<|
 .seq (.block 1<|zq (zp 2<|zi (.iy (.e 0) (.e 2))<|zp 1<|zi (.ca 22 [.e 5,.c (.n 1),.c (.n 100)] 1)<|zi (.un .not (.e 6)) []) (zs 0<|zn 1<|zs 2<|zn 1<|zs 7 [])<|
 .cond 4 (zq (zi (.cs .v (.b false)) []) (zn 1<|zs 5<|zn 3 [])<|
 .ret) .skip)<|
 .reg (zp 1<|zi (.bi .add (.e 2) (.c (.n 1)))<|zp 1 []) (zs 0<|zn 1<|zs 5<|zn 2 []))<|
 zq (zp 1<|zi (.ln (.e 0) [])<|zi (.ca 22 [.e 5,.c (.n 3),.c (.n 10)] 1)<|zp 1 []) (zn 1<|zs 6<|zn 3 [])<|
 .ret⟩
def ir_spec_l22Rows:IF:=⟨[],1,16,[1],zq (zi (.cs (.o .v) (.l [])) []) (zs 0<|zn 15 [])<|
 zq (zp 1<|zi (.ln (.e 0) [])<|zp 1 []) (zs 0<|zn 1<|zs 16<|zn 13 [])<|
 zq (zp 1<|zi (.mk (.n 0) (.e 2) (.e 2))<|zp 1 []) (zs 0<|zn 1<|zs 2<|zs 16<|zn 12 [])<|
 zq (zi (.li (.o .v) [])<|zp 1 []) (zs 0<|zn 1<|zs 2<|zs 3<|zs 16<|zn 11 [])<|
 .seq (zq (zi (.cs .v (.n 0)) []) (zs 0<|zn 1<|zs 2<|zs 3<|zs 4<|zs 16<|zn 10 [])<|
 .block 0<|.loop<|.seq (zq (zp 2<|zi (.bi .lss (.e 5) (.e 2)) []) (zs 0<|zn 1<|zs 2<|zs 3<|zs 4<|zs 5<|zn 6<|zs 16<|zn 3 [])<|
 .cond 12 .skip (.exit 0))<|
 .seq (.block 1<|.reg (zp 1<|zi (.li (.o .v) [.c (.n 1)])<|zi (.ap false (.e 4) (.e 16))<|zp 1 []) (zs 0<|zn 1<|zs 2<|zs 3<|zs 17<|zs 5<|zn 10 []))<|
 .reg (zp 1<|zi (.bi .add (.e 5) (.c (.n 1)))<|zp 1 []) (zs 0<|zn 1<|zs 2<|zs 3<|zs 4<|zs 16<|zn 10 []))<|
 zq (zp 2<|zi (.li (.o .v) [])<|zp 1<|zi (.ap true (.e 16) (.e 0))<|zi (.li (.o .v) [.e 3,.e 4,.e 17])<|zp 1 []) (zn 2<|zs 2<|zn 3<|zs 18<|zn 9 [])<|
 .seq (zq (zi (.cs .v (.n 3)) []) (zn 2<|zs 2<|zn 3<|zs 6<|zs 16<|zn 8 [])<|
 .block 2<|.loop<|.seq (zq (zp 2<|zi (.bi .leq (.e 7) (.e 2)) []) (zn 2<|zs 2<|zn 3<|zs 6<|zs 7<|zn 5<|zs 16<|zn 2 [])<|
 .cond 13 .skip (.exit 2))<|
 .seq (.block 3<|zq (zi (.li (.o .v) [])<|zp 1 []) (zn 2<|zs 2<|zn 3<|zs 6<|zs 7<|zs 16<|zn 7 [])<|
 .seq (zq (zi (.cs .v (.n 0)) []) (zn 2<|zs 2<|zn 3<|zs 6<|zs 7<|zs 8<|zs 16<|zn 6 [])<|
 .block 4<|.loop<|.seq (zq (zp 2<|zi (.bi .lss (.e 9) (.e 2)) []) (zn 2<|zs 2<|zn 3<|zs 6<|zs 7<|zs 8<|zs 9<|zn 4<|zs 16<|zn 1 [])<|
 .cond 14 .skip (.exit 4))<|
 .seq (.block 5<|zq (zp 2<|zi (.bi .sub (.e 7) (.c (.n 1)))<|zi (.ix (.e 6) [] (.e 16))<|zp 2<|zi (.ix (.e 17) [] (.e 9))<|zp 3<|zi (.bi .sub (.e 7) (.c (.n 1)))<|zi (.ix (.e 6) [] (.e 19))<|zp 2<|zi (.bi .add (.e 9) (.c (.n 1)))<|zp 1<|zi (.bi .rem (.e 21) (.e 2))<|zi (.ix (.e 20) [] (.e 22))<|zp 1<|zi (.bi .mul (.e 18) (.e 23))<|zi (.bi .sub (.e 24) (.c (.n 1)))<|zp 1 []) (zn 2<|zs 2<|zn 3<|zs 6<|zs 7<|zs 8<|zs 9<|zs 25<|zn 5 [])<|
 zq (zp 2<|zi (.bi .sub (.e 7) (.c (.n 2)))<|zi (.ix (.e 6) [] (.e 16))<|zp 2<|zi (.bi .add (.e 9) (.c (.n 1)))<|zp 1<|zi (.bi .rem (.e 18) (.e 2))<|zi (.ix (.e 17) [] (.e 19))<|zp 2 []) (zn 2<|zs 2<|zn 3<|zs 6<|zs 7<|zs 8<|zs 9<|zs 10<|zs 20<|zn 4 [])<|
 .seq (zq (zp 1<|zi (.bi .lss (.e 11) (.c (.n 1)))<|zp 1<|zg [(16,false)] (.cy (.e 10))<|zg [(16,false)] (.cy (.e 11))<|zg [(16,false)] (.bi .rem (.e 17) (.e 18))<|zg [(16,false)] (.bi .neq (.e 19) (.c (.n 0)))<|zi (.pk (.e 16) (.c (.b true)) (.e 20))<|zp 1<|zg [(21,false)] (.cy (.e 10))<|zg [(21,false)] (.cy (.e 11))<|zg [(21,false)] (.bi .quo (.e 22) (.e 23))<|zg [(21,false)] (.bi .lss (.e 24) (.c (.n 0)))<|zi (.pk (.e 21) (.c (.b true)) (.e 25))<|zp 1<|zg [(26,false)] (.cy (.e 10))<|zg [(26,false)] (.cy (.e 11))<|zg [(26,false)] (.bi .quo (.e 27) (.e 28))<|zg [(26,false)] (.bi .gtr (.e 29) (.c (.n 100000)))<|zi (.pk (.e 26) (.c (.b true)) (.e 30)) []) (zn 2<|zs 2<|zn 3<|zs 6<|zs 7<|zs 8<|zs 9<|zs 10<|zs 11<|zn 3<|zs 31 [])<|
 .cond 15 (zq (zi (.li (.o .v) [])<|zp 1 []) (zn 1<|zs 16<|zn 14 [])<|
 .ret) .skip)<|
 .reg (zp 3<|zi (.bi .quo (.e 10) (.e 11))<|zi (.li (.o .v) [.e 16])<|zi (.ap false (.e 8) (.e 17))<|zp 1 []) (zn 2<|zs 2<|zn 3<|zs 6<|zs 7<|zs 18<|zs 9<|zn 6 []))<|
 .reg (zp 1<|zi (.bi .add (.e 9) (.c (.n 1)))<|zp 1 []) (zn 2<|zs 2<|zn 3<|zs 6<|zs 7<|zs 8<|zs 16<|zn 6 []))<|
 .reg (zp 2<|zi (.li (.o .v) [.e 8])<|zi (.ap false (.e 6) (.e 16))<|zp 1 []) (zn 2<|zs 2<|zn 3<|zs 17<|zs 7<|zn 8 []))<|
 .reg (zp 1<|zi (.bi .add (.e 7) (.c (.n 1)))<|zp 1 []) (zn 2<|zs 2<|zn 3<|zs 6<|zs 16<|zn 8 []))<|
 zq (zp 2 []) (zn 1<|zs 6<|zn 14 [])<|
 .ret⟩
end Go.Cat
namespace Go.Cat
def ir_spec_FriezeLine:IF:=⟨[],1,8,[1],zq (zi (.cs .v (.s [])) []) (zs 0<|zn 7 [])<|
 zq (zp 1<|zi (.ca 136 [.e 0] 2)<|zp 5 []) (zn 2<|zs 8<|zs 9<|zn 4 [])<|
 .seq (zq (zp 1<|zi (.un .not (.e 3)) []) (zn 2<|zs 2<|zn 3<|zs 8<|zn 1 [])<|
 .cond 6 (zq (zi (.cs .v (.s [])) []) (zn 1<|zs 8<|zn 6 [])<|
 .ret) .skip)<|
 zq (zi (.cs .v (.s [102,114,105,101,122,101])) []) (zn 2<|zs 2<|zn 1<|zs 8<|zn 3 [])<|
 .seq (zq (zi (.cs .v (.n 1)) []) (zn 2<|zs 2<|zn 1<|zs 4<|zs 8<|zn 2 [])<|
 .block 0<|.loop<|.seq (zq (zp 1<|zi (.bi .add (.e 5) (.c (.n 1)))<|zp 1<|zi (.ln (.e 2) [])<|zi (.bi .lss (.e 8) (.e 9)) []) (zn 2<|zs 2<|zn 1<|zs 4<|zs 5<|zn 1<|zs 10 [])<|
 .cond 7 .skip (.exit 0))<|
 .seq (.block 1<|.reg (zp 1<|zi (.bi .add (.e 4) (.c (.s [32])))<|zp 2<|zi (.ix (.e 2) [] (.e 5))<|zp 1<|zi (.ca 137 [.e 9] 1)<|zi (.bi .add (.e 8) (.e 10))<|zp 1 []) (zn 2<|zs 2<|zn 1<|zs 11<|zs 5<|zn 2 []))<|
 .reg (zp 1<|zi (.bi .add (.e 5) (.c (.n 1)))<|zp 1 []) (zn 2<|zs 2<|zn 1<|zs 4<|zs 8<|zn 2 []))<|
 zq (zp 1<|zi (.bi .add (.e 4) (.c (.s [32,115,117,109,32])))<|zp 1<|zi (.ca 139 [.e 2] 1)<|zi (.ca 138 [.e 9] 1)<|zi (.bi .add (.e 8) (.e 10))<|zp 1 []) (zn 1<|zs 11<|zn 6 [])<|
 .ret⟩
def ir_spec_l34Numbers:IF:=⟨[],1,7,[1],zq (zi (.cs .v (.s [])) []) (zs 0<|zn 6 [])<|
 zq (zi (.cs .v (.s [])) []) (zs 0<|zn 1<|zs 7<|zn 4 [])<|
 .seq (zq (zi (.cs .v (.n 0)) []) (zs 0<|zn 1<|zs 2<|zs 7<|zn 3 [])<|
 .block 0<|.loop<|.seq (zq (zp 2<|zi (.ln (.e 0) [])<|zi (.bi .lss (.e 3) (.e 7)) []) (zs 0<|zn 1<|zs 2<|zs 3<|zs 8<|zn 2 [])<|
 .cond 4 .skip (.exit 0))<|
 .seq (.block 1<|.seq (zq (zp 1<|zi (.bi .gtr (.e 3) (.c (.n 0))) []) (zs 0<|zn 1<|zs 2<|zs 3<|zn 1<|zs 7<|zn 1 [])<|
 .cond 5 (.reg (zp 1<|zi (.bi .add (.e 2) (.c (.s [44])))<|zp 1 []) (zs 0<|zn 1<|zs 7<|zs 3<|zn 3 [])) .skip)<|
 .reg (zp 3<|zi (.iy (.e 0) (.e 3))<|zp 1<|zi (.ca 138 [.e 7] 1)<|zi (.bi .add (.e 2) (.e 8))<|zp 1 []) (zs 0<|zn 1<|zs 9<|zs 3<|zn 3 []))<|
 .reg (zp 1<|zi (.bi .add (.e 3) (.c (.n 1)))<|zp 1 []) (zs 0<|zn 1<|zs 2<|zs 7<|zn 3 []))<|
 .seq (zq (zp 1<|zi (.bi .eql (.e 2) (.c (.s []))) []) (zn 2<|zs 2<|zn 3<|zs 7 [])<|
 .cond 6 (zq (zi (.cs .v (.s [110,111,110,101])) []) (zn 1<|zs 7<|zn 5 [])<|
 .ret) .skip)<|
 zq (zp 2 []) (zn 1<|zs 2<|zn 5 [])<|
 .ret⟩
end Go.Cat
namespace Go.Cat
end Go.Cat
namespace Go.Cat
end Go.Cat
namespace Go.Cat
end Go.Cat
namespace Go.Cat
end Go.Cat
namespace Go.Cat
end Go.Cat
namespace Go.Cat
end Go.Cat
namespace Go.Cat
end Go.Cat
namespace Go.Cat
end Go.Cat
namespace Go.Cat
end Go.Cat
namespace Go.Cat
end Go.Cat
namespace Go.Cat
end Go.Cat
namespace Go.Cat
end Go.Cat
namespace Go.Cat
end Go.Cat
namespace Go.Cat
end Go.Cat
namespace Go.Cat
end Go.Cat
namespace Go.Cat
end Go.Cat
namespace Go.Cat
end Go.Cat
namespace Go.Cat
end Go.Cat
namespace Go.Cat
end Go.Cat
namespace Go.Cat
end Go.Cat
namespace Go.Cat
end Go.Cat
namespace Go.Cat
end Go.Cat
namespace Go.Cat
end Go.Cat
namespace Go.Cat
end Go.Cat
namespace Go.Cat
end Go.Cat
namespace Go.Cat
end Go.Cat
namespace Go.Cat
end Go.Cat
namespace Go.Cat
end Go.Cat
namespace Go.Cat
end Go.Cat
namespace Go.Cat
end Go.Cat
namespace Go.Cat
end Go.Cat
namespace Go.Cat
end Go.Cat
namespace Go.Cat
end Go.Cat
namespace Go.Cat
end Go.Cat
namespace Go.Cat
end Go.Cat
namespace Go.Cat
end Go.Cat
namespace Go.Cat
end Go.Cat
namespace Go.Cat
end Go.Cat
namespace Go.Cat
end Go.Cat
namespace Go.Cat
end Go.Cat
namespace Go.Cat
end Go.Cat
namespace Go.Cat
end Go.Cat
namespace Go.Cat
end Go.Cat
namespace Go.Cat
end Go.Cat
