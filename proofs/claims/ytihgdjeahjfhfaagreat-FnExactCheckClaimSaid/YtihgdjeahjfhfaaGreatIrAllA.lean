/-
 Texts of the little language.
-/
import Derived.Test.YtihgdjeahjfhfaaGreatCatThree
set_option linter.unusedSimpArgs false
set_option linter.unusedVariables false
namespace Go.Cat
def zn:Nat→List (Option Nat)→List (Option Nat)
 | 0,l=>l
 | k+1,l=>none::zn k l
def zs (n:Nat) (l:List (Option Nat)):List (Option Nat):=some n::l
def zq (a:List It) (b:List (Option Nat)) (s:S):S:=.seq (.reg a b) s
def zi (p:Pr) (l:List It):List It:=⟨[],[],p⟩::l
def zg (g:List (Nat×Bool)) (p:Pr) (l:List It):List It:=⟨[],g,p⟩::l
def zp:Nat→List It→List It
 | 0,l=>l
 | k+1,l=>⟨[],[],.nop⟩::zp k l
def ir_impl_IsDyck:IF:=⟨[],1,4,[1],zq (zi (.cs .v (.b false)) []) (zs 0<|zn 3 [])<|
 .seq (zq (zp 1<|zi (.sn (.e 0))<|zi (.bi .gtr (.e 4) (.c (.n 16))) []) (zs 0<|zn 2<|zs 5 [])<|
 .cond 3 (zq (zi (.cs .v (.b false)) []) (zn 1<|zs 4<|zn 2 [])<|
 .ret) .skip)<|
 zq (zp 1<|zi (.ca 82 [.e 0] 2)<|zp 5 []) (zn 2<|zs 5<|zn 1 [])<|
 zq (zp 2 []) (zn 1<|zs 2<|zn 2 [])<|
 .ret⟩
def ir_impl_SizeOf:IF:=⟨[],1,3,[1],zq (zi (.cs .v (.n 0)) []) (zs 0<|zn 2 [])<|
 .seq (zq (zp 1<|zi (.ca 67 [.e 0] 1)<|zi (.un .not (.e 3)) []) (zs 0<|zn 1<|zs 4 [])<|
 .cond 2 (zq (zi (.cs .v (.n (-1))) []) (zn 1<|zs 3<|zn 1 [])<|
 .ret) .skip)<|
 zq (zp 1<|zi (.sn (.e 0))<|zi (.bi .quo (.e 3) (.c (.n 2)))<|zp 1 []) (zn 1<|zs 4<|zn 1 [])<|
 .ret⟩
def ir_impl_equalInts:IF:=⟨[],2,9,[2],zq (zi (.cs .v (.b false)) []) (zs 0<|zs 1<|zn 7 [])<|
 .seq (zq (zp 1<|zi (.ln (.e 0) [])<|zp 1<|zi (.ln (.e 1) [])<|zi (.bi .neq (.e 9) (.e 10)) []) (zs 0<|zs 1<|zn 2<|zs 11<|zn 4 [])<|
 .cond 4 (zq (zi (.cs .v (.b false)) []) (zn 2<|zs 9<|zn 6 [])<|
 .ret) .skip)<|
 .seq (zq (zp 1<|zi (.ln (.e 0) [])<|zi (.cs .v (.n 0)) []) (zs 0<|zs 1<|zn 3<|zs 9<|zs 10<|zn 2 [])<|
 .block 0<|.loop<|zq (zi (.bi .lss (.e 6) (.e 5)) []) (zs 0<|zs 1<|zn 3<|zs 5<|zs 6<|zs 9<|zn 1 [])<|
 .seq (.cond 7 .skip (.exit 0))<|
 .seq (.block 1<|zq (zp 2 []) (zs 0<|zs 1<|zn 1<|zs 6<|zn 1<|zs 5<|zs 6<|zn 2 [])<|
 zq (zp 2<|zi (.iy (.e 0) (.e 3))<|zp 3<|zi (.iy (.e 1) (.e 3))<|zp 1<|zi (.bi .neq (.e 9) (.e 10)) []) (zs 0<|zs 1<|zn 3<|zs 5<|zs 6<|zn 1<|zs 11 [])<|
 .cond 8 (zq (zi (.cs .v (.b false)) []) (zn 2<|zs 9<|zn 6 [])<|
 .ret) .skip)<|
 .reg (zi (.bi .add (.e 6) (.c (.n 1)))<|zp 1 []) (zs 0<|zs 1<|zn 3<|zs 5<|zs 9<|zn 2 []))<|
 zq (zi (.cs .v (.b true)) []) (zn 2<|zs 9<|zn 6 [])<|
 .ret⟩
def ir_impl_heights:IF:=⟨[],1,11,[1,2],zq (zi (.cs (.o .v) (.l []))<|zi (.cs .v (.b false)) []) (zs 0<|zn 10 [])<|
 zq (zi (.li (.o .v) [.c (.n 0)])<|zp 1 []) (zs 0<|zn 2<|zs 11<|zn 7 [])<|
 zq (zi (.cs .v (.n 0)) []) (zs 0<|zn 2<|zs 3<|zs 11<|zn 6 [])<|
 .seq (zq (zi (.cs .v (.n 0)) []) (zs 0<|zn 2<|zs 3<|zs 4<|zs 11<|zn 5 [])<|
 .block 0<|.loop<|.seq (zq (zp 2<|zi (.sn (.e 0))<|zi (.bi .lss (.e 5) (.e 11)) []) (zs 0<|zn 2<|zs 3<|zs 4<|zs 5<|zs 12<|zn 4 [])<|
 .cond 6 .skip (.exit 0))<|
 .seq (.block 1<|.seq (zq (zp 2<|zi (.sx (.e 0) (.e 5)) []) (zs 0<|zn 2<|zs 3<|zs 4<|zs 5<|zn 1<|zs 11<|zn 3 [])<|
 .block 2<|zq (zi (.bi .eql (.e 7) (.c (.y 117)))<|zp 1 []) (zs 0<|zn 2<|zs 3<|zs 4<|zs 5<|zn 1<|zs 7<|zs 11<|zn 2 [])<|
 .cond 8 (.reg (zp 1<|zi (.bi .add (.e 4) (.c (.n 1)))<|zp 1 []) (zs 0<|zn 2<|zs 3<|zs 11<|zs 5<|zn 5 [])) (zq (zi (.bi .eql (.e 7) (.c (.y 100)))<|zp 1 []) (zs 0<|zn 2<|zs 3<|zs 4<|zs 5<|zn 3<|zs 11<|zn 1 [])<|
 .cond 9 (.reg (zp 1<|zi (.bi .sub (.e 4) (.c (.n 1)))<|zp 1 []) (zs 0<|zn 2<|zs 3<|zs 11<|zs 5<|zn 5 [])) (zq (zi (.cs (.o .v) (.l []))<|zi (.cs .v (.b false)) []) (zn 1<|zs 11<|zs 12<|zn 8 [])<|
 .ret)))<|
 .seq (zq (zp 1<|zi (.bi .lss (.e 4) (.c (.n 0))) []) (zs 0<|zn 2<|zs 3<|zs 4<|zs 5<|zn 4<|zs 11 [])<|
 .cond 10 (zq (zi (.cs (.o .v) (.l []))<|zi (.cs .v (.b false)) []) (zn 1<|zs 11<|zs 12<|zn 8 [])<|
 .ret) .skip)<|
 .reg (zp 2<|zi (.li (.o .v) [.e 4])<|zi (.ap false (.e 3) (.e 11))<|zp 1 []) (zs 0<|zn 2<|zs 12<|zs 4<|zs 5<|zn 5 []))<|
 .reg (zp 1<|zi (.bi .add (.e 5) (.c (.n 1)))<|zp 1 []) (zs 0<|zn 2<|zs 3<|zs 4<|zs 11<|zn 5 []))<|
 zq (zp 2<|zi (.bi .eql (.e 4) (.c (.n 0)))<|zp 2 []) (zn 1<|zs 3<|zs 11<|zn 8 [])<|
 .ret⟩
end Go.Cat
namespace Go.Cat
end Go.Cat
namespace Go.Cat
end Go.Cat
namespace Go.Cat
def ir_spec_IsDyck:IF:=⟨[],1,9,[1],zq (zi (.cs .v (.b false)) []) (zs 0<|zn 8 [])<|
 zq (zi (.cs .v (.n 0)) []) (zs 0<|zn 1<|zs 9<|zn 6 [])<|
 .seq (zq (zi (.cs .v (.n 0)) []) (zs 0<|zn 1<|zs 2<|zs 9<|zn 5 [])<|
 .block 0<|.loop<|.seq (zq (zp 2<|zi (.sn (.e 0))<|zi (.bi .lss (.e 3) (.e 9)) []) (zs 0<|zn 1<|zs 2<|zs 3<|zs 10<|zn 4 [])<|
 .cond 4 .skip (.exit 0))<|
 .seq (.block 1<|.seq (zq (zp 2<|zi (.sx (.e 0) (.e 3)) []) (zs 0<|zn 1<|zs 2<|zs 3<|zn 1<|zs 9<|zn 3 [])<|
 .block 2<|zq (zi (.bi .eql (.e 5) (.c (.y 117)))<|zp 1 []) (zs 0<|zn 1<|zs 2<|zs 3<|zn 1<|zs 5<|zs 9<|zn 2 [])<|
 .cond 6 (.reg (zp 1<|zi (.bi .add (.e 2) (.c (.n 1)))<|zp 1 []) (zs 0<|zn 1<|zs 9<|zs 3<|zn 5 [])) (zq (zi (.bi .eql (.e 5) (.c (.y 100)))<|zp 1 []) (zs 0<|zn 1<|zs 2<|zs 3<|zn 3<|zs 9<|zn 1 [])<|
 .cond 7 (.reg (zp 1<|zi (.bi .sub (.e 2) (.c (.n 1)))<|zp 1 []) (zs 0<|zn 1<|zs 9<|zs 3<|zn 5 [])) (zq (zi (.cs .v (.b false)) []) (zn 1<|zs 9<|zn 7 [])<|
 .ret)))<|
 zq (zp 1<|zi (.bi .lss (.e 2) (.c (.n 0))) []) (zs 0<|zn 1<|zs 2<|zs 3<|zn 4<|zs 9 [])<|
 .cond 8 (zq (zi (.cs .v (.b false)) []) (zn 1<|zs 9<|zn 7 [])<|
 .ret) .skip)<|
 .reg (zp 1<|zi (.bi .add (.e 3) (.c (.n 1)))<|zp 1 []) (zs 0<|zn 1<|zs 2<|zs 9<|zn 5 []))<|
 zq (zp 1<|zi (.bi .eql (.e 2) (.c (.n 0)))<|zp 1<|zg [(9,true)] (.cy (.e 0))<|zg [(9,true)] (.sn (.e 10))<|zg [(9,true)] (.bi .leq (.e 11) (.c (.n 16)))<|zi (.pk (.e 9) (.e 12) (.c (.b false)))<|zp 1 []) (zn 1<|zs 13<|zn 7 [])<|
 .ret⟩
end Go.Cat
namespace Go.Cat
end Go.Cat
namespace Go.Cat
end Go.Cat
namespace Go.Cat
end Go.Cat
namespace Go.Cat
end Go.Cat
namespace Go.Cat
end Go.Cat
namespace Go.Cat
def ir_impl_within:IF:=⟨[],3,4,[3],zq (zi (.cs .v (.b false)) []) (zs 0<|zs 1<|zs 2<|zn 1 [])<|
 zq (zp 2<|zi (.bi .geq (.e 0) (.e 1))<|zp 1<|zg [(4,true)] (.cy (.e 0))<|zg [(4,true)] (.cy (.e 2))<|zg [(4,true)] (.bi .leq (.e 5) (.e 6))<|zi (.pk (.e 4) (.e 7) (.c (.b false)))<|zp 1 []) (zn 3<|zs 8 [])<|
 .ret⟩
end Go.Cat
namespace Go.Cat
def ir_spec_l1In:IF:=⟨[],3,4,[3],zq (zi (.cs .v (.b false)) []) (zs 0<|zs 1<|zs 2<|zn 1 [])<|
 zq (zp 2<|zi (.bi .geq (.e 0) (.e 1))<|zp 1<|zg [(4,true)] (.cy (.e 0))<|zg [(4,true)] (.cy (.e 2))<|zg [(4,true)] (.bi .leq (.e 5) (.e 6))<|zi (.pk (.e 4) (.e 7) (.c (.b false)))<|zp 1 []) (zn 3<|zs 8 [])<|
 .ret⟩
end Go.Cat
namespace Go.Cat
def ir_impl_CrossingsOf:IF:=⟨[],1,4,[1],zq (zi (.cs .v (.n 0)) []) (zs 0<|zn 3 [])<|
 .seq (zq (zp 1<|zi (.ca 380 [.e 0] 1)<|zi (.un .not (.e 4)) []) (zs 0<|zn 2<|zs 5 [])<|
 .cond 3 (zq (zi (.cs .v (.n (-1))) []) (zn 1<|zs 4<|zn 2 [])<|
 .ret) .skip)<|
 zq (zp 1<|zi (.ca 381 [.e 0] 2)<|zp 5 []) (zn 2<|zs 4<|zn 1 [])<|
 zq (zp 2 []) (zn 1<|zs 2<|zn 2 [])<|
 .ret⟩
def ir_impl_IsMatching:IF:=⟨[],1,10,[1],zq (zi (.cs .v (.b false)) []) (zs 0<|zn 9 [])<|
 .seq (zq (zp 1<|zi (.ln (.e 0) [])<|zi (.bi .gtr (.e 10) (.c (.n 16))) []) (zs 0<|zn 3<|zs 11<|zn 5 [])<|
 .cond 4 (zq (zi (.cs .v (.b false)) []) (zn 1<|zs 10<|zn 8 [])<|
 .ret) .skip)<|
 .seq (zq (zp 1<|zi (.ln (.e 0) [])<|zi (.cs .v (.n 0)) []) (zs 0<|zn 4<|zs 0<|zs 10<|zs 11<|zn 2 [])<|
 .block 0<|.loop<|zq (zi (.bi .lss (.e 7) (.e 6)) []) (zs 0<|zn 4<|zs 5<|zs 6<|zs 7<|zs 10<|zn 1 [])<|
 .seq (.cond 8 .skip (.exit 0))<|
 .seq (.block 1<|zq (zp 1<|zi (.iy (.e 5) (.e 7))<|zp 3 []) (zs 0<|zn 1<|zs 7<|zs 10<|zn 1<|zs 5<|zs 6<|zs 7<|zn 2 [])<|
 zq (zp 2<|zi (.ln (.e 0) [])<|zi (.bi .sub (.e 10) (.c (.n 1)))<|zi (.ca 23 [.e 3,.c (.n 0),.e 11] 1)<|zi (.un .not (.e 12))<|zp 1<|zg [(13,false)] (.cy (.e 3))<|zg [(13,false)] (.cy (.e 2))<|zg [(13,false)] (.bi .eql (.e 14) (.e 15))<|zi (.pk (.e 13) (.c (.b true)) (.e 16))<|zp 1<|zg [(17,false)] .nop<|zg [(17,false)] (.cy (.e 3))<|zg [(17,false)] (.iy (.e 0) (.e 18))<|zg [(17,false)] .nop<|zg [(17,false)] (.cy (.e 2))<|zg [(17,false)] (.bi .neq (.e 19) (.e 20))<|zi (.pk (.e 17) (.c (.b true)) (.e 21)) []) (zs 0<|zn 4<|zs 5<|zs 6<|zs 7<|zn 1<|zs 22 [])<|
 .cond 9 (zq (zi (.cs .v (.b false)) []) (zn 1<|zs 10<|zn 8 [])<|
 .ret) .skip)<|
 .reg (zi (.bi .add (.e 7) (.c (.n 1)))<|zp 1 []) (zs 0<|zn 4<|zs 5<|zs 6<|zs 10<|zn 2 []))<|
 zq (zi (.cs .v (.b true)) []) (zn 1<|zs 10<|zn 8 [])<|
 .ret⟩
def ir_impl_IsNoncrossingMatching:IF:=⟨[],1,2,[1],zq (zi (.cs .v (.b false)) []) (zs 0<|zn 1 [])<|
 zq (zp 1<|zi (.ca 372 [.e 0] 1)<|zi (.bi .eql (.e 2) (.c (.n 0)))<|zp 1 []) (zn 1<|zs 3 [])<|
 .ret⟩
def ir_impl_arcs:IF:=⟨[],1,19,[1,2],zq (zi (.cs .v (.n 0))<|zi (.cs .v (.n 0)) []) (zs 0<|zn 18 [])<|
 zq (zi (.cs .v (.n 0))<|zi (.cs .v (.n 0)) []) (zs 0<|zn 2<|zs 19<|zs 20<|zn 14 [])<|
 .seq (zq (zp 1<|zi (.ln (.e 0) [])<|zi (.cs .v (.n 0)) []) (zs 0<|zn 2<|zs 3<|zs 4<|zn 4<|zs 0<|zs 19<|zs 20<|zn 7 [])<|
 .block 0<|.loop<|zq (zi (.bi .lss (.e 11) (.e 10)) []) (zs 0<|zn 2<|zs 3<|zs 4<|zn 4<|zs 9<|zs 10<|zs 11<|zs 19<|zn 6 [])<|
 .seq (.cond 12 .skip (.exit 0))<|
 .seq (.block 1<|zq (zp 1<|zi (.iy (.e 9) (.e 11))<|zp 3 []) (zs 0<|zn 2<|zs 3<|zs 4<|zs 11<|zs 19<|zn 2<|zs 9<|zs 10<|zs 11<|zn 7 [])<|
 zq (zp 1<|zi (.ln (.e 0) [])<|zi (.cs .v (.n 0)) []) (zs 0<|zn 2<|zs 3<|zs 4<|zs 5<|zs 6<|zn 2<|zs 9<|zs 10<|zs 11<|zn 1<|zs 0<|zs 19<|zs 20<|zn 3 [])<|
 .block 2<|.loop<|zq (zi (.bi .lss (.e 15) (.e 14)) []) (zs 0<|zn 2<|zs 3<|zs 4<|zs 5<|zs 6<|zn 2<|zs 9<|zs 10<|zs 11<|zn 1<|zs 13<|zs 14<|zs 15<|zs 19<|zn 2 [])<|
 .seq (.cond 16 .skip (.exit 2))<|
 .seq (.block 3<|zq (zp 1<|zi (.iy (.e 13) (.e 15))<|zp 3 []) (zs 0<|zn 2<|zs 3<|zs 4<|zs 5<|zs 6<|zs 15<|zs 19<|zs 9<|zs 10<|zs 11<|zn 1<|zs 13<|zs 14<|zs 15<|zn 3 [])<|
 zq (zp 2<|zi (.bi .lss (.e 5) (.e 6))<|zp 1<|zg [(19,true)] (.cy (.e 7))<|zg [(19,true)] (.cy (.e 8))<|zg [(19,true)] (.bi .lss (.e 20) (.e 21))<|zi (.pk (.e 19) (.e 22) (.c (.b false)))<|zp 1<|zg [(23,true)] (.cy (.e 5))<|zg [(23,true)] (.cy (.e 7))<|zg [(23,true)] (.bi .lss (.e 24) (.e 25))<|zi (.pk (.e 23) (.e 26) (.c (.b false)))<|zp 1<|zg [(27,true)] (.cy (.e 7))<|zg [(27,true)] (.cy (.e 6))<|zg [(27,true)] (.bi .lss (.e 28) (.e 29))<|zi (.pk (.e 27) (.e 30) (.c (.b false))) []) (zs 0<|zn 2<|zs 3<|zs 4<|zs 5<|zs 6<|zn 1<|zs 8<|zs 9<|zs 10<|zs 11<|zn 1<|zs 13<|zs 14<|zs 15<|zn 1<|zs 31<|zn 1 [])<|
 .cond 17 (zq (zp 2<|zi (.bi .gtr (.e 8) (.e 6)) []) (zs 0<|zn 2<|zs 3<|zs 4<|zs 5<|zs 6<|zn 2<|zs 9<|zs 10<|zs 11<|zn 1<|zs 13<|zs 14<|zs 15<|zn 2<|zs 19 [])<|
 .cond 18 (.reg (zp 1<|zi (.bi .add (.e 3) (.c (.n 1)))<|zp 1 []) (zs 0<|zn 2<|zs 19<|zs 4<|zs 5<|zs 6<|zn 2<|zs 9<|zs 10<|zs 11<|zn 1<|zs 13<|zs 14<|zs 15<|zn 3 [])) (.reg (zp 1<|zi (.bi .add (.e 4) (.c (.n 1)))<|zp 1 []) (zs 0<|zn 2<|zs 3<|zs 19<|zs 5<|zs 6<|zn 2<|zs 9<|zs 10<|zs 11<|zn 1<|zs 13<|zs 14<|zs 15<|zn 3 []))) .skip)<|
 .reg (zi (.bi .add (.e 15) (.c (.n 1)))<|zp 1 []) (zs 0<|zn 2<|zs 3<|zs 4<|zs 5<|zs 6<|zn 2<|zs 9<|zs 10<|zs 11<|zn 1<|zs 13<|zs 14<|zs 19<|zn 3 []))<|
 .reg (zi (.bi .add (.e 11) (.c (.n 1)))<|zp 1 []) (zs 0<|zn 2<|zs 3<|zs 4<|zn 4<|zs 9<|zs 10<|zs 19<|zn 7 []))<|
 zq (zp 4 []) (zn 1<|zs 3<|zs 4<|zn 16 [])<|
 .ret⟩
end Go.Cat
namespace Go.Cat
def ir_spec_CrossingsOf:IF:=⟨[],1,9,[1],zq (zi (.cs .v (.n 0)) []) (zs 0<|zn 8 [])<|
 .seq (zq (zp 1<|zi (.ca 379 [.e 0] 1)<|zi (.un .not (.e 9)) []) (zs 0<|zn 4<|zs 10<|zn 3 [])<|
 .cond 5 (zq (zi (.cs .v (.n (-1))) []) (zn 1<|zs 9<|zn 7 [])<|
 .ret) .skip)<|
 zq (zi (.cs .v (.n 0)) []) (zs 0<|zn 1<|zs 9<|zn 6 [])<|
 .seq (zq (zi (.cs .v (.n 0)) []) (zs 0<|zn 1<|zs 2<|zs 9<|zn 5 [])<|
 .block 0<|.loop<|.seq (zq (zp 2<|zi (.ln (.e 0) [])<|zi (.bi .lss (.e 3) (.e 9)) []) (zs 0<|zn 1<|zs 2<|zs 3<|zn 2<|zs 10<|zn 2 [])<|
 .cond 6 .skip (.exit 0))<|
 .seq (.block 1<|zq (zp 1<|zi (.bi .add (.e 3) (.c (.n 1)))<|zp 1 []) (zs 0<|zn 1<|zs 2<|zs 3<|zs 9<|zn 4 [])<|
 .block 2<|.loop<|.seq (zq (zp 2<|zi (.ln (.e 0) [])<|zi (.bi .lss (.e 4) (.e 9)) []) (zs 0<|zn 1<|zs 2<|zs 3<|zs 4<|zn 2<|zs 10<|zn 1 [])<|
 .cond 7 .skip (.exit 2))<|
 .seq (.block 3<|zq (zp 3<|zi (.iy (.e 0) (.e 3))<|zp 1<|zi (.bi .lss (.e 4) (.e 9))<|zp 1<|zg [(10,true)] .nop<|zg [(10,true)] (.cy (.e 3))<|zg [(10,true)] (.iy (.e 0) (.e 11))<|zg [(10,true)] .nop<|zg [(10,true)] .nop<|zg [(10,true)] (.cy (.e 4))<|zg [(10,true)] (.iy (.e 0) (.e 13))<|zg [(10,true)] .nop<|zg [(10,true)] (.bi .lss (.e 12) (.e 14))<|zi (.pk (.e 10) (.e 15) (.c (.b false))) []) (zs 0<|zn 1<|zs 2<|zs 3<|zs 4<|zn 3<|zs 16 [])<|
 .cond 8 (.reg (zp 1<|zi (.bi .add (.e 2) (.c (.n 1)))<|zp 1 []) (zs 0<|zn 1<|zs 9<|zs 3<|zs 4<|zn 4 [])) .skip)<|
 .reg (zp 1<|zi (.bi .add (.e 4) (.c (.n 1)))<|zp 1 []) (zs 0<|zn 1<|zs 2<|zs 3<|zs 9<|zn 4 []))<|
 .reg (zp 1<|zi (.bi .add (.e 3) (.c (.n 1)))<|zp 1 []) (zs 0<|zn 1<|zs 2<|zs 9<|zn 5 []))<|
 zq (zp 2 []) (zn 1<|zs 2<|zn 7 [])<|
 .ret⟩
def ir_spec_IsMatching:IF:=⟨[],1,5,[1],zq (zi (.cs .v (.b false)) []) (zs 0<|zn 4 [])<|
 .seq (zq (zi (.cs .v (.n 0)) []) (zs 0<|zn 1<|zs 5<|zn 2 [])<|
 .block 0<|.loop<|.seq (zq (zp 2<|zi (.ln (.e 0) [])<|zi (.bi .lss (.e 2) (.e 5)) []) (zs 0<|zn 1<|zs 2<|zs 6<|zn 1 [])<|
 .cond 3 .skip (.exit 0))<|
 .seq (.block 1<|zq (zp 2<|zi (.iy (.e 0) (.e 2))<|zp 2<|zi (.ln (.e 0) [])<|zi (.bi .sub (.e 6) (.c (.n 1)))<|zi (.ca 22 [.e 5,.c (.n 0),.e 7] 1)<|zi (.un .not (.e 8))<|zp 1<|zg [(9,false)] .nop<|zg [(9,false)] (.cy (.e 2))<|zg [(9,false)] (.iy (.e 0) (.e 10))<|zg [(9,false)] .nop<|zg [(9,false)] (.cy (.e 2))<|zg [(9,false)] (.bi .eql (.e 11) (.e 12))<|zi (.pk (.e 9) (.c (.b true)) (.e 13))<|zp 1<|zg [(14,false)] .nop<|zg [(14,false)] .nop<|zg [(14,false)] (.cy (.e 2))<|zg [(14,false)] (.iy (.e 0) (.e 15))<|zg [(14,false)] .nop<|zg [(14,false)] (.iy (.e 0) (.e 16))<|zg [(14,false)] .nop<|zg [(14,false)] (.cy (.e 2))<|zg [(14,false)] (.bi .neq (.e 17) (.e 18))<|zi (.pk (.e 14) (.c (.b true)) (.e 19)) []) (zs 0<|zn 1<|zs 2<|zn 1<|zs 20 [])<|
 .cond 4 (zq (zi (.cs .v (.b false)) []) (zn 1<|zs 5<|zn 3 [])<|
 .ret) .skip)<|
 .reg (zp 1<|zi (.bi .add (.e 2) (.c (.n 1)))<|zp 1 []) (zs 0<|zn 1<|zs 5<|zn 2 []))<|
 zq (zp 1<|zi (.ln (.e 0) [])<|zi (.bi .leq (.e 5) (.c (.n 16)))<|zp 1 []) (zn 1<|zs 6<|zn 3 [])<|
 .ret⟩
def ir_spec_IsNoncrossingMatching:IF:=⟨[],1,2,[1],zq (zi (.cs .v (.b false)) []) (zs 0<|zn 1 [])<|
 zq (zp 1<|zi (.ca 369 [.e 0] 1)<|zi (.bi .eql (.e 2) (.c (.n 0)))<|zp 1 []) (zn 1<|zs 3 [])<|
 .ret⟩
end Go.Cat
namespace Go.Cat
end Go.Cat
namespace Go.Cat
end Go.Cat
namespace Go.Cat
end Go.Cat
namespace Go.Cat
def ir_spec_l13Same:IF:=⟨[],2,7,[2],zq (zi (.cs .v (.b false)) []) (zs 0<|zs 1<|zn 5 [])<|
 .seq (zq (zp 1<|zi (.ln (.e 0) [])<|zp 1<|zi (.ln (.e 1) [])<|zi (.bi .neq (.e 7) (.e 8)) []) (zs 0<|zs 1<|zn 2<|zs 9<|zn 2 [])<|
 .cond 4 (zq (zi (.cs .v (.b false)) []) (zn 2<|zs 7<|zn 4 [])<|
 .ret) .skip)<|
 .seq (zq (zi (.cs .v (.n 0)) []) (zs 0<|zs 1<|zn 1<|zs 7<|zn 3 [])<|
 .block 0<|.loop<|.seq (zq (zp 2<|zi (.ln (.e 0) [])<|zi (.bi .lss (.e 3) (.e 7)) []) (zs 0<|zs 1<|zn 1<|zs 3<|zn 1<|zs 8<|zn 1 [])<|
 .cond 5 .skip (.exit 0))<|
 .seq (.block 1<|zq (zp 2<|zi (.iy (.e 0) (.e 3))<|zp 3<|zi (.iy (.e 1) (.e 3))<|zp 1<|zi (.bi .neq (.e 7) (.e 8)) []) (zs 0<|zs 1<|zn 1<|zs 3<|zn 2<|zs 9 [])<|
 .cond 6 (zq (zi (.cs .v (.b false)) []) (zn 2<|zs 7<|zn 4 [])<|
 .ret) .skip)<|
 .reg (zp 1<|zi (.bi .add (.e 3) (.c (.n 1)))<|zp 1 []) (zs 0<|zs 1<|zn 1<|zs 7<|zn 3 []))<|
 zq (zi (.cs .v (.b true)) []) (zn 2<|zs 7<|zn 4 [])<|
 .ret⟩
end Go.Cat
namespace Go.Cat
end Go.Cat
namespace Go.Cat
end Go.Cat
namespace Go.Cat
def ir_impl_IsPermutation:IF:=⟨[],1,10,[1],zq (zi (.cs .v (.b false)) []) (zs 0<|zn 9 [])<|
 .seq (zq (zp 1<|zi (.ln (.e 0) [])<|zi (.bi .gtr (.e 10) (.c (.n 8))) []) (zs 0<|zn 3<|zs 11<|zn 5 [])<|
 .cond 4 (zq (zi (.cs .v (.b false)) []) (zn 1<|zs 10<|zn 8 [])<|
 .ret) .skip)<|
 zq (zp 1<|zi (.ln (.e 0) [])<|zi (.mk (.b false) (.e 10) (.e 10))<|zp 1 []) (zs 0<|zn 1<|zs 11<|zn 7 [])<|
 .seq (zq (zp 1<|zi (.ln (.e 0) [])<|zi (.cs .v (.n 0)) []) (zs 0<|zn 1<|zs 2<|zn 2<|zs 0<|zs 10<|zs 11<|zn 2 [])<|
 .block 0<|.loop<|zq (zi (.bi .lss (.e 7) (.e 6)) []) (zs 0<|zn 1<|zs 2<|zn 2<|zs 5<|zs 6<|zs 7<|zs 10<|zn 1 [])<|
 .seq (.cond 8 .skip (.exit 0))<|
 .seq (.block 1<|zq (zi (.iy (.e 5) (.e 7))<|zp 2 []) (zs 0<|zn 1<|zs 2<|zs 10<|zn 1<|zs 5<|zs 6<|zs 7<|zn 2 [])<|
 .seq (zq (zp 2<|zi (.ln (.e 0) [])<|zi (.bi .sub (.e 10) (.c (.n 1)))<|zi (.ca 23 [.e 3,.c (.n 0),.e 11] 1)<|zi (.un .not (.e 12))<|zp 1<|zg [(13,false)] .nop<|zg [(13,false)] (.cy (.e 3))<|zg [(13,false)] (.ix (.e 2) [] (.e 14))<|zg [(13,false)] .nop<|zi (.pk (.e 13) (.c (.b true)) (.e 15)) []) (zs 0<|zn 1<|zs 2<|zs 3<|zn 1<|zs 5<|zs 6<|zs 7<|zn 1<|zs 16 [])<|
 .cond 9 (zq (zi (.cs .v (.b false)) []) (zn 1<|zs 10<|zn 8 [])<|
 .ret) .skip)<|
 .reg (zp 2<|zi (.ix (.e 2) [] (.e 3))<|zi (.up 2 [.e 3] (.c (.b true))) []) (zs 0<|zn 1<|zs 11<|zn 2<|zs 5<|zs 6<|zs 7<|zn 2 []))<|
 .reg (zi (.bi .add (.e 7) (.c (.n 1)))<|zp 1 []) (zs 0<|zn 1<|zs 2<|zn 2<|zs 5<|zs 6<|zs 10<|zn 2 []))<|
 zq (zi (.cs .v (.b true)) []) (zn 1<|zs 10<|zn 8 [])<|
 .ret⟩
end Go.Cat
namespace Go.Cat
def ir_spec_IsPermutation:IF:=⟨[],1,8,[1],zq (zi (.cs .v (.b false)) []) (zs 0<|zn 7 [])<|
 .seq (zq (zi (.cs .v (.n 0)) []) (zs 0<|zn 1<|zs 8<|zn 5 [])<|
 .block 0<|.loop<|.seq (zq (zp 2<|zi (.ln (.e 0) [])<|zi (.bi .lss (.e 2) (.e 8)) []) (zs 0<|zn 1<|zs 2<|zn 1<|zs 9<|zn 3 [])<|
 .cond 4 .skip (.exit 0))<|
 .seq (.block 1<|.seq (zq (zp 2<|zi (.iy (.e 0) (.e 2))<|zp 2<|zi (.ln (.e 0) [])<|zi (.bi .sub (.e 9) (.c (.n 1)))<|zi (.ca 22 [.e 8,.c (.n 0),.e 10] 1)<|zi (.un .not (.e 11)) []) (zs 0<|zn 1<|zs 2<|zn 2<|zs 12<|zn 2 [])<|
 .cond 5 (zq (zi (.cs .v (.b false)) []) (zn 1<|zs 8<|zn 6 [])<|
 .ret) .skip)<|
 zq (zi (.cs .v (.n 0)) []) (zs 0<|zn 1<|zs 2<|zs 8<|zn 4 [])<|
 .block 2<|.loop<|.seq (zq (zp 2<|zi (.bi .lss (.e 3) (.e 2)) []) (zs 0<|zn 1<|zs 2<|zs 3<|zn 2<|zs 8<|zn 1 [])<|
 .cond 6 .skip (.exit 2))<|
 .seq (.block 3<|zq (zp 2<|zi (.iy (.e 0) (.e 3))<|zp 3<|zi (.iy (.e 0) (.e 2))<|zp 1<|zi (.bi .eql (.e 8) (.e 9)) []) (zs 0<|zn 1<|zs 2<|zs 3<|zn 3<|zs 10 [])<|
 .cond 7 (zq (zi (.cs .v (.b false)) []) (zn 1<|zs 8<|zn 6 [])<|
 .ret) .skip)<|
 .reg (zp 1<|zi (.bi .add (.e 3) (.c (.n 1)))<|zp 1 []) (zs 0<|zn 1<|zs 2<|zs 8<|zn 4 []))<|
 .reg (zp 1<|zi (.bi .add (.e 2) (.c (.n 1)))<|zp 1 []) (zs 0<|zn 1<|zs 8<|zn 5 []))<|
 zq (zp 1<|zi (.ln (.e 0) [])<|zi (.bi .leq (.e 8) (.c (.n 8)))<|zp 1 []) (zn 1<|zs 9<|zn 6 [])<|
 .ret⟩
end Go.Cat
namespace Go.Cat
def ir_laws_eqClaim:IF:=⟨[],2,12,[4],zq (zi (.bp (.e 0))<|zi (.bp (.e 1))<|zi (.cs .v (.b false)) []) (zn 2<|zs 12<|zs 13<|zn 8 [])<|
 .seq (zq (zi (.fp true (.e 2) 0)<|zp 1<|zi (.fp true (.e 3) 0)<|zp 1<|zi (.bi .neq (.e 12) (.e 13)) []) (zn 2<|zs 2<|zs 3<|zn 1<|zs 14<|zn 6 [])<|
 .cond 5 (zq (zi (.cs .v (.b false)) []) (zn 4<|zs 12<|zn 7 [])<|
 .ret) .skip)<|
 .seq (zq (zi (.fp true (.e 2) 1)<|zp 1<|zi (.fp true (.e 3) 1)<|zp 1<|zi (.bi .neq (.e 12) (.e 13)) []) (zn 2<|zs 2<|zs 3<|zn 2<|zs 14<|zn 5 [])<|
 .cond 6 (zq (zi (.cs .v (.b false)) []) (zn 4<|zs 12<|zn 7 [])<|
 .ret) .skip)<|
 .seq (zq (zi (.fp true (.e 2) 2)<|zp 1<|zi (.fp true (.e 3) 2)<|zp 1<|zi (.bi .neq (.e 12) (.e 13)) []) (zn 2<|zs 2<|zs 3<|zn 3<|zs 14<|zn 4 [])<|
 .cond 7 (zq (zi (.cs .v (.b false)) []) (zn 4<|zs 12<|zn 7 [])<|
 .ret) .skip)<|
 .seq (zq (zi (.fp false (.e 2) 3)<|zp 1<|zi (.fp false (.e 3) 3)<|zp 1<|zi (.ca 15 [.e 12,.e 13] 1)<|zi (.un .not (.e 14)) []) (zn 2<|zs 2<|zs 3<|zn 4<|zs 15<|zn 3 [])<|
 .cond 8 (zq (zi (.cs .v (.b false)) []) (zn 4<|zs 12<|zn 7 [])<|
 .ret) .skip)<|
 .seq (zq (zi (.fp false (.e 2) 4)<|zp 1<|zi (.fp false (.e 3) 4)<|zp 1<|zi (.ca 44 [.e 12,.e 13] 1)<|zi (.un .not (.e 14)) []) (zn 2<|zs 2<|zs 3<|zn 5<|zs 15<|zn 2 [])<|
 .cond 9 (zq (zi (.cs .v (.b false)) []) (zn 4<|zs 12<|zn 7 [])<|
 .ret) .skip)<|
 .seq (zq (zi (.fp false (.e 2) 5)<|zp 1<|zi (.fp false (.e 3) 5)<|zp 1<|zi (.ca 44 [.e 12,.e 13] 1)<|zi (.un .not (.e 14)) []) (zn 2<|zs 2<|zs 3<|zn 6<|zs 15<|zn 1 [])<|
 .cond 10 (zq (zi (.cs .v (.b false)) []) (zn 4<|zs 12<|zn 7 [])<|
 .ret) .skip)<|
 .seq (zq (zi (.fp false (.e 2) 6)<|zp 1<|zi (.fp false (.e 3) 6)<|zp 1<|zi (.ca 155 [.e 12,.e 13] 1)<|zi (.un .not (.e 14)) []) (zn 11<|zs 15 [])<|
 .cond 11 (zq (zi (.cs .v (.b false)) []) (zn 4<|zs 12<|zn 7 [])<|
 .ret) .skip)<|
 zq (zi (.cs .v (.b true)) []) (zn 4<|zs 12<|zn 7 [])<|
 .ret⟩
def ir_laws_eqIntS:IF:=⟨[],2,7,[2],zq (zi (.cs .v (.b false)) []) (zs 0<|zs 1<|zn 5 [])<|
 .seq (zq (zp 1<|zi (.ln (.e 0) [])<|zp 1<|zi (.ln (.e 1) [])<|zi (.bi .neq (.e 7) (.e 8)) []) (zs 0<|zs 1<|zn 2<|zs 9<|zn 2 [])<|
 .cond 4 (zq (zi (.cs .v (.b false)) []) (zn 2<|zs 7<|zn 4 [])<|
 .ret) .skip)<|
 .seq (zq (zi (.cs .v (.n 0)) []) (zs 0<|zs 1<|zn 1<|zs 7<|zn 3 [])<|
 .block 0<|.loop<|.seq (zq (zp 2<|zi (.ln (.e 0) [])<|zi (.bi .lss (.e 3) (.e 7)) []) (zs 0<|zs 1<|zn 1<|zs 3<|zn 1<|zs 8<|zn 1 [])<|
 .cond 5 .skip (.exit 0))<|
 .seq (.block 1<|zq (zp 2<|zi (.iy (.e 0) (.e 3))<|zp 3<|zi (.iy (.e 1) (.e 3))<|zp 1<|zi (.bi .neq (.e 7) (.e 8)) []) (zs 0<|zs 1<|zn 1<|zs 3<|zn 2<|zs 9 [])<|
 .cond 6 (zq (zi (.cs .v (.b false)) []) (zn 2<|zs 7<|zn 4 [])<|
 .ret) .skip)<|
 .reg (zp 1<|zi (.bi .add (.e 3) (.c (.n 1)))<|zp 1 []) (zs 0<|zs 1<|zn 1<|zs 7<|zn 3 []))<|
 zq (zi (.cs .v (.b true)) []) (zn 2<|zs 7<|zn 4 [])<|
 .ret⟩
def ir_laws_eqIntSS:IF:=⟨[],2,7,[2],zq (zi (.cs .v (.b false)) []) (zs 0<|zs 1<|zn 5 [])<|
 .seq (zq (zp 1<|zi (.ln (.e 0) [])<|zp 1<|zi (.ln (.e 1) [])<|zi (.bi .neq (.e 7) (.e 8)) []) (zs 0<|zs 1<|zn 2<|zs 9<|zn 2 [])<|
 .cond 4 (zq (zi (.cs .v (.b false)) []) (zn 2<|zs 7<|zn 4 [])<|
 .ret) .skip)<|
 .seq (zq (zi (.cs .v (.n 0)) []) (zs 0<|zs 1<|zn 1<|zs 7<|zn 3 [])<|
 .block 0<|.loop<|.seq (zq (zp 2<|zi (.ln (.e 0) [])<|zi (.bi .lss (.e 3) (.e 7)) []) (zs 0<|zs 1<|zn 1<|zs 3<|zn 1<|zs 8<|zn 1 [])<|
 .cond 5 .skip (.exit 0))<|
 .seq (.block 1<|zq (zp 2<|zi (.ix (.e 0) [] (.e 3))<|zp 3<|zi (.ix (.e 1) [] (.e 3))<|zp 1<|zi (.ca 44 [.e 7,.e 8] 1)<|zi (.un .not (.e 9)) []) (zs 0<|zs 1<|zn 1<|zs 3<|zn 2<|zs 10 [])<|
 .cond 6 (zq (zi (.cs .v (.b false)) []) (zn 2<|zs 7<|zn 4 [])<|
 .ret) .skip)<|
 .reg (zp 1<|zi (.bi .add (.e 3) (.c (.n 1)))<|zp 1 []) (zs 0<|zs 1<|zn 1<|zs 7<|zn 3 []))<|
 zq (zi (.cs .v (.b true)) []) (zn 2<|zs 7<|zn 4 [])<|
 .ret⟩
def ir_laws_eqStringS:IF:=⟨[],2,7,[2],zq (zi (.cs .v (.b false)) []) (zs 0<|zs 1<|zn 5 [])<|
 .seq (zq (zp 1<|zi (.ln (.e 0) [])<|zp 1<|zi (.ln (.e 1) [])<|zi (.bi .neq (.e 7) (.e 8)) []) (zs 0<|zs 1<|zn 2<|zs 9<|zn 2 [])<|
 .cond 4 (zq (zi (.cs .v (.b false)) []) (zn 2<|zs 7<|zn 4 [])<|
 .ret) .skip)<|
 .seq (zq (zi (.cs .v (.n 0)) []) (zs 0<|zs 1<|zn 1<|zs 7<|zn 3 [])<|
 .block 0<|.loop<|.seq (zq (zp 2<|zi (.ln (.e 0) [])<|zi (.bi .lss (.e 3) (.e 7)) []) (zs 0<|zs 1<|zn 1<|zs 3<|zn 1<|zs 8<|zn 1 [])<|
 .cond 5 .skip (.exit 0))<|
 .seq (.block 1<|zq (zp 2<|zi (.iy (.e 0) (.e 3))<|zp 3<|zi (.iy (.e 1) (.e 3))<|zp 1<|zi (.bi .neq (.e 7) (.e 8)) []) (zs 0<|zs 1<|zn 1<|zs 3<|zn 2<|zs 9 [])<|
 .cond 6 (zq (zi (.cs .v (.b false)) []) (zn 2<|zs 7<|zn 4 [])<|
 .ret) .skip)<|
 .reg (zp 1<|zi (.bi .add (.e 3) (.c (.n 1)))<|zp 1 []) (zs 0<|zs 1<|zn 1<|zs 7<|zn 3 []))<|
 zq (zi (.cs .v (.b true)) []) (zn 2<|zs 7<|zn 4 [])<|
 .ret⟩
def ir_laws_szClaim:IF:=⟨[],2,10,[3],zq (zi (.bp (.e 0))<|zi (.cs .v (.n 0)) []) (zn 1<|zs 1<|zs 10<|zn 7 [])<|
 zq (zp 1<|zi (.fp true (.e 2) 1)<|zp 1<|zi (.sn (.e 10))<|zi (.bi .sub (.e 1) (.e 11))<|zp 1 []) (zn 1<|zs 12<|zs 2<|zn 7 [])<|
 .seq (zq (zp 1<|zi (.bi .lss (.e 1) (.c (.n 0))) []) (zn 1<|zs 1<|zs 2<|zn 1<|zs 10<|zn 5 [])<|
 .cond 4 (zq (zi (.cs .v (.n (-1))) []) (zn 3<|zs 10<|zn 6 [])<|
 .ret) .skip)<|
 zq (zp 1<|zi (.fp true (.e 2) 2)<|zp 1<|zi (.sn (.e 10))<|zi (.bi .sub (.e 1) (.e 11))<|zp 1 []) (zn 1<|zs 12<|zs 2<|zn 7 [])<|
 .seq (zq (zp 1<|zi (.bi .lss (.e 1) (.c (.n 0))) []) (zn 1<|zs 1<|zs 2<|zn 2<|zs 10<|zn 4 [])<|
 .cond 5 (zq (zi (.cs .v (.n (-1))) []) (zn 3<|zs 10<|zn 6 [])<|
 .ret) .skip)<|
 zq (zi (.fp false (.e 2) 3)<|zp 2<|zi (.ca 145 [.e 10,.e 1] 1)<|zp 1 []) (zn 1<|zs 11<|zs 2<|zn 7 [])<|
 .seq (zq (zp 1<|zi (.bi .lss (.e 1) (.c (.n 0))) []) (zn 1<|zs 1<|zs 2<|zn 3<|zs 10<|zn 3 [])<|
 .cond 6 (zq (zi (.cs .v (.n (-1))) []) (zn 3<|zs 10<|zn 6 [])<|
 .ret) .skip)<|
 zq (zi (.fp false (.e 2) 4)<|zp 2<|zi (.ca 146 [.e 10,.e 1] 1)<|zp 1 []) (zn 1<|zs 11<|zs 2<|zn 7 [])<|
 .seq (zq (zp 1<|zi (.bi .lss (.e 1) (.c (.n 0))) []) (zn 1<|zs 1<|zs 2<|zn 4<|zs 10<|zn 2 [])<|
 .cond 7 (zq (zi (.cs .v (.n (-1))) []) (zn 3<|zs 10<|zn 6 [])<|
 .ret) .skip)<|
 zq (zi (.fp false (.e 2) 5)<|zp 2<|zi (.ca 146 [.e 10,.e 1] 1)<|zp 1 []) (zn 1<|zs 11<|zs 2<|zn 7 [])<|
 .seq (zq (zp 1<|zi (.bi .lss (.e 1) (.c (.n 0))) []) (zn 1<|zs 1<|zs 2<|zn 5<|zs 10<|zn 1 [])<|
 .cond 8 (zq (zi (.cs .v (.n (-1))) []) (zn 3<|zs 10<|zn 6 [])<|
 .ret) .skip)<|
 zq (zi (.fp false (.e 2) 6)<|zp 2<|zi (.ca 147 [.e 10,.e 1] 1)<|zp 1 []) (zn 1<|zs 11<|zn 8 [])<|
 .seq (zq (zp 1<|zi (.bi .lss (.e 1) (.c (.n 0))) []) (zn 1<|zs 1<|zn 7<|zs 10 [])<|
 .cond 9 (zq (zi (.cs .v (.n (-1))) []) (zn 3<|zs 10<|zn 6 [])<|
 .ret) .skip)<|
 zq (zp 2 []) (zn 3<|zs 1<|zn 6 [])<|
 .ret⟩
def ir_laws_szIntS:IF:=⟨[],2,4,[2],zq (zi (.cs .v (.n 0)) []) (zs 0<|zs 1<|zn 2 [])<|
 zq (zp 2<|zi (.ln (.e 0) [])<|zi (.bi .sub (.e 1) (.e 4))<|zp 1 []) (zn 1<|zs 5<|zn 2 [])<|
 .seq (zq (zp 1<|zi (.bi .lss (.e 1) (.c (.n 0))) []) (zn 1<|zs 1<|zn 1<|zs 4 [])<|
 .cond 3 (zq (zi (.cs .v (.n (-1))) []) (zn 2<|zs 4<|zn 1 [])<|
 .ret) .skip)<|
 zq (zp 2 []) (zn 2<|zs 1<|zn 1 [])<|
 .ret⟩
def ir_laws_szIntSS:IF:=⟨[],2,7,[2],zq (zi (.cs .v (.n 0)) []) (zs 0<|zs 1<|zn 5 [])<|
 zq (zp 2<|zi (.ln (.e 0) [])<|zi (.bi .sub (.e 1) (.e 7))<|zp 1 []) (zs 0<|zs 8<|zn 5 [])<|
 .seq (zq (zp 1<|zi (.bi .lss (.e 1) (.c (.n 0))) []) (zs 0<|zs 1<|zn 2<|zs 7<|zn 2 [])<|
 .cond 4 (zq (zi (.cs .v (.n (-1))) []) (zn 2<|zs 7<|zn 4 [])<|
 .ret) .skip)<|
 .seq (zq (zi (.cs .v (.n 0)) []) (zs 0<|zs 1<|zn 1<|zs 7<|zn 3 [])<|
 .block 0<|.loop<|.seq (zq (zp 2<|zi (.ln (.e 0) [])<|zi (.bi .lss (.e 3) (.e 7)) []) (zs 0<|zs 1<|zn 1<|zs 3<|zn 1<|zs 8<|zn 1 [])<|
 .cond 5 .skip (.exit 0))<|
 .seq (.block 1<|zq (zp 2<|zi (.ix (.e 0) [] (.e 3))<|zp 2<|zi (.ca 146 [.e 7,.e 1] 1)<|zp 1 []) (zs 0<|zs 8<|zn 1<|zs 3<|zn 3 [])<|
 zq (zp 1<|zi (.bi .lss (.e 1) (.c (.n 0))) []) (zs 0<|zs 1<|zn 1<|zs 3<|zn 2<|zs 7 [])<|
 .cond 6 (zq (zi (.cs .v (.n (-1))) []) (zn 2<|zs 7<|zn 4 [])<|
 .ret) .skip)<|
 .reg (zp 1<|zi (.bi .add (.e 3) (.c (.n 1)))<|zp 1 []) (zs 0<|zs 1<|zn 1<|zs 7<|zn 3 []))<|
 zq (zp 2 []) (zn 2<|zs 1<|zn 4 [])<|
 .ret⟩
def ir_laws_szStringS:IF:=⟨[],2,7,[2],zq (zi (.cs .v (.n 0)) []) (zs 0<|zs 1<|zn 5 [])<|
 zq (zp 2<|zi (.ln (.e 0) [])<|zi (.bi .sub (.e 1) (.e 7))<|zp 1 []) (zs 0<|zs 8<|zn 5 [])<|
 .seq (zq (zp 1<|zi (.bi .lss (.e 1) (.c (.n 0))) []) (zs 0<|zs 1<|zn 2<|zs 7<|zn 2 [])<|
 .cond 4 (zq (zi (.cs .v (.n (-1))) []) (zn 2<|zs 7<|zn 4 [])<|
 .ret) .skip)<|
 .seq (zq (zi (.cs .v (.n 0)) []) (zs 0<|zs 1<|zn 1<|zs 7<|zn 3 [])<|
 .block 0<|.loop<|.seq (zq (zp 2<|zi (.ln (.e 0) [])<|zi (.bi .lss (.e 3) (.e 7)) []) (zs 0<|zs 1<|zn 1<|zs 3<|zn 1<|zs 8<|zn 1 [])<|
 .cond 5 .skip (.exit 0))<|
 .seq (.block 1<|zq (zp 3<|zi (.iy (.e 0) (.e 3))<|zp 1<|zi (.sn (.e 7))<|zi (.bi .sub (.e 1) (.e 8))<|zp 1 []) (zs 0<|zs 9<|zn 1<|zs 3<|zn 3 [])<|
 zq (zp 1<|zi (.bi .lss (.e 1) (.c (.n 0))) []) (zs 0<|zs 1<|zn 1<|zs 3<|zn 2<|zs 7 [])<|
 .cond 6 (zq (zi (.cs .v (.n (-1))) []) (zn 2<|zs 7<|zn 4 [])<|
 .ret) .skip)<|
 .reg (zp 1<|zi (.bi .add (.e 3) (.c (.n 1)))<|zp 1 []) (zs 0<|zs 1<|zn 1<|zs 7<|zn 3 []))<|
 zq (zp 2 []) (zn 2<|zs 1<|zn 4 [])<|
 .ret⟩
def ir_laws_toClaim:IF:=⟨[(0,7)],1,4,[2],zq (zi (.bp (.e 0))<|zi (.cs (.b (.o (.o (.o .v)))) (.g [.n 0,.s [],.s [],.l [],.l [],.l [],.l []])) []) (zn 1<|zs 4<|zs 5<|zn 1 [])<|
 zq (zi (.cs (.b (.o (.o (.o .v)))) (.g [.n 0,.s [],.s [],.l [],.l [],.l [],.l []])) []) (zn 1<|zs 1<|zs 2<|zs 4 [])<|
 zq (zi (.fp true (.e 1) 0)<|zp 1<|zi (.gt (.e 3) [.k 0])<|zi (.uq 3 [.k 0] (.e 4) 0 3) []) (zn 1<|zs 1<|zs 2<|zs 6 [])<|
 zq (zi (.fp true (.e 1) 1)<|zp 1<|zi (.gt (.e 3) [.k 1])<|zi (.uq 3 [.k 1] (.e 4) 0 3) []) (zn 1<|zs 1<|zs 2<|zs 6 [])<|
 zq (zi (.fp true (.e 1) 2)<|zp 1<|zi (.gt (.e 3) [.k 2])<|zi (.uq 3 [.k 2] (.e 4) 0 3) []) (zn 1<|zs 1<|zs 2<|zs 6 [])<|
 zq (zi (.fp false (.e 1) 3)<|zp 1<|zi (.ca 151 [.e 4] 1)<|zi (.gt (.e 3) [.k 3])<|zi (.uq 3 [.k 3] (.e 5) 1 3) []) (zn 1<|zs 1<|zs 2<|zs 7 [])<|
 zq (zi (.fp false (.e 1) 4)<|zp 1<|zi (.ca 42 [.e 4] 1)<|zi (.gt (.e 3) [.k 4])<|zi (.uq 3 [.k 4] (.e 5) 1 3) []) (zn 1<|zs 1<|zs 2<|zs 7 [])<|
 zq (zi (.fp false (.e 1) 5)<|zp 1<|zi (.ca 42 [.e 4] 1)<|zi (.gt (.e 3) [.k 5])<|zi (.uq 3 [.k 5] (.e 5) 1 3) []) (zn 1<|zs 1<|zs 2<|zs 7 [])<|
 zq (zi (.fp false (.e 1) 6)<|zp 1<|zi (.ca 152 [.e 4] 1)<|zi (.gt (.e 3) [.k 6])<|zi (.uq 3 [.k 6] (.e 5) 2 3) []) (zn 2<|zs 2<|zs 7 [])<|
 zq (zi (.wl 7 (.e 3))<|zi (.ws 2 7 (.e 4)) []) (zn 2<|zs 5<|zn 1 [])<|
 .ret⟩
def ir_laws_toIntS:IF:=⟨[],1,5,[1],zq (zi (.cs (.o .v) (.l [])) []) (zs 0<|zn 4 [])<|
 zq (zp 1<|zi (.ln (.e 0) [])<|zi (.mk (.n 0) (.e 5) (.e 5))<|zp 1 []) (zs 0<|zn 1<|zs 6<|zn 2 [])<|
 .seq (zq (zi (.cs .v (.n 0)) []) (zs 0<|zn 1<|zs 2<|zs 5<|zn 1 [])<|
 .block 0<|.loop<|.seq (zq (zp 2<|zi (.ln (.e 0) [])<|zi (.bi .lss (.e 3) (.e 5)) []) (zs 0<|zn 1<|zs 2<|zs 3<|zs 6 [])<|
 .cond 4 .skip (.exit 0))<|
 .seq (.block 1<|.reg (zp 4<|zi (.iy (.e 0) (.e 3))<|zp 1<|zi (.ix (.e 2) [] (.e 3))<|zi (.up 2 [.e 3] (.e 5)) []) (zs 0<|zn 1<|zs 7<|zs 3<|zn 1 []))<|
 .reg (zp 1<|zi (.bi .add (.e 3) (.c (.n 1)))<|zp 1 []) (zs 0<|zn 1<|zs 2<|zs 5<|zn 1 []))<|
 zq (zp 2 []) (zn 1<|zs 2<|zn 3 [])<|
 .ret⟩
def ir_laws_toIntSS:IF:=⟨[],1,5,[1],zq (zi (.cs (.o (.o .v)) (.l [])) []) (zs 0<|zn 4 [])<|
 zq (zp 1<|zi (.ln (.e 0) [])<|zi (.mk (.l []) (.e 5) (.e 5))<|zp 1 []) (zs 0<|zn 1<|zs 6<|zn 2 [])<|
 .seq (zq (zi (.cs .v (.n 0)) []) (zs 0<|zn 1<|zs 2<|zs 5<|zn 1 [])<|
 .block 0<|.loop<|.seq (zq (zp 2<|zi (.ln (.e 0) [])<|zi (.bi .lss (.e 3) (.e 5)) []) (zs 0<|zn 1<|zs 2<|zs 3<|zs 6 [])<|
 .cond 4 .skip (.exit 0))<|
 .seq (.block 1<|.reg (zp 4<|zi (.ix (.e 0) [] (.e 3))<|zp 1<|zi (.ca 42 [.e 5] 1)<|zi (.ix (.e 2) [] (.e 3))<|zi (.up 2 [.e 3] (.e 6)) []) (zs 0<|zn 1<|zs 8<|zs 3<|zn 1 []))<|
 .reg (zp 1<|zi (.bi .add (.e 3) (.c (.n 1)))<|zp 1 []) (zs 0<|zn 1<|zs 2<|zs 5<|zn 1 []))<|
 zq (zp 2 []) (zn 1<|zs 2<|zn 3 [])<|
 .ret⟩
def ir_laws_toStringS:IF:=⟨[],1,5,[1],zq (zi (.cs (.o .v) (.l [])) []) (zs 0<|zn 4 [])<|
 zq (zp 1<|zi (.ln (.e 0) [])<|zi (.mk (.s []) (.e 5) (.e 5))<|zp 1 []) (zs 0<|zn 1<|zs 6<|zn 2 [])<|
 .seq (zq (zi (.cs .v (.n 0)) []) (zs 0<|zn 1<|zs 2<|zs 5<|zn 1 [])<|
 .block 0<|.loop<|.seq (zq (zp 2<|zi (.ln (.e 0) [])<|zi (.bi .lss (.e 3) (.e 5)) []) (zs 0<|zn 1<|zs 2<|zs 3<|zs 6 [])<|
 .cond 4 .skip (.exit 0))<|
 .seq (.block 1<|.reg (zp 4<|zi (.iy (.e 0) (.e 3))<|zp 1<|zi (.ix (.e 2) [] (.e 3))<|zi (.up 2 [.e 3] (.e 5)) []) (zs 0<|zn 1<|zs 7<|zs 3<|zn 1 []))<|
 .reg (zp 1<|zi (.bi .add (.e 3) (.c (.n 1)))<|zp 1 []) (zs 0<|zn 1<|zs 2<|zs 5<|zn 1 []))<|
 zq (zp 2 []) (zn 1<|zs 2<|zn 3 [])<|
 .ret⟩
end Go.Cat
namespace Go.Cat
def ir_impl_OutputOf:IF:=⟨[],2,11,[2,3],zq (zi (.cs (.o .v) (.l []))<|zi (.cs .v (.b false)) []) (zs 0<|zs 1<|zn 9 [])<|
 zq (zi (.li (.o .v) [])<|zp 1 []) (zs 0<|zs 1<|zn 2<|zs 11<|zn 6 [])<|
 .seq (zq (zp 1<|zi (.ca 67 [.e 0] 1)<|zi (.un .not (.e 11))<|zp 1<|zg [(12,false)] .nop<|zg [(12,false)] (.ca 74 [.e 1] 1)<|zg [(12,false)] (.un .not (.e 13))<|zi (.pk (.e 12) (.c (.b true)) (.e 14))<|zp 1<|zg [(15,false)] .nop<|zg [(15,false)] (.ln (.e 1) [])<|zg [(15,false)] (.cy (.e 0))<|zg [(15,false)] (.ca 132 [.e 17] 1)<|zg [(15,false)] (.bi .neq (.e 16) (.e 18))<|zi (.pk (.e 15) (.c (.b true)) (.e 19)) []) (zs 0<|zs 1<|zn 2<|zs 4<|zn 3<|zs 20<|zn 2 [])<|
 .cond 8 (zq (zp 2<|zi (.cs .v (.b false)) []) (zn 2<|zs 4<|zs 11<|zn 7 [])<|
 .ret) .skip)<|
 zq (zi (.li (.o .v) [])<|zp 1 []) (zs 0<|zs 1<|zn 2<|zs 4<|zs 11<|zn 5 [])<|
 zq (zi (.cs .v (.n 0)) []) (zs 0<|zs 1<|zn 2<|zs 4<|zs 5<|zs 11<|zn 4 [])<|
 .seq (zq (zi (.cs .v (.n 0)) []) (zs 0<|zs 1<|zn 2<|zs 4<|zs 5<|zs 6<|zs 11<|zn 3 [])<|
 .block 0<|.loop<|.seq (zq (zp 2<|zi (.sn (.e 0))<|zi (.bi .lss (.e 7) (.e 11)) []) (zs 0<|zs 1<|zn 2<|zs 4<|zs 5<|zs 6<|zs 7<|zn 1<|zs 12<|zn 1 [])<|
 .cond 9 .skip (.exit 0))<|
 .seq (.block 1<|.seq (zq (zp 2<|zi (.sx (.e 0) (.e 7))<|zi (.bi .eql (.e 11) (.c (.y 117))) []) (zs 0<|zs 1<|zn 2<|zs 4<|zs 5<|zs 6<|zs 7<|zn 2<|zs 12 [])<|
 .cond 10 (zq (zp 3<|zi (.iy (.e 1) (.e 6))<|zp 1<|zi (.li (.o .v) [.e 11])<|zi (.ap false (.e 5) (.e 12))<|zp 1 []) (zs 0<|zs 1<|zn 2<|zs 4<|zs 13<|zs 6<|zs 7<|zn 3 [])<|
 zq (zp 1<|zi (.bi .add (.e 6) (.c (.n 1)))<|zp 1 []) (zs 0<|zs 1<|zn 2<|zs 4<|zs 5<|zs 11<|zs 7<|zn 3 [])<|
 .exit 1) .skip)<|
 zq (zp 3<|zi (.ln (.e 5) [])<|zi (.bi .sub (.e 11) (.c (.n 1)))<|zi (.ix (.e 5) [] (.e 12))<|zp 1<|zi (.li (.o .v) [.e 13])<|zi (.ap false (.e 4) (.e 14))<|zp 1 []) (zs 0<|zs 1<|zn 2<|zs 15<|zs 5<|zs 6<|zs 7<|zn 3 [])<|
 .reg (zp 2<|zi (.ln (.e 5) [])<|zi (.bi .sub (.e 11) (.c (.n 1)))<|zi (.sb true (.e 5) none (some (.e 12)))<|zp 1 []) (zs 0<|zs 1<|zn 2<|zs 4<|zs 13<|zs 6<|zs 7<|zn 3 []))<|
 .reg (zp 1<|zi (.bi .add (.e 7) (.c (.n 1)))<|zp 1 []) (zs 0<|zs 1<|zn 2<|zs 4<|zs 5<|zs 6<|zs 11<|zn 3 []))<|
 zq (zp 2<|zi (.cs .v (.b true)) []) (zn 2<|zs 4<|zs 11<|zn 7 [])<|
 .ret⟩
def ir_impl_ascends:IF:=⟨[],1,2,[1],zq (zi (.cs .v (.b false)) []) (zs 0<|zn 1 [])<|
 zq (zp 1<|zi (.ca 178 [.e 0] 1)<|zp 1 []) (zn 1<|zs 2 [])<|
 .ret⟩
end Go.Cat
namespace Go.Cat
def ir_spec_OutputOf:IF:=⟨[],2,11,[2,3],zq (zi (.cs (.o .v) (.l []))<|zi (.cs .v (.b false)) []) (zs 0<|zs 1<|zn 9 [])<|
 zq (zi (.li (.o .v) [])<|zp 1 []) (zs 0<|zs 1<|zn 2<|zs 11<|zn 6 [])<|
 .seq (zq (zp 1<|zi (.ca 64 [.e 0] 1)<|zi (.un .not (.e 11))<|zp 1<|zg [(12,false)] .nop<|zg [(12,false)] (.ca 73 [.e 1] 1)<|zg [(12,false)] (.un .not (.e 13))<|zi (.pk (.e 12) (.c (.b true)) (.e 14))<|zp 1<|zg [(15,false)] (.cy (.e 0))<|zg [(15,false)] (.sn (.e 16))<|zg [(15,false)] .nop<|zg [(15,false)] (.ln (.e 1) [])<|zg [(15,false)] (.bi .mul (.c (.n 2)) (.e 18))<|zg [(15,false)] (.bi .neq (.e 17) (.e 19))<|zi (.pk (.e 15) (.c (.b true)) (.e 20)) []) (zs 0<|zs 1<|zn 2<|zs 4<|zn 3<|zs 21<|zn 2 [])<|
 .cond 8 (zq (zp 2<|zi (.cs .v (.b false)) []) (zn 2<|zs 4<|zs 11<|zn 7 [])<|
 .ret) .skip)<|
 zq (zi (.li (.o .v) [])<|zp 1 []) (zs 0<|zs 1<|zn 2<|zs 4<|zs 11<|zn 5 [])<|
 zq (zi (.cs .v (.n 0)) []) (zs 0<|zs 1<|zn 2<|zs 4<|zs 5<|zs 11<|zn 4 [])<|
 .seq (zq (zi (.cs .v (.n 0)) []) (zs 0<|zs 1<|zn 2<|zs 4<|zs 5<|zs 6<|zs 11<|zn 3 [])<|
 .block 0<|.loop<|.seq (zq (zp 2<|zi (.sn (.e 0))<|zi (.bi .lss (.e 7) (.e 11)) []) (zs 0<|zs 1<|zn 2<|zs 4<|zs 5<|zs 6<|zs 7<|zn 1<|zs 12<|zn 1 [])<|
 .cond 9 .skip (.exit 0))<|
 .seq (.block 1<|.seq (zq (zp 2<|zi (.sx (.e 0) (.e 7))<|zi (.bi .eql (.e 11) (.c (.y 117))) []) (zs 0<|zs 1<|zn 2<|zs 4<|zs 5<|zs 6<|zs 7<|zn 2<|zs 12 [])<|
 .cond 10 (zq (zp 3<|zi (.iy (.e 1) (.e 6))<|zp 1<|zi (.li (.o .v) [.e 11])<|zi (.ap false (.e 5) (.e 12))<|zp 1 []) (zs 0<|zs 1<|zn 2<|zs 4<|zs 13<|zs 6<|zs 7<|zn 3 [])<|
 zq (zp 1<|zi (.bi .add (.e 6) (.c (.n 1)))<|zp 1 []) (zs 0<|zs 1<|zn 2<|zs 4<|zs 5<|zs 11<|zs 7<|zn 3 [])<|
 .exit 1) .skip)<|
 zq (zp 3<|zi (.ln (.e 5) [])<|zi (.bi .sub (.e 11) (.c (.n 1)))<|zi (.ix (.e 5) [] (.e 12))<|zp 1<|zi (.li (.o .v) [.e 13])<|zi (.ap false (.e 4) (.e 14))<|zp 1 []) (zs 0<|zs 1<|zn 2<|zs 15<|zs 5<|zs 6<|zs 7<|zn 3 [])<|
 .reg (zp 2<|zi (.ln (.e 5) [])<|zi (.bi .sub (.e 11) (.c (.n 1)))<|zi (.sb true (.e 5) none (some (.e 12)))<|zp 1 []) (zs 0<|zs 1<|zn 2<|zs 4<|zs 13<|zs 6<|zs 7<|zn 3 []))<|
 .reg (zp 1<|zi (.bi .add (.e 7) (.c (.n 1)))<|zp 1 []) (zs 0<|zs 1<|zn 2<|zs 4<|zs 5<|zs 6<|zs 11<|zn 3 []))<|
 zq (zp 2<|zi (.cs .v (.b true)) []) (zn 2<|zs 4<|zs 11<|zn 7 [])<|
 .ret⟩
def ir_spec_l31Sorted:IF:=⟨[],1,5,[1],zq (zi (.cs .v (.b false)) []) (zs 0<|zn 4 [])<|
 .seq (zq (zi (.cs .v (.n 0)) []) (zs 0<|zn 1<|zs 5<|zn 2 [])<|
 .block 0<|.loop<|.seq (zq (zp 2<|zi (.ln (.e 0) [])<|zi (.bi .lss (.e 2) (.e 5)) []) (zs 0<|zn 1<|zs 2<|zs 6<|zn 1 [])<|
 .cond 3 .skip (.exit 0))<|
 .seq (.block 1<|zq (zp 2<|zi (.iy (.e 0) (.e 2))<|zp 2<|zi (.bi .neq (.e 5) (.e 2)) []) (zs 0<|zn 1<|zs 2<|zn 1<|zs 6 [])<|
 .cond 4 (zq (zi (.cs .v (.b false)) []) (zn 1<|zs 5<|zn 3 [])<|
 .ret) .skip)<|
 .reg (zp 1<|zi (.bi .add (.e 2) (.c (.n 1)))<|zp 1 []) (zs 0<|zn 1<|zs 5<|zn 2 []))<|
 zq (zi (.cs .v (.b true)) []) (zn 1<|zs 5<|zn 3 [])<|
 .ret⟩
end Go.Cat
namespace Go.Cat
def ir_cmp_Compare_int_:IF:=⟨[],2,10,[2],zq (zi (.cs .v (.n 0)) []) (zs 0<|zs 1<|zn 8 [])<|
 zq (zp 1<|zi (.ca 211 [.e 0] 1)<|zp 1 []) (zs 0<|zs 1<|zn 1<|zs 10<|zn 6 [])<|
 zq (zp 1<|zi (.ca 211 [.e 1] 1)<|zp 1 []) (zs 0<|zs 1<|zn 1<|zs 3<|zs 10<|zn 5 [])<|
 .seq (zq (zp 1 []) (zs 0<|zs 1<|zn 2<|zs 4<|zs 3<|zn 4 [])<|
 .cond 5 (.seq (zq (zp 1 []) (zn 6<|zs 4<|zn 3 [])<|
 .cond 6 (zq (zi (.cs .v (.n 0)) []) (zn 2<|zs 10<|zn 7 [])<|
 .ret) .skip)<|
 zq (zi (.cs .v (.n (-1))) []) (zn 2<|zs 10<|zn 7 [])<|
 .ret) .skip)<|
 .seq (zq (zp 1 []) (zs 0<|zs 1<|zn 5<|zs 4<|zn 2 [])<|
 .cond 7 (zq (zi (.cs .v (.n 1)) []) (zn 2<|zs 10<|zn 7 [])<|
 .ret) .skip)<|
 .seq (zq (zp 2<|zi (.bi .lss (.e 0) (.e 1)) []) (zs 0<|zs 1<|zn 6<|zs 10<|zn 1 [])<|
 .cond 8 (zq (zi (.cs .v (.n (-1))) []) (zn 2<|zs 10<|zn 7 [])<|
 .ret) .skip)<|
 .seq (zq (zp 2<|zi (.bi .gtr (.e 0) (.e 1)) []) (zn 9<|zs 10 [])<|
 .cond 9 (zq (zi (.cs .v (.n 1)) []) (zn 2<|zs 10<|zn 7 [])<|
 .ret) .skip)<|
 zq (zi (.cs .v (.n 0)) []) (zn 2<|zs 10<|zn 7 [])<|
 .ret⟩
def ir_cmp_Less_int_:IF:=⟨[],2,3,[2],zq (zi (.cs .v (.b false)) []) (zs 0<|zs 1<|zn 1 [])<|
 zq (zp 1<|zi (.ca 211 [.e 0] 1)<|zp 1<|zg [(3,true)] (.cy (.e 1))<|zg [(3,true)] (.ca 211 [.e 4] 1)<|zg [(3,true)] (.un .not (.e 5))<|zi (.pk (.e 3) (.e 6) (.c (.b false)))<|zp 1<|zg [(7,false)] (.cy (.e 0))<|zg [(7,false)] (.cy (.e 1))<|zg [(7,false)] (.bi .lss (.e 8) (.e 9))<|zi (.pk (.e 7) (.c (.b true)) (.e 10))<|zp 1 []) (zn 2<|zs 11 [])<|
 .ret⟩
def ir_cmp_isNaN_int_:IF:=⟨[],1,2,[1],zq (zi (.cs .v (.b false)) []) (zs 0<|zn 1 [])<|
 zq (zp 2<|zi (.bi .neq (.e 0) (.e 0))<|zp 1 []) (zn 1<|zs 2 [])<|
 .ret⟩
def ir_impl_Claim_leads:IF:=⟨[],1,3,[2],zq (zi (.bp (.e 0))<|zi (.cs .v (.b false)) []) (zn 1<|zs 3<|zn 1 [])<|
 zq (zi (.fp false (.e 1) 3)<|zp 1<|zi (.ca 646 [.e 3] 1)<|zp 1<|zg [(4,true)] (.fp false (.e 1) 3)<|zg [(4,true)] .nop<|zg [(4,true)] (.iy (.e 5) (.c (.n 0)))<|zg [(4,true)] .nop<|zg [(4,true)] (.fp true (.e 1) 1)<|zg [(4,true)] .nop<|zg [(4,true)] (.bi .eql (.e 6) (.e 7))<|zi (.pk (.e 4) (.e 8) (.c (.b false)))<|zp 1<|zg [(9,true)] (.fp false (.e 1) 3)<|zg [(9,true)] .nop<|zg [(9,true)] (.fp false (.e 1) 3)<|zg [(9,true)] .nop<|zg [(9,true)] (.ln (.e 11) [])<|zg [(9,true)] (.bi .sub (.e 12) (.c (.n 1)))<|zg [(9,true)] (.iy (.e 10) (.e 13))<|zg [(9,true)] .nop<|zg [(9,true)] (.fp true (.e 1) 2)<|zg [(9,true)] .nop<|zg [(9,true)] (.bi .eql (.e 14) (.e 15))<|zi (.pk (.e 9) (.e 16) (.c (.b false)))<|zp 1 []) (zn 2<|zs 17 [])<|
 .ret⟩
def ir_impl_tree_find:IF:=⟨[],2,7,[2],zq (zi (.cs .v .z) []) (zs 0<|zs 1<|zn 5 [])<|
 .seq (zq (zp 1<|zi (.nz true (.e 0))<|zp 1<|zg [(7,false)] (.cy (.e 1))<|zg [(7,false)] (.bi .lss (.e 8) (.c (.n 0)))<|zi (.pk (.e 7) (.c (.b true)) (.e 9)) []) (zs 0<|zs 1<|zn 2<|zs 10<|zn 2 [])<|
 .cond 4 (zq (zi (.cs .v .z) []) (zn 2<|zs 7<|zn 4 [])<|
 .ret) .skip)<|
 zq (zp 1<|zi (.nn (.e 0))<|zi (.fp false (.e 7) 0)<|zp 1<|zi (.ca 197 [.e 8] 1)<|zp 1 []) (zs 0<|zs 1<|zn 1<|zs 9<|zn 3 [])<|
 .seq (.block 0<|zq (zp 2<|zi (.bi .lss (.e 1) (.e 3))<|zp 1 []) (zs 0<|zs 1<|zn 1<|zs 3<|zn 1<|zs 7<|zn 1 [])<|
 .cond 5 (zq (zp 1<|zi (.nn (.e 0))<|zi (.fp false (.e 7) 0)<|zp 2<|zi (.ca 213 [.e 8,.e 1] 1)<|zp 1 []) (zn 2<|zs 9<|zn 4 [])<|
 .ret) (zq (zp 2<|zi (.bi .eql (.e 1) (.e 3))<|zp 1 []) (zs 0<|zs 1<|zn 1<|zs 3<|zn 2<|zs 7 [])<|
 .cond 6 (zq (zp 2 []) (zn 2<|zs 0<|zn 4 [])<|
 .ret) .skip))<|
 zq (zp 1<|zi (.nn (.e 0))<|zi (.fp false (.e 7) 1)<|zp 3<|zi (.bi .sub (.e 1) (.e 3))<|zi (.bi .sub (.e 9) (.c (.n 1)))<|zi (.ca 213 [.e 8,.e 10] 1)<|zp 1 []) (zn 2<|zs 11<|zn 4 [])<|
 .ret⟩
def ir_impl_tree_nodes:IF:=⟨[],1,3,[1],zq (zi (.cs .v (.n 0)) []) (zs 0<|zn 2 [])<|
 .seq (zq (zp 1<|zi (.nz true (.e 0)) []) (zs 0<|zn 1<|zs 3 [])<|
 .cond 2 (zq (zi (.cs .v (.n 0)) []) (zn 1<|zs 3<|zn 1 [])<|
 .ret) .skip)<|
 zq (zp 1<|zi (.nn (.e 0))<|zi (.fp false (.e 3) 0)<|zp 1<|zi (.ca 197 [.e 4] 1)<|zp 1<|zi (.nn (.e 0))<|zi (.fp false (.e 6) 1)<|zp 1<|zi (.ca 197 [.e 7] 1)<|zi (.bi .add (.e 5) (.e 8))<|zi (.bi .add (.e 9) (.c (.n 1)))<|zp 1 []) (zn 1<|zs 10<|zn 1 [])<|
 .ret⟩
def ir_impl_tree_text:IF:=⟨[],1,3,[1],zq (zi (.cs .v (.s [])) []) (zs 0<|zn 2 [])<|
 .seq (zq (zp 1<|zi (.nz true (.e 0)) []) (zs 0<|zn 1<|zs 3 [])<|
 .cond 2 (zq (zi (.cs .v (.s [46])) []) (zn 1<|zs 3<|zn 1 [])<|
 .ret) .skip)<|
 zq (zp 1<|zi (.nn (.e 0))<|zi (.fp false (.e 3) 0)<|zp 1<|zi (.ca 196 [.e 4] 1)<|zi (.bi .add (.c (.s [40])) (.e 5))<|zp 1<|zi (.nn (.e 0))<|zi (.fp false (.e 7) 1)<|zp 1<|zi (.ca 196 [.e 8] 1)<|zi (.bi .add (.e 6) (.e 9))<|zi (.bi .add (.e 10) (.c (.s [41])))<|zp 1 []) (zn 1<|zs 11<|zn 1 [])<|
 .ret⟩
def ir_impl_tree_triangles:IF:=⟨[],5,11,[5,6],zq (zi (.cs (.o .v) (.l []))<|zi (.cs (.o .v) (.l [])) []) (zs 0<|zs 1<|zs 2<|zs 3<|zs 4<|zn 6 [])<|
 .seq (zq (zp 1<|zi (.nz true (.e 0)) []) (zs 0<|zs 1<|zs 2<|zs 3<|zs 4<|zn 3<|zs 11<|zn 2 [])<|
 .cond 8 (zq (zp 4 []) (zn 5<|zs 3<|zs 4<|zn 4 [])<|
 .ret) .skip)<|
 zq (zp 2<|zi (.nn (.e 0))<|zi (.fp false (.e 11) 0)<|zp 1<|zi (.ca 197 [.e 12] 1)<|zi (.bi .add (.e 1) (.e 13))<|zi (.bi .add (.e 14) (.c (.n 1)))<|zp 1 []) (zs 0<|zs 1<|zs 2<|zs 3<|zs 4<|zn 2<|zs 15<|zn 3 [])<|
 zq (zp 4<|zi (.li (.o .v) [.e 1,.e 7,.e 2])<|zi (.li (.o .v) [.e 11])<|zi (.ap false (.e 3) (.e 12))<|zp 1 []) (zs 0<|zs 1<|zs 2<|zs 13<|zs 4<|zn 2<|zs 7<|zn 3 [])<|
 .seq (zq (zp 1<|zi (.nn (.e 0))<|zi (.fp false (.e 11) 0)<|zp 1<|zi (.nz false (.e 12)) []) (zs 0<|zs 1<|zs 2<|zs 3<|zs 4<|zn 2<|zs 7<|zn 1<|zs 13<|zn 1 [])<|
 .cond 9 (.reg (zp 3<|zi (.li (.o .v) [.e 1,.e 7])<|zi (.li (.o .v) [.e 11])<|zi (.ap false (.e 4) (.e 12))<|zp 1 []) (zs 0<|zs 1<|zs 2<|zs 3<|zs 13<|zn 2<|zs 7<|zn 3 [])) .skip)<|
 .seq (zq (zp 1<|zi (.nn (.e 0))<|zi (.fp false (.e 11) 1)<|zp 1<|zi (.nz false (.e 12)) []) (zs 0<|zs 1<|zs 2<|zs 3<|zs 4<|zn 2<|zs 7<|zn 2<|zs 13 [])<|
 .cond 10 (.reg (zp 3<|zi (.li (.o .v) [.e 7,.e 2])<|zi (.li (.o .v) [.e 11])<|zi (.ap false (.e 4) (.e 12))<|zp 1 []) (zs 0<|zs 1<|zs 2<|zs 3<|zs 13<|zn 2<|zs 7<|zn 3 [])) .skip)<|
 zq (zp 1<|zi (.nn (.e 0))<|zi (.fp false (.e 11) 0)<|zp 5<|zi (.ca 541 [.e 12,.e 1,.e 7,.e 3,.e 4] 2)<|zp 5 []) (zs 0<|zn 1<|zs 2<|zs 13<|zs 14<|zn 2<|zs 7<|zn 3 [])<|
 zq (zp 1<|zi (.nn (.e 0))<|zi (.fp false (.e 11) 1)<|zp 5<|zi (.ca 541 [.e 12,.e 7,.e 2,.e 3,.e 4] 2)<|zp 4 []) (zn 5<|zs 13<|zs 14<|zn 4 [])<|
 .ret⟩
def ir_impl_tree_weights:IF:=⟨[],2,4,[2],zq (zi (.cs (.o .v) (.l [])) []) (zs 0<|zs 1<|zn 2 [])<|
 .seq (zq (zp 1<|zi (.nz true (.e 0)) []) (zs 0<|zs 1<|zn 1<|zs 4 [])<|
 .cond 3 (zq (zp 2 []) (zn 2<|zs 1<|zn 1 [])<|
 .ret) .skip)<|
 zq (zp 1<|zi (.nn (.e 0))<|zi (.fp false (.e 4) 1)<|zp 2<|zi (.nn (.e 0))<|zi (.fp false (.e 6) 0)<|zp 2<|zi (.ca 199 [.e 7,.e 1] 1)<|zp 1<|zi (.nn (.e 0))<|zi (.fp false (.e 9) 1)<|zp 1<|zi (.ca 197 [.e 10] 1)<|zi (.li (.o .v) [.e 11])<|zi (.ap false (.e 8) (.e 12))<|zi (.ca 199 [.e 5,.e 13] 1)<|zp 1 []) (zn 2<|zs 14<|zn 1 [])<|
 .ret⟩
def ir_math_bits_Len:IF:=⟨[],1,2,[1],zq (zi (.cs .v (.n 0)) []) (zs 0<|zn 1 [])<|
 .seq .skip<|
 zq (zp 1<|zi (.ca 391 [.e 0] 1)<|zp 1 []) (zn 1<|zs 2 [])<|
 .ret⟩
def ir_math_bits_Len32:IF:=⟨[],1,4,[1],zq (zi (.cs .v (.n 0)) []) (zs 0<|zs 4<|zn 2 [])<|
 .seq (zq (zp 1<|zi (.bi .geq (.e 0) (.c (.i .u32 65536))) []) (zs 0<|zs 1<|zs 4<|zn 1 [])<|
 .cond 2 (zq (zp 1<|zi (.bi .shr (.e 0) (.c (.i .u64 16)))<|zp 1 []) (zs 4<|zn 3 [])<|
 .reg (zi (.cs .v (.n 16)) []) (zs 0<|zs 4<|zn 2 [])) .skip)<|
 .seq (zq (zp 1<|zi (.bi .geq (.e 0) (.c (.i .u32 256))) []) (zs 0<|zs 1<|zn 1<|zs 4 [])<|
 .cond 3 (zq (zp 1<|zi (.bi .shr (.e 0) (.c (.i .u64 8)))<|zp 1 []) (zs 4<|zs 1<|zn 2 [])<|
 .reg (zp 1<|zi (.bi .add (.e 1) (.c (.n 8)))<|zp 1 []) (zs 0<|zs 4<|zn 2 [])) .skip)<|
 zq (zp 2<|zi (.cv .u8 (.e 0))<|zi (.sx (.c (.s [0,1,2,2,3,3,3,3,4,4,4,4,4,4,4,4,5,5,5,5,5,5,5,5,5,5,5,5,5,5,5,5,6,6,6,6,6,6,6,6,6,6,6,6,6,6,6,6,6,6,6,6,6,6,6,6,6,6,6,6,6,6,6,6,7,7,7,7,7,7,7,7,7,7,7,7,7,7,7,7,7,7,7,7,7,7,7,7,7,7,7,7,7,7,7,7,7,7,7,7,7,7,7,7,7,7,7,7,7,7,7,7,7,7,7,7,7,7,7,7,7,7,7,7,7,7,7,7,8,8,8,8,8,8,8,8,8,8,8,8,8,8,8,8,8,8,8,8,8,8,8,8,8,8,8,8,8,8,8,8,8,8,8,8,8,8,8,8,8,8,8,8,8,8,8,8,8,8,8,8,8,8,8,8,8,8,8,8,8,8,8,8,8,8,8,8,8,8,8,8,8,8,8,8,8,8,8,8,8,8,8,8,8,8,8,8,8,8,8,8,8,8,8,8,8,8,8,8,8,8,8,8,8,8,8,8,8,8,8,8,8,8,8,8,8,8,8,8,8,8,8,8,8,8,8,8])) (.e 4))<|zi (.cv .i64 (.e 5))<|zi (.bi .add (.e 1) (.e 6))<|zp 1 []) (zn 1<|zs 7<|zn 2 [])<|
 .ret⟩
def ir_math_bits_Len64:IF:=⟨[],1,5,[1],zq (zi (.cs .v (.n 0)) []) (zs 0<|zs 5<|zn 3 [])<|
 .seq (zq (zp 1<|zi (.bi .geq (.e 0) (.c (.i .u64 4294967296))) []) (zs 0<|zs 1<|zs 5<|zn 2 [])<|
 .cond 2 (zq (zp 1<|zi (.bi .shr (.e 0) (.c (.i .u64 32)))<|zp 1 []) (zs 5<|zn 4 [])<|
 .reg (zi (.cs .v (.n 32)) []) (zs 0<|zs 5<|zn 3 [])) .skip)<|
 .seq (zq (zp 1<|zi (.bi .geq (.e 0) (.c (.i .u64 65536))) []) (zs 0<|zs 1<|zn 1<|zs 5<|zn 1 [])<|
 .cond 3 (zq (zp 1<|zi (.bi .shr (.e 0) (.c (.i .u64 16)))<|zp 1 []) (zs 5<|zs 1<|zn 3 [])<|
 .reg (zp 1<|zi (.bi .add (.e 1) (.c (.n 16)))<|zp 1 []) (zs 0<|zs 5<|zn 3 [])) .skip)<|
 .seq (zq (zp 1<|zi (.bi .geq (.e 0) (.c (.i .u64 256))) []) (zs 0<|zs 1<|zn 2<|zs 5 [])<|
 .cond 4 (zq (zp 1<|zi (.bi .shr (.e 0) (.c (.i .u64 8)))<|zp 1 []) (zs 5<|zs 1<|zn 3 [])<|
 .reg (zp 1<|zi (.bi .add (.e 1) (.c (.n 8)))<|zp 1 []) (zs 0<|zs 5<|zn 3 [])) .skip)<|
 zq (zp 2<|zi (.cv .u8 (.e 0))<|zi (.sx (.c (.s [0,1,2,2,3,3,3,3,4,4,4,4,4,4,4,4,5,5,5,5,5,5,5,5,5,5,5,5,5,5,5,5,6,6,6,6,6,6,6,6,6,6,6,6,6,6,6,6,6,6,6,6,6,6,6,6,6,6,6,6,6,6,6,6,7,7,7,7,7,7,7,7,7,7,7,7,7,7,7,7,7,7,7,7,7,7,7,7,7,7,7,7,7,7,7,7,7,7,7,7,7,7,7,7,7,7,7,7,7,7,7,7,7,7,7,7,7,7,7,7,7,7,7,7,7,7,7,7,8,8,8,8,8,8,8,8,8,8,8,8,8,8,8,8,8,8,8,8,8,8,8,8,8,8,8,8,8,8,8,8,8,8,8,8,8,8,8,8,8,8,8,8,8,8,8,8,8,8,8,8,8,8,8,8,8,8,8,8,8,8,8,8,8,8,8,8,8,8,8,8,8,8,8,8,8,8,8,8,8,8,8,8,8,8,8,8,8,8,8,8,8,8,8,8,8,8,8,8,8,8,8,8,8,8,8,8,8,8,8,8,8,8,8,8,8,8,8,8,8,8,8,8,8,8,8,8])) (.e 5))<|zi (.cv .i64 (.e 6))<|zi (.bi .add (.e 1) (.e 7))<|zp 1 []) (zn 1<|zs 8<|zn 3 [])<|
 .ret⟩
def ir_slices_Compare___int_int_:IF:=⟨[],2,14,[2],zq (zi (.cs .v (.n 0)) []) (zs 0<|zs 1<|zn 12 [])<|
 .seq (zq (zp 1<|zi (.ln (.e 0) [])<|zi (.cs .v (.n 0)) []) (zs 0<|zs 1<|zn 5<|zs 0<|zs 14<|zs 15<|zn 4 [])<|
 .block 0<|.loop<|zq (zi (.bi .lss (.e 9) (.e 8)) []) (zs 0<|zs 1<|zn 5<|zs 7<|zs 8<|zs 9<|zs 14<|zn 3 [])<|
 .seq (.cond 10 .skip (.exit 0))<|
 .seq (.block 1<|zq (zp 1<|zi (.iy (.e 7) (.e 9))<|zp 3 []) (zs 0<|zs 1<|zn 1<|zs 9<|zs 14<|zn 2<|zs 7<|zs 8<|zs 9<|zn 4 [])<|
 .seq (zq (zp 2<|zi (.ln (.e 1) [])<|zi (.bi .geq (.e 3) (.e 14)) []) (zs 0<|zs 1<|zn 1<|zs 3<|zs 4<|zn 2<|zs 7<|zs 8<|zs 9<|zn 1<|zs 15<|zn 2 [])<|
 .cond 11 (zq (zi (.cs .v (.n 1)) []) (zn 2<|zs 14<|zn 11 [])<|
 .ret) .skip)<|
 zq (zp 2<|zi (.iy (.e 1) (.e 3))<|zp 2 []) (zs 0<|zs 1<|zn 2<|zs 4<|zs 14<|zn 1<|zs 7<|zs 8<|zs 9<|zn 4 [])<|
 zq (zp 2<|zi (.ca 377 [.e 4,.e 5] 1)<|zp 1 []) (zs 0<|zs 1<|zn 4<|zs 14<|zs 7<|zs 8<|zs 9<|zn 4 [])<|
 zq (zp 1<|zi (.bi .neq (.e 6) (.c (.n 0))) []) (zs 0<|zs 1<|zn 4<|zs 6<|zs 7<|zs 8<|zs 9<|zn 2<|zs 14<|zn 1 [])<|
 .cond 12 (zq (zp 2 []) (zn 2<|zs 6<|zn 11 [])<|
 .ret) .skip)<|
 .reg (zi (.bi .add (.e 9) (.c (.n 1)))<|zp 1 []) (zs 0<|zs 1<|zn 5<|zs 7<|zs 8<|zs 14<|zn 4 []))<|
 .seq (zq (zp 1<|zi (.ln (.e 0) [])<|zp 1<|zi (.ln (.e 1) [])<|zi (.bi .lss (.e 14) (.e 15)) []) (zn 13<|zs 16 [])<|
 .cond 13 (zq (zi (.cs .v (.n (-1))) []) (zn 2<|zs 14<|zn 11 [])<|
 .ret) .skip)<|
 zq (zi (.cs .v (.n 0)) []) (zn 2<|zs 14<|zn 11 [])<|
 .ret⟩
def ir_slices_Contains___string_string_:IF:=⟨[],2,3,[2],zq (zi (.cs .v (.b false)) []) (zs 0<|zs 1<|zn 1 [])<|
 zq (zp 2<|zi (.ca 654 [.e 0,.e 1] 1)<|zi (.bi .geq (.e 3) (.c (.n 0)))<|zp 1 []) (zn 2<|zs 4 [])<|
 .ret⟩
def ir_slices_Index___string_string_:IF:=⟨[],2,8,[2],zq (zi (.cs .v (.n 0)) []) (zs 0<|zs 1<|zn 6 [])<|
 .seq (zq (zp 1<|zi (.ln (.e 0) [])<|zi (.cs .v (.n 0)) []) (zs 0<|zs 1<|zn 2<|zs 8<|zs 9<|zn 2 [])<|
 .block 0<|.loop<|zq (zi (.bi .lss (.e 5) (.e 4)) []) (zs 0<|zs 1<|zn 2<|zs 4<|zs 5<|zs 8<|zn 1 [])<|
 .seq (.cond 6 .skip (.exit 0))<|
 .seq (.block 1<|zq (zp 2 []) (zs 0<|zs 1<|zn 1<|zs 5<|zs 4<|zs 5<|zn 2 [])<|
 zq (zp 3<|zi (.iy (.e 0) (.e 3))<|zp 1<|zi (.bi .eql (.e 1) (.e 8)) []) (zs 0<|zs 1<|zn 1<|zs 3<|zs 4<|zs 5<|zn 1<|zs 9 [])<|
 .cond 7 (zq (zp 2 []) (zn 2<|zs 3<|zn 5 [])<|
 .ret) .skip)<|
 .reg (zi (.bi .add (.e 5) (.c (.n 1)))<|zp 1 []) (zs 0<|zs 1<|zn 2<|zs 4<|zs 8<|zn 2 []))<|
 zq (zi (.cs .v (.n (-1))) []) (zn 2<|zs 8<|zn 5 [])<|
 .ret⟩
def ir_slices_IsSorted___int_int_:IF:=⟨[],1,5,[1],zq (zi (.cs .v (.b false)) []) (zs 0<|zn 4 [])<|
 .seq (zq (zp 1<|zi (.ln (.e 0) [])<|zi (.bi .sub (.e 5) (.c (.n 1)))<|zp 1 []) (zs 0<|zn 1<|zs 6<|zn 2 [])<|
 .block 0<|.loop<|.seq (zq (zp 1<|zi (.bi .gtr (.e 2) (.c (.n 0))) []) (zs 0<|zn 1<|zs 2<|zs 5<|zn 1 [])<|
 .cond 3 .skip (.exit 0))<|
 .seq (.block 1<|zq (zp 2<|zi (.iy (.e 0) (.e 2))<|zp 3<|zi (.bi .sub (.e 2) (.c (.n 1)))<|zi (.iy (.e 0) (.e 6))<|zp 1<|zi (.ca 203 [.e 5,.e 7] 1) []) (zs 0<|zn 1<|zs 2<|zn 1<|zs 8 [])<|
 .cond 4 (zq (zi (.cs .v (.b false)) []) (zn 1<|zs 5<|zn 3 [])<|
 .ret) .skip)<|
 .reg (zp 1<|zi (.bi .sub (.e 2) (.c (.n 1)))<|zp 1 []) (zs 0<|zn 1<|zs 5<|zn 2 []))<|
 zq (zi (.cs .v (.b true)) []) (zn 1<|zs 5<|zn 3 [])<|
 .ret⟩
def ir_slices_Reverse___string_string_:IF:=⟨[],1,4,[0],zq (zp 1<|zi (.ln (.e 0) [])<|zi (.bi .sub (.e 4) (.c (.n 1)))<|zi (.cs .v (.n 0))<|zp 1 []) (zs 0<|zs 6<|zs 5<|zn 1 [])<|
 .block 0<|.loop<|.seq (zq (zp 2<|zi (.bi .lss (.e 1) (.e 2)) []) (zs 0<|zs 1<|zs 2<|zs 4 [])<|
 .cond 3 .skip (.exit 0))<|
 .seq (.block 1<|.reg (zp 6<|zi (.ix (.e 0) [] (.e 2))<|zp 3<|zi (.ix (.e 0) [] (.e 1))<|zp 1<|zi (.ix (.e 0) [] (.e 1))<|zi (.up 0 [.e 1] (.e 4))<|zi (.ix (.e 7) [] (.e 2))<|zi (.up 7 [.e 2] (.e 5)) []) (zs 9<|zs 1<|zs 2<|zn 1 []))<|
 .reg (zp 1<|zi (.bi .add (.e 1) (.c (.n 1)))<|zp 1<|zi (.bi .sub (.e 2) (.c (.n 1)))<|zp 2 []) (zs 0<|zs 4<|zs 5<|zn 1 [])⟩
def ir_slices_SortFunc_____int___int_:IF:=⟨[],2,3,[0],zq (zp 1<|zi (.ln (.e 0) [])<|zp 1 []) (zs 0<|zs 1<|zs 3 [])<|
 .reg (zp 3<|zi (.cv .u64 (.e 2))<|zi (.ca 376 [.e 3] 1)<|zp 1<|zi (.ca 375 [.e 0,.c (.n 0),.e 2,.e 4,.e 1] 1) []) (zs 5<|zn 2 [])⟩
def ir_slices_heapSortCmpFunc___int_:IF:=⟨[],4,11,[0],zq (zp 2 []) (zs 0<|zs 1<|zs 2<|zs 3<|zs 1<|zn 6 [])<|
 zq (zi (.cs .v (.n 0)) []) (zs 0<|zs 1<|zs 2<|zs 3<|zs 4<|zs 11<|zn 5 [])<|
 zq (zp 2<|zi (.bi .sub (.e 2) (.e 1))<|zp 1 []) (zs 0<|zn 2<|zs 3<|zs 4<|zs 5<|zs 11<|zn 4 [])<|
 .seq (zq (zp 1<|zi (.bi .sub (.e 6) (.c (.n 1)))<|zi (.bi .quo (.e 11) (.c (.n 2)))<|zp 1 []) (zs 0<|zn 2<|zs 3<|zs 4<|zs 5<|zs 6<|zs 12<|zn 3 [])<|
 .block 0<|.loop<|.seq (zq (zp 1<|zi (.bi .geq (.e 7) (.c (.n 0))) []) (zs 0<|zn 2<|zs 3<|zs 4<|zs 5<|zs 6<|zs 7<|zn 1<|zs 11<|zn 1 [])<|
 .cond 9 .skip (.exit 0))<|
 .seq (.block 1<|.reg (zp 5<|zi (.ca 392 [.e 0,.e 7,.e 6,.e 4,.e 3] 1) []) (zs 11<|zn 2<|zs 3<|zs 4<|zs 5<|zs 6<|zs 7<|zn 3 []))<|
 .reg (zp 1<|zi (.bi .sub (.e 7) (.c (.n 1)))<|zp 1 []) (zs 0<|zn 2<|zs 3<|zs 4<|zs 5<|zs 6<|zs 11<|zn 3 []))<|
 zq (zp 1<|zi (.bi .sub (.e 6) (.c (.n 1)))<|zp 1 []) (zs 0<|zn 2<|zs 3<|zs 4<|zs 5<|zn 2<|zs 11<|zn 2 [])<|
 .block 2<|.loop<|.seq (zq (zp 1<|zi (.bi .geq (.e 8) (.c (.n 0))) []) (zs 0<|zn 2<|zs 3<|zs 4<|zs 5<|zn 2<|zs 8<|zn 1<|zs 11 [])<|
 .cond 10 .skip (.exit 2))<|
 .seq (.block 3<|zq (zp 5<|zi (.bi .add (.e 4) (.e 8))<|zp 3<|zi (.bi .add (.e 4) (.e 8))<|zi (.ix (.e 0) [] (.e 12))<|zp 3<|zi (.ix (.e 0) [] (.e 4))<|zp 1<|zi (.ix (.e 0) [] (.e 4))<|zi (.up 0 [.e 4] (.e 13))<|zi (.ix (.e 16) [] (.e 11))<|zi (.up 16 [.e 11] (.e 14)) []) (zs 18<|zn 2<|zs 3<|zs 4<|zs 5<|zn 2<|zs 8<|zn 2 [])<|
 .reg (zp 5<|zi (.ca 392 [.e 0,.e 5,.e 8,.e 4,.e 3] 1) []) (zs 11<|zn 2<|zs 3<|zs 4<|zs 5<|zn 2<|zs 8<|zn 2 []))<|
 .reg (zp 1<|zi (.bi .sub (.e 8) (.c (.n 1)))<|zp 1 []) (zs 0<|zn 2<|zs 3<|zs 4<|zs 5<|zn 2<|zs 11<|zn 2 [])⟩
def ir_slices_insertionSortCmpFunc___int_:IF:=⟨[],4,8,[0],zq (zp 1<|zi (.bi .add (.e 1) (.c (.n 1)))<|zp 1 []) (zs 0<|zs 1<|zs 2<|zs 3<|zs 8<|zn 3 [])<|
 .block 0<|.loop<|.seq (zq (zp 2<|zi (.bi .lss (.e 4) (.e 2)) []) (zs 0<|zs 1<|zs 2<|zs 3<|zs 4<|zn 1<|zs 8<|zn 1 [])<|
 .cond 6 .skip (.exit 0))<|
 .seq (.block 1<|zq (zp 2 []) (zs 0<|zs 1<|zs 2<|zs 3<|zs 4<|zs 4<|zn 2 [])<|
 .block 2<|.loop<|.seq (zq (zp 2<|zi (.bi .gtr (.e 5) (.e 1))<|zp 1<|zg [(8,true)] (.cy (.e 3))<|zg [(8,true)] .nop<|zg [(8,true)] (.cy (.e 5))<|zg [(8,true)] (.ix (.e 0) [] (.e 10))<|zg [(8,true)] .nop<|zg [(8,true)] .nop<|zg [(8,true)] (.cy (.e 5))<|zg [(8,true)] (.bi .sub (.e 12) (.c (.n 1)))<|zg [(8,true)] (.ix (.e 0) [] (.e 13))<|zg [(8,true)] .nop<|zg [(8,true)] (.cd (.e 9) 364 [.e 11,.e 14] 1)<|zg [(8,true)] (.bi .lss (.e 15) (.c (.n 0)))<|zi (.pk (.e 8) (.e 16) (.c (.b false))) []) (zs 0<|zs 1<|zs 2<|zs 3<|zs 4<|zs 5<|zn 1<|zs 17 [])<|
 .cond 7 .skip (.exit 2))<|
 .seq (.block 3<|.reg (zp 4<|zi (.bi .sub (.e 5) (.c (.n 1)))<|zp 2<|zi (.bi .sub (.e 5) (.c (.n 1)))<|zi (.ix (.e 0) [] (.e 9))<|zp 3<|zi (.ix (.e 0) [] (.e 5))<|zp 1<|zi (.ix (.e 0) [] (.e 5))<|zi (.up 0 [.e 5] (.e 10))<|zi (.ix (.e 13) [] (.e 8))<|zi (.up 13 [.e 8] (.e 11)) []) (zs 15<|zs 1<|zs 2<|zs 3<|zs 4<|zs 5<|zn 2 []))<|
 .reg (zp 1<|zi (.bi .sub (.e 5) (.c (.n 1)))<|zp 1 []) (zs 0<|zs 1<|zs 2<|zs 3<|zs 4<|zs 8<|zn 2 []))<|
 .reg (zp 1<|zi (.bi .add (.e 4) (.c (.n 1)))<|zp 1 []) (zs 0<|zs 1<|zs 2<|zs 3<|zs 8<|zn 3 [])⟩
def ir_slices_partialInsertionSortCmpFunc___int_:IF:=⟨[],4,19,[4,0],zq (zi (.cs .v (.b false)) []) (zs 0<|zs 1<|zs 2<|zs 3<|zn 15 [])<|
 zq (zp 1<|zi (.bi .add (.e 1) (.c (.n 1)))<|zp 1 []) (zs 0<|zs 1<|zs 2<|zs 3<|zn 1<|zs 19<|zn 13 [])<|
 .seq (zq (zi (.cs .v (.n 0)) []) (zs 0<|zs 1<|zs 2<|zs 3<|zn 1<|zs 5<|zs 19<|zn 12 [])<|
 .block 0<|.loop<|.seq (zq (zp 1<|zi (.bi .lss (.e 6) (.c (.n 5))) []) (zs 0<|zs 1<|zs 2<|zs 3<|zn 1<|zs 5<|zs 6<|zn 2<|zs 19<|zn 9 [])<|
 .cond 9 .skip (.exit 0))<|
 .seq (.block 1<|.seq (.block 2<|.loop<|.seq (zq (zp 2<|zi (.bi .lss (.e 5) (.e 2))<|zp 1<|zg [(19,true)] (.cy (.e 3))<|zg [(19,true)] .nop<|zg [(19,true)] (.cy (.e 5))<|zg [(19,true)] (.ix (.e 0) [] (.e 21))<|zg [(19,true)] .nop<|zg [(19,true)] .nop<|zg [(19,true)] (.cy (.e 5))<|zg [(19,true)] (.bi .sub (.e 23) (.c (.n 1)))<|zg [(19,true)] (.ix (.e 0) [] (.e 24))<|zg [(19,true)] .nop<|zg [(19,true)] (.cd (.e 20) 364 [.e 22,.e 25] 1)<|zg [(19,true)] (.bi .lss (.e 26) (.c (.n 0)))<|zg [(19,true)] (.un .not (.e 27))<|zi (.pk (.e 19) (.e 28) (.c (.b false))) []) (zs 0<|zs 1<|zs 2<|zs 3<|zn 1<|zs 5<|zs 6<|zn 3<|zs 29<|zn 8 [])<|
 .cond 10 .skip (.exit 2))<|
 .block 3<|.reg (zp 1<|zi (.bi .add (.e 5) (.c (.n 1)))<|zp 1 []) (zs 0<|zs 1<|zs 2<|zs 3<|zn 1<|zs 19<|zs 6<|zn 12 []))<|
 .seq (zq (zp 2<|zi (.bi .eql (.e 5) (.e 2)) []) (zs 0<|zs 1<|zs 2<|zs 3<|zn 1<|zs 5<|zs 6<|zn 4<|zs 19<|zn 7 [])<|
 .cond 11 (zq (zi (.cs .v (.b true)) []) (zs 0<|zn 3<|zs 19<|zn 14 [])<|
 .ret) .skip)<|
 .seq (zq (zp 2<|zi (.bi .sub (.e 2) (.e 1))<|zi (.bi .lss (.e 19) (.c (.n 50))) []) (zs 0<|zs 1<|zs 2<|zs 3<|zn 1<|zs 5<|zs 6<|zn 5<|zs 20<|zn 6 [])<|
 .cond 12 (zq (zi (.cs .v (.b false)) []) (zs 0<|zn 3<|zs 19<|zn 14 [])<|
 .ret) .skip)<|
 zq (zp 4<|zi (.bi .sub (.e 5) (.c (.n 1)))<|zp 2<|zi (.bi .sub (.e 5) (.c (.n 1)))<|zi (.ix (.e 0) [] (.e 20))<|zp 3<|zi (.ix (.e 0) [] (.e 5))<|zp 1<|zi (.ix (.e 0) [] (.e 5))<|zi (.up 0 [.e 5] (.e 21))<|zi (.ix (.e 24) [] (.e 19))<|zi (.up 24 [.e 19] (.e 22)) []) (zs 26<|zs 1<|zs 2<|zs 3<|zn 1<|zs 5<|zs 6<|zn 12 [])<|
 .seq (zq (zp 2<|zi (.bi .sub (.e 5) (.e 1))<|zi (.bi .geq (.e 19) (.c (.n 2))) []) (zs 0<|zs 1<|zs 2<|zs 3<|zn 1<|zs 5<|zs 6<|zn 6<|zs 20<|zn 5 [])<|
 .cond 13 (zq (zp 1<|zi (.bi .sub (.e 5) (.c (.n 1)))<|zp 1 []) (zs 0<|zs 1<|zs 2<|zs 3<|zn 1<|zs 5<|zs 6<|zs 19<|zn 11 [])<|
 .block 4<|.loop<|.seq (zq (zp 1<|zi (.bi .geq (.e 7) (.c (.n 1))) []) (zs 0<|zs 1<|zs 2<|zs 3<|zn 1<|zs 5<|zs 6<|zs 7<|zn 6<|zs 19<|zn 4 [])<|
 .cond 14 .skip (.exit 4))<|
 .seq (.block 5<|.seq (zq (zp 3<|zi (.ix (.e 0) [] (.e 7))<|zp 3<|zi (.bi .sub (.e 7) (.c (.n 1)))<|zi (.ix (.e 0) [] (.e 20))<|zp 1<|zi (.cd (.e 3) 364 [.e 19,.e 21] 1)<|zi (.bi .lss (.e 22) (.c (.n 0)))<|zi (.un .not (.e 23)) []) (zs 0<|zs 1<|zs 2<|zs 3<|zn 1<|zs 5<|zs 6<|zs 7<|zn 7<|zs 24<|zn 3 [])<|
 .cond 15 (.exit 4) .skip)<|
 .reg (zp 4<|zi (.bi .sub (.e 7) (.c (.n 1)))<|zp 2<|zi (.bi .sub (.e 7) (.c (.n 1)))<|zi (.ix (.e 0) [] (.e 20))<|zp 3<|zi (.ix (.e 0) [] (.e 7))<|zp 1<|zi (.ix (.e 0) [] (.e 7))<|zi (.up 0 [.e 7] (.e 21))<|zi (.ix (.e 24) [] (.e 19))<|zi (.up 24 [.e 19] (.e 22)) []) (zs 26<|zs 1<|zs 2<|zs 3<|zn 1<|zs 5<|zs 6<|zs 7<|zn 11 []))<|
 .reg (zp 1<|zi (.bi .sub (.e 7) (.c (.n 1)))<|zp 1 []) (zs 0<|zs 1<|zs 2<|zs 3<|zn 1<|zs 5<|zs 6<|zs 19<|zn 11 [])) .skip)<|
 zq (zp 2<|zi (.bi .sub (.e 2) (.e 5))<|zi (.bi .geq (.e 19) (.c (.n 2))) []) (zs 0<|zs 1<|zs 2<|zs 3<|zn 1<|zs 5<|zs 6<|zn 9<|zs 20<|zn 2 [])<|
 .cond 16 (zq (zp 1<|zi (.bi .add (.e 5) (.c (.n 1)))<|zp 1 []) (zs 0<|zs 1<|zs 2<|zs 3<|zn 1<|zs 5<|zs 6<|zn 1<|zs 19<|zn 10 [])<|
 .block 6<|.loop<|.seq (zq (zp 2<|zi (.bi .lss (.e 8) (.e 2)) []) (zs 0<|zs 1<|zs 2<|zs 3<|zn 1<|zs 5<|zs 6<|zn 1<|zs 8<|zn 8<|zs 19<|zn 1 [])<|
 .cond 17 .skip (.exit 6))<|
 .seq (.block 7<|.seq (zq (zp 3<|zi (.ix (.e 0) [] (.e 8))<|zp 3<|zi (.bi .sub (.e 8) (.c (.n 1)))<|zi (.ix (.e 0) [] (.e 20))<|zp 1<|zi (.cd (.e 3) 364 [.e 19,.e 21] 1)<|zi (.bi .lss (.e 22) (.c (.n 0)))<|zi (.un .not (.e 23)) []) (zs 0<|zs 1<|zs 2<|zs 3<|zn 1<|zs 5<|zs 6<|zn 1<|zs 8<|zn 9<|zs 24 [])<|
 .cond 18 (.exit 6) .skip)<|
 .reg (zp 4<|zi (.bi .sub (.e 8) (.c (.n 1)))<|zp 2<|zi (.bi .sub (.e 8) (.c (.n 1)))<|zi (.ix (.e 0) [] (.e 20))<|zp 3<|zi (.ix (.e 0) [] (.e 8))<|zp 1<|zi (.ix (.e 0) [] (.e 8))<|zi (.up 0 [.e 8] (.e 21))<|zi (.ix (.e 24) [] (.e 19))<|zi (.up 24 [.e 19] (.e 22)) []) (zs 26<|zs 1<|zs 2<|zs 3<|zn 1<|zs 5<|zs 6<|zn 1<|zs 8<|zn 10 []))<|
 .reg (zp 1<|zi (.bi .add (.e 8) (.c (.n 1)))<|zp 1 []) (zs 0<|zs 1<|zs 2<|zs 3<|zn 1<|zs 5<|zs 6<|zn 1<|zs 19<|zn 10 [])) .skip)<|
 .reg (zp 1<|zi (.bi .add (.e 6) (.c (.n 1)))<|zp 1 []) (zs 0<|zs 1<|zs 2<|zs 3<|zn 1<|zs 5<|zs 19<|zn 12 []))<|
 zq (zi (.cs .v (.b false)) []) (zs 0<|zn 3<|zs 19<|zn 14 [])<|
 .ret⟩
def ir_slices_partitionCmpFunc___int_:IF:=⟨[],5,15,[5,6,0],zq (zi (.cs .v (.n 0))<|zi (.cs .v (.b false)) []) (zs 0<|zs 1<|zs 2<|zs 3<|zs 4<|zn 10 [])<|
 zq (zp 6<|zi (.ix (.e 0) [] (.e 3))<|zp 3<|zi (.ix (.e 0) [] (.e 1))<|zp 1<|zi (.ix (.e 0) [] (.e 1))<|zi (.up 0 [.e 1] (.e 15))<|zi (.ix (.e 18) [] (.e 3))<|zi (.up 18 [.e 3] (.e 16)) []) (zs 20<|zs 1<|zs 2<|zn 1<|zs 4<|zn 10 [])<|
 zq (zp 1<|zi (.bi .add (.e 1) (.c (.n 1)))<|zp 1<|zi (.bi .sub (.e 2) (.c (.n 1)))<|zp 2 []) (zs 0<|zs 1<|zn 2<|zs 4<|zn 2<|zs 15<|zs 16<|zn 6 [])<|
 .seq (.block 0<|.loop<|.seq (zq (zp 2<|zi (.bi .leq (.e 7) (.e 8))<|zp 1<|zg [(15,true)] (.cy (.e 4))<|zg [(15,true)] .nop<|zg [(15,true)] (.cy (.e 7))<|zg [(15,true)] (.ix (.e 0) [] (.e 17))<|zg [(15,true)] .nop<|zg [(15,true)] .nop<|zg [(15,true)] (.cy (.e 1))<|zg [(15,true)] (.ix (.e 0) [] (.e 19))<|zg [(15,true)] .nop<|zg [(15,true)] (.cd (.e 16) 364 [.e 18,.e 20] 1)<|zg [(15,true)] (.bi .lss (.e 21) (.c (.n 0)))<|zi (.pk (.e 15) (.e 22) (.c (.b false))) []) (zs 0<|zs 1<|zn 2<|zs 4<|zn 2<|zs 7<|zs 8<|zs 23<|zn 5 [])<|
 .cond 9 .skip (.exit 0))<|
 .block 1<|.reg (zp 1<|zi (.bi .add (.e 7) (.c (.n 1)))<|zp 1 []) (zs 0<|zs 1<|zn 2<|zs 4<|zn 2<|zs 15<|zs 8<|zn 6 []))<|
 .seq (.block 2<|.loop<|.seq (zq (zp 2<|zi (.bi .leq (.e 7) (.e 8))<|zp 1<|zg [(15,true)] (.cy (.e 4))<|zg [(15,true)] .nop<|zg [(15,true)] (.cy (.e 8))<|zg [(15,true)] (.ix (.e 0) [] (.e 17))<|zg [(15,true)] .nop<|zg [(15,true)] .nop<|zg [(15,true)] (.cy (.e 1))<|zg [(15,true)] (.ix (.e 0) [] (.e 19))<|zg [(15,true)] .nop<|zg [(15,true)] (.cd (.e 16) 364 [.e 18,.e 20] 1)<|zg [(15,true)] (.bi .lss (.e 21) (.c (.n 0)))<|zg [(15,true)] (.un .not (.e 22))<|zi (.pk (.e 15) (.e 23) (.c (.b false))) []) (zs 0<|zs 1<|zn 2<|zs 4<|zn 2<|zs 7<|zs 8<|zn 1<|zs 24<|zn 4 [])<|
 .cond 10 .skip (.exit 2))<|
 .block 3<|.reg (zp 1<|zi (.bi .sub (.e 8) (.c (.n 1)))<|zp 1 []) (zs 0<|zs 1<|zn 2<|zs 4<|zn 2<|zs 7<|zs 15<|zn 6 []))<|
 .seq (zq (zp 2<|zi (.bi .gtr (.e 7) (.e 8)) []) (zs 0<|zs 1<|zn 2<|zs 4<|zn 2<|zs 7<|zs 8<|zn 2<|zs 15<|zn 3 [])<|
 .cond 11 (zq (zp 6<|zi (.ix (.e 0) [] (.e 1))<|zp 3<|zi (.ix (.e 0) [] (.e 8))<|zp 1<|zi (.ix (.e 0) [] (.e 8))<|zi (.up 0 [.e 8] (.e 15))<|zi (.ix (.e 18) [] (.e 1))<|zi (.up 18 [.e 1] (.e 16)) []) (zs 20<|zn 7<|zs 8<|zn 6 [])<|
 zq (zp 2<|zi (.cs .v (.b true)) []) (zs 0<|zn 4<|zs 8<|zs 15<|zn 8 [])<|
 .ret) .skip)<|
 zq (zp 6<|zi (.ix (.e 0) [] (.e 8))<|zp 3<|zi (.ix (.e 0) [] (.e 7))<|zp 1<|zi (.ix (.e 0) [] (.e 7))<|zi (.up 0 [.e 7] (.e 15))<|zi (.ix (.e 18) [] (.e 8))<|zi (.up 18 [.e 8] (.e 16)) []) (zs 20<|zs 1<|zn 2<|zs 4<|zn 2<|zs 7<|zs 8<|zn 6 [])<|
 zq (zp 1<|zi (.bi .add (.e 7) (.c (.n 1)))<|zp 1 []) (zs 0<|zs 1<|zn 2<|zs 4<|zn 2<|zs 15<|zs 8<|zn 6 [])<|
 zq (zp 1<|zi (.bi .sub (.e 8) (.c (.n 1)))<|zp 1 []) (zs 0<|zs 1<|zn 2<|zs 4<|zn 2<|zs 7<|zs 15<|zn 6 [])<|
 .seq (.block 4<|.loop<|.block 5<|.seq (.block 6<|.loop<|.seq (zq (zp 2<|zi (.bi .leq (.e 7) (.e 8))<|zp 1<|zg [(15,true)] (.cy (.e 4))<|zg [(15,true)] .nop<|zg [(15,true)] (.cy (.e 7))<|zg [(15,true)] (.ix (.e 0) [] (.e 17))<|zg [(15,true)] .nop<|zg [(15,true)] .nop<|zg [(15,true)] (.cy (.e 1))<|zg [(15,true)] (.ix (.e 0) [] (.e 19))<|zg [(15,true)] .nop<|zg [(15,true)] (.cd (.e 16) 364 [.e 18,.e 20] 1)<|zg [(15,true)] (.bi .lss (.e 21) (.c (.n 0)))<|zi (.pk (.e 15) (.e 22) (.c (.b false))) []) (zs 0<|zs 1<|zn 2<|zs 4<|zn 2<|zs 7<|zs 8<|zn 3<|zs 23<|zn 2 [])<|
 .cond 12 .skip (.exit 6))<|
 .block 7<|.reg (zp 1<|zi (.bi .add (.e 7) (.c (.n 1)))<|zp 1 []) (zs 0<|zs 1<|zn 2<|zs 4<|zn 2<|zs 15<|zs 8<|zn 6 []))<|
 .seq (.block 8<|.loop<|.seq (zq (zp 2<|zi (.bi .leq (.e 7) (.e 8))<|zp 1<|zg [(15,true)] (.cy (.e 4))<|zg [(15,true)] .nop<|zg [(15,true)] (.cy (.e 8))<|zg [(15,true)] (.ix (.e 0) [] (.e 17))<|zg [(15,true)] .nop<|zg [(15,true)] .nop<|zg [(15,true)] (.cy (.e 1))<|zg [(15,true)] (.ix (.e 0) [] (.e 19))<|zg [(15,true)] .nop<|zg [(15,true)] (.cd (.e 16) 364 [.e 18,.e 20] 1)<|zg [(15,true)] (.bi .lss (.e 21) (.c (.n 0)))<|zg [(15,true)] (.un .not (.e 22))<|zi (.pk (.e 15) (.e 23) (.c (.b false))) []) (zs 0<|zs 1<|zn 2<|zs 4<|zn 2<|zs 7<|zs 8<|zn 4<|zs 24<|zn 1 [])<|
 .cond 13 .skip (.exit 8))<|
 .block 9<|.reg (zp 1<|zi (.bi .sub (.e 8) (.c (.n 1)))<|zp 1 []) (zs 0<|zs 1<|zn 2<|zs 4<|zn 2<|zs 7<|zs 15<|zn 6 []))<|
 .seq (zq (zp 2<|zi (.bi .gtr (.e 7) (.e 8)) []) (zs 0<|zs 1<|zn 2<|zs 4<|zn 2<|zs 7<|zs 8<|zn 5<|zs 15 [])<|
 .cond 14 (.exit 4) .skip)<|
 zq (zp 6<|zi (.ix (.e 0) [] (.e 8))<|zp 3<|zi (.ix (.e 0) [] (.e 7))<|zp 1<|zi (.ix (.e 0) [] (.e 7))<|zi (.up 0 [.e 7] (.e 15))<|zi (.ix (.e 18) [] (.e 8))<|zi (.up 18 [.e 8] (.e 16)) []) (zs 20<|zs 1<|zn 2<|zs 4<|zn 2<|zs 7<|zs 8<|zn 6 [])<|
 zq (zp 1<|zi (.bi .add (.e 7) (.c (.n 1)))<|zp 1 []) (zs 0<|zs 1<|zn 2<|zs 4<|zn 2<|zs 15<|zs 8<|zn 6 [])<|
 .reg (zp 1<|zi (.bi .sub (.e 8) (.c (.n 1)))<|zp 1 []) (zs 0<|zs 1<|zn 2<|zs 4<|zn 2<|zs 7<|zs 15<|zn 6 []))<|
 zq (zp 6<|zi (.ix (.e 0) [] (.e 1))<|zp 3<|zi (.ix (.e 0) [] (.e 8))<|zp 1<|zi (.ix (.e 0) [] (.e 8))<|zi (.up 0 [.e 8] (.e 15))<|zi (.ix (.e 18) [] (.e 1))<|zi (.up 18 [.e 1] (.e 16)) []) (zs 20<|zn 7<|zs 8<|zn 6 [])<|
 zq (zp 2<|zi (.cs .v (.b false)) []) (zs 0<|zn 4<|zs 8<|zs 15<|zn 8 [])<|
 .ret⟩
def ir_slices_partitionEqualCmpFunc___int_:IF:=⟨[],5,11,[5,0],zq (zi (.cs .v (.n 0)) []) (zs 0<|zs 1<|zs 2<|zs 3<|zs 4<|zn 6 [])<|
 zq (zp 6<|zi (.ix (.e 0) [] (.e 3))<|zp 3<|zi (.ix (.e 0) [] (.e 1))<|zp 1<|zi (.ix (.e 0) [] (.e 1))<|zi (.up 0 [.e 1] (.e 11))<|zi (.ix (.e 14) [] (.e 3))<|zi (.up 14 [.e 3] (.e 12)) []) (zs 16<|zs 1<|zs 2<|zn 1<|zs 4<|zn 6 [])<|
 zq (zp 1<|zi (.bi .add (.e 1) (.c (.n 1)))<|zp 1<|zi (.bi .sub (.e 2) (.c (.n 1)))<|zp 2 []) (zs 0<|zs 1<|zn 2<|zs 4<|zn 1<|zs 11<|zs 12<|zn 3 [])<|
 .seq (.block 0<|.loop<|.block 1<|.seq (.block 2<|.loop<|.seq (zq (zp 2<|zi (.bi .leq (.e 6) (.e 7))<|zp 1<|zg [(11,true)] (.cy (.e 4))<|zg [(11,true)] .nop<|zg [(11,true)] (.cy (.e 1))<|zg [(11,true)] (.ix (.e 0) [] (.e 13))<|zg [(11,true)] .nop<|zg [(11,true)] .nop<|zg [(11,true)] (.cy (.e 6))<|zg [(11,true)] (.ix (.e 0) [] (.e 15))<|zg [(11,true)] .nop<|zg [(11,true)] (.cd (.e 12) 364 [.e 14,.e 16] 1)<|zg [(11,true)] (.bi .lss (.e 17) (.c (.n 0)))<|zg [(11,true)] (.un .not (.e 18))<|zi (.pk (.e 11) (.e 19) (.c (.b false))) []) (zs 0<|zs 1<|zn 2<|zs 4<|zn 1<|zs 6<|zs 7<|zs 20<|zn 2 [])<|
 .cond 8 .skip (.exit 2))<|
 .block 3<|.reg (zp 1<|zi (.bi .add (.e 6) (.c (.n 1)))<|zp 1 []) (zs 0<|zs 1<|zn 2<|zs 4<|zn 1<|zs 11<|zs 7<|zn 3 []))<|
 .seq (.block 4<|.loop<|.seq (zq (zp 2<|zi (.bi .leq (.e 6) (.e 7))<|zp 1<|zg [(11,true)] (.cy (.e 4))<|zg [(11,true)] .nop<|zg [(11,true)] (.cy (.e 1))<|zg [(11,true)] (.ix (.e 0) [] (.e 13))<|zg [(11,true)] .nop<|zg [(11,true)] .nop<|zg [(11,true)] (.cy (.e 7))<|zg [(11,true)] (.ix (.e 0) [] (.e 15))<|zg [(11,true)] .nop<|zg [(11,true)] (.cd (.e 12) 364 [.e 14,.e 16] 1)<|zg [(11,true)] (.bi .lss (.e 17) (.c (.n 0)))<|zi (.pk (.e 11) (.e 18) (.c (.b false))) []) (zs 0<|zs 1<|zn 2<|zs 4<|zn 1<|zs 6<|zs 7<|zn 1<|zs 19<|zn 1 [])<|
 .cond 9 .skip (.exit 4))<|
 .block 5<|.reg (zp 1<|zi (.bi .sub (.e 7) (.c (.n 1)))<|zp 1 []) (zs 0<|zs 1<|zn 2<|zs 4<|zn 1<|zs 6<|zs 11<|zn 3 []))<|
 .seq (zq (zp 2<|zi (.bi .gtr (.e 6) (.e 7)) []) (zs 0<|zs 1<|zn 2<|zs 4<|zn 1<|zs 6<|zs 7<|zn 2<|zs 11 [])<|
 .cond 10 (.exit 0) .skip)<|
 zq (zp 6<|zi (.ix (.e 0) [] (.e 7))<|zp 3<|zi (.ix (.e 0) [] (.e 6))<|zp 1<|zi (.ix (.e 0) [] (.e 6))<|zi (.up 0 [.e 6] (.e 11))<|zi (.ix (.e 14) [] (.e 7))<|zi (.up 14 [.e 7] (.e 12)) []) (zs 16<|zs 1<|zn 2<|zs 4<|zn 1<|zs 6<|zs 7<|zn 3 [])<|
 zq (zp 1<|zi (.bi .add (.e 6) (.c (.n 1)))<|zp 1 []) (zs 0<|zs 1<|zn 2<|zs 4<|zn 1<|zs 11<|zs 7<|zn 3 [])<|
 .reg (zp 1<|zi (.bi .sub (.e 7) (.c (.n 1)))<|zp 1 []) (zs 0<|zs 1<|zn 2<|zs 4<|zn 1<|zs 6<|zs 11<|zn 3 []))<|
 zq (zp 2 []) (zs 0<|zn 4<|zs 6<|zn 5 [])<|
 .ret⟩
def ir_slices_pdqsortCmpFunc___int_:IF:=⟨[],5,24,[0],zq (zi (.cs .v (.b true)) []) (zs 0<|zs 1<|zs 2<|zs 3<|zs 4<|zs 24<|zn 18 [])<|
 zq (zi (.cs .v (.b true)) []) (zs 0<|zs 1<|zs 2<|zs 3<|zs 4<|zs 5<|zs 24<|zn 17 [])<|
 .block 0<|.loop<|.block 1<|zq (zp 2<|zi (.bi .sub (.e 2) (.e 1))<|zp 1 []) (zs 0<|zs 1<|zs 2<|zs 3<|zs 4<|zs 5<|zs 6<|zs 24<|zn 16 [])<|
 .seq (zq (zp 1<|zi (.bi .leq (.e 7) (.c (.n 12))) []) (zs 0<|zs 1<|zs 2<|zs 3<|zs 4<|zs 5<|zs 6<|zs 7<|zn 8<|zs 24<|zn 7 [])<|
 .cond 16 (zq (zp 4<|zi (.ca 382 [.e 0,.e 1,.e 2,.e 4] 1) []) (zs 24<|zn 23 [])<|
 .ret) .skip)<|
 .seq (zq (zp 1<|zi (.bi .eql (.e 3) (.c (.n 0))) []) (zs 0<|zs 1<|zs 2<|zs 3<|zs 4<|zs 5<|zs 6<|zs 7<|zn 9<|zs 24<|zn 6 [])<|
 .cond 17 (zq (zp 4<|zi (.ca 383 [.e 0,.e 1,.e 2,.e 4] 1) []) (zs 24<|zn 23 [])<|
 .ret) .skip)<|
 .seq (zq (zp 1<|zi (.un .not (.e 5)) []) (zs 0<|zs 1<|zs 2<|zs 3<|zs 4<|zs 5<|zs 6<|zs 7<|zn 10<|zs 24<|zn 5 [])<|
 .cond 18 (zq (zp 4<|zi (.ca 384 [.e 0,.e 1,.e 2,.e 4] 1) []) (zs 24<|zs 1<|zs 2<|zs 3<|zs 4<|zs 5<|zs 6<|zs 7<|zn 16 [])<|
 .reg (zp 1<|zi (.bi .sub (.e 3) (.c (.n 1)))<|zp 1 []) (zs 0<|zs 1<|zs 2<|zs 24<|zs 4<|zs 5<|zs 6<|zs 7<|zn 16 [])) .skip)<|
 zq (zp 4<|zi (.ca 385 [.e 0,.e 1,.e 2,.e 4] 2)<|zp 5 []) (zs 0<|zs 1<|zs 2<|zs 3<|zs 4<|zs 5<|zs 6<|zs 7<|zs 24<|zs 25<|zn 14 [])<|
 .seq (zq (zp 1<|zi (.bi .eql (.e 9) (.c (.n 2))) []) (zs 0<|zs 1<|zs 2<|zs 3<|zs 4<|zs 5<|zs 6<|zs 7<|zs 8<|zs 9<|zn 9<|zs 24<|zn 4 [])<|
 .cond 19 (zq (zp 4<|zi (.ca 386 [.e 0,.e 1,.e 2,.e 4] 1) []) (zs 24<|zs 1<|zs 2<|zs 3<|zs 4<|zs 5<|zs 6<|zs 7<|zs 8<|zn 15 [])<|
 zq (zp 1<|zi (.bi .sub (.e 2) (.c (.n 1)))<|zp 2<|zi (.bi .sub (.e 8) (.e 1))<|zi (.bi .sub (.e 24) (.e 25))<|zp 1 []) (zs 0<|zs 1<|zs 2<|zs 3<|zs 4<|zs 5<|zs 6<|zs 7<|zs 26<|zn 15 [])<|
 .reg (zi (.cs .v (.n 1)) []) (zs 0<|zs 1<|zs 2<|zs 3<|zs 4<|zs 5<|zs 6<|zs 7<|zs 8<|zs 24<|zn 14 [])) .skip)<|
 .seq (zq (zp 2<|zg [(5,true)] (.cy (.e 6))<|zi (.pk (.e 5) (.e 24) (.c (.b false)))<|zp 1<|zg [(25,true)] (.cy (.e 9))<|zg [(25,true)] (.bi .eql (.e 26) (.c (.n 1)))<|zi (.pk (.e 25) (.e 27) (.c (.b false))) []) (zs 0<|zs 1<|zs 2<|zs 3<|zs 4<|zs 5<|zs 6<|zs 7<|zs 8<|zn 11<|zs 28<|zn 3 [])<|
 .cond 20 (zq (zp 4<|zi (.ca 387 [.e 0,.e 1,.e 2,.e 4] 2) []) (zs 25<|zs 1<|zs 2<|zs 3<|zs 4<|zs 5<|zs 6<|zs 7<|zs 8<|zn 12<|zs 24<|zn 2 [])<|
 .cond 21 .ret .skip) .skip)<|
 .seq (zq (zp 1<|zi (.bi .gtr (.e 1) (.c (.n 0)))<|zp 1<|zg [(24,true)] (.cy (.e 4))<|zg [(24,true)] .nop<|zg [(24,true)] (.cy (.e 1))<|zg [(24,true)] (.bi .sub (.e 26) (.c (.n 1)))<|zg [(24,true)] (.ix (.e 0) [] (.e 27))<|zg [(24,true)] .nop<|zg [(24,true)] .nop<|zg [(24,true)] (.cy (.e 8))<|zg [(24,true)] (.ix (.e 0) [] (.e 29))<|zg [(24,true)] .nop<|zg [(24,true)] (.cd (.e 25) 364 [.e 28,.e 30] 1)<|zg [(24,true)] (.bi .lss (.e 31) (.c (.n 0)))<|zg [(24,true)] (.un .not (.e 32))<|zi (.pk (.e 24) (.e 33) (.c (.b false))) []) (zs 0<|zs 1<|zs 2<|zs 3<|zs 4<|zs 5<|zs 6<|zs 7<|zs 8<|zn 13<|zs 34<|zn 1 [])<|
 .cond 22 (zq (zp 5<|zi (.ca 388 [.e 0,.e 1,.e 2,.e 8,.e 4] 2)<|zp 1 []) (zs 25<|zn 1<|zs 2<|zs 3<|zs 4<|zs 5<|zs 6<|zn 3<|zs 24<|zn 13 [])<|
 zq (zp 2 []) (zs 0<|zs 10<|zs 2<|zs 3<|zs 4<|zs 5<|zs 6<|zn 17 [])<|
 .exit 1) .skip)<|
 zq (zp 5<|zi (.ca 389 [.e 0,.e 1,.e 2,.e 8,.e 4] 3)<|zp 5 []) (zs 26<|zs 1<|zs 2<|zs 3<|zs 4<|zn 2<|zs 7<|zn 3<|zs 24<|zs 25<|zn 11 [])<|
 zq (zp 2 []) (zs 0<|zs 1<|zs 2<|zs 3<|zs 4<|zn 1<|zs 12<|zs 7<|zn 3<|zs 11<|zn 12 [])<|
 zq (zp 2<|zi (.bi .sub (.e 11) (.e 1))<|zp 2<|zi (.bi .sub (.e 2) (.e 11))<|zp 2 []) (zs 0<|zs 1<|zs 2<|zs 3<|zs 4<|zn 1<|zs 6<|zs 7<|zn 3<|zs 11<|zn 1<|zs 24<|zs 25<|zn 9 [])<|
 zq (zp 1<|zi (.bi .quo (.e 7) (.c (.n 8)))<|zp 1 []) (zs 0<|zs 1<|zs 2<|zs 3<|zs 4<|zn 1<|zs 6<|zn 4<|zs 11<|zn 1<|zs 13<|zs 14<|zs 24<|zn 8 [])<|
 zq (zp 2<|zi (.bi .lss (.e 13) (.e 14)) []) (zs 0<|zs 1<|zs 2<|zs 3<|zs 4<|zn 1<|zs 6<|zn 4<|zs 11<|zn 1<|zs 13<|zs 14<|zs 15<|zn 7<|zs 24 [])<|
 .cond 23 (zq (zp 2<|zi (.bi .geq (.e 13) (.e 15))<|zp 1 []) (zs 0<|zs 1<|zs 2<|zs 3<|zs 4<|zs 24<|zs 6<|zn 4<|zs 11<|zn 12 [])<|
 zq (zp 5<|zi (.ca 375 [.e 0,.e 1,.e 11,.e 3,.e 4] 1) []) (zs 24<|zn 1<|zs 2<|zs 3<|zs 4<|zs 5<|zs 6<|zn 4<|zs 11<|zn 12 [])<|
 .reg (zp 1<|zi (.bi .add (.e 11) (.c (.n 1)))<|zp 1 []) (zs 0<|zs 24<|zs 2<|zs 3<|zs 4<|zs 5<|zs 6<|zn 17 [])) (zq (zp 2<|zi (.bi .geq (.e 14) (.e 15))<|zp 1 []) (zs 0<|zs 1<|zs 2<|zs 3<|zs 4<|zs 24<|zs 6<|zn 4<|zs 11<|zn 12 [])<|
 zq (zp 2<|zi (.bi .add (.e 11) (.c (.n 1)))<|zp 3<|zi (.ca 375 [.e 0,.e 24,.e 2,.e 3,.e 4] 1) []) (zs 25<|zs 1<|zn 1<|zs 3<|zs 4<|zs 5<|zs 6<|zn 4<|zs 11<|zn 12 [])<|
 .reg (zp 2 []) (zs 0<|zs 1<|zs 11<|zs 3<|zs 4<|zs 5<|zs 6<|zn 17 []))⟩
def ir_slices_reverseRangeCmpFunc___int_:IF:=⟨[],4,7,[0],zq (zp 2 []) (zs 0<|zn 1<|zs 2<|zn 1<|zs 1<|zn 2 [])<|
 zq (zp 1<|zi (.bi .sub (.e 2) (.c (.n 1)))<|zp 1 []) (zs 0<|zn 3<|zs 4<|zs 7<|zn 1 [])<|
 .block 0<|.loop<|.seq (zq (zp 2<|zi (.bi .lss (.e 4) (.e 5)) []) (zs 0<|zn 3<|zs 4<|zs 5<|zs 7 [])<|
 .cond 6 .skip (.exit 0))<|
 .block 1<|zq (zp 6<|zi (.ix (.e 0) [] (.e 5))<|zp 3<|zi (.ix (.e 0) [] (.e 4))<|zp 1<|zi (.ix (.e 0) [] (.e 4))<|zi (.up 0 [.e 4] (.e 7))<|zi (.ix (.e 10) [] (.e 5))<|zi (.up 10 [.e 5] (.e 8)) []) (zs 12<|zn 3<|zs 4<|zs 5<|zn 1 [])<|
 zq (zp 1<|zi (.bi .add (.e 4) (.c (.n 1)))<|zp 1 []) (zs 0<|zn 3<|zs 7<|zs 5<|zn 1 [])<|
 .reg (zp 1<|zi (.bi .sub (.e 5) (.c (.n 1)))<|zp 1 []) (zs 0<|zn 3<|zs 4<|zs 7<|zn 1 [])⟩
def ir_slices_siftDownCmpFunc___int_:IF:=⟨[],5,10,[0],zq (zp 2 []) (zs 0<|zn 1<|zs 2<|zs 3<|zs 4<|zs 1<|zn 4 [])<|
 .block 0<|.loop<|.block 1<|zq (zp 1<|zi (.bi .mul (.c (.n 2)) (.e 5))<|zi (.bi .add (.e 10) (.c (.n 1)))<|zp 1 []) (zs 0<|zn 1<|zs 2<|zs 3<|zs 4<|zs 5<|zs 11<|zn 3 [])<|
 .seq (zq (zp 2<|zi (.bi .geq (.e 6) (.e 2)) []) (zs 0<|zn 1<|zs 2<|zs 3<|zs 4<|zs 5<|zs 6<|zs 10<|zn 2 [])<|
 .cond 7 (.exit 0) .skip)<|
 .seq (zq (zp 1<|zi (.bi .add (.e 6) (.c (.n 1)))<|zp 1<|zi (.bi .lss (.e 10) (.e 2))<|zp 1<|zg [(11,true)] (.cy (.e 4))<|zg [(11,true)] .nop<|zg [(11,true)] (.cy (.e 3))<|zg [(11,true)] (.cy (.e 6))<|zg [(11,true)] (.bi .add (.e 13) (.e 14))<|zg [(11,true)] (.ix (.e 0) [] (.e 15))<|zg [(11,true)] .nop<|zg [(11,true)] .nop<|zg [(11,true)] (.cy (.e 3))<|zg [(11,true)] (.cy (.e 6))<|zg [(11,true)] (.bi .add (.e 17) (.e 18))<|zg [(11,true)] (.bi .add (.e 19) (.c (.n 1)))<|zg [(11,true)] (.ix (.e 0) [] (.e 20))<|zg [(11,true)] .nop<|zg [(11,true)] (.cd (.e 12) 364 [.e 16,.e 21] 1)<|zg [(11,true)] (.bi .lss (.e 22) (.c (.n 0)))<|zi (.pk (.e 11) (.e 23) (.c (.b false))) []) (zs 0<|zn 1<|zs 2<|zs 3<|zs 4<|zs 5<|zs 6<|zn 1<|zs 24<|zn 1 [])<|
 .cond 8 (.reg (zp 1<|zi (.bi .add (.e 6) (.c (.n 1)))<|zp 1 []) (zs 0<|zn 1<|zs 2<|zs 3<|zs 4<|zs 5<|zs 10<|zn 3 [])) .skip)<|
 .seq (zq (zp 4<|zi (.bi .add (.e 3) (.e 5))<|zi (.ix (.e 0) [] (.e 10))<|zp 4<|zi (.bi .add (.e 3) (.e 6))<|zi (.ix (.e 0) [] (.e 12))<|zp 1<|zi (.cd (.e 4) 364 [.e 11,.e 13] 1)<|zi (.bi .lss (.e 14) (.c (.n 0)))<|zi (.un .not (.e 15)) []) (zs 0<|zn 1<|zs 2<|zs 3<|zs 4<|zs 5<|zs 6<|zn 2<|zs 16 [])<|
 .cond 9 .ret .skip)<|
 zq (zp 3<|zi (.bi .add (.e 3) (.e 5))<|zp 3<|zi (.bi .add (.e 3) (.e 6))<|zp 3<|zi (.bi .add (.e 3) (.e 6))<|zi (.ix (.e 0) [] (.e 12))<|zp 4<|zi (.bi .add (.e 3) (.e 5))<|zi (.ix (.e 0) [] (.e 14))<|zp 1<|zi (.ix (.e 0) [] (.e 10))<|zi (.up 0 [.e 10] (.e 13))<|zi (.ix (.e 17) [] (.e 11))<|zi (.up 17 [.e 11] (.e 15)) []) (zs 19<|zn 1<|zs 2<|zs 3<|zs 4<|zn 1<|zs 6<|zn 3 [])<|
 .reg (zp 2 []) (zs 0<|zn 1<|zs 2<|zs 3<|zs 4<|zs 6<|zn 4 [])⟩
end Go.Cat
namespace Go.Cat
end Go.Cat
namespace Go.Cat
end Go.Cat
namespace Go.Cat
end Go.Cat
namespace Go.Cat
def ir_impl_IsMeander:IF:=⟨[],2,3,[2],zq (zi (.cs .v (.b false)) []) (zs 0<|zs 1<|zn 1 [])<|
 zq (zp 2<|zi (.ca 648 [.e 0,.e 1] 1)<|zi (.bi .eql (.e 3) (.c (.n 1)))<|zp 1 []) (zn 2<|zs 4 [])<|
 .ret⟩
def ir_impl_LoopsOf:IF:=⟨[],2,4,[2],zq (zi (.cs .v (.n 0)) []) (zs 0<|zs 1<|zn 2 [])<|
 .seq (zq (zp 1<|zi (.ca 358 [.e 0] 1)<|zi (.un .not (.e 4))<|zp 1<|zg [(5,false)] .nop<|zg [(5,false)] (.ca 358 [.e 1] 1)<|zg [(5,false)] (.un .not (.e 6))<|zi (.pk (.e 5) (.c (.b true)) (.e 7))<|zp 1<|zg [(8,false)] .nop<|zg [(8,false)] (.ln (.e 0) [])<|zg [(8,false)] .nop<|zg [(8,false)] (.ln (.e 1) [])<|zg [(8,false)] (.bi .neq (.e 9) (.e 10))<|zi (.pk (.e 8) (.c (.b true)) (.e 11)) []) (zs 0<|zs 1<|zn 1<|zs 12 [])<|
 .cond 3 (zq (zi (.cs .v (.n (-1))) []) (zn 2<|zs 4<|zn 1 [])<|
 .ret) .skip)<|
 zq (zp 2<|zi (.ca 360 [.e 0,.e 1] 1)<|zp 1 []) (zn 2<|zs 4<|zn 1 [])<|
 .ret⟩
end Go.Cat
namespace Go.Cat
def ir_impl_cycles:IF:=⟨[],2,12,[2],zq (zi (.cs .v (.n 0)) []) (zs 0<|zs 1<|zn 10 [])<|
 zq (zp 1<|zi (.ln (.e 0) [])<|zi (.mk (.b false) (.e 12) (.e 12))<|zp 1 []) (zs 0<|zs 1<|zn 1<|zs 13<|zn 8 [])<|
 zq (zi (.cs .v (.n 0)) []) (zs 0<|zs 1<|zn 1<|zs 3<|zs 12<|zn 7 [])<|
 .seq (zq (zp 1<|zi (.ln (.e 0) [])<|zi (.cs .v (.n 0)) []) (zs 0<|zs 1<|zn 1<|zs 3<|zs 4<|zn 2<|zs 12<|zs 13<|zn 3 [])<|
 .block 0<|.loop<|zq (zi (.bi .lss (.e 8) (.e 7)) []) (zs 0<|zs 1<|zn 1<|zs 3<|zs 4<|zn 2<|zs 7<|zs 8<|zs 12<|zn 2 [])<|
 .seq (.cond 9 .skip (.exit 0))<|
 .seq (.block 1<|zq (zp 2 []) (zs 0<|zs 1<|zn 1<|zs 3<|zs 4<|zs 8<|zn 1<|zs 7<|zs 8<|zn 3 [])<|
 .seq (zq (zp 2<|zi (.ix (.e 3) [] (.e 5))<|zp 1 []) (zs 0<|zs 1<|zn 1<|zs 3<|zs 4<|zs 5<|zn 1<|zs 7<|zs 8<|zn 1<|zs 12<|zn 1 [])<|
 .cond 10 (.exit 1) .skip)<|
 zq (zp 1<|zi (.bi .add (.e 4) (.c (.n 1)))<|zp 1 []) (zs 0<|zs 1<|zn 1<|zs 3<|zs 12<|zs 5<|zn 1<|zs 7<|zs 8<|zn 3 [])<|
 zq (zp 2 []) (zs 0<|zs 1<|zn 1<|zs 3<|zs 4<|zn 1<|zs 5<|zs 7<|zs 8<|zn 3 [])<|
 .block 2<|.loop<|.seq (zq (zp 2<|zi (.ix (.e 3) [] (.e 6))<|zp 1<|zi (.un .not (.e 12)) []) (zs 0<|zs 1<|zn 1<|zs 3<|zs 4<|zn 1<|zs 6<|zs 7<|zs 8<|zn 2<|zs 13 [])<|
 .cond 11 .skip (.exit 2))<|
 .seq (.block 3<|zq (zp 2<|zi (.ix (.e 3) [] (.e 6))<|zi (.up 3 [.e 6] (.c (.b true))) []) (zs 0<|zs 1<|zn 1<|zs 13<|zs 4<|zn 1<|zs 6<|zs 7<|zs 8<|zn 3 [])<|
 .reg (zp 3<|zi (.iy (.e 0) (.e 6))<|zp 1<|zi (.ix (.e 3) [] (.e 12))<|zi (.up 3 [.e 12] (.c (.b true))) []) (zs 0<|zs 1<|zn 1<|zs 14<|zs 4<|zn 1<|zs 6<|zs 7<|zs 8<|zn 3 []))<|
 .reg (zp 3<|zi (.iy (.e 0) (.e 6))<|zp 1<|zi (.iy (.e 1) (.e 12))<|zp 2 []) (zs 0<|zs 1<|zn 1<|zs 3<|zs 4<|zn 1<|zs 13<|zs 7<|zs 8<|zn 3 []))<|
 .reg (zi (.bi .add (.e 8) (.c (.n 1)))<|zp 1 []) (zs 0<|zs 1<|zn 1<|zs 3<|zs 4<|zn 2<|zs 7<|zs 12<|zn 3 []))<|
 zq (zp 2 []) (zn 2<|zs 4<|zn 9 [])<|
 .ret⟩
end Go.Cat
namespace Go.Cat
def ir_spec_IsMeander:IF:=⟨[],2,3,[2],zq (zi (.cs .v (.b false)) []) (zs 0<|zs 1<|zn 1 [])<|
 zq (zp 2<|zi (.ca 371 [.e 0,.e 1] 1)<|zi (.bi .eql (.e 3) (.c (.n 1)))<|zp 1 []) (zn 2<|zs 4 [])<|
 .ret⟩
def ir_spec_LoopsOf:IF:=⟨[],2,11,[2],zq (zi (.cs .v (.n 0)) []) (zs 0<|zs 1<|zn 9 [])<|
 .seq (zq (zp 1<|zi (.ca 355 [.e 0] 1)<|zi (.un .not (.e 11))<|zp 1<|zg [(12,false)] .nop<|zg [(12,false)] (.ca 355 [.e 1] 1)<|zg [(12,false)] (.un .not (.e 13))<|zi (.pk (.e 12) (.c (.b true)) (.e 14))<|zp 1<|zg [(15,false)] .nop<|zg [(15,false)] (.ln (.e 0) [])<|zg [(15,false)] .nop<|zg [(15,false)] (.ln (.e 1) [])<|zg [(15,false)] (.bi .neq (.e 16) (.e 17))<|zi (.pk (.e 15) (.c (.b true)) (.e 18)) []) (zs 0<|zs 1<|zn 5<|zs 19<|zn 3 [])<|
 .cond 7 (zq (zi (.cs .v (.n (-1))) []) (zn 2<|zs 11<|zn 8 [])<|
 .ret) .skip)<|
 zq (zp 1<|zi (.ln (.e 0) [])<|zi (.mk (.b false) (.e 11) (.e 11))<|zp 1 []) (zs 0<|zs 1<|zn 1<|zs 12<|zn 7 [])<|
 zq (zi (.cs .v (.n 0)) []) (zs 0<|zs 1<|zn 1<|zs 3<|zs 11<|zn 6 [])<|
 .seq (zq (zi (.cs .v (.n 0)) []) (zs 0<|zs 1<|zn 1<|zs 3<|zs 4<|zs 11<|zn 5 [])<|
 .block 0<|.loop<|.seq (zq (zp 2<|zi (.ln (.e 0) [])<|zi (.bi .lss (.e 5) (.e 11)) []) (zs 0<|zs 1<|zn 1<|zs 3<|zs 4<|zs 5<|zn 2<|zs 12<|zn 2 [])<|
 .cond 8 .skip (.exit 0))<|
 .seq (.block 1<|.seq (zq (zp 2<|zi (.ix (.e 3) [] (.e 5))<|zp 1 []) (zs 0<|zs 1<|zn 1<|zs 3<|zs 4<|zs 5<|zn 3<|zs 11<|zn 1 [])<|
 .cond 9 (.exit 1) .skip)<|
 zq (zp 1<|zi (.bi .add (.e 4) (.c (.n 1)))<|zp 1 []) (zs 0<|zs 1<|zn 1<|zs 3<|zs 11<|zs 5<|zn 5 [])<|
 zq (zp 2 []) (zs 0<|zs 1<|zn 1<|zs 3<|zs 4<|zs 5<|zs 5<|zn 4 [])<|
 .block 2<|.loop<|.seq (zq (zp 2<|zi (.ix (.e 3) [] (.e 6))<|zp 1<|zi (.un .not (.e 11)) []) (zs 0<|zs 1<|zn 1<|zs 3<|zs 4<|zs 5<|zs 6<|zn 3<|zs 12 [])<|
 .cond 10 .skip (.exit 2))<|
 .seq (.block 3<|zq (zp 2<|zi (.ix (.e 3) [] (.e 6))<|zi (.up 3 [.e 6] (.c (.b true))) []) (zs 0<|zs 1<|zn 1<|zs 12<|zs 4<|zs 5<|zs 6<|zn 4 [])<|
 .reg (zp 3<|zi (.iy (.e 0) (.e 6))<|zp 1<|zi (.ix (.e 3) [] (.e 11))<|zi (.up 3 [.e 11] (.c (.b true))) []) (zs 0<|zs 1<|zn 1<|zs 13<|zs 4<|zs 5<|zs 6<|zn 4 []))<|
 .reg (zp 3<|zi (.iy (.e 0) (.e 6))<|zp 1<|zi (.iy (.e 1) (.e 11))<|zp 2 []) (zs 0<|zs 1<|zn 1<|zs 3<|zs 4<|zs 5<|zs 12<|zn 4 []))<|
 .reg (zp 1<|zi (.bi .add (.e 5) (.c (.n 1)))<|zp 1 []) (zs 0<|zs 1<|zn 1<|zs 3<|zs 4<|zs 11<|zn 5 []))<|
 zq (zp 2 []) (zn 2<|zs 4<|zn 8 [])<|
 .ret⟩
end Go.Cat
namespace Go.Cat
def ir_impl_CheckClaim:IF:=⟨[],1,19,[2],zq (zi (.bp (.e 0))<|zi (.cs .v (.b false)) []) (zn 1<|zs 19<|zn 17 [])<|
 .seq (zq (zi (.fp true (.e 1) 0)<|zp 1 []) (zn 1<|zs 1<|zn 6<|zs 19<|zn 10 [])<|
 .block 0<|zq (zi (.bi .eql (.e 8) (.c (.n 1)))<|zp 1 []) (zn 1<|zs 1<|zn 6<|zs 8<|zs 19<|zn 9 [])<|
 .cond 9 (.seq (zq (zi (.gp (.e 1) 7)<|zi (.ca 637 [.e 19] 1)<|zi (.un .not (.e 20)) []) (zn 1<|zs 1<|zn 8<|zs 21<|zn 8 [])<|
 .cond 10 (zq (zi (.cs .v (.b false)) []) (zn 2<|zs 19<|zn 16 [])<|
 .ret) .skip)<|
 .seq (zq (zi (.cs .v (.n 1)) []) (zn 1<|zs 1<|zn 1<|zs 19<|zn 15 [])<|
 .block 1<|.loop<|.seq (zq (zp 1<|zi (.fp false (.e 1) 3)<|zp 1<|zi (.ln (.e 19) [])<|zi (.bi .lss (.e 3) (.e 20)) []) (zn 1<|zs 1<|zn 1<|zs 3<|zn 7<|zs 21<|zn 7 [])<|
 .cond 11 .skip (.exit 1))<|
 .seq (.block 2<|zq (zi (.fp false (.e 1) 3)<|zp 2<|zi (.bi .sub (.e 3) (.c (.n 1)))<|zi (.iy (.e 19) (.e 20))<|zp 1<|zi (.fp false (.e 1) 3)<|zp 2<|zi (.iy (.e 22) (.e 3))<|zp 1<|zi (.ca 350 [.e 21,.e 23] 1)<|zi (.un .not (.e 24)) []) (zn 1<|zs 1<|zn 1<|zs 3<|zn 8<|zs 25<|zn 6 [])<|
 .cond 12 (zq (zi (.cs .v (.b false)) []) (zn 2<|zs 19<|zn 16 [])<|
 .ret) .skip)<|
 .reg (zp 1<|zi (.bi .add (.e 3) (.c (.n 1)))<|zp 1 []) (zn 1<|zs 1<|zn 1<|zs 19<|zn 15 []))<|
 zq (zi (.cs .v (.b true)) []) (zn 2<|zs 19<|zn 16 [])<|
 .ret) (zq (zi (.bi .eql (.e 8) (.c (.n 2)))<|zp 1 []) (zn 1<|zs 1<|zn 6<|zs 8<|zn 4<|zs 19<|zn 5 [])<|
 .cond 13 (zq (zi (.gp (.e 1) 7)<|zi (.ca 637 [.e 19] 1)<|zp 1<|zg [(20,true)] (.fp false (.e 1) 3)<|zg [(20,true)] .nop<|zg [(20,true)] (.ln (.e 21) [])<|zg [(20,true)] (.bi .sub (.e 22) (.c (.n 1)))<|zg [(20,true)] (.fp true (.e 1) 1)<|zg [(20,true)] .nop<|zg [(20,true)] (.fp true (.e 1) 2)<|zg [(20,true)] .nop<|zg [(20,true)] (.ca 617 [.e 24,.e 25] 1)<|zg [(20,true)] (.bi .eql (.e 23) (.e 26))<|zi (.pk (.e 20) (.e 27) (.c (.b false)))<|zp 1 []) (zn 2<|zs 28<|zn 16 [])<|
 .ret) (zq (zi (.bi .eql (.e 8) (.c (.n 3)))<|zp 1 []) (zn 1<|zs 1<|zn 6<|zs 8<|zn 5<|zs 19<|zn 4 [])<|
 .cond 14 (zq (zi (.fp true (.e 1) 1)<|zp 1<|zi (.fp false (.e 1) 4)<|zp 1<|zi (.ca 110 [.e 19,.e 20] 2)<|zp 5 []) (zn 4<|zs 21<|zs 22<|zn 13 [])<|
 zq (zp 2<|zg [(5,true)] (.cy (.e 4))<|zg [(5,true)] (.ca 131 [.e 19] 1)<|zi (.pk (.e 5) (.e 20) (.c (.b false)))<|zp 1 []) (zn 2<|zs 21<|zn 16 [])<|
 .ret) (zq (zi (.bi .eql (.e 8) (.c (.n 4)))<|zp 1 []) (zn 1<|zs 1<|zn 6<|zs 8<|zn 6<|zs 19<|zn 3 [])<|
 .cond 15 (zq (zi (.fp false (.e 1) 5)<|zp 1<|zi (.fp false (.e 1) 4)<|zp 3 []) (zn 6<|zs 19<|zs 20<|zn 11 [])<|
 .seq (zq (zp 1<|zi (.ca 74 [.e 7] 1)<|zi (.un .not (.e 19))<|zp 1<|zg [(20,false)] .nop<|zg [(20,false)] (.ln (.e 6) [])<|zg [(20,false)] (.bi .neq (.e 21) (.c (.n 3)))<|zi (.pk (.e 20) (.c (.b true)) (.e 22))<|zp 1<|zg [(23,false)] .nop<|zg [(23,false)] (.iy (.e 6) (.c (.n 0)))<|zg [(23,false)] .nop<|zg [(23,false)] (.bi .lss (.e 24) (.c (.n 0)))<|zi (.pk (.e 23) (.c (.b true)) (.e 25))<|zp 1<|zg [(26,false)] .nop<|zg [(26,false)] (.iy (.e 6) (.c (.n 0)))<|zg [(26,false)] .nop<|zg [(26,false)] .nop<|zg [(26,false)] (.iy (.e 6) (.c (.n 1)))<|zg [(26,false)] .nop<|zg [(26,false)] (.bi .geq (.e 27) (.e 28))<|zi (.pk (.e 26) (.c (.b true)) (.e 29))<|zp 1<|zg [(30,false)] .nop<|zg [(30,false)] (.iy (.e 6) (.c (.n 1)))<|zg [(30,false)] .nop<|zg [(30,false)] .nop<|zg [(30,false)] (.iy (.e 6) (.c (.n 2)))<|zg [(30,false)] .nop<|zg [(30,false)] (.bi .geq (.e 31) (.e 32))<|zi (.pk (.e 30) (.c (.b true)) (.e 33))<|zp 1<|zg [(34,false)] .nop<|zg [(34,false)] (.iy (.e 6) (.c (.n 2)))<|zg [(34,false)] .nop<|zg [(34,false)] .nop<|zg [(34,false)] (.ln (.e 7) [])<|zg [(34,false)] (.bi .geq (.e 35) (.e 36))<|zi (.pk (.e 34) (.c (.b true)) (.e 37)) []) (zn 6<|zs 6<|zs 7<|zn 8<|zs 38<|zn 2 [])<|
 .cond 16 (zq (zi (.cs .v (.b false)) []) (zn 2<|zs 19<|zn 16 [])<|
 .ret) .skip)<|
 zq (zp 2<|zi (.iy (.e 6) (.c (.n 2)))<|zp 1<|zi (.iy (.e 7) (.e 19))<|zp 3<|zi (.iy (.e 6) (.c (.n 0)))<|zp 1<|zi (.iy (.e 7) (.e 21))<|zp 1<|zi (.bi .lss (.e 20) (.e 22))<|zp 1<|zg [(23,true)] .nop<|zg [(23,true)] .nop<|zg [(23,true)] (.iy (.e 6) (.c (.n 0)))<|zg [(23,true)] .nop<|zg [(23,true)] (.iy (.e 7) (.e 24))<|zg [(23,true)] .nop<|zg [(23,true)] .nop<|zg [(23,true)] .nop<|zg [(23,true)] (.iy (.e 6) (.c (.n 1)))<|zg [(23,true)] .nop<|zg [(23,true)] (.iy (.e 7) (.e 26))<|zg [(23,true)] .nop<|zg [(23,true)] (.bi .lss (.e 25) (.e 27))<|zi (.pk (.e 23) (.e 28) (.c (.b false)))<|zp 1 []) (zn 2<|zs 29<|zn 16 [])<|
 .ret) (zq (zi (.bi .eql (.e 8) (.c (.n 5)))<|zp 1 []) (zn 1<|zs 1<|zn 6<|zs 8<|zn 8<|zs 19<|zn 1 [])<|
 .cond 17 (zq (zi (.fp false (.e 1) 4)<|zp 1<|zi (.ln (.e 19) [])<|zi (.bi .geq (.e 20) (.c (.n 3)))<|zp 1<|zg [(21,true)] (.fp false (.e 1) 4)<|zg [(21,true)] .nop<|zg [(21,true)] (.ln (.e 22) [])<|zg [(21,true)] (.fp false (.e 1) 6)<|zg [(21,true)] .nop<|zg [(21,true)] (.ca 602 [.e 23,.e 24] 1)<|zi (.pk (.e 21) (.e 25) (.c (.b false)))<|zp 1<|zg [(26,true)] (.fp false (.e 1) 4)<|zg [(26,true)] .nop<|zg [(26,true)] (.ln (.e 27) [])<|zg [(26,true)] (.fp false (.e 1) 6)<|zg [(26,true)] .nop<|zg [(26,true)] (.ca 638 [.e 28,.e 29] 1)<|zg [(26,true)] (.fp false (.e 1) 4)<|zg [(26,true)] .nop<|zg [(26,true)] (.ca 72 [.e 30,.e 31] 1)<|zi (.pk (.e 26) (.e 32) (.c (.b false)))<|zp 1 []) (zn 2<|zs 33<|zn 16 [])<|
 .ret) (zq (zi (.bi .eql (.e 8) (.c (.n 6)))<|zp 1 []) (zn 1<|zs 1<|zn 16<|zs 19 [])<|
 .cond 18 (zq (zi (.fp false (.e 1) 4)<|zp 1<|zi (.fp false (.e 1) 5)<|zp 1<|zi (.ca 639 [.e 19,.e 20] 1)<|zp 1 []) (zn 2<|zs 21<|zn 16 [])<|
 .ret) .skip))))))<|
 zq (zi (.cs .v (.b false)) []) (zn 2<|zs 19<|zn 16 [])<|
 .ret⟩
end Go.Cat
namespace Go.Cat
def ir_spec_CheckClaim:IF:=⟨[],1,16,[2],zq (zi (.bp (.e 0))<|zi (.cs .v (.b false)) []) (zn 1<|zs 16<|zn 14 [])<|
 .seq (zq (zi (.fp true (.e 1) 0)<|zp 1 []) (zn 1<|zs 1<|zn 5<|zs 16<|zn 8 [])<|
 .block 0<|zq (zi (.bi .eql (.e 7) (.c (.n 1)))<|zp 1 []) (zn 1<|zs 1<|zn 5<|zs 7<|zs 16<|zn 7 [])<|
 .cond 8 (zq (zi (.gp (.e 1) 7)<|zi (.ca 635 [.e 16,.c (.b true)] 1)<|zp 1 []) (zn 2<|zs 17<|zn 13 [])<|
 .ret) (zq (zi (.bi .eql (.e 7) (.c (.n 2)))<|zp 1 []) (zn 1<|zs 1<|zn 5<|zs 7<|zn 1<|zs 16<|zn 6 [])<|
 .cond 9 (zq (zi (.gp (.e 1) 7)<|zi (.ca 635 [.e 16,.c (.b false)] 1)<|zp 1<|zg [(17,true)] (.fp true (.e 1) 1)<|zg [(17,true)] .nop<|zg [(17,true)] (.fp true (.e 1) 2)<|zg [(17,true)] .nop<|zg [(17,true)] (.ca 612 [.e 18,.e 19] 1)<|zg [(17,true)] (.fp false (.e 1) 3)<|zg [(17,true)] .nop<|zg [(17,true)] (.ln (.e 21) [])<|zg [(17,true)] (.bi .sub (.e 22) (.c (.n 1)))<|zg [(17,true)] (.bi .eql (.e 20) (.e 23))<|zi (.pk (.e 17) (.e 24) (.c (.b false)))<|zp 1 []) (zn 2<|zs 25<|zn 13 [])<|
 .ret) (zq (zi (.bi .eql (.e 7) (.c (.n 3)))<|zp 1 []) (zn 1<|zs 1<|zn 5<|zs 7<|zn 2<|zs 16<|zn 5 [])<|
 .cond 10 (zq (zi (.fp true (.e 1) 1)<|zp 1<|zi (.fp false (.e 1) 4)<|zp 1<|zi (.ca 109 [.e 16,.e 17] 2)<|zp 5 []) (zn 3<|zs 18<|zs 19<|zn 11 [])<|
 zq (zp 2<|zg [(4,true)] (.cy (.e 3))<|zg [(4,true)] (.ca 130 [.e 16] 1)<|zi (.pk (.e 4) (.e 17) (.c (.b false)))<|zp 1 []) (zn 2<|zs 18<|zn 13 [])<|
 .ret) (zq (zi (.bi .eql (.e 7) (.c (.n 4)))<|zp 1 []) (zn 1<|zs 1<|zn 5<|zs 7<|zn 3<|zs 16<|zn 4 [])<|
 .cond 11 (zq (zi (.fp false (.e 1) 4)<|zp 2 []) (zn 1<|zs 1<|zn 3<|zs 16<|zn 10 [])<|
 zq (zi (.fp false (.e 1) 5)<|zp 2 []) (zn 5<|zs 5<|zs 16<|zn 9 [])<|
 .seq (zq (zp 1<|zi (.ca 73 [.e 5] 1)<|zi (.un .not (.e 16))<|zp 1<|zg [(17,false)] .nop<|zg [(17,false)] (.ln (.e 6) [])<|zg [(17,false)] (.bi .neq (.e 18) (.c (.n 3)))<|zi (.pk (.e 17) (.c (.b true)) (.e 19)) []) (zn 5<|zs 5<|zs 6<|zn 5<|zs 20<|zn 3 [])<|
 .cond 12 (zq (zi (.cs .v (.b false)) []) (zn 2<|zs 16<|zn 13 [])<|
 .ret) .skip)<|
 .seq (zq (zp 1<|zi (.iy (.e 6) (.c (.n 0)))<|zp 2<|zi (.ln (.e 5) [])<|zi (.bi .sub (.e 17) (.c (.n 1)))<|zi (.ca 22 [.e 16,.c (.n 0),.e 18] 1)<|zi (.un .not (.e 19))<|zp 1<|zg [(20,false)] .nop<|zg [(20,false)] (.iy (.e 6) (.c (.n 1)))<|zg [(20,false)] .nop<|zg [(20,false)] .nop<|zg [(20,false)] (.iy (.e 6) (.c (.n 0)))<|zg [(20,false)] .nop<|zg [(20,false)] (.bi .add (.e 22) (.c (.n 1)))<|zg [(20,false)] .nop<|zg [(20,false)] (.ln (.e 5) [])<|zg [(20,false)] (.bi .sub (.e 24) (.c (.n 1)))<|zg [(20,false)] (.ca 22 [.e 21,.e 23,.e 25] 1)<|zg [(20,false)] (.un .not (.e 26))<|zi (.pk (.e 20) (.c (.b true)) (.e 27))<|zp 1<|zg [(28,false)] .nop<|zg [(28,false)] (.iy (.e 6) (.c (.n 2)))<|zg [(28,false)] .nop<|zg [(28,false)] .nop<|zg [(28,false)] (.iy (.e 6) (.c (.n 1)))<|zg [(28,false)] .nop<|zg [(28,false)] (.bi .add (.e 30) (.c (.n 1)))<|zg [(28,false)] .nop<|zg [(28,false)] (.ln (.e 5) [])<|zg [(28,false)] (.bi .sub (.e 32) (.c (.n 1)))<|zg [(28,false)] (.ca 22 [.e 29,.e 31,.e 33] 1)<|zg [(28,false)] (.un .not (.e 34))<|zi (.pk (.e 28) (.c (.b true)) (.e 35)) []) (zn 5<|zs 5<|zs 6<|zn 6<|zs 36<|zn 2 [])<|
 .cond 13 (zq (zi (.cs .v (.b false)) []) (zn 2<|zs 16<|zn 13 [])<|
 .ret) .skip)<|
 zq (zp 2<|zi (.iy (.e 6) (.c (.n 2)))<|zp 1<|zi (.iy (.e 5) (.e 16))<|zp 3<|zi (.iy (.e 6) (.c (.n 0)))<|zp 1<|zi (.iy (.e 5) (.e 18))<|zp 1<|zi (.bi .lss (.e 17) (.e 19))<|zp 1<|zg [(20,true)] .nop<|zg [(20,true)] .nop<|zg [(20,true)] (.iy (.e 6) (.c (.n 0)))<|zg [(20,true)] .nop<|zg [(20,true)] (.iy (.e 5) (.e 21))<|zg [(20,true)] .nop<|zg [(20,true)] .nop<|zg [(20,true)] .nop<|zg [(20,true)] (.iy (.e 6) (.c (.n 1)))<|zg [(20,true)] .nop<|zg [(20,true)] (.iy (.e 5) (.e 23))<|zg [(20,true)] .nop<|zg [(20,true)] (.bi .lss (.e 22) (.e 24))<|zi (.pk (.e 20) (.e 25) (.c (.b false)))<|zp 1 []) (zn 2<|zs 26<|zn 13 [])<|
 .ret) (zq (zi (.bi .eql (.e 7) (.c (.n 5)))<|zp 1 []) (zn 1<|zs 1<|zn 5<|zs 7<|zn 6<|zs 16<|zn 1 [])<|
 .cond 14 (zq (zi (.fp false (.e 1) 4)<|zp 1<|zi (.ln (.e 16) [])<|zi (.bi .geq (.e 17) (.c (.n 3)))<|zp 1<|zg [(18,true)] (.fp false (.e 1) 4)<|zg [(18,true)] .nop<|zg [(18,true)] (.ln (.e 19) [])<|zg [(18,true)] (.fp false (.e 1) 6)<|zg [(18,true)] .nop<|zg [(18,true)] (.ca 600 [.e 20,.e 21] 1)<|zi (.pk (.e 18) (.e 22) (.c (.b false)))<|zp 1<|zg [(23,true)] (.fp false (.e 1) 4)<|zg [(23,true)] .nop<|zg [(23,true)] (.ln (.e 24) [])<|zg [(23,true)] (.fp false (.e 1) 6)<|zg [(23,true)] .nop<|zg [(23,true)] (.ca 636 [.e 25,.e 26] 1)<|zg [(23,true)] (.fp false (.e 1) 4)<|zg [(23,true)] .nop<|zg [(23,true)] (.ca 149 [.e 27,.e 28] 1)<|zi (.pk (.e 23) (.e 29) (.c (.b false)))<|zp 1 []) (zn 2<|zs 30<|zn 13 [])<|
 .ret) (zq (zi (.bi .eql (.e 7) (.c (.n 6)))<|zp 1 []) (zn 1<|zs 1<|zn 13<|zs 16 [])<|
 .cond 15 (zq (zi (.fp false (.e 1) 4)<|zp 1<|zi (.fp false (.e 1) 5)<|zp 1<|zi (.ca 357 [.e 16,.e 17] 1)<|zp 1 []) (zn 2<|zs 18<|zn 13 [])<|
 .ret) .skip))))))<|
 zq (zi (.cs .v (.b false)) []) (zn 2<|zs 16<|zn 13 [])<|
 .ret⟩
def ir_spec_l33Chain:IF:=⟨[],2,9,[3],zq (zi (.bp (.e 0))<|zi (.cs .v (.b false)) []) (zn 1<|zs 1<|zs 9<|zn 6 [])<|
 zq (zi (.fp false (.e 2) 3)<|zp 2 []) (zn 1<|zs 1<|zs 2<|zn 1<|zs 9<|zn 4 [])<|
 .seq (zq (zp 1<|zi (.ca 644 [.e 4] 1)<|zi (.un .not (.e 9))<|zp 1<|zg [(10,false)] .nop<|zg [(10,false)] (.iy (.e 4) (.c (.n 0)))<|zg [(10,false)] .nop<|zg [(10,false)] (.fp true (.e 2) 1)<|zg [(10,false)] .nop<|zg [(10,false)] (.bi .neq (.e 11) (.e 12))<|zi (.pk (.e 10) (.c (.b true)) (.e 13))<|zp 1<|zg [(14,false)] .nop<|zg [(14,false)] .nop<|zg [(14,false)] (.ln (.e 4) [])<|zg [(14,false)] (.bi .sub (.e 15) (.c (.n 1)))<|zg [(14,false)] (.iy (.e 4) (.e 16))<|zg [(14,false)] .nop<|zg [(14,false)] (.fp true (.e 2) 2)<|zg [(14,false)] .nop<|zg [(14,false)] (.bi .neq (.e 17) (.e 18))<|zi (.pk (.e 14) (.c (.b true)) (.e 19)) []) (zn 1<|zs 1<|zn 2<|zs 4<|zn 1<|zs 20<|zn 2 [])<|
 .cond 6 (zq (zi (.cs .v (.b false)) []) (zn 3<|zs 9<|zn 5 [])<|
 .ret) .skip)<|
 .seq (zq (zi (.cs .v (.n 1)) []) (zn 1<|zs 1<|zn 2<|zs 4<|zs 9<|zn 3 [])<|
 .block 0<|.loop<|.seq (zq (zp 2<|zi (.ln (.e 4) [])<|zi (.bi .lss (.e 5) (.e 9))<|zp 1<|zg [(10,true)] (.cy (.e 1))<|zi (.pk (.e 10) (.e 11) (.c (.b false))) []) (zn 1<|zs 1<|zn 2<|zs 4<|zs 5<|zn 1<|zs 12<|zn 1 [])<|
 .cond 7 .skip (.exit 0))<|
 .seq (.block 1<|zq (zp 2<|zi (.bi .sub (.e 5) (.c (.n 1)))<|zi (.iy (.e 4) (.e 9))<|zp 3<|zi (.iy (.e 4) (.e 5))<|zp 1<|zi (.ca 349 [.e 10,.e 11] 1)<|zi (.un .not (.e 12)) []) (zn 1<|zs 1<|zn 2<|zs 4<|zs 5<|zn 2<|zs 13 [])<|
 .cond 8 (zq (zi (.cs .v (.b false)) []) (zn 3<|zs 9<|zn 5 [])<|
 .ret) .skip)<|
 .reg (zp 1<|zi (.bi .add (.e 5) (.c (.n 1)))<|zp 1 []) (zn 1<|zs 1<|zn 2<|zs 4<|zs 9<|zn 3 []))<|
 zq (zi (.cs .v (.b true)) []) (zn 3<|zs 9<|zn 5 [])<|
 .ret⟩
end Go.Cat
namespace Go.Cat
end Go.Cat
namespace Go.Cat
end Go.Cat
namespace Go.Cat
end Go.Cat
namespace Go.Cat
def ir_impl_IsTriangulation:IF:=⟨[],2,17,[2],zq (zi (.cs .v (.b false)) []) (zs 0<|zs 1<|zn 15 [])<|
 .seq (zq (zp 1<|zi (.ca 23 [.e 0,.c (.n 2),.c (.n 10)] 1)<|zi (.un .not (.e 17))<|zp 1<|zg [(18,false)] .nop<|zg [(18,false)] (.ln (.e 1) [])<|zg [(18,false)] (.cy (.e 0))<|zg [(18,false)] (.bi .sub (.e 20) (.c (.n 3)))<|zg [(18,false)] (.mx (.c (.n 0)) (.e 21))<|zg [(18,false)] (.bi .neq (.e 19) (.e 22))<|zi (.pk (.e 18) (.c (.b true)) (.e 23)) []) (zs 0<|zs 1<|zn 4<|zs 24<|zn 10 [])<|
 .cond 6 (zq (zi (.cs .v (.b false)) []) (zn 2<|zs 17<|zn 14 [])<|
 .ret) .skip)<|
 .seq (zq (zp 1<|zi (.ln (.e 1) [])<|zi (.cs .v (.n 0)) []) (zs 0<|zs 1<|zn 5<|zs 1<|zs 17<|zs 18<|zn 7 [])<|
 .block 0<|.loop<|zq (zi (.bi .lss (.e 9) (.e 8)) []) (zs 0<|zs 1<|zn 5<|zs 7<|zs 8<|zs 9<|zs 17<|zn 6 [])<|
 .seq (.cond 10 .skip (.exit 0))<|
 .seq (.block 1<|zq (zp 1<|zi (.ix (.e 7) [] (.e 9))<|zp 3 []) (zs 0<|zs 1<|zn 1<|zs 9<|zs 17<|zn 2<|zs 7<|zs 8<|zs 9<|zn 7 [])<|
 .seq (zq (zp 2<|zi (.ca 605 [.e 0,.e 4] 1)<|zi (.un .not (.e 17))<|zp 1<|zg [(18,false)] (.cy (.e 3))<|zg [(18,false)] (.bi .gtr (.e 19) (.c (.n 0)))<|zg [(18,false)] (.cy (.e 20))<|zg [(18,false),(21,true)] .nop<|zg [(18,false),(21,true)] (.cy (.e 3))<|zg [(18,false),(21,true)] (.bi .sub (.e 22) (.c (.n 1)))<|zg [(18,false),(21,true)] (.ix (.e 1) [] (.e 23))<|zg [(18,false),(21,true)] .nop<|zg [(18,false),(21,true)] .nop<|zg [(18,false),(21,true)] (.ca 364 [.e 24,.e 4] 1)<|zg [(18,false),(21,true)] (.bi .geq (.e 25) (.c (.n 0)))<|zg [(18,false)] (.pk (.e 21) (.e 26) (.c (.b false)))<|zi (.pk (.e 18) (.c (.b true)) (.e 27)) []) (zs 0<|zs 1<|zn 1<|zs 3<|zs 4<|zn 2<|zs 7<|zs 8<|zs 9<|zn 1<|zs 28<|zn 5 [])<|
 .cond 11 (zq (zi (.cs .v (.b false)) []) (zn 2<|zs 17<|zn 14 [])<|
 .ret) .skip)<|
 zq (zp 2<|zi (.sb false (.e 1) none (some (.e 3)))<|zi (.ln (.e 17) [])<|zi (.cs .v (.n 0)) []) (zs 0<|zs 1<|zn 2<|zs 4<|zn 2<|zs 7<|zs 8<|zs 9<|zn 2<|zs 17<|zs 18<|zs 19<|zn 2 [])<|
 .block 2<|.loop<|zq (zi (.bi .lss (.e 14) (.e 13)) []) (zs 0<|zs 1<|zn 2<|zs 4<|zn 2<|zs 7<|zs 8<|zs 9<|zn 2<|zs 12<|zs 13<|zs 14<|zs 17<|zn 1 [])<|
 .seq (.cond 15 .skip (.exit 2))<|
 .seq (.block 3<|zq (zi (.ix (.e 12) [] (.e 14))<|zp 2 []) (zs 0<|zs 1<|zn 2<|zs 4<|zs 17<|zn 1<|zs 7<|zs 8<|zs 9<|zn 2<|zs 12<|zs 13<|zs 14<|zn 2 [])<|
 zq (zp 1<|zi (.iy (.e 5) (.c (.n 0)))<|zp 2<|zi (.iy (.e 4) (.c (.n 0)))<|zp 1<|zi (.bi .lss (.e 17) (.e 18))<|zp 1<|zg [(19,true)] .nop<|zg [(19,true)] (.iy (.e 4) (.c (.n 0)))<|zg [(19,true)] .nop<|zg [(19,true)] .nop<|zg [(19,true)] (.iy (.e 5) (.c (.n 1)))<|zg [(19,true)] .nop<|zg [(19,true)] (.bi .lss (.e 20) (.e 21))<|zi (.pk (.e 19) (.e 22) (.c (.b false)))<|zp 1<|zg [(23,true)] .nop<|zg [(23,true)] (.iy (.e 5) (.c (.n 1)))<|zg [(23,true)] .nop<|zg [(23,true)] .nop<|zg [(23,true)] (.iy (.e 4) (.c (.n 1)))<|zg [(23,true)] .nop<|zg [(23,true)] (.bi .lss (.e 24) (.e 25))<|zi (.pk (.e 23) (.e 26) (.c (.b false)))<|zp 1<|zg [(27,false)] .nop<|zg [(27,false)] (.iy (.e 4) (.c (.n 0)))<|zg [(27,false)] .nop<|zg [(27,false)] .nop<|zg [(27,false)] (.iy (.e 5) (.c (.n 0)))<|zg [(27,false)] .nop<|zg [(27,false)] (.bi .lss (.e 28) (.e 29))<|zg [(27,false)] (.cy (.e 30))<|zg [(27,false),(31,true)] .nop<|zg [(27,false),(31,true)] (.iy (.e 5) (.c (.n 0)))<|zg [(27,false),(31,true)] .nop<|zg [(27,false),(31,true)] .nop<|zg [(27,false),(31,true)] (.iy (.e 4) (.c (.n 1)))<|zg [(27,false),(31,true)] .nop<|zg [(27,false),(31,true)] (.bi .lss (.e 32) (.e 33))<|zg [(27,false)] (.pk (.e 31) (.e 34) (.c (.b false)))<|zg [(27,false)] (.cy (.e 35))<|zg [(27,false),(36,true)] .nop<|zg [(27,false),(36,true)] (.iy (.e 4) (.c (.n 1)))<|zg [(27,false),(36,true)] .nop<|zg [(27,false),(36,true)] .nop<|zg [(27,false),(36,true)] (.iy (.e 5) (.c (.n 1)))<|zg [(27,false),(36,true)] .nop<|zg [(27,false),(36,true)] (.bi .lss (.e 37) (.e 38))<|zg [(27,false)] (.pk (.e 36) (.e 39) (.c (.b false)))<|zi (.pk (.e 27) (.c (.b true)) (.e 40)) []) (zs 0<|zs 1<|zn 2<|zs 4<|zn 2<|zs 7<|zs 8<|zs 9<|zn 2<|zs 12<|zs 13<|zs 14<|zn 1<|zs 41 [])<|
 .cond 16 (zq (zi (.cs .v (.b false)) []) (zn 2<|zs 17<|zn 14 [])<|
 .ret) .skip)<|
 .reg (zi (.bi .add (.e 14) (.c (.n 1)))<|zp 1 []) (zs 0<|zs 1<|zn 2<|zs 4<|zn 2<|zs 7<|zs 8<|zs 9<|zn 2<|zs 12<|zs 13<|zs 17<|zn 2 []))<|
 .reg (zi (.bi .add (.e 9) (.c (.n 1)))<|zp 1 []) (zs 0<|zs 1<|zn 5<|zs 7<|zs 8<|zs 17<|zn 7 []))<|
 zq (zi (.cs .v (.b true)) []) (zn 2<|zs 17<|zn 14 [])<|
 .ret⟩
def ir_impl_TrianglesOf:IF:=⟨[],2,6,[2,3],zq (zi (.cs (.o .v) (.l []))<|zi (.cs .v (.b false)) []) (zs 0<|zs 1<|zn 4 [])<|
 .seq (zq (zp 2<|zi (.ca 602 [.e 0,.e 1] 1)<|zi (.un .not (.e 6)) []) (zs 0<|zs 1<|zn 3<|zs 7 [])<|
 .cond 5 (zq (zi (.li (.o .v) [])<|zp 1<|zi (.cs .v (.b false)) []) (zn 2<|zs 6<|zs 7<|zn 2 [])<|
 .ret) .skip)<|
 zq (zp 3<|zi (.bi .sub (.e 0) (.c (.n 1)))<|zi (.ca 652 [.e 0,.e 1,.c (.n 0),.e 6] 1)<|zp 1<|zi (.bi .sub (.e 0) (.c (.n 1)))<|zi (.li (.o .v) [])<|zi (.li (.o .v) [])<|zi (.ca 541 [.e 7,.c (.n 0),.e 8,.e 9,.e 10] 2)<|zp 5 []) (zn 4<|zs 11<|zn 1 [])<|
 zq (zp 1<|zi (.ca 363 [.e 4,.c (.f 364 [])] 1) []) (zn 4<|zs 6<|zn 1 [])<|
 zq (zp 2<|zi (.cs .v (.b true)) []) (zn 2<|zs 4<|zs 6<|zn 2 [])<|
 .ret⟩
def ir_impl_isDiagonal:IF:=⟨[],2,3,[2],zq (zi (.cs .v (.b false)) []) (zs 0<|zs 1<|zn 1 [])<|
 zq (zp 1<|zi (.ln (.e 1) [])<|zi (.bi .eql (.e 3) (.c (.n 2)))<|zp 1<|zg [(4,true)] .nop<|zg [(4,true)] (.iy (.e 1) (.c (.n 0)))<|zg [(4,true)] .nop<|zg [(4,true)] (.cy (.e 0))<|zg [(4,true)] (.bi .sub (.e 6) (.c (.n 1)))<|zg [(4,true)] (.ca 23 [.e 5,.c (.n 0),.e 7] 1)<|zi (.pk (.e 4) (.e 8) (.c (.b false)))<|zp 1<|zg [(9,true)] .nop<|zg [(9,true)] (.iy (.e 1) (.c (.n 1)))<|zg [(9,true)] .nop<|zg [(9,true)] (.cy (.e 0))<|zg [(9,true)] (.bi .sub (.e 11) (.c (.n 1)))<|zg [(9,true)] (.ca 23 [.e 10,.c (.n 0),.e 12] 1)<|zi (.pk (.e 9) (.e 13) (.c (.b false)))<|zp 1<|zg [(14,true)] .nop<|zg [(14,true)] (.iy (.e 1) (.c (.n 1)))<|zg [(14,true)] .nop<|zg [(14,true)] .nop<|zg [(14,true)] (.iy (.e 1) (.c (.n 0)))<|zg [(14,true)] .nop<|zg [(14,true)] (.bi .sub (.e 15) (.e 16))<|zg [(14,true)] (.bi .geq (.e 17) (.c (.n 2)))<|zi (.pk (.e 14) (.e 18) (.c (.b false)))<|zp 1<|zg [(19,true)] .nop<|zg [(19,true)] (.iy (.e 1) (.c (.n 0)))<|zg [(19,true)] .nop<|zg [(19,true)] (.bi .neq (.e 20) (.c (.n 0)))<|zg [(19,true)] (.cy (.e 21))<|zg [(19,true),(22,false)] .nop<|zg [(19,true),(22,false)] (.iy (.e 1) (.c (.n 1)))<|zg [(19,true),(22,false)] .nop<|zg [(19,true),(22,false)] (.cy (.e 0))<|zg [(19,true),(22,false)] (.bi .sub (.e 24) (.c (.n 1)))<|zg [(19,true),(22,false)] (.bi .neq (.e 23) (.e 25))<|zg [(19,true)] (.pk (.e 22) (.c (.b true)) (.e 26))<|zi (.pk (.e 19) (.e 27) (.c (.b false)))<|zp 1 []) (zn 2<|zs 28 [])<|
 .ret⟩
def ir_impl_treeOfTriangles_f1:IF:=⟨[],3,11,[3,2],zq (zi (.cs .v (.b false)) []) (zs 0<|zs 1<|zs 2<|zn 8 [])<|
 .seq (zq (zp 2<|zi (.bi .sub (.e 1) (.e 0))<|zi (.bi .eql (.e 11) (.c (.n 1))) []) (zs 0<|zs 1<|zs 2<|zn 2<|zs 12<|zn 5 [])<|
 .cond 5 (zq (zi (.cs .v (.b true)) []) (zn 2<|zs 2<|zs 11<|zn 7 [])<|
 .ret) .skip)<|
 .seq (zq (zi (.gt (.e 2) [.k 0])<|zi (.ln (.e 11) [])<|zi (.cs .v (.n 0)) []) (zs 0<|zs 1<|zs 2<|zn 3<|zs 11<|zs 12<|zs 13<|zn 2 [])<|
 .block 0<|.loop<|zq (zi (.bi .lss (.e 8) (.e 7)) []) (zs 0<|zs 1<|zs 2<|zn 3<|zs 6<|zs 7<|zs 8<|zs 11<|zn 1 [])<|
 .seq (.cond 9 .skip (.exit 0))<|
 .seq (.block 1<|zq (zi (.ix (.e 6) [] (.e 8))<|zp 2 []) (zs 0<|zs 1<|zs 2<|zn 1<|zs 11<|zn 1<|zs 6<|zs 7<|zs 8<|zn 2 [])<|
 zq (zp 1<|zi (.ix (.e 4) [] (.c (.n 0)))<|zp 2<|zi (.bi .eql (.e 11) (.e 0))<|zp 1<|zg [(12,true)] (.cy (.e 4))<|zg [(12,true)] (.ix (.e 13) [] (.c (.n 1)))<|zg [(12,true)] .nop<|zg [(12,true)] (.cy (.e 1))<|zg [(12,true)] (.bi .eql (.e 14) (.e 15))<|zi (.pk (.e 12) (.e 16) (.c (.b false))) []) (zs 0<|zs 1<|zs 2<|zn 3<|zs 6<|zs 7<|zs 8<|zn 1<|zs 17 [])<|
 .cond 10 (zq (zi (.cs .v (.b true)) []) (zn 2<|zs 2<|zs 11<|zn 7 [])<|
 .ret) .skip)<|
 .reg (zi (.bi .add (.e 8) (.c (.n 1)))<|zp 1 []) (zs 0<|zs 1<|zs 2<|zn 3<|zs 6<|zs 7<|zs 11<|zn 2 []))<|
 zq (zi (.cs .v (.b false)) []) (zn 2<|zs 2<|zs 11<|zn 7 [])<|
 .ret⟩
end Go.Cat
namespace Go.Cat
def ir_spec_IsTriangulation:IF:=⟨[],2,11,[2],zq (zi (.cs .v (.b false)) []) (zs 0<|zs 1<|zn 9 [])<|
 .seq (zq (zp 1<|zi (.ca 22 [.e 0,.c (.n 2),.c (.n 10)] 1)<|zi (.un .not (.e 11))<|zp 1<|zg [(12,false)] .nop<|zg [(12,false)] (.ln (.e 1) [])<|zg [(12,false)] (.cy (.e 0))<|zg [(12,false)] (.bi .sub (.e 14) (.c (.n 3)))<|zg [(12,false)] (.mx (.c (.n 0)) (.e 15))<|zg [(12,false)] (.bi .neq (.e 13) (.e 16))<|zi (.pk (.e 12) (.c (.b true)) (.e 17)) []) (zs 0<|zs 1<|zn 3<|zs 18<|zn 5 [])<|
 .cond 5 (zq (zi (.cs .v (.b false)) []) (zn 2<|zs 11<|zn 8 [])<|
 .ret) .skip)<|
 .seq (zq (zi (.cs .v (.n 0)) []) (zs 0<|zs 1<|zn 1<|zs 11<|zn 7 [])<|
 .block 0<|.loop<|.seq (zq (zp 2<|zi (.ln (.e 1) [])<|zi (.bi .lss (.e 3) (.e 11)) []) (zs 0<|zs 1<|zn 1<|zs 3<|zn 2<|zs 12<|zn 4 [])<|
 .cond 6 .skip (.exit 0))<|
 .seq (.block 1<|.seq (zq (zp 2<|zi (.ix (.e 1) [] (.e 3))<|zp 1<|zi (.ln (.e 11) [])<|zi (.bi .neq (.e 12) (.c (.n 2)))<|zp 1<|zg [(13,false)] .nop<|zg [(13,false)] (.cy (.e 3))<|zg [(13,false)] (.ix (.e 1) [] (.e 14))<|zg [(13,false)] .nop<|zg [(13,false)] (.iy (.e 15) (.c (.n 0)))<|zg [(13,false)] .nop<|zg [(13,false)] (.cy (.e 0))<|zg [(13,false)] (.bi .sub (.e 17) (.c (.n 1)))<|zg [(13,false)] (.ca 22 [.e 16,.c (.n 0),.e 18] 1)<|zg [(13,false)] (.un .not (.e 19))<|zi (.pk (.e 13) (.c (.b true)) (.e 20))<|zp 1<|zg [(21,false)] .nop<|zg [(21,false)] (.cy (.e 3))<|zg [(21,false)] (.ix (.e 1) [] (.e 22))<|zg [(21,false)] .nop<|zg [(21,false)] (.iy (.e 23) (.c (.n 1)))<|zg [(21,false)] .nop<|zg [(21,false)] .nop<|zg [(21,false)] (.cy (.e 3))<|zg [(21,false)] (.ix (.e 1) [] (.e 25))<|zg [(21,false)] .nop<|zg [(21,false)] (.iy (.e 26) (.c (.n 0)))<|zg [(21,false)] .nop<|zg [(21,false)] (.bi .add (.e 27) (.c (.n 2)))<|zg [(21,false)] (.cy (.e 0))<|zg [(21,false)] (.bi .sub (.e 29) (.c (.n 1)))<|zg [(21,false)] (.ca 22 [.e 24,.e 28,.e 30] 1)<|zg [(21,false)] (.un .not (.e 31))<|zi (.pk (.e 21) (.c (.b true)) (.e 32))<|zp 1<|zg [(33,false)] .nop<|zg [(33,false)] (.cy (.e 3))<|zg [(33,false)] (.ix (.e 1) [] (.e 34))<|zg [(33,false)] .nop<|zg [(33,false)] (.iy (.e 35) (.c (.n 0)))<|zg [(33,false)] .nop<|zg [(33,false)] (.bi .eql (.e 36) (.c (.n 0)))<|zg [(33,false)] (.cy (.e 37))<|zg [(33,false),(38,true)] .nop<|zg [(33,false),(38,true)] (.cy (.e 3))<|zg [(33,false),(38,true)] (.ix (.e 1) [] (.e 39))<|zg [(33,false),(38,true)] .nop<|zg [(33,false),(38,true)] (.iy (.e 40) (.c (.n 1)))<|zg [(33,false),(38,true)] .nop<|zg [(33,false),(38,true)] (.cy (.e 0))<|zg [(33,false),(38,true)] (.bi .sub (.e 42) (.c (.n 1)))<|zg [(33,false),(38,true)] (.bi .eql (.e 41) (.e 43))<|zg [(33,false)] (.pk (.e 38) (.e 44) (.c (.b false)))<|zi (.pk (.e 33) (.c (.b true)) (.e 45)) []) (zs 0<|zs 1<|zn 1<|zs 3<|zn 3<|zs 46<|zn 3 [])<|
 .cond 7 (zq (zi (.cs .v (.b false)) []) (zn 2<|zs 11<|zn 8 [])<|
 .ret) .skip)<|
 .seq (zq (zp 1<|zi (.bi .gtr (.e 3) (.c (.n 0)))<|zp 1<|zg [(11,true)] .nop<|zg [(11,true)] (.cy (.e 3))<|zg [(11,true)] (.bi .sub (.e 12) (.c (.n 1)))<|zg [(11,true)] (.ix (.e 1) [] (.e 13))<|zg [(11,true)] .nop<|zg [(11,true)] .nop<|zg [(11,true)] (.cy (.e 3))<|zg [(11,true)] (.ix (.e 1) [] (.e 15))<|zg [(11,true)] .nop<|zg [(11,true)] (.ca 374 [.e 14,.e 16] 1)<|zg [(11,true)] (.un .not (.e 17))<|zi (.pk (.e 11) (.e 18) (.c (.b false))) []) (zs 0<|zs 1<|zn 1<|zs 3<|zn 4<|zs 19<|zn 2 [])<|
 .cond 8 (zq (zi (.cs .v (.b false)) []) (zn 2<|zs 11<|zn 8 [])<|
 .ret) .skip)<|
 zq (zi (.cs .v (.n 0)) []) (zs 0<|zs 1<|zn 1<|zs 3<|zs 11<|zn 6 [])<|
 .block 2<|.loop<|.seq (zq (zp 2<|zi (.bi .lss (.e 4) (.e 3)) []) (zs 0<|zs 1<|zn 1<|zs 3<|zs 4<|zn 4<|zs 11<|zn 1 [])<|
 .cond 9 .skip (.exit 2))<|
 .seq (.block 3<|zq (zp 2<|zi (.ix (.e 1) [] (.e 4))<|zp 3<|zi (.ix (.e 1) [] (.e 3))<|zp 1<|zi (.ca 603 [.e 11,.e 12] 1) []) (zs 0<|zs 1<|zn 1<|zs 3<|zs 4<|zn 5<|zs 13 [])<|
 .cond 10 (zq (zi (.cs .v (.b false)) []) (zn 2<|zs 11<|zn 8 [])<|
 .ret) .skip)<|
 .reg (zp 1<|zi (.bi .add (.e 4) (.c (.n 1)))<|zp 1 []) (zs 0<|zs 1<|zn 1<|zs 3<|zs 11<|zn 6 []))<|
 .reg (zp 1<|zi (.bi .add (.e 3) (.c (.n 1)))<|zp 1 []) (zs 0<|zs 1<|zn 1<|zs 11<|zn 7 []))<|
 zq (zi (.cs .v (.b true)) []) (zn 2<|zs 11<|zn 8 [])<|
 .ret⟩
def ir_spec_TrianglesOf:IF:=⟨[],2,13,[2,3],zq (zi (.cs (.o .v) (.l []))<|zi (.cs .v (.b false)) []) (zs 0<|zs 1<|zn 11 [])<|
 zq (zi (.li (.o .v) [])<|zp 1 []) (zs 0<|zs 1<|zn 2<|zs 13<|zn 8 [])<|
 .seq (zq (zp 2<|zi (.ca 600 [.e 0,.e 1] 1)<|zi (.un .not (.e 13)) []) (zs 0<|zs 1<|zn 2<|zs 4<|zn 3<|zs 14<|zn 4 [])<|
 .cond 8 (zq (zp 2<|zi (.cs .v (.b false)) []) (zn 2<|zs 4<|zs 13<|zn 9 [])<|
 .ret) .skip)<|
 .seq (zq (zi (.cs .v (.n 0)) []) (zs 0<|zs 1<|zn 2<|zs 4<|zs 13<|zn 7 [])<|
 .block 0<|.loop<|.seq (zq (zp 2<|zi (.bi .lss (.e 5) (.e 0)) []) (zs 0<|zs 1<|zn 2<|zs 4<|zs 5<|zn 3<|zs 13<|zn 3 [])<|
 .cond 9 .skip (.exit 0))<|
 .seq (.block 1<|zq (zp 1<|zi (.bi .add (.e 5) (.c (.n 1)))<|zp 1 []) (zs 0<|zs 1<|zn 2<|zs 4<|zs 5<|zs 13<|zn 6 [])<|
 .block 2<|.loop<|.seq (zq (zp 2<|zi (.bi .lss (.e 6) (.e 0)) []) (zs 0<|zs 1<|zn 2<|zs 4<|zs 5<|zs 6<|zn 3<|zs 13<|zn 2 [])<|
 .cond 10 .skip (.exit 2))<|
 .seq (.block 3<|zq (zp 1<|zi (.bi .add (.e 6) (.c (.n 1)))<|zp 1 []) (zs 0<|zs 1<|zn 2<|zs 4<|zs 5<|zs 6<|zs 13<|zn 5 [])<|
 .block 4<|.loop<|.seq (zq (zp 2<|zi (.bi .lss (.e 7) (.e 0)) []) (zs 0<|zs 1<|zn 2<|zs 4<|zs 5<|zs 6<|zs 7<|zn 3<|zs 13<|zn 1 [])<|
 .cond 11 .skip (.exit 4))<|
 .seq (.block 5<|zq (zp 4<|zi (.ca 604 [.e 0,.e 1,.e 5,.e 6] 1)<|zp 1<|zg [(13,true)] (.cy (.e 0))<|zg [(13,true)] .nop<|zg [(13,true)] (.cy (.e 6))<|zg [(13,true)] (.cy (.e 7))<|zg [(13,true)] (.ca 604 [.e 14,.e 1,.e 15,.e 16] 1)<|zi (.pk (.e 13) (.e 17) (.c (.b false)))<|zp 1<|zg [(18,true)] (.cy (.e 0))<|zg [(18,true)] .nop<|zg [(18,true)] (.cy (.e 5))<|zg [(18,true)] (.cy (.e 7))<|zg [(18,true)] (.ca 604 [.e 19,.e 1,.e 20,.e 21] 1)<|zi (.pk (.e 18) (.e 22) (.c (.b false))) []) (zs 0<|zs 1<|zn 2<|zs 4<|zs 5<|zs 6<|zs 7<|zn 4<|zs 23 [])<|
 .cond 12 (.reg (zp 4<|zi (.li (.o .v) [.e 5,.e 6,.e 7])<|zi (.li (.o .v) [.e 13])<|zi (.ap false (.e 4) (.e 14))<|zp 1 []) (zs 0<|zs 1<|zn 2<|zs 15<|zs 5<|zs 6<|zs 7<|zn 5 [])) .skip)<|
 .reg (zp 1<|zi (.bi .add (.e 7) (.c (.n 1)))<|zp 1 []) (zs 0<|zs 1<|zn 2<|zs 4<|zs 5<|zs 6<|zs 13<|zn 5 []))<|
 .reg (zp 1<|zi (.bi .add (.e 6) (.c (.n 1)))<|zp 1 []) (zs 0<|zs 1<|zn 2<|zs 4<|zs 5<|zs 13<|zn 6 []))<|
 .reg (zp 1<|zi (.bi .add (.e 5) (.c (.n 1)))<|zp 1 []) (zs 0<|zs 1<|zn 2<|zs 4<|zs 13<|zn 7 []))<|
 zq (zp 2<|zi (.cs .v (.b true)) []) (zn 2<|zs 4<|zs 13<|zn 9 [])<|
 .ret⟩
def ir_spec_l7Before:IF:=⟨[],2,3,[2],zq (zi (.cs .v (.b false)) []) (zs 0<|zs 1<|zn 1 [])<|
 zq (zp 1<|zi (.iy (.e 0) (.c (.n 0)))<|zp 2<|zi (.iy (.e 1) (.c (.n 0)))<|zp 1<|zi (.bi .lss (.e 3) (.e 4))<|zp 1<|zg [(5,false)] .nop<|zg [(5,false)] (.iy (.e 0) (.c (.n 0)))<|zg [(5,false)] .nop<|zg [(5,false)] .nop<|zg [(5,false)] (.iy (.e 1) (.c (.n 0)))<|zg [(5,false)] .nop<|zg [(5,false)] (.bi .eql (.e 6) (.e 7))<|zg [(5,false)] (.cy (.e 8))<|zg [(5,false),(9,true)] .nop<|zg [(5,false),(9,true)] (.iy (.e 0) (.c (.n 1)))<|zg [(5,false),(9,true)] .nop<|zg [(5,false),(9,true)] .nop<|zg [(5,false),(9,true)] (.iy (.e 1) (.c (.n 1)))<|zg [(5,false),(9,true)] .nop<|zg [(5,false),(9,true)] (.bi .lss (.e 10) (.e 11))<|zg [(5,false)] (.pk (.e 9) (.e 12) (.c (.b false)))<|zi (.pk (.e 5) (.c (.b true)) (.e 13))<|zp 1 []) (zn 2<|zs 14 [])<|
 .ret⟩
def ir_spec_l7Crosses:IF:=⟨[],2,3,[2],zq (zi (.cs .v (.b false)) []) (zs 0<|zs 1<|zn 1 [])<|
 zq (zp 1<|zi (.iy (.e 0) (.c (.n 0)))<|zp 2<|zi (.iy (.e 1) (.c (.n 0)))<|zp 1<|zi (.bi .lss (.e 3) (.e 4))<|zp 1<|zg [(5,true)] .nop<|zg [(5,true)] (.iy (.e 1) (.c (.n 0)))<|zg [(5,true)] .nop<|zg [(5,true)] .nop<|zg [(5,true)] (.iy (.e 0) (.c (.n 1)))<|zg [(5,true)] .nop<|zg [(5,true)] (.bi .lss (.e 6) (.e 7))<|zi (.pk (.e 5) (.e 8) (.c (.b false)))<|zp 1<|zg [(9,true)] .nop<|zg [(9,true)] (.iy (.e 0) (.c (.n 1)))<|zg [(9,true)] .nop<|zg [(9,true)] .nop<|zg [(9,true)] (.iy (.e 1) (.c (.n 1)))<|zg [(9,true)] .nop<|zg [(9,true)] (.bi .lss (.e 10) (.e 11))<|zi (.pk (.e 9) (.e 12) (.c (.b false)))<|zp 1<|zg [(13,false)] .nop<|zg [(13,false)] (.iy (.e 1) (.c (.n 0)))<|zg [(13,false)] .nop<|zg [(13,false)] .nop<|zg [(13,false)] (.iy (.e 0) (.c (.n 0)))<|zg [(13,false)] .nop<|zg [(13,false)] (.bi .lss (.e 14) (.e 15))<|zg [(13,false)] (.cy (.e 16))<|zg [(13,false),(17,true)] .nop<|zg [(13,false),(17,true)] (.iy (.e 0) (.c (.n 0)))<|zg [(13,false),(17,true)] .nop<|zg [(13,false),(17,true)] .nop<|zg [(13,false),(17,true)] (.iy (.e 1) (.c (.n 1)))<|zg [(13,false),(17,true)] .nop<|zg [(13,false),(17,true)] (.bi .lss (.e 18) (.e 19))<|zg [(13,false)] (.pk (.e 17) (.e 20) (.c (.b false)))<|zg [(13,false)] (.cy (.e 21))<|zg [(13,false),(22,true)] .nop<|zg [(13,false),(22,true)] (.iy (.e 1) (.c (.n 1)))<|zg [(13,false),(22,true)] .nop<|zg [(13,false),(22,true)] .nop<|zg [(13,false),(22,true)] (.iy (.e 0) (.c (.n 1)))<|zg [(13,false),(22,true)] .nop<|zg [(13,false),(22,true)] (.bi .lss (.e 23) (.e 24))<|zg [(13,false)] (.pk (.e 22) (.e 25) (.c (.b false)))<|zi (.pk (.e 13) (.c (.b true)) (.e 26))<|zp 1 []) (zn 2<|zs 27 [])<|
 .ret⟩
def ir_spec_l7Side:IF:=⟨[],4,9,[4],zq (zi (.cs .v (.b false)) []) (zs 0<|zs 1<|zs 2<|zs 3<|zn 5 [])<|
 .seq (zq (zp 2<|zi (.bi .add (.e 2) (.c (.n 1)))<|zi (.bi .eql (.e 3) (.e 9))<|zp 1<|zg [(10,false)] (.cy (.e 2))<|zg [(10,false)] (.bi .eql (.e 11) (.c (.n 0)))<|zg [(10,false)] (.cy (.e 12))<|zg [(10,false),(13,true)] (.cy (.e 3))<|zg [(10,false),(13,true)] (.cy (.e 0))<|zg [(10,false),(13,true)] (.bi .sub (.e 15) (.c (.n 1)))<|zg [(10,false),(13,true)] (.bi .eql (.e 14) (.e 16))<|zg [(10,false)] (.pk (.e 13) (.e 17) (.c (.b false)))<|zi (.pk (.e 10) (.c (.b true)) (.e 18)) []) (zn 1<|zs 1<|zs 2<|zs 3<|zn 2<|zs 19<|zn 2 [])<|
 .cond 6 (zq (zi (.cs .v (.b true)) []) (zn 4<|zs 9<|zn 4 [])<|
 .ret) .skip)<|
 .seq (zq (zi (.cs .v (.n 0)) []) (zn 1<|zs 1<|zs 2<|zs 3<|zn 1<|zs 9<|zn 3 [])<|
 .block 0<|.loop<|.seq (zq (zp 2<|zi (.ln (.e 1) [])<|zi (.bi .lss (.e 5) (.e 9)) []) (zn 1<|zs 1<|zs 2<|zs 3<|zn 1<|zs 5<|zn 1<|zs 10<|zn 1 [])<|
 .cond 7 .skip (.exit 0))<|
 .seq (.block 1<|zq (zp 2<|zi (.ix (.e 1) [] (.e 5))<|zp 1<|zi (.iy (.e 9) (.c (.n 0)))<|zp 2<|zi (.bi .eql (.e 10) (.e 2))<|zp 1<|zg [(11,true)] .nop<|zg [(11,true)] (.cy (.e 5))<|zg [(11,true)] (.ix (.e 1) [] (.e 12))<|zg [(11,true)] .nop<|zg [(11,true)] (.iy (.e 13) (.c (.n 1)))<|zg [(11,true)] .nop<|zg [(11,true)] (.cy (.e 3))<|zg [(11,true)] (.bi .eql (.e 14) (.e 15))<|zi (.pk (.e 11) (.e 16) (.c (.b false))) []) (zn 1<|zs 1<|zs 2<|zs 3<|zn 1<|zs 5<|zn 2<|zs 17 [])<|
 .cond 8 (zq (zi (.cs .v (.b true)) []) (zn 4<|zs 9<|zn 4 [])<|
 .ret) .skip)<|
 .reg (zp 1<|zi (.bi .add (.e 5) (.c (.n 1)))<|zp 1 []) (zn 1<|zs 1<|zs 2<|zs 3<|zn 1<|zs 9<|zn 3 []))<|
 zq (zi (.cs .v (.b false)) []) (zn 4<|zs 9<|zn 4 [])<|
 .ret⟩
end Go.Cat
namespace Go.Cat
end Go.Cat
namespace Go.Cat
end Go.Cat
namespace Go.Cat
end Go.Cat
namespace Go.Cat
end Go.Cat
namespace Go.Cat
end Go.Cat
namespace Go.Cat
end Go.Cat
namespace Go.Cat
end Go.Cat
namespace Go.Cat
def ir_impl_IsBinary:IF:=⟨[],1,3,[1],zq (zi (.cs .v (.b false)) []) (zs 0<|zn 2 [])<|
 zq (zp 1<|zi (.ca 194 [.e 0] 2)<|zp 5 []) (zn 2<|zs 4 [])<|
 zq (zp 2 []) (zn 1<|zs 2<|zn 1 [])<|
 .ret⟩
def ir_impl_NodesOf:IF:=⟨[],1,5,[1],zq (zi (.cs .v (.n 0)) []) (zs 0<|zn 4 [])<|
 zq (zp 1<|zi (.ca 194 [.e 0] 2)<|zp 5 []) (zn 2<|zs 5<|zs 6<|zn 1 [])<|
 .seq (zq (zp 1<|zi (.un .not (.e 3)) []) (zn 2<|zs 2<|zn 1<|zs 5 [])<|
 .cond 4 (zq (zi (.cs .v (.n (-1))) []) (zn 1<|zs 5<|zn 3 [])<|
 .ret) .skip)<|
 zq (zp 1<|zi (.ca 197 [.e 2] 1)<|zp 1 []) (zn 1<|zs 5<|zn 3 [])<|
 .ret⟩
def ir_impl_parseTree:IF:=⟨[],1,7,[1,2],zq (zi (.cs .v .z)<|zi (.cs .v (.b false)) []) (zs 0<|zn 6 [])<|
 .seq (zq (zp 1<|zi (.sn (.e 0))<|zi (.bi .gtr (.e 7) (.c (.n 25))) []) (zs 0<|zn 4<|zs 8<|zn 1 [])<|
 .cond 5 (zq (zi (.cs .v .z)<|zi (.cs .v (.b false)) []) (zn 1<|zs 7<|zs 8<|zn 4 [])<|
 .ret) .skip)<|
 zq (zp 1<|zi (.ca 208 [.e 0,.c (.n 0)] 2)<|zp 5 []) (zs 0<|zn 2<|zs 7<|zs 8<|zn 2 [])<|
 .seq (zq (zp 2<|zi (.sn (.e 0))<|zi (.bi .neq (.e 4) (.e 7))<|zp 1<|zg [(8,false)] (.cy (.e 3))<|zg [(8,false)] (.ca 197 [.e 9] 1)<|zg [(8,false)] (.bi .gtr (.e 10) (.c (.n 8)))<|zi (.pk (.e 8) (.c (.b true)) (.e 11)) []) (zn 3<|zs 3<|zn 2<|zs 12 [])<|
 .cond 6 (zq (zi (.cs .v .z)<|zi (.cs .v (.b false)) []) (zn 1<|zs 7<|zs 8<|zn 4 [])<|
 .ret) .skip)<|
 zq (zp 2<|zi (.cs .v (.b true)) []) (zn 1<|zs 3<|zs 7<|zn 4 [])<|
 .ret⟩
def ir_impl_readTree:IF:=⟨[],2,14,[2,3],zq (zi (.cs .v .z)<|zi (.cs .v (.n 0)) []) (zs 0<|zs 1<|zn 12 [])<|
 .seq (zq (zp 2<|zi (.sn (.e 0))<|zi (.bi .geq (.e 1) (.e 14)) []) (zs 0<|zs 1<|zn 6<|zs 15<|zn 5 [])<|
 .cond 8 (zq (zi (.cs .v .z)<|zi (.cs .v (.n (-1))) []) (zn 2<|zs 14<|zs 15<|zn 10 [])<|
 .ret) .skip)<|
 .seq (zq (zp 2<|zi (.sx (.e 0) (.e 1)) []) (zs 0<|zs 1<|zn 7<|zs 14<|zn 4 [])<|
 .block 0<|zq (zi (.bi .eql (.e 9) (.c (.y 46)))<|zp 1 []) (zs 0<|zs 1<|zn 7<|zs 9<|zs 14<|zn 3 [])<|
 .cond 10 (zq (zp 1<|zi (.bi .add (.e 1) (.c (.n 1)))<|zi (.cs .v .z)<|zp 1 []) (zn 2<|zs 15<|zs 14<|zn 10 [])<|
 .ret) (zq (zi (.bi .eql (.e 9) (.c (.y 40)))<|zp 1 []) (zs 0<|zs 1<|zn 9<|zs 14<|zn 2 [])<|
 .cond 11 (zq (zp 2<|zi (.bi .add (.e 1) (.c (.n 1)))<|zi (.ca 208 [.e 0,.e 14] 2)<|zp 5 []) (zs 0<|zn 3<|zs 15<|zs 16<|zn 8 [])<|
 .seq (zq (zp 1<|zi (.bi .lss (.e 5) (.c (.n 0))) []) (zs 0<|zn 3<|zs 4<|zs 5<|zn 6<|zs 14<|zn 1 [])<|
 .cond 12 (zq (zi (.cs .v .z)<|zi (.cs .v (.n (-1))) []) (zn 2<|zs 14<|zs 15<|zn 10 [])<|
 .ret) .skip)<|
 zq (zp 2<|zi (.ca 208 [.e 0,.e 5] 2)<|zp 5 []) (zs 0<|zn 3<|zs 4<|zn 1<|zs 14<|zs 15<|zn 6 [])<|
 .seq (zq (zp 1<|zi (.bi .lss (.e 7) (.c (.n 0)))<|zp 1<|zg [(14,false)] (.cy (.e 7))<|zg [(14,false)] (.cy (.e 0))<|zg [(14,false)] (.sn (.e 16))<|zg [(14,false)] (.bi .geq (.e 15) (.e 17))<|zi (.pk (.e 14) (.c (.b true)) (.e 18))<|zp 1<|zg [(19,false)] (.cy (.e 0))<|zg [(19,false)] (.cy (.e 7))<|zg [(19,false)] (.sx (.e 20) (.e 21))<|zg [(19,false)] (.bi .neq (.e 22) (.c (.y 41)))<|zi (.pk (.e 19) (.c (.b true)) (.e 23)) []) (zn 4<|zs 4<|zn 1<|zs 6<|zs 7<|zn 5<|zs 24 [])<|
 .cond 13 (zq (zi (.cs .v .z)<|zi (.cs .v (.n (-1))) []) (zn 2<|zs 14<|zs 15<|zn 10 [])<|
 .ret) .skip)<|
 zq (zp 2<|zi (.bg 0 [(.e 4,0),(.e 6,0)])<|zi (.bp (.e 14))<|zp 1<|zi (.bi .add (.e 7) (.c (.n 1)))<|zp 2 []) (zn 2<|zs 15<|zs 16<|zn 10 [])<|
 .ret) .skip))<|
 zq (zi (.cs .v .z)<|zi (.cs .v (.n (-1))) []) (zn 2<|zs 14<|zs 15<|zn 10 [])<|
 .ret⟩
end Go.Cat
namespace Go.Cat
def ir_spec_IsBinary:IF:=⟨[],1,2,[1],zq (zi (.cs .v (.b false)) []) (zs 0<|zn 1 [])<|
 zq (zp 1<|zi (.sn (.e 0))<|zi (.bi .leq (.e 2) (.c (.n 25)))<|zp 1<|zg [(3,true)] (.cy (.e 0))<|zg [(3,true)] (.ca 188 [.e 4,.c (.n 0)] 1)<|zg [(3,true)] (.cy (.e 0))<|zg [(3,true)] (.sn (.e 6))<|zg [(3,true)] (.bi .eql (.e 5) (.e 7))<|zi (.pk (.e 3) (.e 8) (.c (.b false)))<|zp 1<|zg [(9,true)] (.cy (.e 0))<|zg [(9,true)] (.bi .neq (.e 10) (.c (.s [])))<|zi (.pk (.e 9) (.e 11) (.c (.b false)))<|zp 1 []) (zn 1<|zs 12 [])<|
 .ret⟩
def ir_spec_NodesOf:IF:=⟨[],1,3,[1],zq (zi (.cs .v (.n 0)) []) (zs 0<|zn 2 [])<|
 .seq (zq (zp 1<|zi (.ca 160 [.e 0] 1)<|zi (.un .not (.e 3)) []) (zs 0<|zn 1<|zs 4 [])<|
 .cond 2 (zq (zi (.cs .v (.n (-1))) []) (zn 1<|zs 3<|zn 1 [])<|
 .ret) .skip)<|
 zq (zp 1<|zi (.sn (.e 0))<|zi (.bi .sub (.e 3) (.c (.n 1)))<|zi (.bi .quo (.e 4) (.c (.n 3)))<|zp 1 []) (zn 1<|zs 5<|zn 1 [])<|
 .ret⟩
def ir_spec_l6End:IF:=⟨[],2,10,[2],zq (zi (.cs .v (.n 0)) []) (zs 0<|zs 1<|zn 8 [])<|
 .seq (zq (zp 2<|zi (.sn (.e 0))<|zi (.bi .geq (.e 1) (.e 10)) []) (zs 0<|zs 1<|zn 3<|zs 11<|zn 4 [])<|
 .cond 5 (zq (zi (.cs .v (.n (-1))) []) (zn 2<|zs 10<|zn 7 [])<|
 .ret) .skip)<|
 .seq (zq (zp 2<|zi (.sx (.e 0) (.e 1))<|zi (.bi .eql (.e 10) (.c (.y 46))) []) (zs 0<|zs 1<|zn 4<|zs 11<|zn 3 [])<|
 .cond 6 (zq (zp 1<|zi (.bi .add (.e 1) (.c (.n 1)))<|zp 1 []) (zn 2<|zs 10<|zn 7 [])<|
 .ret) .skip)<|
 .seq (zq (zp 2<|zi (.sx (.e 0) (.e 1))<|zi (.bi .neq (.e 10) (.c (.y 40))) []) (zs 0<|zs 1<|zn 5<|zs 11<|zn 2 [])<|
 .cond 7 (zq (zi (.cs .v (.n (-1))) []) (zn 2<|zs 10<|zn 7 [])<|
 .ret) .skip)<|
 zq (zp 2<|zi (.bi .add (.e 1) (.c (.n 1)))<|zi (.ca 188 [.e 0,.e 10] 1)<|zp 1 []) (zs 0<|zn 2<|zs 11<|zn 6 [])<|
 .seq (zq (zp 1<|zi (.bi .lss (.e 3) (.c (.n 0))) []) (zs 0<|zn 2<|zs 3<|zn 4<|zs 10<|zn 1 [])<|
 .cond 8 (zq (zi (.cs .v (.n (-1))) []) (zn 2<|zs 10<|zn 7 [])<|
 .ret) .skip)<|
 zq (zp 2<|zi (.ca 188 [.e 0,.e 3] 1)<|zp 1 []) (zs 0<|zn 3<|zs 10<|zn 5 [])<|
 .seq (zq (zp 1<|zi (.bi .lss (.e 4) (.c (.n 0)))<|zp 1<|zg [(10,false)] (.cy (.e 4))<|zg [(10,false)] (.cy (.e 0))<|zg [(10,false)] (.sn (.e 12))<|zg [(10,false)] (.bi .geq (.e 11) (.e 13))<|zi (.pk (.e 10) (.c (.b true)) (.e 14))<|zp 1<|zg [(15,false)] (.cy (.e 0))<|zg [(15,false)] (.cy (.e 4))<|zg [(15,false)] (.sx (.e 16) (.e 17))<|zg [(15,false)] (.bi .neq (.e 18) (.c (.y 41)))<|zi (.pk (.e 15) (.c (.b true)) (.e 19)) []) (zn 4<|zs 4<|zn 4<|zs 20 [])<|
 .cond 9 (zq (zi (.cs .v (.n (-1))) []) (zn 2<|zs 10<|zn 7 [])<|
 .ret) .skip)<|
 zq (zp 1<|zi (.bi .add (.e 4) (.c (.n 1)))<|zp 1 []) (zn 2<|zs 10<|zn 7 [])<|
 .ret⟩
end Go.Cat
namespace Go.Cat
end Go.Cat
namespace Go.Cat
end Go.Cat
namespace Go.Cat
def ir_impl_QuiddityOf:IF:=⟨[],2,16,[2],zq (zi (.cs (.o .v) (.l [])) []) (zs 0<|zs 1<|zn 14 [])<|
 .seq (zq (zp 1<|zi (.bi .lss (.e 0) (.c (.n 3)))<|zp 1<|zg [(16,false)] (.cy (.e 0))<|zg [(16,false)] .nop<|zg [(16,false)] (.ca 602 [.e 17,.e 1] 1)<|zg [(16,false)] (.un .not (.e 18))<|zi (.pk (.e 16) (.c (.b true)) (.e 19)) []) (zs 0<|zs 1<|zn 5<|zs 20<|zn 8 [])<|
 .cond 7 (zq (zi (.li (.o .v) [])<|zp 1 []) (zn 2<|zs 16<|zn 13 [])<|
 .ret) .skip)<|
 zq (zp 1<|zi (.mk (.n 0) (.e 0) (.e 0))<|zp 1 []) (zs 0<|zs 1<|zn 1<|zs 16<|zn 12 [])<|
 zq (zp 2<|zi (.ca 647 [.e 0,.e 1] 2)<|zp 5 []) (zn 3<|zs 3<|zs 16<|zn 11 [])<|
 .seq (zq (zp 1<|zi (.ln (.e 4) [])<|zi (.cs .v (.n 0)) []) (zn 3<|zs 3<|zn 4<|zs 4<|zs 16<|zs 17<|zn 5 [])<|
 .block 0<|.loop<|zq (zi (.bi .lss (.e 10) (.e 9)) []) (zn 3<|zs 3<|zn 4<|zs 8<|zs 9<|zs 10<|zs 16<|zn 4 [])<|
 .seq (.cond 11 .skip (.exit 0))<|
 .seq (.block 1<|zq (zi (.ix (.e 8) [] (.e 10))<|zp 2 []) (zn 3<|zs 3<|zn 1<|zs 16<|zn 2<|zs 8<|zs 9<|zs 10<|zn 5 [])<|
 zq (zp 1<|zi (.ln (.e 5) [])<|zi (.cs .v (.n 0)) []) (zn 3<|zs 3<|zn 4<|zs 8<|zs 9<|zs 10<|zn 1<|zs 5<|zs 16<|zs 17<|zn 1 [])<|
 .block 2<|.loop<|zq (zi (.bi .lss (.e 14) (.e 13)) []) (zn 3<|zs 3<|zn 4<|zs 8<|zs 9<|zs 10<|zn 1<|zs 12<|zs 13<|zs 14<|zs 16 [])<|
 .seq (.cond 15 .skip (.exit 2))<|
 .seq (.block 3<|zq (zi (.ix (.e 12) [] (.e 14))<|zp 2 []) (zn 3<|zs 3<|zn 2<|zs 16<|zn 1<|zs 8<|zs 9<|zs 10<|zn 1<|zs 12<|zs 13<|zs 14<|zn 1 [])<|
 .reg (zp 2<|zi (.ix (.e 3) [] (.e 6))<|zp 1<|zi (.bi .add (.e 16) (.c (.n 1)))<|zi (.ix (.e 3) [] (.e 6))<|zi (.up 3 [.e 6] (.e 17)) []) (zn 3<|zs 19<|zn 4<|zs 8<|zs 9<|zs 10<|zn 1<|zs 12<|zs 13<|zs 14<|zn 1 []))<|
 .reg (zi (.bi .add (.e 14) (.c (.n 1)))<|zp 1 []) (zn 3<|zs 3<|zn 4<|zs 8<|zs 9<|zs 10<|zn 1<|zs 12<|zs 13<|zs 16<|zn 1 []))<|
 .reg (zi (.bi .add (.e 10) (.c (.n 1)))<|zp 1 []) (zn 3<|zs 3<|zn 4<|zs 8<|zs 9<|zs 16<|zn 5 []))<|
 zq (zp 2 []) (zn 2<|zs 3<|zn 13 [])<|
 .ret⟩
end Go.Cat
namespace Go.Cat
def ir_spec_QuiddityOf:IF:=⟨[],2,13,[2],zq (zi (.cs (.o .v) (.l [])) []) (zs 0<|zs 1<|zn 11 [])<|
 zq (zi (.li (.o .v) [])<|zp 1 []) (zs 0<|zs 1<|zn 1<|zs 13<|zn 9 [])<|
 .seq (zq (zp 1<|zi (.bi .lss (.e 0) (.c (.n 3))) []) (zs 0<|zs 1<|zn 1<|zs 3<|zn 5<|zs 13<|zn 3 [])<|
 .cond 9 (zq (zp 2 []) (zn 2<|zs 3<|zn 10 [])<|
 .ret) .skip)<|
 zq (zp 2<|zi (.ca 645 [.e 0,.e 1] 2)<|zp 5 []) (zs 0<|zn 2<|zs 3<|zs 13<|zs 14<|zn 7 [])<|
 .seq (zq (zi (.cs .v (.n 0)) []) (zs 0<|zn 2<|zs 3<|zs 4<|zs 5<|zs 13<|zn 6 [])<|
 .block 0<|.loop<|.seq (zq (zp 2<|zi (.bi .lss (.e 6) (.e 0))<|zp 1<|zg [(13,true)] (.cy (.e 5))<|zi (.pk (.e 13) (.e 14) (.c (.b false))) []) (zs 0<|zn 2<|zs 3<|zs 4<|zs 5<|zs 6<|zn 3<|zs 15<|zn 2 [])<|
 .cond 10 .skip (.exit 0))<|
 .seq (.block 1<|zq (zi (.cs .v (.n 0)) []) (zs 0<|zn 2<|zs 3<|zs 4<|zs 5<|zs 6<|zs 13<|zn 5 [])<|
 .seq (zq (zi (.cs .v (.n 0)) []) (zs 0<|zn 2<|zs 3<|zs 4<|zs 5<|zs 6<|zs 7<|zs 13<|zn 4 [])<|
 .block 2<|.loop<|.seq (zq (zp 2<|zi (.ln (.e 4) [])<|zi (.bi .lss (.e 8) (.e 13)) []) (zs 0<|zn 2<|zs 3<|zs 4<|zs 5<|zs 6<|zs 7<|zs 8<|zn 2<|zs 14<|zn 1 [])<|
 .cond 11 .skip (.exit 2))<|
 .seq (.block 3<|zq (zp 2<|zi (.ix (.e 4) [] (.e 8))<|zp 1<|zi (.ix (.e 13) [] (.c (.n 0)))<|zp 2<|zi (.bi .eql (.e 14) (.e 6))<|zp 1<|zg [(15,false)] (.cy (.e 4))<|zg [(15,false)] (.cy (.e 8))<|zg [(15,false)] (.ix (.e 16) [] (.e 17))<|zg [(15,false)] .nop<|zg [(15,false)] (.ix (.e 18) [] (.c (.n 1)))<|zg [(15,false)] .nop<|zg [(15,false)] (.cy (.e 6))<|zg [(15,false)] (.bi .eql (.e 19) (.e 20))<|zi (.pk (.e 15) (.c (.b true)) (.e 21))<|zp 1<|zg [(22,false)] (.cy (.e 4))<|zg [(22,false)] (.cy (.e 8))<|zg [(22,false)] (.ix (.e 23) [] (.e 24))<|zg [(22,false)] .nop<|zg [(22,false)] (.ix (.e 25) [] (.c (.n 2)))<|zg [(22,false)] .nop<|zg [(22,false)] (.cy (.e 6))<|zg [(22,false)] (.bi .eql (.e 26) (.e 27))<|zi (.pk (.e 22) (.c (.b true)) (.e 28)) []) (zs 0<|zn 2<|zs 3<|zs 4<|zs 5<|zs 6<|zs 7<|zs 8<|zn 3<|zs 29 [])<|
 .cond 12 (.reg (zp 1<|zi (.bi .add (.e 7) (.c (.n 1)))<|zp 1 []) (zs 0<|zn 2<|zs 3<|zs 4<|zs 5<|zs 6<|zs 13<|zs 8<|zn 4 [])) .skip)<|
 .reg (zp 1<|zi (.bi .add (.e 8) (.c (.n 1)))<|zp 1 []) (zs 0<|zn 2<|zs 3<|zs 4<|zs 5<|zs 6<|zs 7<|zs 13<|zn 4 []))<|
 .reg (zp 2<|zi (.li (.o .v) [.e 7])<|zi (.ap false (.e 3) (.e 13))<|zp 1 []) (zs 0<|zn 2<|zs 14<|zs 4<|zs 5<|zs 6<|zn 6 []))<|
 .reg (zp 1<|zi (.bi .add (.e 6) (.c (.n 1)))<|zp 1 []) (zs 0<|zn 2<|zs 3<|zs 4<|zs 5<|zs 13<|zn 6 []))<|
 zq (zp 2 []) (zn 2<|zs 3<|zn 10 [])<|
 .ret⟩
end Go.Cat
namespace Go.Cat
def ir_impl_NeighboursOf:IF:=⟨[],1,2,[1],zq (zi (.cs (.o .v) (.l [])) []) (zs 0<|zn 1 [])<|
 zq (zp 1<|zi (.ca 201 [.e 0,.c (.f 200 [])] 1)<|zp 1<|zi (.ca 201 [.e 0,.c (.f 202 [])] 1)<|zi (.ap false (.e 2) (.e 3))<|zp 1 []) (zn 1<|zs 4 [])<|
 .ret⟩
def ir_impl_WeightsOf:IF:=⟨[],1,3,[1],zq (zi (.cs (.o .v) (.l [])) []) (zs 0<|zn 2 [])<|
 zq (zp 1<|zi (.ca 194 [.e 0] 2)<|zp 5 []) (zn 2<|zs 3 [])<|
 zq (zp 1<|zi (.li (.o .v) [])<|zi (.ca 199 [.e 2,.e 3] 1)<|zp 1 []) (zn 1<|zs 4<|zn 1 [])<|
 .ret⟩
def ir_impl_node:IF:=⟨[],2,7,[2,3],zq (zi (.cs .v .z)<|zi (.cs .v .z) []) (zs 0<|zs 1<|zn 5 [])<|
 zq (zp 1<|zi (.ca 194 [.e 0] 2)<|zp 5 []) (zn 1<|zs 1<|zn 2<|zs 7<|zs 8<|zn 1 [])<|
 .seq (zq (zp 1<|zi (.un .not (.e 5)) []) (zn 1<|zs 1<|zn 2<|zs 4<|zn 1<|zs 7 [])<|
 .cond 6 (zq (zi (.cs .v .z)<|zi (.cs .v .z) []) (zn 2<|zs 7<|zs 8<|zn 3 [])<|
 .ret) .skip)<|
 zq (zp 3<|zi (.ca 213 [.e 4,.e 1] 1)<|zp 2 []) (zn 2<|zs 4<|zs 7<|zn 3 [])<|
 .ret⟩
def ir_impl_rotations:IF:=⟨[],2,9,[2],zq (zi (.cs (.o .v) (.l [])) []) (zs 0<|zs 1<|zn 7 [])<|
 zq (zi (.li (.o .v) [])<|zp 1 []) (zs 0<|zs 1<|zn 1<|zs 9<|zn 5 [])<|
 .seq (zq (zi (.cs .v (.n 0)) []) (zs 0<|zs 1<|zn 1<|zs 3<|zs 9<|zn 4 [])<|
 .block 0<|.loop<|.seq (zq (zp 2<|zi (.ca 169 [.e 0] 1)<|zi (.bi .lss (.e 4) (.e 9)) []) (zs 0<|zs 1<|zn 1<|zs 3<|zs 4<|zn 2<|zs 10<|zn 1 [])<|
 .cond 7 .skip (.exit 0))<|
 .seq (.block 1<|zq (zp 3<|zi (.cd (.e 1) 200 [.e 0,.e 4] 2)<|zp 5 []) (zs 0<|zs 1<|zn 1<|zs 3<|zs 4<|zs 9<|zs 10<|zn 2 [])<|
 zq (zp 1 []) (zs 0<|zs 1<|zn 1<|zs 3<|zs 4<|zs 5<|zn 2<|zs 6 [])<|
 .cond 8 (.reg (zp 2<|zi (.li (.o .v) [.e 5])<|zi (.ap false (.e 3) (.e 9))<|zp 1 []) (zs 0<|zs 1<|zn 1<|zs 10<|zs 4<|zn 4 [])) .skip)<|
 .reg (zp 1<|zi (.bi .add (.e 4) (.c (.n 1)))<|zp 1 []) (zs 0<|zs 1<|zn 1<|zs 3<|zs 9<|zn 4 []))<|
 zq (zp 2 []) (zn 2<|zs 3<|zn 6 [])<|
 .ret⟩
def ir_impl_rotations_w202:IF:=⟨[],2,9,[2],zq (zi (.cs (.o .v) (.l [])) []) (zs 0<|zs 1<|zn 7 [])<|
 zq (zi (.li (.o .v) [])<|zp 1 []) (zs 0<|zs 1<|zn 1<|zs 9<|zn 5 [])<|
 .seq (zq (zi (.cs .v (.n 0)) []) (zs 0<|zs 1<|zn 1<|zs 3<|zs 9<|zn 4 [])<|
 .block 0<|.loop<|.seq (zq (zp 2<|zi (.ca 169 [.e 0] 1)<|zi (.bi .lss (.e 4) (.e 9)) []) (zs 0<|zs 1<|zn 1<|zs 3<|zs 4<|zn 2<|zs 10<|zn 1 [])<|
 .cond 7 .skip (.exit 0))<|
 .seq (.block 1<|zq (zp 3<|zi (.cd (.e 1) 202 [.e 0,.e 4] 2)<|zp 5 []) (zs 0<|zs 1<|zn 1<|zs 3<|zs 4<|zs 9<|zs 10<|zn 2 [])<|
 zq (zp 1 []) (zs 0<|zs 1<|zn 1<|zs 3<|zs 4<|zs 5<|zn 2<|zs 6 [])<|
 .cond 8 (.reg (zp 2<|zi (.li (.o .v) [.e 5])<|zi (.ap false (.e 3) (.e 9))<|zp 1 []) (zs 0<|zs 1<|zn 1<|zs 10<|zs 4<|zn 4 [])) .skip)<|
 .reg (zp 1<|zi (.bi .add (.e 4) (.c (.n 1)))<|zp 1 []) (zs 0<|zs 1<|zn 1<|zs 3<|zs 9<|zn 4 []))<|
 zq (zp 2 []) (zn 2<|zs 3<|zn 6 [])<|
 .ret⟩
end Go.Cat
namespace Go.Cat
def ir_impl_IsTamariLess:IF:=⟨[],2,11,[2],zq (zi (.cs .v (.b false)) []) (zs 0<|zs 1<|zn 9 [])<|
 .seq (zq (zp 2<|zi (.ca 367 [.e 0,.e 1,.c (.n 8)] 1)<|zi (.un .not (.e 11)) []) (zs 0<|zs 1<|zn 4<|zs 12<|zn 4 [])<|
 .cond 6 (zq (zi (.cs .v (.b false)) []) (zn 2<|zs 11<|zn 8 [])<|
 .ret) .skip)<|
 zq (zp 1<|zi (.ca 171 [.e 0] 1)<|zp 1<|zi (.ca 171 [.e 1] 1)<|zp 2 []) (zn 3<|zs 11<|zs 12<|zn 6 [])<|
 .seq (zq (zp 1<|zi (.ln (.e 3) [])<|zi (.cs .v (.n 0)) []) (zn 3<|zs 3<|zs 4<|zn 2<|zs 11<|zs 12<|zn 2 [])<|
 .block 0<|.loop<|zq (zi (.bi .lss (.e 8) (.e 7)) []) (zn 3<|zs 3<|zs 4<|zn 2<|zs 7<|zs 8<|zs 11<|zn 1 [])<|
 .seq (.cond 9 .skip (.exit 0))<|
 .seq (.block 1<|zq (zp 2 []) (zn 3<|zs 3<|zs 4<|zs 8<|zn 1<|zs 7<|zs 8<|zn 2 [])<|
 zq (zp 2<|zi (.ix (.e 3) [] (.e 5))<|zp 3<|zi (.ix (.e 4) [] (.e 5))<|zp 1<|zi (.bi .gtr (.e 11) (.e 12)) []) (zn 3<|zs 3<|zs 4<|zn 2<|zs 7<|zs 8<|zn 1<|zs 13 [])<|
 .cond 10 (zq (zi (.cs .v (.b false)) []) (zn 2<|zs 11<|zn 8 [])<|
 .ret) .skip)<|
 .reg (zi (.bi .add (.e 8) (.c (.n 1)))<|zp 1 []) (zn 3<|zs 3<|zs 4<|zn 2<|zs 7<|zs 11<|zn 2 []))<|
 zq (zi (.cs .v (.b true)) []) (zn 2<|zs 11<|zn 8 [])<|
 .ret⟩
def ir_impl_alike:IF:=⟨[],3,5,[3],zq (zi (.cs .v (.b false)) []) (zs 0<|zs 1<|zs 2<|zn 2 [])<|
 zq (zp 1<|zi (.ca 169 [.e 0] 1)<|zp 1 []) (zn 1<|zs 1<|zs 2<|zn 1<|zs 5 [])<|
 zq (zp 1<|zi (.bi .geq (.e 4) (.c (.n 0)))<|zp 1<|zg [(5,true)] (.cy (.e 4))<|zg [(5,true)] (.cy (.e 2))<|zg [(5,true)] (.bi .leq (.e 6) (.e 7))<|zi (.pk (.e 5) (.e 8) (.c (.b false)))<|zp 1<|zg [(9,true)] (.cy (.e 4))<|zg [(9,true)] (.cy (.e 1))<|zg [(9,true)] (.ca 169 [.e 11] 1)<|zg [(9,true)] (.bi .eql (.e 10) (.e 12))<|zi (.pk (.e 9) (.e 13) (.c (.b false)))<|zp 1 []) (zn 3<|zs 14<|zn 1 [])<|
 .ret⟩
end Go.Cat
namespace Go.Cat
def ir_impl_IsRotationWay:IF:=⟨[],1,6,[1],zq (zi (.cs .v (.b false)) []) (zs 0<|zn 5 [])<|
 .seq (zq (zp 1<|zi (.ln (.e 0) [])<|zi (.ca 23 [.e 6,.c (.n 1),.c (.n 40)] 1)<|zi (.un .not (.e 7))<|zp 1<|zg [(8,false)] .nop<|zg [(8,false)] (.iy (.e 0) (.c (.n 0)))<|zg [(8,false)] .nop<|zg [(8,false)] (.ca 167 [.e 9] 1)<|zg [(8,false)] (.un .not (.e 10))<|zi (.pk (.e 8) (.c (.b true)) (.e 11)) []) (zs 0<|zn 2<|zs 12<|zn 2 [])<|
 .cond 3 (zq (zi (.cs .v (.b false)) []) (zn 1<|zs 6<|zn 4 [])<|
 .ret) .skip)<|
 .seq (zq (zi (.cs .v (.n 1)) []) (zs 0<|zn 1<|zs 6<|zn 3 [])<|
 .block 0<|.loop<|.seq (zq (zp 2<|zi (.ln (.e 0) [])<|zi (.bi .lss (.e 2) (.e 6)) []) (zs 0<|zn 1<|zs 2<|zn 1<|zs 7<|zn 1 [])<|
 .cond 4 .skip (.exit 0))<|
 .seq (.block 1<|zq (zp 2<|zi (.bi .sub (.e 2) (.c (.n 1)))<|zi (.iy (.e 0) (.e 6))<|zp 1<|zi (.ca 173 [.e 7] 1)<|zp 2<|zi (.iy (.e 0) (.e 2))<|zp 1<|zi (.ca 651 [.e 8,.e 9] 1)<|zi (.un .not (.e 10)) []) (zs 0<|zn 1<|zs 2<|zn 2<|zs 11 [])<|
 .cond 5 (zq (zi (.cs .v (.b false)) []) (zn 1<|zs 6<|zn 4 [])<|
 .ret) .skip)<|
 .reg (zp 1<|zi (.bi .add (.e 2) (.c (.n 1)))<|zp 1 []) (zs 0<|zn 1<|zs 6<|zn 3 []))<|
 zq (zi (.cs .v (.b true)) []) (zn 1<|zs 6<|zn 4 [])<|
 .ret⟩
def ir_impl_RotationDistance:IF:=⟨[],2,6,[2],zq (zi (.cs .v (.n 0)) []) (zs 0<|zs 1<|zn 4 [])<|
 zq (zp 2<|zi (.ca 348 [.e 0,.e 1] 2)<|zp 5 []) (zn 3<|zs 6<|zs 7<|zn 1 [])<|
 .seq (zq (zp 1<|zi (.un .not (.e 4)) []) (zn 3<|zs 3<|zn 1<|zs 6 [])<|
 .cond 5 (zq (zi (.cs .v (.n (-1))) []) (zn 2<|zs 6<|zn 3 [])<|
 .ret) .skip)<|
 zq (zp 1<|zi (.ln (.e 3) [])<|zi (.bi .sub (.e 6) (.c (.n 1)))<|zp 1 []) (zn 2<|zs 7<|zn 3 [])<|
 .ret⟩
def ir_impl_RotationWay:IF:=⟨[],2,21,[2,3],zq (zi (.cs (.o .v) (.l []))<|zi (.cs .v (.b false)) []) (zs 0<|zs 1<|zn 19 [])<|
 .seq (zq (zp 2<|zi (.ca 367 [.e 0,.e 1,.c (.n 5)] 1)<|zi (.un .not (.e 21)) []) (zs 0<|zs 1<|zn 10<|zs 22<|zn 8 [])<|
 .cond 12 (zq (zi (.li (.o .v) [])<|zp 1<|zi (.cs .v (.b false)) []) (zn 2<|zs 21<|zs 22<|zn 17 [])<|
 .ret) .skip)<|
 zq (zi .mm<|zp 1<|zi (.mu 21 (.e 0) (.c (.s [])))<|zp 2 []) (zs 0<|zs 1<|zn 2<|zs 22<|zn 16 [])<|
 zq (zp 1<|zi (.li (.o .v) [.e 0])<|zp 1 []) (zn 1<|zs 1<|zn 2<|zs 4<|zs 21<|zn 15 [])<|
 .seq (zq (zi (.cs .v (.n 0)) []) (zn 1<|zs 1<|zn 2<|zs 4<|zs 5<|zs 21<|zn 14 [])<|
 .block 0<|.loop<|.seq (zq (zp 2<|zi (.ln (.e 5) [])<|zi (.bi .lss (.e 6) (.e 21)) []) (zn 1<|zs 1<|zn 2<|zs 4<|zs 5<|zs 6<|zn 6<|zs 22<|zn 7 [])<|
 .cond 13 .skip (.exit 0))<|
 .seq (.block 1<|.seq (zq (zp 2<|zi (.mo 4 (.e 1) (.s []))<|zp 5 []) (zn 1<|zs 1<|zn 2<|zs 4<|zs 5<|zs 6<|zs 22<|zn 13 [])<|
 zq (zp 1 []) (zn 1<|zs 1<|zn 2<|zs 4<|zs 5<|zs 6<|zn 7<|zs 7<|zn 6 [])<|
 .cond 14 (.exit 0) .skip)<|
 zq (zp 2<|zi (.ix (.e 5) [] (.e 6))<|zp 1<|zi (.ca 173 [.e 21] 1)<|zi (.ln (.e 22) [])<|zi (.cs .v (.n 0)) []) (zn 1<|zs 1<|zn 2<|zs 4<|zs 5<|zs 6<|zn 8<|zs 22<|zs 23<|zs 24<|zn 3 [])<|
 .block 2<|.loop<|zq (zi (.bi .lss (.e 17) (.e 16)) []) (zn 1<|zs 1<|zn 2<|zs 4<|zs 5<|zs 6<|zn 8<|zs 15<|zs 16<|zs 17<|zs 21<|zn 2 [])<|
 .seq (.cond 18 .skip (.exit 2))<|
 .seq (.block 3<|zq (zi (.ix (.e 15) [] (.e 17))<|zp 2 []) (zn 1<|zs 1<|zn 2<|zs 4<|zs 5<|zs 6<|zn 1<|zs 21<|zn 6<|zs 15<|zs 16<|zs 17<|zn 3 [])<|
 zq (zp 2<|zi (.mo 4 (.e 8) (.s []))<|zp 5 []) (zn 1<|zs 1<|zn 2<|zs 4<|zs 5<|zs 6<|zn 1<|zs 8<|zs 22<|zn 5<|zs 15<|zs 16<|zs 17<|zn 3 [])<|
 zq (zp 1<|zi (.un .not (.e 9)) []) (zn 1<|zs 1<|zn 2<|zs 4<|zs 5<|zs 6<|zn 1<|zs 8<|zn 6<|zs 15<|zs 16<|zs 17<|zn 1<|zs 21<|zn 1 [])<|
 .cond 19 (zq (zp 4<|zi (.ix (.e 5) [] (.e 6))<|zp 1<|zi (.mu 4 (.e 8) (.e 21)) []) (zn 1<|zs 1<|zn 2<|zs 22<|zs 5<|zs 6<|zn 1<|zs 8<|zn 6<|zs 15<|zs 16<|zs 17<|zn 3 [])<|
 .reg (zp 2<|zi (.li (.o .v) [.e 8])<|zi (.ap false (.e 5) (.e 21))<|zp 1 []) (zn 1<|zs 1<|zn 2<|zs 4<|zs 22<|zs 6<|zn 8<|zs 15<|zs 16<|zs 17<|zn 3 [])) .skip)<|
 .reg (zi (.bi .add (.e 17) (.c (.n 1)))<|zp 1 []) (zn 1<|zs 1<|zn 2<|zs 4<|zs 5<|zs 6<|zn 8<|zs 15<|zs 16<|zs 21<|zn 3 []))<|
 .reg (zp 1<|zi (.bi .add (.e 6) (.c (.n 1)))<|zp 1 []) (zn 1<|zs 1<|zn 2<|zs 4<|zs 5<|zs 21<|zn 14 []))<|
 zq (zi (.li (.o .v) [])<|zp 1 []) (zn 1<|zs 1<|zn 2<|zs 4<|zn 5<|zs 21<|zn 10 [])<|
 .seq (zq (zp 2 []) (zn 4<|zs 4<|zn 5<|zs 10<|zs 1<|zn 9 [])<|
 .block 4<|.loop<|.seq (zq (zp 1<|zi (.bi .neq (.e 11) (.c (.s []))) []) (zn 4<|zs 4<|zn 5<|zs 10<|zs 11<|zn 8<|zs 21 [])<|
 .cond 20 .skip (.exit 4))<|
 .seq (.block 5<|.reg (zp 2<|zi (.li (.o .v) [.e 11])<|zi (.ap false (.e 10) (.e 21))<|zp 1 []) (zn 4<|zs 4<|zn 5<|zs 22<|zs 11<|zn 9 []))<|
 .reg (zp 2<|zi (.mg 4 (.e 11) (.s []))<|zp 1 []) (zn 4<|zs 4<|zn 5<|zs 10<|zs 21<|zn 9 []))<|
 zq (zp 1<|zi (.ca 368 [.e 10] 1) []) (zn 10<|zs 21<|zn 10 [])<|
 zq (zp 2<|zi (.cs .v (.b true)) []) (zn 2<|zs 10<|zs 21<|zn 17 [])<|
 .ret⟩
end Go.Cat
namespace Go.Cat
def ir_laws_FnExactCheckClaim:IF:=⟨[],1,10,[2],zq (zi (.bp (.e 0))<|zi (.cs .v (.b false)) []) (zn 1<|zs 10<|zn 8 [])<|
 zq (zi (.cs .v (.n 1048576)) []) (zn 1<|zs 1<|zn 1<|zs 10<|zn 6 [])<|
 zq (zi (.gp (.e 1) 7)<|zp 1<|zi (.ca 115 [.e 10,.e 3] 1)<|zp 1 []) (zn 1<|zs 1<|zn 1<|zs 11<|zn 6 [])<|
 .seq (zq (zp 1<|zi (.bi .lss (.e 3) (.c (.n 0))) []) (zn 1<|zs 1<|zn 5<|zs 10<|zn 2 [])<|
 .cond 7 (zq (zi (.cs .v (.b true)) []) (zn 2<|zs 10<|zn 7 [])<|
 .ret) .skip)<|
 zq (zi (.gp (.e 1) 7)<|zi (.ca 117 [.e 10] 1)<|zi (.ca 625 [.e 11] 1)<|zp 1 []) (zn 1<|zs 1<|zn 2<|zs 12<|zn 5 [])<|
 zq (zi (.gp (.e 1) 7)<|zi (.ca 117 [.e 10] 1)<|zi (.cs (.b (.o (.o (.o .v)))) (.g [.n 0,.s [],.s [],.l [],.l [],.l [],.l []]))<|zi (.ws 12 7 (.e 11)) []) (zn 1<|zs 1<|zn 2<|zs 4<|zs 13<|zn 4 [])<|
 zq (zi (.wl 7 (.e 5))<|zi (.ca 626 [.e 10] 1)<|zp 1 []) (zn 1<|zs 1<|zn 2<|zs 4<|zs 5<|zs 11<|zn 3 [])<|
 .seq (zq (zp 2<|zi (.bb .neq (.e 6) (.e 4)) []) (zn 1<|zs 1<|zn 3<|zs 5<|zn 2<|zs 10<|zn 1 [])<|
 .cond 8 (zq (zi (.cs .v (.b false)) []) (zn 2<|zs 10<|zn 7 [])<|
 .ret) .skip)<|
 .seq (zq (zi (.wl 7 (.e 5))<|zi (.gp (.e 1) 7)<|zi (.ca 117 [.e 11] 1)<|zi (.ca 119 [.e 10,.e 12] 1)<|zi (.un .not (.e 13)) []) (zn 9<|zs 14 [])<|
 .cond 9 (zq (zi (.cs .v (.b false)) []) (zn 2<|zs 10<|zn 7 [])<|
 .ret) .skip)<|
 zq (zi (.cs .v (.b true)) []) (zn 2<|zs 10<|zn 7 [])<|
 .ret⟩
end Go.Cat
namespace Go.Cat
def ir_spec_l15Has:IF:=⟨[],2,6,[2],zq (zi (.cs .v (.b false)) []) (zs 0<|zs 1<|zn 4 [])<|
 .seq (zq (zi (.cs .v (.n 0)) []) (zs 0<|zs 1<|zn 1<|zs 6<|zn 2 [])<|
 .block 0<|.loop<|.seq (zq (zp 2<|zi (.ln (.e 0) [])<|zi (.bi .lss (.e 3) (.e 6)) []) (zs 0<|zs 1<|zn 1<|zs 3<|zs 7<|zn 1 [])<|
 .cond 4 .skip (.exit 0))<|
 .seq (.block 1<|zq (zp 2<|zi (.iy (.e 0) (.e 3))<|zp 2<|zi (.bi .eql (.e 6) (.e 1)) []) (zs 0<|zs 1<|zn 1<|zs 3<|zn 1<|zs 7 [])<|
 .cond 5 (zq (zi (.cs .v (.b true)) []) (zn 2<|zs 6<|zn 3 [])<|
 .ret) .skip)<|
 .reg (zp 1<|zi (.bi .add (.e 3) (.c (.n 1)))<|zp 1 []) (zs 0<|zs 1<|zn 1<|zs 6<|zn 2 []))<|
 zq (zi (.cs .v (.b false)) []) (zn 2<|zs 6<|zn 3 [])<|
 .ret⟩
end Go.Cat
namespace Go.Cat
def ir_spec_NeighboursOf:IF:=⟨[],1,13,[1],zq (zi (.cs (.o .v) (.l [])) []) (zs 0<|zn 12 [])<|
 zq (zi (.li (.o .v) [])<|zp 1 []) (zs 0<|zn 1<|zs 13<|zn 10 [])<|
 .seq (zq (zi (.cs .v (.n 0)) []) (zs 0<|zn 1<|zs 2<|zs 13<|zn 9 [])<|
 .block 0<|.loop<|.seq (zq (zp 2<|zi (.ca 162 [.e 0] 1)<|zi (.bi .lss (.e 3) (.e 13)) []) (zs 0<|zn 1<|zs 2<|zs 3<|zn 5<|zs 14<|zn 3 [])<|
 .cond 9 .skip (.exit 0))<|
 .seq (.block 1<|zq (zp 2<|zi (.ca 192 [.e 0,.e 3] 2)<|zp 5 []) (zs 0<|zn 1<|zs 2<|zs 3<|zs 13<|zs 14<|zn 7 [])<|
 zq (zp 1 []) (zs 0<|zn 1<|zs 2<|zs 3<|zs 4<|zn 5<|zs 5<|zn 2 [])<|
 .cond 10 (.reg (zp 2<|zi (.li (.o .v) [.e 4])<|zi (.ap false (.e 2) (.e 13))<|zp 1 []) (zs 0<|zn 1<|zs 14<|zs 3<|zn 9 [])) .skip)<|
 .reg (zp 1<|zi (.bi .add (.e 3) (.c (.n 1)))<|zp 1 []) (zs 0<|zn 1<|zs 2<|zs 13<|zn 9 []))<|
 .seq (zq (zi (.cs .v (.n 0)) []) (zs 0<|zn 1<|zs 2<|zn 3<|zs 13<|zn 6 [])<|
 .block 2<|.loop<|.seq (zq (zp 2<|zi (.ca 162 [.e 0] 1)<|zi (.bi .lss (.e 6) (.e 13)) []) (zs 0<|zn 1<|zs 2<|zn 3<|zs 6<|zn 4<|zs 14<|zn 1 [])<|
 .cond 11 .skip (.exit 2))<|
 .seq (.block 3<|zq (zp 2<|zi (.ca 193 [.e 0,.e 6] 2)<|zp 5 []) (zs 0<|zn 1<|zs 2<|zn 3<|zs 6<|zs 13<|zs 14<|zn 4 [])<|
 zq (zp 1 []) (zs 0<|zn 1<|zs 2<|zn 3<|zs 6<|zs 7<|zn 4<|zs 8 [])<|
 .cond 12 (.reg (zp 2<|zi (.li (.o .v) [.e 7])<|zi (.ap false (.e 2) (.e 13))<|zp 1 []) (zs 0<|zn 1<|zs 14<|zn 3<|zs 6<|zn 6 [])) .skip)<|
 .reg (zp 1<|zi (.bi .add (.e 6) (.c (.n 1)))<|zp 1 []) (zs 0<|zn 1<|zs 2<|zn 3<|zs 13<|zn 6 []))<|
 zq (zp 2 []) (zn 1<|zs 2<|zn 11 [])<|
 .ret⟩
def ir_spec_RotateLeft:IF:=⟨[],2,11,[2,3],zq (zi (.cs .v (.s []))<|zi (.cs .v (.b false)) []) (zs 0<|zs 1<|zn 9 [])<|
 .seq (zq (zp 2<|zi (.ca 162 [.e 0] 1)<|zi (.bi .sub (.e 11) (.c (.n 1)))<|zi (.ca 22 [.e 1,.c (.n 0),.e 12] 1)<|zi (.un .not (.e 13)) []) (zs 0<|zs 1<|zn 7<|zs 14<|zn 1 [])<|
 .cond 9 (zq (zi (.cs .v (.s []))<|zi (.cs .v (.b false)) []) (zn 2<|zs 11<|zs 12<|zn 7 [])<|
 .ret) .skip)<|
 zq (zp 2<|zi (.ca 191 [.e 0,.e 1] 1)<|zp 1 []) (zs 0<|zs 1<|zn 2<|zs 11<|zn 6 [])<|
 zq (zp 1<|zi (.ca 188 [.e 4,.c (.n 1)] 1)<|zp 1 []) (zs 0<|zs 1<|zn 2<|zs 4<|zs 11<|zn 5 [])<|
 zq (zp 3<|zi (.sn (.e 4))<|zi (.bi .sub (.e 11) (.c (.n 1)))<|zi (.ss (.e 4) (some (.e 5)) (some (.e 12)))<|zp 1 []) (zs 0<|zs 1<|zn 2<|zs 4<|zs 5<|zs 13<|zn 4 [])<|
 .seq (zq (zp 1<|zi (.bi .eql (.e 6) (.c (.s [46]))) []) (zs 0<|zs 1<|zn 2<|zs 4<|zs 5<|zs 6<|zn 3<|zs 11 [])<|
 .cond 10 (zq (zi (.cs .v (.s []))<|zi (.cs .v (.b false)) []) (zn 2<|zs 11<|zs 12<|zn 7 [])<|
 .ret) .skip)<|
 zq (zp 1<|zi (.ca 188 [.e 6,.c (.n 1)] 1)<|zp 1 []) (zs 0<|zs 1<|zn 2<|zs 4<|zs 5<|zs 6<|zs 11<|zn 3 [])<|
 zq (zp 2<|zi (.ss (.e 4) (some (.c (.n 1))) (some (.e 5)))<|zi (.bi .add (.c (.s [40,40])) (.e 11))<|zp 2<|zi (.ss (.e 6) (some (.c (.n 1))) (some (.e 7)))<|zi (.bi .add (.e 12) (.e 13))<|zi (.bi .add (.e 14) (.c (.s [41])))<|zp 3<|zi (.sn (.e 6))<|zi (.bi .sub (.e 16) (.c (.n 1)))<|zi (.ss (.e 6) (some (.e 7)) (some (.e 17)))<|zi (.bi .add (.e 15) (.e 18))<|zi (.bi .add (.e 19) (.c (.s [41])))<|zp 1 []) (zs 0<|zs 1<|zn 6<|zs 20<|zn 2 [])<|
 zq (zp 3<|zi (.ca 207 [.e 0,.e 1,.e 8] 1)<|zp 1<|zi (.cs .v (.b true)) []) (zn 2<|zs 11<|zs 12<|zn 7 [])<|
 .ret⟩
def ir_spec_RotateRight:IF:=⟨[],2,11,[2,3],zq (zi (.cs .v (.s []))<|zi (.cs .v (.b false)) []) (zs 0<|zs 1<|zn 9 [])<|
 .seq (zq (zp 2<|zi (.ca 162 [.e 0] 1)<|zi (.bi .sub (.e 11) (.c (.n 1)))<|zi (.ca 22 [.e 1,.c (.n 0),.e 12] 1)<|zi (.un .not (.e 13)) []) (zs 0<|zs 1<|zn 7<|zs 14<|zn 1 [])<|
 .cond 9 (zq (zi (.cs .v (.s []))<|zi (.cs .v (.b false)) []) (zn 2<|zs 11<|zs 12<|zn 7 [])<|
 .ret) .skip)<|
 zq (zp 2<|zi (.ca 191 [.e 0,.e 1] 1)<|zp 1 []) (zs 0<|zs 1<|zn 2<|zs 11<|zn 6 [])<|
 zq (zp 1<|zi (.ca 188 [.e 4,.c (.n 1)] 1)<|zp 1 []) (zs 0<|zs 1<|zn 2<|zs 4<|zs 11<|zn 5 [])<|
 zq (zp 2<|zi (.ss (.e 4) (some (.c (.n 1))) (some (.e 5)))<|zp 1 []) (zs 0<|zs 1<|zn 2<|zs 4<|zs 5<|zs 11<|zn 4 [])<|
 .seq (zq (zp 1<|zi (.bi .eql (.e 6) (.c (.s [46]))) []) (zs 0<|zs 1<|zn 2<|zs 4<|zs 5<|zs 6<|zn 3<|zs 11 [])<|
 .cond 10 (zq (zi (.cs .v (.s []))<|zi (.cs .v (.b false)) []) (zn 2<|zs 11<|zs 12<|zn 7 [])<|
 .ret) .skip)<|
 zq (zp 1<|zi (.ca 188 [.e 6,.c (.n 1)] 1)<|zp 1 []) (zs 0<|zs 1<|zn 2<|zs 4<|zs 5<|zs 6<|zs 11<|zn 3 [])<|
 zq (zp 2<|zi (.ss (.e 6) (some (.c (.n 1))) (some (.e 7)))<|zi (.bi .add (.c (.s [40])) (.e 11))<|zi (.bi .add (.e 12) (.c (.s [40])))<|zp 3<|zi (.sn (.e 6))<|zi (.bi .sub (.e 14) (.c (.n 1)))<|zi (.ss (.e 6) (some (.e 7)) (some (.e 15)))<|zi (.bi .add (.e 13) (.e 16))<|zp 3<|zi (.sn (.e 4))<|zi (.bi .sub (.e 18) (.c (.n 1)))<|zi (.ss (.e 4) (some (.e 5)) (some (.e 19)))<|zi (.bi .add (.e 17) (.e 20))<|zi (.bi .add (.e 21) (.c (.s [41,41])))<|zp 1 []) (zs 0<|zs 1<|zn 6<|zs 22<|zn 2 [])<|
 zq (zp 3<|zi (.ca 207 [.e 0,.e 1,.e 8] 1)<|zp 1<|zi (.cs .v (.b true)) []) (zn 2<|zs 11<|zs 12<|zn 7 [])<|
 .ret⟩
def ir_spec_WeightsOf:IF:=⟨[],1,7,[1],zq (zi (.cs (.o .v) (.l [])) []) (zs 0<|zn 6 [])<|
 zq (zi (.li (.o .v) [])<|zp 1 []) (zs 0<|zn 1<|zs 7<|zn 4 [])<|
 .seq (zq (zi (.cs .v (.n 0)) []) (zs 0<|zn 1<|zs 2<|zs 7<|zn 3 [])<|
 .block 0<|.loop<|.seq (zq (zp 2<|zi (.ca 162 [.e 0] 1)<|zi (.bi .lss (.e 3) (.e 7)) []) (zs 0<|zn 1<|zs 2<|zs 3<|zn 2<|zs 8 [])<|
 .cond 6 .skip (.exit 0))<|
 .seq (.block 1<|zq (zp 2<|zi (.ca 191 [.e 0,.e 3] 1)<|zp 1 []) (zs 0<|zn 1<|zs 2<|zs 3<|zs 7<|zn 2 [])<|
 zq (zp 1<|zi (.ca 188 [.e 4,.c (.n 1)] 1)<|zp 1 []) (zs 0<|zn 1<|zs 2<|zs 3<|zs 4<|zs 7<|zn 1 [])<|
 .reg (zp 2<|zi (.sn (.e 4))<|zi (.bi .sub (.e 7) (.c (.n 1)))<|zp 1<|zi (.bi .sub (.e 8) (.e 5))<|zi (.bi .sub (.e 9) (.c (.n 1)))<|zi (.bi .quo (.e 10) (.c (.n 3)))<|zi (.li (.o .v) [.e 11])<|zi (.ap false (.e 2) (.e 12))<|zp 1 []) (zs 0<|zn 1<|zs 13<|zs 3<|zn 3 []))<|
 .reg (zp 1<|zi (.bi .add (.e 3) (.c (.n 1)))<|zp 1 []) (zs 0<|zn 1<|zs 2<|zs 7<|zn 3 []))<|
 zq (zp 2 []) (zn 1<|zs 2<|zn 5 [])<|
 .ret⟩
def ir_spec_l16Node:IF:=⟨[],2,8,[2],zq (zi (.cs .v (.s [])) []) (zs 0<|zs 1<|zn 6 [])<|
 zq (zp 1<|zi (.ca 188 [.e 0,.c (.n 1)] 1)<|zp 1 []) (zs 0<|zs 1<|zn 1<|zs 8<|zn 4 [])<|
 zq (zp 2<|zi (.ss (.e 0) (some (.c (.n 1))) (some (.e 3)))<|zp 1 []) (zs 0<|zs 1<|zn 1<|zs 3<|zs 8<|zn 3 [])<|
 zq (zp 1<|zi (.sn (.e 4))<|zi (.bi .sub (.e 8) (.c (.n 1)))<|zi (.bi .quo (.e 9) (.c (.n 3)))<|zp 1 []) (zs 0<|zs 1<|zn 1<|zs 3<|zs 4<|zs 10<|zn 2 [])<|
 .seq (.block 0<|zq (zp 2<|zi (.bi .lss (.e 1) (.e 5))<|zp 1 []) (zs 0<|zs 1<|zn 1<|zs 3<|zs 4<|zs 5<|zs 8<|zn 1 [])<|
 .cond 6 (zq (zp 2<|zi (.ca 191 [.e 4,.e 1] 1)<|zp 1 []) (zn 2<|zs 8<|zn 5 [])<|
 .ret) (zq (zp 2<|zi (.bi .gtr (.e 1) (.e 5))<|zp 1 []) (zs 0<|zs 1<|zn 1<|zs 3<|zn 1<|zs 5<|zn 1<|zs 8 [])<|
 .cond 7 (zq (zp 3<|zi (.sn (.e 0))<|zi (.bi .sub (.e 8) (.c (.n 1)))<|zi (.ss (.e 0) (some (.e 3)) (some (.e 9)))<|zp 2<|zi (.bi .sub (.e 1) (.e 5))<|zi (.bi .sub (.e 11) (.c (.n 1)))<|zi (.ca 191 [.e 10,.e 12] 1)<|zp 1 []) (zn 2<|zs 13<|zn 5 [])<|
 .ret) .skip))<|
 zq (zp 2 []) (zn 2<|zs 0<|zn 5 [])<|
 .ret⟩
def ir_spec_l16Replace:IF:=⟨[],3,10,[3],zq (zi (.cs .v (.s [])) []) (zs 0<|zs 1<|zs 2<|zn 7 [])<|
 zq (zp 1<|zi (.ca 188 [.e 0,.c (.n 1)] 1)<|zp 1 []) (zs 0<|zs 1<|zs 2<|zn 1<|zs 10<|zn 5 [])<|
 zq (zp 2<|zi (.ss (.e 0) (some (.c (.n 1))) (some (.e 4)))<|zp 1 []) (zs 0<|zs 1<|zs 2<|zn 1<|zs 4<|zs 10<|zn 4 [])<|
 zq (zp 3<|zi (.sn (.e 0))<|zi (.bi .sub (.e 10) (.c (.n 1)))<|zi (.ss (.e 0) (some (.e 4)) (some (.e 11)))<|zp 1 []) (zn 1<|zs 1<|zs 2<|zn 2<|zs 5<|zs 12<|zn 3 [])<|
 zq (zp 1<|zi (.sn (.e 5))<|zi (.bi .sub (.e 10) (.c (.n 1)))<|zi (.bi .quo (.e 11) (.c (.n 3)))<|zp 1 []) (zn 1<|zs 1<|zs 2<|zn 2<|zs 5<|zs 6<|zs 12<|zn 2 [])<|
 .seq (.block 0<|zq (zp 2<|zi (.bi .lss (.e 1) (.e 7))<|zp 1 []) (zn 1<|zs 1<|zs 2<|zn 2<|zs 5<|zs 6<|zs 7<|zs 10<|zn 1 [])<|
 .cond 8 (zq (zp 3<|zi (.ca 207 [.e 5,.e 1,.e 2] 1)<|zi (.bi .add (.c (.s [40])) (.e 10))<|zp 1<|zi (.bi .add (.e 11) (.e 6))<|zi (.bi .add (.e 12) (.c (.s [41])))<|zp 1 []) (zn 3<|zs 13<|zn 6 [])<|
 .ret) (zq (zp 2<|zi (.bi .gtr (.e 1) (.e 7))<|zp 1 []) (zn 1<|zs 1<|zs 2<|zn 2<|zs 5<|zs 6<|zs 7<|zn 1<|zs 10 [])<|
 .cond 9 (zq (zp 1<|zi (.bi .add (.c (.s [40])) (.e 5))<|zp 3<|zi (.bi .sub (.e 1) (.e 7))<|zi (.bi .sub (.e 11) (.c (.n 1)))<|zp 1<|zi (.ca 207 [.e 6,.e 12,.e 2] 1)<|zi (.bi .add (.e 10) (.e 13))<|zi (.bi .add (.e 14) (.c (.s [41])))<|zp 1 []) (zn 3<|zs 15<|zn 6 [])<|
 .ret) .skip))<|
 zq (zp 2 []) (zn 3<|zs 2<|zn 6 [])<|
 .ret⟩
end Go.Cat
namespace Go.Cat
def ir_spec_IsTamariLess:IF:=⟨[],2,9,[2],zq (zi (.cs .v (.b false)) []) (zs 0<|zs 1<|zn 7 [])<|
 .seq (zq (zp 2<|zi (.ca 365 [.e 0,.e 1] 1)<|zi (.un .not (.e 9)) []) (zs 0<|zs 1<|zn 4<|zs 10<|zn 2 [])<|
 .cond 6 (zq (zi (.cs .v (.b false)) []) (zn 2<|zs 9<|zn 6 [])<|
 .ret) .skip)<|
 zq (zp 1<|zi (.ca 164 [.e 0] 1)<|zp 1 []) (zn 1<|zs 1<|zn 1<|zs 9<|zn 5 [])<|
 zq (zp 1<|zi (.ca 164 [.e 1] 1)<|zp 1 []) (zn 3<|zs 3<|zs 9<|zn 4 [])<|
 .seq (zq (zi (.cs .v (.n 0)) []) (zn 3<|zs 3<|zs 4<|zs 9<|zn 3 [])<|
 .block 0<|.loop<|.seq (zq (zp 2<|zi (.ln (.e 3) [])<|zi (.bi .lss (.e 5) (.e 9)) []) (zn 3<|zs 3<|zs 4<|zs 5<|zn 1<|zs 10<|zn 1 [])<|
 .cond 7 .skip (.exit 0))<|
 .seq (.block 1<|zq (zp 2<|zi (.ix (.e 3) [] (.e 5))<|zp 3<|zi (.ix (.e 4) [] (.e 5))<|zp 1<|zi (.bi .gtr (.e 9) (.e 10)) []) (zn 3<|zs 3<|zs 4<|zs 5<|zn 2<|zs 11 [])<|
 .cond 8 (zq (zi (.cs .v (.b false)) []) (zn 2<|zs 9<|zn 6 [])<|
 .ret) .skip)<|
 .reg (zp 1<|zi (.bi .add (.e 5) (.c (.n 1)))<|zp 1 []) (zn 3<|zs 3<|zs 4<|zs 9<|zn 3 []))<|
 zq (zi (.cs .v (.b true)) []) (zn 2<|zs 9<|zn 6 [])<|
 .ret⟩
def ir_spec_l17Fit:IF:=⟨[],2,3,[2],zq (zi (.cs .v (.b false)) []) (zs 0<|zs 1<|zn 1 [])<|
 zq (zp 1<|zi (.ca 160 [.e 0] 1)<|zp 1<|zg [(3,true)] (.cy (.e 1))<|zg [(3,true)] (.ca 160 [.e 4] 1)<|zi (.pk (.e 3) (.e 5) (.c (.b false)))<|zp 1<|zg [(6,true)] (.cy (.e 0))<|zg [(6,true)] (.sn (.e 7))<|zg [(6,true)] (.cy (.e 1))<|zg [(6,true)] (.sn (.e 9))<|zg [(6,true)] (.bi .eql (.e 8) (.e 10))<|zi (.pk (.e 6) (.e 11) (.c (.b false)))<|zp 1 []) (zn 2<|zs 12 [])<|
 .ret⟩
end Go.Cat
namespace Go.Cat
def ir_spec_IsRotationWay:IF:=⟨[],1,5,[1],zq (zi (.cs .v (.b false)) []) (zs 0<|zn 4 [])<|
 .seq (zq (zi (.cs .v (.n 0)) []) (zs 0<|zn 1<|zs 5<|zn 2 [])<|
 .block 0<|.loop<|.seq (zq (zp 2<|zi (.ln (.e 0) [])<|zi (.bi .lss (.e 2) (.e 5)) []) (zs 0<|zn 1<|zs 2<|zs 6<|zn 1 [])<|
 .cond 3 .skip (.exit 0))<|
 .seq (.block 1<|zq (zp 1<|zi (.ln (.e 0) [])<|zi (.bi .gtr (.e 5) (.c (.n 40)))<|zp 1<|zg [(6,false)] .nop<|zg [(6,false)] (.cy (.e 2))<|zg [(6,false)] (.iy (.e 0) (.e 7))<|zg [(6,false)] .nop<|zg [(6,false)] (.ca 160 [.e 8] 1)<|zg [(6,false)] (.un .not (.e 9))<|zi (.pk (.e 6) (.c (.b true)) (.e 10))<|zp 1<|zg [(11,false)] (.cy (.e 2))<|zg [(11,false)] (.bi .gtr (.e 12) (.c (.n 0)))<|zg [(11,false)] (.cy (.e 13))<|zg [(11,false),(14,true)] .nop<|zg [(11,false),(14,true)] (.cy (.e 2))<|zg [(11,false),(14,true)] (.bi .sub (.e 15) (.c (.n 1)))<|zg [(11,false),(14,true)] (.iy (.e 0) (.e 16))<|zg [(11,false),(14,true)] .nop<|zg [(11,false),(14,true)] (.ca 166 [.e 17] 1)<|zg [(11,false),(14,true)] .nop<|zg [(11,false),(14,true)] (.cy (.e 2))<|zg [(11,false),(14,true)] (.iy (.e 0) (.e 19))<|zg [(11,false),(14,true)] .nop<|zg [(11,false),(14,true)] (.ca 378 [.e 18,.e 20] 1)<|zg [(11,false),(14,true)] (.un .not (.e 21))<|zg [(11,false)] (.pk (.e 14) (.e 22) (.c (.b false)))<|zi (.pk (.e 11) (.c (.b true)) (.e 23)) []) (zs 0<|zn 1<|zs 2<|zn 1<|zs 24 [])<|
 .cond 4 (zq (zi (.cs .v (.b false)) []) (zn 1<|zs 5<|zn 3 [])<|
 .ret) .skip)<|
 .reg (zp 1<|zi (.bi .add (.e 2) (.c (.n 1)))<|zp 1 []) (zs 0<|zn 1<|zs 5<|zn 2 []))<|
 zq (zp 1<|zi (.ln (.e 0) [])<|zi (.bi .gtr (.e 5) (.c (.n 0)))<|zp 1 []) (zn 1<|zs 6<|zn 3 [])<|
 .ret⟩
def ir_spec_RotationDistance:IF:=⟨[],2,6,[2],zq (zi (.cs .v (.n 0)) []) (zs 0<|zs 1<|zn 4 [])<|
 zq (zp 2<|zi (.ca 347 [.e 0,.e 1] 2)<|zp 5 []) (zn 3<|zs 6<|zs 7<|zn 1 [])<|
 .seq (zq (zp 1<|zi (.un .not (.e 4)) []) (zn 3<|zs 3<|zn 1<|zs 6 [])<|
 .cond 5 (zq (zi (.cs .v (.n (-1))) []) (zn 2<|zs 6<|zn 3 [])<|
 .ret) .skip)<|
 zq (zp 1<|zi (.ln (.e 3) [])<|zi (.bi .sub (.e 6) (.c (.n 1)))<|zp 1 []) (zn 2<|zs 7<|zn 3 [])<|
 .ret⟩
def ir_spec_RotationWay:IF:=⟨[],2,13,[2,3],zq (zi (.cs (.o .v) (.l []))<|zi (.cs .v (.b false)) []) (zs 0<|zs 1<|zn 11 [])<|
 .seq (zq (zp 2<|zi (.ca 365 [.e 0,.e 1] 1)<|zi (.un .not (.e 13))<|zp 1<|zg [(14,false)] (.cy (.e 0))<|zg [(14,false)] (.ca 162 [.e 15] 1)<|zg [(14,false)] (.bi .gtr (.e 16) (.c (.n 5)))<|zi (.pk (.e 14) (.c (.b true)) (.e 17)) []) (zs 0<|zs 1<|zn 7<|zs 18<|zn 3 [])<|
 .cond 9 (zq (zi (.li (.o .v) [])<|zp 1<|zi (.cs .v (.b false)) []) (zn 2<|zs 13<|zs 14<|zn 9 [])<|
 .ret) .skip)<|
 zq (zp 1<|zi (.ca 366 [.e 0] 2)<|zp 5 []) (zn 1<|zs 1<|zn 2<|zs 13<|zs 14<|zn 7 [])<|
 .seq (zq (zi (.cs .v (.n 0)) []) (zn 1<|zs 1<|zn 2<|zs 4<|zs 5<|zs 13<|zn 6 [])<|
 .block 0<|.loop<|.seq (zq (zp 2<|zi (.ln (.e 4) [])<|zi (.bi .lss (.e 6) (.e 13)) []) (zn 1<|zs 1<|zn 2<|zs 4<|zs 5<|zs 6<|zn 3<|zs 14<|zn 2 [])<|
 .cond 10 .skip (.exit 0))<|
 .seq (.block 1<|.seq (zq (zp 2<|zi (.ix (.e 4) [] (.e 6))<|zp 2<|zi (.bi .neq (.e 13) (.e 1)) []) (zn 1<|zs 1<|zn 2<|zs 4<|zs 5<|zs 6<|zn 4<|zs 14<|zn 1 [])<|
 .cond 11 (.exit 1) .skip)<|
 zq (zi (.li (.o .v) [])<|zp 1 []) (zn 4<|zs 4<|zs 5<|zs 6<|zs 13<|zn 5 [])<|
 .seq (zq (zp 2 []) (zn 4<|zs 4<|zs 5<|zn 1<|zs 7<|zs 6<|zn 4 [])<|
 .block 2<|.loop<|.seq (zq (zp 1<|zi (.bi .geq (.e 8) (.c (.n 0))) []) (zn 4<|zs 4<|zs 5<|zn 1<|zs 7<|zs 8<|zn 3<|zs 13 [])<|
 .cond 12 .skip (.exit 2))<|
 .seq (.block 3<|.reg (zp 2<|zi (.ix (.e 4) [] (.e 8))<|zp 1<|zi (.li (.o .v) [.e 13])<|zp 1<|zi (.ap false (.e 14) (.e 7))<|zp 1 []) (zn 4<|zs 4<|zs 5<|zn 1<|zs 15<|zs 8<|zn 4 []))<|
 .reg (zp 2<|zi (.ix (.e 5) [] (.e 8))<|zp 2 []) (zn 4<|zs 4<|zs 5<|zn 1<|zs 7<|zs 13<|zn 4 []))<|
 zq (zp 2<|zi (.cs .v (.b true)) []) (zn 2<|zs 7<|zs 13<|zn 9 [])<|
 .ret)<|
 .reg (zp 1<|zi (.bi .add (.e 6) (.c (.n 1)))<|zp 1 []) (zn 1<|zs 1<|zn 2<|zs 4<|zs 5<|zs 13<|zn 6 []))<|
 zq (zi (.li (.o .v) [])<|zp 1<|zi (.cs .v (.b false)) []) (zn 2<|zs 13<|zs 14<|zn 9 [])<|
 .ret⟩
def ir_spec_l20Search:IF:=⟨[],1,11,[1,2],zq (zi (.cs (.o .v) (.l []))<|zi (.cs (.o .v) (.l [])) []) (zs 0<|zn 10 [])<|
 zq (zp 1<|zi (.li (.o .v) [.e 0])<|zp 1 []) (zn 3<|zs 11<|zn 7 [])<|
 zq (zi (.li (.o .v) [.c (.n (-1))])<|zp 1 []) (zn 3<|zs 3<|zs 11<|zn 6 [])<|
 .seq (zq (zi (.cs .v (.n 0)) []) (zn 3<|zs 3<|zs 4<|zs 11<|zn 5 [])<|
 .block 0<|.loop<|.seq (zq (zp 2<|zi (.ln (.e 3) [])<|zi (.bi .lss (.e 5) (.e 11)) []) (zn 3<|zs 3<|zs 4<|zs 5<|zn 2<|zs 12<|zn 2 [])<|
 .cond 8 .skip (.exit 0))<|
 .seq (.block 1<|zq (zp 2<|zi (.ix (.e 3) [] (.e 5))<|zp 1<|zi (.ca 166 [.e 11] 1)<|zp 1 []) (zn 3<|zs 3<|zs 4<|zs 5<|zs 12<|zn 4 [])<|
 zq (zi (.cs .v (.n 0)) []) (zn 3<|zs 3<|zs 4<|zs 5<|zs 6<|zs 11<|zn 3 [])<|
 .block 2<|.loop<|.seq (zq (zp 2<|zi (.ln (.e 6) [])<|zi (.bi .lss (.e 7) (.e 11)) []) (zn 3<|zs 3<|zs 4<|zs 5<|zs 6<|zs 7<|zn 1<|zs 12<|zn 1 [])<|
 .cond 9 .skip (.exit 2))<|
 .seq (.block 3<|zq (zp 3<|zi (.ix (.e 6) [] (.e 7))<|zp 1<|zi (.ca 378 [.e 3,.e 11] 1)<|zi (.un .not (.e 12)) []) (zn 3<|zs 3<|zs 4<|zs 5<|zs 6<|zs 7<|zn 2<|zs 13 [])<|
 .cond 10 (zq (zp 3<|zi (.ix (.e 6) [] (.e 7))<|zp 1<|zi (.li (.o .v) [.e 11])<|zi (.ap false (.e 3) (.e 12))<|zp 1 []) (zn 3<|zs 13<|zs 4<|zs 5<|zs 6<|zs 7<|zn 3 [])<|
 .reg (zp 2<|zi (.li (.o .v) [.e 5])<|zi (.ap false (.e 4) (.e 11))<|zp 1 []) (zn 3<|zs 3<|zs 12<|zs 5<|zs 6<|zs 7<|zn 3 [])) .skip)<|
 .reg (zp 1<|zi (.bi .add (.e 7) (.c (.n 1)))<|zp 1 []) (zn 3<|zs 3<|zs 4<|zs 5<|zs 6<|zs 11<|zn 3 []))<|
 .reg (zp 1<|zi (.bi .add (.e 5) (.c (.n 1)))<|zp 1 []) (zn 3<|zs 3<|zs 4<|zs 11<|zn 5 []))<|
 zq (zp 4 []) (zn 1<|zs 3<|zs 4<|zn 8 [])<|
 .ret⟩
end Go.Cat
namespace Go.Cat
end Go.Cat
namespace Go.Cat
end Go.Cat
namespace Go.Cat
end Go.Cat
namespace Go.Cat
end Go.Cat
namespace Go.Cat
end Go.Cat
