/-
 Texts of the little language.
-/
import Derived.Test.YtjbonmaggidboaaCatThree
set_option linter.unusedSimpArgs false
set_option linter.unusedVariables false
namespace Go.Cat
def zn:Nat→List (Option Nat)→List (Option Nat)
 | 0,l=>l
 | k+1,l=>none::zn k l
def zs (n:Nat) (l:List (Option Nat)):List (Option Nat):=some n::l
def zq (a:List It) (b:List (Option Nat)) (s:S):S:=.seq (.reg a b) s
def zi (p:Pr) (l:List It):List It:=⟨[],[],p⟩::l
def zg (g:List (Nat×Bool)) (p:Pr) (l:List It):List It:=⟨[],g,p⟩::l
def zp:Nat→List It→List It
 | 0,l=>l
 | k+1,l=>⟨[],[],.nop⟩::zp k l
def ir_laws_at:IF:=⟨[],2,4,[2],zq (zi (.cs .v (.n 0)) []) (zs 0<|zs 1<|zn 2 [])<|
 .seq (zq (zp 2<|zi (.ln (.e 0) [])<|zi (.bi .lss (.e 1) (.e 4)) []) (zs 0<|zs 1<|zn 1<|zs 5 [])<|
 .cond 3 (zq (zp 2<|zi (.ix (.e 0) [] (.e 1))<|zp 1<|zi (.cv .i64 (.e 4))<|zp 1 []) (zn 2<|zs 5<|zn 1 [])<|
 .ret) .skip)<|
 zq (zp 1<|zi (.bi .mul (.e 1) (.c (.n 37)))<|zp 1<|zi (.ln (.e 0) [])<|zi (.bi .mul (.e 5) (.c (.n 11)))<|zi (.bi .add (.e 4) (.e 6))<|zi (.bi .rem (.e 7) (.c (.n 256)))<|zp 1 []) (zn 2<|zs 8<|zn 1 [])<|
 .ret⟩
def ir_laws_big:IF:=⟨[],1,2,[1],zq (zi (.cs .v (.b false)) []) (zs 0<|zn 1 [])<|
 zq (zp 1<|zi (.ln (.e 0) [])<|zi (.bi .gtr (.e 2) (.c (.n 1048576)))<|zp 1 []) (zn 1<|zs 3 [])<|
 .ret⟩
def ir_laws_sameInts:IF:=⟨[],2,7,[2],zq (zi (.cs .v (.b false)) []) (zs 0<|zs 1<|zn 5 [])<|
 .seq (zq (zp 1<|zi (.ln (.e 0) [])<|zp 1<|zi (.ln (.e 1) [])<|zi (.bi .neq (.e 7) (.e 8)) []) (zs 0<|zs 1<|zn 2<|zs 9<|zn 2 [])<|
 .cond 4 (zq (zi (.cs .v (.b false)) []) (zn 2<|zs 7<|zn 4 [])<|
 .ret) .skip)<|
 .seq (zq (zi (.cs .v (.n 0)) []) (zs 0<|zs 1<|zn 1<|zs 7<|zn 3 [])<|
 .block 0<|.loop<|.seq (zq (zp 2<|zi (.ln (.e 0) [])<|zi (.bi .lss (.e 3) (.e 7)) []) (zs 0<|zs 1<|zn 1<|zs 3<|zn 1<|zs 8<|zn 1 [])<|
 .cond 5 .skip (.exit 0))<|
 .seq (.block 1<|zq (zp 2<|zi (.iy (.e 0) (.e 3))<|zp 3<|zi (.iy (.e 1) (.e 3))<|zp 1<|zi (.bi .neq (.e 7) (.e 8)) []) (zs 0<|zs 1<|zn 1<|zs 3<|zn 2<|zs 9 [])<|
 .cond 6 (zq (zi (.cs .v (.b false)) []) (zn 2<|zs 7<|zn 4 [])<|
 .ret) .skip)<|
 .reg (zp 1<|zi (.bi .add (.e 3) (.c (.n 1)))<|zp 1 []) (zs 0<|zs 1<|zn 1<|zs 7<|zn 3 []))<|
 zq (zi (.cs .v (.b true)) []) (zn 2<|zs 7<|zn 4 [])<|
 .ret⟩
end Go.Cat
namespace Go.Cat
def ir_impl_within:IF:=⟨[],3,4,[3],zq (zi (.cs .v (.b false)) []) (zs 0<|zs 1<|zs 2<|zn 1 [])<|
 zq (zp 2<|zi (.bi .geq (.e 0) (.e 1))<|zp 1<|zg [(4,true)] (.cy (.e 0))<|zg [(4,true)] (.cy (.e 2))<|zg [(4,true)] (.bi .leq (.e 5) (.e 6))<|zi (.pk (.e 4) (.e 7) (.c (.b false)))<|zp 1 []) (zn 3<|zs 8 [])<|
 .ret⟩
end Go.Cat
namespace Go.Cat
def ir_impl_IsDyck:IF:=⟨[],1,4,[1],zq (zi (.cs .v (.b false)) []) (zs 0<|zn 3 [])<|
 .seq (zq (zp 1<|zi (.sn (.e 0))<|zi (.bi .gtr (.e 4) (.c (.n 16))) []) (zs 0<|zn 2<|zs 5 [])<|
 .cond 3 (zq (zi (.cs .v (.b false)) []) (zn 1<|zs 4<|zn 2 [])<|
 .ret) .skip)<|
 zq (zp 1<|zi (.ca 82 [.e 0] 2)<|zp 5 []) (zn 2<|zs 5<|zn 1 [])<|
 zq (zp 2 []) (zn 1<|zs 2<|zn 2 [])<|
 .ret⟩
def ir_impl_copyInts:IF:=⟨[],1,2,[1],zq (zi (.cs (.o .v) (.l [])) []) (zs 0<|zn 1 [])<|
 zq (zi (.li (.o .v) [])<|zp 1<|zi (.ap true (.e 2) (.e 0))<|zp 1 []) (zn 1<|zs 3 [])<|
 .ret⟩
def ir_impl_equalInts:IF:=⟨[],2,9,[2],zq (zi (.cs .v (.b false)) []) (zs 0<|zs 1<|zn 7 [])<|
 .seq (zq (zp 1<|zi (.ln (.e 0) [])<|zp 1<|zi (.ln (.e 1) [])<|zi (.bi .neq (.e 9) (.e 10)) []) (zs 0<|zs 1<|zn 2<|zs 11<|zn 4 [])<|
 .cond 4 (zq (zi (.cs .v (.b false)) []) (zn 2<|zs 9<|zn 6 [])<|
 .ret) .skip)<|
 .seq (zq (zp 1<|zi (.ln (.e 0) [])<|zi (.cs .v (.n 0)) []) (zs 0<|zs 1<|zn 3<|zs 9<|zs 10<|zn 2 [])<|
 .block 0<|.loop<|zq (zi (.bi .lss (.e 6) (.e 5)) []) (zs 0<|zs 1<|zn 3<|zs 5<|zs 6<|zs 9<|zn 1 [])<|
 .seq (.cond 7 .skip (.exit 0))<|
 .seq (.block 1<|zq (zp 2 []) (zs 0<|zs 1<|zn 1<|zs 6<|zn 1<|zs 5<|zs 6<|zn 2 [])<|
 zq (zp 2<|zi (.iy (.e 0) (.e 3))<|zp 3<|zi (.iy (.e 1) (.e 3))<|zp 1<|zi (.bi .neq (.e 9) (.e 10)) []) (zs 0<|zs 1<|zn 3<|zs 5<|zs 6<|zn 1<|zs 11 [])<|
 .cond 8 (zq (zi (.cs .v (.b false)) []) (zn 2<|zs 9<|zn 6 [])<|
 .ret) .skip)<|
 .reg (zi (.bi .add (.e 6) (.c (.n 1)))<|zp 1 []) (zs 0<|zs 1<|zn 3<|zs 5<|zs 9<|zn 2 []))<|
 zq (zi (.cs .v (.b true)) []) (zn 2<|zs 9<|zn 6 [])<|
 .ret⟩
def ir_impl_heights:IF:=⟨[],1,11,[1,2],zq (zi (.cs (.o .v) (.l []))<|zi (.cs .v (.b false)) []) (zs 0<|zn 10 [])<|
 zq (zi (.li (.o .v) [.c (.n 0)])<|zp 1 []) (zs 0<|zn 2<|zs 11<|zn 7 [])<|
 zq (zi (.cs .v (.n 0)) []) (zs 0<|zn 2<|zs 3<|zs 11<|zn 6 [])<|
 .seq (zq (zi (.cs .v (.n 0)) []) (zs 0<|zn 2<|zs 3<|zs 4<|zs 11<|zn 5 [])<|
 .block 0<|.loop<|.seq (zq (zp 2<|zi (.sn (.e 0))<|zi (.bi .lss (.e 5) (.e 11)) []) (zs 0<|zn 2<|zs 3<|zs 4<|zs 5<|zs 12<|zn 4 [])<|
 .cond 6 .skip (.exit 0))<|
 .seq (.block 1<|.seq (zq (zp 2<|zi (.sx (.e 0) (.e 5)) []) (zs 0<|zn 2<|zs 3<|zs 4<|zs 5<|zn 1<|zs 11<|zn 3 [])<|
 .block 2<|zq (zi (.bi .eql (.e 7) (.c (.y 117)))<|zp 1 []) (zs 0<|zn 2<|zs 3<|zs 4<|zs 5<|zn 1<|zs 7<|zs 11<|zn 2 [])<|
 .cond 8 (.reg (zp 1<|zi (.bi .add (.e 4) (.c (.n 1)))<|zp 1 []) (zs 0<|zn 2<|zs 3<|zs 11<|zs 5<|zn 5 [])) (zq (zi (.bi .eql (.e 7) (.c (.y 100)))<|zp 1 []) (zs 0<|zn 2<|zs 3<|zs 4<|zs 5<|zn 3<|zs 11<|zn 1 [])<|
 .cond 9 (.reg (zp 1<|zi (.bi .sub (.e 4) (.c (.n 1)))<|zp 1 []) (zs 0<|zn 2<|zs 3<|zs 11<|zs 5<|zn 5 [])) (zq (zi (.cs (.o .v) (.l []))<|zi (.cs .v (.b false)) []) (zn 1<|zs 11<|zs 12<|zn 8 [])<|
 .ret)))<|
 .seq (zq (zp 1<|zi (.bi .lss (.e 4) (.c (.n 0))) []) (zs 0<|zn 2<|zs 3<|zs 4<|zs 5<|zn 4<|zs 11 [])<|
 .cond 10 (zq (zi (.cs (.o .v) (.l []))<|zi (.cs .v (.b false)) []) (zn 1<|zs 11<|zs 12<|zn 8 [])<|
 .ret) .skip)<|
 .reg (zp 2<|zi (.li (.o .v) [.e 4])<|zi (.ap false (.e 3) (.e 11))<|zp 1 []) (zs 0<|zn 2<|zs 12<|zs 4<|zs 5<|zn 5 []))<|
 .reg (zp 1<|zi (.bi .add (.e 5) (.c (.n 1)))<|zp 1 []) (zs 0<|zn 2<|zs 3<|zs 4<|zs 11<|zn 5 []))<|
 zq (zp 2<|zi (.bi .eql (.e 4) (.c (.n 0)))<|zp 2 []) (zn 1<|zs 3<|zs 11<|zn 8 [])<|
 .ret⟩
end Go.Cat
namespace Go.Cat
def ir_impl_BallotNumber:IF:=⟨[],2,15,[2],zq (zi (.cs .v (.n 0)) []) (zs 0<|zs 1<|zn 13 [])<|
 .seq (zq (zp 1<|zi (.ca 23 [.e 0,.c (.n 0),.c (.n 15)] 1)<|zi (.un .not (.e 15))<|zp 1<|zg [(16,false)] (.cy (.e 1))<|zg [(16,false)] (.cy (.e 0))<|zg [(16,false)] (.ca 23 [.e 17,.e 18,.c (.n 15)] 1)<|zg [(16,false)] (.un .not (.e 19))<|zi (.pk (.e 16) (.c (.b true)) (.e 20)) []) (zs 0<|zs 1<|zn 6<|zs 21<|zn 6 [])<|
 .cond 8 (zq (zi (.cs .v (.n 0)) []) (zn 2<|zs 15<|zn 12 [])<|
 .ret) .skip)<|
 zq (zp 1<|zi (.bi .add (.e 1) (.c (.n 1)))<|zi (.mk (.n 0) (.e 15) (.e 15))<|zp 1 []) (zs 0<|zs 1<|zn 1<|zs 16<|zn 11 [])<|
 .seq (zq (zp 1<|zi (.ln (.e 3) [])<|zi (.cs .v (.n 0)) []) (zs 0<|zs 1<|zn 1<|zs 3<|zn 5<|zs 15<|zs 16<|zn 4 [])<|
 .block 0<|.loop<|zq (zi (.bi .lss (.e 10) (.e 9)) []) (zs 0<|zs 1<|zn 1<|zs 3<|zn 5<|zs 9<|zs 10<|zs 15<|zn 3 [])<|
 .seq (.cond 11 .skip (.exit 0))<|
 .seq (.block 1<|zq (zp 2 []) (zs 0<|zs 1<|zn 1<|zs 3<|zs 10<|zn 4<|zs 9<|zs 10<|zn 4 [])<|
 .reg (zp 2<|zi (.ix (.e 3) [] (.e 4))<|zi (.up 3 [.e 4] (.c (.n 1))) []) (zs 0<|zs 1<|zn 1<|zs 16<|zn 5<|zs 9<|zs 10<|zn 4 []))<|
 .reg (zi (.bi .add (.e 10) (.c (.n 1)))<|zp 1 []) (zs 0<|zs 1<|zn 1<|zs 3<|zn 5<|zs 9<|zs 15<|zn 4 []))<|
 .seq (zq (zi (.cs .v (.n 1)) []) (zs 0<|zs 1<|zn 1<|zs 3<|zn 1<|zs 15<|zn 9 [])<|
 .block 2<|.loop<|.seq (zq (zp 2<|zi (.bi .leq (.e 5) (.e 0)) []) (zs 0<|zs 1<|zn 1<|zs 3<|zn 1<|zs 5<|zn 6<|zs 15<|zn 2 [])<|
 .cond 12 .skip (.exit 2))<|
 .seq (.block 3<|zq (zp 1<|zi (.bi .add (.e 1) (.c (.n 1)))<|zi (.mk (.n 0) (.e 15) (.e 15))<|zp 1 []) (zs 0<|zs 1<|zn 1<|zs 3<|zn 1<|zs 5<|zs 16<|zn 8 [])<|
 .seq (zq (zp 2 []) (zs 0<|zs 1<|zn 1<|zs 3<|zn 1<|zs 5<|zs 6<|zs 5<|zn 7 [])<|
 .block 4<|.loop<|.seq (zq (zp 2<|zi (.bi .leq (.e 7) (.e 1)) []) (zs 0<|zs 1<|zn 1<|zs 3<|zn 1<|zs 5<|zs 6<|zs 7<|zn 5<|zs 15<|zn 1 [])<|
 .cond 13 .skip (.exit 4))<|
 .seq (.block 5<|zq (zp 4<|zi (.ix (.e 3) [] (.e 7))<|zp 1<|zi (.ix (.e 6) [] (.e 7))<|zi (.up 6 [.e 7] (.e 15)) []) (zs 0<|zs 1<|zn 1<|zs 3<|zn 1<|zs 5<|zs 17<|zs 7<|zn 7 [])<|
 zq (zp 2<|zi (.bi .gtr (.e 7) (.e 5)) []) (zs 0<|zs 1<|zn 1<|zs 3<|zn 1<|zs 5<|zs 6<|zs 7<|zn 6<|zs 15 [])<|
 .cond 14 (.reg (zp 4<|zi (.ix (.e 6) [] (.e 7))<|zp 3<|zi (.bi .sub (.e 7) (.c (.n 1)))<|zi (.ix (.e 6) [] (.e 16))<|zp 1<|zi (.bi .add (.e 15) (.e 17))<|zi (.ix (.e 6) [] (.e 7))<|zi (.up 6 [.e 7] (.e 18)) []) (zs 0<|zs 1<|zn 1<|zs 3<|zn 1<|zs 5<|zs 20<|zs 7<|zn 7 [])) .skip)<|
 .reg (zp 1<|zi (.bi .add (.e 7) (.c (.n 1)))<|zp 1 []) (zs 0<|zs 1<|zn 1<|zs 3<|zn 1<|zs 5<|zs 6<|zs 15<|zn 7 []))<|
 .reg (zp 2 []) (zs 0<|zs 1<|zn 1<|zs 6<|zn 1<|zs 5<|zn 9 []))<|
 .reg (zp 1<|zi (.bi .add (.e 5) (.c (.n 1)))<|zp 1 []) (zs 0<|zs 1<|zn 1<|zs 3<|zn 1<|zs 15<|zn 9 []))<|
 zq (zp 2<|zi (.ix (.e 3) [] (.e 1))<|zp 2 []) (zn 2<|zs 15<|zn 12 [])<|
 .ret⟩
def ir_impl_CatalanNumber:IF:=⟨[],1,3,[1],zq (zi (.cs .v (.n 0)) []) (zs 0<|zn 2 [])<|
 .seq (zq (zp 1<|zi (.ca 23 [.e 0,.c (.n 0),.c (.n 15)] 1)<|zi (.un .not (.e 3)) []) (zs 0<|zn 1<|zs 4 [])<|
 .cond 2 (zq (zi (.cs .v (.n (-1))) []) (zn 1<|zs 3<|zn 1 [])<|
 .ret) .skip)<|
 zq (zp 2<|zi (.ca 27 [.e 0,.e 0] 1)<|zp 1 []) (zn 1<|zs 3<|zn 1 [])<|
 .ret⟩
def ir_impl_allPaths:IF:=⟨[],1,4,[1],zq (zi (.cs (.o .v) (.l [])) []) (zs 0<|zn 3 [])<|
 zq (zi (.li (.o .v) [])<|zi (.cs (.b (.o .v)) (.g [.l []]))<|zi (.up 5 [.k 0] (.e 4)) []) (zs 0<|zn 1<|zs 6<|zn 1 [])<|
 zq (zi (.cs (.b .v) (.g [.u])) []) (zs 0<|zn 1<|zs 2<|zs 4 [])<|
 zq (zp 1<|zi (.cb 3)<|zp 3<|zi (.ca 326 [.c (.s []),.e 0,.e 0,.e 2,.e 4] 1) []) (zn 2<|zs 5<|zn 1 [])<|
 zq (zi (.tk 2)<|zp 1 []) (zn 1<|zs 4<|zn 2 [])<|
 .ret⟩
def ir_impl_allPaths_f1:IF:=⟨[],5,8,[3],.seq (zq (zp 1<|zi (.bi .eql (.e 1) (.c (.n 0)))<|zp 1<|zg [(8,true)] (.cy (.e 2))<|zg [(8,true)] (.bi .eql (.e 9) (.c (.n 0)))<|zi (.pk (.e 8) (.e 10) (.c (.b false))) []) (zs 0<|zs 1<|zs 2<|zs 3<|zs 4<|zs 11<|zn 2 [])<|
 .cond 5 (zq (zi (.tk 3)<|zp 1<|zi (.li (.o .v) [.e 0])<|zi (.ap false (.e 8) (.e 10))<|zi (.up 9 [.k 0] (.e 11)) []) (zn 3<|zs 12<|zn 4 [])<|
 .ret) .skip)<|
 .seq (zq (zp 1<|zi (.bi .gtr (.e 1) (.c (.n 0))) []) (zs 0<|zs 1<|zs 2<|zs 3<|zs 4<|zn 1<|zs 8<|zn 1 [])<|
 .cond 6 (.reg (zp 2<|zi (.bi .add (.e 0) (.c (.s [117])))<|zp 1<|zi (.bi .sub (.e 1) (.c (.n 1)))<|zp 1<|zi (.ca 326 [.e 8,.e 9,.e 2,.e 3,.e 4] 1) []) (zs 0<|zs 1<|zs 2<|zs 10<|zs 4<|zn 3 [])) .skip)<|
 zq (zp 2<|zi (.bi .gtr (.e 2) (.e 1)) []) (zs 0<|zs 1<|zs 2<|zs 3<|zs 4<|zn 2<|zs 8 [])<|
 .cond 7 (.reg (zp 2<|zi (.bi .add (.e 0) (.c (.s [100])))<|zp 2<|zi (.bi .sub (.e 2) (.c (.n 1)))<|zi (.ca 326 [.e 8,.e 1,.e 9,.e 3,.e 4] 1) []) (zn 3<|zs 10<|zn 4 [])) .skip⟩
def ir_impl_choose:IF:=⟨[],2,7,[2],zq (zi (.cs .v (.n 0)) []) (zs 0<|zs 1<|zn 5 [])<|
 .seq (zq (zp 1<|zi (.bi .lss (.e 1) (.c (.n 0)))<|zp 1<|zg [(7,false)] (.cy (.e 1))<|zg [(7,false)] (.cy (.e 0))<|zg [(7,false)] (.bi .gtr (.e 8) (.e 9))<|zi (.pk (.e 7) (.c (.b true)) (.e 10)) []) (zs 0<|zs 1<|zn 3<|zs 11<|zn 1 [])<|
 .cond 5 (zq (zi (.cs .v (.n 0)) []) (zn 2<|zs 7<|zn 4 [])<|
 .ret) .skip)<|
 zq (zi (.cs .v (.n 1)) []) (zs 0<|zs 1<|zn 1<|zs 7<|zn 3 [])<|
 .seq (zq (zi (.cs .v (.n 1)) []) (zs 0<|zs 1<|zn 1<|zs 3<|zs 7<|zn 2 [])<|
 .block 0<|.loop<|.seq (zq (zp 2<|zi (.bi .leq (.e 4) (.e 1)) []) (zs 0<|zs 1<|zn 1<|zs 3<|zs 4<|zn 1<|zs 7 [])<|
 .cond 6 .skip (.exit 0))<|
 .seq (.block 1<|.reg (zp 3<|zi (.bi .sub (.e 0) (.e 1))<|zp 1<|zi (.bi .add (.e 7) (.e 4))<|zi (.bi .mul (.e 3) (.e 8))<|zp 1<|zi (.bi .quo (.e 9) (.e 4))<|zp 1 []) (zs 0<|zs 1<|zn 1<|zs 10<|zs 4<|zn 2 []))<|
 .reg (zp 1<|zi (.bi .add (.e 4) (.c (.n 1)))<|zp 1 []) (zs 0<|zs 1<|zn 1<|zs 3<|zs 7<|zn 2 []))<|
 zq (zp 2 []) (zn 2<|zs 3<|zn 4 [])<|
 .ret⟩
end Go.Cat
namespace Go.Cat
def ir_impl_partners:IF:=⟨[],1,8,[1],zq (zi (.cs (.o .v) (.l [])) []) (zs 0<|zn 7 [])<|
 zq (zp 1<|zi (.sn (.e 0))<|zi (.mk (.n 0) (.e 8) (.e 8))<|zp 1 []) (zs 0<|zn 1<|zs 9<|zn 5 [])<|
 zq (zi (.li (.o .v) [])<|zp 1 []) (zs 0<|zn 1<|zs 2<|zs 8<|zn 4 [])<|
 .seq (zq (zi (.cs .v (.n 0)) []) (zs 0<|zn 1<|zs 2<|zs 3<|zs 8<|zn 3 [])<|
 .block 0<|.loop<|.seq (zq (zp 2<|zi (.sn (.e 0))<|zi (.bi .lss (.e 4) (.e 8)) []) (zs 0<|zn 1<|zs 2<|zs 3<|zs 4<|zn 1<|zs 9<|zn 1 [])<|
 .cond 6 .skip (.exit 0))<|
 .seq (.block 1<|.seq (zq (zp 2<|zi (.sx (.e 0) (.e 4))<|zi (.bi .eql (.e 8) (.c (.y 117))) []) (zs 0<|zn 1<|zs 2<|zs 3<|zs 4<|zn 2<|zs 9 [])<|
 .cond 7 (zq (zp 2<|zi (.li (.o .v) [.e 4])<|zi (.ap false (.e 3) (.e 8))<|zp 1 []) (zs 0<|zn 1<|zs 2<|zs 9<|zs 4<|zn 3 [])<|
 .exit 1) .skip)<|
 zq (zp 2<|zi (.ln (.e 3) [])<|zi (.bi .sub (.e 8) (.c (.n 1)))<|zi (.ix (.e 3) [] (.e 9))<|zp 2 []) (zs 0<|zn 1<|zs 2<|zs 3<|zs 4<|zs 10<|zn 2 [])<|
 zq (zp 2<|zi (.ln (.e 3) [])<|zi (.bi .sub (.e 8) (.c (.n 1)))<|zi (.sb true (.e 3) none (some (.e 9)))<|zp 1 []) (zs 0<|zn 1<|zs 2<|zs 10<|zs 4<|zs 5<|zn 2 [])<|
 zq (zp 3<|zi (.ix (.e 2) [] (.e 4))<|zi (.up 2 [.e 4] (.e 5)) []) (zs 0<|zn 1<|zs 9<|zs 3<|zs 4<|zs 5<|zn 2 [])<|
 .reg (zp 3<|zi (.ix (.e 2) [] (.e 5))<|zi (.up 2 [.e 5] (.e 4)) []) (zs 0<|zn 1<|zs 9<|zs 3<|zs 4<|zn 3 []))<|
 .reg (zp 1<|zi (.bi .add (.e 4) (.c (.n 1)))<|zp 1 []) (zs 0<|zn 1<|zs 2<|zs 3<|zs 8<|zn 3 []))<|
 zq (zp 2 []) (zn 1<|zs 2<|zn 6 [])<|
 .ret⟩
end Go.Cat
namespace Go.Cat
def ir_impl_BlocksOf:IF:=⟨[],1,11,[1],zq (zi (.cs .v (.l [])) []) (zs 0<|zn 10 [])<|
 zq (zi (.li (.o (.o .v)) [])<|zp 1 []) (zs 0<|zn 1<|zs 11<|zn 8 [])<|
 .seq (zq (zp 1<|zi (.ca 478 [.e 0] 1)<|zi (.un .not (.e 11)) []) (zs 0<|zn 1<|zs 2<|zn 2<|zs 12<|zn 5 [])<|
 .cond 5 (zq (zp 2 []) (zn 1<|zs 2<|zn 9 [])<|
 .ret) .skip)<|
 .seq (zq (zp 1<|zi (.ln (.e 0) [])<|zi (.cs .v (.n 0)) []) (zn 2<|zs 2<|zn 3<|zs 0<|zs 11<|zs 12<|zn 2 [])<|
 .block 0<|.loop<|zq (zi (.bi .lss (.e 8) (.e 7)) []) (zn 2<|zs 2<|zn 3<|zs 6<|zs 7<|zs 8<|zs 11<|zn 1 [])<|
 .seq (.cond 9 .skip (.exit 0))<|
 .seq (.block 1<|zq (zp 1<|zi (.iy (.e 6) (.e 8))<|zp 3 []) (zn 2<|zs 2<|zs 8<|zs 11<|zn 1<|zs 6<|zs 7<|zs 8<|zn 2 [])<|
 .seq (zq (zp 2<|zi (.ln (.e 2) [])<|zi (.bi .eql (.e 4) (.e 11)) []) (zn 2<|zs 2<|zs 3<|zs 4<|zn 1<|zs 6<|zs 7<|zs 8<|zn 1<|zs 12 [])<|
 .cond 10 (.reg (zp 1<|zi (.li (.o .v) [])<|zi (.li (.o (.o .v)) [.e 11])<|zi (.ap false (.e 2) (.e 12))<|zp 1 []) (zn 2<|zs 13<|zs 3<|zs 4<|zn 1<|zs 6<|zs 7<|zs 8<|zn 2 [])) .skip)<|
 .reg (zi (.ln (.e 2) [])<|zp 4<|zi (.ix (.e 2) [] (.e 4))<|zi (.sp 2 [.e 4] 1)<|zp 1<|zi (.li (.o .v) [.e 3])<|zi (.ap false (.e 13) (.e 15))<|zi (.ix (.e 2) [] (.e 4))<|zi (.up 14 [.e 4] (.e 16)) []) (zn 2<|zs 18<|zn 3<|zs 6<|zs 7<|zs 8<|zn 2 []))<|
 .reg (zi (.bi .add (.e 8) (.c (.n 1)))<|zp 1 []) (zn 2<|zs 2<|zn 3<|zs 6<|zs 7<|zs 11<|zn 2 []))<|
 zq (zp 2 []) (zn 1<|zs 2<|zn 9 [])<|
 .ret⟩
def ir_impl_IsNoncrossing:IF:=⟨[],1,14,[1],zq (zi (.cs .v (.b false)) []) (zs 0<|zn 13 [])<|
 .seq (zq (zp 1<|zi (.ca 478 [.e 0] 1)<|zi (.un .not (.e 14)) []) (zs 0<|zn 5<|zs 15<|zn 7 [])<|
 .cond 6 (zq (zi (.cs .v (.b false)) []) (zn 1<|zs 14<|zn 12 [])<|
 .ret) .skip)<|
 .seq (zq (zp 1<|zi (.ln (.e 0) [])<|zi (.cs .v (.n 0)) []) (zs 0<|zn 6<|zs 14<|zs 15<|zn 5 [])<|
 .block 0<|.loop<|zq (zi (.bi .lss (.e 8) (.e 7)) []) (zs 0<|zn 6<|zs 7<|zs 8<|zs 14<|zn 4 [])<|
 .seq (.cond 9 .skip (.exit 0))<|
 .seq (.block 1<|zq (zp 2 []) (zs 0<|zn 1<|zs 8<|zn 4<|zs 7<|zs 8<|zn 5 [])<|
 zq (zp 1<|zi (.bi .add (.e 2) (.c (.n 1)))<|zp 1 []) (zs 0<|zn 1<|zs 2<|zs 14<|zn 3<|zs 7<|zs 8<|zn 5 [])<|
 .block 2<|.loop<|.seq (zq (zp 2<|zi (.ln (.e 0) [])<|zi (.bi .lss (.e 3) (.e 14)) []) (zs 0<|zn 1<|zs 2<|zs 3<|zn 3<|zs 7<|zs 8<|zn 1<|zs 15<|zn 3 [])<|
 .cond 10 .skip (.exit 2))<|
 .seq (.block 3<|zq (zp 1<|zi (.bi .add (.e 3) (.c (.n 1)))<|zp 1 []) (zs 0<|zn 1<|zs 2<|zs 3<|zs 14<|zn 2<|zs 7<|zs 8<|zn 5 [])<|
 .block 4<|.loop<|.seq (zq (zp 2<|zi (.ln (.e 0) [])<|zi (.bi .lss (.e 4) (.e 14)) []) (zs 0<|zn 1<|zs 2<|zs 3<|zs 4<|zn 2<|zs 7<|zs 8<|zn 2<|zs 15<|zn 2 [])<|
 .cond 11 .skip (.exit 4))<|
 .seq (.block 5<|zq (zp 1<|zi (.bi .add (.e 4) (.c (.n 1)))<|zp 1 []) (zs 0<|zn 1<|zs 2<|zs 3<|zs 4<|zs 14<|zn 1<|zs 7<|zs 8<|zn 5 [])<|
 .block 6<|.loop<|.seq (zq (zp 2<|zi (.ln (.e 0) [])<|zi (.bi .lss (.e 5) (.e 14)) []) (zs 0<|zn 1<|zs 2<|zs 3<|zs 4<|zs 5<|zn 1<|zs 7<|zs 8<|zn 3<|zs 15<|zn 1 [])<|
 .cond 12 .skip (.exit 6))<|
 .seq (.block 7<|zq (zp 2<|zi (.iy (.e 0) (.e 2))<|zp 3<|zi (.iy (.e 0) (.e 4))<|zp 1<|zi (.bi .eql (.e 14) (.e 15))<|zp 1<|zg [(16,true)] .nop<|zg [(16,true)] (.cy (.e 3))<|zg [(16,true)] (.iy (.e 0) (.e 17))<|zg [(16,true)] .nop<|zg [(16,true)] .nop<|zg [(16,true)] (.cy (.e 5))<|zg [(16,true)] (.iy (.e 0) (.e 19))<|zg [(16,true)] .nop<|zg [(16,true)] (.bi .eql (.e 18) (.e 20))<|zi (.pk (.e 16) (.e 21) (.c (.b false)))<|zp 1<|zg [(22,true)] .nop<|zg [(22,true)] (.cy (.e 2))<|zg [(22,true)] (.iy (.e 0) (.e 23))<|zg [(22,true)] .nop<|zg [(22,true)] .nop<|zg [(22,true)] (.cy (.e 3))<|zg [(22,true)] (.iy (.e 0) (.e 25))<|zg [(22,true)] .nop<|zg [(22,true)] (.bi .neq (.e 24) (.e 26))<|zi (.pk (.e 22) (.e 27) (.c (.b false))) []) (zs 0<|zn 1<|zs 2<|zs 3<|zs 4<|zs 5<|zn 1<|zs 7<|zs 8<|zn 4<|zs 28 [])<|
 .cond 13 (zq (zi (.cs .v (.b false)) []) (zn 1<|zs 14<|zn 12 [])<|
 .ret) .skip)<|
 .reg (zp 1<|zi (.bi .add (.e 5) (.c (.n 1)))<|zp 1 []) (zs 0<|zn 1<|zs 2<|zs 3<|zs 4<|zs 14<|zn 1<|zs 7<|zs 8<|zn 5 []))<|
 .reg (zp 1<|zi (.bi .add (.e 4) (.c (.n 1)))<|zp 1 []) (zs 0<|zn 1<|zs 2<|zs 3<|zs 14<|zn 2<|zs 7<|zs 8<|zn 5 []))<|
 .reg (zp 1<|zi (.bi .add (.e 3) (.c (.n 1)))<|zp 1 []) (zs 0<|zn 1<|zs 2<|zs 14<|zn 3<|zs 7<|zs 8<|zn 5 []))<|
 .reg (zi (.bi .add (.e 8) (.c (.n 1)))<|zp 1 []) (zs 0<|zn 6<|zs 7<|zs 14<|zn 5 []))<|
 zq (zi (.cs .v (.b true)) []) (zn 1<|zs 14<|zn 12 [])<|
 .ret⟩
def ir_impl_IsPartition:IF:=⟨[],1,10,[1],zq (zi (.cs .v (.b false)) []) (zs 0<|zn 9 [])<|
 .seq (zq (zp 1<|zi (.ln (.e 0) [])<|zi (.bi .gtr (.e 10) (.c (.n 8))) []) (zs 0<|zn 3<|zs 11<|zn 5 [])<|
 .cond 4 (zq (zi (.cs .v (.b false)) []) (zn 1<|zs 10<|zn 8 [])<|
 .ret) .skip)<|
 zq (zi (.cs .v (.n 0)) []) (zs 0<|zn 1<|zs 10<|zn 7 [])<|
 .seq (zq (zp 1<|zi (.ln (.e 0) [])<|zi (.cs .v (.n 0)) []) (zn 2<|zs 2<|zn 2<|zs 0<|zs 10<|zs 11<|zn 2 [])<|
 .block 0<|.loop<|zq (zi (.bi .lss (.e 7) (.e 6)) []) (zn 2<|zs 2<|zn 2<|zs 5<|zs 6<|zs 7<|zs 10<|zn 1 [])<|
 .seq (.cond 8 .skip (.exit 0))<|
 .seq (.block 1<|zq (zi (.iy (.e 5) (.e 7))<|zp 2 []) (zn 2<|zs 2<|zs 10<|zn 1<|zs 5<|zs 6<|zs 7<|zn 2 [])<|
 .seq (zq (zp 2<|zi (.ca 23 [.e 3,.c (.n 0),.e 2] 1)<|zi (.un .not (.e 10)) []) (zn 2<|zs 2<|zs 3<|zn 1<|zs 5<|zs 6<|zs 7<|zn 1<|zs 11 [])<|
 .cond 9 (zq (zi (.cs .v (.b false)) []) (zn 1<|zs 10<|zn 8 [])<|
 .ret) .skip)<|
 .reg (zp 2<|zi (.bi .add (.e 3) (.c (.n 1)))<|zi (.mx (.e 2) (.e 10))<|zp 1 []) (zn 2<|zs 11<|zn 2<|zs 5<|zs 6<|zs 7<|zn 2 []))<|
 .reg (zi (.bi .add (.e 7) (.c (.n 1)))<|zp 1 []) (zn 2<|zs 2<|zn 2<|zs 5<|zs 6<|zs 10<|zn 2 []))<|
 zq (zi (.cs .v (.b true)) []) (zn 1<|zs 10<|zn 8 [])<|
 .ret⟩
def ir_impl_PartitionOf:IF:=⟨[],1,14,[1,2],zq (zi (.cs (.o .v) (.l []))<|zi (.cs .v (.b false)) []) (zs 0<|zn 13 [])<|
 .seq (zq (zp 1<|zi (.ca 67 [.e 0] 1)<|zi (.un .not (.e 14)) []) (zs 0<|zn 8<|zs 15<|zn 4 [])<|
 .cond 9 (zq (zi (.li (.o .v) [])<|zp 1<|zi (.cs .v (.b false)) []) (zn 1<|zs 14<|zs 15<|zn 11 [])<|
 .ret) .skip)<|
 zq (zp 1<|zi (.ca 373 [.e 0] 1)<|zp 1 []) (zs 0<|zn 2<|zs 14<|zn 10 [])<|
 zq (zp 1<|zi (.sn (.e 0))<|zi (.mk (.n 0) (.e 14) (.e 14))<|zp 1 []) (zs 0<|zn 2<|zs 3<|zs 15<|zn 9 [])<|
 zq (zi (.cs .v (.n 0)) []) (zs 0<|zn 2<|zs 3<|zs 4<|zs 14<|zn 8 [])<|
 .seq (zq (zi (.cs .v (.n 1)) []) (zs 0<|zn 2<|zs 3<|zs 4<|zs 5<|zs 14<|zn 7 [])<|
 .block 0<|.loop<|.seq (zq (zp 2<|zi (.sn (.e 0))<|zi (.bi .lss (.e 6) (.e 14)) []) (zs 0<|zn 2<|zs 3<|zs 4<|zs 5<|zs 6<|zn 3<|zs 15<|zn 3 [])<|
 .cond 10 .skip (.exit 0))<|
 .seq (.block 1<|.seq (zq (zp 2<|zi (.sx (.e 0) (.e 6))<|zi (.bi .eql (.e 14) (.c (.y 100)))<|zp 1<|zg [(15,true)] (.cy (.e 0))<|zg [(15,true)] (.cy (.e 6))<|zg [(15,true)] (.bi .sub (.e 17) (.c (.n 1)))<|zg [(15,true)] (.sx (.e 16) (.e 18))<|zg [(15,true)] (.bi .eql (.e 19) (.c (.y 117)))<|zi (.pk (.e 15) (.e 20) (.c (.b false))) []) (zs 0<|zn 2<|zs 3<|zs 4<|zs 5<|zs 6<|zn 4<|zs 21<|zn 2 [])<|
 .cond 11 (.reg (zp 1<|zi (.bi .add (.e 5) (.c (.n 1)))<|zp 1 []) (zs 0<|zn 2<|zs 3<|zs 4<|zs 14<|zs 6<|zn 7 [])) .skip)<|
 .reg (zp 3<|zi (.ix (.e 4) [] (.e 6))<|zi (.up 4 [.e 6] (.e 5)) []) (zs 0<|zn 2<|zs 3<|zs 15<|zs 5<|zs 6<|zn 7 []))<|
 .reg (zp 1<|zi (.bi .add (.e 6) (.c (.n 1)))<|zp 1 []) (zs 0<|zn 2<|zs 3<|zs 4<|zs 5<|zs 14<|zn 7 []))<|
 zq (zi (.li (.o .v) [])<|zp 1 []) (zs 0<|zn 2<|zs 3<|zs 4<|zn 2<|zs 14<|zn 6 [])<|
 .seq (zq (zi (.cs .v (.n 0)) []) (zs 0<|zn 2<|zs 3<|zs 4<|zn 2<|zs 7<|zs 14<|zn 5 [])<|
 .block 2<|.loop<|.seq (zq (zp 2<|zi (.sn (.e 0))<|zi (.bi .lss (.e 8) (.e 14)) []) (zs 0<|zn 2<|zs 3<|zs 4<|zn 2<|zs 7<|zs 8<|zn 3<|zs 15<|zn 1 [])<|
 .cond 12 .skip (.exit 2))<|
 .seq (.block 3<|zq (zp 2<|zi (.sx (.e 0) (.e 8))<|zi (.bi .eql (.e 14) (.c (.y 117))) []) (zs 0<|zn 2<|zs 3<|zs 4<|zn 2<|zs 7<|zs 8<|zn 4<|zs 15 [])<|
 .cond 13 (.reg (zp 4<|zi (.ix (.e 3) [] (.e 8))<|zp 1<|zi (.ix (.e 4) [] (.e 14))<|zp 1<|zi (.li (.o .v) [.e 15])<|zi (.ap false (.e 7) (.e 16))<|zp 1 []) (zs 0<|zn 2<|zs 3<|zs 4<|zn 2<|zs 17<|zs 8<|zn 5 [])) .skip)<|
 .reg (zp 1<|zi (.bi .add (.e 8) (.c (.n 1)))<|zp 1 []) (zs 0<|zn 2<|zs 3<|zs 4<|zn 2<|zs 7<|zs 14<|zn 5 []))<|
 zq (zp 1<|zi (.ca 475 [.e 7] 2)<|zp 4 []) (zn 1<|zs 14<|zs 15<|zn 11 [])<|
 .ret⟩
def ir_impl_RenumberBlocks:IF:=⟨[],1,21,[1,2],zq (zi (.cs (.o .v) (.l []))<|zi (.cs .v (.b false)) []) (zs 0<|zn 20 [])<|
 .seq (zq (zp 1<|zi (.ln (.e 0) [])<|zi (.bi .gtr (.e 21) (.c (.n 8))) []) (zs 0<|zn 9<|zs 22<|zn 10 [])<|
 .cond 10 (zq (zi (.li (.o .v) [])<|zp 1<|zi (.cs .v (.b false)) []) (zn 1<|zs 21<|zs 22<|zn 18 [])<|
 .ret) .skip)<|
 zq (zi (.li (.o .v) [])<|zp 1 []) (zs 0<|zn 2<|zs 21<|zn 17 [])<|
 zq (zi (.cs .v (.n 0)) []) (zs 0<|zn 2<|zs 3<|zs 21<|zn 16 [])<|
 .seq (zq (zp 1<|zi (.ln (.e 0) [])<|zi (.cs .v (.n 0)) []) (zs 0<|zn 2<|zs 3<|zs 4<|zn 6<|zs 0<|zs 21<|zs 22<|zn 7 [])<|
 .block 0<|.loop<|zq (zi (.bi .lss (.e 13) (.e 12)) []) (zs 0<|zn 2<|zs 3<|zs 4<|zn 6<|zs 11<|zs 12<|zs 13<|zs 21<|zn 6 [])<|
 .seq (.cond 14 .skip (.exit 0))<|
 .seq (.block 1<|zq (zp 1<|zi (.iy (.e 11) (.e 13))<|zp 3 []) (zs 0<|zn 2<|zs 3<|zs 4<|zs 13<|zs 21<|zn 4<|zs 11<|zs 12<|zs 13<|zn 7 [])<|
 zq (zp 2 []) (zs 0<|zn 2<|zs 3<|zs 4<|zs 5<|zs 6<|zs 4<|zn 3<|zs 11<|zs 12<|zs 13<|zn 7 [])<|
 .seq (zq (zp 2<|zi (.sb false (.e 0) none (some (.e 5)))<|zi (.ln (.e 21) [])<|zi (.cs .v (.n 0)) []) (zs 0<|zn 2<|zs 3<|zs 4<|zn 1<|zs 6<|zs 7<|zn 3<|zs 11<|zs 12<|zs 13<|zn 1<|zs 21<|zs 22<|zs 23<|zn 3 [])<|
 .block 2<|.loop<|zq (zi (.bi .lss (.e 17) (.e 16)) []) (zs 0<|zn 2<|zs 3<|zs 4<|zn 1<|zs 6<|zs 7<|zn 3<|zs 11<|zs 12<|zs 13<|zn 1<|zs 15<|zs 16<|zs 17<|zs 21<|zn 2 [])<|
 .seq (.cond 18 .skip (.exit 2))<|
 .seq (.block 3<|zq (zp 1<|zi (.iy (.e 15) (.e 17))<|zp 3 []) (zs 0<|zn 2<|zs 3<|zs 4<|zn 1<|zs 6<|zs 7<|zs 17<|zs 21<|zn 1<|zs 11<|zs 12<|zs 13<|zn 1<|zs 15<|zs 16<|zs 17<|zn 3 [])<|
 zq (zp 2<|zi (.bi .eql (.e 6) (.e 9)) []) (zs 0<|zn 2<|zs 3<|zs 4<|zn 1<|zs 6<|zs 7<|zs 8<|zn 2<|zs 11<|zs 12<|zs 13<|zn 1<|zs 15<|zs 16<|zs 17<|zn 1<|zs 21<|zn 1 [])<|
 .cond 19 (zq (zp 2<|zi (.ix (.e 3) [] (.e 8))<|zp 2 []) (zs 0<|zn 2<|zs 3<|zs 4<|zn 2<|zs 21<|zn 3<|zs 11<|zs 12<|zs 13<|zn 7 [])<|
 .exit 2) .skip)<|
 .reg (zi (.bi .add (.e 17) (.c (.n 1)))<|zp 1 []) (zs 0<|zn 2<|zs 3<|zs 4<|zn 1<|zs 6<|zs 7<|zn 3<|zs 11<|zs 12<|zs 13<|zn 1<|zs 15<|zs 16<|zs 21<|zn 3 []))<|
 .seq (zq (zp 2<|zi (.bi .eql (.e 7) (.e 4)) []) (zs 0<|zn 2<|zs 3<|zs 4<|zn 2<|zs 7<|zn 3<|zs 11<|zs 12<|zs 13<|zn 6<|zs 21 [])<|
 .cond 20 (.reg (zp 1<|zi (.bi .add (.e 4) (.c (.n 1)))<|zp 1 []) (zs 0<|zn 2<|zs 3<|zs 21<|zn 2<|zs 7<|zn 3<|zs 11<|zs 12<|zs 13<|zn 7 [])) .skip)<|
 .reg (zp 2<|zi (.li (.o .v) [.e 7])<|zi (.ap false (.e 3) (.e 21))<|zp 1 []) (zs 0<|zn 2<|zs 22<|zs 4<|zn 6<|zs 11<|zs 12<|zs 13<|zn 7 []))<|
 .reg (zi (.bi .add (.e 13) (.c (.n 1)))<|zp 1 []) (zs 0<|zn 2<|zs 3<|zs 4<|zn 6<|zs 11<|zs 12<|zs 21<|zn 7 []))<|
 zq (zp 2<|zi (.cs .v (.b true)) []) (zn 1<|zs 3<|zs 21<|zn 18 [])<|
 .ret⟩
def ir_impl_TurnPartition:IF:=⟨[],1,5,[1,2],zq (zi (.cs (.o .v) (.l []))<|zi (.cs .v (.b false)) []) (zs 0<|zn 4 [])<|
 .seq (zq (zp 1<|zi (.ca 478 [.e 0] 1)<|zi (.un .not (.e 5)) []) (zs 0<|zn 2<|zs 6<|zn 1 [])<|
 .cond 3 (zq (zi (.li (.o .v) [])<|zp 1<|zi (.cs .v (.b false)) []) (zn 1<|zs 5<|zs 6<|zn 2 [])<|
 .ret) .skip)<|
 .seq (zq (zp 1<|zi (.ln (.e 0) [])<|zi (.bi .eql (.e 5) (.c (.n 0))) []) (zs 0<|zn 3<|zs 6 [])<|
 .cond 4 (zq (zi (.li (.o .v) [])<|zp 1<|zi (.cs .v (.b true)) []) (zn 1<|zs 5<|zs 6<|zn 2 [])<|
 .ret) .skip)<|
 zq (zp 2<|zi (.ln (.e 0) [])<|zi (.bi .sub (.e 5) (.c (.n 1)))<|zi (.iy (.e 0) (.e 6))<|zp 1<|zi (.li (.o .v) [.e 7])<|zp 2<|zi (.ln (.e 0) [])<|zi (.bi .sub (.e 9) (.c (.n 1)))<|zi (.sb false (.e 0) none (some (.e 10)))<|zi (.ap true (.e 8) (.e 11))<|zi (.ca 475 [.e 12] 2)<|zp 4 []) (zn 1<|zs 13<|zs 14<|zn 2 [])<|
 .ret⟩
end Go.Cat
namespace Go.Cat
def ir_impl_IsMatching:IF:=⟨[],1,10,[1],zq (zi (.cs .v (.b false)) []) (zs 0<|zn 9 [])<|
 .seq (zq (zp 1<|zi (.ln (.e 0) [])<|zi (.bi .gtr (.e 10) (.c (.n 16))) []) (zs 0<|zn 3<|zs 11<|zn 5 [])<|
 .cond 4 (zq (zi (.cs .v (.b false)) []) (zn 1<|zs 10<|zn 8 [])<|
 .ret) .skip)<|
 .seq (zq (zp 1<|zi (.ln (.e 0) [])<|zi (.cs .v (.n 0)) []) (zs 0<|zn 4<|zs 0<|zs 10<|zs 11<|zn 2 [])<|
 .block 0<|.loop<|zq (zi (.bi .lss (.e 7) (.e 6)) []) (zs 0<|zn 4<|zs 5<|zs 6<|zs 7<|zs 10<|zn 1 [])<|
 .seq (.cond 8 .skip (.exit 0))<|
 .seq (.block 1<|zq (zp 1<|zi (.iy (.e 5) (.e 7))<|zp 3 []) (zs 0<|zn 1<|zs 7<|zs 10<|zn 1<|zs 5<|zs 6<|zs 7<|zn 2 [])<|
 zq (zp 2<|zi (.ln (.e 0) [])<|zi (.bi .sub (.e 10) (.c (.n 1)))<|zi (.ca 23 [.e 3,.c (.n 0),.e 11] 1)<|zi (.un .not (.e 12))<|zp 1<|zg [(13,false)] (.cy (.e 3))<|zg [(13,false)] (.cy (.e 2))<|zg [(13,false)] (.bi .eql (.e 14) (.e 15))<|zi (.pk (.e 13) (.c (.b true)) (.e 16))<|zp 1<|zg [(17,false)] .nop<|zg [(17,false)] (.cy (.e 3))<|zg [(17,false)] (.iy (.e 0) (.e 18))<|zg [(17,false)] .nop<|zg [(17,false)] (.cy (.e 2))<|zg [(17,false)] (.bi .neq (.e 19) (.e 20))<|zi (.pk (.e 17) (.c (.b true)) (.e 21)) []) (zs 0<|zn 4<|zs 5<|zs 6<|zs 7<|zn 1<|zs 22 [])<|
 .cond 9 (zq (zi (.cs .v (.b false)) []) (zn 1<|zs 10<|zn 8 [])<|
 .ret) .skip)<|
 .reg (zi (.bi .add (.e 7) (.c (.n 1)))<|zp 1 []) (zs 0<|zn 4<|zs 5<|zs 6<|zs 10<|zn 2 []))<|
 zq (zi (.cs .v (.b true)) []) (zn 1<|zs 10<|zn 8 [])<|
 .ret⟩
def ir_impl_MatchingOfPartition:IF:=⟨[],1,17,[1,2],zq (zi (.cs (.o .v) (.l []))<|zi (.cs .v (.b false)) []) (zs 0<|zn 16 [])<|
 .seq (zq (zp 1<|zi (.ca 436 [.e 0] 1)<|zi (.un .not (.e 17)) []) (zs 0<|zn 7<|zs 18<|zn 8 [])<|
 .cond 8 (zq (zi (.li (.o .v) [])<|zp 1<|zi (.cs .v (.b false)) []) (zn 1<|zs 17<|zs 18<|zn 14 [])<|
 .ret) .skip)<|
 zq (zp 1<|zi (.ln (.e 0) [])<|zi (.bi .mul (.c (.n 2)) (.e 17))<|zi (.mk (.n 0) (.e 18) (.e 18))<|zp 1 []) (zs 0<|zn 2<|zs 19<|zn 13 [])<|
 .seq (zq (zp 1<|zi (.ca 479 [.e 0] 1)<|zi (.ln (.e 17) [])<|zi (.cs .v (.n 0)) []) (zn 3<|zs 3<|zn 5<|zs 17<|zs 18<|zs 19<|zn 5 [])<|
 .block 0<|.loop<|zq (zi (.bi .lss (.e 11) (.e 10)) []) (zn 3<|zs 3<|zn 5<|zs 9<|zs 10<|zs 11<|zs 17<|zn 4 [])<|
 .seq (.cond 12 .skip (.exit 0))<|
 .seq (.block 1<|zq (zi (.ix (.e 9) [] (.e 11))<|zp 2 []) (zn 3<|zs 3<|zs 17<|zn 4<|zs 9<|zs 10<|zs 11<|zn 5 [])<|
 zq (zp 1<|zi (.ln (.e 4) [])<|zi (.cs .v (.n 0)) []) (zn 3<|zs 3<|zs 4<|zn 4<|zs 9<|zs 10<|zs 11<|zn 1<|zs 4<|zs 17<|zs 18<|zn 1 [])<|
 .block 2<|.loop<|zq (zi (.bi .lss (.e 15) (.e 14)) []) (zn 3<|zs 3<|zs 4<|zn 4<|zs 9<|zs 10<|zs 11<|zn 1<|zs 13<|zs 14<|zs 15<|zs 17 [])<|
 .seq (.cond 16 .skip (.exit 2))<|
 .seq (.block 3<|zq (zp 1<|zi (.ix (.e 13) [] (.e 15))<|zp 3 []) (zn 3<|zs 3<|zs 4<|zs 15<|zs 17<|zn 2<|zs 9<|zs 10<|zs 11<|zn 1<|zs 13<|zs 14<|zs 15<|zn 1 [])<|
 zq (zp 2<|zi (.bi .add (.e 5) (.c (.n 1)))<|zp 1<|zi (.ln (.e 4) [])<|zi (.bi .rem (.e 17) (.e 18))<|zi (.ix (.e 4) [] (.e 19))<|zp 2 []) (zn 3<|zs 3<|zs 4<|zn 1<|zs 6<|zs 20<|zn 1<|zs 9<|zs 10<|zs 11<|zn 1<|zs 13<|zs 14<|zs 15<|zn 1 [])<|
 zq (zp 2<|zi (.bi .mul (.c (.n 2)) (.e 6))<|zi (.bi .add (.e 17) (.c (.n 1)))<|zp 1<|zi (.bi .mul (.c (.n 2)) (.e 7))<|zi (.ix (.e 3) [] (.e 18))<|zi (.up 3 [.e 18] (.e 19)) []) (zn 3<|zs 21<|zs 4<|zn 1<|zs 6<|zs 7<|zn 1<|zs 9<|zs 10<|zs 11<|zn 1<|zs 13<|zs 14<|zs 15<|zn 1 [])<|
 .reg (zp 2<|zi (.bi .mul (.c (.n 2)) (.e 7))<|zp 1<|zi (.bi .mul (.c (.n 2)) (.e 6))<|zi (.bi .add (.e 18) (.c (.n 1)))<|zi (.ix (.e 3) [] (.e 17))<|zi (.up 3 [.e 17] (.e 19)) []) (zn 3<|zs 21<|zs 4<|zn 4<|zs 9<|zs 10<|zs 11<|zn 1<|zs 13<|zs 14<|zs 15<|zn 1 []))<|
 .reg (zi (.bi .add (.e 15) (.c (.n 1)))<|zp 1 []) (zn 3<|zs 3<|zs 4<|zn 4<|zs 9<|zs 10<|zs 11<|zn 1<|zs 13<|zs 14<|zs 17<|zn 1 []))<|
 .reg (zi (.bi .add (.e 11) (.c (.n 1)))<|zp 1 []) (zn 3<|zs 3<|zn 5<|zs 9<|zs 10<|zs 17<|zn 5 []))<|
 zq (zp 2<|zi (.cs .v (.b true)) []) (zn 1<|zs 3<|zs 17<|zn 14 [])<|
 .ret⟩
def ir_impl_TurnMatching:IF:=⟨[],2,13,[2,3],zq (zi (.cs (.o .v) (.l []))<|zi (.cs .v (.b false)) []) (zs 0<|zs 1<|zn 11 [])<|
 .seq (zq (zp 1<|zi (.ca 380 [.e 0] 1)<|zi (.un .not (.e 13))<|zp 1<|zg [(14,false)] (.cy (.e 1))<|zg [(14,false)] .nop<|zg [(14,false)] (.ln (.e 0) [])<|zg [(14,false)] (.bi .sub (.e 16) (.c (.n 1)))<|zg [(14,false)] (.mx (.c (.n 0)) (.e 17))<|zg [(14,false)] (.ca 23 [.e 15,.c (.n 0),.e 18] 1)<|zg [(14,false)] (.un .not (.e 19))<|zi (.pk (.e 14) (.c (.b true)) (.e 20)) []) (zs 0<|zs 1<|zn 6<|zs 21<|zn 4 [])<|
 .cond 8 (zq (zi (.li (.o .v) [])<|zp 1<|zi (.cs .v (.b false)) []) (zn 2<|zs 13<|zs 14<|zn 9 [])<|
 .ret) .skip)<|
 zq (zp 1<|zi (.ln (.e 0) [])<|zp 1 []) (zs 0<|zs 1<|zn 2<|zs 13<|zn 8 [])<|
 zq (zp 1<|zi (.mk (.n 0) (.e 4) (.e 4))<|zp 1 []) (zs 0<|zs 1<|zn 2<|zs 4<|zs 13<|zn 7 [])<|
 .seq (zq (zp 1<|zi (.ln (.e 0) [])<|zi (.cs .v (.n 0)) []) (zn 1<|zs 1<|zn 2<|zs 4<|zs 5<|zn 3<|zs 0<|zs 13<|zs 14<|zn 1 [])<|
 .block 0<|.loop<|zq (zi (.bi .lss (.e 11) (.e 10)) []) (zn 1<|zs 1<|zn 2<|zs 4<|zs 5<|zn 3<|zs 9<|zs 10<|zs 11<|zs 13 [])<|
 .seq (.cond 12 .skip (.exit 0))<|
 .seq (.block 1<|zq (zp 1<|zi (.iy (.e 9) (.e 11))<|zp 3 []) (zn 1<|zs 1<|zn 2<|zs 4<|zs 5<|zs 11<|zs 13<|zn 1<|zs 9<|zs 10<|zs 11<|zn 1 [])<|
 .reg (zp 3<|zi (.bi .sub (.e 6) (.e 1))<|zp 1<|zi (.bi .add (.e 13) (.e 4))<|zp 1<|zi (.bi .rem (.e 14) (.e 4))<|zp 2<|zi (.bi .sub (.e 7) (.e 1))<|zp 1<|zi (.bi .add (.e 16) (.e 4))<|zp 1<|zi (.bi .rem (.e 17) (.e 4))<|zi (.ix (.e 5) [] (.e 15))<|zi (.up 5 [.e 15] (.e 18)) []) (zn 1<|zs 1<|zn 2<|zs 4<|zs 20<|zn 3<|zs 9<|zs 10<|zs 11<|zn 1 []))<|
 .reg (zi (.bi .add (.e 11) (.c (.n 1)))<|zp 1 []) (zn 1<|zs 1<|zn 2<|zs 4<|zs 5<|zn 3<|zs 9<|zs 10<|zs 13<|zn 1 []))<|
 zq (zp 2<|zi (.cs .v (.b true)) []) (zn 2<|zs 5<|zs 13<|zn 9 [])<|
 .ret⟩
end Go.Cat
namespace Go.Cat
def ir_impl_CoarserJoin:IF:=⟨[],2,15,[2,3],zq (zi (.cs (.o .v) (.l []))<|zi (.cs .v (.b false)) []) (zs 0<|zs 1<|zn 13 [])<|
 .seq (zq (zp 1<|zi (.ca 436 [.e 0] 1)<|zi (.un .not (.e 15))<|zp 1<|zg [(16,false)] .nop<|zg [(16,false)] (.ca 436 [.e 1] 1)<|zg [(16,false)] (.un .not (.e 17))<|zi (.pk (.e 16) (.c (.b true)) (.e 18))<|zp 1<|zg [(19,false)] .nop<|zg [(19,false)] (.ln (.e 0) [])<|zg [(19,false)] .nop<|zg [(19,false)] (.ln (.e 1) [])<|zg [(19,false)] (.bi .neq (.e 20) (.e 21))<|zi (.pk (.e 19) (.c (.b true)) (.e 22)) []) (zs 0<|zs 1<|zn 5<|zs 23<|zn 7 [])<|
 .cond 7 (zq (zi (.li (.o .v) [])<|zp 1<|zi (.cs .v (.b false)) []) (zn 2<|zs 15<|zs 16<|zn 11 [])<|
 .ret) .skip)<|
 zq (zp 1<|zi (.ca 75 [.e 0] 1)<|zp 1 []) (zn 1<|zs 1<|zn 2<|zs 15<|zn 10 [])<|
 .seq (zq (zp 1<|zi (.ln (.e 1) [])<|zi (.cs .v (.n 0)) []) (zn 1<|zs 1<|zn 2<|zs 4<|zn 3<|zs 15<|zs 16<|zn 5 [])<|
 .block 0<|.loop<|zq (zi (.bi .lss (.e 9) (.e 8)) []) (zn 1<|zs 1<|zn 2<|zs 4<|zn 3<|zs 8<|zs 9<|zs 15<|zn 4 [])<|
 .seq (.cond 10 .skip (.exit 0))<|
 .seq (.block 1<|zq (zp 2 []) (zn 1<|zs 1<|zn 2<|zs 4<|zs 9<|zn 2<|zs 8<|zs 9<|zn 5 [])<|
 zq (zp 1<|zi (.cs .v (.n 0)) []) (zn 1<|zs 1<|zn 2<|zs 4<|zs 5<|zn 2<|zs 8<|zs 9<|zn 1<|zs 5<|zs 15<|zn 2 [])<|
 .block 2<|.loop<|zq (zi (.bi .lss (.e 12) (.e 11)) []) (zn 1<|zs 1<|zn 2<|zs 4<|zs 5<|zn 2<|zs 8<|zs 9<|zn 1<|zs 11<|zs 12<|zs 15<|zn 1 [])<|
 .seq (.cond 13 .skip (.exit 2))<|
 .seq (.block 3<|zq (zp 2 []) (zn 1<|zs 1<|zn 2<|zs 4<|zs 5<|zs 12<|zn 1<|zs 8<|zs 9<|zn 1<|zs 11<|zs 12<|zn 2 [])<|
 zq (zp 2<|zi (.iy (.e 1) (.e 5))<|zp 3<|zi (.iy (.e 1) (.e 6))<|zp 1<|zi (.bi .eql (.e 15) (.e 16)) []) (zn 1<|zs 1<|zn 2<|zs 4<|zs 5<|zs 6<|zn 1<|zs 8<|zs 9<|zn 1<|zs 11<|zs 12<|zn 1<|zs 17 [])<|
 .cond 14 (.reg (zp 3<|zi (.ca 481 [.e 4,.e 6,.e 5] 1) []) (zn 1<|zs 1<|zn 2<|zs 15<|zs 5<|zn 2<|zs 8<|zs 9<|zn 1<|zs 11<|zs 12<|zn 2 [])) .skip)<|
 .reg (zi (.bi .add (.e 12) (.c (.n 1)))<|zp 1 []) (zn 1<|zs 1<|zn 2<|zs 4<|zs 5<|zn 2<|zs 8<|zs 9<|zn 1<|zs 11<|zs 15<|zn 2 []))<|
 .reg (zi (.bi .add (.e 9) (.c (.n 1)))<|zp 1 []) (zn 1<|zs 1<|zn 2<|zs 4<|zn 3<|zs 8<|zs 15<|zn 5 []))<|
 zq (zp 1<|zi (.ca 482 [.e 4] 2)<|zp 1<|zi (.cs .v (.b true)) []) (zn 2<|zs 15<|zs 17<|zn 11 [])<|
 .ret⟩
def ir_impl_Complement:IF:=⟨[],1,19,[1,2],zq (zi (.cs (.o .v) (.l []))<|zi (.cs .v (.b false)) []) (zs 0<|zn 18 [])<|
 zq (zp 1<|zi (.ca 473 [.e 0] 2)<|zp 5 []) (zs 0<|zn 2<|zs 19<|zs 20<|zn 14 [])<|
 .seq (zq (zp 1<|zi (.un .not (.e 4)) []) (zs 0<|zn 2<|zs 3<|zn 6<|zs 19<|zn 8 [])<|
 .cond 10 (zq (zi (.li (.o .v) [])<|zp 1<|zi (.cs .v (.b false)) []) (zn 1<|zs 19<|zs 20<|zn 16 [])<|
 .ret) .skip)<|
 zq (zp 2 []) (zs 0<|zn 2<|zs 3<|zn 1<|zs 3<|zn 13 [])<|
 .seq (zq (zp 1<|zi (.ln (.e 3) [])<|zi (.bi .gtr (.e 19) (.c (.n 0))) []) (zs 0<|zn 2<|zs 3<|zn 1<|zs 5<|zn 5<|zs 20<|zn 7 [])<|
 .cond 11 (.reg (zp 1<|zi (.ca 474 [.e 3,.c (.n 1)] 2)<|zp 4 []) (zs 0<|zn 4<|zs 19<|zn 13 [])) .skip)<|
 zq (zp 1<|zi (.ln (.e 0) [])<|zi (.mk (.n 0) (.e 19) (.e 19))<|zp 1 []) (zn 5<|zs 5<|zs 20<|zn 12 [])<|
 .seq (zq (zp 1<|zi (.ln (.e 6) [])<|zi (.cs .v (.n 0)) []) (zn 5<|zs 5<|zs 6<|zn 5<|zs 19<|zs 20<|zn 5 [])<|
 .block 0<|.loop<|zq (zi (.bi .lss (.e 13) (.e 12)) []) (zn 5<|zs 5<|zs 6<|zn 5<|zs 12<|zs 13<|zs 19<|zn 4 [])<|
 .seq (.cond 14 .skip (.exit 0))<|
 .seq (.block 1<|zq (zp 2 []) (zn 5<|zs 5<|zs 6<|zs 13<|zn 4<|zs 12<|zs 13<|zn 5 [])<|
 .reg (zp 2<|zi (.ix (.e 6) [] (.e 7))<|zi (.up 6 [.e 7] (.c (.n (-1)))) []) (zn 5<|zs 5<|zs 20<|zn 5<|zs 12<|zs 13<|zn 5 []))<|
 .reg (zi (.bi .add (.e 13) (.c (.n 1)))<|zp 1 []) (zn 5<|zs 5<|zs 6<|zn 5<|zs 12<|zs 19<|zn 5 []))<|
 .seq (zq (zp 1<|zi (.ln (.e 6) [])<|zi (.cs .v (.n 0)) []) (zn 5<|zs 5<|zs 6<|zn 8<|zs 19<|zs 20<|zn 2 [])<|
 .block 2<|.loop<|zq (zi (.bi .lss (.e 16) (.e 15)) []) (zn 5<|zs 5<|zs 6<|zn 8<|zs 15<|zs 16<|zs 19<|zn 1 [])<|
 .seq (.cond 17 .skip (.exit 2))<|
 .seq (.block 3<|zq (zp 2 []) (zn 5<|zs 5<|zs 6<|zn 1<|zs 16<|zn 6<|zs 15<|zs 16<|zn 2 [])<|
 zq (zp 2 []) (zn 5<|zs 5<|zs 6<|zn 1<|zs 8<|zs 8<|zn 5<|zs 15<|zs 16<|zn 2 [])<|
 .block 4<|.loop<|.seq (zq (zp 2<|zi (.ix (.e 6) [] (.e 9))<|zp 1<|zi (.bi .lss (.e 19) (.c (.n 0))) []) (zn 5<|zs 5<|zs 6<|zn 1<|zs 8<|zs 9<|zn 5<|zs 15<|zs 16<|zn 1<|zs 20 [])<|
 .cond 18 .skip (.exit 4))<|
 .seq (.block 5<|.reg (zp 3<|zi (.ix (.e 6) [] (.e 9))<|zi (.up 6 [.e 9] (.e 8)) []) (zn 5<|zs 5<|zs 20<|zn 1<|zs 8<|zs 9<|zn 5<|zs 15<|zs 16<|zn 2 []))<|
 .reg (zp 2<|zi (.bi .mul (.c (.n 2)) (.e 9))<|zi (.bi .add (.e 19) (.c (.n 1)))<|zi (.ix (.e 5) [] (.e 20))<|zp 1<|zi (.bi .quo (.e 21) (.c (.n 2)))<|zp 1 []) (zn 5<|zs 5<|zs 6<|zn 1<|zs 8<|zs 22<|zn 5<|zs 15<|zs 16<|zn 2 []))<|
 .reg (zi (.bi .add (.e 16) (.c (.n 1)))<|zp 1 []) (zn 5<|zs 5<|zs 6<|zn 8<|zs 15<|zs 19<|zn 2 []))<|
 zq (zp 1<|zi (.ca 475 [.e 6] 2)<|zp 4 []) (zn 1<|zs 19<|zs 20<|zn 16 [])<|
 .ret⟩
def ir_impl_CountChains:IF:=⟨[],2,32,[2],zq (zi (.cs .v (.n 0)) []) (zs 0<|zs 1<|zn 30 [])<|
 .seq (zq (zp 1<|zi (.ca 23 [.e 0,.c (.n 0),.c (.n 4)] 1)<|zi (.un .not (.e 32))<|zp 1<|zg [(33,false)] (.cy (.e 1))<|zg [(33,false)] (.ca 23 [.e 34,.c (.n 1),.c (.n 5)] 1)<|zg [(33,false)] (.un .not (.e 35))<|zi (.pk (.e 33) (.c (.b true)) (.e 36)) []) (zs 0<|zs 1<|zn 12<|zs 37<|zn 17 [])<|
 .cond 14 (zq (zi (.cs .v (.n (-1))) []) (zn 2<|zs 32<|zn 29 [])<|
 .ret) .skip)<|
 zq (zp 1<|zi (.ca 486 [.e 0] 1)<|zp 1 []) (zn 1<|zs 1<|zn 1<|zs 32<|zn 28 [])<|
 zq (zp 1<|zi (.ln (.e 3) [])<|zi (.mk (.n 0) (.e 32) (.e 32))<|zp 1 []) (zn 1<|zs 1<|zn 1<|zs 3<|zs 33<|zn 27 [])<|
 .seq (zq (zp 1<|zi (.ln (.e 4) [])<|zi (.cs .v (.n 0)) []) (zn 1<|zs 1<|zn 1<|zs 3<|zs 4<|zn 10<|zs 32<|zs 33<|zn 15 [])<|
 .block 0<|.loop<|zq (zi (.bi .lss (.e 16) (.e 15)) []) (zn 1<|zs 1<|zn 1<|zs 3<|zs 4<|zn 10<|zs 15<|zs 16<|zs 32<|zn 14 [])<|
 .seq (.cond 17 .skip (.exit 0))<|
 .seq (.block 1<|zq (zp 2 []) (zn 1<|zs 1<|zn 1<|zs 3<|zs 4<|zs 16<|zn 9<|zs 15<|zs 16<|zn 15 [])<|
 .reg (zp 2<|zi (.ix (.e 4) [] (.e 5))<|zi (.up 4 [.e 5] (.c (.n 1))) []) (zn 1<|zs 1<|zn 1<|zs 3<|zs 33<|zn 10<|zs 15<|zs 16<|zn 15 []))<|
 .reg (zi (.bi .add (.e 16) (.c (.n 1)))<|zp 1 []) (zn 1<|zs 1<|zn 1<|zs 3<|zs 4<|zn 10<|zs 15<|zs 32<|zn 15 []))<|
 .seq (zq (zi (.cs .v (.n 1)) []) (zn 1<|zs 1<|zn 1<|zs 3<|zs 4<|zn 1<|zs 32<|zn 25 [])<|
 .block 2<|.loop<|.seq (zq (zp 2<|zi (.bi .lss (.e 6) (.e 1)) []) (zn 1<|zs 1<|zn 1<|zs 3<|zs 4<|zn 1<|zs 6<|zn 11<|zs 32<|zn 13 [])<|
 .cond 18 .skip (.exit 2))<|
 .seq (.block 3<|zq (zp 1<|zi (.ln (.e 3) [])<|zi (.mk (.n 0) (.e 32) (.e 32))<|zp 1 []) (zn 1<|zs 1<|zn 1<|zs 3<|zs 4<|zn 1<|zs 6<|zs 33<|zn 24 [])<|
 .seq (zq (zp 1<|zi (.ln (.e 3) [])<|zi (.cs .v (.n 0)) []) (zn 1<|zs 1<|zn 1<|zs 3<|zs 4<|zn 1<|zs 6<|zs 7<|zn 11<|zs 3<|zs 32<|zs 33<|zn 10 [])<|
 .block 4<|.loop<|zq (zi (.bi .lss (.e 21) (.e 20)) []) (zn 1<|zs 1<|zn 1<|zs 3<|zs 4<|zn 1<|zs 6<|zs 7<|zn 11<|zs 19<|zs 20<|zs 21<|zs 32<|zn 9 [])<|
 .seq (.cond 22 .skip (.exit 4))<|
 .seq (.block 5<|zq (zp 1<|zi (.ix (.e 19) [] (.e 21))<|zp 3 []) (zn 1<|zs 1<|zn 1<|zs 3<|zs 4<|zn 1<|zs 6<|zs 7<|zs 21<|zs 32<|zn 9<|zs 19<|zs 20<|zs 21<|zn 10 [])<|
 zq (zp 1<|zi (.ln (.e 3) [])<|zi (.cs .v (.n 0)) []) (zn 1<|zs 1<|zn 1<|zs 3<|zs 4<|zn 1<|zs 6<|zs 7<|zs 8<|zs 9<|zn 9<|zs 19<|zs 20<|zs 21<|zn 1<|zs 3<|zs 32<|zs 33<|zn 6 [])<|
 .block 6<|.loop<|zq (zi (.bi .lss (.e 25) (.e 24)) []) (zn 1<|zs 1<|zn 1<|zs 3<|zs 4<|zn 1<|zs 6<|zs 7<|zs 8<|zs 9<|zn 9<|zs 19<|zs 20<|zs 21<|zn 1<|zs 23<|zs 24<|zs 25<|zs 32<|zn 5 [])<|
 .seq (.cond 26 .skip (.exit 6))<|
 .seq (.block 7<|zq (zp 1<|zi (.ix (.e 23) [] (.e 25))<|zp 3 []) (zn 1<|zs 1<|zn 1<|zs 3<|zs 4<|zn 1<|zs 6<|zs 7<|zs 8<|zs 9<|zs 25<|zs 32<|zn 7<|zs 19<|zs 20<|zs 21<|zn 1<|zs 23<|zs 24<|zs 25<|zn 6 [])<|
 zq (zp 2<|zi (.ca 443 [.e 11,.e 9] 1) []) (zn 1<|zs 1<|zn 1<|zs 3<|zs 4<|zn 1<|zs 6<|zs 7<|zs 8<|zs 9<|zs 10<|zn 8<|zs 19<|zs 20<|zs 21<|zn 1<|zs 23<|zs 24<|zs 25<|zn 1<|zs 32<|zn 4 [])<|
 .cond 27 (.reg (zp 4<|zi (.ix (.e 7) [] (.e 8))<|zp 3<|zi (.ix (.e 4) [] (.e 10))<|zp 1<|zi (.bi .add (.e 32) (.e 33))<|zi (.ix (.e 7) [] (.e 8))<|zi (.up 7 [.e 8] (.e 34)) []) (zn 1<|zs 1<|zn 1<|zs 3<|zs 4<|zn 1<|zs 6<|zs 36<|zs 8<|zs 9<|zn 9<|zs 19<|zs 20<|zs 21<|zn 1<|zs 23<|zs 24<|zs 25<|zn 6 [])) .skip)<|
 .reg (zi (.bi .add (.e 25) (.c (.n 1)))<|zp 1 []) (zn 1<|zs 1<|zn 1<|zs 3<|zs 4<|zn 1<|zs 6<|zs 7<|zs 8<|zs 9<|zn 9<|zs 19<|zs 20<|zs 21<|zn 1<|zs 23<|zs 24<|zs 32<|zn 6 []))<|
 .reg (zi (.bi .add (.e 21) (.c (.n 1)))<|zp 1 []) (zn 1<|zs 1<|zn 1<|zs 3<|zs 4<|zn 1<|zs 6<|zs 7<|zn 11<|zs 19<|zs 20<|zs 32<|zn 10 []))<|
 .reg (zp 2 []) (zn 1<|zs 1<|zn 1<|zs 3<|zs 7<|zn 1<|zs 6<|zn 25 []))<|
 .reg (zp 1<|zi (.bi .add (.e 6) (.c (.n 1)))<|zp 1 []) (zn 1<|zs 1<|zn 1<|zs 3<|zs 4<|zn 1<|zs 32<|zn 25 []))<|
 zq (zi (.cs .v (.n 0)) []) (zn 4<|zs 4<|zn 7<|zs 32<|zn 19 [])<|
 .seq (zq (zp 1<|zi (.ln (.e 4) [])<|zi (.cs .v (.n 0)) []) (zn 12<|zs 12<|zn 15<|zs 4<|zs 32<|zs 33<|zn 1 [])<|
 .block 8<|.loop<|zq (zi (.bi .lss (.e 30) (.e 29)) []) (zn 12<|zs 12<|zn 15<|zs 28<|zs 29<|zs 30<|zs 32 [])<|
 .seq (.cond 31 .skip (.exit 8))<|
 .seq (.block 9<|zq (zi (.ix (.e 28) [] (.e 30))<|zp 2 []) (zn 12<|zs 12<|zs 32<|zn 14<|zs 28<|zs 29<|zs 30<|zn 1 [])<|
 .reg (zp 2<|zi (.bi .add (.e 12) (.e 13))<|zp 1 []) (zn 12<|zs 32<|zn 15<|zs 28<|zs 29<|zs 30<|zn 1 []))<|
 .reg (zi (.bi .add (.e 30) (.c (.n 1)))<|zp 1 []) (zn 12<|zs 12<|zn 15<|zs 28<|zs 29<|zs 32<|zn 1 []))<|
 zq (zp 2 []) (zn 2<|zs 12<|zn 29 [])<|
 .ret⟩
def ir_impl_FinerMeet:IF:=⟨[],2,10,[2,3],zq (zi (.cs (.o .v) (.l []))<|zi (.cs .v (.b false)) []) (zs 0<|zs 1<|zn 8 [])<|
 .seq (zq (zp 1<|zi (.ca 478 [.e 0] 1)<|zi (.un .not (.e 10))<|zp 1<|zg [(11,false)] .nop<|zg [(11,false)] (.ca 478 [.e 1] 1)<|zg [(11,false)] (.un .not (.e 12))<|zi (.pk (.e 11) (.c (.b true)) (.e 13))<|zp 1<|zg [(14,false)] .nop<|zg [(14,false)] (.ln (.e 0) [])<|zg [(14,false)] .nop<|zg [(14,false)] (.ln (.e 1) [])<|zg [(14,false)] (.bi .neq (.e 15) (.e 16))<|zi (.pk (.e 14) (.c (.b true)) (.e 17)) []) (zs 0<|zs 1<|zn 4<|zs 18<|zn 3 [])<|
 .cond 6 (zq (zi (.li (.o .v) [])<|zp 1<|zi (.cs .v (.b false)) []) (zn 2<|zs 10<|zs 11<|zn 6 [])<|
 .ret) .skip)<|
 zq (zi (.li (.o .v) [])<|zp 1 []) (zs 0<|zs 1<|zn 2<|zs 10<|zn 5 [])<|
 .seq (zq (zp 1<|zi (.ln (.e 0) [])<|zi (.cs .v (.n 0)) []) (zs 0<|zs 1<|zn 2<|zs 4<|zn 2<|zs 10<|zs 11<|zn 1 [])<|
 .block 0<|.loop<|zq (zi (.bi .lss (.e 8) (.e 7)) []) (zs 0<|zs 1<|zn 2<|zs 4<|zn 2<|zs 7<|zs 8<|zs 10 [])<|
 .seq (.cond 9 .skip (.exit 0))<|
 .seq (.block 1<|zq (zp 2 []) (zs 0<|zs 1<|zn 2<|zs 4<|zs 8<|zn 1<|zs 7<|zs 8<|zn 1 [])<|
 .reg (zp 3<|zi (.iy (.e 0) (.e 5))<|zp 1<|zi (.bi .mul (.c (.n 100)) (.e 10))<|zp 2<|zi (.iy (.e 1) (.e 5))<|zp 1<|zi (.bi .add (.e 11) (.e 12))<|zi (.li (.o .v) [.e 13])<|zi (.ap false (.e 4) (.e 14))<|zp 1 []) (zs 0<|zs 1<|zn 2<|zs 15<|zn 2<|zs 7<|zs 8<|zn 1 []))<|
 .reg (zi (.bi .add (.e 8) (.c (.n 1)))<|zp 1 []) (zs 0<|zs 1<|zn 2<|zs 4<|zn 2<|zs 7<|zs 10<|zn 1 []))<|
 zq (zp 1<|zi (.ca 475 [.e 4] 2)<|zp 4 []) (zn 2<|zs 10<|zs 11<|zn 6 [])<|
 .ret⟩
def ir_impl_IsFiner:IF:=⟨[],2,13,[2],zq (zi (.cs .v (.b false)) []) (zs 0<|zs 1<|zn 11 [])<|
 .seq (zq (zp 1<|zi (.ca 478 [.e 0] 1)<|zi (.un .not (.e 13))<|zp 1<|zg [(14,false)] .nop<|zg [(14,false)] (.ca 478 [.e 1] 1)<|zg [(14,false)] (.un .not (.e 15))<|zi (.pk (.e 14) (.c (.b true)) (.e 16))<|zp 1<|zg [(17,false)] .nop<|zg [(17,false)] (.ln (.e 0) [])<|zg [(17,false)] .nop<|zg [(17,false)] (.ln (.e 1) [])<|zg [(17,false)] (.bi .neq (.e 18) (.e 19))<|zi (.pk (.e 17) (.c (.b true)) (.e 20)) []) (zs 0<|zs 1<|zn 3<|zs 21<|zn 7 [])<|
 .cond 5 (zq (zi (.cs .v (.b false)) []) (zn 2<|zs 13<|zn 10 [])<|
 .ret) .skip)<|
 .seq (zq (zp 1<|zi (.ln (.e 0) [])<|zi (.cs .v (.n 0)) []) (zs 0<|zs 1<|zn 4<|zs 13<|zs 14<|zn 5 [])<|
 .block 0<|.loop<|zq (zi (.bi .lss (.e 7) (.e 6)) []) (zs 0<|zs 1<|zn 4<|zs 6<|zs 7<|zs 13<|zn 4 [])<|
 .seq (.cond 8 .skip (.exit 0))<|
 .seq (.block 1<|zq (zp 2 []) (zs 0<|zs 1<|zn 1<|zs 7<|zn 2<|zs 6<|zs 7<|zn 5 [])<|
 zq (zp 1<|zi (.ln (.e 0) [])<|zi (.cs .v (.n 0)) []) (zs 0<|zs 1<|zn 1<|zs 3<|zn 2<|zs 6<|zs 7<|zn 1<|zs 13<|zs 14<|zn 2 [])<|
 .block 2<|.loop<|zq (zi (.bi .lss (.e 10) (.e 9)) []) (zs 0<|zs 1<|zn 1<|zs 3<|zn 2<|zs 6<|zs 7<|zn 1<|zs 9<|zs 10<|zs 13<|zn 1 [])<|
 .seq (.cond 11 .skip (.exit 2))<|
 .seq (.block 3<|zq (zp 2 []) (zs 0<|zs 1<|zn 1<|zs 3<|zs 10<|zn 1<|zs 6<|zs 7<|zn 1<|zs 9<|zs 10<|zn 2 [])<|
 zq (zp 2<|zi (.iy (.e 0) (.e 3))<|zp 3<|zi (.iy (.e 0) (.e 4))<|zp 1<|zi (.bi .eql (.e 13) (.e 14))<|zp 1<|zg [(15,true)] .nop<|zg [(15,true)] (.cy (.e 3))<|zg [(15,true)] (.iy (.e 1) (.e 16))<|zg [(15,true)] .nop<|zg [(15,true)] .nop<|zg [(15,true)] (.cy (.e 4))<|zg [(15,true)] (.iy (.e 1) (.e 18))<|zg [(15,true)] .nop<|zg [(15,true)] (.bi .neq (.e 17) (.e 19))<|zi (.pk (.e 15) (.e 20) (.c (.b false))) []) (zs 0<|zs 1<|zn 1<|zs 3<|zn 2<|zs 6<|zs 7<|zn 1<|zs 9<|zs 10<|zn 1<|zs 21 [])<|
 .cond 12 (zq (zi (.cs .v (.b false)) []) (zn 2<|zs 13<|zn 10 [])<|
 .ret) .skip)<|
 .reg (zi (.bi .add (.e 10) (.c (.n 1)))<|zp 1 []) (zs 0<|zs 1<|zn 1<|zs 3<|zn 2<|zs 6<|zs 7<|zn 1<|zs 9<|zs 13<|zn 2 []))<|
 .reg (zi (.bi .add (.e 7) (.c (.n 1)))<|zp 1 []) (zs 0<|zs 1<|zn 4<|zs 6<|zs 13<|zn 5 []))<|
 zq (zi (.cs .v (.b true)) []) (zn 2<|zs 13<|zn 10 [])<|
 .ret⟩
def ir_impl_MoebiusOf:IF:=⟨[],2,6,[2,3],zq (zi (.cs .v (.n 0))<|zi (.cs .v (.b false)) []) (zs 0<|zs 1<|zn 4 [])<|
 .seq (zq (zp 1<|zi (.ca 436 [.e 0] 1)<|zi (.un .not (.e 6))<|zp 1<|zg [(7,false)] .nop<|zg [(7,false)] (.ca 436 [.e 1] 1)<|zg [(7,false)] (.un .not (.e 8))<|zi (.pk (.e 7) (.c (.b true)) (.e 9))<|zp 1<|zg [(10,false)] .nop<|zg [(10,false)] (.ln (.e 0) [])<|zg [(10,false)] .nop<|zg [(10,false)] (.ln (.e 1) [])<|zg [(10,false)] (.bi .neq (.e 11) (.e 12))<|zi (.pk (.e 10) (.c (.b true)) (.e 13))<|zp 1<|zg [(14,false)] .nop<|zg [(14,false)] (.ln (.e 0) [])<|zg [(14,false)] (.bi .gtr (.e 15) (.c (.n 5)))<|zi (.pk (.e 14) (.c (.b true)) (.e 16)) []) (zs 0<|zs 1<|zn 2<|zs 17<|zn 1 [])<|
 .cond 4 (zq (zi (.cs .v (.n 0))<|zi (.cs .v (.b false)) []) (zn 2<|zs 6<|zs 7<|zn 2 [])<|
 .ret) .skip)<|
 .seq (zq (zp 2<|zi (.ca 443 [.e 0,.e 1] 1)<|zi (.un .not (.e 6)) []) (zs 0<|zs 1<|zn 3<|zs 7 [])<|
 .cond 5 (zq (zi (.cs .v (.n 0))<|zi (.cs .v (.b true)) []) (zn 2<|zs 6<|zs 7<|zn 2 [])<|
 .ret) .skip)<|
 zq (zp 1<|zi (.ln (.e 0) [])<|zi (.ca 486 [.e 6] 1)<|zp 2<|zi (.ca 485 [.e 7,.e 0,.e 1] 1)<|zp 1<|zi (.cs .v (.b true)) []) (zn 2<|zs 8<|zs 9<|zn 2 [])<|
 .ret⟩
def ir_impl_NoncrossingClosure:IF:=⟨[],1,4,[1,2],zq (zi (.cs (.o .v) (.l []))<|zi (.cs .v (.b false)) []) (zs 0<|zn 3 [])<|
 .seq (zq (zp 1<|zi (.ca 478 [.e 0] 1)<|zi (.un .not (.e 4)) []) (zs 0<|zn 2<|zs 5 [])<|
 .cond 3 (zq (zi (.li (.o .v) [])<|zp 1<|zi (.cs .v (.b false)) []) (zn 1<|zs 4<|zs 5<|zn 1 [])<|
 .ret) .skip)<|
 zq (zp 1<|zi (.ca 75 [.e 0] 1)<|zi (.ca 482 [.e 4] 2)<|zp 1<|zi (.cs .v (.b true)) []) (zn 1<|zs 5<|zs 7<|zn 1 [])<|
 .ret⟩
def ir_impl_RankOfPartition:IF:=⟨[],1,3,[1],zq (zi (.cs .v (.n 0)) []) (zs 0<|zn 2 [])<|
 .seq (zq (zp 1<|zi (.ca 478 [.e 0] 1)<|zi (.un .not (.e 3)) []) (zs 0<|zn 1<|zs 4 [])<|
 .cond 2 (zq (zi (.cs .v (.n (-1))) []) (zn 1<|zs 3<|zn 1 [])<|
 .ret) .skip)<|
 zq (zp 1<|zi (.ln (.e 0) [])<|zp 1<|zi (.ca 479 [.e 0] 1)<|zi (.ln (.e 4) [])<|zi (.bi .sub (.e 3) (.e 5))<|zp 1 []) (zn 1<|zs 6<|zn 1 [])<|
 .ret⟩
def ir_impl_closure:IF:=⟨[],1,16,[1,0],zq (zi (.cs (.o .v) (.l [])) []) (zs 0<|zn 15 [])<|
 .seq (zq (zi (.cs .v (.b true)) []) (zs 0<|zn 1<|zs 16<|zn 13 [])<|
 .block 0<|.loop<|.seq (zq (zp 1 []) (zs 0<|zn 7<|zs 2<|zn 7 [])<|
 .cond 8 .skip (.exit 0))<|
 .block 1<|zq (zi (.cs .v (.b false)) []) (zs 0<|zn 1<|zs 16<|zn 13 [])<|
 zq (zp 1<|zi (.ln (.e 0) [])<|zi (.cs .v (.n 0)) []) (zs 0<|zn 1<|zs 2<|zn 6<|zs 16<|zs 17<|zn 5 [])<|
 .block 2<|.loop<|zq (zi (.bi .lss (.e 10) (.e 9)) []) (zs 0<|zn 1<|zs 2<|zn 6<|zs 9<|zs 10<|zs 16<|zn 4 [])<|
 .seq (.cond 11 .skip (.exit 2))<|
 .seq (.block 3<|zq (zp 2 []) (zs 0<|zn 1<|zs 2<|zs 10<|zn 5<|zs 9<|zs 10<|zn 5 [])<|
 zq (zp 1<|zi (.bi .add (.e 3) (.c (.n 1)))<|zp 1 []) (zs 0<|zn 1<|zs 2<|zs 3<|zs 16<|zn 4<|zs 9<|zs 10<|zn 5 [])<|
 .block 4<|.loop<|.seq (zq (zp 2<|zi (.ln (.e 0) [])<|zi (.bi .lss (.e 4) (.e 16)) []) (zs 0<|zn 1<|zs 2<|zs 3<|zs 4<|zn 4<|zs 9<|zs 10<|zn 1<|zs 17<|zn 3 [])<|
 .cond 12 .skip (.exit 4))<|
 .seq (.block 5<|zq (zp 1<|zi (.bi .add (.e 4) (.c (.n 1)))<|zp 1 []) (zs 0<|zn 1<|zs 2<|zs 3<|zs 4<|zs 16<|zn 3<|zs 9<|zs 10<|zn 5 [])<|
 .block 6<|.loop<|.seq (zq (zp 2<|zi (.ln (.e 0) [])<|zi (.bi .lss (.e 5) (.e 16)) []) (zs 0<|zn 1<|zs 2<|zs 3<|zs 4<|zs 5<|zn 3<|zs 9<|zs 10<|zn 2<|zs 17<|zn 2 [])<|
 .cond 13 .skip (.exit 6))<|
 .seq (.block 7<|zq (zp 1<|zi (.bi .add (.e 5) (.c (.n 1)))<|zp 1 []) (zs 0<|zn 1<|zs 2<|zs 3<|zs 4<|zs 5<|zs 16<|zn 2<|zs 9<|zs 10<|zn 5 [])<|
 .block 8<|.loop<|.seq (zq (zp 2<|zi (.ln (.e 0) [])<|zi (.bi .lss (.e 6) (.e 16)) []) (zs 0<|zn 1<|zs 2<|zs 3<|zs 4<|zs 5<|zs 6<|zn 2<|zs 9<|zs 10<|zn 3<|zs 17<|zn 1 [])<|
 .cond 14 .skip (.exit 8))<|
 .seq (.block 9<|zq (zp 2<|zi (.ix (.e 0) [] (.e 3))<|zp 3<|zi (.ix (.e 0) [] (.e 5))<|zp 1<|zi (.bi .eql (.e 16) (.e 17))<|zp 1<|zg [(18,true)] .nop<|zg [(18,true)] (.cy (.e 4))<|zg [(18,true)] (.ix (.e 0) [] (.e 19))<|zg [(18,true)] .nop<|zg [(18,true)] .nop<|zg [(18,true)] (.cy (.e 6))<|zg [(18,true)] (.ix (.e 0) [] (.e 21))<|zg [(18,true)] .nop<|zg [(18,true)] (.bi .eql (.e 20) (.e 22))<|zi (.pk (.e 18) (.e 23) (.c (.b false)))<|zp 1<|zg [(24,true)] .nop<|zg [(24,true)] (.cy (.e 3))<|zg [(24,true)] (.ix (.e 0) [] (.e 25))<|zg [(24,true)] .nop<|zg [(24,true)] .nop<|zg [(24,true)] (.cy (.e 4))<|zg [(24,true)] (.ix (.e 0) [] (.e 27))<|zg [(24,true)] .nop<|zg [(24,true)] (.bi .neq (.e 26) (.e 28))<|zi (.pk (.e 24) (.e 29) (.c (.b false))) []) (zs 0<|zn 1<|zs 2<|zs 3<|zs 4<|zs 5<|zs 6<|zn 2<|zs 9<|zs 10<|zn 4<|zs 30 [])<|
 .cond 15 (zq (zp 3<|zi (.ca 481 [.e 0,.e 3,.e 4] 1) []) (zs 16<|zn 2<|zs 3<|zs 4<|zs 5<|zs 6<|zn 2<|zs 9<|zs 10<|zn 5 [])<|
 .reg (zi (.cs .v (.b true)) []) (zs 0<|zn 1<|zs 16<|zs 3<|zs 4<|zs 5<|zs 6<|zn 2<|zs 9<|zs 10<|zn 5 [])) .skip)<|
 .reg (zp 1<|zi (.bi .add (.e 6) (.c (.n 1)))<|zp 1 []) (zs 0<|zn 1<|zs 2<|zs 3<|zs 4<|zs 5<|zs 16<|zn 2<|zs 9<|zs 10<|zn 5 []))<|
 .reg (zp 1<|zi (.bi .add (.e 5) (.c (.n 1)))<|zp 1 []) (zs 0<|zn 1<|zs 2<|zs 3<|zs 4<|zs 16<|zn 3<|zs 9<|zs 10<|zn 5 []))<|
 .reg (zp 1<|zi (.bi .add (.e 4) (.c (.n 1)))<|zp 1 []) (zs 0<|zn 1<|zs 2<|zs 3<|zs 16<|zn 4<|zs 9<|zs 10<|zn 5 []))<|
 .reg (zi (.bi .add (.e 10) (.c (.n 1)))<|zp 1 []) (zs 0<|zn 1<|zs 2<|zn 6<|zs 9<|zs 16<|zn 5 []))<|
 zq (zp 1<|zi (.ca 475 [.e 0] 2)<|zp 5 []) (zs 0<|zn 6<|zs 16<|zn 8 [])<|
 zq (zp 2 []) (zs 0<|zs 7<|zn 14 [])<|
 .ret⟩
def ir_impl_merged:IF:=⟨[],3,10,[0],zq (zp 2<|zi (.ix (.e 0) [] (.e 1))<|zp 3<|zi (.ix (.e 0) [] (.e 2))<|zp 3 []) (zs 0<|zn 2<|zs 10<|zs 11<|zn 5 [])<|
 zq (zp 1<|zi (.ln (.e 0) [])<|zi (.cs .v (.n 0)) []) (zs 0<|zn 2<|zs 3<|zs 4<|zn 1<|zs 10<|zs 11<|zn 2 [])<|
 .block 0<|.loop<|zq (zi (.bi .lss (.e 7) (.e 6)) []) (zs 0<|zn 2<|zs 3<|zs 4<|zn 1<|zs 6<|zs 7<|zs 10<|zn 1 [])<|
 .seq (.cond 8 .skip (.exit 0))<|
 .seq (.block 1<|zq (zp 2 []) (zs 0<|zn 2<|zs 3<|zs 4<|zs 7<|zs 6<|zs 7<|zn 2 [])<|
 zq (zp 2<|zi (.ix (.e 0) [] (.e 5))<|zp 2<|zi (.bi .eql (.e 10) (.e 4)) []) (zs 0<|zn 2<|zs 3<|zs 4<|zs 5<|zs 6<|zs 7<|zn 1<|zs 11 [])<|
 .cond 9 (.reg (zp 3<|zi (.ix (.e 0) [] (.e 5))<|zi (.up 0 [.e 5] (.e 3)) []) (zs 11<|zn 2<|zs 3<|zs 4<|zn 1<|zs 6<|zs 7<|zn 2 [])) .skip)<|
 .reg (zi (.bi .add (.e 7) (.c (.n 1)))<|zp 1 []) (zs 0<|zn 2<|zs 3<|zs 4<|zn 1<|zs 6<|zs 10<|zn 2 [])⟩
def ir_impl_moebius:IF:=⟨[],3,12,[3],zq (zi (.cs .v (.n 0)) []) (zs 0<|zs 1<|zs 2<|zn 9 [])<|
 .seq (zq (zp 2<|zi (.ca 72 [.e 1,.e 2] 1) []) (zs 0<|zs 1<|zs 2<|zn 3<|zs 12<|zn 5 [])<|
 .cond 6 (zq (zi (.cs .v (.n 1)) []) (zn 3<|zs 12<|zn 8 [])<|
 .ret) .skip)<|
 zq (zi (.cs .v (.n 0)) []) (zs 0<|zs 1<|zs 2<|zn 1<|zs 12<|zn 7 [])<|
 .seq (zq (zp 1<|zi (.ln (.e 0) [])<|zi (.cs .v (.n 0)) []) (zs 0<|zs 1<|zs 2<|zn 1<|zs 4<|zn 2<|zs 0<|zs 12<|zs 13<|zn 2 [])<|
 .block 0<|.loop<|zq (zi (.bi .lss (.e 9) (.e 8)) []) (zs 0<|zs 1<|zs 2<|zn 1<|zs 4<|zn 2<|zs 7<|zs 8<|zs 9<|zs 12<|zn 1 [])<|
 .seq (.cond 10 .skip (.exit 0))<|
 .seq (.block 1<|zq (zi (.ix (.e 7) [] (.e 9))<|zp 2 []) (zs 0<|zs 1<|zs 2<|zn 1<|zs 4<|zs 12<|zn 1<|zs 7<|zs 8<|zs 9<|zn 2 [])<|
 zq (zp 2<|zi (.ca 443 [.e 1,.e 5] 1)<|zp 1<|zg [(12,true)] .nop<|zg [(12,true)] .nop<|zg [(12,true)] (.ca 443 [.e 5,.e 2] 1)<|zi (.pk (.e 12) (.e 13) (.c (.b false)))<|zp 1<|zg [(14,true)] .nop<|zg [(14,true)] .nop<|zg [(14,true)] (.ca 72 [.e 5,.e 2] 1)<|zg [(14,true)] (.un .not (.e 15))<|zi (.pk (.e 14) (.e 16) (.c (.b false))) []) (zs 0<|zs 1<|zs 2<|zn 1<|zs 4<|zs 5<|zn 1<|zs 7<|zs 8<|zs 9<|zn 1<|zs 17 [])<|
 .cond 11 (.reg (zp 4<|zi (.ca 485 [.e 0,.e 1,.e 5] 1)<|zi (.bi .sub (.e 4) (.e 12))<|zp 1 []) (zs 0<|zs 1<|zs 2<|zn 1<|zs 13<|zn 2<|zs 7<|zs 8<|zs 9<|zn 2 [])) .skip)<|
 .reg (zi (.bi .add (.e 9) (.c (.n 1)))<|zp 1 []) (zs 0<|zs 1<|zs 2<|zn 1<|zs 4<|zn 2<|zs 7<|zs 8<|zs 12<|zn 2 []))<|
 zq (zp 2 []) (zn 3<|zs 4<|zn 8 [])<|
 .ret⟩
def ir_impl_noncrossing:IF:=⟨[],1,9,[1],zq (zi (.cs (.o .v) (.l [])) []) (zs 0<|zn 8 [])<|
 zq (zi (.li (.o .v) [])<|zp 1 []) (zs 0<|zn 1<|zs 9<|zn 6 [])<|
 .seq (zq (zp 1<|zi (.ca 314 [.e 0] 1)<|zi (.ln (.e 9) [])<|zi (.cs .v (.n 0)) []) (zn 2<|zs 2<|zn 2<|zs 9<|zs 10<|zs 11<|zn 1 [])<|
 .block 0<|.loop<|zq (zi (.bi .lss (.e 7) (.e 6)) []) (zn 2<|zs 2<|zn 2<|zs 5<|zs 6<|zs 7<|zs 9 [])<|
 .seq (.cond 8 .skip (.exit 0))<|
 .seq (.block 1<|zq (zi (.ix (.e 5) [] (.e 7))<|zp 2 []) (zn 2<|zs 2<|zs 9<|zn 1<|zs 5<|zs 6<|zs 7<|zn 1 [])<|
 zq (zp 1<|zi (.ca 503 [.e 3] 2)<|zp 5 []) (zn 2<|zs 2<|zn 1<|zs 9<|zs 5<|zs 6<|zs 7<|zn 1 [])<|
 .reg (zp 2<|zi (.li (.o .v) [.e 4])<|zi (.ap false (.e 2) (.e 9))<|zp 1 []) (zn 2<|zs 10<|zn 2<|zs 5<|zs 6<|zs 7<|zn 1 []))<|
 .reg (zi (.bi .add (.e 7) (.c (.n 1)))<|zp 1 []) (zn 2<|zs 2<|zn 2<|zs 5<|zs 6<|zs 9<|zn 1 []))<|
 zq (zp 2 []) (zn 1<|zs 2<|zn 7 [])<|
 .ret⟩
end Go.Cat
namespace Go.Cat
def ir_impl_CountWords:IF:=⟨[],2,4,[2],zq (zi (.cs .v (.n 0)) []) (zs 0<|zs 1<|zn 2 [])<|
 .seq (zq (zp 1<|zi (.ca 23 [.e 0,.c (.n 0),.c (.n 15)] 1)<|zi (.un .not (.e 4))<|zp 1<|zg [(5,false)] (.cy (.e 1))<|zg [(5,false)] (.ca 23 [.e 6,.c (.n 0),.c (.n 15)] 1)<|zg [(5,false)] (.un .not (.e 7))<|zi (.pk (.e 5) (.c (.b true)) (.e 8)) []) (zs 0<|zs 1<|zn 1<|zs 9 [])<|
 .cond 3 (zq (zi (.cs .v (.n (-1))) []) (zn 2<|zs 4<|zn 1 [])<|
 .ret) .skip)<|
 zq (zp 2<|zi (.bi .add (.e 0) (.e 1))<|zp 1<|zi (.ca 25 [.e 4,.e 0] 1)<|zp 1 []) (zn 2<|zs 5<|zn 1 [])<|
 .ret⟩
end Go.Cat
namespace Go.Cat
def ir_laws_FnKreweras:IF:=⟨[],1,57,[1],zq (zi (.cs .v (.b false)) []) (zs 0<|zn 56 [])<|
 .seq (zq (zp 1<|zi (.ca 220 [.e 0] 1) []) (zs 0<|zn 43<|zs 57<|zn 12 [])<|
 .cond 44 (zq (zi (.cs .v (.b true)) []) (zn 1<|zs 57<|zn 55 [])<|
 .ret) .skip)<|
 zq (zp 1<|zi (.ca 432 [.e 0] 1)<|zp 1 []) (zs 0<|zn 1<|zs 57<|zn 54 [])<|
 zq (zp 1<|zi (.ca 433 [.e 2] 2)<|zp 5 []) (zs 0<|zn 1<|zs 2<|zs 57<|zs 58<|zn 52 [])<|
 zq (zp 1<|zi (.ca 434 [.e 2] 2)<|zp 5 []) (zs 0<|zn 1<|zs 2<|zs 3<|zs 4<|zs 57<|zs 58<|zn 50 [])<|
 .seq (zq (zp 2<|zi (.bb .neq (.e 4) (.e 6))<|zp 1<|zg [(57,false)] (.cy (.e 3))<|zg [(57,false)] (.cy (.e 5))<|zg [(57,false)] (.ca 239 [.e 58,.e 59] 1)<|zg [(57,false)] (.un .not (.e 60))<|zi (.pk (.e 57) (.c (.b true)) (.e 61)) []) (zs 0<|zn 1<|zs 2<|zn 1<|zs 4<|zs 5<|zn 39<|zs 62<|zn 11 [])<|
 .cond 45 (zq (zi (.cs .v (.b false)) []) (zn 1<|zs 57<|zn 55 [])<|
 .ret) .skip)<|
 .seq (zq (zp 1 []) (zs 0<|zn 1<|zs 2<|zn 2<|zs 5<|zn 40<|zs 4<|zn 10 [])<|
 .cond 46 (zq (zp 1<|zi (.ca 433 [.e 5] 2)<|zp 5 []) (zs 0<|zn 1<|zs 2<|zn 2<|zs 5<|zn 1<|zs 57<|zs 58<|zn 48 [])<|
 zq (zp 1<|zi (.ca 435 [.e 7] 2)<|zp 5 []) (zs 0<|zn 1<|zs 2<|zn 2<|zs 5<|zn 2<|zs 8<|zs 57<|zs 58<|zn 46 [])<|
 zq (zp 1<|zi (.un .not (.e 8))<|zp 1<|zg [(57,false)] (.cy (.e 10))<|zg [(57,false)] (.un .not (.e 58))<|zi (.pk (.e 57) (.c (.b true)) (.e 59))<|zp 1<|zg [(60,false)] (.cy (.e 5))<|zg [(60,false)] (.ca 436 [.e 61] 1)<|zg [(60,false)] (.un .not (.e 62))<|zi (.pk (.e 60) (.c (.b true)) (.e 63))<|zp 1<|zg [(64,false)] (.cy (.e 2))<|zg [(64,false)] (.ln (.e 65) [])<|zg [(64,false)] (.bi .gtr (.e 66) (.c (.n 0)))<|zg [(64,false)] (.cy (.e 67))<|zg [(64,false),(68,true)] (.cy (.e 2))<|zg [(64,false),(68,true)] (.ca 437 [.e 69] 1)<|zg [(64,false),(68,true)] (.cy (.e 5))<|zg [(64,false),(68,true)] (.ca 437 [.e 71] 1)<|zg [(64,false),(68,true)] (.bi .add (.e 70) (.e 72))<|zg [(64,false),(68,true)] (.cy (.e 2))<|zg [(64,false),(68,true)] (.ln (.e 74) [])<|zg [(64,false),(68,true)] (.bi .sub (.e 75) (.c (.n 1)))<|zg [(64,false),(68,true)] (.bi .neq (.e 73) (.e 76))<|zg [(64,false)] (.pk (.e 68) (.e 77) (.c (.b false)))<|zi (.pk (.e 64) (.c (.b true)) (.e 78))<|zp 1<|zg [(79,false)] (.cy (.e 9))<|zg [(79,false)] (.cy (.e 2))<|zg [(79,false)] (.ca 239 [.e 80,.e 81] 1)<|zg [(79,false)] (.un .not (.e 82))<|zi (.pk (.e 79) (.c (.b true)) (.e 83)) []) (zs 0<|zn 46<|zs 84<|zn 9 [])<|
 .cond 47 (zq (zi (.cs .v (.b false)) []) (zn 1<|zs 57<|zn 55 [])<|
 .ret) .skip) .skip)<|
 zq (zp 1<|zi (.ca 438 [.e 0] 2)<|zp 5 []) (zs 0<|zn 10<|zs 57<|zs 58<|zn 44 [])<|
 zq (zp 2<|zi (.ca 439 [.e 11,.e 12] 2)<|zp 5 []) (zs 0<|zn 10<|zs 11<|zs 12<|zs 57<|zs 58<|zn 42 [])<|
 zq (zp 2<|zi (.ca 440 [.e 11,.e 12] 2)<|zp 5 []) (zs 0<|zn 10<|zs 11<|zs 12<|zs 13<|zs 14<|zs 57<|zs 58<|zn 40 [])<|
 zq (zp 2<|zi (.ca 441 [.e 11,.e 12] 2)<|zp 5 []) (zs 0<|zn 10<|zs 11<|zs 12<|zs 13<|zs 14<|zs 15<|zs 16<|zs 57<|zs 58<|zn 38 [])<|
 zq (zp 2<|zi (.ca 442 [.e 11,.e 12] 2)<|zp 5 []) (zs 0<|zn 10<|zs 11<|zs 12<|zs 13<|zs 14<|zs 15<|zs 16<|zs 17<|zs 18<|zs 57<|zs 58<|zn 36 [])<|
 .seq (zq (zp 2<|zi (.bb .neq (.e 14) (.e 16))<|zp 1<|zg [(57,false)] (.cy (.e 13))<|zg [(57,false)] (.cy (.e 15))<|zg [(57,false)] (.ca 239 [.e 58,.e 59] 1)<|zg [(57,false)] (.un .not (.e 60))<|zi (.pk (.e 57) (.c (.b true)) (.e 61))<|zp 1<|zg [(62,false)] (.cy (.e 18))<|zg [(62,false)] (.cy (.e 20))<|zg [(62,false)] (.bb .neq (.e 63) (.e 64))<|zi (.pk (.e 62) (.c (.b true)) (.e 65))<|zp 1<|zg [(66,false)] (.cy (.e 17))<|zg [(66,false)] (.cy (.e 19))<|zg [(66,false)] (.ca 239 [.e 67,.e 68] 1)<|zg [(66,false)] (.un .not (.e 69))<|zi (.pk (.e 66) (.c (.b true)) (.e 70)) []) (zs 0<|zn 10<|zs 11<|zs 12<|zn 1<|zs 14<|zs 15<|zn 3<|zs 19<|zn 28<|zs 71<|zn 8 [])<|
 .cond 48 (zq (zi (.cs .v (.b false)) []) (zn 1<|zs 57<|zn 55 [])<|
 .ret) .skip)<|
 .seq (zq (zp 2<|zg [(14,true)] (.cy (.e 15))<|zg [(14,true)] (.ca 436 [.e 57] 1)<|zg [(14,true)] (.un .not (.e 58))<|zg [(14,true)] (.cy (.e 59))<|zg [(14,true),(60,false)] (.cy (.e 19))<|zg [(14,true),(60,false)] (.ca 436 [.e 61] 1)<|zg [(14,true),(60,false)] (.un .not (.e 62))<|zg [(14,true)] (.pk (.e 60) (.c (.b true)) (.e 63))<|zg [(14,true)] (.cy (.e 64))<|zg [(14,true),(65,false)] (.cy (.e 11))<|zg [(14,true),(65,false)] (.cy (.e 15))<|zg [(14,true),(65,false)] (.ca 443 [.e 66,.e 67] 1)<|zg [(14,true),(65,false)] (.un .not (.e 68))<|zg [(14,true)] (.pk (.e 65) (.c (.b true)) (.e 69))<|zg [(14,true)] (.cy (.e 70))<|zg [(14,true),(71,false)] (.cy (.e 12))<|zg [(14,true),(71,false)] (.cy (.e 15))<|zg [(14,true),(71,false)] (.ca 443 [.e 72,.e 73] 1)<|zg [(14,true),(71,false)] (.un .not (.e 74))<|zg [(14,true)] (.pk (.e 71) (.c (.b true)) (.e 75))<|zg [(14,true)] (.cy (.e 76))<|zg [(14,true),(77,false)] (.cy (.e 19))<|zg [(14,true),(77,false)] (.cy (.e 11))<|zg [(14,true),(77,false)] (.ca 443 [.e 78,.e 79] 1)<|zg [(14,true),(77,false)] (.un .not (.e 80))<|zg [(14,true)] (.pk (.e 77) (.c (.b true)) (.e 81))<|zg [(14,true)] (.cy (.e 82))<|zg [(14,true),(83,false)] (.cy (.e 19))<|zg [(14,true),(83,false)] (.cy (.e 12))<|zg [(14,true),(83,false)] (.ca 443 [.e 84,.e 85] 1)<|zg [(14,true),(83,false)] (.un .not (.e 86))<|zg [(14,true)] (.pk (.e 83) (.c (.b true)) (.e 87))<|zi (.pk (.e 14) (.e 88) (.c (.b false))) []) (zs 0<|zn 10<|zs 11<|zs 12<|zn 1<|zs 14<|zn 34<|zs 89<|zn 7 [])<|
 .cond 49 (zq (zi (.cs .v (.b false)) []) (zn 1<|zs 57<|zn 55 [])<|
 .ret) .skip)<|
 .seq (zq (zp 1 []) (zs 0<|zn 10<|zs 11<|zs 12<|zn 37<|zs 14<|zn 6 [])<|
 .cond 50 (zq (zp 1<|zi (.ca 434 [.e 11] 2)<|zp 5 []) (zs 0<|zn 10<|zs 11<|zs 12<|zn 8<|zs 57<|zn 35 [])<|
 zq (zp 1<|zi (.ca 434 [.e 12] 2)<|zp 5 []) (zs 0<|zn 10<|zs 11<|zs 12<|zn 8<|zs 21<|zs 57<|zn 34 [])<|
 zq (zp 2<|zi (.ca 443 [.e 11,.e 12] 1)<|zp 2<|zi (.ca 443 [.e 22,.e 21] 1)<|zi (.bb .neq (.e 57) (.e 58)) []) (zs 0<|zn 10<|zs 11<|zs 12<|zn 38<|zs 59<|zn 5 [])<|
 .cond 51 (zq (zi (.cs .v (.b false)) []) (zn 1<|zs 57<|zn 55 [])<|
 .ret) .skip) .skip)<|
 zq (zp 1<|zi (.ca 407 [.e 0,.c (.n 1)] 1)<|zi (.bi .rem (.e 57) (.c (.n 6)))<|zp 1 []) (zs 0<|zn 10<|zs 11<|zs 12<|zn 10<|zs 58<|zn 33 [])<|
 .seq (zq (zp 1<|zi (.bi .gtr (.e 23) (.c (.n 0))) []) (zs 0<|zn 10<|zs 11<|zs 12<|zn 10<|zs 23<|zn 28<|zs 57<|zn 4 [])<|
 .cond 52 (zq (zi (.li (.o .v) [])<|zp 1 []) (zs 0<|zn 10<|zs 11<|zs 12<|zn 10<|zs 23<|zs 57<|zn 32 [])<|
 zq (zi (.li (.o .v) [])<|zp 1 []) (zs 0<|zn 10<|zs 11<|zs 12<|zn 10<|zs 23<|zs 24<|zs 57<|zn 31 [])<|
 .seq (zq (zi (.cs .v (.n 0)) []) (zs 0<|zn 10<|zs 11<|zs 12<|zn 10<|zs 23<|zs 24<|zs 25<|zs 57<|zn 30 [])<|
 .block 0<|.loop<|.seq (zq (zp 2<|zi (.bi .lss (.e 26) (.e 23)) []) (zs 0<|zn 10<|zs 11<|zs 12<|zn 10<|zs 23<|zs 24<|zs 25<|zs 26<|zn 26<|zs 57<|zn 3 [])<|
 .cond 53 .skip (.exit 0))<|
 .seq (.block 1<|zq (zp 2<|zi (.li (.o .v) [.e 26])<|zi (.ap false (.e 24) (.e 57))<|zp 1 []) (zs 0<|zn 10<|zs 11<|zs 12<|zn 10<|zs 23<|zs 58<|zs 25<|zs 26<|zn 30 [])<|
 .reg (zp 1<|zi (.li (.o .v) [.c (.n 0)])<|zi (.ap false (.e 25) (.e 57))<|zp 1 []) (zs 0<|zn 10<|zs 11<|zs 12<|zn 10<|zs 23<|zs 24<|zs 58<|zs 26<|zn 30 []))<|
 .reg (zp 1<|zi (.bi .add (.e 26) (.c (.n 1)))<|zp 1 []) (zs 0<|zn 10<|zs 11<|zs 12<|zn 10<|zs 23<|zs 24<|zs 25<|zs 57<|zn 30 []))<|
 zq (zp 2<|zi (.ca 444 [.e 24,.e 25] 2)<|zp 5 []) (zs 0<|zn 10<|zs 11<|zs 12<|zn 10<|zs 23<|zn 3<|zs 57<|zs 58<|zn 28 [])<|
 zq (zp 1<|zi (.bi .sub (.e 23) (.c (.n 1)))<|zi (.ca 28 [.e 57] 1)<|zp 1 []) (zs 0<|zn 10<|zs 11<|zs 12<|zn 10<|zs 23<|zn 3<|zs 27<|zs 28<|zs 58<|zn 27 [])<|
 .seq (zq (zp 1<|zi (.bi .rem (.e 23) (.c (.n 2)))<|zi (.bi .eql (.e 57) (.c (.n 0))) []) (zs 0<|zn 10<|zs 11<|zs 12<|zn 14<|zs 27<|zs 28<|zs 29<|zn 24<|zs 58<|zn 2 [])<|
 .cond 54 (.reg (zp 1<|zi (.un .neg (.e 29))<|zp 1 []) (zs 0<|zn 10<|zs 11<|zs 12<|zn 14<|zs 27<|zs 28<|zs 57<|zn 27 [])) .skip)<|
 zq (zp 1<|zi (.un .not (.e 28))<|zp 1<|zg [(57,false)] (.cy (.e 27))<|zg [(57,false)] (.cy (.e 29))<|zg [(57,false)] (.bi .neq (.e 58) (.e 59))<|zi (.pk (.e 57) (.c (.b true)) (.e 60)) []) (zs 0<|zn 10<|zs 11<|zs 12<|zn 42<|zs 61<|zn 1 [])<|
 .cond 55 (zq (zi (.cs .v (.b false)) []) (zn 1<|zs 57<|zn 55 [])<|
 .ret) .skip) .skip)<|
 zq (zp 1<|zi (.ca 445 [.e 0] 2)<|zp 5 []) (zs 0<|zn 10<|zs 11<|zs 12<|zn 17<|zs 57<|zs 58<|zn 25 [])<|
 zq (zp 2<|zi (.ca 446 [.e 30,.e 31] 1)<|zp 1 []) (zs 0<|zn 10<|zs 11<|zs 12<|zn 17<|zs 30<|zs 31<|zs 57<|zn 24 [])<|
 .seq (zq (zp 3<|zi (.ca 447 [.e 30,.e 31] 1)<|zi (.bi .neq (.e 32) (.e 57))<|zp 1<|zg [(58,false)] (.cy (.e 32))<|zg [(58,false)] (.bi .geq (.e 59) (.c (.n 0)))<|zg [(58,false)] (.cy (.e 60))<|zg [(58,false),(61,true)] (.cy (.e 30))<|zg [(58,false),(61,true)] (.bi .gtr (.e 62) (.c (.n 0)))<|zg [(58,false)] (.pk (.e 61) (.e 63) (.c (.b false)))<|zg [(58,false)] (.cy (.e 64))<|zg [(58,false),(65,true)] (.cy (.e 30))<|zg [(58,false),(65,true)] (.cy (.e 32))<|zg [(58,false),(65,true)] (.bi .mul (.e 66) (.e 67))<|zg [(58,false),(65,true)] (.cy (.e 30))<|zg [(58,false),(65,true)] (.bi .sub (.e 69) (.c (.n 1)))<|zg [(58,false),(65,true)] (.cy (.e 31))<|zg [(58,false),(65,true)] (.bi .add (.e 71) (.c (.n 1)))<|zg [(58,false),(65,true)] (.cy (.e 30))<|zg [(58,false),(65,true)] (.bi .mul (.e 72) (.e 73))<|zg [(58,false),(65,true)] (.cy (.e 30))<|zg [(58,false),(65,true)] (.bi .sub (.e 74) (.e 75))<|zg [(58,false),(65,true)] (.bi .add (.e 76) (.c (.n 1)))<|zg [(58,false),(65,true)] (.ca 10 [.e 70,.e 77] 1)<|zg [(58,false),(65,true)] (.bi .neq (.e 68) (.e 78))<|zg [(58,false)] (.pk (.e 65) (.e 79) (.c (.b false)))<|zg [(58,false)] (.cy (.e 80))<|zg [(58,false),(81,true)] (.cy (.e 31))<|zg [(58,false),(81,true)] (.bi .add (.e 82) (.c (.n 1)))<|zg [(58,false),(81,true)] (.cy (.e 30))<|zg [(58,false),(81,true)] (.bi .mul (.e 83) (.e 84))<|zg [(58,false),(81,true)] (.cy (.e 30))<|zg [(58,false),(81,true)] (.bi .sub (.e 85) (.e 86))<|zg [(58,false),(81,true)] (.bi .add (.e 87) (.c (.n 1)))<|zg [(58,false),(81,true)] (.bi .leq (.e 88) (.c (.n 15)))<|zg [(58,false)] (.pk (.e 81) (.e 89) (.c (.b false)))<|zi (.pk (.e 58) (.c (.b true)) (.e 90)) []) (zs 0<|zn 10<|zs 11<|zs 12<|zn 43<|zs 91 [])<|
 .cond 56 (zq (zi (.cs .v (.b false)) []) (zn 1<|zs 57<|zn 55 [])<|
 .ret) .skip)<|
 zq (zp 1<|zi (.ca 448 [.e 0] 2)<|zp 5 []) (zs 0<|zn 10<|zs 11<|zs 12<|zn 20<|zs 57<|zs 58<|zn 22 [])<|
 zq (zp 2<|zi (.ca 444 [.e 33,.e 34] 2)<|zp 5 []) (zs 0<|zn 10<|zs 11<|zs 12<|zn 20<|zs 33<|zs 34<|zs 57<|zs 58<|zn 20 [])<|
 zq (zp 2<|zi (.ca 449 [.e 33,.e 34] 2)<|zp 5 []) (zs 0<|zn 10<|zs 11<|zs 12<|zn 22<|zs 35<|zs 36<|zs 57<|zs 58<|zn 18 [])<|
 zq (zp 1<|zi (.ca 450 [.e 0] 1)<|zp 1 []) (zn 11<|zs 11<|zs 12<|zn 22<|zs 35<|zs 36<|zs 37<|zs 38<|zs 57<|zn 17 [])<|
 zq (zp 1<|zi (.ca 451 [.e 39] 2)<|zp 5 []) (zn 11<|zs 11<|zs 12<|zn 22<|zs 35<|zs 36<|zs 37<|zs 38<|zs 39<|zs 57<|zs 58<|zn 15 [])<|
 zq (zp 1<|zi (.ca 452 [.e 39] 2)<|zp 5 []) (zn 11<|zs 11<|zs 12<|zn 22<|zs 35<|zs 36<|zs 37<|zs 38<|zs 39<|zs 40<|zs 41<|zs 57<|zs 58<|zn 13 [])<|
 zq (zp 2<|zi (.bi .eql (.e 35) (.e 37))<|zp 1<|zg [(57,true)] (.cy (.e 36))<|zg [(57,true)] (.cy (.e 38))<|zg [(57,true)] (.bb .eql (.e 58) (.e 59))<|zi (.pk (.e 57) (.e 60) (.c (.b false)))<|zp 1<|zg [(61,true)] (.cy (.e 41))<|zg [(61,true)] (.cy (.e 43))<|zg [(61,true)] (.bb .eql (.e 62) (.e 63))<|zi (.pk (.e 61) (.e 64) (.c (.b false)))<|zp 1<|zg [(65,true)] (.cy (.e 40))<|zg [(65,true)] (.cy (.e 42))<|zg [(65,true)] (.ca 239 [.e 66,.e 67] 1)<|zi (.pk (.e 65) (.e 68) (.c (.b false)))<|zp 1<|zg [(69,true)] (.cy (.e 41))<|zg [(69,true)] (.un .not (.e 70))<|zg [(69,true)] (.cy (.e 71))<|zg [(69,true),(72,false)] (.cy (.e 42))<|zg [(69,true),(72,false)] (.ca 436 [.e 73] 1)<|zg [(69,true),(72,false)] (.cy (.e 74))<|zg [(69,true),(72,false),(75,true)] (.cy (.e 39))<|zg [(69,true),(72,false),(75,true)] (.cy (.e 42))<|zg [(69,true),(72,false),(75,true)] (.ca 443 [.e 76,.e 77] 1)<|zg [(69,true),(72,false)] (.pk (.e 75) (.e 78) (.c (.b false)))<|zg [(69,true)] (.pk (.e 72) (.c (.b true)) (.e 79))<|zi (.pk (.e 69) (.e 80) (.c (.b false)))<|zp 1<|zg [(81,true)] (.cy (.e 11))<|zg [(81,true)] (.cy (.e 12))<|zg [(81,true)] (.ca 443 [.e 82,.e 83] 1)<|zg [(81,true)] (.cy (.e 11))<|zg [(81,true)] (.cy (.e 12))<|zg [(81,true)] (.ca 453 [.e 85,.e 86] 1)<|zg [(81,true)] (.bb .eql (.e 84) (.e 87))<|zi (.pk (.e 81) (.e 88) (.c (.b false)))<|zp 1<|zg [(89,true)] (.cy (.e 39))<|zg [(89,true)] (.ca 437 [.e 90] 1)<|zg [(89,true)] (.cy (.e 39))<|zg [(89,true)] (.ca 454 [.e 92] 1)<|zg [(89,true)] (.bi .eql (.e 91) (.e 93))<|zi (.pk (.e 89) (.e 94) (.c (.b false)))<|zp 1 []) (zn 1<|zs 95<|zn 55 [])<|
 .ret⟩
end Go.Cat
namespace Go.Cat
def ir_spec_l1Below:IF:=⟨[],2,9,[2,0],zq (zi (.cs .v (.n 0)) []) (zs 0<|zs 1<|zn 7 [])<|
 .seq (zq (zp 1<|zi (.bi .leq (.e 1) (.c (.n 0))) []) (zs 0<|zs 1<|zn 5<|zs 9<|zn 1 [])<|
 .cond 7 (zq (zi (.cs .v (.n 0)) []) (zs 0<|zn 1<|zs 9<|zn 6 [])<|
 .ret) .skip)<|
 .seq (zq (zp 1<|zi (.bi .leq (.e 1) (.c (.n 256))) []) (zs 0<|zs 1<|zn 6<|zs 9 [])<|
 .cond 8 (zq (zp 1<|zi (.ca 316 [.e 0] 2)<|zp 1<|zi (.bi .rem (.e 9) (.e 1))<|zp 1 []) (zs 10<|zn 1<|zs 11<|zn 6 [])<|
 .ret) .skip)<|
 zq (zp 1<|zi (.ca 316 [.e 0] 2)<|zp 1 []) (zs 10<|zs 1<|zn 1<|zs 9<|zn 5 [])<|
 zq (zp 1<|zi (.ca 316 [.e 0] 2)<|zp 1 []) (zs 10<|zs 1<|zn 1<|zs 3<|zs 9<|zn 4 [])<|
 zq (zp 1<|zi (.ca 316 [.e 0] 2)<|zp 1 []) (zs 10<|zs 1<|zn 1<|zs 3<|zs 4<|zs 9<|zn 3 [])<|
 zq (zp 1<|zi (.ca 316 [.e 0] 2)<|zp 1 []) (zs 10<|zs 1<|zn 1<|zs 3<|zs 4<|zs 5<|zs 9<|zn 2 [])<|
 zq (zp 1<|zi (.bi .mul (.e 3) (.c (.n 16777216)))<|zp 1<|zi (.bi .mul (.e 4) (.c (.n 65536)))<|zi (.bi .add (.e 9) (.e 10))<|zp 1<|zi (.bi .mul (.e 5) (.c (.n 256)))<|zi (.bi .add (.e 11) (.e 12))<|zp 1<|zi (.bi .add (.e 13) (.e 6))<|zp 1<|zi (.bi .rem (.e 14) (.e 1))<|zp 1 []) (zs 0<|zn 1<|zs 15<|zn 6 [])<|
 .ret⟩
def ir_spec_l1Byte:IF:=⟨[],1,4,[1,0],zq (zi (.cs .v (.n 0)) []) (zs 0<|zn 3 [])<|
 zq (zp 3<|zi (.gt (.e 0) [.k 2])<|zp 1<|zi (.bi .mul (.e 4) (.c (.n 6364136223846793005)))<|zi (.bi .add (.e 5) (.c (.n 1442695040888963407)))<|zp 1<|zi (.gt (.e 0) [.k 2])<|zi (.up 0 [.k 2] (.e 6)) []) (zs 8<|zn 3 [])<|
 zq (zp 2<|zi (.gt (.e 0) [.k 2])<|zp 1<|zi (.bi .shr (.e 4) (.c (.i .u64 33)))<|zp 2<|zi (.gt (.e 0) [.k 2])<|zp 1<|zi (.bi .shr (.e 6) (.c (.i .u64 45)))<|zi (.bi .xor (.e 5) (.e 7))<|zi (.bi .and (.e 8) (.c (.n 255)))<|zp 1 []) (zs 0<|zn 1<|zs 9<|zn 1 [])<|
 .seq (zq (zp 2<|zi (.gt (.e 0) [.k 1])<|zp 3<|zi (.gt (.e 0) [.k 0])<|zp 1<|zi (.ln (.e 5) [])<|zi (.bi .lss (.e 4) (.e 6)) []) (zs 0<|zn 1<|zs 2<|zs 7 [])<|
 .cond 3 (zq (zp 3<|zi (.gt (.e 0) [.k 0])<|zp 3<|zi (.gt (.e 0) [.k 1])<|zp 1<|zi (.ix (.e 4) [] (.e 5))<|zp 1<|zi (.cv .i64 (.e 6))<|zi (.bi .add (.e 2) (.e 7))<|zi (.bi .and (.e 8) (.c (.n 255)))<|zp 1 []) (zs 0<|zn 1<|zs 9<|zn 1 [])<|
 .reg (zp 3<|zi (.gt (.e 0) [.k 1])<|zp 1<|zi (.bi .add (.e 4) (.c (.n 1)))<|zp 1<|zi (.gt (.e 0) [.k 1])<|zi (.up 0 [.k 1] (.e 5)) []) (zs 7<|zn 1<|zs 2<|zn 1 [])) .skip)<|
 zq (zp 2 []) (zs 0<|zs 2<|zn 2 [])<|
 .ret⟩
def ir_spec_l1In:IF:=⟨[],3,4,[3],zq (zi (.cs .v (.b false)) []) (zs 0<|zs 1<|zs 2<|zn 1 [])<|
 zq (zp 2<|zi (.bi .geq (.e 0) (.e 1))<|zp 1<|zg [(4,true)] (.cy (.e 0))<|zg [(4,true)] (.cy (.e 2))<|zg [(4,true)] (.bi .leq (.e 5) (.e 6))<|zi (.pk (.e 4) (.e 7) (.c (.b false)))<|zp 1 []) (zn 3<|zs 8 [])<|
 .ret⟩
def ir_spec_l1New:IF:=⟨[],1,5,[1],zq (zi (.cs .v .z) []) (zs 0<|zn 4 [])<|
 zq (zp 1<|zi (.ln (.e 0) [])<|zi (.bi .add (.c (.n 10101)) (.e 5))<|zp 1 []) (zs 0<|zn 1<|zs 6<|zn 2 [])<|
 .seq (zq (zi (.cs .v (.n 0)) []) (zs 0<|zn 1<|zs 2<|zs 5<|zn 1 [])<|
 .block 0<|.loop<|.seq (zq (zp 2<|zi (.ln (.e 0) [])<|zi (.bi .lss (.e 3) (.e 5))<|zp 1<|zg [(6,true)] (.cy (.e 3))<|zg [(6,true)] (.bi .lss (.e 7) (.c (.n 4000)))<|zi (.pk (.e 6) (.e 8) (.c (.b false))) []) (zs 0<|zn 1<|zs 2<|zs 3<|zs 9 [])<|
 .cond 4 .skip (.exit 0))<|
 .seq (.block 1<|.reg (zp 1<|zi (.bi .mul (.e 2) (.c (.n 131)))<|zp 2<|zi (.ix (.e 0) [] (.e 3))<|zp 1<|zi (.cv .i64 (.e 6))<|zi (.bi .add (.e 5) (.e 7))<|zi (.bi .add (.e 8) (.c (.n 7)))<|zi (.bi .and (.e 9) (.c (.n 1073741823)))<|zp 1 []) (zs 0<|zn 1<|zs 10<|zs 3<|zn 1 []))<|
 .reg (zp 1<|zi (.bi .add (.e 3) (.c (.n 1)))<|zp 1 []) (zs 0<|zn 1<|zs 2<|zs 5<|zn 1 []))<|
 zq (zp 2<|zi (.bg 0 [(.e 0,0),(.c (.n 0),0),(.e 2,0)])<|zi (.wl 3 (.e 5))<|zp 1 []) (zn 1<|zs 6<|zn 3 [])<|
 .ret⟩
def ir_spec_l1Once:IF:=⟨[],2,3,[2,0],zq (zi (.cs .v (.b false)) []) (zs 0<|zs 1<|zn 1 [])<|
 zq (zp 2<|zi (.ca 289 [.e 0,.e 1] 2)<|zi (.bi .eql (.e 3) (.c (.n 0)))<|zp 1 []) (zs 4<|zn 1<|zs 5 [])<|
 .ret⟩
def ir_spec_l1PickInt:IF:=⟨[],2,3,[2,0],zq (zi (.cs .v (.n 0)) []) (zs 0<|zs 1<|zn 1 [])<|
 zq (zp 3<|zi (.ln (.e 1) [])<|zi (.ca 289 [.e 0,.e 3] 2)<|zi (.iy (.e 1) (.e 4))<|zp 2 []) (zs 5<|zn 1<|zs 6 [])<|
 .ret⟩
end Go.Cat
namespace Go.Cat
def ir_spec_IsDyck:IF:=⟨[],1,9,[1],zq (zi (.cs .v (.b false)) []) (zs 0<|zn 8 [])<|
 zq (zi (.cs .v (.n 0)) []) (zs 0<|zn 1<|zs 9<|zn 6 [])<|
 .seq (zq (zi (.cs .v (.n 0)) []) (zs 0<|zn 1<|zs 2<|zs 9<|zn 5 [])<|
 .block 0<|.loop<|.seq (zq (zp 2<|zi (.sn (.e 0))<|zi (.bi .lss (.e 3) (.e 9)) []) (zs 0<|zn 1<|zs 2<|zs 3<|zs 10<|zn 4 [])<|
 .cond 4 .skip (.exit 0))<|
 .seq (.block 1<|.seq (zq (zp 2<|zi (.sx (.e 0) (.e 3)) []) (zs 0<|zn 1<|zs 2<|zs 3<|zn 1<|zs 9<|zn 3 [])<|
 .block 2<|zq (zi (.bi .eql (.e 5) (.c (.y 117)))<|zp 1 []) (zs 0<|zn 1<|zs 2<|zs 3<|zn 1<|zs 5<|zs 9<|zn 2 [])<|
 .cond 6 (.reg (zp 1<|zi (.bi .add (.e 2) (.c (.n 1)))<|zp 1 []) (zs 0<|zn 1<|zs 9<|zs 3<|zn 5 [])) (zq (zi (.bi .eql (.e 5) (.c (.y 100)))<|zp 1 []) (zs 0<|zn 1<|zs 2<|zs 3<|zn 3<|zs 9<|zn 1 [])<|
 .cond 7 (.reg (zp 1<|zi (.bi .sub (.e 2) (.c (.n 1)))<|zp 1 []) (zs 0<|zn 1<|zs 9<|zs 3<|zn 5 [])) (zq (zi (.cs .v (.b false)) []) (zn 1<|zs 9<|zn 7 [])<|
 .ret)))<|
 zq (zp 1<|zi (.bi .lss (.e 2) (.c (.n 0))) []) (zs 0<|zn 1<|zs 2<|zs 3<|zn 4<|zs 9 [])<|
 .cond 8 (zq (zi (.cs .v (.b false)) []) (zn 1<|zs 9<|zn 7 [])<|
 .ret) .skip)<|
 .reg (zp 1<|zi (.bi .add (.e 3) (.c (.n 1)))<|zp 1 []) (zs 0<|zn 1<|zs 2<|zs 9<|zn 5 []))<|
 zq (zp 1<|zi (.bi .eql (.e 2) (.c (.n 0)))<|zp 1<|zg [(9,true)] (.cy (.e 0))<|zg [(9,true)] (.sn (.e 10))<|zg [(9,true)] (.bi .leq (.e 11) (.c (.n 16)))<|zi (.pk (.e 9) (.e 12) (.c (.b false)))<|zp 1 []) (zn 1<|zs 13<|zn 7 [])<|
 .ret⟩
def ir_spec_l2Draw:IF:=⟨[],2,8,[2,0],zq (zi (.cs .v (.s [])) []) (zs 0<|zs 1<|zn 6 [])<|
 zq (zi (.cs .v (.s [])) []) (zs 0<|zs 1<|zn 1<|zs 8<|zn 4 [])<|
 zq (zi (.cs .v (.n 0)) []) (zs 0<|zs 1<|zn 1<|zs 3<|zs 8<|zn 3 [])<|
 zq (zi (.cs .v (.n 0)) []) (zs 0<|zs 1<|zn 1<|zs 3<|zs 4<|zs 8<|zn 2 [])<|
 .seq (.block 0<|.loop<|.seq (zq (zp 2<|zi (.bi .lss (.e 5) (.e 1)) []) (zs 0<|zs 1<|zn 1<|zs 3<|zs 4<|zs 5<|zs 8<|zn 1 [])<|
 .cond 6 .skip (.exit 0))<|
 .block 1<|zq (zp 2<|zi (.bi .lss (.e 4) (.e 1))<|zp 1<|zg [(8,true)] (.cy (.e 4))<|zg [(8,true)] (.cy (.e 5))<|zg [(8,true)] (.bi .eql (.e 9) (.e 10))<|zg [(8,true)] (.cy (.e 11))<|zg [(8,true),(12,false)] .nop<|⟨zn 1<|zs 0 [],[(8,true),(12,false)],.ca 307 [.e 0,.c (.n 2)] 2⟩::(zg [(8,true)] (.pk (.e 12) (.c (.b true)) (.e 13))<|zi (.pk (.e 8) (.e 15) (.c (.b false))) [])) (zs 14<|zs 1<|zn 1<|zs 3<|zs 4<|zs 5<|zn 1<|zs 16 [])<|
 .cond 7 (zq (zp 1<|zi (.bi .add (.e 3) (.c (.s [117])))<|zp 1 []) (zs 0<|zs 1<|zn 1<|zs 8<|zs 4<|zs 5<|zn 2 [])<|
 .reg (zp 1<|zi (.bi .add (.e 4) (.c (.n 1)))<|zp 1 []) (zs 0<|zs 1<|zn 1<|zs 3<|zs 8<|zs 5<|zn 2 [])) (zq (zp 1<|zi (.bi .add (.e 3) (.c (.s [100])))<|zp 1 []) (zs 0<|zs 1<|zn 1<|zs 8<|zs 4<|zs 5<|zn 2 [])<|
 .reg (zp 1<|zi (.bi .add (.e 5) (.c (.n 1)))<|zp 1 []) (zs 0<|zs 1<|zn 1<|zs 3<|zs 4<|zs 8<|zn 2 [])))<|
 zq (zp 2 []) (zs 0<|zn 1<|zs 3<|zn 5 [])<|
 .ret⟩
def ir_spec_l2Path:IF:=⟨[],1,2,[1,0],zq (zi (.cs .v (.s [])) []) (zs 0<|zn 1 [])<|
 zq (zp 2<|zi (.ca 289 [.e 0,.c (.n 7)] 2)<|zi (.ca 306 [.e 3,.e 2] 2)<|zp 1 []) (zs 5<|zs 4 [])<|
 .ret⟩
end Go.Cat
namespace Go.Cat
def ir_spec_PathsOf:IF:=⟨[],1,3,[1],zq (zi (.cs (.o .v) (.l [])) []) (zs 0<|zn 2 [])<|
 .seq (zq (zp 1<|zi (.ca 22 [.e 0,.c (.n 0),.c (.n 6)] 1)<|zi (.un .not (.e 3)) []) (zs 0<|zn 1<|zs 4 [])<|
 .cond 2 (zq (zi (.li (.o .v) [])<|zp 1 []) (zn 1<|zs 3<|zn 1 [])<|
 .ret) .skip)<|
 zq (zp 2<|zi (.ca 292 [.c (.s []),.e 0,.e 0] 1)<|zp 1 []) (zn 1<|zs 3<|zn 1 [])<|
 .ret⟩
def ir_spec_l3All:IF:=⟨[],3,8,[3],zq (zi (.cs (.o .v) (.l [])) []) (zs 0<|zs 1<|zs 2<|zn 5 [])<|
 .seq (zq (zp 1<|zi (.bi .eql (.e 2) (.c (.n 0))) []) (zs 0<|zs 1<|zs 2<|zn 2<|zs 8<|zn 2 [])<|
 .cond 5 (zq (zp 1<|zi (.li (.o .v) [.e 0])<|zp 1 []) (zn 3<|zs 8<|zn 4 [])<|
 .ret) .skip)<|
 zq (zi (.li (.o .v) [])<|zp 1 []) (zs 0<|zs 1<|zs 2<|zn 1<|zs 8<|zn 3 [])<|
 .seq (zq (zp 1<|zi (.bi .gtr (.e 1) (.c (.n 0))) []) (zs 0<|zs 1<|zs 2<|zn 1<|zs 4<|zn 1<|zs 8<|zn 1 [])<|
 .cond 6 (.reg (zp 2<|zi (.bi .add (.e 0) (.c (.s [117])))<|zp 1<|zi (.bi .sub (.e 1) (.c (.n 1)))<|zp 1<|zi (.ca 292 [.e 8,.e 9,.e 2] 1)<|zi (.ap false (.e 4) (.e 10))<|zp 1 []) (zs 0<|zs 1<|zs 2<|zn 1<|zs 11<|zn 3 [])) .skip)<|
 .seq (zq (zp 2<|zi (.bi .gtr (.e 2) (.e 1)) []) (zs 0<|zs 1<|zs 2<|zn 1<|zs 4<|zn 2<|zs 8 [])<|
 .cond 7 (.reg (zp 2<|zi (.bi .add (.e 0) (.c (.s [100])))<|zp 2<|zi (.bi .sub (.e 2) (.c (.n 1)))<|zi (.ca 292 [.e 8,.e 1,.e 9] 1)<|zi (.ap false (.e 4) (.e 10))<|zp 1 []) (zn 4<|zs 11<|zn 3 [])) .skip)<|
 zq (zp 2 []) (zn 3<|zs 4<|zn 4 [])<|
 .ret⟩
end Go.Cat
namespace Go.Cat
def ir_spec_BlocksOf:IF:=⟨[],1,6,[1],zq (zi (.cs .v (.l [])) []) (zs 0<|zn 5 [])<|
 zq (zi (.li (.o (.o .v)) [])<|zp 1 []) (zs 0<|zn 1<|zs 6<|zn 3 [])<|
 .seq (zq (zi (.cs .v (.n 0)) []) (zs 0<|zn 1<|zs 2<|zs 6<|zn 2 [])<|
 .block 0<|.loop<|.seq (zq (zp 2<|zi (.ln (.e 0) [])<|zi (.bi .lss (.e 3) (.e 6))<|zp 1<|zg [(7,true)] .nop<|zg [(7,true)] (.ca 324 [.e 0] 1)<|zi (.pk (.e 7) (.e 8) (.c (.b false))) []) (zs 0<|zn 1<|zs 2<|zs 3<|zs 9<|zn 1 [])<|
 .cond 4 .skip (.exit 0))<|
 .seq (.block 1<|.seq (zq (zp 2<|zi (.iy (.e 0) (.e 3))<|zp 2<|zi (.ln (.e 2) [])<|zi (.bi .eql (.e 6) (.e 7)) []) (zs 0<|zn 1<|zs 2<|zs 3<|zn 1<|zs 8 [])<|
 .cond 5 (.reg (zp 1<|zi (.li (.o .v) [])<|zi (.li (.o (.o .v)) [.e 6])<|zi (.ap false (.e 2) (.e 7))<|zp 1 []) (zs 0<|zn 1<|zs 8<|zs 3<|zn 2 [])) .skip)<|
 .reg (zi (.ln (.e 2) [])<|zp 3<|zi (.iy (.e 0) (.e 3))<|zp 4<|zi (.iy (.e 0) (.e 3))<|zp 1<|zi (.ix (.e 2) [] (.e 8))<|zi (.sp 2 [.e 8] 1)<|zp 1<|zi (.li (.o .v) [.e 3])<|zi (.ap false (.e 10) (.e 12))<|zi (.ix (.e 2) [] (.e 7))<|zi (.up 11 [.e 7] (.e 13)) []) (zs 0<|zn 1<|zs 15<|zs 3<|zn 2 []))<|
 .reg (zp 1<|zi (.bi .add (.e 3) (.c (.n 1)))<|zp 1 []) (zs 0<|zn 1<|zs 2<|zs 6<|zn 2 []))<|
 zq (zp 2 []) (zn 1<|zs 2<|zn 4 [])<|
 .ret⟩
def ir_spec_IsNoncrossing:IF:=⟨[],1,11,[1],zq (zi (.cs .v (.b false)) []) (zs 0<|zn 10 [])<|
 .seq (zq (zi (.cs .v (.n 0)) []) (zs 0<|zn 1<|zs 11<|zn 8 [])<|
 .block 0<|.loop<|.seq (zq (zp 2<|zi (.ln (.e 0) [])<|zi (.bi .lss (.e 2) (.e 11))<|zp 1<|zg [(12,true)] .nop<|zg [(12,true)] (.ca 324 [.e 0] 1)<|zi (.pk (.e 12) (.e 13) (.c (.b false))) []) (zs 0<|zn 1<|zs 2<|zn 3<|zs 14<|zn 4 [])<|
 .cond 6 .skip (.exit 0))<|
 .seq (.block 1<|zq (zp 1<|zi (.bi .add (.e 2) (.c (.n 1)))<|zp 1 []) (zs 0<|zn 1<|zs 2<|zs 11<|zn 7 [])<|
 .block 2<|.loop<|.seq (zq (zp 2<|zi (.ln (.e 0) [])<|zi (.bi .lss (.e 3) (.e 11)) []) (zs 0<|zn 1<|zs 2<|zs 3<|zn 3<|zs 12<|zn 3 [])<|
 .cond 7 .skip (.exit 2))<|
 .seq (.block 3<|zq (zp 1<|zi (.bi .add (.e 3) (.c (.n 1)))<|zp 1 []) (zs 0<|zn 1<|zs 2<|zs 3<|zs 11<|zn 6 [])<|
 .block 4<|.loop<|.seq (zq (zp 2<|zi (.ln (.e 0) [])<|zi (.bi .lss (.e 4) (.e 11)) []) (zs 0<|zn 1<|zs 2<|zs 3<|zs 4<|zn 3<|zs 12<|zn 2 [])<|
 .cond 8 .skip (.exit 4))<|
 .seq (.block 5<|zq (zp 1<|zi (.bi .add (.e 4) (.c (.n 1)))<|zp 1 []) (zs 0<|zn 1<|zs 2<|zs 3<|zs 4<|zs 11<|zn 5 [])<|
 .block 6<|.loop<|.seq (zq (zp 2<|zi (.ln (.e 0) [])<|zi (.bi .lss (.e 5) (.e 11)) []) (zs 0<|zn 1<|zs 2<|zs 3<|zs 4<|zs 5<|zn 3<|zs 12<|zn 1 [])<|
 .cond 9 .skip (.exit 6))<|
 .seq (.block 7<|zq (zp 2<|zi (.iy (.e 0) (.e 2))<|zp 3<|zi (.iy (.e 0) (.e 4))<|zp 1<|zi (.bi .eql (.e 11) (.e 12))<|zp 1<|zg [(13,true)] .nop<|zg [(13,true)] (.cy (.e 3))<|zg [(13,true)] (.iy (.e 0) (.e 14))<|zg [(13,true)] .nop<|zg [(13,true)] .nop<|zg [(13,true)] (.cy (.e 5))<|zg [(13,true)] (.iy (.e 0) (.e 16))<|zg [(13,true)] .nop<|zg [(13,true)] (.bi .eql (.e 15) (.e 17))<|zi (.pk (.e 13) (.e 18) (.c (.b false)))<|zp 1<|zg [(19,true)] .nop<|zg [(19,true)] (.cy (.e 2))<|zg [(19,true)] (.iy (.e 0) (.e 20))<|zg [(19,true)] .nop<|zg [(19,true)] .nop<|zg [(19,true)] (.cy (.e 3))<|zg [(19,true)] (.iy (.e 0) (.e 22))<|zg [(19,true)] .nop<|zg [(19,true)] (.bi .neq (.e 21) (.e 23))<|zi (.pk (.e 19) (.e 24) (.c (.b false))) []) (zs 0<|zn 1<|zs 2<|zs 3<|zs 4<|zs 5<|zn 4<|zs 25 [])<|
 .cond 10 (zq (zi (.cs .v (.b false)) []) (zn 1<|zs 11<|zn 9 [])<|
 .ret) .skip)<|
 .reg (zp 1<|zi (.bi .add (.e 5) (.c (.n 1)))<|zp 1 []) (zs 0<|zn 1<|zs 2<|zs 3<|zs 4<|zs 11<|zn 5 []))<|
 .reg (zp 1<|zi (.bi .add (.e 4) (.c (.n 1)))<|zp 1 []) (zs 0<|zn 1<|zs 2<|zs 3<|zs 11<|zn 6 []))<|
 .reg (zp 1<|zi (.bi .add (.e 3) (.c (.n 1)))<|zp 1 []) (zs 0<|zn 1<|zs 2<|zs 11<|zn 7 []))<|
 .reg (zp 1<|zi (.bi .add (.e 2) (.c (.n 1)))<|zp 1 []) (zs 0<|zn 1<|zs 11<|zn 8 []))<|
 zq (zp 1<|zi (.ca 324 [.e 0] 1)<|zp 1 []) (zn 1<|zs 11<|zn 9 [])<|
 .ret⟩
def ir_spec_IsPartition:IF:=⟨[],1,7,[1],zq (zi (.cs .v (.b false)) []) (zs 0<|zn 6 [])<|
 zq (zi (.cs .v (.n 0)) []) (zs 0<|zn 1<|zs 7<|zn 4 [])<|
 .seq (zq (zi (.cs .v (.n 0)) []) (zs 0<|zn 1<|zs 2<|zs 7<|zn 3 [])<|
 .block 0<|.loop<|.seq (zq (zp 2<|zi (.ln (.e 0) [])<|zi (.bi .lss (.e 3) (.e 7)) []) (zs 0<|zn 1<|zs 2<|zs 3<|zs 8<|zn 2 [])<|
 .cond 4 .skip (.exit 0))<|
 .seq (.block 1<|.seq (zq (zp 2<|zi (.iy (.e 0) (.e 3))<|zp 2<|zi (.ca 22 [.e 7,.c (.n 0),.e 2] 1)<|zi (.un .not (.e 8)) []) (zs 0<|zn 1<|zs 2<|zs 3<|zn 1<|zs 9<|zn 1 [])<|
 .cond 5 (zq (zi (.cs .v (.b false)) []) (zn 1<|zs 7<|zn 5 [])<|
 .ret) .skip)<|
 zq (zp 2<|zi (.iy (.e 0) (.e 3))<|zp 2<|zi (.bi .eql (.e 7) (.e 2)) []) (zs 0<|zn 1<|zs 2<|zs 3<|zn 2<|zs 8 [])<|
 .cond 6 (.reg (zp 1<|zi (.bi .add (.e 2) (.c (.n 1)))<|zp 1 []) (zs 0<|zn 1<|zs 7<|zs 3<|zn 3 [])) .skip)<|
 .reg (zp 1<|zi (.bi .add (.e 3) (.c (.n 1)))<|zp 1 []) (zs 0<|zn 1<|zs 2<|zs 7<|zn 3 []))<|
 zq (zp 1<|zi (.ln (.e 0) [])<|zi (.bi .leq (.e 7) (.c (.n 8)))<|zp 1 []) (zn 1<|zs 8<|zn 5 [])<|
 .ret⟩
def ir_spec_PartitionOf:IF:=⟨[],1,12,[1,2],zq (zi (.cs (.o .v) (.l []))<|zi (.cs .v (.b false)) []) (zs 0<|zn 11 [])<|
 .seq (zq (zp 1<|zi (.ca 64 [.e 0] 1)<|zi (.un .not (.e 12)) []) (zs 0<|zn 7<|zs 13<|zn 3 [])<|
 .cond 8 (zq (zi (.li (.o .v) [])<|zp 1<|zi (.cs .v (.b false)) []) (zn 1<|zs 12<|zs 13<|zn 9 [])<|
 .ret) .skip)<|
 zq (zp 1<|zi (.sn (.e 0))<|zi (.bi .quo (.e 12) (.c (.n 2)))<|zi (.mk (.n 0) (.e 13) (.e 13))<|zp 1 []) (zs 0<|zn 2<|zs 14<|zn 8 [])<|
 zq (zi (.li (.o .v) [])<|zp 1 []) (zs 0<|zn 2<|zs 3<|zs 12<|zn 7 [])<|
 zq (zi (.cs .v (.n 0)) []) (zs 0<|zn 2<|zs 3<|zs 4<|zs 12<|zn 6 [])<|
 zq (zi (.cs .v (.n 0)) []) (zs 0<|zn 2<|zs 3<|zs 4<|zs 5<|zs 12<|zn 5 [])<|
 .seq (zq (zi (.cs .v (.n 0)) []) (zs 0<|zn 2<|zs 3<|zs 4<|zs 5<|zs 6<|zs 12<|zn 4 [])<|
 .block 0<|.loop<|.seq (zq (zp 2<|zi (.sn (.e 0))<|zi (.bi .lss (.e 7) (.e 12)) []) (zs 0<|zn 2<|zs 3<|zs 4<|zs 5<|zs 6<|zs 7<|zn 1<|zs 13<|zn 2 [])<|
 .cond 9 .skip (.exit 0))<|
 .seq (.block 1<|.seq (zq (zp 2<|zi (.sx (.e 0) (.e 7))<|zi (.bi .eql (.e 12) (.c (.y 117))) []) (zs 0<|zn 2<|zs 3<|zs 4<|zs 5<|zs 6<|zs 7<|zn 2<|zs 13<|zn 1 [])<|
 .cond 10 (zq (zp 2<|zi (.li (.o .v) [.e 5])<|zi (.ap false (.e 4) (.e 12))<|zp 1 []) (zs 0<|zn 2<|zs 3<|zs 13<|zs 5<|zs 6<|zs 7<|zn 4 [])<|
 zq (zp 1<|zi (.bi .add (.e 5) (.c (.n 1)))<|zp 1 []) (zs 0<|zn 2<|zs 3<|zs 4<|zs 12<|zs 6<|zs 7<|zn 4 [])<|
 .exit 1) .skip)<|
 zq (zp 3<|zi (.ln (.e 4) [])<|zi (.bi .sub (.e 12) (.c (.n 1)))<|zi (.ix (.e 4) [] (.e 13))<|zp 2<|zi (.ix (.e 3) [] (.e 14))<|zi (.up 3 [.e 14] (.e 6)) []) (zs 0<|zn 2<|zs 16<|zs 4<|zs 5<|zs 6<|zs 7<|zn 4 [])<|
 zq (zp 2<|zi (.ln (.e 4) [])<|zi (.bi .sub (.e 12) (.c (.n 1)))<|zi (.sb true (.e 4) none (some (.e 13)))<|zp 1 []) (zs 0<|zn 2<|zs 3<|zs 14<|zs 5<|zs 6<|zs 7<|zn 4 [])<|
 zq (zp 1<|zi (.bi .add (.e 7) (.c (.n 1)))<|zp 1<|zi (.sn (.e 0))<|zi (.bi .eql (.e 12) (.e 13))<|zp 1<|zg [(14,false)] (.cy (.e 0))<|zg [(14,false)] (.cy (.e 7))<|zg [(14,false)] (.bi .add (.e 16) (.c (.n 1)))<|zg [(14,false)] (.sx (.e 15) (.e 17))<|zg [(14,false)] (.bi .eql (.e 18) (.c (.y 117)))<|zi (.pk (.e 14) (.c (.b true)) (.e 19)) []) (zs 0<|zn 2<|zs 3<|zs 4<|zs 5<|zs 6<|zs 7<|zn 3<|zs 20 [])<|
 .cond 11 (.reg (zp 1<|zi (.bi .add (.e 6) (.c (.n 1)))<|zp 1 []) (zs 0<|zn 2<|zs 3<|zs 4<|zs 5<|zs 12<|zs 7<|zn 4 [])) .skip)<|
 .reg (zp 1<|zi (.bi .add (.e 7) (.c (.n 1)))<|zp 1 []) (zs 0<|zn 2<|zs 3<|zs 4<|zs 5<|zs 6<|zs 12<|zn 4 []))<|
 zq (zp 1<|zi (.ca 323 [.e 3] 1)<|zp 1<|zi (.cs .v (.b true)) []) (zn 1<|zs 12<|zs 13<|zn 9 [])<|
 .ret⟩
def ir_spec_l8Any:IF:=⟨[],1,9,[1,0],zq (zi (.cs (.o .v) (.l [])) []) (zs 0<|zn 8 [])<|
 zq (zp 1<|zi (.ca 502 [.e 0] 2)<|zp 1 []) (zs 10<|zn 1<|zs 9<|zn 6 [])<|
 .seq (zq (zp 1<|zi (.ca 307 [.e 0,.c (.n 3)] 2) []) (zs 10<|zn 1<|zs 2<|zn 3<|zs 9<|zn 2 [])<|
 .cond 6 (zq (zi (.li (.o .v) [])<|zp 1 []) (zs 0<|zn 1<|zs 9<|zn 6 [])<|
 zq (zi (.cs .v (.n 0)) []) (zs 0<|zn 1<|zs 2<|zs 9<|zn 5 [])<|
 zq (zp 1<|zi (.ca 289 [.e 0,.c (.n 6)] 2)<|zp 1 []) (zs 10<|zn 1<|zs 2<|zs 3<|zs 9<|zn 4 [])<|
 .block 0<|.loop<|.seq (zq (zp 1<|zi (.bi .gtr (.e 4) (.c (.n 0))) []) (zs 0<|zn 1<|zs 2<|zs 3<|zs 4<|zn 2<|zs 9<|zn 1 [])<|
 .cond 7 .skip (.exit 0))<|
 .seq (.block 1<|zq (zp 2<|zi (.bi .add (.e 3) (.c (.n 1)))<|zi (.ca 289 [.e 0,.e 9] 2)<|zp 1 []) (zs 11<|zn 1<|zs 2<|zs 3<|zs 4<|zs 10<|zn 3 [])<|
 zq (zp 2<|zi (.li (.o .v) [.e 5])<|zi (.ap false (.e 2) (.e 9))<|zp 1 []) (zs 0<|zn 1<|zs 10<|zs 3<|zs 4<|zs 5<|zn 3 [])<|
 .reg (zp 2<|zi (.bi .add (.e 5) (.c (.n 1)))<|zi (.mx (.e 3) (.e 9))<|zp 1 []) (zs 0<|zn 1<|zs 2<|zs 10<|zs 4<|zn 4 []))<|
 .reg (zp 1<|zi (.bi .sub (.e 4) (.c (.n 1)))<|zp 1 []) (zs 0<|zn 1<|zs 2<|zs 3<|zs 9<|zn 4 [])) .skip)<|
 .seq (zq (zp 1<|zi (.ln (.e 2) [])<|zi (.bi .gtr (.e 9) (.c (.n 0)))<|zp 1<|zg [(10,true)] .nop<|⟨zn 1<|zs 0 [],[(10,true)],.ca 307 [.e 0,.c (.n 10)] 2⟩::(zi (.pk (.e 10) (.e 11) (.c (.b false))) [])) (zs 12<|zn 1<|zs 2<|zn 5<|zs 13 [])<|
 .cond 8 (.reg (zp 3<|zi (.ln (.e 2) [])<|zi (.ca 289 [.e 0,.e 9] 2)<|zp 1<|zi (.li (.o .v) [.c (.n (-1)),.c (.n 0),.c (.n 7),.c (.n 9223372036854775807)])<|zi (.ca 313 [.e 11,.e 12] 2)<|zi (.ix (.e 2) [] (.e 10))<|zi (.up 2 [.e 10] (.e 13)) []) (zs 14<|zn 1<|zs 16<|zn 6 [])) .skip)<|
 zq (zp 2 []) (zs 0<|zs 2<|zn 7 [])<|
 .ret⟩
def ir_spec_l8Draw:IF:=⟨[],1,3,[1,0],zq (zi (.cs (.o .v) (.l [])) []) (zs 0<|zn 2 [])<|
 zq (zp 1<|zi (.ca 317 [.e 0] 2)<|zi (.ca 301 [.e 3] 2)<|zp 5 []) (zs 4<|zn 1<|zs 5 [])<|
 zq (zp 2 []) (zs 0<|zs 2<|zn 1 [])<|
 .ret⟩
def ir_spec_l8Renumber:IF:=⟨[],1,11,[1],zq (zi (.cs (.o .v) (.l [])) []) (zs 0<|zn 10 [])<|
 zq (zi (.li (.o .v) [])<|zp 1 []) (zs 0<|zn 1<|zs 11<|zn 8 [])<|
 zq (zi (.li (.o .v) [])<|zp 1 []) (zs 0<|zn 1<|zs 2<|zs 11<|zn 7 [])<|
 .seq (zq (zi (.cs .v (.n 0)) []) (zs 0<|zn 1<|zs 2<|zs 3<|zs 11<|zn 6 [])<|
 .block 0<|.loop<|.seq (zq (zp 2<|zi (.ln (.e 0) [])<|zi (.bi .lss (.e 4) (.e 11)) []) (zs 0<|zn 1<|zs 2<|zs 3<|zs 4<|zn 2<|zs 12<|zn 3 [])<|
 .cond 7 .skip (.exit 0))<|
 .seq (.block 1<|zq (zi (.cs .v (.n (-1))) []) (zs 0<|zn 1<|zs 2<|zs 3<|zs 4<|zs 11<|zn 5 [])<|
 .seq (zq (zi (.cs .v (.n 0)) []) (zs 0<|zn 1<|zs 2<|zs 3<|zs 4<|zs 5<|zs 11<|zn 4 [])<|
 .block 2<|.loop<|.seq (zq (zp 2<|zi (.ln (.e 3) [])<|zi (.bi .lss (.e 6) (.e 11)) []) (zs 0<|zn 1<|zs 2<|zs 3<|zs 4<|zs 5<|zs 6<|zn 1<|zs 12<|zn 2 [])<|
 .cond 8 .skip (.exit 2))<|
 .seq (.block 3<|zq (zp 2<|zi (.ix (.e 3) [] (.e 6))<|zp 3<|zi (.iy (.e 0) (.e 4))<|zp 1<|zi (.bi .eql (.e 11) (.e 12)) []) (zs 0<|zn 1<|zs 2<|zs 3<|zs 4<|zs 5<|zs 6<|zn 2<|zs 13<|zn 1 [])<|
 .cond 9 (.reg (zp 2 []) (zs 0<|zn 1<|zs 2<|zs 3<|zs 4<|zs 6<|zs 6<|zn 4 [])) .skip)<|
 .reg (zp 1<|zi (.bi .add (.e 6) (.c (.n 1)))<|zp 1 []) (zs 0<|zn 1<|zs 2<|zs 3<|zs 4<|zs 5<|zs 11<|zn 4 []))<|
 .seq (zq (zp 1<|zi (.bi .lss (.e 5) (.c (.n 0))) []) (zs 0<|zn 1<|zs 2<|zs 3<|zs 4<|zs 5<|zn 4<|zs 11 [])<|
 .cond 10 (zq (zp 1<|zi (.ln (.e 3) [])<|zp 1 []) (zs 0<|zn 1<|zs 2<|zs 3<|zs 4<|zs 11<|zn 5 [])<|
 .reg (zp 3<|zi (.iy (.e 0) (.e 4))<|zp 1<|zi (.li (.o .v) [.e 11])<|zi (.ap false (.e 3) (.e 12))<|zp 1 []) (zs 0<|zn 1<|zs 2<|zs 13<|zs 4<|zs 5<|zn 5 [])) .skip)<|
 .reg (zp 2<|zi (.li (.o .v) [.e 5])<|zi (.ap false (.e 2) (.e 11))<|zp 1 []) (zs 0<|zn 1<|zs 12<|zs 3<|zs 4<|zn 6 []))<|
 .reg (zp 1<|zi (.bi .add (.e 4) (.c (.n 1)))<|zp 1 []) (zs 0<|zn 1<|zs 2<|zs 3<|zs 11<|zn 6 []))<|
 zq (zp 2 []) (zn 1<|zs 2<|zn 9 [])<|
 .ret⟩
end Go.Cat
namespace Go.Cat
def ir_spec_IsMatching:IF:=⟨[],1,5,[1],zq (zi (.cs .v (.b false)) []) (zs 0<|zn 4 [])<|
 .seq (zq (zi (.cs .v (.n 0)) []) (zs 0<|zn 1<|zs 5<|zn 2 [])<|
 .block 0<|.loop<|.seq (zq (zp 2<|zi (.ln (.e 0) [])<|zi (.bi .lss (.e 2) (.e 5)) []) (zs 0<|zn 1<|zs 2<|zs 6<|zn 1 [])<|
 .cond 3 .skip (.exit 0))<|
 .seq (.block 1<|zq (zp 2<|zi (.iy (.e 0) (.e 2))<|zp 2<|zi (.ln (.e 0) [])<|zi (.bi .sub (.e 6) (.c (.n 1)))<|zi (.ca 22 [.e 5,.c (.n 0),.e 7] 1)<|zi (.un .not (.e 8))<|zp 1<|zg [(9,false)] .nop<|zg [(9,false)] (.cy (.e 2))<|zg [(9,false)] (.iy (.e 0) (.e 10))<|zg [(9,false)] .nop<|zg [(9,false)] (.cy (.e 2))<|zg [(9,false)] (.bi .eql (.e 11) (.e 12))<|zi (.pk (.e 9) (.c (.b true)) (.e 13))<|zp 1<|zg [(14,false)] .nop<|zg [(14,false)] .nop<|zg [(14,false)] (.cy (.e 2))<|zg [(14,false)] (.iy (.e 0) (.e 15))<|zg [(14,false)] .nop<|zg [(14,false)] (.iy (.e 0) (.e 16))<|zg [(14,false)] .nop<|zg [(14,false)] (.cy (.e 2))<|zg [(14,false)] (.bi .neq (.e 17) (.e 18))<|zi (.pk (.e 14) (.c (.b true)) (.e 19)) []) (zs 0<|zn 1<|zs 2<|zn 1<|zs 20 [])<|
 .cond 4 (zq (zi (.cs .v (.b false)) []) (zn 1<|zs 5<|zn 3 [])<|
 .ret) .skip)<|
 .reg (zp 1<|zi (.bi .add (.e 2) (.c (.n 1)))<|zp 1 []) (zs 0<|zn 1<|zs 5<|zn 2 []))<|
 zq (zp 1<|zi (.ln (.e 0) [])<|zi (.bi .leq (.e 5) (.c (.n 16)))<|zp 1 []) (zn 1<|zs 6<|zn 3 [])<|
 .ret⟩
def ir_spec_MatchingOfPartition:IF:=⟨[],1,12,[1,2],zq (zi (.cs (.o .v) (.l []))<|zi (.cs .v (.b false)) []) (zs 0<|zn 11 [])<|
 .seq (zq (zp 1<|zi (.ca 483 [.e 0] 1)<|zi (.un .not (.e 12)) []) (zs 0<|zn 8<|zs 13<|zn 2 [])<|
 .cond 9 (zq (zi (.li (.o .v) [])<|zp 1<|zi (.cs .v (.b false)) []) (zn 1<|zs 12<|zs 13<|zn 9 [])<|
 .ret) .skip)<|
 zq (zp 1<|zi (.ln (.e 0) [])<|zi (.bi .mul (.c (.n 2)) (.e 12))<|zi (.mk (.n 0) (.e 13) (.e 13))<|zp 1 []) (zs 0<|zn 2<|zs 14<|zn 8 [])<|
 zq (zp 1<|zi (.ca 302 [.e 0] 1)<|zp 1 []) (zn 3<|zs 3<|zs 12<|zn 7 [])<|
 .seq (zq (zi (.cs .v (.n 0)) []) (zn 3<|zs 3<|zs 4<|zs 12<|zn 6 [])<|
 .block 0<|.loop<|.seq (zq (zp 2<|zi (.ln (.e 4) [])<|zi (.bi .lss (.e 5) (.e 12)) []) (zn 3<|zs 3<|zs 4<|zs 5<|zn 4<|zs 13<|zn 1 [])<|
 .cond 10 .skip (.exit 0))<|
 .seq (.block 1<|zq (zi (.cs .v (.n 0)) []) (zn 3<|zs 3<|zs 4<|zs 5<|zs 12<|zn 5 [])<|
 .block 2<|.loop<|.seq (zq (zp 3<|zi (.ix (.e 4) [] (.e 5))<|zp 1<|zi (.ln (.e 12) [])<|zi (.bi .lss (.e 6) (.e 13)) []) (zn 3<|zs 3<|zs 4<|zs 5<|zs 6<|zn 4<|zs 14 [])<|
 .cond 11 .skip (.exit 2))<|
 .seq (.block 3<|zq (zp 2<|zi (.ix (.e 4) [] (.e 5))<|zp 2<|zi (.ix (.e 12) [] (.e 6))<|zp 1<|zi (.bi .mul (.c (.n 2)) (.e 13))<|zi (.bi .add (.e 14) (.c (.n 1)))<|zp 1 []) (zn 3<|zs 3<|zs 4<|zs 5<|zs 6<|zs 15<|zn 4 [])<|
 zq (zp 2<|zi (.ix (.e 4) [] (.e 5))<|zp 2<|zi (.bi .add (.e 6) (.c (.n 1)))<|zp 2<|zi (.ix (.e 4) [] (.e 5))<|zp 1<|zi (.ln (.e 14) [])<|zi (.bi .rem (.e 13) (.e 15))<|zi (.ix (.e 12) [] (.e 16))<|zp 1<|zi (.bi .mul (.c (.n 2)) (.e 17))<|zp 1 []) (zn 3<|zs 3<|zs 4<|zs 5<|zs 6<|zs 7<|zs 18<|zn 3 [])<|
 zq (zp 3<|zi (.ix (.e 3) [] (.e 7))<|zi (.up 3 [.e 7] (.e 8)) []) (zn 3<|zs 13<|zs 4<|zs 5<|zs 6<|zs 7<|zs 8<|zn 3 [])<|
 .reg (zp 3<|zi (.ix (.e 3) [] (.e 8))<|zi (.up 3 [.e 8] (.e 7)) []) (zn 3<|zs 13<|zs 4<|zs 5<|zs 6<|zn 5 []))<|
 .reg (zp 1<|zi (.bi .add (.e 6) (.c (.n 1)))<|zp 1 []) (zn 3<|zs 3<|zs 4<|zs 5<|zs 12<|zn 5 []))<|
 .reg (zp 1<|zi (.bi .add (.e 5) (.c (.n 1)))<|zp 1 []) (zn 3<|zs 3<|zs 4<|zs 12<|zn 6 []))<|
 zq (zp 2<|zi (.cs .v (.b true)) []) (zn 1<|zs 3<|zs 12<|zn 9 [])<|
 .ret⟩
def ir_spec_TurnMatching:IF:=⟨[],2,9,[2,3],zq (zi (.cs (.o .v) (.l []))<|zi (.cs .v (.b false)) []) (zs 0<|zs 1<|zn 7 [])<|
 zq (zp 1<|zi (.ln (.e 0) [])<|zp 1 []) (zs 0<|zs 1<|zn 2<|zs 9<|zn 4 [])<|
 .seq (zq (zp 1<|zi (.ca 379 [.e 0] 1)<|zi (.un .not (.e 9))<|zp 1<|zg [(10,false)] (.cy (.e 1))<|zg [(10,false)] (.cy (.e 4))<|zg [(10,false)] (.bi .sub (.e 12) (.c (.n 1)))<|zg [(10,false)] (.mx (.c (.n 0)) (.e 13))<|zg [(10,false)] (.ca 22 [.e 11,.c (.n 0),.e 14] 1)<|zg [(10,false)] (.un .not (.e 15))<|zi (.pk (.e 10) (.c (.b true)) (.e 16)) []) (zs 0<|zs 1<|zn 2<|zs 4<|zn 2<|zs 17<|zn 1 [])<|
 .cond 7 (zq (zi (.li (.o .v) [])<|zp 1<|zi (.cs .v (.b false)) []) (zn 2<|zs 9<|zs 10<|zn 5 [])<|
 .ret) .skip)<|
 zq (zp 1<|zi (.mk (.n 0) (.e 4) (.e 4))<|zp 1 []) (zs 0<|zs 1<|zn 2<|zs 4<|zs 9<|zn 3 [])<|
 .seq (zq (zi (.cs .v (.n 0)) []) (zs 0<|zs 1<|zn 2<|zs 4<|zs 5<|zs 9<|zn 2 [])<|
 .block 0<|.loop<|.seq (zq (zp 2<|zi (.bi .lss (.e 6) (.e 4)) []) (zs 0<|zs 1<|zn 2<|zs 4<|zs 5<|zs 6<|zn 1<|zs 9 [])<|
 .cond 8 .skip (.exit 0))<|
 .seq (.block 1<|.reg (zp 3<|zi (.bi .sub (.e 6) (.e 1))<|zp 1<|zi (.bi .add (.e 9) (.e 4))<|zp 1<|zi (.bi .rem (.e 10) (.e 4))<|zp 2<|zi (.iy (.e 0) (.e 6))<|zp 2<|zi (.bi .sub (.e 12) (.e 1))<|zp 1<|zi (.bi .add (.e 13) (.e 4))<|zp 1<|zi (.bi .rem (.e 14) (.e 4))<|zi (.ix (.e 5) [] (.e 11))<|zi (.up 5 [.e 11] (.e 15)) []) (zs 0<|zs 1<|zn 2<|zs 4<|zs 17<|zs 6<|zn 2 []))<|
 .reg (zp 1<|zi (.bi .add (.e 6) (.c (.n 1)))<|zp 1 []) (zs 0<|zs 1<|zn 2<|zs 4<|zs 5<|zs 9<|zn 2 []))<|
 zq (zp 2<|zi (.cs .v (.b true)) []) (zn 2<|zs 5<|zs 9<|zn 5 [])<|
 .ret⟩
end Go.Cat
namespace Go.Cat
def ir_spec_l13Same:IF:=⟨[],2,7,[2],zq (zi (.cs .v (.b false)) []) (zs 0<|zs 1<|zn 5 [])<|
 .seq (zq (zp 1<|zi (.ln (.e 0) [])<|zp 1<|zi (.ln (.e 1) [])<|zi (.bi .neq (.e 7) (.e 8)) []) (zs 0<|zs 1<|zn 2<|zs 9<|zn 2 [])<|
 .cond 4 (zq (zi (.cs .v (.b false)) []) (zn 2<|zs 7<|zn 4 [])<|
 .ret) .skip)<|
 .seq (zq (zi (.cs .v (.n 0)) []) (zs 0<|zs 1<|zn 1<|zs 7<|zn 3 [])<|
 .block 0<|.loop<|.seq (zq (zp 2<|zi (.ln (.e 0) [])<|zi (.bi .lss (.e 3) (.e 7)) []) (zs 0<|zs 1<|zn 1<|zs 3<|zn 1<|zs 8<|zn 1 [])<|
 .cond 5 .skip (.exit 0))<|
 .seq (.block 1<|zq (zp 2<|zi (.iy (.e 0) (.e 3))<|zp 3<|zi (.iy (.e 1) (.e 3))<|zp 1<|zi (.bi .neq (.e 7) (.e 8)) []) (zs 0<|zs 1<|zn 1<|zs 3<|zn 2<|zs 9 [])<|
 .cond 6 (zq (zi (.cs .v (.b false)) []) (zn 2<|zs 7<|zn 4 [])<|
 .ret) .skip)<|
 .reg (zp 1<|zi (.bi .add (.e 3) (.c (.n 1)))<|zp 1 []) (zs 0<|zs 1<|zn 1<|zs 7<|zn 3 []))<|
 zq (zi (.cs .v (.b true)) []) (zn 2<|zs 7<|zn 4 [])<|
 .ret⟩
end Go.Cat
namespace Go.Cat
def ir_spec_CoarserJoin:IF:=⟨[],2,7,[2,3],zq (zi (.cs (.o .v) (.l []))<|zi (.cs .v (.b false)) []) (zs 0<|zs 1<|zn 5 [])<|
 .seq (zq (zp 1<|zi (.ca 483 [.e 0] 1)<|zi (.un .not (.e 7))<|zp 1<|zg [(8,false)] .nop<|zg [(8,false)] (.ca 483 [.e 1] 1)<|zg [(8,false)] (.un .not (.e 9))<|zi (.pk (.e 8) (.c (.b true)) (.e 10))<|zp 1<|zg [(11,false)] .nop<|zg [(11,false)] (.ln (.e 0) [])<|zg [(11,false)] .nop<|zg [(11,false)] (.ln (.e 1) [])<|zg [(11,false)] (.bi .neq (.e 12) (.e 13))<|zi (.pk (.e 11) (.c (.b true)) (.e 14)) []) (zs 0<|zs 1<|zn 4<|zs 15 [])<|
 .cond 6 (zq (zi (.li (.o .v) [])<|zp 1<|zi (.cs .v (.b false)) []) (zn 2<|zs 7<|zs 8<|zn 3 [])<|
 .ret) .skip)<|
 zq (zp 2<|zi (.ca 484 [.e 0,.e 1] 1)<|zi (.ca 452 [.e 7] 2)<|zp 5 []) (zn 4<|zs 8<|zs 9<|zn 1 [])<|
 zq (zp 4 []) (zn 2<|zs 4<|zs 5<|zn 3 [])<|
 .ret⟩
def ir_spec_Complement:IF:=⟨[],1,16,[1,2],zq (zi (.cs (.o .v) (.l []))<|zi (.cs .v (.b false)) []) (zs 0<|zn 15 [])<|
 zq (zp 1<|zi (.ca 476 [.e 0] 2)<|zp 5 []) (zs 0<|zn 2<|zs 16<|zs 17<|zn 11 [])<|
 .seq (zq (zp 1<|zi (.un .not (.e 4)) []) (zs 0<|zn 2<|zs 3<|zn 7<|zs 16<|zn 4 [])<|
 .cond 11 (zq (zi (.li (.o .v) [])<|zp 1<|zi (.cs .v (.b false)) []) (zn 1<|zs 16<|zs 17<|zn 13 [])<|
 .ret) .skip)<|
 .seq (zq (zp 1<|zi (.ln (.e 0) [])<|zi (.bi .eql (.e 16) (.c (.n 0))) []) (zs 0<|zn 2<|zs 3<|zn 8<|zs 17<|zn 3 [])<|
 .cond 12 (zq (zi (.li (.o .v) [])<|zp 1<|zi (.cs .v (.b true)) []) (zn 1<|zs 16<|zs 17<|zn 13 [])<|
 .ret) .skip)<|
 zq (zp 1<|zi (.ca 477 [.e 3,.c (.n 1)] 2)<|zp 5 []) (zs 0<|zn 4<|zs 16<|zn 10 [])<|
 zq (zp 1<|zi (.ln (.e 0) [])<|zi (.mk (.n 0) (.e 16) (.e 16))<|zp 1 []) (zs 0<|zn 4<|zs 5<|zs 17<|zn 9 [])<|
 .seq (zq (zi (.cs .v (.n 0)) []) (zs 0<|zn 4<|zs 5<|zs 6<|zs 16<|zn 8 [])<|
 .block 0<|.loop<|.seq (zq (zp 2<|zi (.ln (.e 0) [])<|zi (.bi .lss (.e 7) (.e 16)) []) (zs 0<|zn 4<|zs 5<|zs 6<|zs 7<|zn 5<|zs 17<|zn 2 [])<|
 .cond 13 .skip (.exit 0))<|
 .seq (.block 1<|.reg (zp 2<|zi (.ix (.e 6) [] (.e 7))<|zi (.up 6 [.e 7] (.c (.n (-1)))) []) (zs 0<|zn 4<|zs 5<|zs 17<|zs 7<|zn 8 []))<|
 .reg (zp 1<|zi (.bi .add (.e 7) (.c (.n 1)))<|zp 1 []) (zs 0<|zn 4<|zs 5<|zs 6<|zs 16<|zn 8 []))<|
 zq (zi (.cs .v (.n 0)) []) (zs 0<|zn 4<|zs 5<|zs 6<|zn 1<|zs 16<|zn 7 [])<|
 .seq (zq (zi (.cs .v (.n 0)) []) (zs 0<|zn 4<|zs 5<|zs 6<|zn 1<|zs 8<|zs 16<|zn 6 [])<|
 .block 2<|.loop<|.seq (zq (zp 2<|zi (.ln (.e 0) [])<|zi (.bi .lss (.e 9) (.e 16)) []) (zs 0<|zn 4<|zs 5<|zs 6<|zn 1<|zs 8<|zs 9<|zn 4<|zs 17<|zn 1 [])<|
 .cond 14 .skip (.exit 2))<|
 .seq (.block 3<|.seq (zq (zp 2 []) (zs 0<|zn 4<|zs 5<|zs 6<|zn 1<|zs 8<|zs 9<|zs 9<|zn 5 [])<|
 .block 4<|.loop<|.seq (zq (zp 2<|zi (.ix (.e 6) [] (.e 10))<|zp 1<|zi (.bi .lss (.e 16) (.c (.n 0))) []) (zs 0<|zn 4<|zs 5<|zs 6<|zn 1<|zs 8<|zs 9<|zs 10<|zn 4<|zs 17 [])<|
 .cond 15 .skip (.exit 4))<|
 .seq (.block 5<|.reg (zp 3<|zi (.ix (.e 6) [] (.e 10))<|zi (.up 6 [.e 10] (.e 8)) []) (zs 0<|zn 4<|zs 5<|zs 17<|zn 1<|zs 8<|zs 9<|zs 10<|zn 5 []))<|
 .reg (zp 2<|zi (.bi .mul (.c (.n 2)) (.e 10))<|zi (.bi .add (.e 16) (.c (.n 1)))<|zi (.ix (.e 5) [] (.e 17))<|zp 1<|zi (.bi .quo (.e 18) (.c (.n 2)))<|zp 1 []) (zs 0<|zn 4<|zs 5<|zs 6<|zn 1<|zs 8<|zs 9<|zs 19<|zn 5 []))<|
 .reg (zp 1<|zi (.bi .add (.e 8) (.c (.n 1)))<|zp 1 []) (zs 0<|zn 4<|zs 5<|zs 6<|zn 1<|zs 16<|zs 9<|zn 6 []))<|
 .reg (zp 1<|zi (.bi .add (.e 9) (.c (.n 1)))<|zp 1 []) (zs 0<|zn 4<|zs 5<|zs 6<|zn 1<|zs 8<|zs 16<|zn 6 []))<|
 zq (zp 1<|zi (.ca 323 [.e 6] 1)<|zp 1<|zi (.cs .v (.b true)) []) (zn 1<|zs 16<|zs 17<|zn 13 [])<|
 .ret⟩
def ir_spec_CountChains:IF:=⟨[],2,21,[2],zq (zi (.cs .v (.n 0)) []) (zs 0<|zs 1<|zn 19 [])<|
 .seq (zq (zp 1<|zi (.ca 22 [.e 0,.c (.n 0),.c (.n 4)] 1)<|zi (.un .not (.e 21))<|zp 1<|zg [(22,false)] (.cy (.e 1))<|zg [(22,false)] (.ca 22 [.e 23,.c (.n 1),.c (.n 5)] 1)<|zg [(22,false)] (.un .not (.e 24))<|zi (.pk (.e 22) (.c (.b true)) (.e 25)) []) (zs 0<|zs 1<|zn 12<|zs 26<|zn 6 [])<|
 .cond 14 (zq (zi (.cs .v (.n (-1))) []) (zn 2<|zs 21<|zn 18 [])<|
 .ret) .skip)<|
 zq (zp 1<|zi (.ca 234 [.e 0] 1)<|zp 1 []) (zn 1<|zs 1<|zn 1<|zs 21<|zn 17 [])<|
 zq (zi (.li (.o .v) [])<|zp 1 []) (zn 1<|zs 1<|zn 1<|zs 3<|zs 21<|zn 16 [])<|
 zq (zi (.li (.o .v) [])<|zp 1 []) (zn 1<|zs 1<|zn 1<|zs 3<|zs 4<|zs 21<|zn 15 [])<|
 .seq (zq (zi (.cs .v (.n 0)) []) (zn 1<|zs 1<|zn 1<|zs 3<|zs 4<|zs 5<|zs 21<|zn 14 [])<|
 .block 0<|.loop<|.seq (zq (zp 2<|zi (.ln (.e 3) [])<|zi (.bi .lss (.e 6) (.e 21)) []) (zn 1<|zs 1<|zn 1<|zs 3<|zs 4<|zs 5<|zs 6<|zn 8<|zs 22<|zn 5 [])<|
 .cond 15 .skip (.exit 0))<|
 .seq (.block 1<|zq (zp 2<|zi (.ix (.e 3) [] (.e 6))<|zp 1<|zi (.ca 301 [.e 21] 2)<|zp 5 []) (zn 1<|zs 1<|zn 1<|zs 3<|zs 4<|zs 5<|zs 6<|zs 22<|zn 13 [])<|
 zq (zp 2<|zi (.li (.o .v) [.e 7])<|zi (.ap false (.e 4) (.e 21))<|zp 1 []) (zn 1<|zs 1<|zn 1<|zs 3<|zs 22<|zs 5<|zs 6<|zn 14 [])<|
 .reg (zp 1<|zi (.li (.o .v) [.c (.n 1)])<|zi (.ap false (.e 5) (.e 21))<|zp 1 []) (zn 1<|zs 1<|zn 1<|zs 3<|zs 4<|zs 22<|zs 6<|zn 14 []))<|
 .reg (zp 1<|zi (.bi .add (.e 6) (.c (.n 1)))<|zp 1 []) (zn 1<|zs 1<|zn 1<|zs 3<|zs 4<|zs 5<|zs 21<|zn 14 []))<|
 .seq (zq (zi (.cs .v (.n 1)) []) (zn 1<|zs 1<|zn 2<|zs 4<|zs 5<|zn 2<|zs 21<|zn 12 [])<|
 .block 2<|.loop<|.seq (zq (zp 2<|zi (.bi .lss (.e 8) (.e 1)) []) (zn 1<|zs 1<|zn 2<|zs 4<|zs 5<|zn 2<|zs 8<|zn 7<|zs 21<|zn 4 [])<|
 .cond 16 .skip (.exit 2))<|
 .seq (.block 3<|zq (zp 1<|zi (.ln (.e 4) [])<|zi (.mk (.n 0) (.e 21) (.e 21))<|zp 1 []) (zn 1<|zs 1<|zn 2<|zs 4<|zs 5<|zn 2<|zs 8<|zs 22<|zn 11 [])<|
 .seq (zq (zi (.cs .v (.n 0)) []) (zn 1<|zs 1<|zn 2<|zs 4<|zs 5<|zn 2<|zs 8<|zs 9<|zs 21<|zn 10 [])<|
 .block 4<|.loop<|.seq (zq (zp 2<|zi (.ln (.e 4) [])<|zi (.bi .lss (.e 10) (.e 21)) []) (zn 1<|zs 1<|zn 2<|zs 4<|zs 5<|zn 2<|zs 8<|zs 9<|zs 10<|zn 6<|zs 22<|zn 3 [])<|
 .cond 17 .skip (.exit 4))<|
 .seq (.block 5<|zq (zi (.cs .v (.n 0)) []) (zn 1<|zs 1<|zn 2<|zs 4<|zs 5<|zn 2<|zs 8<|zs 9<|zs 10<|zs 21<|zn 9 [])<|
 .block 6<|.loop<|.seq (zq (zp 2<|zi (.ln (.e 4) [])<|zi (.bi .lss (.e 11) (.e 21)) []) (zn 1<|zs 1<|zn 2<|zs 4<|zs 5<|zn 2<|zs 8<|zs 9<|zs 10<|zs 11<|zn 6<|zs 22<|zn 2 [])<|
 .cond 18 .skip (.exit 6))<|
 .seq (.block 7<|zq (zp 2<|zi (.ix (.e 4) [] (.e 11))<|zp 3<|zi (.ix (.e 4) [] (.e 10))<|zp 1<|zi (.ca 453 [.e 21,.e 22] 1) []) (zn 1<|zs 1<|zn 2<|zs 4<|zs 5<|zn 2<|zs 8<|zs 9<|zs 10<|zs 11<|zn 7<|zs 23<|zn 1 [])<|
 .cond 19 (.reg (zp 4<|zi (.ix (.e 9) [] (.e 10))<|zp 3<|zi (.ix (.e 5) [] (.e 11))<|zp 1<|zi (.bi .add (.e 21) (.e 22))<|zi (.ix (.e 9) [] (.e 10))<|zi (.up 9 [.e 10] (.e 23)) []) (zn 1<|zs 1<|zn 2<|zs 4<|zs 5<|zn 2<|zs 8<|zs 25<|zs 10<|zs 11<|zn 9 [])) .skip)<|
 .reg (zp 1<|zi (.bi .add (.e 11) (.c (.n 1)))<|zp 1 []) (zn 1<|zs 1<|zn 2<|zs 4<|zs 5<|zn 2<|zs 8<|zs 9<|zs 10<|zs 21<|zn 9 []))<|
 .reg (zp 1<|zi (.bi .add (.e 10) (.c (.n 1)))<|zp 1 []) (zn 1<|zs 1<|zn 2<|zs 4<|zs 5<|zn 2<|zs 8<|zs 9<|zs 21<|zn 10 []))<|
 .reg (zp 2 []) (zn 1<|zs 1<|zn 2<|zs 4<|zs 9<|zn 2<|zs 8<|zn 12 []))<|
 .reg (zp 1<|zi (.bi .add (.e 8) (.c (.n 1)))<|zp 1 []) (zn 1<|zs 1<|zn 2<|zs 4<|zs 5<|zn 2<|zs 21<|zn 12 []))<|
 zq (zi (.cs .v (.n 0)) []) (zn 5<|zs 5<|zn 6<|zs 21<|zn 8 [])<|
 .seq (zq (zi (.cs .v (.n 0)) []) (zn 5<|zs 5<|zn 6<|zs 12<|zs 21<|zn 7 [])<|
 .block 8<|.loop<|.seq (zq (zp 2<|zi (.ln (.e 5) [])<|zi (.bi .lss (.e 13) (.e 21)) []) (zn 5<|zs 5<|zn 6<|zs 12<|zs 13<|zn 6<|zs 22 [])<|
 .cond 20 .skip (.exit 8))<|
 .seq (.block 9<|.reg (zp 3<|zi (.ix (.e 5) [] (.e 13))<|zp 1<|zi (.bi .add (.e 12) (.e 21))<|zp 1 []) (zn 5<|zs 5<|zn 6<|zs 22<|zs 13<|zn 7 []))<|
 .reg (zp 1<|zi (.bi .add (.e 13) (.c (.n 1)))<|zp 1 []) (zn 5<|zs 5<|zn 6<|zs 12<|zs 21<|zn 7 []))<|
 zq (zp 2 []) (zn 2<|zs 12<|zn 18 [])<|
 .ret⟩
def ir_spec_DrawCoarserJoin:IF:=⟨[],1,5,[1,2],zq (zi (.cs (.o .v) (.l []))<|zi (.cs (.o .v) (.l [])) []) (zs 0<|zn 4 [])<|
 zq (zp 1<|zi (.ca 480 [.e 0] 2)<|zp 5 []) (zn 3<|zs 5<|zs 6 [])<|
 zq (zp 4 []) (zn 1<|zs 3<|zs 4<|zn 2 [])<|
 .ret⟩
def ir_spec_DrawComplement:IF:=⟨[],1,2,[1],zq (zi (.cs (.o .v) (.l [])) []) (zs 0<|zn 1 [])<|
 zq (zp 1<|zi (.ca 288 [.e 0] 1)<|zi (.ca 472 [.e 2] 2)<|zp 1 []) (zn 1<|zs 3 [])<|
 .ret⟩
def ir_spec_DrawCountChains:IF:=⟨[],1,5,[1,2],zq (zi (.cs .v (.n 0))<|zi (.cs .v (.n 0)) []) (zs 0<|zn 4 [])<|
 zq (zp 1<|zi (.ca 288 [.e 0] 1)<|zp 1 []) (zn 3<|zs 5<|zn 1 [])<|
 zq (zp 1<|zi (.ca 289 [.e 3,.c (.n 6)] 2)<|zp 1 []) (zn 3<|zs 6<|zs 5 [])<|
 zq (zp 2<|zi (.ca 289 [.e 3,.c (.n 7)] 2)<|zp 2 []) (zn 1<|zs 4<|zs 5<|zn 2 [])<|
 .ret⟩
def ir_spec_DrawMoebiusOf:IF:=⟨[],1,5,[1,2],zq (zi (.cs (.o .v) (.l []))<|zi (.cs (.o .v) (.l [])) []) (zs 0<|zn 4 [])<|
 zq (zp 1<|zi (.ca 480 [.e 0] 2)<|zp 5 []) (zn 3<|zs 5<|zs 6 [])<|
 zq (zp 4 []) (zn 1<|zs 3<|zs 4<|zn 2 [])<|
 .ret⟩
def ir_spec_DrawNoncrossingClosure:IF:=⟨[],1,2,[1],zq (zi (.cs (.o .v) (.l [])) []) (zs 0<|zn 1 [])<|
 zq (zp 1<|zi (.ca 288 [.e 0] 1)<|zi (.ca 472 [.e 2] 2)<|zp 1 []) (zn 1<|zs 3 [])<|
 .ret⟩
def ir_spec_FinerMeet:IF:=⟨[],2,8,[2,3],zq (zi (.cs (.o .v) (.l []))<|zi (.cs .v (.b false)) []) (zs 0<|zs 1<|zn 6 [])<|
 .seq (zq (zp 1<|zi (.ca 324 [.e 0] 1)<|zi (.un .not (.e 8))<|zp 1<|zg [(9,false)] .nop<|zg [(9,false)] (.ca 324 [.e 1] 1)<|zg [(9,false)] (.un .not (.e 10))<|zi (.pk (.e 9) (.c (.b true)) (.e 11))<|zp 1<|zg [(12,false)] .nop<|zg [(12,false)] (.ln (.e 0) [])<|zg [(12,false)] .nop<|zg [(12,false)] (.ln (.e 1) [])<|zg [(12,false)] (.bi .neq (.e 13) (.e 14))<|zi (.pk (.e 12) (.c (.b true)) (.e 15)) []) (zs 0<|zs 1<|zn 4<|zs 16<|zn 1 [])<|
 .cond 6 (zq (zi (.li (.o .v) [])<|zp 1<|zi (.cs .v (.b false)) []) (zn 2<|zs 8<|zs 9<|zn 4 [])<|
 .ret) .skip)<|
 zq (zi (.li (.o .v) [])<|zp 1 []) (zs 0<|zs 1<|zn 2<|zs 8<|zn 3 [])<|
 .seq (zq (zi (.cs .v (.n 0)) []) (zs 0<|zs 1<|zn 2<|zs 4<|zs 8<|zn 2 [])<|
 .block 0<|.loop<|.seq (zq (zp 2<|zi (.ln (.e 0) [])<|zi (.bi .lss (.e 5) (.e 8)) []) (zs 0<|zs 1<|zn 2<|zs 4<|zs 5<|zn 1<|zs 9 [])<|
 .cond 7 .skip (.exit 0))<|
 .seq (.block 1<|.reg (zp 3<|zi (.iy (.e 0) (.e 5))<|zp 1<|zi (.bi .mul (.e 8) (.c (.n 9)))<|zp 2<|zi (.iy (.e 1) (.e 5))<|zp 1<|zi (.bi .add (.e 9) (.e 10))<|zi (.li (.o .v) [.e 11])<|zi (.ap false (.e 4) (.e 12))<|zp 1 []) (zs 0<|zs 1<|zn 2<|zs 13<|zs 5<|zn 2 []))<|
 .reg (zp 1<|zi (.bi .add (.e 5) (.c (.n 1)))<|zp 1 []) (zs 0<|zs 1<|zn 2<|zs 4<|zs 8<|zn 2 []))<|
 zq (zp 1<|zi (.ca 323 [.e 4] 1)<|zp 1<|zi (.cs .v (.b true)) []) (zn 2<|zs 8<|zs 9<|zn 4 [])<|
 .ret⟩
def ir_spec_IsFiner:IF:=⟨[],2,9,[2],zq (zi (.cs .v (.b false)) []) (zs 0<|zs 1<|zn 7 [])<|
 .seq (zq (zp 1<|zi (.ca 324 [.e 0] 1)<|zi (.un .not (.e 9))<|zp 1<|zg [(10,false)] .nop<|zg [(10,false)] (.ca 324 [.e 1] 1)<|zg [(10,false)] (.un .not (.e 11))<|zi (.pk (.e 10) (.c (.b true)) (.e 12))<|zp 1<|zg [(13,false)] .nop<|zg [(13,false)] (.ln (.e 0) [])<|zg [(13,false)] .nop<|zg [(13,false)] (.ln (.e 1) [])<|zg [(13,false)] (.bi .neq (.e 14) (.e 15))<|zi (.pk (.e 13) (.c (.b true)) (.e 16)) []) (zs 0<|zs 1<|zn 3<|zs 17<|zn 3 [])<|
 .cond 5 (zq (zi (.cs .v (.b false)) []) (zn 2<|zs 9<|zn 6 [])<|
 .ret) .skip)<|
 .seq (zq (zi (.cs .v (.n 0)) []) (zs 0<|zs 1<|zn 1<|zs 9<|zn 5 [])<|
 .block 0<|.loop<|.seq (zq (zp 2<|zi (.ln (.e 0) [])<|zi (.bi .lss (.e 3) (.e 9)) []) (zs 0<|zs 1<|zn 1<|zs 3<|zn 2<|zs 10<|zn 2 [])<|
 .cond 6 .skip (.exit 0))<|
 .seq (.block 1<|zq (zi (.cs .v (.n 0)) []) (zs 0<|zs 1<|zn 1<|zs 3<|zs 9<|zn 4 [])<|
 .block 2<|.loop<|.seq (zq (zp 2<|zi (.bi .lss (.e 4) (.e 3)) []) (zs 0<|zs 1<|zn 1<|zs 3<|zs 4<|zn 2<|zs 9<|zn 1 [])<|
 .cond 7 .skip (.exit 2))<|
 .seq (.block 3<|zq (zp 2<|zi (.iy (.e 0) (.e 3))<|zp 3<|zi (.iy (.e 0) (.e 4))<|zp 1<|zi (.bi .eql (.e 9) (.e 10))<|zp 1<|zg [(11,true)] .nop<|zg [(11,true)] (.cy (.e 3))<|zg [(11,true)] (.iy (.e 1) (.e 12))<|zg [(11,true)] .nop<|zg [(11,true)] .nop<|zg [(11,true)] (.cy (.e 4))<|zg [(11,true)] (.iy (.e 1) (.e 14))<|zg [(11,true)] .nop<|zg [(11,true)] (.bi .neq (.e 13) (.e 15))<|zi (.pk (.e 11) (.e 16) (.c (.b false))) []) (zs 0<|zs 1<|zn 1<|zs 3<|zs 4<|zn 3<|zs 17 [])<|
 .cond 8 (zq (zi (.cs .v (.b false)) []) (zn 2<|zs 9<|zn 6 [])<|
 .ret) .skip)<|
 .reg (zp 1<|zi (.bi .add (.e 4) (.c (.n 1)))<|zp 1 []) (zs 0<|zs 1<|zn 1<|zs 3<|zs 9<|zn 4 []))<|
 .reg (zp 1<|zi (.bi .add (.e 3) (.c (.n 1)))<|zp 1 []) (zs 0<|zs 1<|zn 1<|zs 9<|zn 5 []))<|
 zq (zi (.cs .v (.b true)) []) (zn 2<|zs 9<|zn 6 [])<|
 .ret⟩
def ir_spec_MoebiusOf:IF:=⟨[],2,21,[2,3],zq (zi (.cs .v (.n 0))<|zi (.cs .v (.b false)) []) (zs 0<|zs 1<|zn 19 [])<|
 .seq (zq (zp 1<|zi (.ca 483 [.e 0] 1)<|zi (.un .not (.e 21))<|zp 1<|zg [(22,false)] .nop<|zg [(22,false)] (.ca 483 [.e 1] 1)<|zg [(22,false)] (.un .not (.e 23))<|zi (.pk (.e 22) (.c (.b true)) (.e 24))<|zp 1<|zg [(25,false)] .nop<|zg [(25,false)] (.ln (.e 0) [])<|zg [(25,false)] .nop<|zg [(25,false)] (.ln (.e 1) [])<|zg [(25,false)] (.bi .neq (.e 26) (.e 27))<|zi (.pk (.e 25) (.c (.b true)) (.e 28))<|zp 1<|zg [(29,false)] .nop<|zg [(29,false)] (.ln (.e 0) [])<|zg [(29,false)] (.bi .gtr (.e 30) (.c (.n 5)))<|zi (.pk (.e 29) (.c (.b true)) (.e 31)) []) (zs 0<|zs 1<|zn 9<|zs 32<|zn 9 [])<|
 .cond 11 (zq (zi (.cs .v (.n 0))<|zi (.cs .v (.b false)) []) (zn 2<|zs 21<|zs 22<|zn 17 [])<|
 .ret) .skip)<|
 .seq (zq (zp 2<|zi (.ca 453 [.e 0,.e 1] 1)<|zi (.un .not (.e 21)) []) (zs 0<|zs 1<|zn 10<|zs 22<|zn 8 [])<|
 .cond 12 (zq (zi (.cs .v (.n 0))<|zi (.cs .v (.b true)) []) (zn 2<|zs 21<|zs 22<|zn 17 [])<|
 .ret) .skip)<|
 zq (zp 2<|zi (.ca 487 [.e 0,.e 1] 1)<|zp 1 []) (zs 0<|zs 1<|zn 2<|zs 21<|zn 16 [])<|
 zq (zp 1<|zi (.ln (.e 4) [])<|zi (.mk (.n 0) (.e 21) (.e 21))<|zp 1 []) (zs 0<|zs 1<|zn 2<|zs 4<|zs 22<|zn 15 [])<|
 .seq (zq (zi (.cs .v (.n 0)) []) (zs 0<|zs 1<|zn 2<|zs 4<|zs 5<|zs 21<|zn 14 [])<|
 .block 0<|.loop<|.seq (zq (zp 2<|zi (.ln (.e 0) [])<|zi (.bi .leq (.e 6) (.e 21)) []) (zs 0<|zs 1<|zn 2<|zs 4<|zs 5<|zs 6<|zn 6<|zs 22<|zn 7 [])<|
 .cond 13 .skip (.exit 0))<|
 .seq (.block 1<|zq (zi (.cs .v (.n 0)) []) (zs 0<|zs 1<|zn 2<|zs 4<|zs 5<|zs 6<|zs 21<|zn 13 [])<|
 .block 2<|.loop<|.seq (zq (zp 2<|zi (.ln (.e 4) [])<|zi (.bi .lss (.e 7) (.e 21)) []) (zs 0<|zs 1<|zn 2<|zs 4<|zs 5<|zs 6<|zs 7<|zn 6<|zs 22<|zn 6 [])<|
 .cond 14 .skip (.exit 2))<|
 .seq (.block 3<|.seq (zq (zp 2<|zi (.ix (.e 4) [] (.e 7))<|zp 1<|zi (.ca 454 [.e 21] 1)<|zp 1<|zi (.bi .neq (.e 22) (.e 6)) []) (zs 0<|zs 1<|zn 2<|zs 4<|zs 5<|zs 6<|zs 7<|zn 7<|zs 23<|zn 5 [])<|
 .cond 15 (.exit 3) .skip)<|
 zq (zi (.cs .v (.n 0)) []) (zs 0<|zs 1<|zn 2<|zs 4<|zs 5<|zs 6<|zs 7<|zs 21<|zn 12 [])<|
 .seq (zq (zp 2<|zi (.ix (.e 4) [] (.e 7))<|zp 2<|zi (.ca 149 [.e 21,.e 0] 1) []) (zs 0<|zs 1<|zn 2<|zs 4<|zs 5<|zs 6<|zs 7<|zs 8<|zn 7<|zs 22<|zn 4 [])<|
 .cond 16 (.reg (zi (.cs .v (.n 1)) []) (zs 0<|zs 1<|zn 2<|zs 4<|zs 5<|zs 6<|zs 7<|zs 21<|zn 12 [])) .skip)<|
 .seq (zq (zi (.cs .v (.n 0)) []) (zs 0<|zs 1<|zn 2<|zs 4<|zs 5<|zs 6<|zs 7<|zs 8<|zs 21<|zn 11 [])<|
 .block 4<|.loop<|.seq (zq (zp 2<|zi (.ln (.e 4) [])<|zi (.bi .lss (.e 9) (.e 21)) []) (zs 0<|zs 1<|zn 2<|zs 4<|zs 5<|zs 6<|zs 7<|zs 8<|zs 9<|zn 7<|zs 22<|zn 3 [])<|
 .cond 17 .skip (.exit 4))<|
 .seq (.block 5<|zq (zp 2<|zi (.ix (.e 4) [] (.e 9))<|zp 1<|zi (.ca 454 [.e 21] 1)<|zp 1<|zi (.bi .lss (.e 22) (.e 6))<|zp 1<|zg [(23,true)] (.cy (.e 4))<|zg [(23,true)] (.cy (.e 9))<|zg [(23,true)] (.ix (.e 24) [] (.e 25))<|zg [(23,true)] .nop<|zg [(23,true)] (.cy (.e 4))<|zg [(23,true)] (.cy (.e 7))<|zg [(23,true)] (.ix (.e 27) [] (.e 28))<|zg [(23,true)] .nop<|zg [(23,true)] (.ca 453 [.e 26,.e 29] 1)<|zi (.pk (.e 23) (.e 30) (.c (.b false))) []) (zs 0<|zs 1<|zn 2<|zs 4<|zs 5<|zs 6<|zs 7<|zs 8<|zs 9<|zn 8<|zs 31<|zn 2 [])<|
 .cond 18 (.reg (zp 3<|zi (.ix (.e 5) [] (.e 9))<|zp 1<|zi (.bi .sub (.e 8) (.e 21))<|zp 1 []) (zs 0<|zs 1<|zn 2<|zs 4<|zs 5<|zs 6<|zs 7<|zs 22<|zs 9<|zn 11 [])) .skip)<|
 .reg (zp 1<|zi (.bi .add (.e 9) (.c (.n 1)))<|zp 1 []) (zs 0<|zs 1<|zn 2<|zs 4<|zs 5<|zs 6<|zs 7<|zs 8<|zs 21<|zn 11 []))<|
 .reg (zp 3<|zi (.ix (.e 5) [] (.e 7))<|zi (.up 5 [.e 7] (.e 8)) []) (zs 0<|zs 1<|zn 2<|zs 4<|zs 22<|zs 6<|zs 7<|zn 13 []))<|
 .reg (zp 1<|zi (.bi .add (.e 7) (.c (.n 1)))<|zp 1 []) (zs 0<|zs 1<|zn 2<|zs 4<|zs 5<|zs 6<|zs 21<|zn 13 []))<|
 .reg (zp 1<|zi (.bi .add (.e 6) (.c (.n 1)))<|zp 1 []) (zs 0<|zs 1<|zn 2<|zs 4<|zs 5<|zs 21<|zn 14 []))<|
 .seq (zq (zi (.cs .v (.n 0)) []) (zn 1<|zs 1<|zn 2<|zs 4<|zs 5<|zn 4<|zs 21<|zn 10 [])<|
 .block 6<|.loop<|.seq (zq (zp 2<|zi (.ln (.e 4) [])<|zi (.bi .lss (.e 10) (.e 21)) []) (zn 1<|zs 1<|zn 2<|zs 4<|zs 5<|zn 4<|zs 10<|zn 8<|zs 22<|zn 1 [])<|
 .cond 19 .skip (.exit 6))<|
 .seq (.block 7<|zq (zp 2<|zi (.ix (.e 4) [] (.e 10))<|zp 2<|zi (.ca 149 [.e 21,.e 1] 1) []) (zn 1<|zs 1<|zn 2<|zs 4<|zs 5<|zn 4<|zs 10<|zn 9<|zs 22 [])<|
 .cond 20 (zq (zp 2<|zi (.ix (.e 5) [] (.e 10))<|zp 2<|zi (.cs .v (.b true)) []) (zn 2<|zs 21<|zs 22<|zn 17 [])<|
 .ret) .skip)<|
 .reg (zp 1<|zi (.bi .add (.e 10) (.c (.n 1)))<|zp 1 []) (zn 1<|zs 1<|zn 2<|zs 4<|zs 5<|zn 4<|zs 21<|zn 10 []))<|
 zq (zi (.cs .v (.n 0))<|zi (.cs .v (.b true)) []) (zn 2<|zs 21<|zs 22<|zn 17 [])<|
 .ret⟩
def ir_spec_NoncrossingClosure:IF:=⟨[],1,20,[1,2],zq (zi (.cs (.o .v) (.l []))<|zi (.cs .v (.b false)) []) (zs 0<|zn 19 [])<|
 .seq (zq (zp 1<|zi (.ca 324 [.e 0] 1)<|zi (.un .not (.e 20)) []) (zs 0<|zn 10<|zs 21<|zn 8 [])<|
 .cond 11 (zq (zi (.li (.o .v) [])<|zp 1<|zi (.cs .v (.b false)) []) (zn 1<|zs 20<|zs 21<|zn 17 [])<|
 .ret) .skip)<|
 zq (zi (.li (.o .v) [])<|zp 1<|zi (.ap true (.e 20) (.e 0))<|zp 1 []) (zs 0<|zn 2<|zs 21<|zn 16 [])<|
 .seq (zq (zi (.cs .v (.n 0)) []) (zs 0<|zn 2<|zs 3<|zs 20<|zn 15 [])<|
 .block 0<|.loop<|.seq (zq (zp 2<|zi (.ln (.e 0) [])<|zi (.bi .leq (.e 4) (.e 20)) []) (zs 0<|zn 2<|zs 3<|zs 4<|zn 7<|zs 21<|zn 7 [])<|
 .cond 12 .skip (.exit 0))<|
 .seq (.block 1<|zq (zi (.cs .v (.n 0)) []) (zs 0<|zn 2<|zs 3<|zs 4<|zs 20<|zn 14 [])<|
 .block 2<|.loop<|.seq (zq (zp 2<|zi (.ln (.e 3) [])<|zi (.bi .lss (.e 5) (.e 20)) []) (zs 0<|zn 2<|zs 3<|zs 4<|zs 5<|zn 7<|zs 21<|zn 6 [])<|
 .cond 13 .skip (.exit 2))<|
 .seq (.block 3<|zq (zp 1<|zi (.bi .add (.e 5) (.c (.n 1)))<|zp 1 []) (zs 0<|zn 2<|zs 3<|zs 4<|zs 5<|zs 20<|zn 13 [])<|
 .block 4<|.loop<|.seq (zq (zp 2<|zi (.ln (.e 3) [])<|zi (.bi .lss (.e 6) (.e 20)) []) (zs 0<|zn 2<|zs 3<|zs 4<|zs 5<|zs 6<|zn 7<|zs 21<|zn 5 [])<|
 .cond 14 .skip (.exit 4))<|
 .seq (.block 5<|zq (zp 1<|zi (.bi .add (.e 6) (.c (.n 1)))<|zp 1 []) (zs 0<|zn 2<|zs 3<|zs 4<|zs 5<|zs 6<|zs 20<|zn 12 [])<|
 .block 6<|.loop<|.seq (zq (zp 2<|zi (.ln (.e 3) [])<|zi (.bi .lss (.e 7) (.e 20)) []) (zs 0<|zn 2<|zs 3<|zs 4<|zs 5<|zs 6<|zs 7<|zn 7<|zs 21<|zn 4 [])<|
 .cond 15 .skip (.exit 6))<|
 .seq (.block 7<|zq (zp 1<|zi (.bi .add (.e 7) (.c (.n 1)))<|zp 1 []) (zs 0<|zn 2<|zs 3<|zs 4<|zs 5<|zs 6<|zs 7<|zs 20<|zn 11 [])<|
 .block 8<|.loop<|.seq (zq (zp 2<|zi (.ln (.e 3) [])<|zi (.bi .lss (.e 8) (.e 20)) []) (zs 0<|zn 2<|zs 3<|zs 4<|zs 5<|zs 6<|zs 7<|zs 8<|zn 7<|zs 21<|zn 3 [])<|
 .cond 16 .skip (.exit 8))<|
 .seq (.block 9<|zq (zp 2<|zi (.ix (.e 3) [] (.e 5))<|zp 3<|zi (.ix (.e 3) [] (.e 7))<|zp 1<|zi (.bi .eql (.e 20) (.e 21))<|zp 1<|zg [(22,true)] .nop<|zg [(22,true)] (.cy (.e 6))<|zg [(22,true)] (.ix (.e 3) [] (.e 23))<|zg [(22,true)] .nop<|zg [(22,true)] .nop<|zg [(22,true)] (.cy (.e 8))<|zg [(22,true)] (.ix (.e 3) [] (.e 25))<|zg [(22,true)] .nop<|zg [(22,true)] (.bi .eql (.e 24) (.e 26))<|zi (.pk (.e 22) (.e 27) (.c (.b false)))<|zp 1<|zg [(28,true)] .nop<|zg [(28,true)] (.cy (.e 5))<|zg [(28,true)] (.ix (.e 3) [] (.e 29))<|zg [(28,true)] .nop<|zg [(28,true)] .nop<|zg [(28,true)] (.cy (.e 6))<|zg [(28,true)] (.ix (.e 3) [] (.e 31))<|zg [(28,true)] .nop<|zg [(28,true)] (.bi .neq (.e 30) (.e 32))<|zi (.pk (.e 28) (.e 33) (.c (.b false))) []) (zs 0<|zn 2<|zs 3<|zs 4<|zs 5<|zs 6<|zs 7<|zs 8<|zn 8<|zs 34<|zn 2 [])<|
 .cond 17 (zq (zp 2<|zi (.ix (.e 3) [] (.e 6))<|zp 2 []) (zs 0<|zn 2<|zs 3<|zs 4<|zs 5<|zs 6<|zs 7<|zs 8<|zs 20<|zn 10 [])<|
 zq (zi (.cs .v (.n 0)) []) (zs 0<|zn 2<|zs 3<|zs 4<|zs 5<|zs 6<|zs 7<|zs 8<|zs 9<|zs 20<|zn 9 [])<|
 .block 10<|.loop<|.seq (zq (zp 2<|zi (.ln (.e 3) [])<|zi (.bi .lss (.e 10) (.e 20)) []) (zs 0<|zn 2<|zs 3<|zs 4<|zs 5<|zs 6<|zs 7<|zs 8<|zs 9<|zs 10<|zn 7<|zs 21<|zn 1 [])<|
 .cond 18 .skip (.exit 10))<|
 .seq (.block 11<|zq (zp 2<|zi (.ix (.e 3) [] (.e 10))<|zp 2<|zi (.bi .eql (.e 20) (.e 9)) []) (zs 0<|zn 2<|zs 3<|zs 4<|zs 5<|zs 6<|zs 7<|zs 8<|zs 9<|zs 10<|zn 8<|zs 21 [])<|
 .cond 19 (.reg (zp 4<|zi (.ix (.e 3) [] (.e 5))<|zp 1<|zi (.ix (.e 3) [] (.e 10))<|zi (.up 3 [.e 10] (.e 20)) []) (zs 0<|zn 2<|zs 22<|zs 4<|zs 5<|zs 6<|zs 7<|zs 8<|zs 9<|zs 10<|zn 9 [])) .skip)<|
 .reg (zp 1<|zi (.bi .add (.e 10) (.c (.n 1)))<|zp 1 []) (zs 0<|zn 2<|zs 3<|zs 4<|zs 5<|zs 6<|zs 7<|zs 8<|zs 9<|zs 20<|zn 9 [])) .skip)<|
 .reg (zp 1<|zi (.bi .add (.e 8) (.c (.n 1)))<|zp 1 []) (zs 0<|zn 2<|zs 3<|zs 4<|zs 5<|zs 6<|zs 7<|zs 20<|zn 11 []))<|
 .reg (zp 1<|zi (.bi .add (.e 7) (.c (.n 1)))<|zp 1 []) (zs 0<|zn 2<|zs 3<|zs 4<|zs 5<|zs 6<|zs 20<|zn 12 []))<|
 .reg (zp 1<|zi (.bi .add (.e 6) (.c (.n 1)))<|zp 1 []) (zs 0<|zn 2<|zs 3<|zs 4<|zs 5<|zs 20<|zn 13 []))<|
 .reg (zp 1<|zi (.bi .add (.e 5) (.c (.n 1)))<|zp 1 []) (zs 0<|zn 2<|zs 3<|zs 4<|zs 20<|zn 14 []))<|
 .reg (zp 1<|zi (.bi .add (.e 4) (.c (.n 1)))<|zp 1 []) (zs 0<|zn 2<|zs 3<|zs 20<|zn 15 []))<|
 zq (zp 1<|zi (.ca 323 [.e 3] 1)<|zp 1<|zi (.cs .v (.b true)) []) (zn 1<|zs 20<|zs 21<|zn 17 [])<|
 .ret⟩
def ir_spec_RankOfPartition:IF:=⟨[],1,3,[1],zq (zi (.cs .v (.n 0)) []) (zs 0<|zn 2 [])<|
 .seq (zq (zp 1<|zi (.ca 324 [.e 0] 1)<|zi (.un .not (.e 3)) []) (zs 0<|zn 1<|zs 4 [])<|
 .cond 2 (zq (zi (.cs .v (.n (-1))) []) (zn 1<|zs 3<|zn 1 [])<|
 .ret) .skip)<|
 zq (zp 1<|zi (.ln (.e 0) [])<|zp 1<|zi (.ca 302 [.e 0] 1)<|zi (.ln (.e 4) [])<|zi (.bi .sub (.e 3) (.e 5))<|zp 1 []) (zn 1<|zs 6<|zn 1 [])<|
 .ret⟩
def ir_spec_l19Between:IF:=⟨[],2,9,[2],zq (zi (.cs (.o .v) (.l [])) []) (zs 0<|zs 1<|zn 7 [])<|
 zq (zi (.li (.o .v) [])<|zp 1 []) (zs 0<|zs 1<|zn 1<|zs 9<|zn 5 [])<|
 zq (zp 1<|zi (.ln (.e 0) [])<|zi (.ca 234 [.e 9] 1)<|zp 1 []) (zs 0<|zs 1<|zn 1<|zs 3<|zs 10<|zn 4 [])<|
 .seq (zq (zi (.cs .v (.n 0)) []) (zs 0<|zs 1<|zn 1<|zs 3<|zs 4<|zs 9<|zn 3 [])<|
 .block 0<|.loop<|.seq (zq (zp 2<|zi (.ln (.e 4) [])<|zi (.bi .lss (.e 5) (.e 9)) []) (zs 0<|zs 1<|zn 1<|zs 3<|zs 4<|zs 5<|zn 1<|zs 10<|zn 1 [])<|
 .cond 7 .skip (.exit 0))<|
 .seq (.block 1<|zq (zp 2<|zi (.ix (.e 4) [] (.e 5))<|zp 1<|zi (.ca 301 [.e 9] 2)<|zp 5 []) (zs 0<|zs 1<|zn 1<|zs 3<|zs 4<|zs 5<|zs 10<|zn 2 [])<|
 zq (zp 2<|zi (.ca 453 [.e 0,.e 6] 1)<|zp 1<|zg [(9,true)] (.cy (.e 6))<|zg [(9,true)] .nop<|zg [(9,true)] (.ca 453 [.e 10,.e 1] 1)<|zi (.pk (.e 9) (.e 11) (.c (.b false))) []) (zs 0<|zs 1<|zn 1<|zs 3<|zs 4<|zs 5<|zs 6<|zn 1<|zs 12 [])<|
 .cond 8 (.reg (zp 2<|zi (.li (.o .v) [.e 6])<|zi (.ap false (.e 3) (.e 9))<|zp 1 []) (zs 0<|zs 1<|zn 1<|zs 10<|zs 4<|zs 5<|zn 3 [])) .skip)<|
 .reg (zp 1<|zi (.bi .add (.e 5) (.c (.n 1)))<|zp 1 []) (zs 0<|zs 1<|zn 1<|zs 3<|zs 4<|zs 9<|zn 3 []))<|
 zq (zp 2 []) (zn 2<|zs 3<|zn 6 [])<|
 .ret⟩
def ir_spec_l19Join:IF:=⟨[],2,13,[2],zq (zi (.cs (.o .v) (.l [])) []) (zs 0<|zs 1<|zn 11 [])<|
 zq (zi (.li (.o .v) [])<|zp 1<|zi (.ap true (.e 13) (.e 0))<|zp 1 []) (zn 1<|zs 1<|zn 1<|zs 14<|zn 9 [])<|
 .seq (zq (zi (.cs .v (.n 0)) []) (zn 1<|zs 1<|zn 1<|zs 3<|zs 13<|zn 8 [])<|
 .block 0<|.loop<|.seq (zq (zp 2<|zi (.ln (.e 1) [])<|zi (.bi .lss (.e 4) (.e 13)) []) (zn 1<|zs 1<|zn 1<|zs 3<|zs 4<|zn 3<|zs 14<|zn 4 [])<|
 .cond 8 .skip (.exit 0))<|
 .seq (.block 1<|zq (zi (.cs .v (.n 0)) []) (zn 1<|zs 1<|zn 1<|zs 3<|zs 4<|zs 13<|zn 7 [])<|
 .block 2<|.loop<|.seq (zq (zp 2<|zi (.bi .lss (.e 5) (.e 4)) []) (zn 1<|zs 1<|zn 1<|zs 3<|zs 4<|zs 5<|zn 3<|zs 13<|zn 3 [])<|
 .cond 9 .skip (.exit 2))<|
 .seq (.block 3<|zq (zp 2<|zi (.iy (.e 1) (.e 4))<|zp 3<|zi (.iy (.e 1) (.e 5))<|zp 1<|zi (.bi .eql (.e 13) (.e 14))<|zp 1<|zg [(15,true)] .nop<|zg [(15,true)] (.cy (.e 4))<|zg [(15,true)] (.ix (.e 3) [] (.e 16))<|zg [(15,true)] .nop<|zg [(15,true)] .nop<|zg [(15,true)] (.cy (.e 5))<|zg [(15,true)] (.ix (.e 3) [] (.e 18))<|zg [(15,true)] .nop<|zg [(15,true)] (.bi .neq (.e 17) (.e 19))<|zi (.pk (.e 15) (.e 20) (.c (.b false))) []) (zn 1<|zs 1<|zn 1<|zs 3<|zs 4<|zs 5<|zn 4<|zs 21<|zn 2 [])<|
 .cond 10 (zq (zp 2<|zi (.ix (.e 3) [] (.e 4))<|zp 2 []) (zn 1<|zs 1<|zn 1<|zs 3<|zs 4<|zs 5<|zs 13<|zn 6 [])<|
 zq (zi (.cs .v (.n 0)) []) (zn 1<|zs 1<|zn 1<|zs 3<|zs 4<|zs 5<|zs 6<|zs 13<|zn 5 [])<|
 .block 4<|.loop<|.seq (zq (zp 2<|zi (.ln (.e 3) [])<|zi (.bi .lss (.e 7) (.e 13)) []) (zn 1<|zs 1<|zn 1<|zs 3<|zs 4<|zs 5<|zs 6<|zs 7<|zn 3<|zs 14<|zn 1 [])<|
 .cond 11 .skip (.exit 4))<|
 .seq (.block 5<|zq (zp 2<|zi (.ix (.e 3) [] (.e 7))<|zp 2<|zi (.bi .eql (.e 13) (.e 6)) []) (zn 1<|zs 1<|zn 1<|zs 3<|zs 4<|zs 5<|zs 6<|zs 7<|zn 4<|zs 14 [])<|
 .cond 12 (.reg (zp 4<|zi (.ix (.e 3) [] (.e 5))<|zp 1<|zi (.ix (.e 3) [] (.e 7))<|zi (.up 3 [.e 7] (.e 13)) []) (zn 1<|zs 1<|zn 1<|zs 15<|zs 4<|zs 5<|zs 6<|zs 7<|zn 5 [])) .skip)<|
 .reg (zp 1<|zi (.bi .add (.e 7) (.c (.n 1)))<|zp 1 []) (zn 1<|zs 1<|zn 1<|zs 3<|zs 4<|zs 5<|zs 6<|zs 13<|zn 5 [])) .skip)<|
 .reg (zp 1<|zi (.bi .add (.e 5) (.c (.n 1)))<|zp 1 []) (zn 1<|zs 1<|zn 1<|zs 3<|zs 4<|zs 13<|zn 7 []))<|
 .reg (zp 1<|zi (.bi .add (.e 4) (.c (.n 1)))<|zp 1 []) (zn 1<|zs 1<|zn 1<|zs 3<|zs 13<|zn 8 []))<|
 zq (zp 1<|zi (.ca 323 [.e 3] 1)<|zp 1 []) (zn 2<|zs 13<|zn 10 [])<|
 .ret⟩
def ir_spec_l19Two:IF:=⟨[],1,12,[1,2],zq (zi (.cs (.o .v) (.l []))<|zi (.cs (.o .v) (.l [])) []) (zs 0<|zn 11 [])<|
 zq (zp 1<|zi (.ca 288 [.e 0] 1)<|zp 1 []) (zn 3<|zs 12<|zn 8 [])<|
 zq (zp 1<|zi (.ca 289 [.e 3,.c (.n 6)] 2)<|zp 1 []) (zn 3<|zs 13<|zs 12<|zn 7 [])<|
 zq (zp 2<|zi (.ca 306 [.e 3,.e 4] 2)<|zi (.ca 301 [.e 12] 2)<|zp 5 []) (zn 3<|zs 13<|zs 4<|zs 14<|zn 6 [])<|
 .seq (zq (zp 1<|zi (.ca 307 [.e 3,.c (.n 10)] 2) []) (zn 3<|zs 13<|zs 4<|zs 5<|zn 3<|zs 12<|zn 2 [])<|
 .cond 9 (zq (zp 2<|zi (.ca 472 [.e 3] 2)<|zp 2 []) (zn 1<|zs 5<|zs 12<|zn 9 [])<|
 .ret) .skip)<|
 zq (zp 2<|zi (.ca 306 [.e 3,.e 4] 2)<|zi (.ca 301 [.e 12] 2)<|zp 5 []) (zn 3<|zs 13<|zn 1<|zs 5<|zs 14<|zn 5 [])<|
 .seq (zq (zp 1<|zi (.ca 307 [.e 3,.c (.n 2)] 2) []) (zn 5<|zs 5<|zs 6<|zn 3<|zs 12<|zn 1 [])<|
 .cond 10 (zq (zp 2<|zi (.ca 440 [.e 5,.e 6] 2)<|zp 5 []) (zn 5<|zs 5<|zs 6<|zs 12<|zs 13<|zn 3 [])<|
 zq (zp 1 []) (zn 5<|zs 5<|zs 6<|zs 7<|zn 3<|zs 8 [])<|
 .cond 11 (zq (zp 4 []) (zn 1<|zs 5<|zs 7<|zn 9 [])<|
 .ret) .skip) .skip)<|
 zq (zp 4 []) (zn 1<|zs 5<|zs 6<|zn 9 [])<|
 .ret⟩
end Go.Cat
namespace Go.Cat
end Go.Cat
namespace Go.Cat
end Go.Cat
namespace Go.Cat
end Go.Cat
namespace Go.Cat
end Go.Cat
namespace Go.Cat
end Go.Cat
namespace Go.Cat
end Go.Cat
namespace Go.Cat
end Go.Cat
namespace Go.Cat
end Go.Cat
namespace Go.Cat
end Go.Cat
namespace Go.Cat
end Go.Cat
namespace Go.Cat
end Go.Cat
namespace Go.Cat
end Go.Cat
namespace Go.Cat
end Go.Cat
namespace Go.Cat
end Go.Cat
namespace Go.Cat
end Go.Cat
namespace Go.Cat
end Go.Cat
namespace Go.Cat
end Go.Cat
namespace Go.Cat
end Go.Cat
namespace Go.Cat
end Go.Cat
namespace Go.Cat
end Go.Cat
namespace Go.Cat
end Go.Cat
namespace Go.Cat
end Go.Cat
namespace Go.Cat
end Go.Cat
namespace Go.Cat
end Go.Cat
namespace Go.Cat
end Go.Cat
namespace Go.Cat
end Go.Cat
namespace Go.Cat
end Go.Cat
namespace Go.Cat
end Go.Cat
namespace Go.Cat
end Go.Cat
namespace Go.Cat
end Go.Cat
namespace Go.Cat
end Go.Cat
namespace Go.Cat
end Go.Cat
namespace Go.Cat
end Go.Cat
namespace Go.Cat
end Go.Cat
namespace Go.Cat
end Go.Cat
