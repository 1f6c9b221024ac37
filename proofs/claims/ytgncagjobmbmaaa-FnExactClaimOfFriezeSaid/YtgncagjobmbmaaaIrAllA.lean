/-
 Texts of the little language.
-/
import Derived.Test.YtgncagjobmbmaaaCatThree
set_option linter.unusedSimpArgs false
set_option linter.unusedVariables false
namespace Go.Cat
def zn:Nat→List (Option Nat)→List (Option Nat)
 | 0,l=>l
 | k+1,l=>none::zn k l
def zs (n:Nat) (l:List (Option Nat)):List (Option Nat):=some n::l
def zq (a:List It) (b:List (Option Nat)) (s:S):S:=.seq (.reg a b) s
def zi (p:Pr) (l:List It):List It:=⟨[],[],p⟩::l
def zg (g:List (Nat×Bool)) (p:Pr) (l:List It):List It:=⟨[],g,p⟩::l
def zp:Nat→List It→List It
 | 0,l=>l
 | k+1,l=>⟨[],[],.nop⟩::zp k l
def ir_impl_within:IF:=⟨[],3,4,[3],zq (zi (.cs .v (.b false)) []) (zs 0<|zs 1<|zs 2<|zn 1 [])<|
 zq (zp 2<|zi (.bi .geq (.e 0) (.e 1))<|zp 1<|zg [(4,true)] (.cy (.e 0))<|zg [(4,true)] (.cy (.e 2))<|zg [(4,true)] (.bi .leq (.e 5) (.e 6))<|zi (.pk (.e 4) (.e 7) (.c (.b false)))<|zp 1 []) (zn 3<|zs 8 [])<|
 .ret⟩
end Go.Cat
namespace Go.Cat
def ir_spec_l1In:IF:=⟨[],3,4,[3],zq (zi (.cs .v (.b false)) []) (zs 0<|zs 1<|zs 2<|zn 1 [])<|
 zq (zp 2<|zi (.bi .geq (.e 0) (.e 1))<|zp 1<|zg [(4,true)] (.cy (.e 0))<|zg [(4,true)] (.cy (.e 2))<|zg [(4,true)] (.bi .leq (.e 5) (.e 6))<|zi (.pk (.e 4) (.e 7) (.c (.b false)))<|zp 1 []) (zn 3<|zs 8 [])<|
 .ret⟩
end Go.Cat
namespace Go.Cat
def ir_impl_copyInts:IF:=⟨[],1,2,[1],zq (zi (.cs (.o .v) (.l [])) []) (zs 0<|zn 1 [])<|
 zq (zi (.li (.o .v) [])<|zp 1<|zi (.ap true (.e 2) (.e 0))<|zp 1 []) (zn 1<|zs 3 [])<|
 .ret⟩
def ir_impl_equalInts:IF:=⟨[],2,9,[2],zq (zi (.cs .v (.b false)) []) (zs 0<|zs 1<|zn 7 [])<|
 .seq (zq (zp 1<|zi (.ln (.e 0) [])<|zp 1<|zi (.ln (.e 1) [])<|zi (.bi .neq (.e 9) (.e 10)) []) (zs 0<|zs 1<|zn 2<|zs 11<|zn 4 [])<|
 .cond 4 (zq (zi (.cs .v (.b false)) []) (zn 2<|zs 9<|zn 6 [])<|
 .ret) .skip)<|
 .seq (zq (zp 1<|zi (.ln (.e 0) [])<|zi (.cs .v (.n 0)) []) (zs 0<|zs 1<|zn 3<|zs 9<|zs 10<|zn 2 [])<|
 .block 0<|.loop<|zq (zi (.bi .lss (.e 6) (.e 5)) []) (zs 0<|zs 1<|zn 3<|zs 5<|zs 6<|zs 9<|zn 1 [])<|
 .seq (.cond 7 .skip (.exit 0))<|
 .seq (.block 1<|zq (zp 2 []) (zs 0<|zs 1<|zn 1<|zs 6<|zn 1<|zs 5<|zs 6<|zn 2 [])<|
 zq (zp 2<|zi (.iy (.e 0) (.e 3))<|zp 3<|zi (.iy (.e 1) (.e 3))<|zp 1<|zi (.bi .neq (.e 9) (.e 10)) []) (zs 0<|zs 1<|zn 3<|zs 5<|zs 6<|zn 1<|zs 11 [])<|
 .cond 8 (zq (zi (.cs .v (.b false)) []) (zn 2<|zs 9<|zn 6 [])<|
 .ret) .skip)<|
 .reg (zi (.bi .add (.e 6) (.c (.n 1)))<|zp 1 []) (zs 0<|zs 1<|zn 3<|zs 5<|zs 9<|zn 2 []))<|
 zq (zi (.cs .v (.b true)) []) (zn 2<|zs 9<|zn 6 [])<|
 .ret⟩
end Go.Cat
namespace Go.Cat
end Go.Cat
namespace Go.Cat
end Go.Cat
namespace Go.Cat
end Go.Cat
namespace Go.Cat
end Go.Cat
namespace Go.Cat
end Go.Cat
namespace Go.Cat
def ir_cmp_Compare_int_:IF:=⟨[],2,10,[2],zq (zi (.cs .v (.n 0)) []) (zs 0<|zs 1<|zn 8 [])<|
 zq (zp 1<|zi (.ca 211 [.e 0] 1)<|zp 1 []) (zs 0<|zs 1<|zn 1<|zs 10<|zn 6 [])<|
 zq (zp 1<|zi (.ca 211 [.e 1] 1)<|zp 1 []) (zs 0<|zs 1<|zn 1<|zs 3<|zs 10<|zn 5 [])<|
 .seq (zq (zp 1 []) (zs 0<|zs 1<|zn 2<|zs 4<|zs 3<|zn 4 [])<|
 .cond 5 (.seq (zq (zp 1 []) (zn 6<|zs 4<|zn 3 [])<|
 .cond 6 (zq (zi (.cs .v (.n 0)) []) (zn 2<|zs 10<|zn 7 [])<|
 .ret) .skip)<|
 zq (zi (.cs .v (.n (-1))) []) (zn 2<|zs 10<|zn 7 [])<|
 .ret) .skip)<|
 .seq (zq (zp 1 []) (zs 0<|zs 1<|zn 5<|zs 4<|zn 2 [])<|
 .cond 7 (zq (zi (.cs .v (.n 1)) []) (zn 2<|zs 10<|zn 7 [])<|
 .ret) .skip)<|
 .seq (zq (zp 2<|zi (.bi .lss (.e 0) (.e 1)) []) (zs 0<|zs 1<|zn 6<|zs 10<|zn 1 [])<|
 .cond 8 (zq (zi (.cs .v (.n (-1))) []) (zn 2<|zs 10<|zn 7 [])<|
 .ret) .skip)<|
 .seq (zq (zp 2<|zi (.bi .gtr (.e 0) (.e 1)) []) (zn 9<|zs 10 [])<|
 .cond 9 (zq (zi (.cs .v (.n 1)) []) (zn 2<|zs 10<|zn 7 [])<|
 .ret) .skip)<|
 zq (zi (.cs .v (.n 0)) []) (zn 2<|zs 10<|zn 7 [])<|
 .ret⟩
def ir_cmp_isNaN_int_:IF:=⟨[],1,2,[1],zq (zi (.cs .v (.b false)) []) (zs 0<|zn 1 [])<|
 zq (zp 2<|zi (.bi .neq (.e 0) (.e 0))<|zp 1 []) (zn 1<|zs 2 [])<|
 .ret⟩
def ir_math_bits_Len:IF:=⟨[],1,2,[1],zq (zi (.cs .v (.n 0)) []) (zs 0<|zn 1 [])<|
 .seq .skip<|
 zq (zp 1<|zi (.ca 391 [.e 0] 1)<|zp 1 []) (zn 1<|zs 2 [])<|
 .ret⟩
def ir_math_bits_Len32:IF:=⟨[],1,4,[1],zq (zi (.cs .v (.n 0)) []) (zs 0<|zs 4<|zn 2 [])<|
 .seq (zq (zp 1<|zi (.bi .geq (.e 0) (.c (.i .u32 65536))) []) (zs 0<|zs 1<|zs 4<|zn 1 [])<|
 .cond 2 (zq (zp 1<|zi (.bi .shr (.e 0) (.c (.i .u64 16)))<|zp 1 []) (zs 4<|zn 3 [])<|
 .reg (zi (.cs .v (.n 16)) []) (zs 0<|zs 4<|zn 2 [])) .skip)<|
 .seq (zq (zp 1<|zi (.bi .geq (.e 0) (.c (.i .u32 256))) []) (zs 0<|zs 1<|zn 1<|zs 4 [])<|
 .cond 3 (zq (zp 1<|zi (.bi .shr (.e 0) (.c (.i .u64 8)))<|zp 1 []) (zs 4<|zs 1<|zn 2 [])<|
 .reg (zp 1<|zi (.bi .add (.e 1) (.c (.n 8)))<|zp 1 []) (zs 0<|zs 4<|zn 2 [])) .skip)<|
 zq (zp 2<|zi (.cv .u8 (.e 0))<|zi (.sx (.c (.s [0,1,2,2,3,3,3,3,4,4,4,4,4,4,4,4,5,5,5,5,5,5,5,5,5,5,5,5,5,5,5,5,6,6,6,6,6,6,6,6,6,6,6,6,6,6,6,6,6,6,6,6,6,6,6,6,6,6,6,6,6,6,6,6,7,7,7,7,7,7,7,7,7,7,7,7,7,7,7,7,7,7,7,7,7,7,7,7,7,7,7,7,7,7,7,7,7,7,7,7,7,7,7,7,7,7,7,7,7,7,7,7,7,7,7,7,7,7,7,7,7,7,7,7,7,7,7,7,8,8,8,8,8,8,8,8,8,8,8,8,8,8,8,8,8,8,8,8,8,8,8,8,8,8,8,8,8,8,8,8,8,8,8,8,8,8,8,8,8,8,8,8,8,8,8,8,8,8,8,8,8,8,8,8,8,8,8,8,8,8,8,8,8,8,8,8,8,8,8,8,8,8,8,8,8,8,8,8,8,8,8,8,8,8,8,8,8,8,8,8,8,8,8,8,8,8,8,8,8,8,8,8,8,8,8,8,8,8,8,8,8,8,8,8,8,8,8,8,8,8,8,8,8,8,8,8])) (.e 4))<|zi (.cv .i64 (.e 5))<|zi (.bi .add (.e 1) (.e 6))<|zp 1 []) (zn 1<|zs 7<|zn 2 [])<|
 .ret⟩
def ir_math_bits_Len64:IF:=⟨[],1,5,[1],zq (zi (.cs .v (.n 0)) []) (zs 0<|zs 5<|zn 3 [])<|
 .seq (zq (zp 1<|zi (.bi .geq (.e 0) (.c (.i .u64 4294967296))) []) (zs 0<|zs 1<|zs 5<|zn 2 [])<|
 .cond 2 (zq (zp 1<|zi (.bi .shr (.e 0) (.c (.i .u64 32)))<|zp 1 []) (zs 5<|zn 4 [])<|
 .reg (zi (.cs .v (.n 32)) []) (zs 0<|zs 5<|zn 3 [])) .skip)<|
 .seq (zq (zp 1<|zi (.bi .geq (.e 0) (.c (.i .u64 65536))) []) (zs 0<|zs 1<|zn 1<|zs 5<|zn 1 [])<|
 .cond 3 (zq (zp 1<|zi (.bi .shr (.e 0) (.c (.i .u64 16)))<|zp 1 []) (zs 5<|zs 1<|zn 3 [])<|
 .reg (zp 1<|zi (.bi .add (.e 1) (.c (.n 16)))<|zp 1 []) (zs 0<|zs 5<|zn 3 [])) .skip)<|
 .seq (zq (zp 1<|zi (.bi .geq (.e 0) (.c (.i .u64 256))) []) (zs 0<|zs 1<|zn 2<|zs 5 [])<|
 .cond 4 (zq (zp 1<|zi (.bi .shr (.e 0) (.c (.i .u64 8)))<|zp 1 []) (zs 5<|zs 1<|zn 3 [])<|
 .reg (zp 1<|zi (.bi .add (.e 1) (.c (.n 8)))<|zp 1 []) (zs 0<|zs 5<|zn 3 [])) .skip)<|
 zq (zp 2<|zi (.cv .u8 (.e 0))<|zi (.sx (.c (.s [0,1,2,2,3,3,3,3,4,4,4,4,4,4,4,4,5,5,5,5,5,5,5,5,5,5,5,5,5,5,5,5,6,6,6,6,6,6,6,6,6,6,6,6,6,6,6,6,6,6,6,6,6,6,6,6,6,6,6,6,6,6,6,6,7,7,7,7,7,7,7,7,7,7,7,7,7,7,7,7,7,7,7,7,7,7,7,7,7,7,7,7,7,7,7,7,7,7,7,7,7,7,7,7,7,7,7,7,7,7,7,7,7,7,7,7,7,7,7,7,7,7,7,7,7,7,7,7,8,8,8,8,8,8,8,8,8,8,8,8,8,8,8,8,8,8,8,8,8,8,8,8,8,8,8,8,8,8,8,8,8,8,8,8,8,8,8,8,8,8,8,8,8,8,8,8,8,8,8,8,8,8,8,8,8,8,8,8,8,8,8,8,8,8,8,8,8,8,8,8,8,8,8,8,8,8,8,8,8,8,8,8,8,8,8,8,8,8,8,8,8,8,8,8,8,8,8,8,8,8,8,8,8,8,8,8,8,8,8,8,8,8,8,8,8,8,8,8,8,8,8,8,8,8,8,8])) (.e 5))<|zi (.cv .i64 (.e 6))<|zi (.bi .add (.e 1) (.e 7))<|zp 1 []) (zn 1<|zs 8<|zn 3 [])<|
 .ret⟩
def ir_slices_Compare___int_int_:IF:=⟨[],2,14,[2],zq (zi (.cs .v (.n 0)) []) (zs 0<|zs 1<|zn 12 [])<|
 .seq (zq (zp 1<|zi (.ln (.e 0) [])<|zi (.cs .v (.n 0)) []) (zs 0<|zs 1<|zn 5<|zs 0<|zs 14<|zs 15<|zn 4 [])<|
 .block 0<|.loop<|zq (zi (.bi .lss (.e 9) (.e 8)) []) (zs 0<|zs 1<|zn 5<|zs 7<|zs 8<|zs 9<|zs 14<|zn 3 [])<|
 .seq (.cond 10 .skip (.exit 0))<|
 .seq (.block 1<|zq (zp 1<|zi (.iy (.e 7) (.e 9))<|zp 3 []) (zs 0<|zs 1<|zn 1<|zs 9<|zs 14<|zn 2<|zs 7<|zs 8<|zs 9<|zn 4 [])<|
 .seq (zq (zp 2<|zi (.ln (.e 1) [])<|zi (.bi .geq (.e 3) (.e 14)) []) (zs 0<|zs 1<|zn 1<|zs 3<|zs 4<|zn 2<|zs 7<|zs 8<|zs 9<|zn 1<|zs 15<|zn 2 [])<|
 .cond 11 (zq (zi (.cs .v (.n 1)) []) (zn 2<|zs 14<|zn 11 [])<|
 .ret) .skip)<|
 zq (zp 2<|zi (.iy (.e 1) (.e 3))<|zp 2 []) (zs 0<|zs 1<|zn 2<|zs 4<|zs 14<|zn 1<|zs 7<|zs 8<|zs 9<|zn 4 [])<|
 zq (zp 2<|zi (.ca 377 [.e 4,.e 5] 1)<|zp 1 []) (zs 0<|zs 1<|zn 4<|zs 14<|zs 7<|zs 8<|zs 9<|zn 4 [])<|
 zq (zp 1<|zi (.bi .neq (.e 6) (.c (.n 0))) []) (zs 0<|zs 1<|zn 4<|zs 6<|zs 7<|zs 8<|zs 9<|zn 2<|zs 14<|zn 1 [])<|
 .cond 12 (zq (zp 2 []) (zn 2<|zs 6<|zn 11 [])<|
 .ret) .skip)<|
 .reg (zi (.bi .add (.e 9) (.c (.n 1)))<|zp 1 []) (zs 0<|zs 1<|zn 5<|zs 7<|zs 8<|zs 14<|zn 4 []))<|
 .seq (zq (zp 1<|zi (.ln (.e 0) [])<|zp 1<|zi (.ln (.e 1) [])<|zi (.bi .lss (.e 14) (.e 15)) []) (zn 13<|zs 16 [])<|
 .cond 13 (zq (zi (.cs .v (.n (-1))) []) (zn 2<|zs 14<|zn 11 [])<|
 .ret) .skip)<|
 zq (zi (.cs .v (.n 0)) []) (zn 2<|zs 14<|zn 11 [])<|
 .ret⟩
def ir_slices_Index___int_int_:IF:=⟨[],2,8,[2],zq (zi (.cs .v (.n 0)) []) (zs 0<|zs 1<|zn 6 [])<|
 .seq (zq (zp 1<|zi (.ln (.e 0) [])<|zi (.cs .v (.n 0)) []) (zs 0<|zs 1<|zn 2<|zs 8<|zs 9<|zn 2 [])<|
 .block 0<|.loop<|zq (zi (.bi .lss (.e 5) (.e 4)) []) (zs 0<|zs 1<|zn 2<|zs 4<|zs 5<|zs 8<|zn 1 [])<|
 .seq (.cond 6 .skip (.exit 0))<|
 .seq (.block 1<|zq (zp 2 []) (zs 0<|zs 1<|zn 1<|zs 5<|zs 4<|zs 5<|zn 2 [])<|
 zq (zp 3<|zi (.iy (.e 0) (.e 3))<|zp 1<|zi (.bi .eql (.e 1) (.e 8)) []) (zs 0<|zs 1<|zn 1<|zs 3<|zs 4<|zs 5<|zn 1<|zs 9 [])<|
 .cond 7 (zq (zp 2 []) (zn 2<|zs 3<|zn 5 [])<|
 .ret) .skip)<|
 .reg (zi (.bi .add (.e 5) (.c (.n 1)))<|zp 1 []) (zs 0<|zs 1<|zn 2<|zs 4<|zs 8<|zn 2 []))<|
 zq (zi (.cs .v (.n (-1))) []) (zn 2<|zs 8<|zn 5 [])<|
 .ret⟩
def ir_slices_heapSortCmpFunc___int_:IF:=⟨[],4,11,[0],zq (zp 2 []) (zs 0<|zs 1<|zs 2<|zs 3<|zs 1<|zn 6 [])<|
 zq (zi (.cs .v (.n 0)) []) (zs 0<|zs 1<|zs 2<|zs 3<|zs 4<|zs 11<|zn 5 [])<|
 zq (zp 2<|zi (.bi .sub (.e 2) (.e 1))<|zp 1 []) (zs 0<|zn 2<|zs 3<|zs 4<|zs 5<|zs 11<|zn 4 [])<|
 .seq (zq (zp 1<|zi (.bi .sub (.e 6) (.c (.n 1)))<|zi (.bi .quo (.e 11) (.c (.n 2)))<|zp 1 []) (zs 0<|zn 2<|zs 3<|zs 4<|zs 5<|zs 6<|zs 12<|zn 3 [])<|
 .block 0<|.loop<|.seq (zq (zp 1<|zi (.bi .geq (.e 7) (.c (.n 0))) []) (zs 0<|zn 2<|zs 3<|zs 4<|zs 5<|zs 6<|zs 7<|zn 1<|zs 11<|zn 1 [])<|
 .cond 9 .skip (.exit 0))<|
 .seq (.block 1<|.reg (zp 5<|zi (.ca 392 [.e 0,.e 7,.e 6,.e 4,.e 3] 1) []) (zs 11<|zn 2<|zs 3<|zs 4<|zs 5<|zs 6<|zs 7<|zn 3 []))<|
 .reg (zp 1<|zi (.bi .sub (.e 7) (.c (.n 1)))<|zp 1 []) (zs 0<|zn 2<|zs 3<|zs 4<|zs 5<|zs 6<|zs 11<|zn 3 []))<|
 zq (zp 1<|zi (.bi .sub (.e 6) (.c (.n 1)))<|zp 1 []) (zs 0<|zn 2<|zs 3<|zs 4<|zs 5<|zn 2<|zs 11<|zn 2 [])<|
 .block 2<|.loop<|.seq (zq (zp 1<|zi (.bi .geq (.e 8) (.c (.n 0))) []) (zs 0<|zn 2<|zs 3<|zs 4<|zs 5<|zn 2<|zs 8<|zn 1<|zs 11 [])<|
 .cond 10 .skip (.exit 2))<|
 .seq (.block 3<|zq (zp 5<|zi (.bi .add (.e 4) (.e 8))<|zp 3<|zi (.bi .add (.e 4) (.e 8))<|zi (.ix (.e 0) [] (.e 12))<|zp 3<|zi (.ix (.e 0) [] (.e 4))<|zp 1<|zi (.ix (.e 0) [] (.e 4))<|zi (.up 0 [.e 4] (.e 13))<|zi (.ix (.e 16) [] (.e 11))<|zi (.up 16 [.e 11] (.e 14)) []) (zs 18<|zn 2<|zs 3<|zs 4<|zs 5<|zn 2<|zs 8<|zn 2 [])<|
 .reg (zp 5<|zi (.ca 392 [.e 0,.e 5,.e 8,.e 4,.e 3] 1) []) (zs 11<|zn 2<|zs 3<|zs 4<|zs 5<|zn 2<|zs 8<|zn 2 []))<|
 .reg (zp 1<|zi (.bi .sub (.e 8) (.c (.n 1)))<|zp 1 []) (zs 0<|zn 2<|zs 3<|zs 4<|zs 5<|zn 2<|zs 11<|zn 2 [])⟩
def ir_slices_insertionSortCmpFunc___int_:IF:=⟨[],4,8,[0],zq (zp 1<|zi (.bi .add (.e 1) (.c (.n 1)))<|zp 1 []) (zs 0<|zs 1<|zs 2<|zs 3<|zs 8<|zn 3 [])<|
 .block 0<|.loop<|.seq (zq (zp 2<|zi (.bi .lss (.e 4) (.e 2)) []) (zs 0<|zs 1<|zs 2<|zs 3<|zs 4<|zn 1<|zs 8<|zn 1 [])<|
 .cond 6 .skip (.exit 0))<|
 .seq (.block 1<|zq (zp 2 []) (zs 0<|zs 1<|zs 2<|zs 3<|zs 4<|zs 4<|zn 2 [])<|
 .block 2<|.loop<|.seq (zq (zp 2<|zi (.bi .gtr (.e 5) (.e 1))<|zp 1<|zg [(8,true)] (.cy (.e 3))<|zg [(8,true)] .nop<|zg [(8,true)] (.cy (.e 5))<|zg [(8,true)] (.ix (.e 0) [] (.e 10))<|zg [(8,true)] .nop<|zg [(8,true)] .nop<|zg [(8,true)] (.cy (.e 5))<|zg [(8,true)] (.bi .sub (.e 12) (.c (.n 1)))<|zg [(8,true)] (.ix (.e 0) [] (.e 13))<|zg [(8,true)] .nop<|zg [(8,true)] (.cd (.e 9) 364 [.e 11,.e 14] 1)<|zg [(8,true)] (.bi .lss (.e 15) (.c (.n 0)))<|zi (.pk (.e 8) (.e 16) (.c (.b false))) []) (zs 0<|zs 1<|zs 2<|zs 3<|zs 4<|zs 5<|zn 1<|zs 17 [])<|
 .cond 7 .skip (.exit 2))<|
 .seq (.block 3<|.reg (zp 4<|zi (.bi .sub (.e 5) (.c (.n 1)))<|zp 2<|zi (.bi .sub (.e 5) (.c (.n 1)))<|zi (.ix (.e 0) [] (.e 9))<|zp 3<|zi (.ix (.e 0) [] (.e 5))<|zp 1<|zi (.ix (.e 0) [] (.e 5))<|zi (.up 0 [.e 5] (.e 10))<|zi (.ix (.e 13) [] (.e 8))<|zi (.up 13 [.e 8] (.e 11)) []) (zs 15<|zs 1<|zs 2<|zs 3<|zs 4<|zs 5<|zn 2 []))<|
 .reg (zp 1<|zi (.bi .sub (.e 5) (.c (.n 1)))<|zp 1 []) (zs 0<|zs 1<|zs 2<|zs 3<|zs 4<|zs 8<|zn 2 []))<|
 .reg (zp 1<|zi (.bi .add (.e 4) (.c (.n 1)))<|zp 1 []) (zs 0<|zs 1<|zs 2<|zs 3<|zs 8<|zn 3 [])⟩
def ir_slices_partialInsertionSortCmpFunc___int_:IF:=⟨[],4,19,[4,0],zq (zi (.cs .v (.b false)) []) (zs 0<|zs 1<|zs 2<|zs 3<|zn 15 [])<|
 zq (zp 1<|zi (.bi .add (.e 1) (.c (.n 1)))<|zp 1 []) (zs 0<|zs 1<|zs 2<|zs 3<|zn 1<|zs 19<|zn 13 [])<|
 .seq (zq (zi (.cs .v (.n 0)) []) (zs 0<|zs 1<|zs 2<|zs 3<|zn 1<|zs 5<|zs 19<|zn 12 [])<|
 .block 0<|.loop<|.seq (zq (zp 1<|zi (.bi .lss (.e 6) (.c (.n 5))) []) (zs 0<|zs 1<|zs 2<|zs 3<|zn 1<|zs 5<|zs 6<|zn 2<|zs 19<|zn 9 [])<|
 .cond 9 .skip (.exit 0))<|
 .seq (.block 1<|.seq (.block 2<|.loop<|.seq (zq (zp 2<|zi (.bi .lss (.e 5) (.e 2))<|zp 1<|zg [(19,true)] (.cy (.e 3))<|zg [(19,true)] .nop<|zg [(19,true)] (.cy (.e 5))<|zg [(19,true)] (.ix (.e 0) [] (.e 21))<|zg [(19,true)] .nop<|zg [(19,true)] .nop<|zg [(19,true)] (.cy (.e 5))<|zg [(19,true)] (.bi .sub (.e 23) (.c (.n 1)))<|zg [(19,true)] (.ix (.e 0) [] (.e 24))<|zg [(19,true)] .nop<|zg [(19,true)] (.cd (.e 20) 364 [.e 22,.e 25] 1)<|zg [(19,true)] (.bi .lss (.e 26) (.c (.n 0)))<|zg [(19,true)] (.un .not (.e 27))<|zi (.pk (.e 19) (.e 28) (.c (.b false))) []) (zs 0<|zs 1<|zs 2<|zs 3<|zn 1<|zs 5<|zs 6<|zn 3<|zs 29<|zn 8 [])<|
 .cond 10 .skip (.exit 2))<|
 .block 3<|.reg (zp 1<|zi (.bi .add (.e 5) (.c (.n 1)))<|zp 1 []) (zs 0<|zs 1<|zs 2<|zs 3<|zn 1<|zs 19<|zs 6<|zn 12 []))<|
 .seq (zq (zp 2<|zi (.bi .eql (.e 5) (.e 2)) []) (zs 0<|zs 1<|zs 2<|zs 3<|zn 1<|zs 5<|zs 6<|zn 4<|zs 19<|zn 7 [])<|
 .cond 11 (zq (zi (.cs .v (.b true)) []) (zs 0<|zn 3<|zs 19<|zn 14 [])<|
 .ret) .skip)<|
 .seq (zq (zp 2<|zi (.bi .sub (.e 2) (.e 1))<|zi (.bi .lss (.e 19) (.c (.n 50))) []) (zs 0<|zs 1<|zs 2<|zs 3<|zn 1<|zs 5<|zs 6<|zn 5<|zs 20<|zn 6 [])<|
 .cond 12 (zq (zi (.cs .v (.b false)) []) (zs 0<|zn 3<|zs 19<|zn 14 [])<|
 .ret) .skip)<|
 zq (zp 4<|zi (.bi .sub (.e 5) (.c (.n 1)))<|zp 2<|zi (.bi .sub (.e 5) (.c (.n 1)))<|zi (.ix (.e 0) [] (.e 20))<|zp 3<|zi (.ix (.e 0) [] (.e 5))<|zp 1<|zi (.ix (.e 0) [] (.e 5))<|zi (.up 0 [.e 5] (.e 21))<|zi (.ix (.e 24) [] (.e 19))<|zi (.up 24 [.e 19] (.e 22)) []) (zs 26<|zs 1<|zs 2<|zs 3<|zn 1<|zs 5<|zs 6<|zn 12 [])<|
 .seq (zq (zp 2<|zi (.bi .sub (.e 5) (.e 1))<|zi (.bi .geq (.e 19) (.c (.n 2))) []) (zs 0<|zs 1<|zs 2<|zs 3<|zn 1<|zs 5<|zs 6<|zn 6<|zs 20<|zn 5 [])<|
 .cond 13 (zq (zp 1<|zi (.bi .sub (.e 5) (.c (.n 1)))<|zp 1 []) (zs 0<|zs 1<|zs 2<|zs 3<|zn 1<|zs 5<|zs 6<|zs 19<|zn 11 [])<|
 .block 4<|.loop<|.seq (zq (zp 1<|zi (.bi .geq (.e 7) (.c (.n 1))) []) (zs 0<|zs 1<|zs 2<|zs 3<|zn 1<|zs 5<|zs 6<|zs 7<|zn 6<|zs 19<|zn 4 [])<|
 .cond 14 .skip (.exit 4))<|
 .seq (.block 5<|.seq (zq (zp 3<|zi (.ix (.e 0) [] (.e 7))<|zp 3<|zi (.bi .sub (.e 7) (.c (.n 1)))<|zi (.ix (.e 0) [] (.e 20))<|zp 1<|zi (.cd (.e 3) 364 [.e 19,.e 21] 1)<|zi (.bi .lss (.e 22) (.c (.n 0)))<|zi (.un .not (.e 23)) []) (zs 0<|zs 1<|zs 2<|zs 3<|zn 1<|zs 5<|zs 6<|zs 7<|zn 7<|zs 24<|zn 3 [])<|
 .cond 15 (.exit 4) .skip)<|
 .reg (zp 4<|zi (.bi .sub (.e 7) (.c (.n 1)))<|zp 2<|zi (.bi .sub (.e 7) (.c (.n 1)))<|zi (.ix (.e 0) [] (.e 20))<|zp 3<|zi (.ix (.e 0) [] (.e 7))<|zp 1<|zi (.ix (.e 0) [] (.e 7))<|zi (.up 0 [.e 7] (.e 21))<|zi (.ix (.e 24) [] (.e 19))<|zi (.up 24 [.e 19] (.e 22)) []) (zs 26<|zs 1<|zs 2<|zs 3<|zn 1<|zs 5<|zs 6<|zs 7<|zn 11 []))<|
 .reg (zp 1<|zi (.bi .sub (.e 7) (.c (.n 1)))<|zp 1 []) (zs 0<|zs 1<|zs 2<|zs 3<|zn 1<|zs 5<|zs 6<|zs 19<|zn 11 [])) .skip)<|
 zq (zp 2<|zi (.bi .sub (.e 2) (.e 5))<|zi (.bi .geq (.e 19) (.c (.n 2))) []) (zs 0<|zs 1<|zs 2<|zs 3<|zn 1<|zs 5<|zs 6<|zn 9<|zs 20<|zn 2 [])<|
 .cond 16 (zq (zp 1<|zi (.bi .add (.e 5) (.c (.n 1)))<|zp 1 []) (zs 0<|zs 1<|zs 2<|zs 3<|zn 1<|zs 5<|zs 6<|zn 1<|zs 19<|zn 10 [])<|
 .block 6<|.loop<|.seq (zq (zp 2<|zi (.bi .lss (.e 8) (.e 2)) []) (zs 0<|zs 1<|zs 2<|zs 3<|zn 1<|zs 5<|zs 6<|zn 1<|zs 8<|zn 8<|zs 19<|zn 1 [])<|
 .cond 17 .skip (.exit 6))<|
 .seq (.block 7<|.seq (zq (zp 3<|zi (.ix (.e 0) [] (.e 8))<|zp 3<|zi (.bi .sub (.e 8) (.c (.n 1)))<|zi (.ix (.e 0) [] (.e 20))<|zp 1<|zi (.cd (.e 3) 364 [.e 19,.e 21] 1)<|zi (.bi .lss (.e 22) (.c (.n 0)))<|zi (.un .not (.e 23)) []) (zs 0<|zs 1<|zs 2<|zs 3<|zn 1<|zs 5<|zs 6<|zn 1<|zs 8<|zn 9<|zs 24 [])<|
 .cond 18 (.exit 6) .skip)<|
 .reg (zp 4<|zi (.bi .sub (.e 8) (.c (.n 1)))<|zp 2<|zi (.bi .sub (.e 8) (.c (.n 1)))<|zi (.ix (.e 0) [] (.e 20))<|zp 3<|zi (.ix (.e 0) [] (.e 8))<|zp 1<|zi (.ix (.e 0) [] (.e 8))<|zi (.up 0 [.e 8] (.e 21))<|zi (.ix (.e 24) [] (.e 19))<|zi (.up 24 [.e 19] (.e 22)) []) (zs 26<|zs 1<|zs 2<|zs 3<|zn 1<|zs 5<|zs 6<|zn 1<|zs 8<|zn 10 []))<|
 .reg (zp 1<|zi (.bi .add (.e 8) (.c (.n 1)))<|zp 1 []) (zs 0<|zs 1<|zs 2<|zs 3<|zn 1<|zs 5<|zs 6<|zn 1<|zs 19<|zn 10 [])) .skip)<|
 .reg (zp 1<|zi (.bi .add (.e 6) (.c (.n 1)))<|zp 1 []) (zs 0<|zs 1<|zs 2<|zs 3<|zn 1<|zs 5<|zs 19<|zn 12 []))<|
 zq (zi (.cs .v (.b false)) []) (zs 0<|zn 3<|zs 19<|zn 14 [])<|
 .ret⟩
def ir_slices_partitionCmpFunc___int_:IF:=⟨[],5,15,[5,6,0],zq (zi (.cs .v (.n 0))<|zi (.cs .v (.b false)) []) (zs 0<|zs 1<|zs 2<|zs 3<|zs 4<|zn 10 [])<|
 zq (zp 6<|zi (.ix (.e 0) [] (.e 3))<|zp 3<|zi (.ix (.e 0) [] (.e 1))<|zp 1<|zi (.ix (.e 0) [] (.e 1))<|zi (.up 0 [.e 1] (.e 15))<|zi (.ix (.e 18) [] (.e 3))<|zi (.up 18 [.e 3] (.e 16)) []) (zs 20<|zs 1<|zs 2<|zn 1<|zs 4<|zn 10 [])<|
 zq (zp 1<|zi (.bi .add (.e 1) (.c (.n 1)))<|zp 1<|zi (.bi .sub (.e 2) (.c (.n 1)))<|zp 2 []) (zs 0<|zs 1<|zn 2<|zs 4<|zn 2<|zs 15<|zs 16<|zn 6 [])<|
 .seq (.block 0<|.loop<|.seq (zq (zp 2<|zi (.bi .leq (.e 7) (.e 8))<|zp 1<|zg [(15,true)] (.cy (.e 4))<|zg [(15,true)] .nop<|zg [(15,true)] (.cy (.e 7))<|zg [(15,true)] (.ix (.e 0) [] (.e 17))<|zg [(15,true)] .nop<|zg [(15,true)] .nop<|zg [(15,true)] (.cy (.e 1))<|zg [(15,true)] (.ix (.e 0) [] (.e 19))<|zg [(15,true)] .nop<|zg [(15,true)] (.cd (.e 16) 364 [.e 18,.e 20] 1)<|zg [(15,true)] (.bi .lss (.e 21) (.c (.n 0)))<|zi (.pk (.e 15) (.e 22) (.c (.b false))) []) (zs 0<|zs 1<|zn 2<|zs 4<|zn 2<|zs 7<|zs 8<|zs 23<|zn 5 [])<|
 .cond 9 .skip (.exit 0))<|
 .block 1<|.reg (zp 1<|zi (.bi .add (.e 7) (.c (.n 1)))<|zp 1 []) (zs 0<|zs 1<|zn 2<|zs 4<|zn 2<|zs 15<|zs 8<|zn 6 []))<|
 .seq (.block 2<|.loop<|.seq (zq (zp 2<|zi (.bi .leq (.e 7) (.e 8))<|zp 1<|zg [(15,true)] (.cy (.e 4))<|zg [(15,true)] .nop<|zg [(15,true)] (.cy (.e 8))<|zg [(15,true)] (.ix (.e 0) [] (.e 17))<|zg [(15,true)] .nop<|zg [(15,true)] .nop<|zg [(15,true)] (.cy (.e 1))<|zg [(15,true)] (.ix (.e 0) [] (.e 19))<|zg [(15,true)] .nop<|zg [(15,true)] (.cd (.e 16) 364 [.e 18,.e 20] 1)<|zg [(15,true)] (.bi .lss (.e 21) (.c (.n 0)))<|zg [(15,true)] (.un .not (.e 22))<|zi (.pk (.e 15) (.e 23) (.c (.b false))) []) (zs 0<|zs 1<|zn 2<|zs 4<|zn 2<|zs 7<|zs 8<|zn 1<|zs 24<|zn 4 [])<|
 .cond 10 .skip (.exit 2))<|
 .block 3<|.reg (zp 1<|zi (.bi .sub (.e 8) (.c (.n 1)))<|zp 1 []) (zs 0<|zs 1<|zn 2<|zs 4<|zn 2<|zs 7<|zs 15<|zn 6 []))<|
 .seq (zq (zp 2<|zi (.bi .gtr (.e 7) (.e 8)) []) (zs 0<|zs 1<|zn 2<|zs 4<|zn 2<|zs 7<|zs 8<|zn 2<|zs 15<|zn 3 [])<|
 .cond 11 (zq (zp 6<|zi (.ix (.e 0) [] (.e 1))<|zp 3<|zi (.ix (.e 0) [] (.e 8))<|zp 1<|zi (.ix (.e 0) [] (.e 8))<|zi (.up 0 [.e 8] (.e 15))<|zi (.ix (.e 18) [] (.e 1))<|zi (.up 18 [.e 1] (.e 16)) []) (zs 20<|zn 7<|zs 8<|zn 6 [])<|
 zq (zp 2<|zi (.cs .v (.b true)) []) (zs 0<|zn 4<|zs 8<|zs 15<|zn 8 [])<|
 .ret) .skip)<|
 zq (zp 6<|zi (.ix (.e 0) [] (.e 8))<|zp 3<|zi (.ix (.e 0) [] (.e 7))<|zp 1<|zi (.ix (.e 0) [] (.e 7))<|zi (.up 0 [.e 7] (.e 15))<|zi (.ix (.e 18) [] (.e 8))<|zi (.up 18 [.e 8] (.e 16)) []) (zs 20<|zs 1<|zn 2<|zs 4<|zn 2<|zs 7<|zs 8<|zn 6 [])<|
 zq (zp 1<|zi (.bi .add (.e 7) (.c (.n 1)))<|zp 1 []) (zs 0<|zs 1<|zn 2<|zs 4<|zn 2<|zs 15<|zs 8<|zn 6 [])<|
 zq (zp 1<|zi (.bi .sub (.e 8) (.c (.n 1)))<|zp 1 []) (zs 0<|zs 1<|zn 2<|zs 4<|zn 2<|zs 7<|zs 15<|zn 6 [])<|
 .seq (.block 4<|.loop<|.block 5<|.seq (.block 6<|.loop<|.seq (zq (zp 2<|zi (.bi .leq (.e 7) (.e 8))<|zp 1<|zg [(15,true)] (.cy (.e 4))<|zg [(15,true)] .nop<|zg [(15,true)] (.cy (.e 7))<|zg [(15,true)] (.ix (.e 0) [] (.e 17))<|zg [(15,true)] .nop<|zg [(15,true)] .nop<|zg [(15,true)] (.cy (.e 1))<|zg [(15,true)] (.ix (.e 0) [] (.e 19))<|zg [(15,true)] .nop<|zg [(15,true)] (.cd (.e 16) 364 [.e 18,.e 20] 1)<|zg [(15,true)] (.bi .lss (.e 21) (.c (.n 0)))<|zi (.pk (.e 15) (.e 22) (.c (.b false))) []) (zs 0<|zs 1<|zn 2<|zs 4<|zn 2<|zs 7<|zs 8<|zn 3<|zs 23<|zn 2 [])<|
 .cond 12 .skip (.exit 6))<|
 .block 7<|.reg (zp 1<|zi (.bi .add (.e 7) (.c (.n 1)))<|zp 1 []) (zs 0<|zs 1<|zn 2<|zs 4<|zn 2<|zs 15<|zs 8<|zn 6 []))<|
 .seq (.block 8<|.loop<|.seq (zq (zp 2<|zi (.bi .leq (.e 7) (.e 8))<|zp 1<|zg [(15,true)] (.cy (.e 4))<|zg [(15,true)] .nop<|zg [(15,true)] (.cy (.e 8))<|zg [(15,true)] (.ix (.e 0) [] (.e 17))<|zg [(15,true)] .nop<|zg [(15,true)] .nop<|zg [(15,true)] (.cy (.e 1))<|zg [(15,true)] (.ix (.e 0) [] (.e 19))<|zg [(15,true)] .nop<|zg [(15,true)] (.cd (.e 16) 364 [.e 18,.e 20] 1)<|zg [(15,true)] (.bi .lss (.e 21) (.c (.n 0)))<|zg [(15,true)] (.un .not (.e 22))<|zi (.pk (.e 15) (.e 23) (.c (.b false))) []) (zs 0<|zs 1<|zn 2<|zs 4<|zn 2<|zs 7<|zs 8<|zn 4<|zs 24<|zn 1 [])<|
 .cond 13 .skip (.exit 8))<|
 .block 9<|.reg (zp 1<|zi (.bi .sub (.e 8) (.c (.n 1)))<|zp 1 []) (zs 0<|zs 1<|zn 2<|zs 4<|zn 2<|zs 7<|zs 15<|zn 6 []))<|
 .seq (zq (zp 2<|zi (.bi .gtr (.e 7) (.e 8)) []) (zs 0<|zs 1<|zn 2<|zs 4<|zn 2<|zs 7<|zs 8<|zn 5<|zs 15 [])<|
 .cond 14 (.exit 4) .skip)<|
 zq (zp 6<|zi (.ix (.e 0) [] (.e 8))<|zp 3<|zi (.ix (.e 0) [] (.e 7))<|zp 1<|zi (.ix (.e 0) [] (.e 7))<|zi (.up 0 [.e 7] (.e 15))<|zi (.ix (.e 18) [] (.e 8))<|zi (.up 18 [.e 8] (.e 16)) []) (zs 20<|zs 1<|zn 2<|zs 4<|zn 2<|zs 7<|zs 8<|zn 6 [])<|
 zq (zp 1<|zi (.bi .add (.e 7) (.c (.n 1)))<|zp 1 []) (zs 0<|zs 1<|zn 2<|zs 4<|zn 2<|zs 15<|zs 8<|zn 6 [])<|
 .reg (zp 1<|zi (.bi .sub (.e 8) (.c (.n 1)))<|zp 1 []) (zs 0<|zs 1<|zn 2<|zs 4<|zn 2<|zs 7<|zs 15<|zn 6 []))<|
 zq (zp 6<|zi (.ix (.e 0) [] (.e 1))<|zp 3<|zi (.ix (.e 0) [] (.e 8))<|zp 1<|zi (.ix (.e 0) [] (.e 8))<|zi (.up 0 [.e 8] (.e 15))<|zi (.ix (.e 18) [] (.e 1))<|zi (.up 18 [.e 1] (.e 16)) []) (zs 20<|zn 7<|zs 8<|zn 6 [])<|
 zq (zp 2<|zi (.cs .v (.b false)) []) (zs 0<|zn 4<|zs 8<|zs 15<|zn 8 [])<|
 .ret⟩
def ir_slices_partitionEqualCmpFunc___int_:IF:=⟨[],5,11,[5,0],zq (zi (.cs .v (.n 0)) []) (zs 0<|zs 1<|zs 2<|zs 3<|zs 4<|zn 6 [])<|
 zq (zp 6<|zi (.ix (.e 0) [] (.e 3))<|zp 3<|zi (.ix (.e 0) [] (.e 1))<|zp 1<|zi (.ix (.e 0) [] (.e 1))<|zi (.up 0 [.e 1] (.e 11))<|zi (.ix (.e 14) [] (.e 3))<|zi (.up 14 [.e 3] (.e 12)) []) (zs 16<|zs 1<|zs 2<|zn 1<|zs 4<|zn 6 [])<|
 zq (zp 1<|zi (.bi .add (.e 1) (.c (.n 1)))<|zp 1<|zi (.bi .sub (.e 2) (.c (.n 1)))<|zp 2 []) (zs 0<|zs 1<|zn 2<|zs 4<|zn 1<|zs 11<|zs 12<|zn 3 [])<|
 .seq (.block 0<|.loop<|.block 1<|.seq (.block 2<|.loop<|.seq (zq (zp 2<|zi (.bi .leq (.e 6) (.e 7))<|zp 1<|zg [(11,true)] (.cy (.e 4))<|zg [(11,true)] .nop<|zg [(11,true)] (.cy (.e 1))<|zg [(11,true)] (.ix (.e 0) [] (.e 13))<|zg [(11,true)] .nop<|zg [(11,true)] .nop<|zg [(11,true)] (.cy (.e 6))<|zg [(11,true)] (.ix (.e 0) [] (.e 15))<|zg [(11,true)] .nop<|zg [(11,true)] (.cd (.e 12) 364 [.e 14,.e 16] 1)<|zg [(11,true)] (.bi .lss (.e 17) (.c (.n 0)))<|zg [(11,true)] (.un .not (.e 18))<|zi (.pk (.e 11) (.e 19) (.c (.b false))) []) (zs 0<|zs 1<|zn 2<|zs 4<|zn 1<|zs 6<|zs 7<|zs 20<|zn 2 [])<|
 .cond 8 .skip (.exit 2))<|
 .block 3<|.reg (zp 1<|zi (.bi .add (.e 6) (.c (.n 1)))<|zp 1 []) (zs 0<|zs 1<|zn 2<|zs 4<|zn 1<|zs 11<|zs 7<|zn 3 []))<|
 .seq (.block 4<|.loop<|.seq (zq (zp 2<|zi (.bi .leq (.e 6) (.e 7))<|zp 1<|zg [(11,true)] (.cy (.e 4))<|zg [(11,true)] .nop<|zg [(11,true)] (.cy (.e 1))<|zg [(11,true)] (.ix (.e 0) [] (.e 13))<|zg [(11,true)] .nop<|zg [(11,true)] .nop<|zg [(11,true)] (.cy (.e 7))<|zg [(11,true)] (.ix (.e 0) [] (.e 15))<|zg [(11,true)] .nop<|zg [(11,true)] (.cd (.e 12) 364 [.e 14,.e 16] 1)<|zg [(11,true)] (.bi .lss (.e 17) (.c (.n 0)))<|zi (.pk (.e 11) (.e 18) (.c (.b false))) []) (zs 0<|zs 1<|zn 2<|zs 4<|zn 1<|zs 6<|zs 7<|zn 1<|zs 19<|zn 1 [])<|
 .cond 9 .skip (.exit 4))<|
 .block 5<|.reg (zp 1<|zi (.bi .sub (.e 7) (.c (.n 1)))<|zp 1 []) (zs 0<|zs 1<|zn 2<|zs 4<|zn 1<|zs 6<|zs 11<|zn 3 []))<|
 .seq (zq (zp 2<|zi (.bi .gtr (.e 6) (.e 7)) []) (zs 0<|zs 1<|zn 2<|zs 4<|zn 1<|zs 6<|zs 7<|zn 2<|zs 11 [])<|
 .cond 10 (.exit 0) .skip)<|
 zq (zp 6<|zi (.ix (.e 0) [] (.e 7))<|zp 3<|zi (.ix (.e 0) [] (.e 6))<|zp 1<|zi (.ix (.e 0) [] (.e 6))<|zi (.up 0 [.e 6] (.e 11))<|zi (.ix (.e 14) [] (.e 7))<|zi (.up 14 [.e 7] (.e 12)) []) (zs 16<|zs 1<|zn 2<|zs 4<|zn 1<|zs 6<|zs 7<|zn 3 [])<|
 zq (zp 1<|zi (.bi .add (.e 6) (.c (.n 1)))<|zp 1 []) (zs 0<|zs 1<|zn 2<|zs 4<|zn 1<|zs 11<|zs 7<|zn 3 [])<|
 .reg (zp 1<|zi (.bi .sub (.e 7) (.c (.n 1)))<|zp 1 []) (zs 0<|zs 1<|zn 2<|zs 4<|zn 1<|zs 6<|zs 11<|zn 3 []))<|
 zq (zp 2 []) (zs 0<|zn 4<|zs 6<|zn 5 [])<|
 .ret⟩
def ir_slices_pdqsortCmpFunc___int_:IF:=⟨[],5,24,[0],zq (zi (.cs .v (.b true)) []) (zs 0<|zs 1<|zs 2<|zs 3<|zs 4<|zs 24<|zn 18 [])<|
 zq (zi (.cs .v (.b true)) []) (zs 0<|zs 1<|zs 2<|zs 3<|zs 4<|zs 5<|zs 24<|zn 17 [])<|
 .block 0<|.loop<|.block 1<|zq (zp 2<|zi (.bi .sub (.e 2) (.e 1))<|zp 1 []) (zs 0<|zs 1<|zs 2<|zs 3<|zs 4<|zs 5<|zs 6<|zs 24<|zn 16 [])<|
 .seq (zq (zp 1<|zi (.bi .leq (.e 7) (.c (.n 12))) []) (zs 0<|zs 1<|zs 2<|zs 3<|zs 4<|zs 5<|zs 6<|zs 7<|zn 8<|zs 24<|zn 7 [])<|
 .cond 16 (zq (zp 4<|zi (.ca 382 [.e 0,.e 1,.e 2,.e 4] 1) []) (zs 24<|zn 23 [])<|
 .ret) .skip)<|
 .seq (zq (zp 1<|zi (.bi .eql (.e 3) (.c (.n 0))) []) (zs 0<|zs 1<|zs 2<|zs 3<|zs 4<|zs 5<|zs 6<|zs 7<|zn 9<|zs 24<|zn 6 [])<|
 .cond 17 (zq (zp 4<|zi (.ca 383 [.e 0,.e 1,.e 2,.e 4] 1) []) (zs 24<|zn 23 [])<|
 .ret) .skip)<|
 .seq (zq (zp 1<|zi (.un .not (.e 5)) []) (zs 0<|zs 1<|zs 2<|zs 3<|zs 4<|zs 5<|zs 6<|zs 7<|zn 10<|zs 24<|zn 5 [])<|
 .cond 18 (zq (zp 4<|zi (.ca 384 [.e 0,.e 1,.e 2,.e 4] 1) []) (zs 24<|zs 1<|zs 2<|zs 3<|zs 4<|zs 5<|zs 6<|zs 7<|zn 16 [])<|
 .reg (zp 1<|zi (.bi .sub (.e 3) (.c (.n 1)))<|zp 1 []) (zs 0<|zs 1<|zs 2<|zs 24<|zs 4<|zs 5<|zs 6<|zs 7<|zn 16 [])) .skip)<|
 zq (zp 4<|zi (.ca 385 [.e 0,.e 1,.e 2,.e 4] 2)<|zp 5 []) (zs 0<|zs 1<|zs 2<|zs 3<|zs 4<|zs 5<|zs 6<|zs 7<|zs 24<|zs 25<|zn 14 [])<|
 .seq (zq (zp 1<|zi (.bi .eql (.e 9) (.c (.n 2))) []) (zs 0<|zs 1<|zs 2<|zs 3<|zs 4<|zs 5<|zs 6<|zs 7<|zs 8<|zs 9<|zn 9<|zs 24<|zn 4 [])<|
 .cond 19 (zq (zp 4<|zi (.ca 386 [.e 0,.e 1,.e 2,.e 4] 1) []) (zs 24<|zs 1<|zs 2<|zs 3<|zs 4<|zs 5<|zs 6<|zs 7<|zs 8<|zn 15 [])<|
 zq (zp 1<|zi (.bi .sub (.e 2) (.c (.n 1)))<|zp 2<|zi (.bi .sub (.e 8) (.e 1))<|zi (.bi .sub (.e 24) (.e 25))<|zp 1 []) (zs 0<|zs 1<|zs 2<|zs 3<|zs 4<|zs 5<|zs 6<|zs 7<|zs 26<|zn 15 [])<|
 .reg (zi (.cs .v (.n 1)) []) (zs 0<|zs 1<|zs 2<|zs 3<|zs 4<|zs 5<|zs 6<|zs 7<|zs 8<|zs 24<|zn 14 [])) .skip)<|
 .seq (zq (zp 2<|zg [(5,true)] (.cy (.e 6))<|zi (.pk (.e 5) (.e 24) (.c (.b false)))<|zp 1<|zg [(25,true)] (.cy (.e 9))<|zg [(25,true)] (.bi .eql (.e 26) (.c (.n 1)))<|zi (.pk (.e 25) (.e 27) (.c (.b false))) []) (zs 0<|zs 1<|zs 2<|zs 3<|zs 4<|zs 5<|zs 6<|zs 7<|zs 8<|zn 11<|zs 28<|zn 3 [])<|
 .cond 20 (zq (zp 4<|zi (.ca 387 [.e 0,.e 1,.e 2,.e 4] 2) []) (zs 25<|zs 1<|zs 2<|zs 3<|zs 4<|zs 5<|zs 6<|zs 7<|zs 8<|zn 12<|zs 24<|zn 2 [])<|
 .cond 21 .ret .skip) .skip)<|
 .seq (zq (zp 1<|zi (.bi .gtr (.e 1) (.c (.n 0)))<|zp 1<|zg [(24,true)] (.cy (.e 4))<|zg [(24,true)] .nop<|zg [(24,true)] (.cy (.e 1))<|zg [(24,true)] (.bi .sub (.e 26) (.c (.n 1)))<|zg [(24,true)] (.ix (.e 0) [] (.e 27))<|zg [(24,true)] .nop<|zg [(24,true)] .nop<|zg [(24,true)] (.cy (.e 8))<|zg [(24,true)] (.ix (.e 0) [] (.e 29))<|zg [(24,true)] .nop<|zg [(24,true)] (.cd (.e 25) 364 [.e 28,.e 30] 1)<|zg [(24,true)] (.bi .lss (.e 31) (.c (.n 0)))<|zg [(24,true)] (.un .not (.e 32))<|zi (.pk (.e 24) (.e 33) (.c (.b false))) []) (zs 0<|zs 1<|zs 2<|zs 3<|zs 4<|zs 5<|zs 6<|zs 7<|zs 8<|zn 13<|zs 34<|zn 1 [])<|
 .cond 22 (zq (zp 5<|zi (.ca 388 [.e 0,.e 1,.e 2,.e 8,.e 4] 2)<|zp 1 []) (zs 25<|zn 1<|zs 2<|zs 3<|zs 4<|zs 5<|zs 6<|zn 3<|zs 24<|zn 13 [])<|
 zq (zp 2 []) (zs 0<|zs 10<|zs 2<|zs 3<|zs 4<|zs 5<|zs 6<|zn 17 [])<|
 .exit 1) .skip)<|
 zq (zp 5<|zi (.ca 389 [.e 0,.e 1,.e 2,.e 8,.e 4] 3)<|zp 5 []) (zs 26<|zs 1<|zs 2<|zs 3<|zs 4<|zn 2<|zs 7<|zn 3<|zs 24<|zs 25<|zn 11 [])<|
 zq (zp 2 []) (zs 0<|zs 1<|zs 2<|zs 3<|zs 4<|zn 1<|zs 12<|zs 7<|zn 3<|zs 11<|zn 12 [])<|
 zq (zp 2<|zi (.bi .sub (.e 11) (.e 1))<|zp 2<|zi (.bi .sub (.e 2) (.e 11))<|zp 2 []) (zs 0<|zs 1<|zs 2<|zs 3<|zs 4<|zn 1<|zs 6<|zs 7<|zn 3<|zs 11<|zn 1<|zs 24<|zs 25<|zn 9 [])<|
 zq (zp 1<|zi (.bi .quo (.e 7) (.c (.n 8)))<|zp 1 []) (zs 0<|zs 1<|zs 2<|zs 3<|zs 4<|zn 1<|zs 6<|zn 4<|zs 11<|zn 1<|zs 13<|zs 14<|zs 24<|zn 8 [])<|
 zq (zp 2<|zi (.bi .lss (.e 13) (.e 14)) []) (zs 0<|zs 1<|zs 2<|zs 3<|zs 4<|zn 1<|zs 6<|zn 4<|zs 11<|zn 1<|zs 13<|zs 14<|zs 15<|zn 7<|zs 24 [])<|
 .cond 23 (zq (zp 2<|zi (.bi .geq (.e 13) (.e 15))<|zp 1 []) (zs 0<|zs 1<|zs 2<|zs 3<|zs 4<|zs 24<|zs 6<|zn 4<|zs 11<|zn 12 [])<|
 zq (zp 5<|zi (.ca 375 [.e 0,.e 1,.e 11,.e 3,.e 4] 1) []) (zs 24<|zn 1<|zs 2<|zs 3<|zs 4<|zs 5<|zs 6<|zn 4<|zs 11<|zn 12 [])<|
 .reg (zp 1<|zi (.bi .add (.e 11) (.c (.n 1)))<|zp 1 []) (zs 0<|zs 24<|zs 2<|zs 3<|zs 4<|zs 5<|zs 6<|zn 17 [])) (zq (zp 2<|zi (.bi .geq (.e 14) (.e 15))<|zp 1 []) (zs 0<|zs 1<|zs 2<|zs 3<|zs 4<|zs 24<|zs 6<|zn 4<|zs 11<|zn 12 [])<|
 zq (zp 2<|zi (.bi .add (.e 11) (.c (.n 1)))<|zp 3<|zi (.ca 375 [.e 0,.e 24,.e 2,.e 3,.e 4] 1) []) (zs 25<|zs 1<|zn 1<|zs 3<|zs 4<|zs 5<|zs 6<|zn 4<|zs 11<|zn 12 [])<|
 .reg (zp 2 []) (zs 0<|zs 1<|zs 11<|zs 3<|zs 4<|zs 5<|zs 6<|zn 17 []))⟩
def ir_slices_reverseRangeCmpFunc___int_:IF:=⟨[],4,7,[0],zq (zp 2 []) (zs 0<|zn 1<|zs 2<|zn 1<|zs 1<|zn 2 [])<|
 zq (zp 1<|zi (.bi .sub (.e 2) (.c (.n 1)))<|zp 1 []) (zs 0<|zn 3<|zs 4<|zs 7<|zn 1 [])<|
 .block 0<|.loop<|.seq (zq (zp 2<|zi (.bi .lss (.e 4) (.e 5)) []) (zs 0<|zn 3<|zs 4<|zs 5<|zs 7 [])<|
 .cond 6 .skip (.exit 0))<|
 .block 1<|zq (zp 6<|zi (.ix (.e 0) [] (.e 5))<|zp 3<|zi (.ix (.e 0) [] (.e 4))<|zp 1<|zi (.ix (.e 0) [] (.e 4))<|zi (.up 0 [.e 4] (.e 7))<|zi (.ix (.e 10) [] (.e 5))<|zi (.up 10 [.e 5] (.e 8)) []) (zs 12<|zn 3<|zs 4<|zs 5<|zn 1 [])<|
 zq (zp 1<|zi (.bi .add (.e 4) (.c (.n 1)))<|zp 1 []) (zs 0<|zn 3<|zs 7<|zs 5<|zn 1 [])<|
 .reg (zp 1<|zi (.bi .sub (.e 5) (.c (.n 1)))<|zp 1 []) (zs 0<|zn 3<|zs 4<|zs 7<|zn 1 [])⟩
def ir_slices_siftDownCmpFunc___int_:IF:=⟨[],5,10,[0],zq (zp 2 []) (zs 0<|zn 1<|zs 2<|zs 3<|zs 4<|zs 1<|zn 4 [])<|
 .block 0<|.loop<|.block 1<|zq (zp 1<|zi (.bi .mul (.c (.n 2)) (.e 5))<|zi (.bi .add (.e 10) (.c (.n 1)))<|zp 1 []) (zs 0<|zn 1<|zs 2<|zs 3<|zs 4<|zs 5<|zs 11<|zn 3 [])<|
 .seq (zq (zp 2<|zi (.bi .geq (.e 6) (.e 2)) []) (zs 0<|zn 1<|zs 2<|zs 3<|zs 4<|zs 5<|zs 6<|zs 10<|zn 2 [])<|
 .cond 7 (.exit 0) .skip)<|
 .seq (zq (zp 1<|zi (.bi .add (.e 6) (.c (.n 1)))<|zp 1<|zi (.bi .lss (.e 10) (.e 2))<|zp 1<|zg [(11,true)] (.cy (.e 4))<|zg [(11,true)] .nop<|zg [(11,true)] (.cy (.e 3))<|zg [(11,true)] (.cy (.e 6))<|zg [(11,true)] (.bi .add (.e 13) (.e 14))<|zg [(11,true)] (.ix (.e 0) [] (.e 15))<|zg [(11,true)] .nop<|zg [(11,true)] .nop<|zg [(11,true)] (.cy (.e 3))<|zg [(11,true)] (.cy (.e 6))<|zg [(11,true)] (.bi .add (.e 17) (.e 18))<|zg [(11,true)] (.bi .add (.e 19) (.c (.n 1)))<|zg [(11,true)] (.ix (.e 0) [] (.e 20))<|zg [(11,true)] .nop<|zg [(11,true)] (.cd (.e 12) 364 [.e 16,.e 21] 1)<|zg [(11,true)] (.bi .lss (.e 22) (.c (.n 0)))<|zi (.pk (.e 11) (.e 23) (.c (.b false))) []) (zs 0<|zn 1<|zs 2<|zs 3<|zs 4<|zs 5<|zs 6<|zn 1<|zs 24<|zn 1 [])<|
 .cond 8 (.reg (zp 1<|zi (.bi .add (.e 6) (.c (.n 1)))<|zp 1 []) (zs 0<|zn 1<|zs 2<|zs 3<|zs 4<|zs 5<|zs 10<|zn 3 [])) .skip)<|
 .seq (zq (zp 4<|zi (.bi .add (.e 3) (.e 5))<|zi (.ix (.e 0) [] (.e 10))<|zp 4<|zi (.bi .add (.e 3) (.e 6))<|zi (.ix (.e 0) [] (.e 12))<|zp 1<|zi (.cd (.e 4) 364 [.e 11,.e 13] 1)<|zi (.bi .lss (.e 14) (.c (.n 0)))<|zi (.un .not (.e 15)) []) (zs 0<|zn 1<|zs 2<|zs 3<|zs 4<|zs 5<|zs 6<|zn 2<|zs 16 [])<|
 .cond 9 .ret .skip)<|
 zq (zp 3<|zi (.bi .add (.e 3) (.e 5))<|zp 3<|zi (.bi .add (.e 3) (.e 6))<|zp 3<|zi (.bi .add (.e 3) (.e 6))<|zi (.ix (.e 0) [] (.e 12))<|zp 4<|zi (.bi .add (.e 3) (.e 5))<|zi (.ix (.e 0) [] (.e 14))<|zp 1<|zi (.ix (.e 0) [] (.e 10))<|zi (.up 0 [.e 10] (.e 13))<|zi (.ix (.e 17) [] (.e 11))<|zi (.up 17 [.e 11] (.e 15)) []) (zs 19<|zn 1<|zs 2<|zs 3<|zs 4<|zn 1<|zs 6<|zn 3 [])<|
 .reg (zp 2 []) (zs 0<|zn 1<|zs 2<|zs 3<|zs 4<|zs 6<|zn 4 [])⟩
end Go.Cat
namespace Go.Cat
end Go.Cat
namespace Go.Cat
end Go.Cat
namespace Go.Cat
end Go.Cat
namespace Go.Cat
end Go.Cat
namespace Go.Cat
end Go.Cat
namespace Go.Cat
end Go.Cat
namespace Go.Cat
end Go.Cat
namespace Go.Cat
end Go.Cat
namespace Go.Cat
end Go.Cat
namespace Go.Cat
end Go.Cat
namespace Go.Cat
end Go.Cat
namespace Go.Cat
end Go.Cat
namespace Go.Cat
def ir_laws_eqClaim:IF:=⟨[],2,12,[4],zq (zi (.bp (.e 0))<|zi (.bp (.e 1))<|zi (.cs .v (.b false)) []) (zn 2<|zs 12<|zs 13<|zn 8 [])<|
 .seq (zq (zi (.fp true (.e 2) 0)<|zp 1<|zi (.fp true (.e 3) 0)<|zp 1<|zi (.bi .neq (.e 12) (.e 13)) []) (zn 2<|zs 2<|zs 3<|zn 1<|zs 14<|zn 6 [])<|
 .cond 5 (zq (zi (.cs .v (.b false)) []) (zn 4<|zs 12<|zn 7 [])<|
 .ret) .skip)<|
 .seq (zq (zi (.fp true (.e 2) 1)<|zp 1<|zi (.fp true (.e 3) 1)<|zp 1<|zi (.bi .neq (.e 12) (.e 13)) []) (zn 2<|zs 2<|zs 3<|zn 2<|zs 14<|zn 5 [])<|
 .cond 6 (zq (zi (.cs .v (.b false)) []) (zn 4<|zs 12<|zn 7 [])<|
 .ret) .skip)<|
 .seq (zq (zi (.fp true (.e 2) 2)<|zp 1<|zi (.fp true (.e 3) 2)<|zp 1<|zi (.bi .neq (.e 12) (.e 13)) []) (zn 2<|zs 2<|zs 3<|zn 3<|zs 14<|zn 4 [])<|
 .cond 7 (zq (zi (.cs .v (.b false)) []) (zn 4<|zs 12<|zn 7 [])<|
 .ret) .skip)<|
 .seq (zq (zi (.fp false (.e 2) 3)<|zp 1<|zi (.fp false (.e 3) 3)<|zp 1<|zi (.ca 15 [.e 12,.e 13] 1)<|zi (.un .not (.e 14)) []) (zn 2<|zs 2<|zs 3<|zn 4<|zs 15<|zn 3 [])<|
 .cond 8 (zq (zi (.cs .v (.b false)) []) (zn 4<|zs 12<|zn 7 [])<|
 .ret) .skip)<|
 .seq (zq (zi (.fp false (.e 2) 4)<|zp 1<|zi (.fp false (.e 3) 4)<|zp 1<|zi (.ca 44 [.e 12,.e 13] 1)<|zi (.un .not (.e 14)) []) (zn 2<|zs 2<|zs 3<|zn 5<|zs 15<|zn 2 [])<|
 .cond 9 (zq (zi (.cs .v (.b false)) []) (zn 4<|zs 12<|zn 7 [])<|
 .ret) .skip)<|
 .seq (zq (zi (.fp false (.e 2) 5)<|zp 1<|zi (.fp false (.e 3) 5)<|zp 1<|zi (.ca 44 [.e 12,.e 13] 1)<|zi (.un .not (.e 14)) []) (zn 2<|zs 2<|zs 3<|zn 6<|zs 15<|zn 1 [])<|
 .cond 10 (zq (zi (.cs .v (.b false)) []) (zn 4<|zs 12<|zn 7 [])<|
 .ret) .skip)<|
 .seq (zq (zi (.fp false (.e 2) 6)<|zp 1<|zi (.fp false (.e 3) 6)<|zp 1<|zi (.ca 155 [.e 12,.e 13] 1)<|zi (.un .not (.e 14)) []) (zn 11<|zs 15 [])<|
 .cond 11 (zq (zi (.cs .v (.b false)) []) (zn 4<|zs 12<|zn 7 [])<|
 .ret) .skip)<|
 zq (zi (.cs .v (.b true)) []) (zn 4<|zs 12<|zn 7 [])<|
 .ret⟩
def ir_laws_eqIntS:IF:=⟨[],2,7,[2],zq (zi (.cs .v (.b false)) []) (zs 0<|zs 1<|zn 5 [])<|
 .seq (zq (zp 1<|zi (.ln (.e 0) [])<|zp 1<|zi (.ln (.e 1) [])<|zi (.bi .neq (.e 7) (.e 8)) []) (zs 0<|zs 1<|zn 2<|zs 9<|zn 2 [])<|
 .cond 4 (zq (zi (.cs .v (.b false)) []) (zn 2<|zs 7<|zn 4 [])<|
 .ret) .skip)<|
 .seq (zq (zi (.cs .v (.n 0)) []) (zs 0<|zs 1<|zn 1<|zs 7<|zn 3 [])<|
 .block 0<|.loop<|.seq (zq (zp 2<|zi (.ln (.e 0) [])<|zi (.bi .lss (.e 3) (.e 7)) []) (zs 0<|zs 1<|zn 1<|zs 3<|zn 1<|zs 8<|zn 1 [])<|
 .cond 5 .skip (.exit 0))<|
 .seq (.block 1<|zq (zp 2<|zi (.iy (.e 0) (.e 3))<|zp 3<|zi (.iy (.e 1) (.e 3))<|zp 1<|zi (.bi .neq (.e 7) (.e 8)) []) (zs 0<|zs 1<|zn 1<|zs 3<|zn 2<|zs 9 [])<|
 .cond 6 (zq (zi (.cs .v (.b false)) []) (zn 2<|zs 7<|zn 4 [])<|
 .ret) .skip)<|
 .reg (zp 1<|zi (.bi .add (.e 3) (.c (.n 1)))<|zp 1 []) (zs 0<|zs 1<|zn 1<|zs 7<|zn 3 []))<|
 zq (zi (.cs .v (.b true)) []) (zn 2<|zs 7<|zn 4 [])<|
 .ret⟩
def ir_laws_eqIntSS:IF:=⟨[],2,7,[2],zq (zi (.cs .v (.b false)) []) (zs 0<|zs 1<|zn 5 [])<|
 .seq (zq (zp 1<|zi (.ln (.e 0) [])<|zp 1<|zi (.ln (.e 1) [])<|zi (.bi .neq (.e 7) (.e 8)) []) (zs 0<|zs 1<|zn 2<|zs 9<|zn 2 [])<|
 .cond 4 (zq (zi (.cs .v (.b false)) []) (zn 2<|zs 7<|zn 4 [])<|
 .ret) .skip)<|
 .seq (zq (zi (.cs .v (.n 0)) []) (zs 0<|zs 1<|zn 1<|zs 7<|zn 3 [])<|
 .block 0<|.loop<|.seq (zq (zp 2<|zi (.ln (.e 0) [])<|zi (.bi .lss (.e 3) (.e 7)) []) (zs 0<|zs 1<|zn 1<|zs 3<|zn 1<|zs 8<|zn 1 [])<|
 .cond 5 .skip (.exit 0))<|
 .seq (.block 1<|zq (zp 2<|zi (.ix (.e 0) [] (.e 3))<|zp 3<|zi (.ix (.e 1) [] (.e 3))<|zp 1<|zi (.ca 44 [.e 7,.e 8] 1)<|zi (.un .not (.e 9)) []) (zs 0<|zs 1<|zn 1<|zs 3<|zn 2<|zs 10 [])<|
 .cond 6 (zq (zi (.cs .v (.b false)) []) (zn 2<|zs 7<|zn 4 [])<|
 .ret) .skip)<|
 .reg (zp 1<|zi (.bi .add (.e 3) (.c (.n 1)))<|zp 1 []) (zs 0<|zs 1<|zn 1<|zs 7<|zn 3 []))<|
 zq (zi (.cs .v (.b true)) []) (zn 2<|zs 7<|zn 4 [])<|
 .ret⟩
def ir_laws_eqStringS:IF:=⟨[],2,7,[2],zq (zi (.cs .v (.b false)) []) (zs 0<|zs 1<|zn 5 [])<|
 .seq (zq (zp 1<|zi (.ln (.e 0) [])<|zp 1<|zi (.ln (.e 1) [])<|zi (.bi .neq (.e 7) (.e 8)) []) (zs 0<|zs 1<|zn 2<|zs 9<|zn 2 [])<|
 .cond 4 (zq (zi (.cs .v (.b false)) []) (zn 2<|zs 7<|zn 4 [])<|
 .ret) .skip)<|
 .seq (zq (zi (.cs .v (.n 0)) []) (zs 0<|zs 1<|zn 1<|zs 7<|zn 3 [])<|
 .block 0<|.loop<|.seq (zq (zp 2<|zi (.ln (.e 0) [])<|zi (.bi .lss (.e 3) (.e 7)) []) (zs 0<|zs 1<|zn 1<|zs 3<|zn 1<|zs 8<|zn 1 [])<|
 .cond 5 .skip (.exit 0))<|
 .seq (.block 1<|zq (zp 2<|zi (.iy (.e 0) (.e 3))<|zp 3<|zi (.iy (.e 1) (.e 3))<|zp 1<|zi (.bi .neq (.e 7) (.e 8)) []) (zs 0<|zs 1<|zn 1<|zs 3<|zn 2<|zs 9 [])<|
 .cond 6 (zq (zi (.cs .v (.b false)) []) (zn 2<|zs 7<|zn 4 [])<|
 .ret) .skip)<|
 .reg (zp 1<|zi (.bi .add (.e 3) (.c (.n 1)))<|zp 1 []) (zs 0<|zs 1<|zn 1<|zs 7<|zn 3 []))<|
 zq (zi (.cs .v (.b true)) []) (zn 2<|zs 7<|zn 4 [])<|
 .ret⟩
def ir_laws_heldClaim:IF:=⟨[],2,8,[3],zq (zi (.bp (.e 0))<|zi (.cs .v (.n 0)) []) (zn 1<|zs 1<|zs 8<|zn 5 [])<|
 zq (zi (.fp false (.e 2) 3)<|zp 2<|zi (.ca 17 [.e 8,.e 1] 1)<|zp 1 []) (zn 1<|zs 9<|zs 2<|zn 5 [])<|
 .seq (zq (zp 1<|zi (.bi .lss (.e 1) (.c (.n 0))) []) (zn 1<|zs 1<|zs 2<|zn 1<|zs 8<|zn 3 [])<|
 .cond 4 (zq (zi (.cs .v (.n (-1))) []) (zn 3<|zs 8<|zn 4 [])<|
 .ret) .skip)<|
 zq (zi (.fp false (.e 2) 4)<|zp 2<|zi (.ca 46 [.e 8,.e 1] 1)<|zp 1 []) (zn 1<|zs 9<|zs 2<|zn 5 [])<|
 .seq (zq (zp 1<|zi (.bi .lss (.e 1) (.c (.n 0))) []) (zn 1<|zs 1<|zs 2<|zn 2<|zs 8<|zn 2 [])<|
 .cond 5 (zq (zi (.cs .v (.n (-1))) []) (zn 3<|zs 8<|zn 4 [])<|
 .ret) .skip)<|
 zq (zi (.fp false (.e 2) 5)<|zp 2<|zi (.ca 46 [.e 8,.e 1] 1)<|zp 1 []) (zn 1<|zs 9<|zs 2<|zn 5 [])<|
 .seq (zq (zp 1<|zi (.bi .lss (.e 1) (.c (.n 0))) []) (zn 1<|zs 1<|zs 2<|zn 3<|zs 8<|zn 1 [])<|
 .cond 6 (zq (zi (.cs .v (.n (-1))) []) (zn 3<|zs 8<|zn 4 [])<|
 .ret) .skip)<|
 zq (zi (.fp false (.e 2) 6)<|zp 2<|zi (.ca 159 [.e 8,.e 1] 1)<|zp 1 []) (zn 1<|zs 9<|zn 6 [])<|
 .seq (zq (zp 1<|zi (.bi .lss (.e 1) (.c (.n 0))) []) (zn 1<|zs 1<|zn 5<|zs 8 [])<|
 .cond 7 (zq (zi (.cs .v (.n (-1))) []) (zn 3<|zs 8<|zn 4 [])<|
 .ret) .skip)<|
 zq (zp 2 []) (zn 3<|zs 1<|zn 4 [])<|
 .ret⟩
def ir_laws_heldIntS:IF:=⟨[],2,6,[2],zq (zi (.cs .v (.n 0)) []) (zs 0<|zs 1<|zn 4 [])<|
 .seq (zq (zi (.cs .v (.n 0)) []) (zs 0<|zs 1<|zn 1<|zs 6<|zn 2 [])<|
 .block 0<|.loop<|.seq (zq (zp 2<|zi (.ln (.e 0) [])<|zi (.bi .lss (.e 3) (.e 6)) []) (zs 0<|zs 1<|zn 1<|zs 3<|zs 7<|zn 1 [])<|
 .cond 4 .skip (.exit 0))<|
 .seq (.block 1<|.seq (zq (zp 2<|zi (.iy (.e 0) (.e 3))<|zp 2<|zi (.bi .neq (.e 6) (.e 1)) []) (zs 0<|zs 1<|zn 1<|zs 3<|zn 1<|zs 7 [])<|
 .cond 5 (zq (zi (.cs .v (.n (-1))) []) (zn 2<|zs 6<|zn 3 [])<|
 .ret) .skip)<|
 .reg (zp 1<|zi (.bi .add (.e 1) (.c (.n 1)))<|zp 1 []) (zs 0<|zs 6<|zn 1<|zs 3<|zn 2 []))<|
 .reg (zp 1<|zi (.bi .add (.e 3) (.c (.n 1)))<|zp 1 []) (zs 0<|zs 1<|zn 1<|zs 6<|zn 2 []))<|
 zq (zp 2 []) (zn 2<|zs 1<|zn 3 [])<|
 .ret⟩
def ir_laws_heldIntSS:IF:=⟨[],2,6,[2],zq (zi (.cs .v (.n 0)) []) (zs 0<|zs 1<|zn 4 [])<|
 .seq (zq (zi (.cs .v (.n 0)) []) (zs 0<|zs 1<|zn 1<|zs 6<|zn 2 [])<|
 .block 0<|.loop<|.seq (zq (zp 2<|zi (.ln (.e 0) [])<|zi (.bi .lss (.e 3) (.e 6)) []) (zs 0<|zs 1<|zn 1<|zs 3<|zs 7<|zn 1 [])<|
 .cond 4 .skip (.exit 0))<|
 .seq (.block 1<|zq (zp 2<|zi (.ix (.e 0) [] (.e 3))<|zp 2<|zi (.ca 46 [.e 6,.e 1] 1)<|zp 1 []) (zs 0<|zs 7<|zn 1<|zs 3<|zn 2 [])<|
 zq (zp 1<|zi (.bi .lss (.e 1) (.c (.n 0))) []) (zs 0<|zs 1<|zn 1<|zs 3<|zn 1<|zs 6 [])<|
 .cond 5 (zq (zi (.cs .v (.n (-1))) []) (zn 2<|zs 6<|zn 3 [])<|
 .ret) .skip)<|
 .reg (zp 1<|zi (.bi .add (.e 3) (.c (.n 1)))<|zp 1 []) (zs 0<|zs 1<|zn 1<|zs 6<|zn 2 []))<|
 zq (zp 2 []) (zn 2<|zs 1<|zn 3 [])<|
 .ret⟩
def ir_laws_heldStringS:IF:=⟨[],2,6,[2],zq (zi (.cs .v (.n 0)) []) (zs 0<|zs 1<|zn 4 [])<|
 .seq (zq (zi (.cs .v (.n 0)) []) (zs 0<|zs 1<|zn 1<|zs 6<|zn 2 [])<|
 .block 0<|.loop<|.seq (zq (zp 2<|zi (.ln (.e 0) [])<|zi (.bi .lss (.e 3) (.e 6)) []) (zs 0<|zs 1<|zn 1<|zs 3<|zs 7<|zn 1 [])<|
 .cond 4 .skip (.exit 0))<|
 .seq (.block 1<|.seq (zq (zp 2<|zi (.iy (.e 0) (.e 3))<|zp 2<|zi (.ca 26 [.e 1] 1)<|zi (.bi .neq (.e 6) (.e 7)) []) (zs 0<|zs 1<|zn 1<|zs 3<|zn 1<|zs 8 [])<|
 .cond 5 (zq (zi (.cs .v (.n (-1))) []) (zn 2<|zs 6<|zn 3 [])<|
 .ret) .skip)<|
 .reg (zp 1<|zi (.bi .add (.e 1) (.c (.n 1)))<|zp 1 []) (zs 0<|zs 6<|zn 1<|zs 3<|zn 2 []))<|
 .reg (zp 1<|zi (.bi .add (.e 3) (.c (.n 1)))<|zp 1 []) (zs 0<|zs 1<|zn 1<|zs 6<|zn 2 []))<|
 zq (zp 2 []) (zn 2<|zs 1<|zn 3 [])<|
 .ret⟩
def ir_laws_markClaim:IF:=⟨[],2,4,[3,0],zq (zi (.wl 7 (.e 0))<|zi (.cs .v (.n 0))<|zi (.gt (.e 4) [.k 3])<|zp 2<|zi (.sp 4 [.k 3] 1)<|zi (.ca 16 [.e 7,.e 1] 2)<|zi (.jn 8 [.k 3] (.e 10) 1)<|zp 1<|zi (.gt (.e 11) [.k 4])<|zp 2<|zi (.sp 11 [.k 4] 1)<|zi (.ca 45 [.e 13,.e 9] 2)<|zi (.jn 14 [.k 4] (.e 16) 1)<|zp 1<|zi (.gt (.e 17) [.k 5])<|zp 2<|zi (.sp 17 [.k 5] 1)<|zi (.ca 45 [.e 19,.e 15] 2)<|zi (.jn 20 [.k 5] (.e 22) 1)<|zp 1<|zi (.gt (.e 23) [.k 6])<|zp 2<|zi (.sp 23 [.k 6] 2)<|zi (.ca 158 [.e 25,.e 21] 2)<|zi (.jn 26 [.k 6] (.e 28) 2)<|zp 3<|zi (.sw 29) []) (zs 30<|zn 2<|zs 27 [])<|
 .ret⟩
def ir_laws_markIntS:IF:=⟨[],2,5,[2,0],zq (zi (.cs .v (.n 0)) []) (zs 0<|zs 1<|zn 3 [])<|
 .seq (zq (zi (.cs .v (.n 0)) []) (zs 0<|zs 1<|zn 1<|zs 5<|zn 1 [])<|
 .block 0<|.loop<|.seq (zq (zp 2<|zi (.ln (.e 0) [])<|zi (.bi .lss (.e 3) (.e 5)) []) (zs 0<|zs 1<|zn 1<|zs 3<|zs 6 [])<|
 .cond 4 .skip (.exit 0))<|
 .seq (.block 1<|zq (zp 3<|zi (.ix (.e 0) [] (.e 3))<|zi (.up 0 [.e 3] (.e 1)) []) (zs 6<|zs 1<|zn 1<|zs 3<|zn 1 [])<|
 .reg (zp 1<|zi (.bi .add (.e 1) (.c (.n 1)))<|zp 1 []) (zs 0<|zs 5<|zn 1<|zs 3<|zn 1 []))<|
 .reg (zp 1<|zi (.bi .add (.e 3) (.c (.n 1)))<|zp 1 []) (zs 0<|zs 1<|zn 1<|zs 5<|zn 1 []))<|
 zq (zp 2 []) (zs 0<|zn 1<|zs 1<|zn 2 [])<|
 .ret⟩
def ir_laws_markIntSS:IF:=⟨[],2,5,[2,0],zq (zi (.cs .v (.n 0)) []) (zs 0<|zs 1<|zn 3 [])<|
 .seq (zq (zi (.cs .v (.n 0)) []) (zs 0<|zs 1<|zn 1<|zs 5<|zn 1 [])<|
 .block 0<|.loop<|.seq (zq (zp 2<|zi (.ln (.e 0) [])<|zi (.bi .lss (.e 3) (.e 5)) []) (zs 0<|zs 1<|zn 1<|zs 3<|zs 6 [])<|
 .cond 4 .skip (.exit 0))<|
 .seq (.block 1<|.reg (zp 2<|zi (.ix (.e 0) [] (.e 3))<|zp 2<|zi (.sp 0 [.e 3] 1)<|zi (.ca 45 [.e 6,.e 1] 2)<|zi (.jn 7 [.e 3] (.e 9) 1)<|zp 1 []) (zs 10<|zs 8<|zn 1<|zs 3<|zn 1 []))<|
 .reg (zp 1<|zi (.bi .add (.e 3) (.c (.n 1)))<|zp 1 []) (zs 0<|zs 1<|zn 1<|zs 5<|zn 1 []))<|
 zq (zp 2 []) (zs 0<|zn 1<|zs 1<|zn 2 [])<|
 .ret⟩
def ir_laws_markStringS:IF:=⟨[],2,5,[2,0],zq (zi (.cs .v (.n 0)) []) (zs 0<|zs 1<|zn 3 [])<|
 .seq (zq (zi (.cs .v (.n 0)) []) (zs 0<|zs 1<|zn 1<|zs 5<|zn 1 [])<|
 .block 0<|.loop<|.seq (zq (zp 2<|zi (.ln (.e 0) [])<|zi (.bi .lss (.e 3) (.e 5)) []) (zs 0<|zs 1<|zn 1<|zs 3<|zs 6 [])<|
 .cond 4 .skip (.exit 0))<|
 .seq (.block 1<|zq (zp 3<|zi (.ca 26 [.e 1] 1)<|zi (.ix (.e 0) [] (.e 3))<|zi (.up 0 [.e 3] (.e 5)) []) (zs 7<|zs 1<|zn 1<|zs 3<|zn 1 [])<|
 .reg (zp 1<|zi (.bi .add (.e 1) (.c (.n 1)))<|zp 1 []) (zs 0<|zs 5<|zn 1<|zs 3<|zn 1 []))<|
 .reg (zp 1<|zi (.bi .add (.e 3) (.c (.n 1)))<|zp 1 []) (zs 0<|zs 1<|zn 1<|zs 5<|zn 1 []))<|
 zq (zp 2 []) (zs 0<|zn 1<|zs 1<|zn 2 [])<|
 .ret⟩
def ir_laws_markText:IF:=⟨[],1,5,[1],zq (zi (.cs .v (.s [])) []) (zs 0<|zn 4 [])<|
 .seq (zq (zp 1<|zi (.bi .leq (.e 0) (.c (.n 0))) []) (zs 0<|zn 2<|zs 5<|zn 1 [])<|
 .cond 3 (zq (zi (.cs .v (.s [109,48])) []) (zn 1<|zs 5<|zn 3 [])<|
 .ret) .skip)<|
 zq (zi (.cs .v (.s [])) []) (zs 0<|zn 1<|zs 5<|zn 2 [])<|
 .seq (.block 0<|.loop<|.seq (zq (zp 1<|zi (.bi .gtr (.e 0) (.c (.n 0))) []) (zs 0<|zn 1<|zs 2<|zn 1<|zs 5 [])<|
 .cond 4 .skip (.exit 0))<|
 .block 1<|zq (zp 1<|zi (.bi .rem (.e 0) (.c (.n 10)))<|zi (.bi .add (.c (.n 48)) (.e 5))<|zi (.cv .u8 (.e 6))<|zi (.li (.o .v) [.e 7])<|zi (.bs (.e 8))<|zp 1<|zi (.bi .add (.e 9) (.e 2))<|zp 1 []) (zs 0<|zn 1<|zs 10<|zn 2 [])<|
 .reg (zp 1<|zi (.bi .quo (.e 0) (.c (.n 10)))<|zp 1 []) (zs 5<|zn 1<|zs 2<|zn 2 []))<|
 zq (zp 1<|zi (.bi .add (.c (.s [109])) (.e 2))<|zp 1 []) (zn 1<|zs 5<|zn 3 [])<|
 .ret⟩
def ir_laws_toIntS:IF:=⟨[],1,5,[1],zq (zi (.cs (.o .v) (.l [])) []) (zs 0<|zn 4 [])<|
 zq (zp 1<|zi (.ln (.e 0) [])<|zi (.mk (.n 0) (.e 5) (.e 5))<|zp 1 []) (zs 0<|zn 1<|zs 6<|zn 2 [])<|
 .seq (zq (zi (.cs .v (.n 0)) []) (zs 0<|zn 1<|zs 2<|zs 5<|zn 1 [])<|
 .block 0<|.loop<|.seq (zq (zp 2<|zi (.ln (.e 0) [])<|zi (.bi .lss (.e 3) (.e 5)) []) (zs 0<|zn 1<|zs 2<|zs 3<|zs 6 [])<|
 .cond 4 .skip (.exit 0))<|
 .seq (.block 1<|.reg (zp 4<|zi (.iy (.e 0) (.e 3))<|zp 1<|zi (.ix (.e 2) [] (.e 3))<|zi (.up 2 [.e 3] (.e 5)) []) (zs 0<|zn 1<|zs 7<|zs 3<|zn 1 []))<|
 .reg (zp 1<|zi (.bi .add (.e 3) (.c (.n 1)))<|zp 1 []) (zs 0<|zn 1<|zs 2<|zs 5<|zn 1 []))<|
 zq (zp 2 []) (zn 1<|zs 2<|zn 3 [])<|
 .ret⟩
end Go.Cat
namespace Go.Cat
def ir_impl_TriangulationOfQuiddity:IF:=⟨[],1,6,[1,2],zq (zi (.cs (.o (.o .v)) (.l []))<|zi (.cs .v (.b false)) []) (zs 0<|zn 5 [])<|
 zq (zp 1<|zi (.ca 204 [.e 0] 2)<|zp 5 []) (zn 3<|zs 6<|zs 7<|zn 1 [])<|
 .seq (zq (zp 1<|zi (.un .not (.e 4)) []) (zn 3<|zs 3<|zn 1<|zs 6 [])<|
 .cond 5 (zq (zi (.li (.o (.o .v)) [])<|zp 1<|zi (.cs .v (.b false)) []) (zn 1<|zs 6<|zs 7<|zn 3 [])<|
 .ret) .skip)<|
 zq (zp 1<|zi (.ca 363 [.e 3,.c (.f 364 [])] 1) []) (zn 3<|zs 6<|zn 2 [])<|
 zq (zp 2<|zi (.cs .v (.b true)) []) (zn 1<|zs 3<|zs 6<|zn 3 [])<|
 .ret⟩
def ir_impl_cuts:IF:=⟨[],1,23,[1,2],zq (zi (.cs (.o (.o .v)) (.l []))<|zi (.cs .v (.b false)) []) (zs 0<|zn 22 [])<|
 .seq (zq (zp 1<|zi (.ln (.e 0) [])<|zi (.ca 23 [.e 23,.c (.n 3),.c (.n 10)] 1)<|zi (.un .not (.e 24)) []) (zs 0<|zn 11<|zs 25<|zn 10 [])<|
 .cond 12 (zq (zi (.cs (.o (.o .v)) (.l []))<|zi (.cs .v (.b false)) []) (zn 1<|zs 23<|zs 24<|zn 20 [])<|
 .ret) .skip)<|
 .seq (zq (zp 1<|zi (.ln (.e 0) [])<|zi (.cs .v (.n 0)) []) (zs 0<|zn 12<|zs 0<|zs 23<|zs 24<|zn 7 [])<|
 .block 0<|.loop<|zq (zi (.bi .lss (.e 15) (.e 14)) []) (zs 0<|zn 12<|zs 13<|zs 14<|zs 15<|zs 23<|zn 6 [])<|
 .seq (.cond 16 .skip (.exit 0))<|
 .seq (.block 1<|zq (zi (.iy (.e 13) (.e 15))<|zp 2 []) (zs 0<|zn 2<|zs 23<|zn 9<|zs 13<|zs 14<|zs 15<|zn 7 [])<|
 zq (zp 1<|zi (.ca 23 [.e 3,.c (.n 1),.c (.n 100)] 1)<|zi (.un .not (.e 23)) []) (zs 0<|zn 12<|zs 13<|zs 14<|zs 15<|zn 1<|zs 24<|zn 5 [])<|
 .cond 17 (zq (zi (.cs (.o (.o .v)) (.l []))<|zi (.cs .v (.b false)) []) (zn 1<|zs 23<|zs 24<|zn 20 [])<|
 .ret) .skip)<|
 .reg (zi (.bi .add (.e 15) (.c (.n 1)))<|zp 1 []) (zs 0<|zn 12<|zs 13<|zs 14<|zs 23<|zn 7 []))<|
 zq (zp 1<|zi (.ca 75 [.e 0] 1)<|zp 1 []) (zs 0<|zn 3<|zs 23<|zn 18 [])<|
 zq (zi (.li (.o .v) [])<|zp 1 []) (zs 0<|zn 3<|zs 4<|zs 23<|zn 17 [])<|
 .seq (zq (zp 1<|zi (.ln (.e 0) [])<|zi (.cs .v (.n 0)) []) (zn 4<|zs 4<|zs 5<|zn 12<|zs 23<|zs 24<|zn 3 [])<|
 .block 2<|.loop<|zq (zi (.bi .lss (.e 19) (.e 18)) []) (zn 4<|zs 4<|zs 5<|zn 12<|zs 18<|zs 19<|zs 23<|zn 2 [])<|
 .seq (.cond 20 .skip (.exit 2))<|
 .seq (.block 3<|zq (zp 2 []) (zn 4<|zs 4<|zs 5<|zs 19<|zn 11<|zs 18<|zs 19<|zn 3 [])<|
 .reg (zp 2<|zi (.li (.o .v) [.e 6])<|zi (.ap false (.e 5) (.e 23))<|zp 1 []) (zn 4<|zs 4<|zs 24<|zn 12<|zs 18<|zs 19<|zn 3 []))<|
 .reg (zi (.bi .add (.e 19) (.c (.n 1)))<|zp 1 []) (zn 4<|zs 4<|zs 5<|zn 12<|zs 18<|zs 23<|zn 3 []))<|
 zq (zi (.li (.o (.o .v)) [])<|zp 1 []) (zn 4<|zs 4<|zs 5<|zn 1<|zs 23<|zn 15 [])<|
 .seq (.block 4<|.loop<|.seq (zq (zp 1<|zi (.ln (.e 4) [])<|zi (.bi .gtr (.e 23) (.c (.n 3))) []) (zn 4<|zs 4<|zs 5<|zn 1<|zs 7<|zn 13<|zs 24<|zn 1 [])<|
 .cond 21 .skip (.exit 4))<|
 .block 5<|zq (zp 1<|zi (.ca 179 [.e 4,.c (.n 1)] 1)<|zp 1 []) (zn 4<|zs 4<|zs 5<|zn 1<|zs 7<|zs 23<|zn 14 [])<|
 .seq (zq (zp 1<|zi (.bi .lss (.e 8) (.c (.n 0))) []) (zn 4<|zs 4<|zs 5<|zn 1<|zs 7<|zs 8<|zn 13<|zs 23 [])<|
 .cond 22 (zq (zi (.cs (.o (.o .v)) (.l []))<|zi (.cs .v (.b false)) []) (zn 1<|zs 23<|zs 24<|zn 20 [])<|
 .ret) .skip)<|
 zq (zp 1<|zi (.ln (.e 4) [])<|zp 1 []) (zn 4<|zs 4<|zs 5<|zn 1<|zs 7<|zs 8<|zs 23<|zn 13 [])<|
 zq (zp 2<|zi (.bi .add (.e 8) (.e 9))<|zi (.bi .sub (.e 23) (.c (.n 1)))<|zp 1<|zi (.bi .rem (.e 24) (.e 9))<|zp 1<|zi (.bi .add (.e 8) (.c (.n 1)))<|zp 1<|zi (.bi .rem (.e 26) (.e 9))<|zp 2 []) (zn 4<|zs 4<|zs 5<|zn 1<|zs 7<|zs 8<|zn 1<|zs 25<|zs 27<|zn 11 [])<|
 zq (zp 2<|zi (.ix (.e 4) [] (.e 10))<|zp 1<|zi (.bi .sub (.e 23) (.c (.n 1)))<|zi (.ix (.e 4) [] (.e 10))<|zi (.up 4 [.e 10] (.e 24)) []) (zn 4<|zs 26<|zs 5<|zn 1<|zs 7<|zs 8<|zn 1<|zs 10<|zs 11<|zn 11 [])<|
 zq (zp 2<|zi (.ix (.e 4) [] (.e 11))<|zp 1<|zi (.bi .sub (.e 23) (.c (.n 1)))<|zi (.ix (.e 4) [] (.e 11))<|zi (.up 4 [.e 11] (.e 24)) []) (zn 4<|zs 26<|zs 5<|zn 1<|zs 7<|zs 8<|zn 1<|zs 10<|zs 11<|zn 11 [])<|
 zq (zp 3<|zi (.ix (.e 5) [] (.e 10))<|zp 3<|zi (.ix (.e 5) [] (.e 11))<|zp 1<|zi (.mn (.e 23) (.e 24))<|zp 2<|zi (.ix (.e 5) [] (.e 10))<|zp 3<|zi (.ix (.e 5) [] (.e 11))<|zp 1<|zi (.mx (.e 26) (.e 27))<|zi (.li (.o .v) [.e 25,.e 28])<|zi (.li (.o (.o .v)) [.e 29])<|zi (.ap false (.e 7) (.e 30))<|zp 1 []) (zn 4<|zs 4<|zs 5<|zn 1<|zs 31<|zs 8<|zn 14 [])<|
 zq (zp 3<|zi (.bi .add (.e 8) (.c (.n 1)))<|zi (.ca 212 [.e 4,.e 8,.e 23] 1)<|zp 1 []) (zn 4<|zs 24<|zs 5<|zn 1<|zs 7<|zs 8<|zn 14 [])<|
 .reg (zp 3<|zi (.bi .add (.e 8) (.c (.n 1)))<|zi (.ca 212 [.e 5,.e 8,.e 23] 1)<|zp 1 []) (zn 4<|zs 4<|zs 24<|zn 1<|zs 7<|zn 15 []))<|
 zq (zp 2<|zi (.li (.o .v) [.c (.n 1),.c (.n 1),.c (.n 1)])<|zi (.ca 72 [.e 4,.e 23] 1)<|zp 2 []) (zn 1<|zs 7<|zs 24<|zn 20 [])<|
 .ret⟩
end Go.Cat
namespace Go.Cat
def ir_impl_ClaimOfFrieze:IF:=⟨[(0,7)],1,6,[1,2],zq (zi (.cs (.b (.o (.o (.o .v)))) (.g [.n 0,.s [],.s [],.l [],.l [],.l [],.l []]))<|zi (.cs .v (.b false)) []) (zs 0<|zs 6<|zn 4 [])<|
 zq (zp 1<|zi (.ca 346 [.e 0] 2)<|zp 5 []) (zs 0<|zs 1<|zn 1<|zs 6<|zs 7<|zn 1 [])<|
 .seq (zq (zp 1<|zi (.un .not (.e 4)) []) (zs 0<|zs 1<|zn 1<|zs 3<|zn 1<|zs 6 [])<|
 .cond 5 (zq (zi (.bg 3 [(.c (.n 0),0),(.c (.s []),0),(.c (.s []),0),(.c (.l []),1),(.c (.l []),1),(.c (.l []),1),(.c (.l []),1)])<|zi (.ws 1 7 (.e 6))<|zi (.cs .v (.b false)) []) (zn 1<|zs 7<|zs 8<|zn 3 [])<|
 .ret) .skip)<|
 zq (zp 1<|zi (.ca 75 [.e 0] 1)<|zp 1<|zi (.bg 3 [(.c (.n 5),0),(.c (.s []),0),(.c (.s []),0),(.c (.l []),1),(.e 6,1),(.c (.l []),1),(.e 3,2)])<|zi (.ws 1 7 (.e 7))<|zi (.cs .v (.b true)) []) (zn 1<|zs 8<|zs 9<|zn 3 [])<|
 .ret⟩
end Go.Cat
namespace Go.Cat
def ir_laws_FnExactClaimOfFrieze:IF:=⟨[],1,21,[1],zq (zi (.cs .v (.b false)) []) (zs 0<|zn 20 [])<|
 .seq (zq (zp 1<|zi (.ln (.e 0) [])<|zi (.bi .gtr (.e 21) (.c (.n 1048576))) []) (zs 0<|zn 11<|zs 22<|zn 8 [])<|
 .cond 12 (zq (zi (.cs .v (.b true)) []) (zn 1<|zs 21<|zn 19 [])<|
 .ret) .skip)<|
 zq (zp 1<|zi (.ca 42 [.e 0] 1)<|zi (.ca 335 [.e 21] 2)<|zp 3<|zi (.cs (.b .v) (.g [.n 0,.s [],.s [],.l [],.l [],.l [],.l []]))<|zi (.ws 24 7 (.e 22))<|zp 1 []) (zs 0<|zn 1<|zs 25<|zs 23<|zn 17 [])<|
 zq (zp 1<|zi (.ca 42 [.e 0] 1)<|zp 1 []) (zs 0<|zn 1<|zs 2<|zs 3<|zs 21<|zn 16 [])<|
 zq (zp 1<|zi (.ca 336 [.e 4] 2)<|zp 3<|zi (.cs (.b (.o (.o (.o .v)))) (.g [.n 0,.s [],.s [],.l [],.l [],.l [],.l []]))<|zi (.ws 23 7 (.e 21))<|zp 1 []) (zs 0<|zn 1<|zs 2<|zs 3<|zs 4<|zs 24<|zs 22<|zn 14 [])<|
 .seq (zq (zi (.wl 7 (.e 5))<|zi (.wl 7 (.e 2))<|zi (.ca 119 [.e 21,.e 22] 1)<|zi (.un .not (.e 23))<|zp 1<|zg [(24,false)] (.cy (.e 6))<|zg [(24,false)] (.cy (.e 3))<|zg [(24,false)] (.bb .neq (.e 25) (.e 26))<|zi (.pk (.e 24) (.c (.b true)) (.e 27)) []) (zs 0<|zn 1<|zs 2<|zs 3<|zs 4<|zs 5<|zs 6<|zn 6<|zs 28<|zn 7 [])<|
 .cond 13 (zq (zi (.cs .v (.b false)) []) (zn 1<|zs 21<|zn 19 [])<|
 .ret) .skip)<|
 .seq (zq (zp 2<|zi (.ca 42 [.e 0] 1)<|zi (.ca 44 [.e 4,.e 21] 1)<|zi (.un .not (.e 22)) []) (zs 0<|zn 1<|zs 2<|zs 3<|zs 4<|zs 5<|zs 6<|zn 7<|zs 23<|zn 6 [])<|
 .cond 14 (zq (zi (.cs .v (.b false)) []) (zn 1<|zs 21<|zn 19 [])<|
 .ret) .skip)<|
 zq (zi (.cs .v (.n 1)) []) (zs 0<|zn 1<|zs 2<|zs 3<|zs 4<|zs 5<|zs 6<|zs 21<|zn 13 [])<|
 zq (zp 2<|zi (.ca 45 [.e 4,.e 7] 2)<|zp 1 []) (zs 0<|zn 1<|zs 2<|zs 3<|zn 1<|zs 5<|zs 6<|zs 21<|zn 13 [])<|
 .seq (zq (zp 1<|zi (.bi .lss (.e 7) (.c (.n 0)))<|zp 1<|zg [(21,false)] (.wl 7 (.e 5))<|zg [(21,false)] (.wl 7 (.e 2))<|zg [(21,false)] (.ca 119 [.e 22,.e 23] 1)<|zg [(21,false)] (.un .not (.e 24))<|zi (.pk (.e 21) (.c (.b true)) (.e 25))<|zp 1<|zg [(26,false)] (.cy (.e 6))<|zg [(26,false)] (.cy (.e 3))<|zg [(26,false)] (.bb .neq (.e 27) (.e 28))<|zi (.pk (.e 26) (.c (.b true)) (.e 29)) []) (zs 0<|zn 1<|zs 2<|zs 3<|zn 1<|zs 5<|zn 9<|zs 30<|zn 5 [])<|
 .cond 15 (zq (zi (.cs .v (.b false)) []) (zn 1<|zs 21<|zn 19 [])<|
 .ret) .skip)<|
 zq (zi (.cs .v (.n 1)) []) (zs 0<|zn 1<|zs 2<|zs 3<|zn 1<|zs 5<|zn 2<|zs 21<|zn 12 [])<|
 zq (zi (.wl 7 (.e 5))<|zp 1<|zi (.sw 5)<|zi (.ca 122 [.e 22,.e 8] 2)<|zi (.cy (.e 25))<|zp 1 []) (zs 0<|zn 1<|zs 2<|zs 3<|zn 1<|zs 26<|zn 2<|zs 24<|zn 12 [])<|
 zq (zi (.cs .v (.n 1)) []) (zs 0<|zn 1<|zs 2<|zs 3<|zn 1<|zs 5<|zn 2<|zs 8<|zs 21<|zn 11 [])<|
 zq (zi (.wl 7 (.e 5))<|zp 1<|zi (.ca 123 [.e 21,.e 9] 1)<|zp 1 []) (zs 0<|zn 1<|zs 2<|zs 3<|zn 1<|zs 5<|zn 2<|zs 8<|zs 22<|zn 11 [])<|
 .seq (zq (zp 1<|zi (.bi .lss (.e 9) (.c (.n 0))) []) (zs 0<|zn 1<|zs 2<|zs 3<|zn 1<|zs 5<|zn 2<|zs 8<|zs 9<|zn 6<|zs 21<|zn 4 [])<|
 .cond 16 (zq (zi (.cs .v (.b false)) []) (zn 1<|zs 21<|zn 19 [])<|
 .ret) .skip)<|
 .seq (zq (zp 2<|zi (.bi .neq (.e 9) (.e 8)) []) (zs 0<|zn 1<|zs 2<|zs 3<|zn 1<|zs 5<|zn 2<|zs 8<|zn 8<|zs 21<|zn 3 [])<|
 .cond 17 (zq (zi (.cs .v (.b false)) []) (zn 1<|zs 21<|zn 19 [])<|
 .ret) .skip)<|
 zq (zp 1<|zi (.ca 42 [.e 0] 1)<|zi (.ca 336 [.e 21] 2)<|zp 3<|zi (.cs (.b (.o (.o (.o .v)))) (.g [.n 0,.s [],.s [],.l [],.l [],.l [],.l []]))<|zi (.ws 24 7 (.e 22))<|zp 1 []) (zn 2<|zs 2<|zs 3<|zn 1<|zs 5<|zn 2<|zs 8<|zn 1<|zs 25<|zs 23<|zn 9 [])<|
 .seq (zq (zi (.wl 7 (.e 10))<|zi (.wl 7 (.e 2))<|zi (.ca 119 [.e 21,.e 22] 1)<|zi (.un .not (.e 23))<|zp 1<|zg [(24,false)] (.cy (.e 11))<|zg [(24,false)] (.cy (.e 3))<|zg [(24,false)] (.bb .neq (.e 25) (.e 26))<|zi (.pk (.e 24) (.c (.b true)) (.e 27)) []) (zn 5<|zs 5<|zn 2<|zs 8<|zn 9<|zs 28<|zn 2 [])<|
 .cond 18 (zq (zi (.cs .v (.b false)) []) (zn 1<|zs 21<|zn 19 [])<|
 .ret) .skip)<|
 zq (zi (.cs .v (.n 1)) []) (zn 5<|zs 5<|zn 2<|zs 8<|zs 21<|zn 11 [])<|
 zq (zi (.wl 7 (.e 5))<|zp 1<|zi (.ca 123 [.e 21,.e 9] 1)<|zp 1 []) (zn 8<|zs 8<|zs 22<|zn 11 [])<|
 .seq (zq (zp 1<|zi (.bi .lss (.e 9) (.c (.n 0))) []) (zn 8<|zs 8<|zs 9<|zn 9<|zs 21<|zn 1 [])<|
 .cond 19 (zq (zi (.cs .v (.b false)) []) (zn 1<|zs 21<|zn 19 [])<|
 .ret) .skip)<|
 .seq (zq (zp 2<|zi (.bi .neq (.e 9) (.e 8)) []) (zn 20<|zs 21 [])<|
 .cond 20 (zq (zi (.cs .v (.b false)) []) (zn 1<|zs 21<|zn 19 [])<|
 .ret) .skip)<|
 zq (zi (.cs .v (.b true)) []) (zn 1<|zs 21<|zn 19 [])<|
 .ret⟩
end Go.Cat
namespace Go.Cat
def ir_spec_l7Before:IF:=⟨[],2,3,[2],zq (zi (.cs .v (.b false)) []) (zs 0<|zs 1<|zn 1 [])<|
 zq (zp 1<|zi (.iy (.e 0) (.c (.n 0)))<|zp 2<|zi (.iy (.e 1) (.c (.n 0)))<|zp 1<|zi (.bi .lss (.e 3) (.e 4))<|zp 1<|zg [(5,false)] .nop<|zg [(5,false)] (.iy (.e 0) (.c (.n 0)))<|zg [(5,false)] .nop<|zg [(5,false)] .nop<|zg [(5,false)] (.iy (.e 1) (.c (.n 0)))<|zg [(5,false)] .nop<|zg [(5,false)] (.bi .eql (.e 6) (.e 7))<|zg [(5,false)] (.cy (.e 8))<|zg [(5,false),(9,true)] .nop<|zg [(5,false),(9,true)] (.iy (.e 0) (.c (.n 1)))<|zg [(5,false),(9,true)] .nop<|zg [(5,false),(9,true)] .nop<|zg [(5,false),(9,true)] (.iy (.e 1) (.c (.n 1)))<|zg [(5,false),(9,true)] .nop<|zg [(5,false),(9,true)] (.bi .lss (.e 10) (.e 11))<|zg [(5,false)] (.pk (.e 9) (.e 12) (.c (.b false)))<|zi (.pk (.e 5) (.c (.b true)) (.e 13))<|zp 1 []) (zn 2<|zs 14 [])<|
 .ret⟩
def ir_spec_l7Put:IF:=⟨[],2,5,[2],zq (zi (.cs (.o .v) (.l [])) []) (zs 0<|zs 1<|zn 3 [])<|
 zq (zp 1<|zi (.ln (.e 0) [])<|zp 1 []) (zs 0<|zs 1<|zn 1<|zs 5<|zn 1 [])<|
 .seq (.block 0<|.loop<|.seq (zq (zp 1<|zi (.bi .gtr (.e 3) (.c (.n 0)))<|zp 1<|zg [(5,true)] (.cy (.e 1))<|zg [(5,true)] (.cy (.e 0))<|zg [(5,true)] (.cy (.e 3))<|zg [(5,true)] (.bi .sub (.e 8) (.c (.n 1)))<|zg [(5,true)] (.ix (.e 7) [] (.e 9))<|zg [(5,true)] .nop<|zg [(5,true)] (.ca 374 [.e 6,.e 10] 1)<|zi (.pk (.e 5) (.e 11) (.c (.b false))) []) (zs 0<|zs 1<|zn 1<|zs 3<|zs 12 [])<|
 .cond 4 .skip (.exit 0))<|
 .block 1<|.reg (zp 1<|zi (.bi .sub (.e 3) (.c (.n 1)))<|zp 1 []) (zs 0<|zs 1<|zn 1<|zs 5<|zn 1 []))<|
 zq (zi (.li (.o .v) [])<|zp 2<|zi (.sb false (.e 0) none (some (.e 3)))<|zi (.ap false (.e 5) (.e 6))<|zp 1<|zi (.li (.o .v) [.e 1])<|zi (.ap false (.e 7) (.e 8))<|zp 2<|zi (.sb false (.e 0) (some (.e 3)) none)<|zi (.ap false (.e 9) (.e 10))<|zp 1 []) (zn 2<|zs 11<|zn 2 [])<|
 .ret⟩
end Go.Cat
namespace Go.Cat
def ir_spec_IsQuiddity:IF:=⟨[],1,11,[1],zq (zi (.cs .v (.b false)) []) (zs 0<|zn 10 [])<|
 .seq (zq (zp 1<|zi (.ca 180 [.e 0] 1)<|zi (.un .not (.e 11)) []) (zs 0<|zn 5<|zs 12<|zn 4 [])<|
 .cond 6 (zq (zi (.cs .v (.b false)) []) (zn 1<|zs 11<|zn 9 [])<|
 .ret) .skip)<|
 zq (zi (.li (.o .v) [])<|zp 1<|zi (.ap true (.e 11) (.e 0))<|zp 1 []) (zn 2<|zs 12<|zn 8 [])<|
 .seq (.block 0<|.loop<|.seq (zq (zp 1<|zi (.ln (.e 2) [])<|zi (.bi .gtr (.e 11) (.c (.n 3))) []) (zn 2<|zs 2<|zn 4<|zs 12<|zn 3 [])<|
 .cond 7 .skip (.exit 0))<|
 .block 1<|zq (zi (.cs .v (.n (-1))) []) (zn 2<|zs 2<|zs 11<|zn 7 [])<|
 .seq (zq (zp 1<|zi (.ln (.e 2) [])<|zi (.bi .sub (.e 11) (.c (.n 1)))<|zp 1 []) (zn 2<|zs 2<|zs 3<|zs 12<|zn 6 [])<|
 .block 2<|.loop<|.seq (zq (zp 1<|zi (.bi .geq (.e 4) (.c (.n 0))) []) (zn 2<|zs 2<|zs 3<|zs 4<|zn 3<|zs 11<|zn 2 [])<|
 .cond 8 .skip (.exit 2))<|
 .seq (.block 3<|zq (zp 2<|zi (.ix (.e 2) [] (.e 4))<|zp 1<|zi (.bi .eql (.e 11) (.c (.n 1))) []) (zn 2<|zs 2<|zs 3<|zs 4<|zn 4<|zs 12<|zn 1 [])<|
 .cond 9 (.reg (zp 2 []) (zn 2<|zs 2<|zs 4<|zs 4<|zn 6 [])) .skip)<|
 .reg (zp 1<|zi (.bi .sub (.e 4) (.c (.n 1)))<|zp 1 []) (zn 2<|zs 2<|zs 3<|zs 11<|zn 6 []))<|
 .seq (zq (zp 1<|zi (.bi .lss (.e 3) (.c (.n 0))) []) (zn 2<|zs 2<|zs 3<|zn 6<|zs 11 [])<|
 .cond 10 (zq (zi (.cs .v (.b false)) []) (zn 1<|zs 11<|zn 9 [])<|
 .ret) .skip)<|
 zq (zp 1<|zi (.ln (.e 2) [])<|zp 1 []) (zn 2<|zs 2<|zs 3<|zn 1<|zs 11<|zn 5 [])<|
 zq (zp 2<|zi (.bi .add (.e 3) (.c (.n 1)))<|zp 1<|zi (.bi .rem (.e 11) (.e 5))<|zp 2<|zi (.bi .add (.e 3) (.c (.n 1)))<|zp 1<|zi (.bi .rem (.e 13) (.e 5))<|zi (.ix (.e 2) [] (.e 14))<|zp 1<|zi (.bi .sub (.e 15) (.c (.n 1)))<|zi (.ix (.e 2) [] (.e 12))<|zi (.up 2 [.e 12] (.e 16)) []) (zn 2<|zs 18<|zs 3<|zn 1<|zs 5<|zn 5 [])<|
 zq (zp 3<|zi (.bi .add (.e 3) (.e 5))<|zi (.bi .sub (.e 11) (.c (.n 1)))<|zp 1<|zi (.bi .rem (.e 12) (.e 5))<|zp 3<|zi (.bi .add (.e 3) (.e 5))<|zi (.bi .sub (.e 14) (.c (.n 1)))<|zp 1<|zi (.bi .rem (.e 15) (.e 5))<|zi (.ix (.e 2) [] (.e 16))<|zp 1<|zi (.bi .sub (.e 17) (.c (.n 1)))<|zi (.ix (.e 2) [] (.e 13))<|zi (.up 2 [.e 13] (.e 18)) []) (zn 2<|zs 20<|zs 3<|zn 7 [])<|
 .reg (zi (.cy (.e 2))<|zi (.li (.o .v) [])<|zp 2<|zi (.sb false (.e 11) none (some (.e 3)))<|zi (.ap false (.e 12) (.e 13))<|zp 2<|zi (.bi .add (.e 3) (.c (.n 1)))<|zi (.sb false (.e 11) (some (.e 15)) none)<|zi (.ap false (.e 14) (.e 16))<|zp 1 []) (zn 2<|zs 17<|zn 8 []))<|
 zq (zp 1<|zi (.ix (.e 2) [] (.c (.n 0)))<|zp 1<|zi (.bi .eql (.e 11) (.c (.n 1)))<|zp 1<|zg [(12,true)] .nop<|zg [(12,true)] (.ix (.e 2) [] (.c (.n 1)))<|zg [(12,true)] .nop<|zg [(12,true)] (.bi .eql (.e 13) (.c (.n 1)))<|zi (.pk (.e 12) (.e 14) (.c (.b false)))<|zp 1<|zg [(15,true)] .nop<|zg [(15,true)] (.ix (.e 2) [] (.c (.n 2)))<|zg [(15,true)] .nop<|zg [(15,true)] (.bi .eql (.e 16) (.c (.n 1)))<|zi (.pk (.e 15) (.e 17) (.c (.b false)))<|zp 1 []) (zn 1<|zs 18<|zn 9 [])<|
 .ret⟩
def ir_spec_TriangulationOfQuiddity:IF:=⟨[],1,15,[1,2],zq (zi (.cs (.o .v) (.l []))<|zi (.cs .v (.b false)) []) (zs 0<|zn 14 [])<|
 zq (zi (.li (.o .v) [])<|zp 1 []) (zs 0<|zn 2<|zs 15<|zn 11 [])<|
 .seq (zq (zp 1<|zi (.ca 361 [.e 0] 1)<|zi (.un .not (.e 15)) []) (zs 0<|zn 2<|zs 3<|zn 7<|zs 16<|zn 3 [])<|
 .cond 11 (zq (zp 2<|zi (.cs .v (.b false)) []) (zn 1<|zs 3<|zs 15<|zn 12 [])<|
 .ret) .skip)<|
 zq (zi (.li (.o .v) [])<|zp 1<|zi (.ap true (.e 15) (.e 0))<|zp 1 []) (zs 0<|zn 2<|zs 3<|zs 16<|zn 10 [])<|
 zq (zi (.li (.o .v) [])<|zp 1 []) (zs 0<|zn 2<|zs 3<|zs 4<|zs 15<|zn 9 [])<|
 .seq (zq (zi (.cs .v (.n 0)) []) (zs 0<|zn 2<|zs 3<|zs 4<|zs 5<|zs 15<|zn 8 [])<|
 .block 0<|.loop<|.seq (zq (zp 2<|zi (.ln (.e 0) [])<|zi (.bi .lss (.e 6) (.e 15)) []) (zs 0<|zn 2<|zs 3<|zs 4<|zs 5<|zs 6<|zn 5<|zs 16<|zn 2 [])<|
 .cond 12 .skip (.exit 0))<|
 .seq (.block 1<|.reg (zp 2<|zi (.li (.o .v) [.e 6])<|zi (.ap false (.e 5) (.e 15))<|zp 1 []) (zs 0<|zn 2<|zs 3<|zs 4<|zs 16<|zs 6<|zn 8 []))<|
 .reg (zp 1<|zi (.bi .add (.e 6) (.c (.n 1)))<|zp 1 []) (zs 0<|zn 2<|zs 3<|zs 4<|zs 5<|zs 15<|zn 8 []))<|
 .seq (.block 2<|.loop<|.seq (zq (zp 1<|zi (.ln (.e 4) [])<|zi (.bi .gtr (.e 15) (.c (.n 3))) []) (zn 3<|zs 3<|zs 4<|zs 5<|zn 7<|zs 16<|zn 1 [])<|
 .cond 13 .skip (.exit 2))<|
 .block 3<|zq (zi (.cs .v (.n 0)) []) (zn 3<|zs 3<|zs 4<|zs 5<|zn 1<|zs 15<|zn 7 [])<|
 .seq (.block 4<|.loop<|.seq (zq (zp 2<|zi (.ix (.e 4) [] (.e 7))<|zp 1<|zi (.bi .neq (.e 15) (.c (.n 1))) []) (zn 3<|zs 3<|zs 4<|zs 5<|zn 1<|zs 7<|zn 6<|zs 16 [])<|
 .cond 14 .skip (.exit 4))<|
 .block 5<|.reg (zp 1<|zi (.bi .add (.e 7) (.c (.n 1)))<|zp 1 []) (zn 3<|zs 3<|zs 4<|zs 5<|zn 1<|zs 15<|zn 7 []))<|
 zq (zp 1<|zi (.ln (.e 4) [])<|zp 1 []) (zn 3<|zs 3<|zs 4<|zs 5<|zn 1<|zs 7<|zs 15<|zn 6 [])<|
 zq (zp 2<|zi (.bi .add (.e 7) (.c (.n 1)))<|zp 1<|zi (.bi .rem (.e 15) (.e 8))<|zi (.ix (.e 5) [] (.e 16))<|zp 2 []) (zn 3<|zs 3<|zs 4<|zs 5<|zn 1<|zs 7<|zs 8<|zs 17<|zn 5 [])<|
 zq (zp 3<|zi (.bi .add (.e 7) (.e 8))<|zi (.bi .sub (.e 15) (.c (.n 1)))<|zp 1<|zi (.bi .rem (.e 16) (.e 8))<|zi (.ix (.e 5) [] (.e 17))<|zp 2 []) (zn 3<|zs 3<|zs 4<|zs 5<|zn 1<|zs 7<|zs 8<|zs 9<|zs 18<|zn 4 [])<|
 zq (zi (.cy (.e 3))<|zp 2<|zi (.mn (.e 9) (.e 10))<|zp 2<|zi (.mx (.e 9) (.e 10))<|zi (.li (.o .v) [.e 16,.e 17])<|zi (.ca 362 [.e 15,.e 18] 1)<|zp 1 []) (zn 3<|zs 19<|zs 4<|zs 5<|zn 1<|zs 7<|zs 8<|zn 6 [])<|
 zq (zp 2<|zi (.bi .add (.e 7) (.c (.n 1)))<|zp 1<|zi (.bi .rem (.e 15) (.e 8))<|zp 2<|zi (.bi .add (.e 7) (.c (.n 1)))<|zp 1<|zi (.bi .rem (.e 17) (.e 8))<|zi (.ix (.e 4) [] (.e 18))<|zp 1<|zi (.bi .sub (.e 19) (.c (.n 1)))<|zi (.ix (.e 4) [] (.e 16))<|zi (.up 4 [.e 16] (.e 20)) []) (zn 3<|zs 3<|zs 22<|zs 5<|zn 1<|zs 7<|zs 8<|zn 6 [])<|
 zq (zp 3<|zi (.bi .add (.e 7) (.e 8))<|zi (.bi .sub (.e 15) (.c (.n 1)))<|zp 1<|zi (.bi .rem (.e 16) (.e 8))<|zp 3<|zi (.bi .add (.e 7) (.e 8))<|zi (.bi .sub (.e 18) (.c (.n 1)))<|zp 1<|zi (.bi .rem (.e 19) (.e 8))<|zi (.ix (.e 4) [] (.e 20))<|zp 1<|zi (.bi .sub (.e 21) (.c (.n 1)))<|zi (.ix (.e 4) [] (.e 17))<|zi (.up 4 [.e 17] (.e 22)) []) (zn 3<|zs 3<|zs 24<|zs 5<|zn 1<|zs 7<|zn 7 [])<|
 zq (zi (.cy (.e 4))<|zi (.li (.o .v) [])<|zp 2<|zi (.sb false (.e 15) none (some (.e 7)))<|zi (.ap false (.e 16) (.e 17))<|zp 2<|zi (.bi .add (.e 7) (.c (.n 1)))<|zi (.sb false (.e 15) (some (.e 19)) none)<|zi (.ap false (.e 18) (.e 20))<|zp 1 []) (zn 3<|zs 3<|zs 21<|zs 5<|zn 1<|zs 7<|zn 7 [])<|
 .reg (zi (.cy (.e 5))<|zi (.li (.o .v) [])<|zp 2<|zi (.sb false (.e 15) none (some (.e 7)))<|zi (.ap false (.e 16) (.e 17))<|zp 2<|zi (.bi .add (.e 7) (.c (.n 1)))<|zi (.sb false (.e 15) (some (.e 19)) none)<|zi (.ap false (.e 18) (.e 20))<|zp 1 []) (zn 3<|zs 3<|zs 4<|zs 21<|zn 9 []))<|
 zq (zp 2<|zi (.cs .v (.b true)) []) (zn 1<|zs 3<|zs 15<|zn 12 [])<|
 .ret⟩
def ir_spec_l22Fine:IF:=⟨[],1,5,[1],zq (zi (.cs .v (.b false)) []) (zs 0<|zn 4 [])<|
 .seq (zq (zi (.cs .v (.n 0)) []) (zs 0<|zn 1<|zs 5<|zn 2 [])<|
 .block 0<|.loop<|.seq (zq (zp 2<|zi (.ln (.e 0) [])<|zi (.bi .lss (.e 2) (.e 5)) []) (zs 0<|zn 1<|zs 2<|zs 6<|zn 1 [])<|
 .cond 3 .skip (.exit 0))<|
 .seq (.block 1<|zq (zp 2<|zi (.iy (.e 0) (.e 2))<|zp 1<|zi (.ca 22 [.e 5,.c (.n 1),.c (.n 100)] 1)<|zi (.un .not (.e 6)) []) (zs 0<|zn 1<|zs 2<|zn 1<|zs 7 [])<|
 .cond 4 (zq (zi (.cs .v (.b false)) []) (zn 1<|zs 5<|zn 3 [])<|
 .ret) .skip)<|
 .reg (zp 1<|zi (.bi .add (.e 2) (.c (.n 1)))<|zp 1 []) (zs 0<|zn 1<|zs 5<|zn 2 []))<|
 zq (zp 1<|zi (.ln (.e 0) [])<|zi (.ca 22 [.e 5,.c (.n 3),.c (.n 10)] 1)<|zp 1 []) (zn 1<|zs 6<|zn 3 [])<|
 .ret⟩
end Go.Cat
namespace Go.Cat
def ir_spec_ClaimOfFrieze:IF:=⟨[(0,7)],1,6,[1,2],zq (zi (.cs (.b .v) (.g [.n 0,.s [],.s [],.l [],.l [],.l [],.l []]))<|zi (.cs .v (.b false)) []) (zs 0<|zs 6<|zn 4 [])<|
 zq (zp 1<|zi (.ca 345 [.e 0] 2)<|zp 5 []) (zs 0<|zs 1<|zn 1<|zs 6<|zs 7<|zn 1 [])<|
 .seq (zq (zp 1<|zi (.un .not (.e 4)) []) (zs 0<|zs 1<|zn 1<|zs 3<|zn 1<|zs 6 [])<|
 .cond 5 (zq (zi (.bg 0 [(.c (.n 0),0),(.c (.s []),0),(.c (.s []),0),(.c (.l []),1),(.c (.l []),1),(.c (.l []),1),(.c (.l []),1)])<|zi (.ws 1 7 (.e 6))<|zi (.cs .v (.b false)) []) (zn 1<|zs 7<|zs 8<|zn 3 [])<|
 .ret) .skip)<|
 zq (zi (.li (.o .v) [])<|zp 1<|zi (.ap true (.e 6) (.e 0))<|zp 1<|zi (.bg 0 [(.c (.n 5),0),(.c (.s []),0),(.c (.s []),0),(.c (.l []),1),(.e 7,0),(.c (.l []),1),(.e 3,0)])<|zi (.ws 1 7 (.e 8))<|zi (.cs .v (.b true)) []) (zn 1<|zs 9<|zs 10<|zn 3 [])<|
 .ret⟩
end Go.Cat
namespace Go.Cat
end Go.Cat
namespace Go.Cat
end Go.Cat
namespace Go.Cat
end Go.Cat
namespace Go.Cat
end Go.Cat
namespace Go.Cat
end Go.Cat
namespace Go.Cat
end Go.Cat
namespace Go.Cat
end Go.Cat
namespace Go.Cat
end Go.Cat
namespace Go.Cat
end Go.Cat
namespace Go.Cat
end Go.Cat
namespace Go.Cat
end Go.Cat
namespace Go.Cat
end Go.Cat
namespace Go.Cat
end Go.Cat
namespace Go.Cat
end Go.Cat
namespace Go.Cat
end Go.Cat
namespace Go.Cat
end Go.Cat
namespace Go.Cat
end Go.Cat
namespace Go.Cat
end Go.Cat
namespace Go.Cat
end Go.Cat
namespace Go.Cat
end Go.Cat
namespace Go.Cat
end Go.Cat
namespace Go.Cat
end Go.Cat
namespace Go.Cat
end Go.Cat
namespace Go.Cat
end Go.Cat
namespace Go.Cat
end Go.Cat
namespace Go.Cat
end Go.Cat
namespace Go.Cat
end Go.Cat
namespace Go.Cat
end Go.Cat
namespace Go.Cat
end Go.Cat
namespace Go.Cat
end Go.Cat
namespace Go.Cat
end Go.Cat
namespace Go.Cat
end Go.Cat
namespace Go.Cat
end Go.Cat
