/-
 Texts of the little language.
-/
import Derived.Test.YtdaefhflccndlaaGreatCatThree
set_option linter.unusedSimpArgs false
set_option linter.unusedVariables false
namespace Go.Cat
def zn:Nat→List (Option Nat)→List (Option Nat)
 | 0,l=>l
 | k+1,l=>none::zn k l
def zs (n:Nat) (l:List (Option Nat)):List (Option Nat):=some n::l
def zq (a:List It) (b:List (Option Nat)) (s:S):S:=.seq (.reg a b) s
def zi (p:Pr) (l:List It):List It:=⟨[],[],p⟩::l
def zg (g:List (Nat×Bool)) (p:Pr) (l:List It):List It:=⟨[],g,p⟩::l
def zp:Nat→List It→List It
 | 0,l=>l
 | k+1,l=>⟨[],[],.nop⟩::zp k l
def ir_cmp_Compare_int_:IF:=⟨[],2,10,[2],zq (zi (.cs .v (.n 0)) []) (zs 0<|zs 1<|zn 8 [])<|
 zq (zp 1<|zi (.ca 211 [.e 0] 1)<|zp 1 []) (zs 0<|zs 1<|zn 1<|zs 10<|zn 6 [])<|
 zq (zp 1<|zi (.ca 211 [.e 1] 1)<|zp 1 []) (zs 0<|zs 1<|zn 1<|zs 3<|zs 10<|zn 5 [])<|
 .seq (zq (zp 1 []) (zs 0<|zs 1<|zn 2<|zs 4<|zs 3<|zn 4 [])<|
 .cond 5 (.seq (zq (zp 1 []) (zn 6<|zs 4<|zn 3 [])<|
 .cond 6 (zq (zi (.cs .v (.n 0)) []) (zn 2<|zs 10<|zn 7 [])<|
 .ret) .skip)<|
 zq (zi (.cs .v (.n (-1))) []) (zn 2<|zs 10<|zn 7 [])<|
 .ret) .skip)<|
 .seq (zq (zp 1 []) (zs 0<|zs 1<|zn 5<|zs 4<|zn 2 [])<|
 .cond 7 (zq (zi (.cs .v (.n 1)) []) (zn 2<|zs 10<|zn 7 [])<|
 .ret) .skip)<|
 .seq (zq (zp 2<|zi (.bi .lss (.e 0) (.e 1)) []) (zs 0<|zs 1<|zn 6<|zs 10<|zn 1 [])<|
 .cond 8 (zq (zi (.cs .v (.n (-1))) []) (zn 2<|zs 10<|zn 7 [])<|
 .ret) .skip)<|
 .seq (zq (zp 2<|zi (.bi .gtr (.e 0) (.e 1)) []) (zn 9<|zs 10 [])<|
 .cond 9 (zq (zi (.cs .v (.n 1)) []) (zn 2<|zs 10<|zn 7 [])<|
 .ret) .skip)<|
 zq (zi (.cs .v (.n 0)) []) (zn 2<|zs 10<|zn 7 [])<|
 .ret⟩
def ir_cmp_isNaN_int_:IF:=⟨[],1,2,[1],zq (zi (.cs .v (.b false)) []) (zs 0<|zn 1 [])<|
 zq (zp 2<|zi (.bi .neq (.e 0) (.e 0))<|zp 1 []) (zn 1<|zs 2 [])<|
 .ret⟩
def ir_impl_tree_nodes:IF:=⟨[],1,3,[1],zq (zi (.cs .v (.n 0)) []) (zs 0<|zn 2 [])<|
 .seq (zq (zp 1<|zi (.nz true (.e 0)) []) (zs 0<|zn 1<|zs 3 [])<|
 .cond 2 (zq (zi (.cs .v (.n 0)) []) (zn 1<|zs 3<|zn 1 [])<|
 .ret) .skip)<|
 zq (zp 1<|zi (.nn (.e 0))<|zi (.fp false (.e 3) 0)<|zp 1<|zi (.ca 197 [.e 4] 1)<|zp 1<|zi (.nn (.e 0))<|zi (.fp false (.e 6) 1)<|zp 1<|zi (.ca 197 [.e 7] 1)<|zi (.bi .add (.e 5) (.e 8))<|zi (.bi .add (.e 9) (.c (.n 1)))<|zp 1 []) (zn 1<|zs 10<|zn 1 [])<|
 .ret⟩
def ir_impl_tree_text:IF:=⟨[],1,3,[1],zq (zi (.cs .v (.s [])) []) (zs 0<|zn 2 [])<|
 .seq (zq (zp 1<|zi (.nz true (.e 0)) []) (zs 0<|zn 1<|zs 3 [])<|
 .cond 2 (zq (zi (.cs .v (.s [46])) []) (zn 1<|zs 3<|zn 1 [])<|
 .ret) .skip)<|
 zq (zp 1<|zi (.nn (.e 0))<|zi (.fp false (.e 3) 0)<|zp 1<|zi (.ca 196 [.e 4] 1)<|zi (.bi .add (.c (.s [40])) (.e 5))<|zp 1<|zi (.nn (.e 0))<|zi (.fp false (.e 7) 1)<|zp 1<|zi (.ca 196 [.e 8] 1)<|zi (.bi .add (.e 6) (.e 9))<|zi (.bi .add (.e 10) (.c (.s [41])))<|zp 1 []) (zn 1<|zs 11<|zn 1 [])<|
 .ret⟩
def ir_impl_tree_triangles:IF:=⟨[],5,11,[5,6],zq (zi (.cs (.o .v) (.l []))<|zi (.cs (.o .v) (.l [])) []) (zs 0<|zs 1<|zs 2<|zs 3<|zs 4<|zn 6 [])<|
 .seq (zq (zp 1<|zi (.nz true (.e 0)) []) (zs 0<|zs 1<|zs 2<|zs 3<|zs 4<|zn 3<|zs 11<|zn 2 [])<|
 .cond 8 (zq (zp 4 []) (zn 5<|zs 3<|zs 4<|zn 4 [])<|
 .ret) .skip)<|
 zq (zp 2<|zi (.nn (.e 0))<|zi (.fp false (.e 11) 0)<|zp 1<|zi (.ca 197 [.e 12] 1)<|zi (.bi .add (.e 1) (.e 13))<|zi (.bi .add (.e 14) (.c (.n 1)))<|zp 1 []) (zs 0<|zs 1<|zs 2<|zs 3<|zs 4<|zn 2<|zs 15<|zn 3 [])<|
 zq (zp 4<|zi (.li (.o .v) [.e 1,.e 7,.e 2])<|zi (.li (.o .v) [.e 11])<|zi (.ap false (.e 3) (.e 12))<|zp 1 []) (zs 0<|zs 1<|zs 2<|zs 13<|zs 4<|zn 2<|zs 7<|zn 3 [])<|
 .seq (zq (zp 1<|zi (.nn (.e 0))<|zi (.fp false (.e 11) 0)<|zp 1<|zi (.nz false (.e 12)) []) (zs 0<|zs 1<|zs 2<|zs 3<|zs 4<|zn 2<|zs 7<|zn 1<|zs 13<|zn 1 [])<|
 .cond 9 (.reg (zp 3<|zi (.li (.o .v) [.e 1,.e 7])<|zi (.li (.o .v) [.e 11])<|zi (.ap false (.e 4) (.e 12))<|zp 1 []) (zs 0<|zs 1<|zs 2<|zs 3<|zs 13<|zn 2<|zs 7<|zn 3 [])) .skip)<|
 .seq (zq (zp 1<|zi (.nn (.e 0))<|zi (.fp false (.e 11) 1)<|zp 1<|zi (.nz false (.e 12)) []) (zs 0<|zs 1<|zs 2<|zs 3<|zs 4<|zn 2<|zs 7<|zn 2<|zs 13 [])<|
 .cond 10 (.reg (zp 3<|zi (.li (.o .v) [.e 7,.e 2])<|zi (.li (.o .v) [.e 11])<|zi (.ap false (.e 4) (.e 12))<|zp 1 []) (zs 0<|zs 1<|zs 2<|zs 3<|zs 13<|zn 2<|zs 7<|zn 3 [])) .skip)<|
 zq (zp 1<|zi (.nn (.e 0))<|zi (.fp false (.e 11) 0)<|zp 5<|zi (.ca 541 [.e 12,.e 1,.e 7,.e 3,.e 4] 2)<|zp 5 []) (zs 0<|zn 1<|zs 2<|zs 13<|zs 14<|zn 2<|zs 7<|zn 3 [])<|
 zq (zp 1<|zi (.nn (.e 0))<|zi (.fp false (.e 11) 1)<|zp 5<|zi (.ca 541 [.e 12,.e 7,.e 2,.e 3,.e 4] 2)<|zp 4 []) (zn 5<|zs 13<|zs 14<|zn 4 [])<|
 .ret⟩
def ir_math_bits_Len:IF:=⟨[],1,2,[1],zq (zi (.cs .v (.n 0)) []) (zs 0<|zn 1 [])<|
 .seq .skip<|
 zq (zp 1<|zi (.ca 391 [.e 0] 1)<|zp 1 []) (zn 1<|zs 2 [])<|
 .ret⟩
def ir_math_bits_Len32:IF:=⟨[],1,4,[1],zq (zi (.cs .v (.n 0)) []) (zs 0<|zs 4<|zn 2 [])<|
 .seq (zq (zp 1<|zi (.bi .geq (.e 0) (.c (.i .u32 65536))) []) (zs 0<|zs 1<|zs 4<|zn 1 [])<|
 .cond 2 (zq (zp 1<|zi (.bi .shr (.e 0) (.c (.i .u64 16)))<|zp 1 []) (zs 4<|zn 3 [])<|
 .reg (zi (.cs .v (.n 16)) []) (zs 0<|zs 4<|zn 2 [])) .skip)<|
 .seq (zq (zp 1<|zi (.bi .geq (.e 0) (.c (.i .u32 256))) []) (zs 0<|zs 1<|zn 1<|zs 4 [])<|
 .cond 3 (zq (zp 1<|zi (.bi .shr (.e 0) (.c (.i .u64 8)))<|zp 1 []) (zs 4<|zs 1<|zn 2 [])<|
 .reg (zp 1<|zi (.bi .add (.e 1) (.c (.n 8)))<|zp 1 []) (zs 0<|zs 4<|zn 2 [])) .skip)<|
 zq (zp 2<|zi (.cv .u8 (.e 0))<|zi (.sx (.c (.s [0,1,2,2,3,3,3,3,4,4,4,4,4,4,4,4,5,5,5,5,5,5,5,5,5,5,5,5,5,5,5,5,6,6,6,6,6,6,6,6,6,6,6,6,6,6,6,6,6,6,6,6,6,6,6,6,6,6,6,6,6,6,6,6,7,7,7,7,7,7,7,7,7,7,7,7,7,7,7,7,7,7,7,7,7,7,7,7,7,7,7,7,7,7,7,7,7,7,7,7,7,7,7,7,7,7,7,7,7,7,7,7,7,7,7,7,7,7,7,7,7,7,7,7,7,7,7,7,8,8,8,8,8,8,8,8,8,8,8,8,8,8,8,8,8,8,8,8,8,8,8,8,8,8,8,8,8,8,8,8,8,8,8,8,8,8,8,8,8,8,8,8,8,8,8,8,8,8,8,8,8,8,8,8,8,8,8,8,8,8,8,8,8,8,8,8,8,8,8,8,8,8,8,8,8,8,8,8,8,8,8,8,8,8,8,8,8,8,8,8,8,8,8,8,8,8,8,8,8,8,8,8,8,8,8,8,8,8,8,8,8,8,8,8,8,8,8,8,8,8,8,8,8,8,8,8])) (.e 4))<|zi (.cv .i64 (.e 5))<|zi (.bi .add (.e 1) (.e 6))<|zp 1 []) (zn 1<|zs 7<|zn 2 [])<|
 .ret⟩
def ir_math_bits_Len64:IF:=⟨[],1,5,[1],zq (zi (.cs .v (.n 0)) []) (zs 0<|zs 5<|zn 3 [])<|
 .seq (zq (zp 1<|zi (.bi .geq (.e 0) (.c (.i .u64 4294967296))) []) (zs 0<|zs 1<|zs 5<|zn 2 [])<|
 .cond 2 (zq (zp 1<|zi (.bi .shr (.e 0) (.c (.i .u64 32)))<|zp 1 []) (zs 5<|zn 4 [])<|
 .reg (zi (.cs .v (.n 32)) []) (zs 0<|zs 5<|zn 3 [])) .skip)<|
 .seq (zq (zp 1<|zi (.bi .geq (.e 0) (.c (.i .u64 65536))) []) (zs 0<|zs 1<|zn 1<|zs 5<|zn 1 [])<|
 .cond 3 (zq (zp 1<|zi (.bi .shr (.e 0) (.c (.i .u64 16)))<|zp 1 []) (zs 5<|zs 1<|zn 3 [])<|
 .reg (zp 1<|zi (.bi .add (.e 1) (.c (.n 16)))<|zp 1 []) (zs 0<|zs 5<|zn 3 [])) .skip)<|
 .seq (zq (zp 1<|zi (.bi .geq (.e 0) (.c (.i .u64 256))) []) (zs 0<|zs 1<|zn 2<|zs 5 [])<|
 .cond 4 (zq (zp 1<|zi (.bi .shr (.e 0) (.c (.i .u64 8)))<|zp 1 []) (zs 5<|zs 1<|zn 3 [])<|
 .reg (zp 1<|zi (.bi .add (.e 1) (.c (.n 8)))<|zp 1 []) (zs 0<|zs 5<|zn 3 [])) .skip)<|
 zq (zp 2<|zi (.cv .u8 (.e 0))<|zi (.sx (.c (.s [0,1,2,2,3,3,3,3,4,4,4,4,4,4,4,4,5,5,5,5,5,5,5,5,5,5,5,5,5,5,5,5,6,6,6,6,6,6,6,6,6,6,6,6,6,6,6,6,6,6,6,6,6,6,6,6,6,6,6,6,6,6,6,6,7,7,7,7,7,7,7,7,7,7,7,7,7,7,7,7,7,7,7,7,7,7,7,7,7,7,7,7,7,7,7,7,7,7,7,7,7,7,7,7,7,7,7,7,7,7,7,7,7,7,7,7,7,7,7,7,7,7,7,7,7,7,7,7,8,8,8,8,8,8,8,8,8,8,8,8,8,8,8,8,8,8,8,8,8,8,8,8,8,8,8,8,8,8,8,8,8,8,8,8,8,8,8,8,8,8,8,8,8,8,8,8,8,8,8,8,8,8,8,8,8,8,8,8,8,8,8,8,8,8,8,8,8,8,8,8,8,8,8,8,8,8,8,8,8,8,8,8,8,8,8,8,8,8,8,8,8,8,8,8,8,8,8,8,8,8,8,8,8,8,8,8,8,8,8,8,8,8,8,8,8,8,8,8,8,8,8,8,8,8,8,8])) (.e 5))<|zi (.cv .i64 (.e 6))<|zi (.bi .add (.e 1) (.e 7))<|zp 1 []) (zn 1<|zs 8<|zn 3 [])<|
 .ret⟩
def ir_slices_Compare___int_int_:IF:=⟨[],2,14,[2],zq (zi (.cs .v (.n 0)) []) (zs 0<|zs 1<|zn 12 [])<|
 .seq (zq (zp 1<|zi (.ln (.e 0) [])<|zi (.cs .v (.n 0)) []) (zs 0<|zs 1<|zn 5<|zs 0<|zs 14<|zs 15<|zn 4 [])<|
 .block 0<|.loop<|zq (zi (.bi .lss (.e 9) (.e 8)) []) (zs 0<|zs 1<|zn 5<|zs 7<|zs 8<|zs 9<|zs 14<|zn 3 [])<|
 .seq (.cond 10 .skip (.exit 0))<|
 .seq (.block 1<|zq (zp 1<|zi (.iy (.e 7) (.e 9))<|zp 3 []) (zs 0<|zs 1<|zn 1<|zs 9<|zs 14<|zn 2<|zs 7<|zs 8<|zs 9<|zn 4 [])<|
 .seq (zq (zp 2<|zi (.ln (.e 1) [])<|zi (.bi .geq (.e 3) (.e 14)) []) (zs 0<|zs 1<|zn 1<|zs 3<|zs 4<|zn 2<|zs 7<|zs 8<|zs 9<|zn 1<|zs 15<|zn 2 [])<|
 .cond 11 (zq (zi (.cs .v (.n 1)) []) (zn 2<|zs 14<|zn 11 [])<|
 .ret) .skip)<|
 zq (zp 2<|zi (.iy (.e 1) (.e 3))<|zp 2 []) (zs 0<|zs 1<|zn 2<|zs 4<|zs 14<|zn 1<|zs 7<|zs 8<|zs 9<|zn 4 [])<|
 zq (zp 2<|zi (.ca 377 [.e 4,.e 5] 1)<|zp 1 []) (zs 0<|zs 1<|zn 4<|zs 14<|zs 7<|zs 8<|zs 9<|zn 4 [])<|
 zq (zp 1<|zi (.bi .neq (.e 6) (.c (.n 0))) []) (zs 0<|zs 1<|zn 4<|zs 6<|zs 7<|zs 8<|zs 9<|zn 2<|zs 14<|zn 1 [])<|
 .cond 12 (zq (zp 2 []) (zn 2<|zs 6<|zn 11 [])<|
 .ret) .skip)<|
 .reg (zi (.bi .add (.e 9) (.c (.n 1)))<|zp 1 []) (zs 0<|zs 1<|zn 5<|zs 7<|zs 8<|zs 14<|zn 4 []))<|
 .seq (zq (zp 1<|zi (.ln (.e 0) [])<|zp 1<|zi (.ln (.e 1) [])<|zi (.bi .lss (.e 14) (.e 15)) []) (zn 13<|zs 16 [])<|
 .cond 13 (zq (zi (.cs .v (.n (-1))) []) (zn 2<|zs 14<|zn 11 [])<|
 .ret) .skip)<|
 zq (zi (.cs .v (.n 0)) []) (zn 2<|zs 14<|zn 11 [])<|
 .ret⟩
def ir_slices_SortFunc_____int___int_:IF:=⟨[],2,3,[0],zq (zp 1<|zi (.ln (.e 0) [])<|zp 1 []) (zs 0<|zs 1<|zs 3 [])<|
 .reg (zp 3<|zi (.cv .u64 (.e 2))<|zi (.ca 376 [.e 3] 1)<|zp 1<|zi (.ca 375 [.e 0,.c (.n 0),.e 2,.e 4,.e 1] 1) []) (zs 5<|zn 2 [])⟩
def ir_slices_heapSortCmpFunc___int_:IF:=⟨[],4,11,[0],zq (zp 2 []) (zs 0<|zs 1<|zs 2<|zs 3<|zs 1<|zn 6 [])<|
 zq (zi (.cs .v (.n 0)) []) (zs 0<|zs 1<|zs 2<|zs 3<|zs 4<|zs 11<|zn 5 [])<|
 zq (zp 2<|zi (.bi .sub (.e 2) (.e 1))<|zp 1 []) (zs 0<|zn 2<|zs 3<|zs 4<|zs 5<|zs 11<|zn 4 [])<|
 .seq (zq (zp 1<|zi (.bi .sub (.e 6) (.c (.n 1)))<|zi (.bi .quo (.e 11) (.c (.n 2)))<|zp 1 []) (zs 0<|zn 2<|zs 3<|zs 4<|zs 5<|zs 6<|zs 12<|zn 3 [])<|
 .block 0<|.loop<|.seq (zq (zp 1<|zi (.bi .geq (.e 7) (.c (.n 0))) []) (zs 0<|zn 2<|zs 3<|zs 4<|zs 5<|zs 6<|zs 7<|zn 1<|zs 11<|zn 1 [])<|
 .cond 9 .skip (.exit 0))<|
 .seq (.block 1<|.reg (zp 5<|zi (.ca 392 [.e 0,.e 7,.e 6,.e 4,.e 3] 1) []) (zs 11<|zn 2<|zs 3<|zs 4<|zs 5<|zs 6<|zs 7<|zn 3 []))<|
 .reg (zp 1<|zi (.bi .sub (.e 7) (.c (.n 1)))<|zp 1 []) (zs 0<|zn 2<|zs 3<|zs 4<|zs 5<|zs 6<|zs 11<|zn 3 []))<|
 zq (zp 1<|zi (.bi .sub (.e 6) (.c (.n 1)))<|zp 1 []) (zs 0<|zn 2<|zs 3<|zs 4<|zs 5<|zn 2<|zs 11<|zn 2 [])<|
 .block 2<|.loop<|.seq (zq (zp 1<|zi (.bi .geq (.e 8) (.c (.n 0))) []) (zs 0<|zn 2<|zs 3<|zs 4<|zs 5<|zn 2<|zs 8<|zn 1<|zs 11 [])<|
 .cond 10 .skip (.exit 2))<|
 .seq (.block 3<|zq (zp 5<|zi (.bi .add (.e 4) (.e 8))<|zp 3<|zi (.bi .add (.e 4) (.e 8))<|zi (.ix (.e 0) [] (.e 12))<|zp 3<|zi (.ix (.e 0) [] (.e 4))<|zp 1<|zi (.ix (.e 0) [] (.e 4))<|zi (.up 0 [.e 4] (.e 13))<|zi (.ix (.e 16) [] (.e 11))<|zi (.up 16 [.e 11] (.e 14)) []) (zs 18<|zn 2<|zs 3<|zs 4<|zs 5<|zn 2<|zs 8<|zn 2 [])<|
 .reg (zp 5<|zi (.ca 392 [.e 0,.e 5,.e 8,.e 4,.e 3] 1) []) (zs 11<|zn 2<|zs 3<|zs 4<|zs 5<|zn 2<|zs 8<|zn 2 []))<|
 .reg (zp 1<|zi (.bi .sub (.e 8) (.c (.n 1)))<|zp 1 []) (zs 0<|zn 2<|zs 3<|zs 4<|zs 5<|zn 2<|zs 11<|zn 2 [])⟩
def ir_slices_insertionSortCmpFunc___int_:IF:=⟨[],4,8,[0],zq (zp 1<|zi (.bi .add (.e 1) (.c (.n 1)))<|zp 1 []) (zs 0<|zs 1<|zs 2<|zs 3<|zs 8<|zn 3 [])<|
 .block 0<|.loop<|.seq (zq (zp 2<|zi (.bi .lss (.e 4) (.e 2)) []) (zs 0<|zs 1<|zs 2<|zs 3<|zs 4<|zn 1<|zs 8<|zn 1 [])<|
 .cond 6 .skip (.exit 0))<|
 .seq (.block 1<|zq (zp 2 []) (zs 0<|zs 1<|zs 2<|zs 3<|zs 4<|zs 4<|zn 2 [])<|
 .block 2<|.loop<|.seq (zq (zp 2<|zi (.bi .gtr (.e 5) (.e 1))<|zp 1<|zg [(8,true)] (.cy (.e 3))<|zg [(8,true)] .nop<|zg [(8,true)] (.cy (.e 5))<|zg [(8,true)] (.ix (.e 0) [] (.e 10))<|zg [(8,true)] .nop<|zg [(8,true)] .nop<|zg [(8,true)] (.cy (.e 5))<|zg [(8,true)] (.bi .sub (.e 12) (.c (.n 1)))<|zg [(8,true)] (.ix (.e 0) [] (.e 13))<|zg [(8,true)] .nop<|zg [(8,true)] (.cd (.e 9) 364 [.e 11,.e 14] 1)<|zg [(8,true)] (.bi .lss (.e 15) (.c (.n 0)))<|zi (.pk (.e 8) (.e 16) (.c (.b false))) []) (zs 0<|zs 1<|zs 2<|zs 3<|zs 4<|zs 5<|zn 1<|zs 17 [])<|
 .cond 7 .skip (.exit 2))<|
 .seq (.block 3<|.reg (zp 4<|zi (.bi .sub (.e 5) (.c (.n 1)))<|zp 2<|zi (.bi .sub (.e 5) (.c (.n 1)))<|zi (.ix (.e 0) [] (.e 9))<|zp 3<|zi (.ix (.e 0) [] (.e 5))<|zp 1<|zi (.ix (.e 0) [] (.e 5))<|zi (.up 0 [.e 5] (.e 10))<|zi (.ix (.e 13) [] (.e 8))<|zi (.up 13 [.e 8] (.e 11)) []) (zs 15<|zs 1<|zs 2<|zs 3<|zs 4<|zs 5<|zn 2 []))<|
 .reg (zp 1<|zi (.bi .sub (.e 5) (.c (.n 1)))<|zp 1 []) (zs 0<|zs 1<|zs 2<|zs 3<|zs 4<|zs 8<|zn 2 []))<|
 .reg (zp 1<|zi (.bi .add (.e 4) (.c (.n 1)))<|zp 1 []) (zs 0<|zs 1<|zs 2<|zs 3<|zs 8<|zn 3 [])⟩
def ir_slices_partialInsertionSortCmpFunc___int_:IF:=⟨[],4,19,[4,0],zq (zi (.cs .v (.b false)) []) (zs 0<|zs 1<|zs 2<|zs 3<|zn 15 [])<|
 zq (zp 1<|zi (.bi .add (.e 1) (.c (.n 1)))<|zp 1 []) (zs 0<|zs 1<|zs 2<|zs 3<|zn 1<|zs 19<|zn 13 [])<|
 .seq (zq (zi (.cs .v (.n 0)) []) (zs 0<|zs 1<|zs 2<|zs 3<|zn 1<|zs 5<|zs 19<|zn 12 [])<|
 .block 0<|.loop<|.seq (zq (zp 1<|zi (.bi .lss (.e 6) (.c (.n 5))) []) (zs 0<|zs 1<|zs 2<|zs 3<|zn 1<|zs 5<|zs 6<|zn 2<|zs 19<|zn 9 [])<|
 .cond 9 .skip (.exit 0))<|
 .seq (.block 1<|.seq (.block 2<|.loop<|.seq (zq (zp 2<|zi (.bi .lss (.e 5) (.e 2))<|zp 1<|zg [(19,true)] (.cy (.e 3))<|zg [(19,true)] .nop<|zg [(19,true)] (.cy (.e 5))<|zg [(19,true)] (.ix (.e 0) [] (.e 21))<|zg [(19,true)] .nop<|zg [(19,true)] .nop<|zg [(19,true)] (.cy (.e 5))<|zg [(19,true)] (.bi .sub (.e 23) (.c (.n 1)))<|zg [(19,true)] (.ix (.e 0) [] (.e 24))<|zg [(19,true)] .nop<|zg [(19,true)] (.cd (.e 20) 364 [.e 22,.e 25] 1)<|zg [(19,true)] (.bi .lss (.e 26) (.c (.n 0)))<|zg [(19,true)] (.un .not (.e 27))<|zi (.pk (.e 19) (.e 28) (.c (.b false))) []) (zs 0<|zs 1<|zs 2<|zs 3<|zn 1<|zs 5<|zs 6<|zn 3<|zs 29<|zn 8 [])<|
 .cond 10 .skip (.exit 2))<|
 .block 3<|.reg (zp 1<|zi (.bi .add (.e 5) (.c (.n 1)))<|zp 1 []) (zs 0<|zs 1<|zs 2<|zs 3<|zn 1<|zs 19<|zs 6<|zn 12 []))<|
 .seq (zq (zp 2<|zi (.bi .eql (.e 5) (.e 2)) []) (zs 0<|zs 1<|zs 2<|zs 3<|zn 1<|zs 5<|zs 6<|zn 4<|zs 19<|zn 7 [])<|
 .cond 11 (zq (zi (.cs .v (.b true)) []) (zs 0<|zn 3<|zs 19<|zn 14 [])<|
 .ret) .skip)<|
 .seq (zq (zp 2<|zi (.bi .sub (.e 2) (.e 1))<|zi (.bi .lss (.e 19) (.c (.n 50))) []) (zs 0<|zs 1<|zs 2<|zs 3<|zn 1<|zs 5<|zs 6<|zn 5<|zs 20<|zn 6 [])<|
 .cond 12 (zq (zi (.cs .v (.b false)) []) (zs 0<|zn 3<|zs 19<|zn 14 [])<|
 .ret) .skip)<|
 zq (zp 4<|zi (.bi .sub (.e 5) (.c (.n 1)))<|zp 2<|zi (.bi .sub (.e 5) (.c (.n 1)))<|zi (.ix (.e 0) [] (.e 20))<|zp 3<|zi (.ix (.e 0) [] (.e 5))<|zp 1<|zi (.ix (.e 0) [] (.e 5))<|zi (.up 0 [.e 5] (.e 21))<|zi (.ix (.e 24) [] (.e 19))<|zi (.up 24 [.e 19] (.e 22)) []) (zs 26<|zs 1<|zs 2<|zs 3<|zn 1<|zs 5<|zs 6<|zn 12 [])<|
 .seq (zq (zp 2<|zi (.bi .sub (.e 5) (.e 1))<|zi (.bi .geq (.e 19) (.c (.n 2))) []) (zs 0<|zs 1<|zs 2<|zs 3<|zn 1<|zs 5<|zs 6<|zn 6<|zs 20<|zn 5 [])<|
 .cond 13 (zq (zp 1<|zi (.bi .sub (.e 5) (.c (.n 1)))<|zp 1 []) (zs 0<|zs 1<|zs 2<|zs 3<|zn 1<|zs 5<|zs 6<|zs 19<|zn 11 [])<|
 .block 4<|.loop<|.seq (zq (zp 1<|zi (.bi .geq (.e 7) (.c (.n 1))) []) (zs 0<|zs 1<|zs 2<|zs 3<|zn 1<|zs 5<|zs 6<|zs 7<|zn 6<|zs 19<|zn 4 [])<|
 .cond 14 .skip (.exit 4))<|
 .seq (.block 5<|.seq (zq (zp 3<|zi (.ix (.e 0) [] (.e 7))<|zp 3<|zi (.bi .sub (.e 7) (.c (.n 1)))<|zi (.ix (.e 0) [] (.e 20))<|zp 1<|zi (.cd (.e 3) 364 [.e 19,.e 21] 1)<|zi (.bi .lss (.e 22) (.c (.n 0)))<|zi (.un .not (.e 23)) []) (zs 0<|zs 1<|zs 2<|zs 3<|zn 1<|zs 5<|zs 6<|zs 7<|zn 7<|zs 24<|zn 3 [])<|
 .cond 15 (.exit 4) .skip)<|
 .reg (zp 4<|zi (.bi .sub (.e 7) (.c (.n 1)))<|zp 2<|zi (.bi .sub (.e 7) (.c (.n 1)))<|zi (.ix (.e 0) [] (.e 20))<|zp 3<|zi (.ix (.e 0) [] (.e 7))<|zp 1<|zi (.ix (.e 0) [] (.e 7))<|zi (.up 0 [.e 7] (.e 21))<|zi (.ix (.e 24) [] (.e 19))<|zi (.up 24 [.e 19] (.e 22)) []) (zs 26<|zs 1<|zs 2<|zs 3<|zn 1<|zs 5<|zs 6<|zs 7<|zn 11 []))<|
 .reg (zp 1<|zi (.bi .sub (.e 7) (.c (.n 1)))<|zp 1 []) (zs 0<|zs 1<|zs 2<|zs 3<|zn 1<|zs 5<|zs 6<|zs 19<|zn 11 [])) .skip)<|
 zq (zp 2<|zi (.bi .sub (.e 2) (.e 5))<|zi (.bi .geq (.e 19) (.c (.n 2))) []) (zs 0<|zs 1<|zs 2<|zs 3<|zn 1<|zs 5<|zs 6<|zn 9<|zs 20<|zn 2 [])<|
 .cond 16 (zq (zp 1<|zi (.bi .add (.e 5) (.c (.n 1)))<|zp 1 []) (zs 0<|zs 1<|zs 2<|zs 3<|zn 1<|zs 5<|zs 6<|zn 1<|zs 19<|zn 10 [])<|
 .block 6<|.loop<|.seq (zq (zp 2<|zi (.bi .lss (.e 8) (.e 2)) []) (zs 0<|zs 1<|zs 2<|zs 3<|zn 1<|zs 5<|zs 6<|zn 1<|zs 8<|zn 8<|zs 19<|zn 1 [])<|
 .cond 17 .skip (.exit 6))<|
 .seq (.block 7<|.seq (zq (zp 3<|zi (.ix (.e 0) [] (.e 8))<|zp 3<|zi (.bi .sub (.e 8) (.c (.n 1)))<|zi (.ix (.e 0) [] (.e 20))<|zp 1<|zi (.cd (.e 3) 364 [.e 19,.e 21] 1)<|zi (.bi .lss (.e 22) (.c (.n 0)))<|zi (.un .not (.e 23)) []) (zs 0<|zs 1<|zs 2<|zs 3<|zn 1<|zs 5<|zs 6<|zn 1<|zs 8<|zn 9<|zs 24 [])<|
 .cond 18 (.exit 6) .skip)<|
 .reg (zp 4<|zi (.bi .sub (.e 8) (.c (.n 1)))<|zp 2<|zi (.bi .sub (.e 8) (.c (.n 1)))<|zi (.ix (.e 0) [] (.e 20))<|zp 3<|zi (.ix (.e 0) [] (.e 8))<|zp 1<|zi (.ix (.e 0) [] (.e 8))<|zi (.up 0 [.e 8] (.e 21))<|zi (.ix (.e 24) [] (.e 19))<|zi (.up 24 [.e 19] (.e 22)) []) (zs 26<|zs 1<|zs 2<|zs 3<|zn 1<|zs 5<|zs 6<|zn 1<|zs 8<|zn 10 []))<|
 .reg (zp 1<|zi (.bi .add (.e 8) (.c (.n 1)))<|zp 1 []) (zs 0<|zs 1<|zs 2<|zs 3<|zn 1<|zs 5<|zs 6<|zn 1<|zs 19<|zn 10 [])) .skip)<|
 .reg (zp 1<|zi (.bi .add (.e 6) (.c (.n 1)))<|zp 1 []) (zs 0<|zs 1<|zs 2<|zs 3<|zn 1<|zs 5<|zs 19<|zn 12 []))<|
 zq (zi (.cs .v (.b false)) []) (zs 0<|zn 3<|zs 19<|zn 14 [])<|
 .ret⟩
def ir_slices_partitionCmpFunc___int_:IF:=⟨[],5,15,[5,6,0],zq (zi (.cs .v (.n 0))<|zi (.cs .v (.b false)) []) (zs 0<|zs 1<|zs 2<|zs 3<|zs 4<|zn 10 [])<|
 zq (zp 6<|zi (.ix (.e 0) [] (.e 3))<|zp 3<|zi (.ix (.e 0) [] (.e 1))<|zp 1<|zi (.ix (.e 0) [] (.e 1))<|zi (.up 0 [.e 1] (.e 15))<|zi (.ix (.e 18) [] (.e 3))<|zi (.up 18 [.e 3] (.e 16)) []) (zs 20<|zs 1<|zs 2<|zn 1<|zs 4<|zn 10 [])<|
 zq (zp 1<|zi (.bi .add (.e 1) (.c (.n 1)))<|zp 1<|zi (.bi .sub (.e 2) (.c (.n 1)))<|zp 2 []) (zs 0<|zs 1<|zn 2<|zs 4<|zn 2<|zs 15<|zs 16<|zn 6 [])<|
 .seq (.block 0<|.loop<|.seq (zq (zp 2<|zi (.bi .leq (.e 7) (.e 8))<|zp 1<|zg [(15,true)] (.cy (.e 4))<|zg [(15,true)] .nop<|zg [(15,true)] (.cy (.e 7))<|zg [(15,true)] (.ix (.e 0) [] (.e 17))<|zg [(15,true)] .nop<|zg [(15,true)] .nop<|zg [(15,true)] (.cy (.e 1))<|zg [(15,true)] (.ix (.e 0) [] (.e 19))<|zg [(15,true)] .nop<|zg [(15,true)] (.cd (.e 16) 364 [.e 18,.e 20] 1)<|zg [(15,true)] (.bi .lss (.e 21) (.c (.n 0)))<|zi (.pk (.e 15) (.e 22) (.c (.b false))) []) (zs 0<|zs 1<|zn 2<|zs 4<|zn 2<|zs 7<|zs 8<|zs 23<|zn 5 [])<|
 .cond 9 .skip (.exit 0))<|
 .block 1<|.reg (zp 1<|zi (.bi .add (.e 7) (.c (.n 1)))<|zp 1 []) (zs 0<|zs 1<|zn 2<|zs 4<|zn 2<|zs 15<|zs 8<|zn 6 []))<|
 .seq (.block 2<|.loop<|.seq (zq (zp 2<|zi (.bi .leq (.e 7) (.e 8))<|zp 1<|zg [(15,true)] (.cy (.e 4))<|zg [(15,true)] .nop<|zg [(15,true)] (.cy (.e 8))<|zg [(15,true)] (.ix (.e 0) [] (.e 17))<|zg [(15,true)] .nop<|zg [(15,true)] .nop<|zg [(15,true)] (.cy (.e 1))<|zg [(15,true)] (.ix (.e 0) [] (.e 19))<|zg [(15,true)] .nop<|zg [(15,true)] (.cd (.e 16) 364 [.e 18,.e 20] 1)<|zg [(15,true)] (.bi .lss (.e 21) (.c (.n 0)))<|zg [(15,true)] (.un .not (.e 22))<|zi (.pk (.e 15) (.e 23) (.c (.b false))) []) (zs 0<|zs 1<|zn 2<|zs 4<|zn 2<|zs 7<|zs 8<|zn 1<|zs 24<|zn 4 [])<|
 .cond 10 .skip (.exit 2))<|
 .block 3<|.reg (zp 1<|zi (.bi .sub (.e 8) (.c (.n 1)))<|zp 1 []) (zs 0<|zs 1<|zn 2<|zs 4<|zn 2<|zs 7<|zs 15<|zn 6 []))<|
 .seq (zq (zp 2<|zi (.bi .gtr (.e 7) (.e 8)) []) (zs 0<|zs 1<|zn 2<|zs 4<|zn 2<|zs 7<|zs 8<|zn 2<|zs 15<|zn 3 [])<|
 .cond 11 (zq (zp 6<|zi (.ix (.e 0) [] (.e 1))<|zp 3<|zi (.ix (.e 0) [] (.e 8))<|zp 1<|zi (.ix (.e 0) [] (.e 8))<|zi (.up 0 [.e 8] (.e 15))<|zi (.ix (.e 18) [] (.e 1))<|zi (.up 18 [.e 1] (.e 16)) []) (zs 20<|zn 7<|zs 8<|zn 6 [])<|
 zq (zp 2<|zi (.cs .v (.b true)) []) (zs 0<|zn 4<|zs 8<|zs 15<|zn 8 [])<|
 .ret) .skip)<|
 zq (zp 6<|zi (.ix (.e 0) [] (.e 8))<|zp 3<|zi (.ix (.e 0) [] (.e 7))<|zp 1<|zi (.ix (.e 0) [] (.e 7))<|zi (.up 0 [.e 7] (.e 15))<|zi (.ix (.e 18) [] (.e 8))<|zi (.up 18 [.e 8] (.e 16)) []) (zs 20<|zs 1<|zn 2<|zs 4<|zn 2<|zs 7<|zs 8<|zn 6 [])<|
 zq (zp 1<|zi (.bi .add (.e 7) (.c (.n 1)))<|zp 1 []) (zs 0<|zs 1<|zn 2<|zs 4<|zn 2<|zs 15<|zs 8<|zn 6 [])<|
 zq (zp 1<|zi (.bi .sub (.e 8) (.c (.n 1)))<|zp 1 []) (zs 0<|zs 1<|zn 2<|zs 4<|zn 2<|zs 7<|zs 15<|zn 6 [])<|
 .seq (.block 4<|.loop<|.block 5<|.seq (.block 6<|.loop<|.seq (zq (zp 2<|zi (.bi .leq (.e 7) (.e 8))<|zp 1<|zg [(15,true)] (.cy (.e 4))<|zg [(15,true)] .nop<|zg [(15,true)] (.cy (.e 7))<|zg [(15,true)] (.ix (.e 0) [] (.e 17))<|zg [(15,true)] .nop<|zg [(15,true)] .nop<|zg [(15,true)] (.cy (.e 1))<|zg [(15,true)] (.ix (.e 0) [] (.e 19))<|zg [(15,true)] .nop<|zg [(15,true)] (.cd (.e 16) 364 [.e 18,.e 20] 1)<|zg [(15,true)] (.bi .lss (.e 21) (.c (.n 0)))<|zi (.pk (.e 15) (.e 22) (.c (.b false))) []) (zs 0<|zs 1<|zn 2<|zs 4<|zn 2<|zs 7<|zs 8<|zn 3<|zs 23<|zn 2 [])<|
 .cond 12 .skip (.exit 6))<|
 .block 7<|.reg (zp 1<|zi (.bi .add (.e 7) (.c (.n 1)))<|zp 1 []) (zs 0<|zs 1<|zn 2<|zs 4<|zn 2<|zs 15<|zs 8<|zn 6 []))<|
 .seq (.block 8<|.loop<|.seq (zq (zp 2<|zi (.bi .leq (.e 7) (.e 8))<|zp 1<|zg [(15,true)] (.cy (.e 4))<|zg [(15,true)] .nop<|zg [(15,true)] (.cy (.e 8))<|zg [(15,true)] (.ix (.e 0) [] (.e 17))<|zg [(15,true)] .nop<|zg [(15,true)] .nop<|zg [(15,true)] (.cy (.e 1))<|zg [(15,true)] (.ix (.e 0) [] (.e 19))<|zg [(15,true)] .nop<|zg [(15,true)] (.cd (.e 16) 364 [.e 18,.e 20] 1)<|zg [(15,true)] (.bi .lss (.e 21) (.c (.n 0)))<|zg [(15,true)] (.un .not (.e 22))<|zi (.pk (.e 15) (.e 23) (.c (.b false))) []) (zs 0<|zs 1<|zn 2<|zs 4<|zn 2<|zs 7<|zs 8<|zn 4<|zs 24<|zn 1 [])<|
 .cond 13 .skip (.exit 8))<|
 .block 9<|.reg (zp 1<|zi (.bi .sub (.e 8) (.c (.n 1)))<|zp 1 []) (zs 0<|zs 1<|zn 2<|zs 4<|zn 2<|zs 7<|zs 15<|zn 6 []))<|
 .seq (zq (zp 2<|zi (.bi .gtr (.e 7) (.e 8)) []) (zs 0<|zs 1<|zn 2<|zs 4<|zn 2<|zs 7<|zs 8<|zn 5<|zs 15 [])<|
 .cond 14 (.exit 4) .skip)<|
 zq (zp 6<|zi (.ix (.e 0) [] (.e 8))<|zp 3<|zi (.ix (.e 0) [] (.e 7))<|zp 1<|zi (.ix (.e 0) [] (.e 7))<|zi (.up 0 [.e 7] (.e 15))<|zi (.ix (.e 18) [] (.e 8))<|zi (.up 18 [.e 8] (.e 16)) []) (zs 20<|zs 1<|zn 2<|zs 4<|zn 2<|zs 7<|zs 8<|zn 6 [])<|
 zq (zp 1<|zi (.bi .add (.e 7) (.c (.n 1)))<|zp 1 []) (zs 0<|zs 1<|zn 2<|zs 4<|zn 2<|zs 15<|zs 8<|zn 6 [])<|
 .reg (zp 1<|zi (.bi .sub (.e 8) (.c (.n 1)))<|zp 1 []) (zs 0<|zs 1<|zn 2<|zs 4<|zn 2<|zs 7<|zs 15<|zn 6 []))<|
 zq (zp 6<|zi (.ix (.e 0) [] (.e 1))<|zp 3<|zi (.ix (.e 0) [] (.e 8))<|zp 1<|zi (.ix (.e 0) [] (.e 8))<|zi (.up 0 [.e 8] (.e 15))<|zi (.ix (.e 18) [] (.e 1))<|zi (.up 18 [.e 1] (.e 16)) []) (zs 20<|zn 7<|zs 8<|zn 6 [])<|
 zq (zp 2<|zi (.cs .v (.b false)) []) (zs 0<|zn 4<|zs 8<|zs 15<|zn 8 [])<|
 .ret⟩
def ir_slices_partitionEqualCmpFunc___int_:IF:=⟨[],5,11,[5,0],zq (zi (.cs .v (.n 0)) []) (zs 0<|zs 1<|zs 2<|zs 3<|zs 4<|zn 6 [])<|
 zq (zp 6<|zi (.ix (.e 0) [] (.e 3))<|zp 3<|zi (.ix (.e 0) [] (.e 1))<|zp 1<|zi (.ix (.e 0) [] (.e 1))<|zi (.up 0 [.e 1] (.e 11))<|zi (.ix (.e 14) [] (.e 3))<|zi (.up 14 [.e 3] (.e 12)) []) (zs 16<|zs 1<|zs 2<|zn 1<|zs 4<|zn 6 [])<|
 zq (zp 1<|zi (.bi .add (.e 1) (.c (.n 1)))<|zp 1<|zi (.bi .sub (.e 2) (.c (.n 1)))<|zp 2 []) (zs 0<|zs 1<|zn 2<|zs 4<|zn 1<|zs 11<|zs 12<|zn 3 [])<|
 .seq (.block 0<|.loop<|.block 1<|.seq (.block 2<|.loop<|.seq (zq (zp 2<|zi (.bi .leq (.e 6) (.e 7))<|zp 1<|zg [(11,true)] (.cy (.e 4))<|zg [(11,true)] .nop<|zg [(11,true)] (.cy (.e 1))<|zg [(11,true)] (.ix (.e 0) [] (.e 13))<|zg [(11,true)] .nop<|zg [(11,true)] .nop<|zg [(11,true)] (.cy (.e 6))<|zg [(11,true)] (.ix (.e 0) [] (.e 15))<|zg [(11,true)] .nop<|zg [(11,true)] (.cd (.e 12) 364 [.e 14,.e 16] 1)<|zg [(11,true)] (.bi .lss (.e 17) (.c (.n 0)))<|zg [(11,true)] (.un .not (.e 18))<|zi (.pk (.e 11) (.e 19) (.c (.b false))) []) (zs 0<|zs 1<|zn 2<|zs 4<|zn 1<|zs 6<|zs 7<|zs 20<|zn 2 [])<|
 .cond 8 .skip (.exit 2))<|
 .block 3<|.reg (zp 1<|zi (.bi .add (.e 6) (.c (.n 1)))<|zp 1 []) (zs 0<|zs 1<|zn 2<|zs 4<|zn 1<|zs 11<|zs 7<|zn 3 []))<|
 .seq (.block 4<|.loop<|.seq (zq (zp 2<|zi (.bi .leq (.e 6) (.e 7))<|zp 1<|zg [(11,true)] (.cy (.e 4))<|zg [(11,true)] .nop<|zg [(11,true)] (.cy (.e 1))<|zg [(11,true)] (.ix (.e 0) [] (.e 13))<|zg [(11,true)] .nop<|zg [(11,true)] .nop<|zg [(11,true)] (.cy (.e 7))<|zg [(11,true)] (.ix (.e 0) [] (.e 15))<|zg [(11,true)] .nop<|zg [(11,true)] (.cd (.e 12) 364 [.e 14,.e 16] 1)<|zg [(11,true)] (.bi .lss (.e 17) (.c (.n 0)))<|zi (.pk (.e 11) (.e 18) (.c (.b false))) []) (zs 0<|zs 1<|zn 2<|zs 4<|zn 1<|zs 6<|zs 7<|zn 1<|zs 19<|zn 1 [])<|
 .cond 9 .skip (.exit 4))<|
 .block 5<|.reg (zp 1<|zi (.bi .sub (.e 7) (.c (.n 1)))<|zp 1 []) (zs 0<|zs 1<|zn 2<|zs 4<|zn 1<|zs 6<|zs 11<|zn 3 []))<|
 .seq (zq (zp 2<|zi (.bi .gtr (.e 6) (.e 7)) []) (zs 0<|zs 1<|zn 2<|zs 4<|zn 1<|zs 6<|zs 7<|zn 2<|zs 11 [])<|
 .cond 10 (.exit 0) .skip)<|
 zq (zp 6<|zi (.ix (.e 0) [] (.e 7))<|zp 3<|zi (.ix (.e 0) [] (.e 6))<|zp 1<|zi (.ix (.e 0) [] (.e 6))<|zi (.up 0 [.e 6] (.e 11))<|zi (.ix (.e 14) [] (.e 7))<|zi (.up 14 [.e 7] (.e 12)) []) (zs 16<|zs 1<|zn 2<|zs 4<|zn 1<|zs 6<|zs 7<|zn 3 [])<|
 zq (zp 1<|zi (.bi .add (.e 6) (.c (.n 1)))<|zp 1 []) (zs 0<|zs 1<|zn 2<|zs 4<|zn 1<|zs 11<|zs 7<|zn 3 [])<|
 .reg (zp 1<|zi (.bi .sub (.e 7) (.c (.n 1)))<|zp 1 []) (zs 0<|zs 1<|zn 2<|zs 4<|zn 1<|zs 6<|zs 11<|zn 3 []))<|
 zq (zp 2 []) (zs 0<|zn 4<|zs 6<|zn 5 [])<|
 .ret⟩
def ir_slices_pdqsortCmpFunc___int_:IF:=⟨[],5,24,[0],zq (zi (.cs .v (.b true)) []) (zs 0<|zs 1<|zs 2<|zs 3<|zs 4<|zs 24<|zn 18 [])<|
 zq (zi (.cs .v (.b true)) []) (zs 0<|zs 1<|zs 2<|zs 3<|zs 4<|zs 5<|zs 24<|zn 17 [])<|
 .block 0<|.loop<|.block 1<|zq (zp 2<|zi (.bi .sub (.e 2) (.e 1))<|zp 1 []) (zs 0<|zs 1<|zs 2<|zs 3<|zs 4<|zs 5<|zs 6<|zs 24<|zn 16 [])<|
 .seq (zq (zp 1<|zi (.bi .leq (.e 7) (.c (.n 12))) []) (zs 0<|zs 1<|zs 2<|zs 3<|zs 4<|zs 5<|zs 6<|zs 7<|zn 8<|zs 24<|zn 7 [])<|
 .cond 16 (zq (zp 4<|zi (.ca 382 [.e 0,.e 1,.e 2,.e 4] 1) []) (zs 24<|zn 23 [])<|
 .ret) .skip)<|
 .seq (zq (zp 1<|zi (.bi .eql (.e 3) (.c (.n 0))) []) (zs 0<|zs 1<|zs 2<|zs 3<|zs 4<|zs 5<|zs 6<|zs 7<|zn 9<|zs 24<|zn 6 [])<|
 .cond 17 (zq (zp 4<|zi (.ca 383 [.e 0,.e 1,.e 2,.e 4] 1) []) (zs 24<|zn 23 [])<|
 .ret) .skip)<|
 .seq (zq (zp 1<|zi (.un .not (.e 5)) []) (zs 0<|zs 1<|zs 2<|zs 3<|zs 4<|zs 5<|zs 6<|zs 7<|zn 10<|zs 24<|zn 5 [])<|
 .cond 18 (zq (zp 4<|zi (.ca 384 [.e 0,.e 1,.e 2,.e 4] 1) []) (zs 24<|zs 1<|zs 2<|zs 3<|zs 4<|zs 5<|zs 6<|zs 7<|zn 16 [])<|
 .reg (zp 1<|zi (.bi .sub (.e 3) (.c (.n 1)))<|zp 1 []) (zs 0<|zs 1<|zs 2<|zs 24<|zs 4<|zs 5<|zs 6<|zs 7<|zn 16 [])) .skip)<|
 zq (zp 4<|zi (.ca 385 [.e 0,.e 1,.e 2,.e 4] 2)<|zp 5 []) (zs 0<|zs 1<|zs 2<|zs 3<|zs 4<|zs 5<|zs 6<|zs 7<|zs 24<|zs 25<|zn 14 [])<|
 .seq (zq (zp 1<|zi (.bi .eql (.e 9) (.c (.n 2))) []) (zs 0<|zs 1<|zs 2<|zs 3<|zs 4<|zs 5<|zs 6<|zs 7<|zs 8<|zs 9<|zn 9<|zs 24<|zn 4 [])<|
 .cond 19 (zq (zp 4<|zi (.ca 386 [.e 0,.e 1,.e 2,.e 4] 1) []) (zs 24<|zs 1<|zs 2<|zs 3<|zs 4<|zs 5<|zs 6<|zs 7<|zs 8<|zn 15 [])<|
 zq (zp 1<|zi (.bi .sub (.e 2) (.c (.n 1)))<|zp 2<|zi (.bi .sub (.e 8) (.e 1))<|zi (.bi .sub (.e 24) (.e 25))<|zp 1 []) (zs 0<|zs 1<|zs 2<|zs 3<|zs 4<|zs 5<|zs 6<|zs 7<|zs 26<|zn 15 [])<|
 .reg (zi (.cs .v (.n 1)) []) (zs 0<|zs 1<|zs 2<|zs 3<|zs 4<|zs 5<|zs 6<|zs 7<|zs 8<|zs 24<|zn 14 [])) .skip)<|
 .seq (zq (zp 2<|zg [(5,true)] (.cy (.e 6))<|zi (.pk (.e 5) (.e 24) (.c (.b false)))<|zp 1<|zg [(25,true)] (.cy (.e 9))<|zg [(25,true)] (.bi .eql (.e 26) (.c (.n 1)))<|zi (.pk (.e 25) (.e 27) (.c (.b false))) []) (zs 0<|zs 1<|zs 2<|zs 3<|zs 4<|zs 5<|zs 6<|zs 7<|zs 8<|zn 11<|zs 28<|zn 3 [])<|
 .cond 20 (zq (zp 4<|zi (.ca 387 [.e 0,.e 1,.e 2,.e 4] 2) []) (zs 25<|zs 1<|zs 2<|zs 3<|zs 4<|zs 5<|zs 6<|zs 7<|zs 8<|zn 12<|zs 24<|zn 2 [])<|
 .cond 21 .ret .skip) .skip)<|
 .seq (zq (zp 1<|zi (.bi .gtr (.e 1) (.c (.n 0)))<|zp 1<|zg [(24,true)] (.cy (.e 4))<|zg [(24,true)] .nop<|zg [(24,true)] (.cy (.e 1))<|zg [(24,true)] (.bi .sub (.e 26) (.c (.n 1)))<|zg [(24,true)] (.ix (.e 0) [] (.e 27))<|zg [(24,true)] .nop<|zg [(24,true)] .nop<|zg [(24,true)] (.cy (.e 8))<|zg [(24,true)] (.ix (.e 0) [] (.e 29))<|zg [(24,true)] .nop<|zg [(24,true)] (.cd (.e 25) 364 [.e 28,.e 30] 1)<|zg [(24,true)] (.bi .lss (.e 31) (.c (.n 0)))<|zg [(24,true)] (.un .not (.e 32))<|zi (.pk (.e 24) (.e 33) (.c (.b false))) []) (zs 0<|zs 1<|zs 2<|zs 3<|zs 4<|zs 5<|zs 6<|zs 7<|zs 8<|zn 13<|zs 34<|zn 1 [])<|
 .cond 22 (zq (zp 5<|zi (.ca 388 [.e 0,.e 1,.e 2,.e 8,.e 4] 2)<|zp 1 []) (zs 25<|zn 1<|zs 2<|zs 3<|zs 4<|zs 5<|zs 6<|zn 3<|zs 24<|zn 13 [])<|
 zq (zp 2 []) (zs 0<|zs 10<|zs 2<|zs 3<|zs 4<|zs 5<|zs 6<|zn 17 [])<|
 .exit 1) .skip)<|
 zq (zp 5<|zi (.ca 389 [.e 0,.e 1,.e 2,.e 8,.e 4] 3)<|zp 5 []) (zs 26<|zs 1<|zs 2<|zs 3<|zs 4<|zn 2<|zs 7<|zn 3<|zs 24<|zs 25<|zn 11 [])<|
 zq (zp 2 []) (zs 0<|zs 1<|zs 2<|zs 3<|zs 4<|zn 1<|zs 12<|zs 7<|zn 3<|zs 11<|zn 12 [])<|
 zq (zp 2<|zi (.bi .sub (.e 11) (.e 1))<|zp 2<|zi (.bi .sub (.e 2) (.e 11))<|zp 2 []) (zs 0<|zs 1<|zs 2<|zs 3<|zs 4<|zn 1<|zs 6<|zs 7<|zn 3<|zs 11<|zn 1<|zs 24<|zs 25<|zn 9 [])<|
 zq (zp 1<|zi (.bi .quo (.e 7) (.c (.n 8)))<|zp 1 []) (zs 0<|zs 1<|zs 2<|zs 3<|zs 4<|zn 1<|zs 6<|zn 4<|zs 11<|zn 1<|zs 13<|zs 14<|zs 24<|zn 8 [])<|
 zq (zp 2<|zi (.bi .lss (.e 13) (.e 14)) []) (zs 0<|zs 1<|zs 2<|zs 3<|zs 4<|zn 1<|zs 6<|zn 4<|zs 11<|zn 1<|zs 13<|zs 14<|zs 15<|zn 7<|zs 24 [])<|
 .cond 23 (zq (zp 2<|zi (.bi .geq (.e 13) (.e 15))<|zp 1 []) (zs 0<|zs 1<|zs 2<|zs 3<|zs 4<|zs 24<|zs 6<|zn 4<|zs 11<|zn 12 [])<|
 zq (zp 5<|zi (.ca 375 [.e 0,.e 1,.e 11,.e 3,.e 4] 1) []) (zs 24<|zn 1<|zs 2<|zs 3<|zs 4<|zs 5<|zs 6<|zn 4<|zs 11<|zn 12 [])<|
 .reg (zp 1<|zi (.bi .add (.e 11) (.c (.n 1)))<|zp 1 []) (zs 0<|zs 24<|zs 2<|zs 3<|zs 4<|zs 5<|zs 6<|zn 17 [])) (zq (zp 2<|zi (.bi .geq (.e 14) (.e 15))<|zp 1 []) (zs 0<|zs 1<|zs 2<|zs 3<|zs 4<|zs 24<|zs 6<|zn 4<|zs 11<|zn 12 [])<|
 zq (zp 2<|zi (.bi .add (.e 11) (.c (.n 1)))<|zp 3<|zi (.ca 375 [.e 0,.e 24,.e 2,.e 3,.e 4] 1) []) (zs 25<|zs 1<|zn 1<|zs 3<|zs 4<|zs 5<|zs 6<|zn 4<|zs 11<|zn 12 [])<|
 .reg (zp 2 []) (zs 0<|zs 1<|zs 11<|zs 3<|zs 4<|zs 5<|zs 6<|zn 17 []))⟩
def ir_slices_reverseRangeCmpFunc___int_:IF:=⟨[],4,7,[0],zq (zp 2 []) (zs 0<|zn 1<|zs 2<|zn 1<|zs 1<|zn 2 [])<|
 zq (zp 1<|zi (.bi .sub (.e 2) (.c (.n 1)))<|zp 1 []) (zs 0<|zn 3<|zs 4<|zs 7<|zn 1 [])<|
 .block 0<|.loop<|.seq (zq (zp 2<|zi (.bi .lss (.e 4) (.e 5)) []) (zs 0<|zn 3<|zs 4<|zs 5<|zs 7 [])<|
 .cond 6 .skip (.exit 0))<|
 .block 1<|zq (zp 6<|zi (.ix (.e 0) [] (.e 5))<|zp 3<|zi (.ix (.e 0) [] (.e 4))<|zp 1<|zi (.ix (.e 0) [] (.e 4))<|zi (.up 0 [.e 4] (.e 7))<|zi (.ix (.e 10) [] (.e 5))<|zi (.up 10 [.e 5] (.e 8)) []) (zs 12<|zn 3<|zs 4<|zs 5<|zn 1 [])<|
 zq (zp 1<|zi (.bi .add (.e 4) (.c (.n 1)))<|zp 1 []) (zs 0<|zn 3<|zs 7<|zs 5<|zn 1 [])<|
 .reg (zp 1<|zi (.bi .sub (.e 5) (.c (.n 1)))<|zp 1 []) (zs 0<|zn 3<|zs 4<|zs 7<|zn 1 [])⟩
def ir_slices_siftDownCmpFunc___int_:IF:=⟨[],5,10,[0],zq (zp 2 []) (zs 0<|zn 1<|zs 2<|zs 3<|zs 4<|zs 1<|zn 4 [])<|
 .block 0<|.loop<|.block 1<|zq (zp 1<|zi (.bi .mul (.c (.n 2)) (.e 5))<|zi (.bi .add (.e 10) (.c (.n 1)))<|zp 1 []) (zs 0<|zn 1<|zs 2<|zs 3<|zs 4<|zs 5<|zs 11<|zn 3 [])<|
 .seq (zq (zp 2<|zi (.bi .geq (.e 6) (.e 2)) []) (zs 0<|zn 1<|zs 2<|zs 3<|zs 4<|zs 5<|zs 6<|zs 10<|zn 2 [])<|
 .cond 7 (.exit 0) .skip)<|
 .seq (zq (zp 1<|zi (.bi .add (.e 6) (.c (.n 1)))<|zp 1<|zi (.bi .lss (.e 10) (.e 2))<|zp 1<|zg [(11,true)] (.cy (.e 4))<|zg [(11,true)] .nop<|zg [(11,true)] (.cy (.e 3))<|zg [(11,true)] (.cy (.e 6))<|zg [(11,true)] (.bi .add (.e 13) (.e 14))<|zg [(11,true)] (.ix (.e 0) [] (.e 15))<|zg [(11,true)] .nop<|zg [(11,true)] .nop<|zg [(11,true)] (.cy (.e 3))<|zg [(11,true)] (.cy (.e 6))<|zg [(11,true)] (.bi .add (.e 17) (.e 18))<|zg [(11,true)] (.bi .add (.e 19) (.c (.n 1)))<|zg [(11,true)] (.ix (.e 0) [] (.e 20))<|zg [(11,true)] .nop<|zg [(11,true)] (.cd (.e 12) 364 [.e 16,.e 21] 1)<|zg [(11,true)] (.bi .lss (.e 22) (.c (.n 0)))<|zi (.pk (.e 11) (.e 23) (.c (.b false))) []) (zs 0<|zn 1<|zs 2<|zs 3<|zs 4<|zs 5<|zs 6<|zn 1<|zs 24<|zn 1 [])<|
 .cond 8 (.reg (zp 1<|zi (.bi .add (.e 6) (.c (.n 1)))<|zp 1 []) (zs 0<|zn 1<|zs 2<|zs 3<|zs 4<|zs 5<|zs 10<|zn 3 [])) .skip)<|
 .seq (zq (zp 4<|zi (.bi .add (.e 3) (.e 5))<|zi (.ix (.e 0) [] (.e 10))<|zp 4<|zi (.bi .add (.e 3) (.e 6))<|zi (.ix (.e 0) [] (.e 12))<|zp 1<|zi (.cd (.e 4) 364 [.e 11,.e 13] 1)<|zi (.bi .lss (.e 14) (.c (.n 0)))<|zi (.un .not (.e 15)) []) (zs 0<|zn 1<|zs 2<|zs 3<|zs 4<|zs 5<|zs 6<|zn 2<|zs 16 [])<|
 .cond 9 .ret .skip)<|
 zq (zp 3<|zi (.bi .add (.e 3) (.e 5))<|zp 3<|zi (.bi .add (.e 3) (.e 6))<|zp 3<|zi (.bi .add (.e 3) (.e 6))<|zi (.ix (.e 0) [] (.e 12))<|zp 4<|zi (.bi .add (.e 3) (.e 5))<|zi (.ix (.e 0) [] (.e 14))<|zp 1<|zi (.ix (.e 0) [] (.e 10))<|zi (.up 0 [.e 10] (.e 13))<|zi (.ix (.e 17) [] (.e 11))<|zi (.up 17 [.e 11] (.e 15)) []) (zs 19<|zn 1<|zs 2<|zs 3<|zs 4<|zn 1<|zs 6<|zn 3 [])<|
 .reg (zp 2 []) (zs 0<|zn 1<|zs 2<|zs 3<|zs 4<|zs 6<|zn 4 [])⟩
end Go.Cat
namespace Go.Cat
def ir_impl_FormatInt:IF:=⟨[],1,12,[1],zq (zi (.cs .v (.s [])) []) (zs 0<|zn 11 [])<|
 .seq (zq (zp 1<|zi (.bi .eql (.e 0) (.c (.n 0))) []) (zs 0<|zn 6<|zs 12<|zn 4 [])<|
 .cond 7 (zq (zi (.cs .v (.s [48])) []) (zn 1<|zs 12<|zn 10 [])<|
 .ret) .skip)<|
 zq (zi (.li (.o .v) [])<|zp 1 []) (zs 0<|zn 1<|zs 12<|zn 9 [])<|
 .seq (zq (zp 2 []) (zs 0<|zn 1<|zs 2<|zs 0<|zn 8 [])<|
 .block 0<|.loop<|.seq (zq (zp 1<|zi (.bi .neq (.e 3) (.c (.n 0))) []) (zs 0<|zn 1<|zs 2<|zs 3<|zn 4<|zs 12<|zn 3 [])<|
 .cond 8 .skip (.exit 0))<|
 .seq (.block 1<|zq (zp 1<|zi (.bi .rem (.e 3) (.c (.n 10)))<|zp 1 []) (zs 0<|zn 1<|zs 2<|zs 3<|zs 12<|zn 7 [])<|
 .seq (zq (zp 1<|zi (.bi .lss (.e 4) (.c (.n 0))) []) (zs 0<|zn 1<|zs 2<|zs 3<|zs 4<|zn 4<|zs 12<|zn 2 [])<|
 .cond 9 (.reg (zp 1<|zi (.un .neg (.e 4))<|zp 1 []) (zs 0<|zn 1<|zs 2<|zs 3<|zs 12<|zn 7 [])) .skip)<|
 .reg (zp 2<|zi (.bi .add (.c (.n 48)) (.e 4))<|zi (.cv .u8 (.e 12))<|zi (.li (.o .v) [.e 13])<|zi (.ap false (.e 2) (.e 14))<|zp 1 []) (zs 0<|zn 1<|zs 15<|zs 3<|zn 8 []))<|
 .reg (zp 1<|zi (.bi .quo (.e 3) (.c (.n 10)))<|zp 1 []) (zs 0<|zn 1<|zs 2<|zs 12<|zn 8 []))<|
 .seq (zq (zp 1<|zi (.bi .lss (.e 0) (.c (.n 0))) []) (zn 2<|zs 2<|zn 7<|zs 12<|zn 1 [])<|
 .cond 10 (.reg (zp 1<|zi (.li (.o .v) [.c (.y 45)])<|zi (.ap false (.e 2) (.e 12))<|zp 1 []) (zn 2<|zs 13<|zn 9 [])) .skip)<|
 .seq (zq (zp 1<|zi (.ln (.e 2) [])<|zi (.bi .sub (.e 12) (.c (.n 1)))<|zi (.cs .v (.n 0))<|zp 1 []) (zn 2<|zs 2<|zn 2<|zs 14<|zs 13<|zn 5 [])<|
 .block 2<|.loop<|.seq (zq (zp 2<|zi (.bi .lss (.e 5) (.e 6)) []) (zn 2<|zs 2<|zn 2<|zs 5<|zs 6<|zn 4<|zs 12 [])<|
 .cond 11 .skip (.exit 2))<|
 .seq (.block 3<|.reg (zp 6<|zi (.ix (.e 2) [] (.e 6))<|zp 3<|zi (.ix (.e 2) [] (.e 5))<|zp 1<|zi (.ix (.e 2) [] (.e 5))<|zi (.up 2 [.e 5] (.e 12))<|zi (.ix (.e 15) [] (.e 6))<|zi (.up 15 [.e 6] (.e 13)) []) (zn 2<|zs 17<|zn 2<|zs 5<|zs 6<|zn 5 []))<|
 .reg (zp 1<|zi (.bi .add (.e 5) (.c (.n 1)))<|zp 1<|zi (.bi .sub (.e 6) (.c (.n 1)))<|zp 2 []) (zn 2<|zs 2<|zn 2<|zs 12<|zs 13<|zn 5 []))<|
 zq (zp 1<|zi (.bs (.e 2))<|zp 1 []) (zn 1<|zs 12<|zn 10 [])<|
 .ret⟩
def ir_impl_within:IF:=⟨[],3,4,[3],zq (zi (.cs .v (.b false)) []) (zs 0<|zs 1<|zs 2<|zn 1 [])<|
 zq (zp 2<|zi (.bi .geq (.e 0) (.e 1))<|zp 1<|zg [(4,true)] (.cy (.e 0))<|zg [(4,true)] (.cy (.e 2))<|zg [(4,true)] (.bi .leq (.e 5) (.e 6))<|zi (.pk (.e 4) (.e 7) (.c (.b false)))<|zp 1 []) (zn 3<|zs 8 [])<|
 .ret⟩
end Go.Cat
namespace Go.Cat
def ir_impl_FirstReturn:IF:=⟨[],1,8,[1,2,3],zq (zi (.cs .v (.s []))<|zi (.cs .v (.s []))<|zi (.cs .v (.b false)) []) (zs 0<|zn 7 [])<|
 .seq (zq (zp 1<|zi (.ca 67 [.e 0] 1)<|zi (.un .not (.e 8))<|zp 1<|zg [(9,false)] (.cy (.e 0))<|zg [(9,false)] (.bi .eql (.e 10) (.c (.s [])))<|zi (.pk (.e 9) (.c (.b true)) (.e 11)) []) (zs 0<|zn 5<|zs 12<|zn 1 [])<|
 .cond 6 (zq (zi (.cs .v (.s []))<|zi (.cs .v (.s []))<|zi (.cs .v (.b false)) []) (zn 1<|zs 8<|zs 9<|zs 10<|zn 4 [])<|
 .ret) .skip)<|
 zq (zp 1<|zi (.ca 501 [.e 0] 1)<|zp 1 []) (zs 0<|zn 3<|zs 8<|zn 3 [])<|
 zq (zi (.cs .v (.n 1)) []) (zs 0<|zn 3<|zs 4<|zs 8<|zn 2 [])<|
 .seq (.block 0<|.loop<|.seq (zq (zp 2<|zi (.ix (.e 4) [] (.e 5))<|zp 1<|zi (.bi .neq (.e 8) (.c (.n 0))) []) (zs 0<|zn 3<|zs 4<|zs 5<|zn 1<|zs 9 [])<|
 .cond 7 .skip (.exit 0))<|
 .block 1<|.reg (zp 1<|zi (.bi .add (.e 5) (.c (.n 1)))<|zp 1 []) (zs 0<|zn 3<|zs 4<|zs 8<|zn 2 []))<|
 zq (zp 2<|zi (.bi .sub (.e 5) (.c (.n 1)))<|zi (.ss (.e 0) (some (.c (.n 1))) (some (.e 8)))<|zp 2<|zi (.ss (.e 0) (some (.e 5)) none)<|zp 2<|zi (.cs .v (.b true)) []) (zn 1<|zs 9<|zs 10<|zs 11<|zn 4 [])<|
 .ret⟩
def ir_impl_HeightsOf:IF:=⟨[],1,4,[1],zq (zi (.cs (.o .v) (.l [])) []) (zs 0<|zn 3 [])<|
 .seq (zq (zp 1<|zi (.ca 67 [.e 0] 1)<|zi (.un .not (.e 4)) []) (zs 0<|zn 2<|zs 5 [])<|
 .cond 3 (zq (zi (.li (.o .v) [])<|zp 1 []) (zn 1<|zs 4<|zn 2 [])<|
 .ret) .skip)<|
 zq (zp 1<|zi (.ca 82 [.e 0] 2)<|zp 5 []) (zn 2<|zs 4<|zn 1 [])<|
 zq (zp 2 []) (zn 1<|zs 2<|zn 2 [])<|
 .ret⟩
def ir_impl_IsDyck:IF:=⟨[],1,4,[1],zq (zi (.cs .v (.b false)) []) (zs 0<|zn 3 [])<|
 .seq (zq (zp 1<|zi (.sn (.e 0))<|zi (.bi .gtr (.e 4) (.c (.n 16))) []) (zs 0<|zn 2<|zs 5 [])<|
 .cond 3 (zq (zi (.cs .v (.b false)) []) (zn 1<|zs 4<|zn 2 [])<|
 .ret) .skip)<|
 zq (zp 1<|zi (.ca 82 [.e 0] 2)<|zp 5 []) (zn 2<|zs 5<|zn 1 [])<|
 zq (zp 2 []) (zn 1<|zs 2<|zn 2 [])<|
 .ret⟩
def ir_impl_copyInts:IF:=⟨[],1,2,[1],zq (zi (.cs (.o .v) (.l [])) []) (zs 0<|zn 1 [])<|
 zq (zi (.li (.o .v) [])<|zp 1<|zi (.ap true (.e 2) (.e 0))<|zp 1 []) (zn 1<|zs 3 [])<|
 .ret⟩
def ir_impl_glued:IF:=⟨[],2,11,[2],zq (zi (.cs .v (.s [])) []) (zs 0<|zs 1<|zn 9 [])<|
 zq (zi (.cs .v (.s [])) []) (zs 0<|zs 1<|zn 1<|zs 11<|zn 7 [])<|
 .seq (zq (zp 1<|zi (.ln (.e 0) [])<|zi (.cs .v (.n 0)) []) (zn 1<|zs 1<|zn 1<|zs 3<|zn 2<|zs 0<|zs 11<|zs 12<|zn 2 [])<|
 .block 0<|.loop<|zq (zi (.bi .lss (.e 8) (.e 7)) []) (zn 1<|zs 1<|zn 1<|zs 3<|zn 2<|zs 6<|zs 7<|zs 8<|zs 11<|zn 1 [])<|
 .seq (.cond 9 .skip (.exit 0))<|
 .seq (.block 1<|zq (zp 1<|zi (.iy (.e 6) (.e 8))<|zp 3 []) (zn 1<|zs 1<|zn 1<|zs 3<|zs 8<|zs 11<|zs 6<|zs 7<|zs 8<|zn 2 [])<|
 .seq (zq (zp 1<|zi (.bi .gtr (.e 4) (.c (.n 0))) []) (zn 1<|zs 1<|zn 1<|zs 3<|zn 1<|zs 5<|zs 6<|zs 7<|zs 8<|zn 1<|zs 11 [])<|
 .cond 10 (.reg (zp 2<|zi (.bi .add (.e 3) (.e 1))<|zp 1 []) (zn 1<|zs 1<|zn 1<|zs 11<|zn 1<|zs 5<|zs 6<|zs 7<|zs 8<|zn 2 [])) .skip)<|
 .reg (zp 2<|zi (.bi .add (.e 3) (.e 5))<|zp 1 []) (zn 1<|zs 1<|zn 1<|zs 11<|zn 2<|zs 6<|zs 7<|zs 8<|zn 2 []))<|
 .reg (zi (.bi .add (.e 8) (.c (.n 1)))<|zp 1 []) (zn 1<|zs 1<|zn 1<|zs 3<|zn 2<|zs 6<|zs 7<|zs 11<|zn 2 []))<|
 zq (zp 2 []) (zn 2<|zs 3<|zn 8 [])<|
 .ret⟩
def ir_impl_heights:IF:=⟨[],1,11,[1,2],zq (zi (.cs (.o .v) (.l []))<|zi (.cs .v (.b false)) []) (zs 0<|zn 10 [])<|
 zq (zi (.li (.o .v) [.c (.n 0)])<|zp 1 []) (zs 0<|zn 2<|zs 11<|zn 7 [])<|
 zq (zi (.cs .v (.n 0)) []) (zs 0<|zn 2<|zs 3<|zs 11<|zn 6 [])<|
 .seq (zq (zi (.cs .v (.n 0)) []) (zs 0<|zn 2<|zs 3<|zs 4<|zs 11<|zn 5 [])<|
 .block 0<|.loop<|.seq (zq (zp 2<|zi (.sn (.e 0))<|zi (.bi .lss (.e 5) (.e 11)) []) (zs 0<|zn 2<|zs 3<|zs 4<|zs 5<|zs 12<|zn 4 [])<|
 .cond 6 .skip (.exit 0))<|
 .seq (.block 1<|.seq (zq (zp 2<|zi (.sx (.e 0) (.e 5)) []) (zs 0<|zn 2<|zs 3<|zs 4<|zs 5<|zn 1<|zs 11<|zn 3 [])<|
 .block 2<|zq (zi (.bi .eql (.e 7) (.c (.y 117)))<|zp 1 []) (zs 0<|zn 2<|zs 3<|zs 4<|zs 5<|zn 1<|zs 7<|zs 11<|zn 2 [])<|
 .cond 8 (.reg (zp 1<|zi (.bi .add (.e 4) (.c (.n 1)))<|zp 1 []) (zs 0<|zn 2<|zs 3<|zs 11<|zs 5<|zn 5 [])) (zq (zi (.bi .eql (.e 7) (.c (.y 100)))<|zp 1 []) (zs 0<|zn 2<|zs 3<|zs 4<|zs 5<|zn 3<|zs 11<|zn 1 [])<|
 .cond 9 (.reg (zp 1<|zi (.bi .sub (.e 4) (.c (.n 1)))<|zp 1 []) (zs 0<|zn 2<|zs 3<|zs 11<|zs 5<|zn 5 [])) (zq (zi (.cs (.o .v) (.l []))<|zi (.cs .v (.b false)) []) (zn 1<|zs 11<|zs 12<|zn 8 [])<|
 .ret)))<|
 .seq (zq (zp 1<|zi (.bi .lss (.e 4) (.c (.n 0))) []) (zs 0<|zn 2<|zs 3<|zs 4<|zs 5<|zn 4<|zs 11 [])<|
 .cond 10 (zq (zi (.cs (.o .v) (.l []))<|zi (.cs .v (.b false)) []) (zn 1<|zs 11<|zs 12<|zn 8 [])<|
 .ret) .skip)<|
 .reg (zp 2<|zi (.li (.o .v) [.e 4])<|zi (.ap false (.e 3) (.e 11))<|zp 1 []) (zs 0<|zn 2<|zs 12<|zs 4<|zs 5<|zn 5 []))<|
 .reg (zp 1<|zi (.bi .add (.e 5) (.c (.n 1)))<|zp 1 []) (zs 0<|zn 2<|zs 3<|zs 4<|zs 11<|zn 5 []))<|
 zq (zp 2<|zi (.bi .eql (.e 4) (.c (.n 0)))<|zp 2 []) (zn 1<|zs 3<|zs 11<|zn 8 [])<|
 .ret⟩
end Go.Cat
namespace Go.Cat
def ir_impl_PathsOf:IF:=⟨[],1,3,[1],zq (zi (.cs (.o .v) (.l [])) []) (zs 0<|zn 2 [])<|
 .seq (zq (zp 1<|zi (.ca 23 [.e 0,.c (.n 0),.c (.n 6)] 1)<|zi (.un .not (.e 3)) []) (zs 0<|zn 1<|zs 4 [])<|
 .cond 2 (zq (zi (.li (.o .v) [])<|zp 1 []) (zn 1<|zs 3<|zn 1 [])<|
 .ret) .skip)<|
 zq (zp 1<|zi (.ca 314 [.e 0] 1)<|zp 1 []) (zn 1<|zs 3<|zn 1 [])<|
 .ret⟩
def ir_impl_allPaths:IF:=⟨[],1,4,[1],zq (zi (.cs (.o .v) (.l [])) []) (zs 0<|zn 3 [])<|
 zq (zi (.li (.o .v) [])<|zi (.cs (.b (.o .v)) (.g [.l []]))<|zi (.up 5 [.k 0] (.e 4)) []) (zs 0<|zn 1<|zs 6<|zn 1 [])<|
 zq (zi (.cs (.b .v) (.g [.u])) []) (zs 0<|zn 1<|zs 2<|zs 4 [])<|
 zq (zp 1<|zi (.cb 3)<|zp 3<|zi (.ca 326 [.c (.s []),.e 0,.e 0,.e 2,.e 4] 1) []) (zn 2<|zs 5<|zn 1 [])<|
 zq (zi (.tk 2)<|zp 1 []) (zn 1<|zs 4<|zn 2 [])<|
 .ret⟩
def ir_impl_allPaths_f1:IF:=⟨[],5,8,[3],.seq (zq (zp 1<|zi (.bi .eql (.e 1) (.c (.n 0)))<|zp 1<|zg [(8,true)] (.cy (.e 2))<|zg [(8,true)] (.bi .eql (.e 9) (.c (.n 0)))<|zi (.pk (.e 8) (.e 10) (.c (.b false))) []) (zs 0<|zs 1<|zs 2<|zs 3<|zs 4<|zs 11<|zn 2 [])<|
 .cond 5 (zq (zi (.tk 3)<|zp 1<|zi (.li (.o .v) [.e 0])<|zi (.ap false (.e 8) (.e 10))<|zi (.up 9 [.k 0] (.e 11)) []) (zn 3<|zs 12<|zn 4 [])<|
 .ret) .skip)<|
 .seq (zq (zp 1<|zi (.bi .gtr (.e 1) (.c (.n 0))) []) (zs 0<|zs 1<|zs 2<|zs 3<|zs 4<|zn 1<|zs 8<|zn 1 [])<|
 .cond 6 (.reg (zp 2<|zi (.bi .add (.e 0) (.c (.s [117])))<|zp 1<|zi (.bi .sub (.e 1) (.c (.n 1)))<|zp 1<|zi (.ca 326 [.e 8,.e 9,.e 2,.e 3,.e 4] 1) []) (zs 0<|zs 1<|zs 2<|zs 10<|zs 4<|zn 3 [])) .skip)<|
 zq (zp 2<|zi (.bi .gtr (.e 2) (.e 1)) []) (zs 0<|zs 1<|zs 2<|zs 3<|zs 4<|zn 2<|zs 8 [])<|
 .cond 7 (.reg (zp 2<|zi (.bi .add (.e 0) (.c (.s [100])))<|zp 2<|zi (.bi .sub (.e 2) (.c (.n 1)))<|zi (.ca 326 [.e 8,.e 1,.e 9,.e 3,.e 4] 1) []) (zn 3<|zs 10<|zn 4 [])) .skip⟩
end Go.Cat
namespace Go.Cat
def ir_impl_partners:IF:=⟨[],1,8,[1],zq (zi (.cs (.o .v) (.l [])) []) (zs 0<|zn 7 [])<|
 zq (zp 1<|zi (.sn (.e 0))<|zi (.mk (.n 0) (.e 8) (.e 8))<|zp 1 []) (zs 0<|zn 1<|zs 9<|zn 5 [])<|
 zq (zi (.li (.o .v) [])<|zp 1 []) (zs 0<|zn 1<|zs 2<|zs 8<|zn 4 [])<|
 .seq (zq (zi (.cs .v (.n 0)) []) (zs 0<|zn 1<|zs 2<|zs 3<|zs 8<|zn 3 [])<|
 .block 0<|.loop<|.seq (zq (zp 2<|zi (.sn (.e 0))<|zi (.bi .lss (.e 4) (.e 8)) []) (zs 0<|zn 1<|zs 2<|zs 3<|zs 4<|zn 1<|zs 9<|zn 1 [])<|
 .cond 6 .skip (.exit 0))<|
 .seq (.block 1<|.seq (zq (zp 2<|zi (.sx (.e 0) (.e 4))<|zi (.bi .eql (.e 8) (.c (.y 117))) []) (zs 0<|zn 1<|zs 2<|zs 3<|zs 4<|zn 2<|zs 9 [])<|
 .cond 7 (zq (zp 2<|zi (.li (.o .v) [.e 4])<|zi (.ap false (.e 3) (.e 8))<|zp 1 []) (zs 0<|zn 1<|zs 2<|zs 9<|zs 4<|zn 3 [])<|
 .exit 1) .skip)<|
 zq (zp 2<|zi (.ln (.e 3) [])<|zi (.bi .sub (.e 8) (.c (.n 1)))<|zi (.ix (.e 3) [] (.e 9))<|zp 2 []) (zs 0<|zn 1<|zs 2<|zs 3<|zs 4<|zs 10<|zn 2 [])<|
 zq (zp 2<|zi (.ln (.e 3) [])<|zi (.bi .sub (.e 8) (.c (.n 1)))<|zi (.sb true (.e 3) none (some (.e 9)))<|zp 1 []) (zs 0<|zn 1<|zs 2<|zs 10<|zs 4<|zs 5<|zn 2 [])<|
 zq (zp 3<|zi (.ix (.e 2) [] (.e 4))<|zi (.up 2 [.e 4] (.e 5)) []) (zs 0<|zn 1<|zs 9<|zs 3<|zs 4<|zs 5<|zn 2 [])<|
 .reg (zp 3<|zi (.ix (.e 2) [] (.e 5))<|zi (.up 2 [.e 5] (.e 4)) []) (zs 0<|zn 1<|zs 9<|zs 3<|zs 4<|zn 3 []))<|
 .reg (zp 1<|zi (.bi .add (.e 4) (.c (.n 1)))<|zp 1 []) (zs 0<|zn 1<|zs 2<|zs 3<|zs 8<|zn 3 []))<|
 zq (zp 2 []) (zn 1<|zs 2<|zn 6 [])<|
 .ret⟩
end Go.Cat
namespace Go.Cat
def ir_impl_BinaryOf:IF:=⟨[],1,4,[1,2],zq (zi (.cs .v (.s []))<|zi (.cs .v (.b false)) []) (zs 0<|zn 3 [])<|
 .seq (zq (zp 1<|zi (.ca 67 [.e 0] 1)<|zi (.un .not (.e 4)) []) (zs 0<|zn 2<|zs 5 [])<|
 .cond 3 (zq (zi (.cs .v (.s []))<|zi (.cs .v (.b false)) []) (zn 1<|zs 4<|zs 5<|zn 1 [])<|
 .ret) .skip)<|
 zq (zp 1<|zi (.ca 514 [.e 0] 1)<|zi (.ca 196 [.e 4] 1)<|zp 1<|zi (.cs .v (.b true)) []) (zn 1<|zs 5<|zs 6<|zn 1 [])<|
 .ret⟩
def ir_impl_parseTree:IF:=⟨[],1,7,[1,2],zq (zi (.cs .v .z)<|zi (.cs .v (.b false)) []) (zs 0<|zn 6 [])<|
 .seq (zq (zp 1<|zi (.sn (.e 0))<|zi (.bi .gtr (.e 7) (.c (.n 25))) []) (zs 0<|zn 4<|zs 8<|zn 1 [])<|
 .cond 5 (zq (zi (.cs .v .z)<|zi (.cs .v (.b false)) []) (zn 1<|zs 7<|zs 8<|zn 4 [])<|
 .ret) .skip)<|
 zq (zp 1<|zi (.ca 208 [.e 0,.c (.n 0)] 2)<|zp 5 []) (zs 0<|zn 2<|zs 7<|zs 8<|zn 2 [])<|
 .seq (zq (zp 2<|zi (.sn (.e 0))<|zi (.bi .neq (.e 4) (.e 7))<|zp 1<|zg [(8,false)] (.cy (.e 3))<|zg [(8,false)] (.ca 197 [.e 9] 1)<|zg [(8,false)] (.bi .gtr (.e 10) (.c (.n 8)))<|zi (.pk (.e 8) (.c (.b true)) (.e 11)) []) (zn 3<|zs 3<|zn 2<|zs 12 [])<|
 .cond 6 (zq (zi (.cs .v .z)<|zi (.cs .v (.b false)) []) (zn 1<|zs 7<|zs 8<|zn 4 [])<|
 .ret) .skip)<|
 zq (zp 2<|zi (.cs .v (.b true)) []) (zn 1<|zs 3<|zs 7<|zn 4 [])<|
 .ret⟩
def ir_impl_readTree:IF:=⟨[],2,14,[2,3],zq (zi (.cs .v .z)<|zi (.cs .v (.n 0)) []) (zs 0<|zs 1<|zn 12 [])<|
 .seq (zq (zp 2<|zi (.sn (.e 0))<|zi (.bi .geq (.e 1) (.e 14)) []) (zs 0<|zs 1<|zn 6<|zs 15<|zn 5 [])<|
 .cond 8 (zq (zi (.cs .v .z)<|zi (.cs .v (.n (-1))) []) (zn 2<|zs 14<|zs 15<|zn 10 [])<|
 .ret) .skip)<|
 .seq (zq (zp 2<|zi (.sx (.e 0) (.e 1)) []) (zs 0<|zs 1<|zn 7<|zs 14<|zn 4 [])<|
 .block 0<|zq (zi (.bi .eql (.e 9) (.c (.y 46)))<|zp 1 []) (zs 0<|zs 1<|zn 7<|zs 9<|zs 14<|zn 3 [])<|
 .cond 10 (zq (zp 1<|zi (.bi .add (.e 1) (.c (.n 1)))<|zi (.cs .v .z)<|zp 1 []) (zn 2<|zs 15<|zs 14<|zn 10 [])<|
 .ret) (zq (zi (.bi .eql (.e 9) (.c (.y 40)))<|zp 1 []) (zs 0<|zs 1<|zn 9<|zs 14<|zn 2 [])<|
 .cond 11 (zq (zp 2<|zi (.bi .add (.e 1) (.c (.n 1)))<|zi (.ca 208 [.e 0,.e 14] 2)<|zp 5 []) (zs 0<|zn 3<|zs 15<|zs 16<|zn 8 [])<|
 .seq (zq (zp 1<|zi (.bi .lss (.e 5) (.c (.n 0))) []) (zs 0<|zn 3<|zs 4<|zs 5<|zn 6<|zs 14<|zn 1 [])<|
 .cond 12 (zq (zi (.cs .v .z)<|zi (.cs .v (.n (-1))) []) (zn 2<|zs 14<|zs 15<|zn 10 [])<|
 .ret) .skip)<|
 zq (zp 2<|zi (.ca 208 [.e 0,.e 5] 2)<|zp 5 []) (zs 0<|zn 3<|zs 4<|zn 1<|zs 14<|zs 15<|zn 6 [])<|
 .seq (zq (zp 1<|zi (.bi .lss (.e 7) (.c (.n 0)))<|zp 1<|zg [(14,false)] (.cy (.e 7))<|zg [(14,false)] (.cy (.e 0))<|zg [(14,false)] (.sn (.e 16))<|zg [(14,false)] (.bi .geq (.e 15) (.e 17))<|zi (.pk (.e 14) (.c (.b true)) (.e 18))<|zp 1<|zg [(19,false)] (.cy (.e 0))<|zg [(19,false)] (.cy (.e 7))<|zg [(19,false)] (.sx (.e 20) (.e 21))<|zg [(19,false)] (.bi .neq (.e 22) (.c (.y 41)))<|zi (.pk (.e 19) (.c (.b true)) (.e 23)) []) (zn 4<|zs 4<|zn 1<|zs 6<|zs 7<|zn 5<|zs 24 [])<|
 .cond 13 (zq (zi (.cs .v .z)<|zi (.cs .v (.n (-1))) []) (zn 2<|zs 14<|zs 15<|zn 10 [])<|
 .ret) .skip)<|
 zq (zp 2<|zi (.bg 0 [(.e 4,0),(.e 6,0)])<|zi (.bp (.e 14))<|zp 1<|zi (.bi .add (.e 7) (.c (.n 1)))<|zp 2 []) (zn 2<|zs 15<|zs 16<|zn 10 [])<|
 .ret) .skip))<|
 zq (zi (.cs .v .z)<|zi (.cs .v (.n (-1))) []) (zn 2<|zs 14<|zs 15<|zn 10 [])<|
 .ret⟩
def ir_impl_treeOfPath:IF:=⟨[],1,6,[1],zq (zi (.cs .v .z) []) (zs 0<|zn 5 [])<|
 zq (zp 1<|zi (.ca 519 [.e 0] 3)<|zp 7 []) (zn 2<|zs 6<|zs 7<|zs 8<|zn 1 [])<|
 .seq (zq (zp 1<|zi (.un .not (.e 4)) []) (zn 2<|zs 2<|zs 3<|zn 1<|zs 6 [])<|
 .cond 5 (zq (zi (.cs .v .z) []) (zn 1<|zs 6<|zn 4 [])<|
 .ret) .skip)<|
 zq (zp 1<|zi (.ca 514 [.e 2] 1)<|zp 1<|zi (.ca 514 [.e 3] 1)<|zi (.bg 0 [(.e 6,0),(.e 7,0)])<|zi (.bp (.e 8))<|zp 1 []) (zn 1<|zs 9<|zn 4 [])<|
 .ret⟩
end Go.Cat
namespace Go.Cat
def ir_impl_FormatDiagonals:IF:=⟨[],1,11,[1],zq (zi (.cs .v (.s [])) []) (zs 0<|zn 10 [])<|
 .seq (zq (zp 1<|zi (.ln (.e 0) [])<|zi (.bi .eql (.e 11) (.c (.n 0))) []) (zs 0<|zn 3<|zs 12<|zn 6 [])<|
 .cond 4 (zq (zi (.cs .v (.s [110,111,110,101])) []) (zn 1<|zs 11<|zn 9 [])<|
 .ret) .skip)<|
 .seq (zq (zp 1<|zi (.ln (.e 0) [])<|zi (.bi .gtr (.e 11) (.c (.n 20))) []) (zs 0<|zn 4<|zs 12<|zn 5 [])<|
 .cond 5 (zq (zi (.cs .v (.s [])) []) (zn 1<|zs 11<|zn 9 [])<|
 .ret) .skip)<|
 zq (zi (.li (.o .v) [])<|zp 1 []) (zs 0<|zn 1<|zs 11<|zn 8 [])<|
 .seq (zq (zp 1<|zi (.ln (.e 0) [])<|zi (.cs .v (.n 0)) []) (zn 2<|zs 2<|zn 3<|zs 0<|zs 11<|zs 12<|zn 2 [])<|
 .block 0<|.loop<|zq (zi (.bi .lss (.e 8) (.e 7)) []) (zn 2<|zs 2<|zn 3<|zs 6<|zs 7<|zs 8<|zs 11<|zn 1 [])<|
 .seq (.cond 9 .skip (.exit 0))<|
 .seq (.block 1<|zq (zi (.ix (.e 6) [] (.e 8))<|zp 2 []) (zn 2<|zs 2<|zs 11<|zn 2<|zs 6<|zs 7<|zs 8<|zn 2 [])<|
 .seq (zq (zp 1<|zi (.ln (.e 3) [])<|zi (.bi .neq (.e 11) (.c (.n 2)))<|zp 1<|zg [(12,false)] .nop<|zg [(12,false)] (.iy (.e 3) (.c (.n 0)))<|zg [(12,false)] .nop<|zg [(12,false)] (.ca 23 [.e 13,.c (.n 0),.c (.n 9)] 1)<|zg [(12,false)] (.un .not (.e 14))<|zi (.pk (.e 12) (.c (.b true)) (.e 15))<|zp 1<|zg [(16,false)] .nop<|zg [(16,false)] (.iy (.e 3) (.c (.n 1)))<|zg [(16,false)] .nop<|zg [(16,false)] (.ca 23 [.e 17,.c (.n 0),.c (.n 9)] 1)<|zg [(16,false)] (.un .not (.e 18))<|zi (.pk (.e 16) (.c (.b true)) (.e 19)) []) (zn 2<|zs 2<|zs 3<|zn 2<|zs 6<|zs 7<|zs 8<|zn 1<|zs 20 [])<|
 .cond 10 (zq (zi (.cs .v (.s [])) []) (zn 1<|zs 11<|zn 9 [])<|
 .ret) .skip)<|
 .reg (zp 2<|zi (.iy (.e 3) (.c (.n 0)))<|zp 1<|zi (.ca 143 [.e 11] 1)<|zp 1<|zi (.iy (.e 3) (.c (.n 1)))<|zp 1<|zi (.ca 143 [.e 13] 1)<|zi (.bi .add (.e 12) (.e 14))<|zi (.li (.o .v) [.e 15])<|zi (.ap false (.e 2) (.e 16))<|zp 1 []) (zn 2<|zs 17<|zn 3<|zs 6<|zs 7<|zs 8<|zn 2 []))<|
 .reg (zi (.bi .add (.e 8) (.c (.n 1)))<|zp 1 []) (zn 2<|zs 2<|zn 3<|zs 6<|zs 7<|zs 11<|zn 2 []))<|
 zq (zp 1<|zi (.ca 184 [.e 2,.c (.s [32])] 1)<|zp 1 []) (zn 1<|zs 11<|zn 9 [])<|
 .ret⟩
def ir_impl_IsTriangulation:IF:=⟨[],2,17,[2],zq (zi (.cs .v (.b false)) []) (zs 0<|zs 1<|zn 15 [])<|
 .seq (zq (zp 1<|zi (.ca 23 [.e 0,.c (.n 2),.c (.n 10)] 1)<|zi (.un .not (.e 17))<|zp 1<|zg [(18,false)] .nop<|zg [(18,false)] (.ln (.e 1) [])<|zg [(18,false)] (.cy (.e 0))<|zg [(18,false)] (.bi .sub (.e 20) (.c (.n 3)))<|zg [(18,false)] (.mx (.c (.n 0)) (.e 21))<|zg [(18,false)] (.bi .neq (.e 19) (.e 22))<|zi (.pk (.e 18) (.c (.b true)) (.e 23)) []) (zs 0<|zs 1<|zn 4<|zs 24<|zn 10 [])<|
 .cond 6 (zq (zi (.cs .v (.b false)) []) (zn 2<|zs 17<|zn 14 [])<|
 .ret) .skip)<|
 .seq (zq (zp 1<|zi (.ln (.e 1) [])<|zi (.cs .v (.n 0)) []) (zs 0<|zs 1<|zn 5<|zs 1<|zs 17<|zs 18<|zn 7 [])<|
 .block 0<|.loop<|zq (zi (.bi .lss (.e 9) (.e 8)) []) (zs 0<|zs 1<|zn 5<|zs 7<|zs 8<|zs 9<|zs 17<|zn 6 [])<|
 .seq (.cond 10 .skip (.exit 0))<|
 .seq (.block 1<|zq (zp 1<|zi (.ix (.e 7) [] (.e 9))<|zp 3 []) (zs 0<|zs 1<|zn 1<|zs 9<|zs 17<|zn 2<|zs 7<|zs 8<|zs 9<|zn 7 [])<|
 .seq (zq (zp 2<|zi (.ca 605 [.e 0,.e 4] 1)<|zi (.un .not (.e 17))<|zp 1<|zg [(18,false)] (.cy (.e 3))<|zg [(18,false)] (.bi .gtr (.e 19) (.c (.n 0)))<|zg [(18,false)] (.cy (.e 20))<|zg [(18,false),(21,true)] .nop<|zg [(18,false),(21,true)] (.cy (.e 3))<|zg [(18,false),(21,true)] (.bi .sub (.e 22) (.c (.n 1)))<|zg [(18,false),(21,true)] (.ix (.e 1) [] (.e 23))<|zg [(18,false),(21,true)] .nop<|zg [(18,false),(21,true)] .nop<|zg [(18,false),(21,true)] (.ca 364 [.e 24,.e 4] 1)<|zg [(18,false),(21,true)] (.bi .geq (.e 25) (.c (.n 0)))<|zg [(18,false)] (.pk (.e 21) (.e 26) (.c (.b false)))<|zi (.pk (.e 18) (.c (.b true)) (.e 27)) []) (zs 0<|zs 1<|zn 1<|zs 3<|zs 4<|zn 2<|zs 7<|zs 8<|zs 9<|zn 1<|zs 28<|zn 5 [])<|
 .cond 11 (zq (zi (.cs .v (.b false)) []) (zn 2<|zs 17<|zn 14 [])<|
 .ret) .skip)<|
 zq (zp 2<|zi (.sb false (.e 1) none (some (.e 3)))<|zi (.ln (.e 17) [])<|zi (.cs .v (.n 0)) []) (zs 0<|zs 1<|zn 2<|zs 4<|zn 2<|zs 7<|zs 8<|zs 9<|zn 2<|zs 17<|zs 18<|zs 19<|zn 2 [])<|
 .block 2<|.loop<|zq (zi (.bi .lss (.e 14) (.e 13)) []) (zs 0<|zs 1<|zn 2<|zs 4<|zn 2<|zs 7<|zs 8<|zs 9<|zn 2<|zs 12<|zs 13<|zs 14<|zs 17<|zn 1 [])<|
 .seq (.cond 15 .skip (.exit 2))<|
 .seq (.block 3<|zq (zi (.ix (.e 12) [] (.e 14))<|zp 2 []) (zs 0<|zs 1<|zn 2<|zs 4<|zs 17<|zn 1<|zs 7<|zs 8<|zs 9<|zn 2<|zs 12<|zs 13<|zs 14<|zn 2 [])<|
 zq (zp 1<|zi (.iy (.e 5) (.c (.n 0)))<|zp 2<|zi (.iy (.e 4) (.c (.n 0)))<|zp 1<|zi (.bi .lss (.e 17) (.e 18))<|zp 1<|zg [(19,true)] .nop<|zg [(19,true)] (.iy (.e 4) (.c (.n 0)))<|zg [(19,true)] .nop<|zg [(19,true)] .nop<|zg [(19,true)] (.iy (.e 5) (.c (.n 1)))<|zg [(19,true)] .nop<|zg [(19,true)] (.bi .lss (.e 20) (.e 21))<|zi (.pk (.e 19) (.e 22) (.c (.b false)))<|zp 1<|zg [(23,true)] .nop<|zg [(23,true)] (.iy (.e 5) (.c (.n 1)))<|zg [(23,true)] .nop<|zg [(23,true)] .nop<|zg [(23,true)] (.iy (.e 4) (.c (.n 1)))<|zg [(23,true)] .nop<|zg [(23,true)] (.bi .lss (.e 24) (.e 25))<|zi (.pk (.e 23) (.e 26) (.c (.b false)))<|zp 1<|zg [(27,false)] .nop<|zg [(27,false)] (.iy (.e 4) (.c (.n 0)))<|zg [(27,false)] .nop<|zg [(27,false)] .nop<|zg [(27,false)] (.iy (.e 5) (.c (.n 0)))<|zg [(27,false)] .nop<|zg [(27,false)] (.bi .lss (.e 28) (.e 29))<|zg [(27,false)] (.cy (.e 30))<|zg [(27,false),(31,true)] .nop<|zg [(27,false),(31,true)] (.iy (.e 5) (.c (.n 0)))<|zg [(27,false),(31,true)] .nop<|zg [(27,false),(31,true)] .nop<|zg [(27,false),(31,true)] (.iy (.e 4) (.c (.n 1)))<|zg [(27,false),(31,true)] .nop<|zg [(27,false),(31,true)] (.bi .lss (.e 32) (.e 33))<|zg [(27,false)] (.pk (.e 31) (.e 34) (.c (.b false)))<|zg [(27,false)] (.cy (.e 35))<|zg [(27,false),(36,true)] .nop<|zg [(27,false),(36,true)] (.iy (.e 4) (.c (.n 1)))<|zg [(27,false),(36,true)] .nop<|zg [(27,false),(36,true)] .nop<|zg [(27,false),(36,true)] (.iy (.e 5) (.c (.n 1)))<|zg [(27,false),(36,true)] .nop<|zg [(27,false),(36,true)] (.bi .lss (.e 37) (.e 38))<|zg [(27,false)] (.pk (.e 36) (.e 39) (.c (.b false)))<|zi (.pk (.e 27) (.c (.b true)) (.e 40)) []) (zs 0<|zs 1<|zn 2<|zs 4<|zn 2<|zs 7<|zs 8<|zs 9<|zn 2<|zs 12<|zs 13<|zs 14<|zn 1<|zs 41 [])<|
 .cond 16 (zq (zi (.cs .v (.b false)) []) (zn 2<|zs 17<|zn 14 [])<|
 .ret) .skip)<|
 .reg (zi (.bi .add (.e 14) (.c (.n 1)))<|zp 1 []) (zs 0<|zs 1<|zn 2<|zs 4<|zn 2<|zs 7<|zs 8<|zs 9<|zn 2<|zs 12<|zs 13<|zs 17<|zn 2 []))<|
 .reg (zi (.bi .add (.e 9) (.c (.n 1)))<|zp 1 []) (zs 0<|zs 1<|zn 5<|zs 7<|zs 8<|zs 17<|zn 7 []))<|
 zq (zi (.cs .v (.b true)) []) (zn 2<|zs 17<|zn 14 [])<|
 .ret⟩
def ir_impl_TriangulationOf:IF:=⟨[],1,7,[1,2],zq (zi (.cs (.o .v) (.l []))<|zi (.cs .v (.b false)) []) (zs 0<|zn 6 [])<|
 zq (zp 1<|zi (.ca 194 [.e 0] 2)<|zp 5 []) (zn 3<|zs 7<|zs 8<|zn 2 [])<|
 .seq (zq (zp 1<|zi (.un .not (.e 4)) []) (zn 3<|zs 3<|zn 2<|zs 7 [])<|
 .cond 6 (zq (zi (.li (.o .v) [])<|zp 1<|zi (.cs .v (.b false)) []) (zn 1<|zs 7<|zs 8<|zn 4 [])<|
 .ret) .skip)<|
 zq (zp 2<|zi (.ca 197 [.e 3] 1)<|zi (.bi .add (.e 7) (.c (.n 1)))<|zi (.li (.o .v) [])<|zi (.li (.o .v) [])<|zi (.ca 541 [.e 3,.c (.n 0),.e 8,.e 9,.e 10] 2)<|zp 5 []) (zn 5<|zs 12<|zn 1 [])<|
 zq (zp 1<|zi (.ca 363 [.e 5,.c (.f 364 [])] 1) []) (zn 5<|zs 7<|zn 1 [])<|
 zq (zp 2<|zi (.cs .v (.b true)) []) (zn 1<|zs 5<|zs 7<|zn 4 [])<|
 .ret⟩
def ir_impl_TurnPolygon:IF:=⟨[],3,14,[3,4],zq (zi (.cs (.o .v) (.l []))<|zi (.cs .v (.b false)) []) (zs 0<|zs 1<|zs 2<|zn 11 [])<|
 .seq (zq (zp 2<|zi (.ca 602 [.e 0,.e 1] 1)<|zi (.un .not (.e 14))<|zp 1<|zg [(15,false)] (.cy (.e 2))<|zg [(15,false)] (.cy (.e 0))<|zg [(15,false)] (.bi .sub (.e 17) (.c (.n 1)))<|zg [(15,false)] (.ca 23 [.e 16,.c (.n 0),.e 18] 1)<|zg [(15,false)] (.un .not (.e 19))<|zi (.pk (.e 15) (.c (.b true)) (.e 20)) []) (zs 0<|zs 1<|zs 2<|zn 6<|zs 21<|zn 4 [])<|
 .cond 9 (zq (zi (.li (.o .v) [])<|zp 1<|zi (.cs .v (.b false)) []) (zn 3<|zs 14<|zs 15<|zn 9 [])<|
 .ret) .skip)<|
 zq (zi (.li (.o .v) [])<|zp 1 []) (zs 0<|zs 1<|zs 2<|zn 2<|zs 14<|zn 8 [])<|
 .seq (zq (zp 1<|zi (.ln (.e 1) [])<|zi (.cs .v (.n 0)) []) (zs 0<|zn 1<|zs 2<|zn 2<|zs 5<|zn 4<|zs 1<|zs 14<|zs 15<|zn 1 [])<|
 .block 0<|.loop<|zq (zi (.bi .lss (.e 12) (.e 11)) []) (zs 0<|zn 1<|zs 2<|zn 2<|zs 5<|zn 4<|zs 10<|zs 11<|zs 12<|zs 14 [])<|
 .seq (.cond 13 .skip (.exit 0))<|
 .seq (.block 1<|zq (zi (.ix (.e 10) [] (.e 12))<|zp 2 []) (zs 0<|zn 1<|zs 2<|zn 2<|zs 5<|zs 14<|zn 3<|zs 10<|zs 11<|zs 12<|zn 1 [])<|
 zq (zp 1<|zi (.iy (.e 6) (.c (.n 0)))<|zp 2<|zi (.bi .add (.e 14) (.e 2))<|zp 1<|zi (.bi .rem (.e 15) (.e 0))<|zp 1<|zi (.iy (.e 6) (.c (.n 1)))<|zp 2<|zi (.bi .add (.e 17) (.e 2))<|zp 1<|zi (.bi .rem (.e 18) (.e 0))<|zp 2 []) (zs 0<|zn 1<|zs 2<|zn 2<|zs 5<|zn 1<|zs 16<|zs 19<|zn 1<|zs 10<|zs 11<|zs 12<|zn 1 [])<|
 .reg (zp 3<|zi (.mn (.e 7) (.e 8))<|zp 2<|zi (.mx (.e 7) (.e 8))<|zi (.li (.o .v) [.e 14,.e 15])<|zi (.li (.o .v) [.e 16])<|zi (.ap false (.e 5) (.e 17))<|zp 1 []) (zs 0<|zn 1<|zs 2<|zn 2<|zs 18<|zn 4<|zs 10<|zs 11<|zs 12<|zn 1 []))<|
 .reg (zi (.bi .add (.e 12) (.c (.n 1)))<|zp 1 []) (zs 0<|zn 1<|zs 2<|zn 2<|zs 5<|zn 4<|zs 10<|zs 11<|zs 14<|zn 1 []))<|
 zq (zp 1<|zi (.ca 363 [.e 5,.c (.f 364 [])] 1) []) (zn 5<|zs 14<|zn 8 [])<|
 zq (zp 2<|zi (.cs .v (.b true)) []) (zn 3<|zs 5<|zs 14<|zn 9 [])<|
 .ret⟩
def ir_impl_isDiagonal:IF:=⟨[],2,3,[2],zq (zi (.cs .v (.b false)) []) (zs 0<|zs 1<|zn 1 [])<|
 zq (zp 1<|zi (.ln (.e 1) [])<|zi (.bi .eql (.e 3) (.c (.n 2)))<|zp 1<|zg [(4,true)] .nop<|zg [(4,true)] (.iy (.e 1) (.c (.n 0)))<|zg [(4,true)] .nop<|zg [(4,true)] (.cy (.e 0))<|zg [(4,true)] (.bi .sub (.e 6) (.c (.n 1)))<|zg [(4,true)] (.ca 23 [.e 5,.c (.n 0),.e 7] 1)<|zi (.pk (.e 4) (.e 8) (.c (.b false)))<|zp 1<|zg [(9,true)] .nop<|zg [(9,true)] (.iy (.e 1) (.c (.n 1)))<|zg [(9,true)] .nop<|zg [(9,true)] (.cy (.e 0))<|zg [(9,true)] (.bi .sub (.e 11) (.c (.n 1)))<|zg [(9,true)] (.ca 23 [.e 10,.c (.n 0),.e 12] 1)<|zi (.pk (.e 9) (.e 13) (.c (.b false)))<|zp 1<|zg [(14,true)] .nop<|zg [(14,true)] (.iy (.e 1) (.c (.n 1)))<|zg [(14,true)] .nop<|zg [(14,true)] .nop<|zg [(14,true)] (.iy (.e 1) (.c (.n 0)))<|zg [(14,true)] .nop<|zg [(14,true)] (.bi .sub (.e 15) (.e 16))<|zg [(14,true)] (.bi .geq (.e 17) (.c (.n 2)))<|zi (.pk (.e 14) (.e 18) (.c (.b false)))<|zp 1<|zg [(19,true)] .nop<|zg [(19,true)] (.iy (.e 1) (.c (.n 0)))<|zg [(19,true)] .nop<|zg [(19,true)] (.bi .neq (.e 20) (.c (.n 0)))<|zg [(19,true)] (.cy (.e 21))<|zg [(19,true),(22,false)] .nop<|zg [(19,true),(22,false)] (.iy (.e 1) (.c (.n 1)))<|zg [(19,true),(22,false)] .nop<|zg [(19,true),(22,false)] (.cy (.e 0))<|zg [(19,true),(22,false)] (.bi .sub (.e 24) (.c (.n 1)))<|zg [(19,true),(22,false)] (.bi .neq (.e 23) (.e 25))<|zg [(19,true)] (.pk (.e 22) (.c (.b true)) (.e 26))<|zi (.pk (.e 19) (.e 27) (.c (.b false)))<|zp 1 []) (zn 2<|zs 28 [])<|
 .ret⟩
end Go.Cat
namespace Go.Cat
def ir_impl_BlocksOf:IF:=⟨[],1,11,[1],zq (zi (.cs .v (.l [])) []) (zs 0<|zn 10 [])<|
 zq (zi (.li (.o (.o .v)) [])<|zp 1 []) (zs 0<|zn 1<|zs 11<|zn 8 [])<|
 .seq (zq (zp 1<|zi (.ca 478 [.e 0] 1)<|zi (.un .not (.e 11)) []) (zs 0<|zn 1<|zs 2<|zn 2<|zs 12<|zn 5 [])<|
 .cond 5 (zq (zp 2 []) (zn 1<|zs 2<|zn 9 [])<|
 .ret) .skip)<|
 .seq (zq (zp 1<|zi (.ln (.e 0) [])<|zi (.cs .v (.n 0)) []) (zn 2<|zs 2<|zn 3<|zs 0<|zs 11<|zs 12<|zn 2 [])<|
 .block 0<|.loop<|zq (zi (.bi .lss (.e 8) (.e 7)) []) (zn 2<|zs 2<|zn 3<|zs 6<|zs 7<|zs 8<|zs 11<|zn 1 [])<|
 .seq (.cond 9 .skip (.exit 0))<|
 .seq (.block 1<|zq (zp 1<|zi (.iy (.e 6) (.e 8))<|zp 3 []) (zn 2<|zs 2<|zs 8<|zs 11<|zn 1<|zs 6<|zs 7<|zs 8<|zn 2 [])<|
 .seq (zq (zp 2<|zi (.ln (.e 2) [])<|zi (.bi .eql (.e 4) (.e 11)) []) (zn 2<|zs 2<|zs 3<|zs 4<|zn 1<|zs 6<|zs 7<|zs 8<|zn 1<|zs 12 [])<|
 .cond 10 (.reg (zp 1<|zi (.li (.o .v) [])<|zi (.li (.o (.o .v)) [.e 11])<|zi (.ap false (.e 2) (.e 12))<|zp 1 []) (zn 2<|zs 13<|zs 3<|zs 4<|zn 1<|zs 6<|zs 7<|zs 8<|zn 2 [])) .skip)<|
 .reg (zi (.ln (.e 2) [])<|zp 4<|zi (.ix (.e 2) [] (.e 4))<|zi (.sp 2 [.e 4] 1)<|zp 1<|zi (.li (.o .v) [.e 3])<|zi (.ap false (.e 13) (.e 15))<|zi (.ix (.e 2) [] (.e 4))<|zi (.up 14 [.e 4] (.e 16)) []) (zn 2<|zs 18<|zn 3<|zs 6<|zs 7<|zs 8<|zn 2 []))<|
 .reg (zi (.bi .add (.e 8) (.c (.n 1)))<|zp 1 []) (zn 2<|zs 2<|zn 3<|zs 6<|zs 7<|zs 11<|zn 2 []))<|
 zq (zp 2 []) (zn 1<|zs 2<|zn 9 [])<|
 .ret⟩
def ir_impl_FormatPartition:IF:=⟨[],1,14,[1],zq (zi (.cs .v (.s [])) []) (zs 0<|zn 13 [])<|
 zq (zi (.li (.o .v) [])<|zp 1 []) (zs 0<|zn 1<|zs 14<|zn 11 [])<|
 .seq (zq (zp 1<|zi (.ca 479 [.e 0] 1)<|zi (.ln (.e 14) [])<|zi (.cs .v (.n 0)) []) (zn 2<|zs 2<|zn 3<|zs 14<|zs 15<|zs 16<|zn 5 [])<|
 .block 0<|.loop<|zq (zi (.bi .lss (.e 8) (.e 7)) []) (zn 2<|zs 2<|zn 3<|zs 6<|zs 7<|zs 8<|zs 14<|zn 4 [])<|
 .seq (.cond 9 .skip (.exit 0))<|
 .seq (.block 1<|zq (zi (.ix (.e 6) [] (.e 8))<|zp 2 []) (zn 2<|zs 2<|zs 14<|zn 2<|zs 6<|zs 7<|zs 8<|zn 5 [])<|
 zq (zi (.cs .v (.s [])) []) (zn 2<|zs 2<|zs 3<|zs 14<|zn 1<|zs 6<|zs 7<|zs 8<|zn 5 [])<|
 .seq (zq (zp 1<|zi (.ln (.e 3) [])<|zi (.cs .v (.n 0)) []) (zn 2<|zs 2<|zn 1<|zs 4<|zn 1<|zs 6<|zs 7<|zs 8<|zn 1<|zs 3<|zs 14<|zs 15<|zn 1 [])<|
 .block 2<|.loop<|zq (zi (.bi .lss (.e 12) (.e 11)) []) (zn 2<|zs 2<|zn 1<|zs 4<|zn 1<|zs 6<|zs 7<|zs 8<|zn 1<|zs 10<|zs 11<|zs 12<|zs 14 [])<|
 .seq (.cond 13 .skip (.exit 2))<|
 .seq (.block 3<|zq (zi (.ix (.e 10) [] (.e 12))<|zp 2 []) (zn 2<|zs 2<|zn 1<|zs 4<|zs 14<|zs 6<|zs 7<|zs 8<|zn 1<|zs 10<|zs 11<|zs 12<|zn 1 [])<|
 .reg (zp 2<|zi (.bi .add (.e 5) (.c (.n 1)))<|zi (.ca 143 [.e 14] 1)<|zi (.bi .add (.e 4) (.e 15))<|zp 1 []) (zn 2<|zs 2<|zn 1<|zs 16<|zn 1<|zs 6<|zs 7<|zs 8<|zn 1<|zs 10<|zs 11<|zs 12<|zn 1 []))<|
 .reg (zi (.bi .add (.e 12) (.c (.n 1)))<|zp 1 []) (zn 2<|zs 2<|zn 1<|zs 4<|zn 1<|zs 6<|zs 7<|zs 8<|zn 1<|zs 10<|zs 11<|zs 14<|zn 1 []))<|
 .reg (zp 2<|zi (.li (.o .v) [.e 4])<|zi (.ap false (.e 2) (.e 14))<|zp 1 []) (zn 2<|zs 15<|zn 3<|zs 6<|zs 7<|zs 8<|zn 5 []))<|
 .reg (zi (.bi .add (.e 8) (.c (.n 1)))<|zp 1 []) (zn 2<|zs 2<|zn 3<|zs 6<|zs 7<|zs 14<|zn 5 []))<|
 zq (zp 1<|zi (.ca 184 [.e 2,.c (.s [124])] 1)<|zp 1 []) (zn 1<|zs 14<|zn 12 [])<|
 .ret⟩
def ir_impl_IsPartition:IF:=⟨[],1,10,[1],zq (zi (.cs .v (.b false)) []) (zs 0<|zn 9 [])<|
 .seq (zq (zp 1<|zi (.ln (.e 0) [])<|zi (.bi .gtr (.e 10) (.c (.n 8))) []) (zs 0<|zn 3<|zs 11<|zn 5 [])<|
 .cond 4 (zq (zi (.cs .v (.b false)) []) (zn 1<|zs 10<|zn 8 [])<|
 .ret) .skip)<|
 zq (zi (.cs .v (.n 0)) []) (zs 0<|zn 1<|zs 10<|zn 7 [])<|
 .seq (zq (zp 1<|zi (.ln (.e 0) [])<|zi (.cs .v (.n 0)) []) (zn 2<|zs 2<|zn 2<|zs 0<|zs 10<|zs 11<|zn 2 [])<|
 .block 0<|.loop<|zq (zi (.bi .lss (.e 7) (.e 6)) []) (zn 2<|zs 2<|zn 2<|zs 5<|zs 6<|zs 7<|zs 10<|zn 1 [])<|
 .seq (.cond 8 .skip (.exit 0))<|
 .seq (.block 1<|zq (zi (.iy (.e 5) (.e 7))<|zp 2 []) (zn 2<|zs 2<|zs 10<|zn 1<|zs 5<|zs 6<|zs 7<|zn 2 [])<|
 .seq (zq (zp 2<|zi (.ca 23 [.e 3,.c (.n 0),.e 2] 1)<|zi (.un .not (.e 10)) []) (zn 2<|zs 2<|zs 3<|zn 1<|zs 5<|zs 6<|zs 7<|zn 1<|zs 11 [])<|
 .cond 9 (zq (zi (.cs .v (.b false)) []) (zn 1<|zs 10<|zn 8 [])<|
 .ret) .skip)<|
 .reg (zp 2<|zi (.bi .add (.e 3) (.c (.n 1)))<|zi (.mx (.e 2) (.e 10))<|zp 1 []) (zn 2<|zs 11<|zn 2<|zs 5<|zs 6<|zs 7<|zn 2 []))<|
 .reg (zi (.bi .add (.e 7) (.c (.n 1)))<|zp 1 []) (zn 2<|zs 2<|zn 2<|zs 5<|zs 6<|zs 10<|zn 2 []))<|
 zq (zi (.cs .v (.b true)) []) (zn 1<|zs 10<|zn 8 [])<|
 .ret⟩
def ir_impl_PartitionOf:IF:=⟨[],1,14,[1,2],zq (zi (.cs (.o .v) (.l []))<|zi (.cs .v (.b false)) []) (zs 0<|zn 13 [])<|
 .seq (zq (zp 1<|zi (.ca 67 [.e 0] 1)<|zi (.un .not (.e 14)) []) (zs 0<|zn 8<|zs 15<|zn 4 [])<|
 .cond 9 (zq (zi (.li (.o .v) [])<|zp 1<|zi (.cs .v (.b false)) []) (zn 1<|zs 14<|zs 15<|zn 11 [])<|
 .ret) .skip)<|
 zq (zp 1<|zi (.ca 373 [.e 0] 1)<|zp 1 []) (zs 0<|zn 2<|zs 14<|zn 10 [])<|
 zq (zp 1<|zi (.sn (.e 0))<|zi (.mk (.n 0) (.e 14) (.e 14))<|zp 1 []) (zs 0<|zn 2<|zs 3<|zs 15<|zn 9 [])<|
 zq (zi (.cs .v (.n 0)) []) (zs 0<|zn 2<|zs 3<|zs 4<|zs 14<|zn 8 [])<|
 .seq (zq (zi (.cs .v (.n 1)) []) (zs 0<|zn 2<|zs 3<|zs 4<|zs 5<|zs 14<|zn 7 [])<|
 .block 0<|.loop<|.seq (zq (zp 2<|zi (.sn (.e 0))<|zi (.bi .lss (.e 6) (.e 14)) []) (zs 0<|zn 2<|zs 3<|zs 4<|zs 5<|zs 6<|zn 3<|zs 15<|zn 3 [])<|
 .cond 10 .skip (.exit 0))<|
 .seq (.block 1<|.seq (zq (zp 2<|zi (.sx (.e 0) (.e 6))<|zi (.bi .eql (.e 14) (.c (.y 100)))<|zp 1<|zg [(15,true)] (.cy (.e 0))<|zg [(15,true)] (.cy (.e 6))<|zg [(15,true)] (.bi .sub (.e 17) (.c (.n 1)))<|zg [(15,true)] (.sx (.e 16) (.e 18))<|zg [(15,true)] (.bi .eql (.e 19) (.c (.y 117)))<|zi (.pk (.e 15) (.e 20) (.c (.b false))) []) (zs 0<|zn 2<|zs 3<|zs 4<|zs 5<|zs 6<|zn 4<|zs 21<|zn 2 [])<|
 .cond 11 (.reg (zp 1<|zi (.bi .add (.e 5) (.c (.n 1)))<|zp 1 []) (zs 0<|zn 2<|zs 3<|zs 4<|zs 14<|zs 6<|zn 7 [])) .skip)<|
 .reg (zp 3<|zi (.ix (.e 4) [] (.e 6))<|zi (.up 4 [.e 6] (.e 5)) []) (zs 0<|zn 2<|zs 3<|zs 15<|zs 5<|zs 6<|zn 7 []))<|
 .reg (zp 1<|zi (.bi .add (.e 6) (.c (.n 1)))<|zp 1 []) (zs 0<|zn 2<|zs 3<|zs 4<|zs 5<|zs 14<|zn 7 []))<|
 zq (zi (.li (.o .v) [])<|zp 1 []) (zs 0<|zn 2<|zs 3<|zs 4<|zn 2<|zs 14<|zn 6 [])<|
 .seq (zq (zi (.cs .v (.n 0)) []) (zs 0<|zn 2<|zs 3<|zs 4<|zn 2<|zs 7<|zs 14<|zn 5 [])<|
 .block 2<|.loop<|.seq (zq (zp 2<|zi (.sn (.e 0))<|zi (.bi .lss (.e 8) (.e 14)) []) (zs 0<|zn 2<|zs 3<|zs 4<|zn 2<|zs 7<|zs 8<|zn 3<|zs 15<|zn 1 [])<|
 .cond 12 .skip (.exit 2))<|
 .seq (.block 3<|zq (zp 2<|zi (.sx (.e 0) (.e 8))<|zi (.bi .eql (.e 14) (.c (.y 117))) []) (zs 0<|zn 2<|zs 3<|zs 4<|zn 2<|zs 7<|zs 8<|zn 4<|zs 15 [])<|
 .cond 13 (.reg (zp 4<|zi (.ix (.e 3) [] (.e 8))<|zp 1<|zi (.ix (.e 4) [] (.e 14))<|zp 1<|zi (.li (.o .v) [.e 15])<|zi (.ap false (.e 7) (.e 16))<|zp 1 []) (zs 0<|zn 2<|zs 3<|zs 4<|zn 2<|zs 17<|zs 8<|zn 5 [])) .skip)<|
 .reg (zp 1<|zi (.bi .add (.e 8) (.c (.n 1)))<|zp 1 []) (zs 0<|zn 2<|zs 3<|zs 4<|zn 2<|zs 7<|zs 14<|zn 5 []))<|
 zq (zp 1<|zi (.ca 475 [.e 7] 2)<|zp 4 []) (zn 1<|zs 14<|zs 15<|zn 11 [])<|
 .ret⟩
def ir_impl_RenumberBlocks:IF:=⟨[],1,21,[1,2],zq (zi (.cs (.o .v) (.l []))<|zi (.cs .v (.b false)) []) (zs 0<|zn 20 [])<|
 .seq (zq (zp 1<|zi (.ln (.e 0) [])<|zi (.bi .gtr (.e 21) (.c (.n 8))) []) (zs 0<|zn 9<|zs 22<|zn 10 [])<|
 .cond 10 (zq (zi (.li (.o .v) [])<|zp 1<|zi (.cs .v (.b false)) []) (zn 1<|zs 21<|zs 22<|zn 18 [])<|
 .ret) .skip)<|
 zq (zi (.li (.o .v) [])<|zp 1 []) (zs 0<|zn 2<|zs 21<|zn 17 [])<|
 zq (zi (.cs .v (.n 0)) []) (zs 0<|zn 2<|zs 3<|zs 21<|zn 16 [])<|
 .seq (zq (zp 1<|zi (.ln (.e 0) [])<|zi (.cs .v (.n 0)) []) (zs 0<|zn 2<|zs 3<|zs 4<|zn 6<|zs 0<|zs 21<|zs 22<|zn 7 [])<|
 .block 0<|.loop<|zq (zi (.bi .lss (.e 13) (.e 12)) []) (zs 0<|zn 2<|zs 3<|zs 4<|zn 6<|zs 11<|zs 12<|zs 13<|zs 21<|zn 6 [])<|
 .seq (.cond 14 .skip (.exit 0))<|
 .seq (.block 1<|zq (zp 1<|zi (.iy (.e 11) (.e 13))<|zp 3 []) (zs 0<|zn 2<|zs 3<|zs 4<|zs 13<|zs 21<|zn 4<|zs 11<|zs 12<|zs 13<|zn 7 [])<|
 zq (zp 2 []) (zs 0<|zn 2<|zs 3<|zs 4<|zs 5<|zs 6<|zs 4<|zn 3<|zs 11<|zs 12<|zs 13<|zn 7 [])<|
 .seq (zq (zp 2<|zi (.sb false (.e 0) none (some (.e 5)))<|zi (.ln (.e 21) [])<|zi (.cs .v (.n 0)) []) (zs 0<|zn 2<|zs 3<|zs 4<|zn 1<|zs 6<|zs 7<|zn 3<|zs 11<|zs 12<|zs 13<|zn 1<|zs 21<|zs 22<|zs 23<|zn 3 [])<|
 .block 2<|.loop<|zq (zi (.bi .lss (.e 17) (.e 16)) []) (zs 0<|zn 2<|zs 3<|zs 4<|zn 1<|zs 6<|zs 7<|zn 3<|zs 11<|zs 12<|zs 13<|zn 1<|zs 15<|zs 16<|zs 17<|zs 21<|zn 2 [])<|
 .seq (.cond 18 .skip (.exit 2))<|
 .seq (.block 3<|zq (zp 1<|zi (.iy (.e 15) (.e 17))<|zp 3 []) (zs 0<|zn 2<|zs 3<|zs 4<|zn 1<|zs 6<|zs 7<|zs 17<|zs 21<|zn 1<|zs 11<|zs 12<|zs 13<|zn 1<|zs 15<|zs 16<|zs 17<|zn 3 [])<|
 zq (zp 2<|zi (.bi .eql (.e 6) (.e 9)) []) (zs 0<|zn 2<|zs 3<|zs 4<|zn 1<|zs 6<|zs 7<|zs 8<|zn 2<|zs 11<|zs 12<|zs 13<|zn 1<|zs 15<|zs 16<|zs 17<|zn 1<|zs 21<|zn 1 [])<|
 .cond 19 (zq (zp 2<|zi (.ix (.e 3) [] (.e 8))<|zp 2 []) (zs 0<|zn 2<|zs 3<|zs 4<|zn 2<|zs 21<|zn 3<|zs 11<|zs 12<|zs 13<|zn 7 [])<|
 .exit 2) .skip)<|
 .reg (zi (.bi .add (.e 17) (.c (.n 1)))<|zp 1 []) (zs 0<|zn 2<|zs 3<|zs 4<|zn 1<|zs 6<|zs 7<|zn 3<|zs 11<|zs 12<|zs 13<|zn 1<|zs 15<|zs 16<|zs 21<|zn 3 []))<|
 .seq (zq (zp 2<|zi (.bi .eql (.e 7) (.e 4)) []) (zs 0<|zn 2<|zs 3<|zs 4<|zn 2<|zs 7<|zn 3<|zs 11<|zs 12<|zs 13<|zn 6<|zs 21 [])<|
 .cond 20 (.reg (zp 1<|zi (.bi .add (.e 4) (.c (.n 1)))<|zp 1 []) (zs 0<|zn 2<|zs 3<|zs 21<|zn 2<|zs 7<|zn 3<|zs 11<|zs 12<|zs 13<|zn 7 [])) .skip)<|
 .reg (zp 2<|zi (.li (.o .v) [.e 7])<|zi (.ap false (.e 3) (.e 21))<|zp 1 []) (zs 0<|zn 2<|zs 22<|zs 4<|zn 6<|zs 11<|zs 12<|zs 13<|zn 7 []))<|
 .reg (zi (.bi .add (.e 13) (.c (.n 1)))<|zp 1 []) (zs 0<|zn 2<|zs 3<|zs 4<|zn 6<|zs 11<|zs 12<|zs 21<|zn 7 []))<|
 zq (zp 2<|zi (.cs .v (.b true)) []) (zn 1<|zs 3<|zs 21<|zn 18 [])<|
 .ret⟩
def ir_impl_TurnPartition:IF:=⟨[],1,5,[1,2],zq (zi (.cs (.o .v) (.l []))<|zi (.cs .v (.b false)) []) (zs 0<|zn 4 [])<|
 .seq (zq (zp 1<|zi (.ca 478 [.e 0] 1)<|zi (.un .not (.e 5)) []) (zs 0<|zn 2<|zs 6<|zn 1 [])<|
 .cond 3 (zq (zi (.li (.o .v) [])<|zp 1<|zi (.cs .v (.b false)) []) (zn 1<|zs 5<|zs 6<|zn 2 [])<|
 .ret) .skip)<|
 .seq (zq (zp 1<|zi (.ln (.e 0) [])<|zi (.bi .eql (.e 5) (.c (.n 0))) []) (zs 0<|zn 3<|zs 6 [])<|
 .cond 4 (zq (zi (.li (.o .v) [])<|zp 1<|zi (.cs .v (.b true)) []) (zn 1<|zs 5<|zs 6<|zn 2 [])<|
 .ret) .skip)<|
 zq (zp 2<|zi (.ln (.e 0) [])<|zi (.bi .sub (.e 5) (.c (.n 1)))<|zi (.iy (.e 0) (.e 6))<|zp 1<|zi (.li (.o .v) [.e 7])<|zp 2<|zi (.ln (.e 0) [])<|zi (.bi .sub (.e 9) (.c (.n 1)))<|zi (.sb false (.e 0) none (some (.e 10)))<|zi (.ap true (.e 8) (.e 11))<|zi (.ca 475 [.e 12] 2)<|zp 4 []) (zn 1<|zs 13<|zs 14<|zn 2 [])<|
 .ret⟩
end Go.Cat
namespace Go.Cat
def ir_impl_FormatMatching:IF:=⟨[],1,12,[1],zq (zi (.cs .v (.s [])) []) (zs 0<|zn 11 [])<|
 .seq (zq (zp 1<|zi (.ca 380 [.e 0] 1)<|zi (.un .not (.e 12)) []) (zs 0<|zn 4<|zs 13<|zn 6 [])<|
 .cond 5 (zq (zi (.cs .v (.s [])) []) (zn 1<|zs 12<|zn 10 [])<|
 .ret) .skip)<|
 .seq (zq (zp 1<|zi (.ln (.e 0) [])<|zi (.bi .eql (.e 12) (.c (.n 0))) []) (zs 0<|zn 5<|zs 13<|zn 5 [])<|
 .cond 6 (zq (zi (.cs .v (.s [110,111,110,101])) []) (zn 1<|zs 12<|zn 10 [])<|
 .ret) .skip)<|
 zq (zi (.li (.o .v) [])<|zp 1 []) (zs 0<|zn 1<|zs 12<|zn 9 [])<|
 .seq (zq (zp 1<|zi (.ln (.e 0) [])<|zi (.cs .v (.n 0)) []) (zn 2<|zs 2<|zn 4<|zs 0<|zs 12<|zs 13<|zn 2 [])<|
 .block 0<|.loop<|zq (zi (.bi .lss (.e 9) (.e 8)) []) (zn 2<|zs 2<|zn 4<|zs 7<|zs 8<|zs 9<|zs 12<|zn 1 [])<|
 .seq (.cond 10 .skip (.exit 0))<|
 .seq (.block 1<|zq (zp 1<|zi (.iy (.e 7) (.e 9))<|zp 3 []) (zn 2<|zs 2<|zs 9<|zs 12<|zn 2<|zs 7<|zs 8<|zs 9<|zn 2 [])<|
 zq (zp 2<|zi (.bi .lss (.e 3) (.e 4)) []) (zn 2<|zs 2<|zs 3<|zs 4<|zn 2<|zs 7<|zs 8<|zs 9<|zn 1<|zs 12 [])<|
 .cond 11 (.reg (zp 2<|zi (.ca 143 [.e 3] 1)<|zi (.bi .add (.e 12) (.c (.s [45])))<|zp 1<|zi (.ca 143 [.e 4] 1)<|zi (.bi .add (.e 13) (.e 14))<|zi (.li (.o .v) [.e 15])<|zi (.ap false (.e 2) (.e 16))<|zp 1 []) (zn 2<|zs 17<|zn 4<|zs 7<|zs 8<|zs 9<|zn 2 [])) .skip)<|
 .reg (zi (.bi .add (.e 9) (.c (.n 1)))<|zp 1 []) (zn 2<|zs 2<|zn 4<|zs 7<|zs 8<|zs 12<|zn 2 []))<|
 zq (zp 1<|zi (.ca 184 [.e 2,.c (.s [32])] 1)<|zp 1 []) (zn 1<|zs 12<|zn 10 [])<|
 .ret⟩
def ir_impl_IsMatching:IF:=⟨[],1,10,[1],zq (zi (.cs .v (.b false)) []) (zs 0<|zn 9 [])<|
 .seq (zq (zp 1<|zi (.ln (.e 0) [])<|zi (.bi .gtr (.e 10) (.c (.n 16))) []) (zs 0<|zn 3<|zs 11<|zn 5 [])<|
 .cond 4 (zq (zi (.cs .v (.b false)) []) (zn 1<|zs 10<|zn 8 [])<|
 .ret) .skip)<|
 .seq (zq (zp 1<|zi (.ln (.e 0) [])<|zi (.cs .v (.n 0)) []) (zs 0<|zn 4<|zs 0<|zs 10<|zs 11<|zn 2 [])<|
 .block 0<|.loop<|zq (zi (.bi .lss (.e 7) (.e 6)) []) (zs 0<|zn 4<|zs 5<|zs 6<|zs 7<|zs 10<|zn 1 [])<|
 .seq (.cond 8 .skip (.exit 0))<|
 .seq (.block 1<|zq (zp 1<|zi (.iy (.e 5) (.e 7))<|zp 3 []) (zs 0<|zn 1<|zs 7<|zs 10<|zn 1<|zs 5<|zs 6<|zs 7<|zn 2 [])<|
 zq (zp 2<|zi (.ln (.e 0) [])<|zi (.bi .sub (.e 10) (.c (.n 1)))<|zi (.ca 23 [.e 3,.c (.n 0),.e 11] 1)<|zi (.un .not (.e 12))<|zp 1<|zg [(13,false)] (.cy (.e 3))<|zg [(13,false)] (.cy (.e 2))<|zg [(13,false)] (.bi .eql (.e 14) (.e 15))<|zi (.pk (.e 13) (.c (.b true)) (.e 16))<|zp 1<|zg [(17,false)] .nop<|zg [(17,false)] (.cy (.e 3))<|zg [(17,false)] (.iy (.e 0) (.e 18))<|zg [(17,false)] .nop<|zg [(17,false)] (.cy (.e 2))<|zg [(17,false)] (.bi .neq (.e 19) (.e 20))<|zi (.pk (.e 17) (.c (.b true)) (.e 21)) []) (zs 0<|zn 4<|zs 5<|zs 6<|zs 7<|zn 1<|zs 22 [])<|
 .cond 9 (zq (zi (.cs .v (.b false)) []) (zn 1<|zs 10<|zn 8 [])<|
 .ret) .skip)<|
 .reg (zi (.bi .add (.e 7) (.c (.n 1)))<|zp 1 []) (zs 0<|zn 4<|zs 5<|zs 6<|zs 10<|zn 2 []))<|
 zq (zi (.cs .v (.b true)) []) (zn 1<|zs 10<|zn 8 [])<|
 .ret⟩
def ir_impl_MatchingOf:IF:=⟨[],1,4,[1,2],zq (zi (.cs (.o .v) (.l []))<|zi (.cs .v (.b false)) []) (zs 0<|zn 3 [])<|
 .seq (zq (zp 1<|zi (.ca 67 [.e 0] 1)<|zi (.un .not (.e 4)) []) (zs 0<|zn 2<|zs 5 [])<|
 .cond 3 (zq (zi (.li (.o .v) [])<|zp 1<|zi (.cs .v (.b false)) []) (zn 1<|zs 4<|zs 5<|zn 1 [])<|
 .ret) .skip)<|
 zq (zp 1<|zi (.ca 373 [.e 0] 1)<|zp 1<|zi (.cs .v (.b true)) []) (zn 1<|zs 4<|zs 5<|zn 1 [])<|
 .ret⟩
def ir_impl_TurnMatching:IF:=⟨[],2,13,[2,3],zq (zi (.cs (.o .v) (.l []))<|zi (.cs .v (.b false)) []) (zs 0<|zs 1<|zn 11 [])<|
 .seq (zq (zp 1<|zi (.ca 380 [.e 0] 1)<|zi (.un .not (.e 13))<|zp 1<|zg [(14,false)] (.cy (.e 1))<|zg [(14,false)] .nop<|zg [(14,false)] (.ln (.e 0) [])<|zg [(14,false)] (.bi .sub (.e 16) (.c (.n 1)))<|zg [(14,false)] (.mx (.c (.n 0)) (.e 17))<|zg [(14,false)] (.ca 23 [.e 15,.c (.n 0),.e 18] 1)<|zg [(14,false)] (.un .not (.e 19))<|zi (.pk (.e 14) (.c (.b true)) (.e 20)) []) (zs 0<|zs 1<|zn 6<|zs 21<|zn 4 [])<|
 .cond 8 (zq (zi (.li (.o .v) [])<|zp 1<|zi (.cs .v (.b false)) []) (zn 2<|zs 13<|zs 14<|zn 9 [])<|
 .ret) .skip)<|
 zq (zp 1<|zi (.ln (.e 0) [])<|zp 1 []) (zs 0<|zs 1<|zn 2<|zs 13<|zn 8 [])<|
 zq (zp 1<|zi (.mk (.n 0) (.e 4) (.e 4))<|zp 1 []) (zs 0<|zs 1<|zn 2<|zs 4<|zs 13<|zn 7 [])<|
 .seq (zq (zp 1<|zi (.ln (.e 0) [])<|zi (.cs .v (.n 0)) []) (zn 1<|zs 1<|zn 2<|zs 4<|zs 5<|zn 3<|zs 0<|zs 13<|zs 14<|zn 1 [])<|
 .block 0<|.loop<|zq (zi (.bi .lss (.e 11) (.e 10)) []) (zn 1<|zs 1<|zn 2<|zs 4<|zs 5<|zn 3<|zs 9<|zs 10<|zs 11<|zs 13 [])<|
 .seq (.cond 12 .skip (.exit 0))<|
 .seq (.block 1<|zq (zp 1<|zi (.iy (.e 9) (.e 11))<|zp 3 []) (zn 1<|zs 1<|zn 2<|zs 4<|zs 5<|zs 11<|zs 13<|zn 1<|zs 9<|zs 10<|zs 11<|zn 1 [])<|
 .reg (zp 3<|zi (.bi .sub (.e 6) (.e 1))<|zp 1<|zi (.bi .add (.e 13) (.e 4))<|zp 1<|zi (.bi .rem (.e 14) (.e 4))<|zp 2<|zi (.bi .sub (.e 7) (.e 1))<|zp 1<|zi (.bi .add (.e 16) (.e 4))<|zp 1<|zi (.bi .rem (.e 17) (.e 4))<|zi (.ix (.e 5) [] (.e 15))<|zi (.up 5 [.e 15] (.e 18)) []) (zn 1<|zs 1<|zn 2<|zs 4<|zs 20<|zn 3<|zs 9<|zs 10<|zs 11<|zn 1 []))<|
 .reg (zi (.bi .add (.e 11) (.c (.n 1)))<|zp 1 []) (zn 1<|zs 1<|zn 2<|zs 4<|zs 5<|zn 3<|zs 9<|zs 10<|zs 13<|zn 1 []))<|
 zq (zp 2<|zi (.cs .v (.b true)) []) (zn 2<|zs 5<|zs 13<|zn 9 [])<|
 .ret⟩
end Go.Cat
namespace Go.Cat
def ir_impl_BinomialPolynomial:IF:=⟨[],2,5,[2,3],zq (zi (.cs (.o .v) (.l []))<|zi (.cs .v (.b false)) []) (zs 0<|zs 1<|zn 3 [])<|
 .seq (zq (zp 1<|zi (.ca 23 [.e 0,.c (.n 0),.c (.n 14)] 1)<|zi (.un .not (.e 5))<|zp 1<|zg [(6,false)] (.cy (.e 1))<|zg [(6,false)] (.cy (.e 0))<|zg [(6,false)] (.ca 23 [.e 7,.c (.n 0),.e 8] 1)<|zg [(6,false)] (.un .not (.e 9))<|zi (.pk (.e 6) (.c (.b true)) (.e 10)) []) (zs 0<|zs 1<|zn 2<|zs 11 [])<|
 .cond 4 (zq (zi (.li (.o .v) [])<|zp 1<|zi (.cs .v (.b false)) []) (zn 2<|zs 5<|zs 6<|zn 1 [])<|
 .ret) .skip)<|
 zq (zp 2<|zi (.ca 466 [.e 0,.e 1] 1)<|zp 1<|zi (.cs .v (.b true)) []) (zn 2<|zs 5<|zs 6<|zn 1 [])<|
 .ret⟩
def ir_impl_CatalanPolynomial:IF:=⟨[],1,8,[1,2],zq (zi (.cs (.o .v) (.l []))<|zi (.cs .v (.b false)) []) (zs 0<|zn 7 [])<|
 .seq (zq (zp 1<|zi (.ca 23 [.e 0,.c (.n 0),.c (.n 7)] 1)<|zi (.un .not (.e 8)) []) (zs 0<|zn 6<|zs 9 [])<|
 .cond 7 (zq (zi (.li (.o .v) [])<|zp 1<|zi (.cs .v (.b false)) []) (zn 1<|zs 8<|zs 9<|zn 5 [])<|
 .ret) .skip)<|
 zq (zp 1<|zi (.bi .mul (.c (.n 2)) (.e 0))<|zp 1<|zi (.ca 412 [.e 8,.e 0] 2)<|zp 5 []) (zs 0<|zn 2<|zs 9<|zn 4 [])<|
 zq (zp 1<|zi (.bi .add (.e 0) (.c (.n 1)))<|zi (.ca 422 [.e 8] 2)<|zp 5 []) (zn 3<|zs 3<|zs 9<|zn 3 [])<|
 zq (zp 2<|zi (.ca 403 [.e 3,.e 4] 3)<|zp 7 []) (zn 5<|zs 8<|zs 10<|zn 1 [])<|
 zq (zp 4 []) (zn 1<|zs 5<|zs 6<|zn 5 [])<|
 .ret⟩
def ir_impl_DividePolynomials:IF:=⟨[],2,16,[2,3,4],zq (zi (.cs (.o .v) (.l []))<|zi (.cs (.o .v) (.l []))<|zi (.cs .v (.b false)) []) (zs 0<|zs 1<|zn 14 [])<|
 zq (zp 1<|zi (.ca 460 [.e 0] 1)<|zp 1<|zg [(16,true)] .nop<|zg [(16,true)] (.ln (.e 1) [])<|zg [(16,true)] (.ca 23 [.e 17,.c (.n 1),.c (.n 13)] 1)<|zi (.pk (.e 16) (.e 18) (.c (.b false)))<|zp 1<|zg [(19,true)] .nop<|zg [(19,true)] .nop<|zg [(19,true)] (.ln (.e 1) [])<|zg [(19,true)] (.bi .sub (.e 20) (.c (.n 1)))<|zg [(19,true)] (.iy (.e 1) (.e 21))<|zg [(19,true)] .nop<|zg [(19,true)] (.bi .eql (.e 22) (.c (.n 1)))<|zi (.pk (.e 19) (.e 23) (.c (.b false)))<|zp 1 []) (zs 0<|zs 1<|zn 3<|zs 24<|zn 10 [])<|
 .seq (zq (zp 1<|zi (.ln (.e 1) [])<|zi (.cs .v (.n 0)) []) (zs 0<|zs 1<|zn 3<|zs 5<|zn 4<|zs 1<|zs 16<|zs 17<|zn 3 [])<|
 .block 0<|.loop<|zq (zi (.bi .lss (.e 12) (.e 11)) []) (zs 0<|zs 1<|zn 3<|zs 5<|zn 4<|zs 10<|zs 11<|zs 12<|zs 16<|zn 2 [])<|
 .seq (.cond 13 .skip (.exit 0))<|
 .seq (.block 1<|zq (zi (.iy (.e 10) (.e 12))<|zp 2 []) (zs 0<|zs 1<|zn 3<|zs 5<|zs 16<|zn 3<|zs 10<|zs 11<|zs 12<|zn 3 [])<|
 .reg (zp 2<|zg [(5,true)] (.cy (.e 6))<|zg [(5,true)] (.ca 23 [.e 16,.c (.n (-1)),.c (.n 1)] 1)<|zi (.pk (.e 5) (.e 17) (.c (.b false)))<|zp 1 []) (zs 0<|zs 1<|zn 3<|zs 18<|zn 4<|zs 10<|zs 11<|zs 12<|zn 3 []))<|
 .reg (zi (.bi .add (.e 12) (.c (.n 1)))<|zp 1 []) (zs 0<|zs 1<|zn 3<|zs 5<|zn 4<|zs 10<|zs 11<|zs 16<|zn 3 []))<|
 .seq (zq (zp 1<|zi (.un .not (.e 5)) []) (zs 0<|zs 1<|zn 12<|zs 16<|zn 1 [])<|
 .cond 14 (zq (zi (.li (.o .v) [])<|zi (.li (.o .v) [])<|zp 2<|zi (.cs .v (.b false)) []) (zn 2<|zs 16<|zs 17<|zs 18<|zn 11 [])<|
 .ret) .skip)<|
 zq (zp 2<|zi (.ca 461 [.e 0,.e 1] 3)<|zp 7 []) (zn 7<|zs 16<|zs 17<|zs 18<|zn 6 [])<|
 .seq (zq (zp 1<|zi (.un .not (.e 9))<|zp 1<|zg [(16,false)] .nop<|zg [(16,false)] (.ca 428 [.e 7] 1)<|zg [(16,false)] (.un .not (.e 17))<|zi (.pk (.e 16) (.c (.b true)) (.e 18))<|zp 1<|zg [(19,false)] .nop<|zg [(19,false)] (.ca 428 [.e 8] 1)<|zg [(19,false)] (.un .not (.e 20))<|zi (.pk (.e 19) (.c (.b true)) (.e 21)) []) (zn 7<|zs 7<|zs 8<|zn 6<|zs 22 [])<|
 .cond 15 (zq (zi (.li (.o .v) [])<|zi (.li (.o .v) [])<|zp 2<|zi (.cs .v (.b false)) []) (zn 2<|zs 16<|zs 17<|zs 18<|zn 11 [])<|
 .ret) .skip)<|
 zq (zp 4<|zi (.cs .v (.b true)) []) (zn 2<|zs 7<|zs 8<|zs 16<|zn 11 [])<|
 .ret⟩
def ir_impl_FormatPolynomial:IF:=⟨[],1,9,[1],zq (zi (.cs .v (.s [])) []) (zs 0<|zn 8 [])<|
 .seq (zq (zp 1<|zi (.ln (.e 0) [])<|zi (.bi .eql (.e 9) (.c (.n 0)))<|zp 1<|zg [(10,false)] .nop<|zg [(10,false)] (.ca 428 [.e 0] 1)<|zg [(10,false)] (.un .not (.e 11))<|zi (.pk (.e 10) (.c (.b true)) (.e 12)) []) (zs 0<|zn 3<|zs 13<|zn 4 [])<|
 .cond 4 (zq (zi (.cs .v (.s [48])) []) (zn 1<|zs 9<|zn 7 [])<|
 .ret) .skip)<|
 zq (zi (.li (.o .v) [])<|zp 1 []) (zs 0<|zn 1<|zs 9<|zn 6 [])<|
 .seq (zq (zp 1<|zi (.ln (.e 0) [])<|zi (.cs .v (.n 0)) []) (zn 2<|zs 2<|zn 2<|zs 0<|zs 9<|zs 10<|zn 1 [])<|
 .block 0<|.loop<|zq (zi (.bi .lss (.e 7) (.e 6)) []) (zn 2<|zs 2<|zn 2<|zs 5<|zs 6<|zs 7<|zs 9 [])<|
 .seq (.cond 8 .skip (.exit 0))<|
 .seq (.block 1<|zq (zi (.iy (.e 5) (.e 7))<|zp 2 []) (zn 2<|zs 2<|zs 9<|zn 1<|zs 5<|zs 6<|zs 7<|zn 1 [])<|
 .reg (zp 2<|zi (.ca 143 [.e 3] 1)<|zi (.li (.o .v) [.e 9])<|zi (.ap false (.e 2) (.e 10))<|zp 1 []) (zn 2<|zs 11<|zn 2<|zs 5<|zs 6<|zs 7<|zn 1 []))<|
 .reg (zi (.bi .add (.e 7) (.c (.n 1)))<|zp 1 []) (zn 2<|zs 2<|zn 2<|zs 5<|zs 6<|zs 9<|zn 1 []))<|
 zq (zp 1<|zi (.ca 184 [.e 2,.c (.s [44])] 1)<|zp 1 []) (zn 1<|zs 9<|zn 7 [])<|
 .ret⟩
def ir_impl_IsPolynomial:IF:=⟨[],1,9,[1],zq (zi (.cs .v (.b false)) []) (zs 0<|zn 8 [])<|
 .seq (zq (zp 1<|zi (.ln (.e 0) [])<|zi (.bi .gtr (.e 9) (.c (.n 61)))<|zp 1<|zg [(10,false)] .nop<|zg [(10,false)] (.ln (.e 0) [])<|zg [(10,false)] (.bi .gtr (.e 11) (.c (.n 0)))<|zg [(10,false)] (.cy (.e 12))<|zg [(10,false),(13,true)] .nop<|zg [(10,false),(13,true)] .nop<|zg [(10,false),(13,true)] (.ln (.e 0) [])<|zg [(10,false),(13,true)] (.bi .sub (.e 14) (.c (.n 1)))<|zg [(10,false),(13,true)] (.iy (.e 0) (.e 15))<|zg [(10,false),(13,true)] .nop<|zg [(10,false),(13,true)] (.bi .eql (.e 16) (.c (.n 0)))<|zg [(10,false)] (.pk (.e 13) (.e 17) (.c (.b false)))<|zi (.pk (.e 10) (.c (.b true)) (.e 18)) []) (zs 0<|zn 2<|zs 19<|zn 5 [])<|
 .cond 3 (zq (zi (.cs .v (.b false)) []) (zn 1<|zs 9<|zn 7 [])<|
 .ret) .skip)<|
 .seq (zq (zp 1<|zi (.ln (.e 0) [])<|zi (.cs .v (.n 0)) []) (zn 4<|zs 0<|zs 9<|zs 10<|zn 2 [])<|
 .block 0<|.loop<|zq (zi (.bi .lss (.e 6) (.e 5)) []) (zn 4<|zs 4<|zs 5<|zs 6<|zs 9<|zn 1 [])<|
 .seq (.cond 7 .skip (.exit 0))<|
 .seq (.block 1<|zq (zi (.iy (.e 4) (.e 6))<|zp 2 []) (zn 2<|zs 9<|zn 1<|zs 4<|zs 5<|zs 6<|zn 2 [])<|
 zq (zp 1<|zi (.ca 23 [.e 2,.c (.n (-1000000000)),.c (.n 1000000000)] 1)<|zi (.un .not (.e 9)) []) (zn 4<|zs 4<|zs 5<|zs 6<|zn 1<|zs 10 [])<|
 .cond 8 (zq (zi (.cs .v (.b false)) []) (zn 1<|zs 9<|zn 7 [])<|
 .ret) .skip)<|
 .reg (zi (.bi .add (.e 6) (.c (.n 1)))<|zp 1 []) (zn 4<|zs 4<|zs 5<|zs 9<|zn 2 []))<|
 zq (zi (.cs .v (.b true)) []) (zn 1<|zs 9<|zn 7 [])<|
 .ret⟩
def ir_impl_NumberPolynomial:IF:=⟨[],1,8,[1,2],zq (zi (.cs (.o .v) (.l []))<|zi (.cs .v (.b false)) []) (zs 0<|zn 7 [])<|
 zq (zi (.li (.o .v) [])<|zp 1 []) (zs 0<|zn 2<|zs 8<|zn 4 [])<|
 .seq (zq (zp 1<|zi (.ca 23 [.e 0,.c (.n 0),.c (.n 20)] 1)<|zi (.un .not (.e 8)) []) (zs 0<|zn 2<|zs 3<|zs 9<|zn 3 [])<|
 .cond 4 (zq (zp 2<|zi (.cs .v (.b false)) []) (zn 1<|zs 3<|zs 8<|zn 5 [])<|
 .ret) .skip)<|
 .seq (zq (zp 1<|zi (.cs .v (.n 0)) []) (zn 3<|zs 3<|zn 1<|zs 0<|zs 8<|zn 1 [])<|
 .block 0<|.loop<|zq (zi (.bi .lss (.e 6) (.e 5)) []) (zn 3<|zs 3<|zn 1<|zs 5<|zs 6<|zs 8 [])<|
 .seq (.cond 7 .skip (.exit 0))<|
 .seq (.block 1<|.reg (zp 1<|zi (.li (.o .v) [.c (.n 1)])<|zi (.ap false (.e 3) (.e 8))<|zp 1 []) (zn 3<|zs 9<|zn 1<|zs 5<|zs 6<|zn 1 []))<|
 .reg (zi (.bi .add (.e 6) (.c (.n 1)))<|zp 1 []) (zn 3<|zs 3<|zn 1<|zs 5<|zs 8<|zn 1 []))<|
 zq (zp 2<|zi (.cs .v (.b true)) []) (zn 1<|zs 3<|zs 8<|zn 5 [])<|
 .ret⟩
def ir_impl_divide:IF:=⟨[],2,17,[2,3,4],zq (zi (.cs (.o .v) (.l []))<|zi (.cs (.o .v) (.l []))<|zi (.cs .v (.b false)) []) (zs 0<|zs 1<|zn 15 [])<|
 zq (zp 1<|zi (.ca 75 [.e 0] 1)<|zp 1 []) (zs 0<|zs 1<|zn 3<|zs 17<|zn 11 [])<|
 zq (zp 1<|zi (.ln (.e 0) [])<|zp 1<|zi (.ln (.e 1) [])<|zi (.bi .sub (.e 17) (.e 18))<|zi (.bi .add (.e 19) (.c (.n 1)))<|zi (.mx (.c (.n 0)) (.e 20))<|zi (.mk (.n 0) (.e 21) (.e 21))<|zp 1 []) (zn 1<|zs 1<|zn 3<|zs 5<|zs 22<|zn 10 [])<|
 .seq (zq (zp 1<|zi (.ln (.e 6) [])<|zi (.bi .sub (.e 17) (.c (.n 1)))<|zp 1 []) (zn 1<|zs 1<|zn 3<|zs 5<|zs 6<|zs 18<|zn 9 [])<|
 .block 0<|.loop<|.seq (zq (zp 1<|zi (.bi .geq (.e 7) (.c (.n 0))) []) (zn 1<|zs 1<|zn 3<|zs 5<|zs 6<|zs 7<|zn 3<|zs 17<|zn 5 [])<|
 .cond 11 .skip (.exit 0))<|
 .seq (.block 1<|zq (zp 3<|zi (.ln (.e 1) [])<|zi (.bi .add (.e 7) (.e 17))<|zi (.bi .sub (.e 18) (.c (.n 1)))<|zi (.ix (.e 5) [] (.e 19))<|zp 2 []) (zn 1<|zs 1<|zn 3<|zs 5<|zs 6<|zs 7<|zs 20<|zn 8 [])<|
 .seq (zq (zp 1<|zi (.ca 23 [.e 8,.c (.n (-1000000000)),.c (.n 1000000000)] 1)<|zi (.un .not (.e 17)) []) (zn 1<|zs 1<|zn 3<|zs 5<|zs 6<|zs 7<|zs 8<|zn 3<|zs 18<|zn 4 [])<|
 .cond 12 (zq (zi (.cs (.o .v) (.l []))<|zi (.cs (.o .v) (.l []))<|zi (.cs .v (.b false)) []) (zn 2<|zs 17<|zs 18<|zs 19<|zn 12 [])<|
 .ret) .skip)<|
 zq (zp 3<|zi (.ix (.e 6) [] (.e 7))<|zi (.up 6 [.e 7] (.e 8)) []) (zn 1<|zs 1<|zn 3<|zs 5<|zs 18<|zs 7<|zs 8<|zn 8 [])<|
 zq (zp 1<|zi (.ln (.e 1) [])<|zi (.cs .v (.n 0)) []) (zn 1<|zs 1<|zn 3<|zs 5<|zs 6<|zs 7<|zs 8<|zn 4<|zs 1<|zs 17<|zs 18<|zn 1 [])<|
 .block 2<|.loop<|zq (zi (.bi .lss (.e 15) (.e 14)) []) (zn 1<|zs 1<|zn 3<|zs 5<|zs 6<|zs 7<|zs 8<|zn 4<|zs 13<|zs 14<|zs 15<|zs 17 [])<|
 .seq (.cond 16 .skip (.exit 2))<|
 .seq (.block 3<|zq (zp 1<|zi (.iy (.e 13) (.e 15))<|zp 3 []) (zn 1<|zs 1<|zn 3<|zs 5<|zs 6<|zs 7<|zs 8<|zs 15<|zs 17<|zn 2<|zs 13<|zs 14<|zs 15<|zn 1 [])<|
 .reg (zp 3<|zi (.bi .add (.e 7) (.e 9))<|zp 3<|zi (.bi .add (.e 7) (.e 9))<|zi (.ix (.e 5) [] (.e 18))<|zp 3<|zi (.bi .mul (.e 8) (.e 10))<|zi (.bi .sub (.e 19) (.e 20))<|zi (.ix (.e 5) [] (.e 17))<|zi (.up 5 [.e 17] (.e 21)) []) (zn 1<|zs 1<|zn 3<|zs 23<|zs 6<|zs 7<|zs 8<|zn 4<|zs 13<|zs 14<|zs 15<|zn 1 []))<|
 .reg (zi (.bi .add (.e 15) (.c (.n 1)))<|zp 1 []) (zn 1<|zs 1<|zn 3<|zs 5<|zs 6<|zs 7<|zs 8<|zn 4<|zs 13<|zs 14<|zs 17<|zn 1 []))<|
 .reg (zp 1<|zi (.bi .sub (.e 7) (.c (.n 1)))<|zp 1 []) (zn 1<|zs 1<|zn 3<|zs 5<|zs 6<|zs 17<|zn 9 []))<|
 zq (zp 1<|zi (.ca 469 [.e 6] 1)<|zp 1<|zi (.ca 469 [.e 5] 1)<|zp 2<|zi (.cs .v (.b true)) []) (zn 2<|zs 17<|zs 18<|zs 19<|zn 12 [])<|
 .ret⟩
def ir_impl_gauss:IF:=⟨[],2,19,[2],zq (zi (.cs (.o .v) (.l [])) []) (zs 0<|zs 1<|zn 17 [])<|
 .seq (zq (zp 1<|zi (.bi .eql (.e 1) (.c (.n 0)))<|zp 1<|zg [(19,false)] (.cy (.e 1))<|zg [(19,false)] (.cy (.e 0))<|zg [(19,false)] (.bi .eql (.e 20) (.e 21))<|zi (.pk (.e 19) (.c (.b true)) (.e 22)) []) (zs 0<|zs 1<|zn 8<|zs 23<|zn 8 [])<|
 .cond 10 (zq (zi (.li (.o .v) [.c (.n 1)])<|zp 1 []) (zn 2<|zs 19<|zn 16 [])<|
 .ret) .skip)<|
 zq (zp 1<|zi (.bi .sub (.e 0) (.c (.n 1)))<|zp 1<|zi (.ca 466 [.e 19,.e 1] 1)<|zp 1<|zi (.bi .sub (.e 0) (.c (.n 1)))<|zp 1<|zi (.bi .sub (.e 1) (.c (.n 1)))<|zi (.ca 466 [.e 21,.e 22] 1)<|zp 2 []) (zs 0<|zs 1<|zn 1<|zs 20<|zs 23<|zn 14 [])<|
 zq (zp 1<|zi (.ln (.e 3) [])<|zp 1<|zi (.ln (.e 4) [])<|zp 1<|zi (.bi .add (.e 20) (.e 0))<|zp 1<|zi (.bi .sub (.e 21) (.e 1))<|zi (.mx (.e 19) (.e 22))<|zi (.mk (.n 0) (.e 23) (.e 23))<|zp 1 []) (zs 0<|zs 1<|zn 1<|zs 3<|zs 4<|zs 24<|zn 13 [])<|
 .seq (zq (zp 1<|zi (.ln (.e 3) [])<|zi (.cs .v (.n 0)) []) (zs 0<|zs 1<|zn 2<|zs 4<|zs 5<|zn 5<|zs 3<|zs 19<|zs 20<|zn 5 [])<|
 .block 0<|.loop<|zq (zi (.bi .lss (.e 13) (.e 12)) []) (zs 0<|zs 1<|zn 2<|zs 4<|zs 5<|zn 5<|zs 11<|zs 12<|zs 13<|zs 19<|zn 4 [])<|
 .seq (.cond 14 .skip (.exit 0))<|
 .seq (.block 1<|zq (zp 1<|zi (.ix (.e 11) [] (.e 13))<|zp 3 []) (zs 0<|zs 1<|zn 2<|zs 4<|zs 5<|zs 13<|zs 19<|zn 3<|zs 11<|zs 12<|zs 13<|zn 5 [])<|
 .reg (zp 3<|zi (.ix (.e 5) [] (.e 6))<|zi (.up 5 [.e 6] (.e 7)) []) (zs 0<|zs 1<|zn 2<|zs 4<|zs 20<|zn 5<|zs 11<|zs 12<|zs 13<|zn 5 []))<|
 .reg (zi (.bi .add (.e 13) (.c (.n 1)))<|zp 1 []) (zs 0<|zs 1<|zn 2<|zs 4<|zs 5<|zn 5<|zs 11<|zs 12<|zs 19<|zn 5 []))<|
 .seq (zq (zp 1<|zi (.ln (.e 4) [])<|zi (.cs .v (.n 0)) []) (zs 0<|zs 1<|zn 3<|zs 5<|zn 9<|zs 4<|zs 19<|zs 20<|zn 1 [])<|
 .block 2<|.loop<|zq (zi (.bi .lss (.e 17) (.e 16)) []) (zs 0<|zs 1<|zn 3<|zs 5<|zn 9<|zs 15<|zs 16<|zs 17<|zs 19 [])<|
 .seq (.cond 18 .skip (.exit 2))<|
 .seq (.block 3<|zq (zp 1<|zi (.ix (.e 15) [] (.e 17))<|zp 3 []) (zs 0<|zs 1<|zn 3<|zs 5<|zn 2<|zs 17<|zs 19<|zn 5<|zs 15<|zs 16<|zs 17<|zn 1 [])<|
 .reg (zp 3<|zi (.bi .add (.e 8) (.e 0))<|zp 1<|zi (.bi .sub (.e 19) (.e 1))<|zp 3<|zi (.bi .add (.e 8) (.e 0))<|zp 1<|zi (.bi .sub (.e 21) (.e 1))<|zi (.ix (.e 5) [] (.e 22))<|zp 2<|zi (.bi .add (.e 23) (.e 9))<|zi (.ix (.e 5) [] (.e 20))<|zi (.up 5 [.e 20] (.e 24)) []) (zs 0<|zs 1<|zn 3<|zs 26<|zn 9<|zs 15<|zs 16<|zs 17<|zn 1 []))<|
 .reg (zi (.bi .add (.e 17) (.c (.n 1)))<|zp 1 []) (zs 0<|zs 1<|zn 3<|zs 5<|zn 9<|zs 15<|zs 16<|zs 19<|zn 1 []))<|
 zq (zp 2 []) (zn 2<|zs 5<|zn 16 [])<|
 .ret⟩
def ir_impl_isFactor:IF:=⟨[],1,8,[1],zq (zi (.cs .v (.b false)) []) (zs 0<|zn 7 [])<|
 .seq (zq (zp 1<|zi (.ln (.e 0) [])<|zi (.cs .v (.n 0)) []) (zs 0<|zn 2<|zs 0<|zs 8<|zs 9<|zn 2 [])<|
 .block 0<|.loop<|zq (zi (.bi .lss (.e 5) (.e 4)) []) (zs 0<|zn 2<|zs 3<|zs 4<|zs 5<|zs 8<|zn 1 [])<|
 .seq (.cond 6 .skip (.exit 0))<|
 .seq (.block 1<|zq (zi (.iy (.e 3) (.e 5))<|zp 2 []) (zs 0<|zn 1<|zs 8<|zs 3<|zs 4<|zs 5<|zn 2 [])<|
 zq (zp 1<|zi (.ca 23 [.e 2,.c (.n (-100000)),.c (.n 100000)] 1)<|zi (.un .not (.e 8)) []) (zs 0<|zn 2<|zs 3<|zs 4<|zs 5<|zn 1<|zs 9 [])<|
 .cond 7 (zq (zi (.cs .v (.b false)) []) (zn 1<|zs 8<|zn 6 [])<|
 .ret) .skip)<|
 .reg (zi (.bi .add (.e 5) (.c (.n 1)))<|zp 1 []) (zs 0<|zn 2<|zs 3<|zs 4<|zs 8<|zn 2 []))<|
 zq (zp 1<|zi (.ca 428 [.e 0] 1)<|zp 1 []) (zn 1<|zs 8<|zn 6 [])<|
 .ret⟩
def ir_impl_trimmed:IF:=⟨[],1,4,[1],zq (zi (.cs (.o .v) (.l [])) []) (zs 0<|zn 3 [])<|
 zq (zp 1<|zi (.ln (.e 0) [])<|zp 1 []) (zs 0<|zn 1<|zs 4<|zn 1 [])<|
 .seq (.block 0<|.loop<|.seq (zq (zp 1<|zi (.bi .gtr (.e 2) (.c (.n 0)))<|zp 1<|zg [(4,true)] .nop<|zg [(4,true)] (.cy (.e 2))<|zg [(4,true)] (.bi .sub (.e 5) (.c (.n 1)))<|zg [(4,true)] (.ix (.e 0) [] (.e 6))<|zg [(4,true)] .nop<|zg [(4,true)] (.bi .eql (.e 7) (.c (.n 0)))<|zi (.pk (.e 4) (.e 8) (.c (.b false))) []) (zs 0<|zn 1<|zs 2<|zs 9 [])<|
 .cond 3 .skip (.exit 0))<|
 .block 1<|.reg (zp 1<|zi (.bi .sub (.e 2) (.c (.n 1)))<|zp 1 []) (zs 0<|zn 1<|zs 4<|zn 1 []))<|
 zq (zp 2<|zi (.sb true (.e 0) none (some (.e 2)))<|zp 1 []) (zn 1<|zs 4<|zn 2 [])<|
 .ret⟩
end Go.Cat
namespace Go.Cat
def ir_impl_FixedByTurn:IF:=⟨[],3,17,[3],zq (zi (.cs .v (.n 0)) []) (zs 0<|zs 1<|zs 2<|zn 14 [])<|
 zq (zp 2<|zi (.ca 571 [.e 0,.e 1] 1)<|zp 1 []) (zs 0<|zs 1<|zs 2<|zn 1<|zs 17<|zn 12 [])<|
 .seq (zq (zp 1<|zi (.bi .lss (.e 4) (.c (.n 0)))<|zp 1<|zg [(17,false)] (.cy (.e 2))<|zg [(17,false)] (.cy (.e 4))<|zg [(17,false)] (.bi .sub (.e 19) (.c (.n 1)))<|zg [(17,false)] (.ca 23 [.e 18,.c (.n 0),.e 20] 1)<|zg [(17,false)] (.un .not (.e 21))<|zi (.pk (.e 17) (.c (.b true)) (.e 22)) []) (zs 0<|zs 1<|zs 2<|zn 6<|zs 23<|zn 7 [])<|
 .cond 9 (zq (zi (.cs .v (.n (-1))) []) (zn 3<|zs 17<|zn 13 [])<|
 .ret) .skip)<|
 zq (zp 2<|zi (.ca 587 [.e 0,.e 1] 1)<|zp 1 []) (zn 2<|zs 2<|zn 2<|zs 17<|zn 11 [])<|
 zq (zi (.cs .v (.n 0)) []) (zn 2<|zs 2<|zn 2<|zs 5<|zs 17<|zn 10 [])<|
 .seq (zq (zp 1<|zi (.ln (.e 5) [])<|zi (.cs .v (.n 0)) []) (zn 2<|zs 2<|zn 2<|zs 5<|zs 6<|zn 3<|zs 17<|zs 18<|zn 5 [])<|
 .block 0<|.loop<|zq (zi (.bi .lss (.e 11) (.e 10)) []) (zn 2<|zs 2<|zn 2<|zs 5<|zs 6<|zn 3<|zs 10<|zs 11<|zs 17<|zn 4 [])<|
 .seq (.cond 12 .skip (.exit 0))<|
 .seq (.block 1<|zq (zp 2 []) (zn 2<|zs 2<|zn 2<|zs 5<|zs 6<|zs 11<|zn 2<|zs 10<|zs 11<|zn 5 [])<|
 zq (zp 2 []) (zn 2<|zs 2<|zn 2<|zs 5<|zs 6<|zs 7<|zs 7<|zn 1<|zs 10<|zs 11<|zn 5 [])<|
 .seq (zq (zp 1<|zi (.cs .v (.n 0)) []) (zn 2<|zs 2<|zn 2<|zs 5<|zs 6<|zs 7<|zs 8<|zn 1<|zs 10<|zs 11<|zn 1<|zs 2<|zs 17<|zn 2 [])<|
 .block 2<|.loop<|zq (zi (.bi .lss (.e 14) (.e 13)) []) (zn 2<|zs 2<|zn 2<|zs 5<|zs 6<|zs 7<|zs 8<|zn 1<|zs 10<|zs 11<|zn 1<|zs 13<|zs 14<|zs 17<|zn 1 [])<|
 .seq (.cond 15 .skip (.exit 2))<|
 .seq (.block 3<|.reg (zp 2<|zi (.ix (.e 5) [] (.e 8))<|zp 2 []) (zn 2<|zs 2<|zn 2<|zs 5<|zs 6<|zs 7<|zs 17<|zn 1<|zs 10<|zs 11<|zn 1<|zs 13<|zs 14<|zn 2 []))<|
 .reg (zi (.bi .add (.e 14) (.c (.n 1)))<|zp 1 []) (zn 2<|zs 2<|zn 2<|zs 5<|zs 6<|zs 7<|zs 8<|zn 1<|zs 10<|zs 11<|zn 1<|zs 13<|zs 17<|zn 2 []))<|
 zq (zp 2<|zi (.bi .eql (.e 8) (.e 7)) []) (zn 2<|zs 2<|zn 2<|zs 5<|zs 6<|zn 3<|zs 10<|zs 11<|zn 4<|zs 17 [])<|
 .cond 16 (.reg (zp 1<|zi (.bi .add (.e 6) (.c (.n 1)))<|zp 1 []) (zn 2<|zs 2<|zn 2<|zs 5<|zs 17<|zn 3<|zs 10<|zs 11<|zn 5 [])) .skip)<|
 .reg (zi (.bi .add (.e 11) (.c (.n 1)))<|zp 1 []) (zn 2<|zs 2<|zn 2<|zs 5<|zs 6<|zn 3<|zs 10<|zs 17<|zn 5 []))<|
 zq (zp 2 []) (zn 3<|zs 6<|zn 13 [])<|
 .ret⟩
def ir_impl_OrbitSizes:IF:=⟨[],2,16,[2,3],zq (zi (.cs (.o .v) (.l []))<|zi (.cs .v (.b false)) []) (zs 0<|zs 1<|zn 14 [])<|
 zq (zi (.li (.o .v) [])<|zp 1 []) (zs 0<|zs 1<|zn 2<|zs 16<|zn 11 [])<|
 .seq (zq (zp 2<|zi (.ca 571 [.e 0,.e 1] 1)<|zi (.bi .lss (.e 16) (.c (.n 0))) []) (zs 0<|zs 1<|zn 2<|zs 4<|zn 5<|zs 17<|zn 5 [])<|
 .cond 10 (zq (zp 2<|zi (.cs .v (.b false)) []) (zn 2<|zs 4<|zs 16<|zn 12 [])<|
 .ret) .skip)<|
 zq (zp 2<|zi (.ca 587 [.e 0,.e 1] 1)<|zp 1 []) (zn 4<|zs 4<|zs 16<|zn 10 [])<|
 zq (zp 1<|zi (.ln (.e 5) [])<|zi (.mk (.b false) (.e 16) (.e 16))<|zp 1 []) (zn 4<|zs 4<|zs 5<|zs 17<|zn 9 [])<|
 .seq (zq (zp 1<|zi (.ln (.e 5) [])<|zi (.cs .v (.n 0)) []) (zn 4<|zs 4<|zs 5<|zs 6<|zn 4<|zs 16<|zs 17<|zn 3 [])<|
 .block 0<|.loop<|zq (zi (.bi .lss (.e 12) (.e 11)) []) (zn 4<|zs 4<|zs 5<|zs 6<|zn 4<|zs 11<|zs 12<|zs 16<|zn 2 [])<|
 .seq (.cond 13 .skip (.exit 0))<|
 .seq (.block 1<|zq (zp 2 []) (zn 4<|zs 4<|zs 5<|zs 6<|zs 12<|zn 3<|zs 11<|zs 12<|zn 3 [])<|
 zq (zi (.cs .v (.n 0)) []) (zn 4<|zs 4<|zs 5<|zs 6<|zs 7<|zs 16<|zn 2<|zs 11<|zs 12<|zn 3 [])<|
 .seq (zq (zp 2 []) (zn 4<|zs 4<|zs 5<|zs 6<|zn 1<|zs 8<|zs 7<|zn 1<|zs 11<|zs 12<|zn 3 [])<|
 .block 2<|.loop<|.seq (zq (zp 2<|zi (.ix (.e 6) [] (.e 9))<|zp 1<|zi (.un .not (.e 16)) []) (zn 4<|zs 4<|zs 5<|zs 6<|zn 1<|zs 8<|zs 9<|zn 1<|zs 11<|zs 12<|zn 1<|zs 17<|zn 1 [])<|
 .cond 14 .skip (.exit 2))<|
 .seq (.block 3<|zq (zp 2<|zi (.ix (.e 6) [] (.e 9))<|zi (.up 6 [.e 9] (.c (.b true))) []) (zn 4<|zs 4<|zs 5<|zs 17<|zn 1<|zs 8<|zs 9<|zn 1<|zs 11<|zs 12<|zn 3 [])<|
 .reg (zp 1<|zi (.bi .add (.e 8) (.c (.n 1)))<|zp 1 []) (zn 4<|zs 4<|zs 5<|zs 6<|zn 1<|zs 16<|zs 9<|zn 1<|zs 11<|zs 12<|zn 3 []))<|
 .reg (zp 2<|zi (.ix (.e 5) [] (.e 9))<|zp 2 []) (zn 4<|zs 4<|zs 5<|zs 6<|zn 1<|zs 8<|zs 16<|zn 1<|zs 11<|zs 12<|zn 3 []))<|
 zq (zp 1<|zi (.bi .gtr (.e 8) (.c (.n 0))) []) (zn 4<|zs 4<|zs 5<|zs 6<|zn 1<|zs 8<|zn 2<|zs 11<|zs 12<|zn 2<|zs 16 [])<|
 .cond 15 (.reg (zp 2<|zi (.li (.o .v) [.e 8])<|zi (.ap false (.e 4) (.e 16))<|zp 1 []) (zn 4<|zs 17<|zs 5<|zs 6<|zn 4<|zs 11<|zs 12<|zn 3 [])) .skip)<|
 .reg (zi (.bi .add (.e 12) (.c (.n 1)))<|zp 1 []) (zn 4<|zs 4<|zs 5<|zs 6<|zn 4<|zs 11<|zs 16<|zn 3 []))<|
 zq (zp 2<|zi (.cs .v (.b true)) []) (zn 2<|zs 4<|zs 16<|zn 12 [])<|
 .ret⟩
def ir_impl_OrderOfTurn:IF:=⟨[],2,8,[2],zq (zi (.cs .v (.n 0)) []) (zs 0<|zs 1<|zn 6 [])<|
 .seq (zq (zp 1<|zi (.ca 23 [.e 1,.c (.n 1),.c (.n 5)] 1)<|zi (.un .not (.e 8)) []) (zs 0<|zs 1<|zn 1<|zs 9<|zn 4 [])<|
 .cond 3 (zq (zi (.cs .v (.n (-1))) []) (zn 2<|zs 8<|zn 5 [])<|
 .ret) .skip)<|
 .seq (zq (zp 1 []) (zn 1<|zs 1<|zn 2<|zs 0<|zn 3 [])<|
 .block 0<|zq (zi (.bi .eql (.e 4) (.c (.s [109,97,116,99,104,105,110,103,115])))<|zp 1 []) (zn 1<|zs 1<|zn 2<|zs 4<|zs 8<|zn 2 [])<|
 .cond 5 (zq (zp 1<|zi (.bi .mul (.c (.n 2)) (.e 1))<|zp 1 []) (zn 2<|zs 8<|zn 5 [])<|
 .ret) (zq (zi (.bi .eql (.e 4) (.c (.s [112,97,114,116,105,116,105,111,110,115])))<|zp 1 []) (zn 1<|zs 1<|zn 2<|zs 4<|zn 1<|zs 8<|zn 1 [])<|
 .cond 6 (zq (zp 2 []) (zn 2<|zs 1<|zn 5 [])<|
 .ret) (zq (zi (.bi .eql (.e 4) (.c (.s [116,114,105,97,110,103,117,108,97,116,105,111,110,115])))<|zp 1 []) (zn 1<|zs 1<|zn 5<|zs 8 [])<|
 .cond 7 (zq (zp 1<|zi (.bi .add (.e 1) (.c (.n 2)))<|zp 1 []) (zn 2<|zs 8<|zn 5 [])<|
 .ret) .skip)))<|
 zq (zi (.cs .v (.n (-1))) []) (zn 2<|zs 8<|zn 5 [])<|
 .ret⟩
def ir_impl_SieveHolds:IF:=⟨[],2,11,[2],zq (zi (.cs .v (.b false)) []) (zs 0<|zs 1<|zn 9 [])<|
 zq (zp 2<|zi (.ca 571 [.e 0,.e 1] 1)<|zp 1 []) (zs 0<|zs 1<|zn 1<|zs 11<|zn 7 [])<|
 .seq (zq (zp 1<|zi (.bi .lss (.e 3) (.c (.n 0))) []) (zs 0<|zs 1<|zn 1<|zs 3<|zn 4<|zs 11<|zn 2 [])<|
 .cond 8 (zq (zi (.cs .v (.b false)) []) (zn 2<|zs 11<|zn 8 [])<|
 .ret) .skip)<|
 zq (zp 1<|zi (.ca 408 [.e 1] 2)<|zp 5 []) (zs 0<|zs 1<|zn 1<|zs 3<|zs 11<|zn 6 [])<|
 .seq (zq (zi (.cs .v (.n 0)) []) (zs 0<|zs 1<|zn 1<|zs 3<|zs 4<|zs 11<|zn 5 [])<|
 .block 0<|.loop<|.seq (zq (zp 2<|zi (.bi .lss (.e 5) (.e 3)) []) (zs 0<|zs 1<|zn 1<|zs 3<|zs 4<|zs 5<|zn 3<|zs 11<|zn 1 [])<|
 .cond 9 .skip (.exit 0))<|
 .seq (.block 1<|zq (zp 4<|zi (.ca 589 [.e 3,.e 5] 1)<|zi (.bi .quo (.e 3) (.e 11))<|zi (.ca 588 [.e 4,.e 12] 2)<|zp 5 []) (zs 0<|zs 1<|zn 1<|zs 3<|zs 4<|zs 5<|zs 13<|zs 14<|zn 3 [])<|
 zq (zp 1<|zi (.un .not (.e 7))<|zp 1<|zg [(11,false)] (.cy (.e 6))<|zg [(11,false)] (.cy (.e 0))<|zg [(11,false)] (.cy (.e 1))<|zg [(11,false)] (.cy (.e 5))<|zg [(11,false)] (.ca 572 [.e 13,.e 14,.e 15] 1)<|zg [(11,false)] (.bi .neq (.e 12) (.e 16))<|zi (.pk (.e 11) (.c (.b true)) (.e 17)) []) (zs 0<|zs 1<|zn 1<|zs 3<|zs 4<|zs 5<|zn 4<|zs 18 [])<|
 .cond 10 (zq (zi (.cs .v (.b false)) []) (zn 2<|zs 11<|zn 8 [])<|
 .ret) .skip)<|
 .reg (zp 1<|zi (.bi .add (.e 5) (.c (.n 1)))<|zp 1 []) (zs 0<|zs 1<|zn 1<|zs 3<|zs 4<|zs 11<|zn 5 []))<|
 zq (zi (.cs .v (.b true)) []) (zn 2<|zs 11<|zn 8 [])<|
 .ret⟩
def ir_impl_ValueAtRoot:IF:=⟨[],2,16,[2,3],zq (zi (.cs .v (.n 0))<|zi (.cs .v (.b false)) []) (zs 0<|zs 1<|zn 14 [])<|
 .seq (zq (zp 1<|zi (.ca 460 [.e 0] 1)<|zi (.un .not (.e 16))<|zp 1<|zg [(17,false)] (.cy (.e 1))<|zg [(17,false)] (.ca 23 [.e 18,.c (.n 1),.c (.n 16)] 1)<|zg [(17,false)] (.un .not (.e 19))<|zi (.pk (.e 17) (.c (.b true)) (.e 20)) []) (zs 0<|zs 1<|zn 6<|zs 21<|zn 7 [])<|
 .cond 8 (zq (zi (.cs .v (.n 0))<|zi (.cs .v (.b false)) []) (zn 2<|zs 16<|zs 17<|zn 12 [])<|
 .ret) .skip)<|
 zq (zp 1<|zi (.mk (.n 0) (.e 1) (.e 1))<|zp 1 []) (zs 0<|zs 1<|zn 2<|zs 16<|zn 11 [])<|
 .seq (zq (zp 1<|zi (.ln (.e 0) [])<|zi (.cs .v (.n 0)) []) (zn 1<|zs 1<|zn 2<|zs 4<|zn 4<|zs 0<|zs 16<|zs 17<|zn 4 [])<|
 .block 0<|.loop<|zq (zi (.bi .lss (.e 11) (.e 10)) []) (zn 1<|zs 1<|zn 2<|zs 4<|zn 4<|zs 9<|zs 10<|zs 11<|zs 16<|zn 3 [])<|
 .seq (.cond 12 .skip (.exit 0))<|
 .seq (.block 1<|zq (zp 1<|zi (.iy (.e 9) (.e 11))<|zp 3 []) (zn 1<|zs 1<|zn 2<|zs 4<|zs 11<|zs 16<|zn 2<|zs 9<|zs 10<|zs 11<|zn 4 [])<|
 .reg (zp 3<|zi (.bi .rem (.e 5) (.e 1))<|zp 3<|zi (.bi .rem (.e 5) (.e 1))<|zi (.ix (.e 4) [] (.e 17))<|zp 2<|zi (.bi .add (.e 18) (.e 6))<|zi (.ix (.e 4) [] (.e 16))<|zi (.up 4 [.e 16] (.e 19)) []) (zn 1<|zs 1<|zn 2<|zs 21<|zn 4<|zs 9<|zs 10<|zs 11<|zn 4 []))<|
 .reg (zi (.bi .add (.e 11) (.c (.n 1)))<|zp 1 []) (zn 1<|zs 1<|zn 2<|zs 4<|zn 4<|zs 9<|zs 10<|zs 16<|zn 4 []))<|
 zq (zp 2<|zi (.ca 599 [.e 1] 1)<|zi (.ca 461 [.e 4,.e 16] 3)<|zp 7 []) (zn 7<|zs 18<|zn 8 [])<|
 .seq (zq (zp 1<|zi (.ln (.e 7) []) []) (zn 7<|zs 7<|zn 5<|zs 16<|zn 2 [])<|
 .block 2<|zq (zi (.bi .eql (.e 13) (.c (.n 0)))<|zp 1 []) (zn 7<|zs 7<|zn 5<|zs 13<|zs 16<|zn 1 [])<|
 .cond 14 (zq (zi (.cs .v (.n 0))<|zi (.cs .v (.b true)) []) (zn 2<|zs 16<|zs 17<|zn 12 [])<|
 .ret) (zq (zi (.bi .eql (.e 13) (.c (.n 1)))<|zp 1 []) (zn 7<|zs 7<|zn 7<|zs 16 [])<|
 .cond 15 (zq (zp 1<|zi (.ix (.e 7) [] (.c (.n 0)))<|zp 2<|zi (.cs .v (.b true)) []) (zn 2<|zs 16<|zs 17<|zn 12 [])<|
 .ret) .skip))<|
 zq (zi (.cs .v (.n 0))<|zi (.cs .v (.b false)) []) (zn 2<|zs 16<|zs 17<|zn 12 [])<|
 .ret⟩
def ir_impl_cyclotomic:IF:=⟨[],1,6,[1],zq (zi (.cs (.o .v) (.l [])) []) (zs 0<|zn 5 [])<|
 zq (zp 1<|zi (.bi .add (.e 0) (.c (.n 1)))<|zi (.mk (.n 0) (.e 6) (.e 6))<|zp 1 []) (zs 0<|zn 1<|zs 7<|zn 3 [])<|
 zq (zp 1<|zi (.ix (.e 2) [] (.c (.n 0)))<|zi (.up 2 [.k 0] (.c (.n (-1)))) []) (zs 0<|zn 1<|zs 7<|zn 3 [])<|
 zq (zp 2<|zi (.ix (.e 2) [] (.e 0))<|zi (.up 2 [.e 0] (.c (.n 1))) []) (zs 0<|zn 1<|zs 7<|zn 3 [])<|
 .seq (zq (zi (.cs .v (.n 1)) []) (zs 0<|zn 1<|zs 2<|zs 6<|zn 2 [])<|
 .block 0<|.loop<|.seq (zq (zp 2<|zi (.bi .lss (.e 3) (.e 0)) []) (zs 0<|zn 1<|zs 2<|zs 3<|zs 6<|zn 1 [])<|
 .cond 4 .skip (.exit 0))<|
 .seq (.block 1<|zq (zp 2<|zi (.bi .rem (.e 0) (.e 3))<|zi (.bi .eql (.e 6) (.c (.n 0))) []) (zs 0<|zn 1<|zs 2<|zs 3<|zn 1<|zs 7 [])<|
 .cond 5 (.reg (zp 2<|zi (.ca 599 [.e 3] 1)<|zi (.ca 461 [.e 2,.e 6] 3)<|zp 5 []) (zs 0<|zn 1<|zs 7<|zs 3<|zn 2 [])) .skip)<|
 .reg (zp 1<|zi (.bi .add (.e 3) (.c (.n 1)))<|zp 1 []) (zs 0<|zn 1<|zs 2<|zs 6<|zn 2 []))<|
 zq (zp 2 []) (zn 1<|zs 2<|zn 4 [])<|
 .ret⟩
def ir_impl_gcd:IF:=⟨[],2,4,[2],zq (zi (.cs .v (.n 0)) []) (zs 0<|zs 1<|zn 2 [])<|
 .seq (.block 0<|.loop<|.seq (zq (zp 1<|zi (.bi .neq (.e 1) (.c (.n 0))) []) (zs 0<|zs 1<|zn 1<|zs 4 [])<|
 .cond 3 .skip (.exit 0))<|
 .block 1<|.reg (zp 3<|zi (.bi .rem (.e 0) (.e 1))<|zp 2 []) (zs 1<|zs 4<|zn 2 []))<|
 zq (zp 2 []) (zn 2<|zs 0<|zn 1 [])<|
 .ret⟩
def ir_impl_objects:IF:=⟨[],2,27,[2],zq (zi (.cs (.o .v) (.l [])) []) (zs 0<|zs 1<|zn 25 [])<|
 zq (zi .mm<|zp 1 []) (zs 0<|zs 1<|zn 1<|zs 27<|zn 23 [])<|
 zq (zi (.li (.o .v) [])<|zp 1 []) (zs 0<|zs 1<|zn 1<|zs 3<|zs 27<|zn 22 [])<|
 .seq (zq (zp 1<|zi (.ca 279 [.e 1] 1)<|zi (.ln (.e 27) [])<|zi (.cs .v (.n 0)) []) (zs 0<|zs 1<|zn 1<|zs 3<|zs 4<|zn 11<|zs 27<|zs 28<|zs 29<|zn 8 [])<|
 .block 0<|.loop<|zq (zi (.bi .lss (.e 18) (.e 17)) []) (zs 0<|zs 1<|zn 1<|zs 3<|zs 4<|zn 11<|zs 16<|zs 17<|zs 18<|zs 27<|zn 7 [])<|
 .seq (.cond 19 .skip (.exit 0))<|
 .seq (.block 1<|zq (zp 1<|zi (.ix (.e 16) [] (.e 18))<|zp 3 []) (zs 0<|zs 1<|zn 1<|zs 3<|zs 4<|zs 18<|zs 27<|zn 9<|zs 16<|zs 17<|zs 18<|zn 8 [])<|
 zq (zp 1 []) (zs 0<|zs 1<|zn 1<|zs 3<|zs 4<|zs 5<|zs 6<|zn 9<|zs 16<|zs 17<|zs 18<|zn 1<|zs 0<|zn 6 [])<|
 .block 2<|zq (zi (.bi .eql (.e 20) (.c (.s [109,97,116,99,104,105,110,103,115])))<|zp 1 []) (zs 0<|zs 1<|zn 1<|zs 3<|zs 4<|zs 5<|zs 6<|zn 9<|zs 16<|zs 17<|zs 18<|zn 1<|zs 20<|zs 27<|zn 5 [])<|
 .cond 21 (zq (zp 1<|zi (.ca 597 [.e 6] 2)<|zp 5 []) (zs 0<|zs 1<|zn 1<|zs 3<|zs 4<|zs 5<|zn 1<|zs 27<|zn 8<|zs 16<|zs 17<|zs 18<|zn 8 [])<|
 zq (zp 1<|zi (.ca 474 [.e 7,.c (.n 1)] 2)<|zp 5 []) (zs 0<|zs 1<|zn 1<|zs 3<|zs 4<|zs 5<|zn 1<|zs 7<|zs 27<|zn 7<|zs 16<|zs 17<|zs 18<|zn 8 [])<|
 zq (zp 2<|zi (.ca 538 [.e 7] 1)<|zp 1<|zi (.mu 3 (.e 27) (.e 5)) []) (zs 0<|zs 1<|zn 1<|zs 28<|zs 4<|zn 3<|zs 8<|zn 7<|zs 16<|zs 17<|zs 18<|zn 8 [])<|
 .reg (zp 2<|zi (.ca 538 [.e 8] 1)<|zi (.li (.o .v) [.e 27])<|zi (.ap false (.e 4) (.e 28))<|zp 1 []) (zs 0<|zs 1<|zn 1<|zs 3<|zs 29<|zn 11<|zs 16<|zs 17<|zs 18<|zn 8 [])) (zq (zi (.bi .eql (.e 20) (.c (.s [112,97,114,116,105,116,105,111,110,115])))<|zp 1 []) (zs 0<|zs 1<|zn 1<|zs 3<|zs 4<|zs 5<|zs 6<|zn 9<|zs 16<|zs 17<|zs 18<|zn 3<|zs 27<|zn 4 [])<|
 .cond 22 (zq (zp 1<|zi (.ca 503 [.e 6] 2)<|zp 5 []) (zs 0<|zs 1<|zn 1<|zs 3<|zs 4<|zs 5<|zn 3<|zs 27<|zn 6<|zs 16<|zs 17<|zs 18<|zn 8 [])<|
 zq (zp 1<|zi (.ca 435 [.e 9] 2)<|zp 5 []) (zs 0<|zs 1<|zn 1<|zs 3<|zs 4<|zs 5<|zn 3<|zs 9<|zs 27<|zn 5<|zs 16<|zs 17<|zs 18<|zn 8 [])<|
 zq (zp 2<|zi (.ca 537 [.e 9] 1)<|zp 1<|zi (.mu 3 (.e 27) (.e 5)) []) (zs 0<|zs 1<|zn 1<|zs 28<|zs 4<|zn 5<|zs 10<|zn 5<|zs 16<|zs 17<|zs 18<|zn 8 [])<|
 .reg (zp 2<|zi (.ca 537 [.e 10] 1)<|zi (.li (.o .v) [.e 27])<|zi (.ap false (.e 4) (.e 28))<|zp 1 []) (zs 0<|zs 1<|zn 1<|zs 3<|zs 29<|zn 11<|zs 16<|zs 17<|zs 18<|zn 8 [])) (zq (zp 1<|zi (.ca 535 [.e 6] 2)<|zp 5 []) (zs 0<|zs 1<|zn 1<|zs 3<|zs 4<|zs 5<|zn 5<|zs 27<|zn 4<|zs 16<|zs 17<|zs 18<|zn 8 [])<|
 zq (zp 1<|zi (.ca 536 [.e 11] 2)<|zp 5 []) (zs 0<|zs 1<|zn 1<|zs 3<|zs 4<|zs 5<|zn 6<|zs 27<|zn 3<|zs 16<|zs 17<|zs 18<|zn 8 [])<|
 zq (zp 1<|zi (.bi .add (.e 1) (.c (.n 2)))<|zp 1<|zi (.ca 598 [.e 27,.e 12,.c (.n 1)] 2)<|zp 5 []) (zs 0<|zs 1<|zn 1<|zs 3<|zs 4<|zs 5<|zn 6<|zs 12<|zs 28<|zn 2<|zs 16<|zs 17<|zs 18<|zn 8 [])<|
 zq (zp 2<|zi (.ca 354 [.e 12] 1)<|zp 1<|zi (.mu 3 (.e 27) (.e 5)) []) (zs 0<|zs 1<|zn 1<|zs 28<|zs 4<|zn 8<|zs 13<|zn 2<|zs 16<|zs 17<|zs 18<|zn 8 [])<|
 .reg (zp 2<|zi (.ca 354 [.e 13] 1)<|zi (.li (.o .v) [.e 27])<|zi (.ap false (.e 4) (.e 28))<|zp 1 []) (zs 0<|zs 1<|zn 1<|zs 3<|zs 29<|zn 11<|zs 16<|zs 17<|zs 18<|zn 8 []))))<|
 .reg (zi (.bi .add (.e 18) (.c (.n 1)))<|zp 1 []) (zs 0<|zs 1<|zn 1<|zs 3<|zs 4<|zn 11<|zs 16<|zs 17<|zs 27<|zn 8 []))<|
 zq (zi (.li (.o .v) [])<|zp 1 []) (zn 3<|zs 3<|zs 4<|zn 9<|zs 27<|zn 12 [])<|
 .seq (zq (zp 1<|zi (.ln (.e 4) [])<|zi (.cs .v (.n 0)) []) (zn 3<|zs 3<|zn 10<|zs 14<|zn 8<|zs 4<|zs 27<|zs 28<|zn 1 [])<|
 .block 3<|.loop<|zq (zi (.bi .lss (.e 25) (.e 24)) []) (zn 3<|zs 3<|zn 10<|zs 14<|zn 8<|zs 23<|zs 24<|zs 25<|zs 27 [])<|
 .seq (.cond 26 .skip (.exit 3))<|
 .seq (.block 4<|zq (zi (.ix (.e 23) [] (.e 25))<|zp 2 []) (zn 3<|zs 3<|zn 10<|zs 14<|zs 27<|zn 7<|zs 23<|zs 24<|zs 25<|zn 1 [])<|
 .reg (zp 3<|zi (.mg 3 (.e 15) (.n 0))<|zi (.li (.o .v) [.e 27])<|zi (.ap false (.e 14) (.e 28))<|zp 1 []) (zn 3<|zs 3<|zn 10<|zs 29<|zn 8<|zs 23<|zs 24<|zs 25<|zn 1 []))<|
 .reg (zi (.bi .add (.e 25) (.c (.n 1)))<|zp 1 []) (zn 3<|zs 3<|zn 10<|zs 14<|zn 8<|zs 23<|zs 24<|zs 27<|zn 1 []))<|
 zq (zp 2 []) (zn 2<|zs 14<|zn 24 [])<|
 .ret⟩
end Go.Cat
namespace Go.Cat
def ir_impl_SieveLine:IF:=⟨[],2,14,[2],zq (zi (.cs .v (.s [])) []) (zs 0<|zs 1<|zn 12 [])<|
 zq (zp 2<|zi (.ca 571 [.e 0,.e 1] 1)<|zp 1 []) (zs 0<|zs 1<|zn 1<|zs 14<|zn 10 [])<|
 .seq (zq (zp 1<|zi (.bi .lss (.e 3) (.c (.n 0))) []) (zs 0<|zs 1<|zn 1<|zs 3<|zn 5<|zs 14<|zn 4 [])<|
 .cond 9 (zq (zi (.cs .v (.s [])) []) (zn 2<|zs 14<|zn 11 [])<|
 .ret) .skip)<|
 zq (zp 1<|zi (.ca 408 [.e 1] 2)<|zp 5 []) (zs 0<|zs 1<|zn 1<|zs 3<|zs 14<|zn 9 [])<|
 zq (zi (.li (.o .v) [])<|zp 1 []) (zs 0<|zs 1<|zn 1<|zs 3<|zs 4<|zs 14<|zn 8 [])<|
 .seq (zq (zp 1<|zi (.cs .v (.n 0)) []) (zs 0<|zs 1<|zn 2<|zs 4<|zs 5<|zn 4<|zs 3<|zs 14<|zn 2 [])<|
 .block 0<|.loop<|zq (zi (.bi .lss (.e 11) (.e 10)) []) (zs 0<|zs 1<|zn 2<|zs 4<|zs 5<|zn 4<|zs 10<|zs 11<|zs 14<|zn 1 [])<|
 .seq (.cond 12 .skip (.exit 0))<|
 .seq (.block 1<|zq (zp 2 []) (zs 0<|zs 1<|zn 2<|zs 4<|zs 5<|zs 11<|zn 3<|zs 10<|zs 11<|zn 2 [])<|
 .reg (zp 4<|zi (.ca 572 [.e 0,.e 1,.e 6] 1)<|zi (.li (.o .v) [.e 14])<|zi (.ap false (.e 5) (.e 15))<|zp 1 []) (zs 0<|zs 1<|zn 2<|zs 4<|zs 16<|zn 4<|zs 10<|zs 11<|zn 2 []))<|
 .reg (zi (.bi .add (.e 11) (.c (.n 1)))<|zp 1 []) (zs 0<|zs 1<|zn 2<|zs 4<|zs 5<|zn 4<|zs 10<|zs 14<|zn 2 []))<|
 zq (zp 2<|zi (.ca 573 [.e 0,.e 1] 2)<|zp 5 []) (zs 0<|zs 1<|zn 2<|zs 4<|zs 5<|zn 1<|zs 14<|zn 6 [])<|
 zq (zp 1<|zi (.ca 430 [.e 4] 1)<|zp 1<|zi (.ca 142 [.e 5] 1)<|zp 1<|zi (.ca 142 [.e 7] 1)<|zi (.li (.o .v) [.c (.s [115,105,101,118,101]),.e 14,.c (.s [102,105,120,101,100]),.e 15,.c (.s [111,114,98,105,116,115]),.e 16])<|zi (.ca 141 [.e 17] 1)<|zp 1 []) (zs 0<|zs 1<|zn 6<|zs 18<|zn 5 [])<|
 .seq (zq (zp 2<|zi (.ca 574 [.e 0,.e 1] 1) []) (zn 8<|zs 8<|zn 4<|zs 14 [])<|
 .cond 13 (.reg (zp 1<|zi (.li (.o .v) [.e 8,.c (.s [104,111,108,100,115])])<|zi (.ca 141 [.e 14] 1)<|zp 1 []) (zn 8<|zs 15<|zn 5 [])) .skip)<|
 zq (zp 2 []) (zn 2<|zs 8<|zn 11 [])<|
 .ret⟩
def ir_impl_line:IF:=⟨[],1,2,[1],zq (zi (.cs .v (.s [])) []) (zs 0<|zn 1 [])<|
 zq (zp 1<|zi (.ca 184 [.e 0,.c (.s [32])] 1)<|zp 1 []) (zn 1<|zs 2 [])<|
 .ret⟩
def ir_impl_list:IF:=⟨[],1,9,[1],zq (zi (.cs .v (.s [])) []) (zs 0<|zn 8 [])<|
 .seq (zq (zp 1<|zi (.ln (.e 0) [])<|zi (.bi .eql (.e 9) (.c (.n 0))) []) (zs 0<|zn 3<|zs 10<|zn 4 [])<|
 .cond 4 (zq (zi (.cs .v (.s [110,111,110,101])) []) (zn 1<|zs 9<|zn 7 [])<|
 .ret) .skip)<|
 zq (zi (.li (.o .v) [])<|zp 1 []) (zs 0<|zn 1<|zs 9<|zn 6 [])<|
 .seq (zq (zp 1<|zi (.ln (.e 0) [])<|zi (.cs .v (.n 0)) []) (zn 2<|zs 2<|zn 2<|zs 0<|zs 9<|zs 10<|zn 1 [])<|
 .block 0<|.loop<|zq (zi (.bi .lss (.e 7) (.e 6)) []) (zn 2<|zs 2<|zn 2<|zs 5<|zs 6<|zs 7<|zs 9 [])<|
 .seq (.cond 8 .skip (.exit 0))<|
 .seq (.block 1<|zq (zi (.iy (.e 5) (.e 7))<|zp 2 []) (zn 2<|zs 2<|zs 9<|zn 1<|zs 5<|zs 6<|zs 7<|zn 1 [])<|
 .reg (zp 2<|zi (.ca 143 [.e 3] 1)<|zi (.li (.o .v) [.e 9])<|zi (.ap false (.e 2) (.e 10))<|zp 1 []) (zn 2<|zs 11<|zn 2<|zs 5<|zs 6<|zs 7<|zn 1 []))<|
 .reg (zi (.bi .add (.e 7) (.c (.n 1)))<|zp 1 []) (zn 2<|zs 2<|zn 2<|zs 5<|zs 6<|zs 9<|zn 1 []))<|
 zq (zp 1<|zi (.ca 184 [.e 2,.c (.s [44])] 1)<|zp 1 []) (zn 1<|zs 9<|zn 7 [])<|
 .ret⟩
end Go.Cat
namespace Go.Cat
def ir_laws_FnExactSieveLine:IF:=⟨[],2,7,[2],zq (zi (.cs .v (.b false)) []) (zs 0<|zs 1<|zn 5 [])<|
 .seq (zq (zp 1<|zi (.sn (.e 0))<|zi (.bi .gtr (.e 7) (.c (.n 1048576))) []) (zs 0<|zs 1<|zn 3<|zs 8<|zn 1 [])<|
 .cond 5 (zq (zi (.cs .v (.b true)) []) (zn 2<|zs 7<|zn 4 [])<|
 .ret) .skip)<|
 zq (zp 2<|zi (.ca 557 [.e 0,.e 1] 1)<|zp 1 []) (zs 0<|zs 1<|zn 1<|zs 7<|zn 3 [])<|
 zq (zp 2<|zi (.ca 558 [.e 0,.e 1] 1)<|zp 1 []) (zn 3<|zs 3<|zs 7<|zn 2 [])<|
 .seq (zq (zp 2<|zi (.bi .neq (.e 4) (.e 3)) []) (zn 6<|zs 7 [])<|
 .cond 6 (zq (zi (.cs .v (.b false)) []) (zn 2<|zs 7<|zn 4 [])<|
 .ret) .skip)<|
 zq (zi (.cs .v (.b true)) []) (zn 2<|zs 7<|zn 4 [])<|
 .ret⟩
end Go.Cat
namespace Go.Cat
def ir_spec_FormatInt:IF:=⟨[],1,9,[1],zq (zi (.cs .v (.s [])) []) (zs 0<|zn 8 [])<|
 .seq (zq (zp 1<|zi (.bi .eql (.e 0) (.c (.n 0))) []) (zs 0<|zn 4<|zs 9<|zn 3 [])<|
 .cond 5 (zq (zi (.cs .v (.s [48])) []) (zn 1<|zs 9<|zn 7 [])<|
 .ret) .skip)<|
 zq (zi (.cs .v (.s [])) []) (zs 0<|zn 1<|zs 9<|zn 6 [])<|
 zq (zp 1<|zi (.bi .lss (.e 0) (.c (.n 0)))<|zp 1 []) (zs 0<|zn 1<|zs 2<|zs 9<|zn 5 [])<|
 .seq (.block 0<|.loop<|.seq (zq (zp 1<|zi (.bi .neq (.e 0) (.c (.n 0))) []) (zs 0<|zn 1<|zs 2<|zs 3<|zn 2<|zs 9<|zn 2 [])<|
 .cond 6 .skip (.exit 0))<|
 .block 1<|zq (zp 1<|zi (.bi .rem (.e 0) (.c (.n 10)))<|zp 1 []) (zs 0<|zn 1<|zs 2<|zs 3<|zs 9<|zn 4 [])<|
 .seq (zq (zp 1<|zi (.bi .lss (.e 4) (.c (.n 0))) []) (zs 0<|zn 1<|zs 2<|zs 3<|zs 4<|zn 2<|zs 9<|zn 1 [])<|
 .cond 7 (.reg (zp 1<|zi (.un .neg (.e 4))<|zp 1 []) (zs 0<|zn 1<|zs 2<|zs 3<|zs 9<|zn 4 [])) .skip)<|
 zq (zp 1<|zi (.bi .add (.c (.n 48)) (.e 4))<|zi (.cv .u8 (.e 9))<|zi (.li (.o .v) [.e 10])<|zi (.bs (.e 11))<|zp 1<|zi (.bi .add (.e 12) (.e 2))<|zp 1 []) (zs 0<|zn 1<|zs 13<|zs 3<|zn 5 [])<|
 .reg (zp 1<|zi (.bi .quo (.e 0) (.c (.n 10)))<|zp 1 []) (zs 9<|zn 1<|zs 2<|zs 3<|zn 5 []))<|
 .seq (zq (zp 1 []) (zn 2<|zs 2<|zn 5<|zs 3 [])<|
 .cond 8 (zq (zp 1<|zi (.bi .add (.c (.s [45])) (.e 2))<|zp 1 []) (zn 1<|zs 9<|zn 7 [])<|
 .ret) .skip)<|
 zq (zp 2 []) (zn 1<|zs 2<|zn 7 [])<|
 .ret⟩
def ir_spec_l1In:IF:=⟨[],3,4,[3],zq (zi (.cs .v (.b false)) []) (zs 0<|zs 1<|zs 2<|zn 1 [])<|
 zq (zp 2<|zi (.bi .geq (.e 0) (.e 1))<|zp 1<|zg [(4,true)] (.cy (.e 0))<|zg [(4,true)] (.cy (.e 2))<|zg [(4,true)] (.bi .leq (.e 5) (.e 6))<|zi (.pk (.e 4) (.e 7) (.c (.b false)))<|zp 1 []) (zn 3<|zs 8 [])<|
 .ret⟩
end Go.Cat
namespace Go.Cat
def ir_spec_IsDyck:IF:=⟨[],1,9,[1],zq (zi (.cs .v (.b false)) []) (zs 0<|zn 8 [])<|
 zq (zi (.cs .v (.n 0)) []) (zs 0<|zn 1<|zs 9<|zn 6 [])<|
 .seq (zq (zi (.cs .v (.n 0)) []) (zs 0<|zn 1<|zs 2<|zs 9<|zn 5 [])<|
 .block 0<|.loop<|.seq (zq (zp 2<|zi (.sn (.e 0))<|zi (.bi .lss (.e 3) (.e 9)) []) (zs 0<|zn 1<|zs 2<|zs 3<|zs 10<|zn 4 [])<|
 .cond 4 .skip (.exit 0))<|
 .seq (.block 1<|.seq (zq (zp 2<|zi (.sx (.e 0) (.e 3)) []) (zs 0<|zn 1<|zs 2<|zs 3<|zn 1<|zs 9<|zn 3 [])<|
 .block 2<|zq (zi (.bi .eql (.e 5) (.c (.y 117)))<|zp 1 []) (zs 0<|zn 1<|zs 2<|zs 3<|zn 1<|zs 5<|zs 9<|zn 2 [])<|
 .cond 6 (.reg (zp 1<|zi (.bi .add (.e 2) (.c (.n 1)))<|zp 1 []) (zs 0<|zn 1<|zs 9<|zs 3<|zn 5 [])) (zq (zi (.bi .eql (.e 5) (.c (.y 100)))<|zp 1 []) (zs 0<|zn 1<|zs 2<|zs 3<|zn 3<|zs 9<|zn 1 [])<|
 .cond 7 (.reg (zp 1<|zi (.bi .sub (.e 2) (.c (.n 1)))<|zp 1 []) (zs 0<|zn 1<|zs 9<|zs 3<|zn 5 [])) (zq (zi (.cs .v (.b false)) []) (zn 1<|zs 9<|zn 7 [])<|
 .ret)))<|
 zq (zp 1<|zi (.bi .lss (.e 2) (.c (.n 0))) []) (zs 0<|zn 1<|zs 2<|zs 3<|zn 4<|zs 9 [])<|
 .cond 8 (zq (zi (.cs .v (.b false)) []) (zn 1<|zs 9<|zn 7 [])<|
 .ret) .skip)<|
 .reg (zp 1<|zi (.bi .add (.e 3) (.c (.n 1)))<|zp 1 []) (zs 0<|zn 1<|zs 2<|zs 9<|zn 5 []))<|
 zq (zp 1<|zi (.bi .eql (.e 2) (.c (.n 0)))<|zp 1<|zg [(9,true)] (.cy (.e 0))<|zg [(9,true)] (.sn (.e 10))<|zg [(9,true)] (.bi .leq (.e 11) (.c (.n 16)))<|zi (.pk (.e 9) (.e 12) (.c (.b false)))<|zp 1 []) (zn 1<|zs 13<|zn 7 [])<|
 .ret⟩
def ir_spec_l2Cut:IF:=⟨[],1,7,[1],zq (zi (.cs .v (.n 0)) []) (zs 0<|zn 6 [])<|
 zq (zi (.cs .v (.n 0)) []) (zs 0<|zn 1<|zs 7<|zn 4 [])<|
 .seq (zq (zi (.cs .v (.n 0)) []) (zs 0<|zn 1<|zs 2<|zs 7<|zn 3 [])<|
 .block 0<|.loop<|.seq (zq (zp 2<|zi (.sn (.e 0))<|zi (.bi .lss (.e 3) (.e 7)) []) (zs 0<|zn 1<|zs 2<|zs 3<|zs 8<|zn 2 [])<|
 .cond 4 .skip (.exit 0))<|
 .seq (.block 1<|.seq (zq (zp 2<|zi (.sx (.e 0) (.e 3))<|zi (.bi .eql (.e 7) (.c (.y 117))) []) (zs 0<|zn 1<|zs 2<|zs 3<|zn 1<|zs 8<|zn 1 [])<|
 .cond 5 (.reg (zp 1<|zi (.bi .add (.e 2) (.c (.n 1)))<|zp 1 []) (zs 0<|zn 1<|zs 7<|zs 3<|zn 3 [])) (.reg (zp 1<|zi (.bi .sub (.e 2) (.c (.n 1)))<|zp 1 []) (zs 0<|zn 1<|zs 7<|zs 3<|zn 3 [])))<|
 zq (zp 1<|zi (.bi .eql (.e 2) (.c (.n 0))) []) (zs 0<|zn 1<|zs 2<|zs 3<|zn 2<|zs 7 [])<|
 .cond 6 (zq (zp 2 []) (zn 1<|zs 3<|zn 5 [])<|
 .ret) .skip)<|
 .reg (zp 1<|zi (.bi .add (.e 3) (.c (.n 1)))<|zp 1 []) (zs 0<|zn 1<|zs 2<|zs 7<|zn 3 []))<|
 zq (zi (.cs .v (.n (-1))) []) (zn 1<|zs 7<|zn 5 [])<|
 .ret⟩
end Go.Cat
namespace Go.Cat
def ir_spec_PathsOf:IF:=⟨[],1,3,[1],zq (zi (.cs (.o .v) (.l [])) []) (zs 0<|zn 2 [])<|
 .seq (zq (zp 1<|zi (.ca 22 [.e 0,.c (.n 0),.c (.n 6)] 1)<|zi (.un .not (.e 3)) []) (zs 0<|zn 1<|zs 4 [])<|
 .cond 2 (zq (zi (.li (.o .v) [])<|zp 1 []) (zn 1<|zs 3<|zn 1 [])<|
 .ret) .skip)<|
 zq (zp 2<|zi (.ca 292 [.c (.s []),.e 0,.e 0] 1)<|zp 1 []) (zn 1<|zs 3<|zn 1 [])<|
 .ret⟩
def ir_spec_l3All:IF:=⟨[],3,8,[3],zq (zi (.cs (.o .v) (.l [])) []) (zs 0<|zs 1<|zs 2<|zn 5 [])<|
 .seq (zq (zp 1<|zi (.bi .eql (.e 2) (.c (.n 0))) []) (zs 0<|zs 1<|zs 2<|zn 2<|zs 8<|zn 2 [])<|
 .cond 5 (zq (zp 1<|zi (.li (.o .v) [.e 0])<|zp 1 []) (zn 3<|zs 8<|zn 4 [])<|
 .ret) .skip)<|
 zq (zi (.li (.o .v) [])<|zp 1 []) (zs 0<|zs 1<|zs 2<|zn 1<|zs 8<|zn 3 [])<|
 .seq (zq (zp 1<|zi (.bi .gtr (.e 1) (.c (.n 0))) []) (zs 0<|zs 1<|zs 2<|zn 1<|zs 4<|zn 1<|zs 8<|zn 1 [])<|
 .cond 6 (.reg (zp 2<|zi (.bi .add (.e 0) (.c (.s [117])))<|zp 1<|zi (.bi .sub (.e 1) (.c (.n 1)))<|zp 1<|zi (.ca 292 [.e 8,.e 9,.e 2] 1)<|zi (.ap false (.e 4) (.e 10))<|zp 1 []) (zs 0<|zs 1<|zs 2<|zn 1<|zs 11<|zn 3 [])) .skip)<|
 .seq (zq (zp 2<|zi (.bi .gtr (.e 2) (.e 1)) []) (zs 0<|zs 1<|zs 2<|zn 1<|zs 4<|zn 2<|zs 8 [])<|
 .cond 7 (.reg (zp 2<|zi (.bi .add (.e 0) (.c (.s [100])))<|zp 2<|zi (.bi .sub (.e 2) (.c (.n 1)))<|zi (.ca 292 [.e 8,.e 1,.e 9] 1)<|zi (.ap false (.e 4) (.e 10))<|zp 1 []) (zn 4<|zs 11<|zn 3 [])) .skip)<|
 zq (zp 2 []) (zn 3<|zs 4<|zn 4 [])<|
 .ret⟩
end Go.Cat
namespace Go.Cat
def ir_spec_l4Partner:IF:=⟨[],2,13,[2],zq (zi (.cs .v (.n 0)) []) (zs 0<|zs 1<|zn 11 [])<|
 zq (zi (.cs .v (.n 0)) []) (zs 0<|zs 1<|zn 1<|zs 13<|zn 9 [])<|
 .seq (zq (zp 2<|zi (.sx (.e 0) (.e 1))<|zi (.bi .eql (.e 13) (.c (.y 117))) []) (zs 0<|zs 1<|zn 1<|zs 3<|zn 2<|zs 14<|zn 6 [])<|
 .cond 6 (zq (zp 2 []) (zs 0<|zs 1<|zn 1<|zs 3<|zs 1<|zn 8 [])<|
 .block 0<|.loop<|.seq (zq (zp 2<|zi (.sn (.e 0))<|zi (.bi .lss (.e 4) (.e 13)) []) (zs 0<|zs 1<|zn 1<|zs 3<|zs 4<|zn 2<|zs 14<|zn 5 [])<|
 .cond 7 .skip (.exit 0))<|
 .seq (.block 1<|.seq (zq (zp 2<|zi (.sx (.e 0) (.e 4))<|zi (.bi .eql (.e 13) (.c (.y 117))) []) (zs 0<|zs 1<|zn 1<|zs 3<|zs 4<|zn 3<|zs 14<|zn 4 [])<|
 .cond 8 (.reg (zp 1<|zi (.bi .add (.e 3) (.c (.n 1)))<|zp 1 []) (zs 0<|zs 1<|zn 1<|zs 13<|zs 4<|zn 8 [])) (.reg (zp 1<|zi (.bi .sub (.e 3) (.c (.n 1)))<|zp 1 []) (zs 0<|zs 1<|zn 1<|zs 13<|zs 4<|zn 8 [])))<|
 zq (zp 1<|zi (.bi .eql (.e 3) (.c (.n 0))) []) (zs 0<|zs 1<|zn 1<|zs 3<|zs 4<|zn 4<|zs 13<|zn 3 [])<|
 .cond 9 (zq (zp 2 []) (zn 2<|zs 4<|zn 10 [])<|
 .ret) .skip)<|
 .reg (zp 1<|zi (.bi .add (.e 4) (.c (.n 1)))<|zp 1 []) (zs 0<|zs 1<|zn 1<|zs 3<|zs 13<|zn 8 [])) .skip)<|
 .seq (zq (zp 2 []) (zs 0<|zn 2<|zs 3<|zn 1<|zs 1<|zn 7 [])<|
 .block 2<|.loop<|.seq (zq (zp 1<|zi (.bi .geq (.e 5) (.c (.n 0))) []) (zs 0<|zn 2<|zs 3<|zn 1<|zs 5<|zn 4<|zs 13<|zn 2 [])<|
 .cond 10 .skip (.exit 2))<|
 .seq (.block 3<|.seq (zq (zp 2<|zi (.sx (.e 0) (.e 5))<|zi (.bi .eql (.e 13) (.c (.y 100))) []) (zs 0<|zn 2<|zs 3<|zn 1<|zs 5<|zn 5<|zs 14<|zn 1 [])<|
 .cond 11 (.reg (zp 1<|zi (.bi .add (.e 3) (.c (.n 1)))<|zp 1 []) (zs 0<|zn 2<|zs 13<|zn 1<|zs 5<|zn 7 [])) (.reg (zp 1<|zi (.bi .sub (.e 3) (.c (.n 1)))<|zp 1 []) (zs 0<|zn 2<|zs 13<|zn 1<|zs 5<|zn 7 [])))<|
 zq (zp 1<|zi (.bi .eql (.e 3) (.c (.n 0))) []) (zs 0<|zn 2<|zs 3<|zn 1<|zs 5<|zn 6<|zs 13 [])<|
 .cond 12 (zq (zp 2 []) (zn 2<|zs 5<|zn 10 [])<|
 .ret) .skip)<|
 .reg (zp 1<|zi (.bi .sub (.e 5) (.c (.n 1)))<|zp 1 []) (zs 0<|zn 2<|zs 3<|zn 1<|zs 13<|zn 7 []))<|
 zq (zi (.cs .v (.n (-1))) []) (zn 2<|zs 13<|zn 10 [])<|
 .ret⟩
end Go.Cat
namespace Go.Cat
def ir_spec_BinaryOf:IF:=⟨[],1,4,[1,2],zq (zi (.cs .v (.s []))<|zi (.cs .v (.b false)) []) (zs 0<|zn 3 [])<|
 .seq (zq (zp 1<|zi (.ca 64 [.e 0] 1)<|zi (.un .not (.e 4)) []) (zs 0<|zn 2<|zs 5 [])<|
 .cond 3 (zq (zi (.cs .v (.s []))<|zi (.cs .v (.b false)) []) (zn 1<|zs 4<|zs 5<|zn 1 [])<|
 .ret) .skip)<|
 zq (zp 1<|zi (.ca 513 [.e 0] 1)<|zp 1<|zi (.cs .v (.b true)) []) (zn 1<|zs 4<|zs 5<|zn 1 [])<|
 .ret⟩
def ir_spec_IsBinary:IF:=⟨[],1,2,[1],zq (zi (.cs .v (.b false)) []) (zs 0<|zn 1 [])<|
 zq (zp 1<|zi (.sn (.e 0))<|zi (.bi .leq (.e 2) (.c (.n 25)))<|zp 1<|zg [(3,true)] (.cy (.e 0))<|zg [(3,true)] (.ca 188 [.e 4,.c (.n 0)] 1)<|zg [(3,true)] (.cy (.e 0))<|zg [(3,true)] (.sn (.e 6))<|zg [(3,true)] (.bi .eql (.e 5) (.e 7))<|zi (.pk (.e 3) (.e 8) (.c (.b false)))<|zp 1<|zg [(9,true)] (.cy (.e 0))<|zg [(9,true)] (.bi .neq (.e 10) (.c (.s [])))<|zi (.pk (.e 9) (.e 11) (.c (.b false)))<|zp 1 []) (zn 1<|zs 12 [])<|
 .ret⟩
def ir_spec_NodesOf:IF:=⟨[],1,3,[1],zq (zi (.cs .v (.n 0)) []) (zs 0<|zn 2 [])<|
 .seq (zq (zp 1<|zi (.ca 160 [.e 0] 1)<|zi (.un .not (.e 3)) []) (zs 0<|zn 1<|zs 4 [])<|
 .cond 2 (zq (zi (.cs .v (.n (-1))) []) (zn 1<|zs 3<|zn 1 [])<|
 .ret) .skip)<|
 zq (zp 1<|zi (.sn (.e 0))<|zi (.bi .sub (.e 3) (.c (.n 1)))<|zi (.bi .quo (.e 4) (.c (.n 3)))<|zp 1 []) (zn 1<|zs 5<|zn 1 [])<|
 .ret⟩
def ir_spec_PathOfBinary:IF:=⟨[],1,4,[1,2],zq (zi (.cs .v (.s []))<|zi (.cs .v (.b false)) []) (zs 0<|zn 3 [])<|
 .seq (zq (zp 1<|zi (.ca 160 [.e 0] 1)<|zi (.un .not (.e 4)) []) (zs 0<|zn 2<|zs 5 [])<|
 .cond 3 (zq (zi (.cs .v (.s []))<|zi (.cs .v (.b false)) []) (zn 1<|zs 4<|zs 5<|zn 1 [])<|
 .ret) .skip)<|
 zq (zp 1<|zi (.ca 592 [.e 0] 1)<|zp 1<|zi (.cs .v (.b true)) []) (zn 1<|zs 4<|zs 5<|zn 1 [])<|
 .ret⟩
def ir_spec_l6Binary:IF:=⟨[],1,4,[1],zq (zi (.cs .v (.s [])) []) (zs 0<|zn 3 [])<|
 .seq (zq (zp 1<|zi (.bi .eql (.e 0) (.c (.s []))) []) (zs 0<|zn 2<|zs 4 [])<|
 .cond 3 (zq (zi (.cs .v (.s [46])) []) (zn 1<|zs 4<|zn 2 [])<|
 .ret) .skip)<|
 zq (zp 1<|zi (.ca 518 [.e 0] 1)<|zp 1 []) (zs 0<|zn 1<|zs 4<|zn 1 [])<|
 zq (zp 2<|zi (.ss (.e 0) (some (.c (.n 1))) (some (.e 2)))<|zi (.ca 513 [.e 4] 1)<|zi (.bi .add (.c (.s [40])) (.e 5))<|zp 2<|zi (.bi .add (.e 2) (.c (.n 1)))<|zi (.ss (.e 0) (some (.e 7)) none)<|zi (.ca 513 [.e 8] 1)<|zi (.bi .add (.e 6) (.e 9))<|zi (.bi .add (.e 10) (.c (.s [41])))<|zp 1 []) (zn 1<|zs 11<|zn 2 [])<|
 .ret⟩
def ir_spec_l6End:IF:=⟨[],2,10,[2],zq (zi (.cs .v (.n 0)) []) (zs 0<|zs 1<|zn 8 [])<|
 .seq (zq (zp 2<|zi (.sn (.e 0))<|zi (.bi .geq (.e 1) (.e 10)) []) (zs 0<|zs 1<|zn 3<|zs 11<|zn 4 [])<|
 .cond 5 (zq (zi (.cs .v (.n (-1))) []) (zn 2<|zs 10<|zn 7 [])<|
 .ret) .skip)<|
 .seq (zq (zp 2<|zi (.sx (.e 0) (.e 1))<|zi (.bi .eql (.e 10) (.c (.y 46))) []) (zs 0<|zs 1<|zn 4<|zs 11<|zn 3 [])<|
 .cond 6 (zq (zp 1<|zi (.bi .add (.e 1) (.c (.n 1)))<|zp 1 []) (zn 2<|zs 10<|zn 7 [])<|
 .ret) .skip)<|
 .seq (zq (zp 2<|zi (.sx (.e 0) (.e 1))<|zi (.bi .neq (.e 10) (.c (.y 40))) []) (zs 0<|zs 1<|zn 5<|zs 11<|zn 2 [])<|
 .cond 7 (zq (zi (.cs .v (.n (-1))) []) (zn 2<|zs 10<|zn 7 [])<|
 .ret) .skip)<|
 zq (zp 2<|zi (.bi .add (.e 1) (.c (.n 1)))<|zi (.ca 188 [.e 0,.e 10] 1)<|zp 1 []) (zs 0<|zn 2<|zs 11<|zn 6 [])<|
 .seq (zq (zp 1<|zi (.bi .lss (.e 3) (.c (.n 0))) []) (zs 0<|zn 2<|zs 3<|zn 4<|zs 10<|zn 1 [])<|
 .cond 8 (zq (zi (.cs .v (.n (-1))) []) (zn 2<|zs 10<|zn 7 [])<|
 .ret) .skip)<|
 zq (zp 2<|zi (.ca 188 [.e 0,.e 3] 1)<|zp 1 []) (zs 0<|zn 3<|zs 10<|zn 5 [])<|
 .seq (zq (zp 1<|zi (.bi .lss (.e 4) (.c (.n 0)))<|zp 1<|zg [(10,false)] (.cy (.e 4))<|zg [(10,false)] (.cy (.e 0))<|zg [(10,false)] (.sn (.e 12))<|zg [(10,false)] (.bi .geq (.e 11) (.e 13))<|zi (.pk (.e 10) (.c (.b true)) (.e 14))<|zp 1<|zg [(15,false)] (.cy (.e 0))<|zg [(15,false)] (.cy (.e 4))<|zg [(15,false)] (.sx (.e 16) (.e 17))<|zg [(15,false)] (.bi .neq (.e 18) (.c (.y 41)))<|zi (.pk (.e 15) (.c (.b true)) (.e 19)) []) (zn 4<|zs 4<|zn 4<|zs 20 [])<|
 .cond 9 (zq (zi (.cs .v (.n (-1))) []) (zn 2<|zs 10<|zn 7 [])<|
 .ret) .skip)<|
 zq (zp 1<|zi (.bi .add (.e 4) (.c (.n 1)))<|zp 1 []) (zn 2<|zs 10<|zn 7 [])<|
 .ret⟩
def ir_spec_l6Path:IF:=⟨[],1,4,[1],zq (zi (.cs .v (.s [])) []) (zs 0<|zn 3 [])<|
 .seq (zq (zp 1<|zi (.bi .eql (.e 0) (.c (.s [46]))) []) (zs 0<|zn 2<|zs 4 [])<|
 .cond 3 (zq (zi (.cs .v (.s [])) []) (zn 1<|zs 4<|zn 2 [])<|
 .ret) .skip)<|
 zq (zp 1<|zi (.ca 188 [.e 0,.c (.n 1)] 1)<|zp 1 []) (zs 0<|zn 1<|zs 4<|zn 1 [])<|
 zq (zp 2<|zi (.ss (.e 0) (some (.c (.n 1))) (some (.e 2)))<|zi (.ca 592 [.e 4] 1)<|zi (.bi .add (.c (.s [117])) (.e 5))<|zi (.bi .add (.e 6) (.c (.s [100])))<|zp 3<|zi (.sn (.e 0))<|zi (.bi .sub (.e 8) (.c (.n 1)))<|zi (.ss (.e 0) (some (.e 2)) (some (.e 9)))<|zi (.ca 592 [.e 10] 1)<|zi (.bi .add (.e 7) (.e 11))<|zp 1 []) (zn 1<|zs 12<|zn 2 [])<|
 .ret⟩
end Go.Cat
namespace Go.Cat
def ir_spec_BinaryOfTriangles:IF:=⟨[],2,5,[2,3],zq (zi (.cs .v (.s []))<|zi (.cs .v (.b false)) []) (zs 0<|zs 1<|zn 3 [])<|
 .seq (zq (zp 2<|zi (.ca 600 [.e 0,.e 1] 1)<|zi (.un .not (.e 5)) []) (zs 0<|zs 1<|zn 2<|zs 6 [])<|
 .cond 4 (zq (zi (.cs .v (.s []))<|zi (.cs .v (.b false)) []) (zn 2<|zs 5<|zs 6<|zn 1 [])<|
 .ret) .skip)<|
 zq (zp 3<|zi (.bi .sub (.e 0) (.c (.n 1)))<|zi (.ca 601 [.e 0,.e 1,.c (.n 0),.e 5] 1)<|zp 1<|zi (.cs .v (.b true)) []) (zn 2<|zs 6<|zs 7<|zn 1 [])<|
 .ret⟩
def ir_spec_IsTriangulation:IF:=⟨[],2,11,[2],zq (zi (.cs .v (.b false)) []) (zs 0<|zs 1<|zn 9 [])<|
 .seq (zq (zp 1<|zi (.ca 22 [.e 0,.c (.n 2),.c (.n 10)] 1)<|zi (.un .not (.e 11))<|zp 1<|zg [(12,false)] .nop<|zg [(12,false)] (.ln (.e 1) [])<|zg [(12,false)] (.cy (.e 0))<|zg [(12,false)] (.bi .sub (.e 14) (.c (.n 3)))<|zg [(12,false)] (.mx (.c (.n 0)) (.e 15))<|zg [(12,false)] (.bi .neq (.e 13) (.e 16))<|zi (.pk (.e 12) (.c (.b true)) (.e 17)) []) (zs 0<|zs 1<|zn 3<|zs 18<|zn 5 [])<|
 .cond 5 (zq (zi (.cs .v (.b false)) []) (zn 2<|zs 11<|zn 8 [])<|
 .ret) .skip)<|
 .seq (zq (zi (.cs .v (.n 0)) []) (zs 0<|zs 1<|zn 1<|zs 11<|zn 7 [])<|
 .block 0<|.loop<|.seq (zq (zp 2<|zi (.ln (.e 1) [])<|zi (.bi .lss (.e 3) (.e 11)) []) (zs 0<|zs 1<|zn 1<|zs 3<|zn 2<|zs 12<|zn 4 [])<|
 .cond 6 .skip (.exit 0))<|
 .seq (.block 1<|.seq (zq (zp 2<|zi (.ix (.e 1) [] (.e 3))<|zp 1<|zi (.ln (.e 11) [])<|zi (.bi .neq (.e 12) (.c (.n 2)))<|zp 1<|zg [(13,false)] .nop<|zg [(13,false)] (.cy (.e 3))<|zg [(13,false)] (.ix (.e 1) [] (.e 14))<|zg [(13,false)] .nop<|zg [(13,false)] (.iy (.e 15) (.c (.n 0)))<|zg [(13,false)] .nop<|zg [(13,false)] (.cy (.e 0))<|zg [(13,false)] (.bi .sub (.e 17) (.c (.n 1)))<|zg [(13,false)] (.ca 22 [.e 16,.c (.n 0),.e 18] 1)<|zg [(13,false)] (.un .not (.e 19))<|zi (.pk (.e 13) (.c (.b true)) (.e 20))<|zp 1<|zg [(21,false)] .nop<|zg [(21,false)] (.cy (.e 3))<|zg [(21,false)] (.ix (.e 1) [] (.e 22))<|zg [(21,false)] .nop<|zg [(21,false)] (.iy (.e 23) (.c (.n 1)))<|zg [(21,false)] .nop<|zg [(21,false)] .nop<|zg [(21,false)] (.cy (.e 3))<|zg [(21,false)] (.ix (.e 1) [] (.e 25))<|zg [(21,false)] .nop<|zg [(21,false)] (.iy (.e 26) (.c (.n 0)))<|zg [(21,false)] .nop<|zg [(21,false)] (.bi .add (.e 27) (.c (.n 2)))<|zg [(21,false)] (.cy (.e 0))<|zg [(21,false)] (.bi .sub (.e 29) (.c (.n 1)))<|zg [(21,false)] (.ca 22 [.e 24,.e 28,.e 30] 1)<|zg [(21,false)] (.un .not (.e 31))<|zi (.pk (.e 21) (.c (.b true)) (.e 32))<|zp 1<|zg [(33,false)] .nop<|zg [(33,false)] (.cy (.e 3))<|zg [(33,false)] (.ix (.e 1) [] (.e 34))<|zg [(33,false)] .nop<|zg [(33,false)] (.iy (.e 35) (.c (.n 0)))<|zg [(33,false)] .nop<|zg [(33,false)] (.bi .eql (.e 36) (.c (.n 0)))<|zg [(33,false)] (.cy (.e 37))<|zg [(33,false),(38,true)] .nop<|zg [(33,false),(38,true)] (.cy (.e 3))<|zg [(33,false),(38,true)] (.ix (.e 1) [] (.e 39))<|zg [(33,false),(38,true)] .nop<|zg [(33,false),(38,true)] (.iy (.e 40) (.c (.n 1)))<|zg [(33,false),(38,true)] .nop<|zg [(33,false),(38,true)] (.cy (.e 0))<|zg [(33,false),(38,true)] (.bi .sub (.e 42) (.c (.n 1)))<|zg [(33,false),(38,true)] (.bi .eql (.e 41) (.e 43))<|zg [(33,false)] (.pk (.e 38) (.e 44) (.c (.b false)))<|zi (.pk (.e 33) (.c (.b true)) (.e 45)) []) (zs 0<|zs 1<|zn 1<|zs 3<|zn 3<|zs 46<|zn 3 [])<|
 .cond 7 (zq (zi (.cs .v (.b false)) []) (zn 2<|zs 11<|zn 8 [])<|
 .ret) .skip)<|
 .seq (zq (zp 1<|zi (.bi .gtr (.e 3) (.c (.n 0)))<|zp 1<|zg [(11,true)] .nop<|zg [(11,true)] (.cy (.e 3))<|zg [(11,true)] (.bi .sub (.e 12) (.c (.n 1)))<|zg [(11,true)] (.ix (.e 1) [] (.e 13))<|zg [(11,true)] .nop<|zg [(11,true)] .nop<|zg [(11,true)] (.cy (.e 3))<|zg [(11,true)] (.ix (.e 1) [] (.e 15))<|zg [(11,true)] .nop<|zg [(11,true)] (.ca 374 [.e 14,.e 16] 1)<|zg [(11,true)] (.un .not (.e 17))<|zi (.pk (.e 11) (.e 18) (.c (.b false))) []) (zs 0<|zs 1<|zn 1<|zs 3<|zn 4<|zs 19<|zn 2 [])<|
 .cond 8 (zq (zi (.cs .v (.b false)) []) (zn 2<|zs 11<|zn 8 [])<|
 .ret) .skip)<|
 zq (zi (.cs .v (.n 0)) []) (zs 0<|zs 1<|zn 1<|zs 3<|zs 11<|zn 6 [])<|
 .block 2<|.loop<|.seq (zq (zp 2<|zi (.bi .lss (.e 4) (.e 3)) []) (zs 0<|zs 1<|zn 1<|zs 3<|zs 4<|zn 4<|zs 11<|zn 1 [])<|
 .cond 9 .skip (.exit 2))<|
 .seq (.block 3<|zq (zp 2<|zi (.ix (.e 1) [] (.e 4))<|zp 3<|zi (.ix (.e 1) [] (.e 3))<|zp 1<|zi (.ca 603 [.e 11,.e 12] 1) []) (zs 0<|zs 1<|zn 1<|zs 3<|zs 4<|zn 5<|zs 13 [])<|
 .cond 10 (zq (zi (.cs .v (.b false)) []) (zn 2<|zs 11<|zn 8 [])<|
 .ret) .skip)<|
 .reg (zp 1<|zi (.bi .add (.e 4) (.c (.n 1)))<|zp 1 []) (zs 0<|zs 1<|zn 1<|zs 3<|zs 11<|zn 6 []))<|
 .reg (zp 1<|zi (.bi .add (.e 3) (.c (.n 1)))<|zp 1 []) (zs 0<|zs 1<|zn 1<|zs 11<|zn 7 []))<|
 zq (zi (.cs .v (.b true)) []) (zn 2<|zs 11<|zn 8 [])<|
 .ret⟩
def ir_spec_TriangulationOf:IF:=⟨[],1,5,[1,2],zq (zi (.cs (.o .v) (.l []))<|zi (.cs .v (.b false)) []) (zs 0<|zn 4 [])<|
 .seq (zq (zp 1<|zi (.ca 160 [.e 0] 1)<|zi (.un .not (.e 5)) []) (zs 0<|zn 3<|zs 6 [])<|
 .cond 4 (zq (zi (.li (.o .v) [])<|zp 1<|zi (.cs .v (.b false)) []) (zn 1<|zs 5<|zs 6<|zn 2 [])<|
 .ret) .skip)<|
 zq (zp 1<|zi (.ca 162 [.e 0] 1)<|zi (.bi .add (.e 5) (.c (.n 2)))<|zp 1 []) (zs 0<|zn 2<|zs 6<|zn 1 [])<|
 zq (zp 2<|zi (.bi .sub (.e 3) (.c (.n 1)))<|zi (.li (.o .v) [])<|zp 1<|zi (.ca 540 [.e 0,.c (.n 0),.e 5,.e 6,.e 3] 1)<|zp 1<|zi (.cs .v (.b true)) []) (zn 1<|zs 7<|zs 8<|zn 2 [])<|
 .ret⟩
def ir_spec_TurnPolygon:IF:=⟨[],3,11,[3,4],zq (zi (.cs (.o .v) (.l []))<|zi (.cs .v (.b false)) []) (zs 0<|zs 1<|zs 2<|zn 8 [])<|
 zq (zi (.li (.o .v) [])<|zp 1 []) (zs 0<|zs 1<|zs 2<|zn 2<|zs 11<|zn 5 [])<|
 .seq (zq (zp 2<|zi (.ca 600 [.e 0,.e 1] 1)<|zi (.un .not (.e 11))<|zp 1<|zg [(12,false)] (.cy (.e 2))<|zg [(12,false)] (.cy (.e 0))<|zg [(12,false)] (.bi .sub (.e 14) (.c (.n 1)))<|zg [(12,false)] (.ca 22 [.e 13,.c (.n 0),.e 15] 1)<|zg [(12,false)] (.un .not (.e 16))<|zi (.pk (.e 12) (.c (.b true)) (.e 17)) []) (zs 0<|zs 1<|zs 2<|zn 2<|zs 5<|zn 3<|zs 18<|zn 1 [])<|
 .cond 9 (zq (zp 2<|zi (.cs .v (.b false)) []) (zn 3<|zs 5<|zs 11<|zn 6 [])<|
 .ret) .skip)<|
 .seq (zq (zi (.cs .v (.n 0)) []) (zs 0<|zs 1<|zs 2<|zn 2<|zs 5<|zs 11<|zn 4 [])<|
 .block 0<|.loop<|.seq (zq (zp 2<|zi (.ln (.e 1) [])<|zi (.bi .lss (.e 6) (.e 11)) []) (zs 0<|zs 1<|zs 2<|zn 2<|zs 5<|zs 6<|zn 3<|zs 12 [])<|
 .cond 10 .skip (.exit 0))<|
 .seq (.block 1<|zq (zp 2<|zi (.ix (.e 1) [] (.e 6))<|zp 1<|zi (.iy (.e 11) (.c (.n 0)))<|zp 2<|zi (.bi .add (.e 12) (.e 2))<|zp 1<|zi (.bi .rem (.e 13) (.e 0))<|zp 1 []) (zs 0<|zs 1<|zs 2<|zn 2<|zs 5<|zs 6<|zs 14<|zn 3 [])<|
 zq (zp 2<|zi (.ix (.e 1) [] (.e 6))<|zp 1<|zi (.iy (.e 11) (.c (.n 1)))<|zp 2<|zi (.bi .add (.e 12) (.e 2))<|zp 1<|zi (.bi .rem (.e 13) (.e 0))<|zp 1 []) (zs 0<|zs 1<|zs 2<|zn 2<|zs 5<|zs 6<|zs 7<|zs 14<|zn 2 [])<|
 .reg (zi (.cy (.e 5))<|zp 2<|zi (.mn (.e 7) (.e 8))<|zp 2<|zi (.mx (.e 7) (.e 8))<|zi (.li (.o .v) [.e 12,.e 13])<|zi (.ca 362 [.e 11,.e 14] 1)<|zp 1 []) (zs 0<|zs 1<|zs 2<|zn 2<|zs 15<|zs 6<|zn 4 []))<|
 .reg (zp 1<|zi (.bi .add (.e 6) (.c (.n 1)))<|zp 1 []) (zs 0<|zs 1<|zs 2<|zn 2<|zs 5<|zs 11<|zn 4 []))<|
 zq (zp 2<|zi (.cs .v (.b true)) []) (zn 3<|zs 5<|zs 11<|zn 6 [])<|
 .ret⟩
def ir_spec_l7Before:IF:=⟨[],2,3,[2],zq (zi (.cs .v (.b false)) []) (zs 0<|zs 1<|zn 1 [])<|
 zq (zp 1<|zi (.iy (.e 0) (.c (.n 0)))<|zp 2<|zi (.iy (.e 1) (.c (.n 0)))<|zp 1<|zi (.bi .lss (.e 3) (.e 4))<|zp 1<|zg [(5,false)] .nop<|zg [(5,false)] (.iy (.e 0) (.c (.n 0)))<|zg [(5,false)] .nop<|zg [(5,false)] .nop<|zg [(5,false)] (.iy (.e 1) (.c (.n 0)))<|zg [(5,false)] .nop<|zg [(5,false)] (.bi .eql (.e 6) (.e 7))<|zg [(5,false)] (.cy (.e 8))<|zg [(5,false),(9,true)] .nop<|zg [(5,false),(9,true)] (.iy (.e 0) (.c (.n 1)))<|zg [(5,false),(9,true)] .nop<|zg [(5,false),(9,true)] .nop<|zg [(5,false),(9,true)] (.iy (.e 1) (.c (.n 1)))<|zg [(5,false),(9,true)] .nop<|zg [(5,false),(9,true)] (.bi .lss (.e 10) (.e 11))<|zg [(5,false)] (.pk (.e 9) (.e 12) (.c (.b false)))<|zi (.pk (.e 5) (.c (.b true)) (.e 13))<|zp 1 []) (zn 2<|zs 14 [])<|
 .ret⟩
def ir_spec_l7Crosses:IF:=⟨[],2,3,[2],zq (zi (.cs .v (.b false)) []) (zs 0<|zs 1<|zn 1 [])<|
 zq (zp 1<|zi (.iy (.e 0) (.c (.n 0)))<|zp 2<|zi (.iy (.e 1) (.c (.n 0)))<|zp 1<|zi (.bi .lss (.e 3) (.e 4))<|zp 1<|zg [(5,true)] .nop<|zg [(5,true)] (.iy (.e 1) (.c (.n 0)))<|zg [(5,true)] .nop<|zg [(5,true)] .nop<|zg [(5,true)] (.iy (.e 0) (.c (.n 1)))<|zg [(5,true)] .nop<|zg [(5,true)] (.bi .lss (.e 6) (.e 7))<|zi (.pk (.e 5) (.e 8) (.c (.b false)))<|zp 1<|zg [(9,true)] .nop<|zg [(9,true)] (.iy (.e 0) (.c (.n 1)))<|zg [(9,true)] .nop<|zg [(9,true)] .nop<|zg [(9,true)] (.iy (.e 1) (.c (.n 1)))<|zg [(9,true)] .nop<|zg [(9,true)] (.bi .lss (.e 10) (.e 11))<|zi (.pk (.e 9) (.e 12) (.c (.b false)))<|zp 1<|zg [(13,false)] .nop<|zg [(13,false)] (.iy (.e 1) (.c (.n 0)))<|zg [(13,false)] .nop<|zg [(13,false)] .nop<|zg [(13,false)] (.iy (.e 0) (.c (.n 0)))<|zg [(13,false)] .nop<|zg [(13,false)] (.bi .lss (.e 14) (.e 15))<|zg [(13,false)] (.cy (.e 16))<|zg [(13,false),(17,true)] .nop<|zg [(13,false),(17,true)] (.iy (.e 0) (.c (.n 0)))<|zg [(13,false),(17,true)] .nop<|zg [(13,false),(17,true)] .nop<|zg [(13,false),(17,true)] (.iy (.e 1) (.c (.n 1)))<|zg [(13,false),(17,true)] .nop<|zg [(13,false),(17,true)] (.bi .lss (.e 18) (.e 19))<|zg [(13,false)] (.pk (.e 17) (.e 20) (.c (.b false)))<|zg [(13,false)] (.cy (.e 21))<|zg [(13,false),(22,true)] .nop<|zg [(13,false),(22,true)] (.iy (.e 1) (.c (.n 1)))<|zg [(13,false),(22,true)] .nop<|zg [(13,false),(22,true)] .nop<|zg [(13,false),(22,true)] (.iy (.e 0) (.c (.n 1)))<|zg [(13,false),(22,true)] .nop<|zg [(13,false),(22,true)] (.bi .lss (.e 23) (.e 24))<|zg [(13,false)] (.pk (.e 22) (.e 25) (.c (.b false)))<|zi (.pk (.e 13) (.c (.b true)) (.e 26))<|zp 1 []) (zn 2<|zs 27 [])<|
 .ret⟩
def ir_spec_l7Cut:IF:=⟨[],5,10,[5],zq (zi (.cs (.o .v) (.l [])) []) (zs 0<|zs 1<|zs 2<|zs 3<|zs 4<|zn 5 [])<|
 .seq (zq (zp 1<|zi (.bi .eql (.e 0) (.c (.s [46]))) []) (zs 0<|zs 1<|zs 2<|zs 3<|zs 4<|zn 3<|zs 10<|zn 1 [])<|
 .cond 8 (zq (zp 2 []) (zn 5<|zs 3<|zn 4 [])<|
 .ret) .skip)<|
 .seq (zq (zp 2<|zi (.bi .sub (.e 2) (.e 1))<|zi (.bi .gtr (.e 10) (.c (.n 1)))<|zp 1<|zg [(11,true)] (.cy (.e 1))<|zg [(11,true)] (.bi .eql (.e 12) (.c (.n 0)))<|zg [(11,true)] (.cy (.e 13))<|zg [(11,true),(14,true)] (.cy (.e 2))<|zg [(11,true),(14,true)] (.cy (.e 4))<|zg [(11,true),(14,true)] (.bi .sub (.e 16) (.c (.n 1)))<|zg [(11,true),(14,true)] (.bi .eql (.e 15) (.e 17))<|zg [(11,true)] (.pk (.e 14) (.e 18) (.c (.b false)))<|zg [(11,true)] (.un .not (.e 19))<|zi (.pk (.e 11) (.e 20) (.c (.b false))) []) (zs 0<|zs 1<|zs 2<|zs 3<|zs 4<|zn 4<|zs 21 [])<|
 .cond 9 (.reg (zi (.cy (.e 3))<|zp 2<|zi (.li (.o .v) [.e 1,.e 2])<|zi (.ca 362 [.e 10,.e 11] 1)<|zp 1 []) (zs 0<|zs 1<|zs 2<|zs 12<|zs 4<|zn 5 [])) .skip)<|
 zq (zp 1<|zi (.ca 188 [.e 0,.c (.n 1)] 1)<|zp 1 []) (zs 0<|zs 1<|zs 2<|zs 3<|zs 4<|zn 1<|zs 10<|zn 3 [])<|
 zq (zp 1<|zi (.bi .add (.e 1) (.c (.n 1)))<|zp 2<|zi (.ss (.e 0) (some (.c (.n 1))) (some (.e 6)))<|zi (.ca 162 [.e 11] 1)<|zi (.bi .add (.e 10) (.e 12))<|zp 1 []) (zs 0<|zs 1<|zs 2<|zs 3<|zs 4<|zn 1<|zs 6<|zs 13<|zn 2 [])<|
 zq (zp 2<|zi (.ss (.e 0) (some (.c (.n 1))) (some (.e 6)))<|zp 4<|zi (.ca 540 [.e 10,.e 1,.e 7,.e 3,.e 4] 1)<|zp 1 []) (zs 0<|zn 1<|zs 2<|zs 11<|zs 4<|zn 1<|zs 6<|zs 7<|zn 2 [])<|
 zq (zp 3<|zi (.sn (.e 0))<|zi (.bi .sub (.e 10) (.c (.n 1)))<|zi (.ss (.e 0) (some (.e 6)) (some (.e 11)))<|zp 4<|zi (.ca 540 [.e 12,.e 7,.e 2,.e 3,.e 4] 1)<|zp 1 []) (zn 5<|zs 13<|zn 4 [])<|
 .ret⟩
def ir_spec_l7Put:IF:=⟨[],2,5,[2],zq (zi (.cs (.o .v) (.l [])) []) (zs 0<|zs 1<|zn 3 [])<|
 zq (zp 1<|zi (.ln (.e 0) [])<|zp 1 []) (zs 0<|zs 1<|zn 1<|zs 5<|zn 1 [])<|
 .seq (.block 0<|.loop<|.seq (zq (zp 1<|zi (.bi .gtr (.e 3) (.c (.n 0)))<|zp 1<|zg [(5,true)] (.cy (.e 1))<|zg [(5,true)] (.cy (.e 0))<|zg [(5,true)] (.cy (.e 3))<|zg [(5,true)] (.bi .sub (.e 8) (.c (.n 1)))<|zg [(5,true)] (.ix (.e 7) [] (.e 9))<|zg [(5,true)] .nop<|zg [(5,true)] (.ca 374 [.e 6,.e 10] 1)<|zi (.pk (.e 5) (.e 11) (.c (.b false))) []) (zs 0<|zs 1<|zn 1<|zs 3<|zs 12 [])<|
 .cond 4 .skip (.exit 0))<|
 .block 1<|.reg (zp 1<|zi (.bi .sub (.e 3) (.c (.n 1)))<|zp 1 []) (zs 0<|zs 1<|zn 1<|zs 5<|zn 1 []))<|
 zq (zi (.li (.o .v) [])<|zp 2<|zi (.sb false (.e 0) none (some (.e 3)))<|zi (.ap false (.e 5) (.e 6))<|zp 1<|zi (.li (.o .v) [.e 1])<|zi (.ap false (.e 7) (.e 8))<|zp 2<|zi (.sb false (.e 0) (some (.e 3)) none)<|zi (.ap false (.e 9) (.e 10))<|zp 1 []) (zn 2<|zs 11<|zn 2 [])<|
 .ret⟩
def ir_spec_l7Side:IF:=⟨[],4,9,[4],zq (zi (.cs .v (.b false)) []) (zs 0<|zs 1<|zs 2<|zs 3<|zn 5 [])<|
 .seq (zq (zp 2<|zi (.bi .add (.e 2) (.c (.n 1)))<|zi (.bi .eql (.e 3) (.e 9))<|zp 1<|zg [(10,false)] (.cy (.e 2))<|zg [(10,false)] (.bi .eql (.e 11) (.c (.n 0)))<|zg [(10,false)] (.cy (.e 12))<|zg [(10,false),(13,true)] (.cy (.e 3))<|zg [(10,false),(13,true)] (.cy (.e 0))<|zg [(10,false),(13,true)] (.bi .sub (.e 15) (.c (.n 1)))<|zg [(10,false),(13,true)] (.bi .eql (.e 14) (.e 16))<|zg [(10,false)] (.pk (.e 13) (.e 17) (.c (.b false)))<|zi (.pk (.e 10) (.c (.b true)) (.e 18)) []) (zn 1<|zs 1<|zs 2<|zs 3<|zn 2<|zs 19<|zn 2 [])<|
 .cond 6 (zq (zi (.cs .v (.b true)) []) (zn 4<|zs 9<|zn 4 [])<|
 .ret) .skip)<|
 .seq (zq (zi (.cs .v (.n 0)) []) (zn 1<|zs 1<|zs 2<|zs 3<|zn 1<|zs 9<|zn 3 [])<|
 .block 0<|.loop<|.seq (zq (zp 2<|zi (.ln (.e 1) [])<|zi (.bi .lss (.e 5) (.e 9)) []) (zn 1<|zs 1<|zs 2<|zs 3<|zn 1<|zs 5<|zn 1<|zs 10<|zn 1 [])<|
 .cond 7 .skip (.exit 0))<|
 .seq (.block 1<|zq (zp 2<|zi (.ix (.e 1) [] (.e 5))<|zp 1<|zi (.iy (.e 9) (.c (.n 0)))<|zp 2<|zi (.bi .eql (.e 10) (.e 2))<|zp 1<|zg [(11,true)] .nop<|zg [(11,true)] (.cy (.e 5))<|zg [(11,true)] (.ix (.e 1) [] (.e 12))<|zg [(11,true)] .nop<|zg [(11,true)] (.iy (.e 13) (.c (.n 1)))<|zg [(11,true)] .nop<|zg [(11,true)] (.cy (.e 3))<|zg [(11,true)] (.bi .eql (.e 14) (.e 15))<|zi (.pk (.e 11) (.e 16) (.c (.b false))) []) (zn 1<|zs 1<|zs 2<|zs 3<|zn 1<|zs 5<|zn 2<|zs 17 [])<|
 .cond 8 (zq (zi (.cs .v (.b true)) []) (zn 4<|zs 9<|zn 4 [])<|
 .ret) .skip)<|
 .reg (zp 1<|zi (.bi .add (.e 5) (.c (.n 1)))<|zp 1 []) (zn 1<|zs 1<|zs 2<|zs 3<|zn 1<|zs 9<|zn 3 []))<|
 zq (zi (.cs .v (.b false)) []) (zn 4<|zs 9<|zn 4 [])<|
 .ret⟩
def ir_spec_l7Tree:IF:=⟨[],4,9,[4],zq (zi (.cs .v (.s [])) []) (zs 0<|zs 1<|zs 2<|zs 3<|zn 5 [])<|
 .seq (zq (zp 2<|zi (.bi .add (.e 2) (.c (.n 1)))<|zi (.bi .eql (.e 3) (.e 9)) []) (zs 0<|zs 1<|zs 2<|zs 3<|zn 2<|zs 10<|zn 2 [])<|
 .cond 6 (zq (zi (.cs .v (.s [46])) []) (zn 4<|zs 9<|zn 4 [])<|
 .ret) .skip)<|
 .seq (zq (zp 1<|zi (.bi .add (.e 2) (.c (.n 1)))<|zp 1 []) (zs 0<|zs 1<|zs 2<|zs 3<|zn 1<|zs 9<|zn 3 [])<|
 .block 0<|.loop<|.seq (zq (zp 2<|zi (.bi .lss (.e 5) (.e 3)) []) (zs 0<|zs 1<|zs 2<|zs 3<|zn 1<|zs 5<|zn 1<|zs 9<|zn 1 [])<|
 .cond 7 .skip (.exit 0))<|
 .seq (.block 1<|zq (zp 4<|zi (.ca 604 [.e 0,.e 1,.e 2,.e 5] 1)<|zp 1<|zg [(9,true)] (.cy (.e 0))<|zg [(9,true)] .nop<|zg [(9,true)] (.cy (.e 5))<|zg [(9,true)] (.cy (.e 3))<|zg [(9,true)] (.ca 604 [.e 10,.e 1,.e 11,.e 12] 1)<|zi (.pk (.e 9) (.e 13) (.c (.b false))) []) (zs 0<|zs 1<|zs 2<|zs 3<|zn 1<|zs 5<|zn 2<|zs 14 [])<|
 .cond 8 (zq (zp 4<|zi (.ca 601 [.e 0,.e 1,.e 2,.e 5] 1)<|zi (.bi .add (.c (.s [40])) (.e 9))<|zp 4<|zi (.ca 601 [.e 0,.e 1,.e 5,.e 3] 1)<|zi (.bi .add (.e 10) (.e 11))<|zi (.bi .add (.e 12) (.c (.s [41])))<|zp 1 []) (zn 4<|zs 13<|zn 4 [])<|
 .ret) .skip)<|
 .reg (zp 1<|zi (.bi .add (.e 5) (.c (.n 1)))<|zp 1 []) (zs 0<|zs 1<|zs 2<|zs 3<|zn 1<|zs 9<|zn 3 []))<|
 zq (zi (.cs .v (.s [46])) []) (zn 4<|zs 9<|zn 4 [])<|
 .ret⟩
end Go.Cat
namespace Go.Cat
def ir_spec_BlocksOf:IF:=⟨[],1,6,[1],zq (zi (.cs .v (.l [])) []) (zs 0<|zn 5 [])<|
 zq (zi (.li (.o (.o .v)) [])<|zp 1 []) (zs 0<|zn 1<|zs 6<|zn 3 [])<|
 .seq (zq (zi (.cs .v (.n 0)) []) (zs 0<|zn 1<|zs 2<|zs 6<|zn 2 [])<|
 .block 0<|.loop<|.seq (zq (zp 2<|zi (.ln (.e 0) [])<|zi (.bi .lss (.e 3) (.e 6))<|zp 1<|zg [(7,true)] .nop<|zg [(7,true)] (.ca 324 [.e 0] 1)<|zi (.pk (.e 7) (.e 8) (.c (.b false))) []) (zs 0<|zn 1<|zs 2<|zs 3<|zs 9<|zn 1 [])<|
 .cond 4 .skip (.exit 0))<|
 .seq (.block 1<|.seq (zq (zp 2<|zi (.iy (.e 0) (.e 3))<|zp 2<|zi (.ln (.e 2) [])<|zi (.bi .eql (.e 6) (.e 7)) []) (zs 0<|zn 1<|zs 2<|zs 3<|zn 1<|zs 8 [])<|
 .cond 5 (.reg (zp 1<|zi (.li (.o .v) [])<|zi (.li (.o (.o .v)) [.e 6])<|zi (.ap false (.e 2) (.e 7))<|zp 1 []) (zs 0<|zn 1<|zs 8<|zs 3<|zn 2 [])) .skip)<|
 .reg (zi (.ln (.e 2) [])<|zp 3<|zi (.iy (.e 0) (.e 3))<|zp 4<|zi (.iy (.e 0) (.e 3))<|zp 1<|zi (.ix (.e 2) [] (.e 8))<|zi (.sp 2 [.e 8] 1)<|zp 1<|zi (.li (.o .v) [.e 3])<|zi (.ap false (.e 10) (.e 12))<|zi (.ix (.e 2) [] (.e 7))<|zi (.up 11 [.e 7] (.e 13)) []) (zs 0<|zn 1<|zs 15<|zs 3<|zn 2 []))<|
 .reg (zp 1<|zi (.bi .add (.e 3) (.c (.n 1)))<|zp 1 []) (zs 0<|zn 1<|zs 2<|zs 6<|zn 2 []))<|
 zq (zp 2 []) (zn 1<|zs 2<|zn 4 [])<|
 .ret⟩
def ir_spec_IsNoncrossing:IF:=⟨[],1,11,[1],zq (zi (.cs .v (.b false)) []) (zs 0<|zn 10 [])<|
 .seq (zq (zi (.cs .v (.n 0)) []) (zs 0<|zn 1<|zs 11<|zn 8 [])<|
 .block 0<|.loop<|.seq (zq (zp 2<|zi (.ln (.e 0) [])<|zi (.bi .lss (.e 2) (.e 11))<|zp 1<|zg [(12,true)] .nop<|zg [(12,true)] (.ca 324 [.e 0] 1)<|zi (.pk (.e 12) (.e 13) (.c (.b false))) []) (zs 0<|zn 1<|zs 2<|zn 3<|zs 14<|zn 4 [])<|
 .cond 6 .skip (.exit 0))<|
 .seq (.block 1<|zq (zp 1<|zi (.bi .add (.e 2) (.c (.n 1)))<|zp 1 []) (zs 0<|zn 1<|zs 2<|zs 11<|zn 7 [])<|
 .block 2<|.loop<|.seq (zq (zp 2<|zi (.ln (.e 0) [])<|zi (.bi .lss (.e 3) (.e 11)) []) (zs 0<|zn 1<|zs 2<|zs 3<|zn 3<|zs 12<|zn 3 [])<|
 .cond 7 .skip (.exit 2))<|
 .seq (.block 3<|zq (zp 1<|zi (.bi .add (.e 3) (.c (.n 1)))<|zp 1 []) (zs 0<|zn 1<|zs 2<|zs 3<|zs 11<|zn 6 [])<|
 .block 4<|.loop<|.seq (zq (zp 2<|zi (.ln (.e 0) [])<|zi (.bi .lss (.e 4) (.e 11)) []) (zs 0<|zn 1<|zs 2<|zs 3<|zs 4<|zn 3<|zs 12<|zn 2 [])<|
 .cond 8 .skip (.exit 4))<|
 .seq (.block 5<|zq (zp 1<|zi (.bi .add (.e 4) (.c (.n 1)))<|zp 1 []) (zs 0<|zn 1<|zs 2<|zs 3<|zs 4<|zs 11<|zn 5 [])<|
 .block 6<|.loop<|.seq (zq (zp 2<|zi (.ln (.e 0) [])<|zi (.bi .lss (.e 5) (.e 11)) []) (zs 0<|zn 1<|zs 2<|zs 3<|zs 4<|zs 5<|zn 3<|zs 12<|zn 1 [])<|
 .cond 9 .skip (.exit 6))<|
 .seq (.block 7<|zq (zp 2<|zi (.iy (.e 0) (.e 2))<|zp 3<|zi (.iy (.e 0) (.e 4))<|zp 1<|zi (.bi .eql (.e 11) (.e 12))<|zp 1<|zg [(13,true)] .nop<|zg [(13,true)] (.cy (.e 3))<|zg [(13,true)] (.iy (.e 0) (.e 14))<|zg [(13,true)] .nop<|zg [(13,true)] .nop<|zg [(13,true)] (.cy (.e 5))<|zg [(13,true)] (.iy (.e 0) (.e 16))<|zg [(13,true)] .nop<|zg [(13,true)] (.bi .eql (.e 15) (.e 17))<|zi (.pk (.e 13) (.e 18) (.c (.b false)))<|zp 1<|zg [(19,true)] .nop<|zg [(19,true)] (.cy (.e 2))<|zg [(19,true)] (.iy (.e 0) (.e 20))<|zg [(19,true)] .nop<|zg [(19,true)] .nop<|zg [(19,true)] (.cy (.e 3))<|zg [(19,true)] (.iy (.e 0) (.e 22))<|zg [(19,true)] .nop<|zg [(19,true)] (.bi .neq (.e 21) (.e 23))<|zi (.pk (.e 19) (.e 24) (.c (.b false))) []) (zs 0<|zn 1<|zs 2<|zs 3<|zs 4<|zs 5<|zn 4<|zs 25 [])<|
 .cond 10 (zq (zi (.cs .v (.b false)) []) (zn 1<|zs 11<|zn 9 [])<|
 .ret) .skip)<|
 .reg (zp 1<|zi (.bi .add (.e 5) (.c (.n 1)))<|zp 1 []) (zs 0<|zn 1<|zs 2<|zs 3<|zs 4<|zs 11<|zn 5 []))<|
 .reg (zp 1<|zi (.bi .add (.e 4) (.c (.n 1)))<|zp 1 []) (zs 0<|zn 1<|zs 2<|zs 3<|zs 11<|zn 6 []))<|
 .reg (zp 1<|zi (.bi .add (.e 3) (.c (.n 1)))<|zp 1 []) (zs 0<|zn 1<|zs 2<|zs 11<|zn 7 []))<|
 .reg (zp 1<|zi (.bi .add (.e 2) (.c (.n 1)))<|zp 1 []) (zs 0<|zn 1<|zs 11<|zn 8 []))<|
 zq (zp 1<|zi (.ca 324 [.e 0] 1)<|zp 1 []) (zn 1<|zs 11<|zn 9 [])<|
 .ret⟩
def ir_spec_IsPartition:IF:=⟨[],1,7,[1],zq (zi (.cs .v (.b false)) []) (zs 0<|zn 6 [])<|
 zq (zi (.cs .v (.n 0)) []) (zs 0<|zn 1<|zs 7<|zn 4 [])<|
 .seq (zq (zi (.cs .v (.n 0)) []) (zs 0<|zn 1<|zs 2<|zs 7<|zn 3 [])<|
 .block 0<|.loop<|.seq (zq (zp 2<|zi (.ln (.e 0) [])<|zi (.bi .lss (.e 3) (.e 7)) []) (zs 0<|zn 1<|zs 2<|zs 3<|zs 8<|zn 2 [])<|
 .cond 4 .skip (.exit 0))<|
 .seq (.block 1<|.seq (zq (zp 2<|zi (.iy (.e 0) (.e 3))<|zp 2<|zi (.ca 22 [.e 7,.c (.n 0),.e 2] 1)<|zi (.un .not (.e 8)) []) (zs 0<|zn 1<|zs 2<|zs 3<|zn 1<|zs 9<|zn 1 [])<|
 .cond 5 (zq (zi (.cs .v (.b false)) []) (zn 1<|zs 7<|zn 5 [])<|
 .ret) .skip)<|
 zq (zp 2<|zi (.iy (.e 0) (.e 3))<|zp 2<|zi (.bi .eql (.e 7) (.e 2)) []) (zs 0<|zn 1<|zs 2<|zs 3<|zn 2<|zs 8 [])<|
 .cond 6 (.reg (zp 1<|zi (.bi .add (.e 2) (.c (.n 1)))<|zp 1 []) (zs 0<|zn 1<|zs 7<|zs 3<|zn 3 [])) .skip)<|
 .reg (zp 1<|zi (.bi .add (.e 3) (.c (.n 1)))<|zp 1 []) (zs 0<|zn 1<|zs 2<|zs 7<|zn 3 []))<|
 zq (zp 1<|zi (.ln (.e 0) [])<|zi (.bi .leq (.e 7) (.c (.n 8)))<|zp 1 []) (zn 1<|zs 8<|zn 5 [])<|
 .ret⟩
def ir_spec_PartitionOf:IF:=⟨[],1,12,[1,2],zq (zi (.cs (.o .v) (.l []))<|zi (.cs .v (.b false)) []) (zs 0<|zn 11 [])<|
 .seq (zq (zp 1<|zi (.ca 64 [.e 0] 1)<|zi (.un .not (.e 12)) []) (zs 0<|zn 7<|zs 13<|zn 3 [])<|
 .cond 8 (zq (zi (.li (.o .v) [])<|zp 1<|zi (.cs .v (.b false)) []) (zn 1<|zs 12<|zs 13<|zn 9 [])<|
 .ret) .skip)<|
 zq (zp 1<|zi (.sn (.e 0))<|zi (.bi .quo (.e 12) (.c (.n 2)))<|zi (.mk (.n 0) (.e 13) (.e 13))<|zp 1 []) (zs 0<|zn 2<|zs 14<|zn 8 [])<|
 zq (zi (.li (.o .v) [])<|zp 1 []) (zs 0<|zn 2<|zs 3<|zs 12<|zn 7 [])<|
 zq (zi (.cs .v (.n 0)) []) (zs 0<|zn 2<|zs 3<|zs 4<|zs 12<|zn 6 [])<|
 zq (zi (.cs .v (.n 0)) []) (zs 0<|zn 2<|zs 3<|zs 4<|zs 5<|zs 12<|zn 5 [])<|
 .seq (zq (zi (.cs .v (.n 0)) []) (zs 0<|zn 2<|zs 3<|zs 4<|zs 5<|zs 6<|zs 12<|zn 4 [])<|
 .block 0<|.loop<|.seq (zq (zp 2<|zi (.sn (.e 0))<|zi (.bi .lss (.e 7) (.e 12)) []) (zs 0<|zn 2<|zs 3<|zs 4<|zs 5<|zs 6<|zs 7<|zn 1<|zs 13<|zn 2 [])<|
 .cond 9 .skip (.exit 0))<|
 .seq (.block 1<|.seq (zq (zp 2<|zi (.sx (.e 0) (.e 7))<|zi (.bi .eql (.e 12) (.c (.y 117))) []) (zs 0<|zn 2<|zs 3<|zs 4<|zs 5<|zs 6<|zs 7<|zn 2<|zs 13<|zn 1 [])<|
 .cond 10 (zq (zp 2<|zi (.li (.o .v) [.e 5])<|zi (.ap false (.e 4) (.e 12))<|zp 1 []) (zs 0<|zn 2<|zs 3<|zs 13<|zs 5<|zs 6<|zs 7<|zn 4 [])<|
 zq (zp 1<|zi (.bi .add (.e 5) (.c (.n 1)))<|zp 1 []) (zs 0<|zn 2<|zs 3<|zs 4<|zs 12<|zs 6<|zs 7<|zn 4 [])<|
 .exit 1) .skip)<|
 zq (zp 3<|zi (.ln (.e 4) [])<|zi (.bi .sub (.e 12) (.c (.n 1)))<|zi (.ix (.e 4) [] (.e 13))<|zp 2<|zi (.ix (.e 3) [] (.e 14))<|zi (.up 3 [.e 14] (.e 6)) []) (zs 0<|zn 2<|zs 16<|zs 4<|zs 5<|zs 6<|zs 7<|zn 4 [])<|
 zq (zp 2<|zi (.ln (.e 4) [])<|zi (.bi .sub (.e 12) (.c (.n 1)))<|zi (.sb true (.e 4) none (some (.e 13)))<|zp 1 []) (zs 0<|zn 2<|zs 3<|zs 14<|zs 5<|zs 6<|zs 7<|zn 4 [])<|
 zq (zp 1<|zi (.bi .add (.e 7) (.c (.n 1)))<|zp 1<|zi (.sn (.e 0))<|zi (.bi .eql (.e 12) (.e 13))<|zp 1<|zg [(14,false)] (.cy (.e 0))<|zg [(14,false)] (.cy (.e 7))<|zg [(14,false)] (.bi .add (.e 16) (.c (.n 1)))<|zg [(14,false)] (.sx (.e 15) (.e 17))<|zg [(14,false)] (.bi .eql (.e 18) (.c (.y 117)))<|zi (.pk (.e 14) (.c (.b true)) (.e 19)) []) (zs 0<|zn 2<|zs 3<|zs 4<|zs 5<|zs 6<|zs 7<|zn 3<|zs 20 [])<|
 .cond 11 (.reg (zp 1<|zi (.bi .add (.e 6) (.c (.n 1)))<|zp 1 []) (zs 0<|zn 2<|zs 3<|zs 4<|zs 5<|zs 12<|zs 7<|zn 4 [])) .skip)<|
 .reg (zp 1<|zi (.bi .add (.e 7) (.c (.n 1)))<|zp 1 []) (zs 0<|zn 2<|zs 3<|zs 4<|zs 5<|zs 6<|zs 12<|zn 4 []))<|
 zq (zp 1<|zi (.ca 323 [.e 3] 1)<|zp 1<|zi (.cs .v (.b true)) []) (zn 1<|zs 12<|zs 13<|zn 9 [])<|
 .ret⟩
def ir_spec_PathOfPartition:IF:=⟨[],1,12,[1,2],zq (zi (.cs .v (.s []))<|zi (.cs .v (.b false)) []) (zs 0<|zn 11 [])<|
 zq (zi (.cs .v (.s [])) []) (zs 0<|zn 2<|zs 12<|zn 8 [])<|
 .seq (zq (zp 1<|zi (.ca 483 [.e 0] 1)<|zi (.un .not (.e 12)) []) (zs 0<|zn 2<|zs 3<|zn 4<|zs 13<|zn 3 [])<|
 .cond 8 (zq (zi (.cs .v (.s []))<|zi (.cs .v (.b false)) []) (zn 1<|zs 12<|zs 13<|zn 9 [])<|
 .ret) .skip)<|
 zq (zp 1<|zi (.ca 302 [.e 0] 1)<|zp 1 []) (zs 0<|zn 2<|zs 3<|zs 12<|zn 7 [])<|
 .seq (zq (zi (.cs .v (.n 0)) []) (zs 0<|zn 2<|zs 3<|zs 4<|zs 12<|zn 6 [])<|
 .block 0<|.loop<|.seq (zq (zp 2<|zi (.ln (.e 0) [])<|zi (.bi .lss (.e 5) (.e 12)) []) (zs 0<|zn 2<|zs 3<|zs 4<|zs 5<|zn 3<|zs 13<|zn 2 [])<|
 .cond 9 .skip (.exit 0))<|
 .seq (.block 1<|zq (zp 1<|zi (.bi .add (.e 3) (.c (.s [117])))<|zp 1 []) (zs 0<|zn 2<|zs 12<|zs 4<|zs 5<|zn 6 [])<|
 zq (zp 3<|zi (.iy (.e 0) (.e 5))<|zp 1<|zi (.ix (.e 4) [] (.e 12))<|zp 2 []) (zs 0<|zn 2<|zs 3<|zs 4<|zs 5<|zs 13<|zn 5 [])<|
 zq (zp 2<|zi (.ln (.e 6) [])<|zi (.bi .sub (.e 12) (.c (.n 1)))<|zi (.ix (.e 6) [] (.e 13))<|zp 2<|zi (.bi .eql (.e 14) (.e 5)) []) (zs 0<|zn 2<|zs 3<|zs 4<|zs 5<|zs 6<|zn 3<|zs 15<|zn 1 [])<|
 .cond 10 (zq (zi (.cs .v (.n 0)) []) (zs 0<|zn 2<|zs 3<|zs 4<|zs 5<|zs 6<|zs 12<|zn 4 [])<|
 .block 2<|.loop<|.seq (zq (zp 2<|zi (.ln (.e 6) [])<|zi (.bi .lss (.e 7) (.e 12)) []) (zs 0<|zn 2<|zs 3<|zs 4<|zs 5<|zs 6<|zs 7<|zn 3<|zs 13 [])<|
 .cond 11 .skip (.exit 2))<|
 .seq (.block 3<|.reg (zp 1<|zi (.bi .add (.e 3) (.c (.s [100])))<|zp 1 []) (zs 0<|zn 2<|zs 12<|zs 4<|zs 5<|zs 6<|zs 7<|zn 4 []))<|
 .reg (zp 1<|zi (.bi .add (.e 7) (.c (.n 1)))<|zp 1 []) (zs 0<|zn 2<|zs 3<|zs 4<|zs 5<|zs 6<|zs 12<|zn 4 [])) .skip)<|
 .reg (zp 1<|zi (.bi .add (.e 5) (.c (.n 1)))<|zp 1 []) (zs 0<|zn 2<|zs 3<|zs 4<|zs 12<|zn 6 []))<|
 zq (zp 2<|zi (.cs .v (.b true)) []) (zn 1<|zs 3<|zs 12<|zn 9 [])<|
 .ret⟩
def ir_spec_TurnPartition:IF:=⟨[],1,5,[1,2],zq (zi (.cs (.o .v) (.l []))<|zi (.cs .v (.b false)) []) (zs 0<|zn 4 [])<|
 .seq (zq (zp 1<|zi (.ca 324 [.e 0] 1)<|zi (.un .not (.e 5)) []) (zs 0<|zn 2<|zs 6<|zn 1 [])<|
 .cond 3 (zq (zi (.li (.o .v) [])<|zp 1<|zi (.cs .v (.b false)) []) (zn 1<|zs 5<|zs 6<|zn 2 [])<|
 .ret) .skip)<|
 .seq (zq (zp 1<|zi (.ln (.e 0) [])<|zi (.bi .eql (.e 5) (.c (.n 0))) []) (zs 0<|zn 3<|zs 6 [])<|
 .cond 4 (zq (zi (.li (.o .v) [])<|zp 1<|zi (.cs .v (.b true)) []) (zn 1<|zs 5<|zs 6<|zn 2 [])<|
 .ret) .skip)<|
 zq (zp 2<|zi (.ln (.e 0) [])<|zi (.bi .sub (.e 5) (.c (.n 1)))<|zi (.iy (.e 0) (.e 6))<|zp 1<|zi (.li (.o .v) [.e 7])<|zp 2<|zi (.ln (.e 0) [])<|zi (.bi .sub (.e 9) (.c (.n 1)))<|zi (.sb false (.e 0) none (some (.e 10)))<|zi (.ap true (.e 8) (.e 11))<|zi (.ca 323 [.e 12] 1)<|zp 1<|zi (.cs .v (.b true)) []) (zn 1<|zs 13<|zs 14<|zn 2 [])<|
 .ret⟩
def ir_spec_l8Renumber:IF:=⟨[],1,11,[1],zq (zi (.cs (.o .v) (.l [])) []) (zs 0<|zn 10 [])<|
 zq (zi (.li (.o .v) [])<|zp 1 []) (zs 0<|zn 1<|zs 11<|zn 8 [])<|
 zq (zi (.li (.o .v) [])<|zp 1 []) (zs 0<|zn 1<|zs 2<|zs 11<|zn 7 [])<|
 .seq (zq (zi (.cs .v (.n 0)) []) (zs 0<|zn 1<|zs 2<|zs 3<|zs 11<|zn 6 [])<|
 .block 0<|.loop<|.seq (zq (zp 2<|zi (.ln (.e 0) [])<|zi (.bi .lss (.e 4) (.e 11)) []) (zs 0<|zn 1<|zs 2<|zs 3<|zs 4<|zn 2<|zs 12<|zn 3 [])<|
 .cond 7 .skip (.exit 0))<|
 .seq (.block 1<|zq (zi (.cs .v (.n (-1))) []) (zs 0<|zn 1<|zs 2<|zs 3<|zs 4<|zs 11<|zn 5 [])<|
 .seq (zq (zi (.cs .v (.n 0)) []) (zs 0<|zn 1<|zs 2<|zs 3<|zs 4<|zs 5<|zs 11<|zn 4 [])<|
 .block 2<|.loop<|.seq (zq (zp 2<|zi (.ln (.e 3) [])<|zi (.bi .lss (.e 6) (.e 11)) []) (zs 0<|zn 1<|zs 2<|zs 3<|zs 4<|zs 5<|zs 6<|zn 1<|zs 12<|zn 2 [])<|
 .cond 8 .skip (.exit 2))<|
 .seq (.block 3<|zq (zp 2<|zi (.ix (.e 3) [] (.e 6))<|zp 3<|zi (.iy (.e 0) (.e 4))<|zp 1<|zi (.bi .eql (.e 11) (.e 12)) []) (zs 0<|zn 1<|zs 2<|zs 3<|zs 4<|zs 5<|zs 6<|zn 2<|zs 13<|zn 1 [])<|
 .cond 9 (.reg (zp 2 []) (zs 0<|zn 1<|zs 2<|zs 3<|zs 4<|zs 6<|zs 6<|zn 4 [])) .skip)<|
 .reg (zp 1<|zi (.bi .add (.e 6) (.c (.n 1)))<|zp 1 []) (zs 0<|zn 1<|zs 2<|zs 3<|zs 4<|zs 5<|zs 11<|zn 4 []))<|
 .seq (zq (zp 1<|zi (.bi .lss (.e 5) (.c (.n 0))) []) (zs 0<|zn 1<|zs 2<|zs 3<|zs 4<|zs 5<|zn 4<|zs 11 [])<|
 .cond 10 (zq (zp 1<|zi (.ln (.e 3) [])<|zp 1 []) (zs 0<|zn 1<|zs 2<|zs 3<|zs 4<|zs 11<|zn 5 [])<|
 .reg (zp 3<|zi (.iy (.e 0) (.e 4))<|zp 1<|zi (.li (.o .v) [.e 11])<|zi (.ap false (.e 3) (.e 12))<|zp 1 []) (zs 0<|zn 1<|zs 2<|zs 13<|zs 4<|zs 5<|zn 5 [])) .skip)<|
 .reg (zp 2<|zi (.li (.o .v) [.e 5])<|zi (.ap false (.e 2) (.e 11))<|zp 1 []) (zs 0<|zn 1<|zs 12<|zs 3<|zs 4<|zn 6 []))<|
 .reg (zp 1<|zi (.bi .add (.e 4) (.c (.n 1)))<|zp 1 []) (zs 0<|zn 1<|zs 2<|zs 3<|zs 11<|zn 6 []))<|
 zq (zp 2 []) (zn 1<|zs 2<|zn 9 [])<|
 .ret⟩
end Go.Cat
namespace Go.Cat
def ir_spec_CrossingsOf:IF:=⟨[],1,9,[1],zq (zi (.cs .v (.n 0)) []) (zs 0<|zn 8 [])<|
 .seq (zq (zp 1<|zi (.ca 379 [.e 0] 1)<|zi (.un .not (.e 9)) []) (zs 0<|zn 4<|zs 10<|zn 3 [])<|
 .cond 5 (zq (zi (.cs .v (.n (-1))) []) (zn 1<|zs 9<|zn 7 [])<|
 .ret) .skip)<|
 zq (zi (.cs .v (.n 0)) []) (zs 0<|zn 1<|zs 9<|zn 6 [])<|
 .seq (zq (zi (.cs .v (.n 0)) []) (zs 0<|zn 1<|zs 2<|zs 9<|zn 5 [])<|
 .block 0<|.loop<|.seq (zq (zp 2<|zi (.ln (.e 0) [])<|zi (.bi .lss (.e 3) (.e 9)) []) (zs 0<|zn 1<|zs 2<|zs 3<|zn 2<|zs 10<|zn 2 [])<|
 .cond 6 .skip (.exit 0))<|
 .seq (.block 1<|zq (zp 1<|zi (.bi .add (.e 3) (.c (.n 1)))<|zp 1 []) (zs 0<|zn 1<|zs 2<|zs 3<|zs 9<|zn 4 [])<|
 .block 2<|.loop<|.seq (zq (zp 2<|zi (.ln (.e 0) [])<|zi (.bi .lss (.e 4) (.e 9)) []) (zs 0<|zn 1<|zs 2<|zs 3<|zs 4<|zn 2<|zs 10<|zn 1 [])<|
 .cond 7 .skip (.exit 2))<|
 .seq (.block 3<|zq (zp 3<|zi (.iy (.e 0) (.e 3))<|zp 1<|zi (.bi .lss (.e 4) (.e 9))<|zp 1<|zg [(10,true)] .nop<|zg [(10,true)] (.cy (.e 3))<|zg [(10,true)] (.iy (.e 0) (.e 11))<|zg [(10,true)] .nop<|zg [(10,true)] .nop<|zg [(10,true)] (.cy (.e 4))<|zg [(10,true)] (.iy (.e 0) (.e 13))<|zg [(10,true)] .nop<|zg [(10,true)] (.bi .lss (.e 12) (.e 14))<|zi (.pk (.e 10) (.e 15) (.c (.b false))) []) (zs 0<|zn 1<|zs 2<|zs 3<|zs 4<|zn 3<|zs 16 [])<|
 .cond 8 (.reg (zp 1<|zi (.bi .add (.e 2) (.c (.n 1)))<|zp 1 []) (zs 0<|zn 1<|zs 9<|zs 3<|zs 4<|zn 4 [])) .skip)<|
 .reg (zp 1<|zi (.bi .add (.e 4) (.c (.n 1)))<|zp 1 []) (zs 0<|zn 1<|zs 2<|zs 3<|zs 9<|zn 4 []))<|
 .reg (zp 1<|zi (.bi .add (.e 3) (.c (.n 1)))<|zp 1 []) (zs 0<|zn 1<|zs 2<|zs 9<|zn 5 []))<|
 zq (zp 2 []) (zn 1<|zs 2<|zn 7 [])<|
 .ret⟩
def ir_spec_IsMatching:IF:=⟨[],1,5,[1],zq (zi (.cs .v (.b false)) []) (zs 0<|zn 4 [])<|
 .seq (zq (zi (.cs .v (.n 0)) []) (zs 0<|zn 1<|zs 5<|zn 2 [])<|
 .block 0<|.loop<|.seq (zq (zp 2<|zi (.ln (.e 0) [])<|zi (.bi .lss (.e 2) (.e 5)) []) (zs 0<|zn 1<|zs 2<|zs 6<|zn 1 [])<|
 .cond 3 .skip (.exit 0))<|
 .seq (.block 1<|zq (zp 2<|zi (.iy (.e 0) (.e 2))<|zp 2<|zi (.ln (.e 0) [])<|zi (.bi .sub (.e 6) (.c (.n 1)))<|zi (.ca 22 [.e 5,.c (.n 0),.e 7] 1)<|zi (.un .not (.e 8))<|zp 1<|zg [(9,false)] .nop<|zg [(9,false)] (.cy (.e 2))<|zg [(9,false)] (.iy (.e 0) (.e 10))<|zg [(9,false)] .nop<|zg [(9,false)] (.cy (.e 2))<|zg [(9,false)] (.bi .eql (.e 11) (.e 12))<|zi (.pk (.e 9) (.c (.b true)) (.e 13))<|zp 1<|zg [(14,false)] .nop<|zg [(14,false)] .nop<|zg [(14,false)] (.cy (.e 2))<|zg [(14,false)] (.iy (.e 0) (.e 15))<|zg [(14,false)] .nop<|zg [(14,false)] (.iy (.e 0) (.e 16))<|zg [(14,false)] .nop<|zg [(14,false)] (.cy (.e 2))<|zg [(14,false)] (.bi .neq (.e 17) (.e 18))<|zi (.pk (.e 14) (.c (.b true)) (.e 19)) []) (zs 0<|zn 1<|zs 2<|zn 1<|zs 20 [])<|
 .cond 4 (zq (zi (.cs .v (.b false)) []) (zn 1<|zs 5<|zn 3 [])<|
 .ret) .skip)<|
 .reg (zp 1<|zi (.bi .add (.e 2) (.c (.n 1)))<|zp 1 []) (zs 0<|zn 1<|zs 5<|zn 2 []))<|
 zq (zp 1<|zi (.ln (.e 0) [])<|zi (.bi .leq (.e 5) (.c (.n 16)))<|zp 1 []) (zn 1<|zs 6<|zn 3 [])<|
 .ret⟩
def ir_spec_IsNoncrossingMatching:IF:=⟨[],1,2,[1],zq (zi (.cs .v (.b false)) []) (zs 0<|zn 1 [])<|
 zq (zp 1<|zi (.ca 369 [.e 0] 1)<|zi (.bi .eql (.e 2) (.c (.n 0)))<|zp 1 []) (zn 1<|zs 3 [])<|
 .ret⟩
def ir_spec_MatchingOf:IF:=⟨[],1,6,[1,2],zq (zi (.cs (.o .v) (.l []))<|zi (.cs .v (.b false)) []) (zs 0<|zn 5 [])<|
 zq (zi (.li (.o .v) [])<|zp 1 []) (zs 0<|zn 2<|zs 6<|zn 2 [])<|
 .seq (zq (zi (.cs .v (.n 0)) []) (zs 0<|zn 2<|zs 3<|zs 6<|zn 1 [])<|
 .block 0<|.loop<|.seq (zq (zp 2<|zi (.sn (.e 0))<|zi (.bi .lss (.e 4) (.e 6))<|zp 1<|zg [(7,true)] (.cy (.e 0))<|zg [(7,true)] (.ca 64 [.e 8] 1)<|zi (.pk (.e 7) (.e 9) (.c (.b false))) []) (zs 0<|zn 2<|zs 3<|zs 4<|zs 10 [])<|
 .cond 5 .skip (.exit 0))<|
 .seq (.block 1<|.reg (zp 3<|zi (.ca 370 [.e 0,.e 4] 1)<|zi (.li (.o .v) [.e 6])<|zi (.ap false (.e 3) (.e 7))<|zp 1 []) (zs 0<|zn 2<|zs 8<|zs 4<|zn 1 []))<|
 .reg (zp 1<|zi (.bi .add (.e 4) (.c (.n 1)))<|zp 1 []) (zs 0<|zn 2<|zs 3<|zs 6<|zn 1 []))<|
 zq (zp 2<|zi (.ca 64 [.e 0] 1)<|zp 2 []) (zn 1<|zs 3<|zs 6<|zn 3 [])<|
 .ret⟩
def ir_spec_PathOfMatching:IF:=⟨[],1,7,[1,2],zq (zi (.cs .v (.s []))<|zi (.cs .v (.b false)) []) (zs 0<|zn 6 [])<|
 zq (zi (.cs .v (.s [])) []) (zs 0<|zn 2<|zs 7<|zn 3 [])<|
 .seq (zq (zi (.cs .v (.n 0)) []) (zs 0<|zn 2<|zs 3<|zs 7<|zn 2 [])<|
 .block 0<|.loop<|.seq (zq (zp 2<|zi (.ln (.e 0) [])<|zi (.bi .lss (.e 4) (.e 7))<|zp 1<|zg [(8,true)] .nop<|zg [(8,true)] (.ca 355 [.e 0] 1)<|zi (.pk (.e 8) (.e 9) (.c (.b false))) []) (zs 0<|zn 2<|zs 3<|zs 4<|zs 10<|zn 1 [])<|
 .cond 5 .skip (.exit 0))<|
 .seq (.block 1<|zq (zp 2<|zi (.iy (.e 0) (.e 4))<|zp 2<|zi (.bi .gtr (.e 7) (.e 4)) []) (zs 0<|zn 2<|zs 3<|zs 4<|zn 1<|zs 8 [])<|
 .cond 6 (.reg (zp 1<|zi (.bi .add (.e 3) (.c (.s [117])))<|zp 1 []) (zs 0<|zn 2<|zs 7<|zs 4<|zn 2 [])) (.reg (zp 1<|zi (.bi .add (.e 3) (.c (.s [100])))<|zp 1 []) (zs 0<|zn 2<|zs 7<|zs 4<|zn 2 [])))<|
 .reg (zp 1<|zi (.bi .add (.e 4) (.c (.n 1)))<|zp 1 []) (zs 0<|zn 2<|zs 3<|zs 7<|zn 2 []))<|
 zq (zp 2<|zi (.ca 355 [.e 0] 1)<|zp 2 []) (zn 1<|zs 3<|zs 7<|zn 4 [])<|
 .ret⟩
def ir_spec_TurnMatching:IF:=⟨[],2,9,[2,3],zq (zi (.cs (.o .v) (.l []))<|zi (.cs .v (.b false)) []) (zs 0<|zs 1<|zn 7 [])<|
 zq (zp 1<|zi (.ln (.e 0) [])<|zp 1 []) (zs 0<|zs 1<|zn 2<|zs 9<|zn 4 [])<|
 .seq (zq (zp 1<|zi (.ca 379 [.e 0] 1)<|zi (.un .not (.e 9))<|zp 1<|zg [(10,false)] (.cy (.e 1))<|zg [(10,false)] (.cy (.e 4))<|zg [(10,false)] (.bi .sub (.e 12) (.c (.n 1)))<|zg [(10,false)] (.mx (.c (.n 0)) (.e 13))<|zg [(10,false)] (.ca 22 [.e 11,.c (.n 0),.e 14] 1)<|zg [(10,false)] (.un .not (.e 15))<|zi (.pk (.e 10) (.c (.b true)) (.e 16)) []) (zs 0<|zs 1<|zn 2<|zs 4<|zn 2<|zs 17<|zn 1 [])<|
 .cond 7 (zq (zi (.li (.o .v) [])<|zp 1<|zi (.cs .v (.b false)) []) (zn 2<|zs 9<|zs 10<|zn 5 [])<|
 .ret) .skip)<|
 zq (zp 1<|zi (.mk (.n 0) (.e 4) (.e 4))<|zp 1 []) (zs 0<|zs 1<|zn 2<|zs 4<|zs 9<|zn 3 [])<|
 .seq (zq (zi (.cs .v (.n 0)) []) (zs 0<|zs 1<|zn 2<|zs 4<|zs 5<|zs 9<|zn 2 [])<|
 .block 0<|.loop<|.seq (zq (zp 2<|zi (.bi .lss (.e 6) (.e 4)) []) (zs 0<|zs 1<|zn 2<|zs 4<|zs 5<|zs 6<|zn 1<|zs 9 [])<|
 .cond 8 .skip (.exit 0))<|
 .seq (.block 1<|.reg (zp 3<|zi (.bi .sub (.e 6) (.e 1))<|zp 1<|zi (.bi .add (.e 9) (.e 4))<|zp 1<|zi (.bi .rem (.e 10) (.e 4))<|zp 2<|zi (.iy (.e 0) (.e 6))<|zp 2<|zi (.bi .sub (.e 12) (.e 1))<|zp 1<|zi (.bi .add (.e 13) (.e 4))<|zp 1<|zi (.bi .rem (.e 14) (.e 4))<|zi (.ix (.e 5) [] (.e 11))<|zi (.up 5 [.e 11] (.e 15)) []) (zs 0<|zs 1<|zn 2<|zs 4<|zs 17<|zs 6<|zn 2 []))<|
 .reg (zp 1<|zi (.bi .add (.e 6) (.c (.n 1)))<|zp 1 []) (zs 0<|zs 1<|zn 2<|zs 4<|zs 5<|zs 9<|zn 2 []))<|
 zq (zp 2<|zi (.cs .v (.b true)) []) (zn 2<|zs 5<|zs 9<|zn 5 [])<|
 .ret⟩
end Go.Cat
namespace Go.Cat
def ir_spec_CatalanPolynomial:IF:=⟨[],1,5,[1,2],zq (zi (.cs (.o .v) (.l []))<|zi (.cs .v (.b false)) []) (zs 0<|zn 4 [])<|
 .seq (zq (zp 1<|zi (.ca 22 [.e 0,.c (.n 0),.c (.n 7)] 1)<|zi (.un .not (.e 5)) []) (zs 0<|zn 3<|zs 6 [])<|
 .cond 4 (zq (zi (.li (.o .v) [])<|zp 1<|zi (.cs .v (.b false)) []) (zn 1<|zs 5<|zs 6<|zn 2 [])<|
 .ret) .skip)<|
 zq (zp 1<|zi (.bi .mul (.c (.n 2)) (.e 0))<|zp 1<|zi (.ca 467 [.e 5,.e 0] 1)<|zp 1<|zi (.bi .add (.e 0) (.c (.n 1)))<|zi (.ca 470 [.e 7] 1)<|zi (.ca 471 [.e 6,.e 8] 2)<|zp 5 []) (zn 3<|zs 9<|zn 1 [])<|
 zq (zp 2<|zi (.cs .v (.b true)) []) (zn 1<|zs 3<|zs 5<|zn 2 [])<|
 .ret⟩
def ir_spec_FormatPolynomial:IF:=⟨[],1,7,[1],zq (zi (.cs .v (.s [])) []) (zs 0<|zn 6 [])<|
 zq (zi (.cs .v (.s [])) []) (zs 0<|zn 1<|zs 7<|zn 4 [])<|
 .seq (zq (zi (.cs .v (.n 0)) []) (zs 0<|zn 1<|zs 2<|zs 7<|zn 3 [])<|
 .block 0<|.loop<|.seq (zq (zp 2<|zi (.ln (.e 0) [])<|zi (.bi .lss (.e 3) (.e 7))<|zp 1<|zg [(8,true)] .nop<|zg [(8,true)] (.ca 429 [.e 0] 1)<|zi (.pk (.e 8) (.e 9) (.c (.b false))) []) (zs 0<|zn 1<|zs 2<|zs 3<|zs 10<|zn 2 [])<|
 .cond 4 .skip (.exit 0))<|
 .seq (.block 1<|.seq (zq (zp 1<|zi (.bi .gtr (.e 3) (.c (.n 0))) []) (zs 0<|zn 1<|zs 2<|zs 3<|zn 1<|zs 7<|zn 1 [])<|
 .cond 5 (.reg (zp 1<|zi (.bi .add (.e 2) (.c (.s [44])))<|zp 1 []) (zs 0<|zn 1<|zs 7<|zs 3<|zn 3 [])) .skip)<|
 .reg (zp 3<|zi (.iy (.e 0) (.e 3))<|zp 1<|zi (.ca 138 [.e 7] 1)<|zi (.bi .add (.e 2) (.e 8))<|zp 1 []) (zs 0<|zn 1<|zs 9<|zs 3<|zn 3 []))<|
 .reg (zp 1<|zi (.bi .add (.e 3) (.c (.n 1)))<|zp 1 []) (zs 0<|zn 1<|zs 2<|zs 7<|zn 3 []))<|
 .seq (zq (zp 1<|zi (.bi .eql (.e 2) (.c (.s []))) []) (zn 2<|zs 2<|zn 3<|zs 7 [])<|
 .cond 6 (zq (zi (.cs .v (.s [48])) []) (zn 1<|zs 7<|zn 5 [])<|
 .ret) .skip)<|
 zq (zp 2 []) (zn 1<|zs 2<|zn 5 [])<|
 .ret⟩
def ir_spec_IsPolynomial:IF:=⟨[],1,5,[1],zq (zi (.cs .v (.b false)) []) (zs 0<|zn 4 [])<|
 .seq (zq (zi (.cs .v (.n 0)) []) (zs 0<|zn 1<|zs 5<|zn 2 [])<|
 .block 0<|.loop<|.seq (zq (zp 2<|zi (.ln (.e 0) [])<|zi (.bi .lss (.e 2) (.e 5)) []) (zs 0<|zn 1<|zs 2<|zs 6<|zn 1 [])<|
 .cond 3 .skip (.exit 0))<|
 .seq (.block 1<|zq (zp 2<|zi (.iy (.e 0) (.e 2))<|zp 1<|zi (.ca 22 [.e 5,.c (.n (-1000000000)),.c (.n 1000000000)] 1)<|zi (.un .not (.e 6)) []) (zs 0<|zn 1<|zs 2<|zn 1<|zs 7 [])<|
 .cond 4 (zq (zi (.cs .v (.b false)) []) (zn 1<|zs 5<|zn 3 [])<|
 .ret) .skip)<|
 .reg (zp 1<|zi (.bi .add (.e 2) (.c (.n 1)))<|zp 1 []) (zs 0<|zn 1<|zs 5<|zn 2 []))<|
 zq (zp 1<|zi (.ln (.e 0) [])<|zi (.bi .leq (.e 5) (.c (.n 61)))<|zp 1<|zg [(6,true)] .nop<|zg [(6,true)] (.ln (.e 0) [])<|zg [(6,true)] (.bi .eql (.e 7) (.c (.n 0)))<|zg [(6,true)] (.cy (.e 8))<|zg [(6,true),(9,false)] .nop<|zg [(6,true),(9,false)] .nop<|zg [(6,true),(9,false)] (.ln (.e 0) [])<|zg [(6,true),(9,false)] (.bi .sub (.e 10) (.c (.n 1)))<|zg [(6,true),(9,false)] (.iy (.e 0) (.e 11))<|zg [(6,true),(9,false)] .nop<|zg [(6,true),(9,false)] (.bi .neq (.e 12) (.c (.n 0)))<|zg [(6,true)] (.pk (.e 9) (.c (.b true)) (.e 13))<|zi (.pk (.e 6) (.e 14) (.c (.b false)))<|zp 1 []) (zn 1<|zs 15<|zn 3 [])<|
 .ret⟩
def ir_spec_l14Binomial:IF:=⟨[],2,16,[2],zq (zi (.cs .v (.l [])) []) (zs 0<|zs 1<|zn 14 [])<|
 zq (zi (.li (.o .v) [.c (.n 1)])<|zi (.li (.o .v) [.e 16])<|zp 1 []) (zs 0<|zs 1<|zn 1<|zs 17<|zn 12 [])<|
 .seq (zq (zi (.cs .v (.n 1)) []) (zs 0<|zs 1<|zn 1<|zs 3<|zs 16<|zn 11 [])<|
 .block 0<|.loop<|.seq (zq (zp 2<|zi (.bi .leq (.e 4) (.e 0)) []) (zs 0<|zs 1<|zn 1<|zs 3<|zs 4<|zn 5<|zs 16<|zn 5 [])<|
 .cond 10 .skip (.exit 0))<|
 .seq (.block 1<|zq (zi (.li (.o .v) [])<|zp 1 []) (zs 0<|zs 1<|zn 1<|zs 3<|zs 4<|zs 16<|zn 10 [])<|
 .seq (zq (zi (.cs .v (.n 0)) []) (zs 0<|zs 1<|zn 1<|zs 3<|zs 4<|zs 5<|zs 16<|zn 9 [])<|
 .block 2<|.loop<|.seq (zq (zp 3<|zi (.mn (.e 4) (.e 1))<|zi (.bi .leq (.e 6) (.e 16)) []) (zs 0<|zs 1<|zn 1<|zs 3<|zs 4<|zs 5<|zs 6<|zn 4<|zs 17<|zn 4 [])<|
 .cond 11 .skip (.exit 2))<|
 .seq (.block 3<|zq (zp 3<|zi (.bi .sub (.e 4) (.e 6))<|zi (.bi .mul (.e 6) (.e 16))<|zi (.bi .add (.e 17) (.c (.n 1)))<|zi (.mk (.n 0) (.e 18) (.e 18))<|zp 1 []) (zs 0<|zs 1<|zn 1<|zs 3<|zs 4<|zs 5<|zs 6<|zs 19<|zn 8 [])<|
 .seq (zq (zp 2<|zi (.bi .lss (.e 6) (.e 4)) []) (zs 0<|zs 1<|zn 1<|zs 3<|zs 4<|zs 5<|zs 6<|zs 7<|zn 4<|zs 16<|zn 3 [])<|
 .cond 12 (zq (zi (.cs .v (.n 0)) []) (zs 0<|zs 1<|zn 1<|zs 3<|zs 4<|zs 5<|zs 6<|zs 7<|zs 16<|zn 7 [])<|
 .block 4<|.loop<|.seq (zq (zp 3<|zi (.ix (.e 3) [] (.e 6))<|zp 1<|zi (.ln (.e 16) [])<|zi (.bi .lss (.e 8) (.e 17)) []) (zs 0<|zs 1<|zn 1<|zs 3<|zs 4<|zs 5<|zs 6<|zs 7<|zs 8<|zn 4<|zs 18<|zn 2 [])<|
 .cond 13 .skip (.exit 4))<|
 .seq (.block 5<|.reg (zp 4<|zi (.ix (.e 7) [] (.e 8))<|zp 3<|zi (.ix (.e 3) [] (.e 6))<|zp 2<|zi (.ix (.e 17) [] (.e 8))<|zp 1<|zi (.bi .add (.e 16) (.e 18))<|zi (.ix (.e 7) [] (.e 8))<|zi (.up 7 [.e 8] (.e 19)) []) (zs 0<|zs 1<|zn 1<|zs 3<|zs 4<|zs 5<|zs 6<|zs 21<|zs 8<|zn 7 []))<|
 .reg (zp 1<|zi (.bi .add (.e 8) (.c (.n 1)))<|zp 1 []) (zs 0<|zs 1<|zn 1<|zs 3<|zs 4<|zs 5<|zs 6<|zs 7<|zs 16<|zn 7 [])) .skip)<|
 .seq (zq (zp 1<|zi (.bi .gtr (.e 6) (.c (.n 0))) []) (zs 0<|zs 1<|zn 1<|zs 3<|zs 4<|zs 5<|zs 6<|zs 7<|zn 6<|zs 16<|zn 1 [])<|
 .cond 14 (zq (zi (.cs .v (.n 0)) []) (zs 0<|zs 1<|zn 1<|zs 3<|zs 4<|zs 5<|zs 6<|zs 7<|zn 1<|zs 16<|zn 6 [])<|
 .block 6<|.loop<|.seq (zq (zp 3<|zi (.bi .sub (.e 6) (.c (.n 1)))<|zi (.ix (.e 3) [] (.e 16))<|zp 1<|zi (.ln (.e 17) [])<|zi (.bi .lss (.e 9) (.e 18)) []) (zs 0<|zs 1<|zn 1<|zs 3<|zs 4<|zs 5<|zs 6<|zs 7<|zn 1<|zs 9<|zn 5<|zs 19 [])<|
 .cond 15 .skip (.exit 6))<|
 .seq (.block 7<|.reg (zp 3<|zi (.bi .add (.e 9) (.e 4))<|zp 1<|zi (.bi .sub (.e 16) (.e 6))<|zp 3<|zi (.bi .add (.e 9) (.e 4))<|zp 1<|zi (.bi .sub (.e 18) (.e 6))<|zi (.ix (.e 7) [] (.e 19))<|zp 3<|zi (.bi .sub (.e 6) (.c (.n 1)))<|zi (.ix (.e 3) [] (.e 21))<|zp 2<|zi (.ix (.e 22) [] (.e 9))<|zp 1<|zi (.bi .add (.e 20) (.e 23))<|zi (.ix (.e 7) [] (.e 17))<|zi (.up 7 [.e 17] (.e 24)) []) (zs 0<|zs 1<|zn 1<|zs 3<|zs 4<|zs 5<|zs 6<|zs 26<|zn 1<|zs 9<|zn 6 []))<|
 .reg (zp 1<|zi (.bi .add (.e 9) (.c (.n 1)))<|zp 1 []) (zs 0<|zs 1<|zn 1<|zs 3<|zs 4<|zs 5<|zs 6<|zs 7<|zn 1<|zs 16<|zn 6 [])) .skip)<|
 .reg (zp 2<|zi (.li (.o .v) [.e 7])<|zi (.ap false (.e 5) (.e 16))<|zp 1 []) (zs 0<|zs 1<|zn 1<|zs 3<|zs 4<|zs 17<|zs 6<|zn 9 []))<|
 .reg (zp 1<|zi (.bi .add (.e 6) (.c (.n 1)))<|zp 1 []) (zs 0<|zs 1<|zn 1<|zs 3<|zs 4<|zs 5<|zs 16<|zn 9 []))<|
 .reg (zp 2 []) (zs 0<|zs 1<|zn 1<|zs 5<|zs 4<|zn 11 []))<|
 .reg (zp 1<|zi (.bi .add (.e 4) (.c (.n 1)))<|zp 1 []) (zs 0<|zs 1<|zn 1<|zs 3<|zs 16<|zn 11 []))<|
 zq (zp 2<|zi (.ix (.e 3) [] (.e 1))<|zp 2 []) (zn 2<|zs 16<|zn 13 [])<|
 .ret⟩
def ir_spec_l14Divide:IF:=⟨[],2,11,[2,3],zq (zi (.cs (.o .v) (.l []))<|zi (.cs (.o .v) (.l [])) []) (zs 0<|zs 1<|zn 9 [])<|
 zq (zi (.li (.o .v) [])<|zp 1<|zi (.ap true (.e 11) (.e 0))<|zp 1 []) (zs 0<|zs 1<|zn 2<|zs 12<|zn 6 [])<|
 zq (zp 1<|zi (.ln (.e 0) [])<|zp 1<|zi (.ln (.e 1) [])<|zi (.bi .sub (.e 11) (.e 12))<|zi (.bi .add (.e 13) (.c (.n 1)))<|zi (.mx (.c (.n 0)) (.e 14))<|zi (.mk (.n 0) (.e 15) (.e 15))<|zp 1 []) (zn 1<|zs 1<|zn 2<|zs 4<|zs 16<|zn 5 [])<|
 .seq (zq (zp 1<|zi (.ln (.e 5) [])<|zi (.bi .sub (.e 11) (.c (.n 1)))<|zp 1 []) (zn 1<|zs 1<|zn 2<|zs 4<|zs 5<|zs 12<|zn 4 [])<|
 .block 0<|.loop<|.seq (zq (zp 1<|zi (.bi .geq (.e 6) (.c (.n 0))) []) (zn 1<|zs 1<|zn 2<|zs 4<|zs 5<|zs 6<|zn 2<|zs 11<|zn 1 [])<|
 .cond 9 .skip (.exit 0))<|
 .seq (.block 1<|zq (zp 3<|zi (.ln (.e 1) [])<|zi (.bi .add (.e 6) (.e 11))<|zi (.bi .sub (.e 12) (.c (.n 1)))<|zi (.ix (.e 4) [] (.e 13))<|zp 2 []) (zn 1<|zs 1<|zn 2<|zs 4<|zs 5<|zs 6<|zs 14<|zn 3 [])<|
 zq (zp 3<|zi (.ix (.e 5) [] (.e 6))<|zi (.up 5 [.e 6] (.e 7)) []) (zn 1<|zs 1<|zn 2<|zs 4<|zs 12<|zs 6<|zs 7<|zn 3 [])<|
 zq (zi (.cs .v (.n 0)) []) (zn 1<|zs 1<|zn 2<|zs 4<|zs 5<|zs 6<|zs 7<|zs 11<|zn 2 [])<|
 .block 2<|.loop<|.seq (zq (zp 2<|zi (.ln (.e 1) [])<|zi (.bi .lss (.e 8) (.e 11)) []) (zn 1<|zs 1<|zn 2<|zs 4<|zs 5<|zs 6<|zs 7<|zs 8<|zn 1<|zs 12 [])<|
 .cond 10 .skip (.exit 2))<|
 .seq (.block 3<|.reg (zp 3<|zi (.bi .add (.e 6) (.e 8))<|zp 3<|zi (.bi .add (.e 6) (.e 8))<|zi (.ix (.e 4) [] (.e 12))<|zp 4<|zi (.iy (.e 1) (.e 8))<|zp 1<|zi (.bi .mul (.e 7) (.e 14))<|zi (.bi .sub (.e 13) (.e 15))<|zi (.ix (.e 4) [] (.e 11))<|zi (.up 4 [.e 11] (.e 16)) []) (zn 1<|zs 1<|zn 2<|zs 18<|zs 5<|zs 6<|zs 7<|zs 8<|zn 2 []))<|
 .reg (zp 1<|zi (.bi .add (.e 8) (.c (.n 1)))<|zp 1 []) (zn 1<|zs 1<|zn 2<|zs 4<|zs 5<|zs 6<|zs 7<|zs 11<|zn 2 []))<|
 .reg (zp 1<|zi (.bi .sub (.e 6) (.c (.n 1)))<|zp 1 []) (zn 1<|zs 1<|zn 2<|zs 4<|zs 5<|zs 11<|zn 4 []))<|
 zq (zp 1<|zi (.ca 463 [.e 5] 1)<|zp 1<|zi (.ca 463 [.e 4] 1)<|zp 2 []) (zn 2<|zs 11<|zs 12<|zn 7 [])<|
 .ret⟩
def ir_spec_l14Number:IF:=⟨[],1,5,[1],zq (zi (.cs (.o .v) (.l [])) []) (zs 0<|zn 4 [])<|
 zq (zi (.li (.o .v) [])<|zp 1 []) (zs 0<|zn 1<|zs 5<|zn 2 [])<|
 .seq (zq (zi (.cs .v (.n 0)) []) (zs 0<|zn 1<|zs 2<|zs 5<|zn 1 [])<|
 .block 0<|.loop<|.seq (zq (zp 2<|zi (.bi .lss (.e 3) (.e 0)) []) (zs 0<|zn 1<|zs 2<|zs 3<|zs 5 [])<|
 .cond 4 .skip (.exit 0))<|
 .seq (.block 1<|.reg (zp 1<|zi (.li (.o .v) [.c (.n 1)])<|zi (.ap false (.e 2) (.e 5))<|zp 1 []) (zs 0<|zn 1<|zs 6<|zs 3<|zn 1 []))<|
 .reg (zp 1<|zi (.bi .add (.e 3) (.c (.n 1)))<|zp 1 []) (zs 0<|zn 1<|zs 2<|zs 5<|zn 1 []))<|
 zq (zp 2 []) (zn 1<|zs 2<|zn 3 [])<|
 .ret⟩
def ir_spec_l14Small:IF:=⟨[],1,5,[1],zq (zi (.cs .v (.b false)) []) (zs 0<|zn 4 [])<|
 .seq (zq (zi (.cs .v (.n 0)) []) (zs 0<|zn 1<|zs 5<|zn 2 [])<|
 .block 0<|.loop<|.seq (zq (zp 2<|zi (.ln (.e 0) [])<|zi (.bi .lss (.e 2) (.e 5)) []) (zs 0<|zn 1<|zs 2<|zs 6<|zn 1 [])<|
 .cond 3 .skip (.exit 0))<|
 .seq (.block 1<|zq (zp 2<|zi (.iy (.e 0) (.e 2))<|zp 1<|zi (.ca 22 [.e 5,.c (.n (-100000)),.c (.n 100000)] 1)<|zi (.un .not (.e 6)) []) (zs 0<|zn 1<|zs 2<|zn 1<|zs 7 [])<|
 .cond 4 (zq (zi (.cs .v (.b false)) []) (zn 1<|zs 5<|zn 3 [])<|
 .ret) .skip)<|
 .reg (zp 1<|zi (.bi .add (.e 2) (.c (.n 1)))<|zp 1 []) (zs 0<|zn 1<|zs 5<|zn 2 []))<|
 zq (zp 1<|zi (.ca 429 [.e 0] 1)<|zp 1 []) (zn 1<|zs 5<|zn 3 [])<|
 .ret⟩
def ir_spec_l14Trim:IF:=⟨[],1,4,[1],zq (zi (.cs (.o .v) (.l [])) []) (zs 0<|zn 3 [])<|
 zq (zp 1<|zi (.ln (.e 0) [])<|zp 1 []) (zs 0<|zn 1<|zs 4<|zn 1 [])<|
 .seq (.block 0<|.loop<|.seq (zq (zp 1<|zi (.bi .gtr (.e 2) (.c (.n 0)))<|zp 1<|zg [(4,true)] .nop<|zg [(4,true)] (.cy (.e 2))<|zg [(4,true)] (.bi .sub (.e 5) (.c (.n 1)))<|zg [(4,true)] (.iy (.e 0) (.e 6))<|zg [(4,true)] .nop<|zg [(4,true)] (.bi .eql (.e 7) (.c (.n 0)))<|zi (.pk (.e 4) (.e 8) (.c (.b false))) []) (zs 0<|zn 1<|zs 2<|zs 9 [])<|
 .cond 3 .skip (.exit 0))<|
 .block 1<|.reg (zp 1<|zi (.bi .sub (.e 2) (.c (.n 1)))<|zp 1 []) (zs 0<|zn 1<|zs 4<|zn 1 []))<|
 zq (zi (.li (.o .v) [])<|zp 2<|zi (.sb false (.e 0) none (some (.e 2)))<|zi (.ap true (.e 4) (.e 5))<|zp 1 []) (zn 1<|zs 6<|zn 2 [])<|
 .ret⟩
end Go.Cat
namespace Go.Cat
def ir_spec_FixedByTurn:IF:=⟨[],3,11,[3],zq (zi (.cs .v (.n 0)) []) (zs 0<|zs 1<|zs 2<|zn 8 [])<|
 zq (zp 2<|zi (.ca 567 [.e 0,.e 1] 1)<|zp 1 []) (zs 0<|zs 1<|zs 2<|zn 1<|zs 11<|zn 6 [])<|
 .seq (zq (zp 1<|zi (.bi .lss (.e 4) (.c (.n 0)))<|zp 1<|zg [(11,false)] (.cy (.e 2))<|zg [(11,false)] (.cy (.e 4))<|zg [(11,false)] (.bi .sub (.e 13) (.c (.n 1)))<|zg [(11,false)] (.ca 22 [.e 12,.c (.n 0),.e 14] 1)<|zg [(11,false)] (.un .not (.e 15))<|zi (.pk (.e 11) (.c (.b true)) (.e 16)) []) (zs 0<|zs 1<|zs 2<|zn 5<|zs 17<|zn 2 [])<|
 .cond 8 (zq (zi (.cs .v (.n (-1))) []) (zn 3<|zs 11<|zn 7 [])<|
 .ret) .skip)<|
 zq (zp 1<|zi (.ca 234 [.e 1] 1)<|zp 1 []) (zs 0<|zn 1<|zs 2<|zn 2<|zs 11<|zn 5 [])<|
 zq (zi (.cs .v (.n 0)) []) (zs 0<|zn 1<|zs 2<|zn 2<|zs 5<|zs 11<|zn 4 [])<|
 .seq (zq (zi (.cs .v (.n 0)) []) (zs 0<|zn 1<|zs 2<|zn 2<|zs 5<|zs 6<|zs 11<|zn 3 [])<|
 .block 0<|.loop<|.seq (zq (zp 2<|zi (.ln (.e 5) [])<|zi (.bi .lss (.e 7) (.e 11)) []) (zs 0<|zn 1<|zs 2<|zn 2<|zs 5<|zs 6<|zs 7<|zn 1<|zs 12<|zn 1 [])<|
 .cond 9 .skip (.exit 0))<|
 .seq (.block 1<|zq (zp 3<|zi (.ix (.e 5) [] (.e 7))<|zp 2<|zi (.ca 584 [.e 0,.e 11,.e 2] 1)<|zp 2<|zi (.ix (.e 5) [] (.e 7))<|zp 1<|zi (.bi .eql (.e 12) (.e 13)) []) (zs 0<|zn 1<|zs 2<|zn 2<|zs 5<|zs 6<|zs 7<|zn 2<|zs 14 [])<|
 .cond 10 (.reg (zp 1<|zi (.bi .add (.e 6) (.c (.n 1)))<|zp 1 []) (zs 0<|zn 1<|zs 2<|zn 2<|zs 5<|zs 11<|zs 7<|zn 3 [])) .skip)<|
 .reg (zp 1<|zi (.bi .add (.e 7) (.c (.n 1)))<|zp 1 []) (zs 0<|zn 1<|zs 2<|zn 2<|zs 5<|zs 6<|zs 11<|zn 3 []))<|
 zq (zp 2 []) (zn 3<|zs 6<|zn 7 [])<|
 .ret⟩
def ir_spec_OrbitSizes:IF:=⟨[],2,14,[2,3],zq (zi (.cs (.o .v) (.l []))<|zi (.cs .v (.b false)) []) (zs 0<|zs 1<|zn 12 [])<|
 zq (zi (.li (.o .v) [])<|zp 1 []) (zs 0<|zs 1<|zn 2<|zs 14<|zn 9 [])<|
 .seq (zq (zp 2<|zi (.ca 567 [.e 0,.e 1] 1)<|zi (.bi .lss (.e 14) (.c (.n 0))) []) (zs 0<|zs 1<|zn 2<|zs 4<|zn 5<|zs 15<|zn 3 [])<|
 .cond 10 (zq (zp 2<|zi (.cs .v (.b false)) []) (zn 2<|zs 4<|zs 14<|zn 10 [])<|
 .ret) .skip)<|
 zq (zp 1<|zi (.ca 234 [.e 1] 1)<|zp 1 []) (zs 0<|zn 3<|zs 4<|zs 14<|zn 8 [])<|
 zq (zi (.li (.o .v) [])<|zp 1 []) (zs 0<|zn 3<|zs 4<|zs 5<|zs 14<|zn 7 [])<|
 .seq (zq (zi (.cs .v (.n 0)) []) (zs 0<|zn 3<|zs 4<|zs 5<|zs 6<|zs 14<|zn 6 [])<|
 .block 0<|.loop<|.seq (zq (zp 2<|zi (.ln (.e 5) [])<|zi (.bi .lss (.e 7) (.e 14)) []) (zs 0<|zn 3<|zs 4<|zs 5<|zs 6<|zs 7<|zn 3<|zs 15<|zn 2 [])<|
 .cond 11 .skip (.exit 0))<|
 .seq (.block 1<|.seq (zq (zp 3<|zi (.ix (.e 5) [] (.e 7))<|zp 1<|zi (.ca 378 [.e 6,.e 14] 1) []) (zs 0<|zn 3<|zs 4<|zs 5<|zs 6<|zs 7<|zn 4<|zs 15<|zn 1 [])<|
 .cond 12 (.exit 1) .skip)<|
 zq (zi (.cs .v (.n 0)) []) (zs 0<|zn 3<|zs 4<|zs 5<|zs 6<|zs 7<|zs 14<|zn 5 [])<|
 .seq (zq (zp 2<|zi (.ix (.e 5) [] (.e 7))<|zp 2 []) (zs 0<|zn 3<|zs 4<|zs 5<|zs 6<|zs 7<|zs 8<|zs 14<|zn 4 [])<|
 .block 2<|.loop<|.seq (zq (zp 2<|zi (.ca 378 [.e 6,.e 9] 1)<|zi (.un .not (.e 14)) []) (zs 0<|zn 3<|zs 4<|zs 5<|zs 6<|zs 7<|zs 8<|zs 9<|zn 3<|zs 15 [])<|
 .cond 13 .skip (.exit 2))<|
 .seq (.block 3<|zq (zp 2<|zi (.li (.o .v) [.e 9])<|zi (.ap false (.e 6) (.e 14))<|zp 1 []) (zs 0<|zn 3<|zs 4<|zs 5<|zs 15<|zs 7<|zs 8<|zs 9<|zn 4 [])<|
 .reg (zp 1<|zi (.bi .add (.e 8) (.c (.n 1)))<|zp 1 []) (zs 0<|zn 3<|zs 4<|zs 5<|zs 6<|zs 7<|zs 14<|zs 9<|zn 4 []))<|
 .reg (zp 2<|zi (.ca 584 [.e 0,.e 9,.c (.n 1)] 1)<|zp 1 []) (zs 0<|zn 3<|zs 4<|zs 5<|zs 6<|zs 7<|zs 8<|zs 14<|zn 4 []))<|
 .reg (zp 2<|zi (.li (.o .v) [.e 8])<|zi (.ap false (.e 4) (.e 14))<|zp 1 []) (zs 0<|zn 3<|zs 15<|zs 5<|zs 6<|zs 7<|zn 6 []))<|
 .reg (zp 1<|zi (.bi .add (.e 7) (.c (.n 1)))<|zp 1 []) (zs 0<|zn 3<|zs 4<|zs 5<|zs 6<|zs 14<|zn 6 []))<|
 zq (zp 2<|zi (.cs .v (.b true)) []) (zn 2<|zs 4<|zs 14<|zn 10 [])<|
 .ret⟩
def ir_spec_OrderOfTurn:IF:=⟨[],2,8,[2],zq (zi (.cs .v (.n 0)) []) (zs 0<|zs 1<|zn 6 [])<|
 .seq (zq (zp 1<|zi (.ca 22 [.e 1,.c (.n 1),.c (.n 5)] 1)<|zi (.un .not (.e 8)) []) (zs 0<|zs 1<|zn 1<|zs 9<|zn 4 [])<|
 .cond 3 (zq (zi (.cs .v (.n (-1))) []) (zn 2<|zs 8<|zn 5 [])<|
 .ret) .skip)<|
 .seq (zq (zp 1 []) (zn 1<|zs 1<|zn 2<|zs 0<|zn 3 [])<|
 .block 0<|zq (zi (.bi .eql (.e 4) (.c (.s [109,97,116,99,104,105,110,103,115])))<|zp 1 []) (zn 1<|zs 1<|zn 2<|zs 4<|zs 8<|zn 2 [])<|
 .cond 5 (zq (zp 1<|zi (.bi .mul (.c (.n 2)) (.e 1))<|zp 1 []) (zn 2<|zs 8<|zn 5 [])<|
 .ret) (zq (zi (.bi .eql (.e 4) (.c (.s [112,97,114,116,105,116,105,111,110,115])))<|zp 1 []) (zn 1<|zs 1<|zn 2<|zs 4<|zn 1<|zs 8<|zn 1 [])<|
 .cond 6 (zq (zp 2 []) (zn 2<|zs 1<|zn 5 [])<|
 .ret) (zq (zi (.bi .eql (.e 4) (.c (.s [116,114,105,97,110,103,117,108,97,116,105,111,110,115])))<|zp 1 []) (zn 1<|zs 1<|zn 5<|zs 8 [])<|
 .cond 7 (zq (zp 1<|zi (.bi .add (.e 1) (.c (.n 2)))<|zp 1 []) (zn 2<|zs 8<|zn 5 [])<|
 .ret) .skip)))<|
 zq (zi (.cs .v (.n (-1))) []) (zn 2<|zs 8<|zn 5 [])<|
 .ret⟩
def ir_spec_SieveHolds:IF:=⟨[],2,11,[2],zq (zi (.cs .v (.b false)) []) (zs 0<|zs 1<|zn 9 [])<|
 zq (zp 2<|zi (.ca 567 [.e 0,.e 1] 1)<|zp 1 []) (zs 0<|zs 1<|zn 1<|zs 11<|zn 7 [])<|
 zq (zp 1<|zi (.ca 425 [.e 1] 2)<|zp 5 []) (zs 0<|zs 1<|zn 1<|zs 3<|zs 11<|zs 12<|zn 5 [])<|
 .seq (zq (zi (.cs .v (.n 0)) []) (zs 0<|zs 1<|zn 1<|zs 3<|zs 4<|zs 5<|zs 11<|zn 4 [])<|
 .block 0<|.loop<|.seq (zq (zp 2<|zi (.bi .lss (.e 6) (.e 3)) []) (zs 0<|zs 1<|zn 1<|zs 3<|zs 4<|zs 5<|zs 6<|zn 2<|zs 11<|zn 1 [])<|
 .cond 9 .skip (.exit 0))<|
 .seq (.block 1<|zq (zp 3<|zi (.ca 586 [.e 3,.e 6] 1)<|zi (.ca 585 [.e 4,.e 11] 2)<|zp 5 []) (zs 0<|zs 1<|zn 1<|zs 3<|zs 4<|zs 5<|zs 6<|zs 12<|zs 13<|zn 2 [])<|
 zq (zp 1<|zi (.un .not (.e 8))<|zp 1<|zg [(11,false)] (.cy (.e 7))<|zg [(11,false)] (.cy (.e 0))<|zg [(11,false)] (.cy (.e 1))<|zg [(11,false)] (.cy (.e 6))<|zg [(11,false)] (.ca 568 [.e 13,.e 14,.e 15] 1)<|zg [(11,false)] (.bi .neq (.e 12) (.e 16))<|zi (.pk (.e 11) (.c (.b true)) (.e 17)) []) (zs 0<|zs 1<|zn 1<|zs 3<|zs 4<|zs 5<|zs 6<|zn 3<|zs 18 [])<|
 .cond 10 (zq (zi (.cs .v (.b false)) []) (zn 2<|zs 11<|zn 8 [])<|
 .ret) .skip)<|
 .reg (zp 1<|zi (.bi .add (.e 6) (.c (.n 1)))<|zp 1 []) (zs 0<|zs 1<|zn 1<|zs 3<|zs 4<|zs 5<|zs 11<|zn 4 []))<|
 zq (zp 2<|zg [(5,true)] (.cy (.e 3))<|zg [(5,true)] (.bi .gtr (.e 11) (.c (.n 0)))<|zi (.pk (.e 5) (.e 12) (.c (.b false)))<|zp 1 []) (zn 2<|zs 13<|zn 8 [])<|
 .ret⟩
def ir_spec_ValueAtRoot:IF:=⟨[],2,9,[2,3],zq (zi (.cs .v (.n 0))<|zi (.cs .v (.b false)) []) (zs 0<|zs 1<|zn 7 [])<|
 .seq (zq (zp 1<|zi (.ca 462 [.e 0] 1)<|zi (.un .not (.e 9))<|zp 1<|zg [(10,false)] (.cy (.e 1))<|zg [(10,false)] (.ca 22 [.e 11,.c (.n 1),.c (.n 16)] 1)<|zg [(10,false)] (.un .not (.e 12))<|zi (.pk (.e 10) (.c (.b true)) (.e 13)) []) (zs 0<|zs 1<|zn 3<|zs 14<|zn 3 [])<|
 .cond 5 (zq (zi (.cs .v (.n 0))<|zi (.cs .v (.b false)) []) (zn 2<|zs 9<|zs 10<|zn 5 [])<|
 .ret) .skip)<|
 zq (zp 2<|zi (.ca 596 [.e 1] 1)<|zi (.ca 471 [.e 0,.e 9] 2)<|zp 5 []) (zn 4<|zs 11<|zn 4 [])<|
 .seq (zq (zp 1<|zi (.ln (.e 4) []) []) (zn 4<|zs 4<|zn 1<|zs 9<|zn 2 [])<|
 .block 0<|zq (zi (.bi .eql (.e 6) (.c (.n 0)))<|zp 1 []) (zn 4<|zs 4<|zn 1<|zs 6<|zs 9<|zn 1 [])<|
 .cond 7 (zq (zi (.cs .v (.n 0))<|zi (.cs .v (.b true)) []) (zn 2<|zs 9<|zs 10<|zn 5 [])<|
 .ret) (zq (zi (.bi .eql (.e 6) (.c (.n 1)))<|zp 1 []) (zn 4<|zs 4<|zn 3<|zs 9 [])<|
 .cond 8 (zq (zp 1<|zi (.ix (.e 4) [] (.c (.n 0)))<|zp 2<|zi (.cs .v (.b true)) []) (zn 2<|zs 9<|zs 10<|zn 5 [])<|
 .ret) .skip))<|
 zq (zi (.cs .v (.n 0))<|zi (.cs .v (.b false)) []) (zn 2<|zs 9<|zs 10<|zn 5 [])<|
 .ret⟩
def ir_spec_l15Cyclotomic:IF:=⟨[],1,6,[1],zq (zi (.cs (.o .v) (.l [])) []) (zs 0<|zn 5 [])<|
 zq (zp 1<|zi (.bi .add (.e 0) (.c (.n 1)))<|zi (.mk (.n 0) (.e 6) (.e 6))<|zp 1 []) (zs 0<|zn 1<|zs 7<|zn 3 [])<|
 zq (zp 1<|zi (.ix (.e 2) [] (.c (.n 0)))<|zi (.up 2 [.k 0] (.c (.n (-1)))) []) (zs 0<|zn 1<|zs 7<|zn 3 [])<|
 zq (zp 2<|zi (.ix (.e 2) [] (.e 0))<|zi (.up 2 [.e 0] (.c (.n 1))) []) (zs 0<|zn 1<|zs 7<|zn 3 [])<|
 .seq (zq (zi (.cs .v (.n 1)) []) (zs 0<|zn 1<|zs 2<|zs 6<|zn 2 [])<|
 .block 0<|.loop<|.seq (zq (zp 2<|zi (.bi .lss (.e 3) (.e 0)) []) (zs 0<|zn 1<|zs 2<|zs 3<|zs 6<|zn 1 [])<|
 .cond 4 .skip (.exit 0))<|
 .seq (.block 1<|zq (zp 2<|zi (.bi .rem (.e 0) (.e 3))<|zi (.bi .eql (.e 6) (.c (.n 0))) []) (zs 0<|zn 1<|zs 2<|zs 3<|zn 1<|zs 7 [])<|
 .cond 5 (.reg (zp 2<|zi (.ca 596 [.e 3] 1)<|zi (.ca 471 [.e 2,.e 6] 2)<|zp 4 []) (zs 0<|zn 1<|zs 7<|zs 3<|zn 2 [])) .skip)<|
 .reg (zp 1<|zi (.bi .add (.e 3) (.c (.n 1)))<|zp 1 []) (zs 0<|zn 1<|zs 2<|zs 6<|zn 2 []))<|
 zq (zp 2 []) (zn 1<|zs 2<|zn 4 [])<|
 .ret⟩
def ir_spec_l15Has:IF:=⟨[],2,6,[2],zq (zi (.cs .v (.b false)) []) (zs 0<|zs 1<|zn 4 [])<|
 .seq (zq (zi (.cs .v (.n 0)) []) (zs 0<|zs 1<|zn 1<|zs 6<|zn 2 [])<|
 .block 0<|.loop<|.seq (zq (zp 2<|zi (.ln (.e 0) [])<|zi (.bi .lss (.e 3) (.e 6)) []) (zs 0<|zs 1<|zn 1<|zs 3<|zs 7<|zn 1 [])<|
 .cond 4 .skip (.exit 0))<|
 .seq (.block 1<|zq (zp 2<|zi (.iy (.e 0) (.e 3))<|zp 2<|zi (.bi .eql (.e 6) (.e 1)) []) (zs 0<|zs 1<|zn 1<|zs 3<|zn 1<|zs 7 [])<|
 .cond 5 (zq (zi (.cs .v (.b true)) []) (zn 2<|zs 6<|zn 3 [])<|
 .ret) .skip)<|
 .reg (zp 1<|zi (.bi .add (.e 3) (.c (.n 1)))<|zp 1 []) (zs 0<|zs 1<|zn 1<|zs 6<|zn 2 []))<|
 zq (zi (.cs .v (.b false)) []) (zn 2<|zs 6<|zn 3 [])<|
 .ret⟩
def ir_spec_l15Order:IF:=⟨[],2,6,[2],zq (zi (.cs .v (.n 0)) []) (zs 0<|zs 1<|zn 4 [])<|
 .seq (zq (zi (.cs .v (.n 1)) []) (zs 0<|zs 1<|zn 1<|zs 6<|zn 2 [])<|
 .block 0<|.loop<|.seq (zq (zp 2<|zi (.bi .lss (.e 3) (.e 0)) []) (zs 0<|zs 1<|zn 1<|zs 3<|zs 6<|zn 1 [])<|
 .cond 4 .skip (.exit 0))<|
 .seq (.block 1<|zq (zp 2<|zi (.bi .mul (.e 3) (.e 1))<|zp 1<|zi (.bi .rem (.e 6) (.e 0))<|zi (.bi .eql (.e 7) (.c (.n 0))) []) (zs 0<|zs 1<|zn 1<|zs 3<|zn 1<|zs 8 [])<|
 .cond 5 (zq (zp 2 []) (zn 2<|zs 3<|zn 3 [])<|
 .ret) .skip)<|
 .reg (zp 1<|zi (.bi .add (.e 3) (.c (.n 1)))<|zp 1 []) (zs 0<|zs 1<|zn 1<|zs 6<|zn 2 []))<|
 zq (zp 2 []) (zn 2<|zs 0<|zn 3 [])<|
 .ret⟩
def ir_spec_l15Turn:IF:=⟨[],3,20,[3],zq (zi (.cs .v (.s [])) []) (zs 0<|zs 1<|zs 2<|zn 17 [])<|
 zq (zp 1<|zi (.sn (.e 1))<|zi (.bi .quo (.e 20) (.c (.n 2)))<|zp 1 []) (zs 0<|zs 1<|zs 2<|zn 1<|zs 21<|zn 15 [])<|
 .seq (zq (zp 1 []) (zn 1<|zs 1<|zs 2<|zn 1<|zs 4<|zn 11<|zs 0<|zn 3 [])<|
 .block 0<|zq (zi (.bi .eql (.e 16) (.c (.s [109,97,116,99,104,105,110,103,115])))<|zp 1 []) (zn 1<|zs 1<|zs 2<|zn 1<|zs 4<|zn 11<|zs 16<|zs 20<|zn 2 [])<|
 .cond 17 (zq (zp 1<|zi (.ca 356 [.e 1] 2)<|zp 5 []) (zn 2<|zs 2<|zn 1<|zs 4<|zs 20<|zn 14 [])<|
 zq (zp 3<|zi (.bi .mul (.c (.n 2)) (.e 4))<|zi (.bi .rem (.e 2) (.e 20))<|zi (.ca 477 [.e 5,.e 21] 2)<|zp 5 []) (zn 6<|zs 22<|zn 13 [])<|
 zq (zp 1<|zi (.ca 581 [.e 6] 2)<|zp 5 []) (zn 7<|zs 20<|zn 12 [])<|
 zq (zp 2 []) (zn 3<|zs 7<|zn 16 [])<|
 .ret) (zq (zi (.bi .eql (.e 16) (.c (.s [112,97,114,116,105,116,105,111,110,115])))<|zp 1 []) (zn 1<|zs 1<|zs 2<|zn 1<|zs 4<|zn 13<|zs 20<|zn 1 [])<|
 .cond 18 (zq (zp 1<|zi (.ca 301 [.e 1] 2)<|zp 5 []) (zn 2<|zs 2<|zn 5<|zs 20<|zn 11 [])<|
 .seq (zq (zi (.cs .v (.n 0)) []) (zn 2<|zs 2<|zn 5<|zs 8<|zs 20<|zn 10 [])<|
 .block 1<|.loop<|.seq (zq (zp 2<|zi (.bi .lss (.e 9) (.e 2)) []) (zn 2<|zs 2<|zn 5<|zs 8<|zs 9<|zn 9<|zs 20 [])<|
 .cond 19 .skip (.exit 1))<|
 .seq (.block 2<|.reg (zp 1<|zi (.ca 594 [.e 8] 2)<|zp 4 []) (zn 2<|zs 2<|zn 5<|zs 20<|zs 9<|zn 10 []))<|
 .reg (zp 1<|zi (.bi .add (.e 9) (.c (.n 1)))<|zp 1 []) (zn 2<|zs 2<|zn 5<|zs 8<|zs 20<|zn 10 []))<|
 zq (zp 1<|zi (.ca 579 [.e 8] 2)<|zp 5 []) (zn 10<|zs 20<|zn 9 [])<|
 zq (zp 2 []) (zn 3<|zs 10<|zn 16 [])<|
 .ret) .skip))<|
 zq (zp 1<|zi (.ca 530 [.e 1] 2)<|zp 5 []) (zn 2<|zs 2<|zn 1<|zs 4<|zn 6<|zs 20<|zn 8 [])<|
 zq (zp 1<|zi (.ca 531 [.e 11] 2)<|zp 5 []) (zn 2<|zs 2<|zn 1<|zs 4<|zn 7<|zs 20<|zn 7 [])<|
 zq (zp 1<|zi (.bi .add (.e 4) (.c (.n 2)))<|zp 3<|zi (.bi .add (.e 4) (.c (.n 2)))<|zi (.bi .rem (.e 2) (.e 21))<|zi (.ca 595 [.e 20,.e 12,.e 22] 2)<|zp 5 []) (zn 4<|zs 4<|zn 8<|zs 23<|zn 6 [])<|
 zq (zp 1<|zi (.bi .add (.e 4) (.c (.n 2)))<|zp 1<|zi (.ca 593 [.e 20,.e 13] 2)<|zp 5 []) (zn 14<|zs 21<|zn 5 [])<|
 zq (zp 1<|zi (.ca 577 [.e 14] 2)<|zp 5 []) (zn 15<|zs 20<|zn 4 [])<|
 zq (zp 2 []) (zn 3<|zs 15<|zn 16 [])<|
 .ret⟩
end Go.Cat
namespace Go.Cat
def ir_spec_SieveLine:IF:=⟨[],2,12,[2],zq (zi (.cs .v (.s [])) []) (zs 0<|zs 1<|zn 10 [])<|
 zq (zp 2<|zi (.ca 567 [.e 0,.e 1] 1)<|zp 1 []) (zs 0<|zs 1<|zn 1<|zs 12<|zn 8 [])<|
 .seq (zq (zp 1<|zi (.bi .lss (.e 3) (.c (.n 0))) []) (zs 0<|zs 1<|zn 1<|zs 3<|zn 5<|zs 12<|zn 2 [])<|
 .cond 9 (zq (zi (.cs .v (.s [])) []) (zn 2<|zs 12<|zn 9 [])<|
 .ret) .skip)<|
 zq (zp 1<|zi (.ca 425 [.e 1] 2)<|zp 5 []) (zs 0<|zs 1<|zn 1<|zs 3<|zs 12<|zn 7 [])<|
 zq (zi (.li (.o .v) [])<|zp 1 []) (zs 0<|zs 1<|zn 1<|zs 3<|zs 4<|zs 12<|zn 6 [])<|
 .seq (zq (zi (.cs .v (.n 0)) []) (zs 0<|zs 1<|zn 1<|zs 3<|zs 4<|zs 5<|zs 12<|zn 5 [])<|
 .block 0<|.loop<|.seq (zq (zp 2<|zi (.bi .lss (.e 6) (.e 3)) []) (zs 0<|zs 1<|zn 1<|zs 3<|zs 4<|zs 5<|zs 6<|zn 3<|zs 12<|zn 1 [])<|
 .cond 10 .skip (.exit 0))<|
 .seq (.block 1<|.reg (zp 4<|zi (.ca 568 [.e 0,.e 1,.e 6] 1)<|zi (.li (.o .v) [.e 12])<|zi (.ap false (.e 5) (.e 13))<|zp 1 []) (zs 0<|zs 1<|zn 1<|zs 3<|zs 4<|zs 14<|zs 6<|zn 5 []))<|
 .reg (zp 1<|zi (.bi .add (.e 6) (.c (.n 1)))<|zp 1 []) (zs 0<|zs 1<|zn 1<|zs 3<|zs 4<|zs 5<|zs 12<|zn 5 []))<|
 zq (zp 2<|zi (.ca 569 [.e 0,.e 1] 2)<|zp 5 []) (zs 0<|zs 1<|zn 2<|zs 4<|zs 5<|zn 1<|zs 12<|zn 4 [])<|
 zq (zp 1<|zi (.ca 431 [.e 4] 1)<|zi (.bi .add (.c (.s [115,105,101,118,101,32])) (.e 12))<|zi (.bi .add (.e 13) (.c (.s [32,102,105,120,101,100,32])))<|zp 1<|zi (.ca 137 [.e 5] 1)<|zi (.bi .add (.e 14) (.e 15))<|zi (.bi .add (.e 16) (.c (.s [32,111,114,98,105,116,115,32])))<|zp 1<|zi (.ca 137 [.e 7] 1)<|zi (.bi .add (.e 17) (.e 18))<|zp 1 []) (zs 0<|zs 1<|zn 6<|zs 19<|zn 3 [])<|
 .seq (zq (zp 2<|zi (.ca 570 [.e 0,.e 1] 1) []) (zn 8<|zs 8<|zn 2<|zs 12 [])<|
 .cond 11 (zq (zp 1<|zi (.bi .add (.e 8) (.c (.s [32,104,111,108,100,115])))<|zp 1 []) (zn 2<|zs 12<|zn 9 [])<|
 .ret) .skip)<|
 zq (zp 2 []) (zn 2<|zs 8<|zn 9 [])<|
 .ret⟩
def ir_spec_l34Numbers:IF:=⟨[],1,7,[1],zq (zi (.cs .v (.s [])) []) (zs 0<|zn 6 [])<|
 zq (zi (.cs .v (.s [])) []) (zs 0<|zn 1<|zs 7<|zn 4 [])<|
 .seq (zq (zi (.cs .v (.n 0)) []) (zs 0<|zn 1<|zs 2<|zs 7<|zn 3 [])<|
 .block 0<|.loop<|.seq (zq (zp 2<|zi (.ln (.e 0) [])<|zi (.bi .lss (.e 3) (.e 7)) []) (zs 0<|zn 1<|zs 2<|zs 3<|zs 8<|zn 2 [])<|
 .cond 4 .skip (.exit 0))<|
 .seq (.block 1<|.seq (zq (zp 1<|zi (.bi .gtr (.e 3) (.c (.n 0))) []) (zs 0<|zn 1<|zs 2<|zs 3<|zn 1<|zs 7<|zn 1 [])<|
 .cond 5 (.reg (zp 1<|zi (.bi .add (.e 2) (.c (.s [44])))<|zp 1 []) (zs 0<|zn 1<|zs 7<|zs 3<|zn 3 [])) .skip)<|
 .reg (zp 3<|zi (.iy (.e 0) (.e 3))<|zp 1<|zi (.ca 138 [.e 7] 1)<|zi (.bi .add (.e 2) (.e 8))<|zp 1 []) (zs 0<|zn 1<|zs 9<|zs 3<|zn 3 []))<|
 .reg (zp 1<|zi (.bi .add (.e 3) (.c (.n 1)))<|zp 1 []) (zs 0<|zn 1<|zs 2<|zs 7<|zn 3 []))<|
 .seq (zq (zp 1<|zi (.bi .eql (.e 2) (.c (.s []))) []) (zn 2<|zs 2<|zn 3<|zs 7 [])<|
 .cond 6 (zq (zi (.cs .v (.s [110,111,110,101])) []) (zn 1<|zs 7<|zn 5 [])<|
 .ret) .skip)<|
 zq (zp 2 []) (zn 1<|zs 2<|zn 5 [])<|
 .ret⟩
end Go.Cat
namespace Go.Cat
end Go.Cat
namespace Go.Cat
end Go.Cat
namespace Go.Cat
end Go.Cat
namespace Go.Cat
end Go.Cat
namespace Go.Cat
end Go.Cat
namespace Go.Cat
end Go.Cat
namespace Go.Cat
end Go.Cat
namespace Go.Cat
end Go.Cat
namespace Go.Cat
end Go.Cat
namespace Go.Cat
end Go.Cat
namespace Go.Cat
end Go.Cat
namespace Go.Cat
end Go.Cat
namespace Go.Cat
end Go.Cat
namespace Go.Cat
end Go.Cat
namespace Go.Cat
end Go.Cat
namespace Go.Cat
end Go.Cat
namespace Go.Cat
end Go.Cat
namespace Go.Cat
end Go.Cat
namespace Go.Cat
end Go.Cat
namespace Go.Cat
end Go.Cat
namespace Go.Cat
end Go.Cat
namespace Go.Cat
end Go.Cat
namespace Go.Cat
end Go.Cat
namespace Go.Cat
end Go.Cat
namespace Go.Cat
end Go.Cat
namespace Go.Cat
end Go.Cat
namespace Go.Cat
end Go.Cat
namespace Go.Cat
end Go.Cat
namespace Go.Cat
end Go.Cat
namespace Go.Cat
end Go.Cat
