/-
 Texts of the little language.
-/
import Derived.Test.YtnjjceodpbhlmaaGreatCatThree
set_option linter.unusedSimpArgs false
set_option linter.unusedVariables false
namespace Go.Cat
instance {k:Nat}:OfNat A k:=⟨.e k⟩
instance {k:Nat}:OfNat (Option Nat) k:=⟨some k⟩
def zo:Option Nat:=none
def Pr.p:Pr:=.nop
def A.i (k:Int):A:=.c (.n k)
def A.t:A:=.c (.b true)
def A.f:A:=.c (.b false)
def Pr.u (b:Bool):Pr:=.cs .v (.b b)
def zj:List Pr→List It→List It
 | [],r=>r
 | p::l,r=>⟨[],[],p⟩::zj l r
def zh (g:List (Nat×Bool)):List Pr→List It→List It
 | [],r=>r
 | p::l,r=>⟨[],g,p⟩::zh g l r
def zn:Nat→List (Option Nat)→List (Option Nat)
 | 0,l=>l
 | k+1,l=>none::zn k l
def zt (l:List Pr) (o:List (Option Nat)):S:=.reg (zj l []) o
def zr (l:List Pr) (o:List (Option Nat)) (s:S):S:=.seq (zt l o) s
def zq (a:List It) (o:List (Option Nat)) (s:S):S:=.seq (.reg a o) s
theorem zu:(∀ k:Nat,(OfNat.ofNat k:A)=.e (OfNat.ofNat k))∧(∀ k:Nat,(OfNat.ofNat k:Option Nat)=some (OfNat.ofNat k))∧zo=none∧Pr.p=.nop∧(∀ k,A.i k=.c (.n k))∧A.t=.c (.b true)∧A.f=.c (.b false)∧(∀ b,Pr.u b=.cs .v (.b b))∧(∀ r,zj [] r=r)∧(∀ p l r,zj (p::l) r=⟨[],[],p⟩::zj l r)∧(∀ g r,zh g [] r=r)∧(∀ g p l r,zh g (p::l) r=⟨[],g,p⟩::zh g l r)∧(∀ l,zn 0 l=l)∧(∀ k l,zn (k+1) l=none::zn k l)∧(∀ l o,zt l o=.reg (zj l []) o)∧(∀ l o s,zr l o s=.seq (zt l o) s)∧∀ a o s,zq a o s=.seq (.reg a o) s:=
 ⟨fun _=>rfl,fun _=>rfl,rfl,rfl,fun _=>rfl,rfl,rfl,fun _=>rfl,fun _=>rfl,fun _ _ _=>rfl,fun _ _=>rfl,fun _ _ _ _=>rfl,fun _=>rfl,fun _ _=>rfl,fun _ _=>rfl,fun _ _ _=>rfl,fun _ _ _=>rfl⟩
def MH:IF:=⟨[],1,4,[1],zr [.u false] [0,zo,zo,zo]<|
 .seq (zr [.p,.sn 0,.bi .gtr 4 (.i 16)] [0,zo,zo,5]<|
 .cond 3 (zr [.u false] [zo,4,zo,zo]<|
 .ret) .skip)<|
 zr [.p,.ca 82 [0] 2,.p,.p,.p,.p,.p] [zo,zo,5,zo]<|
 zr [.p,.p] [zo,2,zo,zo]<|
 .ret⟩
def L8:IF:=⟨[],1,3,[1],zr [.cs .v (.n 0)] [0,zo,zo]<|
 .seq (zr [.p,.ca 67 [0] 1,.un .not 3] [0,zo,4]<|
 .cond 2 (zr [.cs .v (.n (-1))] [zo,3,zo]<|
 .ret) .skip)<|
 zr [.p,.sn 0,.bi .quo 3 (.i 2),.p] [zo,4,zo]<|
 .ret⟩
def My:IF:=⟨[],1,2,[1],zr [.cs (.o .v) (.l [])] [0,zo]<|
 zr [.li (.o .v) [],.p,.ap true 2 0,.p] [zo,3]<|
 .ret⟩
def Hd:IF:=⟨[],2,9,[2],zr [.u false] (0::1::zn 7 [])<|
 .seq (zr [.p,.ln 0 [],.p,.ln 1 [],.bi .neq 9 10] (0::1::zo::zo::11::zn 4 [])<|
 .cond 4 (zr [.u false] (zo::zo::9::zn 6 [])<|
 .ret) .skip)<|
 .seq (zr [.p,.ln 0 [],.cs .v (.n 0)] [0,1,zo,zo,zo,9,10,zo,zo]<|
 .block 0<|.loop<|zr [.bi .lss 6 5] [0,1,zo,zo,zo,5,6,9,zo]<|
 .seq (.cond 7 .skip (.exit 0))<|
 .seq (.block 1<|zr [.p,.p] [0,1,zo,6,zo,5,6,zo,zo]<|
 zr [.p,.p,.iy 0 3,.p,.p,.p,.iy 1 3,.p,.bi .neq 9 10] [0,1,zo,zo,zo,5,6,zo,11]<|
 .cond 8 (zr [.u false] (zo::zo::9::zn 6 [])<|
 .ret) .skip)<|
 zt [.bi .add 6 (.i 1),.p] [0,1,zo,zo,zo,5,9,zo,zo])<|
 zr [.u true] (zo::zo::9::zn 6 [])<|
 .ret⟩
def LF:IF:=⟨[],2,11,[2],zr [.cs .v (.s [])] (0::1::zn 9 [])<|
 zr [.cs .v (.s [])] (0::1::zo::11::zn 7 [])<|
 .seq (zr [.p,.ln 0 [],.cs .v (.n 0)] [zo,1,zo,3,zo,zo,0,11,12,zo,zo]<|
 .block 0<|.loop<|zr [.bi .lss 8 7] [zo,1,zo,3,zo,zo,6,7,8,11,zo]<|
 .seq (.cond 9 .skip (.exit 0))<|
 .seq (.block 1<|zr [.p,.iy 6 8,.p,.p,.p] [zo,1,zo,3,8,11,6,7,8,zo,zo]<|
 .seq (zr [.p,.bi .gtr 4 (.i 0)] [zo,1,zo,3,zo,5,6,7,8,zo,11]<|
 .cond 10 (zt [.p,.p,.bi .add 3 1,.p] [zo,1,zo,11,zo,5,6,7,8,zo,zo]) .skip)<|
 zt [.p,.p,.bi .add 3 5,.p] [zo,1,zo,11,zo,zo,6,7,8,zo,zo])<|
 zt [.bi .add 8 (.i 1),.p] [zo,1,zo,3,zo,zo,6,7,11,zo,zo])<|
 zr [.p,.p] (zo::zo::3::zn 8 [])<|
 .ret⟩
def Nn:IF:=⟨[],1,11,[1,2],zr [.cs (.o .v) (.l []),.u false] (0::zn 10 [])<|
 zr [.li (.o .v) [.i 0],.p] (0::zo::zo::11::zn 7 [])<|
 zr [.cs .v (.n 0)] (0::zo::zo::3::11::zn 6 [])<|
 .seq (zr [.cs .v (.n 0)] (0::zo::zo::3::4::11::zn 5 [])<|
 .block 0<|.loop<|.seq (zr [.p,.p,.sn 0,.bi .lss 5 11] (0::zo::zo::3::4::5::12::zn 4 [])<|
 .cond 6 .skip (.exit 0))<|
 .seq (.block 1<|.seq (zr [.p,.p,.sx 0 5] [0,zo,zo,3,4,5,zo,11,zo,zo,zo]<|
 .block 2<|zr [.bi .eql 7 (.c (.y 117)),.p] [0,zo,zo,3,4,5,zo,7,11,zo,zo]<|
 .cond 8 (zt [.p,.bi .add 4 (.i 1),.p] (0::zo::zo::3::11::5::zn 5 [])) (zr [.bi .eql 7 (.c (.y 100)),.p] [0,zo,zo,3,4,5,zo,zo,zo,11,zo]<|
 .cond 9 (zt [.p,.bi .sub 4 (.i 1),.p] (0::zo::zo::3::11::5::zn 5 [])) (zr [.cs (.o .v) (.l []),.u false] (zo::11::12::zn 8 [])<|
 .ret)))<|
 .seq (zr [.p,.bi .lss 4 (.i 0)] (0::zo::zo::3::4::5::zn 4 (11::[]))<|
 .cond 10 (zr [.cs (.o .v) (.l []),.u false] (zo::11::12::zn 8 [])<|
 .ret) .skip)<|
 zt [.p,.p,.li (.o .v) [4],.ap false 3 11,.p] (0::zo::zo::12::4::5::zn 5 []))<|
 zt [.p,.bi .add 5 (.i 1),.p] (0::zo::zo::3::4::11::zn 5 []))<|
 zr [.p,.p,.bi .eql 4 (.i 0),.p,.p] (zo::3::11::zn 8 [])<|
 .ret⟩
end Go.Cat
namespace Go.Cat
end Go.Cat
namespace Go.Cat
end Go.Cat
namespace Go.Cat
def MX:IF:=⟨[],1,9,[1],zr [.u false] (0::zn 8 [])<|
 zr [.cs .v (.n 0)] (0::zo::9::zn 6 [])<|
 .seq (zr [.cs .v (.n 0)] (0::zo::2::9::zn 5 [])<|
 .block 0<|.loop<|.seq (zr [.p,.p,.sn 0,.bi .lss 3 9] (0::zo::2::3::10::zn 4 [])<|
 .cond 4 .skip (.exit 0))<|
 .seq (.block 1<|.seq (zr [.p,.p,.sx 0 3] [0,zo,2,3,zo,9,zo,zo,zo]<|
 .block 2<|zr [.bi .eql 5 (.c (.y 117)),.p] [0,zo,2,3,zo,5,9,zo,zo]<|
 .cond 6 (zt [.p,.bi .add 2 (.i 1),.p] (0::zo::9::3::zn 5 [])) (zr [.bi .eql 5 (.c (.y 100)),.p] [0,zo,2,3,zo,zo,zo,9,zo]<|
 .cond 7 (zt [.p,.bi .sub 2 (.i 1),.p] (0::zo::9::3::zn 5 [])) (zr [.u false] (zo::9::zn 7 [])<|
 .ret)))<|
 zr [.p,.bi .lss 2 (.i 0)] (0::zo::2::3::zn 4 (9::[]))<|
 .cond 8 (zr [.u false] (zo::9::zn 7 [])<|
 .ret) .skip)<|
 zt [.p,.bi .add 3 (.i 1),.p] (0::zo::2::9::zn 5 []))<|
 zq (zj [.p,.bi .eql 2 (.i 0),.p]<|zh [(9,true)] [.cy 0,.sn 10,.bi .leq 11 (.i 16)]<|zj [.pk 9 12 .f,.p] []) (zo::13::zn 7 [])<|
 .ret⟩
def Kr:IF:=⟨[],1,7,[1],zr [.cs .v (.n 0)] (0::zn 6 [])<|
 zr [.cs .v (.n 0)] (0::zo::7::zn 4 [])<|
 .seq (zr [.cs .v (.n 0)] [0,zo,2,7,zo,zo,zo]<|
 .block 0<|.loop<|.seq (zr [.p,.p,.sn 0,.bi .lss 3 7] [0,zo,2,3,8,zo,zo]<|
 .cond 4 .skip (.exit 0))<|
 .seq (.block 1<|.seq (zr [.p,.p,.sx 0 3,.bi .eql 7 (.c (.y 117))] [0,zo,2,3,zo,8,zo]<|
 .cond 5 (zt [.p,.bi .add 2 (.i 1),.p] [0,zo,7,3,zo,zo,zo]) (zt [.p,.bi .sub 2 (.i 1),.p] [0,zo,7,3,zo,zo,zo]))<|
 zr [.p,.bi .eql 2 (.i 0)] [0,zo,2,3,zo,zo,7]<|
 .cond 6 (zr [.p,.p] (zo::3::zn 5 [])<|
 .ret) .skip)<|
 zt [.p,.bi .add 3 (.i 1),.p] [0,zo,2,7,zo,zo,zo])<|
 zr [.cs .v (.n (-1))] (zo::7::zn 5 [])<|
 .ret⟩
def I7:IF:=⟨[],2,8,[2,0],zr [.cs .v (.s [])] (0::1::zn 6 [])<|
 zr [.cs .v (.s [])] (0::1::zo::8::zn 4 [])<|
 zr [.cs .v (.n 0)] [0,1,zo,3,8,zo,zo,zo]<|
 zr [.cs .v (.n 0)] [0,1,zo,3,4,8,zo,zo]<|
 .seq (.block 0<|.loop<|.seq (zr [.p,.p,.bi .lss 5 1] [0,1,zo,3,4,5,8,zo]<|
 .cond 6 .skip (.exit 0))<|
 .block 1<|zq (zj [.p,.p,.bi .lss 4 1,.p]<|zh [(8,true)] [.cy 4,.cy 5,.bi .eql 9 10,.cy 11]<|zh [(8,true),(12,false)] [.p]<|⟨[zo,0],[(8,true),(12,false)],.ca 307 [.e 0,.c (.n 2)] 2⟩::(zh [(8,true)] [.pk 12 .t 13]<|zj [.pk 8 15 .f] [])) [14,1,zo,3,4,5,zo,16]<|
 .cond 7 (zr [.p,.bi .add 3 (.c (.s [117])),.p] [0,1,zo,8,4,5,zo,zo]<|
 zt [.p,.bi .add 4 (.i 1),.p] [0,1,zo,3,8,5,zo,zo]) (zr [.p,.bi .add 3 (.c (.s [100])),.p] [0,1,zo,8,4,5,zo,zo]<|
 zt [.p,.bi .add 5 (.i 1),.p] [0,1,zo,3,4,8,zo,zo]))<|
 zr [.p,.p] (0::zo::3::zn 5 [])<|
 .ret⟩
def Is:IF:=⟨[],1,2,[1,0],zr [.cs .v (.s [])] [0,zo]<|
 zr [.p,.p,.ca 289 [0,.i 7] 2,.ca 306 [3,2] 2,.p] [5,4]<|
 .ret⟩
end Go.Cat
namespace Go.Cat
def NN:IF:=⟨[],1,8,[1],zr [.cs (.o .v) (.l [])] (0::zn 7 [])<|
 zr [.p,.sn 0,.mk (.n 0) 8 8,.p] (0::zo::9::zn 5 [])<|
 zr [.li (.o .v) [],.p] (0::zo::2::8::zn 4 [])<|
 .seq (zr [.cs .v (.n 0)] [0,zo,2,3,8,zo,zo,zo]<|
 .block 0<|.loop<|.seq (zr [.p,.p,.sn 0,.bi .lss 4 8] [0,zo,2,3,4,zo,9,zo]<|
 .cond 6 .skip (.exit 0))<|
 .seq (.block 1<|.seq (zr [.p,.p,.sx 0 4,.bi .eql 8 (.c (.y 117))] [0,zo,2,3,4,zo,zo,9]<|
 .cond 7 (zr [.p,.p,.li (.o .v) [4],.ap false 3 8,.p] [0,zo,2,9,4,zo,zo,zo]<|
 .exit 1) .skip)<|
 zr [.p,.p,.ln 3 [],.bi .sub 8 (.i 1),.ix 3 [] 9,.p,.p] [0,zo,2,3,4,10,zo,zo]<|
 zr [.p,.p,.ln 3 [],.bi .sub 8 (.i 1),.sb true 3 none (some 9),.p] [0,zo,2,10,4,5,zo,zo]<|
 zr [.p,.p,.p,.ix 2 [] 4,.up 2 [.e 4] 5] [0,zo,9,3,4,5,zo,zo]<|
 zt [.p,.p,.p,.ix 2 [] 5,.up 2 [.e 5] 4] [0,zo,9,3,4,zo,zo,zo])<|
 zt [.p,.bi .add 4 (.i 1),.p] [0,zo,2,3,8,zo,zo,zo])<|
 zr [.p,.p] (zo::2::zn 6 [])<|
 .ret⟩
end Go.Cat
namespace Go.Cat
end Go.Cat
namespace Go.Cat
end Go.Cat
namespace Go.Cat
end Go.Cat
namespace Go.Cat
end Go.Cat
namespace Go.Cat
def Kd:IF:=⟨[],1,12,[1],zr [.cs .v (.s [])] (0::zn 11 [])<|
 .seq (zr [.p,.bi .eql 0 (.i 0)] (0::zn 6 (12::zn 4 []))<|
 .cond 7 (zr [.cs .v (.s [48])] (zo::12::zn 10 [])<|
 .ret) .skip)<|
 zr [.li (.o .v) [],.p] (0::zo::12::zn 9 [])<|
 .seq (zr [.p,.p] (0::zo::2::0::zn 8 [])<|
 .block 0<|.loop<|.seq (zr [.p,.bi .neq 3 (.i 0)] (0::zo::2::3::zn 4 (12::zo::zo::zo::[]))<|
 .cond 8 .skip (.exit 0))<|
 .seq (.block 1<|zr [.p,.bi .rem 3 (.i 10),.p] (0::zo::2::3::12::zn 7 [])<|
 .seq (zr [.p,.bi .lss 4 (.i 0)] (0::zo::2::3::4::zn 4 (12::zo::zo::[]))<|
 .cond 9 (zt [.p,.un .neg 4,.p] (0::zo::2::3::12::zn 7 [])) .skip)<|
 zt [.p,.p,.bi .add (.i 48) 4,.cv .u8 12,.li (.o .v) [13],.ap false 2 14,.p] (0::zo::15::3::zn 8 []))<|
 zt [.p,.bi .quo 3 (.i 10),.p] (0::zo::2::12::zn 8 []))<|
 .seq (zr [.p,.bi .lss 0 (.i 0)] (zo::zo::2::zn 7 (12::zo::[]))<|
 .cond 10 (zt [.p,.li (.o .v) [.c (.y 45)],.ap false 2 12,.p] (zo::zo::13::zn 9 [])) .skip)<|
 .seq (zr [.p,.ln 2 [],.bi .sub 12 (.i 1),.cs .v (.n 0),.p] (zo::zo::2::zo::zo::14::13::zn 5 [])<|
 .block 2<|.loop<|.seq (zr [.p,.p,.bi .lss 5 6] (zo::zo::2::zo::zo::5::6::zn 4 (12::[]))<|
 .cond 11 .skip (.exit 2))<|
 .seq (.block 3<|zt [.p,.p,.p,.p,.p,.p,.ix 2 [] 6,.p,.p,.p,.ix 2 [] 5,.p,.ix 2 [] 5,.up 2 [.e 5] 12,.ix 15 [] 6,.up 15 [.e 6] 13] (zo::zo::17::zo::zo::5::6::zn 5 []))<|
 zt [.p,.bi .add 5 (.i 1),.p,.bi .sub 6 (.i 1),.p,.p] (zo::zo::2::zo::zo::12::13::zn 5 []))<|
 zr [.p,.bs 2,.p] (zo::12::zn 10 [])<|
 .ret⟩
def N7:IF:=⟨[],3,4,[3],zr [.u false] [0,1,2,zo]<|
 zq (zj [.p,.p,.bi .geq 0 1,.p]<|zh [(4,true)] [.cy 0,.cy 2,.bi .leq 5 6]<|zj [.pk 4 7 .f,.p] []) [zo,zo,zo,8]<|
 .ret⟩
end Go.Cat
namespace Go.Cat
def K8:IF:=⟨[],1,9,[1],zr [.cs .v (.s [])] (0::zn 8 [])<|
 .seq (zr [.p,.bi .eql 0 (.i 0)] (0::zn 4 (9::zo::zo::zo::[]))<|
 .cond 5 (zr [.cs .v (.s [48])] (zo::9::zn 7 [])<|
 .ret) .skip)<|
 zr [.cs .v (.s [])] (0::zo::9::zn 6 [])<|
 zr [.p,.bi .lss 0 (.i 0),.p] (0::zo::2::9::zn 5 [])<|
 .seq (.block 0<|.loop<|.seq (zr [.p,.bi .neq 0 (.i 0)] [0,zo,2,3,zo,zo,9,zo,zo]<|
 .cond 6 .skip (.exit 0))<|
 .block 1<|zr [.p,.bi .rem 0 (.i 10),.p] (0::zo::2::3::9::zn 4 [])<|
 .seq (zr [.p,.bi .lss 4 (.i 0)] [0,zo,2,3,4,zo,zo,9,zo]<|
 .cond 7 (zt [.p,.un .neg 4,.p] (0::zo::2::3::9::zn 4 [])) .skip)<|
 zr [.p,.bi .add (.i 48) 4,.cv .u8 9,.li (.o .v) [10],.bs 11,.p,.bi .add 12 2,.p] (0::zo::13::3::zn 5 [])<|
 zt [.p,.bi .quo 0 (.i 10),.p] (9::zo::2::3::zn 5 []))<|
 .seq (zr [.p] (zo::zo::2::zn 5 (3::[]))<|
 .cond 8 (zr [.p,.bi .add (.c (.s [45])) 2,.p] (zo::9::zn 7 [])<|
 .ret) .skip)<|
 zr [.p,.p] (zo::2::zn 7 [])<|
 .ret⟩
def LY:IF:=⟨[],2,9,[2,0],zr [.cs .v (.n 0)] (0::1::zn 7 [])<|
 .seq (zr [.p,.bi .leq 1 (.i 0)] (0::1::zn 5 (9::zo::[]))<|
 .cond 7 (zr [.cs .v (.n 0)] (0::zo::9::zn 6 [])<|
 .ret) .skip)<|
 .seq (zr [.p,.bi .leq 1 (.i 256)] (0::1::zn 6 (9::[]))<|
 .cond 8 (zr [.p,.ca 316 [0] 2,.p,.bi .rem 9 1,.p] (10::zo::11::zn 6 [])<|
 .ret) .skip)<|
 zr [.p,.ca 316 [0] 2,.p] (10::1::zo::9::zn 5 [])<|
 zr [.p,.ca 316 [0] 2,.p] (10::1::zo::3::9::zn 4 [])<|
 zr [.p,.ca 316 [0] 2,.p] [10,1,zo,3,4,9,zo,zo,zo]<|
 zr [.p,.ca 316 [0] 2,.p] [10,1,zo,3,4,5,9,zo,zo]<|
 zr [.p,.bi .mul 3 (.i 16777216),.p,.bi .mul 4 (.i 65536),.bi .add 9 10,.p,.bi .mul 5 (.i 256),.bi .add 11 12,.p,.bi .add 13 6,.p,.bi .rem 14 1,.p] (0::zo::15::zn 6 [])<|
 .ret⟩
def LA:IF:=⟨[],1,4,[1,0],zr [.cs .v (.n 0)] [0,zo,zo,zo]<|
 zr [.p,.p,.p,.gt 0 [.k 2],.p,.bi .mul 4 (.i 6364136223846793005),.bi .add 5 (.i 1442695040888963407),.p,.gt 0 [.k 2],.up 0 [.k 2] 6] [8,zo,zo,zo]<|
 zr [.p,.p,.gt 0 [.k 2],.p,.bi .shr 4 (.c (.i .u64 33)),.p,.p,.gt 0 [.k 2],.p,.bi .shr 6 (.c (.i .u64 45)),.bi .xor 5 7,.bi .and 8 (.i 255),.p] [0,zo,9,zo]<|
 .seq (zr [.p,.p,.gt 0 [.k 1],.p,.p,.p,.gt 0 [.k 0],.p,.ln 5 [],.bi .lss 4 6] [0,zo,2,7]<|
 .cond 3 (zr [.p,.p,.p,.gt 0 [.k 0],.p,.p,.p,.gt 0 [.k 1],.p,.ix 4 [] 5,.p,.cv .i64 6,.bi .add 2 7,.bi .and 8 (.i 255),.p] [0,zo,9,zo]<|
 zt [.p,.p,.p,.gt 0 [.k 1],.p,.bi .add 4 (.i 1),.p,.gt 0 [.k 1],.up 0 [.k 1] 5] [7,zo,2,zo]) .skip)<|
 zr [.p,.p] [0,2,zo,zo]<|
 .ret⟩
def JK:IF:=⟨[],3,4,[3],zr [.u false] [0,1,2,zo]<|
 zq (zj [.p,.p,.bi .geq 0 1,.p]<|zh [(4,true)] [.cy 0,.cy 2,.bi .leq 5 6]<|zj [.pk 4 7 .f,.p] []) [zo,zo,zo,8]<|
 .ret⟩
def Kp:IF:=⟨[],1,5,[1],zr [.cs .v .z] (0::zn 4 [])<|
 zr [.p,.ln 0 [],.bi .add (.i 10101) 5,.p] [0,zo,6,zo,zo]<|
 .seq (zr [.cs .v (.n 0)] [0,zo,2,5,zo]<|
 .block 0<|.loop<|.seq (zq (zj [.p,.p,.ln 0 [],.bi .lss 3 5,.p]<|zh [(6,true)] [.cy 3,.bi .lss 7 (.i 4000)]<|zj [.pk 6 8 .f] []) [0,zo,2,3,9]<|
 .cond 4 .skip (.exit 0))<|
 .seq (.block 1<|zt [.p,.bi .mul 2 (.i 131),.p,.p,.ix 0 [] 3,.p,.cv .i64 6,.bi .add 5 7,.bi .add 8 (.i 7),.bi .and 9 (.i 1073741823),.p] [0,zo,10,3,zo])<|
 zt [.p,.bi .add 3 (.i 1),.p] [0,zo,2,5,zo])<|
 zr [.p,.p,.bg 0 [(.e 0,0),(.c (.n 0),0),(.e 2,0)],.wl 3 5,.p] [zo,6,zo,zo,zo]<|
 .ret⟩
def Nh:IF:=⟨[],2,3,[2,0],zr [.u false] [0,1,zo]<|
 zr [.p,.p,.ca 289 [0,1] 2,.bi .eql 3 (.i 0),.p] [4,zo,5]<|
 .ret⟩
def LZ:IF:=⟨[],2,3,[2,0],zr [.cs .v (.s [])] [0,1,zo]<|
 zr [.p,.p,.p,.ln 1 [],.ca 289 [0,3] 2,.iy 1 4,.p,.p] [5,zo,6]<|
 .ret⟩
def IP:IF:=⟨[],2,3,[2,0],zr [.cs .v (.n 0)] [0,1,zo]<|
 zr [.p,.p,.p,.ln 1 [],.ca 289 [0,3] 2,.iy 1 4,.p,.p] [5,zo,6]<|
 .ret⟩
def N2:IF:=⟨[],2,9,[2,0],zr [.cs .v (.s [])] (0::1::zn 7 [])<|
 .seq (zr [.p,.sn 1,.bi .eql 9 (.i 0)] (0::1::zo::zo::10::zn 4 [])<|
 .cond 4 (zr [.p,.ca 327 [0,.i 3] 2,.p] (10::zo::9::zn 6 [])<|
 .ret) .skip)<|
 zr [.p,.p,.sn 1,.ca 289 [0,9] 2,.p] (11::1::zo::10::zn 5 [])<|
 .seq (zr [.p,.ca 289 [0,.i 4] 2] [10,1,zo,3,zo,9,zo,zo,zo]<|
 .block 0<|zr [.bi .eql 5 (.i 0),.p] [0,1,zo,3,zo,5,9,zo,zo]<|
 .cond 6 (zr [.p,.p,.ss 1 none (some 3),.p,.p,.bi .add 3 (.i 1),.ss 1 (some 10) none,.bi .add 9 11,.p] (0::zo::12::zn 6 [])<|
 .ret) (zr [.bi .eql 5 (.i 1),.p] [0,1,zo,3,zo,5,zo,9,zo]<|
 .cond 7 (zr [.p,.p,.ss 1 none (some 3),.p,.ca 316 [0] 2,.cv .u8 10,.li (.o .v) [12],.bs 13,.bi .add 9 14,.p,.p,.ss 1 (some 3) none,.bi .add 15 16,.p] (11::zo::17::zn 6 [])<|
 .ret) (zr [.bi .eql 5 (.i 2),.p] (0::1::zo::3::zn 4 (9::[]))<|
 .cond 8 (zr [.p,.p,.ss 1 none (some 3),.p] (0::zo::9::zn 6 [])<|
 .ret) .skip)))<|
 zr [.p,.p,.ss 1 none (some 3),.p,.p,.sx 1 3,.cv .i64 10,.p,.ca 289 [0,.i 255] 2,.bi .add (.i 1) 12,.bi .xor 11 14,.cv .u8 15,.li (.o .v) [16],.bs 17,.bi .add 9 18,.p,.p,.bi .add 3 (.i 1),.ss 1 (some 20) none,.bi .add 19 21,.p] (13::zo::22::zn 6 [])<|
 .ret⟩
def Lu:IF:=⟨[],2,10,[2,0],zr [.cs .v (.s [])] (0::1::zn 8 [])<|
 zr [.li (.o .v) [],.p] (0::1::zo::10::zn 6 [])<|
 zr [.p,.ca 289 [0,.i 4] 2,.p] (11::1::zo::3::10::zn 5 [])<|
 .seq (zr [.p,.p,.bi .add 1 (.i 1),.ca 289 [0,10] 2,.p] (12::zo::zo::3::4::11::zn 4 [])<|
 .block 0<|.loop<|.seq (zr [.p,.bi .gtr 5 (.i 0)] [0,zo,zo,3,4,5,zo,10,zo,zo]<|
 .cond 7 .skip (.exit 0))<|
 .seq (.block 1<|zr [.p,.ca 316 [0] 2,.p] [11,zo,zo,3,4,5,10,zo,zo,zo]<|
 .seq (zr [.p,.bi .eql 4 (.i 1)] [0,zo,zo,3,4,5,6,zo,10,zo]<|
 .cond 8 (zt [.p,.bi .rem 6 (.i 2),.p] [0,zo,zo,3,4,5,10,zo,zo,zo]) .skip)<|
 .seq (zr [.p,.bi .eql 4 (.i 2)] [0,zo,zo,3,4,5,6,zo,zo,10]<|
 .cond 9 (zt [.p,.bi .rem 6 (.i 4),.bi .add (.i 97) 10,.p] [0,zo,zo,3,4,5,11,zo,zo,zo]) .skip)<|
 zt [.p,.p,.cv .u8 6,.li (.o .v) [10],.ap false 3 11,.p] (0::zo::zo::12::4::5::zn 4 []))<|
 zt [.p,.bi .sub 5 (.i 1),.p] (0::zo::zo::3::4::10::zn 4 []))<|
 zr [.p,.bs 3,.p] (0::zo::10::zn 7 [])<|
 .ret⟩
end Go.Cat
namespace Go.Cat
def MU:IF:=⟨[],1,4,[1],zr [.cs .v (.n 0)] [0,zo,zo,zo]<|
 .seq (zr [.p,.ca 380 [0] 1,.un .not 4] [0,zo,zo,5]<|
 .cond 3 (zr [.cs .v (.n (-1))] [zo,4,zo,zo]<|
 .ret) .skip)<|
 zr [.p,.ca 381 [0] 2,.p,.p,.p,.p,.p] [zo,zo,4,zo]<|
 zr [.p,.p] [zo,2,zo,zo]<|
 .ret⟩
def NO:IF:=⟨[],1,10,[1],zr [.u false] (0::zn 9 [])<|
 .seq (zr [.p,.ln 0 [],.bi .gtr 10 (.i 16)] (0::zo::zo::zo::11::zn 5 [])<|
 .cond 4 (zr [.u false] (zo::10::zn 8 [])<|
 .ret) .skip)<|
 .seq (zr [.p,.ln 0 [],.cs .v (.n 0)] (0::zn 4 (0::10::11::zo::zo::[]))<|
 .block 0<|.loop<|zr [.bi .lss 7 6] (0::zn 4 (5::6::7::10::zo::[]))<|
 .seq (.cond 8 .skip (.exit 0))<|
 .seq (.block 1<|zr [.p,.iy 5 7,.p,.p,.p] [0,zo,7,10,zo,5,6,7,zo,zo]<|
 zq (zj [.p,.p,.ln 0 [],.bi .sub 10 (.i 1),.ca 23 [3,.i 0,11] 1,.un .not 12,.p]<|zh [(13,false)] [.cy 3,.cy 2,.bi .eql 14 15]<|zj [.pk 13 .t 16,.p]<|zh [(17,false)] [.p,.cy 3,.iy 0 18,.p,.cy 2,.bi .neq 19 20]<|zj [.pk 17 .t 21] []) (0::zn 4 (5::6::7::zo::22::[]))<|
 .cond 9 (zr [.u false] (zo::10::zn 8 [])<|
 .ret) .skip)<|
 zt [.bi .add 7 (.i 1),.p] (0::zn 4 (5::6::10::zo::zo::[])))<|
 zr [.u true] (zo::10::zn 8 [])<|
 .ret⟩
def Nl:IF:=⟨[],1,2,[1],zr [.u false] [0,zo]<|
 zr [.p,.ca 372 [0] 1,.bi .eql 2 (.i 0),.p] [zo,3]<|
 .ret⟩
def MR:IF:=⟨[],1,19,[1,2],zr [.cs .v (.n 0),.cs .v (.n 0)] (0::zn 18 [])<|
 zr [.cs .v (.n 0),.cs .v (.n 0)] (0::zo::zo::19::20::zn 14 [])<|
 .seq (zr [.p,.ln 0 [],.cs .v (.n 0)] (0::zo::zo::3::4::zn 4 (0::19::20::zn 7 []))<|
 .block 0<|.loop<|zr [.bi .lss 11 10] (0::zo::zo::3::4::zn 4 (9::10::11::19::zn 6 []))<|
 .seq (.cond 12 .skip (.exit 0))<|
 .seq (.block 1<|zr [.p,.iy 9 11,.p,.p,.p] (0::zo::zo::3::4::11::19::zo::zo::9::10::11::zn 7 [])<|
 zr [.p,.ln 0 [],.cs .v (.n 0)] [0,zo,zo,3,4,5,6,zo,zo,9,10,11,zo,0,19,20,zo,zo,zo]<|
 .block 2<|.loop<|zr [.bi .lss 15 14] [0,zo,zo,3,4,5,6,zo,zo,9,10,11,zo,13,14,15,19,zo,zo]<|
 .seq (.cond 16 .skip (.exit 2))<|
 .seq (.block 3<|zr [.p,.iy 13 15,.p,.p,.p] [0,zo,zo,3,4,5,6,15,19,9,10,11,zo,13,14,15,zo,zo,zo]<|
 zq (zj [.p,.p,.bi .lss 5 6,.p]<|zh [(19,true)] [.cy 7,.cy 8,.bi .lss 20 21]<|zj [.pk 19 22 .f,.p]<|zh [(23,true)] [.cy 5,.cy 7,.bi .lss 24 25]<|zj [.pk 23 26 .f,.p]<|zh [(27,true)] [.cy 7,.cy 6,.bi .lss 28 29]<|zj [.pk 27 30 .f] []) [0,zo,zo,3,4,5,6,zo,8,9,10,11,zo,13,14,15,zo,31,zo]<|
 .cond 17 (zr [.p,.p,.bi .gtr 8 6] [0,zo,zo,3,4,5,6,zo,zo,9,10,11,zo,13,14,15,zo,zo,19]<|
 .cond 18 (zt [.p,.bi .add 3 (.i 1),.p] [0,zo,zo,19,4,5,6,zo,zo,9,10,11,zo,13,14,15,zo,zo,zo]) (zt [.p,.bi .add 4 (.i 1),.p] [0,zo,zo,3,19,5,6,zo,zo,9,10,11,zo,13,14,15,zo,zo,zo])) .skip)<|
 zt [.bi .add 15 (.i 1),.p] [0,zo,zo,3,4,5,6,zo,zo,9,10,11,zo,13,14,19,zo,zo,zo])<|
 zt [.bi .add 11 (.i 1),.p] (0::zo::zo::3::4::zn 4 (9::10::19::zn 7 [])))<|
 zr [.p,.p,.p,.p] (zo::3::4::zn 16 [])<|
 .ret⟩
end Go.Cat
namespace Go.Cat
def Kc:IF:=⟨[],1,9,[1],zr [.cs .v (.n 0)] (0::zn 8 [])<|
 .seq (zr [.p,.ca 379 [0] 1,.un .not 9] (0::zn 4 (10::zo::zo::zo::[]))<|
 .cond 5 (zr [.cs .v (.n (-1))] (zo::9::zn 7 [])<|
 .ret) .skip)<|
 zr [.cs .v (.n 0)] (0::zo::9::zn 6 [])<|
 .seq (zr [.cs .v (.n 0)] (0::zo::2::9::zn 5 [])<|
 .block 0<|.loop<|.seq (zr [.p,.p,.ln 0 [],.bi .lss 3 9] [0,zo,2,3,zo,zo,10,zo,zo]<|
 .cond 6 .skip (.exit 0))<|
 .seq (.block 1<|zr [.p,.bi .add 3 (.i 1),.p] (0::zo::2::3::9::zn 4 [])<|
 .block 2<|.loop<|.seq (zr [.p,.p,.ln 0 [],.bi .lss 4 9] [0,zo,2,3,4,zo,zo,10,zo]<|
 .cond 7 .skip (.exit 2))<|
 .seq (.block 3<|zq (zj [.p,.p,.p,.iy 0 3,.p,.bi .lss 4 9,.p]<|zh [(10,true)] [.p,.cy 3,.iy 0 11,.p,.p,.cy 4,.iy 0 13,.p,.bi .lss 12 14]<|zj [.pk 10 15 .f] []) [0,zo,2,3,4,zo,zo,zo,16]<|
 .cond 8 (zt [.p,.bi .add 2 (.i 1),.p] (0::zo::9::3::4::zn 4 [])) .skip)<|
 zt [.p,.bi .add 4 (.i 1),.p] (0::zo::2::3::9::zn 4 []))<|
 zt [.p,.bi .add 3 (.i 1),.p] (0::zo::2::9::zn 5 []))<|
 zr [.p,.p] (zo::2::zn 7 [])<|
 .ret⟩
def MC:IF:=⟨[],1,5,[1],zr [.u false] (0::zn 4 [])<|
 .seq (zr [.cs .v (.n 0)] [0,zo,5,zo,zo]<|
 .block 0<|.loop<|.seq (zr [.p,.p,.ln 0 [],.bi .lss 2 5] [0,zo,2,6,zo]<|
 .cond 3 .skip (.exit 0))<|
 .seq (.block 1<|zq (zj [.p,.p,.iy 0 2,.p,.p,.ln 0 [],.bi .sub 6 (.i 1),.ca 22 [5,.i 0,7] 1,.un .not 8,.p]<|zh [(9,false)] [.p,.cy 2,.iy 0 10,.p,.cy 2,.bi .eql 11 12]<|zj [.pk 9 .t 13,.p]<|zh [(14,false)] [.p,.p,.cy 2,.iy 0 15,.p,.iy 0 16,.p,.cy 2,.bi .neq 17 18]<|zj [.pk 14 .t 19] []) [0,zo,2,zo,20]<|
 .cond 4 (zr [.u false] [zo,5,zo,zo,zo]<|
 .ret) .skip)<|
 zt [.p,.bi .add 2 (.i 1),.p] [0,zo,5,zo,zo])<|
 zr [.p,.ln 0 [],.bi .leq 5 (.i 16),.p] [zo,6,zo,zo,zo]<|
 .ret⟩
def MT:IF:=⟨[],1,2,[1],zr [.u false] [0,zo]<|
 zr [.p,.ca 369 [0] 1,.bi .eql 2 (.i 0),.p] [zo,3]<|
 .ret⟩
def MW:IF:=⟨[],1,6,[1,2],zr [.cs (.o .v) (.l []),.u false] (0::zn 5 [])<|
 zr [.li (.o .v) [],.p] [0,zo,zo,6,zo,zo]<|
 .seq (zr [.cs .v (.n 0)] [0,zo,zo,3,6,zo]<|
 .block 0<|.loop<|.seq (zq (zj [.p,.p,.sn 0,.bi .lss 4 6,.p]<|zh [(7,true)] [.cy 0,.ca 64 [8] 1]<|zj [.pk 7 9 .f] []) [0,zo,zo,3,4,10]<|
 .cond 5 .skip (.exit 0))<|
 .seq (.block 1<|zt [.p,.p,.p,.ca 370 [0,4] 1,.li (.o .v) [6],.ap false 3 7,.p] [0,zo,zo,8,4,zo])<|
 zt [.p,.bi .add 4 (.i 1),.p] [0,zo,zo,3,6,zo])<|
 zr [.p,.p,.ca 64 [0] 1,.p,.p] [zo,3,6,zo,zo,zo]<|
 .ret⟩
def Mv:IF:=⟨[],1,11,[1,0],zr [.cs (.o .v) (.l [])] (0::zn 10 [])<|
 zr [.p,.ca 317 [0] 2,.ca 356 [11] 2,.p,.p,.p,.p,.p] (12::zo::13::zn 8 [])<|
 .seq (zr [.p,.ca 307 [0,.i 3] 2] (12::zo::2::zn 4 (11::zo::zo::zo::[]))<|
 .cond 7 (zr [.p,.ca 289 [0,.i 5] 2,.bi .mul (.i 2) 11,.p] (12::zo::zo::13::zn 7 [])<|
 zr [.p,.mk (.n 0) 3 3,.p] (0::zo::11::3::zn 7 [])<|
 zr [.li (.o .v) [],.p] (0::zo::2::3::11::zn 6 [])<|
 .seq (zr [.cs .v (.n 0)] (0::zo::2::3::4::11::zn 5 [])<|
 .block 0<|.loop<|.seq (zr [.p,.p,.bi .lss 5 3] [0,zo,2,3,4,5,zo,zo,11,zo,zo]<|
 .cond 8 .skip (.exit 0))<|
 .seq (.block 1<|zt [.p,.p,.li (.o .v) [5],.ap false 4 11,.p] (0::zo::2::3::12::5::zn 5 []))<|
 zt [.p,.bi .add 5 (.i 1),.p] (0::zo::2::3::4::11::zn 5 []))<|
 .block 2<|.loop<|.seq (zr [.p,.ln 4 [],.bi .gtr 11 (.i 1)] (0::zo::2::zo::4::zn 4 (12::zo::[]))<|
 .cond 9 .skip (.exit 2))<|
 .block 3<|zr [.p,.p,.ln 4 [],.bi .sub 11 (.i 1),.ca 289 [0,12] 2,.bi .add (.i 1) 13,.p] (14::zo::2::zo::4::zo::15::zn 4 [])<|
 zr [.p,.p,.ix 4 [] (.i 0),.p,.p,.p,.ix 4 [] 6,.p,.ix 2 [] 11,.up 2 [.e 11] 12] (0::zo::14::zo::4::zo::6::zn 4 [])<|
 zr [.p,.p,.p,.ix 4 [] 6,.p,.p,.ix 4 [] (.i 0),.p,.ix 2 [] 11,.up 2 [.e 11] 12] (0::zo::14::zo::4::zo::6::zn 4 [])<|
 zt [.cy 4,.li (.o .v) [],.p,.p,.sb false 11 (some (.i 1)) (some 6),.ap false 12 13,.p,.p,.bi .add 6 (.i 1),.sb false 11 (some 15) none,.ap false 14 16,.p] (0::zo::2::zo::17::zn 6 [])) .skip)<|
 .seq (zq (zj [.p,.ln 2 [],.bi .gtr 11 (.i 0),.p]<|zh [(12,true)] [.p]<|⟨[zo,0],[(12,true)],.ca 307 [.e 0,.c (.n 12)] 2⟩::(zj [.pk 12 13 .f] [])) (14::zo::2::zn 7 (15::[]))<|
 .cond 10 (zt [.p,.p,.p,.ln 2 [],.ca 289 [0,11] 2,.p,.li (.o .v) [.i (-1),.i 0,.i 1,.i 9223372036854775807],.ca 313 [13,14] 2,.ix 2 [] 12,.up 2 [.e 12] 15] (16::zo::18::zn 8 [])) .skip)<|
 zr [.p,.p] (0::2::zn 9 [])<|
 .ret⟩
end Go.Cat
namespace Go.Cat
end Go.Cat
namespace Go.Cat
def ID:IF:=⟨[],2,13,[2],zr [.cs .v (.n 0)] (0::1::zn 11 [])<|
 zr [.cs .v (.n 0)] (0::1::zo::13::zn 9 [])<|
 .seq (zr [.p,.p,.sx 0 1,.bi .eql 13 (.c (.y 117))] (0::1::zo::3::zo::zo::14::zn 6 [])<|
 .cond 6 (zr [.p,.p] (0::1::zo::3::1::zn 8 [])<|
 .block 0<|.loop<|.seq (zr [.p,.p,.sn 0,.bi .lss 4 13] (0::1::zo::3::4::zo::zo::14::zn 5 [])<|
 .cond 7 .skip (.exit 0))<|
 .seq (.block 1<|.seq (zr [.p,.p,.sx 0 4,.bi .eql 13 (.c (.y 117))] (0::1::zo::3::4::zo::zo::zo::14::zn 4 [])<|
 .cond 8 (zt [.p,.bi .add 3 (.i 1),.p] (0::1::zo::13::4::zn 8 [])) (zt [.p,.bi .sub 3 (.i 1),.p] (0::1::zo::13::4::zn 8 [])))<|
 zr [.p,.bi .eql 3 (.i 0)] (0::1::zo::3::4::zn 4 (13::zo::zo::zo::[]))<|
 .cond 9 (zr [.p,.p] (zo::zo::4::zn 10 [])<|
 .ret) .skip)<|
 zt [.p,.bi .add 4 (.i 1),.p] (0::1::zo::3::13::zn 8 [])) .skip)<|
 .seq (zr [.p,.p] (0::zo::zo::3::zo::1::zn 7 [])<|
 .block 2<|.loop<|.seq (zr [.p,.bi .geq 5 (.i 0)] (0::zo::zo::3::zo::5::zn 4 (13::zo::zo::[]))<|
 .cond 10 .skip (.exit 2))<|
 .seq (.block 3<|.seq (zr [.p,.p,.sx 0 5,.bi .eql 13 (.c (.y 100))] (0::zo::zo::3::zo::5::zn 5 (14::zo::[]))<|
 .cond 11 (zt [.p,.bi .add 3 (.i 1),.p] (0::zo::zo::13::zo::5::zn 7 [])) (zt [.p,.bi .sub 3 (.i 1),.p] (0::zo::zo::13::zo::5::zn 7 [])))<|
 zr [.p,.bi .eql 3 (.i 0)] (0::zo::zo::3::zo::5::zn 6 (13::[]))<|
 .cond 12 (zr [.p,.p] (zo::zo::5::zn 10 [])<|
 .ret) .skip)<|
 zt [.p,.bi .sub 5 (.i 1),.p] (0::zo::zo::3::zo::13::zn 7 []))<|
 zr [.cs .v (.n (-1))] (zo::zo::13::zn 10 [])<|
 .ret⟩
end Go.Cat
namespace Go.Cat
end Go.Cat
namespace Go.Cat
def MF:IF:=⟨[],2,7,[2],zr [.u false] (0::1::zn 5 [])<|
 .seq (zr [.p,.ln 0 [],.p,.ln 1 [],.bi .neq 7 8] [0,1,zo,zo,9,zo,zo]<|
 .cond 4 (zr [.u false] (zo::zo::7::zn 4 [])<|
 .ret) .skip)<|
 .seq (zr [.cs .v (.n 0)] [0,1,zo,7,zo,zo,zo]<|
 .block 0<|.loop<|.seq (zr [.p,.p,.ln 0 [],.bi .lss 3 7] [0,1,zo,3,zo,8,zo]<|
 .cond 5 .skip (.exit 0))<|
 .seq (.block 1<|zr [.p,.p,.iy 0 3,.p,.p,.p,.iy 1 3,.p,.bi .neq 7 8] [0,1,zo,3,zo,zo,9]<|
 .cond 6 (zr [.u false] (zo::zo::7::zn 4 [])<|
 .ret) .skip)<|
 zt [.p,.bi .add 3 (.i 1),.p] [0,1,zo,7,zo,zo,zo])<|
 zr [.u true] (zo::zo::7::zn 4 [])<|
 .ret⟩
end Go.Cat
namespace Go.Cat
end Go.Cat
namespace Go.Cat
end Go.Cat
namespace Go.Cat
def N8:IF:=⟨[],1,2,[1],zr [.u false] [0,zo]<|
 zr [.p,.ca 205 [0,.c (.f 206 [])] 1,.p] [zo,2]<|
 .ret⟩
def NI:IF:=⟨[],3,4,[3],zr [.u false] [0,1,2,zo]<|
 zq (zj [.p,.p,.bi .lss 2 0,.p]<|zh [(4,true)] [.cy 0,.cy 1,.bi .lss 5 6]<|zj [.pk 4 7 .f,.p] []) [zo,zo,zo,8]<|
 .ret⟩
def LD:IF:=⟨[],1,10,[1],zr [.u false] (0::zn 9 [])<|
 .seq (zr [.p,.ln 0 [],.bi .gtr 10 (.i 8)] (0::zo::zo::zo::11::zn 5 [])<|
 .cond 4 (zr [.u false] (zo::10::zn 8 [])<|
 .ret) .skip)<|
 zr [.p,.ln 0 [],.mk (.b false) 10 10,.p] (0::zo::11::zn 7 [])<|
 .seq (zr [.p,.ln 0 [],.cs .v (.n 0)] [0,zo,2,zo,zo,0,10,11,zo,zo]<|
 .block 0<|.loop<|zr [.bi .lss 7 6] [0,zo,2,zo,zo,5,6,7,10,zo]<|
 .seq (.cond 8 .skip (.exit 0))<|
 .seq (.block 1<|zr [.iy 5 7,.p,.p] [0,zo,2,10,zo,5,6,7,zo,zo]<|
 .seq (zq (zj [.p,.p,.ln 0 [],.bi .sub 10 (.i 1),.ca 23 [3,.i 0,11] 1,.un .not 12,.p]<|zh [(13,false)] [.p,.cy 3,.ix 2 [] 14,.p]<|zj [.pk 13 .t 15] []) [0,zo,2,3,zo,5,6,7,zo,16]<|
 .cond 9 (zr [.u false] (zo::10::zn 8 [])<|
 .ret) .skip)<|
 zt [.p,.p,.ix 2 [] 3,.up 2 [.e 3] .t] [0,zo,11,zo,zo,5,6,7,zo,zo])<|
 zt [.bi .add 7 (.i 1),.p] [0,zo,2,zo,zo,5,6,10,zo,zo])<|
 zr [.u true] (zo::10::zn 8 [])<|
 .ret⟩
def K4:IF:=⟨[],1,12,[1,2],zr [.cs .v (.s []),.u false] (0::zn 11 [])<|
 .seq (zq (zj [.p,.ca 74 [0] 1,.un .not 12,.p]<|zh [(13,false)] [.p,.ca 187 [0] 1]<|zj [.pk 13 .t 14] []) (0::zn 6 (15::zn 4 []))<|
 .cond 7 (zr [.cs .v (.s []),.u false] (zo::12::13::zn 9 [])<|
 .ret) .skip)<|
 zr [.li (.o .v) [],.p] (0::zo::zo::12::zn 8 [])<|
 zr [.li (.o .v) [],.p] (0::zo::zo::3::12::zn 7 [])<|
 zr [.cs .v (.n 0)] (0::zo::zo::3::4::12::zn 6 [])<|
 .seq (zr [.p,.ln 0 [],.cs .v (.n 0)] [0,zo,zo,3,4,5,zo,zo,12,13,zo,zo]<|
 .block 0<|.loop<|zr [.bi .lss 9 8] [0,zo,zo,3,4,5,zo,zo,8,9,12,zo]<|
 .seq (.cond 10 .skip (.exit 0))<|
 .seq (.block 1<|zr [.p,.p] [0,zo,zo,3,4,5,9,zo,8,9,zo,zo]<|
 zr [.p,.li (.o .v) [.c (.y 117)],.ap false 3 12,.p] [0,zo,zo,13,4,5,6,zo,8,9,zo,zo]<|
 zr [.p,.p,.li (.o .v) [6],.ap false 4 12,.p] [0,zo,zo,3,13,5,zo,zo,8,9,zo,zo]<|
 .block 2<|.loop<|.seq (zq (zj [.p,.ln 4 [],.bi .gtr 12 (.i 0),.p]<|zh [(13,true)] [.p,.p,.p,.ln 4 [],.bi .sub 14 (.i 1),.ix 4 [] 15,.p,.iy 0 16,.p,.cy 5,.bi .eql 17 18]<|zj [.pk 13 19 .f] []) [0,zo,zo,3,4,5,zo,zo,8,9,zo,20]<|
 .cond 11 .skip (.exit 2))<|
 .block 3<|zr [.p,.li (.o .v) [.c (.y 100)],.ap false 3 12,.p] [0,zo,zo,13,4,5,zo,zo,8,9,zo,zo]<|
 zr [.p,.p,.ln 4 [],.bi .sub 12 (.i 1),.sb true 4 none (some 13),.p] [0,zo,zo,3,14,5,zo,zo,8,9,zo,zo]<|
 zt [.p,.bi .add 5 (.i 1),.p] [0,zo,zo,3,4,12,zo,zo,8,9,zo,zo])<|
 zt [.bi .add 9 (.i 1),.p] [0,zo,zo,3,4,5,zo,zo,8,12,zo,zo])<|
 zr [.p,.bs 3,.p,.u true] (zo::12::13::zn 9 [])<|
 .ret⟩
def NA:IF:=⟨[],2,13,[2],zr [.u false] (0::1::zn 11 [])<|
 .seq (zr [.p,.ca 74 [0] 1,.un .not 13] (0::1::zn 4 (14::zn 6 []))<|
 .cond 6 (zr [.u false] (zo::zo::13::zn 10 [])<|
 .ret) .skip)<|
 .seq (zr [.p,.ln 0 [],.cs .v (.n 0)] (0::1::zn 5 (13::14::zn 4 []))<|
 .block 0<|.loop<|zr [.bi .lss 8 7] (0::1::zn 5 (7::8::13::zo::zo::zo::[]))<|
 .seq (.cond 9 .skip (.exit 0))<|
 .seq (.block 1<|zr [.p,.p] (0::1::zo::8::zo::zo::zo::7::8::zn 4 [])<|
 zr [.p,.bi .add 3 (.i 1),.p] (0::1::zo::3::13::zo::zo::7::8::zn 4 [])<|
 .block 2<|.loop<|.seq (zr [.p,.p,.ln 0 [],.bi .lss 4 13] [0,1,zo,3,4,zo,zo,7,8,zo,14,zo,zo]<|
 .cond 10 .skip (.exit 2))<|
 .seq (.block 3<|zr [.p,.bi .add 4 (.i 1),.p] (0::1::zo::3::4::13::zo::7::8::zn 4 [])<|
 .block 4<|.loop<|.seq (zr [.p,.p,.ln 0 [],.bi .lss 5 13] [0,1,zo,3,4,5,zo,7,8,zo,zo,14,zo]<|
 .cond 11 .skip (.exit 4))<|
 .seq (.block 5<|zr [.p,.p,.p,.iy 0 3,.p,.p,.p,.iy 0 4,.p,.p,.p,.iy 0 5,.p,.cd 1 206 [13,14,15] 1] [0,1,zo,3,4,5,zo,7,8,zo,zo,zo,16]<|
 .cond 12 (zr [.u true] (zo::zo::13::zn 10 [])<|
 .ret) .skip)<|
 zt [.p,.bi .add 5 (.i 1),.p] (0::1::zo::3::4::13::zo::7::8::zn 4 []))<|
 zt [.p,.bi .add 4 (.i 1),.p] (0::1::zo::3::13::zo::zo::7::8::zn 4 []))<|
 zt [.bi .add 8 (.i 1),.p] (0::1::zn 5 (7::13::zn 4 [])))<|
 zr [.u false] (zo::zo::13::zn 10 [])<|
 .ret⟩
end Go.Cat
namespace Go.Cat
def Lo:IF:=⟨[],1,9,[1],zr [.u false] (0::zn 8 [])<|
 .seq (zr [.cs .v (.n 0)] (0::zo::9::zn 6 [])<|
 .block 0<|.loop<|.seq (zq (zj [.p,.p,.ln 0 [],.bi .lss 2 9,.p]<|zh [(10,true)] [.p,.ca 73 [0] 1]<|zj [.pk 10 11 .f] []) [0,zo,2,zo,zo,12,zo,zo,zo]<|
 .cond 5 .skip (.exit 0))<|
 .seq (.block 1<|zr [.p,.bi .add 2 (.i 1),.p] (0::zo::2::9::zn 5 [])<|
 .block 2<|.loop<|.seq (zr [.p,.p,.ln 0 [],.bi .lss 3 9] [0,zo,2,3,zo,zo,10,zo,zo]<|
 .cond 6 .skip (.exit 2))<|
 .seq (.block 3<|zr [.p,.bi .add 3 (.i 1),.p] (0::zo::2::3::9::zn 4 [])<|
 .block 4<|.loop<|.seq (zr [.p,.p,.ln 0 [],.bi .lss 4 9] [0,zo,2,3,4,zo,zo,10,zo]<|
 .cond 7 .skip (.exit 4))<|
 .seq (.block 5<|zq (zj [.p,.p,.iy 0 4,.p,.p,.p,.iy 0 2,.p,.bi .lss 9 10,.p]<|zh [(11,true)] [.p,.cy 2,.iy 0 12,.p,.p,.cy 3,.iy 0 14,.p,.bi .lss 13 15]<|zj [.pk 11 16 .f] []) [0,zo,2,3,4,zo,zo,zo,17]<|
 .cond 8 (zr [.u true] (zo::9::zn 7 [])<|
 .ret) .skip)<|
 zt [.p,.bi .add 4 (.i 1),.p] (0::zo::2::3::9::zn 4 []))<|
 zt [.p,.bi .add 3 (.i 1),.p] (0::zo::2::9::zn 5 []))<|
 zt [.p,.bi .add 2 (.i 1),.p] (0::zo::9::zn 6 []))<|
 zr [.u false] (zo::9::zn 7 [])<|
 .ret⟩
def M0:IF:=⟨[],1,8,[1],zr [.u false] (0::zn 7 [])<|
 .seq (zr [.cs .v (.n 0)] (0::zo::8::zn 5 [])<|
 .block 0<|.loop<|.seq (zr [.p,.p,.ln 0 [],.bi .lss 2 8] [0,zo,2,zo,9,zo,zo,zo]<|
 .cond 4 .skip (.exit 0))<|
 .seq (.block 1<|.seq (zr [.p,.p,.iy 0 2,.p,.p,.ln 0 [],.bi .sub 9 (.i 1),.ca 22 [8,.i 0,10] 1,.un .not 11] [0,zo,2,zo,zo,12,zo,zo]<|
 .cond 5 (zr [.u false] (zo::8::zn 6 [])<|
 .ret) .skip)<|
 zr [.cs .v (.n 0)] (0::zo::2::8::zn 4 [])<|
 .block 2<|.loop<|.seq (zr [.p,.p,.bi .lss 3 2] [0,zo,2,3,zo,zo,8,zo]<|
 .cond 6 .skip (.exit 2))<|
 .seq (.block 3<|zr [.p,.p,.iy 0 3,.p,.p,.p,.iy 0 2,.p,.bi .eql 8 9] [0,zo,2,3,zo,zo,zo,10]<|
 .cond 7 (zr [.u false] (zo::8::zn 6 [])<|
 .ret) .skip)<|
 zt [.p,.bi .add 3 (.i 1),.p] (0::zo::2::8::zn 4 []))<|
 zt [.p,.bi .add 2 (.i 1),.p] (0::zo::8::zn 5 []))<|
 zr [.p,.ln 0 [],.bi .leq 8 (.i 8),.p] (zo::9::zn 6 [])<|
 .ret⟩
def IW:IF:=⟨[],1,10,[1,2],zr [.cs .v (.s []),.u false] (0::zn 9 [])<|
 .seq (zq (zj [.p,.ca 73 [0] 1,.un .not 10,.p]<|zh [(11,false)] [.p,.ca 186 [0] 1]<|zj [.pk 11 .t 12] []) (0::zn 6 (13::zo::zo::[]))<|
 .cond 7 (zr [.cs .v (.s []),.u false] (zo::10::11::zn 7 [])<|
 .ret) .skip)<|
 zr [.cs .v (.s [])] (0::zo::zo::10::zn 6 [])<|
 zr [.li (.o .v) [],.p] (0::zo::zo::3::10::zn 5 [])<|
 zr [.cs .v (.n 0)] (0::zo::zo::3::4::10::zn 4 [])<|
 .seq (zr [.cs .v (.n 0)] [0,zo,zo,3,4,5,10,zo,zo,zo]<|
 .block 0<|.loop<|.seq (zr [.p,.p,.ln 0 [],.bi .lss 6 10] [0,zo,zo,3,4,5,6,zo,11,zo]<|
 .cond 8 .skip (.exit 0))<|
 .seq (.block 1<|zr [.p,.bi .add 3 (.c (.s [117])),.p] [0,zo,zo,10,4,5,6,zo,zo,zo]<|
 zr [.p,.p,.p,.iy 0 6,.p,.li (.o .v) [10],.ap false 4 11,.p] [0,zo,zo,3,12,5,6,zo,zo,zo]<|
 .block 2<|.loop<|.seq (zq (zj [.p,.ln 4 [],.bi .gtr 10 (.i 0),.p]<|zh [(11,true)] [.p,.p,.ln 4 [],.bi .sub 12 (.i 1),.ix 4 [] 13,.p,.cy 5,.bi .eql 14 15]<|zj [.pk 11 16 .f] []) [0,zo,zo,3,4,5,6,zo,zo,17]<|
 .cond 9 .skip (.exit 2))<|
 .block 3<|zr [.p,.bi .add 3 (.c (.s [100])),.p] [0,zo,zo,10,4,5,6,zo,zo,zo]<|
 zr [.p,.p,.ln 4 [],.bi .sub 10 (.i 1),.sb true 4 none (some 11),.p] [0,zo,zo,3,12,5,6,zo,zo,zo]<|
 zt [.p,.bi .add 5 (.i 1),.p] [0,zo,zo,3,4,10,6,zo,zo,zo])<|
 zt [.p,.bi .add 6 (.i 1),.p] [0,zo,zo,3,4,5,10,zo,zo,zo])<|
 zr [.p,.p,.u true] (zo::3::10::zn 7 [])<|
 .ret⟩
def L7:IF:=⟨[],1,11,[1,2],zr [.cs (.o .v) (.l []),.u false] (0::zn 10 [])<|
 .seq (zr [.p,.ca 64 [0] 1,.un .not 11] (0::zn 7 (12::zo::zo::[]))<|
 .cond 8 (zr [.li (.o .v) [],.p,.u false] (zo::11::12::zn 8 [])<|
 .ret) .skip)<|
 zr [.p,.sn 0,.bi .quo 11 (.i 2),.mk (.n 0) 12 12,.p] (0::zo::zo::13::zn 7 [])<|
 zr [.li (.o .v) [],.p] (0::zo::zo::3::11::zn 6 [])<|
 zr [.cs .v (.n 0)] (0::zo::zo::3::4::11::zn 5 [])<|
 zr [.cs .v (.n 0)] (0::zo::zo::3::4::5::11::zn 4 [])<|
 .seq (zr [.cs .v (.n 0)] [0,zo,zo,3,4,5,6,11,zo,zo,zo]<|
 .block 0<|.loop<|.seq (zr [.p,.p,.sn 0,.bi .lss 7 11] [0,zo,zo,3,4,5,6,7,zo,12,zo]<|
 .cond 9 .skip (.exit 0))<|
 .seq (.block 1<|.seq (zr [.p,.p,.sx 0 7,.bi .eql 11 (.c (.y 117))] [0,zo,zo,3,4,5,6,7,zo,zo,12]<|
 .cond 10 (zr [.p,.p,.li (.o .v) [5],.ap false 4 11,.p] [0,zo,zo,3,12,5,6,7,zo,zo,zo]<|
 zr [.p,.bi .add 5 (.i 1),.p] [0,zo,zo,3,4,11,6,7,zo,zo,zo]<|
 .exit 1) .skip)<|
 zr [.p,.p,.p,.ln 4 [],.bi .sub 11 (.i 1),.ix 4 [] 12,.p,.p,.ix 3 [] 13,.up 3 [.e 13] 6] [0,zo,zo,15,4,5,6,7,zo,zo,zo]<|
 zr [.p,.p,.ln 4 [],.bi .sub 11 (.i 1),.sb true 4 none (some 12),.p] [0,zo,zo,3,13,5,6,7,zo,zo,zo]<|
 zt [.p,.bi .add 6 (.i 1),.p] [0,zo,zo,3,4,5,11,7,zo,zo,zo])<|
 zt [.p,.bi .add 7 (.i 1),.p] [0,zo,zo,3,4,5,6,11,zo,zo,zo])<|
 zr [.p,.p,.u true] (zo::3::11::zn 8 [])<|
 .ret⟩
def LK:IF:=⟨[],1,9,[1,0],zr [.cs (.o .v) (.l [])] (0::zn 8 [])<|
 zr [.p,.ca 317 [0] 2,.ca 325 [9] 2,.p,.p,.p,.p,.p] (10::zo::11::zn 6 [])<|
 .seq (zr [.p,.ca 307 [0,.i 3] 2] [10,zo,2,zo,zo,9,zo,zo,zo]<|
 .cond 5 (zr [.li (.o .v) [],.p] (0::zo::9::zn 6 [])<|
 zr [.p,.ca 289 [0,.i 7] 2,.p] (10::zo::2::9::zn 5 [])<|
 .block 0<|.loop<|.seq (zr [.p,.bi .gtr 3 (.i 0)] [0,zo,2,3,zo,zo,9,zo,zo]<|
 .cond 6 .skip (.exit 0))<|
 .seq (.block 1<|zr [.p,.p,.ln 2 [],.bi .add 9 (.i 1),.ca 289 [0,10] 2,.p] [12,zo,zo,3,11,zo,zo,zo,2]<|
 zt [.li (.o .v) [],.p,.p,.sb false 8 none (some 4),.ap false 9 10,.p,.ln 8 [],.li (.o .v) [12],.ap false 11 13,.p,.p,.sb false 8 (some 4) none,.ap false 14 15,.p] (0::zo::16::3::zn 5 []))<|
 zt [.p,.bi .sub 3 (.i 1),.p] (0::zo::2::9::zn 5 [])) .skip)<|
 .seq (zq (zj [.p,.ln 2 [],.bi .gtr 9 (.i 0),.p]<|zh [(10,true)] [.p]<|⟨[zo,0],[(10,true)],.ca 307 [.e 0,.c (.n 12)] 2⟩::(zj [.pk 10 11 .f] [])) (12::zo::2::zn 4 (13::zo::[]))<|
 .cond 7 (zt [.p,.p,.li (.o .v) [.i (-1),.i 0,.i 1,.i 9223372036854775807],.ca 313 [0,9] 2,.ix 2 [] (.i 0),.up 2 [.k 0] 10] (11::zo::13::zn 6 [])) .skip)<|
 zr [.p,.p] (0::2::zn 7 [])<|
 .ret⟩
end Go.Cat
namespace Go.Cat
def MG:IF:=⟨[],1,2,[1],zr [.u false] [0,zo]<|
 zr [.p,.ln 0 [],.bi .gtr 2 (.i 1048576),.p] [zo,3]<|
 .ret⟩
end Go.Cat
namespace Go.Cat
def Hl:IF:=⟨[],2,11,[2,3],zr [.cs (.o .v) (.l []),.u false] (0::1::zn 9 [])<|
 zr [.li (.o .v) [],.p] (0::1::zo::zo::11::zn 6 [])<|
 .seq (zq (zj [.p,.ca 67 [0] 1,.un .not 11,.p]<|zh [(12,false)] [.p,.ca 74 [1] 1,.un .not 13]<|zj [.pk 12 .t 14,.p]<|zh [(15,false)] [.p,.ln 1 [],.cy 0,.ca 132 [17] 1,.bi .neq 16 18]<|zj [.pk 15 .t 19] []) [0,1,zo,zo,4,zo,zo,zo,20,zo,zo]<|
 .cond 8 (zr [.p,.p,.u false] (zo::zo::4::11::zn 7 [])<|
 .ret) .skip)<|
 zr [.li (.o .v) [],.p] (0::1::zo::zo::4::11::zn 5 [])<|
 zr [.cs .v (.n 0)] (0::1::zo::zo::4::5::11::zn 4 [])<|
 .seq (zr [.cs .v (.n 0)] [0,1,zo,zo,4,5,6,11,zo,zo,zo]<|
 .block 0<|.loop<|.seq (zr [.p,.p,.sn 0,.bi .lss 7 11] [0,1,zo,zo,4,5,6,7,zo,12,zo]<|
 .cond 9 .skip (.exit 0))<|
 .seq (.block 1<|.seq (zr [.p,.p,.sx 0 7,.bi .eql 11 (.c (.y 117))] [0,1,zo,zo,4,5,6,7,zo,zo,12]<|
 .cond 10 (zr [.p,.p,.p,.iy 1 6,.p,.li (.o .v) [11],.ap false 5 12,.p] [0,1,zo,zo,4,13,6,7,zo,zo,zo]<|
 zr [.p,.bi .add 6 (.i 1),.p] [0,1,zo,zo,4,5,11,7,zo,zo,zo]<|
 .exit 1) .skip)<|
 zr [.p,.p,.p,.ln 5 [],.bi .sub 11 (.i 1),.ix 5 [] 12,.p,.li (.o .v) [13],.ap false 4 14,.p] [0,1,zo,zo,15,5,6,7,zo,zo,zo]<|
 zt [.p,.p,.ln 5 [],.bi .sub 11 (.i 1),.sb true 5 none (some 12),.p] [0,1,zo,zo,4,13,6,7,zo,zo,zo])<|
 zt [.p,.bi .add 7 (.i 1),.p] [0,1,zo,zo,4,5,6,11,zo,zo,zo])<|
 zr [.p,.p,.u true] (zo::zo::4::11::zn 7 [])<|
 .ret⟩
def MQ:IF:=⟨[],1,13,[1,2],zr [.cs (.o .v) (.l []),.u false] (0::zn 12 [])<|
 .seq (zr [.p,.ca 74 [0] 1,.un .not 13] (0::zn 5 (14::zn 6 []))<|
 .cond 6 (zr [.li (.o .v) [],.p,.u false] (zo::13::14::zn 10 [])<|
 .ret) .skip)<|
 .seq (zr [.p,.ln 0 [],.cs .v (.n 0)] (0::zn 6 (13::14::zn 4 []))<|
 .block 0<|.loop<|zr [.bi .lss 8 7] (0::zn 6 (7::8::13::zo::zo::zo::[]))<|
 .seq (.cond 9 .skip (.exit 0))<|
 .seq (.block 1<|zr [.p,.p] (0::zo::zo::8::zo::zo::zo::7::8::zn 4 [])<|
 zr [.p,.bi .add 3 (.i 1),.p] (0::zo::zo::3::13::zo::zo::7::8::zn 4 [])<|
 .block 2<|.loop<|.seq (zr [.p,.p,.ln 0 [],.bi .lss 4 13] [0,zo,zo,3,4,zo,zo,7,8,zo,14,zo,zo]<|
 .cond 10 .skip (.exit 2))<|
 .seq (.block 3<|zr [.p,.bi .add 4 (.i 1),.p] (0::zo::zo::3::4::13::zo::7::8::zn 4 [])<|
 .block 4<|.loop<|.seq (zr [.p,.p,.ln 0 [],.bi .lss 5 13] [0,zo,zo,3,4,5,zo,7,8,zo,zo,14,zo]<|
 .cond 11 .skip (.exit 4))<|
 .seq (.block 5<|zq (zj [.p,.p,.iy 0 5,.p,.p,.p,.iy 0 3,.p,.bi .lss 13 14,.p]<|zh [(15,true)] [.p,.cy 3,.iy 0 16,.p,.p,.cy 4,.iy 0 18,.p,.bi .lss 17 19]<|zj [.pk 15 20 .f] []) [0,zo,zo,3,4,5,zo,7,8,zo,zo,zo,21]<|
 .cond 12 (zr [.p,.p,.p,.li (.o .v) [3,4,5],.p,.u true] (zo::13::14::zn 10 [])<|
 .ret) .skip)<|
 zt [.p,.bi .add 5 (.i 1),.p] (0::zo::zo::3::4::13::zo::7::8::zn 4 []))<|
 zt [.p,.bi .add 4 (.i 1),.p] (0::zo::zo::3::13::zo::zo::7::8::zn 4 []))<|
 zt [.bi .add 8 (.i 1),.p] (0::zn 6 (7::13::zn 4 [])))<|
 zr [.li (.o .v) [],.p,.u false] (zo::13::14::zn 10 [])<|
 .ret⟩
def MK:IF:=⟨[],1,2,[1],zr [.u false] [0,zo]<|
 zr [.p,.ca 178 [0] 1,.p] [zo,2]<|
 .ret⟩
end Go.Cat
namespace Go.Cat
def Iq:IF:=⟨[],2,11,[2,3],zr [.cs (.o .v) (.l []),.u false] (0::1::zn 9 [])<|
 zr [.li (.o .v) [],.p] (0::1::zo::zo::11::zn 6 [])<|
 .seq (zq (zj [.p,.ca 64 [0] 1,.un .not 11,.p]<|zh [(12,false)] [.p,.ca 73 [1] 1,.un .not 13]<|zj [.pk 12 .t 14,.p]<|zh [(15,false)] [.cy 0,.sn 16,.p,.ln 1 [],.bi .mul (.i 2) 18,.bi .neq 17 19]<|zj [.pk 15 .t 20] []) [0,1,zo,zo,4,zo,zo,zo,21,zo,zo]<|
 .cond 8 (zr [.p,.p,.u false] (zo::zo::4::11::zn 7 [])<|
 .ret) .skip)<|
 zr [.li (.o .v) [],.p] (0::1::zo::zo::4::11::zn 5 [])<|
 zr [.cs .v (.n 0)] (0::1::zo::zo::4::5::11::zn 4 [])<|
 .seq (zr [.cs .v (.n 0)] [0,1,zo,zo,4,5,6,11,zo,zo,zo]<|
 .block 0<|.loop<|.seq (zr [.p,.p,.sn 0,.bi .lss 7 11] [0,1,zo,zo,4,5,6,7,zo,12,zo]<|
 .cond 9 .skip (.exit 0))<|
 .seq (.block 1<|.seq (zr [.p,.p,.sx 0 7,.bi .eql 11 (.c (.y 117))] [0,1,zo,zo,4,5,6,7,zo,zo,12]<|
 .cond 10 (zr [.p,.p,.p,.iy 1 6,.p,.li (.o .v) [11],.ap false 5 12,.p] [0,1,zo,zo,4,13,6,7,zo,zo,zo]<|
 zr [.p,.bi .add 6 (.i 1),.p] [0,1,zo,zo,4,5,11,7,zo,zo,zo]<|
 .exit 1) .skip)<|
 zr [.p,.p,.p,.ln 5 [],.bi .sub 11 (.i 1),.ix 5 [] 12,.p,.li (.o .v) [13],.ap false 4 14,.p] [0,1,zo,zo,15,5,6,7,zo,zo,zo]<|
 zt [.p,.p,.ln 5 [],.bi .sub 11 (.i 1),.sb true 5 none (some 12),.p] [0,1,zo,zo,4,13,6,7,zo,zo,zo])<|
 zt [.p,.bi .add 7 (.i 1),.p] [0,1,zo,zo,4,5,6,11,zo,zo,zo])<|
 zr [.p,.p,.u true] (zo::zo::4::11::zn 7 [])<|
 .ret⟩
def Nm:IF:=⟨[],1,10,[1,2],zr [.cs (.o .v) (.l []),.u false] (0::zn 9 [])<|
 .seq (zr [.cs .v (.n 0)] (0::zo::zo::10::zn 6 [])<|
 .block 0<|.loop<|.seq (zq (zj [.p,.p,.ln 0 [],.bi .lss 3 10,.p]<|zh [(11,true)] [.p,.ca 73 [0] 1]<|zj [.pk 11 12 .f] []) [0,zo,zo,3,zo,zo,13,zo,zo,zo]<|
 .cond 6 .skip (.exit 0))<|
 .seq (.block 1<|zr [.p,.bi .add 3 (.i 1),.p] (0::zo::zo::3::10::zn 5 [])<|
 .block 2<|.loop<|.seq (zr [.p,.p,.ln 0 [],.bi .lss 4 10] [0,zo,zo,3,4,zo,zo,11,zo,zo]<|
 .cond 7 .skip (.exit 2))<|
 .seq (.block 3<|zr [.p,.bi .add 4 (.i 1),.p] (0::zo::zo::3::4::10::zn 4 [])<|
 .block 4<|.loop<|.seq (zr [.p,.p,.ln 0 [],.bi .lss 5 10] [0,zo,zo,3,4,5,zo,zo,11,zo]<|
 .cond 8 .skip (.exit 4))<|
 .seq (.block 5<|zq (zj [.p,.p,.iy 0 5,.p,.p,.p,.iy 0 3,.p,.bi .lss 10 11,.p]<|zh [(12,true)] [.p,.cy 3,.iy 0 13,.p,.p,.cy 4,.iy 0 15,.p,.bi .lss 14 16]<|zj [.pk 12 17 .f] []) [0,zo,zo,3,4,5,zo,zo,zo,18]<|
 .cond 9 (zr [.p,.p,.p,.li (.o .v) [3,4,5],.p,.u true] (zo::10::11::zn 7 [])<|
 .ret) .skip)<|
 zt [.p,.bi .add 5 (.i 1),.p] (0::zo::zo::3::4::10::zn 4 []))<|
 zt [.p,.bi .add 4 (.i 1),.p] (0::zo::zo::3::10::zn 5 []))<|
 zt [.p,.bi .add 3 (.i 1),.p] (0::zo::zo::10::zn 6 []))<|
 zr [.li (.o .v) [],.p,.u false] (zo::10::11::zn 7 [])<|
 .ret⟩
def Nc:IF:=⟨[],1,5,[1],zr [.u false] (0::zn 4 [])<|
 .seq (zr [.cs .v (.n 0)] [0,zo,5,zo,zo]<|
 .block 0<|.loop<|.seq (zr [.p,.p,.ln 0 [],.bi .lss 2 5] [0,zo,2,6,zo]<|
 .cond 3 .skip (.exit 0))<|
 .seq (.block 1<|zr [.p,.p,.iy 0 2,.p,.p,.bi .neq 5 2] [0,zo,2,zo,6]<|
 .cond 4 (zr [.u false] [zo,5,zo,zo,zo]<|
 .ret) .skip)<|
 zt [.p,.bi .add 2 (.i 1),.p] [0,zo,5,zo,zo])<|
 zr [.u true] [zo,5,zo,zo,zo]<|
 .ret⟩
end Go.Cat
namespace Go.Cat
def Kq:IF:=⟨[],2,10,[2],zr [.cs .v (.n 0)] (0::1::zn 8 [])<|
 zr [.p,.ca 211 [0] 1,.p] (0::1::zo::10::zn 6 [])<|
 zr [.p,.ca 211 [1] 1,.p] (0::1::zo::3::10::zn 5 [])<|
 .seq (zr [.p] (0::1::zo::zo::4::3::zn 4 [])<|
 .cond 5 (.seq (zr [.p] (zn 6 (4::zo::zo::zo::[]))<|
 .cond 6 (zr [.cs .v (.n 0)] (zo::zo::10::zn 7 [])<|
 .ret) .skip)<|
 zr [.cs .v (.n (-1))] (zo::zo::10::zn 7 [])<|
 .ret) .skip)<|
 .seq (zr [.p] (0::1::zn 5 (4::zo::zo::[]))<|
 .cond 7 (zr [.cs .v (.n 1)] (zo::zo::10::zn 7 [])<|
 .ret) .skip)<|
 .seq (zr [.p,.p,.bi .lss 0 1] (0::1::zn 6 (10::zo::[]))<|
 .cond 8 (zr [.cs .v (.n (-1))] (zo::zo::10::zn 7 [])<|
 .ret) .skip)<|
 .seq (zr [.p,.p,.bi .gtr 0 1] (zn 9 (10::[]))<|
 .cond 9 (zr [.cs .v (.n 1)] (zo::zo::10::zn 7 [])<|
 .ret) .skip)<|
 zr [.cs .v (.n 0)] (zo::zo::10::zn 7 [])<|
 .ret⟩
def L4:IF:=⟨[],2,3,[2],zr [.u false] [0,1,zo]<|
 zq (zj [.p,.ca 211 [0] 1,.p]<|zh [(3,true)] [.cy 1,.ca 211 [4] 1,.un .not 5]<|zj [.pk 3 6 .f,.p]<|zh [(7,false)] [.cy 0,.cy 1,.bi .lss 8 9]<|zj [.pk 7 .t 10,.p] []) [zo,zo,11]<|
 .ret⟩
def JG:IF:=⟨[],1,2,[1],zr [.u false] [0,zo]<|
 zr [.p,.p,.bi .neq 0 0,.p] [zo,2]<|
 .ret⟩
def Ku:IF:=⟨[],1,3,[2],zr [.bp 0,.u false] [zo,3,zo]<|
 zq (zj [.fp false 1 3,.p,.ca 646 [3] 1,.p]<|zh [(4,true)] [.fp false 1 3,.p,.iy 5 (.i 0),.p,.fp true 1 1,.p,.bi .eql 6 7]<|zj [.pk 4 8 .f,.p]<|zh [(9,true)] [.fp false 1 3,.p,.fp false 1 3,.p,.ln 11 [],.bi .sub 12 (.i 1),.iy 10 13,.p,.fp true 1 2,.p,.bi .eql 14 15]<|zj [.pk 9 16 .f,.p] []) [zo,zo,17]<|
 .ret⟩
def UL:IF:=⟨[],2,7,[2],zr [.cs .v .z] (0::1::zn 5 [])<|
 .seq (zq (zj [.p,.nz true 0,.p]<|zh [(7,false)] [.cy 1,.bi .lss 8 (.i 0)]<|zj [.pk 7 .t 9] []) [0,1,zo,zo,10,zo,zo]<|
 .cond 4 (zr [.cs .v .z] (zo::zo::7::zn 4 [])<|
 .ret) .skip)<|
 zr [.p,.nn 0,.fp false 7 0,.p,.ca 197 [8] 1,.p] [0,1,zo,9,zo,zo,zo]<|
 .seq (.block 0<|zr [.p,.p,.bi .lss 1 3,.p] [0,1,zo,3,zo,7,zo]<|
 .cond 5 (zr [.p,.nn 0,.fp false 7 0,.p,.p,.ca 213 [8,1] 1,.p] (zo::zo::9::zn 4 [])<|
 .ret) (zr [.p,.p,.bi .eql 1 3,.p] [0,1,zo,3,zo,zo,7]<|
 .cond 6 (zr [.p,.p] (zo::zo::0::zn 4 [])<|
 .ret) .skip))<|
 zr [.p,.nn 0,.fp false 7 1,.p,.p,.p,.bi .sub 1 3,.bi .sub 9 (.i 1),.ca 213 [8,10] 1,.p] (zo::zo::11::zn 4 [])<|
 .ret⟩
def Ih:IF:=⟨[],1,3,[1],zr [.cs .v (.n 0)] [0,zo,zo]<|
 .seq (zr [.p,.nz true 0] [0,zo,3]<|
 .cond 2 (zr [.cs .v (.n 0)] [zo,3,zo]<|
 .ret) .skip)<|
 zr [.p,.nn 0,.fp false 3 0,.p,.ca 197 [4] 1,.p,.nn 0,.fp false 6 1,.p,.ca 197 [7] 1,.bi .add 5 8,.bi .add 9 (.i 1),.p] [zo,10,zo]<|
 .ret⟩
def IN:IF:=⟨[],1,3,[1],zr [.cs .v (.s [])] [0,zo,zo]<|
 .seq (zr [.p,.nz true 0] [0,zo,3]<|
 .cond 2 (zr [.cs .v (.s [46])] [zo,3,zo]<|
 .ret) .skip)<|
 zr [.p,.nn 0,.fp false 3 0,.p,.ca 196 [4] 1,.bi .add (.c (.s [40])) 5,.p,.nn 0,.fp false 7 1,.p,.ca 196 [8] 1,.bi .add 6 9,.bi .add 10 (.c (.s [41])),.p] [zo,11,zo]<|
 .ret⟩
def JF:IF:=⟨[],5,11,[5,6],zr [.cs (.o .v) (.l []),.cs (.o .v) (.l [])] (0::1::2::3::4::zn 6 [])<|
 .seq (zr [.p,.nz true 0] [0,1,2,3,4,zo,zo,zo,11,zo,zo]<|
 .cond 8 (zr [.p,.p,.p,.p] (zn 5 (3::4::zn 4 []))<|
 .ret) .skip)<|
 zr [.p,.p,.nn 0,.fp false 11 0,.p,.ca 197 [12] 1,.bi .add 1 13,.bi .add 14 (.i 1),.p] [0,1,2,3,4,zo,zo,15,zo,zo,zo]<|
 zr [.p,.p,.p,.p,.li (.o .v) [1,7,2],.li (.o .v) [11],.ap false 3 12,.p] [0,1,2,13,4,zo,zo,7,zo,zo,zo]<|
 .seq (zr [.p,.nn 0,.fp false 11 0,.p,.nz false 12] [0,1,2,3,4,zo,zo,7,zo,13,zo]<|
 .cond 9 (zt [.p,.p,.p,.li (.o .v) [1,7],.li (.o .v) [11],.ap false 4 12,.p] [0,1,2,3,13,zo,zo,7,zo,zo,zo]) .skip)<|
 .seq (zr [.p,.nn 0,.fp false 11 1,.p,.nz false 12] [0,1,2,3,4,zo,zo,7,zo,zo,13]<|
 .cond 10 (zt [.p,.p,.p,.li (.o .v) [7,2],.li (.o .v) [11],.ap false 4 12,.p] [0,1,2,3,13,zo,zo,7,zo,zo,zo]) .skip)<|
 zr [.p,.nn 0,.fp false 11 0,.p,.p,.p,.p,.p,.ca 541 [12,1,7,3,4] 2,.p,.p,.p,.p,.p] [0,zo,2,13,14,zo,zo,7,zo,zo,zo]<|
 zr [.p,.nn 0,.fp false 11 1,.p,.p,.p,.p,.p,.ca 541 [12,7,2,3,4] 2,.p,.p,.p,.p] (zn 5 (13::14::zn 4 []))<|
 .ret⟩
def Hi:IF:=⟨[],2,4,[2],zr [.cs (.o .v) (.l [])] [0,1,zo,zo]<|
 .seq (zr [.p,.nz true 0] [0,1,zo,4]<|
 .cond 3 (zr [.p,.p] [zo,zo,1,zo]<|
 .ret) .skip)<|
 zr [.p,.nn 0,.fp false 4 1,.p,.p,.nn 0,.fp false 6 0,.p,.p,.ca 199 [7,1] 1,.p,.nn 0,.fp false 9 1,.p,.ca 197 [10] 1,.li (.o .v) [11],.ap false 8 12,.ca 199 [5,13] 1,.p] [zo,zo,14,zo]<|
 .ret⟩
def Ke:IF:=⟨[],1,2,[1],zr [.cs .v (.n 0)] [0,zo]<|
 .seq .skip<|
 zr [.p,.ca 391 [0] 1,.p] [zo,2]<|
 .ret⟩
def Sn:IF:=⟨[],1,4,[1],zr [.cs .v (.n 0)] [0,4,zo,zo]<|
 .seq (zr [.p,.bi .geq 0 (.c (.i .u32 65536))] [0,1,4,zo]<|
 .cond 2 (zr [.p,.bi .shr 0 (.c (.i .u64 16)),.p] [4,zo,zo,zo]<|
 zt [.cs .v (.n 16)] [0,4,zo,zo]) .skip)<|
 .seq (zr [.p,.bi .geq 0 (.c (.i .u32 256))] [0,1,zo,4]<|
 .cond 3 (zr [.p,.bi .shr 0 (.c (.i .u64 8)),.p] [4,1,zo,zo]<|
 zt [.p,.bi .add 1 (.i 8),.p] [0,4,zo,zo]) .skip)<|
 zr [.p,.p,.cv .u8 0,.sx (.c (.s [0,1,2,2,3,3,3,3,4,4,4,4,4,4,4,4,5,5,5,5,5,5,5,5,5,5,5,5,5,5,5,5,6,6,6,6,6,6,6,6,6,6,6,6,6,6,6,6,6,6,6,6,6,6,6,6,6,6,6,6,6,6,6,6,7,7,7,7,7,7,7,7,7,7,7,7,7,7,7,7,7,7,7,7,7,7,7,7,7,7,7,7,7,7,7,7,7,7,7,7,7,7,7,7,7,7,7,7,7,7,7,7,7,7,7,7,7,7,7,7,7,7,7,7,7,7,7,7,8,8,8,8,8,8,8,8,8,8,8,8,8,8,8,8,8,8,8,8,8,8,8,8,8,8,8,8,8,8,8,8,8,8,8,8,8,8,8,8,8,8,8,8,8,8,8,8,8,8,8,8,8,8,8,8,8,8,8,8,8,8,8,8,8,8,8,8,8,8,8,8,8,8,8,8,8,8,8,8,8,8,8,8,8,8,8,8,8,8,8,8,8,8,8,8,8,8,8,8,8,8,8,8,8,8,8,8,8,8,8,8,8,8,8,8,8,8,8,8,8,8,8,8,8,8,8,8])) 4,.cv .i64 5,.bi .add 1 6,.p] [zo,7,zo,zo]<|
 .ret⟩
def PT:IF:=⟨[],1,5,[1],zr [.cs .v (.n 0)] [0,5,zo,zo,zo]<|
 .seq (zr [.p,.bi .geq 0 (.c (.i .u64 4294967296))] [0,1,5,zo,zo]<|
 .cond 2 (zr [.p,.bi .shr 0 (.c (.i .u64 32)),.p] (5::zn 4 [])<|
 zt [.cs .v (.n 32)] [0,5,zo,zo,zo]) .skip)<|
 .seq (zr [.p,.bi .geq 0 (.c (.i .u64 65536))] [0,1,zo,5,zo]<|
 .cond 3 (zr [.p,.bi .shr 0 (.c (.i .u64 16)),.p] [5,1,zo,zo,zo]<|
 zt [.p,.bi .add 1 (.i 16),.p] [0,5,zo,zo,zo]) .skip)<|
 .seq (zr [.p,.bi .geq 0 (.c (.i .u64 256))] [0,1,zo,zo,5]<|
 .cond 4 (zr [.p,.bi .shr 0 (.c (.i .u64 8)),.p] [5,1,zo,zo,zo]<|
 zt [.p,.bi .add 1 (.i 8),.p] [0,5,zo,zo,zo]) .skip)<|
 zr [.p,.p,.cv .u8 0,.sx (.c (.s [0,1,2,2,3,3,3,3,4,4,4,4,4,4,4,4,5,5,5,5,5,5,5,5,5,5,5,5,5,5,5,5,6,6,6,6,6,6,6,6,6,6,6,6,6,6,6,6,6,6,6,6,6,6,6,6,6,6,6,6,6,6,6,6,7,7,7,7,7,7,7,7,7,7,7,7,7,7,7,7,7,7,7,7,7,7,7,7,7,7,7,7,7,7,7,7,7,7,7,7,7,7,7,7,7,7,7,7,7,7,7,7,7,7,7,7,7,7,7,7,7,7,7,7,7,7,7,7,8,8,8,8,8,8,8,8,8,8,8,8,8,8,8,8,8,8,8,8,8,8,8,8,8,8,8,8,8,8,8,8,8,8,8,8,8,8,8,8,8,8,8,8,8,8,8,8,8,8,8,8,8,8,8,8,8,8,8,8,8,8,8,8,8,8,8,8,8,8,8,8,8,8,8,8,8,8,8,8,8,8,8,8,8,8,8,8,8,8,8,8,8,8,8,8,8,8,8,8,8,8,8,8,8,8,8,8,8,8,8,8,8,8,8,8,8,8,8,8,8,8,8,8,8,8,8,8])) 5,.cv .i64 6,.bi .add 1 7,.p] [zo,8,zo,zo,zo]<|
 .ret⟩
def IL:IF:=⟨[],2,14,[2],zr [.cs .v (.n 0)] (0::1::zn 12 [])<|
 .seq (zr [.p,.ln 0 [],.cs .v (.n 0)] (0::1::zn 5 (0::14::15::zn 4 []))<|
 .block 0<|.loop<|zr [.bi .lss 9 8] (0::1::zn 5 (7::8::9::14::zo::zo::zo::[]))<|
 .seq (.cond 10 .skip (.exit 0))<|
 .seq (.block 1<|zr [.p,.iy 7 9,.p,.p,.p] (0::1::zo::9::14::zo::zo::7::8::9::zn 4 [])<|
 .seq (zr [.p,.p,.ln 1 [],.bi .geq 3 14] [0,1,zo,3,4,zo,zo,7,8,9,zo,15,zo,zo]<|
 .cond 11 (zr [.cs .v (.n 1)] (zo::zo::14::zn 11 [])<|
 .ret) .skip)<|
 zr [.p,.p,.iy 1 3,.p,.p] (0::1::zo::zo::4::14::zo::7::8::9::zn 4 [])<|
 zr [.p,.p,.ca 377 [4,5] 1,.p] (0::1::zn 4 (14::7::8::9::zn 4 []))<|
 zr [.p,.bi .neq 6 (.i 0)] (0::1::zn 4 (6::7::8::9::zo::zo::14::zo::[]))<|
 .cond 12 (zr [.p,.p] (zo::zo::6::zn 11 [])<|
 .ret) .skip)<|
 zt [.bi .add 9 (.i 1),.p] (0::1::zn 5 (7::8::14::zn 4 [])))<|
 .seq (zr [.p,.ln 0 [],.p,.ln 1 [],.bi .lss 14 15] (zn 13 (16::[]))<|
 .cond 13 (zr [.cs .v (.n (-1))] (zo::zo::14::zn 11 [])<|
 .ret) .skip)<|
 zr [.cs .v (.n 0)] (zo::zo::14::zn 11 [])<|
 .ret⟩
def MV:IF:=⟨[],2,3,[2],zr [.u false] [0,1,zo]<|
 zr [.p,.p,.ca 654 [0,1] 1,.bi .geq 3 (.i 0),.p] [zo,zo,4]<|
 .ret⟩
def NT:IF:=⟨[],3,13,[3],zr [.u false] (0::1::2::zn 10 [])<|
 .seq (zr [.p,.ln 0 [],.p,.ln 1 [],.bi .neq 13 14] (0::1::2::zn 4 (15::zn 5 []))<|
 .cond 7 (zr [.u false] (zo::zo::zo::13::zn 9 [])<|
 .ret) .skip)<|
 .seq (zr [.p,.ln 0 [],.cs .v (.n 0)] (zo::1::2::zn 5 (0::13::14::zo::zo::[]))<|
 .block 0<|.loop<|zr [.bi .lss 10 9] (zo::1::2::zn 5 (8::9::10::13::zo::[]))<|
 .seq (.cond 11 .skip (.exit 0))<|
 .seq (.block 1<|zr [.p,.ix 8 [] 10,.p,.p,.p] [zo,1,2,zo,10,13,zo,zo,8,9,10,zo,zo]<|
 zr [.p,.p,.ix 1 [] 4,.p,.p] [zo,1,2,zo,zo,5,13,zo,8,9,10,zo,zo]<|
 zr [.p,.p,.p,.cd 2 72 [5,6] 1,.un .not 13] (zo::1::2::zn 5 (8::9::10::zo::14::[]))<|
 .cond 12 (zr [.u false] (zo::zo::zo::13::zn 9 [])<|
 .ret) .skip)<|
 zt [.bi .add 10 (.i 1),.p] (zo::1::2::zn 5 (8::9::13::zo::zo::[])))<|
 zr [.u true] (zo::zo::zo::13::zn 9 [])<|
 .ret⟩
def NU:IF:=⟨[],2,9,[2],zr [.u false] (0::1::zn 7 [])<|
 .seq (zr [.p,.ln 0 [],.p,.ln 1 [],.bi .neq 9 10] (0::1::zo::zo::11::zn 4 [])<|
 .cond 4 (zr [.u false] (zo::zo::9::zn 6 [])<|
 .ret) .skip)<|
 .seq (zr [.p,.ln 0 [],.cs .v (.n 0)] [0,1,zo,zo,zo,9,10,zo,zo]<|
 .block 0<|.loop<|zr [.bi .lss 6 5] [0,1,zo,zo,zo,5,6,9,zo]<|
 .seq (.cond 7 .skip (.exit 0))<|
 .seq (.block 1<|zr [.p,.p] [0,1,zo,6,zo,5,6,zo,zo]<|
 zr [.p,.p,.iy 0 3,.p,.p,.p,.iy 1 3,.p,.bi .neq 9 10] [0,1,zo,zo,zo,5,6,zo,11]<|
 .cond 8 (zr [.u false] (zo::zo::9::zn 6 [])<|
 .ret) .skip)<|
 zt [.bi .add 6 (.i 1),.p] [0,1,zo,zo,zo,5,9,zo,zo])<|
 zr [.u true] (zo::zo::9::zn 6 [])<|
 .ret⟩
def Nk:IF:=⟨[],2,8,[2],zr [.cs .v (.n 0)] (0::1::zn 6 [])<|
 .seq (zr [.p,.ln 0 [],.cs .v (.n 0)] [0,1,zo,zo,8,9,zo,zo]<|
 .block 0<|.loop<|zr [.bi .lss 5 4] [0,1,zo,zo,4,5,8,zo]<|
 .seq (.cond 6 .skip (.exit 0))<|
 .seq (.block 1<|zr [.p,.p] [0,1,zo,5,4,5,zo,zo]<|
 zr [.p,.p,.p,.iy 0 3,.p,.bi .eql 1 8] [0,1,zo,3,4,5,zo,9]<|
 .cond 7 (zr [.p,.p] (zo::zo::3::zn 5 [])<|
 .ret) .skip)<|
 zt [.bi .add 5 (.i 1),.p] [0,1,zo,zo,4,8,zo,zo])<|
 zr [.cs .v (.n (-1))] (zo::zo::8::zn 5 [])<|
 .ret⟩
def K2:IF:=⟨[],2,8,[2],zr [.cs .v (.n 0)] (0::1::zn 6 [])<|
 .seq (zr [.p,.ln 0 [],.cs .v (.n 0)] [0,1,zo,zo,8,9,zo,zo]<|
 .block 0<|.loop<|zr [.bi .lss 5 4] [0,1,zo,zo,4,5,8,zo]<|
 .seq (.cond 6 .skip (.exit 0))<|
 .seq (.block 1<|zr [.p,.p] [0,1,zo,5,4,5,zo,zo]<|
 zr [.p,.p,.p,.iy 0 3,.p,.bi .eql 1 8] [0,1,zo,3,4,5,zo,9]<|
 .cond 7 (zr [.p,.p] (zo::zo::3::zn 5 [])<|
 .ret) .skip)<|
 zt [.bi .add 5 (.i 1),.p] [0,1,zo,zo,4,8,zo,zo])<|
 zr [.cs .v (.n (-1))] (zo::zo::8::zn 5 [])<|
 .ret⟩
def MA:IF:=⟨[],1,5,[1],zr [.u false] (0::zn 4 [])<|
 .seq (zr [.p,.ln 0 [],.bi .sub 5 (.i 1),.p] [0,zo,6,zo,zo]<|
 .block 0<|.loop<|.seq (zr [.p,.bi .gtr 2 (.i 0)] [0,zo,2,5,zo]<|
 .cond 3 .skip (.exit 0))<|
 .seq (.block 1<|zr [.p,.p,.iy 0 2,.p,.p,.p,.bi .sub 2 (.i 1),.iy 0 6,.p,.ca 203 [5,7] 1] [0,zo,2,zo,8]<|
 .cond 4 (zr [.u false] [zo,5,zo,zo,zo]<|
 .ret) .skip)<|
 zt [.p,.bi .sub 2 (.i 1),.p] [0,zo,5,zo,zo])<|
 zr [.u true] [zo,5,zo,zo,zo]<|
 .ret⟩
def K7:IF:=⟨[],1,4,[0],zr [.p,.ln 0 [],.bi .sub 4 (.i 1),.cs .v (.n 0),.p] [0,6,5,zo]<|
 .block 0<|.loop<|.seq (zr [.p,.p,.bi .lss 1 2] [0,1,2,4]<|
 .cond 3 .skip (.exit 0))<|
 .seq (.block 1<|zt [.p,.p,.p,.p,.p,.p,.ix 0 [] 2,.p,.p,.p,.ix 0 [] 1,.p,.ix 0 [] 1,.up 0 [.e 1] 4,.ix 7 [] 2,.up 7 [.e 2] 5] [9,1,2,zo])<|
 zt [.p,.bi .add 1 (.i 1),.p,.bi .sub 2 (.i 1),.p,.p] [0,4,5,zo]⟩
def Hf:IF:=⟨[],2,3,[0],zr [.p,.ln 0 [],.p] [0,1,3]<|
 zt [.p,.p,.p,.cv .u64 2,.ca 376 [3] 1,.p,.ca 375 [0,.i 0,2,4,1] 1] [5,zo,zo]⟩
def Rz:IF:=⟨[],4,11,[0],zr [.p,.p] (0::1::2::3::1::zn 6 [])<|
 zr [.cs .v (.n 0)] (0::1::2::3::4::11::zn 5 [])<|
 zr [.p,.p,.bi .sub 2 1,.p] (0::zo::zo::3::4::5::11::zn 4 [])<|
 .seq (zr [.p,.bi .sub 6 (.i 1),.bi .quo 11 (.i 2),.p] [0,zo,zo,3,4,5,6,12,zo,zo,zo]<|
 .block 0<|.loop<|.seq (zr [.p,.bi .geq 7 (.i 0)] [0,zo,zo,3,4,5,6,7,zo,11,zo]<|
 .cond 9 .skip (.exit 0))<|
 .seq (.block 1<|zt [.p,.p,.p,.p,.p,.ca 392 [0,7,6,4,3] 1] [11,zo,zo,3,4,5,6,7,zo,zo,zo])<|
 zt [.p,.bi .sub 7 (.i 1),.p] [0,zo,zo,3,4,5,6,11,zo,zo,zo])<|
 zr [.p,.bi .sub 6 (.i 1),.p] [0,zo,zo,3,4,5,zo,zo,11,zo,zo]<|
 .block 2<|.loop<|.seq (zr [.p,.bi .geq 8 (.i 0)] [0,zo,zo,3,4,5,zo,zo,8,zo,11]<|
 .cond 10 .skip (.exit 2))<|
 .seq (.block 3<|zr [.p,.p,.p,.p,.p,.bi .add 4 8,.p,.p,.p,.bi .add 4 8,.ix 0 [] 12,.p,.p,.p,.ix 0 [] 4,.p,.ix 0 [] 4,.up 0 [.e 4] 13,.ix 16 [] 11,.up 16 [.e 11] 14] [18,zo,zo,3,4,5,zo,zo,8,zo,zo]<|
 zt [.p,.p,.p,.p,.p,.ca 392 [0,5,8,4,3] 1] [11,zo,zo,3,4,5,zo,zo,8,zo,zo])<|
 zt [.p,.bi .sub 8 (.i 1),.p] [0,zo,zo,3,4,5,zo,zo,11,zo,zo]⟩
def II:IF:=⟨[],4,8,[0],zr [.p,.bi .add 1 (.i 1),.p] [0,1,2,3,8,zo,zo,zo]<|
 .block 0<|.loop<|.seq (zr [.p,.p,.bi .lss 4 2] [0,1,2,3,4,zo,8,zo]<|
 .cond 6 .skip (.exit 0))<|
 .seq (.block 1<|zr [.p,.p] [0,1,2,3,4,4,zo,zo]<|
 .block 2<|.loop<|.seq (zq (zj [.p,.p,.bi .gtr 5 1,.p]<|zh [(8,true)] [.cy 3,.p,.cy 5,.ix 0 [] 10,.p,.p,.cy 5,.bi .sub 12 (.i 1),.ix 0 [] 13,.p,.cd 9 364 [11,14] 1,.bi .lss 15 (.i 0)]<|zj [.pk 8 16 .f] []) [0,1,2,3,4,5,zo,17]<|
 .cond 7 .skip (.exit 2))<|
 .seq (.block 3<|zt [.p,.p,.p,.p,.bi .sub 5 (.i 1),.p,.p,.bi .sub 5 (.i 1),.ix 0 [] 9,.p,.p,.p,.ix 0 [] 5,.p,.ix 0 [] 5,.up 0 [.e 5] 10,.ix 13 [] 8,.up 13 [.e 8] 11] [15,1,2,3,4,5,zo,zo])<|
 zt [.p,.bi .sub 5 (.i 1),.p] [0,1,2,3,4,8,zo,zo])<|
 zt [.p,.bi .add 4 (.i 1),.p] [0,1,2,3,8,zo,zo,zo]⟩
def Rk:IF:=⟨[],4,19,[4,0],zr [.u false] (0::1::2::3::zn 15 [])<|
 zr [.p,.bi .add 1 (.i 1),.p] (0::1::2::3::zo::19::zn 13 [])<|
 .seq (zr [.cs .v (.n 0)] (0::1::2::3::zo::5::19::zn 12 [])<|
 .block 0<|.loop<|.seq (zr [.p,.bi .lss 6 (.i 5)] (0::1::2::3::zo::5::6::zo::zo::19::zn 9 [])<|
 .cond 9 .skip (.exit 0))<|
 .seq (.block 1<|.seq (.block 2<|.loop<|.seq (zq (zj [.p,.p,.bi .lss 5 2,.p]<|zh [(19,true)] [.cy 3,.p,.cy 5,.ix 0 [] 21,.p,.p,.cy 5,.bi .sub 23 (.i 1),.ix 0 [] 24,.p,.cd 20 364 [22,25] 1,.bi .lss 26 (.i 0),.un .not 27]<|zj [.pk 19 28 .f] []) (0::1::2::3::zo::5::6::zo::zo::zo::29::zn 8 [])<|
 .cond 10 .skip (.exit 2))<|
 .block 3<|zt [.p,.bi .add 5 (.i 1),.p] (0::1::2::3::zo::19::6::zn 12 []))<|
 .seq (zr [.p,.p,.bi .eql 5 2] (0::1::2::3::zo::5::6::zn 4 (19::zn 7 []))<|
 .cond 11 (zr [.u true] (0::zo::zo::zo::19::zn 14 [])<|
 .ret) .skip)<|
 .seq (zr [.p,.p,.bi .sub 2 1,.bi .lss 19 (.i 50)] (0::1::2::3::zo::5::6::zn 5 (20::zn 6 []))<|
 .cond 12 (zr [.u false] (0::zo::zo::zo::19::zn 14 [])<|
 .ret) .skip)<|
 zr [.p,.p,.p,.p,.bi .sub 5 (.i 1),.p,.p,.bi .sub 5 (.i 1),.ix 0 [] 20,.p,.p,.p,.ix 0 [] 5,.p,.ix 0 [] 5,.up 0 [.e 5] 21,.ix 24 [] 19,.up 24 [.e 19] 22] (26::1::2::3::zo::5::6::zn 12 [])<|
 .seq (zr [.p,.p,.bi .sub 5 1,.bi .geq 19 (.i 2)] (0::1::2::3::zo::5::6::zn 6 (20::zn 5 []))<|
 .cond 13 (zr [.p,.bi .sub 5 (.i 1),.p] (0::1::2::3::zo::5::6::19::zn 11 [])<|
 .block 4<|.loop<|.seq (zr [.p,.bi .geq 7 (.i 1)] (0::1::2::3::zo::5::6::7::zn 6 (19::zn 4 []))<|
 .cond 14 .skip (.exit 4))<|
 .seq (.block 5<|.seq (zr [.p,.p,.p,.ix 0 [] 7,.p,.p,.p,.bi .sub 7 (.i 1),.ix 0 [] 20,.p,.cd 3 364 [19,21] 1,.bi .lss 22 (.i 0),.un .not 23] (0::1::2::3::zo::5::6::7::zn 7 (24::zo::zo::zo::[]))<|
 .cond 15 (.exit 4) .skip)<|
 zt [.p,.p,.p,.p,.bi .sub 7 (.i 1),.p,.p,.bi .sub 7 (.i 1),.ix 0 [] 20,.p,.p,.p,.ix 0 [] 7,.p,.ix 0 [] 7,.up 0 [.e 7] 21,.ix 24 [] 19,.up 24 [.e 19] 22] (26::1::2::3::zo::5::6::7::zn 11 []))<|
 zt [.p,.bi .sub 7 (.i 1),.p] (0::1::2::3::zo::5::6::19::zn 11 [])) .skip)<|
 zr [.p,.p,.bi .sub 2 5,.bi .geq 19 (.i 2)] (0::1::2::3::zo::5::6::zn 9 (20::zo::zo::[]))<|
 .cond 16 (zr [.p,.bi .add 5 (.i 1),.p] (0::1::2::3::zo::5::6::zo::19::zn 10 [])<|
 .block 6<|.loop<|.seq (zr [.p,.p,.bi .lss 8 2] (0::1::2::3::zo::5::6::zo::8::zn 8 (19::zo::[]))<|
 .cond 17 .skip (.exit 6))<|
 .seq (.block 7<|.seq (zr [.p,.p,.p,.ix 0 [] 8,.p,.p,.p,.bi .sub 8 (.i 1),.ix 0 [] 20,.p,.cd 3 364 [19,21] 1,.bi .lss 22 (.i 0),.un .not 23] (0::1::2::3::zo::5::6::zo::8::zn 9 (24::[]))<|
 .cond 18 (.exit 6) .skip)<|
 zt [.p,.p,.p,.p,.bi .sub 8 (.i 1),.p,.p,.bi .sub 8 (.i 1),.ix 0 [] 20,.p,.p,.p,.ix 0 [] 8,.p,.ix 0 [] 8,.up 0 [.e 8] 21,.ix 24 [] 19,.up 24 [.e 19] 22] (26::1::2::3::zo::5::6::zo::8::zn 10 []))<|
 zt [.p,.bi .add 8 (.i 1),.p] (0::1::2::3::zo::5::6::zo::19::zn 10 [])) .skip)<|
 zt [.p,.bi .add 6 (.i 1),.p] (0::1::2::3::zo::5::19::zn 12 []))<|
 zr [.u false] (0::zo::zo::zo::19::zn 14 [])<|
 .ret⟩
def Q3:IF:=⟨[],5,15,[5,6,0],zr [.cs .v (.n 0),.u false] (0::1::2::3::4::zn 10 [])<|
 zr [.p,.p,.p,.p,.p,.p,.ix 0 [] 3,.p,.p,.p,.ix 0 [] 1,.p,.ix 0 [] 1,.up 0 [.e 1] 15,.ix 18 [] 3,.up 18 [.e 3] 16] (20::1::2::zo::4::zn 10 [])<|
 zr [.p,.bi .add 1 (.i 1),.p,.bi .sub 2 (.i 1),.p,.p] (0::1::zo::zo::4::zo::zo::15::16::zn 6 [])<|
 .seq (.block 0<|.loop<|.seq (zq (zj [.p,.p,.bi .leq 7 8,.p]<|zh [(15,true)] [.cy 4,.p,.cy 7,.ix 0 [] 17,.p,.p,.cy 1,.ix 0 [] 19,.p,.cd 16 364 [18,20] 1,.bi .lss 21 (.i 0)]<|zj [.pk 15 22 .f] []) (0::1::zo::zo::4::zo::zo::7::8::23::zn 5 [])<|
 .cond 9 .skip (.exit 0))<|
 .block 1<|zt [.p,.bi .add 7 (.i 1),.p] (0::1::zo::zo::4::zo::zo::15::8::zn 6 []))<|
 .seq (.block 2<|.loop<|.seq (zq (zj [.p,.p,.bi .leq 7 8,.p]<|zh [(15,true)] [.cy 4,.p,.cy 8,.ix 0 [] 17,.p,.p,.cy 1,.ix 0 [] 19,.p,.cd 16 364 [18,20] 1,.bi .lss 21 (.i 0),.un .not 22]<|zj [.pk 15 23 .f] []) (0::1::zo::zo::4::zo::zo::7::8::zo::24::zn 4 [])<|
 .cond 10 .skip (.exit 2))<|
 .block 3<|zt [.p,.bi .sub 8 (.i 1),.p] (0::1::zo::zo::4::zo::zo::7::15::zn 6 []))<|
 .seq (zr [.p,.p,.bi .gtr 7 8] [0,1,zo,zo,4,zo,zo,7,8,zo,zo,15,zo,zo,zo]<|
 .cond 11 (zr [.p,.p,.p,.p,.p,.p,.ix 0 [] 1,.p,.p,.p,.ix 0 [] 8,.p,.ix 0 [] 8,.up 0 [.e 8] 15,.ix 18 [] 1,.up 18 [.e 1] 16] (20::zn 7 (8::zn 6 []))<|
 zr [.p,.p,.u true] (0::zn 4 (8::15::zn 8 []))<|
 .ret) .skip)<|
 zr [.p,.p,.p,.p,.p,.p,.ix 0 [] 8,.p,.p,.p,.ix 0 [] 7,.p,.ix 0 [] 7,.up 0 [.e 7] 15,.ix 18 [] 8,.up 18 [.e 8] 16] (20::1::zo::zo::4::zo::zo::7::8::zn 6 [])<|
 zr [.p,.bi .add 7 (.i 1),.p] (0::1::zo::zo::4::zo::zo::15::8::zn 6 [])<|
 zr [.p,.bi .sub 8 (.i 1),.p] (0::1::zo::zo::4::zo::zo::7::15::zn 6 [])<|
 .seq (.block 4<|.loop<|.block 5<|.seq (.block 6<|.loop<|.seq (zq (zj [.p,.p,.bi .leq 7 8,.p]<|zh [(15,true)] [.cy 4,.p,.cy 7,.ix 0 [] 17,.p,.p,.cy 1,.ix 0 [] 19,.p,.cd 16 364 [18,20] 1,.bi .lss 21 (.i 0)]<|zj [.pk 15 22 .f] []) [0,1,zo,zo,4,zo,zo,7,8,zo,zo,zo,23,zo,zo]<|
 .cond 12 .skip (.exit 6))<|
 .block 7<|zt [.p,.bi .add 7 (.i 1),.p] (0::1::zo::zo::4::zo::zo::15::8::zn 6 []))<|
 .seq (.block 8<|.loop<|.seq (zq (zj [.p,.p,.bi .leq 7 8,.p]<|zh [(15,true)] [.cy 4,.p,.cy 8,.ix 0 [] 17,.p,.p,.cy 1,.ix 0 [] 19,.p,.cd 16 364 [18,20] 1,.bi .lss 21 (.i 0),.un .not 22]<|zj [.pk 15 23 .f] []) (0::1::zo::zo::4::zo::zo::7::8::zn 4 (24::zo::[]))<|
 .cond 13 .skip (.exit 8))<|
 .block 9<|zt [.p,.bi .sub 8 (.i 1),.p] (0::1::zo::zo::4::zo::zo::7::15::zn 6 []))<|
 .seq (zr [.p,.p,.bi .gtr 7 8] (0::1::zo::zo::4::zo::zo::7::8::zn 5 (15::[]))<|
 .cond 14 (.exit 4) .skip)<|
 zr [.p,.p,.p,.p,.p,.p,.ix 0 [] 8,.p,.p,.p,.ix 0 [] 7,.p,.ix 0 [] 7,.up 0 [.e 7] 15,.ix 18 [] 8,.up 18 [.e 8] 16] (20::1::zo::zo::4::zo::zo::7::8::zn 6 [])<|
 zr [.p,.bi .add 7 (.i 1),.p] (0::1::zo::zo::4::zo::zo::15::8::zn 6 [])<|
 zt [.p,.bi .sub 8 (.i 1),.p] (0::1::zo::zo::4::zo::zo::7::15::zn 6 []))<|
 zr [.p,.p,.p,.p,.p,.p,.ix 0 [] 1,.p,.p,.p,.ix 0 [] 8,.p,.ix 0 [] 8,.up 0 [.e 8] 15,.ix 18 [] 1,.up 18 [.e 1] 16] (20::zn 7 (8::zn 6 []))<|
 zr [.p,.p,.u false] (0::zn 4 (8::15::zn 8 []))<|
 .ret⟩
def RU:IF:=⟨[],5,11,[5,0],zr [.cs .v (.n 0)] (0::1::2::3::4::zn 6 [])<|
 zr [.p,.p,.p,.p,.p,.p,.ix 0 [] 3,.p,.p,.p,.ix 0 [] 1,.p,.ix 0 [] 1,.up 0 [.e 1] 11,.ix 14 [] 3,.up 14 [.e 3] 12] (16::1::2::zo::4::zn 6 [])<|
 zr [.p,.bi .add 1 (.i 1),.p,.bi .sub 2 (.i 1),.p,.p] [0,1,zo,zo,4,zo,11,12,zo,zo,zo]<|
 .seq (.block 0<|.loop<|.block 1<|.seq (.block 2<|.loop<|.seq (zq (zj [.p,.p,.bi .leq 6 7,.p]<|zh [(11,true)] [.cy 4,.p,.cy 1,.ix 0 [] 13,.p,.p,.cy 6,.ix 0 [] 15,.p,.cd 12 364 [14,16] 1,.bi .lss 17 (.i 0),.un .not 18]<|zj [.pk 11 19 .f] []) [0,1,zo,zo,4,zo,6,7,20,zo,zo]<|
 .cond 8 .skip (.exit 2))<|
 .block 3<|zt [.p,.bi .add 6 (.i 1),.p] [0,1,zo,zo,4,zo,11,7,zo,zo,zo])<|
 .seq (.block 4<|.loop<|.seq (zq (zj [.p,.p,.bi .leq 6 7,.p]<|zh [(11,true)] [.cy 4,.p,.cy 1,.ix 0 [] 13,.p,.p,.cy 7,.ix 0 [] 15,.p,.cd 12 364 [14,16] 1,.bi .lss 17 (.i 0)]<|zj [.pk 11 18 .f] []) [0,1,zo,zo,4,zo,6,7,zo,19,zo]<|
 .cond 9 .skip (.exit 4))<|
 .block 5<|zt [.p,.bi .sub 7 (.i 1),.p] [0,1,zo,zo,4,zo,6,11,zo,zo,zo])<|
 .seq (zr [.p,.p,.bi .gtr 6 7] [0,1,zo,zo,4,zo,6,7,zo,zo,11]<|
 .cond 10 (.exit 0) .skip)<|
 zr [.p,.p,.p,.p,.p,.p,.ix 0 [] 7,.p,.p,.p,.ix 0 [] 6,.p,.ix 0 [] 6,.up 0 [.e 6] 11,.ix 14 [] 7,.up 14 [.e 7] 12] [16,1,zo,zo,4,zo,6,7,zo,zo,zo]<|
 zr [.p,.bi .add 6 (.i 1),.p] [0,1,zo,zo,4,zo,11,7,zo,zo,zo]<|
 zt [.p,.bi .sub 7 (.i 1),.p] [0,1,zo,zo,4,zo,6,11,zo,zo,zo])<|
 zr [.p,.p] (0::zn 4 (6::zn 5 []))<|
 .ret⟩
def Ia:IF:=⟨[],5,24,[0],zr [.u true] (0::1::2::3::4::24::zn 18 [])<|
 zr [.u true] (0::1::2::3::4::5::24::zn 17 [])<|
 .block 0<|.loop<|.block 1<|zr [.p,.p,.bi .sub 2 1,.p] (0::1::2::3::4::5::6::24::zn 16 [])<|
 .seq (zr [.p,.bi .leq 7 (.i 12)] (0::1::2::3::4::5::6::7::zn 8 (24::zn 7 []))<|
 .cond 16 (zr [.p,.p,.p,.p,.ca 382 [0,1,2,4] 1] (24::zn 23 [])<|
 .ret) .skip)<|
 .seq (zr [.p,.bi .eql 3 (.i 0)] (0::1::2::3::4::5::6::7::zn 9 (24::zn 6 []))<|
 .cond 17 (zr [.p,.p,.p,.p,.ca 383 [0,1,2,4] 1] (24::zn 23 [])<|
 .ret) .skip)<|
 .seq (zr [.p,.un .not 5] (0::1::2::3::4::5::6::7::zn 10 (24::zn 5 []))<|
 .cond 18 (zr [.p,.p,.p,.p,.ca 384 [0,1,2,4] 1] (24::1::2::3::4::5::6::7::zn 16 [])<|
 zt [.p,.bi .sub 3 (.i 1),.p] (0::1::2::24::4::5::6::7::zn 16 [])) .skip)<|
 zr [.p,.p,.p,.p,.ca 385 [0,1,2,4] 2,.p,.p,.p,.p,.p] (0::1::2::3::4::5::6::7::24::25::zn 14 [])<|
 .seq (zr [.p,.bi .eql 9 (.i 2)] (0::1::2::3::4::5::6::7::8::9::zn 9 (24::zn 4 []))<|
 .cond 19 (zr [.p,.p,.p,.p,.ca 386 [0,1,2,4] 1] (24::1::2::3::4::5::6::7::8::zn 15 [])<|
 zr [.p,.bi .sub 2 (.i 1),.p,.p,.bi .sub 8 1,.bi .sub 24 25,.p] (0::1::2::3::4::5::6::7::26::zn 15 [])<|
 zt [.cs .v (.n 1)] (0::1::2::3::4::5::6::7::8::24::zn 14 [])) .skip)<|
 .seq (zq (zj [.p,.p]<|zh [(5,true)] [.cy 6]<|zj [.pk 5 24 .f,.p]<|zh [(25,true)] [.cy 9,.bi .eql 26 (.i 1)]<|zj [.pk 25 27 .f] []) (0::1::2::3::4::5::6::7::8::zn 11 (28::zo::zo::zo::[]))<|
 .cond 20 (zr [.p,.p,.p,.p,.ca 387 [0,1,2,4] 2] (25::1::2::3::4::5::6::7::8::zn 12 (24::zo::zo::[]))<|
 .cond 21 .ret .skip) .skip)<|
 .seq (zq (zj [.p,.bi .gtr 1 (.i 0),.p]<|zh [(24,true)] [.cy 4,.p,.cy 1,.bi .sub 26 (.i 1),.ix 0 [] 27,.p,.p,.cy 8,.ix 0 [] 29,.p,.cd 25 364 [28,30] 1,.bi .lss 31 (.i 0),.un .not 32]<|zj [.pk 24 33 .f] []) (0::1::2::3::4::5::6::7::8::zn 13 (34::zo::[]))<|
 .cond 22 (zr [.p,.p,.p,.p,.p,.ca 388 [0,1,2,8,4] 2,.p] (25::zo::2::3::4::5::6::zo::zo::zo::24::zn 13 [])<|
 zr [.p,.p] (0::10::2::3::4::5::6::zn 17 [])<|
 .exit 1) .skip)<|
 zr [.p,.p,.p,.p,.p,.ca 389 [0,1,2,8,4] 3,.p,.p,.p,.p,.p] (26::1::2::3::4::zo::zo::7::zo::zo::zo::24::25::zn 11 [])<|
 zr [.p,.p] (0::1::2::3::4::zo::12::7::zo::zo::zo::11::zn 12 [])<|
 zr [.p,.p,.bi .sub 11 1,.p,.p,.bi .sub 2 11,.p,.p] (0::1::2::3::4::zo::6::7::zo::zo::zo::11::zo::24::25::zn 9 [])<|
 zr [.p,.bi .quo 7 (.i 8),.p] (0::1::2::3::4::zo::6::zn 4 (11::zo::13::14::24::zn 8 []))<|
 zr [.p,.p,.bi .lss 13 14] (0::1::2::3::4::zo::6::zn 4 (11::zo::13::14::15::zn 7 (24::[])))<|
 .cond 23 (zr [.p,.p,.bi .geq 13 15,.p] (0::1::2::3::4::24::6::zn 4 (11::zn 12 []))<|
 zr [.p,.p,.p,.p,.p,.ca 375 [0,1,11,3,4] 1] (24::zo::2::3::4::5::6::zn 4 (11::zn 12 []))<|
 zt [.p,.bi .add 11 (.i 1),.p] (0::24::2::3::4::5::6::zn 17 [])) (zr [.p,.p,.bi .geq 14 15,.p] (0::1::2::3::4::24::6::zn 4 (11::zn 12 []))<|
 zr [.p,.p,.bi .add 11 (.i 1),.p,.p,.p,.ca 375 [0,24,2,3,4] 1] (25::1::zo::3::4::5::6::zn 4 (11::zn 12 []))<|
 zt [.p,.p] (0::1::11::3::4::5::6::zn 17 []))⟩
def Qq:IF:=⟨[],4,7,[0],zr [.p,.p] [0,zo,2,zo,1,zo,zo]<|
 zr [.p,.bi .sub 2 (.i 1),.p] [0,zo,zo,zo,4,7,zo]<|
 .block 0<|.loop<|.seq (zr [.p,.p,.bi .lss 4 5] [0,zo,zo,zo,4,5,7]<|
 .cond 6 .skip (.exit 0))<|
 .block 1<|zr [.p,.p,.p,.p,.p,.p,.ix 0 [] 5,.p,.p,.p,.ix 0 [] 4,.p,.ix 0 [] 4,.up 0 [.e 4] 7,.ix 10 [] 5,.up 10 [.e 5] 8] [12,zo,zo,zo,4,5,zo]<|
 zr [.p,.bi .add 4 (.i 1),.p] [0,zo,zo,zo,7,5,zo]<|
 zt [.p,.bi .sub 5 (.i 1),.p] [0,zo,zo,zo,4,7,zo]⟩
def Ra:IF:=⟨[],5,10,[0],zr [.p,.p] (0::zo::2::3::4::1::zn 4 [])<|
 .block 0<|.loop<|.block 1<|zr [.p,.bi .mul (.i 2) 5,.bi .add 10 (.i 1),.p] [0,zo,2,3,4,5,11,zo,zo,zo]<|
 .seq (zr [.p,.p,.bi .geq 6 2] [0,zo,2,3,4,5,6,10,zo,zo]<|
 .cond 7 (.exit 0) .skip)<|
 .seq (zq (zj [.p,.bi .add 6 (.i 1),.p,.bi .lss 10 2,.p]<|zh [(11,true)] [.cy 4,.p,.cy 3,.cy 6,.bi .add 13 14,.ix 0 [] 15,.p,.p,.cy 3,.cy 6,.bi .add 17 18,.bi .add 19 (.i 1),.ix 0 [] 20,.p,.cd 12 364 [16,21] 1,.bi .lss 22 (.i 0)]<|zj [.pk 11 23 .f] []) [0,zo,2,3,4,5,6,zo,24,zo]<|
 .cond 8 (zt [.p,.bi .add 6 (.i 1),.p] [0,zo,2,3,4,5,10,zo,zo,zo]) .skip)<|
 .seq (zr [.p,.p,.p,.p,.bi .add 3 5,.ix 0 [] 10,.p,.p,.p,.p,.bi .add 3 6,.ix 0 [] 12,.p,.cd 4 364 [11,13] 1,.bi .lss 14 (.i 0),.un .not 15] [0,zo,2,3,4,5,6,zo,zo,16]<|
 .cond 9 .ret .skip)<|
 zr [.p,.p,.p,.bi .add 3 5,.p,.p,.p,.bi .add 3 6,.p,.p,.p,.bi .add 3 6,.ix 0 [] 12,.p,.p,.p,.p,.bi .add 3 5,.ix 0 [] 14,.p,.ix 0 [] 10,.up 0 [.e 10] 13,.ix 17 [] 11,.up 17 [.e 11] 15] [19,zo,2,3,4,zo,6,zo,zo,zo]<|
 zt [.p,.p] (0::zo::2::3::4::6::zn 4 [])⟩
end Go.Cat
namespace Go.Cat
end Go.Cat
namespace Go.Cat
def OK:IF:=⟨[],1,4,[1],zr [.cs (.o .v) (.l [])] [0,zo,zo,zo]<|
 zr [.li (.o .v) [],.cs (.b (.o .v)) (.g [.l []]),.up 5 [.k 0] 4] [0,zo,6,zo]<|
 zr [.cs (.b .v) (.g [.u])] [0,zo,2,4]<|
 zr [.p,.cb 3,.p,.p,.p,.ca 326 [.c (.s []),0,0,2,4] 1] [zo,zo,5,zo]<|
 zr [.tk 2,.p] [zo,4,zo,zo]<|
 .ret⟩
def Oy:IF:=⟨[],5,8,[3],.seq (zq (zj [.p,.bi .eql 1 (.i 0),.p]<|zh [(8,true)] [.cy 2,.bi .eql 9 (.i 0)]<|zj [.pk 8 10 .f] []) [0,1,2,3,4,11,zo,zo]<|
 .cond 5 (zr [.tk 3,.p,.li (.o .v) [0],.ap false 8 10,.up 9 [.k 0] 11] (zo::zo::zo::12::zn 4 [])<|
 .ret) .skip)<|
 .seq (zr [.p,.bi .gtr 1 (.i 0)] [0,1,2,3,4,zo,8,zo]<|
 .cond 6 (zt [.p,.p,.bi .add 0 (.c (.s [117])),.p,.bi .sub 1 (.i 1),.p,.ca 326 [8,9,2,3,4] 1] [0,1,2,10,4,zo,zo,zo]) .skip)<|
 zr [.p,.p,.bi .gtr 2 1] [0,1,2,3,4,zo,zo,8]<|
 .cond 7 (zt [.p,.p,.bi .add 0 (.c (.s [100])),.p,.p,.bi .sub 2 (.i 1),.ca 326 [8,1,9,3,4] 1] (zo::zo::zo::10::zn 4 [])) .skip⟩
end Go.Cat
namespace Go.Cat
def Ny:IF:=⟨[],1,3,[1],zr [.cs (.o .v) (.l [])] [0,zo,zo]<|
 .seq (zr [.p,.ca 22 [0,.i 0,.i 6] 1,.un .not 3] [0,zo,4]<|
 .cond 2 (zr [.li (.o .v) [],.p] [zo,3,zo]<|
 .ret) .skip)<|
 zr [.p,.p,.ca 292 [.c (.s []),0,0] 1,.p] [zo,3,zo]<|
 .ret⟩
def OW:IF:=⟨[],3,8,[3],zr [.cs (.o .v) (.l [])] (0::1::2::zn 5 [])<|
 .seq (zr [.p,.bi .eql 2 (.i 0)] [0,1,2,zo,zo,8,zo,zo]<|
 .cond 5 (zr [.p,.li (.o .v) [0],.p] (zo::zo::zo::8::zn 4 [])<|
 .ret) .skip)<|
 zr [.li (.o .v) [],.p] [0,1,2,zo,8,zo,zo,zo]<|
 .seq (zr [.p,.bi .gtr 1 (.i 0)] [0,1,2,zo,4,zo,8,zo]<|
 .cond 6 (zt [.p,.p,.bi .add 0 (.c (.s [117])),.p,.bi .sub 1 (.i 1),.p,.ca 292 [8,9,2] 1,.ap false 4 10,.p] [0,1,2,zo,11,zo,zo,zo]) .skip)<|
 .seq (zr [.p,.p,.bi .gtr 2 1] [0,1,2,zo,4,zo,zo,8]<|
 .cond 7 (zt [.p,.p,.bi .add 0 (.c (.s [100])),.p,.p,.bi .sub 2 (.i 1),.ca 292 [8,1,9] 1,.ap false 4 10,.p] (zn 4 (11::zo::zo::zo::[]))) .skip)<|
 zr [.p,.p] (zo::zo::zo::4::zn 4 [])<|
 .ret⟩
end Go.Cat
namespace Go.Cat
def LR:IF:=⟨[],2,3,[2],zr [.u false] [0,1,zo]<|
 zr [.p,.p,.ca 648 [0,1] 1,.bi .eql 3 (.i 1),.p] [zo,zo,4]<|
 .ret⟩
def Nq:IF:=⟨[],2,4,[2],zr [.cs .v (.n 0)] [0,1,zo,zo]<|
 .seq (zq (zj [.p,.ca 358 [0] 1,.un .not 4,.p]<|zh [(5,false)] [.p,.ca 358 [1] 1,.un .not 6]<|zj [.pk 5 .t 7,.p]<|zh [(8,false)] [.p,.ln 0 [],.p,.ln 1 [],.bi .neq 9 10]<|zj [.pk 8 .t 11] []) [0,1,zo,12]<|
 .cond 3 (zr [.cs .v (.n (-1))] [zo,zo,4,zo]<|
 .ret) .skip)<|
 zr [.p,.p,.ca 360 [0,1] 1,.p] [zo,zo,4,zo]<|
 .ret⟩
def Mc:IF:=⟨[],1,10,[1,2],zr [.cs (.o .v) (.l []),.u false] (0::zn 9 [])<|
 .seq (zq (zj [.p,.ca 358 [0] 1,.un .not 10,.p]<|zh [(11,false)] [.p,.ln 0 [],.ca 23 [12,.i 2,.i 12] 1,.un .not 13]<|zj [.pk 11 .t 14] []) (0::zo::zo::zo::15::zn 5 [])<|
 .cond 4 (zr [.li (.o .v) [],.p,.u false] (zo::10::11::zn 7 [])<|
 .ret) .skip)<|
 .seq (zr [.p,.ln 0 [],.bi .quo 10 (.i 2),.ca 359 [11] 1,.ln 12 [],.cs .v (.n 0)] (0::zn 4 (12::13::14::zo::zo::[]))<|
 .block 0<|.loop<|zr [.bi .lss 7 6] (0::zn 4 (5::6::7::10::zo::[]))<|
 .seq (.cond 8 .skip (.exit 0))<|
 .seq (.block 1<|zr [.ix 5 [] 7,.p,.sp 5 [.e 7] 1,.p] [0,zo,zo,11,zo,12,6,7,zo,zo]<|
 zr [.p,.p,.ca 360 [0,3] 1,.bi .eql 10 (.i 1)] [0,zo,zo,3,zo,5,6,7,zo,11]<|
 .cond 9 (zr [.p,.p,.u true] (zo::3::10::zn 7 [])<|
 .ret) .skip)<|
 zt [.bi .add 7 (.i 1),.p] (0::zn 4 (5::6::10::zo::zo::[])))<|
 zr [.li (.o .v) [],.p,.u false] (zo::10::11::zn 7 [])<|
 .ret⟩
def Lr:IF:=⟨[],1,8,[1],zr [.cs (.o (.o .v)) (.l [])] (0::zn 7 [])<|
 zr [.li (.o (.o .v)) [],.p] (0::zo::8::zn 5 [])<|
 .seq (zr [.p,.ca 314 [0] 1,.ln 8 [],.cs .v (.n 0)] [zo,zo,2,zo,8,9,10,zo]<|
 .block 0<|.loop<|zr [.bi .lss 6 5] [zo,zo,2,zo,4,5,6,8]<|
 .seq (.cond 7 .skip (.exit 0))<|
 .seq (.block 1<|zr [.ix 4 [] 6,.p,.p] [zo,zo,2,8,4,5,6,zo]<|
 zt [.p,.p,.ca 373 [3] 1,.li (.o (.o .v)) [8],.ap false 2 9,.p] [zo,zo,10,zo,4,5,6,zo])<|
 zt [.bi .add 6 (.i 1),.p] [zo,zo,2,zo,4,5,8,zo])<|
 zr [.p,.p] (zo::2::zn 6 [])<|
 .ret⟩
end Go.Cat
namespace Go.Cat
def Ky:IF:=⟨[],2,12,[2],zr [.cs .v (.n 0)] (0::1::zn 10 [])<|
 zr [.p,.ln 0 [],.mk (.b false) 12 12,.p] (0::1::zo::13::zn 8 [])<|
 zr [.cs .v (.n 0)] (0::1::zo::3::12::zn 7 [])<|
 .seq (zr [.p,.ln 0 [],.cs .v (.n 0)] [0,1,zo,3,4,zo,zo,12,13,zo,zo,zo]<|
 .block 0<|.loop<|zr [.bi .lss 8 7] [0,1,zo,3,4,zo,zo,7,8,12,zo,zo]<|
 .seq (.cond 9 .skip (.exit 0))<|
 .seq (.block 1<|zr [.p,.p] [0,1,zo,3,4,8,zo,7,8,zo,zo,zo]<|
 .seq (zr [.p,.p,.ix 3 [] 5,.p] [0,1,zo,3,4,5,zo,7,8,zo,12,zo]<|
 .cond 10 (.exit 1) .skip)<|
 zr [.p,.bi .add 4 (.i 1),.p] [0,1,zo,3,12,5,zo,7,8,zo,zo,zo]<|
 zr [.p,.p] [0,1,zo,3,4,zo,5,7,8,zo,zo,zo]<|
 .block 2<|.loop<|.seq (zr [.p,.p,.ix 3 [] 6,.p,.un .not 12] [0,1,zo,3,4,zo,6,7,8,zo,zo,13]<|
 .cond 11 .skip (.exit 2))<|
 .seq (.block 3<|zr [.p,.p,.ix 3 [] 6,.up 3 [.e 6] .t] [0,1,zo,13,4,zo,6,7,8,zo,zo,zo]<|
 zt [.p,.p,.p,.iy 0 6,.p,.ix 3 [] 12,.up 3 [.e 12] .t] [0,1,zo,14,4,zo,6,7,8,zo,zo,zo])<|
 zt [.p,.p,.p,.iy 0 6,.p,.iy 1 12,.p,.p] [0,1,zo,3,4,zo,13,7,8,zo,zo,zo])<|
 zt [.bi .add 8 (.i 1),.p] [0,1,zo,3,4,zo,zo,7,12,zo,zo,zo])<|
 zr [.p,.p] (zo::zo::4::zn 9 [])<|
 .ret⟩
end Go.Cat
namespace Go.Cat
def IM:IF:=⟨[],2,3,[2],zr [.u false] [0,1,zo]<|
 zr [.p,.p,.ca 371 [0,1] 1,.bi .eql 3 (.i 1),.p] [zo,zo,4]<|
 .ret⟩
def IC:IF:=⟨[],2,11,[2],zr [.cs .v (.n 0)] (0::1::zn 9 [])<|
 .seq (zq (zj [.p,.ca 355 [0] 1,.un .not 11,.p]<|zh [(12,false)] [.p,.ca 355 [1] 1,.un .not 13]<|zj [.pk 12 .t 14,.p]<|zh [(15,false)] [.p,.ln 0 [],.p,.ln 1 [],.bi .neq 16 17]<|zj [.pk 15 .t 18] []) (0::1::zn 5 (19::zo::zo::zo::[]))<|
 .cond 7 (zr [.cs .v (.n (-1))] (zo::zo::11::zn 8 [])<|
 .ret) .skip)<|
 zr [.p,.ln 0 [],.mk (.b false) 11 11,.p] (0::1::zo::12::zn 7 [])<|
 zr [.cs .v (.n 0)] (0::1::zo::3::11::zn 6 [])<|
 .seq (zr [.cs .v (.n 0)] (0::1::zo::3::4::11::zn 5 [])<|
 .block 0<|.loop<|.seq (zr [.p,.p,.ln 0 [],.bi .lss 5 11] [0,1,zo,3,4,5,zo,zo,12,zo,zo]<|
 .cond 8 .skip (.exit 0))<|
 .seq (.block 1<|.seq (zr [.p,.p,.ix 3 [] 5,.p] [0,1,zo,3,4,5,zo,zo,zo,11,zo]<|
 .cond 9 (.exit 1) .skip)<|
 zr [.p,.bi .add 4 (.i 1),.p] (0::1::zo::3::11::5::zn 5 [])<|
 zr [.p,.p] (0::1::zo::3::4::5::5::zn 4 [])<|
 .block 2<|.loop<|.seq (zr [.p,.p,.ix 3 [] 6,.p,.un .not 11] [0,1,zo,3,4,5,6,zo,zo,zo,12]<|
 .cond 10 .skip (.exit 2))<|
 .seq (.block 3<|zr [.p,.p,.ix 3 [] 6,.up 3 [.e 6] .t] (0::1::zo::12::4::5::6::zn 4 [])<|
 zt [.p,.p,.p,.iy 0 6,.p,.ix 3 [] 11,.up 3 [.e 11] .t] (0::1::zo::13::4::5::6::zn 4 []))<|
 zt [.p,.p,.p,.iy 0 6,.p,.iy 1 11,.p,.p] (0::1::zo::3::4::5::12::zn 4 []))<|
 zt [.p,.bi .add 5 (.i 1),.p] (0::1::zo::3::4::11::zn 5 []))<|
 zr [.p,.p] (zo::zo::4::zn 8 [])<|
 .ret⟩
def Ik:IF:=⟨[],1,10,[1,2],zr [.cs (.o .v) (.l []),.u false] (0::zn 9 [])<|
 zr [.p,.ln 0 [],.bi .quo 10 (.i 2),.p] (0::zo::zo::11::zn 6 [])<|
 .seq (zq (zj [.p,.ca 355 [0] 1,.un .not 10,.p]<|zh [(11,false)] [.cy 3,.ca 22 [12,.i 1,.i 6] 1,.un .not 13]<|zj [.pk 11 .t 14] []) [0,zo,zo,3,zo,zo,zo,15,zo,zo]<|
 .cond 7 (zr [.li (.o .v) [],.p,.u false] (zo::10::11::zn 7 [])<|
 .ret) .skip)<|
 zr [.p,.ca 234 [3] 1,.p] (0::zo::zo::zo::10::zn 5 [])<|
 .seq (zr [.cs .v (.n 0)] (0::zo::zo::zo::4::10::zn 4 [])<|
 .block 0<|.loop<|.seq (zr [.p,.p,.ln 4 [],.bi .lss 5 10] [0,zo,zo,zo,4,5,zo,zo,11,zo]<|
 .cond 8 .skip (.exit 0))<|
 .seq (.block 1<|zr [.p,.p,.ix 4 [] 5,.p,.ca 356 [10] 2,.p,.p,.p,.p,.p] [0,zo,zo,zo,4,5,11,zo,zo,zo]<|
 zr [.p,.p,.ca 357 [0,6] 1] [0,zo,zo,zo,4,5,6,zo,zo,10]<|
 .cond 9 (zr [.p,.p,.u true] (zo::6::10::zn 7 [])<|
 .ret) .skip)<|
 zt [.p,.bi .add 5 (.i 1),.p] (0::zo::zo::zo::4::10::zn 4 []))<|
 zr [.li (.o .v) [],.p,.u false] (zo::10::11::zn 7 [])<|
 .ret⟩
end Go.Cat
namespace Go.Cat
def CN:IF:=⟨[],1,19,[2],zr [.bp 0,.u false] (zo::19::zn 17 [])<|
 .seq (zr [.fp true 1 0,.p] (zo::1::zn 6 (19::zn 10 []))<|
 .block 0<|zr [.bi .eql 8 (.i 1),.p] (zo::1::zn 6 (8::19::zn 9 []))<|
 .cond 9 (.seq (zr [.gp 1 7,.ca 637 [19] 1,.un .not 20] (zo::1::zn 8 (21::zn 8 []))<|
 .cond 10 (zr [.u false] (zo::zo::19::zn 16 [])<|
 .ret) .skip)<|
 .seq (zr [.cs .v (.n 1)] (zo::1::zo::19::zn 15 [])<|
 .block 1<|.loop<|.seq (zr [.p,.fp false 1 3,.p,.ln 19 [],.bi .lss 3 20] (zo::1::zo::3::zn 7 (21::zn 7 []))<|
 .cond 11 .skip (.exit 1))<|
 .seq (.block 2<|zr [.fp false 1 3,.p,.p,.bi .sub 3 (.i 1),.iy 19 20,.p,.fp false 1 3,.p,.p,.iy 22 3,.p,.ca 350 [21,23] 1,.un .not 24] (zo::1::zo::3::zn 8 (25::zn 6 []))<|
 .cond 12 (zr [.u false] (zo::zo::19::zn 16 [])<|
 .ret) .skip)<|
 zt [.p,.bi .add 3 (.i 1),.p] (zo::1::zo::19::zn 15 []))<|
 zr [.u true] (zo::zo::19::zn 16 [])<|
 .ret) (zr [.bi .eql 8 (.i 2),.p] (zo::1::zn 6 (8::zn 4 (19::zn 5 [])))<|
 .cond 13 (zq (zj [.gp 1 7,.ca 637 [19] 1,.p]<|zh [(20,true)] [.fp false 1 3,.p,.ln 21 [],.bi .sub 22 (.i 1),.fp true 1 1,.p,.fp true 1 2,.p,.ca 617 [24,25] 1,.bi .eql 23 26]<|zj [.pk 20 27 .f,.p] []) (zo::zo::28::zn 16 [])<|
 .ret) (zr [.bi .eql 8 (.i 3),.p] (zo::1::zn 6 (8::zn 5 (19::zn 4 [])))<|
 .cond 14 (zr [.fp true 1 1,.p,.fp false 1 4,.p,.ca 110 [19,20] 2,.p,.p,.p,.p,.p] (zn 4 (21::22::zn 13 []))<|
 zq (zj [.p,.p]<|zh [(5,true)] [.cy 4,.ca 131 [19] 1]<|zj [.pk 5 20 .f,.p] []) (zo::zo::21::zn 16 [])<|
 .ret) (zr [.bi .eql 8 (.i 4),.p] (zo::1::zn 6 (8::zn 6 (19::zo::zo::zo::[])))<|
 .cond 15 (zr [.fp false 1 5,.p,.fp false 1 4,.p,.p,.p] (zn 6 (19::20::zn 11 []))<|
 .seq (zq (zj [.p,.ca 74 [7] 1,.un .not 19,.p]<|zh [(20,false)] [.p,.ln 6 [],.bi .neq 21 (.i 3)]<|zj [.pk 20 .t 22,.p]<|zh [(23,false)] [.p,.iy 6 (.i 0),.p,.bi .lss 24 (.i 0)]<|zj [.pk 23 .t 25,.p]<|zh [(26,false)] [.p,.iy 6 (.i 0),.p,.p,.iy 6 (.i 1),.p,.bi .geq 27 28]<|zj [.pk 26 .t 29,.p]<|zh [(30,false)] [.p,.iy 6 (.i 1),.p,.p,.iy 6 (.i 2),.p,.bi .geq 31 32]<|zj [.pk 30 .t 33,.p]<|zh [(34,false)] [.p,.iy 6 (.i 2),.p,.p,.ln 7 [],.bi .geq 35 36]<|zj [.pk 34 .t 37] []) (zn 6 (6::7::zn 8 (38::zo::zo::[])))<|
 .cond 16 (zr [.u false] (zo::zo::19::zn 16 [])<|
 .ret) .skip)<|
 zq (zj [.p,.p,.iy 6 (.i 2),.p,.iy 7 19,.p,.p,.p,.iy 6 (.i 0),.p,.iy 7 21,.p,.bi .lss 20 22,.p]<|zh [(23,true)] [.p,.p,.iy 6 (.i 0),.p,.iy 7 24,.p,.p,.p,.iy 6 (.i 1),.p,.iy 7 26,.p,.bi .lss 25 27]<|zj [.pk 23 28 .f,.p] []) (zo::zo::29::zn 16 [])<|
 .ret) (zr [.bi .eql 8 (.i 5),.p] (zo::1::zn 6 (8::zn 8 (19::zo::[])))<|
 .cond 17 (zq (zj [.fp false 1 4,.p,.ln 19 [],.bi .geq 20 (.i 3),.p]<|zh [(21,true)] [.fp false 1 4,.p,.ln 22 [],.fp false 1 6,.p,.ca 602 [23,24] 1]<|zj [.pk 21 25 .f,.p]<|zh [(26,true)] [.fp false 1 4,.p,.ln 27 [],.fp false 1 6,.p,.ca 638 [28,29] 1,.fp false 1 4,.p,.ca 72 [30,31] 1]<|zj [.pk 26 32 .f,.p] []) (zo::zo::33::zn 16 [])<|
 .ret) (zr [.bi .eql 8 (.i 6),.p] (zo::1::zn 16 (19::[]))<|
 .cond 18 (zr [.fp false 1 4,.p,.fp false 1 5,.p,.ca 639 [19,20] 1,.p] (zo::zo::21::zn 16 [])<|
 .ret) .skip))))))<|
 zr [.u false] (zo::zo::19::zn 16 [])<|
 .ret⟩
def I3:IF:=⟨[(0,7)],2,7,[2,3],zr [.cs (.b (.o .v)) (.g [.n 0,.s [],.s [],.l [],.l [],.l [],.l []]),.u false] (0::1::7::zn 4 [])<|
 zr [.p,.p,.ca 348 [0,1] 2,.p,.p,.p,.p,.p] [0,1,2,zo,7,8,zo]<|
 .seq (zr [.p,.un .not 5] [0,1,2,zo,4,zo,7]<|
 .cond 6 (zr [.bg 1 [(.c (.n 0),0),(.c (.s []),0),(.c (.s []),0),(.c (.l []),1),(.c (.l []),1),(.c (.l []),1),(.c (.l []),1)],.ws 2 7 7,.u false] [zo,zo,8,9,zo,zo,zo]<|
 .ret) .skip)<|
 zr [.p,.p,.p,.bg 1 [(.c (.n 2),0),(.e 0,0),(.e 1,0),(.e 4,1),(.c (.l []),1),(.c (.l []),1),(.c (.l []),1)],.ws 2 7 7,.u true] [zo,zo,8,9,zo,zo,zo]<|
 .ret⟩
def LM:IF:=⟨[(0,7)],1,6,[1,2],zr [.cs (.b (.o .v)) (.g [.n 0,.s [],.s [],.l [],.l [],.l [],.l []]),.u false] (0::6::zn 4 [])<|
 zr [.p,.ca 346 [0] 2,.p,.p,.p,.p,.p] [0,1,zo,6,7,zo]<|
 .seq (zr [.p,.un .not 4] [0,1,zo,3,zo,6]<|
 .cond 5 (zr [.bg 1 [(.c (.n 0),0),(.c (.s []),0),(.c (.s []),0),(.c (.l []),1),(.c (.l []),1),(.c (.l []),1),(.c (.l []),1)],.ws 1 7 6,.u false] [zo,7,8,zo,zo,zo]<|
 .ret) .skip)<|
 zr [.p,.ca 75 [0] 1,.p,.bg 1 [(.c (.n 5),0),(.c (.s []),0),(.c (.s []),0),(.c (.l []),1),(.e 6,1),(.c (.l []),1),(.e 3,1)],.ws 1 7 7,.u true] [zo,8,9,zo,zo,zo]<|
 .ret⟩
def MB:IF:=⟨[(0,7)],1,6,[1,2],zr [.cs (.b (.o .v)) (.g [.n 0,.s [],.s [],.l [],.l [],.l [],.l []]),.u false] (0::6::zn 4 [])<|
 zr [.p,.ca 344 [0] 2,.p,.p,.p,.p,.p] [0,1,zo,6,7,zo]<|
 .seq (zr [.p,.un .not 4] [0,1,zo,3,zo,6]<|
 .cond 5 (zr [.bg 1 [(.c (.n 0),0),(.c (.s []),0),(.c (.s []),0),(.c (.l []),1),(.c (.l []),1),(.c (.l []),1),(.c (.l []),1)],.ws 1 7 6,.u false] [zo,7,8,zo,zo,zo]<|
 .ret) .skip)<|
 zr [.p,.ca 75 [0] 1,.p,.bg 1 [(.c (.n 6),0),(.c (.s []),0),(.c (.s []),0),(.c (.l []),1),(.e 6,1),(.e 3,1),(.c (.l []),1)],.ws 1 7 7,.u true] [zo,8,9,zo,zo,zo]<|
 .ret⟩
def Iv:IF:=⟨[(0,7)],2,14,[2,3],zr [.cs (.b (.o .v)) (.g [.n 0,.s [],.s [],.l [],.l [],.l [],.l []]),.u false] (0::1::14::zn 11 [])<|
 .seq (zr [.p,.p,.ca 350 [0,1] 1,.un .not 14] (0::1::2::zn 4 (15::zn 6 []))<|
 .cond 7 (zr [.bg 1 [(.c (.n 0),0),(.c (.s []),0),(.c (.s []),0),(.c (.l []),1),(.c (.l []),1),(.c (.l []),1),(.c (.l []),1)],.ws 2 7 14,.u false] (zo::zo::15::16::zn 10 [])<|
 .ret) .skip)<|
 zr [.p,.p,.p,.li (.o .v) [0],.bg 1 [(.c (.n 1),0),(.e 0,0),(.e 1,0),(.e 14,1),(.c (.l []),1),(.c (.l []),1),(.c (.l []),1)],.cs (.b (.o .v)) (.g [.n 0,.s [],.s [],.l [],.l [],.l [],.l []]),.ws 16 7 15] (0::1::2::zo::17::zn 9 [])<|
 .seq (zr [.p,.p] (zo::1::2::zo::4::0::zn 8 [])<|
 .block 0<|.loop<|.seq (zr [.p,.p,.bi .neq 5 1] (zo::1::2::zo::4::5::zo::zo::14::zn 5 [])<|
 .cond 8 .skip (.exit 0))<|
 .block 1<|.seq (zr [.p,.ca 201 [5,.c (.f 200 [])] 1,.ln 14 [],.cs .v (.n 0)] [zo,1,2,zo,4,5,zo,zo,zo,14,15,16,zo,zo]<|
 .block 2<|.loop<|zr [.bi .lss 11 10] [zo,1,2,zo,4,5,zo,zo,zo,9,10,11,14,zo]<|
 .seq (.cond 12 .skip (.exit 2))<|
 .seq (.block 3<|zr [.ix 9 [] 11,.p,.p] [zo,1,2,zo,4,5,14,zo,zo,9,10,11,zo,zo]<|
 zr [.p,.p,.ca 350 [6,1] 1] [zo,1,2,zo,4,5,6,zo,zo,9,10,11,zo,14]<|
 .cond 13 (zr [.p,.p] (zo::1::2::zo::4::6::zn 8 [])<|
 .exit 2) .skip)<|
 zt [.bi .add 11 (.i 1),.p] [zo,1,2,zo,4,5,zo,zo,zo,9,10,14,zo,zo])<|
 zt [.gt 4 [.k 3],.p,.p,.li (.o .v) [5],.sp 4 [.k 3] 1,.ap false 16 15,.gt 17 [.k 3],.up 17 [.k 3] 18] (zo::1::2::zo::20::5::zn 8 []))<|
 zr [.wl 7 4,.ws 2 7 14,.u true] (zo::zo::15::16::zn 10 [])<|
 .ret⟩
def Ma:IF:=⟨[(0,7)],1,8,[1,2],zr [.cs (.b (.o .v)) (.g [.n 0,.s [],.s [],.l [],.l [],.l [],.l []]),.u false] (0::8::zn 6 [])<|
 .seq (zr [.p,.ca 74 [0] 1,.un .not 8] (0::1::zn 4 (9::zo::[]))<|
 .cond 6 (zr [.bg 1 [(.c (.n 0),0),(.c (.s []),0),(.c (.s []),0),(.c (.l []),1),(.c (.l []),1),(.c (.l []),1),(.c (.l []),1)],.ws 1 7 8,.u false] (zo::9::10::zn 5 [])<|
 .ret) .skip)<|
 .seq (zr [.p,.ca 157 [0] 2,.p,.p,.p,.p,.p] [0,1,zo,8,9,zo,zo,zo]<|
 zr [.p] [0,1,zo,3,zo,zo,zo,4]<|
 .cond 7 (zr [.p,.ca 75 [0] 1,.p,.bg 1 [(.c (.n 3),0),(.e 3,0),(.c (.s []),0),(.c (.l []),1),(.e 8,1),(.c (.l []),1),(.c (.l []),1)],.ws 1 7 9,.u true] (zo::10::11::zn 5 [])<|
 .ret) .skip)<|
 zr [.p,.ca 50 [0] 2,.p,.p,.p,.p,.p] [0,1,zo,zo,zo,8,zo,zo]<|
 zr [.p,.ca 75 [0] 1,.p,.bg 1 [(.c (.n 4),0),(.c (.s []),0),(.c (.s []),0),(.c (.l []),1),(.e 8,1),(.e 5,1),(.c (.l []),1)],.ws 1 7 9,.u true] (zo::10::11::zn 5 [])<|
 .ret⟩
def Kx:IF:=⟨[],1,3,[1],zr [.cs .v (.s [])] [0,zo,zo]<|
 .seq (zr [.p,.ca 23 [0,.i 1,.i 6] 1,.un .not 3] [0,zo,4]<|
 .cond 2 (zr [.cs .v (.s [])] [zo,3,zo]<|
 .ret) .skip)<|
 zr [.li (.o .v) [.c (.s [98,101,108,111,119]),.c (.s [100,105,115,116,97,110,99,101]),.c (.s [115,111,114,116,101,100]),.c (.s [117,110,115,111,114,116,101,100]),.c (.s [102,114,105,101,122,101]),.c (.s [109,101,97,110,100,101,114])],.p,.bi .sub 0 (.i 1),.ix 3 [] 4,.p,.p] [zo,5,zo]<|
 .ret⟩
def LJ:IF:=⟨[],2,5,[4],zr [.bp 0,.bp 1,.u false] [zo,zo,5,6,zo]<|
 zq (zj [.fp true 2 0,.p,.fp true 3 0,.p,.bi .eql 5 6,.p]<|zh [(7,true)] [.fp true 2 1,.p,.fp true 3 1,.p,.bi .eql 8 9]<|zj [.pk 7 10 .f,.p]<|zh [(11,true)] [.fp true 2 2,.p,.fp true 3 2,.p,.bi .eql 12 13]<|zj [.pk 11 14 .f,.p]<|zh [(15,true)] [.fp false 2 3,.p,.fp false 3 3,.p,.ca 153 [16,17] 1]<|zj [.pk 15 18 .f,.p]<|zh [(19,true)] [.fp false 2 4,.p,.fp false 3 4,.p,.ca 72 [20,21] 1]<|zj [.pk 19 22 .f,.p]<|zh [(23,true)] [.fp false 2 5,.p,.fp false 3 5,.p,.ca 72 [24,25] 1]<|zj [.pk 23 26 .f,.p]<|zh [(27,true)] [.fp false 2 6,.p,.fp false 3 6,.p,.ca 154 [28,29,.c (.f 72 [])] 1]<|zj [.pk 27 30 .f,.p] []) (zn 4 (31::[]))<|
 .ret⟩
def Mk:IF:=⟨[],1,19,[2],zr [.bp 0,.cs .v (.s [])] (zo::19::zn 17 [])<|
 zr [.fp true 1 0,.p,.ca 8 [19] 1,.p] (zo::1::zo::20::zn 15 [])<|
 .seq (zr [.fp true 1 0,.p] (zo::1::zo::3::zo::zo::19::zn 12 [])<|
 .block 0<|.seq (zr [.bi .eql 6 (.i 1),.p] (zo::1::zo::3::zo::zo::6::19::zn 11 [])<|
 .cond 7 (zt [.u true] (zo::1::zo::3::zo::zo::6::19::zn 11 [])) (zt [.bi .eql 6 (.i 2),.p] (zo::1::zo::3::zo::zo::6::19::zn 11 [])))<|
 .cond 7 (.seq (zr [.fp false 1 3,.p,.ln 19 [],.ca 23 [20,.i 1,.i 40] 1,.un .not 21] (zo::1::zo::3::zn 4 (22::zn 10 []))<|
 .cond 8 (zr [.cs .v (.s [])] (zo::zo::19::zn 16 [])<|
 .ret) .skip)<|
 .seq (zr [.fp false 1 3,.p,.ln 19 [],.cs .v (.n 0)] (zo::1::zo::3::zn 5 (19::20::21::zn 7 []))<|
 .block 1<|.loop<|zr [.bi .lss 11 10] (zo::1::zo::3::zn 5 (9::10::11::19::zn 6 []))<|
 .seq (.cond 12 .skip (.exit 1))<|
 .seq (.block 2<|zr [.iy 9 11,.p,.p] (zo::1::zo::3::19::zn 4 (9::10::11::zn 7 []))<|
 zr [.p,.ca 167 [4] 1,.un .not 19] (zo::1::zo::3::zn 5 (9::10::11::zo::20::zn 5 []))<|
 .cond 13 (zr [.cs .v (.s [])] (zo::zo::19::zn 16 [])<|
 .ret) .skip)<|
 zt [.bi .add 11 (.i 1),.p] (zo::1::zo::3::zn 5 (9::10::19::zn 7 [])))<|
 zr [.p,.bi .add 3 (.c (.s [32])),.fp false 1 3,.p,.ca 184 [20,.c (.s [32])] 1,.bi .add 19 21,.p] (zo::zo::22::zn 16 [])<|
 .ret) (zr [.bi .eql 6 (.i 3),.p] (zo::1::zo::3::zo::zo::6::zn 7 (19::zn 4 []))<|
 .cond 14 (.seq (zr [.fp true 1 1,.p,.ca 67 [19] 1,.un .not 20] (zo::1::zo::3::zn 11 (21::zo::zo::zo::[]))<|
 .cond 15 (zr [.cs .v (.s [])] (zo::zo::19::zn 16 [])<|
 .ret) .skip)<|
 zr [.p,.bi .add 3 (.c (.s [32])),.fp false 1 4,.p,.ca 353 [20] 1,.bi .add 19 21,.bi .add 22 (.c (.s [32,98,121,32])),.fp true 1 1,.p,.bi .add 23 24,.p] (zo::zo::25::zn 16 [])<|
 .ret) (zr [.bi .eql 6 (.i 5),.p] (zo::1::zo::3::zo::zo::6::zn 9 (19::zo::zo::[]))<|
 .cond 16 (zr [.fp false 1 6,.p,.ca 354 [19] 1,.p] (zo::1::zo::3::zo::20::zn 13 [])<|
 .seq (zr [.p,.bi .eql 5 (.c (.s []))] (zo::1::zo::3::zo::5::zn 11 (19::zo::[]))<|
 .cond 17 (zr [.cs .v (.s [])] (zo::zo::19::zn 16 [])<|
 .ret) .skip)<|
 zr [.p,.bi .add 3 (.c (.s [32])),.fp false 1 4,.p,.ca 353 [20] 1,.bi .add 19 21,.bi .add 22 (.c (.s [32,98,121,32])),.p,.bi .add 23 5,.p] (zo::zo::24::zn 16 [])<|
 .ret) (.seq (zr [.bi .eql 6 (.i 4),.p] (zo::1::zo::3::zo::zo::6::zn 11 (19::[]))<|
 .cond 18 (zt [.u true] (zo::1::zo::3::zo::zo::6::zn 11 (19::[]))) (zt [.bi .eql 6 (.i 6),.p] (zo::1::zo::3::zn 14 (19::[]))))<|
 .cond 18 (zr [.p,.bi .add 3 (.c (.s [32])),.fp false 1 4,.p,.ca 353 [20] 1,.bi .add 19 21,.bi .add 22 (.c (.s [32,98,121,32])),.fp false 1 5,.p,.ca 353 [24] 1,.bi .add 23 25,.p] (zo::zo::26::zn 16 [])<|
 .ret) .skip))))<|
 zr [.cs .v (.s [])] (zo::zo::19::zn 16 [])<|
 .ret⟩
def K5:IF:=⟨[],1,9,[1],zr [.cs .v (.s [])] (0::zn 8 [])<|
 .seq (zq (zj [.p,.ln 0 [],.bi .eql 9 (.i 0),.p]<|zh [(10,false)] [.p,.ln 0 [],.bi .gtr 11 (.i 40)]<|zj [.pk 10 .t 12] []) (0::zo::zo::zo::13::zn 4 [])<|
 .cond 4 (zr [.cs .v (.s [110,111,110,101])] (zo::9::zn 7 [])<|
 .ret) .skip)<|
 zr [.li (.o .v) [],.p] (0::zo::9::zn 6 [])<|
 .seq (zr [.p,.ln 0 [],.cs .v (.n 0)] [zo,zo,2,zo,zo,0,9,10,zo]<|
 .block 0<|.loop<|zr [.bi .lss 7 6] [zo,zo,2,zo,zo,5,6,7,9]<|
 .seq (.cond 8 .skip (.exit 0))<|
 .seq (.block 1<|zr [.iy 5 7,.p,.p] [zo,zo,2,9,zo,5,6,7,zo]<|
 zt [.p,.p,.mx 3 (.i (-99)),.mn 9 (.i 99),.ca 143 [10] 1,.li (.o .v) [11],.ap false 2 12,.p] [zo,zo,13,zo,zo,5,6,7,zo])<|
 zt [.bi .add 7 (.i 1),.p] [zo,zo,2,zo,zo,5,6,9,zo])<|
 zr [.p,.ca 184 [2,.c (.s [44])] 1,.p] (zo::9::zn 7 [])<|
 .ret⟩
end Go.Cat
namespace Go.Cat
def Ca:IF:=⟨[],1,16,[2],zr [.bp 0,.u false] (zo::16::zn 14 [])<|
 .seq (zr [.fp true 1 0,.p] (zo::1::zn 5 (16::zn 8 []))<|
 .block 0<|zr [.bi .eql 7 (.i 1),.p] (zo::1::zn 5 (7::16::zn 7 []))<|
 .cond 8 (zr [.gp 1 7,.ca 635 [16,.t] 1,.p] (zo::zo::17::zn 13 [])<|
 .ret) (zr [.bi .eql 7 (.i 2),.p] (zo::1::zn 5 (7::zo::16::zn 6 []))<|
 .cond 9 (zq (zj [.gp 1 7,.ca 635 [16,.f] 1,.p]<|zh [(17,true)] [.fp true 1 1,.p,.fp true 1 2,.p,.ca 612 [18,19] 1,.fp false 1 3,.p,.ln 21 [],.bi .sub 22 (.i 1),.bi .eql 20 23]<|zj [.pk 17 24 .f,.p] []) (zo::zo::25::zn 13 [])<|
 .ret) (zr [.bi .eql 7 (.i 3),.p] (zo::1::zn 5 (7::zo::zo::16::zn 5 []))<|
 .cond 10 (zr [.fp true 1 1,.p,.fp false 1 4,.p,.ca 109 [16,17] 2,.p,.p,.p,.p,.p] (zo::zo::zo::18::19::zn 11 [])<|
 zq (zj [.p,.p]<|zh [(4,true)] [.cy 3,.ca 130 [16] 1]<|zj [.pk 4 17 .f,.p] []) (zo::zo::18::zn 13 [])<|
 .ret) (zr [.bi .eql 7 (.i 4),.p] (zo::1::zn 5 (7::zo::zo::zo::16::zn 4 []))<|
 .cond 11 (zr [.fp false 1 4,.p,.p] (zo::1::zo::zo::zo::16::zn 10 [])<|
 zr [.fp false 1 5,.p,.p] (zn 5 (5::16::zn 9 []))<|
 .seq (zq (zj [.p,.ca 73 [5] 1,.un .not 16,.p]<|zh [(17,false)] [.p,.ln 6 [],.bi .neq 18 (.i 3)]<|zj [.pk 17 .t 19] []) (zn 5 (5::6::zn 5 (20::zo::zo::zo::[])))<|
 .cond 12 (zr [.u false] (zo::zo::16::zn 13 [])<|
 .ret) .skip)<|
 .seq (zq (zj [.p,.iy 6 (.i 0),.p,.p,.ln 5 [],.bi .sub 17 (.i 1),.ca 22 [16,.i 0,18] 1,.un .not 19,.p]<|zh [(20,false)] [.p,.iy 6 (.i 1),.p,.p,.iy 6 (.i 0),.p,.bi .add 22 (.i 1),.p,.ln 5 [],.bi .sub 24 (.i 1),.ca 22 [21,23,25] 1,.un .not 26]<|zj [.pk 20 .t 27,.p]<|zh [(28,false)] [.p,.iy 6 (.i 2),.p,.p,.iy 6 (.i 1),.p,.bi .add 30 (.i 1),.p,.ln 5 [],.bi .sub 32 (.i 1),.ca 22 [29,31,33] 1,.un .not 34]<|zj [.pk 28 .t 35] []) (zn 5 (5::6::zn 6 (36::zo::zo::[])))<|
 .cond 13 (zr [.u false] (zo::zo::16::zn 13 [])<|
 .ret) .skip)<|
 zq (zj [.p,.p,.iy 6 (.i 2),.p,.iy 5 16,.p,.p,.p,.iy 6 (.i 0),.p,.iy 5 18,.p,.bi .lss 17 19,.p]<|zh [(20,true)] [.p,.p,.iy 6 (.i 0),.p,.iy 5 21,.p,.p,.p,.iy 6 (.i 1),.p,.iy 5 23,.p,.bi .lss 22 24]<|zj [.pk 20 25 .f,.p] []) (zo::zo::26::zn 13 [])<|
 .ret) (zr [.bi .eql 7 (.i 5),.p] (zo::1::zn 5 (7::zn 6 (16::zo::[])))<|
 .cond 14 (zq (zj [.fp false 1 4,.p,.ln 16 [],.bi .geq 17 (.i 3),.p]<|zh [(18,true)] [.fp false 1 4,.p,.ln 19 [],.fp false 1 6,.p,.ca 600 [20,21] 1]<|zj [.pk 18 22 .f,.p]<|zh [(23,true)] [.fp false 1 4,.p,.ln 24 [],.fp false 1 6,.p,.ca 636 [25,26] 1,.fp false 1 4,.p,.ca 149 [27,28] 1]<|zj [.pk 23 29 .f,.p] []) (zo::zo::30::zn 13 [])<|
 .ret) (zr [.bi .eql 7 (.i 6),.p] (zo::1::zn 13 (16::[]))<|
 .cond 15 (zr [.fp false 1 4,.p,.fp false 1 5,.p,.ca 357 [16,17] 1,.p] (zo::zo::18::zn 13 [])<|
 .ret) .skip))))))<|
 zr [.u false] (zo::zo::16::zn 13 [])<|
 .ret⟩
def Ii:IF:=⟨[(0,7)],2,7,[2,3],zr [.cs (.b (.o .v)) (.g [.n 0,.s [],.s [],.l [],.l [],.l [],.l []]),.u false] (0::1::7::zn 4 [])<|
 zr [.p,.p,.ca 347 [0,1] 2,.p,.p,.p,.p,.p] [0,1,2,zo,7,8,zo]<|
 .seq (zr [.p,.un .not 5] [0,1,2,zo,4,zo,7]<|
 .cond 6 (zr [.bg 1 [(.c (.n 0),0),(.c (.s []),0),(.c (.s []),0),(.c (.l []),1),(.c (.l []),1),(.c (.l []),1),(.c (.l []),1)],.ws 2 7 7,.u false] [zo,zo,8,9,zo,zo,zo]<|
 .ret) .skip)<|
 zr [.p,.p,.p,.bg 1 [(.c (.n 2),0),(.e 0,0),(.e 1,0),(.e 4,1),(.c (.l []),1),(.c (.l []),1),(.c (.l []),1)],.ws 2 7 7,.u true] [zo,zo,8,9,zo,zo,zo]<|
 .ret⟩
def Lb:IF:=⟨[(0,7)],1,6,[1,2],zr [.cs (.b (.o .v)) (.g [.n 0,.s [],.s [],.l [],.l [],.l [],.l []]),.u false] (0::6::zn 4 [])<|
 zr [.p,.ca 345 [0] 2,.p,.p,.p,.p,.p] [0,1,zo,6,7,zo]<|
 .seq (zr [.p,.un .not 4] [0,1,zo,3,zo,6]<|
 .cond 5 (zr [.bg 1 [(.c (.n 0),0),(.c (.s []),0),(.c (.s []),0),(.c (.l []),1),(.c (.l []),1),(.c (.l []),1),(.c (.l []),1)],.ws 1 7 6,.u false] [zo,7,8,zo,zo,zo]<|
 .ret) .skip)<|
 zr [.li (.o .v) [],.p,.ap true 6 0,.p,.bg 1 [(.c (.n 5),0),(.c (.s []),0),(.c (.s []),0),(.c (.l []),1),(.e 7,1),(.c (.l []),1),(.e 3,1)],.ws 1 7 8,.u true] [zo,9,10,zo,zo,zo]<|
 .ret⟩
def Lx:IF:=⟨[(0,7)],1,6,[1,2],zr [.cs (.b (.o .v)) (.g [.n 0,.s [],.s [],.l [],.l [],.l [],.l []]),.u false] (0::6::zn 4 [])<|
 zr [.p,.ca 343 [0] 2,.p,.p,.p,.p,.p] [0,1,zo,6,7,zo]<|
 .seq (zr [.p,.un .not 4] [0,1,zo,3,zo,6]<|
 .cond 5 (zr [.bg 1 [(.c (.n 0),0),(.c (.s []),0),(.c (.s []),0),(.c (.l []),1),(.c (.l []),1),(.c (.l []),1),(.c (.l []),1)],.ws 1 7 6,.u false] [zo,7,8,zo,zo,zo]<|
 .ret) .skip)<|
 zr [.li (.o .v) [],.p,.ap true 6 0,.p,.bg 1 [(.c (.n 6),0),(.c (.s []),0),(.c (.s []),0),(.c (.l []),1),(.e 7,1),(.e 3,1),(.c (.l []),1)],.ws 1 7 8,.u true] [zo,9,10,zo,zo,zo]<|
 .ret⟩
def Hu:IF:=⟨[(0,7)],2,14,[2,3],zr [.cs (.b (.o .v)) (.g [.n 0,.s [],.s [],.l [],.l [],.l [],.l []]),.u false] (0::1::14::zn 11 [])<|
 .seq (zr [.p,.p,.ca 349 [0,1] 1,.un .not 14] (0::1::2::zn 7 (15::zo::zo::zo::[]))<|
 .cond 10 (zr [.bg 1 [(.c (.n 0),0),(.c (.s []),0),(.c (.s []),0),(.c (.l []),1),(.c (.l []),1),(.c (.l []),1),(.c (.l []),1)],.ws 2 7 14,.u false] (zo::zo::15::16::zn 10 [])<|
 .ret) .skip)<|
 zr [.p,.li (.o .v) [0],.p] (0::1::2::zo::14::zn 9 [])<|
 .seq (zr [.p,.p] (0::1::2::zo::4::0::zn 8 [])<|
 .block 0<|.loop<|.seq (zr [.p,.p,.bi .neq 5 1] (0::1::2::zo::4::5::zn 5 (14::zo::zo::[]))<|
 .cond 11 .skip (.exit 0))<|
 .block 1<|zr [.cs .v (.s [])] (0::1::2::zo::4::5::14::zn 7 [])<|
 .seq (zr [.p,.ca 162 [5] 1,.bi .sub 14 (.i 1),.p] (0::1::2::zo::4::5::6::15::zn 6 [])<|
 .block 2<|.loop<|.seq (zr [.p,.bi .geq 7 (.i 0)] (0::1::2::zo::4::5::6::7::zn 4 (14::zo::[]))<|
 .cond 12 .skip (.exit 2))<|
 .seq (.block 3<|zr [.p,.p,.ca 192 [5,7] 2,.p,.p,.p,.p,.p] (0::1::2::zo::4::5::6::7::14::15::zn 4 [])<|
 zq (zj [.p,.p]<|zh [(9,true)] [.cy 8,.cy 1,.ca 349 [14,15] 1]<|zj [.pk 9 16 .f] []) (0::1::2::zo::4::5::6::7::8::zn 4 (17::[]))<|
 .cond 13 (zt [.p,.p] (0::1::2::zo::4::5::8::7::zn 6 [])) .skip)<|
 zt [.p,.bi .sub 7 (.i 1),.p] (0::1::2::zo::4::5::6::14::zn 6 []))<|
 zr [.p,.p,.li (.o .v) [6],.ap false 4 14,.p] (0::1::2::zo::15::zo::6::zn 7 [])<|
 zt [.p,.p] (0::1::2::zo::4::6::zn 8 []))<|
 zr [.p,.p,.p,.bg 1 [(.c (.n 1),0),(.e 0,0),(.e 1,0),(.e 4,1),(.c (.l []),1),(.c (.l []),1),(.c (.l []),1)],.ws 2 7 14,.u true] (zo::zo::15::16::zn 10 [])<|
 .ret⟩
def Kb:IF:=⟨[(0,7)],1,9,[1,2],zr [.cs (.b (.o .v)) (.g [.n 0,.s [],.s [],.l [],.l [],.l [],.l []]),.u false] (0::9::zn 7 [])<|
 zr [.p,.ca 156 [0] 2,.p,.p,.p,.p,.p] (0::1::zo::9::10::zn 4 [])<|
 .seq (zr [.p] [0,1,zo,3,zo,zo,zo,4,zo]<|
 .cond 7 (zr [.p,.li (.o .v) [],.p,.ap true 9 0,.bg 1 [(.c (.n 3),0),(.e 3,0),(.c (.s []),0),(.c (.l []),1),(.e 10,1),(.c (.l []),1),(.c (.l []),1)],.ws 1 7 11,.u true] (zo::12::13::zn 6 [])<|
 .ret) .skip)<|
 zr [.p,.ca 49 [0] 2,.p,.p,.p,.p,.p] [0,1,zo,zo,zo,9,10,zo,zo]<|
 .seq (zr [.p,.un .not 6] [0,1,zo,zo,zo,5,zo,zo,9]<|
 .cond 8 (zr [.bg 1 [(.c (.n 0),0),(.c (.s []),0),(.c (.s []),0),(.c (.l []),1),(.c (.l []),1),(.c (.l []),1),(.c (.l []),1)],.ws 1 7 9,.u false] (zo::10::11::zn 6 [])<|
 .ret) .skip)<|
 zr [.li (.o .v) [],.p,.ap true 9 0,.p,.bg 1 [(.c (.n 4),0),(.c (.s []),0),(.c (.s []),0),(.c (.l []),1),(.e 10,1),(.e 5,1),(.c (.l []),1)],.ws 1 7 11,.u true] (zo::12::13::zn 6 [])<|
 .ret⟩
def N6:IF:=⟨[],1,3,[1],zr [.cs .v (.s [])] [0,zo,zo]<|
 .seq (zr [.p,.ca 22 [0,.i 1,.i 6] 1,.un .not 3] [0,zo,4]<|
 .cond 2 (zr [.cs .v (.s [])] [zo,3,zo]<|
 .ret) .skip)<|
 zr [.li (.o .v) [.c (.s [98,101,108,111,119]),.c (.s [100,105,115,116,97,110,99,101]),.c (.s [115,111,114,116,101,100]),.c (.s [117,110,115,111,114,116,101,100]),.c (.s [102,114,105,101,122,101]),.c (.s [109,101,97,110,100,101,114])],.p,.bi .sub 0 (.i 1),.ix 3 [] 4,.p,.p] [zo,5,zo]<|
 .ret⟩
def Ix:IF:=⟨[(0,7)],1,2,[1],zr [.cs (.b .v) (.g [.n 0,.s [],.s [],.l [],.l [],.l [],.l []])] [0,2]<|
 zr [.p,.ca 288 [0] 1,.ca 643 [2] 2,.ws 1 7 3] [zo,5]<|
 .ret⟩
def Mu:IF:=⟨[],1,5,[1,2],zr [.cs .v (.s []),.cs .v (.s [])] (0::zn 4 [])<|
 zr [.p,.ca 640 [0,.i 5] 2,.p,.p,.p,.p,.p] [zo,zo,zo,5,6]<|
 zr [.p,.p,.p,.p] [zo,3,4,zo,zo]<|
 .ret⟩
def Mb:IF:=⟨[],1,2,[1],zr [.cs (.o .v) (.l [])] [0,zo]<|
 zr [.p,.ca 288 [0] 1,.ca 641 [2] 2,.p] [zo,3]<|
 .ret⟩
def Mr:IF:=⟨[],1,2,[1],zr [.cs (.o .v) (.l [])] [0,zo]<|
 zr [.p,.ca 288 [0] 1,.ca 642 [2] 2,.p] [zo,3]<|
 .ret⟩
def NC:IF:=⟨[],1,5,[1,2],zr [.cs .v (.s []),.cs .v (.s [])] (0::zn 4 [])<|
 zr [.p,.ca 640 [0,.i 5] 2,.p,.p,.p,.p,.p] [zo,zo,zo,5,6]<|
 zr [.p,.p,.p,.p] [zo,3,4,zo,zo]<|
 .ret⟩
def Kw:IF:=⟨[],1,2,[1],zr [.cs (.o .v) (.l [])] [0,zo]<|
 zr [.p,.ca 288 [0] 1,.ca 305 [2] 2,.p] [zo,3]<|
 .ret⟩
def No:IF:=⟨[],1,2,[1],zr [.cs .v (.n 0)] [0,zo]<|
 zr [.p,.ca 288 [0] 1,.ca 289 [2,.i 9] 2,.bi .sub 3 (.i 1),.p] [zo,5]<|
 .ret⟩
def Ij:IF:=⟨[(0,7),(1,7)],1,6,[1,2],zr [.cs (.b .v) (.g [.n 0,.s [],.s [],.l [],.l [],.l [],.l []]),.cs (.b .v) (.g [.n 0,.s [],.s [],.l [],.l [],.l [],.l []])] [0,6,7,zo,zo,zo]<|
 zr [.p,.ca 288 [0] 1,.p] [zo,1,2,6,zo,zo]<|
 zr [.p,.ca 643 [3] 2,.cs (.b .v) (.g [.n 0,.s [],.s [],.l [],.l [],.l [],.l []]),.ws 8 7 6] [zo,1,2,7,9,zo]<|
 .seq (zr [.p,.ca 307 [3,.i 2] 2] [zo,1,2,7,4,6]<|
 .cond 5 (zr [.wl 7 4,.wl 7 4,.ws 1 7 6,.ws 2 7 7] [zo,8,9,zo,zo,zo]<|
 .ret) .skip)<|
 zr [.wl 7 4,.p,.ca 643 [3] 2,.ws 1 7 6,.ws 2 7 7] [zo,9,10,zo,zo,zo]<|
 .ret⟩
def N0:IF:=⟨[],2,5,[4],zr [.bp 0,.bp 1,.u false] [zo,zo,5,6,zo]<|
 zq (zj [.fp true 2 0,.p,.fp true 3 0,.p,.bi .eql 5 6,.p]<|zh [(7,true)] [.fp true 2 1,.p,.fp true 3 1,.p,.bi .eql 8 9]<|zj [.pk 7 10 .f,.p]<|zh [(11,true)] [.fp true 2 2,.p,.fp true 3 2,.p,.bi .eql 12 13]<|zj [.pk 11 14 .f,.p]<|zh [(15,true)] [.fp false 2 3,.p,.fp false 3 3,.p,.ca 148 [16,17] 1]<|zj [.pk 15 18 .f,.p]<|zh [(19,true)] [.fp false 2 4,.p,.fp false 3 4,.p,.ca 149 [20,21] 1]<|zj [.pk 19 22 .f,.p]<|zh [(23,true)] [.fp false 2 5,.p,.fp false 3 5,.p,.ca 149 [24,25] 1]<|zj [.pk 23 26 .f,.p]<|zh [(27,true)] [.fp false 2 6,.p,.fp false 3 6,.p,.ca 150 [28,29] 1]<|zj [.pk 27 30 .f,.p] []) (zn 4 (31::[]))<|
 .ret⟩
def Le:IF:=⟨[],1,16,[2],zr [.bp 0,.cs .v (.s [])] (zo::16::zn 14 [])<|
 zr [.fp true 1 0,.p,.ca 7 [16] 1,.p] (zo::1::zo::17::zn 12 [])<|
 .seq (zr [.fp true 1 0,.p] (zo::1::zo::3::zo::zo::16::zn 9 [])<|
 .block 0<|.seq (zr [.bi .eql 6 (.i 1),.p] (zo::1::zo::3::zo::zo::6::16::zn 8 [])<|
 .cond 7 (zt [.u true] (zo::1::zo::3::zo::zo::6::16::zn 8 [])) (zt [.bi .eql 6 (.i 2),.p] (zo::1::zo::3::zo::zo::6::16::zn 8 [])))<|
 .cond 7 (.seq (zq (zj [.fp false 1 3,.p,.ln 16 [],.bi .gtr 17 (.i 40),.p]<|zh [(18,false)] [.fp false 1 3,.p,.ln 19 [],.bi .eql 20 (.i 0)]<|zj [.pk 18 .t 21] []) (zo::1::zo::3::zn 4 (22::zn 7 []))<|
 .cond 8 (zr [.cs .v (.s [])] (zo::zo::16::zn 13 [])<|
 .ret) .skip)<|
 .seq (zr [.cs .v (.n 0)] (zo::1::zo::3::16::zn 11 [])<|
 .block 1<|.loop<|.seq (zr [.p,.fp false 1 3,.p,.ln 16 [],.bi .lss 4 17] (zo::1::zo::3::4::zn 4 (18::zn 6 []))<|
 .cond 9 .skip (.exit 1))<|
 .seq (.block 2<|.seq (zr [.fp false 1 3,.p,.p,.iy 16 4,.p,.ca 160 [17] 1,.un .not 18] (zo::1::zo::3::4::zn 5 (19::zn 5 []))<|
 .cond 10 (zr [.cs .v (.s [])] (zo::zo::16::zn 13 [])<|
 .ret) .skip)<|
 zt [.p,.bi .add 3 (.c (.s [32])),.fp false 1 3,.p,.p,.iy 17 4,.p,.bi .add 16 18,.p] (zo::1::zo::19::4::zn 11 []))<|
 zt [.p,.bi .add 4 (.i 1),.p] (zo::1::zo::3::16::zn 11 []))<|
 zr [.p,.p] (zo::zo::3::zn 13 [])<|
 .ret) (zr [.bi .eql 6 (.i 3),.p] (zo::1::zo::3::zo::zo::6::zn 4 (16::zn 4 []))<|
 .cond 11 (.seq (zr [.fp true 1 1,.p,.ca 64 [16] 1,.un .not 17] (zo::1::zo::3::zn 8 (18::zo::zo::zo::[]))<|
 .cond 12 (zr [.cs .v (.s [])] (zo::zo::16::zn 13 [])<|
 .ret) .skip)<|
 zr [.p,.bi .add 3 (.c (.s [32])),.fp false 1 4,.p,.ca 351 [17] 1,.bi .add 16 18,.bi .add 19 (.c (.s [32,98,121,32])),.fp true 1 1,.p,.bi .add 20 21,.p] (zo::zo::22::zn 13 [])<|
 .ret) (.seq (zr [.bi .eql 6 (.i 4),.p] (zo::1::zo::3::zo::zo::6::zn 6 (16::zo::zo::[]))<|
 .cond 13 (zt [.u true] (zo::1::zo::3::zo::zo::6::zn 6 (16::zo::zo::[]))) (zt [.bi .eql 6 (.i 6),.p] (zo::1::zo::3::zo::zo::6::zn 6 (16::zo::zo::[]))))<|
 .cond 13 (zr [.p,.bi .add 3 (.c (.s [32])),.fp false 1 4,.p,.ca 351 [17] 1,.bi .add 16 18,.bi .add 19 (.c (.s [32,98,121,32])),.fp false 1 5,.p,.ca 351 [21] 1,.bi .add 20 22,.p] (zo::zo::23::zn 13 [])<|
 .ret) (zr [.bi .eql 6 (.i 5),.p] (zo::1::zo::3::zn 10 (16::zo::[]))<|
 .cond 14 (zr [.fp false 1 6,.p,.ca 352 [16] 1,.p] (zo::1::zo::3::zo::17::zn 10 [])<|
 .seq (zr [.p,.bi .eql 5 (.c (.s []))] (zo::1::zo::3::zo::5::zn 9 (16::[]))<|
 .cond 15 (zr [.cs .v (.s [])] (zo::zo::16::zn 13 [])<|
 .ret) .skip)<|
 zr [.p,.bi .add 3 (.c (.s [32])),.fp false 1 4,.p,.ca 351 [17] 1,.bi .add 16 18,.bi .add 19 (.c (.s [32,98,121,32])),.p,.bi .add 20 5,.p] (zo::zo::21::zn 13 [])<|
 .ret) .skip))))<|
 zr [.cs .v (.s [])] (zo::zo::16::zn 13 [])<|
 .ret⟩
def N4:IF:=⟨[],2,9,[3],zr [.bp 0,.u false] (zo::1::9::zn 6 [])<|
 zr [.fp false 2 3,.p,.p] (zo::1::2::zo::9::zn 4 [])<|
 .seq (zq (zj [.p,.ca 644 [4] 1,.un .not 9,.p]<|zh [(10,false)] [.p,.iy 4 (.i 0),.p,.fp true 2 1,.p,.bi .neq 11 12]<|zj [.pk 10 .t 13,.p]<|zh [(14,false)] [.p,.p,.ln 4 [],.bi .sub 15 (.i 1),.iy 4 16,.p,.fp true 2 2,.p,.bi .neq 17 18]<|zj [.pk 14 .t 19] []) [zo,1,zo,zo,4,zo,20,zo,zo]<|
 .cond 6 (zr [.u false] (zo::zo::zo::9::zn 5 [])<|
 .ret) .skip)<|
 .seq (zr [.cs .v (.n 1)] [zo,1,zo,zo,4,9,zo,zo,zo]<|
 .block 0<|.loop<|.seq (zq (zj [.p,.p,.ln 4 [],.bi .lss 5 9,.p]<|zh [(10,true)] [.cy 1]<|zj [.pk 10 11 .f] []) [zo,1,zo,zo,4,5,zo,12,zo]<|
 .cond 7 .skip (.exit 0))<|
 .seq (.block 1<|zr [.p,.p,.bi .sub 5 (.i 1),.iy 4 9,.p,.p,.p,.iy 4 5,.p,.ca 349 [10,11] 1,.un .not 12] [zo,1,zo,zo,4,5,zo,zo,13]<|
 .cond 8 (zr [.u false] (zo::zo::zo::9::zn 5 [])<|
 .ret) .skip)<|
 zt [.p,.bi .add 5 (.i 1),.p] [zo,1,zo,zo,4,9,zo,zo,zo])<|
 zr [.u true] (zo::zo::zo::9::zn 5 [])<|
 .ret⟩
def Io:IF:=⟨[(0,7)],1,21,[1,0],zr [.cs (.b .v) (.g [.n 0,.s [],.s [],.l [],.l [],.l [],.l []])] (0::21::zn 19 [])<|
 zr [.bg 1 [(.c (.n 0),0),(.c (.s []),0),(.c (.s []),0),(.c (.l []),1),(.c (.l []),1),(.c (.l []),1),(.c (.l []),1)],.cs (.b (.o .v)) (.g [.n 0,.s [],.s [],.l [],.l [],.l [],.l []]),.ws 22 7 21] (0::1::23::zn 18 [])<|
 .seq (zr [.p,.ca 289 [0,.i 6] 2] (22::1::2::zn 5 (21::zn 12 []))<|
 .block 0<|zr [.bi .eql 8 (.i 0),.p] (0::1::2::zn 5 (8::21::zn 11 []))<|
 .cond 9 (zr [.p,.ca 649 [0,.i 5] 3,.p,.p,.p,.p,.p] (23::1::2::21::22::zn 16 [])<|
 zt [.p,.p,.ca 339 [3,4] 2,.p,.p,.p,.ws 2 7 21] (0::1::23::zn 18 [])) (zr [.bi .eql 8 (.i 1),.p] (0::1::2::zn 5 (8::zo::21::zn 10 []))<|
 .cond 10 (zr [.p,.ca 649 [0,.i 4] 3,.p,.p,.p,.p,.p] (23::1::2::zo::zo::21::22::zn 14 [])<|
 zt [.p,.p,.ca 337 [5,6] 2,.p,.p,.p,.ws 2 7 21] (0::1::23::zn 18 [])) (.seq (zr [.bi .eql 8 (.i 2),.p] (0::1::2::zn 5 (8::zo::zo::21::zn 9 []))<|
 .cond 11 (zt [.u true] (0::1::2::zn 5 (8::zo::zo::21::zn 9 []))) (zt [.bi .eql 8 (.i 3),.p] (0::1::2::zn 5 (8::zo::zo::21::zn 9 []))))<|
 .cond 11 (zt [.p,.ca 305 [0] 2,.ca 120 [21] 2,.p,.p,.p,.ws 2 7 23] (22::1::25::zn 18 [])) (zr [.bi .eql 8 (.i 4),.p] (0::1::2::zn 9 (21::zn 8 []))<|
 .cond 12 (zt [.p,.ca 641 [0] 2,.ca 335 [21] 2,.p,.p,.p,.ws 2 7 23] (22::1::25::zn 18 [])) (zr [.p,.p,.ca 289 [0,.i 4] 2,.bi .add (.i 1) 21,.ca 306 [22,23] 2,.ca 356 [24] 2,.p,.p,.p,.p,.p] (25::1::2::zn 4 (26::zn 13 []))<|
 zt [.p,.ca 333 [7] 2,.p,.p,.p,.ws 2 7 21] (0::1::23::zn 18 []))))))<|
 .seq (zr [.p,.ca 289 [0,.i 7] 2] (22::1::2::zn 10 (21::zn 7 []))<|
 .block 1<|zr [.bi .eql 13 (.i 0),.p] (0::1::2::zn 10 (13::21::zn 6 []))<|
 .cond 14 (zr [.gt 2 [.k 4],.p,.sp 2 [.k 4] 1,.ln 22 [],.jn 23 [.k 4] 22 1,.bi .gtr 24 (.i 0)] (0::1::25::zn 12 (26::zn 5 []))<|
 .cond 15 (zt [.gt 2 [.k 4],.p,.p,.li (.o .v) [.i 0,.i 1,.i 2,.i (-1)],.ca 313 [0,22] 2,.ix 2 [.k 4] (.i 0),.up 2 [.k 4,.k 0] 23] (24::1::26::zn 18 [])) .skip) (zr [.bi .eql 13 (.i 1),.p] (0::1::2::zn 10 (13::zo::zo::21::zn 4 []))<|
 .cond 16 (zr [.gt 2 [.k 3],.p,.sp 2 [.k 3] 1,.ln 22 [],.jn 23 [.k 3] 22 1,.bi .gtr 24 (.i 1)] (0::1::25::zn 14 (26::zo::zo::zo::[]))<|
 .cond 17 (zt [.gt 2 [.k 3],.p,.sp 2 [.k 3] 1,.sb true 22 (some (.i 1)) none,.gt 23 [.k 3],.up 23 [.k 3] 24] (0::1::26::zn 18 [])) .skip) (zr [.bi .eql 13 (.i 2),.p] (0::1::2::zn 10 (13::zn 4 (21::zo::zo::[])))<|
 .cond 18 (zt [.p,.ca 289 [0,.i 8] 2,.gt 2 [.k 0],.uq 2 [.k 0] 21 0 1] (22::1::24::zn 18 [])) (zr [.bi .eql 13 (.i 3),.p] (0::1::2::zn 16 (21::zo::[]))<|
 .cond 19 (zr [.gt 2 [.k 5],.p,.sp 2 [.k 5] 1,.ln 22 [],.jn 23 [.k 5] 22 1,.bi .gtr 24 (.i 0)] (0::1::25::zn 17 (26::[]))<|
 .cond 20 (zt [.gt 2 [.k 5],.p,.p,.li (.o .v) [.i 0,.i 1,.i (-1),.i 9],.ca 313 [0,22] 2,.ix 2 [.k 5] (.i 0),.up 2 [.k 5,.k 0] 23] (24::1::26::zn 18 [])) .skip) .skip))))<|
 zr [.wl 7 2,.ws 1 7 21] (0::22::zn 19 [])<|
 .ret⟩
def NH:IF:=⟨[],1,7,[1],zr [.cs .v (.s [])] (0::zn 6 [])<|
 zr [.cs .v (.s [])] (0::zo::7::zn 4 [])<|
 .seq (zr [.cs .v (.n 0)] [0,zo,2,7,zo,zo,zo]<|
 .block 0<|.loop<|.seq (zq (zj [.p,.p,.ln 0 [],.bi .lss 3 7,.p]<|zh [(8,true)] [.p,.ln 0 [],.bi .leq 9 (.i 40)]<|zj [.pk 8 10 .f] []) [0,zo,2,3,11,zo,zo]<|
 .cond 4 .skip (.exit 0))<|
 .seq (.block 1<|.seq (zr [.p,.bi .gtr 3 (.i 0)] [0,zo,2,3,zo,7,zo]<|
 .cond 5 (zt [.p,.bi .add 2 (.c (.s [44])),.p] [0,zo,7,3,zo,zo,zo]) .skip)<|
 zt [.p,.p,.p,.iy 0 3,.p,.mn (.i 99) 7,.mx (.i (-99)) 8,.ca 138 [9] 1,.bi .add 2 10,.p] [0,zo,11,3,zo,zo,zo])<|
 zt [.p,.bi .add 3 (.i 1),.p] [0,zo,2,7,zo,zo,zo])<|
 .seq (zr [.p,.bi .eql 2 (.c (.s []))] [zo,zo,2,zo,zo,zo,7]<|
 .cond 6 (zr [.cs .v (.s [110,111,110,101])] (zo::7::zn 5 [])<|
 .ret) .skip)<|
 zr [.p,.p] (zo::2::zn 5 [])<|
 .ret⟩
def Ks:IF:=⟨[],2,7,[2],zr [.u false] (0::1::zn 5 [])<|
 .seq (zr [.p,.ln 0 [],.p,.ln 1 [],.bi .neq 7 8] [0,1,zo,zo,9,zo,zo]<|
 .cond 4 (zr [.u false] (zo::zo::7::zn 4 [])<|
 .ret) .skip)<|
 .seq (zr [.cs .v (.n 0)] [0,1,zo,7,zo,zo,zo]<|
 .block 0<|.loop<|.seq (zr [.p,.p,.ln 0 [],.bi .lss 3 7] [0,1,zo,3,zo,8,zo]<|
 .cond 5 .skip (.exit 0))<|
 .seq (.block 1<|zr [.p,.p,.ix 0 [] 3,.p,.p,.p,.ix 1 [] 3,.p,.ca 149 [7,8] 1,.un .not 9] [0,1,zo,3,zo,zo,10]<|
 .cond 6 (zr [.u false] (zo::zo::7::zn 4 [])<|
 .ret) .skip)<|
 zt [.p,.bi .add 3 (.i 1),.p] [0,1,zo,7,zo,zo,zo])<|
 zr [.u true] (zo::zo::7::zn 4 [])<|
 .ret⟩
def LN:IF:=⟨[],2,7,[2],zr [.u false] (0::1::zn 5 [])<|
 .seq (zr [.p,.ln 0 [],.p,.ln 1 [],.bi .neq 7 8] [0,1,zo,zo,9,zo,zo]<|
 .cond 4 (zr [.u false] (zo::zo::7::zn 4 [])<|
 .ret) .skip)<|
 .seq (zr [.cs .v (.n 0)] [0,1,zo,7,zo,zo,zo]<|
 .block 0<|.loop<|.seq (zr [.p,.p,.ln 0 [],.bi .lss 3 7] [0,1,zo,3,zo,8,zo]<|
 .cond 5 .skip (.exit 0))<|
 .seq (.block 1<|zr [.p,.p,.iy 0 3,.p,.p,.p,.iy 1 3,.p,.bi .neq 7 8] [0,1,zo,3,zo,zo,9]<|
 .cond 6 (zr [.u false] (zo::zo::7::zn 4 [])<|
 .ret) .skip)<|
 zt [.p,.bi .add 3 (.i 1),.p] [0,1,zo,7,zo,zo,zo])<|
 zr [.u true] (zo::zo::7::zn 4 [])<|
 .ret⟩
end Go.Cat
namespace Go.Cat
end Go.Cat
namespace Go.Cat
end Go.Cat
namespace Go.Cat
end Go.Cat
namespace Go.Cat
def Ln:IF:=⟨[],1,11,[1],zr [.cs .v (.s [])] (0::zn 10 [])<|
 .seq (zr [.p,.ln 0 [],.bi .eql 11 (.i 0)] (0::zo::zo::zo::12::zn 6 [])<|
 .cond 4 (zr [.cs .v (.s [110,111,110,101])] (zo::11::zn 9 [])<|
 .ret) .skip)<|
 .seq (zr [.p,.ln 0 [],.bi .gtr 11 (.i 20)] (0::zn 4 (12::zn 5 []))<|
 .cond 5 (zr [.cs .v (.s [])] (zo::11::zn 9 [])<|
 .ret) .skip)<|
 zr [.li (.o .v) [],.p] (0::zo::11::zn 8 [])<|
 .seq (zr [.p,.ln 0 [],.cs .v (.n 0)] [zo,zo,2,zo,zo,zo,0,11,12,zo,zo]<|
 .block 0<|.loop<|zr [.bi .lss 8 7] [zo,zo,2,zo,zo,zo,6,7,8,11,zo]<|
 .seq (.cond 9 .skip (.exit 0))<|
 .seq (.block 1<|zr [.ix 6 [] 8,.p,.p] [zo,zo,2,11,zo,zo,6,7,8,zo,zo]<|
 .seq (zq (zj [.p,.ln 3 [],.bi .neq 11 (.i 2),.p]<|zh [(12,false)] [.p,.iy 3 (.i 0),.p,.ca 23 [13,.i 0,.i 9] 1,.un .not 14]<|zj [.pk 12 .t 15,.p]<|zh [(16,false)] [.p,.iy 3 (.i 1),.p,.ca 23 [17,.i 0,.i 9] 1,.un .not 18]<|zj [.pk 16 .t 19] []) [zo,zo,2,3,zo,zo,6,7,8,zo,20]<|
 .cond 10 (zr [.cs .v (.s [])] (zo::11::zn 9 [])<|
 .ret) .skip)<|
 zt [.p,.p,.iy 3 (.i 0),.p,.ca 143 [11] 1,.p,.iy 3 (.i 1),.p,.ca 143 [13] 1,.bi .add 12 14,.li (.o .v) [15],.ap false 2 16,.p] [zo,zo,17,zo,zo,zo,6,7,8,zo,zo])<|
 zt [.bi .add 8 (.i 1),.p] [zo,zo,2,zo,zo,zo,6,7,11,zo,zo])<|
 zr [.p,.ca 184 [2,.c (.s [32])] 1,.p] (zo::11::zn 9 [])<|
 .ret⟩
def ND:IF:=⟨[],2,17,[2],zr [.u false] (0::1::zn 15 [])<|
 .seq (zq (zj [.p,.ca 23 [0,.i 2,.i 10] 1,.un .not 17,.p]<|zh [(18,false)] [.p,.ln 1 [],.cy 0,.bi .sub 20 (.i 3),.mx (.i 0) 21,.bi .neq 19 22]<|zj [.pk 18 .t 23] []) (0::1::zn 4 (24::zn 10 []))<|
 .cond 6 (zr [.u false] (zo::zo::17::zn 14 [])<|
 .ret) .skip)<|
 .seq (zr [.p,.ln 1 [],.cs .v (.n 0)] (0::1::zn 5 (1::17::18::zn 7 []))<|
 .block 0<|.loop<|zr [.bi .lss 9 8] (0::1::zn 5 (7::8::9::17::zn 6 []))<|
 .seq (.cond 10 .skip (.exit 0))<|
 .seq (.block 1<|zr [.p,.ix 7 [] 9,.p,.p,.p] (0::1::zo::9::17::zo::zo::7::8::9::zn 7 [])<|
 .seq (zq (zj [.p,.p,.ca 605 [0,4] 1,.un .not 17,.p]<|zh [(18,false)] [.cy 3,.bi .gtr 19 (.i 0),.cy 20]<|zh [(18,false),(21,true)] [.p,.cy 3,.bi .sub 22 (.i 1),.ix 1 [] 23,.p,.p,.ca 364 [24,4] 1,.bi .geq 25 (.i 0)]<|zh [(18,false)] [.pk 21 26 .f]<|zj [.pk 18 .t 27] []) (0::1::zo::3::4::zo::zo::7::8::9::zo::28::zn 5 [])<|
 .cond 11 (zr [.u false] (zo::zo::17::zn 14 [])<|
 .ret) .skip)<|
 zr [.p,.p,.sb false 1 none (some 3),.ln 17 [],.cs .v (.n 0)] [0,1,zo,zo,4,zo,zo,7,8,9,zo,zo,17,18,19,zo,zo]<|
 .block 2<|.loop<|zr [.bi .lss 14 13] [0,1,zo,zo,4,zo,zo,7,8,9,zo,zo,12,13,14,17,zo]<|
 .seq (.cond 15 .skip (.exit 2))<|
 .seq (.block 3<|zr [.ix 12 [] 14,.p,.p] [0,1,zo,zo,4,17,zo,7,8,9,zo,zo,12,13,14,zo,zo]<|
 zq (zj [.p,.iy 5 (.i 0),.p,.p,.iy 4 (.i 0),.p,.bi .lss 17 18,.p]<|zh [(19,true)] [.p,.iy 4 (.i 0),.p,.p,.iy 5 (.i 1),.p,.bi .lss 20 21]<|zj [.pk 19 22 .f,.p]<|zh [(23,true)] [.p,.iy 5 (.i 1),.p,.p,.iy 4 (.i 1),.p,.bi .lss 24 25]<|zj [.pk 23 26 .f,.p]<|zh [(27,false)] [.p,.iy 4 (.i 0),.p,.p,.iy 5 (.i 0),.p,.bi .lss 28 29,.cy 30]<|zh [(27,false),(31,true)] [.p,.iy 5 (.i 0),.p,.p,.iy 4 (.i 1),.p,.bi .lss 32 33]<|zh [(27,false)] [.pk 31 34 .f,.cy 35]<|zh [(27,false),(36,true)] [.p,.iy 4 (.i 1),.p,.p,.iy 5 (.i 1),.p,.bi .lss 37 38]<|zh [(27,false)] [.pk 36 39 .f]<|zj [.pk 27 .t 40] []) [0,1,zo,zo,4,zo,zo,7,8,9,zo,zo,12,13,14,zo,41]<|
 .cond 16 (zr [.u false] (zo::zo::17::zn 14 [])<|
 .ret) .skip)<|
 zt [.bi .add 14 (.i 1),.p] [0,1,zo,zo,4,zo,zo,7,8,9,zo,zo,12,13,17,zo,zo])<|
 zt [.bi .add 9 (.i 1),.p] (0::1::zn 5 (7::8::17::zn 7 [])))<|
 zr [.u true] (zo::zo::17::zn 14 [])<|
 .ret⟩
def N5:IF:=⟨[],2,6,[2,3],zr [.cs (.o .v) (.l []),.u false] (0::1::zn 4 [])<|
 .seq (zr [.p,.p,.ca 602 [0,1] 1,.un .not 6] [0,1,zo,zo,zo,7]<|
 .cond 5 (zr [.li (.o .v) [],.p,.u false] [zo,zo,6,7,zo,zo]<|
 .ret) .skip)<|
 zr [.p,.p,.p,.bi .sub 0 (.i 1),.ca 652 [0,1,.i 0,6] 1,.p,.bi .sub 0 (.i 1),.li (.o .v) [],.li (.o .v) [],.ca 541 [7,.i 0,8,9,10] 2,.p,.p,.p,.p,.p] (zn 4 (11::zo::[]))<|
 zr [.p,.ca 363 [4,.c (.f 364 [])] 1] (zn 4 (6::zo::[]))<|
 zr [.p,.p,.u true] [zo,zo,4,6,zo,zo]<|
 .ret⟩
def Hy:IF:=⟨[],2,3,[2],zr [.u false] [0,1,zo]<|
 zq (zj [.p,.ln 1 [],.bi .eql 3 (.i 2),.p]<|zh [(4,true)] [.p,.iy 1 (.i 0),.p,.cy 0,.bi .sub 6 (.i 1),.ca 23 [5,.i 0,7] 1]<|zj [.pk 4 8 .f,.p]<|zh [(9,true)] [.p,.iy 1 (.i 1),.p,.cy 0,.bi .sub 11 (.i 1),.ca 23 [10,.i 0,12] 1]<|zj [.pk 9 13 .f,.p]<|zh [(14,true)] [.p,.iy 1 (.i 1),.p,.p,.iy 1 (.i 0),.p,.bi .sub 15 16,.bi .geq 17 (.i 2)]<|zj [.pk 14 18 .f,.p]<|zh [(19,true)] [.p,.iy 1 (.i 0),.p,.bi .neq 20 (.i 0),.cy 21]<|zh [(19,true),(22,false)] [.p,.iy 1 (.i 1),.p,.cy 0,.bi .sub 24 (.i 1),.bi .neq 23 25]<|zh [(19,true)] [.pk 22 .t 26]<|zj [.pk 19 27 .f,.p] []) [zo,zo,28]<|
 .ret⟩
def Kj:IF:=⟨[],3,11,[3,2],zr [.u false] (0::1::2::zn 8 [])<|
 .seq (zr [.p,.p,.bi .sub 1 0,.bi .eql 11 (.i 1)] (0::1::2::zo::zo::12::zn 5 [])<|
 .cond 5 (zr [.u true] (zo::zo::2::11::zn 7 [])<|
 .ret) .skip)<|
 .seq (zr [.gt 2 [.k 0],.ln 11 [],.cs .v (.n 0)] [0,1,2,zo,zo,zo,11,12,13,zo,zo]<|
 .block 0<|.loop<|zr [.bi .lss 8 7] [0,1,2,zo,zo,zo,6,7,8,11,zo]<|
 .seq (.cond 9 .skip (.exit 0))<|
 .seq (.block 1<|zr [.ix 6 [] 8,.p,.p] [0,1,2,zo,11,zo,6,7,8,zo,zo]<|
 zq (zj [.p,.ix 4 [] (.i 0),.p,.p,.bi .eql 11 0,.p]<|zh [(12,true)] [.cy 4,.ix 13 [] (.i 1),.p,.cy 1,.bi .eql 14 15]<|zj [.pk 12 16 .f] []) [0,1,2,zo,zo,zo,6,7,8,zo,17]<|
 .cond 10 (zr [.u true] (zo::zo::2::11::zn 7 [])<|
 .ret) .skip)<|
 zt [.bi .add 8 (.i 1),.p] [0,1,2,zo,zo,zo,6,7,11,zo,zo])<|
 zr [.u false] (zo::zo::2::11::zn 7 [])<|
 .ret⟩
end Go.Cat
namespace Go.Cat
def Kt:IF:=⟨[],1,8,[1],zr [.cs .v (.s [])] (0::zn 7 [])<|
 zr [.cs .v (.s [])] (0::zo::8::zn 5 [])<|
 .seq (zr [.cs .v (.n 0)] (0::zo::2::8::zn 4 [])<|
 .block 0<|.loop<|.seq (zr [.p,.p,.ln 0 [],.bi .lss 3 8] [0,zo,2,3,9,zo,zo,zo]<|
 .cond 4 .skip (.exit 0))<|
 .seq (.block 1<|.seq (zq (zj [.p,.p,.ix 0 [] 3,.p,.ln 8 [],.bi .neq 9 (.i 2),.p]<|zh [(10,false)] [.p,.cy 3,.ix 0 [] 11,.p,.iy 12 (.i 0),.p,.ca 22 [13,.i 0,.i 9] 1,.un .not 14]<|zj [.pk 10 .t 15,.p]<|zh [(16,false)] [.p,.cy 3,.ix 0 [] 17,.p,.iy 18 (.i 1),.p,.ca 22 [19,.i 0,.i 9] 1,.un .not 20]<|zj [.pk 16 .t 21,.p]<|zh [(22,false)] [.p,.ln 0 [],.bi .gtr 23 (.i 20)]<|zj [.pk 22 .t 24] []) [0,zo,2,3,zo,25,zo,zo]<|
 .cond 5 (zr [.cs .v (.s [])] (zo::8::zn 6 [])<|
 .ret) .skip)<|
 .seq (zr [.p,.bi .gtr 3 (.i 0)] [0,zo,2,3,zo,zo,8,zo]<|
 .cond 6 (zt [.p,.bi .add 2 (.c (.s [32])),.p] (0::zo::8::3::zn 4 [])) .skip)<|
 zt [.p,.p,.p,.ix 0 [] 3,.p,.iy 8 (.i 0),.p,.ca 138 [9] 1,.bi .add 2 10,.p,.p,.ix 0 [] 3,.p,.iy 12 (.i 1),.p,.ca 138 [13] 1,.bi .add 11 14,.p] (0::zo::15::3::zn 4 []))<|
 zt [.p,.bi .add 3 (.i 1),.p] (0::zo::2::8::zn 4 []))<|
 .seq (zr [.p,.bi .eql 2 (.c (.s []))] (zo::zo::2::zn 4 (8::[]))<|
 .cond 7 (zr [.cs .v (.s [110,111,110,101])] (zo::8::zn 6 [])<|
 .ret) .skip)<|
 zr [.p,.p] (zo::2::zn 6 [])<|
 .ret⟩
def Il:IF:=⟨[],2,11,[2],zr [.u false] (0::1::zn 9 [])<|
 .seq (zq (zj [.p,.ca 22 [0,.i 2,.i 10] 1,.un .not 11,.p]<|zh [(12,false)] [.p,.ln 1 [],.cy 0,.bi .sub 14 (.i 3),.mx (.i 0) 15,.bi .neq 13 16]<|zj [.pk 12 .t 17] []) (0::1::zo::zo::zo::18::zn 5 [])<|
 .cond 5 (zr [.u false] (zo::zo::11::zn 8 [])<|
 .ret) .skip)<|
 .seq (zr [.cs .v (.n 0)] (0::1::zo::11::zn 7 [])<|
 .block 0<|.loop<|.seq (zr [.p,.p,.ln 1 [],.bi .lss 3 11] (0::1::zo::3::zo::zo::12::zn 4 [])<|
 .cond 6 .skip (.exit 0))<|
 .seq (.block 1<|.seq (zq (zj [.p,.p,.ix 1 [] 3,.p,.ln 11 [],.bi .neq 12 (.i 2),.p]<|zh [(13,false)] [.p,.cy 3,.ix 1 [] 14,.p,.iy 15 (.i 0),.p,.cy 0,.bi .sub 17 (.i 1),.ca 22 [16,.i 0,18] 1,.un .not 19]<|zj [.pk 13 .t 20,.p]<|zh [(21,false)] [.p,.cy 3,.ix 1 [] 22,.p,.iy 23 (.i 1),.p,.p,.cy 3,.ix 1 [] 25,.p,.iy 26 (.i 0),.p,.bi .add 27 (.i 2),.cy 0,.bi .sub 29 (.i 1),.ca 22 [24,28,30] 1,.un .not 31]<|zj [.pk 21 .t 32,.p]<|zh [(33,false)] [.p,.cy 3,.ix 1 [] 34,.p,.iy 35 (.i 0),.p,.bi .eql 36 (.i 0),.cy 37]<|zh [(33,false),(38,true)] [.p,.cy 3,.ix 1 [] 39,.p,.iy 40 (.i 1),.p,.cy 0,.bi .sub 42 (.i 1),.bi .eql 41 43]<|zh [(33,false)] [.pk 38 44 .f]<|zj [.pk 33 .t 45] []) [0,1,zo,3,zo,zo,zo,46,zo,zo,zo]<|
 .cond 7 (zr [.u false] (zo::zo::11::zn 8 [])<|
 .ret) .skip)<|
 .seq (zq (zj [.p,.bi .gtr 3 (.i 0),.p]<|zh [(11,true)] [.p,.cy 3,.bi .sub 12 (.i 1),.ix 1 [] 13,.p,.p,.cy 3,.ix 1 [] 15,.p,.ca 374 [14,16] 1,.un .not 17]<|zj [.pk 11 18 .f] []) (0::1::zo::3::zn 4 (19::zo::zo::[]))<|
 .cond 8 (zr [.u false] (zo::zo::11::zn 8 [])<|
 .ret) .skip)<|
 zr [.cs .v (.n 0)] (0::1::zo::3::11::zn 6 [])<|
 .block 2<|.loop<|.seq (zr [.p,.p,.bi .lss 4 3] (0::1::zo::3::4::zn 4 (11::zo::[]))<|
 .cond 9 .skip (.exit 2))<|
 .seq (.block 3<|zr [.p,.p,.ix 1 [] 4,.p,.p,.p,.ix 1 [] 3,.p,.ca 603 [11,12] 1] (0::1::zo::3::4::zn 5 (13::[]))<|
 .cond 10 (zr [.u false] (zo::zo::11::zn 8 [])<|
 .ret) .skip)<|
 zt [.p,.bi .add 4 (.i 1),.p] (0::1::zo::3::11::zn 6 []))<|
 zt [.p,.bi .add 3 (.i 1),.p] (0::1::zo::11::zn 7 []))<|
 zr [.u true] (zo::zo::11::zn 8 [])<|
 .ret⟩
def GO:IF:=⟨[],2,13,[2,3],zr [.cs (.o .v) (.l []),.u false] (0::1::zn 11 [])<|
 zr [.li (.o .v) [],.p] (0::1::zo::zo::13::zn 8 [])<|
 .seq (zr [.p,.p,.ca 600 [0,1] 1,.un .not 13] (0::1::zo::zo::4::zo::zo::zo::14::zn 4 [])<|
 .cond 8 (zr [.p,.p,.u false] (zo::zo::4::13::zn 9 [])<|
 .ret) .skip)<|
 .seq (zr [.cs .v (.n 0)] (0::1::zo::zo::4::13::zn 7 [])<|
 .block 0<|.loop<|.seq (zr [.p,.p,.bi .lss 5 0] [0,1,zo,zo,4,5,zo,zo,zo,13,zo,zo,zo]<|
 .cond 9 .skip (.exit 0))<|
 .seq (.block 1<|zr [.p,.bi .add 5 (.i 1),.p] (0::1::zo::zo::4::5::13::zn 6 [])<|
 .block 2<|.loop<|.seq (zr [.p,.p,.bi .lss 6 0] [0,1,zo,zo,4,5,6,zo,zo,zo,13,zo,zo]<|
 .cond 10 .skip (.exit 2))<|
 .seq (.block 3<|zr [.p,.bi .add 6 (.i 1),.p] (0::1::zo::zo::4::5::6::13::zn 5 [])<|
 .block 4<|.loop<|.seq (zr [.p,.p,.bi .lss 7 0] [0,1,zo,zo,4,5,6,7,zo,zo,zo,13,zo]<|
 .cond 11 .skip (.exit 4))<|
 .seq (.block 5<|zq (zj [.p,.p,.p,.p,.ca 604 [0,1,5,6] 1,.p]<|zh [(13,true)] [.cy 0,.p,.cy 6,.cy 7,.ca 604 [14,1,15,16] 1]<|zj [.pk 13 17 .f,.p]<|zh [(18,true)] [.cy 0,.p,.cy 5,.cy 7,.ca 604 [19,1,20,21] 1]<|zj [.pk 18 22 .f] []) (0::1::zo::zo::4::5::6::7::zn 4 (23::[]))<|
 .cond 12 (zt [.p,.p,.p,.p,.li (.o .v) [5,6,7],.li (.o .v) [13],.ap false 4 14,.p] (0::1::zo::zo::15::5::6::7::zn 5 [])) .skip)<|
 zt [.p,.bi .add 7 (.i 1),.p] (0::1::zo::zo::4::5::6::13::zn 5 []))<|
 zt [.p,.bi .add 6 (.i 1),.p] (0::1::zo::zo::4::5::13::zn 6 []))<|
 zt [.p,.bi .add 5 (.i 1),.p] (0::1::zo::zo::4::13::zn 7 []))<|
 zr [.p,.p,.u true] (zo::zo::4::13::zn 9 [])<|
 .ret⟩
def L6:IF:=⟨[],1,5,[1,2],zr [.cs (.o .v) (.l []),.u false] (0::zn 4 [])<|
 .seq (zr [.p,.ca 160 [0] 1,.un .not 5] [0,zo,zo,zo,6]<|
 .cond 4 (zr [.li (.o .v) [],.p,.u false] [zo,5,6,zo,zo]<|
 .ret) .skip)<|
 zr [.p,.ca 162 [0] 1,.bi .add 5 (.i 2),.p] [0,zo,zo,6,zo]<|
 zr [.p,.p,.bi .sub 3 (.i 1),.li (.o .v) [],.p,.ca 540 [0,.i 0,5,6,3] 1,.p,.u true] [zo,7,8,zo,zo]<|
 .ret⟩
def Na:IF:=⟨[],1,11,[1,2,0],zr [.cs .v (.n 0),.cs (.o .v) (.l [])] (0::zn 10 [])<|
 zr [.p,.ca 317 [0] 2,.p] (12::zo::zo::11::zn 7 [])<|
 zr [.p,.ca 513 [3] 1,.ca 531 [11] 2,.p,.p,.p,.p,.p] (0::zo::zo::3::12::zn 6 [])<|
 zr [.p,.sn 3,.bi .quo 11 (.i 2),.bi .add 12 (.i 2),.p] (0::zo::zo::zo::4::13::zn 5 [])<|
 .seq (zr [.p,.ca 289 [0,.i 14] 2] (12::zo::zo::zo::4::5::11::zn 4 [])<|
 .block 0<|zr [.bi .eql 6 (.i 0),.p] [0,zo,zo,zo,4,5,6,11,zo,zo,zo]<|
 .cond 7 (zt [.p,.p,.bi .add 5 (.i 1),.li (.o .v) [11,.i 0,.i (-1),.i 9223372036854775807],.ca 313 [0,12] 2,.p] (14::zo::zo::zo::4::13::zn 5 [])) (zr [.bi .eql 6 (.i 1),.p] [0,zo,zo,zo,4,5,6,zo,11,zo,zo]<|
 .cond 8 (zr [.p,.ln 4 [],.bi .gtr 11 (.i 0)] [0,zo,zo,zo,4,5,zo,zo,zo,12,zo]<|
 .cond 9 (zt [.p,.p,.ca 289 [0,.i 5] 2,.bi .sub 11 (.i 1),.p,.ca 289 [12,.i 6] 2,.li (.o .v) [13,14],.ix 4 [] (.i 0),.up 4 [.k 0] 16] (15::zo::zo::zo::18::5::zn 5 [])) .skip) (zr [.bi .eql 6 (.i 2),.p] (0::zo::zo::zo::4::5::zn 4 (11::[]))<|
 .cond 10 (zt [.p,.li (.o .v) [.i 0],.li (.o .v) [11],.ap false 4 12,.p] (0::zo::zo::zo::13::5::zn 5 [])) .skip)))<|
 zr [.p,.p,.p,.p] (0::5::4::zn 8 [])<|
 .ret⟩
def MN:IF:=⟨[],2,3,[2],zr [.u false] [0,1,zo]<|
 zq (zj [.p,.iy 0 (.i 0),.p,.p,.iy 1 (.i 0),.p,.bi .lss 3 4,.p]<|zh [(5,false)] [.p,.iy 0 (.i 0),.p,.p,.iy 1 (.i 0),.p,.bi .eql 6 7,.cy 8]<|zh [(5,false),(9,true)] [.p,.iy 0 (.i 1),.p,.p,.iy 1 (.i 1),.p,.bi .lss 10 11]<|zh [(5,false)] [.pk 9 12 .f]<|zj [.pk 5 .t 13,.p] []) [zo,zo,14]<|
 .ret⟩
def Lv:IF:=⟨[],2,3,[2],zr [.u false] [0,1,zo]<|
 zq (zj [.p,.iy 0 (.i 0),.p,.p,.iy 1 (.i 0),.p,.bi .lss 3 4,.p]<|zh [(5,true)] [.p,.iy 1 (.i 0),.p,.p,.iy 0 (.i 1),.p,.bi .lss 6 7]<|zj [.pk 5 8 .f,.p]<|zh [(9,true)] [.p,.iy 0 (.i 1),.p,.p,.iy 1 (.i 1),.p,.bi .lss 10 11]<|zj [.pk 9 12 .f,.p]<|zh [(13,false)] [.p,.iy 1 (.i 0),.p,.p,.iy 0 (.i 0),.p,.bi .lss 14 15,.cy 16]<|zh [(13,false),(17,true)] [.p,.iy 0 (.i 0),.p,.p,.iy 1 (.i 1),.p,.bi .lss 18 19]<|zh [(13,false)] [.pk 17 20 .f,.cy 21]<|zh [(13,false),(22,true)] [.p,.iy 1 (.i 1),.p,.p,.iy 0 (.i 1),.p,.bi .lss 23 24]<|zh [(13,false)] [.pk 22 25 .f]<|zj [.pk 13 .t 26,.p] []) [zo,zo,27]<|
 .ret⟩
def Iw:IF:=⟨[],5,10,[5],zr [.cs (.o .v) (.l [])] (0::1::2::3::4::zn 5 [])<|
 .seq (zr [.p,.bi .eql 0 (.c (.s [46]))] [0,1,2,3,4,zo,zo,zo,10,zo]<|
 .cond 8 (zr [.p,.p] (zn 5 (3::zn 4 []))<|
 .ret) .skip)<|
 .seq (zq (zj [.p,.p,.bi .sub 2 1,.bi .gtr 10 (.i 1),.p]<|zh [(11,true)] [.cy 1,.bi .eql 12 (.i 0),.cy 13]<|zh [(11,true),(14,true)] [.cy 2,.cy 4,.bi .sub 16 (.i 1),.bi .eql 15 17]<|zh [(11,true)] [.pk 14 18 .f,.un .not 19]<|zj [.pk 11 20 .f] []) (0::1::2::3::4::zn 4 (21::[]))<|
 .cond 9 (zt [.cy 3,.p,.p,.li (.o .v) [1,2],.ca 362 [10,11] 1,.p] (0::1::2::12::4::zn 5 [])) .skip)<|
 zr [.p,.ca 188 [0,.i 1] 1,.p] [0,1,2,3,4,zo,10,zo,zo,zo]<|
 zr [.p,.bi .add 1 (.i 1),.p,.p,.ss 0 (some (.i 1)) (some 6),.ca 162 [11] 1,.bi .add 10 12,.p] [0,1,2,3,4,zo,6,13,zo,zo]<|
 zr [.p,.p,.ss 0 (some (.i 1)) (some 6),.p,.p,.p,.p,.ca 540 [10,1,7,3,4] 1,.p] [0,zo,2,11,4,zo,6,7,zo,zo]<|
 zr [.p,.p,.p,.sn 0,.bi .sub 10 (.i 1),.ss 0 (some 6) (some 11),.p,.p,.p,.p,.ca 540 [12,7,2,3,4] 1,.p] (zn 5 (13::zn 4 []))<|
 .ret⟩
def Ld:IF:=⟨[],2,5,[2],zr [.cs (.o .v) (.l [])] [0,1,zo,zo,zo]<|
 zr [.p,.ln 0 [],.p] [0,1,zo,5,zo]<|
 .seq (.block 0<|.loop<|.seq (zq (zj [.p,.bi .gtr 3 (.i 0),.p]<|zh [(5,true)] [.cy 1,.cy 0,.cy 3,.bi .sub 8 (.i 1),.ix 7 [] 9,.p,.ca 374 [6,10] 1]<|zj [.pk 5 11 .f] []) [0,1,zo,3,12]<|
 .cond 4 .skip (.exit 0))<|
 .block 1<|zt [.p,.bi .sub 3 (.i 1),.p] [0,1,zo,5,zo])<|
 zr [.li (.o .v) [],.p,.p,.sb false 0 none (some 3),.ap false 5 6,.p,.li (.o .v) [1],.ap false 7 8,.p,.p,.sb false 0 (some 3) none,.ap false 9 10,.p] [zo,zo,11,zo,zo]<|
 .ret⟩
def NG:IF:=⟨[],4,9,[4],zr [.u false] (0::1::2::3::zn 5 [])<|
 .seq (zq (zj [.p,.p,.bi .add 2 (.i 1),.bi .eql 3 9,.p]<|zh [(10,false)] [.cy 2,.bi .eql 11 (.i 0),.cy 12]<|zh [(10,false),(13,true)] [.cy 3,.cy 0,.bi .sub 15 (.i 1),.bi .eql 14 16]<|zh [(10,false)] [.pk 13 17 .f]<|zj [.pk 10 .t 18] []) [zo,1,2,3,zo,zo,19,zo,zo]<|
 .cond 6 (zr [.u true] (zn 4 (9::zn 4 []))<|
 .ret) .skip)<|
 .seq (zr [.cs .v (.n 0)] [zo,1,2,3,zo,9,zo,zo,zo]<|
 .block 0<|.loop<|.seq (zr [.p,.p,.ln 1 [],.bi .lss 5 9] [zo,1,2,3,zo,5,zo,10,zo]<|
 .cond 7 .skip (.exit 0))<|
 .seq (.block 1<|zq (zj [.p,.p,.ix 1 [] 5,.p,.iy 9 (.i 0),.p,.p,.bi .eql 10 2,.p]<|zh [(11,true)] [.p,.cy 5,.ix 1 [] 12,.p,.iy 13 (.i 1),.p,.cy 3,.bi .eql 14 15]<|zj [.pk 11 16 .f] []) [zo,1,2,3,zo,5,zo,zo,17]<|
 .cond 8 (zr [.u true] (zn 4 (9::zn 4 []))<|
 .ret) .skip)<|
 zt [.p,.bi .add 5 (.i 1),.p] [zo,1,2,3,zo,9,zo,zo,zo])<|
 zr [.u false] (zn 4 (9::zn 4 []))<|
 .ret⟩
end Go.Cat
namespace Go.Cat
end Go.Cat
namespace Go.Cat
end Go.Cat
namespace Go.Cat
end Go.Cat
namespace Go.Cat
end Go.Cat
namespace Go.Cat
end Go.Cat
namespace Go.Cat
end Go.Cat
namespace Go.Cat
end Go.Cat
namespace Go.Cat
def Mq:IF:=⟨[],1,3,[1],zr [.u false] [0,zo,zo]<|
 zr [.p,.ca 194 [0] 2,.p,.p,.p,.p,.p] [zo,zo,4]<|
 zr [.p,.p] [zo,2,zo]<|
 .ret⟩
def I0:IF:=⟨[],1,5,[1],zr [.cs .v (.n 0)] (0::zn 4 [])<|
 zr [.p,.ca 194 [0] 2,.p,.p,.p,.p,.p] [zo,zo,5,6,zo]<|
 .seq (zr [.p,.un .not 3] [zo,zo,2,zo,5]<|
 .cond 4 (zr [.cs .v (.n (-1))] [zo,5,zo,zo,zo]<|
 .ret) .skip)<|
 zr [.p,.ca 197 [2] 1,.p] [zo,5,zo,zo,zo]<|
 .ret⟩
def I9:IF:=⟨[],1,7,[1,2],zr [.cs .v .z,.u false] (0::zn 6 [])<|
 .seq (zr [.p,.sn 0,.bi .gtr 7 (.i 25)] (0::zn 4 (8::zo::[]))<|
 .cond 5 (zr [.cs .v .z,.u false] (zo::7::8::zn 4 [])<|
 .ret) .skip)<|
 zr [.p,.ca 208 [0,.i 0] 2,.p,.p,.p,.p,.p] [0,zo,zo,7,8,zo,zo]<|
 .seq (zq (zj [.p,.p,.sn 0,.bi .neq 4 7,.p]<|zh [(8,false)] [.cy 3,.ca 197 [9] 1,.bi .gtr 10 (.i 8)]<|zj [.pk 8 .t 11] []) [zo,zo,zo,3,zo,zo,12]<|
 .cond 6 (zr [.cs .v .z,.u false] (zo::7::8::zn 4 [])<|
 .ret) .skip)<|
 zr [.p,.p,.u true] (zo::3::7::zn 4 [])<|
 .ret⟩
def Fb:IF:=⟨[],2,14,[2,3],zr [.cs .v .z,.cs .v (.n 0)] (0::1::zn 12 [])<|
 .seq (zr [.p,.p,.sn 0,.bi .geq 1 14] (0::1::zn 6 (15::zn 5 []))<|
 .cond 8 (zr [.cs .v .z,.cs .v (.n (-1))] (zo::zo::14::15::zn 10 [])<|
 .ret) .skip)<|
 .seq (zr [.p,.p,.sx 0 1] (0::1::zn 7 (14::zn 4 []))<|
 .block 0<|zr [.bi .eql 9 (.c (.y 46)),.p] (0::1::zn 7 (9::14::zo::zo::zo::[]))<|
 .cond 10 (zr [.p,.bi .add 1 (.i 1),.cs .v .z,.p] (zo::zo::15::14::zn 10 [])<|
 .ret) (zr [.bi .eql 9 (.c (.y 40)),.p] (0::1::zn 9 (14::zo::zo::[]))<|
 .cond 11 (zr [.p,.p,.bi .add 1 (.i 1),.ca 208 [0,14] 2,.p,.p,.p,.p,.p] (0::zo::zo::zo::15::16::zn 8 [])<|
 .seq (zr [.p,.bi .lss 5 (.i 0)] (0::zo::zo::zo::4::5::zn 6 (14::zo::[]))<|
 .cond 12 (zr [.cs .v .z,.cs .v (.n (-1))] (zo::zo::14::15::zn 10 [])<|
 .ret) .skip)<|
 zr [.p,.p,.ca 208 [0,5] 2,.p,.p,.p,.p,.p] (0::zo::zo::zo::4::zo::14::15::zn 6 [])<|
 .seq (zq (zj [.p,.bi .lss 7 (.i 0),.p]<|zh [(14,false)] [.cy 7,.cy 0,.sn 16,.bi .geq 15 17]<|zj [.pk 14 .t 18,.p]<|zh [(19,false)] [.cy 0,.cy 7,.sx 20 21,.bi .neq 22 (.c (.y 41))]<|zj [.pk 19 .t 23] []) (zn 4 (4::zo::6::7::zn 5 (24::[])))<|
 .cond 13 (zr [.cs .v .z,.cs .v (.n (-1))] (zo::zo::14::15::zn 10 [])<|
 .ret) .skip)<|
 zr [.p,.p,.bg 0 [(.e 4,0),(.e 6,0)],.bp 14,.p,.bi .add 7 (.i 1),.p,.p] (zo::zo::15::16::zn 10 [])<|
 .ret) .skip))<|
 zr [.cs .v .z,.cs .v (.n (-1))] (zo::zo::14::15::zn 10 [])<|
 .ret⟩
end Go.Cat
namespace Go.Cat
def NW:IF:=⟨[],1,2,[1],zr [.u false] [0,zo]<|
 zq (zj [.p,.sn 0,.bi .leq 2 (.i 25),.p]<|zh [(3,true)] [.cy 0,.ca 188 [4,.i 0] 1,.cy 0,.sn 6,.bi .eql 5 7]<|zj [.pk 3 8 .f,.p]<|zh [(9,true)] [.cy 0,.bi .neq 10 (.c (.s []))]<|zj [.pk 9 11 .f,.p] []) [zo,12]<|
 .ret⟩
def M7:IF:=⟨[],1,3,[1],zr [.cs .v (.n 0)] [0,zo,zo]<|
 .seq (zr [.p,.ca 160 [0] 1,.un .not 3] [0,zo,4]<|
 .cond 2 (zr [.cs .v (.n (-1))] [zo,3,zo]<|
 .ret) .skip)<|
 zr [.p,.sn 0,.bi .sub 3 (.i 1),.bi .quo 4 (.i 3),.p] [zo,5,zo]<|
 .ret⟩
def M9:IF:=⟨[],1,6,[1,0],zr [.cs .v (.s [])] (0::zn 5 [])<|
 zr [.p,.ca 317 [0] 2,.ca 513 [6] 1,.p] [7,zo,8,zo,zo,zo]<|
 .seq (zr [.p,.ca 289 [0,.i 12] 2] [7,zo,2,6,zo,zo]<|
 .block 0<|zr [.bi .eql 3 (.i 0),.p] [0,zo,2,3,6,zo]<|
 .cond 4 (zr [.p,.p,.ca 315 [0,2] 2,.p] (7::6::zn 4 [])<|
 .ret) (zr [.bi .eql 3 (.i 1),.p] [0,zo,2,zo,zo,6]<|
 .cond 5 (zr [.p,.li (.o .v) [.c (.s []),.c (.s [46]),.c (.s [40,46,46,41]),.c (.s [46,46]),.c (.s [40,46,41]),.c (.s [40,46,46,46,41]),.c (.s [40,46,46]),.c (.s [40,46,46,41,41])],.ca 318 [0,6] 2,.p] (8::7::zn 4 [])<|
 .ret) .skip))<|
 zr [.p,.p] (0::2::zn 4 [])<|
 .ret⟩
def Ie:IF:=⟨[],1,4,[1],zr [.cs .v (.s [])] [0,zo,zo,zo]<|
 .seq (zr [.p,.bi .eql 0 (.c (.s []))] [0,zo,zo,4]<|
 .cond 3 (zr [.cs .v (.s [46])] [zo,4,zo,zo]<|
 .ret) .skip)<|
 zr [.p,.ca 518 [0] 1,.p] [0,zo,4,zo]<|
 zr [.p,.p,.ss 0 (some (.i 1)) (some 2),.ca 513 [4] 1,.bi .add (.c (.s [40])) 5,.p,.p,.bi .add 2 (.i 1),.ss 0 (some 7) none,.ca 513 [8] 1,.bi .add 6 9,.bi .add 10 (.c (.s [41])),.p] [zo,11,zo,zo]<|
 .ret⟩
def Fh:IF:=⟨[],2,10,[2],zr [.cs .v (.n 0)] (0::1::zn 8 [])<|
 .seq (zr [.p,.p,.sn 0,.bi .geq 1 10] (0::1::zo::zo::zo::11::zn 4 [])<|
 .cond 5 (zr [.cs .v (.n (-1))] (zo::zo::10::zn 7 [])<|
 .ret) .skip)<|
 .seq (zr [.p,.p,.sx 0 1,.bi .eql 10 (.c (.y 46))] (0::1::zn 4 (11::zo::zo::zo::[]))<|
 .cond 6 (zr [.p,.bi .add 1 (.i 1),.p] (zo::zo::10::zn 7 [])<|
 .ret) .skip)<|
 .seq (zr [.p,.p,.sx 0 1,.bi .neq 10 (.c (.y 40))] (0::1::zn 5 (11::zo::zo::[]))<|
 .cond 7 (zr [.cs .v (.n (-1))] (zo::zo::10::zn 7 [])<|
 .ret) .skip)<|
 zr [.p,.p,.bi .add 1 (.i 1),.ca 188 [0,10] 1,.p] (0::zo::zo::11::zn 6 [])<|
 .seq (zr [.p,.bi .lss 3 (.i 0)] (0::zo::zo::3::zn 4 (10::zo::[]))<|
 .cond 8 (zr [.cs .v (.n (-1))] (zo::zo::10::zn 7 [])<|
 .ret) .skip)<|
 zr [.p,.p,.ca 188 [0,3] 1,.p] (0::zo::zo::zo::10::zn 5 [])<|
 .seq (zq (zj [.p,.bi .lss 4 (.i 0),.p]<|zh [(10,false)] [.cy 4,.cy 0,.sn 12,.bi .geq 11 13]<|zj [.pk 10 .t 14,.p]<|zh [(15,false)] [.cy 0,.cy 4,.sx 16 17,.bi .neq 18 (.c (.y 41))]<|zj [.pk 15 .t 19] []) (zn 4 (4::zn 4 (20::[])))<|
 .cond 9 (zr [.cs .v (.n (-1))] (zo::zo::10::zn 7 [])<|
 .ret) .skip)<|
 zr [.p,.bi .add 4 (.i 1),.p] (zo::zo::10::zn 7 [])<|
 .ret⟩
end Go.Cat
namespace Go.Cat
end Go.Cat
namespace Go.Cat
end Go.Cat
namespace Go.Cat
def LG:IF:=⟨[],2,16,[2],zr [.cs (.o .v) (.l [])] (0::1::zn 14 [])<|
 .seq (zq (zj [.p,.bi .lss 0 (.i 3),.p]<|zh [(16,false)] [.cy 0,.p,.ca 602 [17,1] 1,.un .not 18]<|zj [.pk 16 .t 19] []) (0::1::zn 5 (20::zn 8 []))<|
 .cond 7 (zr [.li (.o .v) [],.p] (zo::zo::16::zn 13 [])<|
 .ret) .skip)<|
 zr [.p,.mk (.n 0) 0 0,.p] (0::1::zo::16::zn 12 [])<|
 zr [.p,.p,.ca 647 [0,1] 2,.p,.p,.p,.p,.p] (zo::zo::zo::3::16::zn 11 [])<|
 .seq (zr [.p,.ln 4 [],.cs .v (.n 0)] (zo::zo::zo::3::zn 4 (4::16::17::zn 5 []))<|
 .block 0<|.loop<|zr [.bi .lss 10 9] (zo::zo::zo::3::zn 4 (8::9::10::16::zn 4 []))<|
 .seq (.cond 11 .skip (.exit 0))<|
 .seq (.block 1<|zr [.ix 8 [] 10,.p,.p] (zo::zo::zo::3::zo::16::zo::zo::8::9::10::zn 5 [])<|
 zr [.p,.ln 5 [],.cs .v (.n 0)] (zo::zo::zo::3::zn 4 (8::9::10::zo::5::16::17::zo::[]))<|
 .block 2<|.loop<|zr [.bi .lss 14 13] (zo::zo::zo::3::zn 4 (8::9::10::zo::12::13::14::16::[]))<|
 .seq (.cond 15 .skip (.exit 2))<|
 .seq (.block 3<|zr [.ix 12 [] 14,.p,.p] [zo,zo,zo,3,zo,zo,16,zo,8,9,10,zo,12,13,14,zo]<|
 zt [.p,.p,.ix 3 [] 6,.p,.bi .add 16 (.i 1),.ix 3 [] 6,.up 3 [.e 6] 17] (zo::zo::zo::19::zn 4 (8::9::10::zo::12::13::14::zo::[])))<|
 zt [.bi .add 14 (.i 1),.p] (zo::zo::zo::3::zn 4 (8::9::10::zo::12::13::16::zo::[])))<|
 zt [.bi .add 10 (.i 1),.p] (zo::zo::zo::3::zn 4 (8::9::16::zn 5 [])))<|
 zr [.p,.p] (zo::zo::3::zn 13 [])<|
 .ret⟩
def NX:IF:=⟨[],1,6,[1,2],zr [.cs (.o .v) (.l []),.u false] (0::zn 5 [])<|
 zr [.p,.ca 204 [0] 2,.p,.p,.p,.p,.p] [zo,zo,zo,6,7,zo]<|
 .seq (zr [.p,.un .not 4] [zo,zo,zo,3,zo,6]<|
 .cond 5 (zr [.li (.o .v) [],.p,.u false] [zo,6,7,zo,zo,zo]<|
 .ret) .skip)<|
 zr [.p,.ca 363 [3,.c (.f 364 [])] 1] [zo,zo,zo,6,zo,zo]<|
 zr [.p,.p,.u true] [zo,3,6,zo,zo,zo]<|
 .ret⟩
def LQ:IF:=⟨[],1,23,[1,2],zr [.cs (.o .v) (.l []),.u false] (0::zn 22 [])<|
 .seq (zr [.p,.ln 0 [],.ca 23 [23,.i 3,.i 10] 1,.un .not 24] (0::zn 11 (25::zn 10 []))<|
 .cond 12 (zr [.cs (.o .v) (.l []),.u false] (zo::23::24::zn 20 [])<|
 .ret) .skip)<|
 .seq (zr [.p,.ln 0 [],.cs .v (.n 0)] (0::zn 12 (0::23::24::zn 7 []))<|
 .block 0<|.loop<|zr [.bi .lss 15 14] (0::zn 12 (13::14::15::23::zn 6 []))<|
 .seq (.cond 16 .skip (.exit 0))<|
 .seq (.block 1<|zr [.iy 13 15,.p,.p] (0::zo::zo::23::zn 9 (13::14::15::zn 7 []))<|
 zr [.p,.ca 23 [3,.i 1,.i 100] 1,.un .not 23] (0::zn 12 (13::14::15::zo::24::zn 5 []))<|
 .cond 17 (zr [.cs (.o .v) (.l []),.u false] (zo::23::24::zn 20 [])<|
 .ret) .skip)<|
 zt [.bi .add 15 (.i 1),.p] (0::zn 12 (13::14::23::zn 7 [])))<|
 zr [.p,.ca 75 [0] 1,.p] (0::zo::zo::zo::23::zn 18 [])<|
 zr [.li (.o .v) [],.p] (0::zo::zo::zo::4::23::zn 17 [])<|
 .seq (zr [.p,.ln 0 [],.cs .v (.n 0)] (zn 4 (4::5::zn 12 (23::24::zo::zo::zo::[])))<|
 .block 2<|.loop<|zr [.bi .lss 19 18] (zn 4 (4::5::zn 12 (18::19::23::zo::zo::[])))<|
 .seq (.cond 20 .skip (.exit 2))<|
 .seq (.block 3<|zr [.p,.p] (zn 4 (4::5::19::zn 11 (18::19::zo::zo::zo::[])))<|
 zt [.p,.p,.li (.o .v) [6],.ap false 5 23,.p] (zn 4 (4::24::zn 12 (18::19::zo::zo::zo::[]))))<|
 zt [.bi .add 19 (.i 1),.p] (zn 4 (4::5::zn 12 (18::23::zo::zo::zo::[]))))<|
 zr [.li (.o .v) [],.p] (zn 4 (4::5::zo::23::zn 15 []))<|
 .seq (.block 4<|.loop<|.seq (zr [.p,.ln 4 [],.bi .gtr 23 (.i 3)] (zn 4 (4::5::zo::7::zn 13 (24::zo::[])))<|
 .cond 21 .skip (.exit 4))<|
 .block 5<|zr [.p,.ca 179 [4,.i 1] 1,.p] (zn 4 (4::5::zo::7::23::zn 14 []))<|
 .seq (zr [.p,.bi .lss 8 (.i 0)] (zn 4 (4::5::zo::7::8::zn 13 (23::[])))<|
 .cond 22 (zr [.cs (.o .v) (.l []),.u false] (zo::23::24::zn 20 [])<|
 .ret) .skip)<|
 zr [.p,.ln 4 [],.p] (zn 4 (4::5::zo::7::8::23::zn 13 []))<|
 zr [.p,.p,.bi .add 8 9,.bi .sub 23 (.i 1),.p,.bi .rem 24 9,.p,.bi .add 8 (.i 1),.p,.bi .rem 26 9,.p,.p] (zn 4 (4::5::zo::7::8::zo::25::27::zn 11 []))<|
 zr [.p,.p,.ix 4 [] 10,.p,.bi .sub 23 (.i 1),.ix 4 [] 10,.up 4 [.e 10] 24] (zn 4 (26::5::zo::7::8::zo::10::11::zn 11 []))<|
 zr [.p,.p,.ix 4 [] 11,.p,.bi .sub 23 (.i 1),.ix 4 [] 11,.up 4 [.e 11] 24] (zn 4 (26::5::zo::7::8::zo::10::11::zn 11 []))<|
 zr [.p,.p,.p,.ix 5 [] 10,.p,.p,.p,.ix 5 [] 11,.p,.mn 23 24,.p,.p,.ix 5 [] 10,.p,.p,.p,.ix 5 [] 11,.p,.mx 26 27,.li (.o .v) [25,28],.li (.o .v) [29],.ap false 7 30,.p] (zn 4 (4::5::zo::31::8::zn 14 []))<|
 zr [.p,.p,.p,.bi .add 8 (.i 1),.ca 212 [4,8,23] 1,.p] (zn 4 (24::5::zo::7::8::zn 14 []))<|
 zt [.p,.p,.p,.bi .add 8 (.i 1),.ca 212 [5,8,23] 1,.p] (zn 4 (4::24::zo::7::zn 15 [])))<|
 zr [.p,.p,.li (.o .v) [.i 1,.i 1,.i 1],.ca 72 [4,23] 1,.p,.p] (zo::7::24::zn 20 [])<|
 .ret⟩
end Go.Cat
namespace Go.Cat
def N3:IF:=⟨[],1,11,[1],zr [.u false] (0::zn 10 [])<|
 .seq (zr [.p,.ca 180 [0] 1,.un .not 11] (0::zn 5 (12::zn 4 []))<|
 .cond 6 (zr [.u false] (zo::11::zn 9 [])<|
 .ret) .skip)<|
 zr [.li (.o .v) [],.p,.ap true 11 0,.p] (zo::zo::12::zn 8 [])<|
 .seq (.block 0<|.loop<|.seq (zr [.p,.ln 2 [],.bi .gtr 11 (.i 3)] (zo::zo::2::zn 4 (12::zo::zo::zo::[]))<|
 .cond 7 .skip (.exit 0))<|
 .block 1<|zr [.cs .v (.n (-1))] (zo::zo::2::11::zn 7 [])<|
 .seq (zr [.p,.ln 2 [],.bi .sub 11 (.i 1),.p] (zo::zo::2::3::12::zn 6 [])<|
 .block 2<|.loop<|.seq (zr [.p,.bi .geq 4 (.i 0)] [zo,zo,2,3,4,zo,zo,zo,11,zo,zo]<|
 .cond 8 .skip (.exit 2))<|
 .seq (.block 3<|zr [.p,.p,.ix 2 [] 4,.p,.bi .eql 11 (.i 1)] (zo::zo::2::3::4::zn 4 (12::zo::[]))<|
 .cond 9 (zt [.p,.p] (zo::zo::2::4::4::zn 6 [])) .skip)<|
 zt [.p,.bi .sub 4 (.i 1),.p] (zo::zo::2::3::11::zn 6 []))<|
 .seq (zr [.p,.bi .lss 3 (.i 0)] (zo::zo::2::3::zn 6 (11::[]))<|
 .cond 10 (zr [.u false] (zo::11::zn 9 [])<|
 .ret) .skip)<|
 zr [.p,.ln 2 [],.p] (zo::zo::2::3::zo::11::zn 5 [])<|
 zr [.p,.p,.bi .add 3 (.i 1),.p,.bi .rem 11 5,.p,.p,.bi .add 3 (.i 1),.p,.bi .rem 13 5,.ix 2 [] 14,.p,.bi .sub 15 (.i 1),.ix 2 [] 12,.up 2 [.e 12] 16] (zo::zo::18::3::zo::5::zn 5 [])<|
 zr [.p,.p,.p,.bi .add 3 5,.bi .sub 11 (.i 1),.p,.bi .rem 12 5,.p,.p,.p,.bi .add 3 5,.bi .sub 14 (.i 1),.p,.bi .rem 15 5,.ix 2 [] 16,.p,.bi .sub 17 (.i 1),.ix 2 [] 13,.up 2 [.e 13] 18] (zo::zo::20::3::zn 7 [])<|
 zt [.cy 2,.li (.o .v) [],.p,.p,.sb false 11 none (some 3),.ap false 12 13,.p,.p,.bi .add 3 (.i 1),.sb false 11 (some 15) none,.ap false 14 16,.p] (zo::zo::17::zn 8 []))<|
 zq (zj [.p,.ix 2 [] (.i 0),.p,.bi .eql 11 (.i 1),.p]<|zh [(12,true)] [.p,.ix 2 [] (.i 1),.p,.bi .eql 13 (.i 1)]<|zj [.pk 12 14 .f,.p]<|zh [(15,true)] [.p,.ix 2 [] (.i 2),.p,.bi .eql 16 (.i 1)]<|zj [.pk 15 17 .f,.p] []) (zo::18::zn 9 [])<|
 .ret⟩
def F5:IF:=⟨[],2,13,[2],zr [.cs (.o .v) (.l [])] (0::1::zn 11 [])<|
 zr [.li (.o .v) [],.p] (0::1::zo::13::zn 9 [])<|
 .seq (zr [.p,.bi .lss 0 (.i 3)] (0::1::zo::3::zn 5 (13::zo::zo::zo::[]))<|
 .cond 9 (zr [.p,.p] (zo::zo::3::zn 10 [])<|
 .ret) .skip)<|
 zr [.p,.p,.ca 645 [0,1] 2,.p,.p,.p,.p,.p] (0::zo::zo::3::13::14::zn 7 [])<|
 .seq (zr [.cs .v (.n 0)] (0::zo::zo::3::4::5::13::zn 6 [])<|
 .block 0<|.loop<|.seq (zq (zj [.p,.p,.bi .lss 6 0,.p]<|zh [(13,true)] [.cy 5]<|zj [.pk 13 14 .f] []) [0,zo,zo,3,4,5,6,zo,zo,zo,15,zo,zo]<|
 .cond 10 .skip (.exit 0))<|
 .seq (.block 1<|zr [.cs .v (.n 0)] (0::zo::zo::3::4::5::6::13::zn 5 [])<|
 .seq (zr [.cs .v (.n 0)] (0::zo::zo::3::4::5::6::7::13::zn 4 [])<|
 .block 2<|.loop<|.seq (zr [.p,.p,.ln 4 [],.bi .lss 8 13] [0,zo,zo,3,4,5,6,7,8,zo,zo,14,zo]<|
 .cond 11 .skip (.exit 2))<|
 .seq (.block 3<|zq (zj [.p,.p,.ix 4 [] 8,.p,.ix 13 [] (.i 0),.p,.p,.bi .eql 14 6,.p]<|zh [(15,false)] [.cy 4,.cy 8,.ix 16 [] 17,.p,.ix 18 [] (.i 1),.p,.cy 6,.bi .eql 19 20]<|zj [.pk 15 .t 21,.p]<|zh [(22,false)] [.cy 4,.cy 8,.ix 23 [] 24,.p,.ix 25 [] (.i 2),.p,.cy 6,.bi .eql 26 27]<|zj [.pk 22 .t 28] []) [0,zo,zo,3,4,5,6,7,8,zo,zo,zo,29]<|
 .cond 12 (zt [.p,.bi .add 7 (.i 1),.p] (0::zo::zo::3::4::5::6::13::8::zn 4 [])) .skip)<|
 zt [.p,.bi .add 8 (.i 1),.p] (0::zo::zo::3::4::5::6::7::13::zn 4 []))<|
 zt [.p,.p,.li (.o .v) [7],.ap false 3 13,.p] (0::zo::zo::14::4::5::6::zn 6 []))<|
 zt [.p,.bi .add 6 (.i 1),.p] (0::zo::zo::3::4::5::13::zn 6 []))<|
 zr [.p,.p] (zo::zo::3::zn 10 [])<|
 .ret⟩
def Mz:IF:=⟨[],1,15,[1,2],zr [.cs (.o .v) (.l []),.u false] (0::zn 14 [])<|
 zr [.li (.o .v) [],.p] (0::zo::zo::15::zn 11 [])<|
 .seq (zr [.p,.ca 361 [0] 1,.un .not 15] (0::zo::zo::3::zn 7 (16::zo::zo::zo::[]))<|
 .cond 11 (zr [.p,.p,.u false] (zo::3::15::zn 12 [])<|
 .ret) .skip)<|
 zr [.li (.o .v) [],.p,.ap true 15 0,.p] (0::zo::zo::3::16::zn 10 [])<|
 zr [.li (.o .v) [],.p] (0::zo::zo::3::4::15::zn 9 [])<|
 .seq (zr [.cs .v (.n 0)] (0::zo::zo::3::4::5::15::zn 8 [])<|
 .block 0<|.loop<|.seq (zr [.p,.p,.ln 0 [],.bi .lss 6 15] (0::zo::zo::3::4::5::6::zn 5 (16::zo::zo::[]))<|
 .cond 12 .skip (.exit 0))<|
 .seq (.block 1<|zt [.p,.p,.li (.o .v) [6],.ap false 5 15,.p] (0::zo::zo::3::4::16::6::zn 8 []))<|
 zt [.p,.bi .add 6 (.i 1),.p] (0::zo::zo::3::4::5::15::zn 8 []))<|
 .seq (.block 2<|.loop<|.seq (zr [.p,.ln 4 [],.bi .gtr 15 (.i 3)] (zo::zo::zo::3::4::5::zn 7 (16::zo::[]))<|
 .cond 13 .skip (.exit 2))<|
 .block 3<|zr [.cs .v (.n 0)] (zo::zo::zo::3::4::5::zo::15::zn 7 [])<|
 .seq (.block 4<|.loop<|.seq (zr [.p,.p,.ix 4 [] 7,.p,.bi .neq 15 (.i 1)] (zo::zo::zo::3::4::5::zo::7::zn 6 (16::[]))<|
 .cond 14 .skip (.exit 4))<|
 .block 5<|zt [.p,.bi .add 7 (.i 1),.p] (zo::zo::zo::3::4::5::zo::15::zn 7 []))<|
 zr [.p,.ln 4 [],.p] (zo::zo::zo::3::4::5::zo::7::15::zn 6 [])<|
 zr [.p,.p,.bi .add 7 (.i 1),.p,.bi .rem 15 8,.ix 5 [] 16,.p,.p] (zo::zo::zo::3::4::5::zo::7::8::17::zn 5 [])<|
 zr [.p,.p,.p,.bi .add 7 8,.bi .sub 15 (.i 1),.p,.bi .rem 16 8,.ix 5 [] 17,.p,.p] (zo::zo::zo::3::4::5::zo::7::8::9::18::zn 4 [])<|
 zr [.cy 3,.p,.p,.mn 9 10,.p,.p,.mx 9 10,.li (.o .v) [16,17],.ca 362 [15,18] 1,.p] (zo::zo::zo::19::4::5::zo::7::8::zn 6 [])<|
 zr [.p,.p,.bi .add 7 (.i 1),.p,.bi .rem 15 8,.p,.p,.bi .add 7 (.i 1),.p,.bi .rem 17 8,.ix 4 [] 18,.p,.bi .sub 19 (.i 1),.ix 4 [] 16,.up 4 [.e 16] 20] (zo::zo::zo::3::22::5::zo::7::8::zn 6 [])<|
 zr [.p,.p,.p,.bi .add 7 8,.bi .sub 15 (.i 1),.p,.bi .rem 16 8,.p,.p,.p,.bi .add 7 8,.bi .sub 18 (.i 1),.p,.bi .rem 19 8,.ix 4 [] 20,.p,.bi .sub 21 (.i 1),.ix 4 [] 17,.up 4 [.e 17] 22] (zo::zo::zo::3::24::5::zo::7::zn 7 [])<|
 zr [.cy 4,.li (.o .v) [],.p,.p,.sb false 15 none (some 7),.ap false 16 17,.p,.p,.bi .add 7 (.i 1),.sb false 15 (some 19) none,.ap false 18 20,.p] (zo::zo::zo::3::21::5::zo::7::zn 7 [])<|
 zt [.cy 5,.li (.o .v) [],.p,.p,.sb false 15 none (some 7),.ap false 16 17,.p,.p,.bi .add 7 (.i 1),.sb false 15 (some 19) none,.ap false 18 20,.p] (zo::zo::zo::3::4::21::zn 9 []))<|
 zr [.p,.p,.u true] (zo::3::15::zn 12 [])<|
 .ret⟩
def Kg:IF:=⟨[],1,6,[1,0],zr [.cs (.o .v) (.l [])] (0::zn 5 [])<|
 zr [.p,.ca 650 [0] 3,.p,.p,.p,.p,.p] [8,zo,6,7,zo,zo]<|
 zr [.p,.p,.ca 636 [2,3] 1,.p] [0,zo,zo,zo,6,zo]<|
 .seq (zq (zj [.p,.ln 4 [],.bi .gtr 6 (.i 0),.p]<|zh [(7,true)] [.p]<|⟨[zo,0],[(7,true)],.ca 307 [.e 0,.c (.n 5)] 2⟩::(zj [.pk 7 8 .f] [])) [9,zo,zo,zo,4,10]<|
 .cond 5 (zt [.p,.p,.p,.ln 4 [],.ca 289 [0,6] 2,.p,.li (.o .v) [.i 0,.i 1,.i 2,.i 3,.i 101,.i (-1)],.ca 313 [8,9] 2,.ix 4 [] 7,.up 4 [.e 7] 10] [11,zo,zo,zo,13,zo]) .skip)<|
 zr [.p,.p] (0::4::zn 4 [])<|
 .ret⟩
def ML:IF:=⟨[],1,5,[1],zr [.u false] (0::zn 4 [])<|
 .seq (zr [.cs .v (.n 0)] [0,zo,5,zo,zo]<|
 .block 0<|.loop<|.seq (zr [.p,.p,.ln 0 [],.bi .lss 2 5] [0,zo,2,6,zo]<|
 .cond 3 .skip (.exit 0))<|
 .seq (.block 1<|zr [.p,.p,.iy 0 2,.p,.ca 22 [5,.i 1,.i 100] 1,.un .not 6] [0,zo,2,zo,7]<|
 .cond 4 (zr [.u false] [zo,5,zo,zo,zo]<|
 .ret) .skip)<|
 zt [.p,.bi .add 2 (.i 1),.p] [0,zo,5,zo,zo])<|
 zr [.p,.ln 0 [],.ca 22 [5,.i 3,.i 10] 1,.p] [zo,6,zo,zo,zo]<|
 .ret⟩
end Go.Cat
namespace Go.Cat
def Nj:IF:=⟨[],1,2,[1],zr [.cs (.o .v) (.l [])] [0,zo]<|
 zr [.p,.ca 201 [0,.c (.f 200 [])] 1,.p,.ca 201 [0,.c (.f 202 [])] 1,.ap false 2 3,.p] [zo,4]<|
 .ret⟩
def Km:IF:=⟨[],1,3,[1],zr [.cs (.o .v) (.l [])] [0,zo,zo]<|
 zr [.p,.ca 194 [0] 2,.p,.p,.p,.p,.p] [zo,zo,3]<|
 zr [.p,.li (.o .v) [],.ca 199 [2,3] 1,.p] [zo,4,zo]<|
 .ret⟩
def NV:IF:=⟨[],2,7,[2,3],zr [.cs .v .z,.cs .v .z] (0::1::zn 5 [])<|
 zr [.p,.ca 194 [0] 2,.p,.p,.p,.p,.p] [zo,1,zo,zo,7,8,zo]<|
 .seq (zr [.p,.un .not 5] [zo,1,zo,zo,4,zo,7]<|
 .cond 6 (zr [.cs .v .z,.cs .v .z] [zo,zo,7,8,zo,zo,zo]<|
 .ret) .skip)<|
 zr [.p,.p,.p,.ca 213 [4,1] 1,.p,.p] [zo,zo,4,7,zo,zo,zo]<|
 .ret⟩
def Lf:IF:=⟨[],2,9,[2],zr [.cs (.o .v) (.l [])] (0::1::zn 7 [])<|
 zr [.li (.o .v) [],.p] (0::1::zo::9::zn 5 [])<|
 .seq (zr [.cs .v (.n 0)] (0::1::zo::3::9::zn 4 [])<|
 .block 0<|.loop<|.seq (zr [.p,.p,.ca 169 [0] 1,.bi .lss 4 9] [0,1,zo,3,4,zo,zo,10,zo]<|
 .cond 7 .skip (.exit 0))<|
 .seq (.block 1<|zr [.p,.p,.p,.cd 1 200 [0,4] 2,.p,.p,.p,.p,.p] [0,1,zo,3,4,9,10,zo,zo]<|
 zr [.p] [0,1,zo,3,4,5,zo,zo,6]<|
 .cond 8 (zt [.p,.p,.li (.o .v) [5],.ap false 3 9,.p] (0::1::zo::10::4::zn 4 [])) .skip)<|
 zt [.p,.bi .add 4 (.i 1),.p] (0::1::zo::3::9::zn 4 []))<|
 zr [.p,.p] (zo::zo::3::zn 6 [])<|
 .ret⟩
def C7:IF:=⟨[],2,9,[2],zr [.cs (.o .v) (.l [])] (0::1::zn 7 [])<|
 zr [.li (.o .v) [],.p] (0::1::zo::9::zn 5 [])<|
 .seq (zr [.cs .v (.n 0)] (0::1::zo::3::9::zn 4 [])<|
 .block 0<|.loop<|.seq (zr [.p,.p,.ca 169 [0] 1,.bi .lss 4 9] [0,1,zo,3,4,zo,zo,10,zo]<|
 .cond 7 .skip (.exit 0))<|
 .seq (.block 1<|zr [.p,.p,.p,.cd 1 202 [0,4] 2,.p,.p,.p,.p,.p] [0,1,zo,3,4,9,10,zo,zo]<|
 zr [.p] [0,1,zo,3,4,5,zo,zo,6]<|
 .cond 8 (zt [.p,.p,.li (.o .v) [5],.ap false 3 9,.p] (0::1::zo::10::4::zn 4 [])) .skip)<|
 zt [.p,.bi .add 4 (.i 1),.p] (0::1::zo::3::9::zn 4 []))<|
 zr [.p,.p] (zo::zo::3::zn 6 [])<|
 .ret⟩
end Go.Cat
namespace Go.Cat
def GW:IF:=⟨[],2,11,[2],zr [.u false] (0::1::zn 9 [])<|
 .seq (zr [.p,.p,.ca 367 [0,1,.i 8] 1,.un .not 11] (0::1::zn 4 (12::zn 4 []))<|
 .cond 6 (zr [.u false] (zo::zo::11::zn 8 [])<|
 .ret) .skip)<|
 zr [.p,.ca 171 [0] 1,.p,.ca 171 [1] 1,.p,.p] (zo::zo::zo::11::12::zn 6 [])<|
 .seq (zr [.p,.ln 3 [],.cs .v (.n 0)] [zo,zo,zo,3,4,zo,zo,11,12,zo,zo]<|
 .block 0<|.loop<|zr [.bi .lss 8 7] [zo,zo,zo,3,4,zo,zo,7,8,11,zo]<|
 .seq (.cond 9 .skip (.exit 0))<|
 .seq (.block 1<|zr [.p,.p] [zo,zo,zo,3,4,8,zo,7,8,zo,zo]<|
 zr [.p,.p,.ix 3 [] 5,.p,.p,.p,.ix 4 [] 5,.p,.bi .gtr 11 12] [zo,zo,zo,3,4,zo,zo,7,8,zo,13]<|
 .cond 10 (zr [.u false] (zo::zo::11::zn 8 [])<|
 .ret) .skip)<|
 zt [.bi .add 8 (.i 1),.p] [zo,zo,zo,3,4,zo,zo,7,11,zo,zo])<|
 zr [.u true] (zo::zo::11::zn 8 [])<|
 .ret⟩
def Dl:IF:=⟨[],3,5,[3],zr [.u false] [0,1,2,zo,zo]<|
 zr [.p,.ca 169 [0] 1,.p] [zo,1,2,zo,5]<|
 zq (zj [.p,.bi .geq 4 (.i 0),.p]<|zh [(5,true)] [.cy 4,.cy 2,.bi .leq 6 7]<|zj [.pk 5 8 .f,.p]<|zh [(9,true)] [.cy 4,.cy 1,.ca 169 [11] 1,.bi .eql 10 12]<|zj [.pk 9 13 .f,.p] []) [zo,zo,zo,14,zo]<|
 .ret⟩
end Go.Cat
namespace Go.Cat
def LU:IF:=⟨[],1,6,[1],zr [.u false] (0::zn 5 [])<|
 .seq (zq (zj [.p,.ln 0 [],.ca 23 [6,.i 1,.i 40] 1,.un .not 7,.p]<|zh [(8,false)] [.p,.iy 0 (.i 0),.p,.ca 167 [9] 1,.un .not 10]<|zj [.pk 8 .t 11] []) [0,zo,zo,12,zo,zo]<|
 .cond 3 (zr [.u false] (zo::6::zn 4 [])<|
 .ret) .skip)<|
 .seq (zr [.cs .v (.n 1)] [0,zo,6,zo,zo,zo]<|
 .block 0<|.loop<|.seq (zr [.p,.p,.ln 0 [],.bi .lss 2 6] [0,zo,2,zo,7,zo]<|
 .cond 4 .skip (.exit 0))<|
 .seq (.block 1<|zr [.p,.p,.bi .sub 2 (.i 1),.iy 0 6,.p,.ca 173 [7] 1,.p,.p,.iy 0 2,.p,.ca 651 [8,9] 1,.un .not 10] [0,zo,2,zo,zo,11]<|
 .cond 5 (zr [.u false] (zo::6::zn 4 [])<|
 .ret) .skip)<|
 zt [.p,.bi .add 2 (.i 1),.p] [0,zo,6,zo,zo,zo])<|
 zr [.u true] (zo::6::zn 4 [])<|
 .ret⟩
def G7:IF:=⟨[],2,6,[2],zr [.cs .v (.n 0)] (0::1::zn 4 [])<|
 zr [.p,.p,.ca 348 [0,1] 2,.p,.p,.p,.p,.p] [zo,zo,zo,6,7,zo]<|
 .seq (zr [.p,.un .not 4] [zo,zo,zo,3,zo,6]<|
 .cond 5 (zr [.cs .v (.n (-1))] [zo,zo,6,zo,zo,zo]<|
 .ret) .skip)<|
 zr [.p,.ln 3 [],.bi .sub 6 (.i 1),.p] [zo,zo,7,zo,zo,zo]<|
 .ret⟩
def Hx:IF:=⟨[],2,21,[2,3],zr [.cs (.o .v) (.l []),.u false] (0::1::zn 19 [])<|
 .seq (zr [.p,.p,.ca 367 [0,1,.i 5] 1,.un .not 21] (0::1::zn 10 (22::zn 8 []))<|
 .cond 12 (zr [.li (.o .v) [],.p,.u false] (zo::zo::21::22::zn 17 [])<|
 .ret) .skip)<|
 zr [.mm,.p,.mu 21 0 (.c (.s [])),.p,.p] (0::1::zo::zo::22::zn 16 [])<|
 zr [.p,.li (.o .v) [0],.p] (zo::1::zo::zo::4::21::zn 15 [])<|
 .seq (zr [.cs .v (.n 0)] (zo::1::zo::zo::4::5::21::zn 14 [])<|
 .block 0<|.loop<|.seq (zr [.p,.p,.ln 5 [],.bi .lss 6 21] (zo::1::zo::zo::4::5::6::zn 6 (22::zn 7 []))<|
 .cond 13 .skip (.exit 0))<|
 .seq (.block 1<|.seq (zr [.p,.p,.mo 4 1 (.s []),.p,.p,.p,.p,.p] (zo::1::zo::zo::4::5::6::22::zn 13 [])<|
 zr [.p] (zo::1::zo::zo::4::5::6::zn 7 (7::zn 6 []))<|
 .cond 14 (.exit 0) .skip)<|
 zr [.p,.p,.ix 5 [] 6,.p,.ca 173 [21] 1,.ln 22 [],.cs .v (.n 0)] (zo::1::zo::zo::4::5::6::zn 8 (22::23::24::zo::zo::zo::[]))<|
 .block 2<|.loop<|zr [.bi .lss 17 16] (zo::1::zo::zo::4::5::6::zn 8 (15::16::17::21::zo::zo::[]))<|
 .seq (.cond 18 .skip (.exit 2))<|
 .seq (.block 3<|zr [.ix 15 [] 17,.p,.p] (zo::1::zo::zo::4::5::6::zo::21::zn 6 (15::16::17::zo::zo::zo::[]))<|
 zr [.p,.p,.mo 4 8 (.s []),.p,.p,.p,.p,.p] (zo::1::zo::zo::4::5::6::zo::8::22::zn 5 (15::16::17::zo::zo::zo::[]))<|
 zr [.p,.un .not 9] (zo::1::zo::zo::4::5::6::zo::8::zn 6 (15::16::17::zo::21::zo::[]))<|
 .cond 19 (zr [.p,.p,.p,.p,.ix 5 [] 6,.p,.mu 4 8 21] (zo::1::zo::zo::22::5::6::zo::8::zn 6 (15::16::17::zo::zo::zo::[]))<|
 zt [.p,.p,.li (.o .v) [8],.ap false 5 21,.p] (zo::1::zo::zo::4::22::6::zn 8 (15::16::17::zo::zo::zo::[]))) .skip)<|
 zt [.bi .add 17 (.i 1),.p] (zo::1::zo::zo::4::5::6::zn 8 (15::16::21::zo::zo::zo::[])))<|
 zt [.p,.bi .add 6 (.i 1),.p] (zo::1::zo::zo::4::5::21::zn 14 []))<|
 zr [.li (.o .v) [],.p] (zo::1::zo::zo::4::zn 5 (21::zn 10 []))<|
 .seq (zr [.p,.p] (zn 4 (4::zn 5 (10::1::zn 9 [])))<|
 .block 4<|.loop<|.seq (zr [.p,.bi .neq 11 (.c (.s []))] (zn 4 (4::zn 5 (10::11::zn 8 (21::[]))))<|
 .cond 20 .skip (.exit 4))<|
 .seq (.block 5<|zt [.p,.p,.li (.o .v) [11],.ap false 10 21,.p] (zn 4 (4::zn 5 (22::11::zn 9 []))))<|
 zt [.p,.p,.mg 4 11 (.s []),.p] (zn 4 (4::zn 5 (10::21::zn 9 []))))<|
 zr [.p,.ca 368 [10] 1] (zn 10 (21::zn 10 []))<|
 zr [.p,.p,.u true] (zo::zo::10::21::zn 17 [])<|
 .ret⟩
end Go.Cat
namespace Go.Cat
def K0:IF:=⟨[],1,47,[1],zr [.u false] (0::zn 46 [])<|
 .seq (zr [.p,.ca 220 [0] 1] (0::zn 33 (47::zn 12 []))<|
 .cond 34 (zr [.u true] (zo::47::zn 45 [])<|
 .ret) .skip)<|
 zr [.p,.ca 627 [0] 2,.p,.p,.p,.p,.p] (0::zo::47::48::zn 43 [])<|
 zr [.p,.p,.ca 340 [2,3] 2,.p,.p,.p,.cs (.b (.o .v)) (.g [.n 0,.s [],.s [],.l [],.l [],.l [],.l []]),.ws 49 7 47,.p] (0::zo::2::3::50::48::zn 41 [])<|
 zr [.p,.p,.ca 339 [2,3] 2,.p,.p,.p,.cs (.b (.o .v)) (.g [.n 0,.s [],.s [],.l [],.l [],.l [],.l []]),.ws 49 7 47,.p] (0::zo::zo::zo::4::5::50::48::zn 39 [])<|
 zr [.p,.ca 628 [0] 2,.p,.p,.p,.p,.p] (0::zo::zo::zo::4::5::6::7::47::48::zn 37 [])<|
 zr [.p,.p,.ca 338 [8,9] 2,.p,.p,.p,.cs (.b (.o .v)) (.g [.n 0,.s [],.s [],.l [],.l [],.l [],.l []]),.ws 49 7 47,.p] (0::zo::zo::zo::4::5::6::7::8::9::50::48::zn 35 [])<|
 zr [.p,.p,.ca 337 [8,9] 2,.p,.p,.p,.cs (.b (.o .v)) (.g [.n 0,.s [],.s [],.l [],.l [],.l [],.l []]),.ws 49 7 47,.p] (0::zo::zo::zo::4::5::6::7::zo::zo::10::11::50::48::zn 33 [])<|
 .seq (zq (zj [.p,.p,.bb .neq 5 7,.p]<|zh [(47,false)] [.wl 7 4,.wl 7 6,.ca 116 [48,49] 1,.un .not 50]<|zj [.pk 47 .t 51,.p]<|zh [(52,false)] [.cy 5,.cy 53]<|zh [(52,false),(54,true)] [.wl 7 6,.ca 626 [55] 1,.un .not 56]<|zh [(52,false)] [.pk 54 57 .f]<|zj [.pk 52 .t 58,.p]<|zh [(59,false)] [.cy 11,.cy 13,.bb .neq 60 61]<|zj [.pk 59 .t 62,.p]<|zh [(63,false)] [.wl 7 10,.wl 7 12,.ca 116 [64,65] 1,.un .not 66]<|zj [.pk 63 .t 67,.p]<|zh [(68,false)] [.cy 11,.cy 69]<|zh [(68,false),(70,true)] [.wl 7 12,.ca 626 [71] 1,.un .not 72]<|zh [(68,false)] [.pk 70 73 .f]<|zj [.pk 68 .t 74] []) (0::zn 34 (75::zn 11 []))<|
 .cond 35 (zr [.u false] (zo::47::zn 45 [])<|
 .ret) .skip)<|
 zr [.p,.ca 629 [0] 1,.p] (0::zn 13 (47::zn 32 []))<|
 zr [.p,.ca 121 [14] 2,.p,.p,.p,.cs (.b (.o .v)) (.g [.n 0,.s [],.s [],.l [],.l [],.l [],.l []]),.ws 49 7 47,.p] (0::zn 13 (14::50::48::zn 30 []))<|
 zr [.p,.ca 120 [14] 2,.p,.p,.p,.cs (.b (.o .v)) (.g [.n 0,.s [],.s [],.l [],.l [],.l [],.l []]),.ws 49 7 47,.p] (0::zn 13 (14::15::16::50::48::zn 28 []))<|
 zr [.p,.ca 630 [0] 1,.p] (0::zn 13 (14::15::16::17::18::47::zn 27 []))<|
 zr [.p,.ca 336 [19] 2,.p,.p,.p,.cs (.b (.o .v)) (.g [.n 0,.s [],.s [],.l [],.l [],.l [],.l []]),.ws 49 7 47,.p] (0::zn 13 (14::15::16::17::18::19::50::48::zn 25 []))<|
 zr [.p,.ca 335 [19] 2,.p,.p,.p,.cs (.b (.o .v)) (.g [.n 0,.s [],.s [],.l [],.l [],.l [],.l []]),.ws 49 7 47,.p] (0::zn 13 (14::15::16::17::18::zo::20::21::50::48::zn 23 []))<|
 zr [.p,.ca 631 [0] 1,.p] (0::zn 13 (14::15::16::17::18::zo::20::21::22::23::47::zn 22 []))<|
 zr [.p,.ca 334 [24] 2,.p,.p,.p,.cs (.b (.o .v)) (.g [.n 0,.s [],.s [],.l [],.l [],.l [],.l []]),.ws 49 7 47,.p] (0::zn 13 (14::15::16::17::18::zo::20::21::22::23::24::50::48::zn 20 []))<|
 zr [.p,.ca 333 [24] 2,.p,.p,.p,.cs (.b (.o .v)) (.g [.n 0,.s [],.s [],.l [],.l [],.l [],.l []]),.ws 49 7 47,.p] (0::zn 13 (14::15::16::17::18::zo::20::21::22::23::zo::25::26::50::48::zn 18 []))<|
 .seq (zq (zj [.p,.p,.bb .neq 16 18,.p]<|zh [(47,false)] [.wl 7 15,.wl 7 17,.ca 116 [48,49] 1,.un .not 50]<|zj [.pk 47 .t 51,.p]<|zh [(52,false)] [.cy 16,.cy 14,.ca 73 [54] 1,.bb .neq 53 55]<|zj [.pk 52 .t 56,.p]<|zh [(57,false)] [.cy 16,.cy 58]<|zh [(57,false),(59,true)] [.wl 7 17,.ca 626 [60] 1,.un .not 61]<|zh [(57,false)] [.pk 59 62 .f]<|zj [.pk 57 .t 63,.p]<|zh [(64,false)] [.cy 21,.cy 23,.bb .neq 65 66]<|zj [.pk 64 .t 67,.p]<|zh [(68,false)] [.wl 7 20,.wl 7 22,.ca 116 [69,70] 1,.un .not 71]<|zj [.pk 68 .t 72,.p]<|zh [(73,false)] [.cy 21,.cy 74]<|zh [(73,false),(75,true)] [.wl 7 22,.ca 626 [76] 1,.un .not 77]<|zh [(73,false)] [.pk 75 78 .f]<|zj [.pk 73 .t 79,.p]<|zh [(80,false)] [.cy 26,.cy 28,.bb .neq 81 82]<|zj [.pk 80 .t 83,.p]<|zh [(84,false)] [.wl 7 25,.wl 7 27,.ca 116 [85,86] 1,.un .not 87]<|zj [.pk 84 .t 88,.p]<|zh [(89,false)] [.cy 26,.cy 90]<|zh [(89,false),(91,true)] [.wl 7 27,.ca 626 [92] 1,.un .not 93]<|zh [(89,false)] [.pk 91 94 .f]<|zj [.pk 89 .t 95] []) (0::zn 35 (96::zn 10 []))<|
 .cond 36 (zr [.u false] (zo::47::zn 45 [])<|
 .ret) .skip)<|
 zr [.p,.ca 632 [0] 1,.cs (.b .v) (.g [.n 0,.s [],.s [],.l [],.l [],.l [],.l []]),.ws 48 7 47] (0::zn 28 (49::zn 17 []))<|
 zr [.wl 7 29,.ca 626 [47] 1,.p] (0::zn 28 (29::48::zn 16 []))<|
 .seq (zr [.p,.wl 7 29,.ca 625 [47] 1,.bb .neq 30 48] (0::zn 28 (29::30::zn 6 (49::zn 9 [])))<|
 .cond 37 (zr [.u false] (zo::47::zn 45 [])<|
 .ret) .skip)<|
 .seq (zr [.p] (0::zn 28 (29::30::zn 7 (30::zn 8 [])))<|
 .cond 38 (.seq (zr [.gt 29 [.k 0],.p] (0::zn 28 (29::30::zn 8 (47::zn 7 [])))<|
 .block 0<|zr [.bi .eql 39 (.i 1),.p] (0::zn 28 (29::30::zn 8 (39::47::zn 6 [])))<|
 .cond 40 (zt [.gt 29 [.k 1],.p,.gt 29 [.k 2],.p,.ca 349 [47,48] 1,.p] (0::zn 28 (29::49::zn 16 []))) (zr [.bi .eql 39 (.i 2),.p] (0::zn 28 (29::30::zn 8 (39::zo::47::zn 5 [])))<|
 .cond 41 (zt [.gt 29 [.k 1],.p,.gt 29 [.k 2],.p,.ca 612 [47,48] 1,.gt 29 [.k 3],.p,.ln 50 [],.bi .sub 51 (.i 1),.bi .eql 49 52,.p] (0::zn 28 (29::53::zn 16 []))) (zr [.bi .eql 39 (.i 3),.p] (0::zn 28 (29::30::zn 8 (39::zo::zo::47::zn 4 [])))<|
 .cond 42 (zt [.gt 29 [.k 4],.p,.ca 186 [47] 1,.un .not 48,.p] (0::zn 28 (29::49::zn 16 []))) (zr [.bi .eql 39 (.i 4),.p] (0::zn 28 (29::30::zn 8 (39::zo::zo::zo::47::zo::zo::zo::[])))<|
 .cond 43 (zt [.gt 29 [.k 4],.p,.ca 186 [47] 1,.p] (0::zn 28 (29::48::zn 16 []))) (zr [.bi .eql 39 (.i 5),.p] (0::zn 28 (29::30::zn 8 (39::zn 4 (47::zo::zo::[]))))<|
 .cond 44 (zt [.gt 29 [.k 4],.p,.ca 361 [47] 1,.p] (0::zn 28 (29::48::zn 16 []))) (zr [.bi .eql 39 (.i 6),.p] (0::zn 28 (29::30::zn 14 (47::zo::[])))<|
 .cond 45 (zt [.gt 29 [.k 4],.p,.gt 29 [.k 5],.p,.ca 371 [47,48] 1,.bi .eql 49 (.i 1),.p] (0::zn 28 (29::50::zn 16 []))) .skip))))))<|
 zr [.p,.un .not 30] (0::zn 28 (29::zn 16 (47::[])))<|
 .cond 46 (zr [.u false] (zo::47::zn 45 [])<|
 .ret) .skip) .skip)<|
 zr [.p,.ca 633 [0] 2,.p,.p,.p,.cs (.b .v) (.g [.n 0,.s [],.s [],.l [],.l [],.l [],.l []]),.cs (.b .v) (.g [.n 0,.s [],.s [],.l [],.l [],.l [],.l []]),.ws 49 7 47,.ws 50 7 48] (0::zn 28 (29::zo::51::52::zn 14 []))<|
 zr [.p,.ca 634 [0] 1,.p] (zn 29 (29::zo::31::32::47::zn 13 []))<|
 zq (zj [.wl 7 29,.ca 342 [47] 1,.wl 7 29,.ca 341 [49] 1,.bi .eql 48 50,.p]<|zh [(51,true)] [.wl 7 31,.wl 7 32,.ca 118 [52,53] 1,.wl 7 31,.wl 7 32,.ca 116 [55,56] 1,.bb .eql 54 57]<|zj [.pk 51 58 .f,.p]<|zh [(59,true)] [.cy 33,.ca 8 [60] 1,.cy 33,.ca 7 [62] 1,.bi .eql 61 63]<|zj [.pk 59 64 .f,.p] []) (zo::65::zn 45 [])<|
 .ret⟩
end Go.Cat
namespace Go.Cat
def M4:IF:=⟨[],2,6,[2],zr [.u false] (0::1::zn 4 [])<|
 .seq (zr [.cs .v (.n 0)] [0,1,zo,6,zo,zo]<|
 .block 0<|.loop<|.seq (zr [.p,.p,.ln 0 [],.bi .lss 3 6] [0,1,zo,3,7,zo]<|
 .cond 4 .skip (.exit 0))<|
 .seq (.block 1<|zr [.p,.p,.iy 0 3,.p,.p,.bi .eql 6 1] [0,1,zo,3,zo,7]<|
 .cond 5 (zr [.u true] [zo,zo,6,zo,zo,zo]<|
 .ret) .skip)<|
 zt [.p,.bi .add 3 (.i 1),.p] [0,1,zo,6,zo,zo])<|
 zr [.u false] [zo,zo,6,zo,zo,zo]<|
 .ret⟩
end Go.Cat
namespace Go.Cat
def Li:IF:=⟨[],1,13,[1],zr [.cs (.o .v) (.l [])] (0::zn 12 [])<|
 zr [.li (.o .v) [],.p] (0::zo::13::zn 10 [])<|
 .seq (zr [.cs .v (.n 0)] (0::zo::2::13::zn 9 [])<|
 .block 0<|.loop<|.seq (zr [.p,.p,.ca 162 [0] 1,.bi .lss 3 13] (0::zo::2::3::zn 5 (14::zo::zo::zo::[]))<|
 .cond 9 .skip (.exit 0))<|
 .seq (.block 1<|zr [.p,.p,.ca 192 [0,3] 2,.p,.p,.p,.p,.p] (0::zo::2::3::13::14::zn 7 [])<|
 zr [.p] (0::zo::2::3::4::zn 5 (5::zo::zo::[]))<|
 .cond 10 (zt [.p,.p,.li (.o .v) [4],.ap false 2 13,.p] (0::zo::14::3::zn 9 [])) .skip)<|
 zt [.p,.bi .add 3 (.i 1),.p] (0::zo::2::13::zn 9 []))<|
 .seq (zr [.cs .v (.n 0)] (0::zo::2::zo::zo::zo::13::zn 6 [])<|
 .block 2<|.loop<|.seq (zr [.p,.p,.ca 162 [0] 1,.bi .lss 6 13] (0::zo::2::zo::zo::zo::6::zn 4 (14::zo::[]))<|
 .cond 11 .skip (.exit 2))<|
 .seq (.block 3<|zr [.p,.p,.ca 193 [0,6] 2,.p,.p,.p,.p,.p] (0::zo::2::zo::zo::zo::6::13::14::zn 4 [])<|
 zr [.p] (0::zo::2::zo::zo::zo::6::7::zn 4 (8::[]))<|
 .cond 12 (zt [.p,.p,.li (.o .v) [7],.ap false 2 13,.p] (0::zo::14::zo::zo::zo::6::zn 6 [])) .skip)<|
 zt [.p,.bi .add 6 (.i 1),.p] (0::zo::2::zo::zo::zo::13::zn 6 []))<|
 zr [.p,.p] (zo::2::zn 11 [])<|
 .ret⟩
def LO:IF:=⟨[],2,11,[2,3],zr [.cs .v (.s []),.u false] (0::1::zn 9 [])<|
 .seq (zr [.p,.p,.ca 162 [0] 1,.bi .sub 11 (.i 1),.ca 22 [1,.i 0,12] 1,.un .not 13] (0::1::zn 7 (14::zo::[]))<|
 .cond 9 (zr [.cs .v (.s []),.u false] (zo::zo::11::12::zn 7 [])<|
 .ret) .skip)<|
 zr [.p,.p,.ca 191 [0,1] 1,.p] (0::1::zo::zo::11::zn 6 [])<|
 zr [.p,.ca 188 [4,.i 1] 1,.p] (0::1::zo::zo::4::11::zn 5 [])<|
 zr [.p,.p,.p,.sn 4,.bi .sub 11 (.i 1),.ss 4 (some 5) (some 12),.p] (0::1::zo::zo::4::5::13::zn 4 [])<|
 .seq (zr [.p,.bi .eql 6 (.c (.s [46]))] [0,1,zo,zo,4,5,6,zo,zo,zo,11]<|
 .cond 10 (zr [.cs .v (.s []),.u false] (zo::zo::11::12::zn 7 [])<|
 .ret) .skip)<|
 zr [.p,.ca 188 [6,.i 1] 1,.p] [0,1,zo,zo,4,5,6,11,zo,zo,zo]<|
 zr [.p,.p,.ss 4 (some (.i 1)) (some 5),.bi .add (.c (.s [40,40])) 11,.p,.p,.ss 6 (some (.i 1)) (some 7),.bi .add 12 13,.bi .add 14 (.c (.s [41])),.p,.p,.p,.sn 6,.bi .sub 16 (.i 1),.ss 6 (some 7) (some 17),.bi .add 15 18,.bi .add 19 (.c (.s [41])),.p] (0::1::zn 6 (20::zo::zo::[]))<|
 zr [.p,.p,.p,.ca 207 [0,1,8] 1,.p,.u true] (zo::zo::11::12::zn 7 [])<|
 .ret⟩
def Mw:IF:=⟨[],2,11,[2,3],zr [.cs .v (.s []),.u false] (0::1::zn 9 [])<|
 .seq (zr [.p,.p,.ca 162 [0] 1,.bi .sub 11 (.i 1),.ca 22 [1,.i 0,12] 1,.un .not 13] (0::1::zn 7 (14::zo::[]))<|
 .cond 9 (zr [.cs .v (.s []),.u false] (zo::zo::11::12::zn 7 [])<|
 .ret) .skip)<|
 zr [.p,.p,.ca 191 [0,1] 1,.p] (0::1::zo::zo::11::zn 6 [])<|
 zr [.p,.ca 188 [4,.i 1] 1,.p] (0::1::zo::zo::4::11::zn 5 [])<|
 zr [.p,.p,.ss 4 (some (.i 1)) (some 5),.p] (0::1::zo::zo::4::5::11::zn 4 [])<|
 .seq (zr [.p,.bi .eql 6 (.c (.s [46]))] [0,1,zo,zo,4,5,6,zo,zo,zo,11]<|
 .cond 10 (zr [.cs .v (.s []),.u false] (zo::zo::11::12::zn 7 [])<|
 .ret) .skip)<|
 zr [.p,.ca 188 [6,.i 1] 1,.p] [0,1,zo,zo,4,5,6,11,zo,zo,zo]<|
 zr [.p,.p,.ss 6 (some (.i 1)) (some 7),.bi .add (.c (.s [40])) 11,.bi .add 12 (.c (.s [40])),.p,.p,.p,.sn 6,.bi .sub 14 (.i 1),.ss 6 (some 7) (some 15),.bi .add 13 16,.p,.p,.p,.sn 4,.bi .sub 18 (.i 1),.ss 4 (some 5) (some 19),.bi .add 17 20,.bi .add 21 (.c (.s [41,41])),.p] (0::1::zn 6 (22::zo::zo::[]))<|
 zr [.p,.p,.p,.ca 207 [0,1,8] 1,.p,.u true] (zo::zo::11::12::zn 7 [])<|
 .ret⟩
def Me:IF:=⟨[],1,7,[1],zr [.cs (.o .v) (.l [])] (0::zn 6 [])<|
 zr [.li (.o .v) [],.p] (0::zo::7::zn 4 [])<|
 .seq (zr [.cs .v (.n 0)] [0,zo,2,7,zo,zo,zo]<|
 .block 0<|.loop<|.seq (zr [.p,.p,.ca 162 [0] 1,.bi .lss 3 7] [0,zo,2,3,zo,zo,8]<|
 .cond 6 .skip (.exit 0))<|
 .seq (.block 1<|zr [.p,.p,.ca 191 [0,3] 1,.p] [0,zo,2,3,7,zo,zo]<|
 zr [.p,.ca 188 [4,.i 1] 1,.p] [0,zo,2,3,4,7,zo]<|
 zt [.p,.p,.sn 4,.bi .sub 7 (.i 1),.p,.bi .sub 8 5,.bi .sub 9 (.i 1),.bi .quo 10 (.i 3),.li (.o .v) [11],.ap false 2 12,.p] [0,zo,13,3,zo,zo,zo])<|
 zt [.p,.bi .add 3 (.i 1),.p] [0,zo,2,7,zo,zo,zo])<|
 zr [.p,.p] (zo::2::zn 5 [])<|
 .ret⟩
def Ga:IF:=⟨[],2,8,[2],zr [.cs .v (.s [])] (0::1::zn 6 [])<|
 zr [.p,.ca 188 [0,.i 1] 1,.p] (0::1::zo::8::zn 4 [])<|
 zr [.p,.p,.ss 0 (some (.i 1)) (some 3),.p] [0,1,zo,3,8,zo,zo,zo]<|
 zr [.p,.sn 4,.bi .sub 8 (.i 1),.bi .quo 9 (.i 3),.p] [0,1,zo,3,4,10,zo,zo]<|
 .seq (.block 0<|zr [.p,.p,.bi .lss 1 5,.p] [0,1,zo,3,4,5,8,zo]<|
 .cond 6 (zr [.p,.p,.ca 191 [4,1] 1,.p] (zo::zo::8::zn 5 [])<|
 .ret) (zr [.p,.p,.bi .gtr 1 5,.p] [0,1,zo,3,zo,5,zo,8]<|
 .cond 7 (zr [.p,.p,.p,.sn 0,.bi .sub 8 (.i 1),.ss 0 (some 3) (some 9),.p,.p,.bi .sub 1 5,.bi .sub 11 (.i 1),.ca 191 [10,12] 1,.p] (zo::zo::13::zn 5 [])<|
 .ret) .skip))<|
 zr [.p,.p] (zo::zo::0::zn 5 [])<|
 .ret⟩
def GX:IF:=⟨[],3,10,[3],zr [.cs .v (.s [])] (0::1::2::zn 7 [])<|
 zr [.p,.ca 188 [0,.i 1] 1,.p] (0::1::2::zo::10::zn 5 [])<|
 zr [.p,.p,.ss 0 (some (.i 1)) (some 4),.p] (0::1::2::zo::4::10::zn 4 [])<|
 zr [.p,.p,.p,.sn 0,.bi .sub 10 (.i 1),.ss 0 (some 4) (some 11),.p] [zo,1,2,zo,zo,5,12,zo,zo,zo]<|
 zr [.p,.sn 5,.bi .sub 10 (.i 1),.bi .quo 11 (.i 3),.p] [zo,1,2,zo,zo,5,6,12,zo,zo]<|
 .seq (.block 0<|zr [.p,.p,.bi .lss 1 7,.p] [zo,1,2,zo,zo,5,6,7,10,zo]<|
 .cond 8 (zr [.p,.p,.p,.ca 207 [5,1,2] 1,.bi .add (.c (.s [40])) 10,.p,.bi .add 11 6,.bi .add 12 (.c (.s [41])),.p] (zo::zo::zo::13::zn 6 [])<|
 .ret) (zr [.p,.p,.bi .gtr 1 7,.p] [zo,1,2,zo,zo,5,6,7,zo,10]<|
 .cond 9 (zr [.p,.bi .add (.c (.s [40])) 5,.p,.p,.p,.bi .sub 1 7,.bi .sub 11 (.i 1),.p,.ca 207 [6,12,2] 1,.bi .add 10 13,.bi .add 14 (.c (.s [41])),.p] (zo::zo::zo::15::zn 6 [])<|
 .ret) .skip))<|
 zr [.p,.p] (zo::zo::zo::2::zn 6 [])<|
 .ret⟩
end Go.Cat
namespace Go.Cat
def G0:IF:=⟨[],2,9,[2],zr [.u false] (0::1::zn 7 [])<|
 .seq (zr [.p,.p,.ca 365 [0,1] 1,.un .not 9] (0::1::zn 4 (10::zo::zo::[]))<|
 .cond 6 (zr [.u false] (zo::zo::9::zn 6 [])<|
 .ret) .skip)<|
 zr [.p,.ca 164 [0] 1,.p] (zo::1::zo::9::zn 5 [])<|
 zr [.p,.ca 164 [1] 1,.p] (zo::zo::zo::3::9::zn 4 [])<|
 .seq (zr [.cs .v (.n 0)] [zo,zo,zo,3,4,9,zo,zo,zo]<|
 .block 0<|.loop<|.seq (zr [.p,.p,.ln 3 [],.bi .lss 5 9] [zo,zo,zo,3,4,5,zo,10,zo]<|
 .cond 7 .skip (.exit 0))<|
 .seq (.block 1<|zr [.p,.p,.ix 3 [] 5,.p,.p,.p,.ix 4 [] 5,.p,.bi .gtr 9 10] [zo,zo,zo,3,4,5,zo,zo,11]<|
 .cond 8 (zr [.u false] (zo::zo::9::zn 6 [])<|
 .ret) .skip)<|
 zt [.p,.bi .add 5 (.i 1),.p] [zo,zo,zo,3,4,9,zo,zo,zo])<|
 zr [.u true] (zo::zo::9::zn 6 [])<|
 .ret⟩
def Gb:IF:=⟨[],2,3,[2],zr [.u false] [0,1,zo]<|
 zq (zj [.p,.ca 160 [0] 1,.p]<|zh [(3,true)] [.cy 1,.ca 160 [4] 1]<|zj [.pk 3 5 .f,.p]<|zh [(6,true)] [.cy 0,.sn 7,.cy 1,.sn 9,.bi .eql 8 10]<|zj [.pk 6 11 .f,.p] []) [zo,zo,12]<|
 .ret⟩
def Mn:IF:=⟨[],2,6,[2,3],zr [.cs .v (.s []),.cs .v (.s [])] (0::1::zn 4 [])<|
 zr [.p,.ca 288 [0] 1,.p,.ca 649 [6,1] 3,.p,.p,.p,.p,.p] (zn 4 (7::8::[]))<|
 zr [.p,.p,.p,.p] [zo,zo,4,5,zo,zo]<|
 .ret⟩
def M6:IF:=⟨[],2,14,[2,3,0],zr [.cs .v (.s []),.cs .v (.s [])] (0::1::zn 12 [])<|
 zr [.p,.p,.bi .add 1 (.i 1),.ca 289 [0,14] 2,.p] (16::zo::zo::zo::15::zn 9 [])<|
 zr [.p,.p,.ca 306 [0,4] 2,.ca 513 [14] 1,.p] (15::zo::zo::zo::4::16::zn 8 [])<|
 .seq (zr [.p,.ca 307 [0,.i 14] 2] (15::zo::zo::zo::4::5::zn 4 (14::zo::zo::zo::[]))<|
 .cond 10 (zr [.p,.p,.ca 653 [0] 2,.p,.p] (15::zo::5::14::zn 10 [])<|
 .ret) .skip)<|
 .seq (zr [.p,.ca 307 [0,.i 2] 2] (15::zo::zo::zo::4::5::zn 5 (14::zo::zo::[]))<|
 .cond 11 (zr [.p,.p] (0::zo::zo::zo::4::5::5::zn 7 [])<|
 .seq (zr [.p,.ca 289 [0,.i 4] 2,.p] (15::zo::zo::zo::4::5::6::14::zn 6 [])<|
 .block 0<|.loop<|.seq (zq (zj [.p,.bi .gtr 7 (.i 0),.p]<|zh [(14,true)] [.cy 4,.bi .gtr 15 (.i 0)]<|zj [.pk 14 16 .f] []) (0::zo::zo::zo::4::5::6::7::zn 4 (17::zo::[]))<|
 .cond 12 .skip (.exit 0))<|
 .seq (.block 1<|zr [.p,.p,.p,.ca 289 [0,4] 2,.ca 192 [6,14] 2,.p,.p,.p,.p,.p] (15::zo::zo::zo::4::5::6::7::16::17::zn 4 [])<|
 zr [.p] (0::zo::zo::zo::4::5::6::7::8::zn 4 (9::[]))<|
 .cond 13 (zt [.p,.p] (0::zo::zo::zo::4::5::8::7::zn 6 [])) .skip)<|
 zt [.p,.bi .sub 7 (.i 1),.p] (0::zo::zo::zo::4::5::6::14::zn 6 []))<|
 zr [.p,.p,.p,.p] (0::zo::5::6::zn 10 [])<|
 .ret) .skip)<|
 zr [.p,.p,.p,.ca 306 [0,4] 2,.ca 513 [14] 1,.p,.p] (15::zo::5::16::zn 10 [])<|
 .ret⟩
end Go.Cat
namespace Go.Cat
def Ls:IF:=⟨[],1,5,[1],zr [.u false] (0::zn 4 [])<|
 .seq (zr [.cs .v (.n 0)] [0,zo,5,zo,zo]<|
 .block 0<|.loop<|.seq (zr [.p,.p,.ln 0 [],.bi .lss 2 5] [0,zo,2,6,zo]<|
 .cond 3 .skip (.exit 0))<|
 .seq (.block 1<|zq (zj [.p,.ln 0 [],.bi .gtr 5 (.i 40),.p]<|zh [(6,false)] [.p,.cy 2,.iy 0 7,.p,.ca 160 [8] 1,.un .not 9]<|zj [.pk 6 .t 10,.p]<|zh [(11,false)] [.cy 2,.bi .gtr 12 (.i 0),.cy 13]<|zh [(11,false),(14,true)] [.p,.cy 2,.bi .sub 15 (.i 1),.iy 0 16,.p,.ca 166 [17] 1,.p,.cy 2,.iy 0 19,.p,.ca 378 [18,20] 1,.un .not 21]<|zh [(11,false)] [.pk 14 22 .f]<|zj [.pk 11 .t 23] []) [0,zo,2,zo,24]<|
 .cond 4 (zr [.u false] [zo,5,zo,zo,zo]<|
 .ret) .skip)<|
 zt [.p,.bi .add 2 (.i 1),.p] [0,zo,5,zo,zo])<|
 zr [.p,.ln 0 [],.bi .gtr 5 (.i 0),.p] [zo,6,zo,zo,zo]<|
 .ret⟩
def I5:IF:=⟨[],2,6,[2],zr [.cs .v (.n 0)] (0::1::zn 4 [])<|
 zr [.p,.p,.ca 347 [0,1] 2,.p,.p,.p,.p,.p] [zo,zo,zo,6,7,zo]<|
 .seq (zr [.p,.un .not 4] [zo,zo,zo,3,zo,6]<|
 .cond 5 (zr [.cs .v (.n (-1))] [zo,zo,6,zo,zo,zo]<|
 .ret) .skip)<|
 zr [.p,.ln 3 [],.bi .sub 6 (.i 1),.p] [zo,zo,7,zo,zo,zo]<|
 .ret⟩
def DA:IF:=⟨[],2,13,[2,3],zr [.cs (.o .v) (.l []),.u false] (0::1::zn 11 [])<|
 .seq (zq (zj [.p,.p,.ca 365 [0,1] 1,.un .not 13,.p]<|zh [(14,false)] [.cy 0,.ca 162 [15] 1,.bi .gtr 16 (.i 5)]<|zj [.pk 14 .t 17] []) (0::1::zn 7 (18::zo::zo::zo::[]))<|
 .cond 9 (zr [.li (.o .v) [],.p,.u false] (zo::zo::13::14::zn 9 [])<|
 .ret) .skip)<|
 zr [.p,.ca 366 [0] 2,.p,.p,.p,.p,.p] (zo::1::zo::zo::13::14::zn 7 [])<|
 .seq (zr [.cs .v (.n 0)] (zo::1::zo::zo::4::5::13::zn 6 [])<|
 .block 0<|.loop<|.seq (zr [.p,.p,.ln 4 [],.bi .lss 6 13] [zo,1,zo,zo,4,5,6,zo,zo,zo,14,zo,zo]<|
 .cond 10 .skip (.exit 0))<|
 .seq (.block 1<|.seq (zr [.p,.p,.ix 4 [] 6,.p,.p,.bi .neq 13 1] (zo::1::zo::zo::4::5::6::zn 4 (14::zo::[]))<|
 .cond 11 (.exit 1) .skip)<|
 zr [.li (.o .v) [],.p] (zn 4 (4::5::6::13::zn 5 []))<|
 .seq (zr [.p,.p] (zn 4 (4::5::zo::7::6::zn 4 []))<|
 .block 2<|.loop<|.seq (zr [.p,.bi .geq 8 (.i 0)] (zn 4 (4::5::zo::7::8::zo::zo::zo::13::[]))<|
 .cond 12 .skip (.exit 2))<|
 .seq (.block 3<|zt [.p,.p,.ix 4 [] 8,.p,.li (.o .v) [13],.p,.ap false 14 7,.p] (zn 4 (4::5::zo::15::8::zn 4 [])))<|
 zt [.p,.p,.ix 5 [] 8,.p,.p] (zn 4 (4::5::zo::7::13::zn 4 [])))<|
 zr [.p,.p,.u true] (zo::zo::7::13::zn 9 [])<|
 .ret)<|
 zt [.p,.bi .add 6 (.i 1),.p] (zo::1::zo::zo::4::5::13::zn 6 []))<|
 zr [.li (.o .v) [],.p,.u false] (zo::zo::13::14::zn 9 [])<|
 .ret⟩
def MZ:IF:=⟨[],1,11,[1,2],zr [.cs (.o .v) (.l []),.cs (.o .v) (.l [])] (0::zn 10 [])<|
 zr [.p,.li (.o .v) [0],.p] (zo::zo::zo::11::zn 7 [])<|
 zr [.li (.o .v) [.i (-1)],.p] (zo::zo::zo::3::11::zn 6 [])<|
 .seq (zr [.cs .v (.n 0)] (zo::zo::zo::3::4::11::zn 5 [])<|
 .block 0<|.loop<|.seq (zr [.p,.p,.ln 3 [],.bi .lss 5 11] [zo,zo,zo,3,4,5,zo,zo,12,zo,zo]<|
 .cond 8 .skip (.exit 0))<|
 .seq (.block 1<|zr [.p,.p,.ix 3 [] 5,.p,.ca 166 [11] 1,.p] (zo::zo::zo::3::4::5::12::zn 4 [])<|
 zr [.cs .v (.n 0)] [zo,zo,zo,3,4,5,6,11,zo,zo,zo]<|
 .block 2<|.loop<|.seq (zr [.p,.p,.ln 6 [],.bi .lss 7 11] [zo,zo,zo,3,4,5,6,7,zo,12,zo]<|
 .cond 9 .skip (.exit 2))<|
 .seq (.block 3<|zr [.p,.p,.p,.ix 6 [] 7,.p,.ca 378 [3,11] 1,.un .not 12] [zo,zo,zo,3,4,5,6,7,zo,zo,13]<|
 .cond 10 (zr [.p,.p,.p,.ix 6 [] 7,.p,.li (.o .v) [11],.ap false 3 12,.p] [zo,zo,zo,13,4,5,6,7,zo,zo,zo]<|
 zt [.p,.p,.li (.o .v) [5],.ap false 4 11,.p] [zo,zo,zo,3,12,5,6,7,zo,zo,zo]) .skip)<|
 zt [.p,.bi .add 7 (.i 1),.p] [zo,zo,zo,3,4,5,6,11,zo,zo,zo])<|
 zt [.p,.bi .add 5 (.i 1),.p] (zo::zo::zo::3::4::11::zn 5 []))<|
 zr [.p,.p,.p,.p] (zo::3::4::zn 8 [])<|
 .ret⟩
end Go.Cat
namespace Go.Cat
end Go.Cat
namespace Go.Cat
end Go.Cat
namespace Go.Cat
end Go.Cat
namespace Go.Cat
end Go.Cat
namespace Go.Cat
end Go.Cat
namespace Go.Cat
end Go.Cat
namespace Go.Cat
end Go.Cat
namespace Go.Cat
end Go.Cat
namespace Go.Cat
end Go.Cat
namespace Go.Cat
end Go.Cat
namespace Go.Cat
end Go.Cat
namespace Go.Cat
end Go.Cat
namespace Go.Cat
end Go.Cat
namespace Go.Cat
end Go.Cat
namespace Go.Cat
end Go.Cat
namespace Go.Cat
end Go.Cat
