/-
 How a body is walked through: one statement behind the other; what comes later stays closed until it is reached.
-/
import Derived.Test.YthoilpmggmenbaaGreatCatThree
import Derived.WalkKit
import Derived.ProofKit
import Derived.OpenShut
import Derived.Below
import Derived.Carry
import Derived.ChangeSlices
import Derived.ChangeMaps5
import Derived.SliceStrings
set_option linter.unusedSimpArgs false
set_option linter.unusedVariables false
namespace Go.Cat
section
variable(K:Nat→List D→List D→Prop)
def QN(b:S)(Q:X→Env→Prop):X→Env→Prop
 |.n,e=>wpS K b Q e
 |.ex j,e=>Q (.ex j) e
 |.r,e=>Q .r e
def Qt(id:Nat)(Q:X→Env→Prop):X→Env→Prop
 |.n,e=>Q .n e
 |.ex j,e=>if j=id then Q .n e else Q (.ex j) e
 |.r,e=>Q .r e
def Xw(out:List (Option Nat))(Q:X→Env→Prop):Env→Prop:=fun e=>Q .n (DX out e)
def ANI(r:List It)(Q:Env→Prop):Env→Prop:=fun e=>Dw K r e Q
def Bu(e:Env)(Q:Env→Prop):Option D→Prop
 |some d=>Q (e++[d])
 |none=>False
def U9(x y:S)(Q:X→Env→Prop)(e:Env):D→Prop
 |.b true=>wpS K x Q e
 |.b false=>wpS K y Q e
 |_=>False
def RT(g:Nat)(ds:List D)(r:Nat)(e:Env)(Q:Env→Prop):Prop:=∃rs:List D,K g ds rs∧rs.length=r∧Q (e++rs)
def PO(res:List Nat)(rs:List D):X→Env→Prop
 |.ex _,_=>False
 |.n,e=>rs=res.map e.E
 |.r,e=>rs=res.map e.E
def QJ(res:List Nat)(P:List D→Prop):X→Env→Prop
 |.ex _,_=>False
 |.n,e=>P (res.map e.E)
 |.r,e=>P (res.map e.E)
variable{K}
theorem AFE{res:List Nat}{P:List D→Prop}{e:Env}:QJ res P .n e=P (res.map e.E):=rfl
theorem Xv{res:List Nat}{P:List D→Prop}{e:Env}:QJ res P .r e=P (res.map e.E):=rfl
theorem wp_seq{a b:S}{Q:X→Env→Prop}{e:Env}:wpS K (.seq a b) Q e=wpS K a (QN K b Q) e:=by simp only[wpS];congr 1;funext x e;cases x<;>rfl
theorem wp_block{id:Nat}{b:S}{Q:X→Env→Prop}{e:Env}:wpS K (.block id b) Q e=wpS K b (Qt id Q) e:=by simp only[wpS];congr 1;funext x e;cases x<;>rfl
theorem wp_skip{Q:X→Env→Prop}{e:Env}:wpS K .skip Q e=Q .n e:=rfl
theorem wp_exit{id:Nat}{Q:X→Env→Prop}{e:Env}:wpS K (.exit id) Q e=Q (.ex id) e:=rfl
theorem wp_ret{Q:X→Env→Prop}{e:Env}:wpS K .ret Q e=Q .r e:=rfl
theorem APX{its:List It}{out:List (Option Nat)}{Q:X→Env→Prop}{e:Env}:wpS K (.reg its out) Q e=Dw K its e (Xw out Q):=rfl
theorem wp_cond{n:Nat}{x y:S}{Q:X→Env→Prop}{e:Env}:wpS K (.cond n x y) Q e=U9 K x y Q (e.set n .u) (e.E n):=by
 simp only[wpS]
 cases e.E n<;>try rfl
theorem AJM{b:S}{Q:X→Env→Prop}{e:Env}:QN K b Q .n e=wpS K b Q e:=rfl
theorem ANB{b:S}{Q:X→Env→Prop}{e:Env}{j:Nat}:QN K b Q (.ex j) e=Q (.ex j) e:=rfl
theorem AJL{b:S}{Q:X→Env→Prop}{e:Env}:QN K b Q .r e=Q .r e:=rfl
theorem AE0{id:Nat}{Q:X→Env→Prop}{e:Env}:Qt id Q .n e=Q .n e:=rfl
theorem AM4{id:Nat}{Q:X→Env→Prop}{e:Env}{j:Nat}:Qt id Q (.ex j) e=if j=id then Q .n e else Q (.ex j) e:=rfl
theorem Yo{id:Nat}{Q:X→Env→Prop}{e:Env}:Qt id Q .r e=Q .r e:=rfl
theorem WN{out:List (Option Nat)}{Q:X→Env→Prop}{e:Env}:Xw out Q e=Q .n (DX out e):=rfl
theorem Xa{r:List It}{Q:Env→Prop}{e:Env}:ANI K r Q e=Dw K r e Q:=rfl
theorem ALJ{e:Env}{Q:Env→Prop}{d:D}:Bu e Q (some d)=Q (e++[d]):=rfl
theorem ZG{x y:S}{Q:X→Env→Prop}{e:Env}:U9 K x y Q e (.b true)=wpS K x Q e:=rfl
theorem AM9{x y:S}{Q:X→Env→Prop}{e:Env}:U9 K x y Q e (.b false)=wpS K y Q e:=rfl
theorem AFM{res:List Nat}{rs:List D}{e:Env}:PO res rs .n e=(rs=res.map e.E):=rfl
theorem ADR{res:List Nat}{rs:List D}{e:Env}:PO res rs .r e=(rs=res.map e.E):=rfl
theorem XH{e:Env}{Q:Env→Prop}:Dw K [] e Q=Q e:=rfl
theorem ACU{it:It}{r:List It}{e:Env}{Q:Env→Prop}:Dw K (it::r) e Q=HS K it e (ANI K r Q):=rfl
def gdQ(z:List (Option Nat))(p:Pr)(e:Env)(Q:Env→Prop):Option Bool→Prop
 |some true=>A5 K p e Q
 |some false=>Q (e++C9 e.E z p.np)
 |none=>False
theorem W7{z:List (Option Nat)}{g:Gd}{p:Pr}{e:Env}{Q:Env→Prop}:HS K ⟨z,g,p⟩ e Q=gdQ (K:=K) z p e Q (C6 e.E g):=by simp only[HS];split<;>rename_i h<;>simp only[h]<;>rfl
theorem AAC{z:List (Option Nat)}{p:Pr}{e:Env}{Q:Env→Prop}:gdQ (K:=K) z p e Q (some true)=A5 K p e Q:=rfl
theorem AN7{z:List (Option Nat)}{p:Pr}{e:Env}{Q:Env→Prop}:gdQ (K:=K) z p e Q (some false)=Q (e++C9 e.E z p.np):=rfl
theorem AIB{E:Nat→D}{n:Nat}:C9 E [] n=List.replicate n .u:=Vi n
theorem AL4{E:Nat→D}{m:Nat}{z:List (Option Nat)}{n:Nat}:C9 E (some m::z) (n+1)=E m::C9 E z n:=rfl
theorem AIT{E:Nat→D}{z:List (Option Nat)}{n:Nat}:C9 E (none::z) (n+1)=.u::C9 E z n:=rfl
theorem AE1{E:Nat→D}:C6 E []=some true:=rfl
def Mk(w:Bool)(r:Option Bool):D→Option Bool
 |.b x=>if x=w then r else some false
 |_=>none
theorem AHT{E:Nat→D}{n:Nat}{w:Bool}{r:Gd}:C6 E ((n,w)::r)=Mk w (C6 E r) (E n):=rfl
theorem AFF{r:Option Bool}:Mk true r (.b true)=r:=rfl
theorem ANJ{r:Option Bool}:Mk false r (.b false)=r:=rfl
theorem ACC{r:Option Bool}:Mk true r (.b false)=some false:=rfl
theorem AI3{r:Option Bool}:Mk false r (.b true)=some false:=rfl
theorem XI{e:Env}{Q:Env→Prop}:A5 K .nop e Q=Q e:=rfl
theorem WZ{g:Nat}{xs:List A}{r:Nat}{e:Env}{Q:Env→Prop}:A5 K (.ca g xs r) e Q=RT K g (xs.map (ev e.E)) r e Q:=rfl
def fnQ(g:Nat)(P:Prop)(d:D):Prop:=d=.f g []∧P
theorem Xr{g:Nat}{P:Prop}:fnQ g P (.f g [])=P:=by simp[fnQ]
theorem Vu{f:A}{g:Nat}{xs:List A}{r:Nat}{e:Env}{Q:Env→Prop}:A5 K (.cd f g xs r) e Q=fnQ g (RT K g (xs.map (ev e.E)) r e Q) (ev e.E f):=rfl
def tkQ(e:Env)(Q:Env→Prop):D→Prop
 |.g [d]=>Q (e++[d,.g [.u]])
 |_=>False
theorem AIF{e:Env}{Q:Env→Prop}{d:D}:tkQ e Q (.g [d])=Q (e++[d,.g [.u]]):=rfl
theorem ACT{n:Nat}{e:Env}{Q:Env→Prop}:A5 K (.tk n) e Q=tkQ e Q (e.E n):=by simp only[A5,JG,tkQ];split<;>rename_i h<;>split at h<;>simp_all
def JX(e:Env)(Q:Env→Prop):Option (D×D)→Prop
 |some d=>Q (e++[d.1,d.2])
 |none=>False
theorem ADJ{e:Env}{Q:Env→Prop}{x y:D}:JX e Q (some (x,y))=Q (e++[x,y]):=rfl
theorem AM3{n k:Nat}{p:List PE}{e:Env}{Q:Env→Prop}:A5 K (.sp n p k) e Q=JX e Q (Hw k (e.E n) (p.mapM (PE.ev e.E))):=by simp only[A5,JX];split<;>rename_i h<;>simp only[h]
theorem APE{n:Nat}{e:Env}{Q:Env→Prop}:A5 K (.sw n) e Q=JX e Q (Kv (e.E n)):=by simp only[A5,JX];split<;>rename_i h<;>simp only[h]
theorem APU{n:Nat}{a:A}{d:D}{e:Env}{Q:Env→Prop}:A5 K (.mo n a d) e Q=JX e Q (HK d (e.E n) (ev e.E a)):=by simp only[A5,JX];split<;>rename_i h<;>simp only[h]
theorem YX{e:Env}{Q:Env→Prop}:A5 K .mm e Q=Bu e Q (AW e.E .mm):=by simp only[A5];split<;>rename_i h<;>simp only[h]<;>rfl
theorem Zm{e:Env}{Q:Env→Prop}(n:Nat)(a b:A):A5 K (.mu n a b) e Q=Bu e Q (AW e.E (.mu n a b)):=by simp only[A5];split<;>rename_i h<;>simp only[h]<;>rfl
theorem Yz{e:Env}{Q:Env→Prop}(n:Nat)(a:A)(d:D):A5 K (.mg n a d) e Q=Bu e Q (AW e.E (.mg n a d)):=by simp only[A5];split<;>rename_i h<;>simp only[h]<;>rfl
theorem AO1{xs:List D}:Kv (.g xs)=some (.g xs,.g (List.replicate xs.length .u)):=rfl
theorem AQI{k i:Nat}{xs:List D}:Hw k (.g xs) (some [i])=xs[i]?.bind fun x=>if Cb k x=true then some (x,.g (xs.set i .u))else none:=by
 simp only[Hw,Option.bind_some,Ak,Ao]
 cases xs[i]? with
 |none=>rfl
 |some x=>rfl
theorem AI0{e:Env}{Q:Env→Prop}(n:Nat)(p:List PE)(a:A)(k:Nat):A5 K (.jn n p a k) e Q=Bu e Q (AW e.E (.jn n p a k)):=by simp only[A5];split<;>rename_i h<;>simp only[h]<;>rfl
def JS(is:Option (List Nat))(d x:D)(k:Nat):Option D:=if(x.one&&Cb k x)=true then is.bind fun is=>Ao is d x else none
theorem ALQ{e:Env}{Q:Env→Prop}(s:Sh)(d:D):A5 K (.cs s d) e Q=Bu e Q (AW e.E (.cs s d)):=by simp only[A5];split<;>rename_i h<;>simp only[h]<;>rfl
theorem API{e:Env}{Q:Env→Prop}(a:A):A5 K (.cy a) e Q=Bu e Q (AW e.E (.cy a)):=by simp only[A5];split<;>rename_i h<;>simp only[h]<;>rfl
theorem ABC{e:Env}{Q:Env→Prop}(op:BinOp)(a b:A):A5 K (.bi op a b) e Q=Bu e Q (AW e.E (.bi op a b)):=by simp only[A5];split<;>rename_i h<;>simp only[h]<;>rfl
theorem AMF{e:Env}{Q:Env→Prop}(op:BinOp)(a b:A):A5 K (.bb op a b) e Q=Bu e Q (AW e.E (.bb op a b)):=by simp only[A5];split<;>rename_i h<;>simp only[h]<;>rfl
theorem X7{e:Env}{Q:Env→Prop}(op:UnOp)(a:A):A5 K (.un op a) e Q=Bu e Q (AW e.E (.un op a)):=by simp only[A5];split<;>rename_i h<;>simp only[h]<;>rfl
theorem AC6{e:Env}{Q:Env→Prop}(a b c:A):A5 K (.pk a b c) e Q=Bu e Q (AW e.E (.pk a b c)):=by simp only[A5];split<;>rename_i h<;>simp only[h]<;>rfl
theorem AHE{e:Env}{Q:Env→Prop}(k:IntKind)(a:A):A5 K (.cv k a) e Q=Bu e Q (AW e.E (.cv k a)):=by simp only[A5];split<;>rename_i h<;>simp only[h]<;>rfl
theorem AFA{e:Env}{Q:Env→Prop}(a:A)(p:List PE):A5 K (.ln a p) e Q=Bu e Q (AW e.E (.ln a p)):=by simp only[A5];split<;>rename_i h<;>simp only[h]<;>rfl
theorem AJ2{e:Env}{Q:Env→Prop}(a:A):A5 K (.sn a) e Q=Bu e Q (AW e.E (.sn a)):=by simp only[A5];split<;>rename_i h<;>simp only[h]<;>rfl
theorem YL{e:Env}{Q:Env→Prop}(a i:A):A5 K (.sx a i) e Q=Bu e Q (AW e.E (.sx a i)):=by simp only[A5];split<;>rename_i h<;>simp only[h]<;>rfl
theorem AFR{e:Env}{Q:Env→Prop}(a:A)(lo hi:Option A):A5 K (.ss a lo hi) e Q=Bu e Q (AW e.E (.ss a lo hi)):=by simp only[A5];split<;>rename_i h<;>simp only[h]<;>rfl
theorem AA1{e:Env}{Q:Env→Prop}(a:A)(p:List PE)(i:A):A5 K (.ix a p i) e Q=Bu e Q (AW e.E (.ix a p i)):=by simp only[A5];split<;>rename_i h<;>simp only[h]<;>rfl
theorem AOZ{e:Env}{Q:Env→Prop}(n:Nat)(p:List PE)(a:A):A5 K (.up n p a) e Q=Bu e Q (AW e.E (.up n p a)):=by simp only[A5];split<;>rename_i h<;>simp only[h]<;>rfl
theorem ALR{e:Env}{Q:Env→Prop}(fz:Bool)(a:A)(lo hi:Option A):A5 K (.sb fz a lo hi) e Q=Bu e Q (AW e.E (.sb fz a lo hi)):=by simp only[A5];split<;>rename_i h<;>simp only[h]<;>rfl
theorem AJB{e:Env}{Q:Env→Prop}(fl:Bool)(a b:A):A5 K (.ap fl a b) e Q=Bu e Q (AW e.E (.ap fl a b)):=by simp only[A5];split<;>rename_i h<;>simp only[h]<;>rfl
theorem YO{e:Env}{Q:Env→Prop}(d:D)(n c:A):A5 K (.mk d n c) e Q=Bu e Q (AW e.E (.mk d n c)):=by simp only[A5];split<;>rename_i h<;>simp only[h]<;>rfl
theorem Wd{e:Env}{Q:Env→Prop}(s:Sh)(xs:List A):A5 K (.li s xs) e Q=Bu e Q (AW e.E (.li s xs)):=by simp only[A5];split<;>rename_i h<;>simp only[h]<;>rfl
theorem AMS{e:Env}{Q:Env→Prop}(a:A):A5 K (.bs a) e Q=Bu e Q (AW e.E (.bs a)):=by simp only[A5];split<;>rename_i h<;>simp only[h]<;>rfl
theorem ADL{e:Env}{Q:Env→Prop}(a:A):A5 K (.sy a) e Q=Bu e Q (AW e.E (.sy a)):=by simp only[A5];split<;>rename_i h<;>simp only[h]<;>rfl
theorem AK4{e:Env}{Q:Env→Prop}(a b:A):A5 K (.mx a b) e Q=Bu e Q (AW e.E (.mx a b)):=by simp only[A5];split<;>rename_i h<;>simp only[h]<;>rfl
theorem Zt{e:Env}{Q:Env→Prop}(a b:A):A5 K (.mn a b) e Q=Bu e Q (AW e.E (.mn a b)):=by simp only[A5];split<;>rename_i h<;>simp only[h]<;>rfl
theorem AEA{e:Env}{Q:Env→Prop}(a i:A):A5 K (.iy a i) e Q=Bu e Q (AW e.E (.iy a i)):=by simp only[A5];split<;>rename_i h<;>simp only[h]<;>rfl
theorem AOK{e:Env}{Q:Env→Prop}(k:Nat)(xs:List (A×Nat)):A5 K (.bg k xs) e Q=Bu e Q (AW e.E (.bg k xs)):=by simp only[A5];split<;>rename_i h<;>simp only[h]<;>rfl
theorem ABI{e:Env}{Q:Env→Prop}(a:A):A5 K (.bp a) e Q=Bu e Q (AW e.E (.bp a)):=by simp only[A5];split<;>rename_i h<;>simp only[h]<;>rfl
theorem WI{e:Env}{Q:Env→Prop}(a:A)(k:Nat):A5 K (.gp a k) e Q=Bu e Q (AW e.E (.gp a k)):=by simp only[A5];split<;>rename_i h<;>simp only[h]<;>rfl
theorem AG4{e:Env}{Q:Env→Prop}(w:Bool)(a:A):A5 K (.nz w a) e Q=Bu e Q (AW e.E (.nz w a)):=by simp only[A5];split<;>rename_i h<;>simp only[h]<;>rfl
theorem AJ0{e:Env}{Q:Env→Prop}(a:A):A5 K (.nn a) e Q=Bu e Q (AW e.E (.nn a)):=by simp only[A5];split<;>rename_i h<;>simp only[h]<;>rfl
theorem AD6{e:Env}{Q:Env→Prop}(k:Nat)(a:A):A5 K (.wl k a) e Q=Bu e Q (AW e.E (.wl k a)):=by simp only[A5];split<;>rename_i h<;>simp only[h]<;>rfl
theorem APN{e:Env}{Q:Env→Prop}(n k:Nat)(a:A):A5 K (.ws n k a) e Q=Bu e Q (AW e.E (.ws n k a)):=by simp only[A5];split<;>rename_i h<;>simp only[h]<;>rfl
theorem AB3{e:Env}{Q:Env→Prop}(a:A)(p:List PE):A5 K (.gt a p) e Q=Bu e Q (AW e.E (.gt a p)):=by simp only[A5];split<;>rename_i h<;>simp only[h]<;>rfl
theorem AMA{e:Env}{Q:Env→Prop}(fl:Bool)(a:A)(k:Nat):A5 K (.fp fl a k) e Q=Bu e Q (AW e.E (.fp fl a k)):=by simp only[A5];split<;>rename_i h<;>simp only[h]<;>rfl
theorem AKL{e:Env}{Q:Env→Prop}(n:Nat):A5 K (.cb n) e Q=Bu e Q (AW e.E (.cb n)):=by simp only[A5];split<;>rename_i h<;>simp only[h]<;>rfl
theorem APC{e:Env}{Q:Env→Prop}(n:Nat)(p:List PE)(a:A)(i k:Nat):A5 K (.uq n p a i k) e Q=Bu e Q (AW e.E (.uq n p a i k)):=by simp only[A5];split<;>rename_i h<;>simp only[h]<;>rfl
end
section
variable{E:Nat→D}
theorem Wo{n:Nat}:ev E (.e n)=E n:=rfl
theorem AC4{d:D}:ev E (.c d)=d:=rfl
theorem XP:AW E .mm=some (.g []):=rfl
theorem ANT{n:Nat}{a b:A}:AW E (.mu n a b)=Gk (E n) (ev E a) (ev E b):=rfl
theorem ALE{n:Nat}{a:A}{d:D}:AW E (.mg n a d)=Hn d (E n) (ev E a):=rfl
theorem WR{s:Sh}{d:D}:AW E (.cs s d)=some d:=rfl
theorem AKI{a:A}:AW E (.cy a)=some (ev E a):=rfl
theorem AED{op:BinOp}{a b:A}:AW E (.bi op a b)=Bd op (ev E a) (ev E b):=rfl
theorem ANZ{op:BinOp}{a b:A}:AW E (.bb op a b)=GS op (ev E a) (ev E b):=rfl
theorem Yn{op:UnOp}{a:A}:AW E (.un op a)=LU op (ev E a):=rfl
def KK(c a b:D):Option D:=match c with|.b true=>some a|.b false=>some b|_=>none
theorem AP1{c a b:A}:AW E (.pk c a b)=KK (ev E c) (ev E a) (ev E b):=by simp only[AW,KK];split<;>rename_i h<;>simp only[h]
theorem AJP{a b:D}:KK (.b true) a b=some a:=rfl
theorem ADT{a b:D}:KK (.b false) a b=some b:=rfl
theorem Xu{p q:Bool}:KK (.b p) (.b q) (.b false)=some (.b (p&&q)):=by cases p<;>rfl
theorem AD5{p q:Bool}:KK (.b p) (.b true) (.b q)=some (.b (p||q)):=by cases p<;>rfl
def cvD(k:IntKind):D→Option D|.i _ n=>some (.i k (k.wrap n))|_=>none
theorem AEG{k:IntKind}{a:A}:AW E (.cv k a)=cvD k (ev E a):=by simp only[AW];cases ev E a<;>rfl
theorem AIH{k k':IntKind}{n:Int}:cvD k (.i k' n)=some (.i k (k.wrap n)):=rfl
theorem AML{a:A}{p:List PE}:AW E (.ln a p)=(Dd E p (ev E a)).bind FC:=rfl
theorem AD9{d:D}:Dd E [] d=some d:=rfl
theorem APT{pe:PE}{d:D}:Dd E [pe] d=(pe.ev E).bind fun i=>Ak [i] d:=by
 simp only[Dd,List.mapM_cons,List.mapM_nil]
 cases pe.ev E<;>rfl
theorem AGY{a:A}:AW E (.sn a)=NF (ev E a):=rfl
theorem ADX{a i:A}:AW E (.sx a i)=Kb (ev E a) (ev E i):=rfl
theorem XX{a:A}{lo hi:Option A}:AW E (.ss a lo hi)=Ga (ev E a) (lo.map (ev E)) (hi.map (ev E)):=rfl
theorem AH6{a i:A}:AW E (.ix a [] i)=D6 (ev E a) (ev E i):=rfl
theorem Vo{a i:A}{p:List PE}:AW E (.ix a p i)=(Dd E p (ev E a)).bind fun d=>D6 d (ev E i):=rfl
theorem AIO{a i:A}:AW E (.iy a i)=(D6 (ev E a) (ev E i)).bind Fo:=rfl
def He(is:Option (List Nat))(d x:D):Option D:=if x.one=true then is.bind fun is=>Ao is d x else none
theorem ALD{n:Nat}{p:List PE}{a:A}:AW E (.up n p a)=He (p.mapM (PE.ev E)) (E n) (ev E a):=rfl
theorem Wa{pe:PE}:[pe].mapM (PE.ev E)=(pe.ev E).map ([·]):=by simp only[List.mapM_cons,List.mapM_nil];cases pe.ev E<;>rfl
theorem AH7{pe qe:PE}:[pe,qe].mapM (PE.ev E)=(pe.ev E).bind fun i=>(qe.ev E).map fun j=>[i,j]:=by simp only[List.mapM_cons,List.mapM_nil];cases pe.ev E<;>cases qe.ev E<;>rfl
theorem AP2{n:Nat}:PE.ev E (.k n)=some n:=rfl
def Re:D→Option Nat|.i _ z=>if 0≤z then some z.toNat else none|_=>none
theorem AC8{n:Nat}:PE.ev E (.e n)=Re (E n):=by simp only[PE.ev];cases E n<;>rfl
theorem AEE{k:IntKind}{z:Int}(h:0≤z):Re (.i k z)=some z.toNat:=by simp[Re,h]
theorem X3{fz:Bool}{a:A}{lo hi:Option A}:AW E (.sb fz a lo hi)=E8 (ev E a) (lo.map (ev E)) (hi.map (ev E)):=rfl
theorem ADE{fl:Bool}{a b:A}:AW E (.ap fl a b)=EB fl (ev E a) (ev E b):=rfl
theorem APM{d:D}{n c:A}:AW E (.mk d n c)=HP d (ev E n) (ev E c):=rfl
def C2(xs:List D):Option D:=if xs.all D.one=true then some (.l xs)else none
theorem AAD{s:Sh}{xs:List A}:AW E (.li s xs)=C2 (xs.map (ev E)):=rfl
theorem YW{a:A}:AW E (.bs a)=Hc (ev E a):=rfl
theorem Wl{a:A}:AW E (.sy a)=PG (ev E a):=rfl
def mxD:D→D→Option D|.i k x,.i k' y=>if k=k' then some (.i k (if y > x then y else x))else none|_,_=>none
def mnD:D→D→Option D|.i k x,.i k' y=>if k=k' then some (.i k (if y<x then y else x))else none|_,_=>none
def OD(k:Nat)(l:List (D×Nat)):Option D:=if l.all (Cs k)=true then some (.g (l.map (·.1)))else none
theorem XV{k:Nat}{xs:List (A×Nat)}:AW E (.bg k xs)=OD k (xs.map fun x=>(ev E x.1,x.2)):=by simp only[AW,OD,List.map_map];rfl
def Hr(k:Nat):Bool→List (D×Nat)→List D→Option D
 |false,_,_=>none
 |true,[],r=>some (.g r)
 |true,x::l,r=>Hr k (Cs k x) l (r++[x.1])
theorem ABJ{k:Nat}{l:List (D×Nat)}:OD k l=Hr k true l []:=by
 have key:∀(l:List (D×Nat))(r:List D),Hr k true l r=if l.all (Cs k)=true then some (.g (r++l.map (·.1)))else none:=by
  intro l;induction l with
  |nil=>intro r;simp[Hr]
  |cons x l ih=>
   intro r
   simp only[Hr]
   cases h:Cs k x with
   |true=>rw[ih];simp only[List.all_cons,h,Bool.true_and,List.map_cons,CI,List.cons_append,List.nil_append]
   |false=>simp[h,Hr]
 rw[key];simp[OD]
theorem Zw{k:Nat}{r:List D}:Hr k true [] r=some (.g r):=rfl
theorem AA2{k:Nat}{x:D×Nat}{l:List (D×Nat)}{r:List D}:Hr k true (x::l) r=Hr k (Cs k x) l (r++[x.1]):=rfl
theorem Xh{d:D}{i:Nat}:Cs 0 (d,i)=d.one:=by simp[Cs]
theorem AFD{k i:Nat}{q:IntKind}{n:Int}:Cs k (.i q n,i)=true:=by simp only[Cs,D.one,Bool.true_and,Bool.or_eq_true];right;right;cases min i k<;>simp[Cb,D.flat]
theorem AAM{k i:Nat}{x:List Nat}:Cs k (.s x,i)=true:=by simp only[Cs,D.one,Bool.true_and,Bool.or_eq_true];right;right;cases min i k<;>simp[Cb,D.flat]
theorem WX{k i:Nat}{x:Bool}:Cs k (.b x,i)=true:=by simp only[Cs,D.one,Bool.true_and,Bool.or_eq_true];right;right;cases min i k<;>simp[Cb,D.flat]
theorem AK3{a:A}:AW E (.bp a)=J4 (ev E a):=rfl
theorem AHF{xs:List D}:J4 (.g xs)=some (.p xs):=rfl
def Gw:List D→Nat→Bool
 |[],0=>true
 |_::xs,k+1=>Gw xs k
 |_,_=>false
theorem Nv:∀{xs:List D}{k:Nat},Gw xs k=decide (xs.length=k)
 |[],0=>rfl
 |[],k+1=>rfl
 |_::xs,0=>rfl
 |_::xs,k+1=>by simp[Gw,Nv (xs:=xs) (k:=k)]
theorem AJI:Gw [] 0=true:=rfl
theorem AG3{x:D}{xs:List D}{k:Nat}:Gw (x::xs) (k+1)=Gw xs k:=rfl
def I5:List D→Bool
 |[]=>true
 |x::xs=>x.one&&I5 xs
theorem AMK:∀{xs:List D},I5 xs=xs.all D.one
 |[]=>rfl
 |x::xs=>by simp[I5,AMK (xs:=xs)]
theorem AJX:I5 []=true:=rfl
theorem YP{x:D}{xs:List D}:I5 (x::xs)=(x.one&&I5 xs):=rfl
def Ju{α:Type}(r:α):Bool→Option α
 |true=>some r
 |false=>none
theorem AHU{α:Type}{r:α}:Ju r true=some r:=rfl
theorem Wb{a:A}{k:Nat}:AW E (.gp a k)=Jy k (ev E a):=rfl
theorem Z8{xs:List D}{k:Nat}:Jy k (.p xs)=Ju (.g xs) (Gw xs k):=by rw[Nv];simp only[Jy];by_cases h:xs.length=k<;>simp[h,Ju]
theorem AL9{w:Bool}{a:A}:AW E (.nz w a)=(KI (ev E a)).map fun x=>.b (x==w):=rfl
theorem AK0:KI .z=some true:=rfl
theorem ZK{xs:List D}:KI (.p xs)=some false:=rfl
theorem Zf{a:A}:AW E (.nn a)=MY (ev E a):=rfl
theorem ABM{xs:List D}:MY (.p xs)=some (.p xs):=rfl
theorem AHY{k:Nat}{a:A}:AW E (.wl k a)=Ew k (ev E a):=rfl
theorem Tc{xs:List D}{k:Nat}:Ew k (.g xs)=Ju (.g xs) (Gw xs k&&I5 xs):=by rw[Nv,AMK];simp only[Ew];by_cases h:xs.length=k<;>by_cases h2:xs.all D.one=true<;>simp[h,h2,Ju]
def wsD(d:D)(k:Nat)(x:D):Option D:=if IT k d=true then Ew k x else none
theorem AEN{n k:Nat}{a:A}:AW E (.ws n k a)=wsD (E n) k (ev E a):=rfl
theorem YE{ys xs:List D}{k:Nat}:wsD (.g ys) k (.g xs)=Ju (.g xs) (Gw ys k&&(Gw xs k&&I5 xs)):=by simp only[wsD,IT,Tc,Nv];by_cases h:ys.length=k<;>simp[h,Ju]
theorem Yk{a:A}{p:List PE}:AW E (.gt a p)=Dd E p (ev E a):=rfl
theorem ANA{i:Nat}{xs:List D}:Ak [i] (.g xs)=xs[i]?:=by simp only[Ak];cases xs[i]?<;>rfl
theorem AEW{q:IntKind}{n:Int}:known (.i q n)=some (.i q n):=rfl
theorem AJE{x:Bool}:known (.b x)=some (.b x):=rfl
theorem ZF{x:List Nat}:known (.s x)=some (.s x):=rfl
theorem ZT{x:List D}:known (.l x)=some (.l x):=rfl
theorem ACJ{x:List D}:known (.p x)=some (.p x):=rfl
theorem YY:known .z=some .z:=rfl
def fpE(fl:Bool)(k:Nat)(d:D):Option D:=(Lf k d).bind fun d=>if fl=true then Fo d else some d
theorem YV{fl:Bool}{a:A}{k:Nat}:AW E (.fp fl a k)=fpE fl k (ev E a):=rfl
def LC(fl:Bool)(d:D):Option D:=(known d).bind fun d=>if fl=true then Fo d else some d
theorem AMQ{fl:Bool}{k:Nat}{xs:List D}:fpE fl k (.p xs)=xs[k]?.bind (LC fl):=by simp only[fpE,Lf];cases xs[k]?<;>rfl
theorem AB4{d:D}:LC false d=known d:=by simp[LC]
theorem AF8{q:IntKind}{n:Int}:LC true (.i q n)=some (.i q n):=rfl
theorem Yu{x:List Nat}:LC true (.s x)=some (.s x):=rfl
theorem AAT{x:Bool}:LC true (.b x)=some (.b x):=rfl
theorem ACV{i:Nat}{xs:List D}{x:D}:Ao [i] (.g xs) x=xs[i]?.map fun _=>.g (xs.set i x):=by simp only[Ao];cases xs[i]?<;>rfl
def uqD(is:Option (List Nat))(d x:D)(i k:Nat):Option D:=if Cs k (x,i)=true then is.bind fun is=>Ao is d x else none
theorem ALF{n k:Nat}{p:List PE}{a:A}:AW E (.jn n p a k)=JS (p.mapM (PE.ev E)) (E n) (ev E a) k:=rfl
theorem AHQ{n:Nat}:AW E (.cb n)=K8 (E n):=rfl
theorem AJR{x:D}{xs:List D}:K8 (.g (x::xs))=some .u:=rfl
theorem ABY{n:Nat}{p:List PE}{a:A}{i k:Nat}:AW E (.uq n p a i k)=uqD (p.mapM (PE.ev E)) (E n) (ev E a) i k:=rfl
theorem APO{xs:List D}:(D.l xs).one=true:=rfl
theorem YJ{xs:List D}:(D.p xs).one=true:=rfl
theorem XU:D.z.one=true:=rfl
theorem AO4{x:D}{xs:List D}:(x::xs)[0]?=some x:=rfl
theorem ANH{x:D}{xs:List D}{n:Nat}:(x::xs)[n+1]?=xs[n]?:=by simp
theorem WV{a b:A}:AW E (.mx a b)=mxD (ev E a) (ev E b):=by simp only[AW];cases ev E a<;>cases ev E b<;>rfl
theorem AOB{a b:A}:AW E (.mn a b)=mnD (ev E a) (ev E b):=by simp only[AW];cases ev E a<;>cases ev E b<;>rfl
theorem AH5{k:IntKind}{x y:Int}:mxD (.i k x) (.i k y)=some (.i k (max x y)):=by simp only[mxD,if_true];congr 2;omega
theorem AMU{k:IntKind}{x y:Int}:mnD (.i k x) (.i k y)=some (.i k (min x y)):=by simp only[mnD,if_true];congr 2;omega
end
theorem AFN(n:Nat):Env.E [] n=.u:=rfl
theorem Vh(d:D)(e:Env):Env.E (d::e) 0=d:=rfl
theorem RV(d:D)(e:Env)(n:Nat):Env.E (d::e) (n+1)=Env.E e n:=by simp[Env.E]
theorem R7{e:Env}:DX [] e=[]:=rfl
theorem Ux{n:Nat}{o:List (Option Nat)}{e:Env}:DX (some n::o) e=e.E n::DX o e:=rfl
theorem Uh{o:List (Option Nat)}{e:Env}:DX (none::o) e=.u::DX o e:=rfl
section
variable{k:IntKind}{a b:Int}
theorem AHG:Bd .add (.i k a) (.i k b)=some (.i k (k.wrap (a+b))):=by simp[Bd,EC]
theorem ACZ:Bd .sub (.i k a) (.i k b)=some (.i k (k.wrap (a-b))):=by simp[Bd,EC]
theorem AO2:Bd .mul (.i k a) (.i k b)=some (.i k (k.wrap (a*b))):=by simp[Bd,EC]
theorem AJ6(h:b≠0):Bd .quo (.i k a) (.i k b)=some (.i k (k.wrap (a.tdiv b))):=by simp[Bd,EC,h]
theorem AQE(h:b≠0):Bd .rem (.i k a) (.i k b)=some (.i k (a.tmod b)):=by simp[Bd,EC,h]
theorem YD:Bd .eql (.i k a) (.i k b)=some (.b (decide (a=b))):=by simp[Bd,EC];rfl
theorem ABX:Bd .neq (.i k a) (.i k b)=some (.b (!decide (a=b))):=by simp only[Bd,EC,if_true];congr 2
theorem APA:Bd .lss (.i k a) (.i k b)=some (.b (decide (a<b))):=by simp[Bd,EC]
theorem AJU:Bd .leq (.i k a) (.i k b)=some (.b (decide (a≤b))):=by simp[Bd,EC]
theorem AA6:Bd .gtr (.i k a) (.i k b)=some (.b (decide (b<a))):=by simp[Bd,EC]
theorem ALV:Bd .geq (.i k a) (.i k b)=some (.b (decide (b≤a))):=by simp[Bd,EC]
theorem AD4{p:Bool}:LU .not (.b p)=some (.b (!p)):=rfl
theorem AII:LU .neg (.i k a)=some (.i k (k.wrap (0-a))):=rfl
theorem ABT{p q:Bool}:GS .eql (.b p) (.b q)=some (.b (p==q)):=rfl
theorem Vw{p q:Bool}:GS .neq (.b p) (.b q)=some (.b (!(p==q))):=rfl
theorem Yg{x y:List Nat}:Bd .eql (.s x) (.s y)=some (.b (x==y)):=rfl
theorem AFX{x y:List Nat}:Bd .neq (.s x) (.s y)=some (.b (!(x==y))):=rfl
theorem ZX{x y:List Nat}(h:x.length+y.length≤1099511627776):Bd .add (.s x) (.s y)=some (.s (x++y)):=by show Mh .add x y=_;simp only[Mh];rw[if_pos (show x.length+y.length≤GI from h)]
end
theorem wrap_i64{x:Int}(h:-9223372036854775808≤x∧x≤9223372036854775807):IntKind.i64.wrap x=x:=by
 obtain⟨h1,h2⟩:=h;have e:x%(2^64:Int)=x%18446744073709551616:=rfl;by_cases h0:0≤x
 ·have h3:x%18446744073709551616=x:=Int.emod_eq_of_lt h0 (by omega);simp[IntKind.wrap,IntKind.bits,IntKind.signed,h3];omega
 ·have h3:x%18446744073709551616=x+18446744073709551616:=by omega
  simp[IntKind.wrap,IntKind.bits,IntKind.signed,h3];omega
theorem wrap_u8{x:Int}(h:0≤x∧x≤255):IntKind.u8.wrap x=x:=by obtain⟨h1,h2⟩:=h;have h3:x%256=x:=Int.emod_eq_of_lt h1 (by omega);simp[IntKind.wrap,IntKind.bits,IntKind.signed,h3]
end Go.Cat
namespace Go.Cat
def LI(zs:List Int):D:=.l (zs.map D.n)
def LS(ss:List (List Nat)):D:=.l (ss.map D.s)
def LB(bs:List Nat):D:=.l (bs.map D.y)
def LT(bs:List Bool):D:=.l (bs.map D.b)
def LL(rs:List (List Int)):D:=.l (rs.map LI)
def AE(zs:List Int)(i:Int):Int:=zs.getD i.toNat 0
def AO(ss:List (List Nat))(i:Int):List Nat:=ss.getD i.toNat []
def AK(bs:List Nat)(i:Int):Nat:=bs.getD i.toNat 0
def CM(bs:List Bool)(i:Int):Bool:=bs.getD i.toNat false
def AG(rs:List (List Int))(i:Int):List Int:=rs.getD i.toNat []
def BM(zs:List Int)(i:Int)(x:Int):List Int:=zs.set i.toNat x
def Fb(zs:List (List Nat))(i:Int)(x:List Nat):List (List Nat):=zs.set i.toNat x
def CR(zs:List Bool)(i:Int)(x:Bool):List Bool:=zs.set i.toNat x
def DV(zs:List (List Int))(i:Int)(x:List Int):List (List Int):=zs.set i.toNat x
def rep{α:Type}(n:Int)(x:α):List α:=List.replicate n.toNat x
theorem Sp{α:Type}{n:Nat}{x:α}:rep (n:Int) x=List.replicate n x:=rfl
def sub{α:Type}(xs:List α)(i j:Int):List α:=(xs.take j.toNat).drop i.toNat
section
variable{α:Type}(f:α→D)(df:α)
theorem MJ{zs:List α}{k:IntKind}{i:Int}(hf:∀a,(f a).isU=false)(h0:0≤i)(h1:i<zs.length):D6 (.l (zs.map f)) (.i k i)=some (f (zs.getD i.toNat df)):=by
 have h2:i.toNat<zs.length:=by omega
 simp[D6,h0,h2,known,hf]
theorem get_map{zs:List α}{i:Nat}(h1:i<zs.length):Ak [i] (.l (zs.map f))=some (f (zs.getD i df)):=by simp[Ak,h1]
theorem JA{zs:List α}{i:Nat}{x:α}(h1:i<zs.length):Ao [i] (.l (zs.map f)) (f x)=some (.l ((zs.set i x).map f)):=by simp[Ao,h1,List.map_set]
theorem I6{zs:List α}{lo hi:Option D}{l h:Nat}(hl:bound lo 0=some l)(hh:bound hi zs.length=some h)(h1:l≤h)(h2:h≤zs.length):E8 (.l (zs.map f)) lo hi=some (.l (((zs.take h).drop l).map f)):=by simp[E8,hl,hh,h1,h2,List.map_take,List.map_drop]
theorem Pa{fl:Bool}{xs ys:List α}(hf:∀a,(f a).one=true∧(fl=true→(f a).flat=true))(h:xs.length+ys.length≤GI):EB fl (.l (xs.map f)) (.l (ys.map f))=some (.l ((xs++ys).map f)):=by
 have h2:(ys.map f).all (if fl=true then D.flat else D.one)=true:=by
  cases fl with
  |true=>simpa using fun a _=>(hf a).2 rfl
  |false=>simpa using fun a _=>(hf a).1
 simp only[EB,List.length_map];rw[if_pos ⟨h,h2⟩,List.map_append]
end
theorem JZ{d:Nat}:bound none d=some d:=rfl
theorem FG{k:IntKind}{n:Int}{d:Nat}(h:0≤n):bound (some (.i k n)) d=some n.toNat:=by simp[bound,h]
section
variable{zs ys:List Int}{i j x:Int}{k:IntKind}
theorem AB7:FC (LI zs)=some (.n zs.length):=by simp[FC,LI]
theorem AG7(h:0≤i∧i<zs.length):D6 (LI zs) (.i k i)=some (.n (AE zs i)):=MJ D.n 0 (fun _=>rfl) h.1 h.2
theorem AKP:Fo (.i k x)=some (.i k x):=rfl
theorem VN(h:0≤i∧i<zs.length):Ao [i.toNat] (LI zs) (.n x)=some (LI (BM zs i x)):=JA D.n (by omega)
theorem ADD(h:0≤i∧i≤j∧j≤zs.length):E8 (LI zs) (some (.n i)) (some (.n j))=some (LI (sub zs i j)):=
 I6 D.n (FG h.1) (FG (by omega)) (by omega) (by omega)
theorem AGG(h:0≤j∧j≤zs.length):E8 (LI zs) none (some (.n j))=some (LI (sub zs 0 j)):=I6 D.n JZ (FG (by omega)) (by omega) (by omega)
theorem Zy(h:0≤i∧i≤zs.length):E8 (LI zs) (some (.n i)) none=some (LI (sub zs i zs.length)):=by rw[LI,I6 D.n (FG h.1) JZ (by omega) (by omega)];rfl
theorem VW{fl:Bool}(h:zs.length+ys.length≤1099511627776):EB fl (LI zs) (LI ys)=some (LI (zs++ys)):=Pa D.n (fun _=>⟨rfl,fun _=>rfl⟩) h
theorem AO7{n m:Int}(h:0≤n∧n≤m∧m≤1099511627776):HP (.n x) (.n n) (.n m)=some (LI (rep n x)):=by simp only[HP,LI,rep];rw[if_pos (show 0≤n∧n≤m∧m≤(GI:Int)from h)];simp
theorem D8:D.l []=LI []:=rfl
theorem Zq:C2 []=some (.l []):=rfl
theorem Lo{a:Int}:C2 [.n a]=some (LI [a]):=rfl
theorem MM{a b:Int}:C2 [.n a,.n b]=some (LI [a,b]):=rfl
theorem Ty{a b c:Int}:C2 [.n a,.n b,.n c]=some (LI [a,b,c]):=rfl
theorem Vt:(D.i k x).one=true:=rfl
theorem Wv:(LI zs).one=true:=rfl
end
section
variable{s u:List Nat}{ss ts:List (List Nat)}{i j:Int}{k:IntKind}
theorem XR:NF (.s s)=some (.n s.length):=rfl
theorem AKD(h:0≤i∧i<s.length):Kb (.s s) (.i k i)=some (.y (AK s i)):=by
 have h2:i.toNat<s.length:=by omega
 simp[Kb,h.1,h2,AK]
theorem ACW(h:0≤i∧i≤j∧j≤s.length):Ga (.s s) (some (.n i)) (some (.n j))=some (.s (sub s i j)):=by simp only[Ga,FG h.1,FG (show 0≤j by omega)];rw[if_pos (by omega)];rfl
theorem AOI(h:0≤j∧j≤s.length):Ga (.s s) none (some (.n j))=some (.s (sub s 0 j)):=by simp only[Ga,JZ,FG h.1];rw[if_pos (by omega)];rfl
theorem Y8(h:0≤i∧i≤s.length):Ga (.s s) (some (.n i)) none=some (.s (sub s i s.length)):=by simp only[Ga,JZ,FG h.1];rw[if_pos (by omega)];rfl
theorem W6:FC (LS ss)=some (.n ss.length):=by simp[FC,LS]
theorem AKK(h:0≤i∧i<ss.length):D6 (LS ss) (.i k i)=some (.s (AO ss i)):=MJ D.s [] (fun _=>rfl) h.1 h.2
theorem AAR:Fo (.s s)=some (.s s):=rfl
theorem AIR(h:0≤i∧i<ss.length):Ao [i.toNat] (LS ss) (.s s)=some (LS (Fb ss i s)):=JA D.s (by omega)
theorem XO(h:0≤i∧i≤j∧j≤ss.length):E8 (LS ss) (some (.n i)) (some (.n j))=some (LS (sub ss i j)):=
 I6 D.s (FG h.1) (FG (by omega)) (by omega) (by omega)
theorem YS{fl:Bool}(h:ss.length+ts.length≤1099511627776):EB fl (LS ss) (LS ts)=some (LS (ss++ts)):=Pa D.s (fun _=>⟨rfl,fun _=>rfl⟩) h
theorem AA0{n m:Int}(h:0≤n∧n≤m∧m≤1099511627776):HP (.s s) (.n n) (.n m)=some (LS (rep n s)):=by simp only[HP,LS,rep];rw[if_pos (show 0≤n∧n≤m∧m≤(GI:Int)from h)];simp
theorem AJ9{a:List Nat}:C2 [.s a]=some (LS [a]):=rfl
theorem Vm:(D.s s).one=true:=rfl
end
section
variable{bs cs:List Nat}{i j:Int}{k:IntKind}{c:Nat}
theorem AG6:FC (LB bs)=some (.n bs.length):=by simp[FC,LB]
theorem AM2(h:0≤i∧i<bs.length):D6 (LB bs) (.i k i)=some (.y (AK bs i)):=MJ D.y 0 (fun _=>rfl) h.1 h.2
theorem Xj{fl:Bool}(h:bs.length+cs.length≤1099511627776):EB fl (LB bs) (LB cs)=some (LB (bs++cs)):=Pa D.y (fun _=>⟨rfl,fun _=>rfl⟩) h
theorem AF0:C2 [.y c]=some (LB [c]):=rfl
theorem TL{x:Int}(h:0≤x):C2 [.i .u8 x]=some (LB [x.toNat]):=by
 have:x=(x.toNat:Int):=by omega
 rw[this];rfl
theorem VX{x:Nat}(h:x<256):Hc (LB [x])=some (.s [x]):=by
 have h2:((x:Int))<256:=by omega
 simp[Hc,LB,bytesOf,h2]
theorem AEQ:D.l []=LB []:=rfl
theorem Vv(h:bs.length≤1099511627776):PG (.s bs)=some (LB bs):=by simp only[PG];rw[if_pos (show bs.length≤GI from h)];rfl
theorem AAY:∀{bs:List Nat},(∀c∈bs,c<256)→bytesOf (bs.map D.y)=some bs
 |[],_=>rfl
 |c::bs,h=>by
  have h1:=h c (by simp)
  simp only[List.map_cons,bytesOf]
  rw[if_pos (by omega),AAY fun c hc=>h c (by simp[hc])]
  simp
theorem Qy(h:∀c∈bs,c<256):Hc (LB bs)=some (.s bs):=by simp[Hc,LB,AAY h]
end
section
variable{bs cs:List Bool}{i j:Int}{k:IntKind}{c:Bool}
theorem WY:FC (LT bs)=some (.n bs.length):=by simp[FC,LT]
theorem Ye(h:0≤i∧i<bs.length):D6 (LT bs) (.i k i)=some (.b (CM bs i)):=MJ D.b false (fun _=>rfl) h.1 h.2
theorem ADW:Fo (.b c)=some (.b c):=rfl
theorem APL(h:0≤i∧i<bs.length):Ao [i.toNat] (LT bs) (.b c)=some (LT (CR bs i c)):=JA D.b (by omega)
theorem Z1{n m:Int}(h:0≤n∧n≤m∧m≤1099511627776):HP (.b c) (.n n) (.n m)=some (LT (rep n c)):=by simp only[HP,LT,rep];rw[if_pos (show 0≤n∧n≤m∧m≤(GI:Int)from h)];simp
theorem Zp:(D.b c).one=true:=rfl
end
section
variable{rs qs:List (List Int)}{r:List Int}{i j x:Int}{k:IntKind}
theorem Zi:FC (LL rs)=some (.n rs.length):=by simp[FC,LL]
theorem XT(h:0≤i∧i<rs.length):D6 (LL rs) (.i k i)=some (LI (AG rs i)):=MJ LI [] (fun _=>rfl) h.1 h.2
theorem AJH(h:0≤i∧i<rs.length):Ak [i.toNat] (LL rs)=some (LI (AG rs i)):=get_map LI [] (by omega)
theorem ACK(h:0≤i∧i<rs.length):Ao [i.toNat] (LL rs) (LI r)=some (LL (DV rs i r)):=JA LI (by omega)
theorem AF3(h:0≤i∧i<rs.length∧0≤j∧j<(AG rs i).length):Ao [i.toNat,j.toNat] (LL rs) (.n x)=some (LL (DV rs i (BM (AG rs i) j x))):=by
 obtain⟨h0,h1,h2,h3⟩:=h;have h4:i.toNat<rs.length:=by omega
 have h5:j.toNat<(AG rs i).length:=by omega
 have e:rs[i.toNat]=AG rs i:=by simp[AG,Al,h4]
 have:=JA D.n (x:=x) h5;have e1:Ao [i.toNat,j.toNat] (LL rs) (.n x)=(Ao [j.toNat] (LI (AG rs i)) (.n x)).map fun x'=>.l ((rs.map LI).set i.toNat x'):=by refine(show _=((rs.map LI)[i.toNat]?.bind fun y=>Ao [j.toNat] y (.n x)).map _ from rfl).trans ?_;rw[List.getElem?_map,En h4,Option.map_some,Option.bind_some,e]
 rw[e1,LI,this];simp[LL,DV,List.map_set,BM,LI]
theorem Ii{fl:Bool}(h:rs.length+qs.length≤1099511627776∧fl=false):EB fl (LL rs) (LL qs)=some (LL (rs++qs)):=Pa LI (fun _=>⟨rfl,fun e=>by rw[h.2]at e;cases e⟩) h.1
theorem AMT(h:0≤i∧i≤j∧j≤rs.length):E8 (LL rs) (some (.n i)) (some (.n j))=some (LL (sub rs i j)):=
 I6 LI (FG h.1) (FG (by omega)) (by omega) (by omega)
theorem AHN(h:0≤i∧i≤rs.length):E8 (LL rs) (some (.n i)) none=some (LL (sub rs i rs.length)):=by rw[LL,I6 LI (FG h.1) JZ (by omega) (by omega)];rfl
theorem PN:D.l []=LL []:=rfl
theorem Fm:C2 [LI r]=some (LL [r]):=rfl
end
theorem AIK{is:List Nat}{d:D}{k:IntKind}{n:Int}:He (some is) d (.i k n)=Ao is d (.i k n):=rfl
theorem AHA{is:List Nat}{d:D}{u:List Nat}:He (some is) d (.s u)=Ao is d (.s u):=rfl
theorem ABG{is:List Nat}{d:D}{u:Bool}:He (some is) d (.b u)=Ao is d (.b u):=rfl
theorem Yt{is:List Nat}{d:D}{u:List D}:He (some is) d (.l u)=Ao is d (.l u):=rfl
theorem AH9{is:List Nat}{d:D}{u:List (List Nat)}:He (some is) d (LS u)=Ao is d (LS u):=rfl
theorem Zr{is:List Nat}{d:D}{u:List (List Int)}:He (some is) d (LL u)=Ao is d (LL u):=rfl
theorem AGC{k:Nat}{x:List Int}:Cb (k+1) (LI x)=true:=by
 simp only[Cb,LI,Bool.or_eq_true,Aw];right;intro d hd;obtain⟨y,_,rfl⟩:=List.mem_map.1 hd
 cases k<;>simp[Cb,D.flat]
theorem AZM{k:Nat}{x:List (List Nat)}:Cb (k+1) (LS x)=true:=by
 simp only[Cb,LS,Bool.or_eq_true,Aw];right;intro d hd;obtain⟨y,_,rfl⟩:=List.mem_map.1 hd
 cases k<;>simp[Cb,D.flat]
theorem AXH{k:Nat}{x:List (List Int)}:Cb (k+2) (LL x)=true:=by show((D.l (x.map LI)).flat||(x.map LI).all (Cb (k+1)))=true;simp only[Bool.or_eq_true,Aw];right;intro d hd;obtain⟨y,_,rfl⟩:=List.mem_map.1 hd;exact AGC
theorem Ni{x:List Int}:Cb 1 (LI x)=true:=AGC
theorem SU{x:List (List Nat)}:Cb 1 (LS x)=true:=AZM
theorem TO{x:List (List Int)}:Cb 2 (LL x)=true:=AXH
theorem AM8{is:Option (List Nat)}{d:D}{x:List Int}:JS is d (LI x) 1=is.bind fun is=>Ao is d (LI x):=by unfold JS;rw[Ni];rfl
theorem AM0{is:Option (List Nat)}{d:D}{x:List (List Nat)}:JS is d (LS x) 1=is.bind fun is=>Ao is d (LS x):=by unfold JS;rw[SU];rfl
theorem AFK{is:Option (List Nat)}{d:D}{x:List (List Int)}:JS is d (LL x) 2=is.bind fun is=>Ao is d (LL x):=by unfold JS;rw[TO];rfl
def Nl(rs:List (List Int))(i:Int):D:=.l ((rs.map LI).set i.toNat .u)
theorem Mp{rs:List (List Int)}{i:Int}(h:0≤i∧i<rs.length):Hw 1 (LL rs) (some [i.toNat])=some (LI (AG rs i),Nl rs i):=by
 have h2:i.toNat<rs.length:=by omega
 simp[Hw,LL,Ak,Ao,h2,Ni,AG,Nl]
theorem N1{rs:List (List Int)}{i:Int}{x:List Int}(h:0≤i∧i<rs.length):Ao [i.toNat] (Nl rs i) (LI x)=some (LL (DV rs i x)):=by
 have h2:i.toNat<rs.length:=by omega
 simp[Nl,Ao,h2,LL,DV]
theorem ADI{is:List Nat}{d:D}{u:List Int}:He (some is) d (LI u)=Ao is d (LI u):=rfl
theorem ZC{a b:Int}(h:0≤a):a.tmod b=a%b:=Int.tmod_eq_emod_of_nonneg h
theorem Xt{a b:Int}(h:0≤a):a.tdiv b=a/b:=Int.tdiv_eq_ediv_of_nonneg h
theorem vl:(∀{α:Type}{a:α}{l:List α},(a::l).length=l.length+1)∧(∀{α:Type},([]:List α).length=0)∧(∀{α:Type}{a b:List α},(a++b).length=a.length+b.length)∧
  (∀{zs:List Int}{i x:Int},(BM zs i x).length=zs.length)∧(∀{zs:List (List Nat)}{i:Int}{x:List Nat},(Fb zs i x).length=zs.length)∧(∀{zs:List Bool}{i:Int}{x:Bool},(CR zs i x).length=zs.length)∧
  (∀{zs:List (List Int)}{i:Int}{x:List Int},(DV zs i x).length=zs.length)∧(∀{α:Type}{xs:List α}{i j:Int},(sub xs i j).length=min j.toNat xs.length-i.toNat)∧(∀{α:Type}{n:Int}{y:α},(rep n y).length=n.toNat)∧
  (∀{α β:Type}{f:α→β}{l:List α},(l.map f).length=l.length)∧(∀{α:Type}{l:List α}{n:Nat},(l.take n).length=min n l.length)∧(∀{α:Type}{l:List α}{n:Nat},(l.drop n).length=l.length-n)∧(∀{α:Type}{l:List α},l.reverse.length=l.length):=
 ⟨AY,Ap,A7,by simp[BM],by simp[Fb],by simp[CR],by simp[DV],by simp[sub],by simp[rep],List.length_map _,List.length_take,List.length_drop,List.length_reverse⟩
theorem ADA{p:Bool}:(p==p)=true:=by simp
theorem ANX{x:List Nat}:(x==x)=true:=by simp
theorem GX{zs:List Int}{i j:Nat}{x:Int}(hi:i<zs.length):AE (BM zs i x) j=if i=j then x else AE zs j:=by
 simp only[AE,BM,BH,Al,List.getElem?_set];split
 ·rename_i h;subst h;simp
 ·rfl
theorem AI2{zs:List (List Nat)}{i j:Nat}{x:List Nat}(hi:i<zs.length):AO (Fb zs i x) j=if i=j then x else AO zs j:=by
 simp only[AO,Fb,BH,Al,List.getElem?_set];split
 ·rename_i h;subst h;simp
 ·rfl
theorem ASI{zs:List Bool}{i j:Nat}{x:Bool}(hi:i<zs.length):CM (CR zs i x) j=if i=j then x else CM zs j:=by
 simp only[CM,CR,BH,Al,List.getElem?_set];split
 ·rename_i h;subst h;simp
 ·rfl
theorem Fw{a b:List Int}(hl:a.length=b.length)(h:∀j:Nat,j<a.length→AE a j=AE b j):a=b:=by apply List.ext_getElem hl;intro j h1 h2;have:=h j h1;simpa[AE,h1,h2]using this
theorem JE{α:Type}{n:Int}{y:α}:(rep n y).length=n.toNat:=by simp[rep]
section
variable{zs:List Int}{i j x:Int}
theorem Cv:(BM zs i x).length=zs.length:=by simp[BM]
theorem NJ{ss:List (List Nat)}{s:List Nat}:(Fb ss i s).length=ss.length:=by simp[Fb]
theorem Fe{ss:List Bool}{s:Bool}:(CR ss i s).length=ss.length:=by simp[CR]
theorem Rb{ss:List (List Int)}{s:List Int}:(DV ss i s).length=ss.length:=by simp[DV]
theorem KH{α:Type}{xs:List α}:(sub xs i j).length=min j.toNat xs.length-i.toNat:=by simp[sub]
end
theorem AD{K:Nat→List D→List D→Prop}{g:Nat}{ds:List D}{r:Nat}{e:Env}{Q:Env→Prop}{rs:List D}(h:K g ds rs)(hl:rs.length=r)(hq:Q (e++rs)):RT K g ds r e Q:=⟨rs,h,hl,hq⟩
theorem Eo{w:List Nat}{i:Nat}(h:i<w.length):w.drop i=AK w i::w.drop (i+1):=by rw[List.drop_eq_getElem_cons h];simp[AK,h]
theorem D2{a b c d:D}(h:a=c)(h2:b=d):[a,b]=[c,d]:=by rw[h,h2]
theorem Db{p q:Bool}(h:p=q):[D.b p]=[D.b q]:=by rw[h]
theorem Dn{k:IntKind}{p q:Int}(h:p=q):[D.i k p]=[D.i k q]:=by rw[h]
theorem Dl{p q:List Int}(h:p=q):[LI p]=[LI q]:=by rw[h]
theorem Jf{zs:List Int}{p:Int→Bool}{i:Nat}(hi:i<zs.length)(h:p (AE zs i)=false):zs.all p=false:=by rw[Bool.eq_false_iff];intro ha;rw[Aw]at ha;have:=ha (AE zs i) (by simp[AE,hi]);rw[h]at this;cases this
theorem I8{zs:List Int}{p:Int→Bool}(h:∀j:Nat,j<zs.length→p (AE zs j)=true):zs.all p=true:=by rw[Aw];intro x hx;obtain⟨j,hj,rfl⟩:=List.mem_iff_getElem.1 hx;have:=h j hj;simpa[AE,hj]using this
theorem CB{i:Nat}{p:Nat→Prop}(h:∀j,j<i→p j)(h2:p i):∀j,j<i+1→p j:=by
 intro j hj;rcases Bh j i with q|q
 ·exact h j q
 ·obtain rfl:j=i:=by omega
  exact h2
def MP{α:Type}(f:α→D)(m:List (List Nat×α)):D:=.g (m.map fun x=>.g [.s x.1,f x.2])
def MI(m:List (List Nat×Int)):D:=MP D.n m
def MS(m:List (List Nat×List Nat)):D:=MP D.s m
def C1{α:Type}(k:List Nat):List (List Nat×α)→Option α
 |[]=>none
 |(j,v)::m=>if k=j then some v else C1 k m
def FV{α:Type}(k:List Nat)(v:α):List (List Nat×α)→List (List Nat×α)
 |[]=>[(k,v)]
 |(j,x)::m=>if k=j then(k,v)::m else(j,x)::FV k v m
theorem MO{α:Type}{f:α→D}{k:List Nat}:∀m:List (List Nat×α),getM k (m.map fun x=>.g [.s x.1,f x.2])=(C1 k m).map f
 |[]=>rfl
 |(j,v)::m=>by
  simp only[List.map_cons,getM,C1]
  split
  ·rfl
  ·exact MO m
theorem Ri{α:Type}{f:α→D}{k:List Nat}{v:α}:∀m:List (List Nat×α),GC k (f v) (m.map fun x=>.g [.s x.1,f x.2])=(FV k v m).map fun x=>.g [.s x.1,f x.2]
 |[]=>rfl
 |(j,x)::m=>by
  simp only[List.map_cons,GC,FV]
  split
  ·rfl
  ·rw[Ri m];rfl
section
variable{k:List Nat}{m:List (List Nat×Int)}{ms:List (List Nat×List Nat)}{v d:Int}{s e:List Nat}
theorem muI:Gk (MI m) (.s k) (.n v)=some (MI (FV k v m)):=by simp only[MI,MP,Gk,D.flat,if_true];rw[Ri]
theorem muS:Gk (MS ms) (.s k) (.s s)=some (MS (FV k s ms)):=by simp only[MS,MP,Gk,D.flat,if_true];rw[Ri]
theorem AH0:Gk (.g []) (.s k) (.n v)=some (MI [(k,v)]):=rfl
theorem WD:Gk (.g []) (.s k) (.s s)=some (MS [(k,s)]):=rfl
theorem mgI:Hn (.n d) (MI m) (.s k)=some (.n ((C1 k m).getD d)):=by simp only[MI,MP,Hn];rw[MO];cases C1 k m<;>rfl
theorem mgS:Hn (.s e) (MS ms) (.s k)=some (.s ((C1 k ms).getD e)):=by simp only[MS,MP,Hn];rw[MO];cases C1 k ms<;>rfl
theorem moI:HK (.n d) (MI m) (.s k)=some (.n ((C1 k m).getD d),.b (C1 k m).isSome):=by simp only[MI,MP,HK];rw[MO];cases C1 k m<;>rfl
theorem moS:HK (.s e) (MS ms) (.s k)=some (.s ((C1 k ms).getD e),.b (C1 k ms).isSome):=by simp only[MS,MP,HK];rw[MO];cases C1 k ms<;>rfl
end
def HH(R:Env→Prop)(Q:X→Env→Prop):X→Env→Prop
 |.n,e=>R e
 |.ex j,e=>Q (.ex j) e
 |.r,e=>Q .r e
theorem AHR{R:Env→Prop}{Q:X→Env→Prop}{e:Env}:HH R Q .n e=R e:=rfl
theorem WH{R:Env→Prop}{Q:X→Env→Prop}{e:Env}{j:Nat}:HH R Q (.ex j) e=Q (.ex j) e:=rfl
theorem Yl{R:Env→Prop}{Q:X→Env→Prop}{e:Env}:HH R Q .r e=Q .r e:=rfl
def iter{σ:Type}(f:Nat→σ→σ):Nat→σ→σ
 |0,s=>s
 |n+1,s=>f n (iter f n s)
theorem S3{σ:Type}{f:Nat→σ→σ}{s0:σ}(P:σ→Prop)(h0:P s0)(hp:∀i s,P s→P (f i s)):∀n,P (iter f n s0)
 |0=>h0
 |n+1=>hp n _ (S3 P h0 hp n)
theorem Be{K:Nat→List D→List D→Prop}{b:S}{Q:X→Env→Prop}{e:Env}{σ:Type}(I:σ→Prop)(mk:σ→Env)(m:σ→Nat)(s0:σ)(h0:I s0)(he:e=mk s0)
  (step:∀s,I s→wpS K b (HH (fun e'=>∃s',m s' < m s∧I s'∧e'=mk s') Q) (mk s)):wpS K (.loop b) Q e:=by
 refine ASC (fun n e=>∃s,n=m s∧I s∧e=mk s) (m s0) ⟨s0,rfl,h0,he⟩ ?_;rintro _ _ ⟨s,rfl,hI,rfl⟩;refine DH b (fun x e h=>?_) (step s hI)
 cases x with
 |n=>obtain⟨s',h1,h2,h3⟩:=h;exact⟨m s',h1,s',rfl,h2,h3⟩
 |ex j=>exact h
 |r=>exact h
theorem Au{K:Nat→List D→List D→Prop}{b:S}{Q:X→Env→Prop}{e:Env}{σ:Type}(P:Nat→σ→Prop)(mk:Nat→σ→Env)(n:Nat)(s0:σ)(h0:P 0 s0)(he:e=mk 0 s0)
  (step:∀i s,i<n→P i s→wpS K b (HH (fun e'=>∃s',P (i+1) s'∧e'=mk (i+1) s') Q) (mk i s))
  (last:∀s,P n s→wpS K b (HH (fun _=>False) Q) (mk n s)):wpS K (.loop b) Q e:=by
 refine Be (fun(x:Nat×σ)=>x.1≤n∧P x.1 x.2) (fun x=>mk x.1 x.2) (fun x=>n-x.1) (0,s0) ⟨Nat.zero_le _,h0⟩ he ?_;rintro⟨i,s⟩ ⟨hi,hP⟩;rcases Bh i n with hlt|hge
 ·refine DH b (fun x e h=>?_) (step i s hlt hP)
  cases x with
  |n=>obtain⟨s',h1,h2⟩:=h;exact⟨(i+1,s'),by show n-(i+1)<n-i;omega,⟨hlt,h1⟩,h2⟩
  |ex j=>exact h
  |r=>exact h
 ·obtain rfl:i=n:=Nat.le_antisymm hi hge;refine DH b (fun x e h=>?_) (last s hP)
  cases x with
  |n=>exact h.elim
  |ex j=>exact h
  |r=>exact h
theorem AL{K:Nat→List D→List D→Prop}{b:S}{Q:X→Env→Prop}{e:Env}(P:Nat→Prop)(mk:Nat→Env)(n:Nat)(h0:P 0)(he:e=mk 0)
  (step:∀i,i<n→P i→wpS K b (HH (fun e'=>P (i+1)∧e'=mk (i+1)) Q) (mk i))
  (last:P n→wpS K b (HH (fun _=>False) Q) (mk n)):wpS K (.loop b) Q e:=by
 refine Au (fun i (_:Unit)=>P i) (fun i _=>mk i) n () h0 he (fun i _ hi hP=>?_) (fun _ h=>last h);refine DH b (fun x e h=>?_) (step i hi hP)
 cases x with
 |n=>exact⟨(),h.1,h.2⟩
 |ex j=>exact h
 |r=>exact h
theorem MZ{K:Nat→List D→List D→Prop}{b:S}{Q:X→Env→Prop}{e:Env}{σ:Type}(f:Nat→σ→σ)(P:Nat→σ→Prop)(mk:Nat→σ→Env)(n:Nat)(s0:σ)(h0:P 0 s0)(he:e=mk 0 s0)
  (hp:∀i s,i<n→P i s→P (i+1) (f i s))
  (step:∀i s,i<n→P i s→s=iter f i s0→wpS K b (HH (fun e'=>e'=mk (i+1) (f i s)) Q) (mk i s))
  (last:∀s,s=iter f n s0→P n s→wpS K b (HH (fun _=>False) Q) (mk n s)):wpS K (.loop b) Q e:=by
 refine Au (fun i s=>s=iter f i s0∧P i s) mk n s0 ⟨rfl,h0⟩ he (fun i s hi hP=>?_) (fun s h=>last s h.1 h.2);obtain⟨h1,h2⟩:=hP;refine DH b (fun x e h=>?_) (step i s hi h2 h1)
 cases x with
 |n=>exact⟨f i s,⟨by rw[h1];rfl,hp i s hi h2⟩,h⟩
 |ex j=>exact h
 |r=>exact h
theorem AXW{K:Nat→List D→List D→Prop}{k:Nat}{f:IF}[h:Has K k f]{ds rs:List D}(hl:ds.length=f.np)(hb:wpS K f.body (PO f.res rs) (ds++List.replicate (f.nv-f.np) .u))(hc:Gf f.cl rs=true:=by rfl):K k ds rs:=by
 refine h.h ds rs ⟨⟨hl,hc⟩,?_⟩;refine DH _ (fun x e h=>?_) hb
 cases x with
 |ex _=>exact h.elim
 |n=>exact⟨trivial,h⟩
 |r=>exact⟨trivial,h⟩
section
variable{K:Nat→List D→List D→Prop}
theorem AWD{p:Pr}{e:Env}{Q:Env→Prop}(h:A5 K p e Q):∃e',Q e'∧A5 K p e (·=e'):=by
 unfold A5 at*;split at h
 ·exact⟨_,h,rfl⟩
 ·obtain⟨rs,h1,h2,h3⟩:=h;exact⟨_,h3,rs,h1,h2,rfl⟩
 ·obtain⟨h0,rs,h1,h2,h3⟩:=h;exact⟨_,h3,h0,rs,h1,h2,rfl⟩
 ·split at h
  ·exact⟨_,h,rfl⟩
  ·exact h.elim
 ·split at h
  ·exact⟨_,h,rfl⟩
  ·exact h.elim
 ·split at h
  ·exact⟨_,h,rfl⟩
  ·exact h.elim
 ·split at h
  ·exact⟨_,h,rfl⟩
  ·exact h.elim
 ·split at h
  ·exact⟨_,h,rfl⟩
  ·exact h.elim
theorem TT:∀{its:List It}{e:Env}{Q:Env→Prop}(_:Dw K its e Q),∃e',Q e'∧Dw K its e (·=e')
 |[],e,Q,h=>⟨e,h,rfl⟩
 |it::its,e,Q,h=>by
  simp only[Dw,HS]at*
  split at h
  ·rename_i hg
   obtain⟨e1,h1,h2⟩:=AWD h
   obtain⟨e2,h3,h4⟩:=TT h1
   refine⟨e2,h3,?_⟩
   exact Wn (fun e h=>by subst h;exact h4) h2
  ·obtain⟨e2,h3,h4⟩:=TT h
   exact⟨e2,h3,h4⟩
  ·exact h.elim
theorem AGB{R:(X→Env→Prop)→Env→Prop}(hm:∀Q Q' e,(∀x e,Q x e→Q' x e)→R Q e→R Q' e)(hR:∀Q e,R Q e→∃x' e',Q x' e'∧R (fun x e=>x=x'∧e=e') e):
  ∀(n:Nat){e:Env}{Q:X→Env→Prop}(_:D4 R n Q e),∃x' e',Q x' e'∧D4 R n (fun x e=>x=x'∧e=e') e
 |0,_,_,h=>h.elim
 |n+1,e,Q,h=>by
  simp only[D4]at h
  obtain⟨x1,e1,h1,h2⟩:=hR _ _ h
  cases x1 with
  |n=>
   obtain⟨x2,e2,h3,h4⟩:=AGB hm hR n h1
   refine⟨x2,e2,h3,?_⟩
   simp only[D4]
   exact hm _ _ _ (fun x e h=>by obtain⟨rfl,rfl⟩:=h;exact h4) h2
  |ex j=>
   refine⟨.ex j,e1,h1,?_⟩
   simp only[D4]
   exact hm _ _ _ (fun x e h=>by obtain⟨rfl,rfl⟩:=h;exact⟨rfl,rfl⟩) h2
  |r=>
   refine⟨.r,e1,h1,?_⟩
   simp only[D4]
   exact hm _ _ _ (fun x e h=>by obtain⟨rfl,rfl⟩:=h;exact⟨rfl,rfl⟩) h2
theorem J3:∀(s:S){e:Env}{Q:X→Env→Prop}(_:wpS K s Q e),∃x' e',Q x' e'∧wpS K s (fun x e=>x=x'∧e=e') e
 |.skip,e,Q,h=>⟨_,_,h,rfl,rfl⟩
 |.reg its out,e,Q,h=>by
  simp only[wpS]at h
  obtain⟨e1,h1,h2⟩:=TT h
  exact⟨_,_,h1,QP (fun e h=>by subst h;exact⟨rfl,rfl⟩) h2⟩
 |.seq a b,e,Q,h=>by
  simp only[wpS]at h
  obtain⟨x1,e1,h1,h2⟩:=J3 a h
  cases x1 with
  |n=>
   obtain⟨x2,e2,h3,h4⟩:=J3 b h1
   refine⟨x2,e2,h3,?_⟩
   simp only[wpS]
   exact DH a (fun x e h=>by obtain⟨rfl,rfl⟩:=h;exact h4) h2
  |ex j=>
   refine⟨.ex j,e1,h1,?_⟩
   simp only[wpS]
   exact DH a (fun x e h=>by obtain⟨rfl,rfl⟩:=h;exact⟨rfl,rfl⟩) h2
  |r=>
   refine⟨.r,e1,h1,?_⟩
   simp only[wpS]
   exact DH a (fun x e h=>by obtain⟨rfl,rfl⟩:=h;exact⟨rfl,rfl⟩) h2
 |.cond n x y,e,Q,h=>by
  simp only[wpS]at*
  split at h
  ·exact J3 x h
  ·exact J3 y h
  ·exact h.elim
 |.block id b,e,Q,h=>by
  simp only[wpS]at h
  obtain⟨x1,e1,h1,h2⟩:=J3 b h
  cases x1 with
  |n=>
   refine⟨.n,e1,h1,?_⟩
   simp only[wpS]
   exact DH b (fun x e h=>by obtain⟨rfl,rfl⟩:=h;exact⟨rfl,rfl⟩) h2
  |ex j=>
   simp only at h1
   split at h1
   ·rename_i hj
    refine⟨.n,e1,h1,?_⟩
    simp only[wpS]
    exact DH b (fun x e h=>by obtain⟨rfl,rfl⟩:=h;simp[hj]) h2
   ·rename_i hj
    refine⟨.ex j,e1,h1,?_⟩
    simp only[wpS]
    exact DH b (fun x e h=>by obtain⟨rfl,rfl⟩:=h;simp[hj]) h2
  |r=>
   refine⟨.r,e1,h1,?_⟩
   simp only[wpS]
   exact DH b (fun x e h=>by obtain⟨rfl,rfl⟩:=h;exact⟨rfl,rfl⟩) h2
 |.loop b,e,Q,h=>by
  simp only[wpS]at h
  obtain⟨n,h⟩:=h
  obtain⟨x1,e1,h1,h2⟩:=AGB (R:=wpS K b) (fun Q Q' e hQ h=>DH b hQ h) (fun Q e h=>J3 b h) n h
  exact⟨x1,e1,h1,n,h2⟩
 |.exit id,e,Q,h=>⟨_,_,h,rfl,rfl⟩
 |.ret,e,Q,h=>⟨_,_,h,rfl,rfl⟩
theorem AUM{k:Nat}{f:IF}[h:Has K k f]{ds:List D}{P:List D→Prop}(hl:ds.length=f.np)(hb:wpS K f.body (QJ f.res P) (ds++List.replicate (f.nv-f.np) .u))(hc:∀rs,P rs→Gf f.cl rs=true:=by intros;rfl):∃rs,P rs∧K k ds rs:=by
 obtain⟨x,e,h1,h2⟩:=J3 _ hb;have h3:(∀j,x≠.ex j)∧P (f.res.map e.E):=by
  cases x with
  |ex j=>exact h1.elim
  |n=>exact⟨by simp,h1⟩
  |r=>exact⟨by simp,h1⟩
 refine⟨_,h3.2,h.h ds _ ⟨⟨hl,hc _ h3.2⟩,DH _ (fun x' e' h=>?_) h2⟩⟩;obtain⟨rfl,rfl⟩:=h
 cases x' with
 |ex j=>exact(h3.1 j rfl).elim
 |n=>exact⟨trivial,rfl⟩
 |r=>exact⟨trivial,rfl⟩
end
end Go.Cat
namespace Go.Cat
set_option maxRecDepth 10000
theorem vcL:
  (∀{α:Type}{a:α}{as bs:List α},(a::as)++bs=a::(as++bs))∧
  (∀{α:Type}{as:List α},[]++as=as)∧
  (∀{α:Type}{as:List α},as++[]=as)∧
  (∀{α β:Type}{f:α→β}{a:α}{l:List α},List.map f (a::l)=f a::List.map f l)∧
  (∀{α β:Type}{f:α→β},List.map f []=[])∧
  (∀{α:Type}{a b:α}{l:List α},(a::l).set 0 b=b::l)∧
  (∀{α:Type}{a b:α}{l:List α}{n:Nat},(a::l).set (n+1) b=a::l.set n b)∧
  (∀{α:Type}{a:α}{n:Nat},List.replicate (n+1) a=a::List.replicate n a)∧
  (∀{α:Type}{a:α},List.replicate 0 a=[])∧
  (∀{α β:Type}{f:α→Option β}{a:α},(some a).bind f=f a)∧
  (∀{α β:Type}{f:α→β}{a:α},(some a).map f=some (f a))∧
  (∀{α β:Type}{f:α→β},(none:Option α).map f=none)∧
  ((!true)=false)∧((!false)=true)∧(∀{b:Bool},(!!b)=b)∧
  (∀{α:Sort 1}{a b:α},(if True then a else b)=a)∧(∀{α:Sort 1}{a b:α},(if False then a else b)=b)∧
  (∀{b:Bool},(b&&true)=b)∧(∀{b:Bool},(true&&b)=b)∧(∀{b:Bool},(b&&false)=false)∧(∀{b:Bool},(false&&b)=false)∧
  (∀{b:Bool},(b||true)=true)∧(∀{b:Bool},(true||b)=true)∧(∀{b:Bool},(b||false)=b)∧(∀{b:Bool},(false||b)=b)∧
  (∀[Decidable True],decide True=true)∧(∀[Decidable False],decide False=false)∧
  (∀{i:Nat},((i+1:Nat):Int)=(i:Int)+1)∧(((0:Nat):Int)=0)∧
  (∀{p:Prop},(p∧True)=p)∧(∀{p:Prop},(True∧p)=p)∧
  (Pr.nop.np=0)∧(∀{g:Nat}{xs:List A}{r:Nat},(Pr.ca g xs r).np=r):=
 ⟨List.cons_append,List.nil_append _,List.append_nil _,List.map_cons,List.map_nil,List.set_cons_zero,List.set_cons_succ,List.replicate_succ,List.replicate_zero,Option.bind_some _ _,Option.map_some _ _,Option.map_none _,
  rfl,rfl,Bool.not_not _,if_pos trivial,if_neg id,Bool.and_true _,Bool.true_and _,Bool.and_false _,Bool.false_and _,Bool.or_true _,Bool.true_or _,Bool.or_false _,Bool.false_or _,decide_eq_true trivial,decide_eq_false id,Int.natCast_succ _,rfl,and_true _,true_and _,rfl,rfl⟩
theorem vcN:
 (∀{s:Sh}{d:D},(Pr.cs s d).np=1)∧
 (∀{a:A},(Pr.cy a).np=1)∧
 (∀{op:BinOp}{a b:A},(Pr.bi op a b).np=1)∧
 (∀{op:BinOp}{a b:A},(Pr.bb op a b).np=1)∧
 (∀{op:UnOp}{a:A},(Pr.un op a).np=1)∧
 (∀{a b c:A},(Pr.pk a b c).np=1)∧
 (∀{k:IntKind}{a:A},(Pr.cv k a).np=1)∧
 (∀{a:A}{p:List PE},(Pr.ln a p).np=1)∧
 (∀{a:A},(Pr.sn a).np=1)∧
 (∀{a b:A},(Pr.sx a b).np=1)∧
 (∀{a:A}{lo hi:Option A},(Pr.ss a lo hi).np=1)∧
 (∀{a:A}{p:List PE}{b:A},(Pr.ix a p b).np=1)∧
 (∀{n:Nat}{p:List PE}{a:A},(Pr.up n p a).np=1)∧
 (∀{fz:Bool}{a:A}{lo hi:Option A},(Pr.sb fz a lo hi).np=1)∧
 (∀{fl:Bool}{a b:A},(Pr.ap fl a b).np=1)∧
 (∀{d:D}{a b:A},(Pr.mk d a b).np=1)∧
 (∀{s:Sh}{xs:List A},(Pr.li s xs).np=1)∧
 (∀{a:A},(Pr.bs a).np=1)∧
 (∀{a:A},(Pr.sy a).np=1)∧
 (∀{a b:A},(Pr.mx a b).np=1)∧
 (∀{a b:A},(Pr.mn a b).np=1)∧
 (∀{a b:A},(Pr.iy a b).np=1)∧
 (∀{k:Nat}{xs:List (A×Nat)},(Pr.bg k xs).np=1)∧
 (∀{a:A},(Pr.bp a).np=1)∧
 (∀{a:A}{k:Nat},(Pr.gp a k).np=1)∧
 (∀{w:Bool}{a:A},(Pr.nz w a).np=1)∧
 (∀{a:A},(Pr.nn a).np=1)∧
 (∀{k:Nat}{a:A},(Pr.wl k a).np=1)∧
 (∀{n k:Nat}{a:A},(Pr.ws n k a).np=1)∧
 (∀{a:A}{p:List PE},(Pr.gt a p).np=1)∧
 (∀{fl:Bool}{a:A}{k:Nat},(Pr.fp fl a k).np=1)∧
 (∀{n:Nat}{p:List PE}{a:A}{i k:Nat},(Pr.uq n p a i k).np=1)∧
 (∀{n:Nat},(Pr.cb n).np=1)∧
 (∀{n:Nat}{p:List PE}{a:A}{k:Nat},(Pr.jn n p a k).np=1)∧
 (Pr.mm.np=1)∧
 (∀{n:Nat}{a b:A},(Pr.mu n a b).np=1)∧
 (∀{n:Nat}{a:A}{d:D},(Pr.mg n a d).np=1)∧
 (∀{n:Nat}{a:A}{d:D},(Pr.mo n a d).np=2)∧
 (∀{n:Nat},(Pr.tk n).np=2)∧
 (∀{n k:Nat}{p:List PE},(Pr.sp n p k).np=2)∧
 (∀{n:Nat},(Pr.sw n).np=2):=
 ⟨rfl,rfl,rfl,rfl,rfl,rfl,rfl,rfl,rfl,rfl,rfl,rfl,rfl,rfl,rfl,rfl,rfl,rfl,rfl,rfl,rfl,rfl,rfl,rfl,rfl,rfl,rfl,rfl,rfl,rfl,rfl,rfl,rfl,rfl,rfl,rfl,rfl,rfl,rfl,rfl,rfl⟩
theorem vcO:
 (∀{a b:Int},(a<b)→decide (a<b)=true)∧
 (∀{a b:Int},(b≤a)→decide (a<b)=false)∧
 (∀{a b:Int},(a≤b)→decide (a≤b)=true)∧
 (∀{a b:Int},(b<a)→decide (a≤b)=false)∧
 (∀{a b:Int},(a=b)→decide (a=b)=true)∧
 (∀{a b:Int},(a<b∨b<a)→decide (a=b)=false):=
 ⟨decide_eq_true,fun h=>decide_eq_false (by omega),decide_eq_true,fun h=>decide_eq_false (by omega),decide_eq_true,fun h=>decide_eq_false (by omega)⟩
theorem vc0:type_of% (And.intro @wp_seq <|And.intro @wp_block <|And.intro @wp_skip <|And.intro @wp_exit <|And.intro @wp_ret <|And.intro @APX <|And.intro @wp_cond <|And.intro @AJM <|And.intro @ANB <|And.intro @AJL <|And.intro @AE0 <|And.intro @AM4 <|And.intro @Yo <|And.intro @WN <|And.intro @Xa <|And.intro @ALJ <|And.intro @ZG <|And.intro @AM9 <|And.intro @AHR <| @WH):=And.intro @wp_seq <|And.intro @wp_block <|And.intro @wp_skip <|And.intro @wp_exit <|And.intro @wp_ret <|And.intro @APX <|And.intro @wp_cond <|And.intro @AJM <|And.intro @ANB <|And.intro @AJL <|And.intro @AE0 <|And.intro @AM4 <|And.intro @Yo <|And.intro @WN <|And.intro @Xa <|And.intro @ALJ <|And.intro @ZG <|And.intro @AM9 <|And.intro @AHR <| @WH
theorem vc1:type_of% (And.intro @Yl <|And.intro @AFM <|And.intro @ADR <|And.intro @AFE <|And.intro @Xv <|And.intro @XH <|And.intro @ACU <|And.intro @W7 <|And.intro @AAC <|And.intro @AN7 <|And.intro @AE1 <|And.intro @AHT <|And.intro @AFF <|And.intro @ANJ <|And.intro @ACC <|And.intro @AI3 <|And.intro @XI <|And.intro @WZ <|And.intro @Vu <| @Xr):=And.intro @Yl <|And.intro @AFM <|And.intro @ADR <|And.intro @AFE <|And.intro @Xv <|And.intro @XH <|And.intro @ACU <|And.intro @W7 <|And.intro @AAC <|And.intro @AN7 <|And.intro @AE1 <|And.intro @AHT <|And.intro @AFF <|And.intro @ANJ <|And.intro @ACC <|And.intro @AI3 <|And.intro @XI <|And.intro @WZ <|And.intro @Vu <| @Xr
theorem vc2:type_of% (And.intro @ACT <|And.intro @AIF <|And.intro @AM3 <|And.intro @APE <|And.intro @APU <|And.intro @YX <|And.intro @Zm <|And.intro @Yz <|And.intro @AI0 <|And.intro @ADJ <|And.intro @ALQ <|And.intro @API <|And.intro @ABC <|And.intro @AMF <|And.intro @X7 <|And.intro @AC6 <|And.intro @AHE <|And.intro @AFA <|And.intro @AJ2 <| @YL):=And.intro @ACT <|And.intro @AIF <|And.intro @AM3 <|And.intro @APE <|And.intro @APU <|And.intro @YX <|And.intro @Zm <|And.intro @Yz <|And.intro @AI0 <|And.intro @ADJ <|And.intro @ALQ <|And.intro @API <|And.intro @ABC <|And.intro @AMF <|And.intro @X7 <|And.intro @AC6 <|And.intro @AHE <|And.intro @AFA <|And.intro @AJ2 <| @YL
theorem vc3:type_of% (And.intro @AFR <|And.intro @AA1 <|And.intro @AOZ <|And.intro @ALR <|And.intro @AJB <|And.intro @YO <|And.intro @Wd <|And.intro @AMS <|And.intro @ADL <|And.intro @AK4 <|And.intro @Zt <|And.intro @AEA <|And.intro @AOK <|And.intro @ABI <|And.intro @WI <|And.intro @AG4 <|And.intro @AJ0 <|And.intro @AD6 <|And.intro @APN <| @AB3):=And.intro @AFR <|And.intro @AA1 <|And.intro @AOZ <|And.intro @ALR <|And.intro @AJB <|And.intro @YO <|And.intro @Wd <|And.intro @AMS <|And.intro @ADL <|And.intro @AK4 <|And.intro @Zt <|And.intro @AEA <|And.intro @AOK <|And.intro @ABI <|And.intro @WI <|And.intro @AG4 <|And.intro @AJ0 <|And.intro @AD6 <|And.intro @APN <| @AB3
theorem vc4:type_of% (And.intro @AMA <|And.intro @APC <|And.intro @AKL <|And.intro @AIB <|And.intro @AL4 <|And.intro @AIT <|And.intro @XP <|And.intro @ANT <|And.intro @ALE <|And.intro @Wo <|And.intro @AC4 <|And.intro @WR <|And.intro @AKI <|And.intro @AED <|And.intro @ANZ <|And.intro @Yn <|And.intro @AP1 <|And.intro @AJP <|And.intro @ADT <| @Xu):=And.intro @AMA <|And.intro @APC <|And.intro @AKL <|And.intro @AIB <|And.intro @AL4 <|And.intro @AIT <|And.intro @XP <|And.intro @ANT <|And.intro @ALE <|And.intro @Wo <|And.intro @AC4 <|And.intro @WR <|And.intro @AKI <|And.intro @AED <|And.intro @ANZ <|And.intro @Yn <|And.intro @AP1 <|And.intro @AJP <|And.intro @ADT <| @Xu
theorem vc5:type_of% (And.intro @AD5 <|And.intro @AEG <|And.intro @AIH <|And.intro @AML <|And.intro @AD9 <|And.intro @APT <|And.intro @AGY <|And.intro @ADX <|And.intro @XX <|And.intro @AH6 <|And.intro @Vo <|And.intro @AIO <|And.intro @ALD <|And.intro @Wa <|And.intro @AH7 <|And.intro @AP2 <|And.intro @AC8 <|And.intro @AEE <|And.intro @X3 <| @ADE):=And.intro @AD5 <|And.intro @AEG <|And.intro @AIH <|And.intro @AML <|And.intro @AD9 <|And.intro @APT <|And.intro @AGY <|And.intro @ADX <|And.intro @XX <|And.intro @AH6 <|And.intro @Vo <|And.intro @AIO <|And.intro @ALD <|And.intro @Wa <|And.intro @AH7 <|And.intro @AP2 <|And.intro @AC8 <|And.intro @AEE <|And.intro @X3 <| @ADE
theorem vc6:type_of% (And.intro @APM <|And.intro @AAD <|And.intro @YW <|And.intro @Wl <|And.intro @WV <|And.intro @AOB <|And.intro @AH5 <|And.intro @AMU <|And.intro @AFN <|And.intro @Vh <|And.intro @RV <|And.intro @R7 <|And.intro @Ux <|And.intro @Uh <|And.intro @AHG <|And.intro @ACZ <|And.intro @AO2 <|And.intro @AJ6 <|And.intro @AQE <| @YD):=And.intro @APM <|And.intro @AAD <|And.intro @YW <|And.intro @Wl <|And.intro @WV <|And.intro @AOB <|And.intro @AH5 <|And.intro @AMU <|And.intro @AFN <|And.intro @Vh <|And.intro @RV <|And.intro @R7 <|And.intro @Ux <|And.intro @Uh <|And.intro @AHG <|And.intro @ACZ <|And.intro @AO2 <|And.intro @AJ6 <|And.intro @AQE <| @YD
theorem vc7:type_of% (And.intro @ABX <|And.intro @APA <|And.intro @AJU <|And.intro @AA6 <|And.intro @ALV <|And.intro @AD4 <|And.intro @AII <|And.intro @ABT <|And.intro @Vw <|And.intro @Yg <|And.intro @AFX <|And.intro @ZX <|And.intro @wrap_i64 <|And.intro @wrap_u8 <|And.intro @XV <|And.intro @ABJ <|And.intro @Zw <|And.intro @AA2 <|And.intro @Xh <| @AFD):=And.intro @ABX <|And.intro @APA <|And.intro @AJU <|And.intro @AA6 <|And.intro @ALV <|And.intro @AD4 <|And.intro @AII <|And.intro @ABT <|And.intro @Vw <|And.intro @Yg <|And.intro @AFX <|And.intro @ZX <|And.intro @wrap_i64 <|And.intro @wrap_u8 <|And.intro @XV <|And.intro @ABJ <|And.intro @Zw <|And.intro @AA2 <|And.intro @Xh <| @AFD
theorem vc8:type_of% (And.intro @AAM <|And.intro @WX <|And.intro @AK3 <|And.intro @AHF <|And.intro @AJI <|And.intro @AG3 <|And.intro @AJX <|And.intro @YP <|And.intro @AHU <|And.intro @Wb <|And.intro @Z8 <|And.intro @AL9 <|And.intro @AK0 <|And.intro @ZK <|And.intro @Zf <|And.intro @ABM <|And.intro @AHY <|And.intro @Tc <|And.intro @AEN <| @YE):=And.intro @AAM <|And.intro @WX <|And.intro @AK3 <|And.intro @AHF <|And.intro @AJI <|And.intro @AG3 <|And.intro @AJX <|And.intro @YP <|And.intro @AHU <|And.intro @Wb <|And.intro @Z8 <|And.intro @AL9 <|And.intro @AK0 <|And.intro @ZK <|And.intro @Zf <|And.intro @ABM <|And.intro @AHY <|And.intro @Tc <|And.intro @AEN <| @YE
theorem vc9:type_of% (And.intro @Yk <|And.intro @ANA <|And.intro @AEW <|And.intro @AJE <|And.intro @ZF <|And.intro @ZT <|And.intro @ACJ <|And.intro @YY <|And.intro @YV <|And.intro @AMQ <|And.intro @AB4 <|And.intro @AF8 <|And.intro @Yu <|And.intro @AAT <|And.intro @ACV <|And.intro @ABY <|And.intro @AHQ <|And.intro @AJR <|And.intro @ALF <| @AO1):=And.intro @Yk <|And.intro @ANA <|And.intro @AEW <|And.intro @AJE <|And.intro @ZF <|And.intro @ZT <|And.intro @ACJ <|And.intro @YY <|And.intro @YV <|And.intro @AMQ <|And.intro @AB4 <|And.intro @AF8 <|And.intro @Yu <|And.intro @AAT <|And.intro @ACV <|And.intro @ABY <|And.intro @AHQ <|And.intro @AJR <|And.intro @ALF <| @AO1
theorem ABZ:type_of% (And.intro @AQI <|And.intro @APO <|And.intro @YJ <|And.intro @XU <|And.intro @AO4 <|And.intro @ANH <|And.intro @muI <|And.intro @muS <|And.intro @AH0 <|And.intro @WD <|And.intro @mgI <|And.intro @mgS <|And.intro @moI <|And.intro @moS <|And.intro @AB7 <|And.intro @AG7 <|And.intro @AKP <|And.intro @VN <|And.intro @ADD <| @AGG):=And.intro @AQI <|And.intro @APO <|And.intro @YJ <|And.intro @XU <|And.intro @AO4 <|And.intro @ANH <|And.intro @muI <|And.intro @muS <|And.intro @AH0 <|And.intro @WD <|And.intro @mgI <|And.intro @mgS <|And.intro @moI <|And.intro @moS <|And.intro @AB7 <|And.intro @AG7 <|And.intro @AKP <|And.intro @VN <|And.intro @ADD <| @AGG
theorem AI4:type_of% (And.intro @Zy <|And.intro @VW <|And.intro @AO7 <|And.intro @Zq <|And.intro @Lo <|And.intro @MM <|And.intro @Ty <|And.intro @Vt <|And.intro @Wv <|And.intro @XR <|And.intro @AKD <|And.intro @ACW <|And.intro @AOI <|And.intro @Y8 <|And.intro @W6 <|And.intro @AKK <|And.intro @AAR <|And.intro @AIR <|And.intro @XO <| @YS):=And.intro @Zy <|And.intro @VW <|And.intro @AO7 <|And.intro @Zq <|And.intro @Lo <|And.intro @MM <|And.intro @Ty <|And.intro @Vt <|And.intro @Wv <|And.intro @XR <|And.intro @AKD <|And.intro @ACW <|And.intro @AOI <|And.intro @Y8 <|And.intro @W6 <|And.intro @AKK <|And.intro @AAR <|And.intro @AIR <|And.intro @XO <| @YS
theorem AOO:type_of% (And.intro @AA0 <|And.intro @AJ9 <|And.intro @Vm <|And.intro @AG6 <|And.intro @AM2 <|And.intro @Xj <|And.intro @AF0 <|And.intro @Vv <|And.intro @WY <|And.intro @Ye <|And.intro @ADW <|And.intro @APL <|And.intro @Z1 <|And.intro @Zp <|And.intro @Zi <|And.intro @XT <|And.intro @AJH <|And.intro @ACK <|And.intro @AF3 <| @Ii):=And.intro @AA0 <|And.intro @AJ9 <|And.intro @Vm <|And.intro @AG6 <|And.intro @AM2 <|And.intro @Xj <|And.intro @AF0 <|And.intro @Vv <|And.intro @WY <|And.intro @Ye <|And.intro @ADW <|And.intro @APL <|And.intro @Z1 <|And.intro @Zp <|And.intro @Zi <|And.intro @XT <|And.intro @AJH <|And.intro @ACK <|And.intro @AF3 <| @Ii
theorem APH:type_of% (And.intro @AMT <|And.intro @AHN <|And.intro @Fm <|And.intro @AIK <|And.intro @AHA <|And.intro @ABG <|And.intro @ADI <|And.intro @Yt <|And.intro @AH9 <|And.intro @Zr <|And.intro @Ni <|And.intro @SU <|And.intro @TO <|And.intro @AM8 <|And.intro @AM0 <|And.intro @AFK <|And.intro @Mp <|And.intro @N1 <|And.intro @Cv <| @NJ):=And.intro @AMT <|And.intro @AHN <|And.intro @Fm <|And.intro @AIK <|And.intro @AHA <|And.intro @ABG <|And.intro @ADI <|And.intro @Yt <|And.intro @AH9 <|And.intro @Zr <|And.intro @Ni <|And.intro @SU <|And.intro @TO <|And.intro @AM8 <|And.intro @AM0 <|And.intro @AFK <|And.intro @Mp <|And.intro @N1 <|And.intro @Cv <| @NJ
theorem AAX:type_of% (And.intro @Fe <|And.intro @Rb <|And.intro @KH <|And.intro @JE <|And.intro @ANX <|And.intro @ADA <|And.intro @ZC <|And.intro @Xt <|And.intro @TL <| @VX):=And.intro @Fe <|And.intro @Rb <|And.intro @KH <|And.intro @JE <|And.intro @ANX <|And.intro @ADA <|And.intro @ZC <|And.intro @Xt <|And.intro @TL <| @VX
theorem vc:type_of% (And.intro vcL <|And.intro vcN <|And.intro vc0 <|And.intro vc1 <|And.intro vc2 <|And.intro vc3 <|And.intro vc4 <|And.intro vc5 <|And.intro vc6 <|And.intro vc7 <|And.intro vc8 <|And.intro vc9 <|And.intro ABZ <|And.intro AI4 <|And.intro AOO <|And.intro APH <|AAX):=And.intro vcL <|And.intro vcN <|And.intro vc0 <|And.intro vc1 <|And.intro vc2 <|And.intro vc3 <|And.intro vc4 <|And.intro vc5 <|And.intro vc6 <|And.intro vc7 <|And.intro vc8 <|And.intro vc9 <|And.intro ABZ <|And.intro AI4 <|And.intro AOO <|And.intro APH <|AAX
theorem AA:type_of% (And.intro vc vcO):=And.intro vc vcO
end Go.Cat
namespace Go.Cat
class HasV(K:Nat→List D→List D→Prop)(k:Nat)(f:IF):Prop where
 h:∀ds rs,Body K f ds rs→K k ds rs
end Go.Cat
namespace Go.Cat
open Go.ChangeShapes Go.WideShapes Go.ChangeAt Go.RowKit
section
variable{H:Type}{enc:TypeId×Value→H}{P:Program}
theorem ATF{f:Func}{s:ChangeSpec}{apart fresh handsOn again:Bool}{W W':World}{args:Array Value}{v:Value}{ds gs:List (DataW H)}{before pa pv:List MemPlace}
  (hW:DataW.Whole enc P f.params.toList s.vars apart W args.toList ds gs before)
  (hres:∀(b:Nat)(sp:Nat→Bool)(hd:Bool),DataW.TrodAll enc P W' b sp hd f.resultTypes.toList (v.resultList f.resultTypes.size) (s.fn H (ds++gs)).results [])
  (hargs:∀sp:Nat→Bool,(∀p∈before,sp p.block=true)→DataW.TrodAll enc P W' 0 sp true f.params.toList args.toList (s.fn H (ds++gs)).args pa)
  (hvars:∀sp:Nat→Bool,(∀p∈before,sp p.block=true)→DataW.TrodVars enc P W' sp s.vars (s.fn H (ds++gs)).vars pv)
  (hps:before=pa++pv) (hb:Below W.heap.size W W')
  (hok:∀(j:Nat)(t:TypeId)(r:Value),f.resultTypes[j]?=some t→(v.resultList f.resultTypes.size)[j]?=some r→Value.okWide P W' .any 0 t r):
  s.post enc P f apart fresh handsOn again W args v W':=by
 have hold:∀p∈before,(fun b=>decide (b<W.heap.size)) p.block=true:=fun p hp=>by simpa using hW.lt p hp
 have hlt:=hW.lt;refine⟨ds,gs,before,[],pa,pv,hW,hres _ _ _,hargs _ hold,hvars _ hold,World.keptBut_mono (fun p hp=>⟨hp,?_⟩) (hb.frame (·∈before)),fun _=>?_⟩
 ·rw[hps,Af]at hp;exact Or.inr hp
 ·obtain⟨_,_,_,_,_,hz,hn⟩:=hW;refine⟨hok,_,_,([]++pa)++pv,⟨[]++pa,pv,trodAll_append (hargs _ (fun _ _=>rfl)) (hres _ _ _),hvars _ (fun _ _=>rfl),rfl,?_,?_⟩,?_⟩
  ·intro b off hp;have hp':MemPlace.cell b off∈before:=by rw[hps];simpa using hp
   rw[hb.frozen (p:=⟨b,off,none⟩) (by simpa[MemPlace.block]using hlt _ hp')];exact hz b off hp'
  ·intro ha;have:=hn ha;rw[hps]at this;simpa using this
  ·intro p hp _;rw[hps];simpa using hp
end
theorem AT6{P:Program}{fid:Nat→Nat}{f:FuncId}{ps:List Sh}{ds:List D}(h:GY P fid f ⟨ps,[.v],[],none⟩ ds [.b true]){w:World}{args:List Value}
  (ha:BV (AF fid w.heap (·∈[]) (fun _=>False)) ps ds args []):Calls P f args.toArray w fun e w'=>e=.returned (.bool true)∧Below w.heap.size w w':=by
 refine(h w (fun _=>False) args [] (by simp) (by simp) ha trivial).mono ?_;rintro e w' ⟨v,vs,B',rfl,ht,_,hA,h1,h2,h3,_,_,hE⟩;simp only[Sg.outs,List.map_nil,List.append_nil]at hE;refine⟨?_,h1,h2,h3,hA.size,fun k hk=>hA.same k hk (by simp)⟩;match vs,hE with
 |[x],hE=>
  simp only[BV,AF,Rd]at hE
  obtain⟨B1,B2,rfl,⟨_,hx⟩,_⟩:=hE
  simp only[IL]at ht
  rw[ht,hx]
theorem AUT{P:Program}{tab:List Row}{k:Nat}{r:Row}{ds:List D}(h:KS P tab k ds [.b true])(hr:rowOf tab k=some r)(hq:r.s.qs=[.v])(hio:r.s.io=[])(hfb:r.s.fb=none):GY P (F4 tab) r.f ⟨r.s.ps,[.v],[],none⟩ ds [.b true]:=by
 obtain⟨r',h1,h2⟩:=h;rw[hr]at h1
 cases h1;rw[←hq,←hio,←hfb];exact h2
def Plain:D→Value→Prop
 |.i k n,v=>v=.int k n
 |.b x,v=>v=.bool x
 |.s x,v=>v=BL x∧(∀c∈x,c<256)∧x.length≤9223372036854775807
 |_,_=>False
end Go.Cat
namespace Go.Cat
open Go.ChangeShapes Go.WideShapes Go.ChangeAt Go.RowKit
section
variable{H:Type}{enc:TypeId×Value→H}{P:Program}
theorem AMM(hl:laidOutB P=true){W W':World}(hb:Below W.heap.size W W'){sp:Nat→Bool}:∀{ts:List TypeId}{vs:List Value}{ds:List (DataW H)}{ps:List MemPlace},
  (∀t∈ts,P.readableRec t=true∧t<P.types.size)→DataW.TrodAll enc P W 0 (fun _=>true) true ts vs ds ps→(∀p∈ps,sp p.block=true)→(∀p∈ps,p.block<W.heap.size)→DataW.TrodAll enc P W' 0 sp true ts vs ds ps
 |[],vs,ds,ps=>fun _ h _ _=>by
  obtain⟨rfl,rfl,rfl⟩:=trodAll_nil h
  exact trodAll_mk0
 |t::ts,vs,ds,ps=>fun hr h hs hlt=>by
  obtain⟨v,vs',d,ds',p,q,rfl,rfl,rfl,h1,h2⟩:=trodAll_cons h
  refine trodAll_cons_mk ?_ (AMM hl hb (fun u hu=>hr u (BK _ hu)) h2 (fun x hx=>hs x (BA _ hx)) fun x hx=>hlt x (BA _ hx))
  obtain⟨r1,r2⟩:=hr t (List.mem_cons_self ..)
  exact WideElems.Trod_stays hl r1 r2 h1 (fun x hx=>hb.same (hlt x (BJ _ hx))) fun x hx=>hs x (BJ _ hx)
theorem AQM{W:World}{base:Nat}{t e:TypeId}{k:IntKind}{v:Value}{d:DataW H}{ps:List MemPlace}(ht:P.underlying t=some (.slice e))(he:P.underlying e=some (.int k))(hc:P.cellsOf e=1)
  (hval:Value.okWide P W .any base t v) (h:DataW.Trod enc P W 0 (fun _=>true) true t v d ps):
  ∃zs:List Int,(∀z∈zs,(Lit.int k z).wf=true)∧∀(fid:Nat→Nat)(Z:Nat→Prop),(∀b,¬Z b)→Rd fid W.heap Z (.l (zs.map (D.i k))) v:=by
 obtain⟨fuel,hf⟩:=h;have hv:=hval;simp only[Value.okWide,ht,Cell.okWide]at hv;obtain⟨a,len,cap,rfl⟩:=okWide_slice ht hval;have hcs:(Value.slice a len cap).cells.toList=[.slice a len cap]:=rfl;rw[hcs]at hf;rcases open_ints ht he hc hf with⟨h1,_⟩|⟨a',len',cap',zs,h1,_,hle,hm,hlen,_,hcell,hwf⟩
 ·injection h1 with h1 _;refine⟨[],by simp,fun fid Z _=>?_⟩;simp only[List.map_nil,Rd];exact .inl ⟨trivial,_,h1⟩
 ·injection h1 with h1 _;injection h1 with e1 e2 e3;subst e1 e2 e3;have hlen':zs.length=cap:=by simpa using hlen
  simp only[Cell.ok,ht]at hv;obtain⟨_,_,_,hspot,row,cells,hsh,_⟩:=hv;refine⟨zs.take len,fun z hz=>hwf z (List.mem_of_mem_take hz),fun fid Z hZ=>?_⟩;simp only[Rd];right;unfold World.shape? at hsh;split at hsh
  ·rename_i cs e' fz hb;have ha:a'=⟨a'.block,a'.off,none⟩:=by cases a';simp only at hspot;rw[hspot]
   refine⟨a'.block,a'.off,cap,cs,e',fz,?_,hb,hZ _,?_,?_⟩
   ·have hll:((zs.take len).map (D.i k)).length=len:=by simp;omega
    rw[hll,←ha]
   ·have key:∀(n o:Nat)(l:List Int),(∀i,i<l.length→cs[o+i]?=some (.int k (l.getD i 0)))→AP fid W.heap Z (l.map (D.i k)) (cs.toList.drop o):=by
     intro n o l
     induction l generalizing o with
     |nil=>intro _;simp[AP]
     |cons z l ih=>
      intro hl
      have h0:=hl 0 (by simp)
      simp only[Nat.add_zero,List.getD_cons_zero]at h0
      have:cs.toList.drop o=.int k z::cs.toList.drop (o+1):=by
       rw[List.drop_eq_getElem_cons (by have:=(Array.getElem?_eq_some_iff.1 h0).1;simpa using this)]
       congr 1
       have:=(Array.getElem?_eq_some_iff.1 h0).2
       simpa using this
      rw[this]
      simp only[List.map_cons,AP,Rd]
      refine⟨trivial,ih (o+1) fun i hi=>?_⟩
      have:=hl (i+1) (by simpa using hi)
      simpa[Nat.add_assoc,Nat.add_comm 1 i]using this
    refine key 0 a'.off (zs.take len) fun i hi=>?_
    have hi2:i<zs.length:=by simp at hi;omega
    have h5:=hcell i hi2
    have h6:cs[a'.off+i]?=some (.int k (zs.getD i 0)):=by
     rw[ha]at h5
     cases i with
     |zero=>simpa[World.cell?,Addr.add,hb]using h5
     |succ i=>simpa[World.cell?,Addr.add,hb]using h5
    rw[h6]
    have hi3:i<len:=by simp at hi;omega
    simp[Al,hi3]
   ·unfold maxLen at hm;have hll:((zs.take len).map (D.i k)).length=len:=by simp;omega
    rw[hll];exact⟨hle,by omega⟩
  ·cases hsh
theorem Aa6{W:World}{base:Nat}{t e:TypeId}{v:Value}{d:DataW H}{ps:List MemPlace}(ht:P.underlying t=some (.slice e))(he:P.underlying e=some (.int .u8))(hc:P.cellsOf e=1)
  (hval:Value.okWide P W .any base t v) (h:DataW.Trod enc P W 0 (fun _=>true) true t v d ps):
  ∃bs:List Nat,(∀c∈bs,c<256)∧∀(fid:Nat→Nat)(Z:Nat→Prop),(∀b,¬Z b)→Rd fid W.heap Z (LB bs) v:=by
 obtain⟨zs,h1,h2⟩:=AQM ht he hc hval h;have hz:∀z∈zs,0≤z∧z<256:=by intro z hz;have:=h1 z hz;simp[Lit.wf,IntKind.min,IntKind.max,IntKind.bits,IntKind.signed]at this;omega
 refine⟨zs.map Int.toNat,?_,fun fid Z hZ=>?_⟩
 ·intro c hc;obtain⟨z,q,rfl⟩:=List.mem_map.1 hc;have:=hz z q;omega
 ·have e:LB (zs.map Int.toNat)=.l (zs.map (D.i .u8)):=by
   simp only[LB,List.map_map]
   congr 1
   refine List.map_congr_left fun z q=>?_
   have:=hz z q
   show D.i .u8 ((z.toNat:Nat):Int)=D.i .u8 z
   rw[Int.toNat_of_nonneg this.1]
  rw[e];exact h2 fid Z hZ
end
theorem AaR{fid:Nat→Nat}{h:Array Obj}{ps:List Sh}{ds:List D}{vs:List Value}{d:D}{v:Value}(hr:Rd fid h (fun b=>b∈([]:List Nat)∨False) d v)
  (ht:BV (AF fid h (·∈([]:List Nat)) (fun _=>False)) ps ds vs []):BV (AF fid h (·∈([]:List Nat)) (fun _=>False)) (.v::ps) (d::ds) (v::vs) []:=by simp only[BV];exact⟨[],[],rfl,by simp only[AF];exact⟨trivial,hr⟩,ht⟩
theorem AXD{fid:Nat→Nat}{h:Array Obj}:BV (AF fid h (·∈([]:List Nat)) (fun _=>False)) [] [] [] []:=rfl
end Go.Cat
