/-
 How a body is walked through: one statement behind the other; what comes later stays closed until it is reached.
-/
import Derived.Test.YthoilpmggmenbaaGreatCatThree
import Derived.WalkKit
import Derived.ProofKit
import Derived.OpenShut
import Derived.Below
import Derived.Carry
import Derived.ChangeSlices
import Derived.ChangeMaps5
import Derived.SliceStrings
set_option linter.unusedSimpArgs false
set_option linter.unusedVariables false
namespace Go.Cat
section
variable(K:Nat->List D->List D->Prop)
def PX(b:S)(Q:X->Env->Prop):X->Env->Prop
 |.n,e=>wpS K b Q e
 |.ex j,e=>Q (.ex j) e
 |.r,e=>Q .r e
def Qj(id:Nat)(Q:X->Env->Prop):X->Env->Prop
 |.n,e=>Q .n e
 |.ex j,e=>if j=id then Q .n e else Q (.ex j) e
 |.r,e=>Q .r e
def AFR(out:List (Option Nat))(Q:X->Env->Prop):Env->Prop:=λe=>Q .n (Dg out e)
def AM7(r:List It)(Q:Env->Prop):Env->Prop:=λe=>EY K r e Q
def Bz(e:Env)(Q:Env->Prop):Option D->Prop
 |some d=>Q (e++[d])
 |none=>False
def Vh(x y:S)(Q:X->Env->Prop)(e:Env):D->Prop
 |.b true=>wpS K x Q e
 |.b false=>wpS K y Q e
 |_=>False
def L5(g:Nat)(ds:List D)(r:Nat)(e:Env)(Q:Env->Prop):Prop:=∃rs:List D,K g ds rs/\rs.length=r/\Q (e++rs)
def Jh(res:List Nat)(rs:List D):X->Env->Prop
 |.ex _,_=>False
 |.n,e=>rs=res.map e.E
 |.r,e=>rs=res.map e.E
def Pa(res:List Nat)(P:List D->Prop):X->Env->Prop
 |.ex _,_=>False
 |.n,e=>P (res.map e.E)
 |.r,e=>P (res.map e.E)
variable{K}
theorem AKK{res:List Nat}{P:List D->Prop}{e:Env}:Pa res P .n e=P (res.map e.E):=rfl
theorem AK5{res:List Nat}{P:List D->Prop}{e:Env}:Pa res P .r e=P (res.map e.E):=rfl
theorem wp_seq{a b:S}{Q:X->Env->Prop}{e:Env}:wpS K (.seq a b) Q e=wpS K a (PX K b Q) e:=by simp only[wpS];congr 1;funext x e;cases x<;>rfl
theorem wp_block{id:Nat}{b:S}{Q:X->Env->Prop}{e:Env}:wpS K (.block id b) Q e=wpS K b (Qj id Q) e:=by simp only[wpS];congr 1;funext x e;cases x<;>rfl
theorem wp_skip{Q:X->Env->Prop}{e:Env}:wpS K .skip Q e=Q .n e:=rfl
theorem wp_exit{id:Nat}{Q:X->Env->Prop}{e:Env}:wpS K (.exit id) Q e=Q (.ex id) e:=rfl
theorem wp_ret{Q:X->Env->Prop}{e:Env}:wpS K .ret Q e=Q .r e:=rfl
theorem AAI{I:List It}{out:List (Option Nat)}{Q:X->Env->Prop}{e:Env}:wpS K (.reg I out) Q e=EY K I e (AFR out Q):=rfl
theorem wp_cond{n:Nat}{x y:S}{Q:X->Env->Prop}{e:Env}:wpS K (.cond n x y) Q e=Vh K x y Q (e.set n .u) (e.E n):=by
 simp only[wpS]
 cases e.E n<;>try rfl
theorem AL4{b:S}{Q:X->Env->Prop}{e:Env}:PX K b Q .n e=wpS K b Q e:=rfl
theorem ACO{b:S}{Q:X->Env->Prop}{e:Env}{j:Nat}:PX K b Q (.ex j) e=Q (.ex j) e:=rfl
theorem AEI{b:S}{Q:X->Env->Prop}{e:Env}:PX K b Q .r e=Q .r e:=rfl
theorem We{id:Nat}{Q:X->Env->Prop}{e:Env}:Qj id Q .n e=Q .n e:=rfl
theorem ALT{id:Nat}{Q:X->Env->Prop}{e:Env}{j:Nat}:Qj id Q (.ex j) e=if j=id then Q .n e else Q (.ex j) e:=rfl
theorem AAH{id:Nat}{Q:X->Env->Prop}{e:Env}:Qj id Q .r e=Q .r e:=rfl
theorem Zm{out:List (Option Nat)}{Q:X->Env->Prop}{e:Env}:AFR out Q e=Q .n (Dg out e):=rfl
theorem ALE{r:List It}{Q:Env->Prop}{e:Env}:AM7 K r Q e=EY K r e Q:=rfl
theorem AFC{e:Env}{Q:Env->Prop}{d:D}:Bz e Q (some d)=Q (e++[d]):=rfl
theorem XE{x y:S}{Q:X->Env->Prop}{e:Env}:Vh K x y Q e (.b true)=wpS K x Q e:=rfl
theorem Yo{x y:S}{Q:X->Env->Prop}{e:Env}:Vh K x y Q e (.b false)=wpS K y Q e:=rfl
theorem ADG{res:List Nat}{rs:List D}{e:Env}:Jh res rs .n e=(rs=res.map e.E):=rfl
theorem ABZ{res:List Nat}{rs:List D}{e:Env}:Jh res rs .r e=(rs=res.map e.E):=rfl
theorem AH4{e:Env}{Q:Env->Prop}:EY K [] e Q=Q e:=rfl
theorem AKU{it:It}{r:List It}{e:Env}{Q:Env->Prop}:EY K (it::r) e Q=H7 K it e (AM7 K r Q):=rfl
def gdQ(z:List (Option Nat))(p:Pr)(e:Env)(Q:Env->Prop):Option Bool->Prop
 |some true=>A7 K p e Q
 |some false=>Q (e++Ci e.E z p.np)
 |none=>False
theorem Zo{z:List (Option Nat)}{g:Gd}{p:Pr}{e:Env}{Q:Env->Prop}:H7 K ⟨z,g,p⟩ e Q=gdQ (K:=K) z p e Q (Cc e.E g):=by simp only[H7];split<;>rename_i h<;>simp only[h]<;>rfl
theorem AHZ{z:List (Option Nat)}{p:Pr}{e:Env}{Q:Env->Prop}:gdQ (K:=K) z p e Q (some true)=A7 K p e Q:=rfl
theorem AGP{z:List (Option Nat)}{p:Pr}{e:Env}{Q:Env->Prop}:gdQ (K:=K) z p e Q (some false)=Q (e++Ci e.E z p.np):=rfl
theorem AF6{E:Nat->D}{n:Nat}:Ci E [] n=List.replicate n .u:=WE n
theorem AHF{E:Nat->D}{m:Nat}{z:List (Option Nat)}{n:Nat}:Ci E (some m::z) (n+1)=E m::Ci E z n:=rfl
theorem Ze{E:Nat->D}{z:List (Option Nat)}{n:Nat}:Ci E (none::z) (n+1)=.u::Ci E z n:=rfl
theorem Xo{E:Nat->D}:Cc E []=some true:=rfl
def NX(w:Bool)(r:Option Bool):D->Option Bool
 |.b x=>if x=w then r else some false
 |_=>none
theorem XY{E:Nat->D}{n:Nat}{w:Bool}{r:Gd}:Cc E ((n,w)::r)=NX w (Cc E r) (E n):=rfl
theorem ZD{r:Option Bool}:NX true r (.b true)=r:=rfl
theorem AGY{r:Option Bool}:NX false r (.b false)=r:=rfl
theorem W9{r:Option Bool}:NX true r (.b false)=some false:=rfl
theorem ADZ{r:Option Bool}:NX false r (.b true)=some false:=rfl
theorem X0{e:Env}{Q:Env->Prop}:A7 K .nop e Q=Q e:=rfl
theorem ADN{g:Nat}{xs:List A}{r:Nat}{e:Env}{Q:Env->Prop}:A7 K (.ca g xs r) e Q=L5 K g (xs.map (ev e.E)) r e Q:=rfl
def fnQ(g:Nat)(P:Prop)(d:D):Prop:=d=.f g []/\P
theorem ABE{g:Nat}{P:Prop}:fnQ g P (.f g [])=P:=by simp[fnQ]
theorem ABV{f:A}{g:Nat}{xs:List A}{r:Nat}{e:Env}{Q:Env->Prop}:A7 K (.cd f g xs r) e Q=fnQ g (L5 K g (xs.map (ev e.E)) r e Q) (ev e.E f):=rfl
def tkQ(e:Env)(Q:Env->Prop):D->Prop
 |.g [d]=>Q (e++[d,.g [.u]])
 |_=>False
theorem AML{e:Env}{Q:Env->Prop}{d:D}:tkQ e Q (.g [d])=Q (e++[d,.g [.u]]):=rfl
theorem AAF{n:Nat}{e:Env}{Q:Env->Prop}:A7 K (.tk n) e Q=tkQ e Q (e.E n):=by simp only[A7,Kb,tkQ];split<;>rename_i h<;>split at h<;>simp_all
def J8(e:Env)(Q:Env->Prop):Option (D×D)->Prop
 |some d=>Q (e++[d.1,d.2])
 |none=>False
theorem AJZ{e:Env}{Q:Env->Prop}{x y:D}:J8 e Q (some (x,y))=Q (e++[x,y]):=rfl
theorem AC6{n k:Nat}{p:List PE}{e:Env}{Q:Env->Prop}:A7 K (.sp n p k) e Q=J8 e Q (Hz k (e.E n) (p.mapM (PE.ev e.E))):=by simp only[A7,J8];split<;>rename_i h<;>simp only[h]
theorem AAS{n:Nat}{e:Env}{Q:Env->Prop}:A7 K (.sw n) e Q=J8 e Q (L4 (e.E n)):=by simp only[A7,J8];split<;>rename_i h<;>simp only[h]
theorem Yq{n:Nat}{a:A}{d:D}{e:Env}{Q:Env->Prop}:A7 K (.mo n a d) e Q=J8 e Q (HU d (e.E n) (ev e.E a)):=by simp only[A7,J8];split<;>rename_i h<;>simp only[h]
theorem XS{e:Env}{Q:Env->Prop}:A7 K .mm e Q=Bz e Q (AW e.E .mm):=by simp only[A7];split<;>rename_i h<;>simp only[h]<;>rfl
theorem AEE{e:Env}{Q:Env->Prop}(n:Nat)(a b:A):A7 K (.mu n a b) e Q=Bz e Q (AW e.E (.mu n a b)):=by simp only[A7];split<;>rename_i h<;>simp only[h]<;>rfl
theorem ALP{e:Env}{Q:Env->Prop}(n:Nat)(a:A)(d:D):A7 K (.mg n a d) e Q=Bz e Q (AW e.E (.mg n a d)):=by simp only[A7];split<;>rename_i h<;>simp only[h]<;>rfl
theorem ZU{xs:List D}:L4 (.g xs)=some (.g xs,.g (List.replicate xs.length .u)):=rfl
theorem AER{k i:Nat}{xs:List D}:Hz k (.g xs) (some [i])=xs[i]?.bind λx=>if C3 k x=true then some (x,.g (xs.set i .u))else none:=by
 simp only[Hz,Option.bind_some,Ai,An]
 cases xs[i]? with
 |none=>rfl
 |some x=>rfl
theorem Xu{e:Env}{Q:Env->Prop}(n:Nat)(p:List PE)(a:A)(k:Nat):A7 K (.jn n p a k) e Q=Bz e Q (AW e.E (.jn n p a k)):=by simp only[A7];split<;>rename_i h<;>simp only[h]<;>rfl
def K7(is:Option (List Nat))(d x:D)(k:Nat):Option D:=if(x.one&&C3 k x)=true then is.bind λis=>An is d x else none
theorem AEY{e:Env}{Q:Env->Prop}(s:Sh)(d:D):A7 K (.cs s d) e Q=Bz e Q (AW e.E (.cs s d)):=by simp only[A7];split<;>rename_i h<;>simp only[h]<;>rfl
theorem AJB{e:Env}{Q:Env->Prop}(a:A):A7 K (.cy a) e Q=Bz e Q (AW e.E (.cy a)):=by simp only[A7];split<;>rename_i h<;>simp only[h]<;>rfl
theorem AKM{e:Env}{Q:Env->Prop}(o:BinOp)(a b:A):A7 K (.bi o a b) e Q=Bz e Q (AW e.E (.bi o a b)):=by simp only[A7];split<;>rename_i h<;>simp only[h]<;>rfl
theorem ADY{e:Env}{Q:Env->Prop}(o:BinOp)(a b:A):A7 K (.bb o a b) e Q=Bz e Q (AW e.E (.bb o a b)):=by simp only[A7];split<;>rename_i h<;>simp only[h]<;>rfl
theorem Yz{e:Env}{Q:Env->Prop}(o:UnOp)(a:A):A7 K (.un o a) e Q=Bz e Q (AW e.E (.un o a)):=by simp only[A7];split<;>rename_i h<;>simp only[h]<;>rfl
theorem ALX{e:Env}{Q:Env->Prop}(a b c:A):A7 K (.pk a b c) e Q=Bz e Q (AW e.E (.pk a b c)):=by simp only[A7];split<;>rename_i h<;>simp only[h]<;>rfl
theorem AHK{e:Env}{Q:Env->Prop}(k:IntKind)(a:A):A7 K (.cv k a) e Q=Bz e Q (AW e.E (.cv k a)):=by simp only[A7];split<;>rename_i h<;>simp only[h]<;>rfl
theorem AI6{e:Env}{Q:Env->Prop}(a:A)(p:List PE):A7 K (.ln a p) e Q=Bz e Q (AW e.E (.ln a p)):=by simp only[A7];split<;>rename_i h<;>simp only[h]<;>rfl
theorem AK7{e:Env}{Q:Env->Prop}(a:A):A7 K (.sn a) e Q=Bz e Q (AW e.E (.sn a)):=by simp only[A7];split<;>rename_i h<;>simp only[h]<;>rfl
theorem ABL{e:Env}{Q:Env->Prop}(a i:A):A7 K (.sx a i) e Q=Bz e Q (AW e.E (.sx a i)):=by simp only[A7];split<;>rename_i h<;>simp only[h]<;>rfl
theorem AGI{e:Env}{Q:Env->Prop}(a:A)(lo hi:Option A):A7 K (.ss a lo hi) e Q=Bz e Q (AW e.E (.ss a lo hi)):=by simp only[A7];split<;>rename_i h<;>simp only[h]<;>rfl
theorem AE6{e:Env}{Q:Env->Prop}(a:A)(p:List PE)(i:A):A7 K (.ix a p i) e Q=Bz e Q (AW e.E (.ix a p i)):=by simp only[A7];split<;>rename_i h<;>simp only[h]<;>rfl
theorem AJU{e:Env}{Q:Env->Prop}(n:Nat)(p:List PE)(a:A):A7 K (.up n p a) e Q=Bz e Q (AW e.E (.up n p a)):=by simp only[A7];split<;>rename_i h<;>simp only[h]<;>rfl
theorem AC4{e:Env}{Q:Env->Prop}(F:Bool)(a:A)(lo hi:Option A):A7 K (.sb F a lo hi) e Q=Bz e Q (AW e.E (.sb F a lo hi)):=by simp only[A7];split<;>rename_i h<;>simp only[h]<;>rfl
theorem ANL{e:Env}{Q:Env->Prop}(fl:Bool)(a b:A):A7 K (.ap fl a b) e Q=Bz e Q (AW e.E (.ap fl a b)):=by simp only[A7];split<;>rename_i h<;>simp only[h]<;>rfl
theorem ABY{e:Env}{Q:Env->Prop}(d:D)(n c:A):A7 K (.mk d n c) e Q=Bz e Q (AW e.E (.mk d n c)):=by simp only[A7];split<;>rename_i h<;>simp only[h]<;>rfl
theorem Z5{e:Env}{Q:Env->Prop}(s:Sh)(xs:List A):A7 K (.li s xs) e Q=Bz e Q (AW e.E (.li s xs)):=by simp only[A7];split<;>rename_i h<;>simp only[h]<;>rfl
theorem AF2{e:Env}{Q:Env->Prop}(a:A):A7 K (.bs a) e Q=Bz e Q (AW e.E (.bs a)):=by simp only[A7];split<;>rename_i h<;>simp only[h]<;>rfl
theorem Zr{e:Env}{Q:Env->Prop}(a:A):A7 K (.sy a) e Q=Bz e Q (AW e.E (.sy a)):=by simp only[A7];split<;>rename_i h<;>simp only[h]<;>rfl
theorem AF1{e:Env}{Q:Env->Prop}(a b:A):A7 K (.mx a b) e Q=Bz e Q (AW e.E (.mx a b)):=by simp only[A7];split<;>rename_i h<;>simp only[h]<;>rfl
theorem AHC{e:Env}{Q:Env->Prop}(a b:A):A7 K (.mn a b) e Q=Bz e Q (AW e.E (.mn a b)):=by simp only[A7];split<;>rename_i h<;>simp only[h]<;>rfl
theorem ADW{e:Env}{Q:Env->Prop}(a i:A):A7 K (.iy a i) e Q=Bz e Q (AW e.E (.iy a i)):=by simp only[A7];split<;>rename_i h<;>simp only[h]<;>rfl
theorem X1{e:Env}{Q:Env->Prop}(k:Nat)(xs:List (A×Nat)):A7 K (.bg k xs) e Q=Bz e Q (AW e.E (.bg k xs)):=by simp only[A7];split<;>rename_i h<;>simp only[h]<;>rfl
theorem ALU{e:Env}{Q:Env->Prop}(a:A):A7 K (.bp a) e Q=Bz e Q (AW e.E (.bp a)):=by simp only[A7];split<;>rename_i h<;>simp only[h]<;>rfl
theorem AJA{e:Env}{Q:Env->Prop}(a:A)(k:Nat):A7 K (.gp a k) e Q=Bz e Q (AW e.E (.gp a k)):=by simp only[A7];split<;>rename_i h<;>simp only[h]<;>rfl
theorem ZB{e:Env}{Q:Env->Prop}(w:Bool)(a:A):A7 K (.nz w a) e Q=Bz e Q (AW e.E (.nz w a)):=by simp only[A7];split<;>rename_i h<;>simp only[h]<;>rfl
theorem AMH{e:Env}{Q:Env->Prop}(a:A):A7 K (.nn a) e Q=Bz e Q (AW e.E (.nn a)):=by simp only[A7];split<;>rename_i h<;>simp only[h]<;>rfl
theorem ANN{e:Env}{Q:Env->Prop}(k:Nat)(a:A):A7 K (.wl k a) e Q=Bz e Q (AW e.E (.wl k a)):=by simp only[A7];split<;>rename_i h<;>simp only[h]<;>rfl
theorem AA4{e:Env}{Q:Env->Prop}(n k:Nat)(a:A):A7 K (.ws n k a) e Q=Bz e Q (AW e.E (.ws n k a)):=by simp only[A7];split<;>rename_i h<;>simp only[h]<;>rfl
theorem Wy{e:Env}{Q:Env->Prop}(a:A)(p:List PE):A7 K (.gt a p) e Q=Bz e Q (AW e.E (.gt a p)):=by simp only[A7];split<;>rename_i h<;>simp only[h]<;>rfl
theorem AB1{e:Env}{Q:Env->Prop}(fl:Bool)(a:A)(k:Nat):A7 K (.fp fl a k) e Q=Bz e Q (AW e.E (.fp fl a k)):=by simp only[A7];split<;>rename_i h<;>simp only[h]<;>rfl
theorem ANC{e:Env}{Q:Env->Prop}(n:Nat):A7 K (.cb n) e Q=Bz e Q (AW e.E (.cb n)):=by simp only[A7];split<;>rename_i h<;>simp only[h]<;>rfl
theorem ZF{e:Env}{Q:Env->Prop}(n:Nat)(p:List PE)(a:A)(i k:Nat):A7 K (.uq n p a i k) e Q=Bz e Q (AW e.E (.uq n p a i k)):=by simp only[A7];split<;>rename_i h<;>simp only[h]<;>rfl
end
section
variable{E:Nat->D}
theorem AG0{n:Nat}:ev E (.e n)=E n:=rfl
theorem AIV{d:D}:ev E (.c d)=d:=rfl
theorem AKW:AW E .mm=some (.g []):=rfl
theorem ABK{n:Nat}{a b:A}:AW E (.mu n a b)=Gk (E n) (ev E a) (ev E b):=rfl
theorem Yv{n:Nat}{a:A}{d:D}:AW E (.mg n a d)=I1 d (E n) (ev E a):=rfl
theorem Xp{s:Sh}{d:D}:AW E (.cs s d)=some d:=rfl
theorem ALQ{a:A}:AW E (.cy a)=some (ev E a):=rfl
theorem AKA{o:BinOp}{a b:A}:AW E (.bi o a b)=CA o (ev E a) (ev E b):=rfl
theorem ACF{o:BinOp}{a b:A}:AW E (.bb o a b)=G6 o (ev E a) (ev E b):=rfl
theorem Wx{o:UnOp}{a:A}:AW E (.un o a)=Lq o (ev E a):=rfl
def LV(c a b:D):Option D:=match c with|.b true=>some a|.b false=>some b|_=>none
theorem AKI{c a b:A}:AW E (.pk c a b)=LV (ev E c) (ev E a) (ev E b):=by simp only[AW,LV];split<;>rename_i h<;>simp only[h]
theorem AMI{a b:D}:LV (.b true) a b=some a:=rfl
theorem Zg{a b:D}:LV (.b false) a b=some b:=rfl
theorem Z1{p q:Bool}:LV (.b p) (.b q) (.b false)=some (.b (p&&q)):=by cases p<;>rfl
theorem ALZ{p q:Bool}:LV (.b p) (.b true) (.b q)=some (.b (p||q)):=by cases p<;>rfl
def cvD(k:IntKind):D->Option D|.i _ n=>some (.i k (k.wrap n))|_=>none
theorem AB0{k:IntKind}{a:A}:AW E (.cv k a)=cvD k (ev E a):=by simp only[AW];cases ev E a<;>rfl
theorem AGJ{k h:IntKind}{n:Int}:cvD k (.i h n)=some (.i k (k.wrap n)):=rfl
theorem ADL{a:A}{p:List PE}:AW E (.ln a p)=(EM E p (ev E a)).bind FW:=rfl
theorem AKR{d:D}:EM E [] d=some d:=rfl
theorem ANK{h:PE}{d:D}:EM E [h] d=(h.ev E).bind λi=>Ai [i] d:=by
 simp only[EM,List.mapM_cons,List.mapM_nil]
 cases h.ev E<;>rfl
theorem XL{a:A}:AW E (.sn a)=Mu (ev E a):=rfl
theorem AEG{a i:A}:AW E (.sx a i)=Kh (ev E a) (ev E i):=rfl
theorem Wg{a:A}{lo hi:Option A}:AW E (.ss a lo hi)=Gj (ev E a) (lo.map (ev E)) (hi.map (ev E)):=rfl
theorem YI{a i:A}:AW E (.ix a [] i)=Dr (ev E a) (ev E i):=rfl
theorem Xk{a i:A}{p:List PE}:AW E (.ix a p i)=(EM E p (ev E a)).bind λd=>Dr d (ev E i):=rfl
theorem AIJ{a i:A}:AW E (.iy a i)=(Dr (ev E a) (ev E i)).bind GD:=rfl
def IE(is:Option (List Nat))(d x:D):Option D:=if x.one=true then is.bind λis=>An is d x else none
theorem AH1{n:Nat}{p:List PE}{a:A}:AW E (.up n p a)=IE (p.mapM (PE.ev E)) (E n) (ev E a):=rfl
theorem ZH{h:PE}:[h].mapM (PE.ev E)=(h.ev E).map ([·]):=by simp only[List.mapM_cons,List.mapM_nil];cases h.ev E<;>rfl
theorem AAQ{h l:PE}:[h,l].mapM (PE.ev E)=(h.ev E).bind λi=>(l.ev E).map λj=>[i,j]:=by simp only[List.mapM_cons,List.mapM_nil];cases h.ev E<;>cases l.ev E<;>rfl
theorem AD3{n:Nat}:PE.ev E (.k n)=some n:=rfl
def WX:D->Option Nat|.i _ z=>if 0<=z then some z.toNat else none|_=>none
theorem Xv{n:Nat}:PE.ev E (.e n)=WX (E n):=by simp only[PE.ev];cases E n<;>rfl
theorem AC3{k:IntKind}{z:Int}(h:0<=z):WX (.i k z)=some z.toNat:=by simp[WX,h]
theorem AA5{F:Bool}{a:A}{lo hi:Option A}:AW E (.sb F a lo hi)=Ec (ev E a) (lo.map (ev E)) (hi.map (ev E)):=rfl
theorem AAX{fl:Bool}{a b:A}:AW E (.ap fl a b)=Ev fl (ev E a) (ev E b):=rfl
theorem AAM{d:D}{n c:A}:AW E (.mk d n c)=HJ d (ev E n) (ev E c):=rfl
def EK(xs:List D):Option D:=if xs.all D.one=true then some (.l xs)else none
theorem Zp{s:Sh}{xs:List A}:AW E (.li s xs)=EK (xs.map (ev E)):=rfl
theorem AEW{a:A}:AW E (.bs a)=Iz (ev E a):=rfl
theorem Wv{a:A}:AW E (.sy a)=Pl (ev E a):=rfl
def mxD:D->D->Option D|.i k x,.i k' y=>if k=k' then some (.i k (if y > x then y else x))else none|_,_=>none
def mnD:D->D->Option D|.i k x,.i k' y=>if k=k' then some (.i k (if y<x then y else x))else none|_,_=>none
def Rm(k:Nat)(l:List (D×Nat)):Option D:=if l.all (CI k)=true then some (.g (l.map (·.1)))else none
theorem Yp{k:Nat}{xs:List (A×Nat)}:AW E (.bg k xs)=Rm k (xs.map λx=>(ev E x.1,x.2)):=by simp only[AW,Rm,List.map_map];rfl
def Hr(k:Nat):Bool->List (D×Nat)->List D->Option D
 |false,_,_=>none
 |true,[],r=>some (.g r)
 |true,x::l,r=>Hr k (CI k x) l (r++[x.1])
theorem AHG{k:Nat}{l:List (D×Nat)}:Rm k l=Hr k true l []:=by
 have key:∀(l:List (D×Nat))(r:List D),Hr k true l r=if l.all (CI k)=true then some (.g (r++l.map (·.1)))else none:=by
  intro l;induction l with
  |nil=>intro r;simp[Hr]
  |cons x l I=>
   intro r
   simp only[Hr]
   cases h:CI k x with
   |true=>rw[I];simp only[List.all_cons,h,Bool.true_and,List.map_cons,CE,List.cons_append,List.nil_append]
   |false=>simp[h,Hr]
 rw[key];simp[Rm]
theorem AIC{k:Nat}{r:List D}:Hr k true [] r=some (.g r):=rfl
theorem ANV{k:Nat}{x:D×Nat}{l:List (D×Nat)}{r:List D}:Hr k true (x::l) r=Hr k (CI k x) l (r++[x.1]):=rfl
theorem AKQ{d:D}{i:Nat}:CI 0 (d,i)=d.one:=by simp[CI]
theorem ADR{k i:Nat}{q:IntKind}{n:Int}:CI k (.i q n,i)=true:=by simp only[CI,D.one,Bool.true_and,Bool.or_eq_true];right;right;cases min i k<;>simp[C3,D.flat]
theorem AB5{k i:Nat}{x:List Nat}:CI k (.s x,i)=true:=by simp only[CI,D.one,Bool.true_and,Bool.or_eq_true];right;right;cases min i k<;>simp[C3,D.flat]
theorem Y2{k i:Nat}{x:Bool}:CI k (.b x,i)=true:=by simp only[CI,D.one,Bool.true_and,Bool.or_eq_true];right;right;cases min i k<;>simp[C3,D.flat]
theorem Xc{a:A}:AW E (.bp a)=KF (ev E a):=rfl
theorem AEK{xs:List D}:KF (.g xs)=some (.p xs):=rfl
def HW:List D->Nat->Bool
 |[],0=>true
 |_::xs,k+1=>HW xs k
 |_,_=>false
theorem PK:∀{xs:List D}{k:Nat},HW xs k=decide (xs.length=k)
 |[],0=>rfl
 |[],k+1=>rfl
 |_::xs,0=>rfl
 |_::xs,k+1=>by simp[HW,PK (xs:=xs) (k:=k)]
theorem AGQ:HW [] 0=true:=rfl
theorem Z2{x:D}{xs:List D}{k:Nat}:HW (x::xs) (k+1)=HW xs k:=rfl
def JQ:List D->Bool
 |[]=>true
 |x::xs=>x.one&&JQ xs
theorem Zd:∀{xs:List D},JQ xs=xs.all D.one
 |[]=>rfl
 |x::xs=>by simp[JQ,Zd (xs:=xs)]
theorem ANP:JQ []=true:=rfl
theorem ABS{x:D}{xs:List D}:JQ (x::xs)=(x.one&&JQ xs):=rfl
def KI{α:Type}(r:α):Bool->Option α
 |true=>some r
 |false=>none
theorem AK8{α:Type}{r:α}:KI r true=some r:=rfl
theorem AJ6{a:A}{k:Nat}:AW E (.gp a k)=KT k (ev E a):=rfl
theorem AMK{xs:List D}{k:Nat}:KT k (.p xs)=KI (.g xs) (HW xs k):=by rw[PK];simp only[KT];by_cases h:xs.length=k<;>simp[h,KI]
theorem AIE{w:Bool}{a:A}:AW E (.nz w a)=(Jy (ev E a)).map λx=>.b (x==w):=rfl
theorem ZI:Jy .z=some true:=rfl
theorem Wj{xs:List D}:Jy (.p xs)=some false:=rfl
theorem ANB{a:A}:AW E (.nn a)=Ma (ev E a):=rfl
theorem Yk{xs:List D}:Ma (.p xs)=some (.p xs):=rfl
theorem AB2{k:Nat}{a:A}:AW E (.wl k a)=FR k (ev E a):=rfl
theorem Uj{xs:List D}{k:Nat}:FR k (.g xs)=KI (.g xs) (HW xs k&&JQ xs):=by rw[PK,Zd];simp only[FR];by_cases h:xs.length=k<;>by_cases l:xs.all D.one=true<;>simp[h,l,KI]
def wsD(d:D)(k:Nat)(x:D):Option D:=if Iw k d=true then FR k x else none
theorem AJ3{n k:Nat}{a:A}:AW E (.ws n k a)=wsD (E n) k (ev E a):=rfl
theorem AFM{ys xs:List D}{k:Nat}:wsD (.g ys) k (.g xs)=KI (.g xs) (HW ys k&&(HW xs k&&JQ xs)):=by simp only[wsD,Iw,Uj,PK];by_cases h:ys.length=k<;>simp[h,KI]
theorem YJ{a:A}{p:List PE}:AW E (.gt a p)=EM E p (ev E a):=rfl
theorem AIM{i:Nat}{xs:List D}:Ai [i] (.g xs)=xs[i]?:=by simp only[Ai];cases xs[i]?<;>rfl
theorem AJ0{q:IntKind}{n:Int}:known (.i q n)=some (.i q n):=rfl
theorem AFI{x:Bool}:known (.b x)=some (.b x):=rfl
theorem Y7{x:List Nat}:known (.s x)=some (.s x):=rfl
theorem AM3{x:List D}:known (.l x)=some (.l x):=rfl
theorem AL6{x:List D}:known (.p x)=some (.p x):=rfl
theorem ALW:known .z=some .z:=rfl
def fpE(fl:Bool)(k:Nat)(d:D):Option D:=(Lj k d).bind λd=>if fl=true then GD d else some d
theorem ACC{fl:Bool}{a:A}{k:Nat}:AW E (.fp fl a k)=fpE fl k (ev E a):=rfl
def Lf(fl:Bool)(d:D):Option D:=(known d).bind λd=>if fl=true then GD d else some d
theorem ACA{fl:Bool}{k:Nat}{xs:List D}:fpE fl k (.p xs)=xs[k]?.bind (Lf fl):=by simp only[fpE,Lj];cases xs[k]?<;>rfl
theorem AE3{d:D}:Lf false d=known d:=by simp[Lf]
theorem AM9{q:IntKind}{n:Int}:Lf true (.i q n)=some (.i q n):=rfl
theorem AF8{x:List Nat}:Lf true (.s x)=some (.s x):=rfl
theorem AEZ{x:Bool}:Lf true (.b x)=some (.b x):=rfl
theorem SP{i:Nat}{xs:List D}{x:D}:An [i] (.g xs) x=xs[i]?.map λ_=>.g (xs.set i x):=by simp only[An];cases xs[i]?<;>rfl
def QI(is:Option (List Nat))(d x:D)(i k:Nat):Option D:=if CI k (x,i)=true then is.bind λis=>An is d x else none
theorem XW{n k:Nat}{p:List PE}{a:A}:AW E (.jn n p a k)=K7 (p.mapM (PE.ev E)) (E n) (ev E a) k:=rfl
theorem ACW{n:Nat}:AW E (.cb n)=ML (E n):=rfl
theorem ADE{x:D}{xs:List D}:ML (.g (x::xs))=some .u:=rfl
theorem AFK{n:Nat}{p:List PE}{a:A}{i k:Nat}:AW E (.uq n p a i k)=QI (p.mapM (PE.ev E)) (E n) (ev E a) i k:=rfl
theorem AC8{xs:List D}:(D.l xs).one=true:=rfl
theorem AC5{xs:List D}:(D.p xs).one=true:=rfl
theorem AM8:D.z.one=true:=rfl
theorem TQ{x:D}{xs:List D}:(x::xs)[0]?=some x:=rfl
theorem Vd{x:D}{xs:List D}{n:Nat}:(x::xs)[n+1]?=xs[n]?:=by simp
theorem X6{a b:A}:AW E (.mx a b)=mxD (ev E a) (ev E b):=by simp only[AW];cases ev E a<;>cases ev E b<;>rfl
theorem AMW{a b:A}:AW E (.mn a b)=mnD (ev E a) (ev E b):=by simp only[AW];cases ev E a<;>cases ev E b<;>rfl
theorem AEA{k:IntKind}{x y:Int}:mxD (.i k x) (.i k y)=some (.i k (max x y)):=by simp only[mxD,if_true];congr 2;omega
theorem AMF{k:IntKind}{x y:Int}:mnD (.i k x) (.i k y)=some (.i k (min x y)):=by simp only[mnD,if_true];congr 2;omega
end
theorem AM1(n:Nat):Env.E [] n=.u:=rfl
theorem VL(d:D)(e:Env):Env.E (d::e) 0=d:=rfl
theorem Tb(d:D)(e:Env)(n:Nat):Env.E (d::e) (n+1)=Env.E e n:=by simp[Env.E]
theorem Uw{e:Env}:Dg [] e=[]:=rfl
theorem W7{n:Nat}{o:List (Option Nat)}{e:Env}:Dg (some n::o) e=e.E n::Dg o e:=rfl
theorem S2{o:List (Option Nat)}{e:Env}:Dg (none::o) e=.u::Dg o e:=rfl
section
variable{k:IntKind}{a b:Int}
theorem AID:CA .add (.i k a) (.i k b)=some (.i k (k.wrap (a+b))):=by simp[CA,Eo]
theorem AHH:CA .sub (.i k a) (.i k b)=some (.i k (k.wrap (a-b))):=by simp[CA,Eo]
theorem AFQ:CA .mul (.i k a) (.i k b)=some (.i k (k.wrap (a*b))):=by simp[CA,Eo]
theorem ADH(h:b≠0):CA .quo (.i k a) (.i k b)=some (.i k (k.wrap (a.tdiv b))):=by simp[CA,Eo,h]
theorem AGT(h:b≠0):CA .rem (.i k a) (.i k b)=some (.i k (a.tmod b)):=by simp[CA,Eo,h]
theorem ZX:CA .eql (.i k a) (.i k b)=some (.b (decide (a=b))):=by simp[CA,Eo];rfl
theorem AJS:CA .neq (.i k a) (.i k b)=some (.b (!decide (a=b))):=by simp only[CA,Eo,if_true];congr 2
theorem AAN:CA .lss (.i k a) (.i k b)=some (.b (decide (a<b))):=by simp[CA,Eo]
theorem YW:CA .leq (.i k a) (.i k b)=some (.b (decide (a<=b))):=by simp[CA,Eo]
theorem AFD:CA .gtr (.i k a) (.i k b)=some (.b (decide (b<a))):=by simp[CA,Eo]
theorem ABJ:CA .geq (.i k a) (.i k b)=some (.b (decide (b<=a))):=by simp[CA,Eo]
theorem AMA{p:Bool}:Lq .not (.b p)=some (.b (!p)):=rfl
theorem AGH:Lq .neg (.i k a)=some (.i k (k.wrap (0-a))):=rfl
theorem Xn{p q:Bool}:G6 .eql (.b p) (.b q)=some (.b (p==q)):=rfl
theorem AEQ{p q:Bool}:G6 .neq (.b p) (.b q)=some (.b (!(p==q))):=rfl
theorem Ym{x y:List Nat}:CA .eql (.s x) (.s y)=some (.b (x==y)):=rfl
theorem ZC{x y:List Nat}:CA .neq (.s x) (.s y)=some (.b (!(x==y))):=rfl
theorem AI3{x y:List Nat}(h:x.length+y.length<=1099511627776):CA .add (.s x) (.s y)=some (.s (x++y)):=by show Mi .add x y=_;simp only[Mi];rw[if_pos (show x.length+y.length<=G1 from h)]
end
theorem wrap_i64{x:Int}(h:-9223372036854775808<=x/\x<=9223372036854775807):IntKind.i64.wrap x=x:=by
 obtain⟨o,B⟩:=h;have e:x%(2^64:Int)=x%18446744073709551616:=rfl;by_cases h0:0<=x;have l:x%18446744073709551616=x:=Int.emod_eq_of_lt h0 (by omega);simp[IntKind.wrap,IntKind.bits,IntKind.signed,l];omega;have l:x%18446744073709551616=x+18446744073709551616:=by omega
 simp[IntKind.wrap,IntKind.bits,IntKind.signed,l];omega
theorem wrap_u8{x:Int}(h:0<=x/\x<=255):IntKind.u8.wrap x=x:=by obtain⟨l,B⟩:=h;have o:x%256=x:=Int.emod_eq_of_lt l (by omega);simp[IntKind.wrap,IntKind.bits,IntKind.signed,o]
end Go.Cat
namespace Go.Cat
def LI(zs:List Int):D:=.l (zs.map D.n)
def LS(ss:List (List Nat)):D:=.l (ss.map D.s)
def LB(bs:List Nat):D:=.l (bs.map D.y)
def LT(bs:List Bool):D:=.l (bs.map D.b)
def LL(rs:List (List Int)):D:=.l (rs.map LI)
def AB(zs:List Int)(i:Int):Int:=zs.getD i.toNat 0
def AH(ss:List (List Nat))(i:Int):List Nat:=ss.getD i.toNat []
def AI(bs:List Nat)(i:Int):Nat:=bs.getD i.toNat 0
def CM(bs:List Bool)(i:Int):Bool:=bs.getD i.toNat false
def AF(rs:List (List Int))(i:Int):List Int:=rs.getD i.toNat []
def B9(zs:List Int)(i:Int)(x:Int):List Int:=zs.set i.toNat x
def GM(zs:List (List Nat))(i:Int)(x:List Nat):List (List Nat):=zs.set i.toNat x
def C2(zs:List Bool)(i:Int)(x:Bool):List Bool:=zs.set i.toNat x
def D9(zs:List (List Int))(i:Int)(x:List Int):List (List Int):=zs.set i.toNat x
def rep{α:Type}(n:Int)(x:α):List α:=List.replicate n.toNat x
theorem Sf{α:Type}{n:Nat}{x:α}:rep (n:Int) x=List.replicate n x:=rfl
def sub{α:Type}(xs:List α)(i j:Int):List α:=(xs.take j.toNat).drop i.toNat
section
variable{α:Type}(f:α->D)(df:α)
theorem Mt{zs:List α}{k:IntKind}{i:Int}(o:∀a,(f a).isU=false)(h0:0<=i)(B:i<zs.length):Dr (.l (zs.map f)) (.i k i)=some (f (zs.getD i.toNat df)):=by
 have h:i.toNat<zs.length:=by omega
 simp[Dr,h0,h,known,o]
theorem get_map{zs:List α}{i:Nat}(h:i<zs.length):Ai [i] (.l (zs.map f))=some (f (zs.getD i df)):=by simp[Ai,h]
theorem Li{zs:List α}{i:Nat}{x:α}(h:i<zs.length):An [i] (.l (zs.map f)) (f x)=some (.l ((zs.set i x).map f)):=by simp[An,h,List.map_set]
theorem IV{zs:List α}{lo hi:Option D}{l h:Nat}(F:bound lo 0=some l)(C:bound hi zs.length=some h)(o:l<=h)(B:h<=zs.length):Ec (.l (zs.map f)) lo hi=some (.l (((zs.take h).drop l).map f)):=by simp[Ec,F,C,o,B,List.map_take,List.map_drop]
theorem RI{fl:Bool}{xs ys:List α}(o:∀a,(f a).one=true/\(fl=true->(f a).flat=true))(h:xs.length+ys.length<=G1):Ev fl (.l (xs.map f)) (.l (ys.map f))=some (.l ((xs++ys).map f)):=by
 have B:(ys.map f).all (if fl=true then D.flat else D.one)=true:=by
  cases fl with
  |true=>simpa using λa _=>(o a).2 rfl
  |false=>simpa using λa _=>(o a).1
 simp only[Ev,List.length_map];rw[if_pos ⟨h,B⟩,List.map_append]
end
theorem JS{d:Nat}:bound none d=some d:=rfl
theorem FG{k:IntKind}{n:Int}{d:Nat}(h:0<=n):bound (some (.i k n)) d=some n.toNat:=by simp[bound,h]
section
variable{zs ys:List Int}{i j x:Int}{k:IntKind}
theorem AES:FW (LI zs)=some (.n zs.length):=by simp[FW,LI]
theorem AH3(h:0<=i/\i<zs.length):Dr (LI zs) (.i k i)=some (.n (AB zs i)):=Mt D.n 0 (λ_=>rfl) h.1 h.2
theorem AFB:GD (.i k x)=some (.i k x):=rfl
theorem Sy(h:0<=i/\i<zs.length):An [i.toNat] (LI zs) (.n x)=some (LI (B9 zs i x)):=Li D.n (by omega)
theorem AFE(h:0<=i/\i<=j/\j<=zs.length):Ec (LI zs) (some (.n i)) (some (.n j))=some (LI (sub zs i j)):=
 IV D.n (FG h.1) (FG (by omega)) (by omega) (by omega)
theorem ANJ(h:0<=j/\j<=zs.length):Ec (LI zs) none (some (.n j))=some (LI (sub zs 0 j)):=IV D.n JS (FG (by omega)) (by omega) (by omega)
theorem Y5(h:0<=i/\i<=zs.length):Ec (LI zs) (some (.n i)) none=some (LI (sub zs i zs.length)):=by rw[LI,IV D.n (FG h.1) JS (by omega) (by omega)];rfl
theorem Yy{fl:Bool}(h:zs.length+ys.length<=1099511627776):Ev fl (LI zs) (LI ys)=some (LI (zs++ys)):=RI D.n (λ_=>⟨rfl,λ_=>rfl⟩) h
theorem Zf{n m:Int}(h:0<=n/\n<=m/\m<=1099511627776):HJ (.n x) (.n n) (.n m)=some (LI (rep n x)):=by simp only[HJ,LI,rep];rw[if_pos (show 0<=n/\n<=m/\m<=(G1:Int)from h)];simp
theorem EI:D.l []=LI []:=rfl
theorem AIZ:EK []=some (.l []):=rfl
theorem N5{a:Int}:EK [.n a]=some (LI [a]):=rfl
theorem Mk{a b:Int}:EK [.n a,.n b]=some (LI [a,b]):=rfl
theorem Uy{a b c:Int}:EK [.n a,.n b,.n c]=some (LI [a,b,c]):=rfl
theorem Zx:(D.i k x).one=true:=rfl
theorem AGU:(LI zs).one=true:=rfl
end
section
variable{s u:List Nat}{ss ts:List (List Nat)}{i j:Int}{k:IntKind}
theorem Zq:Mu (.s s)=some (.n s.length):=rfl
theorem ACB(h:0<=i/\i<s.length):Kh (.s s) (.i k i)=some (.y (AI s i)):=by
 have l:i.toNat<s.length:=by omega
 simp[Kh,h.1,l,AI]
theorem AL2(h:0<=i/\i<=j/\j<=s.length):Gj (.s s) (some (.n i)) (some (.n j))=some (.s (sub s i j)):=by simp only[Gj,FG h.1,FG (show 0<=j by omega)];rw[if_pos (by omega)];rfl
theorem Ye(h:0<=j/\j<=s.length):Gj (.s s) none (some (.n j))=some (.s (sub s 0 j)):=by simp only[Gj,JS,FG h.1];rw[if_pos (by omega)];rfl
theorem ALM(h:0<=i/\i<=s.length):Gj (.s s) (some (.n i)) none=some (.s (sub s i s.length)):=by simp only[Gj,JS,FG h.1];rw[if_pos (by omega)];rfl
theorem ABX:FW (LS ss)=some (.n ss.length):=by simp[FW,LS]
theorem ALV(h:0<=i/\i<ss.length):Dr (LS ss) (.i k i)=some (.s (AH ss i)):=Mt D.s [] (λ_=>rfl) h.1 h.2
theorem ACQ:GD (.s s)=some (.s s):=rfl
theorem XH(h:0<=i/\i<ss.length):An [i.toNat] (LS ss) (.s s)=some (LS (GM ss i s)):=Li D.s (by omega)
theorem ANM(h:0<=i/\i<=j/\j<=ss.length):Ec (LS ss) (some (.n i)) (some (.n j))=some (LS (sub ss i j)):=
 IV D.s (FG h.1) (FG (by omega)) (by omega) (by omega)
theorem AIU{fl:Bool}(h:ss.length+ts.length<=1099511627776):Ev fl (LS ss) (LS ts)=some (LS (ss++ts)):=RI D.s (λ_=>⟨rfl,λ_=>rfl⟩) h
theorem ACL{n m:Int}(h:0<=n/\n<=m/\m<=1099511627776):HJ (.s s) (.n n) (.n m)=some (LS (rep n s)):=by simp only[HJ,LS,rep];rw[if_pos (show 0<=n/\n<=m/\m<=(G1:Int)from h)];simp
theorem AG7:D.l []=LS []:=rfl
theorem Pw{a:List Nat}:EK [.s a]=some (LS [a]):=rfl
theorem AJ4:(D.s s).one=true:=rfl
end
section
variable{bs cs:List Nat}{i j:Int}{k:IntKind}{c:Nat}
theorem AG8:FW (LB bs)=some (.n bs.length):=by simp[FW,LB]
theorem AEB(h:0<=i/\i<bs.length):Dr (LB bs) (.i k i)=some (.y (AI bs i)):=Mt D.y 0 (λ_=>rfl) h.1 h.2
theorem AK0{fl:Bool}(h:bs.length+cs.length<=1099511627776):Ev fl (LB bs) (LB cs)=some (LB (bs++cs)):=RI D.y (λ_=>⟨rfl,λ_=>rfl⟩) h
theorem AJF:EK [.y c]=some (LB [c]):=rfl
theorem Yg{x:Int}(h:0<=x):EK [.i .u8 x]=some (LB [x.toNat]):=by
 have:x=(x.toNat:Int):=by omega
 rw[this];rfl
theorem Xs{x:Nat}(h:x<256):Iz (LB [x])=some (.s [x]):=by
 have l:((x:Int))<256:=by omega
 simp[Iz,LB,bytesOf,l]
theorem AJ7:D.l []=LB []:=rfl
theorem ADC(h:bs.length<=1099511627776):Pl (.s bs)=some (LB bs):=by simp only[Pl];rw[if_pos (show bs.length<=G1 from h)];rfl
theorem AHQ:∀{bs:List Nat},(∀c∈bs,c<256)->bytesOf (bs.map D.y)=some bs
 |[],_=>rfl
 |c::bs,h=>by have o:=h c (by simp);simp only[List.map_cons,bytesOf];rw[if_pos (by omega),AHQ λc l=>h c (by simp[l])];simp
theorem QP(h:∀c∈bs,c<256):Iz (LB bs)=some (.s bs):=by simp[Iz,LB,AHQ h]
end
section
variable{bs cs:List Bool}{i j:Int}{k:IntKind}{c:Bool}
theorem AAR:FW (LT bs)=some (.n bs.length):=by simp[FW,LT]
theorem AII(h:0<=i/\i<bs.length):Dr (LT bs) (.i k i)=some (.b (CM bs i)):=Mt D.b false (λ_=>rfl) h.1 h.2
theorem XT:GD (.b c)=some (.b c):=rfl
theorem XR(h:0<=i/\i<bs.length):An [i.toNat] (LT bs) (.b c)=some (LT (C2 bs i c)):=Li D.b (by omega)
theorem Yj{n m:Int}(h:0<=n/\n<=m/\m<=1099511627776):HJ (.b c) (.n n) (.n m)=some (LT (rep n c)):=by simp only[HJ,LT,rep];rw[if_pos (show 0<=n/\n<=m/\m<=(G1:Int)from h)];simp
theorem ALS:(D.b c).one=true:=rfl
end
section
variable{rs qs:List (List Int)}{r:List Int}{i j x:Int}{k:IntKind}
theorem ALL:FW (LL rs)=some (.n rs.length):=by simp[FW,LL]
theorem Zn(h:0<=i/\i<rs.length):Dr (LL rs) (.i k i)=some (LI (AF rs i)):=Mt LI [] (λ_=>rfl) h.1 h.2
theorem AFU(h:0<=i/\i<rs.length):Ai [i.toNat] (LL rs)=some (LI (AF rs i)):=get_map LI [] (by omega)
theorem AKT(h:0<=i/\i<rs.length):An [i.toNat] (LL rs) (LI r)=some (LL (D9 rs i r)):=Li LI (by omega)
theorem AIP(h:0<=i/\i<rs.length/\0<=j/\j<(AF rs i).length):An [i.toNat,j.toNat] (LL rs) (.n x)=some (LL (D9 rs i (B9 (AF rs i) j x))):=by
 obtain⟨h0,G,I,J⟩:=h;have o:i.toNat<rs.length:=by omega
 have C:j.toNat<(AF rs i).length:=by omega
 have e:rs[i.toNat]=AF rs i:=by simp[AF,Ap,o]
 have:=Li D.n (x:=x) C;have B:An [i.toNat,j.toNat] (LL rs) (.n x)=(An [j.toNat] (LI (AF rs i)) (.n x)).map λF=>.l ((rs.map LI).set i.toNat F):=by refine(show _=((rs.map LI)[i.toNat]?.bind λy=>An [j.toNat] y (.n x)).map _ from rfl).trans ?_;rw[List.getElem?_map,GB o,Option.map_some,Option.bind_some,e]
 rw[B,LI,this];simp[LL,D9,List.map_set,B9,LI]
theorem KU{fl:Bool}(h:rs.length+qs.length<=1099511627776/\fl=false):Ev fl (LL rs) (LL qs)=some (LL (rs++qs)):=RI LI (λ_=>⟨rfl,λe=>by rw[h.2]at e;cases e⟩) h.1
theorem ALC(h:0<=i/\i<=j/\j<=rs.length):Ec (LL rs) (some (.n i)) (some (.n j))=some (LL (sub rs i j)):=
 IV LI (FG h.1) (FG (by omega)) (by omega) (by omega)
theorem AD8(h:0<=i/\i<=rs.length):Ec (LL rs) (some (.n i)) none=some (LL (sub rs i rs.length)):=by rw[LL,IV LI (FG h.1) JS (by omega) (by omega)];rfl
theorem PH:D.l []=LL []:=rfl
theorem HI:EK [LI r]=some (LL [r]):=rfl
end
theorem ANO{is:List Nat}{d:D}{k:IntKind}{n:Int}:IE (some is) d (.i k n)=An is d (.i k n):=rfl
theorem AFF{is:List Nat}{d:D}{u:List Nat}:IE (some is) d (.s u)=An is d (.s u):=rfl
theorem Y0{is:List Nat}{d:D}{u:Bool}:IE (some is) d (.b u)=An is d (.b u):=rfl
theorem X2{is:List Nat}{d:D}{u:List D}:IE (some is) d (.l u)=An is d (.l u):=rfl
theorem Zh{is:List Nat}{d:D}{u:List (List Nat)}:IE (some is) d (LS u)=An is d (LS u):=rfl
theorem Zv{is:List Nat}{d:D}{u:List (List Int)}:IE (some is) d (LL u)=An is d (LL u):=rfl
theorem AEJ{k:Nat}{x:List Int}:C3 (k+1) (LI x)=true:=by
 simp only[C3,LI,Bool.or_eq_true,Aj];right;intro d hd;obtain⟨y,_,rfl⟩:=List.mem_map.1 hd
 cases k<;>simp[C3,D.flat]
theorem AVC{k:Nat}{x:List (List Nat)}:C3 (k+1) (LS x)=true:=by
 simp only[C3,LS,Bool.or_eq_true,Aj];right;intro d hd;obtain⟨y,_,rfl⟩:=List.mem_map.1 hd
 cases k<;>simp[C3,D.flat]
theorem AbV{k:Nat}{x:List (List Int)}:C3 (k+2) (LL x)=true:=by show((D.l (x.map LI)).flat||(x.map LI).all (C3 (k+1)))=true;simp only[Bool.or_eq_true,Aj];right;intro d hd;obtain⟨y,_,rfl⟩:=List.mem_map.1 hd;exact AEJ
theorem Ou{x:List Int}:C3 1 (LI x)=true:=AEJ
theorem T4{x:List (List Nat)}:C3 1 (LS x)=true:=AVC
theorem Vu{x:List (List Int)}:C3 2 (LL x)=true:=AbV
theorem ADS{is:Option (List Nat)}{d:D}{x:List Int}:K7 is d (LI x) 1=is.bind λis=>An is d (LI x):=by unfold K7;rw[Ou];rfl
theorem XD{is:Option (List Nat)}{d:D}{x:List (List Nat)}:K7 is d (LS x) 1=is.bind λis=>An is d (LS x):=by unfold K7;rw[T4];rfl
theorem XF{is:Option (List Nat)}{d:D}{x:List (List Int)}:K7 is d (LL x) 2=is.bind λis=>An is d (LL x):=by unfold K7;rw[Vu];rfl
def O9(rs:List (List Int))(i:Int):D:=.l ((rs.map LI).set i.toNat .u)
theorem M5{rs:List (List Int)}{i:Int}(h:0<=i/\i<rs.length):Hz 1 (LL rs) (some [i.toNat])=some (LI (AF rs i),O9 rs i):=by
 have l:i.toNat<rs.length:=by omega
 simp[Hz,LL,Ai,An,l,Ou,AF,O9]
theorem ND{rs:List (List Int)}{i:Int}{x:List Int}(h:0<=i/\i<rs.length):An [i.toNat] (O9 rs i) (LI x)=some (LL (D9 rs i x)):=by
 have l:i.toNat<rs.length:=by omega
 simp[O9,An,l,LL,D9]
theorem AED{is:List Nat}{d:D}{u:List Int}:IE (some is) d (LI u)=An is d (LI u):=rfl
theorem AHV{a b:Int}(h:0<=a):a.tmod b=a%b:=Int.tmod_eq_emod_of_nonneg h
theorem ACY{a b:Int}(h:0<=a):a.tdiv b=a/b:=Int.tdiv_eq_ediv_of_nonneg h
theorem vl:(∀{α:Type}{a:α}{l:List α},(a::l).length=l.length+1)/\(∀{α:Type},([]:List α).length=0)/\(∀{α:Type}{a b:List α},(a++b).length=a.length+b.length)/\
  (∀{zs:List Int}{i x:Int},(B9 zs i x).length=zs.length)/\(∀{zs:List (List Nat)}{i:Int}{x:List Nat},(GM zs i x).length=zs.length)/\(∀{zs:List Bool}{i:Int}{x:Bool},(C2 zs i x).length=zs.length)/\
  (∀{zs:List (List Int)}{i:Int}{x:List Int},(D9 zs i x).length=zs.length)/\(∀{α:Type}{xs:List α}{i j:Int},(sub xs i j).length=min j.toNat xs.length-i.toNat)/\(∀{α:Type}{n:Int}{y:α},(rep n y).length=n.toNat)/\
  (∀{α β:Type}{f:α->β}{l:List α},(l.map f).length=l.length)/\(∀{α:Type}{l:List α}{n:Nat},(l.take n).length=min n l.length)/\(∀{α:Type}{l:List α}{n:Nat},(l.drop n).length=l.length-n)/\(∀{α:Type}{l:List α},l.reverse.length=l.length):=
 ⟨AO,Aa,AZ,by simp[B9],by simp[GM],by simp[C2],by simp[D9],by simp[sub],by simp[rep],List.length_map _,List.length_take,List.length_drop,List.length_reverse⟩
theorem AH9{p:Bool}:(p==p)=true:=by simp
theorem YP{x:List Nat}:(x==x)=true:=by simp
theorem Gb{zs:List Int}{i j:Nat}{x:Int}(hi:i<zs.length):AB (B9 zs i x) j=if i=j then x else AB zs j:=by simp only[AB,B9,BM,Ap,List.getElem?_set];split;rename_i h;subst h;simp;rfl
theorem Wq{zs:List (List Nat)}{i j:Nat}{x:List Nat}(hi:i<zs.length):AH (GM zs i x) j=if i=j then x else AH zs j:=by simp only[AH,GM,BM,Ap,List.getElem?_set];split;rename_i h;subst h;simp;rfl
theorem AN2{zs:List Bool}{i j:Nat}{x:Bool}(hi:i<zs.length):CM (C2 zs i x) j=if i=j then x else CM zs j:=by simp only[CM,C2,BM,Ap,List.getElem?_set];split;rename_i h;subst h;simp;rfl
theorem Lm{a b:List Int}(B:a.length=b.length)(h:∀j:Nat,j<a.length->AB a j=AB b j):a=b:=by apply List.ext_getElem B;intro j l o;have:=h j l;simpa[AB,l,o]using this
theorem J0{α:Type}{n:Int}{y:α}:(rep n y).length=n.toNat:=by simp[rep]
section
variable{zs:List Int}{i j x:Int}
theorem DD:(B9 zs i x).length=zs.length:=by simp[B9]
theorem NR{ss:List (List Nat)}{s:List Nat}:(GM ss i s).length=ss.length:=by simp[GM]
theorem Fy{ss:List Bool}{s:Bool}:(C2 ss i s).length=ss.length:=by simp[C2]
theorem VF{ss:List (List Int)}{s:List Int}:(D9 ss i s).length=ss.length:=by simp[D9]
theorem LO{α:Type}{xs:List α}:(sub xs i j).length=min j.toNat xs.length-i.toNat:=by simp[sub]
end
theorem Aq{K:Nat->List D->List D->Prop}{g:Nat}{ds:List D}{r:Nat}{e:Env}{Q:Env->Prop}{rs:List D}(h:K g ds rs)(l:rs.length=r)(o:Q (e++rs)):L5 K g ds r e Q:=⟨rs,h,l,o⟩
theorem EJ{w:List Nat}{i:Nat}(h:i<w.length):w.drop i=AI w i::w.drop (i+1):=by rw[List.drop_eq_getElem_cons h];simp[AI,h]
theorem D2{a b c d:D}(h:a=c)(l:b=d):[a,b]=[c,d]:=by rw[h,l]
theorem Db{p q:Bool}(h:p=q):[D.b p]=[D.b q]:=by rw[h]
theorem Dn{k:IntKind}{p q:Int}(h:p=q):[D.i k p]=[D.i k q]:=by rw[h]
theorem Dl{p q:List Int}(h:p=q):[LI p]=[LI q]:=by rw[h]
theorem NK{zs:List Int}{p:Int->Bool}{i:Nat}(hi:i<zs.length)(h:p (AB zs i)=false):zs.all p=false:=by rw[Bool.eq_false_iff];intro l;rw[Aj]at l;have:=l (AB zs i) (by simp[AB,hi]);rw[h]at this;cases this
theorem Lc{zs:List Int}{p:Int->Bool}(h:∀j:Nat,j<zs.length->p (AB zs j)=true):zs.all p=true:=by rw[Aj];intro x o;obtain⟨j,l,rfl⟩:=List.mem_iff_getElem.1 o;have:=h j l;simpa[AB,l]using this
theorem Cw{i:Nat}{p:Nat->Prop}(h:∀j,j<i->p j)(l:p i):∀j,j<i+1->p j:=by
 intro j o;rcases B7 j i with q|q;exact h j q;obtain rfl:j=i:=by omega
 exact l
def MP{α:Type}(f:α->D)(m:List (List Nat×α)):D:=.g (m.map λx=>.g [.s x.1,f x.2])
def MI(m:List (List Nat×Int)):D:=MP D.n m
def MS(m:List (List Nat×List Nat)):D:=MP D.s m
def Cb{α:Type}(k:List Nat):List (List Nat×α)->Option α
 |[]=>none
 |(j,v)::m=>if k=j then some v else Cb k m
def Fm{α:Type}(k:List Nat)(v:α):List (List Nat×α)->List (List Nat×α)
 |[]=>[(k,v)]
 |(j,x)::m=>if k=j then(k,v)::m else(j,x)::Fm k v m
theorem Mv{α:Type}{f:α->D}{k:List Nat}:∀m:List (List Nat×α),getM k (m.map λx=>.g [.s x.1,f x.2])=(Cb k m).map f
 |[]=>rfl
 |(j,v)::m=>by simp only[List.map_cons,getM,Cb];split;rfl;exact Mv m
theorem S8{α:Type}{f:α->D}{k:List Nat}{v:α}:∀m:List (List Nat×α),G4 k (f v) (m.map λx=>.g [.s x.1,f x.2])=(Fm k v m).map λx=>.g [.s x.1,f x.2]
 |[]=>rfl
 |(j,x)::m=>by simp only[List.map_cons,G4,Fm];split;rfl;rw[S8 m];rfl
section
variable{k:List Nat}{m:List (List Nat×Int)}{ms:List (List Nat×List Nat)}{v d:Int}{s e:List Nat}
theorem muI:Gk (MI m) (.s k) (.n v)=some (MI (Fm k v m)):=by simp only[MI,MP,Gk,D.flat,if_true];rw[S8]
theorem muS:Gk (MS ms) (.s k) (.s s)=some (MS (Fm k s ms)):=by simp only[MS,MP,Gk,D.flat,if_true];rw[S8]
theorem AIK:Gk (.g []) (.s k) (.n v)=some (MI [(k,v)]):=rfl
theorem AHO:Gk (.g []) (.s k) (.s s)=some (MS [(k,s)]):=rfl
theorem mgI:I1 (.n d) (MI m) (.s k)=some (.n ((Cb k m).getD d)):=by simp only[MI,MP,I1];rw[Mv];cases Cb k m<;>rfl
theorem mgS:I1 (.s e) (MS ms) (.s k)=some (.s ((Cb k ms).getD e)):=by simp only[MS,MP,I1];rw[Mv];cases Cb k ms<;>rfl
theorem moI:HU (.n d) (MI m) (.s k)=some (.n ((Cb k m).getD d),.b (Cb k m).isSome):=by simp only[MI,MP,HU];rw[Mv];cases Cb k m<;>rfl
theorem moS:HU (.s e) (MS ms) (.s k)=some (.s ((Cb k ms).getD e),.b (Cb k ms).isSome):=by simp only[MS,MP,HU];rw[Mv];cases Cb k ms<;>rfl
end
def He(R:Env->Prop)(Q:X->Env->Prop):X->Env->Prop
 |.n,e=>R e
 |.ex j,e=>Q (.ex j) e
 |.r,e=>Q .r e
theorem YQ{R:Env->Prop}{Q:X->Env->Prop}{e:Env}:He R Q .n e=R e:=rfl
theorem AB7{R:Env->Prop}{Q:X->Env->Prop}{e:Env}{j:Nat}:He R Q (.ex j) e=Q (.ex j) e:=rfl
theorem AJ8{R:Env->Prop}{Q:X->Env->Prop}{e:Env}:He R Q .r e=Q .r e:=rfl
def iter{σ:Type}(f:Nat->σ->σ):Nat->σ->σ
 |0,s=>s
 |n+1,s=>f n (iter f n s)
theorem WL{σ:Type}{f:Nat->σ->σ}{l:σ}(P:σ->Prop)(h0:P l)(h:∀i s,P s->P (f i s)):∀n,P (iter f n l)
 |0=>h0
 |n+1=>h n _ (WL P h0 h n)
theorem Bd{K:Nat->List D->List D->Prop}{b:S}{Q:X->Env->Prop}{e:Env}{σ:Type}(I:σ->Prop)(mk:σ->Env)(m:σ->Nat)(l:σ)(h0:I l)(he:e=mk l)
  (step:∀s,I s->wpS K b (He (λo=>∃s',m s' < m s/\I s'/\o=mk s') Q) (mk s)):wpS K (.loop b) Q e:=by
 refine AZ6 (λn e=>∃s,n=m s/\I s/\e=mk s) (m l) ⟨l,rfl,h0,he⟩ ?_;rintro _ _ ⟨s,rfl,G,rfl⟩;refine DJ b (λx e h=>?_) (step s G)
 cases x with
 |n=>obtain⟨s',B,C,F⟩:=h;exact⟨m s',B,s',rfl,C,F⟩
 |ex j=>exact h
 |r=>exact h
theorem BE{K:Nat->List D->List D->Prop}{b:S}{Q:X->Env->Prop}{e:Env}{σ:Type}(P:Nat->σ->Prop)(mk:Nat->σ->Env)(n:Nat)(B:σ)(h0:P 0 B)(he:e=mk 0 B)
  (step:∀i s,i<n->P i s->wpS K b (He (λF=>∃s',P (i+1) s'/\F=mk (i+1) s') Q) (mk i s))
  (last:∀s,P n s->wpS K b (He (λ_=>False) Q) (mk n s)):wpS K (.loop b) Q e:=by
 refine Bd (λ(x:Nat×σ)=>x.1<=n/\P x.1 x.2) (λx=>mk x.1 x.2) (λx=>n-x.1) (0,B) ⟨Nat.zero_le _,h0⟩ he ?_;rintro⟨i,s⟩ ⟨hi,C⟩;rcases B7 i n with l|o
 .refine DJ b (λx e h=>?_) (step i s l C)
  cases x with
  |n=>obtain⟨s',G,I⟩:=h;exact⟨(i+1,s'),by show n-(i+1)<n-i;omega,⟨l,G⟩,I⟩
  |ex j=>exact h
  |r=>exact h
 .obtain rfl:i=n:=Nat.le_antisymm hi o;refine DJ b (λx e h=>?_) (last s C)
  cases x with
  |n=>exact h.elim
  |ex j=>exact h
  |r=>exact h
theorem AR{K:Nat->List D->List D->Prop}{b:S}{Q:X->Env->Prop}{e:Env}(P:Nat->Prop)(mk:Nat->Env)(n:Nat)(h0:P 0)(he:e=mk 0)
  (step:∀i,i<n->P i->wpS K b (He (λl=>P (i+1)/\l=mk (i+1)) Q) (mk i))
  (last:P n->wpS K b (He (λ_=>False) Q) (mk n)):wpS K (.loop b) Q e:=by
 refine BE (λi (_:Unit)=>P i) (λi _=>mk i) n () h0 he (λi _ hi o=>?_) (λ_ h=>last h);refine DJ b (λx e h=>?_) (step i hi o)
 cases x with
 |n=>exact⟨(),h.1,h.2⟩
 |ex j=>exact h
 |r=>exact h
theorem NF{K:Nat->List D->List D->Prop}{b:S}{Q:X->Env->Prop}{e:Env}{σ:Type}(f:Nat->σ->σ)(P:Nat->σ->Prop)(mk:Nat->σ->Env)(n:Nat)(l:σ)(h0:P 0 l)(he:e=mk 0 l)
  (G:∀i s,i<n->P i s->P (i+1) (f i s))
  (step:∀i s,i<n->P i s->s=iter f i l->wpS K b (He (λC=>C=mk (i+1) (f i s)) Q) (mk i s))
  (last:∀s,s=iter f n l->P n s->wpS K b (He (λ_=>False) Q) (mk n s)):wpS K (.loop b) Q e:=by
 refine BE (λi s=>s=iter f i l/\P i s) mk n l ⟨rfl,h0⟩ he (λi s hi F=>?_) (λs h=>last s h.1 h.2);obtain⟨o,B⟩:=F;refine DJ b (λx e h=>?_) (step i s hi B o)
 cases x with
 |n=>exact⟨f i s,⟨by rw[o];rfl,G i s hi B⟩,h⟩
 |ex j=>exact h
 |r=>exact h
theorem ABF{K:Nat->List D->List D->Prop}{k:Nat}{f:IF}[h:Has K k f]{ds rs:List D}(B:ds.length=f.np)(l:wpS K f.body (Jh f.res rs) (ds++List.replicate (f.nv-f.np) .u))(o:Fl f.cl rs=true:=by rfl):K k ds rs:=by
 refine h.h ds rs ⟨⟨B,o⟩,?_⟩;refine DJ _ (λx e h=>?_) l
 cases x with
 |ex _=>exact h.elim
 |n=>exact⟨trivial,h⟩
 |r=>exact⟨trivial,h⟩
section
variable{K:Nat->List D->List D->Prop}
theorem AX3{p:Pr}{e:Env}{Q:Env->Prop}(h:A7 K p e Q):∃C,Q C/\A7 K p e (·=C):=by unfold A7 at*;split at h;exact⟨_,h,rfl⟩;obtain⟨rs,l,o,B⟩:=h;exact⟨_,B,rs,l,o,rfl⟩;obtain⟨h0,rs,l,o,B⟩:=h;exact⟨_,B,h0,rs,l,o,rfl⟩;split at h;exact⟨_,h,rfl⟩;exact h.elim;split at h;exact⟨_,h,rfl⟩;exact h.elim;split at h;exact⟨_,h,rfl⟩;exact h.elim;split at h;exact⟨_,h,rfl⟩;exact h.elim;split at h;exact⟨_,h,rfl⟩;exact h.elim
theorem UU:∀{I:List It}{e:Env}{Q:Env->Prop}(_:EY K I e Q),∃C,Q C/\EY K I e (·=C)
 |[],e,Q,h=>⟨e,h,rfl⟩
 |it::I,e,Q,h=>by simp only[EY,H7]at*;split at h;rename_i L;obtain⟨J,F,G⟩:=AX3 h;obtain⟨l,o,B⟩:=UU F;refine⟨l,o,?_⟩;exact AGO (λe h=>by subst h;exact B) G;obtain⟨l,o,B⟩:=UU h;exact⟨l,o,B⟩;exact h.elim
theorem AKS{R:(X->Env->Prop)->Env->Prop}(B:∀Q G e,(∀x e,Q x e->G x e)->R Q e->R G e)(J:∀Q e,R Q e->∃o l,Q o l/\R (λx e=>x=o/\e=l) e):
  ∀(n:Nat){e:Env}{Q:X->Env->Prop}(_:Di R n Q e),∃o l,Q o l/\Di R n (λx e=>x=o/\e=l) e
 |0,_,_,h=>h.elim
 |n+1,e,Q,h=>by
  simp only[Di]at h;obtain⟨O,I,C,F⟩:=J _ _ h
  cases O with
  |n=>
   obtain⟨T,L,M,N⟩:=AKS B J n C
   refine⟨T,L,M,?_⟩
   simp only[Di]
   exact B _ _ _ (λx e h=>by obtain⟨rfl,rfl⟩:=h;exact N) F
  |ex j=>
   refine⟨.ex j,I,C,?_⟩
   simp only[Di]
   exact B _ _ _ (λx e h=>by obtain⟨rfl,rfl⟩:=h;exact⟨rfl,rfl⟩) F
  |r=>
   refine⟨.r,I,C,?_⟩
   simp only[Di]
   exact B _ _ _ (λx e h=>by obtain⟨rfl,rfl⟩:=h;exact⟨rfl,rfl⟩) F
theorem K1:∀(s:S){e:Env}{Q:X->Env->Prop}(_:wpS K s Q e),∃I G,Q I G/\wpS K s (λx e=>x=I/\e=G) e
 |.skip,e,Q,h=>⟨_,_,h,rfl,rfl⟩
 |.reg O out,e,Q,h=>by simp only[wpS]at h;obtain⟨B,l,o⟩:=UU h;exact⟨_,_,l,Q2 (λe h=>by subst h;exact⟨rfl,rfl⟩) o⟩
 |.seq a b,e,Q,h=>by
  simp only[wpS]at h;obtain⟨C,B,l,o⟩:=K1 a h
  cases C with
  |n=>
   obtain⟨T,J,L,M⟩:=K1 b l
   refine⟨T,J,L,?_⟩
   simp only[wpS]
   exact DJ a (λx e h=>by obtain⟨rfl,rfl⟩:=h;exact M) o
  |ex j=>
   refine⟨.ex j,B,l,?_⟩
   simp only[wpS]
   exact DJ a (λx e h=>by obtain⟨rfl,rfl⟩:=h;exact⟨rfl,rfl⟩) o
  |r=>
   refine⟨.r,B,l,?_⟩
   simp only[wpS]
   exact DJ a (λx e h=>by obtain⟨rfl,rfl⟩:=h;exact⟨rfl,rfl⟩) o
 |.cond n x y,e,Q,h=>by simp only[wpS]at*;split at h;exact K1 x h;exact K1 y h;exact h.elim
 |.block id b,e,Q,h=>by
  simp only[wpS]at h;obtain⟨C,B,l,o⟩:=K1 b h
  cases C with
  |n=>
   refine⟨.n,B,l,?_⟩
   simp only[wpS]
   exact DJ b (λx e h=>by obtain⟨rfl,rfl⟩:=h;exact⟨rfl,rfl⟩) o
  |ex j=>
   simp only at l
   split at l
   .rename_i F
    refine⟨.n,B,l,?_⟩
    simp only[wpS]
    exact DJ b (λx e h=>by obtain⟨rfl,rfl⟩:=h;simp[F]) o
   .rename_i F
    refine⟨.ex j,B,l,?_⟩
    simp only[wpS]
    exact DJ b (λx e h=>by obtain⟨rfl,rfl⟩:=h;simp[F]) o
  |r=>
   refine⟨.r,B,l,?_⟩
   simp only[wpS]
   exact DJ b (λx e h=>by obtain⟨rfl,rfl⟩:=h;exact⟨rfl,rfl⟩) o
 |.loop b,e,Q,h=>by simp only[wpS]at h;obtain⟨n,h⟩:=h;obtain⟨C,B,l,o⟩:=AKS (R:=wpS K b) (λQ U e N h=>DJ b N h) (λQ e h=>K1 b h) n h;exact⟨C,B,l,n,o⟩
 |.exit id,e,Q,h=>⟨_,_,h,rfl,rfl⟩
 |.ret,e,Q,h=>⟨_,_,h,rfl,rfl⟩
theorem AOQ{k:Nat}{f:IF}[h:Has K k f]{ds:List D}{P:List D->Prop}(G:ds.length=f.np)(C:wpS K f.body (Pa f.res P) (ds++List.replicate (f.nv-f.np) .u))(F:∀rs,P rs->Fl f.cl rs=true:=by intros;rfl):∃rs,P rs/\K k ds rs:=by
 obtain⟨x,e,l,B⟩:=K1 _ C;have o:(∀j,x≠.ex j)/\P (f.res.map e.E):=by
  cases x with
  |ex j=>exact l.elim
  |n=>exact⟨by simp,l⟩
  |r=>exact⟨by simp,l⟩
 refine⟨_,o.2,h.h ds _ ⟨⟨G,F _ o.2⟩,DJ _ (λI J h=>?_) B⟩⟩;obtain⟨rfl,rfl⟩:=h
 cases I with
 |ex j=>exact(o.1 j rfl).elim
 |n=>exact⟨trivial,rfl⟩
 |r=>exact⟨trivial,rfl⟩
end
end Go.Cat
namespace Go.Cat
set_option maxRecDepth 10000
theorem vcL:
  (∀{α:Type}{a:α}{h bs:List α},(a::h)++bs=a::(h++bs))/\
  (∀{α:Type}{h:List α},[]++h=h)/\
  (∀{α:Type}{h:List α},h++[]=h)/\
  (∀{α β:Type}{f:α->β}{a:α}{l:List α},List.map f (a::l)=f a::List.map f l)/\
  (∀{α β:Type}{f:α->β},List.map f []=[])/\
  (∀{α:Type}{a b:α}{l:List α},(a::l).set 0 b=b::l)/\
  (∀{α:Type}{a b:α}{l:List α}{n:Nat},(a::l).set (n+1) b=a::l.set n b)/\
  (∀{α:Type}{a:α}{n:Nat},List.replicate (n+1) a=a::List.replicate n a)/\
  (∀{α:Type}{a:α},List.replicate 0 a=[])/\
  (∀{α β:Type}{f:α->Option β}{a:α},(some a).bind f=f a)/\
  (∀{α β:Type}{f:α->β}{a:α},(some a).map f=some (f a))/\
  (∀{α β:Type}{f:α->β},(none:Option α).map f=none)/\
  ((!true)=false)/\((!false)=true)/\(∀{b:Bool},(!!b)=b)/\
  (∀{α:Sort 1}{a b:α},(if True then a else b)=a)/\(∀{α:Sort 1}{a b:α},(if False then a else b)=b)/\
  (∀{b:Bool},(b&&true)=b)/\(∀{b:Bool},(true&&b)=b)/\(∀{b:Bool},(b&&false)=false)/\(∀{b:Bool},(false&&b)=false)/\
  (∀{b:Bool},(b||true)=true)/\(∀{b:Bool},(true||b)=true)/\(∀{b:Bool},(b||false)=b)/\(∀{b:Bool},(false||b)=b)/\
  (∀[Decidable True],decide True=true)/\(∀[Decidable False],decide False=false)/\
  (∀{i:Nat},((i+1:Nat):Int)=(i:Int)+1)/\(((0:Nat):Int)=0)/\
  (∀{p:Prop},(p/\True)=p)/\(∀{p:Prop},(True/\p)=p)/\
  (Pr.nop.np=0)/\(∀{g:Nat}{xs:List A}{r:Nat},(Pr.ca g xs r).np=r):=
 ⟨List.cons_append,List.nil_append _,List.append_nil _,List.map_cons,List.map_nil,List.set_cons_zero,List.set_cons_succ,List.replicate_succ,List.replicate_zero,Option.bind_some _ _,Option.map_some _ _,Option.map_none _,
  rfl,rfl,Bool.not_not _,if_pos trivial,if_neg id,Bool.and_true _,Bool.true_and _,Bool.and_false _,Bool.false_and _,Bool.or_true _,Bool.true_or _,Bool.or_false _,Bool.false_or _,decide_eq_true trivial,decide_eq_false id,Int.natCast_succ _,rfl,and_true _,true_and _,rfl,rfl⟩
theorem vcN:
 (∀{s:Sh}{d:D},(Pr.cs s d).np=1)/\
 (∀{a:A},(Pr.cy a).np=1)/\
 (∀{o:BinOp}{a b:A},(Pr.bi o a b).np=1)/\
 (∀{o:BinOp}{a b:A},(Pr.bb o a b).np=1)/\
 (∀{o:UnOp}{a:A},(Pr.un o a).np=1)/\
 (∀{a b c:A},(Pr.pk a b c).np=1)/\
 (∀{k:IntKind}{a:A},(Pr.cv k a).np=1)/\
 (∀{a:A}{p:List PE},(Pr.ln a p).np=1)/\
 (∀{a:A},(Pr.sn a).np=1)/\
 (∀{a b:A},(Pr.sx a b).np=1)/\
 (∀{a:A}{lo hi:Option A},(Pr.ss a lo hi).np=1)/\
 (∀{a:A}{p:List PE}{b:A},(Pr.ix a p b).np=1)/\
 (∀{n:Nat}{p:List PE}{a:A},(Pr.up n p a).np=1)/\
 (∀{F:Bool}{a:A}{lo hi:Option A},(Pr.sb F a lo hi).np=1)/\
 (∀{fl:Bool}{a b:A},(Pr.ap fl a b).np=1)/\
 (∀{d:D}{a b:A},(Pr.mk d a b).np=1)/\
 (∀{s:Sh}{xs:List A},(Pr.li s xs).np=1)/\
 (∀{a:A},(Pr.bs a).np=1)/\
 (∀{a:A},(Pr.sy a).np=1)/\
 (∀{a b:A},(Pr.mx a b).np=1)/\
 (∀{a b:A},(Pr.mn a b).np=1)/\
 (∀{a b:A},(Pr.iy a b).np=1)/\
 (∀{k:Nat}{xs:List (A×Nat)},(Pr.bg k xs).np=1)/\
 (∀{a:A},(Pr.bp a).np=1)/\
 (∀{a:A}{k:Nat},(Pr.gp a k).np=1)/\
 (∀{w:Bool}{a:A},(Pr.nz w a).np=1)/\
 (∀{a:A},(Pr.nn a).np=1)/\
 (∀{k:Nat}{a:A},(Pr.wl k a).np=1)/\
 (∀{n k:Nat}{a:A},(Pr.ws n k a).np=1)/\
 (∀{a:A}{p:List PE},(Pr.gt a p).np=1)/\
 (∀{fl:Bool}{a:A}{k:Nat},(Pr.fp fl a k).np=1)/\
 (∀{n:Nat}{p:List PE}{a:A}{i k:Nat},(Pr.uq n p a i k).np=1)/\
 (∀{n:Nat},(Pr.cb n).np=1)/\
 (∀{n:Nat}{p:List PE}{a:A}{k:Nat},(Pr.jn n p a k).np=1)/\
 (Pr.mm.np=1)/\
 (∀{n:Nat}{a b:A},(Pr.mu n a b).np=1)/\
 (∀{n:Nat}{a:A}{d:D},(Pr.mg n a d).np=1)/\
 (∀{n:Nat}{a:A}{d:D},(Pr.mo n a d).np=2)/\
 (∀{n:Nat},(Pr.tk n).np=2)/\
 (∀{n k:Nat}{p:List PE},(Pr.sp n p k).np=2)/\
 (∀{n:Nat},(Pr.sw n).np=2):=
 ⟨rfl,rfl,rfl,rfl,rfl,rfl,rfl,rfl,rfl,rfl,rfl,rfl,rfl,rfl,rfl,rfl,rfl,rfl,rfl,rfl,rfl,rfl,rfl,rfl,rfl,rfl,rfl,rfl,rfl,rfl,rfl,rfl,rfl,rfl,rfl,rfl,rfl,rfl,rfl,rfl,rfl⟩
theorem vcO:
 (∀{a b:Int},(a<b)->decide (a<b)=true)/\
 (∀{a b:Int},(b<=a)->decide (a<b)=false)/\
 (∀{a b:Int},(a<=b)->decide (a<=b)=true)/\
 (∀{a b:Int},(b<a)->decide (a<=b)=false)/\
 (∀{a b:Int},(a=b)->decide (a=b)=true)/\
 (∀{a b:Int},(a<b\/b<a)->decide (a=b)=false):=
 ⟨decide_eq_true,λh=>decide_eq_false (by omega),decide_eq_true,λh=>decide_eq_false (by omega),decide_eq_true,λh=>decide_eq_false (by omega)⟩
theorem vc0:type_of% (And.intro @wp_seq <|And.intro @wp_block <|And.intro @wp_skip <|And.intro @wp_exit <|And.intro @wp_ret <|And.intro @AAI <|And.intro @wp_cond <|And.intro @AL4 <|And.intro @ACO <|And.intro @AEI <|And.intro @We <|And.intro @ALT <|And.intro @AAH <|And.intro @Zm <|And.intro @ALE <|And.intro @AFC <|And.intro @XE <|And.intro @Yo <|And.intro @YQ <| @AB7):=And.intro @wp_seq <|And.intro @wp_block <|And.intro @wp_skip <|And.intro @wp_exit <|And.intro @wp_ret <|And.intro @AAI <|And.intro @wp_cond <|And.intro @AL4 <|And.intro @ACO <|And.intro @AEI <|And.intro @We <|And.intro @ALT <|And.intro @AAH <|And.intro @Zm <|And.intro @ALE <|And.intro @AFC <|And.intro @XE <|And.intro @Yo <|And.intro @YQ <| @AB7
theorem vc1:type_of% (And.intro @AJ8 <|And.intro @ADG <|And.intro @ABZ <|And.intro @AKK <|And.intro @AK5 <|And.intro @AH4 <|And.intro @AKU <|And.intro @Zo <|And.intro @AHZ <|And.intro @AGP <|And.intro @Xo <|And.intro @XY <|And.intro @ZD <|And.intro @AGY <|And.intro @W9 <|And.intro @ADZ <|And.intro @X0 <|And.intro @ADN <|And.intro @ABV <| @ABE):=And.intro @AJ8 <|And.intro @ADG <|And.intro @ABZ <|And.intro @AKK <|And.intro @AK5 <|And.intro @AH4 <|And.intro @AKU <|And.intro @Zo <|And.intro @AHZ <|And.intro @AGP <|And.intro @Xo <|And.intro @XY <|And.intro @ZD <|And.intro @AGY <|And.intro @W9 <|And.intro @ADZ <|And.intro @X0 <|And.intro @ADN <|And.intro @ABV <| @ABE
theorem vc2:type_of% (And.intro @AAF <|And.intro @AML <|And.intro @AC6 <|And.intro @AAS <|And.intro @Yq <|And.intro @XS <|And.intro @AEE <|And.intro @ALP <|And.intro @Xu <|And.intro @AJZ <|And.intro @AEY <|And.intro @AJB <|And.intro @AKM <|And.intro @ADY <|And.intro @Yz <|And.intro @ALX <|And.intro @AHK <|And.intro @AI6 <|And.intro @AK7 <| @ABL):=And.intro @AAF <|And.intro @AML <|And.intro @AC6 <|And.intro @AAS <|And.intro @Yq <|And.intro @XS <|And.intro @AEE <|And.intro @ALP <|And.intro @Xu <|And.intro @AJZ <|And.intro @AEY <|And.intro @AJB <|And.intro @AKM <|And.intro @ADY <|And.intro @Yz <|And.intro @ALX <|And.intro @AHK <|And.intro @AI6 <|And.intro @AK7 <| @ABL
theorem vc3:type_of% (And.intro @AGI <|And.intro @AE6 <|And.intro @AJU <|And.intro @AC4 <|And.intro @ANL <|And.intro @ABY <|And.intro @Z5 <|And.intro @AF2 <|And.intro @Zr <|And.intro @AF1 <|And.intro @AHC <|And.intro @ADW <|And.intro @X1 <|And.intro @ALU <|And.intro @AJA <|And.intro @ZB <|And.intro @AMH <|And.intro @ANN <|And.intro @AA4 <| @Wy):=And.intro @AGI <|And.intro @AE6 <|And.intro @AJU <|And.intro @AC4 <|And.intro @ANL <|And.intro @ABY <|And.intro @Z5 <|And.intro @AF2 <|And.intro @Zr <|And.intro @AF1 <|And.intro @AHC <|And.intro @ADW <|And.intro @X1 <|And.intro @ALU <|And.intro @AJA <|And.intro @ZB <|And.intro @AMH <|And.intro @ANN <|And.intro @AA4 <| @Wy
theorem vc4:type_of% (And.intro @AB1 <|And.intro @ZF <|And.intro @ANC <|And.intro @AF6 <|And.intro @AHF <|And.intro @Ze <|And.intro @AKW <|And.intro @ABK <|And.intro @Yv <|And.intro @AG0 <|And.intro @AIV <|And.intro @Xp <|And.intro @ALQ <|And.intro @AKA <|And.intro @ACF <|And.intro @Wx <|And.intro @AKI <|And.intro @AMI <|And.intro @Zg <| @Z1):=And.intro @AB1 <|And.intro @ZF <|And.intro @ANC <|And.intro @AF6 <|And.intro @AHF <|And.intro @Ze <|And.intro @AKW <|And.intro @ABK <|And.intro @Yv <|And.intro @AG0 <|And.intro @AIV <|And.intro @Xp <|And.intro @ALQ <|And.intro @AKA <|And.intro @ACF <|And.intro @Wx <|And.intro @AKI <|And.intro @AMI <|And.intro @Zg <| @Z1
theorem vc5:type_of% (And.intro @ALZ <|And.intro @AB0 <|And.intro @AGJ <|And.intro @ADL <|And.intro @AKR <|And.intro @ANK <|And.intro @XL <|And.intro @AEG <|And.intro @Wg <|And.intro @YI <|And.intro @Xk <|And.intro @AIJ <|And.intro @AH1 <|And.intro @ZH <|And.intro @AAQ <|And.intro @AD3 <|And.intro @Xv <|And.intro @AC3 <|And.intro @AA5 <| @AAX):=And.intro @ALZ <|And.intro @AB0 <|And.intro @AGJ <|And.intro @ADL <|And.intro @AKR <|And.intro @ANK <|And.intro @XL <|And.intro @AEG <|And.intro @Wg <|And.intro @YI <|And.intro @Xk <|And.intro @AIJ <|And.intro @AH1 <|And.intro @ZH <|And.intro @AAQ <|And.intro @AD3 <|And.intro @Xv <|And.intro @AC3 <|And.intro @AA5 <| @AAX
theorem vc6:type_of% (And.intro @AAM <|And.intro @Zp <|And.intro @AEW <|And.intro @Wv <|And.intro @X6 <|And.intro @AMW <|And.intro @AEA <|And.intro @AMF <|And.intro @AM1 <|And.intro @VL <|And.intro @Tb <|And.intro @Uw <|And.intro @W7 <|And.intro @S2 <|And.intro @AID <|And.intro @AHH <|And.intro @AFQ <|And.intro @ADH <|And.intro @AGT <| @ZX):=And.intro @AAM <|And.intro @Zp <|And.intro @AEW <|And.intro @Wv <|And.intro @X6 <|And.intro @AMW <|And.intro @AEA <|And.intro @AMF <|And.intro @AM1 <|And.intro @VL <|And.intro @Tb <|And.intro @Uw <|And.intro @W7 <|And.intro @S2 <|And.intro @AID <|And.intro @AHH <|And.intro @AFQ <|And.intro @ADH <|And.intro @AGT <| @ZX
theorem vc7:type_of% (And.intro @AJS <|And.intro @AAN <|And.intro @YW <|And.intro @AFD <|And.intro @ABJ <|And.intro @AMA <|And.intro @AGH <|And.intro @Xn <|And.intro @AEQ <|And.intro @Ym <|And.intro @ZC <|And.intro @AI3 <|And.intro @wrap_i64 <|And.intro @wrap_u8 <|And.intro @Yp <|And.intro @AHG <|And.intro @AIC <|And.intro @ANV <|And.intro @AKQ <| @ADR):=And.intro @AJS <|And.intro @AAN <|And.intro @YW <|And.intro @AFD <|And.intro @ABJ <|And.intro @AMA <|And.intro @AGH <|And.intro @Xn <|And.intro @AEQ <|And.intro @Ym <|And.intro @ZC <|And.intro @AI3 <|And.intro @wrap_i64 <|And.intro @wrap_u8 <|And.intro @Yp <|And.intro @AHG <|And.intro @AIC <|And.intro @ANV <|And.intro @AKQ <| @ADR
theorem vc8:type_of% (And.intro @AB5 <|And.intro @Y2 <|And.intro @Xc <|And.intro @AEK <|And.intro @AGQ <|And.intro @Z2 <|And.intro @ANP <|And.intro @ABS <|And.intro @AK8 <|And.intro @AJ6 <|And.intro @AMK <|And.intro @AIE <|And.intro @ZI <|And.intro @Wj <|And.intro @ANB <|And.intro @Yk <|And.intro @AB2 <|And.intro @Uj <|And.intro @AJ3 <| @AFM):=And.intro @AB5 <|And.intro @Y2 <|And.intro @Xc <|And.intro @AEK <|And.intro @AGQ <|And.intro @Z2 <|And.intro @ANP <|And.intro @ABS <|And.intro @AK8 <|And.intro @AJ6 <|And.intro @AMK <|And.intro @AIE <|And.intro @ZI <|And.intro @Wj <|And.intro @ANB <|And.intro @Yk <|And.intro @AB2 <|And.intro @Uj <|And.intro @AJ3 <| @AFM
theorem vc9:type_of% (And.intro @YJ <|And.intro @AIM <|And.intro @AJ0 <|And.intro @AFI <|And.intro @Y7 <|And.intro @AM3 <|And.intro @AL6 <|And.intro @ALW <|And.intro @ACC <|And.intro @ACA <|And.intro @AE3 <|And.intro @AM9 <|And.intro @AF8 <|And.intro @AEZ <|And.intro @SP <|And.intro @AFK <|And.intro @ACW <|And.intro @ADE <|And.intro @XW <| @ZU):=And.intro @YJ <|And.intro @AIM <|And.intro @AJ0 <|And.intro @AFI <|And.intro @Y7 <|And.intro @AM3 <|And.intro @AL6 <|And.intro @ALW <|And.intro @ACC <|And.intro @ACA <|And.intro @AE3 <|And.intro @AM9 <|And.intro @AF8 <|And.intro @AEZ <|And.intro @SP <|And.intro @AFK <|And.intro @ACW <|And.intro @ADE <|And.intro @XW <| @ZU
theorem AE1:type_of% (And.intro @AER <|And.intro @AC8 <|And.intro @AC5 <|And.intro @AM8 <|And.intro @TQ <|And.intro @Vd <|And.intro @muI <|And.intro @muS <|And.intro @AIK <|And.intro @AHO <|And.intro @mgI <|And.intro @mgS <|And.intro @moI <|And.intro @moS <|And.intro @AES <|And.intro @AH3 <|And.intro @AFB <|And.intro @Sy <|And.intro @AFE <| @ANJ):=And.intro @AER <|And.intro @AC8 <|And.intro @AC5 <|And.intro @AM8 <|And.intro @TQ <|And.intro @Vd <|And.intro @muI <|And.intro @muS <|And.intro @AIK <|And.intro @AHO <|And.intro @mgI <|And.intro @mgS <|And.intro @moI <|And.intro @moS <|And.intro @AES <|And.intro @AH3 <|And.intro @AFB <|And.intro @Sy <|And.intro @AFE <| @ANJ
theorem AF7:type_of% (And.intro @Y5 <|And.intro @Yy <|And.intro @Zf <|And.intro @AIZ <|And.intro @N5 <|And.intro @Mk <|And.intro @Uy <|And.intro @Zx <|And.intro @AGU <|And.intro @Zq <|And.intro @ACB <|And.intro @AL2 <|And.intro @Ye <|And.intro @ALM <|And.intro @ABX <|And.intro @ALV <|And.intro @ACQ <|And.intro @XH <|And.intro @ANM <| @AIU):=And.intro @Y5 <|And.intro @Yy <|And.intro @Zf <|And.intro @AIZ <|And.intro @N5 <|And.intro @Mk <|And.intro @Uy <|And.intro @Zx <|And.intro @AGU <|And.intro @Zq <|And.intro @ACB <|And.intro @AL2 <|And.intro @Ye <|And.intro @ALM <|And.intro @ABX <|And.intro @ALV <|And.intro @ACQ <|And.intro @XH <|And.intro @ANM <| @AIU
theorem AMD:type_of% (And.intro @ACL <|And.intro @Pw <|And.intro @AJ4 <|And.intro @AG8 <|And.intro @AEB <|And.intro @AK0 <|And.intro @AJF <|And.intro @ADC <|And.intro @AAR <|And.intro @AII <|And.intro @XT <|And.intro @XR <|And.intro @Yj <|And.intro @ALS <|And.intro @ALL <|And.intro @Zn <|And.intro @AFU <|And.intro @AKT <|And.intro @AIP <| @KU):=And.intro @ACL <|And.intro @Pw <|And.intro @AJ4 <|And.intro @AG8 <|And.intro @AEB <|And.intro @AK0 <|And.intro @AJF <|And.intro @ADC <|And.intro @AAR <|And.intro @AII <|And.intro @XT <|And.intro @XR <|And.intro @Yj <|And.intro @ALS <|And.intro @ALL <|And.intro @Zn <|And.intro @AFU <|And.intro @AKT <|And.intro @AIP <| @KU
theorem AIL:type_of% (And.intro @ALC <|And.intro @AD8 <|And.intro @HI <|And.intro @ANO <|And.intro @AFF <|And.intro @Y0 <|And.intro @AED <|And.intro @X2 <|And.intro @Zh <|And.intro @Zv <|And.intro @Ou <|And.intro @T4 <|And.intro @Vu <|And.intro @ADS <|And.intro @XD <|And.intro @XF <|And.intro @M5 <|And.intro @ND <|And.intro @DD <| @NR):=And.intro @ALC <|And.intro @AD8 <|And.intro @HI <|And.intro @ANO <|And.intro @AFF <|And.intro @Y0 <|And.intro @AED <|And.intro @X2 <|And.intro @Zh <|And.intro @Zv <|And.intro @Ou <|And.intro @T4 <|And.intro @Vu <|And.intro @ADS <|And.intro @XD <|And.intro @XF <|And.intro @M5 <|And.intro @ND <|And.intro @DD <| @NR
theorem ALD:type_of% (And.intro @Fy <|And.intro @VF <|And.intro @LO <|And.intro @J0 <|And.intro @YP <|And.intro @AH9 <|And.intro @AHV <|And.intro @ACY <|And.intro @Yg <| @Xs):=And.intro @Fy <|And.intro @VF <|And.intro @LO <|And.intro @J0 <|And.intro @YP <|And.intro @AH9 <|And.intro @AHV <|And.intro @ACY <|And.intro @Yg <| @Xs
theorem vc:type_of% (And.intro vcL <|And.intro vcN <|And.intro vc0 <|And.intro vc1 <|And.intro vc2 <|And.intro vc3 <|And.intro vc4 <|And.intro vc5 <|And.intro vc6 <|And.intro vc7 <|And.intro vc8 <|And.intro vc9 <|And.intro AE1 <|And.intro AF7 <|And.intro AMD <|And.intro AIL <|ALD):=And.intro vcL <|And.intro vcN <|And.intro vc0 <|And.intro vc1 <|And.intro vc2 <|And.intro vc3 <|And.intro vc4 <|And.intro vc5 <|And.intro vc6 <|And.intro vc7 <|And.intro vc8 <|And.intro vc9 <|And.intro AE1 <|And.intro AF7 <|And.intro AMD <|And.intro AIL <|ALD
theorem AD:type_of% (And.intro vc vcO):=And.intro vc vcO
end Go.Cat
namespace Go.Cat
theorem dV{p:Prop}(h:p:=by first|omega|(simp only[vl];omega)):p:=h
theorem wW{p q:Prop}(h:q)(e:p=q:=by simp(disch:=first|omega|simp only[vl];omega) only[AD];rfl):p:=e▸h
theorem wZ{p:Prop}(h:p:=by simp(disch:=first|omega|simp only[vl];omega) only[AD]<;>rfl):p:=h
section
variable{K:Nat->List D->List D->Prop}{g:Nat}{ds:List D}{r:Nat}{e:Env}{Q:Env->Prop}{rs:List D}{q:Prop}
theorem cW(h:K g ds rs)(o:q)(l:rs.length=r:=by rfl)(c:Q (e++rs)=q:=by simp(disch:=first|omega|simp only[vl];omega) only[AD];rfl):L5 K g ds r e Q:=⟨rs,h,l,c▸o⟩
theorem cZ(h:K g ds rs)(l:rs.length=r:=by rfl)(o:Q (e++rs):=by simp(disch:=first|omega|simp only[vl];omega) only[AD]<;>rfl):L5 K g ds r e Q:=⟨rs,h,l,o⟩
theorem cB(h:K g ds rs)(o:Q (e++rs))(l:rs.length=r:=by rfl):L5 K g ds r e Q:=⟨rs,h,l,o⟩
end
end Go.Cat
namespace Go.Cat
class HasV(K:Nat->List D->List D->Prop)(k:Nat)(f:IF):Prop where
 h:∀ds rs,Body K f ds rs->K k ds rs
theorem AeC{K:Nat->List D->List D->Prop}{k:Nat}{f:IF}[h:HasV K k f]{ds rs:List D}(B:ds.length=f.np)(l:wpS K f.body (Jh f.res rs) (ds++List.replicate (f.nv-f.np) .u))(o:Fl f.cl rs=true:=by rfl):K k ds rs:=
 haveI:Has K k f:=⟨h.h⟩
 ABF (f:=f) B l o
end Go.Cat
namespace Go.Cat
open Go.ChangeShapes Go.WideShapes Go.ChangeAt Go.RowKit
section
variable{H:Type}{enc:TypeId×Value->H}{P:Program}
theorem AZR{f:Func}{s:ChangeSpec}{apart fresh h again:Bool}{W I:World}{args:Array Value}{v:Value}{ds gs:List (DataW H)}{before L pv:List MemPlace}
  (M:DataW.Whole enc P f.params.toList s.vars apart W args.toList ds gs before)
  (G:∀(b:Nat)(sp:Nat->Bool)(hd:Bool),DataW.TrodAll enc P I b sp hd f.resultTypes.toList (v.resultList f.resultTypes.size) (s.fn H (ds++gs)).results [])
  (l:∀sp:Nat->Bool,(∀p∈before,sp p.block=true)->DataW.TrodAll enc P I 0 sp true f.params.toList args.toList (s.fn H (ds++gs)).args L)
  (o:∀sp:Nat->Bool,(∀p∈before,sp p.block=true)->DataW.TrodVars enc P I sp s.vars (s.fn H (ds++gs)).vars pv)
  (C:before=L++pv) (R:Below W.heap.size W I)
  (O:∀(j:Nat)(t:TypeId)(r:Value),f.resultTypes[j]?=some t->(v.resultList f.resultTypes.size)[j]?=some r->Value.okWide P I .any 0 t r):
  s.post enc P f apart fresh h again W args v I:=by
 have F:∀p∈before,(λb=>decide (b<W.heap.size)) p.block=true:=λp B=>by simpa using M.lt p B
 have N:=M.lt;refine⟨ds,gs,before,[],L,pv,M,G _ _ _,l _ F,o _ F,World.keptBut_mono (λp B=>⟨B,?_⟩) (R.frame (·∈before)),λ_=>?_⟩
 .rw[C,Ac]at B;exact Or.inr B
 .obtain⟨_,_,_,_,_,V,U⟩:=M;refine⟨O,_,_,([]++L)++pv,⟨[]++L,pv,trodAll_append (l _ (λ_ _=>rfl)) (G _ _ _),o _ (λ_ _=>rfl),rfl,?_,?_⟩,?_⟩
  .intro b off B;have J:MemPlace.cell b off∈before:=by rw[C];simpa using B
   rw[R.frozen (p:=⟨b,off,none⟩) (by simpa[MemPlace.block]using N _ J)];exact V b off J
  .intro T;have:=U T;rw[C]at this;simpa using this
  .intro p B _;rw[C];simpa using B
end
theorem AV3{P:Program}{fid:Nat->Nat}{f:FuncId}{ps:List Sh}{ds:List D}(h:G5 P fid f ⟨ps,[.v],[],none⟩ ds [.b true]){w:World}{args:List Value}
  (I:BO (AE fid w.heap (·∈[]) (λ_=>False)) ps ds args []):Calls P f args.toArray w λe w'=>e=.returned (.bool true)/\Below w.heap.size w w':=by
 refine(h w (λ_=>False) args [] (by simp) (by simp) I trivial).mono ?_;rintro e w' ⟨v,vs,M,rfl,B,_,o,C,F,G,_,_,l⟩;simp only[Sg.outs,List.map_nil,List.append_nil]at l;refine⟨?_,C,F,G,o.size,λk J=>o.same k J (by simp)⟩;match vs,l with
 |[x],l=>
  simp only[BO,AE,Rd]at l
  obtain⟨B1,B2,rfl,⟨_,L⟩,_⟩:=l
  simp only[Ip]at B
  rw[B,L]
theorem APC{P:Program}{tab:List Row}{k:Nat}{r:Row}{ds:List D}(h:KS P tab k ds [.b true])(G:rowOf tab k=some r)(F:r.s.qs=[.v])(o:r.s.io=[])(l:r.s.fb=none):G5 P (GL tab) r.f ⟨r.s.ps,[.v],[],none⟩ ds [.b true]:=by
 obtain⟨R,B,C⟩:=h;rw[G]at B
 cases B;rw[<-F,<-o,<-l];exact C
end Go.Cat
namespace Go.Cat
open Go.ChangeShapes Go.WideShapes Go.ChangeAt Go.RowKit
section
variable{H:Type}{enc:TypeId×Value->H}{P:Program}
theorem AMR(F:laidOutB P=true){W B:World}(C:Below W.heap.size W B){sp:Nat->Bool}:∀{ts:List TypeId}{vs:List Value}{ds:List (DataW H)}{ps:List MemPlace},
  (∀t∈ts,P.readableRec t=true/\t<P.types.size)->DataW.TrodAll enc P W 0 (λ_=>true) true ts vs ds ps->(∀p∈ps,sp p.block=true)->(∀p∈ps,p.block<W.heap.size)->DataW.TrodAll enc P B 0 sp true ts vs ds ps
 |[],vs,ds,ps=>λ_ h _ _=>by obtain⟨rfl,rfl,rfl⟩:=trodAll_nil h;exact trodAll_mk0
 |t::ts,vs,ds,ps=>λG h I o=>by obtain⟨v,V,d,J,p,q,rfl,rfl,rfl,L,M⟩:=trodAll_cons h;refine trodAll_cons_mk ?_ (AMR F C (λu N=>G u (BL _ N)) M (λx l=>I x (BB _ l)) λx l=>o x (BB _ l));obtain⟨R,O⟩:=G t (List.mem_cons_self ..);exact WideElems.Trod_stays F R O L (λx l=>C.same (o x (BN _ l))) λx l=>I x (BN _ l)
theorem AUK{W:World}{base:Nat}{t e:TypeId}{k:IntKind}{v:Value}{d:DataW H}{ps:List MemPlace}(N:P.underlying t=some (.slice e))(he:P.underlying e=some (.int k))(hc:P.cellsOf e=1)
  (F:Value.okWide P W .any base t v) (h:DataW.Trod enc P W 0 (λ_=>true) true t v d ps):
  ∃zs:List Int,(∀z∈zs,(Lit.int k z).wf=true)/\∀(fid:Nat->Nat)(Z:Nat->Prop),(∀b,¬Z b)->Rd fid W.heap Z (.l (zs.map (D.i k))) v:=by
 obtain⟨fuel,hf⟩:=h;have hv:=F;simp only[Value.okWide,N,Cell.okWide]at hv;obtain⟨a,len,cap,rfl⟩:=okWide_slice N F;have T:(Value.slice a len cap).cells.toList=[.slice a len cap]:=rfl;rw[T]at hf;rcases open_ints N he hc hf with⟨G,_⟩|⟨C,len',cap',zs,G,_,Y,hm,M,_,I,hwf⟩
 .injection G with G _;refine⟨[],by simp,λfid Z _=>?_⟩;simp only[List.map_nil,Rd];exact .inl ⟨trivial,_,G⟩
 .injection G with G _;injection G with e1 e2 e3;subst e1 e2 e3;have hlen':zs.length=cap:=by simpa using M
  simp only[Cell.ok,N]at hv;obtain⟨_,_,_,B,row,cells,L,_⟩:=hv;refine⟨zs.take len,λz hz=>hwf z (List.mem_of_mem_take hz),λfid Z hZ=>?_⟩;simp only[Rd];right;unfold World.shape? at L;split at L
  .rename_i cs e' fz R;have ha:C=⟨C.block,C.off,none⟩:=by cases C;simp only at B;rw[B]
   refine⟨C.block,C.off,cap,cs,e',fz,?_,R,hZ _,?_,?_⟩
   .have J:((zs.take len).map (D.i k)).length=len:=by simp;omega
    rw[J,<-ha]
   .have key:∀(n o:Nat)(l:List Int),(∀i,i<l.length->cs[o+i]?=some (.int k (l.getD i 0)))->AP fid W.heap Z (l.map (D.i k)) (cs.toList.drop o):=by
     intro n o l
     induction l generalizing o with
     |nil=>intro _;simp[AP]
     |cons z l ih=>
      intro hl
      have h0:=hl 0 (by simp)
      simp only[Nat.add_zero,List.getD_cons_zero]at h0
      have:cs.toList.drop o=.int k z::cs.toList.drop (o+1):=by
       rw[List.drop_eq_getElem_cons (by have:=(Array.getElem?_eq_some_iff.1 h0).1;simpa using this)]
       congr 1
       have:=(Array.getElem?_eq_some_iff.1 h0).2
       simpa using this
      rw[this]
      simp only[List.map_cons,AP,Rd]
      refine⟨trivial,ih (o+1) λi hi=>?_⟩
      have:=hl (i+1) (by simpa using hi)
      simpa[Nat.add_assoc,Nat.add_comm 1 i]using this
    refine key 0 C.off (zs.take len) λi hi=>?_
    have U:i<zs.length:=by simp at hi;omega
    have O:=I i U
    have h6:cs[C.off+i]?=some (.int k (zs.getD i 0)):=by
     rw[ha]at O
     cases i with
     |zero=>simpa[World.cell?,Addr.add,R]using O
     |succ i=>simpa[World.cell?,Addr.add,R]using O
    rw[h6]
    have V:i<len:=by simp at hi;omega
    simp[Ap,V]
   .unfold maxLen at hm;have J:((zs.take len).map (D.i k)).length=len:=by simp;omega
    rw[J];exact⟨Y,by omega⟩
  .cases L
theorem APB{W:World}{base:Nat}{t e:TypeId}{v:Value}{d:DataW H}{ps:List MemPlace}(J:P.underlying t=some (.slice e))(he:P.underlying e=some (.int .u8))(C:P.cellsOf e=1)
  (o:Value.okWide P W .any base t v) (h:DataW.Trod enc P W 0 (λ_=>true) true t v d ps):
  ∃bs:List Nat,(∀c∈bs,c<256)/\∀(fid:Nat->Nat)(Z:Nat->Prop),(∀b,¬Z b)->Rd fid W.heap Z (LB bs) v:=by
 obtain⟨zs,F,G⟩:=AUK J he C o h;have B:∀z∈zs,0<=z/\z<256:=by intro z B;have:=F z B;simp[Lit.wf,IntKind.min,IntKind.max,IntKind.bits,IntKind.signed]at this;omega
 refine⟨zs.map Int.toNat,?_,λfid Z I=>?_⟩
 .intro c C;obtain⟨z,q,rfl⟩:=List.mem_map.1 C;have:=B z q;omega
 .have e:LB (zs.map Int.toNat)=.l (zs.map (D.i .u8)):=by
   simp only[LB,List.map_map]
   congr 1
   refine List.map_congr_left λz q=>?_
   have:=B z q
   show D.i .u8 ((z.toNat:Nat):Int)=D.i .u8 z
   rw[Int.toNat_of_nonneg this.1]
  rw[e];exact G fid Z I
end
theorem AaK{fid:Nat->Nat}{h:Array Obj}{ps:List Sh}{ds:List D}{vs:List Value}{d:D}{v:Value}(l:Rd fid h (λb=>b∈([]:List Nat)\/False) d v)
  (o:BO (AE fid h (·∈([]:List Nat)) (λ_=>False)) ps ds vs []):BO (AE fid h (·∈([]:List Nat)) (λ_=>False)) (.v::ps) (d::ds) (v::vs) []:=by simp only[BO];exact⟨[],[],rfl,by simp only[AE];exact⟨trivial,l⟩,o⟩
theorem AON{fid:Nat->Nat}{h:Array Obj}:BO (AE fid h (·∈([]:List Nat)) (λ_=>False)) [] [] [] []:=rfl
end Go.Cat
