/-
 How a body is walked through: one statement behind the other; what comes later stays closed until it is reached.
-/
import Derived.Test.YthoilpmggmenbaaGreatCatThree
import Derived.WalkKit
import Derived.ProofKit
import Derived.OpenShut
import Derived.Below
import Derived.Carry
import Derived.ChangeSlices
import Derived.ChangeMaps5
import Derived.SliceStrings
set_option linter.unusedSimpArgs false
set_option linter.unusedVariables false
namespace Go.Cat
section
variable(K:Nat->List D->List D->Prop)
def TX(b:S)(Q:X->Env->Prop):X->Env->Prop
 |.n,e=>wpS K b Q e
 |.ex j,e=>Q (.ex j) e
 |.r,e=>Q .r e
def TS(id:Nat)(Q:X->Env->Prop):X->Env->Prop
 |.n,e=>Q .n e
 |.ex j,e=>if j=id then Q .n e else Q (.ex j) e
 |.r,e=>Q .r e
def ASR(out:List (Option Nat))(Q:X->Env->Prop):Env->Prop:=λe=>Q .n (EL out e)
def AF8(r:List It)(Q:Env->Prop):Env->Prop:=λe=>Ej K r e Q
def CS(e:Env)(Q:Env->Prop):Option D->Prop
 |some d=>Q (e++[d])
 |none=>False
def Xe(x y:S)(Q:X->Env->Prop)(e:Env):D->Prop
 |.b true=>wpS K x Q e
 |.b false=>wpS K y Q e
 |_=>False
def OH(g:Nat)(ds:List D)(r:Nat)(e:Env)(Q:Env->Prop):Prop:=∃rs:List D,K g ds rs/\rs.length=r/\Q (e++rs)
def MB(res:List Nat)(rs:List D):X->Env->Prop
 |.ex _,_=>False
 |.n,e=>rs=res.map e.E
 |.r,e=>rs=res.map e.E
def Sl(res:List Nat)(P:List D->Prop):X->Env->Prop
 |.ex _,_=>False
 |.n,e=>P (res.map e.E)
 |.r,e=>P (res.map e.E)
variable{K}
theorem AN6{res:List Nat}{P:List D->Prop}{e:Env}:Sl res P .n e=P (res.map e.E):=rfl
theorem AFH{res:List Nat}{P:List D->Prop}{e:Env}:Sl res P .r e=P (res.map e.E):=rfl
theorem wp_seq{a b:S}{Q:X->Env->Prop}{e:Env}:wpS K (.seq a b) Q e=wpS K a (TX K b Q) e:=by simp only[wpS];congr 1;funext x e;cases x<;>rfl
theorem wp_block{id:Nat}{b:S}{Q:X->Env->Prop}{e:Env}:wpS K (.block id b) Q e=wpS K b (TS id Q) e:=by simp only[wpS];congr 1;funext x e;cases x<;>rfl
theorem wp_skip{Q:X->Env->Prop}{e:Env}:wpS K .skip Q e=Q .n e:=rfl
theorem wp_exit{id:Nat}{Q:X->Env->Prop}{e:Env}:wpS K (.exit id) Q e=Q (.ex id) e:=rfl
theorem wp_ret{Q:X->Env->Prop}{e:Env}:wpS K .ret Q e=Q .r e:=rfl
theorem ARB{I:List It}{out:List (Option Nat)}{Q:X->Env->Prop}{e:Env}:wpS K (.reg I out) Q e=Ej K I e (ASR out Q):=rfl
theorem wp_cond{n:Nat}{x y:S}{Q:X->Env->Prop}{e:Env}:wpS K (.cond n x y) Q e=Xe K x y Q (e.set n .u) (e.E n):=by
 simp only[wpS]
 cases e.E n<;>try rfl
theorem ASN{b:S}{Q:X->Env->Prop}{e:Env}:TX K b Q .n e=wpS K b Q e:=rfl
theorem ALG{b:S}{Q:X->Env->Prop}{e:Env}{j:Nat}:TX K b Q (.ex j) e=Q (.ex j) e:=rfl
theorem APA{b:S}{Q:X->Env->Prop}{e:Env}:TX K b Q .r e=Q .r e:=rfl
theorem AB8{id:Nat}{Q:X->Env->Prop}{e:Env}:TS id Q .n e=Q .n e:=rfl
theorem AS9{id:Nat}{Q:X->Env->Prop}{e:Env}{j:Nat}:TS id Q (.ex j) e=if j=id then Q .n e else Q (.ex j) e:=rfl
theorem AMX{id:Nat}{Q:X->Env->Prop}{e:Env}:TS id Q .r e=Q .r e:=rfl
theorem AF5{out:List (Option Nat)}{Q:X->Env->Prop}{e:Env}:ASR out Q e=Q .n (EL out e):=rfl
theorem APS{r:List It}{Q:Env->Prop}{e:Env}:AF8 K r Q e=Ej K r e Q:=rfl
theorem AF0{e:Env}{Q:Env->Prop}{d:D}:CS e Q (some d)=Q (e++[d]):=rfl
theorem ACB{x y:S}{Q:X->Env->Prop}{e:Env}:Xe K x y Q e (.b true)=wpS K x Q e:=rfl
theorem AMC{x y:S}{Q:X->Env->Prop}{e:Env}:Xe K x y Q e (.b false)=wpS K y Q e:=rfl
theorem AKK{res:List Nat}{rs:List D}{e:Env}:MB res rs .n e=(rs=res.map e.E):=rfl
theorem AAF{res:List Nat}{rs:List D}{e:Env}:MB res rs .r e=(rs=res.map e.E):=rfl
theorem ACL{e:Env}{Q:Env->Prop}:Ej K [] e Q=Q e:=rfl
theorem ANL{it:It}{r:List It}{e:Env}{Q:Env->Prop}:Ej K (it::r) e Q=I0 K it e (AF8 K r Q):=rfl
def gdQ(z:List (Option Nat))(p:Pr)(e:Env)(Q:Env->Prop):Option Bool->Prop
 |some true=>Ae K p e Q
 |some false=>Q (e++DE e.E z p.np)
 |none=>False
theorem AEE{z:List (Option Nat)}{g:Gd}{p:Pr}{e:Env}{Q:Env->Prop}:I0 K ⟨z,g,p⟩ e Q=gdQ (K:=K) z p e Q (Cs e.E g):=by simp only[I0];split<;>rename_i h<;>simp only[h]<;>rfl
theorem Zr{z:List (Option Nat)}{p:Pr}{e:Env}{Q:Env->Prop}:gdQ (K:=K) z p e Q (some true)=Ae K p e Q:=rfl
theorem AQI{z:List (Option Nat)}{p:Pr}{e:Env}{Q:Env->Prop}:gdQ (K:=K) z p e Q (some false)=Q (e++DE e.E z p.np):=rfl
theorem AI2{E:Nat->D}{n:Nat}:DE E [] n=List.replicate n .u:=Xa n
theorem AOV{E:Nat->D}{m:Nat}{z:List (Option Nat)}{n:Nat}:DE E (some m::z) (n+1)=E m::DE E z n:=rfl
theorem ARV{E:Nat->D}{z:List (Option Nat)}{n:Nat}:DE E (none::z) (n+1)=.u::DE E z n:=rfl
theorem ALA{E:Nat->D}:Cs E []=some true:=rfl
def PC(w:Bool)(r:Option Bool):D->Option Bool
 |.b x=>if x=w then r else some false
 |_=>none
theorem ATQ{E:Nat->D}{n:Nat}{w:Bool}{r:Gd}:Cs E ((n,w)::r)=PC w (Cs E r) (E n):=rfl
theorem AEX{r:Option Bool}:PC true r (.b true)=r:=rfl
theorem ACZ{r:Option Bool}:PC false r (.b false)=r:=rfl
theorem AC8{r:Option Bool}:PC true r (.b false)=some false:=rfl
theorem AGZ{r:Option Bool}:PC false r (.b true)=some false:=rfl
theorem APB{e:Env}{Q:Env->Prop}:Ae K .nop e Q=Q e:=rfl
theorem AH9{g:Nat}{xs:List A}{r:Nat}{e:Env}{Q:Env->Prop}:Ae K (.ca g xs r) e Q=OH K g (xs.map (ev e.E)) r e Q:=rfl
def fnQ(g:Nat)(P:Prop)(d:D):Prop:=d=.f g []/\P
theorem AKV{g:Nat}{P:Prop}:fnQ g P (.f g [])=P:=by simp[fnQ]
theorem AQ9{f:A}{g:Nat}{xs:List A}{r:Nat}{e:Env}{Q:Env->Prop}:Ae K (.cd f g xs r) e Q=fnQ g (OH K g (xs.map (ev e.E)) r e Q) (ev e.E f):=rfl
def tkQ(e:Env)(Q:Env->Prop):D->Prop
 |.g [d]=>Q (e++[d,.g [.u]])
 |_=>False
theorem AKH{e:Env}{Q:Env->Prop}{d:D}:tkQ e Q (.g [d])=Q (e++[d,.g [.u]]):=rfl
theorem AS1{n:Nat}{e:Env}{Q:Env->Prop}:Ae K (.tk n) e Q=tkQ e Q (e.E n):=by simp only[Ae,Le,tkQ];split<;>rename_i h<;>split at h<;>simp_all
def LM(e:Env)(Q:Env->Prop):Option (D×D)->Prop
 |some d=>Q (e++[d.1,d.2])
 |none=>False
theorem AP5{e:Env}{Q:Env->Prop}{x y:D}:LM e Q (some (x,y))=Q (e++[x,y]):=rfl
theorem AQN{n k:Nat}{p:List PE}{e:Env}{Q:Env->Prop}:Ae K (.sp n p k) e Q=LM e Q (JL k (e.E n) (p.mapM (PE.ev e.E))):=by simp only[Ae,LM];split<;>rename_i h<;>simp only[h]
theorem AHY{n:Nat}{e:Env}{Q:Env->Prop}:Ae K (.sw n) e Q=LM e Q (NR (e.E n)):=by simp only[Ae,LM];split<;>rename_i h<;>simp only[h]
theorem AJ1{n:Nat}{a:A}{d:D}{e:Env}{Q:Env->Prop}:Ae K (.mo n a d) e Q=LM e Q (Il d (e.E n) (ev e.E a)):=by simp only[Ae,LM];split<;>rename_i h<;>simp only[h]
theorem ATL{e:Env}{Q:Env->Prop}:Ae K .mm e Q=CS e Q (A4 e.E .mm):=by simp only[Ae];split<;>rename_i h<;>simp only[h]<;>rfl
theorem Zz{e:Env}{Q:Env->Prop}(n:Nat)(a b:A):Ae K (.mu n a b) e Q=CS e Q (A4 e.E (.mu n a b)):=by simp only[Ae];split<;>rename_i h<;>simp only[h]<;>rfl
theorem ADR{e:Env}{Q:Env->Prop}(n:Nat)(a:A)(d:D):Ae K (.mg n a d) e Q=CS e Q (A4 e.E (.mg n a d)):=by simp only[Ae];split<;>rename_i h<;>simp only[h]<;>rfl
theorem AGA{xs:List D}:NR (.g xs)=some (.g xs,.g (List.replicate xs.length .u)):=rfl
theorem AE2{k i:Nat}{xs:List D}:JL k (.g xs) (some [i])=xs[i]?.bind λx=>if C0 k x=true then some (x,.g (xs.set i .u))else none:=by
 simp only[JL,Option.bind_some,Aq,Ax]
 cases xs[i]? with
 |none=>rfl
 |some x=>rfl
theorem AK3{e:Env}{Q:Env->Prop}(n:Nat)(p:List PE)(a:A)(k:Nat):Ae K (.jn n p a k) e Q=CS e Q (A4 e.E (.jn n p a k)):=by simp only[Ae];split<;>rename_i h<;>simp only[h]<;>rfl
def L6(is:Option (List Nat))(d x:D)(k:Nat):Option D:=if(x.one&&C0 k x)=true then is.bind λis=>Ax is d x else none
theorem AHP{e:Env}{Q:Env->Prop}(s:Sh)(d:D):Ae K (.cs s d) e Q=CS e Q (A4 e.E (.cs s d)):=by simp only[Ae];split<;>rename_i h<;>simp only[h]<;>rfl
theorem AHN{e:Env}{Q:Env->Prop}(a:A):Ae K (.cy a) e Q=CS e Q (A4 e.E (.cy a)):=by simp only[Ae];split<;>rename_i h<;>simp only[h]<;>rfl
theorem AP3{e:Env}{Q:Env->Prop}(o:BinOp)(a b:A):Ae K (.bi o a b) e Q=CS e Q (A4 e.E (.bi o a b)):=by simp only[Ae];split<;>rename_i h<;>simp only[h]<;>rfl
theorem ACV{e:Env}{Q:Env->Prop}(o:BinOp)(a b:A):Ae K (.bb o a b) e Q=CS e Q (A4 e.E (.bb o a b)):=by simp only[Ae];split<;>rename_i h<;>simp only[h]<;>rfl
theorem AHB{e:Env}{Q:Env->Prop}(o:UnOp)(a:A):Ae K (.un o a) e Q=CS e Q (A4 e.E (.un o a)):=by simp only[Ae];split<;>rename_i h<;>simp only[h]<;>rfl
theorem AAO{e:Env}{Q:Env->Prop}(a b c:A):Ae K (.pk a b c) e Q=CS e Q (A4 e.E (.pk a b c)):=by simp only[Ae];split<;>rename_i h<;>simp only[h]<;>rfl
theorem ARP{e:Env}{Q:Env->Prop}(k:IntKind)(a:A):Ae K (.cv k a) e Q=CS e Q (A4 e.E (.cv k a)):=by simp only[Ae];split<;>rename_i h<;>simp only[h]<;>rfl
theorem APG{e:Env}{Q:Env->Prop}(a:A)(p:List PE):Ae K (.ln a p) e Q=CS e Q (A4 e.E (.ln a p)):=by simp only[Ae];split<;>rename_i h<;>simp only[h]<;>rfl
theorem AFM{e:Env}{Q:Env->Prop}(a:A):Ae K (.sn a) e Q=CS e Q (A4 e.E (.sn a)):=by simp only[Ae];split<;>rename_i h<;>simp only[h]<;>rfl
theorem AQ2{e:Env}{Q:Env->Prop}(a i:A):Ae K (.sx a i) e Q=CS e Q (A4 e.E (.sx a i)):=by simp only[Ae];split<;>rename_i h<;>simp only[h]<;>rfl
theorem AFX{e:Env}{Q:Env->Prop}(a:A)(lo hi:Option A):Ae K (.ss a lo hi) e Q=CS e Q (A4 e.E (.ss a lo hi)):=by simp only[Ae];split<;>rename_i h<;>simp only[h]<;>rfl
theorem AED{e:Env}{Q:Env->Prop}(a:A)(p:List PE)(i:A):Ae K (.ix a p i) e Q=CS e Q (A4 e.E (.ix a p i)):=by simp only[Ae];split<;>rename_i h<;>simp only[h]<;>rfl
theorem AJJ{e:Env}{Q:Env->Prop}(n:Nat)(p:List PE)(a:A):Ae K (.up n p a) e Q=CS e Q (A4 e.E (.up n p a)):=by simp only[Ae];split<;>rename_i h<;>simp only[h]<;>rfl
theorem ALU{e:Env}{Q:Env->Prop}(F:Bool)(a:A)(lo hi:Option A):Ae K (.sb F a lo hi) e Q=CS e Q (A4 e.E (.sb F a lo hi)):=by simp only[Ae];split<;>rename_i h<;>simp only[h]<;>rfl
theorem ANT{e:Env}{Q:Env->Prop}(fl:Bool)(a b:A):Ae K (.ap fl a b) e Q=CS e Q (A4 e.E (.ap fl a b)):=by simp only[Ae];split<;>rename_i h<;>simp only[h]<;>rfl
theorem ASD{e:Env}{Q:Env->Prop}(d:D)(n c:A):Ae K (.mk d n c) e Q=CS e Q (A4 e.E (.mk d n c)):=by simp only[Ae];split<;>rename_i h<;>simp only[h]<;>rfl
theorem AG8{e:Env}{Q:Env->Prop}(s:Sh)(xs:List A):Ae K (.li s xs) e Q=CS e Q (A4 e.E (.li s xs)):=by simp only[Ae];split<;>rename_i h<;>simp only[h]<;>rfl
theorem AP8{e:Env}{Q:Env->Prop}(a:A):Ae K (.bs a) e Q=CS e Q (A4 e.E (.bs a)):=by simp only[Ae];split<;>rename_i h<;>simp only[h]<;>rfl
theorem AJ3{e:Env}{Q:Env->Prop}(a:A):Ae K (.sy a) e Q=CS e Q (A4 e.E (.sy a)):=by simp only[Ae];split<;>rename_i h<;>simp only[h]<;>rfl
theorem AMQ{e:Env}{Q:Env->Prop}(a b:A):Ae K (.mx a b) e Q=CS e Q (A4 e.E (.mx a b)):=by simp only[Ae];split<;>rename_i h<;>simp only[h]<;>rfl
theorem AAQ{e:Env}{Q:Env->Prop}(a b:A):Ae K (.mn a b) e Q=CS e Q (A4 e.E (.mn a b)):=by simp only[Ae];split<;>rename_i h<;>simp only[h]<;>rfl
theorem AHM{e:Env}{Q:Env->Prop}(a i:A):Ae K (.iy a i) e Q=CS e Q (A4 e.E (.iy a i)):=by simp only[Ae];split<;>rename_i h<;>simp only[h]<;>rfl
theorem ASX{e:Env}{Q:Env->Prop}(k:Nat)(xs:List (A×Nat)):Ae K (.bg k xs) e Q=CS e Q (A4 e.E (.bg k xs)):=by simp only[Ae];split<;>rename_i h<;>simp only[h]<;>rfl
theorem AC9{e:Env}{Q:Env->Prop}(a:A):Ae K (.bp a) e Q=CS e Q (A4 e.E (.bp a)):=by simp only[Ae];split<;>rename_i h<;>simp only[h]<;>rfl
theorem ZS{e:Env}{Q:Env->Prop}(a:A)(k:Nat):Ae K (.gp a k) e Q=CS e Q (A4 e.E (.gp a k)):=by simp only[Ae];split<;>rename_i h<;>simp only[h]<;>rfl
theorem AJ8{e:Env}{Q:Env->Prop}(w:Bool)(a:A):Ae K (.nz w a) e Q=CS e Q (A4 e.E (.nz w a)):=by simp only[Ae];split<;>rename_i h<;>simp only[h]<;>rfl
theorem AFJ{e:Env}{Q:Env->Prop}(a:A):Ae K (.nn a) e Q=CS e Q (A4 e.E (.nn a)):=by simp only[Ae];split<;>rename_i h<;>simp only[h]<;>rfl
theorem Zg{e:Env}{Q:Env->Prop}(k:Nat)(a:A):Ae K (.wl k a) e Q=CS e Q (A4 e.E (.wl k a)):=by simp only[Ae];split<;>rename_i h<;>simp only[h]<;>rfl
theorem AR7{e:Env}{Q:Env->Prop}(n k:Nat)(a:A):Ae K (.ws n k a) e Q=CS e Q (A4 e.E (.ws n k a)):=by simp only[Ae];split<;>rename_i h<;>simp only[h]<;>rfl
theorem AJL{e:Env}{Q:Env->Prop}(a:A)(p:List PE):Ae K (.gt a p) e Q=CS e Q (A4 e.E (.gt a p)):=by simp only[Ae];split<;>rename_i h<;>simp only[h]<;>rfl
theorem ANC{e:Env}{Q:Env->Prop}(fl:Bool)(a:A)(k:Nat):Ae K (.fp fl a k) e Q=CS e Q (A4 e.E (.fp fl a k)):=by simp only[Ae];split<;>rename_i h<;>simp only[h]<;>rfl
theorem ATX{e:Env}{Q:Env->Prop}(n:Nat):Ae K (.cb n) e Q=CS e Q (A4 e.E (.cb n)):=by simp only[Ae];split<;>rename_i h<;>simp only[h]<;>rfl
theorem AIK{e:Env}{Q:Env->Prop}(n:Nat)(p:List PE)(a:A)(i k:Nat):Ae K (.uq n p a i k) e Q=CS e Q (A4 e.E (.uq n p a i k)):=by simp only[Ae];split<;>rename_i h<;>simp only[h]<;>rfl
end
section
variable{E:Nat->D}
theorem AI6{n:Nat}:ev E (.e n)=E n:=rfl
theorem AMN{d:D}:ev E (.c d)=d:=rfl
theorem AAU:A4 E .mm=some (.g []):=rfl
theorem ACO{n:Nat}{a b:A}:A4 E (.mu n a b)=ID (E n) (ev E a) (ev E b):=rfl
theorem AJO{n:Nat}{a:A}{d:D}:A4 E (.mg n a d)=JH d (E n) (ev E a):=rfl
theorem AR1{s:Sh}{d:D}:A4 E (.cs s d)=some d:=rfl
theorem AFR{a:A}:A4 E (.cy a)=some (ev E a):=rfl
theorem AJX{o:BinOp}{a b:A}:A4 E (.bi o a b)=By o (ev E a) (ev E b):=rfl
theorem AQF{o:BinOp}{a b:A}:A4 E (.bb o a b)=Hv o (ev E a) (ev E b):=rfl
theorem AAH{o:UnOp}{a:A}:A4 E (.un o a)=NG o (ev E a):=rfl
def Ns(c a b:D):Option D:=match c with|.b true=>some a|.b false=>some b|_=>none
theorem ASU{c a b:A}:A4 E (.pk c a b)=Ns (ev E c) (ev E a) (ev E b):=by simp only[A4,Ns];split<;>rename_i h<;>simp only[h]
theorem AD8{a b:D}:Ns (.b true) a b=some a:=rfl
theorem ABC{a b:D}:Ns (.b false) a b=some b:=rfl
theorem AE7{p q:Bool}:Ns (.b p) (.b q) (.b false)=some (.b (p&&q)):=by cases p<;>rfl
theorem ZV{p q:Bool}:Ns (.b p) (.b true) (.b q)=some (.b (p||q)):=by cases p<;>rfl
def cvD(k:IntKind):D->Option D|.i _ n=>some (.i k (k.wrap n))|_=>none
theorem AEB{k:IntKind}{a:A}:A4 E (.cv k a)=cvD k (ev E a):=by simp only[A4];cases ev E a<;>rfl
theorem AC2{k h:IntKind}{n:Int}:cvD k (.i h n)=some (.i k (k.wrap n)):=rfl
theorem ADK{a:A}{p:List PE}:A4 E (.ln a p)=(E4 E p (ev E a)).bind GI:=rfl
theorem AGN{d:D}:E4 E [] d=some d:=rfl
theorem AAV{h:PE}{d:D}:E4 E [h] d=(h.ev E).bind λi=>Aq [i] d:=by
 simp only[E4,List.mapM_cons,List.mapM_nil]
 cases h.ev E<;>rfl
theorem ATP{a:A}:A4 E (.sn a)=Oq (ev E a):=rfl
theorem ANB{a i:A}:A4 E (.sx a i)=NC (ev E a) (ev E i):=rfl
theorem AQ6{a:A}{lo hi:Option A}:A4 E (.ss a lo hi)=IL (ev E a) (lo.map (ev E)) (hi.map (ev E)):=rfl
theorem ANK{a i:A}:A4 E (.ix a [] i)=EO (ev E a) (ev E i):=rfl
theorem AGV{a i:A}{p:List PE}:A4 E (.ix a p i)=(E4 E p (ev E a)).bind λd=>EO d (ev E i):=rfl
theorem ABU{a i:A}:A4 E (.iy a i)=(EO (ev E a) (ev E i)).bind Gz:=rfl
def Jh(is:Option (List Nat))(d x:D):Option D:=if x.one=true then is.bind λis=>Ax is d x else none
theorem AQV{n:Nat}{p:List PE}{a:A}:A4 E (.up n p a)=Jh (p.mapM (PE.ev E)) (E n) (ev E a):=rfl
theorem APQ{h:PE}:[h].mapM (PE.ev E)=(h.ev E).map ([·]):=by simp only[List.mapM_cons,List.mapM_nil];cases h.ev E<;>rfl
theorem AGC{h l:PE}:[h,l].mapM (PE.ev E)=(h.ev E).bind λi=>(l.ev E).map λj=>[i,j]:=by simp only[List.mapM_cons,List.mapM_nil];cases h.ev E<;>cases l.ev E<;>rfl
theorem ARX{n:Nat}:PE.ev E (.k n)=some n:=rfl
def Xz:D->Option Nat|.i _ z=>if 0<=z then some z.toNat else none|_=>none
theorem AEM{n:Nat}:PE.ev E (.e n)=Xz (E n):=by simp only[PE.ev];cases E n<;>rfl
theorem AHO{k:IntKind}{z:Int}(h:0<=z):Xz (.i k z)=some z.toNat:=by simp[Xz,h]
theorem ANS{F:Bool}{a:A}{lo hi:Option A}:A4 E (.sb F a lo hi)=FC (ev E a) (lo.map (ev E)) (hi.map (ev E)):=rfl
theorem ARO{fl:Bool}{a b:A}:A4 E (.ap fl a b)=EG fl (ev E a) (ev E b):=rfl
theorem AT2{d:D}{n c:A}:A4 E (.mk d n c)=Iv d (ev E n) (ev E c):=rfl
def DK(xs:List D):Option D:=if xs.all D.one=true then some (.l xs)else none
theorem AL4{s:Sh}{xs:List A}:A4 E (.li s xs)=DK (xs.map (ev E)):=rfl
theorem AGE{a:A}:A4 E (.bs a)=Jc (ev E a):=rfl
theorem Z0{a:A}:A4 E (.sy a)=SL (ev E a):=rfl
def mxD:D->D->Option D|.i k x,.i k' y=>if k=k' then some (.i k (if y > x then y else x))else none|_,_=>none
def mnD:D->D->Option D|.i k x,.i k' y=>if k=k' then some (.i k (if y<x then y else x))else none|_,_=>none
def Rq(k:Nat)(l:List (D×Nat)):Option D:=if l.all (CK k)=true then some (.g (l.map (·.1)))else none
theorem AES{k:Nat}{xs:List (A×Nat)}:A4 E (.bg k xs)=Rq k (xs.map λx=>(ev E x.1,x.2)):=by simp only[A4,Rq,List.map_map];rfl
def JI(k:Nat):Bool->List (D×Nat)->List D->Option D
 |false,_,_=>none
 |true,[],r=>some (.g r)
 |true,x::l,r=>JI k (CK k x) l (r++[x.1])
theorem ATS{k:Nat}{l:List (D×Nat)}:Rq k l=JI k true l []:=by
 have key:∀(l:List (D×Nat))(r:List D),JI k true l r=if l.all (CK k)=true then some (.g (r++l.map (·.1)))else none:=by
  intro l;induction l with
  |nil=>intro r;simp[JI]
  |cons x l I=>
   intro r
   simp only[JI]
   cases h:CK k x with
   |true=>rw[I];simp only[List.all_cons,h,Bool.true_and,List.map_cons,CT,List.cons_append,List.nil_append]
   |false=>simp[h,JI]
 rw[key];simp[Rq]
theorem AHF{k:Nat}{r:List D}:JI k true [] r=some (.g r):=rfl
theorem Z7{k:Nat}{x:D×Nat}{l:List (D×Nat)}{r:List D}:JI k true (x::l) r=JI k (CK k x) l (r++[x.1]):=rfl
theorem ANJ{d:D}{i:Nat}:CK 0 (d,i)=d.one:=by simp[CK]
theorem AFB{k i:Nat}{q:IntKind}{n:Int}:CK k (.i q n,i)=true:=by simp only[CK,D.one,Bool.true_and,Bool.or_eq_true];right;right;cases min i k<;>simp[C0,D.flat]
theorem ALJ{k i:Nat}{x:List Nat}:CK k (.s x,i)=true:=by simp only[CK,D.one,Bool.true_and,Bool.or_eq_true];right;right;cases min i k<;>simp[C0,D.flat]
theorem AEZ{k i:Nat}{x:Bool}:CK k (.b x,i)=true:=by simp only[CK,D.one,Bool.true_and,Bool.or_eq_true];right;right;cases min i k<;>simp[C0,D.flat]
theorem AIP{a:A}:A4 E (.bp a)=Kw (ev E a):=rfl
theorem AEP{xs:List D}:Kw (.g xs)=some (.p xs):=rfl
def I3:List D->Nat->Bool
 |[],0=>true
 |_::xs,k+1=>I3 xs k
 |_,_=>false
theorem SA:∀{xs:List D}{k:Nat},I3 xs k=decide (xs.length=k)
 |[],0=>rfl
 |[],k+1=>rfl
 |_::xs,0=>rfl
 |_::xs,k+1=>by simp[I3,SA (xs:=xs) (k:=k)]
theorem AQZ:I3 [] 0=true:=rfl
theorem APH{x:D}{xs:List D}{k:Nat}:I3 (x::xs) (k+1)=I3 xs k:=rfl
def KM:List D->Bool
 |[]=>true
 |x::xs=>x.one&&KM xs
theorem AKC:∀{xs:List D},KM xs=xs.all D.one
 |[]=>rfl
 |x::xs=>by simp[KM,AKC (xs:=xs)]
theorem ALE:KM []=true:=rfl
theorem ACE{x:D}{xs:List D}:KM (x::xs)=(x.one&&KM xs):=rfl
def Lb{α:Type}(r:α):Bool->Option α
 |true=>some r
 |false=>none
theorem AQW{α:Type}{r:α}:Lb r true=some r:=rfl
theorem AH5{a:A}{k:Nat}:A4 E (.gp a k)=Ln k (ev E a):=rfl
theorem ATU{xs:List D}{k:Nat}:Ln k (.p xs)=Lb (.g xs) (I3 xs k):=by rw[SA];simp only[Ln];by_cases h:xs.length=k<;>simp[h,Lb]
theorem AMP{w:Bool}{a:A}:A4 E (.nz w a)=(Lp (ev E a)).map λx=>.b (x==w):=rfl
theorem AGS:Lp .z=some true:=rfl
theorem AD0{xs:List D}:Lp (.p xs)=some false:=rfl
theorem ABG{a:A}:A4 E (.nn a)=QW (ev E a):=rfl
theorem AOD{xs:List D}:QW (.p xs)=some (.p xs):=rfl
theorem AOF{k:Nat}{a:A}:A4 E (.wl k a)=GJ k (ev E a):=rfl
theorem UK{xs:List D}{k:Nat}:GJ k (.g xs)=Lb (.g xs) (I3 xs k&&KM xs):=by rw[SA,AKC];simp only[GJ];by_cases h:xs.length=k<;>by_cases l:xs.all D.one=true<;>simp[h,l,Lb]
def wsD(d:D)(k:Nat)(x:D):Option D:=if KQ k d=true then GJ k x else none
theorem AP7{n k:Nat}{a:A}:A4 E (.ws n k a)=wsD (E n) k (ev E a):=rfl
theorem AJY{ys xs:List D}{k:Nat}:wsD (.g ys) k (.g xs)=Lb (.g xs) (I3 ys k&&(I3 xs k&&KM xs)):=by simp only[wsD,KQ,UK,SA];by_cases h:ys.length=k<;>simp[h,Lb]
theorem AHC{a:A}{p:List PE}:A4 E (.gt a p)=E4 E p (ev E a):=rfl
theorem AMH{i:Nat}{xs:List D}:Aq [i] (.g xs)=xs[i]?:=by simp only[Aq];cases xs[i]?<;>rfl
theorem Zy{q:IntKind}{n:Int}:known (.i q n)=some (.i q n):=rfl
theorem AFS{x:Bool}:known (.b x)=some (.b x):=rfl
theorem ALX{x:List Nat}:known (.s x)=some (.s x):=rfl
theorem AJM{x:List D}:known (.l x)=some (.l x):=rfl
theorem Zh{x:List D}:known (.p x)=some (.p x):=rfl
theorem Zs:known .z=some .z:=rfl
def fpE(fl:Bool)(k:Nat)(d:D):Option D:=(Mj k d).bind λd=>if fl=true then Gz d else some d
theorem AFL{fl:Bool}{a:A}{k:Nat}:A4 E (.fp fl a k)=fpE fl k (ev E a):=rfl
def Mq(fl:Bool)(d:D):Option D:=(known d).bind λd=>if fl=true then Gz d else some d
theorem AOZ{fl:Bool}{k:Nat}{xs:List D}:fpE fl k (.p xs)=xs[k]?.bind (Mq fl):=by simp only[fpE,Mj];cases xs[k]?<;>rfl
theorem ACX{d:D}:Mq false d=known d:=by simp[Mq]
theorem AJ0{q:IntKind}{n:Int}:Mq true (.i q n)=some (.i q n):=rfl
theorem ZX{x:List Nat}:Mq true (.s x)=some (.s x):=rfl
theorem ASM{x:Bool}:Mq true (.b x)=some (.b x):=rfl
theorem Wu{i:Nat}{xs:List D}{x:D}:Ax [i] (.g xs) x=xs[i]?.map λ_=>.g (xs.set i x):=by simp only[Ax];cases xs[i]?<;>rfl
def Qk(is:Option (List Nat))(d x:D)(i k:Nat):Option D:=if CK k (x,i)=true then is.bind λis=>Ax is d x else none
theorem AC4{n k:Nat}{p:List PE}{a:A}:A4 E (.jn n p a k)=L6 (p.mapM (PE.ev E)) (E n) (ev E a) k:=rfl
theorem ABB{n:Nat}:A4 E (.cb n)=Mm (E n):=rfl
theorem ATK{x:D}{xs:List D}:Mm (.g (x::xs))=some .u:=rfl
theorem AF4{n:Nat}{p:List PE}{a:A}{i k:Nat}:A4 E (.uq n p a i k)=Qk (p.mapM (PE.ev E)) (E n) (ev E a) i k:=rfl
theorem AQO{xs:List D}:(D.l xs).one=true:=rfl
theorem Zi{xs:List D}:(D.p xs).one=true:=rfl
theorem ARE:D.z.one=true:=rfl
theorem U3{x:D}{xs:List D}:(x::xs)[0]?=some x:=rfl
theorem VM{x:D}{xs:List D}{n:Nat}:(x::xs)[n+1]?=xs[n]?:=by simp
theorem AOX{a b:A}:A4 E (.mx a b)=mxD (ev E a) (ev E b):=by simp only[A4];cases ev E a<;>cases ev E b<;>rfl
theorem Zj{a b:A}:A4 E (.mn a b)=mnD (ev E a) (ev E b):=by simp only[A4];cases ev E a<;>cases ev E b<;>rfl
theorem Z6{k:IntKind}{x y:Int}:mxD (.i k x) (.i k y)=some (.i k (max x y)):=by simp only[mxD,if_true];congr 2;omega
theorem ADD{k:IntKind}{x y:Int}:mnD (.i k x) (.i k y)=some (.i k (min x y)):=by simp only[mnD,if_true];congr 2;omega
end
theorem AMZ(n:Nat):Env.E [] n=.u:=rfl
theorem Vd(d:D)(e:Env):Env.E (d::e) 0=d:=rfl
theorem Wy(d:D)(e:Env)(n:Nat):Env.E (d::e) (n+1)=Env.E e n:=by simp[Env.E]
theorem VI{e:Env}:EL [] e=[]:=rfl
theorem Ww{n:Nat}{o:List (Option Nat)}{e:Env}:EL (some n::o) e=e.E n::EL o e:=rfl
theorem Vk{o:List (Option Nat)}{e:Env}:EL (none::o) e=.u::EL o e:=rfl
section
variable{k:IntKind}{a b:Int}
theorem AE9:By .add (.i k a) (.i k b)=some (.i k (k.wrap (a+b))):=by simp[By,Ei]
theorem AMM:By .sub (.i k a) (.i k b)=some (.i k (k.wrap (a-b))):=by simp[By,Ei]
theorem ADO:By .mul (.i k a) (.i k b)=some (.i k (k.wrap (a*b))):=by simp[By,Ei]
theorem AI7(h:b≠0):By .quo (.i k a) (.i k b)=some (.i k (k.wrap (a.tdiv b))):=by simp[By,Ei,h]
theorem AMU(h:b≠0):By .rem (.i k a) (.i k b)=some (.i k (a.tmod b)):=by simp[By,Ei,h]
theorem AFK:By .eql (.i k a) (.i k b)=some (.b (decide (a=b))):=by simp[By,Ei];rfl
theorem AS8:By .neq (.i k a) (.i k b)=some (.b (!decide (a=b))):=by simp only[By,Ei,if_true];congr 2
theorem AQE:By .lss (.i k a) (.i k b)=some (.b (decide (a<b))):=by simp[By,Ei]
theorem AIF:By .leq (.i k a) (.i k b)=some (.b (decide (a<=b))):=by simp[By,Ei]
theorem AFW:By .gtr (.i k a) (.i k b)=some (.b (decide (b<a))):=by simp[By,Ei]
theorem AIU:By .geq (.i k a) (.i k b)=some (.b (decide (b<=a))):=by simp[By,Ei]
theorem AL0{p:Bool}:NG .not (.b p)=some (.b (!p)):=rfl
theorem ADG:NG .neg (.i k a)=some (.i k (k.wrap (0-a))):=rfl
theorem ALZ{p q:Bool}:Hv .eql (.b p) (.b q)=some (.b (p==q)):=rfl
theorem AQS{p q:Bool}:Hv .neq (.b p) (.b q)=some (.b (!(p==q))):=rfl
theorem AEK{x y:List Nat}:By .eql (.s x) (.s y)=some (.b (x==y)):=rfl
theorem AN9{x y:List Nat}:By .neq (.s x) (.s y)=some (.b (!(x==y))):=rfl
theorem AOG{x y:List Nat}(h:x.length+y.length<=1099511627776):By .add (.s x) (.s y)=some (.s (x++y)):=by show Pu .add x y=_;simp only[Pu];rw[if_pos (show x.length+y.length<=HP from h)]
end
theorem wrap_i64{x:Int}(h:-9223372036854775808<=x/\x<=9223372036854775807):IntKind.i64.wrap x=x:=by
 obtain⟨o,B⟩:=h;have e:x%(2^64:Int)=x%18446744073709551616:=rfl;by_cases h0:0<=x;have l:x%18446744073709551616=x:=Int.emod_eq_of_lt h0 (by omega);simp[IntKind.wrap,IntKind.bits,IntKind.signed,l];omega;have l:x%18446744073709551616=x+18446744073709551616:=by omega
 simp[IntKind.wrap,IntKind.bits,IntKind.signed,l];omega
theorem wrap_u8{x:Int}(h:0<=x/\x<=255):IntKind.u8.wrap x=x:=by obtain⟨l,B⟩:=h;have o:x%256=x:=Int.emod_eq_of_lt l (by omega);simp[IntKind.wrap,IntKind.bits,IntKind.signed,o]
end Go.Cat
namespace Go.Cat
def LI(zs:List Int):D:=.l (zs.map D.n)
def LS(ss:List (List Nat)):D:=.l (ss.map D.s)
def LB(bs:List Nat):D:=.l (bs.map D.y)
def LT(bs:List Bool):D:=.l (bs.map D.b)
def LL(rs:List (List Int)):D:=.l (rs.map LI)
def AB(zs:List Int)(i:Int):Int:=zs.getD i.toNat 0
def AF(ss:List (List Nat))(i:Int):List Nat:=ss.getD i.toNat []
def AH(bs:List Nat)(i:Int):Nat:=bs.getD i.toNat 0
def CU(bs:List Bool)(i:Int):Bool:=bs.getD i.toNat false
def AG(rs:List (List Int))(i:Int):List Int:=rs.getD i.toNat []
def BE(zs:List Int)(i:Int)(x:Int):List Int:=zs.set i.toNat x
def Gw(zs:List (List Nat))(i:Int)(x:List Nat):List (List Nat):=zs.set i.toNat x
def Cf(zs:List Bool)(i:Int)(x:Bool):List Bool:=zs.set i.toNat x
def Dz(zs:List (List Int))(i:Int)(x:List Int):List (List Int):=zs.set i.toNat x
def rep{α:Type}(n:Int)(x:α):List α:=List.replicate n.toNat x
theorem XD{α:Type}{n:Nat}{x:α}:rep (n:Int) x=List.replicate n x:=rfl
def sub{α:Type}(xs:List α)(i j:Int):List α:=(xs.take j.toNat).drop i.toNat
section
variable{α:Type}(f:α->D)(df:α)
theorem PV{zs:List α}{k:IntKind}{i:Int}(o:∀a,(f a).isU=false)(h0:0<=i)(B:i<zs.length):EO (.l (zs.map f)) (.i k i)=some (f (zs.getD i.toNat df)):=by
 have h:i.toNat<zs.length:=by omega
 simp[EO,h0,h,known,o]
theorem get_map{zs:List α}{i:Nat}(h:i<zs.length):Aq [i] (.l (zs.map f))=some (f (zs.getD i df)):=by simp[Aq,h]
theorem NX{zs:List α}{i:Nat}{x:α}(h:i<zs.length):Ax [i] (.l (zs.map f)) (f x)=some (.l ((zs.set i x).map f)):=by simp[Ax,h,List.map_set]
theorem Jq{zs:List α}{lo hi:Option D}{l h:Nat}(F:bound lo 0=some l)(C:bound hi zs.length=some h)(o:l<=h)(B:h<=zs.length):FC (.l (zs.map f)) lo hi=some (.l (((zs.take h).drop l).map f)):=by simp[FC,F,C,o,B,List.map_take,List.map_drop]
theorem Qg{fl:Bool}{xs ys:List α}(o:∀a,(f a).one=true/\(fl=true->(f a).flat=true))(h:xs.length+ys.length<=HP):EG fl (.l (xs.map f)) (.l (ys.map f))=some (.l ((xs++ys).map f)):=by
 have B:(ys.map f).all (if fl=true then D.flat else D.one)=true:=by
  cases fl with
  |true=>simpa using λa _=>(o a).2 rfl
  |false=>simpa using λa _=>(o a).1
 simp only[EG,List.length_map];rw[if_pos ⟨h,B⟩,List.map_append]
end
theorem Jv{d:Nat}:bound none d=some d:=rfl
theorem Fp{k:IntKind}{n:Int}{d:Nat}(h:0<=n):bound (some (.i k n)) d=some n.toNat:=by simp[bound,h]
section
variable{zs ys:List Int}{i j x:Int}{k:IntKind}
theorem AQL:GI (LI zs)=some (.n zs.length):=by simp[GI,LI]
theorem AM6(h:0<=i/\i<zs.length):EO (LI zs) (.i k i)=some (.n (AB zs i)):=PV D.n 0 (λ_=>rfl) h.1 h.2
theorem AHT:Gz (.i k x)=some (.i k x):=rfl
theorem Yi(h:0<=i/\i<zs.length):Ax [i.toNat] (LI zs) (.n x)=some (LI (BE zs i x)):=NX D.n (by omega)
theorem APP(h:0<=i/\i<=j/\j<=zs.length):FC (LI zs) (some (.n i)) (some (.n j))=some (LI (sub zs i j)):=
 Jq D.n (Fp h.1) (Fp (by omega)) (by omega) (by omega)
theorem AI1(h:0<=j/\j<=zs.length):FC (LI zs) none (some (.n j))=some (LI (sub zs 0 j)):=Jq D.n Jv (Fp (by omega)) (by omega) (by omega)
theorem AMI(h:0<=i/\i<=zs.length):FC (LI zs) (some (.n i)) none=some (LI (sub zs i zs.length)):=by rw[LI,Jq D.n (Fp h.1) Jv (by omega) (by omega)];rfl
theorem RP{fl:Bool}(h:zs.length+ys.length<=1099511627776):EG fl (LI zs) (LI ys)=some (LI (zs++ys)):=Qg D.n (λ_=>⟨rfl,λ_=>rfl⟩) h
theorem AT1{n m:Int}(h:0<=n/\n<=m/\m<=1099511627776):Iv (.n x) (.n n) (.n m)=some (LI (rep n x)):=by simp only[Iv,LI,rep];rw[if_pos (show 0<=n/\n<=m/\m<=(HP:Int)from h)];simp
theorem Eb:D.l []=LI []:=rfl
theorem ANG:DK []=some (.l []):=rfl
theorem Lj{a:Int}:DK [.n a]=some (LI [a]):=rfl
theorem QN{a b:Int}:DK [.n a,.n b]=some (LI [a,b]):=rfl
theorem Wp{a b c:Int}:DK [.n a,.n b,.n c]=some (LI [a,b,c]):=rfl
theorem Z2:(D.i k x).one=true:=rfl
theorem AND:(LI zs).one=true:=rfl
end
section
variable{s u:List Nat}{ss ts:List (List Nat)}{i j:Int}{k:IntKind}
theorem AHW:Oq (.s s)=some (.n s.length):=rfl
theorem AFN(h:0<=i/\i<s.length):NC (.s s) (.i k i)=some (.y (AH s i)):=by
 have l:i.toNat<s.length:=by omega
 simp[NC,h.1,l,AH]
theorem Z8(h:0<=i/\i<=j/\j<=s.length):IL (.s s) (some (.n i)) (some (.n j))=some (.s (sub s i j)):=by simp only[IL,Fp h.1,Fp (show 0<=j by omega)];rw[if_pos (by omega)];rfl
theorem ATY(h:0<=j/\j<=s.length):IL (.s s) none (some (.n j))=some (.s (sub s 0 j)):=by simp only[IL,Jv,Fp h.1];rw[if_pos (by omega)];rfl
theorem Zt(h:0<=i/\i<=s.length):IL (.s s) (some (.n i)) none=some (.s (sub s i s.length)):=by simp only[IL,Jv,Fp h.1];rw[if_pos (by omega)];rfl
theorem AEU:GI (LS ss)=some (.n ss.length):=by simp[GI,LS]
theorem AO1(h:0<=i/\i<ss.length):EO (LS ss) (.i k i)=some (.s (AF ss i)):=PV D.s [] (λ_=>rfl) h.1 h.2
theorem ASG:Gz (.s s)=some (.s s):=rfl
theorem ALK(h:0<=i/\i<ss.length):Ax [i.toNat] (LS ss) (.s s)=some (LS (Gw ss i s)):=NX D.s (by omega)
theorem ANR(h:0<=i/\i<=j/\j<=ss.length):FC (LS ss) (some (.n i)) (some (.n j))=some (LS (sub ss i j)):=
 Jq D.s (Fp h.1) (Fp (by omega)) (by omega) (by omega)
theorem AE5{fl:Bool}(h:ss.length+ts.length<=1099511627776):EG fl (LS ss) (LS ts)=some (LS (ss++ts)):=Qg D.s (λ_=>⟨rfl,λ_=>rfl⟩) h
theorem AIW{n m:Int}(h:0<=n/\n<=m/\m<=1099511627776):Iv (.s s) (.n n) (.n m)=some (LS (rep n s)):=by simp only[Iv,LS,rep];rw[if_pos (show 0<=n/\n<=m/\m<=(HP:Int)from h)];simp
theorem Vj:D.l []=LS []:=rfl
theorem M6{a:List Nat}:DK [.s a]=some (LS [a]):=rfl
theorem ATB:(D.s s).one=true:=rfl
end
section
variable{bs cs:List Nat}{i j:Int}{k:IntKind}{c:Nat}
theorem Zo:GI (LB bs)=some (.n bs.length):=by simp[GI,LB]
theorem ADN(h:0<=i/\i<bs.length):EO (LB bs) (.i k i)=some (.y (AH bs i)):=PV D.y 0 (λ_=>rfl) h.1 h.2
theorem AMF{fl:Bool}(h:bs.length+cs.length<=1099511627776):EG fl (LB bs) (LB cs)=some (LB (bs++cs)):=Qg D.y (λ_=>⟨rfl,λ_=>rfl⟩) h
theorem AAI:DK [.y c]=some (LB [c]):=rfl
theorem W5{x:Int}(h:0<=x):DK [.i .u8 x]=some (LB [x.toNat]):=by
 have:x=(x.toNat:Int):=by omega
 rw[this];rfl
theorem XF{x:Nat}(h:x<256):Jc (LB [x])=some (.s [x]):=by
 have l:((x:Int))<256:=by omega
 simp[Jc,LB,bytesOf,l]
theorem Vx:D.l []=LB []:=rfl
theorem ANI(h:bs.length<=1099511627776):SL (.s bs)=some (LB bs):=by simp only[SL];rw[if_pos (show bs.length<=HP from h)];rfl
theorem AIY:∀{bs:List Nat},(∀c∈bs,c<256)->bytesOf (bs.map D.y)=some bs
 |[],_=>rfl
 |c::bs,h=>by have o:=h c (by simp);simp only[List.map_cons,bytesOf];rw[if_pos (by omega),AIY λc l=>h c (by simp[l])];simp
theorem NU(h:∀c∈bs,c<256):Jc (LB bs)=some (.s bs):=by simp[Jc,LB,AIY h]
end
section
variable{bs cs:List Bool}{i j:Int}{k:IntKind}{c:Bool}
theorem AOH:GI (LT bs)=some (.n bs.length):=by simp[GI,LT]
theorem ACJ(h:0<=i/\i<bs.length):EO (LT bs) (.i k i)=some (.b (CU bs i)):=PV D.b false (λ_=>rfl) h.1 h.2
theorem Zp:Gz (.b c)=some (.b c):=rfl
theorem AJG(h:0<=i/\i<bs.length):Ax [i.toNat] (LT bs) (.b c)=some (LT (Cf bs i c)):=NX D.b (by omega)
theorem AR3{n m:Int}(h:0<=n/\n<=m/\m<=1099511627776):Iv (.b c) (.n n) (.n m)=some (LT (rep n c)):=by simp only[Iv,LT,rep];rw[if_pos (show 0<=n/\n<=m/\m<=(HP:Int)from h)];simp
theorem AFC:(D.b c).one=true:=rfl
end
section
variable{rs qs:List (List Int)}{r:List Int}{i j x:Int}{k:IntKind}
theorem ACF:GI (LL rs)=some (.n rs.length):=by simp[GI,LL]
theorem AKZ(h:0<=i/\i<rs.length):EO (LL rs) (.i k i)=some (LI (AG rs i)):=PV LI [] (λ_=>rfl) h.1 h.2
theorem ADY(h:0<=i/\i<rs.length):Aq [i.toNat] (LL rs)=some (LI (AG rs i)):=get_map LI [] (by omega)
theorem AG2(h:0<=i/\i<rs.length):Ax [i.toNat] (LL rs) (LI r)=some (LL (Dz rs i r)):=NX LI (by omega)
theorem AD7(h:0<=i/\i<rs.length/\0<=j/\j<(AG rs i).length):Ax [i.toNat,j.toNat] (LL rs) (.n x)=some (LL (Dz rs i (BE (AG rs i) j x))):=by
 obtain⟨h0,G,I,J⟩:=h;have o:i.toNat<rs.length:=by omega
 have C:j.toNat<(AG rs i).length:=by omega
 have e:rs[i.toNat]=AG rs i:=by simp[AG,Ap,o]
 have:=NX D.n (x:=x) C;have B:Ax [i.toNat,j.toNat] (LL rs) (.n x)=(Ax [j.toNat] (LI (AG rs i)) (.n x)).map λF=>.l ((rs.map LI).set i.toNat F):=by refine(show _=((rs.map LI)[i.toNat]?.bind λy=>Ax [j.toNat] y (.n x)).map _ from rfl).trans ?_;rw[List.getElem?_map,Eg o,Option.map_some,Option.bind_some,e]
 rw[B,LI,this];simp[LL,Dz,List.map_set,BE,LI]
theorem KG{fl:Bool}(h:rs.length+qs.length<=1099511627776/\fl=false):EG fl (LL rs) (LL qs)=some (LL (rs++qs)):=Qg LI (λ_=>⟨rfl,λe=>by rw[h.2]at e;cases e⟩) h.1
theorem AM1(h:0<=i/\i<=j/\j<=rs.length):FC (LL rs) (some (.n i)) (some (.n j))=some (LL (sub rs i j)):=
 Jq LI (Fp h.1) (Fp (by omega)) (by omega) (by omega)
theorem AM3(h:0<=i/\i<=rs.length):FC (LL rs) (some (.n i)) none=some (LL (sub rs i rs.length)):=by rw[LL,Jq LI (Fp h.1) Jv (by omega) (by omega)];rfl
theorem RD:D.l []=LL []:=rfl
theorem Fv:DK [LI r]=some (LL [r]):=rfl
end
theorem AB4{is:List Nat}{d:D}{k:IntKind}{n:Int}:Jh (some is) d (.i k n)=Ax is d (.i k n):=rfl
theorem AKB{is:List Nat}{d:D}{u:List Nat}:Jh (some is) d (.s u)=Ax is d (.s u):=rfl
theorem AO3{is:List Nat}{d:D}{u:Bool}:Jh (some is) d (.b u)=Ax is d (.b u):=rfl
theorem AFY{is:List Nat}{d:D}{u:List D}:Jh (some is) d (.l u)=Ax is d (.l u):=rfl
theorem APM{is:List Nat}{d:D}{u:List (List Nat)}:Jh (some is) d (LS u)=Ax is d (LS u):=rfl
theorem ALT{is:List Nat}{d:D}{u:List (List Int)}:Jh (some is) d (LL u)=Ax is d (LL u):=rfl
theorem AAY{k:Nat}{x:List Int}:C0 (k+1) (LI x)=true:=by
 simp only[C0,LI,Bool.or_eq_true,Ao];right;intro d hd;obtain⟨y,_,rfl⟩:=List.mem_map.1 hd
 cases k<;>simp[C0,D.flat]
theorem AXB{k:Nat}{x:List (List Nat)}:C0 (k+1) (LS x)=true:=by
 simp only[C0,LS,Bool.or_eq_true,Ao];right;intro d hd;obtain⟨y,_,rfl⟩:=List.mem_map.1 hd
 cases k<;>simp[C0,D.flat]
theorem AUO{k:Nat}{x:List (List Int)}:C0 (k+2) (LL x)=true:=by show((D.l (x.map LI)).flat||(x.map LI).all (C0 (k+1)))=true;simp only[Bool.or_eq_true,Ao];right;intro d hd;obtain⟨y,_,rfl⟩:=List.mem_map.1 hd;exact AAY
theorem Q7{x:List Int}:C0 1 (LI x)=true:=AAY
theorem Uv{x:List (List Nat)}:C0 1 (LS x)=true:=AXB
theorem V2{x:List (List Int)}:C0 2 (LL x)=true:=AUO
theorem ABF{is:Option (List Nat)}{d:D}{x:List Int}:L6 is d (LI x) 1=is.bind λis=>Ax is d (LI x):=by unfold L6;rw[Q7];rfl
theorem AQJ{is:Option (List Nat)}{d:D}{x:List (List Nat)}:L6 is d (LS x) 1=is.bind λis=>Ax is d (LS x):=by unfold L6;rw[Uv];rfl
theorem AE8{is:Option (List Nat)}{d:D}{x:List (List Int)}:L6 is d (LL x) 2=is.bind λis=>Ax is d (LL x):=by unfold L6;rw[V2];rfl
def Si(rs:List (List Int))(i:Int):D:=.l ((rs.map LI).set i.toNat .u)
theorem Pz{rs:List (List Int)}{i:Int}(h:0<=i/\i<rs.length):JL 1 (LL rs) (some [i.toNat])=some (LI (AG rs i),Si rs i):=by
 have l:i.toNat<rs.length:=by omega
 simp[JL,LL,Aq,Ax,l,Q7,AG,Si]
theorem QI{rs:List (List Int)}{i:Int}{x:List Int}(h:0<=i/\i<rs.length):Ax [i.toNat] (Si rs i) (LI x)=some (LL (Dz rs i x)):=by
 have l:i.toNat<rs.length:=by omega
 simp[Si,Ax,l,LL,Dz]
theorem AKX{is:List Nat}{d:D}{u:List Int}:Jh (some is) d (LI u)=Ax is d (LI u):=rfl
theorem AHU{a b:Int}(h:0<=a):a.tmod b=a%b:=Int.tmod_eq_emod_of_nonneg h
theorem AQH{a b:Int}(h:0<=a):a.tdiv b=a/b:=Int.tdiv_eq_ediv_of_nonneg h
theorem vl:(∀{α:Type}{a:α}{l:List α},(a::l).length=l.length+1)/\(∀{α:Type},([]:List α).length=0)/\(∀{α:Type}{a b:List α},(a++b).length=a.length+b.length)/\
  (∀{zs:List Int}{i x:Int},(BE zs i x).length=zs.length)/\(∀{zs:List (List Nat)}{i:Int}{x:List Nat},(Gw zs i x).length=zs.length)/\(∀{zs:List Bool}{i:Int}{x:Bool},(Cf zs i x).length=zs.length)/\
  (∀{zs:List (List Int)}{i:Int}{x:List Int},(Dz zs i x).length=zs.length)/\(∀{α:Type}{xs:List α}{i j:Int},(sub xs i j).length=min j.toNat xs.length-i.toNat)/\(∀{α:Type}{n:Int}{y:α},(rep n y).length=n.toNat)/\
  (∀{α β:Type}{f:α->β}{l:List α},(l.map f).length=l.length)/\(∀{α:Type}{l:List α}{n:Nat},(l.take n).length=min n l.length)/\(∀{α:Type}{l:List α}{n:Nat},(l.drop n).length=l.length-n)/\(∀{α:Type}{l:List α},l.reverse.length=l.length):=
 ⟨AP,A5,AW,by simp[BE],by simp[Gw],by simp[Cf],by simp[Dz],by simp[sub],by simp[rep],List.length_map _,List.length_take,List.length_drop,List.length_reverse⟩
theorem AAG{p:Bool}:(p==p)=true:=by simp
theorem AR9{x:List Nat}:(x==x)=true:=by simp
theorem Hc{zs:List Int}{i j:Nat}{x:Int}(hi:i<zs.length):AB (BE zs i x) j=if i=j then x else AB zs j:=by simp only[AB,BE,BM,Ap,List.getElem?_set];split;rename_i h;subst h;simp;rfl
theorem AC3{zs:List (List Nat)}{i j:Nat}{x:List Nat}(hi:i<zs.length):AF (Gw zs i x) j=if i=j then x else AF zs j:=by simp only[AF,Gw,BM,Ap,List.getElem?_set];split;rename_i h;subst h;simp;rfl
theorem AOM{zs:List Bool}{i j:Nat}{x:Bool}(hi:i<zs.length):CU (Cf zs i x) j=if i=j then x else CU zs j:=by simp only[CU,Cf,BM,Ap,List.getElem?_set];split;rename_i h;subst h;simp;rfl
theorem HV{a b:List Int}(B:a.length=b.length)(h:∀j:Nat,j<a.length->AB a j=AB b j):a=b:=by apply List.ext_getElem B;intro j l o;have:=h j l;simpa[AB,l,o]using this
theorem Lg{α:Type}{n:Int}{y:α}:(rep n y).length=n.toNat:=by simp[rep]
section
variable{zs:List Int}{i j x:Int}
theorem DN:(BE zs i x).length=zs.length:=by simp[BE]
theorem ON{ss:List (List Nat)}{s:List Nat}:(Gw ss i s).length=ss.length:=by simp[Gw]
theorem G4{ss:List Bool}{s:Bool}:(Cf ss i s).length=ss.length:=by simp[Cf]
theorem Xy{ss:List (List Int)}{s:List Int}:(Dz ss i s).length=ss.length:=by simp[Dz]
theorem J6{α:Type}{xs:List α}:(sub xs i j).length=min j.toNat xs.length-i.toNat:=by simp[sub]
end
theorem DU{K:Nat->List D->List D->Prop}{g:Nat}{ds:List D}{r:Nat}{e:Env}{Q:Env->Prop}{rs:List D}(h:K g ds rs)(l:rs.length=r)(o:Q (e++rs)):OH K g ds r e Q:=⟨rs,h,l,o⟩
theorem EN{w:List Nat}{i:Nat}(h:i<w.length):w.drop i=AH w i::w.drop (i+1):=by rw[List.drop_eq_getElem_cons h];simp[AH,h]
theorem Kk{w:List Int}{i:Nat}(h:i<w.length):w.drop i=AB w i::w.drop (i+1):=by rw[List.drop_eq_getElem_cons h];simp[AB,h]
theorem D2{a b c d:D}(h:a=c)(l:b=d):[a,b]=[c,d]:=by rw[h,l]
theorem Db{p q:Bool}(h:p=q):[D.b p]=[D.b q]:=by rw[h]
theorem Dn{k:IntKind}{p q:Int}(h:p=q):[D.i k p]=[D.i k q]:=by rw[h]
theorem Dl{p q:List Int}(h:p=q):[LI p]=[LI q]:=by rw[h]
theorem LU{zs:List Int}{p:Int->Bool}{i:Nat}(hi:i<zs.length)(h:p (AB zs i)=false):zs.all p=false:=by rw[Bool.eq_false_iff];intro l;rw[Ao]at l;have:=l (AB zs i) (by simp[AB,hi]);rw[h]at this;cases this
theorem KX{zs:List Int}{p:Int->Bool}(h:∀j:Nat,j<zs.length->p (AB zs j)=true):zs.all p=true:=by rw[Ao];intro x o;obtain⟨j,l,rfl⟩:=List.mem_iff_getElem.1 o;have:=h j l;simpa[AB,l]using this
theorem Bg{i:Nat}{p:Nat->Prop}(h:∀j,j<i->p j)(l:p i):∀j,j<i+1->p j:=by
 intro j o;rcases BQ j i with q|q;exact h j q;obtain rfl:j=i:=by omega
 exact l
def MP{α:Type}(f:α->D)(m:List (List Nat×α)):D:=.g (m.map λx=>.g [.s x.1,f x.2])
def MI(m:List (List Nat×Int)):D:=MP D.n m
def MS(m:List (List Nat×List Nat)):D:=MP D.s m
def Cr{α:Type}(k:List Nat):List (List Nat×α)->Option α
 |[]=>none
 |(j,v)::m=>if k=j then some v else Cr k m
def GY{α:Type}(k:List Nat)(v:α):List (List Nat×α)->List (List Nat×α)
 |[]=>[(k,v)]
 |(j,x)::m=>if k=j then(k,v)::m else(j,x)::GY k v m
theorem Oo{α:Type}{f:α->D}{k:List Nat}:∀m:List (List Nat×α),getM k (m.map λx=>.g [.s x.1,f x.2])=(Cr k m).map f
 |[]=>rfl
 |(j,v)::m=>by simp only[List.map_cons,getM,Cr];split;rfl;exact Oo m
theorem Ve{α:Type}{f:α->D}{k:List Nat}{v:α}:∀m:List (List Nat×α),HO k (f v) (m.map λx=>.g [.s x.1,f x.2])=(GY k v m).map λx=>.g [.s x.1,f x.2]
 |[]=>rfl
 |(j,x)::m=>by simp only[List.map_cons,HO,GY];split;rfl;rw[Ve m];rfl
section
variable{k:List Nat}{m:List (List Nat×Int)}{ms:List (List Nat×List Nat)}{v d:Int}{s e:List Nat}
theorem muI:ID (MI m) (.s k) (.n v)=some (MI (GY k v m)):=by simp only[MI,MP,ID,D.flat,if_true];rw[Ve]
theorem muS:ID (MS ms) (.s k) (.s s)=some (MS (GY k s ms)):=by simp only[MS,MP,ID,D.flat,if_true];rw[Ve]
theorem AKP:ID (.g []) (.s k) (.n v)=some (MI [(k,v)]):=rfl
theorem AHA:ID (.g []) (.s k) (.s s)=some (MS [(k,s)]):=rfl
theorem mgI:JH (.n d) (MI m) (.s k)=some (.n ((Cr k m).getD d)):=by simp only[MI,MP,JH];rw[Oo];cases Cr k m<;>rfl
theorem mgS:JH (.s e) (MS ms) (.s k)=some (.s ((Cr k ms).getD e)):=by simp only[MS,MP,JH];rw[Oo];cases Cr k ms<;>rfl
theorem moI:Il (.n d) (MI m) (.s k)=some (.n ((Cr k m).getD d),.b (Cr k m).isSome):=by simp only[MI,MP,Il];rw[Oo];cases Cr k m<;>rfl
theorem moS:Il (.s e) (MS ms) (.s k)=some (.s ((Cr k ms).getD e),.b (Cr k ms).isSome):=by simp only[MS,MP,Il];rw[Oo];cases Cr k ms<;>rfl
end
def Iy(R:Env->Prop)(Q:X->Env->Prop):X->Env->Prop
 |.n,e=>R e
 |.ex j,e=>Q (.ex j) e
 |.r,e=>Q .r e
theorem ATE{R:Env->Prop}{Q:X->Env->Prop}{e:Env}:Iy R Q .n e=R e:=rfl
theorem ARI{R:Env->Prop}{Q:X->Env->Prop}{e:Env}{j:Nat}:Iy R Q (.ex j) e=Q (.ex j) e:=rfl
theorem AQ7{R:Env->Prop}{Q:X->Env->Prop}{e:Env}:Iy R Q .r e=Q .r e:=rfl
def iter{σ:Type}(f:Nat->σ->σ):Nat->σ->σ
 |0,s=>s
 |n+1,s=>f n (iter f n s)
theorem Vh{σ:Type}{f:Nat->σ->σ}{l:σ}(P:σ->Prop)(h0:P l)(h:∀i s,P s->P (f i s)):∀n,P (iter f n l)
 |0=>h0
 |n+1=>h n _ (Vh P h0 h n)
theorem Bd{K:Nat->List D->List D->Prop}{b:S}{Q:X->Env->Prop}{e:Env}{σ:Type}(I:σ->Prop)(mk:σ->Env)(m:σ->Nat)(l:σ)(h0:I l)(he:e=mk l)
  (step:∀s,I s->wpS K b (Iy (λo=>∃s',m s' < m s/\I s'/\o=mk s') Q) (mk s)):wpS K (.loop b) Q e:=by
 refine AdL (λn e=>∃s,n=m s/\I s/\e=mk s) (m l) ⟨l,rfl,h0,he⟩ ?_;rintro _ _ ⟨s,rfl,G,rfl⟩;refine Dh b (λx e h=>?_) (step s G)
 cases x with
 |n=>obtain⟨s',B,C,F⟩:=h;exact⟨m s',B,s',rfl,C,F⟩
 |ex j=>exact h
 |r=>exact h
theorem Ah{K:Nat->List D->List D->Prop}{b:S}{Q:X->Env->Prop}{e:Env}{σ:Type}(P:Nat->σ->Prop)(mk:Nat->σ->Env)(n:Nat)(B:σ)(h0:P 0 B)(he:e=mk 0 B)
  (step:∀i s,i<n->P i s->wpS K b (Iy (λF=>∃s',P (i+1) s'/\F=mk (i+1) s') Q) (mk i s))
  (last:∀s,P n s->wpS K b (Iy (λ_=>False) Q) (mk n s)):wpS K (.loop b) Q e:=by
 refine Bd (λ(x:Nat×σ)=>x.1<=n/\P x.1 x.2) (λx=>mk x.1 x.2) (λx=>n-x.1) (0,B) ⟨Nat.zero_le _,h0⟩ he ?_;rintro⟨i,s⟩ ⟨hi,C⟩;rcases BQ i n with l|o
 .refine Dh b (λx e h=>?_) (step i s l C)
  cases x with
  |n=>obtain⟨s',G,I⟩:=h;exact⟨(i+1,s'),by show n-(i+1)<n-i;omega,⟨l,G⟩,I⟩
  |ex j=>exact h
  |r=>exact h
 .obtain rfl:i=n:=Nat.le_antisymm hi o;refine Dh b (λx e h=>?_) (last s C)
  cases x with
  |n=>exact h.elim
  |ex j=>exact h
  |r=>exact h
theorem AN{K:Nat->List D->List D->Prop}{b:S}{Q:X->Env->Prop}{e:Env}(P:Nat->Prop)(mk:Nat->Env)(n:Nat)(h0:P 0)(he:e=mk 0)
  (step:∀i,i<n->P i->wpS K b (Iy (λl=>P (i+1)/\l=mk (i+1)) Q) (mk i))
  (last:P n->wpS K b (Iy (λ_=>False) Q) (mk n)):wpS K (.loop b) Q e:=by
 refine Ah (λi (_:Unit)=>P i) (λi _=>mk i) n () h0 he (λi _ hi o=>?_) (λ_ h=>last h);refine Dh b (λx e h=>?_) (step i hi o)
 cases x with
 |n=>exact⟨(),h.1,h.2⟩
 |ex j=>exact h
 |r=>exact h
theorem Pw{K:Nat->List D->List D->Prop}{b:S}{Q:X->Env->Prop}{e:Env}{σ:Type}(f:Nat->σ->σ)(P:Nat->σ->Prop)(mk:Nat->σ->Env)(n:Nat)(l:σ)(h0:P 0 l)(he:e=mk 0 l)
  (G:∀i s,i<n->P i s->P (i+1) (f i s))
  (step:∀i s,i<n->P i s->s=iter f i l->wpS K b (Iy (λC=>C=mk (i+1) (f i s)) Q) (mk i s))
  (last:∀s,s=iter f n l->P n s->wpS K b (Iy (λ_=>False) Q) (mk n s)):wpS K (.loop b) Q e:=by
 refine Ah (λi s=>s=iter f i l/\P i s) mk n l ⟨rfl,h0⟩ he (λi s hi F=>?_) (λs h=>last s h.1 h.2);obtain⟨o,B⟩:=F;refine Dh b (λx e h=>?_) (step i s hi B o)
 cases x with
 |n=>exact⟨f i s,⟨by rw[o];rfl,G i s hi B⟩,h⟩
 |ex j=>exact h
 |r=>exact h
theorem ZW{K:Nat->List D->List D->Prop}{k:Nat}{f:IF}[h:Has K k f]{ds rs:List D}(B:ds.length=f.np)(l:wpS K f.body (MB f.res rs) (ds++List.replicate (f.nv-f.np) .u))(o:Gc f.cl rs=true:=by rfl):K k ds rs:=by
 refine h.h ds rs ⟨⟨B,o⟩,?_⟩;refine Dh _ (λx e h=>?_) l
 cases x with
 |ex _=>exact h.elim
 |n=>exact⟨trivial,h⟩
 |r=>exact⟨trivial,h⟩
section
variable{K:Nat->List D->List D->Prop}
theorem AaO{p:Pr}{e:Env}{Q:Env->Prop}(h:Ae K p e Q):∃C,Q C/\Ae K p e (·=C):=by unfold Ae at*;split at h;exact⟨_,h,rfl⟩;obtain⟨rs,l,o,B⟩:=h;exact⟨_,B,rs,l,o,rfl⟩;obtain⟨h0,rs,l,o,B⟩:=h;exact⟨_,B,h0,rs,l,o,rfl⟩;split at h;exact⟨_,h,rfl⟩;exact h.elim;split at h;exact⟨_,h,rfl⟩;exact h.elim;split at h;exact⟨_,h,rfl⟩;exact h.elim;split at h;exact⟨_,h,rfl⟩;exact h.elim;split at h;exact⟨_,h,rfl⟩;exact h.elim
theorem X9:∀{I:List It}{e:Env}{Q:Env->Prop}(_:Ej K I e Q),∃C,Q C/\Ej K I e (·=C)
 |[],e,Q,h=>⟨e,h,rfl⟩
 |it::I,e,Q,h=>by simp only[Ej,I0]at*;split at h;rename_i L;obtain⟨J,F,G⟩:=AaO h;obtain⟨l,o,B⟩:=X9 F;refine⟨l,o,?_⟩;exact AIS (λe h=>by subst h;exact B) G;obtain⟨l,o,B⟩:=X9 h;exact⟨l,o,B⟩;exact h.elim
theorem AH7{R:(X->Env->Prop)->Env->Prop}(B:∀Q G e,(∀x e,Q x e->G x e)->R Q e->R G e)(J:∀Q e,R Q e->∃o l,Q o l/\R (λx e=>x=o/\e=l) e):
  ∀(n:Nat){e:Env}{Q:X->Env->Prop}(_:EK R n Q e),∃o l,Q o l/\EK R n (λx e=>x=o/\e=l) e
 |0,_,_,h=>h.elim
 |n+1,e,Q,h=>by
  simp only[EK]at h;obtain⟨O,I,C,F⟩:=J _ _ h
  cases O with
  |n=>
   obtain⟨T,L,M,N⟩:=AH7 B J n C
   refine⟨T,L,M,?_⟩
   simp only[EK]
   exact B _ _ _ (λx e h=>by obtain⟨rfl,rfl⟩:=h;exact N) F
  |ex j=>
   refine⟨.ex j,I,C,?_⟩
   simp only[EK]
   exact B _ _ _ (λx e h=>by obtain⟨rfl,rfl⟩:=h;exact⟨rfl,rfl⟩) F
  |r=>
   refine⟨.r,I,C,?_⟩
   simp only[EK]
   exact B _ _ _ (λx e h=>by obtain⟨rfl,rfl⟩:=h;exact⟨rfl,rfl⟩) F
theorem MY:∀(s:S){e:Env}{Q:X->Env->Prop}(_:wpS K s Q e),∃I G,Q I G/\wpS K s (λx e=>x=I/\e=G) e
 |.skip,e,Q,h=>⟨_,_,h,rfl,rfl⟩
 |.reg O out,e,Q,h=>by simp only[wpS]at h;obtain⟨B,l,o⟩:=X9 h;exact⟨_,_,l,RZ (λe h=>by subst h;exact⟨rfl,rfl⟩) o⟩
 |.seq a b,e,Q,h=>by
  simp only[wpS]at h;obtain⟨C,B,l,o⟩:=MY a h
  cases C with
  |n=>
   obtain⟨T,J,L,M⟩:=MY b l
   refine⟨T,J,L,?_⟩
   simp only[wpS]
   exact Dh a (λx e h=>by obtain⟨rfl,rfl⟩:=h;exact M) o
  |ex j=>
   refine⟨.ex j,B,l,?_⟩
   simp only[wpS]
   exact Dh a (λx e h=>by obtain⟨rfl,rfl⟩:=h;exact⟨rfl,rfl⟩) o
  |r=>
   refine⟨.r,B,l,?_⟩
   simp only[wpS]
   exact Dh a (λx e h=>by obtain⟨rfl,rfl⟩:=h;exact⟨rfl,rfl⟩) o
 |.cond n x y,e,Q,h=>by simp only[wpS]at*;split at h;exact MY x h;exact MY y h;exact h.elim
 |.block id b,e,Q,h=>by
  simp only[wpS]at h;obtain⟨C,B,l,o⟩:=MY b h
  cases C with
  |n=>
   refine⟨.n,B,l,?_⟩
   simp only[wpS]
   exact Dh b (λx e h=>by obtain⟨rfl,rfl⟩:=h;exact⟨rfl,rfl⟩) o
  |ex j=>
   simp only at l
   split at l
   .rename_i F
    refine⟨.n,B,l,?_⟩
    simp only[wpS]
    exact Dh b (λx e h=>by obtain⟨rfl,rfl⟩:=h;simp[F]) o
   .rename_i F
    refine⟨.ex j,B,l,?_⟩
    simp only[wpS]
    exact Dh b (λx e h=>by obtain⟨rfl,rfl⟩:=h;simp[F]) o
  |r=>
   refine⟨.r,B,l,?_⟩
   simp only[wpS]
   exact Dh b (λx e h=>by obtain⟨rfl,rfl⟩:=h;exact⟨rfl,rfl⟩) o
 |.loop b,e,Q,h=>by simp only[wpS]at h;obtain⟨n,h⟩:=h;obtain⟨C,B,l,o⟩:=AH7 (R:=wpS K b) (λQ U e N h=>Dh b N h) (λQ e h=>MY b h) n h;exact⟨C,B,l,n,o⟩
 |.exit id,e,Q,h=>⟨_,_,h,rfl,rfl⟩
 |.ret,e,Q,h=>⟨_,_,h,rfl,rfl⟩
theorem AZW{k:Nat}{f:IF}[h:Has K k f]{ds:List D}{P:List D->Prop}(G:ds.length=f.np)(C:wpS K f.body (Sl f.res P) (ds++List.replicate (f.nv-f.np) .u))(F:∀rs,P rs->Gc f.cl rs=true:=by intros;rfl):∃rs,P rs/\K k ds rs:=by
 obtain⟨x,e,l,B⟩:=MY _ C;have o:(∀j,x≠.ex j)/\P (f.res.map e.E):=by
  cases x with
  |ex j=>exact l.elim
  |n=>exact⟨by simp,l⟩
  |r=>exact⟨by simp,l⟩
 refine⟨_,o.2,h.h ds _ ⟨⟨G,F _ o.2⟩,Dh _ (λI J h=>?_) B⟩⟩;obtain⟨rfl,rfl⟩:=h
 cases I with
 |ex j=>exact(o.1 j rfl).elim
 |n=>exact⟨trivial,rfl⟩
 |r=>exact⟨trivial,rfl⟩
end
end Go.Cat
namespace Go.Cat
set_option maxRecDepth 10000
theorem vcL:
  (∀{α:Type}{a:α}{h bs:List α},(a::h)++bs=a::(h++bs))/\
  (∀{α:Type}{h:List α},[]++h=h)/\
  (∀{α:Type}{h:List α},h++[]=h)/\
  (∀{α β:Type}{f:α->β}{a:α}{l:List α},List.map f (a::l)=f a::List.map f l)/\
  (∀{α β:Type}{f:α->β},List.map f []=[])/\
  (∀{α:Type}{a b:α}{l:List α},(a::l).set 0 b=b::l)/\
  (∀{α:Type}{a b:α}{l:List α}{n:Nat},(a::l).set (n+1) b=a::l.set n b)/\
  (∀{α:Type}{a:α}{n:Nat},List.replicate (n+1) a=a::List.replicate n a)/\
  (∀{α:Type}{a:α},List.replicate 0 a=[])/\
  (∀{α β:Type}{f:α->Option β}{a:α},(some a).bind f=f a)/\
  (∀{α β:Type}{f:α->β}{a:α},(some a).map f=some (f a))/\
  (∀{α β:Type}{f:α->β},(none:Option α).map f=none)/\
  ((!true)=false)/\((!false)=true)/\(∀{b:Bool},(!!b)=b)/\
  (∀{α:Sort 1}{a b:α},(if True then a else b)=a)/\(∀{α:Sort 1}{a b:α},(if False then a else b)=b)/\
  (∀{b:Bool},(b&&true)=b)/\(∀{b:Bool},(true&&b)=b)/\(∀{b:Bool},(b&&false)=false)/\(∀{b:Bool},(false&&b)=false)/\
  (∀{b:Bool},(b||true)=true)/\(∀{b:Bool},(true||b)=true)/\(∀{b:Bool},(b||false)=b)/\(∀{b:Bool},(false||b)=b)/\
  (∀[Decidable True],decide True=true)/\(∀[Decidable False],decide False=false)/\
  (∀{i:Nat},((i+1:Nat):Int)=(i:Int)+1)/\(((0:Nat):Int)=0)/\
  (∀{p:Prop},(p/\True)=p)/\(∀{p:Prop},(True/\p)=p)/\
  (Pr.nop.np=0)/\(∀{g:Nat}{xs:List A}{r:Nat},(Pr.ca g xs r).np=r):=
 ⟨List.cons_append,List.nil_append _,List.append_nil _,List.map_cons,List.map_nil,List.set_cons_zero,List.set_cons_succ,List.replicate_succ,List.replicate_zero,Option.bind_some _ _,Option.map_some _ _,Option.map_none _,
  rfl,rfl,Bool.not_not _,if_pos trivial,if_neg id,Bool.and_true _,Bool.true_and _,Bool.and_false _,Bool.false_and _,Bool.or_true _,Bool.true_or _,Bool.or_false _,Bool.false_or _,decide_eq_true trivial,decide_eq_false id,Int.natCast_succ _,rfl,and_true _,true_and _,rfl,rfl⟩
theorem vcN:
 (∀{s:Sh}{d:D},(Pr.cs s d).np=1)/\
 (∀{a:A},(Pr.cy a).np=1)/\
 (∀{o:BinOp}{a b:A},(Pr.bi o a b).np=1)/\
 (∀{o:BinOp}{a b:A},(Pr.bb o a b).np=1)/\
 (∀{o:UnOp}{a:A},(Pr.un o a).np=1)/\
 (∀{a b c:A},(Pr.pk a b c).np=1)/\
 (∀{k:IntKind}{a:A},(Pr.cv k a).np=1)/\
 (∀{a:A}{p:List PE},(Pr.ln a p).np=1)/\
 (∀{a:A},(Pr.sn a).np=1)/\
 (∀{a b:A},(Pr.sx a b).np=1)/\
 (∀{a:A}{lo hi:Option A},(Pr.ss a lo hi).np=1)/\
 (∀{a:A}{p:List PE}{b:A},(Pr.ix a p b).np=1)/\
 (∀{n:Nat}{p:List PE}{a:A},(Pr.up n p a).np=1)/\
 (∀{F:Bool}{a:A}{lo hi:Option A},(Pr.sb F a lo hi).np=1)/\
 (∀{fl:Bool}{a b:A},(Pr.ap fl a b).np=1)/\
 (∀{d:D}{a b:A},(Pr.mk d a b).np=1)/\
 (∀{s:Sh}{xs:List A},(Pr.li s xs).np=1)/\
 (∀{a:A},(Pr.bs a).np=1)/\
 (∀{a:A},(Pr.sy a).np=1)/\
 (∀{a b:A},(Pr.mx a b).np=1)/\
 (∀{a b:A},(Pr.mn a b).np=1)/\
 (∀{a b:A},(Pr.iy a b).np=1)/\
 (∀{k:Nat}{xs:List (A×Nat)},(Pr.bg k xs).np=1)/\
 (∀{a:A},(Pr.bp a).np=1)/\
 (∀{a:A}{k:Nat},(Pr.gp a k).np=1)/\
 (∀{w:Bool}{a:A},(Pr.nz w a).np=1)/\
 (∀{a:A},(Pr.nn a).np=1)/\
 (∀{k:Nat}{a:A},(Pr.wl k a).np=1)/\
 (∀{n k:Nat}{a:A},(Pr.ws n k a).np=1)/\
 (∀{a:A}{p:List PE},(Pr.gt a p).np=1)/\
 (∀{fl:Bool}{a:A}{k:Nat},(Pr.fp fl a k).np=1)/\
 (∀{n:Nat}{p:List PE}{a:A}{i k:Nat},(Pr.uq n p a i k).np=1)/\
 (∀{n:Nat},(Pr.cb n).np=1)/\
 (∀{n:Nat}{p:List PE}{a:A}{k:Nat},(Pr.jn n p a k).np=1)/\
 (Pr.mm.np=1)/\
 (∀{n:Nat}{a b:A},(Pr.mu n a b).np=1)/\
 (∀{n:Nat}{a:A}{d:D},(Pr.mg n a d).np=1)/\
 (∀{n:Nat}{a:A}{d:D},(Pr.mo n a d).np=2)/\
 (∀{n:Nat},(Pr.tk n).np=2)/\
 (∀{n k:Nat}{p:List PE},(Pr.sp n p k).np=2)/\
 (∀{n:Nat},(Pr.sw n).np=2):=
 ⟨rfl,rfl,rfl,rfl,rfl,rfl,rfl,rfl,rfl,rfl,rfl,rfl,rfl,rfl,rfl,rfl,rfl,rfl,rfl,rfl,rfl,rfl,rfl,rfl,rfl,rfl,rfl,rfl,rfl,rfl,rfl,rfl,rfl,rfl,rfl,rfl,rfl,rfl,rfl,rfl,rfl⟩
theorem vcO:
 (∀{a b:Int},(a<b)->decide (a<b)=true)/\
 (∀{a b:Int},(b<=a)->decide (a<b)=false)/\
 (∀{a b:Int},(a<=b)->decide (a<=b)=true)/\
 (∀{a b:Int},(b<a)->decide (a<=b)=false)/\
 (∀{a b:Int},(a=b)->decide (a=b)=true)/\
 (∀{a b:Int},(a<b\/b<a)->decide (a=b)=false):=
 ⟨decide_eq_true,λh=>decide_eq_false (by omega),decide_eq_true,λh=>decide_eq_false (by omega),decide_eq_true,λh=>decide_eq_false (by omega)⟩
theorem vc0:type_of% (And.intro @wp_seq <|And.intro @wp_block <|And.intro @wp_skip <|And.intro @wp_exit <|And.intro @wp_ret <|And.intro @ARB <|And.intro @wp_cond <|And.intro @ASN <|And.intro @ALG <|And.intro @APA <|And.intro @AB8 <|And.intro @AS9 <|And.intro @AMX <|And.intro @AF5 <|And.intro @APS <|And.intro @AF0 <|And.intro @ACB <|And.intro @AMC <|And.intro @ATE <| @ARI):=And.intro @wp_seq <|And.intro @wp_block <|And.intro @wp_skip <|And.intro @wp_exit <|And.intro @wp_ret <|And.intro @ARB <|And.intro @wp_cond <|And.intro @ASN <|And.intro @ALG <|And.intro @APA <|And.intro @AB8 <|And.intro @AS9 <|And.intro @AMX <|And.intro @AF5 <|And.intro @APS <|And.intro @AF0 <|And.intro @ACB <|And.intro @AMC <|And.intro @ATE <| @ARI
theorem vc1:type_of% (And.intro @AQ7 <|And.intro @AKK <|And.intro @AAF <|And.intro @AN6 <|And.intro @AFH <|And.intro @ACL <|And.intro @ANL <|And.intro @AEE <|And.intro @Zr <|And.intro @AQI <|And.intro @ALA <|And.intro @ATQ <|And.intro @AEX <|And.intro @ACZ <|And.intro @AC8 <|And.intro @AGZ <|And.intro @APB <|And.intro @AH9 <|And.intro @AQ9 <| @AKV):=And.intro @AQ7 <|And.intro @AKK <|And.intro @AAF <|And.intro @AN6 <|And.intro @AFH <|And.intro @ACL <|And.intro @ANL <|And.intro @AEE <|And.intro @Zr <|And.intro @AQI <|And.intro @ALA <|And.intro @ATQ <|And.intro @AEX <|And.intro @ACZ <|And.intro @AC8 <|And.intro @AGZ <|And.intro @APB <|And.intro @AH9 <|And.intro @AQ9 <| @AKV
theorem vc2:type_of% (And.intro @AS1 <|And.intro @AKH <|And.intro @AQN <|And.intro @AHY <|And.intro @AJ1 <|And.intro @ATL <|And.intro @Zz <|And.intro @ADR <|And.intro @AK3 <|And.intro @AP5 <|And.intro @AHP <|And.intro @AHN <|And.intro @AP3 <|And.intro @ACV <|And.intro @AHB <|And.intro @AAO <|And.intro @ARP <|And.intro @APG <|And.intro @AFM <| @AQ2):=And.intro @AS1 <|And.intro @AKH <|And.intro @AQN <|And.intro @AHY <|And.intro @AJ1 <|And.intro @ATL <|And.intro @Zz <|And.intro @ADR <|And.intro @AK3 <|And.intro @AP5 <|And.intro @AHP <|And.intro @AHN <|And.intro @AP3 <|And.intro @ACV <|And.intro @AHB <|And.intro @AAO <|And.intro @ARP <|And.intro @APG <|And.intro @AFM <| @AQ2
theorem vc3:type_of% (And.intro @AFX <|And.intro @AED <|And.intro @AJJ <|And.intro @ALU <|And.intro @ANT <|And.intro @ASD <|And.intro @AG8 <|And.intro @AP8 <|And.intro @AJ3 <|And.intro @AMQ <|And.intro @AAQ <|And.intro @AHM <|And.intro @ASX <|And.intro @AC9 <|And.intro @ZS <|And.intro @AJ8 <|And.intro @AFJ <|And.intro @Zg <|And.intro @AR7 <| @AJL):=And.intro @AFX <|And.intro @AED <|And.intro @AJJ <|And.intro @ALU <|And.intro @ANT <|And.intro @ASD <|And.intro @AG8 <|And.intro @AP8 <|And.intro @AJ3 <|And.intro @AMQ <|And.intro @AAQ <|And.intro @AHM <|And.intro @ASX <|And.intro @AC9 <|And.intro @ZS <|And.intro @AJ8 <|And.intro @AFJ <|And.intro @Zg <|And.intro @AR7 <| @AJL
theorem vc4:type_of% (And.intro @ANC <|And.intro @AIK <|And.intro @ATX <|And.intro @AI2 <|And.intro @AOV <|And.intro @ARV <|And.intro @AAU <|And.intro @ACO <|And.intro @AJO <|And.intro @AI6 <|And.intro @AMN <|And.intro @AR1 <|And.intro @AFR <|And.intro @AJX <|And.intro @AQF <|And.intro @AAH <|And.intro @ASU <|And.intro @AD8 <|And.intro @ABC <| @AE7):=And.intro @ANC <|And.intro @AIK <|And.intro @ATX <|And.intro @AI2 <|And.intro @AOV <|And.intro @ARV <|And.intro @AAU <|And.intro @ACO <|And.intro @AJO <|And.intro @AI6 <|And.intro @AMN <|And.intro @AR1 <|And.intro @AFR <|And.intro @AJX <|And.intro @AQF <|And.intro @AAH <|And.intro @ASU <|And.intro @AD8 <|And.intro @ABC <| @AE7
theorem vc5:type_of% (And.intro @ZV <|And.intro @AEB <|And.intro @AC2 <|And.intro @ADK <|And.intro @AGN <|And.intro @AAV <|And.intro @ATP <|And.intro @ANB <|And.intro @AQ6 <|And.intro @ANK <|And.intro @AGV <|And.intro @ABU <|And.intro @AQV <|And.intro @APQ <|And.intro @AGC <|And.intro @ARX <|And.intro @AEM <|And.intro @AHO <|And.intro @ANS <| @ARO):=And.intro @ZV <|And.intro @AEB <|And.intro @AC2 <|And.intro @ADK <|And.intro @AGN <|And.intro @AAV <|And.intro @ATP <|And.intro @ANB <|And.intro @AQ6 <|And.intro @ANK <|And.intro @AGV <|And.intro @ABU <|And.intro @AQV <|And.intro @APQ <|And.intro @AGC <|And.intro @ARX <|And.intro @AEM <|And.intro @AHO <|And.intro @ANS <| @ARO
theorem vc6:type_of% (And.intro @AT2 <|And.intro @AL4 <|And.intro @AGE <|And.intro @Z0 <|And.intro @AOX <|And.intro @Zj <|And.intro @Z6 <|And.intro @ADD <|And.intro @AMZ <|And.intro @Vd <|And.intro @Wy <|And.intro @VI <|And.intro @Ww <|And.intro @Vk <|And.intro @AE9 <|And.intro @AMM <|And.intro @ADO <|And.intro @AI7 <|And.intro @AMU <| @AFK):=And.intro @AT2 <|And.intro @AL4 <|And.intro @AGE <|And.intro @Z0 <|And.intro @AOX <|And.intro @Zj <|And.intro @Z6 <|And.intro @ADD <|And.intro @AMZ <|And.intro @Vd <|And.intro @Wy <|And.intro @VI <|And.intro @Ww <|And.intro @Vk <|And.intro @AE9 <|And.intro @AMM <|And.intro @ADO <|And.intro @AI7 <|And.intro @AMU <| @AFK
theorem vc7:type_of% (And.intro @AS8 <|And.intro @AQE <|And.intro @AIF <|And.intro @AFW <|And.intro @AIU <|And.intro @AL0 <|And.intro @ADG <|And.intro @ALZ <|And.intro @AQS <|And.intro @AEK <|And.intro @AN9 <|And.intro @AOG <|And.intro @wrap_i64 <|And.intro @wrap_u8 <|And.intro @AES <|And.intro @ATS <|And.intro @AHF <|And.intro @Z7 <|And.intro @ANJ <| @AFB):=And.intro @AS8 <|And.intro @AQE <|And.intro @AIF <|And.intro @AFW <|And.intro @AIU <|And.intro @AL0 <|And.intro @ADG <|And.intro @ALZ <|And.intro @AQS <|And.intro @AEK <|And.intro @AN9 <|And.intro @AOG <|And.intro @wrap_i64 <|And.intro @wrap_u8 <|And.intro @AES <|And.intro @ATS <|And.intro @AHF <|And.intro @Z7 <|And.intro @ANJ <| @AFB
theorem vc8:type_of% (And.intro @ALJ <|And.intro @AEZ <|And.intro @AIP <|And.intro @AEP <|And.intro @AQZ <|And.intro @APH <|And.intro @ALE <|And.intro @ACE <|And.intro @AQW <|And.intro @AH5 <|And.intro @ATU <|And.intro @AMP <|And.intro @AGS <|And.intro @AD0 <|And.intro @ABG <|And.intro @AOD <|And.intro @AOF <|And.intro @UK <|And.intro @AP7 <| @AJY):=And.intro @ALJ <|And.intro @AEZ <|And.intro @AIP <|And.intro @AEP <|And.intro @AQZ <|And.intro @APH <|And.intro @ALE <|And.intro @ACE <|And.intro @AQW <|And.intro @AH5 <|And.intro @ATU <|And.intro @AMP <|And.intro @AGS <|And.intro @AD0 <|And.intro @ABG <|And.intro @AOD <|And.intro @AOF <|And.intro @UK <|And.intro @AP7 <| @AJY
theorem vc9:type_of% (And.intro @AHC <|And.intro @AMH <|And.intro @Zy <|And.intro @AFS <|And.intro @ALX <|And.intro @AJM <|And.intro @Zh <|And.intro @Zs <|And.intro @AFL <|And.intro @AOZ <|And.intro @ACX <|And.intro @AJ0 <|And.intro @ZX <|And.intro @ASM <|And.intro @Wu <|And.intro @AF4 <|And.intro @ABB <|And.intro @ATK <|And.intro @AC4 <| @AGA):=And.intro @AHC <|And.intro @AMH <|And.intro @Zy <|And.intro @AFS <|And.intro @ALX <|And.intro @AJM <|And.intro @Zh <|And.intro @Zs <|And.intro @AFL <|And.intro @AOZ <|And.intro @ACX <|And.intro @AJ0 <|And.intro @ZX <|And.intro @ASM <|And.intro @Wu <|And.intro @AF4 <|And.intro @ABB <|And.intro @ATK <|And.intro @AC4 <| @AGA
theorem Z5:type_of% (And.intro @AE2 <|And.intro @AQO <|And.intro @Zi <|And.intro @ARE <|And.intro @U3 <|And.intro @VM <|And.intro @muI <|And.intro @muS <|And.intro @AKP <|And.intro @AHA <|And.intro @mgI <|And.intro @mgS <|And.intro @moI <|And.intro @moS <|And.intro @AQL <|And.intro @AM6 <|And.intro @AHT <|And.intro @Yi <|And.intro @APP <| @AI1):=And.intro @AE2 <|And.intro @AQO <|And.intro @Zi <|And.intro @ARE <|And.intro @U3 <|And.intro @VM <|And.intro @muI <|And.intro @muS <|And.intro @AKP <|And.intro @AHA <|And.intro @mgI <|And.intro @mgS <|And.intro @moI <|And.intro @moS <|And.intro @AQL <|And.intro @AM6 <|And.intro @AHT <|And.intro @Yi <|And.intro @APP <| @AI1
theorem AIC:type_of% (And.intro @AMI <|And.intro @RP <|And.intro @AT1 <|And.intro @ANG <|And.intro @Lj <|And.intro @QN <|And.intro @Wp <|And.intro @Z2 <|And.intro @AND <|And.intro @AHW <|And.intro @AFN <|And.intro @Z8 <|And.intro @ATY <|And.intro @Zt <|And.intro @AEU <|And.intro @AO1 <|And.intro @ASG <|And.intro @ALK <|And.intro @ANR <| @AE5):=And.intro @AMI <|And.intro @RP <|And.intro @AT1 <|And.intro @ANG <|And.intro @Lj <|And.intro @QN <|And.intro @Wp <|And.intro @Z2 <|And.intro @AND <|And.intro @AHW <|And.intro @AFN <|And.intro @Z8 <|And.intro @ATY <|And.intro @Zt <|And.intro @AEU <|And.intro @AO1 <|And.intro @ASG <|And.intro @ALK <|And.intro @ANR <| @AE5
theorem Zv:type_of% (And.intro @AIW <|And.intro @M6 <|And.intro @ATB <|And.intro @Zo <|And.intro @ADN <|And.intro @AMF <|And.intro @AAI <|And.intro @ANI <|And.intro @AOH <|And.intro @ACJ <|And.intro @Zp <|And.intro @AJG <|And.intro @AR3 <|And.intro @AFC <|And.intro @ACF <|And.intro @AKZ <|And.intro @ADY <|And.intro @AG2 <|And.intro @AD7 <| @KG):=And.intro @AIW <|And.intro @M6 <|And.intro @ATB <|And.intro @Zo <|And.intro @ADN <|And.intro @AMF <|And.intro @AAI <|And.intro @ANI <|And.intro @AOH <|And.intro @ACJ <|And.intro @Zp <|And.intro @AJG <|And.intro @AR3 <|And.intro @AFC <|And.intro @ACF <|And.intro @AKZ <|And.intro @ADY <|And.intro @AG2 <|And.intro @AD7 <| @KG
theorem AKY:type_of% (And.intro @AM1 <|And.intro @AM3 <|And.intro @Fv <|And.intro @AB4 <|And.intro @AKB <|And.intro @AO3 <|And.intro @AKX <|And.intro @AFY <|And.intro @APM <|And.intro @ALT <|And.intro @Q7 <|And.intro @Uv <|And.intro @V2 <|And.intro @ABF <|And.intro @AQJ <|And.intro @AE8 <|And.intro @Pz <|And.intro @QI <|And.intro @DN <| @ON):=And.intro @AM1 <|And.intro @AM3 <|And.intro @Fv <|And.intro @AB4 <|And.intro @AKB <|And.intro @AO3 <|And.intro @AKX <|And.intro @AFY <|And.intro @APM <|And.intro @ALT <|And.intro @Q7 <|And.intro @Uv <|And.intro @V2 <|And.intro @ABF <|And.intro @AQJ <|And.intro @AE8 <|And.intro @Pz <|And.intro @QI <|And.intro @DN <| @ON
theorem AGK:type_of% (And.intro @G4 <|And.intro @Xy <|And.intro @J6 <|And.intro @Lg <|And.intro @AR9 <|And.intro @AAG <|And.intro @AHU <|And.intro @AQH <|And.intro @W5 <| @XF):=And.intro @G4 <|And.intro @Xy <|And.intro @J6 <|And.intro @Lg <|And.intro @AR9 <|And.intro @AAG <|And.intro @AHU <|And.intro @AQH <|And.intro @W5 <| @XF
theorem vc:type_of% (And.intro vcL <|And.intro vcN <|And.intro vc0 <|And.intro vc1 <|And.intro vc2 <|And.intro vc3 <|And.intro vc4 <|And.intro vc5 <|And.intro vc6 <|And.intro vc7 <|And.intro vc8 <|And.intro vc9 <|And.intro Z5 <|And.intro AIC <|And.intro Zv <|And.intro AKY <|AGK):=And.intro vcL <|And.intro vcN <|And.intro vc0 <|And.intro vc1 <|And.intro vc2 <|And.intro vc3 <|And.intro vc4 <|And.intro vc5 <|And.intro vc6 <|And.intro vc7 <|And.intro vc8 <|And.intro vc9 <|And.intro Z5 <|And.intro AIC <|And.intro Zv <|And.intro AKY <|AGK
theorem AD:type_of% (And.intro vc vcO):=And.intro vc vcO
end Go.Cat
namespace Go.Cat
theorem dV{p:Prop}(h:p:=by first|omega|(simp only[vl];omega)):p:=h
theorem wW{p q:Prop}(h:q)(e:p=q:=by simp(disch:=first|omega|simp only[vl];omega) only[AD];rfl):p:=e▸h
theorem wZ{p:Prop}(h:p:=by simp(disch:=first|omega|simp only[vl];omega) only[AD]<;>rfl):p:=h
section
variable{K:Nat->List D->List D->Prop}{g:Nat}{ds:List D}{r:Nat}{e:Env}{Q:Env->Prop}{rs:List D}{q:Prop}
theorem cW(h:K g ds rs)(o:q)(l:rs.length=r:=by rfl)(c:Q (e++rs)=q:=by simp(disch:=first|omega|simp only[vl];omega) only[AD];rfl):OH K g ds r e Q:=⟨rs,h,l,c▸o⟩
theorem cZ(h:K g ds rs)(l:rs.length=r:=by rfl)(o:Q (e++rs):=by simp(disch:=first|omega|simp only[vl];omega) only[AD]<;>rfl):OH K g ds r e Q:=⟨rs,h,l,o⟩
theorem cB(h:K g ds rs)(o:Q (e++rs))(l:rs.length=r:=by rfl):OH K g ds r e Q:=⟨rs,h,l,o⟩
end
end Go.Cat
namespace Go.Cat
class HasV(K:Nat->List D->List D->Prop)(k:Nat)(f:IF):Prop where
 h:∀ds rs,Body K f ds rs->K k ds rs
theorem AmF{K:Nat->List D->List D->Prop}{k:Nat}{f:IF}[h:HasV K k f]{ds rs:List D}(B:ds.length=f.np)(l:wpS K f.body (MB f.res rs) (ds++List.replicate (f.nv-f.np) .u))(o:Gc f.cl rs=true:=by rfl):K k ds rs:=
 haveI:Has K k f:=⟨h.h⟩
 ZW (f:=f) B l o
end Go.Cat
namespace Go.Cat
open Go.ChangeShapes Go.WideShapes Go.ChangeAt Go.RowKit
section
variable{H:Type}{enc:TypeId×Value->H}{P:Program}
theorem AWU{f:Func}{s:ChangeSpec}{apart fresh h again:Bool}{W I:World}{args:Array Value}{v:Value}{ds gs:List (DataW H)}{before L pv:List MemPlace}
  (M:DataW.Whole enc P f.params.toList s.vars apart W args.toList ds gs before)
  (G:∀(b:Nat)(sp:Nat->Bool)(hd:Bool),DataW.TrodAll enc P I b sp hd f.resultTypes.toList (v.resultList f.resultTypes.size) (s.fn H (ds++gs)).results [])
  (l:∀sp:Nat->Bool,(∀p∈before,sp p.block=true)->DataW.TrodAll enc P I 0 sp true f.params.toList args.toList (s.fn H (ds++gs)).args L)
  (o:∀sp:Nat->Bool,(∀p∈before,sp p.block=true)->DataW.TrodVars enc P I sp s.vars (s.fn H (ds++gs)).vars pv)
  (C:before=L++pv) (R:Below W.heap.size W I)
  (O:∀(j:Nat)(t:TypeId)(r:Value),f.resultTypes[j]?=some t->(v.resultList f.resultTypes.size)[j]?=some r->Value.okWide P I .any 0 t r):
  s.post enc P f apart fresh h again W args v I:=by
 have F:∀p∈before,(λb=>decide (b<W.heap.size)) p.block=true:=λp B=>by simpa using M.lt p B
 have N:=M.lt;refine⟨ds,gs,before,[],L,pv,M,G _ _ _,l _ F,o _ F,World.keptBut_mono (λp B=>⟨B,?_⟩) (R.frame (·∈before)),λ_=>?_⟩
 .rw[C,A9]at B;exact Or.inr B
 .obtain⟨_,_,_,_,_,V,U⟩:=M;refine⟨O,_,_,([]++L)++pv,⟨[]++L,pv,trodAll_append (l _ (λ_ _=>rfl)) (G _ _ _),o _ (λ_ _=>rfl),rfl,?_,?_⟩,?_⟩
  .intro b off B;have J:MemPlace.cell b off∈before:=by rw[C];simpa using B
   rw[R.frozen (p:=⟨b,off,none⟩) (by simpa[MemPlace.block]using N _ J)];exact V b off J
  .intro T;have:=U T;rw[C]at this;simpa using this
  .intro p B _;rw[C];simpa using B
end
theorem AeK{P:Program}{fid:Nat->Nat}{f:FuncId}{ps:List Sh}{ds:List D}(h:HX P fid f ⟨ps,[.v],[],none⟩ ds [.b true]){w:World}{args:List Value}
  (I:BX (AE fid w.heap (·∈[]) (λ_=>False)) ps ds args []):Calls P f args.toArray w λe w'=>e=.returned (.bool true)/\Below w.heap.size w w':=by
 refine(h w (λ_=>False) args [] (by simp) (by simp) I trivial).mono ?_;rintro e w' ⟨v,vs,M,rfl,B,_,o,C,F,G,_,_,l⟩;simp only[Sg.outs,List.map_nil,List.append_nil]at l;refine⟨?_,C,F,G,o.size,λk J=>o.same k J (by simp)⟩;match vs,l with
 |[x],l=>
  simp only[BX,AE,Rd]at l
  obtain⟨B1,B2,rfl,⟨_,L⟩,_⟩:=l
  simp only[Kj]at B
  rw[B,L]
theorem AlH{P:Program}{tab:List Row}{k:Nat}{r:Row}{ds:List D}(h:KS P tab k ds [.b true])(G:rowOf tab k=some r)(F:r.s.qs=[.v])(o:r.s.io=[])(l:r.s.fb=none):HX P (Gs tab) r.f ⟨r.s.ps,[.v],[],none⟩ ds [.b true]:=by
 obtain⟨R,B,C⟩:=h;rw[G]at B
 cases B;rw[<-F,<-o,<-l];exact C
end Go.Cat
namespace Go.Cat
open Go.ChangeShapes Go.WideShapes Go.ChangeAt Go.RowKit
section
variable{H:Type}{enc:TypeId×Value->H}{P:Program}
theorem AG1(F:laidOutB P=true){W B:World}(C:Below W.heap.size W B){sp:Nat->Bool}:∀{ts:List TypeId}{vs:List Value}{ds:List (DataW H)}{ps:List MemPlace},
  (∀t∈ts,P.readableRec t=true/\t<P.types.size)->DataW.TrodAll enc P W 0 (λ_=>true) true ts vs ds ps->(∀p∈ps,sp p.block=true)->(∀p∈ps,p.block<W.heap.size)->DataW.TrodAll enc P B 0 sp true ts vs ds ps
 |[],vs,ds,ps=>λ_ h _ _=>by obtain⟨rfl,rfl,rfl⟩:=trodAll_nil h;exact trodAll_mk0
 |t::ts,vs,ds,ps=>λG h I o=>by obtain⟨v,V,d,J,p,q,rfl,rfl,rfl,L,M⟩:=trodAll_cons h;refine trodAll_cons_mk ?_ (AG1 F C (λu N=>G u (BP _ N)) M (λx l=>I x (BF _ l)) λx l=>o x (BF _ l));obtain⟨R,O⟩:=G t (List.mem_cons_self ..);exact WideElems.Trod_stays F R O L (λx l=>C.same (o x (BV _ l))) λx l=>I x (BV _ l)
theorem Ae3{W:World}{base:Nat}{t e:TypeId}{k:IntKind}{v:Value}{d:DataW H}{ps:List MemPlace}(N:P.underlying t=some (.slice e))(he:P.underlying e=some (.int k))(hc:P.cellsOf e=1)
  (F:Value.okWide P W .any base t v) (h:DataW.Trod enc P W 0 (λ_=>true) true t v d ps):
  ∃zs:List Int,(∀z∈zs,(Lit.int k z).wf=true)/\∀(fid:Nat->Nat)(Z:Nat->Prop),(∀b,¬Z b)->Rd fid W.heap Z (.l (zs.map (D.i k))) v:=by
 obtain⟨fuel,hf⟩:=h;have hv:=F;simp only[Value.okWide,N,Cell.okWide]at hv;obtain⟨a,len,cap,rfl⟩:=okWide_slice N F;have T:(Value.slice a len cap).cells.toList=[.slice a len cap]:=rfl;rw[T]at hf;rcases open_ints N he hc hf with⟨G,_⟩|⟨C,len',cap',zs,G,_,Y,hm,M,_,I,hwf⟩
 .injection G with G _;refine⟨[],by simp,λfid Z _=>?_⟩;simp only[List.map_nil,Rd];exact .inl ⟨trivial,_,G⟩
 .injection G with G _;injection G with e1 e2 e3;subst e1 e2 e3;have hlen':zs.length=cap:=by simpa using M
  simp only[Cell.ok,N]at hv;obtain⟨_,_,_,B,row,cells,L,_⟩:=hv;refine⟨zs.take len,λz hz=>hwf z (List.mem_of_mem_take hz),λfid Z hZ=>?_⟩;simp only[Rd];right;unfold World.shape? at L;split at L
  .rename_i cs e' fz R;have ha:C=⟨C.block,C.off,none⟩:=by cases C;simp only at B;rw[B]
   refine⟨C.block,C.off,cap,cs,e',fz,?_,R,hZ _,?_,?_⟩
   .have J:((zs.take len).map (D.i k)).length=len:=by simp;omega
    rw[J,<-ha]
   .have key:∀(n o:Nat)(l:List Int),(∀i,i<l.length->cs[o+i]?=some (.int k (l.getD i 0)))->AS fid W.heap Z (l.map (D.i k)) (cs.toList.drop o):=by
     intro n o l
     induction l generalizing o with
     |nil=>intro _;simp[AS]
     |cons z l ih=>
      intro hl
      have h0:=hl 0 (by simp)
      simp only[Nat.add_zero,List.getD_cons_zero]at h0
      have:cs.toList.drop o=.int k z::cs.toList.drop (o+1):=by
       rw[List.drop_eq_getElem_cons (by have:=(Array.getElem?_eq_some_iff.1 h0).1;simpa using this)]
       congr 1
       have:=(Array.getElem?_eq_some_iff.1 h0).2
       simpa using this
      rw[this]
      simp only[List.map_cons,AS,Rd]
      refine⟨trivial,ih (o+1) λi hi=>?_⟩
      have:=hl (i+1) (by simpa using hi)
      simpa[Nat.add_assoc,Nat.add_comm 1 i]using this
    refine key 0 C.off (zs.take len) λi hi=>?_
    have U:i<zs.length:=by simp at hi;omega
    have O:=I i U
    have h6:cs[C.off+i]?=some (.int k (zs.getD i 0)):=by
     rw[ha]at O
     cases i with
     |zero=>simpa[World.cell?,Addr.add,R]using O
     |succ i=>simpa[World.cell?,Addr.add,R]using O
    rw[h6]
    have V:i<len:=by simp at hi;omega
    simp[Ap,V]
   .unfold maxLen at hm;have J:((zs.take len).map (D.i k)).length=len:=by simp;omega
    rw[J];exact⟨Y,by omega⟩
  .cases L
theorem AiP{W:World}{base:Nat}{t e:TypeId}{v:Value}{d:DataW H}{ps:List MemPlace}(J:P.underlying t=some (.slice e))(he:P.underlying e=some (.int .u8))(C:P.cellsOf e=1)
  (o:Value.okWide P W .any base t v) (h:DataW.Trod enc P W 0 (λ_=>true) true t v d ps):
  ∃bs:List Nat,(∀c∈bs,c<256)/\∀(fid:Nat->Nat)(Z:Nat->Prop),(∀b,¬Z b)->Rd fid W.heap Z (LB bs) v:=by
 obtain⟨zs,F,G⟩:=Ae3 J he C o h;have B:∀z∈zs,0<=z/\z<256:=by intro z B;have:=F z B;simp[Lit.wf,IntKind.min,IntKind.max,IntKind.bits,IntKind.signed]at this;omega
 refine⟨zs.map Int.toNat,?_,λfid Z I=>?_⟩
 .intro c C;obtain⟨z,q,rfl⟩:=List.mem_map.1 C;have:=B z q;omega
 .have e:LB (zs.map Int.toNat)=.l (zs.map (D.i .u8)):=by
   simp only[LB,List.map_map]
   congr 1
   refine List.map_congr_left λz q=>?_
   have:=B z q
   show D.i .u8 ((z.toNat:Nat):Int)=D.i .u8 z
   rw[Int.toNat_of_nonneg this.1]
  rw[e];exact G fid Z I
end
theorem AlU{fid:Nat->Nat}{h:Array Obj}{ps:List Sh}{ds:List D}{vs:List Value}{d:D}{v:Value}(l:Rd fid h (λb=>b∈([]:List Nat)\/False) d v)
  (o:BX (AE fid h (·∈([]:List Nat)) (λ_=>False)) ps ds vs []):BX (AE fid h (·∈([]:List Nat)) (λ_=>False)) (.v::ps) (d::ds) (v::vs) []:=by simp only[BX];exact⟨[],[],rfl,by simp only[AE];exact⟨trivial,l⟩,o⟩
theorem AhN{fid:Nat->Nat}{h:Array Obj}:BX (AE fid h (·∈([]:List Nat)) (λ_=>False)) [] [] [] []:=rfl
end Go.Cat
