/-
 How a body is walked through: one statement behind the other; what comes later stays closed until it is reached.
-/
import Derived.Test.YthoilpmggmenbaaGreatCatThree
import Derived.WalkKit
import Derived.ProofKit
import Derived.OpenShut
import Derived.Below
import Derived.Carry
import Derived.ChangeSlices
import Derived.ChangeMaps5
import Derived.SliceStrings
set_option linter.unusedSimpArgs false
set_option linter.unusedVariables false
namespace Go.Cat
section
variable(K:Nat->List D->List D->Prop)
def Qg(b:S)(Q:X->Env->Prop):X->Env->Prop
 |.n,e=>wpS K b Q e
 |.ex j,e=>Q (.ex j) e
 |.r,e=>Q .r e
def TW(id:Nat)(Q:X->Env->Prop):X->Env->Prop
 |.n,e=>Q .n e
 |.ex j,e=>if j=id then Q .n e else Q (.ex j) e
 |.r,e=>Q .r e
def ASP(out:List (Option Nat))(Q:X->Env->Prop):Env->Prop:=λe=>Q .n (ER out e)
def AGL(r:List It)(Q:Env->Prop):Env->Prop:=λe=>Ek K r e Q
def CS(e:Env)(Q:Env->Prop):Option D->Prop
 |some d=>Q (e++[d])
 |none=>False
def UT(x y:S)(Q:X->Env->Prop)(e:Env):D->Prop
 |.b true=>wpS K x Q e
 |.b false=>wpS K y Q e
 |_=>False
def Mo(g:Nat)(ds:List D)(r:Nat)(e:Env)(Q:Env->Prop):Prop:=∃rs:List D,K g ds rs/\rs.length=r/\Q (e++rs)
def Lz(res:List Nat)(rs:List D):X->Env->Prop
 |.ex _,_=>False
 |.n,e=>rs=res.map e.E
 |.r,e=>rs=res.map e.E
def R6(res:List Nat)(P:List D->Prop):X->Env->Prop
 |.ex _,_=>False
 |.n,e=>P (res.map e.E)
 |.r,e=>P (res.map e.E)
variable{K}
theorem ALS{res:List Nat}{P:List D->Prop}{e:Env}:R6 res P .n e=P (res.map e.E):=rfl
theorem ADW{res:List Nat}{P:List D->Prop}{e:Env}:R6 res P .r e=P (res.map e.E):=rfl
theorem wp_seq{a b:S}{Q:X->Env->Prop}{e:Env}:wpS K (.seq a b) Q e=wpS K a (Qg K b Q) e:=by simp only[wpS];congr 1;funext x e;cases x<;>rfl
theorem wp_block{id:Nat}{b:S}{Q:X->Env->Prop}{e:Env}:wpS K (.block id b) Q e=wpS K b (TW id Q) e:=by simp only[wpS];congr 1;funext x e;cases x<;>rfl
theorem wp_skip{Q:X->Env->Prop}{e:Env}:wpS K .skip Q e=Q .n e:=rfl
theorem wp_exit{id:Nat}{Q:X->Env->Prop}{e:Env}:wpS K (.exit id) Q e=Q (.ex id) e:=rfl
theorem wp_ret{Q:X->Env->Prop}{e:Env}:wpS K .ret Q e=Q .r e:=rfl
theorem ALN{I:List It}{out:List (Option Nat)}{Q:X->Env->Prop}{e:Env}:wpS K (.reg I out) Q e=Ek K I e (ASP out Q):=rfl
theorem wp_cond{n:Nat}{x y:S}{Q:X->Env->Prop}{e:Env}:wpS K (.cond n x y) Q e=UT K x y Q (e.set n .u) (e.E n):=by
 simp only[wpS]
 cases e.E n<;>try rfl
theorem AJM{b:S}{Q:X->Env->Prop}{e:Env}:Qg K b Q .n e=wpS K b Q e:=rfl
theorem ARS{b:S}{Q:X->Env->Prop}{e:Env}{j:Nat}:Qg K b Q (.ex j) e=Q (.ex j) e:=rfl
theorem AQR{b:S}{Q:X->Env->Prop}{e:Env}:Qg K b Q .r e=Q .r e:=rfl
theorem AG1{id:Nat}{Q:X->Env->Prop}{e:Env}:TW id Q .n e=Q .n e:=rfl
theorem ABH{id:Nat}{Q:X->Env->Prop}{e:Env}{j:Nat}:TW id Q (.ex j) e=if j=id then Q .n e else Q (.ex j) e:=rfl
theorem AGV{id:Nat}{Q:X->Env->Prop}{e:Env}:TW id Q .r e=Q .r e:=rfl
theorem AGQ{out:List (Option Nat)}{Q:X->Env->Prop}{e:Env}:ASP out Q e=Q .n (ER out e):=rfl
theorem ZS{r:List It}{Q:Env->Prop}{e:Env}:AGL K r Q e=Ek K r e Q:=rfl
theorem AK3{e:Env}{Q:Env->Prop}{d:D}:CS e Q (some d)=Q (e++[d]):=rfl
theorem ANO{x y:S}{Q:X->Env->Prop}{e:Env}:UT K x y Q e (.b true)=wpS K x Q e:=rfl
theorem AK6{x y:S}{Q:X->Env->Prop}{e:Env}:UT K x y Q e (.b false)=wpS K y Q e:=rfl
theorem AEW{res:List Nat}{rs:List D}{e:Env}:Lz res rs .n e=(rs=res.map e.E):=rfl
theorem ACU{res:List Nat}{rs:List D}{e:Env}:Lz res rs .r e=(rs=res.map e.E):=rfl
theorem AFI{e:Env}{Q:Env->Prop}:Ek K [] e Q=Q e:=rfl
theorem ALL{it:It}{r:List It}{e:Env}{Q:Env->Prop}:Ek K (it::r) e Q=Iv K it e (AGL K r Q):=rfl
def gdQ(z:List (Option Nat))(p:Pr)(e:Env)(Q:Env->Prop):Option Bool->Prop
 |some true=>Ad K p e Q
 |some false=>Q (e++DC e.E z p.np)
 |none=>False
theorem AEU{z:List (Option Nat)}{g:Gd}{p:Pr}{e:Env}{Q:Env->Prop}:Iv K ⟨z,g,p⟩ e Q=gdQ (K:=K) z p e Q (Cq e.E g):=by simp only[Iv];split<;>rename_i h<;>simp only[h]<;>rfl
theorem AQ4{z:List (Option Nat)}{p:Pr}{e:Env}{Q:Env->Prop}:gdQ (K:=K) z p e Q (some true)=Ad K p e Q:=rfl
theorem ABK{z:List (Option Nat)}{p:Pr}{e:Env}{Q:Env->Prop}:gdQ (K:=K) z p e Q (some false)=Q (e++DC e.E z p.np):=rfl
theorem ARI{E:Nat->D}{n:Nat}:DC E [] n=List.replicate n .u:=YD n
theorem ADQ{E:Nat->D}{m:Nat}{z:List (Option Nat)}{n:Nat}:DC E (some m::z) (n+1)=E m::DC E z n:=rfl
theorem AOI{E:Nat->D}{z:List (Option Nat)}{n:Nat}:DC E (none::z) (n+1)=.u::DC E z n:=rfl
theorem AS1{E:Nat->D}:Cq E []=some true:=rfl
def OZ(w:Bool)(r:Option Bool):D->Option Bool
 |.b x=>if x=w then r else some false
 |_=>none
theorem AAG{E:Nat->D}{n:Nat}{w:Bool}{r:Gd}:Cq E ((n,w)::r)=OZ w (Cq E r) (E n):=rfl
theorem AN3{r:Option Bool}:OZ true r (.b true)=r:=rfl
theorem AFS{r:Option Bool}:OZ false r (.b false)=r:=rfl
theorem ASY{r:Option Bool}:OZ true r (.b false)=some false:=rfl
theorem Yu{r:Option Bool}:OZ false r (.b true)=some false:=rfl
theorem AMV{e:Env}{Q:Env->Prop}:Ad K .nop e Q=Q e:=rfl
theorem ACZ{g:Nat}{xs:List A}{r:Nat}{e:Env}{Q:Env->Prop}:Ad K (.ca g xs r) e Q=Mo K g (xs.map (ev e.E)) r e Q:=rfl
def fnQ(g:Nat)(P:Prop)(d:D):Prop:=d=.f g []/\P
theorem AIC{g:Nat}{P:Prop}:fnQ g P (.f g [])=P:=by simp[fnQ]
theorem AEK{f:A}{g:Nat}{xs:List A}{r:Nat}{e:Env}{Q:Env->Prop}:Ad K (.cd f g xs r) e Q=fnQ g (Mo K g (xs.map (ev e.E)) r e Q) (ev e.E f):=rfl
def tkQ(e:Env)(Q:Env->Prop):D->Prop
 |.g [d]=>Q (e++[d,.g [.u]])
 |_=>False
theorem AJH{e:Env}{Q:Env->Prop}{d:D}:tkQ e Q (.g [d])=Q (e++[d,.g [.u]]):=rfl
theorem ALV{n:Nat}{e:Env}{Q:Env->Prop}:Ad K (.tk n) e Q=tkQ e Q (e.E n):=by simp only[Ad,Le,tkQ];split<;>rename_i h<;>split at h<;>simp_all
def LM(e:Env)(Q:Env->Prop):Option (D×D)->Prop
 |some d=>Q (e++[d.1,d.2])
 |none=>False
theorem AJ4{e:Env}{Q:Env->Prop}{x y:D}:LM e Q (some (x,y))=Q (e++[x,y]):=rfl
theorem AMZ{n k:Nat}{p:List PE}{e:Env}{Q:Env->Prop}:Ad K (.sp n p k) e Q=LM e Q (JF k (e.E n) (p.mapM (PE.ev e.E))):=by simp only[Ad,LM];split<;>rename_i h<;>simp only[h]
theorem AGK{n:Nat}{e:Env}{Q:Env->Prop}:Ad K (.sw n) e Q=LM e Q (MR (e.E n)):=by simp only[Ad,LM];split<;>rename_i h<;>simp only[h]
theorem APM{n:Nat}{a:A}{d:D}{e:Env}{Q:Env->Prop}:Ad K (.mo n a d) e Q=LM e Q (IV d (e.E n) (ev e.E a)):=by simp only[Ad,LM];split<;>rename_i h<;>simp only[h]
theorem AEO{e:Env}{Q:Env->Prop}:Ad K .mm e Q=CS e Q (AY e.E .mm):=by simp only[Ad];split<;>rename_i h<;>simp only[h]<;>rfl
theorem ALF{e:Env}{Q:Env->Prop}(n:Nat)(a b:A):Ad K (.mu n a b) e Q=CS e Q (AY e.E (.mu n a b)):=by simp only[Ad];split<;>rename_i h<;>simp only[h]<;>rfl
theorem AOR{e:Env}{Q:Env->Prop}(n:Nat)(a:A)(d:D):Ad K (.mg n a d) e Q=CS e Q (AY e.E (.mg n a d)):=by simp only[Ad];split<;>rename_i h<;>simp only[h]<;>rfl
theorem AEH{xs:List D}:MR (.g xs)=some (.g xs,.g (List.replicate xs.length .u)):=rfl
theorem AJR{k i:Nat}{xs:List D}:JF k (.g xs) (some [i])=xs[i]?.bind λx=>if CY k x=true then some (x,.g (xs.set i .u))else none:=by
 simp only[JF,Option.bind_some,Aq,Aw]
 cases xs[i]? with
 |none=>rfl
 |some x=>rfl
theorem ZI{e:Env}{Q:Env->Prop}(n:Nat)(p:List PE)(a:A)(k:Nat):Ad K (.jn n p a k) e Q=CS e Q (AY e.E (.jn n p a k)):=by simp only[Ad];split<;>rename_i h<;>simp only[h]<;>rfl
def La(is:Option (List Nat))(d x:D)(k:Nat):Option D:=if(x.one&&CY k x)=true then is.bind λis=>Aw is d x else none
theorem AJ2{e:Env}{Q:Env->Prop}(s:Sh)(d:D):Ad K (.cs s d) e Q=CS e Q (AY e.E (.cs s d)):=by simp only[Ad];split<;>rename_i h<;>simp only[h]<;>rfl
theorem AA9{e:Env}{Q:Env->Prop}(a:A):Ad K (.cy a) e Q=CS e Q (AY e.E (.cy a)):=by simp only[Ad];split<;>rename_i h<;>simp only[h]<;>rfl
theorem AF7{e:Env}{Q:Env->Prop}(o:BinOp)(a b:A):Ad K (.bi o a b) e Q=CS e Q (AY e.E (.bi o a b)):=by simp only[Ad];split<;>rename_i h<;>simp only[h]<;>rfl
theorem AAY{e:Env}{Q:Env->Prop}(o:BinOp)(a b:A):Ad K (.bb o a b) e Q=CS e Q (AY e.E (.bb o a b)):=by simp only[Ad];split<;>rename_i h<;>simp only[h]<;>rfl
theorem AG4{e:Env}{Q:Env->Prop}(o:UnOp)(a:A):Ad K (.un o a) e Q=CS e Q (AY e.E (.un o a)):=by simp only[Ad];split<;>rename_i h<;>simp only[h]<;>rfl
theorem AHS{e:Env}{Q:Env->Prop}(a b c:A):Ad K (.pk a b c) e Q=CS e Q (AY e.E (.pk a b c)):=by simp only[Ad];split<;>rename_i h<;>simp only[h]<;>rfl
theorem ZQ{e:Env}{Q:Env->Prop}(k:IntKind)(a:A):Ad K (.cv k a) e Q=CS e Q (AY e.E (.cv k a)):=by simp only[Ad];split<;>rename_i h<;>simp only[h]<;>rfl
theorem AE8{e:Env}{Q:Env->Prop}(a:A)(p:List PE):Ad K (.ln a p) e Q=CS e Q (AY e.E (.ln a p)):=by simp only[Ad];split<;>rename_i h<;>simp only[h]<;>rfl
theorem AKD{e:Env}{Q:Env->Prop}(a:A):Ad K (.sn a) e Q=CS e Q (AY e.E (.sn a)):=by simp only[Ad];split<;>rename_i h<;>simp only[h]<;>rfl
theorem ADK{e:Env}{Q:Env->Prop}(a i:A):Ad K (.sx a i) e Q=CS e Q (AY e.E (.sx a i)):=by simp only[Ad];split<;>rename_i h<;>simp only[h]<;>rfl
theorem AQM{e:Env}{Q:Env->Prop}(a:A)(lo hi:Option A):Ad K (.ss a lo hi) e Q=CS e Q (AY e.E (.ss a lo hi)):=by simp only[Ad];split<;>rename_i h<;>simp only[h]<;>rfl
theorem AE6{e:Env}{Q:Env->Prop}(a:A)(p:List PE)(i:A):Ad K (.ix a p i) e Q=CS e Q (AY e.E (.ix a p i)):=by simp only[Ad];split<;>rename_i h<;>simp only[h]<;>rfl
theorem ZH{e:Env}{Q:Env->Prop}(n:Nat)(p:List PE)(a:A):Ad K (.up n p a) e Q=CS e Q (AY e.E (.up n p a)):=by simp only[Ad];split<;>rename_i h<;>simp only[h]<;>rfl
theorem AP0{e:Env}{Q:Env->Prop}(F:Bool)(a:A)(lo hi:Option A):Ad K (.sb F a lo hi) e Q=CS e Q (AY e.E (.sb F a lo hi)):=by simp only[Ad];split<;>rename_i h<;>simp only[h]<;>rfl
theorem AA7{e:Env}{Q:Env->Prop}(fl:Bool)(a b:A):Ad K (.ap fl a b) e Q=CS e Q (AY e.E (.ap fl a b)):=by simp only[Ad];split<;>rename_i h<;>simp only[h]<;>rfl
theorem AM3{e:Env}{Q:Env->Prop}(d:D)(n c:A):Ad K (.mk d n c) e Q=CS e Q (AY e.E (.mk d n c)):=by simp only[Ad];split<;>rename_i h<;>simp only[h]<;>rfl
theorem AIE{e:Env}{Q:Env->Prop}(s:Sh)(xs:List A):Ad K (.li s xs) e Q=CS e Q (AY e.E (.li s xs)):=by simp only[Ad];split<;>rename_i h<;>simp only[h]<;>rfl
theorem AEB{e:Env}{Q:Env->Prop}(a:A):Ad K (.bs a) e Q=CS e Q (AY e.E (.bs a)):=by simp only[Ad];split<;>rename_i h<;>simp only[h]<;>rfl
theorem APT{e:Env}{Q:Env->Prop}(a:A):Ad K (.sy a) e Q=CS e Q (AY e.E (.sy a)):=by simp only[Ad];split<;>rename_i h<;>simp only[h]<;>rfl
theorem AER{e:Env}{Q:Env->Prop}(a b:A):Ad K (.mx a b) e Q=CS e Q (AY e.E (.mx a b)):=by simp only[Ad];split<;>rename_i h<;>simp only[h]<;>rfl
theorem AFR{e:Env}{Q:Env->Prop}(a b:A):Ad K (.mn a b) e Q=CS e Q (AY e.E (.mn a b)):=by simp only[Ad];split<;>rename_i h<;>simp only[h]<;>rfl
theorem Zp{e:Env}{Q:Env->Prop}(a i:A):Ad K (.iy a i) e Q=CS e Q (AY e.E (.iy a i)):=by simp only[Ad];split<;>rename_i h<;>simp only[h]<;>rfl
theorem ARE{e:Env}{Q:Env->Prop}(k:Nat)(xs:List (A×Nat)):Ad K (.bg k xs) e Q=CS e Q (AY e.E (.bg k xs)):=by simp only[Ad];split<;>rename_i h<;>simp only[h]<;>rfl
theorem AEQ{e:Env}{Q:Env->Prop}(a:A):Ad K (.bp a) e Q=CS e Q (AY e.E (.bp a)):=by simp only[Ad];split<;>rename_i h<;>simp only[h]<;>rfl
theorem ANU{e:Env}{Q:Env->Prop}(a:A)(k:Nat):Ad K (.gp a k) e Q=CS e Q (AY e.E (.gp a k)):=by simp only[Ad];split<;>rename_i h<;>simp only[h]<;>rfl
theorem ASV{e:Env}{Q:Env->Prop}(w:Bool)(a:A):Ad K (.nz w a) e Q=CS e Q (AY e.E (.nz w a)):=by simp only[Ad];split<;>rename_i h<;>simp only[h]<;>rfl
theorem ALR{e:Env}{Q:Env->Prop}(a:A):Ad K (.nn a) e Q=CS e Q (AY e.E (.nn a)):=by simp only[Ad];split<;>rename_i h<;>simp only[h]<;>rfl
theorem AKZ{e:Env}{Q:Env->Prop}(k:Nat)(a:A):Ad K (.wl k a) e Q=CS e Q (AY e.E (.wl k a)):=by simp only[Ad];split<;>rename_i h<;>simp only[h]<;>rfl
theorem ZX{e:Env}{Q:Env->Prop}(n k:Nat)(a:A):Ad K (.ws n k a) e Q=CS e Q (AY e.E (.ws n k a)):=by simp only[Ad];split<;>rename_i h<;>simp only[h]<;>rfl
theorem ASD{e:Env}{Q:Env->Prop}(a:A)(p:List PE):Ad K (.gt a p) e Q=CS e Q (AY e.E (.gt a p)):=by simp only[Ad];split<;>rename_i h<;>simp only[h]<;>rfl
theorem AHN{e:Env}{Q:Env->Prop}(fl:Bool)(a:A)(k:Nat):Ad K (.fp fl a k) e Q=CS e Q (AY e.E (.fp fl a k)):=by simp only[Ad];split<;>rename_i h<;>simp only[h]<;>rfl
theorem AOB{e:Env}{Q:Env->Prop}(n:Nat):Ad K (.cb n) e Q=CS e Q (AY e.E (.cb n)):=by simp only[Ad];split<;>rename_i h<;>simp only[h]<;>rfl
theorem ARW{e:Env}{Q:Env->Prop}(n:Nat)(p:List PE)(a:A)(i k:Nat):Ad K (.uq n p a i k) e Q=CS e Q (AY e.E (.uq n p a i k)):=by simp only[Ad];split<;>rename_i h<;>simp only[h]<;>rfl
end
section
variable{E:Nat->D}
theorem AGC{n:Nat}:ev E (.e n)=E n:=rfl
theorem AHL{d:D}:ev E (.c d)=d:=rfl
theorem AQT:AY E .mm=some (.g []):=rfl
theorem Zx{n:Nat}{a b:A}:AY E (.mu n a b)=Hu (E n) (ev E a) (ev E b):=rfl
theorem AHH{n:Nat}{a:A}{d:D}:AY E (.mg n a d)=JT d (E n) (ev E a):=rfl
theorem ALT{s:Sh}{d:D}:AY E (.cs s d)=some d:=rfl
theorem AQL{a:A}:AY E (.cy a)=some (ev E a):=rfl
theorem AJN{o:BinOp}{a b:A}:AY E (.bi o a b)=CR o (ev E a) (ev E b):=rfl
theorem ZC{o:BinOp}{a b:A}:AY E (.bb o a b)=Hx o (ev E a) (ev E b):=rfl
theorem ANN{o:UnOp}{a:A}:AY E (.un o a)=M6 o (ev E a):=rfl
def Ny(c a b:D):Option D:=match c with|.b true=>some a|.b false=>some b|_=>none
theorem ABR{c a b:A}:AY E (.pk c a b)=Ny (ev E c) (ev E a) (ev E b):=by simp only[AY,Ny];split<;>rename_i h<;>simp only[h]
theorem AHG{a b:D}:Ny (.b true) a b=some a:=rfl
theorem AJ0{a b:D}:Ny (.b false) a b=some b:=rfl
theorem AFB{p q:Bool}:Ny (.b p) (.b q) (.b false)=some (.b (p&&q)):=by cases p<;>rfl
theorem AAB{p q:Bool}:Ny (.b p) (.b true) (.b q)=some (.b (p||q)):=by cases p<;>rfl
def cvD(k:IntKind):D->Option D|.i _ n=>some (.i k (k.wrap n))|_=>none
theorem ZW{k:IntKind}{a:A}:AY E (.cv k a)=cvD k (ev E a):=by simp only[AY];cases ev E a<;>rfl
theorem AKW{k h:IntKind}{n:Int}:cvD k (.i h n)=some (.i k (k.wrap n)):=rfl
theorem AQW{a:A}{p:List PE}:AY E (.ln a p)=(E9 E p (ev E a)).bind Fu:=rfl
theorem AKQ{d:D}:E9 E [] d=some d:=rfl
theorem AB3{h:PE}{d:D}:E9 E [h] d=(h.ev E).bind λi=>Aq [i] d:=by
 simp only[E9,List.mapM_cons,List.mapM_nil]
 cases h.ev E<;>rfl
theorem AKK{a:A}:AY E (.sn a)=Pm (ev E a):=rfl
theorem ZA{a i:A}:AY E (.sx a i)=Nj (ev E a) (ev E i):=rfl
theorem ADD{a:A}{lo hi:Option A}:AY E (.ss a lo hi)=Hl (ev E a) (lo.map (ev E)) (hi.map (ev E)):=rfl
theorem Zh{a i:A}:AY E (.ix a [] i)=EN (ev E a) (ev E i):=rfl
theorem AHK{a i:A}{p:List PE}:AY E (.ix a p i)=(E9 E p (ev E a)).bind λd=>EN d (ev E i):=rfl
theorem AN7{a i:A}:AY E (.iy a i)=(EN (ev E a) (ev E i)).bind Gx:=rfl
def JW(is:Option (List Nat))(d x:D):Option D:=if x.one=true then is.bind λis=>Aw is d x else none
theorem AL8{n:Nat}{p:List PE}{a:A}:AY E (.up n p a)=JW (p.mapM (PE.ev E)) (E n) (ev E a):=rfl
theorem AM7{h:PE}:[h].mapM (PE.ev E)=(h.ev E).map ([·]):=by simp only[List.mapM_cons,List.mapM_nil];cases h.ev E<;>rfl
theorem ANX{h l:PE}:[h,l].mapM (PE.ev E)=(h.ev E).bind λi=>(l.ev E).map λj=>[i,j]:=by simp only[List.mapM_cons,List.mapM_nil];cases h.ev E<;>cases l.ev E<;>rfl
theorem AFA{n:Nat}:PE.ev E (.k n)=some n:=rfl
def Uc:D->Option Nat|.i _ z=>if 0<=z then some z.toNat else none|_=>none
theorem AOW{n:Nat}:PE.ev E (.e n)=Uc (E n):=by simp only[PE.ev];cases E n<;>rfl
theorem AIB{k:IntKind}{z:Int}(h:0<=z):Uc (.i k z)=some z.toNat:=by simp[Uc,h]
theorem ALH{F:Bool}{a:A}{lo hi:Option A}:AY E (.sb F a lo hi)=Ep (ev E a) (lo.map (ev E)) (hi.map (ev E)):=rfl
theorem ZG{fl:Bool}{a b:A}:AY E (.ap fl a b)=ED fl (ev E a) (ev E b):=rfl
theorem AMF{d:D}{n c:A}:AY E (.mk d n c)=Ib d (ev E n) (ev E c):=rfl
def Dv(xs:List D):Option D:=if xs.all D.one=true then some (.l xs)else none
theorem ACD{s:Sh}{xs:List A}:AY E (.li s xs)=Dv (xs.map (ev E)):=rfl
theorem ALQ{a:A}:AY E (.bs a)=KF (ev E a):=rfl
theorem AIO{a:A}:AY E (.sy a)=TI (ev E a):=rfl
def mxD:D->D->Option D|.i k x,.i k' y=>if k=k' then some (.i k (if y > x then y else x))else none|_,_=>none
def mnD:D->D->Option D|.i k x,.i k' y=>if k=k' then some (.i k (if y<x then y else x))else none|_,_=>none
def Ql(k:Nat)(l:List (D×Nat)):Option D:=if l.all (CG k)=true then some (.g (l.map (·.1)))else none
theorem API{k:Nat}{xs:List (A×Nat)}:AY E (.bg k xs)=Ql k (xs.map λx=>(ev E x.1,x.2)):=by simp only[AY,Ql,List.map_map];rfl
def JA(k:Nat):Bool->List (D×Nat)->List D->Option D
 |false,_,_=>none
 |true,[],r=>some (.g r)
 |true,x::l,r=>JA k (CG k x) l (r++[x.1])
theorem AMM{k:Nat}{l:List (D×Nat)}:Ql k l=JA k true l []:=by
 have key:∀(l:List (D×Nat))(r:List D),JA k true l r=if l.all (CG k)=true then some (.g (r++l.map (·.1)))else none:=by
  intro l;induction l with
  |nil=>intro r;simp[JA]
  |cons x l I=>
   intro r
   simp only[JA]
   cases h:CG k x with
   |true=>rw[I];simp only[List.all_cons,h,Bool.true_and,List.map_cons,CO,List.cons_append,List.nil_append]
   |false=>simp[h,JA]
 rw[key];simp[Ql]
theorem AGZ{k:Nat}{r:List D}:JA k true [] r=some (.g r):=rfl
theorem ZO{k:Nat}{x:D×Nat}{l:List (D×Nat)}{r:List D}:JA k true (x::l) r=JA k (CG k x) l (r++[x.1]):=rfl
theorem ACL{d:D}{i:Nat}:CG 0 (d,i)=d.one:=by simp[CG]
theorem APF{k i:Nat}{q:IntKind}{n:Int}:CG k (.i q n,i)=true:=by simp only[CG,D.one,Bool.true_and,Bool.or_eq_true];right;right;cases min i k<;>simp[CY,D.flat]
theorem AOC{k i:Nat}{x:List Nat}:CG k (.s x,i)=true:=by simp only[CG,D.one,Bool.true_and,Bool.or_eq_true];right;right;cases min i k<;>simp[CY,D.flat]
theorem AQ9{k i:Nat}{x:Bool}:CG k (.b x,i)=true:=by simp only[CG,D.one,Bool.true_and,Bool.or_eq_true];right;right;cases min i k<;>simp[CY,D.flat]
theorem AH4{a:A}:AY E (.bp a)=MH (ev E a):=rfl
theorem AHA{xs:List D}:MH (.g xs)=some (.p xs):=rfl
def I9:List D->Nat->Bool
 |[],0=>true
 |_::xs,k+1=>I9 xs k
 |_,_=>false
theorem Rp:∀{xs:List D}{k:Nat},I9 xs k=decide (xs.length=k)
 |[],0=>rfl
 |[],k+1=>rfl
 |_::xs,0=>rfl
 |_::xs,k+1=>by simp[I9,Rp (xs:=xs) (k:=k)]
theorem AKM:I9 [] 0=true:=rfl
theorem AOK{x:D}{xs:List D}{k:Nat}:I9 (x::xs) (k+1)=I9 xs k:=rfl
def KR:List D->Bool
 |[]=>true
 |x::xs=>x.one&&KR xs
theorem ACY:∀{xs:List D},KR xs=xs.all D.one
 |[]=>rfl
 |x::xs=>by simp[KR,ACY (xs:=xs)]
theorem AMN:KR []=true:=rfl
theorem ALA{x:D}{xs:List D}:KR (x::xs)=(x.one&&KR xs):=rfl
def ME{α:Type}(r:α):Bool->Option α
 |true=>some r
 |false=>none
theorem Zj{α:Type}{r:α}:ME r true=some r:=rfl
theorem APL{a:A}{k:Nat}:AY E (.gp a k)=LU k (ev E a):=rfl
theorem Zy{xs:List D}{k:Nat}:LU k (.p xs)=ME (.g xs) (I9 xs k):=by rw[Rp];simp only[LU];by_cases h:xs.length=k<;>simp[h,ME]
theorem ABZ{w:Bool}{a:A}:AY E (.nz w a)=(MM (ev E a)).map λx=>.b (x==w):=rfl
theorem AA4:MM .z=some true:=rfl
theorem AKV{xs:List D}:MM (.p xs)=some false:=rfl
theorem AI3{a:A}:AY E (.nn a)=PI (ev E a):=rfl
theorem AOZ{xs:List D}:PI (.p xs)=some (.p xs):=rfl
theorem ADA{k:Nat}{a:A}:AY E (.wl k a)=GJ k (ev E a):=rfl
theorem Y8{xs:List D}{k:Nat}:GJ k (.g xs)=ME (.g xs) (I9 xs k&&KR xs):=by rw[Rp,ACY];simp only[GJ];by_cases h:xs.length=k<;>by_cases l:xs.all D.one=true<;>simp[h,l,ME]
def wsD(d:D)(k:Nat)(x:D):Option D:=if Jn k d=true then GJ k x else none
theorem AL6{n k:Nat}{a:A}:AY E (.ws n k a)=wsD (E n) k (ev E a):=rfl
theorem AC5{ys xs:List D}{k:Nat}:wsD (.g ys) k (.g xs)=ME (.g xs) (I9 ys k&&(I9 xs k&&KR xs)):=by simp only[wsD,Jn,Y8,Rp];by_cases h:ys.length=k<;>simp[h,ME]
theorem AH8{a:A}{p:List PE}:AY E (.gt a p)=E9 E p (ev E a):=rfl
theorem AHJ{i:Nat}{xs:List D}:Aq [i] (.g xs)=xs[i]?:=by simp only[Aq];cases xs[i]?<;>rfl
theorem AP1{q:IntKind}{n:Int}:known (.i q n)=some (.i q n):=rfl
theorem AAP{x:Bool}:known (.b x)=some (.b x):=rfl
theorem ADF{x:List Nat}:known (.s x)=some (.s x):=rfl
theorem ADG{x:List D}:known (.l x)=some (.l x):=rfl
theorem ART{x:List D}:known (.p x)=some (.p x):=rfl
theorem AOQ:known .z=some .z:=rfl
def fpE(fl:Bool)(k:Nat)(d:D):Option D:=(Nr k d).bind λd=>if fl=true then Gx d else some d
theorem AEA{fl:Bool}{a:A}{k:Nat}:AY E (.fp fl a k)=fpE fl k (ev E a):=rfl
def N9(fl:Bool)(d:D):Option D:=(known d).bind λd=>if fl=true then Gx d else some d
theorem ASC{fl:Bool}{k:Nat}{xs:List D}:fpE fl k (.p xs)=xs[k]?.bind (N9 fl):=by simp only[fpE,Nr];cases xs[k]?<;>rfl
theorem ALM{d:D}:N9 false d=known d:=by simp[N9]
theorem ANY{q:IntKind}{n:Int}:N9 true (.i q n)=some (.i q n):=rfl
theorem AJU{x:List Nat}:N9 true (.s x)=some (.s x):=rfl
theorem AOT{x:Bool}:N9 true (.b x)=some (.b x):=rfl
theorem WY{i:Nat}{xs:List D}{x:D}:Aw [i] (.g xs) x=xs[i]?.map λ_=>.g (xs.set i x):=by simp only[Aw];cases xs[i]?<;>rfl
def Qp(is:Option (List Nat))(d x:D)(i k:Nat):Option D:=if CG k (x,i)=true then is.bind λis=>Aw is d x else none
theorem AEL{n k:Nat}{p:List PE}{a:A}:AY E (.jn n p a k)=La (p.mapM (PE.ev E)) (E n) (ev E a) k:=rfl
theorem ARV{n:Nat}:AY E (.cb n)=Mk (E n):=rfl
theorem AR4{x:D}{xs:List D}:Mk (.g (x::xs))=some .u:=rfl
theorem AJ5{n:Nat}{p:List PE}{a:A}{i k:Nat}:AY E (.uq n p a i k)=Qp (p.mapM (PE.ev E)) (E n) (ev E a) i k:=rfl
theorem AOD{xs:List D}:(D.l xs).one=true:=rfl
theorem ACT{xs:List D}:(D.p xs).one=true:=rfl
theorem AI4:D.z.one=true:=rfl
theorem YN{x:D}{xs:List D}:(x::xs)[0]?=some x:=rfl
theorem Wi{x:D}{xs:List D}{n:Nat}:(x::xs)[n+1]?=xs[n]?:=by simp
theorem ADV{a b:A}:AY E (.mx a b)=mxD (ev E a) (ev E b):=by simp only[AY];cases ev E a<;>cases ev E b<;>rfl
theorem AOU{a b:A}:AY E (.mn a b)=mnD (ev E a) (ev E b):=by simp only[AY];cases ev E a<;>cases ev E b<;>rfl
theorem ARM{k:IntKind}{x y:Int}:mxD (.i k x) (.i k y)=some (.i k (max x y)):=by simp only[mxD,if_true];congr 2;omega
theorem APN{k:IntKind}{x y:Int}:mnD (.i k x) (.i k y)=some (.i k (min x y)):=by simp only[mnD,if_true];congr 2;omega
end
theorem AE4(n:Nat):Env.E [] n=.u:=rfl
theorem Um(d:D)(e:Env):Env.E (d::e) 0=d:=rfl
theorem VD(d:D)(e:Env)(n:Nat):Env.E (d::e) (n+1)=Env.E e n:=by simp[Env.E]
theorem Vr{e:Env}:ER [] e=[]:=rfl
theorem Tu{n:Nat}{o:List (Option Nat)}{e:Env}:ER (some n::o) e=e.E n::ER o e:=rfl
theorem V6{o:List (Option Nat)}{e:Env}:ER (none::o) e=.u::ER o e:=rfl
section
variable{k:IntKind}{a b:Int}
theorem AFC:CR .add (.i k a) (.i k b)=some (.i k (k.wrap (a+b))):=by simp[CR,F0]
theorem AQ1:CR .sub (.i k a) (.i k b)=some (.i k (k.wrap (a-b))):=by simp[CR,F0]
theorem ARL:CR .mul (.i k a) (.i k b)=some (.i k (k.wrap (a*b))):=by simp[CR,F0]
theorem AOY(h:b≠0):CR .quo (.i k a) (.i k b)=some (.i k (k.wrap (a.tdiv b))):=by simp[CR,F0,h]
theorem AQZ(h:b≠0):CR .rem (.i k a) (.i k b)=some (.i k (a.tmod b)):=by simp[CR,F0,h]
theorem AQ5:CR .eql (.i k a) (.i k b)=some (.b (decide (a=b))):=by simp[CR,F0];rfl
theorem AOH:CR .neq (.i k a) (.i k b)=some (.b (!decide (a=b))):=by simp only[CR,F0,if_true];congr 2
theorem ANL:CR .lss (.i k a) (.i k b)=some (.b (decide (a<b))):=by simp[CR,F0]
theorem ALG:CR .leq (.i k a) (.i k b)=some (.b (decide (a<=b))):=by simp[CR,F0]
theorem AH6:CR .gtr (.i k a) (.i k b)=some (.b (decide (b<a))):=by simp[CR,F0]
theorem ABD:CR .geq (.i k a) (.i k b)=some (.b (decide (b<=a))):=by simp[CR,F0]
theorem AJQ{p:Bool}:M6 .not (.b p)=some (.b (!p)):=rfl
theorem AGU:M6 .neg (.i k a)=some (.i k (k.wrap (0-a))):=rfl
theorem AIF{p q:Bool}:Hx .eql (.b p) (.b q)=some (.b (p==q)):=rfl
theorem AGB{p q:Bool}:Hx .neq (.b p) (.b q)=some (.b (!(p==q))):=rfl
theorem Yz{x y:List Nat}:CR .eql (.s x) (.s y)=some (.b (x==y)):=rfl
theorem AAD{x y:List Nat}:CR .neq (.s x) (.s y)=some (.b (!(x==y))):=rfl
theorem AII{x y:List Nat}(h:x.length+y.length<=1099511627776):CR .add (.s x) (.s y)=some (.s (x++y)):=by show Oa .add x y=_;simp only[Oa];rw[if_pos (show x.length+y.length<=HM from h)]
end
theorem wrap_i64{x:Int}(h:-9223372036854775808<=x/\x<=9223372036854775807):IntKind.i64.wrap x=x:=by
 obtain⟨o,B⟩:=h;have e:x%(2^64:Int)=x%18446744073709551616:=rfl;by_cases h0:0<=x;have l:x%18446744073709551616=x:=Int.emod_eq_of_lt h0 (by omega);simp[IntKind.wrap,IntKind.bits,IntKind.signed,l];omega;have l:x%18446744073709551616=x+18446744073709551616:=by omega
 simp[IntKind.wrap,IntKind.bits,IntKind.signed,l];omega
theorem wrap_u8{x:Int}(h:0<=x/\x<=255):IntKind.u8.wrap x=x:=by obtain⟨l,B⟩:=h;have o:x%256=x:=Int.emod_eq_of_lt l (by omega);simp[IntKind.wrap,IntKind.bits,IntKind.signed,o]
end Go.Cat
namespace Go.Cat
def LI(zs:List Int):D:=.l (zs.map D.n)
def LS(ss:List (List Nat)):D:=.l (ss.map D.s)
def LB(bs:List Nat):D:=.l (bs.map D.y)
def LT(bs:List Bool):D:=.l (bs.map D.b)
def LL(rs:List (List Int)):D:=.l (rs.map LI)
def AB(zs:List Int)(i:Int):Int:=zs.getD i.toNat 0
def AG(ss:List (List Nat))(i:Int):List Nat:=ss.getD i.toNat []
def AH(bs:List Nat)(i:Int):Nat:=bs.getD i.toNat 0
def CQ(bs:List Bool)(i:Int):Bool:=bs.getD i.toNat false
def AF(rs:List (List Int))(i:Int):List Int:=rs.getD i.toNat []
def BH(zs:List Int)(i:Int)(x:Int):List Int:=zs.set i.toNat x
def HD(zs:List (List Nat))(i:Int)(x:List Nat):List (List Nat):=zs.set i.toNat x
def Cb(zs:List Bool)(i:Int)(x:Bool):List Bool:=zs.set i.toNat x
def Du(zs:List (List Int))(i:Int)(x:List Int):List (List Int):=zs.set i.toNat x
def rep{α:Type}(n:Int)(x:α):List α:=List.replicate n.toNat x
theorem Ts{α:Type}{n:Nat}{x:α}:rep (n:Int) x=List.replicate n x:=rfl
def sub{α:Type}(xs:List α)(i j:Int):List α:=(xs.take j.toNat).drop i.toNat
section
variable{α:Type}(f:α->D)(df:α)
theorem O9{zs:List α}{k:IntKind}{i:Int}(o:∀a,(f a).isU=false)(h0:0<=i)(B:i<zs.length):EN (.l (zs.map f)) (.i k i)=some (f (zs.getD i.toNat df)):=by
 have h:i.toNat<zs.length:=by omega
 simp[EN,h0,h,known,o]
theorem get_map{zs:List α}{i:Nat}(h:i<zs.length):Aq [i] (.l (zs.map f))=some (f (zs.getD i df)):=by simp[Aq,h]
theorem NZ{zs:List α}{i:Nat}{x:α}(h:i<zs.length):Aw [i] (.l (zs.map f)) (f x)=some (.l ((zs.set i x).map f)):=by simp[Aw,h,List.map_set]
theorem JO{zs:List α}{lo hi:Option D}{l h:Nat}(F:bound lo 0=some l)(C:bound hi zs.length=some h)(o:l<=h)(B:h<=zs.length):Ep (.l (zs.map f)) lo hi=some (.l (((zs.take h).drop l).map f)):=by simp[Ep,F,C,o,B,List.map_take,List.map_drop]
theorem SW{fl:Bool}{xs ys:List α}(o:∀a,(f a).one=true/\(fl=true->(f a).flat=true))(h:xs.length+ys.length<=HM):ED fl (.l (xs.map f)) (.l (ys.map f))=some (.l ((xs++ys).map f)):=by
 have B:(ys.map f).all (if fl=true then D.flat else D.one)=true:=by
  cases fl with
  |true=>simpa using λa _=>(o a).2 rfl
  |false=>simpa using λa _=>(o a).1
 simp only[ED,List.length_map];rw[if_pos ⟨h,B⟩,List.map_append]
end
theorem KX{d:Nat}:bound none d=some d:=rfl
theorem Fe{k:IntKind}{n:Int}{d:Nat}(h:0<=n):bound (some (.i k n)) d=some n.toNat:=by simp[bound,h]
section
variable{zs ys:List Int}{i j x:Int}{k:IntKind}
theorem AC0:Fu (LI zs)=some (.n zs.length):=by simp[Fu,LI]
theorem AGX(h:0<=i/\i<zs.length):EN (LI zs) (.i k i)=some (.n (AB zs i)):=O9 D.n 0 (λ_=>rfl) h.1 h.2
theorem AHE:Gx (.i k x)=some (.i k x):=rfl
theorem U5(h:0<=i/\i<zs.length):Aw [i.toNat] (LI zs) (.n x)=some (LI (BH zs i x)):=NZ D.n (by omega)
theorem ARG(h:0<=i/\i<=j/\j<=zs.length):Ep (LI zs) (some (.n i)) (some (.n j))=some (LI (sub zs i j)):=
 JO D.n (Fe h.1) (Fe (by omega)) (by omega) (by omega)
theorem ABQ(h:0<=j/\j<=zs.length):Ep (LI zs) none (some (.n j))=some (LI (sub zs 0 j)):=JO D.n KX (Fe (by omega)) (by omega) (by omega)
theorem ANQ(h:0<=i/\i<=zs.length):Ep (LI zs) (some (.n i)) none=some (LI (sub zs i zs.length)):=by rw[LI,JO D.n (Fe h.1) KX (by omega) (by omega)];rfl
theorem Qt{fl:Bool}(h:zs.length+ys.length<=1099511627776):ED fl (LI zs) (LI ys)=some (LI (zs++ys)):=SW D.n (λ_=>⟨rfl,λ_=>rfl⟩) h
theorem AL2{n m:Int}(h:0<=n/\n<=m/\m<=1099511627776):Ib (.n x) (.n n) (.n m)=some (LI (rep n x)):=by simp only[Ib,LI,rep];rw[if_pos (show 0<=n/\n<=m/\m<=(HM:Int)from h)];simp
theorem E3:D.l []=LI []:=rfl
theorem AD5:Dv []=some (.l []):=rfl
theorem L4{a:Int}:Dv [.n a]=some (LI [a]):=rfl
theorem ON{a b:Int}:Dv [.n a,.n b]=some (LI [a,b]):=rfl
theorem Yf{a b c:Int}:Dv [.n a,.n b,.n c]=some (LI [a,b,c]):=rfl
theorem AQ2:(D.i k x).one=true:=rfl
theorem AQG:(LI zs).one=true:=rfl
end
section
variable{s u:List Nat}{ss ts:List (List Nat)}{i j:Int}{k:IntKind}
theorem ANG:Pm (.s s)=some (.n s.length):=rfl
theorem ADI(h:0<=i/\i<s.length):Nj (.s s) (.i k i)=some (.y (AH s i)):=by
 have l:i.toNat<s.length:=by omega
 simp[Nj,h.1,l,AH]
theorem AFQ(h:0<=i/\i<=j/\j<=s.length):Hl (.s s) (some (.n i)) (some (.n j))=some (.s (sub s i j)):=by simp only[Hl,Fe h.1,Fe (show 0<=j by omega)];rw[if_pos (by omega)];rfl
theorem AEP(h:0<=j/\j<=s.length):Hl (.s s) none (some (.n j))=some (.s (sub s 0 j)):=by simp only[Hl,KX,Fe h.1];rw[if_pos (by omega)];rfl
theorem AMK(h:0<=i/\i<=s.length):Hl (.s s) (some (.n i)) none=some (.s (sub s i s.length)):=by simp only[Hl,KX,Fe h.1];rw[if_pos (by omega)];rfl
theorem ASU:Fu (LS ss)=some (.n ss.length):=by simp[Fu,LS]
theorem AF3(h:0<=i/\i<ss.length):EN (LS ss) (.i k i)=some (.s (AG ss i)):=O9 D.s [] (λ_=>rfl) h.1 h.2
theorem Zi:Gx (.s s)=some (.s s):=rfl
theorem AJS(h:0<=i/\i<ss.length):Aw [i.toNat] (LS ss) (.s s)=some (LS (HD ss i s)):=NZ D.s (by omega)
theorem AA1(h:0<=i/\i<=j/\j<=ss.length):Ep (LS ss) (some (.n i)) (some (.n j))=some (LS (sub ss i j)):=
 JO D.s (Fe h.1) (Fe (by omega)) (by omega) (by omega)
theorem AK7{fl:Bool}(h:ss.length+ts.length<=1099511627776):ED fl (LS ss) (LS ts)=some (LS (ss++ts)):=SW D.s (λ_=>⟨rfl,λ_=>rfl⟩) h
theorem ARJ{n m:Int}(h:0<=n/\n<=m/\m<=1099511627776):Ib (.s s) (.n n) (.n m)=some (LS (rep n s)):=by simp only[Ib,LS,rep];rw[if_pos (show 0<=n/\n<=m/\m<=(HM:Int)from h)];simp
theorem UX:D.l []=LS []:=rfl
theorem Nh{a:List Nat}:Dv [.s a]=some (LS [a]):=rfl
theorem ALC:(D.s s).one=true:=rfl
end
section
variable{bs cs:List Nat}{i j:Int}{k:IntKind}{c:Nat}
theorem AL7:Fu (LB bs)=some (.n bs.length):=by simp[Fu,LB]
theorem Zf(h:0<=i/\i<bs.length):EN (LB bs) (.i k i)=some (.y (AH bs i)):=O9 D.y 0 (λ_=>rfl) h.1 h.2
theorem AN0{fl:Bool}(h:bs.length+cs.length<=1099511627776):ED fl (LB bs) (LB cs)=some (LB (bs++cs)):=SW D.y (λ_=>⟨rfl,λ_=>rfl⟩) h
theorem AMJ:Dv [.y c]=some (LB [c]):=rfl
theorem ACS{x:Int}(h:0<=x):Dv [.i .u8 x]=some (LB [x.toNat]):=by
 have:x=(x.toNat:Int):=by omega
 rw[this];rfl
theorem AEG{x:Nat}(h:x<256):KF (LB [x])=some (.s [x]):=by
 have l:((x:Int))<256:=by omega
 simp[KF,LB,bytesOf,l]
theorem AA8:D.l []=LB []:=rfl
theorem AN2(h:bs.length<=1099511627776):TI (.s bs)=some (LB bs):=by simp only[TI];rw[if_pos (show bs.length<=HM from h)];rfl
theorem AE1:∀{bs:List Nat},(∀c∈bs,c<256)->bytesOf (bs.map D.y)=some bs
 |[],_=>rfl
 |c::bs,h=>by have o:=h c (by simp);simp only[List.map_cons,bytesOf];rw[if_pos (by omega),AE1 λc l=>h c (by simp[l])];simp
theorem Py(h:∀c∈bs,c<256):KF (LB bs)=some (.s bs):=by simp[KF,LB,AE1 h]
end
section
variable{bs cs:List Bool}{i j:Int}{k:IntKind}{c:Bool}
theorem AAE:Fu (LT bs)=some (.n bs.length):=by simp[Fu,LT]
theorem ARD(h:0<=i/\i<bs.length):EN (LT bs) (.i k i)=some (.b (CQ bs i)):=O9 D.b false (λ_=>rfl) h.1 h.2
theorem AM1:Gx (.b c)=some (.b c):=rfl
theorem ACC(h:0<=i/\i<bs.length):Aw [i.toNat] (LT bs) (.b c)=some (LT (Cb bs i c)):=NZ D.b (by omega)
theorem AMR{n m:Int}(h:0<=n/\n<=m/\m<=1099511627776):Ib (.b c) (.n n) (.n m)=some (LT (rep n c)):=by simp only[Ib,LT,rep];rw[if_pos (show 0<=n/\n<=m/\m<=(HM:Int)from h)];simp
theorem AR2:(D.b c).one=true:=rfl
end
section
variable{rs qs:List (List Int)}{r:List Int}{i j x:Int}{k:IntKind}
theorem AR5:Fu (LL rs)=some (.n rs.length):=by simp[Fu,LL]
theorem AH0(h:0<=i/\i<rs.length):EN (LL rs) (.i k i)=some (LI (AF rs i)):=O9 LI [] (λ_=>rfl) h.1 h.2
theorem AQA(h:0<=i/\i<rs.length):Aq [i.toNat] (LL rs)=some (LI (AF rs i)):=get_map LI [] (by omega)
theorem ASL(h:0<=i/\i<rs.length):Aw [i.toNat] (LL rs) (LI r)=some (LL (Du rs i r)):=NZ LI (by omega)
theorem AJ7(h:0<=i/\i<rs.length/\0<=j/\j<(AF rs i).length):Aw [i.toNat,j.toNat] (LL rs) (.n x)=some (LL (Du rs i (BH (AF rs i) j x))):=by
 obtain⟨h0,G,I,J⟩:=h;have o:i.toNat<rs.length:=by omega
 have C:j.toNat<(AF rs i).length:=by omega
 have e:rs[i.toNat]=AF rs i:=by simp[AF,Ap,o]
 have:=NZ D.n (x:=x) C;have B:Aw [i.toNat,j.toNat] (LL rs) (.n x)=(Aw [j.toNat] (LI (AF rs i)) (.n x)).map λF=>.l ((rs.map LI).set i.toNat F):=by refine(show _=((rs.map LI)[i.toNat]?.bind λy=>Aw [j.toNat] y (.n x)).map _ from rfl).trans ?_;rw[List.getElem?_map,FD o,Option.map_some,Option.bind_some,e]
 rw[B,LI,this];simp[LL,Du,List.map_set,BH,LI]
theorem KA{fl:Bool}(h:rs.length+qs.length<=1099511627776/\fl=false):ED fl (LL rs) (LL qs)=some (LL (rs++qs)):=SW LI (λ_=>⟨rfl,λe=>by rw[h.2]at e;cases e⟩) h.1
theorem AE7(h:0<=i/\i<=j/\j<=rs.length):Ep (LL rs) (some (.n i)) (some (.n j))=some (LL (sub rs i j)):=
 JO LI (Fe h.1) (Fe (by omega)) (by omega) (by omega)
theorem AMU(h:0<=i/\i<=rs.length):Ep (LL rs) (some (.n i)) none=some (LL (sub rs i rs.length)):=by rw[LL,JO LI (Fe h.1) KX (by omega) (by omega)];rfl
theorem RZ:D.l []=LL []:=rfl
theorem GB:Dv [LI r]=some (LL [r]):=rfl
end
theorem AM4{is:List Nat}{d:D}{k:IntKind}{n:Int}:JW (some is) d (.i k n)=Aw is d (.i k n):=rfl
theorem AKY{is:List Nat}{d:D}{u:List Nat}:JW (some is) d (.s u)=Aw is d (.s u):=rfl
theorem ARQ{is:List Nat}{d:D}{u:Bool}:JW (some is) d (.b u)=Aw is d (.b u):=rfl
theorem AAA{is:List Nat}{d:D}{u:List D}:JW (some is) d (.l u)=Aw is d (.l u):=rfl
theorem Z0{is:List Nat}{d:D}{u:List (List Nat)}:JW (some is) d (LS u)=Aw is d (LS u):=rfl
theorem AK9{is:List Nat}{d:D}{u:List (List Int)}:JW (some is) d (LL u)=Aw is d (LL u):=rfl
theorem AEM{k:Nat}{x:List Int}:CY (k+1) (LI x)=true:=by
 simp only[CY,LI,Bool.or_eq_true,Ao];right;intro d hd;obtain⟨y,_,rfl⟩:=List.mem_map.1 hd
 cases k<;>simp[CY,D.flat]
theorem AcL{k:Nat}{x:List (List Nat)}:CY (k+1) (LS x)=true:=by
 simp only[CY,LS,Bool.or_eq_true,Ao];right;intro d hd;obtain⟨y,_,rfl⟩:=List.mem_map.1 hd
 cases k<;>simp[CY,D.flat]
theorem AUZ{k:Nat}{x:List (List Int)}:CY (k+2) (LL x)=true:=by show((D.l (x.map LI)).flat||(x.map LI).all (CY (k+1)))=true;simp only[Bool.or_eq_true,Ao];right;intro d hd;obtain⟨y,_,rfl⟩:=List.mem_map.1 hd;exact AEM
theorem Qv{x:List Int}:CY 1 (LI x)=true:=AEM
theorem WR{x:List (List Nat)}:CY 1 (LS x)=true:=AcL
theorem Tz{x:List (List Int)}:CY 2 (LL x)=true:=AUZ
theorem AG5{is:Option (List Nat)}{d:D}{x:List Int}:La is d (LI x) 1=is.bind λis=>Aw is d (LI x):=by unfold La;rw[Qv];rfl
theorem AMG{is:Option (List Nat)}{d:D}{x:List (List Nat)}:La is d (LS x) 1=is.bind λis=>Aw is d (LS x):=by unfold La;rw[WR];rfl
theorem AGE{is:Option (List Nat)}{d:D}{x:List (List Int)}:La is d (LL x) 2=is.bind λis=>Aw is d (LL x):=by unfold La;rw[Tz];rfl
def TX(rs:List (List Int))(i:Int):D:=.l ((rs.map LI).set i.toNat .u)
theorem O0{rs:List (List Int)}{i:Int}(h:0<=i/\i<rs.length):JF 1 (LL rs) (some [i.toNat])=some (LI (AF rs i),TX rs i):=by
 have l:i.toNat<rs.length:=by omega
 simp[JF,LL,Aq,Aw,l,Qv,AF,TX]
theorem OL{rs:List (List Int)}{i:Int}{x:List Int}(h:0<=i/\i<rs.length):Aw [i.toNat] (TX rs i) (LI x)=some (LL (Du rs i x)):=by
 have l:i.toNat<rs.length:=by omega
 simp[TX,Aw,l,LL,Du]
theorem ACO{is:List Nat}{d:D}{u:List Int}:JW (some is) d (LI u)=Aw is d (LI u):=rfl
theorem AMH{a b:Int}(h:0<=a):a.tmod b=a%b:=Int.tmod_eq_emod_of_nonneg h
theorem AK4{a b:Int}(h:0<=a):a.tdiv b=a/b:=Int.tdiv_eq_ediv_of_nonneg h
theorem vl:(∀{α:Type}{a:α}{l:List α},(a::l).length=l.length+1)/\(∀{α:Type},([]:List α).length=0)/\(∀{α:Type}{a b:List α},(a++b).length=a.length+b.length)/\
  (∀{zs:List Int}{i x:Int},(BH zs i x).length=zs.length)/\(∀{zs:List (List Nat)}{i:Int}{x:List Nat},(HD zs i x).length=zs.length)/\(∀{zs:List Bool}{i:Int}{x:Bool},(Cb zs i x).length=zs.length)/\
  (∀{zs:List (List Int)}{i:Int}{x:List Int},(Du zs i x).length=zs.length)/\(∀{α:Type}{xs:List α}{i j:Int},(sub xs i j).length=min j.toNat xs.length-i.toNat)/\(∀{α:Type}{n:Int}{y:α},(rep n y).length=n.toNat)/\
  (∀{α β:Type}{f:α->β}{l:List α},(l.map f).length=l.length)/\(∀{α:Type}{l:List α}{n:Nat},(l.take n).length=min n l.length)/\(∀{α:Type}{l:List α}{n:Nat},(l.drop n).length=l.length-n)/\(∀{α:Type}{l:List α},l.reverse.length=l.length):=
 ⟨AO,A6,A4,by simp[BH],by simp[HD],by simp[Cb],by simp[Du],by simp[sub],by simp[rep],List.length_map _,List.length_take,List.length_drop,List.length_reverse⟩
theorem ADC{p:Bool}:(p==p)=true:=by simp
theorem AKH{x:List Nat}:(x==x)=true:=by simp
theorem H6{zs:List Int}{i j:Nat}{x:Int}(hi:i<zs.length):AB (BH zs i x) j=if i=j then x else AB zs j:=by simp only[AB,BH,BM,Ap,List.getElem?_set];split;rename_i h;subst h;simp;rfl
theorem AMO{zs:List (List Nat)}{i j:Nat}{x:List Nat}(hi:i<zs.length):AG (HD zs i x) j=if i=j then x else AG zs j:=by simp only[AG,HD,BM,Ap,List.getElem?_set];split;rename_i h;subst h;simp;rfl
theorem AID{zs:List Bool}{i j:Nat}{x:Bool}(hi:i<zs.length):CQ (Cb zs i x) j=if i=j then x else CQ zs j:=by simp only[CQ,Cb,BM,Ap,List.getElem?_set];split;rename_i h;subst h;simp;rfl
theorem HW{a b:List Int}(B:a.length=b.length)(h:∀j:Nat,j<a.length->AB a j=AB b j):a=b:=by apply List.ext_getElem B;intro j l o;have:=h j l;simpa[AB,l,o]using this
theorem LV{α:Type}{n:Int}{y:α}:(rep n y).length=n.toNat:=by simp[rep]
section
variable{zs:List Int}{i j x:Int}
theorem DO:(BH zs i x).length=zs.length:=by simp[BH]
theorem OF{ss:List (List Nat)}{s:List Nat}:(HD ss i s).length=ss.length:=by simp[HD]
theorem G1{ss:List Bool}{s:Bool}:(Cb ss i s).length=ss.length:=by simp[Cb]
theorem W3{ss:List (List Int)}{s:List Int}:(Du ss i s).length=ss.length:=by simp[Du]
theorem K9{α:Type}{xs:List α}:(sub xs i j).length=min j.toNat xs.length-i.toNat:=by simp[sub]
end
theorem Eu{K:Nat->List D->List D->Prop}{g:Nat}{ds:List D}{r:Nat}{e:Env}{Q:Env->Prop}{rs:List D}(h:K g ds rs)(l:rs.length=r)(o:Q (e++rs)):Mo K g ds r e Q:=⟨rs,h,l,o⟩
theorem EF{w:List Nat}{i:Nat}(h:i<w.length):w.drop i=AH w i::w.drop (i+1):=by rw[List.drop_eq_getElem_cons h];simp[AH,h]
theorem Jw{w:List Int}{i:Nat}(h:i<w.length):w.drop i=AB w i::w.drop (i+1):=by rw[List.drop_eq_getElem_cons h];simp[AB,h]
theorem D2{a b c d:D}(h:a=c)(l:b=d):[a,b]=[c,d]:=by rw[h,l]
theorem Db{p q:Bool}(h:p=q):[D.b p]=[D.b q]:=by rw[h]
theorem Dn{k:IntKind}{p q:Int}(h:p=q):[D.i k p]=[D.i k q]:=by rw[h]
theorem Dl{p q:List Int}(h:p=q):[LI p]=[LI q]:=by rw[h]
theorem Lr{zs:List Int}{p:Int->Bool}{i:Nat}(hi:i<zs.length)(h:p (AB zs i)=false):zs.all p=false:=by rw[Bool.eq_false_iff];intro l;rw[Ao]at l;have:=l (AB zs i) (by simp[AB,hi]);rw[h]at this;cases this
theorem Ki{zs:List Int}{p:Int->Bool}(h:∀j:Nat,j<zs.length->p (AB zs j)=true):zs.all p=true:=by rw[Ao];intro x o;obtain⟨j,l,rfl⟩:=List.mem_iff_getElem.1 o;have:=h j l;simpa[AB,l]using this
theorem Bf{i:Nat}{p:Nat->Prop}(h:∀j,j<i->p j)(l:p i):∀j,j<i+1->p j:=by
 intro j o;rcases BS j i with q|q;exact h j q;obtain rfl:j=i:=by omega
 exact l
def MP{α:Type}(f:α->D)(m:List (List Nat×α)):D:=.g (m.map λx=>.g [.s x.1,f x.2])
def MI(m:List (List Nat×Int)):D:=MP D.n m
def MS(m:List (List Nat×List Nat)):D:=MP D.s m
def Co{α:Type}(k:List Nat):List (List Nat×α)->Option α
 |[]=>none
 |(j,v)::m=>if k=j then some v else Co k m
def GV{α:Type}(k:List Nat)(v:α):List (List Nat×α)->List (List Nat×α)
 |[]=>[(k,v)]
 |(j,x)::m=>if k=j then(k,v)::m else(j,x)::GV k v m
theorem O2{α:Type}{f:α->D}{k:List Nat}:∀m:List (List Nat×α),getM k (m.map λx=>.g [.s x.1,f x.2])=(Co k m).map f
 |[]=>rfl
 |(j,v)::m=>by simp only[List.map_cons,getM,Co];split;rfl;exact O2 m
theorem Up{α:Type}{f:α->D}{k:List Nat}{v:α}:∀m:List (List Nat×α),HY k (f v) (m.map λx=>.g [.s x.1,f x.2])=(GV k v m).map λx=>.g [.s x.1,f x.2]
 |[]=>rfl
 |(j,x)::m=>by simp only[List.map_cons,HY,GV];split;rfl;rw[Up m];rfl
section
variable{k:List Nat}{m:List (List Nat×Int)}{ms:List (List Nat×List Nat)}{v d:Int}{s e:List Nat}
theorem muI:Hu (MI m) (.s k) (.n v)=some (MI (GV k v m)):=by simp only[MI,MP,Hu,D.flat,if_true];rw[Up]
theorem muS:Hu (MS ms) (.s k) (.s s)=some (MS (GV k s ms)):=by simp only[MS,MP,Hu,D.flat,if_true];rw[Up]
theorem Zt:Hu (.g []) (.s k) (.n v)=some (MI [(k,v)]):=rfl
theorem APZ:Hu (.g []) (.s k) (.s s)=some (MS [(k,s)]):=rfl
theorem mgI:JT (.n d) (MI m) (.s k)=some (.n ((Co k m).getD d)):=by simp only[MI,MP,JT];rw[O2];cases Co k m<;>rfl
theorem mgS:JT (.s e) (MS ms) (.s k)=some (.s ((Co k ms).getD e)):=by simp only[MS,MP,JT];rw[O2];cases Co k ms<;>rfl
theorem moI:IV (.n d) (MI m) (.s k)=some (.n ((Co k m).getD d),.b (Co k m).isSome):=by simp only[MI,MP,IV];rw[O2];cases Co k m<;>rfl
theorem moS:IV (.s e) (MS ms) (.s k)=some (.s ((Co k ms).getD e),.b (Co k ms).isSome):=by simp only[MS,MP,IV];rw[O2];cases Co k ms<;>rfl
end
def Iw(R:Env->Prop)(Q:X->Env->Prop):X->Env->Prop
 |.n,e=>R e
 |.ex j,e=>Q (.ex j) e
 |.r,e=>Q .r e
theorem AAT{R:Env->Prop}{Q:X->Env->Prop}{e:Env}:Iw R Q .n e=R e:=rfl
theorem APK{R:Env->Prop}{Q:X->Env->Prop}{e:Env}{j:Nat}:Iw R Q (.ex j) e=Q (.ex j) e:=rfl
theorem AR0{R:Env->Prop}{Q:X->Env->Prop}{e:Env}:Iw R Q .r e=Q .r e:=rfl
def iter{σ:Type}(f:Nat->σ->σ):Nat->σ->σ
 |0,s=>s
 |n+1,s=>f n (iter f n s)
theorem VB{σ:Type}{f:Nat->σ->σ}{l:σ}(P:σ->Prop)(h0:P l)(h:∀i s,P s->P (f i s)):∀n,P (iter f n l)
 |0=>h0
 |n+1=>h n _ (VB P h0 h n)
theorem Bj{K:Nat->List D->List D->Prop}{b:S}{Q:X->Env->Prop}{e:Env}{σ:Type}(I:σ->Prop)(mk:σ->Env)(m:σ->Nat)(l:σ)(h0:I l)(he:e=mk l)
  (step:∀s,I s->wpS K b (Iw (λo=>∃s',m s' < m s/\I s'/\o=mk s') Q) (mk s)):wpS K (.loop b) Q e:=by
 refine AWQ (λn e=>∃s,n=m s/\I s/\e=mk s) (m l) ⟨l,rfl,h0,he⟩ ?_;rintro _ _ ⟨s,rfl,G,rfl⟩;refine D8 b (λx e h=>?_) (step s G)
 cases x with
 |n=>obtain⟨s',B,C,F⟩:=h;exact⟨m s',B,s',rfl,C,F⟩
 |ex j=>exact h
 |r=>exact h
theorem Aj{K:Nat->List D->List D->Prop}{b:S}{Q:X->Env->Prop}{e:Env}{σ:Type}(P:Nat->σ->Prop)(mk:Nat->σ->Env)(n:Nat)(B:σ)(h0:P 0 B)(he:e=mk 0 B)
  (step:∀i s,i<n->P i s->wpS K b (Iw (λF=>∃s',P (i+1) s'/\F=mk (i+1) s') Q) (mk i s))
  (last:∀s,P n s->wpS K b (Iw (λ_=>False) Q) (mk n s)):wpS K (.loop b) Q e:=by
 refine Bj (λ(x:Nat×σ)=>x.1<=n/\P x.1 x.2) (λx=>mk x.1 x.2) (λx=>n-x.1) (0,B) ⟨Nat.zero_le _,h0⟩ he ?_;rintro⟨i,s⟩ ⟨hi,C⟩;rcases BS i n with l|o
 .refine D8 b (λx e h=>?_) (step i s l C)
  cases x with
  |n=>obtain⟨s',G,I⟩:=h;exact⟨(i+1,s'),by show n-(i+1)<n-i;omega,⟨l,G⟩,I⟩
  |ex j=>exact h
  |r=>exact h
 .obtain rfl:i=n:=Nat.le_antisymm hi o;refine D8 b (λx e h=>?_) (last s C)
  cases x with
  |n=>exact h.elim
  |ex j=>exact h
  |r=>exact h
theorem AN{K:Nat->List D->List D->Prop}{b:S}{Q:X->Env->Prop}{e:Env}(P:Nat->Prop)(mk:Nat->Env)(n:Nat)(h0:P 0)(he:e=mk 0)
  (step:∀i,i<n->P i->wpS K b (Iw (λl=>P (i+1)/\l=mk (i+1)) Q) (mk i))
  (last:P n->wpS K b (Iw (λ_=>False) Q) (mk n)):wpS K (.loop b) Q e:=by
 refine Aj (λi (_:Unit)=>P i) (λi _=>mk i) n () h0 he (λi _ hi o=>?_) (λ_ h=>last h);refine D8 b (λx e h=>?_) (step i hi o)
 cases x with
 |n=>exact⟨(),h.1,h.2⟩
 |ex j=>exact h
 |r=>exact h
theorem P8{K:Nat->List D->List D->Prop}{b:S}{Q:X->Env->Prop}{e:Env}{σ:Type}(f:Nat->σ->σ)(P:Nat->σ->Prop)(mk:Nat->σ->Env)(n:Nat)(l:σ)(h0:P 0 l)(he:e=mk 0 l)
  (G:∀i s,i<n->P i s->P (i+1) (f i s))
  (step:∀i s,i<n->P i s->s=iter f i l->wpS K b (Iw (λC=>C=mk (i+1) (f i s)) Q) (mk i s))
  (last:∀s,s=iter f n l->P n s->wpS K b (Iw (λ_=>False) Q) (mk n s)):wpS K (.loop b) Q e:=by
 refine Aj (λi s=>s=iter f i l/\P i s) mk n l ⟨rfl,h0⟩ he (λi s hi F=>?_) (λs h=>last s h.1 h.2);obtain⟨o,B⟩:=F;refine D8 b (λx e h=>?_) (step i s hi B o)
 cases x with
 |n=>exact⟨f i s,⟨by rw[o];rfl,G i s hi B⟩,h⟩
 |ex j=>exact h
 |r=>exact h
theorem ZD{K:Nat->List D->List D->Prop}{k:Nat}{f:IF}[h:Has K k f]{ds rs:List D}(B:ds.length=f.np)(l:wpS K f.body (Lz f.res rs) (ds++List.replicate (f.nv-f.np) .u))(o:G5 f.cl rs=true:=by rfl):K k ds rs:=by
 refine h.h ds rs ⟨⟨B,o⟩,?_⟩;refine D8 _ (λx e h=>?_) l
 cases x with
 |ex _=>exact h.elim
 |n=>exact⟨trivial,h⟩
 |r=>exact⟨trivial,h⟩
section
variable{K:Nat->List D->List D->Prop}
theorem AaB{p:Pr}{e:Env}{Q:Env->Prop}(h:Ad K p e Q):∃C,Q C/\Ad K p e (·=C):=by unfold Ad at*;split at h;exact⟨_,h,rfl⟩;obtain⟨rs,l,o,B⟩:=h;exact⟨_,B,rs,l,o,rfl⟩;obtain⟨h0,rs,l,o,B⟩:=h;exact⟨_,B,h0,rs,l,o,rfl⟩;split at h;exact⟨_,h,rfl⟩;exact h.elim;split at h;exact⟨_,h,rfl⟩;exact h.elim;split at h;exact⟨_,h,rfl⟩;exact h.elim;split at h;exact⟨_,h,rfl⟩;exact h.elim;split at h;exact⟨_,h,rfl⟩;exact h.elim
theorem VX:∀{I:List It}{e:Env}{Q:Env->Prop}(_:Ek K I e Q),∃C,Q C/\Ek K I e (·=C)
 |[],e,Q,h=>⟨e,h,rfl⟩
 |it::I,e,Q,h=>by simp only[Ek,Iv]at*;split at h;rename_i L;obtain⟨J,F,G⟩:=AaB h;obtain⟨l,o,B⟩:=VX F;refine⟨l,o,?_⟩;exact ALP (λe h=>by subst h;exact B) G;obtain⟨l,o,B⟩:=VX h;exact⟨l,o,B⟩;exact h.elim
theorem ADT{R:(X->Env->Prop)->Env->Prop}(B:∀Q G e,(∀x e,Q x e->G x e)->R Q e->R G e)(J:∀Q e,R Q e->∃o l,Q o l/\R (λx e=>x=o/\e=l) e):
  ∀(n:Nat){e:Env}{Q:X->Env->Prop}(_:EK R n Q e),∃o l,Q o l/\EK R n (λx e=>x=o/\e=l) e
 |0,_,_,h=>h.elim
 |n+1,e,Q,h=>by
  simp only[EK]at h;obtain⟨O,I,C,F⟩:=J _ _ h
  cases O with
  |n=>
   obtain⟨T,L,M,N⟩:=ADT B J n C
   refine⟨T,L,M,?_⟩
   simp only[EK]
   exact B _ _ _ (λx e h=>by obtain⟨rfl,rfl⟩:=h;exact N) F
  |ex j=>
   refine⟨.ex j,I,C,?_⟩
   simp only[EK]
   exact B _ _ _ (λx e h=>by obtain⟨rfl,rfl⟩:=h;exact⟨rfl,rfl⟩) F
  |r=>
   refine⟨.r,I,C,?_⟩
   simp only[EK]
   exact B _ _ _ (λx e h=>by obtain⟨rfl,rfl⟩:=h;exact⟨rfl,rfl⟩) F
theorem MN:∀(s:S){e:Env}{Q:X->Env->Prop}(_:wpS K s Q e),∃I G,Q I G/\wpS K s (λx e=>x=I/\e=G) e
 |.skip,e,Q,h=>⟨_,_,h,rfl,rfl⟩
 |.reg O out,e,Q,h=>by simp only[wpS]at h;obtain⟨B,l,o⟩:=VX h;exact⟨_,_,l,RN (λe h=>by subst h;exact⟨rfl,rfl⟩) o⟩
 |.seq a b,e,Q,h=>by
  simp only[wpS]at h;obtain⟨C,B,l,o⟩:=MN a h
  cases C with
  |n=>
   obtain⟨T,J,L,M⟩:=MN b l
   refine⟨T,J,L,?_⟩
   simp only[wpS]
   exact D8 a (λx e h=>by obtain⟨rfl,rfl⟩:=h;exact M) o
  |ex j=>
   refine⟨.ex j,B,l,?_⟩
   simp only[wpS]
   exact D8 a (λx e h=>by obtain⟨rfl,rfl⟩:=h;exact⟨rfl,rfl⟩) o
  |r=>
   refine⟨.r,B,l,?_⟩
   simp only[wpS]
   exact D8 a (λx e h=>by obtain⟨rfl,rfl⟩:=h;exact⟨rfl,rfl⟩) o
 |.cond n x y,e,Q,h=>by simp only[wpS]at*;split at h;exact MN x h;exact MN y h;exact h.elim
 |.block id b,e,Q,h=>by
  simp only[wpS]at h;obtain⟨C,B,l,o⟩:=MN b h
  cases C with
  |n=>
   refine⟨.n,B,l,?_⟩
   simp only[wpS]
   exact D8 b (λx e h=>by obtain⟨rfl,rfl⟩:=h;exact⟨rfl,rfl⟩) o
  |ex j=>
   simp only at l
   split at l
   .rename_i F
    refine⟨.n,B,l,?_⟩
    simp only[wpS]
    exact D8 b (λx e h=>by obtain⟨rfl,rfl⟩:=h;simp[F]) o
   .rename_i F
    refine⟨.ex j,B,l,?_⟩
    simp only[wpS]
    exact D8 b (λx e h=>by obtain⟨rfl,rfl⟩:=h;simp[F]) o
  |r=>
   refine⟨.r,B,l,?_⟩
   simp only[wpS]
   exact D8 b (λx e h=>by obtain⟨rfl,rfl⟩:=h;exact⟨rfl,rfl⟩) o
 |.loop b,e,Q,h=>by simp only[wpS]at h;obtain⟨n,h⟩:=h;obtain⟨C,B,l,o⟩:=ADT (R:=wpS K b) (λQ U e N h=>D8 b N h) (λQ e h=>MN b h) n h;exact⟨C,B,l,n,o⟩
 |.exit id,e,Q,h=>⟨_,_,h,rfl,rfl⟩
 |.ret,e,Q,h=>⟨_,_,h,rfl,rfl⟩
theorem AiF{k:Nat}{f:IF}[h:Has K k f]{ds:List D}{P:List D->Prop}(G:ds.length=f.np)(C:wpS K f.body (R6 f.res P) (ds++List.replicate (f.nv-f.np) .u))(F:∀rs,P rs->G5 f.cl rs=true:=by intros;rfl):∃rs,P rs/\K k ds rs:=by
 obtain⟨x,e,l,B⟩:=MN _ C;have o:(∀j,x≠.ex j)/\P (f.res.map e.E):=by
  cases x with
  |ex j=>exact l.elim
  |n=>exact⟨by simp,l⟩
  |r=>exact⟨by simp,l⟩
 refine⟨_,o.2,h.h ds _ ⟨⟨G,F _ o.2⟩,D8 _ (λI J h=>?_) B⟩⟩;obtain⟨rfl,rfl⟩:=h
 cases I with
 |ex j=>exact(o.1 j rfl).elim
 |n=>exact⟨trivial,rfl⟩
 |r=>exact⟨trivial,rfl⟩
end
end Go.Cat
namespace Go.Cat
set_option maxRecDepth 10000
theorem vcL:
  (∀{α:Type}{a:α}{h bs:List α},(a::h)++bs=a::(h++bs))/\
  (∀{α:Type}{h:List α},[]++h=h)/\
  (∀{α:Type}{h:List α},h++[]=h)/\
  (∀{α β:Type}{f:α->β}{a:α}{l:List α},List.map f (a::l)=f a::List.map f l)/\
  (∀{α β:Type}{f:α->β},List.map f []=[])/\
  (∀{α:Type}{a b:α}{l:List α},(a::l).set 0 b=b::l)/\
  (∀{α:Type}{a b:α}{l:List α}{n:Nat},(a::l).set (n+1) b=a::l.set n b)/\
  (∀{α:Type}{a:α}{n:Nat},List.replicate (n+1) a=a::List.replicate n a)/\
  (∀{α:Type}{a:α},List.replicate 0 a=[])/\
  (∀{α β:Type}{f:α->Option β}{a:α},(some a).bind f=f a)/\
  (∀{α β:Type}{f:α->β}{a:α},(some a).map f=some (f a))/\
  (∀{α β:Type}{f:α->β},(none:Option α).map f=none)/\
  ((!true)=false)/\((!false)=true)/\(∀{b:Bool},(!!b)=b)/\
  (∀{α:Sort 1}{a b:α},(if True then a else b)=a)/\(∀{α:Sort 1}{a b:α},(if False then a else b)=b)/\
  (∀{b:Bool},(b&&true)=b)/\(∀{b:Bool},(true&&b)=b)/\(∀{b:Bool},(b&&false)=false)/\(∀{b:Bool},(false&&b)=false)/\
  (∀{b:Bool},(b||true)=true)/\(∀{b:Bool},(true||b)=true)/\(∀{b:Bool},(b||false)=b)/\(∀{b:Bool},(false||b)=b)/\
  (∀[Decidable True],decide True=true)/\(∀[Decidable False],decide False=false)/\
  (∀{i:Nat},((i+1:Nat):Int)=(i:Int)+1)/\(((0:Nat):Int)=0)/\
  (∀{p:Prop},(p/\True)=p)/\(∀{p:Prop},(True/\p)=p)/\
  (Pr.nop.np=0)/\(∀{g:Nat}{xs:List A}{r:Nat},(Pr.ca g xs r).np=r):=
 ⟨List.cons_append,List.nil_append _,List.append_nil _,List.map_cons,List.map_nil,List.set_cons_zero,List.set_cons_succ,List.replicate_succ,List.replicate_zero,Option.bind_some _ _,Option.map_some _ _,Option.map_none _,
  rfl,rfl,Bool.not_not _,if_pos trivial,if_neg id,Bool.and_true _,Bool.true_and _,Bool.and_false _,Bool.false_and _,Bool.or_true _,Bool.true_or _,Bool.or_false _,Bool.false_or _,decide_eq_true trivial,decide_eq_false id,Int.natCast_succ _,rfl,and_true _,true_and _,rfl,rfl⟩
theorem vcN:
 (∀{s:Sh}{d:D},(Pr.cs s d).np=1)/\
 (∀{a:A},(Pr.cy a).np=1)/\
 (∀{o:BinOp}{a b:A},(Pr.bi o a b).np=1)/\
 (∀{o:BinOp}{a b:A},(Pr.bb o a b).np=1)/\
 (∀{o:UnOp}{a:A},(Pr.un o a).np=1)/\
 (∀{a b c:A},(Pr.pk a b c).np=1)/\
 (∀{k:IntKind}{a:A},(Pr.cv k a).np=1)/\
 (∀{a:A}{p:List PE},(Pr.ln a p).np=1)/\
 (∀{a:A},(Pr.sn a).np=1)/\
 (∀{a b:A},(Pr.sx a b).np=1)/\
 (∀{a:A}{lo hi:Option A},(Pr.ss a lo hi).np=1)/\
 (∀{a:A}{p:List PE}{b:A},(Pr.ix a p b).np=1)/\
 (∀{n:Nat}{p:List PE}{a:A},(Pr.up n p a).np=1)/\
 (∀{F:Bool}{a:A}{lo hi:Option A},(Pr.sb F a lo hi).np=1)/\
 (∀{fl:Bool}{a b:A},(Pr.ap fl a b).np=1)/\
 (∀{d:D}{a b:A},(Pr.mk d a b).np=1)/\
 (∀{s:Sh}{xs:List A},(Pr.li s xs).np=1)/\
 (∀{a:A},(Pr.bs a).np=1)/\
 (∀{a:A},(Pr.sy a).np=1)/\
 (∀{a b:A},(Pr.mx a b).np=1)/\
 (∀{a b:A},(Pr.mn a b).np=1)/\
 (∀{a b:A},(Pr.iy a b).np=1)/\
 (∀{k:Nat}{xs:List (A×Nat)},(Pr.bg k xs).np=1)/\
 (∀{a:A},(Pr.bp a).np=1)/\
 (∀{a:A}{k:Nat},(Pr.gp a k).np=1)/\
 (∀{w:Bool}{a:A},(Pr.nz w a).np=1)/\
 (∀{a:A},(Pr.nn a).np=1)/\
 (∀{k:Nat}{a:A},(Pr.wl k a).np=1)/\
 (∀{n k:Nat}{a:A},(Pr.ws n k a).np=1)/\
 (∀{a:A}{p:List PE},(Pr.gt a p).np=1)/\
 (∀{fl:Bool}{a:A}{k:Nat},(Pr.fp fl a k).np=1)/\
 (∀{n:Nat}{p:List PE}{a:A}{i k:Nat},(Pr.uq n p a i k).np=1)/\
 (∀{n:Nat},(Pr.cb n).np=1)/\
 (∀{n:Nat}{p:List PE}{a:A}{k:Nat},(Pr.jn n p a k).np=1)/\
 (Pr.mm.np=1)/\
 (∀{n:Nat}{a b:A},(Pr.mu n a b).np=1)/\
 (∀{n:Nat}{a:A}{d:D},(Pr.mg n a d).np=1)/\
 (∀{n:Nat}{a:A}{d:D},(Pr.mo n a d).np=2)/\
 (∀{n:Nat},(Pr.tk n).np=2)/\
 (∀{n k:Nat}{p:List PE},(Pr.sp n p k).np=2)/\
 (∀{n:Nat},(Pr.sw n).np=2):=
 ⟨rfl,rfl,rfl,rfl,rfl,rfl,rfl,rfl,rfl,rfl,rfl,rfl,rfl,rfl,rfl,rfl,rfl,rfl,rfl,rfl,rfl,rfl,rfl,rfl,rfl,rfl,rfl,rfl,rfl,rfl,rfl,rfl,rfl,rfl,rfl,rfl,rfl,rfl,rfl,rfl,rfl⟩
theorem vcO:
 (∀{a b:Int},(a<b)->decide (a<b)=true)/\
 (∀{a b:Int},(b<=a)->decide (a<b)=false)/\
 (∀{a b:Int},(a<=b)->decide (a<=b)=true)/\
 (∀{a b:Int},(b<a)->decide (a<=b)=false)/\
 (∀{a b:Int},(a=b)->decide (a=b)=true)/\
 (∀{a b:Int},(a<b\/b<a)->decide (a=b)=false):=
 ⟨decide_eq_true,λh=>decide_eq_false (by omega),decide_eq_true,λh=>decide_eq_false (by omega),decide_eq_true,λh=>decide_eq_false (by omega)⟩
theorem vc0:type_of% (And.intro @wp_seq <|And.intro @wp_block <|And.intro @wp_skip <|And.intro @wp_exit <|And.intro @wp_ret <|And.intro @ALN <|And.intro @wp_cond <|And.intro @AJM <|And.intro @ARS <|And.intro @AQR <|And.intro @AG1 <|And.intro @ABH <|And.intro @AGV <|And.intro @AGQ <|And.intro @ZS <|And.intro @AK3 <|And.intro @ANO <|And.intro @AK6 <|And.intro @AAT <| @APK):=And.intro @wp_seq <|And.intro @wp_block <|And.intro @wp_skip <|And.intro @wp_exit <|And.intro @wp_ret <|And.intro @ALN <|And.intro @wp_cond <|And.intro @AJM <|And.intro @ARS <|And.intro @AQR <|And.intro @AG1 <|And.intro @ABH <|And.intro @AGV <|And.intro @AGQ <|And.intro @ZS <|And.intro @AK3 <|And.intro @ANO <|And.intro @AK6 <|And.intro @AAT <| @APK
theorem vc1:type_of% (And.intro @AR0 <|And.intro @AEW <|And.intro @ACU <|And.intro @ALS <|And.intro @ADW <|And.intro @AFI <|And.intro @ALL <|And.intro @AEU <|And.intro @AQ4 <|And.intro @ABK <|And.intro @AS1 <|And.intro @AAG <|And.intro @AN3 <|And.intro @AFS <|And.intro @ASY <|And.intro @Yu <|And.intro @AMV <|And.intro @ACZ <|And.intro @AEK <| @AIC):=And.intro @AR0 <|And.intro @AEW <|And.intro @ACU <|And.intro @ALS <|And.intro @ADW <|And.intro @AFI <|And.intro @ALL <|And.intro @AEU <|And.intro @AQ4 <|And.intro @ABK <|And.intro @AS1 <|And.intro @AAG <|And.intro @AN3 <|And.intro @AFS <|And.intro @ASY <|And.intro @Yu <|And.intro @AMV <|And.intro @ACZ <|And.intro @AEK <| @AIC
theorem vc2:type_of% (And.intro @ALV <|And.intro @AJH <|And.intro @AMZ <|And.intro @AGK <|And.intro @APM <|And.intro @AEO <|And.intro @ALF <|And.intro @AOR <|And.intro @ZI <|And.intro @AJ4 <|And.intro @AJ2 <|And.intro @AA9 <|And.intro @AF7 <|And.intro @AAY <|And.intro @AG4 <|And.intro @AHS <|And.intro @ZQ <|And.intro @AE8 <|And.intro @AKD <| @ADK):=And.intro @ALV <|And.intro @AJH <|And.intro @AMZ <|And.intro @AGK <|And.intro @APM <|And.intro @AEO <|And.intro @ALF <|And.intro @AOR <|And.intro @ZI <|And.intro @AJ4 <|And.intro @AJ2 <|And.intro @AA9 <|And.intro @AF7 <|And.intro @AAY <|And.intro @AG4 <|And.intro @AHS <|And.intro @ZQ <|And.intro @AE8 <|And.intro @AKD <| @ADK
theorem vc3:type_of% (And.intro @AQM <|And.intro @AE6 <|And.intro @ZH <|And.intro @AP0 <|And.intro @AA7 <|And.intro @AM3 <|And.intro @AIE <|And.intro @AEB <|And.intro @APT <|And.intro @AER <|And.intro @AFR <|And.intro @Zp <|And.intro @ARE <|And.intro @AEQ <|And.intro @ANU <|And.intro @ASV <|And.intro @ALR <|And.intro @AKZ <|And.intro @ZX <| @ASD):=And.intro @AQM <|And.intro @AE6 <|And.intro @ZH <|And.intro @AP0 <|And.intro @AA7 <|And.intro @AM3 <|And.intro @AIE <|And.intro @AEB <|And.intro @APT <|And.intro @AER <|And.intro @AFR <|And.intro @Zp <|And.intro @ARE <|And.intro @AEQ <|And.intro @ANU <|And.intro @ASV <|And.intro @ALR <|And.intro @AKZ <|And.intro @ZX <| @ASD
theorem vc4:type_of% (And.intro @AHN <|And.intro @ARW <|And.intro @AOB <|And.intro @ARI <|And.intro @ADQ <|And.intro @AOI <|And.intro @AQT <|And.intro @Zx <|And.intro @AHH <|And.intro @AGC <|And.intro @AHL <|And.intro @ALT <|And.intro @AQL <|And.intro @AJN <|And.intro @ZC <|And.intro @ANN <|And.intro @ABR <|And.intro @AHG <|And.intro @AJ0 <| @AFB):=And.intro @AHN <|And.intro @ARW <|And.intro @AOB <|And.intro @ARI <|And.intro @ADQ <|And.intro @AOI <|And.intro @AQT <|And.intro @Zx <|And.intro @AHH <|And.intro @AGC <|And.intro @AHL <|And.intro @ALT <|And.intro @AQL <|And.intro @AJN <|And.intro @ZC <|And.intro @ANN <|And.intro @ABR <|And.intro @AHG <|And.intro @AJ0 <| @AFB
theorem vc5:type_of% (And.intro @AAB <|And.intro @ZW <|And.intro @AKW <|And.intro @AQW <|And.intro @AKQ <|And.intro @AB3 <|And.intro @AKK <|And.intro @ZA <|And.intro @ADD <|And.intro @Zh <|And.intro @AHK <|And.intro @AN7 <|And.intro @AL8 <|And.intro @AM7 <|And.intro @ANX <|And.intro @AFA <|And.intro @AOW <|And.intro @AIB <|And.intro @ALH <| @ZG):=And.intro @AAB <|And.intro @ZW <|And.intro @AKW <|And.intro @AQW <|And.intro @AKQ <|And.intro @AB3 <|And.intro @AKK <|And.intro @ZA <|And.intro @ADD <|And.intro @Zh <|And.intro @AHK <|And.intro @AN7 <|And.intro @AL8 <|And.intro @AM7 <|And.intro @ANX <|And.intro @AFA <|And.intro @AOW <|And.intro @AIB <|And.intro @ALH <| @ZG
theorem vc6:type_of% (And.intro @AMF <|And.intro @ACD <|And.intro @ALQ <|And.intro @AIO <|And.intro @ADV <|And.intro @AOU <|And.intro @ARM <|And.intro @APN <|And.intro @AE4 <|And.intro @Um <|And.intro @VD <|And.intro @Vr <|And.intro @Tu <|And.intro @V6 <|And.intro @AFC <|And.intro @AQ1 <|And.intro @ARL <|And.intro @AOY <|And.intro @AQZ <| @AQ5):=And.intro @AMF <|And.intro @ACD <|And.intro @ALQ <|And.intro @AIO <|And.intro @ADV <|And.intro @AOU <|And.intro @ARM <|And.intro @APN <|And.intro @AE4 <|And.intro @Um <|And.intro @VD <|And.intro @Vr <|And.intro @Tu <|And.intro @V6 <|And.intro @AFC <|And.intro @AQ1 <|And.intro @ARL <|And.intro @AOY <|And.intro @AQZ <| @AQ5
theorem vc7:type_of% (And.intro @AOH <|And.intro @ANL <|And.intro @ALG <|And.intro @AH6 <|And.intro @ABD <|And.intro @AJQ <|And.intro @AGU <|And.intro @AIF <|And.intro @AGB <|And.intro @Yz <|And.intro @AAD <|And.intro @AII <|And.intro @wrap_i64 <|And.intro @wrap_u8 <|And.intro @API <|And.intro @AMM <|And.intro @AGZ <|And.intro @ZO <|And.intro @ACL <| @APF):=And.intro @AOH <|And.intro @ANL <|And.intro @ALG <|And.intro @AH6 <|And.intro @ABD <|And.intro @AJQ <|And.intro @AGU <|And.intro @AIF <|And.intro @AGB <|And.intro @Yz <|And.intro @AAD <|And.intro @AII <|And.intro @wrap_i64 <|And.intro @wrap_u8 <|And.intro @API <|And.intro @AMM <|And.intro @AGZ <|And.intro @ZO <|And.intro @ACL <| @APF
theorem vc8:type_of% (And.intro @AOC <|And.intro @AQ9 <|And.intro @AH4 <|And.intro @AHA <|And.intro @AKM <|And.intro @AOK <|And.intro @AMN <|And.intro @ALA <|And.intro @Zj <|And.intro @APL <|And.intro @Zy <|And.intro @ABZ <|And.intro @AA4 <|And.intro @AKV <|And.intro @AI3 <|And.intro @AOZ <|And.intro @ADA <|And.intro @Y8 <|And.intro @AL6 <| @AC5):=And.intro @AOC <|And.intro @AQ9 <|And.intro @AH4 <|And.intro @AHA <|And.intro @AKM <|And.intro @AOK <|And.intro @AMN <|And.intro @ALA <|And.intro @Zj <|And.intro @APL <|And.intro @Zy <|And.intro @ABZ <|And.intro @AA4 <|And.intro @AKV <|And.intro @AI3 <|And.intro @AOZ <|And.intro @ADA <|And.intro @Y8 <|And.intro @AL6 <| @AC5
theorem vc9:type_of% (And.intro @AH8 <|And.intro @AHJ <|And.intro @AP1 <|And.intro @AAP <|And.intro @ADF <|And.intro @ADG <|And.intro @ART <|And.intro @AOQ <|And.intro @AEA <|And.intro @ASC <|And.intro @ALM <|And.intro @ANY <|And.intro @AJU <|And.intro @AOT <|And.intro @WY <|And.intro @AJ5 <|And.intro @ARV <|And.intro @AR4 <|And.intro @AEL <| @AEH):=And.intro @AH8 <|And.intro @AHJ <|And.intro @AP1 <|And.intro @AAP <|And.intro @ADF <|And.intro @ADG <|And.intro @ART <|And.intro @AOQ <|And.intro @AEA <|And.intro @ASC <|And.intro @ALM <|And.intro @ANY <|And.intro @AJU <|And.intro @AOT <|And.intro @WY <|And.intro @AJ5 <|And.intro @ARV <|And.intro @AR4 <|And.intro @AEL <| @AEH
theorem AAQ:type_of% (And.intro @AJR <|And.intro @AOD <|And.intro @ACT <|And.intro @AI4 <|And.intro @YN <|And.intro @Wi <|And.intro @muI <|And.intro @muS <|And.intro @Zt <|And.intro @APZ <|And.intro @mgI <|And.intro @mgS <|And.intro @moI <|And.intro @moS <|And.intro @AC0 <|And.intro @AGX <|And.intro @AHE <|And.intro @U5 <|And.intro @ARG <| @ABQ):=And.intro @AJR <|And.intro @AOD <|And.intro @ACT <|And.intro @AI4 <|And.intro @YN <|And.intro @Wi <|And.intro @muI <|And.intro @muS <|And.intro @Zt <|And.intro @APZ <|And.intro @mgI <|And.intro @mgS <|And.intro @moI <|And.intro @moS <|And.intro @AC0 <|And.intro @AGX <|And.intro @AHE <|And.intro @U5 <|And.intro @ARG <| @ABQ
theorem AFK:type_of% (And.intro @ANQ <|And.intro @Qt <|And.intro @AL2 <|And.intro @AD5 <|And.intro @L4 <|And.intro @ON <|And.intro @Yf <|And.intro @AQ2 <|And.intro @AQG <|And.intro @ANG <|And.intro @ADI <|And.intro @AFQ <|And.intro @AEP <|And.intro @AMK <|And.intro @ASU <|And.intro @AF3 <|And.intro @Zi <|And.intro @AJS <|And.intro @AA1 <| @AK7):=And.intro @ANQ <|And.intro @Qt <|And.intro @AL2 <|And.intro @AD5 <|And.intro @L4 <|And.intro @ON <|And.intro @Yf <|And.intro @AQ2 <|And.intro @AQG <|And.intro @ANG <|And.intro @ADI <|And.intro @AFQ <|And.intro @AEP <|And.intro @AMK <|And.intro @ASU <|And.intro @AF3 <|And.intro @Zi <|And.intro @AJS <|And.intro @AA1 <| @AK7
theorem AGN:type_of% (And.intro @ARJ <|And.intro @Nh <|And.intro @ALC <|And.intro @AL7 <|And.intro @Zf <|And.intro @AN0 <|And.intro @AMJ <|And.intro @AN2 <|And.intro @AAE <|And.intro @ARD <|And.intro @AM1 <|And.intro @ACC <|And.intro @AMR <|And.intro @AR2 <|And.intro @AR5 <|And.intro @AH0 <|And.intro @AQA <|And.intro @ASL <|And.intro @AJ7 <| @KA):=And.intro @ARJ <|And.intro @Nh <|And.intro @ALC <|And.intro @AL7 <|And.intro @Zf <|And.intro @AN0 <|And.intro @AMJ <|And.intro @AN2 <|And.intro @AAE <|And.intro @ARD <|And.intro @AM1 <|And.intro @ACC <|And.intro @AMR <|And.intro @AR2 <|And.intro @AR5 <|And.intro @AH0 <|And.intro @AQA <|And.intro @ASL <|And.intro @AJ7 <| @KA
theorem ASM:type_of% (And.intro @AE7 <|And.intro @AMU <|And.intro @GB <|And.intro @AM4 <|And.intro @AKY <|And.intro @ARQ <|And.intro @ACO <|And.intro @AAA <|And.intro @Z0 <|And.intro @AK9 <|And.intro @Qv <|And.intro @WR <|And.intro @Tz <|And.intro @AG5 <|And.intro @AMG <|And.intro @AGE <|And.intro @O0 <|And.intro @OL <|And.intro @DO <| @OF):=And.intro @AE7 <|And.intro @AMU <|And.intro @GB <|And.intro @AM4 <|And.intro @AKY <|And.intro @ARQ <|And.intro @ACO <|And.intro @AAA <|And.intro @Z0 <|And.intro @AK9 <|And.intro @Qv <|And.intro @WR <|And.intro @Tz <|And.intro @AG5 <|And.intro @AMG <|And.intro @AGE <|And.intro @O0 <|And.intro @OL <|And.intro @DO <| @OF
theorem AL3:type_of% (And.intro @G1 <|And.intro @W3 <|And.intro @K9 <|And.intro @LV <|And.intro @AKH <|And.intro @ADC <|And.intro @AMH <|And.intro @AK4 <|And.intro @ACS <| @AEG):=And.intro @G1 <|And.intro @W3 <|And.intro @K9 <|And.intro @LV <|And.intro @AKH <|And.intro @ADC <|And.intro @AMH <|And.intro @AK4 <|And.intro @ACS <| @AEG
theorem vc:type_of% (And.intro vcL <|And.intro vcN <|And.intro vc0 <|And.intro vc1 <|And.intro vc2 <|And.intro vc3 <|And.intro vc4 <|And.intro vc5 <|And.intro vc6 <|And.intro vc7 <|And.intro vc8 <|And.intro vc9 <|And.intro AAQ <|And.intro AFK <|And.intro AGN <|And.intro ASM <|AL3):=And.intro vcL <|And.intro vcN <|And.intro vc0 <|And.intro vc1 <|And.intro vc2 <|And.intro vc3 <|And.intro vc4 <|And.intro vc5 <|And.intro vc6 <|And.intro vc7 <|And.intro vc8 <|And.intro vc9 <|And.intro AAQ <|And.intro AFK <|And.intro AGN <|And.intro ASM <|AL3
theorem AD:type_of% (And.intro vc vcO):=And.intro vc vcO
end Go.Cat
namespace Go.Cat
theorem dV{p:Prop}(h:p:=by first|omega|(simp only[vl];omega)):p:=h
theorem wW{p q:Prop}(h:q)(e:p=q:=by simp(disch:=first|omega|simp only[vl];omega) only[AD];rfl):p:=e▸h
theorem wZ{p:Prop}(h:p:=by simp(disch:=first|omega|simp only[vl];omega) only[AD]<;>rfl):p:=h
section
variable{K:Nat->List D->List D->Prop}{g:Nat}{ds:List D}{r:Nat}{e:Env}{Q:Env->Prop}{rs:List D}{q:Prop}
theorem cW(h:K g ds rs)(o:q)(l:rs.length=r:=by rfl)(c:Q (e++rs)=q:=by simp(disch:=first|omega|simp only[vl];omega) only[AD];rfl):Mo K g ds r e Q:=⟨rs,h,l,c▸o⟩
theorem cZ(h:K g ds rs)(l:rs.length=r:=by rfl)(o:Q (e++rs):=by simp(disch:=first|omega|simp only[vl];omega) only[AD]<;>rfl):Mo K g ds r e Q:=⟨rs,h,l,o⟩
theorem cB(h:K g ds rs)(o:Q (e++rs))(l:rs.length=r:=by rfl):Mo K g ds r e Q:=⟨rs,h,l,o⟩
end
end Go.Cat
namespace Go.Cat
class HasV(K:Nat->List D->List D->Prop)(k:Nat)(f:IF):Prop where
 h:∀ds rs,Body K f ds rs->K k ds rs
theorem AkU{K:Nat->List D->List D->Prop}{k:Nat}{f:IF}[h:HasV K k f]{ds rs:List D}(B:ds.length=f.np)(l:wpS K f.body (Lz f.res rs) (ds++List.replicate (f.nv-f.np) .u))(o:G5 f.cl rs=true:=by rfl):K k ds rs:=
 haveI:Has K k f:=⟨h.h⟩
 ZD (f:=f) B l o
end Go.Cat
namespace Go.Cat
open Go.ChangeShapes Go.WideShapes Go.ChangeAt Go.RowKit
section
variable{H:Type}{enc:TypeId×Value->H}{P:Program}
theorem Ae2{f:Func}{s:ChangeSpec}{apart fresh h again:Bool}{W I:World}{args:Array Value}{v:Value}{ds gs:List (DataW H)}{before L pv:List MemPlace}
  (M:DataW.Whole enc P f.params.toList s.vars apart W args.toList ds gs before)
  (G:∀(b:Nat)(sp:Nat->Bool)(hd:Bool),DataW.TrodAll enc P I b sp hd f.resultTypes.toList (v.resultList f.resultTypes.size) (s.fn H (ds++gs)).results [])
  (l:∀sp:Nat->Bool,(∀p∈before,sp p.block=true)->DataW.TrodAll enc P I 0 sp true f.params.toList args.toList (s.fn H (ds++gs)).args L)
  (o:∀sp:Nat->Bool,(∀p∈before,sp p.block=true)->DataW.TrodVars enc P I sp s.vars (s.fn H (ds++gs)).vars pv)
  (C:before=L++pv) (R:Below W.heap.size W I)
  (O:∀(j:Nat)(t:TypeId)(r:Value),f.resultTypes[j]?=some t->(v.resultList f.resultTypes.size)[j]?=some r->Value.okWide P I .any 0 t r):
  s.post enc P f apart fresh h again W args v I:=by
 have F:∀p∈before,(λb=>decide (b<W.heap.size)) p.block=true:=λp B=>by simpa using M.lt p B
 have N:=M.lt;refine⟨ds,gs,before,[],L,pv,M,G _ _ _,l _ F,o _ F,World.keptBut_mono (λp B=>⟨B,?_⟩) (R.frame (·∈before)),λ_=>?_⟩
 .rw[C,Ac]at B;exact Or.inr B
 .obtain⟨_,_,_,_,_,V,U⟩:=M;refine⟨O,_,_,([]++L)++pv,⟨[]++L,pv,trodAll_append (l _ (λ_ _=>rfl)) (G _ _ _),o _ (λ_ _=>rfl),rfl,?_,?_⟩,?_⟩
  .intro b off B;have J:MemPlace.cell b off∈before:=by rw[C];simpa using B
   rw[R.frozen (p:=⟨b,off,none⟩) (by simpa[MemPlace.block]using N _ J)];exact V b off J
  .intro T;have:=U T;rw[C]at this;simpa using this
  .intro p B _;rw[C];simpa using B
end
theorem AZB{P:Program}{fid:Nat->Nat}{f:FuncId}{ps:List Sh}{ds:List D}(h:H7 P fid f ⟨ps,[.v],[],none⟩ ds [.b true]){w:World}{args:List Value}
  (I:BU (AE fid w.heap (·∈[]) (λ_=>False)) ps ds args []):Calls P f args.toArray w λe w'=>e=.returned (.bool true)/\Below w.heap.size w w':=by
 refine(h w (λ_=>False) args [] (by simp) (by simp) I trivial).mono ?_;rintro e w' ⟨v,vs,M,rfl,B,_,o,C,F,G,_,_,l⟩;simp only[Sg.outs,List.map_nil,List.append_nil]at l;refine⟨?_,C,F,G,o.size,λk J=>o.same k J (by simp)⟩;match vs,l with
 |[x],l=>
  simp only[BU,AE,Rd]at l
  obtain⟨B1,B2,rfl,⟨_,L⟩,_⟩:=l
  simp only[Jt]at B
  rw[B,L]
theorem AiB{P:Program}{tab:List Row}{k:Nat}{r:Row}{ds:List D}(h:KS P tab k ds [.b true])(G:rowOf tab k=some r)(F:r.s.qs=[.v])(o:r.s.io=[])(l:r.s.fb=none):H7 P (Gk tab) r.f ⟨r.s.ps,[.v],[],none⟩ ds [.b true]:=by
 obtain⟨R,B,C⟩:=h;rw[G]at B
 cases B;rw[<-F,<-o,<-l];exact C
end Go.Cat
namespace Go.Cat
open Go.ChangeShapes Go.WideShapes Go.ChangeAt Go.RowKit
section
variable{H:Type}{enc:TypeId×Value->H}{P:Program}
theorem AGG(F:laidOutB P=true){W B:World}(C:Below W.heap.size W B){sp:Nat->Bool}:∀{ts:List TypeId}{vs:List Value}{ds:List (DataW H)}{ps:List MemPlace},
  (∀t∈ts,P.readableRec t=true/\t<P.types.size)->DataW.TrodAll enc P W 0 (λ_=>true) true ts vs ds ps->(∀p∈ps,sp p.block=true)->(∀p∈ps,p.block<W.heap.size)->DataW.TrodAll enc P B 0 sp true ts vs ds ps
 |[],vs,ds,ps=>λ_ h _ _=>by obtain⟨rfl,rfl,rfl⟩:=trodAll_nil h;exact trodAll_mk0
 |t::ts,vs,ds,ps=>λG h I o=>by obtain⟨v,V,d,J,p,q,rfl,rfl,rfl,L,M⟩:=trodAll_cons h;refine trodAll_cons_mk ?_ (AGG F C (λu N=>G u (BN _ N)) M (λx l=>I x (BF _ l)) λx l=>o x (BF _ l));obtain⟨R,O⟩:=G t (List.mem_cons_self ..);exact WideElems.Trod_stays F R O L (λx l=>C.same (o x (BX _ l))) λx l=>I x (BX _ l)
theorem AjV{W:World}{base:Nat}{t:TypeId}{v:Value}{d:DataW H}{ps:List MemPlace}(G:P.underlying t=some .string)
  (l:Value.okWide P W .any base t v) (h:DataW.Trod enc P W 0 (λ_=>true) true t v d ps):
  ∃s:List Nat,(∀c∈s,c<256)/\s.length<=9223372036854775807/\∀(fid:Nat->Nat)(Z:Nat->Prop),Rd fid W.heap Z (.s s) v:=by
 obtain⟨s,rfl,_,_,F⟩:=Go.ChangeMaps.open_string G l h;have o:∀c∈s.data.toList.map (·.toNat),c<256:=by intro c B;simp only[List.mem_map]at B;obtain⟨x,_,rfl⟩:=B;exact x.toNat_lt
 have C:(s.data.toList.map (·.toNat)).length<=9223372036854775807:=by unfold maxLen at F;simp only[List.length_map,Array.length_toList];have:s.data.size=s.size:=rfl;omega
 refine⟨s.data.toList.map (·.toNat),o,C,λfid Z=>?_⟩;simp only[Rd];refine⟨?_,o,C⟩;unfold BQ;congr 1;apply ByteArray.ext;simp only[List.map_map];apply Array.ext';have:((λc=>UInt8.ofNat c) ∘ λx:UInt8=>x.toNat)=id:=by funext x;simp
 simp[this]
end
theorem AWS{fid:Nat->Nat}{h:Array Obj}{ps:List Sh}{ds:List D}{vs:List Value}{d:D}{v:Value}(l:Rd fid h (λb=>b∈([]:List Nat)\/False) d v)
  (o:BU (AE fid h (·∈([]:List Nat)) (λ_=>False)) ps ds vs []):BU (AE fid h (·∈([]:List Nat)) (λ_=>False)) (.v::ps) (d::ds) (v::vs) []:=by simp only[BU];exact⟨[],[],rfl,by simp only[AE];exact⟨trivial,l⟩,o⟩
theorem AgF{fid:Nat->Nat}{h:Array Obj}:BU (AE fid h (·∈([]:List Nat)) (λ_=>False)) [] [] [] []:=rfl
end Go.Cat
