/-
 How a body is walked through: one statement behind the other; what comes later stays closed until it is reached.
-/
import Derived.Test.YtnjjceodpbhlmaaGreatCatThree
import Derived.WalkKit
import Derived.ProofKit
import Derived.OpenShut
import Derived.Below
import Derived.Carry
import Derived.ChangeSlices
import Derived.ChangeMaps5
import Derived.SliceStrings
set_option linter.unusedSimpArgs false
set_option linter.unusedVariables false
namespace Go.Cat
section
variable (K:Nat→List D→List D→Prop)
def OP (b:S) (Q:X→Env→Prop):X→Env→Prop
 | .n,e=>wpS K b Q e
 | .ex j,e=>Q (.ex j) e
 | .r,e=>Q .r e
def OG (id:Nat) (Q:X→Env→Prop):X→Env→Prop
 | .n,e=>Q .n e
 | .ex j,e=>if j=id then Q .n e else Q (.ex j) e
 | .r,e=>Q .r e
def UP (out:List (Option Nat)) (Q:X→Env→Prop):Env→Prop:=fun e=>Q .n (DE out e)
def ACN (r:List It) (Q:Env→Prop):Env→Prop:=fun e=>DZ K r e Q
def Bf (e:Env) (Q:Env→Prop):Option D→Prop
 | some d=>Q (e++[d])
 | none=>False
def T4 (x y:S) (Q:X→Env→Prop) (e:Env):D→Prop
 | .b true=>wpS K x Q e
 | .b false=>wpS K y Q e
 | _=>False
def S4 (g:Nat) (ds:List D) (r:Nat) (e:Env) (Q:Env→Prop):Prop:=∃ rs:List D,K g ds rs∧rs.length=r∧Q (e++rs)
def P4 (res:List Nat) (rs:List D):X→Env→Prop
 | .ex _,_=>False
 | .n,e=>rs=res.map e.E
 | .r,e=>rs=res.map e.E
def exQ (res:List Nat) (P:List D→Prop):X→Env→Prop
 | .ex _,_=>False
 | .n,e=>P (res.map e.E)
 | .r,e=>P (res.map e.E)
variable {K}
theorem Wl {res:List Nat} {P:List D→Prop} {e:Env}:exQ res P .n e=P (res.map e.E):=rfl
theorem Xx {res:List Nat} {P:List D→Prop} {e:Env}:exQ res P .r e=P (res.map e.E):=rfl
theorem wp_seq {a b:S} {Q:X→Env→Prop} {e:Env}:wpS K (.seq a b) Q e=wpS K a (OP K b Q) e:=by
 simp only [wpS]
 congr 1
 funext x e; cases x <;> rfl
theorem wp_block {id:Nat} {b:S} {Q:X→Env→Prop} {e:Env}:wpS K (.block id b) Q e=wpS K b (OG id Q) e:=by
 simp only [wpS]
 congr 1
 funext x e; cases x <;> rfl
theorem wp_skip {Q:X→Env→Prop} {e:Env}:wpS K .skip Q e=Q .n e:=rfl
theorem wp_exit {id:Nat} {Q:X→Env→Prop} {e:Env}:wpS K (.exit id) Q e=Q (.ex id) e:=rfl
theorem wp_ret {Q:X→Env→Prop} {e:Env}:wpS K .ret Q e=Q .r e:=rfl
theorem Uh {its:List It} {out:List (Option Nat)} {Q:X→Env→Prop} {e:Env}:wpS K (.reg its out) Q e=DZ K its e (UP out Q):=rfl
theorem wp_cond {n:Nat} {x y:S} {Q:X→Env→Prop} {e:Env}:wpS K (.cond n x y) Q e=T4 K x y Q (e.set n .u) (e.E n):=by
 simp only [wpS]
 cases e.E n <;> try rfl
theorem UU {b:S} {Q:X→Env→Prop} {e:Env}:OP K b Q .n e=wpS K b Q e:=rfl
theorem AED {b:S} {Q:X→Env→Prop} {e:Env} {j:Nat}:OP K b Q (.ex j) e=Q (.ex j) e:=rfl
theorem VA {b:S} {Q:X→Env→Prop} {e:Env}:OP K b Q .r e=Q .r e:=rfl
theorem ABM {id:Nat} {Q:X→Env→Prop} {e:Env}:OG id Q .n e=Q .n e:=rfl
theorem ZQ {id:Nat} {Q:X→Env→Prop} {e:Env} {j:Nat}:OG id Q (.ex j) e=if j=id then Q .n e else Q (.ex j) e:=rfl
theorem Ye {id:Nat} {Q:X→Env→Prop} {e:Env}:OG id Q .r e=Q .r e:=rfl
theorem AF9 {out:List (Option Nat)} {Q:X→Env→Prop} {e:Env}:UP out Q e=Q .n (DE out e):=rfl
theorem Wy {r:List It} {Q:Env→Prop} {e:Env}:ACN K r Q e=DZ K r e Q:=rfl
theorem W7 {e:Env} {Q:Env→Prop} {d:D}:Bf e Q (some d)=Q (e++[d]):=rfl
theorem ABD {x y:S} {Q:X→Env→Prop} {e:Env}:T4 K x y Q e (.b true)=wpS K x Q e:=rfl
theorem AA8 {x y:S} {Q:X→Env→Prop} {e:Env}:T4 K x y Q e (.b false)=wpS K y Q e:=rfl
theorem ADV {res:List Nat} {rs:List D} {e:Env}:P4 res rs .n e=(rs=res.map e.E):=rfl
theorem YN {res:List Nat} {rs:List D} {e:Env}:P4 res rs .r e=(rs=res.map e.E):=rfl
theorem ADR {e:Env} {Q:Env→Prop}:DZ K [] e Q=Q e:=rfl
theorem Ud {it:It} {r:List It} {e:Env} {Q:Env→Prop}:DZ K (it::r) e Q=GG K it e (ACN K r Q):=rfl
def gdQ (z:List (Option Nat)) (p:Pr) (e:Env) (Q:Env→Prop):Option Bool→Prop
 | some true=>AY K p e Q
 | some false=>Q (e++CR e.E z p.np)
 | none=>False
theorem W4 {z:List (Option Nat)} {g:Gd} {p:Pr} {e:Env} {Q:Env→Prop}:GG K ⟨z,g,p⟩ e Q=gdQ (K:=K) z p e Q (CO e.E g):=by
 simp only [GG]
 split <;> rename_i h <;> simp only [h] <;> rfl
theorem AC7 {z:List (Option Nat)} {p:Pr} {e:Env} {Q:Env→Prop}:gdQ (K:=K) z p e Q (some true)=AY K p e Q:=rfl
theorem Wt {z:List (Option Nat)} {p:Pr} {e:Env} {Q:Env→Prop}:gdQ (K:=K) z p e Q (some false)=Q (e++CR e.E z p.np):=rfl
theorem ADF {E:Nat→D} {n:Nat}:CR E [] n=List.replicate n .u:=Tb n
theorem Yp {E:Nat→D} {m:Nat} {z:List (Option Nat)} {n:Nat}:CR E (some m::z) (n+1)=E m::CR E z n:=rfl
theorem Us {E:Nat→D} {z:List (Option Nat)} {n:Nat}:CR E (none::z) (n+1)=.u::CR E z n:=rfl
theorem X4 {E:Nat→D}:CO E []=some true:=rfl
def LC (w:Bool) (r:Option Bool):D→Option Bool
 | .b x=>if x=w then r else some false
 | _=>none
theorem We {E:Nat→D} {n:Nat} {w:Bool} {r:Gd}:CO E ((n,w)::r)=LC w (CO E r) (E n):=rfl
theorem AAJ {r:Option Bool}:LC true r (.b true)=r:=rfl
theorem Wd {r:Option Bool}:LC false r (.b false)=r:=rfl
theorem Yz {r:Option Bool}:LC true r (.b false)=some false:=rfl
theorem AA6 {r:Option Bool}:LC false r (.b true)=some false:=rfl
theorem XW {e:Env} {Q:Env→Prop}:AY K .nop e Q=Q e:=rfl
theorem VZ {g:Nat} {xs:List A} {r:Nat} {e:Env} {Q:Env→Prop}:AY K (.ca g xs r) e Q=S4 K g (xs.map (ev e.E)) r e Q:=rfl
def fnQ (g:Nat) (P:Prop) (d:D):Prop:=d=.f g []∧P
theorem Y5 {g:Nat} {P:Prop}:fnQ g P (.f g [])=P:=by simp [fnQ]
theorem ABH {f:A} {g:Nat} {xs:List A} {r:Nat} {e:Env} {Q:Env→Prop}:AY K (.cd f g xs r) e Q=fnQ g (S4 K g (xs.map (ev e.E)) r e Q) (ev e.E f):=rfl
def tkQ (e:Env) (Q:Env→Prop):D→Prop
 | .g [d]=>Q (e++[d,.g [.u]])
 | _=>False
theorem YX {e:Env} {Q:Env→Prop} {d:D}:tkQ e Q (.g [d])=Q (e++[d,.g [.u]]):=rfl
theorem AFO {n:Nat} {e:Env} {Q:Env→Prop}:AY K (.tk n) e Q=tkQ e Q (e.E n):=by
 simp only [AY,IX,tkQ]
 split <;> rename_i h <;> split at h <;> simp_all
def Im (e:Env) (Q:Env→Prop):Option (D×D)→Prop
 | some d=>Q (e++[d.1,d.2])
 | none=>False
theorem WL {e:Env} {Q:Env→Prop} {x y:D}:Im e Q (some (x,y))=Q (e++[x,y]):=rfl
theorem Uy {n k:Nat} {p:List PE} {e:Env} {Q:Env→Prop}:AY K (.sp n p k) e Q=Im e Q (F6 k (e.E n) (p.mapM (PE.ev e.E))):=by
 simp only [AY,Im]
 split <;> rename_i h <;> simp only [h]
theorem Ya {n:Nat} {e:Env} {Q:Env→Prop}:AY K (.sw n) e Q=Im e Q (Jw (e.E n)):=by
 simp only [AY,Im]
 split <;> rename_i h <;> simp only [h]
theorem ADD {n:Nat} {a:A} {d:D} {e:Env} {Q:Env→Prop}:AY K (.mo n a d) e Q=Im e Q (GI d (e.E n) (ev e.E a)):=by
 simp only [AY,Im]
 split <;> rename_i h <;> simp only [h]
theorem Yq {e:Env} {Q:Env→Prop}:AY K .mm e Q=Bf e Q (AS e.E .mm):=by
 simp only [AY]; split <;> rename_i h <;> simp only [h] <;> rfl
theorem AEI {e:Env} {Q:Env→Prop} (n:Nat) (a b:A):AY K (.mu n a b) e Q=Bf e Q (AS e.E (.mu n a b)):=by
 simp only [AY]; split <;> rename_i h <;> simp only [h] <;> rfl
theorem VE {e:Env} {Q:Env→Prop} (n:Nat) (a:A) (d:D):AY K (.mg n a d) e Q=Bf e Q (AS e.E (.mg n a d)):=by
 simp only [AY]; split <;> rename_i h <;> simp only [h] <;> rfl
theorem Xa {xs:List D}:Jw (.g xs)=some (.g xs,.g (List.replicate xs.length .u)):=rfl
theorem VH {k i:Nat} {xs:List D}:F6 k (.g xs) (some [i])=xs[i]?.bind fun x=>if Be k x=true then some (x,.g (xs.set i .u)) else none:=by
 simp only [F6,Option.bind_some,A9,Aa]
 cases xs[i]? with
 | none=>rfl
 | some x=>rfl
theorem Xy {e:Env} {Q:Env→Prop} (n:Nat) (p:List PE) (a:A) (k:Nat):AY K (.jn n p a k) e Q=Bf e Q (AS e.E (.jn n p a k)):=by
 simp only [AY]; split <;> rename_i h <;> simp only [h] <;> rfl
def IK (is:Option (List Nat)) (d x:D) (k:Nat):Option D:=if (x.one&&Be k x)=true then is.bind fun is=>Aa is d x else none
theorem Ze {e:Env} {Q:Env→Prop} (s:Sh) (d:D):AY K (.cs s d) e Q=Bf e Q (AS e.E (.cs s d)):=by
 simp only [AY]; split <;> rename_i h <;> simp only [h] <;> rfl
theorem Z6 {e:Env} {Q:Env→Prop} (a:A):AY K (.cy a) e Q=Bf e Q (AS e.E (.cy a)):=by
 simp only [AY]; split <;> rename_i h <;> simp only [h] <;> rfl
theorem AAX {e:Env} {Q:Env→Prop} (op:BinOp) (a b:A):AY K (.bi op a b) e Q=Bf e Q (AS e.E (.bi op a b)):=by
 simp only [AY]; split <;> rename_i h <;> simp only [h] <;> rfl
theorem ACL {e:Env} {Q:Env→Prop} (op:BinOp) (a b:A):AY K (.bb op a b) e Q=Bf e Q (AS e.E (.bb op a b)):=by
 simp only [AY]; split <;> rename_i h <;> simp only [h] <;> rfl
theorem Vq {e:Env} {Q:Env→Prop} (op:UnOp) (a:A):AY K (.un op a) e Q=Bf e Q (AS e.E (.un op a)):=by
 simp only [AY]; split <;> rename_i h <;> simp only [h] <;> rfl
theorem ACS {e:Env} {Q:Env→Prop} (a b c:A):AY K (.pk a b c) e Q=Bf e Q (AS e.E (.pk a b c)):=by
 simp only [AY]; split <;> rename_i h <;> simp only [h] <;> rfl
theorem AC5 {e:Env} {Q:Env→Prop} (k:IntKind) (a:A):AY K (.cv k a) e Q=Bf e Q (AS e.E (.cv k a)):=by
 simp only [AY]; split <;> rename_i h <;> simp only [h] <;> rfl
theorem VD {e:Env} {Q:Env→Prop} (a:A) (p:List PE):AY K (.ln a p) e Q=Bf e Q (AS e.E (.ln a p)):=by
 simp only [AY]; split <;> rename_i h <;> simp only [h] <;> rfl
theorem AB8 {e:Env} {Q:Env→Prop} (a:A):AY K (.sn a) e Q=Bf e Q (AS e.E (.sn a)):=by
 simp only [AY]; split <;> rename_i h <;> simp only [h] <;> rfl
theorem AF2 {e:Env} {Q:Env→Prop} (a i:A):AY K (.sx a i) e Q=Bf e Q (AS e.E (.sx a i)):=by
 simp only [AY]; split <;> rename_i h <;> simp only [h] <;> rfl
theorem ZM {e:Env} {Q:Env→Prop} (a:A) (lo hi:Option A):AY K (.ss a lo hi) e Q=Bf e Q (AS e.E (.ss a lo hi)):=by
 simp only [AY]; split <;> rename_i h <;> simp only [h] <;> rfl
theorem AAW {e:Env} {Q:Env→Prop} (a:A) (p:List PE) (i:A):AY K (.ix a p i) e Q=Bf e Q (AS e.E (.ix a p i)):=by
 simp only [AY]; split <;> rename_i h <;> simp only [h] <;> rfl
theorem V1 {e:Env} {Q:Env→Prop} (n:Nat) (p:List PE) (a:A):AY K (.up n p a) e Q=Bf e Q (AS e.E (.up n p a)):=by
 simp only [AY]; split <;> rename_i h <;> simp only [h] <;> rfl
theorem AD9 {e:Env} {Q:Env→Prop} (fz:Bool) (a:A) (lo hi:Option A):AY K (.sb fz a lo hi) e Q=Bf e Q (AS e.E (.sb fz a lo hi)):=by
 simp only [AY]; split <;> rename_i h <;> simp only [h] <;> rfl
theorem ZS {e:Env} {Q:Env→Prop} (fl:Bool) (a b:A):AY K (.ap fl a b) e Q=Bf e Q (AS e.E (.ap fl a b)):=by
 simp only [AY]; split <;> rename_i h <;> simp only [h] <;> rfl
theorem WI {e:Env} {Q:Env→Prop} (d:D) (n c:A):AY K (.mk d n c) e Q=Bf e Q (AS e.E (.mk d n c)):=by
 simp only [AY]; split <;> rename_i h <;> simp only [h] <;> rfl
theorem YV {e:Env} {Q:Env→Prop} (s:Sh) (xs:List A):AY K (.li s xs) e Q=Bf e Q (AS e.E (.li s xs)):=by
 simp only [AY]; split <;> rename_i h <;> simp only [h] <;> rfl
theorem Wm {e:Env} {Q:Env→Prop} (a:A):AY K (.bs a) e Q=Bf e Q (AS e.E (.bs a)):=by
 simp only [AY]; split <;> rename_i h <;> simp only [h] <;> rfl
theorem YB {e:Env} {Q:Env→Prop} (a:A):AY K (.sy a) e Q=Bf e Q (AS e.E (.sy a)):=by
 simp only [AY]; split <;> rename_i h <;> simp only [h] <;> rfl
theorem Yr {e:Env} {Q:Env→Prop} (a b:A):AY K (.mx a b) e Q=Bf e Q (AS e.E (.mx a b)):=by
 simp only [AY]; split <;> rename_i h <;> simp only [h] <;> rfl
theorem AF7 {e:Env} {Q:Env→Prop} (a b:A):AY K (.mn a b) e Q=Bf e Q (AS e.E (.mn a b)):=by
 simp only [AY]; split <;> rename_i h <;> simp only [h] <;> rfl
theorem W9 {e:Env} {Q:Env→Prop} (a i:A):AY K (.iy a i) e Q=Bf e Q (AS e.E (.iy a i)):=by
 simp only [AY]; split <;> rename_i h <;> simp only [h] <;> rfl
theorem WO {e:Env} {Q:Env→Prop} (k:Nat) (xs:List (A×Nat)):AY K (.bg k xs) e Q=Bf e Q (AS e.E (.bg k xs)):=by
 simp only [AY]; split <;> rename_i h <;> simp only [h] <;> rfl
theorem V5 {e:Env} {Q:Env→Prop} (a:A):AY K (.bp a) e Q=Bf e Q (AS e.E (.bp a)):=by
 simp only [AY]; split <;> rename_i h <;> simp only [h] <;> rfl
theorem ACI {e:Env} {Q:Env→Prop} (a:A) (k:Nat):AY K (.gp a k) e Q=Bf e Q (AS e.E (.gp a k)):=by
 simp only [AY]; split <;> rename_i h <;> simp only [h] <;> rfl
theorem AAG {e:Env} {Q:Env→Prop} (w:Bool) (a:A):AY K (.nz w a) e Q=Bf e Q (AS e.E (.nz w a)):=by
 simp only [AY]; split <;> rename_i h <;> simp only [h] <;> rfl
theorem X8 {e:Env} {Q:Env→Prop} (a:A):AY K (.nn a) e Q=Bf e Q (AS e.E (.nn a)):=by
 simp only [AY]; split <;> rename_i h <;> simp only [h] <;> rfl
theorem Xk {e:Env} {Q:Env→Prop} (k:Nat) (a:A):AY K (.wl k a) e Q=Bf e Q (AS e.E (.wl k a)):=by
 simp only [AY]; split <;> rename_i h <;> simp only [h] <;> rfl
theorem ABU {e:Env} {Q:Env→Prop} (n k:Nat) (a:A):AY K (.ws n k a) e Q=Bf e Q (AS e.E (.ws n k a)):=by
 simp only [AY]; split <;> rename_i h <;> simp only [h] <;> rfl
theorem W5 {e:Env} {Q:Env→Prop} (a:A) (p:List PE):AY K (.gt a p) e Q=Bf e Q (AS e.E (.gt a p)):=by
 simp only [AY]; split <;> rename_i h <;> simp only [h] <;> rfl
theorem ZK {e:Env} {Q:Env→Prop} (fl:Bool) (a:A) (k:Nat):AY K (.fp fl a k) e Q=Bf e Q (AS e.E (.fp fl a k)):=by
 simp only [AY]; split <;> rename_i h <;> simp only [h] <;> rfl
theorem AA7 {e:Env} {Q:Env→Prop} (n:Nat):AY K (.cb n) e Q=Bf e Q (AS e.E (.cb n)):=by
 simp only [AY]; split <;> rename_i h <;> simp only [h] <;> rfl
theorem Wu {e:Env} {Q:Env→Prop} (n:Nat) (p:List PE) (a:A) (i k:Nat):AY K (.uq n p a i k) e Q=Bf e Q (AS e.E (.uq n p a i k)):=by
 simp only [AY]; split <;> rename_i h <;> simp only [h] <;> rfl
end
section
variable {E:Nat→D}
theorem ACY {n:Nat}:ev E (.e n)=E n:=rfl
theorem Vg {d:D}:ev E (.c d)=d:=rfl
theorem AB6:AS E .mm=some (.g []):=rfl
theorem Yt {n:Nat} {a b:A}:AS E (.mu n a b)=Ff (E n) (ev E a) (ev E b):=rfl
theorem U2 {n:Nat} {a:A} {d:D}:AS E (.mg n a d)=Gf d (E n) (ev E a):=rfl
theorem AC3 {s:Sh} {d:D}:AS E (.cs s d)=some d:=rfl
theorem Xf {a:A}:AS E (.cy a)=some (ev E a):=rfl
theorem AFR {op:BinOp} {a b:A}:AS E (.bi op a b)=BV op (ev E a) (ev E b):=rfl
theorem AAF {op:BinOp} {a b:A}:AS E (.bb op a b)=Fe op (ev E a) (ev E b):=rfl
theorem Xo {op:UnOp} {a:A}:AS E (.un op a)=J9 op (ev E a):=rfl
def KG (c a b:D):Option D:=match c with | .b true=>some a | .b false=>some b | _=>none
theorem YI {c a b:A}:AS E (.pk c a b)=KG (ev E c) (ev E a) (ev E b):=by
 simp only [AS,KG]; split <;> rename_i h <;> simp only [h]
theorem Vp {a b:D}:KG (.b true) a b=some a:=rfl
theorem AAM {a b:D}:KG (.b false) a b=some b:=rfl
theorem ADT {p q:Bool}:KG (.b p) (.b q) (.b false)=some (.b (p&&q)):=by cases p <;> rfl
theorem ADE {p q:Bool}:KG (.b p) (.b true) (.b q)=some (.b (p || q)):=by cases p <;> rfl
def cvD (k:IntKind):D→Option D | .i _ n=>some (.i k (k.wrap n)) | _=>none
theorem VO {k:IntKind} {a:A}:AS E (.cv k a)=cvD k (ev E a):=by
 simp only [AS]; cases ev E a <;> rfl
theorem Um {k k':IntKind} {n:Int}:cvD k (.i k' n)=some (.i k (k.wrap n)):=rfl
theorem Z5 {a:A} {p:List PE}:AS E (.ln a p)=(DU E p (ev E a)).bind E4:=rfl
theorem ABF {d:D}:DU E [] d=some d:=rfl
theorem AC8 {pe:PE} {d:D}:DU E [pe] d=(pe.ev E).bind fun i=>A9 [i] d:=by
 simp only [DU,List.mapM_cons,List.mapM_nil]
 cases pe.ev E <;> rfl
theorem VX {a:A}:AS E (.sn a)=LX (ev E a):=rfl
theorem X3 {a i:A}:AS E (.sx a i)=Jr (ev E a) (ev E i):=rfl
theorem Zw {a:A} {lo hi:Option A}:AS E (.ss a lo hi)=Fg (ev E a) (lo.map (ev E)) (hi.map (ev E)):=rfl
theorem ZE {a i:A}:AS E (.ix a [] i)=Cn (ev E a) (ev E i):=rfl
theorem AE1 {a i:A} {p:List PE}:AS E (.ix a p i)=(DU E p (ev E a)).bind fun d=>Cn d (ev E i):=rfl
theorem AA2 {a i:A}:AS E (.iy a i)=(Cn (ev E a) (ev E i)).bind Ey:=rfl
def GY (is:Option (List Nat)) (d x:D):Option D:=if x.one=true then is.bind fun is=>Aa is d x else none
theorem W8 {n:Nat} {p:List PE} {a:A}:AS E (.up n p a)=GY (p.mapM (PE.ev E)) (E n) (ev E a):=rfl
theorem Z4 {pe:PE}:[pe].mapM (PE.ev E)=(pe.ev E).map ([·]):=by
 simp only [List.mapM_cons,List.mapM_nil]; cases pe.ev E <;> rfl
theorem U3 {pe qe:PE}:[pe,qe].mapM (PE.ev E)=(pe.ev E).bind fun i=>(qe.ev E).map fun j=>[i,j]:=by
 simp only [List.mapM_cons,List.mapM_nil]; cases pe.ev E <;> cases qe.ev E <;> rfl
theorem Wn {n:Nat}:PE.ev E (.k n)=some n:=rfl
def Qm:D→Option Nat | .i _ z=>if 0≤z then some z.toNat else none | _=>none
theorem AFC {n:Nat}:PE.ev E (.e n)=Qm (E n):=by
 simp only [PE.ev]; cases E n <;> rfl
theorem YK {k:IntKind} {z:Int} (h:0≤z):Qm (.i k z)=some z.toNat:=by simp [Qm,h]
theorem Up {fz:Bool} {a:A} {lo hi:Option A}:AS E (.sb fz a lo hi)=De (ev E a) (lo.map (ev E)) (hi.map (ev E)):=rfl
theorem Z7 {fl:Bool} {a b:A}:AS E (.ap fl a b)=DQ fl (ev E a) (ev E b):=rfl
theorem ABJ {d:D} {n c:A}:AS E (.mk d n c)=Fu d (ev E n) (ev E c):=rfl
def DV (xs:List D):Option D:=if xs.all D.one=true then some (.l xs) else none
theorem YA {s:Sh} {xs:List A}:AS E (.li s xs)=DV (xs.map (ev E)):=rfl
theorem V6 {a:A}:AS E (.bs a)=GQ (ev E a):=rfl
theorem AEV {a:A}:AS E (.sy a)=P7 (ev E a):=rfl
def mxD:D→D→Option D | .i k x,.i k' y=>if k=k' then some (.i k (if y > x then y else x)) else none | _,_=>none
def mnD:D→D→Option D | .i k x,.i k' y=>if k=k' then some (.i k (if y<x then y else x)) else none | _,_=>none
def Om (k:Nat) (l:List (D×Nat)):Option D:=if l.all (BH k)=true then some (.g (l.map (·.1))) else none
theorem YO {k:Nat} {xs:List (A×Nat)}:AS E (.bg k xs)=Om k (xs.map fun x=>(ev E x.1,x.2)):=by
 simp only [AS,Om,List.map_map]; rfl
def G2 (k:Nat):Bool→List (D×Nat)→List D→Option D
 | false,_,_=>none
 | true,[],r=>some (.g r)
 | true,x::l,r=>G2 k (BH k x) l (r++[x.1])
theorem WY {k:Nat} {l:List (D×Nat)}:Om k l=G2 k true l []:=by
 have key:∀ (l:List (D×Nat)) (r:List D),G2 k true l r=if l.all (BH k)=true then some (.g (r++l.map (·.1))) else none:=by
  intro l
  induction l with
  | nil=>intro r; simp [G2]
  | cons x l ih=>
   intro r
   simp only [G2]
   cases h:BH k x with
   | true=>rw [ih]; simp only [List.all_cons,h,Bool.true_and,List.map_cons,Bw,List.cons_append,List.nil_append]
   | false=>simp [h,G2]
 rw [key]; simp [Om]
theorem Z2 {k:Nat} {r:List D}:G2 k true [] r=some (.g r):=rfl
theorem AB3 {k:Nat} {x:D×Nat} {l:List (D×Nat)} {r:List D}:G2 k true (x::l) r=G2 k (BH k x) l (r++[x.1]):=rfl
theorem ABG {d:D} {i:Nat}:BH 0 (d,i)=d.one:=by simp [BH]
theorem SE {k i:Nat} {q:IntKind} {n:Int}:BH k (.i q n,i)=true:=by
 simp only [BH,D.one,Bool.true_and,Bool.or_eq_true]; right; right; cases min i k <;> simp [Be,D.flat]
theorem Wx {k i:Nat} {x:List Nat}:BH k (.s x,i)=true:=by
 simp only [BH,D.one,Bool.true_and,Bool.or_eq_true]; right; right; cases min i k <;> simp [Be,D.flat]
theorem Y2 {k i:Nat} {x:Bool}:BH k (.b x,i)=true:=by
 simp only [BH,D.one,Bool.true_and,Bool.or_eq_true]; right; right; cases min i k <;> simp [Be,D.flat]
theorem Y9 {a:A}:AS E (.bp a)=JE (ev E a):=rfl
theorem WG {xs:List D}:JE (.g xs)=some (.p xs):=rfl
def Fo:List D→Nat→Bool
 | [],0=>true
 | _::xs,k+1=>Fo xs k
 | _,_=>false
theorem PN:∀ {xs:List D} {k:Nat},Fo xs k=decide (xs.length=k)
 | [],0=>rfl
 | [],k+1=>rfl
 | _::xs,0=>rfl
 | _::xs,k+1=>by simp [Fo,PN (xs:=xs) (k:=k)]
theorem Vu:Fo [] 0=true:=rfl
theorem XJ {x:D} {xs:List D} {k:Nat}:Fo (x::xs) (k+1)=Fo xs k:=rfl
def HS:List D→Bool
 | []=>true
 | x::xs=>x.one&&HS xs
theorem V8:∀ {xs:List D},HS xs=xs.all D.one
 | []=>rfl
 | x::xs=>by simp [HS,V8 (xs:=xs)]
theorem Yu:HS []=true:=rfl
theorem AAZ {x:D} {xs:List D}:HS (x::xs)=(x.one&&HS xs):=rfl
def Hn {α:Type} (r:α):Bool→Option α
 | true=>some r
 | false=>none
theorem ABO {α:Type} {r:α}:Hn r true=some r:=rfl
theorem VS {a:A} {k:Nat}:AS E (.gp a k)=Ib k (ev E a):=rfl
theorem AAE {xs:List D} {k:Nat}:Ib k (.p xs)=Hn (.g xs) (Fo xs k):=by
 rw [PN]; simp only [Ib]; by_cases h:xs.length=k <;> simp [h,Hn]
theorem WR {w:Bool} {a:A}:AS E (.nz w a)=(Iy (ev E a)).map fun x=>.b (x == w):=rfl
theorem Z3:Iy .z=some true:=rfl
theorem ACX {xs:List D}:Iy (.p xs)=some false:=rfl
theorem AAN {a:A}:AS E (.nn a)=LV (ev E a):=rfl
theorem Zz {xs:List D}:LV (.p xs)=some (.p xs):=rfl
theorem ZR {k:Nat} {a:A}:AS E (.wl k a)=E1 k (ev E a):=rfl
theorem SB {xs:List D} {k:Nat}:E1 k (.g xs)=Hn (.g xs) (Fo xs k&&HS xs):=by
 rw [PN,V8]; simp only [E1]
 by_cases h:xs.length=k <;> by_cases h2:xs.all D.one=true <;> simp [h,h2,Hn]
def wsD (d:D) (k:Nat) (x:D):Option D:=if HX k d=true then E1 k x else none
theorem AFX {n k:Nat} {a:A}:AS E (.ws n k a)=wsD (E n) k (ev E a):=rfl
theorem VY {ys xs:List D} {k:Nat}:wsD (.g ys) k (.g xs)=Hn (.g xs) (Fo ys k&&(Fo xs k&&HS xs)):=by
 simp only [wsD,HX,SB,PN]
 by_cases h:ys.length=k <;> simp [h,Hn]
theorem Xi {a:A} {p:List PE}:AS E (.gt a p)=DU E p (ev E a):=rfl
theorem Za {i:Nat} {xs:List D}:A9 [i] (.g xs)=xs[i]?:=by
 simp only [A9]; cases xs[i]? <;> rfl
theorem AAB {q:IntKind} {n:Int}:known (.i q n)=some (.i q n):=rfl
theorem ABK {x:Bool}:known (.b x)=some (.b x):=rfl
theorem ABY {x:List Nat}:known (.s x)=some (.s x):=rfl
theorem W6 {x:List D}:known (.l x)=some (.l x):=rfl
theorem Vj {x:List D}:known (.p x)=some (.p x):=rfl
theorem Yk:known .z=some .z:=rfl
def fpE (fl:Bool) (k:Nat) (d:D):Option D:=(JV k d).bind fun d=>if fl=true then Ey d else some d
theorem AAS {fl:Bool} {a:A} {k:Nat}:AS E (.fp fl a k)=fpE fl k (ev E a):=rfl
def KX (fl:Bool) (d:D):Option D:=(known d).bind fun d=>if fl=true then Ey d else some d
theorem Zg {fl:Bool} {k:Nat} {xs:List D}:fpE fl k (.p xs)=xs[k]?.bind (KX fl):=by
 simp only [fpE,JV]; cases xs[k]? <;> rfl
theorem Ws {d:D}:KX false d=known d:=by simp [KX]
theorem Ww {q:IntKind} {n:Int}:KX true (.i q n)=some (.i q n):=rfl
theorem U8 {x:List Nat}:KX true (.s x)=some (.s x):=rfl
theorem AFF {x:Bool}:KX true (.b x)=some (.b x):=rfl
theorem TR {i:Nat} {xs:List D} {x:D}:Aa [i] (.g xs) x=xs[i]?.map fun _=>.g (xs.set i x):=by
 simp only [Aa]; cases xs[i]? <;> rfl
def NM (is:Option (List Nat)) (d x:D) (i k:Nat):Option D:=if BH k (x,i)=true then is.bind fun is=>Aa is d x else none
theorem AEP {n k:Nat} {p:List PE} {a:A}:AS E (.jn n p a k)=IK (p.mapM (PE.ev E)) (E n) (ev E a) k:=rfl
theorem ZJ {n:Nat}:AS E (.cb n)=J7 (E n):=rfl
theorem Uz {x:D} {xs:List D}:J7 (.g (x::xs))=some .u:=rfl
theorem Y0 {n:Nat} {p:List PE} {a:A} {i k:Nat}:AS E (.uq n p a i k)=NM (p.mapM (PE.ev E)) (E n) (ev E a) i k:=rfl
theorem Zh {xs:List D}:(D.l xs).one=true:=rfl
theorem WZ {xs:List D}:(D.p xs).one=true:=rfl
theorem ZF:D.z.one=true:=rfl
theorem R2 {x:D} {xs:List D}:(x::xs)[0]?=some x:=rfl
theorem Qu {x:D} {xs:List D} {n:Nat}:(x::xs)[n+1]?=xs[n]?:=by simp
theorem XO {a b:A}:AS E (.mx a b)=mxD (ev E a) (ev E b):=by
 simp only [AS]; cases ev E a <;> cases ev E b <;> rfl
theorem Ym {a b:A}:AS E (.mn a b)=mnD (ev E a) (ev E b):=by
 simp only [AS]; cases ev E a <;> cases ev E b <;> rfl
theorem WB {k:IntKind} {x y:Int}:mxD (.i k x) (.i k y)=some (.i k (max x y)):=by
 simp only [mxD,if_true]; congr 2; omega
theorem AC0 {k:IntKind} {x y:Int}:mnD (.i k x) (.i k y)=some (.i k (min x y)):=by
 simp only [mnD,if_true]; congr 2; omega
end
theorem AE2 (n:Nat):Env.E [] n=.u:=rfl
theorem QS (d:D) (e:Env):Env.E (d::e) 0=d:=rfl
theorem P8 (d:D) (e:Env) (n:Nat):Env.E (d::e) (n+1)=Env.E e n:=by simp [Env.E]
theorem QB {e:Env}:DE [] e=[]:=rfl
theorem QC {n:Nat} {o:List (Option Nat)} {e:Env}:DE (some n::o) e=e.E n::DE o e:=rfl
theorem P3 {o:List (Option Nat)} {e:Env}:DE (none::o) e=.u::DE o e:=rfl
section
variable {k:IntKind} {a b:Int}
theorem YW:BV .add (.i k a) (.i k b)=some (.i k (k.wrap (a+b))):=by simp [BV,D5]
theorem ZY:BV .sub (.i k a) (.i k b)=some (.i k (k.wrap (a-b))):=by simp [BV,D5]
theorem AB1:BV .mul (.i k a) (.i k b)=some (.i k (k.wrap (a*b))):=by simp [BV,D5]
theorem Zk (h:b≠0):BV .quo (.i k a) (.i k b)=some (.i k (k.wrap (a.tdiv b))):=by simp [BV,D5,h]
theorem UX (h:b≠0):BV .rem (.i k a) (.i k b)=some (.i k (a.tmod b)):=by simp [BV,D5,h]
theorem ABT:BV .eql (.i k a) (.i k b)=some (.b (decide (a=b))):=by simp [BV,D5]; rfl
theorem Xt:BV .neq (.i k a) (.i k b)=some (.b (!decide (a=b))):=by
 simp only [BV,D5,if_true]; congr 2
theorem AA0:BV .lss (.i k a) (.i k b)=some (.b (decide (a<b))):=by simp [BV,D5]
theorem ADP:BV .leq (.i k a) (.i k b)=some (.b (decide (a≤b))):=by simp [BV,D5]
theorem Un:BV .gtr (.i k a) (.i k b)=some (.b (decide (b<a))):=by simp [BV,D5]
theorem ZH:BV .geq (.i k a) (.i k b)=some (.b (decide (b≤a))):=by simp [BV,D5]
theorem Xc {p:Bool}:J9 .not (.b p)=some (.b (!p)):=rfl
theorem AFM:J9 .neg (.i k a)=some (.i k (k.wrap (0-a))):=rfl
theorem V9 {p q:Bool}:Fe .eql (.b p) (.b q)=some (.b (p == q)):=rfl
theorem ABE {p q:Bool}:Fe .neq (.b p) (.b q)=some (.b (!(p == q))):=rfl
theorem Zu {x y:List Nat}:BV .eql (.s x) (.s y)=some (.b (x == y)):=rfl
theorem VC {x y:List Nat}:BV .neq (.s x) (.s y)=some (.b (!(x == y))):=rfl
theorem UZ {x y:List Nat} (h:x.length+y.length≤1099511627776):BV .add (.s x) (.s y)=some (.s (x++y)):=by
 show KZ .add x y=_; simp only [KZ]; rw [if_pos (show x.length+y.length≤FG from h)]
end
theorem wrap_i64 {x:Int} (h:-9223372036854775808≤x∧x≤9223372036854775807):IntKind.i64.wrap x=x:=by
 obtain ⟨h1,h2⟩:=h
 have e:x % (2 ^ 64:Int)=x % 18446744073709551616:=rfl
 by_cases h0:0≤x
 ·have h3:x % 18446744073709551616=x:=Int.emod_eq_of_lt h0 (by omega)
  simp [IntKind.wrap,IntKind.bits,IntKind.signed,h3]; omega
 ·have h3:x % 18446744073709551616=x+18446744073709551616:=by omega
  simp [IntKind.wrap,IntKind.bits,IntKind.signed,h3]; omega
theorem wrap_u8 {x:Int} (h:0≤x∧x≤255):IntKind.u8.wrap x=x:=by
 obtain ⟨h1,h2⟩:=h
 have h3:x % 256=x:=Int.emod_eq_of_lt h1 (by omega)
 simp [IntKind.wrap,IntKind.bits,IntKind.signed,h3]
end Go.Cat
namespace Go.Cat
def LI (zs:List Int):D:=.l (zs.map D.n)
def LS (ss:List (List Nat)):D:=.l (ss.map D.s)
def LB (bs:List Nat):D:=.l (bs.map D.y)
def LT (bs:List Bool):D:=.l (bs.map D.b)
def LL (rs:List (List Int)):D:=.l (rs.map LI)
def AD (zs:List Int) (i:Int):Int:=zs.getD i.toNat 0
def AL (ss:List (List Nat)) (i:Int):List Nat:=ss.getD i.toNat []
def Ap (bs:List Nat) (i:Int):Nat:=bs.getD i.toNat 0
def Da (bs:List Bool) (i:Int):Bool:=bs.getD i.toNat false
def AH (rs:List (List Int)) (i:Int):List Int:=rs.getD i.toNat []
def Aw (zs:List Int) (i:Int) (x:Int):List Int:=zs.set i.toNat x
def Em (zs:List (List Nat)) (i:Int) (x:List Nat):List (List Nat):=zs.set i.toNat x
def Ds (zs:List Bool) (i:Int) (x:Bool):List Bool:=zs.set i.toNat x
def EZ (zs:List (List Int)) (i:Int) (x:List Int):List (List Int):=zs.set i.toNat x
def rep {α:Type} (n:Int) (x:α):List α:=List.replicate n.toNat x
def sub {α:Type} (xs:List α) (i j:Int):List α:=(xs.take j.toNat).drop i.toNat
section
variable {α:Type} (f:α→D) (df:α)
theorem Nr {zs:List α} {k:IntKind} {i:Int} (hf:∀ a,(f a).isU=false) (h0:0≤i) (h1:i<zs.length):Cn (.l (zs.map f)) (.i k i)=some (f (zs.getD i.toNat df)):=by
 have h2:i.toNat<zs.length:=by omega
 simp [Cn,h0,h2,known,hf]
theorem get_map {zs:List α} {i:Nat} (h1:i<zs.length):A9 [i] (.l (zs.map f))=some (f (zs.getD i df)):=by
 simp [A9,h1]
theorem JH {zs:List α} {i:Nat} {x:α} (h1:i<zs.length):Aa [i] (.l (zs.map f)) (f x)=some (.l ((zs.set i x).map f)):=by
 simp [Aa,h1,List.map_set]
theorem GU {zs:List α} {lo hi:Option D} {l h:Nat} (hl:bound lo 0=some l) (hh:bound hi zs.length=some h) (h1:l≤h) (h2:h≤zs.length):De (.l (zs.map f)) lo hi=some (.l (((zs.take h).drop l).map f)):=by
 simp [De,hl,hh,h1,h2,List.map_take,List.map_drop]
theorem PX {fl:Bool} {xs ys:List α} (hf:∀ a,(f a).one=true∧(fl=true→(f a).flat=true)) (h:xs.length+ys.length≤FG):DQ fl (.l (xs.map f)) (.l (ys.map f))=some (.l ((xs++ys).map f)):=by
 have h2:(ys.map f).all (if fl=true then D.flat else D.one)=true:=by
  cases fl with
  | true=>simpa using fun a _=>(hf a).2 rfl
  | false=>simpa using fun a _=>(hf a).1
 simp only [DQ,List.length_map]
 rw [if_pos ⟨h,h2⟩,List.map_append]
end
theorem HV {d:Nat}:bound none d=some d:=rfl
theorem EI {k:IntKind} {n:Int} {d:Nat} (h:0≤n):bound (some (.i k n)) d=some n.toNat:=by simp [bound,h]
section
variable {zs ys:List Int} {i j x:Int} {k:IntKind}
theorem AB2:E4 (LI zs)=some (.n zs.length):=by simp [E4,LI]
theorem Ur (h:0≤i∧i<zs.length):Cn (LI zs) (.i k i)=some (.n (AD zs i)):=Nr D.n 0 (fun _=>rfl) h.1 h.2
theorem AAP:Ey (.i k x)=some (.i k x):=rfl
theorem SK (h:0≤i∧i<zs.length):Aa [i.toNat] (LI zs) (.n x)=some (LI (Aw zs i x)):=JH D.n (by omega)
theorem Wq (h:0≤i∧i≤j∧j≤zs.length):De (LI zs) (some (.n i)) (some (.n j))=some (LI (sub zs i j)):=
 GU D.n (EI h.1) (EI (by omega)) (by omega) (by omega)
theorem Wi (h:0≤j∧j≤zs.length):De (LI zs) none (some (.n j))=some (LI (sub zs 0 j)):=GU D.n HV (EI (by omega)) (by omega) (by omega)
theorem ADA (h:0≤i∧i≤zs.length):De (LI zs) (some (.n i)) none=some (LI (sub zs i zs.length)):=by
 rw [LI,GU D.n (EI h.1) HV (by omega) (by omega)]; rfl
theorem I6 {fl:Bool} (h:zs.length+ys.length≤1099511627776):DQ fl (LI zs) (LI ys)=some (LI (zs++ys)):=PX D.n (fun _=>⟨rfl,fun _=>rfl⟩) h
theorem WX {n m:Int} (h:0≤n∧n≤m∧m≤1099511627776):Fu (.n x) (.n n) (.n m)=some (LI (rep n x)):=by
 simp only [Fu,LI,rep]; rw [if_pos (show 0≤n∧n≤m∧m≤(FG:Int) from h)]; simp
theorem GH:D.l []=LI []:=rfl
theorem ADI:DV []=some (.l []):=rfl
theorem ADH {a:Int}:DV [.n a]=some (LI [a]):=rfl
theorem Mh {a b:Int}:DV [.n a,.n b]=some (LI [a,b]):=rfl
theorem RL {a b c:Int}:DV [.n a,.n b,.n c]=some (LI [a,b,c]):=rfl
theorem AAV:(D.i k x).one=true:=rfl
theorem YG:(LI zs).one=true:=rfl
end
section
variable {s u:List Nat} {ss ts:List (List Nat)} {i j:Int} {k:IntKind}
theorem ABC:LX (.s s)=some (.n s.length):=rfl
theorem Zn (h:0≤i∧i<s.length):Jr (.s s) (.i k i)=some (.y (Ap s i)):=by
 have h2:i.toNat<s.length:=by omega
 simp [Jr,h.1,h2,Ap]
theorem Vw (h:0≤i∧i≤j∧j≤s.length):Fg (.s s) (some (.n i)) (some (.n j))=some (.s (sub s i j)):=by
 simp only [Fg,EI h.1,EI (show 0≤j by omega)]; rw [if_pos (by omega)]; rfl
theorem VV (h:0≤j∧j≤s.length):Fg (.s s) none (some (.n j))=some (.s (sub s 0 j)):=by
 simp only [Fg,HV,EI h.1]; rw [if_pos (by omega)]; rfl
theorem XX (h:0≤i∧i≤s.length):Fg (.s s) (some (.n i)) none=some (.s (sub s i s.length)):=by
 simp only [Fg,HV,EI h.1]; rw [if_pos (by omega)]; rfl
theorem WH:E4 (LS ss)=some (.n ss.length):=by simp [E4,LS]
theorem AFE (h:0≤i∧i<ss.length):Cn (LS ss) (.i k i)=some (.s (AL ss i)):=Nr D.s [] (fun _=>rfl) h.1 h.2
theorem ADQ:Ey (.s s)=some (.s s):=rfl
theorem Vz (h:0≤i∧i<ss.length):Aa [i.toNat] (LS ss) (.s s)=some (LS (Em ss i s)):=JH D.s (by omega)
theorem Y8 (h:0≤i∧i≤j∧j≤ss.length):De (LS ss) (some (.n i)) (some (.n j))=some (LS (sub ss i j)):=
 GU D.s (EI h.1) (EI (by omega)) (by omega) (by omega)
theorem XC {fl:Bool} (h:ss.length+ts.length≤1099511627776):DQ fl (LS ss) (LS ts)=some (LS (ss++ts)):=PX D.s (fun _=>⟨rfl,fun _=>rfl⟩) h
theorem AFA {n m:Int} (h:0≤n∧n≤m∧m≤1099511627776):Fu (.s s) (.n n) (.n m)=some (LS (rep n s)):=by
 simp only [Fu,LS,rep]; rw [if_pos (show 0≤n∧n≤m∧m≤(FG:Int) from h)]; simp
theorem AA1 {a:List Nat}:DV [.s a]=some (LS [a]):=rfl
theorem Uw:(D.s s).one=true:=rfl
end
section
variable {bs cs:List Nat} {i j:Int} {k:IntKind} {c:Nat}
theorem UW:E4 (LB bs)=some (.n bs.length):=by simp [E4,LB]
theorem X5 (h:0≤i∧i<bs.length):Cn (LB bs) (.i k i)=some (.y (Ap bs i)):=Nr D.y 0 (fun _=>rfl) h.1 h.2
theorem YY {fl:Bool} (h:bs.length+cs.length≤1099511627776):DQ fl (LB bs) (LB cs)=some (LB (bs++cs)):=PX D.y (fun _=>⟨rfl,fun _=>rfl⟩) h
theorem ACU:DV [.y c]=some (LB [c]):=rfl
theorem Tk {x:Int} (h:0≤x):DV [.i .u8 x]=some (LB [x.toNat]):=by
 have:x=(x.toNat:Int):=by omega
 rw [this]; rfl
theorem TM {x:Nat} (h:x<256):GQ (LB [x])=some (.s [x]):=by
 have h2:((x:Int))<256:=by omega
 simp [GQ,LB,bytesOf,h2]
theorem AIS:D.l []=LB []:=rfl
theorem AD1 (h:bs.length≤1099511627776):P7 (.s bs)=some (LB bs):=by simp only [P7]; rw [if_pos (show bs.length≤FG from h)]; rfl
theorem WQ:∀ {bs:List Nat},(∀ c∈bs,c<256)→bytesOf (bs.map D.y)=some bs
 | [],_=>rfl
 | c::bs,h=>by
  have h1:=h c (by simp)
  simp only [List.map_cons,bytesOf]
  rw [if_pos (by omega),WQ fun c hc=>h c (by simp [hc])]
  simp
theorem QG (h:∀ c∈bs,c<256):GQ (LB bs)=some (.s bs):=by simp [GQ,LB,WQ h]
end
section
variable {bs cs:List Bool} {i j:Int} {k:IntKind} {c:Bool}
theorem AEF:E4 (LT bs)=some (.n bs.length):=by simp [E4,LT]
theorem Vs (h:0≤i∧i<bs.length):Cn (LT bs) (.i k i)=some (.b (Da bs i)):=Nr D.b false (fun _=>rfl) h.1 h.2
theorem WD:Ey (.b c)=some (.b c):=rfl
theorem ABV (h:0≤i∧i<bs.length):Aa [i.toNat] (LT bs) (.b c)=some (LT (Ds bs i c)):=JH D.b (by omega)
theorem Vh {n m:Int} (h:0≤n∧n≤m∧m≤1099511627776):Fu (.b c) (.n n) (.n m)=some (LT (rep n c)):=by
 simp only [Fu,LT,rep]; rw [if_pos (show 0≤n∧n≤m∧m≤(FG:Int) from h)]; simp
theorem ADX:(D.b c).one=true:=rfl
end
section
variable {rs qs:List (List Int)} {r:List Int} {i j x:Int} {k:IntKind}
theorem Yv:E4 (LL rs)=some (.n rs.length):=by simp [E4,LL]
theorem VK (h:0≤i∧i<rs.length):Cn (LL rs) (.i k i)=some (LI (AH rs i)):=Nr LI [] (fun _=>rfl) h.1 h.2
theorem Xv (h:0≤i∧i<rs.length):A9 [i.toNat] (LL rs)=some (LI (AH rs i)):=get_map LI [] (by omega)
theorem AE6 (h:0≤i∧i<rs.length):Aa [i.toNat] (LL rs) (LI r)=some (LL (EZ rs i r)):=JH LI (by omega)
theorem Zp (h:0≤i∧i<rs.length∧0≤j∧j<(AH rs i).length):Aa [i.toNat,j.toNat] (LL rs) (.n x)=some (LL (EZ rs i (Aw (AH rs i) j x))):=by
 obtain ⟨h0,h1,h2,h3⟩:=h
 have h4:i.toNat<rs.length:=by omega
 have h5:j.toNat<(AH rs i).length:=by omega
 have e:rs[i.toNat]=AH rs i:=by simp [AH,BP,h4]
 have:=JH D.n (x:=x) h5
 have e1:Aa [i.toNat,j.toNat] (LL rs) (.n x)=(Aa [j.toNat] (LI (AH rs i)) (.n x)).map fun x'=>.l ((rs.map LI).set i.toNat x'):=by
  refine (show _=((rs.map LI)[i.toNat]?.bind fun y=>Aa [j.toNat] y (.n x)).map _ from rfl).trans ?_
  rw [List.getElem?_map,GC h4,Option.map_some,Option.bind_some,e]
 rw [e1,LI,this]
 simp [LL,EZ,List.map_set,Aw,LI]
theorem Kk {fl:Bool} (h:rs.length+qs.length≤1099511627776∧fl=false):DQ fl (LL rs) (LL qs)=some (LL (rs++qs)):=PX LI (fun _=>⟨rfl,fun e=>by rw [h.2] at e; cases e⟩) h.1
theorem WN (h:0≤i∧i≤j∧j≤rs.length):De (LL rs) (some (.n i)) (some (.n j))=some (LL (sub rs i j)):=
 GU LI (EI h.1) (EI (by omega)) (by omega) (by omega)
theorem Zq (h:0≤i∧i≤rs.length):De (LL rs) (some (.n i)) none=some (LL (sub rs i rs.length)):=by
 rw [LL,GU LI (EI h.1) HV (by omega) (by omega)]; rfl
theorem Sc:D.l []=LL []:=rfl
theorem J4:DV [LI r]=some (LL [r]):=rfl
end
theorem AE5 {is:List Nat} {d:D} {k:IntKind} {n:Int}:GY (some is) d (.i k n)=Aa is d (.i k n):=rfl
theorem V3 {is:List Nat} {d:D} {u:List Nat}:GY (some is) d (.s u)=Aa is d (.s u):=rfl
theorem AFS {is:List Nat} {d:D} {u:Bool}:GY (some is) d (.b u)=Aa is d (.b u):=rfl
theorem WJ {is:List Nat} {d:D} {u:List D}:GY (some is) d (.l u)=Aa is d (.l u):=rfl
theorem AD3 {is:List Nat} {d:D} {u:List (List Nat)}:GY (some is) d (LS u)=Aa is d (LS u):=rfl
theorem ADW {is:List Nat} {d:D} {u:List (List Int)}:GY (some is) d (LL u)=Aa is d (LL u):=rfl
theorem AA4 {k:Nat} {x:List Int}:Be (k+1) (LI x)=true:=by
 simp only [Be,LI,Bool.or_eq_true,BD]
 right
 intro d hd
 obtain ⟨y,_,rfl⟩:=List.mem_map.1 hd
 cases k <;> simp [Be,D.flat]
theorem AIZ {k:Nat} {x:List (List Nat)}:Be (k+1) (LS x)=true:=by
 simp only [Be,LS,Bool.or_eq_true,BD]
 right
 intro d hd
 obtain ⟨y,_,rfl⟩:=List.mem_map.1 hd
 cases k <;> simp [Be,D.flat]
theorem AM9 {k:Nat} {x:List (List Int)}:Be (k+2) (LL x)=true:=by
 show ((D.l (x.map LI)).flat || (x.map LI).all (Be (k+1)))=true
 simp only [Bool.or_eq_true,BD]
 right
 intro d hd
 obtain ⟨y,_,rfl⟩:=List.mem_map.1 hd
 exact AA4
theorem Lt {x:List Int}:Be 1 (LI x)=true:=AA4
theorem RT {x:List (List Nat)}:Be 1 (LS x)=true:=AIZ
theorem Q5 {x:List (List Int)}:Be 2 (LL x)=true:=AM9
theorem Ve {is:Option (List Nat)} {d:D} {x:List Int}:IK is d (LI x) 1=is.bind fun is=>Aa is d (LI x):=by unfold IK; rw [Lt]; rfl
theorem AEW {is:Option (List Nat)} {d:D} {x:List (List Nat)}:IK is d (LS x) 1=is.bind fun is=>Aa is d (LS x):=by unfold IK; rw [RT]; rfl
theorem YJ {is:Option (List Nat)} {d:D} {x:List (List Int)}:IK is d (LL x) 2=is.bind fun is=>Aa is d (LL x):=by unfold IK; rw [Q5]; rfl
def PK (rs:List (List Int)) (i:Int):D:=.l ((rs.map LI).set i.toNat .u)
theorem V2 {rs:List (List Int)} {i:Int} (h:0≤i∧i<rs.length):F6 1 (LL rs) (some [i.toNat])=some (LI (AH rs i),PK rs i):=by
 have h2:i.toNat<rs.length:=by omega
 simp [F6,LL,A9,Aa,h2,Lt,AH,PK]
theorem YU {rs:List (List Int)} {i:Int} {x:List Int} (h:0≤i∧i<rs.length):Aa [i.toNat] (PK rs i) (LI x)=some (LL (EZ rs i x)):=by
 have h2:i.toNat<rs.length:=by omega
 simp [PK,Aa,h2,LL,EZ]
theorem VR {is:List Nat} {d:D} {u:List Int}:GY (some is) d (LI u)=Aa is d (LI u):=rfl
theorem Vv {a b:Int} (h:0≤a):a.tmod b=a % b:=Int.tmod_eq_emod_of_nonneg h
theorem Wr {a b:Int} (h:0≤a):a.tdiv b=a / b:=Int.tdiv_eq_ediv_of_nonneg h
theorem vl:(∀ {α:Type} {a:α} {l:List α},(a::l).length=l.length+1)∧(∀ {α:Type},([]:List α).length=0)∧(∀ {α:Type} {a b:List α},(a++b).length=a.length+b.length)∧
  (∀ {zs:List Int} {i x:Int},(Aw zs i x).length=zs.length)∧(∀ {zs:List (List Nat)} {i:Int} {x:List Nat},(Em zs i x).length=zs.length)∧(∀ {zs:List Bool} {i:Int} {x:Bool},(Ds zs i x).length=zs.length)∧
  (∀ {zs:List (List Int)} {i:Int} {x:List Int},(EZ zs i x).length=zs.length)∧(∀ {α:Type} {xs:List α} {i j:Int},(sub xs i j).length=min j.toNat xs.length-i.toNat)∧(∀ {α:Type} {n:Int} {y:α},(rep n y).length=n.toNat)∧
  (∀ {α β:Type} {f:α→β} {l:List α},(l.map f).length=l.length)∧(∀ {α:Type} {l:List α} {n:Nat},(l.take n).length=min n l.length)∧(∀ {α:Type} {l:List α} {n:Nat},(l.drop n).length=l.length-n)∧(∀ {α:Type} {l:List α},l.reverse.length=l.length):=
 ⟨A6,Aq,Ad,by simp [Aw],by simp [Em],by simp [Ds],by simp [EZ],by simp [sub],by simp [rep],List.length_map _,List.length_take,List.length_drop,List.length_reverse⟩
theorem Xn {p:Bool}:(p == p)=true:=by simp
theorem ACP {x:List Nat}:(x == x)=true:=by simp
theorem YS {zs:List Int} {i j:Nat} {x:Int} (hi:i<zs.length):AD (Aw zs i x) j=if i=j then x else AD zs j:=by
 simp only [AD,Aw,CB,BP,List.getElem?_set]
 split
 ·rename_i h; subst h; simp
 ·rfl
theorem ZW {zs:List (List Nat)} {i j:Nat} {x:List Nat} (hi:i<zs.length):AL (Em zs i x) j=if i=j then x else AL zs j:=by
 simp only [AL,Em,CB,BP,List.getElem?_set]
 split
 ·rename_i h; subst h; simp
 ·rfl
theorem AGI {zs:List Bool} {i j:Nat} {x:Bool} (hi:i<zs.length):Da (Ds zs i x) j=if i=j then x else Da zs j:=by
 simp only [Da,Ds,CB,BP,List.getElem?_set]
 split
 ·rename_i h; subst h; simp
 ·rfl
theorem Oj {a b:List Int} (hl:a.length=b.length) (h:∀ j:Nat,j<a.length→AD a j=AD b j):a=b:=by
 apply List.ext_getElem hl
 intro j h1 h2
 have:=h j h1
 simpa [AD,h1,h2] using this
theorem WW {a b:List (List Nat)} (hl:a.length=b.length) (h:∀ j:Nat,j<a.length→AL a j=AL b j):a=b:=by
 apply List.ext_getElem hl
 intro j h1 h2
 have:=h j h1
 simpa [AL,h1,h2] using this
theorem AE7 {α:Type} {n:Int} {y:α}:(rep n y).length=n.toNat:=by simp [rep]
section
variable {zs:List Int} {i j x:Int}
theorem Eg:(Aw zs i x).length=zs.length:=by simp [Aw]
theorem Mt {ss:List (List Nat)} {s:List Nat}:(Em ss i s).length=ss.length:=by simp [Em]
theorem GN {ss:List Bool} {s:Bool}:(Ds ss i s).length=ss.length:=by simp [Ds]
theorem Zr {ss:List (List Int)} {s:List Int}:(EZ ss i s).length=ss.length:=by simp [EZ]
theorem WA {α:Type} {xs:List α}:(sub xs i j).length=min j.toNat xs.length-i.toNat:=by simp [sub]
end
theorem AE {K:Nat→List D→List D→Prop} {g:Nat} {ds:List D} {r:Nat} {e:Env} {Q:Env→Prop} {rs:List D} (h:K g ds rs) (hl:rs.length=r) (hq:Q (e++rs)):S4 K g ds r e Q:=⟨rs,h,hl,hq⟩
theorem FD {w:List Nat} {i:Nat} (h:i<w.length):w.drop i=Ap w i::w.drop (i+1):=by
 rw [List.drop_eq_getElem_cons h]
 simp [Ap,h]
theorem HJ {w:List Int} {i:Nat} (h:i<w.length):w.drop i=AD w i::w.drop (i+1):=by
 rw [List.drop_eq_getElem_cons h]
 simp [AD,h]
theorem D2 {a b c d:D} (h:a=c) (h2:b=d):[a,b]=[c,d]:=by rw [h,h2]
theorem Db {p q:Bool} (h:p=q):[D.b p]=[D.b q]:=by rw [h]
theorem Dn {k:IntKind} {p q:Int} (h:p=q):[D.i k p]=[D.i k q]:=by rw [h]
theorem Ui {zs:List Int} {p:Int→Bool} {i:Nat} (hi:i<zs.length) (h:p (AD zs i)=false):zs.all p=false:=by
 rw [Bool.eq_false_iff]
 intro ha
 rw [BD] at ha
 have:=ha (AD zs i) (by simp [AD,hi])
 rw [h] at this; cases this
theorem Ub {zs:List Int} {p:Int→Bool} (h:∀ j:Nat,j<zs.length→p (AD zs j)=true):zs.all p=true:=by
 rw [BD]
 intro x hx
 obtain ⟨j,hj,rfl⟩:=List.mem_iff_getElem.1 hx
 have:=h j hj
 simpa [AD,hj] using this
theorem CH {i:Nat} {p:Nat→Prop} (h:∀ j,j<i→p j) (h2:p i):∀ j,j<i+1→p j:=by
 intro j hj
 rcases CC j i with q | q
 ·exact h j q
 ·obtain rfl:j=i:=by omega
  exact h2
def MP {α:Type} (f:α→D) (m:List (List Nat×α)):D:=.g (m.map fun x=>.g [.s x.1,f x.2])
def MI (m:List (List Nat×Int)):D:=MP D.n m
def MS (m:List (List Nat×List Nat)):D:=MP D.s m
def Co {α:Type} (k:List Nat):List (List Nat×α)→Option α
 | []=>none
 | (j,v)::m=>if k=j then some v else Co k m
def Fm {α:Type} (k:List Nat) (v:α):List (List Nat×α)→List (List Nat×α)
 | []=>[(k,v)]
 | (j,x)::m=>if k=j then (k,v)::m else (j,x)::Fm k v m
theorem Kh {α:Type} {f:α→D} {k:List Nat}:∀ m:List (List Nat×α),getM k (m.map fun x=>.g [.s x.1,f x.2])=(Co k m).map f
 | []=>rfl
 | (j,v)::m=>by
  simp only [List.map_cons,getM,Co]
  split
  ·rfl
  ·exact Kh m
theorem SL {α:Type} {f:α→D} {k:List Nat} {v:α}:∀ m:List (List Nat×α),FN k (f v) (m.map fun x=>.g [.s x.1,f x.2])=(Fm k v m).map fun x=>.g [.s x.1,f x.2]
 | []=>rfl
 | (j,x)::m=>by
  simp only [List.map_cons,FN,Fm]
  split
  ·rfl
  ·rw [SL m]; rfl
section
variable {k:List Nat} {m:List (List Nat×Int)} {ms:List (List Nat×List Nat)} {v d:Int} {s e:List Nat}
theorem muI:Ff (MI m) (.s k) (.n v)=some (MI (Fm k v m)):=by
 simp only [MI,MP,Ff,D.flat,if_true]; rw [SL]
theorem muS:Ff (MS ms) (.s k) (.s s)=some (MS (Fm k s ms)):=by
 simp only [MS,MP,Ff,D.flat,if_true]; rw [SL]
theorem U6:Ff (.g []) (.s k) (.n v)=some (MI [(k,v)]):=rfl
theorem AAA:Ff (.g []) (.s k) (.s s)=some (MS [(k,s)]):=rfl
theorem mgI:Gf (.n d) (MI m) (.s k)=some (.n ((Co k m).getD d)):=by
 simp only [MI,MP,Gf]; rw [Kh]; cases Co k m <;> rfl
theorem mgS:Gf (.s e) (MS ms) (.s k)=some (.s ((Co k ms).getD e)):=by
 simp only [MS,MP,Gf]; rw [Kh]; cases Co k ms <;> rfl
theorem moI:GI (.n d) (MI m) (.s k)=some (.n ((Co k m).getD d),.b (Co k m).isSome):=by
 simp only [MI,MP,GI]; rw [Kh]; cases Co k m <;> rfl
theorem moS:GI (.s e) (MS ms) (.s k)=some (.s ((Co k ms).getD e),.b (Co k ms).isSome):=by
 simp only [MS,MP,GI]; rw [Kh]; cases Co k ms <;> rfl
end
def HB (R:Env→Prop) (Q:X→Env→Prop):X→Env→Prop
 | .n,e=>R e
 | .ex j,e=>Q (.ex j) e
 | .r,e=>Q .r e
theorem Xq {R:Env→Prop} {Q:X→Env→Prop} {e:Env}:HB R Q .n e=R e:=rfl
theorem AFG {R:Env→Prop} {Q:X→Env→Prop} {e:Env} {j:Nat}:HB R Q (.ex j) e=Q (.ex j) e:=rfl
theorem ABI {R:Env→Prop} {Q:X→Env→Prop} {e:Env}:HB R Q .r e=Q .r e:=rfl
theorem B9 {K:Nat→List D→List D→Prop} {b:S} {Q:X→Env→Prop} {e:Env} {σ:Type} (I:σ→Prop) (mk:σ→Env) (m:σ→Nat) (s0:σ) (h0:I s0) (he:e=mk s0)
  (step:∀ s,I s→wpS K b (HB (fun e'=>∃ s',m s' < m s∧I s'∧e'=mk s') Q) (mk s)):wpS K (.loop b) Q e:=by
 refine AGQ (fun n e=>∃ s,n=m s∧I s∧e=mk s) (m s0) ⟨s0,rfl,h0,he⟩ ?_
 rintro _ _ ⟨s,rfl,hI,rfl⟩
 refine Ck b (fun x e h=>?_) (step s hI)
 cases x with
 | n=>obtain ⟨s',h1,h2,h3⟩:=h; exact ⟨m s',h1,s',rfl,h2,h3⟩
 | ex j=>exact h
 | r=>exact h
theorem CK {K:Nat→List D→List D→Prop} {b:S} {Q:X→Env→Prop} {e:Env} {σ:Type} (P:Nat→σ→Prop) (mk:Nat→σ→Env) (n:Nat) (s0:σ) (h0:P 0 s0) (he:e=mk 0 s0)
  (step:∀ i s,i<n→P i s→wpS K b (HB (fun e'=>∃ s',P (i+1) s'∧e'=mk (i+1) s') Q) (mk i s))
  (last:∀ s,P n s→wpS K b (HB (fun _=>False) Q) (mk n s)):wpS K (.loop b) Q e:=by
 refine B9 (fun (x:Nat×σ)=>x.1≤n∧P x.1 x.2) (fun x=>mk x.1 x.2) (fun x=>n-x.1) (0,s0) ⟨Nat.zero_le _,h0⟩ he ?_
 rintro ⟨i,s⟩ ⟨hi,hP⟩
 rcases CC i n with hlt | hge
 ·refine Ck b (fun x e h=>?_) (step i s hlt hP)
  cases x with
  | n=>obtain ⟨s',h1,h2⟩:=h; exact ⟨(i+1,s'),by show n-(i+1)<n-i; omega,⟨hlt,h1⟩,h2⟩
  | ex j=>exact h
  | r=>exact h
 ·obtain rfl:i=n:=Nat.le_antisymm hi hge
  refine Ck b (fun x e h=>?_) (last s hP)
  cases x with
  | n=>exact h.elim
  | ex j=>exact h
  | r=>exact h
theorem Ag {K:Nat→List D→List D→Prop} {b:S} {Q:X→Env→Prop} {e:Env} (P:Nat→Prop) (mk:Nat→Env) (n:Nat) (h0:P 0) (he:e=mk 0)
  (step:∀ i,i<n→P i→wpS K b (HB (fun e'=>P (i+1)∧e'=mk (i+1)) Q) (mk i))
  (last:P n→wpS K b (HB (fun _=>False) Q) (mk n)):wpS K (.loop b) Q e:=by
 refine CK (fun i (_:Unit)=>P i) (fun i _=>mk i) n () h0 he (fun i _ hi hP=>?_) (fun _ h=>last h)
 refine Ck b (fun x e h=>?_) (step i hi hP)
 cases x with
 | n=>exact ⟨(),h.1,h.2⟩
 | ex j=>exact h
 | r=>exact h
theorem AG {K:Nat→List D→List D→Prop} {k:Nat} {f:IF} [h:Has K k f] {ds rs:List D} (hl:ds.length=f.np) (hb:wpS K f.body (P4 f.res rs) (ds++List.replicate (f.nv-f.np) .u)) (hc:GK f.cl rs=true:=by rfl):K k ds rs:=by
 refine h.h ds rs ⟨⟨hl,hc⟩,?_⟩
 refine Ck _ (fun x e h=>?_) hb
 cases x with
 | ex _=>exact h.elim
 | n=>exact ⟨trivial,h⟩
 | r=>exact ⟨trivial,h⟩
section
variable {K:Nat→List D→List D→Prop}
theorem ALM {p:Pr} {e:Env} {Q:Env→Prop} (h:AY K p e Q):∃ e',Q e'∧AY K p e (·=e'):=by
 unfold AY at*
 split at h
 ·exact ⟨_,h,rfl⟩
 ·obtain ⟨rs,h1,h2,h3⟩:=h
  exact ⟨_,h3,rs,h1,h2,rfl⟩
 ·obtain ⟨h0,rs,h1,h2,h3⟩:=h
  exact ⟨_,h3,h0,rs,h1,h2,rfl⟩
 ·split at h
  ·exact ⟨_,h,rfl⟩
  ·exact h.elim
 ·split at h
  ·exact ⟨_,h,rfl⟩
  ·exact h.elim
 ·split at h
  ·exact ⟨_,h,rfl⟩
  ·exact h.elim
 ·split at h
  ·exact ⟨_,h,rfl⟩
  ·exact h.elim
 ·split at h
  ·exact ⟨_,h,rfl⟩
  ·exact h.elim
theorem UK:∀ {its:List It} {e:Env} {Q:Env→Prop} (_:DZ K its e Q),∃ e',Q e'∧DZ K its e (·=e')
 | [],e,Q,h=>⟨e,h,rfl⟩
 | it::its,e,Q,h=>by
  simp only [DZ,GG] at*
  split at h
  ·rename_i hg
   obtain ⟨e1,h1,h2⟩:=ALM h
   obtain ⟨e2,h3,h4⟩:=UK h1
   refine ⟨e2,h3,?_⟩
   exact Yi (fun e h=>by subst h; exact h4) h2
  ·obtain ⟨e2,h3,h4⟩:=UK h
   exact ⟨e2,h3,h4⟩
  ·exact h.elim
theorem VL {R:(X→Env→Prop)→Env→Prop} (hm:∀ Q Q' e,(∀ x e,Q x e→Q' x e)→R Q e→R Q' e) (hR:∀ Q e,R Q e→∃ x' e',Q x' e'∧R (fun x e=>x=x'∧e=e') e):
  ∀ (n:Nat) {e:Env} {Q:X→Env→Prop} (_:Cz R n Q e),∃ x' e',Q x' e'∧Cz R n (fun x e=>x=x'∧e=e') e
 | 0,_,_,h=>h.elim
 | n+1,e,Q,h=>by
  simp only [Cz] at h
  obtain ⟨x1,e1,h1,h2⟩:=hR _ _ h
  cases x1 with
  | n=>
   obtain ⟨x2,e2,h3,h4⟩:=VL hm hR n h1
   refine ⟨x2,e2,h3,?_⟩
   simp only [Cz]
   exact hm _ _ _ (fun x e h=>by obtain ⟨rfl,rfl⟩:=h; exact h4) h2
  | ex j=>
   refine ⟨.ex j,e1,h1,?_⟩
   simp only [Cz]
   exact hm _ _ _ (fun x e h=>by obtain ⟨rfl,rfl⟩:=h; exact ⟨rfl,rfl⟩) h2
  | r=>
   refine ⟨.r,e1,h1,?_⟩
   simp only [Cz]
   exact hm _ _ _ (fun x e h=>by obtain ⟨rfl,rfl⟩:=h; exact ⟨rfl,rfl⟩) h2
theorem JI:∀ (s:S) {e:Env} {Q:X→Env→Prop} (_:wpS K s Q e),∃ x' e',Q x' e'∧wpS K s (fun x e=>x=x'∧e=e') e
 | .skip,e,Q,h=>⟨_,_,h,rfl,rfl⟩
 | .reg its out,e,Q,h=>by
  simp only [wpS] at h
  obtain ⟨e1,h1,h2⟩:=UK h
  exact ⟨_,_,h1,O1 (fun e h=>by subst h; exact ⟨rfl,rfl⟩) h2⟩
 | .seq a b,e,Q,h=>by
  simp only [wpS] at h
  obtain ⟨x1,e1,h1,h2⟩:=JI a h
  cases x1 with
  | n=>
   obtain ⟨x2,e2,h3,h4⟩:=JI b h1
   refine ⟨x2,e2,h3,?_⟩
   simp only [wpS]
   exact Ck a (fun x e h=>by obtain ⟨rfl,rfl⟩:=h; exact h4) h2
  | ex j=>
   refine ⟨.ex j,e1,h1,?_⟩
   simp only [wpS]
   exact Ck a (fun x e h=>by obtain ⟨rfl,rfl⟩:=h; exact ⟨rfl,rfl⟩) h2
  | r=>
   refine ⟨.r,e1,h1,?_⟩
   simp only [wpS]
   exact Ck a (fun x e h=>by obtain ⟨rfl,rfl⟩:=h; exact ⟨rfl,rfl⟩) h2
 | .cond n x y,e,Q,h=>by
  simp only [wpS] at*
  split at h
  ·exact JI x h
  ·exact JI y h
  ·exact h.elim
 | .block id b,e,Q,h=>by
  simp only [wpS] at h
  obtain ⟨x1,e1,h1,h2⟩:=JI b h
  cases x1 with
  | n=>
   refine ⟨.n,e1,h1,?_⟩
   simp only [wpS]
   exact Ck b (fun x e h=>by obtain ⟨rfl,rfl⟩:=h; exact ⟨rfl,rfl⟩) h2
  | ex j=>
   simp only at h1
   split at h1
   ·rename_i hj
    refine ⟨.n,e1,h1,?_⟩
    simp only [wpS]
    exact Ck b (fun x e h=>by obtain ⟨rfl,rfl⟩:=h; simp [hj]) h2
   ·rename_i hj
    refine ⟨.ex j,e1,h1,?_⟩
    simp only [wpS]
    exact Ck b (fun x e h=>by obtain ⟨rfl,rfl⟩:=h; simp [hj]) h2
  | r=>
   refine ⟨.r,e1,h1,?_⟩
   simp only [wpS]
   exact Ck b (fun x e h=>by obtain ⟨rfl,rfl⟩:=h; exact ⟨rfl,rfl⟩) h2
 | .loop b,e,Q,h=>by
  simp only [wpS] at h
  obtain ⟨n,h⟩:=h
  obtain ⟨x1,e1,h1,h2⟩:=VL (R:=wpS K b) (fun Q Q' e hQ h=>Ck b hQ h) (fun Q e h=>JI b h) n h
  exact ⟨x1,e1,h1,n,h2⟩
 | .exit id,e,Q,h=>⟨_,_,h,rfl,rfl⟩
 | .ret,e,Q,h=>⟨_,_,h,rfl,rfl⟩
theorem Bg {k:Nat} {f:IF} [h:Has K k f] {ds:List D} {P:List D→Prop} (hl:ds.length=f.np) (hb:wpS K f.body (exQ f.res P) (ds++List.replicate (f.nv-f.np) .u)) (hc:∀ rs,P rs→GK f.cl rs=true:=by intros; rfl):∃ rs,P rs∧K k ds rs:=by
 obtain ⟨x,e,h1,h2⟩:=JI _ hb
 have h3:(∀ j,x≠.ex j)∧P (f.res.map e.E):=by
  cases x with
  | ex j=>exact h1.elim
  | n=>exact ⟨by simp,h1⟩
  | r=>exact ⟨by simp,h1⟩
 refine ⟨_,h3.2,h.h ds _ ⟨⟨hl,hc _ h3.2⟩,Ck _ (fun x' e' h=>?_) h2⟩⟩
 obtain ⟨rfl,rfl⟩:=h
 cases x' with
 | ex j=>exact (h3.1 j rfl).elim
 | n=>exact ⟨trivial,rfl⟩
 | r=>exact ⟨trivial,rfl⟩
end
end Go.Cat
namespace Go.Cat
set_option maxRecDepth 10000
theorem vcL:
  (∀ {α:Type} {a:α} {as bs:List α},(a::as)++bs=a::(as++bs))∧
  (∀ {α:Type} {as:List α},[]++as=as)∧
  (∀ {α:Type} {as:List α},as++[]=as)∧
  (∀ {α β:Type} {f:α→β} {a:α} {l:List α},List.map f (a::l)=f a::List.map f l)∧
  (∀ {α β:Type} {f:α→β},List.map f []=[])∧
  (∀ {α:Type} {a b:α} {l:List α},(a::l).set 0 b=b::l)∧
  (∀ {α:Type} {a b:α} {l:List α} {n:Nat},(a::l).set (n+1) b=a::l.set n b)∧
  (∀ {α:Type} {a:α} {n:Nat},List.replicate (n+1) a=a::List.replicate n a)∧
  (∀ {α:Type} {a:α},List.replicate 0 a=[])∧
  (∀ {α β:Type} {f:α→Option β} {a:α},(some a).bind f=f a)∧
  (∀ {α β:Type} {f:α→β} {a:α},(some a).map f=some (f a))∧
  (∀ {α β:Type} {f:α→β},(none:Option α).map f=none)∧
  ((!true)=false)∧((!false)=true)∧(∀ {b:Bool},(!!b)=b)∧
  (∀ {α:Sort 1} {a b:α},(if True then a else b)=a)∧(∀ {α:Sort 1} {a b:α},(if False then a else b)=b)∧
  (∀ {b:Bool},(b&&true)=b)∧(∀ {b:Bool},(true&&b)=b)∧(∀ {b:Bool},(b&&false)=false)∧(∀ {b:Bool},(false&&b)=false)∧
  (∀ {b:Bool},(b || true)=true)∧(∀ {b:Bool},(true || b)=true)∧(∀ {b:Bool},(b || false)=b)∧(∀ {b:Bool},(false || b)=b)∧
  (∀ [Decidable True],decide True=true)∧(∀ [Decidable False],decide False=false)∧
  (∀ {i:Nat},((i+1:Nat):Int)=(i:Int)+1)∧(((0:Nat):Int)=0)∧
  (∀ {p:Prop},(p∧True)=p)∧(∀ {p:Prop},(True∧p)=p)∧
  (Pr.nop.np=0)∧(∀ {g:Nat} {xs:List A} {r:Nat},(Pr.ca g xs r).np=r):=
 ⟨List.cons_append,List.nil_append _,List.append_nil _,List.map_cons,List.map_nil,List.set_cons_zero,List.set_cons_succ,List.replicate_succ,List.replicate_zero,Option.bind_some _ _,Option.map_some _ _,Option.map_none _,
  rfl,rfl,Bool.not_not _,if_pos trivial,if_neg id,Bool.and_true _,Bool.true_and _,Bool.and_false _,Bool.false_and _,Bool.or_true _,Bool.true_or _,Bool.or_false _,Bool.false_or _,decide_eq_true trivial,decide_eq_false id,Int.natCast_succ _,rfl,and_true _,true_and _,rfl,rfl⟩
theorem vcN:
 (∀ {s:Sh} {d:D},(Pr.cs s d).np=1)∧
 (∀ {a:A},(Pr.cy a).np=1)∧
 (∀ {op:BinOp} {a b:A},(Pr.bi op a b).np=1)∧
 (∀ {op:BinOp} {a b:A},(Pr.bb op a b).np=1)∧
 (∀ {op:UnOp} {a:A},(Pr.un op a).np=1)∧
 (∀ {a b c:A},(Pr.pk a b c).np=1)∧
 (∀ {k:IntKind} {a:A},(Pr.cv k a).np=1)∧
 (∀ {a:A} {p:List PE},(Pr.ln a p).np=1)∧
 (∀ {a:A},(Pr.sn a).np=1)∧
 (∀ {a b:A},(Pr.sx a b).np=1)∧
 (∀ {a:A} {lo hi:Option A},(Pr.ss a lo hi).np=1)∧
 (∀ {a:A} {p:List PE} {b:A},(Pr.ix a p b).np=1)∧
 (∀ {n:Nat} {p:List PE} {a:A},(Pr.up n p a).np=1)∧
 (∀ {fz:Bool} {a:A} {lo hi:Option A},(Pr.sb fz a lo hi).np=1)∧
 (∀ {fl:Bool} {a b:A},(Pr.ap fl a b).np=1)∧
 (∀ {d:D} {a b:A},(Pr.mk d a b).np=1)∧
 (∀ {s:Sh} {xs:List A},(Pr.li s xs).np=1)∧
 (∀ {a:A},(Pr.bs a).np=1)∧
 (∀ {a:A},(Pr.sy a).np=1)∧
 (∀ {a b:A},(Pr.mx a b).np=1)∧
 (∀ {a b:A},(Pr.mn a b).np=1)∧
 (∀ {a b:A},(Pr.iy a b).np=1)∧
 (∀ {k:Nat} {xs:List (A×Nat)},(Pr.bg k xs).np=1)∧
 (∀ {a:A},(Pr.bp a).np=1)∧
 (∀ {a:A} {k:Nat},(Pr.gp a k).np=1)∧
 (∀ {w:Bool} {a:A},(Pr.nz w a).np=1)∧
 (∀ {a:A},(Pr.nn a).np=1)∧
 (∀ {k:Nat} {a:A},(Pr.wl k a).np=1)∧
 (∀ {n k:Nat} {a:A},(Pr.ws n k a).np=1)∧
 (∀ {a:A} {p:List PE},(Pr.gt a p).np=1)∧
 (∀ {fl:Bool} {a:A} {k:Nat},(Pr.fp fl a k).np=1)∧
 (∀ {n:Nat} {p:List PE} {a:A} {i k:Nat},(Pr.uq n p a i k).np=1)∧
 (∀ {n:Nat},(Pr.cb n).np=1)∧
 (∀ {n:Nat} {p:List PE} {a:A} {k:Nat},(Pr.jn n p a k).np=1)∧
 (Pr.mm.np=1)∧
 (∀ {n:Nat} {a b:A},(Pr.mu n a b).np=1)∧
 (∀ {n:Nat} {a:A} {d:D},(Pr.mg n a d).np=1)∧
 (∀ {n:Nat} {a:A} {d:D},(Pr.mo n a d).np=2)∧
 (∀ {n:Nat},(Pr.tk n).np=2)∧
 (∀ {n k:Nat} {p:List PE},(Pr.sp n p k).np=2)∧
 (∀ {n:Nat},(Pr.sw n).np=2):=
 ⟨rfl,rfl,rfl,rfl,rfl,rfl,rfl,rfl,rfl,rfl,rfl,rfl,rfl,rfl,rfl,rfl,rfl,rfl,rfl,rfl,rfl,rfl,rfl,rfl,rfl,rfl,rfl,rfl,rfl,rfl,rfl,rfl,rfl,rfl,rfl,rfl,rfl,rfl,rfl,rfl,rfl⟩
theorem vcO:
 (∀ {a b:Int},(a<b)→decide (a<b)=true)∧
 (∀ {a b:Int},(b≤a)→decide (a<b)=false)∧
 (∀ {a b:Int},(a≤b)→decide (a≤b)=true)∧
 (∀ {a b:Int},(b<a)→decide (a≤b)=false)∧
 (∀ {a b:Int},(a=b)→decide (a=b)=true)∧
 (∀ {a b:Int},(a<b∨b<a)→decide (a=b)=false):=
 ⟨decide_eq_true,fun h=>decide_eq_false (by omega),decide_eq_true,fun h=>decide_eq_false (by omega),decide_eq_true,fun h=>decide_eq_false (by omega)⟩
theorem vc0:type_of% (And.intro @wp_seq <| And.intro @wp_block <| And.intro @wp_skip <| And.intro @wp_exit <| And.intro @wp_ret <| And.intro @Uh <| And.intro @wp_cond <| And.intro @UU <| And.intro @AED <| And.intro @VA <| And.intro @ABM <| And.intro @ZQ <| And.intro @Ye <| And.intro @AF9 <| And.intro @Wy <| And.intro @W7 <| And.intro @ABD <| And.intro @AA8 <| And.intro @Xq <| @AFG):=And.intro @wp_seq <| And.intro @wp_block <| And.intro @wp_skip <| And.intro @wp_exit <| And.intro @wp_ret <| And.intro @Uh <| And.intro @wp_cond <| And.intro @UU <| And.intro @AED <| And.intro @VA <| And.intro @ABM <| And.intro @ZQ <| And.intro @Ye <| And.intro @AF9 <| And.intro @Wy <| And.intro @W7 <| And.intro @ABD <| And.intro @AA8 <| And.intro @Xq <| @AFG
theorem vc1:type_of% (And.intro @ABI <| And.intro @ADV <| And.intro @YN <| And.intro @Wl <| And.intro @Xx <| And.intro @ADR <| And.intro @Ud <| And.intro @W4 <| And.intro @AC7 <| And.intro @Wt <| And.intro @X4 <| And.intro @We <| And.intro @AAJ <| And.intro @Wd <| And.intro @Yz <| And.intro @AA6 <| And.intro @XW <| And.intro @VZ <| And.intro @ABH <| @Y5):=And.intro @ABI <| And.intro @ADV <| And.intro @YN <| And.intro @Wl <| And.intro @Xx <| And.intro @ADR <| And.intro @Ud <| And.intro @W4 <| And.intro @AC7 <| And.intro @Wt <| And.intro @X4 <| And.intro @We <| And.intro @AAJ <| And.intro @Wd <| And.intro @Yz <| And.intro @AA6 <| And.intro @XW <| And.intro @VZ <| And.intro @ABH <| @Y5
theorem vc2:type_of% (And.intro @AFO <| And.intro @YX <| And.intro @Uy <| And.intro @Ya <| And.intro @ADD <| And.intro @Yq <| And.intro @AEI <| And.intro @VE <| And.intro @Xy <| And.intro @WL <| And.intro @Ze <| And.intro @Z6 <| And.intro @AAX <| And.intro @ACL <| And.intro @Vq <| And.intro @ACS <| And.intro @AC5 <| And.intro @VD <| And.intro @AB8 <| @AF2):=And.intro @AFO <| And.intro @YX <| And.intro @Uy <| And.intro @Ya <| And.intro @ADD <| And.intro @Yq <| And.intro @AEI <| And.intro @VE <| And.intro @Xy <| And.intro @WL <| And.intro @Ze <| And.intro @Z6 <| And.intro @AAX <| And.intro @ACL <| And.intro @Vq <| And.intro @ACS <| And.intro @AC5 <| And.intro @VD <| And.intro @AB8 <| @AF2
theorem vc3:type_of% (And.intro @ZM <| And.intro @AAW <| And.intro @V1 <| And.intro @AD9 <| And.intro @ZS <| And.intro @WI <| And.intro @YV <| And.intro @Wm <| And.intro @YB <| And.intro @Yr <| And.intro @AF7 <| And.intro @W9 <| And.intro @WO <| And.intro @V5 <| And.intro @ACI <| And.intro @AAG <| And.intro @X8 <| And.intro @Xk <| And.intro @ABU <| @W5):=And.intro @ZM <| And.intro @AAW <| And.intro @V1 <| And.intro @AD9 <| And.intro @ZS <| And.intro @WI <| And.intro @YV <| And.intro @Wm <| And.intro @YB <| And.intro @Yr <| And.intro @AF7 <| And.intro @W9 <| And.intro @WO <| And.intro @V5 <| And.intro @ACI <| And.intro @AAG <| And.intro @X8 <| And.intro @Xk <| And.intro @ABU <| @W5
theorem vc4:type_of% (And.intro @ZK <| And.intro @Wu <| And.intro @AA7 <| And.intro @ADF <| And.intro @Yp <| And.intro @Us <| And.intro @AB6 <| And.intro @Yt <| And.intro @U2 <| And.intro @ACY <| And.intro @Vg <| And.intro @AC3 <| And.intro @Xf <| And.intro @AFR <| And.intro @AAF <| And.intro @Xo <| And.intro @YI <| And.intro @Vp <| And.intro @AAM <| @ADT):=And.intro @ZK <| And.intro @Wu <| And.intro @AA7 <| And.intro @ADF <| And.intro @Yp <| And.intro @Us <| And.intro @AB6 <| And.intro @Yt <| And.intro @U2 <| And.intro @ACY <| And.intro @Vg <| And.intro @AC3 <| And.intro @Xf <| And.intro @AFR <| And.intro @AAF <| And.intro @Xo <| And.intro @YI <| And.intro @Vp <| And.intro @AAM <| @ADT
theorem vc5:type_of% (And.intro @ADE <| And.intro @VO <| And.intro @Um <| And.intro @Z5 <| And.intro @ABF <| And.intro @AC8 <| And.intro @VX <| And.intro @X3 <| And.intro @Zw <| And.intro @ZE <| And.intro @AE1 <| And.intro @AA2 <| And.intro @W8 <| And.intro @Z4 <| And.intro @U3 <| And.intro @Wn <| And.intro @AFC <| And.intro @YK <| And.intro @Up <| @Z7):=And.intro @ADE <| And.intro @VO <| And.intro @Um <| And.intro @Z5 <| And.intro @ABF <| And.intro @AC8 <| And.intro @VX <| And.intro @X3 <| And.intro @Zw <| And.intro @ZE <| And.intro @AE1 <| And.intro @AA2 <| And.intro @W8 <| And.intro @Z4 <| And.intro @U3 <| And.intro @Wn <| And.intro @AFC <| And.intro @YK <| And.intro @Up <| @Z7
theorem vc6:type_of% (And.intro @ABJ <| And.intro @YA <| And.intro @V6 <| And.intro @AEV <| And.intro @XO <| And.intro @Ym <| And.intro @WB <| And.intro @AC0 <| And.intro @AE2 <| And.intro @QS <| And.intro @P8 <| And.intro @QB <| And.intro @QC <| And.intro @P3 <| And.intro @YW <| And.intro @ZY <| And.intro @AB1 <| And.intro @Zk <| And.intro @UX <| @ABT):=And.intro @ABJ <| And.intro @YA <| And.intro @V6 <| And.intro @AEV <| And.intro @XO <| And.intro @Ym <| And.intro @WB <| And.intro @AC0 <| And.intro @AE2 <| And.intro @QS <| And.intro @P8 <| And.intro @QB <| And.intro @QC <| And.intro @P3 <| And.intro @YW <| And.intro @ZY <| And.intro @AB1 <| And.intro @Zk <| And.intro @UX <| @ABT
theorem vc7:type_of% (And.intro @Xt <| And.intro @AA0 <| And.intro @ADP <| And.intro @Un <| And.intro @ZH <| And.intro @Xc <| And.intro @AFM <| And.intro @V9 <| And.intro @ABE <| And.intro @Zu <| And.intro @VC <| And.intro @UZ <| And.intro @wrap_i64 <| And.intro @wrap_u8 <| And.intro @YO <| And.intro @WY <| And.intro @Z2 <| And.intro @AB3 <| And.intro @ABG <| @SE):=And.intro @Xt <| And.intro @AA0 <| And.intro @ADP <| And.intro @Un <| And.intro @ZH <| And.intro @Xc <| And.intro @AFM <| And.intro @V9 <| And.intro @ABE <| And.intro @Zu <| And.intro @VC <| And.intro @UZ <| And.intro @wrap_i64 <| And.intro @wrap_u8 <| And.intro @YO <| And.intro @WY <| And.intro @Z2 <| And.intro @AB3 <| And.intro @ABG <| @SE
theorem vc8:type_of% (And.intro @Wx <| And.intro @Y2 <| And.intro @Y9 <| And.intro @WG <| And.intro @Vu <| And.intro @XJ <| And.intro @Yu <| And.intro @AAZ <| And.intro @ABO <| And.intro @VS <| And.intro @AAE <| And.intro @WR <| And.intro @Z3 <| And.intro @ACX <| And.intro @AAN <| And.intro @Zz <| And.intro @ZR <| And.intro @SB <| And.intro @AFX <| @VY):=And.intro @Wx <| And.intro @Y2 <| And.intro @Y9 <| And.intro @WG <| And.intro @Vu <| And.intro @XJ <| And.intro @Yu <| And.intro @AAZ <| And.intro @ABO <| And.intro @VS <| And.intro @AAE <| And.intro @WR <| And.intro @Z3 <| And.intro @ACX <| And.intro @AAN <| And.intro @Zz <| And.intro @ZR <| And.intro @SB <| And.intro @AFX <| @VY
theorem vc9:type_of% (And.intro @Xi <| And.intro @Za <| And.intro @AAB <| And.intro @ABK <| And.intro @ABY <| And.intro @W6 <| And.intro @Vj <| And.intro @Yk <| And.intro @AAS <| And.intro @Zg <| And.intro @Ws <| And.intro @Ww <| And.intro @U8 <| And.intro @AFF <| And.intro @TR <| And.intro @Y0 <| And.intro @ZJ <| And.intro @Uz <| And.intro @AEP <| @Xa):=And.intro @Xi <| And.intro @Za <| And.intro @AAB <| And.intro @ABK <| And.intro @ABY <| And.intro @W6 <| And.intro @Vj <| And.intro @Yk <| And.intro @AAS <| And.intro @Zg <| And.intro @Ws <| And.intro @Ww <| And.intro @U8 <| And.intro @AFF <| And.intro @TR <| And.intro @Y0 <| And.intro @ZJ <| And.intro @Uz <| And.intro @AEP <| @Xa
theorem YF:type_of% (And.intro @VH <| And.intro @Zh <| And.intro @WZ <| And.intro @ZF <| And.intro @R2 <| And.intro @Qu <| And.intro @muI <| And.intro @muS <| And.intro @U6 <| And.intro @AAA <| And.intro @mgI <| And.intro @mgS <| And.intro @moI <| And.intro @moS <| And.intro @AB2 <| And.intro @Ur <| And.intro @AAP <| And.intro @SK <| And.intro @Wq <| @Wi):=And.intro @VH <| And.intro @Zh <| And.intro @WZ <| And.intro @ZF <| And.intro @R2 <| And.intro @Qu <| And.intro @muI <| And.intro @muS <| And.intro @U6 <| And.intro @AAA <| And.intro @mgI <| And.intro @mgS <| And.intro @moI <| And.intro @moS <| And.intro @AB2 <| And.intro @Ur <| And.intro @AAP <| And.intro @SK <| And.intro @Wq <| @Wi
theorem Vf:type_of% (And.intro @ADA <| And.intro @I6 <| And.intro @WX <| And.intro @ADI <| And.intro @ADH <| And.intro @Mh <| And.intro @RL <| And.intro @AAV <| And.intro @YG <| And.intro @ABC <| And.intro @Zn <| And.intro @Vw <| And.intro @VV <| And.intro @XX <| And.intro @WH <| And.intro @AFE <| And.intro @ADQ <| And.intro @Vz <| And.intro @Y8 <| @XC):=And.intro @ADA <| And.intro @I6 <| And.intro @WX <| And.intro @ADI <| And.intro @ADH <| And.intro @Mh <| And.intro @RL <| And.intro @AAV <| And.intro @YG <| And.intro @ABC <| And.intro @Zn <| And.intro @Vw <| And.intro @VV <| And.intro @XX <| And.intro @WH <| And.intro @AFE <| And.intro @ADQ <| And.intro @Vz <| And.intro @Y8 <| @XC
theorem YL:type_of% (And.intro @AFA <| And.intro @AA1 <| And.intro @Uw <| And.intro @UW <| And.intro @X5 <| And.intro @YY <| And.intro @ACU <| And.intro @AD1 <| And.intro @AEF <| And.intro @Vs <| And.intro @WD <| And.intro @ABV <| And.intro @Vh <| And.intro @ADX <| And.intro @Yv <| And.intro @VK <| And.intro @Xv <| And.intro @AE6 <| And.intro @Zp <| @Kk):=And.intro @AFA <| And.intro @AA1 <| And.intro @Uw <| And.intro @UW <| And.intro @X5 <| And.intro @YY <| And.intro @ACU <| And.intro @AD1 <| And.intro @AEF <| And.intro @Vs <| And.intro @WD <| And.intro @ABV <| And.intro @Vh <| And.intro @ADX <| And.intro @Yv <| And.intro @VK <| And.intro @Xv <| And.intro @AE6 <| And.intro @Zp <| @Kk
theorem Vm:type_of% (And.intro @WN <| And.intro @Zq <| And.intro @J4 <| And.intro @AE5 <| And.intro @V3 <| And.intro @AFS <| And.intro @VR <| And.intro @WJ <| And.intro @AD3 <| And.intro @ADW <| And.intro @Lt <| And.intro @RT <| And.intro @Q5 <| And.intro @Ve <| And.intro @AEW <| And.intro @YJ <| And.intro @V2 <| And.intro @YU <| And.intro @Eg <| @Mt):=And.intro @WN <| And.intro @Zq <| And.intro @J4 <| And.intro @AE5 <| And.intro @V3 <| And.intro @AFS <| And.intro @VR <| And.intro @WJ <| And.intro @AD3 <| And.intro @ADW <| And.intro @Lt <| And.intro @RT <| And.intro @Q5 <| And.intro @Ve <| And.intro @AEW <| And.intro @YJ <| And.intro @V2 <| And.intro @YU <| And.intro @Eg <| @Mt
theorem Zt:type_of% (And.intro @GN <| And.intro @Zr <| And.intro @WA <| And.intro @AE7 <| And.intro @ACP <| And.intro @Xn <| And.intro @Vv <| And.intro @Wr <| And.intro @Tk <| @TM):=And.intro @GN <| And.intro @Zr <| And.intro @WA <| And.intro @AE7 <| And.intro @ACP <| And.intro @Xn <| And.intro @Vv <| And.intro @Wr <| And.intro @Tk <| @TM
theorem vc:type_of% (And.intro vcL <| And.intro vcN <| And.intro vc0 <| And.intro vc1 <| And.intro vc2 <| And.intro vc3 <| And.intro vc4 <| And.intro vc5 <| And.intro vc6 <| And.intro vc7 <| And.intro vc8 <| And.intro vc9 <| And.intro YF <| And.intro Vf <| And.intro YL <| And.intro Vm <| Zt):=And.intro vcL <| And.intro vcN <| And.intro vc0 <| And.intro vc1 <| And.intro vc2 <| And.intro vc3 <| And.intro vc4 <| And.intro vc5 <| And.intro vc6 <| And.intro vc7 <| And.intro vc8 <| And.intro vc9 <| And.intro YF <| And.intro Vf <| And.intro YL <| And.intro Vm <| Zt
theorem AA:type_of% (And.intro vc vcO):=And.intro vc vcO
end Go.Cat
namespace Go.Cat
class Cm (K:Nat→List D→List D→Prop) (k:Nat) (f:IF):Prop where
 h:∀ ds rs,Body K f ds rs→K k ds rs
theorem ALK {K:Nat→List D→List D→Prop} {k:Nat} {f:IF} [h:Cm K k f] {ds rs:List D} (hl:ds.length=f.np) (hb:wpS K f.body (P4 f.res rs) (ds++List.replicate (f.nv-f.np) .u)) (hc:GK f.cl rs=true:=by rfl):K k ds rs:=
 haveI:Has K k f:=⟨h.h⟩
 AG (f:=f) hl hb hc
end Go.Cat
namespace Go.Cat
open Go.ChangeShapes Go.WideShapes Go.ChangeAt Go.RowKit
section
variable {H:Type} {enc:TypeId×Value→H} {P:Program}
theorem AMR {f:Func} {s:ChangeSpec} {apart fresh handsOn again:Bool} {W W':World} {args:Array Value} {v:Value} {ds gs:List (DataW H)} {before pa pv:List MemPlace}
  (hW:DataW.Whole enc P f.params.toList s.vars apart W args.toList ds gs before)
  (hres:∀ (b:Nat) (sp:Nat→Bool) (hd:Bool),DataW.TrodAll enc P W' b sp hd f.resultTypes.toList (v.resultList f.resultTypes.size) (s.fn H (ds++gs)).results [])
  (hargs:∀ sp:Nat→Bool,(∀ p∈before,sp p.block=true)→DataW.TrodAll enc P W' 0 sp true f.params.toList args.toList (s.fn H (ds++gs)).args pa)
  (hvars:∀ sp:Nat→Bool,(∀ p∈before,sp p.block=true)→DataW.TrodVars enc P W' sp s.vars (s.fn H (ds++gs)).vars pv)
  (hps:before=pa++pv) (hb:Below W.heap.size W W')
  (hok:∀ (j:Nat) (t:TypeId) (r:Value),f.resultTypes[j]?=some t→(v.resultList f.resultTypes.size)[j]?=some r→Value.okWide P W' .any 0 t r):
  s.post enc P f apart fresh handsOn again W args v W':=by
 have hold:∀ p∈before,(fun b=>decide (b<W.heap.size)) p.block=true:=fun p hp=>by simpa using hW.lt p hp
 have hlt:=hW.lt
 refine ⟨ds,gs,before,[],pa,pv,hW,hres _ _ _,hargs _ hold,hvars _ hold,World.keptBut_mono (fun p hp=>⟨hp,?_⟩) (hb.frame (·∈before)),fun _=>?_⟩
 ·rw [hps,A8] at hp
  exact Or.inr hp
 ·obtain ⟨_,_,_,_,_,hz,hn⟩:=hW
  refine ⟨hok,_,_,([]++pa)++pv,⟨[]++pa,pv,trodAll_append (hargs _ (fun _ _=>rfl)) (hres _ _ _),hvars _ (fun _ _=>rfl),rfl,?_,?_⟩,?_⟩
  ·intro b off hp
   have hp':MemPlace.cell b off∈before:=by rw [hps]; simpa using hp
   rw [hb.frozen (p:=⟨b,off,none⟩) (by simpa [MemPlace.block] using hlt _ hp')]
   exact hz b off hp'
  ·intro ha
   have:=hn ha
   rw [hps] at this
   simpa using this
  ·intro p hp _
   rw [hps]
   simpa using hp
end
theorem AMO {P:Program} {fid:Nat→Nat} {f:FuncId} {ps:List Sh} {ds:List D} (h:FE P fid f ⟨ps,[.v],[],none⟩ ds [.b true]) {w:World} {args:List Value}
  (ha:BA (AF fid w.heap (·∈[]) (fun _=>False)) ps ds args []):Calls P f args.toArray w fun e w'=>e=.returned (.bool true)∧Below w.heap.size w w':=by
 refine (h w (fun _=>False) args [] (by simp) (by simp) ha trivial).mono ?_
 rintro e w' ⟨v,vs,B',rfl,ht,_,hA,h1,h2,h3,_,_,hE⟩
 simp only [Sg.outs,List.map_nil,List.append_nil] at hE
 refine ⟨?_,h1,h2,h3,hA.size,fun k hk=>hA.same k hk (by simp)⟩
 match vs,hE with
 | [x],hE=>
  simp only [BA,AF,Rd] at hE
  obtain ⟨B1,B2,rfl,⟨_,hx⟩,_⟩:=hE
  simp only [HQ] at ht
  rw [ht,hx]
theorem AKI {P:Program} {tab:List Row} {k:Nat} {r:Row} {ds:List D} (h:KS P tab k ds [.b true]) (hr:rowOf tab k=some r) (hq:r.s.qs=[.v]) (hio:r.s.io=[]) (hfb:r.s.fb=none):FE P (Dm tab) r.f ⟨r.s.ps,[.v],[],none⟩ ds [.b true]:=by
 obtain ⟨r',h1,h2⟩:=h
 rw [hr] at h1
 cases h1
 rw [← hq,← hio,← hfb]
 exact h2
def Plain:D→Value→Prop
 | .i k n,v=>v=.int k n
 | .b x,v=>v=.bool x
 | .s x,v=>v=BE x∧(∀ c∈x,c<256)∧x.length≤9223372036854775807
 | _,_=>False
end Go.Cat
namespace Go.Cat
open Go.ChangeShapes Go.WideShapes Go.ChangeAt Go.RowKit
section
variable {H:Type} {enc:TypeId×Value→H} {P:Program}
theorem Wc (hl:laidOutB P=true) {W W':World} (hb:Below W.heap.size W W') {sp:Nat→Bool}:∀ {ts:List TypeId} {vs:List Value} {ds:List (DataW H)} {ps:List MemPlace},
  (∀ t∈ts,P.readableRec t=true∧t<P.types.size)→DataW.TrodAll enc P W 0 (fun _=>true) true ts vs ds ps→(∀ p∈ps,sp p.block=true)→(∀ p∈ps,p.block<W.heap.size)→DataW.TrodAll enc P W' 0 sp true ts vs ds ps
 | [],vs,ds,ps=>fun _ h _ _=>by
  obtain ⟨rfl,rfl,rfl⟩:=trodAll_nil h
  exact trodAll_mk0
 | t::ts,vs,ds,ps=>fun hr h hs hlt=>by
  obtain ⟨v,vs',d,ds',p,q,rfl,rfl,rfl,h1,h2⟩:=trodAll_cons h
  refine trodAll_cons_mk ?_ (Wc hl hb (fun u hu=>hr u (BC _ hu)) h2 (fun x hx=>hs x (Ak _ hx)) fun x hx=>hlt x (Ak _ hx))
  obtain ⟨r1,r2⟩:=hr t (List.mem_cons_self ..)
  exact WideElems.Trod_stays hl r1 r2 h1 (fun x hx=>hb.same (hlt x (Ay _ hx))) fun x hx=>hs x (Ay _ hx)
theorem AKR {W:World} {base:Nat} {t e:TypeId} {k:IntKind} {v:Value} {d:DataW H} {ps:List MemPlace} (ht:P.underlying t=some (.slice e)) (he:P.underlying e=some (.int k)) (hc:P.cellsOf e=1)
  (hval:Value.okWide P W .any base t v) (h:DataW.Trod enc P W 0 (fun _=>true) true t v d ps):
  ∃ zs:List Int,(∀ z∈zs,(Lit.int k z).wf=true)∧∀ (fid:Nat→Nat) (Z:Nat→Prop),(∀ b,¬ Z b)→Rd fid W.heap Z (.l (zs.map (D.i k))) v:=by
 obtain ⟨fuel,hf⟩:=h
 have hv:=hval
 simp only [Value.okWide,ht,Cell.okWide] at hv
 obtain ⟨a,len,cap,rfl⟩:=okWide_slice ht hval
 have hcs:(Value.slice a len cap).cells.toList=[.slice a len cap]:=rfl
 rw [hcs] at hf
 rcases open_ints ht he hc hf with ⟨h1,_⟩ | ⟨a',len',cap',zs,h1,_,hle,hm,hlen,_,hcell,hwf⟩
 ·injection h1 with h1 _
  refine ⟨[],by simp,fun fid Z _=>?_⟩
  simp only [List.map_nil,Rd]
  exact .inl ⟨trivial,_,h1⟩
 ·injection h1 with h1 _
  injection h1 with e1 e2 e3
  subst e1 e2 e3
  have hlen':zs.length=cap:=by simpa using hlen
  simp only [Cell.ok,ht] at hv
  obtain ⟨_,_,_,hspot,row,cells,hsh,_⟩:=hv
  refine ⟨zs.take len,fun z hz=>hwf z (List.mem_of_mem_take hz),fun fid Z hZ=>?_⟩
  simp only [Rd]
  right
  unfold World.shape? at hsh
  split at hsh
  ·rename_i cs e' fz hb
   have ha:a'=⟨a'.block,a'.off,none⟩:=by
    cases a'; simp only at hspot; rw [hspot]
   refine ⟨a'.block,a'.off,cap,cs,e',fz,?_,hb,hZ _,?_,?_⟩
   ·have hll:((zs.take len).map (D.i k)).length=len:=by simp; omega
    rw [hll,← ha]
   ·have key:∀ (n o:Nat) (l:List Int),(∀ i,i<l.length→cs[o+i]?=some (.int k (l.getD i 0)))→AN fid W.heap Z (l.map (D.i k)) (cs.toList.drop o):=by
     intro n o l
     induction l generalizing o with
     | nil=>intro _; simp [AN]
     | cons z l ih=>
      intro hl
      have h0:=hl 0 (by simp)
      simp only [Nat.add_zero,List.getD_cons_zero] at h0
      have:cs.toList.drop o=.int k z::cs.toList.drop (o+1):=by
       rw [List.drop_eq_getElem_cons (by have:=(Array.getElem?_eq_some_iff.1 h0).1; simpa using this)]
       congr 1
       have:=(Array.getElem?_eq_some_iff.1 h0).2
       simpa using this
      rw [this]
      simp only [List.map_cons,AN,Rd]
      refine ⟨trivial,ih (o+1) fun i hi=>?_⟩
      have:=hl (i+1) (by simpa using hi)
      simpa [Nat.add_assoc,Nat.add_comm 1 i] using this
    refine key 0 a'.off (zs.take len) fun i hi=>?_
    have hi2:i<zs.length:=by simp at hi; omega
    have h5:=hcell i hi2
    have h6:cs[a'.off+i]?=some (.int k (zs.getD i 0)):=by
     rw [ha] at h5
     cases i with
     | zero=>simpa [World.cell?,Addr.add,hb] using h5
     | succ i=>simpa [World.cell?,Addr.add,hb] using h5
    rw [h6]
    have hi3:i<len:=by simp at hi; omega
    simp [BP,hi3]
   ·unfold maxLen at hm
    have hll:((zs.take len).map (D.i k)).length=len:=by simp; omega
    rw [hll]
    exact ⟨hle,by omega⟩
  ·cases hsh
theorem AIY {W:World} {base:Nat} {t e:TypeId} {v:Value} {d:DataW H} {ps:List MemPlace} (ht:P.underlying t=some (.slice e)) (he:P.underlying e=some (.int .u8)) (hc:P.cellsOf e=1)
  (hval:Value.okWide P W .any base t v) (h:DataW.Trod enc P W 0 (fun _=>true) true t v d ps):
  ∃ bs:List Nat,(∀ c∈bs,c<256)∧∀ (fid:Nat→Nat) (Z:Nat→Prop),(∀ b,¬ Z b)→Rd fid W.heap Z (LB bs) v:=by
 obtain ⟨zs,h1,h2⟩:=AKR ht he hc hval h
 have hz:∀ z∈zs,0≤z∧z<256:=by
  intro z hz
  have:=h1 z hz
  simp [Lit.wf,IntKind.min,IntKind.max,IntKind.bits,IntKind.signed] at this
  omega
 refine ⟨zs.map Int.toNat,?_,fun fid Z hZ=>?_⟩
 ·intro c hc
  obtain ⟨z,q,rfl⟩:=List.mem_map.1 hc
  have:=hz z q
  omega
 ·have e:LB (zs.map Int.toNat)=.l (zs.map (D.i .u8)):=by
   simp only [LB,List.map_map]
   congr 1
   refine List.map_congr_left fun z q=>?_
   have:=hz z q
   show D.i .u8 ((z.toNat:Nat):Int)=D.i .u8 z
   rw [Int.toNat_of_nonneg this.1]
  rw [e]; exact h2 fid Z hZ
end
theorem AMC {fid:Nat→Nat} {h:Array Obj} {ps:List Sh} {ds:List D} {vs:List Value} {d:D} {v:Value} (hr:Rd fid h (fun b=>b∈([]:List Nat)∨False) d v)
  (ht:BA (AF fid h (·∈([]:List Nat)) (fun _=>False)) ps ds vs []):BA (AF fid h (·∈([]:List Nat)) (fun _=>False)) (.v::ps) (d::ds) (v::vs) []:=by
 simp only [BA]
 exact ⟨[],[],rfl,by simp only [AF]; exact ⟨trivial,hr⟩,ht⟩
theorem AGP {fid:Nat→Nat} {h:Array Obj}:BA (AF fid h (·∈([]:List Nat)) (fun _=>False)) [] [] [] []:=rfl
end Go.Cat
