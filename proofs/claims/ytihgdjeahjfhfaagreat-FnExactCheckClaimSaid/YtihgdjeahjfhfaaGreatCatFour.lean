/-
 How a body is walked through: one statement behind the other; what comes later stays closed until it is reached.
-/
import Derived.Test.YtihgdjeahjfhfaaGreatCatThree
import Derived.WalkKit
import Derived.ProofKit
import Derived.OpenShut
import Derived.Below
import Derived.Carry
import Derived.ChangeSlices
import Derived.ChangeMaps5
import Derived.SliceStrings
set_option linter.unusedSimpArgs false
set_option linter.unusedVariables false
namespace Go.Cat
section
variable (K:Nat→List D→List D→Prop)
def seqQ (b:S) (Q:X→Env→Prop):X→Env→Prop
 | .n,e=>wpS K b Q e
 | .ex j,e=>Q (.ex j) e
 | .r,e=>Q .r e
def blkQ (id:Nat) (Q:X→Env→Prop):X→Env→Prop
 | .n,e=>Q .n e
 | .ex j,e=>if j=id then Q .n e else Q (.ex j) e
 | .r,e=>Q .r e
def regQ (out:List (Option Nat)) (Q:X→Env→Prop):Env→Prop:=fun e=>Q .n (outE out e)
def itsQ (r:List It) (Q:Env→Prop):Env→Prop:=fun e=>wpIts K r e Q
def valQ (e:Env) (Q:Env→Prop):Option D→Prop
 | some d=>Q (e++[d])
 | none=>False
def cndQ (x y:S) (Q:X→Env→Prop) (e:Env):D→Prop
 | .b true=>wpS K x Q e
 | .b false=>wpS K y Q e
 | _=>False
def calQ (g:Nat) (ds:List D) (r:Nat) (e:Env) (Q:Env→Prop):Prop:=∃ rs:List D,K g ds rs∧rs.length=r∧Q (e++rs)
def endQ (res:List Nat) (rs:List D):X→Env→Prop
 | .ex _,_=>False
 | .n,e=>rs=res.map e.E
 | .r,e=>rs=res.map e.E
def exQ (res:List Nat) (P:List D→Prop):X→Env→Prop
 | .ex _,_=>False
 | .n,e=>P (res.map e.E)
 | .r,e=>P (res.map e.E)
variable {K}
theorem exQ_n {res:List Nat} {P:List D→Prop} {e:Env}:exQ res P .n e=P (res.map e.E):=rfl
theorem exQ_r {res:List Nat} {P:List D→Prop} {e:Env}:exQ res P .r e=P (res.map e.E):=rfl
theorem wp_seq {a b:S} {Q:X→Env→Prop} {e:Env}:wpS K (.seq a b) Q e=wpS K a (seqQ K b Q) e:=by
 simp only [wpS]
 congr 1
 funext x e; cases x <;> rfl
theorem wp_block {id:Nat} {b:S} {Q:X→Env→Prop} {e:Env}:wpS K (.block id b) Q e=wpS K b (blkQ id Q) e:=by
 simp only [wpS]
 congr 1
 funext x e; cases x <;> rfl
theorem wp_skip {Q:X→Env→Prop} {e:Env}:wpS K .skip Q e=Q .n e:=rfl
theorem wp_exit {id:Nat} {Q:X→Env→Prop} {e:Env}:wpS K (.exit id) Q e=Q (.ex id) e:=rfl
theorem wp_ret {Q:X→Env→Prop} {e:Env}:wpS K .ret Q e=Q .r e:=rfl
theorem wp_reg {its:List It} {out:List (Option Nat)} {Q:X→Env→Prop} {e:Env}:wpS K (.reg its out) Q e=wpIts K its e (regQ out Q):=rfl
theorem wp_cond {n:Nat} {x y:S} {Q:X→Env→Prop} {e:Env}:wpS K (.cond n x y) Q e=cndQ K x y Q (e.set n .u) (e.E n):=by
 simp only [wpS]
 cases e.E n <;> try rfl
theorem seqQ_n {b:S} {Q:X→Env→Prop} {e:Env}:seqQ K b Q .n e=wpS K b Q e:=rfl
theorem seqQ_ex {b:S} {Q:X→Env→Prop} {e:Env} {j:Nat}:seqQ K b Q (.ex j) e=Q (.ex j) e:=rfl
theorem seqQ_r {b:S} {Q:X→Env→Prop} {e:Env}:seqQ K b Q .r e=Q .r e:=rfl
theorem blkQ_n {id:Nat} {Q:X→Env→Prop} {e:Env}:blkQ id Q .n e=Q .n e:=rfl
theorem blkQ_ex {id:Nat} {Q:X→Env→Prop} {e:Env} {j:Nat}:blkQ id Q (.ex j) e=if j=id then Q .n e else Q (.ex j) e:=rfl
theorem blkQ_r {id:Nat} {Q:X→Env→Prop} {e:Env}:blkQ id Q .r e=Q .r e:=rfl
theorem regQ_mk {out:List (Option Nat)} {Q:X→Env→Prop} {e:Env}:regQ out Q e=Q .n (outE out e):=rfl
theorem itsQ_mk {r:List It} {Q:Env→Prop} {e:Env}:itsQ K r Q e=wpIts K r e Q:=rfl
theorem valQ_some {e:Env} {Q:Env→Prop} {d:D}:valQ e Q (some d)=Q (e++[d]):=rfl
theorem cndQ_t {x y:S} {Q:X→Env→Prop} {e:Env}:cndQ K x y Q e (.b true)=wpS K x Q e:=rfl
theorem cndQ_f {x y:S} {Q:X→Env→Prop} {e:Env}:cndQ K x y Q e (.b false)=wpS K y Q e:=rfl
theorem endQ_n {res:List Nat} {rs:List D} {e:Env}:endQ res rs .n e=(rs=res.map e.E):=rfl
theorem endQ_r {res:List Nat} {rs:List D} {e:Env}:endQ res rs .r e=(rs=res.map e.E):=rfl
theorem wp_its_nil {e:Env} {Q:Env→Prop}:wpIts K [] e Q=Q e:=rfl
theorem wp_its_cons {it:It} {r:List It} {e:Env} {Q:Env→Prop}:wpIts K (it::r) e Q=wpIt K it e (itsQ K r Q):=rfl
def gdQ (z:List (Option Nat)) (p:Pr) (e:Env) (Q:Env→Prop):Option Bool→Prop
 | some true=>wpPr K p e Q
 | some false=>Q (e++skE e.E z p.np)
 | none=>False
theorem wp_it {z:List (Option Nat)} {g:Gd} {p:Pr} {e:Env} {Q:Env→Prop}:wpIt K ⟨z,g,p⟩ e Q=gdQ (K:=K) z p e Q (gdE e.E g):=by
 simp only [wpIt]
 split <;> rename_i h <;> simp only [h] <;> rfl
theorem gdQ_t {z:List (Option Nat)} {p:Pr} {e:Env} {Q:Env→Prop}:gdQ (K:=K) z p e Q (some true)=wpPr K p e Q:=rfl
theorem gdQ_f {z:List (Option Nat)} {p:Pr} {e:Env} {Q:Env→Prop}:gdQ (K:=K) z p e Q (some false)=Q (e++skE e.E z p.np):=rfl
theorem skE_z {E:Nat→D} {n:Nat}:skE E [] n=List.replicate n .u:=skE_nil n
theorem skE_s {E:Nat→D} {m:Nat} {z:List (Option Nat)} {n:Nat}:skE E (some m::z) (n+1)=E m::skE E z n:=rfl
theorem skE_n {E:Nat→D} {z:List (Option Nat)} {n:Nat}:skE E (none::z) (n+1)=.u::skE E z n:=rfl
theorem gdE_nil {E:Nat→D}:gdE E []=some true:=rfl
def gdB (w:Bool) (r:Option Bool):D→Option Bool
 | .b x=>if x=w then r else some false
 | _=>none
theorem gdE_cons {E:Nat→D} {n:Nat} {w:Bool} {r:Gd}:gdE E ((n,w)::r)=gdB w (gdE E r) (E n):=rfl
theorem gdB_tt {r:Option Bool}:gdB true r (.b true)=r:=rfl
theorem gdB_ff {r:Option Bool}:gdB false r (.b false)=r:=rfl
theorem gdB_tf {r:Option Bool}:gdB true r (.b false)=some false:=rfl
theorem gdB_ft {r:Option Bool}:gdB false r (.b true)=some false:=rfl
theorem wp_pr_nop {e:Env} {Q:Env→Prop}:wpPr K .nop e Q=Q e:=rfl
theorem wp_pr_ca {g:Nat} {xs:List A} {r:Nat} {e:Env} {Q:Env→Prop}:wpPr K (.ca g xs r) e Q=calQ K g (xs.map (ev e.E)) r e Q:=rfl
def fnQ (g:Nat) (P:Prop) (d:D):Prop:=d=.f g []∧P
theorem fnQ_eq {g:Nat} {P:Prop}:fnQ g P (.f g [])=P:=by simp [fnQ]
theorem wp_pr_cd {f:A} {g:Nat} {xs:List A} {r:Nat} {e:Env} {Q:Env→Prop}:wpPr K (.cd f g xs r) e Q=fnQ g (calQ K g (xs.map (ev e.E)) r e Q) (ev e.E f):=rfl
def tkQ (e:Env) (Q:Env→Prop):D→Prop
 | .g [d]=>Q (e++[d,.g [.u]])
 | _=>False
theorem tkQ_g {e:Env} {Q:Env→Prop} {d:D}:tkQ e Q (.g [d])=Q (e++[d,.g [.u]]):=rfl
theorem wp_pr_tk {n:Nat} {e:Env} {Q:Env→Prop}:wpPr K (.tk n) e Q=tkQ e Q (e.E n):=by
 simp only [wpPr,tkD,tkQ]
 split <;> rename_i h <;> split at h <;> simp_all
def twoQ (e:Env) (Q:Env→Prop):Option (D×D)→Prop
 | some d=>Q (e++[d.1,d.2])
 | none=>False
theorem twoQ_s {e:Env} {Q:Env→Prop} {x y:D}:twoQ e Q (some (x,y))=Q (e++[x,y]):=rfl
theorem wp_pr_sp {n k:Nat} {p:List PE} {e:Env} {Q:Env→Prop}:wpPr K (.sp n p k) e Q=twoQ e Q (spD k (e.E n) (p.mapM (PE.ev e.E))):=by
 simp only [wpPr,twoQ]
 split <;> rename_i h <;> simp only [h]
theorem wp_pr_sw {n:Nat} {e:Env} {Q:Env→Prop}:wpPr K (.sw n) e Q=twoQ e Q (swD (e.E n)):=by
 simp only [wpPr,twoQ]
 split <;> rename_i h <;> simp only [h]
theorem wp_pr_mo {n:Nat} {a:A} {d:D} {e:Env} {Q:Env→Prop}:wpPr K (.mo n a d) e Q=twoQ e Q (moD d (e.E n) (ev e.E a)):=by
 simp only [wpPr,twoQ]
 split <;> rename_i h <;> simp only [h]
theorem wp_pr_mm {e:Env} {Q:Env→Prop}:wpPr K .mm e Q=valQ e Q (evP e.E .mm):=by
 simp only [wpPr]; split <;> rename_i h <;> simp only [h] <;> rfl
theorem wp_pr_mu {e:Env} {Q:Env→Prop} (n:Nat) (a b:A):wpPr K (.mu n a b) e Q=valQ e Q (evP e.E (.mu n a b)):=by
 simp only [wpPr]; split <;> rename_i h <;> simp only [h] <;> rfl
theorem wp_pr_mg {e:Env} {Q:Env→Prop} (n:Nat) (a:A) (d:D):wpPr K (.mg n a d) e Q=valQ e Q (evP e.E (.mg n a d)):=by
 simp only [wpPr]; split <;> rename_i h <;> simp only [h] <;> rfl
theorem swD_g {xs:List D}:swD (.g xs)=some (.g xs,.g (List.replicate xs.length .u)):=rfl
theorem spD_g {k i:Nat} {xs:List D}:spD k (.g xs) (some [i])=xs[i]?.bind fun x=>if depB k x=true then some (x,.g (xs.set i .u)) else none:=by
 simp only [spD,Option.bind_some,getP,setP]
 cases xs[i]? with
 | none=>rfl
 | some x=>rfl
theorem wp_pr_jn {e:Env} {Q:Env→Prop} (n:Nat) (p:List PE) (a:A) (k:Nat):wpPr K (.jn n p a k) e Q=valQ e Q (evP e.E (.jn n p a k)):=by
 simp only [wpPr]; split <;> rename_i h <;> simp only [h] <;> rfl
def jnD (is:Option (List Nat)) (d x:D) (k:Nat):Option D:=if (x.one&&depB k x)=true then is.bind fun is=>setP is d x else none
theorem wp_pr_cs {e:Env} {Q:Env→Prop} (s:Sh) (d:D):wpPr K (.cs s d) e Q=valQ e Q (evP e.E (.cs s d)):=by
 simp only [wpPr]; split <;> rename_i h <;> simp only [h] <;> rfl
theorem wp_pr_cy {e:Env} {Q:Env→Prop} (a:A):wpPr K (.cy a) e Q=valQ e Q (evP e.E (.cy a)):=by
 simp only [wpPr]; split <;> rename_i h <;> simp only [h] <;> rfl
theorem wp_pr_bi {e:Env} {Q:Env→Prop} (op:BinOp) (a b:A):wpPr K (.bi op a b) e Q=valQ e Q (evP e.E (.bi op a b)):=by
 simp only [wpPr]; split <;> rename_i h <;> simp only [h] <;> rfl
theorem wp_pr_bb {e:Env} {Q:Env→Prop} (op:BinOp) (a b:A):wpPr K (.bb op a b) e Q=valQ e Q (evP e.E (.bb op a b)):=by
 simp only [wpPr]; split <;> rename_i h <;> simp only [h] <;> rfl
theorem wp_pr_un {e:Env} {Q:Env→Prop} (op:UnOp) (a:A):wpPr K (.un op a) e Q=valQ e Q (evP e.E (.un op a)):=by
 simp only [wpPr]; split <;> rename_i h <;> simp only [h] <;> rfl
theorem wp_pr_pk {e:Env} {Q:Env→Prop} (a b c:A):wpPr K (.pk a b c) e Q=valQ e Q (evP e.E (.pk a b c)):=by
 simp only [wpPr]; split <;> rename_i h <;> simp only [h] <;> rfl
theorem wp_pr_cv {e:Env} {Q:Env→Prop} (k:IntKind) (a:A):wpPr K (.cv k a) e Q=valQ e Q (evP e.E (.cv k a)):=by
 simp only [wpPr]; split <;> rename_i h <;> simp only [h] <;> rfl
theorem wp_pr_ln {e:Env} {Q:Env→Prop} (a:A) (p:List PE):wpPr K (.ln a p) e Q=valQ e Q (evP e.E (.ln a p)):=by
 simp only [wpPr]; split <;> rename_i h <;> simp only [h] <;> rfl
theorem wp_pr_sn {e:Env} {Q:Env→Prop} (a:A):wpPr K (.sn a) e Q=valQ e Q (evP e.E (.sn a)):=by
 simp only [wpPr]; split <;> rename_i h <;> simp only [h] <;> rfl
theorem wp_pr_sx {e:Env} {Q:Env→Prop} (a i:A):wpPr K (.sx a i) e Q=valQ e Q (evP e.E (.sx a i)):=by
 simp only [wpPr]; split <;> rename_i h <;> simp only [h] <;> rfl
theorem wp_pr_ss {e:Env} {Q:Env→Prop} (a:A) (lo hi:Option A):wpPr K (.ss a lo hi) e Q=valQ e Q (evP e.E (.ss a lo hi)):=by
 simp only [wpPr]; split <;> rename_i h <;> simp only [h] <;> rfl
theorem wp_pr_ix {e:Env} {Q:Env→Prop} (a:A) (p:List PE) (i:A):wpPr K (.ix a p i) e Q=valQ e Q (evP e.E (.ix a p i)):=by
 simp only [wpPr]; split <;> rename_i h <;> simp only [h] <;> rfl
theorem wp_pr_up {e:Env} {Q:Env→Prop} (n:Nat) (p:List PE) (a:A):wpPr K (.up n p a) e Q=valQ e Q (evP e.E (.up n p a)):=by
 simp only [wpPr]; split <;> rename_i h <;> simp only [h] <;> rfl
theorem wp_pr_sb {e:Env} {Q:Env→Prop} (fz:Bool) (a:A) (lo hi:Option A):wpPr K (.sb fz a lo hi) e Q=valQ e Q (evP e.E (.sb fz a lo hi)):=by
 simp only [wpPr]; split <;> rename_i h <;> simp only [h] <;> rfl
theorem wp_pr_ap {e:Env} {Q:Env→Prop} (fl:Bool) (a b:A):wpPr K (.ap fl a b) e Q=valQ e Q (evP e.E (.ap fl a b)):=by
 simp only [wpPr]; split <;> rename_i h <;> simp only [h] <;> rfl
theorem wp_pr_mk {e:Env} {Q:Env→Prop} (d:D) (n c:A):wpPr K (.mk d n c) e Q=valQ e Q (evP e.E (.mk d n c)):=by
 simp only [wpPr]; split <;> rename_i h <;> simp only [h] <;> rfl
theorem wp_pr_li {e:Env} {Q:Env→Prop} (s:Sh) (xs:List A):wpPr K (.li s xs) e Q=valQ e Q (evP e.E (.li s xs)):=by
 simp only [wpPr]; split <;> rename_i h <;> simp only [h] <;> rfl
theorem wp_pr_bs {e:Env} {Q:Env→Prop} (a:A):wpPr K (.bs a) e Q=valQ e Q (evP e.E (.bs a)):=by
 simp only [wpPr]; split <;> rename_i h <;> simp only [h] <;> rfl
theorem wp_pr_sy {e:Env} {Q:Env→Prop} (a:A):wpPr K (.sy a) e Q=valQ e Q (evP e.E (.sy a)):=by
 simp only [wpPr]; split <;> rename_i h <;> simp only [h] <;> rfl
theorem wp_pr_mx {e:Env} {Q:Env→Prop} (a b:A):wpPr K (.mx a b) e Q=valQ e Q (evP e.E (.mx a b)):=by
 simp only [wpPr]; split <;> rename_i h <;> simp only [h] <;> rfl
theorem wp_pr_mn {e:Env} {Q:Env→Prop} (a b:A):wpPr K (.mn a b) e Q=valQ e Q (evP e.E (.mn a b)):=by
 simp only [wpPr]; split <;> rename_i h <;> simp only [h] <;> rfl
theorem wp_pr_iy {e:Env} {Q:Env→Prop} (a i:A):wpPr K (.iy a i) e Q=valQ e Q (evP e.E (.iy a i)):=by
 simp only [wpPr]; split <;> rename_i h <;> simp only [h] <;> rfl
theorem wp_pr_bg {e:Env} {Q:Env→Prop} (k:Nat) (xs:List (A×Nat)):wpPr K (.bg k xs) e Q=valQ e Q (evP e.E (.bg k xs)):=by
 simp only [wpPr]; split <;> rename_i h <;> simp only [h] <;> rfl
theorem wp_pr_bp {e:Env} {Q:Env→Prop} (a:A):wpPr K (.bp a) e Q=valQ e Q (evP e.E (.bp a)):=by
 simp only [wpPr]; split <;> rename_i h <;> simp only [h] <;> rfl
theorem wp_pr_gp {e:Env} {Q:Env→Prop} (a:A) (k:Nat):wpPr K (.gp a k) e Q=valQ e Q (evP e.E (.gp a k)):=by
 simp only [wpPr]; split <;> rename_i h <;> simp only [h] <;> rfl
theorem wp_pr_nz {e:Env} {Q:Env→Prop} (w:Bool) (a:A):wpPr K (.nz w a) e Q=valQ e Q (evP e.E (.nz w a)):=by
 simp only [wpPr]; split <;> rename_i h <;> simp only [h] <;> rfl
theorem wp_pr_nn {e:Env} {Q:Env→Prop} (a:A):wpPr K (.nn a) e Q=valQ e Q (evP e.E (.nn a)):=by
 simp only [wpPr]; split <;> rename_i h <;> simp only [h] <;> rfl
theorem wp_pr_wl {e:Env} {Q:Env→Prop} (k:Nat) (a:A):wpPr K (.wl k a) e Q=valQ e Q (evP e.E (.wl k a)):=by
 simp only [wpPr]; split <;> rename_i h <;> simp only [h] <;> rfl
theorem wp_pr_ws {e:Env} {Q:Env→Prop} (n k:Nat) (a:A):wpPr K (.ws n k a) e Q=valQ e Q (evP e.E (.ws n k a)):=by
 simp only [wpPr]; split <;> rename_i h <;> simp only [h] <;> rfl
theorem wp_pr_gt {e:Env} {Q:Env→Prop} (a:A) (p:List PE):wpPr K (.gt a p) e Q=valQ e Q (evP e.E (.gt a p)):=by
 simp only [wpPr]; split <;> rename_i h <;> simp only [h] <;> rfl
theorem wp_pr_fp {e:Env} {Q:Env→Prop} (fl:Bool) (a:A) (k:Nat):wpPr K (.fp fl a k) e Q=valQ e Q (evP e.E (.fp fl a k)):=by
 simp only [wpPr]; split <;> rename_i h <;> simp only [h] <;> rfl
theorem wp_pr_cb {e:Env} {Q:Env→Prop} (n:Nat):wpPr K (.cb n) e Q=valQ e Q (evP e.E (.cb n)):=by
 simp only [wpPr]; split <;> rename_i h <;> simp only [h] <;> rfl
theorem wp_pr_uq {e:Env} {Q:Env→Prop} (n:Nat) (p:List PE) (a:A) (i k:Nat):wpPr K (.uq n p a i k) e Q=valQ e Q (evP e.E (.uq n p a i k)):=by
 simp only [wpPr]; split <;> rename_i h <;> simp only [h] <;> rfl
end
section
variable {E:Nat→D}
theorem ev_e {n:Nat}:ev E (.e n)=E n:=rfl
theorem ev_c {d:D}:ev E (.c d)=d:=rfl
theorem evP_mm:evP E .mm=some (.g []):=rfl
theorem evP_mu {n:Nat} {a b:A}:evP E (.mu n a b)=muD (E n) (ev E a) (ev E b):=rfl
theorem evP_mg {n:Nat} {a:A} {d:D}:evP E (.mg n a d)=mgD d (E n) (ev E a):=rfl
theorem evP_cs {s:Sh} {d:D}:evP E (.cs s d)=some d:=rfl
theorem evP_cy {a:A}:evP E (.cy a)=some (ev E a):=rfl
theorem evP_bin {op:BinOp} {a b:A}:evP E (.bi op a b)=binD op (ev E a) (ev E b):=rfl
theorem evP_bbo {op:BinOp} {a b:A}:evP E (.bb op a b)=boolD op (ev E a) (ev E b):=rfl
theorem evP_uno {op:UnOp} {a:A}:evP E (.un op a)=unD op (ev E a):=rfl
def pkD (c a b:D):Option D:=match c with | .b true=>some a | .b false=>some b | _=>none
theorem evP_pk {c a b:A}:evP E (.pk c a b)=pkD (ev E c) (ev E a) (ev E b):=by
 simp only [evP,pkD]; split <;> rename_i h <;> simp only [h]
theorem pkD_t {a b:D}:pkD (.b true) a b=some a:=rfl
theorem pkD_f {a b:D}:pkD (.b false) a b=some b:=rfl
theorem pkD_ff {p q:Bool}:pkD (.b p) (.b q) (.b false)=some (.b (p&&q)):=by cases p <;> rfl
theorem pkD_tt {p q:Bool}:pkD (.b p) (.b true) (.b q)=some (.b (p || q)):=by cases p <;> rfl
def cvD (k:IntKind):D→Option D | .i _ n=>some (.i k (k.wrap n)) | _=>none
theorem evP_cv {k:IntKind} {a:A}:evP E (.cv k a)=cvD k (ev E a):=by
 simp only [evP]; cases ev E a <;> rfl
theorem cvD_i {k k':IntKind} {n:Int}:cvD k (.i k' n)=some (.i k (k.wrap n)):=rfl
theorem evP_ln {a:A} {p:List PE}:evP E (.ln a p)=(pathD E p (ev E a)).bind lenD:=rfl
theorem pathD_nil {d:D}:pathD E [] d=some d:=rfl
theorem pathD_one {pe:PE} {d:D}:pathD E [pe] d=(pe.ev E).bind fun i=>getP [i] d:=by
 simp only [pathD,List.mapM_cons,List.mapM_nil]
 cases pe.ev E <;> rfl
theorem evP_sn {a:A}:evP E (.sn a)=snD (ev E a):=rfl
theorem evP_sx {a i:A}:evP E (.sx a i)=sxD (ev E a) (ev E i):=rfl
theorem evP_ss {a:A} {lo hi:Option A}:evP E (.ss a lo hi)=ssD (ev E a) (lo.map (ev E)) (hi.map (ev E)):=rfl
theorem evP_ix {a i:A}:evP E (.ix a [] i)=ixD (ev E a) (ev E i):=rfl
theorem evP_ixp {a i:A} {p:List PE}:evP E (.ix a p i)=(pathD E p (ev E a)).bind fun d=>ixD d (ev E i):=rfl
theorem evP_iy {a i:A}:evP E (.iy a i)=(ixD (ev E a) (ev E i)).bind flatD:=rfl
def upD (is:Option (List Nat)) (d x:D):Option D:=if x.one=true then is.bind fun is=>setP is d x else none
theorem evP_up {n:Nat} {p:List PE} {a:A}:evP E (.up n p a)=upD (p.mapM (PE.ev E)) (E n) (ev E a):=rfl
theorem pes_one {pe:PE}:[pe].mapM (PE.ev E)=(pe.ev E).map ([·]):=by
 simp only [List.mapM_cons,List.mapM_nil]; cases pe.ev E <;> rfl
theorem pes_two {pe qe:PE}:[pe,qe].mapM (PE.ev E)=(pe.ev E).bind fun i=>(qe.ev E).map fun j=>[i,j]:=by
 simp only [List.mapM_cons,List.mapM_nil]; cases pe.ev E <;> cases qe.ev E <;> rfl
theorem pe_k {n:Nat}:PE.ev E (.k n)=some n:=rfl
def natD:D→Option Nat | .i _ z=>if 0≤z then some z.toNat else none | _=>none
theorem pe_e {n:Nat}:PE.ev E (.e n)=natD (E n):=by
 simp only [PE.ev]; cases E n <;> rfl
theorem natD_i {k:IntKind} {z:Int} (h:0≤z):natD (.i k z)=some z.toNat:=by simp [natD,h]
theorem evP_sb {fz:Bool} {a:A} {lo hi:Option A}:evP E (.sb fz a lo hi)=subD (ev E a) (lo.map (ev E)) (hi.map (ev E)):=rfl
theorem evP_ap {fl:Bool} {a b:A}:evP E (.ap fl a b)=appD fl (ev E a) (ev E b):=rfl
theorem evP_mk {d:D} {n c:A}:evP E (.mk d n c)=mkD d (ev E n) (ev E c):=rfl
def liD (xs:List D):Option D:=if xs.all D.one=true then some (.l xs) else none
theorem evP_li {s:Sh} {xs:List A}:evP E (.li s xs)=liD (xs.map (ev E)):=rfl
theorem evP_bs {a:A}:evP E (.bs a)=bsD (ev E a):=rfl
theorem evP_sy {a:A}:evP E (.sy a)=syD (ev E a):=rfl
def mxD:D→D→Option D | .i k x,.i k' y=>if k=k' then some (.i k (if y > x then y else x)) else none | _,_=>none
def mnD:D→D→Option D | .i k x,.i k' y=>if k=k' then some (.i k (if y<x then y else x)) else none | _,_=>none
def bgD (k:Nat) (l:List (D×Nat)):Option D:=if l.all (putB k)=true then some (.g (l.map (·.1))) else none
theorem evP_bg {k:Nat} {xs:List (A×Nat)}:evP E (.bg k xs)=bgD k (xs.map fun x=>(ev E x.1,x.2)):=by
 simp only [evP,bgD,List.map_map]; rfl
def bg2 (k:Nat):Bool→List (D×Nat)→List D→Option D
 | false,_,_=>none
 | true,[],r=>some (.g r)
 | true,x::l,r=>bg2 k (putB k x) l (r++[x.1])
theorem bgD_eq {k:Nat} {l:List (D×Nat)}:bgD k l=bg2 k true l []:=by
 have key:∀ (l:List (D×Nat)) (r:List D),bg2 k true l r=if l.all (putB k)=true then some (.g (r++l.map (·.1))) else none:=by
  intro l
  induction l with
  | nil=>intro r; simp [bg2]
  | cons x l ih=>
   intro r
   simp only [bg2]
   cases h:putB k x with
   | true=>rw [ih]; simp only [List.all_cons,h,Bool.true_and,List.map_cons,qaa,List.cons_append,List.nil_append]
   | false=>simp [h,bg2]
 rw [key]; simp [bgD]
theorem bg2_nil {k:Nat} {r:List D}:bg2 k true [] r=some (.g r):=rfl
theorem bg2_cons {k:Nat} {x:D×Nat} {l:List (D×Nat)} {r:List D}:bg2 k true (x::l) r=bg2 k (putB k x) l (r++[x.1]):=rfl
theorem putB_0 {d:D} {i:Nat}:putB 0 (d,i)=d.one:=by simp [putB]
theorem putB_i {k i:Nat} {q:IntKind} {n:Int}:putB k (.i q n,i)=true:=by
 simp only [putB,D.one,Bool.true_and,Bool.or_eq_true]; right; cases min i k <;> simp [depB,D.flat]
theorem putB_s {k i:Nat} {x:List Nat}:putB k (.s x,i)=true:=by
 simp only [putB,D.one,Bool.true_and,Bool.or_eq_true]; right; cases min i k <;> simp [depB,D.flat]
theorem putB_b {k i:Nat} {x:Bool}:putB k (.b x,i)=true:=by
 simp only [putB,D.one,Bool.true_and,Bool.or_eq_true]; right; cases min i k <;> simp [depB,D.flat]
theorem evP_bp {a:A}:evP E (.bp a)=bpD (ev E a):=rfl
theorem bpD_g {xs:List D}:bpD (.g xs)=some (.p xs):=rfl
def lenK:List D→Nat→Bool
 | [],0=>true
 | _::xs,k+1=>lenK xs k
 | _,_=>false
theorem lenK_eq:∀ {xs:List D} {k:Nat},lenK xs k=decide (xs.length=k)
 | [],0=>rfl
 | [],k+1=>rfl
 | _::xs,0=>rfl
 | _::xs,k+1=>by simp [lenK,lenK_eq (xs:=xs) (k:=k)]
theorem lenK_nil:lenK [] 0=true:=rfl
theorem lenK_cons {x:D} {xs:List D} {k:Nat}:lenK (x::xs) (k+1)=lenK xs k:=rfl
def allO:List D→Bool
 | []=>true
 | x::xs=>x.one&&allO xs
theorem allO_eq:∀ {xs:List D},allO xs=xs.all D.one
 | []=>rfl
 | x::xs=>by simp [allO,allO_eq (xs:=xs)]
theorem allO_nil:allO []=true:=rfl
theorem allO_cons {x:D} {xs:List D}:allO (x::xs)=(x.one&&allO xs):=rfl
def okQ {α:Type} (r:α):Bool→Option α
 | true=>some r
 | false=>none
theorem okQ_t {α:Type} {r:α}:okQ r true=some r:=rfl
theorem evP_gp {a:A} {k:Nat}:evP E (.gp a k)=gpD k (ev E a):=rfl
theorem gpD_p {xs:List D} {k:Nat}:gpD k (.p xs)=okQ (.g xs) (lenK xs k):=by
 rw [lenK_eq]; simp only [gpD]; by_cases h:xs.length=k <;> simp [h,okQ]
theorem evP_nz {w:Bool} {a:A}:evP E (.nz w a)=(nzD (ev E a)).map fun x=>.b (x == w):=rfl
theorem nzD_z:nzD .z=some true:=rfl
theorem nzD_p {xs:List D}:nzD (.p xs)=some false:=rfl
theorem evP_nn {a:A}:evP E (.nn a)=nnD (ev E a):=rfl
theorem nnD_p {xs:List D}:nnD (.p xs)=some (.p xs):=rfl
theorem evP_wl {k:Nat} {a:A}:evP E (.wl k a)=wlD k (ev E a):=rfl
theorem wlD_g {xs:List D} {k:Nat}:wlD k (.g xs)=okQ (.g xs) (lenK xs k&&allO xs):=by
 rw [lenK_eq,allO_eq]; simp only [wlD]
 by_cases h:xs.length=k <;> by_cases h2:xs.all D.one=true <;> simp [h,h2,okQ]
def wsD (d:D) (k:Nat) (x:D):Option D:=if lenG k d=true then wlD k x else none
theorem evP_ws {n k:Nat} {a:A}:evP E (.ws n k a)=wsD (E n) k (ev E a):=rfl
theorem wsD_g {ys xs:List D} {k:Nat}:wsD (.g ys) k (.g xs)=okQ (.g xs) (lenK ys k&&(lenK xs k&&allO xs)):=by
 simp only [wsD,lenG,wlD_g,lenK_eq]
 by_cases h:ys.length=k <;> simp [h,okQ]
theorem evP_gt {a:A} {p:List PE}:evP E (.gt a p)=pathD E p (ev E a):=rfl
theorem getP_g {i:Nat} {xs:List D}:getP [i] (.g xs)=xs[i]?:=by
 simp only [getP]; cases xs[i]? <;> rfl
theorem known_i {q:IntKind} {n:Int}:known (.i q n)=some (.i q n):=rfl
theorem known_b {x:Bool}:known (.b x)=some (.b x):=rfl
theorem known_s {x:List Nat}:known (.s x)=some (.s x):=rfl
theorem known_l {x:List D}:known (.l x)=some (.l x):=rfl
theorem known_p {x:List D}:known (.p x)=some (.p x):=rfl
theorem known_z:known .z=some .z:=rfl
def fpE (fl:Bool) (k:Nat) (d:D):Option D:=(fpD k d).bind fun d=>if fl=true then flatD d else some d
theorem evP_fp {fl:Bool} {a:A} {k:Nat}:evP E (.fp fl a k)=fpE fl k (ev E a):=rfl
def fpK (fl:Bool) (d:D):Option D:=(known d).bind fun d=>if fl=true then flatD d else some d
theorem fpE_p {fl:Bool} {k:Nat} {xs:List D}:fpE fl k (.p xs)=xs[k]?.bind (fpK fl):=by
 simp only [fpE,fpD]; cases xs[k]? <;> rfl
theorem fpK_f {d:D}:fpK false d=known d:=by simp [fpK]
theorem fpK_ti {q:IntKind} {n:Int}:fpK true (.i q n)=some (.i q n):=rfl
theorem fpK_ts {x:List Nat}:fpK true (.s x)=some (.s x):=rfl
theorem fpK_tb {x:Bool}:fpK true (.b x)=some (.b x):=rfl
theorem setP_g {i:Nat} {xs:List D} {x:D}:setP [i] (.g xs) x=xs[i]?.map fun _=>.g (xs.set i x):=by
 simp only [setP]; cases xs[i]? <;> rfl
def uqD (is:Option (List Nat)) (d x:D) (i k:Nat):Option D:=if putB k (x,i)=true then is.bind fun is=>setP is d x else none
theorem evP_jn {n k:Nat} {p:List PE} {a:A}:evP E (.jn n p a k)=jnD (p.mapM (PE.ev E)) (E n) (ev E a) k:=rfl
theorem evP_cb {n:Nat}:evP E (.cb n)=cbD (E n):=rfl
theorem cbD_g {x:D} {xs:List D}:cbD (.g (x::xs))=some .u:=rfl
theorem evP_uq {n:Nat} {p:List PE} {a:A} {i k:Nat}:evP E (.uq n p a i k)=uqD (p.mapM (PE.ev E)) (E n) (ev E a) i k:=rfl
theorem one_l {xs:List D}:(D.l xs).one=true:=rfl
theorem one_p {xs:List D}:(D.p xs).one=true:=rfl
theorem one_z:D.z.one=true:=rfl
theorem ixL_0 {x:D} {xs:List D}:(x::xs)[0]?=some x:=rfl
theorem ixL_s {x:D} {xs:List D} {n:Nat}:(x::xs)[n+1]?=xs[n]?:=by simp
theorem evP_mx {a b:A}:evP E (.mx a b)=mxD (ev E a) (ev E b):=by
 simp only [evP]; cases ev E a <;> cases ev E b <;> rfl
theorem evP_mn {a b:A}:evP E (.mn a b)=mnD (ev E a) (ev E b):=by
 simp only [evP]; cases ev E a <;> cases ev E b <;> rfl
theorem mxD_n {k:IntKind} {x y:Int}:mxD (.i k x) (.i k y)=some (.i k (max x y)):=by
 simp only [mxD,if_true]; congr 2; omega
theorem mnD_n {k:IntKind} {x y:Int}:mnD (.i k x) (.i k y)=some (.i k (min x y)):=by
 simp only [mnD,if_true]; congr 2; omega
end
theorem E_nil (n:Nat):Env.E [] n=.u:=rfl
theorem E_zero (d:D) (e:Env):Env.E (d::e) 0=d:=rfl
theorem E_succ (d:D) (e:Env) (n:Nat):Env.E (d::e) (n+1)=Env.E e n:=by simp [Env.E]
theorem outE_nil {e:Env}:outE [] e=[]:=rfl
theorem outE_some {n:Nat} {o:List (Option Nat)} {e:Env}:outE (some n::o) e=e.E n::outE o e:=rfl
theorem outE_none {o:List (Option Nat)} {e:Env}:outE (none::o) e=.u::outE o e:=rfl
section
variable {k:IntKind} {a b:Int}
theorem bin_add:binD .add (.i k a) (.i k b)=some (.i k (k.wrap (a+b))):=by simp [binD,intD]
theorem bin_sub:binD .sub (.i k a) (.i k b)=some (.i k (k.wrap (a-b))):=by simp [binD,intD]
theorem bin_mul:binD .mul (.i k a) (.i k b)=some (.i k (k.wrap (a*b))):=by simp [binD,intD]
theorem bin_quo (h:b≠0):binD .quo (.i k a) (.i k b)=some (.i k (k.wrap (a.tdiv b))):=by simp [binD,intD,h]
theorem bin_rem (h:b≠0):binD .rem (.i k a) (.i k b)=some (.i k (a.tmod b)):=by simp [binD,intD,h]
theorem bin_eql:binD .eql (.i k a) (.i k b)=some (.b (decide (a=b))):=by simp [binD,intD]; rfl
theorem bin_neq:binD .neq (.i k a) (.i k b)=some (.b (!decide (a=b))):=by
 simp only [binD,intD,if_true]; congr 2
theorem bin_lss:binD .lss (.i k a) (.i k b)=some (.b (decide (a<b))):=by simp [binD,intD]
theorem bin_leq:binD .leq (.i k a) (.i k b)=some (.b (decide (a≤b))):=by simp [binD,intD]
theorem bin_gtr:binD .gtr (.i k a) (.i k b)=some (.b (decide (b<a))):=by simp [binD,intD]
theorem bin_geq:binD .geq (.i k a) (.i k b)=some (.b (decide (b≤a))):=by simp [binD,intD]
theorem un_not {p:Bool}:unD .not (.b p)=some (.b (!p)):=rfl
theorem un_neg:unD .neg (.i k a)=some (.i k (k.wrap (0-a))):=rfl
theorem boolD_eql {p q:Bool}:boolD .eql (.b p) (.b q)=some (.b (p == q)):=rfl
theorem boolD_neq {p q:Bool}:boolD .neq (.b p) (.b q)=some (.b (!(p == q))):=rfl
theorem str_eql {x y:List Nat}:binD .eql (.s x) (.s y)=some (.b (x == y)):=rfl
theorem str_neq {x y:List Nat}:binD .neq (.s x) (.s y)=some (.b (!(x == y))):=rfl
theorem str_add {x y:List Nat} (h:x.length+y.length≤1099511627776):binD .add (.s x) (.s y)=some (.s (x++y)):=by
 show strD .add x y=_; simp only [strD]; rw [if_pos (show x.length+y.length≤big from h)]
end
theorem wrap_i64 {x:Int} (h:-9223372036854775808≤x∧x≤9223372036854775807):IntKind.i64.wrap x=x:=by
 obtain ⟨h1,h2⟩:=h
 have e:x % (2 ^ 64:Int)=x % 18446744073709551616:=rfl
 by_cases h0:0≤x
 ·have h3:x % 18446744073709551616=x:=Int.emod_eq_of_lt h0 (by omega)
  simp [IntKind.wrap,IntKind.bits,IntKind.signed,h3]; omega
 ·have h3:x % 18446744073709551616=x+18446744073709551616:=by omega
  simp [IntKind.wrap,IntKind.bits,IntKind.signed,h3]; omega
theorem wrap_u8 {x:Int} (h:0≤x∧x≤255):IntKind.u8.wrap x=x:=by
 obtain ⟨h1,h2⟩:=h
 have h3:x % 256=x:=Int.emod_eq_of_lt h1 (by omega)
 simp [IntKind.wrap,IntKind.bits,IntKind.signed,h3]
end Go.Cat
namespace Go.Cat
def LI (zs:List Int):D:=.l (zs.map D.n)
def LS (ss:List (List Nat)):D:=.l (ss.map D.s)
def LB (bs:List Nat):D:=.l (bs.map D.y)
def LT (bs:List Bool):D:=.l (bs.map D.b)
def LL (rs:List (List Int)):D:=.l (rs.map LI)
def atI (zs:List Int) (i:Int):Int:=zs.getD i.toNat 0
def atS (ss:List (List Nat)) (i:Int):List Nat:=ss.getD i.toNat []
def atB (bs:List Nat) (i:Int):Nat:=bs.getD i.toNat 0
def atT (bs:List Bool) (i:Int):Bool:=bs.getD i.toNat false
def atL (rs:List (List Int)) (i:Int):List Int:=rs.getD i.toNat []
def seI (zs:List Int) (i:Int) (x:Int):List Int:=zs.set i.toNat x
def seS (zs:List (List Nat)) (i:Int) (x:List Nat):List (List Nat):=zs.set i.toNat x
def seT (zs:List Bool) (i:Int) (x:Bool):List Bool:=zs.set i.toNat x
def seL (zs:List (List Int)) (i:Int) (x:List Int):List (List Int):=zs.set i.toNat x
def rep {α:Type} (n:Int) (x:α):List α:=List.replicate n.toNat x
def sub {α:Type} (xs:List α) (i j:Int):List α:=(xs.take j.toNat).drop i.toNat
section
variable {α:Type} (f:α→D) (df:α)
theorem ix_map {zs:List α} {k:IntKind} {i:Int} (hf:∀ a,(f a).isU=false) (h0:0≤i) (h1:i<zs.length):ixD (.l (zs.map f)) (.i k i)=some (f (zs.getD i.toNat df)):=by
 have h2:i.toNat<zs.length:=by omega
 simp [ixD,h0,h2,known,hf]
theorem get_map {zs:List α} {i:Nat} (h1:i<zs.length):getP [i] (.l (zs.map f))=some (f (zs.getD i df)):=by
 simp [getP,h1]
theorem set_map {zs:List α} {i:Nat} {x:α} (h1:i<zs.length):setP [i] (.l (zs.map f)) (f x)=some (.l ((zs.set i x).map f)):=by
 simp [setP,h1,List.map_set]
theorem sub_map {zs:List α} {lo hi:Option D} {l h:Nat} (hl:bound lo 0=some l) (hh:bound hi zs.length=some h) (h1:l≤h) (h2:h≤zs.length):subD (.l (zs.map f)) lo hi=some (.l (((zs.take h).drop l).map f)):=by
 simp [subD,hl,hh,h1,h2,List.map_take,List.map_drop]
theorem app_map {fl:Bool} {xs ys:List α} (hf:∀ a,(f a).one=true∧(fl=true→(f a).flat=true)) (h:xs.length+ys.length≤big):appD fl (.l (xs.map f)) (.l (ys.map f))=some (.l ((xs++ys).map f)):=by
 have h2:(ys.map f).all (if fl=true then D.flat else D.one)=true:=by
  cases fl with
  | true=>simpa using fun a _=>(hf a).2 rfl
  | false=>simpa using fun a _=>(hf a).1
 simp only [appD,List.length_map]
 rw [if_pos ⟨h,h2⟩,List.map_append]
end
theorem bound_none {d:Nat}:bound none d=some d:=rfl
theorem bound_some {k:IntKind} {n:Int} {d:Nat} (h:0≤n):bound (some (.i k n)) d=some n.toNat:=by simp [bound,h]
section
variable {zs ys:List Int} {i j x:Int} {k:IntKind}
theorem LI_len:lenD (LI zs)=some (.n zs.length):=by simp [lenD,LI]
theorem LI_ix (h:0≤i∧i<zs.length):ixD (LI zs) (.i k i)=some (.n (atI zs i)):=ix_map D.n 0 (fun _=>rfl) h.1 h.2
theorem flat_i:flatD (.i k x)=some (.i k x):=rfl
theorem LI_set (h:0≤i∧i<zs.length):setP [i.toNat] (LI zs) (.n x)=some (LI (seI zs i x)):=set_map D.n (by omega)
theorem LI_sub (h:0≤i∧i≤j∧j≤zs.length):subD (LI zs) (some (.n i)) (some (.n j))=some (LI (sub zs i j)):=
 sub_map D.n (bound_some h.1) (bound_some (by omega)) (by omega) (by omega)
theorem LI_to (h:0≤j∧j≤zs.length):subD (LI zs) none (some (.n j))=some (LI (sub zs 0 j)):=sub_map D.n bound_none (bound_some (by omega)) (by omega) (by omega)
theorem LI_from (h:0≤i∧i≤zs.length):subD (LI zs) (some (.n i)) none=some (LI (sub zs i zs.length)):=by
 rw [LI,sub_map D.n (bound_some h.1) bound_none (by omega) (by omega)]; rfl
theorem LI_app {fl:Bool} (h:zs.length+ys.length≤1099511627776):appD fl (LI zs) (LI ys)=some (LI (zs++ys)):=app_map D.n (fun _=>⟨rfl,fun _=>rfl⟩) h
theorem LI_mk {n m:Int} (h:0≤n∧n≤m∧m≤1099511627776):mkD (.n x) (.n n) (.n m)=some (LI (rep n x)):=by
 simp only [mkD,LI,rep]; rw [if_pos (show 0≤n∧n≤m∧m≤(big:Int) from h)]; simp
theorem LI_nil:D.l []=LI []:=rfl
theorem li_nil:liD []=some (.l []):=rfl
theorem li_1 {a:Int}:liD [.n a]=some (LI [a]):=rfl
theorem li_2 {a b:Int}:liD [.n a,.n b]=some (LI [a,b]):=rfl
theorem li_3 {a b c:Int}:liD [.n a,.n b,.n c]=some (LI [a,b,c]):=rfl
theorem one_i:(D.i k x).one=true:=rfl
theorem LI_one:(LI zs).one=true:=rfl
end
section
variable {s u:List Nat} {ss ts:List (List Nat)} {i j:Int} {k:IntKind}
theorem S_len:snD (.s s)=some (.n s.length):=rfl
theorem S_ix (h:0≤i∧i<s.length):sxD (.s s) (.i k i)=some (.y (atB s i)):=by
 have h2:i.toNat<s.length:=by omega
 simp [sxD,h.1,h2,atB]
theorem S_sub (h:0≤i∧i≤j∧j≤s.length):ssD (.s s) (some (.n i)) (some (.n j))=some (.s (sub s i j)):=by
 simp only [ssD,bound_some h.1,bound_some (show 0≤j by omega)]; rw [if_pos (by omega)]; rfl
theorem S_to (h:0≤j∧j≤s.length):ssD (.s s) none (some (.n j))=some (.s (sub s 0 j)):=by
 simp only [ssD,bound_none,bound_some h.1]; rw [if_pos (by omega)]; rfl
theorem S_from (h:0≤i∧i≤s.length):ssD (.s s) (some (.n i)) none=some (.s (sub s i s.length)):=by
 simp only [ssD,bound_none,bound_some h.1]; rw [if_pos (by omega)]; rfl
theorem LS_len:lenD (LS ss)=some (.n ss.length):=by simp [lenD,LS]
theorem LS_ix (h:0≤i∧i<ss.length):ixD (LS ss) (.i k i)=some (.s (atS ss i)):=ix_map D.s [] (fun _=>rfl) h.1 h.2
theorem flat_s:flatD (.s s)=some (.s s):=rfl
theorem LS_set (h:0≤i∧i<ss.length):setP [i.toNat] (LS ss) (.s s)=some (LS (seS ss i s)):=set_map D.s (by omega)
theorem LS_sub (h:0≤i∧i≤j∧j≤ss.length):subD (LS ss) (some (.n i)) (some (.n j))=some (LS (sub ss i j)):=
 sub_map D.s (bound_some h.1) (bound_some (by omega)) (by omega) (by omega)
theorem LS_app {fl:Bool} (h:ss.length+ts.length≤1099511627776):appD fl (LS ss) (LS ts)=some (LS (ss++ts)):=app_map D.s (fun _=>⟨rfl,fun _=>rfl⟩) h
theorem LS_mk {n m:Int} (h:0≤n∧n≤m∧m≤1099511627776):mkD (.s s) (.n n) (.n m)=some (LS (rep n s)):=by
 simp only [mkD,LS,rep]; rw [if_pos (show 0≤n∧n≤m∧m≤(big:Int) from h)]; simp
theorem ls_1 {a:List Nat}:liD [.s a]=some (LS [a]):=rfl
theorem one_s:(D.s s).one=true:=rfl
end
section
variable {bs cs:List Nat} {i j:Int} {k:IntKind} {c:Nat}
theorem LB_len:lenD (LB bs)=some (.n bs.length):=by simp [lenD,LB]
theorem LB_ix (h:0≤i∧i<bs.length):ixD (LB bs) (.i k i)=some (.y (atB bs i)):=ix_map D.y 0 (fun _=>rfl) h.1 h.2
theorem LB_app {fl:Bool} (h:bs.length+cs.length≤1099511627776):appD fl (LB bs) (LB cs)=some (LB (bs++cs)):=app_map D.y (fun _=>⟨rfl,fun _=>rfl⟩) h
theorem lb_1:liD [.y c]=some (LB [c]):=rfl
theorem lb_1i {x:Int} (h:0≤x):liD [.i .u8 x]=some (LB [x.toNat]):=by
 have:x=(x.toNat:Int):=by omega
 rw [this]; rfl
theorem LB_bs1 {x:Nat} (h:x<256):bsD (LB [x])=some (.s [x]):=by
 have h2:((x:Int))<256:=by omega
 simp [bsD,LB,bytesOf,h2]
theorem LB_sy (h:bs.length≤1099511627776):syD (.s bs)=some (LB bs):=by simp only [syD]; rw [if_pos (show bs.length≤big from h)]; rfl
end
section
variable {bs cs:List Bool} {i j:Int} {k:IntKind} {c:Bool}
theorem LT_len:lenD (LT bs)=some (.n bs.length):=by simp [lenD,LT]
theorem LT_ix (h:0≤i∧i<bs.length):ixD (LT bs) (.i k i)=some (.b (atT bs i)):=ix_map D.b false (fun _=>rfl) h.1 h.2
theorem flat_b:flatD (.b c)=some (.b c):=rfl
theorem LT_set (h:0≤i∧i<bs.length):setP [i.toNat] (LT bs) (.b c)=some (LT (seT bs i c)):=set_map D.b (by omega)
theorem LT_mk {n m:Int} (h:0≤n∧n≤m∧m≤1099511627776):mkD (.b c) (.n n) (.n m)=some (LT (rep n c)):=by
 simp only [mkD,LT,rep]; rw [if_pos (show 0≤n∧n≤m∧m≤(big:Int) from h)]; simp
theorem one_b:(D.b c).one=true:=rfl
end
section
variable {rs qs:List (List Int)} {r:List Int} {i j x:Int} {k:IntKind}
theorem LL_len:lenD (LL rs)=some (.n rs.length):=by simp [lenD,LL]
theorem LL_ix (h:0≤i∧i<rs.length):ixD (LL rs) (.i k i)=some (LI (atL rs i)):=ix_map LI [] (fun _=>rfl) h.1 h.2
theorem LL_get (h:0≤i∧i<rs.length):getP [i.toNat] (LL rs)=some (LI (atL rs i)):=get_map LI [] (by omega)
theorem LL_set (h:0≤i∧i<rs.length):setP [i.toNat] (LL rs) (LI r)=some (LL (seL rs i r)):=set_map LI (by omega)
theorem LL_set2 (h:0≤i∧i<rs.length∧0≤j∧j<(atL rs i).length):setP [i.toNat,j.toNat] (LL rs) (.n x)=some (LL (seL rs i (seI (atL rs i) j x))):=by
 obtain ⟨h0,h1,h2,h3⟩:=h
 have h4:i.toNat<rs.length:=by omega
 have h5:j.toNat<(atL rs i).length:=by omega
 have e:rs[i.toNat]=atL rs i:=by simp [atL,qgd,h4]
 have:=set_map D.n (x:=x) h5
 have e1:setP [i.toNat,j.toNat] (LL rs) (.n x)=(setP [j.toNat] (LI (atL rs i)) (.n x)).map fun x'=>.l ((rs.map LI).set i.toNat x'):=by
  refine (show _=((rs.map LI)[i.toNat]?.bind fun y=>setP [j.toNat] y (.n x)).map _ from rfl).trans ?_
  rw [List.getElem?_map,qge h4,Option.map_some,Option.bind_some,e]
 rw [e1,LI,this]
 simp [LL,seL,List.map_set,seI,LI]
theorem LL_app {fl:Bool} (h:rs.length+qs.length≤1099511627776∧fl=false):appD fl (LL rs) (LL qs)=some (LL (rs++qs)):=app_map LI (fun _=>⟨rfl,fun e=>by rw [h.2] at e; cases e⟩) h.1
theorem LL_sub (h:0≤i∧i≤j∧j≤rs.length):subD (LL rs) (some (.n i)) (some (.n j))=some (LL (sub rs i j)):=
 sub_map LI (bound_some h.1) (bound_some (by omega)) (by omega) (by omega)
theorem LL_from (h:0≤i∧i≤rs.length):subD (LL rs) (some (.n i)) none=some (LL (sub rs i rs.length)):=by
 rw [LL,sub_map LI (bound_some h.1) bound_none (by omega) (by omega)]; rfl
theorem ll_1:liD [LI r]=some (LL [r]):=rfl
end
theorem up_i {is:List Nat} {d:D} {k:IntKind} {n:Int}:upD (some is) d (.i k n)=setP is d (.i k n):=rfl
theorem up_s {is:List Nat} {d:D} {u:List Nat}:upD (some is) d (.s u)=setP is d (.s u):=rfl
theorem up_b {is:List Nat} {d:D} {u:Bool}:upD (some is) d (.b u)=setP is d (.b u):=rfl
theorem up_dl {is:List Nat} {d:D} {u:List D}:upD (some is) d (.l u)=setP is d (.l u):=rfl
theorem up_ls {is:List Nat} {d:D} {u:List (List Nat)}:upD (some is) d (LS u)=setP is d (LS u):=rfl
theorem up_lr {is:List Nat} {d:D} {u:List (List Int)}:upD (some is) d (LL u)=setP is d (LL u):=rfl
theorem dep_i {k:Nat} {x:List Int}:depB (k+1) (LI x)=true:=by
 simp only [depB,LI,Bool.or_eq_true,qat]
 right
 intro d hd
 obtain ⟨y,_,rfl⟩:=List.mem_map.1 hd
 cases k <;> simp [depB,D.flat]
theorem dep_s {k:Nat} {x:List (List Nat)}:depB (k+1) (LS x)=true:=by
 simp only [depB,LS,Bool.or_eq_true,qat]
 right
 intro d hd
 obtain ⟨y,_,rfl⟩:=List.mem_map.1 hd
 cases k <;> simp [depB,D.flat]
theorem dep_r {k:Nat} {x:List (List Int)}:depB (k+2) (LL x)=true:=by
 show ((D.l (x.map LI)).flat || (x.map LI).all (depB (k+1)))=true
 simp only [Bool.or_eq_true,qat]
 right
 intro d hd
 obtain ⟨y,_,rfl⟩:=List.mem_map.1 hd
 exact dep_i
theorem dep_i1 {x:List Int}:depB 1 (LI x)=true:=dep_i
theorem dep_s1 {x:List (List Nat)}:depB 1 (LS x)=true:=dep_s
theorem dep_r2 {x:List (List Int)}:depB 2 (LL x)=true:=dep_r
theorem jn_i {is:Option (List Nat)} {d:D} {x:List Int}:jnD is d (LI x) 1=is.bind fun is=>setP is d (LI x):=by unfold jnD; rw [dep_i1]; rfl
theorem jn_s {is:Option (List Nat)} {d:D} {x:List (List Nat)}:jnD is d (LS x) 1=is.bind fun is=>setP is d (LS x):=by unfold jnD; rw [dep_s1]; rfl
theorem jn_r {is:Option (List Nat)} {d:D} {x:List (List Int)}:jnD is d (LL x) 2=is.bind fun is=>setP is d (LL x):=by unfold jnD; rw [dep_r2]; rfl
def holL (rs:List (List Int)) (i:Int):D:=.l ((rs.map LI).set i.toNat .u)
theorem sp_ll {rs:List (List Int)} {i:Int} (h:0≤i∧i<rs.length):spD 1 (LL rs) (some [i.toNat])=some (LI (atL rs i),holL rs i):=by
 have h2:i.toNat<rs.length:=by omega
 simp [spD,LL,getP,setP,h2,dep_i1,atL,holL]
theorem jn_ll {rs:List (List Int)} {i:Int} {x:List Int} (h:0≤i∧i<rs.length):setP [i.toNat] (holL rs i) (LI x)=some (LL (seL rs i x)):=by
 have h2:i.toNat<rs.length:=by omega
 simp [holL,setP,h2,LL,seL]
theorem up_l {is:List Nat} {d:D} {u:List Int}:upD (some is) d (LI u)=setP is d (LI u):=rfl
theorem tmod_p {a b:Int} (h:0≤a):a.tmod b=a % b:=Int.tmod_eq_emod_of_nonneg h
theorem tdiv_p {a b:Int} (h:0≤a):a.tdiv b=a / b:=Int.tdiv_eq_ediv_of_nonneg h
theorem vl:(∀ {α:Type} {a:α} {l:List α},(a::l).length=l.length+1)∧(∀ {α:Type},([]:List α).length=0)∧(∀ {α:Type} {a b:List α},(a++b).length=a.length+b.length)∧
  (∀ {zs:List Int} {i x:Int},(seI zs i x).length=zs.length)∧(∀ {zs:List (List Nat)} {i:Int} {x:List Nat},(seS zs i x).length=zs.length)∧(∀ {zs:List Bool} {i:Int} {x:Bool},(seT zs i x).length=zs.length)∧
  (∀ {zs:List (List Int)} {i:Int} {x:List Int},(seL zs i x).length=zs.length)∧(∀ {α:Type} {xs:List α} {i j:Int},(sub xs i j).length=min j.toNat xs.length-i.toNat)∧(∀ {α:Type} {n:Int} {y:α},(rep n y).length=n.toNat)∧
  (∀ {α β:Type} {f:α→β} {l:List α},(l.map f).length=l.length)∧(∀ {α:Type} {l:List α} {n:Nat},(l.take n).length=min n l.length)∧(∀ {α:Type} {l:List α} {n:Nat},(l.drop n).length=l.length-n)∧(∀ {α:Type} {l:List α},l.reverse.length=l.length):=
 ⟨qlc,qln,qla,by simp [seI],by simp [seS],by simp [seT],by simp [seL],by simp [sub],by simp [rep],List.length_map _,List.length_take,List.length_drop,List.length_reverse⟩
theorem beq_b {p:Bool}:(p == p)=true:=by simp
theorem beq_s {x:List Nat}:(x == x)=true:=by simp
theorem atI_set {zs:List Int} {i j:Nat} {x:Int} (hi:i<zs.length):atI (seI zs i x) j=if i=j then x else atI zs j:=by
 simp only [atI,seI,qtn,qgd,List.getElem?_set]
 split
 ·rename_i h; subst h; simp
 ·rfl
theorem atS_set {zs:List (List Nat)} {i j:Nat} {x:List Nat} (hi:i<zs.length):atS (seS zs i x) j=if i=j then x else atS zs j:=by
 simp only [atS,seS,qtn,qgd,List.getElem?_set]
 split
 ·rename_i h; subst h; simp
 ·rfl
theorem atT_set {zs:List Bool} {i j:Nat} {x:Bool} (hi:i<zs.length):atT (seT zs i x) j=if i=j then x else atT zs j:=by
 simp only [atT,seT,qtn,qgd,List.getElem?_set]
 split
 ·rename_i h; subst h; simp
 ·rfl
theorem extI {a b:List Int} (hl:a.length=b.length) (h:∀ j:Nat,j<a.length→atI a j=atI b j):a=b:=by
 apply List.ext_getElem hl
 intro j h1 h2
 have:=h j h1
 simpa [atI,h1,h2] using this
theorem extS {a b:List (List Nat)} (hl:a.length=b.length) (h:∀ j:Nat,j<a.length→atS a j=atS b j):a=b:=by
 apply List.ext_getElem hl
 intro j h1 h2
 have:=h j h1
 simpa [atS,h1,h2] using this
theorem rep_len {α:Type} {n:Int} {y:α}:(rep n y).length=n.toNat:=by simp [rep]
section
variable {zs:List Int} {i j x:Int}
theorem seI_len:(seI zs i x).length=zs.length:=by simp [seI]
theorem seS_len {ss:List (List Nat)} {s:List Nat}:(seS ss i s).length=ss.length:=by simp [seS]
theorem seT_len {ss:List Bool} {s:Bool}:(seT ss i s).length=ss.length:=by simp [seT]
theorem seL_len {ss:List (List Int)} {s:List Int}:(seL ss i s).length=ss.length:=by simp [seL]
theorem sub_len {α:Type} {xs:List α}:(sub xs i j).length=min j.toNat xs.length-i.toNat:=by simp [sub]
end
theorem call_by {K:Nat→List D→List D→Prop} {g:Nat} {ds:List D} {r:Nat} {e:Env} {Q:Env→Prop} {rs:List D} (h:K g ds rs) (hl:rs.length=r) (hq:Q (e++rs)):calQ K g ds r e Q:=⟨rs,h,hl,hq⟩
theorem dropB {w:List Nat} {i:Nat} (h:i<w.length):w.drop i=atB w i::w.drop (i+1):=by
 rw [List.drop_eq_getElem_cons h]
 simp [atB,h]
theorem D2 {a b c d:D} (h:a=c) (h2:b=d):[a,b]=[c,d]:=by rw [h,h2]
theorem D1 {a b:D} (h:a=b):[a]=[b]:=by rw [h]
theorem Db {p q:Bool} (h:p=q):[D.b p]=[D.b q]:=by rw [h]
theorem Dn {k:IntKind} {p q:Int} (h:p=q):[D.i k p]=[D.i k q]:=by rw [h]
theorem Dl {p q:List Int} (h:p=q):[LI p]=[LI q]:=by rw [h]
theorem all_s {i:Nat} {p:Nat→Prop} (h:∀ j,j<i→p j) (h2:p i):∀ j,j<i+1→p j:=by
 intro j hj
 rcases qlg j i with q | q
 ·exact h j q
 ·obtain rfl:j=i:=by omega
  exact h2
def MP {α:Type} (f:α→D) (m:List (List Nat×α)):D:=.g (m.map fun x=>.g [.s x.1,f x.2])
def MI (m:List (List Nat×Int)):D:=MP D.n m
def MS (m:List (List Nat×List Nat)):D:=MP D.s m
def getK {α:Type} (k:List Nat):List (List Nat×α)→Option α
 | []=>none
 | (j,v)::m=>if k=j then some v else getK k m
def putK {α:Type} (k:List Nat) (v:α):List (List Nat×α)→List (List Nat×α)
 | []=>[(k,v)]
 | (j,x)::m=>if k=j then (k,v)::m else (j,x)::putK k v m
theorem getM_map {α:Type} {f:α→D} {k:List Nat}:∀ m:List (List Nat×α),getM k (m.map fun x=>.g [.s x.1,f x.2])=(getK k m).map f
 | []=>rfl
 | (j,v)::m=>by
  simp only [List.map_cons,getM,getK]
  split
  ·rfl
  ·exact getM_map m
theorem putM_map {α:Type} {f:α→D} {k:List Nat} {v:α}:∀ m:List (List Nat×α),putM k (f v) (m.map fun x=>.g [.s x.1,f x.2])=(putK k v m).map fun x=>.g [.s x.1,f x.2]
 | []=>rfl
 | (j,x)::m=>by
  simp only [List.map_cons,putM,putK]
  split
  ·rfl
  ·rw [putM_map m]; rfl
section
variable {k:List Nat} {m:List (List Nat×Int)} {ms:List (List Nat×List Nat)} {v d:Int} {s e:List Nat}
theorem muI:muD (MI m) (.s k) (.n v)=some (MI (putK k v m)):=by
 simp only [MI,MP,muD,D.flat,if_true]; rw [putM_map]
theorem muS:muD (MS ms) (.s k) (.s s)=some (MS (putK k s ms)):=by
 simp only [MS,MP,muD,D.flat,if_true]; rw [putM_map]
theorem muI0:muD (.g []) (.s k) (.n v)=some (MI [(k,v)]):=rfl
theorem muS0:muD (.g []) (.s k) (.s s)=some (MS [(k,s)]):=rfl
theorem mgI:mgD (.n d) (MI m) (.s k)=some (.n ((getK k m).getD d)):=by
 simp only [MI,MP,mgD]; rw [getM_map]; cases getK k m <;> rfl
theorem mgS:mgD (.s e) (MS ms) (.s k)=some (.s ((getK k ms).getD e)):=by
 simp only [MS,MP,mgD]; rw [getM_map]; cases getK k ms <;> rfl
theorem moI:moD (.n d) (MI m) (.s k)=some (.n ((getK k m).getD d),.b (getK k m).isSome):=by
 simp only [MI,MP,moD]; rw [getM_map]; cases getK k m <;> rfl
theorem moS:moD (.s e) (MS ms) (.s k)=some (.s ((getK k ms).getD e),.b (getK k ms).isSome):=by
 simp only [MS,MP,moD]; rw [getM_map]; cases getK k ms <;> rfl
end
def lpQ (R:Env→Prop) (Q:X→Env→Prop):X→Env→Prop
 | .n,e=>R e
 | .ex j,e=>Q (.ex j) e
 | .r,e=>Q .r e
theorem lpQ_n {R:Env→Prop} {Q:X→Env→Prop} {e:Env}:lpQ R Q .n e=R e:=rfl
theorem lpQ_ex {R:Env→Prop} {Q:X→Env→Prop} {e:Env} {j:Nat}:lpQ R Q (.ex j) e=Q (.ex j) e:=rfl
theorem lpQ_r {R:Env→Prop} {Q:X→Env→Prop} {e:Env}:lpQ R Q .r e=Q .r e:=rfl
theorem loop_wh {K:Nat→List D→List D→Prop} {b:S} {Q:X→Env→Prop} {e:Env} {σ:Type} (I:σ→Prop) (mk:σ→Env) (m:σ→Nat) (s0:σ) (h0:I s0) (he:e=mk s0)
  (step:∀ s,I s→wpS K b (lpQ (fun e'=>∃ s',m s' < m s∧I s'∧e'=mk s') Q) (mk s)):wpS K (.loop b) Q e:=by
 refine loop_by (fun n e=>∃ s,n=m s∧I s∧e=mk s) (m s0) ⟨s0,rfl,h0,he⟩ ?_
 rintro _ _ ⟨s,rfl,hI,rfl⟩
 refine wpS_mono b (fun x e h=>?_) (step s hI)
 cases x with
 | n=>obtain ⟨s',h1,h2,h3⟩:=h; exact ⟨m s',h1,s',rfl,h2,h3⟩
 | ex j=>exact h
 | r=>exact h
theorem loop_up {K:Nat→List D→List D→Prop} {b:S} {Q:X→Env→Prop} {e:Env} {σ:Type} (P:Nat→σ→Prop) (mk:Nat→σ→Env) (n:Nat) (s0:σ) (h0:P 0 s0) (he:e=mk 0 s0)
  (step:∀ i s,i<n→P i s→wpS K b (lpQ (fun e'=>∃ s',P (i+1) s'∧e'=mk (i+1) s') Q) (mk i s))
  (last:∀ s,P n s→wpS K b (lpQ (fun _=>False) Q) (mk n s)):wpS K (.loop b) Q e:=by
 refine loop_wh (fun (x:Nat×σ)=>x.1≤n∧P x.1 x.2) (fun x=>mk x.1 x.2) (fun x=>n-x.1) (0,s0) ⟨Nat.zero_le _,h0⟩ he ?_
 rintro ⟨i,s⟩ ⟨hi,hP⟩
 rcases qlg i n with hlt | hge
 ·refine wpS_mono b (fun x e h=>?_) (step i s hlt hP)
  cases x with
  | n=>obtain ⟨s',h1,h2⟩:=h; exact ⟨(i+1,s'),by show n-(i+1)<n-i; omega,⟨hlt,h1⟩,h2⟩
  | ex j=>exact h
  | r=>exact h
 ·obtain rfl:i=n:=Nat.le_antisymm hi hge
  refine wpS_mono b (fun x e h=>?_) (last s hP)
  cases x with
  | n=>exact h.elim
  | ex j=>exact h
  | r=>exact h
theorem loop_ix {K:Nat→List D→List D→Prop} {b:S} {Q:X→Env→Prop} {e:Env} (P:Nat→Prop) (mk:Nat→Env) (n:Nat) (h0:P 0) (he:e=mk 0)
  (step:∀ i,i<n→P i→wpS K b (lpQ (fun e'=>P (i+1)∧e'=mk (i+1)) Q) (mk i))
  (last:P n→wpS K b (lpQ (fun _=>False) Q) (mk n)):wpS K (.loop b) Q e:=by
 refine loop_up (fun i (_:Unit)=>P i) (fun i _=>mk i) n () h0 he (fun i _ hi hP=>?_) (fun _ h=>last h)
 refine wpS_mono b (fun x e h=>?_) (step i hi hP)
 cases x with
 | n=>exact ⟨(),h.1,h.2⟩
 | ex j=>exact h
 | r=>exact h
theorem body_by {K:Nat→List D→List D→Prop} {k:Nat} {f:IF} [h:Has K k f] {ds rs:List D} (hl:ds.length=f.np) (hb:wpS K f.body (endQ f.res rs) (ds++List.replicate (f.nv-f.np) .u)) (hc:cellsOK f.cl rs=true:=by rfl):K k ds rs:=by
 refine h.h ds rs ⟨⟨hl,hc⟩,?_⟩
 refine wpS_mono _ (fun x e h=>?_) hb
 cases x with
 | ex _=>exact h.elim
 | n=>exact ⟨trivial,h⟩
 | r=>exact ⟨trivial,h⟩
section
variable {K:Nat→List D→List D→Prop}
theorem wpPr_ex {p:Pr} {e:Env} {Q:Env→Prop} (h:wpPr K p e Q):∃ e',Q e'∧wpPr K p e (·=e'):=by
 unfold wpPr at*
 split at h
 ·exact ⟨_,h,rfl⟩
 ·obtain ⟨rs,h1,h2,h3⟩:=h
  exact ⟨_,h3,rs,h1,h2,rfl⟩
 ·obtain ⟨h0,rs,h1,h2,h3⟩:=h
  exact ⟨_,h3,h0,rs,h1,h2,rfl⟩
 ·split at h
  ·exact ⟨_,h,rfl⟩
  ·exact h.elim
 ·split at h
  ·exact ⟨_,h,rfl⟩
  ·exact h.elim
 ·split at h
  ·exact ⟨_,h,rfl⟩
  ·exact h.elim
 ·split at h
  ·exact ⟨_,h,rfl⟩
  ·exact h.elim
 ·split at h
  ·exact ⟨_,h,rfl⟩
  ·exact h.elim
theorem wpIts_ex:∀ {its:List It} {e:Env} {Q:Env→Prop} (_:wpIts K its e Q),∃ e',Q e'∧wpIts K its e (·=e')
 | [],e,Q,h=>⟨e,h,rfl⟩
 | it::its,e,Q,h=>by
  simp only [wpIts,wpIt] at*
  split at h
  ·rename_i hg
   obtain ⟨e1,h1,h2⟩:=wpPr_ex h
   obtain ⟨e2,h3,h4⟩:=wpIts_ex h1
   refine ⟨e2,h3,?_⟩
   exact wpPr_mono (fun e h=>by subst h; exact h4) h2
  ·obtain ⟨e2,h3,h4⟩:=wpIts_ex h
   exact ⟨e2,h3,h4⟩
  ·exact h.elim
theorem wpLoop_ex {R:(X→Env→Prop)→Env→Prop} (hm:∀ Q Q' e,(∀ x e,Q x e→Q' x e)→R Q e→R Q' e) (hR:∀ Q e,R Q e→∃ x' e',Q x' e'∧R (fun x e=>x=x'∧e=e') e):
  ∀ (n:Nat) {e:Env} {Q:X→Env→Prop} (_:wpLoop R n Q e),∃ x' e',Q x' e'∧wpLoop R n (fun x e=>x=x'∧e=e') e
 | 0,_,_,h=>h.elim
 | n+1,e,Q,h=>by
  simp only [wpLoop] at h
  obtain ⟨x1,e1,h1,h2⟩:=hR _ _ h
  cases x1 with
  | n=>
   obtain ⟨x2,e2,h3,h4⟩:=wpLoop_ex hm hR n h1
   refine ⟨x2,e2,h3,?_⟩
   simp only [wpLoop]
   exact hm _ _ _ (fun x e h=>by obtain ⟨rfl,rfl⟩:=h; exact h4) h2
  | ex j=>
   refine ⟨.ex j,e1,h1,?_⟩
   simp only [wpLoop]
   exact hm _ _ _ (fun x e h=>by obtain ⟨rfl,rfl⟩:=h; exact ⟨rfl,rfl⟩) h2
  | r=>
   refine ⟨.r,e1,h1,?_⟩
   simp only [wpLoop]
   exact hm _ _ _ (fun x e h=>by obtain ⟨rfl,rfl⟩:=h; exact ⟨rfl,rfl⟩) h2
theorem wpS_ex:∀ (s:S) {e:Env} {Q:X→Env→Prop} (_:wpS K s Q e),∃ x' e',Q x' e'∧wpS K s (fun x e=>x=x'∧e=e') e
 | .skip,e,Q,h=>⟨_,_,h,rfl,rfl⟩
 | .reg its out,e,Q,h=>by
  simp only [wpS] at h
  obtain ⟨e1,h1,h2⟩:=wpIts_ex h
  exact ⟨_,_,h1,wpIts_mono (fun e h=>by subst h; exact ⟨rfl,rfl⟩) h2⟩
 | .seq a b,e,Q,h=>by
  simp only [wpS] at h
  obtain ⟨x1,e1,h1,h2⟩:=wpS_ex a h
  cases x1 with
  | n=>
   obtain ⟨x2,e2,h3,h4⟩:=wpS_ex b h1
   refine ⟨x2,e2,h3,?_⟩
   simp only [wpS]
   exact wpS_mono a (fun x e h=>by obtain ⟨rfl,rfl⟩:=h; exact h4) h2
  | ex j=>
   refine ⟨.ex j,e1,h1,?_⟩
   simp only [wpS]
   exact wpS_mono a (fun x e h=>by obtain ⟨rfl,rfl⟩:=h; exact ⟨rfl,rfl⟩) h2
  | r=>
   refine ⟨.r,e1,h1,?_⟩
   simp only [wpS]
   exact wpS_mono a (fun x e h=>by obtain ⟨rfl,rfl⟩:=h; exact ⟨rfl,rfl⟩) h2
 | .cond n x y,e,Q,h=>by
  simp only [wpS] at*
  split at h
  ·exact wpS_ex x h
  ·exact wpS_ex y h
  ·exact h.elim
 | .block id b,e,Q,h=>by
  simp only [wpS] at h
  obtain ⟨x1,e1,h1,h2⟩:=wpS_ex b h
  cases x1 with
  | n=>
   refine ⟨.n,e1,h1,?_⟩
   simp only [wpS]
   exact wpS_mono b (fun x e h=>by obtain ⟨rfl,rfl⟩:=h; exact ⟨rfl,rfl⟩) h2
  | ex j=>
   simp only at h1
   split at h1
   ·rename_i hj
    refine ⟨.n,e1,h1,?_⟩
    simp only [wpS]
    exact wpS_mono b (fun x e h=>by obtain ⟨rfl,rfl⟩:=h; simp [hj]) h2
   ·rename_i hj
    refine ⟨.ex j,e1,h1,?_⟩
    simp only [wpS]
    exact wpS_mono b (fun x e h=>by obtain ⟨rfl,rfl⟩:=h; simp [hj]) h2
  | r=>
   refine ⟨.r,e1,h1,?_⟩
   simp only [wpS]
   exact wpS_mono b (fun x e h=>by obtain ⟨rfl,rfl⟩:=h; exact ⟨rfl,rfl⟩) h2
 | .loop b,e,Q,h=>by
  simp only [wpS] at h
  obtain ⟨n,h⟩:=h
  obtain ⟨x1,e1,h1,h2⟩:=wpLoop_ex (R:=wpS K b) (fun Q Q' e hQ h=>wpS_mono b hQ h) (fun Q e h=>wpS_ex b h) n h
  exact ⟨x1,e1,h1,n,h2⟩
 | .exit id,e,Q,h=>⟨_,_,h,rfl,rfl⟩
 | .ret,e,Q,h=>⟨_,_,h,rfl,rfl⟩
theorem body_ex {k:Nat} {f:IF} [h:Has K k f] {ds:List D} {P:List D→Prop} (hl:ds.length=f.np) (hb:wpS K f.body (exQ f.res P) (ds++List.replicate (f.nv-f.np) .u)) (hc:∀ rs,P rs→cellsOK f.cl rs=true:=by intros; rfl):∃ rs,P rs∧K k ds rs:=by
 obtain ⟨x,e,h1,h2⟩:=wpS_ex _ hb
 have h3:(∀ j,x≠.ex j)∧P (f.res.map e.E):=by
  cases x with
  | ex j=>exact h1.elim
  | n=>exact ⟨by simp,h1⟩
  | r=>exact ⟨by simp,h1⟩
 refine ⟨_,h3.2,h.h ds _ ⟨⟨hl,hc _ h3.2⟩,wpS_mono _ (fun x' e' h=>?_) h2⟩⟩
 obtain ⟨rfl,rfl⟩:=h
 cases x' with
 | ex j=>exact (h3.1 j rfl).elim
 | n=>exact ⟨trivial,rfl⟩
 | r=>exact ⟨trivial,rfl⟩
end
end Go.Cat
namespace Go.Cat
set_option maxRecDepth 10000
theorem vcL:
  (∀ {α:Type} {a:α} {as bs:List α},(a::as)++bs=a::(as++bs))∧
  (∀ {α:Type} {as:List α},[]++as=as)∧
  (∀ {α:Type} {as:List α},as++[]=as)∧
  (∀ {α β:Type} {f:α→β} {a:α} {l:List α},List.map f (a::l)=f a::List.map f l)∧
  (∀ {α β:Type} {f:α→β},List.map f []=[])∧
  (∀ {α:Type} {a b:α} {l:List α},(a::l).set 0 b=b::l)∧
  (∀ {α:Type} {a b:α} {l:List α} {n:Nat},(a::l).set (n+1) b=a::l.set n b)∧
  (∀ {α:Type} {a:α} {n:Nat},List.replicate (n+1) a=a::List.replicate n a)∧
  (∀ {α:Type} {a:α},List.replicate 0 a=[])∧
  (∀ {α β:Type} {f:α→Option β} {a:α},(some a).bind f=f a)∧
  (∀ {α β:Type} {f:α→β} {a:α},(some a).map f=some (f a))∧
  (∀ {α β:Type} {f:α→β},(none:Option α).map f=none)∧
  ((!true)=false)∧((!false)=true)∧(∀ {b:Bool},(!!b)=b)∧
  (∀ {α:Sort 1} {a b:α},(if True then a else b)=a)∧(∀ {α:Sort 1} {a b:α},(if False then a else b)=b)∧
  (∀ {b:Bool},(b&&true)=b)∧(∀ {b:Bool},(true&&b)=b)∧(∀ {b:Bool},(b&&false)=false)∧(∀ {b:Bool},(false&&b)=false)∧
  (∀ {b:Bool},(b || true)=true)∧(∀ {b:Bool},(true || b)=true)∧(∀ {b:Bool},(b || false)=b)∧(∀ {b:Bool},(false || b)=b)∧
  (∀ [Decidable True],decide True=true)∧(∀ [Decidable False],decide False=false)∧
  (∀ {i:Nat},((i+1:Nat):Int)=(i:Int)+1)∧(((0:Nat):Int)=0)∧
  (∀ {p:Prop},(p∧True)=p)∧(∀ {p:Prop},(True∧p)=p)∧
  (Pr.nop.np=0)∧(∀ {g:Nat} {xs:List A} {r:Nat},(Pr.ca g xs r).np=r):=
 ⟨List.cons_append,List.nil_append _,List.append_nil _,List.map_cons,List.map_nil,List.set_cons_zero,List.set_cons_succ,List.replicate_succ,List.replicate_zero,Option.bind_some _ _,Option.map_some _ _,Option.map_none _,
  rfl,rfl,Bool.not_not _,if_pos trivial,if_neg id,Bool.and_true _,Bool.true_and _,Bool.and_false _,Bool.false_and _,Bool.or_true _,Bool.true_or _,Bool.or_false _,Bool.false_or _,decide_eq_true trivial,decide_eq_false id,Int.natCast_succ _,rfl,and_true _,true_and _,rfl,rfl⟩
theorem vcN:
 (∀ {s:Sh} {d:D},(Pr.cs s d).np=1)∧
 (∀ {a:A},(Pr.cy a).np=1)∧
 (∀ {op:BinOp} {a b:A},(Pr.bi op a b).np=1)∧
 (∀ {op:BinOp} {a b:A},(Pr.bb op a b).np=1)∧
 (∀ {op:UnOp} {a:A},(Pr.un op a).np=1)∧
 (∀ {a b c:A},(Pr.pk a b c).np=1)∧
 (∀ {k:IntKind} {a:A},(Pr.cv k a).np=1)∧
 (∀ {a:A} {p:List PE},(Pr.ln a p).np=1)∧
 (∀ {a:A},(Pr.sn a).np=1)∧
 (∀ {a b:A},(Pr.sx a b).np=1)∧
 (∀ {a:A} {lo hi:Option A},(Pr.ss a lo hi).np=1)∧
 (∀ {a:A} {p:List PE} {b:A},(Pr.ix a p b).np=1)∧
 (∀ {n:Nat} {p:List PE} {a:A},(Pr.up n p a).np=1)∧
 (∀ {fz:Bool} {a:A} {lo hi:Option A},(Pr.sb fz a lo hi).np=1)∧
 (∀ {fl:Bool} {a b:A},(Pr.ap fl a b).np=1)∧
 (∀ {d:D} {a b:A},(Pr.mk d a b).np=1)∧
 (∀ {s:Sh} {xs:List A},(Pr.li s xs).np=1)∧
 (∀ {a:A},(Pr.bs a).np=1)∧
 (∀ {a:A},(Pr.sy a).np=1)∧
 (∀ {a b:A},(Pr.mx a b).np=1)∧
 (∀ {a b:A},(Pr.mn a b).np=1)∧
 (∀ {a b:A},(Pr.iy a b).np=1)∧
 (∀ {k:Nat} {xs:List (A×Nat)},(Pr.bg k xs).np=1)∧
 (∀ {a:A},(Pr.bp a).np=1)∧
 (∀ {a:A} {k:Nat},(Pr.gp a k).np=1)∧
 (∀ {w:Bool} {a:A},(Pr.nz w a).np=1)∧
 (∀ {a:A},(Pr.nn a).np=1)∧
 (∀ {k:Nat} {a:A},(Pr.wl k a).np=1)∧
 (∀ {n k:Nat} {a:A},(Pr.ws n k a).np=1)∧
 (∀ {a:A} {p:List PE},(Pr.gt a p).np=1)∧
 (∀ {fl:Bool} {a:A} {k:Nat},(Pr.fp fl a k).np=1)∧
 (∀ {n:Nat} {p:List PE} {a:A} {i k:Nat},(Pr.uq n p a i k).np=1)∧
 (∀ {n:Nat},(Pr.cb n).np=1)∧
 (∀ {n:Nat} {p:List PE} {a:A} {k:Nat},(Pr.jn n p a k).np=1)∧
 (Pr.mm.np=1)∧
 (∀ {n:Nat} {a b:A},(Pr.mu n a b).np=1)∧
 (∀ {n:Nat} {a:A} {d:D},(Pr.mg n a d).np=1)∧
 (∀ {n:Nat} {a:A} {d:D},(Pr.mo n a d).np=2)∧
 (∀ {n:Nat},(Pr.tk n).np=2)∧
 (∀ {n k:Nat} {p:List PE},(Pr.sp n p k).np=2)∧
 (∀ {n:Nat},(Pr.sw n).np=2):=
 ⟨rfl,rfl,rfl,rfl,rfl,rfl,rfl,rfl,rfl,rfl,rfl,rfl,rfl,rfl,rfl,rfl,rfl,rfl,rfl,rfl,rfl,rfl,rfl,rfl,rfl,rfl,rfl,rfl,rfl,rfl,rfl,rfl,rfl,rfl,rfl,rfl,rfl,rfl,rfl,rfl,rfl⟩
theorem vcO:
 (∀ {a b:Int},(a<b)→decide (a<b)=true)∧
 (∀ {a b:Int},(b≤a)→decide (a<b)=false)∧
 (∀ {a b:Int},(a≤b)→decide (a≤b)=true)∧
 (∀ {a b:Int},(b<a)→decide (a≤b)=false)∧
 (∀ {a b:Int},(a=b)→decide (a=b)=true)∧
 (∀ {a b:Int},(a<b∨b<a)→decide (a=b)=false):=
 ⟨decide_eq_true,fun h=>decide_eq_false (by omega),decide_eq_true,fun h=>decide_eq_false (by omega),decide_eq_true,fun h=>decide_eq_false (by omega)⟩
theorem vc0:type_of% (And.intro @wp_seq <| And.intro @wp_block <| And.intro @wp_skip <| And.intro @wp_exit <| And.intro @wp_ret <| And.intro @wp_reg <| And.intro @wp_cond <| And.intro @seqQ_n <| And.intro @seqQ_ex <| And.intro @seqQ_r <| And.intro @blkQ_n <| And.intro @blkQ_ex <| And.intro @blkQ_r <| And.intro @regQ_mk <| And.intro @itsQ_mk <| And.intro @valQ_some <| And.intro @cndQ_t <| And.intro @cndQ_f <| And.intro @lpQ_n <| @lpQ_ex):=And.intro @wp_seq <| And.intro @wp_block <| And.intro @wp_skip <| And.intro @wp_exit <| And.intro @wp_ret <| And.intro @wp_reg <| And.intro @wp_cond <| And.intro @seqQ_n <| And.intro @seqQ_ex <| And.intro @seqQ_r <| And.intro @blkQ_n <| And.intro @blkQ_ex <| And.intro @blkQ_r <| And.intro @regQ_mk <| And.intro @itsQ_mk <| And.intro @valQ_some <| And.intro @cndQ_t <| And.intro @cndQ_f <| And.intro @lpQ_n <| @lpQ_ex
theorem vc1:type_of% (And.intro @lpQ_r <| And.intro @endQ_n <| And.intro @endQ_r <| And.intro @exQ_n <| And.intro @exQ_r <| And.intro @wp_its_nil <| And.intro @wp_its_cons <| And.intro @wp_it <| And.intro @gdQ_t <| And.intro @gdQ_f <| And.intro @gdE_nil <| And.intro @gdE_cons <| And.intro @gdB_tt <| And.intro @gdB_ff <| And.intro @gdB_tf <| And.intro @gdB_ft <| And.intro @wp_pr_nop <| And.intro @wp_pr_ca <| And.intro @wp_pr_cd <| @fnQ_eq):=And.intro @lpQ_r <| And.intro @endQ_n <| And.intro @endQ_r <| And.intro @exQ_n <| And.intro @exQ_r <| And.intro @wp_its_nil <| And.intro @wp_its_cons <| And.intro @wp_it <| And.intro @gdQ_t <| And.intro @gdQ_f <| And.intro @gdE_nil <| And.intro @gdE_cons <| And.intro @gdB_tt <| And.intro @gdB_ff <| And.intro @gdB_tf <| And.intro @gdB_ft <| And.intro @wp_pr_nop <| And.intro @wp_pr_ca <| And.intro @wp_pr_cd <| @fnQ_eq
theorem vc2:type_of% (And.intro @wp_pr_tk <| And.intro @tkQ_g <| And.intro @wp_pr_sp <| And.intro @wp_pr_sw <| And.intro @wp_pr_mo <| And.intro @wp_pr_mm <| And.intro @wp_pr_mu <| And.intro @wp_pr_mg <| And.intro @wp_pr_jn <| And.intro @twoQ_s <| And.intro @wp_pr_cs <| And.intro @wp_pr_cy <| And.intro @wp_pr_bi <| And.intro @wp_pr_bb <| And.intro @wp_pr_un <| And.intro @wp_pr_pk <| And.intro @wp_pr_cv <| And.intro @wp_pr_ln <| And.intro @wp_pr_sn <| @wp_pr_sx):=And.intro @wp_pr_tk <| And.intro @tkQ_g <| And.intro @wp_pr_sp <| And.intro @wp_pr_sw <| And.intro @wp_pr_mo <| And.intro @wp_pr_mm <| And.intro @wp_pr_mu <| And.intro @wp_pr_mg <| And.intro @wp_pr_jn <| And.intro @twoQ_s <| And.intro @wp_pr_cs <| And.intro @wp_pr_cy <| And.intro @wp_pr_bi <| And.intro @wp_pr_bb <| And.intro @wp_pr_un <| And.intro @wp_pr_pk <| And.intro @wp_pr_cv <| And.intro @wp_pr_ln <| And.intro @wp_pr_sn <| @wp_pr_sx
theorem vc3:type_of% (And.intro @wp_pr_ss <| And.intro @wp_pr_ix <| And.intro @wp_pr_up <| And.intro @wp_pr_sb <| And.intro @wp_pr_ap <| And.intro @wp_pr_mk <| And.intro @wp_pr_li <| And.intro @wp_pr_bs <| And.intro @wp_pr_sy <| And.intro @wp_pr_mx <| And.intro @wp_pr_mn <| And.intro @wp_pr_iy <| And.intro @wp_pr_bg <| And.intro @wp_pr_bp <| And.intro @wp_pr_gp <| And.intro @wp_pr_nz <| And.intro @wp_pr_nn <| And.intro @wp_pr_wl <| And.intro @wp_pr_ws <| @wp_pr_gt):=And.intro @wp_pr_ss <| And.intro @wp_pr_ix <| And.intro @wp_pr_up <| And.intro @wp_pr_sb <| And.intro @wp_pr_ap <| And.intro @wp_pr_mk <| And.intro @wp_pr_li <| And.intro @wp_pr_bs <| And.intro @wp_pr_sy <| And.intro @wp_pr_mx <| And.intro @wp_pr_mn <| And.intro @wp_pr_iy <| And.intro @wp_pr_bg <| And.intro @wp_pr_bp <| And.intro @wp_pr_gp <| And.intro @wp_pr_nz <| And.intro @wp_pr_nn <| And.intro @wp_pr_wl <| And.intro @wp_pr_ws <| @wp_pr_gt
theorem vc4:type_of% (And.intro @wp_pr_fp <| And.intro @wp_pr_uq <| And.intro @wp_pr_cb <| And.intro @skE_z <| And.intro @skE_s <| And.intro @skE_n <| And.intro @evP_mm <| And.intro @evP_mu <| And.intro @evP_mg <| And.intro @ev_e <| And.intro @ev_c <| And.intro @evP_cs <| And.intro @evP_cy <| And.intro @evP_bin <| And.intro @evP_bbo <| And.intro @evP_uno <| And.intro @evP_pk <| And.intro @pkD_t <| And.intro @pkD_f <| @pkD_ff):=And.intro @wp_pr_fp <| And.intro @wp_pr_uq <| And.intro @wp_pr_cb <| And.intro @skE_z <| And.intro @skE_s <| And.intro @skE_n <| And.intro @evP_mm <| And.intro @evP_mu <| And.intro @evP_mg <| And.intro @ev_e <| And.intro @ev_c <| And.intro @evP_cs <| And.intro @evP_cy <| And.intro @evP_bin <| And.intro @evP_bbo <| And.intro @evP_uno <| And.intro @evP_pk <| And.intro @pkD_t <| And.intro @pkD_f <| @pkD_ff
theorem vc5:type_of% (And.intro @pkD_tt <| And.intro @evP_cv <| And.intro @cvD_i <| And.intro @evP_ln <| And.intro @pathD_nil <| And.intro @pathD_one <| And.intro @evP_sn <| And.intro @evP_sx <| And.intro @evP_ss <| And.intro @evP_ix <| And.intro @evP_ixp <| And.intro @evP_iy <| And.intro @evP_up <| And.intro @pes_one <| And.intro @pes_two <| And.intro @pe_k <| And.intro @pe_e <| And.intro @natD_i <| And.intro @evP_sb <| @evP_ap):=And.intro @pkD_tt <| And.intro @evP_cv <| And.intro @cvD_i <| And.intro @evP_ln <| And.intro @pathD_nil <| And.intro @pathD_one <| And.intro @evP_sn <| And.intro @evP_sx <| And.intro @evP_ss <| And.intro @evP_ix <| And.intro @evP_ixp <| And.intro @evP_iy <| And.intro @evP_up <| And.intro @pes_one <| And.intro @pes_two <| And.intro @pe_k <| And.intro @pe_e <| And.intro @natD_i <| And.intro @evP_sb <| @evP_ap
theorem vc6:type_of% (And.intro @evP_mk <| And.intro @evP_li <| And.intro @evP_bs <| And.intro @evP_sy <| And.intro @evP_mx <| And.intro @evP_mn <| And.intro @mxD_n <| And.intro @mnD_n <| And.intro @E_nil <| And.intro @E_zero <| And.intro @E_succ <| And.intro @outE_nil <| And.intro @outE_some <| And.intro @outE_none <| And.intro @bin_add <| And.intro @bin_sub <| And.intro @bin_mul <| And.intro @bin_quo <| And.intro @bin_rem <| @bin_eql):=And.intro @evP_mk <| And.intro @evP_li <| And.intro @evP_bs <| And.intro @evP_sy <| And.intro @evP_mx <| And.intro @evP_mn <| And.intro @mxD_n <| And.intro @mnD_n <| And.intro @E_nil <| And.intro @E_zero <| And.intro @E_succ <| And.intro @outE_nil <| And.intro @outE_some <| And.intro @outE_none <| And.intro @bin_add <| And.intro @bin_sub <| And.intro @bin_mul <| And.intro @bin_quo <| And.intro @bin_rem <| @bin_eql
theorem vc7:type_of% (And.intro @bin_neq <| And.intro @bin_lss <| And.intro @bin_leq <| And.intro @bin_gtr <| And.intro @bin_geq <| And.intro @un_not <| And.intro @un_neg <| And.intro @boolD_eql <| And.intro @boolD_neq <| And.intro @str_eql <| And.intro @str_neq <| And.intro @str_add <| And.intro @wrap_i64 <| And.intro @wrap_u8 <| And.intro @evP_bg <| And.intro @bgD_eq <| And.intro @bg2_nil <| And.intro @bg2_cons <| And.intro @putB_0 <| @putB_i):=And.intro @bin_neq <| And.intro @bin_lss <| And.intro @bin_leq <| And.intro @bin_gtr <| And.intro @bin_geq <| And.intro @un_not <| And.intro @un_neg <| And.intro @boolD_eql <| And.intro @boolD_neq <| And.intro @str_eql <| And.intro @str_neq <| And.intro @str_add <| And.intro @wrap_i64 <| And.intro @wrap_u8 <| And.intro @evP_bg <| And.intro @bgD_eq <| And.intro @bg2_nil <| And.intro @bg2_cons <| And.intro @putB_0 <| @putB_i
theorem vc8:type_of% (And.intro @putB_s <| And.intro @putB_b <| And.intro @evP_bp <| And.intro @bpD_g <| And.intro @lenK_nil <| And.intro @lenK_cons <| And.intro @allO_nil <| And.intro @allO_cons <| And.intro @okQ_t <| And.intro @evP_gp <| And.intro @gpD_p <| And.intro @evP_nz <| And.intro @nzD_z <| And.intro @nzD_p <| And.intro @evP_nn <| And.intro @nnD_p <| And.intro @evP_wl <| And.intro @wlD_g <| And.intro @evP_ws <| @wsD_g):=And.intro @putB_s <| And.intro @putB_b <| And.intro @evP_bp <| And.intro @bpD_g <| And.intro @lenK_nil <| And.intro @lenK_cons <| And.intro @allO_nil <| And.intro @allO_cons <| And.intro @okQ_t <| And.intro @evP_gp <| And.intro @gpD_p <| And.intro @evP_nz <| And.intro @nzD_z <| And.intro @nzD_p <| And.intro @evP_nn <| And.intro @nnD_p <| And.intro @evP_wl <| And.intro @wlD_g <| And.intro @evP_ws <| @wsD_g
theorem vc9:type_of% (And.intro @evP_gt <| And.intro @getP_g <| And.intro @known_i <| And.intro @known_b <| And.intro @known_s <| And.intro @known_l <| And.intro @known_p <| And.intro @known_z <| And.intro @evP_fp <| And.intro @fpE_p <| And.intro @fpK_f <| And.intro @fpK_ti <| And.intro @fpK_ts <| And.intro @fpK_tb <| And.intro @setP_g <| And.intro @evP_uq <| And.intro @evP_cb <| And.intro @cbD_g <| And.intro @evP_jn <| @swD_g):=And.intro @evP_gt <| And.intro @getP_g <| And.intro @known_i <| And.intro @known_b <| And.intro @known_s <| And.intro @known_l <| And.intro @known_p <| And.intro @known_z <| And.intro @evP_fp <| And.intro @fpE_p <| And.intro @fpK_f <| And.intro @fpK_ti <| And.intro @fpK_ts <| And.intro @fpK_tb <| And.intro @setP_g <| And.intro @evP_uq <| And.intro @evP_cb <| And.intro @cbD_g <| And.intro @evP_jn <| @swD_g
theorem vc10:type_of% (And.intro @spD_g <| And.intro @one_l <| And.intro @one_p <| And.intro @one_z <| And.intro @ixL_0 <| And.intro @ixL_s <| And.intro @muI <| And.intro @muS <| And.intro @muI0 <| And.intro @muS0 <| And.intro @mgI <| And.intro @mgS <| And.intro @moI <| And.intro @moS <| And.intro @LI_len <| And.intro @LI_ix <| And.intro @flat_i <| And.intro @LI_set <| And.intro @LI_sub <| @LI_to):=And.intro @spD_g <| And.intro @one_l <| And.intro @one_p <| And.intro @one_z <| And.intro @ixL_0 <| And.intro @ixL_s <| And.intro @muI <| And.intro @muS <| And.intro @muI0 <| And.intro @muS0 <| And.intro @mgI <| And.intro @mgS <| And.intro @moI <| And.intro @moS <| And.intro @LI_len <| And.intro @LI_ix <| And.intro @flat_i <| And.intro @LI_set <| And.intro @LI_sub <| @LI_to
theorem vc11:type_of% (And.intro @LI_from <| And.intro @LI_app <| And.intro @LI_mk <| And.intro @li_nil <| And.intro @li_1 <| And.intro @li_2 <| And.intro @li_3 <| And.intro @one_i <| And.intro @LI_one <| And.intro @S_len <| And.intro @S_ix <| And.intro @S_sub <| And.intro @S_to <| And.intro @S_from <| And.intro @LS_len <| And.intro @LS_ix <| And.intro @flat_s <| And.intro @LS_set <| And.intro @LS_sub <| @LS_app):=And.intro @LI_from <| And.intro @LI_app <| And.intro @LI_mk <| And.intro @li_nil <| And.intro @li_1 <| And.intro @li_2 <| And.intro @li_3 <| And.intro @one_i <| And.intro @LI_one <| And.intro @S_len <| And.intro @S_ix <| And.intro @S_sub <| And.intro @S_to <| And.intro @S_from <| And.intro @LS_len <| And.intro @LS_ix <| And.intro @flat_s <| And.intro @LS_set <| And.intro @LS_sub <| @LS_app
theorem vc12:type_of% (And.intro @LS_mk <| And.intro @ls_1 <| And.intro @one_s <| And.intro @LB_len <| And.intro @LB_ix <| And.intro @LB_app <| And.intro @lb_1 <| And.intro @LB_sy <| And.intro @LT_len <| And.intro @LT_ix <| And.intro @flat_b <| And.intro @LT_set <| And.intro @LT_mk <| And.intro @one_b <| And.intro @LL_len <| And.intro @LL_ix <| And.intro @LL_get <| And.intro @LL_set <| And.intro @LL_set2 <| @LL_app):=And.intro @LS_mk <| And.intro @ls_1 <| And.intro @one_s <| And.intro @LB_len <| And.intro @LB_ix <| And.intro @LB_app <| And.intro @lb_1 <| And.intro @LB_sy <| And.intro @LT_len <| And.intro @LT_ix <| And.intro @flat_b <| And.intro @LT_set <| And.intro @LT_mk <| And.intro @one_b <| And.intro @LL_len <| And.intro @LL_ix <| And.intro @LL_get <| And.intro @LL_set <| And.intro @LL_set2 <| @LL_app
theorem vc13:type_of% (And.intro @LL_sub <| And.intro @LL_from <| And.intro @ll_1 <| And.intro @up_i <| And.intro @up_s <| And.intro @up_b <| And.intro @up_l <| And.intro @up_dl <| And.intro @up_ls <| And.intro @up_lr <| And.intro @dep_i1 <| And.intro @dep_s1 <| And.intro @dep_r2 <| And.intro @jn_i <| And.intro @jn_s <| And.intro @jn_r <| And.intro @sp_ll <| And.intro @jn_ll <| And.intro @seI_len <| @seS_len):=And.intro @LL_sub <| And.intro @LL_from <| And.intro @ll_1 <| And.intro @up_i <| And.intro @up_s <| And.intro @up_b <| And.intro @up_l <| And.intro @up_dl <| And.intro @up_ls <| And.intro @up_lr <| And.intro @dep_i1 <| And.intro @dep_s1 <| And.intro @dep_r2 <| And.intro @jn_i <| And.intro @jn_s <| And.intro @jn_r <| And.intro @sp_ll <| And.intro @jn_ll <| And.intro @seI_len <| @seS_len
theorem vc14:type_of% (And.intro @seT_len <| And.intro @seL_len <| And.intro @sub_len <| And.intro @rep_len <| And.intro @beq_s <| And.intro @beq_b <| And.intro @tmod_p <| And.intro @tdiv_p <| And.intro @lb_1i <| @LB_bs1):=And.intro @seT_len <| And.intro @seL_len <| And.intro @sub_len <| And.intro @rep_len <| And.intro @beq_s <| And.intro @beq_b <| And.intro @tmod_p <| And.intro @tdiv_p <| And.intro @lb_1i <| @LB_bs1
theorem vc:type_of% (And.intro vcL <| And.intro vcN <| And.intro vc0 <| And.intro vc1 <| And.intro vc2 <| And.intro vc3 <| And.intro vc4 <| And.intro vc5 <| And.intro vc6 <| And.intro vc7 <| And.intro vc8 <| And.intro vc9 <| And.intro vc10 <| And.intro vc11 <| And.intro vc12 <| And.intro vc13 <| vc14):=And.intro vcL <| And.intro vcN <| And.intro vc0 <| And.intro vc1 <| And.intro vc2 <| And.intro vc3 <| And.intro vc4 <| And.intro vc5 <| And.intro vc6 <| And.intro vc7 <| And.intro vc8 <| And.intro vc9 <| And.intro vc10 <| And.intro vc11 <| And.intro vc12 <| And.intro vc13 <| vc14
theorem vcd:type_of% (And.intro vc vcO):=And.intro vc vcO
end Go.Cat
namespace Go.Cat
class HasV (K:Nat→List D→List D→Prop) (k:Nat) (f:IF):Prop where
 h:∀ ds rs,Body K f ds rs→K k ds rs
theorem body_byV {K:Nat→List D→List D→Prop} {k:Nat} {f:IF} [h:HasV K k f] {ds rs:List D} (hl:ds.length=f.np) (hb:wpS K f.body (endQ f.res rs) (ds++List.replicate (f.nv-f.np) .u)) (hc:cellsOK f.cl rs=true:=by rfl):K k ds rs:=
 haveI:Has K k f:=⟨h.h⟩
 body_by (f:=f) hl hb hc
end Go.Cat
namespace Go.Cat
open Go.ChangeShapes Go.WideShapes Go.ChangeAt Go.RowKit
section
variable {H:Type} {enc:TypeId×Value→H} {P:Program}
theorem post_below {f:Func} {s:ChangeSpec} {apart fresh handsOn again:Bool} {W W':World} {args:Array Value} {v:Value} {ds gs:List (DataW H)} {before pa pv:List MemPlace}
  (hW:DataW.Whole enc P f.params.toList s.vars apart W args.toList ds gs before)
  (hres:∀ (b:Nat) (sp:Nat→Bool) (hd:Bool),DataW.TrodAll enc P W' b sp hd f.resultTypes.toList (v.resultList f.resultTypes.size) (s.fn H (ds++gs)).results [])
  (hargs:∀ sp:Nat→Bool,(∀ p∈before,sp p.block=true)→DataW.TrodAll enc P W' 0 sp true f.params.toList args.toList (s.fn H (ds++gs)).args pa)
  (hvars:∀ sp:Nat→Bool,(∀ p∈before,sp p.block=true)→DataW.TrodVars enc P W' sp s.vars (s.fn H (ds++gs)).vars pv)
  (hps:before=pa++pv) (hb:Below W.heap.size W W')
  (hok:∀ (j:Nat) (t:TypeId) (r:Value),f.resultTypes[j]?=some t→(v.resultList f.resultTypes.size)[j]?=some r→Value.okWide P W' .any 0 t r):
  s.post enc P f apart fresh handsOn again W args v W':=by
 have hold:∀ p∈before,(fun b=>decide (b<W.heap.size)) p.block=true:=fun p hp=>by simpa using hW.lt p hp
 have hlt:=hW.lt
 refine ⟨ds,gs,before,[],pa,pv,hW,hres _ _ _,hargs _ hold,hvars _ hold,World.keptBut_mono (fun p hp=>⟨hp,?_⟩) (hb.frame (·∈before)),fun _=>?_⟩
 ·rw [hps,qma] at hp
  exact Or.inr hp
 ·obtain ⟨_,_,_,_,_,hz,hn⟩:=hW
  refine ⟨hok,_,_,([]++pa)++pv,⟨[]++pa,pv,trodAll_append (hargs _ (fun _ _=>rfl)) (hres _ _ _),hvars _ (fun _ _=>rfl),rfl,?_,?_⟩,?_⟩
  ·intro b off hp
   have hp':MemPlace.cell b off∈before:=by rw [hps]; simpa using hp
   rw [hb.frozen (p:=⟨b,off,none⟩) (by simpa [MemPlace.block] using hlt _ hp')]
   exact hz b off hp'
  ·intro ha
   have:=hn ha
   rw [hps] at this
   simpa using this
  ·intro p hp _
   rw [hps]
   simpa using hp
end
theorem con_bool {P:Program} {fid:Nat→Nat} {f:FuncId} {ps:List Sh} {ds:List D} (h:Con P fid f ⟨ps,[.v],[],none⟩ ds [.b true]) {w:World} {args:List Value}
  (ha:EachS (Own fid w.heap (·∈[]) (fun _=>False)) ps ds args []):Calls P f args.toArray w fun e w'=>e=.returned (.bool true)∧Below w.heap.size w w':=by
 refine (h w (fun _=>False) args [] (by simp) (by simp) ha trivial).mono ?_
 rintro e w' ⟨v,vs,B',rfl,ht,_,hA,h1,h2,h3,_,_,hE⟩
 simp only [Sg.outs,List.map_nil,List.append_nil] at hE
 refine ⟨?_,h1,h2,h3,hA.size,fun k hk=>hA.same k hk (by simp)⟩
 match vs,hE with
 | [x],hE=>
  simp only [EachS,Own,Rd] at hE
  obtain ⟨B1,B2,rfl,⟨_,hx⟩,_⟩:=hE
  simp only [tupled] at ht
  rw [ht,hx]
theorem con_row {P:Program} {tab:List Row} {k:Nat} {r:Row} {ds:List D} (h:KS P tab k ds [.b true]) (hr:rowOf tab k=some r) (hq:r.s.qs=[.v]) (hio:r.s.io=[]) (hfb:r.s.fb=none):Con P (fidOf tab) r.f ⟨r.s.ps,[.v],[],none⟩ ds [.b true]:=by
 obtain ⟨r',h1,h2⟩:=h
 rw [hr] at h1
 cases h1
 rw [← hq,← hio,← hfb]
 exact h2
def Plain:D→Value→Prop
 | .i k n,v=>v=.int k n
 | .b x,v=>v=.bool x
 | .s x,v=>v=strV x∧(∀ c∈x,c<256)∧x.length≤9223372036854775807
 | _,_=>False
end Go.Cat
namespace Go.Cat
open Go.ChangeShapes Go.WideShapes Go.ChangeAt Go.RowKit
section
variable {H:Type} {enc:TypeId×Value→H} {P:Program}
theorem trodAll_stays (hl:laidOutB P=true) {W W':World} (hb:Below W.heap.size W W') {sp:Nat→Bool}:∀ {ts:List TypeId} {vs:List Value} {ds:List (DataW H)} {ps:List MemPlace},
  (∀ t∈ts,P.readableRec t=true∧t<P.types.size)→DataW.TrodAll enc P W 0 (fun _=>true) true ts vs ds ps→(∀ p∈ps,sp p.block=true)→(∀ p∈ps,p.block<W.heap.size)→DataW.TrodAll enc P W' 0 sp true ts vs ds ps
 | [],vs,ds,ps=>fun _ h _ _=>by
  obtain ⟨rfl,rfl,rfl⟩:=trodAll_nil h
  exact trodAll_mk0
 | t::ts,vs,ds,ps=>fun hr h hs hlt=>by
  obtain ⟨v,vs',d,ds',p,q,rfl,rfl,rfl,h1,h2⟩:=trodAll_cons h
  refine trodAll_cons_mk ?_ (trodAll_stays hl hb (fun u hu=>hr u (qmc _ hu)) h2 (fun x hx=>hs x (qar _ hx)) fun x hx=>hlt x (qar _ hx))
  obtain ⟨r1,r2⟩:=hr t (List.mem_cons_self ..)
  exact WideElems.Trod_stays hl r1 r2 h1 (fun x hx=>hb.same (hlt x (qal _ hx))) fun x hx=>hs x (qal _ hx)
end
theorem eachY_cons {fid:Nat→Nat} {h:Array Obj} {ps:List Sh} {ds:List D} {vs:List Value} {d:D} {v:Value} (hr:Rd fid h (·∈([]:List Nat)) d v)
  (ht:EachS (Own fid h (·∈([]:List Nat)) (fun _=>False)) ps ds vs []):EachS (Own fid h (·∈([]:List Nat)) (fun _=>False)) (.y::ps) (d::ds) (v::vs) []:=by
 simp only [EachS]
 exact ⟨[],[],rfl,by simp only [Own]; exact ⟨trivial,hr⟩,ht⟩
theorem each_nil {fid:Nat→Nat} {h:Array Obj}:EachS (Own fid h (·∈([]:List Nat)) (fun _=>False)) [] [] [] []:=rfl
end Go.Cat
namespace Go.Cat
open Go.ChangeShapes Go.WideShapes Go.ChangeAt Go.RowKit
section
variable {H:Type} {enc:TypeId×Value→H} {P:Program} {W:World}
def RdA (W:World) (d:D) (v:Value):Prop:=∀ (fid:Nat→Nat) (Z:Nat→Prop),(∀ b,¬ Z b)→Rd fid W.heap Z d v
theorem RdLA {W:World} {fid:Nat→Nat} {Z:Nat→Prop} (hZ:∀ b,¬ Z b) {Q:D→Prop} {hs:Array Value}:∀ (len off:Nat),(∀ i,i<len→∃ u d,hs[off+i]?=some u∧Q d∧RdA W d u)→
  ∃ ds:List D,ds.length=len∧(∀ d∈ds,Q d)∧∀ i,i<len→∃ u d,hs[off+i]?=some u∧ds[i]?=some d∧RdA W d u
 | 0,off,_=>⟨[],rfl,by simp,by simp⟩
 | len+1,off,h=>by
  obtain ⟨ds,h1,h2,h3⟩:=RdLA (fid:=fid) hZ len off fun i hi=>h i (by omega)
  obtain ⟨u,d,k1,k2,k3⟩:=h len (by omega)
  refine ⟨ds++[d],by simp [h1],?_,fun i hi=>?_⟩
  ·intro x hx
   rcases qma.1 hx with hx | hx
   ·exact h2 x hx
   ·simp only [List.mem_singleton] at hx; subst hx; exact k2
  ·rcases qlg i len with q | q
   ·obtain ⟨u',d',q1,q2,q3⟩:=h3 i q
    exact ⟨u',d',q1,by rw [qgl (by omega)]; exact q2,q3⟩
   ·have:i=len:=by omega
    subst this
    exact ⟨u,d,k1,by rw [qgr (by omega)]; simp [h1],k3⟩
theorem RdL_of {W:World} {fid:Nat→Nat} {Z:Nat→Prop} (hZ:∀ b,¬ Z b) {hs:Array Value}:∀ (ds:List D) (off:Nat),(∀ i,i<ds.length→∃ u d,hs[off+i]?=some u∧ds[i]?=some d∧RdA W d u)→RdL fid W.heap Z ds (hs.toList.drop off)
 | [],_,_=>by simp [RdL]
 | d::ds,off,h=>by
  obtain ⟨u,d',h1,h2,h3⟩:=h 0 (by simp)
  simp at h2
  subst h2
  simp only [Nat.add_zero] at h1
  have:hs.toList.drop off=u::hs.toList.drop (off+1):=by
   rw [List.drop_eq_getElem_cons (by have:=(Array.getElem?_eq_some_iff.1 h1).1; simpa using this)]
   congr 1
   have:=(Array.getElem?_eq_some_iff.1 h1).2
   simpa using this
  rw [this]
  simp only [RdL]
  refine ⟨h3 fid Z hZ,RdL_of hZ ds (off+1) fun i hi=>?_⟩
  obtain ⟨u',d',q1,q2,q3⟩:=h (i+1) (by simpa using hi)
  exact ⟨u',d',by rw [← q1]; congr 1; omega,by simpa using q2,q3⟩
theorem trod_row {t e:TypeId} {fuel:Nat} {cs:List Value} {x:DataW H×List MemPlace} {Q:D→Prop} (ht:P.underlying t=some (.slice e)) (hc:P.cellsOf e=1)
  (h:DataW.trod enc P W 0 (fun _=>true) true fuel t cs=some x)
  (hel:∀ (n:Nat) (u:Value) (y:DataW H×List MemPlace),DataW.trod enc P W 0 (fun _=>true) true n e [u]=some y→∃ d,Q d∧RdA W d u):
  ∃ v ds,cs=[v]∧(∀ d∈ds,Q d)∧ds.length≤9223372036854775807∧RdA W (.l ds) v:=by
 rcases DataW.trod_slice ht h with ⟨rfl,_⟩ | ⟨a,len,cap,elems,rest,n,_,rfl,_,hb,hl,hm,hlen,helem,hrest,_⟩
 ·exact ⟨_,[],rfl,by simp,by simp,fun fid Z _=>by simp [Rd]⟩
 ·rw [hc] at helem hrest
  have hcell:∀ (ad:Addr) (y:DataW H×List MemPlace),(W.cells? 0 ad 1).bind (DataW.trod enc P W 0 (fun _=>true) true n e)=some y→∃ u,W.cell? ad=some u∧DataW.trod enc P W 0 (fun _=>true) true n e [u]=some y:=by
   intro ad y hy
   obtain ⟨us,h1,h2⟩:=qbs.1 hy
   unfold World.cells? at h1
   simp only [Nat.zero_le,if_true] at h1
   have:(List.range 1)=[0]:=rfl
   rw [this] at h1
   simp only [List.mapM_cons,List.mapM_nil,Option.bind_eq_bind,qbs,Option.pure_def,qsj] at h1
   obtain ⟨u,h3,_,rfl,rfl⟩:=h1
   refine ⟨u,?_,h2⟩
   simpa [Addr.add] using h3
  have hcl:len≤9223372036854775807:=by unfold maxLen at hm; omega
  by_cases h0:cap=0
  ·subst h0
   have:len=0:=by omega
   subst this
   exact ⟨_,[],rfl,by simp,by simp,fun fid Z _=>by simp [Rd]⟩
  · -- its block
   have hfirst:∃ u,W.cell? a=some u:=by
    by_cases hl0:len=0
    ·obtain ⟨q1,q2⟩:=hrest rfl
     have hq:=q2 0 (by omega)
     have:∃ y,rest[0]?=some y:=⟨rest[0]'(by omega),by simp⟩
     obtain ⟨y,hy⟩:=this
     rw [hy] at hq
     obtain ⟨u,hu,_⟩:=hcell _ _ hq
     exact ⟨u,by simpa [hl0,Addr.add] using hu⟩
    ·have hq:=helem 0 (by omega)
     have:∃ y,elems[0]?=some y:=⟨elems[0]'(by omega),by simp⟩
     obtain ⟨y,hy⟩:=this
     rw [hy] at hq
     obtain ⟨u,hu,_⟩:=hcell _ _ hq
     exact ⟨u,by simpa [Addr.add] using hu⟩
   obtain ⟨u0,hu0⟩:=hfirst
   obtain ⟨b,off,hab,hs,e',fz,hbk⟩:∃ b off,a=⟨b,off,none⟩∧∃ hs e' fz,W.heap[b]?=some (.cells hs e' fz):=by
    unfold World.cell? at hu0
    split at hu0
    ·rename_i hs e' fz hbk
     split at hu0
     ·cases hu0
     ·rename_i hsp
      refine ⟨a.block,a.off,?_,hs,e',fz,hbk⟩
      cases a
      simp only [Option.isSome_iff_ne_none,ne_eq,Decidable.not_not] at hsp
      rw [hsp]
    ·cases hu0
   subst hab
   have hat:∀ i,i<len→∃ u d,hs[off+i]?=some u∧Q d∧RdA W d u:=by
    intro i hi
    have hq:=helem i hi
    have:∃ y,elems[i]?=some y:=⟨elems[i]'(by omega),by simp⟩
    obtain ⟨y,hy⟩:=this
    rw [hy] at hq
    obtain ⟨u,hu,hy2⟩:=hcell _ _ hq
    obtain ⟨d,q1,q2⟩:=hel n u y hy2
    refine ⟨u,d,?_,q1,q2⟩
    rw [Nat.mul_one,Addr.add_lit] at hu
    simpa [World.cell?,hbk] using hu
   obtain ⟨ds,d1,d2,d3⟩:=RdLA (fid:=fun _=>0) (Z:=fun _=>False) (W:=W) (fun _ q=>q) (Q:=Q) (hs:=hs) len off hat
   refine ⟨_,ds,rfl,d2,by omega,fun fid Z hZ=>?_⟩
   simp only [Rd]
   refine .inr ⟨b,off,cap,hs,e',fz,by rw [d1],hbk,hZ b,RdL_of hZ ds off (by rw [d1]; exact d3),by omega,by omega⟩
theorem map_of {α:Type} {f:α→D} {Q:α→Prop}:∀ {ds:List D},(∀ d∈ds,∃ x,d=f x∧Q x)→∃ xs:List α,ds=xs.map f∧∀ x∈xs,Q x
 | [],_=>⟨[],rfl,by simp⟩
 | d::ds,h=>by
  obtain ⟨x,rfl,hx⟩:=h d (List.mem_cons_self ..)
  obtain ⟨xs,rfl,hxs⟩:=map_of (ds:=ds) fun d hd=>h d (qmc _ hd)
  refine ⟨x::xs,rfl,fun y hy=>?_⟩
  rcases qmn.1 hy with rfl | hy
  ·exact hx
  ·exact hxs y hy
theorem el_int {e:TypeId} (he:P.underlying e=some (.int .i64)) (n:Nat) (u:Value) (y:DataW H×List MemPlace) (h:DataW.trod enc P W 0 (fun _=>true) true n e [u]=some y):∃ d,(∃ x:Int,d=D.n x∧True)∧RdA W d u:=by
 obtain ⟨k,h1,_⟩:=DataW.trod_int he h
 injection h1 with h1
 subst h1
 exact ⟨_,⟨k,rfl,trivial⟩,fun fid Z _=>by simp [Rd]⟩
theorem el_str {e:TypeId} (he:P.underlying e=some .string) (n:Nat) (u:Value) (y:DataW H×List MemPlace) (h:DataW.trod enc P W 0 (fun _=>true) true n e [u]=some y):
  ∃ d,(∃ x:List Nat,d=D.s x∧x.length≤9223372036854775807)∧RdA W d u:=by
 obtain ⟨s,h1,_,hs⟩:=DataW.trod_string he h
 injection h1 with h1
 subst h1
 have hb:∀ c∈s.data.toList.map (·.toNat),c<256:=by
  intro c hc
  simp only [List.mem_map] at hc
  obtain ⟨x,_,rfl⟩:=hc
  exact x.toNat_lt
 have hl:(s.data.toList.map (·.toNat)).length≤9223372036854775807:=by
  unfold maxLen at hs
  simp only [List.length_map,Array.length_toList]
  have:s.data.size=s.size:=rfl
  omega
 refine ⟨_,⟨s.data.toList.map (·.toNat),rfl,hl⟩,fun fid Z _=>?_⟩
 simp only [Rd]
 refine ⟨?_,hb,hl⟩
 unfold strV
 congr 1
 apply ByteArray.ext
 simp only [List.map_map]
 apply Array.ext'
 have:((fun c=>UInt8.ofNat c) ∘ fun x:UInt8=>x.toNat)=id:=by funext x; simp
 simp [this]
theorem row_ints {t e:TypeId} {fuel:Nat} {cs:List Value} {x:DataW H×List MemPlace} (ht:P.underlying t=some (.slice e)) (he:P.underlying e=some (.int .i64)) (hc:P.cellsOf e=1)
  (h:DataW.trod enc P W 0 (fun _=>true) true fuel t cs=some x):∃ v xs,cs=[v]∧xs.length≤9223372036854775807∧RdA W (LI xs) v:=by
 obtain ⟨v,ds,h1,h2,h3,h4⟩:=trod_row (Q:=fun d=>∃ x:Int,d=D.n x∧True) ht hc h (el_int he)
 obtain ⟨xs,rfl,_⟩:=map_of h2
 exact ⟨v,xs,h1,by simpa using h3,h4⟩
theorem row_strs {t e:TypeId} {fuel:Nat} {cs:List Value} {x:DataW H×List MemPlace} (ht:P.underlying t=some (.slice e)) (he:P.underlying e=some .string) (hc:P.cellsOf e=1)
  (h:DataW.trod enc P W 0 (fun _=>true) true fuel t cs=some x):∃ v xs,cs=[v]∧xs.length≤9223372036854775807∧(∀ x∈xs,x.length≤9223372036854775807)∧RdA W (LS xs) v:=by
 obtain ⟨v,ds,h1,h2,h3,h4⟩:=trod_row (Q:=fun d=>∃ x:List Nat,d=D.s x∧x.length≤9223372036854775807) ht hc h (el_str he)
 obtain ⟨xs,rfl,hx⟩:=map_of h2
 exact ⟨v,xs,h1,by simpa using h3,hx,h4⟩
theorem row_rows {t r e:TypeId} {fuel:Nat} {cs:List Value} {x:DataW H×List MemPlace} (ht:P.underlying t=some (.slice r)) (hr:P.underlying r=some (.slice e)) (he:P.underlying e=some (.int .i64)) (hc:P.cellsOf e=1) (hc2:P.cellsOf r=1)
  (h:DataW.trod enc P W 0 (fun _=>true) true fuel t cs=some x):∃ v xs,cs=[v]∧xs.length≤9223372036854775807∧(∀ x∈xs,x.length≤9223372036854775807)∧RdA W (LL xs) v:=by
 obtain ⟨v,ds,h1,h2,h3,h4⟩:=trod_row (Q:=fun d=>∃ x:List Int,d=LI x∧x.length≤9223372036854775807) ht hc2 h (fun n u y hy=>by
  obtain ⟨v,xs,q1,q2,q3⟩:=row_ints hr he hc hy
  injection q1 with q1
  subst q1
  exact ⟨_,⟨xs,rfl,q2⟩,q3⟩)
 obtain ⟨xs,rfl,hx⟩:=map_of h2
 exact ⟨v,xs,h1,by simpa using h3,hx,h4⟩
theorem arg_claim {base:Nat} {t ti ts tss tis tiss:TypeId} {fs:Array Field} {v:Value} {d:DataW H} {ps:List MemPlace} (ht:P.underlying t=some (.struct fs))
  (hf:fs.toList.map (fun f=>(f.type,f.offset))=[(ti,0),(ts,1),(ts,2),(tss,3),(tis,4),(tis,5),(tiss,6)])
  (hti:P.underlying ti=some (.int .i64)) (hts:P.underlying ts=some .string) (htss:P.underlying tss=some (.slice ts)) (htis:P.underlying tis=some (.slice ti)) (htiss:P.underlying tiss=some (.slice tis))
  (hc:P.cellsOf t=7) (c1:P.cellsOf ti=1) (c2:P.cellsOf ts=1) (c3:P.cellsOf tss=1) (c4:P.cellsOf tis=1) (c5:P.cellsOf tiss=1)
  (hval:Value.okWide P W .any base t v) (h:DataW.Trod enc P W 0 (fun _=>true) true t v d ps):
  ∃ (k:Int) (f s:List Nat) (tt:List (List Nat)) (n o:List Int) (r:List (List Int)),(f.length≤9223372036854775807∧s.length≤9223372036854775807∧tt.length≤9223372036854775807∧(∀ x∈tt,x.length≤9223372036854775807)∧
   n.length≤9223372036854775807∧o.length≤9223372036854775807∧r.length≤9223372036854775807∧(∀ x∈r,x.length≤9223372036854775807))∧
   RdA W (.g [.n k,.s f,.s s,LS tt,LI n,LI o,LL r]) v:=by
 obtain ⟨fuel,hd⟩:=h
 simp only [Value.okWide,ht] at hval
 obtain ⟨cs,rfl,hsz,_⟩:=hval
 have hcc:(Value.agg cs).cells.toList=cs.toList:=rfl
 rw [hcc] at hd
 obtain ⟨xs,n0,_,_,hl,hxl,hfld⟩:=DataW.trod_struct ht hd
 have hfl:fs.toList.length=7:=by have:=congrArg List.length hf; simpa using this
 have hx7:xs.length=7:=by rw [hxl]; simpa using hfl
 rw [hc] at hl
 have fld:∀ (i:Nat) (u off:Nat),(fs.toList.map (fun f=>(f.type,f.offset)))[i]?=some (u,off)→i<7→P.cellsOf u=1→∃ (y:DataW H×List MemPlace),DataW.trod enc P W 0 (fun _=>true) true n0 u ((cs.toList.drop off).take 1)=some y:=by
  intro i u off h1 h2 h3
  simp only [List.getElem?_map,qms,qpj] at h1
  obtain ⟨f,hf1,rfl,rfl⟩:=h1
  have:=hfld i f (by simpa using hf1)
  rw [h3] at this
  rw [this]
  exact ⟨xs[i]'(by omega),by simp [hx7,h2]⟩
 rw [hf] at fld
 match hcs:cs.toList,hl with
 | [v0,v1,v2,v3,v4,v5,v6],_=>
  rw [hcs] at fld
  obtain ⟨y0,e0⟩:=fld 0 _ _ rfl (by omega) c1
  obtain ⟨y1,e1⟩:=fld 1 _ _ rfl (by omega) c2
  obtain ⟨y2,e2⟩:=fld 2 _ _ rfl (by omega) c2
  obtain ⟨y3,e3⟩:=fld 3 _ _ rfl (by omega) c3
  obtain ⟨y4,e4⟩:=fld 4 _ _ rfl (by omega) c4
  obtain ⟨y5,e5⟩:=fld 5 _ _ rfl (by omega) c4
  obtain ⟨y6,e6⟩:=fld 6 _ _ rfl (by omega) c5
  simp only [List.drop_zero,List.drop_succ_cons,List.take_succ_cons,List.take_zero] at e0 e1 e2 e3 e4 e5 e6
  obtain ⟨_,⟨k,rfl,_⟩,r0⟩:=el_int hti _ _ _ e0
  obtain ⟨_,⟨f,rfl,lf⟩,r1⟩:=el_str hts _ _ _ e1
  obtain ⟨_,⟨s,rfl,ls⟩,r2⟩:=el_str hts _ _ _ e2
  obtain ⟨w3,tt,q3,lt,lts,r3⟩:=row_strs htss hts c2 e3
  obtain ⟨w4,n,q4,ln,r4⟩:=row_ints htis hti c1 e4
  obtain ⟨w5,o,q5,lo,r5⟩:=row_ints htis hti c1 e5
  obtain ⟨w6,r,q6,lr,lrs,r6⟩:=row_rows htiss htis hti c1 c4 e6
  injection q3 with q3
  injection q4 with q4
  injection q5 with q5
  injection q6 with q6
  subst q3 q4 q5 q6
  refine ⟨k,f,s,tt,n,o,r,⟨lf,ls,lt,lts,ln,lo,lr,lrs⟩,fun fid Z hZ=>?_⟩
  simp only [Rd]
  refine ⟨cs,rfl,by rw [hsz,hc]; rfl,?_⟩
  rw [hcs]
  simp only [RdL]
  exact ⟨by simpa only [Rd] using r0 fid Z hZ,by simpa only [Rd] using r1 fid Z hZ,by simpa only [Rd] using r2 fid Z hZ,r3 fid Z hZ,r4 fid Z hZ,r5 fid Z hZ,r6 fid Z hZ,trivial⟩
end
end Go.Cat
