/-
 The little language of plain data: values, operations over entries, statements, and what they compute.
 Nothing here speaks of memory: slices are lists. The tie to the model lies in CatSound.
-/
import Derived.Orders
import Derived.KernelRfl
import Derived.Laws.Sem
import Derived.Laws.Strings
import Derived.Laws.OwnMore
import Derived.Great.BuildSlice
set_option linter.unusedSimpArgs false
set_option linter.unusedVariables false
namespace Go.Cat
theorem qsj:type_of% (@Option.some.injEq):=@Option.some.injEq
theorem qbs:type_of% (@Option.bind_eq_some_iff):=@Option.bind_eq_some_iff
theorem qpj:type_of% (@Prod.mk.injEq):=@Prod.mk.injEq
theorem qms:type_of% (@Option.map_eq_some_iff):=@Option.map_eq_some_iff
theorem qgd:type_of% (@List.getD_eq_getElem?_getD):=@List.getD_eq_getElem?_getD
theorem qlc:type_of% (@List.length_cons):=@List.length_cons
theorem qar:type_of% (@List.mem_append_right):=@List.mem_append_right
theorem qba:type_of% (@Bool.and_eq_true):=@Bool.and_eq_true
theorem qal:type_of% (@List.mem_append_left):=@List.mem_append_left
theorem qmc:type_of% (@List.mem_cons_of_mem):=@List.mem_cons_of_mem
theorem qla:type_of% (@List.length_append):=@List.length_append
theorem qde:type_of% (@decide_eq_true_eq):=@decide_eq_true_eq
theorem qag:type_of% (@Array.getD_eq_getD_getElem?):=@Array.getD_eq_getD_getElem?
theorem qln:type_of% (@List.length_nil):=@List.length_nil
theorem qmn:type_of% (@List.mem_cons):=@List.mem_cons
theorem qez:type_of% (@List.eq_nil_of_length_eq_zero):=@List.eq_nil_of_length_eq_zero
theorem qoz:type_of% (@Int.eq_ofNat_of_zero_le):=@Int.eq_ofNat_of_zero_le
theorem qma:type_of% (@List.mem_append):=@List.mem_append
theorem qta:type_of% (@List.take_succ_eq_append_getElem):=@List.take_succ_eq_append_getElem
theorem qgn:type_of% (@List.getElem?_eq_none):=@List.getElem?_eq_none
theorem qas:type_of% (@Int.add_sub_cancel):=@Int.add_sub_cancel
theorem qat:type_of% (@List.all_eq_true):=@List.all_eq_true
theorem qgl:type_of% (@List.getElem?_append_left):=@List.getElem?_append_left
theorem qlg:type_of% (@Nat.lt_or_ge):=@Nat.lt_or_ge
theorem qtn:type_of% (@Int.toNat_natCast):=@Int.toNat_natCast
theorem qaa:type_of% (@List.append_assoc):=@List.append_assoc
theorem qge:type_of% (@List.getElem?_eq_getElem):=@List.getElem?_eq_getElem
theorem qgr:type_of% (@List.getElem?_append_right):=@List.getElem?_append_right
theorem qnm:type_of% (@List.not_mem_nil):=@List.not_mem_nil
theorem qft:type_of% (@Bool.false_eq_true):=@Bool.false_eq_true
inductive D where
 | u
 | i (k:IntKind) (n:Int)
 | b (x:Bool)
 | s (x:List Nat)
 | l (xs:List D)
 | g (xs:List D)
 | z
 | p (xs:List D)
 | f (fn:Nat) (caps:List D)
instance:Inhabited D:=⟨.u⟩
abbrev D.n (x:Int):D:=.i .i64 x
abbrev D.y (x:Nat):D:=.i .u8 x
inductive Sh where
 | v
 | y
 | o (s:Sh)
 | b (s:Sh)
 | a (s:Sh)
 deriving DecidableEq
inductive A where
 | e (n:Nat)
 | c (d:D)
inductive PE where
 | e (n:Nat)
 | k (n:Nat)
 deriving DecidableEq
inductive Pr where
 | nop
 | cs (s:Sh) (d:D)
 | cy (a:A)
 | bi (op:BinOp) (a b:A)
 | bb (op:BinOp) (a b:A)
 | un (op:UnOp) (a:A)
 | pk (c a b:A)
 | cv (k:IntKind) (a:A)
 | ln (a:A) (p:List PE)
 | sn (a:A)
 | sx (a i:A)
 | ss (a:A) (lo hi:Option A)
 | ix (a:A) (p:List PE) (i:A)
 | up (n:Nat) (p:List PE) (a:A)
 | sb (fz:Bool) (a:A) (lo hi:Option A)
 | ap (fl:Bool) (a b:A)
 | mk (d:D) (n c:A)
 | li (s:Sh) (xs:List A)
 | ca (g:Nat) (xs:List A) (r:Nat)
 | cd (f:A) (g:Nat) (xs:List A) (r:Nat)
 | bs (a:A)
 | sy (a:A)
 | mx (a b:A)
 | mn (a b:A)
 | iy (a i:A)
 | bg (k:Nat) (xs:List (A×Nat))
 | bp (a:A)
 | gp (a:A) (k:Nat)
 | nz (want:Bool) (a:A)
 | nn (a:A)
 | wl (k:Nat) (a:A)
 | ws (n k:Nat) (a:A)
 | gt (a:A) (p:List PE)
 | fp (fl:Bool) (a:A) (k:Nat)
 | uq (n:Nat) (p:List PE) (a:A) (i k:Nat)
 | tk (n:Nat)
 | cb (n:Nat)
 | sp (n:Nat) (p:List PE) (k:Nat)
 | sw (n:Nat)
 | jn (n:Nat) (p:List PE) (a:A) (k:Nat)
structure It where
 z:List (Option Nat):=[]
 g:List (Nat×Bool):=[]
 p:Pr
inductive X where
 | n
 | ex (id:Nat)
 | r
inductive S where
 | skip
 | reg (its:List It) (out:List (Option Nat))
 | seq (a b:S)
 | cond (n:Nat) (x y:S)
 | block (id:Nat) (b:S)
 | loop (b:S)
 | exit (id:Nat)
 | ret
abbrev Env:=List D
def ev (E:Nat→D):A→D
 | .e n=>E n
 | .c d=>d
def PE.ev (E:Nat→D):PE→Option Nat
 | .k n=>some n
 | .e n=>match E n with
  | .i _ z=>if 0≤z then some z.toNat else none
  | _=>none
def intD (op:BinOp) (k:IntKind) (a b:Int):Option D:=
 match op with
 | .add=>some (.i k (k.wrap (a+b)))
 | .sub=>some (.i k (k.wrap (a-b)))
 | .mul=>some (.i k (k.wrap (a*b)))
 | .quo=>if b=0 then none else some (.i k (k.wrap (a.tdiv b)))
 | .rem=>if b=0 then none else some (.i k (a.tmod b))
 | .eql=>some (.b (a == b))
 | .neq=>some (.b (a != b))
 | .lss=>some (.b (decide (a<b)))
 | .leq=>some (.b (decide (a≤b)))
 | .gtr=>some (.b (decide (a > b)))
 | .geq=>some (.b (decide (a≥b)))
 | .and=>some (.i k (k.wrap (BitVec.ofInt k.bits a &&& BitVec.ofInt k.bits b).toNat))
 | .or=>some (.i k (k.wrap (BitVec.ofInt k.bits a ||| BitVec.ofInt k.bits b).toNat))
 | .xor=>some (.i k (k.wrap (BitVec.ofInt k.bits a ^^^ BitVec.ofInt k.bits b).toNat))
 | _=>none
def natLess:List Nat→List Nat→Bool
 | _,[]=>false
 | [],_::_=>true
 | a::x,b::y=>decide (a<b) || (a == b&&natLess x y)
def big:Nat:=1099511627776
def strD (op:BinOp) (a b:List Nat):Option D:=
 match op with
 | .add=>if a.length+b.length≤big then some (.s (a++b)) else none
 | .eql=>some (.b (a == b))
 | .neq=>some (.b (!(a == b)))
 | .lss=>some (.b (natLess a b))
 | .leq=>some (.b (natLess a b || a == b))
 | .gtr=>some (.b (!(natLess a b || a == b)))
 | .geq=>some (.b (!(natLess a b)))
 | _=>none
def binD (op:BinOp):D→D→Option D
 | .i k a,.i k' b=>
  match op with
  | .shl=>if b<0 then none else some (.i k (k.wrap (a*2 ^ (min b.toNat k.bits))))
  | .shr=>if b<0 then none else some (.i k (a.fdiv (2 ^ (min b.toNat k.bits))))
  | _=>if k=k' then intD op k a b else none
 | .s a,.s b=>strD op a b
 | _,_=>none
def boolD (op:BinOp):D→D→Option D
 | .b a,.b b=>match op with
  | .eql=>some (.b (a == b))
  | .neq=>some (.b (!(a == b)))
  | _=>none
 | _,_=>none
def unD (op:UnOp):D→Option D
 | .b x=>match op with
  | .not=>some (.b (!x))
  | _=>none
 | .i k n=>match op with
  | .neg=>some (.i k (k.wrap (0-n)))
  | _=>none
 | _=>none
def D.isU:D→Bool
 | .u=>true
 | _=>false
def known (d:D):Option D:=if d.isU then none else some d
def ixD:D→D→Option D
 | .l xs,.i _ n=>if 0≤n then xs[n.toNat]?.bind known else none
 | _,_=>none
def fpD (k:Nat):D→Option D
 | .p xs=>xs[k]?.bind known
 | _=>none
def sxD:D→D→Option D
 | .s x,.i _ n=>if 0≤n then x[n.toNat]?.map D.y else none
 | _,_=>none
def getP:List Nat→D→Option D
 | [],d=>some d
 | i::is,.l xs=>xs[i]?.bind (getP is)
 | i::is,.g xs=>xs[i]?.bind (getP is)
 | _::_,_=>none
def setP:List Nat→D→D→Option D
 | [],_,d=>some d
 | i::is,.l xs,d=>(xs[i]?.bind fun x=>setP is x d).map fun x'=>.l (xs.set i x')
 | i::is,.g xs,d=>(xs[i]?.bind fun x=>setP is x d).map fun x'=>.g (xs.set i x')
 | _::_,_,_=>none
def lenD:D→Option D
 | .l xs=>some (.n xs.length)
 | _=>none
def snD:D→Option D
 | .s x=>some (.n x.length)
 | _=>none
def bound (d:Option D) (deflt:Nat):Option Nat:=
 match d with
 | none=>some deflt
 | some (.i _ n)=>if 0≤n then some n.toNat else none
 | _=>none
def ssD (a:D) (lo hi:Option D):Option D:=
 match a with
 | .s x=>match bound lo 0,bound hi x.length with
  | some l,some h=>if l≤h∧h≤x.length then some (.s ((x.take h).drop l)) else none
  | _,_=>none
 | _=>none
def subD (a:D) (lo hi:Option D):Option D:=
 match a with
 | .l xs=>match bound lo 0,bound hi xs.length with
  | some l,some h=>if l≤h∧h≤xs.length then some (.l ((xs.take h).drop l)) else none
  | _,_=>none
 | _=>none
def D.one:D→Bool
 | .u=>false
 | .g _=>false
 | _=>true
def D.flat:D→Bool
 | .i _ _=>true
 | .b _=>true
 | .s _=>true
 | _=>false
def appD (fl:Bool):D→D→Option D
 | .l xs,.l ys=>if xs.length+ys.length≤big∧ys.all (if fl=true then D.flat else D.one)=true then some (.l (xs++ys)) else none
 | _,_=>none
def mkD (d:D):D→D→Option D
 | .i _ n,.i _ c=>if 0≤n∧n≤c∧c≤(big:Int) then some (.l (List.replicate n.toNat d)) else none
 | _,_=>none
def nzD:D→Option Bool
 | .z=>some true
 | .p _=>some false
 | _=>none
def nnD:D→Option D
 | .p xs=>some (.p xs)
 | _=>none
def bpD:D→Option D
 | .g xs=>some (.p xs)
 | _=>none
def wlD (k:Nat):D→Option D
 | .g xs=>if xs.length=k∧xs.all D.one=true then some (.g xs) else none
 | _=>none
def lenG (k:Nat):D→Bool
 | .g xs=>xs.length == k
 | _=>false
def gpD (k:Nat):D→Option D
 | .p xs=>if xs.length=k then some (.g xs) else none
 | _=>none
def depB:Nat→D→Bool
 | 0,d=>d.flat
 | i+1,d=>d.flat || match d with
  | .l xs=>xs.all (depB i)
  | _=>false
def putB (k:Nat) (x:D×Nat):Bool:=x.1.one&&(k == 0 || depB (min x.2 k) x.1)
def flatD (d:D):Option D:=if d.flat=true then some d else none
def spD (k:Nat) (d:D) (is:Option (List Nat)):Option (D×D):=is.bind fun is=>(getP is d).bind fun x=>if depB k x=true then (setP is d .u).map fun y=>(x,y) else none
def swD:D→Option (D×D)
 | .g xs=>some (.g xs,.g (List.replicate xs.length .u))
 | _=>none
def bytesOf:List D→Option (List Nat)
 | []=>some []
 | .i .u8 n::ds=>if 0≤n∧n<256 then (bytesOf ds).map (n.toNat::·) else none
 | _::_=>none
def bsD:D→Option D
 | .l xs=>(bytesOf xs).map .s
 | _=>none
def syD:D→Option D
 | .s x=>if x.length≤big then some (.l (x.map D.y)) else none
 | _=>none
def tkD:D→Option D
 | .g [d]=>some d
 | _=>none
def cbD:D→Option D
 | .g (_::_)=>some .u
 | _=>none
def pathD (E:Nat→D) (p:List PE) (d:D):Option D:=(p.mapM (PE.ev E)).bind fun is=>getP is d
def evP (E:Nat→D):Pr→Option D
 | .cs _ d=>some d
 | .cy a=>some (ev E a)
 | .bi op a b=>binD op (ev E a) (ev E b)
 | .bb op a b=>boolD op (ev E a) (ev E b)
 | .un op a=>unD op (ev E a)
 | .pk c a b=>match ev E c with
  | .b true=>some (ev E a)
  | .b false=>some (ev E b)
  | _=>none
 | .cv k a=>match ev E a with
  | .i _ n=>some (.i k (k.wrap n))
  | _=>none
 | .ln a p=>(pathD E p (ev E a)).bind lenD
 | .sn a=>snD (ev E a)
 | .sx a i=>sxD (ev E a) (ev E i)
 | .ss a lo hi=>ssD (ev E a) (lo.map (ev E)) (hi.map (ev E))
 | .ix a p i=>(pathD E p (ev E a)).bind fun d=>ixD d (ev E i)
 | .up n p a=>if (ev E a).one=true then (p.mapM (PE.ev E)).bind fun is=>setP is (E n) (ev E a) else none
 | .sb _ a lo hi=>subD (ev E a) (lo.map (ev E)) (hi.map (ev E))
 | .ap fl a b=>appD fl (ev E a) (ev E b)
 | .mk d n c=>mkD d (ev E n) (ev E c)
 | .iy a i=>(ixD (ev E a) (ev E i)).bind flatD
 | .li _ xs=>if (xs.map (ev E)).all D.one=true then some (.l (xs.map (ev E))) else none
 | .bs a=>bsD (ev E a)
 | .sy a=>syD (ev E a)
 | .mx a b=>match ev E a,ev E b with
  | .i k x,.i k' y=>if k=k' then some (.i k (if y > x then y else x)) else none
  | _,_=>none
 | .mn a b=>match ev E a,ev E b with
  | .i k x,.i k' y=>if k=k' then some (.i k (if y<x then y else x)) else none
  | _,_=>none
 | .bg k xs=>if (xs.map fun x=>(ev E x.1,x.2)).all (putB k)=true then some (.g (xs.map fun x=>ev E x.1)) else none
 | .bp a=>bpD (ev E a)
 | .gp a k=>gpD k (ev E a)
 | .nz want a=>(nzD (ev E a)).map fun x=>.b (x == want)
 | .nn a=>nnD (ev E a)
 | .wl k a=>wlD k (ev E a)
 | .ws n k a=>if lenG k (E n)=true then wlD k (ev E a) else none
 | .gt a p=>(pathD E p (ev E a)).bind known
 | .fp fl a k=>(fpD k (ev E a)).bind fun d=>if fl=true then flatD d else some d
 | .uq n p a i k=>if putB k (ev E a,i)=true then (p.mapM (PE.ev E)).bind fun is=>setP is (E n) (ev E a) else none
 | .cb n=>cbD (E n)
 | .jn n p a k=>if ((ev E a).one&&depB k (ev E a))=true then (p.mapM (PE.ev E)).bind fun is=>setP is (E n) (ev E a) else none
 | _=>none
def Pr.np:Pr→Nat
 | .nop=>0
 | .ca _ _ r=>r
 | .cd _ _ _ r=>r
 | .tk _=>2
 | .sp _ _ _=>2
 | .sw _=>2
 | _=>1
abbrev Env.E (e:Env):Nat→D:=fun n=>e.getD n .u
section
variable (K:Nat→List D→List D→Prop)
def wpPr (p:Pr) (e:Env) (Q:Env→Prop):Prop:=
 match p with
 | .nop=>Q e
 | .ca g xs r=>∃ rs:List D,K g (xs.map (ev e.E)) rs∧rs.length=r∧Q (e++rs)
 | .cd f g xs r=>ev e.E f=.f g []∧∃ rs:List D,K g (xs.map (ev e.E)) rs∧rs.length=r∧Q (e++rs)
 | .tk n=>match tkD (e.E n) with
  | some d=>Q (e++[d,.g [.u]])
  | none=>False
 | .sp n p k=>match spD k (e.E n) (p.mapM (PE.ev e.E)) with
  | some d=>Q (e++[d.1,d.2])
  | none=>False
 | .sw n=>match swD (e.E n) with
  | some d=>Q (e++[d.1,d.2])
  | none=>False
 | p=>match evP e.E p with
  | some d=>Q (e++[d])
  | none=>False
def gdE (E:Nat→D):List (Nat×Bool)→Option Bool
 | []=>some true
 | (n,want)::r=>match E n with
  | .b x=>if x=want then gdE E r else some false
  | _=>none
def skE (E:Nat→D):List (Option Nat)→Nat→List D
 | _,0=>[]
 | [],n+1=>.u::skE E [] n
 | some m::z,n+1=>E m::skE E z n
 | none::z,n+1=>.u::skE E z n
def wpIt (it:It) (e:Env) (Q:Env→Prop):Prop:=
 match gdE e.E it.g with
 | some true=>wpPr K it.p e Q
 | some false=>Q (e++skE e.E it.z it.p.np)
 | none=>False
def wpIts:List It→Env→(Env→Prop)→Prop
 | [],e,Q=>Q e
 | it::r,e,Q=>wpIt K it e fun e1=>wpIts r e1 Q
def outE (out:List (Option Nat)) (e:Env):Env:=
 out.map fun
  | some n=>e.E n
  | none=>.u
def wpLoop (R:(X→Env→Prop)→Env→Prop):Nat→(X→Env→Prop)→Env→Prop
 | 0,_,_=>False
 | n+1,Q,e=>R (fun
  | .n,e1=>wpLoop R n Q e1
  | x,e1=>Q x e1) e
def wpS:S→(X→Env→Prop)→Env→Prop
 | .skip,Q,e=>Q .n e
 | .reg its out,Q,e=>wpIts K its e fun e1=>Q .n (outE out e1)
 | .seq a b,Q,e=>wpS a (fun
  | .n,e1=>wpS b Q e1
  | x,e1=>Q x e1) e
 | .cond n x y,Q,e=>match e.E n with
  | .b true=>wpS x Q (e.set n .u)
  | .b false=>wpS y Q (e.set n .u)
  | _=>False
 | .block id b,Q,e=>wpS b (fun
  | .ex j,e1=>if j=id then Q .n e1 else Q (.ex j) e1
  | x,e1=>Q x e1) e
 | .loop b,Q,e=>∃ n,wpLoop (wpS b) n Q e
 | .exit id,Q,e=>Q (.ex id) e
 | .ret,Q,e=>Q .r e
end
end Go.Cat
namespace Go.Cat
def strV (x:List Nat):Value:=.string ⟨(x.map fun c=>UInt8.ofNat c).toArray⟩
section
variable (fid:Nat→Nat) (h:Array Obj) (Z:Nat→Prop)
mutual
def Rd:D→Value→Prop
 | .u,_=>True
 | .i k n,v=>v=.int k n
 | .b x,v=>v=.bool x
 | .s x,v=>v=strV x∧(∀ c∈x,c<256)∧x.length≤9223372036854775807
 | .l xs,v=>(xs=[]∧∃ a,v=.slice a 0 0)∨
   ∃ b off cap cs e fz,v=.slice (some ⟨b,off,none⟩) xs.length cap∧h[b]?=some (.cells cs e fz)∧¬ Z b∧RdL xs (cs.toList.drop off)∧(xs.length≤cap∧xs.length≤9223372036854775807)
 | .g xs,v=>∃ cs:Array Value,v=.agg cs∧cs.size=xs.length∧RdL xs cs.toList
 | .z,v=>v=.pointer none
 | .p xs,v=>∃ b off cs e fz,v=.pointer (some ⟨b,off,none⟩)∧h[b]?=some (.cells cs e fz)∧¬ Z b∧RdL xs (cs.toList.drop off)
 | .f fn caps,v=>∃ vs:Array Value,v=.func (.func (fid fn)) #[] vs∧vs.size=caps.length∧RdL caps vs.toList
def RdL:List D→List Value→Prop
 | [],_=>True
 | d::ds,v::vs=>Rd d v∧RdL ds vs
 | _::_,[]=>False
end
def Each (R:D→Value→List Nat→Prop):List D→List Value→List Nat→Prop
 | [],_,B=>B=[]
 | d::ds,v::vs,B=>∃ B1 B2,B=B1++B2∧R d v B1∧Each R ds vs B2
 | _::_,[],_=>False
def thawed (_cs:Array Value) (fz:Nat×Nat):Prop:=fz=(0,0)
variable (O X:Nat→Prop)
def Own:Sh→D→Value→List Nat→Prop
 | .v,d,v,B=>B=[]∧Rd fid h (fun b=>O b∨X b) d v
 | .y,d,v,B=>B=[]∧Rd fid h O d v
 | .a s,d,v,B=>∃ xs cs,d=.g xs∧v=.agg cs∧cs.size=xs.length∧Each (Own s) xs cs.toList B
 | .b s,d,v,B=>∃ xs b cs e fz B',d=.g xs∧B=b::B'∧v=.pointer (some ⟨b,0,none⟩)∧h[b]?=some (.cells cs e fz)∧thawed cs fz∧cs.size=xs.length∧Each (Own s) xs cs.toList B'
 | .o s,d,v,B=>((d=.u∨d.flat=true∧Rd fid h (fun _=>False) d v)∧B=[])∨∃ xs,d=.l xs∧((v=.slice none 0 0∧xs=[]∧B=[])∨
   ∃ b off cap cs e fz B',B=b::B'∧v=.slice (some ⟨b,off,none⟩) xs.length cap∧h[b]?=some (.cells cs e fz)∧thawed cs fz∧
    xs.length≤cap∧off+cap≤cs.size∧xs.length≤9223372036854775807∧Each (Own s) xs (cs.toList.drop off) B')
end
structure Agr (S:Nat→Prop) (h h':Array Obj):Prop where
 size:h.size≤h'.size
 same:∀ b,b<h.size→¬ S b→h'[b]?=h[b]?
theorem Agr.refl (S:Nat→Prop) (h:Array Obj):Agr S h h:=⟨Nat.le_refl _,fun _ _ _=>rfl⟩
theorem Agr.trans {S:Nat→Prop} {a b c:Array Obj} (h:Agr S a b) (k:Agr S b c):Agr S a c:=
 ⟨Nat.le_trans h.size k.size,fun x hx hs=>(k.same x (Nat.lt_of_lt_of_le hx h.size) hs).trans (h.same x hx hs)⟩
theorem Agr.mono {S S':Nat→Prop} {a b:Array Obj} (h:Agr S a b) (hs:∀ b,b<a.size→S b→S' b):Agr S' a b:=
 ⟨h.size,fun x hx hn=>h.same x hx fun hS=>hn (hs x hx hS)⟩
theorem Agr.push (h:Array Obj) (o:Obj):Agr (fun _=>False) h (h.push o):=
 ⟨by simp,fun b hb _=>by rw [Array.getElem?_push,if_neg (by omega)]⟩
theorem lt_of_some {h:Array Obj} {b:Nat} {o:Obj} (e:h[b]?=some o):b<h.size:=by
 rcases qlg b h.size with k | k
 ·exact k
 ·simp [Array.getElem?_eq_none k] at e
mutual
theorem Rd.ext {fid:Nat→Nat} {h h':Array Obj} {S Z Z':Nat→Prop} (ha:Agr S h h') (hS:∀ b,b<h.size→S b→Z b) (hZ:∀ b,b<h.size→Z' b→Z b):
  ∀ (d:D) (v:Value),Rd fid h Z d v→Rd fid h' Z' d v
 | .u,_=>fun _=>by simp [Rd]
 | .i _ _,_=>fun r=>by simpa [Rd] using r
 | .b _,_=>fun r=>by simpa [Rd] using r
 | .s _,_=>fun r=>by simpa [Rd] using r
 | .l xs,v=>fun r=>by
  simp only [Rd] at r ⊢
  rcases r with r | ⟨b,off,cap,cs,e,fz,hv,hb,hz,hl,hn⟩
  ·exact .inl r
  ·have lt:=lt_of_some hb
   exact .inr ⟨b,off,cap,cs,e,fz,hv,(ha.same b lt fun hs=>hz (hS b lt hs)).trans hb,fun q=>hz (hZ b lt q),RdL.ext ha hS hZ xs _ hl,hn⟩
 | .g xs,v=>fun r=>by
  simp only [Rd] at r ⊢
  obtain ⟨cs,hv,hn,hl⟩:=r
  exact ⟨cs,hv,hn,RdL.ext ha hS hZ xs _ hl⟩
 | .z,_=>fun r=>by simpa [Rd] using r
 | .p xs,v=>fun r=>by
  simp only [Rd] at r ⊢
  obtain ⟨b,off,cs,e,fz,hv,hb,hz,hl⟩:=r
  have lt:=lt_of_some hb
  exact ⟨b,off,cs,e,fz,hv,(ha.same b lt fun hs=>hz (hS b lt hs)).trans hb,fun q=>hz (hZ b lt q),RdL.ext ha hS hZ xs _ hl⟩
 | .f fn caps,v=>fun r=>by
  simp only [Rd] at r ⊢
  obtain ⟨vs,hv,hn,hl⟩:=r
  exact ⟨vs,hv,hn,RdL.ext ha hS hZ caps _ hl⟩
theorem RdL.ext {fid:Nat→Nat} {h h':Array Obj} {S Z Z':Nat→Prop} (ha:Agr S h h') (hS:∀ b,b<h.size→S b→Z b) (hZ:∀ b,b<h.size→Z' b→Z b):
  ∀ (ds:List D) (vs:List Value),RdL fid h Z ds vs→RdL fid h' Z' ds vs
 | [],_=>fun _=>by simp [RdL]
 | d::ds,v::vs=>fun r=>by
  simp only [RdL] at r ⊢
  exact ⟨Rd.ext ha hS hZ d v r.1,RdL.ext ha hS hZ ds vs r.2⟩
 | _::_,[]=>fun r=>by simp [RdL] at r
end
theorem Rd.mono {fid:Nat→Nat} {h:Array Obj} {Z Z':Nat→Prop} {d:D} {v:Value} (r:Rd fid h Z d v) (hZ:∀ b,b<h.size→Z' b→Z b):Rd fid h Z' d v:=
 Rd.ext (S:=fun _=>False) (Agr.refl _ h) (fun _ _ q=>q.elim) hZ d v r
theorem Rd.flat {fid:Nat→Nat} {h h':Array Obj} {Z Z':Nat→Prop} {d:D} {v:Value} (hd:d.flat=true) (r:Rd fid h Z d v):Rd fid h' Z' d v:=by
 cases d <;> simp [D.flat] at hd <;> simpa [Rd] using r
theorem Each.imp {R R':D→Value→List Nat→Prop}:∀ {ds:List D} {vs:List Value} {B:List Nat},
  (∀ d v B1,(∀ b∈B1,b∈B)→R d v B1→R' d v B1)→Each R ds vs B→Each R' ds vs B
 | [],_,_=>fun _ h=>h
 | d::ds,v::vs,B=>fun f h=>by
  simp only [Each] at h ⊢
  obtain ⟨B1,B2,rfl,h1,h2⟩:=h
  exact ⟨B1,B2,rfl,f d v B1 (fun b hb=>qal _ hb) h1,Each.imp (fun d v B hB=>f d v B fun b hb=>qar _ (hB b hb)) h2⟩
 | _::_,[],_=>fun _ h=>h
theorem Own.ext {fid:Nat→Nat} {h h':Array Obj} {S O O' X:Nat→Prop} (ha:Agr S h h') (hS:∀ b,b<h.size→S b→O b) (hO:∀ b,b<h.size→O' b→O b):
  ∀ (s:Sh) (d:D) (v:Value) (B:List Nat),(∀ b∈B,¬ S b)→Own fid h O X s d v B→Own fid h' O' X s d v B
 | .v,d,v,B=>fun _ r=>by
  simp only [Own] at r ⊢
  exact ⟨r.1,Rd.ext ha (fun b hb q=>.inl (hS b hb q)) (fun b hb q=>q.imp (hO b hb) id) d v r.2⟩
 | .y,d,v,B=>fun _ r=>by
  simp only [Own] at r ⊢
  exact ⟨r.1,Rd.ext ha hS hO d v r.2⟩
 | .a s,d,v,B=>fun hB r=>by
  simp only [Own] at r ⊢
  obtain ⟨xs,cs,hd,hv,hl,he⟩:=r
  exact ⟨xs,cs,hd,hv,hl,Each.imp (fun d v B1 hb1=>Own.ext ha hS hO s d v B1 fun b hb=>hB b (hb1 b hb)) he⟩
 | .b s,d,v,B=>fun hB r=>by
  simp only [Own] at r ⊢
  obtain ⟨xs,b,cs,e,fz,B',hd,rfl,hv,hb,ht,hl,he⟩:=r
  have lt:=lt_of_some hb
  exact ⟨xs,b,cs,e,fz,B',hd,rfl,hv,(ha.same b lt (hB b (by simp))).trans hb,ht,hl,
   Each.imp (fun d v B1 hb1=>Own.ext ha hS hO s d v B1 fun b hb=>hB b (qmc _ (hb1 b hb))) he⟩
 | .o s,d,v,B=>fun hB r=>by
  simp only [Own] at r ⊢
  rcases r with ⟨r,h2⟩ | ⟨xs,hd,r⟩
  ·exact .inl ⟨r.imp id fun q=>⟨q.1,Rd.flat q.1 q.2⟩,h2⟩
  ·refine .inr ⟨xs,hd,?_⟩
   rcases r with r | ⟨b,off,cap,cs,e,fz,B',rfl,hv,hb,ht,h1,h2,h3,he⟩
   ·exact .inl r
   ·have lt:=lt_of_some hb
    refine .inr ⟨b,off,cap,cs,e,fz,B',rfl,hv,(ha.same b lt (hB b (by simp))).trans hb,ht,h1,h2,h3,?_⟩
    exact Each.imp (fun d v B1 hb1=>Own.ext ha hS hO s d v B1 fun b hb=>hB b (qmc _ (hb1 b hb))) he
theorem Each.lt {R:D→Value→List Nat→Prop} {k:Nat} (hR:∀ d v B,R d v B→∀ b∈B,b<k):∀ {ds:List D} {vs:List Value} {B:List Nat},Each R ds vs B→∀ b∈B,b<k
 | [],_,_=>fun h=>by simp only [Each] at h; simp [h]
 | d::ds,v::vs,B=>fun h=>by
  simp only [Each] at h
  obtain ⟨B1,B2,rfl,h1,h2⟩:=h
  intro x hx
  rcases qma.1 hx with hx | hx
  ·exact hR d v B1 h1 x hx
  ·exact Each.lt hR h2 x hx
 | _::_,[],_=>fun h=>by simp [Each] at h
theorem Own.blocks_lt {fid:Nat→Nat} {h:Array Obj} {O X:Nat→Prop}:∀ (s:Sh) (d:D) (v:Value) (B:List Nat),Own fid h O X s d v B→∀ b∈B,b<h.size
 | .v,d,v,B=>fun r=>by simp only [Own] at r; simp [r.1]
 | .y,d,v,B=>fun r=>by simp only [Own] at r; simp [r.1]
 | .a s,d,v,B=>fun r=>by
  simp only [Own] at r
  obtain ⟨xs,cs,hd,hv,hl,he⟩:=r
  exact Each.lt (fun d v B h=>Own.blocks_lt s d v B h) he
 | .b s,d,v,B=>fun r=>by
  simp only [Own] at r
  obtain ⟨xs,b,cs,e,fz,B',hd,rfl,hv,hb,ht,hl,he⟩:=r
  intro x hx
  rcases qmn.1 hx with rfl | hx
  ·exact lt_of_some hb
  ·exact Each.lt (fun d v B h=>Own.blocks_lt s d v B h) he x hx
 | .o s,d,v,B=>fun r=>by
  simp only [Own] at r
  rcases r with ⟨_,rfl⟩ | ⟨xs,hd,⟨_,_,rfl⟩ | ⟨b,off,cap,cs,e,fz,B',rfl,hv,hb,ht,h1,h2,h3,he⟩⟩
  ·simp
  ·simp
  ·intro x hx
   rcases qmn.1 hx with rfl | hx
   ·exact lt_of_some hb
   ·exact Each.lt (fun d v B h=>Own.blocks_lt s d v B h) he x hx
theorem Each.rd {fid:Nat→Nat} {h:Array Obj} {O X Z:Nat→Prop} (hZ:∀ b,b<h.size→Z b→O b∨X b):∀ {ds:List D} {vs:List Value} {B:List Nat},Each (Own fid h O X .v) ds vs B→RdL fid h Z ds vs
 | [],_,_=>fun _=>by simp [RdL]
 | d::ds,v::vs,B=>fun he=>by
  simp only [Each] at he
  obtain ⟨B1,B2,rfl,h1,h2⟩:=he
  simp only [Own] at h1
  simp only [RdL]
  exact ⟨h1.2.mono hZ,Each.rd hZ h2⟩
 | _::_,[],_=>fun he=>by simp [Each] at he
theorem Own.frozen {fid:Nat→Nat} {h:Array Obj} {O O' X:Nat→Prop} (hO:∀ b,b<h.size→O' b→O b) (d:D) (v:Value) (B:List Nat)
  (hB:∀ b∈B,¬ O' b∧¬ X b) (r:Own fid h O X (.o .v) d v B):Rd fid h (fun b=>O' b∨X b) d v:=by
 simp only [Own] at r
 rcases r with ⟨q | q,_⟩ | ⟨xs,rfl,r⟩
 ·subst q; simp [Rd]
 ·exact q.2.flat q.1
 ·simp only [Rd]
  rcases r with r | ⟨b,off,cap,cs,e,fz,B',rfl,hv,hb,ht,h1,h2,h3,he⟩
  ·exact .inl ⟨r.2.1,none,r.1⟩
  ·refine .inr ⟨b,off,cap,cs,e,fz,hv,hb,fun q=>?_,?_,h1,h3⟩
   ·rcases q with q | q
    ·exact (hB b (by simp)).1 q
    ·exact (hB b (by simp)).2 q
   ·exact he.rd fun b hb q=>q.imp (hO b hb) id
end Go.Cat
namespace Go.Cat
abbrev Gd:=List (Nat×Bool)
inductive Loc where
 | is (n:Nat) (g:Gd)
 | ad (r:Nat) (p:List PE) (m:Nat) (g:Gd)
 | ip (r:Nat) (p:List PE) (m:Nat) (g:Gd)
 | vc (n:Nat) (g:Gd)
 | tu (ns:List Nat) (g:Gd)
 | aw (r:Nat) (p:List PE) (g:Gd)
 | ia (r m:Nat) (g:Gd)
 | bx (n:Nat) (g:Gd)
 | fv (f:Nat) (ns:List Nat) (g:Gd)
 | fb (f:Nat) (ns:List Nat) (g:Gd)
 | ag (r:Nat) (g:Gd)
 | lh (n:Nat) (g:Gd)
 | sa (n e:Nat) (g:Gd)
 deriving DecidableEq
inductive Fact where
 | en (n:Nat) (s:Sh)
 | sl (t:Nat) (l:Loc)
 deriving DecidableEq
def PE.ments:PE→List Nat
 | .e n=>[n]
 | .k _=>[]
def Loc.ments:Loc→List Nat
 | .is n _=>[n]
 | .ad r _ m _=>[r,m]
 | .ip r _ m _=>[r,m]
 | .vc n _=>[n]
 | .tu ns _=>ns
 | .aw r _ _=>[r]
 | .ia r m _=>[r,m]
 | .bx n _=>[n]
 | .fv _ ns _=>ns
 | .fb _ ns _=>ns
 | .ag r _=>[r]
 | .lh n _=>[n]
 | .sa n e _=>[n,e]
def Fact.ments:Fact→List Nat
 | .en n _=>[n]
 | .sl _ l=>l.ments
def gdOK (E:Nat→D) (g:Gd):Prop:=∀ x∈g,E x.1=.b x.2
def pathE (E:Nat→D) (p:List PE):Option (List Nat):=p.mapM (PE.ev E)
def Stp (v:Value) (i b o:Nat):Prop:=
 (∃ off len cap,v=.slice (some ⟨b,off,none⟩) len cap∧i<len∧o=off+i)∨(v=.pointer (some ⟨b,0,none⟩)∧o=i)
theorem Stp.det {v:Value} {i b o b' o':Nat} (h:Stp v i b o) (h':Stp v i b' o'):b=b'∧o=o':=by
 rcases h with ⟨off,len,cap,rfl,_,rfl⟩ | ⟨rfl,rfl⟩ <;> rcases h' with ⟨off',len',cap',e,_,rfl⟩ | ⟨e,rfl⟩
 ·injection e with e; injection e with e; injection e with e1 e2; subst e1 e2; exact ⟨rfl,rfl⟩
 ·cases e
 ·cases e
 ·injection e with e; injection e with e; injection e with e1; subst e1; exact ⟨rfl,rfl⟩
theorem Stp.slice {i b o b' off len cap:Nat} (h:Stp (.slice (some ⟨b',off,none⟩) len cap) i b o):b=b'∧i<len∧o=off+i:=by
 rcases h with ⟨off',len',cap',e,h1,rfl⟩ | ⟨e,_⟩
 ·injection e with e e2 _; injection e with e; injection e with e1 e3; subst e1 e3 e2; exact ⟨rfl,h1,rfl⟩
 ·cases e
theorem Stp.box {i b o b':Nat} (h:Stp (.pointer (some ⟨b',0,none⟩)) i b o):b=b'∧o=i:=by
 rcases h with ⟨off',len',cap',e,h1,rfl⟩ | ⟨e,rfl⟩
 ·cases e
 ·injection e with e; injection e with e; injection e with e1; subst e1; exact ⟨rfl,rfl⟩
theorem Stp.none {i b o l cap:Nat} (h:Stp (.slice none l cap) i b o):False:=by
 rcases h with ⟨off',len',cap',e,h1,rfl⟩ | ⟨e,rfl⟩ <;> cases e
theorem Stp.agg {i b o:Nat} {cs:Array Value} (h:Stp (.agg cs) i b o):False:=by
 rcases h with ⟨off',len',cap',e,h1,rfl⟩ | ⟨e,rfl⟩ <;> cases e
def Wk (h:Array Obj):List Nat→Value→Nat→Nat→Value→Prop
 | [],_,_,_,_=>False
 | i::is,v,b,o,x=>∃ b' o' cs e fz y,Stp v i b' o'∧h[b']?=some (.cells cs e fz)∧cs[o']?=some y∧
   ((is=[]∧b=b'∧o=o'∧x=y)∨(is≠[]∧Wk h is y b o x))
def LocR (h:Array Obj) (E:Nat→D) (vs:Nat→Value) (O al:Nat→Prop) (tm:Array Value) (t:Nat):Loc→Prop
 | .is n g=>(gdOK E g→tm[t]?=some (vs n))∧(¬ gdOK E g→tm[t]?=some undef)
 | .vc n g=>gdOK E g→∃ b o cs e fz,tm[t]?=some (.pointer (some ⟨b,o,none⟩))∧h[b]?=some (.cells cs e fz)∧cs[o]?=some (vs n)∧¬ O b
 | .ad r p m g=>gdOK E g→al r→∃ is b o d,pathE E p=some is∧getP is (E r)=some d∧Wk h is (vs r) b o (vs m)∧tm[t]?=some (.pointer (some ⟨b,o,none⟩))
 | .ip r p m g=>gdOK E g→al r→∃ is b o d,pathE E p=some is∧getP is (E r)=some d∧Wk h is (vs r) b o (vs m)∧tm[t]?=some (vs m)
 | .tu ns g=>gdOK E g→tm[t]?=some (.tuple (ns.map vs).toArray)
 | .aw r p g=>gdOK E g→al r→∃ is b o d x,pathE E p=some is∧getP is (E r)=some d∧Wk h is (vs r) b o x∧tm[t]?=some (.pointer (some ⟨b,o,none⟩))
 | .ia r m g=>gdOK E g→al r→∃ xs b cs e fz,E r=.g xs∧E m=.g xs∧vs r=.pointer (some ⟨b,0,none⟩)∧h[b]?=some (.cells cs e fz)∧vs m=.agg cs∧tm[t]?=some (vs m)
 | .bx n g=>gdOK E g→∃ b cs e fz,tm[t]?=some (.pointer (some ⟨b,0,none⟩))∧h[b]?=some (.cells cs e fz)∧vs n=.agg cs∧¬ O b
 | .fv f ns g=>gdOK E g→tm[t]?=some (.func (.func f) #[] (ns.map vs).toArray)
 | .fb f ns g=>gdOK E g→∃ b cs e fz,tm[t]?=some (.pointer (some ⟨b,0,none⟩))∧h[b]?=some (.cells cs e fz)∧cs[0]?=some (.func (.func f) #[] (ns.map vs).toArray)∧¬ O b
 | .ag r g=>gdOK E g→al r→∃ xs b cs e fz,E r=.g xs∧vs r=.pointer (some ⟨b,0,none⟩)∧h[b]?=some (.cells cs e fz)∧tm[t]?=some (.agg cs)
 | .lh n g=>gdOK E g→∃ xs ad len cap,E n=.l xs∧vs n=.slice ad len cap∧xs.length=len∧(∀ i,i<len→∃ b off,ad=some ⟨b,off,none⟩)∧tm[t]?=some (vs n)
 | .sa n e g=>gdOK E g→∃ i b o,PE.ev E (.e e)=some i∧Stp (vs n) i b o∧tm[t]?=some (.pointer (some ⟨b,o,none⟩))
structure Cx where
 P:Program
 fid:Nat→Nat
 w0:World
 Ab:Nat→Prop
 Xb:Nat→Prop
 nt:Nat
 fix:List (Nat×Value)
 hX:∀ b,Xb b→b<w0.heap.size∧¬ Ab b
def OB (F:Fact→Prop) (Bs:Nat→List Nat):Nat→Prop:=fun b=>∃ n s,F (.en n s)∧b∈Bs n
def OBk (F:Fact→Prop) (Bs:Nat→List Nat) (kill:Nat→Prop):Nat→Prop:=fun b=>∃ n s,F (.en n s)∧¬ kill n∧b∈Bs n
def alive (F:Fact→Prop):Nat→Prop:=fun n=>∃ s,F (.en n s)
structure HoldsG (c:Cx) (F:Fact→Prop) (E:Nat→D) (a:Act) (w:World) (vs:Nat→Value) (Bs:Nat→List Nat):Prop where
 own:∀ n s,F (.en n s)→Own c.fid w.heap (OB F Bs) c.Xb s (E n) (vs n) (Bs n)
 nodup:∀ n s,F (.en n s)→(Bs n).Nodup
 mine:∀ n s,F (.en n s)→∀ b∈Bs n,c.w0.heap.size≤b∨c.Ab b
 apart:∀ n s m r,F (.en n s)→F (.en m r)→n≠m→∀ b∈Bs n,b∉Bs m
 loc:∀ t l,F (.sl t l)→LocR w.heap E vs (OB F Bs) (alive F) a.tmps t l
 agr:Agr c.Ab c.w0.heap w.heap
 os:w.os=c.w0.os
 tape:w.tape=c.w0.tape
 output:w.output=c.w0.output
 defers:a.defers=[]
 size:a.tmps.size=c.nt
def HoldsX (c:Cx) (F:Fact→Prop) (E:Nat→D) (a:Act) (w:World):Prop:=∃ vs Bs,HoldsG c F E a w vs Bs
def Cx.fixed (c:Cx) (a:Act):Prop:=∀ x∈c.fix,a.tmps[x.1]?=some x.2
def Holds (c:Cx) (F:Fact→Prop) (E:Nat→D) (a:Act) (w:World):Prop:=HoldsX c F E a w∧c.fixed a
theorem RdL.get {fid:Nat→Nat} {h:Array Obj} {Z:Nat→Prop}:∀ {ds:List D} {vs:List Value} {i:Nat} {d:D},RdL fid h Z ds vs→ds[i]?=some d→∃ v,vs[i]?=some v∧Rd fid h Z d v
 | [],_,_,_=>fun _ h=>by simp at h
 | d::ds,v::vs,0,_=>fun r h=>by simp only [RdL] at r; simp at h; exact ⟨v,by simp,h ▸ r.1⟩
 | d::ds,v::vs,i+1,_=>fun r h=>by
  simp only [RdL] at r
  obtain ⟨u,h1,h2⟩:=RdL.get r.2 (by simpa using h)
  exact ⟨u,by simpa using h1,h2⟩
 | _::_,[],_,_=>fun r _=>by simp [RdL] at r
theorem Each.get {R:D→Value→List Nat→Prop}:∀ {ds:List D} {vs:List Value} {B:List Nat} {i:Nat} {d:D},Each R ds vs B→ds[i]?=some d→
  ∃ v B1,vs[i]?=some v∧(∀ b∈B1,b∈B)∧R d v B1
 | [],_,_,_,_=>fun _ h=>by simp at h
 | d::ds,v::vs,B,0,_=>fun r h=>by
  simp only [Each] at r; simp at h
  obtain ⟨B1,B2,rfl,h1,h2⟩:=r
  exact ⟨v,B1,by simp,fun b hb=>qal _ hb,h ▸ h1⟩
 | d::ds,v::vs,B,i+1,_=>fun r h=>by
  simp only [Each] at r
  obtain ⟨B1,B2,rfl,h1,h2⟩:=r
  obtain ⟨u,B3,e1,e2,e3⟩:=Each.get h2 (by simpa using h)
  exact ⟨u,B3,by simpa using e1,fun b hb=>qar _ (e2 b hb),e3⟩
 | _::_,[],_,_,_=>fun r _=>by simp [Each] at r
theorem drop_get {cs:Array Value} {off i:Nat}:(cs.toList.drop off)[i]?=cs[off+i]?:=by
 simp [List.getElem?_drop]
theorem Wk.read {fid:Nat→Nat} {h h':Array Obj} {Z:Nat→Prop} (hk:∀ b,b<h.size→¬ Z b→h'[b]?=h[b]?):∀ (is:List Nat) (d:D) (v:Value) (b o:Nat) (x:Value) (d':D),
  Rd fid h Z d v→getP is d=some d'→Wk h is v b o x→Wk h' is v b o x
 | [],_,_,_,_,_,_=>fun _ _ k=>by simp [Wk] at k
 | i::is,d,v,b,o,x,d'=>fun r g k=>by
  cases d with
  | l xs=>
   simp only [Wk] at k ⊢
   obtain ⟨b',o',cs,e,fz,y,hv,hb,hy,k⟩:=k
   simp only [Rd] at r
   rcases r with ⟨rfl,_⟩ | ⟨b2,off2,cap2,cs2,e2,fz2,rfl,hb2,hz2,hl2,_⟩
   ·simp [getP] at g
   ·obtain ⟨rfl,hi,rfl⟩:=hv.slice
    rw [hb] at hb2
    injection hb2 with hb2
    injection hb2 with hc he hf
    subst hc
    refine ⟨b',_,cs,e,fz,y,hv,(hk b' (lt_of_some hb) hz2).trans hb,hy,?_⟩
    rcases k with k | ⟨hne,k⟩
    ·exact .inl k
    ·refine .inr ⟨hne,?_⟩
     simp only [getP] at g
     cases hx:xs[i]? with
     | none=>simp [hx] at g
     | some d1=>
      simp only [hx,Option.bind_some] at g
      obtain ⟨u,hu,hr⟩:=RdL.get hl2 hx
      rw [drop_get,hy] at hu
      injection hu with hu
      subst hu
      exact Wk.read hk is d1 y b o x d' hr g k
  | g xs=>
   simp only [Wk] at k
   obtain ⟨b',o',cs,e,fz,y,hv,hb,hy,k⟩:=k
   simp only [Rd] at r
   obtain ⟨cs2,rfl,_⟩:=r
   exact hv.agg.elim
  | _=>simp [getP] at g
theorem Wk.own {fid:Nat→Nat} {h h':Array Obj} {O X:Nat→Prop}:∀ (is:List Nat) (s:Sh) (d:D) (v:Value) (B:List Nat) (b o:Nat) (x:Value) (d':D),
  (∀ b,b<h.size→(b∈B∨¬ O b)→h'[b]?=h[b]?)→Own fid h O X s d v B→getP is d=some d'→Wk h is v b o x→Wk h' is v b o x
 | [],_,_,_,_,_,_,_,_=>fun _ _ _ k=>by simp [Wk] at k
 | i::is,.v,d,v,B,b,o,x,d'=>fun hk r g k=>by
  simp only [Own] at r
  exact Wk.read (fun b hb hz=>hk b hb (.inr fun q=>hz (.inl q))) (i::is) d v b o x d' r.2 g k
 | i::is,.y,d,v,B,b,o,x,d'=>fun hk r g k=>by
  simp only [Own] at r
  exact Wk.read (fun b hb hz=>hk b hb (.inr hz)) (i::is) d v b o x d' r.2 g k
 | i::is,.a s,d,v,B,b,o,x,d'=>fun hk r g k=>by
  simp only [Own] at r
  simp only [Wk] at k
  obtain ⟨b',o',cs,e,fz,y,hv,hb,hy,k⟩:=k
  obtain ⟨xs,cs2,_,rfl,_⟩:=r
  exact hv.agg.elim
 | i::is,.b s,d,v,B,b,o,x,d'=>fun hk r g k=>by
  simp only [Own] at r
  simp only [Wk] at k ⊢
  obtain ⟨b',o',cs,e,fz,y,hv,hb,hy,k⟩:=k
  obtain ⟨xs,b2,cs2,e2,fz2,B',rfl,rfl,rfl,hb2,_,_,he⟩:=r
  obtain ⟨rfl,rfl⟩:=hv.box
  rw [hb] at hb2
  injection hb2 with hb2
  injection hb2 with hc _ _
  subst hc
  refine ⟨b',_,cs,e,fz,y,hv,(hk b' (lt_of_some hb) (.inl (by simp))).trans hb,hy,?_⟩
  rcases k with k | ⟨hne,k⟩
  ·exact .inl k
  ·refine .inr ⟨hne,?_⟩
   simp only [getP] at g
   cases hx:xs[o']? with
   | none=>simp [hx] at g
   | some d1=>
    simp only [hx,Option.bind_some] at g
    obtain ⟨u,B1,hu,hB1,hr⟩:=Each.get he hx
    rw [Array.getElem?_toList,hy] at hu
    injection hu with hu
    subst hu
    exact Wk.own is s d1 y B1 b o x d' (fun b hb hq=>hk b hb (hq.imp (fun q=>qmc _ (hB1 b q)) id)) hr g k
 | i::is,.o s,d,v,B,b,o,x,d'=>fun hk r g k=>by
  simp only [Own] at r
  simp only [Wk] at k ⊢
  obtain ⟨b',o',cs,e,fz,y,hv,hb,hy,k⟩:=k
  rcases r with ⟨q | q,_⟩ | ⟨xs,rfl,r⟩
  ·subst q; simp [getP] at g
  ·cases d <;> simp [getP] at g <;> simp [D.flat] at q
  rcases r with ⟨rfl,_⟩ | ⟨b2,off2,cap2,cs2,e2,fz2,B',rfl,rfl,hb2,_,h1,_,_,he⟩
  ·exact hv.none.elim
  ·obtain ⟨rfl,hi,rfl⟩:=hv.slice
   rw [hb] at hb2
   injection hb2 with hb2
   injection hb2 with hc _ _
   subst hc
   refine ⟨b',_,cs,e,fz,y,hv,(hk b' (lt_of_some hb) (.inl (by simp))).trans hb,hy,?_⟩
   rcases k with k | ⟨hne,k⟩
   ·exact .inl k
   ·refine .inr ⟨hne,?_⟩
    simp only [getP] at g
    cases hx:xs[i]? with
    | none=>simp [hx] at g
    | some d1=>
     simp only [hx,Option.bind_some] at g
     obtain ⟨u,B1,hu,hB1,hr⟩:=Each.get he hx
     rw [drop_get,hy] at hu
     injection hu with hu
     subst hu
     exact Wk.own is s d1 y B1 b o x d' (fun b hb hq=>hk b hb (hq.imp (fun q=>qmc _ (hB1 b q)) id)) hr g k
theorem Own.isBox {fid:Nat→Nat} {h:Array Obj} {O X:Nat→Prop} {s:Sh} {xs:List D} {b:Nat} {B:List Nat} (r:Own fid h O X s (.g xs) (.pointer (some ⟨b,0,none⟩)) B):
  ∃ s' cs e B',s=.b s'∧B=b::B'∧h[b]?=some (.cells cs e (0,0))∧cs.size=xs.length∧Each (Own fid h O X s') xs cs.toList B':=by
 cases s with
 | v=>simp [Own,Rd] at r
 | y=>simp [Own,Rd] at r
 | o s=>simp [Own,D.flat] at r
 | a s=>simp [Own] at r
 | b s=>
  simp only [Own] at r
  obtain ⟨xs',b',cs,e,fz,B',h1,h2,h3,h4,h5,h6,h7⟩:=r
  injection h1 with h1
  injection h3 with h3
  injection h3 with h3
  injection h3 with h3
  subst h1 h3
  have:fz=(0,0):=h5
  subst this
  exact ⟨s,cs,e,B',rfl,h2,h4,h6,h7⟩
theorem gdOK.imp {E:Nat→D} {g:Gd} {p q:Prop} (h:gdOK E g→p) (f:p→q):gdOK E g→q:=fun k=>f (h k)
theorem HoldsG.step {c:Cx} {F F':Fact→Prop} {E:Nat→D} {a a':Act} {w w':World} {vs vs':Nat→Value} {Bs Bs':Nat→List Nat}
  (New kill S:Nat→Prop) (dst:Option Nat) (H:HoldsG c F E a w vs Bs)
  (hv:∀ n,¬ New n→vs' n=vs n) (hB:∀ n,¬ New n→Bs' n=Bs n)
  (fr2:∀ t l,F (.sl t l)→∀ n∈l.ments,¬ New n)
  (hS:∀ b,S b→∃ n s,F (.en n s)∧kill n∧b∈Bs n)
  (ha:Agr S w.heap w'.heap) (hos:w'.os=w.os) (htape:w'.tape=w.tape) (hout:w'.output=w.output)
  (tm:∀ t,some t≠dst→a'.tmps[t]?=a.tmps[t]?) (sz:a'.tmps.size=a.tmps.size) (df:a'.defers=a.defers)
  (hF:∀ f,F' f→(F f∧(match f with | .en n _=>¬ kill n | .sl t _=>some t≠dst))∨(match f with | .en n _=>New n | .sl t _=>some t=dst))
  (own':∀ n s,New n→F' (.en n s)→Own c.fid w'.heap (fun b=>OBk F Bs kill b∨∃ m,New m∧b∈Bs' m) c.Xb s (E n) (vs' n) (Bs' n))
  (nd':∀ n s,New n→F' (.en n s)→(Bs' n).Nodup)
  (bl':∀ n s,New n→F' (.en n s)→∀ b∈Bs' n,(∃ m r,F (.en m r)∧kill m∧b∈Bs m)∨w.heap.size≤b)
  (ap':∀ n s m r,New n→New m→F' (.en n s)→F' (.en m r)→n≠m→∀ b∈Bs' n,b∉Bs' m)
  (loc':∀ t l,some t=dst→F' (.sl t l)→LocR w'.heap E vs' (fun b=>OBk F Bs kill b∨∃ m,New m∧b∈Bs' m) (alive F') a'.tmps t l):
  HoldsG c F' E a' w' vs' Bs':=by
 have hSO:∀ b,S b→OB F Bs b:=fun b hb=>let ⟨n,s,h1,_,h3⟩:=hS b hb; ⟨n,s,h1,h3⟩
 have old:∀ n s,F' (.en n s)→¬ New n→F (.en n s)∧¬ kill n:=fun n s h hn=>(hF _ h).resolve_right hn
 have hO:∀ b,b<w.heap.size→OB F' Bs' b→OB F Bs b:=by
  rintro b lt ⟨n,s,hf,hb⟩
  by_cases hn:New n
  ·rcases bl' n s hn hf b hb with ⟨m,r,h1,_,h3⟩ | h
   ·exact ⟨m,r,h1,h3⟩
   ·omega
  ·exact ⟨n,s,(old n s hf hn).1,hB n hn ▸ hb⟩
 have hO2:∀ b,OB F' Bs' b→OBk F Bs kill b∨∃ m,New m∧b∈Bs' m:=by
  rintro b ⟨n,s,hf,hb⟩
  by_cases hn:New n
  ·exact .inr ⟨n,hn,hb⟩
  ·exact .inl ⟨n,s,(old n s hf hn).1,(old n s hf hn).2,hB n hn ▸ hb⟩
 have notS:∀ n s,F (.en n s)→¬ kill n→∀ b∈Bs n,¬ S b:=by
  intro n s hf hk b hb hs
  obtain ⟨m,r,h1,h2,h3⟩:=hS b hs
  exact H.apart n s m r hf h1 (fun e=>hk (e ▸ h2)) b hb h3
 have keepB:∀ n s,F (.en n s)→¬ kill n→∀ b,b<w.heap.size→(b∈Bs n∨¬ OB F Bs b)→w'.heap[b]?=w.heap[b]?:=by
  intro n s hf hk b lt hb
  refine ha.same b lt fun hs=>?_
  rcases hb with hb | hb
  ·exact notS n s hf hk b hb hs
  ·exact hb (hSO b hs)
 constructor
 ·intro n s hf
  by_cases hn:New n
  ·exact Own.ext (Agr.refl (fun _=>False) _) (fun _ _ q=>q.elim) (fun b _ q=>hO2 b q) s _ _ _ (fun _ _ q=>q) (own' n s hn hf)
  ·obtain ⟨h1,h2⟩:=old n s hf hn
   rw [hv n hn,hB n hn]
   exact Own.ext ha (fun b _=>hSO b) hO s _ _ _ (notS n s h1 h2) (H.own n s h1)
 ·intro n s hf
  by_cases hn:New n
  ·exact nd' n s hn hf
  ·rw [hB n hn]; exact H.nodup n s (old n s hf hn).1
 ·intro n s hf b hb
  by_cases hn:New n
  ·rcases bl' n s hn hf b hb with ⟨m,r,h1,_,h3⟩ | h
   ·exact H.mine m r h1 b h3
   ·exact .inl (Nat.le_trans H.agr.size h)
  ·exact H.mine n s (old n s hf hn).1 b (hB n hn ▸ hb)
 ·intro n s m r hf hg hne b hb hb2
  have lt_of:∀ n s,F (.en n s)→∀ b∈Bs n,b<w.heap.size:=fun n s h=>Own.blocks_lt s _ _ _ (H.own n s h)
  by_cases hn:New n <;> by_cases hm:New m
  ·exact ap' n s m r hn hm hf hg hne b hb hb2
  ·obtain ⟨h1,h2⟩:=old m r hg hm
   rw [hB m hm] at hb2
   rcases bl' n s hn hf b hb with ⟨k,q,k1,k2,k3⟩ | h
   ·exact H.apart k q m r k1 h1 (fun e=>h2 (e ▸ k2)) b k3 hb2
   ·have:=lt_of m r h1 b hb2; omega
  ·obtain ⟨h1,h2⟩:=old n s hf hn
   rw [hB n hn] at hb
   rcases bl' m r hm hg b hb2 with ⟨k,q,k1,k2,k3⟩ | h
   ·exact H.apart k q n s k1 h1 (fun e=>h2 (e ▸ k2)) b k3 hb
   ·have:=lt_of n s h1 b hb; omega
  ·rw [hB n hn] at hb; rw [hB m hm] at hb2
   exact H.apart n s m r (old n s hf hn).1 (old m r hg hm).1 hne b hb hb2
 ·intro t l hf
  by_cases hd:some t=dst
  ·have:=loc' t l hd hf
   cases l with
   | is n g=>exact this
   | vc n g=>
    intro hg
    obtain ⟨b,o,cs,e,fz,k1,k2,k3,k4⟩:=this hg
    exact ⟨b,o,cs,e,fz,k1,k2,k3,fun q=>k4 (hO2 b q)⟩
   | ad r p m g=>exact this
   | ip r p m g=>exact this
   | tu ns g=>exact this
   | aw r p g=>exact this
   | ia r m g=>exact this
   | bx n g=>
    intro hg
    obtain ⟨b,cs,e,fz,k1,k2,k3,k4⟩:=this hg
    exact ⟨b,cs,e,fz,k1,k2,k3,fun q=>k4 (hO2 b q)⟩
   | ag r g=>exact this
   | lh n g=>exact this
   | sa n e g=>exact this
   | fv f ns g=>exact this
   | fb f ns g=>
    intro hg
    obtain ⟨b,cs,e,fz,k1,k2,k3,k4⟩:=this hg
    exact ⟨b,cs,e,fz,k1,k2,k3,fun q=>k4 (hO2 b q)⟩
  ·have hfo:=((hF _ hf).resolve_right hd).1
   have hl:=H.loc t l hfo
   have hm:=fr2 t l hfo
   cases l with
   | is n g=>
    refine ⟨fun hg=>?_,fun hg=>?_⟩
    ·rw [tm t hd,hv n (hm n (by simp [Loc.ments]))]; exact hl.1 hg
    ·rw [tm t hd]; exact hl.2 hg
   | vc n g=>
    intro hg
    obtain ⟨b,o,cs,e,fz,k1,k2,k3,k4⟩:=hl hg
    have lt:=lt_of_some k2
    exact ⟨b,o,cs,e,fz,(tm t hd).trans k1,(ha.same b lt fun q=>k4 (hSO b q)).trans k2,by rw [hv n (hm n (by simp [Loc.ments]))]; exact k3,fun q=>k4 (hO b lt q)⟩
   | ad r p m g=>
    intro hg hal
    obtain ⟨s,hs⟩:=hal
    have hr:¬ New r:=hm r (by simp [Loc.ments])
    obtain ⟨h1,h2⟩:=old r s hs hr
    obtain ⟨is,b,o,d,k1,k2,k3,k4⟩:=hl hg ⟨s,h1⟩
    refine ⟨is,b,o,d,k1,k2,?_,(tm t hd).trans k4⟩
    rw [hv r hr,hv m (hm m (by simp [Loc.ments]))]
    exact Wk.own is s _ _ _ b o _ d (keepB r s h1 h2) (H.own r s h1) k2 k3
   | ip r p m g=>
    intro hg hal
    obtain ⟨s,hs⟩:=hal
    have hr:¬ New r:=hm r (by simp [Loc.ments])
    obtain ⟨h1,h2⟩:=old r s hs hr
    obtain ⟨is,b,o,d,k1,k2,k3,k4⟩:=hl hg ⟨s,h1⟩
    refine ⟨is,b,o,d,k1,k2,?_,?_⟩
    ·rw [hv r hr,hv m (hm m (by simp [Loc.ments]))]
     exact Wk.own is s _ _ _ b o _ d (keepB r s h1 h2) (H.own r s h1) k2 k3
    ·rw [tm t hd,hv m (hm m (by simp [Loc.ments]))]; exact k4
   | tu ns g=>
    intro hg
    rw [tm t hd,hl hg]
    congr 3
    exact List.map_congr_left fun n hn=>(hv n (hm n (by simpa [Loc.ments] using hn))).symm
   | aw r p g=>
    intro hg hal
    obtain ⟨s,hs⟩:=hal
    have hr:¬ New r:=hm r (by simp [Loc.ments])
    obtain ⟨h1,h2⟩:=old r s hs hr
    obtain ⟨is,b,o,d,x,k1,k2,k3,k4⟩:=hl hg ⟨s,h1⟩
    refine ⟨is,b,o,d,x,k1,k2,?_,(tm t hd).trans k4⟩
    rw [hv r hr]
    exact Wk.own is s _ _ _ b o _ d (keepB r s h1 h2) (H.own r s h1) k2 k3
   | ia r m g=>
    intro hg hal
    obtain ⟨s,hs⟩:=hal
    have hr:¬ New r:=hm r (by simp [Loc.ments])
    have hm':¬ New m:=hm m (by simp [Loc.ments])
    obtain ⟨h1,h2⟩:=old r s hs hr
    obtain ⟨xs,b,cs,e,fz,k1,k2,k3,k4,k5,k6⟩:=hl hg ⟨s,h1⟩
    have ho:=H.own r s h1
    rw [k1,k3] at ho
    obtain ⟨s',cs',e',B',_,hB',_⟩:=ho.isBox
    refine ⟨xs,b,cs,e,fz,k1,k2,by rw [hv r hr]; exact k3,?_,by rw [hv m hm']; exact k5,by rw [hv m hm']; exact (tm t hd).trans k6⟩
    exact (keepB r s h1 h2 b (lt_of_some k4) (.inl (by rw [hB']; simp))).trans k4
   | bx n g=>
    intro hg
    obtain ⟨b,cs,e,fz,k1,k2,k3,k4⟩:=hl hg
    have lt:=lt_of_some k2
    exact ⟨b,cs,e,fz,(tm t hd).trans k1,(ha.same b lt fun q=>k4 (hSO b q)).trans k2,by rw [hv n (hm n (by simp [Loc.ments]))]; exact k3,fun q=>k4 (hO b lt q)⟩
   | ag r g=>
    intro hg hal
    obtain ⟨s,hs⟩:=hal
    have hr:¬ New r:=hm r (by simp [Loc.ments])
    obtain ⟨h1,h2⟩:=old r s hs hr
    obtain ⟨xs,b,cs,e,fz,k1,k3,k4,k6⟩:=hl hg ⟨s,h1⟩
    have ho:=H.own r s h1
    rw [k1,k3] at ho
    obtain ⟨s',cs',e',B',_,hB',_⟩:=ho.isBox
    refine ⟨xs,b,cs,e,fz,k1,by rw [hv r hr]; exact k3,?_,(tm t hd).trans k6⟩
    exact (keepB r s h1 h2 b (lt_of_some k4) (.inl (by rw [hB']; simp))).trans k4
   | lh n g=>
    intro hg
    obtain ⟨xs,ad,len,cap,k1,k2,k3,k4,k5⟩:=hl hg
    have hn:=hv n (hm n (by simp [Loc.ments]))
    exact ⟨xs,ad,len,cap,k1,by rw [hn]; exact k2,k3,k4,by rw [tm t hd,hn]; exact k5⟩
   | sa n e g=>
    intro hg
    obtain ⟨i,b,o,k1,k2,k3⟩:=hl hg
    have hn:=hv n (hm n (by simp [Loc.ments]))
    exact ⟨i,b,o,k1,by rw [hn]; exact k2,(tm t hd).trans k3⟩
   | fv f ns g=>
    intro hg
    rw [tm t hd,hl hg]
    have e:ns.map vs=ns.map vs':=List.map_congr_left fun n hn=>(hv n (hm n (by simpa [Loc.ments] using hn))).symm
    rw [e]
   | fb f ns g=>
    intro hg
    obtain ⟨b,cs,e,fz,k1,k2,k3,k4⟩:=hl hg
    have lt:=lt_of_some k2
    have e':ns.map vs=ns.map vs':=List.map_congr_left fun n hn=>(hv n (hm n (by simpa [Loc.ments] using hn))).symm
    rw [e'] at k3
    exact ⟨b,cs,e,fz,(tm t hd).trans k1,(ha.same b lt fun q=>k4 (hSO b q)).trans k2,k3,fun q=>k4 (hO b lt q)⟩
 ·refine ⟨Nat.le_trans H.agr.size ha.size,fun b hb hn=>(ha.same b (Nat.lt_of_lt_of_le hb H.agr.size) fun hs=>?_).trans (H.agr.same b hb hn)⟩
  obtain ⟨m,r,h1,_,h3⟩:=hS b hs
  rcases H.mine m r h1 b h3 with q | q
  ·omega
  ·exact hn q
 ·exact hos.trans H.os
 ·exact htape.trans H.tape
 ·exact hout.trans H.output
 ·exact df.trans H.defers
 ·exact sz.trans H.size
theorem HoldsG.more {c:Cx} {F G:Fact→Prop} {E:Nat→D} {a:Act} {w:World} {vs:Nat→Value} {Bs:Nat→List Nat} (H:HoldsG c F E a w vs Bs)
  (hen:∀ n s,G (.en n s)↔F (.en n s)) (hsl:∀ t l,G (.sl t l)→F (.sl t l)∨∃ n g r,l=.is n g∧F (.sl t (.is r g))∧vs n=vs r):HoldsG c G E a w vs Bs:=by
 have hOB:OB G Bs=OB F Bs:=by
  funext b
  simp only [OB,hen]
 have hal:alive G=alive F:=by
  funext n
  simp only [alive,hen]
 constructor
 ·intro n s h; rw [hOB]; exact H.own n s ((hen n s).1 h)
 ·intro n s h; exact H.nodup n s ((hen n s).1 h)
 ·intro n s h; exact H.mine n s ((hen n s).1 h)
 ·intro n s m r h h2; exact H.apart n s m r ((hen n s).1 h) ((hen m r).1 h2)
 ·intro t l h
  rw [hOB,hal]
  rcases hsl t l h with h | ⟨n,g,r,rfl,h1,h2⟩
  ·exact H.loc t l h
  ·have:=H.loc t _ h1
   refine ⟨fun hg=>?_,this.2⟩
   rw [h2]; exact this.1 hg
 ·exact H.agr
 ·exact H.os
 ·exact H.tape
 ·exact H.output
 ·exact H.defers
 ·exact H.size
theorem HoldsG.more2 {c:Cx} {F G:Fact→Prop} {E:Nat→D} {a:Act} {w:World} {vs:Nat→Value} {Bs:Nat→List Nat} (H:HoldsG c F E a w vs Bs)
  (hen:∀ n s,G (.en n s)↔F (.en n s)) (hsl:∀ t l,G (.sl t l)→F (.sl t l)∨LocR w.heap E vs (OB F Bs) (alive F) a.tmps t l):HoldsG c G E a w vs Bs:=by
 have hOB:OB G Bs=OB F Bs:=by
  funext b
  simp only [OB,hen]
 have hal:alive G=alive F:=by
  funext n
  simp only [alive,hen]
 constructor
 ·intro n s h; rw [hOB]; exact H.own n s ((hen n s).1 h)
 ·intro n s h; exact H.nodup n s ((hen n s).1 h)
 ·intro n s h; exact H.mine n s ((hen n s).1 h)
 ·intro n s m r h h2; exact H.apart n s m r ((hen n s).1 h) ((hen m r).1 h2)
 ·intro t l h
  rw [hOB,hal]
  exact (hsl t l h).elim (H.loc t l) id
 ·exact H.agr
 ·exact H.os
 ·exact H.tape
 ·exact H.output
 ·exact H.defers
 ·exact H.size
def slotsOf (st:List Fact) (r:Nat):List (Nat×Gd):=st.filterMap fun f=>match f with
 | .sl t (.is n g)=>if n=r then some (t,g) else none
 | _=>none
theorem HoldsX.weak {c:Cx} {F F':Fact→Prop} {E:Nat→D} {a:Act} {w:World} (h:HoldsX c F E a w) (hF:∀ f,F' f→F f):HoldsX c F' E a w:=by
 obtain ⟨vs,Bs,H⟩:=h
 have hO:∀ b,OB F' Bs b→OB F Bs b:=fun b ⟨n,s,h1,h2⟩=>⟨n,s,hF _ h1,h2⟩
 refine ⟨vs,Bs,?_,fun n s h=>H.nodup n s (hF _ h),fun n s h=>H.mine n s (hF _ h),fun n s m r h k=>H.apart n s m r (hF _ h) (hF _ k),?_,H.agr,H.os,H.tape,H.output,H.defers,H.size⟩
 ·intro n s h
  exact Own.ext (Agr.refl (fun _=>False) _) (fun _ _ q=>q.elim) (fun b _=>hO b) s _ _ _ (fun _ _ q=>q) (H.own n s (hF _ h))
 ·intro t l h
  have:=H.loc t l (hF _ h)
  cases l with
  | is n g=>exact this
  | vc n g=>
   intro hg
   obtain ⟨b,o,cs,e,fz,k1,k2,k3,k4⟩:=this hg
   exact ⟨b,o,cs,e,fz,k1,k2,k3,fun q=>k4 (hO b q)⟩
  | ad r p m g=>exact fun hg ⟨s,hs⟩=>this hg ⟨s,hF _ hs⟩
  | ip r p m g=>exact fun hg ⟨s,hs⟩=>this hg ⟨s,hF _ hs⟩
  | tu ns g=>exact this
  | aw r p g=>exact fun hg ⟨s,hs⟩=>this hg ⟨s,hF _ hs⟩
  | ia r m g=>exact fun hg ⟨s,hs⟩=>this hg ⟨s,hF _ hs⟩
  | bx n g=>
   intro hg
   obtain ⟨b,cs,e,fz,k1,k2,k3,k4⟩:=this hg
   exact ⟨b,cs,e,fz,k1,k2,k3,fun q=>k4 (hO b q)⟩
  | ag r g=>exact fun hg ⟨s,hs⟩=>this hg ⟨s,hF _ hs⟩
  | lh n g=>exact this
  | sa n e g=>exact this
  | fv f ns g=>exact this
  | fb f ns g=>
   intro hg
   obtain ⟨b,cs,e,fz,k1,k2,k3,k4⟩:=this hg
   exact ⟨b,cs,e,fz,k1,k2,k3,fun q=>k4 (hO b q)⟩
theorem Holds.mono {c:Cx} {F F':Fact→Prop} {E:Nat→D} {a:Act} {w:World} (h:Holds c F E a w) (hF:∀ f,F' f→F f):Holds c F' E a w:=⟨h.1.weak hF,h.2⟩
end Go.Cat
namespace Go.Cat
structure Sm where
 needs:List Fact
 kill:List Nat
 adds:List Fact
def next (F:Fact→Prop) (dst:Option Nat) (sm:Sm):Fact→Prop:=fun f=>
 (F f∧(match f with | .en n _=>n∉sm.kill | .sl t _=>some t≠dst))∨f∈sm.adds
structure CF where
 P:Program
 fid:Nat→Nat
 gof:Nat→Option Nat
 nt:Nat
 fx:List Nat:=[]
 cl:Option (Nat×Nat×List Nat):=none
structure CF.Fits (cf:CF) (c:Cx):Prop where
 P:c.P=cf.P
 fid:c.fid=cf.fid
 nt:c.nt=cf.nt
 gof:∀ f k,cf.gof f=some k→cf.fid k=f
 fx:∀ x∈c.fix,x.1∈cf.fx
 cl:∀ m k cs,cf.cl=some (m,k,cs)→∃ (b:Nat) (hs:Array Value) (e:TypeId) (fz:Nat×Nat) (vl:Nat→Value),(m,Value.pointer (some ⟨b,0,none⟩))∈c.fix∧(∀ t∈cs,(t,vl t)∈c.fix)∧
  c.w0.heap[b]?=some (.cells hs e fz)∧hs[0]?=some (.func (.func (cf.fid k)) #[] (cs.map vl).toArray)∧¬ c.Ab b
def Loc.isFb:Loc→Bool
 | .fb ..=>true
 | _=>false
def findSl:List Fact→Nat→Option Loc
 | [],_=>none
 | .sl t l::r,u=>if t=u∧l.isFb=false then some l else findSl r u
 | .en _ _::r,u=>findSl r u
def findEn:List Fact→Nat→Option Sh
 | [],_=>none
 | .en n s::r,m=>if n=m then some s else findEn r m
 | .sl _ _::r,m=>findEn r m
def constD:Value→Option D
 | .int k n=>some (.i k n)
 | .bool b=>some (.b b)
 | .string s=>if s.size≤4294967296 then some (.s (s.data.toList.map (·.toNat))) else none
 | .pointer none=>some .z
 | .slice none 0 0=>some (.l [])
 | _=>none
def opA (cf:CF) (st:List Fact) (g:Gd):Operand→Option (A×Sh×List Fact)
 | .const v=>(constD v).map fun d=>(.c d,.v,[])
 | .func f=>(cf.gof f).map fun k=>(.c (.f k []),.v,[])
 | .tmp t=>match findSl st t with
  | some (.is n g')=>if g'.isPrefixOf g then (findEn st n).map fun s=>(.e n,s,[.sl t (.is n g'),.en n s]) else none
  | _=>none
 | .global _=>none
theorem constD_nil {v:Value} (h:constD v=some (.l [])):v=.slice none 0 0:=by
 unfold constD at h
 split at h <;> try (injection h with h; cases h)
 ·split at h
  ·injection h with h; cases h
  ·cases h
 ·rfl
 ·cases h
theorem constD_rd {fid:Nat→Nat} {h:Array Obj} {Z:Nat→Prop} {v:Value} {d:D} (e:constD v=some d):Rd fid h Z d v:=by
 unfold constD at e
 split at e
 ·injection e with e; subst e; simp [Rd]
 ·injection e with e; subst e; simp [Rd]
 ·rename_i s
  split at e
  ·rename_i hs
   injection e with e; subst e
   simp only [Rd,strV]
   refine ⟨?_,?_,?_⟩
   ·congr 1
    apply ByteArray.ext
    simp only [List.map_map]
    apply Array.ext'
    have:((fun c=>UInt8.ofNat c) ∘ fun x:UInt8=>x.toNat)=id:=by funext x; simp
    simp [this]
   ·intro c hc
    simp only [List.mem_map] at hc
    obtain ⟨x,_,rfl⟩:=hc
    exact x.toNat_lt
   ·simp only [List.length_map,Array.length_toList]
    have:s.data.size=s.size:=rfl
    omega
  ·simp at e
 ·injection e with e; subst e; simp [Rd]
 ·injection e with e; subst e; simp [Rd]
 ·simp at e
theorem opA_sound {cf:CF} {c:Cx} (hc:cf.Fits c) {st:List Fact} {g:Gd} {x:Operand} {A:A} {s:Sh} {ns:List Fact} (h:opA cf st g x=some (A,s,ns))
  {F:Fact→Prop} {E:Nat→D} {a:Act} {w:World} {vs:Nat→Value} {Bs:Nat→List Nat} (H:HoldsG c F E a w vs Bs) (hF:∀ f∈ns,F f) (hg:gdOK E g):
  ∃ B,Own c.fid w.heap (OB F Bs) c.Xb s (ev E A) (a.eval x) B∧(∀ n,A=.e n→F (.en n s)∧a.eval x=vs n∧B=Bs n):=by
 cases x with
 | const v=>
  simp only [opA,qms] at h
  obtain ⟨d,hd,h⟩:=h
  simp only [qpj] at h
  obtain ⟨rfl,rfl,rfl⟩:=h
  exact ⟨[],by simp only [Own,ev]; exact ⟨trivial,constD_rd hd⟩,by simp⟩
 | func f=>
  simp only [opA,qms] at h
  obtain ⟨k,hk,h⟩:=h
  simp only [qpj] at h
  obtain ⟨rfl,rfl,rfl⟩:=h
  refine ⟨[],?_,by simp⟩
  simp only [Own,ev,Rd]
  refine ⟨trivial,#[],?_,rfl,by simp [RdL]⟩
  rw [hc.fid,hc.gof f k hk]
  rfl
 | global g=>simp [opA] at h
 | tmp t=>
  simp only [opA] at h
  split at h
  ·rename_i n g' hl
   split at h
   ·rename_i hg'
    simp only [qms] at h
    obtain ⟨s',hs,h⟩:=h
    simp only [qpj] at h
    obtain ⟨rfl,rfl,rfl⟩:=h
    have h1:=H.loc t _ (hF (.sl t (.is n g')) (by simp))
    have h2:=hF (.en n s') (by simp)
    have h3:gdOK E g':=fun x hx=>hg x ((List.isPrefixOf_iff_prefix.1 hg').subset hx)
    have h4:=h1.1 h3
    have h5:a.eval (.tmp t)=vs n:=by simp [Act.eval,qag,h4]
    refine ⟨Bs n,?_,?_⟩
    ·rw [h5]; exact H.own n s' h2
    ·intro m hm; injection hm with hm; subst hm; exact ⟨h2,h5,rfl⟩
   ·simp at h
  ·simp at h
section
variable {fid:Nat→Nat} {h:Array Obj} {O X:Nat→Prop} {v:Value} {B:List Nat}
theorem Own.rdFlat {s:Sh} {d:D} (hd:d.flat=true) (o:Own fid h O X s d v B):Rd fid h (fun _=>False) d v:=by
 cases s with
 | v=>simp only [Own] at o; exact o.2.flat hd
 | y=>simp only [Own] at o; exact o.2.flat hd
 | o s=>
  simp only [Own] at o
  rcases o with ⟨q | q,_⟩ | ⟨xs,rfl,_⟩
  ·subst q; simp [D.flat] at hd
  ·exact q.2
  ·simp [D.flat] at hd
 | a s=>simp only [Own] at o; obtain ⟨xs,cs,rfl,_⟩:=o; simp [D.flat] at hd
 | b s=>simp only [Own] at o; obtain ⟨xs,b,cs,e,fz,B',rfl,_⟩:=o; simp [D.flat] at hd
theorem Own.int {s:Sh} {k:IntKind} {n:Int} (o:Own fid h O X s (.i k n) v B):v=.int k n:=by
 simpa [Rd] using o.rdFlat rfl
theorem Own.bool {s:Sh} {b:Bool} (o:Own fid h O X s (.b b) v B):v=.bool b:=by
 simpa [Rd] using o.rdFlat rfl
theorem Own.str {s:Sh} {x:List Nat} (o:Own fid h O X s (.s x) v B):v=strV x∧(∀ c∈x,c<256)∧x.length≤9223372036854775807:=by
 simpa [Rd] using o.rdFlat rfl
theorem Own.len {s:Sh} {xs:List D} (o:Own fid h O X s (.l xs) v B):∃ a cap,v=.slice a xs.length cap∧xs.length≤9223372036854775807:=by
 cases s with
 | v=>
  simp only [Own,Rd] at o
  rcases o.2 with ⟨rfl,a0,rfl⟩ | ⟨b,off,cap,cs,e,fz,rfl,_,_,_,h⟩
  ·exact ⟨a0,0,rfl,by simp⟩
  ·exact ⟨_,_,rfl,h.2⟩
 | y=>
  simp only [Own,Rd] at o
  rcases o.2 with ⟨rfl,a0,rfl⟩ | ⟨b,off,cap,cs,e,fz,rfl,_,_,_,h⟩
  ·exact ⟨a0,0,rfl,by simp⟩
  ·exact ⟨_,_,rfl,h.2⟩
 | o s=>
  simp only [Own] at o
  rcases o with ⟨q | q,_⟩ | ⟨ys,q,r⟩
  ·simp at q
  ·simp [D.flat] at q
  ·injection q with q
   subst q
   rcases r with ⟨rfl,rfl,_⟩ | ⟨b,off,cap,cs,e,fz,B',_,rfl,_,_,_,_,h,_⟩
   ·exact ⟨none,0,rfl,by simp⟩
   ·exact ⟨_,_,rfl,h⟩
 | a s=>simp [Own] at o
 | b s=>simp [Own] at o
end
def upd {α:Type} (f:Nat→α) (m:Nat) (v:α):Nat→α:=fun n=>if n=m then v else f n
theorem upd_same {α:Type} (f:Nat→α) (m:Nat) (v:α):upd f m v m=v:=by simp [upd]
theorem upd_ne {α:Type} (f:Nat→α) {m n:Nat} (v:α) (h:n≠m):upd f m v n=f n:=by simp [upd,h]
def Fresh (F:Fact→Prop) (m:Nat):Prop:=(∀ s,¬ F (.en m s))∧∀ t l,F (.sl t l)→m∉l.ments
def StepOK (c:Cx) (o:Oper) (sm:Sm) (F:Fact→Prop) (E:Nat→D) (a:Act) (w:World):Prop:=
 ∀ (nxt:Act→World→Prop) (Q:Exit→Act→World→Prop),(∀ a' w',HoldsX c (next F o.dst sm) E a' w'→nxt a' w')→o.wp c.P a w nxt Q
theorem StepOK.of_value {c:Cx} {o:Oper} {sm:Sm} {F:Fact→Prop} {E:Nat→D} {a:Act} {w w':World} {v:Value} (hr:(execOp a.eval o).run c.P w=.ok (.value v) w')
  (hh:HoldsX c (next F o.dst sm) E (a.put o.dst v) w'):StepOK c o sm F E a w:=by
 intro nxt Q hn
 simp only [Oper.wp,hr,Oper.upon]
 exact hn _ _ hh
theorem put_get {a:Act} {dst:Option Nat} {v:Value} {t:Nat} (h:some t≠dst):(a.put dst v).tmps[t]?=a.tmps[t]?:=by
 cases dst with
 | none=>rfl
 | some d=>
  have:d≠t:=fun e=>h (by rw [e])
  simp [Act.put,Array.getElem?_setIfInBounds_ne this]
theorem put_self {a:Act} {v:Value} {t:Nat} (h:t<a.tmps.size):(a.put (some t) v).tmps[t]?=some v:=by
 simp [Act.put,h]
theorem put_size {a:Act} {dst:Option Nat} {v:Value}:(a.put dst v).tmps.size=a.tmps.size:=by
 cases dst <;> simp [Act.put]
theorem put_defers {a:Act} {dst:Option Nat} {v:Value}:(a.put dst v).defers=a.defers:=by
 cases dst <;> rfl
def one (m:Nat) (s:Sh) (dst:Option Nat) (l:Loc):List Fact:=
 .en m s::(match dst with | some t=>[.sl t l] | none=>[])
def inB (dst:Option Nat) (nt:Nat):Bool:=match dst with | some t=>decide (t<nt) | none=>true
theorem HoldsG.leaf {c:Cx} {F:Fact→Prop} {E:Nat→D} {a:Act} {w w':World} {vs:Nat→Value} {Bs:Nat→List Nat} (H:HoldsG c F E a w vs Bs)
  {m:Nat} (hm:Fresh F m) {s:Sh} {v u:Value} {dst:Option Nat} {ns:List Fact} {l:Loc} (hd:inB dst c.nt=true)
  (hw:w'.heap=w.heap∧w'.os=w.os∧w'.tape=w.tape∧w'.output=w.output)
  (hown:Own c.fid w.heap (OB F Bs) c.Xb s (E m) v []) (kill:List Nat)
  (hl:∀ tm:Array Value,(∀ t,dst=some t→tm[t]?=some u)→∀ t,dst=some t→LocR w.heap E (upd vs m v) (OB F Bs) (alive (next F dst ⟨ns,kill,one m s dst l⟩)) tm t l):
  HoldsG c (next F dst ⟨ns,kill,one m s dst l⟩) E (a.put dst u) w' (upd vs m v) (upd Bs m []):=by
 have hnew:∀ f,f∈one m s dst l→(f=.en m s)∨∃ t,dst=some t∧f=.sl t l:=by
  intro f hf
  unfold one at hf
  cases dst with
  | none=>simp at hf; exact .inl hf
  | some t=>simp at hf; rcases hf with hf | hf; exact .inl hf; exact .inr ⟨t,rfl,hf⟩
 refine HoldsG.step (fun n=>n=m) (fun n=>n∈kill) (fun _=>False) dst H (fun n hn=>upd_ne vs v hn) (fun n hn=>upd_ne Bs [] hn)
  (fun t l hl n hn e=>hm.2 t l hl (e ▸ hn)) (fun _ q=>q.elim) (by rw [hw.1]; exact Agr.refl _ _) hw.2.1 hw.2.2.1 hw.2.2.2
  (fun t ht=>put_get ht) put_size put_defers ?_ ?_ ?_ ?_ ?_ ?_
 ·rintro f (⟨h1,h2⟩ | h)
  ·left; refine ⟨h1,?_⟩; cases f <;> exact h2
  ·right
   rcases hnew f h with rfl | ⟨t,ht,rfl⟩
   ·rfl
   ·exact ht.symm
 ·rintro n r rfl hf
  rcases hf with ⟨h1,_⟩ | h
  ·exact (hm.1 r h1).elim
  ·rcases hnew _ h with h | ⟨t,_,h⟩
   ·injection h with _ h; subst h
    rw [upd_same,upd_same,hw.1]
    exact Own.ext (Agr.refl (fun _=>False) _) (fun _ _ q=>q.elim) (fun b _ q=>q.elim (fun ⟨n,s,h1,_,h3⟩=>⟨n,s,h1,h3⟩) (by rintro ⟨k,rfl,hk⟩; simp [upd_same] at hk)) _ _ _ _ (fun _ _ q=>q) hown
   ·simp at h
 ·rintro n r rfl _; rw [upd_same]; exact List.nodup_nil
 ·rintro n r rfl _; rw [upd_same]; simp
 ·rintro n r k q rfl rfl _ _ h; exact (h rfl).elim
 ·rintro t l' ht hf
  rcases hf with ⟨_,h2⟩ | h
  ·exact (h2 ht).elim
  ·rcases hnew _ h with h | ⟨t',ht',h⟩
   ·simp at h
   ·injection h with h1 h2; subst h1 h2
    have hts:∀ t,dst=some t→(a.put dst u).tmps[t]?=some u:=by
     intro t e; subst e
     exact put_self (by rw [H.size]; simpa [inB] using hd)
    have:=hl (a.put dst u).tmps hts t ht'
    have hO:∀ b,(OBk F Bs (fun n=>n∈kill) b∨∃ k,k=m∧b∈upd Bs m [] k)→OB F Bs b:=fun b q=>q.elim (fun ⟨n,s,h1,_,h3⟩=>⟨n,s,h1,h3⟩) (by rintro ⟨k,rfl,hk⟩; simp [upd_same] at hk)
    rw [hw.1]
    cases l' with
    | vc n g=>
     intro hg
     obtain ⟨b,o,cs,e,fz,k1,k2,k3,k4⟩:=this hg
     exact ⟨b,o,cs,e,fz,k1,k2,k3,fun q=>k4 (hO b q)⟩
    | bx n g=>
     intro hg
     obtain ⟨b,cs,e,fz,k1,k2,k3,k4⟩:=this hg
     exact ⟨b,cs,e,fz,k1,k2,k3,fun q=>k4 (hO b q)⟩
    | fb f ns g=>
     intro hg
     obtain ⟨b,cs,e,fz,k1,k2,k3,k4⟩:=this hg
     exact ⟨b,cs,e,fz,k1,k2,k3,fun q=>k4 (hO b q)⟩
    | _=>exact this
theorem HoldsG.leaf_is {c:Cx} {F:Fact→Prop} {E:Nat→D} {a:Act} {w w':World} {vs:Nat→Value} {Bs:Nat→List Nat} (H:HoldsG c F E a w vs Bs)
  {m:Nat} (hm:Fresh F m) {s:Sh} {v:Value} {dst:Option Nat} {ns:List Fact} (hd:inB dst c.nt=true)
  (hw:w'.heap=w.heap∧w'.os=w.os∧w'.tape=w.tape∧w'.output=w.output)
  (hown:Own c.fid w.heap (OB F Bs) c.Xb s (E m) v []) (kill:List Nat) {g:Gd} (hg:gdOK E g):
  HoldsX c (next F dst ⟨ns,kill,one m s dst (.is m g)⟩) E (a.put dst v) w':=
 ⟨_,_,H.leaf hm hd hw hown kill fun tm htm t ht=>by
  refine ⟨fun _=>?_,fun q=>(q hg).elim⟩
  rw [upd_same]; exact htm t ht⟩
end Go.Cat
namespace Go.Cat
def EvP (K:Nat→List D→List D→Prop) (E:Nat→D) (cnt:Nat):Pr→Prop
 | .nop=>True
 | .ca g xs r=>∃ rs:List D,K g (xs.map (ev E)) rs∧rs.length=r∧∀ j,j<r→rs[j]?=some (E (cnt+j))
 | .cd f g xs r=>ev E f=.f g []∧∃ rs:List D,K g (xs.map (ev E)) rs∧rs.length=r∧∀ j,j<r→rs[j]?=some (E (cnt+j))
 | .tk n=>tkD (E n)=some (E cnt)∧E (cnt+1)=.g [.u]
 | .sp n p k=>spD k (E n) (p.mapM (PE.ev E))=some (E cnt,E (cnt+1))
 | .sw n=>swD (E n)=some (E cnt,E (cnt+1))
 | p=>evP E p=some (E cnt)
section
variable (cf:CF) (st:List Fact) (cnt:Nat) (o:Oper) (g:Gd)
def leafS (p:Pr) (s:Sh) (ns:List Fact):Option (Pr×Sm):=
 if inB o.dst cf.nt=true∧p.np=1 then some (p,⟨ns,[],one cnt s o.dst (.is cnt g)⟩) else none
def trMove (x:Operand) (k:Nat):Option (Pr×Sm):=
 match x with
 | .tmp t=>match o.dst with
  | some d=>if d<cf.nt then match findSl st t with
   | some (.is n g')=>if g'.isPrefixOf g then
     if g≠[]∧findEn st n=some .v then leafS cf cnt o g (.cy (.e n)) .v [.sl t (.is n g'),.en n .v]
     else some (.nop,⟨[.sl t (.is n g')],[],[.sl d (.is n g)]⟩)
    else none
   | _=>none
   else none
  | none=>none
 | .const v=>match constD v,k with
  | some (.l []),1=>leafS cf cnt o g (.cs (.o .v) (.l [])) (.o .v) []
  | some (.l []),2=>leafS cf cnt o g (.cs (.o (.o .v)) (.l [])) (.o (.o .v)) []
  | some d,_=>leafS cf cnt o g (.cs .v d) .v []
  | none,_=>none
 | .func f=>(cf.gof f).bind fun k=>leafS cf cnt o g (.cs .v (.f k [])) .v []
 | .global _=>none
def tr2 (x y:Operand) (p:A→A→Pr):Option (Pr×Sm):=
 (opA cf st g x).bind fun a=>(opA cf st g y).bind fun b=>leafS cf cnt o g (p a.1 b.1) .v (a.2.2++b.2.2)
def tr1 (x:Operand) (p:A→Pr):Option (Pr×Sm):=
 (opA cf st g x).bind fun a=>leafS cf cnt o g (p a.1) .v a.2.2
def trPick (c x y:Operand):Option (Pr×Sm):=
 (opA cf st g c).bind fun a=>
  match a.1 with
  | .e n=>(opA cf st (g++[(n,true)]) x).bind fun b=>(opA cf st (g++[(n,false)]) y).bind fun d=>
    if b.2.1=.v∧d.2.1=.v then leafS cf cnt o g (.pk a.1 b.1 d.1) .v (a.2.2++(b.2.2++d.2.2)) else none
  | .c _=>none
end
def valD:D→Value
 | .i k n=>.int k n
 | .b x=>.bool x
 | .s x=>strV x
 | .z=>.pointer none
 | _=>undef
section
variable {P:Program} (w:World)
theorem run_eqGuard_int (op:BinOp) (t:TypeId) (x y:Operand) (k k':IntKind) (a b:Int):(eqGuard op t x y (.int k a) (.int k' b)).run P w=.ok () w:=by
 cases op <;> simp [eqGuard]
theorem run_eqGuard_str (op:BinOp) (t:TypeId) (x y:Operand) (a b:ByteArray):(eqGuard op t x y (.string a) (.string b)).run P w=.ok () w:=by
 cases op <;> simp [eqGuard]
theorem run_eqGuard_bool (op:BinOp) (t:TypeId) (x y:Operand) (a b:Bool):(eqGuard op t x y (.bool a) (.bool b)).run P w=.ok () w:=by
 cases op <;> simp [eqGuard]
theorem run_int {op:BinOp} {t:TypeId} {k:IntKind} {a b:Int} {d:D} (h:intD op k a b=some d):
  (binOp op t (.int k a) (.int k b)).run P w=.ok (valD d) w∧∀ (fid:Nat→Nat) (hp:Array Obj) (Z:Nat→Prop),Rd fid hp Z d (valD d):=by
 cases op <;> unfold intD at h <;> dsimp only at h
 case quo=>
  split at h
  ·injection h
  ·rename_i hb
   injection h with h; subst h
   exact ⟨by simp [binOp,Op.intDiv,hb,valD],fun _ _ _=>by simp only [Rd,valD]⟩
 case rem=>
  split at h
  ·injection h
  ·rename_i hb
   injection h with h; subst h
   exact ⟨by simp [binOp,Op.intDiv,hb,valD],fun _ _ _=>by simp only [Rd,valD]⟩
 all_goals first
  | (injection h with h; subst h; exact ⟨by simp [binOp,Op.intArith,Op.intBits,Op.intCmp,valD],fun _ _ _=>by simp only [Rd,valD]⟩)
  | (injection h; done)
theorem run_bin_int {op:BinOp} {t:TypeId} {k k':IntKind} {a b:Int} {d:D} (h:binD op (.i k a) (.i k' b)=some d):
  (binOp op t (.int k a) (.int k' b)).run P w=.ok (valD d) w∧∀ (fid:Nat→Nat) (hp:Array Obj) (Z:Nat→Prop),Rd fid hp Z d (valD d):=by
 unfold binD at h
 dsimp only at h
 split at h
 ·split at h
  ·injection h
  ·rename_i hb
   injection h with h; subst h
   exact ⟨by simp [binOp,Op.shift,hb,valD],fun _ _ _=>by simp only [Rd,valD]⟩
 ·split at h
  ·injection h
  ·rename_i hb
   injection h with h; subst h
   exact ⟨by simp [binOp,Op.shift,hb,valD],fun _ _ _=>by simp only [Rd,valD]⟩
 ·split at h
  ·rename_i hk; subst hk
   exact run_int w h
  ·injection h
end
theorem natOf_lt {x:List Nat} (h:∀ c∈x,c<256):(x.map fun c=>UInt8.ofNat c).map (·.toNat)=x:=by
 induction x with
 | nil=>rfl
 | cons c x ih=>
  simp only [List.map_cons,List.cons.injEq]
  refine ⟨?_,ih fun d hd=>h d (qmc _ hd)⟩
  have:=h c (List.mem_cons_self ..)
  simp
  omega
theorem ofNat_inj {x y:List Nat} (hx:∀ c∈x,c<256) (hy:∀ c∈y,c<256) (h:x.map (fun c=>UInt8.ofNat c)=y.map fun c=>UInt8.ofNat c):x=y:=by
 rw [← natOf_lt hx,← natOf_lt hy,h]
theorem bytesLess_nat:∀ (x y:List Nat),(∀ c∈x,c<256)→(∀ c∈y,c<256)→Op.bytesLess (x.map fun c=>UInt8.ofNat c) (y.map fun c=>UInt8.ofNat c)=natLess x y
 | x,[]=>fun _ _=>by cases x <;> rfl
 | [],_::_=>fun _ _=>rfl
 | a::x,b::y=>fun hx hy=>by
  simp only [List.map_cons,Op.bytesLess,natLess]
  rw [bytesLess_nat x y (fun c hc=>hx c (qmc _ hc)) (fun c hc=>hy c (qmc _ hc))]
  have ha:=hx a (List.mem_cons_self ..)
  have hb:=hy b (List.mem_cons_self ..)
  have e1:(UInt8.ofNat a<UInt8.ofNat b)↔a<b:=by
   rw [UInt8.lt_iff_toNat_lt]; simp; omega
  have e2:(UInt8.ofNat a == UInt8.ofNat b)=(a == b):=by
   rw [Bool.eq_iff_iff]
   simp only [beq_iff_eq]
   constructor
   ·intro h
    have:=congrArg UInt8.toNat h
    simp at this
    omega
   ·rintro rfl; rfl
  rw [e2]
  congr 1
  exact decide_eq_decide.2 e1
theorem strV_toList (x:List Nat):(⟨(x.map fun c=>UInt8.ofNat c).toArray⟩:ByteArray).toList=x.map fun c=>UInt8.ofNat c:=by
 rw [ByteArray.toList_eq]
theorem strV_size (x:List Nat):(⟨(x.map fun c=>UInt8.ofNat c).toArray⟩:ByteArray).size=x.length:=by
 simp [ByteArray.size]
theorem beq_map {x y:List Nat} (hx:∀ c∈x,c<256) (hy:∀ c∈y,c<256):((x.map fun c=>UInt8.ofNat c) == y.map fun c=>UInt8.ofNat c)=(x == y):=by
 rw [Bool.eq_iff_iff]
 simp only [beq_iff_eq]
 exact ⟨ofNat_inj hx hy,fun h=>h ▸ rfl⟩
section
variable {P:Program} (w:World)
theorem run_bin_str {op:BinOp} {t:TypeId} {x y:List Nat} {d:D} (hx:∀ c∈x,c<256) (hy:∀ c∈y,c<256) (h:strD op x y=some d):
  (binOp op t (strV x) (strV y)).run P w=.ok (valD d) w∧∀ (fid:Nat→Nat) (hp:Array Obj) (Z:Nat→Prop),Rd fid hp Z d (valD d):=by
 unfold strV
 cases op <;> unfold strD at h <;> dsimp only at h
 case add=>
  split at h
  ·rename_i hb
   injection h with h; subst h
   unfold big at hb
   refine ⟨?_,fun _ _ _=>?_⟩
   ·have hs:¬ (((x.length+y.length:Nat):Int) > IntKind.i64.max):=by
     have:IntKind.i64.max=9223372036854775807:=by decide
     rw [this]; omega
    have hb2:(⟨(x.map fun c=>UInt8.ofNat c).toArray⟩:ByteArray)++⟨(y.map fun c=>UInt8.ofNat c).toArray⟩=⟨((x++y).map fun c=>UInt8.ofNat c).toArray⟩:=by
     apply ByteArray.ext
     apply Array.ext'
     simp
    simp only [binOp,Op.stringOp,strV_size,if_neg hs,hb2,valD]
    rfl
   ·simp only [Rd,valD]
    exact ⟨trivial,fun c hc=>(qma.1 hc).elim (hx c) (hy c),by simp; omega⟩
  ·injection h
 all_goals first
  | (injection h with h; subst h
     exact ⟨by simp only [binOp,Op.stringOp,strV_toList,beq_map hx hy,bytesLess_nat x y hx hy,valD]; rfl,fun _ _ _=>by simp only [Rd,valD]⟩)
  | (injection h; done)
theorem run_equalIn_bool (n:Nat) {t:TypeId} {x y:Bool} (ht:P.underlying t=some .bool):(Op.equalIn (n+1) t (.bool x) (.bool y)).run P w=.ok (x == y) w:=by
 have hu:(underlying t).run P w=.ok .bool w:=by
  simp [underlying,ht]
 simp [Op.equalIn,hu,Result.andThen]
theorem run_bin_bool {op:BinOp} {t:TypeId} {x y:Bool} {d:D} (ht:P.underlying t=some .bool) (h:boolD op (.b x) (.b y)=some d):
  (binOp op t (.bool x) (.bool y)).run P w=.ok (valD d) w∧∀ (fid:Nat→Nat) (hp:Array Obj) (Z:Nat→Prop),Rd fid hp Z d (valD d):=by
 have he:(Op.equal t (.bool x) (.bool y)).run P w=.ok (x == y) w:=run_equalIn_bool w 9999 ht
 cases op <;> unfold boolD at h <;> dsimp only at h
 case eql=>
  injection h with h; subst h
  refine ⟨?_,fun _ _ _=>by simp only [Rd,valD]⟩
  show (Bind.bind (Op.equal t (.bool x) (.bool y)) fun b=>Pure.pure (Value.bool b)).run P w=_
  rw [Sem.run_bind,he]; rfl
 case neq=>
  injection h with h; subst h
  refine ⟨?_,fun _ _ _=>by simp only [Rd,valD]⟩
  show (Bind.bind (Op.equal t (.bool x) (.bool y)) fun b=>Pure.pure (Value.bool !b)).run P w=_
  rw [Sem.run_bind,he]; rfl
 all_goals (injection h; done)
end
end Go.Cat
namespace Go.Cat
structure At (cf:CF) (c:Cx) (F:Fact→Prop) (E:Nat→D) (a:Act) (w:World) (vs:Nat→Value) (Bs:Nat→List Nat) (cnt:Nat) (g:Gd) (p:Pr) (sm:Sm):Prop where
 fits:cf.Fits c
 H:HoldsG c F E a w vs Bs
 fresh:∀ j,j<p.np→Fresh F (cnt+j)
 needs:∀ f∈sm.needs,F f
 g:gdOK E g
 fix:c.fixed a
theorem At.opA {cf:CF} {c:Cx} {F:Fact→Prop} {E:Nat→D} {a:Act} {w:World} {vs:Nat→Value} {Bs:Nat→List Nat} {cnt:Nat} {g:Gd} {p:Pr} {sm:Sm}
  (h:At cf c F E a w vs Bs cnt g p sm) {st:List Fact} {x:Operand} {A:A} {s:Sh} {ns:List Fact} (hx:opA cf st g x=some (A,s,ns)) (hn:∀ f∈ns,f∈sm.needs):
  ∃ B,Own c.fid w.heap (OB F Bs) c.Xb s (ev E A) (a.eval x) B∧(∀ n,A=.e n→F (.en n s)∧a.eval x=vs n∧B=Bs n):=
 opA_sound h.fits hx h.H (fun f hf=>h.needs f (hn f hf)) h.g
theorem leafS_eq {cf:CF} {cnt:Nat} {o:Oper} {g:Gd} {p p':Pr} {s:Sh} {ns:List Fact} {sm:Sm} (h:leafS cf cnt o g p s ns=some (p',sm)):
  p'=p∧(inB o.dst cf.nt=true∧p.np=1)∧sm=⟨ns,[],one cnt s o.dst (.is cnt g)⟩:=by
 unfold leafS at h
 split at h
 ·rename_i hi
  simp only [qsj,qpj] at h
  exact ⟨h.1.symm,hi,h.2.symm⟩
 ·simp at h
theorem leaf_step {cf:CF} {c:Cx} {F:Fact→Prop} {E:Nat→D} {a:Act} {w w':World} {vs:Nat→Value} {Bs:Nat→List Nat} {cnt:Nat} {g:Gd} {s:Sh} {ns:List Fact} {o:Oper} {p:Pr}
  (h:At cf c F E a w vs Bs cnt g p ⟨ns,[],one cnt s o.dst (.is cnt g)⟩) (hi:inB o.dst cf.nt=true∧p.np=1) {v:Value}
  (hw:w'.heap=w.heap∧w'.os=w.os∧w'.tape=w.tape∧w'.output=w.output)
  (hr:(execOp a.eval o).run c.P w=.ok (.value v) w') (hown:Own c.fid w.heap (OB F Bs) c.Xb s (E cnt) v []):
  StepOK c o ⟨ns,[],one cnt s o.dst (.is cnt g)⟩ F E a w:=
 StepOK.of_value hr (h.H.leaf_is (by simpa using h.fresh 0 (by omega)) (by rw [h.fits.nt]; exact hi.1) hw hown [] h.g)
theorem same_world (w:World):w.heap=w.heap∧w.os=w.os∧w.tape=w.tape∧w.output=w.output:=⟨rfl,rfl,rfl,rfl⟩
theorem Own.of_rd {fid:Nat→Nat} {h:Array Obj} {O X:Nat→Prop} {d:D} {v:Value} (r:∀ Z,Rd fid h Z d v):Own fid h O X .v d v []:=by
 simp only [Own]; exact ⟨trivial,r _⟩
section
variable {cf:CF} {c:Cx} {F:Fact→Prop} {E:Nat→D} {a:Act} {w:World} {vs:Nat→Value} {Bs:Nat→List Nat} {cnt:Nat} {g:Gd} {sm:Sm} {st:List Fact} {o:Oper} {p:Pr}
 {K:Nat→List D→List D→Prop}
theorem tr2_sound {x y:Operand} {q:A→A→Pr} (ht:tr2 cf st cnt o g x y q=some (p,sm)) (h:At cf c F E a w vs Bs cnt g p sm)
  (hq:∀ (α β:A) (s r:Sh) (B1 B2:List Nat),EvP K E cnt (q α β)→Own c.fid w.heap (OB F Bs) c.Xb s (ev E α) (a.eval x) B1→Own c.fid w.heap (OB F Bs) c.Xb r (ev E β) (a.eval y) B2→
   ∃ v,(execOp a.eval o).run c.P w=.ok (.value v) w∧∀ Z,Rd c.fid w.heap Z (E cnt) v) (hE:EvP K E cnt p):StepOK c o sm F E a w:=by
 unfold tr2 at ht
 simp only [qbs] at ht
 obtain ⟨⟨A1,s1,n1⟩,h1,⟨A2,s2,n2⟩,h2,h3⟩:=ht
 obtain ⟨rfl,hi,rfl⟩:=leafS_eq h3
 obtain ⟨B1,o1,_⟩:=h.opA h1 (fun f hf=>qal _ hf)
 obtain ⟨B2,o2,_⟩:=h.opA h2 (fun f hf=>qar _ hf)
 obtain ⟨v,hr,hd⟩:=hq A1 A2 s1 s2 B1 B2 hE o1 o2
 exact leaf_step h hi (same_world w) hr (Own.of_rd hd)
theorem tr1_sound {x:Operand} {q:A→Pr} (ht:tr1 cf st cnt o g x q=some (p,sm)) (h:At cf c F E a w vs Bs cnt g p sm)
  (hq:∀ (α:A) (s:Sh) (B1:List Nat),EvP K E cnt (q α)→Own c.fid w.heap (OB F Bs) c.Xb s (ev E α) (a.eval x) B1→
   ∃ v,(execOp a.eval o).run c.P w=.ok (.value v) w∧∀ Z,Rd c.fid w.heap Z (E cnt) v) (hE:EvP K E cnt p):StepOK c o sm F E a w:=by
 unfold tr1 at ht
 simp only [qbs] at ht
 obtain ⟨⟨A1,s1,n1⟩,h1,h3⟩:=ht
 obtain ⟨rfl,hi,rfl⟩:=leafS_eq h3
 obtain ⟨B1,o1,_⟩:=h.opA h1 (fun f hf=>hf)
 obtain ⟨v,hr,hd⟩:=hq A1 s1 B1 hE o1
 exact leaf_step h hi (same_world w) hr (Own.of_rd hd)
theorem binD_sound {op:BinOp} {t:TypeId} {x y:Operand} {s r:Sh} {B1 B2:List Nat} {d1 d2 d:D} {v1 v2:Value} (he:binD op d1 d2=some d)
  (o1:Own c.fid w.heap (OB F Bs) c.Xb s d1 v1 B1) (o2:Own c.fid w.heap (OB F Bs) c.Xb r d2 v2 B2):
  (do eqGuard op t x y v1 v2; binOp op t v1 v2:Sem Value).run c.P w=.ok (valD d) w∧∀ Z,Rd c.fid w.heap Z d (valD d):=by
 unfold binD at he
 split at he
 ·rename_i k1 n1 k2 n2
  rw [o1.int,o2.int]
  have he':binD op (.i k1 n1) (.i k2 n2)=some d:=by unfold binD; exact he
  obtain ⟨h1,h2⟩:=run_bin_int (P:=c.P) w (t:=t) he'
  exact ⟨by rw [Sem.run_bind,run_eqGuard_int]; exact h1,fun Z=>h2 _ _ Z⟩
 ·rename_i x1 x2
  obtain ⟨e1,b1,_⟩:=o1.str
  obtain ⟨e2,b2,_⟩:=o2.str
  rw [e1,e2]
  obtain ⟨h1,h2⟩:=run_bin_str (P:=c.P) w (t:=t) b1 b2 he
  exact ⟨by rw [Sem.run_bind]; unfold strV; rw [run_eqGuard_str]; exact h1,fun Z=>h2 _ _ Z⟩
 ·simp at he
theorem boolD_sound {op:BinOp} {t:TypeId} {x y:Operand} {s r:Sh} {B1 B2:List Nat} {d1 d2 d:D} {v1 v2:Value} (ht:c.P.underlying t=some .bool) (he:boolD op d1 d2=some d)
  (o1:Own c.fid w.heap (OB F Bs) c.Xb s d1 v1 B1) (o2:Own c.fid w.heap (OB F Bs) c.Xb r d2 v2 B2):
  (do eqGuard op t x y v1 v2; binOp op t v1 v2:Sem Value).run c.P w=.ok (valD d) w∧∀ Z,Rd c.fid w.heap Z d (valD d):=by
 unfold boolD at he
 split at he
 ·rename_i x1 x2
  rw [o1.bool,o2.bool]
  have he':boolD op (.b x1) (.b x2)=some d:=by unfold boolD; exact he
  obtain ⟨h1,h2⟩:=run_bin_bool (P:=c.P) w ht he'
  exact ⟨by rw [Sem.run_bind,run_eqGuard_bool]; exact h1,fun Z=>h2 _ _ Z⟩
 ·simp at he
theorem run_v {x:Sem Value} {P:Program} {w w':World} {v:Value} (h:x.run P w=.ok v w'):(do pure (Next.value (← x)):Sem Next).run P w=.ok (.value v) w':=by
 rw [Sem.run_bind,h]; rfl
end
section
variable (cf:CF) (st:List Fact) (cnt:Nat) (o:Oper) (g:Gd)
def isBool (P:Program) (t:TypeId):Bool:=match P.underlying t with | some .bool=>true | _=>false
def intK (P:Program) (t:TypeId):Option IntKind:=match P.underlying t with | some (.int k)=>some k | _=>none
def isStr (P:Program) (t:TypeId):Bool:=match P.underlying t with | some .string=>true | _=>false
def sliceE (P:Program) (t:TypeId):Option TypeId:=match P.underlying t with | some (.slice e)=>some e | _=>none
def trPure (k:Nat):Option (Pr×Sm):=
 match o.op with
 | .move x=>trMove cf st cnt o g x k
 | .assign x=>trMove cf st cnt o g x k
 | .pick c x y=>trPick cf st cnt o g c x y
 | .binOp op t x y _=>if isBool cf.P t then tr2 cf st cnt o g x y (.bb op) else tr2 cf st cnt o g x y (.bi op)
 | .unOp op _ x=>tr1 cf st cnt o g x (.un op)
 | .convert s d x=>match intK cf.P s,intK cf.P d with
  | some _,some kd=>tr1 cf st cnt o g x (.cv kd)
  | _,_=>none
 | .index t x i=>if isStr cf.P t then tr2 cf st cnt o g x i .sx else none
 | .call { callee:=.builtin .len,args,argTypes }=>match args.toList,argTypes.toList with
  | [x],[t]=>if isStr cf.P t then tr1 cf st cnt o g x .sn else match sliceE cf.P t with
   | some _=>tr1 cf st cnt o g x (.ln · [])
   | none=>none
  | _,_=>none
 | .call { callee:=.builtin .max,args,.. }=>match args.toList with
  | [x,y]=>tr2 cf st cnt o g x y .mx
  | _=>none
 | .call { callee:=.builtin .min,args,.. }=>match args.toList with
  | [x,y]=>tr2 cf st cnt o g x y .mn
  | _=>none
 | _=>none
end
theorem findSl_mem {st:List Fact} {t:Nat} {l:Loc} (h:findSl st t=some l):Fact.sl t l∈st:=by
 induction st with
 | nil=>simp [findSl] at h
 | cons f r ih=>
  cases f with
  | en n s=>simp only [findSl] at h; exact qmc _ (ih h)
  | sl u k=>
   simp only [findSl] at h
   split at h
   ·rename_i e; obtain ⟨e,_⟩:=e; injection h with h; subst e h; exact List.mem_cons_self ..
   ·exact qmc _ (ih h)
section
variable {cf:CF} {c:Cx} {F:Fact→Prop} {E:Nat→D} {a:Act} {w:World} {vs:Nat→Value} {Bs:Nat→List Nat} {cnt:Nat} {g:Gd} {sm:Sm} {st:List Fact} {o:Oper} {p:Pr}
 {K:Nat→List D→List D→Prop}
theorem trMove_sound {x:Operand} {k:Nat} (ht:trMove cf st cnt o g x k=some (p,sm)) (h:At cf c F E a w vs Bs cnt g p sm)
  (hx:(execOp a.eval o).run c.P w=.ok (.value (a.eval x)) w) (hE:EvP K E cnt p):StepOK c o sm F E a w:=by
 cases x with
 | tmp t=>
  simp only [trMove] at ht
  split at ht
  ·rename_i d hd
   split at ht
   ·rename_i hlt
    split at ht
    ·rename_i n g' hl
     split at ht
     ·rename_i hg'
      split at ht
      ·obtain ⟨rfl,hi,rfl⟩:=leafS_eq ht
       have hf:=h.needs (.sl t (.is n g')) (by simp)
       have he:=h.needs (.en n .v) (by simp)
       have hl1:a.tmps[t]?=some (vs n):=(h.H.loc t _ hf).1 (fun x hx=>h.g x ((List.isPrefixOf_iff_prefix.1 hg').subset hx))
       have hev:a.eval (.tmp t)=vs n:=by simp [Act.eval,hl1]
       have ho:=h.H.own n .v he
       simp only [Own] at ho
       simp only [EvP,evP,ev,qsj] at hE
       refine leaf_step h hi (same_world w) hx ?_
       simp only [Own]
       rw [hev,← hE]
       exact ⟨trivial,ho.2⟩
      simp only [qsj,qpj] at ht
      obtain ⟨_,rfl⟩:=ht
      refine StepOK.of_value hx ⟨vs,Bs,?_⟩
      have hf:=h.needs (.sl t (.is n g')) (by simp)
      have hl1:a.tmps[t]?=some (vs n):=(h.H.loc t _ hf).1 (fun x hx=>h.g x ((List.isPrefixOf_iff_prefix.1 hg').subset hx))
      have hev:a.eval (.tmp t)=vs n:=by simp [Act.eval,hl1]
      rw [hev,hd]
      refine HoldsG.step (fun _=>False) (fun _=>False) (fun _=>False) (some d) h.H (fun _ _=>rfl) (fun _ _=>rfl) (fun _ _ _ _ _ q=>q) (fun _ q=>q.elim) (Agr.refl _ _) rfl rfl rfl
       (fun t ht=>put_get ht) put_size put_defers ?_ (fun _ _ q=>q.elim) (fun _ _ q=>q.elim) (fun _ _ q=>q.elim) (fun _ _ _ _ q=>q.elim) ?_
      ·rintro f (⟨h1,h2⟩ | h1)
       ·left
        refine ⟨h1,?_⟩
        cases f with
        | en n s=>exact fun q=>q
        | sl u l=>exact h2
       ·simp at h1; subst h1; right; rfl
      ·rintro u l hu (⟨_,h2⟩ | h2)
       ·exact (h2 hu).elim
       ·simp at h2
        obtain ⟨rfl,rfl⟩:=h2
        exact ⟨fun _=>put_self (by rw [h.H.size,h.fits.nt]; exact hlt),fun q=>(q h.g).elim⟩
     ·simp at ht
    ·simp at ht
   ·simp at ht
  ·simp at ht
 | const v=>
  simp only [trMove] at ht
  split at ht
  ·rename_i hc
   obtain ⟨rfl,hi,rfl⟩:=leafS_eq ht
   have e:E cnt=.l []:=by simp only [EvP,evP,qsj] at hE; exact hE.symm
   have hv:v=.slice none 0 0:=constD_nil hc
   refine leaf_step h hi (same_world w) hx ?_
   rw [e]
   simp only [Own,Act.eval,hv]
   exact .inr ⟨[],rfl,.inl (by simp)⟩
  ·rename_i hc
   obtain ⟨rfl,hi,rfl⟩:=leafS_eq ht
   have e:E cnt=.l []:=by simp only [EvP,evP,qsj] at hE; exact hE.symm
   have hv:v=.slice none 0 0:=constD_nil hc
   refine leaf_step h hi (same_world w) hx ?_
   rw [e]
   simp only [Own,Act.eval,hv]
   exact .inr ⟨[],rfl,.inl (by simp)⟩
  ·rename_i d _ hc _ _
   obtain ⟨rfl,hi,rfl⟩:=leafS_eq ht
   simp only [EvP,evP,qsj] at hE
   exact leaf_step h hi (same_world w) hx (Own.of_rd fun Z=>hE ▸ constD_rd hc)
  ·simp at ht
 | func f=>
  simp only [trMove,qbs] at ht
  obtain ⟨k,hk,ht⟩:=ht
  obtain ⟨rfl,hi,rfl⟩:=leafS_eq ht
  simp only [EvP,evP,qsj] at hE
  refine leaf_step h hi (same_world w) hx (Own.of_rd fun Z=>?_)
  rw [← hE]
  simp only [Rd]
  refine ⟨#[],?_,rfl,by simp [RdL]⟩
  rw [h.fits.fid,h.fits.gof f k hk]
  rfl
 | global _=>simp [trMove] at ht
theorem trPick_sound {x y z:Operand} (ho:o.op=.pick x y z) (ht:trPick cf st cnt o g x y z=some (p,sm)) (h:At cf c F E a w vs Bs cnt g p sm) (hE:EvP K E cnt p):StepOK c o sm F E a w:=by
 unfold trPick at ht
 simp only [qbs] at ht
 obtain ⟨⟨A1,s1,n1⟩,h1,ht⟩:=ht
 cases A1 with
 | c d=>simp at ht
 | e n=>
  simp only [qbs] at ht
  obtain ⟨⟨A2,s2,n2⟩,h2,⟨A3,s3,n3⟩,h3,ht⟩:=ht
  simp only at ht
  split at ht
  ·rename_i hv
   obtain ⟨hv1,hv2⟩:=hv
   subst hv1 hv2
   obtain ⟨rfl,hi,rfl⟩:=leafS_eq ht
   obtain ⟨B1,o1,_⟩:=h.opA h1 (fun f hf=>qal _ hf)
   simp only [EvP,evP,ev] at hE
   simp only [ev] at o1
   split at hE
   ·rename_i hb
    have hr:(execOp a.eval o).run c.P w=.ok (.value (a.eval y)) w:=by
     simp only [execOp,ho]
     rw [Sem.run_bind,show a.eval x=.bool true from by rw [hb] at o1; exact o1.bool]
     rfl
    obtain ⟨B2,o2,_⟩:=opA_sound h.fits h2 h.H (fun f hf=>h.needs f (qar _ (qal _ hf))) (by intro x hx; rcases qma.1 hx with hx | hx; exact h.g x hx; simp at hx; subst hx; exact hb)
    simp only [Own] at o2
    injection hE with hE
    refine leaf_step h hi (same_world w) hr ?_
    simp only [Own]
    exact ⟨trivial,hE ▸ o2.2⟩
   ·rename_i hb
    have hr:(execOp a.eval o).run c.P w=.ok (.value (a.eval z)) w:=by
     simp only [execOp,ho]
     rw [Sem.run_bind,show a.eval x=.bool false from by rw [hb] at o1; exact o1.bool]
     rfl
    obtain ⟨B2,o2,_⟩:=opA_sound h.fits h3 h.H (fun f hf=>h.needs f (qar _ (qar _ hf))) (by intro x hx; rcases qma.1 hx with hx | hx; exact h.g x hx; simp at hx; subst hx; exact hb)
    simp only [Own] at o2
    injection hE with hE
    refine leaf_step h hi (same_world w) hr ?_
    simp only [Own]
    exact ⟨trivial,hE ▸ o2.2⟩
   ·simp at hE
  ·simp at ht
theorem run_underlying {P:Program} {t:TypeId} {d:TypeDesc} (h:P.underlying t=some d) (w:World):(underlying t).run P w=.ok d w:=by
 simp [underlying,h]
theorem isBool_eq {P:Program} {t:TypeId} (h:isBool P t=true):P.underlying t=some .bool:=by
 unfold isBool at h; split at h <;> simp_all
theorem isStr_eq {P:Program} {t:TypeId} (h:isStr P t=true):P.underlying t=some .string:=by
 unfold isStr at h; split at h <;> simp_all
theorem intK_eq {P:Program} {t:TypeId} {k:IntKind} (h:intK P t=some k):P.underlying t=some (.int k):=by
 unfold intK at h; split at h <;> simp_all
theorem sliceE_eq {P:Program} {t e:TypeId} (h:sliceE P t=some e):P.underlying t=some (.slice e):=by
 unfold sliceE at h; split at h <;> simp_all
theorem evP_bi {op:BinOp} {α β:A} (h:EvP K E cnt (.bi op α β)):binD op (ev E α) (ev E β)=some (E cnt):=h
theorem evP_bb {op:BinOp} {α β:A} (h:EvP K E cnt (.bb op α β)):boolD op (ev E α) (ev E β)=some (E cnt):=h
theorem resolve_builtin (ρ:Operand→Value) (b:Builtin) (args:Array Operand) (ts:Array TypeId) (type:TypeId):
  resolve ρ { callee:=.builtin b,args,argTypes:=ts } type=(Pure.pure { target:=.builtin b ts type (args.map fun | .const _=>true | _=>false),args:=args.map ρ }:Sem Deferred):=rfl
theorem exec_builtin {o:Oper} {b:Builtin} {args:Array Operand} {ts:Array TypeId} (ho:o.op=.call { callee:=.builtin b,args,argTypes:=ts }) (P:Program) (w:World) (ρ:Operand→Value):
  (execOp ρ o).run P w=(builtin b ts o.type (args.map fun | .const _=>true | _=>false) (args.map ρ)).run P w:=by
 simp only [execOp,ho,resolve_builtin]
 rw [Sem.run_bind]
 rfl
theorem trPure_sound {k:Nat} (ht:trPure cf st cnt o g k=some (p,sm)) (h:At cf c F E a w vs Bs cnt g p sm) (hE:EvP K E cnt p):StepOK c o sm F E a w:=by
 unfold trPure at ht
 split at ht
 ·rename_i x ho
  exact trMove_sound ht h (by simp only [execOp,ho]; rfl) hE
 ·rename_i x ho
  exact trMove_sound ht h (by simp only [execOp,ho]; rfl) hE
 ·rename_i x y z ho
  exact trPick_sound ho ht h hE
 ·rename_i op t x y yt ho
  split at ht
  ·rename_i hb
   refine tr2_sound ht h (fun α β s r B1 B2 he o1 o2=>?_) hE
   have hb':c.P.underlying t=some .bool:=by rw [h.fits.P]; exact isBool_eq hb
   obtain ⟨h1,h2⟩:=boolD_sound (x:=x) (y:=y) (w:=w) hb' (evP_bb he) o1 o2
   exact ⟨_,by simp only [execOp,ho]; exact run_v h1,h2⟩
  ·refine tr2_sound ht h (fun α β s r B1 B2 he o1 o2=>?_) hE
   obtain ⟨h1,h2⟩:=binD_sound (x:=x) (y:=y) (t:=t) (w:=w) (evP_bi he) o1 o2
   exact ⟨_,by simp only [execOp,ho]; exact run_v h1,h2⟩
 ·rename_i op t x ho
  refine tr1_sound ht h (fun α s B1 he o1=>?_) hE
  have he':unD op (ev E α)=some (E cnt):=he
  unfold unD at he'
  split at he'
  ·rename_i b hb
   rw [hb] at o1
   split at he'
   ·injection he' with he'
    exact ⟨.bool !b,by simp only [execOp,ho]; rw [o1.bool]; exact run_v rfl,fun Z=>by rw [← he']; simp only [Rd]⟩
   ·simp at he'
  ·rename_i kk n hn
   rw [hn] at o1
   split at he'
   ·injection he' with he'
    exact ⟨.int kk (kk.wrap (0-n)),by simp only [execOp,ho]; rw [o1.int]; exact run_v rfl,fun Z=>by rw [← he']; simp only [Rd]⟩
   ·simp at he'
  ·simp at he'
 ·rename_i t1 t2 x ho
  split at ht
  ·rename_i k1 k2 e1 e2
   refine tr1_sound ht h (fun α s B1 he o1=>?_) hE
   have he':evP E (.cv k2 α)=some (E cnt):=he
   simp only [evP] at he'
   split at he'
   ·rename_i kk n hn
    rw [hn] at o1
    injection he' with he'
    refine ⟨.int k2 (k2.wrap n),?_,fun Z=>by rw [← he']; simp only [Rd]⟩
    simp only [execOp,ho]
    refine run_v ?_
    rw [o1.int]
    unfold convert
    rw [Sem.run_bind,run_underlying (h.fits.P ▸ intK_eq e1)]
    simp only [Result.andThen]
    rw [Sem.run_bind,run_underlying (h.fits.P ▸ intK_eq e2)]
    rfl
   ·simp at he'
  ·simp at ht
 ·rename_i t x i ho
  split at ht
  ·rename_i hs
   refine tr2_sound ht h (fun α β s r B1 B2 he o1 o2=>?_) hE
   have he':sxD (ev E α) (ev E β)=some (E cnt):=he
   have hs':c.P.underlying t=some .string:=by rw [h.fits.P]; exact isStr_eq hs
   unfold sxD at he'
   split at he'
   ·rename_i xs kk n hx hn
    rw [hx] at o1; rw [hn] at o2
    obtain ⟨hv,hb,hl⟩:=o1.str
    split at he'
    ·rename_i h0
     cases hg:xs[n.toNat]? with
     | none=>rw [hg] at he'; simp at he'
     | some z=>
      rw [hg] at he'
      simp only [Option.map_some,qsj] at he'
      refine ⟨.int .u8 z,?_,fun Z=>by rw [← he']; simp only [Rd]⟩
      simp only [execOp,ho]
      refine run_v ?_
      rw [hv,o2.int]
      unfold Instr.index strV
      simp only [asIntOf]
      rw [Sem.run_bind,Sem.run_pure]
      simp only [Result.andThen]
      rw [Sem.run_bind,run_underlying hs']
      have hz:z<256:=hb z (List.mem_of_getElem? hg)
      have hlt:n.toNat<xs.length:=by
       rcases qlg n.toNat xs.length with q | q
       ·exact q
       ·rw [qgn q] at hg; simp at hg
      have:(⟨(xs.map fun c=>UInt8.ofNat c).toArray⟩:ByteArray)[n.toNat]?=some (UInt8.ofNat z):=by
       rw [getElem?_pos (h:=by show n.toNat<(xs.map fun c=>UInt8.ofNat c).toArray.size; simpa using hlt)]
       congr 1
       show ((xs.map fun c=>UInt8.ofNat c).toArray)[n.toNat]'_=_
       have h1:xs[n.toNat]=z:=by
        have:=hg
        rw [qge hlt] at this
        injection this
       simp [h1]
      simp only [Result.andThen,if_pos h0,this,Sem.run_pure]
      congr 2
      simp
      omega
    ·simp at he'
   ·simp at he'
  ·simp at ht
 ·rename_i args ts ho
  split at ht
  ·rename_i x t hx htt
   have hargs:args=#[x]:=by
    apply Array.ext'; simpa using hx
   have hts:ts=#[t]:=by
    apply Array.ext'; simpa using htt
   subst hargs hts
   split at ht
   ·rename_i hs
    refine tr1_sound ht h (fun α s B1 he o1=>?_) hE
    have he':snD (ev E α)=some (E cnt):=he
    unfold snD at he'
    split at he'
    ·rename_i xs hxs
     injection he' with he'
     rw [hxs] at o1
     obtain ⟨hv,_,_⟩:=o1.str
     refine ⟨.int .i64 xs.length,?_,fun Z=>by rw [← he']; simp only [Rd]⟩
     rw [exec_builtin ho]
     simp only [List.map_toArray,List.map_cons,List.map_nil]
     show (Bind.bind (Builtin.len_ #[t] o.type #[a.eval x]) _).run c.P w=_
     refine run_v ?_
     rw [hv]
     unfold Builtin.len_ strV
     simp only [List.getElem?_toArray,List.getElem?_cons_zero]
     rw [Sem.run_bind,run_underlying (h.fits.P ▸ isStr_eq hs)]
     simp only [Result.andThen,Sem.run_pure,goInt,strV_size]
    ·simp at he'
   ·split at ht
    ·rename_i e hs
     refine tr1_sound ht h (fun α s B1 he o1=>?_) hE
     have he':evP E (.ln α [])=some (E cnt):=he
     simp only [evP,pathD,List.mapM_nil,Option.pure_def,Option.bind_some,getP] at he'
     unfold lenD at he'
     split at he'
     ·rename_i xs hxs
      injection he' with he'
      rw [hxs] at o1
      obtain ⟨ad,cap,hv,_⟩:=o1.len
      refine ⟨.int .i64 xs.length,?_,fun Z=>by rw [← he']; simp only [Rd]⟩
      rw [exec_builtin ho]
      simp only [List.map_toArray,List.map_cons,List.map_nil]
      show (Bind.bind (Builtin.len_ #[t] o.type #[a.eval x]) _).run c.P w=_
      refine run_v ?_
      rw [hv]
      unfold Builtin.len_
      simp only [List.getElem?_toArray,List.getElem?_cons_zero]
      rw [Sem.run_bind,run_underlying (h.fits.P ▸ sliceE_eq hs)]
      rfl
     ·simp at he'
    ·simp at ht
  ·simp at ht
 ·rename_i args ts ho
  split at ht
  ·rename_i x y hx
   have hargs:args=#[x,y]:=by
    apply Array.ext'; simpa using hx
   subst hargs
   refine tr2_sound ht h (fun α β s r B1 B2 he o1 o2=>?_) hE
   have he':evP E (.mx α β)=some (E cnt):=he
   simp only [evP] at he'
   split at he'
   ·rename_i k1 n1 k2 n2 e1 e2
    split at he'
    ·rename_i hk
     subst hk
     injection he' with he'
     rw [e1] at o1; rw [e2] at o2
     refine ⟨.int k1 (if n2 > n1 then n2 else n1),?_,fun Z=>by rw [← he']; simp only [Rd]⟩
     rw [exec_builtin ho]
     simp only [List.map_toArray,List.map_cons,List.map_nil]
     show (Bind.bind (Builtin.max_ ts o.type #[a.eval x,a.eval y]) _).run c.P w=_
     refine run_v ?_
     rw [o1.int,o2.int]
     rfl
    ·simp at he'
   ·simp at he'
  ·simp at ht
 ·rename_i args ts ho
  split at ht
  ·rename_i x y hx
   have hargs:args=#[x,y]:=by
    apply Array.ext'; simpa using hx
   subst hargs
   refine tr2_sound ht h (fun α β s r B1 B2 he o1 o2=>?_) hE
   have he':evP E (.mn α β)=some (E cnt):=he
   simp only [evP] at he'
   split at he'
   ·rename_i k1 n1 k2 n2 e1 e2
    split at he'
    ·rename_i hk
     subst hk
     injection he' with he'
     rw [e1] at o1; rw [e2] at o2
     refine ⟨.int k1 (if n2<n1 then n2 else n1),?_,fun Z=>by rw [← he']; simp only [Rd]⟩
     rw [exec_builtin ho]
     simp only [List.map_toArray,List.map_cons,List.map_nil]
     show (Bind.bind (Builtin.min_ ts o.type #[a.eval x,a.eval y]) _).run c.P w=_
     refine run_v ?_
     rw [o1.int,o2.int]
     rfl
    ·simp at he'
   ·simp at he'
  ·simp at ht
 ·simp at ht
end
end Go.Cat
namespace Go.Cat
def EachS (R:Sh→D→Value→List Nat→Prop):List Sh→List D→List Value→List Nat→Prop
 | [],[],[],B=>B=[]
 | s::ss,d::ds,v::vs,B=>∃ B1 B2,B=B1++B2∧R s d v B1∧EachS R ss ds vs B2
 | _,_,_,_=>False
def tupled (v:Value):List Value→Prop
 | [x]=>v=x
 | xs=>v=.tuple xs.toArray
def FB (fid:Nat→Nat) (h:Array Obj) (Z:Nat→Prop) (args:List Value):Option (Nat×Nat×List Nat)→Prop
 | none=>True
 | some (m,k,cs)=>∃ (b:Nat) (hs:Array Value) (e:TypeId) (fz:Nat×Nat),args[m]?=some (.pointer (some ⟨b,0,none⟩))∧
   h[b]?=some (.cells hs e fz)∧hs[0]?=some (.func (.func (fid k)) #[] (cs.map fun i=>args.getD i undef).toArray)∧¬ Z b
structure Sg where
 ps:List Sh
 qs:List Sh
 io:List Nat:=[]
 fb:Option (Nat×Nat×List Nat):=none
def Sg.outs (s:Sg):List Sh:=s.qs++s.io.map fun i=>s.ps.getD i .v
def Con (P:Program) (fid:Nat→Nat) (f:FuncId) (s:Sg) (ds rs:List D):Prop:=
 ∀ (w:World) (X:Nat→Prop) (args:List Value) (B:List Nat),B.Nodup→(∀ b,X b→b<w.heap.size∧b∉B)→
  EachS (Own fid w.heap (·∈B) X) s.ps ds args B→FB fid w.heap (·∈B) args s.fb→
  Calls P f args.toArray w fun e w'=>∃ v vs B',e=.returned v∧tupled v vs∧vs.length=s.qs.length∧Agr (·∈B) w.heap w'.heap∧w'.os=w.os∧w'.tape=w.tape∧w'.output=w.output∧
   B'.Nodup∧(∀ b∈B',b∈B∨w.heap.size≤b)∧EachS (Own fid w'.heap (·∈B') X) s.outs rs (vs++s.io.map fun i=>args.getD i undef) B'
def okR:Sh→Bool
 | .v=>true
 | .y=>false
 | .o s=>okR s
 | .b s=>okR s
 | .a s=>okR s
def Sh.nb:Sh→Bool
 | .v=>true
 | .y=>true
 | .o s=>s.nb
 | .a s=>s.nb
 | .b _=>false
theorem Each.reads {fid:Nat→Nat} {h:Array Obj} {Z:Nat→Prop} {R:D→Value→List Nat→Prop} (hR:∀ d v B,(∀ b∈B,¬ Z b)→R d v B→Rd fid h Z d v):
  ∀ {ds:List D} {vs:List Value} {B:List Nat},(∀ b∈B,¬ Z b)→Each R ds vs B→RdL fid h Z ds vs
 | [],_,_=>fun _ _=>by simp [RdL]
 | d::ds,v::vs,B=>fun hB he=>by
  simp only [Each] at he
  obtain ⟨B1,B2,rfl,h1,h2⟩:=he
  simp only [RdL]
  exact ⟨hR d v B1 (fun b hb=>hB b (qal _ hb)) h1,Each.reads hR (fun b hb=>hB b (qar _ hb)) h2⟩
 | _::_,[],_=>fun _ he=>by simp [Each] at he
theorem RdL.mono {fid:Nat→Nat} {h:Array Obj} {Z Z':Nat→Prop} {ds:List D} {vs:List Value} (r:RdL fid h Z ds vs) (hZ:∀ b,b<h.size→Z' b→Z b):RdL fid h Z' ds vs:=
 RdL.ext (S:=fun _=>False) (Agr.refl _ h) (fun _ _ q=>q.elim) hZ ds vs r
theorem Own.reads {fid:Nat→Nat} {h:Array Obj} {O X Z:Nat→Prop} (hZ:∀ b,b<h.size→Z b→O b):∀ (s:Sh) (d:D) (v:Value) (B:List Nat),s.nb=true→(∀ b∈B,¬ Z b)→
  Own fid h O X s d v B→Rd fid h Z d v
 | .v,d,v,B=>fun _ _ r=>by
  simp only [Own] at r
  exact r.2.mono fun b hb q=>.inl (hZ b hb q)
 | .y,d,v,B=>fun _ _ r=>by
  simp only [Own] at r
  exact r.2.mono hZ
 | .b s,d,v,B=>fun hs=>by simp [Sh.nb] at hs
 | .a s,d,v,B=>fun hs hB r=>by
  simp only [Own] at r
  obtain ⟨xs,cs,rfl,rfl,hl,he⟩:=r
  simp only [Rd]
  exact ⟨cs,rfl,hl,Each.reads (fun d v B hB r=>Own.reads hZ s d v B (by simpa [Sh.nb] using hs) hB r) hB he⟩
 | .o s,d,v,B=>fun hs hB r=>by
  simp only [Own] at r
  rcases r with ⟨q | q,_⟩ | ⟨xs,rfl,r⟩
  ·subst q; simp [Rd]
  ·exact q.2.flat q.1
  ·simp only [Rd]
   rcases r with r | ⟨b,off,cap,cs,e,fz,B',rfl,hv,hb,ht,h1,h2,h3,he⟩
   ·exact .inl ⟨r.2.1,none,r.1⟩
   ·refine .inr ⟨b,off,cap,cs,e,fz,hv,hb,hB b (by simp),?_,h1,h3⟩
    exact Each.reads (fun d v B hB r=>Own.reads hZ s d v B (by simpa [Sh.nb] using hs) hB r) (fun b hb=>hB b (by simp [hb])) he
def Sh.okF:Sh→Bool
 | .v=>true
 | .y=>false
 | .o s=>s.okF
 | .a s=>s.okF
 | .b _=>false
theorem Own.freeze {fid:Nat→Nat} {h:Array Obj} {O X Z:Nat→Prop} (hZ:∀ b,b<h.size→Z b→O b∨X b):∀ (s:Sh) (d:D) (v:Value) (B:List Nat),s.okF=true→(∀ b∈B,¬ Z b)→
  Own fid h O X s d v B→Rd fid h Z d v
 | .v,d,v,B=>fun _ _ r=>by
  simp only [Own] at r
  exact r.2.mono hZ
 | .y,_,_,_=>fun h=>by simp [Sh.okF] at h
 | .b _,_,_,_=>fun h=>by simp [Sh.okF] at h
 | .a s,d,v,B=>fun hs hB r=>by
  simp only [Own] at r
  obtain ⟨xs,cs,rfl,rfl,hl,he⟩:=r
  simp only [Rd]
  exact ⟨cs,rfl,hl,Each.reads (fun d v B hB r=>Own.freeze hZ s d v B (by simpa [Sh.okF] using hs) hB r) hB he⟩
 | .o s,d,v,B=>fun hs hB r=>by
  simp only [Own] at r
  rcases r with ⟨q | q,_⟩ | ⟨xs,rfl,r⟩
  ·subst q; simp [Rd]
  ·exact q.2.flat q.1
  ·simp only [Rd]
   rcases r with r | ⟨b,off,cap,cs,e,fz,B',rfl,hv,hb,ht,h1,h2,h3,he⟩
   ·exact .inl ⟨r.2.1,none,r.1⟩
   ·refine .inr ⟨b,off,cap,cs,e,fz,hv,hb,hB b (by simp),?_,h1,h3⟩
    exact Each.reads (fun d v B hB r=>Own.freeze hZ s d v B (by simpa [Sh.okF] using hs) hB r) (fun b hb=>hB b (by simp [hb])) he
theorem Own.okR {fid:Nat→Nat} {h:Array Obj} {O O' X X':Nat→Prop} (hZ:∀ b,b<h.size→O' b∨X' b→O b∨X b):∀ (s:Sh) (d:D) (v:Value) (B:List Nat),okR s=true→
  Own fid h O X s d v B→Own fid h O' X' s d v B
 | .v,d,v,B=>fun _ r=>by
  simp only [Own] at r ⊢
  exact ⟨r.1,r.2.mono hZ⟩
 | .y,_,_,_=>fun h=>by simp [Cat.okR] at h
 | .o s,d,v,B=>fun hs r=>by
  simp only [Own] at r ⊢
  rcases r with r | ⟨xs,hd,r⟩
  ·exact .inl r
  ·refine .inr ⟨xs,hd,?_⟩
   rcases r with r | ⟨b,off,cap,cs,e,fz,B',hBB,hv,hb,ht,h1,h2,h3,he⟩
   ·exact .inl r
   ·exact .inr ⟨b,off,cap,cs,e,fz,B',hBB,hv,hb,ht,h1,h2,h3,Each.imp (fun d v B1 _=>Own.okR hZ s d v B1 (by simpa [Cat.okR] using hs)) he⟩
 | .a s,d,v,B=>fun hs r=>by
  simp only [Own] at r ⊢
  obtain ⟨xs,cs,hd,hv,hl,he⟩:=r
  exact ⟨xs,cs,hd,hv,hl,Each.imp (fun d v B1 _=>Own.okR hZ s d v B1 (by simpa [Cat.okR] using hs)) he⟩
 | .b s,d,v,B=>fun hs r=>by
  simp only [Own] at r ⊢
  obtain ⟨xs,b,cs,e,fz,B',hd,hBB,hv,hb,ht,hl,he⟩:=r
  exact ⟨xs,b,cs,e,fz,B',hd,hBB,hv,hb,ht,hl,Each.imp (fun d v B1 _=>Own.okR hZ s d v B1 (by simpa [Cat.okR] using hs)) he⟩
theorem Own.weak {fid:Nat→Nat} {h:Array Obj} {O O' X X':Nat→Prop} (hO:∀ b,b<h.size→O' b→O b) (hZ:∀ b,b<h.size→X' b→O b∨X b):∀ (s:Sh) (d:D) (v:Value) (B:List Nat),
  Own fid h O X s d v B→Own fid h O' X' s d v B
 | .v,d,v,B=>fun r=>by
  simp only [Own] at r ⊢
  exact ⟨r.1,r.2.mono fun b hb q=>q.elim (fun q=>.inl (hO b hb q)) (hZ b hb)⟩
 | .y,d,v,B=>fun r=>by
  simp only [Own] at r ⊢
  exact ⟨r.1,r.2.mono hO⟩
 | .o s,d,v,B=>fun r=>by
  simp only [Own] at r ⊢
  rcases r with r | ⟨xs,hd,r⟩
  ·exact .inl r
  ·refine .inr ⟨xs,hd,?_⟩
   rcases r with r | ⟨b,off,cap,cs,e,fz,B',hBB,hv,hb,ht,h1,h2,h3,he⟩
   ·exact .inl r
   ·exact .inr ⟨b,off,cap,cs,e,fz,B',hBB,hv,hb,ht,h1,h2,h3,Each.imp (fun d v B1 _=>Own.weak hO hZ s d v B1) he⟩
 | .a s,d,v,B=>fun r=>by
  simp only [Own] at r ⊢
  obtain ⟨xs,cs,hd,hv,hl,he⟩:=r
  exact ⟨xs,cs,hd,hv,hl,Each.imp (fun d v B1 _=>Own.weak hO hZ s d v B1) he⟩
 | .b s,d,v,B=>fun r=>by
  simp only [Own] at r ⊢
  obtain ⟨xs,b,cs,e,fz,B',hd,hBB,hv,hb,ht,hl,he⟩:=r
  exact ⟨xs,b,cs,e,fz,B',hd,hBB,hv,hb,ht,hl,Each.imp (fun d v B1 _=>Own.weak hO hZ s d v B1) he⟩
theorem EachS.fn {R:Sh→D→Value→List Nat→Prop}:∀ {ss:List Sh} {ds:List D} {vs:List Value} {B:List Nat},EachS R ss ds vs B→B.Nodup→
  ss.length=ds.length∧vs.length=ds.length∧∃ bf:Nat→List Nat,(∀ j s d v,ss[j]?=some s→ds[j]?=some d→vs[j]?=some v→R s d v (bf j))∧
   (∀ j,j<ds.length→(bf j).Nodup∧∀ b∈bf j,b∈B)∧(∀ i j,i<ds.length→j<ds.length→i≠j→∀ b∈bf i,b∉bf j)∧(∀ b∈B,∃ j,j<ds.length∧b∈bf j)
 | [],[],[],B=>fun h _=>by
  simp only [EachS] at h
  subst h
  exact ⟨rfl,rfl,fun _=>[],by simp,by simp,by simp,by simp⟩
 | s::ss,d::ds,v::vs,B=>fun h hn=>by
  simp only [EachS] at h
  obtain ⟨B1,B2,rfl,h1,h2⟩:=h
  obtain ⟨n1,n2,n3⟩:=List.nodup_append.1 hn
  obtain ⟨e1,e2,bf,k1,k2,k3,k4⟩:=EachS.fn h2 n2
  refine ⟨by simp [e1],by simp [e2],fun j=>match j with | 0=>B1 | j+1=>bf j,?_,?_,?_,?_⟩
  ·intro j s' d' v' a1 a2 a3
   cases j with
   | zero=>simp at a1 a2 a3; subst a1 a2 a3; exact h1
   | succ j=>exact k1 j s' d' v' (by simpa using a1) (by simpa using a2) (by simpa using a3)
  ·intro j hj
   cases j with
   | zero=>exact ⟨n1,fun b hb=>qal _ hb⟩
   | succ j=>exact ⟨(k2 j (by simpa using hj)).1,fun b hb=>qar _ ((k2 j (by simpa using hj)).2 b hb)⟩
  ·intro i j hi hj hne b hb1 hb2
   cases i with
   | zero=>
    cases j with
    | zero=>exact hne rfl
    | succ j=>exact n3 b hb1 b ((k2 j (by simpa using hj)).2 b hb2) rfl
   | succ i=>
    cases j with
    | zero=>exact n3 b hb2 b ((k2 i (by simpa using hi)).2 b hb1) rfl
    | succ j=>exact k3 i j (by simpa using hi) (by simpa using hj) (fun e=>hne (by rw [e])) b hb1 hb2
  ·intro b hb
   rcases qma.1 hb with hb | hb
   ·exact ⟨0,by simp,hb⟩
   ·obtain ⟨j,hj,hb⟩:=k4 b hb
    exact ⟨j+1,by simpa using hj,hb⟩
 | [],[],_::_,_=>fun h=>by simp [EachS] at h
 | [],_::_,_,_=>fun h=>by simp [EachS] at h
 | _::_,[],_,_=>fun h=>by simp [EachS] at h
 | _::_,_::_,[],_=>fun h=>by simp [EachS] at h
def A.ens:A→List Nat
 | .e n=>[n]
 | .c _=>[]
def ownArg (cf:CF) (st:List Fact) (g:Gd) (x:Operand) (s:Sh):Option (A×List Nat×List Nat×List Fact):=
 (opA cf st g x).bind fun a=>match a.1 with
  | .e n=>if a.2.1=s then some (a.1,[n],[],a.2.2) else none
  | .c _=>none
def iaArg (st:List Fact) (g:Gd) (x:Operand):Option (A×List Nat×List Nat×List Fact):=
 match x with
 | .tmp t=>match findSl st t with
  | some (.ia r m g')=>if g'.isPrefixOf g then (findEn st r).bind fun s=>match s with
   | .b s'=>if s'.nb=true then some (.e m,[],[r],[.sl t (.ia r m g'),.en r (.b s')]) else none
   | _=>none
   else none
  | _=>none
 | _=>none
def trArg (cf:CF) (st:List Fact) (g:Gd) (x:Operand) (s:Sh):Option (A×List Nat×List Nat×List Fact):=
 match s with
 | .y=>match iaArg st g x with
  | some r=>some r
  | none=>(opA cf st g x).bind fun a=>if a.2.1.nb=true then some (a.1,[],a.1.ens,a.2.2) else none
 | .v=>(opA cf st g x).bind fun a=>if a.2.1=.v then some (a.1,[],[],a.2.2) else none
 | .o s=>ownArg cf st g x (.o s)
 | .b s=>ownArg cf st g x (.b s)
 | .a s=>ownArg cf st g x (.a s)
def trArgs (cf:CF) (st:List Fact) (g:Gd):List Operand→List Sh→Option (List A×List Nat×List Nat×List Fact)
 | [],[]=>some ([],[],[],[])
 | x::xs,s::ss=>(trArg cf st g x s).bind fun a=>(trArgs cf st g xs ss).map fun r=>(a.1::r.1,a.2.1++r.2.1,a.2.2.1++r.2.2.1,a.2.2.2++r.2.2.2)
 | _,_=>none
def ents (cnt:Nat) (qs:List Sh):List Fact:=qs.zipIdx.map fun x=>.en (cnt+x.2) x.1
def callL (cnt:Nat) (n:Nat) (g:Gd):Loc:=if n=1 then .is cnt g else .tu ((List.range n).map (cnt+·)) g
def isKilled (ks:List Nat):Option A→Bool
 | some (.e n)=>ks.contains n
 | _=>false
def ioSlots (st:List Fact) (dst:Option Nat) (As:List A) (io:List Nat):List (Nat×Gd×Nat×Nat):=
 io.zipIdx.flatMap fun (x:Nat×Nat)=>match As[x.1]? with
  | some (.e n)=>(slotsOf st n).filterMap fun y=>if some y.1=dst then none else some (y.1,y.2,n,x.2)
  | _=>[]
def trCallTo (cf:CF) (sg:Nat→Option Sg) (st:List Fact) (cnt:Nat) (o:Oper) (g:Gd) (k:Nat) (xs:List Operand) (fb:Option (Nat×Nat×List Nat):=none):Option (Pr×Sm):=
 (sg k).bind fun s=>(trArgs cf st g xs s.ps).bind fun r=>
  if r.2.1.Nodup∧(∀ n∈r.2.2.1,n∉r.2.1)∧(∀ q∈s.outs,okR q=true)∧inB o.dst cf.nt=true∧(s.io.all fun i=>isKilled r.2.1 r.1[i]?)=true∧s.fb=fb then
   some (.ca k r.1 s.outs.length,⟨r.2.2.2++(ioSlots st o.dst r.1 s.io).map fun x=>.sl x.1 (.is x.2.2.1 x.2.1),r.2.1,ents cnt s.outs++(match o.dst with
    | some t=>[.sl t (callL cnt s.qs.length g)]
    | none=>[])++(ioSlots st o.dst r.1 s.io).map fun x=>.sl x.1 (.is (cnt+s.qs.length+x.2.2.2) x.2.1)⟩)
  else none
structure Sound (cf:CF) (sg:Nat→Option Sg) (K:Nat→List D→List D→Prop):Prop where
 con:∀ k ds rs s,K k ds rs→sg k=some s→Con cf.P cf.fid (cf.fid k) s ds rs
 enter:∀ k s,sg k=some s→∀ args w,(callFunc (cf.fid k) args).run cf.P w=.ok (.enter (cf.fid k) args) w
section
variable {cf:CF} {c:Cx} {F:Fact→Prop} {E:Nat→D} {a:Act} {w:World} {vs:Nat→Value} {Bs:Nat→List Nat} {g:Gd} {st:List Fact}
theorem findEn_mem {st:List Fact} {n:Nat} {s:Sh} (h:findEn st n=some s):Fact.en n s∈st:=by
 induction st with
 | nil=>simp [findEn] at h
 | cons f r ih=>
  cases f with
  | sl n s=>simp only [findEn] at h; exact qmc _ (ih h)
  | en u k=>
   simp only [findEn] at h
   split at h
   ·rename_i e; injection h with h; subst e h; exact List.mem_cons_self ..
   ·exact qmc _ (ih h)
theorem iaArg_sound {x:Operand} {A1:A} {kk rr:List Nat} {ns:List Fact} (h:iaArg st g x=some (A1,kk,rr,ns)) (H:HoldsG c F E a w vs Bs) (hF:∀ f∈ns,F f) (hg:gdOK E g):
  kk=[]∧∃ r m s',A1=.e m∧rr=[r]∧F (.en r (.b s'))∧s'.nb=true∧a.eval x=vs m∧∃ xs b cs e B',E m=.g xs∧vs m=.agg cs∧Bs r=b::B'∧w.heap[b]?=some (.cells cs e (0,0))∧cs.size=xs.length∧
   Each (Own c.fid w.heap (OB F Bs) c.Xb s') xs cs.toList B':=by
 unfold iaArg at h
 split at h
 ·rename_i t
  split at h
  ·rename_i r m g' hl
   split at h
   ·rename_i hg'
    simp only [qbs] at h
    obtain ⟨s1,hs1,h⟩:=h
    split at h
    ·rename_i s'
     split at h
     ·rename_i hnb
      simp only [qsj,qpj] at h
      obtain ⟨rfl,rfl,rfl,rfl⟩:=h
      have h2:=hF (.en r (.b s')) (by simp)
      obtain ⟨xs,b,cs,e,fz,k1,k2,k3,k4,k5,k6⟩:=H.loc t _ (hF (.sl t (.ia r m g')) (by simp)) (fun x hx=>hg x ((List.isPrefixOf_iff_prefix.1 hg').subset hx)) ⟨_,h2⟩
      have ho:=H.own r _ h2
      rw [k1,k3] at ho
      obtain ⟨s2,cs2,e2,B',hs2,hB,hb,hn,he⟩:=ho.isBox
      injection hs2 with hs2
      subst hs2
      rw [k4] at hb
      injection hb with hb
      injection hb with hc1 hc2 hc3
      subst hc1
      refine ⟨rfl,r,m,s',rfl,rfl,h2,hnb,?_,xs,b,cs,e,B',k2,k5,hB,by rw [k4,hc3],hn,he⟩
      simp [Act.eval,qag,k6]
     ·cases h
    ·cases h
   ·cases h
  ·cases h
 ·cases h
theorem ownArg_eq {x:Operand} {s:Sh} {A1:A} {kk rr:List Nat} {n1:List Fact} (h:ownArg cf st g x s=some (A1,kk,rr,n1)):∃ n,A1=.e n∧kk=[n]∧rr=[]∧opA cf st g x=some (.e n,s,n1):=by
 unfold ownArg at h
 simp only [qbs] at h
 obtain ⟨⟨A2,s2,n3⟩,h4,h5⟩:=h
 cases A2 with
 | c d=>simp at h5
 | e n=>
  simp only at h5
  split at h5
  ·rename_i hv
   subst hv
   simp only [qsj,qpj] at h5
   obtain ⟨rfl,rfl,rfl,rfl⟩:=h5
   exact ⟨n,rfl,rfl,rfl,h4⟩
  ·cases h5
theorem trArg_cases {x:Operand} {s:Sh} {A1:A} {kk rr:List Nat} {n1:List Fact} (h:trArg cf st g x s=some (A1,kk,rr,n1)):
  (s=.y∧iaArg st g x=some (A1,kk,rr,n1))∨(s=.y∧∃ s2,opA cf st g x=some (A1,s2,n1)∧s2.nb=true∧kk=[]∧rr=A1.ens)∨
  (s=.v∧opA cf st g x=some (A1,.v,n1)∧kk=[]∧rr=[])∨(ownArg cf st g x s=some (A1,kk,rr,n1)):=by
 cases s with
 | y=>
  simp only [trArg] at h
  cases hr:iaArg st g x with
  | some r=>
   rw [hr] at h
   exact .inl ⟨rfl,h⟩
  | none=>
   rw [hr] at h
   simp only [qbs] at h
   obtain ⟨⟨A2,s2,n3⟩,h4,h5⟩:=h
   simp only at h5
   split at h5
   ·rename_i hnb
    simp only [qsj,qpj] at h5
    obtain ⟨rfl,rfl,rfl,rfl⟩:=h5
    exact .inr (.inl ⟨rfl,s2,h4,hnb,rfl,rfl⟩)
   ·cases h5
 | v=>
  simp only [trArg,qbs] at h
  obtain ⟨⟨A2,s2,n3⟩,h4,h5⟩:=h
  simp only at h5
  split at h5
  ·rename_i hv
   subst hv
   simp only [qsj,qpj] at h5
   obtain ⟨rfl,rfl,rfl,rfl⟩:=h5
   exact .inr (.inr (.inl ⟨rfl,h4,rfl,rfl⟩))
  ·cases h5
 | o s=>exact .inr (.inr (.inr h))
 | b s=>exact .inr (.inr (.inr h))
 | a s=>exact .inr (.inr (.inr h))
theorem trArgs_sound (hc:cf.Fits c) (H:HoldsG c F E a w vs Bs) (hg:gdOK E g) (ks:List Nat) (hks:∀ n∈ks,alive F n) (X':Nat→Prop)
  (hX':∀ b,b<w.heap.size→X' b→OB F Bs b∨c.Xb b):∀ (xs:List Operand) (ss:List Sh) (As:List A) (k2 rd:List Nat) (ns:List Fact),
  trArgs cf st g xs ss=some (As,k2,rd,ns)→(∀ f∈ns,F f)→(∀ n∈k2,n∈ks)→(∀ n∈rd,n∉ks)→
  EachS (Own c.fid w.heap (·∈ks.flatMap Bs) X') ss (As.map (ev E)) (xs.map a.eval) (k2.flatMap Bs)
 | [],[],As,k2,rd,ns=>fun h _ _ _=>by
  simp only [trArgs,qsj,qpj] at h
  obtain ⟨rfl,rfl,_,_⟩:=h
  simp [EachS]
 | x::xs,s::ss,As,k2,rd,ns=>fun h hn hk hr=>by
  simp only [trArgs,qbs,qms] at h
  obtain ⟨⟨A1,kk,rr,n1⟩,h1,⟨As2,k3,rd2,n2⟩,h2,h3⟩:=h
  simp only [qpj] at h3
  obtain ⟨rfl,rfl,rfl,rfl⟩:=h3
  have ih:=trArgs_sound hc H hg ks hks X' hX' xs ss As2 k3 rd2 n2 h2 (fun f hf=>hn f (qar _ hf)) (fun n h=>hk n (qar _ h)) (fun n h=>hr n (qar _ h))
  have hO:∀ b,b<w.heap.size→b∈ks.flatMap Bs→OB F Bs b:=by
   intro b _ hb
   obtain ⟨n,hn,hb⟩:=List.mem_flatMap.1 hb
   obtain ⟨s,hs⟩:=hks n hn
   exact ⟨n,s,hs,hb⟩
  simp only [List.map_cons,EachS]
  refine ⟨kk.flatMap Bs,k3.flatMap Bs,by simp,?_,ih⟩
  rcases trArg_cases h1 with ⟨rfl,h4⟩ | ⟨rfl,s2,h4,hnb,rfl,rfl⟩ | ⟨rfl,h4,rfl,rfl⟩ | h4
  ·obtain ⟨rfl,r,m,s',rfl,rfl,f1,hnb,hx,ys,b,cs,e,B',k2,k5,hB,hb,hn2,he⟩:=iaArg_sound h4 H (fun f hf=>hn f (qal _ hf)) hg
   simp only [Own,ev]
   refine ⟨by simp,?_⟩
   rw [k2,hx,k5]
   simp only [Rd]
   refine ⟨cs,rfl,hn2,Each.reads (fun d v B hB r=>Own.reads hO s' d v B hnb hB r) (fun b2 hb2 hb3=>?_) he⟩
   obtain ⟨m2,hm2,hb3⟩:=List.mem_flatMap.1 hb3
   have hne:r≠m2:=fun e=>hr r (by simp) (e ▸ hm2)
   obtain ⟨r3,hr3⟩:=hks m2 hm2
   exact H.apart r _ m2 r3 f1 hr3 hne b2 (by rw [hB]; exact qmc _ hb2) hb3
  ·obtain ⟨B1,o1,o2⟩:=opA_sound hc h4 H (fun f hf=>hn f (qal _ hf)) hg
   simp only [Own]
   refine ⟨by simp,Own.reads hO s2 _ _ B1 hnb ?_ o1⟩
   intro b hb hb2
   obtain ⟨m,hm,hb2⟩:=List.mem_flatMap.1 hb2
   cases A1 with
   | c d=>
    have:B1=[]:=by
     cases x with
     | const v=>
      simp only [opA,qms,qpj] at h4
      obtain ⟨_,_,_,rfl,_⟩:=h4
      simp only [Own] at o1; exact o1.1
     | func f=>
      simp only [opA,qms,qpj] at h4
      obtain ⟨_,_,_,rfl,_⟩:=h4
      simp only [Own] at o1; exact o1.1
     | global _=>simp [opA] at h4
     | tmp t=>
      simp only [opA] at h4
      split at h4
      ·split at h4
       ·simp only [qms,qpj] at h4
        obtain ⟨_,_,h,_⟩:=h4
        simp at h
       ·simp at h4
      ·simp at h4
    subst this; simp at hb
   | e n=>
    obtain ⟨f1,f2,f3⟩:=o2 n rfl
    subst f3
    have hne:n≠m:=fun e=>hr n (by simp [A.ens]) (e ▸ hm)
    obtain ⟨r,hr2⟩:=hks m hm
    exact H.apart n s2 m r f1 hr2 hne b hb hb2
  ·obtain ⟨B1,o1,o2⟩:=opA_sound hc h4 H (fun f hf=>hn f (qal _ hf)) hg
   simp only [Own] at o1 ⊢
   exact ⟨by simp,o1.2.mono fun b hb q=>q.elim (fun q=>.inl (hO b hb q)) (hX' b hb)⟩
  ·obtain ⟨n,rfl,rfl,rfl,h5⟩:=ownArg_eq h4
   obtain ⟨B1,o1,o2⟩:=opA_sound hc h5 H (fun f hf=>hn f (qal _ hf)) hg
   obtain ⟨f1,f2,f3⟩:=o2 n rfl
   subst f3
   have:=Own.weak hO hX' _ _ _ _ o1
   rw [show [n].flatMap Bs=Bs n from by simp]
   exact this
 | [],_::_,_,_,_,_=>fun h=>by simp [trArgs] at h
 | _::_,[],_,_,_,_=>fun h=>by simp [trArgs] at h
theorem range_get {n j:Nat} (h:j<n):(List.range n)[j]?=some j:=by simp [h]
theorem mem_ents {cnt:Nat} {qs:List Sh} {f:Fact}:f∈ents cnt qs↔∃ j q,qs[j]?=some q∧f=.en (cnt+j) q:=by
 unfold ents
 simp only [List.mem_map,Prod.exists,List.mem_zipIdx_iff_getElem?]
 constructor
 ·rintro ⟨q,j,h,rfl⟩; exact ⟨j,q,h,rfl⟩
 ·rintro ⟨j,q,h,rfl⟩; exact ⟨q,j,h,rfl⟩
theorem ioSlots_spec {st:List Fact} {dst:Option Nat} {As:List A} {io:List Nat} {u:Nat} {gu:Gd} {n j:Nat} (h:(u,gu,n,j)∈ioSlots st dst As io):
  ∃ i,io[j]?=some i∧As[i]?=some (.e n)∧some u≠dst:=by
 unfold ioSlots at h
 simp only [List.mem_flatMap,Prod.exists] at h
 obtain ⟨i,j',h1,h2⟩:=h
 split at h2
 ·rename_i m hm
  simp only [List.mem_filterMap] at h2
  obtain ⟨y,_,h3⟩:=h2
  split at h3
  ·cases h3
  ·rename_i hne
   simp only [qsj,qpj] at h3
   obtain ⟨rfl,rfl,rfl,rfl⟩:=h3
   exact ⟨i,by simpa using List.mem_zipIdx_iff_getElem?.1 h1,hm,hne⟩
 ·simp at h2
theorem trArgs_val (hc:cf.Fits c) (H:HoldsG c F E a w vs Bs) (hg:gdOK E g):∀ (xs:List Operand) (ss:List Sh) (As:List A) (k2 rd:List Nat) (ns:List Fact),trArgs cf st g xs ss=some (As,k2,rd,ns)→(∀ f∈ns,F f)→
  ∀ (i n:Nat),As[i]?=some (.e n)→((xs[i]?).map a.eval).getD undef=vs n
 | [],[],As,k2,rd,ns=>fun h _ i n hi=>by
  simp only [trArgs,qsj,qpj] at h
  obtain ⟨rfl,_⟩:=h
  simp at hi
 | x::xs,s::ss,As,k2,rd,ns=>fun h hn i n hi=>by
  simp only [trArgs,qbs,qms] at h
  obtain ⟨⟨A1,kk,rr,n1⟩,h1,⟨As2,k3,rd2,n2⟩,h2,h3⟩:=h
  simp only [qpj] at h3
  obtain ⟨rfl,rfl,rfl,rfl⟩:=h3
  cases i with
  | succ i=>simpa using trArgs_val hc H hg xs ss As2 k3 rd2 n2 h2 (fun f hf=>hn f (qar _ hf)) i n (by simpa using hi)
  | zero=>
   simp at hi
   subst hi
   have hn1:∀ f∈n1,F f:=fun f hf=>hn f (qal _ hf)
   rcases trArg_cases h1 with ⟨rfl,h4⟩ | ⟨rfl,s2,h4,_⟩ | ⟨rfl,h4,_⟩ | h4
   ·obtain ⟨_,r,m,s',h5,_,_,_,hx,_⟩:=iaArg_sound h4 H hn1 hg
    injection h5 with h5
    subst h5
    simpa using hx
   ·obtain ⟨B1,o1,o2⟩:=opA_sound hc h4 H hn1 hg
    simpa using (o2 n rfl).2.1
   ·obtain ⟨B1,o1,o2⟩:=opA_sound hc h4 H hn1 hg
    simpa using (o2 n rfl).2.1
   ·obtain ⟨n',h6,_,_,h5⟩:=ownArg_eq h4
    injection h6 with h6
    subst h6
    obtain ⟨B1,o1,o2⟩:=opA_sound hc h5 H hn1 hg
    simpa using (o2 n rfl).2.1
 | [],_::_,_,_,_,_=>fun h=>by simp [trArgs] at h
 | _::_,[],_,_,_,_=>fun h=>by simp [trArgs] at h
theorem trCallTo_sound {sg:Nat→Option Sg} {K:Nat→List D→List D→Prop} (hs:Sound cf sg K) (hc:cf.Fits c) {cnt:Nat} {o:Oper} {k:Nat} {xs:List Operand} {fb:Option (Nat×Nat×List Nat)} {p:Pr} {sm:Sm}
  (ht:trCallTo cf sg st cnt o g k xs fb=some (p,sm)) (hfb:FB cf.fid w.heap (OB F Bs) (xs.map a.eval) fb) (H:HoldsG c F E a w vs Bs) (hfresh:∀ j,j<p.np→Fresh F (cnt+j)) (hn:∀ f∈sm.needs,F f) (hg:gdOK E g) (hE:EvP K E cnt p)
  (hr:(execOp a.eval o).run c.P w=(callFunc (cf.fid k) (xs.map a.eval).toArray).run c.P w):StepOK c o sm F E a w:=by
 unfold trCallTo at ht
 simp only [qbs] at ht
 obtain ⟨s,hsg,⟨As,ks,rd,ns⟩,hargs,ht⟩:=ht
 simp only at ht
 split at ht
 ·rename_i hcond
  obtain ⟨hnd,hrd,hok,hin,hio,hsfb⟩:=hcond
  simp only [qsj,qpj] at ht
  obtain ⟨rfl,rfl⟩:=ht
  simp only at hn
  have hnAll:=hn
  replace hn:∀ f∈ns,F f:=fun f hf=>hnAll f (qal _ hf)
  obtain ⟨rs,hK,hlen,hrs⟩:=hE
  -- what is handed over
  have hks:∀ n∈ks,alive F n:=by
   have:∀ (xs:List Operand) (ss:List Sh) (As:List A) (ks rd:List Nat) (ns:List Fact),trArgs cf st g xs ss=some (As,ks,rd,ns)→(∀ f∈ns,F f)→∀ n∈ks,alive F n:=by
    intro xs
    induction xs with
    | nil=>
     intro ss As ks rd ns h _ n hn
     cases ss with
     | nil=>simp only [trArgs,qsj,qpj] at h; obtain ⟨_,rfl,_⟩:=h; simp at hn
     | cons _ _=>simp [trArgs] at h
    | cons x xs ih=>
     intro ss As ks rd ns h hF n hn
     cases ss with
     | nil=>simp [trArgs] at h
     | cons s ss=>
      simp only [trArgs,qbs,qms] at h
      obtain ⟨⟨A1,kk,rr,n1⟩,h1,⟨As2,k3,rd2,n2⟩,h2,h3⟩:=h
      simp only [qpj] at h3
      obtain ⟨rfl,rfl,rfl,rfl⟩:=h3
      rcases qma.1 hn with hn | hn
      ·rcases trArg_cases h1 with ⟨rfl,h4⟩ | ⟨rfl,s2,h4,_,rfl,_⟩ | ⟨rfl,h4,rfl,_⟩ | h4
       ·obtain ⟨rfl,_⟩:=iaArg_sound h4 H (fun f hf=>hF f (qal _ hf)) hg
        simp at hn
       ·simp at hn
       ·simp at hn
       ·obtain ⟨m,rfl,rfl,rfl,h5⟩:=ownArg_eq h4
        simp at hn; subst hn
        obtain ⟨_,_,o2⟩:=opA_sound hc h5 H (fun f hf=>hF f (qal _ hf)) hg
        exact ⟨_,(o2 _ rfl).1⟩
      ·exact ih ss As2 k3 rd2 n2 h2 (fun f hf=>hF f (qar _ hf)) n hn
   exact this xs s.ps As ks rd ns hargs hn
  have hlt:∀ n s,F (.en n s)→∀ b∈Bs n,b<w.heap.size:=fun n s h=>Own.blocks_lt s _ _ _ (H.own n s h)
  have hBnd:(ks.flatMap Bs).Nodup:=by
   clear hargs hrd hio
   induction ks with
   | nil=>simp
   | cons n ks ih=>
    simp only [List.flatMap_cons]
    obtain ⟨q1,q2⟩:=List.nodup_cons.1 hnd
    refine List.nodup_append.2 ⟨?_,ih q2 fun n hn=>hks n (qmc _ hn),?_⟩
    ·obtain ⟨s,hs⟩:=hks n (List.mem_cons_self ..); exact H.nodup n s hs
    ·intro b hb b' hb' e
     subst e
     obtain ⟨m,hm,hb'⟩:=List.mem_flatMap.1 hb'
     obtain ⟨s1,hs1⟩:=hks n (List.mem_cons_self ..)
     obtain ⟨s2,hs2⟩:=hks m (qmc _ hm)
     exact H.apart n s1 m s2 hs1 hs2 (fun e=>q1 (e ▸ hm)) b hb hb'
  let X':Nat→Prop:=fun b=>(c.Xb b∨OB F Bs b)∧b∉ks.flatMap Bs
  have hX1:∀ b,X' b→b<w.heap.size∧b∉ks.flatMap Bs:=by
   rintro b ⟨h1,h2⟩
   refine ⟨?_,h2⟩
   rcases h1 with h1 | ⟨n,s,h3,h4⟩
   ·have:=(c.hX b h1).1; have:=H.agr.size; omega
   ·exact hlt n s h3 b h4
  have hXk:∀ b,c.Xb b→b∉ks.flatMap Bs:=by
   intro b hb hm
   obtain ⟨n,hn,hb2⟩:=List.mem_flatMap.1 hm
   obtain ⟨s,hs⟩:=hks n hn
   have:=c.hX b hb
   rcases H.mine n s hs b hb2 with q | q
   ·omega
   ·exact this.2 q
  have hE2:=trArgs_sound hc H hg ks hks X' (fun b _ q=>q.1.symm) xs s.ps As ks rd ns hargs hn (fun _ h=>h) hrd
  have hfb':FB cf.fid w.heap (·∈ks.flatMap Bs) (xs.map a.eval) s.fb:=by
   rw [hsfb]
   cases fb with
   | none=>trivial
   | some x=>
    obtain ⟨m,k',cs⟩:=x
    obtain ⟨b,hs,e,fz,q1,q2,q4,q3⟩:=hfb
    refine ⟨b,hs,e,fz,q1,q2,q4,fun hb=>q3 ?_⟩
    obtain ⟨n,hn,hb⟩:=List.mem_flatMap.1 hb
    obtain ⟨r,hr⟩:=hks n hn
    exact ⟨n,r,hr,hb⟩
  have hcon:=hs.con k _ rs s hK hsg w X' (xs.map a.eval) (ks.flatMap Bs) hBnd hX1 (hc.fid ▸ hE2) hfb'
  intro nxt Q hnxt
  have hr':(execOp a.eval o).run c.P w=.ok (.enter (cf.fid k) (xs.map a.eval).toArray) w:=by
   rw [hr,hc.P]; exact hs.enter k s hsg _ w
  simp only [Oper.wp,hr',Oper.upon]
  rw [hc.P]
  refine Calls.mono hcon ?_
  rintro e w' ⟨v,rv0,B',rfl,htup,hvl,hagr,hos,htape,hout,hnd',hbl',hres⟩
  obtain ⟨rvs,hrvs⟩:∃ r,r=rv0++s.io.map fun i=>(xs.map a.eval).getD i undef:=⟨_,rfl⟩
  rw [← hrvs] at hres
  refine hnxt _ _ ?_
  obtain ⟨l1,l2,bf,k1,k2,k3,_⟩:=EachS.fn hres hnd'
  have hrl:rs.length=s.outs.length:=hlen
  have hol:s.outs.length=s.qs.length+s.io.length:=by simp [Sg.outs]
  let vs':Nat→Value:=fun n=>if cnt≤n∧n<cnt+rs.length then rvs.getD (n-cnt) undef else vs n
  let Bs':Nat→List Nat:=fun n=>if cnt≤n∧n<cnt+rs.length then bf (n-cnt) else Bs n
  refine ⟨vs',Bs',?_⟩
  have hnew:∀ j,j<rs.length→vs' (cnt+j)=rvs.getD j undef∧Bs' (cnt+j)=bf j:=by
   intro j hj
   have:cnt≤cnt+j∧cnt+j<cnt+rs.length:=by omega
   simp only [vs',Bs',if_pos this,Nat.add_sub_cancel_left,and_self]
  have hfacts:∀ f,f∈ents cnt s.outs++(match o.dst with | some t=>[Fact.sl t (callL cnt s.qs.length g)] | none=>[])→
    (∃ j q,s.outs[j]?=some q∧f=.en (cnt+j) q)∨∃ t,o.dst=some t∧f=.sl t (callL cnt s.qs.length g):=by
   intro f hf
   rcases qma.1 hf with hf | hf
   ·exact .inl (mem_ents.1 hf)
   ·cases hd:o.dst with
    | none=>rw [hd] at hf; simp at hf
    | some t=>rw [hd] at hf; simp at hf; exact .inr ⟨t,rfl,hf⟩
  suffices H1:HoldsG c (next F o.dst ⟨[],ks,ents cnt s.outs++(match o.dst with | some t=>[Fact.sl t (callL cnt s.qs.length g)] | none=>[])⟩) E (a.put o.dst v) w' vs' Bs' by
   refine H1.more ?_ ?_
   ·intro n s'
    simp only [next,qma,List.mem_map]
    constructor
    ·rintro (q | q | ⟨_,_,q⟩)
     ·exact .inl q
     ·exact .inr q
     ·cases q
    ·rintro (q | q)
     ·exact .inl q
     ·exact .inr (.inl q)
   ·intro t l hf
    rcases hf with ⟨q1,q2⟩ | q
    ·exact .inl (.inl ⟨q1,q2⟩)
    ·rcases qma.1 q with q | q
     ·exact .inl (.inr q)
     ·obtain ⟨⟨u,gu,n,j⟩,hu,q⟩:=List.mem_map.1 q
      injection q with q1 q2
      subst q1 q2
      have hsl:F (.sl u (.is n gu)):=hnAll _ (qar _ (List.mem_map.2 ⟨_,hu,rfl⟩))
      obtain ⟨i,hij,hAi,hud⟩:=ioSlots_spec hu
      have hvn:=trArgs_val hc H hg xs s.ps As ks rd ns hargs hn i n hAi
      have hnk:alive F n:=by
       have:=qat.1 hio i (List.mem_of_getElem? hij)
       rw [hAi] at this
       exact hks n (by simpa [isKilled] using this)
      refine .inr ⟨cnt+s.qs.length+j,gu,n,rfl,.inl ⟨hsl,hud⟩,?_⟩
      have hjl:j<s.io.length:=(List.getElem?_eq_some_iff.1 hij).1
      have hn1:=(hnew (s.qs.length+j) (by omega)).1
      rw [show cnt+(s.qs.length+j)=cnt+s.qs.length+j by omega] at hn1
      rw [hn1,hrvs,qgd,qgr (by omega)]
      have hal:¬ (cnt≤n∧n<cnt+rs.length):=by
       rintro ⟨z1,z2⟩
       have:=(hfresh (n-cnt) (by simp only [Pr.np]; omega)).1
       rw [show cnt+(n-cnt)=n from by omega] at this
       obtain ⟨r,hr⟩:=hnk
       exact this r hr
      simp only [vs',if_neg hal]
      rw [show s.qs.length+j-rv0.length=j by omega,List.getElem?_map,hij]
      simp only [Option.map_some,Option.getD_some,qgd,List.getElem?_map]
      exact hvn
  refine HoldsG.step (fun n=>cnt≤n∧n<cnt+rs.length) (fun n=>n∈ks) (·∈ks.flatMap Bs) o.dst H (fun n hn=>by simp only [vs',if_neg hn]) (fun n hn=>by simp only [Bs',if_neg hn])
   (fun t l hl n hn q=>by
    have:=(hfresh (n-cnt) (by simp only [Pr.np]; omega)).2 t l hl
    rw [show cnt+(n-cnt)=n from by omega] at this
    exact this hn)
   (fun b hb=>by
    obtain ⟨n,hn,hb⟩:=List.mem_flatMap.1 hb
    obtain ⟨s,hs⟩:=hks n hn
    exact ⟨n,s,hs,hn,hb⟩)
   hagr hos htape hout (fun t ht=>put_get ht) put_size put_defers ?_ ?_ ?_ ?_ ?_ ?_
  ·rintro f (⟨h1,h2⟩ | h)
   ·left; refine ⟨h1,?_⟩; cases f <;> exact h2
   ·right
    rcases hfacts f h with ⟨j,q,hj,rfl⟩ | ⟨t,ht,rfl⟩
    ·have:j<s.outs.length:=by
      rcases qlg j s.outs.length with q | q
      ·exact q
      ·rw [qgn q] at hj; simp at hj
     show cnt≤cnt+j∧cnt+j<cnt+rs.length
     omega
    ·exact ht.symm
  ·rintro n r ⟨q1,q2⟩ hf
   rcases hf with ⟨h1,_⟩ | h
   ·have:=(hfresh (n-cnt) (by simp only [Pr.np]; omega)).1 r
    rw [show cnt+(n-cnt)=n from by omega] at this
    exact (this h1).elim
   ·rcases hfacts _ h with ⟨j,q,hj,he⟩ | ⟨t,_,he⟩
    ·injection he with e1 e2
     subst e1 e2
     have hjl:j<rs.length:=by omega
     have hd:=hrs j (by omega)
     have hv:rvs[j]?=some (rvs.getD j undef):=by simp [qgd,show j<rvs.length from by omega]
     have:=k1 j r _ _ hj hd hv
     rw [(hnew j hjl).1,(hnew j hjl).2]
     refine Own.okR ?_ r _ _ _ (hok r (List.mem_of_getElem? hj)) (hc.fid ▸ this)
     intro b hb hz
     rcases hz with (⟨m,s2,z1,z2,z3⟩ | ⟨m,⟨z1,z1'⟩,z2⟩) | hz
     ·refine .inr ⟨.inr ⟨m,s2,z1,z3⟩,?_⟩
      intro hm
      obtain ⟨m2,hm2,hb2⟩:=List.mem_flatMap.1 hm
      obtain ⟨s3,hs3⟩:=hks m2 hm2
      exact H.apart m s2 m2 s3 z1 hs3 (fun e=>z2 (e ▸ hm2)) b z3 hb2
     ·left
      have e:m=cnt+(m-cnt):=by omega
      rw [e,(hnew (m-cnt) (by omega)).2] at z2
      exact (k2 (m-cnt) (by omega)).2 b z2
     ·exact .inr ⟨.inl hz,hXk b hz⟩
    ·simp at he
  ·rintro n r ⟨q1,q2⟩ _
   have e:n=cnt+(n-cnt):=by omega
   rw [e,(hnew (n-cnt) (by omega)).2]
   exact (k2 (n-cnt) (by omega)).1
  ·rintro n r ⟨q1,q2⟩ _ b hb
   have e:n=cnt+(n-cnt):=by omega
   rw [e,(hnew (n-cnt) (by omega)).2] at hb
   rcases hbl' b ((k2 (n-cnt) (by omega)).2 b hb) with h | h
   ·left
    obtain ⟨m,hm,hb⟩:=List.mem_flatMap.1 h
    obtain ⟨s2,hs2⟩:=hks m hm
    exact ⟨m,s2,hs2,hm,hb⟩
   ·exact .inr h
  ·rintro n r m q ⟨q1,q2⟩ ⟨q3,q4⟩ _ _ hne b hb hb2
   have e:n=cnt+(n-cnt):=by omega
   have e2:m=cnt+(m-cnt):=by omega
   rw [e,(hnew (n-cnt) (by omega)).2] at hb
   rw [e2,(hnew (m-cnt) (by omega)).2] at hb2
   exact k3 (n-cnt) (m-cnt) (by omega) (by omega) (by omega) b hb hb2
  ·rintro t l ht hf
   rcases hf with ⟨_,h2⟩ | h
   ·exact (h2 ht).elim
   ·rcases hfacts _ h with ⟨j,q,hj,he⟩ | ⟨t2,ht2,he⟩
    ·simp at he
    ·injection he with e1 e2
     subst e1 e2
     have hput:(a.put o.dst v).tmps[t]?=some v:=by
      rw [ht2]
      exact put_self (by rw [H.size,hc.nt]; rw [ht2] at hin; simpa [inB] using hin)
     by_cases h1:s.qs.length=1
     ·rw [callL,if_pos h1]
      refine ⟨fun _=>?_,fun q=>(q hg).elim⟩
      rw [hput]
      have h2:rv0.length=1:=by omega
      match rv0,h2 with
      | [x],_=>
       have:=(hnew 0 (by omega)).1
       simp only [Nat.add_zero] at this
       rw [this,hrvs]
       simp only [tupled] at htup
       simp [htup]
     ·rw [callL,if_neg h1]
      intro _
      rw [hput]
      have h2:rv0.length≠1:=by omega
      have h3:v=.tuple rv0.toArray:=by
       match rv0,h2,htup with
       | [],_,h=>exact h
       | [x],h,_=>simp at h
       | _::_::_,_,h=>exact h
      rw [h3]
      congr 3
      apply List.ext_getElem?
      intro j
      simp only [List.getElem?_map]
      rcases qlg j s.qs.length with hj | hj
      ·rw [range_get (by omega)]
       simp only [Option.map_some]
       rw [(hnew j (by omega)).1,hrvs]
       simp [qgd,qgl (show j<rv0.length by omega),show j<rv0.length from by omega]
      ·rw [qgn (by omega),qgn (by simp; omega)]
       rfl
 ·simp at ht
end
end Go.Cat
namespace Go.Cat
def elem1 (P:Program) (t:TypeId):Option (TypeId×TypeInfo):=
 match P.underlying t with
 | some (.slice e)=>match P.info? e with
  | some i=>if i.size=1 then some (e,i) else none
  | none=>none
 | _=>none
theorem elem1_spec {P:Program} {t e:TypeId} {i:TypeInfo} (h:elem1 P t=some (e,i)):P.underlying t=some (.slice e)∧P.info? e=some i∧i.size=1:=by
 unfold elem1 at h
 split at h
 ·rename_i e' he
  split at h
  ·rename_i i' hi
   split at h
   ·rename_i hs
    simp only [qsj,qpj] at h
    obtain ⟨rfl,rfl⟩:=h
    exact ⟨he,hi,hs⟩
   ·cases h
  ·cases h
 ·cases h
def plain1 (P:Program) (t:TypeId):Bool:=
 (match P.underlying t with
 | some (.struct _)=>false
 | some (.array ..)=>false
 | some _=>true
 | none=>false)&&(match P.info? t with | some i=>i.size == 1 | none=>false)
theorem run_isAgg {P:Program} {w:World} {t:TypeId} (h:plain1 P t=true):(isAgg t).run P w=.ok false w:=by
 unfold plain1 at h
 simp only [qba] at h
 obtain ⟨h,_⟩:=h
 unfold isAgg
 split at h
 ·cases h
 ·cases h
 ·rename_i d h1 h2 h3
  rw [Sem.run_bind,run_underlying h3]
  simp only [Result.andThen]
  rfl
 ·cases h
theorem run_indexAt1 {P:Program} {w:World} {t e:TypeId} {i:TypeInfo} (h:elem1 P t=some (e,i)) {b off len cap:Nat} {k:IntKind} {n:Nat} (hn:n<len):
  (Instr.indexAt t (.slice (some ⟨b,off,none⟩) len cap) (.int k (n:Int))).run P w=.ok (.pointer (some ⟨b,off+n,none⟩)) w:=by
 obtain ⟨h1,h2,h3⟩:=elem1_spec h
 simp [Instr.indexAt,run_underlying h1,asIntOf,hn,sizeOf,typeInfo,h2,h3,Addr.add_lit]
theorem run_loadAt1 {P:Program} {w:World} {t:TypeId} (h:plain1 P t=true) {b o:Nat} {cs:Array Value} {e:TypeId} {fz:Nat×Nat} {v:Value} (hb:w.heap[b]?=some (.cells cs e fz)) (hv:cs[o]?=some v):
  (Instr.loadAt t (.pointer (some ⟨b,o,none⟩))).run P w=.ok v w:=by
 have hc:w.cell? ⟨b,o,none⟩=some v:=by simp [World.cell?,hb,hv]
 simp [Instr.loadAt,Instr.sureAddr,loadVar,run_isAgg h,hc,Result.andThen]
theorem run_storeAt1 {P:Program} {w:World} {t:TypeId} (h:plain1 P t=true) {b o:Nat} {cs:Array Value} {e:TypeId} {v u:Value} (hb:w.heap[b]?=some (.cells cs e (0,0))) (hv:cs[o]?=some u) (h1:v.oneCell'=true):
  (Instr.storeAt t (.pointer (some ⟨b,o,none⟩)) v).run P w=.ok () (w.setRow b (cs.setIfInBounds o v)):=by
 have hc:w.cell? ⟨b,o,none⟩=some u:=by simp [World.cell?,hb,hv]
 have hf:w.frozen? ⟨b,o,none⟩=false:=by simp [World.frozen?,hb]
 have hcs:v.cells=#[v]:=by cases v <;> simp_all [Value.cells,Value.oneCell']
 unfold plain1 at h
 simp only [qba] at h
 obtain ⟨_,h⟩:=h
 split at h
 ·rename_i i hi
  have hs:i.size=1:=by simpa using h
  have hst:=run_store P w ⟨b,o,none⟩ v .plain h1
  rw [hc] at hst
  simp only [hf] at hst
  simp [Instr.storeAt,Instr.sureAddr,storeVar,hcs,sizeOf,typeInfo,hi,hs,storeCells,Addr.add_lit,Result.andThen]
  have:=hst
  simp at this
  rw [this,setCell_eq_setRow w b o cs e (0,0) v hb]
 ·cases h
end Go.Cat
namespace Go.Cat
theorem HoldsG.put {c:Cx} {F:Fact→Prop} {E:Nat→D} {a:Act} {w w':World} {vs:Nat→Value} {Bs:Nat→List Nat} (H:HoldsG c F E a w vs Bs)
  {m:Nat} (hm:Fresh F m) {s:Sh} {v:Value} {B:List Nat} {dst:Option Nat} {ns:List Fact} (hd:inB dst c.nt=true) (kill:List Nat)
  (ha:Agr (fun b=>∃ n s,F (.en n s)∧n∈kill∧b∈Bs n) w.heap w'.heap) (hos:w'.os=w.os) (htape:w'.tape=w.tape) (hout:w'.output=w.output)
  (hown:Own c.fid w'.heap (fun b=>OBk F Bs (fun n=>n∈kill) b∨b∈B) c.Xb s (E m) v B) (hnd:B.Nodup)
  (hbl:∀ b∈B,(∃ n r,F (.en n r)∧n∈kill∧b∈Bs n)∨w.heap.size≤b) {g:Gd} (hg:gdOK E g):
  HoldsG c (next F dst ⟨ns,kill,one m s dst (.is m g)⟩) E (a.put dst v) w' (upd vs m v) (upd Bs m B):=by
 have hnew:∀ f,f∈one m s dst (.is m g)→(f=.en m s)∨∃ t,dst=some t∧f=.sl t (.is m g):=by
  intro f hf
  unfold one at hf
  cases dst with
  | none=>simp at hf; exact .inl hf
  | some t=>simp at hf; rcases hf with hf | hf; exact .inl hf; exact .inr ⟨t,rfl,hf⟩
 refine HoldsG.step (fun n=>n=m) (fun n=>n∈kill) (fun b=>∃ n s,F (.en n s)∧n∈kill∧b∈Bs n) dst H (fun n hn=>upd_ne vs v hn) (fun n hn=>upd_ne Bs B hn)
  (fun t l hl n hn e=>hm.2 t l hl (e ▸ hn)) (fun _ q=>q) ha hos htape hout
  (fun t ht=>put_get ht) put_size put_defers ?_ ?_ ?_ ?_ ?_ ?_
 ·rintro f (⟨h1,h2⟩ | h)
  ·left; refine ⟨h1,?_⟩; cases f <;> exact h2
  ·right
   rcases hnew f h with rfl | ⟨t,ht,rfl⟩
   ·rfl
   ·exact ht.symm
 ·rintro n r rfl hf
  rcases hf with ⟨h1,_⟩ | h
  ·exact (hm.1 r h1).elim
  ·rcases hnew _ h with h | ⟨t,_,h⟩
   ·injection h with _ h; subst h
    rw [upd_same,upd_same]
    refine Own.ext (Agr.refl (fun _=>False) _) (fun _ _ q=>q.elim) (fun b _ q=>?_) _ _ _ _ (fun _ _ q=>q) hown
    rcases q with q | ⟨k,rfl,hk⟩
    ·exact .inl q
    ·rw [upd_same] at hk; exact .inr hk
   ·simp at h
 ·rintro n r rfl _; rw [upd_same]; exact hnd
 ·rintro n r rfl _; rw [upd_same]; exact hbl
 ·rintro n r k q rfl rfl _ _ h; exact (h rfl).elim
 ·rintro t l' ht hf
  rcases hf with ⟨_,h2⟩ | h
  ·exact (h2 ht).elim
  ·rcases hnew _ h with h | ⟨t',ht',h⟩
   ·simp at h
   ·injection h with h1 h2; subst h1 h2
    refine ⟨fun _=>?_,fun q=>(q hg).elim⟩
    rw [upd_same,ht']
    exact put_self (by rw [H.size]; simpa [inB,ht'] using hd)
theorem HoldsG.slot {c:Cx} {F:Fact→Prop} {E:Nat→D} {a:Act} {w w':World} {vs:Nat→Value} {Bs:Nat→List Nat} (H:HoldsG c F E a w vs Bs)
  {u:Value} {d:Nat} {ns:List Fact} {l:Loc} (hw:w'.heap=w.heap∧w'.os=w.os∧w'.tape=w.tape∧w'.output=w.output)
  (hl:LocR w.heap E vs (OB F Bs) (alive F) (a.put (some d) u).tmps d l):
  HoldsG c (next F (some d) ⟨ns,[],[.sl d l]⟩) E (a.put (some d) u) w' vs Bs:=by
 refine HoldsG.step (fun _=>False) (fun _=>False) (fun _=>False) (some d) H (fun _ _=>rfl) (fun _ _=>rfl) (fun _ _ _ _ _ q=>q) (fun _ q=>q.elim) (by rw [hw.1]; exact Agr.refl _ _) hw.2.1 hw.2.2.1 hw.2.2.2
  (fun t ht=>put_get ht) put_size put_defers ?_ (fun _ _ q=>q.elim) (fun _ _ q=>q.elim) (fun _ _ q=>q.elim) (fun _ _ _ _ q=>q.elim) ?_
 ·rintro f (⟨h1,h2⟩ | h)
  ·left; refine ⟨h1,?_⟩; cases f <;> simp at h2 ⊢; exact h2
  ·right; simp at h; subst h; rfl
 ·intro t l' ht hf
  rcases hf with ⟨_,h2⟩ | h
  ·exact (h2 ht).elim
  ·simp at h
   obtain ⟨rfl,rfl⟩:=h
   have hO:∀ b,(OBk F Bs (fun _=>False) b∨∃ k,False∧b∈Bs k)→OB F Bs b:=fun b q=>q.elim (fun ⟨n,s,h1,_,h3⟩=>⟨n,s,h1,h3⟩) (by rintro ⟨_,q,_⟩; exact q.elim)
   have hal:∀ n,alive (next F (some t) ⟨ns,[],[.sl t l']⟩) n→alive F n:=by
    rintro n ⟨s,h | h⟩
    ·exact ⟨s,h.1⟩
    ·simp at h
   rw [hw.1]
   cases l' with
   | vc n g=>
    intro hg
    obtain ⟨b,o,cs,e,fz,k1,k2,k3,k4⟩:=hl hg
    exact ⟨b,o,cs,e,fz,k1,k2,k3,fun q=>k4 (hO b q)⟩
   | is n g=>exact hl
   | tu n g=>exact hl
   | ad r p m g=>exact fun hg ha=>hl hg (hal _ ha)
   | ip r p m g=>exact fun hg ha=>hl hg (hal _ ha)
   | aw r p g=>exact fun hg ha=>hl hg (hal _ ha)
   | ia r m g=>exact fun hg ha=>hl hg (hal _ ha)
   | bx n g=>
    intro hg
    obtain ⟨b,cs,e,fz,k1,k2,k3,k4⟩:=hl hg
    exact ⟨b,cs,e,fz,k1,k2,k3,fun q=>k4 (hO b q)⟩
   | ag r g=>exact fun hg ha=>hl hg (hal _ ha)
   | lh n g=>exact hl
   | sa n e g=>exact hl
   | fv f ns g=>exact hl
   | fb f ns g=>
    intro hg
    obtain ⟨b,cs,e,fz,k1,k2,k3,k4⟩:=hl hg
    exact ⟨b,cs,e,fz,k1,k2,k3,fun q=>k4 (hO b q)⟩
theorem Rd.elem {fid:Nat→Nat} {h:Array Obj} {Z:Nat→Prop} {xs:List D} {v:Value} {n:Nat} {d:D} (r:Rd fid h Z (.l xs) v) (hx:xs[n]?=some d):
  ∃ b off cap cs e fz u,v=.slice (some ⟨b,off,none⟩) xs.length cap∧n<xs.length∧h[b]?=some (.cells cs e fz)∧¬ Z b∧cs[off+n]?=some u∧Rd fid h Z d u:=by
 simp only [Rd] at r
 rcases r with ⟨rfl,_⟩ | ⟨b,off,cap,cs,e,fz,hv,hb,hz,hl,_⟩
 ·simp at hx
 ·obtain ⟨u,h1,h2⟩:=RdL.get hl hx
  rw [drop_get] at h1
  have hn:n<xs.length:=(List.getElem?_eq_some_iff.1 hx).1
  exact ⟨b,off,cap,cs,e,fz,u,hv,hn,hb,hz,h1,h2⟩
def Sh.under:Sh→Nat→Option Sh
 | s,0=>some s
 | .o s,n+1=>s.under n
 | .b s,n+1=>s.under n
 | _,_+1=>none
theorem Wk.of_own {fid:Nat→Nat} {h:Array Obj} {O X:Nat→Prop}:∀ (is:List Nat) (s s':Sh) (d d':D) (v:Value) (B:List Nat),is≠[]→Own fid h O X s d v B→getP is d=some d'→s.under is.length=some s'→
  ∃ b o x B',Wk h is v b o x∧Own fid h O X s' d' x B'∧(∀ k∈B',k∈B)∧b∈B
 | [],_,_,_,_,_,_,hne=>(hne rfl).elim
 | i::is,s,s',d,d',v,B,_=>fun r hg hs=>by
  cases s with
  | v=>simp [Sh.under] at hs
  | y=>simp [Sh.under] at hs
  | a s=>simp [Sh.under] at hs
  | b s=>
   simp only [qlc,Sh.under] at hs
   simp only [Own] at r
   obtain ⟨xs,b,cs,e,fz,B',rfl,rfl,hv,hb,ht,hl,he⟩:=r
   simp only [getP] at hg
   cases hx:xs[i]? with
   | none=>simp [hx] at hg
   | some d1=>
    simp only [hx,Option.bind_some] at hg
    obtain ⟨u,B1,hu,hB1,hr⟩:=Each.get he hx
    rw [Array.getElem?_toList] at hu
    by_cases hn:is=[]
    ·subst hn
     simp only [getP,qsj] at hg
     subst hg
     simp only [qln,Sh.under,qsj] at hs
     subst hs
     exact ⟨b,i,u,B1,⟨b,i,cs,e,fz,u,.inr ⟨hv,rfl⟩,hb,hu,.inl ⟨rfl,rfl,rfl,rfl⟩⟩,hr,fun k hk=>qmc _ (hB1 k hk),by simp⟩
    ·obtain ⟨b2,o2,x2,B2,hw,ho,hB2,hb2⟩:=Wk.of_own is s s' d1 d' u B1 hn hr hg hs
     refine ⟨b2,o2,x2,B2,⟨b,i,cs,e,fz,u,.inr ⟨hv,rfl⟩,hb,hu,.inr ⟨hn,hw⟩⟩,ho,fun k hk=>qmc _ (hB1 k (hB2 k hk)),qmc _ (hB1 _ hb2)⟩
  | o s=>
   simp only [qlc,Sh.under] at hs
   simp only [Own] at r
   rcases r with ⟨q | q,_⟩ | ⟨xs,rfl,r⟩
   ·subst q; simp [getP] at hg
   ·cases d <;> simp [getP] at hg <;> simp [D.flat] at q
   simp only [getP] at hg
   cases hx:xs[i]? with
   | none=>simp [hx] at hg
   | some d1=>
    simp only [hx,Option.bind_some] at hg
    have hi:i<xs.length:=(List.getElem?_eq_some_iff.1 hx).1
    rcases r with ⟨_,rfl,_⟩ | ⟨b,off,cap,cs,e,fz,B',rfl,hv,hb,ht,h1,h2,h3,he⟩
    ·simp at hx
    ·obtain ⟨u,B1,hu,hB1,hr⟩:=Each.get he hx
     rw [drop_get] at hu
     by_cases hn:is=[]
     ·subst hn
      simp only [getP,qsj] at hg
      subst hg
      simp only [qln,Sh.under,qsj] at hs
      subst hs
      exact ⟨b,off+i,u,B1,⟨b,off+i,cs,e,fz,u,.inl ⟨off,_,cap,hv,hi,rfl⟩,hb,hu,.inl ⟨rfl,rfl,rfl,rfl⟩⟩,hr,fun k hk=>qmc _ (hB1 k hk),by simp⟩
     ·obtain ⟨b2,o2,x2,B2,hw,ho,hB2,hb2⟩:=Wk.of_own is s s' d1 d' u B1 hn hr hg hs
      refine ⟨b2,o2,x2,B2,⟨b,off+i,cs,e,fz,u,.inl ⟨off,_,cap,hv,hi,rfl⟩,hb,hu,.inr ⟨hn,hw⟩⟩,ho,fun k hk=>qmc _ (hB1 k (hB2 k hk)),qmc _ (hB1 _ hb2)⟩
theorem Wk.cell {h:Array Obj}:∀ (is:List Nat) {v:Value} {b o:Nat} {x:Value},Wk h is v b o x→∃ cs e fz,h[b]?=some (.cells cs e fz)∧cs[o]?=some x
 | [],_,_,_,_,k=>by simp [Wk] at k
 | i::is,v,b,o,x,k=>by
  simp only [Wk] at k
  obtain ⟨b',o',cs,e,fz,y,hv,hb,hy,k⟩:=k
  rcases k with ⟨_,rfl,rfl,rfl⟩ | ⟨_,k⟩
  ·exact ⟨cs,e,fz,hb,hy⟩
  ·exact Wk.cell is k
theorem Wk.snoc {h:Array Obj}:∀ (is:List Nat) {v:Value} {b o:Nat} {x:Value} {i b2 o2:Nat} {y:Value},is≠[]→Wk h is v b o x→Wk h [i] x b2 o2 y→Wk h (is++[i]) v b2 o2 y
 | [],_,_,_,_,_,_,_,_,hn,_,_=>(hn rfl).elim
 | j::is,v,b,o,x,i,b2,o2,y,_,k,k2=>by
  simp only [List.cons_append,Wk] at k ⊢
  obtain ⟨b',o',cs,e,fz,z,hv,hb,hy,k⟩:=k
  refine ⟨b',o',cs,e,fz,z,hv,hb,hy,.inr ⟨by simp,?_⟩⟩
  rcases k with ⟨rfl,rfl,rfl,rfl⟩ | ⟨hne,k⟩
  ·simpa using k2
  ·exact Wk.snoc is hne k k2
theorem getP_append:∀ (is js:List Nat) (d:D),getP (is++js) d=(getP is d).bind (getP js)
 | [],js,d=>by simp [getP]
 | i::is,js,d=>by
  cases d with
  | l xs=>
   simp only [List.cons_append,getP]
   cases hx:xs[i]? with
   | none=>simp
   | some d1=>simp [getP_append is js d1]
  | g xs=>
   simp only [List.cons_append,getP]
   cases hx:xs[i]? with
   | none=>simp
   | some d1=>simp [getP_append is js d1]
  | _=>simp [getP]
theorem Sh.under_add:∀ (i j:Nat) (s s':Sh),s.under i=some s'→s.under (i+j)=s'.under j
 | 0,j,s,s',h=>by simp only [Sh.under,qsj] at h; subst h; simp
 | i+1,j,s,s',h=>by
  cases s with
  | v=>simp [Sh.under] at h
  | y=>simp [Sh.under] at h
  | a s=>simp [Sh.under] at h
  | b s=>
   rw [show i+1+j=(i+j)+1 by omega]
   simp only [Sh.under] at h ⊢
   exact Sh.under_add i j s s' h
  | o s=>
   rw [show i+1+j=(i+j)+1 by omega]
   simp only [Sh.under] at h ⊢
   exact Sh.under_add i j s s' h
end Go.Cat
namespace Go.Cat
section
variable (cf:CF) (st:List Fact) (cnt:Nat) (o:Oper) (g:Gd)
def flatE (P:Program) (t:TypeId):Bool:=match P.underlying t with
 | some (.slice e)=>match P.underlying e with
  | some (.int _)=>true
  | some .bool=>true
  | some .string=>true
  | _=>false
 | _=>false
def peOf:A→Option PE
 | .e n=>some (.e n)
 | .c (.i _ k)=>if 0≤k then some (.k k.toNat) else none
 | _=>none
def aliasOf (st:List Fact) (n:Nat):Option (Nat×Nat×Sh):=st.findSome? fun f=>match f with
 | .sl u (.is n' [])=>if n'=n then (match findSl st u with
  | some (.is m [])=>(findEn st m).map fun s=>(u,m,s)
  | _=>none) else none
 | _=>none
def rootOf (x:Operand):Option (Nat×List PE×Sh×List Fact):=
 match x with
 | .tmp t=>match findSl st t with
  | some (.is n g')=>if g'.isPrefixOf g then (match findEn st n with
   | some s=>some (n,[],s,[.sl t (.is n g'),.en n s])
   | none=>(aliasOf st n).map fun x=>(x.2.1,[],x.2.2,[.sl t (.is n g'),.sl x.1 (.is n []),.sl x.1 (.is x.2.1 []),.en x.2.1 x.2.2])) else none
  | some (.ip r p m g')=>if g'.isPrefixOf g then (findEn st r).map fun s=>(r,p,s,[.sl t (.ip r p m g'),.en r s]) else none
  | _=>none
 | _=>none
def trIx (t:TypeId) (x i:Operand):Option (Pr×Sm):=
 match o.dst with
 | none=>none
 | some d=>if d<cf.nt∧(elem1 cf.P t).isSome then
   (rootOf st g x).bind fun r=>(opA cf st g i).bind fun a=>
    match r.2.2.1.under r.2.1.length with
    | some .v=>if r.2.1=[] then some (.ix (.e r.1) [] a.1,⟨r.2.2.2++a.2.2,[],one cnt .v (some d) (.vc cnt g)⟩) else none
    | some .y=>if r.2.1=[] then
      if flatE cf.P t=true then some (.iy (.e r.1) a.1,⟨r.2.2.2++a.2.2,[],one cnt .v (some d) (.vc cnt g)⟩)
      else some (.ix (.e r.1) [] a.1,⟨r.2.2.2++a.2.2,[],one cnt .y (some d) (.vc cnt g)⟩)
     else none
    | some (.o e)=>(peOf a.1).map fun pe=>(.ix (.e r.1) r.2.1 a.1,⟨r.2.2.2++a.2.2,[],if e=.v then one cnt .v (some d) (.ad r.1 (r.2.1++[pe]) cnt g) else [.sl d (.ad r.1 (r.2.1++[pe]) cnt g)]⟩)
    | some (.b _) | some (.a _) | none=>none
  else none
def trLd (t:TypeId) (x:Operand):Option (Pr×Sm):=
 match x,o.dst with
 | .tmp s,some d=>if d<cf.nt∧plain1 cf.P t=true then (findSl st s).bind fun l=>match l with
  | .vc n g'=>if g'.isPrefixOf g then some (.nop,⟨[.sl s (.vc n g')],[],[.sl d (.is n g)]⟩) else none
  | .ad r p m g'=>if g'.isPrefixOf g then (findEn st r).map fun sr=>(.nop,⟨[.sl s (.ad r p m g'),.en r sr],[],[.sl d (match findEn st m with | some _=>.is m g | none=>.ip r p m g)]⟩) else none
  | .is _ _ | .ip _ _ _ _ | .tu _ _ | .aw _ _ _ | .ia _ _ _ | .bx _ _ | .fv _ _ _ | .fb _ _ _ | .ag _ _ | .lh _ _ | .sa _ _ _=>none
  else none
 | _,_=>none
end
theorem pathE_len {E:Nat→D}:∀ {p:List PE} {is:List Nat},pathE E p=some is→is.length=p.length
 | [],is,h=>by simp [pathE] at h; subst h; rfl
 | x::p,is,h=>by
  simp only [pathE,List.mapM_cons,Option.bind_eq_bind,qbs,Option.pure_def,qsj] at h
  obtain ⟨i,_,js,h2,rfl⟩:=h
  have:=pathE_len (E:=E) (p:=p) (is:=js) h2
  simp [this]
theorem pathE_snoc {E:Nat→D} {pe:PE} {j:Nat} (hj:pe.ev E=some j):∀ {p:List PE} {is:List Nat},pathE E p=some is→pathE E (p++[pe])=some (is++[j])
 | [],is,h=>by simp [pathE] at h; subst h; simp [pathE,hj]
 | x::p,is,h=>by
  simp only [pathE,List.mapM_cons,Option.bind_eq_bind,qbs,Option.pure_def,qsj] at h
  obtain ⟨i,h1,js,h2,rfl⟩:=h
  have:=pathE_snoc hj (p:=p) (is:=js) h2
  simp only [pathE] at this
  simp [pathE,h1,this]
theorem Wk.det {h:Array Obj}:∀ (is:List Nat) {v:Value} {b o b' o':Nat} {x x':Value},Wk h is v b o x→Wk h is v b' o' x'→b=b'∧o=o'∧x=x'
 | [],_,_,_,_,_,_,_,k,_=>by simp [Wk] at k
 | i::is,v,b,o,b',o',x,x',k,k'=>by
  simp only [Wk] at k k'
  obtain ⟨b1,o1,cs,e,fz,y,hv,hb,hy,k⟩:=k
  obtain ⟨b2,o2,cs2,e2,fz2,y2,hv2,hb2,hy2,k'⟩:=k'
  obtain ⟨rfl,rfl⟩:=hv.det hv2
  rw [hb] at hb2
  injection hb2 with hb2
  injection hb2 with hc _ _
  subst hc
  rw [hy] at hy2
  injection hy2 with hy2
  subst hy2
  rcases k with ⟨h1,rfl,rfl,rfl⟩ | ⟨h1,k⟩
  ·rcases k' with ⟨_,rfl,rfl,rfl⟩ | ⟨h2,_⟩
   ·exact ⟨rfl,rfl,rfl⟩
   ·exact (h2 h1).elim
  ·rcases k' with ⟨h2,_⟩ | ⟨_,k'⟩
   ·exact (h1 h2).elim
   ·exact Wk.det is k k'
section
variable {cf:CF} {c:Cx} {F:Fact→Prop} {E:Nat→D} {a:Act} {w:World} {vs:Nat→Value} {Bs:Nat→List Nat} {cnt:Nat} {g:Gd} {sm:Sm} {st:List Fact} {o:Oper} {p:Pr}
 {K:Nat→List D→List D→Prop}
theorem prefix_gd {E:Nat→D} {g g':Gd} (h:g'.isPrefixOf g=true) (hg:gdOK E g):gdOK E g':=fun x hx=>hg x ((List.isPrefixOf_iff_prefix.1 h).subset hx)
theorem rootOf_sound {x:Operand} {n:Nat} {q:List PE} {s s':Sh} {ns:List Fact} (hr:rootOf st g x=some (n,q,s,ns)) (h:At cf c F E a w vs Bs cnt g p sm) (hn:∀ f∈ns,f∈sm.needs)
  (hs:s.under q.length=some s'):
  F (.en n s)∧∃ is d,pathE E q=some is∧getP is (E n)=some d∧(∃ B,Own c.fid w.heap (OB F Bs) c.Xb s' d (a.eval x) B∧∀ b∈B,b∈Bs n)∧
   ((is=[]∧a.eval x=vs n∧d=E n)∨(is≠[]∧∃ b o,Wk w.heap is (vs n) b o (a.eval x))):=by
 unfold rootOf at hr
 split at hr
 ·rename_i t
  split at hr
  ·rename_i n' g' hl
   split at hr
   ·rename_i hg'
    split at hr
    ·rename_i s1 hs1
     simp only [qsj,qpj] at hr
     obtain ⟨rfl,rfl,rfl,rfl⟩:=hr
     have h1:=(h.H.loc t _ (h.needs _ (hn (.sl t (.is n' g')) (by simp)))).1 (prefix_gd hg' h.g)
     have h2:=h.needs _ (hn (.en n' s1) (by simp))
     have h5:a.eval (.tmp t)=vs n':=by simp [Act.eval,qag,h1]
     simp only [qln,Sh.under,qsj] at hs
     subst hs
     refine ⟨h2,[],E n',rfl,rfl,⟨Bs n',?_,fun _ q=>q⟩,.inl ⟨rfl,h5,rfl⟩⟩
     rw [h5]; exact h.H.own n' s1 h2
    ·simp only [qms,qpj] at hr
     obtain ⟨⟨u,m,s1⟩,_,rfl,rfl,rfl,rfl⟩:=hr
     simp only at hn hs ⊢
     have h1:=(h.H.loc t _ (h.needs _ (hn (.sl t (.is n' g')) (by simp)))).1 (prefix_gd hg' h.g)
     have h3:=(h.H.loc u _ (h.needs _ (hn (.sl u (.is n' [])) (by simp)))).1 (by simp [gdOK])
     have h4:=(h.H.loc u _ (h.needs _ (hn (.sl u (.is m [])) (by simp)))).1 (by simp [gdOK])
     have h2:=h.needs _ (hn (.en m s1) (by simp))
     have h6:vs n'=vs m:=by rw [h3] at h4; injection h4
     have h5:a.eval (.tmp t)=vs m:=by rw [← h6]; simp [Act.eval,qag,h1]
     simp only [qln,Sh.under,qsj] at hs
     subst hs
     refine ⟨h2,[],E m,rfl,rfl,⟨Bs m,?_,fun _ q=>q⟩,.inl ⟨rfl,h5,rfl⟩⟩
     rw [h5]; exact h.H.own m s1 h2
   ·cases hr
  ·rename_i r q' m g' hl
   split at hr
   ·rename_i hg'
    simp only [qms,qpj] at hr
    obtain ⟨s1,hs1,rfl,rfl,rfl,rfl⟩:=hr
    have h2:=h.needs _ (hn (.en r s1) (by simp))
    obtain ⟨is,b,o',d,k1,k2,k3,k4⟩:=h.H.loc t _ (h.needs _ (hn (.sl t (.ip r q' m g')) (by simp))) (prefix_gd hg' h.g) ⟨s1,h2⟩
    have h5:a.eval (.tmp t)=vs m:=by simp [Act.eval,qag,k4]
    have hne:is≠[]:=by rintro rfl; simp [Wk] at k3
    obtain ⟨b2,o2,x2,B2,w1,w2,w3,_⟩:=Wk.of_own is s1 s' (E r) d (vs r) (Bs r) hne (h.H.own r s1 h2) k2 (by rw [pathE_len k1]; exact hs)
    obtain ⟨_,_,e3⟩:=Wk.det is k3 w1
    refine ⟨h2,is,d,k1,k2,⟨B2,?_,w3⟩,.inr ⟨hne,b,o',?_⟩⟩
    ·rw [h5,e3]; exact w2
    ·rw [h5]; exact k3
   ·cases hr
  ·cases hr
 ·cases hr
theorem HoldsG.leaf0 {w':World} (H:HoldsG c F E a w vs Bs)
  {m:Nat} (hm:Fresh F m) {v u:Value} {d:Nat} {ns:List Fact} {l:Loc} (hd:d<c.nt)
  (hw:w'.heap=w.heap∧w'.os=w.os∧w'.tape=w.tape∧w'.output=w.output)
  (hl:∀ tm:Array Value,tm[d]?=some u→LocR w.heap E (upd vs m v) (OB F Bs) (alive F) tm d l):
  HoldsG c (next F (some d) ⟨ns,[],[.sl d l]⟩) E (a.put (some d) u) w' (upd vs m v) (upd Bs m []):=by
 refine HoldsG.step (fun n=>n=m) (fun _=>False) (fun _=>False) (some d) H (fun n hn=>upd_ne vs v hn) (fun n hn=>upd_ne Bs [] hn)
  (fun t l hl n hn e=>hm.2 t l hl (e ▸ hn)) (fun _ q=>q.elim) (by rw [hw.1]; exact Agr.refl _ _) hw.2.1 hw.2.2.1 hw.2.2.2
  (fun t ht=>put_get ht) put_size put_defers ?_ ?_ ?_ ?_ ?_ ?_
 ·rintro f (⟨h1,h2⟩ | h)
  ·left; refine ⟨h1,?_⟩; cases f <;> simp at h2 ⊢; exact h2
  ·right; simp at h; subst h; rfl
 ·rintro n r rfl hf
  rcases hf with ⟨h1,_⟩ | h
  ·exact (hm.1 r h1).elim
  ·simp at h
 ·rintro n r rfl _; rw [upd_same]; exact List.nodup_nil
 ·rintro n r rfl _; rw [upd_same]; simp
 ·rintro n r k q rfl rfl _ _ h; exact (h rfl).elim
 ·intro t l' ht hf
  rcases hf with ⟨_,h2⟩ | h
  ·exact (h2 ht).elim
  ·simp at h
   obtain ⟨rfl,rfl⟩:=h
   have:=hl (a.put (some t) u).tmps (put_self (by rw [H.size]; exact hd))
   have hO:∀ b,(OBk F Bs (fun _=>False) b∨∃ k,k=m∧b∈upd Bs m [] k)→OB F Bs b:=fun b q=>q.elim (fun ⟨n,s,h1,_,h3⟩=>⟨n,s,h1,h3⟩) (by rintro ⟨k,rfl,hk⟩; simp [upd_same] at hk)
   have hal:∀ n,alive (next F (some t) ⟨ns,[],[.sl t l']⟩) n→alive F n:=by
    rintro n ⟨s,h | h⟩
    ·exact ⟨s,h.1⟩
    ·simp at h
   rw [hw.1]
   cases l' with
   | vc n g=>
    intro hg
    obtain ⟨b,o,cs,e,fz,k1,k2,k3,k4⟩:=this hg
    exact ⟨b,o,cs,e,fz,k1,k2,k3,fun q=>k4 (hO b q)⟩
   | is n g=>exact this
   | tu n g=>exact this
   | ad r p m g=>exact fun hg ha=>this hg (hal _ ha)
   | ip r p m g=>exact fun hg ha=>this hg (hal _ ha)
   | aw r p g=>exact fun hg ha=>this hg (hal _ ha)
   | ia r m g=>exact fun hg ha=>this hg (hal _ ha)
   | bx n g=>
    intro hg
    obtain ⟨b,cs,e,fz,k1,k2,k3,k4⟩:=this hg
    exact ⟨b,cs,e,fz,k1,k2,k3,fun q=>k4 (hO b q)⟩
   | ag r g=>exact fun hg ha=>this hg (hal _ ha)
   | lh n g=>exact this
   | sa n e g=>exact this
   | fv f ns g=>exact this
   | fb f ns g=>
    intro hg
    obtain ⟨b,cs,e,fz,k1,k2,k3,k4⟩:=this hg
    exact ⟨b,cs,e,fz,k1,k2,k3,fun q=>k4 (hO b q)⟩
theorem ixD_spec {d i x:D} (h:ixD d i=some x):∃ xs k n,d=.l xs∧i=.i k (n:Nat)∧xs[n]?=some x:=by
 unfold ixD at h
 split at h
 ·rename_i xs k n
  split at h
  ·rename_i h0
   obtain ⟨m,rfl⟩:=qoz h0
   simp only [qtn,qbs] at h
   obtain ⟨y,h1,h2⟩:=h
   unfold known at h2
   split at h2
   ·cases h2
   ·cases h2; exact ⟨xs,k,m,rfl,rfl,h1⟩
  ·cases h
 ·cases h
theorem peOf_ev {α:A} {pe:PE} {k:IntKind} {n:Nat} (h:peOf α=some pe) (he:ev E α=.i k (n:Nat)):pe.ev E=some n:=by
 unfold peOf at h
 split at h
 ·injection h with h; subst h
  simp only [ev] at he
  simp [PE.ev,he]
 ·rename_i k' z
  split at h
  ·injection h with h; subst h
   simp only [ev] at he
   injection he with _ he
   simp [PE.ev,he]
  ·cases h
 ·cases h
end
end Go.Cat
namespace Go.Cat
section
variable {cf:CF} {c:Cx} {F:Fact→Prop} {E:Nat→D} {a:Act} {w:World} {vs:Nat→Value} {Bs:Nat→List Nat} {cnt:Nat} {g:Gd} {sm:Sm} {st:List Fact} {o:Oper} {p:Pr}
 {K:Nat→List D→List D→Prop}
theorem exec_index {t:TypeId} {x i:Operand} (ho:o.op=.indexAddr t x i) {v:Value} (h:(Instr.indexAt t (a.eval x) (a.eval i)).run c.P w=.ok v w):(execOp a.eval o).run c.P w=.ok (.value v) w:=by
 simp only [execOp,ho]
 exact run_v h
theorem trIx_ro {d:Nat} (hd:o.dst=some d) {s:Sh} (hsv:s=.v∨s=.y) {n:Nat} {ia:A} {ns:List Fact} {t e:TypeId} {ti:TypeInfo} {x i:Operand}
  (h:At cf c F E a w vs Bs cnt g (.ix (.e n) [] ia) ⟨ns,[],one cnt s (some d) (.vc cnt g)⟩) (hdn:d<cf.nt) (ho:o.op=.indexAddr t x i) (he:elem1 cf.P t=some (e,ti))
  {B Bi:List Nat} (hx:Own c.fid w.heap (OB F Bs) c.Xb s (E n) (a.eval x) B) {si:Sh} (hi:Own c.fid w.heap (OB F Bs) c.Xb si (ev E ia) (a.eval i) Bi) (hE:EvP K E cnt (.ix (.e n) [] ia)):
  StepOK c o ⟨ns,[],one cnt s (some d) (.vc cnt g)⟩ F E a w:=by
 have hE':ixD (E n) (ev E ia)=some (E cnt):=by simpa [EvP,evP,pathD,getP,ev] using hE
 obtain ⟨xs,k,j,h1,h2,h3⟩:=ixD_spec hE'
 rw [h1] at hx
 rw [h2] at hi
 have hiv:=hi.int
 obtain ⟨Z,hZ,hr⟩:∃ Z:Nat→Prop,(∀ b,OB F Bs b→Z b)∧Rd c.fid w.heap Z (.l xs) (a.eval x)∧(∀ u,Rd c.fid w.heap Z (E cnt) u→Own c.fid w.heap (OB F Bs) c.Xb s (E cnt) u []):=by
  rcases hsv with rfl | rfl
  ·simp only [Own] at hx
   exact ⟨_,fun b q=>.inl q,hx.2,fun u hu=>by simp only [Own]; exact ⟨trivial,hu⟩⟩
  ·simp only [Own] at hx
   exact ⟨_,fun b q=>q,hx.2,fun u hu=>by simp only [Own]; exact ⟨trivial,hu⟩⟩
 obtain ⟨b,off,cap,cs,e',fz,u,hv,hn,hb,hz,hc,hu⟩:=hr.1.elem h3
 have hP:c.P=cf.P:=h.fits.P
 have hrun:(execOp a.eval o).run c.P w=.ok (.value (.pointer (some ⟨b,off+j,none⟩))) w:=by
  refine exec_index ho ?_
  rw [hv,hiv]
  exact run_indexAt1 (by rw [hP]; exact he) hn
 refine StepOK.of_value hrun ⟨upd vs cnt u,upd Bs cnt [],?_⟩
 rw [hd]
 refine h.H.leaf (s:=s) (v:=u) (by simpa using h.fresh 0 (by simp [Pr.np])) (by rw [h.fits.nt]; simpa [inB] using hdn) (same_world w) (hr.2 u hu) [] ?_
 intro tm htm t' ht' hg
 injection ht' with ht'; subst ht'
 refine ⟨b,off+j,cs,e',fz,htm d rfl,hb,?_,fun q=>hz (hZ b q)⟩
 rw [upd_same]; exact hc
theorem trIx_flat {d:Nat} (hd:o.dst=some d) {n:Nat} {ia:A} {ns:List Fact} {t e:TypeId} {ti:TypeInfo} {x i:Operand}
  (h:At cf c F E a w vs Bs cnt g (.iy (.e n) ia) ⟨ns,[],one cnt .v (some d) (.vc cnt g)⟩) (hdn:d<cf.nt) (ho:o.op=.indexAddr t x i) (he:elem1 cf.P t=some (e,ti))
  {B Bi:List Nat} (hx:Own c.fid w.heap (OB F Bs) c.Xb .y (E n) (a.eval x) B) {si:Sh} (hi:Own c.fid w.heap (OB F Bs) c.Xb si (ev E ia) (a.eval i) Bi) (hE:EvP K E cnt (.iy (.e n) ia)):
  StepOK c o ⟨ns,[],one cnt .v (some d) (.vc cnt g)⟩ F E a w:=by
 have hE0:(ixD (E n) (ev E ia)).bind flatD=some (E cnt):=by simpa [EvP,evP,ev] using hE
 obtain ⟨y,hE1,hE2⟩:=qbs.1 hE0
 have hfl:y.flat=true∧y=E cnt:=by
  unfold flatD at hE2
  split at hE2
  ·rename_i q; injection hE2 with hE2; exact ⟨q,hE2⟩
  ·cases hE2
 obtain ⟨hfl,rfl⟩:=hfl
 have hE':ixD (E n) (ev E ia)=some (E cnt):=hE1
 obtain ⟨xs,k,j,h1,h2,h3⟩:=ixD_spec hE'
 rw [h1] at hx
 rw [h2] at hi
 have hiv:=hi.int
 simp only [Own] at hx
 have hr:=hx.2
 obtain ⟨b,off,cap,cs,e',fz,u,hv,hn,hb,hz,hc,hu⟩:=hr.elem h3
 have hP:c.P=cf.P:=h.fits.P
 have hrun:(execOp a.eval o).run c.P w=.ok (.value (.pointer (some ⟨b,off+j,none⟩))) w:=by
  refine exec_index ho ?_
  rw [hv,hiv]
  exact run_indexAt1 (by rw [hP]; exact he) hn
 refine StepOK.of_value hrun ⟨upd vs cnt u,upd Bs cnt [],?_⟩
 rw [hd]
 refine h.H.leaf (s:=.v) (v:=u) (by simpa using h.fresh 0 (by simp [Pr.np])) (by rw [h.fits.nt]; simpa [inB] using hdn) (same_world w) (by simp only [Own]; exact ⟨trivial,Rd.flat hfl hu⟩) [] ?_
 intro tm htm t' ht' hg
 injection ht' with ht'; subst ht'
 refine ⟨b,off+j,cs,e',fz,htm d rfl,hb,?_,fun q=>hz q⟩
 rw [upd_same]; exact hc
theorem trIx_sound {t:TypeId} {x i:Operand} (ho:o.op=.indexAddr t x i) (ht:trIx cf st cnt o g t x i=some (p,sm)) (h:At cf c F E a w vs Bs cnt g p sm) (hE:EvP K E cnt p):StepOK c o sm F E a w:=by
 unfold trIx at ht
 split at ht
 ·cases ht
 ·rename_i d hd
  split at ht
  ·rename_i hd2
   obtain ⟨hdn,hel⟩:=hd2
   obtain ⟨⟨e,ti⟩,hel⟩:=Option.isSome_iff_exists.1 hel
   simp only [qbs] at ht
   obtain ⟨⟨n,q,s,ns⟩,hroot,⟨ia,si,ins⟩,hia,ht⟩:=ht
   simp only at ht
   split at ht
   ·rename_i hs
    split at ht
    ·rename_i hq
     subst hq
     simp only [qsj,qpj] at ht
     obtain ⟨rfl,rfl⟩:=ht
     obtain ⟨_,is,d1,k1,k2,⟨B,hB,_⟩,k4⟩:=rootOf_sound hroot h (fun f hf=>qal _ hf) hs
     have his:is=[]:=by simpa [pathE] using k1.symm
     subst his
     obtain ⟨Bi,hi,_⟩:=h.opA hia (fun f hf=>qar _ hf)
     have hdd:d1=E n:=by simpa [getP] using k2.symm
     subst hdd
     exact trIx_ro hd (.inl rfl) h hdn ho hel hB hi hE
    ·cases ht
   ·rename_i hs
    split at ht
    ·rename_i hq
     subst hq
     split at ht
     all_goals
      simp only [qsj,qpj] at ht
      obtain ⟨rfl,rfl⟩:=ht
      obtain ⟨_,is,d1,k1,k2,⟨B,hB,_⟩,k4⟩:=rootOf_sound hroot h (fun f hf=>qal _ hf) hs
      have his:is=[]:=by simpa [pathE] using k1.symm
      subst his
      obtain ⟨Bi,hi,_⟩:=h.opA hia (fun f hf=>qar _ hf)
      have hdd:d1=E n:=by simpa [getP] using k2.symm
      subst hdd
     ·exact trIx_flat hd h hdn ho hel hB hi hE
     ·exact trIx_ro hd (.inr rfl) h hdn ho hel hB hi hE
    ·cases ht
   ·rename_i es hs
    simp only [qms,qpj] at ht
    obtain ⟨pe,hpe,rfl,rfl⟩:=ht
    obtain ⟨hF,is,d1,k1,k2,⟨B,hB,hBn⟩,k4⟩:=rootOf_sound hroot h (fun f hf=>qal _ hf) hs
    obtain ⟨Bi,hi,_⟩:=h.opA hia (fun f hf=>qar _ hf)
    have hE':ixD d1 (ev E ia)=some (E cnt):=by
     have hm:q.mapM (PE.ev E)=some is:=k1
     simpa [EvP,evP,pathD,hm,ev,k2] using hE
    obtain ⟨xs,k,j,e1,e2,e3⟩:=ixD_spec hE'
    subst e1
    rw [e2] at hi
    have hiv:=hi.int
    have hg1:getP [j] (.l xs)=some (E cnt):=by simp [getP,e3]
    obtain ⟨b,o',y,B',w1,w2,w3,_⟩:=Wk.of_own [j] (.o es) es _ _ _ B (by simp) hB hg1 (by simp [Sh.under])
    have hcell:=w1
    simp only [Wk] at hcell
    obtain ⟨b',o1,cs,e',fz,y',hst,hb,hy,hh⟩:=hcell
    rcases hh with ⟨_,rfl,rfl,rfl⟩ | ⟨hne,_⟩
    ·obtain ⟨off,len,cap,hv,hjl,rfl⟩:∃ off len cap,a.eval x=.slice (some ⟨b,off,none⟩) len cap∧j<len∧o'=off+j:=by
      rcases hst with q | ⟨q,_⟩
      ·exact q
      ·obtain ⟨_,_,ql,_⟩:=hB.len; rw [q] at ql; cases ql
     have hP:c.P=cf.P:=h.fits.P
     have hrun:(execOp a.eval o).run c.P w=.ok (.value (.pointer (some ⟨b,off+j,none⟩))) w:=by
      refine exec_index ho ?_
      rw [hv,hiv]
      exact run_indexAt1 (by rw [hP]; exact hel) hjl
     have hfr:Fresh F cnt:=by simpa using h.fresh 0 (by simp [Pr.np])
     have hnc:n≠cnt:=by rintro rfl; exact hfr.1 _ hF
     have hloc:∀ (tm:Array Value) (al:Nat→Prop),tm[d]?=some (.pointer (some ⟨b,off+j,none⟩))→LocR w.heap E (upd vs cnt y) (OB F Bs) al tm d (.ad n (q++[pe]) cnt g):=by
      intro tm al htm _ _
      refine ⟨is++[j],b,off+j,E cnt,pathE_snoc (peOf_ev hpe e2) k1,?_,?_,htm⟩
      ·rw [getP_append,k2]; simpa using hg1
      ·rw [upd_same,upd_ne vs y hnc]
       rcases k4 with ⟨rfl,hv0,_⟩ | ⟨hne,b0,o0,k4⟩
       ·rw [← hv0]; simpa using w1
       ·exact Wk.snoc is hne k4 w1
     split
     ·rename_i hes
      subst hes
      rw [if_pos rfl] at h
      simp only [Own] at w2
      refine StepOK.of_value hrun ⟨upd vs cnt y,upd Bs cnt [],?_⟩
      rw [hd]
      refine h.H.leaf (s:=.v) (v:=y) hfr (by rw [h.fits.nt]; simpa [inB] using hdn) (same_world w) (by simp only [Own]; exact ⟨trivial,w2.2⟩) [] ?_
      intro tm htm t' ht'
      injection ht' with ht'; subst ht'
      exact hloc tm _ (htm d rfl)
     ·rename_i hes
      rw [if_neg hes] at h
      refine StepOK.of_value hrun ⟨upd vs cnt y,upd Bs cnt [],?_⟩
      rw [hd]
      exact h.H.leaf0 hfr (by rw [h.fits.nt]; exact hdn) (same_world w) fun tm htm=>hloc tm _ htm
    ·exact (hne rfl).elim
   ·cases ht
   ·cases ht
   ·cases ht
  ·cases ht
theorem exec_load {t:TypeId} {x:Operand} (ho:o.op=.load t x) {v:Value} (h:(Instr.loadAt t (a.eval x)).run c.P w=.ok v w):(execOp a.eval o).run c.P w=.ok (.value v) w:=by
 simp only [execOp,ho]
 exact run_v h
theorem trLd_sound {t:TypeId} {x:Operand} (ho:o.op=.load t x) (ht:trLd cf st o g t x=some (p,sm)) (h:At cf c F E a w vs Bs cnt g p sm):StepOK c o sm F E a w:=by
 unfold trLd at ht
 split at ht
 ·rename_i s d hd
  split at ht
  ·rename_i hd2
   obtain ⟨hdn,hpl⟩:=hd2
   have hP:c.P=cf.P:=h.fits.P
   have hput:∀ v:Value,(a.put (some d) v).tmps[d]?=some v:=fun v=>put_self (by rw [h.H.size,h.fits.nt]; exact hdn)
   simp only [qbs] at ht
   obtain ⟨l,hl,ht⟩:=ht
   cases l with
   | vc n g'=>
    simp only at ht
    split at ht
    ·rename_i hg'
     simp only [qsj,qpj] at ht
     obtain ⟨rfl,rfl⟩:=ht
     obtain ⟨b,o',cs,e,fz,k1,k2,k3,_⟩:=h.H.loc s (.vc n g') (h.needs _ (by simp)) (prefix_gd hg' h.g)
     have hev:a.eval (.tmp s)=.pointer (some ⟨b,o',none⟩):=by simp [Act.eval,qag,k1]
     have hrun:(execOp a.eval o).run c.P w=.ok (.value (vs n)) w:=by
      refine exec_load ho ?_
      rw [hev]
      exact run_loadAt1 (by rw [hP]; exact hpl) k2 k3
     refine StepOK.of_value hrun ⟨vs,Bs,?_⟩
     rw [hd]
     exact h.H.slot (same_world w) ⟨fun _=>hput _,fun q=>(q h.g).elim⟩
    ·cases ht
   | ad r q m g'=>
    simp only at ht
    split at ht
    ·rename_i hg'
     simp only [qms,qpj] at ht
     obtain ⟨sr,hsr,rfl,rfl⟩:=ht
     have hal:alive F r:=⟨sr,h.needs _ (by simp)⟩
     obtain ⟨is,b,o',d1,k1,k2,k3,k4⟩:=h.H.loc s (.ad r q m g') (h.needs _ (by simp)) (prefix_gd hg' h.g) hal
     have hev:a.eval (.tmp s)=.pointer (some ⟨b,o',none⟩):=by simp [Act.eval,qag,k4]
     obtain ⟨cs,e,fz,c1,c2⟩:=k3.cell
     have hrun:(execOp a.eval o).run c.P w=.ok (.value (vs m)) w:=by
      refine exec_load ho ?_
      rw [hev]
      exact run_loadAt1 (by rw [hP]; exact hpl) c1 c2
     refine StepOK.of_value hrun ⟨vs,Bs,?_⟩
     rw [hd]
     refine h.H.slot (same_world w) ?_
     split
     ·exact ⟨fun _=>hput _,fun q=>(q h.g).elim⟩
     ·exact fun _ _=>⟨is,b,o',d1,k1,k2,k3,hput _⟩
    ·cases ht
   | is _ _=>cases ht
   | ip _ _ _ _=>cases ht
   | tu _ _=>cases ht
   | aw _ _ _=>cases ht
   | ia _ _ _=>cases ht
   | bx _ _=>cases ht
   | fv _ _ _=>cases ht
   | fb _ _ _=>cases ht
   | ag _ _=>cases ht
   | lh _ _=>cases ht
   | sa _ _ _=>cases ht
  ·cases ht
 ·cases ht
end
end Go.Cat
namespace Go.Cat
section
variable (cf:CF) (st:List Fact) (cnt:Nat) (o:Oper) (g:Gd)
def trPut (es:Sh) (x:Operand):Option (A×List Nat×List Fact):=
 (opA cf st g x).bind fun a=>
  if es=.v then
   if a.2.1=.v then some (a.1,[],a.2.2)
   else if a.2.1=.o .v then match a.1 with
    | .e n=>if g=[] then some (a.1,[n],a.2.2) else none
    | .c _=>none
   else none
  else match a.1 with
   | .e n=>if a.2.1=es∧es≠.y∧g=[] then some (a.1,[n],a.2.2) else none
   | .c (.l [])=>(match es with | .o _=>some (.c (.l []),[],[]) | _=>none)
   | .c _=>none
def elemSh (k:Nat):Sh:=match k with
 | 2=>.o .v
 | 3=>.o (.o .v)
 | _=>.v
def isNilD:D→Bool
 | .l []=>true
 | _=>false
def trMk (k:Nat) (t:TypeId) (l c:Operand):Option (Pr×Sm):=
 match elem1 cf.P t with
 | some (_,ti)=>match ti.zero with
  | some z=>(constD z).bind fun d=>if ti.bytes≤128∧z.oneCell'=true∧inB o.dst cf.nt=true∧(elemSh k=.v∨isNilD d=true) then
    (opA cf st g l).bind fun a=>(opA cf st g c).bind fun b=>some (.mk d a.1 b.1,⟨a.2.2++b.2.2,[],one cnt (.o (elemSh k)) o.dst (.is cnt g)⟩)
   else none
  | none=>none
 | none=>none
def trPuts (es:Sh):List Operand→Option (List A×List Nat×List Fact)
 | []=>some ([],[],[])
 | x::xs=>(trPut cf st g es x).bind fun a=>(trPuts es xs).map fun r=>(a.1::r.1,a.2.1++r.2.1,a.2.2++r.2.2)
def trLi (k:Nat) (t:TypeId) (len:Nat) (ps:Array (Nat×Operand)):Option (Pr×Sm):=
 match elem1 cf.P t with
 | some (_,ti)=>if ti.zero.isSome∧len≤4096∧ps.toList.map (·.1)=List.range len∧inB o.dst cf.nt=true then
   (trPuts cf st g (elemSh k) (ps.toList.map (·.2))).bind fun r=>if r.2.1.Nodup then
    some (.li (.o (elemSh k)) r.1,⟨r.2.2,r.2.1,one cnt (.o (elemSh k)) o.dst (.is cnt g)⟩) else none
  else none
 | none=>none
end
theorem Each.nil_of {R:D→Value→List Nat→Prop} {d:D} {v:Value} (h:R d v []):∀ (n m:Nat),n≤m→Each R (List.replicate n d) (List.replicate m v) []
 | 0,m,_=>by simp [Each]
 | n+1,0,h=>by omega
 | n+1,m+1,hn=>by
  simp only [List.replicate_succ,Each]
  exact ⟨[],[],rfl,h,Each.nil_of h n m (by omega)⟩
def Sh.lst:Sh→Bool
 | .b _=>false
 | .a _=>false
 | _=>true
theorem elemSh_lst (k:Nat):(elemSh k).lst=true:=by unfold elemSh; split <;> rfl
theorem Own.nil {fid:Nat→Nat} {h:Array Obj} {O X:Nat→Prop} {s:Sh} (hs:s.lst=true:=by rfl):Own fid h O X s (.l []) (.slice none 0 0) []:=by
 cases s with
 | a s=>simp [Sh.lst] at hs
 | b s=>simp [Sh.lst] at hs
 | v=>simp [Own,Rd]
 | y=>simp [Own,Rd]
 | o s=>simp [Own]
section
variable {cf:CF} {c:Cx} {F:Fact→Prop} {E:Nat→D} {a:Act} {w:World} {vs:Nat→Value} {Bs:Nat→List Nat} {cnt:Nat} {g:Gd} {sm:Sm} {st:List Fact} {o:Oper} {p:Pr}
 {K:Nat→List D→List D→Prop}
theorem opA_const {x:Operand} {d:D} {s:Sh} {ns:List Fact} (h:opA cf st g x=some (.c d,s,ns)):ns=[]:=by
 cases x with
 | const v=>
  simp only [opA,qms,qpj] at h
  obtain ⟨_,_,_,_,rfl⟩:=h; rfl
 | func v=>
  simp only [opA,qms,qpj] at h
  obtain ⟨_,_,_,_,rfl⟩:=h; rfl
 | global f=>simp [opA] at h
 | tmp t=>
  simp only [opA] at h
  split at h
  ·split at h
   ·simp only [qms,qpj] at h
    obtain ⟨_,_,h,_⟩:=h
    cases h
   ·cases h
  ·cases h
theorem trPut_sound {es:Sh} {x:Operand} {α:A} {ks:List Nat} {ns:List Fact} (ht:trPut cf st g es x=some (α,ks,ns)) (h:At cf c F E a w vs Bs cnt g p sm) (hn:∀ f∈ns,f∈sm.needs)
  {O':Nat→Prop} (hO:∀ b,b<w.heap.size→O' b→OB F Bs b) (hfr:es=.v→∀ n∈ks,∀ b∈Bs n,¬ O' b):
  ∃ B,Own c.fid w.heap O' c.Xb es (ev E α) (a.eval x) B∧((ks=[]∨es=.v)∧B=[]∨∃ n,ks=[n]∧B=Bs n∧es≠.v)∧(∀ n∈ks,alive F n):=by
 unfold trPut at ht
 simp only [qbs] at ht
 obtain ⟨⟨α1,s1,n1⟩,h1,ht⟩:=ht
 simp only at ht
 split at ht
 ·rename_i hes
  subst hes
  split at ht
  ·rename_i hs; subst hs
   simp only [qsj,qpj] at ht
   obtain ⟨rfl,rfl,rfl⟩:=ht
   obtain ⟨B,hB,_⟩:=h.opA h1 hn
   refine ⟨[],?_,.inl ⟨.inl rfl,rfl⟩,by simp⟩
   simp only [Own] at hB ⊢
   exact ⟨trivial,hB.2.mono fun b hb q=>q.imp (hO b hb) id⟩
  ·split at ht
   ·rename_i hs; subst hs
    split at ht
    ·rename_i n
     split at ht
     ·simp only [qsj,qpj] at ht
      obtain ⟨rfl,rfl,rfl⟩:=ht
      obtain ⟨B,hB,hn'⟩:=h.opA h1 hn
      obtain ⟨k1,k2,k3⟩:=hn' n rfl
      refine ⟨[],?_,.inl ⟨.inr rfl,rfl⟩,by simp; exact ⟨_,k1⟩⟩
      rw [k3] at hB
      have hX:∀ b∈Bs n,¬ c.Xb b:=fun b hb q=>by
       obtain ⟨q1,q2⟩:=c.hX b q
       rcases h.H.mine n _ k1 b hb with m | m
       ·omega
       ·exact q2 m
      have:=Own.frozen hO _ _ _ (fun b hb=>⟨hfr rfl n (by simp) b hb,hX b hb⟩) hB
      simp only [Own]
      exact ⟨trivial,this⟩
     ·cases ht
    ·cases ht
   ·cases ht
 ·rename_i hes
  split at ht
  ·rename_i n
   split at ht
   ·rename_i hs
    obtain ⟨hs1,hs2,_⟩:=hs
    subst hs1
    simp only [qsj,qpj] at ht
    obtain ⟨rfl,rfl,rfl⟩:=ht
    obtain ⟨B,hB,hn'⟩:=h.opA h1 hn
    obtain ⟨k1,k2,k3⟩:=hn' n rfl
    refine ⟨Bs n,?_,.inr ⟨n,rfl,rfl,hes⟩,by simp; exact ⟨_,k1⟩⟩
    rw [← k3]
    exact Own.ext (Agr.refl (fun _=>False) _) (fun _ _ q=>q.elim) hO _ _ _ _ (fun _ _ q=>q) hB
   ·cases ht
  ·split at ht
   ·rename_i es' 
    simp only [qsj,qpj] at ht
    obtain ⟨rfl,rfl,rfl⟩:=ht
    refine ⟨[],?_,.inl ⟨.inl rfl,rfl⟩,by simp⟩
    obtain ⟨B,hB,_⟩:=opA_sound h.fits h1 h.H (fun f hf=>by rw [opA_const h1] at hf; cases hf) h.g
    ·have hv:a.eval x=.slice none 0 0:=by
      cases x with
      | const v=>
       simp only [opA,qms] at h1
       obtain ⟨d,hd,h1⟩:=h1
       simp only [qpj] at h1
       obtain ⟨h1,_,_⟩:=h1
       injection h1 with h1
       subst h1
       unfold constD at hd
       split at hd <;> try (injection hd with hd; cases hd)
       ·split at hd
        ·injection hd with hd; cases hd
        ·cases hd
       ·rfl
       ·cases hd
      | func f=>
       simp only [opA,qms,qpj] at h1
       obtain ⟨k,hk,h1,_⟩:=h1
       simp at h1
      | global f=>simp [opA] at h1
      | tmp t=>
       simp only [opA] at h1
       split at h1
       ·split at h1
        ·simp only [qms,qpj] at h1
         obtain ⟨_,_,h1,_⟩:=h1
         cases h1
        ·cases h1
       ·cases h1
     rw [hv]
     exact Own.nil
   ·cases ht
  ·cases ht
theorem agr_alloc (w:World) (o:Obj) (S:Nat→Prop):Agr S w.heap (w.alloc o).heap:=by
 refine ⟨by simp,fun b hb _=>heap_alloc_old w o b hb⟩
theorem trMk_sound {k:Nat} {t:TypeId} {l q:Operand} (ho:o.op=.makeSlice t l q) (ht:trMk cf st cnt o g k t l q=some (p,sm)) (h:At cf c F E a w vs Bs cnt g p sm) (hE:EvP K E cnt p):StepOK c o sm F E a w:=by
 unfold trMk at ht
 split at ht
 ·rename_i e ti hel
  split at ht
  ·rename_i z hz
   simp only [qbs] at ht
   obtain ⟨d,hd,ht⟩:=ht
   split at ht
   ·rename_i hc
    obtain ⟨hby,hz1,hin,hsh⟩:=hc
    have hzc:z.cells=#[z]:=by cases z <;> simp_all [Value.cells,Value.oneCell']
    simp only [qbs] at ht
    obtain ⟨⟨α,s1,n1⟩,h1,⟨β,s2,n2⟩,h2,ht⟩:=ht
    simp only [qsj,qpj] at ht
    obtain ⟨rfl,rfl⟩:=ht
    obtain ⟨B1,o1,_⟩:=h.opA h1 (fun f hf=>qal _ hf)
    obtain ⟨B2,o2,_⟩:=h.opA h2 (fun f hf=>qar _ hf)
    have hE':mkD d (ev E α) (ev E β)=some (E cnt):=hE
    unfold mkD at hE'
    split at hE'
    ·rename_i k1 n k2 m he1 he2
     split at hE'
     ·rename_i hb
      obtain ⟨hb1,hb2,hb3⟩:=hb
      injection hE' with hE'
      rw [he1] at o1
      rw [he2] at o2
      obtain ⟨g1,g2,g3⟩:=elem1_spec hel
      have hP:c.P=cf.P:=h.fits.P
      obtain ⟨n',rfl⟩:=qoz hb1
      obtain ⟨m',rfl⟩:=qoz (show (0:Int)≤m by omega)
      have hmb:(m':Int)≤1099511627776:=hb3
      have hr:=run_make (P:=c.P) w t e ti z (by rw [hP]; exact g1) (by rw [hP]; exact g2) hz k1 k2 n' m' (by omega) hb2 (by
       have:(ti.bytes:Int)*(m':Int)≤128*1099511627776:=Int.mul_le_mul (by omega) hmb (by omega) (by omega)
       omega) (by omega)
      simp only [qtn,g3,Nat.mul_one,hzc] at hr
      have hrun:(execOp a.eval o).run c.P w=.ok (.value (.slice (some ⟨w.heap.size,0,none⟩) n' m')) (w.alloc (.cells (madeCells #[z] m') e)):=by
       simp only [execOp,ho]
       refine run_v ?_
       rw [o1.int,o2.int]
       exact hr
      refine StepOK.of_value hrun ⟨upd vs cnt (.slice (some ⟨w.heap.size,0,none⟩) n' m'),upd Bs cnt [w.heap.size],?_⟩
      refine h.H.put (by simpa using h.fresh 0 (by simp [Pr.np])) (by rw [h.fits.nt]; exact hin) [] (agr_alloc _ _ _) rfl rfl rfl ?_ (by simp) (by simp) h.g
      rw [← hE']
      simp only [Own]
      refine .inr ⟨_,rfl,.inr ⟨w.heap.size,0,m',madeCells #[z] m',e,(0,0),[],rfl,?_,?_,rfl,?_,?_,?_,?_⟩⟩
      ·simp
      ·exact heap_alloc_new w _
      ·simp; omega
      ·simp [madeCells]
      ·simp; omega
      ·simp only [List.drop_zero,toList_madeCells_one,qtn]
       refine Each.nil_of ?_ n' m' (by omega)
       rcases hsh with hsh | hsh
       ·rw [hsh]; simp only [Own]; exact ⟨trivial,constD_rd hd⟩
       ·unfold isNilD at hsh
        split at hsh
        ·have hv:z=.slice none 0 0:=by
          unfold constD at hd
          split at hd <;> try (injection hd with hd; cases hd)
          ·split at hd
           ·injection hd with hd; cases hd
           ·cases hd
          ·rfl
          ·cases hd
         rw [hv]; exact Own.nil (elemSh_lst k)
        ·cases hsh
     ·cases hE'
    ·cases hE'
   ·cases ht
  ·cases ht
 ·cases ht
end
end Go.Cat
namespace Go.Cat
theorem Rd.one {fid:Nat→Nat} {h:Array Obj} {Z:Nat→Prop} {d:D} {v:Value} (hd:d.one=true) (r:Rd fid h Z d v):v.oneCell'=true:=by
 cases d with
 | u=>simp [D.one] at hd
 | g xs=>simp [D.one] at hd
 | i k n=>simp only [Rd] at r; subst r; rfl
 | b x=>simp only [Rd] at r; subst r; rfl
 | s x=>simp only [Rd,strV] at r; rw [r.1]; rfl
 | z=>simp only [Rd] at r; subst r; rfl
 | l xs=>
  simp only [Rd] at r
  rcases r with ⟨_,_,rfl⟩ | ⟨b,off,cap,cs,e,fz,rfl,_⟩ <;> rfl
 | p xs=>
  simp only [Rd] at r
  obtain ⟨b,off,cs,e,fz,rfl,_⟩:=r
  rfl
 | f n xs=>
  simp only [Rd] at r
  obtain ⟨vs,rfl,_⟩:=r
  rfl
theorem Own.one {fid:Nat→Nat} {h:Array Obj} {O X:Nat→Prop} {s:Sh} {d:D} {v:Value} {B:List Nat} (hd:d.one=true) (r:Own fid h O X s d v B):v.oneCell'=true:=by
 cases s with
 | v=>simp only [Own] at r; exact Rd.one hd r.2
 | y=>simp only [Own] at r; exact Rd.one hd r.2
 | o s=>
  simp only [Own] at r
  rcases r with ⟨q | q,_⟩ | ⟨xs,rfl,⟨rfl,_⟩ | ⟨b,off,cap,cs,e,fz,B',_,rfl,_⟩⟩
  ·subst q; simp [D.one] at hd
  ·exact Rd.one hd q.2
  ·rfl
  ·rfl
 | a s=>
  simp only [Own] at r
  obtain ⟨xs,cs,rfl,_⟩:=r
  simp [D.one] at hd
 | b s=>
  simp only [Own] at r
  obtain ⟨xs,b,cs,e,fz,B',rfl,_⟩:=r
  simp [D.one] at hd
theorem cells_one {v:Value} (h:v.oneCell'=true):v.cells=#[v]:=by cases v <;> simp_all [Value.cells,Value.oneCell']
theorem Each.one {fid:Nat→Nat} {h:Array Obj} {O X:Nat→Prop} {s:Sh}:∀ {ds:List D} {vs:List Value} {B:List Nat},ds.all D.one=true→vs.length=ds.length→Each (Own fid h O X s) ds vs B→∀ v∈vs,v.oneCell'=true
 | [],[],_=>fun _ _ _=>by simp
 | d::ds,v::vs,B=>fun hd hl r=>by
  simp only [Each] at r
  simp only [List.all_cons,qba] at hd
  obtain ⟨B1,B2,rfl,r1,r2⟩:=r
  intro u hu
  rcases qmn.1 hu with rfl | hu
  ·exact r1.one hd.1
  ·exact Each.one hd.2 (by simpa using hl) r2 u hu
 | [],_::_,_=>fun _ hl _=>by simp at hl
 | _::_,[],_=>fun _ hl _=>by simp at hl
section
variable {cf:CF} {c:Cx} {F:Fact→Prop} {E:Nat→D} {a:Act} {w:World} {vs:Nat→Value} {Bs:Nat→List Nat} {cnt:Nat} {g:Gd} {sm:Sm} {st:List Fact} {o:Oper} {p:Pr}
 {K:Nat→List D→List D→Prop}
theorem trPuts_sound {es:Sh} (h:At cf c F E a w vs Bs cnt g p sm) {O':Nat→Prop} (hO:∀ b,b<w.heap.size→O' b→OB F Bs b):
  ∀ {l:List Operand} {αs:List A} {ks:List Nat} {ns:List Fact},trPuts cf st g es l=some (αs,ks,ns)→(∀ f∈ns,f∈sm.needs)→(es=.v→∀ n∈ks,∀ b∈Bs n,¬ O' b)→ks.Nodup→
  αs.length=l.length∧∃ B,Each (Own c.fid w.heap O' c.Xb es) (αs.map (ev E)) (l.map a.eval) B∧B.Nodup∧(∀ b∈B,∃ n∈ks,alive F n∧b∈Bs n)∧(es=.v→B=[])∧∀ n∈ks,alive F n
 | [],αs,ks,ns,ht,_,_,_=>by
  simp only [trPuts,qsj,qpj] at ht
  obtain ⟨rfl,rfl,rfl⟩:=ht
  exact ⟨rfl,[],by simp [Each],by simp,by simp,fun _=>rfl,by simp⟩
 | x::l,αs,ks,ns,ht,hn,hfr,hnd=>by
  simp only [trPuts,qbs,qms,qpj] at ht
  obtain ⟨⟨α,k1,n1⟩,h1,⟨αs',k2,n2⟩,h2,rfl,rfl,rfl⟩:=ht
  obtain ⟨hnd1,hnd2,hnd3⟩:=List.nodup_append.1 hnd
  obtain ⟨B1,e1,e2,e3⟩:=trPut_sound h1 h (fun f hf=>hn f (qal _ hf)) hO (fun q n hnn=>hfr q n (qal _ hnn))
  obtain ⟨f0,B2,f1,f2,f3,f4,f5⟩:=trPuts_sound h hO h2 (fun f hf=>hn f (qar _ hf)) (fun q n hnn=>hfr q n (qar _ hnn)) hnd2
  refine ⟨by simp [f0],B1++B2,?_,?_,?_,?_,?_⟩
  ·simp only [List.map_cons,Each]; exact ⟨B1,B2,rfl,e1,f1⟩
  ·rcases e2 with ⟨_,rfl⟩ | ⟨n,rfl,rfl,_⟩
   ·simpa using f2
   ·obtain ⟨s,hs⟩:=e3 n (by simp)
    refine List.nodup_append.2 ⟨h.H.nodup n s hs,f2,fun b hb b' hb'=>?_⟩
    rintro rfl
    obtain ⟨m,hm,⟨r,hr⟩,hbm⟩:=f3 b hb'
    exact h.H.apart n s m r hs hr (hnd3 n (by simp) m hm) b hb hbm
  ·intro b hb
   rcases qma.1 hb with hb | hb
   ·rcases e2 with ⟨_,rfl⟩ | ⟨n,rfl,rfl,_⟩
    ·simp at hb
    ·exact ⟨n,by simp,e3 n (by simp),hb⟩
   ·obtain ⟨m,hm,k⟩:=f3 b hb
    exact ⟨m,qar _ hm,k⟩
  ·intro q
   rw [f4 q]
   rcases e2 with ⟨_,rfl⟩ | ⟨n,rfl,rfl,q'⟩
   ·rfl
   ·exact (q' q).elim
  ·intro n hnn
   rcases qma.1 hnn with hnn | hnn
   ·exact e3 n hnn
   ·exact f5 n hnn
def Oput (F:Fact→Prop) (Bs:Nat→List Nat) (ks:List Nat) (es:Sh) (N:Nat→Prop):Nat→Prop:=fun b=>OBk F Bs (fun n=>n∈ks) b∨(es≠.v∧∃ n∈ks,alive F n∧b∈Bs n)∨N b
theorem Oput_old (H:HoldsG c F E a w vs Bs) {ks:List Nat} {es:Sh} {N:Nat→Prop} (hN:∀ b,b<w.heap.size→N b→OB F Bs b):∀ b,b<w.heap.size→Oput F Bs ks es N b→OB F Bs b:=by
 rintro b hb (⟨n,s,h1,_,h3⟩ | ⟨_,n,_,⟨s,h1⟩,h3⟩ | h)
 ·exact ⟨n,s,h1,h3⟩
 ·exact ⟨n,s,h1,h3⟩
 ·exact hN b hb h
theorem Oput_fr (H:HoldsG c F E a w vs Bs) {ks l:List Nat} {N:Nat→Prop} (hl:∀ n∈l,n∈ks) (ha:∀ n∈l,alive F n) (hN:∀ n∈l,∀ b∈Bs n,¬ N b):∀ n∈l,∀ b∈Bs n,¬ Oput F Bs ks .v N b:=by
 rintro n hn b hb (⟨m,s,h1,h2,h3⟩ | ⟨q,_⟩ | h)
 ·obtain ⟨r,hr⟩:=ha n hn
  exact H.apart n r m s hr h1 (fun e=>h2 (e ▸ hl n hn)) b hb h3
 ·exact q rfl
 ·exact hN n hn b hb h
theorem trPuts_alive {es:Sh} (h:At cf c F E a w vs Bs cnt g p sm):∀ {l:List Operand} {αs:List A} {ks:List Nat} {ns:List Fact},trPuts cf st g es l=some (αs,ks,ns)→(∀ f∈ns,f∈sm.needs)→∀ n∈ks,alive F n
 | [],αs,ks,ns,ht,_=>by
  simp only [trPuts,qsj,qpj] at ht
  obtain ⟨rfl,rfl,rfl⟩:=ht
  simp
 | x::l,αs,ks,ns,ht,hn=>by
  simp only [trPuts,qbs,qms,qpj] at ht
  obtain ⟨⟨α,k1,n1⟩,h1,⟨αs',k2,n2⟩,h2,rfl,rfl,rfl⟩:=ht
  intro n hnn
  rcases qma.1 hnn with hnn | hnn
  ·obtain ⟨_,_,_,k⟩:=trPut_sound (O':=fun _=>False) h1 h (fun f hf=>hn f (qal _ hf)) (fun _ _ q=>q.elim) (fun _ _ _ _ _ q=>q)
   exact k n hnn
  ·exact trPuts_alive h h2 (fun f hf=>hn f (qar _ hf)) n hnn
theorem trLi_sound {k:Nat} {t:TypeId} {len:Nat} {ps:Array (Nat×Operand)} (ho:o.op=.buildSlice t len ps) (ht:trLi cf st cnt o g k t len ps=some (p,sm)) (h:At cf c F E a w vs Bs cnt g p sm) (hE:EvP K E cnt p):StepOK c o sm F E a w:=by
 unfold trLi at ht
 split at ht
 ·rename_i e ti hel
  split at ht
  ·rename_i hc
   obtain ⟨hz,hlen,hps,hin⟩:=hc
   obtain ⟨z,hz⟩:=Option.isSome_iff_exists.1 hz
   simp only [qbs] at ht
   obtain ⟨⟨αs,ks,ns⟩,h1,ht⟩:=ht
   split at ht
   ·rename_i hnd
    simp only [qsj,qpj] at ht
    obtain ⟨rfl,rfl⟩:=ht
    have hlt:∀ n s,F (.en n s)→∀ b∈Bs n,b<w.heap.size:=fun n s hs=>Own.blocks_lt s _ _ _ (h.H.own n s hs)
    have hO:=Oput_old h.H (ks:=ks) (es:=elemSh k) (N:=fun b=>b=w.heap.size) (fun b hb q=>by omega)
    have hal:=trPuts_alive h h1 (fun f hf=>hf)
    obtain ⟨hla,B,f1,f2,f3,f4,_⟩:=trPuts_sound h hO h1 (fun f hf=>hf) (fun q=>by
     rw [q]
     exact Oput_fr h.H (fun n hn=>hn) hal (fun n hn b hb e=>by obtain ⟨s,hs⟩:=hal n hn; have:=hlt n s hs b hb; omega)) hnd
    have hE':(if (αs.map (ev E)).all D.one=true then some (D.l (αs.map (ev E))) else none)=some (E cnt):=hE
    split at hE'
    ·rename_i hone
     injection hE' with hE'
     have hll:len=ps.toList.length:=by have:=congrArg List.length hps; simpa using this.symm
     have hvl:((ps.toList.map (·.2)).map a.eval).length=(αs.map (ev E)).length:=by simp [hla]
     have hv1:=Each.one hone hvl f1
     obtain ⟨g1,g2,g3⟩:=elem1_spec hel
     have hP:c.P=cf.P:=h.fits.P
     have hparts:(ps.map fun (i,x)=>(i,a.eval x)).toList=(((ps.toList.map (·.2)).map a.eval).zipIdx 0).map fun x=>(x.2,x.1):=by
      rw [Array.toList_map]
      apply List.ext_getElem?
      intro i
      simp only [List.getElem?_map,List.getElem?_zipIdx,Nat.zero_add]
      cases hi:ps.toList[i]? with
      | none=>simp
      | some x=>
       have:(ps.toList.map (·.1))[i]?=some x.1:=by simp [hi]
       rw [hps] at this
       have hi':i<len:=by rw [hll]; exact (List.getElem?_eq_some_iff.1 hi).1
       rw [List.getElem?_range hi'] at this
       injection this with this
       simp [← this]
     have hbuild:(Instr.buildSlice t len (ps.map fun (i,x)=>(i,a.eval x))).run c.P w=.ok (.slice (some ⟨w.heap.size,0,none⟩) len len) (w.alloc (.cells ((ps.toList.map (·.2)).map a.eval).toArray e)):=by
      have hfill:∀ cells:Array Value,cells.size=len→Instr.fill (fun i=>some (i*ti.size,ti.size)) cells (ps.map fun (i,x)=>(i,a.eval x)).toList=some ((ps.toList.map (·.2)).map a.eval).toArray:=by
       intro cells hcs
       rw [hparts,g3]
       exact Great.fill_flat _ _ (fun v hv=>cells_one (hv1 v hv)) (by simp [hcs,hll])
      by_cases h0:len=0
      ·subst h0
       have hf0:=hfill #[] rfl
       rw [g3] at hf0
       have hr0:∀ f:Nat→Value,Array.map f (Array.range 0)=#[]:=fun f=>by simp
       simp [Instr.buildSlice,run_underlying (hP ▸ g1),sizeOf,typeInfo,hP ▸ g2,newRow,g3] at hf0 ⊢
       have hr1:Array.map (fun _=>(default:Value)) (Array.range 0)=#[]:=hr0 _
       rw [hr1,hf0]
       simp
      ·exact run_buildSlice w t e len _ _ ti z (hP ▸ g1) (hP ▸ g2) hz (by rw [g3]; omega) (by rw [g3]; omega) (hfill _ (by simp [g3]))
     have hrun:(execOp a.eval o).run c.P w=.ok (.value (.slice (some ⟨w.heap.size,0,none⟩) len len)) (w.alloc (.cells ((ps.toList.map (·.2)).map a.eval).toArray e)):=by
      simp only [execOp,ho]
      exact run_v hbuild
     refine StepOK.of_value hrun ⟨upd vs cnt (.slice (some ⟨w.heap.size,0,none⟩) len len),upd Bs cnt (w.heap.size::B),?_⟩
     have hBlt:∀ b∈B,b<w.heap.size:=fun b hb=>by
      obtain ⟨n,_,⟨s,hs⟩,hbn⟩:=f3 b hb
      exact hlt n s hs b hbn
     refine h.H.put (by simpa using h.fresh 0 (by simp [Pr.np])) (by rw [h.fits.nt]; exact hin) ks (agr_alloc _ _ _) rfl rfl rfl ?_ ?_ ?_ h.g
     ·rw [← hE']
      simp only [Own]
      have hxl:(αs.map (ev E)).length=len:=by simp [hla,hll]
      refine .inr ⟨_,rfl,.inr ⟨w.heap.size,0,len,_,e,(0,0),B,rfl,?_,heap_alloc_new w _,rfl,by omega,?_,?_,?_⟩⟩
      ·rw [hxl]
      ·simp [hll]
      ·rw [hxl]; omega
      ·simp only [List.drop_zero]
       refine Each.imp (fun d v B1 hB1 r=>?_) f1
       refine Own.ext (S:=fun _=>False) (agr_alloc _ _ _) (fun _ _ q=>q.elim) ?_ _ _ _ _ (fun _ _ q=>q) r
       rintro b hb (q | q)
       ·exact .inl q
       ·rcases qmn.1 q with q | q
        ·exact .inr (.inr q)
        ·by_cases hes:elemSh k=.v
         ·rw [f4 hes] at q; simp at q
         ·exact .inr (.inl ⟨hes,f3 b q⟩)
     ·refine List.nodup_cons.2 ⟨fun q=>?_,f2⟩
      have:=hBlt _ q; omega
     ·intro b hb
      rcases qmn.1 hb with rfl | hb
      ·exact .inr (Nat.le_refl _)
      ·obtain ⟨n,hn,⟨s,hs⟩,hbn⟩:=f3 b hb
       exact .inl ⟨n,s,hs,hn,hbn⟩
    ·cases hE'
   ·cases ht
  ·cases ht
 ·cases ht
end
end Go.Cat
namespace Go.Cat
theorem run_app {P:Program} {w:World} {t ty e:TypeId} {ti:TypeInfo} {z:Value} (hel:elem1 P t=some (e,ti)) (hz:ti.zero=some z) (hz1:z.cells=#[z]) (hby:ti.bytes≤128)
  {olds news:List Value} {sv xv:Value}
  (hs:(sv=.slice none 0 0∧olds=[])∨∃ g off cap cs e',sv=.slice (some ⟨g,off,none⟩) olds.length cap∧w.heap[g]?=some (.cells cs e' (0,0))∧olds.length≤cap∧off+cap≤cs.size∧(∀ (j:Nat) (v:Value),olds[j]?=some v→cs[off+j]?=some v))
  (hx:((∃ a,xv=.slice a 0 0)∧news=[])∨∃ b off cap,xv=.slice (some ⟨b,off,none⟩) news.length cap∧∀ (j:Nat) (v:Value),news[j]?=some v→w.cell? ⟨b,off+j,none⟩=some v)
  (h1:∀ v∈news,v.oneCell'=true) (hbig:olds.length+news.length≤1099511627776):
  ∃ v' w',(Builtin.append_ #[t,t] ty #[sv,xv]).run P w=.ok v' w'∧w'.os=w.os∧w'.tape=w.tape∧w'.output=w.output∧
   ((v'=.slice none 0 0∧olds=[]∧news=[]∧w'.heap=w.heap)∨
    (∃ g off cap cs e' cs',sv=.slice (some ⟨g,off,none⟩) olds.length cap∧w.heap[g]?=some (.cells cs e' (0,0))∧v'=.slice (some ⟨g,off,none⟩) (olds.length+news.length) cap∧olds.length+news.length≤cap∧cs'.size=cs.size∧
     w'.heap[g]?=some (.cells cs' e' (0,0))∧(∀ b,b≠g→w'.heap[b]?=w.heap[b]?)∧w'.heap.size=w.heap.size∧∀ (j:Nat) (v:Value),(olds++news)[j]?=some v→cs'[off+j]?=some v)∨
    (∃ cap cs',v'=.slice (some ⟨w.heap.size,0,none⟩) (olds.length+news.length) cap∧olds.length+news.length≤cap∧cap≤cs'.size∧w'.heap=w.heap.push (.cells cs' e)∧∀ (j:Nat) (v:Value),(olds++news)[j]?=some v→cs'[j]?=some v)):=by
 obtain ⟨g1,g2,g3⟩:=elem1_spec hel
 have hbytes:(olds.length+news.length)*ti.bytes≤140737488355328:=by
  have:(olds.length+news.length)*ti.bytes≤1099511627776*128:=Nat.mul_le_mul hbig hby
  omega
 have hgc:∀ (old:Nat),olds.length+news.length≤grownCap w (olds.length+news.length) old e:=fun old=>grownCap_ge w _ old e
 have hnewget:∀ (old j:Nat) (v:Value),(olds++news)[j]?=some v→(olds.toArray++news.toArray++Builtin.zeroCells z.cells (grownCap w (olds.length+news.length) old e-(olds.length+news.length)))[j]?=some v:=by
  intro old j v hj
  have hjl:j<(olds++news).length:=(List.getElem?_eq_some_iff.1 hj).1
  rw [Array.getElem?_append_left (by simp only [Array.size_append,List.size_toArray]; simpa using hjl)]
  rw [← hj]
  simp [List.getElem?_append]
 have hnewsz:∀ (old:Nat),(olds.toArray++news.toArray++Builtin.zeroCells z.cells (grownCap w (olds.length+news.length) old e-(olds.length+news.length))).size=grownCap w (olds.length+news.length) old e:=by
  intro old
  have:=hgc old
  simp only [Array.size_append,List.size_toArray,size_zeroCells,hz1]
  simp
  omega
 rcases hs with ⟨rfl,rfl⟩ | ⟨g,off,cap,cs,e',rfl,hg,hlc,hoc,hol⟩
 ·rcases hx with ⟨⟨a0,rfl⟩,rfl⟩ | ⟨b,xo,xc,rfl,hxn⟩
  ·refine ⟨.slice none 0 0,w,?_,rfl,rfl,rfl,.inl ⟨rfl,rfl,rfl,rfl⟩⟩
   cases a0 <;> simp [Builtin.append_,run_underlying g1,sizeOf,typeInfo,g2,Builtin.lenOf,Builtin.firstCells,loadCells,loadCellsFrom]
  ·by_cases hm:news.length=0
   ·have:news=[]:=qez hm
    subst this
    refine ⟨.slice none 0 0,w,?_,rfl,rfl,rfl,.inl ⟨rfl,rfl,rfl,rfl⟩⟩
    simp [Builtin.append_,run_underlying g1,sizeOf,typeInfo,g2,Builtin.lenOf,Builtin.firstCells,loadCells,loadCellsFrom]
   ·have hr:=run_append_nil (P:=P) w t ty e ti z g1 g2 hz ⟨b,xo,none⟩ news.length xc news (by rw [g3]; omega) (fun j v hj=>by rw [Addr.add_lit]; exact hxn j v hj) (by omega) (by simp at hbig; omega) (by simp at hbytes; omega)
    have hs1:=hnewsz 0
    have hs2:=hnewget 0
    have hs3:=hgc 0
    simp only [qln,Nat.zero_add,List.nil_append,Array.empty_append] at hs1 hs2 hs3
    refine ⟨_,_,hr,rfl,rfl,rfl,.inr (.inr ⟨grownCap w news.length 0 e,news.toArray++Builtin.zeroCells z.cells (grownCap w news.length 0 e-news.length),by simp,by simpa using hs3,by rw [hs1]; exact Nat.le_refl _,rfl,by simpa using hs2⟩)⟩
 ·by_cases hroom:olds.length+news.length≤cap
  · -- in place
   have hf:(Builtin.firstCells ti.size news.length xv).run P w=.ok news.toArray w:=by
    rcases hx with ⟨⟨a0,rfl⟩,rfl⟩ | ⟨b,xo,xc,rfl,hxn⟩
    ·cases a0 <;> simp [Builtin.firstCells,loadCells,loadCellsFrom]
    ·exact run_firstCells_some (P:=P) w ti.size news.length ⟨b,xo,none⟩ _ xc news (by rw [g3]; omega) (fun j v hj=>by rw [Addr.add_lit]; exact hxn j v hj)
   have hlen:(Builtin.lenOf xv).run P w=.ok news.length w:=by
    rcases hx with ⟨⟨a0,rfl⟩,rfl⟩ | ⟨b,xo,xc,rfl,hxn⟩ <;> simp [Builtin.lenOf]
   have hst:=run_storeCells_at P g (off+olds.length) e' news 0 cs w hg (by omega) h1
   simp only [Nat.add_zero] at hst
   have hx2:∃ a b c,xv=.slice a b c:=by
    rcases hx with ⟨⟨a0,rfl⟩,rfl⟩ | ⟨b,xo,xc,rfl,hxn⟩ <;> exact ⟨_,_,_,rfl⟩
   refine ⟨.slice (some ⟨g,off,none⟩) (olds.length+news.length) cap,w.setRow g (cs.toList.take (off+olds.length)++news++cs.toList.drop (off+olds.length+news.length)).toArray,?_,rfl,rfl,rfl,.inr (.inl ⟨g,off,cap,cs,e',_,rfl,hg,rfl,hroom,?_,setRow_heap w g cs _ e' _ hg,fun b hb=>setRow_other w g b _ hb,by simp,?_⟩)⟩
   ·rw [g3] at hf
    simp [Builtin.append_,run_underlying g1,sizeOf,typeInfo,g2,hlen,hroom,g3,hf,Addr.add_lit,hst]
   ·simp only [List.size_toArray,qla,List.length_take,List.length_drop,Array.length_toList]
    omega
   ·intro j v hj
    have hjl:j<(olds++news).length:=(List.getElem?_eq_some_iff.1 hj).1
    simp only [qla] at hjl
    simp only [List.getElem?_toArray]
    rw [qgl (by simp only [qla,List.length_take,Array.length_toList]; omega)]
    by_cases hjo:j<olds.length
    ·rw [qgl (by simp only [List.length_take,Array.length_toList]; omega),List.getElem?_take,if_pos (by omega)]
     rw [qgl hjo] at hj
     simpa using hol j v hj
    ·rw [qgr (by simp only [List.length_take,Array.length_toList]; omega)]
     rw [qgr (by omega)] at hj
     rw [← hj]
     congr 1
     simp only [List.length_take,Array.length_toList]
     omega
  ·rcases hx with ⟨⟨a0,rfl⟩,rfl⟩ | ⟨b,xo,xc,rfl,hxn⟩
   ·simp at hroom; omega
   ·have hr:=run_append_grow (P:=P) w t ty e ti z g1 g2 hz ⟨g,off,none⟩ olds.length cap olds (by rw [g3]; omega) (fun j v hj=>by rw [Addr.add_lit]; simp [World.cell?,hg,hol j v hj]) ⟨b,xo,none⟩ news.length xc news (by rw [g3]; omega)
     (fun j v hj=>by rw [Addr.add_lit]; exact hxn j v hj) (by omega) (by omega) (growslice_fits (by omega) hbytes)
    refine ⟨_,_,hr,rfl,rfl,rfl,.inr (.inr ⟨grownCap w (olds.length+news.length) cap e,_,rfl,hgc cap,by rw [hnewsz cap]; exact Nat.le_refl _,rfl,hnewget cap⟩)⟩
end Go.Cat
namespace Go.Cat
section
variable (cf:CF) (st:List Fact) (cnt:Nat) (o:Oper) (g:Gd)
def zeroOne (ti:TypeInfo):Bool:=match ti.zero with
 | some z=>z.oneCell'
 | none=>false
def trRoot (s:Operand):Option (A×List Nat×List Fact):=
 (opA cf st g s).bind fun a=>
  match a.1 with
  | .e n=>if a.2.1=.o .v then some (a.1,[n],a.2.2) else none
  | .c (.l [])=>some (a.1,[],a.2.2)
  | .c _=>none
def notKilled (ks:List Nat):A→Bool
 | .e n=>!ks.contains n
 | .c _=>true
def trAp (t:TypeId) (s x:Operand):Option (Pr×Sm):=
 match elem1 cf.P t with
 | some (_,ti)=>if zeroOne ti=true∧ti.bytes≤128∧inB o.dst cf.nt=true∧g=[] then
   (trRoot cf st g s).bind fun r=>(opA cf st g x).bind fun b=>
    if notKilled r.2.1 b.1=true∧(b.2.1=.v∨b.2.1=.o .v∨b.2.1=.y) then
     some (.ap (b.2.1 == .y) r.1 b.1,⟨r.2.2++b.2.2,r.2.1,one cnt (.o .v) o.dst (.is cnt g)⟩)
    else none
  else none
 | none=>none
end
section
variable {fid:Nat→Nat} {h:Array Obj} {Z:Nat→Prop}
theorem RdL.append:∀ {ds es:List D} {vs us:List Value},vs.length=ds.length→RdL fid h Z ds vs→RdL fid h Z es us→RdL fid h Z (ds++es) (vs++us)
 | [],es,[],us,_,_,r=>by simpa using r
 | [],es,_::_,us,hl,_,_=>by simp at hl
 | d::ds,es,[],us,hl,_,_=>by simp at hl
 | d::ds,es,v::vs,us,hl,r,q=>by
  simp only [RdL,List.cons_append] at r ⊢
  exact ⟨r.1,RdL.append (by simpa using hl) r.2 q⟩
theorem RdL.congr:∀ {ds:List D} {vs us:List Value},(∀ (j:Nat) (v:Value),vs[j]?=some v→us[j]?=some v)→RdL fid h Z ds vs→RdL fid h Z ds us
 | [],_,_,_,_=>by simp [RdL]
 | d::ds,[],us,_,r=>by simp [RdL] at r
 | d::ds,v::vs,[],hj,_=>by have:=hj 0 v (by simp); simp at this
 | d::ds,v::vs,u::us,hj,r=>by
  simp only [RdL] at r ⊢
  have h0:=hj 0 v (by simp)
  simp at h0
  subst h0
  exact ⟨r.1,RdL.congr (fun j v hv=>by simpa using hj (j+1) v (by simpa using hv)) r.2⟩
theorem RdL.take:∀ {ds:List D} {vs:List Value},RdL fid h Z ds vs→RdL fid h Z ds (vs.take ds.length)∧(vs.take ds.length).length=ds.length
 | [],_,_=>by simp [RdL]
 | d::ds,[],r=>by simp [RdL] at r
 | d::ds,v::vs,r=>by
  simp only [RdL] at r
  have:=RdL.take r.2
  simp only [qlc,List.take_succ_cons,RdL]
  exact ⟨⟨r.1,this.1⟩,by simpa using this.2⟩
theorem RdL.flat {Z':Nat→Prop}:∀ {ds:List D} {vs:List Value},ds.all D.flat=true→RdL fid h Z ds vs→RdL fid h Z' ds vs
 | [],_,_,_=>by simp [RdL]
 | d::ds,[],_,r=>by simp [RdL] at r
 | d::ds,v::vs,hf,r=>by
  simp only [RdL] at r ⊢
  simp only [List.all_cons,qba] at hf
  exact ⟨Rd.flat hf.1 r.1,RdL.flat hf.2 r.2⟩
theorem RdL.one:∀ {ds:List D} {vs:List Value},ds.all D.one=true→vs.length=ds.length→RdL fid h Z ds vs→∀ v∈vs,v.oneCell'=true
 | [],[],_,_,_=>by simp
 | [],_::_,_,hl,_=>by simp at hl
 | d::ds,[],_,_,r=>by simp [RdL] at r
 | d::ds,v::vs,hf,hl,r=>by
  simp only [RdL] at r
  simp only [List.all_cons,qba] at hf
  intro u hu
  rcases qmn.1 hu with rfl | hu
  ·exact Rd.one hf.1 r.1
  ·exact RdL.one hf.2 (by simpa using hl) r.2 u hu
theorem D.flat_one {d:D} (h:d.flat=true):d.one=true:=by cases d <;> simp_all [D.flat,D.one]
theorem all_flat_one:∀ {ds:List D},ds.all D.flat=true→ds.all D.one=true
 | [],_=>rfl
 | d::ds,hf=>by
  simp only [List.all_cons,qba] at hf ⊢
  exact ⟨D.flat_one hf.1,all_flat_one hf.2⟩
theorem eachV {O X:Nat→Prop}:∀ {ds:List D} {vs:List Value} {B:List Nat},Each (Own fid h O X .v) ds vs B↔B=[]∧RdL fid h (fun b=>O b∨X b) ds vs
 | [],vs,B=>by simp [Each,RdL]
 | d::ds,[],B=>by simp [Each,RdL]
 | d::ds,v::vs,B=>by
  simp only [Each,RdL]
  constructor
  ·rintro ⟨B1,B2,rfl,h1,h2⟩
   simp only [Own] at h1
   obtain ⟨rfl,h3⟩:=eachV.1 h2
   exact ⟨by simp [h1.1],h1.2,h3⟩
  ·rintro ⟨rfl,h1,h2⟩
   exact ⟨[],[],rfl,by simp only [Own]; exact ⟨trivial,h1⟩,eachV.2 ⟨rfl,h2⟩⟩
theorem Rd.news {ys:List D} {v:Value} (r:Rd fid h Z (.l ys) v):∃ news:List Value,(((∃ a,v=.slice a 0 0)∧news=[])∨∃ b off cap cs e fz,v=.slice (some ⟨b,off,none⟩) news.length cap∧¬ Z b∧h[b]?=some (.cells cs e fz)∧∀ (j:Nat) (u:Value),news[j]?=some u→cs[off+j]?=some u)∧
  news.length=ys.length∧RdL fid h Z ys news:=by
 simp only [Rd] at r
 rcases r with ⟨rfl,a0,rfl⟩ | ⟨b,off,cap,cs,e,fz,rfl,hb,hz,hl,hn⟩
 ·exact ⟨[],.inl ⟨⟨a0,rfl⟩,rfl⟩,rfl,by simp [RdL]⟩
 ·obtain ⟨h1,h2⟩:=RdL.take hl
  refine ⟨_,.inr ⟨b,off,cap,cs,e,fz,by rw [h2],hz,hb,?_⟩,h2,h1⟩
  intro j u hj
  rw [List.getElem?_take] at hj
  split at hj
  ·rwa [drop_get] at hj
  ·cases hj
end
section
variable {cf:CF} {c:Cx} {F:Fact→Prop} {E:Nat→D} {a:Act} {w:World} {vs:Nat→Value} {Bs:Nat→List Nat} {cnt:Nat} {g:Gd} {sm:Sm} {st:List Fact} {o:Oper} {p:Pr}
 {K:Nat→List D→List D→Prop}
def RowOf (h:Array Obj) (xs:List D) (sv:Value) (B:List Nat) (olds:List Value):Prop:=
 (sv=.slice none 0 0∧olds=[]∧B=[])∨∃ b off cap cs e,B=[b]∧sv=.slice (some ⟨b,off,none⟩) olds.length cap∧h[b]?=some (.cells cs e (0,0))∧olds.length≤cap∧off+cap≤cs.size∧∀ (j:Nat) (v:Value),olds[j]?=some v→cs[off+j]?=some v
theorem Own.olds {fid:Nat→Nat} {h:Array Obj} {O X:Nat→Prop} {xs:List D} {sv:Value} {B:List Nat} (r:Own fid h O X (.o .v) (.l xs) sv B):
  ∃ olds:List Value,RowOf h xs sv B olds∧olds.length=xs.length∧RdL fid h (fun b=>O b∨X b) xs olds:=by
 simp only [Own] at r
 rcases r with ⟨q | q,_⟩ | ⟨ys,hy,r⟩
 ·cases q
 ·simp [D.flat] at q
 injection hy with hy; subst hy
 rcases r with ⟨rfl,rfl,rfl⟩ | ⟨b,off,cap,cs,e,fz,B',rfl,rfl,hb,ht,h1,h2,h3,he⟩
 ·exact ⟨[],.inl ⟨rfl,rfl,rfl⟩,rfl,by simp [RdL]⟩
 ·obtain ⟨rfl,hr⟩:=eachV.1 he
  obtain ⟨k1,k2⟩:=RdL.take hr
  have hfz:fz=(0,0):=ht
  subst hfz
  refine ⟨_,.inr ⟨b,off,cap,cs,e,rfl,by rw [k2],hb,by rw [k2]; exact h1,h2,?_⟩,k2,k1⟩
  intro j u hj
  rw [List.getElem?_take] at hj
  split at hj
  ·rwa [drop_get] at hj
  ·cases hj
theorem nil_val {x:Operand} {s:Sh} {ns:List Fact} (h:opA cf st g x=some (.c (.l []),s,ns)):a.eval x=.slice none 0 0:=by
 cases x with
 | const v=>
  simp only [opA,qms] at h
  obtain ⟨d,hd,h⟩:=h
  simp only [qpj] at h
  obtain ⟨h1,_,_⟩:=h
  injection h1 with h1
  subst h1
  unfold constD at hd
  split at hd <;> try (injection hd with hd; cases hd)
  ·split at hd
   ·injection hd with hd; cases hd
   ·cases hd
  ·rfl
  ·cases hd
 | func f=>
  simp only [opA,qms,qpj] at h
  obtain ⟨k,hk,h1,_⟩:=h
  simp at h1
 | global f=>simp [opA] at h
 | tmp t=>
  simp only [opA] at h
  split at h
  ·split at h
   ·simp only [qms,qpj] at h
    obtain ⟨_,_,h1,_⟩:=h
    cases h1
   ·cases h
  ·cases h
theorem trRoot_sound {s:Operand} {α:A} {ks:List Nat} {ns:List Fact} (ht:trRoot cf st g s=some (α,ks,ns)) (h:At cf c F E a w vs Bs cnt g p sm) (hn:∀ f∈ns,f∈sm.needs) {xs:List D} (hx:ev E α=.l xs):
  ∃ B,Own c.fid w.heap (OB F Bs) c.Xb (.o .v) (.l xs) (a.eval s) B∧((ks=[]∧B=[])∨∃ n,ks=[n]∧α=.e n∧F (.en n (.o .v))∧B=Bs n):=by
 unfold trRoot at ht
 simp only [qbs] at ht
 obtain ⟨⟨α1,s1,n1⟩,h1,ht⟩:=ht
 simp only at ht
 split at ht
 ·rename_i n
  split at ht
  ·rename_i hs
   subst hs
   simp only [qsj,qpj] at ht
   obtain ⟨rfl,rfl,rfl⟩:=ht
   obtain ⟨B,hB,hn'⟩:=h.opA h1 hn
   obtain ⟨k1,k2,k3⟩:=hn' n rfl
   rw [hx] at hB
   exact ⟨B,hB,.inr ⟨n,rfl,rfl,k1,k3⟩⟩
  ·cases ht
 ·simp only [qsj,qpj] at ht
  obtain ⟨rfl,rfl,rfl⟩:=ht
  have hv:=nil_val (a:=a) h1
  simp only [ev] at hx
  injection hx with hx
  subst hx
  rw [hv]
  exact ⟨[],Own.nil,.inl ⟨rfl,rfl⟩⟩
 ·cases ht
theorem appD_spec {fl:Bool} {d1 d2 d:D} (h:appD fl d1 d2=some d):∃ xs ys,d1=.l xs∧d2=.l ys∧d=.l (xs++ys)∧xs.length+ys.length≤1099511627776∧ys.all D.one=true∧(fl=true→ys.all D.flat=true):=by
 unfold appD at h
 split at h
 ·rename_i xs ys
  by_cases hc:xs.length+ys.length≤big∧ys.all (if fl=true then D.flat else D.one)=true
  ·rw [if_pos hc] at h
   obtain ⟨h1,h2⟩:=hc
   injection h with h
   refine ⟨xs,ys,rfl,rfl,h.symm,h1,?_,?_⟩
   ·cases fl with
    | true=>exact all_flat_one (by simpa using h2)
    | false=>simpa using h2
   ·rintro rfl; simpa using h2
  ·rw [if_neg hc] at h; cases h
 ·cases h
theorem trAp_sound {t:TypeId} {s x:Operand} (ho:o.op=.call { callee:=.builtin .append,args:=#[s,x],argTypes:=#[t,t] }) (ht:trAp cf st cnt o g t s x=some (p,sm)) (h:At cf c F E a w vs Bs cnt g p sm) (hE:EvP K E cnt p):StepOK c o sm F E a w:=by
 unfold trAp at ht
 split at ht
 ·rename_i e ti hel
  split at ht
  ·rename_i hc
   obtain ⟨hz,hby,hin,hg⟩:=hc
   simp only [qbs] at ht
   obtain ⟨⟨α,ks,n1⟩,h1,⟨β,s2,n2⟩,h2,ht⟩:=ht
   simp only at ht
   split at ht
   ·rename_i hc2
    obtain ⟨hnk,hs2⟩:=hc2
    simp only [qsj,qpj] at ht
    obtain ⟨rfl,rfl⟩:=ht
    have hE':appD (s2 == .y) (ev E α) (ev E β)=some (E cnt):=hE
    obtain ⟨xs,ys,e1,e2,e3,e4,e5,e6⟩:=appD_spec hE'
    obtain ⟨B,hB,hks⟩:=trRoot_sound h1 h (fun f hf=>qal _ hf) e1
    obtain ⟨B2,hB2,hn2⟩:=h.opA h2 (fun f hf=>qar _ hf)
    rw [e2] at hB2
    obtain ⟨olds,hrow,hol,hro⟩:=hB.olds
    have hlt:∀ n s,F (.en n s)→∀ b∈Bs n,b<w.heap.size:=fun n s hs=>Own.blocks_lt s _ _ _ (h.H.own n s hs)
    have hBO:∀ b∈B,OB F Bs b:=by
     intro b hb
     rcases hks with ⟨_,rfl⟩ | ⟨n,_,_,hn,rfl⟩
     ·simp at hb
     ·exact ⟨n,_,hn,hb⟩
    -- the elements that come
    obtain ⟨news,hnv,hnl,hnr⟩:∃ news:List Value,(((∃ ad,a.eval x=.slice ad 0 0)∧news=[])∨∃ b off cap cs e fz,a.eval x=.slice (some ⟨b,off,none⟩) news.length cap∧b∉B∧w.heap[b]?=some (.cells cs e fz)∧∀ (j:Nat) (u:Value),news[j]?=some u→cs[off+j]?=some u)∧
      news.length=ys.length∧RdL c.fid w.heap (fun b=>OB F Bs b∨c.Xb b) ys news:=by
     rcases hs2 with hs2 | hs2 | hs2
     ·subst hs2
      simp only [Own] at hB2
      obtain ⟨news,k1,k2,k3⟩:=hB2.2.news
      refine ⟨news,?_,k2,k3⟩
      rcases k1 with k1 | ⟨b,off,cap,cs,e,fz,q1,q2,q3,q4⟩
      ·exact .inl k1
      ·exact .inr ⟨b,off,cap,cs,e,fz,q1,fun hb=>q2 (.inl (hBO b hb)),q3,q4⟩
     ·subst hs2
      obtain ⟨news,k1,k2,k3⟩:=hB2.olds
      refine ⟨news,?_,k2,k3⟩
      rcases k1 with ⟨q1,q2,_⟩ | ⟨b,off,cap,cs,e,q0,q1,q2,_,_,q4⟩
      ·exact .inl ⟨⟨_,q1⟩,q2⟩
      ·refine .inr ⟨b,off,cap,cs,e,_,q1,fun hb=>?_,q2,q4⟩
       cases hβ:β with
       | c d=>
        subst hβ
        have:=opA_const h2
        cases x with
        | const v=>
         simp only [opA,qms,qpj] at h2
         obtain ⟨_,_,_,q,_⟩:=h2; cases q
        | func v=>
         simp only [opA,qms,qpj] at h2
         obtain ⟨_,_,_,q,_⟩:=h2; cases q
        | global v=>simp [opA] at h2
        | tmp t=>
         simp only [opA] at h2
         split at h2
         ·split at h2
          ·simp only [qms,qpj] at h2
           obtain ⟨_,_,q,_⟩:=h2; cases q
          ·cases h2
         ·cases h2
       | e m=>
        obtain ⟨m1,m2,m3⟩:=hn2 m hβ
        rcases hks with ⟨_,rfl⟩ | ⟨n,rfl,_,hn,rfl⟩
        ·simp at hb
        ·have hne:m≠n:=by
          rintro rfl
          rw [hβ] at hnk
          simp [notKilled] at hnk
         have hbm:b∈Bs m:=by rw [← m3,q0]; simp
         exact h.H.apart m _ n _ m1 hn hne b hbm hb
     ·subst hs2
      simp only [Own] at hB2
      obtain ⟨news,k1,k2,k3⟩:=hB2.2.news
      refine ⟨news,?_,k2,RdL.flat (e6 rfl) k3⟩
      rcases k1 with k1 | ⟨b,off,cap,cs,e,fz,q1,q2,q3,q4⟩
      ·exact .inl k1
      ·exact .inr ⟨b,off,cap,cs,e,fz,q1,fun hb=>q2 (hBO b hb),q3,q4⟩
    have hP:c.P=cf.P:=h.fits.P
    unfold zeroOne at hz
    split at hz
    ·rename_i z hzz
     have hrow':=hrow
     unfold RowOf at hrow'
     obtain ⟨v',w',hr,w1,w2,w3,hres⟩:=run_app (P:=c.P) (w:=w) (ty:=o.type) (hP ▸ hel) hzz (cells_one hz) hby (olds:=olds) (news:=news) (sv:=a.eval s) (xv:=a.eval x)
      (by
       rcases hrow' with ⟨q1,q2,_⟩ | ⟨b,off,cap,cs,e,_,q1,q2,q3,q4,q5⟩
       ·exact .inl ⟨q1,q2⟩
       ·exact .inr ⟨b,off,cap,cs,e,q1,q2,q3,q4,q5⟩)
      (by
       rcases hnv with q | ⟨b,off,cap,cs,e,fz,q1,_,q3,q4⟩
       ·exact .inl q
       ·exact .inr ⟨b,off,cap,q1,fun j v hj=>by simp [World.cell?,q3,q4 j v hj]⟩)
      (RdL.one e5 hnl hnr) (by rw [hol,hnl]; exact e4)
     have hrun:(execOp a.eval o).run c.P w=.ok (.value v') w':=by
      rw [exec_builtin ho]
      show (Bind.bind (Builtin.append_ #[t,t] o.type (#[s,x].map a.eval)) _).run c.P w=_
      refine run_v ?_
      simpa using hr
     have hall:=RdL.append hol hro hnr
     have hlen:(xs++ys).length=olds.length+news.length:=by simp [hol,hnl]
     have hin':inB o.dst c.nt=true:=by rw [h.fits.nt]; exact hin
     have hfr:Fresh F cnt:=by simpa using h.fresh 0 (by simp [Pr.np])
     have hkb:∀ b∈B,∃ n r,F (.en n r)∧n∈ks∧b∈Bs n:=by
      intro b hb
      rcases hks with ⟨_,rfl⟩ | ⟨n,rfl,_,hn,rfl⟩
      ·simp at hb
      ·exact ⟨n,_,hn,by simp,hb⟩
     have hOk:∀ N:Nat→Prop,(∀ b,b<w.heap.size→N b→b∈B)→∀ b,b<w.heap.size→((OBk F Bs (fun n=>n∈ks) b∨N b)∨c.Xb b)→(OB F Bs b∨c.Xb b):=by
      rintro N hN b hb ((⟨n,s,q1,_,q3⟩ | q) | q)
      ·exact .inl ⟨n,s,q1,q3⟩
      ·exact .inl (hBO b (hN b hb q))
      ·exact .inr q
     rcases hres with ⟨rfl,q1,q2,q3⟩ | ⟨gb,off,cap,cs,e',cs',q1,q2,rfl,q4,q5,q6,q7,q8,q9⟩ | ⟨cap,cs',rfl,q4,q5,q6,q9⟩
     · -- nil stays nil
      refine StepOK.of_value hrun ⟨upd vs cnt (.slice none 0 0),upd Bs cnt [],?_⟩
      refine h.H.put hfr hin' ks (by rw [q3]; exact Agr.refl _ _) w1 w2 w3 ?_ (by simp) (by simp) h.g
      rw [e3]
      have hx0:xs=[]:=qez (by rw [← hol,q1]; rfl)
      have hy0:ys=[]:=qez (by rw [← hnl,q2]; rfl)
      subst hx0 hy0
      exact Own.nil
     · -- in place
      have hBg:B=[gb]:=by
       rcases hrow with ⟨r1,_,_⟩ | ⟨b,off2,cap2,cs2,e2',r0,r1,r2,r3,r4,r5⟩
       ·rw [q1] at r1; cases r1
       ·rw [q1] at r1
        injection r1 with r1 _ _
        injection r1 with r1
        injection r1 with r1 _ _
        rw [r0,r1]
      have hoc:off+cap≤cs.size:=by
       rcases hrow with ⟨r1,_,_⟩ | ⟨b,off2,cap2,cs2,e2',r0,r1,r2,r3,r4,r5⟩
       ·rw [q1] at r1; cases r1
       ·rw [q1] at r1
        injection r1 with r1 _ r1c
        injection r1 with r1
        injection r1 with r1 r1o _
        subst r1 r1c r1o
        rw [q2] at r2
        injection r2 with r2
        injection r2 with r2 _ _
        subst r2
        exact r4
      have hagr:Agr (fun b=>b=gb) w.heap w'.heap:=⟨by rw [q8]; exact Nat.le_refl _,fun b _ hb=>q7 b hb⟩
      refine StepOK.of_value hrun ⟨upd vs cnt (.slice (some ⟨gb,off,none⟩) (olds.length+news.length) cap),upd Bs cnt [gb],?_⟩
      refine h.H.put hfr hin' ks (hagr.mono fun b _ hb=>?_) w1 w2 w3 ?_ (by simp) (fun b hb=>.inl (hkb b (by rw [hBg]; exact hb))) h.g
      ·subst hb; exact hkb b (by rw [hBg]; simp)
      ·rw [e3]
       simp only [Own]
       refine .inr ⟨_,rfl,.inr ⟨gb,off,cap,cs',e',(0,0),[],rfl,by rw [hlen],q6,rfl,by rw [hlen]; exact q4,by rw [q5]; exact hoc,by rw [hlen]; omega,eachV.2 ⟨rfl,?_⟩⟩⟩
       refine RdL.ext (S:=fun b=>b=gb) (Z:=fun b=>OB F Bs b∨c.Xb b) hagr (fun b _ hb=>.inl (hBO b (by rw [hBg,hb]; simp))) (hOk _ fun b _ hb=>by rw [hBg]; exact hb) _ _ ?_
       refine RdL.congr (fun j v hj=>?_) hall
       rw [drop_get]; exact q9 j v hj
     · -- a new block
      have hagr:Agr (fun _=>False) w.heap w'.heap:=by rw [q6]; exact Agr.push _ _
      have hnewb:w'.heap[w.heap.size]?=some (.cells cs' e (0,0)):=by rw [q6]; simp
      refine StepOK.of_value hrun ⟨upd vs cnt (.slice (some ⟨w.heap.size,0,none⟩) (olds.length+news.length) cap),upd Bs cnt [w.heap.size],?_⟩
      refine h.H.put hfr hin' ks (hagr.mono fun _ _ q=>q.elim) w1 w2 w3 ?_ (by simp) (fun b hb=>.inr (by simp at hb; omega)) h.g
      rw [e3]
      simp only [Own]
      refine .inr ⟨_,rfl,.inr ⟨w.heap.size,0,cap,cs',e,(0,0),[],rfl,by rw [hlen],hnewb,rfl,by rw [hlen]; exact q4,by omega,by rw [hlen]; omega,eachV.2 ⟨rfl,?_⟩⟩⟩
      refine RdL.ext (S:=fun _=>False) (Z:=fun b=>OB F Bs b∨c.Xb b) hagr (fun _ _ q=>q.elim) (hOk _ fun b hb q=>by simp at q; omega) _ _ ?_
      refine RdL.congr (fun j v hj=>?_) hall
      rw [drop_get,Nat.zero_add]; exact q9 j v hj
    ·cases hz
   ·cases ht
  ·cases ht
 ·cases ht
end
end Go.Cat
namespace Go.Cat
theorem Each.upd {R:D→Value→List Nat→Prop}:∀ {ds:List D} {vs:List Value} {B:List Nat} {i:Nat} {d:D} {v:Value},Each R ds vs B→ds[i]?=some d→vs[i]?=some v→
  ∃ Bi B1 B2,B=B1++(Bi++B2)∧R d v Bi∧∀ (R':D→Value→List Nat→Prop) (x:D) (u:Value) (Bx:List Nat),(∀ d v B',(∀ k∈B',k∈B1∨k∈B2)→R d v B'→R' d v B')→R' x u Bx→
   Each R' (ds.set i x) (vs.set i u) (B1++(Bx++B2))
 | [],_,_,_,_,_,_,h,_=>by simp at h
 | _::_,[],_,_,_,_,_,_,h=>by simp at h
 | d0::ds,v0::vs,B,0,d,v,r,h1,h2=>by
  simp only [Each] at r
  obtain ⟨Bi,B2,rfl,r1,r2⟩:=r
  simp at h1 h2
  subst h1 h2
  refine ⟨Bi,[],B2,rfl,r1,fun R' x u Bx hR hx=>?_⟩
  simp only [List.set_cons_zero,Each,List.nil_append]
  exact ⟨Bx,B2,rfl,hx,Each.imp (fun d v B' hB q=>hR d v B' (fun k hk=>.inr (hB k hk)) q) r2⟩
 | d0::ds,v0::vs,B,i+1,d,v,r,h1,h2=>by
  simp only [Each] at r
  obtain ⟨B0,B3,rfl,r1,r2⟩:=r
  obtain ⟨Bi,B1,B2,rfl,q1,q2⟩:=Each.upd r2 (by simpa using h1) (by simpa using h2)
  refine ⟨Bi,B0++B1,B2,by simp,q1,fun R' x u Bx hR hx=>?_⟩
  simp only [List.set_cons_succ,Each]
  refine ⟨B0,B1++(Bx++B2),by simp,hR _ _ _ (fun k hk=>.inl (qal _ hk)) r1,?_⟩
  exact q2 R' x u Bx (fun d v B' hB q=>hR d v B' (fun k hk=>(hB k hk).imp (fun q=>qar _ q) id) q) hx
theorem List.set_getElem?_self' {l:List Value} {i:Nat} {z:Value} (h:l[i]?=some z):l.set i z=l:=by
 apply List.ext_getElem?
 intro j
 rw [List.getElem?_set]
 split
 ·rename_i hij
  subst hij
  split
  ·exact h.symm
  ·rename_i hlt
   rw [qgn (by omega)]
 ·rfl
theorem Own.setRow {fid:Nat→Nat} {h h':Array Obj} {O O' X:Nat→Prop} {gb go:Nat} {u:Value} {gcs:Array Value} {ge:TypeId}
  (ha:∀ b,b≠gb→h'[b]?=h[b]?) (hsz:h'.size=h.size) (hg:h[gb]?=some (.cells gcs ge (0,0))) (hg':h'[gb]?=some (.cells (gcs.setIfInBounds go u) ge (0,0)))
  (hgO:O gb) (hO:∀ b,b<h.size→O' b→O b) {es s:Sh} {x:D} {Bx:List Nat} (hx:Own fid h' O' X es x u Bx) {is:List Nat} {b off i:Nat} {cs:Array Value} {e:TypeId} {xs:List D} {B':List Nat} {d1 d1':D} {y z:Value}
  (hb:h[b]?=some (.cells cs e (0,0))) (he:Each (Own fid h O X s) xs (cs.toList.drop off) B') (hnd:(b::B').Nodup) (hdis:∀ k∈b::B',k∉Bx) (hbx:Bx.Nodup) (hs:s.under is.length=some es)
  (hxi:xs[i]?=some d1) (hset:setP is d1 x=some d1') (hz:cs[off+i]?=some z) (hw:(is=[]∧gb=b∧go=off+i∧y=z)∨(is≠[]∧Wk h is z gb go y))
  (ih:is≠[]→∀ Bi,Own fid h O X s d1 z Bi→Bi.Nodup→(∀ k∈Bi,k∉Bx)→Wk h is z gb go y→∃ B',Own fid h' O' X s d1' z B'∧(∀ k∈B',k∈Bi∨k∈Bx)∧B'.Nodup∧gb∈Bi):
  ∃ cs' B2,h'[b]?=some (.cells cs' e (0,0))∧cs'.size=cs.size∧Each (Own fid h' O' X s) (xs.set i d1') (cs'.toList.drop off) B2∧(∀ k∈b::B2,k∈b::B'∨k∈Bx)∧(b::B2).Nodup∧gb∈b::B':=by
 have hzl:(cs.toList.drop off)[i]?=some z:=by rw [drop_get]; exact hz
 obtain ⟨Bi,B1,B2,rfl,r1,r2⟩:=Each.upd he hxi hzl
 have hnd':=(List.nodup_cons.1 hnd).2
 have hnb:=(List.nodup_cons.1 hnd).1
 obtain ⟨n1,n23,n4⟩:=List.nodup_append.1 hnd'
 obtain ⟨n2,n3,n5⟩:=List.nodup_append.1 n23
 have hagr:Agr (fun b=>b=gb) h h':=⟨by rw [hsz]; exact Nat.le_refl _,fun b _ hb=>ha b hb⟩
 have htr:(∀ k,k∈B1∨k∈B2→k≠gb)→∀ d v B',(∀ k∈B',k∈B1∨k∈B2)→Own fid h O X s d v B'→Own fid h' O' X s d v B':=by
  intro hk d v B' hB q
  exact Own.ext hagr (fun b _ hb=>by rw [hb]; exact hgO) hO s d v B' (fun b hb e=>hk b (hB b hb) e) q
 by_cases hn:is=[]
 ·subst hn
  rcases hw with ⟨_,rfl,rfl,rfl⟩ | ⟨hne,_⟩
  ·simp only [qln,Sh.under,qsj] at hs
   subst hs
   simp only [setP,qsj] at hset
   subst hset
   rw [hb] at hg
   injection hg with hg
   injection hg with g1 g2 _
   subst g1 g2
   have hkb:∀ k,k∈B1∨k∈B2→k≠gb:=by
    rintro k hk rfl
    exact hnb (by rcases hk with hk | hk <;> simp [hk])
   have hE:=r2 (Own fid h' O' X s) x u Bx (htr hkb) hx
   refine ⟨_,B1++(Bx++B2),hg',by simp,?_,?_,?_,by simp⟩
   ·have:(cs.setIfInBounds (off+i) u).toList.drop off=(cs.toList.drop off).set i u:=by
     rw [Array.toList_setIfInBounds,List.drop_set,if_neg (by omega),Nat.add_sub_cancel_left]
    rw [this]
    exact hE
   ·intro k hk
    simp only [qmn,qma] at hk ⊢
    rcases hk with hk | hk | hk | hk
    ·exact .inl (.inl hk)
    ·exact .inl (.inr (.inl hk))
    ·exact .inr hk
    ·exact .inl (.inr (.inr (.inr hk)))
   ·refine List.nodup_cons.2 ⟨fun q=>?_,List.nodup_append.2 ⟨n1,List.nodup_append.2 ⟨hbx,n3,fun a ha b hb=>?_⟩,fun a ha b hb=>?_⟩⟩
    ·simp only [qma] at q
     rcases q with q | q | q
     ·exact hnb (by simp [q])
     ·exact hdis gb (by simp) q
     ·exact hnb (by simp [q])
    ·rintro rfl; exact hdis a (by simp [hb]) ha
    ·rintro rfl
     simp only [qma] at hb
     rcases hb with hb | hb
     ·exact hdis a (by simp [ha]) hb
     ·exact n4 a ha a (by simp [hb]) rfl
  ·exact (hne rfl).elim
 ·rcases hw with ⟨q,_⟩ | ⟨_,hw⟩
  ·exact (hn q).elim
  obtain ⟨Bn,w1,w2,w3,w4⟩:=ih hn Bi r1 n2 (fun k hk=>hdis k (by simp [hk])) hw
  have hbgb:b≠gb:=by rintro rfl; exact hnb (by simp [w4])
  have hkb:∀ k,k∈B1∨k∈B2→k≠gb:=by
   rintro k hk rfl
   rcases hk with hk | hk
   ·exact n4 k hk k (by simp [w4]) rfl
   ·exact n5 k w4 k hk rfl
  have hE:=r2 (Own fid h' O' X s) d1' z Bn (htr hkb) w1
  refine ⟨cs,B1++(Bn++B2),(ha b hbgb).trans hb,rfl,?_,?_,?_,by simp [w4]⟩
  ·have hself:(cs.toList.drop off).set i z=cs.toList.drop off:=List.set_getElem?_self' hzl
   rw [hself] at hE
   exact hE
  ·intro k hk
   simp only [qmn,qma] at hk ⊢
   rcases hk with hk | hk | hk | hk
   ·exact .inl (.inl hk)
   ·exact .inl (.inr (.inl hk))
   ·exact (w2 k hk).imp (fun q=>.inr (.inr (.inl q))) id
   ·exact .inl (.inr (.inr (.inr hk)))
  ·refine List.nodup_cons.2 ⟨fun q=>?_,List.nodup_append.2 ⟨n1,List.nodup_append.2 ⟨w3,n3,fun a ha' b' hb'=>?_⟩,fun a ha' b' hb'=>?_⟩⟩
   ·simp only [qma] at q
    rcases q with q | q | q
    ·exact hnb (by simp [q])
    ·rcases w2 _ q with q | q
     ·exact hnb (by simp [q])
     ·exact hdis b (by simp) q
    ·exact hnb (by simp [q])
   ·rintro rfl
    rcases w2 _ ha' with q | q
    ·exact n5 a q a hb' rfl
    ·exact hdis a (by simp [hb']) q
   ·rintro rfl
    simp only [qma] at hb'
    rcases hb' with hb' | hb'
    ·rcases w2 _ hb' with q | q
     ·exact n4 a ha' a (by simp [q]) rfl
     ·exact hdis a (by simp [ha']) q
    ·exact n4 a ha' a (by simp [hb']) rfl
theorem Own.set {fid:Nat→Nat} {h h':Array Obj} {O O' X:Nat→Prop} {gb go:Nat} {u:Value} {gcs:Array Value} {ge:TypeId}
  (ha:∀ b,b≠gb→h'[b]?=h[b]?) (hsz:h'.size=h.size) (hg:h[gb]?=some (.cells gcs ge (0,0))) (hg':h'[gb]?=some (.cells (gcs.setIfInBounds go u) ge (0,0)))
  (hgO:O gb) (hO:∀ b,b<h.size→O' b→O b) {es:Sh} {x:D} {Bx:List Nat} (hx:Own fid h' O' X es x u Bx):
  ∀ (is:List Nat) (s:Sh) (d d':D) (v y:Value) (B:List Nat),is≠[]→Own fid h O X s d v B→B.Nodup→(∀ k∈B,k∉Bx)→Bx.Nodup→s.under is.length=some es→setP is d x=some d'→Wk h is v gb go y→
  ∃ B',Own fid h' O' X s d' v B'∧(∀ k∈B',k∈B∨k∈Bx)∧B'.Nodup∧gb∈B
 | [],_,_,_,_,_,_,hne=>(hne rfl).elim
 | i::is,s,d,d',v,y,B,_=>fun r hnd hdis hbx hs hset hw=>by
  cases s with
  | v=>simp [Sh.under] at hs
  | y=>simp [Sh.under] at hs
  | a s=>simp [Sh.under] at hs
  | b s=>
   simp only [qlc,Sh.under] at hs
   simp only [Own] at r
   obtain ⟨xs,b,cs,e,fz,B',rfl,rfl,rfl,hb,ht,hl,he⟩:=r
   simp only [setP,qms,qbs] at hset
   obtain ⟨d1',⟨d1,hxi,hset⟩,rfl⟩:=hset
   simp only [Wk] at hw
   obtain ⟨b2,o2,cs2,e2,fz2,z,hv,hb2,hz,hw⟩:=hw
   obtain ⟨q1,q2⟩:=hv.box
   subst q1 q2
   rw [hb] at hb2
   injection hb2 with hb2
   injection hb2 with q5 q6 q7
   subst q5
   have hfz:fz=(0,0):=ht
   subst hfz
   obtain ⟨cs',B2,k1,k2,k3,k4,k5,k6⟩:=Own.setRow (off:=0) (i:=o2) (y:=y) ha hsz hg hg' hgO hO hx hb (by simpa using he) hnd hdis hbx hs hxi hset (by simpa using hz) (by simpa using hw)
    (fun hn Bi r1 n2 hd hw=>Own.set ha hsz hg hg' hgO hO hx is s d1 d1' z y Bi hn r1 n2 hd hbx hs hset hw)
   refine ⟨b2::B2,?_,k4,k5,k6⟩
   simp only [Own]
   exact ⟨_,b2,cs',e,(0,0),B2,rfl,rfl,rfl,k1,rfl,by simp [k2,hl],by simpa using k3⟩
  | o s=>
   simp only [qlc,Sh.under] at hs
   cases d with
   | l xs=>
    simp only [setP,qms,qbs] at hset
    obtain ⟨d1',⟨d1,hxi,hset⟩,rfl⟩:=hset
    simp only [Own] at r
    rcases r with ⟨q | q,_⟩ | ⟨ys,hy,r⟩
    ·cases q
    ·simp [D.flat] at q
    injection hy with hy; subst hy
    rcases r with ⟨_,rfl,_⟩ | ⟨b,off,cap,cs,e,fz,B',rfl,rfl,hb,ht,h1,h2,h3,he⟩
    ·simp at hxi
    simp only [Wk] at hw
    obtain ⟨b2,o2,cs2,e2,fz2,z,hv,hb2,hz,hw⟩:=hw
    obtain ⟨q1,hil,q2⟩:=hv.slice
    subst q1 q2
    rw [hb] at hb2
    injection hb2 with hb2
    injection hb2 with q5 q6 q7
    subst q5
    have hfz:fz=(0,0):=ht
    subst hfz
    obtain ⟨cs',B2,k1,k2,k3,k4,k5,k6⟩:=Own.setRow (y:=y) ha hsz hg hg' hgO hO hx hb he hnd hdis hbx hs hxi hset hz hw
     (fun hn Bi r1 n2 hd hw=>Own.set ha hsz hg hg' hgO hO hx is s d1 d1' z y Bi hn r1 n2 hd hbx hs hset hw)
    refine ⟨b2::B2,?_,k4,k5,k6⟩
    simp only [Own]
    exact .inr ⟨_,rfl,.inr ⟨b2,off,cap,cs',e,(0,0),B2,rfl,by simp,k1,rfl,by simpa using h1,by rw [k2]; exact h2,by simpa using h3,k3⟩⟩
   | g xs=>
    simp only [Own] at r
    rcases r with ⟨q | q,_⟩ | ⟨ys,hy,r⟩
    ·cases q
    ·simp [D.flat] at q
    ·cases hy
   | _=>simp [setP] at hset
end Go.Cat
