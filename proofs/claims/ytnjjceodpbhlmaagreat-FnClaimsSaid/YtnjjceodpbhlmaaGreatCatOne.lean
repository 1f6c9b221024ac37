/-
 The little language of plain data: values, operations over entries, statements, and what they compute.
 Nothing here speaks of memory: slices are lists. The tie to the model lies in CatSound.
-/
import Derived.Orders
import Derived.KernelRfl
import Derived.Laws.Sem
import Derived.Laws.Strings
import Derived.Laws.OwnMore
import Derived.Great.BuildSlice
set_option linter.unusedSimpArgs false
set_option linter.unusedVariables false
namespace Go.Cat
theorem AJ:type_of% (@Option.some.injEq):=@Option.some.injEq
theorem AQ:type_of% (@Option.bind_eq_some_iff):=@Option.bind_eq_some_iff
theorem AI:type_of% (@Prod.mk.injEq):=@Prod.mk.injEq
theorem A7:type_of% (@Option.map_eq_some_iff):=@Option.map_eq_some_iff
theorem BP:type_of% (@List.getD_eq_getElem?_getD):=@List.getD_eq_getElem?_getD
theorem A6:type_of% (@List.length_cons):=@List.length_cons
theorem Ak:type_of% (@List.mem_append_right):=@List.mem_append_right
theorem Ac:type_of% (@Bool.and_eq_true):=@Bool.and_eq_true
theorem Ay:type_of% (@List.mem_append_left):=@List.mem_append_left
theorem BC:type_of% (@List.mem_cons_of_mem):=@List.mem_cons_of_mem
theorem Ad:type_of% (@List.length_append):=@List.length_append
theorem Aj:type_of% (@decide_eq_true_eq):=@decide_eq_true_eq
theorem Bp:type_of% (@Array.getD_eq_getD_getElem?):=@Array.getD_eq_getD_getElem?
theorem Aq:type_of% (@List.length_nil):=@List.length_nil
theorem A5:type_of% (@List.mem_cons):=@List.mem_cons
theorem FX:type_of% (@List.eq_nil_of_length_eq_zero):=@List.eq_nil_of_length_eq_zero
theorem Fa:type_of% (@Int.eq_ofNat_of_zero_le):=@Int.eq_ofNat_of_zero_le
theorem A8:type_of% (@List.mem_append):=@List.mem_append
theorem ED:type_of% (@List.take_succ_eq_append_getElem):=@List.take_succ_eq_append_getElem
theorem Dd:type_of% (@List.getElem?_eq_none):=@List.getElem?_eq_none
theorem Dv:type_of% (@Int.add_sub_cancel):=@Int.add_sub_cancel
theorem BD:type_of% (@List.all_eq_true):=@List.all_eq_true
theorem D4:type_of% (@List.getElem?_append_left):=@List.getElem?_append_left
theorem CC:type_of% (@Nat.lt_or_ge):=@Nat.lt_or_ge
theorem CB:type_of% (@Int.toNat_natCast):=@Int.toNat_natCast
theorem Bw:type_of% (@List.append_assoc):=@List.append_assoc
theorem GC:type_of% (@List.getElem?_eq_getElem):=@List.getElem?_eq_getElem
theorem FI:type_of% (@List.getElem?_append_right):=@List.getElem?_append_right
theorem Cg:type_of% (@List.not_mem_nil):=@List.not_mem_nil
theorem GR:type_of% (@Bool.false_eq_true):=@Bool.false_eq_true
inductive D where
 | u
 | i (k:IntKind) (n:Int)
 | b (x:Bool)
 | s (x:List Nat)
 | l (xs:List D)
 | g (xs:List D)
 | z
 | p (xs:List D)
 | f (fn:Nat) (caps:List D)
instance:Inhabited D:=⟨.u⟩
abbrev D.n (x:Int):D:=.i .i64 x
abbrev D.y (x:Nat):D:=.i .u8 x
inductive Sh where
 | v
 | y
 | o (s:Sh)
 | b (s:Sh)
 | a (s:Sh)
 | m
 deriving DecidableEq
inductive A where
 | e (n:Nat)
 | c (d:D)
inductive PE where
 | e (n:Nat)
 | k (n:Nat)
 deriving DecidableEq
inductive Pr where
 | nop
 | cs (s:Sh) (d:D)
 | cy (a:A)
 | bi (op:BinOp) (a b:A)
 | bb (op:BinOp) (a b:A)
 | un (op:UnOp) (a:A)
 | pk (c a b:A)
 | cv (k:IntKind) (a:A)
 | ln (a:A) (p:List PE)
 | sn (a:A)
 | sx (a i:A)
 | ss (a:A) (lo hi:Option A)
 | ix (a:A) (p:List PE) (i:A)
 | up (n:Nat) (p:List PE) (a:A)
 | sb (fz:Bool) (a:A) (lo hi:Option A)
 | ap (fl:Bool) (a b:A)
 | mk (d:D) (n c:A)
 | li (s:Sh) (xs:List A)
 | ca (g:Nat) (xs:List A) (r:Nat)
 | cd (f:A) (g:Nat) (xs:List A) (r:Nat)
 | bs (a:A)
 | sy (a:A)
 | mx (a b:A)
 | mn (a b:A)
 | iy (a i:A)
 | bg (k:Nat) (xs:List (A×Nat))
 | bp (a:A)
 | gp (a:A) (k:Nat)
 | nz (want:Bool) (a:A)
 | nn (a:A)
 | wl (k:Nat) (a:A)
 | ws (n k:Nat) (a:A)
 | gt (a:A) (p:List PE)
 | fp (fl:Bool) (a:A) (k:Nat)
 | uq (n:Nat) (p:List PE) (a:A) (i k:Nat)
 | tk (n:Nat)
 | cb (n:Nat)
 | sp (n:Nat) (p:List PE) (k:Nat)
 | sw (n:Nat)
 | jn (n:Nat) (p:List PE) (a:A) (k:Nat)
 | mm
 | mu (n:Nat) (k v:A)
 | mg (n:Nat) (k:A) (d:D)
 | mo (n:Nat) (k:A) (d:D)
structure It where
 z:List (Option Nat):=[]
 g:List (Nat×Bool):=[]
 p:Pr
inductive X where
 | n
 | ex (id:Nat)
 | r
inductive S where
 | skip
 | reg (its:List It) (out:List (Option Nat))
 | seq (a b:S)
 | cond (n:Nat) (x y:S)
 | block (id:Nat) (b:S)
 | loop (b:S)
 | exit (id:Nat)
 | ret
abbrev Env:=List D
def ev (E:Nat→D):A→D
 | .e n=>E n
 | .c d=>d
def PE.ev (E:Nat→D):PE→Option Nat
 | .k n=>some n
 | .e n=>match E n with
  | .i _ z=>if 0≤z then some z.toNat else none
  | _=>none
def D5 (op:BinOp) (k:IntKind) (a b:Int):Option D:=
 match op with
 | .add=>some (.i k (k.wrap (a+b)))
 | .sub=>some (.i k (k.wrap (a-b)))
 | .mul=>some (.i k (k.wrap (a*b)))
 | .quo=>if b=0 then none else some (.i k (k.wrap (a.tdiv b)))
 | .rem=>if b=0 then none else some (.i k (a.tmod b))
 | .eql=>some (.b (a == b))
 | .neq=>some (.b (a != b))
 | .lss=>some (.b (decide (a<b)))
 | .leq=>some (.b (decide (a≤b)))
 | .gtr=>some (.b (decide (a > b)))
 | .geq=>some (.b (decide (a≥b)))
 | .and=>some (.i k (k.wrap (BitVec.ofInt k.bits a &&& BitVec.ofInt k.bits b).toNat))
 | .or=>some (.i k (k.wrap (BitVec.ofInt k.bits a ||| BitVec.ofInt k.bits b).toNat))
 | .xor=>some (.i k (k.wrap (BitVec.ofInt k.bits a ^^^ BitVec.ofInt k.bits b).toNat))
 | _=>none
def JD:List Nat→List Nat→Bool
 | _,[]=>false
 | [],_::_=>true
 | a::x,b::y=>decide (a<b) || (a == b&&JD x y)
def FG:Nat:=1099511627776
def KZ (op:BinOp) (a b:List Nat):Option D:=
 match op with
 | .add=>if a.length+b.length≤FG then some (.s (a++b)) else none
 | .eql=>some (.b (a == b))
 | .neq=>some (.b (!(a == b)))
 | .lss=>some (.b (JD a b))
 | .leq=>some (.b (JD a b || a == b))
 | .gtr=>some (.b (!(JD a b || a == b)))
 | .geq=>some (.b (!(JD a b)))
 | _=>none
def BV (op:BinOp):D→D→Option D
 | .i k a,.i k' b=>
  match op with
  | .shl=>if b<0 then none else some (.i k (k.wrap (a*2 ^ (min b.toNat k.bits))))
  | .shr=>if b<0 then none else some (.i k (a.fdiv (2 ^ (min b.toNat k.bits))))
  | _=>if k=k' then D5 op k a b else none
 | .s a,.s b=>KZ op a b
 | _,_=>none
def Fe (op:BinOp):D→D→Option D
 | .b a,.b b=>match op with
  | .eql=>some (.b (a == b))
  | .neq=>some (.b (!(a == b)))
  | _=>none
 | _,_=>none
def J9 (op:UnOp):D→Option D
 | .b x=>match op with
  | .not=>some (.b (!x))
  | _=>none
 | .i k n=>match op with
  | .neg=>some (.i k (k.wrap (0-n)))
  | _=>none
 | _=>none
def D.isU:D→Bool
 | .u=>true
 | _=>false
def known (d:D):Option D:=if d.isU then none else some d
def Cn:D→D→Option D
 | .l xs,.i _ n=>if 0≤n then xs[n.toNat]?.bind known else none
 | _,_=>none
def JV (k:Nat):D→Option D
 | .p xs=>xs[k]?.bind known
 | _=>none
def Jr:D→D→Option D
 | .s x,.i _ n=>if 0≤n then x[n.toNat]?.map D.y else none
 | _,_=>none
def A9:List Nat→D→Option D
 | [],d=>some d
 | i::is,.l xs=>xs[i]?.bind (A9 is)
 | i::is,.g xs=>xs[i]?.bind (A9 is)
 | _::_,_=>none
def Aa:List Nat→D→D→Option D
 | [],_,d=>some d
 | i::is,.l xs,d=>(xs[i]?.bind fun x=>Aa is x d).map fun x'=>.l (xs.set i x')
 | i::is,.g xs,d=>(xs[i]?.bind fun x=>Aa is x d).map fun x'=>.g (xs.set i x')
 | _::_,_,_=>none
def E4:D→Option D
 | .l xs=>some (.n xs.length)
 | _=>none
def LX:D→Option D
 | .s x=>some (.n x.length)
 | _=>none
def bound (d:Option D) (deflt:Nat):Option Nat:=
 match d with
 | none=>some deflt
 | some (.i _ n)=>if 0≤n then some n.toNat else none
 | _=>none
def Fg (a:D) (lo hi:Option D):Option D:=
 match a with
 | .s x=>match bound lo 0,bound hi x.length with
  | some l,some h=>if l≤h∧h≤x.length then some (.s ((x.take h).drop l)) else none
  | _,_=>none
 | _=>none
def De (a:D) (lo hi:Option D):Option D:=
 match a with
 | .l xs=>match bound lo 0,bound hi xs.length with
  | some l,some h=>if l≤h∧h≤xs.length then some (.l ((xs.take h).drop l)) else none
  | _,_=>none
 | _=>none
def D.one:D→Bool
 | .u=>false
 | .g _=>false
 | _=>true
def D.flat:D→Bool
 | .i _ _=>true
 | .b _=>true
 | .s _=>true
 | _=>false
def DQ (fl:Bool):D→D→Option D
 | .l xs,.l ys=>if xs.length+ys.length≤FG∧ys.all (if fl=true then D.flat else D.one)=true then some (.l (xs++ys)) else none
 | _,_=>none
def Fu (d:D):D→D→Option D
 | .i _ n,.i _ c=>if 0≤n∧n≤c∧c≤(FG:Int) then some (.l (List.replicate n.toNat d)) else none
 | _,_=>none
def Iy:D→Option Bool
 | .z=>some true
 | .p _=>some false
 | _=>none
def LV:D→Option D
 | .p xs=>some (.p xs)
 | _=>none
def JE:D→Option D
 | .g xs=>some (.p xs)
 | _=>none
def E1 (k:Nat):D→Option D
 | .g xs=>if xs.length=k∧xs.all D.one=true then some (.g xs) else none
 | _=>none
def HX (k:Nat):D→Bool
 | .g xs=>xs.length == k
 | _=>false
def Ib (k:Nat):D→Option D
 | .p xs=>if xs.length=k then some (.g xs) else none
 | _=>none
def Be:Nat→D→Bool
 | 0,d=>d.flat
 | i+1,d=>d.flat || match d with
  | .l xs=>xs.all (Be i)
  | _=>false
def BH (k:Nat) (x:D×Nat):Bool:=x.1.one&&(k == 0 || (x.2 == k || Be (min x.2 k) x.1))
def Ey (d:D):Option D:=if d.flat=true then some d else none
def F6 (k:Nat) (d:D) (is:Option (List Nat)):Option (D×D):=is.bind fun is=>(A9 is d).bind fun x=>if Be k x=true then (Aa is d .u).map fun y=>(x,y) else none
def Jw:D→Option (D×D)
 | .g xs=>some (.g xs,.g (List.replicate xs.length .u))
 | _=>none
def bytesOf:List D→Option (List Nat)
 | []=>some []
 | .i .u8 n::ds=>if 0≤n∧n<256 then (bytesOf ds).map (n.toNat::·) else none
 | _::_=>none
def GQ:D→Option D
 | .l xs=>(bytesOf xs).map .s
 | _=>none
def P7:D→Option D
 | .s x=>if x.length≤FG then some (.l (x.map D.y)) else none
 | _=>none
def IX:D→Option D
 | .g [d]=>some d
 | _=>none
def J7:D→Option D
 | .g (_::_)=>some .u
 | _=>none
def getM (k:List Nat):List D→Option D
 | []=>none
 | .g [.s j,v]::xs=>if k=j then some v else getM k xs
 | _::xs=>getM k xs
def FN (k:List Nat) (v:D):List D→List D
 | []=>[.g [.s k,v]]
 | .g [.s j,x]::xs=>if k=j then .g [.s k,v]::xs else .g [.s j,x]::FN k v xs
 | x::xs=>x::FN k v xs
def Ff:D→D→D→Option D
 | .g xs,.s k,v=>if v.flat=true then some (.g (FN k v xs)) else none
 | _,_,_=>none
def Gf (d:D):D→D→Option D
 | .g xs,.s k=>some ((getM k xs).getD d)
 | _,_=>none
def GI (d:D):D→D→Option (D×D)
 | .g xs,.s k=>some ((getM k xs).getD d,.b (getM k xs).isSome)
 | _,_=>none
def DU (E:Nat→D) (p:List PE) (d:D):Option D:=(p.mapM (PE.ev E)).bind fun is=>A9 is d
def AS (E:Nat→D):Pr→Option D
 | .cs _ d=>some d
 | .cy a=>some (ev E a)
 | .bi op a b=>BV op (ev E a) (ev E b)
 | .bb op a b=>Fe op (ev E a) (ev E b)
 | .un op a=>J9 op (ev E a)
 | .pk c a b=>match ev E c with
  | .b true=>some (ev E a)
  | .b false=>some (ev E b)
  | _=>none
 | .cv k a=>match ev E a with
  | .i _ n=>some (.i k (k.wrap n))
  | _=>none
 | .ln a p=>(DU E p (ev E a)).bind E4
 | .sn a=>LX (ev E a)
 | .sx a i=>Jr (ev E a) (ev E i)
 | .ss a lo hi=>Fg (ev E a) (lo.map (ev E)) (hi.map (ev E))
 | .ix a p i=>(DU E p (ev E a)).bind fun d=>Cn d (ev E i)
 | .up n p a=>if (ev E a).one=true then (p.mapM (PE.ev E)).bind fun is=>Aa is (E n) (ev E a) else none
 | .sb _ a lo hi=>De (ev E a) (lo.map (ev E)) (hi.map (ev E))
 | .ap fl a b=>DQ fl (ev E a) (ev E b)
 | .mk d n c=>Fu d (ev E n) (ev E c)
 | .iy a i=>(Cn (ev E a) (ev E i)).bind Ey
 | .li _ xs=>if (xs.map (ev E)).all D.one=true then some (.l (xs.map (ev E))) else none
 | .bs a=>GQ (ev E a)
 | .sy a=>P7 (ev E a)
 | .mx a b=>match ev E a,ev E b with
  | .i k x,.i k' y=>if k=k' then some (.i k (if y > x then y else x)) else none
  | _,_=>none
 | .mn a b=>match ev E a,ev E b with
  | .i k x,.i k' y=>if k=k' then some (.i k (if y<x then y else x)) else none
  | _,_=>none
 | .bg k xs=>if (xs.map fun x=>(ev E x.1,x.2)).all (BH k)=true then some (.g (xs.map fun x=>ev E x.1)) else none
 | .bp a=>JE (ev E a)
 | .gp a k=>Ib k (ev E a)
 | .nz want a=>(Iy (ev E a)).map fun x=>.b (x == want)
 | .nn a=>LV (ev E a)
 | .wl k a=>E1 k (ev E a)
 | .ws n k a=>if HX k (E n)=true then E1 k (ev E a) else none
 | .gt a p=>DU E p (ev E a)
 | .fp fl a k=>(JV k (ev E a)).bind fun d=>if fl=true then Ey d else some d
 | .uq n p a i k=>if BH k (ev E a,i)=true then (p.mapM (PE.ev E)).bind fun is=>Aa is (E n) (ev E a) else none
 | .cb n=>J7 (E n)
 | .jn n p a k=>if ((ev E a).one&&Be k (ev E a))=true then (p.mapM (PE.ev E)).bind fun is=>Aa is (E n) (ev E a) else none
 | .mm=>some (.g [])
 | .mu n k v=>Ff (E n) (ev E k) (ev E v)
 | .mg n k d=>Gf d (E n) (ev E k)
 | _=>none
def Pr.np:Pr→Nat
 | .nop=>0
 | .ca _ _ r=>r
 | .cd _ _ _ r=>r
 | .tk _=>2
 | .sp _ _ _=>2
 | .sw _=>2
 | .mo _ _ _=>2
 | _=>1
abbrev Env.E (e:Env):Nat→D:=fun n=>e.getD n .u
section
variable (K:Nat→List D→List D→Prop)
def AY (p:Pr) (e:Env) (Q:Env→Prop):Prop:=
 match p with
 | .nop=>Q e
 | .ca g xs r=>∃ rs:List D,K g (xs.map (ev e.E)) rs∧rs.length=r∧Q (e++rs)
 | .cd f g xs r=>ev e.E f=.f g []∧∃ rs:List D,K g (xs.map (ev e.E)) rs∧rs.length=r∧Q (e++rs)
 | .tk n=>match IX (e.E n) with
  | some d=>Q (e++[d,.g [.u]])
  | none=>False
 | .sp n p k=>match F6 k (e.E n) (p.mapM (PE.ev e.E)) with
  | some d=>Q (e++[d.1,d.2])
  | none=>False
 | .sw n=>match Jw (e.E n) with
  | some d=>Q (e++[d.1,d.2])
  | none=>False
 | .mo n k d=>match GI d (e.E n) (ev e.E k) with
  | some v=>Q (e++[v.1,v.2])
  | none=>False
 | p=>match AS e.E p with
  | some d=>Q (e++[d])
  | none=>False
def CO (E:Nat→D):List (Nat×Bool)→Option Bool
 | []=>some true
 | (n,want)::r=>match E n with
  | .b x=>if x=want then CO E r else some false
  | _=>none
def CR (E:Nat→D):List (Option Nat)→Nat→List D
 | _,0=>[]
 | [],n+1=>.u::CR E [] n
 | some m::z,n+1=>E m::CR E z n
 | none::z,n+1=>.u::CR E z n
def GG (it:It) (e:Env) (Q:Env→Prop):Prop:=
 match CO e.E it.g with
 | some true=>AY K it.p e Q
 | some false=>Q (e++CR e.E it.z it.p.np)
 | none=>False
def DZ:List It→Env→(Env→Prop)→Prop
 | [],e,Q=>Q e
 | it::r,e,Q=>GG K it e fun e1=>DZ r e1 Q
def DE (out:List (Option Nat)) (e:Env):Env:=
 out.map fun
  | some n=>e.E n
  | none=>.u
def Cz (R:(X→Env→Prop)→Env→Prop):Nat→(X→Env→Prop)→Env→Prop
 | 0,_,_=>False
 | n+1,Q,e=>R (fun
  | .n,e1=>Cz R n Q e1
  | x,e1=>Q x e1) e
def wpS:S→(X→Env→Prop)→Env→Prop
 | .skip,Q,e=>Q .n e
 | .reg its out,Q,e=>DZ K its e fun e1=>Q .n (DE out e1)
 | .seq a b,Q,e=>wpS a (fun
  | .n,e1=>wpS b Q e1
  | x,e1=>Q x e1) e
 | .cond n x y,Q,e=>match e.E n with
  | .b true=>wpS x Q (e.set n .u)
  | .b false=>wpS y Q (e.set n .u)
  | _=>False
 | .block id b,Q,e=>wpS b (fun
  | .ex j,e1=>if j=id then Q .n e1 else Q (.ex j) e1
  | x,e1=>Q x e1) e
 | .loop b,Q,e=>∃ n,Cz (wpS b) n Q e
 | .exit id,Q,e=>Q (.ex id) e
 | .ret,Q,e=>Q .r e
end
end Go.Cat
namespace Go.Cat
def BE (x:List Nat):Value:=.string ⟨(x.map fun c=>UInt8.ofNat c).toArray⟩
section
variable (fid:Nat→Nat) (h:Array Obj) (Z:Nat→Prop)
mutual
def Rd:D→Value→Prop
 | .u,_=>True
 | .i k n,v=>v=.int k n
 | .b x,v=>v=.bool x
 | .s x,v=>v=BE x∧(∀ c∈x,c<256)∧x.length≤9223372036854775807
 | .l xs,v=>(xs=[]∧∃ a,v=.slice a 0 0)∨
   ∃ b off cap cs e fz,v=.slice (some ⟨b,off,none⟩) xs.length cap∧h[b]?=some (.cells cs e fz)∧¬ Z b∧AN xs (cs.toList.drop off)∧(xs.length≤cap∧xs.length≤9223372036854775807)
 | .g xs,v=>∃ cs:Array Value,v=.agg cs∧cs.size=xs.length∧AN xs cs.toList
 | .z,v=>v=.pointer none
 | .p xs,v=>∃ b off cs e fz,v=.pointer (some ⟨b,off,none⟩)∧h[b]?=some (.cells cs e fz)∧¬ Z b∧AN xs (cs.toList.drop off)
 | .f fn caps,v=>∃ vs:Array Value,v=.func (.func (fid fn)) #[] vs∧vs.size=caps.length∧AN caps vs.toList
def AN:List D→List Value→Prop
 | [],_=>True
 | d::ds,v::vs=>Rd d v∧AN ds vs
 | _::_,[]=>False
end
def AK (R:D→Value→List Nat→Prop):List D→List Value→List Nat→Prop
 | [],_,B=>B=[]
 | d::ds,v::vs,B=>∃ B1 B2,B=B1++B2∧R d v B1∧AK R ds vs B2
 | _::_,[],_=>False
def AE0 (_cs:Array Value) (fz:Nat×Nat):Prop:=fz=(0,0)
def CW:List D→List MapEntry→Prop
 | [],[]=>True
 | x::xs,e::es=>(∃ k v,x=.g [.s k,v]∧(e.key=BE k∧(∀ c∈k,c<256)∧k.length≤9223372036854775807)∧v.flat=true∧Rd fid h (fun _=>False) v e.val)∧CW xs es
 | _,_=>False
variable (O X:Nat→Prop)
def AF:Sh→D→Value→List Nat→Prop
 | .v,d,v,B=>B=[]∧Rd fid h (fun b=>O b∨X b) d v
 | .y,d,v,B=>B=[]∧Rd fid h O d v
 | .a s,d,v,B=>∃ xs cs,d=.g xs∧v=.agg cs∧cs.size=xs.length∧AK (AF s) xs cs.toList B
 | .b s,d,v,B=>∃ xs b cs e fz B',d=.g xs∧B=b::B'∧v=.pointer (some ⟨b,0,none⟩)∧h[b]?=some (.cells cs e fz)∧AE0 cs fz∧cs.size=xs.length∧AK (AF s) xs cs.toList B'
 | .o s,d,v,B=>((d=.u∨d.flat=true∧Rd fid h (fun _=>False) d v)∧B=[])∨∃ xs,d=.l xs∧((v=.slice none 0 0∧xs=[]∧B=[])∨
   ∃ b off cap cs e fz B',B=b::B'∧v=.slice (some ⟨b,off,none⟩) xs.length cap∧h[b]?=some (.cells cs e fz)∧AE0 cs fz∧
    xs.length≤cap∧off+cap≤cs.size∧cap≤9223372036854775807∧AK (AF s) xs (cs.toList.drop off) B')
 | .m,d,v,B=>∃ xs b es ck,d=.g xs∧B=[b]∧v=.map (some b)∧h[b]?=some (.map es ck)∧CW fid h xs es.toList
end
structure Af (S:Nat→Prop) (h h':Array Obj):Prop where
 size:h.size≤h'.size
 same:∀ b,b<h.size→¬ S b→h'[b]?=h[b]?
theorem Af.refl (S:Nat→Prop) (h:Array Obj):Af S h h:=⟨Nat.le_refl _,fun _ _ _=>rfl⟩
theorem Af.trans {S:Nat→Prop} {a b c:Array Obj} (h:Af S a b) (k:Af S b c):Af S a c:=
 ⟨Nat.le_trans h.size k.size,fun x hx hs=>(k.same x (Nat.lt_of_lt_of_le hx h.size) hs).trans (h.same x hx hs)⟩
theorem Af.mono {S S':Nat→Prop} {a b:Array Obj} (h:Af S a b) (hs:∀ b,b<a.size→S b→S' b):Af S' a b:=
 ⟨h.size,fun x hx hn=>h.same x hx fun hS=>hn (hs x hx hS)⟩
theorem Af.push (h:Array Obj) (o:Obj):Af (fun _=>False) h (h.push o):=
 ⟨by simp,fun b hb _=>by rw [Array.getElem?_push,if_neg (by omega)]⟩
theorem Cd {h:Array Obj} {b:Nat} {o:Obj} (e:h[b]?=some o):b<h.size:=by
 rcases CC b h.size with k | k
 ·exact k
 ·simp [Array.getElem?_eq_none k] at e
mutual
theorem Rd.ext {fid:Nat→Nat} {h h':Array Obj} {S Z Z':Nat→Prop} (ha:Af S h h') (hS:∀ b,b<h.size→S b→Z b) (hZ:∀ b,b<h.size→Z' b→Z b):
  ∀ (d:D) (v:Value),Rd fid h Z d v→Rd fid h' Z' d v
 | .u,_=>fun _=>by simp [Rd]
 | .i _ _,_=>fun r=>by simpa [Rd] using r
 | .b _,_=>fun r=>by simpa [Rd] using r
 | .s _,_=>fun r=>by simpa [Rd] using r
 | .l xs,v=>fun r=>by
  simp only [Rd] at r ⊢
  rcases r with r | ⟨b,off,cap,cs,e,fz,hv,hb,hz,hl,hn⟩
  ·exact .inl r
  ·have lt:=Cd hb
   exact .inr ⟨b,off,cap,cs,e,fz,hv,(ha.same b lt fun hs=>hz (hS b lt hs)).trans hb,fun q=>hz (hZ b lt q),AN.ext ha hS hZ xs _ hl,hn⟩
 | .g xs,v=>fun r=>by
  simp only [Rd] at r ⊢
  obtain ⟨cs,hv,hn,hl⟩:=r
  exact ⟨cs,hv,hn,AN.ext ha hS hZ xs _ hl⟩
 | .z,_=>fun r=>by simpa [Rd] using r
 | .p xs,v=>fun r=>by
  simp only [Rd] at r ⊢
  obtain ⟨b,off,cs,e,fz,hv,hb,hz,hl⟩:=r
  have lt:=Cd hb
  exact ⟨b,off,cs,e,fz,hv,(ha.same b lt fun hs=>hz (hS b lt hs)).trans hb,fun q=>hz (hZ b lt q),AN.ext ha hS hZ xs _ hl⟩
 | .f fn caps,v=>fun r=>by
  simp only [Rd] at r ⊢
  obtain ⟨vs,hv,hn,hl⟩:=r
  exact ⟨vs,hv,hn,AN.ext ha hS hZ caps _ hl⟩
theorem AN.ext {fid:Nat→Nat} {h h':Array Obj} {S Z Z':Nat→Prop} (ha:Af S h h') (hS:∀ b,b<h.size→S b→Z b) (hZ:∀ b,b<h.size→Z' b→Z b):
  ∀ (ds:List D) (vs:List Value),AN fid h Z ds vs→AN fid h' Z' ds vs
 | [],_=>fun _=>by simp [AN]
 | d::ds,v::vs=>fun r=>by
  simp only [AN] at r ⊢
  exact ⟨Rd.ext ha hS hZ d v r.1,AN.ext ha hS hZ ds vs r.2⟩
 | _::_,[]=>fun r=>by simp [AN] at r
end
theorem Rd.mono {fid:Nat→Nat} {h:Array Obj} {Z Z':Nat→Prop} {d:D} {v:Value} (r:Rd fid h Z d v) (hZ:∀ b,b<h.size→Z' b→Z b):Rd fid h Z' d v:=
 Rd.ext (S:=fun _=>False) (Af.refl _ h) (fun _ _ q=>q.elim) hZ d v r
theorem Rd.flat {fid:Nat→Nat} {h h':Array Obj} {Z Z':Nat→Prop} {d:D} {v:Value} (hd:d.flat=true) (r:Rd fid h Z d v):Rd fid h' Z' d v:=by
 cases d <;> simp [D.flat] at hd <;> simpa [Rd] using r
theorem AK.imp {R R':D→Value→List Nat→Prop}:∀ {ds:List D} {vs:List Value} {B:List Nat},
  (∀ d v B1,(∀ b∈B1,b∈B)→R d v B1→R' d v B1)→AK R ds vs B→AK R' ds vs B
 | [],_,_=>fun _ h=>h
 | d::ds,v::vs,B=>fun f h=>by
  simp only [AK] at h ⊢
  obtain ⟨B1,B2,rfl,h1,h2⟩:=h
  exact ⟨B1,B2,rfl,f d v B1 (fun b hb=>Ay _ hb) h1,AK.imp (fun d v B hB=>f d v B fun b hb=>Ak _ (hB b hb)) h2⟩
 | _::_,[],_=>fun _ h=>h
theorem CW.flat {fid:Nat→Nat} {h h':Array Obj}:∀ {xs:List D} {es:List MapEntry},CW fid h xs es→CW fid h' xs es
 | [],[]=>fun _=>trivial
 | x::xs,e::es=>fun r=>by
  simp only [CW] at r ⊢
  obtain ⟨⟨k,v,h1,h2,h3,h4⟩,r2⟩:=r
  exact ⟨⟨k,v,h1,h2,h3,Rd.flat h3 h4⟩,CW.flat r2⟩
 | [],_::_=>fun r=>by simp [CW] at r
 | _::_,[]=>fun r=>by simp [CW] at r
theorem AF.ext {fid:Nat→Nat} {h h':Array Obj} {S O O' X:Nat→Prop} (ha:Af S h h') (hS:∀ b,b<h.size→S b→O b) (hO:∀ b,b<h.size→O' b→O b):
  ∀ (s:Sh) (d:D) (v:Value) (B:List Nat),(∀ b∈B,¬ S b)→AF fid h O X s d v B→AF fid h' O' X s d v B
 | .v,d,v,B=>fun _ r=>by
  simp only [AF] at r ⊢
  exact ⟨r.1,Rd.ext ha (fun b hb q=>.inl (hS b hb q)) (fun b hb q=>q.imp (hO b hb) id) d v r.2⟩
 | .y,d,v,B=>fun _ r=>by
  simp only [AF] at r ⊢
  exact ⟨r.1,Rd.ext ha hS hO d v r.2⟩
 | .a s,d,v,B=>fun hB r=>by
  simp only [AF] at r ⊢
  obtain ⟨xs,cs,hd,hv,hl,he⟩:=r
  exact ⟨xs,cs,hd,hv,hl,AK.imp (fun d v B1 hb1=>AF.ext ha hS hO s d v B1 fun b hb=>hB b (hb1 b hb)) he⟩
 | .b s,d,v,B=>fun hB r=>by
  simp only [AF] at r ⊢
  obtain ⟨xs,b,cs,e,fz,B',hd,rfl,hv,hb,ht,hl,he⟩:=r
  have lt:=Cd hb
  exact ⟨xs,b,cs,e,fz,B',hd,rfl,hv,(ha.same b lt (hB b (by simp))).trans hb,ht,hl,
   AK.imp (fun d v B1 hb1=>AF.ext ha hS hO s d v B1 fun b hb=>hB b (BC _ (hb1 b hb))) he⟩
 | .o s,d,v,B=>fun hB r=>by
  simp only [AF] at r ⊢
  rcases r with ⟨r,h2⟩ | ⟨xs,hd,r⟩
  ·exact .inl ⟨r.imp id fun q=>⟨q.1,Rd.flat q.1 q.2⟩,h2⟩
  ·refine .inr ⟨xs,hd,?_⟩
   rcases r with r | ⟨b,off,cap,cs,e,fz,B',rfl,hv,hb,ht,h1,h2,h3,he⟩
   ·exact .inl r
   ·have lt:=Cd hb
    refine .inr ⟨b,off,cap,cs,e,fz,B',rfl,hv,(ha.same b lt (hB b (by simp))).trans hb,ht,h1,h2,h3,?_⟩
    exact AK.imp (fun d v B1 hb1=>AF.ext ha hS hO s d v B1 fun b hb=>hB b (BC _ (hb1 b hb))) he
 | .m,d,v,B=>fun hB r=>by
  simp only [AF] at r ⊢
  obtain ⟨xs,b,es,ck,hd,rfl,hv,hb,he⟩:=r
  exact ⟨xs,b,es,ck,hd,rfl,hv,(ha.same b (Cd hb) (hB b (by simp))).trans hb,he.flat⟩
theorem AK.lt {R:D→Value→List Nat→Prop} {k:Nat} (hR:∀ d v B,R d v B→∀ b∈B,b<k):∀ {ds:List D} {vs:List Value} {B:List Nat},AK R ds vs B→∀ b∈B,b<k
 | [],_,_=>fun h=>by simp only [AK] at h; simp [h]
 | d::ds,v::vs,B=>fun h=>by
  simp only [AK] at h
  obtain ⟨B1,B2,rfl,h1,h2⟩:=h
  intro x hx
  rcases A8.1 hx with hx | hx
  ·exact hR d v B1 h1 x hx
  ·exact AK.lt hR h2 x hx
 | _::_,[],_=>fun h=>by simp [AK] at h
theorem AF.EP {fid:Nat→Nat} {h:Array Obj} {O X:Nat→Prop}:∀ (s:Sh) (d:D) (v:Value) (B:List Nat),AF fid h O X s d v B→∀ b∈B,b<h.size
 | .v,d,v,B=>fun r=>by simp only [AF] at r; simp [r.1]
 | .y,d,v,B=>fun r=>by simp only [AF] at r; simp [r.1]
 | .a s,d,v,B=>fun r=>by
  simp only [AF] at r
  obtain ⟨xs,cs,hd,hv,hl,he⟩:=r
  exact AK.lt (fun d v B h=>AF.EP s d v B h) he
 | .b s,d,v,B=>fun r=>by
  simp only [AF] at r
  obtain ⟨xs,b,cs,e,fz,B',hd,rfl,hv,hb,ht,hl,he⟩:=r
  intro x hx
  rcases A5.1 hx with rfl | hx
  ·exact Cd hb
  ·exact AK.lt (fun d v B h=>AF.EP s d v B h) he x hx
 | .o s,d,v,B=>fun r=>by
  simp only [AF] at r
  rcases r with ⟨_,rfl⟩ | ⟨xs,hd,⟨_,_,rfl⟩ | ⟨b,off,cap,cs,e,fz,B',rfl,hv,hb,ht,h1,h2,h3,he⟩⟩
  ·simp
  ·simp
  ·intro x hx
   rcases A5.1 hx with rfl | hx
   ·exact Cd hb
   ·exact AK.lt (fun d v B h=>AF.EP s d v B h) he x hx
 | .m,d,v,B=>fun r=>by
  simp only [AF] at r
  obtain ⟨xs,b,es,ck,hd,rfl,hv,hb,he⟩:=r
  intro x hx
  rw [List.mem_singleton.1 hx]
  exact Cd hb
theorem AK.rd {fid:Nat→Nat} {h:Array Obj} {O X Z:Nat→Prop} (hZ:∀ b,b<h.size→Z b→O b∨X b):∀ {ds:List D} {vs:List Value} {B:List Nat},AK (AF fid h O X .v) ds vs B→AN fid h Z ds vs
 | [],_,_=>fun _=>by simp [AN]
 | d::ds,v::vs,B=>fun he=>by
  simp only [AK] at he
  obtain ⟨B1,B2,rfl,h1,h2⟩:=he
  simp only [AF] at h1
  simp only [AN]
  exact ⟨h1.2.mono hZ,AK.rd hZ h2⟩
 | _::_,[],_=>fun he=>by simp [AK] at he
theorem AF.frozen {fid:Nat→Nat} {h:Array Obj} {O O' X:Nat→Prop} (hO:∀ b,b<h.size→O' b→O b) (d:D) (v:Value) (B:List Nat)
  (hB:∀ b∈B,¬ O' b∧¬ X b) (r:AF fid h O X (.o .v) d v B):Rd fid h (fun b=>O' b∨X b) d v:=by
 simp only [AF] at r
 rcases r with ⟨q | q,_⟩ | ⟨xs,rfl,r⟩
 ·subst q; simp [Rd]
 ·exact q.2.flat q.1
 ·simp only [Rd]
  rcases r with r | ⟨b,off,cap,cs,e,fz,B',rfl,hv,hb,ht,h1,h2,h3,he⟩
  ·exact .inl ⟨r.2.1,none,r.1⟩
  ·refine .inr ⟨b,off,cap,cs,e,fz,hv,hb,fun q=>?_,?_,h1,Nat.le_trans h1 h3⟩
   ·rcases q with q | q
    ·exact (hB b (by simp)).1 q
    ·exact (hB b (by simp)).2 q
   ·exact he.rd fun b hb q=>q.imp (hO b hb) id
end Go.Cat
namespace Go.Cat
abbrev Gd:=List (Nat×Bool)
inductive Loc where
 | is (n:Nat) (g:Gd)
 | ad (r:Nat) (p:List PE) (m:Nat) (g:Gd)
 | ip (r:Nat) (p:List PE) (m:Nat) (g:Gd)
 | vc (n:Nat) (g:Gd)
 | tu (ns:List Nat) (g:Gd)
 | aw (r:Nat) (p:List PE) (g:Gd)
 | ia (r m:Nat) (g:Gd)
 | bx (n:Nat) (g:Gd)
 | fv (f:Nat) (ns:List Nat) (g:Gd)
 | fb (f:Nat) (ns:List Nat) (g:Gd)
 | ag (r:Nat) (g:Gd)
 | lh (n:Nat) (g:Gd)
 | sa (n e:Nat) (g:Gd)
 deriving DecidableEq
inductive Fact where
 | en (n:Nat) (s:Sh)
 | sl (t:Nat) (l:Loc)
 deriving DecidableEq
def PE.AZ:PE→List Nat
 | .e n=>[n]
 | .k _=>[]
def Loc.AZ:Loc→List Nat
 | .is n _=>[n]
 | .ad r _ m _=>[r,m]
 | .ip r _ m _=>[r,m]
 | .vc n _=>[n]
 | .tu ns _=>ns
 | .aw r _ _=>[r]
 | .ia r m _=>[r,m]
 | .bx n _=>[n]
 | .fv _ ns _=>ns
 | .fb _ ns _=>ns
 | .ag r _=>[r]
 | .lh n _=>[n]
 | .sa n e _=>[n,e]
def Fact.AZ:Fact→List Nat
 | .en n _=>[n]
 | .sl _ l=>l.AZ
def Ae (E:Nat→D) (g:Gd):Prop:=∀ x∈g,E x.1=.b x.2
def DM (E:Nat→D) (p:List PE):Option (List Nat):=p.mapM (PE.ev E)
def EV (v:Value) (i b o:Nat):Prop:=
 (∃ off len cap,v=.slice (some ⟨b,off,none⟩) len cap∧i<len∧o=off+i)∨(v=.pointer (some ⟨b,0,none⟩)∧o=i)
theorem EV.Hj {v:Value} {i b o b' o':Nat} (h:EV v i b o) (h':EV v i b' o'):b=b'∧o=o':=by
 rcases h with ⟨off,len,cap,rfl,_,rfl⟩ | ⟨rfl,rfl⟩ <;> rcases h' with ⟨off',len',cap',e,_,rfl⟩ | ⟨e,rfl⟩
 ·injection e with e; injection e with e; injection e with e1 e2; subst e1 e2; exact ⟨rfl,rfl⟩
 ·cases e
 ·cases e
 ·injection e with e; injection e with e; injection e with e1; subst e1; exact ⟨rfl,rfl⟩
theorem EV.slice {i b o b' off len cap:Nat} (h:EV (.slice (some ⟨b',off,none⟩) len cap) i b o):b=b'∧i<len∧o=off+i:=by
 rcases h with ⟨off',len',cap',e,h1,rfl⟩ | ⟨e,_⟩
 ·injection e with e e2 _; injection e with e; injection e with e1 e3; subst e1 e3 e2; exact ⟨rfl,h1,rfl⟩
 ·cases e
theorem EV.box {i b o b':Nat} (h:EV (.pointer (some ⟨b',0,none⟩)) i b o):b=b'∧o=i:=by
 rcases h with ⟨off',len',cap',e,h1,rfl⟩ | ⟨e,rfl⟩
 ·cases e
 ·injection e with e; injection e with e; injection e with e1; subst e1; exact ⟨rfl,rfl⟩
theorem EV.none {i b o l cap:Nat} (h:EV (.slice none l cap) i b o):False:=by
 rcases h with ⟨off',len',cap',e,h1,rfl⟩ | ⟨e,rfl⟩ <;> cases e
theorem EV.map {i b o:Nat} {r:Option Nat} (h:EV (.map r) i b o):False:=by
 rcases h with ⟨off',len',cap',e,h1,rfl⟩ | ⟨e,rfl⟩ <;> cases e
theorem EV.agg {i b o:Nat} {cs:Array Value} (h:EV (.agg cs) i b o):False:=by
 rcases h with ⟨off',len',cap',e,h1,rfl⟩ | ⟨e,rfl⟩ <;> cases e
def Wk (h:Array Obj):List Nat→Value→Nat→Nat→Value→Prop
 | [],_,_,_,_=>False
 | i::is,v,b,o,x=>∃ b' o' cs e fz y,EV v i b' o'∧h[b']?=some (.cells cs e fz)∧cs[o']?=some y∧
   ((is=[]∧b=b'∧o=o'∧x=y)∨(is≠[]∧Wk h is y b o x))
def FF (h:Array Obj) (E:Nat→D) (vs:Nat→Value) (O al:Nat→Prop) (tm:Array Value) (t:Nat):Loc→Prop
 | .is n g=>(Ae E g→tm[t]?=some (vs n))∧(¬ Ae E g→tm[t]?=some undef)
 | .vc n g=>Ae E g→∃ b o cs e fz,tm[t]?=some (.pointer (some ⟨b,o,none⟩))∧h[b]?=some (.cells cs e fz)∧cs[o]?=some (vs n)∧¬ O b
 | .ad r p m g=>Ae E g→al r→∃ is b o d,DM E p=some is∧A9 is (E r)=some d∧Wk h is (vs r) b o (vs m)∧tm[t]?=some (.pointer (some ⟨b,o,none⟩))
 | .ip r p m g=>Ae E g→al r→∃ is b o d,DM E p=some is∧A9 is (E r)=some d∧Wk h is (vs r) b o (vs m)∧tm[t]?=some (vs m)
 | .tu ns g=>Ae E g→tm[t]?=some (.tuple (ns.map vs).toArray)
 | .aw r p g=>Ae E g→al r→∃ is b o d x,DM E p=some is∧A9 is (E r)=some d∧Wk h is (vs r) b o x∧tm[t]?=some (.pointer (some ⟨b,o,none⟩))
 | .ia r m g=>Ae E g→al r→∃ xs b cs e fz,E r=.g xs∧E m=.g xs∧vs r=.pointer (some ⟨b,0,none⟩)∧h[b]?=some (.cells cs e fz)∧vs m=.agg cs∧tm[t]?=some (vs m)
 | .bx n g=>Ae E g→∃ b cs e fz,tm[t]?=some (.pointer (some ⟨b,0,none⟩))∧h[b]?=some (.cells cs e fz)∧vs n=.agg cs∧¬ O b
 | .fv f ns g=>Ae E g→tm[t]?=some (.func (.func f) #[] (ns.map vs).toArray)
 | .fb f ns g=>Ae E g→∃ b cs e fz,tm[t]?=some (.pointer (some ⟨b,0,none⟩))∧h[b]?=some (.cells cs e fz)∧cs[0]?=some (.func (.func f) #[] (ns.map vs).toArray)∧¬ O b
 | .ag r g=>Ae E g→al r→∃ xs b cs e fz,E r=.g xs∧vs r=.pointer (some ⟨b,0,none⟩)∧h[b]?=some (.cells cs e fz)∧tm[t]?=some (.agg cs)
 | .lh n g=>Ae E g→∃ xs ad len cap,E n=.l xs∧vs n=.slice ad len cap∧xs.length=len∧(∀ i,i<len→∃ b off,ad=some ⟨b,off,none⟩)∧tm[t]?=some (vs n)
 | .sa n e g=>Ae E g→∃ i b o,PE.ev E (.e e)=some i∧EV (vs n) i b o∧tm[t]?=some (.pointer (some ⟨b,o,none⟩))
structure Cx where
 P:Program
 fid:Nat→Nat
 w0:World
 Ab:Nat→Prop
 Xb:Nat→Prop
 nt:Nat
 fix:List (Nat×Value)
 hX:∀ b,Xb b→b<w0.heap.size∧¬ Ab b
def OB (F:Fact→Prop) (Bs:Nat→List Nat):Nat→Prop:=fun b=>∃ n s,F (.en n s)∧b∈Bs n
def DO (F:Fact→Prop) (Bs:Nat→List Nat) (kill:Nat→Prop):Nat→Prop:=fun b=>∃ n s,F (.en n s)∧¬ kill n∧b∈Bs n
def alive (F:Fact→Prop):Nat→Prop:=fun n=>∃ s,F (.en n s)
structure Av (c:Cx) (F:Fact→Prop) (E:Nat→D) (a:Act) (w:World) (vs:Nat→Value) (Bs:Nat→List Nat):Prop where
 own:∀ n s,F (.en n s)→AF c.fid w.heap (OB F Bs) c.Xb s (E n) (vs n) (Bs n)
 nodup:∀ n s,F (.en n s)→(Bs n).Nodup
 mine:∀ n s,F (.en n s)→∀ b∈Bs n,c.w0.heap.size≤b∨c.Ab b
 apart:∀ n s m r,F (.en n s)→F (.en m r)→n≠m→∀ b∈Bs n,b∉Bs m
 loc:∀ t l,F (.sl t l)→FF w.heap E vs (OB F Bs) (alive F) a.tmps t l
 agr:Af c.Ab c.w0.heap w.heap
 os:w.os=c.w0.os
 tape:w.tape=c.w0.tape
 output:w.output=c.w0.output
 defers:a.defers=[]
 size:a.tmps.size=c.nt
def D6 (c:Cx) (F:Fact→Prop) (E:Nat→D) (a:Act) (w:World):Prop:=∃ vs Bs,Av c F E a w vs Bs
def Cx.fixed (c:Cx) (a:Act):Prop:=∀ x∈c.fix,a.tmps[x.1]?=some x.2
def BR (c:Cx) (F:Fact→Prop) (E:Nat→D) (a:Act) (w:World):Prop:=D6 c F E a w∧c.fixed a
theorem AN.get {fid:Nat→Nat} {h:Array Obj} {Z:Nat→Prop}:∀ {ds:List D} {vs:List Value} {i:Nat} {d:D},AN fid h Z ds vs→ds[i]?=some d→∃ v,vs[i]?=some v∧Rd fid h Z d v
 | [],_,_,_=>fun _ h=>by simp at h
 | d::ds,v::vs,0,_=>fun r h=>by simp only [AN] at r; simp at h; exact ⟨v,by simp,h ▸ r.1⟩
 | d::ds,v::vs,i+1,_=>fun r h=>by
  simp only [AN] at r
  obtain ⟨u,h1,h2⟩:=AN.get r.2 (by simpa using h)
  exact ⟨u,by simpa using h1,h2⟩
 | _::_,[],_,_=>fun r _=>by simp [AN] at r
theorem AK.get {R:D→Value→List Nat→Prop}:∀ {ds:List D} {vs:List Value} {B:List Nat} {i:Nat} {d:D},AK R ds vs B→ds[i]?=some d→
  ∃ v B1,vs[i]?=some v∧(∀ b∈B1,b∈B)∧R d v B1
 | [],_,_,_,_=>fun _ h=>by simp at h
 | d::ds,v::vs,B,0,_=>fun r h=>by
  simp only [AK] at r; simp at h
  obtain ⟨B1,B2,rfl,h1,h2⟩:=r
  exact ⟨v,B1,by simp,fun b hb=>Ay _ hb,h ▸ h1⟩
 | d::ds,v::vs,B,i+1,_=>fun r h=>by
  simp only [AK] at r
  obtain ⟨B1,B2,rfl,h1,h2⟩:=r
  obtain ⟨u,B3,e1,e2,e3⟩:=AK.get h2 (by simpa using h)
  exact ⟨u,B3,by simpa using e1,fun b hb=>Ak _ (e2 b hb),e3⟩
 | _::_,[],_,_,_=>fun r _=>by simp [AK] at r
theorem D8 {cs:Array Value} {off i:Nat}:(cs.toList.drop off)[i]?=cs[off+i]?:=by
 simp [List.getElem?_drop]
theorem Wk.read {fid:Nat→Nat} {h h':Array Obj} {Z:Nat→Prop} (hk:∀ b,b<h.size→¬ Z b→h'[b]?=h[b]?):∀ (is:List Nat) (d:D) (v:Value) (b o:Nat) (x:Value) (d':D),
  Rd fid h Z d v→A9 is d=some d'→Wk h is v b o x→Wk h' is v b o x
 | [],_,_,_,_,_,_=>fun _ _ k=>by simp [Wk] at k
 | i::is,d,v,b,o,x,d'=>fun r g k=>by
  cases d with
  | l xs=>
   simp only [Wk] at k ⊢
   obtain ⟨b',o',cs,e,fz,y,hv,hb,hy,k⟩:=k
   simp only [Rd] at r
   rcases r with ⟨rfl,_⟩ | ⟨b2,off2,cap2,cs2,e2,fz2,rfl,hb2,hz2,hl2,_⟩
   ·simp [A9] at g
   ·obtain ⟨rfl,hi,rfl⟩:=hv.slice
    rw [hb] at hb2
    injection hb2 with hb2
    injection hb2 with hc he hf
    subst hc
    refine ⟨b',_,cs,e,fz,y,hv,(hk b' (Cd hb) hz2).trans hb,hy,?_⟩
    rcases k with k | ⟨hne,k⟩
    ·exact .inl k
    ·refine .inr ⟨hne,?_⟩
     simp only [A9] at g
     cases hx:xs[i]? with
     | none=>simp [hx] at g
     | some d1=>
      simp only [hx,Option.bind_some] at g
      obtain ⟨u,hu,hr⟩:=AN.get hl2 hx
      rw [D8,hy] at hu
      injection hu with hu
      subst hu
      exact Wk.read hk is d1 y b o x d' hr g k
  | g xs=>
   simp only [Wk] at k
   obtain ⟨b',o',cs,e,fz,y,hv,hb,hy,k⟩:=k
   simp only [Rd] at r
   obtain ⟨cs2,rfl,_⟩:=r
   exact hv.agg.elim
  | _=>simp [A9] at g
theorem Wk.own {fid:Nat→Nat} {h h':Array Obj} {O X:Nat→Prop}:∀ (is:List Nat) (s:Sh) (d:D) (v:Value) (B:List Nat) (b o:Nat) (x:Value) (d':D),
  (∀ b,b<h.size→(b∈B∨¬ O b)→h'[b]?=h[b]?)→AF fid h O X s d v B→A9 is d=some d'→Wk h is v b o x→Wk h' is v b o x
 | [],_,_,_,_,_,_,_,_=>fun _ _ _ k=>by simp [Wk] at k
 | i::is,.v,d,v,B,b,o,x,d'=>fun hk r g k=>by
  simp only [AF] at r
  exact Wk.read (fun b hb hz=>hk b hb (.inr fun q=>hz (.inl q))) (i::is) d v b o x d' r.2 g k
 | i::is,.y,d,v,B,b,o,x,d'=>fun hk r g k=>by
  simp only [AF] at r
  exact Wk.read (fun b hb hz=>hk b hb (.inr hz)) (i::is) d v b o x d' r.2 g k
 | i::is,.a s,d,v,B,b,o,x,d'=>fun hk r g k=>by
  simp only [AF] at r
  simp only [Wk] at k
  obtain ⟨b',o',cs,e,fz,y,hv,hb,hy,k⟩:=k
  obtain ⟨xs,cs2,_,rfl,_⟩:=r
  exact hv.agg.elim
 | i::is,.m,d,v,B,b,o,x,d'=>fun hk r g k=>by
  simp only [AF] at r
  simp only [Wk] at k
  obtain ⟨b',o',cs,e,fz,y,hv,hb,hy,k⟩:=k
  obtain ⟨xs,b2,es,ck,_,_,rfl,_⟩:=r
  exact hv.map.elim
 | i::is,.b s,d,v,B,b,o,x,d'=>fun hk r g k=>by
  simp only [AF] at r
  simp only [Wk] at k ⊢
  obtain ⟨b',o',cs,e,fz,y,hv,hb,hy,k⟩:=k
  obtain ⟨xs,b2,cs2,e2,fz2,B',rfl,rfl,rfl,hb2,_,_,he⟩:=r
  obtain ⟨rfl,rfl⟩:=hv.box
  rw [hb] at hb2
  injection hb2 with hb2
  injection hb2 with hc _ _
  subst hc
  refine ⟨b',_,cs,e,fz,y,hv,(hk b' (Cd hb) (.inl (by simp))).trans hb,hy,?_⟩
  rcases k with k | ⟨hne,k⟩
  ·exact .inl k
  ·refine .inr ⟨hne,?_⟩
   simp only [A9] at g
   cases hx:xs[o']? with
   | none=>simp [hx] at g
   | some d1=>
    simp only [hx,Option.bind_some] at g
    obtain ⟨u,B1,hu,hB1,hr⟩:=AK.get he hx
    rw [Array.getElem?_toList,hy] at hu
    injection hu with hu
    subst hu
    exact Wk.own is s d1 y B1 b o x d' (fun b hb hq=>hk b hb (hq.imp (fun q=>BC _ (hB1 b q)) id)) hr g k
 | i::is,.o s,d,v,B,b,o,x,d'=>fun hk r g k=>by
  simp only [AF] at r
  simp only [Wk] at k ⊢
  obtain ⟨b',o',cs,e,fz,y,hv,hb,hy,k⟩:=k
  rcases r with ⟨q | q,_⟩ | ⟨xs,rfl,r⟩
  ·subst q; simp [A9] at g
  ·cases d <;> simp [A9] at g <;> simp [D.flat] at q
  rcases r with ⟨rfl,_⟩ | ⟨b2,off2,cap2,cs2,e2,fz2,B',rfl,rfl,hb2,_,h1,_,_,he⟩
  ·exact hv.none.elim
  ·obtain ⟨rfl,hi,rfl⟩:=hv.slice
   rw [hb] at hb2
   injection hb2 with hb2
   injection hb2 with hc _ _
   subst hc
   refine ⟨b',_,cs,e,fz,y,hv,(hk b' (Cd hb) (.inl (by simp))).trans hb,hy,?_⟩
   rcases k with k | ⟨hne,k⟩
   ·exact .inl k
   ·refine .inr ⟨hne,?_⟩
    simp only [A9] at g
    cases hx:xs[i]? with
    | none=>simp [hx] at g
    | some d1=>
     simp only [hx,Option.bind_some] at g
     obtain ⟨u,B1,hu,hB1,hr⟩:=AK.get he hx
     rw [D8,hy] at hu
     injection hu with hu
     subst hu
     exact Wk.own is s d1 y B1 b o x d' (fun b hb hq=>hk b hb (hq.imp (fun q=>BC _ (hB1 b q)) id)) hr g k
theorem AF.Ss {fid:Nat→Nat} {h:Array Obj} {O X:Nat→Prop} {s:Sh} {xs:List D} {b:Nat} {B:List Nat} (r:AF fid h O X s (.g xs) (.pointer (some ⟨b,0,none⟩)) B):
  ∃ s' cs e B',s=.b s'∧B=b::B'∧h[b]?=some (.cells cs e (0,0))∧cs.size=xs.length∧AK (AF fid h O X s') xs cs.toList B':=by
 cases s with
 | v=>simp [AF,Rd] at r
 | y=>simp [AF,Rd] at r
 | o s=>simp [AF,D.flat] at r
 | a s=>simp [AF] at r
 | m=>simp [AF] at r
 | b s=>
  simp only [AF] at r
  obtain ⟨xs',b',cs,e,fz,B',h1,h2,h3,h4,h5,h6,h7⟩:=r
  injection h1 with h1
  injection h3 with h3
  injection h3 with h3
  injection h3 with h3
  subst h1 h3
  have:fz=(0,0):=h5
  subst this
  exact ⟨s,cs,e,B',rfl,h2,h4,h6,h7⟩
theorem Ae.imp {E:Nat→D} {g:Gd} {p q:Prop} (h:Ae E g→p) (f:p→q):Ae E g→q:=fun k=>f (h k)
theorem Av.step {c:Cx} {F F':Fact→Prop} {E:Nat→D} {a a':Act} {w w':World} {vs vs':Nat→Value} {Bs Bs':Nat→List Nat}
  (New kill S:Nat→Prop) (dst:Option Nat) (H:Av c F E a w vs Bs)
  (hv:∀ n,¬ New n→vs' n=vs n) (hB:∀ n,¬ New n→Bs' n=Bs n)
  (fr2:∀ t l,F (.sl t l)→∀ n∈l.AZ,¬ New n)
  (hS:∀ b,S b→∃ n s,F (.en n s)∧kill n∧b∈Bs n)
  (ha:Af S w.heap w'.heap) (hos:w'.os=w.os) (htape:w'.tape=w.tape) (hout:w'.output=w.output)
  (tm:∀ t,some t≠dst→a'.tmps[t]?=a.tmps[t]?) (sz:a'.tmps.size=a.tmps.size) (df:a'.defers=a.defers)
  (hF:∀ f,F' f→(F f∧(match f with | .en n _=>¬ kill n | .sl t _=>some t≠dst))∨(match f with | .en n _=>New n | .sl t _=>some t=dst))
  (own':∀ n s,New n→F' (.en n s)→AF c.fid w'.heap (fun b=>DO F Bs kill b∨∃ m,New m∧b∈Bs' m) c.Xb s (E n) (vs' n) (Bs' n))
  (nd':∀ n s,New n→F' (.en n s)→(Bs' n).Nodup)
  (bl':∀ n s,New n→F' (.en n s)→∀ b∈Bs' n,(∃ m r,F (.en m r)∧kill m∧b∈Bs m)∨w.heap.size≤b)
  (ap':∀ n s m r,New n→New m→F' (.en n s)→F' (.en m r)→n≠m→∀ b∈Bs' n,b∉Bs' m)
  (loc':∀ t l,some t=dst→F' (.sl t l)→FF w'.heap E vs' (fun b=>DO F Bs kill b∨∃ m,New m∧b∈Bs' m) (alive F') a'.tmps t l):
  Av c F' E a' w' vs' Bs':=by
 have hSO:∀ b,S b→OB F Bs b:=fun b hb=>let ⟨n,s,h1,_,h3⟩:=hS b hb; ⟨n,s,h1,h3⟩
 have old:∀ n s,F' (.en n s)→¬ New n→F (.en n s)∧¬ kill n:=fun n s h hn=>(hF _ h).resolve_right hn
 have hO:∀ b,b<w.heap.size→OB F' Bs' b→OB F Bs b:=by
  rintro b lt ⟨n,s,hf,hb⟩
  by_cases hn:New n
  ·rcases bl' n s hn hf b hb with ⟨m,r,h1,_,h3⟩ | h
   ·exact ⟨m,r,h1,h3⟩
   ·omega
  ·exact ⟨n,s,(old n s hf hn).1,hB n hn ▸ hb⟩
 have hO2:∀ b,OB F' Bs' b→DO F Bs kill b∨∃ m,New m∧b∈Bs' m:=by
  rintro b ⟨n,s,hf,hb⟩
  by_cases hn:New n
  ·exact .inr ⟨n,hn,hb⟩
  ·exact .inl ⟨n,s,(old n s hf hn).1,(old n s hf hn).2,hB n hn ▸ hb⟩
 have notS:∀ n s,F (.en n s)→¬ kill n→∀ b∈Bs n,¬ S b:=by
  intro n s hf hk b hb hs
  obtain ⟨m,r,h1,h2,h3⟩:=hS b hs
  exact H.apart n s m r hf h1 (fun e=>hk (e ▸ h2)) b hb h3
 have keepB:∀ n s,F (.en n s)→¬ kill n→∀ b,b<w.heap.size→(b∈Bs n∨¬ OB F Bs b)→w'.heap[b]?=w.heap[b]?:=by
  intro n s hf hk b lt hb
  refine ha.same b lt fun hs=>?_
  rcases hb with hb | hb
  ·exact notS n s hf hk b hb hs
  ·exact hb (hSO b hs)
 constructor
 ·intro n s hf
  by_cases hn:New n
  ·exact AF.ext (Af.refl (fun _=>False) _) (fun _ _ q=>q.elim) (fun b _ q=>hO2 b q) s _ _ _ (fun _ _ q=>q) (own' n s hn hf)
  ·obtain ⟨h1,h2⟩:=old n s hf hn
   rw [hv n hn,hB n hn]
   exact AF.ext ha (fun b _=>hSO b) hO s _ _ _ (notS n s h1 h2) (H.own n s h1)
 ·intro n s hf
  by_cases hn:New n
  ·exact nd' n s hn hf
  ·rw [hB n hn]; exact H.nodup n s (old n s hf hn).1
 ·intro n s hf b hb
  by_cases hn:New n
  ·rcases bl' n s hn hf b hb with ⟨m,r,h1,_,h3⟩ | h
   ·exact H.mine m r h1 b h3
   ·exact .inl (Nat.le_trans H.agr.size h)
  ·exact H.mine n s (old n s hf hn).1 b (hB n hn ▸ hb)
 ·intro n s m r hf hg hne b hb hb2
  have lt_of:∀ n s,F (.en n s)→∀ b∈Bs n,b<w.heap.size:=fun n s h=>AF.EP s _ _ _ (H.own n s h)
  by_cases hn:New n <;> by_cases hm:New m
  ·exact ap' n s m r hn hm hf hg hne b hb hb2
  ·obtain ⟨h1,h2⟩:=old m r hg hm
   rw [hB m hm] at hb2
   rcases bl' n s hn hf b hb with ⟨k,q,k1,k2,k3⟩ | h
   ·exact H.apart k q m r k1 h1 (fun e=>h2 (e ▸ k2)) b k3 hb2
   ·have:=lt_of m r h1 b hb2; omega
  ·obtain ⟨h1,h2⟩:=old n s hf hn
   rw [hB n hn] at hb
   rcases bl' m r hm hg b hb2 with ⟨k,q,k1,k2,k3⟩ | h
   ·exact H.apart k q n s k1 h1 (fun e=>h2 (e ▸ k2)) b k3 hb
   ·have:=lt_of n s h1 b hb; omega
  ·rw [hB n hn] at hb; rw [hB m hm] at hb2
   exact H.apart n s m r (old n s hf hn).1 (old m r hg hm).1 hne b hb hb2
 ·intro t l hf
  by_cases hd:some t=dst
  ·have:=loc' t l hd hf
   cases l with
   | is n g=>exact this
   | vc n g=>
    intro hg
    obtain ⟨b,o,cs,e,fz,k1,k2,k3,k4⟩:=this hg
    exact ⟨b,o,cs,e,fz,k1,k2,k3,fun q=>k4 (hO2 b q)⟩
   | ad r p m g=>exact this
   | ip r p m g=>exact this
   | tu ns g=>exact this
   | aw r p g=>exact this
   | ia r m g=>exact this
   | bx n g=>
    intro hg
    obtain ⟨b,cs,e,fz,k1,k2,k3,k4⟩:=this hg
    exact ⟨b,cs,e,fz,k1,k2,k3,fun q=>k4 (hO2 b q)⟩
   | ag r g=>exact this
   | lh n g=>exact this
   | sa n e g=>exact this
   | fv f ns g=>exact this
   | fb f ns g=>
    intro hg
    obtain ⟨b,cs,e,fz,k1,k2,k3,k4⟩:=this hg
    exact ⟨b,cs,e,fz,k1,k2,k3,fun q=>k4 (hO2 b q)⟩
  ·have hfo:=((hF _ hf).resolve_right hd).1
   have hl:=H.loc t l hfo
   have hm:=fr2 t l hfo
   cases l with
   | is n g=>
    refine ⟨fun hg=>?_,fun hg=>?_⟩
    ·rw [tm t hd,hv n (hm n (by simp [Loc.AZ]))]; exact hl.1 hg
    ·rw [tm t hd]; exact hl.2 hg
   | vc n g=>
    intro hg
    obtain ⟨b,o,cs,e,fz,k1,k2,k3,k4⟩:=hl hg
    have lt:=Cd k2
    exact ⟨b,o,cs,e,fz,(tm t hd).trans k1,(ha.same b lt fun q=>k4 (hSO b q)).trans k2,by rw [hv n (hm n (by simp [Loc.AZ]))]; exact k3,fun q=>k4 (hO b lt q)⟩
   | ad r p m g=>
    intro hg hal
    obtain ⟨s,hs⟩:=hal
    have hr:¬ New r:=hm r (by simp [Loc.AZ])
    obtain ⟨h1,h2⟩:=old r s hs hr
    obtain ⟨is,b,o,d,k1,k2,k3,k4⟩:=hl hg ⟨s,h1⟩
    refine ⟨is,b,o,d,k1,k2,?_,(tm t hd).trans k4⟩
    rw [hv r hr,hv m (hm m (by simp [Loc.AZ]))]
    exact Wk.own is s _ _ _ b o _ d (keepB r s h1 h2) (H.own r s h1) k2 k3
   | ip r p m g=>
    intro hg hal
    obtain ⟨s,hs⟩:=hal
    have hr:¬ New r:=hm r (by simp [Loc.AZ])
    obtain ⟨h1,h2⟩:=old r s hs hr
    obtain ⟨is,b,o,d,k1,k2,k3,k4⟩:=hl hg ⟨s,h1⟩
    refine ⟨is,b,o,d,k1,k2,?_,?_⟩
    ·rw [hv r hr,hv m (hm m (by simp [Loc.AZ]))]
     exact Wk.own is s _ _ _ b o _ d (keepB r s h1 h2) (H.own r s h1) k2 k3
    ·rw [tm t hd,hv m (hm m (by simp [Loc.AZ]))]; exact k4
   | tu ns g=>
    intro hg
    rw [tm t hd,hl hg]
    congr 3
    exact List.map_congr_left fun n hn=>(hv n (hm n (by simpa [Loc.AZ] using hn))).symm
   | aw r p g=>
    intro hg hal
    obtain ⟨s,hs⟩:=hal
    have hr:¬ New r:=hm r (by simp [Loc.AZ])
    obtain ⟨h1,h2⟩:=old r s hs hr
    obtain ⟨is,b,o,d,x,k1,k2,k3,k4⟩:=hl hg ⟨s,h1⟩
    refine ⟨is,b,o,d,x,k1,k2,?_,(tm t hd).trans k4⟩
    rw [hv r hr]
    exact Wk.own is s _ _ _ b o _ d (keepB r s h1 h2) (H.own r s h1) k2 k3
   | ia r m g=>
    intro hg hal
    obtain ⟨s,hs⟩:=hal
    have hr:¬ New r:=hm r (by simp [Loc.AZ])
    have hm':¬ New m:=hm m (by simp [Loc.AZ])
    obtain ⟨h1,h2⟩:=old r s hs hr
    obtain ⟨xs,b,cs,e,fz,k1,k2,k3,k4,k5,k6⟩:=hl hg ⟨s,h1⟩
    have ho:=H.own r s h1
    rw [k1,k3] at ho
    obtain ⟨s',cs',e',B',_,hB',_⟩:=ho.Ss
    refine ⟨xs,b,cs,e,fz,k1,k2,by rw [hv r hr]; exact k3,?_,by rw [hv m hm']; exact k5,by rw [hv m hm']; exact (tm t hd).trans k6⟩
    exact (keepB r s h1 h2 b (Cd k4) (.inl (by rw [hB']; simp))).trans k4
   | bx n g=>
    intro hg
    obtain ⟨b,cs,e,fz,k1,k2,k3,k4⟩:=hl hg
    have lt:=Cd k2
    exact ⟨b,cs,e,fz,(tm t hd).trans k1,(ha.same b lt fun q=>k4 (hSO b q)).trans k2,by rw [hv n (hm n (by simp [Loc.AZ]))]; exact k3,fun q=>k4 (hO b lt q)⟩
   | ag r g=>
    intro hg hal
    obtain ⟨s,hs⟩:=hal
    have hr:¬ New r:=hm r (by simp [Loc.AZ])
    obtain ⟨h1,h2⟩:=old r s hs hr
    obtain ⟨xs,b,cs,e,fz,k1,k3,k4,k6⟩:=hl hg ⟨s,h1⟩
    have ho:=H.own r s h1
    rw [k1,k3] at ho
    obtain ⟨s',cs',e',B',_,hB',_⟩:=ho.Ss
    refine ⟨xs,b,cs,e,fz,k1,by rw [hv r hr]; exact k3,?_,(tm t hd).trans k6⟩
    exact (keepB r s h1 h2 b (Cd k4) (.inl (by rw [hB']; simp))).trans k4
   | lh n g=>
    intro hg
    obtain ⟨xs,ad,len,cap,k1,k2,k3,k4,k5⟩:=hl hg
    have hn:=hv n (hm n (by simp [Loc.AZ]))
    exact ⟨xs,ad,len,cap,k1,by rw [hn]; exact k2,k3,k4,by rw [tm t hd,hn]; exact k5⟩
   | sa n e g=>
    intro hg
    obtain ⟨i,b,o,k1,k2,k3⟩:=hl hg
    have hn:=hv n (hm n (by simp [Loc.AZ]))
    exact ⟨i,b,o,k1,by rw [hn]; exact k2,(tm t hd).trans k3⟩
   | fv f ns g=>
    intro hg
    rw [tm t hd,hl hg]
    have e:ns.map vs=ns.map vs':=List.map_congr_left fun n hn=>(hv n (hm n (by simpa [Loc.AZ] using hn))).symm
    rw [e]
   | fb f ns g=>
    intro hg
    obtain ⟨b,cs,e,fz,k1,k2,k3,k4⟩:=hl hg
    have lt:=Cd k2
    have e':ns.map vs=ns.map vs':=List.map_congr_left fun n hn=>(hv n (hm n (by simpa [Loc.AZ] using hn))).symm
    rw [e'] at k3
    exact ⟨b,cs,e,fz,(tm t hd).trans k1,(ha.same b lt fun q=>k4 (hSO b q)).trans k2,k3,fun q=>k4 (hO b lt q)⟩
 ·refine ⟨Nat.le_trans H.agr.size ha.size,fun b hb hn=>(ha.same b (Nat.lt_of_lt_of_le hb H.agr.size) fun hs=>?_).trans (H.agr.same b hb hn)⟩
  obtain ⟨m,r,h1,_,h3⟩:=hS b hs
  rcases H.mine m r h1 b h3 with q | q
  ·omega
  ·exact hn q
 ·exact hos.trans H.os
 ·exact htape.trans H.tape
 ·exact hout.trans H.output
 ·exact df.trans H.defers
 ·exact sz.trans H.size
theorem Av.more {c:Cx} {F G:Fact→Prop} {E:Nat→D} {a:Act} {w:World} {vs:Nat→Value} {Bs:Nat→List Nat} (H:Av c F E a w vs Bs)
  (hen:∀ n s,G (.en n s)↔F (.en n s)) (hsl:∀ t l,G (.sl t l)→F (.sl t l)∨∃ n g r,l=.is n g∧F (.sl t (.is r g))∧vs n=vs r):Av c G E a w vs Bs:=by
 have hOB:OB G Bs=OB F Bs:=by
  funext b
  simp only [OB,hen]
 have hal:alive G=alive F:=by
  funext n
  simp only [alive,hen]
 constructor
 ·intro n s h; rw [hOB]; exact H.own n s ((hen n s).1 h)
 ·intro n s h; exact H.nodup n s ((hen n s).1 h)
 ·intro n s h; exact H.mine n s ((hen n s).1 h)
 ·intro n s m r h h2; exact H.apart n s m r ((hen n s).1 h) ((hen m r).1 h2)
 ·intro t l h
  rw [hOB,hal]
  rcases hsl t l h with h | ⟨n,g,r,rfl,h1,h2⟩
  ·exact H.loc t l h
  ·have:=H.loc t _ h1
   refine ⟨fun hg=>?_,this.2⟩
   rw [h2]; exact this.1 hg
 ·exact H.agr
 ·exact H.os
 ·exact H.tape
 ·exact H.output
 ·exact H.defers
 ·exact H.size
theorem Av.EO {c:Cx} {F G:Fact→Prop} {E:Nat→D} {a:Act} {w:World} {vs:Nat→Value} {Bs:Nat→List Nat} (H:Av c F E a w vs Bs)
  (hen:∀ n s,G (.en n s)↔F (.en n s)) (hsl:∀ t l,G (.sl t l)→F (.sl t l)∨FF w.heap E vs (OB F Bs) (alive F) a.tmps t l):Av c G E a w vs Bs:=by
 have hOB:OB G Bs=OB F Bs:=by
  funext b
  simp only [OB,hen]
 have hal:alive G=alive F:=by
  funext n
  simp only [alive,hen]
 constructor
 ·intro n s h; rw [hOB]; exact H.own n s ((hen n s).1 h)
 ·intro n s h; exact H.nodup n s ((hen n s).1 h)
 ·intro n s h; exact H.mine n s ((hen n s).1 h)
 ·intro n s m r h h2; exact H.apart n s m r ((hen n s).1 h) ((hen m r).1 h2)
 ·intro t l h
  rw [hOB,hal]
  exact (hsl t l h).elim (H.loc t l) id
 ·exact H.agr
 ·exact H.os
 ·exact H.tape
 ·exact H.output
 ·exact H.defers
 ·exact H.size
def slotsOf (st:List Fact) (r:Nat):List (Nat×Gd):=st.filterMap fun f=>match f with
 | .sl t (.is n g)=>if n=r then some (t,g) else none
 | _=>none
theorem D6.HM {c:Cx} {F F':Fact→Prop} {E:Nat→D} {a:Act} {w:World} (h:D6 c F E a w) (hF:∀ f,F' f→F f):D6 c F' E a w:=by
 obtain ⟨vs,Bs,H⟩:=h
 have hO:∀ b,OB F' Bs b→OB F Bs b:=fun b ⟨n,s,h1,h2⟩=>⟨n,s,hF _ h1,h2⟩
 refine ⟨vs,Bs,?_,fun n s h=>H.nodup n s (hF _ h),fun n s h=>H.mine n s (hF _ h),fun n s m r h k=>H.apart n s m r (hF _ h) (hF _ k),?_,H.agr,H.os,H.tape,H.output,H.defers,H.size⟩
 ·intro n s h
  exact AF.ext (Af.refl (fun _=>False) _) (fun _ _ q=>q.elim) (fun b _=>hO b) s _ _ _ (fun _ _ q=>q) (H.own n s (hF _ h))
 ·intro t l h
  have:=H.loc t l (hF _ h)
  cases l with
  | is n g=>exact this
  | vc n g=>
   intro hg
   obtain ⟨b,o,cs,e,fz,k1,k2,k3,k4⟩:=this hg
   exact ⟨b,o,cs,e,fz,k1,k2,k3,fun q=>k4 (hO b q)⟩
  | ad r p m g=>exact fun hg ⟨s,hs⟩=>this hg ⟨s,hF _ hs⟩
  | ip r p m g=>exact fun hg ⟨s,hs⟩=>this hg ⟨s,hF _ hs⟩
  | tu ns g=>exact this
  | aw r p g=>exact fun hg ⟨s,hs⟩=>this hg ⟨s,hF _ hs⟩
  | ia r m g=>exact fun hg ⟨s,hs⟩=>this hg ⟨s,hF _ hs⟩
  | bx n g=>
   intro hg
   obtain ⟨b,cs,e,fz,k1,k2,k3,k4⟩:=this hg
   exact ⟨b,cs,e,fz,k1,k2,k3,fun q=>k4 (hO b q)⟩
  | ag r g=>exact fun hg ⟨s,hs⟩=>this hg ⟨s,hF _ hs⟩
  | lh n g=>exact this
  | sa n e g=>exact this
  | fv f ns g=>exact this
  | fb f ns g=>
   intro hg
   obtain ⟨b,cs,e,fz,k1,k2,k3,k4⟩:=this hg
   exact ⟨b,cs,e,fz,k1,k2,k3,fun q=>k4 (hO b q)⟩
theorem BR.mono {c:Cx} {F F':Fact→Prop} {E:Nat→D} {a:Act} {w:World} (h:BR c F E a w) (hF:∀ f,F' f→F f):BR c F' E a w:=⟨h.1.HM hF,h.2⟩
end Go.Cat
namespace Go.Cat
structure Sm where
 needs:List Fact
 kill:List Nat
 adds:List Fact
def next (F:Fact→Prop) (dst:Option Nat) (sm:Sm):Fact→Prop:=fun f=>
 (F f∧(match f with | .en n _=>n∉sm.kill | .sl t _=>some t≠dst))∨f∈sm.adds
structure CF where
 P:Program
 fid:Nat→Nat
 gof:Nat→Option Nat
 nt:Nat
 fx:List Nat:=[]
 cl:Option (Nat×Nat×List Nat):=none
structure CF.Fits (cf:CF) (c:Cx):Prop where
 P:c.P=cf.P
 fid:c.fid=cf.fid
 nt:c.nt=cf.nt
 gof:∀ f k,cf.gof f=some k→cf.fid k=f
 fx:∀ x∈c.fix,x.1∈cf.fx
 cl:∀ m k cs,cf.cl=some (m,k,cs)→∃ (b:Nat) (hs:Array Value) (e:TypeId) (fz:Nat×Nat) (vl:Nat→Value),(m,Value.pointer (some ⟨b,0,none⟩))∈c.fix∧(∀ t∈cs,(t,vl t)∈c.fix)∧
  c.w0.heap[b]?=some (.cells hs e fz)∧hs[0]?=some (.func (.func (cf.fid k)) #[] (cs.map vl).toArray)∧¬ c.Ab b
def Loc.isFb:Loc→Bool
 | .fb ..=>true
 | _=>false
def Bd:List Fact→Nat→Option Loc
 | [],_=>none
 | .sl t l::r,u=>if t=u∧l.isFb=false then some l else Bd r u
 | .en _ _::r,u=>Bd r u
def Bj:List Fact→Nat→Option Sh
 | [],_=>none
 | .en n s::r,m=>if n=m then some s else Bj r m
 | .sl _ _::r,m=>Bj r m
def DF:Value→Option D
 | .int k n=>some (.i k n)
 | .bool b=>some (.b b)
 | .string s=>if s.size≤4294967296 then some (.s (s.data.toList.map (·.toNat))) else none
 | .pointer none=>some .z
 | .slice none 0 0=>some (.l [])
 | _=>none
def AW (cf:CF) (st:List Fact) (g:Gd):Operand→Option (A×Sh×List Fact)
 | .const v=>(DF v).map fun d=>(.c d,.v,[])
 | .func f=>(cf.gof f).map fun k=>(.c (.f k []),.v,[])
 | .tmp t=>match Bd st t with
  | some (.is n g')=>if g'.isPrefixOf g then (Bj st n).map fun s=>(.e n,s,[.sl t (.is n g'),.en n s]) else none
  | _=>none
 | .global _=>none
theorem AEB {v:Value} (h:DF v=some (.l [])):v=.slice none 0 0:=by
 unfold DF at h
 split at h <;> try (injection h with h; cases h)
 ·split at h
  ·injection h with h; cases h
  ·cases h
 ·rfl
 ·cases h
theorem JQ {fid:Nat→Nat} {h:Array Obj} {Z:Nat→Prop} {v:Value} {d:D} (e:DF v=some d):Rd fid h Z d v:=by
 unfold DF at e
 split at e
 ·injection e with e; subst e; simp [Rd]
 ·injection e with e; subst e; simp [Rd]
 ·rename_i s
  split at e
  ·rename_i hs
   injection e with e; subst e
   simp only [Rd,BE]
   refine ⟨?_,?_,?_⟩
   ·congr 1
    apply ByteArray.ext
    simp only [List.map_map]
    apply Array.ext'
    have:((fun c=>UInt8.ofNat c) ∘ fun x:UInt8=>x.toNat)=id:=by funext x; simp
    simp [this]
   ·intro c hc
    simp only [List.mem_map] at hc
    obtain ⟨x,_,rfl⟩:=hc
    exact x.toNat_lt
   ·simp only [List.length_map,Array.length_toList]
    have:s.data.size=s.size:=rfl
    omega
  ·simp at e
 ·injection e with e; subst e; simp [Rd]
 ·injection e with e; subst e; simp [Rd]
 ·simp at e
theorem FT {cf:CF} {c:Cx} (hc:cf.Fits c) {st:List Fact} {g:Gd} {x:Operand} {A:A} {s:Sh} {ns:List Fact} (h:AW cf st g x=some (A,s,ns))
  {F:Fact→Prop} {E:Nat→D} {a:Act} {w:World} {vs:Nat→Value} {Bs:Nat→List Nat} (H:Av c F E a w vs Bs) (hF:∀ f∈ns,F f) (hg:Ae E g):
  ∃ B,AF c.fid w.heap (OB F Bs) c.Xb s (ev E A) (a.eval x) B∧(∀ n,A=.e n→F (.en n s)∧a.eval x=vs n∧B=Bs n):=by
 cases x with
 | const v=>
  simp only [AW,A7] at h
  obtain ⟨d,hd,h⟩:=h
  simp only [AI] at h
  obtain ⟨rfl,rfl,rfl⟩:=h
  exact ⟨[],by simp only [AF,ev]; exact ⟨trivial,JQ hd⟩,by simp⟩
 | func f=>
  simp only [AW,A7] at h
  obtain ⟨k,hk,h⟩:=h
  simp only [AI] at h
  obtain ⟨rfl,rfl,rfl⟩:=h
  refine ⟨[],?_,by simp⟩
  simp only [AF,ev,Rd]
  refine ⟨trivial,#[],?_,rfl,by simp [AN]⟩
  rw [hc.fid,hc.gof f k hk]
  rfl
 | global g=>simp [AW] at h
 | tmp t=>
  simp only [AW] at h
  split at h
  ·rename_i n g' hl
   split at h
   ·rename_i hg'
    simp only [A7] at h
    obtain ⟨s',hs,h⟩:=h
    simp only [AI] at h
    obtain ⟨rfl,rfl,rfl⟩:=h
    have h1:=H.loc t _ (hF (.sl t (.is n g')) (by simp))
    have h2:=hF (.en n s') (by simp)
    have h3:Ae E g':=fun x hx=>hg x ((List.isPrefixOf_iff_prefix.1 hg').subset hx)
    have h4:=h1.1 h3
    have h5:a.eval (.tmp t)=vs n:=by simp [Act.eval,Bp,h4]
    refine ⟨Bs n,?_,?_⟩
    ·rw [h5]; exact H.own n s' h2
    ·intro m hm; injection hm with hm; subst hm; exact ⟨h2,h5,rfl⟩
   ·simp at h
  ·simp at h
section
variable {fid:Nat→Nat} {h:Array Obj} {O X:Nat→Prop} {v:Value} {B:List Nat}
theorem AF.GP {s:Sh} {d:D} (hd:d.flat=true) (o:AF fid h O X s d v B):Rd fid h (fun _=>False) d v:=by
 cases s with
 | v=>simp only [AF] at o; exact o.2.flat hd
 | y=>simp only [AF] at o; exact o.2.flat hd
 | o s=>
  simp only [AF] at o
  rcases o with ⟨q | q,_⟩ | ⟨xs,rfl,_⟩
  ·subst q; simp [D.flat] at hd
  ·exact q.2
  ·simp [D.flat] at hd
 | a s=>simp only [AF] at o; obtain ⟨xs,cs,rfl,_⟩:=o; simp [D.flat] at hd
 | b s=>simp only [AF] at o; obtain ⟨xs,b,cs,e,fz,B',rfl,_⟩:=o; simp [D.flat] at hd
 | m=>simp only [AF] at o; obtain ⟨xs,b,es,ck,rfl,_⟩:=o; simp [D.flat] at hd
theorem AF.int {s:Sh} {k:IntKind} {n:Int} (o:AF fid h O X s (.i k n) v B):v=.int k n:=by
 simpa [Rd] using o.GP rfl
theorem AF.bool {s:Sh} {b:Bool} (o:AF fid h O X s (.b b) v B):v=.bool b:=by
 simpa [Rd] using o.GP rfl
theorem AF.str {s:Sh} {x:List Nat} (o:AF fid h O X s (.s x) v B):v=BE x∧(∀ c∈x,c<256)∧x.length≤9223372036854775807:=by
 simpa [Rd] using o.GP rfl
theorem AF.len {s:Sh} {xs:List D} (o:AF fid h O X s (.l xs) v B):∃ a cap,v=.slice a xs.length cap∧xs.length≤9223372036854775807:=by
 cases s with
 | v=>
  simp only [AF,Rd] at o
  rcases o.2 with ⟨rfl,a0,rfl⟩ | ⟨b,off,cap,cs,e,fz,rfl,_,_,_,h⟩
  ·exact ⟨a0,0,rfl,by simp⟩
  ·exact ⟨_,_,rfl,h.2⟩
 | y=>
  simp only [AF,Rd] at o
  rcases o.2 with ⟨rfl,a0,rfl⟩ | ⟨b,off,cap,cs,e,fz,rfl,_,_,_,h⟩
  ·exact ⟨a0,0,rfl,by simp⟩
  ·exact ⟨_,_,rfl,h.2⟩
 | o s=>
  simp only [AF] at o
  rcases o with ⟨q | q,_⟩ | ⟨ys,q,r⟩
  ·simp at q
  ·simp [D.flat] at q
  ·injection q with q
   subst q
   rcases r with ⟨rfl,rfl,_⟩ | ⟨b,off,cap,cs,e,fz,B',_,rfl,_,_,h1,_,h,_⟩
   ·exact ⟨none,0,rfl,by simp⟩
   ·exact ⟨_,_,rfl,Nat.le_trans h1 h⟩
 | a s=>simp [AF] at o
 | b s=>simp [AF] at o
 | m=>simp [AF] at o
end
def AP {α:Type} (f:Nat→α) (m:Nat) (v:α):Nat→α:=fun n=>if n=m then v else f n
theorem Au {α:Type} (f:Nat→α) (m:Nat) (v:α):AP f m v m=v:=by simp [AP]
theorem BO {α:Type} (f:Nat→α) {m n:Nat} (v:α) (h:n≠m):AP f m v n=f n:=by simp [AP,h]
def BX (F:Fact→Prop) (m:Nat):Prop:=(∀ s,¬ F (.en m s))∧∀ t l,F (.sl t l)→m∉l.AZ
def AR (c:Cx) (o:Oper) (sm:Sm) (F:Fact→Prop) (E:Nat→D) (a:Act) (w:World):Prop:=
 ∀ (nxt:Act→World→Prop) (Q:Exit→Act→World→Prop),(∀ a' w',D6 c (next F o.dst sm) E a' w'→nxt a' w')→o.wp c.P a w nxt Q
theorem AR.BQ {c:Cx} {o:Oper} {sm:Sm} {F:Fact→Prop} {E:Nat→D} {a:Act} {w w':World} {v:Value} (hr:(execOp a.eval o).run c.P w=.ok (.value v) w')
  (hh:D6 c (next F o.dst sm) E (a.put o.dst v) w'):AR c o sm F E a w:=by
 intro nxt Q hn
 simp only [Oper.wp,hr,Oper.upon]
 exact hn _ _ hh
theorem DT {a:Act} {dst:Option Nat} {v:Value} {t:Nat} (h:some t≠dst):(a.put dst v).tmps[t]?=a.tmps[t]?:=by
 cases dst with
 | none=>rfl
 | some d=>
  have:d≠t:=fun e=>h (by rw [e])
  simp [Act.put,Array.getElem?_setIfInBounds_ne this]
theorem EX {a:Act} {v:Value} {t:Nat} (h:t<a.tmps.size):(a.put (some t) v).tmps[t]?=some v:=by
 simp [Act.put,h]
theorem Fz {a:Act} {dst:Option Nat} {v:Value}:(a.put dst v).tmps.size=a.tmps.size:=by
 cases dst <;> simp [Act.put]
theorem put_defers {a:Act} {dst:Option Nat} {v:Value}:(a.put dst v).defers=a.defers:=by
 cases dst <;> rfl
def one (m:Nat) (s:Sh) (dst:Option Nat) (l:Loc):List Fact:=
 .en m s::(match dst with | some t=>[.sl t l] | none=>[])
def BN (dst:Option Nat) (nt:Nat):Bool:=match dst with | some t=>decide (t<nt) | none=>true
theorem Av.leaf {c:Cx} {F:Fact→Prop} {E:Nat→D} {a:Act} {w w':World} {vs:Nat→Value} {Bs:Nat→List Nat} (H:Av c F E a w vs Bs)
  {m:Nat} (hm:BX F m) {s:Sh} {v u:Value} {dst:Option Nat} {ns:List Fact} {l:Loc} (hd:BN dst c.nt=true)
  (hw:w'.heap=w.heap∧w'.os=w.os∧w'.tape=w.tape∧w'.output=w.output)
  (hown:AF c.fid w.heap (OB F Bs) c.Xb s (E m) v []) (kill:List Nat)
  (hl:∀ tm:Array Value,(∀ t,dst=some t→tm[t]?=some u)→∀ t,dst=some t→FF w.heap E (AP vs m v) (OB F Bs) (alive (next F dst ⟨ns,kill,one m s dst l⟩)) tm t l):
  Av c (next F dst ⟨ns,kill,one m s dst l⟩) E (a.put dst u) w' (AP vs m v) (AP Bs m []):=by
 have hnew:∀ f,f∈one m s dst l→(f=.en m s)∨∃ t,dst=some t∧f=.sl t l:=by
  intro f hf
  unfold one at hf
  cases dst with
  | none=>simp at hf; exact .inl hf
  | some t=>simp at hf; rcases hf with hf | hf; exact .inl hf; exact .inr ⟨t,rfl,hf⟩
 refine Av.step (fun n=>n=m) (fun n=>n∈kill) (fun _=>False) dst H (fun n hn=>BO vs v hn) (fun n hn=>BO Bs [] hn)
  (fun t l hl n hn e=>hm.2 t l hl (e ▸ hn)) (fun _ q=>q.elim) (by rw [hw.1]; exact Af.refl _ _) hw.2.1 hw.2.2.1 hw.2.2.2
  (fun t ht=>DT ht) Fz put_defers ?_ ?_ ?_ ?_ ?_ ?_
 ·rintro f (⟨h1,h2⟩ | h)
  ·left; refine ⟨h1,?_⟩; cases f <;> exact h2
  ·right
   rcases hnew f h with rfl | ⟨t,ht,rfl⟩
   ·rfl
   ·exact ht.symm
 ·rintro n r rfl hf
  rcases hf with ⟨h1,_⟩ | h
  ·exact (hm.1 r h1).elim
  ·rcases hnew _ h with h | ⟨t,_,h⟩
   ·injection h with _ h; subst h
    rw [Au,Au,hw.1]
    exact AF.ext (Af.refl (fun _=>False) _) (fun _ _ q=>q.elim) (fun b _ q=>q.elim (fun ⟨n,s,h1,_,h3⟩=>⟨n,s,h1,h3⟩) (by rintro ⟨k,rfl,hk⟩; simp [Au] at hk)) _ _ _ _ (fun _ _ q=>q) hown
   ·simp at h
 ·rintro n r rfl _; rw [Au]; exact List.nodup_nil
 ·rintro n r rfl _; rw [Au]; simp
 ·rintro n r k q rfl rfl _ _ h; exact (h rfl).elim
 ·rintro t l' ht hf
  rcases hf with ⟨_,h2⟩ | h
  ·exact (h2 ht).elim
  ·rcases hnew _ h with h | ⟨t',ht',h⟩
   ·simp at h
   ·injection h with h1 h2; subst h1 h2
    have F2:∀ t,dst=some t→(a.put dst u).tmps[t]?=some u:=by
     intro t e; subst e
     exact EX (by rw [H.size]; simpa [BN] using hd)
    have:=hl (a.put dst u).tmps F2 t ht'
    have hO:∀ b,(DO F Bs (fun n=>n∈kill) b∨∃ k,k=m∧b∈AP Bs m [] k)→OB F Bs b:=fun b q=>q.elim (fun ⟨n,s,h1,_,h3⟩=>⟨n,s,h1,h3⟩) (by rintro ⟨k,rfl,hk⟩; simp [Au] at hk)
    rw [hw.1]
    cases l' with
    | vc n g=>
     intro hg
     obtain ⟨b,o,cs,e,fz,k1,k2,k3,k4⟩:=this hg
     exact ⟨b,o,cs,e,fz,k1,k2,k3,fun q=>k4 (hO b q)⟩
    | bx n g=>
     intro hg
     obtain ⟨b,cs,e,fz,k1,k2,k3,k4⟩:=this hg
     exact ⟨b,cs,e,fz,k1,k2,k3,fun q=>k4 (hO b q)⟩
    | fb f ns g=>
     intro hg
     obtain ⟨b,cs,e,fz,k1,k2,k3,k4⟩:=this hg
     exact ⟨b,cs,e,fz,k1,k2,k3,fun q=>k4 (hO b q)⟩
    | _=>exact this
theorem Av.KC {c:Cx} {F:Fact→Prop} {E:Nat→D} {a:Act} {w w':World} {vs:Nat→Value} {Bs:Nat→List Nat} (H:Av c F E a w vs Bs)
  {m:Nat} (hm:BX F m) {s:Sh} {v:Value} {dst:Option Nat} {ns:List Fact} (hd:BN dst c.nt=true)
  (hw:w'.heap=w.heap∧w'.os=w.os∧w'.tape=w.tape∧w'.output=w.output)
  (hown:AF c.fid w.heap (OB F Bs) c.Xb s (E m) v []) (kill:List Nat) {g:Gd} (hg:Ae E g):
  D6 c (next F dst ⟨ns,kill,one m s dst (.is m g)⟩) E (a.put dst v) w':=
 ⟨_,_,H.leaf hm hd hw hown kill fun tm htm t ht=>by
  refine ⟨fun _=>?_,fun q=>(q hg).elim⟩
  rw [Au]; exact htm t ht⟩
end Go.Cat
namespace Go.Cat
def Ai (K:Nat→List D→List D→Prop) (E:Nat→D) (AB:Nat):Pr→Prop
 | .nop=>True
 | .ca g xs r=>∃ rs:List D,K g (xs.map (ev E)) rs∧rs.length=r∧∀ j,j<r→rs[j]?=some (E (AB+j))
 | .cd f g xs r=>ev E f=.f g []∧∃ rs:List D,K g (xs.map (ev E)) rs∧rs.length=r∧∀ j,j<r→rs[j]?=some (E (AB+j))
 | .tk n=>IX (E n)=some (E AB)∧E (AB+1)=.g [.u]
 | .sp n p k=>F6 k (E n) (p.mapM (PE.ev E))=some (E AB,E (AB+1))
 | .sw n=>Jw (E n)=some (E AB,E (AB+1))
 | .mo n k d=>GI d (E n) (ev E k)=some (E AB,E (AB+1))
 | p=>AS E p=some (E AB)
section
variable (cf:CF) (st:List Fact) (AB:Nat) (o:Oper) (g:Gd)
def EC (p:Pr) (s:Sh) (ns:List Fact):Option (Pr×Sm):=
 if BN o.dst cf.nt=true∧p.np=1 then some (p,⟨ns,[],one AB s o.dst (.is AB g)⟩) else none
def JB (x:Operand) (k:Nat):Option (Pr×Sm):=
 match x with
 | .tmp t=>match o.dst with
  | some d=>if d<cf.nt then match Bd st t with
   | some (.is n g')=>if g'.isPrefixOf g then
     if g≠[]∧Bj st n=some .v then EC cf AB o g (.cy (.e n)) .v [.sl t (.is n g'),.en n .v]
     else some (.nop,⟨[.sl t (.is n g')],[],[.sl d (.is n g)]⟩)
    else none
   | _=>none
   else none
  | none=>none
 | .const v=>match DF v,k with
  | some (.l []),1=>EC cf AB o g (.cs (.o .v) (.l [])) (.o .v) []
  | some (.l []),2=>EC cf AB o g (.cs (.o (.o .v)) (.l [])) (.o (.o .v)) []
  | some d,_=>EC cf AB o g (.cs .v d) .v []
  | none,_=>none
 | .func f=>(cf.gof f).bind fun k=>EC cf AB o g (.cs .v (.f k [])) .v []
 | .global _=>none
def Ic (x y:Operand) (p:A→A→Pr):Option (Pr×Sm):=
 (AW cf st g x).bind fun a=>(AW cf st g y).bind fun b=>EC cf AB o g (p a.1 b.1) .v (a.2.2++b.2.2)
def J5 (x:Operand) (p:A→Pr):Option (Pr×Sm):=
 (AW cf st g x).bind fun a=>EC cf AB o g (p a.1) .v a.2.2
def SN (c x y:Operand):Option (Pr×Sm):=
 (AW cf st g c).bind fun a=>
  match a.1 with
  | .e n=>(AW cf st (g++[(n,true)]) x).bind fun b=>(AW cf st (g++[(n,false)]) y).bind fun d=>
    if b.2.1=.v∧d.2.1=.v then EC cf AB o g (.pk a.1 b.1 d.1) .v (a.2.2++(b.2.2++d.2.2)) else none
  | .c _=>none
end
def CT:D→Value
 | .i k n=>.int k n
 | .b x=>.bool x
 | .s x=>BE x
 | .z=>.pointer none
 | _=>undef
section
variable {P:Program} (w:World)
theorem ARS (op:BinOp) (t:TypeId) (x y:Operand) (k k':IntKind) (a b:Int):(eqGuard op t x y (.int k a) (.int k' b)).run P w=.ok () w:=by
 cases op <;> simp [eqGuard]
theorem ALT (op:BinOp) (t:TypeId) (x y:Operand) (a b:ByteArray):(eqGuard op t x y (.string a) (.string b)).run P w=.ok () w:=by
 cases op <;> simp [eqGuard]
theorem AOD (op:BinOp) (t:TypeId) (x y:Operand) (a b:Bool):(eqGuard op t x y (.bool a) (.bool b)).run P w=.ok () w:=by
 cases op <;> simp [eqGuard]
theorem AQ7 {op:BinOp} {t:TypeId} {k:IntKind} {a b:Int} {d:D} (h:D5 op k a b=some d):
  (binOp op t (.int k a) (.int k b)).run P w=.ok (CT d) w∧∀ (fid:Nat→Nat) (hp:Array Obj) (Z:Nat→Prop),Rd fid hp Z d (CT d):=by
 cases op <;> unfold D5 at h <;> dsimp only at h
 case quo=>
  split at h
  ·injection h
  ·rename_i hb
   injection h with h; subst h
   exact ⟨by simp [binOp,Op.intDiv,hb,CT],fun _ _ _=>by simp only [Rd,CT]⟩
 case rem=>
  split at h
  ·injection h
  ·rename_i hb
   injection h with h; subst h
   exact ⟨by simp [binOp,Op.intDiv,hb,CT],fun _ _ _=>by simp only [Rd,CT]⟩
 all_goals first
  | (injection h with h; subst h; exact ⟨by simp [binOp,Op.intArith,Op.intBits,Op.intCmp,CT],fun _ _ _=>by simp only [Rd,CT]⟩)
  | (injection h; done)
theorem APW {op:BinOp} {t:TypeId} {k k':IntKind} {a b:Int} {d:D} (h:BV op (.i k a) (.i k' b)=some d):
  (binOp op t (.int k a) (.int k' b)).run P w=.ok (CT d) w∧∀ (fid:Nat→Nat) (hp:Array Obj) (Z:Nat→Prop),Rd fid hp Z d (CT d):=by
 unfold BV at h
 dsimp only at h
 split at h
 ·split at h
  ·injection h
  ·rename_i hb
   injection h with h; subst h
   exact ⟨by simp [binOp,Op.shift,hb,CT],fun _ _ _=>by simp only [Rd,CT]⟩
 ·split at h
  ·injection h
  ·rename_i hb
   injection h with h; subst h
   exact ⟨by simp [binOp,Op.shift,hb,CT],fun _ _ _=>by simp only [Rd,CT]⟩
 ·split at h
  ·rename_i hk; subst hk
   exact AQ7 w h
  ·injection h
end
theorem AFD {x:List Nat} (h:∀ c∈x,c<256):(x.map fun c=>UInt8.ofNat c).map (·.toNat)=x:=by
 induction x with
 | nil=>rfl
 | cons c x ih=>
  simp only [List.map_cons,List.cons.injEq]
  refine ⟨?_,ih fun d hd=>h d (BC _ hd)⟩
  have:=h c (List.mem_cons_self ..)
  simp
  omega
theorem ofNat_inj {x y:List Nat} (hx:∀ c∈x,c<256) (hy:∀ c∈y,c<256) (h:x.map (fun c=>UInt8.ofNat c)=y.map fun c=>UInt8.ofNat c):x=y:=by
 rw [← AFD hx,← AFD hy,h]
theorem Uf:∀ (x y:List Nat),(∀ c∈x,c<256)→(∀ c∈y,c<256)→Op.bytesLess (x.map fun c=>UInt8.ofNat c) (y.map fun c=>UInt8.ofNat c)=JD x y
 | x,[]=>fun _ _=>by cases x <;> rfl
 | [],_::_=>fun _ _=>rfl
 | a::x,b::y=>fun hx hy=>by
  simp only [List.map_cons,Op.bytesLess,JD]
  rw [Uf x y (fun c hc=>hx c (BC _ hc)) (fun c hc=>hy c (BC _ hc))]
  have ha:=hx a (List.mem_cons_self ..)
  have hb:=hy b (List.mem_cons_self ..)
  have e1:(UInt8.ofNat a<UInt8.ofNat b)↔a<b:=by
   rw [UInt8.lt_iff_toNat_lt]; simp; omega
  have e2:(UInt8.ofNat a == UInt8.ofNat b)=(a == b):=by
   rw [Bool.eq_iff_iff]
   simp only [beq_iff_eq]
   constructor
   ·intro h
    have:=congrArg UInt8.toNat h
    simp at this
    omega
   ·rintro rfl; rfl
  rw [e2]
  congr 1
  exact decide_eq_decide.2 e1
theorem ARY (x:List Nat):(⟨(x.map fun c=>UInt8.ofNat c).toArray⟩:ByteArray).toList=x.map fun c=>UInt8.ofNat c:=by
 rw [ByteArray.toList_eq]
theorem Nw (x:List Nat):(⟨(x.map fun c=>UInt8.ofNat c).toArray⟩:ByteArray).size=x.length:=by
 simp [ByteArray.size]
theorem AGJ {x y:List Nat} (hx:∀ c∈x,c<256) (hy:∀ c∈y,c<256):((x.map fun c=>UInt8.ofNat c) == y.map fun c=>UInt8.ofNat c)=(x == y):=by
 rw [Bool.eq_iff_iff]
 simp only [beq_iff_eq]
 exact ⟨ofNat_inj hx hy,fun h=>h ▸ rfl⟩
section
variable {P:Program} (w:World)
theorem ANW {op:BinOp} {t:TypeId} {x y:List Nat} {d:D} (hx:∀ c∈x,c<256) (hy:∀ c∈y,c<256) (h:KZ op x y=some d):
  (binOp op t (BE x) (BE y)).run P w=.ok (CT d) w∧∀ (fid:Nat→Nat) (hp:Array Obj) (Z:Nat→Prop),Rd fid hp Z d (CT d):=by
 unfold BE
 cases op <;> unfold KZ at h <;> dsimp only at h
 case add=>
  split at h
  ·rename_i hb
   injection h with h; subst h
   unfold FG at hb
   refine ⟨?_,fun _ _ _=>?_⟩
   ·have hs:¬ (((x.length+y.length:Nat):Int) > IntKind.i64.max):=by
     have:IntKind.i64.max=9223372036854775807:=by decide
     rw [this]; omega
    have hb2:(⟨(x.map fun c=>UInt8.ofNat c).toArray⟩:ByteArray)++⟨(y.map fun c=>UInt8.ofNat c).toArray⟩=⟨((x++y).map fun c=>UInt8.ofNat c).toArray⟩:=by
     apply ByteArray.ext
     apply Array.ext'
     simp
    simp only [binOp,Op.stringOp,Nw,if_neg hs,hb2,CT]
    rfl
   ·simp only [Rd,CT]
    exact ⟨trivial,fun c hc=>(A8.1 hc).elim (hx c) (hy c),by simp; omega⟩
  ·injection h
 all_goals first
  | (injection h with h; subst h
     exact ⟨by simp only [binOp,Op.stringOp,ARY,AGJ hx hy,Uf x y hx hy,CT]; rfl,fun _ _ _=>by simp only [Rd,CT]⟩)
  | (injection h; done)
theorem run_equalIn_bool (n:Nat) {t:TypeId} {x y:Bool} (ht:P.underlying t=some .bool):(Op.equalIn (n+1) t (.bool x) (.bool y)).run P w=.ok (x == y) w:=by
 have hu:(underlying t).run P w=.ok .bool w:=by
  simp [underlying,ht]
 simp [Op.equalIn,hu,Result.andThen]
theorem ANN {op:BinOp} {t:TypeId} {x y:Bool} {d:D} (ht:P.underlying t=some .bool) (h:Fe op (.b x) (.b y)=some d):
  (binOp op t (.bool x) (.bool y)).run P w=.ok (CT d) w∧∀ (fid:Nat→Nat) (hp:Array Obj) (Z:Nat→Prop),Rd fid hp Z d (CT d):=by
 have he:(Op.equal t (.bool x) (.bool y)).run P w=.ok (x == y) w:=run_equalIn_bool w 9999 ht
 cases op <;> unfold Fe at h <;> dsimp only at h
 case eql=>
  injection h with h; subst h
  refine ⟨?_,fun _ _ _=>by simp only [Rd,CT]⟩
  show (Bind.bind (Op.equal t (.bool x) (.bool y)) fun b=>Pure.pure (Value.bool b)).run P w=_
  rw [Sem.run_bind,he]; rfl
 case neq=>
  injection h with h; subst h
  refine ⟨?_,fun _ _ _=>by simp only [Rd,CT]⟩
  show (Bind.bind (Op.equal t (.bool x) (.bool y)) fun b=>Pure.pure (Value.bool !b)).run P w=_
  rw [Sem.run_bind,he]; rfl
 all_goals (injection h; done)
end
end Go.Cat
namespace Go.Cat
structure At (cf:CF) (c:Cx) (F:Fact→Prop) (E:Nat→D) (a:Act) (w:World) (vs:Nat→Value) (Bs:Nat→List Nat) (AB:Nat) (g:Gd) (p:Pr) (sm:Sm):Prop where
 fits:cf.Fits c
 H:Av c F E a w vs Bs
 fresh:∀ j,j<p.np→BX F (AB+j)
 needs:∀ f∈sm.needs,F f
 g:Ae E g
 fix:c.fixed a
theorem At.AW {cf:CF} {c:Cx} {F:Fact→Prop} {E:Nat→D} {a:Act} {w:World} {vs:Nat→Value} {Bs:Nat→List Nat} {AB:Nat} {g:Gd} {p:Pr} {sm:Sm}
  (h:At cf c F E a w vs Bs AB g p sm) {st:List Fact} {x:Operand} {A:A} {s:Sh} {ns:List Fact} (hx:AW cf st g x=some (A,s,ns)) (hn:∀ f∈ns,f∈sm.needs):
  ∃ B,AF c.fid w.heap (OB F Bs) c.Xb s (ev E A) (a.eval x) B∧(∀ n,A=.e n→F (.en n s)∧a.eval x=vs n∧B=Bs n):=
 FT h.fits hx h.H (fun f hf=>h.needs f (hn f hf)) h.g
theorem Ee {cf:CF} {AB:Nat} {o:Oper} {g:Gd} {p p':Pr} {s:Sh} {ns:List Fact} {sm:Sm} (h:EC cf AB o g p s ns=some (p',sm)):
  p'=p∧(BN o.dst cf.nt=true∧p.np=1)∧sm=⟨ns,[],one AB s o.dst (.is AB g)⟩:=by
 unfold EC at h
 split at h
 ·rename_i hi
  simp only [AJ,AI] at h
  exact ⟨h.1.symm,hi,h.2.symm⟩
 ·simp at h
theorem Ec {cf:CF} {c:Cx} {F:Fact→Prop} {E:Nat→D} {a:Act} {w w':World} {vs:Nat→Value} {Bs:Nat→List Nat} {AB:Nat} {g:Gd} {s:Sh} {ns:List Fact} {o:Oper} {p:Pr}
  (h:At cf c F E a w vs Bs AB g p ⟨ns,[],one AB s o.dst (.is AB g)⟩) (hi:BN o.dst cf.nt=true∧p.np=1) {v:Value}
  (hw:w'.heap=w.heap∧w'.os=w.os∧w'.tape=w.tape∧w'.output=w.output)
  (hr:(execOp a.eval o).run c.P w=.ok (.value v) w') (hown:AF c.fid w.heap (OB F Bs) c.Xb s (E AB) v []):
  AR c o ⟨ns,[],one AB s o.dst (.is AB g)⟩ F E a w:=
 AR.BQ hr (h.H.KC (by simpa using h.fresh 0 (by omega)) (by rw [h.fits.nt]; exact hi.1) hw hown [] h.g)
theorem Br (w:World):w.heap=w.heap∧w.os=w.os∧w.tape=w.tape∧w.output=w.output:=⟨rfl,rfl,rfl,rfl⟩
theorem AF.IH {fid:Nat→Nat} {h:Array Obj} {O X:Nat→Prop} {d:D} {v:Value} (r:∀ Z,Rd fid h Z d v):AF fid h O X .v d v []:=by
 simp only [AF]; exact ⟨trivial,r _⟩
section
variable {cf:CF} {c:Cx} {F:Fact→Prop} {E:Nat→D} {a:Act} {w:World} {vs:Nat→Value} {Bs:Nat→List Nat} {AB:Nat} {g:Gd} {sm:Sm} {st:List Fact} {o:Oper} {p:Pr}
 {K:Nat→List D→List D→Prop}
theorem Mi {x y:Operand} {q:A→A→Pr} (ht:Ic cf st AB o g x y q=some (p,sm)) (h:At cf c F E a w vs Bs AB g p sm)
  (hq:∀ (α β:A) (s r:Sh) (B1 B2:List Nat),Ai K E AB (q α β)→AF c.fid w.heap (OB F Bs) c.Xb s (ev E α) (a.eval x) B1→AF c.fid w.heap (OB F Bs) c.Xb r (ev E β) (a.eval y) B2→
   ∃ v,(execOp a.eval o).run c.P w=.ok (.value v) w∧∀ Z,Rd c.fid w.heap Z (E AB) v) (hE:Ai K E AB p):AR c o sm F E a w:=by
 unfold Ic at ht
 simp only [AQ] at ht
 obtain ⟨⟨A1,s1,n1⟩,h1,⟨A2,s2,n2⟩,h2,h3⟩:=ht
 obtain ⟨rfl,hi,rfl⟩:=Ee h3
 obtain ⟨B1,o1,_⟩:=h.AW h1 (fun f hf=>Ay _ hf)
 obtain ⟨B2,o2,_⟩:=h.AW h2 (fun f hf=>Ak _ hf)
 obtain ⟨v,hr,hd⟩:=hq A1 A2 s1 s2 B1 B2 hE o1 o2
 exact Ec h hi (Br w) hr (AF.IH hd)
theorem Pf {x:Operand} {q:A→Pr} (ht:J5 cf st AB o g x q=some (p,sm)) (h:At cf c F E a w vs Bs AB g p sm)
  (hq:∀ (α:A) (s:Sh) (B1:List Nat),Ai K E AB (q α)→AF c.fid w.heap (OB F Bs) c.Xb s (ev E α) (a.eval x) B1→
   ∃ v,(execOp a.eval o).run c.P w=.ok (.value v) w∧∀ Z,Rd c.fid w.heap Z (E AB) v) (hE:Ai K E AB p):AR c o sm F E a w:=by
 unfold J5 at ht
 simp only [AQ] at ht
 obtain ⟨⟨A1,s1,n1⟩,h1,h3⟩:=ht
 obtain ⟨rfl,hi,rfl⟩:=Ee h3
 obtain ⟨B1,o1,_⟩:=h.AW h1 (fun f hf=>hf)
 obtain ⟨v,hr,hd⟩:=hq A1 s1 B1 hE o1
 exact Ec h hi (Br w) hr (AF.IH hd)
theorem AH5 {op:BinOp} {t:TypeId} {x y:Operand} {s r:Sh} {B1 B2:List Nat} {d1 d2 d:D} {v1 v2:Value} (he:BV op d1 d2=some d)
  (o1:AF c.fid w.heap (OB F Bs) c.Xb s d1 v1 B1) (o2:AF c.fid w.heap (OB F Bs) c.Xb r d2 v2 B2):
  (do eqGuard op t x y v1 v2; binOp op t v1 v2:Sem Value).run c.P w=.ok (CT d) w∧∀ Z,Rd c.fid w.heap Z d (CT d):=by
 unfold BV at he
 split at he
 ·rename_i k1 n1 k2 n2
  rw [o1.int,o2.int]
  have he':BV op (.i k1 n1) (.i k2 n2)=some d:=by unfold BV; exact he
  obtain ⟨h1,h2⟩:=APW (P:=c.P) w (t:=t) he'
  exact ⟨by rw [Sem.run_bind,ARS]; exact h1,fun Z=>h2 _ _ Z⟩
 ·rename_i x1 x2
  obtain ⟨e1,b1,_⟩:=o1.str
  obtain ⟨e2,b2,_⟩:=o2.str
  rw [e1,e2]
  obtain ⟨h1,h2⟩:=ANW (P:=c.P) w (t:=t) b1 b2 he
  exact ⟨by rw [Sem.run_bind]; unfold BE; rw [ALT]; exact h1,fun Z=>h2 _ _ Z⟩
 ·simp at he
theorem AHP {op:BinOp} {t:TypeId} {x y:Operand} {s r:Sh} {B1 B2:List Nat} {d1 d2 d:D} {v1 v2:Value} (ht:c.P.underlying t=some .bool) (he:Fe op d1 d2=some d)
  (o1:AF c.fid w.heap (OB F Bs) c.Xb s d1 v1 B1) (o2:AF c.fid w.heap (OB F Bs) c.Xb r d2 v2 B2):
  (do eqGuard op t x y v1 v2; binOp op t v1 v2:Sem Value).run c.P w=.ok (CT d) w∧∀ Z,Rd c.fid w.heap Z d (CT d):=by
 unfold Fe at he
 split at he
 ·rename_i x1 x2
  rw [o1.bool,o2.bool]
  have he':Fe op (.b x1) (.b x2)=some d:=by unfold Fe; exact he
  obtain ⟨h1,h2⟩:=ANN (P:=c.P) w ht he'
  exact ⟨by rw [Sem.run_bind,AOD]; exact h1,fun Z=>h2 _ _ Z⟩
 ·simp at he
theorem CE {x:Sem Value} {P:Program} {w w':World} {v:Value} (h:x.run P w=.ok v w'):(do pure (Next.value (← x)):Sem Next).run P w=.ok (.value v) w':=by
 rw [Sem.run_bind,h]; rfl
end
section
variable (cf:CF) (st:List Fact) (AB:Nat) (o:Oper) (g:Gd)
def isBool (P:Program) (t:TypeId):Bool:=match P.underlying t with | some .bool=>true | _=>false
def Ps (P:Program) (t:TypeId):Option IntKind:=match P.underlying t with | some (.int k)=>some k | _=>none
def isStr (P:Program) (t:TypeId):Bool:=match P.underlying t with | some .string=>true | _=>false
def Rj (P:Program) (t:TypeId):Option TypeId:=match P.underlying t with | some (.slice e)=>some e | _=>none
def Jl (k:Nat):Option (Pr×Sm):=
 match o.op with
 | .move x=>JB cf st AB o g x k
 | .assign x=>JB cf st AB o g x k
 | .pick c x y=>SN cf st AB o g c x y
 | .binOp op t x y _=>if isBool cf.P t then Ic cf st AB o g x y (.bb op) else Ic cf st AB o g x y (.bi op)
 | .unOp op _ x=>J5 cf st AB o g x (.un op)
 | .convert s d x=>match Ps cf.P s,Ps cf.P d with
  | some _,some kd=>J5 cf st AB o g x (.cv kd)
  | _,_=>none
 | .index t x i=>if isStr cf.P t then Ic cf st AB o g x i .sx else none
 | .call { callee:=.builtin .len,args,argTypes }=>match args.toList,argTypes.toList with
  | [x],[t]=>if isStr cf.P t then J5 cf st AB o g x .sn else match Rj cf.P t with
   | some _=>J5 cf st AB o g x (.ln · [])
   | none=>none
  | _,_=>none
 | .call { callee:=.builtin .max,args,.. }=>match args.toList with
  | [x,y]=>Ic cf st AB o g x y .mx
  | _=>none
 | .call { callee:=.builtin .min,args,.. }=>match args.toList with
  | [x,y]=>Ic cf st AB o g x y .mn
  | _=>none
 | _=>none
end
theorem ANT {st:List Fact} {t:Nat} {l:Loc} (h:Bd st t=some l):Fact.sl t l∈st:=by
 induction st with
 | nil=>simp [Bd] at h
 | cons f r ih=>
  cases f with
  | en n s=>simp only [Bd] at h; exact BC _ (ih h)
  | sl u k=>
   simp only [Bd] at h
   split at h
   ·rename_i e; obtain ⟨e,_⟩:=e; injection h with h; subst e h; exact List.mem_cons_self ..
   ·exact BC _ (ih h)
section
variable {cf:CF} {c:Cx} {F:Fact→Prop} {E:Nat→D} {a:Act} {w:World} {vs:Nat→Value} {Bs:Nat→List Nat} {AB:Nat} {g:Gd} {sm:Sm} {st:List Fact} {o:Oper} {p:Pr}
 {K:Nat→List D→List D→Prop}
theorem AGC {x:Operand} {k:Nat} (ht:JB cf st AB o g x k=some (p,sm)) (h:At cf c F E a w vs Bs AB g p sm)
  (hx:(execOp a.eval o).run c.P w=.ok (.value (a.eval x)) w) (hE:Ai K E AB p):AR c o sm F E a w:=by
 cases x with
 | tmp t=>
  simp only [JB] at ht
  split at ht
  ·rename_i d hd
   split at ht
   ·rename_i hlt
    split at ht
    ·rename_i n g' hl
     split at ht
     ·rename_i hg'
      split at ht
      ·obtain ⟨rfl,hi,rfl⟩:=Ee ht
       have hf:=h.needs (.sl t (.is n g')) (by simp)
       have he:=h.needs (.en n .v) (by simp)
       have hl1:a.tmps[t]?=some (vs n):=(h.H.loc t _ hf).1 (fun x hx=>h.g x ((List.isPrefixOf_iff_prefix.1 hg').subset hx))
       have hev:a.eval (.tmp t)=vs n:=by simp [Act.eval,hl1]
       have ho:=h.H.own n .v he
       simp only [AF] at ho
       simp only [Ai,AS,ev,AJ] at hE
       refine Ec h hi (Br w) hx ?_
       simp only [AF]
       rw [hev,← hE]
       exact ⟨trivial,ho.2⟩
      simp only [AJ,AI] at ht
      obtain ⟨_,rfl⟩:=ht
      refine AR.BQ hx ⟨vs,Bs,?_⟩
      have hf:=h.needs (.sl t (.is n g')) (by simp)
      have hl1:a.tmps[t]?=some (vs n):=(h.H.loc t _ hf).1 (fun x hx=>h.g x ((List.isPrefixOf_iff_prefix.1 hg').subset hx))
      have hev:a.eval (.tmp t)=vs n:=by simp [Act.eval,hl1]
      rw [hev,hd]
      refine Av.step (fun _=>False) (fun _=>False) (fun _=>False) (some d) h.H (fun _ _=>rfl) (fun _ _=>rfl) (fun _ _ _ _ _ q=>q) (fun _ q=>q.elim) (Af.refl _ _) rfl rfl rfl
       (fun t ht=>DT ht) Fz put_defers ?_ (fun _ _ q=>q.elim) (fun _ _ q=>q.elim) (fun _ _ q=>q.elim) (fun _ _ _ _ q=>q.elim) ?_
      ·rintro f (⟨h1,h2⟩ | h1)
       ·left
        refine ⟨h1,?_⟩
        cases f with
        | en n s=>exact fun q=>q
        | sl u l=>exact h2
       ·simp at h1; subst h1; right; rfl
      ·rintro u l hu (⟨_,h2⟩ | h2)
       ·exact (h2 hu).elim
       ·simp at h2
        obtain ⟨rfl,rfl⟩:=h2
        exact ⟨fun _=>EX (by rw [h.H.size,h.fits.nt]; exact hlt),fun q=>(q h.g).elim⟩
     ·simp at ht
    ·simp at ht
   ·simp at ht
  ·simp at ht
 | const v=>
  simp only [JB] at ht
  split at ht
  ·rename_i hc
   obtain ⟨rfl,hi,rfl⟩:=Ee ht
   have e:E AB=.l []:=by simp only [Ai,AS,AJ] at hE; exact hE.symm
   have hv:v=.slice none 0 0:=AEB hc
   refine Ec h hi (Br w) hx ?_
   rw [e]
   simp only [AF,Act.eval,hv]
   exact .inr ⟨[],rfl,.inl (by simp)⟩
  ·rename_i hc
   obtain ⟨rfl,hi,rfl⟩:=Ee ht
   have e:E AB=.l []:=by simp only [Ai,AS,AJ] at hE; exact hE.symm
   have hv:v=.slice none 0 0:=AEB hc
   refine Ec h hi (Br w) hx ?_
   rw [e]
   simp only [AF,Act.eval,hv]
   exact .inr ⟨[],rfl,.inl (by simp)⟩
  ·rename_i d _ hc _ _
   obtain ⟨rfl,hi,rfl⟩:=Ee ht
   simp only [Ai,AS,AJ] at hE
   exact Ec h hi (Br w) hx (AF.IH fun Z=>hE ▸ JQ hc)
  ·simp at ht
 | func f=>
  simp only [JB,AQ] at ht
  obtain ⟨k,hk,ht⟩:=ht
  obtain ⟨rfl,hi,rfl⟩:=Ee ht
  simp only [Ai,AS,AJ] at hE
  refine Ec h hi (Br w) hx (AF.IH fun Z=>?_)
  rw [← hE]
  simp only [Rd]
  refine ⟨#[],?_,rfl,by simp [AN]⟩
  rw [h.fits.fid,h.fits.gof f k hk]
  rfl
 | global _=>simp [JB] at ht
theorem AL8 {x y z:Operand} (ho:o.op=.pick x y z) (ht:SN cf st AB o g x y z=some (p,sm)) (h:At cf c F E a w vs Bs AB g p sm) (hE:Ai K E AB p):AR c o sm F E a w:=by
 unfold SN at ht
 simp only [AQ] at ht
 obtain ⟨⟨A1,s1,n1⟩,h1,ht⟩:=ht
 cases A1 with
 | c d=>simp at ht
 | e n=>
  simp only [AQ] at ht
  obtain ⟨⟨A2,s2,n2⟩,h2,⟨A3,s3,n3⟩,h3,ht⟩:=ht
  simp only at ht
  split at ht
  ·rename_i hv
   obtain ⟨hv1,hv2⟩:=hv
   subst hv1 hv2
   obtain ⟨rfl,hi,rfl⟩:=Ee ht
   obtain ⟨B1,o1,_⟩:=h.AW h1 (fun f hf=>Ay _ hf)
   simp only [Ai,AS,ev] at hE
   simp only [ev] at o1
   split at hE
   ·rename_i hb
    have hr:(execOp a.eval o).run c.P w=.ok (.value (a.eval y)) w:=by
     simp only [execOp,ho]
     rw [Sem.run_bind,show a.eval x=.bool true from by rw [hb] at o1; exact o1.bool]
     rfl
    obtain ⟨B2,o2,_⟩:=FT h.fits h2 h.H (fun f hf=>h.needs f (Ak _ (Ay _ hf))) (by intro x hx; rcases A8.1 hx with hx | hx; exact h.g x hx; simp at hx; subst hx; exact hb)
    simp only [AF] at o2
    injection hE with hE
    refine Ec h hi (Br w) hr ?_
    simp only [AF]
    exact ⟨trivial,hE ▸ o2.2⟩
   ·rename_i hb
    have hr:(execOp a.eval o).run c.P w=.ok (.value (a.eval z)) w:=by
     simp only [execOp,ho]
     rw [Sem.run_bind,show a.eval x=.bool false from by rw [hb] at o1; exact o1.bool]
     rfl
    obtain ⟨B2,o2,_⟩:=FT h.fits h3 h.H (fun f hf=>h.needs f (Ak _ (Ak _ hf))) (by intro x hx; rcases A8.1 hx with hx | hx; exact h.g x hx; simp at hx; subst hx; exact hb)
    simp only [AF] at o2
    injection hE with hE
    refine Ec h hi (Br w) hr ?_
    simp only [AF]
    exact ⟨trivial,hE ▸ o2.2⟩
   ·simp at hE
  ·simp at ht
theorem run_underlying {P:Program} {t:TypeId} {d:TypeDesc} (h:P.underlying t=some d) (w:World):(underlying t).run P w=.ok d w:=by
 simp [underlying,h]
theorem AN9 {P:Program} {t:TypeId} (h:isBool P t=true):P.underlying t=some .bool:=by
 unfold isBool at h; split at h <;> simp_all
theorem Ys {P:Program} {t:TypeId} (h:isStr P t=true):P.underlying t=some .string:=by
 unfold isStr at h; split at h <;> simp_all
theorem Uu {P:Program} {t:TypeId} {k:IntKind} (h:Ps P t=some k):P.underlying t=some (.int k):=by
 unfold Ps at h; split at h <;> simp_all
theorem ASG {P:Program} {t e:TypeId} (h:Rj P t=some e):P.underlying t=some (.slice e):=by
 unfold Rj at h; split at h <;> simp_all
theorem AH9 {op:BinOp} {α β:A} (h:Ai K E AB (.bi op α β)):BV op (ev E α) (ev E β)=some (E AB):=h
theorem AHW {op:BinOp} {α β:A} (h:Ai K E AB (.bb op α β)):Fe op (ev E α) (ev E β)=some (E AB):=h
theorem AGN (ρ:Operand→Value) (b:Builtin) (args:Array Operand) (ts:Array TypeId) (type:TypeId):
  resolve ρ { callee:=.builtin b,args,argTypes:=ts } type=(Pure.pure { target:=.builtin b ts type (args.map fun | .const _=>true | _=>false),args:=args.map ρ }:Sem Deferred):=rfl
theorem KH {o:Oper} {b:Builtin} {args:Array Operand} {ts:Array TypeId} (ho:o.op=.call { callee:=.builtin b,args,argTypes:=ts }) (P:Program) (w:World) (ρ:Operand→Value):
  (execOp ρ o).run P w=(builtin b ts o.type (args.map fun | .const _=>true | _=>false) (args.map ρ)).run P w:=by
 simp only [execOp,ho,AGN]
 rw [Sem.run_bind]
 rfl
theorem Pl {k:Nat} (ht:Jl cf st AB o g k=some (p,sm)) (h:At cf c F E a w vs Bs AB g p sm) (hE:Ai K E AB p):AR c o sm F E a w:=by
 unfold Jl at ht
 split at ht
 ·rename_i x ho
  exact AGC ht h (by simp only [execOp,ho]; rfl) hE
 ·rename_i x ho
  exact AGC ht h (by simp only [execOp,ho]; rfl) hE
 ·rename_i x y z ho
  exact AL8 ho ht h hE
 ·rename_i op t x y yt ho
  split at ht
  ·rename_i hb
   refine Mi ht h (fun α β s r B1 B2 he o1 o2=>?_) hE
   have hb':c.P.underlying t=some .bool:=by rw [h.fits.P]; exact AN9 hb
   obtain ⟨h1,h2⟩:=AHP (x:=x) (y:=y) (w:=w) hb' (AHW he) o1 o2
   exact ⟨_,by simp only [execOp,ho]; exact CE h1,h2⟩
  ·refine Mi ht h (fun α β s r B1 B2 he o1 o2=>?_) hE
   obtain ⟨h1,h2⟩:=AH5 (x:=x) (y:=y) (t:=t) (w:=w) (AH9 he) o1 o2
   exact ⟨_,by simp only [execOp,ho]; exact CE h1,h2⟩
 ·rename_i op t x ho
  refine Pf ht h (fun α s B1 he o1=>?_) hE
  have he':J9 op (ev E α)=some (E AB):=he
  unfold J9 at he'
  split at he'
  ·rename_i b hb
   rw [hb] at o1
   split at he'
   ·injection he' with he'
    exact ⟨.bool !b,by simp only [execOp,ho]; rw [o1.bool]; exact CE rfl,fun Z=>by rw [← he']; simp only [Rd]⟩
   ·simp at he'
  ·rename_i kk n hn
   rw [hn] at o1
   split at he'
   ·injection he' with he'
    exact ⟨.int kk (kk.wrap (0-n)),by simp only [execOp,ho]; rw [o1.int]; exact CE rfl,fun Z=>by rw [← he']; simp only [Rd]⟩
   ·simp at he'
  ·simp at he'
 ·rename_i t1 t2 x ho
  split at ht
  ·rename_i k1 k2 e1 e2
   refine Pf ht h (fun α s B1 he o1=>?_) hE
   have he':AS E (.cv k2 α)=some (E AB):=he
   simp only [AS] at he'
   split at he'
   ·rename_i kk n hn
    rw [hn] at o1
    injection he' with he'
    refine ⟨.int k2 (k2.wrap n),?_,fun Z=>by rw [← he']; simp only [Rd]⟩
    simp only [execOp,ho]
    refine CE ?_
    rw [o1.int]
    unfold convert
    rw [Sem.run_bind,run_underlying (h.fits.P ▸ Uu e1)]
    simp only [Result.andThen]
    rw [Sem.run_bind,run_underlying (h.fits.P ▸ Uu e2)]
    rfl
   ·simp at he'
  ·simp at ht
 ·rename_i t x i ho
  split at ht
  ·rename_i hs
   refine Mi ht h (fun α β s r B1 B2 he o1 o2=>?_) hE
   have he':Jr (ev E α) (ev E β)=some (E AB):=he
   have hs':c.P.underlying t=some .string:=by rw [h.fits.P]; exact Ys hs
   unfold Jr at he'
   split at he'
   ·rename_i xs kk n hx hn
    rw [hx] at o1; rw [hn] at o2
    obtain ⟨hv,hb,hl⟩:=o1.str
    split at he'
    ·rename_i h0
     cases hg:xs[n.toNat]? with
     | none=>rw [hg] at he'; simp at he'
     | some z=>
      rw [hg] at he'
      simp only [Option.map_some,AJ] at he'
      refine ⟨.int .u8 z,?_,fun Z=>by rw [← he']; simp only [Rd]⟩
      simp only [execOp,ho]
      refine CE ?_
      rw [hv,o2.int]
      unfold Instr.index BE
      simp only [asIntOf]
      rw [Sem.run_bind,Sem.run_pure]
      simp only [Result.andThen]
      rw [Sem.run_bind,run_underlying hs']
      have hz:z<256:=hb z (List.mem_of_getElem? hg)
      have hlt:n.toNat<xs.length:=by
       rcases CC n.toNat xs.length with q | q
       ·exact q
       ·rw [Dd q] at hg; simp at hg
      have:(⟨(xs.map fun c=>UInt8.ofNat c).toArray⟩:ByteArray)[n.toNat]?=some (UInt8.ofNat z):=by
       rw [getElem?_pos (h:=by show n.toNat<(xs.map fun c=>UInt8.ofNat c).toArray.size; simpa using hlt)]
       congr 1
       show ((xs.map fun c=>UInt8.ofNat c).toArray)[n.toNat]'_=_
       have h1:xs[n.toNat]=z:=by
        have:=hg
        rw [GC hlt] at this
        injection this
       simp [h1]
      simp only [Result.andThen,if_pos h0,this,Sem.run_pure]
      congr 2
      simp
      omega
    ·simp at he'
   ·simp at he'
  ·simp at ht
 ·rename_i args ts ho
  split at ht
  ·rename_i x t hx htt
   have hargs:args=#[x]:=by
    apply Array.ext'; simpa using hx
   have F2:ts=#[t]:=by
    apply Array.ext'; simpa using htt
   subst hargs F2
   split at ht
   ·rename_i hs
    refine Pf ht h (fun α s B1 he o1=>?_) hE
    have he':LX (ev E α)=some (E AB):=he
    unfold LX at he'
    split at he'
    ·rename_i xs hxs
     injection he' with he'
     rw [hxs] at o1
     obtain ⟨hv,_,_⟩:=o1.str
     refine ⟨.int .i64 xs.length,?_,fun Z=>by rw [← he']; simp only [Rd]⟩
     rw [KH ho]
     simp only [List.map_toArray,List.map_cons,List.map_nil]
     show (Bind.bind (Builtin.len_ #[t] o.type #[a.eval x]) _).run c.P w=_
     refine CE ?_
     rw [hv]
     unfold Builtin.len_ BE
     simp only [List.getElem?_toArray,List.getElem?_cons_zero]
     rw [Sem.run_bind,run_underlying (h.fits.P ▸ Ys hs)]
     simp only [Result.andThen,Sem.run_pure,goInt,Nw]
    ·simp at he'
   ·split at ht
    ·rename_i e hs
     refine Pf ht h (fun α s B1 he o1=>?_) hE
     have he':AS E (.ln α [])=some (E AB):=he
     simp only [AS,DU,List.mapM_nil,Option.pure_def,Option.bind_some,A9] at he'
     unfold E4 at he'
     split at he'
     ·rename_i xs hxs
      injection he' with he'
      rw [hxs] at o1
      obtain ⟨ad,cap,hv,_⟩:=o1.len
      refine ⟨.int .i64 xs.length,?_,fun Z=>by rw [← he']; simp only [Rd]⟩
      rw [KH ho]
      simp only [List.map_toArray,List.map_cons,List.map_nil]
      show (Bind.bind (Builtin.len_ #[t] o.type #[a.eval x]) _).run c.P w=_
      refine CE ?_
      rw [hv]
      unfold Builtin.len_
      simp only [List.getElem?_toArray,List.getElem?_cons_zero]
      rw [Sem.run_bind,run_underlying (h.fits.P ▸ ASG hs)]
      rfl
     ·simp at he'
    ·simp at ht
  ·simp at ht
 ·rename_i args ts ho
  split at ht
  ·rename_i x y hx
   have hargs:args=#[x,y]:=by
    apply Array.ext'; simpa using hx
   subst hargs
   refine Mi ht h (fun α β s r B1 B2 he o1 o2=>?_) hE
   have he':AS E (.mx α β)=some (E AB):=he
   simp only [AS] at he'
   split at he'
   ·rename_i k1 n1 k2 n2 e1 e2
    split at he'
    ·rename_i hk
     subst hk
     injection he' with he'
     rw [e1] at o1; rw [e2] at o2
     refine ⟨.int k1 (if n2 > n1 then n2 else n1),?_,fun Z=>by rw [← he']; simp only [Rd]⟩
     rw [KH ho]
     simp only [List.map_toArray,List.map_cons,List.map_nil]
     show (Bind.bind (Builtin.max_ ts o.type #[a.eval x,a.eval y]) _).run c.P w=_
     refine CE ?_
     rw [o1.int,o2.int]
     rfl
    ·simp at he'
   ·simp at he'
  ·simp at ht
 ·rename_i args ts ho
  split at ht
  ·rename_i x y hx
   have hargs:args=#[x,y]:=by
    apply Array.ext'; simpa using hx
   subst hargs
   refine Mi ht h (fun α β s r B1 B2 he o1 o2=>?_) hE
   have he':AS E (.mn α β)=some (E AB):=he
   simp only [AS] at he'
   split at he'
   ·rename_i k1 n1 k2 n2 e1 e2
    split at he'
    ·rename_i hk
     subst hk
     injection he' with he'
     rw [e1] at o1; rw [e2] at o2
     refine ⟨.int k1 (if n2<n1 then n2 else n1),?_,fun Z=>by rw [← he']; simp only [Rd]⟩
     rw [KH ho]
     simp only [List.map_toArray,List.map_cons,List.map_nil]
     show (Bind.bind (Builtin.min_ ts o.type #[a.eval x,a.eval y]) _).run c.P w=_
     refine CE ?_
     rw [o1.int,o2.int]
     rfl
    ·simp at he'
   ·simp at he'
  ·simp at ht
 ·simp at ht
end
end Go.Cat
namespace Go.Cat
def BA (R:Sh→D→Value→List Nat→Prop):List Sh→List D→List Value→List Nat→Prop
 | [],[],[],B=>B=[]
 | s::ss,d::ds,v::vs,B=>∃ B1 B2,B=B1++B2∧R s d v B1∧BA R ss ds vs B2
 | _,_,_,_=>False
def HQ (v:Value):List Value→Prop
 | [x]=>v=x
 | xs=>v=.tuple xs.toArray
def FB (fid:Nat→Nat) (h:Array Obj) (Z:Nat→Prop) (args:List Value):Option (Nat×Nat×List Nat)→Prop
 | none=>True
 | some (m,k,cs)=>∃ (b:Nat) (hs:Array Value) (e:TypeId) (fz:Nat×Nat),args[m]?=some (.pointer (some ⟨b,0,none⟩))∧
   h[b]?=some (.cells hs e fz)∧hs[0]?=some (.func (.func (fid k)) #[] (cs.map fun i=>args.getD i undef).toArray)∧¬ Z b
structure Sg where
 ps:List Sh
 qs:List Sh
 io:List Nat:=[]
 fb:Option (Nat×Nat×List Nat):=none
def Sg.outs (s:Sg):List Sh:=s.qs++s.io.map fun i=>s.ps.getD i .v
def FE (P:Program) (fid:Nat→Nat) (f:FuncId) (s:Sg) (ds rs:List D):Prop:=
 ∀ (w:World) (X:Nat→Prop) (args:List Value) (B:List Nat),B.Nodup→(∀ b,X b→b<w.heap.size∧b∉B)→
  BA (AF fid w.heap (·∈B) X) s.ps ds args B→FB fid w.heap (·∈B) args s.fb→
  Calls P f args.toArray w fun e w'=>∃ v vs B',e=.returned v∧HQ v vs∧vs.length=s.qs.length∧Af (·∈B) w.heap w'.heap∧w'.os=w.os∧w'.tape=w.tape∧w'.output=w.output∧
   B'.Nodup∧(∀ b∈B',b∈B∨w.heap.size≤b)∧BA (AF fid w'.heap (·∈B') X) s.outs rs (vs++s.io.map fun i=>args.getD i undef) B'
def Ei:Sh→Bool
 | .v=>true
 | .y=>false
 | .o s=>Ei s
 | .b s=>Ei s
 | .a s=>Ei s
 | .m=>true
def Sh.nb:Sh→Bool
 | .v=>true
 | .y=>true
 | .o s=>s.nb
 | .a s=>s.nb
 | .b _=>false
 | .m=>false
theorem AK.reads {fid:Nat→Nat} {h:Array Obj} {Z:Nat→Prop} {R:D→Value→List Nat→Prop} (hR:∀ d v B,(∀ b∈B,¬ Z b)→R d v B→Rd fid h Z d v):
  ∀ {ds:List D} {vs:List Value} {B:List Nat},(∀ b∈B,¬ Z b)→AK R ds vs B→AN fid h Z ds vs
 | [],_,_=>fun _ _=>by simp [AN]
 | d::ds,v::vs,B=>fun hB he=>by
  simp only [AK] at he
  obtain ⟨B1,B2,rfl,h1,h2⟩:=he
  simp only [AN]
  exact ⟨hR d v B1 (fun b hb=>hB b (Ay _ hb)) h1,AK.reads hR (fun b hb=>hB b (Ak _ hb)) h2⟩
 | _::_,[],_=>fun _ he=>by simp [AK] at he
theorem AN.mono {fid:Nat→Nat} {h:Array Obj} {Z Z':Nat→Prop} {ds:List D} {vs:List Value} (r:AN fid h Z ds vs) (hZ:∀ b,b<h.size→Z' b→Z b):AN fid h Z' ds vs:=
 AN.ext (S:=fun _=>False) (Af.refl _ h) (fun _ _ q=>q.elim) hZ ds vs r
theorem AF.reads {fid:Nat→Nat} {h:Array Obj} {O X Z:Nat→Prop} (hZ:∀ b,b<h.size→Z b→O b):∀ (s:Sh) (d:D) (v:Value) (B:List Nat),s.nb=true→(∀ b∈B,¬ Z b)→
  AF fid h O X s d v B→Rd fid h Z d v
 | .v,d,v,B=>fun _ _ r=>by
  simp only [AF] at r
  exact r.2.mono fun b hb q=>.inl (hZ b hb q)
 | .y,d,v,B=>fun _ _ r=>by
  simp only [AF] at r
  exact r.2.mono hZ
 | .b s,d,v,B=>fun hs=>by simp [Sh.nb] at hs
 | .m,d,v,B=>fun hs=>by simp [Sh.nb] at hs
 | .a s,d,v,B=>fun hs hB r=>by
  simp only [AF] at r
  obtain ⟨xs,cs,rfl,rfl,hl,he⟩:=r
  simp only [Rd]
  exact ⟨cs,rfl,hl,AK.reads (fun d v B hB r=>AF.reads hZ s d v B (by simpa [Sh.nb] using hs) hB r) hB he⟩
 | .o s,d,v,B=>fun hs hB r=>by
  simp only [AF] at r
  rcases r with ⟨q | q,_⟩ | ⟨xs,rfl,r⟩
  ·subst q; simp [Rd]
  ·exact q.2.flat q.1
  ·simp only [Rd]
   rcases r with r | ⟨b,off,cap,cs,e,fz,B',rfl,hv,hb,ht,h1,h2,h3,he⟩
   ·exact .inl ⟨r.2.1,none,r.1⟩
   ·refine .inr ⟨b,off,cap,cs,e,fz,hv,hb,hB b (by simp),?_,h1,Nat.le_trans h1 h3⟩
    exact AK.reads (fun d v B hB r=>AF.reads hZ s d v B (by simpa [Sh.nb] using hs) hB r) (fun b hb=>hB b (by simp [hb])) he
def Sh.okF:Sh→Bool
 | .v=>true
 | .y=>false
 | .o s=>s.okF
 | .a s=>s.okF
 | .b _=>false
 | .m=>false
theorem AF.freeze {fid:Nat→Nat} {h:Array Obj} {O X Z:Nat→Prop} (hZ:∀ b,b<h.size→Z b→O b∨X b):∀ (s:Sh) (d:D) (v:Value) (B:List Nat),s.okF=true→(∀ b∈B,¬ Z b)→
  AF fid h O X s d v B→Rd fid h Z d v
 | .v,d,v,B=>fun _ _ r=>by
  simp only [AF] at r
  exact r.2.mono hZ
 | .y,_,_,_=>fun h=>by simp [Sh.okF] at h
 | .b _,_,_,_=>fun h=>by simp [Sh.okF] at h
 | .m,_,_,_=>fun h=>by simp [Sh.okF] at h
 | .a s,d,v,B=>fun hs hB r=>by
  simp only [AF] at r
  obtain ⟨xs,cs,rfl,rfl,hl,he⟩:=r
  simp only [Rd]
  exact ⟨cs,rfl,hl,AK.reads (fun d v B hB r=>AF.freeze hZ s d v B (by simpa [Sh.okF] using hs) hB r) hB he⟩
 | .o s,d,v,B=>fun hs hB r=>by
  simp only [AF] at r
  rcases r with ⟨q | q,_⟩ | ⟨xs,rfl,r⟩
  ·subst q; simp [Rd]
  ·exact q.2.flat q.1
  ·simp only [Rd]
   rcases r with r | ⟨b,off,cap,cs,e,fz,B',rfl,hv,hb,ht,h1,h2,h3,he⟩
   ·exact .inl ⟨r.2.1,none,r.1⟩
   ·refine .inr ⟨b,off,cap,cs,e,fz,hv,hb,hB b (by simp),?_,h1,Nat.le_trans h1 h3⟩
    exact AK.reads (fun d v B hB r=>AF.freeze hZ s d v B (by simpa [Sh.okF] using hs) hB r) (fun b hb=>hB b (by simp [hb])) he
theorem AF.Ei {fid:Nat→Nat} {h:Array Obj} {O O' X X':Nat→Prop} (hZ:∀ b,b<h.size→O' b∨X' b→O b∨X b):∀ (s:Sh) (d:D) (v:Value) (B:List Nat),Ei s=true→
  AF fid h O X s d v B→AF fid h O' X' s d v B
 | .v,d,v,B=>fun _ r=>by
  simp only [AF] at r ⊢
  exact ⟨r.1,r.2.mono hZ⟩
 | .y,_,_,_=>fun h=>by simp [Cat.Ei] at h
 | .o s,d,v,B=>fun hs r=>by
  simp only [AF] at r ⊢
  rcases r with r | ⟨xs,hd,r⟩
  ·exact .inl r
  ·refine .inr ⟨xs,hd,?_⟩
   rcases r with r | ⟨b,off,cap,cs,e,fz,B',hBB,hv,hb,ht,h1,h2,h3,he⟩
   ·exact .inl r
   ·exact .inr ⟨b,off,cap,cs,e,fz,B',hBB,hv,hb,ht,h1,h2,h3,AK.imp (fun d v B1 _=>AF.Ei hZ s d v B1 (by simpa [Cat.Ei] using hs)) he⟩
 | .a s,d,v,B=>fun hs r=>by
  simp only [AF] at r ⊢
  obtain ⟨xs,cs,hd,hv,hl,he⟩:=r
  exact ⟨xs,cs,hd,hv,hl,AK.imp (fun d v B1 _=>AF.Ei hZ s d v B1 (by simpa [Cat.Ei] using hs)) he⟩
 | .b s,d,v,B=>fun hs r=>by
  simp only [AF] at r ⊢
  obtain ⟨xs,b,cs,e,fz,B',hd,hBB,hv,hb,ht,hl,he⟩:=r
  exact ⟨xs,b,cs,e,fz,B',hd,hBB,hv,hb,ht,hl,AK.imp (fun d v B1 _=>AF.Ei hZ s d v B1 (by simpa [Cat.Ei] using hs)) he⟩
 | .m,d,v,B=>fun _ r=>by
  simp only [AF] at r ⊢
  exact r
theorem AF.HM {fid:Nat→Nat} {h:Array Obj} {O O' X X':Nat→Prop} (hO:∀ b,b<h.size→O' b→O b) (hZ:∀ b,b<h.size→X' b→O b∨X b):∀ (s:Sh) (d:D) (v:Value) (B:List Nat),
  AF fid h O X s d v B→AF fid h O' X' s d v B
 | .v,d,v,B=>fun r=>by
  simp only [AF] at r ⊢
  exact ⟨r.1,r.2.mono fun b hb q=>q.elim (fun q=>.inl (hO b hb q)) (hZ b hb)⟩
 | .y,d,v,B=>fun r=>by
  simp only [AF] at r ⊢
  exact ⟨r.1,r.2.mono hO⟩
 | .o s,d,v,B=>fun r=>by
  simp only [AF] at r ⊢
  rcases r with r | ⟨xs,hd,r⟩
  ·exact .inl r
  ·refine .inr ⟨xs,hd,?_⟩
   rcases r with r | ⟨b,off,cap,cs,e,fz,B',hBB,hv,hb,ht,h1,h2,h3,he⟩
   ·exact .inl r
   ·exact .inr ⟨b,off,cap,cs,e,fz,B',hBB,hv,hb,ht,h1,h2,h3,AK.imp (fun d v B1 _=>AF.HM hO hZ s d v B1) he⟩
 | .a s,d,v,B=>fun r=>by
  simp only [AF] at r ⊢
  obtain ⟨xs,cs,hd,hv,hl,he⟩:=r
  exact ⟨xs,cs,hd,hv,hl,AK.imp (fun d v B1 _=>AF.HM hO hZ s d v B1) he⟩
 | .b s,d,v,B=>fun r=>by
  simp only [AF] at r ⊢
  obtain ⟨xs,b,cs,e,fz,B',hd,hBB,hv,hb,ht,hl,he⟩:=r
  exact ⟨xs,b,cs,e,fz,B',hd,hBB,hv,hb,ht,hl,AK.imp (fun d v B1 _=>AF.HM hO hZ s d v B1) he⟩
 | .m,d,v,B=>fun r=>by
  simp only [AF] at r ⊢
  exact r
theorem BA.fn {R:Sh→D→Value→List Nat→Prop}:∀ {ss:List Sh} {ds:List D} {vs:List Value} {B:List Nat},BA R ss ds vs B→B.Nodup→
  ss.length=ds.length∧vs.length=ds.length∧∃ bf:Nat→List Nat,(∀ j s d v,ss[j]?=some s→ds[j]?=some d→vs[j]?=some v→R s d v (bf j))∧
   (∀ j,j<ds.length→(bf j).Nodup∧∀ b∈bf j,b∈B)∧(∀ i j,i<ds.length→j<ds.length→i≠j→∀ b∈bf i,b∉bf j)∧(∀ b∈B,∃ j,j<ds.length∧b∈bf j)
 | [],[],[],B=>fun h _=>by
  simp only [BA] at h
  subst h
  exact ⟨rfl,rfl,fun _=>[],by simp,by simp,by simp,by simp⟩
 | s::ss,d::ds,v::vs,B=>fun h hn=>by
  simp only [BA] at h
  obtain ⟨B1,B2,rfl,h1,h2⟩:=h
  obtain ⟨n1,n2,n3⟩:=List.nodup_append.1 hn
  obtain ⟨e1,e2,bf,k1,k2,k3,k4⟩:=BA.fn h2 n2
  refine ⟨by simp [e1],by simp [e2],fun j=>match j with | 0=>B1 | j+1=>bf j,?_,?_,?_,?_⟩
  ·intro j s' d' v' a1 a2 a3
   cases j with
   | zero=>simp at a1 a2 a3; subst a1 a2 a3; exact h1
   | succ j=>exact k1 j s' d' v' (by simpa using a1) (by simpa using a2) (by simpa using a3)
  ·intro j hj
   cases j with
   | zero=>exact ⟨n1,fun b hb=>Ay _ hb⟩
   | succ j=>exact ⟨(k2 j (by simpa using hj)).1,fun b hb=>Ak _ ((k2 j (by simpa using hj)).2 b hb)⟩
  ·intro i j hi hj hne b hb1 hb2
   cases i with
   | zero=>
    cases j with
    | zero=>exact hne rfl
    | succ j=>exact n3 b hb1 b ((k2 j (by simpa using hj)).2 b hb2) rfl
   | succ i=>
    cases j with
    | zero=>exact n3 b hb2 b ((k2 i (by simpa using hi)).2 b hb1) rfl
    | succ j=>exact k3 i j (by simpa using hi) (by simpa using hj) (fun e=>hne (by rw [e])) b hb1 hb2
  ·intro b hb
   rcases A8.1 hb with hb | hb
   ·exact ⟨0,by simp,hb⟩
   ·obtain ⟨j,hj,hb⟩:=k4 b hb
    exact ⟨j+1,by simpa using hj,hb⟩
 | [],[],_::_,_=>fun h=>by simp [BA] at h
 | [],_::_,_,_=>fun h=>by simp [BA] at h
 | _::_,[],_,_=>fun h=>by simp [BA] at h
 | _::_,_::_,[],_=>fun h=>by simp [BA] at h
def A.ens:A→List Nat
 | .e n=>[n]
 | .c _=>[]
def ownArg (cf:CF) (st:List Fact) (g:Gd) (x:Operand) (s:Sh):Option (A×List Nat×List Nat×List Fact):=
 (AW cf st g x).bind fun a=>match a.1 with
  | .e n=>if a.2.1=s then some (a.1,[n],[],a.2.2) else none
  | .c _=>none
def NF (st:List Fact) (g:Gd) (x:Operand):Option (A×List Nat×List Nat×List Fact):=
 match x with
 | .tmp t=>match Bd st t with
  | some (.ia r m g')=>if g'.isPrefixOf g then (Bj st r).bind fun s=>match s with
   | .b s'=>if s'.nb=true then some (.e m,[],[r],[.sl t (.ia r m g'),.en r (.b s')]) else none
   | _=>none
   else none
  | _=>none
 | _=>none
def OU (cf:CF) (st:List Fact) (g:Gd) (x:Operand) (s:Sh):Option (A×List Nat×List Nat×List Fact):=
 match s with
 | .y=>match NF st g x with
  | some r=>some r
  | none=>(AW cf st g x).bind fun a=>if a.2.1.nb=true then some (a.1,[],a.1.ens,a.2.2) else none
 | .v=>(AW cf st g x).bind fun a=>if a.2.1=.v then some (a.1,[],[],a.2.2) else none
 | .o s=>ownArg cf st g x (.o s)
 | .b s=>ownArg cf st g x (.b s)
 | .a s=>ownArg cf st g x (.a s)
 | .m=>ownArg cf st g x .m
def Dr (cf:CF) (st:List Fact) (g:Gd):List Operand→List Sh→Option (List A×List Nat×List Nat×List Fact)
 | [],[]=>some ([],[],[],[])
 | x::xs,s::ss=>(OU cf st g x s).bind fun a=>(Dr cf st g xs ss).map fun r=>(a.1::r.1,a.2.1++r.2.1,a.2.2.1++r.2.2.1,a.2.2.2++r.2.2.2)
 | _,_=>none
def MJ (AB:Nat) (qs:List Sh):List Fact:=qs.zipIdx.map fun x=>.en (AB+x.2) x.1
def KU (AB:Nat) (n:Nat) (g:Gd):Loc:=if n=1 then .is AB g else .tu ((List.range n).map (AB+·)) g
def VF (ks:List Nat):Option A→Bool
 | some (.e n)=>ks.contains n
 | _=>false
def Oe (st:List Fact) (dst:Option Nat) (As:List A) (io:List Nat):List (Nat×Gd×Nat×Nat):=
 io.zipIdx.flatMap fun (x:Nat×Nat)=>match As[x.1]? with
  | some (.e n)=>(slotsOf st n).filterMap fun y=>if some y.1=dst then none else some (y.1,y.2,n,x.2)
  | _=>[]
def KQ (cf:CF) (sg:Nat→Option Sg) (st:List Fact) (AB:Nat) (o:Oper) (g:Gd) (k:Nat) (xs:List Operand) (fb:Option (Nat×Nat×List Nat):=none):Option (Pr×Sm):=
 (sg k).bind fun s=>(Dr cf st g xs s.ps).bind fun r=>
  if r.2.1.Nodup∧(∀ n∈r.2.2.1,n∉r.2.1)∧(∀ q∈s.outs,Ei q=true)∧BN o.dst cf.nt=true∧(s.io.all fun i=>VF r.2.1 r.1[i]?)=true∧s.fb=fb then
   some (.ca k r.1 s.outs.length,⟨r.2.2.2++(Oe st o.dst r.1 s.io).map fun x=>.sl x.1 (.is x.2.2.1 x.2.1),r.2.1,MJ AB s.outs++(match o.dst with
    | some t=>[.sl t (KU AB s.qs.length g)]
    | none=>[])++(Oe st o.dst r.1 s.io).map fun x=>.sl x.1 (.is (AB+s.qs.length+x.2.2.2) x.2.1)⟩)
  else none
structure Sound (cf:CF) (sg:Nat→Option Sg) (K:Nat→List D→List D→Prop):Prop where
 con:∀ k ds rs s,K k ds rs→sg k=some s→FE cf.P cf.fid (cf.fid k) s ds rs
 enter:∀ k s,sg k=some s→∀ args w,(callFunc (cf.fid k) args).run cf.P w=.ok (.enter (cf.fid k) args) w
section
variable {cf:CF} {c:Cx} {F:Fact→Prop} {E:Nat→D} {a:Act} {w:World} {vs:Nat→Value} {Bs:Nat→List Nat} {g:Gd} {st:List Fact}
theorem AKM {st:List Fact} {n:Nat} {s:Sh} (h:Bj st n=some s):Fact.en n s∈st:=by
 induction st with
 | nil=>simp [Bj] at h
 | cons f r ih=>
  cases f with
  | sl n s=>simp only [Bj] at h; exact BC _ (ih h)
  | en u k=>
   simp only [Bj] at h
   split at h
   ·rename_i e; injection h with h; subst e h; exact List.mem_cons_self ..
   ·exact BC _ (ih h)
theorem TX {x:Operand} {A1:A} {kk rr:List Nat} {ns:List Fact} (h:NF st g x=some (A1,kk,rr,ns)) (H:Av c F E a w vs Bs) (hF:∀ f∈ns,F f) (hg:Ae E g):
  kk=[]∧∃ r m s',A1=.e m∧rr=[r]∧F (.en r (.b s'))∧s'.nb=true∧a.eval x=vs m∧∃ xs b cs e B',E m=.g xs∧vs m=.agg cs∧Bs r=b::B'∧w.heap[b]?=some (.cells cs e (0,0))∧cs.size=xs.length∧
   AK (AF c.fid w.heap (OB F Bs) c.Xb s') xs cs.toList B':=by
 unfold NF at h
 split at h
 ·rename_i t
  split at h
  ·rename_i r m g' hl
   split at h
   ·rename_i hg'
    simp only [AQ] at h
    obtain ⟨s1,hs1,h⟩:=h
    split at h
    ·rename_i s'
     split at h
     ·rename_i hnb
      simp only [AJ,AI] at h
      obtain ⟨rfl,rfl,rfl,rfl⟩:=h
      have h2:=hF (.en r (.b s')) (by simp)
      obtain ⟨xs,b,cs,e,fz,k1,k2,k3,k4,k5,k6⟩:=H.loc t _ (hF (.sl t (.ia r m g')) (by simp)) (fun x hx=>hg x ((List.isPrefixOf_iff_prefix.1 hg').subset hx)) ⟨_,h2⟩
      have ho:=H.own r _ h2
      rw [k1,k3] at ho
      obtain ⟨s2,cs2,e2,B',hs2,hB,hb,hn,he⟩:=ho.Ss
      injection hs2 with hs2
      subst hs2
      rw [k4] at hb
      injection hb with hb
      injection hb with hc1 hc2 hc3
      subst hc1
      refine ⟨rfl,r,m,s',rfl,rfl,h2,hnb,?_,xs,b,cs,e,B',k2,k5,hB,by rw [k4,hc3],hn,he⟩
      simp [Act.eval,Bp,k6]
     ·cases h
    ·cases h
   ·cases h
  ·cases h
 ·cases h
theorem TC {x:Operand} {s:Sh} {A1:A} {kk rr:List Nat} {n1:List Fact} (h:ownArg cf st g x s=some (A1,kk,rr,n1)):∃ n,A1=.e n∧kk=[n]∧rr=[]∧AW cf st g x=some (.e n,s,n1):=by
 unfold ownArg at h
 simp only [AQ] at h
 obtain ⟨⟨A2,s2,n3⟩,h4,h5⟩:=h
 cases A2 with
 | c d=>simp at h5
 | e n=>
  simp only at h5
  split at h5
  ·rename_i hv
   subst hv
   simp only [AJ,AI] at h5
   obtain ⟨rfl,rfl,rfl,rfl⟩:=h5
   exact ⟨n,rfl,rfl,rfl,h4⟩
  ·cases h5
theorem Sd {x:Operand} {s:Sh} {A1:A} {kk rr:List Nat} {n1:List Fact} (h:OU cf st g x s=some (A1,kk,rr,n1)):
  (s=.y∧NF st g x=some (A1,kk,rr,n1))∨(s=.y∧∃ s2,AW cf st g x=some (A1,s2,n1)∧s2.nb=true∧kk=[]∧rr=A1.ens)∨
  (s=.v∧AW cf st g x=some (A1,.v,n1)∧kk=[]∧rr=[])∨(ownArg cf st g x s=some (A1,kk,rr,n1)):=by
 cases s with
 | y=>
  simp only [OU] at h
  cases hr:NF st g x with
  | some r=>
   rw [hr] at h
   exact .inl ⟨rfl,h⟩
  | none=>
   rw [hr] at h
   simp only [AQ] at h
   obtain ⟨⟨A2,s2,n3⟩,h4,h5⟩:=h
   simp only at h5
   split at h5
   ·rename_i hnb
    simp only [AJ,AI] at h5
    obtain ⟨rfl,rfl,rfl,rfl⟩:=h5
    exact .inr (.inl ⟨rfl,s2,h4,hnb,rfl,rfl⟩)
   ·cases h5
 | v=>
  simp only [OU,AQ] at h
  obtain ⟨⟨A2,s2,n3⟩,h4,h5⟩:=h
  simp only at h5
  split at h5
  ·rename_i hv
   subst hv
   simp only [AJ,AI] at h5
   obtain ⟨rfl,rfl,rfl,rfl⟩:=h5
   exact .inr (.inr (.inl ⟨rfl,h4,rfl,rfl⟩))
  ·cases h5
 | o s=>exact .inr (.inr (.inr h))
 | b s=>exact .inr (.inr (.inr h))
 | a s=>exact .inr (.inr (.inr h))
 | m=>exact .inr (.inr (.inr h))
theorem Vi (hc:cf.Fits c) (H:Av c F E a w vs Bs) (hg:Ae E g) (ks:List Nat) (hks:∀ n∈ks,alive F n) (X':Nat→Prop)
  (hX':∀ b,b<w.heap.size→X' b→OB F Bs b∨c.Xb b):∀ (xs:List Operand) (ss:List Sh) (As:List A) (k2 rd:List Nat) (ns:List Fact),
  Dr cf st g xs ss=some (As,k2,rd,ns)→(∀ f∈ns,F f)→(∀ n∈k2,n∈ks)→(∀ n∈rd,n∉ks)→
  BA (AF c.fid w.heap (·∈ks.flatMap Bs) X') ss (As.map (ev E)) (xs.map a.eval) (k2.flatMap Bs)
 | [],[],As,k2,rd,ns=>fun h _ _ _=>by
  simp only [Dr,AJ,AI] at h
  obtain ⟨rfl,rfl,_,_⟩:=h
  simp [BA]
 | x::xs,s::ss,As,k2,rd,ns=>fun h hn hk hr=>by
  simp only [Dr,AQ,A7] at h
  obtain ⟨⟨A1,kk,rr,n1⟩,h1,⟨As2,k3,rd2,n2⟩,h2,h3⟩:=h
  simp only [AI] at h3
  obtain ⟨rfl,rfl,rfl,rfl⟩:=h3
  have ih:=Vi hc H hg ks hks X' hX' xs ss As2 k3 rd2 n2 h2 (fun f hf=>hn f (Ak _ hf)) (fun n h=>hk n (Ak _ h)) (fun n h=>hr n (Ak _ h))
  have hO:∀ b,b<w.heap.size→b∈ks.flatMap Bs→OB F Bs b:=by
   intro b _ hb
   obtain ⟨n,hn,hb⟩:=List.mem_flatMap.1 hb
   obtain ⟨s,hs⟩:=hks n hn
   exact ⟨n,s,hs,hb⟩
  simp only [List.map_cons,BA]
  refine ⟨kk.flatMap Bs,k3.flatMap Bs,by simp,?_,ih⟩
  rcases Sd h1 with ⟨rfl,h4⟩ | ⟨rfl,s2,h4,hnb,rfl,rfl⟩ | ⟨rfl,h4,rfl,rfl⟩ | h4
  ·obtain ⟨rfl,r,m,s',rfl,rfl,f1,hnb,hx,ys,b,cs,e,B',k2,k5,hB,hb,hn2,he⟩:=TX h4 H (fun f hf=>hn f (Ay _ hf)) hg
   simp only [AF,ev]
   refine ⟨by simp,?_⟩
   rw [k2,hx,k5]
   simp only [Rd]
   refine ⟨cs,rfl,hn2,AK.reads (fun d v B hB r=>AF.reads hO s' d v B hnb hB r) (fun b2 hb2 hb3=>?_) he⟩
   obtain ⟨m2,hm2,hb3⟩:=List.mem_flatMap.1 hb3
   have hne:r≠m2:=fun e=>hr r (by simp) (e ▸ hm2)
   obtain ⟨r3,hr3⟩:=hks m2 hm2
   exact H.apart r _ m2 r3 f1 hr3 hne b2 (by rw [hB]; exact BC _ hb2) hb3
  ·obtain ⟨B1,o1,o2⟩:=FT hc h4 H (fun f hf=>hn f (Ay _ hf)) hg
   simp only [AF]
   refine ⟨by simp,AF.reads hO s2 _ _ B1 hnb ?_ o1⟩
   intro b hb hb2
   obtain ⟨m,hm,hb2⟩:=List.mem_flatMap.1 hb2
   cases A1 with
   | c d=>
    have:B1=[]:=by
     cases x with
     | const v=>
      simp only [AW,A7,AI] at h4
      obtain ⟨_,_,_,rfl,_⟩:=h4
      simp only [AF] at o1; exact o1.1
     | func f=>
      simp only [AW,A7,AI] at h4
      obtain ⟨_,_,_,rfl,_⟩:=h4
      simp only [AF] at o1; exact o1.1
     | global _=>simp [AW] at h4
     | tmp t=>
      simp only [AW] at h4
      split at h4
      ·split at h4
       ·simp only [A7,AI] at h4
        obtain ⟨_,_,h,_⟩:=h4
        simp at h
       ·simp at h4
      ·simp at h4
    subst this; simp at hb
   | e n=>
    obtain ⟨f1,f2,f3⟩:=o2 n rfl
    subst f3
    have hne:n≠m:=fun e=>hr n (by simp [A.ens]) (e ▸ hm)
    obtain ⟨r,hr2⟩:=hks m hm
    exact H.apart n s2 m r f1 hr2 hne b hb hb2
  ·obtain ⟨B1,o1,o2⟩:=FT hc h4 H (fun f hf=>hn f (Ay _ hf)) hg
   simp only [AF] at o1 ⊢
   exact ⟨by simp,o1.2.mono fun b hb q=>q.elim (fun q=>.inl (hO b hb q)) (hX' b hb)⟩
  ·obtain ⟨n,rfl,rfl,rfl,h5⟩:=TC h4
   obtain ⟨B1,o1,o2⟩:=FT hc h5 H (fun f hf=>hn f (Ay _ hf)) hg
   obtain ⟨f1,f2,f3⟩:=o2 n rfl
   subst f3
   have:=AF.HM hO hX' _ _ _ _ o1
   rw [show [n].flatMap Bs=Bs n from by simp]
   exact this
 | [],_::_,_,_,_,_=>fun h=>by simp [Dr] at h
 | _::_,[],_,_,_,_=>fun h=>by simp [Dr] at h
theorem ABQ {n j:Nat} (h:j<n):(List.range n)[j]?=some j:=by simp [h]
theorem AP5 {AB:Nat} {qs:List Sh} {f:Fact}:f∈MJ AB qs↔∃ j q,qs[j]?=some q∧f=.en (AB+j) q:=by
 unfold MJ
 simp only [List.mem_map,Prod.exists,List.mem_zipIdx_iff_getElem?]
 constructor
 ·rintro ⟨q,j,h,rfl⟩; exact ⟨j,q,h,rfl⟩
 ·rintro ⟨j,q,h,rfl⟩; exact ⟨q,j,h,rfl⟩
theorem AIO {st:List Fact} {dst:Option Nat} {As:List A} {io:List Nat} {u:Nat} {gu:Gd} {n j:Nat} (h:(u,gu,n,j)∈Oe st dst As io):
  ∃ i,io[j]?=some i∧As[i]?=some (.e n)∧some u≠dst:=by
 unfold Oe at h
 simp only [List.mem_flatMap,Prod.exists] at h
 obtain ⟨i,j',h1,h2⟩:=h
 split at h2
 ·rename_i m hm
  simp only [List.mem_filterMap] at h2
  obtain ⟨y,_,h3⟩:=h2
  split at h3
  ·cases h3
  ·rename_i hne
   simp only [AJ,AI] at h3
   obtain ⟨rfl,rfl,rfl,rfl⟩:=h3
   exact ⟨i,by simpa using List.mem_zipIdx_iff_getElem?.1 h1,hm,hne⟩
 ·simp at h2
theorem Z8 (hc:cf.Fits c) (H:Av c F E a w vs Bs) (hg:Ae E g):∀ (xs:List Operand) (ss:List Sh) (As:List A) (k2 rd:List Nat) (ns:List Fact),Dr cf st g xs ss=some (As,k2,rd,ns)→(∀ f∈ns,F f)→
  ∀ (i n:Nat),As[i]?=some (.e n)→((xs[i]?).map a.eval).getD undef=vs n
 | [],[],As,k2,rd,ns=>fun h _ i n hi=>by
  simp only [Dr,AJ,AI] at h
  obtain ⟨rfl,_⟩:=h
  simp at hi
 | x::xs,s::ss,As,k2,rd,ns=>fun h hn i n hi=>by
  simp only [Dr,AQ,A7] at h
  obtain ⟨⟨A1,kk,rr,n1⟩,h1,⟨As2,k3,rd2,n2⟩,h2,h3⟩:=h
  simp only [AI] at h3
  obtain ⟨rfl,rfl,rfl,rfl⟩:=h3
  cases i with
  | succ i=>simpa using Z8 hc H hg xs ss As2 k3 rd2 n2 h2 (fun f hf=>hn f (Ak _ hf)) i n (by simpa using hi)
  | zero=>
   simp at hi
   subst hi
   have hn1:∀ f∈n1,F f:=fun f hf=>hn f (Ay _ hf)
   rcases Sd h1 with ⟨rfl,h4⟩ | ⟨rfl,s2,h4,_⟩ | ⟨rfl,h4,_⟩ | h4
   ·obtain ⟨_,r,m,s',h5,_,_,_,hx,_⟩:=TX h4 H hn1 hg
    injection h5 with h5
    subst h5
    simpa using hx
   ·obtain ⟨B1,o1,o2⟩:=FT hc h4 H hn1 hg
    simpa using (o2 n rfl).2.1
   ·obtain ⟨B1,o1,o2⟩:=FT hc h4 H hn1 hg
    simpa using (o2 n rfl).2.1
   ·obtain ⟨n',h6,_,_,h5⟩:=TC h4
    injection h6 with h6
    subst h6
    obtain ⟨B1,o1,o2⟩:=FT hc h5 H hn1 hg
    simpa using (o2 n rfl).2.1
 | [],_::_,_,_,_,_=>fun h=>by simp [Dr] at h
 | _::_,[],_,_,_,_=>fun h=>by simp [Dr] at h
theorem TB {sg:Nat→Option Sg} {K:Nat→List D→List D→Prop} (hs:Sound cf sg K) (hc:cf.Fits c) {AB:Nat} {o:Oper} {k:Nat} {xs:List Operand} {fb:Option (Nat×Nat×List Nat)} {p:Pr} {sm:Sm}
  (ht:KQ cf sg st AB o g k xs fb=some (p,sm)) (hfb:FB cf.fid w.heap (OB F Bs) (xs.map a.eval) fb) (H:Av c F E a w vs Bs) (hfresh:∀ j,j<p.np→BX F (AB+j)) (hn:∀ f∈sm.needs,F f) (hg:Ae E g) (hE:Ai K E AB p)
  (hr:(execOp a.eval o).run c.P w=(callFunc (cf.fid k) (xs.map a.eval).toArray).run c.P w):AR c o sm F E a w:=by
 unfold KQ at ht
 simp only [AQ] at ht
 obtain ⟨s,hsg,⟨As,ks,rd,ns⟩,hargs,ht⟩:=ht
 simp only at ht
 split at ht
 ·rename_i hcond
  obtain ⟨hnd,hrd,hok,hin,hio,hsfb⟩:=hcond
  simp only [AJ,AI] at ht
  obtain ⟨rfl,rfl⟩:=ht
  simp only at hn
  have hnAll:=hn
  replace hn:∀ f∈ns,F f:=fun f hf=>hnAll f (Ay _ hf)
  obtain ⟨rs,hK,hlen,hrs⟩:=hE
  -- what is handed over
  have hks:∀ n∈ks,alive F n:=by
   have:∀ (xs:List Operand) (ss:List Sh) (As:List A) (ks rd:List Nat) (ns:List Fact),Dr cf st g xs ss=some (As,ks,rd,ns)→(∀ f∈ns,F f)→∀ n∈ks,alive F n:=by
    intro xs
    induction xs with
    | nil=>
     intro ss As ks rd ns h _ n hn
     cases ss with
     | nil=>simp only [Dr,AJ,AI] at h; obtain ⟨_,rfl,_⟩:=h; simp at hn
     | cons _ _=>simp [Dr] at h
    | cons x xs ih=>
     intro ss As ks rd ns h hF n hn
     cases ss with
     | nil=>simp [Dr] at h
     | cons s ss=>
      simp only [Dr,AQ,A7] at h
      obtain ⟨⟨A1,kk,rr,n1⟩,h1,⟨As2,k3,rd2,n2⟩,h2,h3⟩:=h
      simp only [AI] at h3
      obtain ⟨rfl,rfl,rfl,rfl⟩:=h3
      rcases A8.1 hn with hn | hn
      ·rcases Sd h1 with ⟨rfl,h4⟩ | ⟨rfl,s2,h4,_,rfl,_⟩ | ⟨rfl,h4,rfl,_⟩ | h4
       ·obtain ⟨rfl,_⟩:=TX h4 H (fun f hf=>hF f (Ay _ hf)) hg
        simp at hn
       ·simp at hn
       ·simp at hn
       ·obtain ⟨m,rfl,rfl,rfl,h5⟩:=TC h4
        simp at hn; subst hn
        obtain ⟨_,_,o2⟩:=FT hc h5 H (fun f hf=>hF f (Ay _ hf)) hg
        exact ⟨_,(o2 _ rfl).1⟩
      ·exact ih ss As2 k3 rd2 n2 h2 (fun f hf=>hF f (Ak _ hf)) n hn
   exact this xs s.ps As ks rd ns hargs hn
  have hlt:∀ n s,F (.en n s)→∀ b∈Bs n,b<w.heap.size:=fun n s h=>AF.EP s _ _ _ (H.own n s h)
  have hBnd:(ks.flatMap Bs).Nodup:=by
   clear hargs hrd hio
   induction ks with
   | nil=>simp
   | cons n ks ih=>
    simp only [List.flatMap_cons]
    obtain ⟨q1,q2⟩:=List.nodup_cons.1 hnd
    refine List.nodup_append.2 ⟨?_,ih q2 fun n hn=>hks n (BC _ hn),?_⟩
    ·obtain ⟨s,hs⟩:=hks n (List.mem_cons_self ..); exact H.nodup n s hs
    ·intro b hb b' hb' e
     subst e
     obtain ⟨m,hm,hb'⟩:=List.mem_flatMap.1 hb'
     obtain ⟨s1,hs1⟩:=hks n (List.mem_cons_self ..)
     obtain ⟨s2,hs2⟩:=hks m (BC _ hm)
     exact H.apart n s1 m s2 hs1 hs2 (fun e=>q1 (e ▸ hm)) b hb hb'
  let X':Nat→Prop:=fun b=>(c.Xb b∨OB F Bs b)∧b∉ks.flatMap Bs
  have hX1:∀ b,X' b→b<w.heap.size∧b∉ks.flatMap Bs:=by
   rintro b ⟨h1,h2⟩
   refine ⟨?_,h2⟩
   rcases h1 with h1 | ⟨n,s,h3,h4⟩
   ·have:=(c.hX b h1).1; have:=H.agr.size; omega
   ·exact hlt n s h3 b h4
  have hXk:∀ b,c.Xb b→b∉ks.flatMap Bs:=by
   intro b hb hm
   obtain ⟨n,hn,hb2⟩:=List.mem_flatMap.1 hm
   obtain ⟨s,hs⟩:=hks n hn
   have:=c.hX b hb
   rcases H.mine n s hs b hb2 with q | q
   ·omega
   ·exact this.2 q
  have hE2:=Vi hc H hg ks hks X' (fun b _ q=>q.1.symm) xs s.ps As ks rd ns hargs hn (fun _ h=>h) hrd
  have hfb':FB cf.fid w.heap (·∈ks.flatMap Bs) (xs.map a.eval) s.fb:=by
   rw [hsfb]
   cases fb with
   | none=>trivial
   | some x=>
    obtain ⟨m,k',cs⟩:=x
    obtain ⟨b,hs,e,fz,q1,q2,q4,q3⟩:=hfb
    refine ⟨b,hs,e,fz,q1,q2,q4,fun hb=>q3 ?_⟩
    obtain ⟨n,hn,hb⟩:=List.mem_flatMap.1 hb
    obtain ⟨r,hr⟩:=hks n hn
    exact ⟨n,r,hr,hb⟩
  have hcon:=hs.con k _ rs s hK hsg w X' (xs.map a.eval) (ks.flatMap Bs) hBnd hX1 (hc.fid ▸ hE2) hfb'
  intro nxt Q hnxt
  have hr':(execOp a.eval o).run c.P w=.ok (.enter (cf.fid k) (xs.map a.eval).toArray) w:=by
   rw [hr,hc.P]; exact hs.enter k s hsg _ w
  simp only [Oper.wp,hr',Oper.upon]
  rw [hc.P]
  refine Calls.mono hcon ?_
  rintro e w' ⟨v,rv0,B',rfl,htup,hvl,hagr,hos,htape,hout,hnd',hbl',hres⟩
  obtain ⟨rvs,hrvs⟩:∃ r,r=rv0++s.io.map fun i=>(xs.map a.eval).getD i undef:=⟨_,rfl⟩
  rw [← hrvs] at hres
  refine hnxt _ _ ?_
  obtain ⟨l1,l2,bf,k1,k2,k3,_⟩:=BA.fn hres hnd'
  have hrl:rs.length=s.outs.length:=hlen
  have hol:s.outs.length=s.qs.length+s.io.length:=by simp [Sg.outs]
  let vs':Nat→Value:=fun n=>if AB≤n∧n<AB+rs.length then rvs.getD (n-AB) undef else vs n
  let Bs':Nat→List Nat:=fun n=>if AB≤n∧n<AB+rs.length then bf (n-AB) else Bs n
  refine ⟨vs',Bs',?_⟩
  have hnew:∀ j,j<rs.length→vs' (AB+j)=rvs.getD j undef∧Bs' (AB+j)=bf j:=by
   intro j hj
   have:AB≤AB+j∧AB+j<AB+rs.length:=by omega
   simp only [vs',Bs',if_pos this,Nat.add_sub_cancel_left,and_self]
  have hfacts:∀ f,f∈MJ AB s.outs++(match o.dst with | some t=>[Fact.sl t (KU AB s.qs.length g)] | none=>[])→
    (∃ j q,s.outs[j]?=some q∧f=.en (AB+j) q)∨∃ t,o.dst=some t∧f=.sl t (KU AB s.qs.length g):=by
   intro f hf
   rcases A8.1 hf with hf | hf
   ·exact .inl (AP5.1 hf)
   ·cases hd:o.dst with
    | none=>rw [hd] at hf; simp at hf
    | some t=>rw [hd] at hf; simp at hf; exact .inr ⟨t,rfl,hf⟩
  suffices H1:Av c (next F o.dst ⟨[],ks,MJ AB s.outs++(match o.dst with | some t=>[Fact.sl t (KU AB s.qs.length g)] | none=>[])⟩) E (a.put o.dst v) w' vs' Bs' by
   refine H1.more ?_ ?_
   ·intro n s'
    simp only [next,A8,List.mem_map]
    constructor
    ·rintro (q | q | ⟨_,_,q⟩)
     ·exact .inl q
     ·exact .inr q
     ·cases q
    ·rintro (q | q)
     ·exact .inl q
     ·exact .inr (.inl q)
   ·intro t l hf
    rcases hf with ⟨q1,q2⟩ | q
    ·exact .inl (.inl ⟨q1,q2⟩)
    ·rcases A8.1 q with q | q
     ·exact .inl (.inr q)
     ·obtain ⟨⟨u,gu,n,j⟩,hu,q⟩:=List.mem_map.1 q
      injection q with q1 q2
      subst q1 q2
      have hsl:F (.sl u (.is n gu)):=hnAll _ (Ak _ (List.mem_map.2 ⟨_,hu,rfl⟩))
      obtain ⟨i,hij,hAi,hud⟩:=AIO hu
      have hvn:=Z8 hc H hg xs s.ps As ks rd ns hargs hn i n hAi
      have hnk:alive F n:=by
       have:=BD.1 hio i (List.mem_of_getElem? hij)
       rw [hAi] at this
       exact hks n (by simpa [VF] using this)
      refine .inr ⟨AB+s.qs.length+j,gu,n,rfl,.inl ⟨hsl,hud⟩,?_⟩
      have hjl:j<s.io.length:=(List.getElem?_eq_some_iff.1 hij).1
      have hn1:=(hnew (s.qs.length+j) (by omega)).1
      rw [show AB+(s.qs.length+j)=AB+s.qs.length+j by omega] at hn1
      rw [hn1,hrvs,BP,FI (by omega)]
      have hal:¬ (AB≤n∧n<AB+rs.length):=by
       rintro ⟨z1,z2⟩
       have:=(hfresh (n-AB) (by simp only [Pr.np]; omega)).1
       rw [show AB+(n-AB)=n from by omega] at this
       obtain ⟨r,hr⟩:=hnk
       exact this r hr
      simp only [vs',if_neg hal]
      rw [show s.qs.length+j-rv0.length=j by omega,List.getElem?_map,hij]
      simp only [Option.map_some,Option.getD_some,BP,List.getElem?_map]
      exact hvn
  refine Av.step (fun n=>AB≤n∧n<AB+rs.length) (fun n=>n∈ks) (·∈ks.flatMap Bs) o.dst H (fun n hn=>by simp only [vs',if_neg hn]) (fun n hn=>by simp only [Bs',if_neg hn])
   (fun t l hl n hn q=>by
    have:=(hfresh (n-AB) (by simp only [Pr.np]; omega)).2 t l hl
    rw [show AB+(n-AB)=n from by omega] at this
    exact this hn)
   (fun b hb=>by
    obtain ⟨n,hn,hb⟩:=List.mem_flatMap.1 hb
    obtain ⟨s,hs⟩:=hks n hn
    exact ⟨n,s,hs,hn,hb⟩)
   hagr hos htape hout (fun t ht=>DT ht) Fz put_defers ?_ ?_ ?_ ?_ ?_ ?_
  ·rintro f (⟨h1,h2⟩ | h)
   ·left; refine ⟨h1,?_⟩; cases f <;> exact h2
   ·right
    rcases hfacts f h with ⟨j,q,hj,rfl⟩ | ⟨t,ht,rfl⟩
    ·have:j<s.outs.length:=by
      rcases CC j s.outs.length with q | q
      ·exact q
      ·rw [Dd q] at hj; simp at hj
     show AB≤AB+j∧AB+j<AB+rs.length
     omega
    ·exact ht.symm
  ·rintro n r ⟨q1,q2⟩ hf
   rcases hf with ⟨h1,_⟩ | h
   ·have:=(hfresh (n-AB) (by simp only [Pr.np]; omega)).1 r
    rw [show AB+(n-AB)=n from by omega] at this
    exact (this h1).elim
   ·rcases hfacts _ h with ⟨j,q,hj,he⟩ | ⟨t,_,he⟩
    ·injection he with e1 e2
     subst e1 e2
     have hjl:j<rs.length:=by omega
     have hd:=hrs j (by omega)
     have hv:rvs[j]?=some (rvs.getD j undef):=by simp [BP,show j<rvs.length from by omega]
     have:=k1 j r _ _ hj hd hv
     rw [(hnew j hjl).1,(hnew j hjl).2]
     refine AF.Ei ?_ r _ _ _ (hok r (List.mem_of_getElem? hj)) (hc.fid ▸ this)
     intro b hb hz
     rcases hz with (⟨m,s2,z1,z2,z3⟩ | ⟨m,⟨z1,z1'⟩,z2⟩) | hz
     ·refine .inr ⟨.inr ⟨m,s2,z1,z3⟩,?_⟩
      intro hm
      obtain ⟨m2,hm2,hb2⟩:=List.mem_flatMap.1 hm
      obtain ⟨s3,hs3⟩:=hks m2 hm2
      exact H.apart m s2 m2 s3 z1 hs3 (fun e=>z2 (e ▸ hm2)) b z3 hb2
     ·left
      have e:m=AB+(m-AB):=by omega
      rw [e,(hnew (m-AB) (by omega)).2] at z2
      exact (k2 (m-AB) (by omega)).2 b z2
     ·exact .inr ⟨.inl hz,hXk b hz⟩
    ·simp at he
  ·rintro n r ⟨q1,q2⟩ _
   have e:n=AB+(n-AB):=by omega
   rw [e,(hnew (n-AB) (by omega)).2]
   exact (k2 (n-AB) (by omega)).1
  ·rintro n r ⟨q1,q2⟩ _ b hb
   have e:n=AB+(n-AB):=by omega
   rw [e,(hnew (n-AB) (by omega)).2] at hb
   rcases hbl' b ((k2 (n-AB) (by omega)).2 b hb) with h | h
   ·left
    obtain ⟨m,hm,hb⟩:=List.mem_flatMap.1 h
    obtain ⟨s2,hs2⟩:=hks m hm
    exact ⟨m,s2,hs2,hm,hb⟩
   ·exact .inr h
  ·rintro n r m q ⟨q1,q2⟩ ⟨q3,q4⟩ _ _ hne b hb hb2
   have e:n=AB+(n-AB):=by omega
   have e2:m=AB+(m-AB):=by omega
   rw [e,(hnew (n-AB) (by omega)).2] at hb
   rw [e2,(hnew (m-AB) (by omega)).2] at hb2
   exact k3 (n-AB) (m-AB) (by omega) (by omega) (by omega) b hb hb2
  ·rintro t l ht hf
   rcases hf with ⟨_,h2⟩ | h
   ·exact (h2 ht).elim
   ·rcases hfacts _ h with ⟨j,q,hj,he⟩ | ⟨t2,ht2,he⟩
    ·simp at he
    ·injection he with e1 e2
     subst e1 e2
     have hput:(a.put o.dst v).tmps[t]?=some v:=by
      rw [ht2]
      exact EX (by rw [H.size,hc.nt]; rw [ht2] at hin; simpa [BN] using hin)
     by_cases h1:s.qs.length=1
     ·rw [KU,if_pos h1]
      refine ⟨fun _=>?_,fun q=>(q hg).elim⟩
      rw [hput]
      have h2:rv0.length=1:=by omega
      match rv0,h2 with
      | [x],_=>
       have:=(hnew 0 (by omega)).1
       simp only [Nat.add_zero] at this
       rw [this,hrvs]
       simp only [HQ] at htup
       simp [htup]
     ·rw [KU,if_neg h1]
      intro _
      rw [hput]
      have h2:rv0.length≠1:=by omega
      have h3:v=.tuple rv0.toArray:=by
       match rv0,h2,htup with
       | [],_,h=>exact h
       | [x],h,_=>simp at h
       | _::_::_,_,h=>exact h
      rw [h3]
      congr 3
      apply List.ext_getElem?
      intro j
      simp only [List.getElem?_map]
      rcases CC j s.qs.length with hj | hj
      ·rw [ABQ (by omega)]
       simp only [Option.map_some]
       rw [(hnew j (by omega)).1,hrvs]
       simp [BP,D4 (show j<rv0.length by omega),show j<rv0.length from by omega]
      ·rw [Dd (by omega),Dd (by simp; omega)]
       rfl
 ·simp at ht
end
end Go.Cat
namespace Go.Cat
def EY (P:Program) (t:TypeId):Option (TypeId×TypeInfo):=
 match P.underlying t with
 | some (.slice e)=>match P.info? e with
  | some i=>if i.size=1 then some (e,i) else none
  | none=>none
 | _=>none
theorem JP {P:Program} {t e:TypeId} {i:TypeInfo} (h:EY P t=some (e,i)):P.underlying t=some (.slice e)∧P.info? e=some i∧i.size=1:=by
 unfold EY at h
 split at h
 ·rename_i e' he
  split at h
  ·rename_i i' hi
   split at h
   ·rename_i hs
    simp only [AJ,AI] at h
    obtain ⟨rfl,rfl⟩:=h
    exact ⟨he,hi,hs⟩
   ·cases h
  ·cases h
 ·cases h
def Eh (P:Program) (t:TypeId):Bool:=
 (match P.underlying t with
 | some (.struct _)=>false
 | some (.array ..)=>false
 | some _=>true
 | none=>false)&&(match P.info? t with | some i=>i.size == 1 | none=>false)
theorem AQ0 {P:Program} {w:World} {t:TypeId} (h:Eh P t=true):(isAgg t).run P w=.ok false w:=by
 unfold Eh at h
 simp only [Ac] at h
 obtain ⟨h,_⟩:=h
 unfold isAgg
 split at h
 ·cases h
 ·cases h
 ·rename_i d h1 h2 h3
  rw [Sem.run_bind,run_underlying h3]
  simp only [Result.andThen]
  rfl
 ·cases h
theorem Nt {P:Program} {w:World} {t e:TypeId} {i:TypeInfo} (h:EY P t=some (e,i)) {b off len cap:Nat} {k:IntKind} {n:Nat} (hn:n<len):
  (Instr.indexAt t (.slice (some ⟨b,off,none⟩) len cap) (.int k (n:Int))).run P w=.ok (.pointer (some ⟨b,off+n,none⟩)) w:=by
 obtain ⟨h1,h2,h3⟩:=JP h
 simp [Instr.indexAt,run_underlying h1,asIntOf,hn,sizeOf,typeInfo,h2,h3,Addr.add_lit]
theorem QF {P:Program} {w:World} {t:TypeId} (h:Eh P t=true) {b o:Nat} {cs:Array Value} {e:TypeId} {fz:Nat×Nat} {v:Value} (hb:w.heap[b]?=some (.cells cs e fz)) (hv:cs[o]?=some v):
  (Instr.loadAt t (.pointer (some ⟨b,o,none⟩))).run P w=.ok v w:=by
 have hc:w.cell? ⟨b,o,none⟩=some v:=by simp [World.cell?,hb,hv]
 simp [Instr.loadAt,Instr.sureAddr,loadVar,AQ0 h,hc,Result.andThen]
theorem Vc {P:Program} {w:World} {t:TypeId} (h:Eh P t=true) {b o:Nat} {cs:Array Value} {e:TypeId} {v u:Value} (hb:w.heap[b]?=some (.cells cs e (0,0))) (hv:cs[o]?=some u) (h1:v.oneCell'=true):
  (Instr.storeAt t (.pointer (some ⟨b,o,none⟩)) v).run P w=.ok () (w.setRow b (cs.setIfInBounds o v)):=by
 have hc:w.cell? ⟨b,o,none⟩=some u:=by simp [World.cell?,hb,hv]
 have hf:w.frozen? ⟨b,o,none⟩=false:=by simp [World.frozen?,hb]
 have hcs:v.cells=#[v]:=by cases v <;> simp_all [Value.cells,Value.oneCell']
 unfold Eh at h
 simp only [Ac] at h
 obtain ⟨_,h⟩:=h
 split at h
 ·rename_i i hi
  have hs:i.size=1:=by simpa using h
  have hst:=run_store P w ⟨b,o,none⟩ v .plain h1
  rw [hc] at hst
  simp only [hf] at hst
  simp [Instr.storeAt,Instr.sureAddr,storeVar,hcs,sizeOf,typeInfo,hi,hs,storeCells,Addr.add_lit,Result.andThen]
  have:=hst
  simp at this
  rw [this,setCell_eq_setRow w b o cs e (0,0) v hb]
 ·cases h
end Go.Cat
namespace Go.Cat
theorem Av.put {c:Cx} {F:Fact→Prop} {E:Nat→D} {a:Act} {w w':World} {vs:Nat→Value} {Bs:Nat→List Nat} (H:Av c F E a w vs Bs)
  {m:Nat} (hm:BX F m) {s:Sh} {v:Value} {B:List Nat} {dst:Option Nat} {ns:List Fact} (hd:BN dst c.nt=true) (kill:List Nat)
  (ha:Af (fun b=>∃ n s,F (.en n s)∧n∈kill∧b∈Bs n) w.heap w'.heap) (hos:w'.os=w.os) (htape:w'.tape=w.tape) (hout:w'.output=w.output)
  (hown:AF c.fid w'.heap (fun b=>DO F Bs (fun n=>n∈kill) b∨b∈B) c.Xb s (E m) v B) (hnd:B.Nodup)
  (hbl:∀ b∈B,(∃ n r,F (.en n r)∧n∈kill∧b∈Bs n)∨w.heap.size≤b) {g:Gd} (hg:Ae E g):
  Av c (next F dst ⟨ns,kill,one m s dst (.is m g)⟩) E (a.put dst v) w' (AP vs m v) (AP Bs m B):=by
 have hnew:∀ f,f∈one m s dst (.is m g)→(f=.en m s)∨∃ t,dst=some t∧f=.sl t (.is m g):=by
  intro f hf
  unfold one at hf
  cases dst with
  | none=>simp at hf; exact .inl hf
  | some t=>simp at hf; rcases hf with hf | hf; exact .inl hf; exact .inr ⟨t,rfl,hf⟩
 refine Av.step (fun n=>n=m) (fun n=>n∈kill) (fun b=>∃ n s,F (.en n s)∧n∈kill∧b∈Bs n) dst H (fun n hn=>BO vs v hn) (fun n hn=>BO Bs B hn)
  (fun t l hl n hn e=>hm.2 t l hl (e ▸ hn)) (fun _ q=>q) ha hos htape hout
  (fun t ht=>DT ht) Fz put_defers ?_ ?_ ?_ ?_ ?_ ?_
 ·rintro f (⟨h1,h2⟩ | h)
  ·left; refine ⟨h1,?_⟩; cases f <;> exact h2
  ·right
   rcases hnew f h with rfl | ⟨t,ht,rfl⟩
   ·rfl
   ·exact ht.symm
 ·rintro n r rfl hf
  rcases hf with ⟨h1,_⟩ | h
  ·exact (hm.1 r h1).elim
  ·rcases hnew _ h with h | ⟨t,_,h⟩
   ·injection h with _ h; subst h
    rw [Au,Au]
    refine AF.ext (Af.refl (fun _=>False) _) (fun _ _ q=>q.elim) (fun b _ q=>?_) _ _ _ _ (fun _ _ q=>q) hown
    rcases q with q | ⟨k,rfl,hk⟩
    ·exact .inl q
    ·rw [Au] at hk; exact .inr hk
   ·simp at h
 ·rintro n r rfl _; rw [Au]; exact hnd
 ·rintro n r rfl _; rw [Au]; exact hbl
 ·rintro n r k q rfl rfl _ _ h; exact (h rfl).elim
 ·rintro t l' ht hf
  rcases hf with ⟨_,h2⟩ | h
  ·exact (h2 ht).elim
  ·rcases hnew _ h with h | ⟨t',ht',h⟩
   ·simp at h
   ·injection h with h1 h2; subst h1 h2
    refine ⟨fun _=>?_,fun q=>(q hg).elim⟩
    rw [Au,ht']
    exact EX (by rw [H.size]; simpa [BN,ht'] using hd)
theorem Av.slot {c:Cx} {F:Fact→Prop} {E:Nat→D} {a:Act} {w w':World} {vs:Nat→Value} {Bs:Nat→List Nat} (H:Av c F E a w vs Bs)
  {u:Value} {d:Nat} {ns:List Fact} {l:Loc} (hw:w'.heap=w.heap∧w'.os=w.os∧w'.tape=w.tape∧w'.output=w.output)
  (hl:FF w.heap E vs (OB F Bs) (alive F) (a.put (some d) u).tmps d l):
  Av c (next F (some d) ⟨ns,[],[.sl d l]⟩) E (a.put (some d) u) w' vs Bs:=by
 refine Av.step (fun _=>False) (fun _=>False) (fun _=>False) (some d) H (fun _ _=>rfl) (fun _ _=>rfl) (fun _ _ _ _ _ q=>q) (fun _ q=>q.elim) (by rw [hw.1]; exact Af.refl _ _) hw.2.1 hw.2.2.1 hw.2.2.2
  (fun t ht=>DT ht) Fz put_defers ?_ (fun _ _ q=>q.elim) (fun _ _ q=>q.elim) (fun _ _ q=>q.elim) (fun _ _ _ _ q=>q.elim) ?_
 ·rintro f (⟨h1,h2⟩ | h)
  ·left; refine ⟨h1,?_⟩; cases f <;> simp at h2 ⊢; exact h2
  ·right; simp at h; subst h; rfl
 ·intro t l' ht hf
  rcases hf with ⟨_,h2⟩ | h
  ·exact (h2 ht).elim
  ·simp at h
   obtain ⟨rfl,rfl⟩:=h
   have hO:∀ b,(DO F Bs (fun _=>False) b∨∃ k,False∧b∈Bs k)→OB F Bs b:=fun b q=>q.elim (fun ⟨n,s,h1,_,h3⟩=>⟨n,s,h1,h3⟩) (by rintro ⟨_,q,_⟩; exact q.elim)
   have hal:∀ n,alive (next F (some t) ⟨ns,[],[.sl t l']⟩) n→alive F n:=by
    rintro n ⟨s,h | h⟩
    ·exact ⟨s,h.1⟩
    ·simp at h
   rw [hw.1]
   cases l' with
   | vc n g=>
    intro hg
    obtain ⟨b,o,cs,e,fz,k1,k2,k3,k4⟩:=hl hg
    exact ⟨b,o,cs,e,fz,k1,k2,k3,fun q=>k4 (hO b q)⟩
   | is n g=>exact hl
   | tu n g=>exact hl
   | ad r p m g=>exact fun hg ha=>hl hg (hal _ ha)
   | ip r p m g=>exact fun hg ha=>hl hg (hal _ ha)
   | aw r p g=>exact fun hg ha=>hl hg (hal _ ha)
   | ia r m g=>exact fun hg ha=>hl hg (hal _ ha)
   | bx n g=>
    intro hg
    obtain ⟨b,cs,e,fz,k1,k2,k3,k4⟩:=hl hg
    exact ⟨b,cs,e,fz,k1,k2,k3,fun q=>k4 (hO b q)⟩
   | ag r g=>exact fun hg ha=>hl hg (hal _ ha)
   | lh n g=>exact hl
   | sa n e g=>exact hl
   | fv f ns g=>exact hl
   | fb f ns g=>
    intro hg
    obtain ⟨b,cs,e,fz,k1,k2,k3,k4⟩:=hl hg
    exact ⟨b,cs,e,fz,k1,k2,k3,fun q=>k4 (hO b q)⟩
theorem Rd.elem {fid:Nat→Nat} {h:Array Obj} {Z:Nat→Prop} {xs:List D} {v:Value} {n:Nat} {d:D} (r:Rd fid h Z (.l xs) v) (hx:xs[n]?=some d):
  ∃ b off cap cs e fz u,v=.slice (some ⟨b,off,none⟩) xs.length cap∧n<xs.length∧h[b]?=some (.cells cs e fz)∧¬ Z b∧cs[off+n]?=some u∧Rd fid h Z d u:=by
 simp only [Rd] at r
 rcases r with ⟨rfl,_⟩ | ⟨b,off,cap,cs,e,fz,hv,hb,hz,hl,_⟩
 ·simp at hx
 ·obtain ⟨u,h1,h2⟩:=AN.get hl hx
  rw [D8] at h1
  have hn:n<xs.length:=(List.getElem?_eq_some_iff.1 hx).1
  exact ⟨b,off,cap,cs,e,fz,u,hv,hn,hb,hz,h1,h2⟩
def Sh.under:Sh→Nat→Option Sh
 | s,0=>some s
 | .o s,n+1=>s.under n
 | .b s,n+1=>s.under n
 | _,_+1=>none
theorem Wk.Gs {fid:Nat→Nat} {h:Array Obj} {O X:Nat→Prop}:∀ (is:List Nat) (s s':Sh) (d d':D) (v:Value) (B:List Nat),is≠[]→AF fid h O X s d v B→A9 is d=some d'→s.under is.length=some s'→
  ∃ b o x B',Wk h is v b o x∧AF fid h O X s' d' x B'∧(∀ k∈B',k∈B)∧b∈B
 | [],_,_,_,_,_,_,hne=>(hne rfl).elim
 | i::is,s,s',d,d',v,B,_=>fun r hg hs=>by
  cases s with
  | v=>simp [Sh.under] at hs
  | y=>simp [Sh.under] at hs
  | a s=>simp [Sh.under] at hs
  | m=>simp [Sh.under] at hs
  | b s=>
   simp only [A6,Sh.under] at hs
   simp only [AF] at r
   obtain ⟨xs,b,cs,e,fz,B',rfl,rfl,hv,hb,ht,hl,he⟩:=r
   simp only [A9] at hg
   cases hx:xs[i]? with
   | none=>simp [hx] at hg
   | some d1=>
    simp only [hx,Option.bind_some] at hg
    obtain ⟨u,B1,hu,hB1,hr⟩:=AK.get he hx
    rw [Array.getElem?_toList] at hu
    by_cases hn:is=[]
    ·subst hn
     simp only [A9,AJ] at hg
     subst hg
     simp only [Aq,Sh.under,AJ] at hs
     subst hs
     exact ⟨b,i,u,B1,⟨b,i,cs,e,fz,u,.inr ⟨hv,rfl⟩,hb,hu,.inl ⟨rfl,rfl,rfl,rfl⟩⟩,hr,fun k hk=>BC _ (hB1 k hk),by simp⟩
    ·obtain ⟨b2,o2,x2,B2,hw,ho,hB2,hb2⟩:=Wk.Gs is s s' d1 d' u B1 hn hr hg hs
     refine ⟨b2,o2,x2,B2,⟨b,i,cs,e,fz,u,.inr ⟨hv,rfl⟩,hb,hu,.inr ⟨hn,hw⟩⟩,ho,fun k hk=>BC _ (hB1 k (hB2 k hk)),BC _ (hB1 _ hb2)⟩
  | o s=>
   simp only [A6,Sh.under] at hs
   simp only [AF] at r
   rcases r with ⟨q | q,_⟩ | ⟨xs,rfl,r⟩
   ·subst q; simp [A9] at hg
   ·cases d <;> simp [A9] at hg <;> simp [D.flat] at q
   simp only [A9] at hg
   cases hx:xs[i]? with
   | none=>simp [hx] at hg
   | some d1=>
    simp only [hx,Option.bind_some] at hg
    have hi:i<xs.length:=(List.getElem?_eq_some_iff.1 hx).1
    rcases r with ⟨_,rfl,_⟩ | ⟨b,off,cap,cs,e,fz,B',rfl,hv,hb,ht,h1,h2,h3,he⟩
    ·simp at hx
    ·obtain ⟨u,B1,hu,hB1,hr⟩:=AK.get he hx
     rw [D8] at hu
     by_cases hn:is=[]
     ·subst hn
      simp only [A9,AJ] at hg
      subst hg
      simp only [Aq,Sh.under,AJ] at hs
      subst hs
      exact ⟨b,off+i,u,B1,⟨b,off+i,cs,e,fz,u,.inl ⟨off,_,cap,hv,hi,rfl⟩,hb,hu,.inl ⟨rfl,rfl,rfl,rfl⟩⟩,hr,fun k hk=>BC _ (hB1 k hk),by simp⟩
     ·obtain ⟨b2,o2,x2,B2,hw,ho,hB2,hb2⟩:=Wk.Gs is s s' d1 d' u B1 hn hr hg hs
      refine ⟨b2,o2,x2,B2,⟨b,off+i,cs,e,fz,u,.inl ⟨off,_,cap,hv,hi,rfl⟩,hb,hu,.inr ⟨hn,hw⟩⟩,ho,fun k hk=>BC _ (hB1 k (hB2 k hk)),BC _ (hB1 _ hb2)⟩
theorem Wk.cell {h:Array Obj}:∀ (is:List Nat) {v:Value} {b o:Nat} {x:Value},Wk h is v b o x→∃ cs e fz,h[b]?=some (.cells cs e fz)∧cs[o]?=some x
 | [],_,_,_,_,k=>by simp [Wk] at k
 | i::is,v,b,o,x,k=>by
  simp only [Wk] at k
  obtain ⟨b',o',cs,e,fz,y,hv,hb,hy,k⟩:=k
  rcases k with ⟨_,rfl,rfl,rfl⟩ | ⟨_,k⟩
  ·exact ⟨cs,e,fz,hb,hy⟩
  ·exact Wk.cell is k
theorem Wk.snoc {h:Array Obj}:∀ (is:List Nat) {v:Value} {b o:Nat} {x:Value} {i b2 o2:Nat} {y:Value},is≠[]→Wk h is v b o x→Wk h [i] x b2 o2 y→Wk h (is++[i]) v b2 o2 y
 | [],_,_,_,_,_,_,_,_,hn,_,_=>(hn rfl).elim
 | j::is,v,b,o,x,i,b2,o2,y,_,k,k2=>by
  simp only [List.cons_append,Wk] at k ⊢
  obtain ⟨b',o',cs,e,fz,z,hv,hb,hy,k⟩:=k
  refine ⟨b',o',cs,e,fz,z,hv,hb,hy,.inr ⟨by simp,?_⟩⟩
  rcases k with ⟨rfl,rfl,rfl,rfl⟩ | ⟨hne,k⟩
  ·simpa using k2
  ·exact Wk.snoc is hne k k2
theorem UD:∀ (is js:List Nat) (d:D),A9 (is++js) d=(A9 is d).bind (A9 js)
 | [],js,d=>by simp [A9]
 | i::is,js,d=>by
  cases d with
  | l xs=>
   simp only [List.cons_append,A9]
   cases hx:xs[i]? with
   | none=>simp
   | some d1=>simp [UD is js d1]
  | g xs=>
   simp only [List.cons_append,A9]
   cases hx:xs[i]? with
   | none=>simp
   | some d1=>simp [UD is js d1]
  | _=>simp [A9]
theorem Sh.ZV:∀ (i j:Nat) (s s':Sh),s.under i=some s'→s.under (i+j)=s'.under j
 | 0,j,s,s',h=>by simp only [Sh.under,AJ] at h; subst h; simp
 | i+1,j,s,s',h=>by
  cases s with
  | v=>simp [Sh.under] at h
  | y=>simp [Sh.under] at h
  | a s=>simp [Sh.under] at h
  | m=>simp [Sh.under] at h
  | b s=>
   rw [show i+1+j=(i+j)+1 by omega]
   simp only [Sh.under] at h ⊢
   exact Sh.ZV i j s s' h
  | o s=>
   rw [show i+1+j=(i+j)+1 by omega]
   simp only [Sh.under] at h ⊢
   exact Sh.ZV i j s s' h
end Go.Cat
namespace Go.Cat
section
variable (cf:CF) (st:List Fact) (AB:Nat) (o:Oper) (g:Gd)
def AON (P:Program) (t:TypeId):Bool:=match P.underlying t with
 | some (.slice e)=>match P.underlying e with
  | some (.int _)=>true
  | some .bool=>true
  | some .string=>true
  | _=>false
 | _=>false
def Qw:A→Option PE
 | .e n=>some (.e n)
 | .c (.i _ k)=>if 0≤k then some (.k k.toNat) else none
 | _=>none
def aliasOf (st:List Fact) (n:Nat):Option (Nat×Nat×Sh):=st.findSome? fun f=>match f with
 | .sl u (.is n' [])=>if n'=n then (match Bd st u with
  | some (.is m [])=>(Bj st m).map fun s=>(u,m,s)
  | _=>none) else none
 | _=>none
def rootOf (x:Operand):Option (Nat×List PE×Sh×List Fact):=
 match x with
 | .tmp t=>match Bd st t with
  | some (.is n g')=>if g'.isPrefixOf g then (match Bj st n with
   | some s=>some (n,[],s,[.sl t (.is n g'),.en n s])
   | none=>(aliasOf st n).map fun x=>(x.2.1,[],x.2.2,[.sl t (.is n g'),.sl x.1 (.is n []),.sl x.1 (.is x.2.1 []),.en x.2.1 x.2.2])) else none
  | some (.ip r p m g')=>if g'.isPrefixOf g then (Bj st r).map fun s=>(r,p,s,[.sl t (.ip r p m g'),.en r s]) else none
  | _=>none
 | _=>none
def Q8 (t:TypeId) (x i:Operand):Option (Pr×Sm):=
 match o.dst with
 | none=>none
 | some d=>if d<cf.nt∧(EY cf.P t).isSome then
   (rootOf st g x).bind fun r=>(AW cf st g i).bind fun a=>
    match r.2.2.1.under r.2.1.length with
    | some .v=>if r.2.1=[] then some (.ix (.e r.1) [] a.1,⟨r.2.2.2++a.2.2,[],one AB .v (some d) (.vc AB g)⟩) else none
    | some .y=>if r.2.1=[] then
      if AON cf.P t=true then some (.iy (.e r.1) a.1,⟨r.2.2.2++a.2.2,[],one AB .v (some d) (.vc AB g)⟩)
      else some (.ix (.e r.1) [] a.1,⟨r.2.2.2++a.2.2,[],one AB .y (some d) (.vc AB g)⟩)
     else none
    | some (.o e)=>(Qw a.1).map fun pe=>(.ix (.e r.1) r.2.1 a.1,⟨r.2.2.2++a.2.2,[],if e=.v then one AB .v (some d) (.ad r.1 (r.2.1++[pe]) AB g) else [.sl d (.ad r.1 (r.2.1++[pe]) AB g)]⟩)
    | some (.b _) | some (.a _) | some .m | none=>none
  else none
def To (t:TypeId) (x:Operand):Option (Pr×Sm):=
 match x,o.dst with
 | .tmp s,some d=>if d<cf.nt∧Eh cf.P t=true then (Bd st s).bind fun l=>match l with
  | .vc n g'=>if g'.isPrefixOf g then some (.nop,⟨[.sl s (.vc n g')],[],[.sl d (.is n g)]⟩) else none
  | .ad r p m g'=>if g'.isPrefixOf g then (Bj st r).map fun sr=>(.nop,⟨[.sl s (.ad r p m g'),.en r sr],[],[.sl d (match Bj st m with | some _=>.is m g | none=>.ip r p m g)]⟩) else none
  | .is _ _ | .ip _ _ _ _ | .tu _ _ | .aw _ _ _ | .ia _ _ _ | .bx _ _ | .fv _ _ _ | .fb _ _ _ | .ag _ _ | .lh _ _ | .sa _ _ _=>none
  else none
 | _,_=>none
end
theorem Gn {E:Nat→D}:∀ {p:List PE} {is:List Nat},DM E p=some is→is.length=p.length
 | [],is,h=>by simp [DM] at h; subst h; rfl
 | x::p,is,h=>by
  simp only [DM,List.mapM_cons,Option.bind_eq_bind,AQ,Option.pure_def,AJ] at h
  obtain ⟨i,_,js,h2,rfl⟩:=h
  have:=Gn (E:=E) (p:=p) (is:=js) h2
  simp [this]
theorem Wo {E:Nat→D} {pe:PE} {j:Nat} (hj:pe.ev E=some j):∀ {p:List PE} {is:List Nat},DM E p=some is→DM E (p++[pe])=some (is++[j])
 | [],is,h=>by simp [DM] at h; subst h; simp [DM,hj]
 | x::p,is,h=>by
  simp only [DM,List.mapM_cons,Option.bind_eq_bind,AQ,Option.pure_def,AJ] at h
  obtain ⟨i,h1,js,h2,rfl⟩:=h
  have:=Wo hj (p:=p) (is:=js) h2
  simp only [DM] at this
  simp [DM,h1,this]
theorem Wk.Hj {h:Array Obj}:∀ (is:List Nat) {v:Value} {b o b' o':Nat} {x x':Value},Wk h is v b o x→Wk h is v b' o' x'→b=b'∧o=o'∧x=x'
 | [],_,_,_,_,_,_,_,k,_=>by simp [Wk] at k
 | i::is,v,b,o,b',o',x,x',k,k'=>by
  simp only [Wk] at k k'
  obtain ⟨b1,o1,cs,e,fz,y,hv,hb,hy,k⟩:=k
  obtain ⟨b2,o2,cs2,e2,fz2,y2,hv2,hb2,hy2,k'⟩:=k'
  obtain ⟨rfl,rfl⟩:=hv.Hj hv2
  rw [hb] at hb2
  injection hb2 with hb2
  injection hb2 with hc _ _
  subst hc
  rw [hy] at hy2
  injection hy2 with hy2
  subst hy2
  rcases k with ⟨h1,rfl,rfl,rfl⟩ | ⟨h1,k⟩
  ·rcases k' with ⟨_,rfl,rfl,rfl⟩ | ⟨h2,_⟩
   ·exact ⟨rfl,rfl,rfl⟩
   ·exact (h2 h1).elim
  ·rcases k' with ⟨h2,_⟩ | ⟨_,k'⟩
   ·exact (h1 h2).elim
   ·exact Wk.Hj is k k'
section
variable {cf:CF} {c:Cx} {F:Fact→Prop} {E:Nat→D} {a:Act} {w:World} {vs:Nat→Value} {Bs:Nat→List Nat} {AB:Nat} {g:Gd} {sm:Sm} {st:List Fact} {o:Oper} {p:Pr}
 {K:Nat→List D→List D→Prop}
theorem Gi {E:Nat→D} {g g':Gd} (h:g'.isPrefixOf g=true) (hg:Ae E g):Ae E g':=fun x hx=>hg x ((List.isPrefixOf_iff_prefix.1 h).subset hx)
theorem QN {x:Operand} {n:Nat} {q:List PE} {s s':Sh} {ns:List Fact} (hr:rootOf st g x=some (n,q,s,ns)) (h:At cf c F E a w vs Bs AB g p sm) (hn:∀ f∈ns,f∈sm.needs)
  (hs:s.under q.length=some s'):
  F (.en n s)∧∃ is d,DM E q=some is∧A9 is (E n)=some d∧(∃ B,AF c.fid w.heap (OB F Bs) c.Xb s' d (a.eval x) B∧∀ b∈B,b∈Bs n)∧
   ((is=[]∧a.eval x=vs n∧d=E n)∨(is≠[]∧∃ b o,Wk w.heap is (vs n) b o (a.eval x))):=by
 unfold rootOf at hr
 split at hr
 ·rename_i t
  split at hr
  ·rename_i n' g' hl
   split at hr
   ·rename_i hg'
    split at hr
    ·rename_i s1 hs1
     simp only [AJ,AI] at hr
     obtain ⟨rfl,rfl,rfl,rfl⟩:=hr
     have h1:=(h.H.loc t _ (h.needs _ (hn (.sl t (.is n' g')) (by simp)))).1 (Gi hg' h.g)
     have h2:=h.needs _ (hn (.en n' s1) (by simp))
     have h5:a.eval (.tmp t)=vs n':=by simp [Act.eval,Bp,h1]
     simp only [Aq,Sh.under,AJ] at hs
     subst hs
     refine ⟨h2,[],E n',rfl,rfl,⟨Bs n',?_,fun _ q=>q⟩,.inl ⟨rfl,h5,rfl⟩⟩
     rw [h5]; exact h.H.own n' s1 h2
    ·simp only [A7,AI] at hr
     obtain ⟨⟨u,m,s1⟩,_,rfl,rfl,rfl,rfl⟩:=hr
     simp only at hn hs ⊢
     have h1:=(h.H.loc t _ (h.needs _ (hn (.sl t (.is n' g')) (by simp)))).1 (Gi hg' h.g)
     have h3:=(h.H.loc u _ (h.needs _ (hn (.sl u (.is n' [])) (by simp)))).1 (by simp [Ae])
     have h4:=(h.H.loc u _ (h.needs _ (hn (.sl u (.is m [])) (by simp)))).1 (by simp [Ae])
     have h2:=h.needs _ (hn (.en m s1) (by simp))
     have h6:vs n'=vs m:=by rw [h3] at h4; injection h4
     have h5:a.eval (.tmp t)=vs m:=by rw [← h6]; simp [Act.eval,Bp,h1]
     simp only [Aq,Sh.under,AJ] at hs
     subst hs
     refine ⟨h2,[],E m,rfl,rfl,⟨Bs m,?_,fun _ q=>q⟩,.inl ⟨rfl,h5,rfl⟩⟩
     rw [h5]; exact h.H.own m s1 h2
   ·cases hr
  ·rename_i r q' m g' hl
   split at hr
   ·rename_i hg'
    simp only [A7,AI] at hr
    obtain ⟨s1,hs1,rfl,rfl,rfl,rfl⟩:=hr
    have h2:=h.needs _ (hn (.en r s1) (by simp))
    obtain ⟨is,b,o',d,k1,k2,k3,k4⟩:=h.H.loc t _ (h.needs _ (hn (.sl t (.ip r q' m g')) (by simp))) (Gi hg' h.g) ⟨s1,h2⟩
    have h5:a.eval (.tmp t)=vs m:=by simp [Act.eval,Bp,k4]
    have hne:is≠[]:=by rintro rfl; simp [Wk] at k3
    obtain ⟨b2,o2,x2,B2,w1,w2,w3,_⟩:=Wk.Gs is s1 s' (E r) d (vs r) (Bs r) hne (h.H.own r s1 h2) k2 (by rw [Gn k1]; exact hs)
    obtain ⟨_,_,e3⟩:=Wk.Hj is k3 w1
    refine ⟨h2,is,d,k1,k2,⟨B2,?_,w3⟩,.inr ⟨hne,b,o',?_⟩⟩
    ·rw [h5,e3]; exact w2
    ·rw [h5]; exact k3
   ·cases hr
  ·cases hr
 ·cases hr
theorem Av.Ms {w':World} (H:Av c F E a w vs Bs)
  {m:Nat} (hm:BX F m) {v u:Value} {d:Nat} {ns:List Fact} {l:Loc} (hd:d<c.nt)
  (hw:w'.heap=w.heap∧w'.os=w.os∧w'.tape=w.tape∧w'.output=w.output)
  (hl:∀ tm:Array Value,tm[d]?=some u→FF w.heap E (AP vs m v) (OB F Bs) (alive F) tm d l):
  Av c (next F (some d) ⟨ns,[],[.sl d l]⟩) E (a.put (some d) u) w' (AP vs m v) (AP Bs m []):=by
 refine Av.step (fun n=>n=m) (fun _=>False) (fun _=>False) (some d) H (fun n hn=>BO vs v hn) (fun n hn=>BO Bs [] hn)
  (fun t l hl n hn e=>hm.2 t l hl (e ▸ hn)) (fun _ q=>q.elim) (by rw [hw.1]; exact Af.refl _ _) hw.2.1 hw.2.2.1 hw.2.2.2
  (fun t ht=>DT ht) Fz put_defers ?_ ?_ ?_ ?_ ?_ ?_
 ·rintro f (⟨h1,h2⟩ | h)
  ·left; refine ⟨h1,?_⟩; cases f <;> simp at h2 ⊢; exact h2
  ·right; simp at h; subst h; rfl
 ·rintro n r rfl hf
  rcases hf with ⟨h1,_⟩ | h
  ·exact (hm.1 r h1).elim
  ·simp at h
 ·rintro n r rfl _; rw [Au]; exact List.nodup_nil
 ·rintro n r rfl _; rw [Au]; simp
 ·rintro n r k q rfl rfl _ _ h; exact (h rfl).elim
 ·intro t l' ht hf
  rcases hf with ⟨_,h2⟩ | h
  ·exact (h2 ht).elim
  ·simp at h
   obtain ⟨rfl,rfl⟩:=h
   have:=hl (a.put (some t) u).tmps (EX (by rw [H.size]; exact hd))
   have hO:∀ b,(DO F Bs (fun _=>False) b∨∃ k,k=m∧b∈AP Bs m [] k)→OB F Bs b:=fun b q=>q.elim (fun ⟨n,s,h1,_,h3⟩=>⟨n,s,h1,h3⟩) (by rintro ⟨k,rfl,hk⟩; simp [Au] at hk)
   have hal:∀ n,alive (next F (some t) ⟨ns,[],[.sl t l']⟩) n→alive F n:=by
    rintro n ⟨s,h | h⟩
    ·exact ⟨s,h.1⟩
    ·simp at h
   rw [hw.1]
   cases l' with
   | vc n g=>
    intro hg
    obtain ⟨b,o,cs,e,fz,k1,k2,k3,k4⟩:=this hg
    exact ⟨b,o,cs,e,fz,k1,k2,k3,fun q=>k4 (hO b q)⟩
   | is n g=>exact this
   | tu n g=>exact this
   | ad r p m g=>exact fun hg ha=>this hg (hal _ ha)
   | ip r p m g=>exact fun hg ha=>this hg (hal _ ha)
   | aw r p g=>exact fun hg ha=>this hg (hal _ ha)
   | ia r m g=>exact fun hg ha=>this hg (hal _ ha)
   | bx n g=>
    intro hg
    obtain ⟨b,cs,e,fz,k1,k2,k3,k4⟩:=this hg
    exact ⟨b,cs,e,fz,k1,k2,k3,fun q=>k4 (hO b q)⟩
   | ag r g=>exact fun hg ha=>this hg (hal _ ha)
   | lh n g=>exact this
   | sa n e g=>exact this
   | fv f ns g=>exact this
   | fb f ns g=>
    intro hg
    obtain ⟨b,cs,e,fz,k1,k2,k3,k4⟩:=this hg
    exact ⟨b,cs,e,fz,k1,k2,k3,fun q=>k4 (hO b q)⟩
theorem OT {d i x:D} (h:Cn d i=some x):∃ xs k n,d=.l xs∧i=.i k (n:Nat)∧xs[n]?=some x:=by
 unfold Cn at h
 split at h
 ·rename_i xs k n
  split at h
  ·rename_i h0
   obtain ⟨m,rfl⟩:=Fa h0
   simp only [CB,AQ] at h
   obtain ⟨y,h1,h2⟩:=h
   unfold known at h2
   split at h2
   ·cases h2
   ·cases h2; exact ⟨xs,k,m,rfl,rfl,h1⟩
  ·cases h
 ·cases h
theorem AR7 {α:A} {pe:PE} {k:IntKind} {n:Nat} (h:Qw α=some pe) (he:ev E α=.i k (n:Nat)):pe.ev E=some n:=by
 unfold Qw at h
 split at h
 ·injection h with h; subst h
  simp only [ev] at he
  simp [PE.ev,he]
 ·rename_i k' z
  split at h
  ·injection h with h; subst h
   simp only [ev] at he
   injection he with _ he
   simp [PE.ev,he]
  ·cases h
 ·cases h
end
end Go.Cat
namespace Go.Cat
section
variable {cf:CF} {c:Cx} {F:Fact→Prop} {E:Nat→D} {a:Act} {w:World} {vs:Nat→Value} {Bs:Nat→List Nat} {AB:Nat} {g:Gd} {sm:Sm} {st:List Fact} {o:Oper} {p:Pr}
 {K:Nat→List D→List D→Prop}
theorem Oa {t:TypeId} {x i:Operand} (ho:o.op=.indexAddr t x i) {v:Value} (h:(Instr.indexAt t (a.eval x) (a.eval i)).run c.P w=.ok v w):(execOp a.eval o).run c.P w=.ok (.value v) w:=by
 simp only [execOp,ho]
 exact CE h
theorem X6 {d:Nat} (hd:o.dst=some d) {s:Sh} (hsv:s=.v∨s=.y) {n:Nat} {ia:A} {ns:List Fact} {t e:TypeId} {ti:TypeInfo} {x i:Operand}
  (h:At cf c F E a w vs Bs AB g (.ix (.e n) [] ia) ⟨ns,[],one AB s (some d) (.vc AB g)⟩) (hdn:d<cf.nt) (ho:o.op=.indexAddr t x i) (he:EY cf.P t=some (e,ti))
  {B Bi:List Nat} (hx:AF c.fid w.heap (OB F Bs) c.Xb s (E n) (a.eval x) B) {si:Sh} (hi:AF c.fid w.heap (OB F Bs) c.Xb si (ev E ia) (a.eval i) Bi) (hE:Ai K E AB (.ix (.e n) [] ia)):
  AR c o ⟨ns,[],one AB s (some d) (.vc AB g)⟩ F E a w:=by
 have hE':Cn (E n) (ev E ia)=some (E AB):=by simpa [Ai,AS,DU,A9,ev] using hE
 obtain ⟨xs,k,j,h1,h2,h3⟩:=OT hE'
 rw [h1] at hx
 rw [h2] at hi
 have hiv:=hi.int
 obtain ⟨Z,hZ,hr⟩:∃ Z:Nat→Prop,(∀ b,OB F Bs b→Z b)∧Rd c.fid w.heap Z (.l xs) (a.eval x)∧(∀ u,Rd c.fid w.heap Z (E AB) u→AF c.fid w.heap (OB F Bs) c.Xb s (E AB) u []):=by
  rcases hsv with rfl | rfl
  ·simp only [AF] at hx
   exact ⟨_,fun b q=>.inl q,hx.2,fun u hu=>by simp only [AF]; exact ⟨trivial,hu⟩⟩
  ·simp only [AF] at hx
   exact ⟨_,fun b q=>q,hx.2,fun u hu=>by simp only [AF]; exact ⟨trivial,hu⟩⟩
 obtain ⟨b,off,cap,cs,e',fz,u,hv,hn,hb,hz,hc,hu⟩:=hr.1.elem h3
 have hP:c.P=cf.P:=h.fits.P
 have hrun:(execOp a.eval o).run c.P w=.ok (.value (.pointer (some ⟨b,off+j,none⟩))) w:=by
  refine Oa ho ?_
  rw [hv,hiv]
  exact Nt (by rw [hP]; exact he) hn
 refine AR.BQ hrun ⟨AP vs AB u,AP Bs AB [],?_⟩
 rw [hd]
 refine h.H.leaf (s:=s) (v:=u) (by simpa using h.fresh 0 (by simp [Pr.np])) (by rw [h.fits.nt]; simpa [BN] using hdn) (Br w) (hr.2 u hu) [] ?_
 intro tm htm t' ht' hg
 injection ht' with ht'; subst ht'
 refine ⟨b,off+j,cs,e',fz,htm d rfl,hb,?_,fun q=>hz (hZ b q)⟩
 rw [Au]; exact hc
theorem AM6 {d:Nat} (hd:o.dst=some d) {n:Nat} {ia:A} {ns:List Fact} {t e:TypeId} {ti:TypeInfo} {x i:Operand}
  (h:At cf c F E a w vs Bs AB g (.iy (.e n) ia) ⟨ns,[],one AB .v (some d) (.vc AB g)⟩) (hdn:d<cf.nt) (ho:o.op=.indexAddr t x i) (he:EY cf.P t=some (e,ti))
  {B Bi:List Nat} (hx:AF c.fid w.heap (OB F Bs) c.Xb .y (E n) (a.eval x) B) {si:Sh} (hi:AF c.fid w.heap (OB F Bs) c.Xb si (ev E ia) (a.eval i) Bi) (hE:Ai K E AB (.iy (.e n) ia)):
  AR c o ⟨ns,[],one AB .v (some d) (.vc AB g)⟩ F E a w:=by
 have hE0:(Cn (E n) (ev E ia)).bind Ey=some (E AB):=by simpa [Ai,AS,ev] using hE
 obtain ⟨y,hE1,hE2⟩:=AQ.1 hE0
 have hfl:y.flat=true∧y=E AB:=by
  unfold Ey at hE2
  split at hE2
  ·rename_i q; injection hE2 with hE2; exact ⟨q,hE2⟩
  ·cases hE2
 obtain ⟨hfl,rfl⟩:=hfl
 have hE':Cn (E n) (ev E ia)=some (E AB):=hE1
 obtain ⟨xs,k,j,h1,h2,h3⟩:=OT hE'
 rw [h1] at hx
 rw [h2] at hi
 have hiv:=hi.int
 simp only [AF] at hx
 have hr:=hx.2
 obtain ⟨b,off,cap,cs,e',fz,u,hv,hn,hb,hz,hc,hu⟩:=hr.elem h3
 have hP:c.P=cf.P:=h.fits.P
 have hrun:(execOp a.eval o).run c.P w=.ok (.value (.pointer (some ⟨b,off+j,none⟩))) w:=by
  refine Oa ho ?_
  rw [hv,hiv]
  exact Nt (by rw [hP]; exact he) hn
 refine AR.BQ hrun ⟨AP vs AB u,AP Bs AB [],?_⟩
 rw [hd]
 refine h.H.leaf (s:=.v) (v:=u) (by simpa using h.fresh 0 (by simp [Pr.np])) (by rw [h.fits.nt]; simpa [BN] using hdn) (Br w) (by simp only [AF]; exact ⟨trivial,Rd.flat hfl hu⟩) [] ?_
 intro tm htm t' ht' hg
 injection ht' with ht'; subst ht'
 refine ⟨b,off+j,cs,e',fz,htm d rfl,hb,?_,fun q=>hz q⟩
 rw [Au]; exact hc
theorem AP2 {t:TypeId} {x i:Operand} (ho:o.op=.indexAddr t x i) (ht:Q8 cf st AB o g t x i=some (p,sm)) (h:At cf c F E a w vs Bs AB g p sm) (hE:Ai K E AB p):AR c o sm F E a w:=by
 unfold Q8 at ht
 split at ht
 ·cases ht
 ·rename_i d hd
  split at ht
  ·rename_i hd2
   obtain ⟨hdn,hel⟩:=hd2
   obtain ⟨⟨e,ti⟩,hel⟩:=Option.isSome_iff_exists.1 hel
   simp only [AQ] at ht
   obtain ⟨⟨n,q,s,ns⟩,hroot,⟨ia,si,ins⟩,hia,ht⟩:=ht
   simp only at ht
   split at ht
   ·rename_i hs
    split at ht
    ·rename_i hq
     subst hq
     simp only [AJ,AI] at ht
     obtain ⟨rfl,rfl⟩:=ht
     obtain ⟨_,is,d1,k1,k2,⟨B,hB,_⟩,k4⟩:=QN hroot h (fun f hf=>Ay _ hf) hs
     have his:is=[]:=by simpa [DM] using k1.symm
     subst his
     obtain ⟨Bi,hi,_⟩:=h.AW hia (fun f hf=>Ak _ hf)
     have hdd:d1=E n:=by simpa [A9] using k2.symm
     subst hdd
     exact X6 hd (.inl rfl) h hdn ho hel hB hi hE
    ·cases ht
   ·rename_i hs
    split at ht
    ·rename_i hq
     subst hq
     split at ht
     all_goals
      simp only [AJ,AI] at ht
      obtain ⟨rfl,rfl⟩:=ht
      obtain ⟨_,is,d1,k1,k2,⟨B,hB,_⟩,k4⟩:=QN hroot h (fun f hf=>Ay _ hf) hs
      have his:is=[]:=by simpa [DM] using k1.symm
      subst his
      obtain ⟨Bi,hi,_⟩:=h.AW hia (fun f hf=>Ak _ hf)
      have hdd:d1=E n:=by simpa [A9] using k2.symm
      subst hdd
     ·exact AM6 hd h hdn ho hel hB hi hE
     ·exact X6 hd (.inr rfl) h hdn ho hel hB hi hE
    ·cases ht
   ·rename_i es hs
    simp only [A7,AI] at ht
    obtain ⟨pe,hpe,rfl,rfl⟩:=ht
    obtain ⟨hF,is,d1,k1,k2,⟨B,hB,hBn⟩,k4⟩:=QN hroot h (fun f hf=>Ay _ hf) hs
    obtain ⟨Bi,hi,_⟩:=h.AW hia (fun f hf=>Ak _ hf)
    have hE':Cn d1 (ev E ia)=some (E AB):=by
     have hm:q.mapM (PE.ev E)=some is:=k1
     simpa [Ai,AS,DU,hm,ev,k2] using hE
    obtain ⟨xs,k,j,e1,e2,e3⟩:=OT hE'
    subst e1
    rw [e2] at hi
    have hiv:=hi.int
    have hg1:A9 [j] (.l xs)=some (E AB):=by simp [A9,e3]
    obtain ⟨b,o',y,B',w1,w2,w3,_⟩:=Wk.Gs [j] (.o es) es _ _ _ B (by simp) hB hg1 (by simp [Sh.under])
    have hcell:=w1
    simp only [Wk] at hcell
    obtain ⟨b',o1,cs,e',fz,y',hst,hb,hy,hh⟩:=hcell
    rcases hh with ⟨_,rfl,rfl,rfl⟩ | ⟨hne,_⟩
    ·obtain ⟨off,len,cap,hv,hjl,rfl⟩:∃ off len cap,a.eval x=.slice (some ⟨b,off,none⟩) len cap∧j<len∧o'=off+j:=by
      rcases hst with q | ⟨q,_⟩
      ·exact q
      ·obtain ⟨_,_,ql,_⟩:=hB.len; rw [q] at ql; cases ql
     have hP:c.P=cf.P:=h.fits.P
     have hrun:(execOp a.eval o).run c.P w=.ok (.value (.pointer (some ⟨b,off+j,none⟩))) w:=by
      refine Oa ho ?_
      rw [hv,hiv]
      exact Nt (by rw [hP]; exact hel) hjl
     have hfr:BX F AB:=by simpa using h.fresh 0 (by simp [Pr.np])
     have hnc:n≠AB:=by rintro rfl; exact hfr.1 _ hF
     have hloc:∀ (tm:Array Value) (al:Nat→Prop),tm[d]?=some (.pointer (some ⟨b,off+j,none⟩))→FF w.heap E (AP vs AB y) (OB F Bs) al tm d (.ad n (q++[pe]) AB g):=by
      intro tm al htm _ _
      refine ⟨is++[j],b,off+j,E AB,Wo (AR7 hpe e2) k1,?_,?_,htm⟩
      ·rw [UD,k2]; simpa using hg1
      ·rw [Au,BO vs y hnc]
       rcases k4 with ⟨rfl,hv0,_⟩ | ⟨hne,b0,o0,k4⟩
       ·rw [← hv0]; simpa using w1
       ·exact Wk.snoc is hne k4 w1
     split
     ·rename_i hes
      subst hes
      rw [if_pos rfl] at h
      simp only [AF] at w2
      refine AR.BQ hrun ⟨AP vs AB y,AP Bs AB [],?_⟩
      rw [hd]
      refine h.H.leaf (s:=.v) (v:=y) hfr (by rw [h.fits.nt]; simpa [BN] using hdn) (Br w) (by simp only [AF]; exact ⟨trivial,w2.2⟩) [] ?_
      intro tm htm t' ht'
      injection ht' with ht'; subst ht'
      exact hloc tm _ (htm d rfl)
     ·rename_i hes
      rw [if_neg hes] at h
      refine AR.BQ hrun ⟨AP vs AB y,AP Bs AB [],?_⟩
      rw [hd]
      exact h.H.Ms hfr (by rw [h.fits.nt]; exact hdn) (Br w) fun tm htm=>hloc tm _ htm
    ·exact (hne rfl).elim
   ·cases ht
   ·cases ht
   ·cases ht
   ·cases ht
  ·cases ht
theorem Gg {t:TypeId} {x:Operand} (ho:o.op=.load t x) {v:Value} (h:(Instr.loadAt t (a.eval x)).run c.P w=.ok v w):(execOp a.eval o).run c.P w=.ok (.value v) w:=by
 simp only [execOp,ho]
 exact CE h
theorem APP {t:TypeId} {x:Operand} (ho:o.op=.load t x) (ht:To cf st o g t x=some (p,sm)) (h:At cf c F E a w vs Bs AB g p sm):AR c o sm F E a w:=by
 unfold To at ht
 split at ht
 ·rename_i s d hd
  split at ht
  ·rename_i hd2
   obtain ⟨hdn,hpl⟩:=hd2
   have hP:c.P=cf.P:=h.fits.P
   have hput:∀ v:Value,(a.put (some d) v).tmps[d]?=some v:=fun v=>EX (by rw [h.H.size,h.fits.nt]; exact hdn)
   simp only [AQ] at ht
   obtain ⟨l,hl,ht⟩:=ht
   cases l with
   | vc n g'=>
    simp only at ht
    split at ht
    ·rename_i hg'
     simp only [AJ,AI] at ht
     obtain ⟨rfl,rfl⟩:=ht
     obtain ⟨b,o',cs,e,fz,k1,k2,k3,_⟩:=h.H.loc s (.vc n g') (h.needs _ (by simp)) (Gi hg' h.g)
     have hev:a.eval (.tmp s)=.pointer (some ⟨b,o',none⟩):=by simp [Act.eval,Bp,k1]
     have hrun:(execOp a.eval o).run c.P w=.ok (.value (vs n)) w:=by
      refine Gg ho ?_
      rw [hev]
      exact QF (by rw [hP]; exact hpl) k2 k3
     refine AR.BQ hrun ⟨vs,Bs,?_⟩
     rw [hd]
     exact h.H.slot (Br w) ⟨fun _=>hput _,fun q=>(q h.g).elim⟩
    ·cases ht
   | ad r q m g'=>
    simp only at ht
    split at ht
    ·rename_i hg'
     simp only [A7,AI] at ht
     obtain ⟨sr,hsr,rfl,rfl⟩:=ht
     have hal:alive F r:=⟨sr,h.needs _ (by simp)⟩
     obtain ⟨is,b,o',d1,k1,k2,k3,k4⟩:=h.H.loc s (.ad r q m g') (h.needs _ (by simp)) (Gi hg' h.g) hal
     have hev:a.eval (.tmp s)=.pointer (some ⟨b,o',none⟩):=by simp [Act.eval,Bp,k4]
     obtain ⟨cs,e,fz,c1,c2⟩:=k3.cell
     have hrun:(execOp a.eval o).run c.P w=.ok (.value (vs m)) w:=by
      refine Gg ho ?_
      rw [hev]
      exact QF (by rw [hP]; exact hpl) c1 c2
     refine AR.BQ hrun ⟨vs,Bs,?_⟩
     rw [hd]
     refine h.H.slot (Br w) ?_
     split
     ·exact ⟨fun _=>hput _,fun q=>(q h.g).elim⟩
     ·exact fun _ _=>⟨is,b,o',d1,k1,k2,k3,hput _⟩
    ·cases ht
   | is _ _=>cases ht
   | ip _ _ _ _=>cases ht
   | tu _ _=>cases ht
   | aw _ _ _=>cases ht
   | ia _ _ _=>cases ht
   | bx _ _=>cases ht
   | fv _ _ _=>cases ht
   | fb _ _ _=>cases ht
   | ag _ _=>cases ht
   | lh _ _=>cases ht
   | sa _ _ _=>cases ht
  ·cases ht
 ·cases ht
end
end Go.Cat
namespace Go.Cat
section
variable (cf:CF) (st:List Fact) (AB:Nat) (o:Oper) (g:Gd)
def Jo (es:Sh) (x:Operand):Option (A×List Nat×List Fact):=
 (AW cf st g x).bind fun a=>
  if es=.v then
   if a.2.1=.v then some (a.1,[],a.2.2)
   else if a.2.1=.o .v then match a.1 with
    | .e n=>if g=[] then some (a.1,[n],a.2.2) else none
    | .c _=>none
   else none
  else match a.1 with
   | .e n=>if a.2.1=es∧es≠.y∧g=[] then some (a.1,[n],a.2.2) else none
   | .c (.l [])=>(match es with | .o _=>some (.c (.l []),[],[]) | _=>none)
   | .c _=>none
def GV (k:Nat):Sh:=match k with
 | 2=>.o .v
 | 3=>.o (.o .v)
 | _=>.v
def Fs:D→Bool
 | .l []=>true
 | _=>false
def T6 (k:Nat) (t:TypeId) (l c:Operand):Option (Pr×Sm):=
 match EY cf.P t with
 | some (_,ti)=>match ti.zero with
  | some z=>(DF z).bind fun d=>if ti.bytes≤128∧z.oneCell'=true∧BN o.dst cf.nt=true∧(GV k=.v∨Fs d=true) then
    (AW cf st g l).bind fun a=>(AW cf st g c).bind fun b=>some (.mk d a.1 b.1,⟨a.2.2++b.2.2,[],one AB (.o (GV k)) o.dst (.is AB g)⟩)
   else none
  | none=>none
 | none=>none
def Gm (es:Sh):List Operand→Option (List A×List Nat×List Fact)
 | []=>some ([],[],[])
 | x::xs=>(Jo cf st g es x).bind fun a=>(Gm es xs).map fun r=>(a.1::r.1,a.2.1++r.2.1,a.2.2++r.2.2)
def Sb (k:Nat) (t:TypeId) (len:Nat) (ps:Array (Nat×Operand)):Option (Pr×Sm):=
 match EY cf.P t with
 | some (_,ti)=>if ti.zero.isSome∧len≤4096∧ps.toList.map (·.1)=List.range len∧BN o.dst cf.nt=true then
   (Gm cf st g (GV k) (ps.toList.map (·.2))).bind fun r=>if r.2.1.Nodup then
    some (.li (.o (GV k)) r.1,⟨r.2.2,r.2.1,one AB (.o (GV k)) o.dst (.is AB g)⟩) else none
  else none
 | none=>none
end
theorem AK.Z9 {R:D→Value→List Nat→Prop} {d:D} {v:Value} (h:R d v []):∀ (n m:Nat),n≤m→AK R (List.replicate n d) (List.replicate m v) []
 | 0,m,_=>by simp [AK]
 | n+1,0,h=>by omega
 | n+1,m+1,hn=>by
  simp only [List.replicate_succ,AK]
  exact ⟨[],[],rfl,h,AK.Z9 h n m (by omega)⟩
def Sh.EA:Sh→Bool
 | .b _=>false
 | .a _=>false
 | .m=>false
 | _=>true
theorem AGM (k:Nat):(GV k).EA=true:=by unfold GV; split <;> rfl
theorem AF.nil {fid:Nat→Nat} {h:Array Obj} {O X:Nat→Prop} {s:Sh} (hs:s.EA=true:=by rfl):AF fid h O X s (.l []) (.slice none 0 0) []:=by
 cases s with
 | a s=>simp [Sh.EA] at hs
 | b s=>simp [Sh.EA] at hs
 | m=>simp [Sh.EA] at hs
 | v=>simp [AF,Rd]
 | y=>simp [AF,Rd]
 | o s=>simp [AF]
section
variable {cf:CF} {c:Cx} {F:Fact→Prop} {E:Nat→D} {a:Act} {w:World} {vs:Nat→Value} {Bs:Nat→List Nat} {AB:Nat} {g:Gd} {sm:Sm} {st:List Fact} {o:Oper} {p:Pr}
 {K:Nat→List D→List D→Prop}
theorem Wb {x:Operand} {d:D} {s:Sh} {ns:List Fact} (h:AW cf st g x=some (.c d,s,ns)):ns=[]:=by
 cases x with
 | const v=>
  simp only [AW,A7,AI] at h
  obtain ⟨_,_,_,_,rfl⟩:=h; rfl
 | func v=>
  simp only [AW,A7,AI] at h
  obtain ⟨_,_,_,_,rfl⟩:=h; rfl
 | global f=>simp [AW] at h
 | tmp t=>
  simp only [AW] at h
  split at h
  ·split at h
   ·simp only [A7,AI] at h
    obtain ⟨_,_,h,_⟩:=h
    cases h
   ·cases h
  ·cases h
theorem H7 {es:Sh} {x:Operand} {α:A} {ks:List Nat} {ns:List Fact} (ht:Jo cf st g es x=some (α,ks,ns)) (h:At cf c F E a w vs Bs AB g p sm) (hn:∀ f∈ns,f∈sm.needs)
  {O':Nat→Prop} (hO:∀ b,b<w.heap.size→O' b→OB F Bs b) (hfr:es=.v→∀ n∈ks,∀ b∈Bs n,¬ O' b):
  ∃ B,AF c.fid w.heap O' c.Xb es (ev E α) (a.eval x) B∧((ks=[]∨es=.v)∧B=[]∨∃ n,ks=[n]∧B=Bs n∧es≠.v)∧(∀ n∈ks,alive F n):=by
 unfold Jo at ht
 simp only [AQ] at ht
 obtain ⟨⟨α1,s1,n1⟩,h1,ht⟩:=ht
 simp only at ht
 split at ht
 ·rename_i hes
  subst hes
  split at ht
  ·rename_i hs; subst hs
   simp only [AJ,AI] at ht
   obtain ⟨rfl,rfl,rfl⟩:=ht
   obtain ⟨B,hB,_⟩:=h.AW h1 hn
   refine ⟨[],?_,.inl ⟨.inl rfl,rfl⟩,by simp⟩
   simp only [AF] at hB ⊢
   exact ⟨trivial,hB.2.mono fun b hb q=>q.imp (hO b hb) id⟩
  ·split at ht
   ·rename_i hs; subst hs
    split at ht
    ·rename_i n
     split at ht
     ·simp only [AJ,AI] at ht
      obtain ⟨rfl,rfl,rfl⟩:=ht
      obtain ⟨B,hB,hn'⟩:=h.AW h1 hn
      obtain ⟨k1,k2,k3⟩:=hn' n rfl
      refine ⟨[],?_,.inl ⟨.inr rfl,rfl⟩,by simp; exact ⟨_,k1⟩⟩
      rw [k3] at hB
      have hX:∀ b∈Bs n,¬ c.Xb b:=fun b hb q=>by
       obtain ⟨q1,q2⟩:=c.hX b q
       rcases h.H.mine n _ k1 b hb with m | m
       ·omega
       ·exact q2 m
      have:=AF.frozen hO _ _ _ (fun b hb=>⟨hfr rfl n (by simp) b hb,hX b hb⟩) hB
      simp only [AF]
      exact ⟨trivial,this⟩
     ·cases ht
    ·cases ht
   ·cases ht
 ·rename_i hes
  split at ht
  ·rename_i n
   split at ht
   ·rename_i hs
    obtain ⟨hs1,hs2,_⟩:=hs
    subst hs1
    simp only [AJ,AI] at ht
    obtain ⟨rfl,rfl,rfl⟩:=ht
    obtain ⟨B,hB,hn'⟩:=h.AW h1 hn
    obtain ⟨k1,k2,k3⟩:=hn' n rfl
    refine ⟨Bs n,?_,.inr ⟨n,rfl,rfl,hes⟩,by simp; exact ⟨_,k1⟩⟩
    rw [← k3]
    exact AF.ext (Af.refl (fun _=>False) _) (fun _ _ q=>q.elim) hO _ _ _ _ (fun _ _ q=>q) hB
   ·cases ht
  ·split at ht
   ·rename_i es' 
    simp only [AJ,AI] at ht
    obtain ⟨rfl,rfl,rfl⟩:=ht
    refine ⟨[],?_,.inl ⟨.inl rfl,rfl⟩,by simp⟩
    obtain ⟨B,hB,_⟩:=FT h.fits h1 h.H (fun f hf=>by rw [Wb h1] at hf; cases hf) h.g
    ·have hv:a.eval x=.slice none 0 0:=by
      cases x with
      | const v=>
       simp only [AW,A7] at h1
       obtain ⟨d,hd,h1⟩:=h1
       simp only [AI] at h1
       obtain ⟨h1,_,_⟩:=h1
       injection h1 with h1
       subst h1
       unfold DF at hd
       split at hd <;> try (injection hd with hd; cases hd)
       ·split at hd
        ·injection hd with hd; cases hd
        ·cases hd
       ·rfl
       ·cases hd
      | func f=>
       simp only [AW,A7,AI] at h1
       obtain ⟨k,hk,h1,_⟩:=h1
       simp at h1
      | global f=>simp [AW] at h1
      | tmp t=>
       simp only [AW] at h1
       split at h1
       ·split at h1
        ·simp only [A7,AI] at h1
         obtain ⟨_,_,h1,_⟩:=h1
         cases h1
        ·cases h1
       ·cases h1
     rw [hv]
     exact AF.nil
   ·cases ht
  ·cases ht
theorem DK (w:World) (o:Obj) (S:Nat→Prop):Af S w.heap (w.alloc o).heap:=by
 refine ⟨by simp,fun b hb _=>heap_alloc_old w o b hb⟩
theorem AOG {k:Nat} {t:TypeId} {l q:Operand} (ho:o.op=.makeSlice t l q) (ht:T6 cf st AB o g k t l q=some (p,sm)) (h:At cf c F E a w vs Bs AB g p sm) (hE:Ai K E AB p):AR c o sm F E a w:=by
 unfold T6 at ht
 split at ht
 ·rename_i e ti hel
  split at ht
  ·rename_i z hz
   simp only [AQ] at ht
   obtain ⟨d,hd,ht⟩:=ht
   split at ht
   ·rename_i hc
    obtain ⟨hby,hz1,hin,hsh⟩:=hc
    have hzc:z.cells=#[z]:=by cases z <;> simp_all [Value.cells,Value.oneCell']
    simp only [AQ] at ht
    obtain ⟨⟨α,s1,n1⟩,h1,⟨β,s2,n2⟩,h2,ht⟩:=ht
    simp only [AJ,AI] at ht
    obtain ⟨rfl,rfl⟩:=ht
    obtain ⟨B1,o1,_⟩:=h.AW h1 (fun f hf=>Ay _ hf)
    obtain ⟨B2,o2,_⟩:=h.AW h2 (fun f hf=>Ak _ hf)
    have hE':Fu d (ev E α) (ev E β)=some (E AB):=hE
    unfold Fu at hE'
    split at hE'
    ·rename_i k1 n k2 m he1 he2
     split at hE'
     ·rename_i hb
      obtain ⟨hb1,hb2,hb3⟩:=hb
      injection hE' with hE'
      rw [he1] at o1
      rw [he2] at o2
      obtain ⟨g1,g2,g3⟩:=JP hel
      have hP:c.P=cf.P:=h.fits.P
      obtain ⟨n',rfl⟩:=Fa hb1
      obtain ⟨m',rfl⟩:=Fa (show (0:Int)≤m by omega)
      have hmb:(m':Int)≤1099511627776:=hb3
      have hr:=run_make (P:=c.P) w t e ti z (by rw [hP]; exact g1) (by rw [hP]; exact g2) hz k1 k2 n' m' (by omega) hb2 (by
       have:(ti.bytes:Int)*(m':Int)≤128*1099511627776:=Int.mul_le_mul (by omega) hmb (by omega) (by omega)
       omega) (by omega)
      simp only [CB,g3,Nat.mul_one,hzc] at hr
      have hrun:(execOp a.eval o).run c.P w=.ok (.value (.slice (some ⟨w.heap.size,0,none⟩) n' m')) (w.alloc (.cells (madeCells #[z] m') e)):=by
       simp only [execOp,ho]
       refine CE ?_
       rw [o1.int,o2.int]
       exact hr
      refine AR.BQ hrun ⟨AP vs AB (.slice (some ⟨w.heap.size,0,none⟩) n' m'),AP Bs AB [w.heap.size],?_⟩
      refine h.H.put (by simpa using h.fresh 0 (by simp [Pr.np])) (by rw [h.fits.nt]; exact hin) [] (DK _ _ _) rfl rfl rfl ?_ (by simp) (by simp) h.g
      rw [← hE']
      simp only [AF]
      refine .inr ⟨_,rfl,.inr ⟨w.heap.size,0,m',madeCells #[z] m',e,(0,0),[],rfl,?_,?_,rfl,?_,?_,?_,?_⟩⟩
      ·simp
      ·exact heap_alloc_new w _
      ·simp; omega
      ·simp [madeCells]
      ·omega
      ·simp only [List.drop_zero,toList_madeCells_one,CB]
       refine AK.Z9 ?_ n' m' (by omega)
       rcases hsh with hsh | hsh
       ·rw [hsh]; simp only [AF]; exact ⟨trivial,JQ hd⟩
       ·unfold Fs at hsh
        split at hsh
        ·have hv:z=.slice none 0 0:=by
          unfold DF at hd
          split at hd <;> try (injection hd with hd; cases hd)
          ·split at hd
           ·injection hd with hd; cases hd
           ·cases hd
          ·rfl
          ·cases hd
         rw [hv]; exact AF.nil (AGM k)
        ·cases hsh
     ·cases hE'
    ·cases hE'
   ·cases ht
  ·cases ht
 ·cases ht
end
end Go.Cat
namespace Go.Cat
theorem Rd.one {fid:Nat→Nat} {h:Array Obj} {Z:Nat→Prop} {d:D} {v:Value} (hd:d.one=true) (r:Rd fid h Z d v):v.oneCell'=true:=by
 cases d with
 | u=>simp [D.one] at hd
 | g xs=>simp [D.one] at hd
 | i k n=>simp only [Rd] at r; subst r; rfl
 | b x=>simp only [Rd] at r; subst r; rfl
 | s x=>simp only [Rd,BE] at r; rw [r.1]; rfl
 | z=>simp only [Rd] at r; subst r; rfl
 | l xs=>
  simp only [Rd] at r
  rcases r with ⟨_,_,rfl⟩ | ⟨b,off,cap,cs,e,fz,rfl,_⟩ <;> rfl
 | p xs=>
  simp only [Rd] at r
  obtain ⟨b,off,cs,e,fz,rfl,_⟩:=r
  rfl
 | f n xs=>
  simp only [Rd] at r
  obtain ⟨vs,rfl,_⟩:=r
  rfl
theorem AF.one {fid:Nat→Nat} {h:Array Obj} {O X:Nat→Prop} {s:Sh} {d:D} {v:Value} {B:List Nat} (hd:d.one=true) (r:AF fid h O X s d v B):v.oneCell'=true:=by
 cases s with
 | v=>simp only [AF] at r; exact Rd.one hd r.2
 | y=>simp only [AF] at r; exact Rd.one hd r.2
 | o s=>
  simp only [AF] at r
  rcases r with ⟨q | q,_⟩ | ⟨xs,rfl,⟨rfl,_⟩ | ⟨b,off,cap,cs,e,fz,B',_,rfl,_⟩⟩
  ·subst q; simp [D.one] at hd
  ·exact Rd.one hd q.2
  ·rfl
  ·rfl
 | a s=>
  simp only [AF] at r
  obtain ⟨xs,cs,rfl,_⟩:=r
  simp [D.one] at hd
 | b s=>
  simp only [AF] at r
  obtain ⟨xs,b,cs,e,fz,B',rfl,_⟩:=r
  simp [D.one] at hd
 | m=>
  simp only [AF] at r
  obtain ⟨xs,b,es,ck,rfl,_⟩:=r
  simp [D.one] at hd
theorem Pz {v:Value} (h:v.oneCell'=true):v.cells=#[v]:=by cases v <;> simp_all [Value.cells,Value.oneCell']
theorem AK.one {fid:Nat→Nat} {h:Array Obj} {O X:Nat→Prop} {s:Sh}:∀ {ds:List D} {vs:List Value} {B:List Nat},ds.all D.one=true→vs.length=ds.length→AK (AF fid h O X s) ds vs B→∀ v∈vs,v.oneCell'=true
 | [],[],_=>fun _ _ _=>by simp
 | d::ds,v::vs,B=>fun hd hl r=>by
  simp only [AK] at r
  simp only [List.all_cons,Ac] at hd
  obtain ⟨B1,B2,rfl,r1,r2⟩:=r
  intro u hu
  rcases A5.1 hu with rfl | hu
  ·exact r1.one hd.1
  ·exact AK.one hd.2 (by simpa using hl) r2 u hu
 | [],_::_,_=>fun _ hl _=>by simp at hl
 | _::_,[],_=>fun _ hl _=>by simp at hl
section
variable {cf:CF} {c:Cx} {F:Fact→Prop} {E:Nat→D} {a:Act} {w:World} {vs:Nat→Value} {Bs:Nat→List Nat} {AB:Nat} {g:Gd} {sm:Sm} {st:List Fact} {o:Oper} {p:Pr}
 {K:Nat→List D→List D→Prop}
theorem Wj {es:Sh} (h:At cf c F E a w vs Bs AB g p sm) {O':Nat→Prop} (hO:∀ b,b<w.heap.size→O' b→OB F Bs b):
  ∀ {l:List Operand} {αs:List A} {ks:List Nat} {ns:List Fact},Gm cf st g es l=some (αs,ks,ns)→(∀ f∈ns,f∈sm.needs)→(es=.v→∀ n∈ks,∀ b∈Bs n,¬ O' b)→ks.Nodup→
  αs.length=l.length∧∃ B,AK (AF c.fid w.heap O' c.Xb es) (αs.map (ev E)) (l.map a.eval) B∧B.Nodup∧(∀ b∈B,∃ n∈ks,alive F n∧b∈Bs n)∧(es=.v→B=[])∧∀ n∈ks,alive F n
 | [],αs,ks,ns,ht,_,_,_=>by
  simp only [Gm,AJ,AI] at ht
  obtain ⟨rfl,rfl,rfl⟩:=ht
  exact ⟨rfl,[],by simp [AK],by simp,by simp,fun _=>rfl,by simp⟩
 | x::l,αs,ks,ns,ht,hn,hfr,hnd=>by
  simp only [Gm,AQ,A7,AI] at ht
  obtain ⟨⟨α,k1,n1⟩,h1,⟨αs',k2,n2⟩,h2,rfl,rfl,rfl⟩:=ht
  obtain ⟨hnd1,hnd2,hnd3⟩:=List.nodup_append.1 hnd
  obtain ⟨B1,e1,e2,e3⟩:=H7 h1 h (fun f hf=>hn f (Ay _ hf)) hO (fun q n hnn=>hfr q n (Ay _ hnn))
  obtain ⟨f0,B2,f1,f2,f3,f4,f5⟩:=Wj h hO h2 (fun f hf=>hn f (Ak _ hf)) (fun q n hnn=>hfr q n (Ak _ hnn)) hnd2
  refine ⟨by simp [f0],B1++B2,?_,?_,?_,?_,?_⟩
  ·simp only [List.map_cons,AK]; exact ⟨B1,B2,rfl,e1,f1⟩
  ·rcases e2 with ⟨_,rfl⟩ | ⟨n,rfl,rfl,_⟩
   ·simpa using f2
   ·obtain ⟨s,hs⟩:=e3 n (by simp)
    refine List.nodup_append.2 ⟨h.H.nodup n s hs,f2,fun b hb b' hb'=>?_⟩
    rintro rfl
    obtain ⟨m,hm,⟨r,hr⟩,hbm⟩:=f3 b hb'
    exact h.H.apart n s m r hs hr (hnd3 n (by simp) m hm) b hb hbm
  ·intro b hb
   rcases A8.1 hb with hb | hb
   ·rcases e2 with ⟨_,rfl⟩ | ⟨n,rfl,rfl,_⟩
    ·simp at hb
    ·exact ⟨n,by simp,e3 n (by simp),hb⟩
   ·obtain ⟨m,hm,k⟩:=f3 b hb
    exact ⟨m,Ak _ hm,k⟩
  ·intro q
   rw [f4 q]
   rcases e2 with ⟨_,rfl⟩ | ⟨n,rfl,rfl,q'⟩
   ·rfl
   ·exact (q' q).elim
  ·intro n hnn
   rcases A8.1 hnn with hnn | hnn
   ·exact e3 n hnn
   ·exact f5 n hnn
def Mg (F:Fact→Prop) (Bs:Nat→List Nat) (ks:List Nat) (es:Sh) (N:Nat→Prop):Nat→Prop:=fun b=>DO F Bs (fun n=>n∈ks) b∨(es≠.v∧∃ n∈ks,alive F n∧b∈Bs n)∨N b
theorem O4 (H:Av c F E a w vs Bs) {ks:List Nat} {es:Sh} {N:Nat→Prop} (hN:∀ b,b<w.heap.size→N b→OB F Bs b):∀ b,b<w.heap.size→Mg F Bs ks es N b→OB F Bs b:=by
 rintro b hb (⟨n,s,h1,_,h3⟩ | ⟨_,n,_,⟨s,h1⟩,h3⟩ | h)
 ·exact ⟨n,s,h1,h3⟩
 ·exact ⟨n,s,h1,h3⟩
 ·exact hN b hb h
theorem QI (H:Av c F E a w vs Bs) {ks l:List Nat} {N:Nat→Prop} (hl:∀ n∈l,n∈ks) (ha:∀ n∈l,alive F n) (hN:∀ n∈l,∀ b∈Bs n,¬ N b):∀ n∈l,∀ b∈Bs n,¬ Mg F Bs ks .v N b:=by
 rintro n hn b hb (⟨m,s,h1,h2,h3⟩ | ⟨q,_⟩ | h)
 ·obtain ⟨r,hr⟩:=ha n hn
  exact H.apart n r m s hr h1 (fun e=>h2 (e ▸ hl n hn)) b hb h3
 ·exact q rfl
 ·exact hN n hn b hb h
theorem Y6 {es:Sh} (h:At cf c F E a w vs Bs AB g p sm):∀ {l:List Operand} {αs:List A} {ks:List Nat} {ns:List Fact},Gm cf st g es l=some (αs,ks,ns)→(∀ f∈ns,f∈sm.needs)→∀ n∈ks,alive F n
 | [],αs,ks,ns,ht,_=>by
  simp only [Gm,AJ,AI] at ht
  obtain ⟨rfl,rfl,rfl⟩:=ht
  simp
 | x::l,αs,ks,ns,ht,hn=>by
  simp only [Gm,AQ,A7,AI] at ht
  obtain ⟨⟨α,k1,n1⟩,h1,⟨αs',k2,n2⟩,h2,rfl,rfl,rfl⟩:=ht
  intro n hnn
  rcases A8.1 hnn with hnn | hnn
  ·obtain ⟨_,_,_,k⟩:=H7 (O':=fun _=>False) h1 h (fun f hf=>hn f (Ay _ hf)) (fun _ _ q=>q.elim) (fun _ _ _ _ _ q=>q)
   exact k n hnn
  ·exact Y6 h h2 (fun f hf=>hn f (Ak _ hf)) n hnn
theorem AQN {k:Nat} {t:TypeId} {len:Nat} {ps:Array (Nat×Operand)} (ho:o.op=.buildSlice t len ps) (ht:Sb cf st AB o g k t len ps=some (p,sm)) (h:At cf c F E a w vs Bs AB g p sm) (hE:Ai K E AB p):AR c o sm F E a w:=by
 unfold Sb at ht
 split at ht
 ·rename_i e ti hel
  split at ht
  ·rename_i hc
   obtain ⟨hz,hlen,hps,hin⟩:=hc
   obtain ⟨z,hz⟩:=Option.isSome_iff_exists.1 hz
   simp only [AQ] at ht
   obtain ⟨⟨αs,ks,ns⟩,h1,ht⟩:=ht
   split at ht
   ·rename_i hnd
    simp only [AJ,AI] at ht
    obtain ⟨rfl,rfl⟩:=ht
    have hlt:∀ n s,F (.en n s)→∀ b∈Bs n,b<w.heap.size:=fun n s hs=>AF.EP s _ _ _ (h.H.own n s hs)
    have hO:=O4 h.H (ks:=ks) (es:=GV k) (N:=fun b=>b=w.heap.size) (fun b hb q=>by omega)
    have hal:=Y6 h h1 (fun f hf=>hf)
    obtain ⟨hla,B,f1,f2,f3,f4,_⟩:=Wj h hO h1 (fun f hf=>hf) (fun q=>by
     rw [q]
     exact QI h.H (fun n hn=>hn) hal (fun n hn b hb e=>by obtain ⟨s,hs⟩:=hal n hn; have:=hlt n s hs b hb; omega)) hnd
    have hE':(if (αs.map (ev E)).all D.one=true then some (D.l (αs.map (ev E))) else none)=some (E AB):=hE
    split at hE'
    ·rename_i hone
     injection hE' with hE'
     have hll:len=ps.toList.length:=by have:=congrArg List.length hps; simpa using this.symm
     have hvl:((ps.toList.map (·.2)).map a.eval).length=(αs.map (ev E)).length:=by simp [hla]
     have hv1:=AK.one hone hvl f1
     obtain ⟨g1,g2,g3⟩:=JP hel
     have hP:c.P=cf.P:=h.fits.P
     have hparts:(ps.map fun (i,x)=>(i,a.eval x)).toList=(((ps.toList.map (·.2)).map a.eval).zipIdx 0).map fun x=>(x.2,x.1):=by
      rw [Array.toList_map]
      apply List.ext_getElem?
      intro i
      simp only [List.getElem?_map,List.getElem?_zipIdx,Nat.zero_add]
      cases hi:ps.toList[i]? with
      | none=>simp
      | some x=>
       have:(ps.toList.map (·.1))[i]?=some x.1:=by simp [hi]
       rw [hps] at this
       have hi':i<len:=by rw [hll]; exact (List.getElem?_eq_some_iff.1 hi).1
       rw [List.getElem?_range hi'] at this
       injection this with this
       simp [← this]
     have hbuild:(Instr.buildSlice t len (ps.map fun (i,x)=>(i,a.eval x))).run c.P w=.ok (.slice (some ⟨w.heap.size,0,none⟩) len len) (w.alloc (.cells ((ps.toList.map (·.2)).map a.eval).toArray e)):=by
      have hfill:∀ cells:Array Value,cells.size=len→Instr.fill (fun i=>some (i*ti.size,ti.size)) cells (ps.map fun (i,x)=>(i,a.eval x)).toList=some ((ps.toList.map (·.2)).map a.eval).toArray:=by
       intro cells hcs
       rw [hparts,g3]
       exact Great.fill_flat _ _ (fun v hv=>Pz (hv1 v hv)) (by simp [hcs,hll])
      by_cases h0:len=0
      ·subst h0
       have hf0:=hfill #[] rfl
       rw [g3] at hf0
       have hr0:∀ f:Nat→Value,Array.map f (Array.range 0)=#[]:=fun f=>by simp
       simp [Instr.buildSlice,run_underlying (hP ▸ g1),sizeOf,typeInfo,hP ▸ g2,newRow,g3] at hf0 ⊢
       have hr1:Array.map (fun _=>(default:Value)) (Array.range 0)=#[]:=hr0 _
       rw [hr1,hf0]
       simp
      ·exact run_buildSlice w t e len _ _ ti z (hP ▸ g1) (hP ▸ g2) hz (by rw [g3]; omega) (by rw [g3]; omega) (hfill _ (by simp [g3]))
     have hrun:(execOp a.eval o).run c.P w=.ok (.value (.slice (some ⟨w.heap.size,0,none⟩) len len)) (w.alloc (.cells ((ps.toList.map (·.2)).map a.eval).toArray e)):=by
      simp only [execOp,ho]
      exact CE hbuild
     refine AR.BQ hrun ⟨AP vs AB (.slice (some ⟨w.heap.size,0,none⟩) len len),AP Bs AB (w.heap.size::B),?_⟩
     have hBlt:∀ b∈B,b<w.heap.size:=fun b hb=>by
      obtain ⟨n,_,⟨s,hs⟩,hbn⟩:=f3 b hb
      exact hlt n s hs b hbn
     refine h.H.put (by simpa using h.fresh 0 (by simp [Pr.np])) (by rw [h.fits.nt]; exact hin) ks (DK _ _ _) rfl rfl rfl ?_ ?_ ?_ h.g
     ·rw [← hE']
      simp only [AF]
      have hxl:(αs.map (ev E)).length=len:=by simp [hla,hll]
      refine .inr ⟨_,rfl,.inr ⟨w.heap.size,0,len,_,e,(0,0),B,rfl,?_,heap_alloc_new w _,rfl,by omega,?_,?_,?_⟩⟩
      ·rw [hxl]
      ·simp [hll]
      ·omega
      ·simp only [List.drop_zero]
       refine AK.imp (fun d v B1 hB1 r=>?_) f1
       refine AF.ext (S:=fun _=>False) (DK _ _ _) (fun _ _ q=>q.elim) ?_ _ _ _ _ (fun _ _ q=>q) r
       rintro b hb (q | q)
       ·exact .inl q
       ·rcases A5.1 q with q | q
        ·exact .inr (.inr q)
        ·by_cases hes:GV k=.v
         ·rw [f4 hes] at q; simp at q
         ·exact .inr (.inl ⟨hes,f3 b q⟩)
     ·refine List.nodup_cons.2 ⟨fun q=>?_,f2⟩
      have:=hBlt _ q; omega
     ·intro b hb
      rcases A5.1 hb with rfl | hb
      ·exact .inr (Nat.le_refl _)
      ·obtain ⟨n,hn,⟨s,hs⟩,hbn⟩:=f3 b hb
       exact .inl ⟨n,s,hs,hn,hbn⟩
    ·cases hE'
   ·cases ht
  ·cases ht
 ·cases ht
end
end Go.Cat
namespace Go.Cat
theorem AEZ {P:Program} {w:World} {t ty e:TypeId} {ti:TypeInfo} {z:Value} (hel:EY P t=some (e,ti)) (hz:ti.zero=some z) (hz1:z.cells=#[z]) (hby:ti.bytes≤128)
  {Al news:List Value} {sv xv:Value}
  (hs:(sv=.slice none 0 0∧Al=[])∨∃ g off cap cs e',sv=.slice (some ⟨g,off,none⟩) Al.length cap∧w.heap[g]?=some (.cells cs e' (0,0))∧Al.length≤cap∧off+cap≤cs.size∧(∀ (j:Nat) (v:Value),Al[j]?=some v→cs[off+j]?=some v))
  (hx:((∃ a,xv=.slice a 0 0)∧news=[])∨∃ b off cap,xv=.slice (some ⟨b,off,none⟩) news.length cap∧∀ (j:Nat) (v:Value),news[j]?=some v→w.cell? ⟨b,off+j,none⟩=some v)
  (h1:∀ v∈news,v.oneCell'=true) (hbig:Al.length+news.length≤1099511627776):
  ∃ v' w',(Builtin.append_ #[t,t] ty #[sv,xv]).run P w=.ok v' w'∧w'.os=w.os∧w'.tape=w.tape∧w'.output=w.output∧
   ((v'=.slice none 0 0∧Al=[]∧news=[]∧w'.heap=w.heap)∨
    (∃ g off cap cs e' cs',sv=.slice (some ⟨g,off,none⟩) Al.length cap∧w.heap[g]?=some (.cells cs e' (0,0))∧v'=.slice (some ⟨g,off,none⟩) (Al.length+news.length) cap∧Al.length+news.length≤cap∧cs'.size=cs.size∧
     w'.heap[g]?=some (.cells cs' e' (0,0))∧(∀ b,b≠g→w'.heap[b]?=w.heap[b]?)∧w'.heap.size=w.heap.size∧∀ (j:Nat) (v:Value),(Al++news)[j]?=some v→cs'[off+j]?=some v)∨
    (∃ cap cs',v'=.slice (some ⟨w.heap.size,0,none⟩) (Al.length+news.length) cap∧Al.length+news.length≤cap∧(cap≤cs'.size∧cap≤9223372036854775807)∧w'.heap=w.heap.push (.cells cs' e)∧∀ (j:Nat) (v:Value),(Al++news)[j]?=some v→cs'[j]?=some v)):=by
 obtain ⟨g1,g2,g3⟩:=JP hel
 have hbytes:(Al.length+news.length)*ti.bytes≤140737488355328:=by
  have:(Al.length+news.length)*ti.bytes≤1099511627776*128:=Nat.mul_le_mul hbig hby
  omega
 have hgc:∀ (old:Nat),Al.length+news.length≤grownCap w (Al.length+news.length) old e:=fun old=>grownCap_ge w _ old e
 have hnewget:∀ (old j:Nat) (v:Value),(Al++news)[j]?=some v→(Al.toArray++news.toArray++Builtin.zeroCells z.cells (grownCap w (Al.length+news.length) old e-(Al.length+news.length)))[j]?=some v:=by
  intro old j v hj
  have hjl:j<(Al++news).length:=(List.getElem?_eq_some_iff.1 hj).1
  rw [Array.getElem?_append_left (by simp only [Array.size_append,List.size_toArray]; simpa using hjl)]
  rw [← hj]
  simp [List.getElem?_append]
 have hnewsz:∀ (old:Nat),(Al.toArray++news.toArray++Builtin.zeroCells z.cells (grownCap w (Al.length+news.length) old e-(Al.length+news.length))).size=grownCap w (Al.length+news.length) old e:=by
  intro old
  have:=hgc old
  simp only [Array.size_append,List.size_toArray,size_zeroCells,hz1]
  simp
  omega
 rcases hs with ⟨rfl,rfl⟩ | ⟨g,off,cap,cs,e',rfl,hg,hlc,hoc,hol⟩
 ·rcases hx with ⟨⟨a0,rfl⟩,rfl⟩ | ⟨b,xo,xc,rfl,hxn⟩
  ·refine ⟨.slice none 0 0,w,?_,rfl,rfl,rfl,.inl ⟨rfl,rfl,rfl,rfl⟩⟩
   cases a0 <;> simp [Builtin.append_,run_underlying g1,sizeOf,typeInfo,g2,Builtin.lenOf,Builtin.firstCells,loadCells,loadCellsFrom]
  ·by_cases hm:news.length=0
   ·have:news=[]:=FX hm
    subst this
    refine ⟨.slice none 0 0,w,?_,rfl,rfl,rfl,.inl ⟨rfl,rfl,rfl,rfl⟩⟩
    simp [Builtin.append_,run_underlying g1,sizeOf,typeInfo,g2,Builtin.lenOf,Builtin.firstCells,loadCells,loadCellsFrom]
   ·have hr:=run_append_nil (P:=P) w t ty e ti z g1 g2 hz ⟨b,xo,none⟩ news.length xc news (by rw [g3]; omega) (fun j v hj=>by rw [Addr.add_lit]; exact hxn j v hj) (by omega) (by simp at hbig; omega) (by simp at hbytes; omega)
    have hs1:=hnewsz 0
    have hs2:=hnewget 0
    have hs3:=hgc 0
    simp only [Aq,Nat.zero_add,List.nil_append,Array.empty_append] at hs1 hs2 hs3
    refine ⟨_,_,hr,rfl,rfl,rfl,.inr (.inr ⟨grownCap w news.length 0 e,news.toArray++Builtin.zeroCells z.cells (grownCap w news.length 0 e-news.length),by simp,by simpa using hs3,⟨by rw [hs1]; exact Nat.le_refl _,grownCap_le_maxLen w _ 0 e (by simp at hbig; simp [maxLen]; omega)⟩,rfl,by simpa using hs2⟩)⟩
 ·by_cases hroom:Al.length+news.length≤cap
  · -- in place
   have hf:(Builtin.firstCells ti.size news.length xv).run P w=.ok news.toArray w:=by
    rcases hx with ⟨⟨a0,rfl⟩,rfl⟩ | ⟨b,xo,xc,rfl,hxn⟩
    ·cases a0 <;> simp [Builtin.firstCells,loadCells,loadCellsFrom]
    ·exact run_firstCells_some (P:=P) w ti.size news.length ⟨b,xo,none⟩ _ xc news (by rw [g3]; omega) (fun j v hj=>by rw [Addr.add_lit]; exact hxn j v hj)
   have hlen:(Builtin.lenOf xv).run P w=.ok news.length w:=by
    rcases hx with ⟨⟨a0,rfl⟩,rfl⟩ | ⟨b,xo,xc,rfl,hxn⟩ <;> simp [Builtin.lenOf]
   have hst:=run_storeCells_at P g (off+Al.length) e' news 0 cs w hg (by omega) h1
   simp only [Nat.add_zero] at hst
   have hx2:∃ a b c,xv=.slice a b c:=by
    rcases hx with ⟨⟨a0,rfl⟩,rfl⟩ | ⟨b,xo,xc,rfl,hxn⟩ <;> exact ⟨_,_,_,rfl⟩
   refine ⟨.slice (some ⟨g,off,none⟩) (Al.length+news.length) cap,w.setRow g (cs.toList.take (off+Al.length)++news++cs.toList.drop (off+Al.length+news.length)).toArray,?_,rfl,rfl,rfl,.inr (.inl ⟨g,off,cap,cs,e',_,rfl,hg,rfl,hroom,?_,setRow_heap w g cs _ e' _ hg,fun b hb=>setRow_other w g b _ hb,by simp,?_⟩)⟩
   ·rw [g3] at hf
    simp [Builtin.append_,run_underlying g1,sizeOf,typeInfo,g2,hlen,hroom,g3,hf,Addr.add_lit,hst]
   ·simp only [List.size_toArray,Ad,List.length_take,List.length_drop,Array.length_toList]
    omega
   ·intro j v hj
    have hjl:j<(Al++news).length:=(List.getElem?_eq_some_iff.1 hj).1
    simp only [Ad] at hjl
    simp only [List.getElem?_toArray]
    rw [D4 (by simp only [Ad,List.length_take,Array.length_toList]; omega)]
    by_cases hjo:j<Al.length
    ·rw [D4 (by simp only [List.length_take,Array.length_toList]; omega),List.getElem?_take,if_pos (by omega)]
     rw [D4 hjo] at hj
     simpa using hol j v hj
    ·rw [FI (by simp only [List.length_take,Array.length_toList]; omega)]
     rw [FI (by omega)] at hj
     rw [← hj]
     congr 1
     simp only [List.length_take,Array.length_toList]
     omega
  ·rcases hx with ⟨⟨a0,rfl⟩,rfl⟩ | ⟨b,xo,xc,rfl,hxn⟩
   ·simp at hroom; omega
   ·have hr:=run_append_grow (P:=P) w t ty e ti z g1 g2 hz ⟨g,off,none⟩ Al.length cap Al (by rw [g3]; omega) (fun j v hj=>by rw [Addr.add_lit]; simp [World.cell?,hg,hol j v hj]) ⟨b,xo,none⟩ news.length xc news (by rw [g3]; omega)
     (fun j v hj=>by rw [Addr.add_lit]; exact hxn j v hj) (by omega) (by omega) (growslice_fits (by omega) hbytes)
    refine ⟨_,_,hr,rfl,rfl,rfl,.inr (.inr ⟨grownCap w (Al.length+news.length) cap e,_,rfl,hgc cap,⟨by rw [hnewsz cap]; exact Nat.le_refl _,grownCap_le_maxLen w _ cap e (by simp [maxLen]; omega)⟩,rfl,hnewget cap⟩)⟩
end Go.Cat
namespace Go.Cat
section
variable (cf:CF) (st:List Fact) (AB:Nat) (o:Oper) (g:Gd)
def Oc (ti:TypeInfo):Bool:=match ti.zero with
 | some z=>z.oneCell'
 | none=>false
def Ql (s:Operand):Option (A×List Nat×List Fact):=
 (AW cf st g s).bind fun a=>
  match a.1 with
  | .e n=>if a.2.1=.o .v then some (a.1,[n],a.2.2) else none
  | .c (.l [])=>some (a.1,[],a.2.2)
  | .c _=>none
def X2 (ks:List Nat):A→Bool
 | .e n=>!ks.contains n
 | .c _=>true
def Qx (t:TypeId) (s x:Operand):Option (Pr×Sm):=
 match EY cf.P t with
 | some (_,ti)=>if Oc ti=true∧ti.bytes≤128∧BN o.dst cf.nt=true∧g=[] then
   (Ql cf st g s).bind fun r=>(AW cf st g x).bind fun b=>
    if X2 r.2.1 b.1=true∧(b.2.1=.v∨b.2.1=.o .v∨b.2.1=.y) then
     some (.ap (b.2.1 == .y) r.1 b.1,⟨r.2.2++b.2.2,r.2.1,one AB (.o .v) o.dst (.is AB g)⟩)
    else none
  else none
 | none=>none
end
section
variable {fid:Nat→Nat} {h:Array Obj} {Z:Nat→Prop}
theorem AN.append:∀ {ds es:List D} {vs us:List Value},vs.length=ds.length→AN fid h Z ds vs→AN fid h Z es us→AN fid h Z (ds++es) (vs++us)
 | [],es,[],us,_,_,r=>by simpa using r
 | [],es,_::_,us,hl,_,_=>by simp at hl
 | d::ds,es,[],us,hl,_,_=>by simp at hl
 | d::ds,es,v::vs,us,hl,r,q=>by
  simp only [AN,List.cons_append] at r ⊢
  exact ⟨r.1,AN.append (by simpa using hl) r.2 q⟩
theorem AN.congr:∀ {ds:List D} {vs us:List Value},(∀ (j:Nat) (v:Value),vs[j]?=some v→us[j]?=some v)→AN fid h Z ds vs→AN fid h Z ds us
 | [],_,_,_,_=>by simp [AN]
 | d::ds,[],us,_,r=>by simp [AN] at r
 | d::ds,v::vs,[],hj,_=>by have:=hj 0 v (by simp); simp at this
 | d::ds,v::vs,u::us,hj,r=>by
  simp only [AN] at r ⊢
  have h0:=hj 0 v (by simp)
  simp at h0
  subst h0
  exact ⟨r.1,AN.congr (fun j v hv=>by simpa using hj (j+1) v (by simpa using hv)) r.2⟩
theorem AN.take:∀ {ds:List D} {vs:List Value},AN fid h Z ds vs→AN fid h Z ds (vs.take ds.length)∧(vs.take ds.length).length=ds.length
 | [],_,_=>by simp [AN]
 | d::ds,[],r=>by simp [AN] at r
 | d::ds,v::vs,r=>by
  simp only [AN] at r
  have:=AN.take r.2
  simp only [A6,List.take_succ_cons,AN]
  exact ⟨⟨r.1,this.1⟩,by simpa using this.2⟩
theorem AN.flat {Z':Nat→Prop}:∀ {ds:List D} {vs:List Value},ds.all D.flat=true→AN fid h Z ds vs→AN fid h Z' ds vs
 | [],_,_,_=>by simp [AN]
 | d::ds,[],_,r=>by simp [AN] at r
 | d::ds,v::vs,hf,r=>by
  simp only [AN] at r ⊢
  simp only [List.all_cons,Ac] at hf
  exact ⟨Rd.flat hf.1 r.1,AN.flat hf.2 r.2⟩
theorem AN.one:∀ {ds:List D} {vs:List Value},ds.all D.one=true→vs.length=ds.length→AN fid h Z ds vs→∀ v∈vs,v.oneCell'=true
 | [],[],_,_,_=>by simp
 | [],_::_,_,hl,_=>by simp at hl
 | d::ds,[],_,_,r=>by simp [AN] at r
 | d::ds,v::vs,hf,hl,r=>by
  simp only [AN] at r
  simp only [List.all_cons,Ac] at hf
  intro u hu
  rcases A5.1 hu with rfl | hu
  ·exact Rd.one hf.1 r.1
  ·exact AN.one hf.2 (by simpa using hl) r.2 u hu
theorem D.ASM {d:D} (h:d.flat=true):d.one=true:=by cases d <;> simp_all [D.flat,D.one]
theorem Xz:∀ {ds:List D},ds.all D.flat=true→ds.all D.one=true
 | [],_=>rfl
 | d::ds,hf=>by
  simp only [List.all_cons,Ac] at hf ⊢
  exact ⟨D.ASM hf.1,Xz hf.2⟩
theorem Ej {O X:Nat→Prop}:∀ {ds:List D} {vs:List Value} {B:List Nat},AK (AF fid h O X .v) ds vs B↔B=[]∧AN fid h (fun b=>O b∨X b) ds vs
 | [],vs,B=>by simp [AK,AN]
 | d::ds,[],B=>by simp [AK,AN]
 | d::ds,v::vs,B=>by
  simp only [AK,AN]
  constructor
  ·rintro ⟨B1,B2,rfl,h1,h2⟩
   simp only [AF] at h1
   obtain ⟨rfl,h3⟩:=Ej.1 h2
   exact ⟨by simp [h1.1],h1.2,h3⟩
  ·rintro ⟨rfl,h1,h2⟩
   exact ⟨[],[],rfl,by simp only [AF]; exact ⟨trivial,h1⟩,Ej.2 ⟨rfl,h2⟩⟩
theorem Rd.news {ys:List D} {v:Value} (r:Rd fid h Z (.l ys) v):∃ news:List Value,(((∃ a,v=.slice a 0 0)∧news=[])∨∃ b off cap cs e fz,v=.slice (some ⟨b,off,none⟩) news.length cap∧¬ Z b∧h[b]?=some (.cells cs e fz)∧∀ (j:Nat) (u:Value),news[j]?=some u→cs[off+j]?=some u)∧
  news.length=ys.length∧AN fid h Z ys news:=by
 simp only [Rd] at r
 rcases r with ⟨rfl,a0,rfl⟩ | ⟨b,off,cap,cs,e,fz,rfl,hb,hz,hl,hn⟩
 ·exact ⟨[],.inl ⟨⟨a0,rfl⟩,rfl⟩,rfl,by simp [AN]⟩
 ·obtain ⟨h1,h2⟩:=AN.take hl
  refine ⟨_,.inr ⟨b,off,cap,cs,e,fz,by rw [h2],hz,hb,?_⟩,h2,h1⟩
  intro j u hj
  rw [List.getElem?_take] at hj
  split at hj
  ·rwa [D8] at hj
  ·cases hj
end
section
variable {cf:CF} {c:Cx} {F:Fact→Prop} {E:Nat→D} {a:Act} {w:World} {vs:Nat→Value} {Bs:Nat→List Nat} {AB:Nat} {g:Gd} {sm:Sm} {st:List Fact} {o:Oper} {p:Pr}
 {K:Nat→List D→List D→Prop}
def UQ (h:Array Obj) (xs:List D) (sv:Value) (B:List Nat) (Al:List Value):Prop:=
 (sv=.slice none 0 0∧Al=[]∧B=[])∨∃ b off cap cs e,B=[b]∧sv=.slice (some ⟨b,off,none⟩) Al.length cap∧h[b]?=some (.cells cs e (0,0))∧Al.length≤cap∧(off+cap≤cs.size∧cap≤9223372036854775807)∧∀ (j:Nat) (v:Value),Al[j]?=some v→cs[off+j]?=some v
theorem AF.Al {fid:Nat→Nat} {h:Array Obj} {O X:Nat→Prop} {xs:List D} {sv:Value} {B:List Nat} (r:AF fid h O X (.o .v) (.l xs) sv B):
  ∃ Al:List Value,UQ h xs sv B Al∧Al.length=xs.length∧AN fid h (fun b=>O b∨X b) xs Al:=by
 simp only [AF] at r
 rcases r with ⟨q | q,_⟩ | ⟨ys,hy,r⟩
 ·cases q
 ·simp [D.flat] at q
 injection hy with hy; subst hy
 rcases r with ⟨rfl,rfl,rfl⟩ | ⟨b,off,cap,cs,e,fz,B',rfl,rfl,hb,ht,h1,h2,h3,he⟩
 ·exact ⟨[],.inl ⟨rfl,rfl,rfl⟩,rfl,by simp [AN]⟩
 ·obtain ⟨rfl,hr⟩:=Ej.1 he
  obtain ⟨k1,k2⟩:=AN.take hr
  have hfz:fz=(0,0):=ht
  subst hfz
  refine ⟨_,.inr ⟨b,off,cap,cs,e,rfl,by rw [k2],hb,by rw [k2]; exact h1,⟨h2,h3⟩,?_⟩,k2,k1⟩
  intro j u hj
  rw [List.getElem?_take] at hj
  split at hj
  ·rwa [D8] at hj
  ·cases hj
theorem AB7 {x:Operand} {s:Sh} {ns:List Fact} (h:AW cf st g x=some (.c (.l []),s,ns)):a.eval x=.slice none 0 0:=by
 cases x with
 | const v=>
  simp only [AW,A7] at h
  obtain ⟨d,hd,h⟩:=h
  simp only [AI] at h
  obtain ⟨h1,_,_⟩:=h
  injection h1 with h1
  subst h1
  unfold DF at hd
  split at hd <;> try (injection hd with hd; cases hd)
  ·split at hd
   ·injection hd with hd; cases hd
   ·cases hd
  ·rfl
  ·cases hd
 | func f=>
  simp only [AW,A7,AI] at h
  obtain ⟨k,hk,h1,_⟩:=h
  simp at h1
 | global f=>simp [AW] at h
 | tmp t=>
  simp only [AW] at h
  split at h
  ·split at h
   ·simp only [A7,AI] at h
    obtain ⟨_,_,h1,_⟩:=h
    cases h1
   ·cases h
  ·cases h
theorem ARF {s:Operand} {α:A} {ks:List Nat} {ns:List Fact} (ht:Ql cf st g s=some (α,ks,ns)) (h:At cf c F E a w vs Bs AB g p sm) (hn:∀ f∈ns,f∈sm.needs) {xs:List D} (hx:ev E α=.l xs):
  ∃ B,AF c.fid w.heap (OB F Bs) c.Xb (.o .v) (.l xs) (a.eval s) B∧((ks=[]∧B=[])∨∃ n,ks=[n]∧α=.e n∧F (.en n (.o .v))∧B=Bs n):=by
 unfold Ql at ht
 simp only [AQ] at ht
 obtain ⟨⟨α1,s1,n1⟩,h1,ht⟩:=ht
 simp only at ht
 split at ht
 ·rename_i n
  split at ht
  ·rename_i hs
   subst hs
   simp only [AJ,AI] at ht
   obtain ⟨rfl,rfl,rfl⟩:=ht
   obtain ⟨B,hB,hn'⟩:=h.AW h1 hn
   obtain ⟨k1,k2,k3⟩:=hn' n rfl
   rw [hx] at hB
   exact ⟨B,hB,.inr ⟨n,rfl,rfl,k1,k3⟩⟩
  ·cases ht
 ·simp only [AJ,AI] at ht
  obtain ⟨rfl,rfl,rfl⟩:=ht
  have hv:=AB7 (a:=a) h1
  simp only [ev] at hx
  injection hx with hx
  subst hx
  rw [hv]
  exact ⟨[],AF.nil,.inl ⟨rfl,rfl⟩⟩
 ·cases ht
theorem Wz {fl:Bool} {d1 d2 d:D} (h:DQ fl d1 d2=some d):∃ xs ys,d1=.l xs∧d2=.l ys∧d=.l (xs++ys)∧xs.length+ys.length≤1099511627776∧ys.all D.one=true∧(fl=true→ys.all D.flat=true):=by
 unfold DQ at h
 split at h
 ·rename_i xs ys
  by_cases hc:xs.length+ys.length≤FG∧ys.all (if fl=true then D.flat else D.one)=true
  ·rw [if_pos hc] at h
   obtain ⟨h1,h2⟩:=hc
   injection h with h
   refine ⟨xs,ys,rfl,rfl,h.symm,h1,?_,?_⟩
   ·cases fl with
    | true=>exact Xz (by simpa using h2)
    | false=>simpa using h2
   ·rintro rfl; simpa using h2
  ·rw [if_neg hc] at h; cases h
 ·cases h
theorem AP4 {t:TypeId} {s x:Operand} (ho:o.op=.call { callee:=.builtin .append,args:=#[s,x],argTypes:=#[t,t] }) (ht:Qx cf st AB o g t s x=some (p,sm)) (h:At cf c F E a w vs Bs AB g p sm) (hE:Ai K E AB p):AR c o sm F E a w:=by
 unfold Qx at ht
 split at ht
 ·rename_i e ti hel
  split at ht
  ·rename_i hc
   obtain ⟨hz,hby,hin,hg⟩:=hc
   simp only [AQ] at ht
   obtain ⟨⟨α,ks,n1⟩,h1,⟨β,s2,n2⟩,h2,ht⟩:=ht
   simp only at ht
   split at ht
   ·rename_i hc2
    obtain ⟨hnk,hs2⟩:=hc2
    simp only [AJ,AI] at ht
    obtain ⟨rfl,rfl⟩:=ht
    have hE':DQ (s2 == .y) (ev E α) (ev E β)=some (E AB):=hE
    obtain ⟨xs,ys,e1,e2,e3,e4,e5,e6⟩:=Wz hE'
    obtain ⟨B,hB,hks⟩:=ARF h1 h (fun f hf=>Ay _ hf) e1
    obtain ⟨B2,hB2,hn2⟩:=h.AW h2 (fun f hf=>Ak _ hf)
    rw [e2] at hB2
    obtain ⟨Al,hrow,hol,hro⟩:=hB.Al
    have hlt:∀ n s,F (.en n s)→∀ b∈Bs n,b<w.heap.size:=fun n s hs=>AF.EP s _ _ _ (h.H.own n s hs)
    have hBO:∀ b∈B,OB F Bs b:=by
     intro b hb
     rcases hks with ⟨_,rfl⟩ | ⟨n,_,_,hn,rfl⟩
     ·simp at hb
     ·exact ⟨n,_,hn,hb⟩
    -- the elements that come
    obtain ⟨news,hnv,hnl,hnr⟩:∃ news:List Value,(((∃ ad,a.eval x=.slice ad 0 0)∧news=[])∨∃ b off cap cs e fz,a.eval x=.slice (some ⟨b,off,none⟩) news.length cap∧b∉B∧w.heap[b]?=some (.cells cs e fz)∧∀ (j:Nat) (u:Value),news[j]?=some u→cs[off+j]?=some u)∧
      news.length=ys.length∧AN c.fid w.heap (fun b=>OB F Bs b∨c.Xb b) ys news:=by
     rcases hs2 with hs2 | hs2 | hs2
     ·subst hs2
      simp only [AF] at hB2
      obtain ⟨news,k1,k2,k3⟩:=hB2.2.news
      refine ⟨news,?_,k2,k3⟩
      rcases k1 with k1 | ⟨b,off,cap,cs,e,fz,q1,q2,q3,q4⟩
      ·exact .inl k1
      ·exact .inr ⟨b,off,cap,cs,e,fz,q1,fun hb=>q2 (.inl (hBO b hb)),q3,q4⟩
     ·subst hs2
      obtain ⟨news,k1,k2,k3⟩:=hB2.Al
      refine ⟨news,?_,k2,k3⟩
      rcases k1 with ⟨q1,q2,_⟩ | ⟨b,off,cap,cs,e,q0,q1,q2,_,_,q4⟩
      ·exact .inl ⟨⟨_,q1⟩,q2⟩
      ·refine .inr ⟨b,off,cap,cs,e,_,q1,fun hb=>?_,q2,q4⟩
       cases hβ:β with
       | c d=>
        subst hβ
        have:=Wb h2
        cases x with
        | const v=>
         simp only [AW,A7,AI] at h2
         obtain ⟨_,_,_,q,_⟩:=h2; cases q
        | func v=>
         simp only [AW,A7,AI] at h2
         obtain ⟨_,_,_,q,_⟩:=h2; cases q
        | global v=>simp [AW] at h2
        | tmp t=>
         simp only [AW] at h2
         split at h2
         ·split at h2
          ·simp only [A7,AI] at h2
           obtain ⟨_,_,q,_⟩:=h2; cases q
          ·cases h2
         ·cases h2
       | e m=>
        obtain ⟨m1,m2,m3⟩:=hn2 m hβ
        rcases hks with ⟨_,rfl⟩ | ⟨n,rfl,_,hn,rfl⟩
        ·simp at hb
        ·have hne:m≠n:=by
          rintro rfl
          rw [hβ] at hnk
          simp [X2] at hnk
         have hbm:b∈Bs m:=by rw [← m3,q0]; simp
         exact h.H.apart m _ n _ m1 hn hne b hbm hb
     ·subst hs2
      simp only [AF] at hB2
      obtain ⟨news,k1,k2,k3⟩:=hB2.2.news
      refine ⟨news,?_,k2,AN.flat (e6 rfl) k3⟩
      rcases k1 with k1 | ⟨b,off,cap,cs,e,fz,q1,q2,q3,q4⟩
      ·exact .inl k1
      ·exact .inr ⟨b,off,cap,cs,e,fz,q1,fun hb=>q2 (hBO b hb),q3,q4⟩
    have hP:c.P=cf.P:=h.fits.P
    unfold Oc at hz
    split at hz
    ·rename_i z hzz
     have hrow':=hrow
     unfold UQ at hrow'
     obtain ⟨v',w',hr,w1,w2,w3,hres⟩:=AEZ (P:=c.P) (w:=w) (ty:=o.type) (hP ▸ hel) hzz (Pz hz) hby (Al:=Al) (news:=news) (sv:=a.eval s) (xv:=a.eval x)
      (by
       rcases hrow' with ⟨q1,q2,_⟩ | ⟨b,off,cap,cs,e,_,q1,q2,q3,q4,q5⟩
       ·exact .inl ⟨q1,q2⟩
       ·exact .inr ⟨b,off,cap,cs,e,q1,q2,q3,q4.1,q5⟩)
      (by
       rcases hnv with q | ⟨b,off,cap,cs,e,fz,q1,_,q3,q4⟩
       ·exact .inl q
       ·exact .inr ⟨b,off,cap,q1,fun j v hj=>by simp [World.cell?,q3,q4 j v hj]⟩)
      (AN.one e5 hnl hnr) (by rw [hol,hnl]; exact e4)
     have hrun:(execOp a.eval o).run c.P w=.ok (.value v') w':=by
      rw [KH ho]
      show (Bind.bind (Builtin.append_ #[t,t] o.type (#[s,x].map a.eval)) _).run c.P w=_
      refine CE ?_
      simpa using hr
     have hall:=AN.append hol hro hnr
     have hlen:(xs++ys).length=Al.length+news.length:=by simp [hol,hnl]
     have hin':BN o.dst c.nt=true:=by rw [h.fits.nt]; exact hin
     have hfr:BX F AB:=by simpa using h.fresh 0 (by simp [Pr.np])
     have hkb:∀ b∈B,∃ n r,F (.en n r)∧n∈ks∧b∈Bs n:=by
      intro b hb
      rcases hks with ⟨_,rfl⟩ | ⟨n,rfl,_,hn,rfl⟩
      ·simp at hb
      ·exact ⟨n,_,hn,by simp,hb⟩
     have hOk:∀ N:Nat→Prop,(∀ b,b<w.heap.size→N b→b∈B)→∀ b,b<w.heap.size→((DO F Bs (fun n=>n∈ks) b∨N b)∨c.Xb b)→(OB F Bs b∨c.Xb b):=by
      rintro N hN b hb ((⟨n,s,q1,_,q3⟩ | q) | q)
      ·exact .inl ⟨n,s,q1,q3⟩
      ·exact .inl (hBO b (hN b hb q))
      ·exact .inr q
     rcases hres with ⟨rfl,q1,q2,q3⟩ | ⟨gb,off,cap,cs,e',cs',q1,q2,rfl,q4,q5,q6,q7,q8,q9⟩ | ⟨cap,cs',rfl,q4,⟨q5,q50⟩,q6,q9⟩
     · -- nil stays nil
      refine AR.BQ hrun ⟨AP vs AB (.slice none 0 0),AP Bs AB [],?_⟩
      refine h.H.put hfr hin' ks (by rw [q3]; exact Af.refl _ _) w1 w2 w3 ?_ (by simp) (by simp) h.g
      rw [e3]
      have hx0:xs=[]:=FX (by rw [← hol,q1]; rfl)
      have hy0:ys=[]:=FX (by rw [← hnl,q2]; rfl)
      subst hx0 hy0
      exact AF.nil
     · -- in place
      have hBg:B=[gb]:=by
       rcases hrow with ⟨r1,_,_⟩ | ⟨b,off2,cap2,cs2,e2',r0,r1,r2,r3,r4,r5⟩
       ·rw [q1] at r1; cases r1
       ·rw [q1] at r1
        injection r1 with r1 _ _
        injection r1 with r1
        injection r1 with r1 _ _
        rw [r0,r1]
      have hoc:off+cap≤cs.size∧cap≤9223372036854775807:=by
       rcases hrow with ⟨r1,_,_⟩ | ⟨b,off2,cap2,cs2,e2',r0,r1,r2,r3,r4,r5⟩
       ·rw [q1] at r1; cases r1
       ·rw [q1] at r1
        injection r1 with r1 _ r1c
        injection r1 with r1
        injection r1 with r1 r1o _
        subst r1 r1c r1o
        rw [q2] at r2
        injection r2 with r2
        injection r2 with r2 _ _
        subst r2
        exact r4
      have hagr:Af (fun b=>b=gb) w.heap w'.heap:=⟨by rw [q8]; exact Nat.le_refl _,fun b _ hb=>q7 b hb⟩
      refine AR.BQ hrun ⟨AP vs AB (.slice (some ⟨gb,off,none⟩) (Al.length+news.length) cap),AP Bs AB [gb],?_⟩
      refine h.H.put hfr hin' ks (hagr.mono fun b _ hb=>?_) w1 w2 w3 ?_ (by simp) (fun b hb=>.inl (hkb b (by rw [hBg]; exact hb))) h.g
      ·subst hb; exact hkb b (by rw [hBg]; simp)
      ·rw [e3]
       simp only [AF]
       refine .inr ⟨_,rfl,.inr ⟨gb,off,cap,cs',e',(0,0),[],rfl,by rw [hlen],q6,rfl,by rw [hlen]; exact q4,by rw [q5]; exact hoc.1,hoc.2,Ej.2 ⟨rfl,?_⟩⟩⟩
       refine AN.ext (S:=fun b=>b=gb) (Z:=fun b=>OB F Bs b∨c.Xb b) hagr (fun b _ hb=>.inl (hBO b (by rw [hBg,hb]; simp))) (hOk _ fun b _ hb=>by rw [hBg]; exact hb) _ _ ?_
       refine AN.congr (fun j v hj=>?_) hall
       rw [D8]; exact q9 j v hj
     · -- a new block
      have hagr:Af (fun _=>False) w.heap w'.heap:=by rw [q6]; exact Af.push _ _
      have hnewb:w'.heap[w.heap.size]?=some (.cells cs' e (0,0)):=by rw [q6]; simp
      refine AR.BQ hrun ⟨AP vs AB (.slice (some ⟨w.heap.size,0,none⟩) (Al.length+news.length) cap),AP Bs AB [w.heap.size],?_⟩
      refine h.H.put hfr hin' ks (hagr.mono fun _ _ q=>q.elim) w1 w2 w3 ?_ (by simp) (fun b hb=>.inr (by simp at hb; omega)) h.g
      rw [e3]
      simp only [AF]
      refine .inr ⟨_,rfl,.inr ⟨w.heap.size,0,cap,cs',e,(0,0),[],rfl,by rw [hlen],hnewb,rfl,by rw [hlen]; exact q4,by omega,q50,Ej.2 ⟨rfl,?_⟩⟩⟩
      refine AN.ext (S:=fun _=>False) (Z:=fun b=>OB F Bs b∨c.Xb b) hagr (fun _ _ q=>q.elim) (hOk _ fun b hb q=>by simp at q; omega) _ _ ?_
      refine AN.congr (fun j v hj=>?_) hall
      rw [D8,Nat.zero_add]; exact q9 j v hj
    ·cases hz
   ·cases ht
  ·cases ht
 ·cases ht
end
end Go.Cat
namespace Go.Cat
theorem AK.AP {R:D→Value→List Nat→Prop}:∀ {ds:List D} {vs:List Value} {B:List Nat} {i:Nat} {d:D} {v:Value},AK R ds vs B→ds[i]?=some d→vs[i]?=some v→
  ∃ Bi B1 B2,B=B1++(Bi++B2)∧R d v Bi∧∀ (R':D→Value→List Nat→Prop) (x:D) (u:Value) (Bx:List Nat),(∀ d v B',(∀ k∈B',k∈B1∨k∈B2)→R d v B'→R' d v B')→R' x u Bx→
   AK R' (ds.set i x) (vs.set i u) (B1++(Bx++B2))
 | [],_,_,_,_,_,_,h,_=>by simp at h
 | _::_,[],_,_,_,_,_,_,h=>by simp at h
 | d0::ds,v0::vs,B,0,d,v,r,h1,h2=>by
  simp only [AK] at r
  obtain ⟨Bi,B2,rfl,r1,r2⟩:=r
  simp at h1 h2
  subst h1 h2
  refine ⟨Bi,[],B2,rfl,r1,fun R' x u Bx hR hx=>?_⟩
  simp only [List.set_cons_zero,AK,List.nil_append]
  exact ⟨Bx,B2,rfl,hx,AK.imp (fun d v B' hB q=>hR d v B' (fun k hk=>.inr (hB k hk)) q) r2⟩
 | d0::ds,v0::vs,B,i+1,d,v,r,h1,h2=>by
  simp only [AK] at r
  obtain ⟨B0,B3,rfl,r1,r2⟩:=r
  obtain ⟨Bi,B1,B2,rfl,q1,q2⟩:=AK.AP r2 (by simpa using h1) (by simpa using h2)
  refine ⟨Bi,B0++B1,B2,by simp,q1,fun R' x u Bx hR hx=>?_⟩
  simp only [List.set_cons_succ,AK]
  refine ⟨B0,B1++(Bx++B2),by simp,hR _ _ _ (fun k hk=>.inl (Ay _ hk)) r1,?_⟩
  exact q2 R' x u Bx (fun d v B' hB q=>hR d v B' (fun k hk=>(hB k hk).imp (fun q=>Ak _ q) id) q) hx
theorem List.ARO {l:List Value} {i:Nat} {z:Value} (h:l[i]?=some z):l.set i z=l:=by
 apply List.ext_getElem?
 intro j
 rw [List.getElem?_set]
 split
 ·rename_i hij
  subst hij
  split
  ·exact h.symm
  ·rename_i hlt
   rw [Dd (by omega)]
 ·rfl
theorem AF.setRow {fid:Nat→Nat} {h h':Array Obj} {O O' X:Nat→Prop} {gb go:Nat} {u:Value} {gcs:Array Value} {ge:TypeId}
  (ha:∀ b,b≠gb→h'[b]?=h[b]?) (hsz:h'.size=h.size) (hg:h[gb]?=some (.cells gcs ge (0,0))) (hg':h'[gb]?=some (.cells (gcs.setIfInBounds go u) ge (0,0)))
  (hgO:O gb) (hO:∀ b,b<h.size→O' b→O b) {es s:Sh} {x:D} {Bx:List Nat} (hx:AF fid h' O' X es x u Bx) {is:List Nat} {b off i:Nat} {cs:Array Value} {e:TypeId} {xs:List D} {B':List Nat} {d1 d1':D} {y z:Value}
  (hb:h[b]?=some (.cells cs e (0,0))) (he:AK (AF fid h O X s) xs (cs.toList.drop off) B') (hnd:(b::B').Nodup) (hdis:∀ k∈b::B',k∉Bx) (hbx:Bx.Nodup) (hs:s.under is.length=some es)
  (hxi:xs[i]?=some d1) (hset:Aa is d1 x=some d1') (hz:cs[off+i]?=some z) (hw:(is=[]∧gb=b∧go=off+i∧y=z)∨(is≠[]∧Wk h is z gb go y))
  (ih:is≠[]→∀ Bi,AF fid h O X s d1 z Bi→Bi.Nodup→(∀ k∈Bi,k∉Bx)→Wk h is z gb go y→∃ B',AF fid h' O' X s d1' z B'∧(∀ k∈B',k∈Bi∨k∈Bx)∧B'.Nodup∧gb∈Bi):
  ∃ cs' B2,h'[b]?=some (.cells cs' e (0,0))∧cs'.size=cs.size∧AK (AF fid h' O' X s) (xs.set i d1') (cs'.toList.drop off) B2∧(∀ k∈b::B2,k∈b::B'∨k∈Bx)∧(b::B2).Nodup∧gb∈b::B':=by
 have hzl:(cs.toList.drop off)[i]?=some z:=by rw [D8]; exact hz
 obtain ⟨Bi,B1,B2,rfl,r1,r2⟩:=AK.AP he hxi hzl
 have hnd':=(List.nodup_cons.1 hnd).2
 have hnb:=(List.nodup_cons.1 hnd).1
 obtain ⟨n1,n23,n4⟩:=List.nodup_append.1 hnd'
 obtain ⟨n2,n3,n5⟩:=List.nodup_append.1 n23
 have hagr:Af (fun b=>b=gb) h h':=⟨by rw [hsz]; exact Nat.le_refl _,fun b _ hb=>ha b hb⟩
 have htr:(∀ k,k∈B1∨k∈B2→k≠gb)→∀ d v B',(∀ k∈B',k∈B1∨k∈B2)→AF fid h O X s d v B'→AF fid h' O' X s d v B':=by
  intro hk d v B' hB q
  exact AF.ext hagr (fun b _ hb=>by rw [hb]; exact hgO) hO s d v B' (fun b hb e=>hk b (hB b hb) e) q
 by_cases hn:is=[]
 ·subst hn
  rcases hw with ⟨_,rfl,rfl,rfl⟩ | ⟨hne,_⟩
  ·simp only [Aq,Sh.under,AJ] at hs
   subst hs
   simp only [Aa,AJ] at hset
   subst hset
   rw [hb] at hg
   injection hg with hg
   injection hg with g1 g2 _
   subst g1 g2
   have hkb:∀ k,k∈B1∨k∈B2→k≠gb:=by
    rintro k hk rfl
    exact hnb (by rcases hk with hk | hk <;> simp [hk])
   have hE:=r2 (AF fid h' O' X s) x u Bx (htr hkb) hx
   refine ⟨_,B1++(Bx++B2),hg',by simp,?_,?_,?_,by simp⟩
   ·have:(cs.setIfInBounds (off+i) u).toList.drop off=(cs.toList.drop off).set i u:=by
     rw [Array.toList_setIfInBounds,List.drop_set,if_neg (by omega),Nat.add_sub_cancel_left]
    rw [this]
    exact hE
   ·intro k hk
    simp only [A5,A8] at hk ⊢
    rcases hk with hk | hk | hk | hk
    ·exact .inl (.inl hk)
    ·exact .inl (.inr (.inl hk))
    ·exact .inr hk
    ·exact .inl (.inr (.inr (.inr hk)))
   ·refine List.nodup_cons.2 ⟨fun q=>?_,List.nodup_append.2 ⟨n1,List.nodup_append.2 ⟨hbx,n3,fun a ha b hb=>?_⟩,fun a ha b hb=>?_⟩⟩
    ·simp only [A8] at q
     rcases q with q | q | q
     ·exact hnb (by simp [q])
     ·exact hdis gb (by simp) q
     ·exact hnb (by simp [q])
    ·rintro rfl; exact hdis a (by simp [hb]) ha
    ·rintro rfl
     simp only [A8] at hb
     rcases hb with hb | hb
     ·exact hdis a (by simp [ha]) hb
     ·exact n4 a ha a (by simp [hb]) rfl
  ·exact (hne rfl).elim
 ·rcases hw with ⟨q,_⟩ | ⟨_,hw⟩
  ·exact (hn q).elim
  obtain ⟨Bn,w1,w2,w3,w4⟩:=ih hn Bi r1 n2 (fun k hk=>hdis k (by simp [hk])) hw
  have hbgb:b≠gb:=by rintro rfl; exact hnb (by simp [w4])
  have hkb:∀ k,k∈B1∨k∈B2→k≠gb:=by
   rintro k hk rfl
   rcases hk with hk | hk
   ·exact n4 k hk k (by simp [w4]) rfl
   ·exact n5 k w4 k hk rfl
  have hE:=r2 (AF fid h' O' X s) d1' z Bn (htr hkb) w1
  refine ⟨cs,B1++(Bn++B2),(ha b hbgb).trans hb,rfl,?_,?_,?_,by simp [w4]⟩
  ·have hself:(cs.toList.drop off).set i z=cs.toList.drop off:=List.ARO hzl
   rw [hself] at hE
   exact hE
  ·intro k hk
   simp only [A5,A8] at hk ⊢
   rcases hk with hk | hk | hk | hk
   ·exact .inl (.inl hk)
   ·exact .inl (.inr (.inl hk))
   ·exact (w2 k hk).imp (fun q=>.inr (.inr (.inl q))) id
   ·exact .inl (.inr (.inr (.inr hk)))
  ·refine List.nodup_cons.2 ⟨fun q=>?_,List.nodup_append.2 ⟨n1,List.nodup_append.2 ⟨w3,n3,fun a ha' b' hb'=>?_⟩,fun a ha' b' hb'=>?_⟩⟩
   ·simp only [A8] at q
    rcases q with q | q | q
    ·exact hnb (by simp [q])
    ·rcases w2 _ q with q | q
     ·exact hnb (by simp [q])
     ·exact hdis b (by simp) q
    ·exact hnb (by simp [q])
   ·rintro rfl
    rcases w2 _ ha' with q | q
    ·exact n5 a q a hb' rfl
    ·exact hdis a (by simp [hb']) q
   ·rintro rfl
    simp only [A8] at hb'
    rcases hb' with hb' | hb'
    ·rcases w2 _ hb' with q | q
     ·exact n4 a ha' a (by simp [q]) rfl
     ·exact hdis a (by simp [ha']) q
    ·exact n4 a ha' a (by simp [hb']) rfl
theorem AF.set {fid:Nat→Nat} {h h':Array Obj} {O O' X:Nat→Prop} {gb go:Nat} {u:Value} {gcs:Array Value} {ge:TypeId}
  (ha:∀ b,b≠gb→h'[b]?=h[b]?) (hsz:h'.size=h.size) (hg:h[gb]?=some (.cells gcs ge (0,0))) (hg':h'[gb]?=some (.cells (gcs.setIfInBounds go u) ge (0,0)))
  (hgO:O gb) (hO:∀ b,b<h.size→O' b→O b) {es:Sh} {x:D} {Bx:List Nat} (hx:AF fid h' O' X es x u Bx):
  ∀ (is:List Nat) (s:Sh) (d d':D) (v y:Value) (B:List Nat),is≠[]→AF fid h O X s d v B→B.Nodup→(∀ k∈B,k∉Bx)→Bx.Nodup→s.under is.length=some es→Aa is d x=some d'→Wk h is v gb go y→
  ∃ B',AF fid h' O' X s d' v B'∧(∀ k∈B',k∈B∨k∈Bx)∧B'.Nodup∧gb∈B
 | [],_,_,_,_,_,_,hne=>(hne rfl).elim
 | i::is,s,d,d',v,y,B,_=>fun r hnd hdis hbx hs hset hw=>by
  cases s with
  | v=>simp [Sh.under] at hs
  | y=>simp [Sh.under] at hs
  | a s=>simp [Sh.under] at hs
  | m=>simp [Sh.under] at hs
  | b s=>
   simp only [A6,Sh.under] at hs
   simp only [AF] at r
   obtain ⟨xs,b,cs,e,fz,B',rfl,rfl,rfl,hb,ht,hl,he⟩:=r
   simp only [Aa,A7,AQ] at hset
   obtain ⟨d1',⟨d1,hxi,hset⟩,rfl⟩:=hset
   simp only [Wk] at hw
   obtain ⟨b2,o2,cs2,e2,fz2,z,hv,hb2,hz,hw⟩:=hw
   obtain ⟨q1,q2⟩:=hv.box
   subst q1 q2
   rw [hb] at hb2
   injection hb2 with hb2
   injection hb2 with q5 q6 q7
   subst q5
   have hfz:fz=(0,0):=ht
   subst hfz
   obtain ⟨cs',B2,k1,k2,k3,k4,k5,k6⟩:=AF.setRow (off:=0) (i:=o2) (y:=y) ha hsz hg hg' hgO hO hx hb (by simpa using he) hnd hdis hbx hs hxi hset (by simpa using hz) (by simpa using hw)
    (fun hn Bi r1 n2 hd hw=>AF.set ha hsz hg hg' hgO hO hx is s d1 d1' z y Bi hn r1 n2 hd hbx hs hset hw)
   refine ⟨b2::B2,?_,k4,k5,k6⟩
   simp only [AF]
   exact ⟨_,b2,cs',e,(0,0),B2,rfl,rfl,rfl,k1,rfl,by simp [k2,hl],by simpa using k3⟩
  | o s=>
   simp only [A6,Sh.under] at hs
   cases d with
   | l xs=>
    simp only [Aa,A7,AQ] at hset
    obtain ⟨d1',⟨d1,hxi,hset⟩,rfl⟩:=hset
    simp only [AF] at r
    rcases r with ⟨q | q,_⟩ | ⟨ys,hy,r⟩
    ·cases q
    ·simp [D.flat] at q
    injection hy with hy; subst hy
    rcases r with ⟨_,rfl,_⟩ | ⟨b,off,cap,cs,e,fz,B',rfl,rfl,hb,ht,h1,h2,h3,he⟩
    ·simp at hxi
    simp only [Wk] at hw
    obtain ⟨b2,o2,cs2,e2,fz2,z,hv,hb2,hz,hw⟩:=hw
    obtain ⟨q1,hil,q2⟩:=hv.slice
    subst q1 q2
    rw [hb] at hb2
    injection hb2 with hb2
    injection hb2 with q5 q6 q7
    subst q5
    have hfz:fz=(0,0):=ht
    subst hfz
    obtain ⟨cs',B2,k1,k2,k3,k4,k5,k6⟩:=AF.setRow (y:=y) ha hsz hg hg' hgO hO hx hb he hnd hdis hbx hs hxi hset hz hw
     (fun hn Bi r1 n2 hd hw=>AF.set ha hsz hg hg' hgO hO hx is s d1 d1' z y Bi hn r1 n2 hd hbx hs hset hw)
    refine ⟨b2::B2,?_,k4,k5,k6⟩
    simp only [AF]
    exact .inr ⟨_,rfl,.inr ⟨b2,off,cap,cs',e,(0,0),B2,rfl,by simp,k1,rfl,by simpa using h1,by rw [k2]; exact h2,h3,k3⟩⟩
   | g xs=>
    simp only [AF] at r
    rcases r with ⟨q | q,_⟩ | ⟨ys,hy,r⟩
    ·cases q
    ·simp [D.flat] at q
    ·cases hy
   | _=>simp [Aa] at hset
end Go.Cat
