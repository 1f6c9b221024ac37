/-
 The little language of plain data: values, operations over entries, statements, and what they compute.
 Nothing here speaks of memory: slices are lists. The tie to the model lies in CatSound.
-/
import Derived.Orders
import Derived.KernelRfl
import Derived.Laws.Sem
import Derived.Laws.Strings
import Derived.Laws.OwnMore
import Derived.Great.BuildSlice
set_option linter.unusedSimpArgs false
set_option linter.unusedVariables false
namespace Go.Cat
theorem AL:type_of% (@Option.some.injEq):=@Option.some.injEq
theorem AS:type_of% (@Option.bind_eq_some_iff):=@Option.bind_eq_some_iff
theorem AJ:type_of% (@Prod.mk.injEq):=@Prod.mk.injEq
theorem Ae:type_of% (@Option.map_eq_some_iff):=@Option.map_eq_some_iff
theorem Ap:type_of% (@List.getD_eq_getElem?_getD):=@List.getD_eq_getElem?_getD
theorem AO:type_of% (@List.length_cons):=@List.length_cons
theorem BB:type_of% (@List.mem_append_right):=@List.mem_append_right
theorem AU:type_of% (@Bool.and_eq_true):=@Bool.and_eq_true
theorem BN:type_of% (@List.mem_append_left):=@List.mem_append_left
theorem BL:type_of% (@List.mem_cons_of_mem):=@List.mem_cons_of_mem
theorem AZ:type_of% (@List.length_append):=@List.length_append
theorem Ad:type_of% (@decide_eq_true_eq):=@decide_eq_true_eq
theorem CX:type_of% (@Array.getD_eq_getD_getElem?):=@Array.getD_eq_getD_getElem?
theorem Aa:type_of% (@List.length_nil):=@List.length_nil
theorem AY:type_of% (@List.mem_cons):=@List.mem_cons
theorem Dd:type_of% (@List.eq_nil_of_length_eq_zero):=@List.eq_nil_of_length_eq_zero
theorem CZ:type_of% (@Int.eq_ofNat_of_zero_le):=@Int.eq_ofNat_of_zero_le
theorem Ac:type_of% (@List.mem_append):=@List.mem_append
theorem CO:type_of% (@List.take_succ_eq_append_getElem):=@List.take_succ_eq_append_getElem
theorem D7:type_of% (@List.getElem?_eq_none):=@List.getElem?_eq_none
theorem Bl:type_of% (@Int.add_sub_cancel):=@Int.add_sub_cancel
theorem Aj:type_of% (@List.all_eq_true):=@List.all_eq_true
theorem DP:type_of% (@List.getElem?_append_left):=@List.getElem?_append_left
theorem B7:type_of% (@Nat.lt_or_ge):=@Nat.lt_or_ge
theorem BM:type_of% (@Int.toNat_natCast):=@Int.toNat_natCast
theorem CE:type_of% (@List.append_assoc):=@List.append_assoc
theorem GB:type_of% (@List.getElem?_eq_getElem):=@List.getElem?_eq_getElem
theorem GK:type_of% (@List.getElem?_append_right):=@List.getElem?_append_right
theorem Cy:type_of% (@List.not_mem_nil):=@List.not_mem_nil
theorem Gw:type_of% (@Bool.false_eq_true):=@Bool.false_eq_true
inductive D where
 |u
 |i(k:IntKind)(n:Int)
 |b(x:Bool)
 |s(x:List Nat)
 |l(xs:List D)
 |g(xs:List D)
 |z
 |p(xs:List D)
 |f(fn:Nat)(caps:List D)
instance:Inhabited D:=⟨.u⟩
abbrev D.n(x:Int):D:=.i .i64 x
abbrev D.y(x:Nat):D:=.i .u8 x
inductive Sh where
 |v
 |y
 |o(s:Sh)
 |b(s:Sh)
 |a(s:Sh)
 |m
 deriving DecidableEq
inductive A where
 |e(n:Nat)
 |c(d:D)
inductive PE where
 |e(n:Nat)
 |k(n:Nat)
 deriving DecidableEq
inductive Pr where
 |nop
 |cs(s:Sh)(d:D)
 |cy(a:A)
 |bi(op:BinOp)(a b:A)
 |bb(op:BinOp)(a b:A)
 |un(op:UnOp)(a:A)
 |pk(c a b:A)
 |cv(k:IntKind)(a:A)
 |ln(a:A)(p:List PE)
 |sn(a:A)
 |sx(a i:A)
 |ss(a:A)(lo hi:Option A)
 |ix(a:A)(p:List PE)(i:A)
 |up(n:Nat)(p:List PE)(a:A)
 |sb(fz:Bool)(a:A)(lo hi:Option A)
 |ap(fl:Bool)(a b:A)
 |mk(d:D)(n c:A)
 |li(s:Sh)(xs:List A)
 |ca(g:Nat)(xs:List A)(r:Nat)
 |cd(f:A)(g:Nat)(xs:List A)(r:Nat)
 |bs(a:A)
 |sy(a:A)
 |mx(a b:A)
 |mn(a b:A)
 |iy(a i:A)
 |bg(k:Nat)(xs:List (A×Nat))
 |bp(a:A)
 |gp(a:A)(k:Nat)
 |nz(want:Bool)(a:A)
 |nn(a:A)
 |wl(k:Nat)(a:A)
 |ws(n k:Nat)(a:A)
 |gt(a:A)(p:List PE)
 |fp(fl:Bool)(a:A)(k:Nat)
 |uq(n:Nat)(p:List PE)(a:A)(i k:Nat)
 |tk(n:Nat)
 |cb(n:Nat)
 |sp(n:Nat)(p:List PE)(k:Nat)
 |sw(n:Nat)
 |jn(n:Nat)(p:List PE)(a:A)(k:Nat)
 |mm
 |mu(n:Nat)(k v:A)
 |mg(n:Nat)(k:A)(d:D)
 |mo(n:Nat)(k:A)(d:D)
structure It where
 z:List (Option Nat):=[]
 g:List (Nat×Bool):=[]
 p:Pr
inductive X where
 |n
 |ex(id:Nat)
 |r
inductive S where
 |skip
 |reg(its:List It)(out:List (Option Nat))
 |seq(a b:S)
 |cond(n:Nat)(x y:S)
 |block(id:Nat)(b:S)
 |loop(b:S)
 |exit(id:Nat)
 |ret
abbrev Env:=List D
def ev(E:Nat->D):A->D
 |.e n=>E n
 |.c d=>d
def PE.ev(E:Nat->D):PE->Option Nat
 |.k n=>some n
 |.e n=>match E n with
  |.i _ z=>if 0<=z then some z.toNat else none
  |_=>none
def Eo(e:BinOp)(k:IntKind)(a b:Int):Option D:=
 match e with
 |.add=>some (.i k (k.wrap (a+b)))
 |.sub=>some (.i k (k.wrap (a-b)))
 |.mul=>some (.i k (k.wrap (a*b)))
 |.quo=>if b=0 then none else some (.i k (k.wrap (a.tdiv b)))
 |.rem=>if b=0 then none else some (.i k (a.tmod b))
 |.eql=>some (.b (a==b))
 |.neq=>some (.b (a != b))
 |.lss=>some (.b (decide (a<b)))
 |.leq=>some (.b (decide (a<=b)))
 |.gtr=>some (.b (decide (a > b)))
 |.geq=>some (.b (decide (a>=b)))
 |.and=>some (.i k (k.wrap (BitVec.ofInt k.bits a&&&BitVec.ofInt k.bits b).toNat))
 |.or=>some (.i k (k.wrap (BitVec.ofInt k.bits a|||BitVec.ofInt k.bits b).toNat))
 |.xor=>some (.i k (k.wrap (BitVec.ofInt k.bits a ^^^ BitVec.ofInt k.bits b).toNat))
 |_=>none
def J3:List Nat->List Nat->Bool
 |_,[]=>false
 |[],_::_=>true
 |a::x,b::y=>decide (a<b)||(a==b&&J3 x y)
def G1:Nat:=1099511627776
def Mi(e:BinOp)(a b:List Nat):Option D:=
 match e with
 |.add=>if a.length+b.length<=G1 then some (.s (a++b))else none
 |.eql=>some (.b (a==b))
 |.neq=>some (.b (!(a==b)))
 |.lss=>some (.b (J3 a b))
 |.leq=>some (.b (J3 a b||a==b))
 |.gtr=>some (.b (!(J3 a b||a==b)))
 |.geq=>some (.b (!(J3 a b)))
 |_=>none
def CA(e:BinOp):D->D->Option D
 |.i k a,.i f b=>
  match e with
  |.shl=>if b<0 then none else some (.i k (k.wrap (a*2^(min b.toNat k.bits))))
  |.shr=>if b<0 then none else some (.i k (a.fdiv (2^(min b.toNat k.bits))))
  |_=>if k=f then Eo e k a b else none
 |.s a,.s b=>Mi e a b
 |_,_=>none
def G6(e:BinOp):D->D->Option D
 |.b a,.b b=>match e with
  |.eql=>some (.b (a==b))
  |.neq=>some (.b (!(a==b)))
  |_=>none
 |_,_=>none
def Lq(e:UnOp):D->Option D
 |.b x=>match e with
  |.not=>some (.b (!x))
  |_=>none
 |.i k n=>match e with
  |.neg=>some (.i k (k.wrap (0-n)))
  |_=>none
 |_=>none
def D.isU:D->Bool
 |.u=>true
 |_=>false
def known(d:D):Option D:=if d.isU then none else some d
def Dr:D->D->Option D
 |.l xs,.i _ n=>if 0<=n then xs[n.toNat]?.bind known else none
 |_,_=>none
def Lj(k:Nat):D->Option D
 |.p xs=>xs[k]?.bind known
 |_=>none
def Kh:D->D->Option D
 |.s x,.i _ n=>if 0<=n then x[n.toNat]?.map D.y else none
 |_,_=>none
def Ai:List Nat->D->Option D
 |[],d=>some d
 |i::is,.l xs=>xs[i]?.bind (Ai is)
 |i::is,.g xs=>xs[i]?.bind (Ai is)
 |_::_,_=>none
def An:List Nat->D->D->Option D
 |[],_,d=>some d
 |i::is,.l xs,d=>(xs[i]?.bind λx=>An is x d).map λb=>.l (xs.set i b)
 |i::is,.g xs,d=>(xs[i]?.bind λx=>An is x d).map λb=>.g (xs.set i b)
 |_::_,_,_=>none
def FW:D->Option D
 |.l xs=>some (.n xs.length)
 |_=>none
def Mu:D->Option D
 |.s x=>some (.n x.length)
 |_=>none
def bound(d:Option D)(b:Nat):Option Nat:=
 match d with
 |none=>some b
 |some (.i _ n)=>if 0<=n then some n.toNat else none
 |_=>none
def Gj(a:D)(lo hi:Option D):Option D:=
 match a with
 |.s x=>match bound lo 0,bound hi x.length with
  |some l,some h=>if l<=h/\h<=x.length then some (.s ((x.take h).drop l))else none
  |_,_=>none
 |_=>none
def Ec(a:D)(lo hi:Option D):Option D:=
 match a with
 |.l xs=>match bound lo 0,bound hi xs.length with
  |some l,some h=>if l<=h/\h<=xs.length then some (.l ((xs.take h).drop l))else none
  |_,_=>none
 |_=>none
def D.one:D->Bool
 |.u=>false
 |.g _=>false
 |_=>true
def D.flat:D->Bool
 |.i _ _=>true
 |.b _=>true
 |.s _=>true
 |_=>false
def Ev(fl:Bool):D->D->Option D
 |.l xs,.l s=>if xs.length+s.length<=G1/\s.all (if fl=true then D.flat else D.one)=true then some (.l (xs++s))else none
 |_,_=>none
def HJ(d:D):D->D->Option D
 |.i _ n,.i _ c=>if 0<=n/\n<=c/\c<=(G1:Int)then some (.l (List.replicate n.toNat d))else none
 |_,_=>none
def Jy:D->Option Bool
 |.z=>some true
 |.p _=>some false
 |_=>none
def Ma:D->Option D
 |.p xs=>some (.p xs)
 |_=>none
def KF:D->Option D
 |.g xs=>some (.p xs)
 |_=>none
def FR(k:Nat):D->Option D
 |.g xs=>if xs.length=k/\xs.all D.one=true then some (.g xs)else none
 |_=>none
def Iw(k:Nat):D->Bool
 |.g xs=>xs.length==k
 |_=>false
def KT(k:Nat):D->Option D
 |.p xs=>if xs.length=k then some (.g xs)else none
 |_=>none
def C3:Nat->D->Bool
 |0,d=>d.flat
 |i+1,d=>d.flat||match d with
  |.l xs=>xs.all (C3 i)
  |_=>false
def CI(k:Nat)(x:D×Nat):Bool:=x.1.one&&(k==0||(x.2==k||C3 (min x.2 k) x.1))
def GD(d:D):Option D:=if d.flat=true then some d else none
def Hz(k:Nat)(d:D)(is:Option (List Nat)):Option (D×D):=is.bind λis=>(Ai is d).bind λx=>if C3 k x=true then(An is d .u).map λy=>(x,y)else none
def L4:D->Option (D×D)
 |.g xs=>some (.g xs,.g (List.replicate xs.length .u))
 |_=>none
def bytesOf:List D->Option (List Nat)
 |[]=>some []
 |.i .u8 n::s=>if 0<=n/\n<256 then(bytesOf s).map (n.toNat::·)else none
 |_::_=>none
def Iz:D->Option D
 |.l xs=>(bytesOf xs).map .s
 |_=>none
def Pl:D->Option D
 |.s x=>if x.length<=G1 then some (.l (x.map D.y))else none
 |_=>none
def Kb:D->Option D
 |.g [d]=>some d
 |_=>none
def ML:D->Option D
 |.g (_::_)=>some .u
 |_=>none
def getM(k:List Nat):List D->Option D
 |[]=>none
 |.g [.s j,v]::xs=>if k=j then some v else getM k xs
 |_::xs=>getM k xs
def G4(k:List Nat)(v:D):List D->List D
 |[]=>[.g [.s k,v]]
 |.g [.s j,x]::xs=>if k=j then .g [.s k,v]::xs else .g [.s j,x]::G4 k v xs
 |x::xs=>x::G4 k v xs
def Gk:D->D->D->Option D
 |.g xs,.s k,v=>if v.flat=true then some (.g (G4 k v xs))else none
 |_,_,_=>none
def I1(d:D):D->D->Option D
 |.g xs,.s k=>some ((getM k xs).getD d)
 |_,_=>none
def HU(d:D):D->D->Option (D×D)
 |.g xs,.s k=>some ((getM k xs).getD d,.b (getM k xs).isSome)
 |_,_=>none
def EM(E:Nat->D)(p:List PE)(d:D):Option D:=(p.mapM (PE.ev E)).bind λis=>Ai is d
def AW(E:Nat->D):Pr->Option D
 |.cs _ d=>some d
 |.cy a=>some (ev E a)
 |.bi e a b=>CA e (ev E a) (ev E b)
 |.bb e a b=>G6 e (ev E a) (ev E b)
 |.un e a=>Lq e (ev E a)
 |.pk c a b=>match ev E c with
  |.b true=>some (ev E a)
  |.b false=>some (ev E b)
  |_=>none
 |.cv k a=>match ev E a with
  |.i _ n=>some (.i k (k.wrap n))
  |_=>none
 |.ln a p=>(EM E p (ev E a)).bind FW
 |.sn a=>Mu (ev E a)
 |.sx a i=>Kh (ev E a) (ev E i)
 |.ss a lo hi=>Gj (ev E a) (lo.map (ev E)) (hi.map (ev E))
 |.ix a p i=>(EM E p (ev E a)).bind λd=>Dr d (ev E i)
 |.up n p a=>if(ev E a).one=true then(p.mapM (PE.ev E)).bind λis=>An is (E n) (ev E a)else none
 |.sb _ a lo hi=>Ec (ev E a) (lo.map (ev E)) (hi.map (ev E))
 |.ap fl a b=>Ev fl (ev E a) (ev E b)
 |.mk d n c=>HJ d (ev E n) (ev E c)
 |.iy a i=>(Dr (ev E a) (ev E i)).bind GD
 |.li _ xs=>if(xs.map (ev E)).all D.one=true then some (.l (xs.map (ev E)))else none
 |.bs a=>Iz (ev E a)
 |.sy a=>Pl (ev E a)
 |.mx a b=>match ev E a,ev E b with
  |.i k x,.i f y=>if k=f then some (.i k (if y > x then y else x))else none
  |_,_=>none
 |.mn a b=>match ev E a,ev E b with
  |.i k x,.i f y=>if k=f then some (.i k (if y<x then y else x))else none
  |_,_=>none
 |.bg k xs=>if(xs.map λx=>(ev E x.1,x.2)).all (CI k)=true then some (.g (xs.map λx=>ev E x.1))else none
 |.bp a=>KF (ev E a)
 |.gp a k=>KT k (ev E a)
 |.nz want a=>(Jy (ev E a)).map λx=>.b (x==want)
 |.nn a=>Ma (ev E a)
 |.wl k a=>FR k (ev E a)
 |.ws n k a=>if Iw k (E n)=true then FR k (ev E a)else none
 |.gt a p=>EM E p (ev E a)
 |.fp fl a k=>(Lj k (ev E a)).bind λd=>if fl=true then GD d else some d
 |.uq n p a i k=>if CI k (ev E a,i)=true then(p.mapM (PE.ev E)).bind λis=>An is (E n) (ev E a)else none
 |.cb n=>ML (E n)
 |.jn n p a k=>if((ev E a).one&&C3 k (ev E a))=true then(p.mapM (PE.ev E)).bind λis=>An is (E n) (ev E a)else none
 |.mm=>some (.g [])
 |.mu n k v=>Gk (E n) (ev E k) (ev E v)
 |.mg n k d=>I1 d (E n) (ev E k)
 |_=>none
def Pr.np:Pr->Nat
 |.nop=>0
 |.ca _ _ r=>r
 |.cd _ _ _ r=>r
 |.tk _=>2
 |.sp _ _ _=>2
 |.sw _=>2
 |.mo _ _ _=>2
 |_=>1
abbrev Env.E(e:Env):Nat->D:=λn=>e.getD n .u
section
variable(K:Nat->List D->List D->Prop)
def A7(p:Pr)(e:Env)(Q:Env->Prop):Prop:=
 match p with
 |.nop=>Q e
 |.ca g xs r=>∃rs:List D,K g (xs.map (ev e.E)) rs/\rs.length=r/\Q (e++rs)
 |.cd f g xs r=>ev e.E f=.f g []/\∃rs:List D,K g (xs.map (ev e.E)) rs/\rs.length=r/\Q (e++rs)
 |.tk n=>match Kb (e.E n)with
  |some d=>Q (e++[d,.g [.u]])
  |none=>False
 |.sp n p k=>match Hz k (e.E n) (p.mapM (PE.ev e.E))with
  |some d=>Q (e++[d.1,d.2])
  |none=>False
 |.sw n=>match L4 (e.E n)with
  |some d=>Q (e++[d.1,d.2])
  |none=>False
 |.mo n k d=>match HU d (e.E n) (ev e.E k)with
  |some v=>Q (e++[v.1,v.2])
  |none=>False
 |p=>match AW e.E p with
  |some d=>Q (e++[d])
  |none=>False
def Cc(E:Nat->D):List (Nat×Bool)->Option Bool
 |[]=>some true
 |(n,want)::r=>match E n with
  |.b x=>if x=want then Cc E r else some false
  |_=>none
def Ci(E:Nat->D):List (Option Nat)->Nat->List D
 |_,0=>[]
 |[],n+1=>.u::Ci E [] n
 |some m::z,n+1=>E m::Ci E z n
 |none::z,n+1=>.u::Ci E z n
def H7(it:It)(e:Env)(Q:Env->Prop):Prop:=
 match Cc e.E it.g with
 |some true=>A7 K it.p e Q
 |some false=>Q (e++Ci e.E it.z it.p.np)
 |none=>False
def EY:List It->Env->(Env->Prop)->Prop
 |[],e,Q=>Q e
 |it::r,e,Q=>H7 K it e λb=>EY r b Q
def Dg(out:List (Option Nat))(e:Env):Env:=
 out.map fun
  |some n=>e.E n
  |none=>.u
def Di(R:(X->Env->Prop)->Env->Prop):Nat->(X->Env->Prop)->Env->Prop
 |0,_,_=>False
 |n+1,Q,e=>R (fun
  |.n,b=>Di R n Q b
  |x,b=>Q x b) e
def wpS:S->(X->Env->Prop)->Env->Prop
 |.skip,Q,e=>Q .n e
 |.reg i out,Q,e=>EY K i e λf=>Q .n (Dg out f)
 |.seq a b,Q,e=>wpS a (fun
  |.n,f=>wpS b Q f
  |x,f=>Q x f) e
 |.cond n x y,Q,e=>match e.E n with
  |.b true=>wpS x Q (e.set n .u)
  |.b false=>wpS y Q (e.set n .u)
  |_=>False
 |.block id b,Q,e=>wpS b (fun
  |.ex j,f=>if j=id then Q .n f else Q (.ex j) f
  |x,f=>Q x f) e
 |.loop b,Q,e=>∃n,Di (wpS b) n Q e
 |.exit id,Q,e=>Q (.ex id) e
 |.ret,Q,e=>Q .r e
end
end Go.Cat
namespace Go.Cat
def BJ(x:List Nat):Value:=.string ⟨(x.map λc=>UInt8.ofNat c).toArray⟩
section
variable(fid:Nat->Nat)(h:Array Obj)(Z:Nat->Prop)
mutual
def Rd:D->Value->Prop
 |.u,_=>True
 |.i k n,v=>v=.int k n
 |.b x,v=>v=.bool x
 |.s x,v=>v=BJ x/\(∀c∈x,c<256)/\x.length<=9223372036854775807
 |.l xs,v=>(xs=[]/\∃a,v=.slice a 0 0)\/
   ∃b off cap cs e j,v=.slice (some ⟨b,off,none⟩) xs.length cap/\h[b]?=some (.cells cs e j)/\¬Z b/\AP xs (cs.toList.drop off)/\(xs.length<=cap/\xs.length<=9223372036854775807)
 |.g xs,v=>∃cs:Array Value,v=.agg cs/\cs.size=xs.length/\AP xs cs.toList
 |.z,v=>v=.pointer none
 |.p xs,v=>∃b off cs e j,v=.pointer (some ⟨b,off,none⟩)/\h[b]?=some (.cells cs e j)/\¬Z b/\AP xs (cs.toList.drop off)
 |.f fn C,v=>∃vs:Array Value,v=.func (.func (fid fn)) #[] vs/\vs.size=C.length/\AP C vs.toList
def AP:List D->List Value->Prop
 |[],_=>True
 |d::s,v::vs=>Rd d v/\AP s vs
 |_::_,[]=>False
end
def AM(R:D->Value->List Nat->Prop):List D->List Value->List Nat->Prop
 |[],_,B=>B=[]
 |d::s,v::vs,B=>∃B1 B2,B=B1++B2/\R d v B1/\AM R s vs B2
 |_::_,[],_=>False
def AFN(s:Array Value)(f:Nat×Nat):Prop:=f=(0,0)
def Cm:List D->List MapEntry->Prop
 |[],[]=>True
 |x::xs,e::es=>(∃k v,x=.g [.s k,v]/\(e.key=BJ k/\(∀c∈k,c<256)/\k.length<=9223372036854775807)/\v.flat=true/\Rd fid h (λ_=>False) v e.val)/\Cm xs es
 |_,_=>False
variable(O X:Nat->Prop)
def AE:Sh->D->Value->List Nat->Prop
 |.v,d,v,B=>B=[]/\Rd fid h (λb=>O b\/X b) d v
 |.y,d,v,B=>B=[]/\Rd fid h O d v
 |.a s,d,v,B=>∃xs cs,d=.g xs/\v=.agg cs/\cs.size=xs.length/\AM (AE s) xs cs.toList B
 |.b s,d,v,B=>∃xs b cs e i f,d=.g xs/\B=b::f/\v=.pointer (some ⟨b,0,none⟩)/\h[b]?=some (.cells cs e i)/\AFN cs i/\cs.size=xs.length/\AM (AE s) xs cs.toList f
 |.o s,d,v,B=>((d=.u\/d.flat=true/\Rd fid h (λ_=>False) d v)/\B=[])\/∃xs,d=.l xs/\((v=.slice none 0 0/\xs=[]/\B=[])\/
   ∃b off cap cs e i f,B=b::f/\v=.slice (some ⟨b,off,none⟩) xs.length cap/\h[b]?=some (.cells cs e i)/\AFN cs i/\
    xs.length<=cap/\off+cap<=cs.size/\cap<=9223372036854775807/\AM (AE s) xs (cs.toList.drop off) f)
 |.m,d,v,B=>∃xs b es k,d=.g xs/\B=[b]/\v=.map (some b)/\h[b]?=some (.map es k)/\Cm fid h xs es.toList
end
structure Ao(S:Nat->Prop)(h h':Array Obj):Prop where
 size:h.size<=h'.size
 same:∀b,b<h.size->¬S b->h'[b]?=h[b]?
theorem Ao.refl(S:Nat->Prop)(h:Array Obj):Ao S h h:=⟨Nat.le_refl _,λ_ _ _=>rfl⟩
theorem Ao.trans{S:Nat->Prop}{a b c:Array Obj}(h:Ao S a b)(k:Ao S b c):Ao S a c:=
 ⟨Nat.le_trans h.size k.size,λx H s=>(k.same x (Nat.lt_of_lt_of_le H h.size) s).trans (h.same x H s)⟩
theorem Ao.mono{S e:Nat->Prop}{a b:Array Obj}(h:Ao S a b)(s:∀b,b<a.size->S b->e b):Ao e a b:=
 ⟨h.size,λx H i=>h.same x H λf=>i (s x H f)⟩
theorem Ao.push(h:Array Obj)(o:Obj):Ao (λ_=>False) h (h.push o):=
 ⟨by simp,λb H _=>by rw[Array.getElem?_push,if_neg (by omega)]⟩
theorem Cd{h:Array Obj}{b:Nat}{o:Obj}(e:h[b]?=some o):b<h.size:=by rcases B7 b h.size with k|k;exact k;simp[Array.getElem?_eq_none k]at e
mutual
theorem Rd.ext{fid:Nat->Nat}{h R:Array Obj}{S Z Q:Nat->Prop}(C:Ao S h R)(k:∀b,b<h.size->S b->Z b)(x:∀b,b<h.size->Q b->Z b):
  ∀(d:D)(v:Value),Rd fid h Z d v->Rd fid R Q d v
 |.u,_=>λ_=>by simp[Rd]
 |.i _ _,_=>λr=>by simpa[Rd]using r
 |.b _,_=>λr=>by simpa[Rd]using r
 |.s _,_=>λr=>by simpa[Rd]using r
 |.l xs,v=>λr=>by simp only[Rd]at r|-;rcases r with r|⟨b,off,cap,cs,e,M,j,I,L,H,J⟩;exact .inl r;have lt:=Cd I;exact .inr ⟨b,off,cap,cs,e,M,j,(C.same b lt λN=>L (k b lt N)).trans I,λq=>L (x b lt q),AP.ext C k x xs _ H,J⟩
 |.g xs,v=>λr=>by simp only[Rd]at r|-;obtain⟨cs,j,J,H⟩:=r;exact⟨cs,j,J,AP.ext C k x xs _ H⟩
 |.z,_=>λr=>by simpa[Rd]using r
 |.p xs,v=>λr=>by simp only[Rd]at r|-;obtain⟨b,off,cs,e,M,j,I,L,H⟩:=r;have lt:=Cd I;exact⟨b,off,cs,e,M,j,(C.same b lt λN=>L (k b lt N)).trans I,λq=>L (x b lt q),AP.ext C k x xs _ H⟩
 |.f fn G,v=>λr=>by simp only[Rd]at r|-;obtain⟨vs,j,J,H⟩:=r;exact⟨vs,j,J,AP.ext C k x G _ H⟩
theorem AP.ext{fid:Nat->Nat}{h H:Array Obj}{S Z e:Nat->Prop}(j:Ao S h H)(f:∀b,b<h.size->S b->Z b)(i:∀b,b<h.size->e b->Z b):
  ∀(s:List D)(vs:List Value),AP fid h Z s vs->AP fid H e s vs
 |[],_=>λ_=>by simp[AP]
 |d::s,v::vs=>λr=>by simp only[AP]at r|-;exact⟨Rd.ext j f i d v r.1,AP.ext j f i s vs r.2⟩
 |_::_,[]=>λr=>by simp[AP]at r
end
theorem Rd.mono{fid:Nat->Nat}{h:Array Obj}{Z e:Nat->Prop}{d:D}{v:Value}(r:Rd fid h Z d v)(H:∀b,b<h.size->e b->Z b):Rd fid h e d v:=
 Rd.ext (S:=λ_=>False) (Ao.refl _ h) (λ_ _ q=>q.elim) H d v r
theorem Rd.flat{fid:Nat->Nat}{h H:Array Obj}{Z b:Nat->Prop}{d:D}{v:Value}(hd:d.flat=true)(r:Rd fid h Z d v):Rd fid H b d v:=by cases d<;>simp[D.flat]at hd<;>simpa[Rd]using r
theorem AM.imp{R e:D->Value->List Nat->Prop}:∀{s:List D}{vs:List Value}{B:List Nat},
  (∀d v B1,(∀b∈B1,b∈B)->R d v B1->e d v B1)->AM R s vs B->AM e s vs B
 |[],_,_=>λ_ h=>h
 |d::s,v::vs,B=>λf h=>by simp only[AM]at h|-;obtain⟨B1,B2,rfl,i,j⟩:=h;exact⟨B1,B2,rfl,f d v B1 (λb H=>BN _ H) i,AM.imp (λd v B k=>f d v B λb H=>BB _ (k b H)) j⟩
 |_::_,[],_=>λ_ h=>h
theorem Cm.flat{fid:Nat->Nat}{h b:Array Obj}:∀{xs:List D}{es:List MapEntry},Cm fid h xs es->Cm fid b xs es
 |[],[]=>λ_=>trivial
 |x::xs,e::es=>λr=>by simp only[Cm]at r|-;obtain⟨⟨k,v,f,i,H,j⟩,R⟩:=r;exact⟨⟨k,v,f,i,H,Rd.flat H j⟩,Cm.flat R⟩
 |[],_::_=>λr=>by simp[Cm]at r
 |_::_,[]=>λr=>by simp[Cm]at r
theorem AE.ext{fid:Nat->Nat}{h M:Array Obj}{S O O' X:Nat->Prop}(j:Ao S h M)(x:∀b,b<h.size->S b->O b)(l:∀b,b<h.size->O' b->O b):
  ∀(s:Sh)(d:D)(v:Value)(B:List Nat),(∀b∈B,¬S b)->AE fid h O X s d v B->AE fid M O' X s d v B
 |.v,d,v,B=>λ_ r=>by simp only[AE]at r|-;exact⟨r.1,Rd.ext j (λb H q=>.inl (x b H q)) (λb H q=>q.imp (l b H) id) d v r.2⟩
 |.y,d,v,B=>λ_ r=>by simp only[AE]at r|-;exact⟨r.1,Rd.ext j x l d v r.2⟩
 |.a s,d,v,B=>λi r=>by simp only[AE]at r|-;obtain⟨xs,cs,hd,k,J,he⟩:=r;exact⟨xs,cs,hd,k,J,AM.imp (λd v B1 f=>AE.ext j x l s d v B1 λb H=>i b (f b H)) he⟩
 |.b s,d,v,B=>λi r=>by
  simp only[AE]at r|-;obtain⟨xs,b,cs,e,G,C,hd,rfl,k,H,L,J,he⟩:=r;have lt:=Cd H
  exact⟨xs,b,cs,e,G,C,hd,rfl,k,(j.same b lt (i b (by simp))).trans H,L,J,
   AM.imp (λd v B1 f=>AE.ext j x l s d v B1 λb H=>i b (BL _ (f b H))) he⟩
 |.o s,d,v,B=>λi r=>by simp only[AE]at r|-;rcases r with⟨r,I⟩|⟨xs,hd,r⟩;exact .inl ⟨r.imp id λq=>⟨q.1,Rd.flat q.1 q.2⟩,I⟩;refine .inr ⟨xs,hd,?_⟩;rcases r with r|⟨b,off,cap,cs,e,G,C,rfl,k,H,L,Q,I,R,he⟩;exact .inl r;have lt:=Cd H;refine .inr ⟨b,off,cap,cs,e,G,C,rfl,k,(j.same b lt (i b (by simp))).trans H,L,Q,I,R,?_⟩;exact AM.imp (λd v B1 f=>AE.ext j x l s d v B1 λb H=>i b (BL _ (f b H))) he
 |.m,d,v,B=>λi r=>by simp only[AE]at r|-;obtain⟨xs,b,es,N,hd,rfl,k,H,he⟩:=r;exact⟨xs,b,es,N,hd,rfl,k,(j.same b (Cd H) (i b (by simp))).trans H,he.flat⟩
theorem AM.lt{R:D->Value->List Nat->Prop}{k:Nat}(e:∀d v B,R d v B->∀b∈B,b<k):∀{s:List D}{vs:List Value}{B:List Nat},AM R s vs B->∀b∈B,b<k
 |[],_,_=>λh=>by simp only[AM]at h;simp[h]
 |d::s,v::vs,B=>λh=>by simp only[AM]at h;obtain⟨B1,B2,rfl,f,i⟩:=h;intro x H;rcases Ac.1 H with H|H;exact e d v B1 f x H;exact AM.lt e i x H
 |_::_,[],_=>λh=>by simp[AM]at h
theorem AE.F2{fid:Nat->Nat}{h:Array Obj}{O X:Nat->Prop}:∀(s:Sh)(d:D)(v:Value)(B:List Nat),AE fid h O X s d v B->∀b∈B,b<h.size
 |.v,d,v,B=>λr=>by simp only[AE]at r;simp[r.1]
 |.y,d,v,B=>λr=>by simp only[AE]at r;simp[r.1]
 |.a s,d,v,B=>λr=>by simp only[AE]at r;obtain⟨xs,cs,hd,i,l,he⟩:=r;exact AM.lt (λd v B h=>AE.F2 s d v B h) he
 |.b s,d,v,B=>λr=>by simp only[AE]at r;obtain⟨xs,b,cs,e,k,j,hd,rfl,i,f,q,l,he⟩:=r;intro x H;rcases AY.1 H with rfl|H;exact Cd f;exact AM.lt (λd v B h=>AE.F2 s d v B h) he x H
 |.o s,d,v,B=>λr=>by simp only[AE]at r;rcases r with⟨_,rfl⟩|⟨xs,hd,⟨_,_,rfl⟩|⟨b,off,cap,cs,e,k,j,rfl,i,f,q,G,I,J,he⟩⟩;simp;simp;intro x H;rcases AY.1 H with rfl|H;exact Cd f;exact AM.lt (λd v B h=>AE.F2 s d v B h) he x H
 |.m,d,v,B=>λr=>by simp only[AE]at r;obtain⟨xs,b,es,C,hd,rfl,i,f,he⟩:=r;intro x H;rw[List.mem_singleton.1 H];exact Cd f
theorem AM.rd{fid:Nat->Nat}{h:Array Obj}{O X Z:Nat->Prop}(e:∀b,b<h.size->Z b->O b\/X b):∀{s:List D}{vs:List Value}{B:List Nat},AM (AE fid h O X .v) s vs B->AP fid h Z s vs
 |[],_,_=>λ_=>by simp[AP]
 |d::s,v::vs,B=>λhe=>by simp only[AM]at he;obtain⟨B1,B2,rfl,H,f⟩:=he;simp only[AE]at H;simp only[AP];exact⟨H.2.mono e,AM.rd e f⟩
 |_::_,[],_=>λhe=>by simp[AM]at he
theorem AE.frozen{fid:Nat->Nat}{h:Array Obj}{O O' X:Nat->Prop}(l:∀b,b<h.size->O' b->O b)(d:D)(v:Value)(B:List Nat)
  (i:∀b∈B,¬O' b/\¬X b) (r:AE fid h O X (.o .v) d v B):Rd fid h (λb=>O' b\/X b) d v:=by
 simp only[AE]at r;rcases r with⟨q|q,_⟩|⟨xs,rfl,r⟩
 .subst q;simp[Rd]
 .exact q.2.flat q.1
 .simp only[Rd];rcases r with r|⟨b,off,cap,cs,e,j,x,rfl,s,H,G,f,C,k,he⟩
  .exact .inl ⟨r.2.1,none,r.1⟩
  .refine .inr ⟨b,off,cap,cs,e,j,s,H,λq=>?_,?_,f,Nat.le_trans f k⟩
   .rcases q with q|q
    .exact(i b (by simp)).1 q
    .exact(i b (by simp)).2 q
   .exact he.rd λb H q=>q.imp (l b H) id
end Go.Cat
namespace Go.Cat
abbrev Gd:=List (Nat×Bool)
inductive Loc where
 |is(n:Nat)(g:Gd)
 |ad(r:Nat)(p:List PE)(m:Nat)(g:Gd)
 |ip(r:Nat)(p:List PE)(m:Nat)(g:Gd)
 |vc(n:Nat)(g:Gd)
 |tu(ns:List Nat)(g:Gd)
 |aw(r:Nat)(p:List PE)(g:Gd)
 |ia(r m:Nat)(g:Gd)
 |bx(n:Nat)(g:Gd)
 |fv(f:Nat)(ns:List Nat)(g:Gd)
 |fb(f:Nat)(ns:List Nat)(g:Gd)
 |ag(r:Nat)(g:Gd)
 |lh(n:Nat)(g:Gd)
 |sa(n e:Nat)(g:Gd)
 deriving DecidableEq
inductive Fact where
 |en(n:Nat)(s:Sh)
 |sl(t:Nat)(l:Loc)
 deriving DecidableEq
def PE.A6:PE->List Nat
 |.e n=>[n]
 |.k _=>[]
def Loc.A6:Loc->List Nat
 |.is n _=>[n]
 |.ad r _ m _=>[r,m]
 |.ip r _ m _=>[r,m]
 |.vc n _=>[n]
 |.tu ns _=>ns
 |.aw r _ _=>[r]
 |.ia r m _=>[r,m]
 |.bx n _=>[n]
 |.fv _ ns _=>ns
 |.fb _ ns _=>ns
 |.ag r _=>[r]
 |.lh n _=>[n]
 |.sa n e _=>[n,e]
def Fact.A6:Fact->List Nat
 |.en n _=>[n]
 |.sl _ l=>l.A6
def Am(E:Nat->D)(g:Gd):Prop:=∀x∈g,E x.1=.b x.2
def EB(E:Nat->D)(p:List PE):Option (List Nat):=p.mapM (PE.ev E)
def F5(v:Value)(i b o:Nat):Prop:=
 (∃off len cap,v=.slice (some ⟨b,off,none⟩) len cap/\i<len/\o=off+i)\/(v=.pointer (some ⟨b,0,none⟩)/\o=i)
theorem F5.KA{v:Value}{i b o j o':Nat}(h:F5 v i b o)(H:F5 v i j o'):b=j/\o=o':=by
 rcases h with⟨off,len,cap,rfl,_,rfl⟩|⟨rfl,rfl⟩<;>rcases H with⟨k,l,C,e,_,rfl⟩|⟨e,rfl⟩;injection e with e;injection e with e;injection e with f q;subst f q;exact⟨rfl,rfl⟩
 cases e
 cases e;injection e with e;injection e with e;injection e with f;subst f;exact⟨rfl,rfl⟩
theorem F5.slice{i b o f off len cap:Nat}(h:F5 (.slice (some ⟨f,off,none⟩) len cap) i b o):b=f/\i<len/\o=off+i:=by
 rcases h with⟨j,l,C,e,H,rfl⟩|⟨e,_⟩;injection e with e q _;injection e with e;injection e with k s;subst k s q;exact⟨rfl,H,rfl⟩
 cases e
theorem F5.box{i b o f:Nat}(h:F5 (.pointer (some ⟨f,0,none⟩)) i b o):b=f/\o=i:=by
 rcases h with⟨j,l,C,e,H,rfl⟩|⟨e,rfl⟩
 cases e;injection e with e;injection e with e;injection e with k;subst k;exact⟨rfl,rfl⟩
theorem F5.none{i b o l cap:Nat}(h:F5 (.slice none l cap) i b o):False:=by rcases h with⟨f,L,C,e,H,rfl⟩|⟨e,rfl⟩<;>cases e
theorem F5.map{i b o:Nat}{r:Option Nat}(h:F5 (.map r) i b o):False:=by rcases h with⟨f,l,C,e,H,rfl⟩|⟨e,rfl⟩<;>cases e
theorem F5.agg{i b o:Nat}{cs:Array Value}(h:F5 (.agg cs) i b o):False:=by rcases h with⟨f,l,C,e,H,rfl⟩|⟨e,rfl⟩<;>cases e
def Wk(h:Array Obj):List Nat->Value->Nat->Nat->Value->Prop
 |[],_,_,_,_=>False
 |i::is,v,b,o,x=>∃f o' cs e j y,F5 v i f o'/\h[f]?=some (.cells cs e j)/\cs[o']?=some y/\
   ((is=[]/\b=f/\o=o'/\x=y)\/(is≠[]/\Wk h is y b o x))
def GU(h:Array Obj)(E:Nat->D)(vs:Nat->Value)(O k:Nat->Prop)(tm:Array Value)(t:Nat):Loc->Prop
 |.is n g=>(Am E g->tm[t]?=some (vs n))/\(¬Am E g->tm[t]?=some undef)
 |.vc n g=>Am E g->∃b o cs e j,tm[t]?=some (.pointer (some ⟨b,o,none⟩))/\h[b]?=some (.cells cs e j)/\cs[o]?=some (vs n)/\¬O b
 |.ad r p m g=>Am E g->k r->∃is b o d,EB E p=some is/\Ai is (E r)=some d/\Wk h is (vs r) b o (vs m)/\tm[t]?=some (.pointer (some ⟨b,o,none⟩))
 |.ip r p m g=>Am E g->k r->∃is b o d,EB E p=some is/\Ai is (E r)=some d/\Wk h is (vs r) b o (vs m)/\tm[t]?=some (vs m)
 |.tu ns g=>Am E g->tm[t]?=some (.tuple (ns.map vs).toArray)
 |.aw r p g=>Am E g->k r->∃is b o d x,EB E p=some is/\Ai is (E r)=some d/\Wk h is (vs r) b o x/\tm[t]?=some (.pointer (some ⟨b,o,none⟩))
 |.ia r m g=>Am E g->k r->∃xs b cs e j,E r=.g xs/\E m=.g xs/\vs r=.pointer (some ⟨b,0,none⟩)/\h[b]?=some (.cells cs e j)/\vs m=.agg cs/\tm[t]?=some (vs m)
 |.bx n g=>Am E g->∃b cs e j,tm[t]?=some (.pointer (some ⟨b,0,none⟩))/\h[b]?=some (.cells cs e j)/\vs n=.agg cs/\¬O b
 |.fv f ns g=>Am E g->tm[t]?=some (.func (.func f) #[] (ns.map vs).toArray)
 |.fb f ns g=>Am E g->∃b cs e j,tm[t]?=some (.pointer (some ⟨b,0,none⟩))/\h[b]?=some (.cells cs e j)/\cs[0]?=some (.func (.func f) #[] (ns.map vs).toArray)/\¬O b
 |.ag r g=>Am E g->k r->∃xs b cs e j,E r=.g xs/\vs r=.pointer (some ⟨b,0,none⟩)/\h[b]?=some (.cells cs e j)/\tm[t]?=some (.agg cs)
 |.lh n g=>Am E g->∃xs ad len cap,E n=.l xs/\vs n=.slice ad len cap/\xs.length=len/\(∀i,i<len->∃b off,ad=some ⟨b,off,none⟩)/\tm[t]?=some (vs n)
 |.sa n e g=>Am E g->∃i b o,PE.ev E (.e e)=some i/\F5 (vs n) i b o/\tm[t]?=some (.pointer (some ⟨b,o,none⟩))
structure Cx where
 P:Program
 fid:Nat->Nat
 w0:World
 Ab:Nat->Prop
 Xb:Nat->Prop
 nt:Nat
 fix:List (Nat×Value)
 hX:∀b,Xb b->b<w0.heap.size/\¬Ab b
def OB(F:Fact->Prop)(Bs:Nat->List Nat):Nat->Prop:=λb=>∃n s,F (.en n s)/\b∈Bs n
def EE(F:Fact->Prop)(Bs:Nat->List Nat)(kill:Nat->Prop):Nat->Prop:=λb=>∃n s,F (.en n s)/\¬kill n/\b∈Bs n
def alive(F:Fact->Prop):Nat->Prop:=λn=>∃s,F (.en n s)
structure BF(c:Cx)(F:Fact->Prop)(E:Nat->D)(a:Act)(w:World)(vs:Nat->Value)(Bs:Nat->List Nat):Prop where
 own:∀n s,F (.en n s)->AE c.fid w.heap (OB F Bs) c.Xb s (E n) (vs n) (Bs n)
 nodup:∀n s,F (.en n s)->(Bs n).Nodup
 mine:∀n s,F (.en n s)->∀b∈Bs n,c.w0.heap.size<=b\/c.Ab b
 apart:∀n s m r,F (.en n s)->F (.en m r)->n≠m->∀b∈Bs n,b∉Bs m
 loc:∀t l,F (.sl t l)->GU w.heap E vs (OB F Bs) (alive F) a.tmps t l
 agr:Ao c.Ab c.w0.heap w.heap
 os:w.os=c.w0.os
 tape:w.tape=c.w0.tape
 output:w.output=c.w0.output
 defers:a.defers=[]
 size:a.tmps.size=c.nt
def E5(c:Cx)(F:Fact->Prop)(E:Nat->D)(a:Act)(w:World):Prop:=∃vs Bs,BF c F E a w vs Bs
def Cx.fixed(c:Cx)(a:Act):Prop:=∀x∈c.fix,a.tmps[x.1]?=some x.2
def Holds(c:Cx)(F:Fact->Prop)(E:Nat->D)(a:Act)(w:World):Prop:=E5 c F E a w/\c.fixed a
theorem AP.get{fid:Nat->Nat}{h:Array Obj}{Z:Nat->Prop}:∀{s:List D}{vs:List Value}{i:Nat}{d:D},AP fid h Z s vs->s[i]?=some d->∃v,vs[i]?=some v/\Rd fid h Z d v
 |[],_,_,_=>λ_ h=>by simp at h
 |d::s,v::vs,0,_=>λr h=>by simp only[AP]at r;simp at h;exact⟨v,by simp,h▸r.1⟩
 |d::s,v::vs,i+1,_=>λr h=>by simp only[AP]at r;obtain⟨u,H,b⟩:=AP.get r.2 (by simpa using h);exact⟨u,by simpa using H,b⟩
 |_::_,[],_,_=>λr _=>by simp[AP]at r
theorem AM.get{R:D->Value->List Nat->Prop}:∀{s:List D}{vs:List Value}{B:List Nat}{i:Nat}{d:D},AM R s vs B->s[i]?=some d->
  ∃v B1,vs[i]?=some v/\(∀b∈B1,b∈B)/\R d v B1
 |[],_,_,_,_=>λ_ h=>by simp at h
 |d::s,v::vs,B,0,_=>λr h=>by simp only[AM]at r;simp at h;obtain⟨B1,B2,rfl,e,f⟩:=r;exact⟨v,B1,by simp,λb H=>BN _ H,h▸e⟩
 |d::s,v::vs,B,i+1,_=>λr h=>by simp only[AM]at r;obtain⟨B1,B2,rfl,e,f⟩:=r;obtain⟨u,j,k,l,q⟩:=AM.get f (by simpa using h);exact⟨u,j,by simpa using k,λb H=>BB _ (l b H),q⟩
 |_::_,[],_,_,_=>λr _=>by simp[AM]at r
theorem Ed{cs:Array Value}{off i:Nat}:(cs.toList.drop off)[i]?=cs[off+i]?:=by simp[List.getElem?_drop]
theorem Wk.read{fid:Nat->Nat}{h R:Array Obj}{Z:Nat->Prop}(T:∀b,b<h.size->¬Z b->R[b]?=h[b]?):∀(is:List Nat)(d:D)(v:Value)(b o:Nat)(x:Value)(G:D),
  Rd fid h Z d v->Ai is d=some G->Wk h is v b o x->Wk R is v b o x
 |[],_,_,_,_,_,_=>λ_ _ k=>by simp[Wk]at k
 |i::is,d,v,b,o,x,G=>λr g k=>by
  cases d with
  |l xs=>
   simp only[Wk]at k|-
   obtain⟨s,o',cs,e,Q,y,q,f,L,k⟩:=k
   simp only[Rd]at r
   rcases r with⟨rfl,_⟩|⟨b2,U,N,C,e2,W,rfl,H,M,I,_⟩
   .simp[Ai]at g
   .obtain⟨rfl,hi,rfl⟩:=q.slice
    rw[f]at H
    injection H with H
    injection H with Y he hf
    subst Y
    refine⟨s,_,cs,e,Q,y,q,(T s (Cd f) M).trans f,L,?_⟩
    rcases k with k|⟨J,k⟩
    .exact .inl k
    .refine .inr ⟨J,?_⟩
     simp only[Ai]at g
     cases hx:xs[i]? with
     |none=>simp[hx]at g
     |some V=>
      simp only[hx,Option.bind_some]at g
      obtain⟨u,j,hr⟩:=AP.get I hx
      rw[Ed,L]at j
      injection j with j
      subst j
      exact Wk.read T is V y b o x G hr g k
  |g xs=>
   simp only[Wk]at k
   obtain⟨s,o',cs,e,Q,y,q,f,L,k⟩:=k
   simp only[Rd]at r
   obtain⟨C,rfl,_⟩:=r
   exact q.agg.elim
  |_=>simp[Ai]at g
theorem Wk.own{fid:Nat->Nat}{h h':Array Obj}{O X:Nat->Prop}:∀(is:List Nat)(s:Sh)(d:D)(v:Value)(B:List Nat)(b o:Nat)(x:Value)(j:D),
  (∀b,b<h.size->(b∈B\/¬O b)->h'[b]?=h[b]?)->AE fid h O X s d v B->Ai is d=some j->Wk h is v b o x->Wk h' is v b o x
 |[],_,_,_,_,_,_,_,_=>λ_ _ _ k=>by simp[Wk]at k
 |i::is,.v,d,v,B,b,o,x,j=>λl r g k=>by simp only[AE]at r;exact Wk.read (λb f hz=>l b f (.inr λq=>hz (.inl q))) (i::is) d v b o x j r.2 g k
 |i::is,.y,d,v,B,b,o,x,j=>λl r g k=>by simp only[AE]at r;exact Wk.read (λb f hz=>l b f (.inr hz)) (i::is) d v b o x j r.2 g k
 |i::is,.a s,d,v,B,b,o,x,j=>λl r g k=>by simp only[AE]at r;simp only[Wk]at k;obtain⟨I,o',cs,e,R,y,C,f,N,k⟩:=k;obtain⟨xs,Q,_,rfl,_⟩:=r;exact C.agg.elim
 |i::is,.m,d,v,B,b,o,x,j=>λl r g k=>by simp only[AE]at r;simp only[Wk]at k;obtain⟨I,o',cs,e,R,y,C,f,N,k⟩:=k;obtain⟨xs,b2,es,ck,_,_,rfl,_⟩:=r;exact C.map.elim
 |i::is,.b s,d,v,B,b,o,x,j=>λl r g k=>by
  simp only[AE]at r;simp only[Wk]at k|-;obtain⟨I,o',cs,e,R,y,C,f,N,k⟩:=k;obtain⟨xs,b2,Q,e2,U,B',rfl,rfl,rfl,H,_,_,he⟩:=r;obtain⟨rfl,rfl⟩:=C.box;rw[f]at H;injection H with H;injection H with V _ _;subst V;refine⟨I,_,cs,e,R,y,C,(l I (Cd f) (.inl (by simp))).trans f,N,?_⟩;rcases k with k|⟨L,k⟩;exact .inl k;refine .inr ⟨L,?_⟩;simp only[Ai]at g
  cases M:xs[o']? with
  |none=>simp[M]at g
  |some T=>
   simp only[M,Option.bind_some]at g
   obtain⟨u,B1,G,J,Y⟩:=AM.get he M
   rw[Array.getElem?_toList,N]at G
   injection G with G
   subst G
   exact Wk.own is s T y B1 b o x j (λb f W=>l b f (W.imp (λq=>BL _ (J b q)) id)) Y g k
 |i::is,.o s,d,v,B,b,o,x,j=>λl r g k=>by
  simp only[AE]at r;simp only[Wk]at k|-;obtain⟨I,o',cs,e,R,y,C,f,N,k⟩:=k;rcases r with⟨q|q,_⟩|⟨xs,rfl,r⟩;subst q;simp[Ai]at g
  cases d<;>simp[Ai]at g<;>simp[D.flat]at q;rcases r with⟨rfl,_⟩|⟨b2,off2,cap2,Q,e2,U,B',rfl,rfl,H,_,h1,_,_,he⟩;exact C.none.elim;obtain⟨rfl,hi,rfl⟩:=C.slice;rw[f]at H;injection H with H;injection H with V _ _;subst V;refine⟨I,_,cs,e,R,y,C,(l I (Cd f) (.inl (by simp))).trans f,N,?_⟩;rcases k with k|⟨L,k⟩;exact .inl k;refine .inr ⟨L,?_⟩;simp only[Ai]at g
  cases M:xs[i]? with
  |none=>simp[M]at g
  |some T=>
   simp only[M,Option.bind_some]at g
   obtain⟨u,B1,G,J,Y⟩:=AM.get he M
   rw[Ed,N]at G
   injection G with G
   subst G
   exact Wk.own is s T y B1 b o x j (λb f W=>l b f (W.imp (λq=>BL _ (J b q)) id)) Y g k
theorem AE.TY{fid:Nat->Nat}{h:Array Obj}{O X:Nat->Prop}{s:Sh}{xs:List D}{b:Nat}{B:List Nat}(r:AE fid h O X s (.g xs) (.pointer (some ⟨b,0,none⟩)) B):
  ∃s' cs e f,s=.b s'/\B=b::f/\h[b]?=some (.cells cs e (0,0))/\cs.size=xs.length/\AM (AE fid h O X s') xs cs.toList f:=by
 cases s with
 |v=>simp[AE,Rd]at r
 |y=>simp[AE,Rd]at r
 |o s=>simp[AE,D.flat]at r
 |a s=>simp[AE]at r
 |m=>simp[AE]at r
 |b s=>
  simp only[AE]at r
  obtain⟨G,I,cs,e,j,f,i,k,H,l,q,x,C⟩:=r
  injection i with i
  injection H with H
  injection H with H
  injection H with H
  subst i H
  have:j=(0,0):=q
  subst this
  exact⟨s,cs,e,f,rfl,k,l,x,C⟩
theorem BF.step{c:Cx}{F F':Fact->Prop}{E:Nat->D}{a a':Act}{w w':World}{vs vs':Nat->Value}{Bs U:Nat->List Nat}
  (N kill S:Nat->Prop) (dst:Option Nat) (H:BF c F E a w vs Bs)
  (hv:∀n,¬N n->vs' n=vs n) (hB:∀n,¬N n->U n=Bs n)
  (fr2:∀t l,F (.sl t l)->∀n∈l.A6,¬N n)
  (hS:∀b,S b->∃n s,F (.en n s)/\kill n/\b∈Bs n)
  (ha:Ao S w.heap w'.heap) (hos:w'.os=w.os) (htape:w'.tape=w.tape) (hout:w'.output=w.output)
  (tm:∀t,some t≠dst->a'.tmps[t]?=a.tmps[t]?) (sz:a'.tmps.size=a.tmps.size) (df:a'.defers=a.defers)
  (hF:∀f,F' f->(F f/\(match f with|.en n _=>¬kill n|.sl t _=>some t≠dst))\/(match f with|.en n _=>N n|.sl t _=>some t=dst))
  (own':∀n s,N n->F' (.en n s)->AE c.fid w'.heap (λb=>EE F Bs kill b\/∃m,N m/\b∈U m) c.Xb s (E n) (vs' n) (U n))
  (nd':∀n s,N n->F' (.en n s)->(U n).Nodup)
  (bl':∀n s,N n->F' (.en n s)->∀b∈U n,(∃m r,F (.en m r)/\kill m/\b∈Bs m)\/w.heap.size<=b)
  (ap':∀n s m r,N n->N m->F' (.en n s)->F' (.en m r)->n≠m->∀b∈U n,b∉U m)
  (loc':∀t l,some t=dst->F' (.sl t l)->GU w'.heap E vs' (λb=>EE F Bs kill b\/∃m,N m/\b∈U m) (alive F') a'.tmps t l):
  BF c F' E a' w' vs' U:=by
 have hSO:∀b,S b->OB F Bs b:=λb Q=>let ⟨n,s,C,_,h3⟩:=hS b Q;⟨n,s,C,h3⟩;have M:∀n s,F' (.en n s)->¬N n->F (.en n s)/\¬kill n:=λn s h j=>(hF _ h).resolve_right j;have hO:∀b,b<w.heap.size->OB F' U b->OB F Bs b:=by rintro b lt ⟨n,s,T,Q⟩;by_cases j:N n;rcases bl' n s j T b Q with⟨m,r,C,_,h3⟩|h;exact⟨m,r,C,h3⟩;omega;exact⟨n,s,(M n s T j).1,hB n j▸Q⟩
 have hO2:∀b,OB F' U b->EE F Bs kill b\/∃m,N m/\b∈U m:=by rintro b ⟨n,s,T,Q⟩;by_cases j:N n;exact .inr ⟨n,j,Q⟩;exact .inl ⟨n,s,(M n s T j).1,(M n s T j).2,hB n j▸Q⟩
 have notS:∀n s,F (.en n s)->¬kill n->∀b∈Bs n,¬S b:=by intro n s T hk b Q hs;obtain⟨m,r,C,h2,h3⟩:=hS b hs;exact H.apart n s m r T C (λe=>hk (e▸h2)) b Q h3
 have W:∀n s,F (.en n s)->¬kill n->∀b,b<w.heap.size->(b∈Bs n\/¬OB F Bs b)->w'.heap[b]?=w.heap[b]?:=by intro n s T hk b lt Q;refine ha.same b lt λhs=>?_;rcases Q with Q|Q;exact notS n s T hk b Q hs;exact Q (hSO b hs)
 constructor
 .intro n s T;by_cases j:N n
  .exact AE.ext (Ao.refl (λ_=>False) _) (λ_ _ q=>q.elim) (λb _ q=>hO2 b q) s _ _ _ (λ_ _ q=>q) (own' n s j T)
  .obtain⟨C,h2⟩:=M n s T j;rw[hv n j,hB n j];exact AE.ext ha (λb _=>hSO b) hO s _ _ _ (notS n s C h2) (H.own n s C)
 .intro n s T;by_cases j:N n
  .exact nd' n s j T
  .rw[hB n j];exact H.nodup n s (M n s T j).1
 .intro n s T b Q;by_cases j:N n
  .rcases bl' n s j T b Q with⟨m,r,C,_,h3⟩|h
   .exact H.mine m r C b h3
   .exact .inl (Nat.le_trans H.agr.size h)
  .exact H.mine n s (M n s T j).1 b (hB n j▸Q)
 .intro n s m r T G hne b Q hb2;have lt_of:∀n s,F (.en n s)->∀b∈Bs n,b<w.heap.size:=λn s h=>AE.F2 s _ _ _ (H.own n s h);by_cases j:N n<;>by_cases V:N m
  .exact ap' n s m r j V T G hne b Q hb2
  .obtain⟨C,h2⟩:=M m r G V;rw[hB m V]at hb2;rcases bl' n s j T b Q with⟨k,q,L,I,J⟩|h
   .exact H.apart k q m r L C (λe=>h2 (e▸I)) b J hb2
   .have:=lt_of m r C b hb2;omega
  .obtain⟨C,h2⟩:=M n s T j;rw[hB n j]at Q;rcases bl' m r V G b hb2 with⟨k,q,L,I,J⟩|h
   .exact H.apart k q n s L C (λe=>h2 (e▸I)) b J Q
   .have:=lt_of n s C b Q;omega
  .rw[hB n j]at Q;rw[hB m V]at hb2;exact H.apart n s m r (M n s T j).1 (M m r G V).1 hne b Q hb2
 .intro t l T;by_cases hd:some t=dst
  .have:=loc' t l hd T
   cases l with
   |is n g=>exact this
   |vc n g=>
    intro G
    obtain⟨b,o,cs,e,fz,L,I,J,R⟩:=this G
    exact⟨b,o,cs,e,fz,L,I,J,λq=>R (hO2 b q)⟩
   |ad r p m g=>exact this
   |ip r p m g=>exact this
   |tu ns g=>exact this
   |aw r p g=>exact this
   |ia r m g=>exact this
   |bx n g=>
    intro G
    obtain⟨b,cs,e,fz,L,I,J,R⟩:=this G
    exact⟨b,cs,e,fz,L,I,J,λq=>R (hO2 b q)⟩
   |ag r g=>exact this
   |lh n g=>exact this
   |sa n e g=>exact this
   |fv f ns g=>exact this
   |fb f ns g=>
    intro G
    obtain⟨b,cs,e,fz,L,I,J,R⟩:=this G
    exact⟨b,cs,e,fz,L,I,J,λq=>R (hO2 b q)⟩
  .have hfo:=((hF _ T).resolve_right hd).1;have hl:=H.loc t l hfo;have V:=fr2 t l hfo
   cases l with
   |is n g=>
    refine⟨λG=>?_,λG=>?_⟩
    .rw[tm t hd,hv n (V n (by simp[Loc.A6]))];exact hl.1 G
    .rw[tm t hd];exact hl.2 G
   |vc n g=>
    intro G
    obtain⟨b,o,cs,e,fz,L,I,J,R⟩:=hl G
    have lt:=Cd I
    exact⟨b,o,cs,e,fz,(tm t hd).trans L,(ha.same b lt λq=>R (hSO b q)).trans I,by rw[hv n (V n (by simp[Loc.A6]))];exact J,λq=>R (hO b lt q)⟩
   |ad r p m g=>
    intro G Y
    obtain⟨s,hs⟩:=Y
    have hr:¬N r:=V r (by simp[Loc.A6])
    obtain⟨C,h2⟩:=M r s hs hr
    obtain⟨is,b,o,d,L,I,J,R⟩:=hl G ⟨s,C⟩
    refine⟨is,b,o,d,L,I,?_,(tm t hd).trans R⟩
    rw[hv r hr,hv m (V m (by simp[Loc.A6]))]
    exact Wk.own is s _ _ _ b o _ d (W r s C h2) (H.own r s C) I J
   |ip r p m g=>
    intro G Y
    obtain⟨s,hs⟩:=Y
    have hr:¬N r:=V r (by simp[Loc.A6])
    obtain⟨C,h2⟩:=M r s hs hr
    obtain⟨is,b,o,d,L,I,J,R⟩:=hl G ⟨s,C⟩
    refine⟨is,b,o,d,L,I,?_,?_⟩
    .rw[hv r hr,hv m (V m (by simp[Loc.A6]))]
     exact Wk.own is s _ _ _ b o _ d (W r s C h2) (H.own r s C) I J
    .rw[tm t hd,hv m (V m (by simp[Loc.A6]))];exact R
   |tu ns g=>
    intro G
    rw[tm t hd,hl G]
    congr 3
    exact List.map_congr_left λn j=>(hv n (V n (by simpa[Loc.A6]using j))).symm
   |aw r p g=>
    intro G Y
    obtain⟨s,hs⟩:=Y
    have hr:¬N r:=V r (by simp[Loc.A6])
    obtain⟨C,h2⟩:=M r s hs hr
    obtain⟨is,b,o,d,x,L,I,J,R⟩:=hl G ⟨s,C⟩
    refine⟨is,b,o,d,x,L,I,?_,(tm t hd).trans R⟩
    rw[hv r hr]
    exact Wk.own is s _ _ _ b o _ d (W r s C h2) (H.own r s C) I J
   |ia r m g=>
    intro G Y
    obtain⟨s,hs⟩:=Y
    have hr:¬N r:=V r (by simp[Loc.A6])
    have hm':¬N m:=V m (by simp[Loc.A6])
    obtain⟨C,h2⟩:=M r s hs hr
    obtain⟨xs,b,cs,e,fz,L,I,J,R,k5,k6⟩:=hl G ⟨s,C⟩
    have ho:=H.own r s C
    rw[L,J]at ho
    obtain⟨s',cs',e',B',_,hB',_⟩:=ho.TY
    refine⟨xs,b,cs,e,fz,L,I,by rw[hv r hr];exact J,?_,by rw[hv m hm'];exact k5,by rw[hv m hm'];exact(tm t hd).trans k6⟩
    exact(W r s C h2 b (Cd R) (.inl (by rw[hB'];simp))).trans R
   |bx n g=>
    intro G
    obtain⟨b,cs,e,fz,L,I,J,R⟩:=hl G
    have lt:=Cd I
    exact⟨b,cs,e,fz,(tm t hd).trans L,(ha.same b lt λq=>R (hSO b q)).trans I,by rw[hv n (V n (by simp[Loc.A6]))];exact J,λq=>R (hO b lt q)⟩
   |ag r g=>
    intro G Y
    obtain⟨s,hs⟩:=Y
    have hr:¬N r:=V r (by simp[Loc.A6])
    obtain⟨C,h2⟩:=M r s hs hr
    obtain⟨xs,b,cs,e,fz,L,J,R,k6⟩:=hl G ⟨s,C⟩
    have ho:=H.own r s C
    rw[L,J]at ho
    obtain⟨s',cs',e',B',_,hB',_⟩:=ho.TY
    refine⟨xs,b,cs,e,fz,L,by rw[hv r hr];exact J,?_,(tm t hd).trans k6⟩
    exact(W r s C h2 b (Cd R) (.inl (by rw[hB'];simp))).trans R
   |lh n g=>
    intro G
    obtain⟨xs,ad,len,cap,L,I,J,R,k5⟩:=hl G
    have j:=hv n (V n (by simp[Loc.A6]))
    exact⟨xs,ad,len,cap,L,by rw[j];exact I,J,R,by rw[tm t hd,j];exact k5⟩
   |sa n e g=>
    intro G
    obtain⟨i,b,o,L,I,J⟩:=hl G
    have j:=hv n (V n (by simp[Loc.A6]))
    exact⟨i,b,o,L,by rw[j];exact I,(tm t hd).trans J⟩
   |fv f ns g=>
    intro G
    rw[tm t hd,hl G]
    have e:ns.map vs=ns.map vs':=List.map_congr_left λn j=>(hv n (V n (by simpa[Loc.A6]using j))).symm
    rw[e]
   |fb f ns g=>
    intro G
    obtain⟨b,cs,e,fz,L,I,J,R⟩:=hl G
    have lt:=Cd I
    have e':ns.map vs=ns.map vs':=List.map_congr_left λn j=>(hv n (V n (by simpa[Loc.A6]using j))).symm
    rw[e']at J
    exact⟨b,cs,e,fz,(tm t hd).trans L,(ha.same b lt λq=>R (hSO b q)).trans I,J,λq=>R (hO b lt q)⟩
 .refine⟨Nat.le_trans H.agr.size ha.size,λb Q j=>(ha.same b (Nat.lt_of_lt_of_le Q H.agr.size) λhs=>?_).trans (H.agr.same b Q j)⟩;obtain⟨m,r,C,_,h3⟩:=hS b hs;rcases H.mine m r C b h3 with q|q
  .omega
  .exact j q
 .exact hos.trans H.os
 .exact htape.trans H.tape
 .exact hout.trans H.output
 .exact df.trans H.defers
 .exact sz.trans H.size
theorem BF.more{c:Cx}{F G:Fact->Prop}{E:Nat->D}{a:Act}{w:World}{vs:Nat->Value}{Bs:Nat->List Nat}(H:BF c F E a w vs Bs)
  (e:∀n s,G (.en n s)↔F (.en n s)) (k:∀t l,G (.sl t l)->F (.sl t l)\/∃n g r,l=.is n g/\F (.sl t (.is r g))/\vs n=vs r):BF c G E a w vs Bs:=by
 have f:OB G Bs=OB F Bs:=by funext b;simp only[OB,e]
 have j:alive G=alive F:=by funext n;simp only[alive,e]
 constructor
 .intro n s h;rw[f];exact H.own n s ((e n s).1 h)
 .intro n s h;exact H.nodup n s ((e n s).1 h)
 .intro n s h;exact H.mine n s ((e n s).1 h)
 .intro n s m r h i;exact H.apart n s m r ((e n s).1 h) ((e m r).1 i)
 .intro t l h;rw[f,j];rcases k t l h with h|⟨n,g,r,rfl,q,i⟩
  .exact H.loc t l h
  .have:=H.loc t _ q;refine⟨λx=>?_,this.2⟩;rw[i];exact this.1 x
 .exact H.agr
 .exact H.os
 .exact H.tape
 .exact H.output
 .exact H.defers
 .exact H.size
theorem BF.FT{c:Cx}{F G:Fact->Prop}{E:Nat->D}{a:Act}{w:World}{vs:Nat->Value}{Bs:Nat->List Nat}(H:BF c F E a w vs Bs)
  (e:∀n s,G (.en n s)↔F (.en n s)) (j:∀t l,G (.sl t l)->F (.sl t l)\/GU w.heap E vs (OB F Bs) (alive F) a.tmps t l):BF c G E a w vs Bs:=by
 have f:OB G Bs=OB F Bs:=by funext b;simp only[OB,e]
 have i:alive G=alive F:=by funext n;simp only[alive,e]
 constructor
 .intro n s h;rw[f];exact H.own n s ((e n s).1 h)
 .intro n s h;exact H.nodup n s ((e n s).1 h)
 .intro n s h;exact H.mine n s ((e n s).1 h)
 .intro n s m r h k;exact H.apart n s m r ((e n s).1 h) ((e m r).1 k)
 .intro t l h;rw[f,i];exact(j t l h).elim (H.loc t l) id
 .exact H.agr
 .exact H.os
 .exact H.tape
 .exact H.output
 .exact H.defers
 .exact H.size
def slotsOf(st:List Fact)(r:Nat):List (Nat×Gd):=st.filterMap λf=>match f with
 |.sl t (.is n g)=>if n=r then some (t,g)else none
 |_=>none
theorem E5.JN{c:Cx}{F F':Fact->Prop}{E:Nat->D}{a:Act}{w:World}(h:E5 c F E a w)(j:∀f,F' f->F f):E5 c F' E a w:=by
 obtain⟨vs,Bs,H⟩:=h;have L:∀b,OB F' Bs b->OB F Bs b:=λb ⟨n,s,h1,h2⟩=>⟨n,s,j _ h1,h2⟩;refine⟨vs,Bs,?_,λn s h=>H.nodup n s (j _ h),λn s h=>H.mine n s (j _ h),λn s m r h k=>H.apart n s m r (j _ h) (j _ k),?_,H.agr,H.os,H.tape,H.output,H.defers,H.size⟩;intro n s h;exact AE.ext (Ao.refl (λ_=>False) _) (λ_ _ q=>q.elim) (λb _=>L b) s _ _ _ (λ_ _ q=>q) (H.own n s (j _ h));intro t l h;have:=H.loc t l (j _ h)
 cases l with
 |is n g=>exact this
 |vc n g=>
  intro i
  obtain⟨b,o,cs,e,x,C,G,I,J⟩:=this i
  exact⟨b,o,cs,e,x,C,G,I,λq=>J (L b q)⟩
 |ad r p m g=>exact λi ⟨s,hs⟩=>this i ⟨s,j _ hs⟩
 |ip r p m g=>exact λi ⟨s,hs⟩=>this i ⟨s,j _ hs⟩
 |tu ns g=>exact this
 |aw r p g=>exact λi ⟨s,hs⟩=>this i ⟨s,j _ hs⟩
 |ia r m g=>exact λi ⟨s,hs⟩=>this i ⟨s,j _ hs⟩
 |bx n g=>
  intro i
  obtain⟨b,cs,e,x,C,G,I,J⟩:=this i
  exact⟨b,cs,e,x,C,G,I,λq=>J (L b q)⟩
 |ag r g=>exact λi ⟨s,hs⟩=>this i ⟨s,j _ hs⟩
 |lh n g=>exact this
 |sa n e g=>exact this
 |fv f ns g=>exact this
 |fb f ns g=>
  intro i
  obtain⟨b,cs,e,x,C,G,I,J⟩:=this i
  exact⟨b,cs,e,x,C,G,I,λq=>J (L b q)⟩
theorem Holds.mono{c:Cx}{F F':Fact->Prop}{E:Nat->D}{a:Act}{w:World}(h:Holds c F E a w)(H:∀f,F' f->F f):Holds c F' E a w:=⟨h.1.JN H,h.2⟩
end Go.Cat
namespace Go.Cat
structure Sm where
 needs:List Fact
 kill:List Nat
 adds:List Fact
def next(F:Fact->Prop)(dst:Option Nat)(sm:Sm):Fact->Prop:=λf=>
 (F f/\(match f with|.en n _=>n∉sm.kill|.sl t _=>some t≠dst))\/f∈sm.adds
structure CF where
 P:Program
 fid:Nat->Nat
 gof:Nat->Option Nat
 nt:Nat
 fx:List Nat:=[]
 cl:Option (Nat×Nat×List Nat):=none
structure CF.Fits(cf:CF)(c:Cx):Prop where
 P:c.P=cf.P
 fid:c.fid=cf.fid
 nt:c.nt=cf.nt
 gof:∀f k,cf.gof f=some k->cf.fid k=f
 fx:∀x∈c.fix,x.1∈cf.fx
 cl:∀m k cs,cf.cl=some (m,k,cs)->∃(b:Nat)(hs:Array Value)(e:TypeId)(fz:Nat×Nat)(vl:Nat->Value),(m,Value.pointer (some ⟨b,0,none⟩))∈c.fix/\(∀t∈cs,(t,vl t)∈c.fix)/\
  c.w0.heap[b]?=some (.cells hs e fz)/\hs[0]?=some (.func (.func (cf.fid k)) #[] (cs.map vl).toArray)/\¬c.Ab b
def Loc.isFb:Loc->Bool
 |.fb ..=>true
 |_=>false
def Bm:List Fact->Nat->Option Loc
 |[],_=>none
 |.sl t l::r,u=>if t=u/\l.isFb=false then some l else Bm r u
 |.en _ _::r,u=>Bm r u
def CB:List Fact->Nat->Option Sh
 |[],_=>none
 |.en n s::r,m=>if n=m then some s else CB r m
 |.sl _ _::r,m=>CB r m
def Dp:Value->Option D
 |.int k n=>some (.i k n)
 |.bool b=>some (.b b)
 |.string s=>if s.size<=4294967296 then some (.s (s.data.toList.map (·.toNat)))else none
 |.pointer none=>some .z
 |.slice none 0 0=>some (.l [])
 |_=>none
def A5(cf:CF)(st:List Fact)(g:Gd):Operand->Option (A×Sh×List Fact)
 |.const v=>(Dp v).map λd=>(.c d,.v,[])
 |.func f=>(cf.gof f).map λk=>(.c (.f k []),.v,[])
 |.tmp t=>match Bm st t with
  |some (.is n G)=>if G.isPrefixOf g then(CB st n).map λs=>(.e n,s,[.sl t (.is n G),.en n s])else none
  |_=>none
 |.global _=>none
theorem ADX{v:Value}(h:Dp v=some (.l [])):v=.slice none 0 0:=by
 unfold Dp at h;split at h<;>try(injection h with h;cases h)
 split at h;injection h with h;cases h
 cases h;rfl
 cases h
theorem Ls{fid:Nat->Nat}{h:Array Obj}{Z:Nat->Prop}{v:Value}{d:D}(e:Dp v=some d):Rd fid h Z d v:=by
 unfold Dp at e;split at e;injection e with e;subst e;simp[Rd];injection e with e;subst e;simp[Rd];rename_i s;split at e;rename_i b;injection e with e;subst e;simp only[Rd,BJ];refine⟨?_,?_,?_⟩;congr 1;apply ByteArray.ext;simp only[List.map_map];apply Array.ext';have:((λc=>UInt8.ofNat c) ∘ λx:UInt8=>x.toNat)=id:=by funext x;simp
 simp[this];intro c H;simp only[List.mem_map]at H;obtain⟨x,_,rfl⟩:=H;exact x.toNat_lt;simp only[List.length_map,Array.length_toList];have:s.data.size=s.size:=rfl;omega;simp at e;injection e with e;subst e;simp[Rd];injection e with e;subst e;simp[Rd];simp at e
theorem GV{cf:CF}{c:Cx}(C:cf.Fits c){st:List Fact}{g:Gd}{x:Operand}{A:A}{s:Sh}{ns:List Fact}(h:A5 cf st g x=some (A,s,ns))
  {F:Fact->Prop} {E:Nat->D} {a:Act} {w:World} {vs:Nat->Value} {Bs:Nat->List Nat} (H:BF c F E a w vs Bs) (q:∀f∈ns,F f) (M:Am E g):
  ∃B,AE c.fid w.heap (OB F Bs) c.Xb s (ev E A) (a.eval x) B/\(∀n,A=.e n->F (.en n s)/\a.eval x=vs n/\B=Bs n):=by
 cases x with
 |const v=>
  simp only[A5,Ae]at h
  obtain⟨d,hd,h⟩:=h
  simp only[AJ]at h
  obtain⟨rfl,rfl,rfl⟩:=h
  exact⟨[],by simp only[AE,ev];exact⟨trivial,Ls hd⟩,by simp⟩
 |func f=>
  simp only[A5,Ae]at h
  obtain⟨k,N,h⟩:=h
  simp only[AJ]at h
  obtain⟨rfl,rfl,rfl⟩:=h
  refine⟨[],?_,by simp⟩
  simp only[AE,ev,Rd]
  refine⟨trivial,#[],?_,rfl,by simp[AP]⟩
  rw[C.fid,C.gof f k N]
  rfl
 |global g=>simp[A5]at h
 |tmp t=>
  simp only[A5]at h
  split at h
  .rename_i n G R
   split at h
   .rename_i b
    simp only[Ae]at h
    obtain⟨s',T,h⟩:=h
    simp only[AJ]at h
    obtain⟨rfl,rfl,rfl⟩:=h
    have I:=H.loc t _ (q (.sl t (.is n G)) (by simp))
    have j:=q (.en n s') (by simp)
    have J:Am E G:=λx Q=>M x ((List.isPrefixOf_iff_prefix.1 b).subset Q)
    have L:=I.1 J
    have l:a.eval (.tmp t)=vs n:=by simp[Act.eval,CX,L]
    refine⟨Bs n,?_,?_⟩
    .rw[l];exact H.own n s' j
    .intro m i;injection i with i;subst i;exact⟨j,l,rfl⟩
   .simp at h
  .simp at h
section
variable{fid:Nat->Nat}{h:Array Obj}{O X:Nat->Prop}{v:Value}{B:List Nat}
theorem AE.ID{s:Sh}{d:D}(hd:d.flat=true)(o:AE fid h O X s d v B):Rd fid h (λ_=>False) d v:=by
 cases s with
 |v=>simp only[AE]at o;exact o.2.flat hd
 |y=>simp only[AE]at o;exact o.2.flat hd
 |o s=>
  simp only[AE]at o
  rcases o with⟨q|q,_⟩|⟨xs,rfl,_⟩
  .subst q;simp[D.flat]at hd
  .exact q.2
  .simp[D.flat]at hd
 |a s=>simp only[AE]at o;obtain⟨xs,cs,rfl,_⟩:=o;simp[D.flat]at hd
 |b s=>simp only[AE]at o;obtain⟨xs,b,cs,e,i,f,rfl,_⟩:=o;simp[D.flat]at hd
 |m=>simp only[AE]at o;obtain⟨xs,b,es,k,rfl,_⟩:=o;simp[D.flat]at hd
theorem AE.int{s:Sh}{k:IntKind}{n:Int}(o:AE fid h O X s (.i k n) v B):v=.int k n:=by simpa[Rd]using o.ID rfl
theorem AE.bool{s:Sh}{b:Bool}(o:AE fid h O X s (.b b) v B):v=.bool b:=by simpa[Rd]using o.ID rfl
theorem AE.str{s:Sh}{x:List Nat}(o:AE fid h O X s (.s x) v B):v=BJ x/\(∀c∈x,c<256)/\x.length<=9223372036854775807:=by simpa[Rd]using o.ID rfl
theorem AE.len{s:Sh}{xs:List D}(o:AE fid h O X s (.l xs) v B):∃a cap,v=.slice a xs.length cap/\xs.length<=9223372036854775807:=by
 cases s with
 |v=>
  simp only[AE,Rd]at o
  rcases o.2 with⟨rfl,f,rfl⟩|⟨b,off,cap,cs,e,i,rfl,_,_,_,h⟩
  .exact⟨f,0,rfl,by simp⟩
  .exact⟨_,_,rfl,h.2⟩
 |y=>
  simp only[AE,Rd]at o
  rcases o.2 with⟨rfl,f,rfl⟩|⟨b,off,cap,cs,e,i,rfl,_,_,_,h⟩
  .exact⟨f,0,rfl,by simp⟩
  .exact⟨_,_,rfl,h.2⟩
 |o s=>
  simp only[AE]at o
  rcases o with⟨q|q,_⟩|⟨Y,q,r⟩
  .simp at q
  .simp[D.flat]at q
  .injection q with q
   subst q
   rcases r with⟨rfl,rfl,_⟩|⟨b,off,cap,cs,e,i,j,_,rfl,_,_,H,_,h,_⟩
   .exact⟨none,0,rfl,by simp⟩
   .exact⟨_,_,rfl,Nat.le_trans H h⟩
 |a s=>simp[AE]at o
 |b s=>simp[AE]at o
 |m=>simp[AE]at o
end
def AQ{α:Type}(f:Nat->α)(m:Nat)(v:α):Nat->α:=λn=>if n=m then v else f n
theorem BD{α:Type}(f:Nat->α)(m:Nat)(v:α):AQ f m v m=v:=by simp[AQ]
theorem BX{α:Type}(f:Nat->α){m n:Nat}(v:α)(h:n≠m):AQ f m v n=f n:=by simp[AQ,h]
def Bh(F:Fact->Prop)(m:Nat):Prop:=(∀s,¬F (.en m s))/\∀t l,F (.sl t l)->m∉l.A6
def AV(c:Cx)(o:Oper)(sm:Sm)(F:Fact->Prop)(E:Nat->D)(a:Act)(w:World):Prop:=
 ∀(N:Act->World->Prop)(Q:Exit->Act->World->Prop),(∀b w',E5 c (next F o.dst sm) E b w'->N b w')->o.wp c.P a w N Q
theorem AV.B6{c:Cx}{o:Oper}{sm:Sm}{F:Fact->Prop}{E:Nat->D}{a:Act}{w w':World}{v:Value}(e:(execOp a.eval o).run c.P w=.ok (.value v) w')
  (H:E5 c (next F o.dst sm) E (a.put o.dst v) w'):AV c o sm F E a w:=by intro N Q b;simp only[Oper.wp,e,Oper.upon];exact b _ _ H
theorem Du{a:Act}{dst:Option Nat}{v:Value}{t:Nat}(h:some t≠dst):(a.put dst v).tmps[t]?=a.tmps[t]?:=by
 cases dst with
 |none=>rfl
 |some d=>
  have:d≠t:=λe=>h (by rw[e])
  simp[Act.put,Array.getElem?_setIfInBounds_ne this]
theorem FY{a:Act}{v:Value}{t:Nat}(h:t<a.tmps.size):(a.put (some t) v).tmps[t]?=some v:=by simp[Act.put,h]
theorem Hg{a:Act}{dst:Option Nat}{v:Value}:(a.put dst v).tmps.size=a.tmps.size:=by cases dst<;>simp[Act.put]
theorem put_defers{a:Act}{dst:Option Nat}{v:Value}:(a.put dst v).defers=a.defers:=by cases dst<;>rfl
def one(m:Nat)(s:Sh)(dst:Option Nat)(l:Loc):List Fact:=
 .en m s::(match dst with|some t=>[.sl t l]|none=>[])
def BW(dst:Option Nat)(nt:Nat):Bool:=match dst with|some t=>decide (t<nt)|none=>true
theorem BF.leaf{c:Cx}{F:Fact->Prop}{E:Nat->D}{a:Act}{w w':World}{vs:Nat->Value}{Bs:Nat->List Nat}(H:BF c F E a w vs Bs)
  {m:Nat} (hm:Bh F m) {s:Sh} {v u:Value} {dst:Option Nat} {ns:List Fact} {l:Loc} (hd:BW dst c.nt=true)
  (C:w'.heap=w.heap/\w'.os=w.os/\w'.tape=w.tape/\w'.output=w.output)
  (M:AE c.fid w.heap (OB F Bs) c.Xb s (E m) v []) (kill:List Nat)
  (Y:∀tm:Array Value,(∀t,dst=some t->tm[t]?=some u)->∀t,dst=some t->GU w.heap E (AQ vs m v) (OB F Bs) (alive (next F dst ⟨ns,kill,one m s dst l⟩)) tm t l):
  BF c (next F dst ⟨ns,kill,one m s dst l⟩) E (a.put dst u) w' (AQ vs m v) (AQ Bs m []):=by
 have j:∀f,f∈one m s dst l->(f=.en m s)\/∃t,dst=some t/\f=.sl t l:=by
  intro f i;unfold one at i
  cases dst with
  |none=>simp at i;exact .inl i
  |some t=>simp at i;rcases i with i|i;exact .inl i;exact .inr ⟨t,rfl,i⟩
 refine BF.step (λn=>n=m) (λn=>n∈kill) (λ_=>False) dst H (λn L=>BX vs v L) (λn L=>BX Bs [] L)
  (λt l Y n L e=>hm.2 t l Y (e▸L)) (λ_ q=>q.elim) (by rw[C.1];exact Ao.refl _ _) C.2.1 C.2.2.1 C.2.2.2
  (λt N=>Du N) Hg put_defers ?_ ?_ ?_ ?_ ?_ ?_
 .rintro f (⟨x,I⟩|h)
  .left;refine⟨x,?_⟩;cases f<;>exact I
  .right;rcases j f h with rfl|⟨t,N,rfl⟩
   .rfl
   .exact N.symm
 .rintro n r rfl i;rcases i with⟨x,_⟩|h
  .exact(hm.1 r x).elim
  .rcases j _ h with h|⟨t,_,h⟩
   .injection h with _ h;subst h;rw[BD,BD,C.1];exact AE.ext (Ao.refl (λ_=>False) _) (λ_ _ q=>q.elim) (λb _ q=>q.elim (λ⟨n,s,x,_,h3⟩=>⟨n,s,x,h3⟩) (by rintro⟨k,rfl,W⟩;simp[BD]at W)) _ _ _ _ (λ_ _ q=>q) M
   .simp at h
 .rintro n r rfl _;rw[BD];exact List.nodup_nil
 .rintro n r rfl _;rw[BD];simp
 .rintro n r k q rfl rfl _ _ h;exact(h rfl).elim
 .rintro t l' N i;rcases i with⟨_,I⟩|h
  .exact(I N).elim
  .rcases j _ h with h|⟨t',ht',h⟩
   .simp at h
   .injection h with x I;subst x I;have Em:∀t,dst=some t->(a.put dst u).tmps[t]?=some u:=by intro t e;subst e;exact FY (by rw[H.size];simpa[BW]using hd)
    have:=Y (a.put dst u).tmps Em t ht';have V:∀b,(EE F Bs (λn=>n∈kill) b\/∃k,k=m/\b∈AQ Bs m [] k)->OB F Bs b:=λb q=>q.elim (λ⟨n,s,x,_,h3⟩=>⟨n,s,x,h3⟩) (by rintro⟨k,rfl,W⟩;simp[BD]at W);rw[C.1]
    cases l' with
    |vc n g=>
     intro J
     obtain⟨b,o,cs,e,G,Q,R,T,U⟩:=this J
     exact⟨b,o,cs,e,G,Q,R,T,λq=>U (V b q)⟩
    |bx n g=>
     intro J
     obtain⟨b,cs,e,G,Q,R,T,U⟩:=this J
     exact⟨b,cs,e,G,Q,R,T,λq=>U (V b q)⟩
    |fb f ns g=>
     intro J
     obtain⟨b,cs,e,G,Q,R,T,U⟩:=this J
     exact⟨b,cs,e,G,Q,R,T,λq=>U (V b q)⟩
    |_=>exact this
theorem BF.Lx{c:Cx}{F:Fact->Prop}{E:Nat->D}{a:Act}{w w':World}{vs:Nat->Value}{Bs:Nat->List Nat}(H:BF c F E a w vs Bs)
  {m:Nat} (i:Bh F m) {s:Sh} {v:Value} {dst:Option Nat} {ns:List Fact} (hd:BW dst c.nt=true)
  (k:w'.heap=w.heap/\w'.os=w.os/\w'.tape=w.tape/\w'.output=w.output)
  (b:AE c.fid w.heap (OB F Bs) c.Xb s (E m) v []) (kill:List Nat) {g:Gd} (f:Am E g):
  E5 c (next F dst ⟨ns,kill,one m s dst (.is m g)⟩) E (a.put dst v) w':=
 ⟨_,_,H.leaf i hd k b kill λtm e t j=>by
  refine⟨λ_=>?_,λq=>(q f).elim⟩
  rw[BD];exact e t j⟩
end Go.Cat
namespace Go.Cat
def Aw(K:Nat->List D->List D->Prop)(E:Nat->D)(AA:Nat):Pr->Prop
 |.nop=>True
 |.ca g xs r=>∃rs:List D,K g (xs.map (ev E)) rs/\rs.length=r/\∀j,j<r->rs[j]?=some (E (AA+j))
 |.cd f g xs r=>ev E f=.f g []/\∃rs:List D,K g (xs.map (ev E)) rs/\rs.length=r/\∀j,j<r->rs[j]?=some (E (AA+j))
 |.tk n=>Kb (E n)=some (E AA)/\E (AA+1)=.g [.u]
 |.sp n p k=>Hz k (E n) (p.mapM (PE.ev E))=some (E AA,E (AA+1))
 |.sw n=>L4 (E n)=some (E AA,E (AA+1))
 |.mo n k d=>HU d (E n) (ev E k)=some (E AA,E (AA+1))
 |p=>AW E p=some (E AA)
section
variable(cf:CF)(st:List Fact)(AA:Nat)(o:Oper)(g:Gd)
def FI(p:Pr)(s:Sh)(ns:List Fact):Option (Pr×Sm):=
 if BW o.dst cf.nt=true/\p.np=1 then some (p,⟨ns,[],one AA s o.dst (.is AA g)⟩)else none
def K3(x:Operand)(k:Nat):Option (Pr×Sm):=
 match x with
 |.tmp t=>match o.dst with
  |some d=>if d<cf.nt then match Bm st t with
   |some (.is n G)=>if G.isPrefixOf g then
     if g≠[]/\CB st n=some .v then FI cf AA o g (.cy (.e n)) .v [.sl t (.is n G),.en n .v]
     else some (.nop,⟨[.sl t (.is n G)],[],[.sl d (.is n g)]⟩)
    else none
   |_=>none
   else none
  |none=>none
 |.const v=>match Dp v,k with
  |some (.l []),1=>FI cf AA o g (.cs (.o .v) (.l [])) (.o .v) []
  |some (.l []),2=>FI cf AA o g (.cs (.o (.o .v)) (.l [])) (.o (.o .v)) []
  |some d,_=>FI cf AA o g (.cs .v d) .v []
  |none,_=>none
 |.func f=>(cf.gof f).bind λk=>FI cf AA o g (.cs .v (.f k [])) .v []
 |.global _=>none
def Ju(x y:Operand)(p:A->A->Pr):Option (Pr×Sm):=
 (A5 cf st g x).bind λa=>(A5 cf st g y).bind λb=>FI cf AA o g (p a.1 b.1) .v (a.2.2++b.2.2)
def MF(x:Operand)(p:A->Pr):Option (Pr×Sm):=
 (A5 cf st g x).bind λa=>FI cf AA o g (p a.1) .v a.2.2
def VU(c x y:Operand):Option (Pr×Sm):=
 (A5 cf st g c).bind λa=>
  match a.1 with
  |.e n=>(A5 cf st (g++[(n,true)]) x).bind λb=>(A5 cf st (g++[(n,false)]) y).bind λd=>
    if b.2.1=.v/\d.2.1=.v then FI cf AA o g (.pk a.1 b.1 d.1) .v (a.2.2++(b.2.2++d.2.2))else none
  |.c _=>none
end
def Co:D->Value
 |.i k n=>.int k n
 |.b x=>.bool x
 |.s x=>BJ x
 |.z=>.pointer none
 |_=>undef
section
variable{P:Program}(w:World)
theorem AXF(e:BinOp)(t:TypeId)(x y:Operand)(k f:IntKind)(a b:Int):(eqGuard e t x y (.int k a) (.int f b)).run P w=.ok () w:=by cases e<;>simp[eqGuard]
theorem AS7(e:BinOp)(t:TypeId)(x y:Operand)(a b:ByteArray):(eqGuard e t x y (.string a) (.string b)).run P w=.ok () w:=by cases e<;>simp[eqGuard]
theorem AT8(e:BinOp)(t:TypeId)(x y:Operand)(a b:Bool):(eqGuard e t x y (.bool a) (.bool b)).run P w=.ok () w:=by cases e<;>simp[eqGuard]
theorem AOY{e:BinOp}{t:TypeId}{k:IntKind}{a b:Int}{d:D}(h:Eo e k a b=some d):
  (binOp e t (.int k a) (.int k b)).run P w=.ok (Co d) w/\∀(fid:Nat->Nat)(f:Array Obj)(Z:Nat->Prop),Rd fid f Z d (Co d):=by
 cases e<;>unfold Eo at h<;>dsimp only at h
 case quo=>
  split at h
  .injection h
  .rename_i H
   injection h with h;subst h
   exact⟨by simp[binOp,Op.intDiv,H,Co],λ_ _ _=>by simp only[Rd,Co]⟩
 case rem=>
  split at h
  .injection h
  .rename_i H
   injection h with h;subst h
   exact⟨by simp[binOp,Op.intDiv,H,Co],λ_ _ _=>by simp only[Rd,Co]⟩
 all_goals first
  |(injection h with h;subst h;exact⟨by simp[binOp,Op.intArith,Op.intBits,Op.intCmp,Co],λ_ _ _=>by simp only[Rd,Co]⟩)
  |(injection h;done)
theorem AOZ{f:BinOp}{t:TypeId}{k e:IntKind}{a b:Int}{d:D}(h:CA f (.i k a) (.i e b)=some d):
  (binOp f t (.int k a) (.int e b)).run P w=.ok (Co d) w/\∀(fid:Nat->Nat)(l:Array Obj)(Z:Nat->Prop),Rd fid l Z d (Co d):=by
 unfold CA at h;dsimp only at h;split at h
 .split at h
  .injection h
  .rename_i H;injection h with h;subst h;exact⟨by simp[binOp,Op.shift,H,Co],λ_ _ _=>by simp only[Rd,Co]⟩
 .split at h
  .injection h
  .rename_i H;injection h with h;subst h;exact⟨by simp[binOp,Op.shift,H,Co],λ_ _ _=>by simp only[Rd,Co]⟩
 .split at h
  .rename_i j;subst j;exact AOY w h
  .injection h
end
theorem AA7{x:List Nat}(h:∀c∈x,c<256):(x.map λc=>UInt8.ofNat c).map (·.toNat)=x:=by
 induction x with
 |nil=>rfl
 |cons c x i=>
  simp only[List.map_cons,List.cons.injEq]
  refine⟨?_,i λd hd=>h d (BL _ hd)⟩
  have:=h c (List.mem_cons_self ..)
  simp
  omega
theorem ofNat_inj{x y:List Nat}(H:∀c∈x,c<256)(b:∀c∈y,c<256)(h:x.map (λc=>UInt8.ofNat c)=y.map λc=>UInt8.ofNat c):x=y:=by rw[<-AA7 H,<-AA7 b,h]
theorem AGK:∀(x y:List Nat),(∀c∈x,c<256)->(∀c∈y,c<256)->Op.bytesLess (x.map λc=>UInt8.ofNat c) (y.map λc=>UInt8.ofNat c)=J3 x y
 |x,[]=>λ_ _=>by cases x<;>rfl
 |[],_::_=>λ_ _=>rfl
 |a::x,b::y=>λe f=>by
  simp only[List.map_cons,Op.bytesLess,J3]
  rw[AGK x y (λc H=>e c (BL _ H)) (λc H=>f c (BL _ H))]
  have k:=e a (List.mem_cons_self ..)
  have l:=f b (List.mem_cons_self ..)
  have i:(UInt8.ofNat a<UInt8.ofNat b)↔a<b:=by
   rw[UInt8.lt_iff_toNat_lt];simp;omega
  have j:(UInt8.ofNat a==UInt8.ofNat b)=(a==b):=by
   rw[Bool.eq_iff_iff]
   simp only[beq_iff_eq]
   constructor
   intro h
   have:=congrArg UInt8.toNat h
   simp at this
   omega
   rintro rfl;rfl
  rw[j]
  congr 1
  exact decide_eq_decide.2 i
theorem AQY(x:List Nat):(⟨(x.map λc=>UInt8.ofNat c).toArray⟩:ByteArray).toList=x.map λc=>UInt8.ofNat c:=by rw[ByteArray.toList_eq]
theorem Pd(x:List Nat):(⟨(x.map λc=>UInt8.ofNat c).toArray⟩:ByteArray).size=x.length:=by simp[ByteArray.size]
theorem AaB{x y:List Nat}(H:∀c∈x,c<256)(b:∀c∈y,c<256):((x.map λc=>UInt8.ofNat c)==y.map λc=>UInt8.ofNat c)=(x==y):=by rw[Bool.eq_iff_iff];simp only[beq_iff_eq];exact⟨ofNat_inj H b,λh=>h▸rfl⟩
section
variable{P:Program}(w:World)
theorem AaO{f:BinOp}{t:TypeId}{x y:List Nat}{d:D}(b:∀c∈x,c<256)(e:∀c∈y,c<256)(h:Mi f x y=some d):
  (binOp f t (BJ x) (BJ y)).run P w=.ok (Co d) w/\∀(fid:Nat->Nat)(k:Array Obj)(Z:Nat->Prop),Rd fid k Z d (Co d):=by
 unfold BJ
 cases f<;>unfold Mi at h<;>dsimp only at h
 case add=>
  split at h
  .rename_i i
   injection h with h;subst h
   unfold G1 at i
   refine⟨?_,λ_ _ _=>?_⟩
   .have s:¬(((x.length+y.length:Nat):Int) > IntKind.i64.max):=by
     have:IntKind.i64.max=9223372036854775807:=by decide
     rw[this];omega
    have H:(⟨(x.map λc=>UInt8.ofNat c).toArray⟩:ByteArray)++⟨(y.map λc=>UInt8.ofNat c).toArray⟩=⟨((x++y).map λc=>UInt8.ofNat c).toArray⟩:=by
     apply ByteArray.ext
     apply Array.ext'
     simp
    simp only[binOp,Op.stringOp,Pd,if_neg s,H,Co]
    rfl
   .simp only[Rd,Co]
    exact⟨trivial,λc j=>(Ac.1 j).elim (b c) (e c),by simp;omega⟩
  .injection h
 all_goals first
  |(injection h with h;subst h
    exact⟨by simp only[binOp,Op.stringOp,AQY,AaB b e,AGK x y b e,Co];rfl,λ_ _ _=>by simp only[Rd,Co]⟩)
  |(injection h;done)
theorem run_equalIn_bool(n:Nat){t:TypeId}{x y:Bool}(H:P.underlying t=some .bool):(Op.equalIn (n+1) t (.bool x) (.bool y)).run P w=.ok (x==y) w:=by
 have b:(underlying t).run P w=.ok .bool w:=by simp[underlying,H]
 simp[Op.equalIn,b,Result.andThen]
theorem AdU{e:BinOp}{t:TypeId}{x y:Bool}{d:D}(f:P.underlying t=some .bool)(h:G6 e (.b x) (.b y)=some d):
  (binOp e t (.bool x) (.bool y)).run P w=.ok (Co d) w/\∀(fid:Nat->Nat)(H:Array Obj)(Z:Nat->Prop),Rd fid H Z d (Co d):=by
 have he:(Op.equal t (.bool x) (.bool y)).run P w=.ok (x==y) w:=run_equalIn_bool w 9999 f
 cases e<;>unfold G6 at h<;>dsimp only at h
 case eql=>
  injection h with h;subst h
  refine⟨?_,λ_ _ _=>by simp only[Rd,Co]⟩
  show(Bind.bind (Op.equal t (.bool x) (.bool y)) λb=>Pure.pure (Value.bool b)).run P w=_
  rw[Sem.run_bind,he];rfl
 case neq=>
  injection h with h;subst h
  refine⟨?_,λ_ _ _=>by simp only[Rd,Co]⟩
  show(Bind.bind (Op.equal t (.bool x) (.bool y)) λb=>Pure.pure (Value.bool !b)).run P w=_
  rw[Sem.run_bind,he];rfl
 all_goals(injection h;done)
end
end Go.Cat
namespace Go.Cat
structure At(cf:CF)(c:Cx)(F:Fact->Prop)(E:Nat->D)(a:Act)(w:World)(vs:Nat->Value)(Bs:Nat->List Nat)(AA:Nat)(g:Gd)(p:Pr)(sm:Sm):Prop where
 fits:cf.Fits c
 H:BF c F E a w vs Bs
 fresh:∀j,j<p.np->Bh F (AA+j)
 needs:∀f∈sm.needs,F f
 g:Am E g
 fix:c.fixed a
theorem At.A5{cf:CF}{c:Cx}{F:Fact->Prop}{E:Nat->D}{a:Act}{w:World}{vs:Nat->Value}{Bs:Nat->List Nat}{AA:Nat}{g:Gd}{p:Pr}{sm:Sm}
  (h:At cf c F E a w vs Bs AA g p sm) {st:List Fact} {x:Operand} {A:A} {s:Sh} {ns:List Fact} (j:A5 cf st g x=some (A,s,ns)) (i:∀f∈ns,f∈sm.needs):
  ∃B,AE c.fid w.heap (OB F Bs) c.Xb s (ev E A) (a.eval x) B/\(∀n,A=.e n->F (.en n s)/\a.eval x=vs n/\B=Bs n):=
 GV h.fits j h.H (λf b=>h.needs f (i f b)) h.g
theorem Fj{cf:CF}{AA:Nat}{o:Oper}{g:Gd}{p b:Pr}{s:Sh}{ns:List Fact}{sm:Sm}(h:FI cf AA o g p s ns=some (b,sm)):
  b=p/\(BW o.dst cf.nt=true/\p.np=1)/\sm=⟨ns,[],one AA s o.dst (.is AA g)⟩:=by
 unfold FI at h;split at h
 .rename_i hi;simp only[AL,AJ]at h;exact⟨h.1.symm,hi,h.2.symm⟩
 .simp at h
theorem Fk{cf:CF}{c:Cx}{F:Fact->Prop}{E:Nat->D}{a:Act}{w w':World}{vs:Nat->Value}{Bs:Nat->List Nat}{AA:Nat}{g:Gd}{s:Sh}{ns:List Fact}{o:Oper}{p:Pr}
  (h:At cf c F E a w vs Bs AA g p ⟨ns,[],one AA s o.dst (.is AA g)⟩) (hi:BW o.dst cf.nt=true/\p.np=1) {v:Value}
  (f:w'.heap=w.heap/\w'.os=w.os/\w'.tape=w.tape/\w'.output=w.output)
  (e:(execOp a.eval o).run c.P w=.ok (.value v) w') (b:AE c.fid w.heap (OB F Bs) c.Xb s (E AA) v []):
  AV c o ⟨ns,[],one AA s o.dst (.is AA g)⟩ F E a w:=
 AV.B6 e (h.H.Lx (by simpa using h.fresh 0 (by omega)) (by rw[h.fits.nt];exact hi.1) f b [] h.g)
theorem CS(w:World):w.heap=w.heap/\w.os=w.os/\w.tape=w.tape/\w.output=w.output:=⟨rfl,rfl,rfl,rfl⟩
theorem AE.Jb{fid:Nat->Nat}{h:Array Obj}{O X:Nat->Prop}{d:D}{v:Value}(r:∀Z,Rd fid h Z d v):AE fid h O X .v d v []:=by simp only[AE];exact⟨trivial,r _⟩
section
variable{cf:CF}{c:Cx}{F:Fact->Prop}{E:Nat->D}{a:Act}{w:World}{vs:Nat->Value}{Bs:Nat->List Nat}{AA:Nat}{g:Gd}{sm:Sm}{st:List Fact}{o:Oper}{p:Pr}
 {K:Nat->List D->List D->Prop}
theorem N4{x y:Operand}{q:A->A->Pr}(b:Ju cf st AA o g x y q=some (p,sm))(h:At cf c F E a w vs Bs AA g p sm)
  (G:∀(α β:A)(s r:Sh)(B1 B2:List Nat),Aw K E AA (q α β)->AE c.fid w.heap (OB F Bs) c.Xb s (ev E α) (a.eval x) B1->AE c.fid w.heap (OB F Bs) c.Xb r (ev E β) (a.eval y) B2->
   ∃v,(execOp a.eval o).run c.P w=.ok (.value v) w/\∀Z,Rd c.fid w.heap Z (E AA) v) (C:Aw K E AA p):AV c o sm F E a w:=by unfold Ju at b;simp only[AS]at b;obtain⟨⟨e,s1,N⟩,j,⟨i,s2,M⟩,k,l⟩:=b;obtain⟨rfl,hi,rfl⟩:=Fj l;obtain⟨B1,J,_⟩:=h.A5 j (λf H=>BN _ H);obtain⟨B2,L,_⟩:=h.A5 k (λf H=>BB _ H);obtain⟨v,I,hd⟩:=G e i s1 s2 B1 B2 C J L;exact Fk h hi (CS w) I (AE.Jb hd)
theorem R2{x:Operand}{q:A->Pr}(H:MF cf st AA o g x q=some (p,sm))(h:At cf c F E a w vs Bs AA g p sm)
  (l:∀(α:A)(s:Sh)(B1:List Nat),Aw K E AA (q α)->AE c.fid w.heap (OB F Bs) c.Xb s (ev E α) (a.eval x) B1->
   ∃v,(execOp a.eval o).run c.P w=.ok (.value v) w/\∀Z,Rd c.fid w.heap Z (E AA) v) (j:Aw K E AA p):AV c o sm F E a w:=by unfold MF at H;simp only[AS]at H;obtain⟨⟨b,s1,N⟩,e,i⟩:=H;obtain⟨rfl,hi,rfl⟩:=Fj i;obtain⟨B1,G,_⟩:=h.A5 e (λf k=>k);obtain⟨v,C,hd⟩:=l b s1 B1 j G;exact Fk h hi (CS w) C (AE.Jb hd)
theorem AZZ{b:BinOp}{t:TypeId}{x y:Operand}{s r:Sh}{B1 B2:List Nat}{j k d:D}{v1 v2:Value}(he:CA b j k=some d)
  (l:AE c.fid w.heap (OB F Bs) c.Xb s j v1 B1) (q:AE c.fid w.heap (OB F Bs) c.Xb r k v2 B2):
  (do eqGuard b t x y v1 v2;binOp b t v1 v2:Sem Value).run c.P w=.ok (Co d) w/\∀Z,Rd c.fid w.heap Z d (Co d):=by
 unfold CA at he;split at he
 .rename_i I N J L;rw[l.int,q.int];have f:CA b (.i I N) (.i J L)=some d:=by unfold CA;exact he
  obtain⟨H,e⟩:=AOZ (P:=c.P) w (t:=t) f;exact⟨by rw[Sem.run_bind,AXF];exact H,λZ=>e _ _ Z⟩
 .rename_i M Q;obtain⟨C,b1,_⟩:=l.str;obtain⟨G,b2,_⟩:=q.str;rw[C,G];obtain⟨H,e⟩:=AaO (P:=c.P) w (t:=t) b1 b2 he;exact⟨by rw[Sem.run_bind];unfold BJ;rw[AS7];exact H,λZ=>e _ _ Z⟩
 .simp at he
theorem ARK{e:BinOp}{t:TypeId}{x y:Operand}{s r:Sh}{B1 B2:List Nat}{f i d:D}{v1 v2:Value}(l:c.P.underlying t=some .bool)(he:G6 e f i=some d)
  (q:AE c.fid w.heap (OB F Bs) c.Xb s f v1 B1) (C:AE c.fid w.heap (OB F Bs) c.Xb r i v2 B2):
  (do eqGuard e t x y v1 v2;binOp e t v1 v2:Sem Value).run c.P w=.ok (Co d) w/\∀Z,Rd c.fid w.heap Z d (Co d):=by
 unfold G6 at he;split at he
 .rename_i G I;rw[q.bool,C.bool];have H:G6 e (.b G) (.b I)=some d:=by unfold G6;exact he
  obtain⟨j,k⟩:=AdU (P:=c.P) w l H;exact⟨by rw[Sem.run_bind,AT8];exact j,λZ=>k _ _ Z⟩
 .simp at he
theorem C9{x:Sem Value}{P:Program}{w w':World}{v:Value}(h:x.run P w=.ok v w'):(do pure (Next.value (<-x)):Sem Next).run P w=.ok (.value v) w':=by rw[Sem.run_bind,h];rfl
end
section
variable(cf:CF)(st:List Fact)(AA:Nat)(o:Oper)(g:Gd)
def isBool(P:Program)(t:TypeId):Bool:=match P.underlying t with|some .bool=>true|_=>false
def ON(P:Program)(t:TypeId):Option IntKind:=match P.underlying t with|some (.int k)=>some k|_=>none
def isStr(P:Program)(t:TypeId):Bool:=match P.underlying t with|some .string=>true|_=>false
def Rx(P:Program)(t:TypeId):Option TypeId:=match P.underlying t with|some (.slice e)=>some e|_=>none
def LA(k:Nat):Option (Pr×Sm):=
 match o.op with
 |.move x=>K3 cf st AA o g x k
 |.assign x=>K3 cf st AA o g x k
 |.pick c x y=>VU cf st AA o g c x y
 |.binOp b t x y _=>if isBool cf.P t then Ju cf st AA o g x y (.bb b)else Ju cf st AA o g x y (.bi b)
 |.unOp b _ x=>MF cf st AA o g x (.un b)
 |.convert s d x=>match ON cf.P s,ON cf.P d with
  |some _,some e=>MF cf st AA o g x (.cv e)
  |_,_=>none
 |.index t x i=>if isStr cf.P t then Ju cf st AA o g x i .sx else none
 |.call { callee:=.builtin .len,args,argTypes }=>match args.toList,argTypes.toList with
  |[x],[t]=>if isStr cf.P t then MF cf st AA o g x .sn else match Rx cf.P t with
   |some _=>MF cf st AA o g x (.ln · [])
   |none=>none
  |_,_=>none
 |.call { callee:=.builtin .max,args,.. }=>match args.toList with
  |[x,y]=>Ju cf st AA o g x y .mx
  |_=>none
 |.call { callee:=.builtin .min,args,.. }=>match args.toList with
  |[x,y]=>Ju cf st AA o g x y .mn
  |_=>none
 |_=>none
end
theorem AV6{st:List Fact}{t:Nat}{l:Loc}(h:Bm st t=some l):Fact.sl t l∈st:=by
 induction st with
 |nil=>simp[Bm]at h
 |cons f r i=>
  cases f with
  |en n s=>simp only[Bm]at h;exact BL _ (i h)
  |sl u k=>
   simp only[Bm]at h
   split at h
   .rename_i e;obtain⟨e,_⟩:=e;injection h with h;subst e h;exact List.mem_cons_self ..
   .exact BL _ (i h)
section
variable{cf:CF}{c:Cx}{F:Fact->Prop}{E:Nat->D}{a:Act}{w:World}{vs:Nat->Value}{Bs:Nat->List Nat}{AA:Nat}{g:Gd}{sm:Sm}{st:List Fact}{o:Oper}{p:Pr}
 {K:Nat->List D->List D->Prop}
theorem AIS{x:Operand}{k:Nat}(b:K3 cf st AA o g x k=some (p,sm))(h:At cf c F E a w vs Bs AA g p sm)
  (j:(execOp a.eval o).run c.P w=.ok (.value (a.eval x)) w) (i:Aw K E AA p):AV c o sm F E a w:=by
 cases x with
 |tmp t=>
  simp only[K3]at b
  split at b
  .rename_i d hd
   split at b
   .rename_i Q
    split at b
    .rename_i n T Y
     split at b
     .rename_i L
      split at b
      .obtain⟨rfl,hi,rfl⟩:=Fj b
       have N:=h.needs (.sl t (.is n T)) (by simp)
       have he:=h.needs (.en n .v) (by simp)
       have G:a.tmps[t]?=some (vs n):=(h.H.loc t _ N).1 (λx j=>h.g x ((List.isPrefixOf_iff_prefix.1 L).subset j))
       have C:a.eval (.tmp t)=vs n:=by simp[Act.eval,G]
       have U:=h.H.own n .v he
       simp only[AE]at U
       simp only[Aw,AW,ev,AL]at i
       refine Fk h hi (CS w) j ?_
       simp only[AE]
       rw[C,<-i]
       exact⟨trivial,U.2⟩
      simp only[AL,AJ]at b
      obtain⟨_,rfl⟩:=b
      refine AV.B6 j ⟨vs,Bs,?_⟩
      have N:=h.needs (.sl t (.is n T)) (by simp)
      have G:a.tmps[t]?=some (vs n):=(h.H.loc t _ N).1 (λx j=>h.g x ((List.isPrefixOf_iff_prefix.1 L).subset j))
      have C:a.eval (.tmp t)=vs n:=by simp[Act.eval,G]
      rw[C,hd]
      refine BF.step (λ_=>False) (λ_=>False) (λ_=>False) (some d) h.H (λ_ _=>rfl) (λ_ _=>rfl) (λ_ _ _ _ _ q=>q) (λ_ q=>q.elim) (Ao.refl _ _) rfl rfl rfl
       (λt b=>Du b) Hg put_defers ?_ (λ_ _ q=>q.elim) (λ_ _ q=>q.elim) (λ_ _ q=>q.elim) (λ_ _ _ _ q=>q.elim) ?_
      .rintro f (⟨M,I⟩|M)
       .left
        refine⟨M,?_⟩
        cases f with
        |en n s=>exact λq=>q
        |sl u l=>exact I
       .simp at M;subst M;right;rfl
      .rintro u l W (⟨_,I⟩|I)
       .exact(I W).elim
       .simp at I
        obtain⟨rfl,rfl⟩:=I
        exact⟨λ_=>FY (by rw[h.H.size,h.fits.nt];exact Q),λq=>(q h.g).elim⟩
     .simp at b
    .simp at b
   .simp at b
  .simp at b
 |const v=>
  simp only[K3]at b
  split at b
  .rename_i J
   obtain⟨rfl,hi,rfl⟩:=Fj b
   have e:E AA=.l []:=by simp only[Aw,AW,AL]at i;exact i.symm
   have R:v=.slice none 0 0:=ADX J
   refine Fk h hi (CS w) j ?_
   rw[e]
   simp only[AE,Act.eval,R]
   exact .inr ⟨[],rfl,.inl (by simp)⟩
  .rename_i J
   obtain⟨rfl,hi,rfl⟩:=Fj b
   have e:E AA=.l []:=by simp only[Aw,AW,AL]at i;exact i.symm
   have R:v=.slice none 0 0:=ADX J
   refine Fk h hi (CS w) j ?_
   rw[e]
   simp only[AE,Act.eval,R]
   exact .inr ⟨[],rfl,.inl (by simp)⟩
  .rename_i d _ J _ _
   obtain⟨rfl,hi,rfl⟩:=Fj b
   simp only[Aw,AW,AL]at i
   exact Fk h hi (CS w) j (AE.Jb λZ=>i▸Ls J)
  .simp at b
 |func f=>
  simp only[K3,AS]at b
  obtain⟨k,V,b⟩:=b
  obtain⟨rfl,hi,rfl⟩:=Fj b
  simp only[Aw,AW,AL]at i
  refine Fk h hi (CS w) j (AE.Jb λZ=>?_)
  rw[<-i]
  simp only[Rd]
  refine⟨#[],?_,rfl,by simp[AP]⟩
  rw[h.fits.fid,h.fits.gof f k V]
  rfl
 |global _=>simp[K3]at b
theorem AVZ{x y z:Operand}(J:o.op=.pick x y z)(i:VU cf st AA o g x y z=some (p,sm))(h:At cf c F E a w vs Bs AA g p sm)(j:Aw K E AA p):AV c o sm F E a w:=by
 unfold VU at i;simp only[AS]at i;obtain⟨⟨L,s1,V⟩,M,i⟩:=i
 cases L with
 |c d=>simp at i
 |e n=>
  simp only[AS]at i
  obtain⟨⟨T,s2,W⟩,N,⟨U,s3,Y⟩,Q,i⟩:=i
  simp only at i
  split at i
  .rename_i R
   obtain⟨G,I⟩:=R
   subst G I
   obtain⟨rfl,hi,rfl⟩:=Fj i
   obtain⟨B1,q,_⟩:=h.A5 M (λf l=>BN _ l)
   simp only[Aw,AW,ev]at j
   simp only[ev]at q
   split at j
   .rename_i k
    have C:(execOp a.eval o).run c.P w=.ok (.value (a.eval y)) w:=by
     simp only[execOp,J]
     rw[Sem.run_bind,show a.eval x=.bool true from by rw[k]at q;exact q.bool]
     rfl
    obtain⟨B2,s,_⟩:=GV h.fits N h.H (λf l=>h.needs f (BB _ (BN _ l))) (by intro x b;rcases Ac.1 b with b|b;exact h.g x b;simp at b;subst b;exact k)
    simp only[AE]at s
    injection j with j
    refine Fk h hi (CS w) C ?_
    simp only[AE]
    exact⟨trivial,j▸s.2⟩
   .rename_i k
    have C:(execOp a.eval o).run c.P w=.ok (.value (a.eval z)) w:=by
     simp only[execOp,J]
     rw[Sem.run_bind,show a.eval x=.bool false from by rw[k]at q;exact q.bool]
     rfl
    obtain⟨B2,s,_⟩:=GV h.fits Q h.H (λf l=>h.needs f (BB _ (BB _ l))) (by intro x b;rcases Ac.1 b with b|b;exact h.g x b;simp at b;subst b;exact k)
    simp only[AE]at s
    injection j with j
    refine Fk h hi (CS w) C ?_
    simp only[AE]
    exact⟨trivial,j▸s.2⟩
   .simp at j
  .simp at i
theorem run_underlying{P:Program}{t:TypeId}{d:TypeDesc}(h:P.underlying t=some d)(w:World):(underlying t).run P w=.ok d w:=by simp[underlying,h]
theorem AN5{P:Program}{t:TypeId}(h:isBool P t=true):P.underlying t=some .bool:=by unfold isBool at h;split at h<;>simp_all
theorem AKP{P:Program}{t:TypeId}(h:isStr P t=true):P.underlying t=some .string:=by unfold isStr at h;split at h<;>simp_all
theorem ABI{P:Program}{t:TypeId}{k:IntKind}(h:ON P t=some k):P.underlying t=some (.int k):=by unfold ON at h;split at h<;>simp_all
theorem AdR{P:Program}{t e:TypeId}(h:Rx P t=some e):P.underlying t=some (.slice e):=by unfold Rx at h;split at h<;>simp_all
theorem ASG{b:BinOp}{α β:A}(h:Aw K E AA (.bi b α β)):CA b (ev E α) (ev E β)=some (E AA):=h
theorem AQJ{b:BinOp}{α β:A}(h:Aw K E AA (.bb b α β)):G6 b (ev E α) (ev E β)=some (E AA):=h
theorem AZ3(ρ:Operand->Value)(b:Builtin)(args:Array Operand)(s:Array TypeId)(type:TypeId):
  resolve ρ { callee:=.builtin b,args,argTypes:=s } type=(Pure.pure { target:=.builtin b s type (args.map λ|.const _=>true|_=>false),args:=args.map ρ }:Sem Deferred):=rfl
theorem LR{o:Oper}{b:Builtin}{args:Array Operand}{s:Array TypeId}(H:o.op=.call { callee:=.builtin b,args,argTypes:=s })(P:Program)(w:World)(ρ:Operand->Value):
  (execOp ρ o).run P w=(builtin b s o.type (args.map λ|.const _=>true|_=>false) (args.map ρ)).run P w:=by simp only[execOp,H,AZ3];rw[Sem.run_bind];rfl
theorem Ov{k:Nat}(f:LA cf st AA o g k=some (p,sm))(h:At cf c F E a w vs Bs AA g p sm)(G:Aw K E AA p):AV c o sm F E a w:=by
 unfold LA at f;split at f;rename_i x C;exact AIS f h (by simp only[execOp,C];rfl) G;rename_i x C;exact AIS f h (by simp only[execOp,C];rfl) G;rename_i x y z C;exact AVZ C f h G;rename_i op t x y yt C;split at f;rename_i T;refine N4 f h (λα β s r B1 B2 he j I=>?_) G;have hb':c.P.underlying t=some .bool:=by rw[h.fits.P];exact AN5 T
 obtain⟨R,h2⟩:=ARK (x:=x) (y:=y) (w:=w) hb' (AQJ he) j I;exact⟨_,by simp only[execOp,C];exact C9 R,h2⟩;refine N4 f h (λα β s r B1 B2 he j I=>?_) G;obtain⟨R,h2⟩:=AZZ (x:=x) (y:=y) (t:=t) (w:=w) (ASG he) j I;exact⟨_,by simp only[execOp,C];exact C9 R,h2⟩;rename_i op t x C;refine R2 f h (λα s B1 he j=>?_) G;have H:Lq op (ev E α)=some (E AA):=he;unfold Lq at H;split at H;rename_i b T;rw[T]at j;split at H;injection H with H;exact⟨.bool !b,by simp only[execOp,C];rw[j.bool];exact C9 rfl,λZ=>by rw[<-H];simp only[Rd]⟩;simp at H;rename_i kk n V;rw[V]at j;split at H;injection H with H;exact⟨.int kk (kk.wrap (0-n)),by simp only[execOp,C];rw[j.int];exact C9 rfl,λZ=>by rw[<-H];simp only[Rd]⟩;simp at H;simp at H;rename_i t1 t2 x C;split at f;rename_i k1 k2 N Q;refine R2 f h (λα s B1 he j=>?_) G;have H:AW E (.cv k2 α)=some (E AA):=he;simp only[AW]at H;split at H;rename_i kk n V;rw[V]at j;injection H with H;refine⟨.int k2 (k2.wrap n),?_,λZ=>by rw[<-H];simp only[Rd]⟩;simp only[execOp,C];refine C9 ?_;rw[j.int];unfold convert;rw[Sem.run_bind,run_underlying (h.fits.P▸ABI N)];simp only[Result.andThen];rw[Sem.run_bind,run_underlying (h.fits.P▸ABI Q)];rfl;simp at H;simp at f;rename_i t x i C;split at f;rename_i W;refine N4 f h (λα β s r B1 B2 he j I=>?_) G;have H:Kh (ev E α) (ev E β)=some (E AA):=he;have hs':c.P.underlying t=some .string:=by rw[h.fits.P];exact AKP W
 unfold Kh at H;split at H;rename_i xs kk n J V;rw[J]at j;rw[V]at I;obtain⟨Y,T,hl⟩:=j.str;split at H;rename_i h0
 cases M:xs[n.toNat]? with
 |none=>rw[M]at H;simp at H
 |some z=>
  rw[M]at H
  simp only[Option.map_some,AL]at H
  refine⟨.int .u8 z,?_,λZ=>by rw[<-H];simp only[Rd]⟩
  simp only[execOp,C]
  refine C9 ?_
  rw[Y,I.int]
  unfold Instr.index BJ
  simp only[asIntOf]
  rw[Sem.run_bind,Sem.run_pure]
  simp only[Result.andThen]
  rw[Sem.run_bind,run_underlying hs']
  have hz:z<256:=T z (List.mem_of_getElem? M)
  have U:n.toNat<xs.length:=by
   rcases B7 n.toNat xs.length with q|q
   .exact q
   .rw[D7 q]at M;simp at M
  have:(⟨(xs.map λc=>UInt8.ofNat c).toArray⟩:ByteArray)[n.toNat]?=some (UInt8.ofNat z):=by
   rw[getElem?_pos (h:=by show n.toNat<(xs.map λc=>UInt8.ofNat c).toArray.size;simpa using U)]
   congr 1
   show((xs.map λc=>UInt8.ofNat c).toArray)[n.toNat]'_=_
   have R:xs[n.toNat]=z:=by
    have:=M
    rw[GB U]at this
    injection this
   simp[R]
  simp only[Result.andThen,if_pos h0,this,Sem.run_pure]
  congr 2
  simp
  omega
 simp at H;simp at H;simp at f;rename_i args ts C;split at f;rename_i x t J htt;have l:args=#[x]:=by apply Array.ext';simpa using J
 have Em:ts=#[t]:=by apply Array.ext';simpa using htt
 subst l Em;split at f;rename_i W;refine R2 f h (λα s B1 he j=>?_) G;have H:Mu (ev E α)=some (E AA):=he;unfold Mu at H;split at H;rename_i xs L;injection H with H;rw[L]at j;obtain⟨Y,_,_⟩:=j.str;refine⟨.int .i64 xs.length,?_,λZ=>by rw[<-H];simp only[Rd]⟩;rw[LR C];simp only[List.map_toArray,List.map_cons,List.map_nil];show(Bind.bind (Builtin.len_ #[t] o.type #[a.eval x]) _).run c.P w=_;refine C9 ?_;rw[Y];unfold Builtin.len_ BJ;simp only[List.getElem?_toArray,List.getElem?_cons_zero];rw[Sem.run_bind,run_underlying (h.fits.P▸AKP W)];simp only[Result.andThen,Sem.run_pure,goInt,Pd];simp at H;split at f;rename_i e W;refine R2 f h (λα s B1 he j=>?_) G;have H:AW E (.ln α [])=some (E AA):=he;simp only[AW,EM,List.mapM_nil,Option.pure_def,Option.bind_some,Ai]at H;unfold FW at H;split at H;rename_i xs L;injection H with H;rw[L]at j;obtain⟨ad,cap,Y,_⟩:=j.len;refine⟨.int .i64 xs.length,?_,λZ=>by rw[<-H];simp only[Rd]⟩;rw[LR C];simp only[List.map_toArray,List.map_cons,List.map_nil];show(Bind.bind (Builtin.len_ #[t] o.type #[a.eval x]) _).run c.P w=_;refine C9 ?_;rw[Y];unfold Builtin.len_;simp only[List.getElem?_toArray,List.getElem?_cons_zero];rw[Sem.run_bind,run_underlying (h.fits.P▸AdR W)];rfl;simp at H;simp at f;simp at f;rename_i args ts C;split at f;rename_i x y J;have l:args=#[x,y]:=by apply Array.ext';simpa using J
 subst l;refine N4 f h (λα β s r B1 B2 he j I=>?_) G;have H:AW E (.mx α β)=some (E AA):=he;simp only[AW]at H;split at H;rename_i k1 n1 k2 n2 N Q;split at H;rename_i hk;subst hk;injection H with H;rw[N]at j;rw[Q]at I;refine⟨.int k1 (if n2 > n1 then n2 else n1),?_,λZ=>by rw[<-H];simp only[Rd]⟩;rw[LR C];simp only[List.map_toArray,List.map_cons,List.map_nil];show(Bind.bind (Builtin.max_ ts o.type #[a.eval x,a.eval y]) _).run c.P w=_;refine C9 ?_;rw[j.int,I.int];rfl;simp at H;simp at H;simp at f;rename_i args ts C;split at f;rename_i x y J;have l:args=#[x,y]:=by apply Array.ext';simpa using J
 subst l;refine N4 f h (λα β s r B1 B2 he j I=>?_) G;have H:AW E (.mn α β)=some (E AA):=he;simp only[AW]at H;split at H;rename_i k1 n1 k2 n2 N Q;split at H;rename_i hk;subst hk;injection H with H;rw[N]at j;rw[Q]at I;refine⟨.int k1 (if n2<n1 then n2 else n1),?_,λZ=>by rw[<-H];simp only[Rd]⟩;rw[LR C];simp only[List.map_toArray,List.map_cons,List.map_nil];show(Bind.bind (Builtin.min_ ts o.type #[a.eval x,a.eval y]) _).run c.P w=_;refine C9 ?_;rw[j.int,I.int];rfl;simp at H;simp at H;simp at f;simp at f
end
end Go.Cat
namespace Go.Cat
def BO(R:Sh->D->Value->List Nat->Prop):List Sh->List D->List Value->List Nat->Prop
 |[],[],[],B=>B=[]
 |s::ss,d::b,v::vs,B=>∃B1 B2,B=B1++B2/\R s d v B1/\BO R ss b vs B2
 |_,_,_,_=>False
def Ip(v:Value):List Value->Prop
 |[x]=>v=x
 |xs=>v=.tuple xs.toArray
def FB(fid:Nat->Nat)(h:Array Obj)(Z:Nat->Prop)(args:List Value):Option (Nat×Nat×List Nat)->Prop
 |none=>True
 |some (m,k,cs)=>∃(b:Nat)(s:Array Value)(e:TypeId)(f:Nat×Nat),args[m]?=some (.pointer (some ⟨b,0,none⟩))/\
   h[b]?=some (.cells s e f)/\s[0]?=some (.func (.func (fid k)) #[] (cs.map λi=>args.getD i undef).toArray)/\¬Z b
structure Sg where
 ps:List Sh
 qs:List Sh
 io:List Nat:=[]
 fb:Option (Nat×Nat×List Nat):=none
def Sg.outs(s:Sg):List Sh:=s.qs++s.io.map λi=>s.ps.getD i .v
def G5(P:Program)(fid:Nat->Nat)(f:FuncId)(s:Sg)(k rs:List D):Prop:=
 ∀(w:World)(X:Nat->Prop)(args:List Value)(B:List Nat),B.Nodup->(∀b,X b->b<w.heap.size/\b∉B)->
  BO (AE fid w.heap (·∈B) X) s.ps k args B->FB fid w.heap (·∈B) args s.fb->
  Calls P f args.toArray w λe w'=>∃v vs j,e=.returned v/\Ip v vs/\vs.length=s.qs.length/\Ao (·∈B) w.heap w'.heap/\w'.os=w.os/\w'.tape=w.tape/\w'.output=w.output/\
   j.Nodup/\(∀b∈j,b∈B\/w.heap.size<=b)/\BO (AE fid w'.heap (·∈j) X) s.outs rs (vs++s.io.map λi=>args.getD i undef) j
def Ff:Sh->Bool
 |.v=>true
 |.y=>false
 |.o s=>Ff s
 |.b s=>Ff s
 |.a s=>Ff s
 |.m=>true
def Sh.nb:Sh->Bool
 |.v=>true
 |.y=>true
 |.o s=>s.nb
 |.a s=>s.nb
 |.b _=>false
 |.m=>false
theorem AM.reads{fid:Nat->Nat}{h:Array Obj}{Z:Nat->Prop}{R:D->Value->List Nat->Prop}(f:∀d v B,(∀b∈B,¬Z b)->R d v B->Rd fid h Z d v):
  ∀{s:List D}{vs:List Value}{B:List Nat},(∀b∈B,¬Z b)->AM R s vs B->AP fid h Z s vs
 |[],_,_=>λ_ _=>by simp[AP]
 |d::s,v::vs,B=>λe he=>by simp only[AM]at he;obtain⟨B1,B2,rfl,i,j⟩:=he;simp only[AP];exact⟨f d v B1 (λb H=>e b (BN _ H)) i,AM.reads f (λb H=>e b (BB _ H)) j⟩
 |_::_,[],_=>λ_ he=>by simp[AM]at he
theorem AP.mono{fid:Nat->Nat}{h:Array Obj}{Z e:Nat->Prop}{s:List D}{vs:List Value}(r:AP fid h Z s vs)(H:∀b,b<h.size->e b->Z b):AP fid h e s vs:=
 AP.ext (S:=λ_=>False) (Ao.refl _ h) (λ_ _ q=>q.elim) H s vs r
theorem AE.reads{fid:Nat->Nat}{h:Array Obj}{O X Z:Nat->Prop}(j:∀b,b<h.size->Z b->O b):∀(s:Sh)(d:D)(v:Value)(B:List Nat),s.nb=true->(∀b∈B,¬Z b)->
  AE fid h O X s d v B->Rd fid h Z d v
 |.v,d,v,B=>λ_ _ r=>by simp only[AE]at r;exact r.2.mono λb i q=>.inl (j b i q)
 |.y,d,v,B=>λ_ _ r=>by simp only[AE]at r;exact r.2.mono j
 |.b s,d,v,B=>λf=>by simp[Sh.nb]at f
 |.m,d,v,B=>λf=>by simp[Sh.nb]at f
 |.a s,d,v,B=>λf H r=>by simp only[AE]at r;obtain⟨xs,cs,rfl,rfl,C,he⟩:=r;simp only[Rd];exact⟨cs,rfl,C,AM.reads (λd v B H r=>AE.reads j s d v B (by simpa[Sh.nb]using f) H r) H he⟩
 |.o s,d,v,B=>λf H r=>by simp only[AE]at r;rcases r with⟨q|q,_⟩|⟨xs,rfl,r⟩;subst q;simp[Rd];exact q.2.flat q.1;simp only[Rd];rcases r with r|⟨b,off,cap,cs,e,l,I,rfl,G,i,L,k,J,x,he⟩;exact .inl ⟨r.2.1,none,r.1⟩;refine .inr ⟨b,off,cap,cs,e,l,G,i,H b (by simp),?_,k,Nat.le_trans k x⟩;exact AM.reads (λd v B H r=>AE.reads j s d v B (by simpa[Sh.nb]using f) H r) (λb i=>H b (by simp[i])) he
def Sh.okF:Sh->Bool
 |.v=>true
 |.y=>false
 |.o s=>s.okF
 |.a s=>s.okF
 |.b _=>false
 |.m=>false
theorem AE.freeze{fid:Nat->Nat}{h:Array Obj}{O X Z:Nat->Prop}(f:∀b,b<h.size->Z b->O b\/X b):∀(s:Sh)(d:D)(v:Value)(B:List Nat),s.okF=true->(∀b∈B,¬Z b)->
  AE fid h O X s d v B->Rd fid h Z d v
 |.v,d,v,B=>λ_ _ r=>by simp only[AE]at r;exact r.2.mono f
 |.y,_,_,_=>λh=>by simp[Sh.okF]at h
 |.b _,_,_,_=>λh=>by simp[Sh.okF]at h
 |.m,_,_,_=>λh=>by simp[Sh.okF]at h
 |.a s,d,v,B=>λj H r=>by simp only[AE]at r;obtain⟨xs,cs,rfl,rfl,C,he⟩:=r;simp only[Rd];exact⟨cs,rfl,C,AM.reads (λd v B H r=>AE.freeze f s d v B (by simpa[Sh.okF]using j) H r) H he⟩
 |.o s,d,v,B=>λj H r=>by simp only[AE]at r;rcases r with⟨q|q,_⟩|⟨xs,rfl,r⟩;subst q;simp[Rd];exact q.2.flat q.1;simp only[Rd];rcases r with r|⟨b,off,cap,cs,e,l,I,rfl,G,i,L,k,J,x,he⟩;exact .inl ⟨r.2.1,none,r.1⟩;refine .inr ⟨b,off,cap,cs,e,l,G,i,H b (by simp),?_,k,Nat.le_trans k x⟩;exact AM.reads (λd v B H r=>AE.freeze f s d v B (by simpa[Sh.okF]using j) H r) (λb i=>H b (by simp[i])) he
theorem AE.Ff{fid:Nat->Nat}{h:Array Obj}{O O' X G:Nat->Prop}(j:∀b,b<h.size->O' b\/G b->O b\/X b):∀(s:Sh)(d:D)(v:Value)(B:List Nat),Ff s=true->
  AE fid h O X s d v B->AE fid h O' G s d v B
 |.v,d,v,B=>λ_ r=>by simp only[AE]at r|-;exact⟨r.1,r.2.mono j⟩
 |.y,_,_,_=>λh=>by simp[Cat.Ff]at h
 |.o s,d,v,B=>λf r=>by simp only[AE]at r|-;rcases r with r|⟨xs,hd,r⟩;exact .inl r;refine .inr ⟨xs,hd,?_⟩;rcases r with r|⟨b,off,cap,cs,e,l,k,H,i,q,C,I,J,L,he⟩;exact .inl r;exact .inr ⟨b,off,cap,cs,e,l,k,H,i,q,C,I,J,L,AM.imp (λd v B1 _=>AE.Ff j s d v B1 (by simpa[Cat.Ff]using f)) he⟩
 |.a s,d,v,B=>λf r=>by simp only[AE]at r|-;obtain⟨xs,cs,hd,i,x,he⟩:=r;exact⟨xs,cs,hd,i,x,AM.imp (λd v B1 _=>AE.Ff j s d v B1 (by simpa[Cat.Ff]using f)) he⟩
 |.b s,d,v,B=>λf r=>by simp only[AE]at r|-;obtain⟨xs,b,cs,e,l,k,hd,H,i,q,C,x,he⟩:=r;exact⟨xs,b,cs,e,l,k,hd,H,i,q,C,x,AM.imp (λd v B1 _=>AE.Ff j s d v B1 (by simpa[Cat.Ff]using f)) he⟩
 |.m,d,v,B=>λ_ r=>by simp only[AE]at r|-;exact r
theorem AE.JN{fid:Nat->Nat}{h:Array Obj}{O O' X I:Nat->Prop}(i:∀b,b<h.size->O' b->O b)(k:∀b,b<h.size->I b->O b\/X b):∀(s:Sh)(d:D)(v:Value)(B:List Nat),
  AE fid h O X s d v B->AE fid h O' I s d v B
 |.v,d,v,B=>λr=>by simp only[AE]at r|-;exact⟨r.1,r.2.mono λb f q=>q.elim (λq=>.inl (i b f q)) (k b f)⟩
 |.y,d,v,B=>λr=>by simp only[AE]at r|-;exact⟨r.1,r.2.mono i⟩
 |.o s,d,v,B=>λr=>by simp only[AE]at r|-;rcases r with r|⟨xs,hd,r⟩;exact .inl r;refine .inr ⟨xs,hd,?_⟩;rcases r with r|⟨b,off,cap,cs,e,x,l,H,j,f,G,J,L,M,he⟩;exact .inl r;exact .inr ⟨b,off,cap,cs,e,x,l,H,j,f,G,J,L,M,AM.imp (λd v B1 _=>AE.JN i k s d v B1) he⟩
 |.a s,d,v,B=>λr=>by simp only[AE]at r|-;obtain⟨xs,cs,hd,j,C,he⟩:=r;exact⟨xs,cs,hd,j,C,AM.imp (λd v B1 _=>AE.JN i k s d v B1) he⟩
 |.b s,d,v,B=>λr=>by simp only[AE]at r|-;obtain⟨xs,b,cs,e,x,l,hd,H,j,f,G,C,he⟩:=r;exact⟨xs,b,cs,e,x,l,hd,H,j,f,G,C,AM.imp (λd v B1 _=>AE.JN i k s d v B1) he⟩
 |.m,d,v,B=>λr=>by simp only[AE]at r|-;exact r
theorem BO.fn{R:Sh->D->Value->List Nat->Prop}:∀{ss:List Sh}{f:List D}{vs:List Value}{B:List Nat},BO R ss f vs B->B.Nodup->
  ss.length=f.length/\vs.length=f.length/\∃bf:Nat->List Nat,(∀j s d v,ss[j]?=some s->f[j]?=some d->vs[j]?=some v->R s d v (bf j))/\
   (∀j,j<f.length->(bf j).Nodup/\∀b∈bf j,b∈B)/\(∀i j,i<f.length->j<f.length->i≠j->∀b∈bf i,b∉bf j)/\(∀b∈B,∃j,j<f.length/\b∈bf j)
 |[],[],[],B=>λh _=>by simp only[BO]at h;subst h;exact⟨rfl,rfl,λ_=>[],by simp,by simp,by simp,by simp⟩
 |s::ss,d::f,v::vs,B=>λh U=>by
  simp only[BO]at h;obtain⟨B1,B2,rfl,Q,T⟩:=h;obtain⟨n1,n2,N⟩:=List.nodup_append.1 U;obtain⟨L,M,bf,V,C,W,Y⟩:=BO.fn T n2;refine⟨by simp[L],by simp[M],λj=>match j with|0=>B1|j+1=>bf j,?_,?_,?_,?_⟩;intro j s' J v' G a2 I
  cases j with
  |zero=>simp at G a2 I;subst G a2 I;exact Q
  |succ j=>exact V j s' J v' (by simpa using G) (by simpa using a2) (by simpa using I)
  intro j q
  cases j with
  |zero=>exact⟨n1,λb H=>BN _ H⟩
  |succ j=>exact⟨(C j (by simpa using q)).1,λb H=>BB _ ((C j (by simpa using q)).2 b H)⟩
  intro i j hi q x b k l
  cases i with
  |zero=>
   cases j with
   |zero=>exact x rfl
   |succ j=>exact N b k b ((C j (by simpa using q)).2 b l) rfl
  |succ i=>
   cases j with
   |zero=>exact N b l b ((C i (by simpa using hi)).2 b k) rfl
   |succ j=>exact W i j (by simpa using hi) (by simpa using q) (λe=>x (by rw[e])) b k l
  intro b H;rcases Ac.1 H with H|H;exact⟨0,by simp,H⟩;obtain⟨j,q,H⟩:=Y b H;exact⟨j+1,by simpa using q,H⟩
 |[],[],_::_,_=>λh=>by simp[BO]at h
 |[],_::_,_,_=>λh=>by simp[BO]at h
 |_::_,[],_,_=>λh=>by simp[BO]at h
 |_::_,_::_,[],_=>λh=>by simp[BO]at h
def A.ens:A->List Nat
 |.e n=>[n]
 |.c _=>[]
def ownArg(cf:CF)(st:List Fact)(g:Gd)(x:Operand)(s:Sh):Option (A×List Nat×List Nat×List Fact):=
 (A5 cf st g x).bind λa=>match a.1 with
  |.e n=>if a.2.1=s then some (a.1,[n],[],a.2.2)else none
  |.c _=>none
def Nl(st:List Fact)(g:Gd)(x:Operand):Option (A×List Nat×List Nat×List Fact):=
 match x with
 |.tmp t=>match Bm st t with
  |some (.ia r m G)=>if G.isPrefixOf g then(CB st r).bind λs=>match s with
   |.b s'=>if s'.nb=true then some (.e m,[],[r],[.sl t (.ia r m G),.en r (.b s')])else none
   |_=>none
   else none
  |_=>none
 |_=>none
def PM(cf:CF)(st:List Fact)(g:Gd)(x:Operand)(s:Sh):Option (A×List Nat×List Nat×List Fact):=
 match s with
 |.y=>match Nl st g x with
  |some r=>some r
  |none=>(A5 cf st g x).bind λa=>if a.2.1.nb=true then some (a.1,[],a.1.ens,a.2.2)else none
 |.v=>(A5 cf st g x).bind λa=>if a.2.1=.v then some (a.1,[],[],a.2.2)else none
 |.o s=>ownArg cf st g x (.o s)
 |.b s=>ownArg cf st g x (.b s)
 |.a s=>ownArg cf st g x (.a s)
 |.m=>ownArg cf st g x .m
def Ew(cf:CF)(st:List Fact)(g:Gd):List Operand->List Sh->Option (List A×List Nat×List Nat×List Fact)
 |[],[]=>some ([],[],[],[])
 |x::xs,s::ss=>(PM cf st g x s).bind λa=>(Ew cf st g xs ss).map λr=>(a.1::r.1,a.2.1++r.2.1,a.2.2.1++r.2.2.1,a.2.2.2++r.2.2.2)
 |_,_=>none
def M9(AA:Nat)(qs:List Sh):List Fact:=qs.zipIdx.map λx=>.en (AA+x.2) x.1
def Kx(AA:Nat)(n:Nat)(g:Gd):Loc:=if n=1 then .is AA g else .tu ((List.range n).map (AA+·)) g
def AKV(ks:List Nat):Option A->Bool
 |some (.e n)=>ks.contains n
 |_=>false
def Q4(st:List Fact)(dst:Option Nat)(s:List A)(io:List Nat):List (Nat×Gd×Nat×Nat):=
 io.zipIdx.flatMap λ(x:Nat×Nat)=>match s[x.1]? with
  |some (.e n)=>(slotsOf st n).filterMap λy=>if some y.1=dst then none else some (y.1,y.2,n,x.2)
  |_=>[]
def Kp(cf:CF)(sg:Nat->Option Sg)(st:List Fact)(AA:Nat)(o:Oper)(g:Gd)(k:Nat)(xs:List Operand)(fb:Option (Nat×Nat×List Nat):=none):Option (Pr×Sm):=
 (sg k).bind λs=>(Ew cf st g xs s.ps).bind λr=>
  if r.2.1.Nodup/\(∀n∈r.2.2.1,n∉r.2.1)/\(∀q∈s.outs,Ff q=true)/\BW o.dst cf.nt=true/\(s.io.all λi=>AKV r.2.1 r.1[i]?)=true/\s.fb=fb then
   some (.ca k r.1 s.outs.length,⟨r.2.2.2++(Q4 st o.dst r.1 s.io).map λx=>.sl x.1 (.is x.2.2.1 x.2.1),r.2.1,M9 AA s.outs++(match o.dst with
    |some t=>[.sl t (Kx AA s.qs.length g)]
    |none=>[])++(Q4 st o.dst r.1 s.io).map λx=>.sl x.1 (.is (AA+s.qs.length+x.2.2.2) x.2.1)⟩)
  else none
structure Sound(cf:CF)(sg:Nat->Option Sg)(K:Nat->List D->List D->Prop):Prop where
 con:∀k ds rs s,K k ds rs->sg k=some s->G5 cf.P cf.fid (cf.fid k) s ds rs
 enter:∀k s,sg k=some s->∀args w,(callFunc (cf.fid k) args).run cf.P w=.ok (.enter (cf.fid k) args) w
section
variable{cf:CF}{c:Cx}{F:Fact->Prop}{E:Nat->D}{a:Act}{w:World}{vs:Nat->Value}{Bs:Nat->List Nat}{g:Gd}{st:List Fact}
theorem AO2{st:List Fact}{n:Nat}{s:Sh}(h:CB st n=some s):Fact.en n s∈st:=by
 induction st with
 |nil=>simp[CB]at h
 |cons f r i=>
  cases f with
  |sl n s=>simp only[CB]at h;exact BL _ (i h)
  |en u k=>
   simp only[CB]at h
   split at h
   .rename_i e;injection h with h;subst e h;exact List.mem_cons_self ..
   .exact BL _ (i h)
theorem Ur{x:Operand}{I:A}{N rr:List Nat}{ns:List Fact}(h:Nl st g x=some (I,N,rr,ns))(H:BF c F E a w vs Bs)(J:∀f∈ns,F f)(V:Am E g):
  N=[]/\∃r m s',I=.e m/\rr=[r]/\F (.en r (.b s'))/\s'.nb=true/\a.eval x=vs m/\∃xs b cs e j,E m=.g xs/\vs m=.agg cs/\Bs r=b::j/\w.heap[b]?=some (.cells cs e (0,0))/\cs.size=xs.length/\
   AM (AE c.fid w.heap (OB F Bs) c.Xb s') xs cs.toList j:=by
 unfold Nl at h;split at h
 .rename_i t;split at h
  .rename_i r m R hl;split at h
   .rename_i C;simp only[AS]at h;obtain⟨s1,Y,h⟩:=h;split at h
    .rename_i s';split at h
     .rename_i G;simp only[AL,AJ]at h;obtain⟨rfl,rfl,rfl,rfl⟩:=h;have l:=J (.en r (.b s')) (by simp);obtain⟨xs,b,cs,e,fz,k1,k2,k3,M,k5,k6⟩:=H.loc t _ (J (.sl t (.ia r m R)) (by simp)) (λx hx=>V x ((List.isPrefixOf_iff_prefix.1 C).subset hx)) ⟨_,l⟩;have L:=H.own r _ l;rw[k1,k3]at L;obtain⟨s2,Q,e2,j,i,T,k,W,he⟩:=L.TY;injection i with i;subst i;rw[M]at k;injection k with k;injection k with q U s;subst q;refine⟨rfl,r,m,s',rfl,rfl,l,G,?_,xs,b,cs,e,j,k2,k5,T,by rw[M,s],W,he⟩;simp[Act.eval,CX,k6]
     .cases h
    .cases h
   .cases h
  .cases h
 .cases h
theorem Sx{x:Operand}{s:Sh}{b:A}{k rr:List Nat}{N:List Fact}(h:ownArg cf st g x s=some (b,k,rr,N)):∃n,b=.e n/\k=[n]/\rr=[]/\A5 cf st g x=some (.e n,s,N):=by
 unfold ownArg at h;simp only[AS]at h;obtain⟨⟨f,s2,l⟩,i,H⟩:=h
 cases f with
 |c d=>simp at H
 |e n=>
  simp only at H
  split at H
  .rename_i j
   subst j
   simp only[AL,AJ]at H
   obtain⟨rfl,rfl,rfl,rfl⟩:=H
   exact⟨n,rfl,rfl,rfl,i⟩
  .cases H
theorem Tq{x:Operand}{s:Sh}{e:A}{k rr:List Nat}{N:List Fact}(h:PM cf st g x s=some (e,k,rr,N)):
  (s=.y/\Nl st g x=some (e,k,rr,N))\/(s=.y/\∃s2,A5 cf st g x=some (e,s2,N)/\s2.nb=true/\k=[]/\rr=e.ens)\/
  (s=.v/\A5 cf st g x=some (e,.v,N)/\k=[]/\rr=[])\/(ownArg cf st g x s=some (e,k,rr,N)):=by
 cases s with
 |y=>
  simp only[PM]at h
  cases hr:Nl st g x with
  |some r=>
   rw[hr]at h
   exact .inl ⟨rfl,h⟩
  |none=>
   rw[hr]at h
   simp only[AS]at h
   obtain⟨⟨j,s2,q⟩,f,H⟩:=h
   simp only at H
   split at H
   .rename_i i
    simp only[AL,AJ]at H
    obtain⟨rfl,rfl,rfl,rfl⟩:=H
    exact .inr (.inl ⟨rfl,s2,f,i,rfl,rfl⟩)
   .cases H
 |v=>
  simp only[PM,AS]at h
  obtain⟨⟨j,s2,q⟩,f,H⟩:=h
  simp only at H
  split at H
  .rename_i l
   subst l
   simp only[AL,AJ]at H
   obtain⟨rfl,rfl,rfl,rfl⟩:=H
   exact .inr (.inr (.inl ⟨rfl,f,rfl,rfl⟩))
  .cases H
 |o s=>exact .inr (.inr (.inr h))
 |b s=>exact .inr (.inr (.inr h))
 |a s=>exact .inr (.inr (.inr h))
 |m=>exact .inr (.inr (.inr h))
theorem AIN(Y:cf.Fits c)(H:BF c F E a w vs Bs)(R:Am E g)(ks:List Nat)(G:∀n∈ks,alive F n)(X':Nat->Prop)
  (I:∀b,b<w.heap.size->X' b->OB F Bs b\/c.Xb b):∀(xs:List Operand)(ss:List Sh)(U:List A)(Q rd:List Nat)(ns:List Fact),
  Ew cf st g xs ss=some (U,Q,rd,ns)->(∀f∈ns,F f)->(∀n∈Q,n∈ks)->(∀n∈rd,n∉ks)->
  BO (AE c.fid w.heap (·∈ks.flatMap Bs) X') ss (U.map (ev E)) (xs.map a.eval) (Q.flatMap Bs)
 |[],[],U,Q,rd,ns=>λh _ _ _=>by
  simp only[Ew,AL,AJ]at h
  obtain⟨rfl,rfl,_,_⟩:=h
  simp[BO]
 |x::xs,s::ss,U,Q,rd,ns=>λh L hk hr=>by
  simp only[Ew,AS,Ae]at h
  obtain⟨⟨A1,kk,rr,n1⟩,h1,⟨As2,k3,rd2,n2⟩,h2,h3⟩:=h
  simp only[AJ]at h3
  obtain⟨rfl,rfl,rfl,rfl⟩:=h3
  have ih:=AIN Y H R ks G X' I xs ss As2 k3 rd2 n2 h2 (λf C=>L f (BB _ C)) (λn h=>hk n (BB _ h)) (λn h=>hr n (BB _ h))
  have W:∀b,b<w.heap.size->b∈ks.flatMap Bs->OB F Bs b:=by
   intro b _ k
   obtain⟨n,L,k⟩:=List.mem_flatMap.1 k
   obtain⟨s,hs⟩:=G n L
   exact⟨n,s,hs,k⟩
  simp only[List.map_cons,BO]
  refine⟨kk.flatMap Bs,k3.flatMap Bs,by simp,?_,ih⟩
  rcases Tq h1 with⟨rfl,i⟩|⟨rfl,s2,i,M,rfl,rfl⟩|⟨rfl,i,rfl,rfl⟩|i
  obtain⟨rfl,r,m,s',rfl,rfl,V,M,hx,ys,b,cs,e,B',Q,k5,hB,k,hn2,he⟩:=Ur i H (λf C=>L f (BN _ C)) R
  simp only[AE,ev]
  refine⟨by simp,?_⟩
  rw[Q,hx,k5]
  simp only[Rd]
  refine⟨cs,rfl,hn2,AM.reads (λd v B hB r=>AE.reads W s' d v B M hB r) (λb2 j J=>?_) he⟩
  obtain⟨m2,T,J⟩:=List.mem_flatMap.1 J
  have N:r≠m2:=λe=>hr r (by simp) (e▸T)
  obtain⟨r3,hr3⟩:=G m2 T
  exact H.apart r _ m2 r3 V hr3 N b2 (by rw[hB];exact BL _ j) J
  obtain⟨B1,l,o2⟩:=GV Y i H (λf C=>L f (BN _ C)) R
  simp only[AE]
  refine⟨by simp,AE.reads W s2 _ _ B1 M ?_ l⟩
  intro b k j
  obtain⟨m,hm,j⟩:=List.mem_flatMap.1 j
  cases A1 with
  |c d=>
   have:B1=[]:=by
    cases x with
    |const v=>
     simp only[A5,Ae,AJ]at i
     obtain⟨_,_,_,rfl,_⟩:=i
     simp only[AE]at l;exact l.1
    |func f=>
     simp only[A5,Ae,AJ]at i
     obtain⟨_,_,_,rfl,_⟩:=i
     simp only[AE]at l;exact l.1
    |global _=>simp[A5]at i
    |tmp t=>
     simp only[A5]at i
     split at i
     .split at i
      .simp only[Ae,AJ]at i
       obtain⟨_,_,h,_⟩:=i
       simp at h
      .simp at i
     .simp at i
   subst this;simp at k
  |e n=>
   obtain⟨V,f2,f3⟩:=o2 n rfl
   subst f3
   have N:n≠m:=λe=>hr n (by simp[A.ens]) (e▸hm)
   obtain⟨r,hr2⟩:=G m hm
   exact H.apart n s2 m r V hr2 N b k j
  obtain⟨B1,l,o2⟩:=GV Y i H (λf C=>L f (BN _ C)) R
  simp only[AE]at l|-
  exact⟨by simp,l.2.mono λb k q=>q.elim (λq=>.inl (W b k q)) (I b k)⟩
  obtain⟨n,rfl,rfl,rfl,h5⟩:=Sx i
  obtain⟨B1,l,o2⟩:=GV Y h5 H (λf C=>L f (BN _ C)) R
  obtain⟨V,f2,f3⟩:=o2 n rfl
  subst f3
  have:=AE.JN W I _ _ _ _ l
  rw[show [n].flatMap Bs=Bs n from by simp]
  exact this
 |[],_::_,_,_,_,_=>λh=>by simp[Ew]at h
 |_::_,[],_,_,_,_=>λh=>by simp[Ew]at h
theorem Wt{n j:Nat}(h:j<n):(List.range n)[j]?=some j:=by simp[h]
theorem AUC{AA:Nat}{qs:List Sh}{f:Fact}:f∈M9 AA qs↔∃j q,qs[j]?=some q/\f=.en (AA+j) q:=by unfold M9;simp only[List.mem_map,Prod.exists,List.mem_zipIdx_iff_getElem?];constructor;rintro⟨q,j,h,rfl⟩;exact⟨j,q,h,rfl⟩;rintro⟨j,q,h,rfl⟩;exact⟨q,j,h,rfl⟩
theorem AX9{st:List Fact}{dst:Option Nat}{s:List A}{io:List Nat}{u:Nat}{G:Gd}{n j:Nat}(h:(u,G,n,j)∈Q4 st dst s io):
  ∃i,io[j]?=some i/\s[i]?=some (.e n)/\some u≠dst:=by
 unfold Q4 at h;simp only[List.mem_flatMap,Prod.exists]at h;obtain⟨i,J,k,H⟩:=h;split at H
 .rename_i m l;simp only[List.mem_filterMap]at H;obtain⟨y,_,b⟩:=H;split at b
  .cases b
  .rename_i f;simp only[AL,AJ]at b;obtain⟨rfl,rfl,rfl,rfl⟩:=b;exact⟨i,by simpa using List.mem_zipIdx_iff_getElem?.1 k,l,f⟩
 .simp at H
theorem AJR(G:cf.Fits c)(H:BF c F E a w vs Bs)(l:Am E g):∀(xs:List Operand)(ss:List Sh)(C:List A)(M rd:List Nat)(ns:List Fact),Ew cf st g xs ss=some (C,M,rd,ns)->(∀f∈ns,F f)->
  ∀(i n:Nat),C[i]?=some (.e n)->((xs[i]?).map a.eval).getD undef=vs n
 |[],[],C,M,rd,ns=>λh _ i n hi=>by simp only[Ew,AL,AJ]at h;obtain⟨rfl,_⟩:=h;simp at hi
 |x::xs,s::ss,C,M,rd,ns=>λh Q i n hi=>by
  simp only[Ew,AS,Ae]at h;obtain⟨⟨A1,kk,rr,n1⟩,U,⟨I,Y,R,n2⟩,V,N⟩:=h;simp only[AJ]at N;obtain⟨rfl,rfl,rfl,rfl⟩:=N
  cases i with
  |succ i=>simpa using AJR G H l xs ss I Y R n2 V (λf L=>Q f (BB _ L)) i n (by simpa using hi)
  |zero=>
   simp at hi
   subst hi
   have b:∀f∈n1,F f:=λf L=>Q f (BN _ L)
   rcases Tq U with⟨rfl,j⟩|⟨rfl,s2,j,_⟩|⟨rfl,j,_⟩|j
   .obtain⟨_,r,m,s',k,_,_,_,W,_⟩:=Ur j H b l
    injection k with k
    subst k
    simpa using W
   .obtain⟨B1,T,q⟩:=GV G j H b l
    simpa using(q n rfl).2.1
   .obtain⟨B1,T,q⟩:=GV G j H b l
    simpa using(q n rfl).2.1
   .obtain⟨n',J,_,_,k⟩:=Sx j
    injection J with J
    subst J
    obtain⟨B1,T,q⟩:=GV G k H b l
    simpa using(q n rfl).2.1
 |[],_::_,_,_,_,_=>λh=>by simp[Ew]at h
 |_::_,[],_,_,_,_=>λh=>by simp[Ew]at h
theorem Ss{sg:Nat->Option Sg}{K:Nat->List D->List D->Prop}(hs:Sound cf sg K)(hc:cf.Fits c){AA:Nat}{o:Oper}{k:Nat}{xs:List Operand}{fb:Option (Nat×Nat×List Nat)}{p:Pr}{sm:Sm}
  (U:Kp cf sg st AA o g k xs fb=some (p,sm)) (hfb:FB cf.fid w.heap (OB F Bs) (xs.map a.eval) fb) (H:BF c F E a w vs Bs) (R:∀j,j<p.np->Bh F (AA+j)) (C:∀f∈sm.needs,F f) (hg:Am E g) (hE:Aw K E AA p)
  (hr:(execOp a.eval o).run c.P w=(callFunc (cf.fid k) (xs.map a.eval).toArray).run c.P w):AV c o sm F E a w:=by
 unfold Kp at U;simp only[AS]at U;obtain⟨s,hsg,⟨As,ks,rd,ns⟩,M,U⟩:=U;simp only at U;split at U
 .rename_i hcond;obtain⟨hnd,hrd,hok,hin,hio,hsfb⟩:=hcond;simp only[AL,AJ]at U;obtain⟨rfl,rfl⟩:=U;simp only at C;have hnAll:=C;replace C:∀f∈ns,F f:=λf I=>hnAll f (BN _ I);obtain⟨rs,hK,hlen,hrs⟩:=hE;have J:∀n∈ks,alive F n:=by
   have:∀(xs:List Operand)(ss:List Sh)(As:List A)(ks rd:List Nat)(ns:List Fact),Ew cf st g xs ss=some (As,ks,rd,ns)->(∀f∈ns,F f)->∀n∈ks,alive F n:=by
    intro xs;induction xs with
    |nil=>
     intro ss As ks rd ns h _ n C
     cases ss with
     |nil=>simp only[Ew,AL,AJ]at h;obtain⟨_,rfl,_⟩:=h;simp at C
     |cons _ _=>simp[Ew]at h
    |cons x xs ih=>
     intro ss As ks rd ns h hF n C
     cases ss with
     |nil=>simp[Ew]at h
     |cons s ss=>
      simp only[Ew,AS,Ae]at h
      obtain⟨⟨A1,kk,rr,n1⟩,h1,⟨As2,k3,rd2,n2⟩,h2,h3⟩:=h
      simp only[AJ]at h3
      obtain⟨rfl,rfl,rfl,rfl⟩:=h3
      rcases Ac.1 C with C|C
      .rcases Tq h1 with⟨rfl,h4⟩|⟨rfl,s2,h4,_,rfl,_⟩|⟨rfl,h4,rfl,_⟩|h4
       .obtain⟨rfl,_⟩:=Ur h4 H (λf I=>hF f (BN _ I)) hg
        simp at C
       .simp at C
       .simp at C
       .obtain⟨m,rfl,rfl,rfl,h5⟩:=Sx h4
        simp at C;subst C
        obtain⟨_,_,o2⟩:=GV hc h5 H (λf I=>hF f (BN _ I)) hg
        exact⟨_,(o2 _ rfl).1⟩
      .exact ih ss As2 k3 rd2 n2 h2 (λf I=>hF f (BB _ I)) n C
   exact this xs s.ps As ks rd ns M C
  have hlt:∀n s,F (.en n s)->∀b∈Bs n,b<w.heap.size:=λn s h=>AE.F2 s _ _ _ (H.own n s h);have hBnd:(ks.flatMap Bs).Nodup:=by
   clear M hrd hio;induction ks with
   |nil=>simp
   |cons n ks ih=>
    simp only[List.flatMap_cons]
    obtain⟨q1,q2⟩:=List.nodup_cons.1 hnd
    refine List.nodup_append.2 ⟨?_,ih q2 λn C=>J n (BL _ C),?_⟩
    .obtain⟨s,hs⟩:=J n (List.mem_cons_self ..);exact H.nodup n s hs
    .intro b L b' hb' e
     subst e
     obtain⟨m,hm,hb'⟩:=List.mem_flatMap.1 hb'
     obtain⟨s1,hs1⟩:=J n (List.mem_cons_self ..)
     obtain⟨s2,hs2⟩:=J m (BL _ hm)
     exact H.apart n s1 m s2 hs1 hs2 (λe=>q1 (e▸hm)) b L hb'
  let X':Nat->Prop:=λb=>(c.Xb b\/OB F Bs b)/\b∉ks.flatMap Bs;have hX1:∀b,X' b->b<w.heap.size/\b∉ks.flatMap Bs:=by rintro b ⟨h1,h2⟩;refine⟨?_,h2⟩;rcases h1 with h1|⟨n,s,h3,h4⟩;have:=(c.hX b h1).1;have:=H.agr.size;omega;exact hlt n s h3 b h4
  have hXk:∀b,c.Xb b->b∉ks.flatMap Bs:=by intro b L hm;obtain⟨n,C,W⟩:=List.mem_flatMap.1 hm;obtain⟨s,hs⟩:=J n C;have:=c.hX b L;rcases H.mine n s hs b W with q|q;omega;exact this.2 q
  have hE2:=AIN hc H hg ks J X' (λb _ q=>q.1.symm) xs s.ps As ks rd ns M C (λ_ h=>h) hrd;have hfb':FB cf.fid w.heap (·∈ks.flatMap Bs) (xs.map a.eval) s.fb:=by
   rw[hsfb]
   cases fb with
   |none=>trivial
   |some x=>
    obtain⟨m,k',cs⟩:=x
    obtain⟨b,hs,e,fz,q1,q2,q4,q3⟩:=hfb
    refine⟨b,hs,e,fz,q1,q2,q4,λL=>q3 ?_⟩
    obtain⟨n,C,L⟩:=List.mem_flatMap.1 L
    obtain⟨r,hr⟩:=J n C
    exact⟨n,r,hr,L⟩
  have hcon:=hs.con k _ rs s hK hsg w X' (xs.map a.eval) (ks.flatMap Bs) hBnd hX1 (hc.fid▸hE2) hfb';intro nxt Q hnxt;have hr':(execOp a.eval o).run c.P w=.ok (.enter (cf.fid k) (xs.map a.eval).toArray) w:=by rw[hr,hc.P];exact hs.enter k s hsg _ w
  simp only[Oper.wp,hr',Oper.upon];rw[hc.P];refine Calls.mono hcon ?_;rintro e w' ⟨v,T,B',rfl,htup,hvl,hagr,hos,htape,hout,hnd',hbl',hres⟩;obtain⟨rvs,V⟩:∃r,r=T++s.io.map λi=>(xs.map a.eval).getD i undef:=⟨_,rfl⟩;rw[<-V]at hres;refine hnxt _ _ ?_;obtain⟨l1,l2,bf,k1,k2,k3,_⟩:=BO.fn hres hnd';have hrl:rs.length=s.outs.length:=hlen;have hol:s.outs.length=s.qs.length+s.io.length:=by simp[Sg.outs]
  let Y:Nat->Value:=λn=>if AA<=n/\n<AA+rs.length then rvs.getD (n-AA) undef else vs n;let Bs':Nat->List Nat:=λn=>if AA<=n/\n<AA+rs.length then bf (n-AA)else Bs n;refine⟨Y,Bs',?_⟩;have G:∀j,j<rs.length->Y (AA+j)=rvs.getD j undef/\Bs' (AA+j)=bf j:=by
   intro j hj;have:AA<=AA+j/\AA+j<AA+rs.length:=by omega
   simp only[Y,Bs',if_pos this,Nat.add_sub_cancel_left,and_self]
  have N:∀f,f∈M9 AA s.outs++(match o.dst with|some t=>[Fact.sl t (Kx AA s.qs.length g)]|none=>[])->
    (∃j q,s.outs[j]?=some q/\f=.en (AA+j) q)\/∃t,o.dst=some t/\f=.sl t (Kx AA s.qs.length g):=by
   intro f I
   rcases Ac.1 I with I|I
   .exact .inl (AUC.1 I)
   .cases hd:o.dst with
    |none=>rw[hd]at I;simp at I
    |some t=>rw[hd]at I;simp at I;exact .inr ⟨t,rfl,I⟩
  suffices H1:BF c (next F o.dst ⟨[],ks,M9 AA s.outs++(match o.dst with|some t=>[Fact.sl t (Kx AA s.qs.length g)]|none=>[])⟩) E (a.put o.dst v) w' Y Bs' by
   refine H1.more ?_ ?_;intro n s';simp only[next,Ac,List.mem_map];constructor;rintro(q|q|⟨_,_,q⟩);exact .inl q;exact .inr q
   cases q;rintro(q|q);exact .inl q;exact .inr (.inl q);intro t l I;rcases I with⟨q1,q2⟩|q;exact .inl (.inl ⟨q1,q2⟩);rcases Ac.1 q with q|q;exact .inl (.inr q);obtain⟨⟨u,gu,n,j⟩,hu,q⟩:=List.mem_map.1 q;injection q with q1 q2;subst q1 q2;have hsl:F (.sl u (.is n gu)):=hnAll _ (BB _ (List.mem_map.2 ⟨_,hu,rfl⟩));obtain⟨i,hij,hAi,hud⟩:=AX9 hu;have hvn:=AJR hc H hg xs s.ps As ks rd ns M C i n hAi;have hnk:alive F n:=by have:=Aj.1 hio i (List.mem_of_getElem? hij);rw[hAi]at this;exact J n (by simpa[AKV]using this)
   refine .inr ⟨AA+s.qs.length+j,gu,n,rfl,.inl ⟨hsl,hud⟩,?_⟩;have hjl:j<s.io.length:=(List.getElem?_eq_some_iff.1 hij).1;have hn1:=(G (s.qs.length+j) (by omega)).1;rw[show AA+(s.qs.length+j)=AA+s.qs.length+j by omega]at hn1;rw[hn1,V,Ap,GK (by omega)];have hal:¬(AA<=n/\n<AA+rs.length):=by rintro⟨z1,z2⟩;have:=(R (n-AA) (by simp only[Pr.np];omega)).1;rw[show AA+(n-AA)=n from by omega]at this;obtain⟨r,hr⟩:=hnk;exact this r hr
   simp only[Y,if_neg hal];rw[show s.qs.length+j-T.length=j by omega,List.getElem?_map,hij];simp only[Option.map_some,Option.getD_some,Ap,List.getElem?_map];exact hvn
  refine BF.step (λn=>AA<=n/\n<AA+rs.length) (λn=>n∈ks) (·∈ks.flatMap Bs) o.dst H (λn C=>by simp only[Y,if_neg C]) (λn C=>by simp only[Bs',if_neg C])
   (λt l hl n C q=>by
    have:=(R (n-AA) (by simp only[Pr.np];omega)).2 t l hl
    rw[show AA+(n-AA)=n from by omega]at this
    exact this C)
   (λb L=>by
    obtain⟨n,C,L⟩:=List.mem_flatMap.1 L
    obtain⟨s,hs⟩:=J n C
    exact⟨n,s,hs,C,L⟩)
   hagr hos htape hout (λt U=>Du U) Hg put_defers ?_ ?_ ?_ ?_ ?_ ?_
  .rintro f (⟨h1,h2⟩|h)
   .left;refine⟨h1,?_⟩;cases f<;>exact h2
   .right;rcases N f h with⟨j,q,hj,rfl⟩|⟨t,U,rfl⟩
    .have:j<s.outs.length:=by
      rcases B7 j s.outs.length with q|q
      exact q
      rw[D7 q]at hj;simp at hj
     show AA<=AA+j/\AA+j<AA+rs.length
     omega
    .exact U.symm
  .rintro n r ⟨q1,q2⟩ I;rcases I with⟨h1,_⟩|h
   .have:=(R (n-AA) (by simp only[Pr.np];omega)).1 r;rw[show AA+(n-AA)=n from by omega]at this;exact(this h1).elim
   .rcases N _ h with⟨j,q,hj,he⟩|⟨t,_,he⟩
    .injection he with e1 e2;subst e1 e2;have hjl:j<rs.length:=by omega
     have hd:=hrs j (by omega);have hv:rvs[j]?=some (rvs.getD j undef):=by simp[Ap,show j<rvs.length from by omega]
     have:=k1 j r _ _ hj hd hv;rw[(G j hjl).1,(G j hjl).2];refine AE.Ff ?_ r _ _ _ (hok r (List.mem_of_getElem? hj)) (hc.fid▸this);intro b L hz;rcases hz with(⟨m,s2,z1,z2,z3⟩|⟨m,⟨z1,z1'⟩,z2⟩)|hz
     .refine .inr ⟨.inr ⟨m,s2,z1,z3⟩,?_⟩;intro hm;obtain⟨m2,hm2,W⟩:=List.mem_flatMap.1 hm;obtain⟨s3,hs3⟩:=J m2 hm2;exact H.apart m s2 m2 s3 z1 hs3 (λe=>z2 (e▸hm2)) b z3 W
     .left;have e:m=AA+(m-AA):=by omega
      rw[e,(G (m-AA) (by omega)).2]at z2;exact(k2 (m-AA) (by omega)).2 b z2
     .exact .inr ⟨.inl hz,hXk b hz⟩
    .simp at he
  .rintro n r ⟨q1,q2⟩ _;have e:n=AA+(n-AA):=by omega
   rw[e,(G (n-AA) (by omega)).2];exact(k2 (n-AA) (by omega)).1
  .rintro n r ⟨q1,q2⟩ _ b L;have e:n=AA+(n-AA):=by omega
   rw[e,(G (n-AA) (by omega)).2]at L;rcases hbl' b ((k2 (n-AA) (by omega)).2 b L)with h|h
   .left;obtain⟨m,hm,L⟩:=List.mem_flatMap.1 h;obtain⟨s2,hs2⟩:=J m hm;exact⟨m,s2,hs2,hm,L⟩
   .exact .inr h
  .rintro n r m q ⟨q1,q2⟩ ⟨q3,q4⟩ _ _ hne b L W;have e:n=AA+(n-AA):=by omega
   have e2:m=AA+(m-AA):=by omega
   rw[e,(G (n-AA) (by omega)).2]at L;rw[e2,(G (m-AA) (by omega)).2]at W;exact k3 (n-AA) (m-AA) (by omega) (by omega) (by omega) b L W
  .rintro t l U I;rcases I with⟨_,h2⟩|h
   .exact(h2 U).elim
   .rcases N _ h with⟨j,q,hj,he⟩|⟨t2,ht2,he⟩
    .simp at he
    .injection he with e1 e2;subst e1 e2;have hput:(a.put o.dst v).tmps[t]?=some v:=by rw[ht2];exact FY (by rw[H.size,hc.nt];rw[ht2]at hin;simpa[BW]using hin)
     by_cases h1:s.qs.length=1
     .rw[Kx,if_pos h1];refine⟨λ_=>?_,λq=>(q hg).elim⟩;rw[hput];have h2:T.length=1:=by omega
      match T,h2 with
      |[x],_=>
       have:=(G 0 (by omega)).1
       simp only[Nat.add_zero]at this
       rw[this,V]
       simp only[Ip]at htup
       simp[htup]
     .rw[Kx,if_neg h1];intro _;rw[hput];have h2:T.length≠1:=by omega
      have h3:v=.tuple T.toArray:=by
       match T,h2,htup with
       |[],_,h=>exact h
       |[x],h,_=>simp at h
       |_::_::_,_,h=>exact h
      rw[h3];congr 3;apply List.ext_getElem?;intro j;simp only[List.getElem?_map];rcases B7 j s.qs.length with hj|hj
      .rw[Wt (by omega)];simp only[Option.map_some];rw[(G j (by omega)).1,V];simp[Ap,DP (show j<T.length by omega),show j<T.length from by omega]
      .rw[D7 (by omega),D7 (by simp;omega)];rfl
 .simp at U
end
end Go.Cat
namespace Go.Cat
def FX(P:Program)(t:TypeId):Option (TypeId×TypeInfo):=
 match P.underlying t with
 |some (.slice e)=>match P.info? e with
  |some i=>if i.size=1 then some (e,i)else none
  |none=>none
 |_=>none
theorem Lk{P:Program}{t e:TypeId}{i:TypeInfo}(h:FX P t=some (e,i)):P.underlying t=some (.slice e)/\P.info? e=some i/\i.size=1:=by
 unfold FX at h;split at h;rename_i b he;split at h;rename_i I hi;split at h;rename_i s;simp only[AL,AJ]at h;obtain⟨rfl,rfl⟩:=h;exact⟨he,hi,s⟩
 cases h
 cases h
 cases h
def F8(P:Program)(t:TypeId):Bool:=
 (match P.underlying t with
 |some (.struct _)=>false
 |some (.array ..)=>false
 |some _=>true
 |none=>false)&&(match P.info? t with|some i=>i.size==1|none=>false)
theorem AV7{P:Program}{w:World}{t:TypeId}(h:F8 P t=true):(isAgg t).run P w=.ok false w:=by
 unfold F8 at h;simp only[AU]at h;obtain⟨h,_⟩:=h;unfold isAgg;split at h
 cases h
 cases h;rename_i d b e H;rw[Sem.run_bind,run_underlying H];simp only[Result.andThen];rfl
 cases h
theorem Qu{P:Program}{w:World}{t e:TypeId}{i:TypeInfo}(h:FX P t=some (e,i)){b off len cap:Nat}{k:IntKind}{n:Nat}(l:n<len):
  (Instr.indexAt t (.slice (some ⟨b,off,none⟩) len cap) (.int k (n:Int))).run P w=.ok (.pointer (some ⟨b,off+n,none⟩)) w:=by obtain⟨H,f,j⟩:=Lk h;simp[Instr.indexAt,run_underlying H,asIntOf,l,sizeOf,typeInfo,f,j,Addr.add_lit]
theorem RV{P:Program}{w:World}{t:TypeId}(h:F8 P t=true){b o:Nat}{cs:Array Value}{e:TypeId}{f:Nat×Nat}{v:Value}(H:w.heap[b]?=some (.cells cs e f))(j:cs[o]?=some v):
  (Instr.loadAt t (.pointer (some ⟨b,o,none⟩))).run P w=.ok v w:=by
 have i:w.cell? ⟨b,o,none⟩=some v:=by simp[World.cell?,H,j]
 simp[Instr.loadAt,Instr.sureAddr,loadVar,AV7 h,i,Result.andThen]
theorem AGN{P:Program}{w:World}{t:TypeId}(h:F8 P t=true){b o:Nat}{cs:Array Value}{e:TypeId}{v u:Value}(f:w.heap[b]?=some (.cells cs e (0,0)))(x:cs[o]?=some u)(j:v.oneCell'=true):
  (Instr.storeAt t (.pointer (some ⟨b,o,none⟩)) v).run P w=.ok () (w.setRow b (cs.setIfInBounds o v)):=by
 have k:w.cell? ⟨b,o,none⟩=some u:=by simp[World.cell?,f,x]
 have l:w.frozen? ⟨b,o,none⟩=false:=by simp[World.frozen?,f]
 have s:v.cells=#[v]:=by cases v<;>simp_all[Value.cells,Value.oneCell']
 unfold F8 at h;simp only[AU]at h;obtain⟨_,h⟩:=h;split at h
 .rename_i i hi;have q:i.size=1:=by simpa using h
  have H:=run_store P w ⟨b,o,none⟩ v .plain j;rw[k]at H;simp only[l]at H;simp[Instr.storeAt,Instr.sureAddr,storeVar,s,sizeOf,typeInfo,hi,q,storeCells,Addr.add_lit,Result.andThen];have:=H;simp at this;rw[this,setCell_eq_setRow w b o cs e (0,0) v f]
 .cases h
end Go.Cat
namespace Go.Cat
theorem BF.put{c:Cx}{F:Fact->Prop}{E:Nat->D}{a:Act}{w w':World}{vs:Nat->Value}{Bs:Nat->List Nat}(H:BF c F E a w vs Bs)
  {m:Nat} (V:Bh F m) {s:Sh} {v:Value} {B:List Nat} {dst:Option Nat} {ns:List Fact} (hd:BW dst c.nt=true) (kill:List Nat)
  (W:Ao (λb=>∃n s,F (.en n s)/\n∈kill/\b∈Bs n) w.heap w'.heap) (T:w'.os=w.os) (x:w'.tape=w.tape) (J:w'.output=w.output)
  (L:AE c.fid w'.heap (λb=>EE F Bs (λn=>n∈kill) b\/b∈B) c.Xb s (E m) v B) (R:B.Nodup)
  (Q:∀b∈B,(∃n r,F (.en n r)/\n∈kill/\b∈Bs n)\/w.heap.size<=b) {g:Gd} (Y:Am E g):
  BF c (next F dst ⟨ns,kill,one m s dst (.is m g)⟩) E (a.put dst v) w' (AQ vs m v) (AQ Bs m B):=by
 have j:∀f,f∈one m s dst (.is m g)->(f=.en m s)\/∃t,dst=some t/\f=.sl t (.is m g):=by
  intro f i;unfold one at i
  cases dst with
  |none=>simp at i;exact .inl i
  |some t=>simp at i;rcases i with i|i;exact .inl i;exact .inr ⟨t,rfl,i⟩
 refine BF.step (λn=>n=m) (λn=>n∈kill) (λb=>∃n s,F (.en n s)/\n∈kill/\b∈Bs n) dst H (λn I=>BX vs v I) (λn I=>BX Bs B I)
  (λt l hl n I e=>V.2 t l hl (e▸I)) (λ_ q=>q) W T x J
  (λt M=>Du M) Hg put_defers ?_ ?_ ?_ ?_ ?_ ?_
 .rintro f (⟨C,G⟩|h)
  .left;refine⟨C,?_⟩;cases f<;>exact G
  .right;rcases j f h with rfl|⟨t,M,rfl⟩
   .rfl
   .exact M.symm
 .rintro n r rfl i;rcases i with⟨C,_⟩|h
  .exact(V.1 r C).elim
  .rcases j _ h with h|⟨t,_,h⟩
   .injection h with _ h;subst h;rw[BD,BD];refine AE.ext (Ao.refl (λ_=>False) _) (λ_ _ q=>q.elim) (λb _ q=>?_) _ _ _ _ (λ_ _ q=>q) L;rcases q with q|⟨k,rfl,U⟩
    .exact .inl q
    .rw[BD]at U;exact .inr U
   .simp at h
 .rintro n r rfl _;rw[BD];exact R
 .rintro n r rfl _;rw[BD];exact Q
 .rintro n r k q rfl rfl _ _ h;exact(h rfl).elim
 .rintro t l' M i;rcases i with⟨_,G⟩|h
  .exact(G M).elim
  .rcases j _ h with h|⟨t',N,h⟩
   .simp at h
   .injection h with C G;subst C G;refine⟨λ_=>?_,λq=>(q Y).elim⟩;rw[BD,N];exact FY (by rw[H.size];simpa[BW,N]using hd)
theorem BF.slot{c:Cx}{F:Fact->Prop}{E:Nat->D}{a:Act}{w w':World}{vs:Nat->Value}{Bs:Nat->List Nat}(H:BF c F E a w vs Bs)
  {u:Value} {d:Nat} {ns:List Fact} {l:Loc} (I:w'.heap=w.heap/\w'.os=w.os/\w'.tape=w.tape/\w'.output=w.output)
  (j:GU w.heap E vs (OB F Bs) (alive F) (a.put (some d) u).tmps d l):
  BF c (next F (some d) ⟨ns,[],[.sl d l]⟩) E (a.put (some d) u) w' vs Bs:=by
 refine BF.step (λ_=>False) (λ_=>False) (λ_=>False) (some d) H (λ_ _=>rfl) (λ_ _=>rfl) (λ_ _ _ _ _ q=>q) (λ_ q=>q.elim) (by rw[I.1];exact Ao.refl _ _) I.2.1 I.2.2.1 I.2.2.2
  (λt U=>Du U) Hg put_defers ?_ (λ_ _ q=>q.elim) (λ_ _ q=>q.elim) (λ_ _ q=>q.elim) (λ_ _ _ _ q=>q.elim) ?_
 .rintro f (⟨R,Q⟩|h)
  .left;refine⟨R,?_⟩;cases f<;>simp at Q|-;exact Q
  .right;simp at h;subst h;rfl
 .intro t V U W;rcases W with⟨_,Q⟩|h
  .exact(Q U).elim
  .simp at h;obtain⟨rfl,rfl⟩:=h;have T:∀b,(EE F Bs (λ_=>False) b\/∃k,False/\b∈Bs k)->OB F Bs b:=λb q=>q.elim (λ⟨n,s,R,_,h3⟩=>⟨n,s,R,h3⟩) (by rintro⟨_,q,_⟩;exact q.elim);have x:∀n,alive (next F (some t) ⟨ns,[],[.sl t V]⟩) n->alive F n:=by rintro n ⟨s,h|h⟩;exact⟨s,h.1⟩;simp at h
   rw[I.1]
   cases V with
   |vc n g=>
    intro i
    obtain⟨b,o,cs,e,G,J,L,M,N⟩:=j i
    exact⟨b,o,cs,e,G,J,L,M,λq=>N (T b q)⟩
   |is n g=>exact j
   |tu n g=>exact j
   |ad r p m g=>exact λi C=>j i (x _ C)
   |ip r p m g=>exact λi C=>j i (x _ C)
   |aw r p g=>exact λi C=>j i (x _ C)
   |ia r m g=>exact λi C=>j i (x _ C)
   |bx n g=>
    intro i
    obtain⟨b,cs,e,G,J,L,M,N⟩:=j i
    exact⟨b,cs,e,G,J,L,M,λq=>N (T b q)⟩
   |ag r g=>exact λi C=>j i (x _ C)
   |lh n g=>exact j
   |sa n e g=>exact j
   |fv f ns g=>exact j
   |fb f ns g=>
    intro i
    obtain⟨b,cs,e,G,J,L,M,N⟩:=j i
    exact⟨b,cs,e,G,J,L,M,λq=>N (T b q)⟩
theorem Rd.elem{fid:Nat->Nat}{h:Array Obj}{Z:Nat->Prop}{xs:List D}{v:Value}{n:Nat}{d:D}(r:Rd fid h Z (.l xs) v)(x:xs[n]?=some d):
  ∃b off cap cs e f u,v=.slice (some ⟨b,off,none⟩) xs.length cap/\n<xs.length/\h[b]?=some (.cells cs e f)/\¬Z b/\cs[off+n]?=some u/\Rd fid h Z d u:=by
 simp only[Rd]at r;rcases r with⟨rfl,_⟩|⟨b,off,cap,cs,e,f,s,j,C,k,_⟩
 .simp at x
 .obtain⟨u,H,i⟩:=AP.get k x;rw[Ed]at H;have q:n<xs.length:=(List.getElem?_eq_some_iff.1 x).1;exact⟨b,off,cap,cs,e,f,u,s,q,j,C,H,i⟩
def Sh.under:Sh->Nat->Option Sh
 |s,0=>some s
 |.o s,n+1=>s.under n
 |.b s,n+1=>s.under n
 |_,_+1=>none
theorem Wk.Iu{fid:Nat->Nat}{h:Array Obj}{O X:Nat->Prop}:∀(is:List Nat)(s s':Sh)(d M:D)(v:Value)(B:List Nat),is≠[]->AE fid h O X s d v B->Ai is d=some M->s.under is.length=some s'->
  ∃b o x U,Wk h is v b o x/\AE fid h O X s' M x U/\(∀k∈U,k∈B)/\b∈B
 |[],_,_,_,_,_,_,W=>(W rfl).elim
 |i::is,s,s',d,M,v,B,_=>λr f j=>by
  cases s with
  |v=>simp[Sh.under]at j
  |y=>simp[Sh.under]at j
  |a s=>simp[Sh.under]at j
  |m=>simp[Sh.under]at j
  |b s=>
   simp only[AO,Sh.under]at j
   simp only[AE]at r
   obtain⟨xs,b,cs,e,N,U,rfl,rfl,T,Q,ht,hl,he⟩:=r
   simp only[Ai]at f
   cases l:xs[i]? with
   |none=>simp[l]at f
   |some V=>
    simp only[l,Option.bind_some]at f
    obtain⟨u,B1,L,H,R⟩:=AM.get he l
    rw[Array.getElem?_toList]at L
    by_cases J:is=[]
    .subst J
     simp only[Ai,AL]at f
     subst f
     simp only[Aa,Sh.under,AL]at j
     subst j
     exact⟨b,i,u,B1,⟨b,i,cs,e,N,u,.inr ⟨T,rfl⟩,Q,L,.inl ⟨rfl,rfl,rfl,rfl⟩⟩,R,λk I=>BL _ (H k I),by simp⟩
    .obtain⟨b2,o2,x2,B2,hw,Y,C,G⟩:=Wk.Iu is s s' V M u B1 J R f j
     refine⟨b2,o2,x2,B2,⟨b,i,cs,e,N,u,.inr ⟨T,rfl⟩,Q,L,.inr ⟨J,hw⟩⟩,Y,λk I=>BL _ (H k (C k I)),BL _ (H _ G)⟩
  |o s=>
   simp only[AO,Sh.under]at j
   simp only[AE]at r
   rcases r with⟨q|q,_⟩|⟨xs,rfl,r⟩
   .subst q;simp[Ai]at f
   .cases d<;>simp[Ai]at f<;>simp[D.flat]at q
   simp only[Ai]at f
   cases l:xs[i]? with
   |none=>simp[l]at f
   |some V=>
    simp only[l,Option.bind_some]at f
    have hi:i<xs.length:=(List.getElem?_eq_some_iff.1 l).1
    rcases r with⟨_,rfl,_⟩|⟨b,off,cap,cs,e,N,U,rfl,T,Q,ht,h1,h2,h3,he⟩
    .simp at l
    .obtain⟨u,B1,L,H,R⟩:=AM.get he l
     rw[Ed]at L
     by_cases J:is=[]
     .subst J
      simp only[Ai,AL]at f
      subst f
      simp only[Aa,Sh.under,AL]at j
      subst j
      exact⟨b,off+i,u,B1,⟨b,off+i,cs,e,N,u,.inl ⟨off,_,cap,T,hi,rfl⟩,Q,L,.inl ⟨rfl,rfl,rfl,rfl⟩⟩,R,λk I=>BL _ (H k I),by simp⟩
     .obtain⟨b2,o2,x2,B2,hw,Y,C,G⟩:=Wk.Iu is s s' V M u B1 J R f j
      refine⟨b2,o2,x2,B2,⟨b,off+i,cs,e,N,u,.inl ⟨off,_,cap,T,hi,rfl⟩,Q,L,.inr ⟨J,hw⟩⟩,Y,λk I=>BL _ (H k (C k I)),BL _ (H _ G)⟩
theorem Wk.cell{h:Array Obj}:∀(is:List Nat){v:Value}{b o:Nat}{x:Value},Wk h is v b o x->∃cs e f,h[b]?=some (.cells cs e f)/\cs[o]?=some x
 |[],_,_,_,_,k=>by simp[Wk]at k
 |i::is,v,b,o,x,k=>by simp only[Wk]at k;obtain⟨l,o',cs,e,f,y,q,H,j,k⟩:=k;rcases k with⟨_,rfl,rfl,rfl⟩|⟨_,k⟩;exact⟨cs,e,f,H,j⟩;exact Wk.cell is k
theorem Wk.snoc{h:Array Obj}:∀(is:List Nat){v:Value}{b o:Nat}{x:Value}{i b2 f:Nat}{y:Value},is≠[]->Wk h is v b o x->Wk h [i] x b2 f y->Wk h (is++[i]) v b2 f y
 |[],_,_,_,_,_,_,_,_,G,_,_=>(G rfl).elim
 |j::is,v,b,o,x,i,b2,f,y,_,k,l=>by simp only[List.cons_append,Wk]at k|-;obtain⟨q,o',cs,e,s,z,I,C,J,k⟩:=k;refine⟨q,o',cs,e,s,z,I,C,J,.inr ⟨by simp,?_⟩⟩;rcases k with⟨rfl,rfl,rfl,rfl⟩|⟨H,k⟩;simpa using l;exact Wk.snoc is H k l
theorem VH:∀(is j:List Nat)(d:D),Ai (is++j) d=(Ai is d).bind (Ai j)
 |[],j,d=>by simp[Ai]
 |i::is,j,d=>by
  cases d with
  |l xs=>
   simp only[List.cons_append,Ai]
   cases hx:xs[i]? with
   |none=>simp
   |some b=>simp[VH is j b]
  |g xs=>
   simp only[List.cons_append,Ai]
   cases hx:xs[i]? with
   |none=>simp
   |some b=>simp[VH is j b]
  |_=>simp[Ai]
end Go.Cat
namespace Go.Cat
section
variable(cf:CF)(st:List Fact)(AA:Nat)(o:Oper)(g:Gd)
def AQC(P:Program)(t:TypeId):Bool:=match P.underlying t with
 |some (.slice e)=>match P.underlying e with
  |some (.int _)=>true
  |some .bool=>true
  |some .string=>true
  |_=>false
 |_=>false
def W5:A->Option PE
 |.e n=>some (.e n)
 |.c (.i _ k)=>if 0<=k then some (.k k.toNat)else none
 |_=>none
def aliasOf(st:List Fact)(n:Nat):Option (Nat×Nat×Sh):=st.findSome? λf=>match f with
 |.sl u (.is N [])=>if N=n then(match Bm st u with
  |some (.is m [])=>(CB st m).map λs=>(u,m,s)
  |_=>none)else none
 |_=>none
def rootOf(x:Operand):Option (Nat×List PE×Sh×List Fact):=
 match x with
 |.tmp t=>match Bm st t with
  |some (.is n G)=>if G.isPrefixOf g then(match CB st n with
   |some s=>some (n,[],s,[.sl t (.is n G),.en n s])
   |none=>(aliasOf st n).map λx=>(x.2.1,[],x.2.2,[.sl t (.is n G),.sl x.1 (.is n []),.sl x.1 (.is x.2.1 []),.en x.2.1 x.2.2]))else none
  |some (.ip r p m G)=>if G.isPrefixOf g then(CB st r).map λs=>(r,p,s,[.sl t (.ip r p m G),.en r s])else none
  |_=>none
 |_=>none
def V6(t:TypeId)(x i:Operand):Option (Pr×Sm):=
 match o.dst with
 |none=>none
 |some d=>if d<cf.nt/\(FX cf.P t).isSome then
   (rootOf st g x).bind λr=>(A5 cf st g i).bind λa=>
    match r.2.2.1.under r.2.1.length with
    |some .v=>if r.2.1=[]then some (.ix (.e r.1) [] a.1,⟨r.2.2.2++a.2.2,[],one AA .v (some d) (.vc AA g)⟩)else none
    |some .y=>if r.2.1=[]then
      if AQC cf.P t=true then some (.iy (.e r.1) a.1,⟨r.2.2.2++a.2.2,[],one AA .v (some d) (.vc AA g)⟩)
      else some (.ix (.e r.1) [] a.1,⟨r.2.2.2++a.2.2,[],one AA .y (some d) (.vc AA g)⟩)
     else none
    |some (.o e)=>(W5 a.1).map λf=>(.ix (.e r.1) r.2.1 a.1,⟨r.2.2.2++a.2.2,[],if e=.v then one AA .v (some d) (.ad r.1 (r.2.1++[f]) AA g)else [.sl d (.ad r.1 (r.2.1++[f]) AA g)]⟩)
    |some (.b _)|some (.a _)|some .m|none=>none
  else none
def SG(t:TypeId)(x:Operand):Option (Pr×Sm):=
 match x,o.dst with
 |.tmp s,some d=>if d<cf.nt/\F8 cf.P t=true then(Bm st s).bind λl=>match l with
  |.vc n G=>if G.isPrefixOf g then some (.nop,⟨[.sl s (.vc n G)],[],[.sl d (.is n g)]⟩)else none
  |.ad r p m G=>if G.isPrefixOf g then(CB st r).map λb=>(.nop,⟨[.sl s (.ad r p m G),.en r b],[],[.sl d (match CB st m with|some _=>.is m g|none=>.ip r p m g)]⟩)else none
  |.is _ _|.ip _ _ _ _|.tu _ _|.aw _ _ _|.ia _ _ _|.bx _ _|.fv _ _ _|.fb _ _ _|.ag _ _|.lh _ _|.sa _ _ _=>none
  else none
 |_,_=>none
end
theorem JV{E:Nat->D}:∀{p:List PE}{is:List Nat},EB E p=some is->is.length=p.length
 |[],is,h=>by simp[EB]at h;subst h;rfl
 |x::p,is,h=>by simp only[EB,List.mapM_cons,Option.bind_eq_bind,AS,Option.pure_def,AL]at h;obtain⟨i,_,j,H,rfl⟩:=h;have:=JV (E:=E) (p:=p) (is:=j) H;simp[this]
theorem AEO{E:Nat->D}{e:PE}{j:Nat}(H:e.ev E=some j):∀{p:List PE}{is:List Nat},EB E p=some is->EB E (p++[e])=some (is++[j])
 |[],is,h=>by simp[EB]at h;subst h;simp[EB,H]
 |x::p,is,h=>by simp only[EB,List.mapM_cons,Option.bind_eq_bind,AS,Option.pure_def,AL]at h;obtain⟨i,b,s,f,rfl⟩:=h;have:=AEO H (p:=p) (is:=s) f;simp only[EB]at this;simp[EB,b,this]
theorem Wk.KA{h:Array Obj}:∀(is:List Nat){v:Value}{b o l o':Nat}{x G:Value},Wk h is v b o x->Wk h is v l o' G->b=l/\o=o'/\x=G
 |[],_,_,_,_,_,_,_,k,_=>by simp[Wk]at k
 |i::is,v,b,o,l,o',x,G,k,j=>by simp only[Wk]at k j;obtain⟨b1,U,cs,e,T,y,N,L,Q,k⟩:=k;obtain⟨b2,V,I,R,J,Y,C,H,f,j⟩:=j;obtain⟨rfl,rfl⟩:=N.KA C;rw[L]at H;injection H with H;injection H with M _ _;subst M;rw[Q]at f;injection f with f;subst f;rcases k with⟨q,rfl,rfl,rfl⟩|⟨q,k⟩;rcases j with⟨_,rfl,rfl,rfl⟩|⟨s,_⟩;exact⟨rfl,rfl,rfl⟩;exact(s q).elim;rcases j with⟨s,_⟩|⟨_,j⟩;exact(q s).elim;exact Wk.KA is k j
section
variable{cf:CF}{c:Cx}{F:Fact->Prop}{E:Nat->D}{a:Act}{w:World}{vs:Nat->Value}{Bs:Nat->List Nat}{AA:Nat}{g:Gd}{sm:Sm}{st:List Fact}{o:Oper}{p:Pr}
 {K:Nat->List D->List D->Prop}
theorem JD{E:Nat->D}{g G:Gd}(h:G.isPrefixOf g=true)(H:Am E g):Am E G:=λx b=>H x ((List.isPrefixOf_iff_prefix.1 h).subset b)
theorem Rf{x:Operand}{n:Nat}{q:List PE}{s s':Sh}{ns:List Fact}(e:rootOf st g x=some (n,q,s,ns))(h:At cf c F E a w vs Bs AA g p sm)(k:∀f∈ns,f∈sm.needs)
  (C:s.under q.length=some s'):
  F (.en n s)/\∃is d,EB E q=some is/\Ai is (E n)=some d/\(∃B,AE c.fid w.heap (OB F Bs) c.Xb s' d (a.eval x) B/\∀b∈B,b∈Bs n)/\
   ((is=[]/\a.eval x=vs n/\d=E n)\/(is≠[]/\∃b o,Wk w.heap is (vs n) b o (a.eval x))):=by
 unfold rootOf at e;split at e
 .rename_i t;split at e
  .rename_i N I Y;split at e
   .rename_i j;split at e
    .rename_i s1 L;simp only[AL,AJ]at e;obtain⟨rfl,rfl,rfl,rfl⟩:=e;have J:=(h.H.loc t _ (h.needs _ (k (.sl t (.is N I)) (by simp)))).1 (JD j h.g);have i:=h.needs _ (k (.en N s1) (by simp));have l:a.eval (.tmp t)=vs N:=by simp[Act.eval,CX,J]
     simp only[Aa,Sh.under,AL]at C;subst C;refine⟨i,[],E N,rfl,rfl,⟨Bs N,?_,λ_ q=>q⟩,.inl ⟨rfl,l,rfl⟩⟩;rw[l];exact h.H.own N s1 i
    .simp only[Ae,AJ]at e;obtain⟨⟨u,m,s1⟩,_,rfl,rfl,rfl,rfl⟩:=e;simp only at k C|-;have J:=(h.H.loc t _ (h.needs _ (k (.sl t (.is N I)) (by simp)))).1 (JD j h.g);have V:=(h.H.loc u _ (h.needs _ (k (.sl u (.is N [])) (by simp)))).1 (by simp[Am]);have Q:=(h.H.loc u _ (h.needs _ (k (.sl u (.is m [])) (by simp)))).1 (by simp[Am]);have i:=h.needs _ (k (.en m s1) (by simp));have W:vs N=vs m:=by rw[V]at Q;injection Q
     have l:a.eval (.tmp t)=vs m:=by rw[<-W];simp[Act.eval,CX,J]
     simp only[Aa,Sh.under,AL]at C;subst C;refine⟨i,[],E m,rfl,rfl,⟨Bs m,?_,λ_ q=>q⟩,.inl ⟨rfl,l,rfl⟩⟩;rw[l];exact h.H.own m s1 i
   .cases e
  .rename_i r q' m I Y;split at e
   .rename_i j;simp only[Ae,AJ]at e;obtain⟨s1,L,rfl,rfl,rfl,rfl⟩:=e;have i:=h.needs _ (k (.en r s1) (by simp));obtain⟨is,b,o',d,R,T,M,k4⟩:=h.H.loc t _ (h.needs _ (k (.sl t (.ip r q' m I)) (by simp))) (JD j h.g) ⟨s1,i⟩;have l:a.eval (.tmp t)=vs m:=by simp[Act.eval,CX,k4]
    have G:is≠[]:=by rintro rfl;simp[Wk]at M
    obtain⟨b2,o2,x2,B2,w1,w2,w3,_⟩:=Wk.Iu is s1 s' (E r) d (vs r) (Bs r) G (h.H.own r s1 i) T (by rw[JV R];exact C);obtain⟨_,_,U⟩:=Wk.KA is M w1;refine⟨i,is,d,R,T,⟨B2,?_,w3⟩,.inr ⟨G,b,o',?_⟩⟩
    .rw[l,U];exact w2
    .rw[l];exact M
   .cases e
  .cases e
 .cases e
theorem BF.Nk{w':World}(H:BF c F E a w vs Bs)
  {m:Nat} (Y:Bh F m) {v u:Value} {d:Nat} {ns:List Fact} {l:Loc} (hd:d<c.nt)
  (J:w'.heap=w.heap/\w'.os=w.os/\w'.tape=w.tape/\w'.output=w.output)
  (V:∀tm:Array Value,tm[d]?=some u->GU w.heap E (AQ vs m v) (OB F Bs) (alive F) tm d l):
  BF c (next F (some d) ⟨ns,[],[.sl d l]⟩) E (a.put (some d) u) w' (AQ vs m v) (AQ Bs m []):=by
 refine BF.step (λn=>n=m) (λ_=>False) (λ_=>False) (some d) H (λn I=>BX vs v I) (λn I=>BX Bs [] I)
  (λt l V n I e=>Y.2 t l V (e▸I)) (λ_ q=>q.elim) (by rw[J.1];exact Ao.refl _ _) J.2.1 J.2.2.1 J.2.2.2
  (λt W=>Du W) Hg put_defers ?_ ?_ ?_ ?_ ?_ ?_
 .rintro f (⟨G,R⟩|h)
  .left;refine⟨G,?_⟩;cases f<;>simp at R|-;exact R
  .right;simp at h;subst h;rfl
 .rintro n r rfl U;rcases U with⟨G,_⟩|h
  .exact(Y.1 r G).elim
  .simp at h
 .rintro n r rfl _;rw[BD];exact List.nodup_nil
 .rintro n r rfl _;rw[BD];simp
 .rintro n r k q rfl rfl _ _ h;exact(h rfl).elim
 .intro t l' W U;rcases U with⟨_,R⟩|h
  .exact(R W).elim
  .simp at h;obtain⟨rfl,rfl⟩:=h;have:=V (a.put (some t) u).tmps (FY (by rw[H.size];exact hd));have T:∀b,(EE F Bs (λ_=>False) b\/∃k,k=m/\b∈AQ Bs m [] k)->OB F Bs b:=λb q=>q.elim (λ⟨n,s,G,_,h3⟩=>⟨n,s,G,h3⟩) (by rintro⟨k,rfl,hk⟩;simp[BD]at hk);have j:∀n,alive (next F (some t) ⟨ns,[],[.sl t l']⟩) n->alive F n:=by rintro n ⟨s,h|h⟩;exact⟨s,h.1⟩;simp at h
   rw[J.1]
   cases l' with
   |vc n g=>
    intro i
    obtain⟨b,o,cs,e,C,L,M,N,Q⟩:=this i
    exact⟨b,o,cs,e,C,L,M,N,λq=>Q (T b q)⟩
   |is n g=>exact this
   |tu n g=>exact this
   |ad r p m g=>exact λi x=>this i (j _ x)
   |ip r p m g=>exact λi x=>this i (j _ x)
   |aw r p g=>exact λi x=>this i (j _ x)
   |ia r m g=>exact λi x=>this i (j _ x)
   |bx n g=>
    intro i
    obtain⟨b,cs,e,C,L,M,N,Q⟩:=this i
    exact⟨b,cs,e,C,L,M,N,λq=>Q (T b q)⟩
   |ag r g=>exact λi x=>this i (j _ x)
   |lh n g=>exact this
   |sa n e g=>exact this
   |fv f ns g=>exact this
   |fb f ns g=>
    intro i
    obtain⟨b,cs,e,C,L,M,N,Q⟩:=this i
    exact⟨b,cs,e,C,L,M,N,λq=>Q (T b q)⟩
theorem Qy{d i x:D}(h:Dr d i=some x):∃xs k n,d=.l xs/\i=.i k (n:Nat)/\xs[n]?=some x:=by
 unfold Dr at h;split at h;rename_i xs k n;split at h;rename_i h0;obtain⟨m,rfl⟩:=CZ h0;simp only[BM,AS]at h;obtain⟨y,b,H⟩:=h;unfold known at H;split at H
 cases H
 cases H;exact⟨xs,k,m,rfl,rfl,b⟩
 cases h
 cases h
theorem AYU{α:A}{e:PE}{k:IntKind}{n:Nat}(h:W5 α=some e)(he:ev E α=.i k (n:Nat)):e.ev E=some n:=by
 unfold W5 at h;split at h;injection h with h;subst h;simp only[ev]at he;simp[PE.ev,he];rename_i b z;split at h;injection h with h;subst h;simp only[ev]at he;injection he with _ he;simp[PE.ev,he]
 cases h
 cases h
end
end Go.Cat
namespace Go.Cat
section
variable{cf:CF}{c:Cx}{F:Fact->Prop}{E:Nat->D}{a:Act}{w:World}{vs:Nat->Value}{Bs:Nat->List Nat}{AA:Nat}{g:Gd}{sm:Sm}{st:List Fact}{o:Oper}{p:Pr}
 {K:Nat->List D->List D->Prop}
theorem QE{t:TypeId}{x i:Operand}(H:o.op=.indexAddr t x i){v:Value}(h:(Instr.indexAt t (a.eval x) (a.eval i)).run c.P w=.ok v w):(execOp a.eval o).run c.P w=.ok (.value v) w:=by simp only[execOp,H];exact C9 h
theorem AIX{d:Nat}(hd:o.dst=some d){s:Sh}(N:s=.v\/s=.y){n:Nat}{ia:A}{ns:List Fact}{t e:TypeId}{ti:TypeInfo}{x i:Operand}
  (h:At cf c F E a w vs Bs AA g (.ix (.e n) [] ia) ⟨ns,[],one AA s (some d) (.vc AA g)⟩) (L:d<cf.nt) (ho:o.op=.indexAddr t x i) (he:FX cf.P t=some (e,ti))
  {B T:List Nat} (I:AE c.fid w.heap (OB F Bs) c.Xb s (E n) (a.eval x) B) {si:Sh} (hi:AE c.fid w.heap (OB F Bs) c.Xb si (ev E ia) (a.eval i) T) (hE:Aw K E AA (.ix (.e n) [] ia)):
  AV c o ⟨ns,[],one AA s (some d) (.vc AA g)⟩ F E a w:=by
 have J:Dr (E n) (ev E ia)=some (E AA):=by simpa[Aw,AW,EM,Ai,ev]using hE
 obtain⟨xs,k,j,W,Y,h3⟩:=Qy J;rw[W]at I;rw[Y]at hi;have M:=hi.int;obtain⟨Z,hZ,R⟩:∃Z:Nat->Prop,(∀b,OB F Bs b->Z b)/\Rd c.fid w.heap Z (.l xs) (a.eval x)/\(∀u,Rd c.fid w.heap Z (E AA) u->AE c.fid w.heap (OB F Bs) c.Xb s (E AA) u []):=by
  rcases N with rfl|rfl;simp only[AE]at I;exact⟨_,λb q=>.inl q,I.2,λu G=>by simp only[AE];exact⟨trivial,G⟩⟩
  simp only[AE]at I;exact⟨_,λb q=>q,I.2,λu G=>by simp only[AE];exact⟨trivial,G⟩⟩
 obtain⟨b,off,cap,cs,U,V,u,hv,hn,hb,hz,hc,G⟩:=R.1.elem h3;have hP:c.P=cf.P:=h.fits.P;have C:(execOp a.eval o).run c.P w=.ok (.value (.pointer (some ⟨b,off+j,none⟩))) w:=by refine QE ho ?_;rw[hv,M];exact Qu (by rw[hP];exact he) hn
 refine AV.B6 C ⟨AQ vs AA u,AQ Bs AA [],?_⟩;rw[hd];refine h.H.leaf (s:=s) (v:=u) (by simpa using h.fresh 0 (by simp[Pr.np])) (by rw[h.fits.nt];simpa[BW]using L) (CS w) (R.2 u G) [] ?_;intro tm Q t' f hg;injection f with f;subst f;refine⟨b,off+j,cs,U,V,Q d rfl,hb,?_,λq=>hz (hZ b q)⟩;rw[BD];exact hc
theorem AQH{d:Nat}(hd:o.dst=some d){n:Nat}{ia:A}{ns:List Fact}{t e:TypeId}{ti:TypeInfo}{x i:Operand}
  (h:At cf c F E a w vs Bs AA g (.iy (.e n) ia) ⟨ns,[],one AA .v (some d) (.vc AA g)⟩) (M:d<cf.nt) (ho:o.op=.indexAddr t x i) (he:FX cf.P t=some (e,ti))
  {B T:List Nat} (R:AE c.fid w.heap (OB F Bs) c.Xb .y (E n) (a.eval x) B) {si:Sh} (hi:AE c.fid w.heap (OB F Bs) c.Xb si (ev E ia) (a.eval i) T) (hE:Aw K E AA (.iy (.e n) ia)):
  AV c o ⟨ns,[],one AA .v (some d) (.vc AA g)⟩ F E a w:=by
 have J:(Dr (E n) (ev E ia)).bind GD=some (E AA):=by simpa[Aw,AW,ev]using hE
 obtain⟨y,L,f⟩:=AS.1 J;have l:y.flat=true/\y=E AA:=by
  unfold GD at f;split at f;rename_i q;injection f with f;exact⟨q,f⟩
  cases f
 obtain⟨l,rfl⟩:=l;have I:Dr (E n) (ev E ia)=some (E AA):=L;obtain⟨xs,k,j,W,Y,h3⟩:=Qy I;rw[W]at R;rw[Y]at hi;have N:=hi.int;simp only[AE]at R;have hr:=R.2;obtain⟨b,off,cap,cs,U,V,u,hv,hn,hb,hz,hc,hu⟩:=hr.elem h3;have hP:c.P=cf.P:=h.fits.P;have G:(execOp a.eval o).run c.P w=.ok (.value (.pointer (some ⟨b,off+j,none⟩))) w:=by refine QE ho ?_;rw[hv,N];exact Qu (by rw[hP];exact he) hn
 refine AV.B6 G ⟨AQ vs AA u,AQ Bs AA [],?_⟩;rw[hd];refine h.H.leaf (s:=.v) (v:=u) (by simpa using h.fresh 0 (by simp[Pr.np])) (by rw[h.fits.nt];simpa[BW]using M) (CS w) (by simp only[AE];exact⟨trivial,Rd.flat l hu⟩) [] ?_;intro tm Q t' C hg;injection C with C;subst C;refine⟨b,off+j,cs,U,V,Q d rfl,hb,?_,λq=>hz q⟩;rw[BD];exact hc
theorem AOX{t:TypeId}{x i:Operand}(ho:o.op=.indexAddr t x i)(C:V6 cf st AA o g t x i=some (p,sm))(h:At cf c F E a w vs Bs AA g p sm)(hE:Aw K E AA p):AV c o sm F E a w:=by
 unfold V6 at C;split at C
 cases C;rename_i d hd;split at C
 .rename_i hd2;obtain⟨L,I⟩:=hd2;obtain⟨⟨e,ti⟩,I⟩:=Option.isSome_iff_exists.1 I;simp only[AS]at C;obtain⟨⟨n,q,s,ns⟩,G,⟨ia,si,ins⟩,Y,C⟩:=C;simp only at C;split at C;rename_i hs;split at C;rename_i hq;subst hq;simp only[AL,AJ]at C;obtain⟨rfl,rfl⟩:=C;obtain⟨_,is,d1,k1,k2,⟨B,T,_⟩,k4⟩:=Rf G h (λf M=>BN _ M) hs;have his:is=[]:=by simpa[EB]using k1.symm
  subst his;obtain⟨Bi,hi,_⟩:=h.A5 Y (λf M=>BB _ M);have U:d1=E n:=by simpa[Ai]using k2.symm
  subst U;exact AIX hd (.inl rfl) h L ho I T hi hE
  cases C
  .rename_i hs;split at C
   .rename_i hq;subst hq;split at C
    all_goals
     simp only[AL,AJ]at C
     obtain⟨rfl,rfl⟩:=C
     obtain⟨_,is,d1,k1,k2,⟨B,T,_⟩,k4⟩:=Rf G h (λf M=>BN _ M) hs
     have his:is=[]:=by simpa[EB]using k1.symm
     subst his
     obtain⟨Bi,hi,_⟩:=h.A5 Y (λf M=>BB _ M)
     have U:d1=E n:=by simpa[Ai]using k2.symm
     subst U
    exact AQH hd h L ho I T hi hE;exact AIX hd (.inr rfl) h L ho I T hi hE
   cases C
  rename_i es hs;simp only[Ae,AJ]at C;obtain⟨pe,hpe,rfl,rfl⟩:=C;obtain⟨hF,is,d1,k1,k2,⟨B,T,hBn⟩,k4⟩:=Rf G h (λf M=>BN _ M) hs;obtain⟨Bi,hi,_⟩:=h.A5 Y (λf M=>BB _ M);have hE':Dr d1 (ev E ia)=some (E AA):=by have hm:q.mapM (PE.ev E)=some is:=k1;simpa[Aw,AW,EM,hm,ev,k2]using hE
  obtain⟨xs,k,j,e1,e2,e3⟩:=Qy hE';subst e1;rw[e2]at hi;have hiv:=hi.int;have hg1:Ai [j] (.l xs)=some (E AA):=by simp[Ai,e3]
  obtain⟨b,o',y,B',w1,w2,w3,_⟩:=Wk.Iu [j] (.o es) es _ _ _ B (by simp) T hg1 (by simp[Sh.under]);have J:=w1;simp only[Wk]at J;obtain⟨b',o1,cs,e',fz,y',hst,hb,hy,hh⟩:=J;rcases hh with⟨_,rfl,rfl,rfl⟩|⟨hne,_⟩;obtain⟨off,len,cap,hv,hjl,rfl⟩:∃off len cap,a.eval x=.slice (some ⟨b,off,none⟩) len cap/\j<len/\o'=off+j:=by rcases hst with q|⟨q,_⟩;exact q;obtain⟨_,_,ql,_⟩:=T.len;rw[q]at ql;cases ql
  have hP:c.P=cf.P:=h.fits.P;have R:(execOp a.eval o).run c.P w=.ok (.value (.pointer (some ⟨b,off+j,none⟩))) w:=by refine QE ho ?_;rw[hv,hiv];exact Qu (by rw[hP];exact I) hjl
  have W:Bh F AA:=by simpa using h.fresh 0 (by simp[Pr.np])
  have hnc:n≠AA:=by rintro rfl;exact W.1 _ hF
  have Q:∀(tm:Array Value)(al:Nat->Prop),tm[d]?=some (.pointer (some ⟨b,off+j,none⟩))->GU w.heap E (AQ vs AA y) (OB F Bs) al tm d (.ad n (q++[pe]) AA g):=by intro tm al N _ _;refine⟨is++[j],b,off+j,E AA,AEO (AYU hpe e2) k1,?_,?_,N⟩;rw[VH,k2];simpa using hg1;rw[BD,BX vs y hnc];rcases k4 with⟨rfl,hv0,_⟩|⟨hne,b0,o0,k4⟩;rw[<-hv0];simpa using w1;exact Wk.snoc is hne k4 w1
  split;rename_i V;subst V;rw[if_pos rfl]at h;simp only[AE]at w2;refine AV.B6 R ⟨AQ vs AA y,AQ Bs AA [],?_⟩;rw[hd];refine h.H.leaf (s:=.v) (v:=y) W (by rw[h.fits.nt];simpa[BW]using L) (CS w) (by simp only[AE];exact⟨trivial,w2.2⟩) [] ?_;intro tm N t' ht';injection ht' with ht';subst ht';exact Q tm _ (N d rfl);rename_i V;rw[if_neg V]at h;refine AV.B6 R ⟨AQ vs AA y,AQ Bs AA [],?_⟩;rw[hd];exact h.H.Nk W (by rw[h.fits.nt];exact L) (CS w) λtm N=>Q tm _ N;exact(hne rfl).elim
  cases C
  cases C
  cases C
  cases C
 cases C
theorem Iy{t:TypeId}{x:Operand}(H:o.op=.load t x){v:Value}(h:(Instr.loadAt t (a.eval x)).run c.P w=.ok v w):(execOp a.eval o).run c.P w=.ok (.value v) w:=by simp only[execOp,H];exact C9 h
theorem ARN{t:TypeId}{x:Operand}(U:o.op=.load t x)(f:SG cf st o g t x=some (p,sm))(h:At cf c F E a w vs Bs AA g p sm):AV c o sm F E a w:=by
 unfold SG at f;split at f;rename_i s d hd;split at f;rename_i M;obtain⟨N,G⟩:=M;have T:c.P=cf.P:=h.fits.P;have i:∀v:Value,(a.put (some d) v).tmps[d]?=some v:=λv=>FY (by rw[h.H.size,h.fits.nt];exact N);simp only[AS]at f;obtain⟨l,hl,f⟩:=f
 cases l with
 |vc n J=>
  simp only at f
  split at f
  .rename_i C
   simp only[AL,AJ]at f
   obtain⟨rfl,rfl⟩:=f
   obtain⟨b,o',cs,e,Y,Q,R,I,_⟩:=h.H.loc s (.vc n J) (h.needs _ (by simp)) (JD C h.g)
   have k:a.eval (.tmp s)=.pointer (some ⟨b,o',none⟩):=by simp[Act.eval,CX,Q]
   have j:(execOp a.eval o).run c.P w=.ok (.value (vs n)) w:=by
    refine Iy U ?_
    rw[k]
    exact RV (by rw[T];exact G) R I
   refine AV.B6 j ⟨vs,Bs,?_⟩
   rw[hd]
   exact h.H.slot (CS w) ⟨λ_=>i _,λq=>(q h.g).elim⟩
  .cases f
 |ad r q m J=>
  simp only at f
  split at f
  .rename_i C
   simp only[Ae,AJ]at f
   obtain⟨sr,hsr,rfl,rfl⟩:=f
   have L:alive F r:=⟨sr,h.needs _ (by simp)⟩
   obtain⟨is,b,o',W,Q,R,I,k4⟩:=h.H.loc s (.ad r q m J) (h.needs _ (by simp)) (JD C h.g) L
   have k:a.eval (.tmp s)=.pointer (some ⟨b,o',none⟩):=by simp[Act.eval,CX,k4]
   obtain⟨cs,e,Y,V,c2⟩:=I.cell
   have j:(execOp a.eval o).run c.P w=.ok (.value (vs m)) w:=by
    refine Iy U ?_
    rw[k]
    exact RV (by rw[T];exact G) V c2
   refine AV.B6 j ⟨vs,Bs,?_⟩
   rw[hd]
   refine h.H.slot (CS w) ?_
   split
   .exact⟨λ_=>i _,λq=>(q h.g).elim⟩
   .exact λ_ _=>⟨is,b,o',W,Q,R,I,i _⟩
  .cases f
 |is _ _=>cases f
 |ip _ _ _ _=>cases f
 |tu _ _=>cases f
 |aw _ _ _=>cases f
 |ia _ _ _=>cases f
 |bx _ _=>cases f
 |fv _ _ _=>cases f
 |fb _ _ _=>cases f
 |ag _ _=>cases f
 |lh _ _=>cases f
 |sa _ _ _=>cases f
 cases f
 cases f
end
end Go.Cat
namespace Go.Cat
section
variable(cf:CF)(st:List Fact)(AA:Nat)(o:Oper)(g:Gd)
def Lz(es:Sh)(x:Operand):Option (A×List Nat×List Fact):=
 (A5 cf st g x).bind λa=>
  if es=.v then
   if a.2.1=.v then some (a.1,[],a.2.2)
   else if a.2.1=.o .v then match a.1 with
    |.e n=>if g=[]then some (a.1,[n],a.2.2)else none
    |.c _=>none
   else none
  else match a.1 with
   |.e n=>if a.2.1=es/\es≠.y/\g=[]then some (a.1,[n],a.2.2)else none
   |.c (.l [])=>(match es with|.o _=>some (.c (.l []),[],[])|_=>none)
   |.c _=>none
def IG(k:Nat):Sh:=match k with
 |2=>.o .v
 |3=>.o (.o .v)
 |_=>.v
def H9:D->Bool
 |.l []=>true
 |_=>false
def U6(k:Nat)(t:TypeId)(l c:Operand):Option (Pr×Sm):=
 match FX cf.P t with
 |some (_,i)=>match i.zero with
  |some z=>(Dp z).bind λd=>if i.bytes<=128/\z.oneCell'=true/\BW o.dst cf.nt=true/\(IG k=.v\/H9 d=true)then
    (A5 cf st g l).bind λa=>(A5 cf st g c).bind λb=>some (.mk d a.1 b.1,⟨a.2.2++b.2.2,[],one AA (.o (IG k)) o.dst (.is AA g)⟩)
   else none
  |none=>none
 |none=>none
def I2(es:Sh):List Operand->Option (List A×List Nat×List Fact)
 |[]=>some ([],[],[])
 |x::xs=>(Lz cf st g es x).bind λa=>(I2 es xs).map λr=>(a.1::r.1,a.2.1++r.2.1,a.2.2++r.2.2)
def Vs(k:Nat)(t:TypeId)(len:Nat)(ps:Array (Nat×Operand)):Option (Pr×Sm):=
 match FX cf.P t with
 |some (_,i)=>if i.zero.isSome/\len<=4096/\ps.toList.map (·.1)=List.range len/\BW o.dst cf.nt=true then
   (I2 cf st g (IG k) (ps.toList.map (·.2))).bind λr=>if r.2.1.Nodup then
    some (.li (.o (IG k)) r.1,⟨r.2.2,r.2.1,one AA (.o (IG k)) o.dst (.is AA g)⟩)else none
  else none
 |none=>none
end
theorem AM.Xe{R:D->Value->List Nat->Prop}{d:D}{v:Value}(h:R d v []):∀(n m:Nat),n<=m->AM R (List.replicate n d) (List.replicate m v) []
 |0,m,_=>by simp[AM]
 |n+1,0,h=>by omega
 |n+1,m+1,H=>by simp only[List.replicate_succ,AM];exact⟨[],[],rfl,h,AM.Xe h n m (by omega)⟩
def Sh.FJ:Sh->Bool
 |.b _=>false
 |.a _=>false
 |.m=>false
 |_=>true
theorem AaJ(k:Nat):(IG k).FJ=true:=by unfold IG;split<;>rfl
theorem AE.nil{fid:Nat->Nat}{h:Array Obj}{O X:Nat->Prop}{s:Sh}(H:s.FJ=true:=by rfl):AE fid h O X s (.l []) (.slice none 0 0) []:=by
 cases s with
 |a s=>simp[Sh.FJ]at H
 |b s=>simp[Sh.FJ]at H
 |m=>simp[Sh.FJ]at H
 |v=>simp[AE,Rd]
 |y=>simp[AE,Rd]
 |o s=>simp[AE]
section
variable{cf:CF}{c:Cx}{F:Fact->Prop}{E:Nat->D}{a:Act}{w:World}{vs:Nat->Value}{Bs:Nat->List Nat}{AA:Nat}{g:Gd}{sm:Sm}{st:List Fact}{o:Oper}{p:Pr}
 {K:Nat->List D->List D->Prop}
theorem Zt{x:Operand}{d:D}{s:Sh}{ns:List Fact}(h:A5 cf st g x=some (.c d,s,ns)):ns=[]:=by
 cases x with
 |const v=>
  simp only[A5,Ae,AJ]at h
  obtain⟨_,_,_,_,rfl⟩:=h;rfl
 |func v=>
  simp only[A5,Ae,AJ]at h
  obtain⟨_,_,_,_,rfl⟩:=h;rfl
 |global f=>simp[A5]at h
 |tmp t=>
  simp only[A5]at h
  split at h
  .split at h
   .simp only[Ae,AJ]at h
    obtain⟨_,_,h,_⟩:=h
    cases h
   .cases h
  .cases h
theorem Ic{es:Sh}{x:Operand}{α:A}{ks:List Nat}{ns:List Fact}(i:Lz cf st g es x=some (α,ks,ns))(h:At cf c F E a w vs Bs AA g p sm)(M:∀f∈ns,f∈sm.needs)
  {O':Nat->Prop} (J:∀b,b<w.heap.size->O' b->OB F Bs b) (L:es=.v->∀n∈ks,∀b∈Bs n,¬O' b):
  ∃B,AE c.fid w.heap O' c.Xb es (ev E α) (a.eval x) B/\((ks=[]\/es=.v)/\B=[]\/∃n,ks=[n]/\B=Bs n/\es≠.v)/\(∀n∈ks,alive F n):=by
 unfold Lz at i;simp only[AS]at i;obtain⟨⟨α1,s1,n1⟩,e,i⟩:=i;simp only at i;split at i
 .rename_i s;subst s;split at i
  .rename_i G;subst G;simp only[AL,AJ]at i;obtain⟨rfl,rfl,rfl⟩:=i;obtain⟨B,j,_⟩:=h.A5 e M;refine⟨[],?_,.inl ⟨.inl rfl,rfl⟩,by simp⟩;simp only[AE]at j|-;exact⟨trivial,j.2.mono λb C q=>q.imp (J b C) id⟩
  .split at i
   .rename_i G;subst G;split at i
    .rename_i n;split at i
     .simp only[AL,AJ]at i;obtain⟨rfl,rfl,rfl⟩:=i;obtain⟨B,j,l⟩:=h.A5 e M;obtain⟨I,W,Q⟩:=l n rfl;refine⟨[],?_,.inl ⟨.inr rfl,rfl⟩,by simp;exact⟨_,I⟩⟩;rw[Q]at j;have hX:∀b∈Bs n,¬c.Xb b:=λb C q=>by obtain⟨q1,Y⟩:=c.hX b q;rcases h.H.mine n _ I b C with m|m;omega;exact Y m
      have:=AE.frozen J _ _ _ (λb C=>⟨L rfl n (by simp) b C,hX b C⟩) j;simp only[AE];exact⟨trivial,this⟩
     .cases i
    .cases i
   .cases i
 .rename_i s;split at i
  .rename_i n;split at i
   .rename_i G;obtain⟨N,U,_⟩:=G;subst N;simp only[AL,AJ]at i;obtain⟨rfl,rfl,rfl⟩:=i;obtain⟨B,j,l⟩:=h.A5 e M;obtain⟨I,W,Q⟩:=l n rfl;refine⟨Bs n,?_,.inr ⟨n,rfl,rfl,s⟩,by simp;exact⟨_,I⟩⟩;rw[<-Q];exact AE.ext (Ao.refl (λ_=>False) _) (λ_ _ q=>q.elim) J _ _ _ _ (λ_ _ q=>q) j
   .cases i
  .split at i
   .rename_i T;simp only[AL,AJ]at i;obtain⟨rfl,rfl,rfl⟩:=i;refine⟨[],?_,.inl ⟨.inl rfl,rfl⟩,by simp⟩;obtain⟨B,j,_⟩:=GV h.fits e h.H (λf R=>by rw[Zt e]at R;cases R) h.g
    .have V:a.eval x=.slice none 0 0:=by
      cases x with
      |const v=>
       simp only[A5,Ae]at e
       obtain⟨d,hd,e⟩:=e
       simp only[AJ]at e
       obtain⟨e,_,_⟩:=e
       injection e with e
       subst e
       unfold Dp at hd
       split at hd<;>try(injection hd with hd;cases hd)
       .split at hd
        .injection hd with hd;cases hd
        .cases hd
       .rfl
       .cases hd
      |func f=>
       simp only[A5,Ae,AJ]at e
       obtain⟨k,hk,e,_⟩:=e
       simp at e
      |global f=>simp[A5]at e
      |tmp t=>
       simp only[A5]at e
       split at e
       .split at e
        .simp only[Ae,AJ]at e
         obtain⟨_,_,e,_⟩:=e
         cases e
        .cases e
       .cases e
     rw[V]
     exact AE.nil
   .cases i
  .cases i
theorem Dh(w:World)(o:Obj)(S:Nat->Prop):Ao S w.heap (w.alloc o).heap:=by refine⟨by simp,λb H _=>heap_alloc_old w o b H⟩
theorem AcQ{k:Nat}{t:TypeId}{l q:Operand}(ho:o.op=.makeSlice t l q)(j:U6 cf st AA o g k t l q=some (p,sm))(h:At cf c F E a w vs Bs AA g p sm)(hE:Aw K E AA p):AV c o sm F E a w:=by
 unfold U6 at j;split at j
 .rename_i e ti L;split at j
  .rename_i z hz;simp only[AS]at j;obtain⟨d,hd,j⟩:=j;split at j
   .rename_i hc;obtain⟨hby,hz1,R,i⟩:=hc;have U:z.cells=#[z]:=by cases z<;>simp_all[Value.cells,Value.oneCell']
    simp only[AS]at j;obtain⟨⟨α,s1,n1⟩,h1,⟨β,s2,n2⟩,h2,j⟩:=j;simp only[AL,AJ]at j;obtain⟨rfl,rfl⟩:=j;obtain⟨B1,Y,_⟩:=h.A5 h1 (λf Q=>BN _ Q);obtain⟨B2,o2,_⟩:=h.A5 h2 (λf Q=>BB _ Q);have b:HJ d (ev E α) (ev E β)=some (E AA):=hE;unfold HJ at b;split at b
    .rename_i k1 n k2 m I J;split at b
     .rename_i hb;obtain⟨x,C,G⟩:=hb;injection b with b;rw[I]at Y;rw[J]at o2;obtain⟨g1,g2,g3⟩:=Lk L;have V:c.P=cf.P:=h.fits.P;obtain⟨N,rfl⟩:=CZ x;obtain⟨M,rfl⟩:=CZ (show(0:Int)<=m by omega);have T:(M:Int)<=1099511627776:=G;have W:=run_make (P:=c.P) w t e ti z (by rw[V];exact g1) (by rw[V];exact g2) hz k1 k2 N M (by omega) C (by have:(ti.bytes:Int)*(M:Int)<=128*1099511627776:=Int.mul_le_mul (by omega) T (by omega) (by omega);omega) (by omega);simp only[BM,g3,Nat.mul_one,U]at W;have s:(execOp a.eval o).run c.P w=.ok (.value (.slice (some ⟨w.heap.size,0,none⟩) N M)) (w.alloc (.cells (madeCells #[z] M) e)):=by simp only[execOp,ho];refine C9 ?_;rw[Y.int,o2.int];exact W
      refine AV.B6 s ⟨AQ vs AA (.slice (some ⟨w.heap.size,0,none⟩) N M),AQ Bs AA [w.heap.size],?_⟩;refine h.H.put (by simpa using h.fresh 0 (by simp[Pr.np])) (by rw[h.fits.nt];exact R) [] (Dh _ _ _) rfl rfl rfl ?_ (by simp) (by simp) h.g;rw[<-b];simp only[AE];refine .inr ⟨_,rfl,.inr ⟨w.heap.size,0,M,madeCells #[z] M,e,(0,0),[],rfl,?_,?_,rfl,?_,?_,?_,?_⟩⟩;simp;exact heap_alloc_new w _;simp;omega;simp[madeCells];omega;simp only[List.drop_zero,toList_madeCells_one,BM];refine AM.Xe ?_ N M (by omega);rcases i with i|i;rw[i];simp only[AE];exact⟨trivial,Ls hd⟩;unfold H9 at i;split at i
      .have hv:z=.slice none 0 0:=by
        unfold Dp at hd
        split at hd<;>try(injection hd with hd;cases hd)
        split at hd
        injection hd with hd;cases hd
        cases hd
        rfl
        cases hd
       rw[hv];exact AE.nil (AaJ k)
      cases i
     cases b
    cases b
   cases j
  cases j
 cases j
end
end Go.Cat
namespace Go.Cat
theorem Rd.one{fid:Nat->Nat}{h:Array Obj}{Z:Nat->Prop}{d:D}{v:Value}(hd:d.one=true)(r:Rd fid h Z d v):v.oneCell'=true:=by
 cases d with
 |u=>simp[D.one]at hd
 |g xs=>simp[D.one]at hd
 |i k n=>simp only[Rd]at r;subst r;rfl
 |b x=>simp only[Rd]at r;subst r;rfl
 |s x=>simp only[Rd,BJ]at r;rw[r.1];rfl
 |z=>simp only[Rd]at r;subst r;rfl
 |l xs=>
  simp only[Rd]at r
  rcases r with⟨_,_,rfl⟩|⟨b,off,cap,cs,e,j,rfl,_⟩<;>rfl
 |p xs=>
  simp only[Rd]at r
  obtain⟨b,off,cs,e,j,rfl,_⟩:=r
  rfl
 |f n xs=>
  simp only[Rd]at r
  obtain⟨vs,rfl,_⟩:=r
  rfl
theorem AE.one{fid:Nat->Nat}{h:Array Obj}{O X:Nat->Prop}{s:Sh}{d:D}{v:Value}{B:List Nat}(hd:d.one=true)(r:AE fid h O X s d v B):v.oneCell'=true:=by
 cases s with
 |v=>simp only[AE]at r;exact Rd.one hd r.2
 |y=>simp only[AE]at r;exact Rd.one hd r.2
 |o s=>
  simp only[AE]at r
  rcases r with⟨q|q,_⟩|⟨xs,rfl,⟨rfl,_⟩|⟨b,off,cap,cs,e,i,f,_,rfl,_⟩⟩
  .subst q;simp[D.one]at hd
  .exact Rd.one hd q.2
  .rfl
  .rfl
 |a s=>
  simp only[AE]at r
  obtain⟨xs,cs,rfl,_⟩:=r
  simp[D.one]at hd
 |b s=>
  simp only[AE]at r
  obtain⟨xs,b,cs,e,i,f,rfl,_⟩:=r
  simp[D.one]at hd
 |m=>
  simp only[AE]at r
  obtain⟨xs,b,es,k,rfl,_⟩:=r
  simp[D.one]at hd
theorem QJ{v:Value}(h:v.oneCell'=true):v.cells=#[v]:=by cases v<;>simp_all[Value.cells,Value.oneCell']
theorem AM.one{fid:Nat->Nat}{h:Array Obj}{O X:Nat->Prop}{s:Sh}:∀{b:List D}{vs:List Value}{B:List Nat},b.all D.one=true->vs.length=b.length->AM (AE fid h O X s) b vs B->∀v∈vs,v.oneCell'=true
 |[],[],_=>λ_ _ _=>by simp
 |d::b,v::vs,B=>λhd l r=>by simp only[AM]at r;simp only[List.all_cons,AU]at hd;obtain⟨B1,B2,rfl,R,e⟩:=r;intro u H;rcases AY.1 H with rfl|H;exact R.one hd.1;exact AM.one hd.2 (by simpa using l) e u H
 |[],_::_,_=>λ_ l _=>by simp at l
 |_::_,[],_=>λ_ l _=>by simp at l
section
variable{cf:CF}{c:Cx}{F:Fact->Prop}{E:Nat->D}{a:Act}{w:World}{vs:Nat->Value}{Bs:Nat->List Nat}{AA:Nat}{g:Gd}{sm:Sm}{st:List Fact}{o:Oper}{p:Pr}
 {K:Nat->List D->List D->Prop}
theorem AHU{es:Sh}(h:At cf c F E a w vs Bs AA g p sm){O':Nat->Prop}(V:∀b,b<w.heap.size->O' b->OB F Bs b):
  ∀{l:List Operand}{αs:List A}{ks:List Nat}{ns:List Fact},I2 cf st g es l=some (αs,ks,ns)->(∀f∈ns,f∈sm.needs)->(es=.v->∀n∈ks,∀b∈Bs n,¬O' b)->ks.Nodup->
  αs.length=l.length/\∃B,AM (AE c.fid w.heap O' c.Xb es) (αs.map (ev E)) (l.map a.eval) B/\B.Nodup/\(∀b∈B,∃n∈ks,alive F n/\b∈Bs n)/\(es=.v->B=[])/\∀n∈ks,alive F n
 |[],αs,ks,ns,I,_,_,_=>by simp only[I2,AL,AJ]at I;obtain⟨rfl,rfl,rfl⟩:=I;exact⟨rfl,[],by simp[AM],by simp,by simp,λ_=>rfl,by simp⟩
 |x::l,αs,ks,ns,I,W,j,T=>by simp only[I2,AS,Ae,AJ]at I;obtain⟨⟨α,k1,n1⟩,h1,⟨αs',k2,n2⟩,h2,rfl,rfl,rfl⟩:=I;obtain⟨Y,C,G⟩:=List.nodup_append.1 T;obtain⟨B1,e1,J,L⟩:=Ic h1 h (λf Q=>W f (BN _ Q)) V (λq n e=>j q n (BN _ e));obtain⟨f0,B2,f1,U,f3,f4,f5⟩:=AHU h V h2 (λf Q=>W f (BB _ Q)) (λq n e=>j q n (BB _ e)) C;refine⟨by simp[f0],B1++B2,?_,?_,?_,?_,?_⟩;simp only[List.map_cons,AM];exact⟨B1,B2,rfl,e1,f1⟩;rcases J with⟨_,rfl⟩|⟨n,rfl,rfl,_⟩;simpa using U;obtain⟨s,hs⟩:=L n (by simp);refine List.nodup_append.2 ⟨h.H.nodup n s hs,U,λb i b' M=>?_⟩;rintro rfl;obtain⟨m,R,⟨r,hr⟩,N⟩:=f3 b M;exact h.H.apart n s m r hs hr (G n (by simp) m R) b i N;intro b i;rcases Ac.1 i with i|i;rcases J with⟨_,rfl⟩|⟨n,rfl,rfl,_⟩;simp at i;exact⟨n,by simp,L n (by simp),i⟩;obtain⟨m,R,k⟩:=f3 b i;exact⟨m,BB _ R,k⟩;intro q;rw[f4 q];rcases J with⟨_,rfl⟩|⟨n,rfl,rfl,q'⟩;rfl;exact(q' q).elim;intro n e;rcases Ac.1 e with e|e;exact L n e;exact f5 n e
def Nb(F:Fact->Prop)(Bs:Nat->List Nat)(ks:List Nat)(es:Sh)(N:Nat->Prop):Nat->Prop:=λb=>EE F Bs (λn=>n∈ks) b\/(es≠.v/\∃n∈ks,alive F n/\b∈Bs n)\/N b
theorem Rl(H:BF c F E a w vs Bs){ks:List Nat}{es:Sh}{N:Nat->Prop}(i:∀b,b<w.heap.size->N b->OB F Bs b):∀b,b<w.heap.size->Nb F Bs ks es N b->OB F Bs b:=by rintro b j (⟨n,s,e,_,f⟩|⟨_,n,_,⟨s,e⟩,f⟩|h);exact⟨n,s,e,f⟩;exact⟨n,s,e,f⟩;exact i b j h
theorem QQ(H:BF c F E a w vs Bs){ks l:List Nat}{N:Nat->Prop}(I:∀n∈l,n∈ks)(G:∀n∈l,alive F n)(C:∀n∈l,∀b∈Bs n,¬N b):∀n∈l,∀b∈Bs n,¬Nb F Bs ks .v N b:=by rintro n f b i (⟨m,s,j,k,x⟩|⟨q,_⟩|h);obtain⟨r,J⟩:=G n f;exact H.apart n r m s J j (λe=>k (e▸I n f)) b i x;exact q rfl;exact C n f b i h
theorem AKC{es:Sh}(h:At cf c F E a w vs Bs AA g p sm):∀{l:List Operand}{αs:List A}{ks:List Nat}{ns:List Fact},I2 cf st g es l=some (αs,ks,ns)->(∀f∈ns,f∈sm.needs)->∀n∈ks,alive F n
 |[],αs,ks,ns,b,_=>by simp only[I2,AL,AJ]at b;obtain⟨rfl,rfl,rfl⟩:=b;simp
 |x::l,αs,ks,ns,b,i=>by simp only[I2,AS,Ae,AJ]at b;obtain⟨⟨α,k1,n1⟩,j,⟨αs',k2,n2⟩,h2,rfl,rfl,rfl⟩:=b;intro n H;rcases Ac.1 H with H|H;obtain⟨_,_,_,k⟩:=Ic (O':=λ_=>False) j h (λf e=>i f (BN _ e)) (λ_ _ q=>q.elim) (λ_ _ _ _ _ q=>q);exact k n H;exact AKC h h2 (λf e=>i f (BB _ e)) n H
theorem AOM{k:Nat}{t:TypeId}{len:Nat}{ps:Array (Nat×Operand)}(ho:o.op=.buildSlice t len ps)(j:Vs cf st AA o g k t len ps=some (p,sm))(h:At cf c F E a w vs Bs AA g p sm)(hE:Aw K E AA p):AV c o sm F E a w:=by
 unfold Vs at j;split at j;rename_i e ti hel;split at j;rename_i hc;obtain⟨hz,hlen,hps,hin⟩:=hc;obtain⟨z,hz⟩:=Option.isSome_iff_exists.1 hz;simp only[AS]at j;obtain⟨⟨αs,ks,ns⟩,h1,j⟩:=j;split at j;rename_i hnd;simp only[AL,AJ]at j;obtain⟨rfl,rfl⟩:=j;have hlt:∀n s,F (.en n s)->∀b∈Bs n,b<w.heap.size:=λn s T=>AE.F2 s _ _ _ (h.H.own n s T);have hO:=Rl h.H (ks:=ks) (es:=IG k) (N:=λb=>b=w.heap.size) (λb I q=>by omega);have W:=AKC h h1 (λf hf=>hf);obtain⟨hla,B,f1,f2,f3,f4,_⟩:=AHU h hO h1 (λf hf=>hf) (λq=>by rw[q];exact QQ h.H (λn hn=>hn) W (λn hn b I e=>by obtain⟨s,T⟩:=W n hn;have:=hlt n s T b I;omega)) hnd;have C:(if(αs.map (ev E)).all D.one=true then some (D.l (αs.map (ev E)))else none)=some (E AA):=hE;split at C;rename_i hone;injection C with C;have L:len=ps.toList.length:=by have:=congrArg List.length hps;simpa using this.symm
 have hvl:((ps.toList.map (·.2)).map a.eval).length=(αs.map (ev E)).length:=by simp[hla]
 have hv1:=AM.one hone hvl f1;obtain⟨g1,g2,U⟩:=Lk hel;have hP:c.P=cf.P:=h.fits.P;have M:(ps.map λ(i,x)=>(i,a.eval x)).toList=(((ps.toList.map (·.2)).map a.eval).zipIdx 0).map λx=>(x.2,x.1):=by
  rw[Array.toList_map];apply List.ext_getElem?;intro i;simp only[List.getElem?_map,List.getElem?_zipIdx,Nat.zero_add]
  cases hi:ps.toList[i]? with
  |none=>simp
  |some x=>
   have:(ps.toList.map (·.1))[i]?=some x.1:=by simp[hi]
   rw[hps]at this
   have hi':i<len:=by rw[L];exact(List.getElem?_eq_some_iff.1 hi).1
   rw[List.getElem?_range hi']at this
   injection this with this
   simp[<-this]
 have J:(Instr.buildSlice t len (ps.map λ(i,x)=>(i,a.eval x))).run c.P w=.ok (.slice (some ⟨w.heap.size,0,none⟩) len len) (w.alloc (.cells ((ps.toList.map (·.2)).map a.eval).toArray e)):=by
  have G:∀cells:Array Value,cells.size=len->Instr.fill (λi=>some (i*ti.size,ti.size)) cells (ps.map λ(i,x)=>(i,a.eval x)).toList=some ((ps.toList.map (·.2)).map a.eval).toArray:=by intro cells hcs;rw[M,U];exact Great.fill_flat _ _ (λv hv=>QJ (hv1 v hv)) (by simp[hcs,L])
  by_cases h0:len=0;subst h0;have R:=G #[] rfl;rw[U]at R;have hr0:∀f:Nat->Value,Array.map f (Array.range 0)=#[]:=λf=>by simp
  simp[Instr.buildSlice,run_underlying (hP▸g1),sizeOf,typeInfo,hP▸g2,newRow,U]at R|-;have hr1:Array.map (λ_=>(default:Value)) (Array.range 0)=#[]:=hr0 _;rw[hr1,R];simp;exact run_buildSlice w t e len _ _ ti z (hP▸g1) (hP▸g2) hz (by rw[U];omega) (by rw[U];omega) (G _ (by simp[U]))
 have hrun:(execOp a.eval o).run c.P w=.ok (.value (.slice (some ⟨w.heap.size,0,none⟩) len len)) (w.alloc (.cells ((ps.toList.map (·.2)).map a.eval).toArray e)):=by simp only[execOp,ho];exact C9 J
 refine AV.B6 hrun ⟨AQ vs AA (.slice (some ⟨w.heap.size,0,none⟩) len len),AQ Bs AA (w.heap.size::B),?_⟩;have V:∀b∈B,b<w.heap.size:=λb I=>by obtain⟨n,_,⟨s,T⟩,Q⟩:=f3 b I;exact hlt n s T b Q
 refine h.H.put (by simpa using h.fresh 0 (by simp[Pr.np])) (by rw[h.fits.nt];exact hin) ks (Dh _ _ _) rfl rfl rfl ?_ ?_ ?_ h.g;rw[<-C];simp only[AE];have hxl:(αs.map (ev E)).length=len:=by simp[hla,L]
 refine .inr ⟨_,rfl,.inr ⟨w.heap.size,0,len,_,e,(0,0),B,rfl,?_,heap_alloc_new w _,rfl,by omega,?_,?_,?_⟩⟩;rw[hxl];simp[L];omega;simp only[List.drop_zero];refine AM.imp (λd v B1 hB1 r=>?_) f1;refine AE.ext (S:=λ_=>False) (Dh _ _ _) (λ_ _ q=>q.elim) ?_ _ _ _ _ (λ_ _ q=>q) r;rintro b I (q|q);exact .inl q;rcases AY.1 q with q|q;exact .inr (.inr q);by_cases Y:IG k=.v;rw[f4 Y]at q;simp at q;exact .inr (.inl ⟨Y,f3 b q⟩);refine List.nodup_cons.2 ⟨λq=>?_,f2⟩;have:=V _ q;omega;intro b I;rcases AY.1 I with rfl|I;exact .inr (Nat.le_refl _);obtain⟨n,hn,⟨s,T⟩,Q⟩:=f3 b I;exact .inl ⟨n,s,T,hn,Q⟩
 cases C
 cases j
 cases j
 cases j
end
end Go.Cat
namespace Go.Cat
theorem Xa{P:Program}{w:World}{t ty e:TypeId}{T:TypeInfo}{z:Value}(hel:FX P t=some (e,T))(hz:T.zero=some z)(hz1:z.cells=#[z])(hby:T.bytes<=128)
  {Az news:List Value} {sv xv:Value}
  (hs:(sv=.slice none 0 0/\Az=[])\/∃g off cap cs G,sv=.slice (some ⟨g,off,none⟩) Az.length cap/\w.heap[g]?=some (.cells cs G (0,0))/\Az.length<=cap/\off+cap<=cs.size/\(∀(j:Nat)(v:Value),Az[j]?=some v->cs[off+j]?=some v))
  (hx:((∃a,xv=.slice a 0 0)/\news=[])\/∃b off cap,xv=.slice (some ⟨b,off,none⟩) news.length cap/\∀(j:Nat)(v:Value),news[j]?=some v->w.cell? ⟨b,off+j,none⟩=some v)
  (h1:∀v∈news,v.oneCell'=true) (x:Az.length+news.length<=1099511627776):
  ∃v' w',(Builtin.append_ #[t,t] ty #[sv,xv]).run P w=.ok v' w'/\w'.os=w.os/\w'.tape=w.tape/\w'.output=w.output/\
   ((v'=.slice none 0 0/\Az=[]/\news=[]/\w'.heap=w.heap)\/
    (∃g off cap cs G C,sv=.slice (some ⟨g,off,none⟩) Az.length cap/\w.heap[g]?=some (.cells cs G (0,0))/\v'=.slice (some ⟨g,off,none⟩) (Az.length+news.length) cap/\Az.length+news.length<=cap/\C.size=cs.size/\
     w'.heap[g]?=some (.cells C G (0,0))/\(∀b,b≠g->w'.heap[b]?=w.heap[b]?)/\w'.heap.size=w.heap.size/\∀(j:Nat)(v:Value),(Az++news)[j]?=some v->C[off+j]?=some v)\/
    (∃cap C,v'=.slice (some ⟨w.heap.size,0,none⟩) (Az.length+news.length) cap/\Az.length+news.length<=cap/\(cap<=C.size/\cap<=9223372036854775807)/\w'.heap=w.heap.push (.cells C e)/\∀(j:Nat)(v:Value),(Az++news)[j]?=some v->C[j]?=some v)):=by
 obtain⟨R,U,Q⟩:=Lk hel;have s:(Az.length+news.length)*T.bytes<=140737488355328:=by have:(Az.length+news.length)*T.bytes<=1099511627776*128:=Nat.mul_le_mul x hby;omega
 have I:∀(f:Nat),Az.length+news.length<=grownCap w (Az.length+news.length) f e:=λf=>grownCap_ge w _ f e;have H:∀(f j:Nat)(v:Value),(Az++news)[j]?=some v->(Az.toArray++news.toArray++Builtin.zeroCells z.cells (grownCap w (Az.length+news.length) f e-(Az.length+news.length)))[j]?=some v:=by intro f j v i;have J:j<(Az++news).length:=(List.getElem?_eq_some_iff.1 i).1;rw[Array.getElem?_append_left (by simp only[Array.size_append,List.size_toArray];simpa using J)];rw[<-i];simp[List.getElem?_append]
 have q:∀(f:Nat),(Az.toArray++news.toArray++Builtin.zeroCells z.cells (grownCap w (Az.length+news.length) f e-(Az.length+news.length))).size=grownCap w (Az.length+news.length) f e:=by intro f;have:=I f;simp only[Array.size_append,List.size_toArray,size_zeroCells,hz1];simp;omega
 rcases hs with⟨rfl,rfl⟩|⟨g,off,cap,cs,G,rfl,hg,hlc,hoc,W⟩
 .rcases hx with⟨⟨N,rfl⟩,rfl⟩|⟨b,M,L,rfl,l⟩
  .refine⟨.slice none 0 0,w,?_,rfl,rfl,rfl,.inl ⟨rfl,rfl,rfl,rfl⟩⟩
   cases N<;>simp[Builtin.append_,run_underlying R,sizeOf,typeInfo,U,Builtin.lenOf,Builtin.firstCells,loadCells,loadCellsFrom]
  .by_cases hm:news.length=0
   .have:news=[]:=Dd hm;subst this;refine⟨.slice none 0 0,w,?_,rfl,rfl,rfl,.inl ⟨rfl,rfl,rfl,rfl⟩⟩;simp[Builtin.append_,run_underlying R,sizeOf,typeInfo,U,Builtin.lenOf,Builtin.firstCells,loadCells,loadCellsFrom]
   .have hr:=run_append_nil (P:=P) w t ty e T z R U hz ⟨b,M,none⟩ news.length L news (by rw[Q];omega) (λj v i=>by rw[Addr.add_lit];exact l j v i) (by omega) (by simp at x;omega) (by simp at s;omega);have Y:=q 0;have hs2:=H 0;have hs3:=I 0;simp only[Aa,Nat.zero_add,List.nil_append,Array.empty_append]at Y hs2 hs3;refine⟨_,_,hr,rfl,rfl,rfl,.inr (.inr ⟨grownCap w news.length 0 e,news.toArray++Builtin.zeroCells z.cells (grownCap w news.length 0 e-news.length),by simp,by simpa using hs3,⟨by rw[Y];exact Nat.le_refl _,grownCap_le_maxLen w _ 0 e (by simp at x;simp[maxLen];omega)⟩,rfl,by simpa using hs2⟩)⟩
 .by_cases k:Az.length+news.length<=cap
  .have hf:(Builtin.firstCells T.size news.length xv).run P w=.ok news.toArray w:=by
    rcases hx with⟨⟨N,rfl⟩,rfl⟩|⟨b,M,L,rfl,l⟩
    cases N<;>simp[Builtin.firstCells,loadCells,loadCellsFrom];exact run_firstCells_some (P:=P) w T.size news.length ⟨b,M,none⟩ _ L news (by rw[Q];omega) (λj v i=>by rw[Addr.add_lit];exact l j v i)
   have V:(Builtin.lenOf xv).run P w=.ok news.length w:=by rcases hx with⟨⟨N,rfl⟩,rfl⟩|⟨b,M,L,rfl,l⟩<;>simp[Builtin.lenOf]
   have hst:=run_storeCells_at P g (off+Az.length) G news 0 cs w hg (by omega) h1;simp only[Nat.add_zero]at hst;have hx2:∃a b c,xv=.slice a b c:=by rcases hx with⟨⟨N,rfl⟩,rfl⟩|⟨b,M,L,rfl,l⟩<;>exact⟨_,_,_,rfl⟩
   refine⟨.slice (some ⟨g,off,none⟩) (Az.length+news.length) cap,w.setRow g (cs.toList.take (off+Az.length)++news++cs.toList.drop (off+Az.length+news.length)).toArray,?_,rfl,rfl,rfl,.inr (.inl ⟨g,off,cap,cs,G,_,rfl,hg,rfl,k,?_,setRow_heap w g cs _ G _ hg,λb hb=>setRow_other w g b _ hb,by simp,?_⟩)⟩
   .rw[Q]at hf;simp[Builtin.append_,run_underlying R,sizeOf,typeInfo,U,V,k,Q,hf,Addr.add_lit,hst]
   .simp only[List.size_toArray,AZ,List.length_take,List.length_drop,Array.length_toList];omega
   .intro j v i;have J:j<(Az++news).length:=(List.getElem?_eq_some_iff.1 i).1;simp only[AZ]at J;simp only[List.getElem?_toArray];rw[DP (by simp only[AZ,List.length_take,Array.length_toList];omega)];by_cases hjo:j<Az.length
    .rw[DP (by simp only[List.length_take,Array.length_toList];omega),List.getElem?_take,if_pos (by omega)];rw[DP hjo]at i;simpa using W j v i
    .rw[GK (by simp only[List.length_take,Array.length_toList];omega)];rw[GK (by omega)]at i;rw[<-i];congr 1;simp only[List.length_take,Array.length_toList];omega
  .rcases hx with⟨⟨N,rfl⟩,rfl⟩|⟨b,M,L,rfl,l⟩
   .simp at k;omega
   .have hr:=run_append_grow (P:=P) w t ty e T z R U hz ⟨g,off,none⟩ Az.length cap Az (by rw[Q];omega) (λj v i=>by rw[Addr.add_lit];simp[World.cell?,hg,W j v i]) ⟨b,M,none⟩ news.length L news (by rw[Q];omega)
     (λj v i=>by rw[Addr.add_lit];exact l j v i) (by omega) (by omega) (growslice_fits (by omega) s)
    refine⟨_,_,hr,rfl,rfl,rfl,.inr (.inr ⟨grownCap w (Az.length+news.length) cap e,_,rfl,I cap,⟨by rw[q cap];exact Nat.le_refl _,grownCap_le_maxLen w _ cap e (by simp[maxLen];omega)⟩,rfl,H cap⟩)⟩
end Go.Cat
namespace Go.Cat
section
variable(cf:CF)(st:List Fact)(AA:Nat)(o:Oper)(g:Gd)
def Oz(i:TypeInfo):Bool:=match i.zero with
 |some z=>z.oneCell'
 |none=>false
def Vf(s:Operand):Option (A×List Nat×List Fact):=
 (A5 cf st g s).bind λa=>
  match a.1 with
  |.e n=>if a.2.1=.o .v then some (a.1,[n],a.2.2)else none
  |.c (.l [])=>some (a.1,[],a.2.2)
  |.c _=>none
def AFG(ks:List Nat):A->Bool
 |.e n=>!ks.contains n
 |.c _=>true
def TT(t:TypeId)(s x:Operand):Option (Pr×Sm):=
 match FX cf.P t with
 |some (_,i)=>if Oz i=true/\i.bytes<=128/\BW o.dst cf.nt=true/\g=[]then
   (Vf cf st g s).bind λr=>(A5 cf st g x).bind λb=>
    if AFG r.2.1 b.1=true/\(b.2.1=.v\/b.2.1=.o .v\/b.2.1=.y)then
     some (.ap (b.2.1==.y) r.1 b.1,⟨r.2.2++b.2.2,r.2.1,one AA (.o .v) o.dst (.is AA g)⟩)
    else none
  else none
 |none=>none
end
section
variable{fid:Nat->Nat}{h:Array Obj}{Z:Nat->Prop}
theorem AP.append:∀{s es:List D}{vs us:List Value},vs.length=s.length->AP fid h Z s vs->AP fid h Z es us->AP fid h Z (s++es) (vs++us)
 |[],es,[],us,_,_,r=>by simpa using r
 |[],es,_::_,us,l,_,_=>by simp at l
 |d::s,es,[],us,l,_,_=>by simp at l
 |d::s,es,v::vs,us,l,r,q=>by simp only[AP,List.cons_append]at r|-;exact⟨r.1,AP.append (by simpa using l) r.2 q⟩
theorem AP.congr:∀{s:List D}{vs us:List Value},(∀(j:Nat)(v:Value),vs[j]?=some v->us[j]?=some v)->AP fid h Z s vs->AP fid h Z s us
 |[],_,_,_,_=>by simp[AP]
 |d::s,[],us,_,r=>by simp[AP]at r
 |d::s,v::vs,[],H,_=>by have:=H 0 v (by simp);simp at this
 |d::s,v::vs,u::us,H,r=>by simp only[AP]at r|-;have h0:=H 0 v (by simp);simp at h0;subst h0;exact⟨r.1,AP.congr (λj v b=>by simpa using H (j+1) v (by simpa using b)) r.2⟩
theorem AP.take:∀{s:List D}{vs:List Value},AP fid h Z s vs->AP fid h Z s (vs.take s.length)/\(vs.take s.length).length=s.length
 |[],_,_=>by simp[AP]
 |d::s,[],r=>by simp[AP]at r
 |d::s,v::vs,r=>by simp only[AP]at r;have:=AP.take r.2;simp only[AO,List.take_succ_cons,AP];exact⟨⟨r.1,this.1⟩,by simpa using this.2⟩
theorem AP.flat{b:Nat->Prop}:∀{s:List D}{vs:List Value},s.all D.flat=true->AP fid h Z s vs->AP fid h b s vs
 |[],_,_,_=>by simp[AP]
 |d::s,[],_,r=>by simp[AP]at r
 |d::s,v::vs,f,r=>by simp only[AP]at r|-;simp only[List.all_cons,AU]at f;exact⟨Rd.flat f.1 r.1,AP.flat f.2 r.2⟩
theorem AP.one:∀{s:List D}{vs:List Value},s.all D.one=true->vs.length=s.length->AP fid h Z s vs->∀v∈vs,v.oneCell'=true
 |[],[],_,_,_=>by simp
 |[],_::_,_,l,_=>by simp at l
 |d::s,[],_,_,r=>by simp[AP]at r
 |d::s,v::vs,f,l,r=>by simp only[AP]at r;simp only[List.all_cons,AU]at f;intro u H;rcases AY.1 H with rfl|H;exact Rd.one f.1 r.1;exact AP.one f.2 (by simpa using l) r.2 u H
theorem D.ASY{d:D}(h:d.flat=true):d.one=true:=by cases d<;>simp_all[D.flat,D.one]
theorem AHW:∀{s:List D},s.all D.flat=true->s.all D.one=true
 |[],_=>rfl
 |d::s,f=>by simp only[List.all_cons,AU]at f|-;exact⟨D.ASY f.1,AHW f.2⟩
theorem Fc{O X:Nat->Prop}:∀{s:List D}{vs:List Value}{B:List Nat},AM (AE fid h O X .v) s vs B↔B=[]/\AP fid h (λb=>O b\/X b) s vs
 |[],vs,B=>by simp[AM,AP]
 |d::s,[],B=>by simp[AM,AP]
 |d::s,v::vs,B=>by simp only[AM,AP];constructor;rintro⟨B1,B2,rfl,H,e⟩;simp only[AE]at H;obtain⟨rfl,f⟩:=Fc.1 e;exact⟨by simp[H.1],H.2,f⟩;rintro⟨rfl,H,e⟩;exact⟨[],[],rfl,by simp only[AE];exact⟨trivial,H⟩,Fc.2 ⟨rfl,e⟩⟩
theorem Rd.news{s:List D}{v:Value}(r:Rd fid h Z (.l s) v):∃news:List Value,(((∃a,v=.slice a 0 0)/\news=[])\/∃b off cap cs e f,v=.slice (some ⟨b,off,none⟩) news.length cap/\¬Z b/\h[b]?=some (.cells cs e f)/\∀(j:Nat)(u:Value),news[j]?=some u->cs[off+j]?=some u)/\
  news.length=s.length/\AP fid h Z s news:=by
 simp only[Rd]at r;rcases r with⟨rfl,k,rfl⟩|⟨b,off,cap,cs,e,f,rfl,x,G,C,I⟩
 .exact⟨[],.inl ⟨⟨k,rfl⟩,rfl⟩,rfl,by simp[AP]⟩
 .obtain⟨q,i⟩:=AP.take C;refine⟨_,.inr ⟨b,off,cap,cs,e,f,by rw[i],G,x,?_⟩,i,q⟩;intro j u H;rw[List.getElem?_take]at H;split at H
  .rwa [Ed]at H
  .cases H
end
section
variable{cf:CF}{c:Cx}{F:Fact->Prop}{E:Nat->D}{a:Act}{w:World}{vs:Nat->Value}{Bs:Nat->List Nat}{AA:Nat}{g:Gd}{sm:Sm}{st:List Fact}{o:Oper}{p:Pr}
 {K:Nat->List D->List D->Prop}
def Xl(h:Array Obj)(xs:List D)(sv:Value)(B:List Nat)(Az:List Value):Prop:=
 (sv=.slice none 0 0/\Az=[]/\B=[])\/∃b off cap cs e,B=[b]/\sv=.slice (some ⟨b,off,none⟩) Az.length cap/\h[b]?=some (.cells cs e (0,0))/\Az.length<=cap/\(off+cap<=cs.size/\cap<=9223372036854775807)/\∀(j:Nat)(v:Value),Az[j]?=some v->cs[off+j]?=some v
theorem AE.Az{fid:Nat->Nat}{h:Array Obj}{O X:Nat->Prop}{xs:List D}{sv:Value}{B:List Nat}(r:AE fid h O X (.o .v) (.l xs) sv B):
  ∃Az:List Value,Xl h xs sv B Az/\Az.length=xs.length/\AP fid h (λb=>O b\/X b) xs Az:=by
 simp only[AE]at r;rcases r with⟨q|q,_⟩|⟨Y,i,r⟩
 .cases q
 .simp[D.flat]at q
 injection i with i;subst i;rcases r with⟨rfl,rfl,rfl⟩|⟨b,off,cap,cs,e,s,N,rfl,rfl,I,L,x,C,G,he⟩
 .exact⟨[],.inl ⟨rfl,rfl,rfl⟩,rfl,by simp[AP]⟩
 .obtain⟨rfl,J⟩:=Fc.1 he;obtain⟨M,k⟩:=AP.take J;have f:s=(0,0):=L;subst f;refine⟨_,.inr ⟨b,off,cap,cs,e,rfl,by rw[k],I,by rw[k];exact x,⟨C,G⟩,?_⟩,k,M⟩;intro j u H;rw[List.getElem?_take]at H;split at H
  .rwa [Ed]at H
  .cases H
theorem ALJ{x:Operand}{s:Sh}{ns:List Fact}(h:A5 cf st g x=some (.c (.l []),s,ns)):a.eval x=.slice none 0 0:=by
 cases x with
 |const v=>
  simp only[A5,Ae]at h
  obtain⟨d,hd,h⟩:=h
  simp only[AJ]at h
  obtain⟨H,_,_⟩:=h
  injection H with H
  subst H
  unfold Dp at hd
  split at hd<;>try(injection hd with hd;cases hd)
  .split at hd
   .injection hd with hd;cases hd
   .cases hd
  .rfl
  .cases hd
 |func f=>
  simp only[A5,Ae,AJ]at h
  obtain⟨k,b,H,_⟩:=h
  simp at H
 |global f=>simp[A5]at h
 |tmp t=>
  simp only[A5]at h
  split at h
  .split at h
   .simp only[Ae,AJ]at h
    obtain⟨_,_,H,_⟩:=h
    cases H
   .cases h
  .cases h
theorem AW6{s:Operand}{α:A}{ks:List Nat}{ns:List Fact}(H:Vf cf st g s=some (α,ks,ns))(h:At cf c F E a w vs Bs AA g p sm)(k:∀f∈ns,f∈sm.needs){xs:List D}(x:ev E α=.l xs):
  ∃B,AE c.fid w.heap (OB F Bs) c.Xb (.o .v) (.l xs) (a.eval s) B/\((ks=[]/\B=[])\/∃n,ks=[n]/\α=.e n/\F (.en n (.o .v))/\B=Bs n):=by
 unfold Vf at H;simp only[AS]at H;obtain⟨⟨α1,s1,n1⟩,i,H⟩:=H;simp only at H;split at H
 .rename_i n;split at H
  .rename_i q;subst q;simp only[AL,AJ]at H;obtain⟨rfl,rfl,rfl⟩:=H;obtain⟨B,j,b⟩:=h.A5 i k;obtain⟨G,J,I⟩:=b n rfl;rw[x]at j;exact⟨B,j,.inr ⟨n,rfl,rfl,G,I⟩⟩
  .cases H
 .simp only[AL,AJ]at H;obtain⟨rfl,rfl,rfl⟩:=H;have C:=ALJ (a:=a) i;simp only[ev]at x;injection x with x;subst x;rw[C];exact⟨[],AE.nil,.inl ⟨rfl,rfl⟩⟩
 .cases H
theorem AC7{fl:Bool}{e f d:D}(h:Ev fl e f=some d):∃xs s,e=.l xs/\f=.l s/\d=.l (xs++s)/\xs.length+s.length<=1099511627776/\s.all D.one=true/\(fl=true->s.all D.flat=true):=by
 unfold Ev at h;split at h;rename_i xs s;by_cases b:xs.length+s.length<=G1/\s.all (if fl=true then D.flat else D.one)=true;rw[if_pos b]at h;obtain⟨i,H⟩:=b;injection h with h;refine⟨xs,s,rfl,rfl,h.symm,i,?_,?_⟩
 cases fl with
 |true=>exact AHW (by simpa using H)
 |false=>simpa using H
 rintro rfl;simpa using H;rw[if_neg b]at h;cases h
 cases h
theorem AV8{t:TypeId}{s x:Operand}(ho:o.op=.call { callee:=.builtin .append,args:=#[s,x],argTypes:=#[t,t] })(L:TT cf st AA o g t s x=some (p,sm))(h:At cf c F E a w vs Bs AA g p sm)(hE:Aw K E AA p):AV c o sm F E a w:=by
 unfold TT at L;split at L;rename_i e ti hel;split at L;rename_i hc;obtain⟨hz,hby,hin,hg⟩:=hc;simp only[AS]at L;obtain⟨⟨α,ks,n1⟩,h1,⟨β,s2,n2⟩,G,L⟩:=L;simp only at L;split at L;rename_i hc2;obtain⟨hnk,l⟩:=hc2;simp only[AL,AJ]at L;obtain⟨rfl,rfl⟩:=L;have hE':Ev (s2==.y) (ev E α) (ev E β)=some (E AA):=hE;obtain⟨xs,ys,e1,e2,e3,e4,e5,e6⟩:=AC7 hE';obtain⟨B,hB,hks⟩:=AW6 h1 h (λf hf=>BN _ hf) e1;obtain⟨B2,J,hn2⟩:=h.A5 G (λf hf=>BB _ hf);rw[e2]at J;obtain⟨Az,U,hol,hro⟩:=hB.Az;have hlt:∀n s,F (.en n s)->∀b∈Bs n,b<w.heap.size:=λn s hs=>AE.F2 s _ _ _ (h.H.own n s hs);have hBO:∀b∈B,OB F Bs b:=by intro b i;rcases hks with⟨_,rfl⟩|⟨n,_,_,hn,rfl⟩;simp at i;exact⟨n,_,hn,i⟩
 obtain⟨news,hnv,hnl,hnr⟩:∃news:List Value,(((∃ad,a.eval x=.slice ad 0 0)/\news=[])\/∃b off cap cs e fz,a.eval x=.slice (some ⟨b,off,none⟩) news.length cap/\b∉B/\w.heap[b]?=some (.cells cs e fz)/\∀(j:Nat)(u:Value),news[j]?=some u->cs[off+j]?=some u)/\
   news.length=ys.length/\AP c.fid w.heap (λb=>OB F Bs b\/c.Xb b) ys news:=by
  rcases l with l|l|l
  .subst l
   simp only[AE]at J
   obtain⟨news,k1,k2,k3⟩:=J.2.news
   refine⟨news,?_,k2,k3⟩
   rcases k1 with k1|⟨b,off,cap,cs,e,fz,Q,C,Y,M⟩
   .exact .inl k1
   .exact .inr ⟨b,off,cap,cs,e,fz,Q,λi=>C (.inl (hBO b i)),Y,M⟩
  .subst l
   obtain⟨news,k1,k2,k3⟩:=J.Az
   refine⟨news,?_,k2,k3⟩
   rcases k1 with⟨Q,C,_⟩|⟨b,off,cap,cs,e,q0,Q,C,_,_,M⟩
   .exact .inl ⟨⟨_,Q⟩,C⟩
   .refine .inr ⟨b,off,cap,cs,e,_,Q,λi=>?_,C,M⟩
    cases hβ:β with
    |c d=>
     subst hβ
     have:=Zt G
     cases x with
     |const v=>
      simp only[A5,Ae,AJ]at G
      obtain⟨_,_,_,q,_⟩:=G;cases q
     |func v=>
      simp only[A5,Ae,AJ]at G
      obtain⟨_,_,_,q,_⟩:=G;cases q
     |global v=>simp[A5]at G
     |tmp t=>
      simp only[A5]at G
      split at G
      .split at G
       .simp only[Ae,AJ]at G
        obtain⟨_,_,q,_⟩:=G;cases q
       .cases G
      .cases G
    |e m=>
     obtain⟨m1,m2,m3⟩:=hn2 m hβ
     rcases hks with⟨_,rfl⟩|⟨n,rfl,_,hn,rfl⟩
     .simp at i
     .have hne:m≠n:=by
       rintro rfl
       rw[hβ]at hnk
       simp[AFG]at hnk
      have hbm:b∈Bs m:=by rw[<-m3,q0];simp
      exact h.H.apart m _ n _ m1 hn hne b hbm i
  .subst l
   simp only[AE]at J
   obtain⟨news,k1,k2,k3⟩:=J.2.news
   refine⟨news,?_,k2,AP.flat (e6 rfl) k3⟩
   rcases k1 with k1|⟨b,off,cap,cs,e,fz,Q,C,Y,M⟩
   .exact .inl k1
   .exact .inr ⟨b,off,cap,cs,e,fz,Q,λi=>C (hBO b i),Y,M⟩
 have hP:c.P=cf.P:=h.fits.P;unfold Oz at hz;split at hz;rename_i z hzz;have V:=U;unfold Xl at V
 obtain⟨v',w',hr,w1,w2,w3,hres⟩:=Xa (P:=c.P) (w:=w) (ty:=o.type) (hP▸hel) hzz (QJ hz) hby (Az:=Az) (news:=news) (sv:=a.eval s) (xv:=a.eval x)
  (by
   rcases V with⟨Q,C,_⟩|⟨b,off,cap,cs,e,_,Q,C,Y,M,q5⟩
   .exact .inl ⟨Q,C⟩
   .exact .inr ⟨b,off,cap,cs,e,Q,C,Y,M.1,q5⟩)
  (by
   rcases hnv with q|⟨b,off,cap,cs,e,fz,Q,_,Y,M⟩
   .exact .inl q
   .exact .inr ⟨b,off,cap,Q,λj v hj=>by simp[World.cell?,Y,M j v hj]⟩)
  (AP.one e5 hnl hnr) (by rw[hol,hnl];exact e4)
 have W:(execOp a.eval o).run c.P w=.ok (.value v') w':=by rw[LR ho];show(Bind.bind (Builtin.append_ #[t,t] o.type (#[s,x].map a.eval)) _).run c.P w=_;refine C9 ?_;simpa using hr
 have hall:=AP.append hol hro hnr;have I:(xs++ys).length=Az.length+news.length:=by simp[hol,hnl]
 have T:BW o.dst c.nt=true:=by rw[h.fits.nt];exact hin
 have hfr:Bh F AA:=by simpa using h.fresh 0 (by simp[Pr.np])
 have hkb:∀b∈B,∃n r,F (.en n r)/\n∈ks/\b∈Bs n:=by intro b i;rcases hks with⟨_,rfl⟩|⟨n,rfl,_,hn,rfl⟩;simp at i;exact⟨n,_,hn,by simp,i⟩
 have hOk:∀N:Nat->Prop,(∀b,b<w.heap.size->N b->b∈B)->∀b,b<w.heap.size->((EE F Bs (λn=>n∈ks) b\/N b)\/c.Xb b)->(OB F Bs b\/c.Xb b):=by rintro N hN b i ((⟨n,s,Q,_,Y⟩|q)|q);exact .inl ⟨n,s,Q,Y⟩;exact .inl (hBO b (hN b i q));exact .inr q
 rcases hres with⟨rfl,Q,C,Y⟩|⟨gb,off,cap,cs,e',cs',Q,C,rfl,M,q5,q6,q7,q8,q9⟩|⟨cap,cs',rfl,M,⟨q5,q50⟩,q6,q9⟩;refine AV.B6 W ⟨AQ vs AA (.slice none 0 0),AQ Bs AA [],?_⟩;refine h.H.put hfr T ks (by rw[Y];exact Ao.refl _ _) w1 w2 w3 ?_ (by simp) (by simp) h.g
 rw[e3];have hx0:xs=[]:=Dd (by rw[<-hol,Q];rfl);have hy0:ys=[]:=Dd (by rw[<-hnl,C];rfl);subst hx0 hy0;exact AE.nil;have hBg:B=[gb]:=by rcases U with⟨R,_,_⟩|⟨b,off2,cap2,cs2,e2',r0,R,r2,r3,r4,r5⟩;rw[Q]at R;cases R;rw[Q]at R;injection R with R _ _;injection R with R;injection R with R _ _;rw[r0,R]
 have hoc:off+cap<=cs.size/\cap<=9223372036854775807:=by rcases U with⟨R,_,_⟩|⟨b,off2,cap2,cs2,e2',r0,R,r2,r3,r4,r5⟩;rw[Q]at R;cases R;rw[Q]at R;injection R with R _ r1c;injection R with R;injection R with R r1o _;subst R r1c r1o;rw[C]at r2;injection r2 with r2;injection r2 with r2 _ _;subst r2;exact r4
 have k:Ao (λb=>b=gb) w.heap w'.heap:=⟨by rw[q8];exact Nat.le_refl _,λb _ i=>q7 b i⟩;refine AV.B6 W ⟨AQ vs AA (.slice (some ⟨gb,off,none⟩) (Az.length+news.length) cap),AQ Bs AA [gb],?_⟩;refine h.H.put hfr T ks (k.mono λb _ i=>?_) w1 w2 w3 ?_ (by simp) (λb i=>.inl (hkb b (by rw[hBg];exact i))) h.g;subst i;exact hkb b (by rw[hBg];simp);rw[e3];simp only[AE];refine .inr ⟨_,rfl,.inr ⟨gb,off,cap,cs',e',(0,0),[],rfl,by rw[I],q6,rfl,by rw[I];exact M,by rw[q5];exact hoc.1,hoc.2,Fc.2 ⟨rfl,?_⟩⟩⟩;refine AP.ext (S:=λb=>b=gb) (Z:=λb=>OB F Bs b\/c.Xb b) k (λb _ i=>.inl (hBO b (by rw[hBg,i];simp))) (hOk _ λb _ i=>by rw[hBg];exact i) _ _ ?_;refine AP.congr (λj v hj=>?_) hall;rw[Ed];exact q9 j v hj;have k:Ao (λ_=>False) w.heap w'.heap:=by rw[q6];exact Ao.push _ _
 have hnewb:w'.heap[w.heap.size]?=some (.cells cs' e (0,0)):=by rw[q6];simp
 refine AV.B6 W ⟨AQ vs AA (.slice (some ⟨w.heap.size,0,none⟩) (Az.length+news.length) cap),AQ Bs AA [w.heap.size],?_⟩;refine h.H.put hfr T ks (k.mono λ_ _ q=>q.elim) w1 w2 w3 ?_ (by simp) (λb i=>.inr (by simp at i;omega)) h.g;rw[e3];simp only[AE];refine .inr ⟨_,rfl,.inr ⟨w.heap.size,0,cap,cs',e,(0,0),[],rfl,by rw[I],hnewb,rfl,by rw[I];exact M,by omega,q50,Fc.2 ⟨rfl,?_⟩⟩⟩;refine AP.ext (S:=λ_=>False) (Z:=λb=>OB F Bs b\/c.Xb b) k (λ_ _ q=>q.elim) (hOk _ λb i q=>by simp at q;omega) _ _ ?_;refine AP.congr (λj v hj=>?_) hall;rw[Ed,Nat.zero_add];exact q9 j v hj
 cases hz
 cases L
 cases L
 cases L
end
end Go.Cat
namespace Go.Cat
theorem AM.AQ{R:D->Value->List Nat->Prop}:∀{s:List D}{vs:List Value}{B:List Nat}{i:Nat}{d:D}{v:Value},AM R s vs B->s[i]?=some d->vs[i]?=some v->
  ∃f B1 B2,B=B1++(f++B2)/\R d v f/\∀(j:D->Value->List Nat->Prop)(x:D)(u:Value)(e:List Nat),(∀d v b,(∀k∈b,k∈B1\/k∈B2)->R d v b->j d v b)->j x u e->
   AM j (s.set i x) (vs.set i u) (B1++(e++B2))
 |[],_,_,_,_,_,_,h,_=>by simp at h
 |_::_,[],_,_,_,_,_,_,h=>by simp at h
 |Q::s,V::vs,B,0,d,v,r,l,C=>by simp only[AM]at r;obtain⟨f,B2,rfl,L,M⟩:=r;simp at l C;subst l C;refine⟨f,[],B2,rfl,L,λj x u e G J=>?_⟩;simp only[List.set_cons_zero,AM,List.nil_append];exact⟨e,B2,rfl,J,AM.imp (λd v b I q=>G d v b (λk H=>.inr (I k H)) q) M⟩
 |Q::s,V::vs,B,i+1,d,v,r,l,C=>by simp only[AM]at r;obtain⟨N,W,rfl,L,M⟩:=r;obtain⟨f,B1,B2,rfl,T,U⟩:=AM.AQ M (by simpa using l) (by simpa using C);refine⟨f,N++B1,B2,by simp,T,λj x u e G J=>?_⟩;simp only[List.set_cons_succ,AM];refine⟨N,B1++(e++B2),by simp,G _ _ _ (λk H=>.inl (BN _ H)) L,?_⟩;exact U j x u e (λd v b I q=>G d v b (λk H=>(I k H).imp (λq=>BB _ q) id) q) J
theorem List.AdV{l:List Value}{i:Nat}{z:Value}(h:l[i]?=some z):l.set i z=l:=by apply List.ext_getElem?;intro j;rw[List.getElem?_set];split;rename_i H;subst H;split;exact h.symm;rename_i b;rw[D7 (by omega)];rfl
theorem AE.setRow{fid:Nat->Nat}{h J:Array Obj}{O O' X:Nat->Prop}{G go:Nat}{u:Value}{Y:Array Value}{ge:TypeId}
  (U:∀b,b≠G->J[b]?=h[b]?) (hsz:J.size=h.size) (hg:h[G]?=some (.cells Y ge (0,0))) (hg':J[G]?=some (.cells (Y.setIfInBounds go u) ge (0,0)))
  (hgO:O G) (hO:∀b,b<h.size->O' b->O b) {es s:Sh} {x:D} {N:List Nat} (hx:AE fid J O' X es x u N) {is:List Nat} {b off i:Nat} {cs:Array Value} {e:TypeId} {xs:List D} {C:List Nat} {d1 M:D} {y z:Value}
  (l:h[b]?=some (.cells cs e (0,0))) (he:AM (AE fid h O X s) xs (cs.toList.drop off) C) (hnd:(b::C).Nodup) (f:∀k∈b::C,k∉N) (hbx:N.Nodup) (hs:s.under is.length=some es)
  (hxi:xs[i]?=some d1) (Q:An is d1 x=some M) (hz:cs[off+i]?=some z) (hw:(is=[]/\G=b/\go=off+i/\y=z)\/(is≠[]/\Wk h is z G go y))
  (ih:is≠[]->∀R,AE fid h O X s d1 z R->R.Nodup->(∀k∈R,k∉N)->Wk h is z G go y->∃C,AE fid J O' X s M z C/\(∀k∈C,k∈R\/k∈N)/\C.Nodup/\G∈R):
  ∃T B2,J[b]?=some (.cells T e (0,0))/\T.size=cs.size/\AM (AE fid J O' X s) (xs.set i M) (T.toList.drop off) B2/\(∀k∈b::B2,k∈b::C\/k∈N)/\(b::B2).Nodup/\G∈b::C:=by
 have hzl:(cs.toList.drop off)[i]?=some z:=by rw[Ed];exact hz
 obtain⟨R,B1,B2,rfl,r1,r2⟩:=AM.AQ he hxi hzl;have hnd':=(List.nodup_cons.1 hnd).2;have I:=(List.nodup_cons.1 hnd).1;obtain⟨n1,n23,n4⟩:=List.nodup_append.1 hnd';obtain⟨n2,n3,n5⟩:=List.nodup_append.1 n23;have hagr:Ao (λb=>b=G) h J:=⟨by rw[hsz];exact Nat.le_refl _,λb _ l=>U b l⟩;have htr:(∀k,k∈B1\/k∈B2->k≠G)->∀d v C,(∀k∈C,k∈B1\/k∈B2)->AE fid h O X s d v C->AE fid J O' X s d v C:=by intro H d v C hB q;exact AE.ext hagr (λb _ l=>by rw[l];exact hgO) hO s d v C (λb l e=>H b (hB b l) e) q
 by_cases hn:is=[]
 .subst hn;rcases hw with⟨_,rfl,rfl,rfl⟩|⟨hne,_⟩
  .simp only[Aa,Sh.under,AL]at hs;subst hs;simp only[An,AL]at Q;subst Q;rw[l]at hg;injection hg with hg;injection hg with g1 g2 _;subst g1 g2;have V:∀k,k∈B1\/k∈B2->k≠G:=by rintro k H rfl;exact I (by rcases H with H|H<;>simp[H])
   have hE:=r2 (AE fid J O' X s) x u N (htr V) hx;refine⟨_,B1++(N++B2),hg',by simp,?_,?_,?_,by simp⟩
   .have:(cs.setIfInBounds (off+i) u).toList.drop off=(cs.toList.drop off).set i u:=by
     rw[Array.toList_setIfInBounds,List.drop_set,if_neg (by omega),Nat.add_sub_cancel_left]
    rw[this]
    exact hE
   .intro k H;simp only[AY,Ac]at H|-;rcases H with H|H|H|H
    .exact .inl (.inl H)
    .exact .inl (.inr (.inl H))
    .exact .inr H
    .exact .inl (.inr (.inr (.inr H)))
   .refine List.nodup_cons.2 ⟨λq=>?_,List.nodup_append.2 ⟨n1,List.nodup_append.2 ⟨hbx,n3,λa U b l=>?_⟩,λa U b l=>?_⟩⟩
    .simp only[Ac]at q;rcases q with q|q|q
     .exact I (by simp[q])
     .exact f G (by simp) q
     .exact I (by simp[q])
    .rintro rfl;exact f a (by simp[l]) U
    .rintro rfl;simp only[Ac]at l;rcases l with l|l
     .exact f a (by simp[U]) l
     .exact n4 a U a (by simp[l]) rfl
  .exact(hne rfl).elim
 .rcases hw with⟨q,_⟩|⟨_,hw⟩
  .exact(hn q).elim
  obtain⟨Bn,w1,w2,w3,w4⟩:=ih hn R r1 n2 (λk H=>f k (by simp[H])) hw;have hbgb:b≠G:=by rintro rfl;exact I (by simp[w4])
  have V:∀k,k∈B1\/k∈B2->k≠G:=by rintro k H rfl;rcases H with H|H;exact n4 k H k (by simp[w4]) rfl;exact n5 k w4 k H rfl
  have hE:=r2 (AE fid J O' X s) M z Bn (htr V) w1;refine⟨cs,B1++(Bn++B2),(U b hbgb).trans l,rfl,?_,?_,?_,by simp[w4]⟩
  .have W:(cs.toList.drop off).set i z=cs.toList.drop off:=List.AdV hzl;rw[W]at hE;exact hE
  .intro k H;simp only[AY,Ac]at H|-;rcases H with H|H|H|H
   .exact .inl (.inl H)
   .exact .inl (.inr (.inl H))
   .exact(w2 k H).imp (λq=>.inr (.inr (.inl q))) id
   .exact .inl (.inr (.inr (.inr H)))
  .refine List.nodup_cons.2 ⟨λq=>?_,List.nodup_append.2 ⟨n1,List.nodup_append.2 ⟨w3,n3,λa L b' j=>?_⟩,λa L b' j=>?_⟩⟩
   .simp only[Ac]at q;rcases q with q|q|q
    .exact I (by simp[q])
    .rcases w2 _ q with q|q
     .exact I (by simp[q])
     .exact f b (by simp) q
    .exact I (by simp[q])
   .rintro rfl;rcases w2 _ L with q|q
    .exact n5 a q a j rfl
    .exact f a (by simp[j]) q
   .rintro rfl;simp only[Ac]at j;rcases j with j|j
    .rcases w2 _ j with q|q
     .exact n4 a L a (by simp[q]) rfl
     .exact f a (by simp[L]) q
    .exact n4 a L a (by simp[j]) rfl
theorem AE.set{fid:Nat->Nat}{h Y:Array Obj}{O O' X:Nat->Prop}{U go:Nat}{u:Value}{W:Array Value}{ge:TypeId}
  (ha:∀b,b≠U->Y[b]?=h[b]?) (L:Y.size=h.size) (hg:h[U]?=some (.cells W ge (0,0))) (I:Y[U]?=some (.cells (W.setIfInBounds go u) ge (0,0)))
  (J:O U) (hO:∀b,b<h.size->O' b->O b) {es:Sh} {x:D} {Bx:List Nat} (hx:AE fid Y O' X es x u Bx):
  ∀(is:List Nat)(s:Sh)(d d':D)(v y:Value)(B:List Nat),is≠[]->AE fid h O X s d v B->B.Nodup->(∀k∈B,k∉Bx)->Bx.Nodup->s.under is.length=some es->An is d x=some d'->Wk h is v U go y->
  ∃V,AE fid Y O' X s d' v V/\(∀k∈V,k∈B\/k∈Bx)/\V.Nodup/\U∈B
 |[],_,_,_,_,_,_,hne=>(hne rfl).elim
 |i::is,s,d,d',v,y,B,_=>λr hnd N G C H j=>by
  cases s with
  |v=>simp[Sh.under]at C
  |y=>simp[Sh.under]at C
  |a s=>simp[Sh.under]at C
  |m=>simp[Sh.under]at C
  |b s=>
   simp only[AO,Sh.under]at C
   simp only[AE]at r
   obtain⟨xs,b,cs,e,fz,V,rfl,rfl,rfl,hb,ht,hl,he⟩:=r
   simp only[An,Ae,AS]at H
   obtain⟨R,⟨d1,M,H⟩,rfl⟩:=H
   simp only[Wk]at j
   obtain⟨b2,o2,cs2,e2,fz2,z,hv,f,hz,j⟩:=j
   obtain⟨q1,q2⟩:=hv.box
   subst q1 q2
   rw[hb]at f
   injection f with f
   injection f with q5 q6 q7
   subst q5
   have T:fz=(0,0):=ht
   subst T
   obtain⟨Q,B2,k1,k2,k3,k4,k5,k6⟩:=AE.setRow (off:=0) (i:=o2) (y:=y) ha L hg I J hO hx hb (by simpa using he) hnd N G C M H (by simpa using hz) (by simpa using j)
    (λhn Bi r1 n2 hd j=>AE.set ha L hg I J hO hx is s d1 R z y Bi hn r1 n2 hd G C H j)
   refine⟨b2::B2,?_,k4,k5,k6⟩
   simp only[AE]
   exact⟨_,b2,Q,e,(0,0),B2,rfl,rfl,rfl,k1,rfl,by simp[k2,hl],by simpa using k3⟩
  |o s=>
   simp only[AO,Sh.under]at C
   cases d with
   |l xs=>
    simp only[An,Ae,AS]at H
    obtain⟨R,⟨d1,M,H⟩,rfl⟩:=H
    simp only[AE]at r
    rcases r with⟨q|q,_⟩|⟨ys,hy,r⟩
    .cases q
    .simp[D.flat]at q
    injection hy with hy;subst hy
    rcases r with⟨_,rfl,_⟩|⟨b,off,cap,cs,e,fz,V,rfl,rfl,hb,ht,h1,h2,h3,he⟩
    .simp at M
    simp only[Wk]at j
    obtain⟨b2,o2,cs2,e2,fz2,z,hv,f,hz,j⟩:=j
    obtain⟨q1,hil,q2⟩:=hv.slice
    subst q1 q2
    rw[hb]at f
    injection f with f
    injection f with q5 q6 q7
    subst q5
    have T:fz=(0,0):=ht
    subst T
    obtain⟨Q,B2,k1,k2,k3,k4,k5,k6⟩:=AE.setRow (y:=y) ha L hg I J hO hx hb he hnd N G C M H hz j
     (λhn Bi r1 n2 hd j=>AE.set ha L hg I J hO hx is s d1 R z y Bi hn r1 n2 hd G C H j)
    refine⟨b2::B2,?_,k4,k5,k6⟩
    simp only[AE]
    exact .inr ⟨_,rfl,.inr ⟨b2,off,cap,Q,e,(0,0),B2,rfl,by simp,k1,rfl,by simpa using h1,by rw[k2];exact h2,h3,k3⟩⟩
   |g xs=>
    simp only[AE]at r
    rcases r with⟨q|q,_⟩|⟨ys,hy,r⟩
    .cases q
    .simp[D.flat]at q
    .cases hy
   |_=>simp[An]at H
end Go.Cat
