/-
 What holds of all partitions of at most eight elements, and of pairs of at most five: by the kernel.
-/
import Derived.Test.YtjbonmaggidboaaPfKrB
import Derived.Test.YtjbonmaggidboaaPfKrD
set_option linter.unusedSimpArgs false
set_option linter.unusedVariables false
namespace Go.Cat
def ptC:List Int→Nat→Bool
 | [],_=>true
 | x::t,nx=>decide (0≤x)&&(decide (x≤nx)&&ptC t (max nx (x.toNat+1)))
theorem ptC_ok:∀ {t acc:List Int} {nx:Nat},nxF (acc++t) acc.length=nx→(∀ j:Nat,acc.length≤j→j<(acc++t).length→inR 0 (nxF (acc++t) j) (atI (acc++t) j)=true)→ptC t nx=true
 | [],acc,nx,_,_=>rfl
 | x::t,acc,nx,h,hv=>by
  have e1:acc++x::t=(acc++[x])++t:=by simp
  have hx:atI (acc++x::t) acc.length=x:=by simp [atI]
  have h0:=inR_iff.1 (hv acc.length (Nat.le_refl _) (by simp))
  rw [hx,h] at h0
  simp only [ptC,qba,qde]
  refine ⟨h0.1,h0.2,?_⟩
  refine ptC_ok (t:=t) (acc:=acc++[x]) ?_ (fun j hj hl=>?_)
  ·rw [← e1]
   have e2:(acc++[x]).length=acc.length+1:=by simp
   rw [e2,nxF,hx,h]
   omega
  ·rw [← e1] at hl ⊢
   exact hv j (by simp at hj; omega) hl
theorem isPt_C {p:List Int} (h:isPt p=true):ptC p 0=true:=ptC_ok (acc:=[]) (t:=p) rfl fun j _ hj=>(isPt_V h).1 j (by simpa using hj)
def allR (Q:List Int→Bool):Nat→List Int→Nat→Bool
 | 0,acc,_=>Q acc
 | n+1,acc,nx=>Q acc&&(List.range (nx+1)).all fun b=>allR Q n (acc++[(b:Int)]) (max nx (b+1))
theorem allR_ok {Q:List Int→Bool}:∀ {n:Nat} {t acc:List Int} {nx:Nat},allR Q n acc nx=true→ptC t nx=true→t.length≤n→Q (acc++t)=true
 | 0,t,acc,nx,h,ht,hl=>by
  have:t=[]:=List.length_eq_zero_iff.1 (by omega)
  subst this
  simpa [allR] using h
 | n+1,[],acc,nx,h,ht,hl=>by
  simp only [allR,qba] at h
  simpa using h.1
 | n+1,x::t,acc,nx,h,ht,hl=>by
  simp only [allR,qba,qat,List.mem_range] at h
  simp only [ptC,qba,qde] at ht
  have e1:acc++x::t=(acc++[x])++t:=by simp
  have e2:((x.toNat:Nat):Int)=x:=by omega
  have h2:=h.2 x.toNat (by omega)
  rw [e2] at h2
  rw [e1]
  exact allR_ok h2 ht.2.2 (by simp at hl; omega)
def allN (Q:List Int→Bool):Nat→List Int→Nat→Bool
 | 0,acc,_=>!ncA acc || Q acc
 | n+1,acc,nx=>!ncA acc || (Q acc&&(List.range (nx+1)).all fun b=>allN Q n (acc++[(b:Int)]) (max nx (b+1)))
theorem tlA_pre {f:Int→List Int→Bool} (hf:∀ x a b,f x (a++b)=true→f x a=true):∀ {a b:List Int},tlA f (a++b)=true→tlA f a=true
 | [],b,_=>rfl
 | x::a,b,h=>by
  simp only [List.cons_append,tlA,qba] at h ⊢
  exact ⟨hf x a b h.1,tlA_pre hf h.2⟩
theorem ncQ_pre {x y z:Int} {a b:List Int} (h:ncQ x y z (a++b)=true):ncQ x y z a=true:=tlA_pre (f:=fun u _=>!(decide (x=z)&&decide (y=u)&&!decide (x=y))) (fun _ _ _ h=>h) h
theorem ncC_pre {x y:Int} {a b:List Int} (h:ncC x y (a++b)=true):ncC x y a=true:=tlA_pre (f:=fun z t=>ncQ x y z t) (fun _ _ _ h=>ncQ_pre h) h
theorem ncB_pre {x:Int} {a b:List Int} (h:ncB x (a++b)=true):ncB x a=true:=tlA_pre (f:=fun y t=>ncC x y t) (fun _ _ _ h=>ncC_pre h) h
theorem ncA_pre {a b:List Int} (h:ncA (a++b)=true):ncA a=true:=tlA_pre (f:=fun x t=>ncB x t) (fun _ _ _ h=>ncB_pre h) h
theorem allN_ok {Q:List Int→Bool}:∀ {n:Nat} {t acc:List Int} {nx:Nat},allN Q n acc nx=true→ptC t nx=true→t.length≤n→ncA (acc++t)=true→Q (acc++t)=true
 | 0,t,acc,nx,h,ht,hl,hc=>by
  have:t=[]:=List.length_eq_zero_iff.1 (by omega)
  subst this
  simp only [List.append_nil] at hc ⊢
  simpa [allN,hc] using h
 | n+1,[],acc,nx,h,ht,hl,hc=>by
  simp only [List.append_nil] at hc ⊢
  simp only [allN,hc,Bool.not_true,Bool.false_or,qba] at h
  exact h.1
 | n+1,x::t,acc,nx,h,ht,hl,hc=>by
  simp only [allN,ncA_pre hc,Bool.not_true,Bool.false_or,qba,qat,List.mem_range] at h
  simp only [ptC,qba,qde] at ht
  have e1:acc++x::t=(acc++[x])++t:=by simp
  have e2:((x.toNat:Nat):Int)=x:=by omega
  have h2:=h.2 x.toNat (by omega)
  rw [e2] at h2
  rw [e1] at hc ⊢
  exact allN_ok h2 ht.2.2 (by simp at hl; omega) hc
theorem all_nc {Q:List Int→Bool} {n:Nat} (h:allN Q n [] 0=true) {p:List Int} (hp:ncF p=true) (hl:p.length≤n):Q p=true:=
 allN_ok (acc:=[]) h (isPt_C (ncF_pt hp)) hl (by simp only [ncF,qba] at hp; exact hp.2)
theorem all_pt {Q:List Int→Bool} {n:Nat} (h:allR Q n [] 0=true) {p:List Int} (hp:isPt p=true) (hl:p.length≤n):Q p=true:=
 allR_ok (acc:=[]) h (isPt_C hp) hl
def fcI {α:Type} (x:Int) (k:Int→α):α:=if x=0 then k 0 else if x=1 then k 1 else if x=2 then k 2 else if x=3 then k 3 else if x=4 then k 4 else if x=5 then k 5 else k x
theorem fcI_eq {α:Type} {x:Int} {k:Int→α}:fcI x k=k x:=by
 unfold fcI
 repeat' split
 all_goals first | rfl | (rename_i h; rw [h])
def fcL {α:Type}:List Int→(List Int→α)→α
 | [],k=>k []
 | x::t,k=>fcI x fun x'=>fcL t fun t'=>k (x'::t')
theorem fcL_eq {α:Type}:∀ {l:List Int} {k:List Int→α},fcL l k=k l
 | [],k=>rfl
 | x::t,k=>by rw [fcL,fcI_eq,fcL_eq]
def fcS {α:Type} (s:List Int×Bool) (k:List Int×Bool→α):α:=fcL s.1 fun l=>match s.2 with
 | true=>k (l,true)
 | false=>k (l,false)
theorem fcS_eq {α:Type} {s:List Int×Bool} {k:List Int×Bool→α}:fcS s k=k s:=by
 obtain ⟨l,b⟩:=s
 unfold fcS
 rw [fcL_eq]
 cases b <;> rfl
def itX (f:Nat→List Int×Bool→List Int×Bool):Nat→List Int×Bool→List Int×Bool
 | 0,s=>s
 | n+1,s=>fcS (itX f n s) (f n)
theorem itX_eq {f:Nat→List Int×Bool→List Int×Bool} {s:List Int×Bool}:∀ n,itX f n s=iter f n s
 | 0=>rfl
 | n+1=>by rw [itX,fcS_eq,itX_eq n]; rfl
def pxD (n a b c:Nat) (s:List Int×Bool):List Int×Bool:=itX (fun i=>stD a b c (c+1+i)) (n-(c+1)) s
def pxC (n a b:Nat) (s:List Int×Bool):List Int×Bool:=itX (fun i=>pxD n a b (b+1+i)) (n-(b+1)) s
def pxB (n a:Nat) (s:List Int×Bool):List Int×Bool:=itX (fun i=>pxC n a (a+1+i)) (n-(a+1)) s
def pxA (n:Nat) (s:List Int×Bool):List Int×Bool:=itX (pxB n) n s
theorem pxA_eq {n:Nat}:pxA n=psA n:=by
 have e1:∀ a b c,pxD n a b c=psD n a b c:=fun a b c=>funext fun s=>itX_eq _
 have e2:∀ a b,pxC n a b=psC n a b:=fun a b=>funext fun s=>by unfold pxC psC; rw [itX_eq]; simp only [e1]
 have e3:∀ a,pxB n a=psB n a:=fun a=>funext fun s=>by unfold pxB psB; rw [itX_eq]; simp only [e2]
 funext s
 unfold pxA psA
 rw [itX_eq]
 have:pxB n=psB n:=funext e3
 rw [this]
def clX (n:Nat):Nat→List Int→Option (List Int)
 | 0,_=>none
 | f+1,l=>fcS (pxA n (l,false)) fun s=>match s.2 with
  | true=>clX n f s.1
  | false=>some s.1
theorem clX_eq {n:Nat}:∀ {f:Nat} {l:List Int},clX n f l=clG n f l
 | 0,l=>rfl
 | f+1,l=>by
  simp only [clX,clG,fcS_eq,pxA_eq]
  cases h:(psA n (l,false)).2
  ·simp
  ·simp [clX_eq]
def kerC (p:List Int):Bool:=matF (moF p)&&(match cmR p with
 | some d=>ncF d&&(match cmR d with
  | some e=>isPt e&&(decide (e.length=p.length)&&(decide (p.length=0) || (decide (tpT e=p)&&decide (rkP p+rkP d=(p.length:Int)-1))))
  | none=>false)
 | none=>false)
theorem kerC6:allN kerC 6 [] 0=true:=by kernel_rfl
def kerT (t:List Int):Bool:=match clX t.length (t.length+1) t with
 | some r=>fcL (rnL r t.length) fun v=>isPt v&&(ncA v&&fiB t v)
 | none=>false
theorem kerT6:allR kerT 6 [] 0=true:=by kernel_rfl
def kerJ (p q:List Int):Bool:=!decide (p.length=q.length) || (fcL (jnF q p) fun j=>fcL (rnL j p.length) fun j'=>(match clX p.length (p.length+1) j,clX p.length (p.length+1) j' with
 | some r,some r'=>decide (r.length=p.length)&&(isPt j'&&fcL (rnL r p.length) fun k=>(decide (k=rnL r' p.length)&&(ncF k&&(fiF p k&&fiF q k))))
 | _,_=>false)&&((fcL (rnL (meL 100 p q p.length) p.length) fun m=>ncF m&&(fiF m p&&fiF m q))&&
 ((match cmR p,cmR q with
 | some x,some y=>fcL x fun x=>fcL y fun y=>fiF p q == fiF y x
 | _,_=>false)&&(!fiB p q || (decide (p=q) || decide (rkP p<rkP q))))))
def kerM (p q:List Int):Bool:=!decide (p.length=q.length) || decide (rnL (meL 100 p q p.length) p.length=rnL (meL 9 p q p.length) p.length)
