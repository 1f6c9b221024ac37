/-
 Closures: blocks that cross put together; joins.
-/
import Derived.Test.YtjbonmaggidboaaPfKrA
set_option linter.unusedSimpArgs false
set_option linter.unusedVariables false
namespace Go.Cat
variable {K:Nat→List D→List D→Prop}
def mgF (l:List Int) (x y:Int):List Int:=l.map fun v=>if v=y then x else v
def mgP (l:List Int) (x y:Int) (i:Nat):List Int:=mgF (l.take i) x y++l.drop i
theorem mgF_len {l:List Int} {x y:Int}:(mgF l x y).length=l.length:=by simp [mgF]
theorem mgP_0 {l:List Int} {x y:Int}:mgP l x y 0=l:=by simp [mgP,mgF]
theorem mgP_n {l:List Int} {x y:Int}:mgP l x y l.length=mgF l x y:=by simp [mgP,mgF]
theorem mgP_len {l:List Int} {x y:Int} {i:Nat}:(mgP l x y i).length=l.length:=by simp [mgP,mgF]; omega
theorem mgP_at {l:List Int} {x y:Int} {i j:Nat}:atI (mgP l x y i) j=if j<i∧atI l j=y∧j<l.length then x else atI l j:=by
 simp only [atI,mgP,mgF,qtn,qgd]
 rcases qlg j l.length with h | h
 ·rcases qlg j i with g | g
  ·rw [qgl (by simp; omega)]
   simp only [List.getElem?_map,List.getElem?_take,g,if_true,qge h,Option.map_some,Option.getD_some,true_and,h,and_true]
  ·rw [qgr (by simp; omega)]
   have e:i+(j-(List.map (fun v=>if v=y then x else v) (List.take i l)).length)=j:=by simp; omega
   rw [List.getElem?_drop,e,if_neg (by omega)]
 ·have e1:(List.map (fun v=>if v=y then x else v) (List.take i l)++List.drop i l)[j]?=none:=by
   rw [List.getElem?_eq_none_iff]; simp; omega
  rw [e1,qgn h,if_neg (by omega)]
theorem mgP_t {l:List Int} {x y:Int} {i:Nat} (hi:i<l.length) (h:atI l i=y):seI (mgP l x y i) i x=mgP l x y (i+1):=by
 have h':l[i]=y:=by simpa [atI,hi] using h
 have e1:l.take (i+1)=l.take i++[l[i]]:=qta hi
 have e2:l.drop i=l[i]::l.drop (i+1):=List.drop_eq_getElem_cons hi
 simp only [mgP,mgF,seI,qtn]
 rw [e1,e2,List.map_append,List.set_append_right _ _ (by simp; omega)]
 have e3:i-(List.map (fun v=>if v=y then x else v) (List.take i l)).length=0:=by simp; omega
 rw [e3]
 simp only [List.set_cons_zero,List.map_cons,List.map_nil,if_pos h',qaa,List.singleton_append]
theorem mgP_f {l:List Int} {x y:Int} {i:Nat} (hi:i<l.length) (h:atI l i≠y):mgP l x y i=mgP l x y (i+1):=by
 have h':l[i]≠y:=by simpa [atI,hi] using h
 have e1:l.take (i+1)=l.take i++[l[i]]:=qta hi
 have e2:l.drop i=l[i]::l.drop (i+1):=List.drop_eq_getElem_cons hi
 simp only [mgP,mgF]
 rw [e1,e2,List.map_append]
 simp only [List.map_cons,List.map_nil,if_neg h',qaa,List.singleton_append]
theorem mrg_i [HA K] {l:List Int} {a b:Nat} (hl:l.length≤8) (ha:a<l.length) (hb:b<l.length):K 481 [LI l,.n a,.n b] [LI (mgF l (atI l a) (atI l b))]:=by
 refine body_by (f:=ir_impl_merged) rfl ?_; simp only [ir_impl_merged,zn,zs,zq,zi,zg,zp]
 simp (disch:=first|omega|simp only[vl];omega) only [vcd]
 obtain ⟨x,hx⟩:∃ x,x=atI l a:=⟨_,rfl⟩
 obtain ⟨y,hy⟩:∃ y,y=atI l b:=⟨_,rfl⟩
 rw [← hx,← hy]
 refine loop_ix (fun _=>True) (fun i=>[LI (mgP l x y i),.u,.u,.n x,.n y,.u,.n l.length,.n i,.u,.u]) l.length trivial (by simp [mgP_0]) (fun i hi _=>?_) (fun _=>?_)
 ·have g:=mgP_len (l:=l) (x:=x) (y:=y) (i:=i)
  have g2:atI (mgP l x y i) i=atI l i:=by rw [mgP_at,if_neg (by omega)]
  by_cases h:atI l i=y
  ·have h2:atI (mgP l x y i) i=y:=g2.trans h
   simp (disch:=first|omega|simp only[vl];omega) only [vcd]
   rw [mgP_t hi h]
  ·have h2:¬ atI (mgP l x y i) i=y:=by rw [g2]; exact h
   simp (disch:=first|omega|simp only[vl];omega) only [vcd]
   rw [mgP_f hi h]
 ·simp (disch:=first|omega|simp only[vl];omega) only [vcd]
  rw [mgP_n]
def stD (a b c d:Nat) (s:List Int×Bool):List Int×Bool:=if atI s.1 a=atI s.1 c∧atI s.1 b=atI s.1 d∧¬ atI s.1 a=atI s.1 b then (mgF s.1 (atI s.1 a) (atI s.1 b),true) else s
def psD (n a b c:Nat) (s:List Int×Bool):List Int×Bool:=iter (fun i=>stD a b c (c+1+i)) (n-(c+1)) s
def psC (n a b:Nat) (s:List Int×Bool):List Int×Bool:=iter (fun i=>psD n a b (b+1+i)) (n-(b+1)) s
def psB (n a:Nat) (s:List Int×Bool):List Int×Bool:=iter (fun i=>psC n a (a+1+i)) (n-(a+1)) s
def psA (n:Nat) (s:List Int×Bool):List Int×Bool:=iter (psB n) n s
theorem stD_len {a b c d:Nat} {s:List Int×Bool} {n:Nat} (h:s.1.length=n):(stD a b c d s).1.length=n:=by
 unfold stD; split
 ·rw [mgF_len,h]
 ·exact h
theorem psD_len {n a b c:Nat} {s:List Int×Bool} {m:Nat} (h:s.1.length=m):(psD n a b c s).1.length=m:=iter_inv (fun (s:List Int×Bool)=>s.1.length=m) h (fun _ _ h=>stD_len h) _
theorem psC_len {n a b:Nat} {s:List Int×Bool} {m:Nat} (h:s.1.length=m):(psC n a b s).1.length=m:=iter_inv (fun (s:List Int×Bool)=>s.1.length=m) h (fun _ _ h=>psD_len h) _
theorem psB_len {n a:Nat} {s:List Int×Bool} {m:Nat} (h:s.1.length=m):(psB n a s).1.length=m:=iter_inv (fun (s:List Int×Bool)=>s.1.length=m) h (fun _ _ h=>psC_len h) _
theorem psA_len {n:Nat} {s:List Int×Bool} {m:Nat} (h:s.1.length=m):(psA n s).1.length=m:=iter_inv (fun (s:List Int×Bool)=>s.1.length=m) h (fun _ _ h=>psB_len h) _
def flK (l:List Int) (s:List Int×Bool):Prop:=s.2=false→s.1=l
theorem stD_fl {a b c d:Nat} {l:List Int} {s:List Int×Bool} (h:flK l s):flK l (stD a b c d s):=by
 unfold stD; split
 ·intro e; cases e
 ·exact h
theorem psA_fl {n:Nat} {l:List Int} {s:List Int×Bool} (h:flK l s):flK l (psA n s):=
 iter_inv (flK l) h (fun _ _ h=>iter_inv (flK l) h (fun _ _ h=>iter_inv (flK l) h (fun _ _ h=>iter_inv (flK l) h (fun _ _ h=>stD_fl h) _) _) _) _
def clG (n:Nat):Nat→List Int→Option (List Int)
 | 0,_=>none
 | f+1,l=>if (psA n (l,false)).2=true then clG n f (psA n (l,false)).1 else some (psA n (l,false)).1
theorem clG_len {n:Nat}:∀ {f:Nat} {l r:List Int},clG n f l=some r→r.length=l.length
 | 0,l,r,h=>by simp [clG] at h
 | f+1,l,r,h=>by
  simp only [clG] at h
  split at h
  ·rw [clG_len h,psA_len rfl]
  ·cases h; exact psA_len rfl
theorem clo_i [HA K] {l r:List Int} {f:Nat} (hl:l.length≤8) (h:clG l.length f l=some r):K 482 [LI l] [LI (rnL r r.length),LI r]:=by
 obtain ⟨n,hn⟩:∃ n,n=l.length:=⟨_,rfl⟩
 rw [← hn] at h hl
 have hr:=(clG_len h).trans hn.symm
 refine body_by (f:=ir_impl_closure) rfl ?_; simp only [ir_impl_closure,zn,zs,zq,zi,zg,zp]
 simp (disch:=first|omega|simp only[vl];omega) only [vcd]
 refine loop_wh (fun (x:Nat×List Int×Bool×D×D)=>(if x.2.2.1=true then clG n x.1 x.2.1=some r else x.2.1=r)∧x.2.1.length=n) (fun x=>[LI x.2.1,.u,.b x.2.2.1,.u,.u,.u,.u,.u,.u,x.2.2.2.1,x.2.2.2.2,.u,.u,.u,.u,.u]) (fun x=>if x.2.2.1=true then x.1+1 else 0) (f,l,true,.u,.u) ⟨by simpa using h,hn.symm⟩ rfl ?_
 rintro ⟨f,l,g,d9,d10⟩ ⟨w1,w2⟩
 dsimp only at w1 w2
 cases g with
 | false=>
  simp only [if_false,qft] at w1
  subst w1
  simp (disch:=first|omega|simp only[vl];omega) only [vcd]
  refine call_by (rn_i (K:=K) (l:=l) (by omega)) rfl ?_
  simp (disch:=first|omega|simp only[vl];omega) only [vcd]
 | true=>
  simp only [if_true] at w1
  cases f with
  | zero=>simp [clG] at w1
  | succ f=>
   simp only [clG] at w1
   simp (disch:=first|omega|simp only[vl];omega) only [vcd]
   refine loop_fold (psB n) (fun _ s=>s.1.length=n) (fun a s=>[LI s.1,.u,.b s.2,.u,.u,.u,.u,.u,.u,.n n,.n a,.u,.u,.u,.u,.u]) n (l,false) w2 (by simp [w2]) (fun a s ha h=>psB_len h) (fun a s ha hP hs=>?_) (fun s hs hP=>?_)
   ·simp (disch:=first|omega|simp only[vl];omega) only [vcd]
    refine loop_fold (fun i=>psC n a (a+1+i)) (fun _ s=>s.1.length=n) (fun i s=>[LI s.1,.u,.b s.2,.n a,.n ((a:Int)+1+i),.u,.u,.u,.u,.n n,.n a,.u,.u,.u,.u,.u]) (n-(a+1)) s hP (by simp) (fun i s hi h=>psC_len h) (fun i s hi hP hs=>?_) (fun s hs hP=>?_)
    ·obtain ⟨b,hb⟩:∃ b,b=a+1+i:=⟨_,rfl⟩
     have eb:(a:Int)+1+i=(b:Int):=by omega
     have eb2:(a:Int)+1+((i+1:Nat):Int)=(b:Int)+1:=by omega
     rw [← hb,eb,eb2]
     simp (disch:=first|omega|simp only[vl];omega) only [vcd]
     refine loop_fold (fun i=>psD n a b (b+1+i)) (fun _ s=>s.1.length=n) (fun i s=>[LI s.1,.u,.b s.2,.n a,.n b,.n ((b:Int)+1+i),.u,.u,.u,.n n,.n a,.u,.u,.u,.u,.u]) (n-(b+1)) s hP (by simp) (fun i s hi h=>psD_len h) (fun i s hi hP hs=>?_) (fun s hs hP=>?_)
     ·obtain ⟨c,hc⟩:∃ c,c=b+1+i:=⟨_,rfl⟩
      have ec:(b:Int)+1+i=(c:Int):=by omega
      have ec2:(b:Int)+1+((i+1:Nat):Int)=(c:Int)+1:=by omega
      rw [← hc,ec,ec2]
      simp (disch:=first|omega|simp only[vl];omega) only [vcd]
      refine loop_fold (fun i=>stD a b c (c+1+i)) (fun _ s=>s.1.length=n) (fun i s=>[LI s.1,.u,.b s.2,.n a,.n b,.n c,.n ((c:Int)+1+i),.u,.u,.n n,.n a,.u,.u,.u,.u,.u]) (n-(c+1)) s hP (by simp) (fun i s hi h=>stD_len h) (fun i s hi hP hs=>?_) (fun s hs hP=>?_)
      ·obtain ⟨d,hd⟩:∃ d,d=c+1+i:=⟨_,rfl⟩
       have ed:(c:Int)+1+i=(d:Int):=by omega
       have ed2:(c:Int)+1+((i+1:Nat):Int)=(d:Int)+1:=by omega
       rw [← hd,ed,ed2]
       obtain ⟨s,g⟩:=s
       dsimp only at hP
       by_cases h1:atI s a=atI s c
       ·by_cases h2:atI s b=atI s d
        ·by_cases h3:atI s a=atI s b
         ·have e:stD a b c d (s,g)=(s,g):=by simp [stD,h3]
          rw [e]
          simp (disch:=first|omega|simp only[vl];omega) only [vcd]
         ·have e:stD a b c d (s,g)=(mgF s (atI s a) (atI s b),true):=by simp only [stD]; rw [if_pos ⟨h1,h2,h3⟩]
          rw [e]
          simp (disch:=first|omega|simp only[vl];omega) only [vcd]
          refine call_by (mrg_i (K:=K) (l:=s) (a:=a) (b:=b) (by omega) (by omega) (by omega)) rfl ?_
          simp (disch:=first|omega|simp only[vl];omega) only [vcd]
        ·have e:stD a b c d (s,g)=(s,g):=by simp [stD,h2]
         rw [e]
         simp (disch:=first|omega|simp only[vl];omega) only [vcd]
       ·have e:stD a b c d (s,g)=(s,g):=by simp [stD,h1]
        rw [e]
        simp (disch:=first|omega|simp only[vl];omega) only [vcd]
      ·obtain ⟨s',g'⟩:=s
       dsimp only at hP ⊢
       simp (maxSteps:=3000000) (disch:=first|omega|simp only[vl];omega) only [vcd]
       have hs:(s',g')=psD n a b c s:=hs
       rw [← hs]
     ·simp (disch:=first|omega|simp only[vl];omega) only [vcd]
      rw [hs]; rfl
    ·simp (disch:=first|omega|simp only[vl];omega) only [vcd]
     rw [hs]; rfl
   ·have hs:s=psA n (l,false):=hs
    simp (disch:=first|omega|simp only[vl];omega) only [vcd]
    refine ⟨(f,s.1,s.2,.n n,.n n),?_,⟨?_,hP⟩,rfl⟩
    ·show (if s.2=true then f+1 else 0)<f+1+1
     split <;> omega
    ·show if s.2=true then clG n f s.1=some r else s.1=r
     rw [← hs] at w1
     cases h2:s.2
     ·rw [h2] at w1
      simp only [if_false,qft] at w1 ⊢
      exact Option.some.inj w1
     ·rw [h2] at w1
      simp only [if_true] at w1 ⊢
      exact w1
theorem ncl_i [HA K] {p:List Int} (h1:p.length≤1099511627776) {r:List Int} {f:Nat} (h:isPt p=true→clG p.length f p=some r):K 451 [LI p] [LI (if isPt p=true then rnL r r.length else []),.b (isPt p)]:=by
 have k1:=pt_i (K:=K) (p:=p) h1
 refine body_by (f:=ir_impl_NoncrossingClosure) rfl ?_; simp only [ir_impl_NoncrossingClosure,zn,zs,zq,zi,zg,zp]
 simp (disch:=first|omega|simp only[vl];omega) only [vcd]
 cases hp:isPt p
 ·rw [hp] at k1
  refine call_by (k1) rfl ?_
  simp (disch:=first|omega|simp only[vl];omega) only [vcd]
  rfl
 ·rw [hp] at k1
  have h8:=isPt_8 hp
  refine call_by (k1) rfl ?_
  simp (disch:=first|omega|simp only[vl];omega) only [vcd]
  refine call_by (copyInts_ok (K:=K) (p:=p) (by omega)) rfl ?_
  simp (disch:=first|omega|simp only[vl];omega) only [vcd]
  refine call_by (clo_i (K:=K) h8 (h hp)) rfl ?_
  simp (disch:=first|omega|simp only[vl];omega) only [vcd]
theorem appZK {p:List Int} (h:p.length≤1048576):appD true (.l []) (LI p)=some (LI p):=LI_app (zs:=[]) (by simp; omega)
def stS (a b c d:Nat) (s:List Int):List Int:=(stD a b c d (s,false)).1
def sqD (n a b c:Nat) (s:List Int):List Int:=iter (fun i=>stS a b c (c+1+i)) (n-(c+1)) s
def sqC (n a b:Nat) (s:List Int):List Int:=iter (fun i=>sqD n a b (b+1+i)) (n-(b+1)) s
def sqB (n a:Nat) (s:List Int):List Int:=iter (fun i=>sqC n a (a+1+i)) (n-(a+1)) s
def sqA (n:Nat) (s:List Int):List Int:=iter (sqB n) n s
theorem stS_fst {a b c d:Nat} {s:List Int×Bool}:(stD a b c d s).1=stS a b c d s.1:=by
 simp only [stS,stD]; split <;> rfl
theorem iter_fst {F:Nat→List Int×Bool→List Int×Bool} {g:Nat→List Int→List Int} (h:∀ i s,(F i s).1=g i s.1) {s:List Int×Bool}:∀ n,(iter F n s).1=iter g n s.1
 | 0=>rfl
 | n+1=>by rw [iter,iter,h,iter_fst h n]
theorem sqD_fst {n a b c:Nat} {s:List Int×Bool}:(psD n a b c s).1=sqD n a b c s.1:=iter_fst (F:=fun i=>stD a b c (c+1+i)) (g:=fun i=>stS a b c (c+1+i)) (fun _ _=>stS_fst) _
theorem sqC_fst {n a b:Nat} {s:List Int×Bool}:(psC n a b s).1=sqC n a b s.1:=iter_fst (F:=fun i=>psD n a b (b+1+i)) (g:=fun i=>sqD n a b (b+1+i)) (fun _ _=>sqD_fst) _
theorem sqB_fst {n a:Nat} {s:List Int×Bool}:(psB n a s).1=sqB n a s.1:=iter_fst (F:=fun i=>psC n a (a+1+i)) (g:=fun i=>sqC n a (a+1+i)) (fun _ _=>sqC_fst) _
theorem sqA_fst {n:Nat} {s:List Int×Bool}:(psA n s).1=sqA n s.1:=iter_fst (F:=psB n) (g:=sqB n) (fun _ _=>sqB_fst) _
theorem stS_len {a b c d:Nat} {s:List Int} {n:Nat} (h:s.length=n):(stS a b c d s).length=n:=stD_len (s:=(s,false)) h
theorem sqD_len {n a b c:Nat} {s:List Int} {m:Nat} (h:s.length=m):(sqD n a b c s).length=m:=iter_inv (fun (s:List Int)=>s.length=m) h (fun _ _ h=>stS_len h) _
theorem sqC_len {n a b:Nat} {s:List Int} {m:Nat} (h:s.length=m):(sqC n a b s).length=m:=iter_inv (fun (s:List Int)=>s.length=m) h (fun _ _ h=>sqD_len h) _
theorem sqB_len {n a:Nat} {s:List Int} {m:Nat} (h:s.length=m):(sqB n a s).length=m:=iter_inv (fun (s:List Int)=>s.length=m) h (fun _ _ h=>sqC_len h) _
theorem sqA_len {n:Nat} {s:List Int} {m:Nat} (h:s.length=m):(sqA n s).length=m:=iter_inv (fun (s:List Int)=>s.length=m) h (fun _ _ h=>sqB_len h) _
theorem iter_fr {σ:Type} {f:σ→σ} {s:σ}:∀ k,iter (fun _=>f) (k+1) s=iter (fun _=>f) k (f s)
 | 0=>rfl
 | k+1=>by rw [iter,iter_fr k]; rfl
theorem iter_fx {σ:Type} {f:σ→σ} {s:σ} (h:f s=s):∀ k,iter (fun _=>f) k s=s
 | 0=>rfl
 | k+1=>by rw [iter,iter_fx h k,h]
theorem clG_it {n:Nat}:∀ {f:Nat} {l r:List Int} {k:Nat},clG n f l=some r→f≤k→iter (fun _=>sqA n) k l=r
 | 0,l,r,k,h,_=>by simp [clG] at h
 | f+1,l,r,k,h,hk=>by
  obtain ⟨k,rfl⟩:∃ m,k=m+1:=⟨k-1,by omega⟩
  rw [iter_fr]
  have e:=sqA_fst (n:=n) (s:=(l,false))
  simp only [clG] at h
  by_cases hf:(psA n (l,false)).2=true
  ·rw [if_pos hf,e] at h
   exact clG_it h (by omega)
  ·rw [if_neg hf] at h
   have hf:(psA n (l,false)).2=false:=by simpa using hf
   have h2:(psA n (l,false)).1=l:=psA_fl (l:=l) (fun _=>rfl) hf
   rw [e] at h h2
   have h2:sqA n l=l:=h2
   cases h
   show iter (fun _=>sqA n) k (sqA n l)=sqA n l
   rw [h2]
   exact iter_fx h2 k
set_option maxHeartbeats 1600000 in
theorem clo_s [HA K] {p r:List Int} {f:Nat} (hp:isPt p=true) (h:clG p.length f p=some r) (hf:f≤p.length+1):K 452 [LI p] [LI (rnL r r.length),.b true]:=by
 have h8:=isPt_8 hp
 have k1:=pt_s (K:=K) (p:=p) (by omega)
 rw [hp] at k1
 obtain ⟨n,hn⟩:∃ n,n=p.length:=⟨_,rfl⟩
 rw [← hn] at h hf h8
 have hr:=(clG_len h).trans hn.symm
 have hit:=clG_it h hf
 refine body_by (f:=ir_spec_NoncrossingClosure) rfl ?_; simp only [ir_spec_NoncrossingClosure,zn,zs,zq,zi,zg,zp]
 simp (disch:=first|omega|simp only[vl];omega) only [vcd]
 refine call_by (k1) rfl ?_
 simp (disch:=first|omega|simp only[vl];omega) only [vcd,appZK]
 refine loop_fold (fun _=>sqA n) (fun _ s=>s.length=n) (fun i s=>[LI p,.u,.u,LI s,.n i,.u,.u,.u,.u,.u,.u,.u,.u,.u,.u,.u,.u,.u,.u,.u]) (n+1) p hn.symm (by simp) (fun i s hi h=>sqA_len h) (fun i s hi hP hs=>?_) (fun s hs hP=>?_)
 ·simp (disch:=first|omega|simp only[vl];omega) only [vcd]
  refine loop_fold (sqB n) (fun _ s=>s.length=n) (fun a s=>[LI p,.u,.u,LI s,.n i,.n a,.u,.u,.u,.u,.u,.u,.u,.u,.u,.u,.u,.u,.u,.u]) n s hP (by simp) (fun a s ha h=>sqB_len h) (fun a s ha hP hs=>?_) (fun s hs hP=>?_)
  ·simp (disch:=first|omega|simp only[vl];omega) only [vcd]
   refine loop_fold (fun i=>sqC n a (a+1+i)) (fun _ s=>s.length=n) (fun j s=>[LI p,.u,.u,LI s,.n i,.n a,.n ((a:Int)+1+j),.u,.u,.u,.u,.u,.u,.u,.u,.u,.u,.u,.u,.u]) (n-(a+1)) s hP (by simp) (fun i s hi h=>sqC_len h) (fun j s hj hP hs=>?_) (fun s hs hP=>?_)
   ·obtain ⟨b,hb⟩:∃ b,b=a+1+j:=⟨_,rfl⟩
    have eb:(a:Int)+1+j=(b:Int):=by omega
    have eb2:(a:Int)+1+((j+1:Nat):Int)=(b:Int)+1:=by omega
    rw [← hb,eb,eb2]
    simp (disch:=first|omega|simp only[vl];omega) only [vcd]
    refine loop_fold (fun i=>sqD n a b (b+1+i)) (fun _ s=>s.length=n) (fun j s=>[LI p,.u,.u,LI s,.n i,.n a,.n b,.n ((b:Int)+1+j),.u,.u,.u,.u,.u,.u,.u,.u,.u,.u,.u,.u]) (n-(b+1)) s hP (by simp) (fun i s hi h=>sqD_len h) (fun j s hj hP hs=>?_) (fun s hs hP=>?_)
    ·obtain ⟨c,hc⟩:∃ c,c=b+1+j:=⟨_,rfl⟩
     have ec:(b:Int)+1+j=(c:Int):=by omega
     have ec2:(b:Int)+1+((j+1:Nat):Int)=(c:Int)+1:=by omega
     rw [← hc,ec,ec2]
     simp (disch:=first|omega|simp only[vl];omega) only [vcd]
     refine loop_fold (fun i=>stS a b c (c+1+i)) (fun _ s=>s.length=n) (fun j s=>[LI p,.u,.u,LI s,.n i,.n a,.n b,.n c,.n ((c:Int)+1+j),.u,.u,.u,.u,.u,.u,.u,.u,.u,.u,.u]) (n-(c+1)) s hP (by simp) (fun i s hi h=>stS_len h) (fun j s hj hP hs=>?_) (fun s hs hP=>?_)
     ·obtain ⟨d,hd⟩:∃ d,d=c+1+j:=⟨_,rfl⟩
      have ed:(c:Int)+1+j=(d:Int):=by omega
      have ed2:(c:Int)+1+((j+1:Nat):Int)=(d:Int)+1:=by omega
      rw [← hd,ed,ed2]
      by_cases h1:atI s a=atI s c
      ·by_cases h2:atI s b=atI s d
       ·by_cases h3:atI s a=atI s b
        ·have e:stS a b c d s=s:=by simp [stS,stD,h3]
         rw [e]
         simp (disch:=first|omega|simp only[vl];omega) only [vcd]
        ·have e:stS a b c d s=mgF s (atI s a) (atI s b):=by simp only [stS,stD]; rw [if_pos ⟨h1,h2,h3⟩]
         rw [e]
         obtain ⟨y,hy⟩:∃ y,y=atI s b:=⟨_,rfl⟩
         simp (disch:=first|omega|simp only[vl];omega) only [vcd]
         rw [← hy]
         refine loop_ix (fun _=>True) (fun j=>[LI p,.u,.u,LI (mgP s (atI s a) y j),.n i,.n a,.n b,.n c,.n d,.n y,.n j,.u,.u,.u,.u,.u,.u,.u,.u,.u]) n trivial (by simp [mgP_0]) (fun j hj _=>?_) (fun _=>?_)
         ·have g:=mgP_len (l:=s) (x:=atI s a) (y:=y) (i:=j)
          have g2:atI (mgP s (atI s a) y j) j=atI s j:=by rw [mgP_at,if_neg (by omega)]
          have g3:atI (mgP s (atI s a) y j) a=atI s a:=by rw [mgP_at,if_neg (fun q=>h3 (q.2.1.trans hy))]
          by_cases h:atI s j=y
          ·have h2:atI (mgP s (atI s a) y j) j=y:=g2.trans h
           simp (disch:=first|omega|simp only[vl];omega) only [vcd]
           rw [g3,mgP_t (by omega) h]
          ·have h2:¬ atI (mgP s (atI s a) y j) j=y:=by rw [g2]; exact h
           simp (disch:=first|omega|simp only[vl];omega) only [vcd]
           rw [mgP_f (by omega) h]
         ·have g:=mgP_len (l:=s) (x:=atI s a) (y:=y) (i:=n)
          have g4:mgP s (atI s a) y n=mgF s (atI s a) y:=by rw [← hP,mgP_n]
          simp (maxSteps:=3000000) (disch:=first|omega|simp only[vl];omega) only [vcd]
          rw [g4]
       ·have e:stS a b c d s=s:=by simp [stS,stD,h2]
        rw [e]
        simp (disch:=first|omega|simp only[vl];omega) only [vcd]
      ·have e:stS a b c d s=s:=by simp [stS,stD,h1]
       rw [e]
       simp (disch:=first|omega|simp only[vl];omega) only [vcd]
     ·simp (maxSteps:=3000000) (disch:=first|omega|simp only[vl];omega) only [vcd]
      rw [hs]; rfl
    ·simp (disch:=first|omega|simp only[vl];omega) only [vcd]
     rw [hs]; rfl
   ·simp (disch:=first|omega|simp only[vl];omega) only [vcd]
    rw [hs]; rfl
  ·simp (disch:=first|omega|simp only[vl];omega) only [vcd]
   rw [hs]; rfl
 ·rw [hit] at hs
  subst hs
  simp (disch:=first|omega|simp only[vl];omega) only [vcd]
  refine call_by (rn_s (K:=K) (l:=s) (by omega)) rfl ?_
  simp (disch:=first|omega|simp only[vl];omega) only [vcd]
