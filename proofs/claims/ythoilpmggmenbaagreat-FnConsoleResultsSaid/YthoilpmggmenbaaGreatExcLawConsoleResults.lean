/-
 The program's exchange (underscores to spaces in a copy of a string's bytes), by hand.
-/
import Derived.Deep.LoopGhost
import Derived.Laws.IdiomStrings
import Derived.Test.YthoilpmggmenbaaGreatPfCkS
import Derived.Test.YthoilpmggmenbaaGreatSchLawConsoleResults
set_option linter.unusedSimpArgs false
set_option linter.unusedVariables false
namespace Go.Proofs.YthoilpmggmenbaaGreat.fnConsoleResults
open Go Go.Cat Go.RowKit Go.Proofs.YthoilpmggmenbaaGreat
set_option maxRecDepth 100000
def Xr(b:Nat)(l:List Nat)(w1 w:World):Prop:=(∃C,w.heap[b]?=some (.cells C 5 (C.size,C.size+1))/\l.length<=C.size/\∀j:Nat,j<l.length->C[j]?=some (.int .u8 (AI l j)))/\
 w.heap.size=w1.heap.size/\(∀x,x≠b->w.heap[x]?=w1.heap[x]?)/\w.os=w1.os/\w.tape=w1.tape/\w.output=w1.output
theorem Xr.cell{b:Nat}{l:List Nat}{w1 w:World}(h:Xr b l w1 w){k:Nat}(hk:k<l.length):w.cell? ⟨b,k,none⟩=some (.int .u8 (AI l k))/\w.frozen? ⟨b,k,none⟩=false:=by obtain⟨⟨C,h1,h2,h3⟩,_⟩:=h;constructor;simp[World.cell?,h1,h3 k hk];simp[World.frozen?,h1];omega
theorem Xr.set{b:Nat}{l:List Nat}{w1 w:World}(h:Xr b l w1 w){k c:Nat}(hk:k<l.length):Xr b (l.set k c) w1 (w.setCell ⟨b,k,none⟩ (.int .u8 c)):=by obtain⟨⟨C,h1,h2,h3⟩,h4,h5,h6,h7,h8⟩:=h;refine⟨⟨C.setIfInBounds k (.int .u8 c),?_,by simpa using h2,λj hj=>?_⟩,by simpa[World.setCell]using h4,λx hx=>?_,h6,h7,h8⟩;simp[World.setCell,Array.getElem?_modify,h1];rw[List.length_set]at hj;rw[Array.getElem?_setIfInBounds];by_cases e:k=j;subst e;rw[if_pos rfl,if_pos (by omega)];simp[AI,hj];rw[if_neg e,h3 j hj];simp[AI,e];rw[<-h5 x hx];simp[World.setCell,Array.getElem?_modify,Ne.symm hx]
def Jn(l:List Nat):Bool:=l.any λc=>c==95
theorem ZV{l:List Nat}{k:Nat}(h:k<l.length):Jn (l.take (k+1))=(Jn (l.take k)||AI l k==95):=by rw[HX h];simp[Jn]
def Fg(l:List Nat)(k:Nat):List Nat:=Da (l.take k)++l.drop k
theorem Sp{l:List Nat}{k:Nat}:(Fg l k).length=l.length:=by simp[Fg,Da];omega
theorem AcR{l:List Nat}{k:Nat}(h:k<l.length):AI (Fg l k) k=AI l k:=by simp[Fg,Da,AI,GK,Nat.min_eq_left (Nat.le_of_lt h)]
theorem AbY{l:List Nat}{k:Nat}(h:k<l.length)(c:AI l k=95):(Fg l k).set k 32=Fg l (k+1):=by unfold Fg;rw[HX h,EJ h];simp[Da,c,Nat.min_eq_left (Nat.le_of_lt h)]
theorem AR7{l:List Nat}{k:Nat}(h:k<l.length)(c:AI l k≠95):Fg l k=Fg l (k+1):=by unfold Fg;rw[HX h,EJ h];simp[Da,c]
theorem ASN{l:List Nat}:Fg l l.length=Da l:=by simp[Fg]
set_option maxRecDepth 1000000 in
set_option maxHeartbeats 2000000 in
theorem t239(l:List Nat)(r:ByteArray)(cap b:Nat)(S:ByteArray)(w w1:World)
   (hc:(convert 9 22 (.string S)).run Tryz.prog w=.ok (.slice (some ⟨b,0,none⟩) l.length cap) w1)
   (h0:Hid (Xr b l w1 w1)) (hl:Hid (l.length<1000000000))
   (kB:Hid (∀w',Xr b (Da l) w1 w'->(convert 22 9 (.slice (some ⟨b,0,none⟩) l.length cap)).run Tryz.prog w'=.ok (.string r) w')):
   Calls Tryz.prog 239 #[.string S] w (λe w'=>e=.returned (.tuple #[.string r,.bool (Jn l)])/\Hid (Xr b (Da l) w1 w')):=by
 go_enter Tryz.func239,Tryz.ntmps239;go_wp2_with fail;go_loopg [5,12] l.length (λc f p wr=>∃k:Nat,p=.int .i64 (k:Int)/\f=.bool (Jn (l.take k))/\Hid (k+c=l.length/\Xr b (Fg l k) w1 wr))
 case atStart=>
  exact⟨0,rfl,rfl,by omega,by simpa[Fg,Da]using h0.out⟩
 case round=>
  obtain⟨m,rfl,rfl,hI⟩:=hrel
  have hI:=BU hI
  by_cases hm:m<l.length
  .have hw2:RowKit.wrap64 ((m:Int)+1)=((m+1:Nat):Int):=by
    have:=hl.out
    unfold RowKit.wrap64;omega
   have hlt:(m:Int)<(l.length:Int):=by omega
   have hc1:=(hI.out.out.2.cell (k:=m) (by rw[Sp];exact hm)).1
   have hz1:=(hI.out.out.2.cell (k:=m) (by rw[Sp];exact hm)).2
   rw[AcR hm]at hc1
   by_cases h95:AI l m=95
   .rw[h95]at hc1
    go_wp2_with fail
    go_roundg (gk-1)
    case measure=>have:=hI.out.out.1;omega
    case rel=>
     have h1:=hI.out.out.2.set (k:=m) (c:=32) (by rw[Sp];exact hm)
     rw[AbY hm h95]at h1
     exact⟨m+1,by rw[hw2],by rw[ZV hm,h95];simp,by have:=hI.out.out.1;omega,h1⟩
   .have hne:((AI l m:Int)==95)=false:=by simp;omega
    go_wp2_with fail
    go_roundg (gk-1)
    case measure=>have:=hI.out.out.1;omega
    case rel=>
     have h1:=hI.out.out.2
     rw[AR7 hm h95]at h1
     exact⟨m+1,by rw[hw2],by rw[ZV hm];simp[h95],by have:=hI.out.out.1;omega,h1⟩
  .have hlt:¬(m:Int)<(l.length:Int):=by omega
   have hme:m=l.length:=by have:=hI.out.out.1;omega
   subst hme
   have hx:=hI.out.out.2
   rw[ASN]at hx
   have hb:=kB.out wr hx
   go_wp2_with fail
   go_ret2
   exact⟨rfl,hx⟩
theorem AZE{P:Program}{fid:Nat->Nat}{f:Nat}{s t:List Nat}{b:Bool}(ht:(∀c∈t,c<256)/\t.length<=9223372036854775807)(h:∀w,Calls P f #[BJ s] w λe w'=>e=.returned (.tuple #[BJ t,.bool b])/\Gr w w'):G5 P fid f ⟨[.v],[.v,.v],[],none⟩ [.s s] [.s t,.b b]:=by
 intro w X args B hnd hX hE _;match args,hE with
 |[],hE=>simp[BO]at hE
 |_::_::_,hE=>simp[BO]at hE
 |[v0],hE=>
  simp only[BO,AE,Rd]at hE
  obtain⟨B1,B2,rfl,⟨rfl,rfl,_⟩,rfl⟩:=hE
  refine(h w).mono ?_
  rintro e w' ⟨rfl,g1,g2,g3,g4,g5⟩
  refine⟨_,[BJ t,.bool b],[],rfl,rfl,rfl,⟨g1,λb hb _=>g2 b hb⟩,g3,g4,g5,List.nodup_nil,by simp,?_⟩
  simp only[Sg.outs,List.map_nil,List.append_nil,BO,AE,Rd]
  exact⟨[],[],rfl,⟨rfl,trivial,ht⟩,[],[],rfl,⟨rfl,trivial⟩,rfl⟩
theorem Y6{s:List Nat}(h8:∀c∈s,c<256):∀c∈Da s,c<256:=λc hc=>by
 simp only[Da,List.mem_map]at hc
 obtain⟨x,hx,rfl⟩:=hc
 have:=h8 x hx
 split<;>omega
theorem AP5{s:List Nat}(hs:s.length<=1000000)(h8:∀c∈s,c<256)(w:World):Calls Tryz.prog 239 #[BJ s] w λe w'=>e=.returned (.tuple #[BJ (Da s),.bool (Jn s)])/\Gr w w':=by
 have hS:(⟨(s.map λc=>UInt8.ofNat c).toArray⟩:ByteArray).size=s.length:=by simp[ByteArray.size]
 have hc:=run_bytes_of_string (P:=Tryz.prog) w 9 22 5 ⟨(s.map λc=>UInt8.ofNat c).toArray⟩ Tryz.underlying9 Tryz.underlying22 Tryz.underlying5;rw[hS]at hc;generalize hcap:grownCap w s.length 0 5=cap at hc;obtain⟨C,hC⟩:∃C,C=bytesRow ⟨(s.map λc=>UInt8.ofNat c).toArray⟩ cap:=⟨_,rfl⟩;rw[<-hC]at hc;have hg:Gr w (w.drew.alloc (.cells C 5 (C.size,C.size+1))):=(Gr.drew w).trans (Gr.alloc _ _);have hz:(w.drew.alloc (.cells C 5 (C.size,C.size+1))).heap.size=w.heap.size+1:=by show(w.heap.push _).size=_;simp
 have hb:(w.drew.alloc (.cells C 5 (C.size,C.size+1))).heap[w.heap.size]?=some (.cells C 5 (C.size,C.size+1)):=by show(w.heap.push _)[w.heap.size]?=_;simp
 generalize w.drew.alloc (.cells C 5 (C.size,C.size+1))=w1 at*;refine(t239 s ⟨((Da s).map λc=>UInt8.ofNat c).toArray⟩ cap w.heap.size _ w w1 hc (BU ⟨⟨C,hb,?_,λj hj=>?_⟩,rfl,λ_ _=>rfl,rfl,rfl,rfl⟩) (BU (by omega)) (BU λw' hx=>?_)).mono ?_;rw[hC];simp[bytesRow];rw[hC];have:s[j]<256:=h8 _ (List.getElem_mem hj);simp[bytesRow,Array.getElem?_append,hj,AI];omega;have hq:=run_convert_bytes_back (P:=Tryz.prog) w' 22 9 5 ⟨w.heap.size,0,none⟩ cap ((Da s).map λc=>UInt8.ofNat c) Tryz.underlying22 Tryz.underlying5 Tryz.underlying9 (λj hj=>by
  have hj':j<(Da s).length:=by simpa using hj
  have h1:=(hx.cell hj').1;have h3:(Da s)[j]<256:=Y6 h8 _ (List.getElem_mem hj');rw[show(⟨w.heap.size,0,none⟩:Addr).add j=⟨w.heap.size,j,none⟩ by cases j<;>simp[Addr.add],h1];simp[AI,hj'];omega)
 rw[show((Da s).map λc=>UInt8.ofNat c).length=s.length by simp[Da]]at hq;exact hq;rintro e w' ⟨rfl,hx⟩;obtain⟨_,h4,h5,h6,h7,h8⟩:=hx.out;obtain⟨g1,g2,g3,g4,g5⟩:=hg;exact⟨rfl,by omega,λb hb=>by rw[h5 b (by omega),g2 b hb],h6.trans g3,h7.trans g4,h8.trans g5⟩
instance:OO K:=⟨λs hs h8=>⟨Jn s,⟨679,239,⟨[.v],[.v,.v],[],none⟩⟩,rfl,AZE ⟨Y6 h8,by simp[Da];omega⟩ (AP5 hs h8)⟩⟩
end Go.Proofs.YthoilpmggmenbaaGreat.fnConsoleResults
