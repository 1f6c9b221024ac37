/-
 Texts of the little language.
-/
import Derived.Deep.RegionWith
import Derived.Deep.QuietTactic
import Derived.Deep.DeepMust
import Derived.Test.YthoilpmggmenbaaGreatPfWrite
set_option linter.unusedSimpArgs false
set_option linter.unusedVariables false
namespace Go.Proofs.YthoilpmggmenbaaGreat.fnConsoleResults
open Go Go.Cat Go.RowKit Go.Proofs.YthoilpmggmenbaaGreat
set_option maxRecDepth 100000
def OJ(x:BT)(k:Nat)(w:World)(e:Ending)(w':World):Prop:=∃(T:AT)(u:Option Addr),T.ptr=.pointer u/\e=.returned (.tuple #[.pointer u,.int .i64 (k:Int)])/\Hid (T.sh=x/\T.In w'.heap/\T.bl.Nodup/\(∀b∈T.bl,w.heap.size<=b)/\Gr w w')
set_option maxHeartbeats 400000 in
set_option maxRecDepth 1000000 in
theorem AXB(S:ByteArray)(i j:Nat)(w:World)(hi:i<S.size)(hw:RowKit.wrap64 ((i:Int)+1)=(j:Int))(hc:((S[i].toNat:Int)==46)=true):Calls Tryz.prog 272 #[.string S,.int .i64 i] w (OJ .lf j w):=by go_enter Tryz.func272,Tryz.ntmps272;go_wp2_with fail;go_ret2;exact⟨.nil,none,rfl,by rw[<-hw];rfl,⟨rfl,trivial,List.nodup_nil,by simp[AT.bl],Gr.refl w⟩⟩
set_option maxHeartbeats 400000 in
set_option maxRecDepth 1000000 in
theorem AWG(S:ByteArray)(x y:BT)(i j k m n:Nat)(w:World)(hi:i<S.size)(hw:RowKit.wrap64 ((i:Int)+1)=(j:Int))(hc:((S[i].toNat:Int)==46)=false)(hc2:((S[i].toNat:Int)==40)=true)
  (hm:m<S.size) (hc3:((S[m].toNat:Int) != 41)=false) (hw2:RowKit.wrap64 ((m:Int)+1)=(n:Int))
  (h1:∀w,Calls Tryz.prog 272 #[.string S,.int .i64 j] w (OJ x k w)) (h2:∀w,Calls Tryz.prog 272 #[.string S,.int .i64 k] w (OJ y m w)):
  Calls Tryz.prog 272 #[.string S,.int .i64 i] w (OJ (.nd x y) n w):=by
 go_enter Tryz.func272,Tryz.ntmps272
 go_wp2_with (first
  |(go_at_call_of 272 (Value.int .i64 (j:Int))
    refine(h1 _).mono ?_
    rintro e w1 ⟨T1,u1,q1,rfl,g1⟩)
  |(go_at_call_of 272 (Value.int .i64 (k:Int))
    refine(h2 _).mono ?_
    rintro e w2 ⟨T2,u2,q2,rfl,g2⟩))
 go_ret2;have g1:=g1.out;have g2:=g2.out;obtain⟨s1,i1,n1,f1,r1⟩:=g1;obtain⟨s2,i2,n2,f2,r2⟩:=g2;have hA:=Gr.alloc w2 (.cells #[.pointer u1,.pointer u2] 146);refine⟨.node w2.heap.size T1 T2,_,rfl,by rw[hw2];rfl,?_,?_,?_,?_,(r1.trans r2).trans hA⟩
 .simp only[AT.sh,s1,s2]
 .refine⟨⟨146,?_⟩,i1.mono λb hb=>?_,i2.mono λb hb=>?_⟩
  .rw[q1,q2];exact heap_alloc_new w2 _
  .have:=i1.lt b hb;rw[hA.2.1 b (Nat.lt_of_lt_of_le this r2.1),r2.2.1 b this]
  .exact hA.2.1 b (i2.lt b hb)
 .simp only[AT.bl,List.nodup_cons,Ac,not_or,List.nodup_append];refine⟨⟨λq=>?_,λq=>?_⟩,n1,n2,λa ha b hb e=>?_⟩
  .have:=i1.lt _ q;have:=r2.1;omega
  .have:=i2.lt _ q;omega
  .have:=i1.lt a ha;have:=f2 b hb;omega
 .intro b hb;have:=r1.1;have:=r2.1;simp only[AT.bl,AY,Ac]at hb;rcases hb with rfl|hb|hb
  .omega
  .exact f1 b hb
  .have:=f2 b hb;omega
theorem AYC{s:List Nat}{S:ByteArray}(hS:BJ s=.string S)(hs:∀c∈s,c<256)(hl:s.length<=1000000):∀(x:BT)(i:Nat)(r:List Nat),s.drop i=x.t++r->∀w,Calls Tryz.prog 272 #[.string S,.int .i64 i] w (OJ x (i+x.t.length) w):=by
 obtain⟨hsz,hat⟩:=AFA hS hs;have hw:∀i:Nat,i<s.length->RowKit.wrap64 ((i:Int)+1)=((i+1:Nat):Int):=λi hi=>by unfold RowKit.wrap64;omega
 have hd:∀(i:Nat)(c:Nat)(q:List Nat),s.drop i=c::q->i<s.length/\s[i]?=some c/\s.drop (i+1)=q:=by
  intro i c q h;have h1:s[i]?=some c:=by rw[<-Nat.add_zero i,<-List.getElem?_drop,h];rfl
  refine⟨(List.getElem?_eq_some_iff.1 h1).1,h1,?_⟩;rw[<-List.drop_drop,h];rfl
 intro x;induction x with
 |lf=>
  intro i r h w
  obtain⟨h1,h2,_⟩:=hd i 46 r h
  have:=AXB S i (i+1) w (by omega) (hw i h1) (by rw[hat i (by omega) 46 h2];rfl)
  exact this
 |nd l r ihl ihr=>
  intro i q h w
  simp only[BT.t,List.cons_append,CE]at h
  obtain⟨h1,h2,h3⟩:=hd i 40 _ h
  have h4:s.drop (i+1+l.t.length)=r.t++([41]++q):=by rw[<-List.drop_drop,h3,List.drop_left];rfl
  have h5:s.drop (i+1+l.t.length+r.t.length)=41::q:=by rw[<-List.drop_drop,h4,List.drop_left];rfl
  obtain⟨h6,h7,h8⟩:=hd _ 41 _ h5
  have:=AWG S l r i (i+1) (i+1+l.t.length) (i+1+l.t.length+r.t.length) (i+1+l.t.length+r.t.length+1) w (by omega) (hw i h1) (by rw[hat i (by omega) 40 h2];rfl) (by rw[hat i (by omega) 40 h2];rfl) (by omega) (by rw[hat _ (by omega) 41 h7];rfl) (hw _ h6)
   (λw=>ihl _ _ h3 w) (λw=>ihr _ _ h4 w)
  rw[show i+(BT.nd l r).t.length=i+1+l.t.length+r.t.length+1 by simp only[BT.t,AO,AZ,Aa];omega]
  exact this
set_option maxHeartbeats 800000 in
set_option maxRecDepth 1000000 in
theorem AUU(hN:Ln Tryz.prog 187)(T:AT):∀(v:Int)(w:World),T.In w.heap->T.sh.n<=8->-1000000000<=v->v<=9223372036854775807->Calls Tryz.prog 321 #[T.ptr,.int .i64 v] w λe w'=>e=.returned (T.find v).ptr/\Hid (Gr w w'):=by
 induction T with
 |nil=>
  intro v w _ _ _ _
  show Calls Tryz.prog 321 #[.pointer none,.int .i64 v] w _
  go_enter Tryz.func321,Tryz.ntmps321
  go_wp2
  go_ret
  exact⟨rfl,Gr.refl w⟩
 |node b l r ihl ihr=>
  intro v w hin hn hv hv2
  obtain⟨c0,c1,_,_⟩:=I6 hin
  obtain⟨ul,el⟩:=AT.IS l
  obtain⟨ur,er⟩:=AT.IS r
  have hl:l.sh.n<=8:=by simp only[AT.sh,BT.n]at hn;omega
  have hr:r.sh.n<=8:=by simp only[AT.sh,BT.n]at hn;omega
  have hsz:l.size<=8:=by rw[AT.HF];exact hl
  have kN0:=hN l w hin.2.1 hl
  have kl0:=λw' (g:Gr w w')=>ihl v w' (Nv hin.2.1 g) hl hv hv2
  have kr0:=λw' (g:Gr w w') (h0:0<=v)=>ihr (v-l.size-1) w' (Nv hin.2.2 g) hr (by omega) (by omega)
  have kc0:=λw' (g:Gr w w')=>I6 (Nv hin g)
  rw[el]at kN0 c0
  rw[er]at c1
  simp only[el]at kl0 kc0
  simp only[er]at kr0 kc0
  have kN:=BU kN0
  have kl:=BU kl0
  have kr:=BU kr0
  have kc:=BU kc0
  have a1:RowKit.wrap64 (v-(l.size:Int))=v-l.size:=by unfold RowKit.wrap64;omega
  have a2:RowKit.wrap64 (v-(l.size:Int)-1)=v-l.size-1:=by unfold RowKit.wrap64;omega
  show Calls Tryz.prog 321 #[.pointer (some ⟨b,0,none⟩),.int .i64 v] w _
  clear ihl ihr hin el er hn hl hr hsz kN0 kl0 kr0 kc0 hN
  go_enter Tryz.func321,Tryz.ntmps321
  go_wp2_with (first
   |(go_at_call 187
     refine kN.out.mono ?_
     rintro e w1 ⟨rfl,g1⟩
     obtain⟨c0',c1',_,_⟩:=kc.out w1 g1.out)
   |(go_at_call_of 321 (Value.pointer ul)
     refine(kl.out _ g1.out).mono ?_
     rintro e w2 ⟨rfl,g2⟩)
   |(go_at_call_of 321 (Value.pointer ur)
     refine(kr.out _ g1.out (by omega)).mono ?_
     rintro e w2 ⟨rfl,g2⟩))
  .have h0:v<0:=by assumption
   go_ret
   exact⟨by simp only[AT.find,if_pos h0];rfl,Gr.refl w⟩
  .have h0:0<=v:=by assumption
   have h1:v<(l.size:Int):=by assumption
   go_ret
   exact⟨by simp only[AT.find,if_neg (Int.not_lt.2 h0),if_pos h1];rfl,g1.out.trans g2.out⟩
  .have h0:0<=v:=by assumption
   have h1:(l.size:Int)<=v:=by assumption
   have h2:(v==(l.size:Int))=true:=by assumption
   go_ret
   exact⟨by simp only[AT.find,if_neg (Int.not_lt.2 h0),if_neg (Int.not_lt.2 h1),if_pos (eq_of_beq h2)];rfl,g1.out⟩
  .have h0:0<=v:=by assumption
   have h1:(l.size:Int)<=v:=by assumption
   have h2:(v==(l.size:Int))=false:=by assumption
   go_ret
   exact⟨by simp only[AT.find,if_neg (Int.not_lt.2 h0),if_neg (Int.not_lt.2 h1),if_neg (ne_of_beq_false h2)];rfl,g1.out.trans g2.out⟩
def PTQ(x:BT)(w:World)(e:Ending)(w':World):Prop:=∃(T:AT)(u:Option Addr),T.ptr=.pointer u/\e=.returned (.tuple #[.pointer u,.bool true])/\Hid (T.sh=x/\T.In w'.heap/\T.bl.Nodup/\(∀b∈T.bl,w.heap.size<=b)/\Gr w w')
set_option maxHeartbeats 800000 in
set_option maxRecDepth 1000000 in
theorem AQV(hN:Ln Tryz.prog 187){x:BT}(hx:x.n<=8){S:ByteArray}(hS:BJ x.t=.string S)(w:World):Calls Tryz.prog 185 #[.string S] w (PTQ x w):=by
 have hlen:=BT.tl x;obtain⟨hsz,_⟩:=AFA hS (BT.MG x);have k1:=BU (AYC hS (BT.MG x) (by omega) x 0 [] (by simp));have h25:(S.size:Int)<=25:=by omega
 have hk:(0+x.t.length:Nat)=S.size:=by omega
 rw[hk]at k1;have kN:=BU hN;clear hN hS hsz hlen hk;go_enter Tryz.func185,Tryz.ntmps185
 go_wp2_with (first
  |(go_at_call 272
    refine(k1.out _).mono ?_
    rintro e w1 ⟨T1,u1,q1,rfl,g1⟩)
  |(go_at_call 187
    have k2:=kN.out T1 w1 g1.out.2.1 (by rw[g1.out.1];exact hx)
    rw[q1]at k2
    refine k2.mono ?_
    rintro e w2 ⟨rfl,g2⟩))
 have h0:(8:Int)<T1.size:=by assumption
 have:=g1.out.1;rw[AT.HF,this]at h0;omega;go_ret2;obtain⟨a1,a2,a3,a4,a5⟩:=g1.out;exact⟨T1,u1,q1,rfl,a1,Nv a2 g2.out,a3,a4,a5.trans g2.out⟩
def NDQ(x:BT)(v:Int)(w:World)(e:Ending)(w':World):Prop:=∃(T:AT)(u un:Option Addr),T.ptr=.pointer u/\(T.find v).ptr=.pointer un/\e=.returned (.tuple #[.pointer u,.pointer un])/\Hid (T.sh=x/\T.In w'.heap/\T.bl.Nodup/\(∀b∈T.bl,w.heap.size<=b)/\Gr w w')
set_option maxHeartbeats 800000 in
set_option maxRecDepth 1000000 in
theorem AMU(hN:Ln Tryz.prog 187){x:BT}(hx:x.n<=8){S:ByteArray}(hS:BJ x.t=.string S)(v:Int)(hv:-1000000000<=v)(hv2:v<=9223372036854775807)(w:World):Calls Tryz.prog 274 #[.string S,.int .i64 v] w (NDQ x v w):=by
 have k1:=BU (AQV hN hx hS w);have k2:=BU (λT w h h2=>AUU hN T v w h h2 hv hv2);clear hN hS;go_enter Tryz.func274,Tryz.ntmps274
 go_wp2_with (first
  |(go_at_call 185
    refine k1.out.mono ?_
    rintro e w1 ⟨T1,u1,q1,rfl,g1⟩)
  |(go_at_call 321
    have k3:=k2.out T1 w1 g1.out.2.1 (by rw[g1.out.1];exact hx)
    rw[q1]at k3
    obtain⟨un,eun⟩:=AT.IS (T1.find v)
    rw[eun]at k3
    refine k3.mono ?_
    rintro e w2 ⟨rfl,g2⟩))
 go_ret2;obtain⟨a1,a2,a3,a4,a5⟩:=g1.out;exact⟨T1,u1,un,q1,eun,rfl,a1,Nv a2 g2.out,a3,a4,a5.trans g2.out⟩
theorem AbB{w:World}{b:Nat}{p q:Value}{e:TypeId}(h:w.heap[b]?=some (.cells #[p,q] e (0,0)))(n:Nat)(u:Value)(o:Obj):
  (((w.drewN n).setCell ⟨b,0,none⟩ u).alloc o).cell? ⟨b,1,none⟩=some q/\(((w.drewN n).setCell ⟨b,0,none⟩ u).alloc o).frozen? ⟨b,1,none⟩=false:=by obtain⟨h1,_,h3⟩:=MJ (w:=w.drewN n) (k:=0) (u:=u) h;have h4:=heap_alloc_old (w:=(w.drewN n).setCell ⟨b,0,none⟩ u) (o:=o) (r:=b) (h:=by rw[h3];exact Cd (h:=w.heap) h);rw[h1]at h4;simp only[World.cell?,World.frozen?,h4];exact⟨rfl,rfl⟩
theorem AeB{w:World}{T:AT}{v:Int}{b b1:Nat}{a2 b2 c2:AT}(hi:T.In w.heap)(hn:T.bl.Nodup)(hF:AT.node b (AT.node b1 a2 b2) c2=T.find v)(n:Nat){W:World}
  (hW:W=((((w.drewN n).setCell ⟨b,0,none⟩ a2.ptr).alloc (.cells #[b2.ptr,c2.ptr] 146)).setCell ⟨b,1,none⟩ (.pointer (some ⟨w.heap.size,0,none⟩)))):
  (T.GS v (.node b a2 (.node w.heap.size b2 c2))).In W.heap/\(∀x,x<w.heap.size->x≠b->W.heap[x]?=w.heap[x]?)/\w.heap.size<=W.heap.size/\W.os=w.os/\W.tape=w.tape/\W.output=w.output:=by
 have hf:(AT.node b (AT.node b1 a2 b2) c2).In w.heap:=hF▸AT.LK hi;have hnd:(AT.node b (AT.node b1 a2 b2) c2).bl.Nodup:=hF▸AT.QL hn;have hlt:=hf.lt;obtain⟨⟨e,hb⟩,⟨⟨e1,hb1⟩,ha2,hb2⟩,hc2⟩:=hf;have hbs:b<w.heap.size:=Cd hb;obtain⟨p1,p2,p3⟩:=MJ (w:=w.drewN n) (k:=0) (u:=a2.ptr) hb;have p3':((w.drewN n).setCell ⟨b,0,none⟩ a2.ptr).heap.size=w.heap.size:=p3;generalize hW1:(w.drewN n).setCell ⟨b,0,none⟩ a2.ptr=W1 at hW p1 p2 p3';have o1:W1.os=w.os/\W1.tape=w.tape/\W1.output=w.output:=by rw[<-hW1];exact⟨rfl,rfl,rfl⟩
 have q1:(W1.alloc (.cells #[b2.ptr,c2.ptr] 146)).heap[b]?=some (.cells #[a2.ptr,c2.ptr] e (0,0)):=by rw[heap_alloc_old (w:=W1) (r:=b) (h:=by rw[p3'];exact hbs),p1];rfl
 have q2:(W1.alloc (.cells #[b2.ptr,c2.ptr] 146)).heap[w.heap.size]?=some (.cells #[b2.ptr,c2.ptr] 146 (0,0)):=by rw[<-p3'];exact heap_alloc_new W1 _
 have q3:∀x,x<w.heap.size->x≠b->(W1.alloc (.cells #[b2.ptr,c2.ptr] 146)).heap[x]?=w.heap[x]?:=λx hx hxb=>by rw[heap_alloc_old (w:=W1) (r:=x) (h:=by rw[p3'];exact hx),p2 x hxb];rfl
 have q4:w.heap.size<=(W1.alloc (.cells #[b2.ptr,c2.ptr] 146)).heap.size:=by have:=(Dh W1 (.cells #[b2.ptr,c2.ptr] 146) (λ_=>False)).size;rw[p3']at this;exact this
 have o2:(W1.alloc (.cells #[b2.ptr,c2.ptr] 146)).os=w.os/\(W1.alloc (.cells #[b2.ptr,c2.ptr] 146)).tape=w.tape/\(W1.alloc (.cells #[b2.ptr,c2.ptr] 146)).output=w.output:=o1;generalize W1.alloc (.cells #[b2.ptr,c2.ptr] 146)=W2 at hW q1 q2 q3 q4 o2;obtain⟨r1,r2,r3⟩:=MJ (w:=W2) (k:=1) (u:=.pointer (some ⟨w.heap.size,0,none⟩)) q1;have s3:∀x,x<w.heap.size->x≠b->W.heap[x]?=w.heap[x]?:=λx hx hxb=>by rw[hW,r2 x hxb,q3 x hx hxb]
 simp only[AT.bl,List.nodup_cons,AY,Ac,not_or,List.nodup_append]at hnd;simp only[AT.bl,AY,Ac]at hlt;refine⟨?_,s3,by rw[hW,r3];exact q4,by rw[hW];exact o2.1,by rw[hW];exact o2.2.1,by rw[hW];exact o2.2.2⟩;have key:∀{X:AT},X.In w.heap->(∀x∈X.bl,x≠b)->X.In W.heap:=λh1 h2=>h1.mono λx hx=>s3 x (h1.lt x hx) (h2 x hx);refine AT.QU hi hn (by rw[<-hF];exact λq=>by cases q) ?_ (by rw[<-hF];rfl) λx hx hx2=>s3 x (hi.lt x hx) (by rintro rfl;exact hx2 (by rw[<-hF];simp[AT.bl]));refine⟨⟨e,by rw[hW,r1];rfl⟩,key ha2 λx hx q=>?_,⟨146,by rw[hW,r2 _ (by omega),q2]⟩,key hb2 λx hx q=>?_,key hc2 λx hx q=>?_⟩
 .exact hnd.1.1.2.1 (q▸hx)
 .exact hnd.1.1.2.2 (q▸hx)
 .exact hnd.1.2 (q▸hx)
set_option maxHeartbeats 800000 in
set_option maxRecDepth 1000000 in
theorem AQO(hN:Ln Tryz.prog 187)(hT:TXT Tryz.prog 173){x:BT}(hx:x.n<=8){S:ByteArray}(hS:BJ x.t=.string S)(v:Int)(hv:-1000000000<=v)(hv2:v<=9223372036854775807)(w:World):
  Calls Tryz.prog 190 #[.string S,.int .i64 v] w λe w'=>e=.returned (.tuple #[BJ ((Av x v).elim [] BT.t),.bool (Av x v).isSome])/\Gr w w':=by
 have k1:=BU (AMU hN hx hS v hv hv2 w);have kT:=BU hT;clear hN hS hT;go_enter Tryz.func190,Tryz.ntmps190
 go_wp2_with (first
  |(go_at_call 274
    go_must (
    refine k1.out.mono ?_
    rintro e w1 ⟨T,u,un,q1,q2,rfl,g1⟩
    obtain⟨F,eF⟩:∃F,F=T.find v:=⟨_,rfl⟩
    have hfi:F.In w1.heap:=eF▸AT.LK g1.out.2.1
    rw[<-eF]at q2
    have eF':=BU eF
    clear eF
    cases F
    case' nil=>
       injection q2 with q2
       subst q2
    case' node b l c2=>
       injection q2 with q2
       subst q2
       cases l
       case' nil=>
         have hc:=I6 hfi
         obtain⟨c0,c1,f0,f1⟩:=hc
         replace c0:w1.cell? ⟨b,0,none⟩=some (.pointer none):=c0
         clear hfi
       case' node b1 a2 b2=>
         have hc:=I6 hfi
         have hc2:=I6 hfi.2.1
         obtain⟨ua,ea⟩:=AT.IS a2
         obtain⟨ub,eb⟩:=AT.IS b2
         obtain⟨uc,ec⟩:=AT.IS c2
         rw[ec]at hc
         rw[ea,eb]at hc2
         obtain⟨c0,c1,f0,f1⟩:=hc
         obtain⟨c20,c21,_,_⟩:=hc2
         replace c0:w1.cell? ⟨b,0,none⟩=some (.pointer (some ⟨b1,0,none⟩)):=c0
         have ea':=BU ea
         have eb':=BU eb
         have ec':=BU ec
         have hfi':=BU hfi
         clear hfi ea eb ec))
  |fail)
 .obtain⟨⟨e1,hb⟩,_⟩:=hfi'.out;rw[ec'.out]at hb;have kB:=BU hb;clear hb;obtain⟨g11,g12,g13,g14,g15⟩:=g1.out;have kW:=BU (λn=>AeB (W:=_) g12 g13 eF'.out n rfl);rw[ea'.out,eb'.out,ec'.out]at kW;have hy:=WT (nb:=w1.heap.size) eF'.out.symm;have hn:=FU hy;rw[g11]at hy hn;have hy:=BU hy;have kp:=BU (AT.Re (T:=T) (v:=v) (x:=.node b a2 (.node w1.heap.size b2 c2)) (by rw[<-eF'.out];rfl) (by rw[<-eF'.out];exact λq=>by cases q));have g12:=BU g12;have g13:=BU g13;have g14:=BU g14;have g15:=BU g15;clear g11;go_quiet (fail);obtain⟨d1,d2⟩:=AbB kB.out nq (.pointer ua) (.cells #[.pointer ub,.pointer uc] 146);have k5:=kT.out _ _ (kW.out nq).1 (by omega);rw[kp.out,q1]at k5;have k5:=BU k5;go_wp2_with (go_at_call 173;go_must (refine k5.out.mono ?_;rintro e w5 ⟨rfl,g5⟩));go_ret2;refine⟨by rw[hy.out];rfl,?_⟩;obtain⟨_,z2,z3,z4,z5,z6⟩:=kW.out nq;obtain⟨y1,y2,y3,y4,y5⟩:=g15.out;have hbb:w.heap.size<=b:=g14.out b (AT.Ig (v:=v) (by rw[<-eF'.out];simp[AT.bl]));refine Gr.trans ⟨Nat.le_trans y1 z3,λx hx=>?_,z4.trans y3,z5.trans y4,z6.trans y5⟩ g5.out;exact(z2 x (by omega) (by omega)).trans (y2 x hx)
 .go_ret2;refine⟨?_,g1.out.2.2.2.2⟩;rw[<-g1.out.1,Sc eF'.out.symm];rfl
 .go_ret2;refine⟨?_,g1.out.2.2.2.2⟩;rw[<-g1.out.1,VP eF'.out.symm];rfl
theorem ARW{w:World}{b:Nat}{p q:Value}{e:TypeId}(h:w.heap[b]?=some (.cells #[p,q] e (0,0)))(n:Nat)(u:Value)(o:Obj):
  ((w.drewN n).alloc o).cell? ⟨b,0,none⟩=some p/\((w.drewN n).alloc o).frozen? ⟨b,0,none⟩=false/\
  (((w.drewN n).alloc o).setCell ⟨b,0,none⟩ u).cell? ⟨b,1,none⟩=some q/\(((w.drewN n).alloc o).setCell ⟨b,0,none⟩ u).frozen? ⟨b,1,none⟩=false:=by have h4:=heap_alloc_old (w:=w.drewN n) (o:=o) (r:=b) (h:=Cd (h:=w.heap) h);rw[show(w.drewN n).heap[b]?=w.heap[b]? from rfl,h]at h4;obtain⟨h1,_,h3⟩:=MJ (k:=0) (u:=u) h4;simp only[World.cell?,World.frozen?,h4,h1];exact⟨rfl,rfl,rfl,rfl⟩
theorem AVV{w:World}{T:AT}{v:Int}{b b1:Nat}{a2 b2 c2:AT}(hi:T.In w.heap)(hn:T.bl.Nodup)(hF:AT.node b a2 (AT.node b1 b2 c2)=T.find v)(n:Nat){W:World}
  (hW:W=((((w.drewN n).alloc (.cells #[a2.ptr,b2.ptr] 146)).setCell ⟨b,0,none⟩ (.pointer (some ⟨w.heap.size,0,none⟩))).setCell ⟨b,1,none⟩ c2.ptr)):
  (T.GS v (.node b (.node w.heap.size a2 b2) c2)).In W.heap/\(∀x,x<w.heap.size->x≠b->W.heap[x]?=w.heap[x]?)/\w.heap.size<=W.heap.size/\W.os=w.os/\W.tape=w.tape/\W.output=w.output:=by
 have hf:(AT.node b a2 (AT.node b1 b2 c2)).In w.heap:=hF▸AT.LK hi;have hnd:(AT.node b a2 (AT.node b1 b2 c2)).bl.Nodup:=hF▸AT.QL hn;have hlt:=hf.lt;obtain⟨⟨e,hb⟩,ha2,⟨e1,hb1⟩,hb2,hc2⟩:=hf;have hbs:b<w.heap.size:=Cd hb;have q1:((w.drewN n).alloc (.cells #[a2.ptr,b2.ptr] 146)).heap[b]?=some (.cells #[a2.ptr,(AT.node b1 b2 c2).ptr] e (0,0)):=by rw[heap_alloc_old (w:=w.drewN n) (r:=b) (h:=hbs)];exact hb
 have q2:((w.drewN n).alloc (.cells #[a2.ptr,b2.ptr] 146)).heap[w.heap.size]?=some (.cells #[a2.ptr,b2.ptr] 146 (0,0)):=heap_alloc_new (w.drewN n) _;have q3:∀x,x<w.heap.size->((w.drewN n).alloc (.cells #[a2.ptr,b2.ptr] 146)).heap[x]?=w.heap[x]?:=λx hx=>by rw[heap_alloc_old (w:=w.drewN n) (r:=x) (h:=hx)];rfl
 have q4:w.heap.size<=((w.drewN n).alloc (.cells #[a2.ptr,b2.ptr] 146)).heap.size:=(Dh (w.drewN n) (.cells #[a2.ptr,b2.ptr] 146) (λ_=>False)).size;have o2:((w.drewN n).alloc (.cells #[a2.ptr,b2.ptr] 146)).os=w.os/\((w.drewN n).alloc (.cells #[a2.ptr,b2.ptr] 146)).tape=w.tape/\((w.drewN n).alloc (.cells #[a2.ptr,b2.ptr] 146)).output=w.output:=⟨rfl,rfl,rfl⟩;generalize (w.drewN n).alloc (.cells #[a2.ptr,b2.ptr] 146)=W1 at hW q1 q2 q3 q4 o2;obtain⟨p1,p2,p3⟩:=MJ (k:=0) (u:=.pointer (some ⟨w.heap.size,0,none⟩)) q1;have o3:(W1.setCell ⟨b,0,none⟩ (.pointer (some ⟨w.heap.size,0,none⟩))).os=w.os/\(W1.setCell ⟨b,0,none⟩ (.pointer (some ⟨w.heap.size,0,none⟩))).tape=w.tape/\(W1.setCell ⟨b,0,none⟩ (.pointer (some ⟨w.heap.size,0,none⟩))).output=w.output:=o2;generalize W1.setCell ⟨b,0,none⟩ (.pointer (some ⟨w.heap.size,0,none⟩))=W2 at hW p1 p2 p3 o3;obtain⟨r1,r2,r3⟩:=MJ (w:=W2) (k:=1) (u:=c2.ptr) p1;have s3:∀x,x<w.heap.size->x≠b->W.heap[x]?=w.heap[x]?:=λx hx hxb=>by rw[hW,r2 x hxb,p2 x hxb,q3 x hx]
 simp only[AT.bl,List.nodup_cons,AY,Ac,not_or,List.nodup_append]at hnd;simp only[AT.bl,AY,Ac]at hlt;refine⟨?_,s3,by rw[hW,r3,p3];exact q4,by rw[hW];exact o3.1,by rw[hW];exact o3.2.1,by rw[hW];exact o3.2.2⟩;have key:∀{X:AT},X.In w.heap->(∀x∈X.bl,x≠b)->X.In W.heap:=λh1 h2=>h1.mono λx hx=>s3 x (h1.lt x hx) (h2 x hx);refine AT.QU hi hn (by rw[<-hF];exact λq=>by cases q) ?_ (by rw[<-hF];rfl) λx hx hx2=>s3 x (hi.lt x hx) (by rintro rfl;exact hx2 (by rw[<-hF];simp[AT.bl]));refine⟨⟨e,by rw[hW,r1];rfl⟩,⟨⟨146,by rw[hW,r2 _ (by omega),p2 _ (by omega),q2]⟩,key ha2 λx hx q=>?_,key hb2 λx hx q=>?_⟩,key hc2 λx hx q=>?_⟩
 .exact hnd.1.1 (q▸hx)
 .exact hnd.1.2.2.1 (q▸hx)
 .exact hnd.1.2.2.2 (q▸hx)
set_option maxHeartbeats 800000 in
set_option maxRecDepth 1000000 in
theorem Ad4(hN:Ln Tryz.prog 187)(hT:TXT Tryz.prog 173){x:BT}(hx:x.n<=8){S:ByteArray}(hS:BJ x.t=.string S)(v:Int)(hv:-1000000000<=v)(hv2:v<=9223372036854775807)(w:World):
  Calls Tryz.prog 192 #[.string S,.int .i64 v] w λe w'=>e=.returned (.tuple #[BJ ((CC x v).elim [] BT.t),.bool (CC x v).isSome])/\Gr w w':=by
 have k1:=BU (AMU hN hx hS v hv hv2 w);have kT:=BU hT;clear hN hS hT;go_enter Tryz.func192,Tryz.ntmps192
 go_wp2_with (first
  |(go_at_call 274
    go_must (
    refine k1.out.mono ?_
    rintro e w1 ⟨T,u,un,q1,q2,rfl,g1⟩
    obtain⟨F,eF⟩:∃F,F=T.find v:=⟨_,rfl⟩
    have hfi:F.In w1.heap:=eF▸AT.LK g1.out.2.1
    rw[<-eF]at q2
    have eF':=BU eF
    clear eF
    cases F
    case' nil=>
       injection q2 with q2
       subst q2
    case' node b l c2=>
       injection q2 with q2
       subst q2
       cases c2
       case' nil=>
         have hc:=I6 hfi
         obtain⟨c0,c1,f0,f1⟩:=hc
         replace c1:w1.cell? ⟨b,1,none⟩=some (.pointer none):=c1
         clear hfi
       case' node b1 b2 c2=>
         have hc:=I6 hfi
         have hc2:=I6 hfi.2.2
         obtain⟨ua,ea⟩:=AT.IS l
         obtain⟨ub,eb⟩:=AT.IS b2
         obtain⟨uc,ec⟩:=AT.IS c2
         rw[ea]at hc
         rw[eb,ec]at hc2
         obtain⟨c0,c1,f0,f1⟩:=hc
         obtain⟨c20,c21,_,_⟩:=hc2
         replace c1:w1.cell? ⟨b,1,none⟩=some (.pointer (some ⟨b1,0,none⟩)):=c1
         have ea':=BU ea
         have eb':=BU eb
         have ec':=BU ec
         have hfi':=BU hfi
         clear hfi ea eb ec))
  |fail)
 .obtain⟨⟨e1,hb⟩,_⟩:=hfi'.out;rw[ea'.out]at hb;have kB:=BU hb;clear hb;obtain⟨g11,g12,g13,g14,g15⟩:=g1.out;have kW:=BU (λn=>AVV (W:=_) g12 g13 eF'.out n rfl);rw[ea'.out,eb'.out,ec'.out]at kW;have hy:=VJ (nb:=w1.heap.size) eF'.out.symm;have hn:=J9 hy;rw[g11]at hy hn;have hy:=BU hy;have kp:=BU (AT.Re (T:=T) (v:=v) (x:=.node b (.node w1.heap.size l b2) c2) (by rw[<-eF'.out];rfl) (by rw[<-eF'.out];exact λq=>by cases q));have g12:=BU g12;have g13:=BU g13;have g14:=BU g14;have g15:=BU g15;clear g11;go_quiet (fail);obtain⟨d1,d2,d3,d4⟩:=ARW kB.out nq (.pointer (some ⟨w1.heap.size,0,none⟩)) (.cells #[.pointer ua,.pointer ub] 146);have k5:=kT.out _ _ (kW.out nq).1 (by omega);rw[kp.out,q1]at k5;have k5:=BU k5;go_wp2_with (go_at_call 173;go_must (refine k5.out.mono ?_;rintro e w5 ⟨rfl,g5⟩));go_ret2;refine⟨by rw[hy.out];rfl,?_⟩;obtain⟨_,z2,z3,z4,z5,z6⟩:=kW.out nq;obtain⟨y1,y2,y3,y4,y5⟩:=g15.out;have hbb:w.heap.size<=b:=g14.out b (AT.Ig (v:=v) (by rw[<-eF'.out];simp[AT.bl]));refine Gr.trans ⟨Nat.le_trans y1 z3,λx hx=>?_,z4.trans y3,z5.trans y4,z6.trans y5⟩ g5.out;exact(z2 x (by omega) (by omega)).trans (y2 x hx)
 .go_ret2;refine⟨?_,g1.out.2.2.2.2⟩;rw[<-g1.out.1,S1 eF'.out.symm];rfl
 .go_ret2;refine⟨?_,g1.out.2.2.2.2⟩;rw[<-g1.out.1,W6 eF'.out.symm];rfl
set_option maxHeartbeats 400000 in
set_option maxRecDepth 1000000 in
theorem AbT{S:ByteArray}{v:Int}{w:World}(hn:Calls Tryz.prog 274 #[.string S,.int .i64 v] w λe w'=>e=.returned (.tuple #[.pointer none,.pointer none])/\Hid (Gr w w')):
  Calls Tryz.prog 190 #[.string S,.int .i64 v] w λe w'=>e=.returned (.tuple #[BJ [],.bool false])/\Gr w w':=by have hn:=BU hn;go_enter Tryz.func190,Tryz.ntmps190;go_wp2_with (go_at_call 274;refine hn.out.mono ?_;rintro e w1 ⟨rfl,g1⟩);go_ret2;exact⟨rfl,g1.out⟩
set_option maxHeartbeats 400000 in
set_option maxRecDepth 1000000 in
theorem ATY{S:ByteArray}{v:Int}{w:World}(hn:Calls Tryz.prog 274 #[.string S,.int .i64 v] w λe w'=>e=.returned (.tuple #[.pointer none,.pointer none])/\Hid (Gr w w')):
  Calls Tryz.prog 192 #[.string S,.int .i64 v] w λe w'=>e=.returned (.tuple #[BJ [],.bool false])/\Gr w w':=by have hn:=BU hn;go_enter Tryz.func192,Tryz.ntmps192;go_wp2_with (go_at_call 274;refine hn.out.mono ?_;rintro e w1 ⟨rfl,g1⟩);go_ret2;exact⟨rfl,g1.out⟩
theorem nod:Ln Tryz.prog 187:=λT w hi hn=>by
 obtain⟨r,hr,hc⟩:=JZ (K:=K) T.sh (by omega)
 have e:rowOf tab 197=some ⟨197,187,⟨[.v],[.v],[],none⟩⟩:=rfl
 rw[e]at hr
 injection hr with hr
 subst hr
 refine(ACK hc w hi).mono ?_
 rintro e w' ⟨v,rfl,hr,g⟩
 simp only[Rd]at hr
 subst hr
 exact⟨by rw[AT.HF],g⟩
theorem txt:TXT Tryz.prog 173:=λT w hi hn=>by
 obtain⟨r,hr,hc⟩:=I9 (K:=K) (x:=T.sh) (by omega)
 have e:rowOf tab 196=some ⟨196,173,⟨[.v],[.v],[],none⟩⟩:=rfl
 rw[e]at hr
 injection hr with hr
 subst hr
 refine(ACK hc w hi).mono ?_
 rintro e w' ⟨v,rfl,hr,g⟩
 simp only[Rd]at hr
 obtain⟨rfl,_⟩:=hr
 exact⟨rfl,g⟩
theorem ndn{s:List Nat}{v:Int}(h:Bq s=false)(hs:(∀c∈s,c<256)/\s.length<=9223372036854775807)(w:World):Calls Tryz.prog 274 #[BJ s,.int .i64 v] w λe w'=>e=.returned (.tuple #[.pointer none,.pointer none])/\Hid (Gr w w'):=by obtain⟨r,hr,hc⟩:=AQ9 (K:=K) (v:=v) h;have e:rowOf tab 210=some ⟨210,274,⟨[.v,.v],[.v,.v],[],none⟩⟩:=rfl;rw[e]at hr;injection hr with hr;subst hr;exact ASS hs hc w
theorem AD1{y:Option BT}(h:∀z,y=some z->z.n<=8):(∀c∈y.elim [] BT.t,c<256)/\(y.elim [] BT.t).length<=9223372036854775807:=by
 cases y with
 |none=>exact⟨by simp,by simp⟩
 |some z=>exact⟨BT.MG z,by have:=BT.tl z;have:=h z rfl;simp only[Option.elim];omega⟩
instance:E3 K where
 rr x v hx h1 h2:=⟨⟨200,190,⟨[.v,.v],[.v,.v],[],none⟩⟩,rfl,R3 (AD1 λz hz=>by rw[FU hz];exact hx) λ_ w=>AQO nod txt hx rfl v h1 h2 w⟩
 rl x v hx h1 h2:=⟨⟨202,192,⟨[.v,.v],[.v,.v],[],none⟩⟩,rfl,R3 (AD1 λz hz=>by rw[J9 hz];exact hx) λ_ w=>Ad4 nod txt hx rfl v h1 h2 w⟩
 rrn s v h:=⟨⟨200,190,⟨[.v,.v],[.v,.v],[],none⟩⟩,rfl,R3 ⟨by simp,by simp⟩ λhs w=>AbT (ndn h hs w)⟩
 rln s v h:=⟨⟨202,192,⟨[.v,.v],[.v,.v],[],none⟩⟩,rfl,R3 ⟨by simp,by simp⟩ λhs w=>ATY (ndn h hs w)⟩
end Go.Proofs.YthoilpmggmenbaaGreat.fnConsoleResults
