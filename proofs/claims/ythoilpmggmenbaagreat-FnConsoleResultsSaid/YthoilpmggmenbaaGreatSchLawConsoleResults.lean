/-
 The program's Schroeder numbers, by hand.
-/
import Derived.Test.YthoilpmggmenbaaGreatPfSch
import Derived.Laws.EntriesVeiled
import Derived.Test.YthoilpmggmenbaaGreatRotLawConsoleResults
import Derived.DeepKeys4
import Derived.WideKeyMaps
set_option linter.unusedSimpArgs false
set_option linter.unusedVariables false
namespace Go.Proofs.YthoilpmggmenbaaGreat.fnConsoleResults
open Go Go.Cat Go.RowKit Go.Proofs.YthoilpmggmenbaaGreat
set_option maxRecDepth 100000
def sWr(f:Nat->Int):Nat->Int
 |0=>f 1+f 0
 |h+1=>f (h+2)+f (h+1)+sWr f h
def sW:Nat->Nat->Int
 |0=>λ_=>1
 |l+1=>sWr (sW l)
abbrev ky(l h:Nat):Value:=.agg #[.int .i64 (l:Int),.int .i64 (h:Int)]
set_option maxHeartbeats 400000 in
set_option maxRecDepth 1000000 in
theorem AT7(h bm bc bf:Nat)(w:World):Calls Tryz.prog 207 #[.int .i64 0,.int .i64 (h:Int),.pointer (some ⟨bc,0,none⟩),.pointer (some ⟨bf,0,none⟩)] w (λe w'=>e=.returned (.int .i64 1)/\Gr w w'):=by go_enter Tryz.func207,Tryz.ntmps207;go_wp2;go_ret;exact⟨rfl,Gr.refl w⟩
set_option maxHeartbeats 400000 in
set_option maxRecDepth 1000000 in
theorem AZU(l h bm bc bf:Nat)(v:Int)(w:World)(hl:((l:Int)==0)=false)
   (h1:∀o,(w.alloc o).cell? ⟨bc,0,none⟩=some (.map (some bm)))
   (hL:∀o,(Instr.lookup 113 (.map (some bm)) (.agg #[.int .i64 (l:Int),.int .i64 (h:Int)]) true).run Tryz.prog (w.alloc o)=.ok (.tuple #[.int .i64 v,.bool true]) (w.alloc o)):
   Calls Tryz.prog 207 #[.int .i64 (l:Int),.int .i64 (h:Int),.pointer (some ⟨bc,0,none⟩),.pointer (some ⟨bf,0,none⟩)] w (λe w'=>e=.returned (.int .i64 v)/\Gr w w'):=by go_enter Tryz.func207,Tryz.ntmps207;go_wp2;go_ret;exact⟨rfl,Gr.alloc w _⟩
def Gm(b:Nat)(w w':World):Prop:=w.heap.size<=w'.heap.size/\(∀x,x<w.heap.size->x≠b->w'.heap[x]?=w.heap[x]?)/\w'.os=w.os/\w'.tape=w.tape/\w'.output=w.output
theorem Gm.refl(b:Nat)(w:World):Gm b w w:=⟨Nat.le_refl _,λ_ _ _=>rfl,rfl,rfl,rfl⟩
theorem Gm.trans{b:Nat}{u v w:World}(h:Gm b u v)(k:Gm b v w):Gm b u w:=
 ⟨Nat.le_trans h.1 k.1,λx hx hb=>(k.2.1 x (Nat.lt_of_lt_of_le hx h.1) hb).trans (h.2.1 x hx hb),k.2.2.1.trans h.2.2.1,k.2.2.2.1.trans h.2.2.2.1,k.2.2.2.2.trans h.2.2.2.2⟩
theorem Gm.of{b:Nat}{w w':World}(h:Gr w w'):Gm b w w':=⟨h.1,λx hx _=>h.2.1 x hx,h.2.2.1,h.2.2.2.1,h.2.2.2.2⟩
def gE(e:MapEntry):Prop:=∃l h:Nat,l+h<=5/\e.key=ky l h/\e.val=.int .i64 (sW l h)
abbrev HD(bc bf:Nat):Value:=.func (.func 207) #[] #[.pointer (some ⟨bc,0,none⟩),.pointer (some ⟨bf,0,none⟩)]
def DW(bm bc bf:Nat)(w:World):Prop:=w.heap[bf]?=some (.cells #[HD bc bf] 68 (0,0))/\w.heap[bc]?=some (.cells #[.map (some bm)] 113 (0,0))/\∃es ck,w.heap[bm]?=some (.map es ck)/\∀e∈es.toList,gE e
def SQ(bm bc bf l h:Nat)(w:World):Ending->World->Prop:=λe w'=>e=.returned (.int .i64 (sW l h))/\Hid (DW bm bc bf w'/\Gm bm w w')
theorem DW.cells{bm bc bf:Nat}{w:World}(h:DW bm bc bf w):w.cell? ⟨bc,0,none⟩=some (.map (some bm))/\w.cell? ⟨bf,0,none⟩=some (HD bc bf):=by obtain⟨h1,h2,_⟩:=h;simp[World.cell?,h1,h2]
theorem Jp:WideMaps.KeyLaw Tryz.prog 114:=deep_law_laid (by kernel_rfl) (m:=3) (by omega) (of_decide_eq_true (by kernel_rfl)) (by kernel_rfl) (by kernel_rfl)
theorem kAll:((List.range 6).all λl:Nat=>(List.range 6).all λh:Nat=>(keyOf Tryz.prog 114 (ky l h)).isSome)=true:=by kernel_rfl
theorem Q7{l h:Nat}(hl:l+h<=5):∃x,keyOf Tryz.prog 114 (ky l h)=some x:=by have h1:=Aj.1 (Aj.1 kAll l (List.mem_range.2 (by omega))) h (List.mem_range.2 (by omega));exact Option.isSome_iff_exists.1 h1
theorem gE.key{e:MapEntry}(h:gE e):∃x,keyOf Tryz.prog 114 e.key=some x:=by obtain⟨l,k,h1,h2,_⟩:=h;rw[h2];exact Q7 h1
theorem ATJ{l h l' h':Nat}(e:ky l h=ky l' h'):l=l'/\h=h':=by simp only[ky,Value.agg.injEq,Array.mk.injEq,List.cons.injEq,Value.int.injEq,true_and,and_true]at e;omega
theorem t41:Tryz.prog.underlying 113=some (.map 114 3):=by kernel_rfl
theorem i3:∃i,Tryz.prog.info? 3=some i/\i.zero=some (.int .i64 0):=by
 have h:(Tryz.prog.info? 3).map (λi=>i.zero)=some (some (.int .i64 0)):=by kernel_rfl
 obtain⟨i,h1,h2⟩:=Ae.1 h;exact⟨i,h1,h2⟩
theorem AXT{w:World}{bm l h:Nat}{es:Array MapEntry}{ck:Nat}(hb:w.heap[bm]?=some (.map es ck))(hg:∀e∈es.toList,gE e)(hl:l+h<=5)(hx:∃e∈es.toList,e.key=ky l h):
  (Instr.lookup 113 (.map (some bm)) (ky l h) true).run Tryz.prog w=.ok (.tuple #[.int .i64 (sW l h),.bool true]) w:=by
 obtain⟨x,hk⟩:=Q7 hl;have hc:=Jp.check w es.isEmpty hk;rcases Jp.find w hk es.toList (λe he=>(hg e he).key)with⟨_,h2⟩|⟨j,e,h1,h2,h3⟩
 .obtain⟨e,he,he2⟩:=hx;exact absurd he2 (h2 e he)
 .obtain⟨l',h',q1,q2,q3⟩:=hg e (List.mem_of_getElem? h2);obtain⟨rfl,rfl⟩:=ATJ (q2.symm.trans h3);rw[q3]at h1;simp[Instr.lookup,run_underlying t41,MapKept.run_getObj_map hb,hc,h1,Result.andThen]
theorem AbJ{w:World}{bm l h:Nat}{es:Array MapEntry}{ck:Nat}(hb:w.heap[bm]?=some (.map es ck))(hg:∀e∈es.toList,gE e)(hl:l+h<=5)(hx:¬∃e∈es.toList,e.key=ky l h):
  (Instr.lookup 113 (.map (some bm)) (ky l h) true).run Tryz.prog w=.ok (.tuple #[.int .i64 0,.bool false]) w:=by
 obtain⟨x,hk⟩:=Q7 hl;have hc:=Jp.check w es.isEmpty hk;obtain⟨i,hi,hz⟩:=i3;have hzv:(zeroValue 3).run Tryz.prog w=.ok (.int .i64 0) w:=by simp[zeroValue,typeInfo,hi,hz]
 rcases Jp.find w hk es.toList (λe he=>(hg e he).key)with⟨h1,_⟩|⟨j,e,h1,h2,h3⟩
 .simp[Instr.lookup,run_underlying t41,MapKept.run_getObj_map hb,hc,h1,hzv,Result.andThen]
 .exact absurd ⟨e,List.mem_of_getElem? h2,h3⟩ hx
theorem AQ{w:World}{bm bc bf l h:Nat}(hO:DW bm bc bf w)(hl:l+h<=5):
  ∃w3,(Instr.mapUpdate 113 (.map (some bm)) (ky l h) (.int .i64 (sW l h))).run Tryz.prog w=.ok () w3/\DW bm bc bf w3/\Gm bm w w3:=by
 obtain⟨o1,o2,es,ck,hb,hg⟩:=hO;obtain⟨x,hk⟩:=Q7 hl;have hc:=Jp.check w false hk;have hne1:bf≠bm:=by rintro rfl;rw[o1]at hb;cases hb
 have hne2:bc≠bm:=by rintro rfl;rw[o2]at hb;cases hb
 have fin:∀es' ck',(∀e∈es'.toList,gE e)->DW bm bc bf { w with heap:=w.heap.setIfInBounds bm (.map es' ck') }/\Gm bm w { w with heap:=w.heap.setIfInBounds bm (.map es' ck') }:=by intro es' ck' hg';obtain⟨s1,s2⟩:=MapKept.heap_set (o':=.map es' ck') hb;refine⟨⟨by rw[s2 bf hne1];exact o1,by rw[s2 bc hne2];exact o2,es',ck',s1,hg'⟩,by simp,λy _ hy=>s2 y hy,rfl,rfl,rfl⟩
 rcases Jp.find w hk es.toList (λe he=>(hg e he).key)with⟨h1,_⟩|⟨j,e,h1,h2,h3⟩
 .refine⟨_,?_,fin (es.push ⟨ky l h,.int .i64 (sW l h),ck⟩) (ck+1) λe he=>?_⟩
  .simp[Instr.mapUpdate,run_underlying t41,MapKept.run_getObj_map hb,hc,h1,MapKept.run_setObj_map _ hb,Result.andThen]
  .rw[Array.toList_push,Ac,List.mem_singleton]at he;rcases he with he|rfl
   .exact hg e he
   .exact⟨l,h,hl,rfl,rfl⟩
 .have hj:es[j]?=some e:=by simpa using h2
  have hst:=Jp.stays w hk;refine⟨_,?_,fin (es.modify j (λe'=>{ e' with key:=ky l h,val:=.int .i64 (sW l h) })) ck λe' he=>?_⟩
  .simp[Instr.mapUpdate,run_underlying t41,MapKept.run_getObj_map hb,hc,h1,hj,h3,hst,MapKept.run_setObj_map _ hb,Result.andThen]
  .rw[Array.toList_modify,ChangeMaps.modify_eq_set _ _ _ _ h2]at he;rcases List.mem_or_eq_of_mem_set he with he|rfl
   .exact hg e' he
   .exact⟨l,h,hl,rfl,rfl⟩
theorem APQ{bm s l h:Nat}{w w':World}(hs:w.heap[s]?=some (.cells #[.int .i64 (l:Int),.int .i64 (h:Int)] 114 (0,0)))(hne:s≠bm)(g:Gm bm w w'):
  w'.cell? ⟨s,0,none⟩=some (.int .i64 (l:Int))/\w'.cell? ⟨s,1,none⟩=some (.int .i64 (h:Int)):=by have h1:=g.2.1 s (Cd hs) hne;rw[hs]at h1;simp[World.cell?,h1]
set_option maxHeartbeats 1000000 in
set_option maxRecDepth 1000000 in
theorem AdY(l m h k bm bc bf:Nat)(w:World)(hl:((l:Int)==0)=false)(hh:(h:Int)<=0)
   (ha:IntKind.i64.wrap ((l:Int)-1)=(m:Int)) (hb:IntKind.i64.wrap ((h:Int)+1)=(k:Int)) (hs:IntKind.i64.wrap (sW m k+sW m h)=sW l h)
   (h1:∀o,(w.alloc o).cell? ⟨bc,0,none⟩=some (.map (some bm)))
   (h2:∀o,(w.alloc o).cell? ⟨bf,0,none⟩=some (HD bc bf))
   (hL:∀o,(Instr.lookup 113 (.map (some bm)) (.agg #[.int .i64 (l:Int),.int .i64 (h:Int)]) true).run Tryz.prog (w.alloc o)=.ok (.tuple #[.int .i64 0,.bool false]) (w.alloc o))
   (kU:Hid (∀w',DW bm bc bf w'->∃w3,(Instr.mapUpdate 113 (.map (some bm)) (.agg #[.int .i64 (l:Int),.int .i64 (h:Int)]) (.int .i64 (sW l h))).run Tryz.prog w'=.ok () w3/\DW bm bc bf w3/\Gm bm w' w3))
   (kC:Hid (∀w',Gm bm (w.alloc (.cells #[.int .i64 (l:Int),.int .i64 (h:Int)] 114)) w'->w'.cell? ⟨w.heap.size,0,none⟩=some (.int .i64 (l:Int))/\w'.cell? ⟨w.heap.size,1,none⟩=some (.int .i64 (h:Int))))
   (k1:Hid (∀o,Calls Tryz.prog 207 #[.int .i64 (m:Int),.int .i64 (k:Int),.pointer (some ⟨bc,0,none⟩),.pointer (some ⟨bf,0,none⟩)] (w.alloc o).drew (SQ bm bc bf m k (w.alloc o))))
   (k2:Hid (∀w',DW bm bc bf w'->Calls Tryz.prog 207 #[.int .i64 (m:Int),.int .i64 (h:Int),.pointer (some ⟨bc,0,none⟩),.pointer (some ⟨bf,0,none⟩)] w' (SQ bm bc bf m h w'))):
   Calls Tryz.prog 207 #[.int .i64 (l:Int),.int .i64 (h:Int),.pointer (some ⟨bc,0,none⟩),.pointer (some ⟨bf,0,none⟩)] w (SQ bm bc bf l h w):=by
 go_enter Tryz.func207,Tryz.ntmps207;go_wp2
 go_region_with (first
  |(go_at_call_of 207 (Value.int .i64 (k:Int))
    refine(k1.out _).mono ?_
    rintro e w1 ⟨rfl,g1⟩
    obtain⟨c1,c2⟩:=g1.out.1.cells)
  |(go_at_call_of 207 (Value.int .i64 (h:Int))
    refine(k2.out _ g1.out.1).mono ?_
    rintro e w2 ⟨rfl,g2⟩
    obtain⟨c3,c4⟩:=g2.out.1.cells
    obtain⟨d1,d2⟩:=kC.out w2 (g1.out.2.trans g2.out.2)
    obtain⟨w3,u1,u2⟩:=kU.out w2 g2.out.1
    have u2:=BU u2))
 all_goals(go_wp2)
 all_goals(go_ret)
 all_goals(
  refine⟨by simp,u2.out.1,?_⟩
  exact(Gm.of (Gr.alloc w _)).trans ((g1.out.2.trans g2.out.2).trans u2.out.2))
set_option maxHeartbeats 2000000 in
set_option maxRecDepth 1000000 in
theorem ASF(l m h k j bm bc bf:Nat)(w:World)(hl:((l:Int)==0)=false)(hh:0<(h:Int))
   (ha:IntKind.i64.wrap ((l:Int)-1)=(m:Int)) (hb:IntKind.i64.wrap ((h:Int)+1)=(k:Int)) (hj:RowKit.wrap64 ((h:Int)-1)=(j:Int)) (hs:RowKit.wrap64 (RowKit.wrap64 (sW m k+sW m h)+sW l j)=sW l h)
   (h1:∀o,(w.alloc o).cell? ⟨bc,0,none⟩=some (.map (some bm)))
   (h2:∀o,(w.alloc o).cell? ⟨bf,0,none⟩=some (HD bc bf))
   (hL:∀o,(Instr.lookup 113 (.map (some bm)) (.agg #[.int .i64 (l:Int),.int .i64 (h:Int)]) true).run Tryz.prog (w.alloc o)=.ok (.tuple #[.int .i64 0,.bool false]) (w.alloc o))
   (kU:Hid (∀w',DW bm bc bf w'->∃w3,(Instr.mapUpdate 113 (.map (some bm)) (.agg #[.int .i64 (l:Int),.int .i64 (h:Int)]) (.int .i64 (sW l h))).run Tryz.prog w'=.ok () w3/\DW bm bc bf w3/\Gm bm w' w3))
   (kC:Hid (∀w',Gm bm (w.alloc (.cells #[.int .i64 (l:Int),.int .i64 (h:Int)] 114)) w'->w'.cell? ⟨w.heap.size,0,none⟩=some (.int .i64 (l:Int))/\w'.cell? ⟨w.heap.size,1,none⟩=some (.int .i64 (h:Int))))
   (k1:Hid (∀o,Calls Tryz.prog 207 #[.int .i64 (m:Int),.int .i64 (k:Int),.pointer (some ⟨bc,0,none⟩),.pointer (some ⟨bf,0,none⟩)] (w.alloc o).drew (SQ bm bc bf m k (w.alloc o))))
   (k2:Hid (∀w',DW bm bc bf w'->Calls Tryz.prog 207 #[.int .i64 (m:Int),.int .i64 (h:Int),.pointer (some ⟨bc,0,none⟩),.pointer (some ⟨bf,0,none⟩)] w' (SQ bm bc bf m h w')))
   (k3:Hid (∀w',DW bm bc bf w'->Calls Tryz.prog 207 #[.int .i64 (l:Int),.int .i64 (j:Int),.pointer (some ⟨bc,0,none⟩),.pointer (some ⟨bf,0,none⟩)] w' (SQ bm bc bf l j w'))):
   Calls Tryz.prog 207 #[.int .i64 (l:Int),.int .i64 (h:Int),.pointer (some ⟨bc,0,none⟩),.pointer (some ⟨bf,0,none⟩)] w (SQ bm bc bf l h w):=by
 go_enter Tryz.func207,Tryz.ntmps207;go_wp2
 go_region_with (first
  |(go_at_call_of 207 (Value.int .i64 (k:Int))
    refine(k1.out _).mono ?_
    rintro e w1 ⟨rfl,g1⟩
    obtain⟨c1,c2⟩:=g1.out.1.cells)
  |(go_at_call_of 207 (Value.int .i64 (h:Int))
    refine(k2.out _ g1.out.1).mono ?_
    rintro e w2 ⟨rfl,g2⟩
    obtain⟨c3,c4⟩:=g2.out.1.cells))
 all_goals(go_wp2_with (
      go_at_call_of 207 (Value.int .i64 (j:Int))
      refine(k3.out _ g2.out.1).mono ?_
      rintro e w4 ⟨rfl,g3⟩
      obtain⟨c5,c6⟩:=g3.out.1.cells
      obtain⟨d1,d2⟩:=kC.out w4 ((g1.out.2.trans g2.out.2).trans g3.out.2)
      obtain⟨w3,u1,u2⟩:=kU.out w4 g3.out.1
      have u2:=BU u2))
 all_goals(go_ret)
 all_goals(
  refine⟨by simp;exact hs,u2.out.1,?_⟩
  exact(Gm.of (Gr.alloc w _)).trans (((g1.out.2.trans g2.out.2).trans g3.out.2).trans u2.out.2))
theorem OR:∀l,l<6->∀h,h<6->0<=sW l h/\sW l h<=100000:=by decide
theorem WY{x:Int}(h:0<=x/\x<=1000000):RowKit.wrap64 x=x:=by unfold RowKit.wrap64;omega
theorem wrI{x:Int}(h:0<=x/\x<=1000000):IntKind.i64.wrap x=x:=wrap_i64 (by omega)
theorem DW.gr{bm bc bf:Nat}{w w':World}(h:DW bm bc bf w)(g:Gr w w'):DW bm bc bf w':=by obtain⟨o1,o2,es,ck,o3,o4⟩:=h;exact⟨by rw[g.2.1 bf (Cd o1)];exact o1,by rw[g.2.1 bc (Cd o2)];exact o2,es,ck,by rw[g.2.1 bm (Cd o3)];exact o3,o4⟩
theorem RF(bm bc bf:Nat):∀(N l h:Nat),2*l+h<=N->l+h<=5->∀w,DW bm bc bf w->Calls Tryz.prog 207 #[.int .i64 (l:Int),.int .i64 (h:Int),.pointer (some ⟨bc,0,none⟩),.pointer (some ⟨bf,0,none⟩)] w (SQ bm bc bf l h w)
 |N,0,h,hN,hl,w,hO=>by refine(AT7 h bm bc bf w).mono ?_;rintro e w' ⟨rfl,g⟩;exact⟨rfl,hO.gr g,Gm.of g⟩
 |0,l+1,h,hN,_,_,_=>by omega
 |N+1,m+1,h,hN,hl,w,hO=>by
  have ih:=RF bm bc bf N;have hA:∀o,DW bm bc bf (w.alloc o):=λo=>hO.gr (Gr.alloc w o);have h1:∀o,(w.alloc o).cell? ⟨bc,0,none⟩=some (.map (some bm)):=λo=>(hA o).cells.1;have h2:∀o,(w.alloc o).cell? ⟨bf,0,none⟩=some (HD bc bf):=λo=>(hA o).cells.2;obtain⟨o1,o2,es,ck,o3,o4⟩:=id hO;have o3A:∀o,(w.alloc o).heap[bm]?=some (.map es ck):=λo=>by rw[(Gr.alloc w o).2.1 bm (Cd o3)];exact o3
  have hl0:(((m+1:Nat):Int)==0)=false:=by rw[beq_eq_false_iff_ne];omega
  have ha:IntKind.i64.wrap (((m+1:Nat):Int)-1)=(m:Int):=by rw[wrI (by omega)];omega
  have hb:IntKind.i64.wrap ((h:Int)+1)=((h+1:Nat):Int):=by rw[wrI (by omega)];omega
  by_cases hx:∃e∈es.toList,e.key=ky (m+1) h;refine(AZU (m+1) h bm bc bf (sW (m+1) h) w hl0 h1 (λo=>AXT (o3A o) o4 hl hx)).mono ?_;rintro e w' ⟨rfl,g⟩;exact⟨rfl,hO.gr g,Gm.of g⟩;have hL:=λo=>AbJ (o3A o) o4 hl hx;have kU:Hid (∀w',DW bm bc bf w'->∃w3,(Instr.mapUpdate 113 (.map (some bm)) (.agg #[.int .i64 ((m+1:Nat):Int),.int .i64 (h:Int)]) (.int .i64 (sW (m+1) h))).run Tryz.prog w'=.ok () w3/\DW bm bc bf w3/\Gm bm w' w3):=λw' hO'=>AQ hO' hl
  have kC:Hid (∀w',Gm bm (w.alloc (.cells #[.int .i64 ((m+1:Nat):Int),.int .i64 (h:Int)] 114)) w'->w'.cell? ⟨w.heap.size,0,none⟩=some (.int .i64 ((m+1:Nat):Int))/\w'.cell? ⟨w.heap.size,1,none⟩=some (.int .i64 (h:Int))):=λw' g=>
   APQ (heap_alloc_new w _) (by have:=Cd o3;omega) g
  have k1:Hid (∀o,Calls Tryz.prog 207 #[.int .i64 (m:Int),.int .i64 ((h+1:Nat):Int),.pointer (some ⟨bc,0,none⟩),.pointer (some ⟨bf,0,none⟩)] (w.alloc o).drew (SQ bm bc bf m (h+1) (w.alloc o))):=λo=>
   (ih m (h+1) (by omega) (by omega) (w.alloc o).drew (hA o)).mono λe w' q=>q
  have k2:Hid (∀w',DW bm bc bf w'->Calls Tryz.prog 207 #[.int .i64 (m:Int),.int .i64 (h:Int),.pointer (some ⟨bc,0,none⟩),.pointer (some ⟨bf,0,none⟩)] w' (SQ bm bc bf m h w')):=λw' hO'=>ih m h (by omega) (by omega) w' hO';have b2:=OR m (by omega) h (by omega)
  cases h with
  |zero=>
   have b1:=OR m (by omega) 1 (by omega)
   exact AdY (m+1) m 0 1 bm bc bf w hl0 (by omega) ha hb (by rw[wrI (by omega)];rfl) h1 h2 hL kU kC k1 k2
  |succ h=>
   have b1:=OR m (by omega) (h+2) (by omega)
   have b3:=OR (m+1) (by omega) h (by omega)
   have k3:Hid (∀w',DW bm bc bf w'->Calls Tryz.prog 207 #[.int .i64 ((m+1:Nat):Int),.int .i64 (h:Int),.pointer (some ⟨bc,0,none⟩),.pointer (some ⟨bf,0,none⟩)] w' (SQ bm bc bf (m+1) h w')):=λw' hO'=>ih (m+1) h (by omega) (by omega) w' hO'
   exact ASF (m+1) m (h+1) (h+2) h bm bc bf w hl0 (by omega) ha hb (by rw[WY (by omega)];omega) (by rw[WY (x:=sW m (h+2)+sW m (h+1)) (by omega),WY (by omega)];rfl) h1 h2 hL kU kC k1 k2 k3
set_option maxHeartbeats 1000000 in
set_option maxRecDepth 1000000 in
theorem AR3(n:Nat)(hn:n<=5)(w:World):Calls Tryz.prog 91 #[.int .i64 (n:Int),.int .i64 0,.int .i64 12] w (λe w'=>e=.returned (.bool true)/\Gr w w'):=by
 go_enter Tryz.func91,Tryz.ntmps91;go_wp2;all_goals(go_ret)
 all_goals exact⟨by rw[decide_eq_true (show(n:Int)<=12 by omega)];rfl,Gr.refl w⟩
abbrev W4(w:World):World:=((w.alloc (.cells #[HD (w.heap.size+1+1) w.heap.size] 68)).alloc (.map #[] 0)).alloc (.cells #[.map (some (w.heap.size+1))] 113)
theorem sz1(w:World)(o:Obj):(w.alloc o).heap.size=w.heap.size+1:=by show(w.heap.push o).size=_;simp
theorem AAU(w:World):DW (w.heap.size+1) (w.heap.size+1+1) w.heap.size (W4 w)/\Gr w (W4 w):=by have s1:=sz1 w (.cells #[HD (w.heap.size+1+1) w.heap.size] 68);have s2:=sz1 (w.alloc (.cells #[HD (w.heap.size+1+1) w.heap.size] 68)) (.map #[] 0);have n1:=heap_alloc_new w (.cells #[HD (w.heap.size+1+1) w.heap.size] 68);have n2:=heap_alloc_new (w.alloc (.cells #[HD (w.heap.size+1+1) w.heap.size] 68)) (.map #[] 0);have n3:=heap_alloc_new ((w.alloc (.cells #[HD (w.heap.size+1+1) w.heap.size] 68)).alloc (.map #[] 0)) (.cells #[.map (some (w.heap.size+1))] 113);rw[s1]at n2;rw[s2,s1]at n3;refine⟨⟨?_,n3,#[],0,?_,by simp⟩,((Gr.alloc w _).trans (Gr.alloc _ _)).trans (Gr.alloc _ _)⟩;rw[heap_alloc_old (h:=by omega),heap_alloc_old (h:=by omega)];exact n1;rw[heap_alloc_old (h:=by omega)];exact n2
set_option maxHeartbeats 1000000 in
set_option maxRecDepth 1000000 in
theorem AXE(n:Nat)(hn:n<=5)(w:World):Calls Tryz.prog 95 #[.int .i64 (n:Int)] w (λe w'=>e=.returned (.int .i64 (sW n 0))/\Gr w w'):=by
 have k0:=BU (AR3 n hn);have kw:=BU (λw1=>RF (w1.heap.size+1) (w1.heap.size+1+1) w1.heap.size (2*n) n 0 (by omega) (by omega) (W4 w1) (AAU w1).1);have hmm:=@run_makeMap Tryz.prog;clear hn;go_enter Tryz.func95,Tryz.ntmps95
 go_wp2_with (first
  |(go_at_call 91
    refine(k0.out _).mono ?_
    rintro e w1 ⟨rfl,g1⟩
    have g1:=BU g1)
  |(go_at_call 207
    refine(kw.out w1).mono ?_
    rintro e w2 ⟨rfl,g2⟩))
 go_ret;refine⟨rfl,?_⟩;obtain⟨q1,q2,q3,q4,q5⟩:=g2.out.2;obtain⟨r1,r2,r3,r4,r5⟩:=(AAU w1).2;exact g1.out.trans ⟨Nat.le_trans r1 q1,λx hx=>(q2 x (by omega) (by omega)).trans (r2 x hx),q3.trans r3,q4.trans r4,q5.trans r5⟩
theorem ATV:∀n,n<6->sW n 0=K4.getD n 0:=by decide
instance:RG K:=⟨λn hn=>⟨⟨494,95,⟨[.v],[.v],[],none⟩⟩,rfl,AY8 λw=>by rw[<-ATV n (by omega)];exact AXE n hn w⟩⟩
end Go.Proofs.YthoilpmggmenbaaGreat.fnConsoleResults
