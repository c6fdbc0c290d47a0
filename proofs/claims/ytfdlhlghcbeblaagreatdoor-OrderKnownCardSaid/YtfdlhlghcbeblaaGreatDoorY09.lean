/- law.run: its iterator in ModeAll (printed by genrun.py). -/
import Derived.Test.YtfdlhlghcbeblaaGreatDoorY08
set_option maxRecDepth 100000
set_option maxHeartbeats 16000000
namespace Go.Proofs.YtfdlhlghcbeblaaGreatDoor
open Go.RowKit Go.Ab
attribute [local go_sem] Oper.semAt_some Zf Qp
theorem X7{o:Oper}{a:Act}{w:World}{ty:TypeId}{x:Operand}(e:o.op=.load ty x)(g:Nat)(i:a.eval x=.pointer (some ⟨g,0,none⟩)) (t:TypeId) (cs:Array Value) (fr:Nat × Nat) (c:w.heap[g]?=some (.cells cs t fr))
  {b:Array Field} (f:Tryz.prog.underlying ty=some (.struct b)) (d:(Tryz.prog.info? ty).map (·.size)=some cs.size):(execOp a.eval o).run Tryz.prog w=.ok (.value (.agg cs)) w:=by
 unfold execOp;simp only [e,i,Instr.loadAt,Instr.sureAddr,Sem.run_bind,Sem.run_pure,Result.andThen_ok,run_loadVar_row w g t ty cs fr (.struct b) c f rfl d]
theorem X2{W:World}{b:Nat}{t:TypeId}{v:Value}(u:Value)(h:W.heap[b]?=some (.cells #[v] t (0,0))):(W.setCell ⟨b,0,none⟩ u).heap[b]?=some (.cells #[u] t (0,0)):=by
 simp only [World.setCell,Array.getElem?_modify,h];simp
theorem Yn.inner{w V d:World}{K O:Nat->Prop}{J:(Nat->Prop)->List (Nat × Wd)->World->Prop} {a f:Nat} {i:List (Nat × Wd)} {u:Wd} {uo:Option Addr} {uc:Nat} (h:Yn w V K O J a f i u uo uc)
  (c:Q1 (fun b=>b=a+2\/b=a+3) V d) (k:O (a+2)) (l:O (a+3)) (m:∀ O O' pre A B,J O pre A->Q1 (fun b=>O b/\Yl 9 a b) A B->(∀ b,O' b->(O b\/A.heap.size<=b)/\b<B.heap.size)->J O' pre B)
  (q:Qr (fun g=>a+4<=g) (.slice uo u.length uc)) (o:∀ b,K b->b<a):Yn w d K O J a f i u uo uc:=by
 have p:Q1 (fun b=>O b/\Yl 9 a b) V d:=c.mono fun b _ hb=>by
  rcases hb with rfl | rfl
  ·exact⟨k,by unfold Yl;omega⟩
  ·exact⟨l,by unfold Yl;omega⟩
 have e:∀ b,O b->a<=b/\b<d.heap.size:=fun b hb=>⟨(h.lt b hb).1,Nat.lt_of_lt_of_le (h.lt b hb).2 c.size⟩;refine⟨m _ _ _ _ _ h.j p (fun b hb=>⟨.inl hb,(e b hb).2⟩),h.oy,h.on,e,?_,c.heap h.y oz,c.heap h.n oz,Hd (S:=fun g=>a+4<=g) h.wd (c.mono fun b _ hb hn=>by omega) q,h.cap,h.kept⟩;exact h.t.trans (c.mono fun b _ hb hk=>by have:=o b hk;omega)
theorem L6{P:Program}{fn:Func}{tmps:Array Value}{R:Ending->World->Prop}{v:Value}{r:Nat}{w:World}(hr:w.heap[r]?=some (.deferred (some [])))
  (h1:(results fn tmps).run P (w.putObj r (.deferred none))=.ok v (w.putObj r (.deferred none))) (h2:R (.returned v) (w.putObj r (.deferred none))) :
  LeavesInM Fence.wide 0 P fn tmps R [{ target:=.collected r,args:=#[] }] .returning w:=
 ⟨by simp,.inl ⟨r,_,rfl,run_takeDeferred hr,⟨v,h1,h2⟩⟩⟩
def N7(w:World)(K:Nat->Prop)(J:(Nat->Prop)->List (Nat × Wd)->World->Prop) (Y0 lp:Nat) (l:Q7) (ws:Wd) (Oin:Nat->Prop) (pre:List Nat) (V:World):Prop:=
 ∃(O:Nat->Prop) (tr:List (Nat × Wd)) (u:Wd) (uo:Option Addr) (uc next:Nat),Yn w V K O J Y0 lp tr u uo uc/\Hn l ws pre tr u next /\
  V.heap[Y0+2]?=some (.cells #[.int .i64 (next:Int)] 3 (0,0))/\V.heap[Y0+3]?=some (.cells #[.int .i64 (K0 l tr)] 3 (0,0)) /\
  (∀ b,Oin b->O b)/\(∀ b,Y0<=b->b<Y0+9->O b)/\Qr (fun g=>g≠Y0+8/\g<V.heap.size) (.slice uo u.length uc)
def N0(J:(Nat->Prop)->List (Nat × Wd)->World->Prop) (Y0:Nat) (l:Q7) (ws:Wd) (Oin:Nat->Prop) (V:World):Prop:=
 ∃(O:Nat->Prop) (tr:List (Nat × Wd)) (x:Nat × Wd) (rest:List (Nat × Wd)),Z4 l ws=tr++x::rest/\J O (tr++[x]) V/\(∀ b,Oin b->O b)/\(∀ b,Y0<=b->b<Y0+9->O b)/\(∀ b,O b->b<V.heap.size)
section
variable {w:World} {K:Nat->Prop} {J Jx:(Nat->Prop)->List (Nat × Wd)->World->Prop} {Y0 lp:Nat} {l:Q7} {ws:Wd} {Oin Oin':Nat->Prop} {pre:List Nat} {A B:World}
theorem N7.step(h:N7 w K J Y0 lp l ws Oin pre A)(D:∀ O O' pre A B,J O pre A->Q1 (fun b=>O b/\Yl 9 Y0 b) A B->(∀ b,O' b->(O b\/A.heap.size<=b)/\b<B.heap.size)->J O' pre B) (E:∀ b,K b->b<Y0)
  (F:∀ b,Oin b->Y0+9<=b/\b<A.heap.size) (f:Q1 (fun b=>b=Y0+8) A B) (i:∀ b,Oin' b->(Oin b\/A.heap.size<=b)/\b<B.heap.size):N7 w K J Y0 lp l ws Oin' pre B:=by
 obtain⟨O,M,s,v,u,L,d,C,m,x,z,p,q⟩:=h
 have r:Q1 (fun b=>O b/\Yl 9 Y0 b) A B:=f.mono fun b _ a=>by
  subst a;exact⟨p _ oz oz,by unfold Yl;omega⟩
 have k:∀ b,b<Y0+8->¬ (b=Y0+8):=fun b a hn=>by omega
 have G:Qr (fun g=>¬ (g=Y0+8)) (.slice v s.length u):=fun g o n c e h0'=>(q g o n c e h0').1;refine⟨fun b=>O b\/Oin' b,M,s,v,u,L,⟨D _ _ _ _ _ d.j r (fun b a=>?_),.inl d.oy,.inl d.on,fun b a=>?_,d.t.trans (r.mono fun b _ a hk=>?_),f.heap d.y (k _ oz),f.heap d.n (k _ oz),Hd (S:=fun g=>¬ (g=Y0+8)) d.wd (f.mono fun b _ a hn=>hn a) G,d.cap,fun g o n c e h0'=>?_⟩,C,f.heap m (k _ oz),f.heap x (k _ oz),fun b a=>.inr a,fun b h1 m=>.inl (p b h1 m),fun g o n c e h0'=>?_⟩
 ·rcases a with a | a
  ·exact⟨.inl a,Nat.lt_of_lt_of_le (d.lt b a).2 f.size⟩
  ·exact⟨(i b a).1.imp (fun h=>z b h) id,(i b a).2⟩
 ·rcases a with a | a
  ·exact⟨(d.lt b a).1,Nat.lt_of_lt_of_le (d.lt b a).2 f.size⟩
  ·refine⟨?_,(i b a).2⟩;rcases(i b a).1 with h | h
   ·have:=(F b h).1;omega
   ·have:=(d.lt _ d.oy).2;omega
 ·have:=E b hk;have:=(d.lt b a.1).1;omega
 ·exact(d.kept g o n c e h0').imp id .inl
 ·obtain⟨H,I⟩:=q g o n c e h0';exact⟨H,Nat.lt_of_lt_of_le I f.size⟩
theorem N0.step(h:N0 Jx Y0 l ws Oin A)(k:∀ O O' pre A B,Jx O pre A->Q1 (fun b=>O b/\Yl 9 Y0 b) A B->(∀ b,O' b->(O b\/A.heap.size<=b)/\b<B.heap.size)->Jx O' pre B)
  (f:Q1 (fun b=>b=Y0+8) A B) (e:∀ b,Oin' b->(Oin b\/A.heap.size<=b)/\b<B.heap.size):N0 Jx Y0 l ws Oin' B:=by
 obtain⟨O,o,p,n,c,d,j,g,i⟩:=h
 have m:Q1 (fun b=>O b/\Yl 9 Y0 b) A B:=f.mono fun b _ a=>by
  subst a;exact⟨g _ oz oz,by unfold Yl;omega⟩
 refine⟨fun b=>O b\/Oin' b,o,p,n,c,k _ _ _ _ _ d m (fun b a=>?_),fun b a=>.inr a,fun b c d=>.inl (g b c d),fun b a=>?_⟩
 ·rcases a with a | a
  ·exact⟨.inl a,Nat.lt_of_lt_of_le (i b a) f.size⟩
  ·exact⟨(e b a).1.imp (fun h=>j b h) id,(e b a).2⟩
 ·rcases a with a | a
  ·exact Nat.lt_of_lt_of_le (i b a) f.size
  ·exact(e b a).2
end
theorem Q63{w:World}{BW BL b6 d6:Nat}{l:Q7}{cs:List Value}{vo:Option Addr}{vc:Nat}{ws:Wd}{K:Nat->Prop}(v9:X8 l=true)(n3:l.mode=1)(C5:ws.length<=32)(i0:ws.length<=vc)(n1:Qr K (.slice vo ws.length vc))
  (t5:∀ b,K b->b<w.heap.size) (n6:∀ W,Q1 (fun b=>¬ K b) w W->R7 W BW BL b6 d6 l cs vo vc ws) :
  Ut Tryz.prog 225 #[.pointer (some ⟨BW,0,none⟩),.pointer (some ⟨BL,0,none⟩),.pointer (some ⟨b6,0,none⟩),.pointer (some ⟨d6,0,none⟩)] (Yl 9) (Tg 9) (Z4 l ws) K w:=by
 intro i4 A3 A4 W J t0 t3 d1 h0;obtain⟨B8,w0,v8,_,v5,_,_,_⟩:=Gz v9;have g0:=n6 W J;have w2:=g0.law.box.mode;rw [n3] at w2;obtain⟨Y,o3⟩:=zE ws.length;have c1:=cell_of_one g0.box;rw [o3] at c1 C5 i0 n1;obtain⟨r3,C,c9,y8,r5,a5,j4,r2⟩:=Zh8 n1 o3 n6 v5 n3 t0 d1 h0;have j3:=Zh J;have y2:=Zh g0;obtain⟨r,n0⟩:=zE l.ifs.length;obtain⟨u,n2⟩:=zE l.outs.length;rw [n0] at B8 v8;rw [n2] at w0 v8;obtain⟨b7,c8,f8⟩:=Zh3 n0 n2 t3;clear n6 v5 n3 t0 t3 d1 h0 J g0 v9 o3 n1 n0 n2;show Calls _ _ #[.func (.yield i4) #[] #[],.pointer (some ⟨BW,0,none⟩),.pointer (some ⟨BL,0,none⟩),.pointer (some ⟨b6,0,none⟩),.pointer (some ⟨d6,0,none⟩)] _ _;refine Qv Tryz.func225 rfl ?_;simp only [Tryz.ntmps225,zS,Nat.reduceAdd,Nat.reduceSub];have l4:=y2.out.law.box.mode;rw [r5.out] at l4;go_upto_region 1 with (fail)
 obtain⟨d3,L⟩:=zE (W.alloc (.cells #[.func (.yield i4) #[] #[]] 266));have k9:Ext W d3:=by rw [<-L];exact(Q1.refl _ W).alloc _
 have m4:d3.heap[W.heap.size]?=some (.cells #[.func (.yield i4) #[] #[]] 266 (0,0)):=by rw [<-L];exact Q3 rfl
 have n5:d3.heap.size=W.heap.size+1:=by rw [<-L];simp
 rw [L];obtain⟨e,g8⟩:=zE W.heap.size;rw [g8] at m4 n5 ⊢;have e8:=a5.out;have o6:=j4.out;rw [g8] at e8 o6;have D4:=a5;have a5:=Zh e8;have j4:=Zh o6;clear e8 o6;have b1:Hid (∀ b,K b->b<e):=Zh fun b f=>by have:=t5 b f;have:=j3.out.size;omega
 have j5:=Zh g8;have f9:=Zh n5;clear t5;have c1:=k9.cell_some c1 id;clear L g8 n5 w2;go_upto_region 2 with (fail)
 rw [f9.out];obtain⟨c5,M⟩:=zE (d3.alloc (.cells #[.slice vo Y vc] 99));have l1:Ext d3 c5:=by rw [<-M];exact(Q1.refl _ d3).alloc _
 have t9:Yz c5 (e+1) (.slice vo Y vc):=by rw [<-M];exact Q3 f9.out.symm
 have w7:c5.heap.size=e+2:=by rw [<-M];simp [f9.out]
 have u9:=l1.keep m4;rw [M];have e3:=k9.trans l1;have C0:=e3.cell_some l4 id;have d8:=Zh w7;clear M c1 m4 k9 l1 l4 w7;have t1:=a5.out _ (fun b=>b=e\/b=e+1) [] _ _ r2.out (Ext.of e3) (fun b f=>by have:=j5.out;have:=d8.out;omega);have z0:=Zh t1;have B4:Q1 (fun b=>¬ K b) w c5:=j3.out.trans (Ext.of e3);clear t1;have m9:=f8.out;rw [j5.out] at m9;have f8:=Zh m9;clear m9;go_upto_region 5 with (fail)
 rw [d8.out,show e+2+1=e+3 from rfl];obtain⟨d4,G⟩:=zE ((c5.alloc (.cells #[.int .i64 0] 3)).alloc (.cells #[.int .i64 0] 3));have g2:Ext c5 d4:=by rw [<-G];exact((Q1.refl _ c5).alloc _).alloc _
 have f2:d4.heap[e+2]?=some (.cells #[.int .i64 0] 3 (0,0)):=by rw [<-G];exact Q6 (Q3 d8.out.symm)
 have v6:d4.heap[e+3]?=some (.cells #[.int .i64 0] 3 (0,0)):=by rw [<-G];exact Q3 (by simp [d8.out])
 have w8:d4.heap.size=e+4:=by rw [<-G];simp [d8.out]
 rw [G];have v0:=g2.keep u9;have u0:=g2.keep t9;have s9:=e3.trans g2;have m1:Q1 (fun b=>¬ K b) w d4:=j3.out.trans (Ext.of s9);have g4:=c9.out d4 m1;have z9:=Zh w8;clear G g2 u9 t9 w8 e3 B4 z0 C0 f9;have c1:=cell_of_one g4.box;rw [C.out] at c1;have m8:=S9 g4.law.2 (ao:=vo) (n:=Y) (c:=vc) 0;rw [z9.out] at m8;have r1:=Zh m8;obtain⟨t6,t7⟩:=g4.law;obtain⟨p7,p0,q2,p2,p5,k1,k3,p8,j7,k5,p1,q3,p3,p6,k2,k4,p9,j8,k6,o9,j9,o8,q1,k0,q0,p4,rfl,D5,E2,E3,D3,z6,E1,D7,D8,D9,E0,D6,F6,y0,C8,y1,F7⟩:=Yr t7;have r4:=Zh t6;clear m8 t6 t7 g4
 go_wp2_with (first | (refine wpList_load_row rfl 102 (.tmp 2) rfl BL rfl _ _ _ _ r4.out Tryz.underlying102 rfl Tryz.lawInfo ?_) | (go_at_call 226;refine r1.out.mono ?_;rintro p c6 ⟨rfl,C4,l5,m0,l3,c4⟩))
 have w9:c6.heap.size=e+7:=by omega
 have N:=Zh w9;have o5:=c4.keep f2;have m6:=c4.keep v6;have m5:=c4.keep v0;have l6:=c4.keep u0;have l0:=s9.trans c4;have g6:Q1 (fun b=>¬ K b) w c6:=m1.trans (Ext.of c4);clear C4 w9 f2 v6 v0 u0 m1 c4 r1 c1 r4
 have n7:∀ o,Q1 (fun b=>¬ (K b\/b=e+4\/b=e+5\/b=e+6)) c6 o->LBx o (e+4) l _/\Yz o (e+4+1) (.slice vo Y vc)/\Q8 o (.slice vo Y vc) ws/\Tab o/\o.heap[e+4+2]?=some (.cells #[.int .i64 (0:Nat)] 3 (0,0)):=fun o U=>by
  have B5:Q1 (fun b=>¬ K b) w o:=g6.trans (U.mono fun b _ f hk=>f (.inl hk));have a0:=c9.out o B5;have x1:=a0.word;rw [C.out] at x1;exact⟨⟨U.heap l5.1 (fun k=>k (.inr (.inl rfl))),a0.law.2⟩,U.heap m0 (fun k=>k (.inr (.inr (.inl rfl)))),x1,a0.tab,U.heap l3 (fun k=>k (.inr (.inr (.inr rfl))))⟩
 refine Xu (xs:=W4 l ws) (K:=fun b=>K b\/b=e+4\/b=e+5\/b=e+6) rfl (enters_of Tryz.func258 kz rfl)
  (by rw [<-Eg];exact Pj 0 oz (by rw [b7.out,C.out];omega) n7) (fun b k=>by have:=N.out;rcases k with k | k;have:=b1.out b k;omega;omega) (fun _ _ x A d5 k=>by rw [k];rfl) (fun _ _ x A g d5 k _ _=>k)
  (N7 w K A3 e i4 l ws) (fun c b8 i5 o=>c=.ret/\N0 A4 e l ws b8 o) ?hI ?hIx ?h0 (fun d5 t=>(t.setIfInBounds 20 (d5.getD 0 undef)).setIfInBounds 9 (d5.getD 0 undef)) ?assign ?body ?done ?stop
 case hI=>
  rintro b8 A5 i5 A g k a7 J l8;rw [N.out] at a7 J;exact k.step a5.out b1.out (fun b f=>⟨by have:=(a7 b f).1;omega,(a7 b f).2⟩) (J.mono fun b _ k=>k.elim (fun q=>q.2.elim) id) l8
 case hIx=>
  rintro c b8 A5 i5 A g ⟨rfl,k⟩ a7 J l8;rw [N.out] at J;exact⟨rfl,k.step f8.out (J.mono fun b _ k=>k.elim (fun q=>q.2.elim) id) l8⟩
 case h0=>
  intro o U a3;have u7:Q1 (fun b=>¬ K b) w o:=g6.trans (Ext.of U);refine⟨fun b=>e<=b/\b<e+9,[],ws,vo,vc,0,⟨a5.out _ _ _ _ _ r2.out (Ext.of (l0.trans U)) (fun b f=>by have:=j5.out;have:=N.out;omega),⟨by omega,by omega⟩,⟨by omega,by omega⟩,fun b f=>by have:=N.out;omega,u7,U.keep m5,by rw [C.out];exact U.keep l6,(c9.out o u7).word,by rw [C.out];exact i0,by rw [C.out];exact fun Z a9 n c p a6=>.inl (r3.out Z a9 n c p a6)⟩,.start r5.out,U.keep o5,?_,fun b f=>f.elim,fun b D z=>⟨D,z⟩,?_⟩
  ·have:K0 l []=0:=by unfold K0;simp
   rw [this];exact U.keep m6
  ·rw [C.out];intro Z a9 n c p a6;have:=b1.out Z (r3.out Z a9 n c p a6);exact⟨by omega,by have:=N.out;omega⟩
 case assign=>
  rintro _ _ i d5 o E6 rfl y;gi_wp2;exact y
 case done=>
  rintro b8 o ⟨b9,b0,a4,I,H,d2,e4,e2,_,_,_,c3,_⟩ a7 J T;have v4:=e2.done;obtain⟨y6,r6,P,y7⟩:=Zh4 v4 e4 c3 T;clear v4 e4 e2 c3 T n7 g6 o5 m6 m5 l6 l0 l5 m0 l3 J a7;go_wp2;have a2:c6.heap.size=e+7:=N.out;refine L6 y7.out (results_none rfl _ _ _) ⟨⟨_,rfl⟩,b9,.inl ?_⟩;rw [y6.out];exact a5.out _ _ _ _ _ r6.out.j ((Q1.refl (fun b=>b9 b/\Yl 9 e b) o).putObj (.inr (by rw [a2];exact⟨P.out _ oz oz,by unfold Yl;omega⟩)) _) (fun b f=>⟨.inl f,by simpa using (r6.out.lt b f).2⟩)
 case stop=>
  rintro c b8 i5 x C9 o o4 ⟨rfl,b9,b0,c7,i7,D,z,c2,c3,g1⟩ T;refine wp_ret ?_;have a2:c6.heap.size=e+7:=N.out;refine L6 T (results_none rfl _ _ _) ⟨⟨_,rfl⟩,b9,.inr ⟨b0,c7,i7,D,?_⟩⟩;exact f8.out _ _ _ _ _ z ((Q1.refl (fun b=>b9 b/\Yl 9 e b) o).putObj (.inr (by rw [a2];exact⟨c3 _ oz oz,by unfold Yl;omega⟩)) _) (fun b f=>⟨.inl f,by simpa using g1 b f⟩)
 case body=>
  rintro b8 i5 a C9 d5 o o4 F3 a7 J ⟨b9,b0,a4,I,H,d2,e4,e2,z,c2,s7,c3,g1⟩ rfl;simp only [pq];have A7:=cell_of_one z;have s5:=cell_of_one c2;obtain⟨s4,z5,Q,j2,q9,j1,f7,P⟩:=Zh8 o4 a7 e4 e2 z c2 s7 c3;have y3:=Zh g1;clear o4 a7 e4 e2 z c2 s7 c3 g1 n7 g6 o5 m6 m5 l6 l0 l5 m0 l3 J;have E8:a<=32:=by
   have:=(Wx s4.out).2.1;rw [C.out] at this;omega
  have F1:d2<=33:=by obtain⟨_,_,_,_,k⟩:=j2.out;rw [C.out] at k;omega
  by_cases e9:a<d2
  ·have B9:(a:Int)<(d2:Int):=by omega
   gi_wp2;exact⟨Q1.refl _ _,b9,b0,a4,I,H,d2,Q.out,j2.out.pass e9,q9.out,j1.out,f7.out,P.out,y3.out⟩
  have B9:¬ ((a:Int)<(d2:Int)):=by omega
  gi_wp2;obtain⟨c,X,x7,B6,a2,f0,v3,n8,g9,s8,i7,x0⟩:=j2.out.hit s4.out oz;rw [b7.out] at a2 f0 g9;rw [c8.out] at f0 v3;rw [C.out] at f0 n8 g9;have B7:=few (t:=b0.length) (n:=Y) (m:=u) n8 w0 oz;have E9:c<=230:=by omega
  have C2:X.length<=300:=by omega
  obtain⟨s,o7⟩:=zE (K0 l b0);have j6:=Zh o7;rw [o7] at x7 s5;obtain⟨y4,s2,E4⟩:=Zh3 s8 x0 f0;clear s8 x0 f0 v3 n8 B7 o7 A7;have u4:=Q.out.cap;have u5:=Q.out.wd;obtain⟨q8,n9⟩:=zE a4.length;have o0:=c9.out o Q.out.t;have o1:=o0.word;have L:Q8 o _ _:=Q8.cut u5 (a:=0) (b:=c) oz B6 u4;have M:Q8 o _ _:=Q8.cut o1 (a:=a) (b:=a+r) oz (by rw [C.out];exact g9) (by rw [C.out];exact i0);have G:Q8 o _ _:=Q8.cut o1 (a:=a+r) (b:=ws.length) (by rw [C.out];exact g9) oz (by rw [C.out];exact i0);rw [take_zero] at L;rw [show a+r - a=r by omega] at M;rw [T9 rfl,C.out] at G;have q5:=fun g=>No (A:=I) (n:=q8) (c:=H) V9 Kb c oz g;have q6:=fun g=>Tb (A:=vo) (n:=Y) (c:=vc) V9 Kb a (a+r) oz oz g;have q7:=fun g=>Nn (A:=vo) (n:=Y) (c:=vc) V9 Kb (a+r) oz g;simp only [Int.natCast_add] at q6 q7;rw [x7] at q5;obtain⟨f3,f5,e0,x2⟩:∃ c7 s p,sliced I 0 c H 2=.slice c7 s p:=⟨_,_,_,rfl⟩;obtain⟨D1,D2,A9,x3⟩:∃ c7 s p,sliced vo a (a+r) vc 2=.slice c7 s p:=⟨_,_,_,rfl⟩;obtain⟨f4,f6,e1,f2⟩:∃ c7 s p,sliced vo (a+r) Y vc 2=.slice c7 s p:=⟨_,_,_,rfl⟩;rw [x2] at L q5;rw [x3] at M q6;rw [f2] at G q7;have w1:((ws.drop a).take r).length=r:=by rw [List.length_take,List.length_drop,C.out];omega
  have n4:=fun(g:World) (hE:Ext o g)=>Bs (o0.law.2.ext hE) (M.ext hE) (by rw [w1,<-b7.out];exact y8.out) (by rw [c8.out];omega);have i1:=X0 l ((ws.drop a).take r);rw [c8.out] at i1;have i2:Zt (X9 l ((ws.drop a).take r)):=L8 M.2 z6.out.2;obtain⟨d0,t8⟩:=zE (X9 l ((ws.drop a).take r));rw [t8] at n4 a2 i1 i2;have w6:Zt X:=by
   rw [a2];intro q4 a3;rcases List.mem_append.1 a3 with a3 | a3
   ·rcases List.mem_append.1 a3 with a3 | a3
    ·exact L.2 q4 a3
    ·exact i2 q4 a3
   ·exact G.2 q4 a3
  have r0:Hid (∀(b5:Nat) (I:Option Addr) (H:Nat) (E:World),E.ownsRow b5 95 2 (.slice I u H) u (Qw d0)->Ext o E->Calls Tryz.prog 227 #[.slice (some ⟨E.heap.size,0,none⟩) 3 3] (E.alloc (.cells #[.slice f3 f5 e0,.slice I u H,.slice f4 f6 e1] 99)) fun p w'=>∃ a4,p=.returned a4/\w'.ownsRow (E.heap.size+1) 95 2 a4 X.length (Qw X)/\Ext (E.alloc (.cells #[.slice f3 f5 e0,.slice I u H,.slice f4 f6 e1] 99)) w'):=Zh fun b5 I H E e5 b2=>by
   have k7:Ext E (E.alloc (.cells #[.slice f3 f5 e0,.slice I u H,.slice f4 f6 e1] 99)):=(Q1.refl _ E).alloc _;have C1:=Rd.of_own (Qf e5 k7)
   have v2:=Mq (w:=E.alloc (.cells #[.slice f3 f5 e0,.slice I u H,.slice f4 f6 e1] 99)) (us:=[a4.take c,d0,ws.drop (a+r)]) (F:=X) (by rw [a2];simp) (Sp (w:=E))
    (fun j e8=>by
     match j,e8 with
     | 0,_=>exact(L.ext b2).ext k7
     | 1,_=>
      show Q8 _ (.slice I u H) d0;exact⟨by rw [i1];exact C1,i2⟩
     | 2,_=>exact(G.ext b2).ext k7) oz
   rw [World.size_alloc] at v2;exact v2
  have s0:Hid (∀ g,Ext o g->Calls Tryz.prog 228 #[.agg #[.string p7,.int .i64 p0,.int .u32 (q2:Int),.int .u32 (p2:Int),.bool p5,.int .i64 k1,.int .i64 k3,.slice p8 j7 k5,.int .i64 p1,.int .u32 (q3:Int),.int .u32 (p3:Int),.bool p6,.int .i64 k2,.int .i64 k4,.slice p9 j8 k6,.slice o9 j9 o8,.slice q1 k0 q0,.int .i64 p4],.slice D1 D2 A9] g fun p w'=>∃ a4,p=.returned a4/\w'.ownsRow g.heap.size 95 2 a4 u (Qw d0)/\Ext g w'):=Zh fun g hE=>by
   have:=n4 g hE;rw [c8.out] at this;exact this
  have z8:=Zh w6;have F4:e+1<o.heap.size:=(Q.out.lt _ Q.out.on).2;have e6:∀(g:World),Ext o g->g.heap[BL]?=some (.cells #[.string p7,.int .i64 p0,.int .u32 (q2:Int),.int .u32 (p2:Int),.bool p5,.int .i64 k1,.int .i64 k3,.slice p8 j7 k5,.int .i64 p1,.int .u32 (q3:Int),.int .u32 (p3:Int),.bool p6,.int .i64 k2,.int .i64 k4,.slice p9 j8 k6,.slice o9 j9 o8,.slice q1 k0 q0,.int .i64 p4] 102 (0,0))/\g.cell? ⟨e+1,0,none⟩=some (.slice I q8 H)/\g.cell? ⟨BW,0,none⟩=some (.slice vo Y vc)/\g.cell? ⟨b6,0,none⟩=some (.int .i64 (r:Int))/\g.cell? ⟨e+3,0,none⟩=some (.int .i64 s):=by
   intro g T;have a0:=c9.out g (Q.out.t.trans (Ext.of T));have h0:=cell_of_one (T.keep Q.out.n);rw [n9] at h0;have D:=a0.box;have z:=a0.bk;rw [C.out] at D;rw [b7.out] at z;have c2:=T.keep j1.out;rw [j6.out] at c2;exact⟨a0.law.1,h0,cell_of_one D,cell_of_one z,cell_of_one c2⟩
  have d7:=Zh e6;have E5:=Zh n9;clear L M G n4 i1 i2 t8 w1 o0 o1 u5 u4 x2 x3 f2 e6 w6 a2 s5 n9;have C6:IntKind.i64.wrap ((a:Int)+s)=(a:Int)+s:=IntWalk.i64_in _ oz;have C7:IntKind.i64.wrap ((a:Int)+(r:Int))=(a:Int)+(r:Int):=IntWalk.i64_in _ oz;refine V0 (S:=fun g=>g.heap[BL]?=some (.cells #[.string p7,.int .i64 p0,.int .u32 (q2:Int),.int .u32 (p2:Int),.bool p5,.int .i64 k1,.int .i64 k3,.slice p8 j7 k5,.int .i64 p1,.int .u32 (q3:Int),.int .u32 (p3:Int),.bool p6,.int .i64 k2,.int .i64 k4,.slice p9 j8 k6,.slice o9 j9 o8,.slice q1 k0 q0,.int .i64 p4] 102 (0,0))/\g.cell? ⟨e+1,0,none⟩=some (.slice I q8 H)/\g.cell? ⟨BW,0,none⟩=some (.slice vo Y vc)/\g.cell? ⟨b6,0,none⟩=some (.int .i64 (r:Int))/\g.cell? ⟨e+3,0,none⟩=some (.int .i64 s)) [20] kz kz (by rintro⟨_,_,k⟩;exact k) (d7.out _ (Q1.drew (Q1.refl _ o))) ?_;intro B;refine tE 0 24 B ?_;refine tE 1 25 B ?_;refine tE 2 26 B ?_;refine tE 3 27 B ?_;refine tE 4 28 B ?_;refine tkE (i:=5) (d:=29) (v:=?_) rfl (Or.inl ⟨by rfl,?_⟩) B ?_;rotate_left
  ·intro w g5;(try dsimp only at g5);have C3:=g5.1;refine X7 (x:=.tmp 2) ?_ BL ?_ _ _ _ C3 Tryz.underlying102 Tryz.lawInfo <;> rfl
  try simp only [Act.put,pq]
  refine tE 6 30 B ?_;refine tE 7 31 B ?_;refine tE 8 32 B ?_;refine tE 9 33 B ?_;refine tE 10 34 B ?_;refine tE 11 35 B ?_;refine tE 13 37 B ?_;refine tE 14 38 B ?_;refine tE 15 39 B ?_;refine tE 16 40 B ?_;refine tE 17 41 B ?_;refine rE [12] ?_;refine Q2.cons rfl (fun K y=>?_) Q2.nil;refine iw rfl ?_;go_simp;refine(s0.out _ (Q1.drew (Q1.refl _ o))).mono ?_;rintro p E ⟨F9,rfl,e5,u1⟩;have b2:Ext o E:=Q1.trans (Q1.drew (Q1.refl _ o)) u1;obtain⟨x9,x8,rfl⟩:=Zj e5;refine y.out _ _ (d7.out _ b2) (fun hS5=>?_);clear y K;try simp only [Act.put,pq]
  refine rE [18] ?_;refine Q2.cons rfl (fun K y=>?_) Q2.nil;refine iw rfl ?_;go_simp;have l2:Ext o (E.alloc (.cells #[.slice f3 f5 e0,.slice x9 u x8,.slice f4 f6 e1] 99)):=b2.alloc _;refine y.out _ _ (d7.out _ l2) (fun hS6=>?_);clear y K;try simp only [Act.put,pq]
  refine rE [19] ?_;refine Q2.cons rfl (fun K y=>?_) Q2.nil;refine iw rfl ?_;go_simp;refine(r0.out _ x9 x8 E e5 b2).mono ?_;rintro p i9 ⟨G0,rfl,l9,u2⟩;have b3:Ext o i9:=Q1.trans l2 u2;obtain⟨i8,i6,rfl⟩:=Zj l9;have B3:=b2;refine y.out _ _ (d7.out _ b3) (fun hS7=>?_);clear y K;try simp only [Act.put,pq]
  refine rE [20] ?_;refine Q2.late rfl rfl (fun K y=>?_) Q2.nil;refine iw rfl ?_;have d9:=cell_of_one (b3.keep Q.out.n);have B1:=free_of_one (b3.keep Q.out.n);go_simp;refine y.out _ _ ?_;clear y K d9 B1
  (try change Qj _ _ _ _ _ _ _ _ (Act.put _ none _) _)
  (try simp only [Act.put])
  refine Qm kz ?_ _;clear q5 q6 q7 C6 C7 B hS5 hS6 hS7 s0 r0 d7 b2 l2 u1 e5;obtain⟨c0,b4,u6,g3⟩:=(Q.out).put2 b1.out (Xh l9 (by have:=B3.size;omega)) b3 z8.out zd a5.out;obtain⟨j0,o2⟩:=zE (i9.setCell ⟨e+1,0,none⟩ (.slice i8 X.length i6));have g7:Q1 (fun b=>b=e+1) i9 j0:=by rw [<-o2];exact Q1.set1 i9 (e+1) 0 _
  rw [o2] at b4 g3 ⊢;have x4:=g7.heap (b3.keep q9.out) oz;have m7:=g7.heap (b3.keep j1.out) oz;have m3:Q1 (fun b=>b=e+1) o j0:=Q1.trans (Ext.of b3) g7;clear o2 l9 b3 g7 u2;rw [j6.out] at m7;obtain⟨D0,f1⟩:=zE X.length;rw [f1] at C2;have d9:=cell_of_one b4.n;rw [f1] at d9;have s6:=cell_of_one b4.y;obtain⟨E7,F8,assign,body,x6,v1⟩:=j4.out c0 b0 (a,X) i7 j0 #[.int .i64 (a:Int),.slice i8 D0 i6] s2.out b4.j ⟨i8,i6,by rw [f1],b4.wd,b4.cap,fun Z a9 n c p a6=>by obtain⟨y0,C8,y1⟩:=g3 Z a9 n c p a6;exact⟨y0,by have:=N.out;omega,y1⟩⟩;obtain⟨r8,A2,z7,R,r9⟩:=Zh5 b4 v1 f1 u6 g3;clear b4 v1 f1 u6 g3;rw [z7.out];gi_wp2;refine A2.out.mono ?_;have w5:∀ b,b<o.heap.size->((K b\/b=e+4\/b=e+5\/b=e+6)\/b8 b\/b=c6.heap.size\/b=c6.heap.size+1)->K b\/(c0 b/\b≠e+1/\b≠e+2/\b≠e+3):=by
   intro b _ f;have a2:=N.out;rcases f with (f | f) | f | f
   ·exact .inl f
   ·exact .inr ⟨R.out _ (P.out _ oz oz),by omega⟩
   ·have:=(z5.out b f).1;exact .inr ⟨R.out _ (f7.out _ f),by omega⟩
   ·exact .inr ⟨R.out _ (P.out _ oz oz),by omega⟩
  have r7:=Zh w5;clear w5;rintro p O (⟨rfl,t2,a8⟩ | ⟨rfl,t4,a8⟩)
  ·have l7:=r8.out.yielded t2 a8;have i3:=a8.heap x4 (fun k=>k.2 (R.out _ (P.out _ oz oz)));have e7:=a8.heap m7 (fun k=>k.2 (R.out _ (P.out _ oz oz)));have u8:Q1 (fun b=>b=e+1\/(¬ K b/\¬ c0 b)) o O:=(m3.mono fun b _ p=>.inl p).trans (a8.mono fun b _ k=>.inr k);obtain⟨V,w3⟩:=zE (max r 1);have w4:(if (r:Int)<1 then(1:Int) else(r:Int))=(V:Int):=by split <;> omega
   have F0:V<=4/\1<=V:=by omega
   have e6:∀(g:World),Q1 (fun b=>b=e+2) O g->g.cell? ⟨e+3,0,none⟩=some (.int .i64 s)/\g.cell? ⟨b6,0,none⟩=some (.int .i64 (r:Int))/\g.cell? ⟨d6,0,none⟩=some (.int .i64 (u:Int)):=by
    intro g T;have a0:=c9.out g (l7.t.trans (T.mono fun b _ f hk=>by have:=b1.out b hk;omega));have D:=a0.bk;have z:=a0.bm;rw [b7.out] at D;rw [c8.out] at z;exact⟨cell_of_one (T.heap e7 oz),cell_of_one D,cell_of_one z⟩
   obtain⟨s1,z3,z2,A0⟩:=Zh4 e6 l7 w3 u8;have F2:=a8.size;clear e6 l7 w3 u8 a8 t2 x6 d9 s6 x4 m7 m3;gi_wp2;have F5:-300<=s/\s<=300:=by omega
   have L:IntKind.i64.wrap (s+(u:Int))=s+(u:Int):=IntWalk.i64_in _ oz;have M:IntKind.i64.wrap (s+(u:Int) - (r:Int))=s+(u:Int) - (r:Int):=IntWalk.i64_in _ oz;have G:IntKind.i64.wrap ((a:Int)+(V:Int))=(a:Int)+(V:Int):=IntWalk.i64_in _ oz;refine V0 (S:=fun g=>g.cell? ⟨e+3,0,none⟩=some (.int .i64 s)/\g.cell? ⟨b6,0,none⟩=some (.int .i64 (r:Int))/\g.cell? ⟨d6,0,none⟩=some (.int .i64 (u:Int))) [10] kz kz (by rintro⟨_,_,k⟩;exact k) (s1.out _ (Q1.drew (Q1.refl _ O))) ?_;intro a1;refine tE 0 49 a1 ?_;refine tE 1 50 a1 ?_;refine W8 (i:=2) (v:=.int .i64 (V:Int)) rfl kz kz kz kz kz (fun _ _ _ k=>k) (Or.inl ⟨by rfl,?_⟩) (a1) ?_
   ·intro w g5;(try dsimp only at g5);go_simp;try first | exact w4 | omega
   change Qj _ _ _ _ _ _ _ _ (Act.put _ (some 51) _) _;try simp only [Act.put,pq]
   refine tE 3 52 a1 ?_;refine tE 4 53 a1 ?_;refine tE 5 54 a1 ?_;refine tE 6 55 a1 ?_;refine tE 7 56 a1 ?_;refine tE 8 57 a1 ?_;refine rE [9] ?_;refine Q2.cons rfl (fun K y=>?_) Q2.nil;refine iw rfl ?_;have A8:=cell_of_one i3;have B2:=free_of_one i3;go_simp;refine y.out _ _ (s1.out _ ((Q1.set1 O (e+2) 0 _).drew)) (fun hS10=>?_);clear y K A8 B2
   (try change Qj _ _ _ _ _ _ _ _ (Act.put _ none _) _)
   (try simp only [Act.put])
   refine rE [10] ?_;refine Q2.late rfl rfl (fun K y=>?_) Q2.nil;refine iw rfl ?_;have A6:=cell_of_one e7;have B0:=free_of_one e7;go_simp;refine y.out _ _ ?_;clear y K A6 B0
   (try change Qj _ _ _ _ _ _ _ _ (Act.put _ none _) _)
   (try simp only [Act.put])
   refine Qm kz ?_ _;clear L M G a1 hS10 w4;have m2:Q1 (fun b=>b=e+2\/b=e+3) O ((O.setCell ⟨e+2,0,none⟩ (.int .i64 ((a:Int)+(V:Int)))).setCell ⟨e+3,0,none⟩ (.int .i64 (s+(u:Int) - (r:Int)))).drew:=(((Q1.set1 O (e+2) 0 _).mono (fun b _ p=>.inl p)).trans ((Q1.set1 _ (e+3) 0 _).mono (fun b _ p=>.inr p))).drew;have x5:((O.setCell ⟨e+2,0,none⟩ (.int .i64 ((a:Int)+(V:Int)))).setCell ⟨e+3,0,none⟩ (.int .i64 (s+(u:Int) - (r:Int)))).drew.heap[e+2]?=some (.cells #[.int .i64 ((a:Int)+(V:Int))] 3 (0,0)):=Yc ((Q1.set1 _ (e+3) 0 _).heap (X2 (W:=O) _ i3) oz);have v7:((O.setCell ⟨e+2,0,none⟩ (.int .i64 ((a:Int)+(V:Int)))).setCell ⟨e+3,0,none⟩ (.int .i64 (s+(u:Int) - (r:Int)))).drew.heap[e+3]?=some (.cells #[.int .i64 (s+(u:Int) - (r:Int))] 3 (0,0)):=Yc (X2 _ ((Q1.set1 O (e+2) 0 _).heap (A:=O) e7 oz));have u3:=z3.out.inner m2 (R.out _ (P.out _ oz oz)) (R.out _ (P.out _ oz oz)) a5.out (fun Z a9 n c p a6=>by have:=(r9.out Z a9 n c p a6).2.1;have:=N.out;omega) b1.out;have k8:=y4.out;rw [b7.out,z2.out] at k8;obtain⟨A1,y9,z4,y5,s3⟩:=Zh5 x5 v7 u3 k8 m2;clear x5 v7 u3 k8 m2 i3 e7;gi_wp2;refine⟨((A0.out.mono fun b _ p=>Or.inl p).trans (s3.out.mono fun b _ p=>Or.inr p):Q1 (fun b=>(b=e+1\/¬ K b/\¬ c0 b)\/(b=e+2\/b=e+3)) o _).mono (fun b e9 f hk=>?_),c0,b0++[(a,X)],X,i8,i6,a+V,z4.out,y5.out,by rw [Int.natCast_add];exact A1.out,by rw [Bg,j6.out,c8.out,b7.out];exact y9.out,fun b f=>R.out _ (f7.out b f),fun b D z=>R.out _ (P.out b D z),fun Z a9 n c p a6=>?_⟩
   ·have d1:=b1.out b;rcases r7.out b e9 hk with k | k
    ·have D:=d1 k;rcases f with (f | f) | f
     ·omega
     ·exact f.1 k
     ·omega
    ·rcases f with (f | f) | f
     ·omega
     ·exact f.2 k.1
     ·omega
   ·have D:=r9.out Z a9 n c p a6;refine⟨by have:=N.out;omega,?_⟩;have z:=s3.out.size;omega
  ·have z1:=Zh t4;clear t4 x6 d9 s6;gi_wp2;refine⟨(m3.mono fun b _ p=>Or.inl p:Q1 (fun b=>b=e+1\/(¬ K b/\¬ c0 b)) o j0).trans (a8.mono fun b _ k=>Or.inr k) |>.mono (fun b e9 f hk=>?_),rfl,c0,b0,(a,X),i7,s2.out,z1.out,fun b f=>R.out _ (f7.out b f),fun b D z=>R.out _ (P.out b D z),fun b f=>Nat.lt_of_lt_of_le (r8.out.lt b f).2 a8.size⟩;have d1:=b1.out b;rcases r7.out b e9 hk with k | k
   ·have D:=d1 k;rcases f with f | f
    ·omega
    ·exact f.1 k
   ·rcases f with f | f
    ·omega
    ·exact f.2 k.1
end Go.Proofs.YtfdlhlghcbeblaaGreatDoor
