/- ablautref10.Check. -/
import Derived.Test.YtejenndedjabhaaGreatDoorT16
import Derived.Test.YtejenndedjabhaaGreatDoorT17
set_option maxRecDepth 100000
set_option maxHeartbeats 16000000
namespace Go.Proofs.YtejenndedjabhaaGreatDoor
open Go.RowKit Go.Ab
attribute [local go_sem] Oper.semAt_some Zi Qu
theorem Q2q{W:World}{l:Qg}{cs:Array Value}(h:Y4 W l cs.toList)(a:cs.size=18):Zg (W.alloc (.cells cs 50)) (.slice (some ⟨W.heap.size,0,none⟩) 1 1) [(l,cs.toList)]:=by
 refine⟨?_,fun p hp=>?_⟩
 ·have:=Rd.of_own (World.ownsRow_lit (base:=W.heap.size) (e:=50) (size:=18) W cs 1 (Nat.le_refl _) zd oz)
  simpa using this
 ·rw [List.mem_singleton] at hp;subst hp;exact h.ext ((Qa.refl _ W).alloc _)
theorem Q4u:(Tryz.prog.info? 50).map (fun i=>(i.zero,i.size,i.bytes))=some (some (.agg #[.string ⟨#[]⟩,.int .i64 0,.int .u32 0,.int .u32 0,.bool false,.int .i64 0,.int .i64 0,.slice none 0 0,.int .i64 0,.int .u32 0,.int .u32 0,.bool false,.int .i64 0,.int .i64 0,.slice none 0 0,.slice none 0 0,.slice none 0 0,.int .i64 0]),18,200):=by kernel_rfl
theorem Q42{w:World}{base:Nat}{e:TypeId}{sz n cap:Nat}{ao:Option Addr}{xs:List Value}(h:w.ownsRow base e sz (.slice ao n cap) n xs):n<=cap:=by
 rcases h.2 with ⟨a,_,_⟩ | ⟨d,b,c,a,_,_,f,_⟩
 ·simp only [zV] at a;omega
 ·simp only [zV] at a;omega
def Q9w(n mo X:Nat)(lv:Value)(ps:Zl)(w2:World)(a:Act)(W:World):Prop:=∃(k:Nat) (L:Zl) (yo:Option Addr) (yc:Nat),k<=n/\a.defers=[]/\gS a [1,5,11,12,13]=(33,[.int .i64 mo,.slice yo L.length yc,lv,.int .i64 n,.int .i64 k])/\L.length<=mo/\(∀ p∈L,p∈ps/\Y8 p.1=true)/\W.ownsRow X 50 18 (.slice yo L.length yc) L.length (L.flatMap (·.2))/\Ext w2 W
def Q8d(_ps:Zl)(mo:Nat)(w:World)(e:Ending)(w':World):Prop:=∃(L:Zl) (yo:Option Addr) (yc:Nat),e=.returned (.slice yo L.length yc)/\Zg w' (.slice yo L.length yc) L/\L.length<=yc/\L.length<=mo/\(∀ p∈L,Y8 p.1=true)/\Ext w w'
theorem Cf{ps L:Zl}{mo X:Nat}{w W:World}{yo:Option Addr}{yc:Nat}(hl:∀ p∈ps,Y4 w p.1 p.2)(hE:Ext w W)(h1:L.length<=mo)(h2:∀ p∈L,p∈ps/\Y8 p.1=true)(h3:W.ownsRow X 50 18 (.slice yo L.length yc) L.length (L.flatMap (·.2))):Q8d ps mo w (.returned (.slice yo L.length yc)) W:=
 ⟨L,yo,yc,rfl,⟨Rd.of_own h3,fun p hp=>(hl p (h2 p hp).1).ext hE⟩,Q42 h3,h1,fun p hp=>(h2 p hp).2,hE⟩
theorem Q2s{w:World}{ps:Zl}{lo:Option Addr}{n lc:Nat}(T:Zg w (.slice lo n lc) ps) (a3:ps.length=n) (f3:n<=lc) (e7:Tab w) {mo:Nat} (k6:mo<=100) :
  Calls Tryz.prog 27 #[.slice lo n lc,.int .i64 (mo:Int)] w (Q8d ps mo w):=by
 have j9:n<=maxLen:=by rw [<-a3];exact T.1.2.1
 unfold maxLen at j9;obtain⟨d1,d2,g7,i1,j1⟩:=Zh5 (Q0c T a3 f3) T.2 T a3 e7;clear T a3 f3 e7;go_enter Tryz.func27,Tryz.ntmps27;go_wp2_with fail;refine d1.out.mono ?_;rintro e c5 ⟨R,rfl,e1⟩;have d0:=Zh e1;clear d1 e1;cases R
 ·go_wp2;go_ret;exact Cf (L:=[]) (X:=0) d2.out d0.out (Nat.zero_le _) (fun p J=>by cases J) (World.ownsRow_nil _ _ _ _)
 obtain⟨X,e9⟩:=zE c5.heap.size;have d7:=Zh e9;clear e9;go_wp2;refine wp_loop (Q9w n mo X (.slice lo n lc) ps c5) (fun a _=>((n:Int) - intOf (a.tmps.getD 13 undef)).toNat) ?_ ?_
 ·exact⟨0,[],none,0,by omega,rfl,rfl,Nat.zero_le _,(fun p J=>by cases J),World.ownsRow_nil _ _ _ _,Qa.refl _ _⟩
 rintro⟨l2,_⟩ W ⟨c,L,yo,yc,k5,j5,f8,a2,e3,e4,b4⟩;subst j5;obtain⟨l3,rfl⟩:=Qz f8;clear f8;obtain⟨N,P,M,Y⟩:=Zh4 b4 (d0.out.trans b4) e4 e3;clear b4 e4 e3;obtain⟨V,c1⟩:=zE L.length;have b:=Zh c1;rw [c1] at a2 M ⊢;clear c1;by_cases j7:c<n;case neg=>
  obtain rfl:c=n:=by omega
  have j3:¬ (c:Int)<(c:Int):=by omega
  go_wp2;go_ret;have e0:=Cf (mo:=mo) (X:=X) (yo:=yo) (yc:=yc) d2.out P.out (by rw [b.out];exact a2) Y.out (by rw [b.out];exact M.out);rw [b.out] at e0;exact e0
 have j3:(c:Int)<(n:Int):=by omega
 have k4:(0:Int)<=(c:Int):=by omega
 have c0:c<ps.length:=by rw [i1.out];exact j7
 obtain⟨j2,k2,k3,f6,j6,a4,U,b2⟩:=(g7.out.ext P.out).at c0;simp only [zV] at f6;obtain⟨rfl,k1,rfl⟩:=f6;have c2:=List.getElem_mem c0;obtain⟨O,g0⟩:=zE (ps[c]);rw [g0] at a4 U b2 c2;obtain⟨a6,cs⟩:=O;dsimp only at a4 U b2;clear g0 k1 b2 c0;have f1:=U;obtain⟨B,t,H,v,z,j,l,C,d,o,u,I,x,A,k,m,E,f,q,s,g,r,G,i,F,y,rfl,g8,i9,j0,g6,i8,i6,i2,i3,i4,i5,g9,k7,k8,k9,l0,l1⟩:=Yi U;have S:Ext W (W.alloc (.cells #[.string B,.int .i64 t,.int .u32 (H:Int),.int .u32 (v:Int),.bool z,.int .i64 j,.int .i64 l,.slice C d o,.int .i64 u,.int .u32 (I:Int),.int .u32 (x:Int),.bool A,.int .i64 k,.int .i64 m,.slice E f q,.slice s g r,.slice G i F,.int .i64 y] 50)):=(Qa.refl _ W).alloc _;have a5:(W.alloc (.cells #[.string B,.int .i64 t,.int .u32 (H:Int),.int .u32 (v:Int),.bool z,.int .i64 j,.int .i64 l,.slice C d o,.int .i64 u,.int .u32 (I:Int),.int .u32 (x:Int),.bool A,.int .i64 k,.int .i64 m,.slice E f q,.slice s g r,.slice G i F,.int .i64 y] 50)).heap[W.heap.size]?=some (.cells #[.string B,.int .i64 t,.int .u32 (H:Int),.int .u32 (v:Int),.bool z,.int .i64 j,.int .i64 l,.slice C d o,.int .i64 u,.int .u32 (I:Int),.int .u32 (x:Int),.bool A,.int .i64 k,.int .i64 m,.slice E f q,.slice s g r,.slice G i F,.int .i64 y] 50 (0,0)):=Qd rfl;obtain⟨a0,b7⟩:=zE (W.alloc (.cells #[.string B,.int .i64 t,.int .u32 (H:Int),.int .u32 (v:Int),.bool z,.int .i64 j,.int .i64 l,.slice C d o,.int .i64 u,.int .u32 (I:Int),.int .u32 (x:Int),.bool A,.int .i64 k,.int .i64 m,.slice E f q,.slice s g r,.slice G i F,.int .i64 y] 50));rw [b7] at a5 S;obtain⟨c6,b3⟩:=zE W.heap.size;rw [b3] at a5;have b5:Ext a0 (a0.alloc (.cells #[.string B,.int .i64 t,.int .u32 (H:Int),.int .u32 (v:Int),.bool z,.int .i64 j,.int .i64 l,.slice C d o,.int .i64 u,.int .u32 (I:Int),.int .u32 (x:Int),.bool A,.int .i64 k,.int .i64 m,.slice E f q,.slice s g r,.slice G i F,.int .i64 y] 50)):=(Qa.refl _ a0).alloc _;have f5:=Q2q (W:=a0) (cs:=#[.string B,.int .i64 t,.int .u32 (H:Int),.int .u32 (v:Int),.bool z,.int .i64 j,.int .i64 l,.slice C d o,.int .i64 u,.int .u32 (I:Int),.int .u32 (x:Int),.bool A,.int .i64 k,.int .i64 m,.slice E f q,.slice s g r,.slice G i F,.int .i64 y]) (f1.ext S) rfl;have b9:=Hw f5 rfl (j1.out.keep (P.out.trans (S.trans b5)) id);obtain⟨d9,b8⟩:=zE (Y8 a6);have f2:Zx [a6]=if d9=true then 0 else 17:=by unfold Zx;simp [b8]
 simp only [List.map_cons,List.map_nil,f2] at b9;obtain⟨d4,d6,g3,b1,c9,a7,c8,i0⟩:=Zh8 a4 b7 b3 a5 S b5 b9 c2;have g4:=Zh b8;clear a4 b7 b3 a5 S b5 f5 b9 f1 U c2 b8 f2 g6 i8 g8 i6 i2 i3 i4 i5 g9 i9 j0 j6;go_upto_region 7 with (refine Xn (by rfl) 50 (.tmp 15) rfl j2 (k2+c*18) zr _ _ d4.out Tryz.underlying50 rfl kz ?_)
 rw [d6.out,g3.out]
 go_wp2_with (refine wpList_load_row rfl 50 (.tmp 7) rfl c6 rfl _ _ _ _ b1.out Tryz.underlying50 rfl Tryz.lawInfo ?_)
 refine c8.out.mono ?_;rintro e Q ⟨rfl,b6⟩;have Z:=Zh (b6.keep (a7.out.keep b1.out));have K:=Zh (c9.out.trans (a7.out.trans b6));clear b6 a7 c9 c8 d4 d6 b1;cases d9 with
 | false=>
  have a8:=Zh (N.out.trans K.out);have b0:=Zh (Qm M.out K.out);clear M N P K Z;go_wp2;exact⟨⟨c+1,L,yo,yc,by omega,tz,(Prod.ext rfl (lE rfl (lE (by rw [b.out];rfl) rfl))),by rw [b.out];exact a2,Y.out,by rw [b.out];exact b0.out,a8.out⟩,mz⟩
 | true=>
 by_cases j8:V<mo;case neg=>
  have j4:¬ (V:Int)<(mo:Int):=by omega
  have a8:=Zh (N.out.trans K.out);have b0:=Zh (Qm M.out K.out);clear M N P K Z;go_wp2;exact⟨⟨c+1,L,yo,yc,by omega,tz,(Prod.ext rfl (lE rfl (lE (by rw [b.out];rfl) rfl))),by rw [b.out];exact a2,Y.out,by rw [b.out];exact b0.out,a8.out⟩,mz⟩
 have j4:(V:Int)<(mo:Int):=by omega
 have f0:X<=Q.heap.size:=by have:=(N.out.trans K.out).size;rw [d7.out] at this;exact this
 have a1:Ext Q (Q.alloc (.cells #[.string B,.int .i64 t,.int .u32 (H:Int),.int .u32 (v:Int),.bool z,.int .i64 j,.int .i64 l,.slice C d o,.int .i64 u,.int .u32 (I:Int),.int .u32 (x:Int),.bool A,.int .i64 k,.int .i64 m,.slice E f q,.slice s g r,.slice G i F,.int .i64 y] 50)):=(Qa.refl _ Q).alloc _;have f7:=Rd.of_own (World.ownsRow_lit (base:=X) (e:=50) (size:=18) Q #[.string B,.int .i64 t,.int .u32 (H:Int),.int .u32 (v:Int),.bool z,.int .i64 j,.int .i64 l,.slice C d o,.int .i64 u,.int .u32 (I:Int),.int .u32 (x:Int),.bool A,.int .i64 k,.int .i64 m,.slice E f q,.slice s g r,.slice G i F,.int .i64 y] 1 f0 zd rfl);have f4:=Qm M.out (K.out.trans a1);have k0:=a1.size;have f9:X<=(Q.alloc (.cells #[.string B,.int .i64 t,.int .u32 (H:Int),.int .u32 (v:Int),.bool z,.int .i64 j,.int .i64 l,.slice C d o,.int .i64 u,.int .u32 (I:Int),.int .u32 (x:Int),.bool A,.int .i64 k,.int .i64 m,.slice E f q,.slice s g r,.slice G i F,.int .i64 y] 50)).heap.size:=by omega
 obtain⟨d3,a9,c7,d5⟩:=Zh4 f7 f4 (N.out.trans (K.out.trans a1)) f9;clear f7 f4 a1 k0 f9 f0 M P
 go_wp2_with (first | (refine wpList_load_row rfl 50 (.tmp 7) rfl c6 rfl _ _ _ _ Z.out Tryz.underlying50 rfl Tryz.lawInfo ?_) | (at_builtin;refine Kh rfl (.tmp 27) (.tmp 29) 22 rfl X 50 _ 18 200 Tryz.underlying22 Q4u rfl zd _ _ _ rfl a9.out _ 1 _ _ rfl d3.out (List.all_eq_true.1 (by rfl)) ?c3 ?c4 d5.out ?_))
 case c3=>unfold maxLen;omega
 case c4=>omega
 intro g2 g1 d8 e5 e8 _;have e2:Ext c5 d8:=c7.out.after e8 (fun R hb e=>by have:=(a9.out.lt R e).1;have:=d7.out;omega);have e6:d8.ownsRow X 50 18 (.slice g2 (V+1) g1) (V+1) ((L++[(a6,(#[.string B,.int .i64 t,.int .u32 (H:Int),.int .u32 (v:Int),.bool z,.int .i64 j,.int .i64 l,.slice C d o,.int .i64 u,.int .u32 (I:Int),.int .u32 (x:Int),.bool A,.int .i64 k,.int .i64 m,.slice E f q,.slice s g r,.slice G i F,.int .i64 y]:Array Value).toList)]:Zl).flatMap (·.2)):=by
  have:=e5;rw [List.flatMap_append]
  simpa using this
 have i7:=Zh e6;have g5:=Zh e2;clear e5 e6 e2 e8 a9 c7 d3 d5 N Z;go_wp2
 exact⟨⟨c+1,L++[(a6,(#[.string B,.int .i64 t,.int .u32 (H:Int),.int .u32 (v:Int),.bool z,.int .i64 j,.int .i64 l,.slice C d o,.int .i64 u,.int .u32 (I:Int),.int .u32 (x:Int),.bool A,.int .i64 k,.int .i64 m,.slice E f q,.slice s g r,.slice G i F,.int .i64 y]:Array Value).toList)],g2,g1,by omega,by first | trivial | rfl,(Prod.ext rfl (lE rfl (lE (by rw [List.length_append,b.out];rfl) rfl))),by rw [List.length_append,b.out];exact j8,(fun p J=>by
  rcases List.mem_append.1 J with J | J
  ·exact Y.out p J
  ·rw [List.mem_singleton] at J;subst J;exact⟨i0.out,g4.out⟩),by rw [List.length_append,b.out];exact i7.out,g5.out⟩,nz⟩
def Qax(l:Zl):List Value:=l.flatMap (·.2)
def Qba(us:List (Zl)) (k:Nat):Zl:=(us.take k).flatten
abbrev Q1u:Pat:=.node 1 4 0 false 0 0 []
abbrev v15:Qg:=⟨⟨#[86]⟩,Q1u,Q1u,[(2,0)],[⟨0,0,(1,0),0,0⟩],1⟩
def Xg(g1 g2:Nat):Array Value:=#[.string ⟨#[86]⟩,.int .i64 1,.int .u32 4,.int .u32 0,.bool false,.int .i64 0,.int .i64 0,.slice none 0 0,.int .i64 1,.int .u32 4,.int .u32 0,.bool false,.int .i64 0,.int .i64 0,.slice none 0 0,.slice (some ⟨g1,0,none⟩) 1 1,.slice (some ⟨g2,0,none⟩) 1 1,.int .i64 1]
theorem Gy{w:World}{g:Nat}{cs:Array Value}{t:TypeId}{b:Nat × Nat}(h:w.heap[g]?=some (.cells cs t b)):w.setRow g cs=w:=by
 unfold World.setRow;have c:∀ h',h'=w.heap->({ w with heap:=h' }:World)=w:=by rintro _ rfl;rfl
 refine c _ ?_;apply Array.ext_getElem?;intro d;rw [Array.getElem?_modify];by_cases a:g=d
 ·subst a;rw [if_pos rfl,h];rfl
 ·rw [if_neg a]
theorem Q9o{k:Func}{a b c d:Tmp}(h:k.results=#[.cell a 26,.cell b 26,.cell c 26,.cell d 50]){tmps:Array Value}{w:World}{e f g i:Nat}{l m n o p q:Value}{cs:Array Value}
  (v:tmps.getD a undef=.pointer (some ⟨e,0,none⟩)) (x:tmps.getD b undef=.pointer (some ⟨f,0,none⟩)) (y:tmps.getD c undef=.pointer (some ⟨g,0,none⟩)) (z:tmps.getD d undef=.pointer (some ⟨i,0,none⟩))
  (B:w.heap[e]?=some (.cells #[l,m] 26 (0,0))) (C:w.heap[f]?=some (.cells #[n,o] 26 (0,0))) (D:w.heap[g]?=some (.cells #[p,q] 26 (0,0))) (E:w.heap[i]?=some (.cells cs 50 (0,0))) (A:(Tryz.prog.info? 50).map (·.size)=some cs.size:=by kernel_rfl) :
  (results k tmps).run Tryz.prog w=.ok (.tuple #[.agg #[l,m],.agg #[n,o],.agg #[p,q],.agg cs]) w:=by
 have r:tmps[a]?.getD undef=.pointer (some ⟨e,0,none⟩):=by simpa using v
 have s:tmps[b]?.getD undef=.pointer (some ⟨f,0,none⟩):=by simpa using x
 have t:tmps[c]?.getD undef=.pointer (some ⟨g,0,none⟩):=by simpa using y
 have u:tmps[d]?.getD undef=.pointer (some ⟨i,0,none⟩):=by simpa using z
 have j:(Tryz.prog.info? 26).map (·.size)=some 2:=by kernel_rfl
 simp [results,h,r,s,t,u,asAddr,run_loadVar_row w e _ _ _ _ _ B Tryz.underlying26 rfl j,run_loadVar_row w f _ _ _ _ _ C Tryz.underlying26 rfl j,run_loadVar_row w g _ _ _ _ _ D Tryz.underlying26 rfl j,run_loadVar_row w i _ _ _ _ _ E Tryz.underlying50 rfl A]
theorem Q08(w:World):Calls Tryz.prog 53 #[] w fun e w'=>∃ g1 g2:Nat,e=.returned (.tuple #[sV (2,5),sV (3,4),sV (5,2),.agg (Xg g1 g2)])/\Y4 w' v15 (Xg g1 g2).toList/\Ext w w':=by
 go_enter Tryz.func53,Tryz.ntmps53;obtain⟨a,n⟩:=zE w.heap.size;obtain⟨k,m⟩:=zE ((((w.alloc (.cells #[.int .u32 2,.int .u32 5] 26)).alloc (.cells #[.int .u32 3,.int .u32 4] 26)).alloc (.cells #[.int .u32 5,.int .u32 2] 26)).alloc (.cells #[.string ⟨#[]⟩,.int .i64 0,.int .u32 0,.int .u32 0,.bool false,.int .i64 0,.int .i64 0,.slice none 0 0,.int .i64 0,.int .u32 0,.int .u32 0,.bool false,.int .i64 0,.int .i64 0,.slice none 0 0,.slice none 0 0,.slice none 0 0,.int .i64 0] 50));have b9:Ext w k:=by rw [<-m];exact((((Qa.refl _ w).alloc _).alloc _).alloc _).alloc _
 have b2:k.heap[a]?=some (.cells #[.int .u32 2,.int .u32 5] 26 (0,0)):=by rw [<-m,<-n];exact Qj (Qj (Qj (Qd rfl)))
 have b3:k.heap[a+1]?=some (.cells #[.int .u32 3,.int .u32 4] 26 (0,0)):=by rw [<-m,<-n];exact Qj (Qj (Qd zy))
 have b4:k.heap[a+2]?=some (.cells #[.int .u32 5,.int .u32 2] 26 (0,0)):=by rw [<-m,<-n];exact Qj (Qd zy)
 have b5:k.heap[a+3]?=some (.cells #[.string ⟨#[]⟩,.int .i64 0,.int .u32 0,.int .u32 0,.bool false,.int .i64 0,.int .i64 0,.slice none 0 0,.int .i64 0,.int .u32 0,.int .u32 0,.bool false,.int .i64 0,.int .i64 0,.slice none 0 0,.slice none 0 0,.slice none 0 0,.int .i64 0] 50 (0,0)):=by rw [<-m,<-n];exact Qd zy
 have c2:k.heap.size=a+4:=by rw [<-m,<-n];simp
 go_upto_region 1 with (fail)
 go_upto_region 2 with (fail)
 try rw [m]
 obtain⟨Q,R,T,U,a6,z,d1⟩:=Zh7 b2 b3 b4 b5 b9 c2 n;clear b2 b3 b4 b5 b9 c2 m n;go_upto_region 3 with (fail)
 obtain⟨c,y⟩:=zE (k.alloc (.cells #[.int .i64 1,.int .u32 4,.int .u32 0,.bool false,.int .i64 0,.int .i64 0,.slice none 0 0] 47));have q:Ext k c:=by rw [<-y];exact(Qa.refl _ k).alloc _
 have b6:c.heap[a+4]?=some (.cells #[.int .i64 1,.int .u32 4,.int .u32 0,.bool false,.int .i64 0,.int .i64 0,.slice none 0 0] 47 (0,0)):=by rw [<-y];exact Qd z.out.symm
 have c3:c.heap.size=a+5:=by rw [<-y];simp [z.out]
 try rw [y]
 have c1:k.heap.size=a+4:=z.out;try rw [c1]
 obtain⟨l,a7,V,W,X,Y,A⟩:=Zh7 b6 (a6.out.trans q) (q.keep Q.out) (q.keep R.out) (q.keep T.out) (q.keep U.out) c3;clear b6 q c3 y c1 Q R T U a6 z;obtain⟨u,t⟩:=zE ((c.alloc (.cells #[.int .u32 2,.int .u32 0] 26)).alloc (.cells #[.int .i64 0,.int .u32 0,.int .u32 1,.int .u32 0,.int .u32 0,.int .i64 0] 131));have r:Ext c u:=by rw [<-t];exact((Qa.refl _ c).alloc _).alloc _
 have b7:u.heap[a+5]?=some (.cells #[.int .u32 2,.int .u32 0] 26 (0,0)):=by rw [<-t];exact Qj (Qd A.out.symm)
 have b8:u.heap[a+6]?=some (.cells #[.int .i64 0,.int .u32 0,.int .u32 1,.int .u32 0,.int .u32 0,.int .i64 0] 131 (0,0)):=by rw [<-t];exact Qd (by simp [A.out])
 have L:=r.keep Y.out;have p:=Qa.setRow u (a+3) (Xg (a+5) (a+6));have O:=setRow_heap _ _ _ (Xg (a+5) (a+6)) _ _ L;have F:=p.heap (r.keep V.out) oz;have G:=p.heap (r.keep W.out) oz;have H:=p.heap (r.keep X.out) oz;have I:=p.heap b7 oz;have J:=p.heap b8 oz;have M:Ext w (u.setRow (a+3) (Xg (a+5) (a+6))):=(a7.out.trans r).after p (fun b h1 h2=>by have:=d1.out;omega);have d5:c.heap.size=a+5:=A.out;obtain⟨c4,P⟩:=zE (u.setRow (a+3) (Xg (a+5) (a+6)));rw [P] at O M F G H I J;obtain⟨Z,a9,a8,a1,a2,a3,a4,a5⟩:=Zh8 L O M F G H I J;have b0:=Zh t;have b1:=Zh P;have N:=Z.out;rw [<-t] at N;have a0:=Zh N;clear L O M F G H I J b7 b8 r p t P N;have d6:c.cell? ⟨a+4,0,none⟩=some (.int .i64 1):=by rw [cell_of_row c (a+4) 0 _ _ _ l.out];rfl
 have d7:c.cell? ⟨a+4,1,none⟩=some (.int .u32 4):=by rw [cell_of_row c (a+4) 1 _ _ _ l.out];rfl
 have d8:c.cell? ⟨a+4,2,none⟩=some (.int .u32 0):=by rw [cell_of_row c (a+4) 2 _ _ _ l.out];rfl
 have d9:c.cell? ⟨a+4,3,none⟩=some (.bool false):=by rw [cell_of_row c (a+4) 3 _ _ _ l.out];rfl
 have e0:c.cell? ⟨a+4,4,none⟩=some (.int .i64 0):=by rw [cell_of_row c (a+4) 4 _ _ _ l.out];rfl
 have e1:c.cell? ⟨a+4,5,none⟩=some (.int .i64 0):=by rw [cell_of_row c (a+4) 5 _ _ _ l.out];rfl
 have e2:c.cell? ⟨a+4,6,none⟩=some (.slice none 0 0):=by rw [cell_of_row c (a+4) 6 _ _ _ l.out];rfl
 go_wp2_with (refine wpList_store_row rfl 50 (.tmp 3) (.tmp 17) rfl (a+3) (Xg (a+5) (a+6)) zr (by first | rfl | simp [Xg]) _ _ a0.out kz rfl kz ?_)
 rw [b0.out,b1.out];try simp only [Act.put]
 clear d5 Z a0 b0 b1 l V W X Y A a7 d6 d7 d8 d9 e0 e1 e2;obtain⟨g,j⟩:=zE c4.drew;have c5:g.heap[a]?=some (.cells #[.int .u32 2,.int .u32 5] 26 (0,0)):=by rw [<-j];exact a1.out
 have c6:g.heap[a+1]?=some (.cells #[.int .u32 3,.int .u32 4] 26 (0,0)):=by rw [<-j];exact a2.out
 have c7:g.heap[a+2]?=some (.cells #[.int .u32 5,.int .u32 2] 26 (0,0)):=by rw [<-j];exact a3.out
 have c8:g.heap[a+3]?=some (.cells (Xg (a+5) (a+6)) 50 (0,0)):=by rw [<-j];exact a9.out
 have c9:g.heap[a+5]?=some (.cells #[.int .u32 2,.int .u32 0] 26 (0,0)):=by rw [<-j];exact a4.out
 have d0:g.heap[a+6]?=some (.cells #[.int .i64 0,.int .u32 0,.int .u32 1,.int .u32 0,.int .u32 0,.int .i64 0] 131 (0,0)):=by rw [<-j];exact a5.out
 have c0:Ext w g:=by rw [<-j];exact a8.out.drew
 obtain⟨B,C,D,E,d3,d4,d2⟩:=Zh7 c5 c6 c7 c8 c9 d0 c0;clear c5 c6 c7 c8 c9 d0 c0 a1 a2 a3 a4 a5 a9 a8;have s:g=c4.drew:=j.symm;refine Y1 (S:=fun f=>f=g) [] kz j ?_;intro _;rw [j];have s:g=g:=rfl;refine tkE (i:=0) (d:=18) (v:=?_) rfl (Or.inl ⟨by rfl,?_⟩) s ?_;rotate_left
 ·intro f o;subst o;refine Xe (x:=.tmp 0) ?_ a ?_ _ _ _ B.out Tryz.underlying26 kz <;> rfl
 try simp only [Act.put,pq]
 refine tkE (i:=1) (d:=19) (v:=?_) rfl (Or.inl ⟨by rfl,?_⟩) s ?_;rotate_left
 ·intro f o;subst o;refine Xe (x:=.tmp 1) ?_ (a+1) ?_ _ _ _ C.out Tryz.underlying26 kz <;> rfl
 try simp only [Act.put,pq]
 refine tkE (i:=2) (d:=20) (v:=?_) rfl (Or.inl ⟨by rfl,?_⟩) s ?_;rotate_left
 ·intro f o;subst o;refine Xe (x:=.tmp 2) ?_ (a+2) ?_ _ _ _ D.out Tryz.underlying26 kz <;> rfl
 try simp only [Act.put,pq]
 refine tkE (i:=3) (d:=21) (v:=?_) rfl (Or.inl ⟨by rfl,?_⟩) s ?_;rotate_left
 ·intro f o;subst o;refine Xe (x:=.tmp 3) ?_ (a+3) ?_ _ _ _ E.out Tryz.underlying50 kz <;> rfl
 try simp only [Act.put,pq]
 refine rE [4] ?_;refine Qb.cons rfl (fun K hK=>?_) Qb.nil;refine iw rfl ?_;refine wp_store_row 26 (.tmp 0) (.tmp 18) rfl a _ rfl rfl _ _ B.out kz kz kz ?_;rw [Gy B.out];refine hK _ _ rfl (fun _=>?_);clear hK K;try simp only [Act.put,pq]
 refine rE [5] ?_;refine Qb.cons rfl (fun K hK=>?_) Qb.nil;refine iw rfl ?_;refine wp_store_row 26 (.tmp 1) (.tmp 19) rfl (a+1) _ rfl rfl _ _ C.out kz kz kz ?_;rw [Gy C.out];refine hK _ _ rfl (fun _=>?_);clear hK K;try simp only [Act.put]
 refine rE [6] ?_;refine Qb.cons rfl (fun K hK=>?_) Qb.nil;refine iw rfl ?_;refine wp_store_row 26 (.tmp 2) (.tmp 20) rfl (a+2) _ rfl rfl _ _ D.out kz kz kz ?_;rw [Gy D.out];refine hK _ _ rfl (fun _=>?_);clear hK K;try simp only [Act.put]
 refine rE [7] ?_;refine Qb.cons rfl (fun K hK=>?_) Qb.nil;refine iw rfl ?_;refine wp_store_row 50 (.tmp 3) (.tmp 21) rfl (a+3) _ rfl rfl _ _ E.out kz kz kz ?_;rw [Gy E.out];refine hK _ _ rfl (fun _=>?_);clear hK K;try simp only [Act.put]
 refine Za kz ?_ _;clear s;go_wp2;refine bodyPost_ret (Q9o rfl rfl rfl rfl rfl B.out C.out D.out E.out) rfl ⟨a+5,a+6,rfl,?_,d2.out⟩;exact⟨[.int .i64 1,.int .u32 4,.int .u32 0,.bool false,.int .i64 0,.int .i64 0,.slice none 0 0],[.int .i64 1,.int .u32 4,.int .u32 0,.bool false,.int .i64 0,.int .i64 0,.slice none 0 0],_,_,rfl,by decide,Ek _ _ 1 false 0 0 zd zd,Ek _ _ 1 false 0 0 zd zd,⟨Jg (xs:=Zj [(2,0)]) d3.out rfl zd,by simp [Zt]⟩,⟨Jg (xs:=Rt [⟨0,0,(1,0),0,0⟩]) d4.out rfl zd,by simp [Jh,Qv]⟩⟩
end Go.Proofs.YtejenndedjabhaaGreatDoor
