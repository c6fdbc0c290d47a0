/- ablautlaw15.example: -/
import Derived.Test.YtejenndedjabhaaGreatDoorS12
set_option maxRecDepth 100000
set_option maxHeartbeats 16000000
namespace Go.Proofs.YtejenndedjabhaaGreatDoor
open Go.RowKit Go.Ab
attribute [local go_sem] Oper.semAt_some Zm Qv
abbrev Q4a:Pat:=.node 1 4 0 false 0 0 []
abbrev v15:Q7:=⟨⟨#[86]⟩,Q4a,Q4a,[(2,0)],[⟨0,0,(1,0),0,0⟩],1⟩
def Jw(g1 g2:Nat):Array Value:=#[.string ⟨#[86]⟩,.int .i64 1,.int .u32 4,.int .u32 0,.bool false,.int .i64 0,.int .i64 0,.slice none 0 0,.int .i64 1,.int .u32 4,.int .u32 0,.bool false,.int .i64 0,.int .i64 0,.slice none 0 0,.slice (some ⟨g1,0,none⟩) 1 1,.slice (some ⟨g2,0,none⟩) 1 1,.int .i64 1]
theorem Wl{w:World}{g:Nat}{cs:Array Value}{t:TypeId}{fr:Nat × Nat}(h:w.heap[g]?=some (.cells cs t fr)):w.setRow g cs=w:=by
 unfold World.setRow;have b:∀ h',h'=w.heap->({ w with heap:=h' }:World)=w:=by rintro _ rfl;rfl
 refine b _ ?_;apply Array.ext_getElem?;intro c;rw [Array.getElem?_modify];by_cases a:g=c
 ·subst a;rw [if_pos rfl,h];rfl
 ·rw [if_neg a]
theorem Qdt{k:Func}{a b c d:Tmp}(h:k.results=#[.cell a 26,.cell b 26,.cell c 26,.cell d 50]){tmps:Array Value}{w:World}{e f g i:Nat}{l m n o p q:Value}{cs:Array Value}
  (v:tmps.getD a undef=.pointer (some ⟨e,0,none⟩)) (x:tmps.getD b undef=.pointer (some ⟨f,0,none⟩)) (y:tmps.getD c undef=.pointer (some ⟨g,0,none⟩)) (z:tmps.getD d undef=.pointer (some ⟨i,0,none⟩))
  (B:w.heap[e]?=some (.cells #[l,m] 26 (0,0))) (C:w.heap[f]?=some (.cells #[n,o] 26 (0,0))) (D:w.heap[g]?=some (.cells #[p,q] 26 (0,0))) (E:w.heap[i]?=some (.cells cs 50 (0,0))) (A:(Tryz.prog.info? 50).map (·.size)=some cs.size:=by kernel_rfl) :
  (results k tmps).run Tryz.prog w=.ok (.tuple #[.agg #[l,m],.agg #[n,o],.agg #[p,q],.agg cs]) w:=by
 have r:tmps[a]?.getD undef=.pointer (some ⟨e,0,none⟩):=by simpa using v
 have s:tmps[b]?.getD undef=.pointer (some ⟨f,0,none⟩):=by simpa using x
 have t:tmps[c]?.getD undef=.pointer (some ⟨g,0,none⟩):=by simpa using y
 have u:tmps[d]?.getD undef=.pointer (some ⟨i,0,none⟩):=by simpa using z
 have j:(Tryz.prog.info? 26).map (·.size)=some 2:=by kernel_rfl
 simp [results,h,r,s,t,u,asAddr,run_loadVar_row w e _ _ _ _ _ B Tryz.underlying26 rfl j,run_loadVar_row w f _ _ _ _ _ C Tryz.underlying26 rfl j,run_loadVar_row w g _ _ _ _ _ D Tryz.underlying26 rfl j,run_loadVar_row w i _ _ _ _ _ E Tryz.underlying50 rfl A]
theorem Q3d(w:World):Calls Tryz.prog 53 #[] w fun e w'=>∃ g1 g2:Nat,e=.returned (.tuple #[sV (2,5),sV (3,4),sV (5,2),.agg (Jw g1 g2)])/\Zq w' v15 (Jw g1 g2).toList/\Ext w w':=by
 go_enter Tryz.func53,Tryz.ntmps53;obtain⟨a,n⟩:=zE w.heap.size;obtain⟨k,m⟩:=zE ((((w.alloc (.cells #[.int .u32 2,.int .u32 5] 26)).alloc (.cells #[.int .u32 3,.int .u32 4] 26)).alloc (.cells #[.int .u32 5,.int .u32 2] 26)).alloc (.cells #[.string ⟨#[]⟩,.int .i64 0,.int .u32 0,.int .u32 0,.bool false,.int .i64 0,.int .i64 0,.slice none 0 0,.int .i64 0,.int .u32 0,.int .u32 0,.bool false,.int .i64 0,.int .i64 0,.slice none 0 0,.slice none 0 0,.slice none 0 0,.int .i64 0] 50));have b9:Ext w k:=by rw [<-m];exact((((Q0.refl _ w).alloc _).alloc _).alloc _).alloc _
 have b2:k.heap[a]?=some (.cells #[.int .u32 2,.int .u32 5] 26 (0,0)):=by rw [<-m,<-n];exact Q9 (Q9 (Q9 (Q3 rfl)))
 have b3:k.heap[a+1]?=some (.cells #[.int .u32 3,.int .u32 4] 26 (0,0)):=by rw [<-m,<-n];exact Q9 (Q9 (Q3 zy))
 have b4:k.heap[a+2]?=some (.cells #[.int .u32 5,.int .u32 2] 26 (0,0)):=by rw [<-m,<-n];exact Q9 (Q3 zy)
 have b5:k.heap[a+3]?=some (.cells #[.string ⟨#[]⟩,.int .i64 0,.int .u32 0,.int .u32 0,.bool false,.int .i64 0,.int .i64 0,.slice none 0 0,.int .i64 0,.int .u32 0,.int .u32 0,.bool false,.int .i64 0,.int .i64 0,.slice none 0 0,.slice none 0 0,.slice none 0 0,.int .i64 0] 50 (0,0)):=by rw [<-m,<-n];exact Q3 zy
 have c2:k.heap.size=a+4:=by rw [<-m,<-n];simp
 go_upto_region 1 with (fail)
 go_upto_region 2 with (fail)
 try rw [m]
 obtain⟨Q,R,T,U,a6,z,d1⟩:=Zh7 b2 b3 b4 b5 b9 c2 n;clear b2 b3 b4 b5 b9 c2 m n;go_upto_region 3 with (fail)
 obtain⟨c,y⟩:=zE (k.alloc (.cells #[.int .i64 1,.int .u32 4,.int .u32 0,.bool false,.int .i64 0,.int .i64 0,.slice none 0 0] 47));have q:Ext k c:=by rw [<-y];exact(Q0.refl _ k).alloc _
 have b6:c.heap[a+4]?=some (.cells #[.int .i64 1,.int .u32 4,.int .u32 0,.bool false,.int .i64 0,.int .i64 0,.slice none 0 0] 47 (0,0)):=by rw [<-y];exact Q3 z.out.symm
 have c3:c.heap.size=a+5:=by rw [<-y];simp [z.out]
 try rw [y]
 have c1:k.heap.size=a+4:=z.out;try rw [c1]
 obtain⟨l,a7,V,W,X,Y,A⟩:=Zh7 b6 (a6.out.trans q) (q.keep Q.out) (q.keep R.out) (q.keep T.out) (q.keep U.out) c3;clear b6 q c3 y c1 Q R T U a6 z;obtain⟨u,t⟩:=zE ((c.alloc (.cells #[.int .u32 2,.int .u32 0] 26)).alloc (.cells #[.int .i64 0,.int .u32 0,.int .u32 1,.int .u32 0,.int .u32 0,.int .i64 0] 131));have r:Ext c u:=by rw [<-t];exact((Q0.refl _ c).alloc _).alloc _
 have b7:u.heap[a+5]?=some (.cells #[.int .u32 2,.int .u32 0] 26 (0,0)):=by rw [<-t];exact Q9 (Q3 A.out.symm)
 have b8:u.heap[a+6]?=some (.cells #[.int .i64 0,.int .u32 0,.int .u32 1,.int .u32 0,.int .u32 0,.int .i64 0] 131 (0,0)):=by rw [<-t];exact Q3 (by simp [A.out])
 have L:=r.keep Y.out;have p:=Q0.setRow u (a+3) (Jw (a+5) (a+6));have O:=setRow_heap _ _ _ (Jw (a+5) (a+6)) _ _ L;have F:=p.heap (r.keep V.out) oz;have G:=p.heap (r.keep W.out) oz;have H:=p.heap (r.keep X.out) oz;have I:=p.heap b7 oz;have J:=p.heap b8 oz;have M:Ext w (u.setRow (a+3) (Jw (a+5) (a+6))):=(a7.out.trans r).after p (fun b h1 h2=>by have:=d1.out;omega);have d5:c.heap.size=a+5:=A.out;obtain⟨c4,P⟩:=zE (u.setRow (a+3) (Jw (a+5) (a+6)));rw [P] at O M F G H I J;obtain⟨Z,a9,a8,a1,a2,a3,a4,a5⟩:=Zh8 L O M F G H I J;have b0:=Zh t;have b1:=Zh P;have N:=Z.out;rw [<-t] at N;have a0:=Zh N;clear L O M F G H I J b7 b8 r p t P N;have d6:c.cell? ⟨a+4,0,none⟩=some (.int .i64 1):=by rw [cell_of_row c (a+4) 0 _ _ _ l.out];rfl
 have d7:c.cell? ⟨a+4,1,none⟩=some (.int .u32 4):=by rw [cell_of_row c (a+4) 1 _ _ _ l.out];rfl
 have d8:c.cell? ⟨a+4,2,none⟩=some (.int .u32 0):=by rw [cell_of_row c (a+4) 2 _ _ _ l.out];rfl
 have d9:c.cell? ⟨a+4,3,none⟩=some (.bool false):=by rw [cell_of_row c (a+4) 3 _ _ _ l.out];rfl
 have e0:c.cell? ⟨a+4,4,none⟩=some (.int .i64 0):=by rw [cell_of_row c (a+4) 4 _ _ _ l.out];rfl
 have e1:c.cell? ⟨a+4,5,none⟩=some (.int .i64 0):=by rw [cell_of_row c (a+4) 5 _ _ _ l.out];rfl
 have e2:c.cell? ⟨a+4,6,none⟩=some (.slice none 0 0):=by rw [cell_of_row c (a+4) 6 _ _ _ l.out];rfl
 go_wp2_with (refine wpList_store_row rfl 50 (.tmp 3) (.tmp 17) rfl (a+3) (Jw (a+5) (a+6)) zr (by first | rfl | simp [Jw]) _ _ a0.out kz rfl kz ?_)
 rw [b0.out,b1.out];try simp only [Act.put]
 clear d5 Z a0 b0 b1 l V W X Y A a7 d6 d7 d8 d9 e0 e1 e2;obtain⟨g,j⟩:=zE c4.drew;have c5:g.heap[a]?=some (.cells #[.int .u32 2,.int .u32 5] 26 (0,0)):=by rw [<-j];exact a1.out
 have c6:g.heap[a+1]?=some (.cells #[.int .u32 3,.int .u32 4] 26 (0,0)):=by rw [<-j];exact a2.out
 have c7:g.heap[a+2]?=some (.cells #[.int .u32 5,.int .u32 2] 26 (0,0)):=by rw [<-j];exact a3.out
 have c8:g.heap[a+3]?=some (.cells (Jw (a+5) (a+6)) 50 (0,0)):=by rw [<-j];exact a9.out
 have c9:g.heap[a+5]?=some (.cells #[.int .u32 2,.int .u32 0] 26 (0,0)):=by rw [<-j];exact a4.out
 have d0:g.heap[a+6]?=some (.cells #[.int .i64 0,.int .u32 0,.int .u32 1,.int .u32 0,.int .u32 0,.int .i64 0] 131 (0,0)):=by rw [<-j];exact a5.out
 have c0:Ext w g:=by rw [<-j];exact a8.out.drew
 obtain⟨B,C,D,E,d3,d4,d2⟩:=Zh7 c5 c6 c7 c8 c9 d0 c0;clear c5 c6 c7 c8 c9 d0 c0 a1 a2 a3 a4 a5 a9 a8;have s:g=c4.drew:=j.symm;refine Z8 (S:=fun f=>f=g) [] kz j ?_;intro _;rw [j];have s:g=g:=rfl;refine tkE (i:=0) (d:=18) (v:=?_) rfl (Or.inl ⟨by rfl,?_⟩) s ?_;rotate_left
 ·intro f o;subst o;refine X6 (x:=.tmp 0) ?_ a ?_ _ _ _ B.out Tryz.underlying26 kz <;> rfl
 try simp only [Act.put,pq]
 refine tkE (i:=1) (d:=19) (v:=?_) rfl (Or.inl ⟨by rfl,?_⟩) s ?_;rotate_left
 ·intro f o;subst o;refine X6 (x:=.tmp 1) ?_ (a+1) ?_ _ _ _ C.out Tryz.underlying26 kz <;> rfl
 try simp only [Act.put,pq]
 refine tkE (i:=2) (d:=20) (v:=?_) rfl (Or.inl ⟨by rfl,?_⟩) s ?_;rotate_left
 ·intro f o;subst o;refine X6 (x:=.tmp 2) ?_ (a+2) ?_ _ _ _ D.out Tryz.underlying26 kz <;> rfl
 try simp only [Act.put,pq]
 refine tkE (i:=3) (d:=21) (v:=?_) rfl (Or.inl ⟨by rfl,?_⟩) s ?_;rotate_left
 ·intro f o;subst o;refine X6 (x:=.tmp 3) ?_ (a+3) ?_ _ _ _ E.out Tryz.underlying50 kz <;> rfl
 try simp only [Act.put,pq]
 refine rE [4] ?_;refine Q2.cons rfl (fun K hK=>?_) Q2.nil;refine iw rfl ?_;refine wp_store_row 26 (.tmp 0) (.tmp 18) rfl a _ rfl rfl _ _ B.out kz kz kz ?_;rw [Wl B.out];refine hK _ _ rfl (fun _=>?_);clear hK K;try simp only [Act.put,pq]
 refine rE [5] ?_;refine Q2.cons rfl (fun K hK=>?_) Q2.nil;refine iw rfl ?_;refine wp_store_row 26 (.tmp 1) (.tmp 19) rfl (a+1) _ rfl rfl _ _ C.out kz kz kz ?_;rw [Wl C.out];refine hK _ _ rfl (fun _=>?_);clear hK K;try simp only [Act.put]
 refine rE [6] ?_;refine Q2.cons rfl (fun K hK=>?_) Q2.nil;refine iw rfl ?_;refine wp_store_row 26 (.tmp 2) (.tmp 20) rfl (a+2) _ rfl rfl _ _ D.out kz kz kz ?_;rw [Wl D.out];refine hK _ _ rfl (fun _=>?_);clear hK K;try simp only [Act.put]
 refine rE [7] ?_;refine Q2.cons rfl (fun K hK=>?_) Q2.nil;refine iw rfl ?_;refine wp_store_row 50 (.tmp 3) (.tmp 21) rfl (a+3) _ rfl rfl _ _ E.out kz kz kz ?_;rw [Wl E.out];refine hK _ _ rfl (fun _=>?_);clear hK K;try simp only [Act.put]
 refine Z0 kz ?_ _;clear s;go_wp2;refine bodyPost_ret (Qdt rfl rfl rfl rfl rfl B.out C.out D.out E.out) rfl ⟨a+5,a+6,rfl,?_,d2.out⟩;exact⟨[.int .i64 1,.int .u32 4,.int .u32 0,.bool false,.int .i64 0,.int .i64 0,.slice none 0 0],[.int .i64 1,.int .u32 4,.int .u32 0,.bool false,.int .i64 0,.int .i64 0,.slice none 0 0],_,_,rfl,by decide,Q22 _ _ 1 false 0 0 zd zd,Q22 _ _ 1 false 0 0 zd zd,⟨Kk (xs:=Qx [(2,0)]) d3.out rfl zd,by simp [Zn]⟩,⟨Kk (xs:=Tn [⟨0,0,(1,0),0,0⟩]) d4.out rfl zd,by simp [Xx,Qh]⟩⟩
def Mb(l:Wd)(i:Nat):Bool:=(l.take i).any fun s=>!okS s
def Ly(n:Nat)(l:List X1)(i:Nat):Bool:=(l.take i).any fun x=>!Yp n x
theorem Q78{l:Wd}{i:Nat}(h:l.length<=i):Mb l i=l.any fun s=>!okS s:=by unfold Mb;rw [List.take_of_length_le h]
theorem Q74{n:Nat}{l:List X1}{i:Nat}(h:l.length<=i):Ly n l i=l.any fun x=>!Yp n x:=by unfold Ly;rw [List.take_of_length_le h]
theorem Q64{l:Wd}{i:Nat}(h:i<l.length)(a:Mb l i=false)(b:okS l[i]=true):Mb l (i+1)=false:=by
 unfold Mb at a ⊢;rw [List.take_succ_eq_append_getElem h,List.any_append,a];simp [b]
theorem Q5b{n:Nat}{l:List X1}{i:Nat}(h:i<l.length)(a:Ly n l i=false)(b:Yp n l[i]=true):Ly n l (i+1)=false:=by
 unfold Ly at a ⊢;rw [List.take_succ_eq_append_getElem h,List.any_append,a];simp [b]
theorem Rj{w:World}{l:Q7}{cs:List Value}(i1:Zq w l cs) :
  Calls Tryz.prog 122 #[.agg cs.toArray] w fun e w'=>e=.returned (.int .i64 (Vm l))/\Ext w w':=by
 obtain⟨B,d9,e7,e1,e3,c7,c9,e5,c5,d1,e0,e8,e2,e4,c8,d0,e6,c6,d2,b2,c,b1,j0,i,b3,F,rfl,j7,f6,f7,f1,k0,f5,j8,j9,b8,b9,f4,l0,m1,m2,l1,m3⟩:=Zu i1;have i6:=R3 B;have i4:B.data.toList.length<=9223372036854775807:=by rw [Array.length_toList];exact l0
 have c0:Hid (∀ d,Ext w d->Calls Tryz.prog 156 #[.string B] d fun e w'=>e=.returned (.bool (Uo B))/\Ext d w'):=Zh fun d _=>by
  have:=Q9n B.data.toList i4 d;rw [<-i6] at this;exact this.mono fun e w' h=>⟨h.1,by rw [<-h.2];exact Q0.refl _ _⟩
 have c2:Hid (∀ d,Ext w d->Calls Tryz.prog 157 #[.agg #[.int .i64 d9,.int .u32 (e7:Int),.int .u32 (e1:Int),.bool e3,.int .i64 c7,.int .i64 c9,.slice e5 c5 d1]] d fun e w'=>e=.returned (.int .i64 (Y2 l.left))/\Ext d w'):=
  Zh fun d hE=>Fe (f6.out.ext hE)
 have c3:Hid (∀ d,Ext w d->Calls Tryz.prog 157 #[.agg #[.int .i64 e0,.int .u32 (e8:Int),.int .u32 (e2:Int),.bool e4,.int .i64 c8,.int .i64 d0,.slice e6 c6 d2]] d fun e w'=>e=.returned (.int .i64 (Y2 l.right))/\Ext d w'):=
  Zh fun d hE=>Fe (f7.out.ext hE)
 have r:Hid (Vm l=if Uo B=false then 17 else if Y2 l.left≠0 then 17 else if Y2 l.right≠0 then 17 else if 4<c then 17 else if 6<i then 17 else if c+i=0 then 17 else if F<1\/3<F then 17 else if (l.ifs.any fun s=>!okS s)=true then 17 else if (l.outs.any fun j=>!Yp c j)=true then 17 else 0):=Zh (by
  rw [Ec,f5.out,b8.out,b9.out,f4.out])
 obtain⟨m,g6⟩:=zE (Vm l);rw [g6] at r ⊢;obtain⟨k9,i3⟩:=zE (Uo B);obtain⟨f9,g7⟩:=zE (Y2 l.left);obtain⟨g0,g8⟩:=zE (Y2 l.right);rw [i3] at c0 r;rw [g7] at c2 r;rw [g8] at c3 r;clear i1 i6 i4 g6 i3 g7 g8 j7 f6 f7 f5 j8 j9 f4;go_enter Tryz.func122,Tryz.ntmps122;go_upto_region 1 with (fail)
 obtain⟨e9,b0⟩:=zE (w.alloc (.cells #[.string B,.int .i64 d9,.int .u32 (e7:Int),.int .u32 (e1:Int),.bool e3,.int .i64 c7,.int .i64 c9,.slice e5 c5 d1,.int .i64 e0,.int .u32 (e8:Int),.int .u32 (e2:Int),.bool e4,.int .i64 c8,.int .i64 d0,.slice e6 c6 d2,.slice b2 c b1,.slice j0 i b3,.int .i64 F] 50));have d4:Ext w e9:=by rw [<-b0];exact(Q0.refl _ w).alloc _
 have d7:e9.heap[w.heap.size]?=some (.cells #[.string B,.int .i64 d9,.int .u32 (e7:Int),.int .u32 (e1:Int),.bool e3,.int .i64 c7,.int .i64 c9,.slice e5 c5 d1,.int .i64 e0,.int .u32 (e8:Int),.int .u32 (e2:Int),.bool e4,.int .i64 c8,.int .i64 d0,.slice e6 c6 d2,.slice b2 c b1,.slice j0 i b3,.int .i64 F] 50 (0,0)):=by rw [<-b0];exact Q3 rfl
 rw [b0];obtain⟨M,g5⟩:=zE w.heap.size;rw [g5] at d7 ⊢;have b5:=Zh d7;have x:=fun b=>cell_of_row _ _ b _ _ _ b5.out;clear b0 g5 d7;go_wp2_with fail;refine(c0.out e9 d4).mono ?_;rintro e l4 ⟨rfl,k⟩;have a4:=d4.trans k;have b6:=Zh (k.keep b5.out);have x:=fun b=>cell_of_row _ _ b _ _ _ b6.out;clear k b5 d4 c0;cases k9
 ·have g:Hid (m=17):=Zh (by rw [r.out];rfl);clear r;go_wp2;go_ret;exact⟨by rw [g.out];rfl,a4⟩
 go_wp2_with fail;refine(c2.out l4 a4).mono ?_;rintro e l5 ⟨rfl,k⟩;have a5:=a4.trans k;have b7:=Zh (k.keep b6.out);have x:=fun b=>cell_of_row _ _ b _ _ _ b7.out;clear k b6 a4 c2;by_cases L:f9=0;case neg=>
  have k8:(f9 != 0)=true:=by rw [bne_iff_ne];exact L
  have g:Hid (m=17):=Zh (by rw [r.out,if_neg zd,if_pos L]);clear r;go_wp2;go_ret;exact⟨by rw [g.out];rfl,a5⟩
 subst L;go_wp2_with fail;refine(c3.out l5 a5).mono ?_;rintro e l6 ⟨rfl,k⟩;have D:=a5.trans k;have f2:=Zh (k.keep b7.out);have x:=fun b=>cell_of_row _ _ b _ _ _ f2.out;clear k b7 a5 c3;by_cases L:g0=0;case neg=>
  have k8:(g0 != 0)=true:=by rw [bne_iff_ne];exact L
  have g:Hid (m=17):=Zh (by rw [r.out,if_neg zd,if_neg zd,if_pos L]);clear r;go_wp2;go_ret;exact⟨by rw [g.out];rfl,D⟩
 subst L;have t:Hid (m=if 4<c then 17 else if 6<i then 17 else if c+i=0 then 17 else if F<1\/3<F then 17 else if (l.ifs.any fun s=>!okS s)=true then 17 else if (l.outs.any fun j=>!Yp c j)=true then 17 else 0):=Zh (by rw [r.out];rfl);clear r;by_cases O:4<c
 ·have g2:(4:Int)<(c:Int):=by omega
  have g:Hid (m=17):=Zh (by rw [t.out,if_pos O]);clear t;go_wp2;go_ret;exact⟨by rw [g.out];rfl,D⟩
 by_cases R:6<i
 ·have g2:¬ (4:Int)<(c:Int):=by omega
  have k2:(6:Int)<(i:Int):=by omega
  have g:Hid (m=17):=Zh (by rw [t.out,if_neg O,if_pos R]);clear t;go_wp2;go_ret;exact⟨by rw [g.out];rfl,D⟩
 have g2:¬ (4:Int)<(c:Int):=by omega
 have k2:¬ (6:Int)<(i:Int):=by omega
 by_cases C:c+i=0
 ·have k3:((c:Int)+(i:Int) == 0)=true:=by rw [beq_iff_eq];omega
  have g:Hid (m=17):=Zh (by rw [t.out,if_neg O,if_neg R,if_pos C]);clear t C;go_wp2;go_ret;exact⟨by rw [g.out];rfl,D⟩
 have k3:((c:Int)+(i:Int) == 0)=false:=by rw [beq_eq_false_iff_ne];omega
 by_cases g3:F<1
 ·have g:Hid (m=17):=Zh (by rw [t.out,if_neg O,if_neg R,if_neg C,if_pos (.inl g3)]);clear t C;go_wp2;go_ret;exact⟨by rw [g.out];rfl,D⟩
 by_cases g4:3<F
 ·have g:Hid (m=17):=Zh (by rw [t.out,if_neg O,if_neg R,if_neg C,if_pos (.inr g4)]);clear t C;go_wp2;go_ret;exact⟨by rw [g.out];rfl,D⟩
 have b4:Hid (m=if (l.ifs.any fun s=>!okS s)=true then 17 else if (l.outs.any fun j=>!Yp c j)=true then 17 else 0):=Zh (by rw [t.out,if_neg O,if_neg R,if_neg C,if_neg (fun q=>q.elim g3 g4)]);clear t C;go_wp2;clear x
 refine wp_loop (fun a d=>∃(o:Nat),o<=c/\a.defers=[]/\gS a [1,3]=(82,[.pointer (some ⟨M,0,none⟩),.int .i64 o])/\Mb l.ifs o=false/\Ext l6 d)
  (fun a _=>c - (intOf (a.tmps.getD 3 undef)).toNat) ?_ ?_
 ·exact⟨0,by omega,rfl,rfl,by simp [Mb],Q0.refl _ _⟩
 rintro⟨l2,_⟩ d ⟨o,l9,d6,Y,U,E⟩;subst d6;obtain⟨l3,rfl⟩:=Qc Y;clear Y;have N:=Zh U;clear U;have a9:=E.keep f2.out;have x:=fun b=>cell_of_row _ _ b _ _ _ a9;have a6:=D.trans E;by_cases k6:o<c
 ·have d3:(o:Int)<(c:Int):=by omega
  have I:o<l.ifs.length:=by rw [b8.out];exact k6
  obtain⟨n,p,k1,X,k5,y,z⟩:=(f1.out.ext a6).at I;simp only [zV] at X;obtain⟨rfl,d8,rfl⟩:=X;clear d8;have i0:l.ifs.getD o (0,0)=l.ifs[o]:=by rw [List.getD_eq_getElem?_getD,List.getElem?_eq_getElem I];rfl
  have i2:=f1.out.2 _ (List.getElem_mem I);rw [i0] at y z;have v:=Vo (s:=l.ifs[o]) i2 d;obtain⟨u,H⟩:=zE (okS l.ifs[o]);rw [H] at v;obtain⟨s,i7⟩:=zE (l.ifs[o]);have P:Hid (okS l.ifs[o]=u):=Zh H;rw [i7] at y z v;obtain⟨m4,m5⟩:=s;dsimp only at y z;have Z:=Zh v;have Q:=Zh I;clear v i7 H i0 i2;go_wp2_with fail;refine Z.out.mono ?_;rintro e f8 ⟨rfl,k⟩;have T:=E.trans k;have a7:=D.trans T;clear Z y z k x a9;cases u
  ·have V:(l.ifs.any fun s=>!okS s)=true:=List.any_eq_true.2 ⟨_,List.getElem_mem Q.out,by rw [P.out];rfl⟩;have g:Hid (m=17):=Zh (by rw [b4.out,if_pos V]);clear V;go_wp2;go_ret;exact⟨by rw [g.out];rfl,a7⟩
  ·have W:=Q64 Q.out N.out P.out;have c1:=Zh W;clear W;go_wp2;exact⟨⟨o+1,by omega,tz,rfl,c1.out,T⟩,nz⟩
 obtain rfl:c=o:=by omega
 have d3:¬ (c:Int)<(c:Int):=by omega
 have J:=N.out;rw [Q78 (by rw [b8.out];exact Nat.le_refl _)] at J;have f0:Hid (m=if (l.outs.any fun j=>!Yp c j)=true then 17 else 0):=Zh (by rw [b4.out,if_neg (by rw [J];decide)]);clear J b4 N;go_wp2;clear x;have f3:=Zh a9;clear a9
 refine wp_loop (fun a f8=>∃(b:Nat),b<=i/\a.defers=[]/\gS a [1,4]=(82,[.pointer (some ⟨M,0,none⟩),.int .i64 b])/\Ly c l.outs b=false/\Ext d f8)
  (fun a _=>i - (intOf (a.tmps.getD 4 undef)).toNat) ?_ ?_
 ·exact⟨0,by omega,rfl,rfl,by simp [Ly],Q0.refl _ _⟩
 obtain⟨l8,d5⟩:=zE d;rw [d5];rw [d5] at f3 a6;clear d5 E d;rintro⟨l2,_⟩ d ⟨b,m0,d6,Y,U,E⟩;subst d6;obtain⟨l3,rfl⟩:=Qc Y;clear Y;have N:=Zh U;clear U;have a8:=E.keep f3.out;have T:=a6.trans E;by_cases k7:b<i;case neg=>
  obtain rfl:b=i:=by omega
  have d3:¬ (b:Int)<(b:Int):=by omega
  have x:=fun b=>cell_of_row _ _ b _ _ _ a8;have J:=N.out;rw [Q74 (by rw [b9.out];exact Nat.le_refl _)] at J;have g:Hid (m=0):=Zh (by rw [f0.out,if_neg (by rw [J];decide)]);clear J;go_wp2;go_ret;exact⟨by rw [g.out];rfl,T⟩
 have d3:(b:Int)<(i:Int):=by omega
 have I:b<l.outs.length:=by rw [b9.out];exact k7
 obtain⟨n,p,k1,X,k5,i5,y,z,a0,a1,a2,a3⟩:=(k0.out.ext T).at I;simp only [zV] at X;obtain⟨rfl,d8,rfl⟩:=X;clear d8;have v:=fun(f:World)=>Q8j i5 c l1 f;obtain⟨u,H⟩:=zE (Yp c l.outs[b]);simp only [H] at v;have P:Hid (Yp c l.outs[b]=u):=Zh H;obtain⟨j,i9⟩:=zE (l.outs[b]);rw [i9] at y z a0 a1 a2 a3 v;obtain⟨j1,j2,⟨j3,j4⟩,j5,j6⟩:=j;unfold Zx at v;dsimp only at y z a0 a1 a2 a3 v;have Z:=Zh v;have Q:=Zh I;have g9:∀(f:World),Ext d f->f.cell? ⟨M,15,none⟩=some (.slice b2 c b1)/\f.cell? ⟨M,16,none⟩=some (.slice (some ⟨n,p,none⟩) i b3)/\f.cell? ⟨n,p+b*6,none⟩=some (.int .i64 j1)/\f.cell? ⟨n,p+b*6+1,none⟩=some (.int .u32 (j2:Int))/\f.cell? ⟨n,p+b*6+2,none⟩=some (.int .u32 (j3:Int))/\f.cell? ⟨n,p+b*6+3,none⟩=some (.int .u32 (j4:Int))/\f.cell? ⟨n,p+b*6+4,none⟩=some (.int .u32 (j5:Int))/\f.cell? ⟨n,p+b*6+5,none⟩=some (.int .i64 j6):=by
  intro f G;have g1:=G.keep a8;exact⟨cell_of_row _ _ 15 _ _ _ g1,cell_of_row _ _ 16 _ _ _ g1,G.cell_some y id,G.cell_some z id,G.cell_some a0 id,G.cell_some a1 id,G.cell_some a2 id,G.cell_some a3 id⟩
 have c4:=Zh g9;have x:=cell_of_row _ _ 16 _ _ _ a8;clear v H i9 i5 y z a0 a1 a2 a3 g9 a8;go_upto_region 13 with (fail)
 clear x;refine wp_region_held_drew (S:=fun f=>f.cell? ⟨M,15,none⟩=some (.slice b2 c b1)/\f.cell? ⟨M,16,none⟩=some (.slice (some ⟨n,p,none⟩) i b3)/\f.cell? ⟨n,p+b*6,none⟩=some (.int .i64 j1)/\f.cell? ⟨n,p+b*6+1,none⟩=some (.int .u32 (j2:Int))/\f.cell? ⟨n,p+b*6+2,none⟩=some (.int .u32 (j3:Int))/\f.cell? ⟨n,p+b*6+3,none⟩=some (.int .u32 (j4:Int))/\f.cell? ⟨n,p+b*6+4,none⟩=some (.int .u32 (j5:Int))/\f.cell? ⟨n,p+b*6+5,none⟩=some (.int .i64 j6)) kz (c4.out _ (Q0.drew (Q0.refl _ d))) ?_;intro A;refine tH 0 72 A ?_;refine tH 1 73 A ?_;refine tH 2 74 A ?_;refine tH 3 75 A ?_;refine tH 4 76 A ?_;refine tH 5 77 A ?_;refine tH 6 78 A ?_;refine tH 7 79 A ?_;refine rH [8] ?_;refine AllReadyH.cons rfl (fun K hK=>?_) AllReadyH.nil;refine iw rfl ?_;go_simp;refine(Z.out _).mono ?_;rintro e l7 ⟨rfl,k⟩;have i8:Ext d l7:=Q0.trans (Q0.drew (Q0.refl _ d)) k;refine hK.out _ _ (c4.out _ i8) (fun hS1=>?_);clear hK K k;refine tH 9 81 hS1 ?_;refine wpAnyH_done kz ?_ _;clear A hS1 c4;have a7:=E.trans i8;have k4:=a6.trans a7;cases u
 ·have V:(l.outs.any fun j=>!Yp c j)=true:=List.any_eq_true.2 ⟨_,List.getElem_mem Q.out,by rw [P.out];rfl⟩;have g:Hid (m=17):=Zh (by rw [f0.out,if_pos V]);clear V;go_wp2;go_ret;exact⟨by rw [g.out];rfl,k4⟩
 ·have W:=Q5b Q.out N.out P.out;have c1:=Zh W;clear W;go_wp2;exact⟨⟨b+1,by omega,tz,rfl,c1.out,a7⟩,nz⟩
theorem Q0b{w:World}{l:Q7}{cs:List Value}{v:Value}{ws:Wd}(p:Zq w l cs)(d:Q4 w v ws) :
  Calls Tryz.prog 177 #[.agg cs.toArray,v] w fun e w'=>e=.returned (.int .i64 (X9 l ws))/\Ext w w':=by
 obtain⟨b9,b7,rfl,_⟩:=d.slice;obtain⟨b8,t⟩:=zE ws.length;rw [t] at d ⊢;have r:=fun(V:World) (hE:Ext w V)=>Hy (d.ext hE);have q:=fun(V:World) (hE:Ext w V)=>Rj (p.ext hE);obtain⟨a4,X,a9,Z,a2,N,P,a5,J,R,Y,b0,a0,a3,O,Q,a6,K,S,W,L,U,a8,M,a7,a1,rfl,x,G,H,u,F,E,A,B,C,D,z,b2,b3,b4,b5,b6⟩:=Zu p;have b:Hid (X9 l ws=if Vm l=0 then wE ws else Vm l):=Zh (by unfold X9 Vm;cases Zv l <;> rfl);obtain⟨a,k⟩:=zE (X9 l ws);obtain⟨g,m⟩:=zE (Vm l);obtain⟨T,o⟩:=zE (wE ws);rw [k,m,o] at b;rw [m] at q;rw [o] at r;rw [k];have I:=Zh r;have y:=Zh q;clear t k m o r q d p x G H u F E A B C D z;have i:Ext w (w.alloc (.cells #[.string a4,.int .i64 X,.int .u32 (a9:Int),.int .u32 (Z:Int),.bool a2,.int .i64 N,.int .i64 P,.slice a5 J R,.int .i64 Y,.int .u32 (b0:Int),.int .u32 (a0:Int),.bool a3,.int .i64 O,.int .i64 Q,.slice a6 K S,.slice W L U,.slice a8 M a7,.int .i64 a1] 50)):=(Q0.refl _ w).alloc _;go_enter Tryz.func177,Tryz.ntmps177
 go_wp2_with (refine wpList_load_row rfl 50 (.tmp 2) rfl w.heap.size rfl _ _ _ _ (Q3 rfl) Tryz.underlying50 rfl Tryz.lawInfo ?_)
 refine(y.out _ i).mono ?_;rintro e c0 ⟨rfl,c⟩;have j:=i.trans c;clear c i;by_cases s:g=0;case neg=>
  have b1:(g != 0)=true:=by rw [bne_iff_ne];exact s
  have f:Hid (a=g):=Zh (by rw [b.out,if_neg s]);clear b;go_wp2;go_ret;exact⟨by rw [f.out];rfl,j⟩
 subst s;have f:Hid (a=T):=Zh (by rw [b.out,if_pos rfl]);go_wp2_with fail;refine(I.out _ j).mono ?_;rintro e c1 ⟨rfl,c⟩;go_wp2;go_ret;exact⟨by rw [f.out];rfl,j.trans c⟩
theorem Lh{w:World}{ps:Qr}{lo:Option Addr}{n lc:Nat}(y:Qt w (.slice lo n lc) ps) (i:ps.length=n) :
  Calls Tryz.prog 84 #[.slice lo n lc] w fun e w'=>e=.returned (.int .i64 (Z4 (ps.map (·.1))))/\Ext w w':=by
 have a5:n<=maxLen:=by rw [<-i];exact y.1.2.1
 unfold maxLen at a5;obtain⟨f,j⟩:=zE (Z4 (ps.map (·.1)));rw [j];have Q:64<n->f=12:=fun h=>by rw [<-j];unfold Z4;rw [if_pos (by rw [List.length_map,i];exact h)]
 have R:¬ 64<n->∀ c (u:c<ps.length),Zv ps[c].1=false->f=17:=fun h c u g=>by rw [<-j];unfold Z4;rw [if_neg (by rw [List.length_map,i];exact h),Qbr u g];rfl
 have S:¬ 64<n->Nj ps n->f=0:=fun h g=>by rw [<-j];unfold Z4;rw [if_neg (by rw [List.length_map,i];exact h),Qby oz g];rfl
 obtain⟨T,U,Y,Z,a0⟩:=Zh5 y i Q R S;clear y i j Q R S;go_enter Tryz.func84,Tryz.ntmps84;by_cases s:64<n;case pos=>
  have g:(n:Int) > 64:=by omega
  have A:f=12:=Y.out s;subst A;go_wp2;go_ret;exact⟨rfl,Q0.refl _ _⟩
 have b3:¬ (n:Int) > 64:=by omega
 have D:=Zh s;clear s;go_wp2
 refine wp_loop (fun a H=>∃(c:Nat),c<=n/\a.defers=[]/\gS a [0,3]=(19,[.slice lo n lc,.int .i64 c])/\Nj ps c/\Ext w H)
  (fun a _=>((n:Int) - intOf (a.tmps.getD 3 undef)).toNat) ?_ ?_
 ·exact⟨0,by omega,rfl,rfl,by simp [Nj],Q0.refl _ _⟩
 rintro⟨b5,_⟩ H ⟨c,u,a2,O,M,J⟩;subst a2;obtain⟨b6,rfl⟩:=Qc O;clear O;have r:=Zh M;have l:=Zh J;clear M J;by_cases a4:c<n;case pos=>
  have g:(c:Int)<(n:Int):=by omega
  have b2:(0:Int)<=(c:Int):=by omega
  have v:c<ps.length:=by rw [U.out];exact a4
  obtain⟨a1,a8,b1,N,a3,q,p,m⟩:=(T.out.ext l.out).at v;simp only [zV] at N;obtain⟨rfl,a6,rfl⟩:=N;have k:=Z.out D.out c v;have d:=fun h=>Q8x v r.out h;obtain⟨B,z⟩:=zE (ps[c]);rw [z] at q p m k;simp only [z] at d;obtain⟨P,a9⟩:=B;dsimp only at q p m k d;have b4:IntKind.i64.wrap ((c:Int)+1)=(c:Int)+1:=IntWalk.i64_in _ oz;obtain⟨I,o⟩:=zE (Zv P);have L:Vm P=if I=true then 0 else 17:=by unfold Vm;rw [o]
  rw [o] at k;simp only [o] at d;have t:=Rj p;rw [L] at t;obtain⟨E,G,C,X,V⟩:=Zh5 t q m k d;clear a6 z p m q k d L o r a3 t
  go_wp2_with (refine Ja (by rfl) 50 (.tmp 15) rfl a1 (a8+c*18) zr a9 _ G.out Tryz.underlying50 rfl (by rw [C.out];kernel_rfl) ?_)
  refine E.out.mono ?_;rintro e b0 ⟨rfl,K⟩;have F:=Zh (l.out.trans K);clear K E l G C;cases I with
  | true=>
   have d:=V.out rfl;have W:=Zh d;clear d;go_wp2;exact⟨⟨c+1,by omega,tz,rfl,W.out,F.out⟩,mz⟩
  | false=>
   have A:f=17:=X.out uz;subst A;go_wp2;go_ret;exact⟨rfl,F.out⟩
 obtain rfl:c=n:=by omega
 have g:¬ (c:Int)<(c:Int):=by omega
 have a7:f=0:=a0.out D.out r.out;subst a7;go_wp2;go_ret;exact⟨rfl,l.out⟩
theorem P4{w:World}{cs:List Value}{l:Q7}{vo:Option Addr}{vn vc:Nat}{ws:Wd}(f4:Zq w l cs)(L:Q4 w (.slice vo vn vc) ws) (i9:ws.length=vn) (F:vn<=vc) (i:Nat) (G:i+l.ifs.length<=vn)
  (a9:∀ x∈l.outs,Yp l.ifs.length x=true) (j2:l.outs.length<=100) (j4:vn<=800) :
  Calls Tryz.prog 194 #[.agg cs.toArray,.slice vo vn vc,.int .i64 i] w fun e w'=>∃ u,e=.returned u/\w'.ownsRow w.heap.size 26 2 u (Ya l ws i).length (Qx (Ya l ws i))/\Ext w w':=by
 subst i9;obtain⟨c0,b3,c8,b5,b8,W,Y,c1,U,a0,b4,c9,b6,b9,X,Z,c2,V,a1,b2,f,b1,c7,p,c6,b7,rfl,d6,i0,i1,g7,g9,k3,k1,k2,d7,Q,k0,l5,l6,l7,l8,l9⟩:=Zu f4;rw [d7.out] at G a9;rw [Q.out] at j2;have g:Q4 w _ _:=Q4.cut L (a:=0) (b:=i) oz oz F;have M:Q4 w _ _:=Q4.cut L (a:=i) (b:=i+f) oz G F;have N:Q4 w _ _:=Q4.cut L (a:=i+f) (b:=ws.length) G oz F;rw [take_zero] at g;rw [show i+f - i=f by omega] at M;rw [Wb rfl] at N;have g6:=fun D=>R0 (A:=vo) (n:=ws.length) (c:=vc) Xs Jq i oz D;have d0:=fun D=>Mr (A:=vo) (n:=ws.length) (c:=vc) Xs Jq i (i+f) oz oz D;have d1:=fun D=>Py (A:=vo) (n:=ws.length) (c:=vc) Xs Jq (i+f) oz D;simp only [Int.natCast_add] at d0 d1;obtain⟨m4,o,k7,g0⟩:∃ y z e,sliced vo 0 i vc 2=.slice y z e:=⟨_,_,_,rfl⟩;obtain⟨m5,m7,k8,g1⟩:∃ y z e,sliced vo i (i+f) vc 2=.slice y z e:=⟨_,_,_,rfl⟩;obtain⟨m6,j9,k9,g2⟩:∃ y z e,sliced vo (i+f) ws.length vc 2=.slice y z e:=⟨_,_,_,rfl⟩;rw [g0] at g g6;rw [g1] at M d0;rw [g2] at N d1;clear g0 g1 g2;have f5:((ws.drop i).take f).length=f:=by rw [List.length_take,List.length_drop];omega
 have J:=fun(D:World) (hE:Ext w D)=>Eo (d6.out.ext hE) (M.ext hE) (by rw [f5];exact a9) (by rw [Q.out];omega);have s:Hid (Ya l ws i=ws.take i++Yz l ((ws.drop i).take f)++ws.drop (i+f)):=Zh (by unfold Ya Ke;rw [d7.out]);have I:=Yx l ((ws.drop i).take f);rw [Q.out] at I J;obtain⟨B,e4⟩:=zE (Yz l ((ws.drop i).take f));rw [e4] at J s I;obtain⟨t,e2⟩:=zE (Ya l ws i);rw [e2] at s ⊢;obtain⟨rfl,f6⟩:=Ls g (show (ws.take i).length=i by rw [List.length_take];omega);obtain⟨vn,f9⟩:=zE ws.length;obtain⟨d,l1⟩:=zE (vn - (o+f));obtain⟨rfl,f7⟩:=Ls N (show (ws.drop (o+f)).length=d by rw [List.length_drop];omega);have d3:Hid (t.length=o+p+j9):=Zh (by rw [s.out,List.length_append,List.length_append,I,List.length_take,List.length_drop];omega);have P:Hid (Qx t=Qx (ws.take o)++(Qx B++Qx (ws.drop (o+f)))):=Zh (by rw [s.out,Zl,Zl,List.append_assoc]);rw [d3.out];rw [f9] at G F j4 g6 d0 d1 ⊢;obtain⟨T,i3,i4⟩:=Zh3 J f6 f7;have P:=P;clear f4 L g M N a9 J f5 I e4 e2 f6 f7 f9 s d3 g7 g9 i0 i1 d6;go_enter Tryz.func194,Tryz.ntmps194;go_upto_region 1 with (fail)
 obtain⟨m,g⟩:=zE (w.alloc (.cells #[.string c0,.int .i64 b3,.int .u32 (c8:Int),.int .u32 (b5:Int),.bool b8,.int .i64 W,.int .i64 Y,.slice c1 U a0,.int .i64 b4,.int .u32 (c9:Int),.int .u32 (b6:Int),.bool b9,.int .i64 X,.int .i64 Z,.slice c2 V a1,.slice b2 f b1,.slice c7 p c6,.int .i64 b7] 50));have a4:Ext w m:=by rw [<-g];exact(Q0.refl _ w).alloc _
 have H:m.heap[w.heap.size]?=some (.cells #[.string c0,.int .i64 b3,.int .u32 (c8:Int),.int .u32 (b5:Int),.bool b8,.int .i64 W,.int .i64 Y,.slice c1 U a0,.int .i64 b4,.int .u32 (c9:Int),.int .u32 (b6:Int),.bool b9,.int .i64 X,.int .i64 Z,.slice c2 V a1,.slice b2 f b1,.slice c7 p c6,.int .i64 b7] 50 (0,0)):=by rw [<-g];exact Q3 rfl
 have b0:m.heap.size=w.heap.size+1:=by rw [<-g];simp
 rw [g];obtain⟨j,a3⟩:=zE w.heap.size;rw [a3] at H b0 ⊢;have d4:=Zh H;have r:=Zh a3;have a2:Ext m (m.alloc (.cells #[] 26)):=(Q0.refl _ m).alloc _;have a7:=World.ownsRow_made (base:=j+1) (e:=26) (size:=2) m #[] 0 oz zd rfl;rw [b0] at a7;obtain⟨d8,e0,O⟩:=Zh3 a7 (i3.out.ext (a4.trans a2)) a2;have i6:=cell_of_row _ _ 15 _ _ _ H;clear a7 a2 g a3 H
 go_wp2_with (at_builtin;refine X4 rfl (.tmp 12) (.tmp 15) 23 rfl (j+1) 26 _ 2 8 Tryz.underlying23 @Yt rfl zd _ 0 [] rfl d8.out _ _ _ _ rfl e0.out (Jr _) ?c3 ?c4 ?c5 ?_)
 case c3=>unfold maxLen;omega
 case c4=>omega
 case c5=>have:=O.out.size;omega
 intro k4 m1 q e5 f1 _;have C:Ext m q:=O.out.after f1 (fun b h1 e=>by simp [Value.ownBlock] at e;omega);have a5:=a4.trans C;have d5:=Zh (C.keep d4.out);have R:=Zh e5;have l2:j+1<=q.heap.size:=by have:=C.size;omega
 have j0:=T.out q.drew a5.drew;have i2:=Zh (fun(D:World) (hD:Ext w D)=>T.out D hD);clear j0 e5 f1 d4 i6 e0 O d8 C a4 b0 T;go_upto_region 3 with (fail)
 have j3:IntKind.i64.wrap ((o:Int)+(f:Int))=(o:Int)+(f:Int):=IntWalk.i64_in _ oz;refine Z8 (S:=fun D=>D.heap[j]?=some (.cells #[.string c0,.int .i64 b3,.int .u32 (c8:Int),.int .u32 (b5:Int),.bool b8,.int .i64 W,.int .i64 Y,.slice c1 U a0,.int .i64 b4,.int .u32 (c9:Int),.int .u32 (b6:Int),.bool b9,.int .i64 X,.int .i64 Z,.slice c2 V a1,.slice b2 f b1,.slice c7 p c6,.int .i64 b7] 50 (0,0))) [] kz (Xr d5.out) ?_;intro k;refine tE 0 17 k ?_;refine tkE (i:=1) (d:=18) (v:=?_) rfl (Or.inl ⟨by rfl,?_⟩) k ?_;rotate_left
 ·intro w f0;(try dsimp only at f0);have j1:=f0;refine X6 (x:=.tmp 3) ?_ j ?_ _ _ _ j1 Tryz.underlying50 Tryz.lawInfo <;> rfl
 try simp only [Act.put,pq]
 refine tE 2 19 k ?_;refine tE 3 20 k ?_;refine tE 4 21 k ?_;refine tE 5 22 k ?_;refine tE 6 23 k ?_;refine tE 7 24 k ?_;refine rE [8] ?_;refine Q2.cons rfl (fun K hK=>?_) Q2.nil;refine iw rfl ?_;go_simp;refine(i2.out _ (a5.drew)).mono ?_;rintro e d2 ⟨m0,rfl,e7,E⟩;have i7:Ext w d2:=(a5.drew).trans E;have a6:=E.keep (Xr d5.out);obtain⟨j6,j5,rfl⟩:=Qu e7;have f3:Rd d2 (.slice j6 p j5) p 2 (Qx B):=Rd.of_own e7;have e6:=Q6 R.out (Q0.trans (Q0.drew (Q0.refl (fun _=>False) q)) E);have l3:j+1<=d2.heap.size:=by have:=E.size;have l0:q.drew.heap.size=q.heap.size:=rfl;omega
 refine hK.out _ _ a6 (fun hS5=>?_);clear hK K;try simp only [Act.put,pq]
 refine rE [9] ?_;refine Q2.cons rfl (fun K hK=>?_) Q2.nil;refine iw rfl ?_;refine Hk (.tmp 17) (.tmp 25) 23 rfl (j+1) 26 _ 2 8 Tryz.underlying23 @Yt rfl zd _ _ _ rfl e6 _ _ _ _ rfl f3 (Jr _) (by unfold maxLen;omega) oz (by have:=r.out;omega) ?_;intro k5 m2 j7 e8 a8 _;have e3:=a8.heap a6 (fun e=>by have:=(R.out.lt _ e).1;omega);have e1:Ext w j7:=i7.after a8 (fun b hb e=>by have:=(R.out.lt _ e).1;have:=r.out;omega);have l4:=a8.size;refine hK.out _ _ e3 (fun hS6=>?_);clear hK K;try simp only [Act.put,List.setIfInBounds_toArray]
 refine tE 10 8 hS6 ?_;try simp only [Act.put]
 refine Z0 kz ?_ _;have f8:=i4.out.ext e1;have i5:=Zh f8;have d9:=Zh e8;clear f8 e8 f3 e6 a6 e3 hS6 hS5 k j3
 go_wp2_with (at_builtin;refine X4 rfl (.tmp 27) (.tmp 32) 23 rfl (j+1) 26 _ 2 8 Tryz.underlying23 @Yt rfl zd _ _ _ rfl d9.out _ _ _ _ rfl i5.out (Jr _) ?g3 ?g4 ?g5 ?_)
 case g3=>unfold maxLen;omega
 case g4=>omega
 case g5=>have:=r.out;omega
 intro k6 m3 j8 e9 f2 _;have i8:Ext w j8:=e1.after f2 (fun b hb e=>by have:=(d9.out.lt _ e).1;have:=r.out;omega);have g8:=Zh e9;clear e9 f2;go_wp2;go_ret;exact⟨_,rfl,by rw [P.out];refine Z9 (base:=j+1) ?_ (by have:=r.out;omega);exact g8.out,i8⟩
end Go.Proofs.YtejenndedjabhaaGreatDoor
