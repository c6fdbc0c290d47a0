/- ablautref08.Check, check (printed by genrefchk.py). -/
import Derived.Test.YtejenndedjabhaaGreatDoorU13
set_option maxRecDepth 100000
set_option maxHeartbeats 16000000
namespace Go.Proofs.YtejenndedjabhaaGreatDoor
open Go.RowKit Go.Ab
attribute [local go_sem] Oper.semAt_some Z6 Qn
def Qal(l:Wd)(i:Nat):Bool:=(l.take i).any fun s=>!okS s
def Qao(n:Nat)(l:List Ym)(i:Nat):Bool:=(l.take i).any fun x=>!Xq n x
abbrev Eu:Pat:=.node 1 4 0 false 0 0 []
abbrev v15:Q5:=⟨⟨#[86]⟩,Eu,Eu,[(2,0)],[⟨0,0,(1,0),0,0⟩],1⟩
def X3(g1 g2:Nat):Array Value:=#[.string ⟨#[86]⟩,.int .i64 1,.int .u32 4,.int .u32 0,.bool false,.int .i64 0,.int .i64 0,.slice none 0 0,.int .i64 1,.int .u32 4,.int .u32 0,.bool false,.int .i64 0,.int .i64 0,.slice none 0 0,.slice (some ⟨g1,0,none⟩) 1 1,.slice (some ⟨g2,0,none⟩) 1 1,.int .i64 1]
theorem Kk{w:World}{g:Nat}{cs:Array Value}{t:TypeId}{fr:Nat × Nat}(h:w.heap[g]?=some (.cells cs t fr)):w.setRow g cs=w:=by
 unfold World.setRow;have b:∀ h',h'=w.heap->({ w with heap:=h' }:World)=w:=by rintro _ rfl;rfl
 refine b _ ?_;apply Array.ext_getElem?;intro c;rw [Array.getElem?_modify];by_cases a:g=c
 ·subst a;rw [if_pos rfl,h];rfl
 ·rw [if_neg a]
theorem Q91{k:Func}{a b c d:Tmp}(h:k.results=#[.cell a 26,.cell b 26,.cell c 26,.cell d 50]){tmps:Array Value}{w:World}{e f g i:Nat}{l m n o p q:Value}{cs:Array Value}
  (v:tmps.getD a undef=.pointer (some ⟨e,0,none⟩)) (x:tmps.getD b undef=.pointer (some ⟨f,0,none⟩)) (y:tmps.getD c undef=.pointer (some ⟨g,0,none⟩)) (z:tmps.getD d undef=.pointer (some ⟨i,0,none⟩))
  (B:w.heap[e]?=some (.cells #[l,m] 26 (0,0))) (C:w.heap[f]?=some (.cells #[n,o] 26 (0,0))) (D:w.heap[g]?=some (.cells #[p,q] 26 (0,0))) (E:w.heap[i]?=some (.cells cs 50 (0,0))) (A:(Tryz.prog.info? 50).map (·.size)=some cs.size:=by kernel_rfl) :
  (results k tmps).run Tryz.prog w=.ok (.tuple #[.agg #[l,m],.agg #[n,o],.agg #[p,q],.agg cs]) w:=by
 have r:tmps[a]?.getD undef=.pointer (some ⟨e,0,none⟩):=by simpa using v
 have s:tmps[b]?.getD undef=.pointer (some ⟨f,0,none⟩):=by simpa using x
 have t:tmps[c]?.getD undef=.pointer (some ⟨g,0,none⟩):=by simpa using y
 have u:tmps[d]?.getD undef=.pointer (some ⟨i,0,none⟩):=by simpa using z
 have j:(Tryz.prog.info? 26).map (·.size)=some 2:=by kernel_rfl
 simp [results,h,r,s,t,u,asAddr,run_loadVar_row w e _ _ _ _ _ B Tryz.underlying26 rfl j,run_loadVar_row w f _ _ _ _ _ C Tryz.underlying26 rfl j,run_loadVar_row w g _ _ _ _ _ D Tryz.underlying26 rfl j,run_loadVar_row w i _ _ _ _ _ E Tryz.underlying50 rfl A]
theorem Mb(w:World):Calls Tryz.prog 53 #[] w fun e w'=>∃ g1 g2:Nat,e=.returned (.tuple #[sV (2,5),sV (3,4),sV (5,2),.agg (X3 g1 g2)])/\Y7 w' v15 (X3 g1 g2).toList/\Ext w w':=by
 go_enter Tryz.func53,Tryz.ntmps53;obtain⟨a,n⟩:=zE w.heap.size;obtain⟨k,m⟩:=zE ((((w.alloc (.cells #[.int .u32 2,.int .u32 5] 26)).alloc (.cells #[.int .u32 3,.int .u32 4] 26)).alloc (.cells #[.int .u32 5,.int .u32 2] 26)).alloc (.cells #[.string ⟨#[]⟩,.int .i64 0,.int .u32 0,.int .u32 0,.bool false,.int .i64 0,.int .i64 0,.slice none 0 0,.int .i64 0,.int .u32 0,.int .u32 0,.bool false,.int .i64 0,.int .i64 0,.slice none 0 0,.slice none 0 0,.slice none 0 0,.int .i64 0] 50));have b9:Ext w k:=by rw [<-m];exact((((Q0.refl _ w).alloc _).alloc _).alloc _).alloc _
 have b2:k.heap[a]?=some (.cells #[.int .u32 2,.int .u32 5] 26 (0,0)):=by rw [<-m,<-n];exact Q7 (Q7 (Q7 (new_at rfl)))
 have b3:k.heap[a+1]?=some (.cells #[.int .u32 3,.int .u32 4] 26 (0,0)):=by rw [<-m,<-n];exact Q7 (Q7 (new_at zy))
 have b4:k.heap[a+2]?=some (.cells #[.int .u32 5,.int .u32 2] 26 (0,0)):=by rw [<-m,<-n];exact Q7 (new_at zy)
 have b5:k.heap[a+3]?=some (.cells #[.string ⟨#[]⟩,.int .i64 0,.int .u32 0,.int .u32 0,.bool false,.int .i64 0,.int .i64 0,.slice none 0 0,.int .i64 0,.int .u32 0,.int .u32 0,.bool false,.int .i64 0,.int .i64 0,.slice none 0 0,.slice none 0 0,.slice none 0 0,.int .i64 0] 50 (0,0)):=by rw [<-m,<-n];exact new_at zy
 have c2:k.heap.size=a+4:=by rw [<-m,<-n];simp
 go_upto_region 1 with (fail)
 go_upto_region 2 with (fail)
 try rw [m]
 obtain⟨Q,R,T,U,a6,z,d1⟩:=Zh7 b2 b3 b4 b5 b9 c2 n;clear b2 b3 b4 b5 b9 c2 m n;go_upto_region 3 with (fail)
 obtain⟨c,y⟩:=zE (k.alloc (.cells #[.int .i64 1,.int .u32 4,.int .u32 0,.bool false,.int .i64 0,.int .i64 0,.slice none 0 0] 47));have q:Ext k c:=by rw [<-y];exact(Q0.refl _ k).alloc _
 have b6:c.heap[a+4]?=some (.cells #[.int .i64 1,.int .u32 4,.int .u32 0,.bool false,.int .i64 0,.int .i64 0,.slice none 0 0] 47 (0,0)):=by rw [<-y];exact new_at z.out.symm
 have c3:c.heap.size=a+5:=by rw [<-y];simp [z.out]
 try rw [y]
 have c1:k.heap.size=a+4:=z.out;try rw [c1]
 obtain⟨l,a7,V,W,X,Y,A⟩:=Zh7 b6 (a6.out.trans q) (q.keep Q.out) (q.keep R.out) (q.keep T.out) (q.keep U.out) c3;clear b6 q c3 y c1 Q R T U a6 z;obtain⟨u,t⟩:=zE ((c.alloc (.cells #[.int .u32 2,.int .u32 0] 26)).alloc (.cells #[.int .i64 0,.int .u32 0,.int .u32 1,.int .u32 0,.int .u32 0,.int .i64 0] 131));have r:Ext c u:=by rw [<-t];exact((Q0.refl _ c).alloc _).alloc _
 have b7:u.heap[a+5]?=some (.cells #[.int .u32 2,.int .u32 0] 26 (0,0)):=by rw [<-t];exact Q7 (new_at A.out.symm)
 have b8:u.heap[a+6]?=some (.cells #[.int .i64 0,.int .u32 0,.int .u32 1,.int .u32 0,.int .u32 0,.int .i64 0] 131 (0,0)):=by rw [<-t];exact new_at (by simp [A.out])
 have L:=r.keep Y.out;have p:=Q0.setRow u (a+3) (X3 (a+5) (a+6));have O:=setRow_heap _ _ _ (X3 (a+5) (a+6)) _ _ L;have F:=p.heap (r.keep V.out) oz;have G:=p.heap (r.keep W.out) oz;have H:=p.heap (r.keep X.out) oz;have I:=p.heap b7 oz;have J:=p.heap b8 oz;have M:Ext w (u.setRow (a+3) (X3 (a+5) (a+6))):=(a7.out.trans r).after p (fun b h1 h2=>by have:=d1.out;omega);have d5:c.heap.size=a+5:=A.out;obtain⟨c4,P⟩:=zE (u.setRow (a+3) (X3 (a+5) (a+6)));rw [P] at O M F G H I J;obtain⟨Z,a9,a8,a1,a2,a3,a4,a5⟩:=Zh8 L O M F G H I J;have b0:=Zh t;have b1:=Zh P;have N:=Z.out;rw [<-t] at N;have a0:=Zh N;clear L O M F G H I J b7 b8 r p t P N;have d6:c.cell? ⟨a+4,0,none⟩=some (.int .i64 1):=by rw [cell_of_row c (a+4) 0 _ _ _ l.out];rfl
 have d7:c.cell? ⟨a+4,1,none⟩=some (.int .u32 4):=by rw [cell_of_row c (a+4) 1 _ _ _ l.out];rfl
 have d8:c.cell? ⟨a+4,2,none⟩=some (.int .u32 0):=by rw [cell_of_row c (a+4) 2 _ _ _ l.out];rfl
 have d9:c.cell? ⟨a+4,3,none⟩=some (.bool false):=by rw [cell_of_row c (a+4) 3 _ _ _ l.out];rfl
 have e0:c.cell? ⟨a+4,4,none⟩=some (.int .i64 0):=by rw [cell_of_row c (a+4) 4 _ _ _ l.out];rfl
 have e1:c.cell? ⟨a+4,5,none⟩=some (.int .i64 0):=by rw [cell_of_row c (a+4) 5 _ _ _ l.out];rfl
 have e2:c.cell? ⟨a+4,6,none⟩=some (.slice none 0 0):=by rw [cell_of_row c (a+4) 6 _ _ _ l.out];rfl
 go_wp2_with (refine wpList_store_row rfl 50 (.tmp 3) (.tmp 17) rfl (a+3) (X3 (a+5) (a+6)) zr (by first | rfl | simp [X3]) _ _ a0.out kz rfl kz ?_)
 rw [b0.out,b1.out];try simp only [Act.put]
 clear d5 Z a0 b0 b1 l V W X Y A a7 d6 d7 d8 d9 e0 e1 e2;obtain⟨g,j⟩:=zE c4.drew;have c5:g.heap[a]?=some (.cells #[.int .u32 2,.int .u32 5] 26 (0,0)):=by rw [<-j];exact a1.out
 have c6:g.heap[a+1]?=some (.cells #[.int .u32 3,.int .u32 4] 26 (0,0)):=by rw [<-j];exact a2.out
 have c7:g.heap[a+2]?=some (.cells #[.int .u32 5,.int .u32 2] 26 (0,0)):=by rw [<-j];exact a3.out
 have c8:g.heap[a+3]?=some (.cells (X3 (a+5) (a+6)) 50 (0,0)):=by rw [<-j];exact a9.out
 have c9:g.heap[a+5]?=some (.cells #[.int .u32 2,.int .u32 0] 26 (0,0)):=by rw [<-j];exact a4.out
 have d0:g.heap[a+6]?=some (.cells #[.int .i64 0,.int .u32 0,.int .u32 1,.int .u32 0,.int .u32 0,.int .i64 0] 131 (0,0)):=by rw [<-j];exact a5.out
 have c0:Ext w g:=by rw [<-j];exact a8.out.drew
 obtain⟨B,C,D,E,d3,d4,d2⟩:=Zh7 c5 c6 c7 c8 c9 d0 c0;clear c5 c6 c7 c8 c9 d0 c0 a1 a2 a3 a4 a5 a9 a8;have s:g=c4.drew:=j.symm;refine Zo (S:=fun f=>f=g) [] kz j ?_;intro _;rw [j];have s:g=g:=rfl;refine tkE (i:=0) (d:=18) (v:=?_) rfl (Or.inl ⟨by rfl,?_⟩) s ?_;rotate_left
 ·intro f o;subst o;refine Qq (x:=.tmp 0) ?_ a ?_ _ _ _ B.out Tryz.underlying26 kz <;> rfl
 try simp only [Act.put,pq]
 refine tkE (i:=1) (d:=19) (v:=?_) rfl (Or.inl ⟨by rfl,?_⟩) s ?_;rotate_left
 ·intro f o;subst o;refine Qq (x:=.tmp 1) ?_ (a+1) ?_ _ _ _ C.out Tryz.underlying26 kz <;> rfl
 try simp only [Act.put,pq]
 refine tkE (i:=2) (d:=20) (v:=?_) rfl (Or.inl ⟨by rfl,?_⟩) s ?_;rotate_left
 ·intro f o;subst o;refine Qq (x:=.tmp 2) ?_ (a+2) ?_ _ _ _ D.out Tryz.underlying26 kz <;> rfl
 try simp only [Act.put,pq]
 refine tkE (i:=3) (d:=21) (v:=?_) rfl (Or.inl ⟨by rfl,?_⟩) s ?_;rotate_left
 ·intro f o;subst o;refine Qq (x:=.tmp 3) ?_ (a+3) ?_ _ _ _ E.out Tryz.underlying50 kz <;> rfl
 try simp only [Act.put,pq]
 refine rE [4] ?_;refine Q1.cons rfl (fun K hK=>?_) Q1.nil;refine iw rfl ?_;refine wp_store_row 26 (.tmp 0) (.tmp 18) rfl a _ rfl rfl _ _ B.out kz kz kz ?_;rw [Kk B.out];refine hK _ _ rfl (fun _=>?_);clear hK K;try simp only [Act.put,pq]
 refine rE [5] ?_;refine Q1.cons rfl (fun K hK=>?_) Q1.nil;refine iw rfl ?_;refine wp_store_row 26 (.tmp 1) (.tmp 19) rfl (a+1) _ rfl rfl _ _ C.out kz kz kz ?_;rw [Kk C.out];refine hK _ _ rfl (fun _=>?_);clear hK K;try simp only [Act.put]
 refine rE [6] ?_;refine Q1.cons rfl (fun K hK=>?_) Q1.nil;refine iw rfl ?_;refine wp_store_row 26 (.tmp 2) (.tmp 20) rfl (a+2) _ rfl rfl _ _ D.out kz kz kz ?_;rw [Kk D.out];refine hK _ _ rfl (fun _=>?_);clear hK K;try simp only [Act.put]
 refine rE [7] ?_;refine Q1.cons rfl (fun K hK=>?_) Q1.nil;refine iw rfl ?_;refine wp_store_row 50 (.tmp 3) (.tmp 21) rfl (a+3) _ rfl rfl _ _ E.out kz kz kz ?_;rw [Kk E.out];refine hK _ _ rfl (fun _=>?_);clear hK K;try simp only [Act.put]
 refine Qp kz ?_ _;clear s;go_wp2;refine bodyPost_ret (Q91 rfl rfl rfl rfl rfl B.out C.out D.out E.out) rfl ⟨a+5,a+6,rfl,?_,d2.out⟩;exact⟨[.int .i64 1,.int .u32 4,.int .u32 0,.bool false,.int .i64 0,.int .i64 0,.slice none 0 0],[.int .i64 1,.int .u32 4,.int .u32 0,.bool false,.int .i64 0,.int .i64 0,.slice none 0 0],_,_,rfl,by decide,Tj _ _ 1 false 0 0 zd zd,Tj _ _ 1 false 0 0 zd zd,⟨Zm (xs:=Ql [(2,0)]) d3.out rfl zd,by simp [Qw]⟩,⟨Zm (xs:=P9 [⟨0,0,(1,0),0,0⟩]) d4.out rfl zd,by simp [Jh,Qe]⟩⟩
end Go.Proofs.YtejenndedjabhaaGreatDoor
