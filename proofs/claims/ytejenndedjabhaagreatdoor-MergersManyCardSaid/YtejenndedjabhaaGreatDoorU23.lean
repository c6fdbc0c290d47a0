/- ablautlaw15.works: the example of the chapter holds. -/
import Derived.Test.YtejenndedjabhaaGreatDoorU22
set_option maxRecDepth 100000
set_option maxHeartbeats 16000000
namespace Go.Proofs.YtejenndedjabhaaGreatDoor
open Go.RowKit Go.Ab
attribute [local go_sem] Oper.semAt_some Z6 Qn
theorem Wj(w:World)(m2:Tab w):Calls Tryz.prog 16 #[] w fun e w'=>e=.returned (.bool true)/\Ext w w':=by
 have j9:=Zh m2;clear m2;go_enter Tryz.func16,Tryz.ntmps16;go_wp2_with fail;refine(Mb w).mono ?_;rintro e B ⟨g0,g1,rfl,m8,m0⟩;have d8:=Zh m8;have i8:=Zh m0;clear m8 m0;unfold sV;obtain⟨N,a4⟩:=zE B.heap.size;have g4:((((B.alloc (.cells #[.int .u32 2,.int .u32 5] 26)).alloc (.cells #[.int .u32 3,.int .u32 4] 26)).alloc (.cells #[.int .u32 5,.int .u32 2] 26)).alloc (.cells #[.string ⟨#[]⟩,.int .i64 0,.int .u32 0,.int .u32 0,.bool false,.int .i64 0,.int .i64 0,.slice none 0 0,.int .i64 0,.int .u32 0,.int .u32 0,.bool false,.int .i64 0,.int .i64 0,.slice none 0 0,.slice none 0 0,.slice none 0 0,.int .i64 0] 50)).heap[N+3]?=some (.cells #[.string ⟨#[]⟩,.int .i64 0,.int .u32 0,.int .u32 0,.bool false,.int .i64 0,.int .i64 0,.slice none 0 0,.int .i64 0,.int .u32 0,.int .u32 0,.bool false,.int .i64 0,.int .i64 0,.slice none 0 0,.slice none 0 0,.slice none 0 0,.int .i64 0] 50 (0,0)):=by rw [<-a4];exact new_at zy
 have l5:((((B.alloc (.cells #[.int .u32 2,.int .u32 5] 26)).alloc (.cells #[.int .u32 3,.int .u32 4] 26)).alloc (.cells #[.int .u32 5,.int .u32 2] 26)).alloc (.cells #[.string ⟨#[]⟩,.int .i64 0,.int .u32 0,.int .u32 0,.bool false,.int .i64 0,.int .i64 0,.slice none 0 0,.int .i64 0,.int .u32 0,.int .u32 0,.bool false,.int .i64 0,.int .i64 0,.slice none 0 0,.slice none 0 0,.slice none 0 0,.int .i64 0] 50)).heap[N]?=some (.cells #[.int .u32 2,.int .u32 5] 26 (0,0)):=by rw [<-a4];exact Q7 (Q7 (Q7 (new_at rfl)))
 have l6:((((B.alloc (.cells #[.int .u32 2,.int .u32 5] 26)).alloc (.cells #[.int .u32 3,.int .u32 4] 26)).alloc (.cells #[.int .u32 5,.int .u32 2] 26)).alloc (.cells #[.string ⟨#[]⟩,.int .i64 0,.int .u32 0,.int .u32 0,.bool false,.int .i64 0,.int .i64 0,.slice none 0 0,.int .i64 0,.int .u32 0,.int .u32 0,.bool false,.int .i64 0,.int .i64 0,.slice none 0 0,.slice none 0 0,.slice none 0 0,.int .i64 0] 50)).heap[N+1]?=some (.cells #[.int .u32 3,.int .u32 4] 26 (0,0)):=by rw [<-a4];exact Q7 (Q7 (new_at zy))
 have l7:((((B.alloc (.cells #[.int .u32 2,.int .u32 5] 26)).alloc (.cells #[.int .u32 3,.int .u32 4] 26)).alloc (.cells #[.int .u32 5,.int .u32 2] 26)).alloc (.cells #[.string ⟨#[]⟩,.int .i64 0,.int .u32 0,.int .u32 0,.bool false,.int .i64 0,.int .i64 0,.slice none 0 0,.int .i64 0,.int .u32 0,.int .u32 0,.bool false,.int .i64 0,.int .i64 0,.slice none 0 0,.slice none 0 0,.slice none 0 0,.int .i64 0] 50)).heap[N+2]?=some (.cells #[.int .u32 5,.int .u32 2] 26 (0,0)):=by rw [<-a4];exact Q7 (new_at zy)
 have l8:Ext B ((((B.alloc (.cells #[.int .u32 2,.int .u32 5] 26)).alloc (.cells #[.int .u32 3,.int .u32 4] 26)).alloc (.cells #[.int .u32 5,.int .u32 2] 26)).alloc (.cells #[.string ⟨#[]⟩,.int .i64 0,.int .u32 0,.int .u32 0,.bool false,.int .i64 0,.int .i64 0,.slice none 0 0,.int .i64 0,.int .u32 0,.int .u32 0,.bool false,.int .i64 0,.int .i64 0,.slice none 0 0,.slice none 0 0,.slice none 0 0,.int .i64 0] 50)):=((((Q0.refl _ B).alloc _).alloc _).alloc _).alloc _;obtain⟨a1,i0,i1,i2,i6⟩:=Zh5 g4 l5 l6 l7 l8;clear g4 l5 l6 l7 l8;obtain⟨y,a5⟩:=zE (X3 g0 g1);have n1:(Tryz.prog.info? 50).map (·.size)=some y.size:=by rw [<-a5];kernel_rfl
 have b9:y.all (·.oneCell')=true:=by rw [<-a5];kernel_rfl
 have n2:y.size=18:=by rw [<-a5];rfl
 rw [a5] at d8 ⊢;obtain⟨e2,e1,j5,a8⟩:=Zh4 n2 n1 b9 a5;clear n1 b9 n2 a5
 go_wp2_with (refine wpList_store_row rfl 50 (.tmp 4) (.tmp 20) rfl (N+3) y zr zr _ _ a1.out e1.out (by rw [e2.out];rfl) j5.out ?_)
 have b7:=Q0.setRow ((((B.alloc (.cells #[.int .u32 2,.int .u32 5] 26)).alloc (.cells #[.int .u32 3,.int .u32 4] 26)).alloc (.cells #[.int .u32 5,.int .u32 2] 26)).alloc (.cells #[.string ⟨#[]⟩,.int .i64 0,.int .u32 0,.int .u32 0,.bool false,.int .i64 0,.int .i64 0,.slice none 0 0,.int .i64 0,.int .u32 0,.int .u32 0,.bool false,.int .i64 0,.int .i64 0,.slice none 0 0,.slice none 0 0,.slice none 0 0,.int .i64 0] 50)) (N+3) y;have f7:=setRow_heap _ _ _ y _ _ a1.out;have f4:=b7.heap i0.out oz;have f5:=b7.heap i1.out oz;have f6:=b7.heap i2.out oz;have c8:Ext B (((((B.alloc (.cells #[.int .u32 2,.int .u32 5] 26)).alloc (.cells #[.int .u32 3,.int .u32 4] 26)).alloc (.cells #[.int .u32 5,.int .u32 2] 26)).alloc (.cells #[.string ⟨#[]⟩,.int .i64 0,.int .u32 0,.int .u32 0,.bool false,.int .i64 0,.int .i64 0,.slice none 0 0,.int .i64 0,.int .u32 0,.int .u32 0,.bool false,.int .i64 0,.int .i64 0,.slice none 0 0,.slice none 0 0,.slice none 0 0,.int .i64 0] 50)).setRow (N+3) y):=i6.out.after b7 (fun b h1 h2=>by omega);obtain⟨E,m4⟩:=zE (((((B.alloc (.cells #[.int .u32 2,.int .u32 5] 26)).alloc (.cells #[.int .u32 3,.int .u32 4] 26)).alloc (.cells #[.int .u32 5,.int .u32 2] 26)).alloc (.cells #[.string ⟨#[]⟩,.int .i64 0,.int .u32 0,.int .u32 0,.bool false,.int .i64 0,.int .i64 0,.slice none 0 0,.int .i64 0,.int .u32 0,.int .u32 0,.bool false,.int .i64 0,.int .i64 0,.slice none 0 0,.slice none 0 0,.slice none 0 0,.int .i64 0] 50)).setRow (N+3) y);rw [m4] at f4 f5 f6 f7 c8 ⊢;try simp only [Act.put]
 obtain⟨i3,i4,d4,i5,d5,i9,n8⟩:=Zh7 f4 f5 f6 f7 (i8.out.trans c8) (d8.out.ext c8) a4;clear b7 f4 f5 f6 f7 c8 m4 a1 i0 i1 i2 i6 i8 d8 a4
 go_cut [5,6] from 15 to 24 (fun v5 v6 wx=>∃ d0 c9:Nat,v5=.slice (some ⟨d0,0,none⟩) 1 1/\v6=.slice (some ⟨c9,0,none⟩) 1 1/\wx.heap[d0]?=some (.cells y 50 (0,0))/\wx.heap[c9]?=some (.cells #[.int .u32 5,.int .u32 2] 26 (0,0))/\Ext E wx)
 case first=>
  obtain⟨I,d2⟩:=zE E.drew;have a0:Ext E I:=by rw [<-d2];exact(Q0.refl _ E).drew
  refine Zo (S:=fun c=>Ext E c) [] kz (by rw [d2];exact a0) ?_;intro _;rw [d2];clear d2;refine tkE (i:=0) (d:=21) (v:=?_) rfl (Or.inl ⟨by rfl,?_⟩) a0 ?_;rotate_left
  ·intro c z;(try dsimp only at z);refine Qq (x:=.tmp 4) ?_ (N+3) ?_ _ _ _ ((show Ext E c from z).keep i5.out) Tryz.underlying50 e1.out <;> rfl
  try simp only [Act.put,pq]
  refine tkE (i:=2) (d:=23) (v:=?_) rfl (Or.inl ⟨by rfl,?_⟩) a0 ?_;rotate_left
  ·intro c z;(try dsimp only at z);refine Qq (x:=.tmp 3) ?_ (N+2) ?_ _ _ _ ((show Ext E c from z).keep d4.out) Tryz.underlying26 kz <;> rfl
  try simp only [Act.put,pq]
  refine rE [1,3] ?_;refine Q1.cons rfl (fun K hK=>?_) (Q1.cons rfl (fun K hK=>?_) Q1.nil)
  ·refine iw rfl ?_;rw [<-a8.out];unfold X3;go_simp;obtain⟨o,j⟩:=zE (I.alloc (.cells (X3 g0 g1) 50));have Y:o.heap[I.heap.size]?=some (.cells y 50 (0,0)):=by rw [<-j,<-a8.out];exact new_at rfl
   have R:Ext E o:=by rw [<-j];exact a0.alloc _
   have g5:Ext I o:=by rw [<-j];exact(Q0.refl _ _).alloc _
   unfold X3 at j;rw [j];obtain⟨d6,G⟩:=zE I.heap.size;rw [G] at Y ⊢;clear j G;refine hK _ _ R (fun _=>?_);clear hK K;try simp only [Act.put,pq]
   refine tkE (i:=4) (d:=5) (v:=?_) rfl (Or.inl ⟨by rfl,?_⟩) R ?_;rotate_left
   ·intro c z;(try dsimp only at z);go_simp;try with_reducible rfl
   try simp only [Act.put,pq]
   refine rE [3] ?_;refine Q1.cons rfl (fun K hK=>?_) Q1.nil;refine iw rfl ?_;go_simp;obtain⟨X,j⟩:=zE (o.alloc (.cells #[.int .u32 5,.int .u32 2] 26));have Z:X.heap[o.heap.size]?=some (.cells #[.int .u32 5,.int .u32 2] 26 (0,0)):=by rw [<-j];exact new_at rfl
   have H:Ext E X:=by rw [<-j];exact R.alloc _
   have c1:Ext o X:=by rw [<-j];exact(Q0.refl _ _).alloc _
   rw [j];obtain⟨d7,G⟩:=zE o.heap.size;rw [G] at Z ⊢;clear j G;refine hK _ _ H (fun _=>?_);clear hK K;try simp only [Act.put,pq]
   refine tkE (i:=5) (d:=6) (v:=?_) rfl (Or.inl ⟨by rfl,?_⟩) H ?_;rotate_left
   ·intro c z;(try dsimp only at z);go_simp;try with_reducible rfl
   try simp only [Act.put,pq]
   refine Qp kz ?_ _;obtain⟨e4,e5,e6⟩:=Zh3 (c1.keep Y) Z H;clear Y Z a0 R H g5 c1;go_wp2
   go_meet
   case rel=>exact⟨d6,d7,rfl,rfl,e4.out,e5.out,e6.out⟩
  ·refine iw rfl ?_;go_simp;obtain⟨o,j⟩:=zE (I.alloc (.cells #[.int .u32 5,.int .u32 2] 26));have Y:o.heap[I.heap.size]?=some (.cells #[.int .u32 5,.int .u32 2] 26 (0,0)):=by rw [<-j];exact new_at rfl
   have R:Ext E o:=by rw [<-j];exact a0.alloc _
   have g5:Ext I o:=by rw [<-j];exact(Q0.refl _ _).alloc _
   rw [j];obtain⟨d6,G⟩:=zE I.heap.size;rw [G] at Y ⊢;clear j G;refine hK _ _ R (fun _=>?_);clear hK K;try simp only [Act.put,pq]
   refine rE [1] ?_;refine Q1.cons rfl (fun K hK=>?_) Q1.nil;refine iw rfl ?_;rw [<-a8.out];unfold X3;go_simp;obtain⟨X,j⟩:=zE (o.alloc (.cells (X3 g0 g1) 50));have Z:X.heap[o.heap.size]?=some (.cells y 50 (0,0)):=by rw [<-j,<-a8.out];exact new_at rfl
   have H:Ext E X:=by rw [<-j];exact R.alloc _
   have c1:Ext o X:=by rw [<-j];exact(Q0.refl _ _).alloc _
   unfold X3 at j;rw [j];obtain⟨d7,G⟩:=zE o.heap.size;rw [G] at Z ⊢;clear j G;refine hK _ _ H (fun _=>?_);clear hK K;try simp only [Act.put,pq]
   refine tkE (i:=4) (d:=5) (v:=?_) rfl (Or.inl ⟨by rfl,?_⟩) H ?_;rotate_left
   ·intro c z;(try dsimp only at z);go_simp;try with_reducible rfl
   try simp only [Act.put,pq]
   refine tkE (i:=5) (d:=6) (v:=?_) rfl (Or.inl ⟨by rfl,?_⟩) H ?_;rotate_left
   ·intro c z;(try dsimp only at z);go_simp;try with_reducible rfl
   try simp only [Act.put,pq]
   refine Qp kz ?_ _;obtain⟨e4,e5,e6⟩:=Zh3 (c1.keep Y) Z H;clear Y Z a0 R H g5 c1;go_wp2
   go_meet
   case rel=>exact⟨d7,d6,rfl,rfl,e5.out,e4.out,e6.out⟩
 obtain⟨d0,c9,rfl,rfl,g6,g7,Q⟩:=hcut;clear e1 j5;generalize wc=J at g6 g7 Q ⊢;have m9:Z9 J (.slice (some ⟨d0,0,none⟩) 1 1) [(v15,y.toList)]:=by
  refine⟨Zm (xs:=([(v15,y.toList)]:Zw).flatMap (·.2)) (by simpa using g6) (by simp [e2.out]) (by unfold maxLen;simp),fun p hp=>?_⟩;rw [List.mem_singleton] at hp;subst hp;exact i9.out.ext Q
 have n4:Q4 J (.slice (some ⟨c9,0,none⟩) 1 1) [(5,2)]:=⟨Zm (xs:=Ql [(5,2)]) g7 rfl zd,by simp [Qw]⟩;have m3:Tab J:=j9.out.keep (d5.out.trans Q) id;obtain⟨c2,U,c3,W,a2,a3,n6⟩:=Zh7 m9 n4 m3 (Q.keep i3.out) (Q.keep i4.out) (Q.keep d4.out) (d5.out.trans Q);clear m9 n4 m3 g6 g7 Q i3 i4 d4 i5 i9 j9 d5 a8 e2 n8
 -- Outcome
 have o1:J.cell? ⟨N,0,none⟩=some (.int .u32 2):=by rw [cell_of_row J N 0 _ _ _ W.out];rfl
 have o2:J.cell? ⟨N,1,none⟩=some (.int .u32 5):=by rw [cell_of_row J N 1 _ _ _ W.out];rfl
 have b6:=Sf (s:=(2,5)) c2.out rfl U.out U.out ⟨by decide,by decide⟩ c3.out;simp only [List.map_cons,List.map_nil] at b6;rw [Ep.1,Ep.2] at b6;unfold sV at b6;have j4:=Zh b6;clear b6;go_wp2_with fail;refine j4.out.mono ?_;rintro e r ⟨v,rfl,b9,m1⟩;obtain⟨p2,p1,rfl,n3⟩:=Jm b9;have e3:=Zh n3;have M:=Zh m1;clear j4 b9 n3 m1 o1 o2;rw [show ([(5,2),(3,4),(5,2)]:Wd).length=3 from rfl] at e3 ⊢;have f8:r.cell? ⟨N,0,none⟩=some (.int .u32 2):=by rw [cell_of_row r N 0 _ _ _ (Ext.keep M.out W.out)];rfl
 have f9:r.cell? ⟨N,1,none⟩=some (.int .u32 5):=by rw [cell_of_row r N 1 _ _ _ (Ext.keep M.out W.out)];rfl
 have b1:r.cell? ⟨N+1,0,none⟩=some (.int .u32 3):=by rw [cell_of_row r (N+1) 0 _ _ _ (Ext.keep M.out a2.out)];rfl
 have b2:r.cell? ⟨N+1,1,none⟩=some (.int .u32 4):=by rw [cell_of_row r (N+1) 1 _ _ _ (Ext.keep M.out a2.out)];rfl
 have b3:r.cell? ⟨N+2,0,none⟩=some (.int .u32 5):=by rw [cell_of_row r (N+2) 0 _ _ _ (Ext.keep M.out a3.out)];rfl
 have b4:r.cell? ⟨N+2,1,none⟩=some (.int .u32 2):=by rw [cell_of_row r (N+2) 1 _ _ _ (Ext.keep M.out a3.out)];rfl
 obtain⟨c6,a⟩:=zE (r.alloc (.cells #[.int .u32 2,.int .u32 5,.int .u32 3,.int .u32 4,.int .u32 5,.int .u32 2] 26));have f:Ext r c6:=by rw [<-a];exact(Q0.refl _ _).alloc _
 obtain⟨O,m⟩:=zE r.heap.size;have l:c6.heap[O]?=some (.cells #[.int .u32 2,.int .u32 5,.int .u32 3,.int .u32 4,.int .u32 5,.int .u32 2] 26 (0,0)):=by rw [<-a];exact new_at m.symm
 have T:Q4 c6 (.slice (some ⟨O,0,none⟩) 3 3) [(2,5),(3,4),(5,2)]:=⟨Zm (xs:=Ql [(2,5),(3,4),(5,2)]) l rfl zd,by simp [Qw]⟩;have A:Ext J c6:=M.out.trans f;have L:=Dm (c2.out.ext A) rfl (U.out.ext A) (U.out.ext A) T rfl (Nat.le_refl 3) (c3.out.keep A id);simp only [List.map_cons,List.map_nil] at L;rw [Mu.1,Mu.2,Q1w] at L;obtain⟨a7,b0,k,k5⟩:=Zh4 L A a (e3.out.ext f);clear L A a f l T e3;go_wp2_with fail;try rw [k.out]
 refine a7.out.mono ?_;rintro e q ⟨p0,o9,rfl,b8,g3⟩;obtain⟨d9,P,k0⟩:=Zh3 (Rd.of_own b8) (b0.out.trans g3) (k5.out.ext g3);clear a7 b8 g3 b0 k k5 m;clear f8 f9 b1 b2 b3 b4;rw [show ([[(5,2),(3,4),(5,2)],[(5,2),(3,4),(5,2)],[(5,2),(5,2),(5,2)]]:List Wd).length=3 from rfl] at d9 ⊢;have f8:q.cell? ⟨N,0,none⟩=some (.int .u32 2):=by rw [cell_of_row q N 0 _ _ _ (Ext.keep P.out W.out)];rfl
 have f9:q.cell? ⟨N,1,none⟩=some (.int .u32 5):=by rw [cell_of_row q N 1 _ _ _ (Ext.keep P.out W.out)];rfl
 have b1:q.cell? ⟨N+1,0,none⟩=some (.int .u32 3):=by rw [cell_of_row q (N+1) 0 _ _ _ (Ext.keep P.out a2.out)];rfl
 have b2:q.cell? ⟨N+1,1,none⟩=some (.int .u32 4):=by rw [cell_of_row q (N+1) 1 _ _ _ (Ext.keep P.out a2.out)];rfl
 have b3:q.cell? ⟨N+2,0,none⟩=some (.int .u32 5):=by rw [cell_of_row q (N+2) 0 _ _ _ (Ext.keep P.out a3.out)];rfl
 have b4:q.cell? ⟨N+2,1,none⟩=some (.int .u32 2):=by rw [cell_of_row q (N+2) 1 _ _ _ (Ext.keep P.out a3.out)];rfl
 obtain⟨c4,a⟩:=zE (q.alloc (.cells #[.int .u32 2,.int .u32 5,.int .u32 3,.int .u32 4,.int .u32 5,.int .u32 2] 26));have f:Ext q c4:=by rw [<-a];exact(Q0.refl _ _).alloc _
 obtain⟨O,m⟩:=zE q.heap.size;have l:c4.heap[O]?=some (.cells #[.int .u32 2,.int .u32 5,.int .u32 3,.int .u32 4,.int .u32 5,.int .u32 2] 26 (0,0)):=by rw [<-a];exact new_at m.symm
 have T:Q4 c4 (.slice (some ⟨O,0,none⟩) 3 3) [(2,5),(3,4),(5,2)]:=⟨Zm (xs:=Ql [(2,5),(3,4),(5,2)]) l rfl zd,by simp [Qw]⟩;have A:Ext J c4:=P.out.trans f;have L:=S2 (c2.out.ext A) rfl (U.out.ext A) (U.out.ext A) T rfl (Nat.le_refl 3) (c3.out.keep A id);simp only [List.map_cons,List.map_nil] at L;rw [Mu.1,Q3n] at L;obtain⟨a7,b0,k,k1,j0⟩:=Zh5 L A a (k0.out.ext f) (d9.out.ext f);clear L A a f l T k0 d9;go_wp2_with fail;try rw [k.out]
 refine a7.out.mono ?_;rintro e e7 ⟨o8,g4,rfl,b8,d1⟩;obtain⟨e0,l3,k2,j1⟩:=Zh4 (Rd.of_own b8) (b0.out.trans d1) (k1.out.ext d1) (j0.out.ext d1);clear a7 b8 d1 b0 k k1 j0 m c2 U c3;clear f8 f9 b1 b2 b3 b4;rw [show ([1,1,2]:List Int).length=3 from rfl] at e0 ⊢;obtain⟨e8,a⟩:=zE (e7.alloc (.cells #[.int .i64 1,.int .i64 2,.int .i64 (-1),.int .i64 3] 3));have f:Ext e7 e8:=by rw [<-a];exact(Q0.refl _ _).alloc _
 obtain⟨O,m⟩:=zE e7.heap.size;have l:e8.heap[O]?=some (.cells #[.int .i64 1,.int .i64 2,.int .i64 (-1),.int .i64 3] 3 (0,0)):=by rw [<-a];exact new_at m.symm
 have g2:=Dn (w:=e8) (ao:=some ⟨O,0,none⟩) (N:=4) (cap:=4) (sh:=[1,2,-1,3]) (Zm (xs:=Qh [1,2,-1,3]) l rfl zd) rfl;rw [P1.1,P1.2] at g2;obtain⟨a1,l4,k,k3,j2,j7⟩:=Zh6 g2 (Q0.trans l3.out f) a (k2.out.ext f) (j1.out.ext f) (e0.out.ext f);clear g2 a f l k2 j1 e0 l3;go_wp2_with fail;try rw [k.out]
 refine a1.out.mono ?_;rintro e u ⟨o6,rfl,m5,b5⟩;obtain⟨o7,⟨_,_,o5,o4,rfl,m6⟩,m7⟩:=m5.rd;obtain⟨l9,n5,rfl,_,d3⟩:=m6 zd;have a6:=d3 0 zd;obtain⟨g8,g9,n0,c0⟩:=m7 0 zd;rw [n0] at a6;obtain⟨a9,k4,j3,j8,i7,j6⟩:=Zh6 (Q0.trans l4.out b5) (k3.out.ext b5) (j2.out.ext b5) (j7.out.ext b5) a6 c0;clear a1 m5 b5 l4 k k3 j2 j7 m m6 m7 d3 a6 c0 n0;have a6:u.cell? ⟨l9,n5,none⟩=some (.slice g8 3 g9):=i7.out;have c0:Rd u (.slice g8 3 g9) 3 1 (Qh [0,1,2]):=j6.out;have n7:=Zh a6;have n9:=Zh c0;rw [show ([[0,1,2]]:List (List Int)).length=1 from rfl];clear i7 j6 a6 c0 M P W;have b1:u.cell? ⟨N+1,0,none⟩=some (.int .u32 3):=by rw [cell_of_row u (N+1) 0 _ _ _ (Ext.keep a9.out a2.out)];rfl
 have b2:u.cell? ⟨N+1,1,none⟩=some (.int .u32 4):=by rw [cell_of_row u (N+1) 1 _ _ _ (Ext.keep a9.out a2.out)];rfl
 have b3:u.cell? ⟨N+2,0,none⟩=some (.int .u32 5):=by rw [cell_of_row u (N+2) 0 _ _ _ (Ext.keep a9.out a3.out)];rfl
 have b4:u.cell? ⟨N+2,1,none⟩=some (.int .u32 2):=by rw [cell_of_row u (N+2) 1 _ _ _ (Ext.keep a9.out a3.out)];rfl
 obtain⟨e9,a⟩:=zE (u.alloc (.cells #[.int .u32 5,.int .u32 2,.int .u32 3,.int .u32 4,.int .u32 5,.int .u32 2] 26));have f:Ext u e9:=by rw [<-a];exact(Q0.refl _ _).alloc _
 obtain⟨k6,m⟩:=zE u.heap.size;have l:e9.heap[k6]?=some (.cells #[.int .u32 5,.int .u32 2,.int .u32 3,.int .u32 4,.int .u32 5,.int .u32 2] 26 (0,0)):=by rw [<-a];exact new_at m.symm
 have T:Q4 e9 (.slice (some ⟨k6,0,none⟩) 3 3) [(5,2),(3,4),(5,2)]:=⟨Zm (xs:=Ql [(5,2),(3,4),(5,2)]) l rfl zd,by simp [Qw]⟩;have t:=Q7e (k4.out.ext f) T;rw [decide_eq_true (rfl:([(5,2),(3,4),(5,2)]:Wd)=[(5,2),(3,4),(5,2)])] at t;obtain⟨D,k,C⟩:=Zh3 t a f;clear t a f l T k4;go_wp2_with fail;try rw [k.out]
 refine D.out.mono ?_;rintro e f0 ⟨rfl,F⟩;have f2:=Zh (Q0.trans C.out F);clear D k C F b1 b2 b3 b4;obtain⟨l0,a⟩:=zE (f0.alloc (.cells #[.int .i64 0,.int .i64 0,.int .i64 2] 3));have f:Ext f0 l0:=by rw [<-a];exact(Q0.refl _ _).alloc _
 obtain⟨k7,m⟩:=zE f0.heap.size;have l:l0.heap[k7]?=some (.cells #[.int .i64 0,.int .i64 0,.int .i64 2] 3 (0,0)):=by rw [<-a];exact new_at m.symm
 have t:=Sj (us:=[0,0,2]) (vs:=[0,0,2]) (j3.out.ext (Q0.trans f2.out f)) (Zm (g:=k7) (n:=3) (cap:=3) (xs:=Qh [0,0,2]) l rfl zd);rw [decide_eq_true (rfl:([0,0,2]:List Int)=[0,0,2])] at t;obtain⟨D,k,C⟩:=Zh3 t a f;clear t a f l;go_wp2_with fail;try rw [k.out]
 refine D.out.mono ?_;rintro e f1 ⟨rfl,F⟩;have f3:=Zh (Q0.trans f2.out (Q0.trans C.out F));clear D k C F f2 j3 m;obtain⟨l1,a⟩:=zE (f1.alloc (.cells #[.int .i64 1,.int .i64 1,.int .i64 2] 3));have f:Ext f1 l1:=by rw [<-a];exact(Q0.refl _ _).alloc _
 obtain⟨k8,m⟩:=zE f1.heap.size;have l:l1.heap[k8]?=some (.cells #[.int .i64 1,.int .i64 1,.int .i64 2] 3 (0,0)):=by rw [<-a];exact new_at m.symm
 have t:=Sj (us:=[1,1,2]) (vs:=[1,1,2]) (j8.out.ext (Q0.trans f3.out f)) (Zm (g:=k8) (n:=3) (cap:=3) (xs:=Qh [1,1,2]) l rfl zd);rw [decide_eq_true (rfl:([1,1,2]:List Int)=[1,1,2])] at t;obtain⟨D,k,C⟩:=Zh3 t a f;clear t a f l;go_wp2_with fail;try rw [k.out]
 refine D.out.mono ?_;rintro e c5 ⟨rfl,F⟩;have c7:=Zh (Q0.trans f3.out (Q0.trans C.out F));clear D k C F f3 j8 m;have d3:c5.cell? ⟨l9,n5,none⟩=some (.slice g8 3 g9):=Q0.cell_some c7.out n7.out id;obtain⟨l2,a⟩:=zE (c5.alloc (.cells #[.int .i64 0,.int .i64 1,.int .i64 2] 3));have f:Ext c5 l2:=by rw [<-a];exact(Q0.refl _ _).alloc _
 obtain⟨k9,m⟩:=zE c5.heap.size;have l:l2.heap[k9]?=some (.cells #[.int .i64 0,.int .i64 1,.int .i64 2] 3 (0,0)):=by rw [<-a];exact new_at m.symm
 have t:=Sj (us:=[0,1,2]) (vs:=[0,1,2]) (n9.out.ext (Q0.trans c7.out f)) (Zm (g:=k9) (n:=3) (cap:=3) (xs:=Qh [0,1,2]) l rfl zd);rw [decide_eq_true (rfl:([0,1,2]:List Int)=[0,1,2])] at t;obtain⟨D,k,C⟩:=Zh3 t a f;clear t a f l;go_wp2_with fail;try rw [k.out]
 refine D.out.mono ?_;rintro e o3 ⟨rfl,F⟩;have o0:=Zh (Q0.trans n6.out (Q0.trans a9.out (Q0.trans c7.out (Q0.trans C.out F))));clear D k C F c7 d3;go_wp2;go_ret;exact⟨rfl,o0.out⟩
end Go.Proofs.YtejenndedjabhaaGreatDoor
