/- Compiled patterns in memory; sound.in, edge.in. -/
import Derived.Test.YtbmbdoanammlgaaDoorP02
import Derived.Test.YtbmbdoanammlgaaDoorP04
import Derived.Test.YtbmbdoanammlgaaDoorP03
set_option maxRecDepth 100000
set_option maxHeartbeats 8000000
namespace Go.Proofs.YtbmbdoanammlgaaDoor
open Go.RowKit Go.Ab
mutual
def Qg(K:Nat->Prop)(w:World):Qp->Value->Prop
 | .sound pl mi nt,v=>v=.iface 83 (.agg #[.int .u32 (pl:Int),.int .u32 (mi:Int),.bool nt])/\pl<4294967296/\mi<4294967296
 | .edge e,v=>v=.iface 85 (.agg #[.bool e])
 | .seq l,v=>∃ ao cap,v=.iface 90 (.agg #[.slice ao l.length cap])/\l.length<=maxLen/\Qm K w l ao 0
 | .alt l,v=>∃ ao cap,v=.iface 87 (.agg #[.slice ao l.length cap])/\l.length<=maxLen/\Qm K w l ao 0
 | .rep p mn mx,v=>∃ u,v=.iface 89 (.agg #[u,.int .i64 mn,.int .i64 mx])/\(0<=mn/\mn<=32/\(mx=-1\/mn<=mx/\mx<=32))/\Qg K w p u
def Qm(K:Nat->Prop)(w:World):List Qp->Option Addr->Nat->Prop
 | [],_,_=>True
 | p::l,ao,i=>(∃ g off u,ao=some ⟨g,off,none⟩/\K g/\g<w.heap.size/\w.cell? ⟨g,off+i,none⟩=some u/\Qg K w p u)/\Qm K w l ao (i+1)
end
theorem Qm.get{K:Nat->Prop}{w:World}:∀ {l:List Qp} {ao:Option Addr} {i:Nat},Qm K w l ao i->∀ j (h:j<l.length),∃ g off u,ao=some ⟨g,off,none⟩/\K g/\g<w.heap.size/\w.cell? ⟨g,off+(i+j),none⟩=some u/\Qg K w l[j] u
 | [],_,_,_,j,h=>by simp at h
 | p::l,ao,i,h,0,_=>by unfold Qm at h;exact h.1
 | p::l,ao,i,h,j+1,hj=>by
  unfold Qm at h;have:=Qm.get h.2 j (by simpa using hj);rw [show i+(j+1)=i+1+j by omega];exact this
theorem Qm.mk{K:Nat->Prop}{w:World}:∀ {l:List Qp} {ao:Option Addr} {i:Nat},(∀ j (h:j<l.length),∃ g off u,ao=some ⟨g,off,none⟩/\K g/\g<w.heap.size/\w.cell? ⟨g,off+(i+j),none⟩=some u/\Qg K w l[j] u)->Qm K w l ao i
 | [],_,_,_=>by unfold Qm;trivial
 | p::l,ao,i,h=>by
  unfold Qm;refine⟨h 0 zy,Qm.mk fun j hj=>?_⟩;have:=h (j+1) (by simpa using hj);rw [show i+(j+1)=i+1+j by omega] at this;exact this
mutual
theorem Qg.keep{K S:Nat->Prop}{A B:World}(ht:Q1 S A B)(hS:∀ g,K g->¬ S g):∀ {p:Qp} {v:Value},Qg K A p v->Qg K B p v
 | .sound pl mi nt,v,h=>by unfold Qg at h ⊢;exact h
 | .edge e,v,h=>by unfold Qg at h ⊢;exact h
 | .seq l,v,h=>by
  unfold Qg at h ⊢;obtain⟨ao,cap,h1,h2,h3⟩:=h;exact⟨ao,cap,h1,h2,Qm.keep ht hS h3⟩
 | .alt l,v,h=>by
  unfold Qg at h ⊢;obtain⟨ao,cap,h1,h2,h3⟩:=h;exact⟨ao,cap,h1,h2,Qm.keep ht hS h3⟩
 | .rep p mn mx,v,h=>by
  unfold Qg at h ⊢;obtain⟨u,h1,h2,h3⟩:=h;exact⟨u,h1,h2,Qg.keep ht hS h3⟩
theorem Qm.keep{K S:Nat->Prop}{A B:World}(ht:Q1 S A B)(hS:∀ g,K g->¬ S g):∀ {l:List Qp} {ao:Option Addr} {i:Nat},Qm K A l ao i->Qm K B l ao i
 | [],_,_,_=>by unfold Qm;trivial
 | p::l,ao,i,h=>by
  unfold Qm at h ⊢;obtain⟨⟨g,off,u,h1,h2,h3,h4,h5⟩,h6⟩:=h;exact⟨⟨g,off,u,h1,h2,Nat.lt_of_lt_of_le h3 ht.size,ht.cell_some h4 (hS g h2),Qg.keep ht hS h5⟩,Qm.keep ht hS h6⟩
end
theorem Qg.ext{K:Nat->Prop}{A B:World}{p:Qp}{v:Value}(h:Qg K A p v)(ht:Ext A B):Qg K B p v:=h.keep ht fun _ _ h=>h
theorem Qm.ext{K:Nat->Prop}{A B:World}{l:List Qp}{ao:Option Addr}{i:Nat}(h:Qm K A l ao i)(ht:Ext A B):Qm K B l ao i:=h.keep ht fun _ _ h=>h
mutual
theorem Qg.mono{K L:Nat->Prop}{A:World}(hK:∀ g,g<A.heap.size->K g->L g):∀ {p:Qp} {v:Value},Qg K A p v->Qg L A p v
 | .sound pl mi nt,v,h=>by unfold Qg at h ⊢;exact h
 | .edge e,v,h=>by unfold Qg at h ⊢;exact h
 | .seq l,v,h=>by
  unfold Qg at h ⊢;obtain⟨ao,cap,h1,h2,h3⟩:=h;exact⟨ao,cap,h1,h2,Qm.mono hK h3⟩
 | .alt l,v,h=>by
  unfold Qg at h ⊢;obtain⟨ao,cap,h1,h2,h3⟩:=h;exact⟨ao,cap,h1,h2,Qm.mono hK h3⟩
 | .rep p mn mx,v,h=>by
  unfold Qg at h ⊢;obtain⟨u,h1,h2,h3⟩:=h;exact⟨u,h1,h2,Qg.mono hK h3⟩
theorem Qm.mono{K L:Nat->Prop}{A:World}(hK:∀ g,g<A.heap.size->K g->L g):∀ {l:List Qp} {ao:Option Addr} {i:Nat},Qm K A l ao i->Qm L A l ao i
 | [],_,_,_=>by unfold Qm;trivial
 | p::l,ao,i,h=>by
  unfold Qm at h ⊢;obtain⟨⟨g,off,u,h1,h2,h3,h4,h5⟩,h6⟩:=h;exact⟨⟨g,off,u,h1,hK g h3 h2,h3,h4,Qg.mono hK h5⟩,Qm.mono hK h6⟩
end
def Yu(w:Wd)(c:Nat × Nat)(nt:Bool)(k:Nat):Nat->Nat:=fun a=>if a<k then Q3 (Z5 w c nt) a else 0
theorem Dd{w:Wd}{c:Nat × Nat}{nt:Bool}{a:Nat}(g:w.length<=32)(f:a<w.length):Q3 (Z5 w c nt) a=if sat (w.getD a (0,0)) c != nt then 2 ^ (a+1) else 0:=by
 by_cases d:(sat (w.getD a (0,0)) c != nt)=true
 ·rw [if_pos d,Je (n:=33) oz]
  exact Xe fun i _=>by
   apply Bool.eq_iff_iff.2;simp only [Z5,d,f,decide_true,Bool.and_true,beq_iff_eq]
 ·have d:(sat (w.getD a (0,0)) c != nt)=false:=by simpa using d
  rw [d,if_neg zy];have e:Z5 w c nt a=fun _=>false:=by funext b;simp only [Z5,d,Bool.and_false]
  rw [Q3,e,X9]
theorem Lj{w:World}{pl mi:Nat}{nt:Bool}(c7:pl<4294967296)(c6:mi<4294967296){v:Value}{ws:Wd}(B:Qw w v ws)(a9:ws.length<=32) :
  Calls Tryd.prog 61 #[.agg #[.int .u32 (pl:Int),.int .u32 (mi:Int),.bool nt],v] w fun e w'=>e=.returned (.agg (Q4 (Q3 (Z5 ws (pl,mi) nt))))/\Ext w w':=by
 have d4:=Zg;have d5:=Qi noB;have d6:=Z6 noB;obtain⟨c0,c2,rfl,_⟩:=B.slice;obtain⟨m,M⟩:=zE ws.length;have F:=Zh M;rw [M] at a9 B ⊢;clear M;go_enter Tryd.func61,Tryd.ntmps61;go_wp2;clear d4 d5 d6;obtain⟨f,A⟩:=zE w.heap.size;have q:((w.alloc (.cells #[.int .u32 (pl:Int),.int .u32 (mi:Int),.bool nt] 83)).alloc (.cells (Q6 noB) 58)).heap[f]?=some (.cells #[.int .u32 (pl:Int),.int .u32 (mi:Int),.bool nt] 83 (0,0)):=by
  subst A;exact Qs (Q9 rfl)
 have l:Q8 ((w.alloc (.cells #[.int .u32 (pl:Int),.int .u32 (mi:Int),.bool nt] 83)).alloc (.cells (Q6 noB) 58)) (f+1) (Yu ws (pl,mi) nt 0):=by
  subst A;refine(Q9 zy).trans ?_;rw [Yc,Qx (g:=Yu ws (pl,mi) nt 0) fun a _=>by rw [Yy];simp [Yu]]
 have n:Ext w ((w.alloc (.cells #[.int .u32 (pl:Int),.int .u32 (mi:Int),.bool nt] 83)).alloc (.cells (Q6 noB) 58)):=((Q1.refl _ w).alloc _).alloc _;generalize ((w.alloc (.cells #[.int .u32 (pl:Int),.int .u32 (mi:Int),.bool nt] 83)).alloc (.cells (Q6 noB) 58))=d3 at q l n ⊢;rw [A];have U:=Zh A;have e1:f+1<d3.heap.size:=l.lt;clear A
 refine wp_loop (fun a j=>∃(k:Nat),k<=m/\a.defers=[]/\(a.tmps.size=38/\a.tmps.getD 2 undef=.pointer (some ⟨f,0,none⟩)/\a.tmps.getD 4 undef=.pointer (some ⟨f+1,0,none⟩)/\a.tmps.getD 7 undef=.slice c0 m c2/\a.tmps.getD 8 undef=.int .i64 m/\a.tmps.getD 9 undef=.int .i64 k) /\
   j.heap[f]?=some (.cells #[.int .u32 (pl:Int),.int .u32 (mi:Int),.bool nt] 83 (0,0))/\Q8 j (f+1) (Yu ws (pl,mi) nt k)/\Ext w j)
  (fun a _=>m - (intOf (a.tmps.getD 9 undef)).toNat) ?_ ?_
 ·exact⟨0,by omega,rfl,⟨rfl,rfl,rfl,rfl,rfl,rfl⟩,q,l,n⟩
 clear q l n;rintro⟨d1,_⟩ j ⟨k,e4,c4,⟨b6,G,H,I,J,K⟩,q,l,n⟩;subst c4;obtain⟨d2,b7⟩:=Zb b6;obtain⟨d,rfl⟩:∃ x,x=d2:=⟨_,rfl⟩;have c9:d1=#[d 0,d 1,d 2,d 3,d 4,d 5,d 6,d 7,d 8,d 9,d 10,d 11,d 12,d 13,d 14,d 15,d 16,d 17,d 18,d 19,d 20,d 21,d 22,d 23,d 24,d 25,d 26,d 27,d 28,d 29,d 30,d 31,d 32,d 33,d 34,d 35,d 36,d 37]:=b7;clear b7;subst c9;change d 2=_ at G;change d 4=_ at H;change d 7=_ at I;change d 8=_ at J;change d 9=_ at K;rw [G,H,I,J,K];clear G H I J K b6;by_cases c5:k<m
 ·have L:(k:Int)<(m:Int):=by omega
  have a3:(k:Int)<33:=by omega
  have e0:(k:Int)+1<64:=by omega
  have P:k<ws.length:=by rw [F.out];exact c5
  obtain⟨g,e5,d8,a6,e3,a1,a2⟩:=(B.ext n).at P;simp only [zV] at a6;obtain⟨rfl,c8,rfl⟩:=a6;clear c8;obtain⟨S,T⟩:=B.2.get k P;have p:=Dd (c:=(pl,mi)) (nt:=nt) (by rw [F.out];exact a9) P;obtain⟨s,b2⟩:=zE (ws.getD k (0,0));rw [b2] at a1 a2 S T p;have Q:=Lw (s:=s) (c:=(pl,mi)) S T c7 c6;obtain⟨u,b1⟩:=zE (sat s (pl,mi));rw [b1] at Q p;obtain⟨t,b4⟩:=zE s.1;obtain⟨r,b3⟩:=zE s.2;rw [b4] at a1 S Q;rw [b3] at a2 T Q;have z:Yu ws (pl,mi) nt k k=0:=by unfold Yu;rw [if_neg oz]
  have d0:=G1 (k:=k+1) oz;have D:Ext j (j.alloc (.cells #[.int .u32 (t:Int),.int .u32 (r:Int)] 25)):=(Q1.refl _ j).alloc _;have C:=D.heap q id;have E:=l.keep D id;have a4:=n.trans D;have e6:(j.alloc (.cells #[.int .u32 (t:Int),.int .u32 (r:Int)] 25)).cell? ⟨f,0,none⟩=some (.int .u32 (pl:Int)):=by rw [cell_of_row _ _ _ _ _ _ C];rfl
  have e7:(j.alloc (.cells #[.int .u32 (t:Int),.int .u32 (r:Int)] 25)).cell? ⟨f,1,none⟩=some (.int .u32 (mi:Int)):=by rw [cell_of_row _ _ _ _ _ _ C];rfl
  have e8:(j.alloc (.cells #[.int .u32 (t:Int),.int .u32 (r:Int)] 25)).cell? ⟨f,2,none⟩=some (.bool nt):=by rw [cell_of_row _ _ _ _ _ _ C];rfl
  have c1:=E.cell (a:=k) oz;rw [z] at c1;have d9:=E.free k;obtain⟨y,N⟩:=zE (2 ^ (k+1));rw [N] at d0 p;have b5:=(l.store k y).keep (Q1.alloc (Q1.refl (fun _=>False) _) (.cells #[.int .u32 (t:Int),.int .u32 (r:Int)] 25)) id;have O:=(Q1.set1 j (f+1) k (.int .u64 (y:Int))).alloc (.cells #[.int .u32 (t:Int),.int .u32 (r:Int)] 25);have b8:=O.heap q oz;have a5:=n.after O (fun b' L a3=>by have:=U.out;omega);have e2:f+1<j.heap.size:=l.lt
  have b9:(u != nt)=true->(fun i=>if i=k then y else Yu ws (pl,mi) nt k i)=Yu ws (pl,mi) nt (k+1):=fun hh=>by
   funext i
   by_cases e:i=k
   ·subst e;rw [if_pos rfl];unfold Yu;rw [if_pos oz,p,if_pos hh]
   ·rw [if_neg e];unfold Yu;by_cases o:i<k
    ·rw [if_pos o,if_pos oz]
    ·rw [if_neg o,if_neg oz]
  have b0:(u != nt)=false->Yu ws (pl,mi) nt k=Yu ws (pl,mi) nt (k+1):=fun hh=>by
   funext i;unfold Yu
   by_cases e:i=k
   ·subst e;rw [if_neg oz,if_pos oz,p,hh];rfl
   ·by_cases o:i<k
    ·rw [if_pos o,if_pos oz]
    ·rw [if_neg o,if_neg oz]
  have a8:(u != nt)=true->Q8 ((j.setCell ⟨f+1,k,none⟩ (.int .u64 (y:Int))).alloc (.cells #[.int .u32 (t:Int),.int .u32 (r:Int)] 25)) (f+1) (Yu ws (pl,mi) nt (k+1)):=fun hh=>by rw [<-b9 hh];exact b5
  have a7:(u != nt)=false->Q8 (j.alloc (.cells #[.int .u32 (t:Int),.int .u32 (r:Int)] 25)) (f+1) (Yu ws (pl,mi) nt (k+1)):=fun hh=>by rw [<-b0 hh];exact E
  have d7:=Zh N;clear N;obtain⟨Y,X,a0,W,Z,V⟩:=Zh6 a8 a7 b8 a5 C a4;clear a8 a7 b8 a5 C a4 b9 b0 b5 O E D z b2 b1 b4 b3 p q l n B;cases u <;> cases nt
  ·go_wp2;exact⟨⟨k+1,by omega,by simp,Z.out,X.out rfl,V.out⟩,nz⟩
  ·go_wp2;exact⟨⟨k+1,by omega,by simp,a0.out,Y.out rfl,W.out⟩,nz⟩
  ·go_wp2;exact⟨⟨k+1,by omega,by simp,a0.out,Y.out rfl,W.out⟩,nz⟩
  ·go_wp2;exact⟨⟨k+1,by omega,by simp,Z.out,X.out rfl,V.out⟩,nz⟩
 ·obtain rfl:k=m:=by omega
  have L:¬ (k:Int)<(k:Int):=by omega
  have z:Q4 (Yu ws (pl,mi) nt k)=Q4 (Q3 (Z5 ws (pl,mi) nt)):=Qx fun a _=>by
   unfold Yu;by_cases o:a<k
   ·rw [if_pos o]
   ·rw [if_neg o];have e:Z5 ws (pl,mi) nt a=fun _=>false:=by
     funext b
     have:=F.out;simp only [Z5,show ¬ a<ws.length by omega,decide_false,Bool.and_false,Bool.false_and]
    rw [Q3,e,X9]
  have R:Q8 j (f+1) (Q3 (Z5 ws (pl,mi) nt)):=by unfold Q8;rw [<-z];exact l
  have p:=Q8.row (g:=Q3 (Z5 ws (pl,mi) nt)) R;have c3:=n.after (Q1.setRow j (f+1) (Q4 (Q3 (Z5 ws (pl,mi) nt)))) (fun b' L a3=>by have:=U.out;omega);clear l z q
  go_wp2_with (first
   | (refine wpList_load_row rfl 58 (.tmp 4) rfl (f+1) rfl _ _ _ _ R Tryd.underlying58 rfl (Tryd.relInfo _) ?_)
   | (refine wpList_store_row rfl 58 (.tmp 4) (.tmp 37) rfl (f+1) (Q4 (Q3 (Z5 ws (pl,mi) nt))) rfl rfl _ _ R (Tryd.relInfo _) (by simp only [Qa]) (Qh _) ?_))
  exact bodyPost_ret (v:=.agg (Q4 (Q3 (Z5 ws (pl,mi) nt)))) (Zu rfl rfl p) rfl ⟨rfl,c3⟩
theorem Fo{_n a:Nat}(x:Nat)(e:a<33):Q3 (Zy a) x=if x=a then 2 ^ a else 0:=by
 by_cases c:x=a
 ·subst c;rw [if_pos rfl,Je (n:=33) e];exact Xe fun i _=>by simp [Zy]
 ·rw [if_neg c];have d:Zy a x=fun _=>false:=by funext b;simp [Zy,c]
  rw [Q3,d,X9]
theorem Mk{w:World}{j:Bool}{v:Value}{ws:Wd}(L:Qw w v ws)(K:ws.length<=32) :
  Calls Tryd.prog 62 #[.agg #[.bool j],v] w fun e w'=>e=.returned (.agg (Q4 (Q3 (Zy (if j then ws.length else 0)))))/\Ext w w':=by
 have N:=Zg;have O:=Qi noB;have P:=Z6 noB;obtain⟨Q,R,rfl,_⟩:=L.slice;obtain⟨c,F⟩:=zE ws.length;rw [F] at K ⊢;obtain⟨b,r⟩:=zE w.heap.size;have d:Q8 ((w.alloc (.cells #[.bool j] 85)).alloc (.cells (Q6 noB) 58)) (w.heap.size+1) (fun _=>0):=by
  refine(Q9 zy).trans ?_;rw [Yc,Qx (g:=fun _=>0) fun a _=>Yy a]
 have n:Ext w ((w.alloc (.cells #[.bool j] 85)).alloc (.cells (Q6 noB) 58)):=((Q1.refl _ w).alloc _).alloc _;have l:((w.alloc (.cells #[.bool j] 85)).alloc (.cells (Q6 noB) 58)).heap[w.heap.size]?=some (.cells #[.bool j] 85 (0,0)):=Qs (Q9 rfl);obtain⟨p,B,D⟩:=Zh3 d n l;clear F r d n l;go_enter Tryd.func62,Tryd.ntmps62;go_upto_region 1 with (fail)
 have d:=p.out;have n:=B.out;have l:=D.out;clear N O P p B D;generalize ((w.alloc (.cells #[.bool j] 85)).alloc (.cells (Q6 noB) 58))=x at d n l ⊢;obtain⟨b,r⟩:=zE w.heap.size;rw [r] at d l ⊢;have y:=Zh r;clear r;have V:=cell_of_one l
 have E:∀(k:Nat) (f:Nat),2 ^ k=f->k<33->Q8 (x.setCell ⟨b+1,k,none⟩ (.int .u64 (f:Int))) (b+1) (Q3 (Zy k))/\Ext w (x.setCell ⟨b+1,k,none⟩ (.int .u64 (f:Int))):=fun k f t hk=>by
  subst t;have J:=d.store k (2 ^ k);have e:Q4 (fun i=>if i=k then 2 ^ k else 0)=Q4 (Q3 (Zy k)):=Qx fun a _=>(Fo (_n:=0) a hk).symm;refine⟨?_,n.after (Q1.set1 x (b+1) k _) (fun b' h1 h2=>by have:=y.out;omega)⟩;unfold Q8;rw [<-e];exact J
 have C:=Zh E;have p:=Zh d;have S:=d.lt;clear E n;cases j
 ·clear p;have H:=d.cell (a:=0) oz;have I:=d.free 0;obtain⟨m,q⟩:=C.out 0 1 rfl oz;have o:=Zh m;have u:=Q8.row (g:=Q3 (Zy 0)) m;have s:=q.after (Q1.setRow (x.setCell ⟨b+1,0,none⟩ (.int .u64 ((1:Nat):Int))) (b+1) (Q4 (Q3 (Zy 0)))) (fun b' h1 h2=>by have:=y.out;omega);have A:=Zh u;have z:=Zh s;clear d l q u s m
  go_wp2_with (first
   | (refine wpList_load_row rfl 58 (.tmp 4) rfl (b+1) rfl _ _ _ _ o.out Tryd.underlying58 rfl (Tryd.relInfo _) ?_)
   | (refine wpList_store_row rfl 58 (.tmp 4) (.tmp 14) rfl (b+1) (Q4 (Q3 (Zy 0))) rfl rfl _ _ o.out (Tryd.relInfo _) (by simp only [Qa]) (Qh _) ?_))
  exact bodyPost_ret (v:=.agg (Q4 (Q3 (Zy 0)))) (Zu rfl rfl A.out) rfl ⟨rfl,z.out⟩
 ·have T:(c:Int)<33:=by omega
  have U:(c:Int)<64:=by omega
  have M:=G1 (k:=c) oz;obtain⟨f,t⟩:=zE (2 ^ c);rw [t] at M;have G:=Zh t;clear t p;have H:=d.cell (a:=c) oz;have I:=d.free c;obtain⟨m,q⟩:=C.out c f G.out oz;have o:=Zh m;have u:=Q8.row (g:=Q3 (Zy c)) m;have s:=q.after (Q1.setRow (x.setCell ⟨b+1,c,none⟩ (.int .u64 ((f:Nat):Int))) (b+1) (Q4 (Q3 (Zy c)))) (fun b' h1 h2=>by have:=y.out;omega);have A:=Zh u;have z:=Zh s;clear d l q u s m
  go_wp2_with (first
   | (refine wpList_load_row rfl 58 (.tmp 4) rfl (b+1) rfl _ _ _ _ o.out Tryd.underlying58 rfl (Tryd.relInfo _) ?_)
   | (refine wpList_store_row rfl 58 (.tmp 4) (.tmp 14) rfl (b+1) (Q4 (Q3 (Zy c))) rfl rfl _ _ o.out (Tryd.relInfo _) (by simp only [Qa]) (Qh _) ?_))
  exact bodyPost_ret (v:=.agg (Q4 (Q3 (Zy c)))) (Zu rfl rfl A.out) rfl ⟨rfl,z.out⟩
def Xu:Qp->TypeId
 | .sound ..=>83
 | .edge ..=>85
 | .seq ..=>90
 | .alt ..=>87
 | .rep ..=>89
def Ka:Qp->FuncId
 | .sound ..=>61
 | .edge ..=>62
 | .seq ..=>68
 | .alt ..=>63
 | .rep ..=>65
theorem Yb{K:Nat->Prop}{w:World}{p:Qp}{u:Value}(h:Qg K w p u):∃ pay,u=.iface (Xu p) pay:=by
 cases p <;> (unfold Qg at h)
 ·exact⟨_,h.1⟩
 ·exact⟨_,h⟩
 ·obtain⟨b,c,a,_⟩:=h;exact⟨_,a⟩
 ·obtain⟨b,c,a,_⟩:=h;exact⟨_,a⟩
 ·obtain⟨d,a,_⟩:=h;exact⟨_,a⟩
theorem Xt (p : Qp) (a : Value) (w : World) : (method 214 (Xu p) a "ablaut/pats.in").run Tryd.prog w = .ok (Ka p, a) w := by
 cases p <;> kernel_rfl
theorem Ji(p:Qp)(args:Array Value)(w:World):(callFunc (Ka p) args).run Tryd.prog w=.ok (.enter (Ka p) args) w:=by
 cases p
 all_goals first
  | exact enters_of Tryd.func61 kz rfl _ _
  | exact enters_of Tryd.func62 kz rfl _ _
  | exact enters_of Tryd.func68 kz rfl _ _
  | exact enters_of Tryd.func63 kz rfl _ _
  | exact enters_of Tryd.func65 kz rfl _ _
def Ur(p:Qp):Prop:=∀(K:Nat->Prop) (w:World) (pay v:Value) (ws:Wd),Qg K w p (.iface (Xu p) pay)->Qw w v ws->ws.length<=32->Tab w ->
 Calls Tryd.prog (Ka p) #[pay,v] w fun e w'=>e=.returned (.agg (Q4 (Q3 (Zk ws p))))/\Ext w w'
theorem Fu{w:World}(b:Tab w):0<w.heap.size:=by
 have:=b 0 zd;apply Nat.lt_of_not_le;intro a;simp [World.cell?,Array.getElem?_eq_none a] at this
theorem N9(l:List Qp)(b8:∀ p∈l,Ur p):Ur (.seq l):=by
 intro d9 q a0 v y c0 L W b5;unfold Qg at c0;obtain⟨w,x,c1,b9,c2⟩:=c0;simp only [Value.iface.injEq] at c1;obtain⟨_,rfl⟩:=c1;obtain⟨b0,a9,rfl,_⟩:=L.slice;unfold maxLen at b9;obtain⟨e,N⟩:=zE y.length;have a6:=Zh N;rw [N] at W L ⊢;clear N;obtain⟨d,M⟩:=zE l.length;have a5:=Zh M;rw [M] at b9 ⊢;clear M;unfold Zk;show Calls Tryd.prog 68 _ _ _;have a1:=Zg;have a2:=Qi noB;have a3:=Z6 noB;obtain⟨d2,d4,d7,a7⟩:=Zh4 b8 c2 L b5;clear b8 c2 L b5;go_enter Tryd.func68,Tryd.ntmps68;go_wp2_with fail;obtain⟨m,E⟩:=zE q.heap.size;have Y:((q.alloc (.cells #[.slice w d x] 90)).alloc (.cells (Q6 noB) 58)).heap[m]?=some (.cells #[.slice w d x] 90 (0,0)):=by
  subst E;exact Qs (Q9 rfl)
 have t:Q8 ((q.alloc (.cells #[.slice w d x] 90)).alloc (.cells (Q6 noB) 58)) (m+1) (fun _=>0):=by
  subst E;refine(Q9 zy).trans ?_;rw [Yc,Qx (g:=fun _=>0) fun a _=>Yy a]
 have n:Ext q ((q.alloc (.cells #[.slice w d x] 90)).alloc (.cells (Q6 noB) 58)):=((Q1.refl _ q).alloc _).alloc _;generalize ((q.alloc (.cells #[.slice w d x] 90)).alloc (.cells (Q6 noB) 58))=e6 at Y t n ⊢;rw [E];have a4:=Zh E;clear E;refine(Jb e W e6).mono ?_;rintro b1 c ⟨rfl,j⟩;have Z:=j.heap Y id;have B:=t.keep j id;have F:=n.trans j;have O:(c.alloc (.cells (Q6 noB) 58)).heap[c.heap.size]?=some (.cells (Q6 noB) 58 (0,0)):=Q9 rfl;have c9:((c.alloc (.cells (Q6 noB) 58)).setRow c.heap.size (Q4 (Q3 (idB e)))).cell? ⟨m,0,none⟩=some (.slice w d x):=by
  have f2:=(Array.getElem?_eq_some_iff.1 Z).1;refine cell_of_one ((Q1.setRow _ c.heap.size _).heap (Qs Z) oz)
 go_wp2_with (refine wpList_store_row rfl 58 (.tmp 5) (.tmp 11) rfl c.heap.size (Q4 (Q3 (idB e))) rfl rfl _ _ O (Tryd.relInfo _) (by rw [Qi,Qa]) (Qh _) ?_)
 obtain⟨r,s⟩:=zE c.heap.size;have J:Q8 ((c.alloc (.cells (Q6 noB) 58)).setRow c.heap.size (Q4 (Q3 (idB e)))) c.heap.size (Q3 (idB e)):=setRow_heap _ _ _ _ _ _ O;have o:Ext c ((c.alloc (.cells (Q6 noB) 58)).setRow c.heap.size (Q4 (Q3 (idB e)))):=((Q1.refl _ c).alloc _).after (Q1.setRow _ _ _) (fun b' D h2=>by omega);have e2:=B.lt;generalize ((c.alloc (.cells (Q6 noB) 58)).setRow c.heap.size (Q4 (Q3 (idB e))))=f5 at J o c9 ⊢;rw [s] at J e2 ⊢;have G:=B.keep o id;have z:=F.trans o;clear Y t n j Z B F O o s a1 a2 a3 c9
 refine wp_loop (fun a u=>∃(b:Nat),b<=d/\a.defers=[]/\gS a [1,4,5,13,14,15]=(25,[.slice b0 e a9,.pointer (some ⟨m+1,0,none⟩),.pointer (some ⟨r,0,none⟩),.slice w d x,.int .i64 d,.int .i64 b]) /\
   Q8 u (m+1) (fun _=>0)/\Q8 u r (Q3 (X4 y (l.take b) (idB e)))/\Ext q u)
  (fun a _=>d - (intOf (a.tmps.getD 15 undef)).toNat) ?_ ?_
 ·exact⟨0,by omega,rfl,rfl,G,by simpa [X4] using J,z⟩
 clear G J z;rintro⟨f4,_⟩ u ⟨b,f1,e0,c7,t,s,n⟩;subst e0;obtain⟨e5,rfl⟩:=Xx c7;clear c7;have b2:q.heap.size<=r:=by have:=a4.out;omega
 have d0:=Zh b2;clear b2;by_cases e1:b<d
 ·have D:(b:Int)<(d:Int):=by omega
  have V:b<l.length:=by rw [a5.out];exact e1
  obtain⟨g,f3,e5,rfl,e9,f0,b7,X⟩:=(Qm.ext d4.out n).get b V;rw [Nat.zero_add] at b7;obtain⟨a0,rfl⟩:=Yb X;have K:=d2.out l[b] (List.getElem_mem V) d9 u a0 (.slice b0 e a9) y X (d7.out.ext n) (by rw [a6.out];exact W) (a7.out.keep n id);have c8:l.take (b+1)=l.take b++[l[b]]:=List.take_succ_eq_append_getElem V;have C:=Ga y l[b] (l.take b) (idB e);rw [<-c8] at C;obtain⟨H,c3⟩:=zE (l[b]);rw [c3] at K b7 C;obtain⟨f,A⟩:=zE (X4 y (l.take b) (idB e));obtain⟨k,b6⟩:=zE (Zk y H);rw [A] at s C;rw [b6] at K C;have e4:=Xt H a0;have e3:=Ji H;have d3:=Zh K;have d6:=Zh C;have a1:=Zg;have a2:=Qi noB;have a3:=Z6 noB;clear K C c8 c3 A b6 X;go_wp2_with fail;clear e4 e3;refine d3.out.mono ?_;rintro b1 i ⟨rfl,j⟩;have F:=n.trans j;have B:=t.keep j id;have b4:=s.keep j id;have S:(i.alloc (.cells (Q6 noB) 58)).heap[i.heap.size]?=some (.cells (Q6 noB) 58 (0,0)):=Q9 rfl
  go_wp2_with (first | fail | (refine wpList_store_row rfl 58 (.tmp 8) (.tmp 21) rfl i.heap.size (Q4 (Q3 k)) rfl rfl _ _ S (Tryd.relInfo _) (by rw [Qi,Qa]) (Qh _) ?_))
  have T:Q8 ((i.alloc (.cells (Q6 noB) 58)).setRow i.heap.size (Q4 (Q3 k))) i.heap.size (Q3 k):=setRow_heap _ _ _ _ _ _ S;have o:Ext i ((i.alloc (.cells (Q6 noB) 58)).setRow i.heap.size (Q4 (Q3 k))):=((Q1.refl _ i).alloc _).after (Q1.setRow _ _ _) (fun b' D h2=>by omega);generalize ((i.alloc (.cells (Q6 noB) 58)).setRow i.heap.size (Q4 (Q3 k)))=e7 at T o ⊢;have z:=F.trans o;have G:=B.keep o id;have P:=b4.keep o id;clear a1 a2 a3 S B b4 F;go_wp2_with fail;refine(Xo P T (a7.out.keep z id)).mono ?_;rintro b1 a8 ⟨rfl,I⟩;have Q:=P.keep I id;have c4:=G.keep I id
  go_wp2_with (refine wpList_store_row rfl 58 (.tmp 5) (.tmp 22) rfl r (Q4 (Q3 (comp f k))) rfl rfl _ _ Q (Tryd.relInfo _) (by rw [Qa,Qa]) (Qh _) ?_)
  have U:=Q1.setRow a8 r (Q4 (Q3 (comp f k)));have R:=Q8.row (g:=Q3 (comp f k)) Q;have c5:=c4.keep U oz;have b3:=(z.trans I).after U (fun b' D h2=>by have:=d0.out;omega);generalize (a8.setRow r (Q4 (Q3 (comp f k))))=e8 at R c5 b3 ⊢;rw [<-d6.out] at R;clear U Q c4 I P G z o T s t n j;go_wp2;exact⟨⟨b+1,by omega,tz,rfl,c5,R,b3⟩,nz⟩
 ·obtain rfl:b=d:=by omega
  have D:¬ (b:Int)<(b:Int):=by omega
  rw [List.take_of_length_le (by rw [a5.out];exact Nat.le_refl _)] at s;obtain⟨f,A⟩:=zE (X4 y l (idB e));have d8:=Zh A;rw [A] at s;clear A;have c6:=Q8.row (g:=Q3 f) t;have j:Ext q (u.setRow (m+1) (Q4 (Q3 f))):=n.after (Q1.setRow u (m+1) _) (fun b' D h2=>by have:=a4.out;omega);have d5:=Zh c6;have d1:=Zh j;clear c6 j
  go_wp2_with (first
   | (refine wpList_load_row rfl 58 (.tmp 5) rfl r rfl _ _ _ _ s Tryd.underlying58 rfl (Tryd.relInfo _) ?_)
   | (refine wpList_store_row rfl 58 (.tmp 4) (.tmp 24) rfl (m+1) (Q4 (Q3 f)) rfl rfl _ _ t (Tryd.relInfo _) (by rw [Qa,Qa]) (Qh _) ?_))
  exact bodyPost_ret (v:=.agg (Q4 (Q3 f))) (Zu rfl rfl d5.out) rfl ⟨by rw [a6.out,d8.out],d1.out⟩
theorem N1(l:List Qp)(Y:∀ p∈l,Ur p):Ur (.alt l):=by
 intro c1 k K v n a2 B a0 U;unfold Qg at a2;obtain⟨u,w,a3,Z,a4⟩:=a2;simp only [Value.iface.injEq] at a3;obtain⟨_,rfl⟩:=a3;obtain⟨R,Q,rfl,_⟩:=B.slice;unfold maxLen at Z;obtain⟨C,E⟩:=zE n.length;have b3:=Zh E;rw [E] at a0 B ⊢;clear E;obtain⟨e,D⟩:=zE l.length;have P:=Zh D;rw [D] at Z ⊢;clear D;unfold Zk;show Calls Tryd.prog 63 _ _ _;have L:=Zg;have M:=Qi noB;have N:=Z6 noB;obtain⟨b2,b5,b9,b8⟩:=Zh4 Y a4 B U;clear Y a4 B U;go_enter Tryd.func63,Tryd.ntmps63;go_wp2;obtain⟨f,y⟩:=zE k.heap.size;have d:Q8 ((k.alloc (.cells #[.slice u e w] 87)).alloc (.cells (Q6 noB) 58)) (f+1) (Q3 noB):=by
  subst y;exact Q9 zy
 have i:Ext k ((k.alloc (.cells #[.slice u e w] 87)).alloc (.cells (Q6 noB) 58)):=((Q1.refl _ k).alloc _).alloc _;generalize ((k.alloc (.cells #[.slice u e w] 87)).alloc (.cells (Q6 noB) 58))=d8 at d i ⊢;rw [y];have O:=Zh y;clear y L M N
 refine wp_loop (fun a o=>∃(b:Nat),b<=e/\a.defers=[]/\gS a [1,4,9,10,11]=(21,[.slice R C Q,.pointer (some ⟨f+1,0,none⟩),.slice u e w,.int .i64 e,.int .i64 b]) /\
   Q8 o (f+1) (Q3 (Yk n (l.take b) noB))/\Ext k o)
  (fun a _=>e - (intOf (a.tmps.getD 11 undef)).toNat) ?_ ?_
 ·exact⟨0,by omega,rfl,rfl,by simpa [Yk] using d,i⟩
 clear d i;rintro⟨d6,_⟩ o ⟨b,d4,c4,a9,d,i⟩;subst c4;obtain⟨c8,rfl⟩:=Xx a9;clear a9;have d1:=d.lt;by_cases c5:b<e
 ·have x:(b:Int)<(e:Int):=by omega
  have H:b<l.length:=by rw [P.out];exact c5
  obtain⟨g,d5,c8,rfl,d2,d3,X,I⟩:=(Qm.ext b5.out i).get b H;rw [Nat.zero_add] at X;obtain⟨K,rfl⟩:=Yb I;have A:=b2.out l[b] (List.getElem_mem H) c1 o K (.slice R C Q) n I (b9.out.ext i) (by rw [b3.out];exact a0) (b8.out.keep i id);have b0:l.take (b+1)=l.take b++[l[b]]:=List.take_succ_eq_append_getElem H;have s:=Gg n l[b] (l.take b) noB;rw [<-b0] at s;obtain⟨t,a5⟩:=zE (l[b]);rw [a5] at A X s;obtain⟨j,r⟩:=zE (Yk n (l.take b) noB);obtain⟨m,W⟩:=zE (Zk n t);rw [r] at d s;rw [W] at A s;have c7:=Xt t K;have c6:=Ji t;have b4:=Zh A;have b7:=Zh s;have L:=Zg;have M:=Qi noB;have N:=Z6 noB;clear A s b0 a5 r W I;go_wp2_with fail;clear c7 c6;refine b4.out.mono ?_;rintro c2 c ⟨rfl,q⟩;have S:=i.trans q;have J:=d.keep q id;have F:(c.alloc (.cells (Q6 noB) 58)).heap[c.heap.size]?=some (.cells (Q6 noB) 58 (0,0)):=Q9 rfl
  go_wp2_with (first | fail | (refine wpList_store_row rfl 58 (.tmp 7) (.tmp 17) rfl c.heap.size (Q4 (Q3 m)) rfl rfl _ _ F (Tryd.relInfo _) (by rw [Qi,Qa]) (Qh _) ?_))
  have G:Q8 ((c.alloc (.cells (Q6 noB) 58)).setRow c.heap.size (Q4 (Q3 m))) c.heap.size (Q3 m):=setRow_heap _ _ _ _ _ _ F;have z:Ext c ((c.alloc (.cells (Q6 noB) 58)).setRow c.heap.size (Q4 (Q3 m))):=((Q1.refl _ c).alloc _).after (Q1.setRow _ _ _) (fun b' x h2=>by omega);have a1:f+1≠c.heap.size:=by have:=J.lt;omega
  generalize ((c.alloc (.cells (Q6 noB) 58)).setRow c.heap.size (Q4 (Q3 m)))=c9 at G z ⊢;have T:=S.trans z;have a6:=J.keep z id;clear L M N F J S;go_wp2_with fail;refine(Fb a6 G a1).mono ?_;rintro c2 d0 ⟨⟨d7,rfl⟩,V,a7⟩;have c3:=T.after V (fun b' x h2=>by have:=O.out;omega);rw [<-b7.out] at a7;clear a6 T z G d i q V a1;go_wp2;exact⟨⟨b+1,by omega,tz,rfl,a7,c3⟩,nz⟩
 ·obtain rfl:b=e:=by omega
  have x:¬ (b:Int)<(b:Int):=by omega
  rw [List.take_of_length_le (by rw [P.out];exact Nat.le_refl _)] at d;obtain⟨j,r⟩:=zE (Yk n l noB);have c0:=Zh r;rw [r] at d;clear r;have a8:=Q8.row (g:=Q3 j) d;have q:Ext k (o.setRow (f+1) (Q4 (Q3 j))):=i.after (Q1.setRow o (f+1) _) (fun b' x h2=>by have:=O.out;omega);have b6:=Zh a8;have b1:=Zh q;clear a8 q
  go_wp2_with (first
   | (refine wpList_load_row rfl 58 (.tmp 4) rfl (f+1) rfl _ _ _ _ d Tryd.underlying58 rfl (Tryd.relInfo _) ?_)
   | (refine wpList_store_row rfl 58 (.tmp 4) (.tmp 20) rfl (f+1) (Q4 (Q3 j)) rfl rfl _ _ d (Tryd.relInfo _) (by simp only [Qa]) (Qh _) ?_))
  exact bodyPost_ret (v:=.agg (Q4 (Q3 j))) (Zu rfl rfl b6.out) rfl ⟨by rw [c0.out],b1.out⟩
theorem Nc(p:Qp)(mn mx:Int)(f5:Ur p):Ur (.rep p mn mx):=by
 intro i1 u t v s f6 a5 R e5;unfold Qg at f6;obtain⟨k3,f7,⟨i7,i8,j8⟩,c2⟩:=f6;simp only [Value.iface.injEq] at f7;obtain⟨_,rfl⟩:=f7;obtain⟨t,rfl⟩:=Yb c2;obtain⟨i5,i4,rfl,_⟩:=a5.slice;obtain⟨a,Z⟩:=zE s.length;have d8:=Zh Z;have A:Hid (Zk s (.rep p mn mx)=comp (Ql (Zk s p) a mn.toNat) (Ql (orB (Zk s p) (idB a)) a (Xz a mn mx))):=Zh (by show Jl (Zk s p) s.length _ _=_;rw [Z];rfl);have a2:=Xv s p;rw [Z] at R a5 a2 ⊢;clear Z;show Calls Tryd.prog 65 _ _ _;obtain⟨c,rfl⟩:=Int.eq_ofNat_of_zero_le i7;have k7:=Zg;have k8:=Qi noB;have k9:=Z6 noB;have j2:=Xt p t;have j1:=Ji p;obtain⟨g8,g9,i0,F⟩:=Zh4 f5 c2 a5 e5;clear f5 c2 a5 e5;go_enter Tryd.func65,Tryd.ntmps65;go_wp2_with fail;obtain⟨l,G⟩:=zE u.heap.size;have c9:((u.alloc (.cells #[.iface (Xu p) t,.int .i64 (c:Int),.int .i64 mx] 89)).alloc (.cells (Q6 noB) 58)).heap[l]?=some (.cells #[.iface (Xu p) t,.int .i64 (c:Int),.int .i64 mx] 89 (0,0)):=by
  subst G;exact Qs (Q9 rfl)
 have c3:Q8 ((u.alloc (.cells #[.iface (Xu p) t,.int .i64 (c:Int),.int .i64 mx] 89)).alloc (.cells (Q6 noB) 58)) (l+1) (Q3 noB):=by
  subst G;exact Q9 zy
 have B:Ext u ((u.alloc (.cells #[.iface (Xu p) t,.int .i64 (c:Int),.int .i64 mx] 89)).alloc (.cells (Q6 noB) 58)):=((Q1.refl _ u).alloc _).alloc _;generalize ((u.alloc (.cells #[.iface (Xu p) t,.int .i64 (c:Int),.int .i64 mx] 89)).alloc (.cells (Q6 noB) 58))=j3 at c9 c3 B ⊢;rw [G];have d6:=Zh G;clear G j2 j1;obtain⟨d,e6⟩:=zE (Zk s p);have g7:=d8.out;have b9:=g8.out i1 j3 t (.slice i5 a i4) s (g9.out.ext B) (i0.out.ext B) (by rw [d8.out];exact R) (F.out.keep B id);rw [e6] at b9 a2 A;clear e6 g7;refine b9.mono ?_;rintro q i ⟨rfl,Y⟩;clear b9;have g2:=Y.heap c9 id;have f8:=c3.keep Y id;have d9:=B.trans Y;have j:(i.alloc (.cells (Q6 noB) 58)).heap[i.heap.size]?=some (.cells (Q6 noB) 58 (0,0)):=Q9 rfl;have K:Q8 ((i.alloc (.cells (Q6 noB) 58)).setRow i.heap.size (Q4 (Q3 d))) i.heap.size (Q3 d):=setRow_heap _ _ _ _ _ _ j;have I:Ext i ((i.alloc (.cells (Q6 noB) 58)).setRow i.heap.size (Q4 (Q3 d))):=((Q1.refl _ i).alloc _).after (Q1.setRow _ _ _) (fun b' h1 h2=>by omega);have a6:=I.heap g2 id;have d5:((i.alloc (.cells (Q6 noB) 58)).setRow i.heap.size (Q4 (Q3 d))).cell? ⟨l,1,none⟩=some (.int .i64 (c:Int)):=by rw [cell_of_row _ _ _ _ _ _ a6];rfl
 go_wp2_with (first
  | (refine wpList_store_row rfl 58 (.tmp 5) (.tmp 13) rfl i.heap.size (Q4 (Q3 d)) rfl rfl _ _ j (Tryd.relInfo _) (by rw [Qi,Qa]) (Qh _) ?_)
  | (refine wpList_load_row rfl 58 (.tmp 5) rfl i.heap.size rfl _ _ _ _ K Tryd.underlying58 rfl (Tryd.relInfo _) ?_))
 have c5:=f8.keep I id;have W:=d9.trans I;generalize ((i.alloc (.cells (Q6 noB) 58)).setRow i.heap.size (Q4 (Q3 d)))=j5 at K I a6 d5 c5 W ⊢;obtain⟨i2,e8⟩:=zE i.heap.size;rw [e8] at K ⊢;clear e8 j g2 f8 d9 Y I c9 c3 B d5;refine(Gq R a2 c oz j5 (F.out.keep W id)).mono ?_;rintro q n ⟨rfl,J⟩;have g3:=J.heap a6 id;have f9:=c5.keep J id;have e2:=K.keep J id;have e0:=W.trans J;have j:(n.alloc (.cells (Q6 noB) 58)).heap[n.heap.size]?=some (.cells (Q6 noB) 58 (0,0)):=Q9 rfl;have L:Q8 ((n.alloc (.cells (Q6 noB) 58)).setRow n.heap.size (Q4 (Q3 (Ql d a c)))) n.heap.size (Q3 (Ql d a c)):=setRow_heap _ _ _ _ _ _ j;have C:Ext n ((n.alloc (.cells (Q6 noB) 58)).setRow n.heap.size (Q4 (Q3 (Ql d a c)))):=((Q1.refl _ n).alloc _).after (Q1.setRow _ _ _) (fun b' h1 h2=>by omega);go_upto_region 3 with (refine wpList_store_row rfl 58 (.tmp 6) (.tmp 19) rfl n.heap.size (Q4 (Q3 (Ql d a c))) rfl rfl _ _ j (Tryd.relInfo _) (by rw [Qi,Qa]) (Qh _) ?_)
 have d0:=C.heap g3 id;have a4:=f9.keep C id;have b3:=e2.keep C id;have X:=e0.trans C;generalize ((n.alloc (.cells (Q6 noB) 58)).setRow n.heap.size (Q4 (Q3 (Ql d a c))))=o at L C d0 a4 b3 X ⊢;obtain⟨i3,e9⟩:=zE n.heap.size;rw [e9] at L ⊢;clear e9 j g3 f9 e2 e0 J C W K a6 c5;have j:(o.alloc (.cells (Q6 noB) 58)).heap[o.heap.size]?=some (.cells (Q6 noB) 58 (0,0)):=Q9 rfl;have a0:Q8 ((o.alloc (.cells (Q6 noB) 58)).setRow o.heap.size (Q4 (Q3 d))) o.heap.size (Q3 d):=setRow_heap _ _ _ _ _ _ j;have D:Ext o ((o.alloc (.cells (Q6 noB) 58)).setRow o.heap.size (Q4 (Q3 d))):=((Q1.refl _ o).alloc _).after (Q1.setRow _ _ _) (fun b' h1 h2=>by omega)
 go_upto_region 4 with (first
  | (refine wpList_load_row rfl 58 (.tmp 5) rfl i2 rfl _ _ _ _ b3 Tryd.underlying58 rfl (Tryd.relInfo _) ?_)
  | (refine wpList_store_row rfl 58 (.tmp 7) (.tmp 20) rfl o.heap.size (Q4 (Q3 d)) rfl rfl _ _ j (Tryd.relInfo _) (by rw [Qi,Qa]) (Qh _) ?_))
 have d1:=D.heap d0 id;have c6:=a4.keep D id;have b5:=L.keep D id;have a9:=X.trans D;generalize ((o.alloc (.cells (Q6 noB) 58)).setRow o.heap.size (Q4 (Q3 d)))=j6 at a0 D d1 c6 b5 a9 ⊢;obtain⟨m,f0⟩:=zE o.heap.size;have c0:i3≠m:=by have:=L.lt;omega
 have a3:l+1≠m/\l≠m:=by have:=a4.lt;omega
 have k2:u.heap.size<=m:=by have:=X.size;omega
 rw [f0] at a0 ⊢;clear f0 j d0 a4 b3 X D L;go_wp2_with fail;refine(Jb a R j6).mono ?_;rintro q k ⟨rfl,E⟩;have g4:=E.heap d1 id;have g0:=c6.keep E id;have e3:=b5.keep E id;have b7:=a0.keep E id;have e1:=a9.trans E;have j:(k.alloc (.cells (Q6 noB) 58)).heap[k.heap.size]?=some (.cells (Q6 noB) 58 (0,0)):=Q9 rfl;have a1:Q8 ((k.alloc (.cells (Q6 noB) 58)).setRow k.heap.size (Q4 (Q3 (idB a)))) k.heap.size (Q3 (idB a)):=setRow_heap _ _ _ _ _ _ j;have x:Ext k ((k.alloc (.cells (Q6 noB) 58)).setRow k.heap.size (Q4 (Q3 (idB a)))):=((Q1.refl _ k).alloc _).after (Q1.setRow _ _ _) (fun b' h1 h2=>by omega);go_upto_region 5 with (refine wpList_store_row rfl 58 (.tmp 8) (.tmp 23) rfl k.heap.size (Q4 (Q3 (idB a))) rfl rfl _ _ j (Tryd.relInfo _) (by rw [Qi,Qa]) (Qh _) ?_)
 have d2:=x.heap g4 id;have c7:=g0.keep x id;have b6:=e3.keep x id;have b8:=b7.keep x id;have b0:=e1.trans x;generalize ((k.alloc (.cells (Q6 noB) 58)).setRow k.heap.size (Q4 (Q3 (idB a))))=k5 at a1 x d2 c7 b6 b8 b0 ⊢;have c1:m≠k.heap.size:=by have:=b7.lt;omega
 obtain⟨j7,f1⟩:=zE k.heap.size;rw [f1] at a1 c1 ⊢;clear f1 j g4 g0 e3 b7 e1 E x d1 c6 b5 a9 a0;go_wp2_with fail;refine(Fb b8 a1 c1).mono ?_;rintro q V ⟨⟨k4,rfl⟩,Q,P⟩;have d3:=Q.heap d2 a3.2;have g1:=c7.keep Q a3.1;have e4:=b6.keep Q c0;have b1:=b0.after Q (fun b' h1 h2=>by omega);have d5:V.cell? ⟨l,1,none⟩=some (.int .i64 (c:Int)):=by rw [cell_of_row _ _ _ _ _ _ d3];rfl
 have k6:V.cell? ⟨l,2,none⟩=some (.int .i64 mx):=by rw [cell_of_row _ _ _ _ _ _ d3];rfl
 have i6:=F.out.keep b1 id;have f2:Qk a (orB d (idB a)):=a2.or (Qk.id a);clear Q d2 c7 b6 b8 b0 a1 d3 c1;obtain⟨e,e7⟩:=zE (orB d (idB a));rw [e7] at f2 P A;clear e7
 have g5:∀(f:Nat),Xz a (c:Int) mx=f->f<=64 ->
   Calls Tryd.prog 60 #[.agg (Q4 (Q3 e)),.int .i64 f,.int .i64 a] V fun q w'=>q=.returned (.agg (Q4 (Q3 (Ql e a f))))/\Ext V w':=fun f _ he=>Gq R f2 f he V i6
 have d7:=Zh g5;clear g5;by_cases f4:mx<0
 ·have z:Xz a (c:Int) mx=a:=by unfold Xz;rw [if_pos f4]
  rw [z] at A;have a7:=Zh z;clear z
  go_wp2_with (refine wpList_load_row rfl 58 (.tmp 7) rfl m rfl _ _ _ _ P Tryd.underlying58 rfl (Tryd.relInfo _) ?_)
  refine(d7.out a a7.out oz).mono ?_;rintro q U ⟨rfl,r⟩;have N:=P.keep r id;have b4:=e4.keep r id;have c4:=g1.keep r id;have a8:=b1.trans r;have y:=Q1.setRow U m (Q4 (Q3 (Ql e a a)));have O:=Q8.row (g:=Q3 (Ql e a a)) N;have M:=b4.keep y c0;have S:=c4.keep y a3.1;have w:=a8.after y (fun b' h1 h2=>by omega)
  go_wp2_with (refine wpList_store_row rfl 58 (.tmp 7) (.tmp 39) rfl m (Q4 (Q3 (Ql e a a))) rfl rfl _ _ N (Tryd.relInfo _) (by rw [Qa,Qa]) (Qh _) ?_)
  generalize (U.setRow m (Q4 (Q3 (Ql e a a))))=j4 at O M S w ⊢;refine(Xo M O (F.out.keep w id)).mono ?_;rintro q d4 ⟨rfl,H⟩;have T:=S.keep H id;have c8:=Q8.row (g:=Q3 (comp (Ql d a c) (Ql e a a))) T;have b2:=(w.trans H).after (Q1.setRow d4 (l+1) (Q4 (Q3 (comp (Ql d a c) (Ql e a a))))) (fun b' h1 h2=>by have:=d6.out;omega)
  go_wp2_with (refine wpList_store_row rfl 58 (.tmp 4) (.tmp 40) rfl (l+1) (Q4 (Q3 (comp (Ql d a c) (Ql e a a)))) rfl rfl _ _ T (Tryd.relInfo _) (by rw [Qa,Qa]) (Qh _) ?_)
  exact bodyPost_ret (v:=.agg (Q4 (Q3 (comp (Ql d a c) (Ql e a a))))) (Zu rfl rfl c8) rfl ⟨by rw [A.out];rfl,b2⟩
 ·obtain⟨f,i9⟩:=Int.eq_ofNat_of_zero_le (show 0<=mx - c by omega);have z:Xz a (c:Int) mx=f:=by unfold Xz;rw [if_neg f4,show (((c:Nat):Int))=(c:Int) from rfl];omega
  rw [z] at A;have a7:=Zh z;have f3:mx=(c:Int)+f:=by omega
  have g6:=Zh f3;have j9:(c:Int)<=32:=i8;have k1:mx<=32:=by omega
  have k0:0<=mx:=by omega
  have j0:f<=64:=by omega
  clear z f3 i9;go_upto_region 9 with (fail)
  rw [show mx - (c:Int)=(f:Int) by have:=g6.out;omega]
  go_wp2_with (refine wpList_load_row rfl 58 (.tmp 7) rfl m rfl _ _ _ _ P Tryd.underlying58 rfl (Tryd.relInfo _) ?_)
  refine(d7.out f a7.out j0).mono ?_;rintro q U ⟨rfl,r⟩;have N:=P.keep r id;have b4:=e4.keep r id;have c4:=g1.keep r id;have a8:=b1.trans r;have y:=Q1.setRow U m (Q4 (Q3 (Ql e a f)));have O:=Q8.row (g:=Q3 (Ql e a f)) N;have M:=b4.keep y c0;have S:=c4.keep y a3.1;have w:=a8.after y (fun b' h1 h2=>by omega)
  go_wp2_with (refine wpList_store_row rfl 58 (.tmp 7) (.tmp 39) rfl m (Q4 (Q3 (Ql e a f))) rfl rfl _ _ N (Tryd.relInfo _) (by rw [Qa,Qa]) (Qh _) ?_)
  generalize (U.setRow m (Q4 (Q3 (Ql e a f))))=j4 at O M S w ⊢;refine(Xo M O (F.out.keep w id)).mono ?_;rintro q d4 ⟨rfl,H⟩;have T:=S.keep H id;have c8:=Q8.row (g:=Q3 (comp (Ql d a c) (Ql e a f))) T;have b2:=(w.trans H).after (Q1.setRow d4 (l+1) (Q4 (Q3 (comp (Ql d a c) (Ql e a f))))) (fun b' h1 h2=>by have:=d6.out;omega)
  go_wp2_with (refine wpList_store_row rfl 58 (.tmp 4) (.tmp 40) rfl (l+1) (Q4 (Q3 (comp (Ql d a c) (Ql e a f)))) rfl rfl _ _ T (Tryd.relInfo _) (by rw [Qa,Qa]) (Qh _) ?_)
  exact bodyPost_ret (v:=.agg (Q4 (Q3 (comp (Ql d a c) (Ql e a f))))) (Zu rfl rfl c8) rfl ⟨by rw [A.out];rfl,b2⟩
mutual
theorem He:∀ p:Qp,Ur p
 | .sound pl mi nt=>fun K w pay v ws hp hv hn hT=>by
  unfold Qg at hp;obtain⟨hpe,h1,h2⟩:=hp;simp only [Value.iface.injEq] at hpe;obtain⟨_,rfl⟩:=hpe;exact Lj h1 h2 hv hn
 | .edge e=>fun K w pay v ws hp hv hn hT=>by
  unfold Qg at hp;simp only [Value.iface.injEq] at hp;obtain⟨_,rfl⟩:=hp;exact Mk hv hn
 | .seq l=>N9 l (G0 l)
 | .alt l=>N1 l (G0 l)
 | .rep p mn mx=>Nc p mn mx (He p)
theorem G0:∀ l:List Qp,∀ p∈l,Ur p
 | [],_,h=>by cases h
 | q::l,p,h=>(List.mem_cons.1 h).elim (fun e=>e ▸ He q) (fun h=>G0 l p h)
end
theorem Tryd.infoPart:(Tryd.prog.info? 73).map (fun i=>(i.zero,i.size,i.bytes))=some (some .nilIface,1,16):=by kernel_rfl
def H1(p:Pat):Prop:=∀(K:Nat->Prop) (w:World) (cs:List Value),Qc K w p cs->Yh p ->
 Calls Tryd.prog 37 #[.agg cs.toArray] w fun e w'=>∃ u,e=.returned u/\Qg (fun b=>w.heap.size<=b) w' (cmp p) u/\Ext w w'
theorem Ft{l:List Qp}(h:0<l.length)(d:Qp):l.headD d=l[0]:=by
 cases l with
 | nil=>simp at h
 | cons a b=>rfl
theorem Dq{K:Nat->Prop}{w:World}{p:Qp}{u:Value}(h:Qg K w p u):u.oneCell'=true:=by
 obtain⟨a,rfl⟩:=Yb h;rfl
theorem Zt{w:World}{g o:Nat}{cs:List Value}{k:Int}{pl mi:Nat}{nt:Bool}{mn mx:Int}{ao:Option Addr}{n cap:Nat}(h:w.rangeAt g o cs)(e:cs=Q2 k pl mi nt mn mx ao n cap) :
  w.cell? ⟨g,o,none⟩=some (.int .i64 k)/\w.cell? ⟨g,o+1,none⟩=some (.int .u32 pl)/\w.cell? ⟨g,o+2,none⟩=some (.int .u32 mi)/\w.cell? ⟨g,o+3,none⟩=some (.bool nt) /\
   w.cell? ⟨g,o+4,none⟩=some (.int .i64 mn)/\w.cell? ⟨g,o+5,none⟩=some (.int .i64 mx)/\w.cell? ⟨g,o+6,none⟩=some (.slice ao n cap):=by
 subst e;exact⟨h 0 _ rfl,h 1 _ rfl,h 2 _ rfl,h 3 _ rfl,h 4 _ rfl,h 5 _ rfl,h 6 _ rfl⟩
theorem Hz(k:Int)(pl mi:Nat)(nt:Bool)(mn mx:Int)(l:List Pat)(g7:∀ p∈l,H1 p):H1 (.node k pl mi nt mn mx l):=by
 intro j6 r e3 f8 E;unfold Qc at f8;obtain⟨B,x,rfl,l9,l7,l6,l0,g0⟩:=f8;unfold Yh at E;obtain⟨f7,l5,b3⟩:=E;rw [U5] at b3;obtain⟨m6,k3,k4,k5,a4,k6⟩:=J0 f7;clear k3 k4 k5 k6;unfold maxLen at l0;obtain⟨g,a7⟩:=zE l.length;have I:=Zh a7;rw [a7] at l5 l6 a4 ⊢;clear a7;unfold Q2;obtain⟨j5,i6,i4,i0⟩:=Zh4 g7 g0 b3 a4;clear g7 g0 b3 a4 f7;go_enter Tryd.func37,Tryd.ntmps37;go_wp2_with fail;obtain⟨e,K⟩:=zE r.heap.size;have j:(r.alloc (.cells #[.int .i64 k,.int .u32 (pl:Int),.int .u32 (mi:Int),.bool nt,.int .i64 mn,.int .i64 mx,.slice B g x] 27)).heap[e]?=some (.cells #[.int .i64 k,.int .u32 (pl:Int),.int .u32 (mi:Int),.bool nt,.int .i64 mn,.int .i64 mx,.slice B g x] 27 (0,0)):=by
  subst K;exact Q9 rfl
 have w:Ext r (r.alloc (.cells #[.int .i64 k,.int .u32 (pl:Int),.int .u32 (mi:Int),.bool nt,.int .i64 mn,.int .i64 mx,.slice B g x] 27)):=(Q1.refl _ r).alloc _;have s:(r.alloc (.cells #[.int .i64 k,.int .u32 (pl:Int),.int .u32 (mi:Int),.bool nt,.int .i64 mn,.int .i64 mx,.slice B g x] 27)).ownsRow (e+1) 73 1 (.slice none 0 0) 0 []:=World.ownsRow_nil _ _ _ _;generalize (r.alloc (.cells #[.int .i64 k,.int .u32 (pl:Int),.int .u32 (mi:Int),.bool nt,.int .i64 mn,.int .i64 mx,.slice B g x] 27))=m1 at j w s ⊢;rw [K];have Y:=Zh K;have k7:e<m1.heap.size:=(Array.getElem?_eq_some_iff.1 j).1;clear K
 refine wp_loop (fun a d=>∃(c:Nat) (W:Value) (q:List Value),c<=g/\a.defers=[]/\gS a [1,3,7,8,9]=(56,[.pointer (some ⟨e,0,none⟩),W,.slice B g x,.int .i64 g,.int .i64 c]) /\
   d.heap[e]?=some (.cells #[.int .i64 k,.int .u32 (pl:Int),.int .u32 (mi:Int),.bool nt,.int .i64 mn,.int .i64 mx,.slice B g x] 27 (0,0)) /\
   d.ownsRow (e+1) 73 1 W c q/\(q.length=c/\∀ i (D:i<q.length) (a3:i<l.length),Qg (fun b=>e+1<=b/\W.ownBlock≠some b) d (cmp l[i]) q[i])/\Ext r d)
  (fun a _=>g - (intOf (a.tmps.getD 9 undef)).toNat) ?_ ?_
 ·exact⟨0,.slice none 0 0,[],by omega,rfl,rfl,j,s,⟨rfl,fun i v=>by simp at v⟩,w⟩
 clear j w s k7;rintro⟨V,_⟩ d ⟨c,W,q,m5,l1,b7,j,s,⟨T,U⟩,w⟩;subst l1;obtain⟨g9,rfl⟩:=Xx b7;clear b7;have m3:e<d.heap.size:=(Array.getElem?_eq_some_iff.1 j).1;obtain⟨z,F,rfl⟩:=Zc s;by_cases l4:c<g
 ·have D:(c:Int)<(g:Int):=by omega
  have b2:c<l.length:=by rw [I.out];exact l4
  obtain⟨y,g8,e3,rfl,k8,a9,b6,t⟩:=(Qe.ext i6.out w).get c b2;rw [Nat.zero_add] at b6;have E:=i4.out l[c] (List.getElem_mem b2);have b0:=j5.out l[c] (List.getElem_mem b2);obtain⟨b9,b5⟩:=zE (l[c]);rw [b5] at E b0 t;obtain⟨c6,d2,c8,d1,c9,d0,c7⟩:=b9;have f9:=t;unfold Qc at t;obtain⟨c0,c1,a8,_⟩:=t;obtain⟨j7,j8,c2,c3,c4,c5,e2⟩:=Zt b6 a8;have a6:Ext d (d.alloc (.cells #[.int .i64 c6,.int .u32 (d2:Int),.int .u32 (c8:Int),.bool d1,.int .i64 c9,.int .i64 d0,.slice c0 c7.length c1] 27)):=(Q1.refl _ d).alloc _;have Q:=b0 j6 (d.alloc (.cells #[.int .i64 c6,.int .u32 (d2:Int),.int .u32 (c8:Int),.bool d1,.int .i64 c9,.int .i64 d0,.slice c0 c7.length c1] 27)) e3 (f9.ext a6) E;rw [a8] at Q;unfold Q2 at Q;obtain⟨d3,d5,i8,d8,j1,j2,u,d9⟩:=Zh8 Q a6 b5 s U j w T;clear Q a6 b5 s U j w T f9 E b0 b6 a8;obtain⟨Z,e7⟩:=zE c7.length;rw [e7] at e2 d3 d5;clear e7;go_wp2_with fail;refine d3.out.mono ?_;rintro f A ⟨m2,rfl,H,a5⟩;obtain⟨o,n,rfl⟩:∃ V p,m2=.iface V p:=(Yb H).elim fun p v=>⟨_,p,v⟩;have b8:(d.alloc (.cells #[.int .i64 c6,.int .u32 (d2:Int),.int .u32 (c8:Int),.bool d1,.int .i64 c9,.int .i64 d0,.slice c0 Z c1] 27)).heap.size=d.heap.size+1:=by simp
  rw [b8] at H;have M:=d5.out.trans a5;have e5:=Y5 d8.out M;have g4:=M.heap j2.out id;have m0:=a5.size;rw [b8] at m0;have G:Ext A (A.alloc (.cells #[.iface o n] 73)):=(Q1.refl _ A).alloc _;have l8:=Dq H;obtain⟨i7,d4,j3⟩:=Zh3 H M g4;clear H a5 g4 b8 j7 j8 c2 c3 c4 c5 e2 M
  go_wp2_with (at_builtin;refine Xj rfl (.tmp 13) (.tmp 16) 81 rfl (e+1) 73 _ 1 16 Tryd.underlying81 Tryd.infoPart rfl zd _ _ _ rfl (Y5 e5 G) ⟨A.heap.size,0,none⟩ 1 1 [.iface o n] rfl rfl Va ?c2 ?c3 ?c4 ?c5 ?_)
  case c2=>intro X g6;simp at g6;rw [g6];exact l8
  case c3=>unfold maxLen;omega
  case c4=>omega
  case c5=>simp;omega
  intro e0 e1 J e6 N f6;have R:=fun a2 f1=>(d8.out.lt a2 f1)
  have g5:J.heap[e]?=some (.cells #[.int .i64 k,.int .u32 (pl:Int),.int .u32 (mi:Int),.bool nt,.int .i64 mn,.int .i64 mx,.slice (some ⟨y,g8,none⟩) g x] 27 (0,0)):=
   N.heap (G.heap j3.out id) (fun f=>by have:=(R _ f).1;omega)
  have e4:Ext r J:=((u.out.trans d4.out).trans G).after N (fun b' D f=>by have:=(R _ f).1;have:=Y.out;omega)
  have b4:∀(P:Qp) (X:Value),Qg (fun b=>e+1<=b/\(Value.slice z c F).ownBlock≠some b) A P X->Qg (fun b=>e+1<=b/\(Value.slice e0 (c+1) e1).ownBlock≠some b) J P X:=fun P X hP=>by
   have D:=Qg.mono (L:=fun b=>(e+1<=b/\(Value.slice z c F).ownBlock≠some b)/\b<A.heap.size) (fun b hb hk=>⟨hk,hb⟩) hP;have a3:=(D.ext G).keep N (fun b hb hs=>hb.1.2 hs);refine Qg.mono (fun b _ hk=>⟨hk.1.1,fun f=>?_⟩) a3;rcases f6 with v | v
   ·rw [v] at f;exact hk.1.2 f
   ·rw [v] at f;have:=Option.some.inj f;have b7:=World.size_alloc A (.cells #[.iface o n] 73);omega
  have g2:∀ i (D:i<(q++[Value.iface o n]).length) (a3:i<l.length),Qg (fun b=>e+1<=b/\(Value.slice e0 (c+1) e1).ownBlock≠some b) J (cmp l[i]) (q++[Value.iface o n])[i]:=fun i hi1 hi2=>by
   have T:=d9.out;by_cases b1:i<q.length
   ·rw [List.getElem_append_left b1];exact b4 _ _ ((j1.out i b1 hi2).ext d4.out)
   ·have l2:i=c:=by simp at hi1;omega
    subst l2;have a0:(q++[Value.iface o n])[i]=.iface o n:=by
     rw [List.getElem_append_right oz];simp
    rw [a0,i8.out];refine b4 _ _ (Qg.mono (fun b _ hb=>⟨by omega,fun f=>by have:=(R b f).2;omega⟩) i7.out)
  obtain⟨j4,i1,j0,i3⟩:=Zh4 g5 e4 g2 e6;have g1:(q++[Value.iface o n]).length=c+1:=by have:=d9.out;simp;omega
  have i9:=Zh g1;clear g5 e4 g2 e6 b4 f6 N R G e5 g1;go_wp2;exact⟨⟨c+1,_,q++[Value.iface o n],by omega,tz,rfl,j4.out,i3.out,⟨i9.out,j0.out⟩,i1.out⟩,nz⟩
 ·obtain rfl:c=g:=by omega
  have D:¬ (c:Int)<(c:Int):=by omega
  have S:Qm (fun b=>r.heap.size<=b) d (Yg l) z 0:=Qm.mk fun i hi=>by
   have C:(Yg l).length=l.length:=by rw [J9,List.length_map]
   have f2:i<l.length:=by rw [<-C];exact hi
   have b1:i<c:=by rw [<-I.out];exact f2
   have f3:i<q.length:=by omega
   rcases s.2 with ⟨f,_⟩ | ⟨y,j9,k0,f,k9,a9,_⟩
   ·simp only [zV] at f;omega
   ·simp only [zV] at f;obtain⟨rfl,_,rfl⟩:=f;have O:=s.cellAt i oz;rw [List.getElem?_eq_getElem f3] at O;refine⟨y,0,q[i],rfl,by have:=Y.out;omega,(Array.getElem?_eq_some_iff.1 a9).1,by rw [Nat.zero_add,Nat.zero_add];exact O,?_⟩;have a1:(Yg l)[i]=cmp l[i]:=by simp only [J9,List.getElem_map]
    rw [a1];exact Qg.mono (fun b _ hb=>by have:=Y.out;omega) (U i f3 f2)
  have C:(Yg l).length=c:=by rw [J9,List.length_map,I.out]
  have f4:c<=maxLen:=by unfold maxLen;omega
  have f0:Qg (fun b=>r.heap.size<=b) d (.seq (Yg l)) (.iface 90 (.agg #[.slice z c F])):=by
   unfold Qg;exact⟨z,F,by rw [C],by rw [C];exact f4,S⟩
  have e8:Qg (fun b=>r.heap.size<=b) d (.alt (Yg l)) (.iface 87 (.agg #[.slice z c F])):=by
   unfold Qg;exact⟨z,F,by rw [C],by rw [C];exact f4,S⟩
  have e9:k=5->∃ y o n,z=some ⟨y,0,none⟩/\c=1/\d.cell? ⟨y,0,none⟩=some (.iface o n)/\∀ m,Qg (fun b=>r.heap.size<=b) (d.drewN m) (.rep ((Yg l).headD (.seq [])) mn mx) (.iface 89 (.agg #[.iface o n,.int .i64 mn,.int .i64 mx])):=fun hk=>by
   obtain⟨a0,a1,k1,k2⟩:=i0.out hk;have f5:0<l.length:=by rw [I.out];omega
   obtain⟨y,g8,g9,g3,k8,a9,O,t⟩:=S.get 0 (by rw [J9,List.length_map];exact f5);obtain⟨o,n,rfl⟩:∃ V p,g9=.iface V p:=(Yb t).elim fun p v=>⟨_,p,v⟩;rcases s.2 with ⟨f,_⟩ | ⟨a2,j9,k0,f,k9,f1,_⟩
   ·simp only [zV] at f;omega
   ·simp only [zV] at f;obtain⟨rfl,_,rfl⟩:=f;simp only [Option.some.injEq,Addr.mk.injEq] at g3;obtain⟨rfl,rfl,_⟩:=g3;refine⟨a2,o,n,rfl,a0,by simpa using O,fun m=>?_⟩;unfold Qg;refine⟨_,rfl,⟨a1,k1,k2⟩,?_⟩;rw [Ft (by rw [J9,List.length_map];exact f5)];exact t.ext ((Q1.refl _ d).drewN m)
  have m7:d.cell? ⟨e,0,none⟩=some (.int .i64 k):=by rw [cell_of_row _ _ _ _ _ _ j];rfl
  have m8:d.cell? ⟨e,1,none⟩=some (.int .u32 (pl:Int)):=by rw [cell_of_row _ _ _ _ _ _ j];rfl
  have m9:d.cell? ⟨e,2,none⟩=some (.int .u32 (mi:Int)):=by rw [cell_of_row _ _ _ _ _ _ j];rfl
  have n0:d.cell? ⟨e,3,none⟩=some (.bool nt):=by rw [cell_of_row _ _ _ _ _ _ j];rfl
  have n1:d.cell? ⟨e,4,none⟩=some (.int .i64 mn):=by rw [cell_of_row _ _ _ _ _ _ j];rfl
  have n2:d.cell? ⟨e,5,none⟩=some (.int .i64 mx):=by rw [cell_of_row _ _ _ _ _ _ j];rfl
  obtain⟨d7,i2,d6,u⟩:=Zh4 f0 e8 e9 w;clear f0 e8 e9 w S C U T s j;rcases(show k=0\/k=1\/k=2\/k=3\/k=4\/k=5\/k=6 by omega) with rfl | rfl | rfl | rfl | rfl | rfl | rfl
  ·go_wp2;go_ret;exact⟨_,rfl,by show Qg _ _ (.seq (Yg l)) _;exact d7.out,u.out⟩
  ·go_wp2;go_ret;exact⟨_,rfl,by show Qg _ _ (.sound pl mi nt) _;unfold Qg;exact⟨rfl,l9,l7⟩,u.out⟩
  ·go_wp2;go_ret;exact⟨_,rfl,by show Qg _ _ (.edge false) _;unfold Qg;rfl,u.out⟩
  ·go_wp2;go_ret;exact⟨_,rfl,by show Qg _ _ (.seq (Yg l)) _;exact d7.out,u.out⟩
  ·go_wp2;go_ret;exact⟨_,rfl,i2.out,u.out⟩
  ·obtain⟨y,o,n,rfl,l3,m4,t⟩:=d6.out rfl;have i5:=Zh t;obtain rfl:c=1:=l3;clear t d6;go_wp2
   go_quiet (fail)
   go_wp2;go_ret;exact⟨_,rfl,i5.out _,u.out.drewN _⟩
  ·go_wp2;go_ret;exact⟨_,rfl,by show Qg _ _ (.edge true) _;unfold Qg;rfl,u.out⟩
mutual
theorem Vt:∀ p:Pat,H1 p
 | .node k pl mi nt mn mx l=>Hz k pl mi nt mn mx l (Uy l)
theorem Uy:∀ l:List Pat,∀ p∈l,H1 p
 | [],_,h=>by cases h
 | q::l,p,h=>(List.mem_cons.1 h).elim (fun e=>e ▸ Vt q) (fun h=>Uy l p h)
end
theorem Z7(a b:Nat)(i:a<4294967296)(j:b<4294967296)(w:World) :
  Calls Tryd.prog 31 #[.agg #[.int .u32 (a:Int),.int .u32 (b:Int)]] w fun e w'=>e=.returned (.bool (Z3 a b))/\Ext w w':=by
 obtain⟨q,r⟩:=Wb i j;have p:a ||| b<4294967296:=Nat.or_lt_two_pow (n:=32) i j;have d:Z3 a b=((a &&& b == 0) && ((a ||| b) / 16777216 == 0)):=rfl;obtain⟨f,l⟩:=zE (a &&& b == 0);obtain⟨c,k⟩:=zE (a ||| b);rw [l] at q d;rw [k] at r d p;have s:((c:Int) / 16777216 == 0)=(c / 16777216 == 0):=by
  apply Bool.eq_iff_iff.2;rw [beq_iff_eq,beq_iff_eq];omega
 obtain⟨o,m⟩:=zE (c / 16777216 == 0);rw [m] at s d;have g:=Zh d;clear d l k m;go_enter Tryd.func31,Tryd.ntmps31;cases f
 ·go_wp2;go_ret;exact⟨by rw [g.out];rfl,(Q1.refl _ _).alloc _⟩
 ·go_wp2;go_ret;exact⟨by rw [g.out];rfl,(Q1.refl _ _).alloc _⟩
theorem M8(a b:Nat)(f:a<4294967296)(g:b<4294967296)(w:World) :
  Calls Tryd.prog 36 #[.agg #[.int .u32 (a:Int),.int .u32 (b:Int)]] w fun e w'=>e=.returned (.bool (!Z3 a b))/\Ext w w':=by
 go_enter Tryd.func36,Tryd.ntmps36;go_wp2_with fail;refine(Z7 a b f g _).mono ?_;rintro e i ⟨rfl,d⟩;have c:=((Q1.refl (fun _=>False) w).alloc (.cells #[.int .u32 (a:Int),.int .u32 (b:Int)] 25)).trans d;go_wp2;go_ret;exact⟨rfl,c⟩
def X5(ws:Wd):Bool:=ws.all fun s=>Z3 s.1 s.2
theorem F5(ws:Wd)(s:Nat × Nat):X5 (ws++[s])=(X5 ws && Z3 s.1 s.2):=by simp [X5]
theorem M1{ws:Wd}{k:Nat}(a:k<ws.length)(h:Z3 (ws.getD k (0,0)).1 (ws.getD k (0,0)).2=false):X5 ws=false:=by
 unfold X5;rw [List.all_eq_false];refine⟨ws[k],List.getElem_mem a,?_⟩;rw [List.getD_eq_getElem?_getD,List.getElem?_eq_getElem a] at h
 simpa using h
theorem Dx{ws:Wd}{k:Nat}(a:k<ws.length)(b:X5 (ws.take k)=true) (h:Z3 (ws.getD k (0,0)).1 (ws.getD k (0,0)).2=true):X5 (ws.take (k+1))=true:=by
 rw [List.take_succ_eq_append_getElem a,F5,b];rw [List.getD_eq_getElem?_getD,List.getElem?_eq_getElem a] at h
 simpa using h
theorem F2{w:World}{v:Value}{ws:Wd}(p:Qw w v ws) :
  Calls Tryd.prog 43 #[v,.func (.func 36) #[] #[]] w fun e w'=>∃ z:Int,e=.returned (.int .i64 z)/\decide (0<=z)=(!X5 ws)/\Ext w w':=by
 obtain⟨H,I,rfl,D⟩:=p.slice;unfold maxLen at D;have k:=Zh p;clear p;obtain⟨b,m⟩:=zE ws.length;have t:=Zh m;rw [m] at D k ⊢;clear m;go_enter Tryd.func43,Tryd.ntmps43;go_wp2
 refine wp_loop (fun c l=>∃(a:Nat),a<=b/\c.defers=[]/\gS c [0,1,7,8]=(19,[.slice H b I,.func (.func 36) #[] #[],.int .i64 b,.int .i64 a])/\X5 (ws.take a)=true/\Ext w l)
  (fun c _=>b - (intOf (c.tmps.getD 8 undef)).toNat) ?_ ?_
 ·exact⟨0,by omega,rfl,rfl,by simp [X5],Q1.refl _ _⟩
 rintro⟨T,_⟩ l ⟨a,R,K,G,B,i⟩;subst K;obtain⟨U,rfl⟩:=Xx G;clear G;have r:=Zh B;clear B;by_cases L:a<b
 ·have J:(a:Int)<(b:Int):=by omega
  have j:a<ws.length:=by rw [t.out];exact L
  obtain⟨P,S,O,C,Q,u,x⟩:=(k.out.ext i).at j;simp only [zV] at C;obtain⟨rfl,M,rfl⟩:=C;clear M;obtain⟨E,F⟩:=k.out.2.get a j;obtain⟨c,n⟩:=zE ((ws.getD a (0,0)).1);obtain⟨g,o⟩:=zE ((ws.getD a (0,0)).2);rw [n] at u E;rw [o] at x F;have q:=Zh n;have s:=Zh o;clear n o;go_wp2_with fail;refine(M8 c g E F l).mono ?_;rintro e N ⟨rfl,A⟩;have y:=i.trans A;clear i A u x;cases hok:Z3 c g
  ·have d:X5 ws=false:=M1 j (by rw [q.out,s.out];exact hok);have f:=Zh d;clear d hok;go_wp2;go_ret;exact⟨_,rfl,by rw [f.out];simp,y⟩
  ·have d:=Dx j r.out (by rw [q.out,s.out];exact hok);have f:=Zh d;clear d hok;go_wp2;exact⟨⟨a+1,by omega,tz,rfl,f.out,y⟩,nz⟩
 ·obtain rfl:a=b:=by omega
  have J:¬ (a:Int)<(a:Int):=by omega
  have d:X5 ws=true:=by have:=r.out;rwa [List.take_of_length_le (by rw [t.out];exact Nat.le_refl _)] at this
  have f:=Zh d;clear d;go_wp2;go_ret;exact⟨_,rfl,by rw [f.out];simp,i⟩
theorem Wa{w:World}{v:Value}{ws:Wd}(d:Qw w v ws) :
  Calls Tryd.prog 35 #[v,.func (.func 36) #[] #[]] w fun e w'=>e=.returned (.bool (!X5 ws))/\Ext w w':=by
 go_enter Tryd.func35,Tryd.ntmps35;go_wp2_with fail;refine(F2 d).mono ?_;rintro e f ⟨g,rfl,a,c⟩;have b:=Zh a;clear a;go_wp2;go_ret;exact⟨by rw [b.out];rfl,c⟩
end Go.Proofs.YtbmbdoanammlgaaDoor
