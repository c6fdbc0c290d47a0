/- ablautref06.Table, patterns one after the other, and either of some (printed by gentable.py). -/
import Derived.Test.YtejenndedjabhaaGreatDoorS15
set_option maxRecDepth 100000
set_option maxHeartbeats 8000000
namespace Go.Proofs.YtejenndedjabhaaGreatDoor
open Go.RowKit Go.Ab
attribute [local go_sem] Oper.semAt_some Zm Qv
theorem Qdl(pl mi:Nat)(nt:Bool)(mn mx:Int)(l:List Pat)(c8:∀ p∈l,Ug p):Ug (.node 3 pl mi nt mn mx l):=by
 intro a4 k e6 i1 i T Y b8 b1;have y:∀ V:World,Ext k V->Qj a4 V (.node 3 pl mi nt mn mx l) e6:=fun V e=>T.ext e;unfold Qj at T;obtain⟨B,C,rfl,g6,g5,b7,b3,b6⟩:=T;obtain⟨J,I,rfl,b2⟩:=Y.slice;rw [Ka] at b1;obtain⟨b9,b5⟩:=b1;have R:Xv l:=b5;rw [Kp] at R;clear b5;have X:=Kl i 3 pl mi nt mn mx l;rw [if_neg zd,if_neg zd,if_neg zd,if_neg zd,if_neg zd] at X;unfold Qd;obtain⟨m,E⟩:=zE l.length;obtain⟨b,H⟩:=zE i.length;obtain⟨x,a3,d6,d1,d0,d5,f5,d8⟩:=Zh8 H E Y b6 R X b9 c8;have e9:m<=maxLen:=by rw [<-E];exact Nat.le_trans b7 b3
 have O:b<=32:=by rw [<-H];exact b8
 unfold maxLen at e9 b2;show Calls Tryz.prog 216 #[.agg #[.int .i64 3,.int .u32 (pl:Int),.int .u32 (mi:Int),.bool nt,.int .i64 mn,.int .i64 mx,.slice B l.length C],.slice J i.length I] k _;rw [E,H];clear c8 Y b6 R X b9 b7 b3 E H b8 b2 y;go_enter Tryz.func216,Tryz.ntmps216
 go_wp2_with (at_make;refine Yw rfl (.tmp 17) (.tmp 17) 238 rfl (k.heap.size+1) 162 _ 8 Tryz.underlying238 Tryz.infoU rfl .i64 .i64 _ _ (b+1) rfl rfl zq zq ?c1 ?c2 zy ?_)
 case c1=>omega
 case c2=>unfold maxLen;omega
 intro c9 d y;obtain⟨t,L⟩:=zE k.heap.size;have Z:c9.heap[k.heap.size]?=some (.cells #[.int .i64 3,.int .u32 (pl:Int),.int .u32 (mi:Int),.bool nt,.int .i64 mn,.int .i64 mx,.slice B m C] 47 (0,0)):=y.keep (Q3 rfl);have a6:Ext k c9:=Q0.trans ((Q0.refl _ k).alloc _) y;rw [L] at d Z ⊢;rw [U6,show Zo (b+1) (fun _=>0)=Zo (b+1) (fun a=>if a<0 then Q1 (noB) a else 0) from Ql fun a _=>by simp] at d;have f4:=Zh L;have s:=Zh Z;clear L Z y;go_wp2
 refine wp_loop (fun a n=>∃(f:Nat),f<=b+1/\a.defers=[]/\gS a [1,2,5,6,7]=(153,[.slice J b I,.pointer (some ⟨t,0,none⟩),.int .i64 b,.slice (some ⟨t+1,0,none⟩) (b+1) (b+1),.int .i64 f])/\n.ownsRow (t+1) 162 1 (.slice (some ⟨t+1,0,none⟩) (b+1) (b+1)) (b+1) (Zo (b+1) (fun a=>if a<f then Q1 (noB) a else 0))/\n.heap[t]?=some (.cells #[.int .i64 3,.int .u32 (pl:Int),.int .u32 (mi:Int),.bool nt,.int .i64 mn,.int .i64 mx,.slice B m C] 47 (0,0))/\Ext k n)
  (fun a _=>b+1 - (intOf (a.tmps.getD 7 undef)).toNat) ?_ ?_
 ·exact⟨0,by omega,rfl,rfl,d,s.out,a6⟩
 clear d a6 s;rintro⟨f0,_⟩ n ⟨f,g3,Q,z,d,o,e⟩;subst Q;obtain⟨f1,rfl⟩:=Qc z;clear z;have u:=zR o;by_cases g4:f<b+1
 ·have K:(f:Int)<=(b:Int):=by omega
  have f8:(f:Int)<(b:Int)+1:=by omega
  have f9:(f:Int)<64:=by omega
  have c6:Q1 (noB) f=0:=Uh f
  rw [Ql (g:=fun a=>if a<f+1 then Q1 (noB) a else 0) (fun c _=>by
   by_cases D:c=f
   ·rw [if_neg oz,if_pos oz,D,c6]
   ·by_cases a5:c<f
    ·rw [if_pos a5,if_pos oz]
    ·rw [if_neg a5,if_neg oz])] at d
  have q:=Zh d;clear d c6;go_wp2;exact⟨⟨f+1,by omega,tz,rfl,q.out,o,e⟩,mz⟩
 ·obtain rfl:f=b+1:=by omega
  have K:¬ (((b+1:Nat):Int)<=(b:Int)):=by omega
  clear d u;have u:=zR o;go_wp2_with fail;refine(Q2e b O _).mono ?_;rintro D d9 ⟨f2,rfl,d,v⟩;have d:=Z9 (base':=k.heap.size) d (by have:=e.size;exact this);have o:=v.keep o;have e:=e.trans v;have c0:Q1 (idB b)=Q1 (U8 i (l.take 0) (idB b)):=by rw [List.take_zero,U8]
  rw [c0] at d;have q:=Zh d;have s:=Zh o;clear c0 d v u;go_wp2
  refine wp_loop (fun a n=>∃(c:Nat) (a1:Value),c<=m/\a.defers=[]/\gS a [1,2,5,6,8]=(153,[.slice J b I,.pointer (some ⟨t,0,none⟩),.int .i64 b,a1,.int .i64 c])/\n.ownsRow k.heap.size 162 1 a1 (b+1) (Zo (b+1) (Q1 (U8 i (l.take c) (idB b))))/\n.heap[t]?=some (.cells #[.int .i64 3,.int .u32 (pl:Int),.int .u32 (mi:Int),.bool nt,.int .i64 mn,.int .i64 mx,.slice B m C] 47 (0,0))/\Ext k n)
   (fun a _=>m - (intOf (a.tmps.getD 8 undef)).toNat) ?_ ?_
  ·exact⟨0,f2,by omega,rfl,rfl,q.out,s.out,e⟩
  clear q s e;rintro⟨f0,_⟩ n ⟨c,a1,g2,Q,z,d,o,e⟩;subst Q;obtain⟨f1,rfl⟩:=Qc z;clear z;have u:=zR o;by_cases e8:c<m
  ·have K:(c:Int)<(m:Int):=by omega
   have F:c<l.length:=by rw [a3.out];exact e8
   obtain⟨g,g7,e0,rfl,g0,g1,W,U⟩:=(d1.out.ext e).get c F;rw [Nat.zero_add] at W;obtain⟨g9,g8,P,_,_,_⟩:=Zg U;obtain⟨e1,c1,c2,e2,e3,e4,e5⟩:=Xj W P;have w:=d8.out _ (List.getElem_mem F) a4 n e0 _ i U (d6.out.ext e) (by rw [x.out];exact O) (d0.out _ (List.getElem_mem F));rw [x.out] at w;have c5:l.take (c+1)=l.take c++[l[c]]:=List.take_succ_eq_append_getElem F;have S:Qm b (U8 i (l.take c) (idB b)):=by
    have:=Ng i (l.take c) (idB b) (by rw [x.out];exact Qm.id b);rw [x.out] at this;exact this
   have G:Q1 (U8 i (l.take (c+1)) (idB b))=Q1 (comp (U8 i (l.take c) (idB b)) (Yo i l[c])):=by
    rw [c5,Bq]
   rw [P] at w;unfold Qd at w;obtain⟨A,b0⟩:=zE (U8 i (l.take c) (idB b));obtain⟨f6,a9⟩:=zE (Yo i l[c]);rw [b0] at d S G;rw [a9] at w G;obtain⟨a2,d2,d3,q,s⟩:=Zh5 w S G d o;clear w W U P S G c5 b0 a9 d;go_wp2_with fail;refine a2.out.mono ?_;rintro D d9 ⟨i0,rfl,a7,v⟩;have c3:=(Yi.own q.out).ext v;have c4:=Yi.own a7;have a0:=v.keep s.out;have e:=e.trans v;clear e1 c1 c2 e2 e3 e4 e5 a2 u o a7;have u:=zR a0;go_wp2_with fail;refine(Dh O c3 c4 d2.out).mono ?_;rintro D f7 ⟨f3,rfl,a8,M⟩;have c7:=M.keep a0;have e7:=e.trans M;have N:=Z9 (base':=k.heap.size) a8 (by have:=e.size;exact this);rw [<-d3.out] at N;have d4:=Zh N;have d7:=Zh c7;clear a8 N M e c3 c4 u a0 c7 q s;go_wp2;exact⟨⟨c+1,f3,by omega,tz,rfl,d4.out,d7.out,e7⟩,nz⟩
  ·obtain rfl:c=m:=by omega
   have K:¬ (c:Int)<(c:Int):=by omega
   have b4:Q1 (U8 i (l.take c) (idB b))=Q1 (Yo i (.node 3 pl mi nt mn mx l)):=by
    rw [d5.out,List.take_of_length_le (by rw [a3.out];exact Nat.le_refl _),x.out]
   rw [b4] at d;have q:=Zh d;clear d b4;go_wp2;go_ret;exact⟨_,rfl,q.out,e⟩
theorem Qcg(pl mi:Nat)(nt:Bool)(mn mx:Int)(l:List Pat)(c7:∀ p∈l,Ug p):Ug (.node 4 pl mi nt mn mx l):=by
 intro a3 k e5 g9 f S X b8 b0;have x:∀ V:World,Ext k V->Qj a3 V (.node 4 pl mi nt mn mx l) e5:=fun V i=>S.ext i;unfold Qj at S;obtain⟨z,A,rfl,g4,g3,b7,b3,b6⟩:=S;obtain⟨H,G,rfl,b1⟩:=X.slice;rw [Ka] at b0;obtain⟨b9,b5⟩:=b0;have Q:Xv l:=b5;rw [Kp] at Q;clear b5;have W:=Kl f 4 pl mi nt mn mx l;rw [if_neg zd,if_neg zd,if_neg zd,if_pos rfl] at W;unfold Qd;obtain⟨m,B⟩:=zE l.length;obtain⟨b,E⟩:=zE f.length;obtain⟨F,a2,d5,d1,d0,d4,f3,d7⟩:=Zh8 E B X b6 Q W b9 c7;have e8:m<=maxLen:=by rw [<-B];exact Nat.le_trans b7 b3
 have b2:b<=32:=by rw [<-E];exact b8
 unfold maxLen at e8 b1;show Calls Tryz.prog 216 #[.agg #[.int .i64 4,.int .u32 (pl:Int),.int .u32 (mi:Int),.bool nt,.int .i64 mn,.int .i64 mx,.slice z l.length A],.slice H f.length G] k _;rw [B,E];clear c7 X b6 Q W b9 b7 b3 B E b8 b1 x;go_enter Tryz.func216,Tryz.ntmps216
 go_wp2_with (at_make;refine Yw rfl (.tmp 17) (.tmp 17) 238 rfl (k.heap.size+1) 162 _ 8 Tryz.underlying238 Tryz.infoU rfl .i64 .i64 _ _ (b+1) rfl rfl zq zq ?c1 ?c2 zy ?_)
 case c1=>omega
 case c2=>unfold maxLen;omega
 intro c8 d x;obtain⟨t,K⟩:=zE k.heap.size;have Y:c8.heap[k.heap.size]?=some (.cells #[.int .i64 4,.int .u32 (pl:Int),.int .u32 (mi:Int),.bool nt,.int .i64 mn,.int .i64 mx,.slice z m A] 47 (0,0)):=x.keep (Q3 rfl);have a5:Ext k c8:=Q0.trans ((Q0.refl _ k).alloc _) x;rw [K] at d Y ⊢;rw [U6,show Zo (b+1) (fun _=>0)=Zo (b+1) (fun a=>if a<0 then Q1 (noB) a else 0) from Ql fun a _=>by simp] at d;have c9:=Zh K;have q:=Zh Y;clear K Y x;go_wp2
 refine wp_loop (fun a n=>∃(e:Nat),e<=b+1/\a.defers=[]/\gS a [1,2,5,6,7]=(153,[.slice H b G,.pointer (some ⟨t,0,none⟩),.int .i64 b,.slice (some ⟨t+1,0,none⟩) (b+1) (b+1),.int .i64 e])/\n.ownsRow (t+1) 162 1 (.slice (some ⟨t+1,0,none⟩) (b+1) (b+1)) (b+1) (Zo (b+1) (fun a=>if a<e then Q1 (noB) a else 0))/\n.heap[t]?=some (.cells #[.int .i64 4,.int .u32 (pl:Int),.int .u32 (mi:Int),.bool nt,.int .i64 mn,.int .i64 mx,.slice z m A] 47 (0,0))/\Ext k n)
  (fun a _=>b+1 - (intOf (a.tmps.getD 7 undef)).toNat) ?_ ?_
 ·exact⟨0,by omega,rfl,rfl,d,q.out,a5⟩
 clear d a5 q;rintro⟨e9,_⟩ n ⟨e,g1,P,y,d,s,i⟩;subst P;obtain⟨f0,rfl⟩:=Qc y;clear y;have u:=zR s;by_cases g2:e<b+1
 ·have J:(e:Int)<=(b:Int):=by omega
  have f6:(e:Int)<(b:Int)+1:=by omega
  have f7:(e:Int)<64:=by omega
  have c5:Q1 (noB) e=0:=Uh e
  rw [Ql (g:=fun a=>if a<e+1 then Q1 (noB) a else 0) (fun c _=>by
   by_cases I:c=e
   ·rw [if_neg oz,if_pos oz,I,c5]
   ·by_cases a4:c<e
    ·rw [if_pos a4,if_pos oz]
    ·rw [if_neg a4,if_neg oz])] at d
  have o:=Zh d;clear d c5;go_wp2;exact⟨⟨e+1,by omega,tz,rfl,o.out,s,i⟩,mz⟩
 ·obtain rfl:e=b+1:=by omega
  have J:¬ (((b+1:Nat):Int)<=(b:Int)):=by omega
  clear u;rw [Ql (g:=Q1 (Uv f (l.take 0))) (fun a ha=>by rw [if_pos ha,List.take_zero,Uv])] at d;have d:=Z9 (base':=k.heap.size) d (by have:=c9.out;omega);have u:=zR s;have o:=Zh d;have q:=Zh s;clear d;go_wp2
  refine wp_loop (fun a n=>∃(c:Nat) (a0:Value),c<=m/\a.defers=[]/\gS a [1,2,5,6,9]=(153,[.slice H b G,.pointer (some ⟨t,0,none⟩),.int .i64 b,a0,.int .i64 c])/\n.ownsRow k.heap.size 162 1 a0 (b+1) (Zo (b+1) (Q1 (Uv f (l.take c))))/\n.heap[t]?=some (.cells #[.int .i64 4,.int .u32 (pl:Int),.int .u32 (mi:Int),.bool nt,.int .i64 mn,.int .i64 mx,.slice z m A] 47 (0,0))/\Ext k n)
   (fun a _=>m - (intOf (a.tmps.getD 9 undef)).toNat) ?_ ?_
  ·exact⟨0,_,by omega,rfl,rfl,o.out,q.out,i⟩
  clear o q i;rintro⟨e9,_⟩ n ⟨c,a0,g0,P,y,d,s,i⟩;subst P;obtain⟨f0,rfl⟩:=Qc y;clear y;have u:=zR s;by_cases e7:c<m
  ·have J:(c:Int)<(m:Int):=by omega
   have C:c<l.length:=by rw [a2.out];exact e7
   obtain⟨g,g5,d9,rfl,f8,f9,U,T⟩:=(d1.out.ext i).get c C;rw [Nat.zero_add] at U;obtain⟨g7,g6,O,_,_,_⟩:=Zg T;obtain⟨e0,c1,c2,e1,e2,e3,e4⟩:=Xj U O;have v:=d7.out _ (List.getElem_mem C) a3 n d9 _ f T (d5.out.ext i) (by rw [F.out];exact b2) (d0.out _ (List.getElem_mem C));rw [F.out] at v;have c4:l.take (c+1)=l.take c++[l[c]]:=List.take_succ_eq_append_getElem C;have R:Qm b (Uv f (l.take c)):=by
    have:=Nr f (l.take c);rw [F.out] at this;exact this
   have D:Q1 (Uv f (l.take (c+1)))=fun a=>Q1 (Uv f (l.take c)) a ||| Q1 (Yo f l[c]) a:=by
    rw [c4,Cq]
    funext a;rw [Bh]
   rw [O] at v;unfold Qd at v;obtain⟨w,a9⟩:=zE (Uv f (l.take c));obtain⟨d8,a8⟩:=zE (Yo f l[c]);rw [a9] at d R D;rw [a8] at v D;obtain⟨a1,f2,d2,o,q⟩:=Zh5 v R D d s;clear v U T O R D c4 a9 a8 d;go_wp2_with fail;refine a1.out.mono ?_;rintro I f4 ⟨g8,rfl,a6,L⟩;have c0:=(Yi.own o.out).ext L;have c3:=Yi.own a6;have Z:=L.keep q.out;have i:=i.trans L;clear e0 c1 c2 e1 e2 e3 e4 a1 u s a6;have u:=zR Z;go_wp2_with fail;refine(Q10 b2 c0 c3 (fun a=>Xd w a) (fun a=>Xd d8 a)).mono ?_;rintro I f5 ⟨f1,rfl,a7,M⟩;have c6:=M.keep Z;have e6:=i.trans M;have N:=Z9 (base':=k.heap.size) a7 (by have:=i.size;exact this);rw [<-d2.out] at N;have d3:=Zh N;have d6:=Zh c6;clear a7 N M i c0 c3 u Z c6 o q;go_wp2;exact⟨⟨c+1,f1,by omega,tz,rfl,d3.out,d6.out,e6⟩,nz⟩
  ·obtain rfl:c=m:=by omega
   have J:¬ (c:Int)<(c:Int):=by omega
   have b4:Q1 (Uv f (l.take c))=Q1 (Yo f (.node 4 pl mi nt mn mx l)):=by
    rw [d4.out,List.take_of_length_le (by rw [a2.out];exact Nat.le_refl _)]
   rw [b4] at d;have o:=Zh d;clear d b4;go_wp2;go_ret;exact⟨_,rfl,o.out,i⟩
end Go.Proofs.YtejenndedjabhaaGreatDoor
