/- ablautref06.Table, patterns one after the other, and either of some (printed by gentable.py). -/
import Derived.Test.YtejenndedjabhaaGreatDoorT15
set_option maxRecDepth 100000
set_option maxHeartbeats 8000000
namespace Go.Proofs.YtejenndedjabhaaGreatDoor
open Go.RowKit Go.Ab
attribute [local go_sem] Oper.semAt_some Y5 Z9
theorem Ql6(pl mi:Nat)(nt:Bool)(mn mx:Int)(l:List Pat)(c8:∀ p∈l,Ke p):Ke (.node 3 pl mi nt mn mx l):=by
 intro a4 k e6 i1 i T Y b8 b1;have y:∀ V:World,Ext k V->Qu a4 V (.node 3 pl mi nt mn mx l) e6:=fun V e=>T.ext e;unfold Qu at T;obtain⟨B,C,rfl,g6,g5,b7,b3,b6⟩:=T;obtain⟨J,I,rfl,b2⟩:=Y.slice;rw [Hp] at b1;obtain⟨b9,b5⟩:=b1;have R:Ud l:=b5;rw [Wf] at R;clear b5;have X:=Wh i 3 pl mi nt mn mx l;rw [if_neg zd,if_neg zd,if_neg zd,if_neg zd,if_neg zd] at X;unfold Ql;obtain⟨m,E⟩:=zE l.length;obtain⟨b,H⟩:=zE i.length;obtain⟨x,a3,d6,d1,d0,d5,f5,d8⟩:=Zh8 H E Y b6 R X b9 c8;have e9:m<=maxLen:=by rw [<-E];exact Nat.le_trans b7 b3
 have O:b<=32:=by rw [<-H];exact b8
 unfold maxLen at e9 b2;show Calls Tryz.prog 216 #[.agg #[.int .i64 3,.int .u32 (pl:Int),.int .u32 (mi:Int),.bool nt,.int .i64 mn,.int .i64 mx,.slice B l.length C],.slice J i.length I] k _;rw [E,H];clear c8 Y b6 R X b9 b7 b3 E H b8 b2 y;go_enter Tryz.func216,Tryz.ntmps216
 go_wp2_with (at_make;refine Yu rfl (.tmp 17) (.tmp 17) 238 rfl (k.heap.size+1) 162 _ 8 Tryz.underlying238 Tryz.infoU rfl .i64 .i64 _ _ (b+1) rfl rfl zq zq ?c1 ?c2 zy ?_)
 case c1=>omega
 case c2=>unfold maxLen;omega
 intro c9 d y;obtain⟨t,L⟩:=zE k.heap.size;have Z:c9.heap[k.heap.size]?=some (.cells #[.int .i64 3,.int .u32 (pl:Int),.int .u32 (mi:Int),.bool nt,.int .i64 mn,.int .i64 mx,.slice B m C] 47 (0,0)):=y.keep (new_at rfl);have a6:Ext k c9:=Qa.trans ((Qa.refl _ k).alloc _) y;rw [L] at d Z ⊢;rw [Vl,show Y7 (b+1) (fun _=>0)=Y7 (b+1) (fun a=>if a<0 then Qc (noB) a else 0) from Qv fun a _=>by simp] at d;have f4:=Zh L;have s:=Zh Z;clear L Z y;go_wp2
 refine wp_loop (fun a n=>∃(f:Nat),f<=b+1/\a.defers=[]/\gS a [1,2,5,6,7]=(153,[.slice J b I,.pointer (some ⟨t,0,none⟩),.int .i64 b,.slice (some ⟨t+1,0,none⟩) (b+1) (b+1),.int .i64 f])/\n.ownsRow (t+1) 162 1 (.slice (some ⟨t+1,0,none⟩) (b+1) (b+1)) (b+1) (Y7 (b+1) (fun a=>if a<f then Qc (noB) a else 0))/\n.heap[t]?=some (.cells #[.int .i64 3,.int .u32 (pl:Int),.int .u32 (mi:Int),.bool nt,.int .i64 mn,.int .i64 mx,.slice B m C] 47 (0,0))/\Ext k n)
  (fun a _=>b+1 - (intOf (a.tmps.getD 7 undef)).toNat) ?_ ?_
 ·exact⟨0,by omega,rfl,rfl,d,s.out,a6⟩
 clear d a6 s;rintro⟨f0,_⟩ n ⟨f,g3,Q,z,d,o,e⟩;subst Q;obtain⟨f1,rfl⟩:=Qo z;clear z;have u:=zR o;by_cases g4:f<b+1
 ·have K:(f:Int)<=(b:Int):=by omega
  have f8:(f:Int)<(b:Int)+1:=by omega
  have f9:(f:Int)<64:=by omega
  have c6:Qc (noB) f=0:=Kd f
  rw [Qv (g:=fun a=>if a<f+1 then Qc (noB) a else 0) (fun c _=>by
   by_cases D:c=f
   ·rw [if_neg oz,if_pos oz,D,c6]
   ·by_cases a5:c<f
    ·rw [if_pos a5,if_pos oz]
    ·rw [if_neg a5,if_neg oz])] at d
  have q:=Zh d;clear d c6;go_wp2;exact⟨⟨f+1,by omega,tz,rfl,q.out,o,e⟩,mz⟩
 ·obtain rfl:f=b+1:=by omega
  have K:¬ (((b+1:Nat):Int)<=(b:Int)):=by omega
  clear d u;have u:=zR o;go_wp2_with fail;refine(Q70 b O _).mono ?_;rintro D d9 ⟨f2,rfl,d,v⟩;have d:=Zz (base':=k.heap.size) d (by have:=e.size;exact this);have o:=v.keep o;have e:=e.trans v;have c0:Qc (idB b)=Qc (Vo i (l.take 0) (idB b)):=by rw [List.take_zero,Vo]
  rw [c0] at d;have q:=Zh d;have s:=Zh o;clear c0 d v u;go_wp2
  refine wp_loop (fun a n=>∃(c:Nat) (a1:Value),c<=m/\a.defers=[]/\gS a [1,2,5,6,8]=(153,[.slice J b I,.pointer (some ⟨t,0,none⟩),.int .i64 b,a1,.int .i64 c])/\n.ownsRow k.heap.size 162 1 a1 (b+1) (Y7 (b+1) (Qc (Vo i (l.take c) (idB b))))/\n.heap[t]?=some (.cells #[.int .i64 3,.int .u32 (pl:Int),.int .u32 (mi:Int),.bool nt,.int .i64 mn,.int .i64 mx,.slice B m C] 47 (0,0))/\Ext k n)
   (fun a _=>m - (intOf (a.tmps.getD 8 undef)).toNat) ?_ ?_
  ·exact⟨0,f2,by omega,rfl,rfl,q.out,s.out,e⟩
  clear q s e;rintro⟨f0,_⟩ n ⟨c,a1,g2,Q,z,d,o,e⟩;subst Q;obtain⟨f1,rfl⟩:=Qo z;clear z;have u:=zR o;by_cases e8:c<m
  ·have K:(c:Int)<(m:Int):=by omega
   have F:c<l.length:=by rw [a3.out];exact e8
   obtain⟨g,g7,e0,rfl,g0,g1,W,U⟩:=(d1.out.ext e).get c F;rw [Nat.zero_add] at W;obtain⟨g9,g8,P,_,_,_⟩:=Zv U;obtain⟨e1,c1,c2,e2,e3,e4,e5⟩:=Jl W P;have w:=d8.out _ (List.getElem_mem F) a4 n e0 _ i U (d6.out.ext e) (by rw [x.out];exact O) (d0.out _ (List.getElem_mem F));rw [x.out] at w;have c5:l.take (c+1)=l.take c++[l[c]]:=List.take_succ_eq_append_getElem F;have S:Qx b (Vo i (l.take c) (idB b)):=by
    have:=Cw i (l.take c) (idB b) (by rw [x.out];exact Qx.id b);rw [x.out] at this;exact this
   have G:Qc (Vo i (l.take (c+1)) (idB b))=Qc (comp (Vo i (l.take c) (idB b)) (Xd i l[c])):=by
    rw [c5,Q45]
   rw [P] at w;unfold Ql at w;obtain⟨A,b0⟩:=zE (Vo i (l.take c) (idB b));obtain⟨f6,a9⟩:=zE (Xd i l[c]);rw [b0] at d S G;rw [a9] at w G;obtain⟨a2,d2,d3,q,s⟩:=Zh5 w S G d o;clear w W U P S G c5 b0 a9 d;go_wp2_with fail;refine a2.out.mono ?_;rintro D d9 ⟨i0,rfl,a7,v⟩;have c3:=(X7.own q.out).ext v;have c4:=X7.own a7;have a0:=v.keep s.out;have e:=e.trans v;clear e1 c1 c2 e2 e3 e4 e5 a2 u o a7;have u:=zR a0;go_wp2_with fail;refine(No O c3 c4 d2.out).mono ?_;rintro D f7 ⟨f3,rfl,a8,M⟩;have c7:=M.keep a0;have e7:=e.trans M;have N:=Zz (base':=k.heap.size) a8 (by have:=e.size;exact this);rw [<-d3.out] at N;have d4:=Zh N;have d7:=Zh c7;clear a8 N M e c3 c4 u a0 c7 q s;go_wp2;exact⟨⟨c+1,f3,by omega,tz,rfl,d4.out,d7.out,e7⟩,nz⟩
  ·obtain rfl:c=m:=by omega
   have K:¬ (c:Int)<(c:Int):=by omega
   have b4:Qc (Vo i (l.take c) (idB b))=Qc (Xd i (.node 3 pl mi nt mn mx l)):=by
    rw [d5.out,List.take_of_length_le (by rw [a3.out];exact Nat.le_refl _),x.out]
   rw [b4] at d;have q:=Zh d;clear d b4;go_wp2;go_ret;exact⟨_,rfl,q.out,e⟩
theorem Qkv(pl mi:Nat)(nt:Bool)(mn mx:Int)(l:List Pat)(c7:∀ p∈l,Ke p):Ke (.node 4 pl mi nt mn mx l):=by
 intro a3 k e5 g9 f S X b8 b0;have x:∀ V:World,Ext k V->Qu a3 V (.node 4 pl mi nt mn mx l) e5:=fun V i=>S.ext i;unfold Qu at S;obtain⟨z,A,rfl,g4,g3,b7,b3,b6⟩:=S;obtain⟨H,G,rfl,b1⟩:=X.slice;rw [Hp] at b0;obtain⟨b9,b5⟩:=b0;have Q:Ud l:=b5;rw [Wf] at Q;clear b5;have W:=Wh f 4 pl mi nt mn mx l;rw [if_neg zd,if_neg zd,if_neg zd,if_pos rfl] at W;unfold Ql;obtain⟨m,B⟩:=zE l.length;obtain⟨b,E⟩:=zE f.length;obtain⟨F,a2,d5,d1,d0,d4,f3,d7⟩:=Zh8 E B X b6 Q W b9 c7;have e8:m<=maxLen:=by rw [<-B];exact Nat.le_trans b7 b3
 have b2:b<=32:=by rw [<-E];exact b8
 unfold maxLen at e8 b1;show Calls Tryz.prog 216 #[.agg #[.int .i64 4,.int .u32 (pl:Int),.int .u32 (mi:Int),.bool nt,.int .i64 mn,.int .i64 mx,.slice z l.length A],.slice H f.length G] k _;rw [B,E];clear c7 X b6 Q W b9 b7 b3 B E b8 b1 x;go_enter Tryz.func216,Tryz.ntmps216
 go_wp2_with (at_make;refine Yu rfl (.tmp 17) (.tmp 17) 238 rfl (k.heap.size+1) 162 _ 8 Tryz.underlying238 Tryz.infoU rfl .i64 .i64 _ _ (b+1) rfl rfl zq zq ?c1 ?c2 zy ?_)
 case c1=>omega
 case c2=>unfold maxLen;omega
 intro c8 d x;obtain⟨t,K⟩:=zE k.heap.size;have Y:c8.heap[k.heap.size]?=some (.cells #[.int .i64 4,.int .u32 (pl:Int),.int .u32 (mi:Int),.bool nt,.int .i64 mn,.int .i64 mx,.slice z m A] 47 (0,0)):=x.keep (new_at rfl);have a5:Ext k c8:=Qa.trans ((Qa.refl _ k).alloc _) x;rw [K] at d Y ⊢;rw [Vl,show Y7 (b+1) (fun _=>0)=Y7 (b+1) (fun a=>if a<0 then Qc (noB) a else 0) from Qv fun a _=>by simp] at d;have c9:=Zh K;have q:=Zh Y;clear K Y x;go_wp2
 refine wp_loop (fun a n=>∃(e:Nat),e<=b+1/\a.defers=[]/\gS a [1,2,5,6,7]=(153,[.slice H b G,.pointer (some ⟨t,0,none⟩),.int .i64 b,.slice (some ⟨t+1,0,none⟩) (b+1) (b+1),.int .i64 e])/\n.ownsRow (t+1) 162 1 (.slice (some ⟨t+1,0,none⟩) (b+1) (b+1)) (b+1) (Y7 (b+1) (fun a=>if a<e then Qc (noB) a else 0))/\n.heap[t]?=some (.cells #[.int .i64 4,.int .u32 (pl:Int),.int .u32 (mi:Int),.bool nt,.int .i64 mn,.int .i64 mx,.slice z m A] 47 (0,0))/\Ext k n)
  (fun a _=>b+1 - (intOf (a.tmps.getD 7 undef)).toNat) ?_ ?_
 ·exact⟨0,by omega,rfl,rfl,d,q.out,a5⟩
 clear d a5 q;rintro⟨e9,_⟩ n ⟨e,g1,P,y,d,s,i⟩;subst P;obtain⟨f0,rfl⟩:=Qo y;clear y;have u:=zR s;by_cases g2:e<b+1
 ·have J:(e:Int)<=(b:Int):=by omega
  have f6:(e:Int)<(b:Int)+1:=by omega
  have f7:(e:Int)<64:=by omega
  have c5:Qc (noB) e=0:=Kd e
  rw [Qv (g:=fun a=>if a<e+1 then Qc (noB) a else 0) (fun c _=>by
   by_cases I:c=e
   ·rw [if_neg oz,if_pos oz,I,c5]
   ·by_cases a4:c<e
    ·rw [if_pos a4,if_pos oz]
    ·rw [if_neg a4,if_neg oz])] at d
  have o:=Zh d;clear d c5;go_wp2;exact⟨⟨e+1,by omega,tz,rfl,o.out,s,i⟩,mz⟩
 ·obtain rfl:e=b+1:=by omega
  have J:¬ (((b+1:Nat):Int)<=(b:Int)):=by omega
  clear u;rw [Qv (g:=Qc (Kr f (l.take 0))) (fun a ha=>by rw [if_pos ha,List.take_zero,Kr])] at d;have d:=Zz (base':=k.heap.size) d (by have:=c9.out;omega);have u:=zR s;have o:=Zh d;have q:=Zh s;clear d;go_wp2
  refine wp_loop (fun a n=>∃(c:Nat) (a0:Value),c<=m/\a.defers=[]/\gS a [1,2,5,6,9]=(153,[.slice H b G,.pointer (some ⟨t,0,none⟩),.int .i64 b,a0,.int .i64 c])/\n.ownsRow k.heap.size 162 1 a0 (b+1) (Y7 (b+1) (Qc (Kr f (l.take c))))/\n.heap[t]?=some (.cells #[.int .i64 4,.int .u32 (pl:Int),.int .u32 (mi:Int),.bool nt,.int .i64 mn,.int .i64 mx,.slice z m A] 47 (0,0))/\Ext k n)
   (fun a _=>m - (intOf (a.tmps.getD 9 undef)).toNat) ?_ ?_
  ·exact⟨0,_,by omega,rfl,rfl,o.out,q.out,i⟩
  clear o q i;rintro⟨e9,_⟩ n ⟨c,a0,g0,P,y,d,s,i⟩;subst P;obtain⟨f0,rfl⟩:=Qo y;clear y;have u:=zR s;by_cases e7:c<m
  ·have J:(c:Int)<(m:Int):=by omega
   have C:c<l.length:=by rw [a2.out];exact e7
   obtain⟨g,g5,d9,rfl,f8,f9,U,T⟩:=(d1.out.ext i).get c C;rw [Nat.zero_add] at U;obtain⟨g7,g6,O,_,_,_⟩:=Zv T;obtain⟨e0,c1,c2,e1,e2,e3,e4⟩:=Jl U O;have v:=d7.out _ (List.getElem_mem C) a3 n d9 _ f T (d5.out.ext i) (by rw [F.out];exact b2) (d0.out _ (List.getElem_mem C));rw [F.out] at v;have c4:l.take (c+1)=l.take c++[l[c]]:=List.take_succ_eq_append_getElem C;have R:Qx b (Kr f (l.take c)):=by
    have:=Br f (l.take c);rw [F.out] at this;exact this
   have D:Qc (Kr f (l.take (c+1)))=fun a=>Qc (Kr f (l.take c)) a ||| Qc (Xd f l[c]) a:=by
    rw [c4,Q4f]
    funext a;rw [Q2q]
   rw [O] at v;unfold Ql at v;obtain⟨w,a9⟩:=zE (Kr f (l.take c));obtain⟨d8,a8⟩:=zE (Xd f l[c]);rw [a9] at d R D;rw [a8] at v D;obtain⟨a1,f2,d2,o,q⟩:=Zh5 v R D d s;clear v U T O R D c4 a9 a8 d;go_wp2_with fail;refine a1.out.mono ?_;rintro I f4 ⟨g8,rfl,a6,L⟩;have c0:=(X7.own o.out).ext L;have c3:=X7.own a6;have Z:=L.keep q.out;have i:=i.trans L;clear e0 c1 c2 e1 e2 e3 e4 a1 u s a6;have u:=zR Z;go_wp2_with fail;refine(Q84 b2 c0 c3 (fun a=>Je w a) (fun a=>Je d8 a)).mono ?_;rintro I f5 ⟨f1,rfl,a7,M⟩;have c6:=M.keep Z;have e6:=i.trans M;have N:=Zz (base':=k.heap.size) a7 (by have:=i.size;exact this);rw [<-d2.out] at N;have d3:=Zh N;have d6:=Zh c6;clear a7 N M i c0 c3 u Z c6 o q;go_wp2;exact⟨⟨c+1,f1,by omega,tz,rfl,d3.out,d6.out,e6⟩,nz⟩
  ·obtain rfl:c=m:=by omega
   have J:¬ (c:Int)<(c:Int):=by omega
   have b4:Qc (Kr f (l.take c))=Qc (Xd f (.node 4 pl mi nt mn mx l)):=by
    rw [d4.out,List.take_of_length_le (by rw [a2.out];exact Nat.le_refl _)]
   rw [b4] at d;have o:=Zh d;clear d b4;go_wp2;go_ret;exact⟨_,rfl,o.out,i⟩
end Go.Proofs.YtejenndedjabhaaGreatDoor
