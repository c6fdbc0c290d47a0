/- ablautref06.Table, patterns without parts (printed by gentable.py). -/
import Derived.Test.YtejenndedjabhaaGreatDoorS07
set_option maxRecDepth 100000
set_option maxHeartbeats 8000000
namespace Go.Proofs.YtejenndedjabhaaGreatDoor
open Go.RowKit Go.Ab
attribute [local go_sem] Oper.semAt_some Zm Qv
def Ug(p:Pat):Prop:=∀(K:Nat->Prop) (w:World) (cs:List Value) (v:Value) (ws:Wd),Qj K w p cs->Q4 w v ws->ws.length<=32->Nw p ->
 Calls Tryz.prog 216 #[.agg cs.toArray,v] w fun e w'=>∃ u,e=.returned u/\w'.ownsRow w.heap.size 162 1 u (ws.length+1) (Zo (ws.length+1) (Q1 (Yo ws p)))/\Ext w w'
theorem M9{X:Qg}{a b:Nat}(d:b<33)(h:∀ c,c<33->X a c=(c == b)):Q1 X a=2 ^ b:=by
 rw [Hx (n:=33) oz];exact Vj fun i hi=>h i hi
theorem Wu{X:Qg}{a:Nat}(h:∀ c,c<33->X a c=false):Q1 X a=0:=by
 unfold Q1;rw [<-Km 33];exact Vj fun i hi=>h i hi
theorem Qcy(pl mi:Nat)(nt:Bool)(mn mx:Int)(l:List Pat):Ug (.node 0 pl mi nt mn mx l):=by
 intro a8 e a9 d1 m A D X P;have q:∀ V:World,Ext e V->Qj a8 V (.node 0 pl mi nt mn mx l) a9:=fun V o=>A.ext o;unfold Qj at A;obtain⟨s,t,rfl,c7,c6,W,R,T⟩:=A;obtain⟨J,I,rfl,Q⟩:=D.slice;rw [Ka] at P;obtain⟨z,S⟩:=P;have y:Xv l:=S;rw [Kp] at y;clear S;have B:=Kl m 0 pl mi nt mn mx l;have U:l=[]:=(Md z).2.2.1 zd zd zd;have K:U8 m l (idB m.length)=idB m.length:=by rw [U,U8]
 rw [if_neg zd,if_neg zd,if_neg zd,if_neg zd,if_neg zd,K] at B;clear K U;unfold Qd;obtain⟨n,u⟩:=zE l.length;obtain⟨b,v⟩:=zE m.length;obtain⟨a3,b7,b9,b6,b5,a5,b8⟩:=Zh7 v u D T y B z;have b4:n<=maxLen:=by rw [<-u];exact Nat.le_trans W R
 have b1:b<=32:=by rw [<-v];exact X
 unfold maxLen at b4 Q;show Calls Tryz.prog 216 #[.agg #[.int .i64 0,.int .u32 (pl:Int),.int .u32 (mi:Int),.bool nt,.int .i64 mn,.int .i64 mx,.slice s l.length t],.slice J m.length I] e _;rw [u,v];clear D T y B z W R u v X Q q;go_enter Tryz.func216,Tryz.ntmps216
 go_wp2_with (at_make;refine Yw rfl (.tmp 17) (.tmp 17) 238 rfl (e.heap.size+1) 162 _ 8 Tryz.underlying238 Tryz.infoU rfl .i64 .i64 _ _ (b+1) rfl rfl zq zq ?c1 ?c2 zy ?_)
 case c1=>omega
 case c2=>unfold maxLen;omega
 intro a1 d q;obtain⟨c,x⟩:=zE e.heap.size;have F:a1.heap[e.heap.size]?=some (.cells #[.int .i64 0,.int .u32 (pl:Int),.int .u32 (mi:Int),.bool nt,.int .i64 mn,.int .i64 mx,.slice s n t] 47 (0,0)):=q.keep (Q3 rfl);have M:Ext e a1:=Q0.trans ((Q0.refl _ e).alloc _) q;rw [x] at d F ⊢;rw [U6,show Zo (b+1) (fun _=>0)=Zo (b+1) (fun a=>if a<0 then Q1 (idB b) a else 0) from Ql fun a _=>by simp] at d;have G:=Zh x;have H:=Zh F;clear x F q;go_wp2
 refine wp_loop (fun a f=>∃(k:Nat),k<=b+1/\a.defers=[]/\gS a [1,2,5,6,7]=(153,[.slice J b I,.pointer (some ⟨c,0,none⟩),.int .i64 b,.slice (some ⟨c+1,0,none⟩) (b+1) (b+1),.int .i64 k])/\f.ownsRow (c+1) 162 1 (.slice (some ⟨c+1,0,none⟩) (b+1) (b+1)) (b+1) (Zo (b+1) (fun a=>if a<k then Q1 (idB b) a else 0))/\f.heap[c]?=some (.cells #[.int .i64 0,.int .u32 (pl:Int),.int .u32 (mi:Int),.bool nt,.int .i64 mn,.int .i64 mx,.slice s n t] 47 (0,0))/\Ext e f)
  (fun a _=>b+1 - (intOf (a.tmps.getD 7 undef)).toNat) ?_ ?_
 ·exact⟨0,by omega,rfl,rfl,d,H.out,M⟩
 clear d M H;rintro⟨c9,_⟩ f ⟨k,c5,b2,Y,d,E,o⟩;subst b2;obtain⟨d0,rfl⟩:=Qc Y;clear Y;have c0:=zR E;by_cases b3:k<b+1
 ·have b0:(k:Int)<=(b:Int):=by omega
  have c3:(k:Int)<(b:Int)+1:=by omega
  have c4:(k:Int)<64:=by omega
  have c8:=Ha (k:=k) oz;have Z:Q1 (idB b) k=2 ^ k:=Tu b1 oz;have C:=Ym d k (.int .u64 ((2 ^ k:Nat):Int))
  rw [Ki,Ql (g:=fun a=>if a<k+1 then Q1 (idB b) a else 0) (fun i _=>by
   unfold Kh;by_cases w:i=k
   ·rw [if_pos w,if_pos oz,w,Z]
   ·rw [if_neg w];show (if i<k then Q1 (idB b) i else 0)=_;by_cases L:i<k
    ·rw [if_pos L,if_pos oz]
    ·rw [if_neg L,if_neg oz])] at C
  have c1:f.cell? ⟨c+1,k,none⟩=some (.int .u64 ((if k<k then Q1 (idB b) k else 0:Nat):Int)):=by rw [d.cellAt k oz,Js _ b3]
  rw [if_neg (Nat.lt_irrefl k)] at c1;have c2:f.frozen? ⟨c+1,k,none⟩=false:=d.frozenAt k;have N:Ext e (f.setCell ⟨c+1,k,none⟩ (.int .u64 ((2 ^ k:Nat):Int))):=o.setCell (p:=⟨c+1,k,none⟩) (.inl (show e.heap.size<=c+1 by have:=G.out;omega)) _;have a0:(f.setCell ⟨c+1,k,none⟩ (.int .u64 ((2 ^ k:Nat):Int))).heap[c]?=some (.cells #[.int .i64 0,.int .u32 (pl:Int),.int .u32 (mi:Int),.bool nt,.int .i64 mn,.int .i64 mx,.slice s n t] 47 (0,0)):=Dz E zy;obtain⟨a6,a2,a7⟩:=Zh3 C N a0;clear C N a0 d o E Z;go_wp2;exact⟨⟨k+1,by omega,tz,rfl,a6.out,a7.out,a2.out⟩,mz⟩
 ·obtain rfl:k=b+1:=by omega
  have b0:¬ (((b+1:Nat):Int)<=(b:Int)):=by omega
  obtain rfl:=a3.out;rw [Ql (g:=Q1 (Yo m (.node 0 pl mi nt mn mx l))) (fun a ha=>by rw [if_pos ha,a5.out])] at d;have O:=Z9 (base':=e.heap.size) d (by have:=G.out;omega);have a4:=Zh O;clear d O;go_wp2;go_ret;exact⟨_,rfl,a4.out,o⟩
theorem Qcz(pl mi:Nat)(nt:Bool)(mn mx:Int)(l:List Pat):Ug (.node 2 pl mi nt mn mx l):=by
 intro a9 m b0 d2 C G J Z S;have u:∀ V:World,Ext m V->Qj a9 V (.node 2 pl mi nt mn mx l) b0:=fun V q=>G.ext q;unfold Qj at G;obtain⟨w,x,rfl,c9,c8,Y,U,X⟩:=G;obtain⟨O,N,rfl,T⟩:=J.slice;rw [Ka] at S;obtain⟨a0,W⟩:=S;have F:Xv l:=W;rw [Kp] at F;clear W;have H:=Kl C 2 pl mi nt mn mx l;rw [if_neg zd,if_pos rfl] at H;unfold Qd;obtain⟨o,y⟩:=zE l.length;obtain⟨e,A⟩:=zE C.length;obtain⟨a5,b8,c0,b7,b6,a6,b9⟩:=Zh7 A y J X F H a0;have b5:o<=maxLen:=by rw [<-y];exact Nat.le_trans Y U
 have c6:e<=32:=by rw [<-A];exact Z
 unfold maxLen at b5 T;show Calls Tryz.prog 216 #[.agg #[.int .i64 2,.int .u32 (pl:Int),.int .u32 (mi:Int),.bool nt,.int .i64 mn,.int .i64 mx,.slice w l.length x],.slice O C.length N] m _;rw [y,A];clear J X F H a0 Y U y A Z T u;go_enter Tryz.func216,Tryz.ntmps216
 go_wp2_with (at_make;refine Yw rfl (.tmp 17) (.tmp 17) 238 rfl (m.heap.size+1) 162 _ 8 Tryz.underlying238 Tryz.infoU rfl .i64 .i64 _ _ (e+1) rfl rfl zq zq ?c1 ?c2 zy ?_)
 case c1=>omega
 case c2=>unfold maxLen;omega
 intro a3 f u;obtain⟨k,E⟩:=zE m.heap.size;have K:a3.heap[m.heap.size]?=some (.cells #[.int .i64 2,.int .u32 (pl:Int),.int .u32 (mi:Int),.bool nt,.int .i64 mn,.int .i64 mx,.slice w o x] 47 (0,0)):=u.keep (Q3 rfl);have P:Ext m a3:=Q0.trans ((Q0.refl _ m).alloc _) u;rw [E] at f K ⊢;rw [U6,show Zo (e+1) (fun _=>0)=Zo (e+1) (fun a=>if a<0 then Q1 (Zp 0) a else 0) from Ql fun a _=>by simp] at f;have L:=Zh E;have M:=Zh K;clear E K u;go_wp2
 refine wp_loop (fun a n=>∃(d:Nat),d<=e+1/\a.defers=[]/\gS a [1,2,5,6,7]=(153,[.slice O e N,.pointer (some ⟨k,0,none⟩),.int .i64 e,.slice (some ⟨k+1,0,none⟩) (e+1) (e+1),.int .i64 d])/\n.ownsRow (k+1) 162 1 (.slice (some ⟨k+1,0,none⟩) (e+1) (e+1)) (e+1) (Zo (e+1) (fun a=>if a<d then Q1 (Zp 0) a else 0))/\n.heap[k]?=some (.cells #[.int .i64 2,.int .u32 (pl:Int),.int .u32 (mi:Int),.bool nt,.int .i64 mn,.int .i64 mx,.slice w o x] 47 (0,0))/\Ext m n)
  (fun a _=>e+1 - (intOf (a.tmps.getD 7 undef)).toNat) ?_ ?_
 ·exact⟨0,by omega,rfl,rfl,f,M.out,P⟩
 clear f P M;rintro⟨d0,_⟩ n ⟨d,c7,b3,a1,f,B,q⟩;subst b3;obtain⟨d1,rfl⟩:=Qc a1;clear a1;have c3:=zR B;by_cases b4:d<e+1
 ·have b2:(d:Int)<=(e:Int):=by omega
  have c4:(d:Int)<(e:Int)+1:=by omega
  have c5:(d:Int)<64:=by omega
  by_cases z:d=0
  ·have b1:((d:Int) == 0)=true:=by rw [beq_iff_eq];omega
   have v:Q1 (Zp 0) d=1:=by rw [z];exact M9 (b:=0) oz (fun c _=>by simp [Zp])
   have I:=Ym f d (.int .u64 ((1:Nat):Int))
   rw [Ki,Ql (g:=fun a=>if a<d+1 then Q1 (Zp 0) a else 0) (fun i _=>by
    unfold Kh;by_cases s:i=d
    ·rw [if_pos s,if_pos oz,s,v]
    ·rw [if_neg s];show (if i<d then Q1 (Zp 0) i else 0)=_;by_cases t:i<d
     ·rw [if_pos t,if_pos oz]
     ·rw [if_neg t,if_neg oz])] at I
   have c1:n.cell? ⟨k+1,d,none⟩=some (.int .u64 ((if d<d then Q1 (Zp 0) d else 0:Nat):Int)):=by rw [f.cellAt d oz,Js _ b4]
   rw [if_neg (Nat.lt_irrefl d)] at c1;have c2:n.frozen? ⟨k+1,d,none⟩=false:=f.frozenAt d;have Q:Ext m (n.setCell ⟨k+1,d,none⟩ (.int .u64 ((1:Nat):Int))):=q.setCell (p:=⟨k+1,d,none⟩) (.inl (show m.heap.size<=k+1 by have:=L.out;omega)) _;have a2:(n.setCell ⟨k+1,d,none⟩ (.int .u64 ((1:Nat):Int))).heap[k]?=some (.cells #[.int .i64 2,.int .u32 (pl:Int),.int .u32 (mi:Int),.bool nt,.int .i64 mn,.int .i64 mx,.slice w o x] 47 (0,0)):=Dz B zy;obtain⟨a7,a4,a8⟩:=Zh3 I Q a2;clear I Q a2 f q B v;clear z;go_wp2;exact⟨⟨d+1,by omega,tz,rfl,a7.out,a8.out,a4.out⟩,mz⟩
  ·have b1:((d:Int) == 0)=false:=by rw [beq_eq_false_iff_ne];omega
   have v:Q1 (Zp 0) d=0:=Wu fun c _=>by simp [Zp,z]
   rw [Ql (g:=fun a=>if a<d+1 then Q1 (Zp 0) a else 0) (fun i _=>by
    by_cases s:i=d
    ·rw [if_neg oz,if_pos oz,s,v]
    ·by_cases t:i<d
     ·rw [if_pos t,if_pos oz]
     ·rw [if_neg t,if_neg oz])] at f
   have D:=Zh f;clear f v;clear z;go_wp2;exact⟨⟨d+1,by omega,tz,rfl,D.out,B,q⟩,mz⟩
 ·obtain rfl:d=e+1:=by omega
  have b2:¬ (((e+1:Nat):Int)<=(e:Int)):=by omega
  obtain rfl:=a5.out;rw [Ql (g:=Q1 (Yo C (.node 2 pl mi nt mn mx l))) (fun a ha=>by rw [if_pos ha,a6.out])] at f;have R:=Z9 (base':=m.heap.size) f (by have:=L.out;omega);have D:=Zh R;clear f R;go_wp2;go_ret;exact⟨_,rfl,D.out,q⟩
theorem Qde(pl mi:Nat)(nt:Bool)(mn mx:Int)(l:List Pat):Ug (.node 6 pl mi nt mn mx l):=by
 intro a9 m b0 d3 B G J Z S;have u:∀ V:World,Ext m V->Qj a9 V (.node 6 pl mi nt mn mx l) b0:=fun V q=>G.ext q;unfold Qj at G;obtain⟨w,x,rfl,c9,c8,Y,U,X⟩:=G;obtain⟨O,N,rfl,T⟩:=J.slice;rw [Ka] at S;obtain⟨a0,W⟩:=S;have F:Xv l:=W;rw [Kp] at F;clear W;have H:=Kl B 6 pl mi nt mn mx l;rw [if_neg zd,if_neg zd,if_pos rfl] at H;unfold Qd;obtain⟨o,y⟩:=zE l.length;obtain⟨d,z⟩:=zE B.length;obtain⟨a5,b8,c0,b7,b6,a6,b9⟩:=Zh7 z y J X F H a0;have b5:o<=maxLen:=by rw [<-y];exact Nat.le_trans Y U
 have c6:d<=32:=by rw [<-z];exact Z
 unfold maxLen at b5 T;show Calls Tryz.prog 216 #[.agg #[.int .i64 6,.int .u32 (pl:Int),.int .u32 (mi:Int),.bool nt,.int .i64 mn,.int .i64 mx,.slice w l.length x],.slice O B.length N] m _;rw [y,z];clear J X F H a0 Y U y z Z T u;go_enter Tryz.func216,Tryz.ntmps216
 go_wp2_with (at_make;refine Yw rfl (.tmp 17) (.tmp 17) 238 rfl (m.heap.size+1) 162 _ 8 Tryz.underlying238 Tryz.infoU rfl .i64 .i64 _ _ (d+1) rfl rfl zq zq ?c1 ?c2 zy ?_)
 case c1=>omega
 case c2=>unfold maxLen;omega
 intro a3 e u;obtain⟨f,D⟩:=zE m.heap.size;have K:a3.heap[m.heap.size]?=some (.cells #[.int .i64 6,.int .u32 (pl:Int),.int .u32 (mi:Int),.bool nt,.int .i64 mn,.int .i64 mx,.slice w o x] 47 (0,0)):=u.keep (Q3 rfl);have P:Ext m a3:=Q0.trans ((Q0.refl _ m).alloc _) u;rw [D] at e K ⊢;rw [U6,show Zo (d+1) (fun _=>0)=Zo (d+1) (fun a=>if a<0 then Q1 (Zp d) a else 0) from Ql fun a _=>by simp] at e;have L:=Zh D;have M:=Zh K;clear D K u;go_wp2
 refine wp_loop (fun a n=>∃(k:Nat),k<=d+1/\a.defers=[]/\gS a [1,2,5,6,7]=(153,[.slice O d N,.pointer (some ⟨f,0,none⟩),.int .i64 d,.slice (some ⟨f+1,0,none⟩) (d+1) (d+1),.int .i64 k])/\n.ownsRow (f+1) 162 1 (.slice (some ⟨f+1,0,none⟩) (d+1) (d+1)) (d+1) (Zo (d+1) (fun a=>if a<k then Q1 (Zp d) a else 0))/\n.heap[f]?=some (.cells #[.int .i64 6,.int .u32 (pl:Int),.int .u32 (mi:Int),.bool nt,.int .i64 mn,.int .i64 mx,.slice w o x] 47 (0,0))/\Ext m n)
  (fun a _=>d+1 - (intOf (a.tmps.getD 7 undef)).toNat) ?_ ?_
 ·exact⟨0,by omega,rfl,rfl,e,M.out,P⟩
 clear e P M;rintro⟨d1,_⟩ n ⟨k,c7,b3,a1,e,A,q⟩;subst b3;obtain⟨d2,rfl⟩:=Qc a1;clear a1;have c3:=zR A;by_cases b4:k<d+1
 ·have b2:(k:Int)<=(d:Int):=by omega
  have c4:(k:Int)<(d:Int)+1:=by omega
  have c5:(k:Int)<64:=by omega
  by_cases E:k=d
  ·subst E;have d0:=Ha (k:=k) oz;have b1:((k:Int) ==(k:Int))=true:=by simp
   have v:Q1 (Zp k) k=2 ^ k:=M9 (b:=k) oz (fun c _=>by simp [Zp]);have I:=Ym e k (.int .u64 ((2 ^ k:Nat):Int))
   rw [Ki,Ql (g:=fun a=>if a<k+1 then Q1 (Zp k) a else 0) (fun i _=>by
    unfold Kh;by_cases s:i=k
    ·rw [if_pos s,if_pos oz,s,v]
    ·rw [if_neg s];show (if i<k then Q1 (Zp k) i else 0)=_;by_cases t:i<k
     ·rw [if_pos t,if_pos oz]
     ·rw [if_neg t,if_neg oz])] at I
   have c1:n.cell? ⟨f+1,k,none⟩=some (.int .u64 ((if k<k then Q1 (Zp k) k else 0:Nat):Int)):=by rw [e.cellAt k oz,Js _ b4]
   rw [if_neg (Nat.lt_irrefl k)] at c1;have c2:n.frozen? ⟨f+1,k,none⟩=false:=e.frozenAt k;have Q:Ext m (n.setCell ⟨f+1,k,none⟩ (.int .u64 ((2 ^ k:Nat):Int))):=q.setCell (p:=⟨f+1,k,none⟩) (.inl (show m.heap.size<=f+1 by have:=L.out;omega)) _;have a2:(n.setCell ⟨f+1,k,none⟩ (.int .u64 ((2 ^ k:Nat):Int))).heap[f]?=some (.cells #[.int .i64 6,.int .u32 (pl:Int),.int .u32 (mi:Int),.bool nt,.int .i64 mn,.int .i64 mx,.slice w o x] 47 (0,0)):=Dz A zy;obtain⟨a7,a4,a8⟩:=Zh3 I Q a2;clear I Q a2 e q A v;go_wp2;exact⟨⟨k+1,by omega,tz,rfl,a7.out,a8.out,a4.out⟩,mz⟩
  ·have b1:((k:Int) ==(d:Int))=false:=by rw [beq_eq_false_iff_ne];omega
   have v:Q1 (Zp d) k=0:=Wu fun c _=>by simp [Zp,E]
   rw [Ql (g:=fun a=>if a<k+1 then Q1 (Zp d) a else 0) (fun i _=>by
    by_cases s:i=k
    ·rw [if_neg oz,if_pos oz,s,v]
    ·by_cases t:i<k
     ·rw [if_pos t,if_pos oz]
     ·rw [if_neg t,if_neg oz])] at e
   have C:=Zh e;clear e v;clear E;go_wp2;exact⟨⟨k+1,by omega,tz,rfl,C.out,A,q⟩,mz⟩
 ·obtain rfl:k=d+1:=by omega
  have b2:¬ (((d+1:Nat):Int)<=(d:Int)):=by omega
  obtain rfl:=a5.out;rw [Ql (g:=Q1 (Yo B (.node 6 pl mi nt mn mx l))) (fun a ha=>by rw [if_pos ha,a6.out])] at e;have R:=Z9 (base':=m.heap.size) e (by have:=L.out;omega);have C:=Zh R;clear e R;go_wp2;go_ret;exact⟨_,rfl,C.out,q⟩
theorem Qck(pl mi:Nat)(nt:Bool)(mn mx:Int)(l:List Pat):Ug (.node 1 pl mi nt mn mx l):=by
 intro a3 y e5 v m b1 b5 d6 c6;have M:∀ V:World,Ext y V->Qj a3 V (.node 1 pl mi nt mn mx l) e5:=fun V t=>b1.ext t;unfold Qj at b1;obtain⟨J,L,rfl,f5,f4,d5,c8,d4⟩:=b1;obtain⟨c0,b9,rfl,c7⟩:=b5.slice;rw [Ka] at c6;obtain⟨d7,d2⟩:=c6;have a9:Xv l:=d2;rw [Kp] at a9;clear d2;have b3:=Kl m 1 pl mi nt mn mx l;rw [if_pos rfl] at b3;unfold Qd;obtain⟨E,F⟩:=zE l.length;obtain⟨o,T⟩:=zE m.length;obtain⟨Z,g1,b7,g0,f9,e3,g2⟩:=Zh7 T F b5 d4 a9 b3 d7;have f2:E<=maxLen:=by rw [<-F];exact Nat.le_trans d5 c8
 have g6:o<=32:=by rw [<-T];exact d6
 unfold maxLen at f2 c7;show Calls Tryz.prog 216 #[.agg #[.int .i64 1,.int .u32 (pl:Int),.int .u32 (mi:Int),.bool nt,.int .i64 mn,.int .i64 mx,.slice J l.length L],.slice c0 m.length b9] y _;rw [F,T];clear b5 d4 a9 b3 d7 d5 c8 F T d6 c7 M;go_enter Tryz.func216,Tryz.ntmps216
 go_wp2_with (at_make;refine Yw rfl (.tmp 17) (.tmp 17) 238 rfl (y.heap.size+1) 162 _ 8 Tryz.underlying238 Tryz.infoU rfl .i64 .i64 _ _ (o+1) rfl rfl zq zq ?c1 ?c2 zy ?_)
 case c1=>omega
 case c2=>unfold maxLen;omega
 intro e2 e M;obtain⟨n,a7⟩:=zE y.heap.size;have b6:e2.heap[y.heap.size]?=some (.cells #[.int .i64 1,.int .u32 (pl:Int),.int .u32 (mi:Int),.bool nt,.int .i64 mn,.int .i64 mx,.slice J E L] 47 (0,0)):=M.keep (Q3 rfl);have c3:Ext y e2:=Q0.trans ((Q0.refl _ y).alloc _) M;rw [a7] at e b6 ⊢;rw [U6,show Zo (o+1) (fun _=>0)=Zo (o+1) (fun a=>if a<0 then Q1 (Zc m (pl,mi) nt) a else 0) from Ql fun a _=>by simp] at e;have X:=Zh a7;have b8:=Zh b6;clear a7 b6 M;go_wp2
 refine wp_loop (fun a z=>∃(k:Nat),k<=o+1/\a.defers=[]/\gS a [1,2,5,6,7]=(153,[.slice c0 o b9,.pointer (some ⟨n,0,none⟩),.int .i64 o,.slice (some ⟨n+1,0,none⟩) (o+1) (o+1),.int .i64 k])/\z.ownsRow (n+1) 162 1 (.slice (some ⟨n+1,0,none⟩) (o+1) (o+1)) (o+1) (Zo (o+1) (fun a=>if a<k then Q1 (Zc m (pl,mi) nt) a else 0))/\z.heap[n]?=some (.cells #[.int .i64 1,.int .u32 (pl:Int),.int .u32 (mi:Int),.bool nt,.int .i64 mn,.int .i64 mx,.slice J E L] 47 (0,0))/\Ext y z)
  (fun a _=>o+1 - (intOf (a.tmps.getD 7 undef)).toNat) ?_ ?_
 ·exact⟨0,by omega,rfl,rfl,e,b8.out,c3⟩
 clear e c3 b8;rintro⟨g9,_⟩ z ⟨k,g8,f1,e1,e,q,t⟩;subst f1;obtain⟨i0,rfl⟩:=Qc e1;clear e1;have K:=zR q;by_cases d3:k<o+1
 ·have e8:(k:Int)<=(o:Int):=by omega
  have g4:(k:Int)<(o:Int)+1:=by omega
  have g5:(k:Int)<64:=by omega
  by_cases f3:k<o
  ·have e6:(k:Int)<(o:Int):=by omega
   have b0:k<m.length:=by rw [Z.out];exact f3
   obtain⟨g,U,g3,d0,g7,a5,a6⟩:=(b7.out.ext t).at b0;have d1:=d0;simp only [zV] at d1;obtain⟨e9,f6,f0⟩:=d1;clear f6;subst e9;subst f0;clear d0;obtain⟨d9,e0⟩:=b7.out.2.get k b0;obtain⟨a,P⟩:=zE ((m.getD k (0,0)).1);obtain⟨b,a8⟩:=zE ((m.getD k (0,0)).2);rw [P] at a5 d9;rw [a8] at a6 e0;have b4:=fun(V:World)=>Qcs (s:=(a,b)) (c:=(pl,mi)) d9 e0 f5 f4 V;have c5:m.getD k (0,0)=(a,b):=by rw [<-P,<-a8]
   obtain⟨W,b2⟩:=zE (sat (a,b) (pl,mi));rw [b2] at b4;have d8:∀ c,Zc m (pl,mi) nt k c=(c == k+1 && (W != nt)):=by
    intro c;unfold Zc;rw [c5,b2,decide_eq_true b0,Bool.and_true]
   have R:=Zh d8;have e4:=Zh b4;have c9:∀(D:World),Ext z D->D.cell? ⟨g,U+k*2,none⟩=some (.int .u32 (a:Int))/\D.cell? ⟨g,U+k*2+1,none⟩=some (.int .u32 (b:Int))/\D.cell? ⟨n,1,none⟩=some (.int .u32 (pl:Int))/\D.cell? ⟨n,2,none⟩=some (.int .u32 (mi:Int))/\D.cell? ⟨n,3,none⟩=some (.bool nt):=fun D hD=>⟨hD.cell_some a5 id,hD.cell_some a6 id,by have:=hD.keep q;simp [World.cell?,this],by have:=hD.keep q;simp [World.cell?,this],by have:=hD.keep q;simp [World.cell?,this]⟩;obtain⟨a1,H,I⟩:=Zh3 c9 e q;have a4:z.cell? ⟨n,0,none⟩=some (.int .i64 1):=by simp [World.cell?,q]
   clear d8 b4 c5 b2 P a8 a5 a6 c9 K e q;go_wp2;clear a4;refine wp_region_held_drew (S:=fun D=>D.cell? ⟨g,U+k*2,none⟩=some (.int .u32 (a:Int))/\D.cell? ⟨g,U+k*2+1,none⟩=some (.int .u32 (b:Int))/\D.cell? ⟨n,1,none⟩=some (.int .u32 (pl:Int))/\D.cell? ⟨n,2,none⟩=some (.int .u32 (mi:Int))/\D.cell? ⟨n,3,none⟩=some (.bool nt)) kz (a1.out _ (Q0.drew (Q0.refl _ z))) ?_;intro f;refine tH 0 35 f ?_;refine tH 1 36 f ?_;refine tH 2 37 f ?_;refine tH 3 38 f ?_;refine tH 4 39 f ?_;refine tH 5 40 f ?_;refine tH 6 41 f ?_;refine tH 7 42 f ?_;refine tH 8 43 f ?_;refine tH 9 44 f ?_;refine tH 11 46 f ?_;refine tH 12 47 f ?_;refine rH [10] ?_;refine AllReadyH.cons rfl (fun a3 hK=>?_) AllReadyH.nil;refine iw rfl ?_;go_simp;refine(e4.out _).mono ?_;rintro u B ⟨rfl,F⟩;have O:Ext z B:=Q0.trans (Q0.drew (Q0.refl _ z)) F;clear F;refine hK.out _ _ (a1.out _ O) (fun hS1=>?_);clear hK a3;refine tH 13 48 hS1 ?_;refine tH 14 49 hS1 ?_;refine wpAnyH_done kz ?_ _;have e:=Q6 H.out O;have q:=O.keep I.out;have t:=t.trans O;clear f hS1 O a1 H I;have K:=zR q;cases W
   ·cases nt
    ·have x:∀ c,c<33->Zc m (pl,mi) false k c=false:=fun c _=>by rw [R.out c];cases (c == k+1) <;> rfl
     have A:Q1 (Zc m (pl,mi) false) k=0:=Wu x
     rw [Ql (g:=fun a=>if a<k+1 then Q1 (Zc m (pl,mi) false) a else 0) (fun i _=>by
      by_cases u:i=k
      ·rw [if_neg oz,if_pos oz,u,A]
      ·by_cases w:i<k
       ·rw [if_pos w,if_pos oz]
       ·rw [if_neg w,if_neg oz])] at e
     have C:=Zh e;clear e A;clear x K;go_wp2;exact⟨⟨k+1,by omega,tz,rfl,C.out,q,t⟩,mz⟩
    ·have x:∀ c,c<33->Zc m (pl,mi) true k c=(c == k+1):=fun c _=>by rw [R.out c];cases (c == k+1) <;> rfl
     have f7:=Ha (k:=k+1) oz;have f8:(k:Int)+1<64:=by omega
     have A:Q1 (Zc m (pl,mi) true) k=2 ^ (k+1):=M9 (b:=k+1) oz x;have G:=Ym e k (.int .u64 ((2 ^ (k+1):Nat):Int))
     rw [Ki,Ql (g:=fun a=>if a<k+1 then Q1 (Zc m (pl,mi) true) a else 0) (fun i _=>by
      unfold Kh;by_cases u:i=k
      ·rw [if_pos u,if_pos oz,u,A]
      ·rw [if_neg u];show (if i<k then Q1 (Zc m (pl,mi) true) i else 0)=_;by_cases w:i<k
       ·rw [if_pos w,if_pos oz]
       ·rw [if_neg w,if_neg oz])] at G
     have c1:B.cell? ⟨n+1,k,none⟩=some (.int .u64 ((if k<k then Q1 (Zc m (pl,mi) true) k else 0:Nat):Int)):=by rw [e.cellAt k oz,Js _ d3]
     rw [if_neg (Nat.lt_irrefl k)] at c1;have c2:B.frozen? ⟨n+1,k,none⟩=false:=e.frozenAt k;have N:Ext y (B.setCell ⟨n+1,k,none⟩ (.int .u64 ((2 ^ (k+1):Nat):Int))):=t.setCell (p:=⟨n+1,k,none⟩) (.inl (show y.heap.size<=n+1 by have:=X.out;omega)) _;have Q:(B.setCell ⟨n+1,k,none⟩ (.int .u64 ((2 ^ (k+1):Nat):Int))).heap[n]?=some (.cells #[.int .i64 1,.int .u32 (pl:Int),.int .u32 (mi:Int),.bool true,.int .i64 mn,.int .i64 mx,.slice J E L] 47 (0,0)):=Dz q zy;obtain⟨a0,Y,a2⟩:=Zh3 G N Q;clear G N Q e t q A;clear x;go_wp2;exact⟨⟨k+1,by omega,tz,rfl,a0.out,a2.out,Y.out⟩,mz⟩
   ·cases nt
    ·have x:∀ c,c<33->Zc m (pl,mi) false k c=(c == k+1):=fun c _=>by rw [R.out c];cases (c == k+1) <;> rfl
     have f7:=Ha (k:=k+1) oz;have f8:(k:Int)+1<64:=by omega
     have A:Q1 (Zc m (pl,mi) false) k=2 ^ (k+1):=M9 (b:=k+1) oz x;have G:=Ym e k (.int .u64 ((2 ^ (k+1):Nat):Int))
     rw [Ki,Ql (g:=fun a=>if a<k+1 then Q1 (Zc m (pl,mi) false) a else 0) (fun i _=>by
      unfold Kh;by_cases u:i=k
      ·rw [if_pos u,if_pos oz,u,A]
      ·rw [if_neg u];show (if i<k then Q1 (Zc m (pl,mi) false) i else 0)=_;by_cases w:i<k
       ·rw [if_pos w,if_pos oz]
       ·rw [if_neg w,if_neg oz])] at G
     have c1:B.cell? ⟨n+1,k,none⟩=some (.int .u64 ((if k<k then Q1 (Zc m (pl,mi) false) k else 0:Nat):Int)):=by rw [e.cellAt k oz,Js _ d3]
     rw [if_neg (Nat.lt_irrefl k)] at c1;have c2:B.frozen? ⟨n+1,k,none⟩=false:=e.frozenAt k;have N:Ext y (B.setCell ⟨n+1,k,none⟩ (.int .u64 ((2 ^ (k+1):Nat):Int))):=t.setCell (p:=⟨n+1,k,none⟩) (.inl (show y.heap.size<=n+1 by have:=X.out;omega)) _;have Q:(B.setCell ⟨n+1,k,none⟩ (.int .u64 ((2 ^ (k+1):Nat):Int))).heap[n]?=some (.cells #[.int .i64 1,.int .u32 (pl:Int),.int .u32 (mi:Int),.bool false,.int .i64 mn,.int .i64 mx,.slice J E L] 47 (0,0)):=Dz q zy;obtain⟨a0,Y,a2⟩:=Zh3 G N Q;clear G N Q e t q A;clear x;go_wp2;exact⟨⟨k+1,by omega,tz,rfl,a0.out,a2.out,Y.out⟩,mz⟩
    ·have x:∀ c,c<33->Zc m (pl,mi) true k c=false:=fun c _=>by rw [R.out c];cases (c == k+1) <;> rfl
     have A:Q1 (Zc m (pl,mi) true) k=0:=Wu x
     rw [Ql (g:=fun a=>if a<k+1 then Q1 (Zc m (pl,mi) true) a else 0) (fun i _=>by
      by_cases u:i=k
      ·rw [if_neg oz,if_pos oz,u,A]
      ·by_cases w:i<k
       ·rw [if_pos w,if_pos oz]
       ·rw [if_neg w,if_neg oz])] at e
     have C:=Zh e;clear e A;clear x K;go_wp2;exact⟨⟨k+1,by omega,tz,rfl,C.out,q,t⟩,mz⟩
  ·obtain rfl:k=o:=by omega
   have e6:¬ (k:Int)<(k:Int):=by omega
   have e7:decide ((k:Int)<(k:Int))=false:=by simp
   have H:=Zh e;have I:=Zh q;have a4:z.cell? ⟨n,0,none⟩=some (.int .i64 1):=by simp [World.cell?,q]
   clear e q K;go_wp2;clear a4;refine wp_region_held_drew (S:=fun _=>True) kz trivial ?_;intro f;refine tH 0 35 f ?_;refine tH 1 36 f ?_;refine tH 2 37 f ?_;refine tH 3 38 f ?_;refine tkH (i:=4) (d:=39) (v:=undef) rfl (Or.inr ⟨by rfl,rfl⟩) f ?_;try simp only [Act.put,pq]
   refine tkH (i:=5) (d:=40) (v:=undef) rfl (Or.inr ⟨by rfl,rfl⟩) f ?_;try simp only [Act.put,pq]
   refine tkH (i:=6) (d:=41) (v:=undef) rfl (Or.inr ⟨by rfl,rfl⟩) f ?_;try simp only [Act.put,pq]
   refine tkH (i:=7) (d:=42) (v:=undef) rfl (Or.inr ⟨by rfl,rfl⟩) f ?_;try simp only [Act.put,pq]
   refine tkH (i:=8) (d:=43) (v:=undef) rfl (Or.inr ⟨by rfl,rfl⟩) f ?_;try simp only [Act.put,pq]
   refine tkH (i:=9) (d:=44) (v:=undef) rfl (Or.inr ⟨by rfl,rfl⟩) f ?_;try simp only [Act.put,pq]
   refine tkH (i:=10) (d:=45) (v:=undef) rfl (Or.inr ⟨by rfl,rfl⟩) f ?_;try simp only [Act.put,pq]
   refine tkH (i:=11) (d:=46) (v:=undef) rfl (Or.inr ⟨by rfl,rfl⟩) f ?_;try simp only [Act.put,pq]
   refine tkH (i:=12) (d:=47) (v:=undef) rfl (Or.inr ⟨by rfl,rfl⟩) f ?_;try simp only [Act.put,pq]
   refine tkH (i:=13) (d:=48) (v:=undef) rfl (Or.inr ⟨by rfl,rfl⟩) f ?_;try simp only [Act.put,pq]
   refine tH 14 49 f ?_;refine wpAnyH_done kz ?_ _;have e:=Q6 H.out (Q0.drew (Q0.refl _ z));have q:=(Q0.drew (Q0.refl (fun _=>False) z)).heap I.out id;have t:=t.drew;clear f H I e7;have x:Q1 (Zc m (pl,mi) nt) k=0:=Wu fun c _=>by unfold Zc;rw [decide_eq_false (by rw [Z.out];omega),Bool.and_false,Bool.false_and]
   rw [Ql (g:=fun a=>if a<k+1 then Q1 (Zc m (pl,mi) nt) a else 0) (fun i _=>by
    by_cases u:i=k
    ·rw [if_neg oz,if_pos oz,u,x]
    ·by_cases w:i<k
     ·rw [if_pos w,if_pos oz]
     ·rw [if_neg w,if_neg oz])] at e
   have C:=Zh e;clear e x;go_wp2;exact⟨⟨k+1,by omega,tz,rfl,C.out,q,t⟩,mz⟩
 ·obtain rfl:k=o+1:=by omega
  have e8:¬ (((o+1:Nat):Int)<=(o:Int)):=by omega
  obtain rfl:=Z.out;rw [Ql (g:=Q1 (Yo m (.node 1 pl mi nt mn mx l))) (fun a P=>by rw [if_pos P,e3.out])] at e;have c4:=Z9 (base':=y.heap.size) e (by have:=X.out;omega);have C:=Zh c4;clear e c4;go_wp2;go_ret;exact⟨_,rfl,C.out,t⟩
end Go.Proofs.YtejenndedjabhaaGreatDoor
