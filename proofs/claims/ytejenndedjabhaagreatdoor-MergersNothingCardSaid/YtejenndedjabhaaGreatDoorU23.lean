/- ablautref08.Hit (printed by genrefhit.py). -/
import Derived.Test.YtejenndedjabhaaGreatDoorU22
import Derived.Test.YtejenndedjabhaaGreatDoorU19
set_option maxRecDepth 100000
set_option maxHeartbeats 16000000
namespace Go.Proofs.YtejenndedjabhaaGreatDoor
open Go.RowKit Go.Ab
attribute [local go_sem] Oper.semAt_some Z3 Qj
def Q97(t:List (Nat × Wd)):Int:=if Jh t=true then 11 else 0
def Q8y(t:List (Nat × Wd)):List (Nat × Wd):=if Jh t=true then [] else t
def Q95(v:Value):Nat:=match v with | .slice _ n _=>n | _=>0
def Off(dv:Value)(vals:List Value):Prop:=∀ x∈vals,Zd (fun g=>dv.ownBlock≠some g) x
theorem Off.same{dv dv':Value}{vals:List Value}{W:World}(h:Off dv vals)(hk:∀ x∈vals,Zd (fun g=>g<W.heap.size) x) (hb:dv'.ownBlock=dv.ownBlock\/∃ k,W.heap.size<=k/\dv'.ownBlock=some k):Off dv' vals:=fun x hx g o n c e h0=>by
 rcases hb with hb | ⟨k,h1,h2⟩
 ·rw [hb];exact h x hx g o n c e h0
 ·rw [h2];intro q;cases q;have:=hk x hx g o n c e h0;omega
theorem TrP.turn{b:Nat}{A B:World}{u v dv:Value}{vals:List Value}{tr:List (Nat × Wd)} {b3 n3:Nat} {x3:List Value} (h:TrP b A u v vals tr) (hd:A.ownsRow b3 26 2 dv n3 x3) (ht:Q0 (fun g=>dv.ownBlock=some g) A B) (ho:Off dv vals):TrP b B u v vals tr:=
 ⟨Qc h.ou ht (fun g hg e=>K9 h.ou hd zd g hg e),Qc h.ov ht (fun g hg e=>K9 h.ov hd zd g hg e),h.wd.keepS (S:=fun g=>dv.ownBlock≠some g) (ht.mono fun _ _ e hn=>hn e) ho,fun x hx=>(h.wk x hx).mono fun g hg=>⟨Nat.lt_of_lt_of_le hg.1 ht.size,hg.2⟩⟩
def Q83(E:Int)(n:Nat)(W:World)(v:Value)(u:Wd):Prop:=(E≠0->v=.slice none 0 0)/\(E=0->∃ ao c vs,v=.slice ao (n+1) c/\Rd W v (n+1) 1 vs/\Qn W (vs.getD n undef) u)
def Zb(sh i:Nat):Nat × Nat:=((i+sh) % 64,63 - (i+sh) % 64)
def Z7(n sh:Nat):Wd:=(List.range n).map (Zb sh)
theorem Q2y(n sh:Nat):Z7 (n+1) sh=Z7 n sh++[Zb sh n]:=by unfold Z7;rw [List.range_succ,List.map_append];rfl
theorem Zw(n sh:Nat):(Z7 n sh).length=n:=by simp [Z7]
theorem N8(sh i:Nat):Qd (Zb sh i):=by
 have:(i+sh) % 64<64:=Nat.mod_lt _ zd;unfold Zb Qd;dsimp only;omega
theorem Q5j(n sh:Nat):Z8 (Z7 n sh):=fun s hs=>by
 obtain⟨i,_,rfl⟩:=List.mem_map.1 hs;exact N8 sh i
theorem Q7i:∀ q:Nat,q<64->63 &&& (4294967295 - q)=63 - q:=by decide
theorem Kp(w:World){n sh:Nat}(a0:n<=64)(a2:sh<256) :
  Calls Tryz.prog 29 #[.int .i64 (n:Int),.int .u8 (sh:Int)] w fun e w'=>∃ ao c,e=.returned (.slice ao n c)/\Qn w' (.slice ao n c) (Z7 n sh)/\Ext w w':=by
 obtain⟨i,E⟩:=zE w.heap.size;have x:=Zh E;clear E;go_enter Tryz.func29,Tryz.ntmps29;go_wp2
 refine wp_loop (fun a g=>∃(d:Nat) (ao:Option Addr) (m:Nat),d<=n/\a.defers=[]/\gS a [1,5,8,9]=(27,[.int .u8 (sh:Int),.slice ao d m,.int .i64 n,.int .i64 d])/\g.ownsRow i 26 2 (.slice ao d m) d (Qx (Z7 d sh))/\Ext w g)
  (fun a _=>n - (intOf (a.tmps.getD 9 undef)).toNat) ?_ ?_
 ·exact⟨0,none,0,by omega,rfl,rfl,World.ownsRow_nil _ _ _ _,Q0.refl _ _⟩
 rintro⟨a5,_⟩ g ⟨d,ao,m,Y,R,J,A,y⟩;subst R;obtain⟨u,rfl⟩:=Qu J;clear J;have p:=Zh A;have l:=Zh y;clear A y;by_cases Z:d<n;case neg=>
  obtain rfl:d=n:=by omega
  have Q:¬ (d:Int)<(d:Int):=by omega
  go_wp2;go_ret;refine⟨ao,m,rfl,?_,l.out⟩;have k:=Qn.own (u:=Z7 d sh) (by rw [Zw];exact p.out) (Q5j d sh);rw [Zw] at k;exact k
 have Q:(d:Int)<(n:Int):=by omega
 have W:(0:Int)<=(d:Int):=by omega
 have a3:IntKind.i64.wrap (sh:Int)=(sh:Int):=IntWalk.i64_in _ oz;have a4:IntKind.i64.wrap ((d:Int)+(sh:Int))=(d:Int)+(sh:Int):=IntWalk.i64_in _ oz;obtain⟨f,H⟩:=zE ((d+sh) % 64);have S:f<64:=by omega
 have a1:((d:Int)+(sh:Int)) % 64=(f:Int):=by omega
 obtain⟨j,r⟩:=zE (63 - f);have X:bits .andNot .u32 63 (f:Int)=(j:Int):=by
  have k:=u32_andNot_nat 63 f zd oz;rw [Q7i f S,r] at k;exact k
 have C:Z7 (d+1) sh=Z7 d sh++[(f,j)]:=by rw [Q2y];unfold Zb;rw [H,r]
 have F:i<=g.heap.size:=by have:=l.out.size;rw [x.out] at this;exact this
 have o:Ext g (g.alloc (.cells #[.int .u32 (f:Int),.int .u32 (j:Int)] 26)):=(Q0.refl _ g).alloc _;have I:=Rd.of_own (World.ownsRow_lit (base:=i) (e:=26) (size:=2) g #[.int .u32 (f:Int),.int .u32 (j:Int)] 1 F zd rfl);have G:=Qa p.out o;have T:=o.size;obtain⟨O,t,q,s⟩:=Zh4 C I G (l.out.trans o);have K:i<=(g.alloc (.cells #[.int .u32 (f:Int),.int .u32 (j:Int)] 26)).heap.size:=by omega
 have v:=Zh K;clear C I G o T K F H r
 go_wp2_with (at_builtin;refine Kh rfl (.tmp 18) (.tmp 23) 23 rfl i 26 _ 2 8 Tryz.underlying23 @Vy rfl zd _ _ _ rfl q.out _ 1 _ _ rfl t.out (by intro u L;simp at L;rcases L with rfl | rfl <;> rfl) ?c3 ?c4 v.out ?_)
 case c3=>unfold maxLen;omega
 case c4=>omega
 intro V U P B D _;have z:Ext w P:=s.out.after D (fun b hb e=>by have:=(q.out.lt b e).1;have:=x.out;omega);have N:=Zh B;have M:=Zh z;clear B z D p q s t v l;go_wp2;exact⟨⟨d+1,V,U,by omega,by first | trivial | rfl,rfl,by have:=N.out;rw [O.out];simpa [Qx] using this,M.out⟩,nz⟩
attribute [local go_sem high] Dx
def u8V(l:List Nat):List Value:=l.map fun(x:Nat)=>Value.int .u8 (x:Int)
theorem Q4m(l:List Nat){k:Nat}(h:k<l.length):(u8V l).getD k undef=.int .u8 (l[k]:Nat):=by rw [List.getD_eq_getElem?_getD];simp [u8V,h]
def J2(l:List Nat)(most:Nat):Wd:=(l.take most).map fun k=>Zb 0 (k % 8)
theorem Bn{l:List Nat}{k:Nat}(h:k<l.length):(l.take (k+1)).map (fun k=>Zb 0 (k % 8))=(l.take k).map (fun k=>Zb 0 (k % 8))++[Zb 0 (l[k] % 8)]:=by
 rw [List.take_succ_eq_append_getElem h,List.map_append];rfl
theorem Q06(l:List Nat)(most:Nat):Z8 (J2 l most):=fun s hs=>by
 obtain⟨i,_,rfl⟩:=List.mem_map.1 hs;exact N8 0 _
theorem Q0v{w:World}{base:Nat}{e:TypeId}{ao:Option Addr}{n c:Nat}{u:Wd}(a:u.length=n)(h:w.ownsRow base e 2 (.slice ao n c) n (Qx u)) (b:Z8 u):Qn w (.slice ao n c) u:=by subst a;exact Qn.own h b
theorem Ml{w:World}{ao:Option Addr}{N cap:Nat}{l:List Nat}(C:Rd w (.slice ao N cap) N 1 (u8V l)) (A:l.length=N) (o:∀ x∈l,x<256) (e6:N<=cap) {mo:Nat} (e9:mo<=100) :
  Calls Tryz.prog 28 #[.slice ao N cap,.int .i64 (mo:Int)] w fun e w'=>∃ v,e=.returned v/\Qn w' v (J2 l mo)/\Ext w w':=by
 have d0:=C.2.1;unfold maxLen at d0;obtain⟨d,T⟩:=zE (min N mo);have d2:min (N:Int) (mo:Int)=(d:Int):=by omega
 have e5:d<=N:=by omega
 have e4:d<=100:=by omega
 have a0:J2 l mo=(l.take d).map (fun c=>Zb 0 (c % 8)):=by unfold J2;congr 1;rw [<-T,<-A,Nat.min_comm];exact(List.take_eq_take_min)
 obtain⟨b8,L,c1,J⟩:=Zh4 C A o a0;clear C A o a0 T;go_enter Tryz.func28,Tryz.ntmps28;go_wp2_with fail;refine(Kp w (n:=8) (sh:=0) zd zd).mono ?_;rintro e H ⟨d5,d4,rfl,c9,R⟩;obtain⟨_,_,j,a2,_⟩:=c9;cases j;obtain⟨i,X⟩:=zE H.heap.size;obtain⟨b7,b5,P⟩:=Zh3 a2 R X;clear a2 R X;go_wp2;clear d2
 refine wp_loop (fun a g=>∃(c:Nat) (E:Option Addr) (D:Nat),c<=d/\a.defers=[]/\gS a [5,6,15,16,17]=(31,[.slice d5 8 d4,.slice E c D,.slice ao d cap,.int .i64 d,.int .i64 c])/\g.ownsRow i 26 2 (.slice E c D) c (Qx ((l.take c).map (fun c=>Zb 0 (c % 8))))/\Ext H g)
  (fun a _=>d - (intOf (a.tmps.getD 17 undef)).toNat) ?_ ?_
 ·exact⟨0,none,0,by omega,rfl,rfl,World.ownsRow_nil _ _ _ _,Q0.refl _ _⟩
 rintro⟨f5,_⟩ g ⟨c,E,D,e7,c6,a7,U,z⟩;subst c6;obtain⟨d8,rfl⟩:=Qu a7;clear a7;obtain⟨u,p,K⟩:=Zh3 U z (b5.out.trans z);clear U z;by_cases e8:c<d;case neg=>
  obtain rfl:c=d:=by omega
  have c5:¬ (c:Int)<(c:Int):=by omega
  go_wp2;go_ret;refine⟨_,rfl,?_,K.out⟩;have d1:(J2 l mo).length=c:=by rw [J.out,List.length_map,List.length_take,L.out];omega
  have Q:=u.out;rw [<-J.out] at Q;exact Q0v d1 Q (Q06 l mo)
 have c5:(c:Int)<(d:Int):=by omega
 have e3:(0:Int)<=(c:Int):=by omega
 have a3:c<N:=by omega
 have t:c<l.length:=by rw [L.out];exact a3
 obtain⟨e1,f3,d9,j,c7,B⟩:=Zq (b8.out.ext K.out) a3;simp only [zV,true_and] at j;obtain⟨rfl,rfl⟩:=j;rw [Q4m l t] at B;have a9:=c1.out _ (List.getElem_mem t);have m:=Bn t;obtain⟨x,b0⟩:=zE (l[c]);rw [b0] at B a9 m;obtain⟨f,b1⟩:=zE (x % 8);rw [b1] at m;have b2:f<8:=by omega
 have f2:(x:Int) % 8=(f:Int):=by omega
 have f0:(0:Int)<=(f:Int):=by omega
 have f1:(f:Int)<8:=by omega
 have b3:f<(Z7 8 0).length:=by rw [Zw];exact b2
 have Z:=(b7.out.ext p.out).at b3;rw [Zw] at Z;obtain⟨e2,f4,e0,j,c8,q,r⟩:=Z;simp only [zV,true_and] at j;obtain⟨rfl,rfl⟩:=j;have a1:(Z7 8 0).getD f (0,0)=Zb 0 f:=by unfold Z7;rw [List.getD_eq_getElem?_getD];simp [b2]
 rw [a1] at q r;obtain⟨⟨F,G⟩,a5⟩:=zE (Zb 0 f);rw [a5] at q r m;dsimp only at q r;have Y:i<=g.heap.size:=by have:=p.out.size;rw [P.out] at this;exact this
 have k:Ext g (g.alloc (.cells #[.int .u32 (F:Int),.int .u32 (G:Int)] 26)):=(Q0.refl _ g).alloc _;have a6:=Rd.of_own (World.ownsRow_lit (base:=i) (e:=26) (size:=2) g #[.int .u32 (F:Int),.int .u32 (G:Int)] 1 Y zd rfl);have a4:=Qa u.out k;have d3:=k.size;obtain⟨c0,M,y,I,b4⟩:=Zh5 m a6 a4 (p.out.trans k) k;have a8:i<=(g.alloc (.cells #[.int .u32 (F:Int),.int .u32 (G:Int)] 26)).heap.size:=by omega
 have O:=Zh a8;clear m a6 a4 k d3 a8 Y b0 b1 a5 a1 b3 t a9 c7 c8
 go_wp2_with (at_builtin;refine Kh rfl (.tmp 21) (.tmp 27) 23 rfl i 26 _ 2 8 Tryz.underlying23 @Vy rfl zd _ _ _ rfl y.out _ 1 _ _ rfl M.out (by intro d8 o;simp at o;rcases o with rfl | rfl <;> rfl) ?c3 ?c4 O.out ?_)
 case c3=>unfold maxLen;omega
 case c4=>omega
 intro d7 d6 c2 V W _;have S:Ext H c2:=I.out.after W (fun b hb e=>by have:=(y.out.lt b e).1;have:=P.out;omega);have b9:=Zh V;have b6:=Zh S;clear V S W u y I M O p q r B b4;go_wp2;exact⟨⟨c+1,d7,d6,by omega,by first | trivial | rfl,rfl,by have:=b9.out;rw [c0.out];simpa [Qx] using this,b6.out⟩,nz⟩
theorem Nd:∀ i:Nat,i<8->okS (Zb 0 i)=true:=by decide
theorem P6(l:List Nat){mo:Nat}(h:mo<=15):wE (J2 l mo)=0/\(J2 l mo).length<=mo:=by
 have a:(J2 l mo).length<=mo:=by unfold J2;rw [List.length_map];exact List.length_take_le _ _
 refine⟨Hq.2 ⟨by omega,fun s hs=>?_⟩,a⟩;obtain⟨b,_,rfl⟩:=List.mem_map.1 hs;exact Nd _ (Nat.mod_lt _ zd)
theorem Rv{a b:Wd}{s:Nat × Nat}(d:wE a=0)(e:wE b=0)(f:okS s=true)(g:a.length+b.length<=31):wE (Qg a b s)=0:=by
 refine Hq.2 ⟨by unfold Qg;simp;omega,fun x c=>?_⟩;unfold Qg at c;simp only [List.mem_append,List.mem_singleton] at c;rcases c with (c | rfl) | c
 ·exact(Hq.1 d).2 x c
 ·exact f
 ·exact(Hq.1 e).2 x c
theorem Fl{l:List Int}(h:∀ x∈l,x=0\/x=11):(Ql l=0\/Ql l=11)/\(Ql l=0↔∀ x∈l,x=0):=by
 induction l with
 | nil=>exact⟨.inl rfl,by simp [Ql]⟩
 | cons e l ih=>
  obtain⟨d,f⟩:=ih (fun x hx=>h x (List.mem_cons_of_mem _ hx));by_cases a:e=0
  ·subst a;have c:Ql (0::l)=Ql l:=by rw [Ql,if_pos rfl]
   rw [c];exact⟨d,by rw [f];simp⟩
  ·have c:Ql (e::l)=e:=by rw [Ql,if_neg a]
   rw [c];have g:=(h e zy).resolve_left a;refine⟨.inr g,?_⟩;constructor
   ·intro b;exact absurd b a
   ·intro b;exact b e zy
def Vf(w:World)(v:Value)(us:List Wd):Prop:=∃ vs,Rd w v us.length 1 vs/\Z1 w vs us
theorem Vf.ext{A B:World}{v:Value}{us:List Wd}(h:Vf A v us)(a:Ext A B):Vf B v us:=by
 obtain⟨d,b,c⟩:=h;exact⟨d,b.ext a,c.ext a⟩
theorem Z1.row{A B:World}{v:Value}{base:Nat}{e:TypeId}{sz n:Nat}{xs:List Value}(hr:Ky Q00 A v)(ho:A.ownsRow base e sz v n xs)(ht:Q0 (fun b=>v.ownBlock=some b) A B):∀ {vs:List Value} {us:List Wd},Z1 A vs us->Z1 B vs us
 | [],[],_=>trivial
 | _::_,_::_,⟨h1,h2⟩=>⟨h1.row hr ho ht,Z1.row hr ho ht h2⟩
theorem Ty:∀ args w,(callFunc 94 args).run Tryz.prog w=.ok (.enter 94 args) w:=fun args w=>by simp [go_sem]
theorem Ly:∀ {W:World} {vs:List Value} {us:List Wd} {i:Nat},Z1 W vs us->(hi:i<us.length)->∃ uo uc,vs.getD i undef=.slice uo us[i].length uc/\Q5 W (.slice uo us[i].length uc) us[i]
 | _,[],[],_,_,h=>absurd h (Nat.not_lt_zero _)
 | _,_::_,_::_,0,h,_=>by
  obtain⟨⟨ao,c,h1,h2,_⟩,_⟩:=h
  exact⟨ao,c,h1,h2⟩
 | _,_::_,_::_,i+1,h,hi=>Ly (i:=i) h.2 (by simpa using hi)
structure Gq (w:World) (lo:Option Addr) (n lc K O P Q T s1 s2 t1 t2:Nat):Prop where
 j:w.heap[P]?=some (.cells #[.slice lo n lc,.map (some K),.map (some O)] 125 (0,0))
 s:w.heap[Q]?=some (.cells #[.int .u32 (s1:Int),.int .u32 (s2:Int)] 26 (0,0))
 t:w.heap[T]?=some (.cells #[.int .u32 (t1:Int),.int .u32 (t2:Int)] 26 (0,0))
 ne:P≠K/\P≠O/\Q≠K/\Q≠O/\T≠K/\T≠O
theorem Gq.keep{w V:World}{lo:Option Addr}{n lc K O P Q T s1 s2 t1 t2:Nat}(h:Gq w lo n lc K O P Q T s1 s2 t1 t2)(ht:Q0 (fun q=>q=K\/q=O) w V):Gq V lo n lc K O P Q T s1 s2 t1 t2:=
 ⟨ht.heap h.j (by have:=h.ne;omega),ht.heap h.s (by have:=h.ne;omega),ht.heap h.t (by have:=h.ne;omega),h.ne⟩
def IxR(P:Program)(k e:TypeId)(ls:List Q4)(w:World)(K O:Nat)(OS:List (List UInt8)) (c:Nat) (b:Bool) (en:Ending) (w':World):Prop:=∃(z:Int) (R:List (List UInt8)),en=.returned (.int .i64 z)/\decide (0<=z)=b/\JAt P k e ls w' K O (OS++R) c/\Q0 (fun q=>q=K\/q=O) w w'
section
variable {w0:World} {ps:Ze} {lo:Option Addr} {n lc:Nat} (hl:Z5 w0 (.slice lo n lc) ps) (hn:ps.length=n) (hT:Tab w0) {K O:Nat} (hK:w0.heap.size<=K) (hO:w0.heap.size<=O) (hKO:K≠O) {s1 s2 t1 t2:Nat} (hs:Qd (s1,s2)) (ht:Qd (t1,t2)) (hsv:okS (s1,s2)=true) (htv:okS (t1,t2)=true) (hst:(s1,s2)≠(t1,t2))
include hl hn hT hK hO hKO hs ht hsv htv hst
theorem Q24{w:World}(hE:Ext w0 w){P Q T:Nat}(hB:Gq w lo n lc K O P Q T s1 s2 t1 t2){OS:List (List UInt8)} {c:Nat} (hJ:JAt Tryz.prog 9 3 (ps.map (·.1)) w K O OS c) (hc:c<=900000) {uw:Wd} {uo:Option Addr} {un uc:Nat} (hu:Q5 w0 (.slice uo un uc) uw) (hun:uw.length=un) (hlw:Zz (ps.map (·.1)) uw=0) :
  Calls Tryz.prog 94 #[.slice uo un uc,.pointer (some ⟨P,0,none⟩),.pointer (some ⟨Q,0,none⟩),.pointer (some ⟨T,0,none⟩)] w (ApR Tryz.prog 9 3 (ps.map (·.1)) w K O OS (c+64) (apB (ps.map (·.1)) uw (s1,s2) (t1,t2))):=by
 have HC:=Zh (El hl hn hT hE hK hO hKO hJ hc hu hun hlw hs ht hsv htv hst)
 have d0:w.cell? ⟨P,0,none⟩=some (.slice lo n lc):=by rw [cell_of_row _ _ _ _ _ _ hB.j];rfl
 have d1:w.cell? ⟨P,1,none⟩=some (.map (some K)):=by rw [cell_of_row _ _ _ _ _ _ hB.j];rfl
 have d2:w.cell? ⟨P,2,none⟩=some (.map (some O)):=by rw [cell_of_row _ _ _ _ _ _ hB.j];rfl
 have e0:w.cell? ⟨Q,0,none⟩=some (.int .u32 (s1:Int)):=by rw [cell_of_row _ _ _ _ _ _ hB.s];rfl
 have e1:w.cell? ⟨Q,1,none⟩=some (.int .u32 (s2:Int)):=by rw [cell_of_row _ _ _ _ _ _ hB.s];rfl
 have f0:w.cell? ⟨T,0,none⟩=some (.int .u32 (t1:Int)):=by rw [cell_of_row _ _ _ _ _ _ hB.t];rfl
 have f1:w.cell? ⟨T,1,none⟩=some (.int .u32 (t2:Int)):=by rw [cell_of_row _ _ _ _ _ _ hB.t];rfl
 clear hl hn hT hE hK hO hKO hJ hc hu hun hlw hs ht hsv htv hst hB
 obtain⟨LD,hLD⟩:∃ x,ps.map (·.1)=x:=⟨_,rfl⟩
 rw [hLD] at HC ⊢
 clear hLD
 obtain⟨B,hB⟩:∃ b,apB LD uw (s1,s2) (t1,t2)=b:=⟨_,rfl⟩
 rw [hB] at HC ⊢
 clear hB
 go_enter Tryz.func94,Tryz.ntmps94
 go_wp2_with fail
 refine HC.out.mono ?_
 rintro e w2 ⟨R,rfl,hJ,hT⟩
 have HJ:=Zh hJ;have HT:=Zh hT
 clear hJ hT HC d0 d1 d2 e0 e1 f0 f1
 go_wp2
 go_ret
 exact⟨R,rfl,HJ.out,HT.out⟩
theorem Cu{w:World}(hE:Ext w0 w){P Q T:Nat}(hB:Gq w lo n lc K O P Q T s1 s2 t1 t2){OS:List (List UInt8)} {c:Nat} (hJ:JAt Tryz.prog 9 3 (ps.map (·.1)) w K O OS c) (hc:c<=800000) {ao:Option Addr} {N cap:Nat} {us:List Wd} (hu:Vf w0 (.slice ao N cap) us) (hN:us.length=N) (hN32:N<=32) (hlw:∀ uw∈us,Zz (ps.map (·.1)) uw=0) :
  Calls Tryz.prog 121 #[.slice ao N cap,.func (.func 94) #[] #[.pointer (some ⟨P,0,none⟩),.pointer (some ⟨Q,0,none⟩),.pointer (some ⟨T,0,none⟩)]] w (IxR Tryz.prog 9 3 (ps.map (·.1)) w K O OS (c+64*N) (apL (ps.map (·.1)) us (s1,s2) (t1,t2))):=by
 obtain⟨vs,hr,hws⟩:=hu
 rw [hN] at hr
 have hcall:=fun {V:World} (hE:Ext w0 V) (hB:Gq V lo n lc K O P Q T s1 s2 t1 t2) {OS:List (List UInt8)} {c:Nat} (hJ:JAt Tryz.prog 9 3 (ps.map (·.1)) V K O OS c) (hc:c<=900000) {uw:Wd} {uo:Option Addr} {un uc:Nat} (hu:Q5 w0 (.slice uo un uc) uw) (hun:uw.length=un) (hlw:Zz (ps.map (·.1)) uw=0)=>Q24 hl hn hT hK hO hKO hs ht hsv htv hst hE hB hJ hc hu hun hlw
 obtain⟨LD,hLD⟩:∃ x,ps.map (·.1)=x:=⟨_,rfl⟩
 rw [hLD] at hJ ⊢
 simp only [hLD] at hcall hlw
 have HCALL:Hid (∀ {V:World},Ext w0 V->Gq V lo n lc K O P Q T s1 s2 t1 t2->∀ {OS:List (List UInt8)} {c:Nat},JAt Tryz.prog 9 3 LD V K O OS c->c<=900000->∀ {uw:Wd} {uo:Option Addr} {un uc:Nat},Q5 w0 (.slice uo un uc) uw->uw.length=un->Zz LD uw=0->_):=Zh hcall
 have HLW:=Zh hlw;have HR:=Zh hr;have HWS:=Zh hws;have HN:=Zh hN;have HE:=Zh hE;have HB:=Zh hB;have HJ:=Zh hJ;have HKb:=Zh hK;have HOb:=Zh hO
 clear hl hn hT hE hK hO hKO hJ hs ht hsv htv hst hB hcall hlw hr hws hN hLD
 have hen:=Ty
 have HEN:=Zh hen
 clear hen
 go_enter Tryz.func121,Tryz.ntmps121
 go_wp2
 refine wp_loop (fun a W=>∃(k:Nat) (R:List (List UInt8)),k<=N/\a.defers=[]/\(a.tmps.size=19/\a.tmps.getD 0 undef=.slice ao N cap/\a.tmps.getD 1 undef=.func (.func 94) #[] #[.pointer (some ⟨P,0,none⟩),.pointer (some ⟨Q,0,none⟩),.pointer (some ⟨T,0,none⟩)]/\a.tmps.getD 7 undef=.int .i64 N/\a.tmps.getD 8 undef=.int .i64 k)/\JAt Tryz.prog 9 3 LD W K O (OS++R) (c+64*k)/\(us.take k).any (fun uw=>apB LD uw (s1,s2) (t1,t2))=false/\Q0 (fun q=>q=K\/q=O) w W)
  (fun a _=>N - (intOf (a.tmps.getD 8 undef)).toNat) ?_ ?_
 ·exact⟨0,[],by omega,rfl,⟨rfl,rfl,rfl,rfl,rfl⟩,by rw [List.append_nil];exact HJ.out,rfl,Q0.refl _ _⟩
 clear HJ
 rintro⟨t,_⟩ W ⟨k,R,hk,hds,⟨hsz,f0,f1,f7,f8⟩,hJ,hall,hTW⟩
 subst hds
 obtain⟨u',hu⟩:=Zg hsz
 obtain⟨u,rfl⟩:∃ x,x=u':=⟨_,rfl⟩
 have hu':t=#[u 0,u 1,u 2,u 3,u 4,u 5,u 6,u 7,u 8,u 9,u 10,u 11,u 12,u 13,u 14,u 15,u 16,u 17,u 18]:=hu
 clear hu
 subst hu'
 change u 0=_ at f0
 change u 1=_ at f1
 change u 7=_ at f7
 change u 8=_ at f8
 rw [f0,f1,f7,f8]
 clear f0 f1 f7 f8 hsz
 have HJ:=Zh hJ;have HALL:=Zh hall;have HTW:=Zh hTW
 clear hJ hall hTW
 by_cases hkN:k<N
 case neg=>
  obtain rfl:k=N:=by omega
  have h1:¬ (k:Int)<(k:Int):=by omega
  go_wp2
  go_ret
  have ha:=HALL.out
  rw [List.take_of_length_le (by rw [HN.out];exact Nat.le_refl _)] at ha
  exact⟨-1,R,rfl,by unfold apL;rw [ha];rfl,HJ.out,HTW.out⟩
 have h1:(k:Int)<(N:Int):=by omega
 have h0:(0:Int)<=(k:Int):=by omega
 have hkl:k<us.length:=by rw [HN.out];exact hkN
 have hEW:Ext w0 W:=HE.out.after HTW.out (fun b hb e=>by have:=HKb.out;have:=HOb.out;omega)
 obtain⟨g,off,c',hq,hg,hcl⟩:=Zq (HR.out.ext hEW) hkN
 simp only [Value.slice.injEq,true_and] at hq
 obtain⟨rfl,rfl⟩:=hq
 obtain⟨uo,uc,hv,hwu⟩:=Ly HWS.out hkl
 rw [hv] at hcl
 have hc2:=HCALL.out hEW (HB.out.keep HTW.out) HJ.out (by omega) hwu rfl (HLW.out _ (List.getElem_mem hkl))
 have htk:us.take (k+1)=us.take k++[us[k]]:=List.take_succ_eq_append_getElem hkl
 obtain⟨uw,huw⟩:∃ x,us[k]=x:=⟨_,rfl⟩
 rw [huw] at hcl hc2 htk
 have hmem:uw∈us:=by rw [<-huw];exact List.getElem_mem hkl
 obtain⟨un,hun⟩:∃ x,uw.length=x:=⟨_,rfl⟩
 rw [hun] at hcl hc2
 have HC2:=Zh hc2;have HTK:=Zh htk;have HMEM:=Zh hmem
 clear hc2 htk hv hwu huw hun hg hEW hmem hkl
 have hen:=HEN.out
 go_wp2_with fail
 clear hen
 refine HC2.out.mono ?_
 rintro e W2 ⟨R2,rfl,hJ2,hT2⟩
 obtain⟨b,hb⟩:∃ b,apB LD uw (s1,s2) (t1,t2)=b:=⟨_,rfl⟩
 rw [hb]
 have HBB:=Zh hb;have HJ2:=Zh hJ2;have HT2:=Zh (HTW.out.trans hT2)
 clear hb hJ2 hT2 HC2 hcl HTW HJ
 cases b
 ·go_wp2
  exact⟨⟨k+1,R++R2,by omega,by first | rfl | trivial,⟨rfl,rfl,rfl,rfl,rfl⟩,by have h:=HJ2.out.mono (d:=c+64*(k+1)) (by omega);simpa [List.append_assoc] using h,by rw [HTK.out,List.any_append,HALL.out];simp [HBB.out],HT2.out⟩,by simp [intOf];omega⟩
 ·go_wp2
  go_ret
  exact⟨(k:Int),R++R2,rfl,by unfold apL;rw [List.any_eq_true.2 ⟨uw,HMEM.out,HBB.out⟩];simp,by have h:=HJ2.out.mono (d:=c+64*N) (by omega);simpa [List.append_assoc] using h,HT2.out⟩
theorem Pw{w:World}(hE:Ext w0 w){P Q T:Nat}(hB:Gq w lo n lc K O P Q T s1 s2 t1 t2){OS:List (List UInt8)} {c:Nat} (hJ:JAt Tryz.prog 9 3 (ps.map (·.1)) w K O OS c) (hc:c<=800000) {ao:Option Addr} {N cap:Nat} {us:List Wd} (hu:Vf w0 (.slice ao N cap) us) (hN:us.length=N) (hN32:N<=32) (hlw:∀ uw∈us,Zz (ps.map (·.1)) uw=0) :
  Calls Tryz.prog 81 #[.slice ao N cap,.func (.func 94) #[] #[.pointer (some ⟨P,0,none⟩),.pointer (some ⟨Q,0,none⟩),.pointer (some ⟨T,0,none⟩)]] w (ApR Tryz.prog 9 3 (ps.map (·.1)) w K O OS (c+64*N) (apL (ps.map (·.1)) us (s1,s2) (t1,t2))):=by
 have HI:=Zh (Cu hl hn hT hK hO hKO hs ht hsv htv hst hE hB hJ hc hu hN hN32 hlw (cap:=cap))
 clear hl hn hT hE hK hO hKO hJ hs ht hsv htv hst hB hlw hu hN
 go_enter Tryz.func81,Tryz.ntmps81
 go_wp2_with fail
 refine HI.out.mono ?_
 rintro e w2 ⟨z,R,rfl,hz,hJ2,hT2⟩
 have HZ:=Zh hz;have HJ2:=Zh hJ2;have HT2:=Zh hT2
 clear hz hJ2 hT2 HI
 go_wp2
 go_ret
 exact⟨R,by rw [<-HZ.out];rfl,HJ2.out,HT2.out⟩
end
end Go.Proofs.YtejenndedjabhaaGreatDoor
