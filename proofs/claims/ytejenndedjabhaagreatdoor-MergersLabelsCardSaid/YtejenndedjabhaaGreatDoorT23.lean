/- ablautref08.Hit (printed by genrefhit.py). -/
import Derived.Test.YtejenndedjabhaaGreatDoorT21
import Derived.Test.YtejenndedjabhaaGreatDoorT18
import Derived.Test.YtejenndedjabhaaGreatDoorT22
set_option maxRecDepth 100000
set_option maxHeartbeats 16000000
namespace Go.Proofs.YtejenndedjabhaaGreatDoor
open Go.RowKit Go.Ab
attribute [local go_sem] Oper.semAt_some Zi Qu
def Qbk(t:List (Nat × Wd)):Int:=if Uf t=true then 11 else 0
def Qbt(t:List (Nat × Wd)):List (Nat × Wd):=if Uf t=true then [] else t
def Qbm(v:Value):Nat:=match v with | .slice _ n _=>n | _=>0
def Off(dv:Value)(vals:List Value):Prop:=∀ x∈vals,Zo (fun g=>dv.ownBlock≠some g) x
theorem Off.same{dv dv':Value}{vals:List Value}{W:World}(h:Off dv vals)(hk:∀ x∈vals,Zo (fun g=>g<W.heap.size) x) (hb:dv'.ownBlock=dv.ownBlock\/∃ k,W.heap.size<=k/\dv'.ownBlock=some k):Off dv' vals:=fun x hx g o n c e h0=>by
 rcases hb with hb | ⟨k,h1,h2⟩
 ·rw [hb];exact h x hx g o n c e h0
 ·rw [h2];intro q;cases q;have:=hk x hx g o n c e h0;omega
theorem TrP.turn{b:Nat}{A B:World}{u v dv:Value}{vals:List Value}{tr:List (Nat × Wd)} {b3 n3:Nat} {x3:List Value} (h:TrP b A u v vals tr) (hd:A.ownsRow b3 26 2 dv n3 x3) (ht:Qa (fun g=>dv.ownBlock=some g) A B) (ho:Off dv vals):TrP b B u v vals tr:=
 ⟨Qq h.ou ht (fun g hg e=>Hj h.ou hd zd g hg e),Qq h.ov ht (fun g hg e=>Hj h.ov hd zd g hg e),h.wd.keepS (S:=fun g=>dv.ownBlock≠some g) (ht.mono fun _ _ e hn=>hn e) ho,fun x hx=>(h.wk x hx).mono fun g hg=>⟨Nat.lt_of_lt_of_le hg.1 ht.size,hg.2⟩⟩
def Qb1(E:Int)(n:Nat)(W:World)(v:Value)(u:Wd):Prop:=(E≠0->v=.slice none 0 0)/\(E=0->∃ ao c vs,v=.slice ao (n+1) c/\Rd W v (n+1) 1 vs/\Z2 W (vs.getD n undef) u)
def Zf(sh i:Nat):Nat × Nat:=((i+sh) % 64,63 - (i+sh) % 64)
def Z5(n sh:Nat):Wd:=(List.range n).map (Zf sh)
theorem Q5l(n sh:Nat):Z5 (n+1) sh=Z5 n sh++[Zf sh n]:=by unfold Z5;rw [List.range_succ,List.map_append];rfl
theorem Yx(n sh:Nat):(Z5 n sh).length=n:=by simp [Z5]
theorem Do(sh i:Nat):Qv (Zf sh i):=by
 have:(i+sh) % 64<64:=Nat.mod_lt _ zd;unfold Zf Qv;dsimp only;omega
theorem Q9b(n sh:Nat):Zt (Z5 n sh):=fun s hs=>by
 obtain⟨i,_,rfl⟩:=List.mem_map.1 hs;exact Do sh i
theorem Qad:∀ q:Nat,q<64->63 &&& (4294967295 - q)=63 - q:=by decide
theorem Fw(w:World){n sh:Nat}(a0:n<=64)(a2:sh<256) :
  Calls Tryz.prog 29 #[.int .i64 (n:Int),.int .u8 (sh:Int)] w fun e w'=>∃ ao c,e=.returned (.slice ao n c)/\Z2 w' (.slice ao n c) (Z5 n sh)/\Ext w w':=by
 obtain⟨i,E⟩:=zE w.heap.size;have x:=Zh E;clear E;go_enter Tryz.func29,Tryz.ntmps29;go_wp2
 refine wp_loop (fun a g=>∃(d:Nat) (ao:Option Addr) (m:Nat),d<=n/\a.defers=[]/\gS a [1,5,8,9]=(27,[.int .u8 (sh:Int),.slice ao d m,.int .i64 n,.int .i64 d])/\g.ownsRow i 26 2 (.slice ao d m) d (Zj (Z5 d sh))/\Ext w g)
  (fun a _=>n - (intOf (a.tmps.getD 9 undef)).toNat) ?_ ?_
 ·exact⟨0,none,0,by omega,rfl,rfl,World.ownsRow_nil _ _ _ _,Qa.refl _ _⟩
 rintro⟨a5,_⟩ g ⟨d,ao,m,Y,R,J,A,y⟩;subst R;obtain⟨u,rfl⟩:=Qz J;clear J;have p:=Zh A;have l:=Zh y;clear A y;by_cases Z:d<n;case neg=>
  obtain rfl:d=n:=by omega
  have Q:¬ (d:Int)<(d:Int):=by omega
  go_wp2;go_ret;refine⟨ao,m,rfl,?_,l.out⟩;have k:=Z2.own (u:=Z5 d sh) (by rw [Yx];exact p.out) (Q9b d sh);rw [Yx] at k;exact k
 have Q:(d:Int)<(n:Int):=by omega
 have W:(0:Int)<=(d:Int):=by omega
 have a3:IntKind.i64.wrap (sh:Int)=(sh:Int):=IntWalk.i64_in _ oz;have a4:IntKind.i64.wrap ((d:Int)+(sh:Int))=(d:Int)+(sh:Int):=IntWalk.i64_in _ oz;obtain⟨f,H⟩:=zE ((d+sh) % 64);have S:f<64:=by omega
 have a1:((d:Int)+(sh:Int)) % 64=(f:Int):=by omega
 obtain⟨j,r⟩:=zE (63 - f);have X:bits .andNot .u32 63 (f:Int)=(j:Int):=by
  have k:=u32_andNot_nat 63 f zd oz;rw [Qad f S,r] at k;exact k
 have C:Z5 (d+1) sh=Z5 d sh++[(f,j)]:=by rw [Q5l];unfold Zf;rw [H,r]
 have F:i<=g.heap.size:=by have:=l.out.size;rw [x.out] at this;exact this
 have o:Ext g (g.alloc (.cells #[.int .u32 (f:Int),.int .u32 (j:Int)] 26)):=(Qa.refl _ g).alloc _;have I:=Rd.of_own (World.ownsRow_lit (base:=i) (e:=26) (size:=2) g #[.int .u32 (f:Int),.int .u32 (j:Int)] 1 F zd rfl);have G:=Qm p.out o;have T:=o.size;obtain⟨O,t,q,s⟩:=Zh4 C I G (l.out.trans o);have K:i<=(g.alloc (.cells #[.int .u32 (f:Int),.int .u32 (j:Int)] 26)).heap.size:=by omega
 have v:=Zh K;clear C I G o T K F H r
 go_wp2_with (at_builtin;refine Kh rfl (.tmp 18) (.tmp 23) 23 rfl i 26 _ 2 8 Tryz.underlying23 @Ha rfl zd _ _ _ rfl q.out _ 1 _ _ rfl t.out (by intro u L;simp at L;rcases L with rfl | rfl <;> rfl) ?c3 ?c4 v.out ?_)
 case c3=>unfold maxLen;omega
 case c4=>omega
 intro V U P B D _;have z:Ext w P:=s.out.after D (fun b hb e=>by have:=(q.out.lt b e).1;have:=x.out;omega);have N:=Zh B;have M:=Zh z;clear B z D p q s t v l;go_wp2;exact⟨⟨d+1,V,U,by omega,by first | trivial | rfl,rfl,by have:=N.out;rw [O.out];simpa [Zj] using this,M.out⟩,nz⟩
attribute [local go_sem high] Si
def u8V(l:List Nat):List Value:=l.map fun(x:Nat)=>Value.int .u8 (x:Int)
theorem Q7p(l:List Nat){k:Nat}(h:k<l.length):(u8V l).getD k undef=.int .u8 (l[k]:Nat):=by rw [List.getD_eq_getElem?_getD];simp [u8V,h]
def Ub(l:List Nat)(most:Nat):Wd:=(l.take most).map fun k=>Zf 0 (k % 8)
theorem Q05{l:List Nat}{k:Nat}(h:k<l.length):(l.take (k+1)).map (fun k=>Zf 0 (k % 8))=(l.take k).map (fun k=>Zf 0 (k % 8))++[Zf 0 (l[k] % 8)]:=by
 rw [List.take_succ_eq_append_getElem h,List.map_append];rfl
theorem Q3f(l:List Nat)(most:Nat):Zt (Ub l most):=fun s hs=>by
 obtain⟨i,_,rfl⟩:=List.mem_map.1 hs;exact Do 0 _
theorem Q5i{w:World}{base:Nat}{e:TypeId}{ao:Option Addr}{n c:Nat}{u:Wd}(a:u.length=n)(h:w.ownsRow base e 2 (.slice ao n c) n (Zj u)) (b:Zt u):Z2 w (.slice ao n c) u:=by subst a;exact Z2.own h b
theorem Ps{w:World}{ao:Option Addr}{N cap:Nat}{l:List Nat}(C:Rd w (.slice ao N cap) N 1 (u8V l)) (A:l.length=N) (o:∀ x∈l,x<256) (e6:N<=cap) {mo:Nat} (e9:mo<=100) :
  Calls Tryz.prog 28 #[.slice ao N cap,.int .i64 (mo:Int)] w fun e w'=>∃ v,e=.returned v/\Z2 w' v (Ub l mo)/\Ext w w':=by
 have d0:=C.2.1;unfold maxLen at d0;obtain⟨d,T⟩:=zE (min N mo);have d2:min (N:Int) (mo:Int)=(d:Int):=by omega
 have e5:d<=N:=by omega
 have e4:d<=100:=by omega
 have a0:Ub l mo=(l.take d).map (fun c=>Zf 0 (c % 8)):=by unfold Ub;congr 1;rw [<-T,<-A,Nat.min_comm];exact(List.take_eq_take_min)
 obtain⟨b8,L,c1,J⟩:=Zh4 C A o a0;clear C A o a0 T;go_enter Tryz.func28,Tryz.ntmps28;go_wp2_with fail;refine(Fw w (n:=8) (sh:=0) zd zd).mono ?_;rintro e H ⟨d5,d4,rfl,c9,R⟩;obtain⟨_,_,j,a2,_⟩:=c9;cases j;obtain⟨i,X⟩:=zE H.heap.size;obtain⟨b7,b5,P⟩:=Zh3 a2 R X;clear a2 R X;go_wp2;clear d2
 refine wp_loop (fun a g=>∃(c:Nat) (E:Option Addr) (D:Nat),c<=d/\a.defers=[]/\gS a [5,6,15,16,17]=(31,[.slice d5 8 d4,.slice E c D,.slice ao d cap,.int .i64 d,.int .i64 c])/\g.ownsRow i 26 2 (.slice E c D) c (Zj ((l.take c).map (fun c=>Zf 0 (c % 8))))/\Ext H g)
  (fun a _=>d - (intOf (a.tmps.getD 17 undef)).toNat) ?_ ?_
 ·exact⟨0,none,0,by omega,rfl,rfl,World.ownsRow_nil _ _ _ _,Qa.refl _ _⟩
 rintro⟨f5,_⟩ g ⟨c,E,D,e7,c6,a7,U,z⟩;subst c6;obtain⟨d8,rfl⟩:=Qz a7;clear a7;obtain⟨u,p,K⟩:=Zh3 U z (b5.out.trans z);clear U z;by_cases e8:c<d;case neg=>
  obtain rfl:c=d:=by omega
  have c5:¬ (c:Int)<(c:Int):=by omega
  go_wp2;go_ret;refine⟨_,rfl,?_,K.out⟩;have d1:(Ub l mo).length=c:=by rw [J.out,List.length_map,List.length_take,L.out];omega
  have Q:=u.out;rw [<-J.out] at Q;exact Q5i d1 Q (Q3f l mo)
 have c5:(c:Int)<(d:Int):=by omega
 have e3:(0:Int)<=(c:Int):=by omega
 have a3:c<N:=by omega
 have t:c<l.length:=by rw [L.out];exact a3
 obtain⟨e1,f3,d9,j,c7,B⟩:=Y5 (b8.out.ext K.out) a3;simp only [zV,true_and] at j;obtain⟨rfl,rfl⟩:=j;rw [Q7p l t] at B;have a9:=c1.out _ (List.getElem_mem t);have m:=Q05 t;obtain⟨x,b0⟩:=zE (l[c]);rw [b0] at B a9 m;obtain⟨f,b1⟩:=zE (x % 8);rw [b1] at m;have b2:f<8:=by omega
 have f2:(x:Int) % 8=(f:Int):=by omega
 have f0:(0:Int)<=(f:Int):=by omega
 have f1:(f:Int)<8:=by omega
 have b3:f<(Z5 8 0).length:=by rw [Yx];exact b2
 have Z:=(b7.out.ext p.out).at b3;rw [Yx] at Z;obtain⟨e2,f4,e0,j,c8,q,r⟩:=Z;simp only [zV,true_and] at j;obtain⟨rfl,rfl⟩:=j;have a1:(Z5 8 0).getD f (0,0)=Zf 0 f:=by unfold Z5;rw [List.getD_eq_getElem?_getD];simp [b2]
 rw [a1] at q r;obtain⟨⟨F,G⟩,a5⟩:=zE (Zf 0 f);rw [a5] at q r m;dsimp only at q r;have Y:i<=g.heap.size:=by have:=p.out.size;rw [P.out] at this;exact this
 have k:Ext g (g.alloc (.cells #[.int .u32 (F:Int),.int .u32 (G:Int)] 26)):=(Qa.refl _ g).alloc _;have a6:=Rd.of_own (World.ownsRow_lit (base:=i) (e:=26) (size:=2) g #[.int .u32 (F:Int),.int .u32 (G:Int)] 1 Y zd rfl);have a4:=Qm u.out k;have d3:=k.size;obtain⟨c0,M,y,I,b4⟩:=Zh5 m a6 a4 (p.out.trans k) k;have a8:i<=(g.alloc (.cells #[.int .u32 (F:Int),.int .u32 (G:Int)] 26)).heap.size:=by omega
 have O:=Zh a8;clear m a6 a4 k d3 a8 Y b0 b1 a5 a1 b3 t a9 c7 c8
 go_wp2_with (at_builtin;refine Kh rfl (.tmp 21) (.tmp 27) 23 rfl i 26 _ 2 8 Tryz.underlying23 @Ha rfl zd _ _ _ rfl y.out _ 1 _ _ rfl M.out (by intro d8 o;simp at o;rcases o with rfl | rfl <;> rfl) ?c3 ?c4 O.out ?_)
 case c3=>unfold maxLen;omega
 case c4=>omega
 intro d7 d6 c2 V W _;have S:Ext H c2:=I.out.after W (fun b hb e=>by have:=(y.out.lt b e).1;have:=P.out;omega);have b9:=Zh V;have b6:=Zh S;clear V S W u y I M O p q r B b4;go_wp2;exact⟨⟨c+1,d7,d6,by omega,by first | trivial | rfl,rfl,by have:=b9.out;rw [c0.out];simpa [Zj] using this,b6.out⟩,nz⟩
theorem Q88:(Tryz.prog.info? 23).map (fun i=>(i.zero,i.size,i.bytes))=some (some (.slice none 0 0),1,24):=by kernel_rfl
def Fy(w:World)(v:Value)(us:List Wd):Prop:=∃ vs,Rd w v us.length 1 vs/\Zd w vs us
theorem Fy.ext{A B:World}{v:Value}{us:List Wd}(h:Fy A v us)(a:Ext A B):Fy B v us:=by
 obtain⟨d,b,c⟩:=h;exact⟨d,b.ext a,c.ext a⟩
theorem Zd.row{A B:World}{v:Value}{base:Nat}{e:TypeId}{sz n:Nat}{xs:List Value}(hr:Uh Rp A v)(ho:A.ownsRow base e sz v n xs)(ht:Qa (fun b=>v.ownBlock=some b) A B):∀ {vs:List Value} {us:List Wd},Zd A vs us->Zd B vs us
 | [],[],_=>trivial
 | _::_,_::_,⟨h1,h2⟩=>⟨h1.row hr ho ht,Zd.row hr ho ht h2⟩
theorem Q1l{ls:List Qg}{a b:Wd}{s:Nat × Nat}(c:Z7 ls a b=0)(d:okS s=true):Vb ls a b s=Yu ls (Ql a b s)/\Ke ls a b s=Xa ls (Ql a b s):=by
 unfold Vb Ke;rw [if_pos c,if_pos c,d];exact⟨rfl,rfl⟩
def Qai(DS:List Wd)(k:Nat):List Nat:=(List.range k).map (Z0 DS)
theorem Fy.at{w:World}{vo:Option Addr}{N vc:Nat}{us:List Wd}(h:Fy w (.slice vo N vc) us) (j:us.length=N) {i:Nat} (l:i<N) :
  ∃ g off ao c,vo=some ⟨g,off,none⟩/\g<w.heap.size/\w.cell? ⟨g,off+i,none⟩=some (.slice ao (us.getD i []).length c)/\Qf w (.slice ao (us.getD i []).length c) (us.getD i []):=by
 obtain⟨o,a,f⟩:=h;rw [j] at a;obtain⟨g,off,n,d,k,b⟩:=Y5 a l;simp only [zV,true_and] at d;obtain⟨rfl,rfl⟩:=d;obtain⟨ao,c,e,m,_⟩:=f.get i oz;rw [e] at b;exact⟨g,off,ao,c,rfl,k,b,m⟩
def Qaq(DS PL:List Wd)(k:Nat):List Int:=(List.range k).map fun i=>Ya PL (DS.getD i []) PL.length
theorem Q1i:Vb [v15] [(5,2)] [(5,2)] (2,5)=0/\Ke [v15] [(5,2)] [(5,2)] (2,5)=[(5,2),(3,4),(5,2)]:=by decide +kernel
theorem Ns:Zc [v15] [(5,2)] [(5,2)] [(2,5),(3,4),(5,2)]=0/\Zm [v15] [(5,2)] [(5,2)] [(2,5),(3,4),(5,2)]=[[(5,2),(3,4),(5,2)],[(5,2),(3,4),(5,2)],[(5,2),(5,2),(5,2)]]:=by decide +kernel
theorem Q38:Yo [[(5,2),(3,4),(5,2)],[(5,2),(3,4),(5,2)],[(5,2),(5,2),(5,2)]]=[0,0,2]:=by decide +kernel
theorem Q5e:Jf [v15] [(5,2)] [(5,2)] [(2,5),(3,4),(5,2)]=[1,1,2]:=by decide +kernel
theorem Pj:Ju [1,2,-1,3]=0/\Dq [1,2,-1,3]=[[0,1,2]]:=by decide +kernel
end Go.Proofs.YtejenndedjabhaaGreatDoor
