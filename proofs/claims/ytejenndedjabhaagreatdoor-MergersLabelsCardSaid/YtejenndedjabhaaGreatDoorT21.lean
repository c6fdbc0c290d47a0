/- MergersMore: -/
import Derived.Test.YtejenndedjabhaaGreatDoorT20
import Derived.Test.YtejenndedjabhaaGreatDoorT19
set_option maxRecDepth 100000
set_option maxHeartbeats 16000000
namespace Go.Proofs.YtejenndedjabhaaGreatDoor
open Go.RowKit Go.Ab
theorem Ec:∀ i:Nat,i<8->okS (Zc 0 i)=true:=by decide
theorem Cj:Yz (Qz 8 0) 64=0:=by decide
theorem Pu(l:List Nat){mo:Nat}(h:mo<=15):wE (Vm l mo)=0/\(Vm l mo).length<=mo:=by
 have a:(Vm l mo).length<=mo:=by unfold Vm;rw [List.length_map];exact List.length_take_le _ _
 refine⟨Ra.2 ⟨by omega,fun s hs=>?_⟩,a⟩;obtain⟨b,_,rfl⟩:=List.mem_map.1 hs;exact Ec _ (Nat.mod_lt _ zd)
theorem Sj{a b:Wd}{s:Nat × Nat}(d:wE a=0)(e:wE b=0)(f:okS s=true)(g:a.length+b.length<=31):wE (Qp a b s)=0:=by
 refine Ra.2 ⟨by unfold Qp;simp;omega,fun x c=>?_⟩;unfold Qp at c;simp only [List.mem_append,List.mem_singleton] at c;rcases c with (c | rfl) | c
 ·exact(Ra.1 d).2 x c
 ·exact f
 ·exact(Ra.1 e).2 x c
theorem Qdy{L:Zl}(h:∀ p∈L,Yd p.1=true)(c:L.length<=64):Z4 (L.map (·.1))=0:=by
 unfold Z4;rw [if_neg (by rw [List.length_map];omega),if_pos];rw [List.all_eq_true];intro d b;obtain⟨p,a,rfl⟩:=List.mem_map.1 b;exact h p a
theorem Pe{l:List Int}(h:∀ x∈l,x=0\/x=11):(Qw l=0\/Qw l=11)/\(Qw l=0↔∀ x∈l,x=0):=by
 induction l with
 | nil=>exact⟨.inl rfl,by simp [Qw]⟩
 | cons e l ih=>
  obtain⟨d,f⟩:=ih (fun x hx=>h x (List.mem_cons_of_mem _ hx));by_cases a:e=0
  ·subst a;have c:Qw (0::l)=Qw l:=by rw [Qw,if_pos rfl]
   rw [c];exact⟨d,by rw [f];simp⟩
  ·have c:Qw (e::l)=e:=by rw [Qw,if_neg a]
   rw [c];have g:=(h e zy).resolve_left a;refine⟨.inr g,?_⟩;constructor
   ·intro b;exact absurd b a
   ·intro b;exact b e zy
theorem Qfr{ls:List Qg}{a b ss:Wd}(m:Z4 ls=0)(i:wE a=0)(j:wE b=0)(o:a.length+b.length<=31)(r:Yz ss 64=0)(q:∀ s∈ss,okS s=true) :
  (Y3 ls a b ss=0\/Y3 ls a b ss=11)/\(Y3 ls a b ss=0↔∀ s∈ss,(Y2 ls (Qp a b s)).isSome=true)/\(Y3 ls a b ss=0->Yb ls a b ss=ss.map fun s=>(Y2 ls (Qp a b s)).getD []):=by
 have p:Zt ls a b=0:=by unfold Zt;rw [if_pos m,if_pos i];exact j
 have g:Y3 ls a b ss=Qw (ss.map fun s=>Yp ls (Qp a b s)):=by unfold Y3;rw [if_pos p,if_pos r]
 have n:∀ s∈ss,Zw ls (Qp a b s)=0:=fun s c=>by unfold Zw;rw [if_pos m];exact Sj i j (q s c) o
 have e:∀ s∈ss,Yp ls (Qp a b s)=if (Y2 ls (Qp a b s)).isSome=true then 0 else 11:=fun s c=>by unfold Yp;rw [if_pos (n s c)]
 have k:=Pe (l:=ss.map fun s=>Yp ls (Qp a b s)) (fun t f=>by
  obtain⟨s,c,rfl⟩:=List.mem_map.1 f;simp only [e s c]
  split
  ·exact .inl rfl
  ·exact .inr rfl)
 refine⟨by rw [g];exact k.1,?_,fun h0=>?_⟩
 ·rw [g,k.2];constructor
  ·intro d s c;have:=d _ (List.mem_map.2 ⟨s,c,rfl⟩);rw [e s c] at this
   split at this
   ·assumption
   ·cases this
  ·intro d t f;obtain⟨s,c,rfl⟩:=List.mem_map.1 f;simp only [e s c];rw [if_pos (d s c)]
 ·unfold Yb;rw [if_pos h0];apply List.map_congr_left;intro s c;unfold Yv;rw [if_pos (n s c)]
theorem Wy(pl:List Wd)(w:Wd):∀ n,(Xj pl w n=-1/\∀ j,j<n->pl.getD j []≠w)\/∃ j,j<n/\Xj pl w n=(j:Int)/\pl.getD j []=w
 | 0=>.inl ⟨rfl,fun j h=>absurd h (Nat.not_lt_zero j)⟩
 | n+1=>by
  by_cases h:pl.getD n []=w
  ·exact .inr ⟨n,by omega,by unfold Xj;rw [if_pos h],h⟩
  ·have hu:Xj pl w (n+1)=Xj pl w n:=by rw [Xj,if_neg h]
   rw [hu];rcases Wy pl w n with ⟨b,a⟩ | ⟨j,b,a,d⟩
   ·refine .inl ⟨b,fun j hj=>?_⟩;by_cases c:j=n
    ·subst c;exact h
    ·exact a j oz
   ·exact .inr ⟨j,by omega,a,d⟩
theorem Ck{a b:Wd}{s t:Nat × Nat}(h:Qp a b s=Qp a b t):s=t:=by
 unfold Qp at h;have c:=List.append_cancel_right h;have d:=List.append_cancel_left c
 simpa using d
theorem Q81:∀ i:Nat,i<8->∀ j:Nat,j<8->Zc 0 i=Zc 0 j->i=j:=by decide
theorem Q19{a b:Wd}{i:Nat}(h:i<8):(Zm a b (Qz 8 0)).getD i []=Qp a b (Zc 0 i):=by
 rw [Rm (by rw [Y4];exact h)];simp [Qz]
theorem Bb{DS:List Wd}{i k:Nat}:Zi DS i=Zi DS k↔DS.getD i []=DS.getD k []:=by
 obtain⟨j,b,f⟩:=Ju DS i;obtain⟨l,c,g⟩:=Ju DS k;constructor
 ·intro a;rw [<-b,<-c,a]
 ·intro a;by_cases d:Zi DS i<Zi DS k
  ·exact absurd (b.trans a) (g _ d)
  ·by_cases e:Zi DS k<Zi DS i
   ·exact absurd (c.trans a.symm) (f _ e)
   ·omega
theorem Q0f(DS:List Wd)(i:Nat):Zi DS (Zi DS i)=Zi DS i:=Bb.2 (Ju DS i).2.1
theorem Pv{a b:Wd}{DS:List Wd}(i:Nat)(hi:i<8) :
  let S:=fun i=>Xj (Zm a b (Qz 8 0)) (DS.getD i []) 8
  (-1<=S i/\S i<=7)/\(0<=S i->DS.getD i []=Qp a b (Zc 0 (S i).toNat))/\(S i=(i:Int)↔Qp a b (Zc 0 i)=DS.getD i [])/\(∀ k,k<8->0<=S i->S i=S k->Zi DS i=Zi DS k):=by
 intro S
 have hc:∀ j,j<8->0<=S j->DS.getD j []=Qp a b (Zc 0 (S j).toNat):=fun j hj h0=>by
  rcases Wy (Zm a b (Qz 8 0)) (DS.getD j []) 8 with ⟨h1,_⟩ | ⟨x,h1,h2,h3⟩
  ·have:S j=-1:=h1;omega
  ·have hs:S j=(x:Int):=h2;rw [hs,Int.toNat_natCast,<-h3,Q19 h1]
 refine⟨?_,hc i hi,?_,fun k hk h0 he=>?_⟩
 ·rcases Wy (Zm a b (Qz 8 0)) (DS.getD i []) 8 with ⟨h1,_⟩ | ⟨x,h1,h2,_⟩
  ·have:S i=-1:=h1;omega
  ·have:S i=(x:Int):=h2;omega
 ·rcases Wy (Zm a b (Qz 8 0)) (DS.getD i []) 8 with ⟨h1,h2⟩ | ⟨x,h1,h2,h3⟩
  ·have hs:S i=-1:=h1;have:=h2 i hi;rw [Q19 hi] at this;constructor
   ·intro h;omega
   ·intro h;exact absurd h this
  ·have hs:S i=(x:Int):=h2;rw [Q19 h1] at h3;constructor
   ·intro h;have hx:x=i:=by omega
    rw [hx] at h3;exact h3
   ·intro h;have:=Q81 _ h1 _ hi (Ck (h3.trans h.symm));omega
 ·have h1:=hc i hi h0;have h2:=hc k hk (by rw [<-he];exact h0);rw [<-he] at h2;exact Bb.2 (h1.trans h2.symm)
theorem Q44(n:Nat):∀ l:List Int,(∀ x∈l,0<=x/\x<n)->((List.range n).map (Wa l)).sum=l.length
 | [],_=>by
  have:(List.range n).map (Wa [])=List.replicate n 0:=by
   apply List.ext_getElem
   ·simp
   ·intro m d j;simp [Wa]
  rw [this];simp
 | x::l,h=>by
  have i:=Q44 n l (fun y hy=>h y (List.mem_cons_of_mem _ hy));obtain⟨k,g⟩:=h x zy;have d:∀ a:Nat,((List.range a).map (Wa (x::l))).sum=((List.range a).map (Wa l)).sum+if x<a then 1 else 0:=by
   intro a
   induction a with
   | zero=>simp;omega
   | succ a ihm=>
    rw [List.range_succ,List.map_append,List.map_append,List.sum_append,List.sum_append,ihm];simp only [List.map_cons,List.map_nil,List.sum_cons,List.sum_nil,Nat.add_zero];have f:Wa (x::l) a=Wa l a+if x=(a:Int) then 1 else 0:=by
     unfold Wa;rw [List.countP_cons]
     congr 1
     by_cases e:x=(a:Int) <;> simp [e]
    rw [f];by_cases b:x<(a:Int)
    ·rw [if_pos b,if_neg oz,if_pos oz];omega
    ·by_cases c:x=(a:Int)
     ·rw [if_neg b,if_pos c,if_pos oz];omega
     ·rw [if_neg b,if_neg c,if_neg oz];omega
  rw [d,i,if_pos g];rfl
theorem Th:∀ l:List Nat,(l.filter fun n=>decide (n≠0)).sum=l.sum
 | []=>rfl
 | x::l=>by
  by_cases h:x=0
  ·subst h;have:(0::l).filter (fun n=>decide (n≠0))=l.filter (fun n=>decide (n≠0)):=by simp
   rw [this,Th l];simp
  ·have:(x::l).filter (fun n=>decide (n≠0))=x::l.filter (fun n=>decide (n≠0)):=by simp [h]
   rw [this,List.sum_cons,Th l,List.sum_cons]
theorem Q8n{DS:List Wd}(d:DS.length=8):Vt ((Xp DS).map fun(x:Nat)=>(x:Int))=0/\(Ft ((Xp DS).map fun(x:Nat)=>(x:Int))).sum=8:=by
 have c:((Xp DS).map fun(x:Nat)=>(x:Int)).length=8:=by simp [Xp,d]
 have e:∀ a,a<8->((Xp DS).map fun(x:Nat)=>(x:Int)).getD a 0=(Zi DS a:Nat):=fun a b=>by
  rw [List.getD_eq_getElem?_getD];simp [Xp,d,b]
 have f:Vt ((Xp DS).map fun(x:Nat)=>(x:Int))=0:=by
  unfold Vt;rw [if_neg (by rw [c];decide),if_pos];rw [List.all_eq_true];intro a b;rw [List.mem_range,c] at b;have i:=(Ju DS a).1;rw [e a b,Int.toNat_natCast,e _ oz,Q0f];simp;omega
 refine⟨f,?_⟩;unfold Ft;rw [if_pos f];unfold Q1x;rw [Th,Q44]
 ·exact c
 ·intro x j;rw [c];obtain⟨k,g,rfl⟩:=List.mem_map.1 j;unfold Xp at g;obtain⟨a,b,rfl⟩:=List.mem_map.1 g;rw [List.mem_range,d] at b;have i:=(Ju DS a).1;omega
attribute [local go_sem] Oper.semAt_some Y5 Z9
theorem Qd8{W:World}{l:Qg}{cs:Array Value}(h:Ye W l cs.toList)(a:cs.size=18):Zk (W.alloc (.cells cs 50)) (.slice (some ⟨W.heap.size,0,none⟩) 1 1) [(l,cs.toList)]:=by
 refine⟨?_,fun p hp=>?_⟩
 ·have:=Rd.of_own (World.ownsRow_lit (base:=W.heap.size) (e:=50) (size:=18) W cs 1 (Nat.le_refl _) zd oz)
  simpa using this
 ·rw [List.mem_singleton] at hp;subst hp;exact h.ext ((Qa.refl _ W).alloc _)
theorem Qfp:(Tryz.prog.info? 50).map (fun i=>(i.zero,i.size,i.bytes))=some (some (.agg #[.string ⟨#[]⟩,.int .i64 0,.int .u32 0,.int .u32 0,.bool false,.int .i64 0,.int .i64 0,.slice none 0 0,.int .i64 0,.int .u32 0,.int .u32 0,.bool false,.int .i64 0,.int .i64 0,.slice none 0 0,.slice none 0 0,.slice none 0 0,.int .i64 0]),18,200):=by kernel_rfl
theorem Bu{w:World}{base:Nat}{e:TypeId}{sz n cap:Nat}{ao:Option Addr}{xs:List Value}(h:w.ownsRow base e sz (.slice ao n cap) n xs):n<=cap:=by
 rcases h.2 with ⟨a,_,_⟩ | ⟨d,b,c,a,_,_,f,_⟩
 ·simp only [zV] at a;omega
 ·simp only [zV] at a;omega
def Qm0(n mo X:Nat)(lv:Value)(ps:Zl)(w2:World)(a:Act)(W:World):Prop:=∃(k:Nat) (L:Zl) (yo:Option Addr) (yc:Nat),k<=n/\a.defers=[]/\gS a [1,5,11,12,13]=(33,[.int .i64 mo,.slice yo L.length yc,lv,.int .i64 n,.int .i64 k])/\L.length<=mo/\(∀ p∈L,p∈ps/\Yd p.1=true)/\W.ownsRow X 50 18 (.slice yo L.length yc) L.length (L.flatMap (·.2))/\Ext w2 W
def Qjp(_ps:Zl)(mo:Nat)(w:World)(e:Ending)(w':World):Prop:=∃(L:Zl) (yo:Option Addr) (yc:Nat),e=.returned (.slice yo L.length yc)/\Zk w' (.slice yo L.length yc) L/\L.length<=yc/\L.length<=mo/\(∀ p∈L,Yd p.1=true)/\Ext w w'
theorem Q7j{ps L:Zl}{mo X:Nat}{w W:World}{yo:Option Addr}{yc:Nat}(hl:∀ p∈ps,Ye w p.1 p.2)(hE:Ext w W)(h1:L.length<=mo)(h2:∀ p∈L,p∈ps/\Yd p.1=true)(h3:W.ownsRow X 50 18 (.slice yo L.length yc) L.length (L.flatMap (·.2))):Qjp ps mo w (.returned (.slice yo L.length yc)) W:=
 ⟨L,yo,yc,rfl,⟨Rd.of_own h3,fun p hp=>(hl p (h2 p hp).1).ext hE⟩,Bu h3,h1,fun p hp=>(h2 p hp).2,hE⟩
theorem Qci{w:World}{ps:Zl}{lo:Option Addr}{n lc:Nat}(T:Zk w (.slice lo n lc) ps) (a3:ps.length=n) (f3:n<=lc) (e7:Tab w) {mo:Nat} (k6:mo<=100) :
  Calls Tryz.prog 27 #[.slice lo n lc,.int .i64 (mo:Int)] w (Qjp ps mo w):=by
 have j9:n<=maxLen:=by rw [<-a3];exact T.1.2.1
 unfold maxLen at j9;obtain⟨d1,d2,g7,i1,j1⟩:=Zh5 (Q0k T a3 f3) T.2 T a3 e7;clear T a3 f3 e7;go_enter Tryz.func27,Tryz.ntmps27;go_wp2_with fail;refine d1.out.mono ?_;rintro e c5 ⟨R,rfl,e1⟩;have d0:=Zh e1;clear d1 e1;cases R
 ·go_wp2;go_ret;exact Q7j (L:=[]) (X:=0) d2.out d0.out (Nat.zero_le _) (fun p J=>by cases J) (World.ownsRow_nil _ _ _ _)
 obtain⟨X,e9⟩:=zE c5.heap.size;have d7:=Zh e9;clear e9;go_wp2;refine wp_loop (Qm0 n mo X (.slice lo n lc) ps c5) (fun a _=>((n:Int) - intOf (a.tmps.getD 13 undef)).toNat) ?_ ?_
 ·exact⟨0,[],none,0,by omega,rfl,rfl,Nat.zero_le _,(fun p J=>by cases J),World.ownsRow_nil _ _ _ _,Qa.refl _ _⟩
 rintro⟨l2,_⟩ W ⟨c,L,yo,yc,k5,j5,f8,a2,e3,e4,b4⟩;subst j5;obtain⟨l3,rfl⟩:=Qo f8;clear f8;obtain⟨N,P,M,Y⟩:=Zh4 b4 (d0.out.trans b4) e4 e3;clear b4 e4 e3;obtain⟨V,c1⟩:=zE L.length;have b:=Zh c1;rw [c1] at a2 M ⊢;clear c1;by_cases j7:c<n;case neg=>
  obtain rfl:c=n:=by omega
  have j3:¬ (c:Int)<(c:Int):=by omega
  go_wp2;go_ret;have e0:=Q7j (mo:=mo) (X:=X) (yo:=yo) (yc:=yc) d2.out P.out (by rw [b.out];exact a2) Y.out (by rw [b.out];exact M.out);rw [b.out] at e0;exact e0
 have j3:(c:Int)<(n:Int):=by omega
 have k4:(0:Int)<=(c:Int):=by omega
 have c0:c<ps.length:=by rw [i1.out];exact j7
 obtain⟨j2,k2,k3,f6,j6,a4,U,b2⟩:=(g7.out.ext P.out).at c0;simp only [zV] at f6;obtain⟨rfl,k1,rfl⟩:=f6;have c2:=List.getElem_mem c0;obtain⟨O,g0⟩:=zE (ps[c]);rw [g0] at a4 U b2 c2;obtain⟨a6,cs⟩:=O;dsimp only at a4 U b2;clear g0 k1 b2 c0;have f1:=U;obtain⟨B,t,H,v,z,j,l,C,d,o,u,I,x,A,k,m,E,f,q,s,g,r,G,i,F,y,rfl,g8,i9,j0,g6,i8,i6,i2,i3,i4,i5,g9,k7,k8,k9,l0,l1⟩:=Yf U;have S:Ext W (W.alloc (.cells #[.string B,.int .i64 t,.int .u32 (H:Int),.int .u32 (v:Int),.bool z,.int .i64 j,.int .i64 l,.slice C d o,.int .i64 u,.int .u32 (I:Int),.int .u32 (x:Int),.bool A,.int .i64 k,.int .i64 m,.slice E f q,.slice s g r,.slice G i F,.int .i64 y] 50)):=(Qa.refl _ W).alloc _;have a5:(W.alloc (.cells #[.string B,.int .i64 t,.int .u32 (H:Int),.int .u32 (v:Int),.bool z,.int .i64 j,.int .i64 l,.slice C d o,.int .i64 u,.int .u32 (I:Int),.int .u32 (x:Int),.bool A,.int .i64 k,.int .i64 m,.slice E f q,.slice s g r,.slice G i F,.int .i64 y] 50)).heap[W.heap.size]?=some (.cells #[.string B,.int .i64 t,.int .u32 (H:Int),.int .u32 (v:Int),.bool z,.int .i64 j,.int .i64 l,.slice C d o,.int .i64 u,.int .u32 (I:Int),.int .u32 (x:Int),.bool A,.int .i64 k,.int .i64 m,.slice E f q,.slice s g r,.slice G i F,.int .i64 y] 50 (0,0)):=new_at rfl;obtain⟨a0,b7⟩:=zE (W.alloc (.cells #[.string B,.int .i64 t,.int .u32 (H:Int),.int .u32 (v:Int),.bool z,.int .i64 j,.int .i64 l,.slice C d o,.int .i64 u,.int .u32 (I:Int),.int .u32 (x:Int),.bool A,.int .i64 k,.int .i64 m,.slice E f q,.slice s g r,.slice G i F,.int .i64 y] 50));rw [b7] at a5 S;obtain⟨c6,b3⟩:=zE W.heap.size;rw [b3] at a5;have b5:Ext a0 (a0.alloc (.cells #[.string B,.int .i64 t,.int .u32 (H:Int),.int .u32 (v:Int),.bool z,.int .i64 j,.int .i64 l,.slice C d o,.int .i64 u,.int .u32 (I:Int),.int .u32 (x:Int),.bool A,.int .i64 k,.int .i64 m,.slice E f q,.slice s g r,.slice G i F,.int .i64 y] 50)):=(Qa.refl _ a0).alloc _;have f5:=Qd8 (W:=a0) (cs:=#[.string B,.int .i64 t,.int .u32 (H:Int),.int .u32 (v:Int),.bool z,.int .i64 j,.int .i64 l,.slice C d o,.int .i64 u,.int .u32 (I:Int),.int .u32 (x:Int),.bool A,.int .i64 k,.int .i64 m,.slice E f q,.slice s g r,.slice G i F,.int .i64 y]) (f1.ext S) rfl;have b9:=Fw f5 rfl (j1.out.keep (P.out.trans (S.trans b5)) id);obtain⟨d9,b8⟩:=zE (Yd a6);have f2:Z4 [a6]=if d9=true then 0 else 17:=by unfold Z4;simp [b8]
 simp only [List.map_cons,List.map_nil,f2] at b9;obtain⟨d4,d6,g3,b1,c9,a7,c8,i0⟩:=Zh8 a4 b7 b3 a5 S b5 b9 c2;have g4:=Zh b8;clear a4 b7 b3 a5 S b5 f5 b9 f1 U c2 b8 f2 g6 i8 g8 i6 i2 i3 i4 i5 g9 i9 j0 j6;go_upto_region 7 with (refine Ul (by rfl) 50 (.tmp 15) rfl j2 (k2+c*18) zr _ _ d4.out Tryz.underlying50 rfl kz ?_)
 rw [d6.out,g3.out]
 go_wp2_with (refine wpList_load_row rfl 50 (.tmp 7) rfl c6 rfl _ _ _ _ b1.out Tryz.underlying50 rfl Tryz.lawInfo ?_)
 refine c8.out.mono ?_;rintro e Q ⟨rfl,b6⟩;have Z:=Zh (b6.keep (a7.out.keep b1.out));have K:=Zh (c9.out.trans (a7.out.trans b6));clear b6 a7 c9 c8 d4 d6 b1;cases d9 with
 | false=>
  have a8:=Zh (N.out.trans K.out);have b0:=Zh (Qe M.out K.out);clear M N P K Z;go_wp2;exact⟨⟨c+1,L,yo,yc,by omega,tz,(Prod.ext rfl (lE rfl (lE (by rw [b.out];rfl) rfl))),by rw [b.out];exact a2,Y.out,by rw [b.out];exact b0.out,a8.out⟩,mz⟩
 | true=>
 by_cases j8:V<mo;case neg=>
  have j4:¬ (V:Int)<(mo:Int):=by omega
  have a8:=Zh (N.out.trans K.out);have b0:=Zh (Qe M.out K.out);clear M N P K Z;go_wp2;exact⟨⟨c+1,L,yo,yc,by omega,tz,(Prod.ext rfl (lE rfl (lE (by rw [b.out];rfl) rfl))),by rw [b.out];exact a2,Y.out,by rw [b.out];exact b0.out,a8.out⟩,mz⟩
 have j4:(V:Int)<(mo:Int):=by omega
 have f0:X<=Q.heap.size:=by have:=(N.out.trans K.out).size;rw [d7.out] at this;exact this
 have a1:Ext Q (Q.alloc (.cells #[.string B,.int .i64 t,.int .u32 (H:Int),.int .u32 (v:Int),.bool z,.int .i64 j,.int .i64 l,.slice C d o,.int .i64 u,.int .u32 (I:Int),.int .u32 (x:Int),.bool A,.int .i64 k,.int .i64 m,.slice E f q,.slice s g r,.slice G i F,.int .i64 y] 50)):=(Qa.refl _ Q).alloc _;have f7:=Rd.of_own (World.ownsRow_lit (base:=X) (e:=50) (size:=18) Q #[.string B,.int .i64 t,.int .u32 (H:Int),.int .u32 (v:Int),.bool z,.int .i64 j,.int .i64 l,.slice C d o,.int .i64 u,.int .u32 (I:Int),.int .u32 (x:Int),.bool A,.int .i64 k,.int .i64 m,.slice E f q,.slice s g r,.slice G i F,.int .i64 y] 1 f0 zd rfl);have f4:=Qe M.out (K.out.trans a1);have k0:=a1.size;have f9:X<=(Q.alloc (.cells #[.string B,.int .i64 t,.int .u32 (H:Int),.int .u32 (v:Int),.bool z,.int .i64 j,.int .i64 l,.slice C d o,.int .i64 u,.int .u32 (I:Int),.int .u32 (x:Int),.bool A,.int .i64 k,.int .i64 m,.slice E f q,.slice s g r,.slice G i F,.int .i64 y] 50)).heap.size:=by omega
 obtain⟨d3,a9,c7,d5⟩:=Zh4 f7 f4 (N.out.trans (K.out.trans a1)) f9;clear f7 f4 a1 k0 f9 f0 M P
 go_wp2_with (first | (refine wpList_load_row rfl 50 (.tmp 7) rfl c6 rfl _ _ _ _ Z.out Tryz.underlying50 rfl Tryz.lawInfo ?_) | (at_builtin;refine Xi rfl (.tmp 27) (.tmp 29) 22 rfl X 50 _ 18 200 Tryz.underlying22 Qfp rfl zd _ _ _ rfl a9.out _ 1 _ _ rfl d3.out (List.all_eq_true.1 (by rfl)) ?c3 ?c4 d5.out ?_))
 case c3=>unfold maxLen;omega
 case c4=>omega
 intro g2 g1 d8 e5 e8 _;have e2:Ext c5 d8:=c7.out.after e8 (fun R hb e=>by have:=(a9.out.lt R e).1;have:=d7.out;omega);have e6:d8.ownsRow X 50 18 (.slice g2 (V+1) g1) (V+1) ((L++[(a6,(#[.string B,.int .i64 t,.int .u32 (H:Int),.int .u32 (v:Int),.bool z,.int .i64 j,.int .i64 l,.slice C d o,.int .i64 u,.int .u32 (I:Int),.int .u32 (x:Int),.bool A,.int .i64 k,.int .i64 m,.slice E f q,.slice s g r,.slice G i F,.int .i64 y]:Array Value).toList)]:Zl).flatMap (·.2)):=by
  have:=e5;rw [List.flatMap_append]
  simpa using this
 have i7:=Zh e6;have g5:=Zh e2;clear e5 e6 e2 e8 a9 c7 d3 d5 N Z;go_wp2
 exact⟨⟨c+1,L++[(a6,(#[.string B,.int .i64 t,.int .u32 (H:Int),.int .u32 (v:Int),.bool z,.int .i64 j,.int .i64 l,.slice C d o,.int .i64 u,.int .u32 (I:Int),.int .u32 (x:Int),.bool A,.int .i64 k,.int .i64 m,.slice E f q,.slice s g r,.slice G i F,.int .i64 y]:Array Value).toList)],g2,g1,by omega,by first | trivial | rfl,(Prod.ext rfl (lE rfl (lE (by rw [List.length_append,b.out];rfl) rfl))),by rw [List.length_append,b.out];exact j8,(fun p J=>by
  rcases List.mem_append.1 J with J | J
  ·exact Y.out p J
  ·rw [List.mem_singleton] at J;subst J;exact⟨i0.out,g4.out⟩),by rw [List.length_append,b.out];exact i7.out,g5.out⟩,nz⟩
def Qn3(l:Zl):List Value:=l.flatMap (·.2)
def Qnc(us:List (Zl)) (k:Nat):Zl:=(us.take k).flatten
theorem Qdn(R:List Wd){i:Nat}(h:i<R.length):(Yn (Xp R)).getD i undef=.int .i64 (Zi R i:Nat):=by
 rw [List.getD_eq_getElem?_getD];simp [Yn,Xp,h]
def boV(l:List Bool):List Value:=l.map Value.bool
theorem Tx(l:List Bool){k:Nat}(h:k<l.length):(boV l).getD k undef=.bool l[k]:=by rw [List.getD_eq_getElem?_getD];simp [boV,h]
theorem Qmg{w:World}{u v:Value}{us vs:List Bool}(k:Rd w u us.length 1 (boV us)) (l:Rd w v vs.length 1 (boV vs)) :
  Calls Tryz.prog 44 #[u,v] w fun e w'=>e=.returned (.bool (decide (us=vs)))/\Ext w w':=by
 have J:=k.2.1;have K:=l.2.1;unfold maxLen at J K;obtain⟨T,S,rfl,_⟩:=k.2.2;obtain⟨V,U,rfl,_⟩:=l.2.2;obtain⟨c,i⟩:=zE us.length;obtain⟨B,g⟩:=zE vs.length;rw [i] at k J ⊢;rw [g] at l K ⊢;obtain⟨Q,R,A,z⟩:=Zh4 k l i g;clear k l;go_enter Tryz.func44,Tryz.ntmps44;by_cases F:c=B;case neg=>
  have d:((c:Int) !=(B:Int))=true:=by simp;omega
  have t:=Zh (decide_eq_false (fun h:us=vs=>F (by rw [<-i,<-g,h])));clear i g;go_wp2;go_ret;exact⟨by rw [t.out];rfl,Qa.refl _ _⟩
 subst F;clear i g;go_wp2
 refine wp_loop (fun a C=>∃(b:Nat),b<=c/\a.defers=[]/\gS a [0,1,12,13]=(26,[.slice T c S,.slice V c U,.int .i64 c,.int .i64 b])/\us.take b=vs.take b/\Ext w C)
  (fun a _=>c - (intOf (a.tmps.getD 13 undef)).toNat) ?_ ?_
 ·exact⟨0,by omega,rfl,rfl,by simp,Qa.refl _ _⟩
 rintro⟨b0,_⟩ C ⟨b,a7,X,L,G,f⟩;subst X;obtain⟨u,rfl⟩:=Qo L;clear L;have y:=Zh G;clear G;by_cases p:b<c;case neg=>
  obtain rfl:b=c:=by omega
  have W:¬ (b:Int)<(b:Int):=by omega
  have x:=y.out;rw [List.take_of_length_le (by rw [A.out];exact Nat.le_refl _),List.take_of_length_le (by rw [z.out];exact Nat.le_refl _)] at x;have O:=Zh (decide_eq_true x);clear x;go_wp2;go_ret;exact⟨by rw [O.out];rfl,f⟩
 have W:(b:Int)<(c:Int):=by omega
 have a2:(0:Int)<=(b:Int):=by omega
 have H:b<us.length:=by rw [A.out];exact p
 have I:b<vs.length:=by rw [z.out];exact p
 obtain⟨a0,a8,Y,j,a5,D⟩:=Zb (Q.out.ext f) p;simp only [zV,true_and] at j;obtain⟨rfl,rfl⟩:=j;obtain⟨a1,a9,Z,j,a6,E⟩:=Zb (R.out.ext f) p;simp only [zV,true_and] at j;obtain⟨rfl,rfl⟩:=j;rw [Tx us H] at D;rw [Tx vs I] at E;have r:us.take (b+1)=us.take b++[us[b]]:=List.take_succ_eq_append_getElem H;have s:vs.take (b+1)=vs.take b++[vs[b]]:=List.take_succ_eq_append_getElem I;have d:us[b]≠vs[b]->us≠vs:=fun h e=>by subst e;exact h rfl
 obtain⟨m,M⟩:=zE (us[b]);obtain⟨o,N⟩:=zE (vs[b]);rw [M] at D r d;rw [N] at E s d;clear M N;by_cases q:m=o
 ·subst q;have P:Hid (us.take (b+1)=vs.take (b+1)):=Zh (by rw [r,s,y.out]);clear r s d;go_wp2
  go_quiet (fail)
  go_wp2;exact⟨⟨b+1,by omega,tz,rfl,P.out,f.drewN _⟩,nz⟩
 ·have t:=Zh (decide_eq_false (d q));have a3:(m != o)=true:=by simpa using q
  have a4:(m == o)=false:=by simpa using q
  clear r s d;go_wp2
  go_quiet (fail)
  go_wp2;go_ret;exact⟨by rw [t.out];rfl,f.drewN _⟩
def Hf(xs:List Bool)(b:Bool):Bool:=xs.contains b
theorem Qg5{xs:List Bool}{k:Nat}(h:k<xs.length)(b:Bool):Hf (xs.take (k+1)) b=(Hf (xs.take k) b || b == xs[k]):=by
 unfold Hf;rw [List.take_succ_eq_append_getElem h,List.contains_append];cases b <;> cases xs[k] <;> simp
theorem Qc8{w:World}{ao:Option Addr}{N cap:Nat}{xs:List Bool}(k:Rd w (.slice ao N cap) N 1 (boV xs)) (o:xs.length=N) (b:Bool) :
  Calls Tryz.prog 102 #[.slice ao N cap,.bool b] w fun e w'=>∃ z:Int,e=.returned (.int .i64 z)/\decide (0<=z)=Hf xs b/\w'=w:=by
 have E:=k.2.1;unfold maxLen at E;have y:=Zh k;have m:=Zh o;clear k o;go_enter Tryz.func102,Tryz.ntmps102;go_wp2
 refine wp_loop (fun a n=>∃(c:Nat),c<=N/\a.defers=[]/\gS a [0,1,7,8]=(19,[.slice ao N cap,.bool b,.int .i64 N,.int .i64 c])/\Hf (xs.take c) b=false/\n=w)
  (fun a _=>N - (intOf (a.tmps.getD 8 undef)).toNat) ?_ ?_
 ·exact⟨0,by omega,rfl,rfl,by simp [Hf],rfl⟩
 rintro⟨M,_⟩ n ⟨c,K,D,u,p,rfl⟩;subst D;obtain⟨O,rfl⟩:=Qo u;clear u;have l:=Zh p;clear p;by_cases r:c<N
 ·have C:(c:Int)<(N:Int):=by omega
  have H:(0:Int)<=(c:Int):=by omega
  have j:c<xs.length:=by rw [m.out];exact r
  obtain⟨G,L,F,t,J,i⟩:=Zb y.out r;simp only [zV,true_and] at t;obtain⟨rfl,rfl⟩:=t;rw [Tx xs j] at i;by_cases d:b=xs[c]
  ·have f:Hf xs b=true:=by unfold Hf;rw [List.contains_iff_mem,d];exact List.getElem_mem j
   have g:=Zh f;rw [<-d] at i;clear d f;have I:(b == b)=true:=by simp
   go_wp2;go_ret;exact⟨_,rfl,by rw [g.out];simp,rfl⟩
  ·have q:(b == xs[c])=false:=by simpa using d
   have s:Hf (xs.take (c+1)) b=false:=by rw [Qg5 j,l.out,q];rfl
   have A:=Zh s;obtain⟨x,v⟩:=zE (xs[c]);rw [v] at q i;clear d s v;go_wp2;exact⟨⟨c+1,by omega,tz,rfl,A.out,by first | trivial | rfl⟩,nz⟩
 ·obtain rfl:c=N:=by omega
  have C:¬ (c:Int)<(c:Int):=by omega
  have f:Hf xs b=false:=by
   have B:=l.out
   rwa [List.take_of_length_le (by rw [m.out];exact Nat.le_refl _)] at B
  have g:=Zh f;clear f;go_wp2;go_ret;exact⟨_,rfl,by rw [g.out];decide,rfl⟩
theorem Bd{w:World}{ao:Option Addr}{N cap:Nat}{xs:List Bool}(d:Rd w (.slice ao N cap) N 1 (boV xs)) (c:xs.length=N) (b:Bool) :
  Calls Tryz.prog 56 #[.slice ao N cap,.bool b] w fun e w'=>e=.returned (.bool (Hf xs b))/\w'=w:=by
 have a:=Zh (Qc8 d c (cap:=cap) b);clear d c;go_enter Tryz.func56,Tryz.ntmps56;go_wp2_with fail;refine a.out.mono ?_;rintro e i ⟨j,rfl,f,rfl⟩;have g:=Zh f;clear a f;go_wp2;go_ret;exact⟨by rw [<-g.out];rfl,rfl⟩
theorem Qcf:(Tryz.prog.info? 4).map (fun i=>(i.zero,i.size,i.bytes))=some (some (.bool false),1,1):=by kernel_rfl
def Lr(BS:List Bool)(N k:Nat):List Value:=(List.range N).map fun i=>Value.bool (if i<k then BS.getD i false else false)
theorem Qcb(BS:List Bool)(N:Nat):Lr BS N 0=List.replicate N (.bool false):=by
 unfold Lr;apply List.ext_getElem
 ·simp
 ·intro c a b;simp
theorem Qf8{BS:List Bool}{N:Nat}(h:BS.length=N):Lr BS N N=boV BS:=by
 unfold Lr boV;apply List.ext_getElem
 ·simp [h]
 ·intro a b e;have c:a<N:=by simpa using b
  have d:a<BS.length:=by omega
  simp [c,d]
theorem Qe8{BS:List Bool}{N k:Nat}(_:k<N):(Lr BS N k).set k (.bool (BS.getD k false))=Lr BS N (k+1):=by
 unfold Lr;apply List.ext_getElem
 ·simp
 ·intro a e d;have f:a<N:=by simpa using d
  rw [List.getElem_set];by_cases b:k=a
  ·subst b;simp
  ·rw [if_neg b];simp only [List.getElem_map,List.getElem_range]
   congr 1
   by_cases c:a<k
   ·rw [if_pos c,if_pos oz]
   ·rw [if_neg c,if_neg oz]
theorem Qh0{BS:List Bool}{N k i:Nat}(hi:i<N):∃ x,(Lr BS N k)[i]?=some (.bool x):=⟨_,by unfold Lr;rw [List.getElem?_map,List.getElem?_range hi];rfl⟩
theorem Hv(w:World):Zk w (.slice none 0 0) []:=⟨⟨by simp,by simp [maxLen],none,0,rfl,fun h=>by simp at h⟩,fun p hp=>by cases hp⟩
theorem Q55{w:World}{d:Option Addr}{m pc:Nat}{fr:Q5v}(j:Lm w (.slice d m pc) fr) (_:fr.length=m) {k:Nat} (i:k<fr.length) :
  ∃ g off fo fc qo qc,d=some ⟨g,off,none⟩/\w.cell? ⟨g,off+k*2,none⟩=some (.slice fo fr[k].1.1.length fc)/\w.cell? ⟨g,off+k*2+1,none⟩=some (.slice qo fr[k].1.2.length qc) /\
   Qd w (.slice fo fr[k].1.1.length fc) fr[k].1.1/\Qd w (.slice qo fr[k].1.2.length qc) fr[k].1.2:=by
 obtain⟨g,off,q,a,b,⟨s,t,f,l,o⟩,_⟩:=Ng.at j i;obtain⟨a,r⟩:=a zd;simp only [zV] at a;obtain⟨rfl,_,rfl⟩:=a;rw [f] at b;obtain⟨fo,fc,rfl,n,_⟩:=l;obtain⟨qo,qc,rfl,p,_⟩:=o;have c:=b 0 _ rfl;have e:=b 1 _ rfl;rw [Nat.add_zero] at c;exact⟨g,off,fo,fc,qo,qc,rfl,c,e,n,p⟩
theorem Rn{w:World}{ps:Zl}{lo:Option Addr}{n lc:Nat}{fr:Q5v}{c7:Option Addr}{m pc:Nat}{d f:Nat}(k0:Zk w (.slice lo n lc) ps) (k4:ps.length=n) (k6:Lm w (.slice c7 m pc) fr) (f8:fr.length=m) (k8:Qm (d,f)) (f1:Tab w) :
  Calls Tryz.prog 40 #[.slice lo n lc,.slice c7 m pc,.agg #[.int .u32 (d:Int),.int .u32 (f:Int)]] w fun e w'=>∃ vo vc,e=.returned (.tuple #[.slice vo (We (ps.map (·.1)) (fr.map (·.1)) (d,f)).length vc,.int .i64 (Jr (ps.map (·.1)) (fr.map (·.1)) (d,f))])/\w'.ownsRow w.heap.size 4 1 (.slice vo (We (ps.map (·.1)) (fr.map (·.1)) (d,f)).length vc) (We (ps.map (·.1)) (fr.map (·.1)) (d,f)).length (boV (We (ps.map (·.1)) (fr.map (·.1)) (d,f)))/\Ext w w':=by
 have o4:=k6.1.2.1;rw [f8] at o4;unfold maxLen at o4;obtain⟨c,e9⟩:=zE (fr.map (·.1));have b8:c.length=m:=by rw [<-e9,List.length_map];exact f8
 have n7:∀ k (h:k<fr.length) (B:k<c.length),c[k]=fr[k].1:=fun k h B=>by subst e9;exact List.getElem_map _
 obtain⟨g,i6⟩:=zE (ps.map (·.1));rw [e9,i6];have K:=fun(o:World) (p:Ext w o)=>Fw (k0.ext p) k4 (f1.keep p id) (lc:=lc);have B:=fun(o:World)=>Jn k8 o;have Y:=fun(o:World) (p:Ext w o) {p0:Option Addr} {o9:Nat} {l:Wd} (c6:Qd o (.slice p0 l.length o9) l)=>Nb (k0.ext p) k4 c6 rfl (f1.keep p id) (lc:=lc);have a9:=fun(o:World) (p:Ext w o) {A:Option Addr} {fn z:Nat} {H:Option Addr} {qn G:Nat} {l v:Wd} (Q:Qd o (.slice A fn z) l) (t:Qd o (.slice H qn G) v)=>Tu (Hv o) rfl Q t (f1.keep p id);simp only [List.map_nil] at a9;simp only [i6] at K Y;have k7:Z4 g≠0->Jr g c (d,f)=Z4 g:=fun h=>by unfold Jr;rw [if_neg h]
 have f9:Z4 g=0->256<c.length->Jr g c (d,f)=12:=fun h B=>by unfold Jr;rw [if_pos h,if_pos B]
 have a2:Z4 g=0->¬ 256<c.length->Qw (Hz c)≠0->Jr g c (d,f)=Qw (Hz c):=fun h B Y=>by unfold Jr;rw [if_pos h,if_neg B,if_neg Y]
 have N:Z4 g=0->¬ 256<c.length->Qw (Hz c)=0->okS (d,f)=false->Jr g c (d,f)=14:=fun h B Y a9=>by unfold Jr;rw [if_pos h,if_neg B,if_pos Y,a9];rfl
 have F:Z4 g=0->¬ 256<c.length->Qw (Hz c)=0->okS (d,f)=true->Jr g c (d,f)=Qw (Nw g c (d,f)):=fun h B Y a9=>by unfold Jr;rw [if_pos h,if_neg B,if_pos Y,a9];rfl
 have b9:Jr g c (d,f)≠0->We g c (d,f)=[]:=Ql2;have f2:Jr g c (d,f)=0->We g c (d,f)=frB g c (d,f):=Q3e;have j5:=fun(k:Nat) (j9:k<c.length) (h:Qw (Hz c)=0)=>Qlf h j9;have j6:∀ k (h:k<c.length),(Hz c)[k]?=some (Zt [] c[k].1 c[k].2):=fun k h=>by unfold Hz;rw [List.getElem?_map,List.getElem?_eq_getElem h];rfl
 have j8:∀ k (h:k<c.length),(Nw g c (d,f))[k]?=some (Yp g (Qp c[k].1 c[k].2 (d,f))):=fun k h=>by unfold Nw;rw [List.getElem?_map,List.getElem?_eq_getElem h];rfl
 have j7:∀ k (h:k<c.length),(frB g c (d,f)).getD k false=!decide (Qp c[k].1 c[k].2 (d,f)=Yv g (Qp c[k].1 c[k].2 (d,f))):=fun k h=>by rw [List.getD_eq_getElem?_getD];unfold frB;simp [h]
 have k1:(Hz c).length=m:=by simp [Hz,b8]
 have k3:(Nw g c (d,f)).length=m:=by simp [Nw,b8]
 have k2:(frB g c (d,f)).length=m:=by simp [frB,b8]
 obtain⟨l3,i3⟩:=zE (Hz c);obtain⟨l4,i4⟩:=zE (Nw g c (d,f));obtain⟨BS,g9⟩:=zE (frB g c (d,f));obtain⟨r9,i8⟩:=zE (Jr g c (d,f));obtain⟨r8,o2⟩:=zE (We g c (d,f));obtain⟨l2,r⟩:=zE (Z4 g);obtain⟨q6,i7⟩:=zE (okS (d,f));rw [i8,o2] at b9 f2 ⊢;rw [g9] at f2;simp only [r] at K;simp only [i7] at B;rw [i8,r] at k7 f9 a2 N F;rw [i3] at a2 N F;rw [i7] at N F;rw [i4] at F;rw [b8] at f9 a2 N F;simp only [i3] at j5 j6 k1;simp only [i4] at j8 k3;simp only [g9] at j7 k2;obtain⟨m2,e3,m1,m0,q3,l6,l7,p6⟩:=Zh8 k6 f8 b8 n7 k8 K B Y;obtain⟨p7,m9,n0,n1,d2,d3,c8,p1⟩:=Zh8 a9 k7 f9 a2 N F b9 f2;obtain⟨q1,p3,p5,p4,m7,m8,g4⟩:=Zh7 j5 j6 j8 j7 k1 k3 k2;clear k0 k4 k6 f8 k8 f1 e9 b8 n7 K B Y a9 k7 f9 a2 N F b9 f2 j5 j6 j8 j7 k1 k3 k2 i3 i4 g9 i8 o2 r i7 i6;have i2:Ext w (w.alloc (.cells #[.int .u32 (d:Int),.int .u32 (f:Int)] 26)):=(Qa.refl _ w).alloc _;have e2:(w.alloc (.cells #[.int .u32 (d:Int),.int .u32 (f:Int)] 26)).heap[w.heap.size]?=some (.cells #[.int .u32 (d:Int),.int .u32 (f:Int)] 26 (0,0)):=new_at rfl;obtain⟨o,j0⟩:=zE (w.alloc (.cells #[.int .u32 (d:Int),.int .u32 (f:Int)] 26));obtain⟨y,j1⟩:=zE w.heap.size;rw [j0] at i2 e2;rw [j1] at e2;obtain⟨e5,d0,g1⟩:=Zh3 j1 j0 i2;clear j0 j1 i2;go_enter Tryz.func40,Tryz.ntmps40;go_upto_region 1 with (fail)
 rw [d0.out,e5.out];clear d0;have I:o.cell? ⟨y,0,none⟩=some (.int .u32 (d:Int)):=by rw [cell_of_row _ _ _ _ _ _ e2];rfl
 have O:o.cell? ⟨y,1,none⟩=some (.int .u32 (f:Int)):=by rw [cell_of_row _ _ _ _ _ _ e2];rfl
 clear e2;go_wp2_with fail;refine(l6.out o g1.out).mono ?_;rintro e r7 ⟨rfl,Z⟩;have a3:=Z.cell_some I id;have a4:=Z.cell_some O id;have V:=Zh (g1.out.trans Z);clear l6 Z I O g1;by_cases u:l2=0;case neg=>
  have c4:(l2 != 0)=true:=by simpa using u
  have C:=m9.out u;subst C;have P:=c8.out u;subst P;go_wp2;refine bodyPost_ret (Qt rfl _ _ _) rfl ⟨_,_,rfl,World.ownsRow_nil _ _ _ _,V.out⟩
 subst u;by_cases f3:256<m
 ·have K:(m:Int) > 256:=by omega
  have C:=n0.out uz f3;subst C;have P:=c8.out zd;subst P;go_wp2;refine bodyPost_ret (Qt rfl _ _ _) rfl ⟨_,_,rfl,World.ownsRow_nil _ _ _ _,V.out⟩
 have K:¬ (m:Int) > 256:=by omega
 have a2:=n1.out uz f3;have N:=d2.out uz f3;have F:=d3.out uz f3;obtain⟨n2,n3,n4⟩:=Zh3 a2 N F;clear m9 n0 n1 d2 d3 a2 N F;go_wp2;clear K
 refine wp_loop (fun a j=>∃(k:Nat),k<=m/\a.defers=[]/\gS a [0,1,5,26,27,28]=(78,[.slice lo n lc,.slice c7 m pc,.pointer (some ⟨y,0,none⟩),.slice c7 m pc,.int .i64 m,.int .i64 k])/\Qw (l3.take k)=0/\Ext r7 j)
  (fun a _=>m - (intOf (a.tmps.getD 28 undef)).toNat) ?_ ?_
 ·exact⟨0,by omega,rfl,rfl,rfl,Qa.refl _ _⟩
 rintro⟨r6,_⟩ j ⟨k,j9,j4,e0,x,p⟩;subst j4;obtain⟨l,rfl⟩:=Qo e0;clear e0;have W:=Zh x;have R:=p.cell_some a3 id;have S:=p.cell_some a4 id;have J:=Zh (V.out.trans p);have m5:=Zh p;clear x p a3 a4 V;by_cases f7:k<m;case pos=>
  have K:(k:Int)<(m:Int):=by omega
  have q9:(0:Int)<=(k:Int):=by omega
  have b4:k<fr.length:=by rw [e3.out];exact f7
  have a0:k<c.length:=by rw [m1.out];exact f7
  have f5:k<l3.length:=by rw [m7.out];exact f7
  obtain⟨g8,r5,A,z,H,G,rfl,a7,a8,Q,t⟩:=Q55 (Bo m2.out J.out) e3.out b4;have d7:=m0.out k b4 a0;have c0:=p3.out k a0;rw [List.getElem?_eq_getElem f5,Option.some.injEq] at c0;have b3:=Hn f5 W.out;have M:=Dc f5 W.out;rw [d7] at c0;obtain⟨⟨l,v⟩,e1⟩:=zE (fr[k].1);rw [e1] at a7 a8 Q t c0;dsimp only at a7 a8 Q t c0;rw [c0] at b3 M;have b7:=Zh b3;have b6:=Zh M;obtain⟨s,b0⟩:=zE j.heap.size;have a1:(j.alloc (.cells #[.slice A l.length z,.slice H v.length G] 63)).heap[s]?=some (.cells #[.slice A l.length z,.slice H v.length G] 63 (0,0)):=new_at b0.symm;have r:Ext j (j.alloc (.cells #[.slice A l.length z,.slice H v.length G] 63)):=(Qa.refl _ j).alloc _;have b2:=p7.out _ (J.out.trans r) (Q.ext r) (t.ext r);obtain⟨l5,i5⟩:=zE (Zt [] l v);rw [i5] at b2;obtain⟨p8,U,a6,a5⟩:=Zh4 i5 b0 b2 r;clear b2 r c0 b3 M d7 e1 Q t i5 R S b4 a0 f5;go_upto_region 9 with (fail)
  obtain⟨X,d6⟩:=zE (j.alloc (.cells #[.slice A l.length z,.slice H v.length G] 63));rw [d6] at a1 a5 a6 ⊢;try rw [U.out]
  have g7:X.cell? ⟨s,0,none⟩=some (.slice A l.length z):=by rw [cell_of_row X s 0 _ _ _ a1];rfl
  have c1:X.cell? ⟨s,1,none⟩=some (.slice H v.length G):=by rw [cell_of_row X s 1 _ _ _ a1];rfl
  clear a1 d6 b0 U a7 a8;go_wp2_with fail;refine a6.out.mono ?_;rintro e n5 ⟨rfl,b1⟩;have b5:=Zh (a5.out.trans b1);clear b1 a5 a6 g7 c1;rw [p8.out] at b7 b6;by_cases u:l5=0;case neg=>
   have c4:(l5 != 0)=true:=by simpa using u
   have M:=b6.out u;have C:=n2.out (by rw [M];exact u);rw [M] at C;clear M;subst C;have P:=c8.out u;subst P;go_wp2;refine bodyPost_ret (Qt rfl _ _ _) rfl ⟨_,_,rfl,World.ownsRow_nil _ _ _ _,J.out.trans b5.out⟩
  subst u;go_wp2;exact⟨⟨k+1,by omega,by first | trivial | rfl,rfl,b7.out,m5.out.trans b5.out⟩,nz⟩
 obtain rfl:k=m:=by omega
 have K:¬ (k:Int)<(k:Int):=by omega
 have x:=W.out;rw [List.take_of_length_le (by rw [m7.out];exact Nat.le_refl _)] at x;have q0:=Zh x;have N:=n3.out x;have F:=n4.out x;have d2:=Zh N;have d3:=Zh F;clear N F n2 n3 n4 x W;have t:=l7.out j;unfold sV at t;have d0:=Zh t;clear t l7;go_wp2_with fail;refine d0.out.mono ?_;rintro e g6 ⟨rfl,Z⟩;have I:=Z.cell_some R id;have O:=Z.cell_some S id;have V:=Zh (J.out.trans Z);clear d0 Z R S J m5;cases q6 with
 | false=>
  have C:=d2.out uz;subst C;have P:=c8.out zd;subst P;go_wp2;refine bodyPost_ret (Qt rfl _ _ _) rfl ⟨_,_,rfl,World.ownsRow_nil _ _ _ _,V.out⟩
 | true=>
 have C:=d3.out uz;have m4:=Zh C;clear C d2 d3;have j3:y<=g6.heap.size:=by have:=V.out.size;rw [e5.out] at this;exact this
 go_wp2_with (at_make;refine Yu rfl (.tmp 45) (.tmp 45) 65 rfl y 4 _ 1 Tryz.underlying65 Qcf rfl .i64 .i64 k k k rfl rfl rfl rfl ?c1 ?c2 j3 ?_)
 case c1=>omega
 case c2=>unfold maxLen;omega
 intro s6 f0 e7;obtain⟨m,r3⟩:=zE k;subst r3;rw [<-Qcb BS k] at f0;obtain⟨T,n8⟩:=zE g6.heap.size;have a3:=e7.cell_some I id;have a4:=e7.cell_some O id;have j2:y<g6.heap.size:=by obtain⟨s5,g0,_⟩:=Nm I;exact(Array.getElem?_eq_some_iff.1 g0).1
 rw [n8] at f0 j3 j2 ⊢;obtain⟨m3,l9,q5⟩:=Zh3 f0 (V.out.trans e7) j2;clear j2 f0 e7 n8 I O V j3 K f7 j9;go_wp2
 refine wp_loop (fun a j=>∃(i:Nat),i<=k/\a.defers=[]/\gS a [0,1,5,12,47,48,49]=(78,[.slice lo n lc,.slice c7 k pc,.pointer (some ⟨y,0,none⟩),.slice (some ⟨T,0,none⟩) k k,.slice c7 k pc,.int .i64 k,.int .i64 i])/\j.ownsRow y 4 1 (.slice (some ⟨T,0,none⟩) k k) k (Lr BS k i)/\Qw (l4.take i)=0/\j.cell? ⟨y,0,none⟩=some (.int .u32 (d:Int))/\j.cell? ⟨y,1,none⟩=some (.int .u32 (f:Int))/\Ext w j)
  (fun a _=>k - (intOf (a.tmps.getD 49 undef)).toNat) ?_ ?_
 ·exact⟨0,by omega,rfl,rfl,m3.out,rfl,a3,a4,l9.out⟩
 clear m3 l9 a3 a4;rintro⟨r6,_⟩ j ⟨i,s4,j4,e0,o0,x,I,O,p⟩;subst j4;obtain⟨l,rfl⟩:=Qo e0;clear e0;obtain⟨e4,W,J⟩:=Zh3 o0 x p;clear o0 x p;by_cases d9:i<k;case neg=>
  obtain rfl:i=k:=by omega
  have K:¬ (i:Int)<(i:Int):=by omega
  have x:=W.out;rw [List.take_of_length_le (by rw [m8.out];exact Nat.le_refl _),<-m4.out] at x;subst x;have P:=p1.out uz;subst P;have k5:=e4.out;rw [Qf8 g4.out] at k5;have q2:=Zh k5;clear k5 e4 I O;go_wp2;refine bodyPost_ret (Qt rfl _ _ _) rfl ⟨some ⟨T,0,none⟩,i,by rw [g4.out];rfl,by rw [g4.out,e5.out];exact q2.out,J.out⟩
 have K:(i:Int)<(k:Int):=by omega
 have q9:(0:Int)<=(i:Int):=by omega
 have b4:i<fr.length:=by rw [e3.out];exact d9
 have a0:i<c.length:=by rw [m1.out];exact d9
 have f6:i<l4.length:=by rw [m8.out];exact d9
 obtain⟨g8,r5,A,z,H,G,rfl,a7,a8,Q,t⟩:=Q55 (Bo m2.out J.out) e3.out b4;have d7:=m0.out i b4 a0;have c3:=p5.out i a0;rw [List.getElem?_eq_getElem f6,Option.some.injEq] at c3;have d8:=p4.out i a0;have c5:=q1.out i a0 q0.out;have b3:=Hn f6 W.out;have M:=Dc f6 W.out;rw [d7] at c3 d8 c5;obtain⟨⟨l,v⟩,e1⟩:=zE (fr[i].1);rw [e1] at a7 a8 Q t c3 d8 c5;dsimp only at a7 a8 Q t c3 d8 c5;rw [c3] at b3 M;rw [<-m4.out] at M;have r1:=Vx c5.1;have r2:=Vx c5.2;obtain⟨b7,b6,c9⟩:=Zh3 b3 M d8;obtain⟨s,b0⟩:=zE j.heap.size;have a1:(j.alloc (.cells #[.slice A l.length z,.slice H v.length G] 63)).heap[s]?=some (.cells #[.slice A l.length z,.slice H v.length G] 63 (0,0)):=new_at b0.symm;have r:Ext j (j.alloc (.cells #[.slice A l.length z,.slice H v.length G] 63)):=(Qa.refl _ j).alloc _;have b2:=Mz (Q.ext r) (t.ext r) q3.out oz;unfold sV at b2;have R:=r.cell_some I id;have S:=r.cell_some O id;obtain⟨U,a6,a5⟩:=Zh3 b0 b2 r;clear b2 r c3 d8 b3 M d7 e1 Q t I O b4 a0 f6 c5 r1 r2;go_upto_region 19 with (fail)
 obtain⟨X,d6⟩:=zE (j.alloc (.cells #[.slice A l.length z,.slice H v.length G] 63));rw [d6] at a1 a5 a6 R S ⊢;try rw [U.out]
 have g7:X.cell? ⟨s,0,none⟩=some (.slice A l.length z):=by rw [cell_of_row X s 0 _ _ _ a1];rfl
 have c1:X.cell? ⟨s,1,none⟩=some (.slice H v.length G):=by rw [cell_of_row X s 1 _ _ _ a1];rfl
 clear a1 d6 b0 U a7 a8;go_wp2_with fail;refine a6.out.mono ?_;rintro e n5 ⟨p0,o9,rfl,o6,b1⟩;obtain⟨_,_,r4,c6⟩:=Kh o6;cases r4;have I:=b1.cell_some R id;have O:=b1.cell_some S id;have b5:=Zh (a5.out.trans b1);have f4:=p6.out n5 (J.out.trans b5.out) c6;obtain⟨d1,n9⟩:=zE (Qp l v (d,f));rw [n9] at f4 c6 b7 b6 c9 ⊢;obtain⟨l1,i0⟩:=zE (Yp g d1);obtain⟨p2,i1⟩:=zE (Yv g d1);rw [i0,i1] at f4;rw [i0] at b7 b6;rw [i1] at c9;have m6:=Zh c6;have l8:=Zh f4;clear f4 c6 o6 b1 i0 i1 a6 a5 R S g7 c1 n9;go_wp2_with fail;refine l8.out.mono ?_;rintro e s0 ⟨s2,rfl,o5,d4⟩;obtain⟨vo,vc,rfl,o7⟩:=Kh o5;have a3:=d4.cell_some I id;have a4:=d4.cell_some O id;have g2:=Zh (b5.out.trans d4);have o3:=eqW (m6.out.ext d4) o7;have U:=Zh o3;clear l8 o5 d4 b5 o7 o3 m6 I O;by_cases u:l1=0;case neg=>
  have c4:(l1 != 0)=true:=by simpa using u
  have C:=b6.out u;subst C;have P:=c8.out u;subst P;go_wp2;refine bodyPost_ret (Qt rfl _ _ _) rfl ⟨_,_,rfl,World.ownsRow_nil _ _ _ _,J.out.trans g2.out⟩
 subst u;obtain⟨g5,o1⟩:=zE (decide (d1=p2));rw [o1] at U c9;clear o1;go_wp2_with fail;refine U.out.mono ?_;rintro e e6 ⟨rfl,e8⟩;have R:=e8.cell_some a3 id;have S:=e8.cell_some a4 id;have g3:=Zh (g2.out.trans e8);clear U e8 g2 a3 a4;have d5:=Qe e4.out g3.out;obtain⟨s1,b9⟩:=Qh0 (BS:=BS) (k:=i) d9;have r0:=d5.cellAt i oz;rw [b9] at r0;have s3:=d5.frozenAt i;have l0:=Y6 d5 i (.bool (!g5));have k9:=Qe8 (BS:=BS) d9;rw [c9.out] at k9;rw [k9] at l0;have n6:Ext w (e6.setCell ⟨T,i,none⟩ (.bool (!g5))):=(J.out.trans g3.out).setCell (.inl (by rw [e5.out];exact(d5.lt T rfl).1)) _;have i9:Qa (fun b=>b=T) e6 (e6.setCell ⟨T,i,none⟩ (.bool (!g5))):=by
  refine(Qa.refl (fun b=>b=T) e6).setCell ?_ _;exact .inr rfl
 have c4:¬ y=T:=by have:=q5.out;omega
 have o8:=i9.cell_some R c4;have g0:=i9.cell_some S c4;obtain⟨q4,p9,q7,q8⟩:=Zh4 l0 n6 o8 g0;clear l0 n6 k9 b9 d5 e4 J g3 W i9 c4 o8 g0 R S c9;go_wp2;exact⟨⟨i+1,by omega,by first | trivial | rfl,rfl,q4.out,b7.out,q7.out,q8.out,p9.out⟩,nz⟩
theorem Qlh{w:World}{u v:Value}{us vs:Wd}(z:Qd w u us)(A:Qd w v vs) :
  Calls Tryz.prog 21 #[u,v] w fun e w'=>e=.returned (.bool (decide (us=vs)))/\∃ m,w'=w.drewN m:=by
 obtain⟨b6,b5,rfl,a5⟩:=z.slice;obtain⟨b8,b7,rfl,a6⟩:=A.slice;unfold maxLen at a5 a6;obtain⟨c,K⟩:=zE us.length;obtain⟨D,J⟩:=zE vs.length;rw [K] at z a5 ⊢;rw [J] at A a6 ⊢;obtain⟨b2,b3,p,B⟩:=Zh4 z A K J;clear z A K J;go_enter Tryz.func21,Tryz.ntmps21;by_cases Y:c=D;case neg=>
  have c9:((c:Int) ==(D:Int))=false:=by simp;omega
  have d2:¬ (c:Int)=(D:Int):=by omega
  have l:¬ us=vs:=by intro I;rw [I,B.out] at p;exact Y p.out.symm
  have r:=Zh (decide_eq_false l);clear l;go_wp2;go_ret;exact⟨by rw [r.out];rfl,0,rfl⟩
 subst Y;go_wp2
 refine wp_loop (fun a g=>∃(b s:Nat),b<=c/\a.defers=[]/\gS a [0,1,12,13]=(26,[.slice b6 c b5,.slice b8 c b7,.int .i64 c,.int .i64 b])/\us.take b=vs.take b/\g=w.drewN s)
  (fun a _=>c - (intOf (a.tmps.getD 13 undef)).toNat) ?_ ?_
 ·exact⟨0,0,by omega,rfl,rfl,by simp,rfl⟩
 rintro⟨Q,_⟩ g ⟨b,s,d5,c4,a8,Z,x⟩;have X:Ext w g:=by rw [x];exact(Qa.refl _ w).drewN _
 have C:Hid (∀ q,∃ m,g.drewN q=w.drewN m):=Zh fun q=>⟨s+q,by rw [x];simp⟩;have b4:Hid (∃ m,g=w.drewN m):=Zh ⟨s,x⟩;clear x;subst c4;obtain⟨u,rfl⟩:=Qo a8;clear a8;have R:=Zh Z;clear Z;by_cases a4:b<c
 ·have c0:(b:Int)<(c:Int):=by omega
  have L:b<us.length:=by rw [p.out];exact a4
  have M:b<vs.length:=by rw [B.out];exact a4
  obtain⟨c7,d6,c5,o,d3,E,F⟩:=(show Qd g _ us from(b2.out.ext X)).at L;simp only [zV] at o;obtain⟨rfl,P,rfl⟩:=o;clear P;obtain⟨c8,d7,c6,o,d4,G,H⟩:=(show Qd g _ vs from(b3.out.ext X)).at M;simp only [zV] at o;obtain⟨rfl,P,rfl⟩:=o;clear P;have a2:us.getD b (0,0)=us[b]:=by rw [List.getD_eq_getElem?_getD,List.getElem?_eq_getElem L];rfl
  have a3:vs.getD b (0,0)=vs[b]:=by rw [List.getD_eq_getElem?_getD,List.getElem?_eq_getElem M];rfl
  rw [a2] at E F;rw [a3] at G H;obtain⟨i,N⟩:=zE (us[b]);obtain⟨Q,O⟩:=zE (vs[b]);have S:Hid (us[b]=i):=Zh N;have T:Hid (vs[b]=Q):=Zh O;rw [N] at E F;rw [O] at G H;obtain⟨d,j⟩:=i;obtain⟨f,k⟩:=Q;dsimp only at E F G H;clear a2 a3 N O;by_cases y:d=f/\j=k
  ·obtain⟨rfl,rfl⟩:=y;have a7:us.take (b+1)=vs.take (b+1):=by
    rw [List.take_succ_eq_append_getElem L,List.take_succ_eq_append_getElem M,R.out,S.out,T.out]
   have b1:=Zh a7;clear a7;go_wp2
   go_quiet (fail)
   go_wp2;obtain⟨b9,c3⟩:=C.out nq;exact⟨⟨b+1,b9,by omega,tz,rfl,b1.out,c3⟩,nz⟩
  ·have l:¬ us=vs:=by
    intro I;subst I;have t:=S.out.symm.trans T.out;simp only [Prod.mk.injEq] at t;exact y t
   have r:=Zh (decide_eq_false l);have a0:(((d:Int) ==(f:Int)) && ((j:Int) ==(k:Int)))=false:=by
    by_cases t:d=f
    ·have U:¬ j=k:=fun U=>y ⟨t,U⟩;simp;omega
    ·simp;omega
   have V:¬ ((d:Int)=(f:Int)/\(j:Int)=(k:Int)):=by omega
   have W:(d:Int)=(f:Int)->¬ (j:Int)=(k:Int):=by omega
   have a9:=Zh W;clear l y W;by_cases c1:(d:Int)=(f:Int)
   ·have d0:=a9.out c1;have d1:((j:Int) ==(k:Int))=false:=by simp;omega
    have c2:((d:Int) ==(f:Int))=true:=by simp;omega
    clear a0 V;go_wp2
    go_quiet (fail)
    go_wp2;go_ret;exact⟨by rw [r.out];rfl,C.out _⟩
   ·have c2:((d:Int) ==(f:Int))=false:=by simp;omega
    clear a0 V;go_wp2
    go_quiet (fail)
    go_wp2;go_ret;exact⟨by rw [r.out];rfl,C.out _⟩
 ·obtain rfl:b=c:=by omega
  have c0:¬ (b:Int)<(b:Int):=by omega
  have a1:us=vs:=by have:=R.out;rwa [List.take_of_length_le (by rw [p.out];exact Nat.le_refl _),List.take_of_length_le (by rw [B.out];exact Nat.le_refl _)] at this
  have b0:=Zh (decide_eq_true a1);clear a1;go_wp2;go_ret;exact⟨by rw [b0.out];rfl,b4.out⟩
theorem Q82{l:List Int}{k:Nat}(d:k<l.length):Qw (l.take (k+1))=if Qw (l.take k)=0 then l[k] else Qw (l.take k):=by
 by_cases a:Qw (l.take k)=0
 ·rw [if_pos a];exact Hn d a
 ·rw [if_neg a,List.take_succ_eq_append_getElem d];have:∀(b c:List Int),Qw b≠0->Qw (b++c)=Qw b:=by
   intro b c
   induction b with
   | nil=>intro a;exact absurd rfl a
   | cons x b ih=>
    intro a;unfold Qw at a ⊢;rw [List.cons_append];dsimp only
    split
    ·rename_i e;rw [if_pos e] at a;exact ih a
    ·rfl
  exact this _ _ a
theorem Tp{k:Nat}(h:k<8):(Qz 8 0).getD k (0,0)=Zc 0 k:=by rw [List.getD_eq_getElem?_getD];simp [Qz,h]
def lbE(ls:List Qg)(a b:Wd):List Int:=(Qz 8 0).map (Wm ls a b)
def lbW(ls:List Qg)(a b:Wd):List Wd:=(Qz 8 0).map (Dn ls a b)
theorem Ef:∀ s∈Qz 8 0,okS s=true:=fun s hs=>by
 obtain⟨i,hi,rfl⟩:=List.mem_map.1 hs;exact Ec i (List.mem_range.1 hi)
theorem Qiw{ls:List Qg}{a b:Wd}(f:Z4 ls=0)(c:wE a=0)(e:wE b=0)(g:a.length+b.length<=31) :
  (Y3 ls a b (Qz 8 0)=0\/Y3 ls a b (Qz 8 0)=11)/\Qw (lbE ls a b)=Y3 ls a b (Qz 8 0)/\(Y3 ls a b (Qz 8 0)=0->Yb ls a b (Qz 8 0)=lbW ls a b)/\(Y3 ls a b (Qz 8 0)=11->Yb ls a b (Qz 8 0)=[]/\Vf ls a b (Qz 8 0)=[]) /\
  (∀ i,i<8->Wm ls a b (Zc 0 i)=0\/Wm ls a b (Zc 0 i)=11):=by
 have j:Zt ls a b=0:=by unfold Zt;rw [if_pos f,if_pos c];exact e
 obtain⟨n,o,p⟩:=Qfr f c e g Cj Ef;have d:∀ s∈Qz 8 0,Wm ls a b s=Yp ls (Qp a b s)/\Dn ls a b s=Yv ls (Qp a b s):=fun s hs=>Qal j (Ef s hs);have l:Y3 ls a b (Qz 8 0)=Qw ((Qz 8 0).map fun s=>Yp ls (Qp a b s)):=by unfold Y3;rw [if_pos j,if_pos Cj]
 refine⟨n,?_,fun h=>?_,fun h=>?_,fun i hi=>?_⟩
 ·rw [l];unfold lbE;rw [List.map_congr_left fun s hs=>(d s hs).1]
 ·unfold Yb lbW;rw [if_pos h];exact List.map_congr_left fun s hs=>(d s hs).2.symm
 ·unfold Yb Vf;rw [if_neg (by rw [h];decide),if_neg (by rw [h];decide)];exact⟨rfl,rfl⟩
 ·have k:Zc 0 i∈Qz 8 0:=List.mem_map.2 ⟨i,List.mem_range.2 hi,rfl⟩;rw [(d _ k).1];have m:Zw ls (Qp a b (Zc 0 i))=0:=by unfold Zw;rw [if_pos f];exact Sj c e (Ef _ k) g
  unfold Yp;rw [if_pos m]
  split
  ·exact .inl rfl
  ·exact .inr rfl
theorem Q3y{W:World}:∀ {vs:List Value} {us:List Wd} {i:Nat},Y1 W vs us->i<us.length->∃ uo uc,vs.getD i undef=.slice uo (us.getD i []).length uc/\Qd W (.slice uo (us.getD i []).length uc) (us.getD i [])
 | [],[],_,_,h=>absurd h (Nat.not_lt_zero _)
 | _::_,_::_,0,h,_=>by
  obtain⟨⟨ao,c,h1,h2,_⟩,_⟩:=h;exact⟨ao,c,h1,h2⟩
 | _::vs,_::us,i+1,h,hi=>Q3y (i:=i) h.2 (by simpa using hi)
theorem Qjy{ls:List Qg}{a b:Wd}(k:Z4 ls=0)(e:wE a=0)(f:wE b=0)(c:Y3 ls a b (Qz 8 0)=0) {R:List Wd} (p:R=lbW ls a b) {i:Nat} (j:i<8):Jr ls [(a,b)] (Zc 0 i)=0/\We ls [(a,b)] (Zc 0 i)=[!decide (Qp a b (Zc 0 i)=R.getD i [])]:=by
 have g:Zt ls a b=0:=by unfold Zt;rw [if_pos k,if_pos e];exact f
 have l:Zc 0 i∈Qz 8 0:=List.mem_map.2 ⟨i,List.mem_range.2 j,rfl⟩;have m:=Ef _ l;have q:Yp ls (Qp a b (Zc 0 i))=0:=by
  unfold Y3 at c;rw [if_pos g,if_pos Cj] at c;exact Nl c _ (List.mem_map.2 ⟨_,l,rfl⟩)
 have n:Qw (Hz [(a,b)])=0:=by
  unfold Hz;rw [List.map_cons,List.map_nil];have:Zt [] a b=0:=by unfold Zt;rw [if_pos (show Z4 []=0 from rfl),if_pos e];exact f
  dsimp only;rw [this];rfl
 have o:Qw (Nw ls [(a,b)] (Zc 0 i))=0:=by
  unfold Nw;rw [List.map_cons,List.map_nil];dsimp only;rw [q];rfl
 have d:Jr ls [(a,b)] (Zc 0 i)=0:=by
  unfold Jr;rw [if_pos k,if_neg zy,if_pos n,if_pos m];exact o
 refine⟨d,?_⟩;rw [Q3e d];unfold frB;rw [List.map_cons,List.map_nil];dsimp only;have:R.getD i []=Yv ls (Qp a b (Zc 0 i)):=by
  rw [p,List.getD_eq_getElem?_getD];unfold lbW;rw [List.getElem?_map];have:(Qz 8 0)[i]?=some (Zc 0 i):=by simp [Qz,j]
  rw [this];exact(Qal g m).2
 rw [this]
theorem Q0b{W:World}{a b:Value}{p:Wd × Wd}(h:Hg W p [a,b]):Lm (W.alloc (.cells #[a,b] 63)) (.slice (some ⟨W.heap.size,0,none⟩) 1 1) [(p,[a,b])]:=by
 have c:Ext W (W.alloc (.cells #[a,b] 63)):=(Qa.refl _ W).alloc _;refine⟨Us (xs:=[a,b]) (new_at rfl) rfl zd,fun q hq=>?_⟩;rw [List.mem_singleton] at hq;subst hq;exact⟨rfl,h.ext c⟩
theorem Q6a{V:World}{a b:Wd}{s:Nat × Nat}{l m g:Nat}{ao f k:Option Addr}{c d j:Nat}(o:Qd V (.slice ao l c) a) (p:Qd V (.slice k 1 j) [s]) (q:Qd V (.slice f m d) b) (r:V.heap[g]?=some (.cells #[.slice ao l c,.slice k 1 j,.slice f m d] 23 (0,0))) (v:a.length+1+b.length<=1000) :
  Calls Tryz.prog 49 #[.slice (some ⟨g,0,none⟩) 3 3] V fun e w'=>∃ u,e=.returned u/\w'.ownsRow V.heap.size 26 2 u (Qp a b s).length (Z3 (Qp a b s))/\Ext V w':=by
 refine Mx (us:=[a,[s],b]) (vs:=[.slice ao l c,.slice k 1 j,.slice f m d]) (by simp [Qp]) (Us (g:=g) (n:=3) (cap:=3) (xs:=[.slice ao l c,.slice k 1 j,.slice f m d]) r rfl zd) (fun i hi=>?_) (by rw [Bz];exact v);have t:i=0\/i=1\/i=2:=by simp at hi;omega
 rcases t with rfl | rfl | rfl
 ·exact o
 ·exact p
 ·exact q
theorem Qa6(l:List Nat):Zd (l.map fun(x:Nat)=>(x:Int))=Yn l:=by simp [Zd,Yn]
theorem Q97(l:List Nat){k:Nat}(h:k<l.length):(Z5 l).getD k undef=.int .i64 (l[k]:Nat):=by rw [List.getD_eq_getElem?_getD];simp [Z5,h]
theorem Qcn{l:List Nat}{k:Nat}(h:k<l.length):(l.take (k+1)).sum=(l.take k).sum+l[k]/\(l.take k).sum+l[k]<=l.sum:=by
 have a:(l.take (k+1)).sum=(l.take k).sum+l[k]:=by rw [List.take_succ_eq_append_getElem h,List.sum_append];simp
 refine⟨a,?_⟩;rw [<-a];conv=>rhs;rw [<-List.take_append_drop (k+1) l,List.sum_append]
 exact Nat.le_add_right _ _
structure Qmc (M:Nat->Nat) (S:Nat->Int) (D:Nat->Wd) (a b:Wd):Prop where
 iff:∀ i k,i<8->k<8->((M i:Int)=(M k:Int)↔D i=D k)
 same:∀ i k,i<8->k<8->0<=S i->S i=S k->M i=M k
 lt:∀ i,i<8->M i<=i/\M (M i)=M i/\-1<=S i/\S i<=7
 own:∀ i,i<8->(S i=(i:Int)↔Qp a b (Zc 0 i)=D i)
 back:∀ i,i<8->0<=S i->D i=Qp a b (Zc 0 (S i).toNat)
theorem Qlu{a b:Wd}{DS:List Wd}(m:DS.length=8):Qmc (Zi DS) (fun i=>(Uu DS (Zm a b (Qz 8 0))).getD i 0) (fun i=>DS.getD i []) a b:=by
 have l:(Zm a b (Qz 8 0)).length=8:=by unfold Zm;rw [List.length_map,Y4]
 have g:∀ i,i<8->(Uu DS (Zm a b (Qz 8 0))).getD i 0=Xj (Zm a b (Qz 8 0)) (DS.getD i []) 8:=fun i c=>by
  unfold Uu;rw [List.getD_eq_getElem?_getD,List.getElem?_map,List.getElem?_eq_getElem oz,l,List.getD_eq_getElem?_getD,List.getElem?_eq_getElem oz];rfl
 constructor
 ·intro i k _ _;have d:=Bb (DS:=DS) (i:=i) (k:=k);exact⟨fun e=>d.1 oz,fun e=>by have:=d.2 e;omega⟩
 ·intro i k c j f d;rw [g i c] at f d;rw [g k j] at d;exact(Pv (a:=a) (b:=b) (DS:=DS) i c).2.2.2 k j f d
 ·intro i c;rw [g i c];exact⟨(Ju DS i).1,Q0f DS i,(Pv (a:=a) (b:=b) (DS:=DS) i c).1⟩
 ·intro i c;rw [g i c];exact(Pv (a:=a) (b:=b) (DS:=DS) i c).2.2.1
 ·intro i c f;rw [g i c] at f ⊢;exact(Pv (a:=a) (b:=b) (DS:=DS) i c).2.1 f
end Go.Proofs.YtejenndedjabhaaGreatDoor
