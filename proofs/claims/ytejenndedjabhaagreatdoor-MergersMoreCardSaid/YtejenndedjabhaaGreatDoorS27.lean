/- MergersMore: -/
import Derived.Test.YtejenndedjabhaaGreatDoorS19
import Derived.Test.YtejenndedjabhaaGreatDoorS21
set_option maxRecDepth 100000
set_option maxHeartbeats 16000000
namespace Go.Proofs.YtejenndedjabhaaGreatDoor
open Go.RowKit Go.Ab
theorem Q47:∀ i:Nat,i<8->okS (Hz 0 i)=true:=by decide
theorem Q7r:Yk (Vc 8 0) 64=0:=by decide
theorem Ep(l:List Nat){mo:Nat}(h:mo<=15):wE (V8 l mo)=0/\(V8 l mo).length<=mo:=by
 have a:(V8 l mo).length<=mo:=by unfold V8;rw [List.length_map];exact List.length_take_le _ _
 refine⟨Pp.2 ⟨by omega,fun s hs=>?_⟩,a⟩;obtain⟨b,_,rfl⟩:=List.mem_map.1 hs;exact Q47 _ (Nat.mod_lt _ zd)
theorem Qbn{a b:Wd}{s:Nat × Nat}(d:wE a=0)(e:wE b=0)(f:okS s=true)(g:a.length+b.length<=31):wE (Qf a b s)=0:=by
 refine Pp.2 ⟨by unfold Qf;simp;omega,fun x c=>?_⟩;unfold Qf at c;simp only [List.mem_append,List.mem_singleton] at c;rcases c with (c | rfl) | c
 ·exact(Pp.1 d).2 x c
 ·exact f
 ·exact(Pp.1 e).2 x c
theorem Cv{L:Qr}(h:∀ p∈L,Zv p.1=true)(c:L.length<=64):Z4 (L.map (·.1))=0:=by
 unfold Z4;rw [if_neg (by rw [List.length_map];omega),if_pos];rw [List.all_eq_true];intro d b;obtain⟨p,a,rfl⟩:=List.mem_map.1 b;exact h p a
theorem Q0s{l:List Int}(h:∀ x∈l,x=0\/x=11):(Z2 l=0\/Z2 l=11)/\(Z2 l=0↔∀ x∈l,x=0):=by
 induction l with
 | nil=>exact⟨.inl rfl,by simp [Z2]⟩
 | cons e l ih=>
  obtain⟨d,f⟩:=ih (fun x hx=>h x (List.mem_cons_of_mem _ hx));by_cases a:e=0
  ·subst a;have c:Z2 (0::l)=Z2 l:=by rw [Z2,if_pos rfl]
   rw [c];exact⟨d,by rw [f];simp⟩
  ·have c:Z2 (e::l)=e:=by rw [Z2,if_neg a]
   rw [c];have g:=(h e zy).resolve_left a;refine⟨.inr g,?_⟩;constructor
   ·intro b;exact absurd b a
   ·intro b;exact b e zy
theorem Bu{ls:List Q7}{a b ss:Wd}(m:Z4 ls=0)(i:wE a=0)(j:wE b=0)(o:a.length+b.length<=31)(r:Yk ss 64=0)(q:∀ s∈ss,okS s=true) :
  (Z1 ls a b ss=0\/Z1 ls a b ss=11)/\(Z1 ls a b ss=0↔∀ s∈ss,(Zw ls (Qf a b s)).isSome=true)/\(Z1 ls a b ss=0->Qy ls a b ss=ss.map fun s=>(Zw ls (Qf a b s)).getD []):=by
 have p:Qs ls a b=0:=by unfold Qs;rw [if_pos m,if_pos i];exact j
 have g:Z1 ls a b ss=Z2 (ss.map fun s=>Ye ls (Qf a b s)):=by unfold Z1;rw [if_pos p,if_pos r]
 have n:∀ s∈ss,U4 ls (Qf a b s)=0:=fun s c=>by unfold U4;rw [if_pos m];exact Qbn i j (q s c) o
 have e:∀ s∈ss,Ye ls (Qf a b s)=if (Zw ls (Qf a b s)).isSome=true then 0 else 11:=fun s c=>by unfold Ye;rw [if_pos (n s c)]
 have k:=Q0s (l:=ss.map fun s=>Ye ls (Qf a b s)) (fun t f=>by
  obtain⟨s,c,rfl⟩:=List.mem_map.1 f;simp only [e s c]
  split
  ·exact .inl rfl
  ·exact .inr rfl)
 refine⟨by rw [g];exact k.1,?_,fun h0=>?_⟩
 ·rw [g,k.2];constructor
  ·intro d s c;have:=d _ (List.mem_map.2 ⟨s,c,rfl⟩);rw [e s c] at this
   split at this
   ·assumption
   ·cases this
  ·intro d t f;obtain⟨s,c,rfl⟩:=List.mem_map.1 f;simp only [e s c];rw [if_pos (d s c)]
 ·unfold Qy;rw [if_pos h0];apply List.map_congr_left;intro s c;unfold Yj;rw [if_pos (n s c)]
theorem Q3u{DS:List Wd}{i k:Nat}(c:k<=i)(h:DS.getD k []=DS.getD i []):Ze DS i=Ze DS k:=by
 obtain⟨d,a,b⟩:=Gp DS k;exact(Mz (DS:=DS) (k:=i) (j:=Ze DS k) oz (a.trans h) (fun x hx e=>b x hx (e.trans h.symm))).symm
theorem Q9o{ls ms:List Q7}{a b ss:Wd}(y:Z4 ls=0)(z:Z4 (ls++ms)=0) (l:wE a=0) (n:wE b=0) (m:a.length+b.length<=31) (r:Yk ss 64=0) (q:∀ s∈ss,okS s=true) :
  (Z1 ls a b ss≠0->Z1 ls a b ss=11/\Z1 (ls++ms) a b ss=11)/\(Z1 (ls++ms) a b ss≠0->Z1 (ls++ms) a b ss=11) /\
  (Z1 ls a b ss=0->Z1 (ls++ms) a b ss=0->(Qy ls a b ss).length=ss.length/\(Qy (ls++ms) a b ss).length=ss.length /\
   ∀ i,i<ss.length->Ze (Qy ls a b ss) i<=i/\Ze (Qy (ls++ms) a b ss) i=Ze (Qy (ls++ms) a b ss) (Ze (Qy ls a b ss) i)):=by
 obtain⟨B,g,C⟩:=Bu y l n m r q;obtain⟨t,D,E⟩:=Bu z l n m r q
 have A:∀ s,(Zw (ls++ms) (Qf a b s)).isSome=true->(Zw ls (Qf a b s)).isSome=true:=fun s h=>by
  rw [Vx] at h;cases e:Zw ls (Qf a b s) with
  | none=>rw [e] at h;cases h
  | some v=>rfl
 refine⟨fun h=>⟨B.resolve_left h,t.resolve_left fun h2=>h (g.2 fun s hs=>A s (D.1 h2 s hs))⟩,fun h=>t.resolve_left h,fun h1 h2=>?_⟩;rw [C h1,E h2];refine⟨by simp,by simp,fun i hi=>?_⟩;obtain⟨k,d,_⟩:=Gp (ss.map fun s=>(Zw ls (Qf a b s)).getD []) i;refine⟨k,Q3u k ?_⟩;obtain⟨c,x⟩:=zE (Ze (ss.map fun s=>(Zw ls (Qf a b s)).getD []) i);rw [x] at k d ⊢;have p:c<ss.length:=by omega
 have o:∀(f:Nat × Nat->Wd) (j:Nat) (hj:j<ss.length),(ss.map f).getD j []=f ss[j]:=fun f j hj=>by rw [List.getD_eq_getElem?_getD];simp [hj]
 rw [o _ c p,o _ i hi] at d ⊢;have u:=g.1 h1 _ (List.getElem_mem p);have w:=g.1 h1 _ (List.getElem_mem hi);rw [Vx,Vx];cases e1:Zw ls (Qf a b ss[c]) with
 | none=>rw [e1] at u;cases u
 | some v1=>
  cases e2:Zw ls (Qf a b ss[i]) with
  | none=>rw [e2] at w;cases w
  | some v2=>
   rw [e1,e2] at d;simp only [Option.getD_some] at d;rw [d]
attribute [local go_sem] Oper.semAt_some Zm Qv
theorem Q6d{W:World}{l:Q7}{cs:Array Value}(h:Zq W l cs.toList)(a:cs.size=18):Qt (W.alloc (.cells cs 50)) (.slice (some ⟨W.heap.size,0,none⟩) 1 1) [(l,cs.toList)]:=by
 refine⟨?_,fun p hp=>?_⟩
 ·have:=Rd.of_own (World.ownsRow_lit (base:=W.heap.size) (e:=50) (size:=18) W cs 1 (Nat.le_refl _) zd oz)
  simpa using this
 ·rw [List.mem_singleton] at hp;subst hp;exact h.ext ((Q0.refl _ W).alloc _)
theorem P9:(Tryz.prog.info? 50).map (fun i=>(i.zero,i.size,i.bytes))=some (some (.agg #[.string ⟨#[]⟩,.int .i64 0,.int .u32 0,.int .u32 0,.bool false,.int .i64 0,.int .i64 0,.slice none 0 0,.int .i64 0,.int .u32 0,.int .u32 0,.bool false,.int .i64 0,.int .i64 0,.slice none 0 0,.slice none 0 0,.slice none 0 0,.int .i64 0]),18,200):=by kernel_rfl
theorem Q8s{w:World}{base:Nat}{e:TypeId}{sz n cap:Nat}{ao:Option Addr}{xs:List Value}(h:w.ownsRow base e sz (.slice ao n cap) n xs):n<=cap:=by
 rcases h.2 with ⟨a,_,_⟩ | ⟨d,b,c,a,_,_,f,_⟩
 ·simp only [zV] at a;omega
 ·simp only [zV] at a;omega
def Qdu(n mo X:Nat)(lv:Value)(ps:Qr)(w2:World)(a:Act)(W:World):Prop:=∃(k:Nat) (L:Qr) (yo:Option Addr) (yc:Nat),k<=n/\a.defers=[]/\gS a [1,5,11,12,13]=(33,[.int .i64 mo,.slice yo L.length yc,lv,.int .i64 n,.int .i64 k])/\L.length<=mo/\(∀ p∈L,p∈ps/\Zv p.1=true)/\W.ownsRow X 50 18 (.slice yo L.length yc) L.length (L.flatMap (·.2))/\Ext w2 W
def Qcc(_ps:Qr)(mo:Nat)(w:World)(e:Ending)(w':World):Prop:=∃(L:Qr) (yo:Option Addr) (yc:Nat),e=.returned (.slice yo L.length yc)/\Qt w' (.slice yo L.length yc) L/\L.length<=yc/\L.length<=mo/\(∀ p∈L,Zv p.1=true)/\Ext w w'
theorem Q0y{ps L:Qr}{mo X:Nat}{w W:World}{yo:Option Addr}{yc:Nat}(hl:∀ p∈ps,Zq w p.1 p.2)(hE:Ext w W)(h1:L.length<=mo)(h2:∀ p∈L,p∈ps/\Zv p.1=true)(h3:W.ownsRow X 50 18 (.slice yo L.length yc) L.length (L.flatMap (·.2))):Qcc ps mo w (.returned (.slice yo L.length yc)) W:=
 ⟨L,yo,yc,rfl,⟨Rd.of_own h3,fun p hp=>(hl p (h2 p hp).1).ext hE⟩,Q8s h3,h1,fun p hp=>(h2 p hp).2,hE⟩
theorem Ta{w:World}{ps:Qr}{lo:Option Addr}{n lc:Nat}(T:Qt w (.slice lo n lc) ps) (a3:ps.length=n) (f3:n<=lc) (e7:Tab w) {mo:Nat} (k6:mo<=100) :
  Calls Tryz.prog 27 #[.slice lo n lc,.int .i64 (mo:Int)] w (Qcc ps mo w):=by
 have j9:n<=maxLen:=by rw [<-a3];exact T.1.2.1
 unfold maxLen at j9;obtain⟨d1,d2,g7,i1,j1⟩:=Zh5 (Lp T a3 f3) T.2 T a3 e7;clear T a3 f3 e7;go_enter Tryz.func27,Tryz.ntmps27;go_wp2_with fail;refine d1.out.mono ?_;rintro e c5 ⟨R,rfl,e1⟩;have d0:=Zh e1;clear d1 e1;cases R
 ·go_wp2;go_ret;exact Q0y (L:=[]) (X:=0) d2.out d0.out (Nat.zero_le _) (fun p J=>by cases J) (World.ownsRow_nil _ _ _ _)
 obtain⟨X,e9⟩:=zE c5.heap.size;have d7:=Zh e9;clear e9;go_wp2;refine wp_loop (Qdu n mo X (.slice lo n lc) ps c5) (fun a _=>((n:Int) - intOf (a.tmps.getD 13 undef)).toNat) ?_ ?_
 ·exact⟨0,[],none,0,by omega,rfl,rfl,Nat.zero_le _,(fun p J=>by cases J),World.ownsRow_nil _ _ _ _,Q0.refl _ _⟩
 rintro⟨l2,_⟩ W ⟨c,L,yo,yc,k5,j5,f8,a2,e3,e4,b4⟩;subst j5;obtain⟨l3,rfl⟩:=Qc f8;clear f8;obtain⟨N,P,M,Y⟩:=Zh4 b4 (d0.out.trans b4) e4 e3;clear b4 e4 e3;obtain⟨V,c1⟩:=zE L.length;have b:=Zh c1;rw [c1] at a2 M ⊢;clear c1;by_cases j7:c<n;case neg=>
  obtain rfl:c=n:=by omega
  have j3:¬ (c:Int)<(c:Int):=by omega
  go_wp2;go_ret;have e0:=Q0y (mo:=mo) (X:=X) (yo:=yo) (yc:=yc) d2.out P.out (by rw [b.out];exact a2) Y.out (by rw [b.out];exact M.out);rw [b.out] at e0;exact e0
 have j3:(c:Int)<(n:Int):=by omega
 have k4:(0:Int)<=(c:Int):=by omega
 have c0:c<ps.length:=by rw [i1.out];exact j7
 obtain⟨j2,k2,k3,f6,j6,a4,U,b2⟩:=(g7.out.ext P.out).at c0;simp only [zV] at f6;obtain⟨rfl,k1,rfl⟩:=f6;have c2:=List.getElem_mem c0;obtain⟨O,g0⟩:=zE (ps[c]);rw [g0] at a4 U b2 c2;obtain⟨a6,cs⟩:=O;dsimp only at a4 U b2;clear g0 k1 b2 c0;have f1:=U;obtain⟨B,t,H,v,z,j,l,C,d,o,u,I,x,A,k,m,E,f,q,s,g,r,G,i,F,y,rfl,g8,i9,j0,g6,i8,i6,i2,i3,i4,i5,g9,k7,k8,k9,l0,l1⟩:=Zu U;have S:Ext W (W.alloc (.cells #[.string B,.int .i64 t,.int .u32 (H:Int),.int .u32 (v:Int),.bool z,.int .i64 j,.int .i64 l,.slice C d o,.int .i64 u,.int .u32 (I:Int),.int .u32 (x:Int),.bool A,.int .i64 k,.int .i64 m,.slice E f q,.slice s g r,.slice G i F,.int .i64 y] 50)):=(Q0.refl _ W).alloc _;have a5:(W.alloc (.cells #[.string B,.int .i64 t,.int .u32 (H:Int),.int .u32 (v:Int),.bool z,.int .i64 j,.int .i64 l,.slice C d o,.int .i64 u,.int .u32 (I:Int),.int .u32 (x:Int),.bool A,.int .i64 k,.int .i64 m,.slice E f q,.slice s g r,.slice G i F,.int .i64 y] 50)).heap[W.heap.size]?=some (.cells #[.string B,.int .i64 t,.int .u32 (H:Int),.int .u32 (v:Int),.bool z,.int .i64 j,.int .i64 l,.slice C d o,.int .i64 u,.int .u32 (I:Int),.int .u32 (x:Int),.bool A,.int .i64 k,.int .i64 m,.slice E f q,.slice s g r,.slice G i F,.int .i64 y] 50 (0,0)):=Q3 rfl;obtain⟨a0,b7⟩:=zE (W.alloc (.cells #[.string B,.int .i64 t,.int .u32 (H:Int),.int .u32 (v:Int),.bool z,.int .i64 j,.int .i64 l,.slice C d o,.int .i64 u,.int .u32 (I:Int),.int .u32 (x:Int),.bool A,.int .i64 k,.int .i64 m,.slice E f q,.slice s g r,.slice G i F,.int .i64 y] 50));rw [b7] at a5 S;obtain⟨c6,b3⟩:=zE W.heap.size;rw [b3] at a5;have b5:Ext a0 (a0.alloc (.cells #[.string B,.int .i64 t,.int .u32 (H:Int),.int .u32 (v:Int),.bool z,.int .i64 j,.int .i64 l,.slice C d o,.int .i64 u,.int .u32 (I:Int),.int .u32 (x:Int),.bool A,.int .i64 k,.int .i64 m,.slice E f q,.slice s g r,.slice G i F,.int .i64 y] 50)):=(Q0.refl _ a0).alloc _;have f5:=Q6d (W:=a0) (cs:=#[.string B,.int .i64 t,.int .u32 (H:Int),.int .u32 (v:Int),.bool z,.int .i64 j,.int .i64 l,.slice C d o,.int .i64 u,.int .u32 (I:Int),.int .u32 (x:Int),.bool A,.int .i64 k,.int .i64 m,.slice E f q,.slice s g r,.slice G i F,.int .i64 y]) (f1.ext S) rfl;have b9:=Dg f5 rfl (j1.out.keep (P.out.trans (S.trans b5)) id);obtain⟨d9,b8⟩:=zE (Zv a6);have f2:Z4 [a6]=if d9=true then 0 else 17:=by unfold Z4;simp [b8]
 simp only [List.map_cons,List.map_nil,f2] at b9;obtain⟨d4,d6,g3,b1,c9,a7,c8,i0⟩:=Zh8 a4 b7 b3 a5 S b5 b9 c2;have g4:=Zh b8;clear a4 b7 b3 a5 S b5 f5 b9 f1 U c2 b8 f2 g6 i8 g8 i6 i2 i3 i4 i5 g9 i9 j0 j6;go_upto_region 7 with (refine Ja (by rfl) 50 (.tmp 15) rfl j2 (k2+c*18) zr _ _ d4.out Tryz.underlying50 rfl kz ?_)
 rw [d6.out,g3.out]
 go_wp2_with (refine wpList_load_row rfl 50 (.tmp 7) rfl c6 rfl _ _ _ _ b1.out Tryz.underlying50 rfl Tryz.lawInfo ?_)
 refine c8.out.mono ?_;rintro e Q ⟨rfl,b6⟩;have Z:=Zh (b6.keep (a7.out.keep b1.out));have K:=Zh (c9.out.trans (a7.out.trans b6));clear b6 a7 c9 c8 d4 d6 b1;cases d9 with
 | false=>
  have a8:=Zh (N.out.trans K.out);have b0:=Zh (Q6 M.out K.out);clear M N P K Z;go_wp2;exact⟨⟨c+1,L,yo,yc,by omega,tz,(Prod.ext rfl (lE rfl (lE (by rw [b.out];rfl) rfl))),by rw [b.out];exact a2,Y.out,by rw [b.out];exact b0.out,a8.out⟩,mz⟩
 | true=>
 by_cases j8:V<mo;case neg=>
  have j4:¬ (V:Int)<(mo:Int):=by omega
  have a8:=Zh (N.out.trans K.out);have b0:=Zh (Q6 M.out K.out);clear M N P K Z;go_wp2;exact⟨⟨c+1,L,yo,yc,by omega,tz,(Prod.ext rfl (lE rfl (lE (by rw [b.out];rfl) rfl))),by rw [b.out];exact a2,Y.out,by rw [b.out];exact b0.out,a8.out⟩,mz⟩
 have j4:(V:Int)<(mo:Int):=by omega
 have f0:X<=Q.heap.size:=by have:=(N.out.trans K.out).size;rw [d7.out] at this;exact this
 have a1:Ext Q (Q.alloc (.cells #[.string B,.int .i64 t,.int .u32 (H:Int),.int .u32 (v:Int),.bool z,.int .i64 j,.int .i64 l,.slice C d o,.int .i64 u,.int .u32 (I:Int),.int .u32 (x:Int),.bool A,.int .i64 k,.int .i64 m,.slice E f q,.slice s g r,.slice G i F,.int .i64 y] 50)):=(Q0.refl _ Q).alloc _;have f7:=Rd.of_own (World.ownsRow_lit (base:=X) (e:=50) (size:=18) Q #[.string B,.int .i64 t,.int .u32 (H:Int),.int .u32 (v:Int),.bool z,.int .i64 j,.int .i64 l,.slice C d o,.int .i64 u,.int .u32 (I:Int),.int .u32 (x:Int),.bool A,.int .i64 k,.int .i64 m,.slice E f q,.slice s g r,.slice G i F,.int .i64 y] 1 f0 zd rfl);have f4:=Q6 M.out (K.out.trans a1);have k0:=a1.size;have f9:X<=(Q.alloc (.cells #[.string B,.int .i64 t,.int .u32 (H:Int),.int .u32 (v:Int),.bool z,.int .i64 j,.int .i64 l,.slice C d o,.int .i64 u,.int .u32 (I:Int),.int .u32 (x:Int),.bool A,.int .i64 k,.int .i64 m,.slice E f q,.slice s g r,.slice G i F,.int .i64 y] 50)).heap.size:=by omega
 obtain⟨d3,a9,c7,d5⟩:=Zh4 f7 f4 (N.out.trans (K.out.trans a1)) f9;clear f7 f4 a1 k0 f9 f0 M P
 go_wp2_with (first | (refine wpList_load_row rfl 50 (.tmp 7) rfl c6 rfl _ _ _ _ Z.out Tryz.underlying50 rfl Tryz.lawInfo ?_) | (at_builtin;refine X4 rfl (.tmp 27) (.tmp 29) 22 rfl X 50 _ 18 200 Tryz.underlying22 P9 rfl zd _ _ _ rfl a9.out _ 1 _ _ rfl d3.out (List.all_eq_true.1 (by rfl)) ?c3 ?c4 d5.out ?_))
 case c3=>unfold maxLen;omega
 case c4=>omega
 intro g2 g1 d8 e5 e8 _;have e2:Ext c5 d8:=c7.out.after e8 (fun R hb e=>by have:=(a9.out.lt R e).1;have:=d7.out;omega);have e6:d8.ownsRow X 50 18 (.slice g2 (V+1) g1) (V+1) ((L++[(a6,(#[.string B,.int .i64 t,.int .u32 (H:Int),.int .u32 (v:Int),.bool z,.int .i64 j,.int .i64 l,.slice C d o,.int .i64 u,.int .u32 (I:Int),.int .u32 (x:Int),.bool A,.int .i64 k,.int .i64 m,.slice E f q,.slice s g r,.slice G i F,.int .i64 y]:Array Value).toList)]:Qr).flatMap (·.2)):=by
  have:=e5;rw [List.flatMap_append]
  simpa using this
 have i7:=Zh e6;have g5:=Zh e2;clear e5 e6 e2 e8 a9 c7 d3 d5 N Z;go_wp2
 exact⟨⟨c+1,L++[(a6,(#[.string B,.int .i64 t,.int .u32 (H:Int),.int .u32 (v:Int),.bool z,.int .i64 j,.int .i64 l,.slice C d o,.int .i64 u,.int .u32 (I:Int),.int .u32 (x:Int),.bool A,.int .i64 k,.int .i64 m,.slice E f q,.slice s g r,.slice G i F,.int .i64 y]:Array Value).toList)],g2,g1,by omega,by first | trivial | rfl,(Prod.ext rfl (lE rfl (lE (by rw [List.length_append,b.out];rfl) rfl))),by rw [List.length_append,b.out];exact j8,(fun p J=>by
  rcases List.mem_append.1 J with J | J
  ·exact Y.out p J
  ·rw [List.mem_singleton] at J;subst J;exact⟨i0.out,g4.out⟩),by rw [List.length_append,b.out];exact i7.out,g5.out⟩,nz⟩
def Gm(l:Qr):List Value:=l.flatMap (·.2)
theorem Ex(a b:Qr):Gm (a++b)=Gm a++Gm b:=by simp [Gm]
theorem Q7n{w:World}{v:Value}{l:Qr}(h:Qt w v l):∃ ao cap,v=.slice ao l.length cap/\l.length<=maxLen:=by
 obtain⟨⟨_,a,ao,cap,rfl,_⟩,_⟩:=h;exact⟨ao,cap,rfl,a⟩
theorem Q5a{w:World}{v:Value}{l:Qr}(h:Qt w v l):∀ u∈Gm l,u.oneCell'=true:=by
 intro u a;obtain⟨c,d,a⟩:=List.mem_flatMap.1 a;have b:=h.2 c d;obtain⟨K,q⟩:=c;dsimp only at b a;obtain⟨D,t,I,y,B,j,m,E,e,o,x,J,z,C,k,n,F,f,p,s,g,r,H,i,G,A,rfl,_⟩:=Zu b;exact List.all_eq_true.1 (by rfl) u a
theorem Q77(n:Nat)(s:n<=100000)(w:World) :
  Calls Tryz.prog 72 #[.slice none 0 0,.int .i64 n] w fun e w'=>∃ ao c,e=.returned (.slice ao 0 c)/\w'.ownsRow w.heap.size 50 18 (.slice ao 0 c) 0 []/\Ext w w':=by
 by_cases m:n=0
 ·subst m;go_enter Tryz.func72,Tryz.ntmps72;go_wp2;go_ret;exact⟨_,_,rfl,World.ownsRow_nil _ _ _ _,Q0.refl _ _⟩
 ·obtain⟨r,i,k,p,f⟩:=info_parts (@P9);have b:=Lib.run_append_nil_zeros (P:=Tryz.prog) w 22 3 22 50 r (Value.agg #[.string ⟨#[]⟩,.int .i64 0,.int .u32 0,.int .u32 0,.bool false,.int .i64 0,.int .i64 0,.slice none 0 0,.int .i64 0,.int .u32 0,.int .u32 0,.bool false,.int .i64 0,.int .i64 0,.slice none 0 0,.slice none 0 0,.slice none 0 0,.int .i64 0]) .i64 .i64 Tryz.underlying22 Tryz.underlying3 i k n oz oz oz (by rw [f];omega);have o:=grownCap_ge w n 0 50;have j:=grownCap_le_maxLen w n 0 50 (by unfold maxLen;omega);obtain⟨c,g⟩:=zE (grownCap w n 0 50);rw [g] at b o j;obtain⟨a,d⟩:=zE (Builtin.zeroCells (Value.agg #[.string ⟨#[]⟩,.int .i64 0,.int .u32 0,.int .u32 0,.bool false,.int .i64 0,.int .i64 0,.slice none 0 0,.int .i64 0,.int .u32 0,.int .u32 0,.bool false,.int .i64 0,.int .i64 0,.slice none 0 0,.slice none 0 0,.slice none 0 0,.int .i64 0]).cells n++Builtin.zeroCells (Value.agg #[.string ⟨#[]⟩,.int .i64 0,.int .u32 0,.int .u32 0,.bool false,.int .i64 0,.int .i64 0,.slice none 0 0,.int .i64 0,.int .u32 0,.int .u32 0,.bool false,.int .i64 0,.int .i64 0,.slice none 0 0,.slice none 0 0,.slice none 0 0,.int .i64 0]).cells (c - n));have q:a.size=c*18:=by
   rw [<-d,Array.size_append,size_zeroCells,size_zeroCells];show n*18+(c - n)*18=c*18;omega
  rw [d] at b;have t:(0:Int)<(n:Int):=by omega
  have l:=Zh b;clear b d g i k p f;go_enter Tryz.func72,Tryz.ntmps72
  go_wp2_with (at_builtin;refine Lib.wpList_append_run _ rfl (.tmp 20) (.tmp 21) _ _ rfl (.slice none 0 0) (.int .i64 n) rfl rfl _ _ l.out ?_)
  go_ret;exact⟨_,_,rfl,⟨by simp,.inr ⟨w.heap.size,c,a,rfl,Nat.le_refl _,Q3 zy,by omega,j,q,by simp⟩⟩,((Q0.refl _ w).drew).alloc _⟩
def Xu(us:List (Qr)) (k:Nat):Qr:=(us.take k).flatten
theorem Sl{us:List (Qr)} {k:Nat} (h:k<us.length):Xu us (k+1)=Xu us k++us[k]:=by
 unfold Xu;rw [List.take_succ_eq_append_getElem h,List.flatten_append];simp
theorem Cx{us:List (Qr)} {k:Nat} (h:us.length<=k):Xu us k=us.flatten:=by unfold Xu;rw [List.take_of_length_le h]
theorem Q0m{us:List (Qr)} (k:Nat):(Xu us k).length<=us.flatten.length:=by
 unfold Xu;conv=>rhs;rw [<-List.take_append_drop k us,List.flatten_append,List.length_append]
 omega
theorem Q2y{w:World}{ao:Option Addr}{cap:Nat}{vs:List Value}{us:List (Qr)} {F:Qr} (b2:us.flatten=F) (H:Rd w (.slice ao us.length cap) us.length 1 vs) (b8:∀ i (h:i<us.length),Qt w (vs.getD i undef) us[i]) (d2:F.length<=1000) :
  Calls Tryz.prog 30 #[.slice ao us.length cap] w fun e w'=>∃ u,e=.returned u/\w'.ownsRow w.heap.size 50 18 u F.length (Gm F)/\Ext w w':=by
 obtain⟨f,Y⟩:=zE us.length;have c5:f<=maxLen:=by have:=H.2.1;omega
 unfold maxLen at c5;rw [Y] at H ⊢;have p:=Zh Y;clear Y;have a6:=Zh b8;have D:=Zh b2;clear b2
 have b5:Hid (∀ c (b7:c<us.length),∃ m s,ao=some ⟨m,s,none⟩/\m<w.heap.size/\w.cell? ⟨m,s+c,none⟩=some (vs.getD c undef)):=Zh fun c b7=>by
  obtain⟨_,_,b0,b1,d3,c1⟩:=H;cases d3;obtain⟨m,s,c2,c3,c4⟩:=c1 (by have:=p.out;omega);exact⟨m,s,c2,c3,c4 c (by have:=p.out;omega)⟩
 clear H b8;go_enter Tryz.func30,Tryz.ntmps30;go_wp2
 refine wp_loop (fun a l=>∃(c:Nat),c<=f/\a.defers=[]/\(a.tmps.size=36/\a.tmps.getD 0 undef=.slice ao f cap/\a.tmps.getD 3 undef=.int .i64 ((Xu us c).length:Int)/\a.tmps.getD 9 undef=.slice ao f cap/\a.tmps.getD 10 undef=.int .i64 f/\a.tmps.getD 11 undef=.int .i64 c)/\w=l)
  (fun a _=>f - (intOf (a.tmps.getD 11 undef)).toNat) ?_ ?_
 ·exact⟨0,by omega,rfl,⟨rfl,rfl,by simp [Xu],rfl,rfl,rfl⟩,rfl⟩
 rintro⟨a3,_⟩ l ⟨c,b7,a0,⟨z,O,U,W,P,Q⟩,rfl⟩;subst a0;obtain⟨a4,A⟩:=Z5 z;obtain⟨u,rfl⟩:∃ x,x=a4:=⟨_,rfl⟩;have a1:a3=#[u 0,u 1,u 2,u 3,u 4,u 5,u 6,u 7,u 8,u 9,u 10,u 11,u 12,u 13,u 14,u 15,u 16,u 17,u 18,u 19,u 20,u 21,u 22,u 23,u 24,u 25,u 26,u 27,u 28,u 29,u 30,u 31,u 32,u 33,u 34,u 35]:=A;clear A;subst a1;change u 0=_ at O;change u 3=_ at U;change u 9=_ at W;change u 10=_ at P;change u 11=_ at Q;rw [O,U,W,P,Q];clear O U W P Q z;by_cases d1:c<f
 ·have X:(c:Int)<(f:Int):=by omega
  have n:c<us.length:=by rw [p.out];exact d1
  obtain⟨m,s,rfl,c9,y⟩:=b5.out c n;obtain⟨d6,d5,C,a2⟩:=Q7n (a6.out c n);rw [C] at y;have r:=Sl n;have k:=Q0m (us:=us) (c+1);rw [D.out] at k;have o:(Xu us (c+1)).length=(Xu us c).length+us[c].length:=by rw [r,List.length_append]
  rw [o] at k;obtain⟨L,J⟩:=zE ((Xu us c).length);obtain⟨K,I⟩:=zE (us[c].length);rw [J,I] at k;rw [J];rw [I] at y;have d9:¬ ((L:Int)+(K:Int)<0):=by omega
  have b9:Hid ((Xu us (c+1)).length=L+K):=Zh (by rw [o,J,I]);clear r o J I C a2;go_wp2;exact⟨⟨c+1,by omega,by rw [b9.out];simp,by simp⟩,nz⟩
 obtain rfl:c=f:=by omega
 have X:¬ (c:Int)<(c:Int):=by omega
 have q:(Xu us c)=F:=(Cx (by rw [p.out];exact Nat.le_refl _)).trans D.out;rw [q];clear q;obtain⟨N,Z⟩:=zE F.length;rw [Z] at d2 ⊢;have G:=Zh Z;clear Z
 go_wp2_with (go_at_call 72;refine(Q77 N oz _).mono ?_;rintro e d4 ⟨v,t,rfl,g,j⟩)
 refine wp_loop (fun a l=>∃(d:Nat) (v:Option Addr) (t:Nat),d<=c/\a.defers=[]/\(a.tmps.size=36/\a.tmps.getD 6 undef=.slice v (Xu us d).length t/\a.tmps.getD 25 undef=.slice ao c cap/\a.tmps.getD 26 undef=.int .i64 c/\a.tmps.getD 27 undef=.int .i64 d)/\l.ownsRow w.heap.size 50 18 (.slice v (Xu us d).length t) (Xu us d).length (Gm (Xu us d))/\Ext w l)
  (fun a _=>c - (intOf (a.tmps.getD 27 undef)).toNat) ?_ ?_
 ·exact⟨0,v,t,by omega,rfl,⟨rfl,rfl,rfl,rfl,rfl⟩,g,j⟩
 clear g j d4 v t;rintro⟨a3,_⟩ l ⟨d,v,t,d8,a0,⟨z,V,R,S,T⟩,g,j⟩;subst a0;obtain⟨a4,A⟩:=Z5 z;obtain⟨u,rfl⟩:∃ x,x=a4:=⟨_,rfl⟩;have a1:a3=#[u 0,u 1,u 2,u 3,u 4,u 5,u 6,u 7,u 8,u 9,u 10,u 11,u 12,u 13,u 14,u 15,u 16,u 17,u 18,u 19,u 20,u 21,u 22,u 23,u 24,u 25,u 26,u 27,u 28,u 29,u 30,u 31,u 32,u 33,u 34,u 35]:=A;clear A;subst a1;change u 6=_ at V;change u 25=_ at R;change u 26=_ at S;change u 27=_ at T;rw [V,R,S,T];clear V R S T z;by_cases d0:d<c
 ·have X:(d:Int)<(c:Int):=by omega
  have n:d<us.length:=by rw [p.out];exact d0
  obtain⟨m,s,rfl,c9,b6⟩:=b5.out d n;have y:=j.cell_some b6 (fun h=>h);have B:=(a6.out d n).ext j;obtain⟨d6,d5,C,a2⟩:=Q7n B;rw [C] at y B;have r:=Sl n;have k:=Q0m (us:=us) (d+1);rw [D.out] at k;have o:(Xu us (d+1)).length=(Xu us d).length+us[d].length:=by rw [r,List.length_append]
  rw [o,G.out] at k;have M:=Zh r;have E:=Zh o;have a7:Hid (Rd l _ us[d].length 18 (Gm us[d])):=Zh B.1;have a5:=Zh (Q5a B);have c8:=j.size;clear r o C a2 B b6;obtain⟨a8,b3⟩:=zE (Xu us d);obtain⟨a9,b4⟩:=zE (us[d]);rw [b3] at g k M E ⊢;rw [b4] at y k M E a7 a5;clear b3 b4
  go_wp2_with (at_builtin;refine X4 rfl (.tmp 31) (.tmp 32) 22 rfl w.heap.size 50 _ 18 200 Tryz.underlying22 @P9 rfl zd _ _ _ rfl g _ _ _ _ rfl a7.out (a5.out) (by unfold maxLen;omega) oz c8 ?_;intro b0 b1 e0 c6 c7 d7)
  refine⟨⟨d+1,b0,b1,by omega,tz,⟨rfl,by rw [E.out];rfl,rfl,rfl,rfl⟩,?_,?_⟩,nz⟩
  ·rw [E.out,M.out,Ex];exact c6
  ·exact j.after c7 (fun b hb e=>by have:=(g.lt _ e).1;omega)
 ·obtain rfl:d=c:=by omega
  have X:¬ (d:Int)<(d:Int):=by omega
  have q:(Xu us d)=F:=(Cx (by rw [p.out];exact Nat.le_refl _)).trans D.out;rw [q,G.out] at g;rw [q,G.out];have c0:=Zh g;clear g q;go_wp2;go_ret;exact⟨_,rfl,by rw [G.out];exact c0.out,j⟩
theorem Lx(R:List Wd){i:Nat}(h:i<R.length):(Y4 (Ui R)).getD i undef=.int .i64 (Ze R i:Nat):=by
 rw [List.getD_eq_getElem?_getD];simp [Y4,Ui,h]
theorem Q71{W:World}{u v:Value}{a b:Qr}(d:Qt W u a)(e:Qt W v b):Rd (W.alloc (.cells #[u,v] 22)) (.slice (some ⟨W.heap.size,0,none⟩) [a,b].length 2) [a,b].length 1 [u,v]/\∀ i (h:i < [a,b].length),Qt (W.alloc (.cells #[u,v] 22)) ([u,v].getD i undef) [a,b][i]:=by
 have c:Ext W (W.alloc (.cells #[u,v] 22)):=(Q0.refl _ W).alloc _
 refine⟨⟨by simp,by unfold maxLen;simp,_,_,rfl,fun _=>⟨_,_,rfl,(Array.getElem?_eq_some_iff.1 (Q3 rfl)).1,fun j hj=>?_⟩⟩,fun i hi=>?_⟩
 ·have g:j=0\/j=1:=by simp at hj;omega
  rcases g with rfl | rfl <;> (rw [cell_of_row _ _ _ _ _ _ (Q3 rfl)];rfl)
 ·have f:i=0\/i=1:=by simp at hi;omega
  rcases f with rfl | rfl
  ·exact d.ext c
  ·exact e.ext c
theorem Q9a{w:World}{o0:Qr}{n8:Option Addr}{b6 f8:Nat}(l9:Qt w (.slice n8 b6 f8) o0) (m7:o0.length=b6) (K:b6<=f8) {o1:Qr} {n9:Option Addr} {b7 f9:Nat} (m1:Qt w (.slice n9 b7 f9) o1) (m9:o1.length=b7) (l:b7<=f9)
  {ao:Option Addr} {W d0:Nat} {U:List Nat} (k5:Rd w (.slice ao W d0) W 1 (u8V U)) (k7:U.length=W) (k8:∀ x∈U,x<256) (k6:W<=d0) {j9:Option Addr} {Y d1:Nat} {X:List Nat} (l0:Rd w (.slice j9 Y d1) Y 1 (u8V X)) (l2:X.length=Y) (l3:∀ x∈X,x<256) (l1:Y<=d1) (a1:Tab w) :
  Calls Tryz.prog 5 #[.slice n8 b6 f8,.slice n9 b7 f9,.slice ao W d0,.slice j9 Y d1] w fun e w'=>e=.returned (.bool true)/\Ext w w':=by
 have g6:=Zh (Ta l9 m7 K a1 (mo:=6) (by decide))
 have g7:=Zh (fun(V:World) (c:Ext w V)=>Ta (m1.ext c) m9 l (a1.keep c id) (mo:=6) (by decide))
 have g8:=Zh (fun(V:World) (c:Ext w V)=>T3 (k5.ext c) k7 k8 k6 (mo:=10) (by decide))
 have g9:=Zh (fun(V:World) (c:Ext w V)=>T3 (l0.ext c) l2 l3 l1 (mo:=10) (by decide))
 have j3:=Zh a1
 have c8:=Zh (fun(k:World) (c:Ext w k)=>Xi k (a1.keep c id))
 obtain⟨f3,m2⟩:=Ep U (mo:=10) (by decide)
 obtain⟨f4,m3⟩:=Ep X (mo:=10) (by decide)
 obtain⟨q,d9⟩:∃ q,V8 U 10=q:=⟨_,rfl⟩
 obtain⟨G,e0⟩:∃ q,V8 X 10=q:=⟨_,rfl⟩
 rw [d9] at f3 m2
 rw [e0] at f4 m3
 have i0:=Zh d9;have i2:=Zh e0;have p3:=Zh f3;have p4:=Zh f4
 have k0:q.length+G.length<=31:=by omega
 have o8:=Zh k0
 clear l9 m7 K m1 m9 l k5 k7 k8 k6 l0 l2 l3 l1 a1 d9 e0 f3 f4 m2 m3 k0
 go_enter Tryz.func5,Tryz.ntmps5
 go_wp2_with fail
 refine g6.out.mono ?_
 rintro e r7 ⟨g,s3,s2,rfl,k2,l6,q6,n4,u⟩
 have i6:=Zh u;have r:=Zh k2;have j4:=Zh n4;have o9:=Zh l6
 obtain⟨r0,e9⟩:∃ m,g.length=m:=⟨_,rfl⟩
 rw [e9] at r q6 o9 ⊢
 have a6:=Zh e9
 have j5:=Zh (g7.out r7 u)
 clear g6 g7 u k2 n4 l6 e9
 go_wp2_with fail
 refine j5.out.mono ?_
 rintro e r8 ⟨j,s5,s4,rfl,k3,q0,q7,n5,e1⟩
 have Q:=Zh (r.out.ext e1);have c4:=Zh (i6.out.trans e1);have H:=Zh k3;have p2:=Zh n5
 obtain⟨r1,f0⟩:∃ m,j.length=m:=⟨_,rfl⟩
 rw [f0] at H q7 ⊢
 have j1:=Zh f0
 have j6:=Zh (g8.out r8 c4.out)
 clear j5 g8 e1 i6 r k3 n5 q0 f0
 go_wp2_with fail
 refine j6.out.mono ?_
 rintro e r9 ⟨t9,rfl,a3,b2⟩
 rw [i0.out] at a3
 obtain⟨u1,u0,rfl,k9,_⟩:=a3
 have c5:=Zh (c4.out.trans b2);have r:=Zh (Q.out.ext b2);have R:=Zh (H.out.ext b2);have O:=Zh k9
 have j7:=Zh (g9.out r9 c5.out)
 clear j6 g9 b2 c4 Q H k9 i0
 go_wp2_with fail
 refine j7.out.mono ?_
 rintro e s0 ⟨u2,rfl,a3,a0⟩
 rw [i2.out] at a3
 obtain⟨u4,u3,rfl,l4,_⟩:=a3
 have i7:=Zh (c5.out.trans a0);have Q:=Zh (r.out.ext a0);have H:=Zh (R.out.ext a0);have i1:=Zh (O.out.ext a0);have i3:=Zh l4
 clear j7 a0 c5 r R O l4 i2
 go_wp2_with fail
 refine(N8 s0 (n:=8) (sh:=0) (by decide) (by decide)).mono ?_
 rintro e g0 ⟨t3,t2,rfl,b5,J⟩
 obtain⟨_,_,t,e8,e7⟩:=b5
 cases t
 rw [Ku] at e8 e7
 have a5:=Zh (i7.out.trans J);have r:=Zh (Q.out.ext J);have R:=Zh (H.out.ext J);have O:=Zh (i1.out.ext J);have i4:=Zh (i3.out.ext J)
 have j0:=Zh e8;have i9:=Zh e7
 clear J i7 Q H i1 i3 e8 e7
 have n0:∀ s∈Vc 8 0,okS s=true:=fun s hs=>by
  obtain⟨i,b5,rfl⟩:=List.mem_map.1 hs
  exact Q47 i (List.mem_range.1 b5)
 obtain⟨b8,b9,a4⟩:=Q9o (ls:=g.map (·.1)) (ms:=j.map (·.1)) (Cv j4.out (by rw [a6.out];omega)) (by
  rw [<-List.map_append]
  exact Cv (L:=g++j) (fun p hp=>(List.mem_append.1 hp).elim (j4.out p) (p2.out p)) (by rw [List.length_append,a6.out,j1.out];omega)) p3.out p4.out o8.out Q7r n0
 rw [<-List.map_append] at b8 b9 a4
 have K:=Dk r.out a6.out O.out i4.out j0.out (Ku 8 0) i9.out (j3.out.keep a5.out id)
 have m0:∀(V:World),Ext g0 V->∀ p∈g++j,Zq V p.1 p.2:=fun V c p hp=>(List.mem_append.1 hp).elim (fun h=>(r.out.2 p h).ext c) (fun h=>(R.out.2 p h).ext c)
 have l:=fun(V:World) (c:Ext g0 V) {N:Option Addr} {z M:Nat} (hr:Rd V (.slice N z M) z 18 (Gm (g++j))) (hn:(g++j).length=z)=>Dk (ps:=g++j) ⟨by rw [hn];exact hr,m0 V c⟩ hn (O.out.ext c) (i4.out.ext c) (j0.out.ext c) (Ku 8 0) i9.out (j3.out.keep (a5.out.trans c) id)
 rw [Ku] at a4
 obtain⟨g3,b1⟩:∃ E,Z1 (g.map (·.1)) q G (Vc 8 0)=E:=⟨_,rfl⟩
 obtain⟨g4,u⟩:∃ E,Z1 ((g++j).map (·.1)) q G (Vc 8 0)=E:=⟨_,rfl⟩
 obtain⟨j8,e4⟩:∃ E,Qy (g.map (·.1)) q G (Vc 8 0)=E:=⟨_,rfl⟩
 obtain⟨c9,e5⟩:∃ E,Qy ((g++j).map (·.1)) q G (Vc 8 0)=E:=⟨_,rfl⟩
 rw [b1,u] at b8
 rw [u] at b9
 rw [b1,u,e4,e5] at a4
 rw [b1,e4] at K
 simp only [u,e5] at l
 have a7:=Zh b8;have a8:=Zh b9;have a9:=Zh a4;have c0:=Zh K
 have c1:Hid (∀(V:World),Ext g0 V->∀(N:Option Addr) (z M:Nat),Rd V (.slice N z M) z 18 (Gm (g++j))->(g++j).length=z->_):=Zh (fun V c N z M hr hn=>l V c hr hn)
 have m4:(g++j).length<=1000:=by rw [List.length_append,a6.out,j1.out];omega
 have p1:=Zh m4
 obtain⟨t4,f1⟩:∃ n,q.length=n:=⟨_,rfl⟩
 obtain⟨t5,f2⟩:∃ n,G.length=n:=⟨_,rfl⟩
 rw [f1,f2] at c0 c1
 rw [f1,f2]
 clear b8 b9 a4 K l m0 n0 b1 u e4 e5 m4 f1 f2
 go_wp2_with fail
 refine c0.out.mono ?_
 rintro e g1 ⟨o3,o2,rfl,y,b3⟩
 have B:=Zh (Rd.of_own y);have i8:=Zh b3
 obtain⟨n1,m5⟩:=Q71 (r.out.ext b3) (R.out.ext b3)
 have k1:Ext g1 (g1.alloc (.cells #[.slice s3 r0 s2,.slice s5 r1 s4] 22)):=(Q0.refl _ g1).alloc _
 have l5:=Q2y (us:=[g,j]) (F:=g++j) (by simp) n1 m5 p1.out
 have i5:=Zh l5;have c2:=Zh k1
 clear c0 y b3 n1 m5 k1 l5
 go_wp2_with fail
 refine i5.out.mono ?_
 rintro e s1 ⟨b,rfl,y,e2⟩
 obtain⟨N,M,rfl⟩:=Qu y
 have c6:=Zh (i8.out.trans (c2.out.trans e2))
 have j2:=Zh (B.out.ext (c2.out.trans e2))
 have m6:=c1.out s1 c6.out N (g++j).length M (Rd.of_own y) rfl
 have c7:=Zh m6
 obtain⟨z,m8⟩:∃ n,(g++j).length=n:=⟨_,rfl⟩
 rw [m8] at c7 ⊢
 clear i5 y e2 c2 B i8 m6 c1 m8
 go_wp2_with fail
 refine c7.out.mono ?_
 rintro e g2 ⟨r6,r5,rfl,y,e3⟩
 have I:=Zh (Rd.of_own y);have B:=Zh (j2.out.ext e3);have A:=Zh (a5.out.trans (c6.out.trans e3))
 clear y e3 c7 j2 c6 a5
 by_cases f5:g3=0
 case neg=>
  have q8:(g3 != 0)=true:=by simpa using f5
  obtain⟨rfl,rfl⟩:=a7.out f5
  clear B I a7 a8 a9
  go_wp2_with fail
  refine(c8.out g2 A.out).mono ?_
  rintro e o4 ⟨rfl,C⟩
  have T:=Zh (A.out.trans C)
  clear C A
  go_wp2
  go_ret
  exact⟨rfl,T.out⟩
 subst f5
 by_cases f6:g4=0
 case neg=>
  have q8:(g4 != 0)=true:=by simpa using f6
  have q2:=a8.out f6
  subst q2
  clear B I a7 a8 a9
  go_wp2_with fail
  refine(c8.out g2 A.out).mono ?_
  rintro e o4 ⟨rfl,C⟩
  have T:=Zh (A.out.trans C)
  clear C A
  go_wp2
  go_ret
  exact⟨rfl,T.out⟩
 subst f6
 obtain⟨d7,b0,d8⟩:=a9.out (by first | trivial | rfl) (by first | trivial | rfl)
 have o6:=Zh d7;have g5:=Zh b0;have o7:=Zh d8
 rw [d7] at B ⊢
 rw [b0] at I ⊢
 clear d7 b0 d8 a7 a8 a9
 go_wp2
 refine wp_loop (fun a k=>∃(o:Nat),o<=8/\a.defers=[]/\(a.tmps.size=99/\a.tmps.getD 12 undef=.slice o3 8 o2/\a.tmps.getD 14 undef=.slice r6 8 r5/\a.tmps.getD 72 undef=.slice o3 8 o2/\a.tmps.getD 73 undef=.int .i64 8/\a.tmps.getD 74 undef=.int .i64 o)/\Ext g2 k)
  (fun a _=>8 - (intOf (a.tmps.getD 74 undef)).toNat) ?_ ?_
 ·exact⟨0,by omega,rfl,⟨rfl,rfl,rfl,rfl,rfl,rfl⟩,Q0.refl _ _⟩
 rintro⟨r3,_⟩ k ⟨i,b5,q1,⟨n2,d2,d3,d4,d5,d6⟩,c⟩
 subst q1
 obtain⟨r4,n3⟩:=Z5 n2
 obtain⟨b,rfl⟩:∃ x,x=r4:=⟨_,rfl⟩
 have q9:r3=#[b 0,b 1,b 2,b 3,b 4,b 5,b 6,b 7,b 8,b 9,b 10,b 11,b 12,b 13,b 14,b 15,b 16,b 17,b 18,b 19,b 20,b 21,b 22,b 23,b 24,b 25,b 26,b 27,b 28,b 29,b 30,b 31,b 32,b 33,b 34,b 35,b 36,b 37,b 38,b 39,b 40,b 41,b 42,b 43,b 44,b 45,b 46,b 47,b 48,b 49,b 50,b 51,b 52,b 53,b 54,b 55,b 56,b 57,b 58,b 59,b 60,b 61,b 62,b 63,b 64,b 65,b 66,b 67,b 68,b 69,b 70,b 71,b 72,b 73,b 74,b 75,b 76,b 77,b 78,b 79,b 80,b 81,b 82,b 83,b 84,b 85,b 86,b 87,b 88,b 89,b 90,b 91,b 92,b 93,b 94,b 95,b 96,b 97,b 98]:=n3
 clear n3
 subst q9
 change b 12=_ at d2
 change b 14=_ at d3
 change b 72=_ at d4
 change b 73=_ at d5
 change b 74=_ at d6
 rw [d2,d3,d4,d5,d6]
 clear d2 d3 d4 d5 d6 n2
 have P:=Zh c
 clear c
 by_cases a2:i<8
 case neg=>
  obtain rfl:i=8:=by omega
  have p9:¬ ((8:Nat):Int)<8:=by decide
  have c3:=Zh (A.out.trans P.out)
  clear B I
  go_wp2_with fail
  refine(c8.out k c3.out).mono ?_
  rintro e o4 ⟨rfl,C⟩
  have T:=Zh (c3.out.trans C)
  clear C A c3
  go_wp2
  go_ret
  exact⟨rfl,T.out⟩
 have p9:(i:Int)<8:=by omega
 have t1:(0:Int)<=(i:Int):=by omega
 obtain⟨n7,f7⟩:=o7.out i a2
 obtain⟨t0,t6,s7,t,q3,e6⟩:=Z7 (B.out.ext P.out) a2
 simp only [Value.slice.injEq,true_and] at t
 obtain⟨rfl,rfl⟩:=t
 rw [Lx j8 (by rw [o6.out];exact a2)] at e6
 obtain⟨o,l7⟩:∃ o,Ze j8 i=o:=⟨_,rfl⟩
 rw [l7] at e6 n7 f7
 have l8:o<8:=by omega
 obtain⟨b0,t7,s8,t,q4,l⟩:=Z7 (I.out.ext P.out) a2
 simp only [Value.slice.injEq,true_and] at t
 obtain⟨rfl,rfl⟩:=t
 obtain⟨d8,t8,s9,t,q5,b4⟩:=Z7 (I.out.ext P.out) l8
 simp only [Value.slice.injEq,Option.some.injEq,Addr.mk.injEq,and_true,true_and] at t
 obtain⟨⟨rfl,rfl⟩,rfl⟩:=t
 rw [Lx c9 (by rw [g5.out];exact a2),f7] at l
 rw [Lx c9 (by rw [g5.out];exact l8)] at b4
 obtain⟨o5,n6⟩:∃ o5,Ze c9 o=o5:=⟨_,rfl⟩
 rw [n6] at l b4
 have p5:¬ (o:Int)<0:=by omega
 have p6:¬ (o:Int) > (i:Int):=by omega
 have p7:(0:Int)<=(o:Int):=by omega
 have p8:(o:Int)<8:=by omega
 clear l7 n6 n7 f7 q3 q4 q5
 go_upto_region 14 with (fail)
 have f:Ext k k.drew:=(Q0.refl _ k).drew
 refine Z8 (S:=fun D=>Ext k D) [] (by kernel_rfl) f ?_
 intro _
 obtain⟨s6,k4⟩:∃ D,k.drew=D:=⟨_,rfl⟩
 rw [k4] at f ⊢
 clear k4
 refine tE 0 79 f ?_
 refine tE 1 80 f ?_
 refine tE 2 81 f ?_
 refine tE 3 82 f ?_
 refine tE 4 83 f ?_
 refine tE 5 84 f ?_
 refine tE 6 85 f ?_
 refine tE 7 86 f ?_
 refine tE 8 87 f ?_
 refine tE 9 88 f ?_
 refine tE 10 89 f ?_
 refine tkE (i:=11) (d:=90) (v:=?_) rfl (Or.inl ⟨by rfl,?_⟩) f ?_
 rotate_left
 ·intro D Z;have r2:=(show Ext k D from Z).cell_some l id;(try dsimp only at Z);go_simp;try with_reducible rfl
 try simp only [Act.put,pq]
 refine tE 12 91 f ?_
 refine tE 13 92 f ?_
 refine tE 14 93 f ?_
 refine tkE (i:=15) (d:=94) (v:=?_) rfl (Or.inl ⟨by rfl,?_⟩) f ?_
 rotate_left
 ·intro D Z;have r2:=(show Ext k D from Z).cell_some b4 id;(try dsimp only at Z);go_simp;try with_reducible rfl
 try simp only [Act.put,pq]
 refine tE 16 95 f ?_
 refine tE 17 96 f ?_
 refine Z0 (by kernel_rfl) ?_ _
 have p0:=Zh (P.out.trans f)
 clear f l b4 e6 p5 p6 p7 p8
 go_wp2
 exact⟨⟨i+1,by omega,by first | rfl | trivial,⟨rfl,rfl,rfl,rfl,rfl,rfl⟩,p0.out⟩,by simp [intOf];omega⟩
end Go.Proofs.YtejenndedjabhaaGreatDoor
