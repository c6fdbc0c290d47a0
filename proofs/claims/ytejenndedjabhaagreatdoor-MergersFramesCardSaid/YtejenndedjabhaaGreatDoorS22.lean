/- Frames: -/
import Derived.Test.YtejenndedjabhaaGreatDoorS21
import Derived.Test.YtejenndedjabhaaGreatDoorS20
set_option maxRecDepth 100000
set_option maxHeartbeats 16000000
namespace Go.Proofs.YtejenndedjabhaaGreatDoor
open Go.RowKit Go.Ab
def Jz(fr:List (Wd × Wd)):List Int:=fr.map fun p=>Qs [] p.1 p.2
def W2(ls:List Q7)(fr:List (Wd × Wd)) (s:Nat × Nat):List Int:=fr.map fun p=>Ye ls (Qf p.1 p.2 s)
def frB(ls:List Q7)(fr:List (Wd × Wd)) (s:Nat × Nat):List Bool:=fr.map fun p=>!decide (Qf p.1 p.2 s=Yj ls (Qf p.1 p.2 s))
def Yf(ls:List Q7)(fr:List (Wd × Wd)) (s:Nat × Nat):Int:=
 if Z4 ls=0 then(if 256<fr.length then 12 else if Z2 (Jz fr)=0 then(if okS s=true then Z2 (W2 ls fr s) else 14) else Z2 (Jz fr)) else Z4 ls
def Jo(ls:List Q7)(fr:List (Wd × Wd)) (s:Nat × Nat):List Bool:=if Yf ls fr s=0 then frB ls fr s else []
theorem Q5s{l:List Int}(h:Z2 l=0):∀ x∈l,x=0:=by
 induction l with
 | nil=>intro x a;cases a
 | cons e l ih=>
  intro x a;unfold Z2 at h
  split at h
  ·rename_i b
   rcases List.mem_cons.1 a with rfl | a
   ·exact b
   ·exact ih h x a
  ·rename_i b;exact absurd h b
theorem Tw{fr:List (Wd × Wd)} (h:Z2 (Jz fr)=0) {k:Nat} (b:k<fr.length):wE fr[k].1=0/\wE fr[k].2=0:=by
 have a:=Q5s h (Qs [] fr[k].1 fr[k].2) (List.mem_map.2 ⟨_,List.getElem_mem b,rfl⟩);exact(Wp a).2
theorem Q4m{ls:List Q7}{fr:List (Wd × Wd)} {s:Nat × Nat} (h:Yf ls fr s=0):Jo ls fr s=frB ls fr s:=if_pos h
theorem Q4t{ls:List Q7}{fr:List (Wd × Wd)} {s:Nat × Nat} (h:Yf ls fr s≠0):Jo ls fr s=[]:=if_neg h
theorem Qce{ls:List Q7}{p:Wd × Wd}{s:Nat × Nat}(c:Z4 ls=0)(h:wE p.1=0/\wE p.2=0)(b:okS s=true):Uc ls p.1 p.2 s=Ye ls (Qf p.1 p.2 s)/\Ua ls p.1 p.2 s=Yj ls (Qf p.1 p.2 s):=by
 have a:Qs ls p.1 p.2=0:=by unfold Qs;rw [if_pos c,if_pos h.1];exact h.2
 unfold Uc Ua;rw [if_pos a,if_pos a,if_pos b,if_pos b];exact⟨rfl,rfl⟩
attribute [local go_sem] Oper.semAt_some Zm Qv
def boV(l:List Bool):List Value:=l.map Value.bool
theorem Mo(l:List Bool){k:Nat}(h:k<l.length):(boV l).getD k undef=.bool l[k]:=by rw [List.getD_eq_getElem?_getD];simp [boV,h]
theorem Qei{w:World}{u v:Value}{us vs:List Bool}(k:Rd w u us.length 1 (boV us)) (l:Rd w v vs.length 1 (boV vs)) :
  Calls Tryz.prog 44 #[u,v] w fun e w'=>e=.returned (.bool (decide (us=vs)))/\Ext w w':=by
 have J:=k.2.1;have K:=l.2.1;unfold maxLen at J K;obtain⟨T,S,rfl,_⟩:=k.2.2;obtain⟨V,U,rfl,_⟩:=l.2.2;obtain⟨c,i⟩:=zE us.length;obtain⟨B,g⟩:=zE vs.length;rw [i] at k J ⊢;rw [g] at l K ⊢;obtain⟨Q,R,A,z⟩:=Zh4 k l i g;clear k l;go_enter Tryz.func44,Tryz.ntmps44;by_cases F:c=B;case neg=>
  have d:((c:Int) !=(B:Int))=true:=by simp;omega
  have t:=Zh (decide_eq_false (fun h:us=vs=>F (by rw [<-i,<-g,h])));clear i g;go_wp2;go_ret;exact⟨by rw [t.out];rfl,Q0.refl _ _⟩
 subst F;clear i g;go_wp2
 refine wp_loop (fun a C=>∃(b:Nat),b<=c/\a.defers=[]/\gS a [0,1,12,13]=(26,[.slice T c S,.slice V c U,.int .i64 c,.int .i64 b])/\us.take b=vs.take b/\Ext w C)
  (fun a _=>c - (intOf (a.tmps.getD 13 undef)).toNat) ?_ ?_
 ·exact⟨0,by omega,rfl,rfl,by simp,Q0.refl _ _⟩
 rintro⟨b0,_⟩ C ⟨b,a7,X,L,G,f⟩;subst X;obtain⟨u,rfl⟩:=Qc L;clear L;have y:=Zh G;clear G;by_cases p:b<c;case neg=>
  obtain rfl:b=c:=by omega
  have W:¬ (b:Int)<(b:Int):=by omega
  have x:=y.out;rw [List.take_of_length_le (by rw [A.out];exact Nat.le_refl _),List.take_of_length_le (by rw [z.out];exact Nat.le_refl _)] at x;have O:=Zh (decide_eq_true x);clear x;go_wp2;go_ret;exact⟨by rw [O.out];rfl,f⟩
 have W:(b:Int)<(c:Int):=by omega
 have a2:(0:Int)<=(b:Int):=by omega
 have H:b<us.length:=by rw [A.out];exact p
 have I:b<vs.length:=by rw [z.out];exact p
 obtain⟨a0,a8,Y,j,a5,D⟩:=Z7 (Q.out.ext f) p;simp only [zV,true_and] at j;obtain⟨rfl,rfl⟩:=j;obtain⟨a1,a9,Z,j,a6,E⟩:=Z7 (R.out.ext f) p;simp only [zV,true_and] at j;obtain⟨rfl,rfl⟩:=j;rw [Mo us H] at D;rw [Mo vs I] at E;have r:us.take (b+1)=us.take b++[us[b]]:=List.take_succ_eq_append_getElem H;have s:vs.take (b+1)=vs.take b++[vs[b]]:=List.take_succ_eq_append_getElem I;have d:us[b]≠vs[b]->us≠vs:=fun h e=>by subst e;exact h rfl
 obtain⟨m,M⟩:=zE (us[b]);obtain⟨o,N⟩:=zE (vs[b]);rw [M] at D r d;rw [N] at E s d;clear M N;by_cases q:m=o
 ·subst q;have P:Hid (us.take (b+1)=vs.take (b+1)):=Zh (by rw [r,s,y.out]);clear r s d;go_wp2
  go_quiet (fail)
  go_wp2;exact⟨⟨b+1,by omega,tz,rfl,P.out,f.drewN _⟩,nz⟩
 ·have t:=Zh (decide_eq_false (d q));have a3:(m != o)=true:=by simpa using q
  have a4:(m == o)=false:=by simpa using q
  clear r s d;go_wp2
  go_quiet (fail)
  go_wp2;go_ret;exact⟨by rw [t.out];rfl,f.drewN _⟩
def Xb(xs:List Bool)(b:Bool):Bool:=xs.contains b
theorem Pc{xs:List Bool}{k:Nat}(h:k<xs.length)(b:Bool):Xb (xs.take (k+1)) b=(Xb (xs.take k) b || b == xs[k]):=by
 unfold Xb;rw [List.take_succ_eq_append_getElem h,List.contains_append];cases b <;> cases xs[k] <;> simp
theorem Q69{w:World}{ao:Option Addr}{N cap:Nat}{xs:List Bool}(k:Rd w (.slice ao N cap) N 1 (boV xs)) (o:xs.length=N) (b:Bool) :
  Calls Tryz.prog 102 #[.slice ao N cap,.bool b] w fun e w'=>∃ z:Int,e=.returned (.int .i64 z)/\decide (0<=z)=Xb xs b/\w'=w:=by
 have E:=k.2.1;unfold maxLen at E;have y:=Zh k;have m:=Zh o;clear k o;go_enter Tryz.func102,Tryz.ntmps102;go_wp2
 refine wp_loop (fun a n=>∃(c:Nat),c<=N/\a.defers=[]/\gS a [0,1,7,8]=(19,[.slice ao N cap,.bool b,.int .i64 N,.int .i64 c])/\Xb (xs.take c) b=false/\n=w)
  (fun a _=>N - (intOf (a.tmps.getD 8 undef)).toNat) ?_ ?_
 ·exact⟨0,by omega,rfl,rfl,by simp [Xb],rfl⟩
 rintro⟨M,_⟩ n ⟨c,K,D,u,p,rfl⟩;subst D;obtain⟨O,rfl⟩:=Qc u;clear u;have l:=Zh p;clear p;by_cases r:c<N
 ·have C:(c:Int)<(N:Int):=by omega
  have H:(0:Int)<=(c:Int):=by omega
  have j:c<xs.length:=by rw [m.out];exact r
  obtain⟨G,L,F,t,J,i⟩:=Z7 y.out r;simp only [zV,true_and] at t;obtain⟨rfl,rfl⟩:=t;rw [Mo xs j] at i;by_cases d:b=xs[c]
  ·have f:Xb xs b=true:=by unfold Xb;rw [List.contains_iff_mem,d];exact List.getElem_mem j
   have g:=Zh f;rw [<-d] at i;clear d f;have I:(b == b)=true:=by simp
   go_wp2;go_ret;exact⟨_,rfl,by rw [g.out];simp,rfl⟩
  ·have q:(b == xs[c])=false:=by simpa using d
   have s:Xb (xs.take (c+1)) b=false:=by rw [Pc j,l.out,q];rfl
   have A:=Zh s;obtain⟨x,v⟩:=zE (xs[c]);rw [v] at q i;clear d s v;go_wp2;exact⟨⟨c+1,by omega,tz,rfl,A.out,by first | trivial | rfl⟩,nz⟩
 ·obtain rfl:c=N:=by omega
  have C:¬ (c:Int)<(c:Int):=by omega
  have f:Xb xs b=false:=by
   have B:=l.out
   rwa [List.take_of_length_le (by rw [m.out];exact Nat.le_refl _)] at B
  have g:=Zh f;clear f;go_wp2;go_ret;exact⟨_,rfl,by rw [g.out];decide,rfl⟩
theorem N5{w:World}{ao:Option Addr}{N cap:Nat}{xs:List Bool}(d:Rd w (.slice ao N cap) N 1 (boV xs)) (c:xs.length=N) (b:Bool) :
  Calls Tryz.prog 56 #[.slice ao N cap,.bool b] w fun e w'=>e=.returned (.bool (Xb xs b))/\w'=w:=by
 have a:=Zh (Q69 d c (cap:=cap) b);clear d c;go_enter Tryz.func56,Tryz.ntmps56;go_wp2_with fail;refine a.out.mono ?_;rintro e i ⟨j,rfl,f,rfl⟩;have g:=Zh f;clear a f;go_wp2;go_ret;exact⟨by rw [<-g.out];rfl,rfl⟩
theorem Sh:(Tryz.prog.info? 4).map (fun i=>(i.zero,i.size,i.bytes))=some (some (.bool false),1,1):=by kernel_rfl
def Wn(BS:List Bool)(N k:Nat):List Value:=(List.range N).map fun i=>Value.bool (if i<k then BS.getD i false else false)
theorem Q5d(BS:List Bool)(N:Nat):Wn BS N 0=List.replicate N (.bool false):=by
 unfold Wn;apply List.ext_getElem
 ·simp
 ·intro c a b;simp
theorem Q9u{BS:List Bool}{N:Nat}(h:BS.length=N):Wn BS N N=boV BS:=by
 unfold Wn boV;apply List.ext_getElem
 ·simp [h]
 ·intro a b e;have c:a<N:=by simpa using b
  have d:a<BS.length:=by omega
  simp [c,d]
theorem Q7a{BS:List Bool}{N k:Nat}(_:k<N):(Wn BS N k).set k (.bool (BS.getD k false))=Wn BS N (k+1):=by
 unfold Wn;apply List.ext_getElem
 ·simp
 ·intro a e d;have f:a<N:=by simpa using d
  rw [List.getElem_set];by_cases b:k=a
  ·subst b;simp
  ·rw [if_neg b];simp only [List.getElem_map,List.getElem_range]
   congr 1
   by_cases c:a<k
   ·rw [if_pos c,if_pos oz]
   ·rw [if_neg c,if_neg oz]
theorem Q9r{BS:List Bool}{N k i:Nat}(hi:i<N):∃ x,(Wn BS N k)[i]?=some (.bool x):=⟨_,by unfold Wn;rw [List.getElem?_map,List.getElem?_range hi];rfl⟩
theorem Nl(w:World):Qt w (.slice none 0 0) []:=⟨⟨by simp,by simp [maxLen],none,0,rfl,fun h=>by simp at h⟩,fun p hp=>by cases hp⟩
theorem Wv{w:World}{d:Option Addr}{m pc:Nat}{fr:Fb}(j:Kx w (.slice d m pc) fr) (_:fr.length=m) {k:Nat} (i:k<fr.length) :
  ∃ g off fo fc qo qc,d=some ⟨g,off,none⟩/\w.cell? ⟨g,off+k*2,none⟩=some (.slice fo fr[k].1.1.length fc)/\w.cell? ⟨g,off+k*2+1,none⟩=some (.slice qo fr[k].1.2.length qc) /\
   Q4 w (.slice fo fr[k].1.1.length fc) fr[k].1.1/\Q4 w (.slice qo fr[k].1.2.length qc) fr[k].1.2:=by
 obtain⟨g,off,q,a,b,⟨s,t,f,l,o⟩,_⟩:=Df.at j i;obtain⟨a,r⟩:=a zd;simp only [zV] at a;obtain⟨rfl,_,rfl⟩:=a;rw [f] at b;obtain⟨fo,fc,rfl,n,_⟩:=l;obtain⟨qo,qc,rfl,p,_⟩:=o;have c:=b 0 _ rfl;have e:=b 1 _ rfl;rw [Nat.add_zero] at c;exact⟨g,off,fo,fc,qo,qc,rfl,c,e,n,p⟩
theorem Rl{w:World}{ps:Qr}{lo:Option Addr}{n lc:Nat}{fr:Fb}{c7:Option Addr}{m pc:Nat}{d f:Nat}(k0:Qt w (.slice lo n lc) ps) (k4:ps.length=n) (k6:Kx w (.slice c7 m pc) fr) (f8:fr.length=m) (k8:Qh (d,f)) (f1:Tab w) :
  Calls Tryz.prog 40 #[.slice lo n lc,.slice c7 m pc,.agg #[.int .u32 (d:Int),.int .u32 (f:Int)]] w fun e w'=>∃ vo vc,e=.returned (.tuple #[.slice vo (Jo (ps.map (·.1)) (fr.map (·.1)) (d,f)).length vc,.int .i64 (Yf (ps.map (·.1)) (fr.map (·.1)) (d,f))])/\w'.ownsRow w.heap.size 4 1 (.slice vo (Jo (ps.map (·.1)) (fr.map (·.1)) (d,f)).length vc) (Jo (ps.map (·.1)) (fr.map (·.1)) (d,f)).length (boV (Jo (ps.map (·.1)) (fr.map (·.1)) (d,f)))/\Ext w w':=by
 have o4:=k6.1.2.1;rw [f8] at o4;unfold maxLen at o4;obtain⟨c,e9⟩:=zE (fr.map (·.1));have b8:c.length=m:=by rw [<-e9,List.length_map];exact f8
 have n7:∀ k (h:k<fr.length) (B:k<c.length),c[k]=fr[k].1:=fun k h B=>by subst e9;exact List.getElem_map _
 obtain⟨g,i6⟩:=zE (ps.map (·.1));rw [e9,i6];have K:=fun(o:World) (p:Ext w o)=>Dg (k0.ext p) k4 (f1.keep p id) (lc:=lc);have B:=fun(o:World)=>Xo k8 o;have Y:=fun(o:World) (p:Ext w o) {p0:Option Addr} {o9:Nat} {l:Wd} (c6:Q4 o (.slice p0 l.length o9) l)=>M5 (k0.ext p) k4 c6 rfl (f1.keep p id) (lc:=lc);have a9:=fun(o:World) (p:Ext w o) {A:Option Addr} {fn z:Nat} {H:Option Addr} {qn G:Nat} {l v:Wd} (Q:Q4 o (.slice A fn z) l) (t:Q4 o (.slice H qn G) v)=>Mn (Nl o) rfl Q t (f1.keep p id);simp only [List.map_nil] at a9;simp only [i6] at K Y;have k7:Z4 g≠0->Yf g c (d,f)=Z4 g:=fun h=>by unfold Yf;rw [if_neg h]
 have f9:Z4 g=0->256<c.length->Yf g c (d,f)=12:=fun h B=>by unfold Yf;rw [if_pos h,if_pos B]
 have a2:Z4 g=0->¬ 256<c.length->Z2 (Jz c)≠0->Yf g c (d,f)=Z2 (Jz c):=fun h B Y=>by unfold Yf;rw [if_pos h,if_neg B,if_neg Y]
 have N:Z4 g=0->¬ 256<c.length->Z2 (Jz c)=0->okS (d,f)=false->Yf g c (d,f)=14:=fun h B Y a9=>by unfold Yf;rw [if_pos h,if_neg B,if_pos Y,a9];rfl
 have F:Z4 g=0->¬ 256<c.length->Z2 (Jz c)=0->okS (d,f)=true->Yf g c (d,f)=Z2 (W2 g c (d,f)):=fun h B Y a9=>by unfold Yf;rw [if_pos h,if_neg B,if_pos Y,a9];rfl
 have b9:Yf g c (d,f)≠0->Jo g c (d,f)=[]:=Q4t;have f2:Yf g c (d,f)=0->Jo g c (d,f)=frB g c (d,f):=Q4m;have j5:=fun(k:Nat) (j9:k<c.length) (h:Z2 (Jz c)=0)=>Tw h j9;have j6:∀ k (h:k<c.length),(Jz c)[k]?=some (Qs [] c[k].1 c[k].2):=fun k h=>by unfold Jz;rw [List.getElem?_map,List.getElem?_eq_getElem h];rfl
 have j8:∀ k (h:k<c.length),(W2 g c (d,f))[k]?=some (Ye g (Qf c[k].1 c[k].2 (d,f))):=fun k h=>by unfold W2;rw [List.getElem?_map,List.getElem?_eq_getElem h];rfl
 have j7:∀ k (h:k<c.length),(frB g c (d,f)).getD k false=!decide (Qf c[k].1 c[k].2 (d,f)=Yj g (Qf c[k].1 c[k].2 (d,f))):=fun k h=>by rw [List.getD_eq_getElem?_getD];unfold frB;simp [h]
 have k1:(Jz c).length=m:=by simp [Jz,b8]
 have k3:(W2 g c (d,f)).length=m:=by simp [W2,b8]
 have k2:(frB g c (d,f)).length=m:=by simp [frB,b8]
 obtain⟨l3,i3⟩:=zE (Jz c);obtain⟨l4,i4⟩:=zE (W2 g c (d,f));obtain⟨BS,g9⟩:=zE (frB g c (d,f));obtain⟨r9,i8⟩:=zE (Yf g c (d,f));obtain⟨r8,o2⟩:=zE (Jo g c (d,f));obtain⟨l2,r⟩:=zE (Z4 g);obtain⟨q6,i7⟩:=zE (okS (d,f));rw [i8,o2] at b9 f2 ⊢;rw [g9] at f2;simp only [r] at K;simp only [i7] at B;rw [i8,r] at k7 f9 a2 N F;rw [i3] at a2 N F;rw [i7] at N F;rw [i4] at F;rw [b8] at f9 a2 N F;simp only [i3] at j5 j6 k1;simp only [i4] at j8 k3;simp only [g9] at j7 k2;obtain⟨m2,e3,m1,m0,q3,l6,l7,p6⟩:=Zh8 k6 f8 b8 n7 k8 K B Y;obtain⟨p7,m9,n0,n1,d2,d3,c8,p1⟩:=Zh8 a9 k7 f9 a2 N F b9 f2;obtain⟨q1,p3,p5,p4,m7,m8,g4⟩:=Zh7 j5 j6 j8 j7 k1 k3 k2;clear k0 k4 k6 f8 k8 f1 e9 b8 n7 K B Y a9 k7 f9 a2 N F b9 f2 j5 j6 j8 j7 k1 k3 k2 i3 i4 g9 i8 o2 r i7 i6;have i2:Ext w (w.alloc (.cells #[.int .u32 (d:Int),.int .u32 (f:Int)] 26)):=(Q0.refl _ w).alloc _;have e2:(w.alloc (.cells #[.int .u32 (d:Int),.int .u32 (f:Int)] 26)).heap[w.heap.size]?=some (.cells #[.int .u32 (d:Int),.int .u32 (f:Int)] 26 (0,0)):=Q3 rfl;obtain⟨o,j0⟩:=zE (w.alloc (.cells #[.int .u32 (d:Int),.int .u32 (f:Int)] 26));obtain⟨y,j1⟩:=zE w.heap.size;rw [j0] at i2 e2;rw [j1] at e2;obtain⟨e5,d0,g1⟩:=Zh3 j1 j0 i2;clear j0 j1 i2;go_enter Tryz.func40,Tryz.ntmps40;go_upto_region 1 with (fail)
 rw [d0.out,e5.out];clear d0;have I:o.cell? ⟨y,0,none⟩=some (.int .u32 (d:Int)):=by rw [cell_of_row _ _ _ _ _ _ e2];rfl
 have O:o.cell? ⟨y,1,none⟩=some (.int .u32 (f:Int)):=by rw [cell_of_row _ _ _ _ _ _ e2];rfl
 clear e2;go_wp2_with fail;refine(l6.out o g1.out).mono ?_;rintro e r7 ⟨rfl,Z⟩;have a3:=Z.cell_some I id;have a4:=Z.cell_some O id;have V:=Zh (g1.out.trans Z);clear l6 Z I O g1;by_cases u:l2=0;case neg=>
  have c4:(l2 != 0)=true:=by simpa using u
  have C:=m9.out u;subst C;have P:=c8.out u;subst P;go_wp2;refine bodyPost_ret (Qa rfl _ _ _) rfl ⟨_,_,rfl,World.ownsRow_nil _ _ _ _,V.out⟩
 subst u;by_cases f3:256<m
 ·have K:(m:Int) > 256:=by omega
  have C:=n0.out uz f3;subst C;have P:=c8.out zd;subst P;go_wp2;refine bodyPost_ret (Qa rfl _ _ _) rfl ⟨_,_,rfl,World.ownsRow_nil _ _ _ _,V.out⟩
 have K:¬ (m:Int) > 256:=by omega
 have a2:=n1.out uz f3;have N:=d2.out uz f3;have F:=d3.out uz f3;obtain⟨n2,n3,n4⟩:=Zh3 a2 N F;clear m9 n0 n1 d2 d3 a2 N F;go_wp2;clear K
 refine wp_loop (fun a j=>∃(k:Nat),k<=m/\a.defers=[]/\gS a [0,1,5,26,27,28]=(78,[.slice lo n lc,.slice c7 m pc,.pointer (some ⟨y,0,none⟩),.slice c7 m pc,.int .i64 m,.int .i64 k])/\Z2 (l3.take k)=0/\Ext r7 j)
  (fun a _=>m - (intOf (a.tmps.getD 28 undef)).toNat) ?_ ?_
 ·exact⟨0,by omega,rfl,rfl,rfl,Q0.refl _ _⟩
 rintro⟨r6,_⟩ j ⟨k,j9,j4,e0,x,p⟩;subst j4;obtain⟨l,rfl⟩:=Qc e0;clear e0;have W:=Zh x;have R:=p.cell_some a3 id;have S:=p.cell_some a4 id;have J:=Zh (V.out.trans p);have m5:=Zh p;clear x p a3 a4 V;by_cases f7:k<m;case pos=>
  have K:(k:Int)<(m:Int):=by omega
  have q9:(0:Int)<=(k:Int):=by omega
  have b4:k<fr.length:=by rw [e3.out];exact f7
  have a0:k<c.length:=by rw [m1.out];exact f7
  have f5:k<l3.length:=by rw [m7.out];exact f7
  obtain⟨g8,r5,A,z,H,G,rfl,a7,a8,Q,t⟩:=Wv (U5 m2.out J.out) e3.out b4;have d7:=m0.out k b4 a0;have c0:=p3.out k a0;rw [List.getElem?_eq_getElem f5,Option.some.injEq] at c0;have b3:=Vv f5 W.out;have M:=Vy f5 W.out;rw [d7] at c0;obtain⟨⟨l,v⟩,e1⟩:=zE (fr[k].1);rw [e1] at a7 a8 Q t c0;dsimp only at a7 a8 Q t c0;rw [c0] at b3 M;have b7:=Zh b3;have b6:=Zh M;obtain⟨s,b0⟩:=zE j.heap.size;have a1:(j.alloc (.cells #[.slice A l.length z,.slice H v.length G] 63)).heap[s]?=some (.cells #[.slice A l.length z,.slice H v.length G] 63 (0,0)):=Q3 b0.symm;have r:Ext j (j.alloc (.cells #[.slice A l.length z,.slice H v.length G] 63)):=(Q0.refl _ j).alloc _;have b2:=p7.out _ (J.out.trans r) (Q.ext r) (t.ext r);obtain⟨l5,i5⟩:=zE (Qs [] l v);rw [i5] at b2;obtain⟨p8,U,a6,a5⟩:=Zh4 i5 b0 b2 r;clear b2 r c0 b3 M d7 e1 Q t i5 R S b4 a0 f5;go_upto_region 9 with (fail)
  obtain⟨X,d6⟩:=zE (j.alloc (.cells #[.slice A l.length z,.slice H v.length G] 63));rw [d6] at a1 a5 a6 ⊢;try rw [U.out]
  have g7:X.cell? ⟨s,0,none⟩=some (.slice A l.length z):=by rw [cell_of_row X s 0 _ _ _ a1];rfl
  have c1:X.cell? ⟨s,1,none⟩=some (.slice H v.length G):=by rw [cell_of_row X s 1 _ _ _ a1];rfl
  clear a1 d6 b0 U a7 a8;go_wp2_with fail;refine a6.out.mono ?_;rintro e n5 ⟨rfl,b1⟩;have b5:=Zh (a5.out.trans b1);clear b1 a5 a6 g7 c1;rw [p8.out] at b7 b6;by_cases u:l5=0;case neg=>
   have c4:(l5 != 0)=true:=by simpa using u
   have M:=b6.out u;have C:=n2.out (by rw [M];exact u);rw [M] at C;clear M;subst C;have P:=c8.out u;subst P;go_wp2;refine bodyPost_ret (Qa rfl _ _ _) rfl ⟨_,_,rfl,World.ownsRow_nil _ _ _ _,J.out.trans b5.out⟩
  subst u;go_wp2;exact⟨⟨k+1,by omega,by first | trivial | rfl,rfl,b7.out,m5.out.trans b5.out⟩,nz⟩
 obtain rfl:k=m:=by omega
 have K:¬ (k:Int)<(k:Int):=by omega
 have x:=W.out;rw [List.take_of_length_le (by rw [m7.out];exact Nat.le_refl _)] at x;have q0:=Zh x;have N:=n3.out x;have F:=n4.out x;have d2:=Zh N;have d3:=Zh F;clear N F n2 n3 n4 x W;have t:=l7.out j;unfold sV at t;have d0:=Zh t;clear t l7;go_wp2_with fail;refine d0.out.mono ?_;rintro e g6 ⟨rfl,Z⟩;have I:=Z.cell_some R id;have O:=Z.cell_some S id;have V:=Zh (J.out.trans Z);clear d0 Z R S J m5;cases q6 with
 | false=>
  have C:=d2.out uz;subst C;have P:=c8.out zd;subst P;go_wp2;refine bodyPost_ret (Qa rfl _ _ _) rfl ⟨_,_,rfl,World.ownsRow_nil _ _ _ _,V.out⟩
 | true=>
 have C:=d3.out uz;have m4:=Zh C;clear C d2 d3;have j3:y<=g6.heap.size:=by have:=V.out.size;rw [e5.out] at this;exact this
 go_wp2_with (at_make;refine Yw rfl (.tmp 45) (.tmp 45) 65 rfl y 4 _ 1 Tryz.underlying65 Sh rfl .i64 .i64 k k k rfl rfl rfl rfl ?c1 ?c2 j3 ?_)
 case c1=>omega
 case c2=>unfold maxLen;omega
 intro s6 f0 e7;obtain⟨m,r3⟩:=zE k;subst r3;rw [<-Q5d BS k] at f0;obtain⟨T,n8⟩:=zE g6.heap.size;have a3:=e7.cell_some I id;have a4:=e7.cell_some O id;have j2:y<g6.heap.size:=by obtain⟨s5,g0,_⟩:=Dl I;exact(Array.getElem?_eq_some_iff.1 g0).1
 rw [n8] at f0 j3 j2 ⊢;obtain⟨m3,l9,q5⟩:=Zh3 f0 (V.out.trans e7) j2;clear j2 f0 e7 n8 I O V j3 K f7 j9;go_wp2
 refine wp_loop (fun a j=>∃(i:Nat),i<=k/\a.defers=[]/\gS a [0,1,5,12,47,48,49]=(78,[.slice lo n lc,.slice c7 k pc,.pointer (some ⟨y,0,none⟩),.slice (some ⟨T,0,none⟩) k k,.slice c7 k pc,.int .i64 k,.int .i64 i])/\j.ownsRow y 4 1 (.slice (some ⟨T,0,none⟩) k k) k (Wn BS k i)/\Z2 (l4.take i)=0/\j.cell? ⟨y,0,none⟩=some (.int .u32 (d:Int))/\j.cell? ⟨y,1,none⟩=some (.int .u32 (f:Int))/\Ext w j)
  (fun a _=>k - (intOf (a.tmps.getD 49 undef)).toNat) ?_ ?_
 ·exact⟨0,by omega,rfl,rfl,m3.out,rfl,a3,a4,l9.out⟩
 clear m3 l9 a3 a4;rintro⟨r6,_⟩ j ⟨i,s4,j4,e0,o0,x,I,O,p⟩;subst j4;obtain⟨l,rfl⟩:=Qc e0;clear e0;obtain⟨e4,W,J⟩:=Zh3 o0 x p;clear o0 x p;by_cases d9:i<k;case neg=>
  obtain rfl:i=k:=by omega
  have K:¬ (i:Int)<(i:Int):=by omega
  have x:=W.out;rw [List.take_of_length_le (by rw [m8.out];exact Nat.le_refl _),<-m4.out] at x;subst x;have P:=p1.out uz;subst P;have k5:=e4.out;rw [Q9u g4.out] at k5;have q2:=Zh k5;clear k5 e4 I O;go_wp2;refine bodyPost_ret (Qa rfl _ _ _) rfl ⟨some ⟨T,0,none⟩,i,by rw [g4.out];rfl,by rw [g4.out,e5.out];exact q2.out,J.out⟩
 have K:(i:Int)<(k:Int):=by omega
 have q9:(0:Int)<=(i:Int):=by omega
 have b4:i<fr.length:=by rw [e3.out];exact d9
 have a0:i<c.length:=by rw [m1.out];exact d9
 have f6:i<l4.length:=by rw [m8.out];exact d9
 obtain⟨g8,r5,A,z,H,G,rfl,a7,a8,Q,t⟩:=Wv (U5 m2.out J.out) e3.out b4;have d7:=m0.out i b4 a0;have c3:=p5.out i a0;rw [List.getElem?_eq_getElem f6,Option.some.injEq] at c3;have d8:=p4.out i a0;have c5:=q1.out i a0 q0.out;have b3:=Vv f6 W.out;have M:=Vy f6 W.out;rw [d7] at c3 d8 c5;obtain⟨⟨l,v⟩,e1⟩:=zE (fr[i].1);rw [e1] at a7 a8 Q t c3 d8 c5;dsimp only at a7 a8 Q t c3 d8 c5;rw [c3] at b3 M;rw [<-m4.out] at M;have r1:=Jy c5.1;have r2:=Jy c5.2;obtain⟨b7,b6,c9⟩:=Zh3 b3 M d8;obtain⟨s,b0⟩:=zE j.heap.size;have a1:(j.alloc (.cells #[.slice A l.length z,.slice H v.length G] 63)).heap[s]?=some (.cells #[.slice A l.length z,.slice H v.length G] 63 (0,0)):=Q3 b0.symm;have r:Ext j (j.alloc (.cells #[.slice A l.length z,.slice H v.length G] 63)):=(Q0.refl _ j).alloc _;have b2:=Do (Q.ext r) (t.ext r) q3.out oz;unfold sV at b2;have R:=r.cell_some I id;have S:=r.cell_some O id;obtain⟨U,a6,a5⟩:=Zh3 b0 b2 r;clear b2 r c3 d8 b3 M d7 e1 Q t I O b4 a0 f6 c5 r1 r2;go_upto_region 19 with (fail)
 obtain⟨X,d6⟩:=zE (j.alloc (.cells #[.slice A l.length z,.slice H v.length G] 63));rw [d6] at a1 a5 a6 R S ⊢;try rw [U.out]
 have g7:X.cell? ⟨s,0,none⟩=some (.slice A l.length z):=by rw [cell_of_row X s 0 _ _ _ a1];rfl
 have c1:X.cell? ⟨s,1,none⟩=some (.slice H v.length G):=by rw [cell_of_row X s 1 _ _ _ a1];rfl
 clear a1 d6 b0 U a7 a8;go_wp2_with fail;refine a6.out.mono ?_;rintro e n5 ⟨p0,o9,rfl,o6,b1⟩;obtain⟨_,_,r4,c6⟩:=Jh o6;cases r4;have I:=b1.cell_some R id;have O:=b1.cell_some S id;have b5:=Zh (a5.out.trans b1);have f4:=p6.out n5 (J.out.trans b5.out) c6;obtain⟨d1,n9⟩:=zE (Qf l v (d,f));rw [n9] at f4 c6 b7 b6 c9 ⊢;obtain⟨l1,i0⟩:=zE (Ye g d1);obtain⟨p2,i1⟩:=zE (Yj g d1);rw [i0,i1] at f4;rw [i0] at b7 b6;rw [i1] at c9;have m6:=Zh c6;have l8:=Zh f4;clear f4 c6 o6 b1 i0 i1 a6 a5 R S g7 c1 n9;go_wp2_with fail;refine l8.out.mono ?_;rintro e s0 ⟨s2,rfl,o5,d4⟩;obtain⟨vo,vc,rfl,o7⟩:=Jh o5;have a3:=d4.cell_some I id;have a4:=d4.cell_some O id;have g2:=Zh (b5.out.trans d4);have o3:=eqW (m6.out.ext d4) o7;have U:=Zh o3;clear l8 o5 d4 b5 o7 o3 m6 I O;by_cases u:l1=0;case neg=>
  have c4:(l1 != 0)=true:=by simpa using u
  have C:=b6.out u;subst C;have P:=c8.out u;subst P;go_wp2;refine bodyPost_ret (Qa rfl _ _ _) rfl ⟨_,_,rfl,World.ownsRow_nil _ _ _ _,J.out.trans g2.out⟩
 subst u;obtain⟨g5,o1⟩:=zE (decide (d1=p2));rw [o1] at U c9;clear o1;go_wp2_with fail;refine U.out.mono ?_;rintro e e6 ⟨rfl,e8⟩;have R:=e8.cell_some a3 id;have S:=e8.cell_some a4 id;have g3:=Zh (g2.out.trans e8);clear U e8 g2 a3 a4;have d5:=Q6 e4.out g3.out;obtain⟨s1,b9⟩:=Q9r (BS:=BS) (k:=i) d9;have r0:=d5.cellAt i oz;rw [b9] at r0;have s3:=d5.frozenAt i;have l0:=Ym d5 i (.bool (!g5));have k9:=Q7a (BS:=BS) d9;rw [c9.out] at k9;rw [k9] at l0;have n6:Ext w (e6.setCell ⟨T,i,none⟩ (.bool (!g5))):=(J.out.trans g3.out).setCell (.inl (by rw [e5.out];exact(d5.lt T rfl).1)) _;have i9:Q0 (fun b=>b=T) e6 (e6.setCell ⟨T,i,none⟩ (.bool (!g5))):=by
  refine(Q0.refl (fun b=>b=T) e6).setCell ?_ _;exact .inr rfl
 have c4:¬ y=T:=by have:=q5.out;omega
 have o8:=i9.cell_some R c4;have g0:=i9.cell_some S c4;obtain⟨q4,p9,q7,q8⟩:=Zh4 l0 n6 o8 g0;clear l0 n6 k9 b9 d5 e4 J g3 W i9 c4 o8 g0 R S c9;go_wp2;exact⟨⟨i+1,by omega,by first | trivial | rfl,rfl,q4.out,b7.out,q7.out,q8.out,p9.out⟩,nz⟩
theorem Qb6(W:World)(b:Bool):Rd (W.alloc (.cells #[.bool b] 4)) (.slice (some ⟨W.heap.size,0,none⟩) 1 1) 1 1 [.bool b]:=by
 refine⟨by simp,by unfold maxLen;simp,_,_,rfl,fun _=>⟨_,_,rfl,(Array.getElem?_eq_some_iff.1 (Q3 rfl)).1,fun j hj=>?_⟩⟩;have a:j=0:=by omega
 subst a;rw [cell_of_row _ _ _ _ _ _ (Q3 rfl)];rfl
theorem No{w:World}{ps:Qr}{lo:Option Addr}{n lc:Nat}{fr:Fb}{g2:Option Addr}{m pc:Nat}{l o:Nat}(k5:Qt w (.slice lo n lc) ps) (k9:ps.length=n) (l1:Kx w (.slice g2 m pc) fr) (f9:fr.length=m) (g1:Qh (l,o)) :
  Calls Tryz.prog 41 #[.slice lo n lc,.slice g2 m pc,.agg #[.int .u32 (l:Int),.int .u32 (o:Int)]] w fun e w'=>∃ vo vc,e=.returned (.tuple #[.slice vo (Jo (ps.map (·.1)) (fr.map (·.1)) (l,o)).length vc,.int .i64 (Yf (ps.map (·.1)) (fr.map (·.1)) (l,o))])/\w'.ownsRow w.heap.size 4 1 (.slice vo (Jo (ps.map (·.1)) (fr.map (·.1)) (l,o)).length vc) (Jo (ps.map (·.1)) (fr.map (·.1)) (l,o)).length (boV (Jo (ps.map (·.1)) (fr.map (·.1)) (l,o)))/\Ext w w':=by
 have p2:=l1.1.2.1;rw [f9] at p2;unfold maxLen at p2;obtain⟨f,e6⟩:=zE (fr.map (·.1));have b3:f.length=m:=by rw [<-e6,List.length_map];exact f9
 have o1:∀ c (h:c<fr.length) (A:c<f.length),f[c]=fr[c].1:=fun c h A=>by subst e6;exact List.getElem_map _
 obtain⟨s,j1⟩:=zE (ps.map (·.1));rw [e6,j1];have F:=fun(j:World) (P:Ext w j)=>Lh (k5.ext P) k9 (lc:=lc);have A:=fun(j:World)=>Vo g1 j;have Z:=fun(j:World) (P:Ext w j) {c9:Option Addr} {fn c8:Nat} {d7:Option Addr} {qn d6:Nat} {V v:Wd} (z:Q4 j (.slice c9 fn c8) V) (u:Q4 j (.slice d7 qn d6) v)=>W1 (k5.ext P) k9 z u g1 (lc:=lc);have a6:=fun(j:World) (P:Ext w j) {c9:Option Addr} {fn c8:Nat} {d7:Option Addr} {qn d6:Nat} {V v:Wd} (z:Q4 j (.slice c9 fn c8) V) (u:Q4 j (.slice d7 qn d6) v)=>Mf (Nl j) rfl z u;simp only [List.map_nil] at a6;simp only [j1] at F Z;have l2:Z4 s≠0->Yf s f (l,o)=Z4 s:=fun h=>by unfold Yf;rw [if_neg h]
 have g0:Z4 s=0->256<f.length->Yf s f (l,o)=12:=fun h A=>by unfold Yf;rw [if_pos h,if_pos A]
 have a2:Z4 s=0->¬ 256<f.length->Z2 (Jz f)≠0->Yf s f (l,o)=Z2 (Jz f):=fun h A Z=>by unfold Yf;rw [if_pos h,if_neg A,if_neg Z]
 have J:Z4 s=0->¬ 256<f.length->Z2 (Jz f)=0->okS (l,o)=false->Yf s f (l,o)=14:=fun h A Z a6=>by unfold Yf;rw [if_pos h,if_neg A,if_pos Z,a6];rfl
 have I:Z4 s=0->¬ 256<f.length->Z2 (Jz f)=0->okS (l,o)=true->Yf s f (l,o)=Z2 (W2 s f (l,o)):=fun h A Z a6=>by unfold Yf;rw [if_pos h,if_neg A,if_pos Z,a6];rfl
 have j8:Yf s f (l,o)≠0->Jo s f (l,o)=[]:=Q4t;have f2:Yf s f (l,o)=0->Jo s f (l,o)=frB s f (l,o):=Q4m;have k0:=fun(c:Nat) (d1:c<f.length) (h:Z2 (Jz f)=0)=>Tw h d1;have U:=fun(c:Nat) (d1:c<f.length) (h:Z2 (Jz f)=0) (F:Z4 s=0) (A:okS (l,o)=true)=>Qce (p:=f[c]) F (Tw h d1) A;have k1:∀ c (h:c<f.length),(Jz f)[c]?=some (Qs [] f[c].1 f[c].2):=fun c h=>by unfold Jz;rw [List.getElem?_map,List.getElem?_eq_getElem h];rfl
 have k3:∀ c (h:c<f.length),(W2 s f (l,o))[c]?=some (Ye s (Qf f[c].1 f[c].2 (l,o))):=fun c h=>by unfold W2;rw [List.getElem?_map,List.getElem?_eq_getElem h];rfl
 have k2:∀ c (h:c<f.length),(frB s f (l,o)).getD c false=!decide (Qf f[c].1 f[c].2 (l,o)=Yj s (Qf f[c].1 f[c].2 (l,o))):=fun c h=>by rw [List.getD_eq_getElem?_getD];unfold frB;simp [h]
 have k6:(Jz f).length=m:=by simp [Jz,b3]
 have k8:(W2 s f (l,o)).length=m:=by simp [W2,b3]
 have k7:(frB s f (l,o)).length=m:=by simp [frB,b3]
 obtain⟨l6,e5⟩:=zE (Jz f);obtain⟨l7,i8⟩:=zE (W2 s f (l,o));obtain⟨b9,i2⟩:=zE (frB s f (l,o));obtain⟨t5,j3⟩:=zE (Yf s f (l,o));obtain⟨t4,o5⟩:=zE (Jo s f (l,o));obtain⟨l5,e4⟩:=zE (Z4 s);obtain⟨r7,e8⟩:=zE (okS (l,o));rw [j3,o5] at j8 f2 ⊢;rw [i2] at f2;simp only [e4] at F;simp only [e8] at A;rw [j3,e4] at l2 g0 a2 J I;rw [e5] at a2 J I;rw [e8] at J I;rw [i8] at I;rw [b3] at g0 a2 J I;simp only [e5] at k0 k1 k6;simp only [i8] at k3 k8;simp only [i2] at k2 k7;simp only [e5,e4,e8] at U;have r4:=Zh U;clear U;obtain⟨r0,d8,m4,m3,r5,l9,m0,q3⟩:=Zh8 l1 f9 b3 o1 g1 F A Z;obtain⟨q4,n2,n3,n4,c6,c7,b8,p9⟩:=Zh8 a6 l2 g0 a2 J I j8 f2;obtain⟨q8,q0,q2,q1,n0,n1,e0⟩:=Zh7 k0 k1 k3 k2 k6 k8 k7;clear k5 k9 l1 f9 g1 e6 b3 o1 F A Z a6 l2 g0 a2 J I j8 f2 k0 k1 k3 k2 k6 k8 k7 e5 i8 i2 j3 o5 e4 e8 j1;have i5:Ext w (w.alloc (.cells #[.int .u32 (l:Int),.int .u32 (o:Int)] 26)):=(Q0.refl _ w).alloc _;have d5:(w.alloc (.cells #[.int .u32 (l:Int),.int .u32 (o:Int)] 26)).heap[w.heap.size]?=some (.cells #[.int .u32 (l:Int),.int .u32 (o:Int)] 26 (0,0)):=Q3 rfl;obtain⟨j,j4⟩:=zE (w.alloc (.cells #[.int .u32 (l:Int),.int .u32 (o:Int)] 26));obtain⟨a5,j7⟩:=zE w.heap.size;rw [j4] at i5 d5;rw [j7] at d5;obtain⟨g7,c4,N⟩:=Zh3 j7 j4 i5;clear j4 j7 i5;go_enter Tryz.func41,Tryz.ntmps41;go_upto_region 1 with (fail)
 rw [c4.out,g7.out];clear c4;have p7:j.cell? ⟨a5,0,none⟩=some (.int .u32 (l:Int)):=by rw [cell_of_row _ _ _ _ _ _ d5];rfl
 have p8:j.cell? ⟨a5,1,none⟩=some (.int .u32 (o:Int)):=by rw [cell_of_row _ _ _ _ _ _ d5];rfl
 have i0:=Zh p7;have i1:=Zh p8;clear d5 p7 p8;go_wp2_with fail;refine(l9.out j N.out).mono ?_;rintro e t1 ⟨rfl,b1⟩;have b0:=Zh b1;have o0:Ext w t1:=N.out.trans b1;have g4:=Zh o0;clear l9 b1 o0;by_cases C:l5=0;case neg=>
  have p3:(l5 != 0)=true:=by simpa using C
  have H:=n2.out C;subst H;have M:=b8.out C;subst M;go_wp2;refine bodyPost_ret (Qa rfl _ _ _) rfl ⟨_,_,rfl,World.ownsRow_nil _ _ _ _,g4.out⟩
 subst C;by_cases f3:256<m
 ·have F:(m:Int) > 256:=by omega
  have H:=n3.out uz f3;subst H;have M:=b8.out zd;subst M;go_wp2;refine bodyPost_ret (Qa rfl _ _ _) rfl ⟨_,_,rfl,World.ownsRow_nil _ _ _ _,g4.out⟩
 have F:¬ (m:Int) > 256:=by omega
 have a2:=n4.out uz f3;have J:=c6.out uz f3;have I:=c7.out uz f3;obtain⟨n5,n6,n7⟩:=Zh3 a2 J I;clear n2 n3 n4 c6 c7 a2 J I g4;have p4:=U5 r0.out N.out;have m6:=Zh p4;clear p4;go_wp2;clear F
 refine wp_loop (fun a D=>∃(c:Nat),c<=m/\a.defers=[]/\gS a [0,1,5,9]=(89,[.slice lo n lc,.slice g2 m pc,.pointer (some ⟨a5,0,none⟩),.int .i64 c])/\Z2 (l6.take c)=0/\Ext j D)
  (fun a _=>m - (intOf (a.tmps.getD 9 undef)).toNat) ?_ ?_
 ·exact⟨0,by omega,rfl,rfl,rfl,b0.out⟩
 clear b0;rintro⟨t0,_⟩ D ⟨c,d1,j9,d3,G,P⟩;subst j9;obtain⟨V,rfl⟩:=Qc d3;clear d3;have a0:=Zh G;have W:=Zh P;clear G P;by_cases f8:c<m;case pos=>
  have F:(c:Int)<(m:Int):=by omega
  have s1:(0:Int)<=(c:Int):=by omega
  have a8:c<fr.length:=by rw [d8.out];exact f8
  have T:c<f.length:=by rw [m4.out];exact f8
  have f6:c<l6.length:=by rw [n0.out];exact f8
  obtain⟨s0,s8,c9,c8,d7,d6,rfl,X,Y,z,u⟩:=Wv m6.out d8.out a8;have d0:=m3.out c a8 T;have b5:=q0.out c T;rw [List.getElem?_eq_getElem f6,Option.some.injEq] at b5;have R:=Vv f6 a0.out;have B:=Vy f6 a0.out;rw [d0] at b5;obtain⟨⟨V,v⟩,d4⟩:=zE (fr[c].1);rw [d4] at X Y z u b5;dsimp only at X Y z u b5;rw [b5] at R B;have Q:=fun(k:World) (r:Ext j k)=>q4.out k (N.out.trans r) (z.ext r) (u.ext r);obtain⟨l8,i9⟩:=zE (Qs [] V v);simp only [i9] at Q;rw [i9] at R B;obtain⟨g6,g5,c5,c0,c1⟩:=Zh5 R B Q X Y;have s5:IntKind.i64.wrap ((c:Int)+1)=(c:Int)+1:=IntWalk.i64_in _ oz;clear Q b5 R B d0 d4 z u i9 a8 T f6 X Y;go_upto_region 9 with (fail)
  have g:Ext j D.drew:=(W.out).drew;refine Z8 (S:=fun k=>Ext j k) [] kz g ?_;intro _;obtain⟨n8,a1⟩:=zE D.drew;rw [a1] at g ⊢;clear a1;refine tE 0 28 g ?_;refine tE 1 29 g ?_;refine tE 2 30 g ?_;refine tE 3 31 g ?_;refine tkE (i:=4) (d:=32) (v:=?_) rfl (Or.inl ⟨by rfl,?_⟩) g ?_;rotate_left
  ·intro k r;have a9:=(show Ext j k from r).cell_some c0.out id;(try dsimp only at r);go_simp;try with_reducible rfl
  try simp only [Act.put,pq]
  refine tE 5 33 g ?_;refine tE 6 34 g ?_;refine tE 7 35 g ?_;refine tE 8 36 g ?_;refine tkE (i:=9) (d:=37) (v:=?_) rfl (Or.inl ⟨by rfl,?_⟩) g ?_;rotate_left
  ·intro k r;have a9:=(show Ext j k from r).cell_some c1.out id;(try dsimp only at r);go_simp;try with_reducible rfl
  try simp only [Act.put,pq]
  refine rE [10] ?_;refine Q2.cons rfl (fun K hK=>?_) Q2.nil;refine iw rfl ?_;go_simp;refine(c5.out _ g).mono ?_;rintro e O ⟨rfl,b2⟩;have y:Ext j O:=g.trans b2;clear b2 g;refine hK _ _ y (fun _=>?_);clear hK K;try simp only [Act.put,pq]
  refine tE 11 8 y ?_;refine Z0 kz ?_ _;have c2:=Zh y;clear y c5 c0 c1;by_cases C:l8=0;case neg=>
   have p3:(l8 != 0)=true:=by simpa using C
   have B:=g5.out C;have H:=n5.out (by rw [B];exact C);rw [B] at H;clear B;subst H;have M:=b8.out C;subst M;go_wp2;refine bodyPost_ret (Qa rfl _ _ _) rfl ⟨_,_,rfl,World.ownsRow_nil _ _ _ _,N.out.trans c2.out⟩
  subst C;go_wp2;exact⟨⟨c+1,by omega,by first | trivial | rfl,rfl,g6.out,c2.out⟩,nz⟩
 obtain rfl:c=m:=by omega
 have F:¬ (c:Int)<(c:Int):=by omega
 have G:=a0.out;rw [List.take_of_length_le (by rw [n0.out];exact Nat.le_refl _)] at G;have m2:=Zh G;have J:=n6.out G;have I:=n7.out G;have c6:=Zh J;have c7:=Zh I;clear J I n5 n6 n7 G a0;have u:=m0.out D;unfold sV at u;have c4:=Zh u;have t2:=W.out.cell_some i0.out id;have t3:=W.out.cell_some i1.out id;clear u m0;go_wp2_with fail;refine c4.out.mono ?_;rintro e t6 ⟨rfl,b1⟩;have b0:=Zh (W.out.trans b1);clear c4 b1 t2 t3 W;cases r7 with
 | false=>
  have H:=c6.out uz;subst H;have M:=b8.out zd;subst M;go_wp2;refine bodyPost_ret (Qa rfl _ _ _) rfl ⟨_,_,rfl,World.ownsRow_nil _ _ _ _,N.out.trans b0.out⟩
 | true=>
 have H:=c7.out uz;have m7:=Zh H;clear H c6 c7;obtain⟨g9,j5⟩:=zE j.heap.size;have m8:=Zh j5;have o9:a5<=g9:=by have:=N.out.size;rw [g7.out,j5] at this;exact this
 have r6:=Zh o9;clear j5 o9;go_wp2
 refine wp_loop (fun a D=>∃(t:Nat) (e2:Option Addr) (e1:Nat),t<=c/\a.defers=[]/\gS a [0,1,5,10,11]=(89,[.slice lo n lc,.slice g2 c pc,.pointer (some ⟨a5,0,none⟩),.slice e2 t e1,.int .i64 t])/\D.ownsRow g9 4 1 (.slice e2 t e1) t (boV (b9.take t))/\Z2 (l7.take t)=0/\Ext j D)
  (fun a _=>c - (intOf (a.tmps.getD 11 undef)).toNat) ?_ ?_
 ·exact⟨0,none,0,by omega,rfl,rfl,World.ownsRow_nil _ _ _ _,rfl,b0.out⟩
 clear b0 F f8 d1;rintro⟨t0,_⟩ D ⟨t,e2,e1,t8,j9,d3,o2,G,P⟩;subst j9;obtain⟨V,rfl⟩:=Qc d3;clear d3;obtain⟨d9,a0,W⟩:=Zh3 o2 G P;clear o2 G P;by_cases f5:t<c;case neg=>
  obtain rfl:t=c:=by omega
  have F:¬ (t:Int)<(t:Int):=by omega
  have G:=a0.out;rw [List.take_of_length_le (by rw [n1.out];exact Nat.le_refl _),<-m7.out] at G;subst G;have M:=p9.out uz;subst M;have l0:=d9.out;rw [List.take_of_length_le (by rw [e0.out];exact Nat.le_refl _)] at l0;have r1:=Zh (Z9 l0 r6.out);clear l0 d9;go_wp2;refine bodyPost_ret (Qa rfl _ _ _) rfl ⟨e2,e1,by rw [e0.out];rfl,by rw [e0.out,g7.out];exact r1.out,N.out.trans W.out⟩
 have F:(t:Int)<(c:Int):=by omega
 have s1:(0:Int)<=(t:Int):=by omega
 have a8:t<fr.length:=by rw [d8.out];exact f5
 have T:t<f.length:=by rw [m4.out];exact f5
 have f7:t<l7.length:=by rw [n1.out];exact f5
 have k4:t<b9.length:=by rw [e0.out];exact f5
 obtain⟨s0,s8,c9,c8,d7,d6,rfl,X,Y,z,u⟩:=Wv m6.out d8.out a8;have d0:=m3.out t a8 T;have b6:=q2.out t T;rw [List.getElem?_eq_getElem f7,Option.some.injEq] at b6;have a7:=q1.out t T;have b7:=q8.out t T m2.out;have U:=r4.out t T m2.out uz uz;have R:=Vv f7 a0.out;have B:=Vy f7 a0.out;have p0:b9.take (t+1)=b9.take t++[b9.getD t false]:=by rw [List.take_succ_eq_append_getElem k4,List.getD_eq_getElem?_getD,List.getElem?_eq_getElem k4];rfl
 rw [d0] at b6 a7 b7 U;obtain⟨⟨V,v⟩,d4⟩:=zE (fr[t].1);rw [d4] at X Y z u b6 a7 b7 U;dsimp only at X Y z u b6 a7 b7 U;rw [b6] at R B;rw [<-m7.out] at B;have s2:=Jy b7.1;have s3:=Jy b7.2;have e7:=fun(k:World) (r:Ext j k)=>Lm (z.ext r) (u.ext r) r5.out oz;have Q:=fun(k:World) (r:Ext j k)=>q3.out k (N.out.trans r) (z.ext r) (u.ext r);simp only [U.1,U.2] at Q;unfold sV at Q e7;obtain⟨a3,j0⟩:=zE (Qf V v (l,o));simp only [j0] at Q e7;rw [j0] at R B a7;obtain⟨l4,i3⟩:=zE (Ye s a3);obtain⟨g3,i4⟩:=zE (Yj s a3);simp only [i3,i4] at Q;rw [i3] at R B;rw [i4] at a7;obtain⟨g6,g5,m5,q5,c5,q9,c0,c1⟩:=Zh8 R B a7 p0 Q e7 X Y;have s5:IntKind.i64.wrap ((t:Int)+1)=(t:Int)+1:=IntWalk.i64_in _ oz;clear Q e7 b6 a7 R B d0 d4 z u a8 T f7 k4 b7 s2 s3 U p0 j0 i3 i4 X Y;go_upto_region 18 with (fail)
 have g:Ext j D.drew:=(W.out).drew;refine Z8 (S:=fun k=>Ext j k) [] kz g ?_;intro _;have b4:Ext D D.drew:=(Q0.refl _ D).drew;obtain⟨n8,a1⟩:=zE D.drew;rw [a1] at g b4 ⊢;clear a1;refine tE 0 52 g ?_;refine tE 1 53 g ?_;refine tE 2 54 g ?_;refine tE 3 55 g ?_;refine tE 4 56 g ?_;refine tkE (i:=5) (d:=57) (v:=?_) rfl (Or.inl ⟨by rfl,?_⟩) g ?_;rotate_left
 ·intro k r;have a9:=(show Ext j k from r).cell_some c0.out id;(try dsimp only at r);go_simp;try with_reducible rfl
 try simp only [Act.put,pq]
 refine tE 6 58 g ?_;refine tE 7 59 g ?_;refine tE 8 60 g ?_;refine tE 9 61 g ?_;refine tkE (i:=10) (d:=62) (v:=?_) rfl (Or.inl ⟨by rfl,?_⟩) g ?_;rotate_left
 ·intro k r;have a9:=(show Ext j k from r).cell_some c1.out id;(try dsimp only at r);go_simp;try with_reducible rfl
 try simp only [Act.put,pq]
 refine tkE (i:=11) (d:=63) (v:=?_) rfl (Or.inl ⟨by rfl,?_⟩) g ?_;rotate_left
 ·intro k r;have a9:=(show Ext j k from r).cell_some i0.out id;have s9:=(show Ext j k from r).cell_some i1.out id;(try dsimp only at r);go_simp;try with_reducible rfl
 try simp only [Act.put,pq]
 refine rE [12] ?_;refine Q2.cons rfl (fun K hK=>?_) Q2.nil;refine iw rfl ?_;go_simp;refine(c5.out _ g).mono ?_;rintro e O ⟨t7,rfl,d2,b2⟩;have m9:=Zh (b2);have y:Ext j O:=g.trans b2;clear b2;refine hK _ _ y (fun _=>?_);clear hK K;try simp only [Act.put,pq]
 refine tE 13 51 y ?_;refine tE 14 65 y ?_;refine tE 15 66 y ?_;refine tE 16 12 y ?_;refine tE 17 13 y ?_;refine Z0 kz ?_ _;have c2:=Zh y;have r2:=Zh (Q6 d9.out (b4.trans m9.out));obtain⟨vo,vc,rfl,p6⟩:=Jh d2;have q6:=Zh p6;clear y g b4 m9 d9 W c5 d2 p6;by_cases C:l4=0;case neg=>
  have p3:(l4 != 0)=true:=by simpa using C
  have H:=g5.out C;subst H;have M:=b8.out C;subst M;go_wp2;refine bodyPost_ret (Qa rfl _ _ _) rfl ⟨_,_,rfl,World.ownsRow_nil _ _ _ _,N.out.trans c2.out⟩
 subst C;go_upto_region 21 with (fail)
 have g:Ext j O.drew:=(c2.out).drew;refine Z8 (S:=fun k=>Ext j k) [] kz g ?_;intro _;have b4:Ext O O.drew:=(Q0.refl _ O).drew;obtain⟨n8,a1⟩:=zE O.drew;rw [a1] at g b4 ⊢;clear a1;refine tE 0 70 g ?_;refine tE 1 71 g ?_;refine tE 2 72 g ?_;refine tE 3 73 g ?_;refine tE 4 74 g ?_;refine tE 5 75 g ?_;refine tkE (i:=6) (d:=76) (v:=?_) rfl (Or.inl ⟨by rfl,?_⟩) g ?_;rotate_left
 ·intro k r;have a9:=(show Ext j k from r).cell_some c0.out id;(try dsimp only at r);go_simp;try with_reducible rfl
 try simp only [Act.put,pq]
 refine tE 7 77 g ?_;refine tE 8 78 g ?_;refine tE 9 79 g ?_;refine tE 10 80 g ?_;refine tkE (i:=11) (d:=81) (v:=?_) rfl (Or.inl ⟨by rfl,?_⟩) g ?_;rotate_left
 ·intro k r;have a9:=(show Ext j k from r).cell_some c1.out id;(try dsimp only at r);go_simp;try with_reducible rfl
 try simp only [Act.put,pq]
 refine tkE (i:=12) (d:=82) (v:=?_) rfl (Or.inl ⟨by rfl,?_⟩) g ?_;rotate_left
 ·intro k r;have a9:=(show Ext j k from r).cell_some i0.out id;have s9:=(show Ext j k from r).cell_some i1.out id;(try dsimp only at r);go_simp;try with_reducible rfl
 try simp only [Act.put,pq]
 refine rE [13] ?_;refine Q2.cons rfl (fun K hK=>?_) Q2.nil;refine iw rfl ?_;go_simp;refine(q9.out _ g).mono ?_;rintro e n9 ⟨u0,t9,rfl,d2,i6⟩;have y:Ext j n9:=g.trans i6;have j6:Ext O n9:=b4.trans i6;obtain⟨_,_,s4,p5⟩:=Jh d2;cases s4;have f4:=Su (q6.out.ext j6) p5;have p1:decide (g3=a3)=decide (a3=g3):=decide_eq_decide.2 eq_comm;rw [p1] at f4;obtain⟨g8,o4⟩:=zE (decide (a3=g3));rw [o4] at f4 m5;have m1:=Zh f4;clear i6 g d2 p5 f4 p1 o4;refine hK _ _ y (fun _=>?_);clear hK K;try simp only [Act.put,pq]
 refine rE [14] ?_;refine Q2.cons rfl (fun K hK=>?_) Q2.nil;refine iw rfl ?_;go_simp;refine m1.out.mono ?_;rintro e a4 ⟨rfl,i7⟩;have e9:Ext j a4:=y.trans i7;have o7:Ext O a4:=j6.trans i7;clear i7 y j6 m1;refine hK _ _ e9 (fun _=>?_);clear hK K;try simp only [Act.put,pq]
 refine tE 15 85 e9 ?_;refine rE [16] ?_;refine Q2.cons rfl (fun K hK=>?_) Q2.nil;refine iw rfl ?_;go_simp;have e3:Ext a4 (a4.alloc (.cells #[.bool (!g8)] 4)):=(Q0.refl _ a4).alloc _;have l3:=Qb6 a4 (!g8);obtain⟨r8,o8⟩:=zE (a4.alloc (.cells #[.bool (!g8)] 4));rw [o8] at e3 l3 ⊢;have f0:Ext j r8:=e9.trans e3;have j2:=Q6 r2.out (o7.trans e3);clear e3 e9 o7 o8;refine hK _ _ f0 (fun _=>?_);clear hK K;try simp only [Act.put,pq]
 refine rE [17] ?_;refine Q2.cons rfl (fun K hK=>?_) Q2.nil;refine iw rfl ?_;refine Hk (.tmp 70) (.tmp 86) 65 rfl g9 4 _ 1 1 Tryz.underlying65 Sh rfl zd _ _ _ rfl j2 _ _ _ _ rfl l3 (by intro V z;simp at z;subst z;rfl) (by unfold maxLen;omega) oz ?c3 ?_
 case' c3=>have:=f0.size;rw [m8.out] at this;exact this
 intro s7 s6 r9 o3 o6 _;have f1:Ext j r9:=f0.after o6 (fun b hb e=>by have:=(j2.lt b e).1;rw [<-m8.out] at this;omega);refine hK _ _ f1 (fun _=>?_);clear hK K;try simp only [Act.put,pq]
 refine tE 18 10 f1 ?_;refine Z0 kz ?_ _;have r3:=Zh o3;have q7:=Zh f1;clear o3 f1 f0 j2 l3 o6;go_wp2;exact⟨⟨t+1,s7,s6,by omega,by first | trivial | rfl,rfl,by have:=r3.out;rw [q5.out,m5.out];simpa [boV] using this,g6.out,q7.out⟩,nz⟩
def Hn(ls:List Q7)(fr:List (Wd × Wd)) (s:Nat × Nat):Bool:=if Yf ls fr s=0 then Xb (Jo ls fr s) true && Xb (Jo ls fr s) false else false
theorem Qc8{w:World}{ps:Qr}{lo:Option Addr}{n lc:Nat}{fr:Fb}{V:Option Addr}{m pc:Nat}{a c:Nat}(P:Qt w (.slice lo n lc) ps) (R:ps.length=n) (T:Kx w (.slice V m pc) fr) (Q:fr.length=m) (U:Qh (a,c)) (O:Tab w) :
  Calls Tryz.prog 42 #[.slice lo n lc,.slice V m pc,.agg #[.int .u32 (a:Int),.int .u32 (c:Int)]] w fun e w'=>e=.returned (.tuple #[.bool (Hn (ps.map (·.1)) (fr.map (·.1)) (a,c)),.int .i64 (Yf (ps.map (·.1)) (fr.map (·.1)) (a,c))])/\Ext w w':=by
 have f:=fun(d:World) (hE:Ext w d)=>Rl (P.ext hE) R (U5 T hE) Q U (O.keep hE id) (lc:=lc) (pc:=pc);have B:Yf (ps.map (·.1)) (fr.map (·.1)) (a,c)≠0->Hn (ps.map (·.1)) (fr.map (·.1)) (a,c)=false:=fun h=>if_neg h;have p:Yf (ps.map (·.1)) (fr.map (·.1)) (a,c)=0->Hn (ps.map (·.1)) (fr.map (·.1)) (a,c)=(Xb (Jo (ps.map (·.1)) (fr.map (·.1)) (a,c)) true && Xb (Jo (ps.map (·.1)) (fr.map (·.1)) (a,c)) false):=fun h=>if_pos h;obtain⟨K,v⟩:=zE (Yf (ps.map (·.1)) (fr.map (·.1)) (a,c));obtain⟨g,u⟩:=zE (Jo (ps.map (·.1)) (fr.map (·.1)) (a,c));obtain⟨a3,N⟩:=zE (Hn (ps.map (·.1)) (fr.map (·.1)) (a,c));rw [v,N] at B p ⊢;rw [u] at p;simp only [v,u] at f;have t:Ext w (w.alloc (.cells #[.int .u32 (a:Int),.int .u32 (c:Int)] 26)):=(Q0.refl _ w).alloc _;have i:(w.alloc (.cells #[.int .u32 (a:Int),.int .u32 (c:Int)] 26)).heap[w.heap.size]?=some (.cells #[.int .u32 (a:Int),.int .u32 (c:Int)] 26 (0,0)):=Q3 rfl;obtain⟨j,F,G⟩:=Zh3 f B p;clear f B p v u N P R T Q U O;obtain⟨d,x⟩:=zE (w.alloc (.cells #[.int .u32 (a:Int),.int .u32 (c:Int)] 26));obtain⟨l,y⟩:=zE w.heap.size;rw [x] at t i;rw [y] at i;obtain⟨Y,I,q⟩:=Zh3 y x t;clear x y t;go_enter Tryz.func42,Tryz.ntmps42;go_upto_region 1 with (fail)
 rw [I.out,Y.out];clear I;have a1:d.cell? ⟨l,0,none⟩=some (.int .u32 (a:Int)):=by rw [cell_of_row _ _ _ _ _ _ i];rfl
 have a2:d.cell? ⟨l,1,none⟩=some (.int .u32 (c:Int)):=by rw [cell_of_row _ _ _ _ _ _ i];rfl
 clear i;go_wp2_with fail;refine(j.out d q.out).mono ?_;rintro e a6 ⟨a5,W,rfl,S,M⟩;have k:=Zh (Rd.of_own S);have r:=Zh (q.out.trans M);clear j M S a1 a2 q;by_cases D:K=0;case neg=>
  have a4:(K != 0)=true:=by simpa using D
  have C:=F.out D;subst C;go_wp2;refine bodyPost_ret (Qa rfl _ _ _) rfl ⟨rfl,r.out⟩
 subst D;have C:=G.out uz;subst C;obtain⟨J,o⟩:=zE g.length;rw [o] at k ⊢;have f:=N5 k.out o true (cap:=W);have s:=N5 k.out o false (cap:=W);obtain⟨L,z⟩:=zE (Xb g true);obtain⟨Z,A⟩:=zE (Xb g false);rw [z] at f;rw [A] at s;have j:=Zh f;have X:=Zh s;have H:Hid ((Xb g true && Xb g false)=(L && Z)):=Zh (by rw [z,A]);clear f s o z A F G k;go_wp2_with fail;refine j.out.mono ?_;rintro e a0 ⟨rfl,rfl⟩;cases L
 ·go_wp2;refine bodyPost_ret (Qa rfl _ _ _) rfl ⟨by rw [H.out];rfl,r.out⟩
 ·go_wp2_with fail;refine X.out.mono ?_;rintro e a0 ⟨rfl,rfl⟩;go_wp2;refine bodyPost_ret (Qa rfl _ _ _) rfl ⟨by rw [H.out];rfl,r.out⟩
theorem Q7v{w:World}{ps:Qr}{lo:Option Addr}{n lc:Nat}{fr:Fb}{b6:Option Addr}{m pc:Nat}{c d:Nat}(a8:Qt w (.slice lo n lc) ps) (b1:ps.length=n) (b2:Kx w (.slice b6 m pc) fr) (b0:fr.length=m) (b3:Qh (c,d)) :
  Calls Tryz.prog 43 #[.slice lo n lc,.slice b6 m pc,.agg #[.int .u32 (c:Int),.int .u32 (d:Int)]] w fun e w'=>e=.returned (.tuple #[.bool (Hn (ps.map (·.1)) (fr.map (·.1)) (c,d)),.int .i64 (Yf (ps.map (·.1)) (fr.map (·.1)) (c,d))])/\Ext w w':=by
 have p:=fun(k:World) (hE:Ext w k)=>No (a8.ext hE) b1 (U5 b2 hE) b0 b3 (lc:=lc) (pc:=pc);have N:Yf (ps.map (·.1)) (fr.map (·.1)) (c,d)≠0->Hn (ps.map (·.1)) (fr.map (·.1)) (c,d)=false:=fun h=>if_neg h;have A:Yf (ps.map (·.1)) (fr.map (·.1)) (c,d)=0->Hn (ps.map (·.1)) (fr.map (·.1)) (c,d)=(Xb (Jo (ps.map (·.1)) (fr.map (·.1)) (c,d)) true && Xb (Jo (ps.map (·.1)) (fr.map (·.1)) (c,d)) false):=fun h=>if_pos h;obtain⟨Z,K⟩:=zE (Yf (ps.map (·.1)) (fr.map (·.1)) (c,d));obtain⟨f,J⟩:=zE (Jo (ps.map (·.1)) (fr.map (·.1)) (c,d));obtain⟨b8,r⟩:=zE (Hn (ps.map (·.1)) (fr.map (·.1)) (c,d));rw [K,r] at N A ⊢;rw [J] at A;simp only [K,J] at p;have H:Ext w (w.alloc (.cells #[.int .u32 (c:Int),.int .u32 (d:Int)] 26)):=(Q0.refl _ w).alloc _;have v:(w.alloc (.cells #[.int .u32 (c:Int),.int .u32 (d:Int)] 26)).heap[w.heap.size]?=some (.cells #[.int .u32 (c:Int),.int .u32 (d:Int)] 26 (0,0)):=Q3 rfl;obtain⟨U,S,T⟩:=Zh3 p N A;clear p N A K J r a8 b1 b2 b0 b3;obtain⟨k,L⟩:=zE (w.alloc (.cells #[.int .u32 (c:Int),.int .u32 (d:Int)] 26));obtain⟨z,M⟩:=zE w.heap.size;rw [L] at H v;rw [M] at v;obtain⟨b7,Y,C⟩:=Zh3 M L H;clear L M H;go_enter Tryz.func43,Tryz.ntmps43;go_upto_region 1 with (fail)
 rw [Y.out,b7.out];clear Y;have c3:k.cell? ⟨z,0,none⟩=some (.int .u32 (c:Int)):=by rw [cell_of_row _ _ _ _ _ _ v];rfl
 have c4:k.cell? ⟨z,1,none⟩=some (.int .u32 (d:Int)):=by rw [cell_of_row _ _ _ _ _ _ v];rfl
 clear v;go_wp2_with fail;refine(U.out k C.out).mono ?_;rintro e c2 ⟨c1,c0,rfl,O,a3⟩;have X:=Zh (Rd.of_own O);have D:=Zh (C.out.trans a3);have a9:=(Rd.of_own O).2.1;clear U a3 O c3 c4 C;by_cases Q:Z=0;case neg=>
  have d1:(Z != 0)=true:=by simpa using Q
  have P:=S.out Q;subst P;go_wp2;refine bodyPost_ret (Qa rfl _ _ _) rfl ⟨rfl,D.out⟩
 subst Q;have P:=T.out uz;subst P;obtain⟨i,I⟩:=zE f.length;rw [I] at X a9 ⊢;unfold maxLen at a9;have V:=Zh I;clear I S T;obtain⟨b8,r⟩:=zE (Xb f true && Xb f false);have c5:=Zh r;clear r;go_wp2
 refine wp_loop (fun a a0=>∃(b:Nat) (g j:Bool),b<=i/\a.defers=[]/\gS a [8,10,11,12]=(37,[.slice c1 i c0,.bool g,.bool j,.int .i64 b])/\Xb (f.take b) true=g/\Xb (f.take b) false=j/\a0=c2)
  (fun a _=>i - (intOf (a.tmps.getD 12 undef)).toNat) ?_ ?_
 ·exact⟨0,false,false,by omega,rfl,rfl,rfl,rfl,rfl⟩
 rintro⟨d4,_⟩ a0 ⟨b,g,j,d0,b9,b4,a4,a5,rfl⟩;subst b9;obtain⟨d5,rfl⟩:=Qc b4;clear b4;have x:=Zh a4;have y:=Zh a5;clear a4 a5;by_cases a7:b<i;case neg=>
  obtain rfl:b=i:=by omega
  have p:¬ (b:Int)<(b:Int):=by omega
  have s:(Xb f true && Xb f false)=(g && j):=by
   have a1:=x.out;have a2:=y.out;rw [List.take_of_length_le (by rw [V.out];exact Nat.le_refl _)] at a1 a2;rw [a1,a2]
  have W:=Zh s;clear s x y;cases g
  ·go_wp2;refine bodyPost_ret (Qa rfl _ _ _) rfl ⟨by rw [W.out];rfl,D.out⟩
  ·go_wp2;refine bodyPost_ret (Qa rfl _ _ _) rfl ⟨by rw [W.out];rfl,D.out⟩
 have p:(b:Int)<(i:Int):=by omega
 have c8:(0:Int)<=(b:Int):=by omega
 have B:b<f.length:=by rw [V.out];exact a7
 obtain⟨c7,d3,c6,s,c9,a6⟩:=Z7 X.out a7;simp only [zV,true_and] at s;obtain⟨rfl,rfl⟩:=s;rw [Mo f B] at a6;have l:=Pc B true;have o:=Pc B false;rw [x.out] at l;rw [y.out] at o;have d2:IntKind.i64.wrap ((b:Int)+1)=(b:Int)+1:=IntWalk.i64_in _ oz;obtain⟨R,b5⟩:=zE (f[b]);rw [b5] at a6 l o;clear b5 B x y;cases R
 ·have t:Xb (f.take (b+1)) true=g:=by rw [l];cases g <;> rfl
  have u:Xb (f.take (b+1)) false=true:=by rw [o];cases j <;> rfl
  have F:=Zh t;have G:=Zh u;clear l o t u;go_wp2;exact⟨⟨b+1,g,true,by omega,by first | trivial | rfl,rfl,F.out,G.out,by first | trivial | rfl⟩,nz⟩
 ·have t:Xb (f.take (b+1)) true=true:=by rw [l];cases g <;> rfl
  have u:Xb (f.take (b+1)) false=j:=by rw [o];cases j <;> rfl
  have F:=Zh t;have G:=Zh u;clear l o t u;go_wp2;exact⟨⟨b+1,true,j,by omega,by first | trivial | rfl,rfl,F.out,G.out,by first | trivial | rfl⟩,nz⟩
theorem Q9e(W:World)(d:Option Addr)(a c:Nat)(g:Option Addr)(b f:Nat)(i:a<=maxLen)(l:b<=maxLen):Q11 (W.alloc (.cells #[.slice d a c,.slice g b f] 23)) (.slice (some ⟨W.heap.size,0,none⟩) 2 2) [.slice d a c,.slice g b f]:=by
 refine⟨⟨by simp,by unfold maxLen;simp,_,_,rfl,fun _=>⟨_,_,rfl,(Array.getElem?_eq_some_iff.1 (Q3 rfl)).1,fun j hj=>?_⟩⟩,?_⟩
 ·have k:j=0\/j=1:=by simp at hj;omega
  rcases k with rfl | rfl <;> (rw [cell_of_row _ _ _ _ _ _ (Q3 rfl)];rfl)
 ·intro m e;simp only [List.mem_cons,List.not_mem_nil,or_false] at e;rcases e with rfl | rfl
  ·exact⟨_,_,_,rfl,i⟩
  ·exact⟨_,_,_,rfl,l⟩
theorem Q2t{w:World}{ps:Qr}{lo:Option Addr}{n lc:Nat}{fr:Fb}{a6:Option Addr}{m pc:Nat}{o p:Nat}(L:Qt w (.slice lo n lc) ps) (M:ps.length=n) (f2:n<=lc) (C:Kx w (.slice a6 m pc) fr) (B:fr.length=m) (T:Qh (o,p)) (a2:Tab w) :
  Calls Tryz.prog 8 #[.slice lo n lc,.slice a6 m pc,.agg #[.int .u32 (o:Int),.int .u32 (p:Int)]] w fun e w'=>e=.returned (.bool true)/\Ext w w':=by
 have f0:=C.1.2.1;rw [B] at f0;unfold maxLen at f0;have Z:=fun(c:World) (b:Ext w c)=>Lp (L.ext b) M f2;have b3:=fun(c:World) (b:Ext w c)=>Rl (L.ext b) M (U5 C b) B T (a2.keep b id) (lc:=lc) (pc:=pc);have b4:=fun(c:World) (b:Ext w c)=>No (L.ext b) M (U5 C b) B T (lc:=lc) (pc:=pc);have b5:=fun(c:World) (b:Ext w c)=>Qc8 (L.ext b) M (U5 C b) B T (a2.keep b id) (lc:=lc) (pc:=pc);have b6:=fun(c:World) (b:Ext w c)=>Q7v (L.ext b) M (U5 C b) B T (lc:=lc) (pc:=pc);obtain⟨j9,e6⟩:=zE (Yf (ps.map (·.1)) (fr.map (·.1)) (o,p));obtain⟨g6,e4⟩:=zE (Jo (ps.map (·.1)) (fr.map (·.1)) (o,p));obtain⟨j8,e5⟩:=zE (Hn (ps.map (·.1)) (fr.map (·.1)) (o,p));simp only [e6,e4,e5] at b3 b4 b5 b6;have b8:Ext w (w.alloc (.cells #[.int .u32 (o:Int),.int .u32 (p:Int)] 26)):=(Q0.refl _ w).alloc _;have U:(w.alloc (.cells #[.int .u32 (o:Int),.int .u32 (p:Int)] 26)).heap[w.heap.size]?=some (.cells #[.int .u32 (o:Int),.int .u32 (p:Int)] 26 (0,0)):=Q3 rfl;obtain⟨c5,c6,c7,c8,c9,g4,d3,d5⟩:=Zh8 Z b3 b4 b5 b6 C B a2;clear Z b3 b4 b5 b6 e6 e4 e5 L M f2 C B T a2;obtain⟨c,b9⟩:=zE (w.alloc (.cells #[.int .u32 (o:Int),.int .u32 (p:Int)] 26));obtain⟨Q,c0⟩:=zE w.heap.size;rw [b9] at b8 U;rw [c0] at U;obtain⟨g5,d6,f⟩:=Zh3 c0 b9 b8;clear b9 c0 b8;have g2:c.cell? ⟨Q,0,none⟩=some (.int .u32 (o:Int)):=by rw [cell_of_row _ _ _ _ _ _ U];rfl
 have g3:c.cell? ⟨Q,1,none⟩=some (.int .u32 (p:Int)):=by rw [cell_of_row _ _ _ _ _ _ U];rfl
 have V:=Zh g2;have W:=Zh g3;clear U g2 g3;go_enter Tryz.func8,Tryz.ntmps8;go_upto_region 1 with (fail)
 rw [d6.out,g5.out];clear d6;go_wp2_with fail;refine(c5.out c f.out).mono ?_;rintro e j7 ⟨l,rfl,R⟩;have i:=Zh R;clear c5 R;have f8:∀(d:World),Ext w d->Calls Tryz.prog 16 #[] d fun e w'=>e=.returned (.bool true)/\Ext d w':=fun d b=>Xi d (d5.out.keep b id);have b0:=Zh f8;clear f8 d5;by_cases c1:l=true/\¬ (12<n/\n<=64)/\m<=300/\¬ (20<m/\m<=256);case neg=>
  have i6:l=false\/(l=true/\(12<n/\n<=64))\/(l=true/\¬ 12<n/\300<m)\/(l=true/\64<n/\300<m)\/(l=true/\¬ 12<n/\m<=300/\20<m/\m<=256)\/(l=true/\64<n/\m<=300/\20<m/\m<=256):=by
   cases l
   ·exact .inl rfl
   ·refine .inr ?_;simp only [true_and] at c1 ⊢;omega
  clear c1;rcases i6 with rfl | ⟨rfl,J,e0⟩ | ⟨rfl,J,b2⟩ | ⟨rfl,J,b2⟩ | ⟨rfl,J,b2,i2,i3⟩ | ⟨rfl,J,b2,i2,i3⟩
  all_goals
   try have j1:(n:Int) > 12:=by omega
   try have j2:¬ (n:Int) > 12:=by omega
   try have k4:(n:Int)<=64:=by omega
   try have j3:¬ (n:Int)<=64:=by omega
   try have k5:(m:Int) > 300:=by omega
   try have f9:¬ (m:Int) > 300:=by omega
   try have j4:(m:Int) > 20:=by omega
   try have j5:(m:Int)<=256:=by omega
   go_wp2_with fail;refine(b0.out j7 (f.out.trans i.out)).mono ?_;rintro e g1 ⟨rfl,t⟩;have P:=Zh (f.out.trans (i.out.trans t));clear t i;go_wp2;go_ret;exact⟨rfl,P.out⟩
 obtain⟨rfl,j0,k3,i9⟩:=c1;have i5:¬ 12<n\/64<n:=by omega
 have i4:¬ 20<m\/256<m:=by omega
 clear j0 i9;rcases i5 with J | J <;> rcases i4 with e0 | e0
 all_goals
  try have j1:(n:Int) > 12:=by omega
  try have j2:¬ (n:Int) > 12:=by omega
  try have j3:¬ (n:Int)<=64:=by omega
  try have j4:(m:Int) > 20:=by omega
  try have k6:¬ (m:Int) > 20:=by omega
  try have j5:¬ (m:Int)<=256:=by omega
  have f9:¬ (m:Int) > 300:=by omega
  go_wp2;clear f9
  refine wp_loop (fun a d=>∃(g:Nat),g<=m/\a.defers=[]/\gS a [0,1,5,46,47,48]=(110,[.slice lo n lc,.slice a6 m pc,.pointer (some ⟨Q,0,none⟩),.slice a6 m pc,.int .i64 m,.int .i64 g])/\Ext c d)
   (fun a _=>m - (intOf (a.tmps.getD 48 undef)).toNat) ?_ ?_
  ·exact⟨0,by omega,rfl,rfl,i.out⟩
  clear i;rintro⟨k9,_⟩ d ⟨g,i8,i7,f4,b⟩;subst i7;obtain⟨g0,rfl⟩:=Qc f4;clear f4;have r:=Zh b;clear b;by_cases e8:g<m;case pos=>
   have Z:(g:Int)<(m:Int):=by omega
   have k2:(0:Int)<=(g:Int):=by omega
   have e9:g<fr.length:=by rw [d3.out];exact e8
   obtain⟨k1,k8,A,z,G,F,rfl,X,Y,a4,a5⟩:=Wv (U5 g4.out (f.out.trans r.out)) d3.out e9;obtain⟨⟨g0,j6⟩,f6⟩:=zE (fr[g].1);rw [f6] at X Y a4 a5;dsimp only at X Y a4 a5;have c3:=a4.1.2.1;have c4:=a5.1.2.1;obtain⟨H,f5⟩:=zE g0.length;obtain⟨I,f7⟩:=zE j6.length;rw [f5] at X c3;rw [f7] at Y c4;obtain⟨u,b7⟩:=zE d.heap.size;have a3:(d.alloc (.cells #[.slice A H z,.slice G I F] 63)).heap[u]?=some (.cells #[.slice A H z,.slice G I F] 63 (0,0)):=Q3 b7.symm;have e2:Ext d (d.alloc (.cells #[.slice A H z,.slice G I F] 63)):=(Q0.refl _ d).alloc _;have d1:=Zh b7;have a7:=Zh e2;clear e2 f6 a4 a5 e9 f5 f7;go_upto_region 6 with (fail)
   obtain⟨s,e7⟩:=zE (d.alloc (.cells #[.slice A H z,.slice G I F] 63));rw [e7] at a3 a7 ⊢;try rw [d1.out]
   have i0:s.cell? ⟨u,0,none⟩=some (.slice A H z):=by rw [cell_of_row s u 0 _ _ _ a3];rfl
   have i1:s.cell? ⟨u,1,none⟩=some (.slice G I F):=by rw [cell_of_row s u 1 _ _ _ a3];rfl
   have e1:Ext s (s.alloc (.cells #[.slice A H z,.slice G I F] 23)):=(Q0.refl _ s).alloc _;have f3:=Cz (Q9e s A H z G I F c3 c4) rfl;have d4:=Zh f3;have d0:=Zh (a7.out.trans e1);clear a3 e7 b7 d1 X Y f3 e1 c3 c4 a7;go_wp2_with fail;refine d4.out.mono ?_;rintro e b1 ⟨l,rfl,_,K⟩;have k:=Zh (r.out.trans (d0.out.trans K));clear K d0 d4 i0 i1 r;cases l
   ·go_wp2_with fail;refine(b0.out b1 (f.out.trans k.out)).mono ?_;rintro e g1 ⟨rfl,t⟩;have P:=Zh (f.out.trans (k.out.trans t));clear t k;go_wp2;go_ret;exact⟨rfl,P.out⟩
   ·go_wp2;exact⟨⟨g+1,by omega,by first | trivial | rfl,rfl,k.out⟩,nz⟩
  obtain rfl:g=m:=by omega
  have Z:¬ (g:Int)<(g:Int):=by omega
  clear e8 i8;have v:=r.out.cell_some V.out id;have y:=r.out.cell_some W.out id;have j:=Zh (c6.out d (f.out.trans r.out));go_wp2_with fail;refine j.out.mono ?_;rintro e g7 ⟨l2,l0,rfl,S,R⟩;have O:=Zh (Rd.of_own S);have i:=Zh (r.out.trans R);clear S R r v y j c6;have v:=i.out.cell_some V.out id;have y:=i.out.cell_some W.out id;have j:=Zh (c7.out g7 (f.out.trans i.out));go_wp2_with fail;refine j.out.mono ?_;rintro e b1 ⟨l3,l1,rfl,S,K⟩;obtain⟨d8,d7,k⟩:=Zh3 (Rd.of_own S) (O.out.ext K) (i.out.trans K);clear S K i v y j c7 O;have v:=k.out.cell_some V.out id;have y:=k.out.cell_some W.out id;have j:=Zh (c8.out b1 (f.out.trans k.out));go_wp2_with fail;refine j.out.mono ?_;rintro e g8 ⟨rfl,a0⟩;obtain⟨O,d9,N⟩:=Zh3 (d7.out.ext a0) (d8.out.ext a0) (k.out.trans a0);clear a0 k v y j c8 d7 d8;have v:=N.out.cell_some V.out id;have y:=N.out.cell_some W.out id;have j:=Zh (c9.out g8 (f.out.trans N.out));go_wp2_with fail;refine j.out.mono ?_;rintro e k0 ⟨rfl,a1⟩;have c2:=Qei (O.out.ext a1) (d9.out.ext a1);rw [decide_eq_true rfl] at c2;have a9:=Zh c2;have d2:=Zh (N.out.trans a1);clear a1 N v y j c9 O d9 c2;obtain⟨k7,f1⟩:=zE g6.length;rw [f1] at a9 ⊢;clear f1;go_wp2_with fail;refine a9.out.mono ?_;rintro e g9 ⟨rfl,e3⟩;have a8:=Zh (d2.out.trans e3);clear e3 d2 a9;go_wp2_with fail;refine(b0.out g9 (f.out.trans a8.out)).mono ?_;rintro e g1 ⟨rfl,t⟩;have P:=Zh (f.out.trans (a8.out.trans t));clear t a8;go_wp2;go_ret;exact⟨rfl,P.out⟩
end Go.Proofs.YtejenndedjabhaaGreatDoor
