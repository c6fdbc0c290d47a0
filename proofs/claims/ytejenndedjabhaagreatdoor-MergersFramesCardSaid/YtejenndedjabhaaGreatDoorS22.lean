/- Frames: -/
import Derived.Test.YtejenndedjabhaaGreatDoorS21
import Derived.Test.YtejenndedjabhaaGreatDoorS20
set_option maxRecDepth 100000
set_option maxHeartbeats 16000000
namespace Go.Proofs.YtejenndedjabhaaGreatDoor
open Go.RowKit Go.Ab
def Jz(fr:List (Wd × Wd)):List Int:=fr.map fun p=>Qs [] p.1 p.2
def Wa(ls:List Q7)(fr:List (Wd × Wd)) (s:Nat × Nat):List Int:=fr.map fun p=>Yd ls (Qf p.1 p.2 s)
def frB(ls:List Q7)(fr:List (Wd × Wd)) (s:Nat × Nat):List Bool:=fr.map fun p=>!decide (Qf p.1 p.2 s=Yj ls (Qf p.1 p.2 s))
def Ye(ls:List Q7)(fr:List (Wd × Wd)) (s:Nat × Nat):Int:=
 if Z4 ls=0 then(if 256<fr.length then 12 else if Z2 (Jz fr)=0 then(if okS s=true then Z2 (Wa ls fr s) else 14) else Z2 (Jz fr)) else Z4 ls
def Js(ls:List Q7)(fr:List (Wd × Wd)) (s:Nat × Nat):List Bool:=if Ye ls fr s=0 then frB ls fr s else []
theorem Q5o{l:List Int}(h:Z2 l=0):∀ x∈l,x=0:=by
 induction l with
 | nil=>intro x a;cases a
 | cons e l ih=>
  intro x a;unfold Z2 at h
  split at h
  ·rename_i b
   rcases List.mem_cons.1 a with rfl | a
   ·exact b
   ·exact ih h x a
  ·rename_i b;exact absurd h b
theorem Ba{a:List (Wd × Wd)} (h:Z2 (Jz a)=0) {k:Nat} (c:k<a.length):wE a[k].1=0/\wE a[k].2=0:=by
 have b:=Q5o h (Qs [] a[k].1 a[k].2) (List.mem_map.2 ⟨_,List.getElem_mem c,rfl⟩);exact(Wq b).2
theorem Q53{ls:List Q7}{fr:List (Wd × Wd)} {s:Nat × Nat} (h:Ye ls fr s=0):Js ls fr s=frB ls fr s:=if_pos h
theorem Q4v{ls:List Q7}{fr:List (Wd × Wd)} {s:Nat × Nat} (h:Ye ls fr s≠0):Js ls fr s=[]:=if_neg h
theorem Qd9{ls:List Q7}{p:Wd × Wd}{s:Nat × Nat}(c:Z4 ls=0)(h:wE p.1=0/\wE p.2=0)(b:okS s=true):Ub ls p.1 p.2 s=Yd ls (Qf p.1 p.2 s)/\U8 ls p.1 p.2 s=Yj ls (Qf p.1 p.2 s):=by
 have a:Qs ls p.1 p.2=0:=by unfold Qs;rw [if_pos c,if_pos h.1];exact h.2
 unfold Ub U8;rw [if_pos a,if_pos a,if_pos b,if_pos b];exact⟨rfl,rfl⟩
attribute [local go_sem] Oper.semAt_some Zm Qv
def boV(l:List Bool):List Value:=l.map Value.bool
theorem Ly(l:List Bool){k:Nat}(h:k<l.length):(boV l).getD k undef=.bool l[k]:=by rw [List.getD_eq_getElem?_getD];simp [boV,h]
theorem Qei{w:World}{u v:Value}{us vs:List Bool}(k:Rd w u us.length 1 (boV us)) (l:Rd w v vs.length 1 (boV vs)) :
  Calls Tryz.prog 44 #[u,v] w fun e w'=>e=.returned (.bool (decide (us=vs)))/\Ext w w':=by
 have J:=k.2.1;have K:=l.2.1;unfold maxLen at J K;obtain⟨T,S,rfl,_⟩:=k.2.2;obtain⟨V,U,rfl,_⟩:=l.2.2;obtain⟨c,i⟩:=zE us.length;obtain⟨B,g⟩:=zE vs.length;rw [i] at k J ⊢;rw [g] at l K ⊢;obtain⟨Q,R,A,z⟩:=Zh4 k l i g;clear k l;go_enter Tryz.func44,Tryz.ntmps44;by_cases F:c=B;case neg=>
  have d:((c:Int) !=(B:Int))=true:=by simp;omega
  have t:=Zh (decide_eq_false (fun h:us=vs=>F (by rw [<-i,<-g,h])));clear i g;go_wp2;go_ret;exact⟨by rw [t.out];rfl,Q0.refl _ _⟩
 subst F;clear i g;go_wp2
 refine wp_loop (fun a C=>∃(b:Nat),b<=c/\a.defers=[]/\gS a [0,1,12,13]=(26,[.slice T c S,.slice V c U,.int .i64 c,.int .i64 b])/\us.take b=vs.take b/\Ext w C)
  (fun a _=>c - (intOf (a.tmps.getD 13 undef)).toNat) ?_ ?_
 ·exact⟨0,by omega,rfl,rfl,by simp,Q0.refl _ _⟩
 rintro⟨b0,_⟩ C ⟨b,a7,X,L,G,f⟩;subst X;obtain⟨u,rfl⟩:=Qc L;clear L;have y:=Zh G;clear G;by_cases p:b<c;case neg=>
  obtain rfl:b=c:=by omega
  have W:¬ (b:Int)<(b:Int):=by omega
  have x:=y.out;rw [List.take_of_length_le (by rw [A.out];exact Nat.le_refl _),List.take_of_length_le (by rw [z.out];exact Nat.le_refl _)] at x;have O:=Zh (decide_eq_true x);clear x;go_wp2;go_ret;exact⟨by rw [O.out];rfl,f⟩
 have W:(b:Int)<(c:Int):=by omega
 have a2:(0:Int)<=(b:Int):=by omega
 have H:b<us.length:=by rw [A.out];exact p
 have I:b<vs.length:=by rw [z.out];exact p
 obtain⟨a0,a8,Y,j,a5,D⟩:=Z8 (Q.out.ext f) p;simp only [zV,true_and] at j;obtain⟨rfl,rfl⟩:=j;obtain⟨a1,a9,Z,j,a6,E⟩:=Z8 (R.out.ext f) p;simp only [zV,true_and] at j;obtain⟨rfl,rfl⟩:=j;rw [Ly us H] at D;rw [Ly vs I] at E;have r:us.take (b+1)=us.take b++[us[b]]:=List.take_succ_eq_append_getElem H;have s:vs.take (b+1)=vs.take b++[vs[b]]:=List.take_succ_eq_append_getElem I;have d:us[b]≠vs[b]->us≠vs:=fun h e=>by subst e;exact h rfl
 obtain⟨m,M⟩:=zE (us[b]);obtain⟨o,N⟩:=zE (vs[b]);rw [M] at D r d;rw [N] at E s d;clear M N;by_cases q:m=o
 ·subst q;have P:Hid (us.take (b+1)=vs.take (b+1)):=Zh (by rw [r,s,y.out]);clear r s d;go_wp2
  go_quiet (fail)
  go_wp2;exact⟨⟨b+1,by omega,tz,rfl,P.out,f.drewN _⟩,nz⟩
 ·have t:=Zh (decide_eq_false (d q));have a3:(m != o)=true:=by simpa using q
  have a4:(m == o)=false:=by simpa using q
  clear r s d;go_wp2
  go_quiet (fail)
  go_wp2;go_ret;exact⟨by rw [t.out];rfl,f.drewN _⟩
def Xa(xs:List Bool)(b:Bool):Bool:=xs.contains b
theorem Nm{xs:List Bool}{k:Nat}(h:k<xs.length)(b:Bool):Xa (xs.take (k+1)) b=(Xa (xs.take k) b || b == xs[k]):=by
 unfold Xa;rw [List.take_succ_eq_append_getElem h,List.contains_append];cases b <;> cases xs[k] <;> simp
theorem Q59{w:World}{ao:Option Addr}{N cap:Nat}{xs:List Bool}(k:Rd w (.slice ao N cap) N 1 (boV xs)) (o:xs.length=N) (b:Bool) :
  Calls Tryz.prog 102 #[.slice ao N cap,.bool b] w fun e w'=>∃ z:Int,e=.returned (.int .i64 z)/\decide (0<=z)=Xa xs b/\w'=w:=by
 have E:=k.2.1;unfold maxLen at E;have y:=Zh k;have m:=Zh o;clear k o;go_enter Tryz.func102,Tryz.ntmps102;go_wp2
 refine wp_loop (fun a n=>∃(c:Nat),c<=N/\a.defers=[]/\gS a [0,1,7,8]=(19,[.slice ao N cap,.bool b,.int .i64 N,.int .i64 c])/\Xa (xs.take c) b=false/\n=w)
  (fun a _=>N - (intOf (a.tmps.getD 8 undef)).toNat) ?_ ?_
 ·exact⟨0,by omega,rfl,rfl,by simp [Xa],rfl⟩
 rintro⟨M,_⟩ n ⟨c,K,D,u,p,rfl⟩;subst D;obtain⟨O,rfl⟩:=Qc u;clear u;have l:=Zh p;clear p;by_cases r:c<N
 ·have C:(c:Int)<(N:Int):=by omega
  have H:(0:Int)<=(c:Int):=by omega
  have j:c<xs.length:=by rw [m.out];exact r
  obtain⟨G,L,F,t,J,i⟩:=Z8 y.out r;simp only [zV,true_and] at t;obtain⟨rfl,rfl⟩:=t;rw [Ly xs j] at i;by_cases d:b=xs[c]
  ·have f:Xa xs b=true:=by unfold Xa;rw [List.contains_iff_mem,d];exact List.getElem_mem j
   have g:=Zh f;rw [<-d] at i;clear d f;have I:(b == b)=true:=by simp
   go_wp2;go_ret;exact⟨_,rfl,by rw [g.out];simp,rfl⟩
  ·have q:(b == xs[c])=false:=by simpa using d
   have s:Xa (xs.take (c+1)) b=false:=by rw [Nm j,l.out,q];rfl
   have A:=Zh s;obtain⟨x,v⟩:=zE (xs[c]);rw [v] at q i;clear d s v;go_wp2;exact⟨⟨c+1,by omega,tz,rfl,A.out,by first | trivial | rfl⟩,nz⟩
 ·obtain rfl:c=N:=by omega
  have C:¬ (c:Int)<(c:Int):=by omega
  have f:Xa xs b=false:=by
   have B:=l.out
   rwa [List.take_of_length_le (by rw [m.out];exact Nat.le_refl _)] at B
  have g:=Zh f;clear f;go_wp2;go_ret;exact⟨_,rfl,by rw [g.out];decide,rfl⟩
theorem Mx{w:World}{ao:Option Addr}{N cap:Nat}{xs:List Bool}(d:Rd w (.slice ao N cap) N 1 (boV xs)) (c:xs.length=N) (b:Bool) :
  Calls Tryz.prog 56 #[.slice ao N cap,.bool b] w fun e w'=>e=.returned (.bool (Xa xs b))/\w'=w:=by
 have a:=Zh (Q59 d c (cap:=cap) b);clear d c;go_enter Tryz.func56,Tryz.ntmps56;go_wp2_with fail;refine a.out.mono ?_;rintro e i ⟨j,rfl,f,rfl⟩;have g:=Zh f;clear a f;go_wp2;go_ret;exact⟨by rw [<-g.out];rfl,rfl⟩
theorem T3:(Tryz.prog.info? 4).map (fun i=>(i.zero,i.size,i.bytes))=some (some (.bool false),1,1):=by kernel_rfl
def Wi(BS:List Bool)(N k:Nat):List Value:=(List.range N).map fun i=>Value.bool (if i<k then BS.getD i false else false)
theorem Q55(BS:List Bool)(N:Nat):Wi BS N 0=List.replicate N (.bool false):=by
 unfold Wi;apply List.ext_getElem
 ·simp
 ·intro c a b;simp
theorem Q8f{BS:List Bool}{N:Nat}(h:BS.length=N):Wi BS N N=boV BS:=by
 unfold Wi boV;apply List.ext_getElem
 ·simp [h]
 ·intro a b e;have c:a<N:=by simpa using b
  have d:a<BS.length:=by omega
  simp [c,d]
theorem Q7r{BS:List Bool}{N k:Nat}(_:k<N):(Wi BS N k).set k (.bool (BS.getD k false))=Wi BS N (k+1):=by
 unfold Wi;apply List.ext_getElem
 ·simp
 ·intro a f d;have g:a<N:=by simpa using d
  rw [List.getElem_set];by_cases b:k=a
  ·subst b;simp
  ·rw [if_neg b];simp only [List.getElem_map,List.getElem_range]
   congr 1
   by_cases c:a<k
   ·rw [if_pos c,if_pos oz]
   ·rw [if_neg c,if_neg oz]
theorem Q75{BS:List Bool}{N k i:Nat}(hi:i<N):∃ x,(Wi BS N k)[i]?=some (.bool x):=⟨_,by unfold Wi;rw [List.getElem?_map,List.getElem?_range hi];rfl⟩
theorem Nl(w:World):Qt w (.slice none 0 0) []:=⟨⟨by simp,by simp [maxLen],none,0,rfl,fun h=>by simp at h⟩,fun p hp=>by cases hp⟩
theorem Wu{w:World}{e:Option Addr}{m pc:Nat}{a:Fq}(n:Gf w (.slice e m pc) a) (_:a.length=m) {k:Nat} (j:k<a.length) :
  ∃ g off fo fc qo qc,e=some ⟨g,off,none⟩/\w.cell? ⟨g,off+k*2,none⟩=some (.slice fo a[k].1.1.length fc)/\w.cell? ⟨g,off+k*2+1,none⟩=some (.slice qo a[k].1.2.length qc) /\
   Q4 w (.slice fo a[k].1.1.length fc) a[k].1.1/\Q4 w (.slice qo a[k].1.2.length qc) a[k].1.2:=by
 obtain⟨g,off,s,b,c,⟨u,v,i,o,q⟩,_⟩:=Df.at n j;obtain⟨b,t⟩:=b zd;simp only [zV] at b;obtain⟨rfl,_,rfl⟩:=b;rw [i] at c;obtain⟨fo,fc,rfl,p,_⟩:=o;obtain⟨qo,qc,rfl,r,_⟩:=q;have d:=c 0 _ rfl;have f:=c 1 _ rfl;rw [Nat.add_zero] at d;exact⟨g,off,fo,fc,qo,qc,rfl,d,f,p,r⟩
theorem R2{w:World}{ps:Qr}{lo:Option Addr}{n lc:Nat}{x:Fq}{c8:Option Addr}{m pc:Nat}{d f:Nat}(k1:Qt w (.slice lo n lc) ps) (k5:ps.length=n) (k7:Gf w (.slice c8 m pc) x) (f9:x.length=m) (k9:Qh (d,f)) (f2:Tab w) :
  Calls Tryz.prog 40 #[.slice lo n lc,.slice c8 m pc,.agg #[.int .u32 (d:Int),.int .u32 (f:Int)]] w fun e w'=>∃ vo vc,e=.returned (.tuple #[.slice vo (Js (ps.map (·.1)) (x.map (·.1)) (d,f)).length vc,.int .i64 (Ye (ps.map (·.1)) (x.map (·.1)) (d,f))])/\w'.ownsRow w.heap.size 4 1 (.slice vo (Js (ps.map (·.1)) (x.map (·.1)) (d,f)).length vc) (Js (ps.map (·.1)) (x.map (·.1)) (d,f)).length (boV (Js (ps.map (·.1)) (x.map (·.1)) (d,f)))/\Ext w w':=by
 have o5:=k7.1.2.1;rw [f9] at o5;unfold maxLen at o5;obtain⟨c,f0⟩:=zE (x.map (·.1));have b9:c.length=m:=by rw [<-f0,List.length_map];exact f9
 have n8:∀ k (h:k<x.length) (C:k<c.length),c[k]=x[k].1:=fun k h C=>by subst f0;exact List.getElem_map _
 obtain⟨g,i7⟩:=zE (ps.map (·.1));rw [f0,i7];have M:=fun(o:World) (p:Ext w o)=>Do (k1.ext p) k5 (f2.keep p id) (lc:=lc);have C:=fun(o:World)=>Xm k9 o;have Z:=fun(o:World) (p:Ext w o) {p1:Option Addr} {p0:Nat} {l:Wd} (c7:Q4 o (.slice p1 l.length p0) l)=>Md (k1.ext p) k5 c7 rfl (f2.keep p id) (lc:=lc);have b0:=fun(o:World) (p:Ext w o) {B:Option Addr} {fn A:Nat} {I:Option Addr} {qn H:Nat} {l v:Wd} (R:Q4 o (.slice B fn A) l) (t:Q4 o (.slice I qn H) v)=>Mm (Nl o) rfl R t (f2.keep p id);simp only [List.map_nil] at b0;simp only [i7] at M Z;have k8:Z4 g≠0->Ye g c (d,f)=Z4 g:=fun h=>by unfold Ye;rw [if_neg h]
 have g0:Z4 g=0->256<c.length->Ye g c (d,f)=12:=fun h C=>by unfold Ye;rw [if_pos h,if_pos C]
 have a3:Z4 g=0->¬ 256<c.length->Z2 (Jz c)≠0->Ye g c (d,f)=Z2 (Jz c):=fun h C Z=>by unfold Ye;rw [if_pos h,if_neg C,if_neg Z]
 have O:Z4 g=0->¬ 256<c.length->Z2 (Jz c)=0->okS (d,f)=false->Ye g c (d,f)=14:=fun h C Z b0=>by unfold Ye;rw [if_pos h,if_neg C,if_pos Z,b0];rfl
 have G:Z4 g=0->¬ 256<c.length->Z2 (Jz c)=0->okS (d,f)=true->Ye g c (d,f)=Z2 (Wa g c (d,f)):=fun h C Z b0=>by unfold Ye;rw [if_pos h,if_neg C,if_pos Z,b0];rfl
 have c0:Ye g c (d,f)≠0->Js g c (d,f)=[]:=Q4v;have f3:Ye g c (d,f)=0->Js g c (d,f)=frB g c (d,f):=Q53;have j6:=fun(k:Nat) (k0:k<c.length) (h:Z2 (Jz c)=0)=>Ba h k0;have j7:∀ k (h:k<c.length),(Jz c)[k]?=some (Qs [] c[k].1 c[k].2):=fun k h=>by unfold Jz;rw [List.getElem?_map,List.getElem?_eq_getElem h];rfl
 have j9:∀ k (h:k<c.length),(Wa g c (d,f))[k]?=some (Yd g (Qf c[k].1 c[k].2 (d,f))):=fun k h=>by unfold Wa;rw [List.getElem?_map,List.getElem?_eq_getElem h];rfl
 have j8:∀ k (h:k<c.length),(frB g c (d,f)).getD k false=!decide (Qf c[k].1 c[k].2 (d,f)=Yj g (Qf c[k].1 c[k].2 (d,f))):=fun k h=>by rw [List.getD_eq_getElem?_getD];unfold frB;simp [h]
 have k2:(Jz c).length=m:=by simp [Jz,b9]
 have k4:(Wa g c (d,f)).length=m:=by simp [Wa,b9]
 have k3:(frB g c (d,f)).length=m:=by simp [frB,b9]
 obtain⟨l4,i4⟩:=zE (Jz c);obtain⟨l5,i5⟩:=zE (Wa g c (d,f));obtain⟨BS,i0⟩:=zE (frB g c (d,f));obtain⟨s0,i9⟩:=zE (Ye g c (d,f));obtain⟨r9,o3⟩:=zE (Js g c (d,f));obtain⟨l3,r⟩:=zE (Z4 g);obtain⟨q7,i8⟩:=zE (okS (d,f));rw [i9,o3] at c0 f3 ⊢;rw [i0] at f3;simp only [r] at M;simp only [i8] at C;rw [i9,r] at k8 g0 a3 O G;rw [i4] at a3 O G;rw [i8] at O G;rw [i5] at G;rw [b9] at g0 a3 O G;simp only [i4] at j6 j7 k2;simp only [i5] at j9 k4;simp only [i0] at j8 k3;obtain⟨m3,e4,m2,m1,q4,l7,l8,p7⟩:=Zh8 k7 f9 b9 n8 k9 M C Z;obtain⟨p8,n0,n1,n2,d3,d4,c9,p2⟩:=Zh8 b0 k8 g0 a3 O G c0 f3;obtain⟨q2,p4,p6,p5,m8,m9,g5⟩:=Zh7 j6 j7 j9 j8 k2 k4 k3;clear k1 k5 k7 f9 k9 f2 f0 b9 n8 M C Z b0 k8 g0 a3 O G c0 f3 j6 j7 j9 j8 k2 k4 k3 i4 i5 i0 i9 o3 r i8 i7;have i3:Ext w (w.alloc (.cells #[.int .u32 (d:Int),.int .u32 (f:Int)] 26)):=(Q0.refl _ w).alloc _;have e3:(w.alloc (.cells #[.int .u32 (d:Int),.int .u32 (f:Int)] 26)).heap[w.heap.size]?=some (.cells #[.int .u32 (d:Int),.int .u32 (f:Int)] 26 (0,0)):=Q3 rfl;obtain⟨o,j1⟩:=zE (w.alloc (.cells #[.int .u32 (d:Int),.int .u32 (f:Int)] 26));obtain⟨z,j2⟩:=zE w.heap.size;rw [j1] at i3 e3;rw [j2] at e3;obtain⟨e6,d1,g2⟩:=Zh3 j2 j1 i3;clear j1 j2 i3;go_enter Tryz.func40,Tryz.ntmps40;go_upto_region 1 with (fail)
 rw [d1.out,e6.out];clear d1;have J:o.cell? ⟨z,0,none⟩=some (.int .u32 (d:Int)):=by rw [cell_of_row _ _ _ _ _ _ e3];rfl
 have P:o.cell? ⟨z,1,none⟩=some (.int .u32 (f:Int)):=by rw [cell_of_row _ _ _ _ _ _ e3];rfl
 clear e3;go_wp2_with fail;refine(l7.out o g2.out).mono ?_;rintro e r8 ⟨rfl,a0⟩;have a4:=a0.cell_some J id;have a5:=a0.cell_some P id;have W:=Zh (g2.out.trans a0);clear l7 a0 J P g2;by_cases u:l3=0;case neg=>
  have c5:(l3 != 0)=true:=by simpa using u
  have F:=n0.out u;subst F;have Q:=c9.out u;subst Q;go_wp2;refine bodyPost_ret (Qa rfl _ _ _) rfl ⟨_,_,rfl,World.ownsRow_nil _ _ _ _,W.out⟩
 subst u;by_cases f4:256<m
 ·have M:(m:Int) > 256:=by omega
  have F:=n1.out uz f4;subst F;have Q:=c9.out zd;subst Q;go_wp2;refine bodyPost_ret (Qa rfl _ _ _) rfl ⟨_,_,rfl,World.ownsRow_nil _ _ _ _,W.out⟩
 have M:¬ (m:Int) > 256:=by omega
 have a3:=n2.out uz f4;have O:=d3.out uz f4;have G:=d4.out uz f4;obtain⟨n3,n4,n5⟩:=Zh3 a3 O G;clear n0 n1 n2 d3 d4 a3 O G;go_wp2;clear M
 refine wp_loop (fun a j=>∃(k:Nat),k<=m/\a.defers=[]/\gS a [0,1,5,26,27,28]=(78,[.slice lo n lc,.slice c8 m pc,.pointer (some ⟨z,0,none⟩),.slice c8 m pc,.int .i64 m,.int .i64 k])/\Z2 (l4.take k)=0/\Ext r8 j)
  (fun a _=>m - (intOf (a.tmps.getD 28 undef)).toNat) ?_ ?_
 ·exact⟨0,by omega,rfl,rfl,rfl,Q0.refl _ _⟩
 rintro⟨r7,_⟩ j ⟨k,k0,j5,e1,y,p⟩;subst j5;obtain⟨l,rfl⟩:=Qc e1;clear e1;have X:=Zh y;have S:=p.cell_some a4 id;have T:=p.cell_some a5 id;have K:=Zh (W.out.trans p);have m6:=Zh p;clear y p a4 a5 W;by_cases f8:k<m;case pos=>
  have M:(k:Int)<(m:Int):=by omega
  have r0:(0:Int)<=(k:Int):=by omega
  have b5:k<x.length:=by rw [e4.out];exact f8
  have a1:k<c.length:=by rw [m2.out];exact f8
  have f6:k<l4.length:=by rw [m8.out];exact f8
  obtain⟨g9,r6,B,A,I,H,rfl,a8,a9,R,t⟩:=Wu (U5 m3.out K.out) e4.out b5;have d8:=m1.out k b5 a1;have c3:=p4.out k a1;rw [List.getElem?_eq_getElem f6,Option.some.injEq] at c3;have b4:=Vu f6 X.out;have N:=Ka f6 X.out;rw [d8] at c3;obtain⟨⟨l,v⟩,e2⟩:=zE (x[k].1);rw [e2] at a8 a9 R t c3;dsimp only at a8 a9 R t c3;rw [c3] at b4 N;have b8:=Zh b4;have b7:=Zh N;obtain⟨s,b1⟩:=zE j.heap.size;have a2:(j.alloc (.cells #[.slice B l.length A,.slice I v.length H] 63)).heap[s]?=some (.cells #[.slice B l.length A,.slice I v.length H] 63 (0,0)):=Q3 b1.symm;have r:Ext j (j.alloc (.cells #[.slice B l.length A,.slice I v.length H] 63)):=(Q0.refl _ j).alloc _;have b3:=p8.out _ (K.out.trans r) (R.ext r) (t.ext r);obtain⟨l6,i6⟩:=zE (Qs [] l v);rw [i6] at b3;obtain⟨p9,V,a7,a6⟩:=Zh4 i6 b1 b3 r;clear b3 r c3 b4 N d8 e2 R t i6 S T b5 a1 f6;go_upto_region 9 with (fail)
  obtain⟨Y,d7⟩:=zE (j.alloc (.cells #[.slice B l.length A,.slice I v.length H] 63));rw [d7] at a2 a6 a7 ⊢;try rw [V.out]
  have g8:Y.cell? ⟨s,0,none⟩=some (.slice B l.length A):=by rw [cell_of_row Y s 0 _ _ _ a2];rfl
  have c1:Y.cell? ⟨s,1,none⟩=some (.slice I v.length H):=by rw [cell_of_row Y s 1 _ _ _ a2];rfl
  clear a2 d7 b1 V a8 a9;go_wp2_with fail;refine a7.out.mono ?_;rintro e n6 ⟨rfl,b2⟩;have b6:=Zh (a6.out.trans b2);clear b2 a6 a7 g8 c1;rw [p9.out] at b8 b7;by_cases u:l6=0;case neg=>
   have c5:(l6 != 0)=true:=by simpa using u
   have N:=b7.out u;have F:=n3.out (by rw [N];exact u);rw [N] at F;clear N;subst F;have Q:=c9.out u;subst Q;go_wp2;refine bodyPost_ret (Qa rfl _ _ _) rfl ⟨_,_,rfl,World.ownsRow_nil _ _ _ _,K.out.trans b6.out⟩
  subst u;go_wp2;exact⟨⟨k+1,by omega,by first | trivial | rfl,rfl,b8.out,m6.out.trans b6.out⟩,nz⟩
 obtain rfl:k=m:=by omega
 have M:¬ (k:Int)<(k:Int):=by omega
 have y:=X.out;rw [List.take_of_length_le (by rw [m8.out];exact Nat.le_refl _)] at y;have q1:=Zh y;have O:=n4.out y;have G:=n5.out y;have d3:=Zh O;have d4:=Zh G;clear O G n3 n4 n5 y X;have t:=l8.out j;unfold sV at t;have d1:=Zh t;clear t l8;go_wp2_with fail;refine d1.out.mono ?_;rintro e g7 ⟨rfl,a0⟩;have J:=a0.cell_some S id;have P:=a0.cell_some T id;have W:=Zh (K.out.trans a0);clear d1 a0 S T K m6;cases q7 with
 | false=>
  have F:=d3.out uz;subst F;have Q:=c9.out zd;subst Q;go_wp2;refine bodyPost_ret (Qa rfl _ _ _) rfl ⟨_,_,rfl,World.ownsRow_nil _ _ _ _,W.out⟩
 | true=>
 have F:=d4.out uz;have m5:=Zh F;clear F d3 d4;have j4:z<=g7.heap.size:=by have:=W.out.size;rw [e6.out] at this;exact this
 go_wp2_with (at_make;refine Yw rfl (.tmp 45) (.tmp 45) 65 rfl z 4 _ 1 Tryz.underlying65 T3 rfl .i64 .i64 k k k rfl rfl rfl rfl ?c1 ?c2 j4 ?_)
 case c1=>omega
 case c2=>unfold maxLen;omega
 intro s7 f1 e8;obtain⟨m,r4⟩:=zE k;subst r4;rw [<-Q55 BS k] at f1;obtain⟨U,n9⟩:=zE g7.heap.size;have a4:=e8.cell_some J id;have a5:=e8.cell_some P id;have j3:z<g7.heap.size:=by obtain⟨s6,g1,_⟩:=Dm J;exact(Array.getElem?_eq_some_iff.1 g1).1
 rw [n9] at f1 j4 j3 ⊢;obtain⟨m4,m0,q6⟩:=Zh3 f1 (W.out.trans e8) j3;clear j3 f1 e8 n9 J P W j4 M f8 k0;go_wp2
 refine wp_loop (fun a j=>∃(i:Nat),i<=k/\a.defers=[]/\gS a [0,1,5,12,47,48,49]=(78,[.slice lo n lc,.slice c8 k pc,.pointer (some ⟨z,0,none⟩),.slice (some ⟨U,0,none⟩) k k,.slice c8 k pc,.int .i64 k,.int .i64 i])/\j.ownsRow z 4 1 (.slice (some ⟨U,0,none⟩) k k) k (Wi BS k i)/\Z2 (l5.take i)=0/\j.cell? ⟨z,0,none⟩=some (.int .u32 (d:Int))/\j.cell? ⟨z,1,none⟩=some (.int .u32 (f:Int))/\Ext w j)
  (fun a _=>k - (intOf (a.tmps.getD 49 undef)).toNat) ?_ ?_
 ·exact⟨0,by omega,rfl,rfl,m4.out,rfl,a4,a5,m0.out⟩
 clear m4 m0 a4 a5;rintro⟨r7,_⟩ j ⟨i,s5,j5,e1,o1,y,J,P,p⟩;subst j5;obtain⟨l,rfl⟩:=Qc e1;clear e1;obtain⟨e5,X,K⟩:=Zh3 o1 y p;clear o1 y p;by_cases e0:i<k;case neg=>
  obtain rfl:i=k:=by omega
  have M:¬ (i:Int)<(i:Int):=by omega
  have y:=X.out;rw [List.take_of_length_le (by rw [m9.out];exact Nat.le_refl _),<-m5.out] at y;subst y;have Q:=p2.out uz;subst Q;have k6:=e5.out;rw [Q8f g5.out] at k6;have q3:=Zh k6;clear k6 e5 J P;go_wp2;refine bodyPost_ret (Qa rfl _ _ _) rfl ⟨some ⟨U,0,none⟩,i,by rw [g5.out];rfl,by rw [g5.out,e6.out];exact q3.out,K.out⟩
 have M:(i:Int)<(k:Int):=by omega
 have r0:(0:Int)<=(i:Int):=by omega
 have b5:i<x.length:=by rw [e4.out];exact e0
 have a1:i<c.length:=by rw [m2.out];exact e0
 have f7:i<l5.length:=by rw [m9.out];exact e0
 obtain⟨g9,r6,B,A,I,H,rfl,a8,a9,R,t⟩:=Wu (U5 m3.out K.out) e4.out b5;have d8:=m1.out i b5 a1;have c4:=p6.out i a1;rw [List.getElem?_eq_getElem f7,Option.some.injEq] at c4;have d9:=p5.out i a1;have c6:=q2.out i a1 q1.out;have b4:=Vu f7 X.out;have N:=Ka f7 X.out;rw [d8] at c4 d9 c6;obtain⟨⟨l,v⟩,e2⟩:=zE (x[i].1);rw [e2] at a8 a9 R t c4 d9 c6;dsimp only at a8 a9 R t c4 d9 c6;rw [c4] at b4 N;rw [<-m5.out] at N;have r2:=Jy c6.1;have r3:=Jy c6.2;obtain⟨b8,b7,d0⟩:=Zh3 b4 N d9;obtain⟨s,b1⟩:=zE j.heap.size;have a2:(j.alloc (.cells #[.slice B l.length A,.slice I v.length H] 63)).heap[s]?=some (.cells #[.slice B l.length A,.slice I v.length H] 63 (0,0)):=Q3 b1.symm;have r:Ext j (j.alloc (.cells #[.slice B l.length A,.slice I v.length H] 63)):=(Q0.refl _ j).alloc _;have b3:=Dc (R.ext r) (t.ext r) q4.out oz;unfold sV at b3;have S:=r.cell_some J id;have T:=r.cell_some P id;obtain⟨V,a7,a6⟩:=Zh3 b1 b3 r;clear b3 r c4 d9 b4 N d8 e2 R t J P b5 a1 f7 c6 r2 r3;go_upto_region 19 with (fail)
 obtain⟨Y,d7⟩:=zE (j.alloc (.cells #[.slice B l.length A,.slice I v.length H] 63));rw [d7] at a2 a6 a7 S T ⊢;try rw [V.out]
 have g8:Y.cell? ⟨s,0,none⟩=some (.slice B l.length A):=by rw [cell_of_row Y s 0 _ _ _ a2];rfl
 have c1:Y.cell? ⟨s,1,none⟩=some (.slice I v.length H):=by rw [cell_of_row Y s 1 _ _ _ a2];rfl
 clear a2 d7 b1 V a8 a9;go_wp2_with fail;refine a7.out.mono ?_;rintro e n6 ⟨p1,p0,rfl,o7,b2⟩;obtain⟨_,_,r5,c7⟩:=Jg o7;cases r5;have J:=b2.cell_some S id;have P:=b2.cell_some T id;have b6:=Zh (a6.out.trans b2);have f5:=p7.out n6 (K.out.trans b6.out) c7;obtain⟨d2,o0⟩:=zE (Qf l v (d,f));rw [o0] at f5 c7 b8 b7 d0 ⊢;obtain⟨l2,i1⟩:=zE (Yd g d2);obtain⟨p3,i2⟩:=zE (Yj g d2);rw [i1,i2] at f5;rw [i1] at b8 b7;rw [i2] at d0;have m7:=Zh c7;have l9:=Zh f5;clear f5 c7 o7 b2 i1 i2 a7 a6 S T g8 c1 o0;go_wp2_with fail;refine l9.out.mono ?_;rintro e s1 ⟨s3,rfl,o6,d5⟩;obtain⟨vo,vc,rfl,o8⟩:=Jg o6;have a4:=d5.cell_some J id;have a5:=d5.cell_some P id;have g3:=Zh (b6.out.trans d5);have o4:=eqW (m7.out.ext d5) o8;have V:=Zh o4;clear l9 o6 d5 b6 o8 o4 m7 J P;by_cases u:l2=0;case neg=>
  have c5:(l2 != 0)=true:=by simpa using u
  have F:=b7.out u;subst F;have Q:=c9.out u;subst Q;go_wp2;refine bodyPost_ret (Qa rfl _ _ _) rfl ⟨_,_,rfl,World.ownsRow_nil _ _ _ _,K.out.trans g3.out⟩
 subst u;obtain⟨g6,o2⟩:=zE (decide (d2=p3));rw [o2] at V d0;clear o2;go_wp2_with fail;refine V.out.mono ?_;rintro e e7 ⟨rfl,e9⟩;have S:=e9.cell_some a4 id;have T:=e9.cell_some a5 id;have g4:=Zh (g3.out.trans e9);clear V e9 g3 a4 a5;have d6:=Q6 e5.out g4.out;obtain⟨s2,c0⟩:=Q75 (BS:=BS) (k:=i) e0;have r1:=d6.cellAt i oz;rw [c0] at r1;have s4:=d6.frozenAt i;have l1:=Ym d6 i (.bool (!g6));have l0:=Q7r (BS:=BS) e0;rw [d0.out] at l0;rw [l0] at l1;have n7:Ext w (e7.setCell ⟨U,i,none⟩ (.bool (!g6))):=(K.out.trans g4.out).setCell (.inl (by rw [e6.out];exact(d6.lt U rfl).1)) _;have j0:Q0 (fun b=>b=U) e7 (e7.setCell ⟨U,i,none⟩ (.bool (!g6))):=by
  refine(Q0.refl (fun b=>b=U) e7).setCell ?_ _;exact .inr rfl
 have c5:¬ z=U:=by have:=q6.out;omega
 have o9:=j0.cell_some S c5;have g1:=j0.cell_some T c5;obtain⟨q5,q0,q8,q9⟩:=Zh4 l1 n7 o9 g1;clear l1 n7 l0 c0 d6 e5 K g4 X j0 c5 o9 g1 S T d0;go_wp2;exact⟨⟨i+1,by omega,by first | trivial | rfl,rfl,q5.out,b8.out,q8.out,q9.out,q0.out⟩,nz⟩
theorem Qbu(W:World)(b:Bool):Rd (W.alloc (.cells #[.bool b] 4)) (.slice (some ⟨W.heap.size,0,none⟩) 1 1) 1 1 [.bool b]:=by
 refine⟨by simp,by unfold maxLen;simp,_,_,rfl,fun _=>⟨_,_,rfl,(Array.getElem?_eq_some_iff.1 (Q3 rfl)).1,fun j hj=>?_⟩⟩;have a:j=0:=by omega
 subst a;rw [cell_of_row _ _ _ _ _ _ (Q3 rfl)];rfl
theorem Ni{w:World}{ps:Qr}{lo:Option Addr}{n lc:Nat}{F:Fq}{g3:Option Addr}{m pc:Nat}{l o:Nat}(k6:Qt w (.slice lo n lc) ps) (l0:ps.length=n) (l2:Gf w (.slice g3 m pc) F) (g0:F.length=m) (g2:Qh (l,o)) :
  Calls Tryz.prog 41 #[.slice lo n lc,.slice g3 m pc,.agg #[.int .u32 (l:Int),.int .u32 (o:Int)]] w fun e w'=>∃ vo vc,e=.returned (.tuple #[.slice vo (Js (ps.map (·.1)) (F.map (·.1)) (l,o)).length vc,.int .i64 (Ye (ps.map (·.1)) (F.map (·.1)) (l,o))])/\w'.ownsRow w.heap.size 4 1 (.slice vo (Js (ps.map (·.1)) (F.map (·.1)) (l,o)).length vc) (Js (ps.map (·.1)) (F.map (·.1)) (l,o)).length (boV (Js (ps.map (·.1)) (F.map (·.1)) (l,o)))/\Ext w w':=by
 have p3:=l2.1.2.1;rw [g0] at p3;unfold maxLen at p3;obtain⟨f,e7⟩:=zE (F.map (·.1));have b4:f.length=m:=by rw [<-e7,List.length_map];exact g0
 have o2:∀ c (h:c<F.length) (A:c<f.length),f[c]=F[c].1:=fun c h A=>by subst e7;exact List.getElem_map _
 obtain⟨s,j2⟩:=zE (ps.map (·.1));rw [e7,j2];have G:=fun(j:World) (Q:Ext w j)=>Lp (k6.ext Q) l0 (lc:=lc);have A:=fun(j:World)=>Vp g2 j;have a0:=fun(j:World) (Q:Ext w j) {d0:Option Addr} {fn c9:Nat} {d8:Option Addr} {qn d7:Nat} {W v:Wd} (z:Q4 j (.slice d0 fn c9) W) (u:Q4 j (.slice d8 qn d7) v)=>W5 (k6.ext Q) l0 z u g2 (lc:=lc);have a7:=fun(j:World) (Q:Ext w j) {d0:Option Addr} {fn c9:Nat} {d8:Option Addr} {qn d7:Nat} {W v:Wd} (z:Q4 j (.slice d0 fn c9) W) (u:Q4 j (.slice d8 qn d7) v)=>Mp (Nl j) rfl z u;simp only [List.map_nil] at a7;simp only [j2] at G a0;have l3:Z4 s≠0->Ye s f (l,o)=Z4 s:=fun h=>by unfold Ye;rw [if_neg h]
 have g1:Z4 s=0->256<f.length->Ye s f (l,o)=12:=fun h A=>by unfold Ye;rw [if_pos h,if_pos A]
 have a3:Z4 s=0->¬ 256<f.length->Z2 (Jz f)≠0->Ye s f (l,o)=Z2 (Jz f):=fun h A a0=>by unfold Ye;rw [if_pos h,if_neg A,if_neg a0]
 have M:Z4 s=0->¬ 256<f.length->Z2 (Jz f)=0->okS (l,o)=false->Ye s f (l,o)=14:=fun h A a0 a7=>by unfold Ye;rw [if_pos h,if_neg A,if_pos a0,a7];rfl
 have J:Z4 s=0->¬ 256<f.length->Z2 (Jz f)=0->okS (l,o)=true->Ye s f (l,o)=Z2 (Wa s f (l,o)):=fun h A a0 a7=>by unfold Ye;rw [if_pos h,if_neg A,if_pos a0,a7];rfl
 have j9:Ye s f (l,o)≠0->Js s f (l,o)=[]:=Q4v;have f3:Ye s f (l,o)=0->Js s f (l,o)=frB s f (l,o):=Q53;have k1:=fun(c:Nat) (d2:c<f.length) (h:Z2 (Jz f)=0)=>Ba h d2;have V:=fun(c:Nat) (d2:c<f.length) (h:Z2 (Jz f)=0) (G:Z4 s=0) (A:okS (l,o)=true)=>Qd9 (p:=f[c]) G (Ba h d2) A;have k2:∀ c (h:c<f.length),(Jz f)[c]?=some (Qs [] f[c].1 f[c].2):=fun c h=>by unfold Jz;rw [List.getElem?_map,List.getElem?_eq_getElem h];rfl
 have k4:∀ c (h:c<f.length),(Wa s f (l,o))[c]?=some (Yd s (Qf f[c].1 f[c].2 (l,o))):=fun c h=>by unfold Wa;rw [List.getElem?_map,List.getElem?_eq_getElem h];rfl
 have k3:∀ c (h:c<f.length),(frB s f (l,o)).getD c false=!decide (Qf f[c].1 f[c].2 (l,o)=Yj s (Qf f[c].1 f[c].2 (l,o))):=fun c h=>by rw [List.getD_eq_getElem?_getD];unfold frB;simp [h]
 have k7:(Jz f).length=m:=by simp [Jz,b4]
 have k9:(Wa s f (l,o)).length=m:=by simp [Wa,b4]
 have k8:(frB s f (l,o)).length=m:=by simp [frB,b4]
 obtain⟨l7,e6⟩:=zE (Jz f);obtain⟨l8,i9⟩:=zE (Wa s f (l,o));obtain⟨c0,i3⟩:=zE (frB s f (l,o));obtain⟨t6,j4⟩:=zE (Ye s f (l,o));obtain⟨t5,o6⟩:=zE (Js s f (l,o));obtain⟨l6,e5⟩:=zE (Z4 s);obtain⟨r8,e9⟩:=zE (okS (l,o));rw [j4,o6] at j9 f3 ⊢;rw [i3] at f3;simp only [e5] at G;simp only [e9] at A;rw [j4,e5] at l3 g1 a3 M J;rw [e6] at a3 M J;rw [e9] at M J;rw [i9] at J;rw [b4] at g1 a3 M J;simp only [e6] at k1 k2 k7;simp only [i9] at k4 k9;simp only [i3] at k3 k8;simp only [e6,e5,e9] at V;have r5:=Zh V;clear V;obtain⟨r1,d9,m5,m4,r6,m0,m1,q4⟩:=Zh8 l2 g0 b4 o2 g2 G A a0;obtain⟨q5,n3,n4,n5,c7,c8,b9,q0⟩:=Zh8 a7 l3 g1 a3 M J j9 f3;obtain⟨q9,q1,q3,q2,n1,n2,e1⟩:=Zh7 k1 k2 k4 k3 k7 k9 k8;clear k6 l0 l2 g0 g2 e7 b4 o2 G A a0 a7 l3 g1 a3 M J j9 f3 k1 k2 k4 k3 k7 k9 k8 e6 i9 i3 j4 o6 e5 e9 j2;have i6:Ext w (w.alloc (.cells #[.int .u32 (l:Int),.int .u32 (o:Int)] 26)):=(Q0.refl _ w).alloc _;have d6:(w.alloc (.cells #[.int .u32 (l:Int),.int .u32 (o:Int)] 26)).heap[w.heap.size]?=some (.cells #[.int .u32 (l:Int),.int .u32 (o:Int)] 26 (0,0)):=Q3 rfl;obtain⟨j,j5⟩:=zE (w.alloc (.cells #[.int .u32 (l:Int),.int .u32 (o:Int)] 26));obtain⟨a6,j8⟩:=zE w.heap.size;rw [j5] at i6 d6;rw [j8] at d6;obtain⟨g8,c5,O⟩:=Zh3 j8 j5 i6;clear j5 j8 i6;go_enter Tryz.func41,Tryz.ntmps41;go_upto_region 1 with (fail)
 rw [c5.out,g8.out];clear c5;have p8:j.cell? ⟨a6,0,none⟩=some (.int .u32 (l:Int)):=by rw [cell_of_row _ _ _ _ _ _ d6];rfl
 have p9:j.cell? ⟨a6,1,none⟩=some (.int .u32 (o:Int)):=by rw [cell_of_row _ _ _ _ _ _ d6];rfl
 have i1:=Zh p8;have i2:=Zh p9;clear d6 p8 p9;go_wp2_with fail;refine(m0.out j O.out).mono ?_;rintro e t2 ⟨rfl,b2⟩;have b1:=Zh b2;have o1:Ext w t2:=O.out.trans b2;have g5:=Zh o1;clear m0 b2 o1;by_cases C:l6=0;case neg=>
  have p4:(l6 != 0)=true:=by simpa using C
  have I:=n3.out C;subst I;have N:=b9.out C;subst N;go_wp2;refine bodyPost_ret (Qa rfl _ _ _) rfl ⟨_,_,rfl,World.ownsRow_nil _ _ _ _,g5.out⟩
 subst C;by_cases f4:256<m
 ·have G:(m:Int) > 256:=by omega
  have I:=n4.out uz f4;subst I;have N:=b9.out zd;subst N;go_wp2;refine bodyPost_ret (Qa rfl _ _ _) rfl ⟨_,_,rfl,World.ownsRow_nil _ _ _ _,g5.out⟩
 have G:¬ (m:Int) > 256:=by omega
 have a3:=n5.out uz f4;have M:=c7.out uz f4;have J:=c8.out uz f4;obtain⟨n6,n7,n8⟩:=Zh3 a3 M J;clear n3 n4 n5 c7 c8 a3 M J g5;have p5:=U5 r1.out O.out;have m7:=Zh p5;clear p5;go_wp2;clear G
 refine wp_loop (fun a D=>∃(c:Nat),c<=m/\a.defers=[]/\gS a [0,1,5,9]=(89,[.slice lo n lc,.slice g3 m pc,.pointer (some ⟨a6,0,none⟩),.int .i64 c])/\Z2 (l7.take c)=0/\Ext j D)
  (fun a _=>m - (intOf (a.tmps.getD 9 undef)).toNat) ?_ ?_
 ·exact⟨0,by omega,rfl,rfl,rfl,b1.out⟩
 clear b1;rintro⟨t1,_⟩ D ⟨c,d2,k0,d4,H,Q⟩;subst k0;obtain⟨W,rfl⟩:=Qc d4;clear d4;have a1:=Zh H;have X:=Zh Q;clear H Q;by_cases f9:c<m;case pos=>
  have G:(c:Int)<(m:Int):=by omega
  have s2:(0:Int)<=(c:Int):=by omega
  have a9:c<F.length:=by rw [d9.out];exact f9
  have U:c<f.length:=by rw [m5.out];exact f9
  have f7:c<l7.length:=by rw [n1.out];exact f9
  obtain⟨s1,s9,d0,c9,d8,d7,rfl,Y,Z,z,u⟩:=Wu m7.out d9.out a9;have d1:=m4.out c a9 U;have b6:=q1.out c U;rw [List.getElem?_eq_getElem f7,Option.some.injEq] at b6;have T:=Vu f7 a1.out;have B:=Ka f7 a1.out;rw [d1] at b6;obtain⟨⟨W,v⟩,d5⟩:=zE (F[c].1);rw [d5] at Y Z z u b6;dsimp only at Y Z z u b6;rw [b6] at T B;have R:=fun(k:World) (r:Ext j k)=>q5.out k (O.out.trans r) (z.ext r) (u.ext r);obtain⟨l9,j0⟩:=zE (Qs [] W v);simp only [j0] at R;rw [j0] at T B;obtain⟨g7,g6,c6,c1,c2⟩:=Zh5 T B R Y Z;have s6:IntKind.i64.wrap ((c:Int)+1)=(c:Int)+1:=IntWalk.i64_in _ oz;clear R b6 T B d1 d5 z u j0 a9 U f7 Y Z;go_upto_region 9 with (fail)
  have g:Ext j D.drew:=(X.out).drew;refine Z7 (S:=fun k=>Ext j k) [] kz g ?_;intro _;obtain⟨n9,a2⟩:=zE D.drew;rw [a2] at g ⊢;clear a2;refine tE 0 28 g ?_;refine tE 1 29 g ?_;refine tE 2 30 g ?_;refine tE 3 31 g ?_;refine tkE (i:=4) (d:=32) (v:=?_) rfl (Or.inl ⟨by rfl,?_⟩) g ?_;rotate_left
  ·intro k r;have b0:=(show Ext j k from r).cell_some c1.out id;(try dsimp only at r);go_simp;try with_reducible rfl
  try simp only [Act.put,pq]
  refine tE 5 33 g ?_;refine tE 6 34 g ?_;refine tE 7 35 g ?_;refine tE 8 36 g ?_;refine tkE (i:=9) (d:=37) (v:=?_) rfl (Or.inl ⟨by rfl,?_⟩) g ?_;rotate_left
  ·intro k r;have b0:=(show Ext j k from r).cell_some c2.out id;(try dsimp only at r);go_simp;try with_reducible rfl
  try simp only [Act.put,pq]
  refine rE [10] ?_;refine Q2.cons rfl (fun K hK=>?_) Q2.nil;refine iw rfl ?_;go_simp;refine(c6.out _ g).mono ?_;rintro e P ⟨rfl,b3⟩;have y:Ext j P:=g.trans b3;clear b3 g;refine hK _ _ y (fun _=>?_);clear hK K;try simp only [Act.put,pq]
  refine tE 11 8 y ?_;refine Z0 kz ?_ _;have c4:=Zh y;clear y c6 c1 c2;by_cases C:l9=0;case neg=>
   have p4:(l9 != 0)=true:=by simpa using C
   have B:=g6.out C;have I:=n6.out (by rw [B];exact C);rw [B] at I;clear B;subst I;have N:=b9.out C;subst N;go_wp2;refine bodyPost_ret (Qa rfl _ _ _) rfl ⟨_,_,rfl,World.ownsRow_nil _ _ _ _,O.out.trans c4.out⟩
  subst C;go_wp2;exact⟨⟨c+1,by omega,by first | trivial | rfl,rfl,g7.out,c4.out⟩,nz⟩
 obtain rfl:c=m:=by omega
 have G:¬ (c:Int)<(c:Int):=by omega
 have H:=a1.out;rw [List.take_of_length_le (by rw [n1.out];exact Nat.le_refl _)] at H;have m3:=Zh H;have M:=n7.out H;have J:=n8.out H;have c7:=Zh M;have c8:=Zh J;clear M J n6 n7 n8 H a1;have u:=m1.out D;unfold sV at u;have c5:=Zh u;have t3:=X.out.cell_some i1.out id;have t4:=X.out.cell_some i2.out id;clear u m1;go_wp2_with fail;refine c5.out.mono ?_;rintro e t7 ⟨rfl,b2⟩;have b1:=Zh (X.out.trans b2);clear c5 b2 t3 t4 X;cases r8 with
 | false=>
  have I:=c7.out uz;subst I;have N:=b9.out zd;subst N;go_wp2;refine bodyPost_ret (Qa rfl _ _ _) rfl ⟨_,_,rfl,World.ownsRow_nil _ _ _ _,O.out.trans b1.out⟩
 | true=>
 have I:=c8.out uz;have m8:=Zh I;clear I c7 c8;obtain⟨i0,j6⟩:=zE j.heap.size;have m9:=Zh j6;have p0:a6<=i0:=by have:=O.out.size;rw [g8.out,j6] at this;exact this
 have r7:=Zh p0;clear j6 p0;go_wp2
 refine wp_loop (fun a D=>∃(t:Nat) (e3:Option Addr) (e2:Nat),t<=c/\a.defers=[]/\gS a [0,1,5,10,11]=(89,[.slice lo n lc,.slice g3 c pc,.pointer (some ⟨a6,0,none⟩),.slice e3 t e2,.int .i64 t])/\D.ownsRow i0 4 1 (.slice e3 t e2) t (boV (c0.take t))/\Z2 (l8.take t)=0/\Ext j D)
  (fun a _=>c - (intOf (a.tmps.getD 11 undef)).toNat) ?_ ?_
 ·exact⟨0,none,0,by omega,rfl,rfl,World.ownsRow_nil _ _ _ _,rfl,b1.out⟩
 clear b1 G f9 d2;rintro⟨t1,_⟩ D ⟨t,e3,e2,t9,k0,d4,o3,H,Q⟩;subst k0;obtain⟨W,rfl⟩:=Qc d4;clear d4;obtain⟨e0,a1,X⟩:=Zh3 o3 H Q;clear o3 H Q;by_cases f6:t<c;case neg=>
  obtain rfl:t=c:=by omega
  have G:¬ (t:Int)<(t:Int):=by omega
  have H:=a1.out;rw [List.take_of_length_le (by rw [n2.out];exact Nat.le_refl _),<-m8.out] at H;subst H;have N:=q0.out uz;subst N;have l1:=e0.out;rw [List.take_of_length_le (by rw [e1.out];exact Nat.le_refl _)] at l1;have r2:=Zh (Z9 l1 r7.out);clear l1 e0;go_wp2;refine bodyPost_ret (Qa rfl _ _ _) rfl ⟨e3,e2,by rw [e1.out];rfl,by rw [e1.out,g8.out];exact r2.out,O.out.trans X.out⟩
 have G:(t:Int)<(c:Int):=by omega
 have s2:(0:Int)<=(t:Int):=by omega
 have a9:t<F.length:=by rw [d9.out];exact f6
 have U:t<f.length:=by rw [m5.out];exact f6
 have f8:t<l8.length:=by rw [n2.out];exact f6
 have k5:t<c0.length:=by rw [e1.out];exact f6
 obtain⟨s1,s9,d0,c9,d8,d7,rfl,Y,Z,z,u⟩:=Wu m7.out d9.out a9;have d1:=m4.out t a9 U;have b7:=q3.out t U;rw [List.getElem?_eq_getElem f8,Option.some.injEq] at b7;have a8:=q2.out t U;have b8:=q9.out t U m3.out;have V:=r5.out t U m3.out uz uz;have T:=Vu f8 a1.out;have B:=Ka f8 a1.out;have p1:c0.take (t+1)=c0.take t++[c0.getD t false]:=by rw [List.take_succ_eq_append_getElem k5,List.getD_eq_getElem?_getD,List.getElem?_eq_getElem k5];rfl
 rw [d1] at b7 a8 b8 V;obtain⟨⟨W,v⟩,d5⟩:=zE (F[t].1);rw [d5] at Y Z z u b7 a8 b8 V;dsimp only at Y Z z u b7 a8 b8 V;rw [b7] at T B;rw [<-m8.out] at B;have s3:=Jy b8.1;have s4:=Jy b8.2;have e8:=fun(k:World) (r:Ext j k)=>Lm (z.ext r) (u.ext r) r6.out oz;have R:=fun(k:World) (r:Ext j k)=>q4.out k (O.out.trans r) (z.ext r) (u.ext r);simp only [V.1,V.2] at R;unfold sV at R e8;obtain⟨a4,j1⟩:=zE (Qf W v (l,o));simp only [j1] at R e8;rw [j1] at T B a8;obtain⟨l5,i4⟩:=zE (Yd s a4);obtain⟨g4,i5⟩:=zE (Yj s a4);simp only [i4,i5] at R;rw [i4] at T B;rw [i5] at a8;obtain⟨g7,g6,m6,q6,c6,r0,c1,c2⟩:=Zh8 T B a8 p1 R e8 Y Z;have s6:IntKind.i64.wrap ((t:Int)+1)=(t:Int)+1:=IntWalk.i64_in _ oz;clear R e8 b7 a8 T B d1 d5 z u a9 U f8 k5 b8 s3 s4 V p1 j1 i4 i5 Y Z;go_upto_region 18 with (fail)
 have g:Ext j D.drew:=(X.out).drew;refine Z7 (S:=fun k=>Ext j k) [] kz g ?_;intro _;have b5:Ext D D.drew:=(Q0.refl _ D).drew;obtain⟨n9,a2⟩:=zE D.drew;rw [a2] at g b5 ⊢;clear a2;refine tE 0 52 g ?_;refine tE 1 53 g ?_;refine tE 2 54 g ?_;refine tE 3 55 g ?_;refine tE 4 56 g ?_;refine tkE (i:=5) (d:=57) (v:=?_) rfl (Or.inl ⟨by rfl,?_⟩) g ?_;rotate_left
 ·intro k r;have b0:=(show Ext j k from r).cell_some c1.out id;(try dsimp only at r);go_simp;try with_reducible rfl
 try simp only [Act.put,pq]
 refine tE 6 58 g ?_;refine tE 7 59 g ?_;refine tE 8 60 g ?_;refine tE 9 61 g ?_;refine tkE (i:=10) (d:=62) (v:=?_) rfl (Or.inl ⟨by rfl,?_⟩) g ?_;rotate_left
 ·intro k r;have b0:=(show Ext j k from r).cell_some c2.out id;(try dsimp only at r);go_simp;try with_reducible rfl
 try simp only [Act.put,pq]
 refine tkE (i:=11) (d:=63) (v:=?_) rfl (Or.inl ⟨by rfl,?_⟩) g ?_;rotate_left
 ·intro k r;have b0:=(show Ext j k from r).cell_some i1.out id;have t0:=(show Ext j k from r).cell_some i2.out id;(try dsimp only at r);go_simp;try with_reducible rfl
 try simp only [Act.put,pq]
 refine rE [12] ?_;refine Q2.cons rfl (fun K hK=>?_) Q2.nil;refine iw rfl ?_;go_simp;refine(c6.out _ g).mono ?_;rintro e P ⟨t8,rfl,d3,b3⟩;have n0:=Zh (b3);have y:Ext j P:=g.trans b3;clear b3;refine hK _ _ y (fun _=>?_);clear hK K;try simp only [Act.put,pq]
 refine tE 13 51 y ?_;refine tE 14 65 y ?_;refine tE 15 66 y ?_;refine tE 16 12 y ?_;refine tE 17 13 y ?_;refine Z0 kz ?_ _;have c4:=Zh y;have r3:=Zh (Q6 e0.out (b5.trans n0.out));obtain⟨vo,vc,rfl,p7⟩:=Jg d3;have q7:=Zh p7;clear y g b5 n0 e0 X c6 d3 p7;by_cases C:l5=0;case neg=>
  have p4:(l5 != 0)=true:=by simpa using C
  have I:=g6.out C;subst I;have N:=b9.out C;subst N;go_wp2;refine bodyPost_ret (Qa rfl _ _ _) rfl ⟨_,_,rfl,World.ownsRow_nil _ _ _ _,O.out.trans c4.out⟩
 subst C;go_upto_region 21 with (fail)
 have g:Ext j P.drew:=(c4.out).drew;refine Z7 (S:=fun k=>Ext j k) [] kz g ?_;intro _;have b5:Ext P P.drew:=(Q0.refl _ P).drew;obtain⟨n9,a2⟩:=zE P.drew;rw [a2] at g b5 ⊢;clear a2;refine tE 0 70 g ?_;refine tE 1 71 g ?_;refine tE 2 72 g ?_;refine tE 3 73 g ?_;refine tE 4 74 g ?_;refine tE 5 75 g ?_;refine tkE (i:=6) (d:=76) (v:=?_) rfl (Or.inl ⟨by rfl,?_⟩) g ?_;rotate_left
 ·intro k r;have b0:=(show Ext j k from r).cell_some c1.out id;(try dsimp only at r);go_simp;try with_reducible rfl
 try simp only [Act.put,pq]
 refine tE 7 77 g ?_;refine tE 8 78 g ?_;refine tE 9 79 g ?_;refine tE 10 80 g ?_;refine tkE (i:=11) (d:=81) (v:=?_) rfl (Or.inl ⟨by rfl,?_⟩) g ?_;rotate_left
 ·intro k r;have b0:=(show Ext j k from r).cell_some c2.out id;(try dsimp only at r);go_simp;try with_reducible rfl
 try simp only [Act.put,pq]
 refine tkE (i:=12) (d:=82) (v:=?_) rfl (Or.inl ⟨by rfl,?_⟩) g ?_;rotate_left
 ·intro k r;have b0:=(show Ext j k from r).cell_some i1.out id;have t0:=(show Ext j k from r).cell_some i2.out id;(try dsimp only at r);go_simp;try with_reducible rfl
 try simp only [Act.put,pq]
 refine rE [13] ?_;refine Q2.cons rfl (fun K hK=>?_) Q2.nil;refine iw rfl ?_;go_simp;refine(r0.out _ g).mono ?_;rintro e o0 ⟨u1,u0,rfl,d3,i7⟩;have y:Ext j o0:=g.trans i7;have j7:Ext P o0:=b5.trans i7;obtain⟨_,_,s5,p6⟩:=Jg d3;cases s5;have f5:=Sx (q7.out.ext j7) p6;have p2:decide (g4=a4)=decide (a4=g4):=decide_eq_decide.2 eq_comm;rw [p2] at f5;obtain⟨g9,o5⟩:=zE (decide (a4=g4));rw [o5] at f5 m6;have m2:=Zh f5;clear i7 g d3 p6 f5 p2 o5;refine hK _ _ y (fun _=>?_);clear hK K;try simp only [Act.put,pq]
 refine rE [14] ?_;refine Q2.cons rfl (fun K hK=>?_) Q2.nil;refine iw rfl ?_;go_simp;refine m2.out.mono ?_;rintro e a5 ⟨rfl,i8⟩;have f0:Ext j a5:=y.trans i8;have o8:Ext P a5:=j7.trans i8;clear i8 y j7 m2;refine hK _ _ f0 (fun _=>?_);clear hK K;try simp only [Act.put,pq]
 refine tE 15 85 f0 ?_;refine rE [16] ?_;refine Q2.cons rfl (fun K hK=>?_) Q2.nil;refine iw rfl ?_;go_simp;have e4:Ext a5 (a5.alloc (.cells #[.bool (!g9)] 4)):=(Q0.refl _ a5).alloc _;have l4:=Qbu a5 (!g9);obtain⟨r9,o9⟩:=zE (a5.alloc (.cells #[.bool (!g9)] 4));rw [o9] at e4 l4 ⊢;have f1:Ext j r9:=f0.trans e4;have j3:=Q6 r3.out (o8.trans e4);clear e4 f0 o8 o9;refine hK _ _ f1 (fun _=>?_);clear hK K;try simp only [Act.put,pq]
 refine rE [17] ?_;refine Q2.cons rfl (fun K hK=>?_) Q2.nil;refine iw rfl ?_;refine Hx (.tmp 70) (.tmp 86) 65 rfl i0 4 _ 1 1 Tryz.underlying65 T3 rfl zd _ _ _ rfl j3 _ _ _ _ rfl l4 (by intro W z;simp at z;subst z;rfl) (by unfold maxLen;omega) oz ?c3 ?_
 case' c3=>have:=f1.size;rw [m9.out] at this;exact this
 intro s8 s7 s0 o4 o7 _;have f2:Ext j s0:=f1.after o7 (fun b hb e=>by have:=(j3.lt b e).1;rw [<-m9.out] at this;omega);refine hK _ _ f2 (fun _=>?_);clear hK K;try simp only [Act.put,pq]
 refine tE 18 10 f2 ?_;refine Z0 kz ?_ _;have r4:=Zh o4;have q8:=Zh f2;clear o4 f2 f1 j3 l4 o7;go_wp2;exact⟨⟨t+1,s8,s7,by omega,by first | trivial | rfl,rfl,by have:=r4.out;rw [q6.out,m6.out];simpa [boV] using this,g7.out,q8.out⟩,nz⟩
def Hn(ls:List Q7)(fr:List (Wd × Wd)) (s:Nat × Nat):Bool:=if Ye ls fr s=0 then Xa (Js ls fr s) true && Xa (Js ls fr s) false else false
theorem Qaj{w:World}{ps:Qr}{lo:Option Addr}{n lc:Nat}{d:Fq}{W:Option Addr}{m pc:Nat}{a c:Nat}(Q:Qt w (.slice lo n lc) ps) (S:ps.length=n) (U:Gf w (.slice W m pc) d) (R:d.length=m) (V:Qh (a,c)) (P:Tab w) :
  Calls Tryz.prog 42 #[.slice lo n lc,.slice W m pc,.agg #[.int .u32 (a:Int),.int .u32 (c:Int)]] w fun e w'=>e=.returned (.tuple #[.bool (Hn (ps.map (·.1)) (d.map (·.1)) (a,c)),.int .i64 (Ye (ps.map (·.1)) (d.map (·.1)) (a,c))])/\Ext w w':=by
 have g:=fun(f:World) (hE:Ext w f)=>R2 (Q.ext hE) S (U5 U hE) R V (P.keep hE id) (lc:=lc) (pc:=pc);have C:Ye (ps.map (·.1)) (d.map (·.1)) (a,c)≠0->Hn (ps.map (·.1)) (d.map (·.1)) (a,c)=false:=fun h=>if_neg h;have q:Ye (ps.map (·.1)) (d.map (·.1)) (a,c)=0->Hn (ps.map (·.1)) (d.map (·.1)) (a,c)=(Xa (Js (ps.map (·.1)) (d.map (·.1)) (a,c)) true && Xa (Js (ps.map (·.1)) (d.map (·.1)) (a,c)) false):=fun h=>if_pos h;obtain⟨L,x⟩:=zE (Ye (ps.map (·.1)) (d.map (·.1)) (a,c));obtain⟨i,v⟩:=zE (Js (ps.map (·.1)) (d.map (·.1)) (a,c));obtain⟨a4,O⟩:=zE (Hn (ps.map (·.1)) (d.map (·.1)) (a,c));rw [x,O] at C q ⊢;rw [v] at q;simp only [x,v] at g;have u:Ext w (w.alloc (.cells #[.int .u32 (a:Int),.int .u32 (c:Int)] 26)):=(Q0.refl _ w).alloc _;have j:(w.alloc (.cells #[.int .u32 (a:Int),.int .u32 (c:Int)] 26)).heap[w.heap.size]?=some (.cells #[.int .u32 (a:Int),.int .u32 (c:Int)] 26 (0,0)):=Q3 rfl;obtain⟨k,G,H⟩:=Zh3 g C q;clear g C q x v O Q S U R V P;obtain⟨f,y⟩:=zE (w.alloc (.cells #[.int .u32 (a:Int),.int .u32 (c:Int)] 26));obtain⟨o,z⟩:=zE w.heap.size;rw [y] at u j;rw [z] at j;obtain⟨Z,J,r⟩:=Zh3 z y u;clear y z u;go_enter Tryz.func42,Tryz.ntmps42;go_upto_region 1 with (fail)
 rw [J.out,Z.out];clear J;have a2:f.cell? ⟨o,0,none⟩=some (.int .u32 (a:Int)):=by rw [cell_of_row _ _ _ _ _ _ j];rfl
 have a3:f.cell? ⟨o,1,none⟩=some (.int .u32 (c:Int)):=by rw [cell_of_row _ _ _ _ _ _ j];rfl
 clear j;go_wp2_with fail;refine(k.out f r.out).mono ?_;rintro e a7 ⟨a6,X,rfl,T,N⟩;have l:=Zh (Rd.of_own T);have s:=Zh (r.out.trans N);clear k N T a2 a3 r;by_cases F:L=0;case neg=>
  have a5:(L != 0)=true:=by simpa using F
  have D:=G.out F;subst D;go_wp2;refine bodyPost_ret (Qa rfl _ _ _) rfl ⟨rfl,s.out⟩
 subst F;have D:=H.out uz;subst D;obtain⟨K,p⟩:=zE i.length;rw [p] at l ⊢;have g:=Mx l.out p true (cap:=X);have t:=Mx l.out p false (cap:=X);obtain⟨M,A⟩:=zE (Xa i true);obtain⟨a0,B⟩:=zE (Xa i false);rw [A] at g;rw [B] at t;have k:=Zh g;have Y:=Zh t;have I:Hid ((Xa i true && Xa i false)=(M && a0)):=Zh (by rw [A,B]);clear g t p A B G H l;go_wp2_with fail;refine k.out.mono ?_;rintro e a1 ⟨rfl,rfl⟩;cases M
 ·go_wp2;refine bodyPost_ret (Qa rfl _ _ _) rfl ⟨by rw [I.out];rfl,s.out⟩
 ·go_wp2_with fail;refine Y.out.mono ?_;rintro e a1 ⟨rfl,rfl⟩;go_wp2;refine bodyPost_ret (Qa rfl _ _ _) rfl ⟨by rw [I.out];rfl,s.out⟩
theorem Q8w{w:World}{ps:Qr}{lo:Option Addr}{n lc:Nat}{g:Fq}{b7:Option Addr}{m pc:Nat}{c d:Nat}(a9:Qt w (.slice lo n lc) ps) (b2:ps.length=n) (b3:Gf w (.slice b7 m pc) g) (b1:g.length=m) (b4:Qh (c,d)) :
  Calls Tryz.prog 43 #[.slice lo n lc,.slice b7 m pc,.agg #[.int .u32 (c:Int),.int .u32 (d:Int)]] w fun e w'=>e=.returned (.tuple #[.bool (Hn (ps.map (·.1)) (g.map (·.1)) (c,d)),.int .i64 (Ye (ps.map (·.1)) (g.map (·.1)) (c,d))])/\Ext w w':=by
 have r:=fun(l:World) (hE:Ext w l)=>Ni (a9.ext hE) b2 (U5 b3 hE) b1 b4 (lc:=lc) (pc:=pc);have O:Ye (ps.map (·.1)) (g.map (·.1)) (c,d)≠0->Hn (ps.map (·.1)) (g.map (·.1)) (c,d)=false:=fun h=>if_neg h;have B:Ye (ps.map (·.1)) (g.map (·.1)) (c,d)=0->Hn (ps.map (·.1)) (g.map (·.1)) (c,d)=(Xa (Js (ps.map (·.1)) (g.map (·.1)) (c,d)) true && Xa (Js (ps.map (·.1)) (g.map (·.1)) (c,d)) false):=fun h=>if_pos h;obtain⟨a0,L⟩:=zE (Ye (ps.map (·.1)) (g.map (·.1)) (c,d));obtain⟨f,K⟩:=zE (Js (ps.map (·.1)) (g.map (·.1)) (c,d));obtain⟨b9,s⟩:=zE (Hn (ps.map (·.1)) (g.map (·.1)) (c,d));rw [L,s] at O B ⊢;rw [K] at B;simp only [L,K] at r;have I:Ext w (w.alloc (.cells #[.int .u32 (c:Int),.int .u32 (d:Int)] 26)):=(Q0.refl _ w).alloc _;have x:(w.alloc (.cells #[.int .u32 (c:Int),.int .u32 (d:Int)] 26)).heap[w.heap.size]?=some (.cells #[.int .u32 (c:Int),.int .u32 (d:Int)] 26 (0,0)):=Q3 rfl;obtain⟨V,T,U⟩:=Zh3 r O B;clear r O B L K s a9 b2 b3 b1 b4;obtain⟨l,M⟩:=zE (w.alloc (.cells #[.int .u32 (c:Int),.int .u32 (d:Int)] 26));obtain⟨A,N⟩:=zE w.heap.size;rw [M] at I x;rw [N] at x;obtain⟨b8,Z,D⟩:=Zh3 N M I;clear M N I;go_enter Tryz.func43,Tryz.ntmps43;go_upto_region 1 with (fail)
 rw [Z.out,b8.out];clear Z;have c4:l.cell? ⟨A,0,none⟩=some (.int .u32 (c:Int)):=by rw [cell_of_row _ _ _ _ _ _ x];rfl
 have c5:l.cell? ⟨A,1,none⟩=some (.int .u32 (d:Int)):=by rw [cell_of_row _ _ _ _ _ _ x];rfl
 clear x;go_wp2_with fail;refine(V.out l D.out).mono ?_;rintro e c3 ⟨c2,c1,rfl,P,a4⟩;have Y:=Zh (Rd.of_own P);have F:=Zh (D.out.trans a4);have b0:=(Rd.of_own P).2.1;clear V a4 P c4 c5 D;by_cases R:a0=0;case neg=>
  have d2:(a0 != 0)=true:=by simpa using R
  have Q:=T.out R;subst Q;go_wp2;refine bodyPost_ret (Qa rfl _ _ _) rfl ⟨rfl,F.out⟩
 subst R;have Q:=U.out uz;subst Q;obtain⟨j,J⟩:=zE f.length;rw [J] at Y b0 ⊢;unfold maxLen at b0;have W:=Zh J;clear J T U;obtain⟨b9,s⟩:=zE (Xa f true && Xa f false);have c6:=Zh s;clear s;go_wp2
 refine wp_loop (fun a a1=>∃(b:Nat) (i k:Bool),b<=j/\a.defers=[]/\gS a [8,10,11,12]=(37,[.slice c2 j c1,.bool i,.bool k,.int .i64 b])/\Xa (f.take b) true=i/\Xa (f.take b) false=k/\a1=c3)
  (fun a _=>j - (intOf (a.tmps.getD 12 undef)).toNat) ?_ ?_
 ·exact⟨0,false,false,by omega,rfl,rfl,rfl,rfl,rfl⟩
 rintro⟨d5,_⟩ a1 ⟨b,i,k,d1,c0,b5,a5,a6,rfl⟩;subst c0;obtain⟨d6,rfl⟩:=Qc b5;clear b5;have y:=Zh a5;have z:=Zh a6;clear a5 a6;by_cases a8:b<j;case neg=>
  obtain rfl:b=j:=by omega
  have r:¬ (b:Int)<(b:Int):=by omega
  have t:(Xa f true && Xa f false)=(i && k):=by
   have a2:=y.out;have a3:=z.out;rw [List.take_of_length_le (by rw [W.out];exact Nat.le_refl _)] at a2 a3;rw [a2,a3]
  have X:=Zh t;clear t y z;cases i
  ·go_wp2;refine bodyPost_ret (Qa rfl _ _ _) rfl ⟨by rw [X.out];rfl,F.out⟩
  ·go_wp2;refine bodyPost_ret (Qa rfl _ _ _) rfl ⟨by rw [X.out];rfl,F.out⟩
 have r:(b:Int)<(j:Int):=by omega
 have c9:(0:Int)<=(b:Int):=by omega
 have C:b<f.length:=by rw [W.out];exact a8
 obtain⟨c8,d4,c7,t,d0,a7⟩:=Z8 Y.out a8;simp only [zV,true_and] at t;obtain⟨rfl,rfl⟩:=t;rw [Ly f C] at a7;have o:=Nm C true;have p:=Nm C false;rw [y.out] at o;rw [z.out] at p;have d3:IntKind.i64.wrap ((b:Int)+1)=(b:Int)+1:=IntWalk.i64_in _ oz;obtain⟨S,b6⟩:=zE (f[b]);rw [b6] at a7 o p;clear b6 C y z;cases S
 ·have u:Xa (f.take (b+1)) true=i:=by rw [o];cases i <;> rfl
  have v:Xa (f.take (b+1)) false=true:=by rw [p];cases k <;> rfl
  have G:=Zh u;have H:=Zh v;clear o p u v;go_wp2;exact⟨⟨b+1,i,true,by omega,by first | trivial | rfl,rfl,G.out,H.out,by first | trivial | rfl⟩,nz⟩
 ·have u:Xa (f.take (b+1)) true=true:=by rw [o];cases i <;> rfl
  have v:Xa (f.take (b+1)) false=k:=by rw [p];cases k <;> rfl
  have G:=Zh u;have H:=Zh v;clear o p u v;go_wp2;exact⟨⟨b+1,true,k,by omega,by first | trivial | rfl,rfl,G.out,H.out,by first | trivial | rfl⟩,nz⟩
theorem Q9x(W:World)(d:Option Addr)(a c:Nat)(g:Option Addr)(b f:Nat)(i:a<=maxLen)(l:b<=maxLen):Q0w (W.alloc (.cells #[.slice d a c,.slice g b f] 23)) (.slice (some ⟨W.heap.size,0,none⟩) 2 2) [.slice d a c,.slice g b f]:=by
 refine⟨⟨by simp,by unfold maxLen;simp,_,_,rfl,fun _=>⟨_,_,rfl,(Array.getElem?_eq_some_iff.1 (Q3 rfl)).1,fun j hj=>?_⟩⟩,?_⟩
 ·have k:j=0\/j=1:=by simp at hj;omega
  rcases k with rfl | rfl <;> (rw [cell_of_row _ _ _ _ _ _ (Q3 rfl)];rfl)
 ·intro m e;simp only [List.mem_cons,List.not_mem_nil,or_false] at e;rcases e with rfl | rfl
  ·exact⟨_,_,_,rfl,i⟩
  ·exact⟨_,_,_,rfl,l⟩
theorem Q2q{w:World}{ps:Qr}{lo:Option Addr}{n lc:Nat}{B:Fq}{a7:Option Addr}{m pc:Nat}{o p:Nat}(M:Qt w (.slice lo n lc) ps) (N:ps.length=n) (f3:n<=lc) (F:Gf w (.slice a7 m pc) B) (C:B.length=m) (U:Qh (o,p)) (a3:Tab w) :
  Calls Tryz.prog 8 #[.slice lo n lc,.slice a7 m pc,.agg #[.int .u32 (o:Int),.int .u32 (p:Int)]] w fun e w'=>e=.returned (.bool true)/\Ext w w':=by
 have f1:=F.1.2.1;rw [C] at f1;unfold maxLen at f1;have a0:=fun(c:World) (b:Ext w c)=>Lg (M.ext b) N f3;have b4:=fun(c:World) (b:Ext w c)=>R2 (M.ext b) N (U5 F b) C U (a3.keep b id) (lc:=lc) (pc:=pc);have b5:=fun(c:World) (b:Ext w c)=>Ni (M.ext b) N (U5 F b) C U (lc:=lc) (pc:=pc);have b6:=fun(c:World) (b:Ext w c)=>Qaj (M.ext b) N (U5 F b) C U (a3.keep b id) (lc:=lc) (pc:=pc);have b7:=fun(c:World) (b:Ext w c)=>Q8w (M.ext b) N (U5 F b) C U (lc:=lc) (pc:=pc);obtain⟨k0,e7⟩:=zE (Ye (ps.map (·.1)) (B.map (·.1)) (o,p));obtain⟨g7,e5⟩:=zE (Js (ps.map (·.1)) (B.map (·.1)) (o,p));obtain⟨j9,e6⟩:=zE (Hn (ps.map (·.1)) (B.map (·.1)) (o,p));simp only [e7,e5,e6] at b4 b5 b6 b7;have b9:Ext w (w.alloc (.cells #[.int .u32 (o:Int),.int .u32 (p:Int)] 26)):=(Q0.refl _ w).alloc _;have V:(w.alloc (.cells #[.int .u32 (o:Int),.int .u32 (p:Int)] 26)).heap[w.heap.size]?=some (.cells #[.int .u32 (o:Int),.int .u32 (p:Int)] 26 (0,0)):=Q3 rfl;obtain⟨c6,c7,c8,c9,d0,g5,d4,d6⟩:=Zh8 a0 b4 b5 b6 b7 F C a3;clear a0 b4 b5 b6 b7 e7 e5 e6 M N f3 F C U a3;obtain⟨c,c0⟩:=zE (w.alloc (.cells #[.int .u32 (o:Int),.int .u32 (p:Int)] 26));obtain⟨R,c1⟩:=zE w.heap.size;rw [c0] at b9 V;rw [c1] at V;obtain⟨g6,d7,f⟩:=Zh3 c1 c0 b9;clear c0 c1 b9;have g3:c.cell? ⟨R,0,none⟩=some (.int .u32 (o:Int)):=by rw [cell_of_row _ _ _ _ _ _ V];rfl
 have g4:c.cell? ⟨R,1,none⟩=some (.int .u32 (p:Int)):=by rw [cell_of_row _ _ _ _ _ _ V];rfl
 have W:=Zh g3;have X:=Zh g4;clear V g3 g4;go_enter Tryz.func8,Tryz.ntmps8;go_upto_region 1 with (fail)
 rw [d7.out,g6.out];clear d7;go_wp2_with fail;refine(c6.out c f.out).mono ?_;rintro e j8 ⟨l,rfl,S⟩;have i:=Zh S;clear c6 S;have f9:∀(d:World),Ext w d->Calls Tryz.prog 16 #[] d fun e w'=>e=.returned (.bool true)/\Ext d w':=fun d b=>Xj d (d6.out.keep b id);have b1:=Zh f9;clear f9 d6;by_cases c2:l=true/\¬ (12<n/\n<=64)/\m<=300/\¬ (20<m/\m<=256);case neg=>
  have i7:l=false\/(l=true/\(12<n/\n<=64))\/(l=true/\¬ 12<n/\300<m)\/(l=true/\64<n/\300<m)\/(l=true/\¬ 12<n/\m<=300/\20<m/\m<=256)\/(l=true/\64<n/\m<=300/\20<m/\m<=256):=by
   cases l
   ·exact .inl rfl
   ·refine .inr ?_;simp only [true_and] at c2 ⊢;omega
  clear c2;rcases i7 with rfl | ⟨rfl,K,e1⟩ | ⟨rfl,K,b3⟩ | ⟨rfl,K,b3⟩ | ⟨rfl,K,b3,i3,i4⟩ | ⟨rfl,K,b3,i3,i4⟩
  all_goals
   try have j2:(n:Int) > 12:=by omega
   try have j3:¬ (n:Int) > 12:=by omega
   try have k5:(n:Int)<=64:=by omega
   try have j4:¬ (n:Int)<=64:=by omega
   try have k6:(m:Int) > 300:=by omega
   try have g0:¬ (m:Int) > 300:=by omega
   try have j5:(m:Int) > 20:=by omega
   try have j6:(m:Int)<=256:=by omega
   go_wp2_with fail;refine(b1.out j8 (f.out.trans i.out)).mono ?_;rintro e g2 ⟨rfl,t⟩;have Q:=Zh (f.out.trans (i.out.trans t));clear t i;go_wp2;go_ret;exact⟨rfl,Q.out⟩
 obtain⟨rfl,j1,k4,j0⟩:=c2;have i6:¬ 12<n\/64<n:=by omega
 have i5:¬ 20<m\/256<m:=by omega
 clear j1 j0;rcases i6 with K | K <;> rcases i5 with e1 | e1
 all_goals
  try have j2:(n:Int) > 12:=by omega
  try have j3:¬ (n:Int) > 12:=by omega
  try have j4:¬ (n:Int)<=64:=by omega
  try have j5:(m:Int) > 20:=by omega
  try have k7:¬ (m:Int) > 20:=by omega
  try have j6:¬ (m:Int)<=256:=by omega
  have g0:¬ (m:Int) > 300:=by omega
  go_wp2;clear g0
  refine wp_loop (fun a d=>∃(g:Nat),g<=m/\a.defers=[]/\gS a [0,1,5,46,47,48]=(110,[.slice lo n lc,.slice a7 m pc,.pointer (some ⟨R,0,none⟩),.slice a7 m pc,.int .i64 m,.int .i64 g])/\Ext c d)
   (fun a _=>m - (intOf (a.tmps.getD 48 undef)).toNat) ?_ ?_
  ·exact⟨0,by omega,rfl,rfl,i.out⟩
  clear i;rintro⟨l0,_⟩ d ⟨g,i9,i8,f5,b⟩;subst i8;obtain⟨g1,rfl⟩:=Qc f5;clear f5;have r:=Zh b;clear b;by_cases e9:g<m;case pos=>
   have a0:(g:Int)<(m:Int):=by omega
   have k3:(0:Int)<=(g:Int):=by omega
   have f0:g<B.length:=by rw [d4.out];exact e9
   obtain⟨k2,k9,A,z,H,G,rfl,Y,Z,a5,a6⟩:=Wu (U5 g5.out (f.out.trans r.out)) d4.out f0;obtain⟨⟨g1,j7⟩,f7⟩:=zE (B[g].1);rw [f7] at Y Z a5 a6;dsimp only at Y Z a5 a6;have c4:=a5.1.2.1;have c5:=a6.1.2.1;obtain⟨I,f6⟩:=zE g1.length;obtain⟨J,f8⟩:=zE j7.length;rw [f6] at Y c4;rw [f8] at Z c5;obtain⟨u,b8⟩:=zE d.heap.size;have a4:(d.alloc (.cells #[.slice A I z,.slice H J G] 63)).heap[u]?=some (.cells #[.slice A I z,.slice H J G] 63 (0,0)):=Q3 b8.symm;have e3:Ext d (d.alloc (.cells #[.slice A I z,.slice H J G] 63)):=(Q0.refl _ d).alloc _;have d2:=Zh b8;have a8:=Zh e3;clear e3 f7 a5 a6 f0 f6 f8;go_upto_region 6 with (fail)
   obtain⟨s,e8⟩:=zE (d.alloc (.cells #[.slice A I z,.slice H J G] 63));rw [e8] at a4 a8 ⊢;try rw [d2.out]
   have i1:s.cell? ⟨u,0,none⟩=some (.slice A I z):=by rw [cell_of_row s u 0 _ _ _ a4];rfl
   have i2:s.cell? ⟨u,1,none⟩=some (.slice H J G):=by rw [cell_of_row s u 1 _ _ _ a4];rfl
   have e2:Ext s (s.alloc (.cells #[.slice A I z,.slice H J G] 23)):=(Q0.refl _ s).alloc _;have f4:=Et (Q9x s A I z H J G c4 c5) rfl;have d5:=Zh f4;have d1:=Zh (a8.out.trans e2);clear a4 e8 b8 d2 Y Z f4 e2 c4 c5 a8;go_wp2_with fail;refine d5.out.mono ?_;rintro e b2 ⟨l,rfl,_,L⟩;have k:=Zh (r.out.trans (d1.out.trans L));clear L d1 d5 i1 i2 r;cases l
   ·go_wp2_with fail;refine(b1.out b2 (f.out.trans k.out)).mono ?_;rintro e g2 ⟨rfl,t⟩;have Q:=Zh (f.out.trans (k.out.trans t));clear t k;go_wp2;go_ret;exact⟨rfl,Q.out⟩
   ·go_wp2;exact⟨⟨g+1,by omega,by first | trivial | rfl,rfl,k.out⟩,nz⟩
  obtain rfl:g=m:=by omega
  have a0:¬ (g:Int)<(g:Int):=by omega
  clear e9 i9;have v:=r.out.cell_some W.out id;have y:=r.out.cell_some X.out id;have j:=Zh (c7.out d (f.out.trans r.out));go_wp2_with fail;refine j.out.mono ?_;rintro e g8 ⟨l3,l1,rfl,T,S⟩;have P:=Zh (Rd.of_own T);have i:=Zh (r.out.trans S);clear T S r v y j c7;have v:=i.out.cell_some W.out id;have y:=i.out.cell_some X.out id;have j:=Zh (c8.out g8 (f.out.trans i.out));go_wp2_with fail;refine j.out.mono ?_;rintro e b2 ⟨l4,l2,rfl,T,L⟩;obtain⟨d9,d8,k⟩:=Zh3 (Rd.of_own T) (P.out.ext L) (i.out.trans L);clear T L i v y j c8 P;have v:=k.out.cell_some W.out id;have y:=k.out.cell_some X.out id;have j:=Zh (c9.out b2 (f.out.trans k.out));go_wp2_with fail;refine j.out.mono ?_;rintro e g9 ⟨rfl,a1⟩;obtain⟨P,e0,O⟩:=Zh3 (d8.out.ext a1) (d9.out.ext a1) (k.out.trans a1);clear a1 k v y j c9 d8 d9;have v:=O.out.cell_some W.out id;have y:=O.out.cell_some X.out id;have j:=Zh (d0.out g9 (f.out.trans O.out));go_wp2_with fail;refine j.out.mono ?_;rintro e k1 ⟨rfl,a2⟩;have c3:=Qei (P.out.ext a2) (e0.out.ext a2);rw [decide_eq_true rfl] at c3;have b0:=Zh c3;have d3:=Zh (O.out.trans a2);clear a2 O v y j d0 P e0 c3;obtain⟨k8,f2⟩:=zE g7.length;rw [f2] at b0 ⊢;clear f2;go_wp2_with fail;refine b0.out.mono ?_;rintro e i0 ⟨rfl,e4⟩;have a9:=Zh (d3.out.trans e4);clear e4 d3 b0;go_wp2_with fail;refine(b1.out i0 (f.out.trans a9.out)).mono ?_;rintro e g2 ⟨rfl,t⟩;have Q:=Zh (f.out.trans (a9.out.trans t));clear t a9;go_wp2;go_ret;exact⟨rfl,Q.out⟩
end Go.Proofs.YtejenndedjabhaaGreatDoor
