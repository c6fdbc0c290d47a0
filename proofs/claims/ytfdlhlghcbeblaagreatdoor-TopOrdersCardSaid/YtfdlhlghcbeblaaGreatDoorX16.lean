/- slices.ContainsFunc over laws; derive.Check (printed by genderchk.py). -/
import Derived.Test.YtfdlhlghcbeblaaGreatDoorX15
set_option maxRecDepth 100000
set_option maxHeartbeats 16000000
namespace Go.Proofs.YtfdlhlghcbeblaaGreatDoor
open Go.RowKit Go.Ab
attribute [local go_sem] Oper.semAt_some Z8 Qp
theorem Q0t{w:World}{ao:Option Addr}{N cap:Nat}{ps:Qk}(H:Qv w (.slice ao N cap) ps) (E:ps.length=N) (U:N<=maxLen) (f:Nat) (lb:Array Value) (m:∀ args w,(callFunc f args).run Tryz.prog w=.ok (.enter f args) w)
  (F:Q2->Bool) (D:∀ p∈ps,∀ V,Ext w V->Calls Tryz.prog f (#[.agg p.2.toArray]++lb) V fun e w'=>e=.returned (.bool (F p.1))/\Ext V w') :
  Calls Tryz.prog 187 #[.slice ao N cap,.func (.func f) #[] lb] w fun e w'=>∃ z:Int,e=.returned (.int .i64 z)/\decide (0<=z)=ps.any (fun p=>F p.1)/\Ext w w':=by
 unfold maxLen at U;obtain⟨M,L,y,K⟩:=Zh4 H D E m;clear H D E m;go_enter Tryz.func187,Tryz.ntmps187;go_wp2
 refine wp_loop (fun a r=>∃(b:Nat),b<=N/\a.defers=[]/\gS a [0,1,7,8]=(19,[.slice ao N cap,.func (.func f) #[] lb,.int .i64 N,.int .i64 b])/\(ps.take b).any (fun p=>F p.1)=false/\Ext w r)
  (fun a _=>N - (intOf (a.tmps.getD 8 undef)).toNat) ?_ ?_
 ·exact⟨0,by omega,rfl,rfl,by simp,Q0.refl _ _⟩
 rintro⟨a4,_⟩ r ⟨b,a3,R,J,G,g⟩;subst R;obtain⟨a5,rfl⟩:=Z0 J;clear J;have u:=Zh G;clear G;by_cases S:b<N
 ·have Q:(b:Int)<(N:Int):=by omega
  have a1:(0:Int)<=(b:Int):=by omega
  have n:b<ps.length:=by rw [y.out];exact S
  obtain⟨P,X,a0,I,a2,o,T,l⟩:=(M.out.ext g).at n;simp only [zV] at I;obtain⟨rfl,W,rfl⟩:=I;clear W;have i:=L.out _ (List.getElem_mem n) r g;obtain⟨j,q⟩:=zE (ps[b]);have Y:Hid (ps[b]=j):=Zh q;rw [q] at o l i;obtain⟨k,s⟩:=zE (F j.1);rw [s] at i;have v:Hid (F ps[b].1=k):=Zh (by rw [q];exact s);obtain⟨a6,O⟩:=j;dsimp only at o l i;obtain⟨x,A,t⟩:=Zh3 i o l;clear i q s o l T;have m:=K.out
  go_wp2_with (refine X9 (by rfl) 102 (.tmp 14) rfl P (X+b*18) zr O _ A.out Tryz.underlying102 rfl (by rw [t.out];kernel_rfl) ?_)
  clear m;refine x.out.mono ?_;rintro e Z ⟨rfl,C⟩;have B:=g.trans C;clear x g C A t;cases k
  ·have c:(ps.take (b+1)).any (fun p=>F p.1)=false:=by
    rw [List.take_succ_eq_append_getElem n,List.any_append,u.out];simp [v.out]
   have d:=Zh c;clear c;go_wp2;exact⟨⟨b+1,by omega,tz,rfl,d.out,B⟩,nz⟩
  ·have c:ps.any (fun p=>F p.1)=true:=List.any_eq_true.2 ⟨_,List.getElem_mem n,v.out⟩;have d:=Zh c;clear c;go_wp2;go_ret;exact⟨_,rfl,by rw [d.out];simp,B⟩
 ·obtain rfl:b=N:=by omega
  have Q:¬ (b:Int)<(b:Int):=by omega
  have c:ps.any (fun p=>F p.1)=false:=by have:=u.out;rwa [List.take_of_length_le (by rw [y.out];exact Nat.le_refl _)] at this
  have d:=Zh c;clear c;go_wp2;go_ret;exact⟨_,rfl,by rw [d.out];simp,g⟩
theorem R9{w:World}{ao:Option Addr}{N cap:Nat}{ps:Qk}(g:Qv w (.slice ao N cap) ps) (c:ps.length=N) (m:N<=maxLen) (a:Nat) (lb:Array Value) (d:∀ args w,(callFunc a args).run Tryz.prog w=.ok (.enter a args) w)
  (F:Q2->Bool) (b:∀ p∈ps,∀ V,Ext w V->Calls Tryz.prog a (#[.agg p.2.toArray]++lb) V fun e w'=>e=.returned (.bool (F p.1))/\Ext V w') :
  Calls Tryz.prog 147 #[.slice ao N cap,.func (.func a) #[] lb] w fun e w'=>e=.returned (.bool (ps.any fun p=>F p.1))/\Ext w w':=by
 have f:=Q0t g c m (cap:=cap) a lb d F b;have j:=Zh f;clear f b g d c;go_enter Tryz.func147,Tryz.ntmps147;go_wp2_with fail;refine j.out.mono ?_;rintro e n ⟨o,rfl,i,l⟩;have k:=Zh i;clear i;go_wp2;go_ret;exact⟨by rw [<-k.out];rfl,l⟩
theorem Cr{w:World}{l:Q2}{cs:List Value}(g:Zk w l cs)(z:Tab w) :
  Calls Tryz.prog 148 #[.agg cs.toArray] w fun e w'=>e=.returned (.bool (!Zm l))/\Ext w w':=by
 have f:=fun(V:World) (hE:Ext w V)=>Wg (g.ext hE) (z.keep hE id);obtain⟨L,E,Q,G,J,p,r,M,k,t,F,R,H,K,q,s,N,m,u,C,n,B,P,o,O,I,rfl,Y,a6,a7,X,a5,a4,a0,a1,a2,a3,Z,a8,a9,b0,b1,b2⟩:=Zx g;have d:Ke l=if Zm l=true then 0 else 17:=rfl
 obtain⟨a,A⟩:=zE (Zm l);rw [A] at d ⊢;rw [d] at f;have j:=Zh f;clear f g z d A;go_enter Tryz.func148,Tryz.ntmps148;go_upto_region 1 with (fail)
 obtain⟨S,b⟩:=zE (w.alloc (.cells #[.string L,.int .i64 E,.int .u32 (Q:Int),.int .u32 (G:Int),.bool J,.int .i64 p,.int .i64 r,.slice M k t,.int .i64 F,.int .u32 (R:Int),.int .u32 (H:Int),.bool K,.int .i64 q,.int .i64 s,.slice N m u,.slice C n B,.slice P o O,.int .i64 I] 102));have x:Ext w S:=by rw [<-b];exact(Q0.refl _ w).alloc _
 have i:S.heap[w.heap.size]?=some (.cells #[.string L,.int .i64 E,.int .u32 (Q:Int),.int .u32 (G:Int),.bool J,.int .i64 p,.int .i64 r,.slice M k t,.int .i64 F,.int .u32 (R:Int),.int .u32 (H:Int),.bool K,.int .i64 q,.int .i64 s,.slice N m u,.slice C n B,.slice P o O,.int .i64 I] 102 (0,0)):=by rw [<-b];exact Q5 rfl
 rw [b];obtain⟨T,v⟩:=zE w.heap.size;rw [v] at i ⊢;have W:=Zh i;have c:=Zh x;clear b i v x
 go_wp2_with (refine wpList_load_row rfl 102 (.tmp 1) rfl T rfl _ _ _ _ W.out Tryz.underlying102 rfl Tryz.lawInfo ?_)
 refine(j.out _ c.out).mono ?_;rintro e b3 ⟨rfl,y⟩;have U:=Zh (c.out.trans y);clear y j c;cases a
 all_goals
  go_wp2;go_ret;exact⟨rfl,U.out⟩
theorem W4{w:World}{ps:Qk}{lo:Option Addr}{n lc:Nat}(f:Qv w (.slice lo n lc) ps) (g:ps.length=n) (o:Tab w) :
  Calls Tryz.prog 99 #[.slice lo n lc] w fun e w'=>e=.returned (.int .i64 (Yj (ps.map (·.1))))/\Ext w w':=by
 have q:n<=maxLen:=by rw [<-g];exact f.1.2.1
 have k:=R9 f g q 148 #[] (enters_of Tryz.func148 kz rfl) (fun l=>!Zm l) (fun a d V c=>Cr ((f.2 a d).ext c) (o.keep c id));have r:Yj (ps.map (·.1))=if 64<n then 12 else if (ps.any fun a=>!Zm a.1)=true then 17 else 0:=by
  unfold Yj;rw [List.length_map,g];by_cases b:64<n
  ·rw [if_pos b,if_pos b]
  ·rw [if_neg b,if_neg b];cases h2:ps.any fun a=>!Zm a.1 with
   | false=>rw [if_pos (by rw [List.all_map,List.all_eq_true];intro a d;have:=List.any_eq_false.1 h2 a d;simpa using this)];rfl
   | true=>rw [if_neg (by rw [List.all_map,List.all_eq_true];intro u;obtain⟨a,d,m⟩:=List.any_eq_true.1 h2;have:=u a d;simp at m this;rw [m] at this;cases this)];rfl
 rw [r];obtain⟨j,p⟩:=zE (ps.any fun a=>!Zm a.1);rw [p] at k ⊢;unfold maxLen at q;have i:=Zh k;clear k r p f g o;go_enter Tryz.func99,Tryz.ntmps99;by_cases b:64<n
 ·have t:(n:Int) > 64:=by omega
  rw [if_pos b];clear i;go_wp2;go_ret;exact⟨rfl,Q0.refl _ _⟩
 have t:¬ (n:Int) > 64:=by omega
 rw [if_neg b];go_wp2_with fail;refine i.out.mono ?_;rintro e v ⟨rfl,c⟩;have s:=Zh c;clear c i;cases j
 all_goals
  go_wp2;go_ret;exact⟨rfl,s.out⟩
theorem Ea{w:World}{ps:Qk}{lo:Option Addr}{n lc:Nat}{vo:Option Addr}{vn vc:Nat}{ws:Wd}{g:Nat}(H:Qv w (.slice lo n lc) ps) (I:ps.length=n) (M:Qa w (.slice vo vn vc) ws) (E:w.heap[g]?=some (.cells #[.slice vo vn vc] 99 (0,0))) (D:Tab w) :
  Calls Tryz.prog 79 #[.slice lo n lc,.slice (some ⟨g,0,none⟩) 1 1] w fun e w'=>e=.returned (.int .i64 (Uu (ps.map (·.1)) ws))/\Ext w w':=by
 have v:=fun(V:World) (b:Ext w V)=>W4 (H.ext b) I (D.keep b id);have z:=fun(V:World) (b:Ext w V)=>U4 (M.ext b);unfold Uu;obtain⟨c,s⟩:=zE (Yj (ps.map (·.1)));obtain⟨d,t⟩:=zE (wE ws);simp only [s] at v;simp only [t] at z;rw [s,t];obtain⟨l,m⟩:=zE (if c=0 then d else c);have J:c≠0->l=c:=fun h=>by rw [<-m,if_neg h]
 have K:c=0->l=d:=fun h=>by rw [<-m,if_pos h]
 rw [m];have N:=Zh J;have O:=Zh K;clear m J K;obtain⟨o,k,j⟩:=Zh3 v z E;clear v z s t H I M E D;go_enter Tryz.func79,Tryz.ntmps79;go_wp2_with fail;refine(o.out _ (Q0.refl _ _)).mono ?_;rintro e Y ⟨rfl,r⟩;by_cases q:c=0;case neg=>
  have Q:(c != 0)=true:=by rw [bne_iff_ne];exact q
  have y:c=l:=(N.out q).symm;subst y;clear o k j;go_wp2;go_ret;exact⟨rfl,r⟩
 subst q;have y:d=l:=(O.out uz).symm;subst y;have i:=Zh r;clear r o;go_wp2
 refine wp_loop (fun a A=>∃(f:Nat),f<=1/\a.defers=[]/\gS a [17,18,19]=(29,[.slice (some ⟨g,0,none⟩) 1 1,.int .i64 1,.int .i64 f])/\(f=1->d=0)/\Ext w A)
  (fun a _=>(1 - intOf (a.tmps.getD 19 undef)).toNat) ?_ ?_
 ·exact⟨0,by omega,rfl,rfl,fun h=>by omega,i.out⟩
 clear i;rintro⟨W,_⟩ A ⟨f,U,R,L,u,b⟩;subst R;obtain⟨X,rfl⟩:=Z0 L;clear L;by_cases G:f=0;case neg=>
  obtain rfl:f=1:=by omega
  have S:=u rfl;subst S;clear u k j G;go_wp2;go_ret;exact⟨rfl,b⟩
 subst G;clear u;have F:=b.keep j.out;have P:=cell_of_one F;have p:=Zh b;clear b F;go_wp2_with fail;refine(k.out _ p.out).mono ?_;rintro e T ⟨rfl,C⟩;have i:=Zh (p.out.trans C);clear C p P k j;by_cases B:d=0;case neg=>
  have Q:(d != 0)=true:=by rw [bne_iff_ne];exact B
  go_wp2;go_ret;exact⟨rfl,i.out⟩
 subst B;go_wp2;exact⟨⟨1,by omega,tz,rfl,fun _=>by first | trivial | rfl,i.out⟩,by simp [intOf]⟩
theorem S8(W:World):Qo W (.slice none 0 0) []:=⟨none,0,rfl,⟨⟨rfl,by simp [maxLen],none,0,rfl,fun h=>by simp at h⟩,by simp [Yb]⟩,Nat.le_refl _⟩
theorem Q0c{w:World}{ps:Qk}{lo:Option Addr}{n lc:Nat}{vo:Option Addr}{vn vc:Nat}{ws:Wd}(A:Qv w (.slice lo n lc) ps) (B:ps.length=n) (C:Qa w (.slice vo vn vc) ws) (P:ws.length=vn) (y:Tab w) :
  Calls Tryz.prog 61 #[.slice lo n lc,.slice vo vn vc] w fun e w'=>∃ v,e=.returned (.tuple #[v,.int .i64 (Xs (ps.map (·.1)) ws)])/\Qo w' v (Y9 (ps.map (·.1)) ws)/\Ext w w':=by
 have z:=fun(V:World) (hE:Ext w V) (g:Nat) (hg:V.heap[g]?=some (.cells #[.slice vo vn vc] 99 (0,0)))=>Ea (A.ext hE) B (C.ext hE) hg (y.keep hE id);have c:=fun(V:World) (hE:Ext w V) (hok:∀ p∈ps,Zm p.1=true) (hwE:wE ws=0)=>Te (A.ext hE) B hok (C.ext hE) P hwE (y.keep hE id)
 have D:Uu (ps.map (·.1)) ws=0->(∀ p∈ps,Zm p.1=true)/\wE ws=0:=fun h=>by
  unfold Uu at h
  split at h
  ·rename_i b
   unfold Yj at b
   split at b
   ·cases b
   ·split at b
    ·rename_i J
     rw [List.all_map,List.all_eq_true] at J;exact⟨J,h⟩
    ·cases b
  ·contradiction
 have i:=@Q5a (ps.map (·.1)) ws;have d:=@Q2u (ps.map (·.1)) ws;have f:=fun v=>@Q1f (ps.map (·.1)) ws v;obtain⟨F,a⟩:=zE (Uu (ps.map (·.1)) ws);simp only [a] at z D i d f;clear a;obtain⟨S,a⟩:=zE (Qq (ps.map (·.1)) ws);simp only [a] at c d f;clear a;obtain⟨W,a⟩:=zE (Xs (ps.map (·.1)) ws);simp only [a] at i d f ⊢;clear a;obtain⟨X,a⟩:=zE (Y9 (ps.map (·.1)) ws);simp only [a] at i d f ⊢;clear a;obtain⟨H,o,s,q,k,l⟩:=Zh6 z c D i d f;clear z c D i d f A B C P y;go_enter Tryz.func61,Tryz.ntmps61;go_wp2_with fail;obtain⟨E,m⟩:=zE (w.alloc (.cells #[.slice vo vn vc] 99));have t:Ext w E:=by rw [<-m];exact(Q0.refl _ w).alloc _
 have M:E.heap[w.heap.size]?=some (.cells #[.slice vo vn vc] 99 (0,0)):=by rw [<-m];exact Q5 rfl
 rw [m];refine(H.out E t w.heap.size M).mono ?_;rintro e U ⟨rfl,K⟩;have j:=Zh (t.trans K);clear m M t K H;by_cases b:F=0;case neg=>
  have a1:(F != 0)=true:=by rw [bne_iff_ne];exact b
  obtain⟨rfl,rfl⟩:=q.out b;clear o s q k l;go_wp2;go_ret2;exact⟨_,rfl,S8 _,j.out⟩
 subst b;obtain⟨Q,R⟩:=s.out uz;have c:=o.out U j.out Q R;have G:=Zh c;clear c Q R o s q;go_wp2_with fail;refine G.out.mono ?_;rintro e a2 ⟨Z,Y,a0,rfl,N,L⟩;have I:=Zh (j.out.trans L);have r:=Zh N;clear L N G j;cases S with
 | none=>
  obtain⟨rfl,rfl⟩:=k.out uz rfl;clear k l r;go_wp2;go_ret2;exact⟨_,rfl,S8 _,I.out⟩
 | some u=>
  obtain⟨rfl,rfl⟩:=l.out u uz rfl;have O:=r.out _ rfl;have T:=Zh O;clear k l r O;go_wp2;go_ret2;exact⟨_,rfl,T.out,I.out⟩
theorem Q7k:(Tryz.prog.info? 105).map (fun i=>(i.zero,i.size,i.bytes))=some (some (.agg #[.slice none 0 0,.slice none 0 0]),2,48):=by kernel_rfl
theorem Q82{w:World}{v:Value}{n:Nat}{xs:List Value}(h:Rd w v n 1 xs){k:Nat}(l:k<n):∃ g off cap,v=.slice (some ⟨g,off,none⟩) n cap/\g<w.heap.size/\w.cell? ⟨g,off+k,none⟩=some (xs.getD k undef):=by
 obtain⟨i,j,f,cap,e,a⟩:=h;obtain⟨g,off,b,d,c⟩:=a oz;exact⟨g,off,cap,by rw [e,b],d,c k oz⟩
def Zz(w:World)(v:Value)(us:List Wd):Prop:=∃ vs,Rd w v us.length 1 vs/\∀ i (h:i<us.length),Qo w (vs.getD i undef) us[i]
theorem Zz.ext{A B:World}{v:Value}{us:List Wd}(h:Zz A v us)(a:Ext A B):Zz B v us:=by
 obtain⟨d,b,c⟩:=h;exact⟨d,b.ext a,fun i hi=>(c i hi).ext a⟩
theorem Bw{w:World}{base:Nat}{e:TypeId}{sz n m c:Nat}{ao:Option Addr}{xs:List Value}(h:w.ownsRow base e sz (.slice ao m c) n xs):m<=c:=by
 rcases h.2 with ⟨a,_⟩ | ⟨g,d,f,a,_,_,b,_⟩
 ·cases a;exact Nat.le_refl _
 ·cases a;exact b
def Zv(LD:List Q2)(us:List Wd):Int:=if Yj LD=0 then(if 256<us.length then 12 else Z1 (us.map wE)) else Yj LD
theorem Jq{w:World}{i:Option Addr}{m p:Nat}{us:List Wd}(h:Zz w (.slice i m p) us) (l:us.length=m) {k:Nat} (j:k<m):∃ g off,i=some ⟨g,off,none⟩/\∃ vo vc,w.cell? ⟨g,off+k,none⟩=some (.slice vo (us.getD k []).length vc)/\Qo w (.slice vo (us.getD k []).length vc) (us.getD k []):=by
 obtain⟨s,f,o⟩:=h;rw [l] at f;obtain⟨g,off,q,e,r,b⟩:=Q82 f j;simp only [zV,true_and] at e;obtain⟨rfl,rfl⟩:=e;have d:k<us.length:=by omega
 have a:=o k d;obtain⟨vo,vc,n,_⟩:=id a;have c:us.getD k []=us[k]:=by rw [List.getD_eq_getElem?_getD,List.getElem?_eq_getElem d];rfl
 rw [n] at b a;exact⟨g,off,rfl,vo,vc,by rw [c];exact b,by rw [c];exact a⟩
theorem Ku{W:World}{vo:Option Addr}{vc:Nat}{u:Wd}(h:Qo W (.slice vo u.length vc) u):Qa W (.slice vo u.length vc) u:=by
 obtain⟨_,_,a,h,_⟩:=h;simp only [zV,true_and] at a;obtain⟨rfl,rfl⟩:=a;exact h
theorem Tu{w:World}{ps:Qk}{lo:Option Addr}{n lc:Nat}{N:Option Addr}{m M:Nat}{us:List Wd}(a4:Qv w (.slice lo n lc) ps) (a5:ps.length=n) (r:Zz w (.slice N m M) us) (q:us.length=m) (Y:Tab w) :
  Calls Tryz.prog 79 #[.slice lo n lc,.slice N m M] w fun e w'=>e=.returned (.int .i64 (Zv (ps.map (·.1)) us))/\Ext w w':=by
 have d:=fun(V:World) (i:Ext w V)=>W4 (a4.ext i) a5 (Y.keep i id);have b7:m<=maxLen:=by obtain⟨_,b9,_⟩:=r;rw [<-q];exact b9.2.1
 unfold maxLen at b7;have H:=fun(V:World) (i:Ext w V) (b:Nat) (a3:b<m)=>Jq (r.ext i) q a3;obtain⟨g,G⟩:=zE (Yj (ps.map (·.1)));simp only [G] at d;obtain⟨o,j⟩:=zE (Zv (ps.map (·.1)) us);rw [j];unfold Zv at j;rw [G,q] at j;have a7:g≠0->o=g:=fun h=>by rw [<-j,if_neg h]
 have a8:g=0->256<m->o=12:=fun h h2=>by rw [<-j,if_pos h,if_pos h2]
 have J:g=0->¬ 256<m->o=Z1 (us.map wE):=fun h h2=>by rw [<-j,if_pos h,if_neg h2]
 have K:(us.map wE).length=m:=by rw [List.length_map,q]
 have y:∀ b,b<m->(us.map wE)[b]?=some (wE (us.getD b [])):=fun b h=>by
  rw [List.getElem?_map,List.getD_eq_getElem?_getD,List.getElem?_eq_getElem oz];rfl
 obtain⟨A,F⟩:=zE (us.map wE);rw [F] at J K;simp only [F] at y;obtain⟨s,W⟩:∃ c:Nat->Wd,(fun b=>us.getD b [])=c:=⟨_,rfl⟩;have X:∀ b,us.getD b []=s b:=fun b=>by rw [<-W]
 simp only [X] at H y;obtain⟨Q,R,S,O,U,b5,B⟩:=Zh7 a7 a8 J H K y d;clear d a7 a8 J H K y F W X j G a4 a5 r q Y;go_enter Tryz.func79,Tryz.ntmps79;go_wp2_with fail;refine(B.out _ (Q0.refl _ _)).mono ?_;rintro e c7 ⟨rfl,l⟩;by_cases u:g=0;case neg=>
  have c2:(g != 0)=true:=by rw [bne_iff_ne];exact u
  have f:g=o:=(Q.out u).symm;subst f;clear B O;go_wp2;go_ret;exact⟨rfl,l⟩
 subst u;have k:=Zh l;clear l B;by_cases Z:256<m
 ·have v:(m:Int) > 256:=by omega
  have f:=R.out uz Z;subst f;go_wp2;go_ret;exact⟨rfl,k.out⟩
 have v:¬ (m:Int) > 256:=by omega
 have f:=S.out uz Z;have T:=Zh f;clear f Q R S;go_wp2;clear v
 refine wp_loop (fun a D=>∃(b:Nat),b<=m/\a.defers=[]/\gS a [17,18,19]=(29,[.slice N m M,.int .i64 m,.int .i64 b])/\Z1 (A.take b)=0/\Ext w D)
  (fun a _=>(m - (intOf (a.tmps.getD 19 undef)).toNat)) ?_ ?_
 ·exact⟨0,by omega,rfl,rfl,rfl,k.out⟩
 clear k;rintro⟨c5,_⟩ D ⟨b,a3,b6,a9,a1,i⟩;subst b6;obtain⟨c6,rfl⟩:=Z0 a9;clear a9;have C:=Zh a1;have t:=Zh i;clear a1 i;by_cases I:b<m;case pos=>
  have v:(b:Int)<(m:Int):=by omega
  have u:(0:Int)<=(b:Int):=by omega
  have z:b<A.length:=by rw [U.out];exact I
  obtain⟨c1,c4,rfl,d0,c8,a0,b8⟩:=O.out D t.out b I;obtain⟨_,_,a6,b0,_⟩:=b8;simp only [zV,true_and] at a6;obtain⟨rfl,rfl⟩:=a6;have d:=U4 b0;have x:=Vr z C.out;have p:=Vp z C.out;have a2:A[b]=wE (s b):=by have:=b5.out b I;rwa [List.getElem?_eq_getElem z,Option.some.injEq] at this
  rw [a2] at x p;rw [<-T.out] at p;obtain⟨c,b1⟩:=zE (wE (s b));rw [b1] at d x p;obtain⟨c9,b2⟩:=zE ((s b).length);rw [b2] at a0 d;obtain⟨P,b4,b3⟩:=Zh3 d x p;clear d x p b0 b1 b2 a2 z;go_wp2_with fail;refine P.out.mono ?_;rintro e c0 ⟨rfl,l⟩;have k:=Zh (t.out.trans l);clear P l a0 t;by_cases L:c=0;case neg=>
   have c3:(c != 0)=true:=by simpa using L
   have r:=b3.out L;subst r;go_wp2;go_ret;exact⟨rfl,k.out⟩
  subst L;go_wp2;exact⟨⟨b+1,by omega,by first | trivial | rfl,rfl,b4.out,k.out⟩,nz⟩
 obtain rfl:b=m:=by omega
 have v:¬ (b:Int)<(b:Int):=by omega
 have f:o=0:=by
  rw [T.out,<-C.out,List.take_of_length_le (by rw [U.out];exact Nat.le_refl _)]
 subst f;go_wp2;go_ret;exact⟨rfl,t.out⟩
def Q7w(w:World)(e:Ending)(w':World):Prop:=∃ b:Bool,e=.returned (.bool b)/\Ext w w'
theorem Q20{w:World}{l:Q2}{cs:List Value}(c2:Zk w l cs):Calls Tryz.prog 83 #[.agg cs.toArray] w (Q7w w):=by
 obtain⟨a4,C,L,E,G,p,s,I,m,k,D,M,F,H,r,t,J,n,y,a2,V,a1,a6,a0,a5,a3,rfl,d2,b5,b6,d1,d9,d8,d4,d5,d6,d7,d3,e3,e4,e5,e6,e7⟩:=Zx c2;have N:(w.alloc (.cells #[.string a4,.int .i64 C,.int .u32 (L:Int),.int .u32 (E:Int),.bool G,.int .i64 p,.int .i64 s,.slice I m k,.int .i64 D,.int .u32 (M:Int),.int .u32 (F:Int),.bool H,.int .i64 r,.int .i64 t,.slice J n y,.slice a2 V a1,.slice a6 a0 a5,.int .i64 a3] 102)).rangeAt w.heap.size 0 #[.string a4,.int .i64 C,.int .u32 (L:Int),.int .u32 (E:Int),.bool G,.int .i64 p,.int .i64 s,.slice I m k,.int .i64 D,.int .u32 (M:Int),.int .u32 (F:Int),.bool H,.int .i64 r,.int .i64 t,.slice J n y,.slice a2 V a1,.slice a6 a0 a5,.int .i64 a3].toList:=fun j u hu=>by rw [Nat.zero_add];rw [cell_of_row _ _ _ _ _ _ (Q5 rfl),<-Array.getElem?_toList];exact hu
 have Z:Ext w (w.alloc (.cells #[.string a4,.int .i64 C,.int .u32 (L:Int),.int .u32 (E:Int),.bool G,.int .i64 p,.int .i64 s,.slice I m k,.int .i64 D,.int .u32 (M:Int),.int .u32 (F:Int),.bool H,.int .i64 r,.int .i64 t,.slice J n y,.slice a2 V a1,.slice a6 a0 a5,.int .i64 a3] 102)):=(Q0.refl _ w).alloc _;obtain⟨c,a9⟩:=zE (w.alloc (.cells #[.string a4,.int .i64 C,.int .u32 (L:Int),.int .u32 (E:Int),.bool G,.int .i64 p,.int .i64 s,.slice I m k,.int .i64 D,.int .u32 (M:Int),.int .u32 (F:Int),.bool H,.int .i64 r,.int .i64 t,.slice J n y,.slice a2 V a1,.slice a6 a0 a5,.int .i64 a3] 102));rw [a9] at N Z;obtain⟨o,b0⟩:=zE w.heap.size;rw [b0] at N;have c3:c.rangeAt o 1 [.int .i64 C,.int .u32 (L:Int),.int .u32 (E:Int),.bool G,.int .i64 p,.int .i64 s,.slice I m k]:=Nk N 1 7;have c4:c.rangeAt o 8 [.int .i64 D,.int .u32 (M:Int),.int .u32 (F:Int),.bool H,.int .i64 r,.int .i64 t,.slice J n y]:=Nk N 8 7;have a7:=N 15 _ rfl;have a8:=N 16 _ rfl;rw [Nat.zero_add] at a7 a8;have b1:=fun(b:World) (f:Ext c b)=>Ft (b5.out.ext (Z.trans f));have b2:=fun(b:World) (f:Ext c b)=>Ft (b6.out.ext (Z.trans f));have c5:Kq l.left<=41:=by rw [Np];omega
 have c6:Kq l.right<=41:=by rw [Np];omega
 obtain⟨c7,c0⟩:=zE (Kq l.left);obtain⟨c8,c1⟩:=zE (Kq l.right);simp only [c0] at b1 c5;simp only [c1] at b2 c6;obtain⟨c9,e0⟩:=zE (c7+c8);have b3:IntKind.i64.wrap ((c7:Int)+(c8:Int))=(c9:Int):=by rw [IntWalk.i64_in _ oz];omega
 obtain⟨R,T,O,P,Q,b7,b8,b4⟩:=Zh8 c3 c4 b1 b2 Z a9 b0 a7;have d0:=Zh a8;clear c3 c4 b1 b2 N Z a9 b0 c0 c1 e0 a7 a8 d1 d9 d2 d8 d4 d5 d6 d7 d3 b5 b6 c2 c5 c6;go_enter Tryz.func83,Tryz.ntmps83;go_upto_region 1 with (fail)
 rw [b7.out,b8.out];clear b7 b8;by_cases e1:(c9:Int)<=30;case neg=>
  have e:Ext c c.drew:=(Q0.refl _ c).drew;refine Qr (S:=fun b=>Ext c b) [] kz e ?_;intro _;obtain⟨b9,B⟩:=zE c.drew;rw [B] at e ⊢;clear B;refine tE 0 3 e ?_;refine tkE (i:=1) (d:=4) (v:=?_) rfl (Or.inl ⟨by rfl,?_⟩) e ?_;rotate_left
  ·intro b f;refine Xb (x:=.tmp 3) ?_ o 1 ?_ [.int .i64 C,.int .u32 (L:Int),.int .u32 (E:Int),.bool G,.int .i64 p,.int .i64 s,.slice I m k] _ (fun j u hu=>(show Ext c b from f).cell_some (R.out j u hu) id) Tryz.underlying98 rfl kz <;> first | rfl | (simp;done)
  try simp only [Act.put,pq]
  refine tE 3 6 e ?_;refine tkE (i:=4) (d:=7) (v:=?_) rfl (Or.inl ⟨by rfl,?_⟩) e ?_;rotate_left
  ·intro b f;refine Xb (x:=.tmp 6) ?_ o 8 ?_ [.int .i64 D,.int .u32 (M:Int),.int .u32 (F:Int),.bool H,.int .i64 r,.int .i64 t,.slice J n y] _ (fun j u hu=>(show Ext c b from f).cell_some (T.out j u hu) id) Tryz.underlying98 rfl kz <;> first | rfl | (simp;done)
  try simp only [Act.put,pq]
  refine rE [2] ?_;refine Q1.cons rfl (fun K hK=>?_) Q1.nil;refine iw rfl ?_;go_simp;refine(O.out _ e).mono ?_;rintro Y W ⟨rfl,z⟩;have g:Ext c W:=e.trans z;clear z e;refine hK _ _ g (fun _=>?_);clear hK K;try simp only [Act.put,pq]
  refine rE [5] ?_;refine Q1.cons rfl (fun K hK=>?_) Q1.nil;refine iw rfl ?_;go_simp;refine(P.out _ g).mono ?_;rintro Y X ⟨rfl,A⟩;have a:Ext c X:=g.trans A;clear A g;refine hK _ _ a (fun _=>?_);clear hK K;try simp only [Act.put,pq]
  refine tE 6 9 a ?_;refine tE 7 10 a ?_;refine tE 8 11 a ?_;refine tkE (i:=9) (d:=12) (v:=undef) rfl (Or.inr ⟨by rfl,rfl⟩) a ?_;try simp only [Act.put,pq]
  refine tkE (i:=10) (d:=13) (v:=undef) rfl (Or.inr ⟨by rfl,rfl⟩) a ?_;try simp only [Act.put,pq]
  refine tkE (i:=11) (d:=14) (v:=undef) rfl (Or.inr ⟨by rfl,rfl⟩) a ?_;try simp only [Act.put,pq]
  refine tkE (i:=12) (d:=15) (v:=undef) rfl (Or.inr ⟨by rfl,rfl⟩) a ?_;try simp only [Act.put,pq]
  refine tE 13 16 a ?_;refine tE 14 17 a ?_;refine tkE (i:=15) (d:=18) (v:=undef) rfl (Or.inr ⟨by rfl,rfl⟩) a ?_;try simp only [Act.put,pq]
  refine tkE (i:=16) (d:=19) (v:=undef) rfl (Or.inr ⟨by rfl,rfl⟩) a ?_;try simp only [Act.put,pq]
  refine tkE (i:=17) (d:=20) (v:=undef) rfl (Or.inr ⟨by rfl,rfl⟩) a ?_;try simp only [Act.put,pq]
  refine tkE (i:=18) (d:=21) (v:=undef) rfl (Or.inr ⟨by rfl,rfl⟩) a ?_;try simp only [Act.put,pq]
  refine tE 19 22 a ?_;refine tE 20 2 a ?_;refine Qh kz ?_ _;have U:=Zh (Q.out.trans a);clear a O P R T Q b3;go_wp2;go_ret;exact⟨_,rfl,U.out⟩
 by_cases e2:(V:Int)<=10;case neg=>
  have e:Ext c c.drew:=(Q0.refl _ c).drew;refine Qr (S:=fun b=>Ext c b) [] kz e ?_;intro _;obtain⟨b9,B⟩:=zE c.drew;rw [B] at e ⊢;clear B;refine tE 0 3 e ?_;refine tkE (i:=1) (d:=4) (v:=?_) rfl (Or.inl ⟨by rfl,?_⟩) e ?_;rotate_left
  ·intro b f;refine Xb (x:=.tmp 3) ?_ o 1 ?_ [.int .i64 C,.int .u32 (L:Int),.int .u32 (E:Int),.bool G,.int .i64 p,.int .i64 s,.slice I m k] _ (fun j u hu=>(show Ext c b from f).cell_some (R.out j u hu) id) Tryz.underlying98 rfl kz <;> first | rfl | (simp;done)
  try simp only [Act.put,pq]
  refine tE 3 6 e ?_;refine tkE (i:=4) (d:=7) (v:=?_) rfl (Or.inl ⟨by rfl,?_⟩) e ?_;rotate_left
  ·intro b f;refine Xb (x:=.tmp 6) ?_ o 8 ?_ [.int .i64 D,.int .u32 (M:Int),.int .u32 (F:Int),.bool H,.int .i64 r,.int .i64 t,.slice J n y] _ (fun j u hu=>(show Ext c b from f).cell_some (T.out j u hu) id) Tryz.underlying98 rfl kz <;> first | rfl | (simp;done)
  try simp only [Act.put,pq]
  refine rE [2] ?_;refine Q1.cons rfl (fun K hK=>?_) Q1.nil;refine iw rfl ?_;go_simp;refine(O.out _ e).mono ?_;rintro Y W ⟨rfl,z⟩;have g:Ext c W:=e.trans z;clear z e;refine hK _ _ g (fun _=>?_);clear hK K;try simp only [Act.put,pq]
  refine rE [5] ?_;refine Q1.cons rfl (fun K hK=>?_) Q1.nil;refine iw rfl ?_;go_simp;refine(P.out _ g).mono ?_;rintro Y X ⟨rfl,A⟩;have a:Ext c X:=g.trans A;clear A g;refine hK _ _ a (fun _=>?_);clear hK K;try simp only [Act.put,pq]
  refine tE 6 9 a ?_;refine tE 7 10 a ?_;refine tE 8 11 a ?_;refine tE 9 12 a ?_;refine tkE (i:=10) (d:=13) (v:=?_) rfl (Or.inl ⟨by rfl,?_⟩) a ?_;rotate_left
  ·intro b f;(try dsimp only at f);have k:=(show Ext c b from f).cell_some b4.out id;go_simp;try with_reducible rfl
  try simp only [Act.put,pq]
  refine tE 11 14 a ?_;refine tE 12 15 a ?_;refine tE 13 16 a ?_;refine tE 14 17 a ?_;refine tkE (i:=15) (d:=18) (v:=undef) rfl (Or.inr ⟨by rfl,rfl⟩) a ?_;try simp only [Act.put,pq]
  refine tkE (i:=16) (d:=19) (v:=undef) rfl (Or.inr ⟨by rfl,rfl⟩) a ?_;try simp only [Act.put,pq]
  refine tkE (i:=17) (d:=20) (v:=undef) rfl (Or.inr ⟨by rfl,rfl⟩) a ?_;try simp only [Act.put,pq]
  refine tkE (i:=18) (d:=21) (v:=undef) rfl (Or.inr ⟨by rfl,rfl⟩) a ?_;try simp only [Act.put,pq]
  refine tE 19 22 a ?_;refine tE 20 2 a ?_;refine Qh kz ?_ _;have U:=Zh (Q.out.trans a);clear a O P R T Q b3;go_wp2;go_ret;exact⟨_,rfl,U.out⟩
 have e:Ext c c.drew:=(Q0.refl _ c).drew;refine Qr (S:=fun b=>Ext c b) [] kz e ?_;intro _;obtain⟨b9,B⟩:=zE c.drew;rw [B] at e ⊢;clear B;refine tE 0 3 e ?_;refine tkE (i:=1) (d:=4) (v:=?_) rfl (Or.inl ⟨by rfl,?_⟩) e ?_;rotate_left
 ·intro b f;refine Xb (x:=.tmp 3) ?_ o 1 ?_ [.int .i64 C,.int .u32 (L:Int),.int .u32 (E:Int),.bool G,.int .i64 p,.int .i64 s,.slice I m k] _ (fun j u hu=>(show Ext c b from f).cell_some (R.out j u hu) id) Tryz.underlying98 rfl kz <;> first | rfl | (simp;done)
 try simp only [Act.put,pq]
 refine tE 3 6 e ?_;refine tkE (i:=4) (d:=7) (v:=?_) rfl (Or.inl ⟨by rfl,?_⟩) e ?_;rotate_left
 ·intro b f;refine Xb (x:=.tmp 6) ?_ o 8 ?_ [.int .i64 D,.int .u32 (M:Int),.int .u32 (F:Int),.bool H,.int .i64 r,.int .i64 t,.slice J n y] _ (fun j u hu=>(show Ext c b from f).cell_some (T.out j u hu) id) Tryz.underlying98 rfl kz <;> first | rfl | (simp;done)
 try simp only [Act.put,pq]
 refine rE [2] ?_;refine Q1.cons rfl (fun K hK=>?_) Q1.nil;refine iw rfl ?_;go_simp;refine(O.out _ e).mono ?_;rintro Y W ⟨rfl,z⟩;have g:Ext c W:=e.trans z;clear z e;refine hK _ _ g (fun _=>?_);clear hK K;try simp only [Act.put,pq]
 refine rE [5] ?_;refine Q1.cons rfl (fun K hK=>?_) Q1.nil;refine iw rfl ?_;go_simp;refine(P.out _ g).mono ?_;rintro Y X ⟨rfl,A⟩;have a:Ext c X:=g.trans A;clear A g;refine hK _ _ a (fun _=>?_);clear hK K;try simp only [Act.put,pq]
 refine tE 6 9 a ?_;refine tE 7 10 a ?_;refine tE 8 11 a ?_;refine tE 9 12 a ?_;refine tkE (i:=10) (d:=13) (v:=?_) rfl (Or.inl ⟨by rfl,?_⟩) a ?_;rotate_left
 ·intro b f;(try dsimp only at f);have k:=(show Ext c b from f).cell_some b4.out id;go_simp;try with_reducible rfl
 try simp only [Act.put,pq]
 refine tE 11 14 a ?_;refine tE 12 15 a ?_;refine tE 13 16 a ?_;refine tE 14 17 a ?_;refine tE 15 18 a ?_;refine tkE (i:=16) (d:=19) (v:=?_) rfl (Or.inl ⟨by rfl,?_⟩) a ?_;rotate_left
 ·intro b f;(try dsimp only at f);have k:=(show Ext c b from f).cell_some d0.out id;go_simp;try with_reducible rfl
 try simp only [Act.put,pq]
 refine tE 17 20 a ?_;refine tE 18 21 a ?_;refine tE 19 22 a ?_;refine tE 20 2 a ?_;refine Qh kz ?_ _;have U:=Zh (Q.out.trans a);clear a O P R T Q b3;go_wp2;go_ret;exact⟨_,rfl,U.out⟩
def Q8o(n:Nat)(lv wv:Value)(w:World)(a:Act)(W:World):Prop:=∃(k:Nat),k<=n/\a.defers=[]/\gS a [0,1,5]=(39,[lv,wv,.int .i64 k])/\Ext w W
def Q8w(m:Nat)(lv wv:Value)(w:World)(a:Act)(W:World):Prop:=∃(k:Nat),k<=m/\a.defers=[]/\gS a [0,1,6]=(39,[lv,wv,.int .i64 k])/\Ext w W
def Q5x(n m:Nat)(w:World)(e:Ending)(w':World):Prop:=∃ b:Bool,e=.returned (.bool b)/\(b=true->n<=4/\m<=6)/\Ext w w'
theorem Q75{w:World}{ps:Qk}{lo:Option Addr}{n lc:Nat}{r:Option Addr}{m q:Nat}{us:List Wd}(t:Qv w (.slice lo n lc) ps) (v:ps.length=n) (x:Zz w (.slice r m q) us) (u:us.length=m) :
  Calls Tryz.prog 25 #[.slice lo n lc,.slice r m q] w (Q5x n m w):=by
 have a0:n<=maxLen:=by rw [<-v];exact t.1.2.1
 have Z:m<=maxLen:=by obtain⟨_,a2,_⟩:=x;rw [<-u];exact a2.2.1
 unfold maxLen at a0 Z;have G:=fun(V:World) (e:Ext w V) (c:Nat) (K:c<m)=>Jq (x.ext e) u K;obtain⟨i,j,g⟩:=Zh3 t v G;clear t v x u G;go_enter Tryz.func25,Tryz.ntmps25;by_cases T:(n:Int) > 4
 ·clear i j g;go_wp2;go_ret;exact⟨false,rfl,fun h=>Bool.noConfusion h,Q0.refl _ _⟩
 by_cases U:(m:Int) > 6
 ·clear i j g;go_wp2;go_ret;exact⟨false,rfl,fun h=>Bool.noConfusion h,Q0.refl _ _⟩
 have I:n<=4/\m<=6:=by omega
 have P:=Zh I;clear I;go_wp2;clear T U;refine wp_loop (Q8o n (.slice lo n lc) (.slice r m q) w) (fun a _=>((n:Int) - intOf (a.tmps.getD 5 undef)).toNat) ?_ ?_
 ·exact⟨0,by omega,rfl,rfl,Q0.refl _ _⟩
 rintro⟨a4,_⟩ D ⟨d,b1,s,f,e⟩;subst s;obtain⟨a5,rfl⟩:=Z0 f;clear f;have b:=Zh e;clear e;by_cases b2:d<n;case pos=>
  have k:(d:Int)<(n:Int):=by omega
  have S:(0:Int)<=(d:Int):=by omega
  have J:d<ps.length:=by rw [j.out];omega
  obtain⟨E,O,a8,L,X,p,o,l⟩:=(i.out.ext b.out).at J;simp only [zV] at L;obtain⟨rfl,a3,rfl⟩:=L;obtain⟨y,N⟩:=zE (ps[d]);rw [N] at p o l;obtain⟨b4,R⟩:=y;dsimp only at p o l;have H:=Q20 o;obtain⟨A,C,z⟩:=Zh3 H p l;clear N a3 H o p l J X
  go_wp2_with (refine X9 (by rfl) 102 (.tmp 23) rfl E (O+d*18) zr R _ C.out Tryz.underlying102 rfl (by rw [z.out];kernel_rfl) ?_)
  refine A.out.mono ?_;rintro a9 a7 ⟨Q,rfl,F⟩;have B:=Zh (b.out.trans F);clear F b A C z;cases Q with
  | false=>
   go_wp2;go_ret;exact⟨false,rfl,fun h=>Bool.noConfusion h,B.out⟩
  | true=>
   go_wp2;exact⟨⟨d+1,by omega,tz,rfl,B.out⟩,mz⟩
 have k:¬ (d:Int)<(n:Int):=by omega
 clear i j;go_wp2;clear k;refine wp_loop (Q8w m (.slice lo n lc) (.slice r m q) w) (fun a _=>((m:Int) - intOf (a.tmps.getD 6 undef)).toNat) ?_ ?_
 ·exact⟨0,by omega,rfl,rfl,b.out⟩
 clear b;rintro⟨a4,_⟩ D ⟨c,K,s,f,e⟩;subst s;obtain⟨a5,rfl⟩:=Z0 f;clear f;have b:=Zh e;clear e;by_cases Y:c<m;case pos=>
  have k:(c:Int)<(m:Int):=by omega
  have S:(0:Int)<=(c:Int):=by omega
  obtain⟨E,O,rfl,b5,b3,W,a1⟩:=g.out D b.out c Y;clear a1;obtain⟨a6,M⟩:=zE ((us.getD c []).length);rw [M] at W;clear M;by_cases b0:(a6:Int) > 100
  ·go_wp2;go_ret;exact⟨false,rfl,fun h=>Bool.noConfusion h,b.out⟩
  ·go_wp2;exact⟨⟨c+1,by omega,tz,rfl,b.out⟩,mz⟩
 have k:¬ (c:Int)<(m:Int):=by omega
 clear g;go_wp2;go_ret;exact⟨true,rfl,fun _=>P.out,b.out⟩
def wpE(q:Wd × Wd):Int:=if wE q.1=0 then wE q.2 else wE q.1
def Z9(LD:List Q2)(QS:List (Wd × Wd)):Int:=if 6<LD.length then 12 else if LD.all Zm=true then(if 32<QS.length then 12 else Z1 (QS.map wpE)) else 17
def R0(QS:List (Wd × Wd)) (k:Nat):Prop:=Z1 ((QS.map wpE).take k)=0
def Q4o(A B:Int)(i:Nat):Prop:=(1<=i->A=0)/\(2<=i->B=0)
theorem Wf{w:World}{ps:Qk}{qs:Qb}{lo:Option Addr}{n lc:Nat}{c8:Option Addr}{m pc:Nat}(f6:Qv w (.slice lo n lc) ps) (M:ps.length=n) (f7:Zw w (.slice c8 m pc) qs) (a6:qs.length=m) (k6:Tab w) :
  Calls Tryz.prog 89 #[.slice lo n lc,.slice c8 m pc] w fun e w'=>e=.returned (.int .i64 (Z9 (ps.map (·.1)) (qs.map (·.1))))/\Ext w w':=by
 have l2:=fun(k:World) (H:Ext w k) (l:Q2) (cs:List Value) (h:Zk k l cs)=>Wg h (k6.keep H id);obtain⟨j,Q⟩:=zE (Z9 (ps.map (·.1)) (qs.map (·.1)));rw [Q];have o3:6<n->j=12:=fun h=>by rw [<-Q];unfold Z9;rw [if_pos (by rw [List.length_map,M];exact h)]
 have o4:¬ 6<n->∀ f (f4:f<ps.length),Zm ps[f].1=false->j=17:=fun h f f4 A=>by rw [<-Q];unfold Z9;rw [if_neg (by rw [List.length_map,M];exact h),Q5e f4 A];rfl
 have o5:¬ 6<n->Wa ps n->32<m->j=12:=fun h A Z=>by rw [<-Q];unfold Z9;rw [if_neg (by rw [List.length_map,M];exact h),Sz oz A,if_pos rfl,if_pos (by rw [List.length_map,a6];exact Z)]
 have o6:¬ 6<n->Wa ps n->¬ 32<m->j=Z1 ((qs.map (·.1)).map wpE):=fun h A Z=>by rw [<-Q];unfold Z9;rw [if_neg (by rw [List.length_map,M];exact h),Sz oz A,if_pos rfl,if_neg (by rw [List.length_map,a6];exact Z)]
 have r2:n<=maxLen:=by rw [<-M];exact f6.1.2.1
 have r1:m<=maxLen:=by rw [<-a6];exact f7.1.2.1
 unfold maxLen at r2 r1;obtain⟨g5,g8,p2,p9,i0,i9,j0,j1⟩:=Zh8 l2 f6 M f7 a6 o3 o4 o5;have j2:=Zh o6;clear l2 f6 M f7 a6 k6 Q o3 o4 o5 o6;go_enter Tryz.func89,Tryz.ntmps89;by_cases e3:6<n;case pos=>
  have A:(n:Int) > 6:=by omega
  have o:j=12:=i9.out e3;subst o;go_wp2;go_ret;exact⟨rfl,Q0.refl _ _⟩
 have q7:¬ (n:Int) > 6:=by omega
 have b4:=Zh e3;clear e3;go_wp2
 refine wp_loop (fun a t=>∃(f:Nat),f<=n/\a.defers=[]/\(a.tmps.size=51/\a.tmps.getD 1 undef=.slice c8 m pc/\a.tmps.getD 15 undef=.slice lo n lc/\a.tmps.getD 16 undef=.int .i64 n/\a.tmps.getD 17 undef=.int .i64 f)/\Wa ps f/\Ext w t)
  (fun a _=>((n:Int) - intOf (a.tmps.getD 17 undef)).toNat) ?_ ?_
 ·exact⟨0,by omega,rfl,⟨rfl,rfl,rfl,rfl,rfl⟩,by simp [Wa],Q0.refl _ _⟩
 rintro⟨b1,_⟩ t ⟨f,f4,a3,⟨C,d4,d5,d6,d7⟩,m1,H⟩;subst a3;obtain⟨b3,r⟩:=Zb C;obtain⟨c,rfl⟩:∃ x,x=b3:=⟨_,rfl⟩;have a8:b1=#[c 0,c 1,c 2,c 3,c 4,c 5,c 6,c 7,c 8,c 9,c 10,c 11,c 12,c 13,c 14,c 15,c 16,c 17,c 18,c 19,c 20,c 21,c 22,c 23,c 24,c 25,c 26,c 27,c 28,c 29,c 30,c 31,c 32,c 33,c 34,c 35,c 36,c 37,c 38,c 39,c 40,c 41,c 42,c 43,c 44,c 45,c 46,c 47,c 48,c 49,c 50]:=r;clear r;subst a8;change c 1=_ at d4;change c 15=_ at d5;change c 16=_ at d6;change c 17=_ at d7;rw [d4,d5,d6,d7];clear d4 d5 d6 d7 C;have U:=Zh m1;have i:=Zh H;clear m1 H;by_cases r0:f<n;case pos=>
  have A:(f:Int)<(n:Int):=by omega
  have q5:(0:Int)<=(f:Int):=by omega
  have f5:f<ps.length:=by rw [p2.out];exact r0
  obtain⟨e1,g2,s1,u,f2,v,c5,e2⟩:=(g8.out.ext i.out).at f5;simp only [zV] at u;obtain⟨rfl,r3,rfl⟩:=u;have a7:=j0.out b4.out f f5;have B:=fun h=>Q1d f5 U.out h;obtain⟨g3,f8⟩:=zE (ps[f]);rw [f8] at v c5 e2 a7;simp only [f8] at B;obtain⟨o2,s4⟩:=g3;dsimp only at v c5 e2 a7 B;obtain⟨n5,m8,o0,n0,n3,j6,j8,n6,i5,k1,m9,o1,n1,n4,j7,j9,n7,i6,k2,m7,i7,m6,n9,i8,n8,n2,c4,g9,q0,q1,o8,p8,p5,b6,b7,p3,p4,p1,s5,s6,s7,s8,s9⟩:=Zx c5;subst c4;have r5:IntKind.i64.wrap ((f:Int)+1)=(f:Int)+1:=IntWalk.i64_in _ oz;obtain⟨k0,c3⟩:=zE (Zm o2);have l9:Ke o2=if k0=true then 0 else 17:=by unfold Ke;rw [c3]
  rw [c3] at a7;simp only [c3] at B;obtain⟨i1,q2,p6,p0⟩:=Zh4 v a7 B l9;clear r3 f8 c5 e2 v a7 B l9 c3 q0 q1 o8 p8 p5 b6 b7 p3 p4 p1 U f2;obtain⟨d2,c0⟩:=zE (t.alloc (.cells #[.string n5,.int .i64 m8,.int .u32 (o0:Int),.int .u32 (n0:Int),.bool n3,.int .i64 j6,.int .i64 j8,.slice n6 i5 k1,.int .i64 m9,.int .u32 (o1:Int),.int .u32 (n1:Int),.bool n4,.int .i64 j7,.int .i64 j9,.slice n7 i6 k2,.slice m7 i7 m6,.slice n9 i8 n8,.int .i64 n2] 102));have I:Ext t d2:=by rw [<-c0];exact(Q0.refl _ t).alloc _
  have g0:d2.heap[t.heap.size]?=some (.cells #[.string n5,.int .i64 m8,.int .u32 (o0:Int),.int .u32 (n0:Int),.bool n3,.int .i64 j6,.int .i64 j8,.slice n6 i5 k1,.int .i64 m9,.int .u32 (o1:Int),.int .u32 (n1:Int),.bool n4,.int .i64 j7,.int .i64 j9,.slice n7 i6 k2,.slice m7 i7 m6,.slice n9 i8 n8,.int .i64 n2] 102 (0,0)):=by rw [<-c0];exact Q5 rfl
  obtain⟨j4,K⟩:=zE t.heap.size;rw [K] at g0;have i3:=Zh g0;have i2:=Zh c0;clear g0 c0;go_upto_region 6 with (refine X9 (by rfl) 102 (.tmp 19) rfl e1 (g2+f*18) zr _ _ i1.out Tryz.underlying102 rfl kz ?_)
  rw [i2.out];have e9:=g5.out d2 (i.out.trans I) _ _ (g9.out.ext I);rw [p0.out] at e9;obtain⟨g4,g6,q3⟩:=Zh3 e9 (i.out.trans I) K;clear e9 I K i2 i1 g9
  go_wp2_with (refine wpList_load_row rfl 102 (.tmp 6) rfl j4 rfl _ _ _ _ i3.out Tryz.underlying102 rfl Tryz.lawInfo ?_)
  refine g4.out.mono ?_;rintro e r9 ⟨rfl,a1⟩;have g7:=Zh (g6.out.trans a1);clear a1 g4 i3 g6;cases k0 with
  | true=>
   have B:=p6.out rfl;have p7:=Zh B;clear B;go_wp2;exact⟨⟨f+1,by omega,tz,⟨rfl,rfl,rfl,rfl,rfl⟩,p7.out,g7.out⟩,mz⟩
  | false=>
   have o:j=17:=q2.out uz;subst o;go_wp2;go_ret;exact⟨rfl,g7.out⟩
 obtain rfl:f=n:=by omega
 have A:¬ (f:Int)<(f:Int):=by omega
 by_cases k5:32<m;case pos=>
  have Z:(m:Int) > 32:=by omega
  have o:j=12:=j1.out b4.out U.out k5;subst o;go_wp2;go_ret;exact⟨rfl,i.out⟩
 have Z:¬ (m:Int) > 32:=by omega
 have o:=j2.out b4.out U.out k5;have d1:=Zh o;clear o i9 j0 j1 j2 b4 U q7;go_wp2
 refine wp_loop (fun a t=>∃(d:Nat),d<=m/\a.defers=[]/\(a.tmps.size=51/\a.tmps.getD 28 undef=.slice c8 m pc/\a.tmps.getD 29 undef=.int .i64 m/\a.tmps.getD 30 undef=.int .i64 d)/\R0 (qs.map (·.1)) d/\Ext w t)
  (fun a _=>((m:Int) - intOf (a.tmps.getD 30 undef)).toNat) ?_ ?_
 ·exact⟨0,by omega,rfl,⟨rfl,rfl,rfl,rfl⟩,rfl,i.out⟩
 clear i g5 g8;rintro⟨b1,_⟩ k ⟨d,s3,a3,⟨C,E,F,G⟩,l3,H⟩;subst a3;obtain⟨b3,r⟩:=Zb C;obtain⟨c,rfl⟩:∃ x,x=b3:=⟨_,rfl⟩;have a8:b1=#[c 0,c 1,c 2,c 3,c 4,c 5,c 6,c 7,c 8,c 9,c 10,c 11,c 12,c 13,c 14,c 15,c 16,c 17,c 18,c 19,c 20,c 21,c 22,c 23,c 24,c 25,c 26,c 27,c 28,c 29,c 30,c 31,c 32,c 33,c 34,c 35,c 36,c 37,c 38,c 39,c 40,c 41,c 42,c 43,c 44,c 45,c 46,c 47,c 48,c 49,c 50]:=r;clear r;subst a8;change c 28=_ at E;change c 29=_ at F;change c 30=_ at G;rw [E,F,G];clear E F G C;have c9:=Zh l3;have i:=Zh H;clear l3 H;have m0:((qs.map (·.1)).map wpE).length=m:=by rw [List.length_map,List.length_map,i0.out]
 by_cases q9:d<m;case neg=>
  obtain rfl:d=m:=by omega
  have q6:¬ (d:Int)<(d:Int):=by omega
  have g1:j=0:=by
   rw [d1.out];have:=c9.out;unfold R0 at this
   rwa [List.take_of_length_le oz] at this
  subst g1;clear m0;go_wp2;go_ret;exact⟨rfl,i.out⟩
 have q6:(d:Int)<(m:Int):=by omega
 have q5:(0:Int)<=(d:Int):=by omega
 have l7:d<qs.length:=by rw [i0.out];exact q9
 have l4:((qs.map (·.1)).map wpE)[d]' oz=wpE qs[d].1:=by rw [List.getElem_map,List.getElem_map]
 have f1:Z1 (((qs.map (fun(q:(Wd × Wd) × List Value)=>q.1)).map wpE).take d)=0:=c9.out;have a4:=Vr (l:=(qs.map (fun(q:(Wd × Wd) × List Value)=>q.1)).map wpE) (n:=d) oz f1;have L:=Vp (l:=(qs.map (fun(q:(Wd × Wd) × List Value)=>q.1)).map wpE) (n:=d) oz f1;rw [l4] at a4 L;obtain⟨e1,g2,s0,u,v,⟨c,t0,c4,r,r4⟩,r6⟩:=Ji.at (Z7 p9.out i.out) l7;replace u:=u zd;obtain⟨u,f2⟩:=u;simp only [zV] at u;obtain⟨rfl,g1,rfl⟩:=u;rw [c4] at v;obtain⟨Y,W,rfl,m3,r7⟩:=r;obtain⟨b0,a9,rfl,m4,r8⟩:=r4;have d3:=v 0 _ rfl;have k4:=v 1 _ rfl;rw [Nat.add_zero] at d3;obtain⟨p,e4⟩:=zE (wE qs[d].1.1);obtain⟨s,e5⟩:=zE (wE qs[d].1.2);have m5:wpE qs[d].1=if p=0 then s else p:=by unfold wpE;rw [e4,e5]
 rw [m5] at a4 L;have l0:p≠0->j=p:=fun h=>by rw [if_neg h] at L;rw [d1.out];exact L h
 have l1:p=0->s≠0->j=s:=fun h h'=>by rw [if_pos h] at L;rw [d1.out];exact L h'
 have m2:p=0->s=0->R0 (qs.map (·.1)) (d+1):=fun h h'=>by rw [if_pos h,h'] at a4;exact a4
 have c6:=fun(g:World) (hD:Ext k g)=>U4 (m3.ext hD);have c7:=fun(g:World) (hD:Ext k g)=>U4 (m4.ext hD);simp only [e4] at c6;simp only [e5] at c7;obtain⟨X,f0⟩:=zE (qs[d].1.1.length);obtain⟨b2,f9⟩:=zE (qs[d].1.2.length);rw [f0] at d3;rw [f9] at k4;simp only [f0] at c6;simp only [f9] at c7;obtain⟨R,S,b5,b8,b9⟩:=Zh5 l0 l1 m2 c6 c7;have r5:IntKind.i64.wrap ((d:Int)+1)=(d:Int)+1:=IntWalk.i64_in _ oz;clear m0 l4 a4 L f1 g1 r6 r7 r8 c4 v m3 m4 e4 e5 m5 l0 l1 m2 c6 c7 f0 f9 f2 l7 c9;go_upto_region 14 with (fail)
 obtain⟨P,c1⟩:=zE (k.alloc (.cells #[.slice Y X W,.slice b0 b2 a9] 105));have I:Ext k P:=by rw [<-c1];exact(Q0.refl _ k).alloc _
 have e7:P.heap[k.heap.size]?=some (.cells #[.slice Y X W,.slice b0 b2 a9] 105 (0,0)):=by rw [<-c1];exact Q5 rfl
 rw [c1];obtain⟨j4,K⟩:=zE k.heap.size;rw [K] at e7 ⊢;have q4:=fun d=>cell_of_row _ _ d _ _ _ e7;have b6:=Zh I;have q3:=Zh K;clear c1 e7 K I d3 k4;go_wp2;obtain⟨j3,c2⟩:=zE (P.alloc (.cells #[.slice Y X W,.slice b0 b2 a9] 99));have a1:Ext k j3:=by rw [<-c2];exact b6.out.trans ((Q0.refl _ P).alloc _)
 have e8:j3.heap[P.heap.size]?=some (.cells #[.slice Y X W,.slice b0 b2 a9] 99 (0,0)):=by rw [<-c2];exact Q5 rfl
 rw [c2];obtain⟨j5,k8⟩:=zE P.heap.size;rw [k8] at e8 ⊢;have b7:=Zh a1;have i4:=Zh e8;clear c2 a1 e8 k8 q4 b6
 refine wp_loop (fun a g=>∃(N:Nat),N<=2/\a.defers=[]/\(a.tmps.size=51/\a.tmps.getD 28 undef=.slice (some ⟨e1,g2,none⟩) m pc/\a.tmps.getD 29 undef=.int .i64 m/\a.tmps.getD 30 undef=.int .i64 d/\a.tmps.getD 38 undef=.slice (some ⟨j5,0,none⟩) 2 2/\a.tmps.getD 39 undef=.int .i64 2/\a.tmps.getD 40 undef=.int .i64 N)/\g.heap[j5]?=some (.cells #[.slice Y X W,.slice b0 b2 a9] 99 (0,0))/\Q4o p s N/\Ext k g)
  (fun a _=>(2 - intOf (a.tmps.getD 40 undef)).toNat) ?_ ?_
 ·exact⟨0,by omega,rfl,⟨rfl,rfl,rfl,rfl,rfl,rfl,rfl⟩,i4.out,⟨fun h=>by omega,fun h=>by omega⟩,b7.out⟩
 clear b7 i4;rintro⟨b1,_⟩ g ⟨N,s2,a3,⟨C,E,F,G,d8,d9,e0⟩,k9,l6,k7⟩;subst a3;obtain⟨b3,r⟩:=Zb C;obtain⟨c,rfl⟩:∃ x,x=b3:=⟨_,rfl⟩;have a8:b1=#[c 0,c 1,c 2,c 3,c 4,c 5,c 6,c 7,c 8,c 9,c 10,c 11,c 12,c 13,c 14,c 15,c 16,c 17,c 18,c 19,c 20,c 21,c 22,c 23,c 24,c 25,c 26,c 27,c 28,c 29,c 30,c 31,c 32,c 33,c 34,c 35,c 36,c 37,c 38,c 39,c 40,c 41,c 42,c 43,c 44,c 45,c 46,c 47,c 48,c 49,c 50]:=r;clear r;subst a8;change c 28=_ at E;change c 29=_ at F;change c 30=_ at G;change c 38=_ at d8;change c 39=_ at d9;change c 40=_ at e0;rw [E,F,G,d8,d9,e0];clear E F G d8 d9 e0 C;obtain⟨O,y,z⟩:=Zh3 k9 l6 k7;clear k9 l6 k7;by_cases f3:N=2
 ·subst f3;have l8:=b5.out (y.out.1 oz) (y.out.2 oz);have o9:=Zh l8;have T:=Zh (i.out.trans z.out);clear l8 b5 y z O b8 b9 R S;go_wp2;exact⟨⟨d+1,by omega,tz,⟨rfl,rfl,rfl,rfl⟩,o9.out,T.out⟩,mz⟩
 have k3:=fun d=>cell_of_row _ _ d _ _ _ O.out;by_cases l5:N=0
 ·subst l5;clear f3;go_wp2_with fail;refine(b8.out _ z.out).mono ?_;rintro e o7 ⟨rfl,J⟩;have a2:=J.keep O.out;have V:=Zh a2;have D:=Zh (z.out.trans J);clear a2 J k3 O z b8;by_cases a0:p=0
  ·subst a0;have a5:Q4o 0 s 1:=⟨fun _=>rfl,fun h=>by omega⟩;have d0:=Zh a5;clear a5 y R;go_wp2;exact⟨⟨1,by omega,tz,⟨rfl,rfl,rfl,rfl,rfl,rfl,rfl⟩,V.out,d0.out,D.out⟩,by simp [intOf]⟩
  ·have q8:(p != 0)=true:=by rw [bne_iff_ne];exact a0
   have o:j=p:=R.out a0;subst o;have T:=Zh (i.out.trans D.out);clear R S b5 y b9 V D;go_wp2;go_ret;exact⟨rfl,T.out⟩
 ·obtain rfl:N=1:=by omega
  clear f3 l5;have a0:p=0:=y.out.1 oz;subst a0;go_wp2_with fail;refine(b9.out _ z.out).mono ?_;rintro e o7 ⟨rfl,J⟩;have a2:=J.keep O.out;have V:=Zh a2;have D:=Zh (z.out.trans J);clear a2 J k3 O z b9;by_cases e6:s=0
  ·subst e6;have a5:Q4o 0 0 2:=⟨fun _=>rfl,fun _=>rfl⟩;have d0:=Zh a5;clear a5 y S;go_wp2;exact⟨⟨2,by omega,tz,⟨rfl,rfl,rfl,rfl,rfl,rfl,rfl⟩,V.out,d0.out,D.out⟩,by simp [intOf]⟩
  ·have q8:(s != 0)=true:=by rw [bne_iff_ne];exact e6
   have o:j=s:=S.out uz e6;subst o;have T:=Zh (i.out.trans D.out);clear R S b5 y b8 V D;go_wp2;go_ret;exact⟨rfl,T.out⟩
def V6(W:World)(u v x:Value):Prop:=Qt (fun g=>g<W.heap.size/\u.ownBlock≠some g/\v.ownBlock≠some g) x
structure TrP (b:Nat) (W:World) (u v:Value) (vals:List Value) (tr:List (Nat × Wd)):Prop where
 ou:W.ownsRow b 3 1 u tr.length (Qj (tr.map (·.1)))
 ov:W.ownsRow b 99 1 v tr.length vals
 wd:Z4 W vals (tr.map (·.2))
 wk:∀ x∈vals,V6 W u v x
theorem TrP.nil(b:Nat)(W:World):TrP b W (.slice none 0 0) (.slice none 0 0) [] []:=⟨World.ownsRow_nil _ _ _ _,World.ownsRow_nil _ _ _ _,trivial,fun x hx=>by cases hx⟩
theorem TrP.ext{b:Nat}{A B:World}{u v:Value}{vals:List Value}{tr:List (Nat × Wd)} (h:TrP b A u v vals tr) (ht:Ext A B):TrP b B u v vals tr:=
 ⟨Qc h.ou ht,Qc h.ov ht,h.wd.ext ht,fun x hx=>(h.wk x hx).mono fun _g hg=>⟨Nat.lt_of_lt_of_le hg.1 ht.size,hg.2⟩⟩
theorem TrP.out{b:Nat}{A:World}{u v:Value}{vals:List Value}{tr:List (Nat × Wd)} (h:TrP b A u v vals tr):Jj b A u v tr:=⟨h.ou,vals,h.ov,h.wd⟩
theorem V6.ext{A B:World}{u v x:Value}(h:V6 A u v x)(ht:Ext A B):V6 B u v x:=h.mono fun _g hg=>⟨Nat.lt_of_lt_of_le hg.1 ht.size,hg.2⟩
theorem V6.own{W:World}{b k:Nat}{i j f:TypeId}{s1 s2 s p q r:Nat}{u v x:Value}{t w y:List Value}(n:W.ownsRow b i s1 u p t)(o:W.ownsRow b j s2 v q w)(d:W.ownsRow k f s x r y)(l:i≠f)(m:j≠f):V6 W u v x:=by
 intro c F E z a D;have g:x.ownBlock=some c:=by
  rcases d.2 with ⟨e,_⟩ | ⟨C,A,B,e,_⟩
  ·rw [e] at a;cases a
  ·rw [e] at a;cases a;rw [e];rfl
 exact⟨(d.lt c g).2,fun hu'=>K6 n d l c hu' g,fun hv'=>K6 o d m c hv' g⟩
theorem TrP.push{b:Nat}{V W:World}{u v u' v':Value}{e:List Value}{c:List (Nat × Wd)} (h:TrP b V u v e c) {i:Nat} {r:Wd} {x:Value} (o:Qo V x r) (j:V6 V u v x)
  (s:W.ownsRow b 3 1 u' (c.length+1) (Qj (c.map (·.1))++[.int .i64 (i:Int)])) (t:W.ownsRow b 99 1 v' (c.length+1) (e++[x]))
  (m:Q0 (fun b=>u.ownBlock=some b\/v.ownBlock=some b) V W) (z:u'.ownBlock=u.ownBlock\/∃ k,V.heap.size<=k/\u'.ownBlock=some k) (A:v'.ownBlock=v.ownBlock\/∃ k,V.heap.size<=k/\v'.ownBlock=some k) :
  TrP b W u' v' (e++[x]) (c++[(i,r)])/\Qo W x r/\V6 W u' v' x:=by
 have q:∀ {y y':Value} (g:Nat),y.ownBlock≠some g->g<V.heap.size->(y'.ownBlock=y.ownBlock\/∃ k,V.heap.size<=k/\y'.ownBlock=some k)->y'.ownBlock≠some g:=fun g h1 h2 d=>by
  rcases d with d | ⟨k,d,w⟩
  ·rw [d];exact h1
  ·rw [w];intro f;cases f;omega
 have l:∀ y∈e++[x],V6 V u v y:=fun y a=>by
  rcases List.mem_append.1 a with a | a
  ·exact h.wk y a
  ·simp only [List.mem_singleton] at a;subst a;exact j
 have p:∀ y,V6 V u v y->V6 W u' v' y:=fun y a=>a.mono fun g hg=>⟨Nat.lt_of_lt_of_le hg.1 m.size,q g hg.2.1 hg.1 z,q g hg.2.2 hg.1 A⟩;have n:Q0 (fun b=>¬ (b<V.heap.size/\u.ownBlock≠some b/\v.ownBlock≠some b)) V W:=m.mono fun b _ f hn=>f.elim hn.2.1 hn.2.2;refine⟨⟨?_,?_,?_,fun y a=>p y (l y a)⟩,o.keepS n j,p x j⟩
 ·rw [List.length_append,List.map_append];show W.ownsRow _ _ _ _ _ (Qj (c.map (·.1)++[i]));rw [X8];exact s
 ·rw [List.length_append];exact t
 ·rw [List.map_append];exact(h.wd.snoc o).keepS n l
def Vn(l:List Bool)(b:Bool):Int:=match l.findIdx? (· == b) with | some i=>(i:Int) | none=>-1
def Eu(l:List Bool)(b:Bool)(k:Nat):Prop:=∀ x∈l.take k,(x == b)=false
theorem Q6k{l:List Bool}{b:Bool}{k:Nat}(c:k<l.length)(h:Eu l b k)(a:l[k]=b):Vn l b=(k:Int):=by
 unfold Vn;have:l.findIdx? (· == b)=some k:=by
  rw [List.findIdx?_eq_some_iff_getElem];refine⟨c,by simp [a],fun j hj=>?_⟩;have:=h l[j] (List.mem_take_iff_getElem.2 ⟨j,by omega,rfl⟩);simp [this]
 rw [this]
theorem Q3w{l:List Bool}{b:Bool}{k:Nat}(a:l.length<=k)(h:Eu l b k):Vn l b=-1:=by
 unfold Vn;have:l.findIdx? (· == b)=none:=by
  rw [List.findIdx?_eq_none_iff];intro d c;exact h d (by rw [List.take_of_length_le a];exact c)
 rw [this]
theorem Q0h{w:World}{l:List Bool}{ao:Option Addr}{n c:Nat}(b:Bool)(h:Rd w (.slice ao n c) n 1 (l.map .bool)) (A:l.length=n) :
  Calls Tryz.prog 85 #[.slice ao n c,.bool b] w fun e w'=>e=.returned (.int .i64 (Vn l b))/\w'=w:=by
 have N:=h.2.1;unfold maxLen at N;have H:=Zh h;have t:=Zh A;obtain⟨x,o⟩:=zE (Vn l b);rw [o];have u:=Zh o;clear h A o;go_enter Tryz.func85,Tryz.ntmps85;go_wp2
 refine wp_loop (fun a v=>∃(d:Nat),d<=n/\a.defers=[]/\gS a [0,1,7,8]=(19,[.slice ao n c,.bool b,.int .i64 n,.int .i64 d])/\Eu l b d/\v=w)
  (fun a _=>((n:Int) - intOf (a.tmps.getD 8 undef)).toNat) ?_ ?_
 ·exact⟨0,by omega,rfl,rfl,fun i f=>(by simp at f),rfl⟩
 rintro⟨W,_⟩ v ⟨d,T,L,E,C,rfl⟩;subst L;obtain⟨X,rfl⟩:=Z0 E;clear E;have m:=Zh C;clear C;by_cases M:d<n
 ·have K:(d:Int)<(n:Int):=by omega
  have R:(0:Int)<=(d:Int):=by omega
  have j:d<l.length:=by rw [t.out];exact M
  obtain⟨F,G,O,P,D,r⟩:=H.out;simp only [zV,true_and] at D;obtain⟨rfl,rfl⟩:=D;obtain⟨Q,V,rfl,_,s⟩:=r oz;have J:=s d oz;obtain⟨i,f⟩:=zE (l[d]);have p:(l.map Value.bool).getD d undef=.bool i:=by rw [List.getD_eq_getElem?_getD,List.getElem?_map,List.getElem?_eq_getElem j,f];rfl
  rw [p] at J;have U:IntKind.i64.wrap ((d:Int)+1)=(d:Int)+1:=IntWalk.i64_in _ oz;by_cases k:b=i
  ·have q:x=(d:Int):=u.out.symm.trans (Q6k j m.out (f.trans k.symm));subst k;subst q;clear p F G r s f;cases b
   all_goals
    go_wp2;go_ret;exact⟨rfl,rfl⟩
  ·have B:Eu l b (d+1):=fun y g=>by
    rw [List.take_succ_eq_append_getElem j] at g;rcases List.mem_append.1 g with g | g
    ·exact m.out y g
    ·simp at g;subst g;rw [f,beq_eq_false_iff_ne];exact fun e=>k e.symm
   have I:=Zh B;have S:(b == i)=false:=by rw [beq_eq_false_iff_ne];exact k
   clear p F G r s f B j;go_wp2;exact⟨⟨d+1,by omega,tz,rfl,I.out,by first | trivial | rfl⟩,mz⟩
 ·obtain rfl:d=n:=by omega
  have K:¬ (d:Int)<(d:Int):=by omega
  have q:x=-1:=u.out.symm.trans (Q3w (by rw [t.out];exact Nat.le_refl _) m.out);subst q;go_wp2;go_ret;exact⟨rfl,rfl⟩
theorem Ph{z:Array Value}{n:Nat}{x:Value}(h:x∈(Builtin.zeroCells z n).toList):x∈z.toList:=by
 rw [Array.mem_toList_iff] at h ⊢;unfold Builtin.zeroCells at h;obtain⟨c,a,rfl⟩:=Array.mem_map.1 h;rw [Array.mem_range] at a;have e:0<z.size:=by
  apply Nat.pos_of_ne_zero;intro d;rw [d,Nat.mul_zero] at a;omega
 have b:=Nat.mod_lt c e;rw [getElem!_pos z (c % z.size) b];exact Array.getElem_mem b
theorem Ek{w:World}{g o:Nat}{a:Array Value}{t:TypeId}{m:Nat × Nat}(h:w.heap[g]?=some (.cells a t m)):w.cell? ⟨g,o,none⟩=a[o]?:=by simp [World.cell?,h]
def X6(K:Value->Prop)(w:World)(v:Value):Prop:=∀ g cur t m,v.ownBlock=some g->w.heap[g]?=some (.cells cur t m)->∀ x∈cur.toList,K x
theorem X6.nil{K:Value->Prop}(w:World):X6 K w (.slice none 0 0):=fun _ _ _ _ h=>by simp [Value.ownBlock] at h
theorem X6.keep{K:Value->Prop}{S:Nat->Prop}{A B:World}{v:Value}{base:Nat}{e:TypeId}{sz n:Nat}{xs:List Value}(h:X6 K A v)(f:A.ownsRow base e sz v n xs)(i:Q0 S A B)(c:∀ g,v.ownBlock=some g->¬ S g):X6 K B v:=by
 intro g b k j a d;refine h g b k j a ?_;rw [<-d];exact(i.block g (f.lt g a).2 (c g a)).symm
theorem Ti{K:Value->Prop}{P:Program}{w:World}{base:Nat}{t ty e:TypeId}{i:TypeInfo}{z:Value}(C:P.underlying t=some (.slice e)) (y:P.info? e=some i) (L:i.zero=some z)
  {v:Value} {n:Nat} {xs:List Value} (H:w.ownsRow base e i.size v n xs)
  (a:Addr) (m c:Nat) (l:List Value) (B:l.length=m*i.size) (G:∀ j u,l[j]?=some u->w.cell? (a.add j)=some u) (T:∀ u∈l,u.oneCell'=true)
  (U:n+m<=maxLen) (I:(n+m)*i.bytes<=140737488355328) {v':Value} {Q:World}
  (f:(Builtin.append_ #[t,t] ty #[v,.slice (some a) m c]).run P w=.ok v' Q) (a0:∀ x∈z.cells.toList,K x) (F:∀ x∈l,K x) (E:X6 K w v):X6 K Q v':=by
 have a4:n+m<=9223372036854775807:=by simp only [maxLen] at U;omega
 have M:∀ k,∀ x∈(Builtin.zeroCells z.cells k).toList,K x:=fun k x b=>a0 x (Ph b);rcases H.2 with ⟨rfl,rfl⟩ | ⟨g,D,p,rfl,a1,o,a3,a2,V,Z⟩
 ·by_cases X:m=0
  ·subst X;have:(Builtin.append_ #[t,t] ty #[.slice none 0 0,.slice (some a) 0 c]).run P w=.ok (.slice none 0 0) w:=by
    simp [Builtin.append_,run_underlying C,sizeOf,typeInfo,y,Builtin.lenOf,Builtin.firstCells,loadCells,loadCellsFrom]
   rw [this] at f;cases f;exact E
  ·have r:=run_append_nil (P:=P) w t ty e i z C y L a m c l B G oz oz (by have d:=I;simp only [Nat.zero_add] at d;omega);rw [r] at f;cases f;intro g p O N o d x b;simp only [Value.ownBlock,Option.some.injEq] at o;subst o;rw [Q5 (A:=w.drew) (n:=w.heap.size) rfl] at d;cases d;simp only [Array.toList_append,List.mem_append] at b;exact b.elim (F x) (M _ x)
 ·by_cases J:n+m<=D
  ·have W:n*i.size+l.length<=p.size:=by rw [B,V,<-Nat.add_mul];exact Nat.mul_le_mul_right _ J
   have r:=run_append_room (P:=P) w t ty e i C y g n D p o a m c l B G T J W;rw [r] at f;cases f;intro S R O N q d x b;simp only [Value.ownBlock,Option.some.injEq] at q;subst q;rw [setRow_heap _ _ _ _ _ _ o] at d;cases d;have s:=E g p _ _ rfl o;simp only [List.mem_append] at b;rcases b with (b | b) | b
   ·exact s x (List.mem_of_mem_take b)
   ·exact F x b
   ·exact s x (List.mem_of_mem_drop b)
  ·have Y:∀ j u,xs[j]?=some u->w.cell? ((⟨g,0,none⟩:Addr).add j)=some u:=H.cells (g:=g) rfl;have r:=run_append_grow (P:=P) w t ty e i z C y L ⟨g,0,none⟩ n D xs H.1 Y a m c l B G oz oz (growslice_fits oz I);rw [r] at f;cases f;intro S R O N q d x b;simp only [Value.ownBlock,Option.some.injEq] at q;subst q;rw [Q5 (A:=w.drew) (n:=w.heap.size) rfl] at d;cases d;simp only [Array.toList_append,List.mem_append] at b;rcases b with (b | b) | b
   ·have s:=E g p _ _ rfl o;have:x∈p.toList.take (n*i.size):=by rw [Z];exact b
    exact s x (List.mem_of_mem_take this)
   ·exact F x b
   ·exact M _ x b
theorem Fp{K:Value->Prop}{P:Program}{w:World}{ops:Array Oper}{rest:List Oper}{o:Oper}{a:Act}{Q:Exit->Act->World->Prop}(M:o.guard=none)(s x:Operand)(t:TypeId)
  (R:o.op=.call { callee:=.builtin .append,args:=#[s,x],argTypes:=#[t,t] })
  (base:Nat) (e:TypeId) (z:Value) (size g:Nat) (E:P.underlying t=some (.slice e)) (N:(P.info? e).map (fun i=>(i.zero,i.size,i.bytes))=some (some z,size,g))
  (X:z.cells.size=size) (U:0<size)
  (v:Value) (n:Nat) (xs:List Value) (S:a.eval s=v) (C:w.ownsRow base e size v n xs)
  (f:Addr) (m c:Nat) (d:List Value) (V:a.eval x=.slice (some f) m c) (A:d.length=m*size) (B:∀ j u,d[j]?=some u->w.cell? (f.add j)=some u) (l:∀ u∈d,u.oneCell'=true)
  (q:n+m<=maxLen) (r:(n+m)*g<=140737488355328) (L:base<=w.heap.size) (W:∀ x∈z.cells.toList,K x) (O:∀ x∈d,K x) (I:X6 K w v)
  (h:∀ ao c' w',w'.ownsRow base e size (.slice ao (n+m) c') (n+m) (xs++d)->Q0 (fun b=>v.ownBlock=some b) w w'->X6 K w' (.slice ao (n+m) c')->wpList P ops Q rest (a.put o.dst (.slice ao (n+m) c')) w'):wpList P ops Q (o::rest) a w:=by
 obtain⟨i,y,F,T,J⟩:=info_parts N;subst T;subst J;refine wpList_plain M fun K hK=>?_
 obtain⟨Z,w',D,p,G,Y⟩:=run_append_own (P:=P) w base t o.type e i z _ _ E y F rfl rfl X U v n xs C f m c d A B l q r L;have H:=Ti E y F C f m c d A B l q r D W O I;unfold Oper.wp execOp;simp only [R,resolve,invoke,builtin,Sem.run_bind,Sem.run_pure,Result.andThen_ok,List.map_toArray,List.map_cons,List.map_nil,S,V,D];obtain⟨ao,c',rfl⟩:=Z5 p;exact hK _ _ (h ao c' w' p ((Q0.refl _ w).grown G (fun k e=>.inr e)) H)
def H8(v:Value):Prop:=∃ ao n c,v=.slice ao n c
theorem Ez{w:World}{v u:Value}{base:Nat}{e:TypeId}{sz n:Nat}{xs:List Value}{ws:Wd}(q:Qo w u ws)(p:X6 H8 w v)(o:w.ownsRow base e sz v n xs):Qt (fun b=>¬ v.ownBlock=some b) u:=by
 rintro k B A x rfl g d;obtain⟨t,y,a,r,_⟩:=q;simp only [zV] at a;obtain⟨rfl,rfl,rfl⟩:=a;obtain⟨⟨_,_,_,_,a,l⟩,_⟩:=r;cases a;obtain⟨z,C,a,_,m⟩:=l g;cases a;obtain⟨j,f⟩:=Zc o d;have c:=m 0 oz;cases ws with
 | nil=>cases g
 | cons s ws=>
  rw [Nat.add_zero,Ek f] at c;obtain⟨_,_,_,i⟩:=p k j _ _ d f _ (Array.mem_toList_iff.2 (Array.mem_of_getElem? c));rw [Jo] at i;cases i
theorem Qo.row{A B:World}{v u:Value}{base:Nat}{e:TypeId}{sz n:Nat}{xs:List Value}{ws:Wd}(h:Qo A u ws)(hr:X6 H8 A v)(ho:A.ownsRow base e sz v n xs)(ht:Q0 (fun b=>v.ownBlock=some b) A B):Qo B u ws:=
 h.keepS (ht.mono fun _ _ hb hn=>hn hb) (Ez h hr ho)
theorem Js.row{A B:World}{v:Value}{base:Nat}{e:TypeId}{sz n:Nat}{xs cs:List Value}{p:Wd × Wd}(h:Js A p cs)(c:X6 H8 A v)(a:A.ownsRow base e sz v n xs)(d:Q0 (fun b=>v.ownBlock=some b) A B):Js B p cs:=by
 obtain⟨j,v,f,g,i⟩:=h;exact⟨j,v,f,g.row c a d,i.row c a d⟩
theorem Mc{w:World}{ps:Qk}{lo:Option Addr}{n lc:Nat}{N:Option Addr}{m M:Nat}{us:List Wd}(a4:Qv w (.slice lo n lc) ps) (a5:ps.length=n) (r:Zz w (.slice N m M) us) (q:us.length=m) (Y:Tab w) :
  Calls Tryz.prog 87 #[.slice lo n lc,.slice N m M] w fun e w'=>e=.returned (.int .i64 (Zv (ps.map (·.1)) us))/\Ext w w':=by
 have d:=fun(V:World) (i:Ext w V)=>W4 (a4.ext i) a5 (Y.keep i id);have b7:m<=maxLen:=by obtain⟨_,b9,_⟩:=r;rw [<-q];exact b9.2.1
 unfold maxLen at b7;have H:=fun(V:World) (i:Ext w V) (b:Nat) (a3:b<m)=>Jq (r.ext i) q a3;obtain⟨g,G⟩:=zE (Yj (ps.map (·.1)));simp only [G] at d;obtain⟨o,j⟩:=zE (Zv (ps.map (·.1)) us);rw [j];unfold Zv at j;rw [G,q] at j;have a7:g≠0->o=g:=fun h=>by rw [<-j,if_neg h]
 have a8:g=0->256<m->o=12:=fun h h2=>by rw [<-j,if_pos h,if_pos h2]
 have J:g=0->¬ 256<m->o=Z1 (us.map wE):=fun h h2=>by rw [<-j,if_pos h,if_neg h2]
 have K:(us.map wE).length=m:=by rw [List.length_map,q]
 have y:∀ b,b<m->(us.map wE)[b]?=some (wE (us.getD b [])):=fun b h=>by
  rw [List.getElem?_map,List.getD_eq_getElem?_getD,List.getElem?_eq_getElem oz];rfl
 obtain⟨A,F⟩:=zE (us.map wE);rw [F] at J K;simp only [F] at y;obtain⟨s,W⟩:∃ c:Nat->Wd,(fun b=>us.getD b [])=c:=⟨_,rfl⟩;have X:∀ b,us.getD b []=s b:=fun b=>by rw [<-W]
 simp only [X] at H y;obtain⟨Q,R,S,O,U,b5,B⟩:=Zh7 a7 a8 J H K y d;clear d a7 a8 J H K y F W X j G a4 a5 r q Y;go_enter Tryz.func87,Tryz.ntmps87;go_wp2_with fail;refine(B.out _ (Q0.refl _ _)).mono ?_;rintro e c7 ⟨rfl,l⟩;by_cases u:g=0;case neg=>
  have c2:(g != 0)=true:=by rw [bne_iff_ne];exact u
  have f:g=o:=(Q.out u).symm;subst f;clear B O;go_wp2;go_ret;exact⟨rfl,l⟩
 subst u;have k:=Zh l;clear l B;by_cases Z:256<m
 ·have v:(m:Int) > 256:=by omega
  have f:=R.out uz Z;subst f;go_wp2;go_ret;exact⟨rfl,k.out⟩
 have v:¬ (m:Int) > 256:=by omega
 have f:=S.out uz Z;have T:=Zh f;clear f Q R S;go_wp2;clear v
 refine wp_loop (fun a D=>∃(b:Nat),b<=m/\a.defers=[]/\gS a [17,18,19]=(29,[.slice N m M,.int .i64 m,.int .i64 b])/\Z1 (A.take b)=0/\Ext w D)
  (fun a _=>(m - (intOf (a.tmps.getD 19 undef)).toNat)) ?_ ?_
 ·exact⟨0,by omega,rfl,rfl,rfl,k.out⟩
 clear k;rintro⟨c5,_⟩ D ⟨b,a3,b6,a9,a1,i⟩;subst b6;obtain⟨c6,rfl⟩:=Z0 a9;clear a9;have C:=Zh a1;have t:=Zh i;clear a1 i;by_cases I:b<m;case pos=>
  have v:(b:Int)<(m:Int):=by omega
  have u:(0:Int)<=(b:Int):=by omega
  have z:b<A.length:=by rw [U.out];exact I
  obtain⟨c1,c4,rfl,d0,c8,a0,b8⟩:=O.out D t.out b I;obtain⟨_,_,a6,b0,_⟩:=b8;simp only [zV,true_and] at a6;obtain⟨rfl,rfl⟩:=a6;have d:=U4 b0;have x:=Vr z C.out;have p:=Vp z C.out;have a2:A[b]=wE (s b):=by have:=b5.out b I;rwa [List.getElem?_eq_getElem z,Option.some.injEq] at this
  rw [a2] at x p;rw [<-T.out] at p;obtain⟨c,b1⟩:=zE (wE (s b));rw [b1] at d x p;obtain⟨c9,b2⟩:=zE ((s b).length);rw [b2] at a0 d;obtain⟨P,b4,b3⟩:=Zh3 d x p;clear d x p b0 b1 b2 a2 z;go_wp2_with fail;refine P.out.mono ?_;rintro e c0 ⟨rfl,l⟩;have k:=Zh (t.out.trans l);clear P l a0 t;by_cases L:c=0;case neg=>
   have c3:(c != 0)=true:=by simpa using L
   have r:=b3.out L;subst r;go_wp2;go_ret;exact⟨rfl,k.out⟩
  subst L;go_wp2;exact⟨⟨b+1,by omega,by first | trivial | rfl,rfl,b4.out,k.out⟩,nz⟩
 obtain rfl:b=m:=by omega
 have v:¬ (b:Int)<(b:Int):=by omega
 have f:o=0:=by
  rw [T.out,<-C.out,List.take_of_length_le (by rw [U.out];exact Nat.le_refl _)]
 subst f;go_wp2;go_ret;exact⟨rfl,t.out⟩
end Go.Proofs.YtfdlhlghcbeblaaGreatDoor
