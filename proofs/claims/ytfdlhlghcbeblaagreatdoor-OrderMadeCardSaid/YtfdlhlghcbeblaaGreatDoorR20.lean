/- Rows of places and words as they grow in a loop. -/
import Derived.Test.YtfdlhlghcbeblaaGreatDoorR12
set_option maxRecDepth 100000
set_option maxHeartbeats 16000000
namespace Go.Proofs.YtfdlhlghcbeblaaGreatDoor
open Go.RowKit Go.Ab
def Ko(W:World)(u v x:Value):Prop:=Z1 (fun g=>g<W.heap.size/\u.ownBlock≠some g/\v.ownBlock≠some g) x
structure TrP (b:Nat) (W:World) (u v:Value) (vals:List Value) (tr:List (Nat × Wd)):Prop where
 ou:W.ownsRow b 3 1 u tr.length (Qq (tr.map (·.1)))
 ov:W.ownsRow b 99 1 v tr.length vals
 wd:Y7 W vals (tr.map (·.2))
 wk:∀ x∈vals,Ko W u v x
theorem TrP.nil(b:Nat)(W:World):TrP b W (.slice none 0 0) (.slice none 0 0) [] []:=⟨World.ownsRow_nil _ _ _ _,World.ownsRow_nil _ _ _ _,trivial,fun x hx=>by cases hx⟩
theorem TrP.ext{b:Nat}{A B:World}{u v:Value}{vals:List Value}{tr:List (Nat × Wd)} (h:TrP b A u v vals tr) (ht:Ext A B):TrP b B u v vals tr:=
 ⟨Qo h.ou ht,Qo h.ov ht,h.wd.ext ht,fun x hx=>(h.wk x hx).mono fun _g hg=>⟨Nat.lt_of_lt_of_le hg.1 ht.size,hg.2⟩⟩
theorem TrP.out{b:Nat}{A:World}{u v:Value}{vals:List Value}{tr:List (Nat × Wd)} (h:TrP b A u v vals tr):Uk b A u v tr:=⟨h.ou,vals,h.ov,h.wd⟩
theorem Ko.ext{A B:World}{u v x:Value}(h:Ko A u v x)(ht:Ext A B):Ko B u v x:=h.mono fun _g hg=>⟨Nat.lt_of_lt_of_le hg.1 ht.size,hg.2⟩
theorem Ko.own{W:World}{b k:Nat}{i j f:TypeId}{s t w p q r:Nat}{u v x:Value}{y z A:List Value}(n:W.ownsRow b i s u p y)(o:W.ownsRow b j t v q z)(d:W.ownsRow k f w x r A)(l:i≠f)(m:j≠f):Ko W u v x:=by
 intro c H G B a F;have g:x.ownBlock=some c:=by
  rcases d.2 with ⟨e,_⟩ | ⟨E,C,D,e,_⟩
  ·rw [e] at a;cases a
  ·rw [e] at a;cases a;rw [e];rfl
 exact⟨(d.lt c g).2,fun hu'=>Gw n d l c hu' g,fun hv'=>Gw o d m c hv' g⟩
theorem TrP.push{b:Nat}{V W:World}{u v u' v':Value}{e:List Value}{c:List (Nat × Wd)} (h:TrP b V u v e c) {i:Nat} {r:Wd} {x:Value} (o:Zc V x r) (j:Ko V u v x)
  (s:W.ownsRow b 3 1 u' (c.length+1) (Qq (c.map (·.1))++[.int .i64 (i:Int)])) (t:W.ownsRow b 99 1 v' (c.length+1) (e++[x]))
  (m:Qa (fun b=>u.ownBlock=some b\/v.ownBlock=some b) V W) (z:u'.ownBlock=u.ownBlock\/∃ k,V.heap.size<=k/\u'.ownBlock=some k) (A:v'.ownBlock=v.ownBlock\/∃ k,V.heap.size<=k/\v'.ownBlock=some k) :
  TrP b W u' v' (e++[x]) (c++[(i,r)])/\Zc W x r/\Ko W u' v' x:=by
 have q:∀ {y y':Value} (g:Nat),y.ownBlock≠some g->g<V.heap.size->(y'.ownBlock=y.ownBlock\/∃ k,V.heap.size<=k/\y'.ownBlock=some k)->y'.ownBlock≠some g:=fun g h1 h2 d=>by
  rcases d with d | ⟨k,d,w⟩
  ·rw [d];exact h1
  ·rw [w];intro f;cases f;omega
 have l:∀ y∈e++[x],Ko V u v y:=fun y a=>by
  rcases List.mem_append.1 a with a | a
  ·exact h.wk y a
  ·simp only [List.mem_singleton] at a;subst a;exact j
 have p:∀ y,Ko V u v y->Ko W u' v' y:=fun y a=>a.mono fun g hg=>⟨Nat.lt_of_lt_of_le hg.1 m.size,q g hg.2.1 hg.1 z,q g hg.2.2 hg.1 A⟩;have n:Qa (fun b=>¬ (b<V.heap.size/\u.ownBlock≠some b/\v.ownBlock≠some b)) V W:=m.mono fun b _ f hn=>f.elim hn.2.1 hn.2.2;refine⟨⟨?_,?_,?_,fun y a=>p y (l y a)⟩,o.keepS n j,p x j⟩
 ·rw [List.length_append,List.map_append];show W.ownsRow _ _ _ _ _ (Qq (c.map (·.1)++[i]));rw [Xa];exact s
 ·rw [List.length_append];exact t
 ·rw [List.map_append];exact(h.wd.snoc o).keepS n l
attribute [local go_sem] Oper.semAt_some Zk Qx
def Ku(l:List Bool)(b:Bool):Int:=match l.findIdx? (· == b) with | some i=>(i:Int) | none=>-1
def Q2r(l:List Bool)(b:Bool)(k:Nat):Prop:=∀ x∈l.take k,(x == b)=false
theorem Qam{l:List Bool}{b:Bool}{k:Nat}(c:k<l.length)(h:Q2r l b k)(a:l[k]=b):Ku l b=(k:Int):=by
 unfold Ku;have:l.findIdx? (· == b)=some k:=by
  rw [List.findIdx?_eq_some_iff_getElem];refine⟨c,by simp [a],fun j hj=>?_⟩;have:=h l[j] (List.mem_take_iff_getElem.2 ⟨j,by omega,rfl⟩);simp [this]
 rw [this]
theorem Q6q{l:List Bool}{b:Bool}{k:Nat}(a:l.length<=k)(h:Q2r l b k):Ku l b=-1:=by
 unfold Ku;have:l.findIdx? (· == b)=none:=by
  rw [List.findIdx?_eq_none_iff];intro d c;exact h d (by rw [List.take_of_length_le a];exact c)
 rw [this]
theorem Q2a{w:World}{l:List Bool}{ao:Option Addr}{n c:Nat}(b:Bool)(h:Rd w (.slice ao n c) n 1 (l.map .bool)) (A:l.length=n) :
  Calls Tryz.prog 85 #[.slice ao n c,.bool b] w fun e w'=>e=.returned (.int .i64 (Ku l b))/\w'=w:=by
 have N:=h.2.1;unfold maxLen at N;have H:=Zh h;have t:=Zh A;obtain⟨x,o⟩:=zE (Ku l b);rw [o];have u:=Zh o;clear h A o;go_enter Tryz.func85,Tryz.ntmps85;go_wp2
 refine wp_loop (fun a v=>∃(d:Nat),d<=n/\a.defers=[]/\gS a [0,1,7,8]=(19,[.slice ao n c,.bool b,.int .i64 n,.int .i64 d])/\Q2r l b d/\v=w)
  (fun a _=>((n:Int) - intOf (a.tmps.getD 8 undef)).toNat) ?_ ?_
 ·exact⟨0,by omega,rfl,rfl,fun i f=>(by simp at f),rfl⟩
 rintro⟨W,_⟩ v ⟨d,T,L,E,C,rfl⟩;subst L;obtain⟨X,rfl⟩:=Zd E;clear E;have m:=Zh C;clear C;by_cases M:d<n
 ·have K:(d:Int)<(n:Int):=by omega
  have R:(0:Int)<=(d:Int):=by omega
  have j:d<l.length:=by rw [t.out];exact M
  obtain⟨F,G,O,P,D,r⟩:=H.out;simp only [zV,true_and] at D;obtain⟨rfl,rfl⟩:=D;obtain⟨Q,V,rfl,_,s⟩:=r oz;have J:=s d oz;obtain⟨i,f⟩:=zE (l[d]);have p:(l.map Value.bool).getD d undef=.bool i:=by rw [List.getD_eq_getElem?_getD,List.getElem?_map,List.getElem?_eq_getElem j,f];rfl
  rw [p] at J;have U:IntKind.i64.wrap ((d:Int)+1)=(d:Int)+1:=IntWalk.i64_in _ oz;by_cases k:b=i
  ·have q:x=(d:Int):=u.out.symm.trans (Qam j m.out (f.trans k.symm));subst k;subst q;clear p F G r s f;cases b
   all_goals
    go_wp2;go_ret;exact⟨rfl,rfl⟩
  ·have B:Q2r l b (d+1):=fun y g=>by
    rw [List.take_succ_eq_append_getElem j] at g;rcases List.mem_append.1 g with g | g
    ·exact m.out y g
    ·simp at g;subst g;rw [f,beq_eq_false_iff_ne];exact fun e=>k e.symm
   have I:=Zh B;have S:(b == i)=false:=by rw [beq_eq_false_iff_ne];exact k
   clear p F G r s f B j;go_wp2;exact⟨⟨d+1,by omega,tz,rfl,I.out,by first | trivial | rfl⟩,mz⟩
 ·obtain rfl:d=n:=by omega
  have K:¬ (d:Int)<(d:Int):=by omega
  have q:x=-1:=u.out.symm.trans (Q6q (by rw [t.out];exact Nat.le_refl _) m.out);subst q;go_wp2;go_ret;exact⟨rfl,rfl⟩
def Y5:Nat->List Nat->List (List Nat)
 | 0,_=>[[]]
 | n+1,av=>av.flatMap fun i=>(Y5 n (av.filter (· != i))).map (i::·)
def Qm:Nat->List (List Nat)
 | 0=>[[]]
 | n+1=>(List.range (n+1)).flatMap fun f=>(Qm n).map fun r=>f::r.map fun x=>if f<=x then x+1 else x
theorem W8{α β:Type}{l:List α}{f g:α->List β}(h:∀ x∈l,f x=g x):l.flatMap f=l.flatMap g:=by
 rw [List.flatMap_def,List.flatMap_def,List.map_congr_left h]
theorem Fw{b:List Nat}(h:b.Nodup){f:Nat}(c:f<b.length):b.filter (· != b[f])=b.eraseIdx f:=by
 induction b generalizing f with
 | nil=>cases c
 | cons a b ih=>
  rw [List.nodup_cons] at h;cases f with
  | zero=>
   simp only [List.getElem_cons_zero,List.eraseIdx_cons_zero];rw [List.filter_cons_of_neg zy,List.filter_eq_self.2];intro i g;simp only [bne_iff_ne,ne_eq];rintro rfl;exact h.1 g
  | succ f=>
   have d:f<b.length:=by simpa using c
   simp only [List.getElem_cons_succ,List.eraseIdx_cons_succ];rw [List.filter_cons_of_pos (by simp only [bne_iff_ne,ne_eq];intro e;exact h.1 (e ▸ List.getElem_mem d)),ih h.2 d]
theorem Q2v(a:List Nat)(f x:Nat):(a.eraseIdx f).getD x 0=a.getD (if f<=x then x+1 else x) 0:=by
 rw [List.getD_eq_getElem?_getD,List.getD_eq_getElem?_getD,List.getElem?_eraseIdx];by_cases b:f<=x
 ·rw [if_pos b,if_neg oz]
 ·rw [if_neg b,if_pos oz]
theorem Ln:∀(n:Nat) (av:List Nat),av.Nodup->av.length=n->Y5 n av=(Qm n).map fun o=>o.map fun x=>av.getD x 0
 | 0,_,_,_=>rfl
 | n+1,av,hn,hl=>by
  unfold Y5 Qm;have hav:av=(List.range (n+1)).map fun f=>av.getD f 0:=by
   apply List.ext_getElem
   ·simp [hl]
   ·intro e c d;simp [List.getD_eq_getElem?_getD,c]
  conv=>lhs;arg 2;rw [hav]
  rw [List.flatMap_map,List.map_flatMap];refine W8 fun f hf=>?_
  have a:f<av.length:=by rw [hl];exact List.mem_range.1 hf
  have b:av.getD f 0=av[f]:=by rw [List.getD_eq_getElem?_getD,List.getElem?_eq_getElem a];rfl
  rw [b,Fw hn a,Ln n (av.eraseIdx f) (hn.sublist (List.eraseIdx_sublist ..)) (by rw [List.length_eraseIdx_of_lt a,hl];rfl),List.map_map,List.map_map];refine List.map_congr_left fun r _=>?_
  simp only [Function.comp,List.map_cons,List.map_map];rw [b]
  congr 1
  exact List.map_congr_left fun x _=>Q2v av f x
theorem Ju:∀(n:Nat),∀ o∈Qm n,o.length=n/\∀ x∈o,x<n
 | 0,o,h=>by
  unfold Qm at h;rw [List.mem_singleton] at h;subst h;exact⟨rfl,fun x hx=>by cases hx⟩
 | n+1,o,h=>by
  unfold Qm at h;obtain⟨f,hf,h⟩:=List.mem_flatMap.1 h;obtain⟨r,hr,rfl⟩:=List.mem_map.1 h;obtain⟨h1,h2⟩:=Ju n r hr;refine⟨by simp [h1],fun x hx=>?_⟩;rcases List.mem_cons.1 hx with rfl | hx
  ·exact List.mem_range.1 hf
  ·obtain⟨y,hy,rfl⟩:=List.mem_map.1 hx;have:=h2 y hy
   split <;> omega
theorem Xq(n:Nat):Y5 n (List.range n)=Qm n:=by
 rw [Ln n _ List.nodup_range zy];conv=>rhs;rw [<-List.map_id (Qm n)]
 refine List.map_congr_left fun o ho=>?_
 conv=>rhs;rw [id,<-List.map_id o]
 refine List.map_congr_left fun x hx=>?_
 have:=(Ju n o ho).2 x hx;simp [List.getD_eq_getElem?_getD,this]
def X6(n:Nat)(p:List Nat):List Nat:=(List.range n).filter fun i=>!p.contains i
def Ji(n m:Nat)(p:List Nat):List (List Nat):=(Y5 m (X6 n p)).map (p++·)
def Um(n m:Nat)(p:List Nat)(k:Nat):List (List Nat):=(X6 k p).flatMap fun i=>Ji n m (p++[i])
theorem Ce(n:Nat)(p:List Nat):Ji n 0 p=[p]:=by
 unfold Ji Y5;simp
theorem Q53(n:Nat)(p:List Nat)(i:Nat):X6 n (p++[i])=(X6 n p).filter (· != i):=by
 unfold X6;rw [List.filter_filter];apply List.filter_congr;intro b _;by_cases a:b=i
 ·subst a;simp
 ·simp [a]
theorem Q3g(n m:Nat)(p:List Nat):Um n m p 0=[]:=rfl
theorem Ch{n m k:Nat}{p:List Nat}(h:k∈p):Um n m p (k+1)=Um n m p k:=by
 unfold Um X6;rw [List.range_succ,List.filter_append];simp [h]
theorem Fz{n m k:Nat}{p:List Nat}(h:k ∉ p):Um n m p (k+1)=Um n m p k++Ji n m (p++[k]):=by
 unfold Um X6;rw [List.range_succ,List.filter_append];simp [h]
theorem Md(n m:Nat)(p:List Nat):Um n m p n=Ji n (m+1) p:=by
 have c:Y5 (m+1) (X6 n p)=(X6 n p).flatMap fun a=>(Y5 m ((X6 n p).filter (· != a))).map (a::·):=rfl;unfold Um Ji;rw [c,List.map_flatMap];apply W8;intro a _;rw [Q53,List.map_map];apply List.map_congr_left;intro b _;show (p++[a])++b=p++a::b;simp
theorem Q2j{n m k:Nat}{p:List Nat}(i:k<n)(h:k ∉ p):∃ rest,Ji n (m+1) p=Um n m p k++Ji n m (p++[k])++rest:=by
 have g:∀ b a,a+b=n->∃ rest,Um n m p n=Um n m p a++rest:=by
  intro b
  induction b with
  | zero=>
   intro a f;obtain rfl:a=n:=by omega
   exact⟨[],by simp⟩
  | succ b ih=>
   intro a f;obtain⟨d,c⟩:=ih (a+1) oz;by_cases e:a∈p
   ·exact⟨d,by rw [c,Ch e]⟩
   ·exact⟨_,by rw [c,Fz e,List.append_assoc]⟩
 obtain⟨d,c⟩:=g (n - (k+1)) (k+1) oz;exact⟨d,by rw [<-Md,c,Fz h]⟩
theorem Q6e{LD:List Qe}{p:List Nat}{i:Nat}{l:Qe}(a:LD[i]?=some l)(s:Option Wd):Yw LD (p++[i]) s=Yj l (Yw LD p s):=by
 unfold Yw;rw [List.foldl_append];simp only [List.foldl_cons,List.foldl_nil,a]
def U2(n:Nat)(p:List Nat):Nat:=X1 n fun i=>p.contains i
theorem Q1r(n:Nat)(p:List Nat):U2 n p<2 ^ n:=Kw _ _
theorem Q6v(n:Nat):U2 n []=0:=by unfold U2;rw [show (fun i=>([]:List Nat).contains i)=fun _=>false from rfl,Un]
theorem Q7y{n k:Nat}{p:List Nat}(a:k<n):(U2 n p).testBit k=decide (k∈p):=by
 unfold U2;rw [Xf];simp [a]
theorem Qa2{n k:Nat}{p:List Nat}(b:k<n):U2 n p ||| 2 ^ k=U2 n (p++[k]):=by
 unfold U2;rw [Kp b,Rw];apply Uw;intro c _;by_cases a:c=k
 ·subst a;simp
 ·simp [a]
theorem Q5j{w:World}{ao:Option Addr}{N cap:Nat}{ps:Qs}(H:Za w (.slice ao N cap) ps) (E:ps.length=N) (U:N<=maxLen) (f:Nat) (lb:Array Value) (m:∀ args w,(callFunc f args).run Tryz.prog w=.ok (.enter f args) w)
  (F:Qe->Bool) (D:∀ p∈ps,∀ V,Ext w V->Calls Tryz.prog f (#[.agg p.2.toArray]++lb) V fun e w'=>e=.returned (.bool (F p.1))/\Ext V w') :
  Calls Tryz.prog 187 #[.slice ao N cap,.func (.func f) #[] lb] w fun e w'=>∃ z:Int,e=.returned (.int .i64 z)/\decide (0<=z)=ps.any (fun p=>F p.1)/\Ext w w':=by
 unfold maxLen at U;obtain⟨M,L,y,K⟩:=Zh4 H D E m;clear H D E m;go_enter Tryz.func187,Tryz.ntmps187;go_wp2
 refine wp_loop (fun a r=>∃(b:Nat),b<=N/\a.defers=[]/\gS a [0,1,7,8]=(19,[.slice ao N cap,.func (.func f) #[] lb,.int .i64 N,.int .i64 b])/\(ps.take b).any (fun p=>F p.1)=false/\Ext w r)
  (fun a _=>N - (intOf (a.tmps.getD 8 undef)).toNat) ?_ ?_
 ·exact⟨0,by omega,rfl,rfl,by simp,Qa.refl _ _⟩
 rintro⟨a4,_⟩ r ⟨b,a3,R,J,G,g⟩;subst R;obtain⟨a5,rfl⟩:=Zd J;clear J;have u:=Zh G;clear G;by_cases S:b<N
 ·have Q:(b:Int)<(N:Int):=by omega
  have a1:(0:Int)<=(b:Int):=by omega
  have n:b<ps.length:=by rw [y.out];exact S
  obtain⟨P,X,a0,I,a2,o,T,l⟩:=(M.out.ext g).at n;simp only [zV] at I;obtain⟨rfl,W,rfl⟩:=I;clear W;have i:=L.out _ (List.getElem_mem n) r g;obtain⟨j,q⟩:=zE (ps[b]);have Y:Hid (ps[b]=j):=Zh q;rw [q] at o l i;obtain⟨k,s⟩:=zE (F j.1);rw [s] at i;have v:Hid (F ps[b].1=k):=Zh (by rw [q];exact s);obtain⟨a6,O⟩:=j;dsimp only at o l i;obtain⟨x,A,t⟩:=Zh3 i o l;clear i q s o l T;have m:=K.out
  go_wp2_with (refine Yp (by rfl) 102 (.tmp 14) rfl P (X+b*18) zr O _ A.out Tryz.underlying102 rfl (by rw [t.out];kernel_rfl) ?_)
  clear m;refine x.out.mono ?_;rintro e Z ⟨rfl,C⟩;have B:=g.trans C;clear x g C A t;cases k
  ·have c:(ps.take (b+1)).any (fun p=>F p.1)=false:=by
    rw [List.take_succ_eq_append_getElem n,List.any_append,u.out];simp [v.out]
   have d:=Zh c;clear c;go_wp2;exact⟨⟨b+1,by omega,tz,rfl,d.out,B⟩,nz⟩
  ·have c:ps.any (fun p=>F p.1)=true:=List.any_eq_true.2 ⟨_,List.getElem_mem n,v.out⟩;have d:=Zh c;clear c;go_wp2;go_ret;exact⟨_,rfl,by rw [d.out];simp,B⟩
 ·obtain rfl:b=N:=by omega
  have Q:¬ (b:Int)<(b:Int):=by omega
  have c:ps.any (fun p=>F p.1)=false:=by have:=u.out;rwa [List.take_of_length_le (by rw [y.out];exact Nat.le_refl _)] at this
  have d:=Zh c;clear c;go_wp2;go_ret;exact⟨_,rfl,by rw [d.out];simp,g⟩
theorem Bu{w:World}{ao:Option Addr}{N cap:Nat}{ps:Qs}(g:Za w (.slice ao N cap) ps) (c:ps.length=N) (m:N<=maxLen) (a:Nat) (lb:Array Value) (d:∀ args w,(callFunc a args).run Tryz.prog w=.ok (.enter a args) w)
  (F:Qe->Bool) (b:∀ p∈ps,∀ V,Ext w V->Calls Tryz.prog a (#[.agg p.2.toArray]++lb) V fun e w'=>e=.returned (.bool (F p.1))/\Ext V w') :
  Calls Tryz.prog 147 #[.slice ao N cap,.func (.func a) #[] lb] w fun e w'=>e=.returned (.bool (ps.any fun p=>F p.1))/\Ext w w':=by
 have f:=Q5j g c m (cap:=cap) a lb d F b;have j:=Zh f;clear f b g d c;go_enter Tryz.func147,Tryz.ntmps147;go_wp2_with fail;refine j.out.mono ?_;rintro e n ⟨o,rfl,i,l⟩;have k:=Zh i;clear i;go_wp2;go_ret;exact⟨by rw [<-k.out];rfl,l⟩
theorem Q2o{w:World}{l:Qe}{cs:List Value}(g:Zm w l cs)(z:Tab w) :
  Calls Tryz.prog 148 #[.agg cs.toArray] w fun e w'=>e=.returned (.bool (!Zx l))/\Ext w w':=by
 have f:=fun(V:World) (hE:Ext w V)=>Dz (g.ext hE) (z.keep hE id);obtain⟨L,E,Q,G,J,p,r,M,k,t,F,R,H,K,q,s,N,m,u,C,n,B,P,o,O,I,rfl,Y,a6,a7,X,a5,a4,a0,a1,a2,a3,Z,a8,a9,b0,b1,b2⟩:=Yb g;have d:He l=if Zx l=true then 0 else 17:=rfl
 obtain⟨a,A⟩:=zE (Zx l);rw [A] at d ⊢;rw [d] at f;have j:=Zh f;clear f g z d A;go_enter Tryz.func148,Tryz.ntmps148;go_upto_region 1 with (fail)
 obtain⟨S,b⟩:=zE (w.alloc (.cells #[.string L,.int .i64 E,.int .u32 (Q:Int),.int .u32 (G:Int),.bool J,.int .i64 p,.int .i64 r,.slice M k t,.int .i64 F,.int .u32 (R:Int),.int .u32 (H:Int),.bool K,.int .i64 q,.int .i64 s,.slice N m u,.slice C n B,.slice P o O,.int .i64 I] 102));have x:Ext w S:=by rw [<-b];exact(Qa.refl _ w).alloc _
 have i:S.heap[w.heap.size]?=some (.cells #[.string L,.int .i64 E,.int .u32 (Q:Int),.int .u32 (G:Int),.bool J,.int .i64 p,.int .i64 r,.slice M k t,.int .i64 F,.int .u32 (R:Int),.int .u32 (H:Int),.bool K,.int .i64 q,.int .i64 s,.slice N m u,.slice C n B,.slice P o O,.int .i64 I] 102 (0,0)):=by rw [<-b];exact Qc rfl
 rw [b];obtain⟨T,v⟩:=zE w.heap.size;rw [v] at i ⊢;have W:=Zh i;have c:=Zh x;clear b i v x
 go_wp2_with (refine wpList_load_row rfl 102 (.tmp 1) rfl T rfl _ _ _ _ W.out Tryz.underlying102 rfl Tryz.lawInfo ?_)
 refine(j.out _ c.out).mono ?_;rintro e b3 ⟨rfl,y⟩;have U:=Zh (c.out.trans y);clear y j c;cases a
 all_goals
  go_wp2;go_ret;exact⟨rfl,U.out⟩
theorem R9{w:World}{ps:Qs}{lo:Option Addr}{n lc:Nat}(f:Za w (.slice lo n lc) ps) (g:ps.length=n) (o:Tab w) :
  Calls Tryz.prog 99 #[.slice lo n lc] w fun e w'=>e=.returned (.int .i64 (Jv (ps.map (·.1))))/\Ext w w':=by
 have q:n<=maxLen:=by rw [<-g];exact f.1.2.1
 have k:=Bu f g q 148 #[] (enters_of Tryz.func148 kz rfl) (fun l=>!Zx l) (fun a d V c=>Q2o ((f.2 a d).ext c) (o.keep c id));have r:Jv (ps.map (·.1))=if 64<n then 12 else if (ps.any fun a=>!Zx a.1)=true then 17 else 0:=by
  unfold Jv;rw [List.length_map,g];by_cases b:64<n
  ·rw [if_pos b,if_pos b]
  ·rw [if_neg b,if_neg b];cases h2:ps.any fun a=>!Zx a.1 with
   | false=>rw [if_pos (by rw [List.all_map,List.all_eq_true];intro a d;have:=List.any_eq_false.1 h2 a d;simpa using this)];rfl
   | true=>rw [if_neg (by rw [List.all_map,List.all_eq_true];intro u;obtain⟨a,d,m⟩:=List.any_eq_true.1 h2;have:=u a d;simp at m this;rw [m] at this;cases this)];rfl
 rw [r];obtain⟨j,p⟩:=zE (ps.any fun a=>!Zx a.1);rw [p] at k ⊢;unfold maxLen at q;have i:=Zh k;clear k r p f g o;go_enter Tryz.func99,Tryz.ntmps99;by_cases b:64<n
 ·have t:(n:Int) > 64:=by omega
  rw [if_pos b];clear i;go_wp2;go_ret;exact⟨rfl,Qa.refl _ _⟩
 have t:¬ (n:Int) > 64:=by omega
 rw [if_neg b];go_wp2_with fail;refine i.out.mono ?_;rintro e v ⟨rfl,c⟩;have s:=Zh c;clear c i;cases j
 all_goals
  go_wp2;go_ret;exact⟨rfl,s.out⟩
def Jq:List Qe->Wd->Nat->List (Nat × Wd)
 | [],u,i=>[(i,u)]
 | l::ls,u,i=>(i,u)::(if trE l u=0 then Jq ls (Xp l u) (i+1) else [])
def Fj:List PanicEntry:=[{ v:=.iface 221 (.int .i64 11),recovered:=false }]
def Wb(ls:List Qe)(ws:Wd):Option (List PanicEntry):=if (Ye ls ws).isSome=true then none else some Fj
def Qbu(_:Nat)(x:Nat × Wd)(W:World)(ys:Array Value):Prop:=∃ v,ys=#[.int .i64 (x.1:Int),v]/\Zc W v x.2
theorem Nc:∀(ls:List Qe) (ws:Wd) (i:Nat) (u:Wd),Ye ls ws=some u->∃ pre,Jq ls ws i=pre++[(i+ls.length,u)]
 | [],ws,i,u,h=>by cases h;exact⟨[],rfl⟩
 | l::ls,ws,i,u,h=>by
  unfold Ye at h
  split at h
  ·rename_i h0
   obtain⟨pre,hp⟩:=Nc ls _ (i+1) u h;refine⟨(i,ws)::pre,?_⟩;unfold Jq;rw [if_pos h0,hp,List.length_cons,show i+(ls.length+1)=i+1+ls.length by omega];rfl
  ·cases h
theorem Ni(a:List Qe)(u:Wd)(i:Nat):Jq a u i=(i,u)::(Jq a u i).tail:=by cases a <;> rfl
theorem T8{A B:World}{v:Value}{u:Wd}{D l:Nat}{N:Option Addr}{M L:Nat}{t:TypeId}{q:Nat × Nat}(h:Zc A v u)(g:Qa (fun b=>b=D\/b=l) A B) (C:A.heap[D]?=some (.cells #[.slice N M L] t q)) (G:∃ o,A.heap[l]?=some o/\o.isCells=false):Zc B v u:=by
 obtain⟨k,n,rfl,⟨⟨r,w,m,p,I,x⟩,y⟩,z⟩:=h;refine⟨k,n,rfl,⟨⟨r,w,m,p,I,fun hn=>?_⟩,y⟩,z⟩;obtain⟨c,e,E,F,d⟩:=x hn;have H:¬ (c=D\/c=l):=by
  rintro(rfl | rfl)
  ·have a:=d 0 oz;rw [Nat.add_zero] at a;unfold World.cell? at a;simp only [C] at a;cases e with
   | zero=>
    rw [List.getD_eq_getElem?_getD] at a;cases u with
    | nil=>simp at hn
    | cons s u=>simp [Zv] at a
   | succ e=>simp at a
  ·obtain⟨o,J,K⟩:=G;obtain⟨O,f,i⟩:=Hr (d 0 oz);simp only at f;rw [J] at f;cases f;rw [K] at i;cases i
 exact⟨c,e,E,Nat.lt_of_lt_of_le F g.size,fun j hj=>g.cell_some (d j hj) H⟩
theorem Q2b{w0 w:World}{BL BW D n:Nat}{ps:Qs}{lo:Option Addr}{lc:Nat}{vo:Option Addr}{vn vc:Nat}{ws:Wd}(d1:Ext w0 w)(u6:w0.heap.size<=D)(a9:Za w0 (.slice lo n lc) ps) (b0:ps.length=n) (m5:∀ p∈ps,Zx p.1=true)
  (f2:Qk w0 (.slice vo vn vc) ws) (f1:ws.length=vn) (f3:wE ws=0) (k9:Tab w0) (d8:w.heap[BL]?=some (.cells #[.slice lo n lc] 26 (0,0))) (l3:w.heap[BW]?=some (.cells #[.slice vo vn vc] 99 (0,0))) (m4:BL≠D) (t5:BW≠D) :
  Q99 Tryz.prog 176 #[.pointer (some ⟨BW,0,none⟩),.pointer (some ⟨BL,0,none⟩)] (fun _ _=>False) Qbu (Jq (ps.map (·.1)) ws 0) (Wb (ps.map (·.1)) ws) (fun b=>b=D) (fun A=>∃ so sn sc,A.heap[D]?=some (.cells #[.slice so sn sc] 99 (0,0))) w:=by
 intro f7 c6 u1 s5 z u9 u8 k6 t3 k3 d6 c9;have v1:=(Array.getElem?_eq_some_iff.1 d8).1;have l0:=z.heap d8 m4;have l4:=z.heap l3 t5;have d2:Ext w0 s5:=Qa.after d1 z (fun b hb Y=>by omega);have v0:=d1.size;have m7:ps.length<=maxLen:=a9.1.2.1;rw [b0] at m7;unfold maxLen at m7;have t7:ws.length<=32:=Q1s f3;have n8:=f2.2;have l5:=fun(d:World) (i:Ext w0 d)=>Sg (f2.ext i) oz;have k7:∀ g A B,c6 g A->Ext A B->c6 g B:=fun g A B a6 he=>k6 g A B a6 (Ext.of he);have n1:∀ d,Ext w0 d->∀ B,Qa (fun b=>b=D\/b=f7) d B->Ext w0 B:=fun d i B z=>Qa.after i z (fun b hb m=>by rcases m with m | m <;> omega);obtain⟨f,a1⟩:=zE (ps.map (·.1));obtain⟨E,d3⟩:=zE (Jq f ws 0);rw [a1,d3] at d6 ⊢
 have l9:∀ c (m1:c<n),∃ p,ps[c]?=some p/\Zx p.1=true/\f[c]?=some p.1/\(∀ x∈p.1.outs,Yu x):=fun c m1=>by
  have s:c<ps.length:=by omega
  refine⟨ps[c],List.getElem?_eq_getElem s,m5 _ (List.getElem_mem s),by rw [<-a1,List.getElem?_map,List.getElem?_eq_getElem s];rfl,?_⟩;obtain⟨_,_,_,_,_,_,_,_,_,t6⟩:=a9.2 _ (List.getElem_mem s);exact t6.2
 have m3:f.length=n:=by rw [<-a1,List.length_map,b0]
 obtain⟨q5,p9,g7,j1,g2,i3,q2,g5⟩:=Zh8 (fun(d:World) (i:Ext w0 d)=>a9.ext i) l5 k7 d6 k3 n1 l9 d3;obtain⟨c3,i6,s3,g6,r8,X,r4⟩:=Zh7 m3 n8 f3 c9 (fun(d:World) (i:Ext w0 d)=>k9.keep i id) f1 b0;rw [f1] at t7;clear a9 l5 k7 d6 k3 n1 l9 d3 m3 n8 f3 c9 k9 k6 t3 d1 f2 m5 a1 z d8 l3 f1 b0;show Calls _ _ #[.func (.yield f7) #[] #[],.pointer (some ⟨BW,0,none⟩),.pointer (some ⟨BL,0,none⟩)] _ _;go_enter Tryz.func176,Tryz.ntmps176;have t0:=cell_of_one l4;go_wp2_with fail;have d9:=p9.out _ d2;rw [X.out] at d9;refine d9.mono ?_;rintro Y f9 ⟨r,q,rfl,k8,a2⟩;have k4:Ext w0 f9:=d2.trans a2;have l1:=a2.keep l0;have C:Zc f9 (.slice r vn q) ws:=by have:=Zc.own (u:=ws) (by rw [X.out];exact k8) i6.out;rw [X.out] at this;exact this
 have e1:=g7.out _ _ _ g6.out a2;have f0:E=[]++(0,ws)::(Jq f ws 0).tail:=by
  rw [<-g5.out];cases f with
  | nil=>rfl
  | cons a b=>rfl
 obtain⟨t1,t9,s7,s8,f6,K⟩:=j1.out [] (0,ws) _ f9 #[.int .i64 0,.slice r vn q] f0 e1 ⟨_,rfl,C⟩;obtain⟨⟨so,sn,sc,I⟩,Q⟩:=g2.out _ _ e1;obtain⟨r7,H,G,g4,g1,S,W⟩:=Zh7 f0 K C k4 l1 I Q;clear K C k4 l1 I Q e1 f0 k8 a2 d9 t0 l0 l4 d2;go_upto_region 1 with (fail)
 refine(wpIn_wide (n:=0)).1 ?_;gi_wp2;refine H.out.mono ?_;rintro Y w2 (⟨rfl,Z,k⟩ | ⟨rfl,Z,k⟩);case inr=>
  gi_wp2;go_wp2;refine bodyPost_ret (results_none rfl _ _ _) rfl ?_;exact .inl ⟨⟨_,rfl⟩,.inr ⟨[],(0,ws),_,r7.out,Z⟩⟩
 have J:=i3.out _ g4.out _ k;have n3:=T8 G.out k S.out W.out;have l2:=k.heap g1.out (by rintro(m | m);exact m4 m;omega);obtain⟨i4,o,F⟩:=Zh3 n3 Z J;clear n3 Z J k H G g4 g1 S W f6;have s9:=cell_of_one l2;gi_wp2;go_wp2
 refine wp_loop (fun a d=>∃(c:Nat) (g:List (Nat × Wd)) (e:Wd) (r:Option Addr) (b5 q:Nat),a.defers=[]/\gS a [0,4,15,16,17]=(40,[.func (.yield f7) #[] #[],.slice r b5 q,.slice lo n lc,.int .i64 n,.int .i64 c])/\c<=n/\E=g++Jq (f.drop c) e c/\Ye (f.take c) ws=some e/\c6 (g++[(c,e)]) d/\Zc d (.slice r b5 q) e/\e.length=b5/\wE e=0/\Yh e/\Ext w0 d)
  (fun a _=>((n:Int) - intOf (a.tmps.getD 17 undef)).toNat) ?_ ?_
 ·exact⟨0,[],ws,r,vn,q,rfl,rfl,Nat.zero_le _,by rw [<-g5.out];rfl,rfl,o.out,i4.out,X.out,s3.out,i6.out,F.out⟩
 clear i4 o F g6 s9 l2;rintro⟨w1,_⟩ d ⟨c,g,e,r,b5,q,t4,n2,m1,l8,l7,a6,C,n5,n9,o0,i⟩;subst t4;obtain⟨u,rfl⟩:=Zd n2;clear n2;obtain⟨c1,T,c2,G,s0,i7,i8,U⟩:=Zh8 l8 l7 a6 C n5 n9 o0 i;clear l8 l7 a6 C n5 n9 o0 i;by_cases e2:c<n;case neg=>
  obtain rfl:c=n:=by omega
  have s:¬ ((c:Int)<(c:Int)):=by omega
  have j:E=g++[(c,e)]:=by
   have:=c1.out;rw [List.drop_eq_nil_of_le (by rw [c3.out];exact Nat.le_refl _)] at this;exact this
  have O:Wb f ws=none:=by
   have:=T.out;rw [Q8h (by rw [c3.out];exact Nat.le_refl _)] at this;unfold Wb;rw [this];rfl
  have c5:=Zh j;have c0:=Zh O;clear j O;go_wp2;go_end0
  exact .inl ⟨⟨_,rfl⟩,.inl ⟨c0.out,by rw [c5.out];exact c2.out⟩⟩
 have s:(c:Int)<(n:Int):=by omega
 have c9:(0:Int)<=(c:Int):=by omega
 obtain⟨p,e4,e3,e5,e6⟩:=q2.out c e2;have m2:=q5.out d U.out;have k:c<ps.length:=by rw [r4.out];exact e2
 obtain⟨t2,t8,u4,R,u7,b1,a8,d0⟩:=m2.at k;have m6:ps[c]=p:=by rw [List.getElem?_eq_getElem k] at e4;exact Option.some.inj e4
 rw [m6] at b1 a8 d0;simp only [zV] at R;obtain⟨rfl,e7,rfl⟩:=R;obtain⟨b2,v3⟩:=p;dsimp only at b1 a8 d0 e3 e5 e6;obtain⟨p2,o5,p7,o7,p0,j6,j8,p3,j2,k0,o6,p8,o8,p1,j7,j9,p4,j3,k1,o4,j4,o3,p6,j5,p5,o9,M,g8,r3,r5,q3,r2,r1,q7,q8,q9,r0,q6,v4,v5,v6,v7,v8⟩:=Yb a8;subst M;have v2:IntKind.i64.wrap ((c:Int)+1)=(c:Int)+1:=IntWalk.i64_in _ oz;obtain⟨i2,i1,i0,g9⟩:=Zh4 b1 e6 e5 e3;clear e7 m6 e4 m2 a8 d0 k b1 e6 e5 e3 r3 r5 q3 r2 r1 q7 q8 q9 r0 q6;obtain⟨c7,a3⟩:=zE (d.alloc (.cells #[.string p2,.int .i64 o5,.int .u32 (p7:Int),.int .u32 (o7:Int),.bool p0,.int .i64 j6,.int .i64 j8,.slice p3 j2 k0,.int .i64 o6,.int .u32 (p8:Int),.int .u32 (o8:Int),.bool p1,.int .i64 j7,.int .i64 j9,.slice p4 j3 k1,.slice o4 j4 o3,.slice p6 j5 p5,.int .i64 o9] 102));have t:Ext d c7:=by rw [<-a3];exact(Qa.refl _ d).alloc _
 have f4:c7.heap[d.heap.size]?=some (.cells #[.string p2,.int .i64 o5,.int .u32 (p7:Int),.int .u32 (o7:Int),.bool p0,.int .i64 j6,.int .i64 j8,.slice p3 j2 k0,.int .i64 o6,.int .u32 (p8:Int),.int .u32 (o8:Int),.bool p1,.int .i64 j7,.int .i64 j9,.slice p4 j3 k1,.slice o4 j4 o3,.slice p6 j5 p5,.int .i64 o9] 102 (0,0)):=by rw [<-a3];exact Qc rfl
 obtain⟨s6,d5⟩:=zE d.heap.size;rw [d5] at f4;have i9:=Zh f4;have i5:=Zh a3;clear f4 a3;go_upto_region 5 with (refine Yp (by rfl) 102 (.tmp 20) rfl t2 (t8+c*18) zr _ _ i2.out Tryz.underlying102 rfl kz ?_)
 rw [i5.out];have u0:=Zh d5;clear d5;obtain⟨u3,u5,R,o1,l6⟩:=G.out;simp only [zV] at R;obtain⟨rfl,e7,rfl⟩:=R;have L:=Q3e (g8.out.ext t) (o1.ext t) l6 (r8.out c7 (U.out.trans t));rw [s0.out] at L;have M:=Q7p g9.out i7.out;have a4:=Q1c i1.out i8.out;have P:c<f.length:=by rw [c3.out];exact e2
 have a5:f[c]=b2:=by have:=i0.out;rw [List.getElem?_eq_getElem P] at this;exact Option.some.inj this
 have N:=Sm P ws;rw [T.out,Option.bind_some,a5] at N;have v:=c1.out;rw [List.drop_eq_getElem_cons P,a5] at v;have d7:trE b2 e≠0->Ye f ws=none:=fun m=>Q4n P T.out (by rw [a5];exact m);unfold Jq at v;obtain⟨g0,m8⟩:=zE (trE b2 e);rw [m8] at L M a4 N v d7;obtain⟨l,m9⟩:=zE (Xp b2 e);rw [m9] at L a4 N v;obtain⟨g3,b8,b7,b9,V,b6⟩:=Zh6 L M a4 N v d7;clear e7 L M a4 N v d7 a5 P m8 m9 o1 l6 G c1 T i0 i1 g9 i7 i8 g8 i2 i5
 go_wp2_with (refine wpList_load_row rfl 102 (.tmp 6) rfl s6 rfl _ _ _ _ i9.out Tryz.underlying102 rfl Tryz.lawInfo ?_)
 refine g3.out.mono ?_;rintro Y c8 ⟨v9,rfl,⟨b4,b3,rfl,e9,e8⟩,d4⟩;have J:Ext w0 c8:=U.out.trans (t.trans d4);have m0:=g7.out _ _ _ c2.out (t.trans d4);obtain⟨f8,y⟩:=zE l.length;rw [y] at e9 e8 ⊢;have n0:Zc c8 (.slice b4 f8 b3) l:=⟨b4,b3,by rw [y],by rw [y];exact e9,by rw [y];exact e8⟩;obtain⟨c4,o,F,r6⟩:=Zh4 n0 m0 J y;clear n0 m0 J y e9 e8 t d4 g3 i9 c2 U;by_cases k2:g0=0;case neg=>
  obtain rfl:g0=11:=b8.out.resolve_left k2;have j:=V.out;rw [if_neg zd] at j;have O:Wb f ws=some Fj:=by unfold Wb;rw [b6.out zd];rfl
  have c5:=Zh j;have c0:=Zh O;clear j O V b6 b9 b7 b8;go_wp2;refine⟨rfl,.inr ⟨Fj,c0.out,rfl,?_⟩⟩;rw [c5.out];exact o.out
 subst k2;have j:=V.out;rw [if_pos rfl,Ni] at j;have e0:=b9.out;rw [if_pos rfl] at e0;obtain⟨n6,n7⟩:=b7.out rfl;obtain⟨q0,s1,s2⟩:=Zh3 e0 n6 n7;have f5:E=(g++[(c,e)])++(c+1,l)::(Jq (f.drop (c+1)) l (c+1)).tail:=by rw [j,List.append_assoc];rfl
 have o2:E=(g++[(c,e)])++Jq (f.drop (c+1)) l (c+1):=by rw [f5,<-Ni]
 have j0:=Zh f5;have s4:=Zh o2;clear j e0 n6 n7 f5 o2 V b6 b9 b7 b8;obtain⟨t1,t9,s7,s8,f6,K⟩:=j1.out (g++[(c,e)]) (c+1,l) _ c8 #[.int .i64 ((c:Int)+1),.slice b4 f8 b3] j0.out o.out ⟨_,rfl,c4.out⟩;obtain⟨⟨so,sn,sc,I⟩,Q⟩:=g2.out _ _ o.out;obtain⟨H,S,W⟩:=Zh3 K I Q;clear K I Q;go_upto_region 8 with (fail)
 refine(wpIn_wide (n:=0)).1 ?_;gi_wp2;refine H.out.mono ?_;rintro Y u2 (⟨rfl,a0,a7⟩ | ⟨rfl,a0,a7⟩);case inr=>
  gi_wp2;go_wp2;refine bodyPost_ret (results_none rfl _ _ _) rfl ?_;exact .inl ⟨⟨_,rfl⟩,.inr ⟨g++[(c,e)],(c+1,l),_,j0.out,a0⟩⟩
 have k5:=i3.out _ F.out _ a7;have n4:=T8 c4.out a7 S.out W.out;obtain⟨r9,q4,q1⟩:=Zh3 n4 a0 k5;clear n4 a0 k5 a7 f6 H c4 o F;gi_wp2;go_wp2;exact⟨⟨c+1,g++[(c,e)],l,b4,f8,b3,tz,rfl,by omega,s4.out,q0.out,q4.out,r9.out,r6.out,s1.out,s2.out,q1.out⟩,mz⟩
theorem Q30(p:Addr)(a:List PanicEntry)(w:World)(x:Int)(b:w.cell? p=some (.int .i64 x)) (d:w.frozen? p=false) :
  CallsD Tryz.prog 80 #[.pointer (some p)] (.panicking ({ v:=.iface 221 (.int .i64 11),recovered:=false }::a)) w fun e u' w'=>
   e=.returned (.tuple #[])/\u'=.panicking ({ v:=.iface 221 (.int .i64 11),recovered:=true }::a)/\w'=w.setCell p (.int .i64 11):=by
 refine callsD_of_wpS Tryz.func80 rfl fun c₀ cs hu=>?_
 apply wpS_seq;apply wpS_region;simp [wpOpsS,go_sem,recoverD,hu,Tryz.ntmps80,Exit.thenS];refine wpS_of_wp ?_
 have c:∀(W:World),(Instr.typeAssert (.iface 221 (.int .i64 11)) 20 221 true).run Tryz.prog W=.ok (.tuple #[.int .i64 11,.bool true]) W:=fun W=>by
  simp [Instr.typeAssert,run_underlying Tryz.underlying221,go_sem,Result.andThen]
 go_wp2;simp [bodyPostS,results,Tryz.results80]
theorem Q0v(p:Addr)(w:World) :
  CallsD Tryz.prog 80 #[.pointer (some p)] .returning w fun e u' w'=>e=.returned (.tuple #[])/\u'=.returning/\w'=w:=by
 refine callsD_of_wpS Tryz.func80 rfl fun c₀ cs hu=>?_
 apply wpS_seq;apply wpS_region;simp [wpOpsS,go_sem,recoverD,hu,Tryz.ntmps80,Exit.thenS];refine wpS_of_wp ?_;go_wp2;cases c₀
 simp_all [bodyPostS,results,Tryz.results80]
theorem Q5t(lo:Option Addr)(n lc:Nat)(vo:Option Addr)(vn vc:Nat)(w:World):Calls Tryz.prog 132 #[.slice lo n lc,.slice vo vn vc] w fun e w'=>
  e=.returned (.func (.func 176) #[] #[.pointer (some ⟨w.heap.size+1,0,none⟩),.pointer (some ⟨w.heap.size,0,none⟩)])/\w'=(w.alloc (.cells #[.slice lo n lc] 26)).alloc (.cells #[.slice vo vn vc] 99):=by
 have a:∀(fn:Fn) (first cap:Array Value) (w:World),(Instr.makeFunc fn first cap).run Tryz.prog w=.ok (.func fn first cap) w:=fun _ _ _ _=>rfl;go_enter Tryz.func132,Tryz.ntmps132;go_wp2;go_ret;exact⟨by simp,rfl⟩
theorem Lp{a:Func}{p:Tmp}{ty:TypeId}(h:a.results=#[.cell p ty]){tmps:Array Value}{w:World}{g:Nat}{ao:Option Addr}{n c:Nat}{t:TypeId}(j:tmps.getD p undef=.pointer (some ⟨g,0,none⟩)) (b:(Tryz.prog.underlying ty).map (fun d=>match d with | .slice _=>true | _=>false)=some true) (i:w.heap[g]?=some (.cells #[.slice ao n c] t (0,0))) :
  (results a tmps).run Tryz.prog w=.ok (.slice ao n c) w:=by
 have f:=cell_of_one i;have k:tmps[p]?.getD undef=.pointer (some ⟨g,0,none⟩):=by simpa using j
 cases hd:Tryz.prog.underlying ty with
 | none=>simp [hd] at b
 | some d=>
  cases d with
  | slice e=>simp [results,h,k,asAddr,loadVar,isAgg,run_underlying hd,go_sem,f]
  | _=>simp [hd] at b
theorem Ht{A B:World}{v:Value}{u:Wd}{D:Nat}{G:Option Addr}{F E:Nat}{t:TypeId}{m:Nat × Nat}(h:Zc A v u)(f:Qa (fun b=>b=D) A B) (w:A.heap[D]?=some (.cells #[.slice G F E] t m)):Zc B v u:=by
 obtain⟨g,k,rfl,⟨⟨n,o,i,l,C,p⟩,q⟩,r⟩:=h;refine⟨g,k,rfl,⟨⟨n,o,i,l,C,fun hn=>?_⟩,q⟩,r⟩;obtain⟨d,c,x,y,e⟩:=p hn;have z:¬ d=D:=by
  rintro rfl;have a:=e 0 oz;rw [Nat.add_zero] at a;unfold World.cell? at a;simp only [w] at a;cases c with
  | zero=>
   rw [List.getD_eq_getElem?_getD] at a;cases u with
   | nil=>simp at hn
   | cons s u=>simp [Zv] at a
  | succ c=>simp at a
 exact⟨d,c,x,Nat.lt_of_lt_of_le y f.size,fun j hj=>f.cell_some (e j hj) z⟩
theorem Nf{A B:World}{r:Nat}{v:Value}{u:Wd}(h:Zc A v u)(g:Qa (fun b=>b=r) A B) (f:∃ o,A.heap[r]?=some o/\o.isCells=false):Zc B v u:=by
 obtain⟨c,d,rfl,a,e⟩:=h;exact⟨c,d,rfl,⟨Rd.nocells g f a.1,a.2⟩,e⟩
theorem Q0e{w:World}{ps:Qs}{lo:Option Addr}{n lc:Nat}{vo:Option Addr}{vn vc:Nat}{ws:Wd}(b9:Za w (.slice lo n lc) ps) (c0:ps.length=n) (c1:∀ p∈ps,Zx p.1=true) (c7:Qk w (.slice vo vn vc) ws) (c6:ws.length=vn) (c8:wE ws=0) (a9:Tab w) :
  Calls Tryz.prog 82 #[.slice lo n lc,.slice vo vn vc] w fun e w'=>(∃ u v,Ye (ps.map (·.1)) ws=some u/\e=.returned v/\Zc w' v u/\Ext w w')\/(Ye (ps.map (·.1)) ws=none/\e=.panicked Fj/\Ext w w'):=by
 have b6:=fun(l:World) (hE:Ext w l) (BL BW D:Nat) (I:w.heap.size<=D)=>Q2b (w0:=w) (w:=l) (BL:=BL) (BW:=BW) (D:=D) hE I b9 c0 c1 c7 c6 c8 a9;have H:=Zh b6;clear b6 b9 c0 c1 c7 c6 c8 a9;obtain⟨P,a8⟩:=zE (ps.map (·.1));rw [a8] at H ⊢;have R:=Nc P ws 0;obtain⟨c9,a6⟩:=zE (Jq P ws 0);rw [a6] at H R;obtain⟨T,U⟩:=zE (Ye P ws);have b5:Wb P ws=if T.isSome=true then none else some Fj:=by unfold Wb;rw [U]
 rw [b5] at H;rw [U] at R ⊢;have a2:=Zh R;clear a8 a6 U b5 R;refine Z8 Tryz.func82 rfl ?_;simp only [Tryz.ntmps82,zS,Nat.reduceAdd,Nat.reduceSub];go_upto_region 1 with (fail)
 obtain⟨F,s⟩:=zE (w.alloc (.cells #[.slice none 0 0] 99));have a5:Ext w F:=by rw [<-s];exact(Qa.refl _ w).alloc _
 have Y:F.heap[w.heap.size]?=some (.cells #[.slice none 0 0] 99 (0,0)):=by rw [<-s];exact Qc rfl
 have C:F.heap.size=w.heap.size+1:=by rw [<-s];simp
 rw [s];obtain⟨D,I⟩:=zE w.heap.size;rw [I] at Y C ⊢;have B:=Zh I;clear s I;go_wp2_with fail;refine(Q5t lo n lc vo vn vc F).mono ?_;rintro e l ⟨rfl,z⟩;rw [C];have W:Ext F l:=by rw [z];exact((Qa.refl _ F).alloc _).alloc _
 have b1:l.heap[D+1]?=some (.cells #[.slice lo n lc] 26 (0,0)):=by rw [z];exact Qh (Qc C.symm)
 have b2:l.heap[D+1+1]?=some (.cells #[.slice vo vn vc] 99 (0,0)):=by rw [z];exact Qc (by simp [C])
 have b3:=W.keep Y;have e1:l.heap.size=D+3:=by rw [z];simp [C]
 have X:=a5.trans W;have b7:=H.out l X (D+1) (D+1+1) D (by have:=B.out;omega) b1 b2 oz oz;obtain⟨a4,d0,d1⟩:=Zh3 b7 b3 X;clear z W b1 b2 b3 X b7 H a5 Y C;go_wp2_with fail
 refine Q6i (xs:=c9) rfl (enters_of Tryz.func176 kz rfl) a4.out (fun b d=>by omega) (fun _ a O G d=>by obtain⟨v,rfl,_⟩:=d;rfl) ?hEs
  (fun N c=>∃ j i g,c.heap[D]?=some (.cells #[.slice j i g] 99 (0,0))/\Ext w c/\(∀ A a,N=A++[a]->Zc c (.slice j i g) a.2))
  (fun _ _ _=>False) ?hC ?hI ?hIx ?h0 (fun G t=>(t.setIfInBounds 8 (G.getD 0 undef)).setIfInBounds 9 (G.getD 1 undef)) ?assign ?body ?pan ?done ?stop
 case hEs=>
  rintro _ a O a1 G ⟨v,rfl,a0⟩ S Z;exact⟨v,rfl,Nf a0 S Z⟩
 case hC=>
  rintro N O ⟨j,i,g,d,_⟩;exact⟨j,i,g,d⟩
 case hI=>
  rintro N O a1 ⟨j,i,g,f,k,x⟩ S Z;have r:Qa (fun b=>b=l.heap.size+1) O a1:=S.mono fun b _ d=>d.elim (fun d=>d.2.elim) id;exact⟨j,i,g,r.heap f oz,Qa.after k r (fun b hb d=>by have:=B.out;omega),fun A a E=>Nf (x A a E) r Z⟩
 case hIx=>exact fun _ _ _ _ d=>d.elim
 case h0=>
  intro c b0 _;exact⟨none,0,0,b0.keep d0.out,d1.out.trans b0,fun A a E=>by have:=congrArg List.length E;simp at this⟩
 case assign=>
  rintro _ N a e2 G c e3 E ⟨j,i,g,f,k,x⟩ ⟨v,rfl,a0⟩ a7;obtain⟨m,o,rfl,c5⟩:=a0;have d6:=cell_of_one f;have d8:=free_of_one f;have q:Qa (fun b=>b=D) c (c.setCell ⟨D,0,none⟩ (.slice m a.2.length o)):=Qa.set1 c D 0 _;have K:(c.setCell ⟨D,0,none⟩ (.slice m a.2.length o)).heap[D]?=some (.cells #[.slice m a.2.length o] 99 (0,0)):=by
   simp only [World.setCell,Array.getElem?_modify,f];simp
  have M:Zc (c.setCell ⟨D,0,none⟩ (.slice m a.2.length o)) (.slice m a.2.length o) a.2:=Ht ⟨m,o,rfl,c5⟩ q f
  have b8:=a7 _ q ⟨m,_,o,K,Qa.after k q (fun b hb d=>by have:=B.out;omega),fun A y hy=>by
   obtain⟨_,rfl⟩:=List.append_inj' hy rfl |>.imp id (fun d=>(List.cons.inj d).1);exact M⟩
  have d3:=Zh b8;clear b8 a7 q K M k x c5 E;gi_wp2;exact d3.out
 case body=>
  rintro N a e2 G c E c4 S d9;refine wpIn_block ?_;gi_wp2;exact⟨Qa.refl _ _,d9⟩
 case pan=>
  rintro d7 c J ⟨j,i,g,f,k,x⟩ Q c4;have L:Qz D ({ target:=.collected l.heap.size,args:=#[] }::[]) c:=Qz.cons (base:=D) trivial oz Q (fun e he=>by cases he);cases T with
  | some u=>simp at J
  | none=>
   obtain rfl:Fj=d7:=by simpa using J
   refine R7 L (fun w' r hs=>.inr ⟨rfl,rfl,?_⟩);exact Qa.after k r (fun b f k=>by have:=k.1;have:=B.out;omega)
 case done=>
  rintro J c ⟨j,i,g,f,k,x⟩ Q c4;cases T with
  | none=>simp at J
  | some u=>
   obtain⟨A,c3⟩:=a2.out u rfl;have M:=x A _ c3;have d6:=cell_of_one f;have d8:=free_of_one f;have q:Qa (fun b=>b=D) c (c.setCell ⟨D,0,none⟩ (.slice j i g)):=Qa.set1 c D 0 _;have K:(c.setCell ⟨D,0,none⟩ (.slice j i g)).heap[D]?=some (.cells #[.slice j i g] 99 (0,0)):=by
    simp only [World.setCell,Array.getElem?_modify,f];simp
   have c2:=Ht M q f;have b4:=Qa.after k q (fun b hb d=>by have:=B.out;omega);have L:Qz D ({ target:=.collected l.heap.size,args:=#[] }::[]) (c.setCell ⟨D,0,none⟩ (.slice j i g)):=Qz.cons (base:=D) trivial oz (q.heap Q oz) (fun e he=>by cases he);rw [e1] at L;obtain⟨a3,d5,d2,d4⟩:=Zh4 K c2 b4 L;clear K M c2 b4 L q f k x c3 J Q a2 a4;go_wp2;refine Zy (v:=.slice j i g) _ _ d4.out fun w' r hs=>⟨Lp rfl rfl kz (r.heap a3.out (Shut.not a3.out rfl)),⟨_,rfl,?_,?_⟩⟩
   ·obtain⟨m,o,e0,s,z⟩:=d5.out;exact⟨m,o,e0,⟨Rd.shut r s.1,s.2⟩,z⟩
   ·exact Qa.after d2.out r (fun b f k=>by have:=k.1;have:=B.out;omega)
 case stop=>exact fun _ _ _ _ _ _ d=>d.elim
theorem Q80{w:World}{p:Option Wd}{E BL BW a:Nat}{lo:Option Addr}{n lc:Nat}{vo:Option Addr}{vn vc:Nat}{O:Option Addr}{N M:Nat}(A:w.heap[E]?=some (.cells #[.int .i64 0] 40 (0,0))) (C:w.heap[BL]?=some (.cells #[.slice lo n lc] 26 (0,0))) (G:w.heap[BW]?=some (.cells #[.slice vo vn vc] 99 (0,0))) (D:w.heap[a]?=some (.cells #[.slice O N M] 99 (0,0))) (I:E≠a)
  (H:Calls Tryz.prog 82 #[.slice lo n lc,.slice vo vn vc] w fun e w'=>(∃ u v,p=some u/\e=.returned v/\Zc w' v u/\Ext w w')\/(p=none/\e=.panicked Fj/\Ext w w')) :
  Calls Tryz.prog 153 #[.pointer (some ⟨E,0,none⟩),.pointer (some ⟨BL,0,none⟩),.pointer (some ⟨BW,0,none⟩),.pointer (some ⟨a,0,none⟩)] w fun e w'=>e=.returned (.tuple #[])/\Qa (fun b=>b=E\/b=a) w w' /\
   ∃ so' sn' sc',w'.heap[a]?=some (.cells #[.slice so' sn' sc'] 99 (0,0))/\((∃ u,p=some u/\Zc w' (.slice so' sn' sc') u/\w'.heap[E]?=some (.cells #[.int .i64 0] 40 (0,0)))\/(p=none/\w'.heap[E]?=some (.cells #[.int .i64 11] 40 (0,0)))):=by
 have y:=cell_of_one C;have z:=cell_of_one G;obtain⟨q,r,s⟩:=Zh3 A D H;clear A C G D H
 go_enter_defers Tryz.func153,Tryz.ntmps153
 go_wp2_with fail;refine s.out.mono ?_;rintro e c (⟨u,v,rfl,rfl,U,d⟩ | ⟨rfl,rfl,d⟩)
 ·obtain⟨k,l,rfl,K,L⟩:=U;have g:=d.keep r.out;have j:=d.keep q.out;have X:=cell_of_one g;have Y:=free_of_one g;have i:Qa (fun b=>b=a) c (c.setCell ⟨a,0,none⟩ (.slice k u.length l)):=Qa.set1 c a 0 _;have o:(c.setCell ⟨a,0,none⟩ (.slice k u.length l)).heap[a]?=some (.cells #[.slice k u.length l] 99 (0,0)):=by
   simp only [World.setCell,Array.getElem?_modify,g];simp
  have J:=Ht ⟨k,l,rfl,K,L⟩ i g;have B:=i.heap j I;have m:Qa (fun b=>b=E\/b=a) w (c.setCell ⟨a,0,none⟩ (.slice k u.length l)):=(Ext.of d).trans (i.mono fun b _ h=>.inr h);obtain⟨t,R,P,x⟩:=Zh4 o J B m;clear o J B m i g j K L d s y z q r;go_wp2;refine leaves_cons (f:=80) (args:=#[.pointer (some ⟨E,0,none⟩)]) zy (by simp [go_sem]) ?_;refine(Q0v _ _).mono ?_;rintro e V W ⟨rfl,rfl,rfl⟩;refine⟨.tuple #[],results_none rfl _ _ _,rfl,x.out,k,_,l,t.out,.inl ⟨u,rfl,R.out,P.out⟩⟩
 ·have g:=d.keep r.out;have j:=d.keep q.out;have S:=cell_of_one j;have T:=free_of_one j;have i:Qa (fun b=>b=E) c (c.setCell ⟨E,0,none⟩ (.int .i64 11)):=Qa.set1 c E 0 _;have o:(c.setCell ⟨E,0,none⟩ (.int .i64 11)).heap[E]?=some (.cells #[.int .i64 11] 40 (0,0)):=by
   simp only [World.setCell,Array.getElem?_modify,j];simp
  have F:=i.heap g (fun h=>I h.symm);have m:Qa (fun b=>b=E\/b=a) w (c.setCell ⟨E,0,none⟩ (.int .i64 11)):=(Ext.of d).trans (i.mono fun b _ h=>.inl h);obtain⟨t,Q,x⟩:=Zh3 o F m;clear o F m i g j d s y z q r;go_wp2;refine leaves_cons (f:=80) (args:=#[.pointer (some ⟨E,0,none⟩)]) zy (by simp [go_sem]) ?_;refine(Q30 _ [] _ 0 S T).mono ?_;rintro e V W ⟨rfl,rfl,rfl⟩;simp [Leaves,settle,results,Tryz.results153,go_sem];exact⟨x.out,⟨O,N,M,Q.out⟩,t.out⟩
theorem Mz{a:Func}{p q:Tmp}{ty:TypeId}(h:a.results=#[.cell p ty,.tmp q]){tmps:Array Value}{w:World}{g:Nat}{ao:Option Addr}{n c:Nat}{t:TypeId}{x:Value}(j:tmps.getD p undef=.pointer (some ⟨g,0,none⟩)) (l:tmps.getD q undef=x) (b:(Tryz.prog.underlying ty).map (fun d=>match d with | .slice _=>true | _=>false)=some true) (i:w.heap[g]?=some (.cells #[.slice ao n c] t (0,0))) :
  (results a tmps).run Tryz.prog w=.ok (.tuple #[.slice ao n c,x]) w:=by
 have f:=cell_of_one i;have k:tmps[p]?.getD undef=.pointer (some ⟨g,0,none⟩):=by simpa using j
 have m:tmps[q]?.getD undef=x:=by simpa using l
 cases hd:Tryz.prog.underlying ty with
 | none=>simp [hd] at b
 | some d=>
  cases d with
  | slice e=>simp [results,h,k,m,asAddr,loadVar,isAgg,run_underlying hd,go_sem,f]
  | _=>simp [hd] at b
theorem Q05{w:World}{ps:Qs}{lo:Option Addr}{n lc:Nat}{vo:Option Addr}{vn vc:Nat}{ws:Wd}(b0:Za w (.slice lo n lc) ps) (b1:ps.length=n) (b2:∀ p∈ps,Zx p.1=true) (b6:Qk w (.slice vo vn vc) ws) (b5:ws.length=vn) (b7:wE ws=0) (a7:Tab w) :
  Calls Tryz.prog 110 #[.slice lo n lc,.slice vo vn vc] w fun e w'=>∃ ao an c,e=.returned (.tuple #[.slice ao an c,.bool (Ye (ps.map (·.1)) ws).isSome])/\(∀ u,Ye (ps.map (·.1)) ws=some u->Zc w' (.slice ao an c) u)/\Ext w w':=by
 have b4:=fun(V:World) (hE:Ext w V)=>Q0e (b0.ext hE) b1 b2 (b6.ext hE) b5 b7 (a7.keep hE id);have N:=Zh b4;clear b4 b0 b1 b2 b6 b5 b7 a7;obtain⟨c1,a3⟩:=zE (Ye (ps.map (·.1)) ws);rw [a3] at N ⊢;clear a3;have c2:∀(fn:Fn) (first cap:Array Value) (w:World),(Instr.makeFunc fn first cap).run Tryz.prog w=.ok (.func fn first cap) w:=fun _ _ _ _=>rfl;go_enter Tryz.func110,Tryz.ntmps110;go_upto_region 2 with (fail)
 obtain⟨C,A⟩:=zE ((((w.alloc (.cells #[.slice lo n lc] 26)).alloc (.cells #[.slice vo vn vc] 99)).alloc (.cells #[.slice none 0 0] 99)).alloc (.cells #[.int .i64 0] 40));have a4:Ext w C:=by rw [<-A];exact((((Qa.refl _ w).alloc _).alloc _).alloc _).alloc _
 have O:C.heap[w.heap.size]?=some (.cells #[.slice lo n lc] 26 (0,0)):=by rw [<-A];exact Qh (Qh (Qh (Qc rfl)))
 have P:C.heap[w.heap.size+1]?=some (.cells #[.slice vo vn vc] 99 (0,0)):=by rw [<-A];exact Qh (Qh (Qc zy))
 have y:C.heap[w.heap.size+1+1]?=some (.cells #[.slice none 0 0] 99 (0,0)):=by rw [<-A];exact Qh (Qc zy)
 have Q:C.heap[w.heap.size+1+1+1]?=some (.cells #[.int .i64 0] 40 (0,0)):=by rw [<-A];exact Qc zy
 rw [A];obtain⟨f,R⟩:=zE w.heap.size;rw [R] at O P y Q ⊢;obtain⟨I,W,X,Y,Z,L⟩:=Zh6 R O P y Q a4;clear A R O P y Q a4;go_wp2_with fail;refine(Q80 Z.out W.out X.out Y.out oz (N.out C L.out)).mono ?_;rintro e B ⟨rfl,a8,m,l,k,a6,a9⟩;have a5:Ext w B:=Qa.after L.out a8 (fun b hb E=>by have:=I.out;rcases E with E | E <;> omega);obtain⟨a0,a1,J⟩:=Zh3 a5 a6 a9;clear a8 a5 a6 a9 N W X Y Z L;rcases J.out with ⟨u,T,b3,U⟩ | ⟨T,U⟩
 ·subst T;have b8:=Zh b3;clear b3 J;have M:=Zh U;go_upto_region 3 with (fail)
  obtain⟨j,r⟩:=zE B.drew;have q:Ext B j:=by rw [<-r];exact(Qa.refl _ B).drew
  have g:j.heap[f+1+1]?=some (.cells #[.slice m l k] 99 (0,0))/\j.heap[f+1+1+1]?=some (.cells #[.int .i64 0] 40 (0,0)):=⟨q.keep a1.out,q.keep M.out⟩;refine Z7 (S:=fun D=>D.heap[f+1+1]?=some (.cells #[.slice m l k] 99 (0,0))/\D.heap[f+1+1+1]?=some (.cells #[.int .i64 0] 40 (0,0))) [] kz (by rw [r];exact g) ?_;intro _;rw [r];clear r;refine tkE (i:=0) (d:=9) (v:=?_) rfl (Or.inl ⟨by rfl,?_⟩) g ?_;rotate_left
  ·intro w a;(try dsimp only at a);have o:=cell_of_one a.1;have t:=cell_of_one a.2;go_simp;try with_reducible rfl
  try simp only [Act.put,pq]
  refine tkE (i:=1) (d:=10) (v:=?_) rfl (Or.inl ⟨by rfl,?_⟩) g ?_;rotate_left
  ·intro w a;(try dsimp only at a);have o:=cell_of_one a.1;have t:=cell_of_one a.2;go_simp;try with_reducible rfl
  try simp only [Act.put,pq]
  refine tkE (i:=2) (d:=11) (v:=?_) rfl (Or.inl ⟨by rfl,?_⟩) g ?_;rotate_left
  ·intro w a;(try dsimp only at a);have o:=cell_of_one a.1;have t:=cell_of_one a.2;go_simp;try with_reducible rfl
  try simp only [Act.put,pq]
  have o:=cell_of_one g.1;have b9:=free_of_one g.1;have z:Qa (fun b=>b=f+1+1) j (j.setCell ⟨f+1+1,0,none⟩ (.slice m l k)):=Qa.set1 j (f+1+1) 0 _;have F:(j.setCell ⟨f+1+1,0,none⟩ (.slice m l k)).heap[f+1+1]?=some (.cells #[.slice m l k] 99 (0,0))/\(j.setCell ⟨f+1+1,0,none⟩ (.slice m l k)).heap[f+1+1+1]?=some (.cells #[.int .i64 0] 40 (0,0)):=⟨by simp only [World.setCell,Array.getElem?_modify,g.1];simp,z.heap g.2 oz⟩;obtain⟨s,H,G,a2⟩:=Zh4 F z q g;clear F z q g;refine rE [3] ?_;refine Qb.cons rfl (fun K hK=>?_) Qb.nil;refine iw rfl ?_;go_simp;refine hK.out _ _ s.out (fun _=>?_);clear hK K
  (try simp only [Act.put,pq])
  refine tkE (i:=4) (d:=5) (v:=?_) rfl (Or.inl ⟨by rfl,?_⟩) s.out ?_;rotate_left
  ·intro w a;(try dsimp only at a);have o:=cell_of_one a.1;have t:=cell_of_one a.2;go_simp;try with_reducible rfl
  try simp only [Act.put,pq]
  refine Qv kz ?_ _;go_wp2;have c0:=Ht ((b8.out).ext G.out) H.out a2.out.1;refine bodyPost_ret (Mz rfl rfl rfl kz s.out.1) rfl ⟨m,l,k,rfl,fun u2 y=>?_,?_⟩
  ·cases y;exact c0
  ·exact Qa.after (a0.out.trans G.out) H.out (fun b hb E=>by have:=I.out;omega)
 ·subst T;clear J;have M:=Zh U;go_upto_region 3 with (fail)
  obtain⟨j,r⟩:=zE B.drew;have q:Ext B j:=by rw [<-r];exact(Qa.refl _ B).drew
  have g:j.heap[f+1+1]?=some (.cells #[.slice m l k] 99 (0,0))/\j.heap[f+1+1+1]?=some (.cells #[.int .i64 11] 40 (0,0)):=⟨q.keep a1.out,q.keep M.out⟩;refine Z7 (S:=fun D=>D.heap[f+1+1]?=some (.cells #[.slice m l k] 99 (0,0))/\D.heap[f+1+1+1]?=some (.cells #[.int .i64 11] 40 (0,0))) [] kz (by rw [r];exact g) ?_;intro _;rw [r];clear r;refine tkE (i:=0) (d:=9) (v:=?_) rfl (Or.inl ⟨by rfl,?_⟩) g ?_;rotate_left
  ·intro w a;(try dsimp only at a);have o:=cell_of_one a.1;have t:=cell_of_one a.2;go_simp;try with_reducible rfl
  try simp only [Act.put,pq]
  refine tkE (i:=1) (d:=10) (v:=?_) rfl (Or.inl ⟨by rfl,?_⟩) g ?_;rotate_left
  ·intro w a;(try dsimp only at a);have o:=cell_of_one a.1;have t:=cell_of_one a.2;go_simp;try with_reducible rfl
  try simp only [Act.put,pq]
  refine tkE (i:=2) (d:=11) (v:=?_) rfl (Or.inl ⟨by rfl,?_⟩) g ?_;rotate_left
  ·intro w a;(try dsimp only at a);have o:=cell_of_one a.1;have t:=cell_of_one a.2;go_simp;try with_reducible rfl
  try simp only [Act.put,pq]
  have o:=cell_of_one g.1;have b9:=free_of_one g.1;have z:Qa (fun b=>b=f+1+1) j (j.setCell ⟨f+1+1,0,none⟩ (.slice m l k)):=Qa.set1 j (f+1+1) 0 _;have F:(j.setCell ⟨f+1+1,0,none⟩ (.slice m l k)).heap[f+1+1]?=some (.cells #[.slice m l k] 99 (0,0))/\(j.setCell ⟨f+1+1,0,none⟩ (.slice m l k)).heap[f+1+1+1]?=some (.cells #[.int .i64 11] 40 (0,0)):=⟨by simp only [World.setCell,Array.getElem?_modify,g.1];simp,z.heap g.2 oz⟩;obtain⟨s,H,G,a2⟩:=Zh4 F z q g;clear F z q g;refine rE [3] ?_;refine Qb.cons rfl (fun K hK=>?_) Qb.nil;refine iw rfl ?_;go_simp;refine hK.out _ _ s.out (fun _=>?_);clear hK K
  (try simp only [Act.put,pq])
  refine tkE (i:=4) (d:=5) (v:=?_) rfl (Or.inl ⟨by rfl,?_⟩) s.out ?_;rotate_left
  ·intro w a;(try dsimp only at a);have o:=cell_of_one a.1;have t:=cell_of_one a.2;go_simp;try with_reducible rfl
  try simp only [Act.put,pq]
  refine Qv kz ?_ _;go_wp2;refine bodyPost_ret (Mz rfl rfl rfl kz s.out.1) rfl ⟨m,l,k,rfl,fun u2 y=>(by cases y),?_⟩;exact Qa.after (a0.out.trans G.out) H.out (fun b hb E=>by have:=I.out;omega)
theorem Q2f{w:World}{ps:Qs}{lo:Option Addr}{n lc:Nat}{vo:Option Addr}{vn vc:Nat}{ws:Wd}{g:Nat}(H:Za w (.slice lo n lc) ps) (I:ps.length=n) (M:Qk w (.slice vo vn vc) ws) (E:w.heap[g]?=some (.cells #[.slice vo vn vc] 99 (0,0))) (D:Tab w) :
  Calls Tryz.prog 79 #[.slice lo n lc,.slice (some ⟨g,0,none⟩) 1 1] w fun e w'=>e=.returned (.int .i64 (V3 (ps.map (·.1)) ws))/\Ext w w':=by
 have v:=fun(V:World) (b:Ext w V)=>R9 (H.ext b) I (D.keep b id);have z:=fun(V:World) (b:Ext w V)=>Uv (M.ext b);unfold V3;obtain⟨c,s⟩:=zE (Jv (ps.map (·.1)));obtain⟨d,t⟩:=zE (wE ws);simp only [s] at v;simp only [t] at z;rw [s,t];obtain⟨l,m⟩:=zE (if c=0 then d else c);have J:c≠0->l=c:=fun h=>by rw [<-m,if_neg h]
 have K:c=0->l=d:=fun h=>by rw [<-m,if_pos h]
 rw [m];have N:=Zh J;have O:=Zh K;clear m J K;obtain⟨o,k,j⟩:=Zh3 v z E;clear v z s t H I M E D;go_enter Tryz.func79,Tryz.ntmps79;go_wp2_with fail;refine(o.out _ (Qa.refl _ _)).mono ?_;rintro e Y ⟨rfl,r⟩;by_cases q:c=0;case neg=>
  have Q:(c != 0)=true:=by rw [bne_iff_ne];exact q
  have y:c=l:=(N.out q).symm;subst y;clear o k j;go_wp2;go_ret;exact⟨rfl,r⟩
 subst q;have y:d=l:=(O.out uz).symm;subst y;have i:=Zh r;clear r o;go_wp2
 refine wp_loop (fun a A=>∃(f:Nat),f<=1/\a.defers=[]/\gS a [17,18,19]=(29,[.slice (some ⟨g,0,none⟩) 1 1,.int .i64 1,.int .i64 f])/\(f=1->d=0)/\Ext w A)
  (fun a _=>(1 - intOf (a.tmps.getD 19 undef)).toNat) ?_ ?_
 ·exact⟨0,by omega,rfl,rfl,fun h=>by omega,i.out⟩
 clear i;rintro⟨W,_⟩ A ⟨f,U,R,L,u,b⟩;subst R;obtain⟨X,rfl⟩:=Zd L;clear L;by_cases G:f=0;case neg=>
  obtain rfl:f=1:=by omega
  have S:=u rfl;subst S;clear u k j G;go_wp2;go_ret;exact⟨rfl,b⟩
 subst G;clear u;have F:=b.keep j.out;have P:=cell_of_one F;have p:=Zh b;clear b F;go_wp2_with fail;refine(k.out _ p.out).mono ?_;rintro e T ⟨rfl,C⟩;have i:=Zh (p.out.trans C);clear C p P k j;by_cases B:d=0;case neg=>
  have Q:(d != 0)=true:=by rw [bne_iff_ne];exact B
  go_wp2;go_ret;exact⟨rfl,i.out⟩
 subst B;go_wp2;exact⟨⟨1,by omega,tz,rfl,fun _=>by first | trivial | rfl,i.out⟩,by simp [intOf]⟩
theorem Bt(W:World):Zc W (.slice none 0 0) []:=⟨none,0,rfl,⟨⟨rfl,by simp [maxLen],none,0,rfl,fun h=>by simp at h⟩,by simp [Yh]⟩,Nat.le_refl _⟩
theorem Q32{w:World}{ps:Qs}{lo:Option Addr}{n lc:Nat}{vo:Option Addr}{vn vc:Nat}{ws:Wd}(A:Za w (.slice lo n lc) ps) (B:ps.length=n) (C:Qk w (.slice vo vn vc) ws) (P:ws.length=vn) (y:Tab w) :
  Calls Tryz.prog 61 #[.slice lo n lc,.slice vo vn vc] w fun e w'=>∃ v,e=.returned (.tuple #[v,.int .i64 (Ui (ps.map (·.1)) ws)])/\Zc w' v (V5 (ps.map (·.1)) ws)/\Ext w w':=by
 have z:=fun(V:World) (hE:Ext w V) (g:Nat) (hg:V.heap[g]?=some (.cells #[.slice vo vn vc] 99 (0,0)))=>Q2f (A.ext hE) B (C.ext hE) hg (y.keep hE id);have c:=fun(V:World) (hE:Ext w V) (hok:∀ p∈ps,Zx p.1=true) (hwE:wE ws=0)=>Q05 (A.ext hE) B hok (C.ext hE) P hwE (y.keep hE id)
 have D:V3 (ps.map (·.1)) ws=0->(∀ p∈ps,Zx p.1=true)/\wE ws=0:=fun h=>by
  unfold V3 at h
  split at h
  ·rename_i b
   unfold Jv at b
   split at b
   ·cases b
   ·split at b
    ·rename_i J
     rw [List.all_map,List.all_eq_true] at J;exact⟨J,h⟩
    ·cases b
  ·contradiction
 have i:=@By (ps.map (·.1)) ws;have d:=@Ls (ps.map (·.1)) ws;have f:=fun v=>@Wt (ps.map (·.1)) ws v;obtain⟨F,a⟩:=zE (V3 (ps.map (·.1)) ws);simp only [a] at z D i d f;clear a;obtain⟨S,a⟩:=zE (Ye (ps.map (·.1)) ws);simp only [a] at c d f;clear a;obtain⟨W,a⟩:=zE (Ui (ps.map (·.1)) ws);simp only [a] at i d f ⊢;clear a;obtain⟨X,a⟩:=zE (V5 (ps.map (·.1)) ws);simp only [a] at i d f ⊢;clear a;obtain⟨H,o,s,q,k,l⟩:=Zh6 z c D i d f;clear z c D i d f A B C P y;go_enter Tryz.func61,Tryz.ntmps61;go_wp2_with fail;obtain⟨E,m⟩:=zE (w.alloc (.cells #[.slice vo vn vc] 99));have t:Ext w E:=by rw [<-m];exact(Qa.refl _ w).alloc _
 have M:E.heap[w.heap.size]?=some (.cells #[.slice vo vn vc] 99 (0,0)):=by rw [<-m];exact Qc rfl
 rw [m];refine(H.out E t w.heap.size M).mono ?_;rintro e U ⟨rfl,K⟩;have j:=Zh (t.trans K);clear m M t K H;by_cases b:F=0;case neg=>
  have a1:(F != 0)=true:=by rw [bne_iff_ne];exact b
  obtain⟨rfl,rfl⟩:=q.out b;clear o s q k l;go_wp2;go_ret2;exact⟨_,rfl,Bt _,j.out⟩
 subst b;obtain⟨Q,R⟩:=s.out uz;have c:=o.out U j.out Q R;have G:=Zh c;clear c Q R o s q;go_wp2_with fail;refine G.out.mono ?_;rintro e a2 ⟨Z,Y,a0,rfl,N,L⟩;have I:=Zh (j.out.trans L);have r:=Zh N;clear L N G j;cases S with
 | none=>
  obtain⟨rfl,rfl⟩:=k.out uz rfl;clear k l r;go_wp2;go_ret2;exact⟨_,rfl,Bt _,I.out⟩
 | some u=>
  obtain⟨rfl,rfl⟩:=l.out u uz rfl;have O:=r.out _ rfl;have T:=Zh O;clear k l r O;go_wp2;go_ret2;exact⟨_,rfl,T.out,I.out⟩
end Go.Proofs.YtfdlhlghcbeblaaGreatDoor
