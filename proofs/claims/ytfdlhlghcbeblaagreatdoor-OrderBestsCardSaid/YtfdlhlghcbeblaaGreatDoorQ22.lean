/- PLAIN: -/
import Derived.Test.YtfdlhlghcbeblaaGreatDoorQ21
set_option maxRecDepth 100000
set_option maxHeartbeats 16000000
namespace Go.Proofs.YtfdlhlghcbeblaaGreatDoor
open Go.RowKit Go.Ab
theorem Pe:∀(n:Nat) (l:List Int),l.Nodup->(∀ x∈l,0<=x/\x<(n:Int))->l.length<=n/\(l.length=n->l.Perm ((List.range n).map fun(i:Nat)=>(i:Int)))
 | 0,l,_,h=>by
  have:l=[]:=by
   cases l with
   | nil=>rfl
   | cons x l=>have:=h x zy;omega
  subst this;exact⟨by simp,fun _=>by simp⟩
 | n+1,l,hn,h=>by
  by_cases a:(n:Int)∈l
  ·have g:=List.perm_cons_erase a
   have b:=Pe n (l.erase (n:Int)) (hn.erase _) fun x hx=>by
    have c:=h x (List.mem_of_mem_erase hx);have d:x≠(n:Int):=fun e=>by subst e;exact(hn.mem_erase_iff.1 hx).1 rfl
    omega
   have j:=List.length_erase_of_mem a;have k:=List.length_pos_of_mem a;refine⟨by omega,fun e=>?_⟩;have f:=b.2 oz;rw [List.range_succ,List.map_append];refine g.trans ((f.cons _).trans ?_);exact(List.perm_append_comm (l₁:=[(n:Int)]) (l₂:=(List.range n).map fun(i:Nat)=>(i:Int)))
  ·have b:=Pe n l hn fun x hx=>by
    have c:=h x hx;have d:x≠(n:Int):=fun e=>by subst e;exact a hx
    omega
   exact⟨by omega,fun e=>by omega⟩
def Ni(xs:List Int)(n k:Nat):Prop:=(∀ x∈xs.take k,0<=x/\x<(n:Int))/\(xs.take k).Nodup
theorem Q6n{xs:List Int}{n k:Nat}(i:k<xs.length)(h:Ni xs n k)(d:0<=xs[k])(f:xs[k]<(n:Int)) (g:¬ xs[k]∈xs.take k):Ni xs n (k+1):=by
 unfold Ni at *;rw [List.take_succ_eq_append_getElem i];refine⟨fun x c=>?_,?_⟩
 ·rcases List.mem_append.1 c with c | c
  ·exact h.1 x c
  ·simp at c;subst c;exact⟨d,f⟩
 ·rw [List.nodup_append];exact⟨h.2,by simp,fun a ha b hb e=>by simp at hb;subst hb;subst e;exact g ha⟩
theorem Q4u{xs:List Int}{n k:Nat}(b:k<xs.length)(h:xs[k]<0\/(n:Int)<=xs[k]):Yy xs n=false:=by
 unfold Yy;refine decide_eq_false fun hp=>?_
 have:=hp.mem_iff.1 (List.getElem_mem b);obtain⟨d,a,c⟩:=List.mem_map.1 this;have:=List.mem_range.1 a;omega
theorem Q4v{xs:List Int}{n k:Nat}(b:k<xs.length)(h:xs[k]∈xs.take k):Yy xs n=false:=by
 unfold Yy;refine decide_eq_false fun hp=>?_
 have a:xs.Nodup:=hp.nodup_iff.2 (by
  rw [List.nodup_iff_pairwise_ne,List.pairwise_map];exact List.nodup_range.imp fun h e=>h oz)
 have c:=Q46 b;rw [c,List.nodup_append] at a;exact a.2.2 _ h _ List.mem_cons_self rfl
theorem Q87{xs:List Int}{n k:Nat}(b:xs.length<=k)(h:Ni xs n k):Yy xs n=decide (xs.length=n):=by
 unfold Ni at h;rw [List.take_of_length_le b] at h;unfold Yy;by_cases a:xs.length=n
 ·rw [decide_eq_true a,decide_eq_true ((Pe n xs h.2 h.1).2 a)]
 ·rw [decide_eq_false a,decide_eq_false];intro c;have:=c.length_eq;simp at this;exact a this
def M1(xs:List Int)(n k:Nat):List Value:=(List.range n).map fun(i:Nat)=>.bool (decide ((i:Int)∈xs.take k))
theorem Q91{xs:List Int}{n k i:Nat}(a:i<n):(M1 xs n k).getD i undef=.bool (decide ((i:Int)∈xs.take k)):=by
 unfold M1;rw [List.getD_eq_getElem?_getD,List.getElem?_map,List.getElem?_range a];rfl
theorem Q79(xs:List Int)(n:Nat):M1 xs n 0=List.replicate n (.bool false):=by
 unfold M1;apply List.ext_getElem
 ·simp
 ·intro c a b;simp
theorem Q7m{xs:List Int}{n k i:Nat}(c:k<xs.length)(b:xs[k]=(i:Int)):(M1 xs n k).set i (.bool true)=M1 xs n (k+1):=by
 unfold M1;apply List.ext_getElem
 ·simp
 ·intro d e f;rw [List.getElem_set];by_cases a:i=d
  ·subst a;rw [if_pos rfl];simp [List.take_succ_eq_append_getElem c,b]
  ·rw [if_neg a];simp only [List.getElem_map,List.getElem_range,List.take_succ_eq_append_getElem c,b,List.mem_append,List.mem_singleton]
   congr 1
   have:¬ (d:Int)=(i:Int):=by omega
   simp [this]
attribute [local go_sem] Oper.semAt_some Zi Qz
theorem Qgd:(Tryz.prog.info? 4).map (fun i=>(i.zero,i.size,i.bytes))=some (some (.bool false),1,1):=by kernel_rfl
theorem Q8i{w:World}{base:Nat}{e:TypeId}{g n cap j:Nat}{xs:List Value}(h:w.ownsRow base e 1 (.slice (some ⟨g,0,none⟩) n cap) n xs):w.frozen? ⟨g,j,none⟩=false:=by
 obtain⟨b,a⟩:=Zg h rfl;simp [World.frozen?,a]
theorem Ei{w:World}{oo:Option Addr}{f oc n:Nat}{xs:List Int}(N:Rd w (.slice oo f oc) f 1 (Zq xs)) (O:xs.length=f) (d6:n<=1000) :
  Calls Tryz.prog 95 #[.slice oo f oc,.int .i64 (n:Int)] w fun e w'=>e=.returned (.bool (Yy xs n))/\Ext w w':=by
 have c5:f<=maxLen:=N.2.1;unfold maxLen at c5;obtain⟨u,x⟩:=zE (Yy xs n);rw [x];have a8:∀ c (q:c<xs.length),(xs[c]<0\/(n:Int)<=xs[c])->u=false:=fun c q h=>by rw [<-x];exact Q4u q h
 have a9:∀ c (q:c<xs.length),xs[c]∈xs.take c->u=false:=fun c q h=>by rw [<-x];exact Q4v q h
 have b0:Ni xs n f->u=decide (f=n):=fun h=>by rw [<-x,Q87 oz h,O]
 obtain⟨E,b1,G,H,I⟩:=Zh5 N O a8 a9 b0;clear N O x a8 a9 b0;go_enter Tryz.func95,Tryz.ntmps95
 go_wp2_with (at_make;refine Jj rfl (.tmp 7) (.tmp 7) 158 rfl w.heap.size 4 _ 1 Tryz.underlying158 Qgd rfl .i64 .i64 (n:Int) (n:Int) n rfl rfl oz oz ?c1 ?c2 (Nat.le_refl _) ?_)
 case c1=>omega
 case c2=>unfold maxLen;omega
 intro e1 A V;obtain⟨v,K⟩:=zE w.heap.size;rw [K] at A ⊢;rw [<-Q79 xs n] at A;obtain⟨T,S,b3⟩:=Zh3 A V K;clear A V K;go_wp2
 refine wp_loop (fun a z=>∃(c:Nat),c<=f/\a.defers=[]/\gS a [0,1,5,6]=(47,[.slice oo f oc,.int .i64 (n:Int),.slice (some ⟨v,0,none⟩) n n,.int .i64 c])/\Ni xs n c/\z.ownsRow v 4 1 (.slice (some ⟨v,0,none⟩) n n) n (M1 xs n c)/\Ext w z)
  (fun a _=>((f:Int) - intOf (a.tmps.getD 6 undef)).toNat) ?_ ?_
 ·exact⟨0,by omega,rfl,rfl,⟨by simp,by simp⟩,T.out,S.out⟩
 clear T S;rintro⟨d9,_⟩ z ⟨c,q,b8,a5,a0,X,U⟩;subst b8;obtain⟨e0,rfl⟩:=Qj a5;clear a5;obtain⟨D,g,k⟩:=Zh3 a0 X U;clear a0 X U;by_cases a2:c<f;case neg=>
  obtain rfl:c=f:=by omega
  have b6:¬ (c:Int)<(c:Int):=by omega
  have i:=I.out D.out;have b2:=Zh i;clear i G H I E g;go_wp2;go_ret;refine⟨?_,k.out⟩;rw [b2.out];first | (congr 2;done) | (by_cases e:c=n <;> simp [e] <;> omega)
 have b6:(c:Int)<(f:Int):=by omega
 have d4:(0:Int)<=(c:Int):=by omega
 have y:c<xs.length:=by rw [b1.out];exact a2
 obtain⟨d2,d7,d0,a3,b9,Y⟩:=Js (E.out.ext k.out) a2;simp only [zV] at a3;obtain⟨rfl,c8,rfl⟩:=a3;rw [Rc xs y] at Y;have P:=G.out c y;have Q:=H.out c y;have M:=Q6n y D.out;have R:=fun d (h:xs[c]=(d:Nat))=>Q7m (n:=n) y h;obtain⟨l,a6⟩:=zE (xs[c]);simp only [a6] at Y P Q M R;obtain⟨m,s,r,t⟩:=Zh4 P Q M R;clear P Q M R a6 c8 b9 G H I E D;by_cases c9:l<0
 ·have i:=m.out (.inl c9);subst i;clear m s r t g;go_wp2;go_ret;exact⟨rfl,k.out⟩
 by_cases a7:(n:Int)<=l
 ·have i:=m.out (.inr a7);subst i;have b4:l>=(n:Int):=a7;clear m s r t g;go_wp2;go_ret;exact⟨rfl,k.out⟩
 obtain⟨d,rfl⟩:∃ d:Nat,l=(d:Int):=⟨l.toNat,by omega⟩;have a1:d<n:=by omega
 have c3:(d:Int)<(n:Int):=by omega
 have b4:¬ (d:Int)>=(n:Int):=by omega
 have b5:(0:Int)<=(d:Int):=by omega
 obtain⟨d3,d8,d1,a4,_,L⟩:=Js (Rd.of_own g.out) a1;simp only [zV,Option.some.injEq,Addr.mk.injEq] at a4;obtain⟨⟨c0,c7,c6⟩,c4,b7⟩:=a4;subst c0;subst c7;rw [Q91 a1,Nat.zero_add] at L;clear c6 c4 b7;by_cases o:(d:Int)∈xs.take c
 ·rw [decide_eq_true o] at L;have i:=s.out o;subst i;clear m s r t g o;go_wp2;go_ret;exact⟨rfl,k.out⟩
 ·rw [decide_eq_false o] at L;have Z:=r.out b5 c3 o;have J:=Yd g.out d (.bool true);rw [t.out d rfl] at J;have W:Ext w (z.setCell ⟨v,d,none⟩ (.bool true)):=k.out.setCell (p:=⟨v,d,none⟩) (.inl (by rw [b3.out];exact Nat.le_refl _)) _;have d5:=Q8i (j:=d) g.out;obtain⟨C,F,B⟩:=Zh3 Z J W;clear m s r t o Z J W g k;go_wp2;first | exact⟨⟨c+1,by omega,C.out,F.out,B.out⟩,mz⟩ | exact⟨⟨c+1,by omega,tz,C.out,F.out,B.out⟩,mz⟩ | exact⟨⟨c+1,by omega,tz,rfl,C.out,F.out,B.out⟩,mz⟩
theorem Qb9{a:Func}{t u v:Tmp}(h:a.results=#[.tmp t,.tmp u,.tmp v])(tmps:Array Value)(P:Program)(w:World) :
  (results a tmps).run P w=.ok (.tuple #[tmps.getD t undef,tmps.getD u undef,tmps.getD v undef]) w:=by
 simp [results,h,go_sem]
def Zo(xs:List Int):List Nat:=xs.map Int.toNat
theorem Vo{xs:List Int}{n:Nat}(h:Yy xs n=true):Qc (Zo xs)=Zq xs/\(∀ x∈Zo xs,x<n)/\(Zo xs).Perm (List.range n)/\xs=(Zo xs).map fun(i:Nat)=>(i:Int):=by
 unfold Yy at h;rw [decide_eq_true_eq] at h
 have e:∀ x∈xs,∃ i:Nat,i<n/\(i:Int)=x:=fun x a=>by
  obtain⟨i,c,b⟩:=List.mem_map.1 (h.mem_iff.1 a);exact⟨i,List.mem_range.1 c,b⟩
 have d:∀ x∈xs,((x.toNat:Nat):Int)=x:=fun x a=>by obtain⟨i,_,rfl⟩:=e x a;simp
 refine⟨?_,fun x a=>?_,?_,?_⟩
 ·unfold Qc Zo Zq;rw [List.map_map];apply List.map_congr_left;intro x a;show Value.int .i64 ((x.toNat:Nat):Int)=_;rw [d x a]
 ·obtain⟨g,f,rfl⟩:=List.mem_map.1 a;obtain⟨i,c,rfl⟩:=e g f
  simpa using c
 ·have:=h.map Int.toNat;rw [List.map_map] at this;have b:(List.range n).map (Int.toNat ∘ fun(i:Nat)=>(i:Int))=List.range n:=by
   conv=>rhs;rw [<-List.map_id (List.range n)]
   apply List.map_congr_left;intro i _;simp
  rw [b] at this;exact this
 ·unfold Zo;rw [List.map_map];conv=>lhs;rw [<-List.map_id xs]
  apply List.map_congr_left;intro x a;exact(d x a).symm
def Fq(LD:List Q5)(xs:List Int)(qs:Q9):Int:=Wj (Xb LD (Zo xs) qs) false
def M8(LD:List Q5)(xs:List Int)(qs:Q9):Int:=if Zs LD xs (qs.map (·.1))=0 then max (Fq LD xs qs) 0 else 0
def Ly(LD:List Q5)(xs:List Int)(qs:Q9):Bool:=if Zs LD xs (qs.map (·.1))=0 then decide (0<=Fq LD xs qs) else false
theorem Kw{LD:List Q5}{xs:List Int}{a:List (Wd × Wd)} (h:Zs LD xs a=0):Qu LD a=0/\Yy xs LD.length=true:=by
 unfold Zs at h
 split at h
 ·split at h
  ·exact⟨by assumption,by assumption⟩
  ·cases h
 ·rename_i b;exact absurd h b
theorem Qf2(l:List Bool)(b:Bool):-1<=Wj l b/\Wj l b<9223372036854775807\/9223372036854775807<=l.length:=by
 by_cases c:9223372036854775807<=l.length
 ·exact .inr c
 ·refine .inl ?_;unfold Wj
  split
  ·rename_i d a
   have:=(List.findIdx?_eq_some_iff_getElem.1 a).1;omega
  ·omega
theorem Ti{w:World}{ps:Qi}{qs:Q9}{lo:Option Addr}{n lc:Nat}{oo:Option Addr}{r oc:Nat}{xs:List Int}{S:Option Addr}{m R:Nat}(z:Z5 w (.slice lo n lc) ps) (o:ps.length=n) (B:Rd w (.slice oo r oc) r 1 (Zq xs)) (C:xs.length=r) (D:Z7 w (.slice S m R) qs) (d:qs.length=m) (y:Tab w) :
  Calls Tryz.prog 27 #[.slice lo n lc,.slice oo r oc,.slice S m R] w fun e w'=>e=.returned (.tuple #[.int .i64 (M8 (ps.map (·.1)) xs qs),.bool (Ly (ps.map (·.1)) xs qs),.int .i64 (Zs (ps.map (·.1)) xs (qs.map (·.1)))])/\Ext w w':=by
 have E:=fun(V:World) (hE:Ext w V)=>Q1u (z.ext hE) o (B.ext hE) C (Qg D hE) d (y.keep hE id)
 have c:=fun(a:Zs (ps.map (·.1)) xs (qs.map (·.1))=0) (V:World) (hE:Ext w V)=>Qay (ol:=Zo xs) (z.ext hE) o (by
  have p:=Kw a;rw [(Vo p.2).1];exact B.ext hE) (by unfold Zo;rw [List.length_map,C]) (by
  have p:=Kw a;rw [List.length_map,o] at p;exact(Vo p.2).2.1) (Qg D hE) d (by have:=(V4 (Kw a).1).2.2.1;rw [List.length_map,d] at this;omega) (y.keep hE id)
 have A:Zs (ps.map (·.1)) xs (qs.map (·.1))=0->m<=32:=fun a=>by have:=(V4 (Kw a).1).2.2.1;rw [List.length_map,d] at this;omega
 obtain⟨W,i⟩:=zE (M8 (ps.map (·.1)) xs qs);obtain⟨X,j⟩:=zE (Ly (ps.map (·.1)) xs qs);rw [i,j];unfold M8 Fq at i;unfold Ly Fq at j;obtain⟨F,b⟩:=zE (Zs (ps.map (·.1)) xs (qs.map (·.1)));obtain⟨t,l⟩:=zE (Xb (ps.map (·.1)) (Zo xs) qs);have N:t.length=m:=by rw [<-l];unfold Xb;rw [List.length_map,d]
 rw [b,l] at i j;rw [b];rw [b] at c A;simp only [b] at E;simp only [l] at c;obtain⟨L,H,K,I,u,v⟩:=Zh6 E c A N i j;clear i j E c b l N A z o B C D d y;go_enter Tryz.func27,Tryz.ntmps27;go_wp2_with fail;refine(L.out _ (Q0.refl _ _)).mono ?_;rintro e U ⟨rfl,M⟩;have k:=Zh M;clear M L;by_cases b:F=0;case neg=>
  have a2:(F != 0)=true:=by simpa using b
  have f:=u.out;have g:=v.out;rw [if_neg b] at f g;subst f g;go_wp2;exact bodyPost_ret (Qb9 rfl _ _ _) rfl ⟨rfl,k.out⟩
 subst b;have a1:=K.out uz;have c:=H.out uz U k.out;have G:=Zh c;clear c H K;go_wp2_with fail;refine G.out.mono ?_;rintro e a4 ⟨a0,Z,rfl,⟨Y,_,P⟩,O⟩;have Q:=Q7w false (Rd.of_own P) I.out;have J:=Zh Q;have T:=Zh (k.out.trans O);clear Q P O G k;go_wp2_with fail;refine J.out.mono ?_;rintro e a5 ⟨rfl,rfl⟩;obtain⟨s,q⟩:=zE (Wj t false);have a3:-1<=s/\s<9223372036854775807:=by
  rcases Qf2 t false with a | a
  ·rw [q] at a;exact a
  ·rw [I.out] at a;omega
 have f:=u.out;have g:=v.out;rw [if_pos uz,q] at f g;subst f g;rw [q];clear q J u v;go_wp2;exact bodyPost_ret (Qb9 rfl _ _ _) rfl ⟨rfl,T.out⟩
def Ru(ps:Qi)(xs:List Int)(qs:Q9):Int:=if Zs (ps.map (·.1)) xs (qs.map (·.1))=0 then(if Jk ps (Zo xs) qs=qs.length then 0 else(Jk ps (Zo xs) qs:Nat)) else 0
def Ri(ps:Qi)(xs:List Int)(qs:Q9):Bool:=if Zs (ps.map (·.1)) xs (qs.map (·.1))=0 then decide (Jk ps (Zo xs) qs≠qs.length) else false
theorem Q57{w:World}{ps:Qi}{qs:Q9}{lo:Option Addr}{n lc:Nat}{oo:Option Addr}{o oc:Nat}{xs:List Int}{b2:Option Addr}{m b1:Nat}(S:Z5 w (.slice lo n lc) ps) (z:ps.length=n) (T:Rd w (.slice oo o oc) o 1 (Zq xs)) (U:xs.length=o) (W:Z7 w (.slice b2 m b1) qs) (y:qs.length=m) :
  Calls Tryz.prog 34 #[.slice lo n lc,.slice oo o oc,.slice b2 m b1] w fun e w'=>e=.returned (.tuple #[.int .i64 (Ru ps xs qs),.bool (Ri ps xs qs),.int .i64 (Zs (ps.map (·.1)) xs (qs.map (·.1)))])/\Ext w w':=by
 have R:=Kb S z W y;have l:=fun(V:World) (hE:Ext w V) (h:n<=1000)=>Ei (T.ext hE) U h
 have f:=fun(V:World) (hE:Ext w V) (h:Yy xs n=true) (N:n<=1000)=>by
  have X:=Vo h;have a9:(Zo xs).length=o:=by unfold Zo;rw [List.length_map,U]
  have b7:o=n:=by rw [<-a9,X.2.2.1.length_eq];simp
  exact Be (ol:=Zo xs) (oo:=oo) (oc:=oc) (S.ext hE) z (by rw [X.1];exact T.ext hE) a9 X.2.1 oz (Qg W hE) y
 obtain⟨d,G⟩:=zE (Qu (ps.map (·.1)) (qs.map (·.1)))
 have N:d=0->n<=1000:=fun h=>by
  rw [<-G] at h;unfold Qu at h
  split at h
  ·cases h
  ·rename_i b3;rw [List.length_map,z] at b3;omega
 have c:Zs (ps.map (·.1)) xs (qs.map (·.1))=if d=0 then(if Yy xs n=true then 0 else 2) else d:=by simp only [Zs,G,List.length_map,z]
 obtain⟨u,Q⟩:=zE (Yy xs n);rw [Q] at c f;obtain⟨g,H⟩:=zE (Jk ps (Zo xs) qs);have a:Ru ps xs qs=if Zs (ps.map (·.1)) xs (qs.map (·.1))=0 then(if g=m then(0:Int) else((g:Nat):Int)) else(0:Int):=by unfold Ru;rw [H,y]
 have b:Ri ps xs qs=if Zs (ps.map (·.1)) xs (qs.map (·.1))=0 then decide (g≠m) else false:=by unfold Ri;rw [H,y]
 obtain⟨C,O⟩:=zE (Ru ps xs qs);obtain⟨D,P⟩:=zE (Ri ps xs qs);obtain⟨E,v⟩:=zE (Zs (ps.map (·.1)) xs (qs.map (·.1)));rw [O,P,v];rw [v,O] at a;rw [v,P] at b;rw [v] at c
 have Y:d≠0->C=0/\D=false/\E=d:=fun h=>by
  rw [if_neg h] at c;subst c;rw [if_neg h] at a b;exact⟨a,b,rfl⟩
 have Z:d=0->u=false->C=0/\D=false/\E=2:=fun h h'=>by
  rw [if_pos h,if_neg (by rw [h'];decide)] at c;subst c;exact⟨a,b,rfl⟩
 have a0:d=0->u=true->g=m->C=0/\D=false/\E=0:=fun h h' h''=>by
  rw [if_pos h,if_pos h'] at c;subst c;rw [if_pos rfl] at a b;rw [if_pos h''] at a;rw [decide_eq_false (fun q=>q h'')] at b;exact⟨a,b,rfl⟩
 have a1:d=0->u=true->g≠m->C=g/\D=true/\E=0:=fun h h' h''=>by
  rw [if_pos h,if_pos h'] at c;subst c;rw [if_pos rfl] at a b;rw [if_neg h''] at a;rw [decide_eq_true h''] at b;exact⟨a,b,rfl⟩
 obtain⟨p,r,s,t⟩:=Zh4 Y Z a0 a1;clear Y Z a0 a1 O P v;simp only [H] at f;simp only [Q] at l;rw [G] at R;obtain⟨a2,M,K,J⟩:=Zh4 R l f N;clear R l f S z T U W y G c Q H a b N;go_enter Tryz.func34,Tryz.ntmps34;go_wp2_with fail;refine a2.out.mono ?_;rintro e b4 ⟨rfl,a6⟩;have A:=Zh a6;clear a6 a2;by_cases F:d=0;case neg=>
  have b6:(d != 0)=true:=by rw [bne_iff_ne];exact F
  obtain⟨i,j,k⟩:=p.out F;subst i;subst j;subst k;clear M K J F p r s t;go_wp2
  go_ret3
  exact⟨rfl,A.out⟩
 subst F;have b0:=J.out rfl;have l:=M.out b4 A.out b0;have f:=fun(V:World) (hE:Ext w V) (h:u=true)=>K.out V hE h b0;have a5:=Zh l;have L:=Zh f;clear l f M K J;go_wp2_with fail;refine a5.out.mono ?_;rintro e b5 ⟨rfl,a7⟩;have B:=Zh (A.out.trans a7);clear a7 a5 A;cases u with
 | false=>
  obtain⟨i,j,k⟩:=r.out uz uz;subst i;subst j;subst k;clear L p r s t;go_wp2
  go_ret3
  exact⟨rfl,B.out⟩
 | true=>
  have f:=L.out b5 B.out rfl;have a4:=Zh f;clear f L;go_wp2_with fail;refine a4.out.mono ?_;rintro e b9 ⟨rfl,a8⟩;have a3:=Zh (B.out.trans a8);clear a8 a4 B;by_cases I:g=m
  ·obtain⟨i,j,k⟩:=s.out uz uz I;subst i;subst j;subst k;subst I;clear p r s t;go_wp2
   go_ret3
   exact⟨rfl,a3.out⟩
  ·have b8:((g:Int) ==(m:Int))=false:=by rw [beq_eq_false_iff_ne];omega
   obtain⟨i,j,k⟩:=t.out uz uz I;subst i;subst j;subst k;clear I p r s t;go_wp2
   go_ret3
   exact⟨rfl,a3.out⟩
def Nw(l:List Bool):Nat:=l.countP id
def Tk(LD:List Q5)(qs:Q9)(x:List Nat):Nat:=Nw (Xb LD x qs)
def Vu(LD:List Q5)(qs:Q9)(s:List Nat × Int)(x:List Nat):List Nat × Int:=if s.2<(Tk LD qs x:Int) then(x,(Tk LD qs x:Int)) else s
def U8(LD:List Q5)(qs:Q9)(l:List (List Nat)):List Nat × Int:=l.foldl (Vu LD qs) ([],-1)
theorem Q83(LD:List Q5)(qs:Q9)(l:List (List Nat)) (x:List Nat):U8 LD qs (l++[x])=Vu LD qs (U8 LD qs l) x:=by
 unfold U8;rw [List.foldl_append];rfl
def Fd(LD:List Q5)(qs:Q9):List Nat:=if Qu LD (qs.map (·.1))=0 then(U8 LD qs (Yi LD.length (List.range LD.length))).1 else []
def Ry(LD:List Q5)(qs:Q9):Int:=if Qu LD (qs.map (·.1))=0 then(U8 LD qs (Yi LD.length (List.range LD.length))).2 else 0
theorem Qbd{l:List Bool}{k:Nat}(a:k<l.length):Nw (l.take (k+1))=Nw (l.take k)+if l[k]=true then 1 else 0:=by
 unfold Nw;rw [List.take_succ_eq_append_getElem a,List.countP_append];cases l[k] <;> simp
theorem Q5n(l:List Bool):Nw l<=l.length:=List.countP_le_length
theorem Q8w(LD:List Q5)(qs:Q9)(l:List (List Nat)):-1<=(U8 LD qs l).2/\(U8 LD qs l).2<=qs.length:=by
 have c:∀(l:List (List Nat)) (a:List Nat × Int),-1<=a.2/\a.2<=qs.length->-1<=(l.foldl (Vu LD qs) a).2/\(l.foldl (Vu LD qs) a).2<=qs.length:=by
  intro l
  induction l with
  | nil=>intro a b;exact b
  | cons x l ih=>
   intro a b;refine ih _ ?_;unfold Vu
   split
   ·have:=Q5n (Xb LD x qs);unfold Xb at this;rw [List.length_map] at this;show -1<=((Tk LD qs x:Nat):Int)/\((Tk LD qs x:Nat):Int)<=qs.length;unfold Tk Xb;omega
   ·exact b
 exact c l ([],-1) ⟨Int.le_refl _,by show (-1:Int)<=_;omega⟩
def Mo(BB BM BP base:Nat)(LD:List Q5)(qs:Q9)(pv:Value)(w:World)(O:Nat->Prop)(pre:List (List Nat)) (V:World):Prop:=
 ∃ ao c,V.heap[BB]?=some (.cells #[.slice ao (U8 LD qs pre).1.length c] 48 (0,0))/\V.heap[BM]?=some (.cells #[.int .i64 (U8 LD qs pre).2] 3 (0,0))/\V.heap[BP]?=some (.cells #[pv] 61 (0,0)) /\
  V.ownsRow base 3 1 (.slice ao (U8 LD qs pre).1.length c) (U8 LD qs pre).1.length (Qc (U8 LD qs pre).1)/\(∀ g,(Value.slice ao (U8 LD qs pre).1.length c).ownBlock=some g->¬ O g)/\Ext w V
theorem Mo.step{c BM d base D:Nat}{LD:List Q5}{qs:Q9}{l:Value}{w A B:World}{O O':Nat->Prop}{k:List (List Nat)} (h:Mo c BM d base LD qs l w O k A) (v:w.heap.size<=D) (u:c<D/\BM<D/\d<D) (i:base=D+2) (s:∀ b,O b->D+2<=b/\b<A.heap.size) (j:Q0 (fun b=>O b\/b=D+1) A B)
  (t:∀ b,O' b->(O b\/A.heap.size<=b)/\b<B.heap.size):Mo c BM d base LD qs l w O' k B:=by
 subst i;obtain⟨m,n,o,p,q,e,f,r⟩:=h;have a:Q0 (fun b=>D+1<=b) A B:=j.mono fun b _ h=>h.elim (fun h=>by have:=(s b h).1;omega) (fun h=>by omega);refine⟨m,n,a.heap o oz,a.heap p oz,a.heap q oz,Qf e j (fun g hg h=>?_),fun g hg h=>?_,r.after a fun b i h=>by omega⟩
 ·have:=(e.lt g hg).1;rcases h with h | h
  ·exact f g hg h
  ·omega
 ·rcases(t g h).1 with h | h
  ·exact f g hg h
  ·have:=(e.lt g hg).2;omega
theorem Qc5{w:World}{ps:Qi}{qs:Q9}{lo:Option Addr}{n lc:Nat}{V:Option Addr}{m U:Nat}(g4:Z5 w (.slice lo n lc) ps) (S:ps.length=n) (c9:Z7 w (.slice V m U) qs) (a6:qs.length=m) (f6:Tab w) :
  Calls Tryz.prog 43 #[.slice lo n lc,.slice V m U] w fun e w'=>∃ ao c,e=.returned (.tuple #[.slice ao (Fd (ps.map (·.1)) qs).length c,.int .i64 (Ry (ps.map (·.1)) qs),.int .i64 (Qu (ps.map (·.1)) (qs.map (·.1)))])/\Rd w' (.slice ao (Fd (ps.map (·.1)) qs).length c) (Fd (ps.map (·.1)) qs).length 1 (Qc (Fd (ps.map (·.1)) qs))/\Ext w w':=by
 have c7:=fun(j:World) (x:Ext w j)=>Hl (g4.ext x) S (Qg c9 x) a6 (f6.keep x id);obtain⟨l,c3⟩:=zE (ps.map (·.1));have f4:l.length=n:=by rw [<-c3,List.length_map,S]
 have a7:Qu l (qs.map (·.1))=0->n<=6/\m<=1000:=fun a=>by have:=V4 a;rw [f4,List.length_map,a6] at this;omega
 have O:=fun(a:Qu l (qs.map (·.1))=0) (j:World) (B1 B2:Nat) (x:Ext w j) (B:j.heap[B1]?=_) (A:j.heap[B2]?=_)=>S4 x g4 S (a7 a).1 c9 a6 (a7 a).2 f6 B A;have g2:=fun(a:Qu l (qs.map (·.1))=0) (j:World) (x:Ext w j) (d5:Option Addr) (d4:Nat) (d3:List (Option Wd × List Value)) (B:Xd j (.slice d5 m d4) d3) (A:d3.length=m)=>Dx B A (Qg c9 x) a6 (a7 a).2;have g9:Qu l (qs.map (·.1))=0->∀ d∈Yi n (List.range n),d.length<=6:=fun a d r=>by rw [Kf] at r;rw [(Ua n d r).1];exact(a7 a).1
 rw [c3];simp only [c3] at c7 O;obtain⟨o1,a5⟩:=zE (Fd l qs);obtain⟨m4,a0⟩:=zE (Ry l qs);rw [a5,a0];unfold Fd at a5;unfold Ry at a0;rw [f4] at a5 a0;obtain⟨k0,f3⟩:=zE (Yi n (List.range n));obtain⟨b6,H⟩:=zE (Qu l (qs.map (·.1)));rw [f3,H] at a5 a0 g9;have g8:=fun(a:b6=0)=>(a7 (by rw [H];exact a)).2;rw [H] at O g2 ⊢;simp only [f3] at O;simp only [H] at c7;obtain⟨j2,j5,j4,e7,e1,j9,e5,j8⟩:=Zh8 c7 O g2 a5 a0 g9 a6 g8;clear c7 O g2 a5 a0 g9 f3 H a7 c3 f4 g4 S c9 a6 f6 g8;refine Z4 Tryz.func43 rfl ?_;simp only [Tryz.ntmps43,zS,Nat.reduceAdd,Nat.reduceSub];go_upto_region 1 with (fail)
 obtain⟨C,c4⟩:=zE w.heap.size;obtain⟨m2,d2⟩:=zE (w.alloc (.cells #[.slice V m U] 61));have b2:Ext w m2:=by rw [<-d2];exact(Q0.refl _ w).alloc _
 have f1:m2.heap[C]?=some (.cells #[.slice V m U] 61 (0,0)):=by rw [<-d2];exact Q3 c4.symm
 rw [c4,d2];obtain⟨o,i5,a9⟩:=Zh3 b2 f1 c4;have e9:=cell_of_one f1;clear b2 f1 d2 c4;go_wp2_with fail;refine(j2.out _ o.out).mono ?_;rintro e d6 ⟨rfl,a2⟩;have d9:=Zh (a2.keep i5.out);have e2:=Zh (o.out.trans a2);clear a2 o i5 j2 e9;by_cases H:b6=0;case neg=>
  have q9:(b6 != 0)=true:=by simpa using H
  have r:=e7.out;have p:=e1.out;rw [if_neg H] at r p;subst r p;go_wp2;refine Ye (v:=.tuple #[.slice none 0 0,.int .i64 0,.int .i64 b6]) (base:=C) _ _ trivial fun w' ht' l8=>⟨Qec rfl rfl rfl rfl,none,0,rfl,Rd.of_own (e:=3) (World.ownsRow_nil _ 0 _ _),Q0.after e2.out ht' (fun b p a=>by have:=a.1;have:=a9.out;omega)⟩
 subst H;have r:=e7.out;have p:=e1.out;rw [if_pos uz] at r p;obtain⟨n9,m9,o0,n2⟩:=Zh4 r p (j9.out uz) (j4.out uz);have q8:=j8.out uz;clear r p e7 e1 j9 j4 j8;go_upto_region 6 with (fail)
 obtain⟨d7,b4⟩:=zE ((d6.alloc (.cells #[.slice none 0 0] 48)).alloc (.cells #[.int .i64 (-1)] 3));have f5:Ext d6 d7:=by rw [<-b4];exact((Q0.refl _ d6).alloc _).alloc _
 obtain⟨g,c2⟩:=zE d6.heap.size;have k4:d7.heap[g]?=some (.cells #[.slice none 0 0] 48 (0,0)):=by rw [<-b4];exact Q8 (Q3 c2.symm)
 have k5:d7.heap[g+1]?=some (.cells #[.int .i64 (-1)] 3 (0,0)):=by rw [<-b4];exact Q3 (by simp;omega)
 have q3:C<g:=by rw [<-c2];exact(Array.getElem?_eq_some_iff.1 d9.out).1
 rw [c2,b4];have f2:=f5.keep d9.out;obtain⟨i7,i8,e0,e3⟩:=Zh4 f2 k4 k5 (e2.out.trans f5);have e9:=cell_of_one f2;clear b4 c2 f5 k4 k5 f2 d9 e2;go_wp2_with fail;refine(Bw _ _ _ _ _ _ _).mono ?_;rintro e J ⟨rfl,f9,g0,a1,g7⟩;obtain⟨E,f7⟩:=zE d7.heap.size;rw [f7] at f9 g0 g7 ⊢;have O:=j5.out uz J E (E+1) (e3.out.trans a1) f9 g0;have q4:g+1<E:=by rw [<-f7];exact(Array.getElem?_eq_some_iff.1 e0.out).1
 obtain⟨n1,b0,n3,m5,m6,m7⟩:=Zh6 (e3.out.trans a1) g7 O (a1.keep i7.out) (a1.keep i8.out) (a1.keep e0.out);clear a1 g7 O f9 g0 f7 j5 i7 i8 e0 e3 e9;go_wp2
 refine Ut (xs:=k0) (K:=fun b=>b<w.heap.size\/b=E\/b=E+1) rfl (fun args w=>by simp [go_sem]) n3.out (fun b a=>by have:=b0.out;have:=a9.out;rcases a with a | a | a <;> omega) (fun _ _ d m3 W a=>by obtain⟨_,_,_,_,rfl,_⟩:=a;rfl) ?hEs
  (Mo g (g+1) C (J.heap.size+2) l qs (.slice V m U) w) (fun c X F j=>False) ?hI ?hIx ?h0 (fun W t=>(((t.setIfInBounds 24 (W.getD 0 undef)).setIfInBounds 25 (W.getD 1 undef)).setIfInBounds 10 (W.getD 0 undef)).setIfInBounds 11 (W.getD 1 undef)) ?assign ?body ?done ?stop
 case hEs=>exact fun _ _ _ _ _ _ a T d0=>Tp a T d0
 case hI=>
  rintro X p6 F m3 i3 a a3 T o6;exact a.step (D:=J.heap.size) (by rw [b0.out];have:=a9.out;omega) (by rw [b0.out];omega) rfl a3 (T.mono fun b _ a=>a.imp (fun a=>a.1) id) o6
 case hIx=>exact fun _ _ _ _ _ _ a _ _ _=>a
 case h0=>
  intro j c6 l8;exact⟨none,0,c6.keep m6.out,c6.keep m7.out,c6.keep m5.out,World.ownsRow_nil _ _ _ _,(fun Q N=>by cases N),Q0.trans n1.out c6⟩
 case assign=>
  rintro _ _ d W j p5 ⟨m1,m0,d5,d4,rfl,_⟩ o5;gi_wp2;exact o5
 case stop=>exact fun _ _ _ _ _ _ _ a=>a.elim
 case done=>
  rintro X j ⟨ao,c,B,A,b1,M,s,x⟩ a3 T k6;have r:=n9.out;have p:=m9.out;rw [r] at B M s;rw [p] at A;obtain⟨b7,b8,n0⟩:=Zh3 M x k6;have k3:=cell_of_one B;have o3:=cell_of_one A;obtain⟨p2,g5⟩:=zE o1.length;have n5:=Zh g5;rw [g5] at k3;clear B A b1 M s x k6 a3 T g5 r p;go_wp2
  go_quiet (fail)
  go_wp2;have p1:=b0.out;have c8:Ext j (j.drewN nq):=(Q0.refl _ j).drewN nq;refine Ye (v:=.tuple #[.slice ao p2 c,.int .i64 m4,.int .i64 0]) (base:=C) _ _ (Z3.cons (base:=C) trivial oz (c8.keep n0.out) (fun e he=>by cases he)) fun w' ht' l8=>⟨Qec rfl rfl rfl rfl,ao,c,by rw [n5.out],Rd.of_own (Qf (Q7 b7.out c8) ht' (fun Q N e=>by obtain⟨q0,I⟩:=Zg (Q7 b7.out c8) N;exact Go.Ab.Shut.not I rfl e)),Q0.after (b8.out.trans c8) ht' (fun b p a=>by have:=a.1;have:=a9.out;omega)⟩
 case body=>
  rintro X F d r3 W j r g8 a3 T ⟨ao,c,B,A,b1,M,s,x⟩ ⟨m1,m0,d5,d4,rfl,d0,d3,l6,l5,l4⟩;simp only [pq];have I:=n2.out j x d5 d4 d3 l6 l5;rw [Tc e5.out (by rw [l4,List.map_map];rfl)] at I;have y:=Q83 l qs F d;unfold Vu Tk at y;obtain⟨G,g1⟩:=zE (Xb l d qs);rw [g1] at I y;have k8:G.length=m:=by rw [<-g1];unfold Xb;rw [List.length_map,e5.out]
  have g6:=Q8w l qs F;rw [e5.out] at g6;have l9:d∈k0:=by rw [r];simp
  have p0:=o0.out d l9;have o7:∀ q,U8 l qs F=q->q=((U8 l qs F).1,(U8 l qs F).2):=fun q a=>by rw [<-a]
  obtain⟨⟨p9,o2⟩,f8⟩:=zE (U8 l qs F);rw [f8] at B A M s g6 y;dsimp only at B A M s g6 y;have o4:=cell_of_one b1;have f0:=cell_of_one A;obtain⟨a8,i0⟩:=zE d.length;have b9:=Zh i0;rw [i0] at p0 ⊢;obtain⟨j6,i4,d8,i6,b7,m8,b8,n6⟩:=Zh8 a3 B A b1 M s x d0;obtain⟨j0,i9,n8,p3⟩:=Zh4 I k8 y f8;have p1:E+2<=J.heap.size:=Nat.le_of_eq b0.out.symm;clear r a3 B A b1 M s x d0 I k8 y f8 o7 l6 l5 l4 T g1 l9 i0;refine wpIn_block ?_;gi_wp2;refine callsIn_wide.2 (j0.out.mono ?_);rintro e e8 ⟨p8,p7,rfl,k7,b2⟩;obtain⟨n7,o,j1⟩:=Zh3 (Rd.of_own k7) b2 (show Nw (G.take 0)=0 from rfl);clear k7 b2 o4 f0 j0;gi_wp2
  gi_loop [12,30] (fun cn i=>∃ f:Nat,f<=m/\i=.int .i64 f/\cn=.int .i64 (Nw (G.take f):Nat)) (fun _ i=>m - (intOf i).toNat)
  case atStart=>exact⟨0,by omega,rfl,by rw [j1.out];rfl⟩
  case round=>
   obtain⟨f,q6,rfl,rfl⟩:=hrel;obtain⟨L,R⟩:=zE (Nw (G.take f));have q5:L<=1000:=by
    have:=Q5n (G.take f);rw [List.length_take] at this;omega
   rw [R];by_cases l3:f<m
   ·have o9:(f:Int)<(m:Int):=by omega
    have q7:(0:Int)<=(f:Int):=by omega
    have g3:f<G.length:=by rw [i9.out];exact l3
    obtain⟨Q,r2,cap,l7,N,I⟩:=W9 n7.out l3;simp only [zV,true_and] at l7;obtain⟨rfl,rfl⟩:=l7;have l0:(G.map Value.bool).getD f undef=.bool G[f]:=by rw [List.getD_eq_getElem?_getD,List.getElem?_map,List.getElem?_eq_getElem g3];rfl
    rw [l0] at I;have d1:=Qbd g3;rw [R] at d1;obtain⟨b,p⟩:=zE (G[f]);rw [p] at I d1;have j7:=Zh d1;have r1:IntKind.i64.wrap ((f:Int)+1)=(f:Int)+1:=IntWalk.i64_in _ oz;have r0:IntKind.i64.wrap ((L:Int)+1)=(L:Int)+1:=IntWalk.i64_in _ oz;clear d1 p l0 g3 R;cases b with
    | false=>
     gi_wp2
     go_round
     case rel=>exact⟨f+1,by omega,by go_num,by rw [j7.out];simp⟩
     case measure=>simp [intOf];omega
    | true=>
     gi_wp2
     go_round
     case rel=>exact⟨f+1,by omega,by go_num,by rw [j7.out];simp⟩
     case measure=>simp [intOf];omega
   ·obtain rfl:f=m:=by omega
    have o9:¬ (f:Int)<(f:Int):=by omega
    rw [List.take_of_length_le (by rw [i9.out];exact Nat.le_refl _)] at R;have p4:=Zh R;have f0:=cell_of_one (o.out.keep d8.out);have y:=n8.out;rw [R] at y;clear R j1;by_cases l1:o2<(L:Int)
    ·rw [if_pos l1] at y;have e6:=Zh y;clear y;have k9:=Pm (w:=e8) (ao:=m1) (n:=a8) (cap:=m0) (xs:=Qc d) (by have:=n6.out.ext o.out;rw [b9.out] at this;exact this) (fun u hu=>by obtain⟨_,_,rfl⟩:=List.mem_map.1 hu;rfl) oz;have j3:=Zh k9;clear k9;gi_wp2;refine callsIn_wide.2 (j3.out.mono ?_);rintro e P ⟨Z,Y,rfl,c5,a2⟩;have a4:Ext j P:=o.out.trans a2;have c0:=a4.keep i4.out;have c1:=a4.keep d8.out;have k2:=a4.keep i6.out;have o8:J.heap.size+2<=e8.heap.size:=by have:=o.out.size;omega
     have i1:=Q0.set1 P g 0 (.slice Z a8 Y);have i2:=Q0.set1 (P.setCell ⟨g,0,none⟩ (.slice Z a8 Y)) (g+1) 0 (.int .i64 (L:Int));have k1:=i1.heap c1 oz;have S:=a9.out;have b5:Q0 (fun b=>b=g\/b=g+1) P ((P.setCell ⟨g,0,none⟩ (.slice Z a8 Y)).setCell ⟨g+1,0,none⟩ (.int .i64 (L:Int))):=(i1.mono fun b _ e=>.inl e).trans (i2.mono fun b _ e=>.inr e);have b3:Mo g (g+1) C (J.heap.size+2) l qs (.slice V f U) w X (F++[d]) ((P.setCell ⟨g,0,none⟩ (.slice Z a8 Y)).setCell ⟨g+1,0,none⟩ (.int .i64 (L:Int))):=by
      have e:=e6.out;refine⟨Z,Y,?_,?_,b5.heap k2 oz,?_,?_,Q0.after (b8.out.trans a4) b5 (fun b p a=>by omega)⟩
      ·rw [e];dsimp only;rw [b9.out];exact i2.heap (Vd c0) oz
      ·rw [e];exact Vd k1
      ·rw [e];dsimp only;rw [b9.out];exact Qf (Zb c5 o8) b5 (fun Q N e=>by have:=(c5.lt Q N).1;omega)
      ·rw [e];dsimp only;rw [b9.out];intro Q N a;have:=(c5.lt Q N).1;have:=(j6.out Q a).2;have:=o.out.size;omega
     have l2:Q0 (fun b=>¬ ((b<w.heap.size\/b=E\/b=E+1)\/X b\/b=J.heap.size\/b=J.heap.size+1)) j ((P.setCell ⟨g,0,none⟩ (.slice Z a8 Y)).setCell ⟨g+1,0,none⟩ (.int .i64 (L:Int))):=a4.of.trans (b5.mono fun b _ a S=>by
      rcases S with (s | s | s) | s | s | s
      ·omega
      ·omega
      ·omega
      ·have:=(j6.out b s).1;omega
      ·omega
      ·omega)
     have e4:=Zh b3;have n4:=Zh l2;have k3:=cell_of_one c0;have q1:=free_of_one c0;have o3:=cell_of_one c1;have q2:=free_of_one c1;clear b3 l2 i1 i2 b5 k1 c0 c1 k2 a4 c5 a2 f0 j3;gi_wp2;exact⟨n4.out,e4.out⟩
    ·rw [if_neg l1] at y;have e6:=Zh y;clear y;have b3:Mo g (g+1) C (J.heap.size+2) l qs (.slice V f U) w X (F++[d]) e8:=by
      have e:=e6.out;refine⟨ao,c,?_,?_,o.out.keep i6.out,?_,?_,b8.out.trans o.out⟩
      ·rw [e];exact o.out.keep i4.out
      ·rw [e];exact o.out.keep d8.out
      ·rw [e];exact Q7 b7.out o.out
      ·rw [e];exact m8.out
     have e4:=Zh b3;clear b3;gi_wp2;exact⟨o.out.of,e4.out⟩
def Xz(l:List Nat)(i:Nat):List Nat:=(l.set i (l.getD (i+1) 0)).set (i+1) (l.getD i 0)
def exB(F G:List Bool):Bool:=(List.range F.length).any fun k=>F.getD k false && !G.getD k false
def Hm(LD:List Q5)(qs:Q9)(l:List Nat)(i:Nat):Bool:=exB (Xb LD l qs) (Xb LD (Xz l i) qs)
def Hu(LD:List Q5)(xs:List Int)(qs:Q9):List Nat:=if Zs LD xs (qs.map (·.1))=0 then(List.range (xs.length - 1)).filter (Hm LD qs (Zo xs)) else []
theorem Ll(l:List Nat)(i:Nat):(Xz l i).length=l.length:=by unfold Xz;simp
theorem Ey{l:List Nat}{i n:Nat}(c:i+1<l.length)(h:∀ x∈l,x<n):∀ x∈Xz l i,x<n:=by
 intro x a;unfold Xz at a;have b:∀ j,j<l.length->l.getD j 0<n:=fun j hj=>by rw [List.getD_eq_getElem?_getD,List.getElem?_eq_getElem hj];exact h _ (List.getElem_mem hj)
 rcases List.mem_or_eq_of_mem_set a with a | rfl
 ·rcases List.mem_or_eq_of_mem_set a with a | rfl
  ·exact h x a
  ·exact b _ oz
 ·exact b _ oz
theorem Ev(l:List Nat)(i:Nat):((Qc l).set i (.int .i64 (l.getD (i+1) 0:Nat))).set (i+1) (.int .i64 (l.getD i 0:Nat))=Qc (Xz l i):=by
 unfold Qc Xz;rw [List.map_set,List.map_set]
def Q7n(F G:List Bool)(k:Nat):Prop:=∀ j,j<k->(F.getD j false && !G.getD j false)=false
theorem Q9q{F G:List Bool}{k:Nat}(h:Q7n F G k)(h1:(F.getD k false && !G.getD k false)=false):Q7n F G (k+1):=fun j hj=>by
 by_cases e:j=k
 ·subst e;exact h1
 ·exact h j oz
theorem Qbr{F G:List Bool}{k:Nat}(c:F.length<=k)(h:Q7n F G k):exB F G=false:=by
 unfold exB;rw [List.any_eq_false];intro b a;rw [h b (by have:=List.mem_range.1 a;omega)];decide
theorem Qeg{F G:List Bool}{k:Nat}(b:k<F.length)(a:(F.getD k false && !G.getD k false)=true):exB F G=true:=by
 unfold exB;rw [List.any_eq_true];exact⟨k,List.mem_range.2 b,a⟩
theorem Fa(q:Nat->Bool)(k:Nat):(List.range (k+1)).filter q=(List.range k).filter q++if q k=true then [k] else []:=by
 rw [List.range_succ,List.filter_append];cases h:q k <;> simp [h]
theorem P1{w:World}{base:Nat}{e:TypeId}{g n cap j:Nat}{xs:List Value}(h:w.ownsRow base e 1 (.slice (some ⟨g,0,none⟩) n cap) n xs) (_hj:j<n):w.frozen? ⟨g,j,none⟩=false:=by
 obtain⟨b,a⟩:=Zg h rfl;simp [World.frozen?,a]
def Qh6(lo oo po fo:Option Addr)(n lc on oc m pc fc mx B0:Nat)(w2:World)(P:Nat->List Nat)(a:Act)(W:World):Prop:=∃(i:Nat) (ao:Option Addr) (c:Nat),i<=mx/\a.defers=[]/\(a.tmps.size=76/\a.tmps.getD 0 undef=.slice lo n lc/\a.tmps.getD 1 undef=.slice oo on oc/\a.tmps.getD 2 undef=.slice po m pc/\a.tmps.getD 9 undef=.slice fo m fc/\a.tmps.getD 10 undef=.slice ao (P i).length c/\a.tmps.getD 29 undef=.int .i64 mx/\a.tmps.getD 30 undef=.int .i64 i)/\W.ownsRow B0 3 1 (.slice ao (P i).length c) (P i).length (Qc (P i))/\Ext w2 W
theorem S5{w:World}{ps:Qi}{qs:Q9}{lo:Option Addr}{n lc:Nat}{oo:Option Addr}{i oc:Nat}{xs:List Int}{e3:Option Addr}{m e2:Nat}(g1:Z5 w (.slice lo n lc) ps) (d7:ps.length=n) (d8:Rd w (.slice oo i oc) i 1 (Zq xs)) (d9:xs.length=i) (g7:Z7 w (.slice e3 m e2) qs) (d5:qs.length=m) (f7:Tab w) :
  Calls Tryz.prog 28 #[.slice lo n lc,.slice oo i oc,.slice e3 m e2] w fun e w'=>∃ ao c,e=.returned (.tuple #[.slice ao (Hu (ps.map (·.1)) xs qs).length c,.int .i64 (Zs (ps.map (·.1)) xs (qs.map (·.1)))])/\Rd w' (.slice ao (Hu (ps.map (·.1)) xs qs).length c) (Hu (ps.map (·.1)) xs qs).length 1 (Qc (Hu (ps.map (·.1)) xs qs))/\Ext w w':=by
 have e0:=fun(V:World) (r:Ext w V)=>Q1u (g1.ext r) d7 (d8.ext r) d9 (Qg g7 r) d5 (f7.keep r id)
 have b2:Zs (ps.map (·.1)) xs (qs.map (·.1))=0->m<=32/\i<=6:=fun h=>by
  have C:=Kw h;have q5:=V4 C.1;have Y:=(Vo C.2).2.2.1.length_eq;unfold Zo at Y;simp at Y q5;omega
 have d2:=fun(h:Zs (ps.map (·.1)) xs (qs.map (·.1))=0) (V:World) (r:Ext w V) (o:List Nat) (o5:Option Addr) (a1:Nat) (b8:Rd V (.slice o5 i a1) i 1 (Qc o)) (hyl:o.length=i) (b1:∀ x∈o,x<n)=>Qay (g1.ext r) d7 b8 hyl b1 (Qg g7 r) d5 (by have:=(b2 h).1;omega) (f7.keep r id)
 have b3:Zs (ps.map (·.1)) xs (qs.map (·.1))=0->Qc (Zo xs)=Zq xs/\∀ x∈Zo xs,x<n:=fun h=>by
  have C:=(Kw h).2;rw [List.length_map,d7] at C;exact⟨(Vo C).1,(Vo C).2.1⟩
 obtain⟨t,f4⟩:=zE (ps.map (·.1));rw [f4] at b2 b3 ⊢;simp only [f4] at e0 d2;obtain⟨r4,N⟩:=zE (Hu t xs qs);rw [N];unfold Hu at N;rw [d9] at N;obtain⟨i8,L⟩:=zE (Zs t xs (qs.map (·.1)));rw [L] at b2 b3 d2 N ⊢;simp only [L] at e0;obtain⟨o,g6⟩:=zE (Zo xs);have O:o.length=i:=by rw [<-g6];unfold Zo;rw [List.length_map,d9]
 rw [g6] at N b3;have a5:∀ l,(Xb t l qs).length=m:=fun l=>by unfold Xb;rw [List.length_map,d5]
 obtain⟨k7,j0,j8,k1,e9,c0,k2,j6⟩:=Zh8 e0 d2 b2 b3 N O d8 a5;have r0:i<=maxLen:=d8.2.1;unfold maxLen at r0;clear e0 d2 b2 b3 N O d8 a5 L g6 f4 g1 d7 d9 g7 d5 f7;go_enter Tryz.func28,Tryz.ntmps28;go_wp2;refine wp_scope_straight ?_;go_wp2_with fail;refine(k7.out _ (Q0.refl _ _)).mono ?_;rintro e r2 ⟨rfl,l5⟩;have a2:=Zh l5;clear l5 k7;by_cases L:i8=0;case neg=>
  have t6:(i8 != 0)=true:=by simpa using L
  have Z:=e9.out;rw [if_neg L] at Z;subst Z;go_wp2;unfold Exit.noGoto;go_ret2;exact⟨none,0,rfl,Rd.of_own (e:=3) (World.ownsRow_nil _ 0 _ _),a2.out⟩
 subst L;obtain⟨t4,t7⟩:=j8.out uz;obtain⟨g2,b1⟩:=k1.out uz;have Z:=e9.out;rw [if_pos uz] at Z;have a7:=j0.out uz;obtain⟨k8,o7,p2,p4⟩:=Zh4 Z a7 b1 g2;have n3:=a7 r2 a2.out o oo oc (by rw [g2];exact k2.out.ext a2.out) c0.out b1;have j5:=Zh n3;clear Z a7 b1 g2 n3 e9 j0 j8 k1;go_wp2_with fail;refine j5.out.mono ?_;rintro e i6 ⟨l2,l1,rfl,⟨r5,a7,f6⟩,l6⟩;obtain⟨q,c8⟩:=zE (Xb t o qs);rw [c8] at f6;have a5:q.length=m:=by rw [<-c8];exact j6.out _
 obtain⟨p6,e5,o9,j7⟩:=Zh4 (Rd.of_own f6) (a2.out.trans l6) c8 a5;clear f6 l6 c8 a5 j5 a2 a7;have o0:max ((i:Int) - 1) 0=((i - 1:Nat):Int):=by omega
 have r1:IntKind.i64.wrap ((i:Int) - 1)=(i:Int) - 1:=IntWalk.i64_in _ oz;obtain⟨P,d6⟩:=zE (i - 1);rw [d6] at o0;have a0:=k8.out;rw [d6] at a0;have q0:=Zh a0;have p3:=Zh d6;have t5:P<=i:=by omega
 clear a0 d6 k8;go_wp2;refine wp_label ?_;go_wp2;clear r1 o0;obtain⟨R,l4⟩:=zE i6.heap.size;have i9:=Zh l4;clear l4
 refine wp_loop (Qh6 lo oo e3 l2 n lc i oc m e2 l1 P R i6 (fun f=>(List.range f).filter (Hm t qs o)))
  (fun a _=>((P:Int) - intOf (a.tmps.getD 30 undef)).toNat) ?_ ?_
 ·exact⟨0,none,0,by omega,rfl,⟨rfl,rfl,rfl,rfl,rfl,rfl,rfl,rfl⟩,World.ownsRow_nil _ _ _ _,Q0.refl _ _⟩
 rintro⟨i3,_⟩ A ⟨f,ao,c,s6,f9,⟨b7,y,z,F,J,B,H,I⟩,f5,r⟩;dsimp only at B f5;subst f9;obtain⟨i5,u⟩:=Qv b7;obtain⟨d,rfl⟩:∃ x,x=i5:=⟨_,rfl⟩;have i0:i3=#[d 0,d 1,d 2,d 3,d 4,d 5,d 6,d 7,d 8,d 9,d 10,d 11,d 12,d 13,d 14,d 15,d 16,d 17,d 18,d 19,d 20,d 21,d 22,d 23,d 24,d 25,d 26,d 27,d 28,d 29,d 30,d 31,d 32,d 33,d 34,d 35,d 36,d 37,d 38,d 39,d 40,d 41,d 42,d 43,d 44,d 45,d 46,d 47,d 48,d 49,d 50,d 51,d 52,d 53,d 54,d 55,d 56,d 57,d 58,d 59,d 60,d 61,d 62,d 63,d 64,d 65,d 66,d 67,d 68,d 69,d 70,d 71,d 72,d 73,d 74,d 75]:=u;clear u;subst i0;change d 0=_ at y;change d 1=_ at z;change d 2=_ at F;change d 9=_ at J;change d 10=_ at B;change d 29=_ at H;change d 30=_ at I;rw [y,z,F,J,B,H,I];clear y z F J B H I b7;have k4:=Zh f5;have E:=Zh r;have s:=Fa (Hm t qs o) f;have n8:((List.range f).filter (Hm t qs o)).length<=f:=Nat.le_trans (List.length_filter_le _ _) zy;obtain⟨o4,b0⟩:=zE ((List.range f).filter (Hm t qs o));rw [b0] at s n8;have p1:=Zh b0;have d0:=k4.out;rw [b0] at d0;rw [b0];obtain⟨e1,O⟩:=zE o4.length;rw [O] at d0 n8;rw [O];obtain⟨e7,k6,W⟩:=Zh3 d0 s O;clear f5 r s b0 O d0 k4;by_cases t0:f<P;case neg=>
  obtain rfl:f=P:=by omega
  have C:¬ (f:Int)<(f:Int):=by omega
  have a0:=q0.out;rw [p1.out] at a0;subst a0;go_wp2;go_ret2;exact⟨ao,c,by rw [W.out];rfl,by rw [W.out];exact Rd.of_own e7.out,e5.out.trans E.out⟩
 have C:(f:Int)<(P:Int):=by omega
 have s1:(0:Int)<=(f:Int):=by omega
 have n7:f+1<i:=by have:=p3.out;omega
 have t8:IntKind.i64.wrap ((f:Int)+1)=(f:Int)+1:=IntWalk.i64_in _ oz;have s8:(f:Int)+1<(i:Int):=by omega
 have s7:(0:Int)<=(f:Int)+1:=by omega
 have s9:(f:Int)<(i:Int):=by omega
 have t1:((f:Int)+1).toNat=f+1:=by omega
 have n0:=Pm (w:=A) (ao:=oo) (n:=i) (cap:=oc) (xs:=Qc o) (by rw [p4.out];exact k2.out.ext (e5.out.trans E.out)) (fun d u=>by obtain⟨_,_,rfl⟩:=List.mem_map.1 u;rfl) oz;have j3:=Zh n0;clear n0;go_upto_region 9 with (fail)
 go_wp2_with fail;refine j3.out.mono ?_;rintro e c1 ⟨o5,a1,rfl,a6,m2⟩;obtain⟨p,rfl⟩:=Kx (n:=i - 1) (cap:=a1) (by rw [show i - 1+1=i by omega];exact a6);obtain⟨e4,i1⟩:=zE (o.getD f 0);obtain⟨Q,i2⟩:=zE (o.getD (f+1) 0)
 have f8:∀ j,j<i->∀ U,Ext c1 U->U.cell? ⟨p,j,none⟩=some (.int .i64 (o.getD j 0:Nat)):=fun j hj U hU=>by
  have:=(Q7 a6 hU).cellAt j oz;rw [this];unfold Qc;rw [List.getElem?_map,List.getD_eq_getElem?_getD,List.getElem?_eq_getElem (by rw [c0.out];exact hj)];rfl
 have a8:=f8 f oz;have k:=f8 (f+1) n7;rw [i1] at a8;rw [i2] at k;have s3:A.heap.size<=p:=(a6.lt p rfl).1;obtain⟨j1,j2,k3,k0,p8,p9⟩:=Zh6 a8 k a6 m2 i1 i2;clear f8 a8 k a6 m2 i1 i2 j3;go_upto_region 10 with (fail)
 go_cut [] from 35 to 50 (fun wx=>wx.ownsRow A.heap.size 3 1 (.slice (some ⟨p,0,none⟩) i a1) i (Qc (Xz o f))/\Ext A wx)
 case first=>
  obtain⟨v,d1⟩:=zE c1.drew;have c7:Ext c1 v:=by rw [<-d1];exact(Q0.refl _ c1).drew
  have g3:=Q7 k3.out c7;have k:v.cell? ⟨p,f+1,none⟩=some (.int .i64 (Q:Int)):=j2.out v c7;have a8:v.cell? ⟨p,f,none⟩=some (.int .i64 (e4:Int)):=j1.out v c7;refine Z0 (S:=fun D=>D.cell? ⟨p,f+1,none⟩=some (.int .i64 (Q:Int))) [17] kz (by rw [d1];exact k) ?_;intro _;rw [d1];clear d1;refine tE 0 35 k ?_;refine tE 1 36 k ?_;refine tE 2 37 k ?_;refine tE 3 38 k ?_;refine tE 4 39 k ?_;refine tE 5 40 k ?_;refine tE 6 41 k ?_;refine tE 7 42 k ?_;refine tE 8 43 k ?_;refine tE 9 44 k ?_;refine tE 10 45 k ?_;refine tE 11 46 k ?_;refine tE 12 47 k ?_;refine rE [13] ?_;refine Q1.cons rfl (fun K hK=>?_) Q1.nil;refine iw rfl ?_;go_simp;refine hK.out _ _ k (fun _=>?_);clear hK K;try simp only [Act.put,pq]
  refine tE 14 49 k ?_;refine rE [15] ?_;refine Q1.cons rfl (fun K hK=>?_) Q1.nil;refine iw rfl ?_;have y:=P1 g3 (j:=f) oz;go_simp;have q9:(⟨p,f,none⟩:Addr)≠⟨p,f+1,none⟩:=by intro e;simp at e
  have g8:(v.setCell ⟨p,f,none⟩ (.int .i64 (Q:Int))).cell? ⟨p,f+1,none⟩=some (.int .i64 (Q:Int)):=by rw [World.cell?_setCell_other (h:=q9)];exact k
  refine hK.out _ _ g8 (fun _=>?_);clear hK K y a8
  (try change Qs _ _ _ _ _ _ _ _ (Act.put _ none _) _)
  (try simp only [Act.put])
  refine tE 16 50 g8 ?_;refine rE [17] ?_;refine Q1.late rfl rfl (fun K hK=>?_) Q1.nil;refine iw rfl ?_;have g4:=Yd g3 f (.int .i64 (Q:Int));have z:=P1 g4 (j:=f+1) oz;go_simp;refine hK.out _ _ ?_;clear hK K z
  (try change Qs _ _ _ _ _ _ _ _ (Act.put _ none _) _)
  (try simp only [Act.put])
  refine Ql kz ?_ _;have g5:=Yd g4 (f+1) (.int .i64 (e4:Int));have i4:Q0 (fun b=>b=p) v ((v.setCell ⟨p,f,none⟩ (.int .i64 (Q:Int))).setCell ⟨p,f+1,none⟩ (.int .i64 (e4:Int))):=(Q0.set1 _ _ _ _).trans (Q0.set1 _ _ _ _);obtain⟨c6,m7⟩:=zE ((v.setCell ⟨p,f,none⟩ (.int .i64 (Q:Int))).setCell ⟨p,f+1,none⟩ (.int .i64 (e4:Int)));rw [m7] at g5 i4 ⊢;have o2:c6.ownsRow A.heap.size 3 1 (.slice (some ⟨p,0,none⟩) i a1) i (Qc (Xz o f)):=by
   have e:=Ev o f;rw [p8.out,p9.out] at e;rw [<-e];exact g5
  have M:Ext A c6:=(k0.out.trans c7).after i4 (fun b hb e=>by omega);have p5:=Zh o2;have e6:=Zh M;clear m7 g5 i4 o2 M g4 g3 g8 k;go_wp2
  go_meet
  case rel=>exact⟨p5.out,e6.out⟩
 case rest=>
  obtain⟨b8,M⟩:=hcut;generalize wc=c6 at b8 M ⊢;have g9:=o7.out c6 (e5.out.trans (E.out.trans M)) (Xz o f) (some ⟨p,0,none⟩) a1 (Rd.of_own b8) (by rw [Ll,c0.out]) (Ey (by rw [c0.out];exact n7) p2.out);obtain⟨G,c9⟩:=zE (Xb t (Xz o f) qs);have m1:G.length=m:=by rw [<-c9];exact j6.out _
  rw [c9] at g9;have n9:Hm t qs o f=exB q G:=by unfold Hm;rw [o9.out,c9]
  obtain⟨k5,p0,j9,e6⟩:=Zh4 g9 m1 n9 M;clear b8 M g9 c9 m1 n9 j1 j2 k3 k0;go_wp2_with fail;refine k5.out.mono ?_;rintro e X ⟨q4,q3,rfl,⟨r6,q7,m3⟩,l7⟩;have p7:=Zh (Rd.of_own m3);have T:=Zh (e6.out.trans l7);clear m3 l7 k5 q7;go_wp2
  refine wp_loop (fun a A=>∃(g:Nat),g<=m/\a.defers=[]/\(a.tmps.size=76/\a.tmps.getD 0 undef=.slice lo n lc/\a.tmps.getD 1 undef=.slice oo i oc/\a.tmps.getD 2 undef=.slice e3 m e2/\a.tmps.getD 9 undef=.slice l2 m l1/\a.tmps.getD 10 undef=.slice ao e1 c/\a.tmps.getD 11 undef=.int .i64 f/\a.tmps.getD 29 undef=.int .i64 P/\a.tmps.getD 30 undef=.int .i64 f/\a.tmps.getD 54 undef=.slice q4 m q3/\a.tmps.getD 55 undef=.int .i64 m/\a.tmps.getD 56 undef=.int .i64 g)/\Q7n q G g/\X=A)
   (fun a _=>((m:Int) - intOf (a.tmps.getD 56 undef)).toNat) ?_ ?_
  ·exact⟨0,by omega,rfl,⟨rfl,rfl,rfl,rfl,rfl,rfl,rfl,rfl,rfl,rfl,rfl,rfl⟩,fun j hj=>by omega,by first | trivial | rfl⟩
  rintro⟨i3,_⟩ r3 ⟨g,t2,f9,⟨b7,y,z,F,J,B,f0,H,I,f1,f2,f3⟩,n1,rfl⟩;subst f9;obtain⟨i5,u⟩:=Qv b7;obtain⟨d,rfl⟩:∃ x,x=i5:=⟨_,rfl⟩;have i0:i3=#[d 0,d 1,d 2,d 3,d 4,d 5,d 6,d 7,d 8,d 9,d 10,d 11,d 12,d 13,d 14,d 15,d 16,d 17,d 18,d 19,d 20,d 21,d 22,d 23,d 24,d 25,d 26,d 27,d 28,d 29,d 30,d 31,d 32,d 33,d 34,d 35,d 36,d 37,d 38,d 39,d 40,d 41,d 42,d 43,d 44,d 45,d 46,d 47,d 48,d 49,d 50,d 51,d 52,d 53,d 54,d 55,d 56,d 57,d 58,d 59,d 60,d 61,d 62,d 63,d 64,d 65,d 66,d 67,d 68,d 69,d 70,d 71,d 72,d 73,d 74,d 75]:=u;clear u;subst i0;change d 0=_ at y;change d 1=_ at z;change d 2=_ at F;change d 9=_ at J;change d 10=_ at B;change d 11=_ at f0;change d 29=_ at H;change d 30=_ at I;change d 54=_ at f1;change d 55=_ at f2;change d 56=_ at f3;rw [y,z,F,J,B,f0,H,I,f1,f2,f3];clear y z F J B f0 H I f1 f2 f3 b7;have j4:=Zh n1;clear n1;by_cases d4:g<m;case neg=>
   obtain rfl:g=m:=by omega
   have q8:¬ (g:Int)<(g:Int):=by omega
   have o1:=Qbr (by rw [j7.out];exact Nat.le_refl _) j4.out;have s:=k6.out;rw [j9.out,o1] at s;have a3:=Zh s;clear s o1;go_wp2;exact⟨⟨f+1,ao,c,by omega,tz,⟨rfl,rfl,rfl,rfl,rfl,by dsimp only;rw [a3.out];simp [W.out],rfl,rfl⟩,by dsimp only;rw [a3.out];simpa [W.out] using Q7 e7.out T.out,E.out.trans T.out⟩,mz⟩
  have q8:(g:Int)<(m:Int):=by omega
  have t3:(0:Int)<=(g:Int):=by omega
  have t9:IntKind.i64.wrap ((g:Int)+1)=(g:Int)+1:=IntWalk.i64_in _ oz;have d3:g<q.length:=by rw [j7.out];exact d4
  have g0:g<G.length:=by rw [p0.out];exact d4
  obtain⟨r9,u0,r7,b4,s4,m8⟩:=W9 (p6.out.ext (E.out.trans T.out)) d4;simp only [zV,true_and] at b4;obtain⟨rfl,rfl⟩:=b4;obtain⟨s0,u1,r8,b4,s5,m9⟩:=W9 p7.out d4;simp only [zV,true_and] at b4;obtain⟨rfl,rfl⟩:=b4;have n4:(q.map Value.bool).getD g undef=.bool q[g]:=by rw [List.getD_eq_getElem?_getD,List.getElem?_map,List.getElem?_eq_getElem d3];rfl
  have n6:(G.map Value.bool).getD g undef=.bool G[g]:=by rw [List.getD_eq_getElem?_getD,List.getElem?_map,List.getElem?_eq_getElem g0];rfl
  have l9:q.getD g false=q[g]:=by rw [List.getD_eq_getElem?_getD,List.getElem?_eq_getElem d3];rfl
  have m0:G.getD g false=G[g]:=by rw [List.getD_eq_getElem?_getD,List.getElem?_eq_getElem g0];rfl
  rw [n4] at m8;rw [n6] at m9;have a9:=fun h=>Qeg (G:=G) d3 h;have b6:=fun h=>Q9q j4.out h;rw [l9,m0] at a9 b6;obtain⟨q1,n2⟩:=zE (q[g]);obtain⟨q2,n5⟩:=zE (G[g]);rw [n2] at m8 a9 b6;rw [n5] at m9 a9 b6;have b9:=Zh a9;have a4:=Zh b6;clear n2 n5 a9 b6 l9 m0 n4 n6 d3 g0;cases q1 with
  | false=>
   have b5:=a4.out rfl;have e8:=Zh b5;clear b5 a4 b9;go_wp2;exact⟨⟨g+1,by omega,tz,⟨rfl,rfl,rfl,rfl,rfl,rfl,rfl,rfl,rfl,rfl,rfl,rfl⟩,e8.out,by first | trivial | rfl⟩,mz⟩
  | true=>
   cases q2 with
   | true=>
    have b5:=a4.out rfl;have e8:=Zh b5;clear b5 a4 b9;go_wp2;exact⟨⟨g+1,by omega,tz,⟨rfl,rfl,rfl,rfl,rfl,rfl,rfl,rfl,rfl,rfl,rfl,rfl⟩,e8.out,by first | trivial | rfl⟩,mz⟩
   | false=>
    have o3:=b9.out rfl;have s:=k6.out;rw [j9.out,o3] at s;have a3:=Zh s;have s2:R<=X.heap.size:=by have:=E.out.size;have:=T.out.size;have:=i9.out;omega
    have Y:=Q7 e7.out T.out;clear s o3 b9 a4
    go_wp2_with (at_builtin;refine Qk rfl (.tmp 69) (.tmp 71) 48 rfl R 3 _ 1 8 Tryz.underlying48 Tryz.infoI rfl zd _ _ _ rfl (Q7 Y ((Q0.refl _ X).alloc _)) ⟨X.heap.size,0,none⟩ 1 1 [.int .i64 (f:Int)] rfl rfl (Qq rfl) ?c2 ?c3 ?c4 ?c5 ?_)
    case c2=>first | rfl | (intro d u;simp at u;subst u;rfl)
    case c3=>unfold maxLen;omega
    case c4=>omega
    case c5=>first | omega | (simp;omega)
    intro k9 l0 i7 m4 m5 q6;have m6:Q0 (fun b=>(Value.slice ao e1 c).ownBlock=some b) X i7:=Q0.trans (Q0.alloc (Q0.refl _ X) _) m5;have l8:Ext i6 i7:=(E.out.trans T.out).after m6 (fun b hb e=>by have:=(Y.lt _ e).1;have:=i9.out;omega);have l3:i7.ownsRow R 3 1 (.slice k9 (e1+1) l0) (e1+1) (Qc (o4++[f])):=by rw [Yu];exact m4
    have o6:=Zh l3;have o8:=Zh l8;clear l3 l8 m6 m5 q6 m4 Y;go_wp2;exact⟨⟨f+1,k9,l0,by omega,tz,⟨rfl,rfl,rfl,rfl,rfl,by dsimp only;rw [a3.out];simp [W.out],rfl,rfl⟩,by dsimp only;rw [a3.out];simp only [if_true,List.length_append,W.out,List.length_singleton];exact o6.out,o8.out⟩,mz⟩
def Dj(ps:Qi)(qs:Q9):List Nat:=if Qu (ps.map (·.1)) (qs.map (·.1))=0 then(Vq ps qs (Qo ps.length)).1 else []
def Rb(ps:Qi)(qs:Q9):Int:=if Qu (ps.map (·.1)) (qs.map (·.1))=0 then(Vq ps qs (Qo ps.length)).2 else 0
def Qhe(Z:Nat)(lv pv gv:Value)(ps:Qi)(qs:Q9)(RS:List (List Nat)) (w2:World) (a:Act) (W:World):Prop:=∃(k:Nat) (bo:Option Addr) (bc:Nat),k<=Z/\a.defers=[]/\(a.tmps.size=57/\a.tmps.getD 0 undef=lv/\a.tmps.getD 1 undef=pv/\a.tmps.getD 8 undef=.slice bo (Vq ps qs (RS.take k)).1.length bc/\a.tmps.getD 9 undef=.int .i64 (Vq ps qs (RS.take k)).2/\a.tmps.getD 10 undef=gv/\a.tmps.getD 11 undef=.int .i64 k)/\Rd W (.slice bo (Vq ps qs (RS.take k)).1.length bc) (Vq ps qs (RS.take k)).1.length 1 (Qc (Vq ps qs (RS.take k)).1)/\Ext w2 W
def Qha(m k:Nat)(lv pv gv bv:Value)(mo:Int)(B:List Bool)(W:World)(a:Act)(V:World):Prop:=∃(j:Nat),j<=m/\a.defers=[]/\(a.tmps.size=57/\a.tmps.getD 0 undef=lv/\a.tmps.getD 1 undef=pv/\a.tmps.getD 8 undef=bv/\a.tmps.getD 9 undef=.int .i64 mo/\a.tmps.getD 10 undef=gv/\a.tmps.getD 11 undef=.int .i64 k/\a.tmps.getD 12 undef=.int .i64 ((B.take j).countP id:Nat)/\a.tmps.getD 13 undef=.int .i64 j)/\Ext W V
theorem Qba{w:World}{ps:Qi}{qs:Q9}{lo:Option Addr}{n lc:Nat}{d2:Option Addr}{m d1:Nat}(g7:Z5 w (.slice lo n lc) ps) (a4:ps.length=n) (c7:Z7 w (.slice d2 m d1) qs) (c4:qs.length=m) :
  Calls Tryz.prog 44 #[.slice lo n lc,.slice d2 m d1] w fun e w'=>∃ ao c,e=.returned (.tuple #[.slice ao (Dj ps qs).length c,.int .i64 (Rb ps qs),.int .i64 (Qu (ps.map (·.1)) (qs.map (·.1)))])/\Rd w' (.slice ao (Dj ps qs).length c) (Dj ps qs).length 1 (Qc (Dj ps qs))/\Ext w w':=by
 have g2:=Kb g7 a4 c7 c4;have c6:=fun(h:n<=6)=>Mm n h;unfold Lq at c6;have a3:=Ua n;have f8:=Ga n;have l2:=Q96 ps qs;obtain⟨d3,f6⟩:=zE (Qu (ps.map (·.1)) (qs.map (·.1)));have f4:d3=0->n<=6:=fun h=>by have:=Do (f6.trans h);rwa [List.length_map,a4] at this
 have n7:m<=maxLen:=by rw [<-c4];exact c7.1.2.1
 unfold maxLen at n7;have X:=fun(j:World) (c1:Ext w j) (xo:Option Addr) (xc:Nat) (x:List Nat) (t:x∈Qo n) (hr:Rd j (.slice xo n xc) n 1 (Qc x)) (f4:n<=6) (f2:Option Addr) (f1:Nat) (i3:Option Addr) (i2:Nat) (f v:Wd) (hf:Q6 j (.slice f2 f.length f1) f) (D:Q6 j (.slice i3 v.length i2) v)=>Du (g7.ext c1) a4 hr (a3 x t).1 (a3 x t).2 oz hf D;obtain⟨m5,P⟩:=zE (Dj ps qs);obtain⟨o8,O⟩:=zE (Rb ps qs);rw [P,O];unfold Dj at P;unfold Rb at O;rw [a4] at P O;rw [f6] at g2 P O ⊢;obtain⟨k,k5⟩:=zE (Qo n);simp only [k5] at c6 X f8 a3 P O;obtain⟨i9,e0,a8,d4,b8,b2,b0,e3⟩:=Zh8 g2 c6 X f4 P O a3 f8;obtain⟨a9,e1,b1⟩:=Zh3 l2 c7 c4;clear g2 c6 X f4 P O a3 f8 l2 g7 a4 c7 c4 k5 f6;go_enter Tryz.func44,Tryz.ntmps44;go_wp2_with fail;refine i9.out.mono ?_;rintro e o2 ⟨rfl,k2⟩;have d6:=Zh k2;clear k2 i9;by_cases c2:d3=0;case neg=>
  have p5:(d3 != 0)=true:=by rw [bne_iff_ne];exact c2
  have t:=b8.out;have Z:=b2.out;rw [if_neg c2] at t Z;subst t Z;clear b8 b2 a8 e0 d4 b0 e3 a9 e1 b1 c2;go_wp2
  go_ret3
  exact⟨none,0,rfl,Rd.of_own (e:=3) (World.ownsRow_nil _ 0 _ _),d6.out⟩
 subst c2;have g8:=d4.out rfl;have t:=b8.out;have Z:=b2.out;rw [if_pos uz] at t Z;have k7:=e3.out g8;have l4:=e0.out g8;obtain⟨b9,b3,j2⟩:=Zh3 t Z l4;clear t Z l4 e0 b8 b2 d4 e3;go_wp2_with fail;refine(j2.out o2).mono ?_;rintro e o3 ⟨_,rfl,⟨o1,m1,p8,rfl,l6,l7⟩,a2⟩;obtain⟨d7,b5,b6⟩:=Zh3 (d6.out.trans a2) (Rd.of_own l6) l7;clear a2 l6 l7 j2 d6;go_wp2;refine wp_loop (Qhe k.length (.slice lo n lc) (.slice d2 m d1) (.slice o1 k.length m1) ps qs k o3) (fun a _=>((k.length:Int) - intOf (a.tmps.getD 11 undef)).toNat) ?_ ?_
 ·exact⟨0,none,0,by omega,rfl,⟨rfl,rfl,rfl,rfl,rfl,rfl,rfl⟩,Rd.of_own (e:=3) (World.ownsRow_nil _ 0 _ _),Q0.refl _ _⟩
 rintro⟨i4,_⟩ e4 ⟨r,e6,e5,n6,g4,⟨a5,F,G,J,M,H,I⟩,p,c1⟩;subst g4;obtain⟨i5,T⟩:=Qv a5;obtain⟨f,rfl⟩:∃ x,x=i5:=⟨_,rfl⟩;have i0:i4=#[f 0,f 1,f 2,f 3,f 4,f 5,f 6,f 7,f 8,f 9,f 10,f 11,f 12,f 13,f 14,f 15,f 16,f 17,f 18,f 19,f 20,f 21,f 22,f 23,f 24,f 25,f 26,f 27,f 28,f 29,f 30,f 31,f 32,f 33,f 34,f 35,f 36,f 37,f 38,f 39,f 40,f 41,f 42,f 43,f 44,f 45,f 46,f 47,f 48,f 49,f 50,f 51,f 52,f 53,f 54,f 55,f 56]:=T;clear T;subst i0;change f 0=_ at F;change f 1=_ at G;change f 8=_ at J;change f 9=_ at M;change f 10=_ at H;change f 11=_ at I;rw [F,G,J,M,H,I];clear F G J M H I a5;have b4:=Zh p;have U:=Zh c1;clear p c1;by_cases Y:r<k.length;case neg=>
  obtain rfl:r=k.length:=by omega
  have f3:¬ (k.length:Int)<(k.length:Int):=by omega
  have p:=b4.out;rw [List.take_of_length_le (Nat.le_refl _)] at p ⊢;rw [b9.out] at p ⊢;rw [b3.out];obtain⟨q0,E⟩:=zE m5.length;rw [E] at p ⊢;have a0:=Zh p;have V:=Zh E;obtain⟨j6,W⟩:=zE k.length;rw [W] at f3 ⊢;clear p E b4 b9 b3 b5 b6 a8 b0 a9 e1 b1 W k7 n6 Y;go_wp2
  go_ret3
  exact⟨e6,e5,by rw [V.out];rfl,by rw [V.out];exact a0.out,d7.out.trans U.out⟩
 have f3:(r:Int)<(k.length:Int):=by omega
 have p4:(0:Int)<=(r:Int):=by omega
 obtain⟨e8,e7,j7,j8,_⟩:=b6.out.2 r Y;have Q:=(Rd.of_own j8);obtain⟨j9,m0,p2,l5,_,C⟩:=Js (b5.out.ext U.out) Y;simp only [zV] at l5;obtain⟨rfl,o4,rfl⟩:=l5;rw [j7] at C;have E:=(b0.out _ (List.getElem_mem Y)).1;have o:=Q6q (ps:=ps) (qs:=qs) Y;have l3:=a9.out (k.take r);have i1:k[r]∈k:=List.getElem_mem Y;obtain⟨x,t⟩:=zE (k[r]);rw [t] at C Q E o i1;rw [E] at C Q;have g5:=Q.ext U.out;have l0:∀ j,Ext e4 j->j.cell? ⟨j9,m0+r,none⟩=some (.slice e8 n e7):=fun j hV=>hV.cell_some C id;have X:=fun(j:World) (hV:Ext e4 j)=>a8.out j ((d7.out.trans U.out).trans hV) e8 e7 x i1 (g5.ext hV) g8;obtain⟨y,c0⟩:=zE (Zy ps x qs);have k1:y.length=m:=by rw [<-c0];unfold Zy;rw [List.length_map,b1.out]
 have k0:∀ g (h:g<qs.length),∃ h':g<y.length,y[g]=Gr ps x qs[g].1.1 qs[g].1.2:=fun g h=>by subst c0;exact⟨by unfold Zy;rw [List.length_map];exact h,by unfold Zy;rw [List.getElem_map]⟩
 have k8:T1 ps qs x=y.countP id:=by unfold T1;rw [c0]
 obtain⟨m9,g1⟩:=zE (Vq ps qs (k.take r));rw [g1] at o l3 ⊢;have p:=b4.out;rw [g1] at p;unfold Uu at o;rw [k8] at o;obtain⟨m6,d0⟩:=m9;dsimp only at o l3 p ⊢;obtain⟨m8,g0⟩:=zE m6.length;rw [g0] at p ⊢;obtain⟨i6,u,a0,d9,i7,d5,a7,V⟩:=Zh8 g0 o p X k1 k0 l0 E;have d8:=Zh g5;clear o p X k1 k0 l0 k8 c0 g1 t i1 E Q g5 j7 j8 o4 C g0 b4 a8 b0 a9;obtain⟨j6,W⟩:=zE k.length;rw [W] at f3 k7 ⊢;have j5:=Zh W;clear W;go_wp2;refine wp_loop (Qha m r (.slice lo n lc) (.slice d2 m d1) (.slice (some ⟨j9,m0,none⟩) j6 m1) (.slice e6 m8 e5) d0 y e4) (fun a _=>((m:Int) - intOf (a.tmps.getD 13 undef)).toNat) ?_ ?_
 ·exact⟨0,by omega,rfl,⟨rfl,rfl,rfl,rfl,rfl,rfl,rfl,by simp,rfl⟩,Q0.refl _ _⟩
 rintro⟨i4,_⟩ j ⟨g,p6,g4,⟨a5,F,G,J,M,H,I,e9,f0⟩,k3⟩;subst g4;obtain⟨i5,T⟩:=Qv a5;obtain⟨f,rfl⟩:∃ x,x=i5:=⟨_,rfl⟩;have i0:i4=#[f 0,f 1,f 2,f 3,f 4,f 5,f 6,f 7,f 8,f 9,f 10,f 11,f 12,f 13,f 14,f 15,f 16,f 17,f 18,f 19,f 20,f 21,f 22,f 23,f 24,f 25,f 26,f 27,f 28,f 29,f 30,f 31,f 32,f 33,f 34,f 35,f 36,f 37,f 38,f 39,f 40,f 41,f 42,f 43,f 44,f 45,f 46,f 47,f 48,f 49,f 50,f 51,f 52,f 53,f 54,f 55,f 56]:=T;clear T;subst i0;change f 0=_ at F;change f 1=_ at G;change f 8=_ at J;change f 9=_ at M;change f 10=_ at H;change f 11=_ at I;change f 12=_ at e9;change f 13=_ at f0;rw [F,G,J,M,H,I,e9,f0];clear F G J M H I e9 f0 a5;have B:=Zh k3;clear k3;have g3:(y.take g).countP id<=g:=Nat.le_trans List.countP_le_length (by rw [List.length_take];omega);by_cases n5:g<m;case pos=>
  have n1:(g:Int)<(m:Int):=by omega
  have p7:(0:Int)<=(g:Int):=by omega
  have l1:g<qs.length:=by rw [b1.out];exact n5
  obtain⟨n4,f5⟩:=d5.out g l1;have c9:=Q7a n4;obtain⟨n0,o0,p0,D,c8,⟨f,v,k9,T,n8⟩,o5⟩:=U9.at (Qg e1.out ((d7.out.trans U.out).trans B.out)) l1;replace D:=D zd;obtain⟨D,n2⟩:=D;simp only [zV] at D;obtain⟨rfl,n9,rfl⟩:=D;rw [k9] at c8;obtain⟨f2,f1,rfl,l8,o6⟩:=T;obtain⟨i3,i2,rfl,l9,o7⟩:=n8;have c3:=fun(A:World) (N:Ext j A)=>d9.out A (B.out.trans N) f2 f1 i3 i2 _ _ (l8.ext N) (l9.ext N);obtain⟨m7,f9⟩:=zE (Gr ps x qs[g].1.1 qs[g].1.2);rw [f9] at f5;simp only [f9] at c3;rw [f5] at c9;obtain⟨p3,g6⟩:=zE (qs[g].1.1.length);obtain⟨p9,g9⟩:=zE (qs[g].1.2.length);simp only [g6,g9] at c3;rw [g6,g9] at c8;have C:=a7.out j B.out;obtain⟨a6,a1⟩:=zE ((y.take g).countP id);rw [a1] at c9 g3 ⊢;obtain⟨b7,i8,j3,j0⟩:=Zh4 c9 c3 c8 C;clear c9 c3 c8 C f9 f5 a1 g6 g9 n9 k9 l8 l9 o5 o6 o7 n2 d9 d5 a7 u a0 V d8 b5 b6 b9 b3;go_upto_region 14 with (fail)
  have q:Ext j j.drew:=(Q0.refl _ j).drew;refine Z0 (S:=fun A=>Ext j A) [] kz q ?_;intro _;refine tE 0 35 q ?_;refine tE 1 36 q ?_;refine tE 2 37 q ?_;refine tE 3 38 q ?_;refine tkE (i:=4) (d:=39) (v:=?_) rfl (Or.inl ⟨by rfl,?_⟩) q ?_;rotate_left
  ·intro A N;have p1:=(show Ext _ A from N).cell_some j0.out id;go_simp;try with_reducible rfl
  try simp only [Act.put,pq]
  refine tE 5 40 q ?_;refine tE 6 41 q ?_;refine tE 7 42 q ?_;refine tkE (i:=8) (d:=43) (v:=?_) rfl (Or.inl ⟨by rfl,?_⟩) q ?_;rotate_left
  ·intro A N;refine Vl (x:=.tmp 42) ?_ n0 (o0+g*2) ?_ _ _ (Kr N j3.out id) Tryz.underlying105 rfl kz <;> first | rfl | (simp;done)
  try simp only [Act.put,pq]
  obtain⟨o9,k6⟩:=zE j.drew;rw [k6] at q ⊢;clear k6;refine rE [9] ?_;refine Q1.cons rfl (fun K hK=>?_) Q1.nil;refine iw rfl ?_;go_simp;refine(i8.out _ q).mono ?_;rintro e m4 ⟨rfl,a2⟩;have f7:Ext j m4:=q.trans a2;clear a2 q;refine hK _ _ f7 (fun _=>?_);clear hK K;try simp only [Act.put,pq]
  refine Ql kz ?_ _;have j4:=Zh f7;clear f7 i8 j3 j0;cases m7 with
  | true=>
   have R:=b7.out;rw [if_pos rfl] at R;have e2:=Zh R;clear R b7;go_wp2;exact⟨⟨g+1,by omega,tz,⟨rfl,rfl,rfl,rfl,rfl,rfl,rfl,by rw [e2.out];rfl,rfl⟩,B.out.trans j4.out⟩,mz⟩
  | false=>
   have R:=b7.out;rw [if_neg zd,Nat.add_zero] at R;have e2:=Zh R;clear R b7;go_wp2;exact⟨⟨g+1,by omega,tz,⟨rfl,rfl,rfl,rfl,rfl,rfl,rfl,by rw [e2.out];rfl,rfl⟩,B.out.trans j4.out⟩,mz⟩
 obtain rfl:g=m:=by omega
 have n1:¬ (g:Int)<(g:Int):=by omega
 rw [List.take_of_length_le (by rw [i7.out];exact Nat.le_refl _)] at g3 ⊢;obtain⟨a6,a1⟩:=zE (y.countP id);have o:=u.out;rw [a1] at o g3 ⊢;have C:=a7.out j B.out;have k4:=a0.out.ext B.out;have Q:=d8.out.ext B.out;obtain⟨m3,m2,j1⟩:=Zh3 k4 Q (U.out.trans B.out);clear k4 Q a1 d9 d5 a7 u a0 d8 b5 b6 b9 b3 i7;by_cases c5:d0<(a6:Int)
 ·have n3:(a6:Int) > d0:=c5;rw [if_pos c5] at o;have u:=Zh o;clear o;go_wp2;exact⟨⟨r+1,e8,e7,by omega,tz,⟨rfl,rfl,rfl,by rw [u.out];dsimp only;rw [V.out];rfl,by rw [u.out];rfl,by first | rfl | (rw [j5.out];rfl),rfl⟩,by rw [u.out];dsimp only;rw [V.out];exact m2.out,j1.out⟩,mz⟩
 ·have n3:¬ (a6:Int) > d0:=c5;rw [if_neg c5] at o;have u:=Zh o;clear o;go_wp2;exact⟨⟨r+1,e6,e5,by omega,tz,⟨rfl,rfl,rfl,by rw [u.out];dsimp only;rw [i6.out];rfl,by rw [u.out];rfl,by first | rfl | (rw [j5.out];rfl),rfl⟩,by rw [u.out];dsimp only;rw [i6.out];exact m3.out,j1.out⟩,mz⟩
def Ud(L:List (List Nat)) (a b k:Nat):Bool:=decide (a≠b) && (L.take k).all fun o=>decide (U3 o a<U3 o b)
def Bs(L:List (List Nat)) (a b:Nat):Bool:=Ud L a b L.length
theorem Q35(L:List (List Nat)) (a b:Nat):Ud L a b 0=decide (a≠b):=by simp [Ud]
theorem Q2x{L:List (List Nat)} {a b k:Nat} (c:k<L.length):Ud L a b (k+1)=(Ud L a b k && decide (U3 L[k] a<U3 L[k] b)):=by
 unfold Ud;rw [List.take_succ_eq_append_getElem c,List.all_append,Bool.and_assoc];simp
def Lr(ps:Qi)(qs:Q9):Int:=if Qu (ps.map (·.1)) (qs.map (·.1))=0 then(if (Xc ps qs (Qo ps.length)).isEmpty=true then 5 else 0) else Qu (ps.map (·.1)) (qs.map (·.1))
def Df(ps:Qi)(qs:Q9):List (Int × Int):=if Lr ps qs=0 then Xh ps.length (Bs (Xc ps qs (Qo ps.length))) else []
def Qhd(n _ B0:Nat)(lv gv:Value)(R:Nat->Nat->Bool)(w2:World)(a:Act)(W:World):Prop:=∃(i:Nat) (ao:Option Addr) (c:Nat),i<=n/\a.defers=[]/\gS a [0,7,8,9]=(70,[lv,gv,.slice ao (Jt n R i).length c,.int .i64 i])/\W.ownsRow B0 73 2 (.slice ao (Jt n R i).length c) (Jt n R i).length (prs (Jt n R i))/\Ext w2 W
def Qh8(n _ B0 i:Nat)(lv gv:Value)(l0:List (Int × Int)) (R:Nat->Nat->Bool) (w2:World) (a:Act) (W:World):Prop:=∃(b:Nat) (ao:Option Addr) (c:Nat),b<=n/\a.defers=[]/\gS a [0,7,8,9,10]=(70,[lv,gv,.slice ao (l0++Ue R i b).length c,.int .i64 i,.int .i64 b])/\W.ownsRow B0 73 2 (.slice ao (l0++Ue R i b).length c) (l0++Ue R i b).length (prs (l0++Ue R i b))/\Ext w2 W
def Qhf(Z i b:Nat)(lv gv ov:Value)(L:List (List Nat)) (V:World) (a:Act) (W:World):Prop:=∃(k:Nat),k<=Z/\a.defers=[]/\gS a [0,7,8,9,10,11,12]=(70,[lv,gv,ov,.int .i64 i,.int .i64 b,.bool (Ud L i b k),.int .i64 k])/\Ext V W
theorem Q5g{w:World}{ps:Qi}{qs:Q9}{lo:Option Addr}{n lc:Nat}{k7:Option Addr}{m k6:Nat}(e6:Z5 w (.slice lo n lc) ps) (a3:ps.length=n) (e9:Z7 w (.slice k7 m k6) qs) (e8:qs.length=m) :
  Calls Tryz.prog 45 #[.slice lo n lc,.slice k7 m k6] w fun e w'=>∃ ao c,e=.returned (.tuple #[.slice ao (Df ps qs).length c,.int .i64 (Lr ps qs)])/\Rd w' (.slice ao (Df ps qs).length c) (Df ps qs).length 2 (prs (Df ps qs))/\Ext w w':=by
 have e4:=Kb e6 a3 e9 e8;have R:=fun(d6:World) (D:Ext w d6) (C:n<=6)=>Wc (e6.ext D) a3 C (Qg e9 D) e8;obtain⟨b1,d9⟩:=zE (Qu (ps.map (·.1)) (qs.map (·.1)));have C:b1=0->n<=6:=fun h=>by have:=Do (d9.trans h);rwa [List.length_map,a3] at this
 obtain⟨l7,I⟩:=zE (Df ps qs);obtain⟨n4,E⟩:=zE (Lr ps qs);rw [I,E];unfold Df at I;rw [E] at I;unfold Lr at E;rw [a3] at I E;rw [d9] at e4 E
 have a0:b1=0->(Xc ps qs (Qo n)).length<=720:=fun h=>by
  unfold Xc;exact Nat.le_trans (List.length_filter_le _ _) (Ga n (C h))
 obtain⟨j,e0⟩:=zE (Xc ps qs (Qo n));simp only [e0] at R;rw [e0] at I E a0;obtain⟨g0,d0,U,O,b3,d1⟩:=Zh6 e4 R C I E a0;clear e4 R C I E a0 e0 d9 e6 a3 e9 e8;go_enter Tryz.func45,Tryz.ntmps45;go_wp2_with fail;refine g0.out.mono ?_;rintro e m8 ⟨rfl,i0⟩;have b2:=Zh i0;clear i0 g0;by_cases Z:b1=0;case neg=>
  have o2:(b1 != 0)=true:=by rw [bne_iff_ne];exact Z
  have q:=b3.out;rw [if_neg Z] at q;have k:=O.out;rw [if_neg (by rw [<-q];exact Z)] at k;subst k q;clear O d0 U d1 b3 Z;go_wp2;go_ret2;exact⟨none,0,rfl,Rd.of_own (e:=3) (World.ownsRow_nil _ 0 _ _),b2.out⟩
 subst Z;have j6:=U.out rfl;have R:=d0.out m8 b2.out j6;have a0:=d1.out rfl;have q:=b3.out;rw [if_pos uz] at q;have b4:=Zh q;have g2:=Zh R;clear R d0 U d1 b3 q;go_wp2_with fail;refine g2.out.mono ?_;rintro e b0 ⟨v,rfl,⟨⟨l0,⟨k2,k3,ao,c,rfl,k1⟩,a6⟩,m4⟩,i1⟩;have g1:=Zh (b2.out.trans i1);have L:Hid (X0 b0 (.slice ao j.length c) j):=Zh ⟨l0,⟨k2,k3,ao,c,rfl,k1⟩,a6⟩;clear k2 k3 k1 a6 m4 i1 g2 b2;by_cases c6:j=[]
 ·subst c6;have q:=b4.out;simp only [List.isEmpty_nil,if_true] at q;have k:=O.out;rw [<-q,if_neg zd] at k;subst k q;clear O b4 L;go_wp2;go_ret2;exact⟨none,0,rfl,Rd.of_own (e:=3) (World.ownsRow_nil _ 0 _ _),g1.out⟩
 have q:=b4.out;rw [if_neg (by simpa using c6)] at q;have k:=O.out;rw [<-q,if_pos rfl] at k;subst q;obtain⟨o,e1⟩:=zE (Bs j);rw [e1] at k;have i6:∀ a b,o a b=Ud j a b j.length:=fun a b=>by rw [<-e1];rfl
 have a7:=fun a b g (j2:g<j.length)=>Q2x (a:=a) (b:=b) j2;have k5:=fun a b=>Q35 j a b;have m2:0<j.length:=by cases j with | nil=>exact absurd rfl c6 | cons a l=>simp
 obtain⟨u,e3⟩:=zE j.length;obtain⟨V,W,Y,X,d4⟩:=Zh5 i6 a7 k5 k e3;rw [e3] at m2 a0 ⊢;clear i6 a7 k5 k e1 e3 O b4 c6;have o3:((u:Int) == 0)=false:=by rw [beq_eq_false_iff_ne];omega
 obtain⟨T,g9⟩:=zE b0.heap.size;have f8:=Zh g9;clear g9;go_wp2;refine wp_loop (Qhd n u T (.slice lo n lc) (.slice ao u c) o b0) (fun a _=>((n:Int) - intOf (a.tmps.getD 9 undef)).toNat) ?_ ?_
 ·exact⟨0,none,0,by omega,rfl,rfl,World.ownsRow_nil _ _ _ _,Q0.refl _ _⟩
 rintro⟨k9,_⟩ n7 ⟨i,g6,c2,o6,a2,F,P,D⟩;subst a2;obtain⟨f6,rfl⟩:=Qj F;clear F;have B:=Zh P;have A:=Zh D;clear P D;by_cases o7:i<n;case neg=>
  obtain rfl:i=n:=by omega
  have l9:¬ (i:Int)<(i:Int):=by omega
  have k:=X.out;have s:=B.out;rw [Lz,k] at s;rw [Lz,k];obtain⟨m9,G⟩:=zE l7.length;rw [G] at s ⊢;have l1:=Zh s;have g4:=Zh G;clear k s G B X V W Y L;go_wp2;go_ret2;exact⟨g6,c2,by rw [g4.out];rfl,by rw [g4.out];exact Rd.of_own l1.out,g1.out.trans A.out⟩
 have l9:(i:Int)<(n:Int):=by omega
 have j5:=Sv n o i;have m7:(Jt n o i).length<=36:=Nat.le_trans j5 (Nat.le_trans (Nat.mul_le_mul oz j6) (by decide:6*6<=36));have f1:=Na n o i;obtain⟨f3,e7⟩:=zE (Jt n o i);rw [e7] at f1 m7 ⊢;have s:=B.out;rw [e7] at s;have M:=Zh s;have N:=Zh f1;clear s f1 e7 j5 B;go_wp2;refine wp_loop (Qh8 n u T i (.slice lo n lc) (.slice ao u c) f3 o b0) (fun a _=>((n:Int) - intOf (a.tmps.getD 10 undef)).toNat) ?_ ?_
 ·exact⟨0,g6,c2,by omega,rfl,(Prod.ext rfl (lE rfl (lE rfl (lE (by simp [Ue]) rfl)))),by simpa [Ue] using M.out,A.out⟩
 clear M A;rintro⟨k9,_⟩ d6 ⟨b,c1,c3,m3,a2,F,P,D⟩;subst a2;obtain⟨f6,rfl⟩:=Qj F;clear F;have a5:=Cx o i b;have a7:=Ef o i b;obtain⟨a8,a4⟩:=zE (f3++Ue o i b);have m6:a8.length<=42:=by rw [<-a4,List.length_append];omega
 have j9:f3++Ue o i (b+1)=a8++if o i b=true then [((i:Int),(b:Int))] else []:=by rw [a7,<-List.append_assoc,a4]
 rw [a4] at P ⊢;obtain⟨c0,B,A,b6⟩:=Zh4 j9 P D a4;clear a7 j9 P D a4 a5;by_cases o4:b<n;case neg=>
  obtain rfl:b=n:=by omega
  have m0:¬ (b:Int)<(b:Int):=by omega
  have j1:=b6.out;rw [<-N.out] at j1;subst j1;obtain⟨k8,j7⟩:=zE ((Jt b o (i+1)).length);have n3:=Zh j7;clear V W Y L X N c0 b6 j7;go_wp2;exact⟨⟨i+1,c1,c3,by omega,tz,rfl,B.out,A.out⟩,mz⟩
 have m0:(b:Int)<(n:Int):=by omega
 obtain⟨a9,a5⟩:=zE a8.length;have b7:=Zh a5;have s:=B.out;rw [a5] at s m6 ⊢;have M:=Zh s;clear a5 s B;have k4:=Y.out i b;have j0:((i:Int) !=(b:Int))=Ud j i b 0:=by
  rw [k4];by_cases e:i=b
  ·subst e;simp
  ·rw [decide_eq_true e,bne_iff_ne];omega
 have f9:=Zh j0;clear k4;go_wp2;refine wp_loop (Qhf u i b (.slice lo n lc) (.slice ao u c) (.slice c1 a9 c3) j d6) (fun a _=>((u:Int) - intOf (a.tmps.getD 12 undef)).toNat) ?_ ?_
 ·exact⟨0,by omega,rfl,(Prod.ext rfl (lE rfl (lE rfl (lE rfl (lE rfl (lE rfl (lE (by first | rfl | (rw [<-f9.out];rfl)) rfl))))))),Q0.refl _ _⟩
 clear f9 j0;rintro⟨k9,_⟩ p ⟨g,j2,a2,F,i3⟩;subst a2;obtain⟨f6,rfl⟩:=Qj F;clear F;have J:=Zh i3;clear i3;by_cases j4:g<u;case pos=>
  have m5:(g:Int)<(u:Int):=by omega
  have o8:(0:Int)<=(g:Int):=by omega
  have j3:g<j.length:=by rw [d4.out];exact j4
  obtain⟨l0,f2,a6⟩:=L.out;have e5:=A.out.trans J.out;obtain⟨o0,n9,g8,y⟩:=a6 g j3;rw [d4.out] at f2;obtain⟨o1,o9,n8,j8,_,a1⟩:=Js (f2.ext e5) j4;simp only [zV] at j8;obtain⟨rfl,n0,rfl⟩:=j8;rw [g8] at a1;have y:=y.ext e5;have t:=W.out i b g j3;obtain⟨x,k⟩:=zE (j[g]);rw [k] at a1 y t;have f4:=fun(r:World) (H:Ext p r)=>Tz (w:=r) (x:=i) (y.ext H) rfl;have f5:=fun(r:World) (H:Ext p r)=>Tz (w:=r) (x:=b) (y.ext H) rfl;obtain⟨n1,d7⟩:=zE (U3 x i);obtain⟨n2,d8⟩:=zE (U3 x b);obtain⟨m9,G⟩:=zE x.length;simp only [d7,G] at f4;simp only [d8,G] at f5;rw [d7,d8] at t;rw [G] at a1;obtain⟨d5,Q⟩:=zE (Ud j i b g);obtain⟨n5,e2⟩:=zE (Ud j i b (g+1));rw [Q,e2] at t;rw [Q];obtain⟨g3,d2,d3,b8⟩:=Zh4 e2 f4 f5 t;clear f4 f5 t Q e2 d7 d8 G k g8 y e5 f2 a6 n0 W L V Y X N c0 b6 M;cases d5 with
  | false=>
   have t:=b8.out;rw [Bool.false_and] at t;subst t;clear b8 d2 d3;go_wp2
   go_quiet (fail)
   go_wp2;exact⟨⟨g+1,by omega,tz,(Prod.ext rfl (lE rfl (lE rfl (lE rfl (lE rfl (lE rfl (lE (by first | rfl | (rw [g3.out];rfl)) rfl))))))),J.out.trans (Q0.drewN (Q0.refl _ p) _)⟩,mz⟩
  | true=>
   have t:=b8.out;rw [Bool.true_and] at t;have N:=Zh t;clear b8 t;have c8:=Zh a1;clear a1;go_upto_region 18 with (fail)
   have f:Ext p p.drew:=(Q0.refl _ p).drew;refine Z0 (S:=fun r=>Ext p r) [] kz f ?_;intro _;obtain⟨l5,i9⟩:=zE p.drew;rw [i9] at f ⊢;clear i9;refine tE 0 46 f ?_;refine tE 1 47 f ?_;refine tE 2 48 f ?_;refine tE 3 49 f ?_;refine tE 4 50 f ?_;refine tkE (i:=5) (d:=51) (v:=?_) rfl (Or.inl ⟨by rfl,?_⟩) f ?_;rotate_left
   ·intro r H;have l8:=(show Ext p r from H).cell_some c8.out id;go_simp;try with_reducible rfl
   try simp only [Act.put,pq]
   refine tE 6 52 f ?_;refine tE 8 54 f ?_;refine tE 9 55 f ?_;refine tE 10 56 f ?_;refine tkE (i:=11) (d:=57) (v:=?_) rfl (Or.inl ⟨by rfl,?_⟩) f ?_;rotate_left
   ·intro r H;have l8:=(show Ext p r from H).cell_some c8.out id;go_simp;try with_reducible rfl
   try simp only [Act.put,pq]
   refine tE 12 58 f ?_;refine rE [7] ?_;refine Q1.cons rfl (fun K hK=>?_) Q1.nil;refine iw rfl ?_;go_simp;refine(d2.out l5 f).mono ?_;rintro e l6 ⟨rfl,rfl⟩;refine hK _ _ f (fun _=>?_);clear hK K;try simp only [Act.put,pq]
   refine rE [13] ?_;refine Q1.cons rfl (fun K hK=>?_) Q1.nil;refine iw rfl ?_;go_simp;refine(d3.out l6 f).mono ?_;rintro e n6 ⟨rfl,rfl⟩;refine hK _ _ f (fun _=>?_);clear hK K;try simp only [Act.put,pq]
   refine tE 14 60 f ?_;refine tE 15 61 f ?_;refine tE 16 11 f ?_;refine Ql kz ?_ _;have l4:=Zh f;clear f d2 d3 c8;go_wp2;exact⟨⟨g+1,by omega,tz,(Prod.ext rfl (lE rfl (lE rfl (lE rfl (lE rfl (lE rfl (lE (by rw [g3.out,N.out];rfl) rfl))))))),J.out.trans l4.out⟩,mz⟩
 obtain rfl:g=u:=by omega
 have m5:¬ (g:Int)<(g:Int):=by omega
 have f0:=V.out i b;rw [d4.out] at f0;have c7:=c0.out;rw [f0] at c7;have i4:=Q7 M.out J.out;obtain⟨d5,Q⟩:=zE (Ud j i b g);rw [Q] at c7 ⊢;obtain⟨b9,b5,c9⟩:=Zh3 c7 i4 (A.out.trans J.out);clear c7 f0 i4 Q W L V Y X N c0 b6 M J A;cases d5 with
 | false=>
  go_wp2;exact⟨⟨b+1,c1,c3,by omega,tz,(Prod.ext rfl (lE rfl (lE rfl (lE (by rw [b9.out];simp [b7.out]) rfl)))),by rw [b9.out];simpa [b7.out] using b5.out,c9.out⟩,mz⟩
 | true=>
  have o5:T<=p.heap.size:=by have:=c9.out.size;have:=f8.out;omega
  go_wp2_with (at_builtin;refine Qk rfl (.tmp 63) (.tmp 67) 70 rfl T 73 _ 2 16 Tryz.underlying70 Tryz.infoPair rfl zd _ _ _ rfl (Q7 b5.out ((Q0.refl _ p).alloc _)) ⟨p.heap.size,0,none⟩ 1 1 [.int .i64 (i:Int),.int .i64 (b:Int)] rfl rfl (Qq rfl) ?c2 ?c3 ?c4 ?c5 ?_)
  case c2=>first | rfl | (repeat (first | rfl | refine⟨rfl,?_⟩)) | (intro f6 k0;simp at k0;rcases k0 with rfl | rfl <;> rfl)
  case c3=>unfold maxLen;omega
  case c4=>omega
  case c5=>first | omega | (simp;omega)
  intro g5 g7 f7 i5 i7 m1;have i8:Q0 (fun b=>(Value.slice c1 a9 c3).ownBlock=some b) p f7:=Q0.trans (Q0.alloc (Q0.refl _ p) _) i7;have i2:Ext b0 f7:=c9.out.after i8 (fun b m3 e=>by have:=(b5.out.lt _ e).1;have:=f8.out;omega);have y:(a8++[((i:Int),(b:Int))]).length=a9+1:=by rw [List.length_append,b7.out];rfl
  have C:f7.ownsRow T 73 2 (.slice g5 (a9+1) g7) (a9+1) (prs (a8++[((i:Int),(b:Int))])):=by rw [Nf];exact i5
  obtain⟨U,l2,l3⟩:=Zh3 C i2 y;clear C i2 y i8 i7 m1 i5 b5;go_wp2;exact⟨⟨b+1,g5,g7,by omega,tz,(Prod.ext rfl (lE rfl (lE rfl (lE (by rw [b9.out];simp [b7.out]) rfl)))),by rw [b9.out];simp only [if_true];rw [l3.out];exact U.out,l2.out⟩,mz⟩
def Ci(F G:List Bool)(k:Nat):Bool:=(List.range k).any fun j=>F.getD j false && !G.getD j false
theorem Qae(F G:List Bool)(k:Nat):Ci F G (k+1)=(Ci F G k || (F.getD k false && !G.getD k false)):=by
 unfold Ci;rw [List.range_succ,List.any_append];simp
theorem Qd9{F G:List Bool}{k:Nat}(h:F.length=k):Ci F G k=exB F G:=by subst h;rfl
def Dh(ps:Qi)(xs:List Int)(qs:Q9):List Nat:=if Zs (ps.map (·.1)) xs (qs.map (·.1))=0 then(List.range (xs.length - 1)).filter (fun i=>exB (Zy ps (Zo xs) qs) (Zy ps (Xz (Zo xs) i) qs)) else []
def Qh9(lv ov pv:Value)(mx B0:Nat)(w2:World)(P:Nat->List Nat)(a:Act)(W:World):Prop:=∃(i:Nat) (ao:Option Addr) (c:Nat),i<=mx/\a.defers=[]/\(a.tmps.size=83/\a.tmps.getD 0 undef=lv/\a.tmps.getD 1 undef=ov/\a.tmps.getD 2 undef=pv/\a.tmps.getD 9 undef=.slice ao (P i).length c/\a.tmps.getD 10 undef=.int .i64 i)/\W.ownsRow B0 3 1 (.slice ao (P i).length c) (P i).length (Qc (P i))/\Ext w2 W
def Qhl(m i:Nat)(lv ov pv bv yv:Value)(F G:List Bool)(V:World)(a:Act)(W:World):Prop:=∃(k:Nat),k<=m/\a.defers=[]/\(a.tmps.size=83/\a.tmps.getD 0 undef=lv/\a.tmps.getD 1 undef=ov/\a.tmps.getD 2 undef=pv/\a.tmps.getD 9 undef=bv/\a.tmps.getD 10 undef=.int .i64 i/\a.tmps.getD 11 undef=yv/\a.tmps.getD 12 undef=.bool (Ci F G k)/\a.tmps.getD 13 undef=.int .i64 k)/\Ext V W
theorem Q3c{w:World}{ps:Qi}{qs:Q9}{lo:Option Addr}{n lc:Nat}{oo:Option Addr}{k oc:Nat}{xs:List Int}{i4:Option Addr}{m i3:Nat}(m3:Z5 w (.slice lo n lc) ps) (d6:ps.length=n) (g8:Rd w (.slice oo k oc) k 1 (Zq xs)) (d7:xs.length=k) (g9:Z7 w (.slice i4 m i3) qs) (d5:qs.length=m) :
  Calls Tryz.prog 35 #[.slice lo n lc,.slice oo k oc,.slice i4 m i3] w fun e w'=>∃ ao c,e=.returned (.tuple #[.slice ao (Dh ps xs qs).length c,.int .i64 (Zs (ps.map (·.1)) xs (qs.map (·.1)))])/\Rd w' (.slice ao (Dh ps xs qs).length c) (Dh ps xs qs).length 1 (Qc (Dh ps xs qs))/\Ext w w':=by
 have l7:=Kb m3 d6 g9 d5;have b9:=fun(r:World) (b5:Ext w r) (h:n<=1000)=>Ei (g8.ext b5) d7 h;have v5:m<=maxLen:=by rw [<-d5];exact g9.1.2.1
 unfold maxLen at v5;obtain⟨c1,f7⟩:=zE (Qu (ps.map (·.1)) (qs.map (·.1)));have b4:c1=0->n<=6:=fun h=>by have:=Do (f7.trans h);rwa [List.length_map,d6] at this
 have u:Zs (ps.map (·.1)) xs (qs.map (·.1))=if c1=0 then(if Yy xs n=true then 0 else 2) else c1:=by simp only [Zs,f7,List.length_map,d6]
 have g6:Yy xs n=true->Qc (Zo xs)=Zq xs/\(∀ x∈Zo xs,x<n)/\k=n:=fun h=>by
  have f5:=Vo h;have k8:=f5.2.2.1.length_eq;unfold Zo at k8;rw [List.length_map,List.length_range,d7] at k8;exact⟨f5.1,f5.2.1,k8⟩
 have s6:=fun(b4:n<=6) (r:World) (b5:Ext w r) (p:List Nat) (o1:Option Addr) (V:Nat) (e0:Rd r (.slice o1 n V) n 1 (Qc p)) (hyl:p.length=n) (g5:∀ x∈p,x<n) (f4:Option Addr) (f3:Nat) (i6:Option Addr) (i5:Nat) (f v:Wd) (hf:Q6 r (.slice f4 f.length f3) f) (R:Q6 r (.slice i6 v.length i5) v)=>Du (m3.ext b5) d6 e0 hyl g5 oz hf R;obtain⟨x2,a0⟩:=zE (Dh ps xs qs);rw [a0];unfold Dh at a0;rw [d7] at a0;obtain⟨x1,s4⟩:=zE (Zs (ps.map (·.1)) xs (qs.map (·.1)));rw [s4] at a0 u ⊢;obtain⟨p,m8⟩:=zE (Zo xs);have b8:p.length=k:=by rw [<-m8];unfold Zo;rw [List.length_map,d7]
 rw [m8] at a0 g6;obtain⟨u8,l1⟩:=zE (Yy xs n);simp only [l1] at b9;rw [l1] at g6 u;rw [f7] at l7;have b7:∀ l,(Zy ps l qs).length=m:=fun l=>by unfold Zy;rw [List.length_map,d5]
 have b6:∀ l o (h:o<qs.length),(Zy ps l qs).getD o false=Gr ps l qs[o].1.1 qs[o].1.2:=fun l o h=>by unfold Zy;rw [List.getD_eq_getElem?_getD,List.getElem?_map,List.getElem?_eq_getElem h];rfl
 obtain⟨o6,j5,c8,f2,e6,a5,a9,e4⟩:=Zh8 l7 b9 b4 u g6 s6 a0 b8;obtain⟨d0,a6,p1,p6,u6⟩:=Zh5 b7 b6 g8 g9 d5;have v6:k<=maxLen:=g8.2.1;unfold maxLen at v6;clear l7 b9 b4 u g6 s6 a0 b8 b7 b6 g8 g9 d5 l1 m8 s4 f7 m3 d6 d7;go_enter Tryz.func35,Tryz.ntmps35;go_wp2_with fail;refine o6.out.mono ?_;rintro e w3 ⟨rfl,Z⟩;have e2:=Zh Z;clear Z o6;by_cases f6:c1=0;case neg=>
  have x9:(c1 != 0)=true:=by rw [bne_iff_ne];exact f6
  have u:=f2.out;rw [if_neg f6] at u;subst u;have H:=a9.out;rw [if_neg f6] at H;subst H;clear a9 j5 e6 a5 c8 f2 d0 a6;go_wp2;go_ret2;exact⟨none,0,rfl,Rd.of_own (e:=3) (World.ownsRow_nil _ 0 _ _),e2.out⟩
 subst f6;have t3:=c8.out rfl;have b9:=j5.out w3 e2.out oz;have u:=f2.out;rw [if_pos uz] at u;have j9:=Zh u;have p5:=Zh b9;clear b9 u j5 c8 f2;go_wp2_with fail;refine p5.out.mono ?_;rintro e n9 ⟨rfl,q9⟩;have a4:=Zh (e2.out.trans q9);clear q9 p5 e2;cases u8 with
 | false=>
  have u:=j9.out;rw [if_neg zd] at u;subst u;have H:=a9.out;rw [if_neg zd] at H;subst H;clear a9 e6 a5 d0 a6;go_wp2;go_ret2;exact⟨none,0,rfl,Rd.of_own (e:=3) (World.ownsRow_nil _ 0 _ _),a4.out⟩
 | true=>
  have u:=j9.out;rw [if_pos uz] at u;subst u;obtain⟨t4,g5,v7⟩:=e6.out uz;subst v7;have H:=a9.out;rw [if_pos uz] at H;have m9:=p1.out.ext a4.out;rw [<-t4] at m9;obtain⟨a1,m4⟩:=zE (k - 1);rw [m4] at H;obtain⟨w9,q0,e8,e5⟩:=Zh4 m4 H m9 g5;have z1:a1<=k:=by omega
  have z2:(a1=0/\k=0)\/a1+1=k:=by omega
  clear t4 g5 H m9 m4 a9 e6 j9 p1;obtain⟨a3,q8⟩:=zE n9.heap.size;have o3:=Zh q8;clear q8;obtain⟨b0,l2⟩:∃ q:Nat->Bool,(fun i=>exB (Zy ps p qs) (Zy ps (Xz p i) qs))=q:=⟨_,rfl⟩;have r7:∀ i,b0 i=exB (Zy ps p qs) (Zy ps (Xz p i) qs):=fun i=>by rw [<-l2]
  have c0:=q0.out;rw [l2] at c0;have k2:=Zh c0;have j7:=Zh r7;clear c0 l2 r7 q0;go_wp2;refine wp_loop (Qh9 (.slice lo k lc) (.slice oo k oc) (.slice i4 m i3) a1 a3 n9 (fun i=>(List.range i).filter b0)) (fun a _=>((a1:Int) - intOf (a.tmps.getD 10 undef)).toNat) ?_ ?_
  ·exact⟨0,none,0,by omega,rfl,⟨rfl,rfl,rfl,rfl,rfl,rfl⟩,World.ownsRow_nil _ _ _ _,Q0.refl _ _⟩
  rintro⟨n6,_⟩ B ⟨i,ao,c,y3,m0,⟨d9,J,L,Y,P,X⟩,l0,b5⟩;dsimp only at P l0;subst m0;obtain⟨n8,F⟩:=Qv d9;obtain⟨f,rfl⟩:∃ x,x=n8:=⟨_,rfl⟩;have n1:n6=#[f 0,f 1,f 2,f 3,f 4,f 5,f 6,f 7,f 8,f 9,f 10,f 11,f 12,f 13,f 14,f 15,f 16,f 17,f 18,f 19,f 20,f 21,f 22,f 23,f 24,f 25,f 26,f 27,f 28,f 29,f 30,f 31,f 32,f 33,f 34,f 35,f 36,f 37,f 38,f 39,f 40,f 41,f 42,f 43,f 44,f 45,f 46,f 47,f 48,f 49,f 50,f 51,f 52,f 53,f 54,f 55,f 56,f 57,f 58,f 59,f 60,f 61,f 62,f 63,f 64,f 65,f 66,f 67,f 68,f 69,f 70,f 71,f 72,f 73,f 74,f 75,f 76,f 77,f 78,f 79,f 80,f 81,f 82]:=F;clear F;subst n1;change f 0=_ at J;change f 1=_ at L;change f 2=_ at Y;change f 9=_ at P;change f 10=_ at X;rw [J,L,Y,P,X];clear J L Y P X d9;have p4:=Zh l0;have W:=Zh b5;have C:=Fa b0 i;have t2:((List.range i).filter b0).length<=i:=Nat.le_trans (List.length_filter_le _ _) zy;obtain⟨u0,g4⟩:=zE ((List.range i).filter b0);rw [g4] at C t2 ⊢;have u5:=Zh g4;have f8:=p4.out;rw [g4] at f8;obtain⟨i2,b8⟩:=zE u0.length;rw [b8] at f8 t2 ⊢;obtain⟨e7,e9,a7⟩:=Zh3 f8 C b8;clear l0 b5 C g4 b8 f8 p4;have z3:IntKind.i64.wrap ((i:Int)+1)=(i:Int)+1:=IntWalk.i64_in _ oz;by_cases y7:i<a1;case neg=>
   obtain rfl:i=a1:=by omega
   have f5:¬ (i:Int)+1<(k:Int):=by omega
   have c0:=k2.out;rw [u5.out] at c0;subst c0;clear e8 e5 a5 d0 a6 p6 j7 e9;go_wp2;go_ret2;exact⟨ao,c,by rw [a7.out];rfl,by rw [a7.out];exact Rd.of_own e7.out,a4.out.trans W.out⟩
  have x8:(0:Int)<=(i:Int):=by omega
  have g3:i+1<k:=by omega
  have y5:(i:Int)+1<(k:Int):=by omega
  have y4:(0:Int)<=(i:Int)+1:=by omega
  have y6:(i:Int)<(k:Int):=by omega
  have y8:((i:Int)+1).toNat=i+1:=by omega
  obtain⟨a2,n4⟩:=zE (p.getD i 0);obtain⟨O,n5⟩:=zE (p.getD (i+1) 0)
  have g7:∀ j,j<k->(Qc p).getD j undef=.int .i64 (p.getD j 0:Nat):=fun j hj=>by
   unfold Qc;rw [List.getD_eq_getElem?_getD,List.getElem?_map,List.getD_eq_getElem?_getD,List.getElem?_eq_getElem (by rw [e4.out];exact hj)];rfl
  have i1:=e8.out.ext W.out;obtain⟨M,T,x4,d8,y2,l8⟩:=Js i1 (show i<k by omega);simp only [zV] at d8;obtain⟨rfl,w4,rfl⟩:=d8;obtain⟨x7,z4,x5,d8,_,l9⟩:=Js i1 g3;simp only [zV,Option.some.injEq,Addr.mk.injEq] at d8;obtain⟨⟨v8,v9,_⟩,w5,w0⟩:=d8;subst v8;subst v9;subst w0;rw [g7 i oz,n4] at l8;rw [g7 (i+1) g3,n5] at l9;obtain⟨o7,o8,k0,k1,p9,p0⟩:=Zh6 l8 l9 n4 n5 i1 g7;have t6:∀ f∈Qc p,f.oneCell'=true:=fun f F=>by obtain⟨_,_,rfl⟩:=List.mem_map.1 F;rfl
  have p3:=Zh t6;have q7:(B.alloc (.cells #[] 3)).ownsRow B.heap.size 3 1 (.slice (some ⟨B.heap.size,0,none⟩) 0 0) 0 []:=World.ownsRow_lit B #[] 0 (Nat.le_refl _) (by unfold maxLen;omega) rfl;have o2:=Zh q7;clear l8 l9 n4 n5 i1 g7 t6 q7 w4 w5
  go_wp2_with (at_builtin;refine Jo rfl (.tmp 32) (.tmp 33) 48 rfl B.heap.size 3 _ 1 8 Tryz.underlying48 Tryz.infoI rfl zd _ 0 [] rfl o2.out _ k _ (Qc p) rfl (p9.out.ext ((Q0.refl _ B).alloc _)) p3.out ?c3 ?c4 ?c5 ?_)
  case c3=>unfold maxLen;omega
  case c4=>omega
  case c5=>first | omega | (simp;done) | (simp;omega)
  intro o1 V b1 Q s0 v0;have Z:Ext B b1:=Q0.after ((Q0.refl _ B).alloc (.cells #[] 3)) s0 (fun b hb e=>by simp only [Value.ownBlock,Option.some.injEq] at e;omega);try rw [Nat.zero_add,List.nil_append] at Q
  have Q:b1.ownsRow B.heap.size 3 1 (.slice o1 k V) k (Qc p):=Q;obtain⟨t,rfl⟩:=Kx (n:=k - 1) (cap:=V) (by rw [show k - 1+1=k by omega];exact Q)
  have l6:∀ j,j<k->∀ U,Ext b1 U->U.cell? ⟨t,j,none⟩=some (.int .i64 (p.getD j 0:Nat)):=fun j hj U hU=>by
   have:=(Q7 Q hU).cellAt j oz;rw [this];have d2:=p0.out j hj;rw [List.getD_eq_getElem?_getD] at d2;cases h7:(Qc p)[j]? with
   | none=>rw [h7] at d2;cases d2
   | some q=>rw [h7] at d2;exact congrArg some d2
  have d4:=l6 i oz;have g0:=l6 (i+1) g3;rw [k0.out] at d4;rw [k1.out] at g0;have y1:B.heap.size<=t:=(Q.lt t rfl).1;have t1:¬ t=M:=by omega
  have r8:=Z.cell_some o7.out id;have r9:=Z.cell_some o8.out id;obtain⟨o4,o5,p2,o9,p7,p8⟩:=Zh6 d4 g0 Q Z r8 r9;clear l6 d4 g0 Q Z s0 v0 r8 r9 o2 o7 o8 p0 p3 p9;go_upto_region 11 with (fail)
  go_cut [] from 35 to 51 (fun wx=>wx.ownsRow B.heap.size 3 1 (.slice (some ⟨t,0,none⟩) k V) k (Qc (Xz p i))/\Ext B wx)
  case first=>
   obtain⟨E,f9⟩:=zE b1.drew;have b3:Ext b1 E:=by rw [<-f9];exact(Q0.refl _ b1).drew
   have m5:=Q7 p2.out b3;have q4:=b3.cell_some p8.out id;have q3:=b3.cell_some p7.out id;have g0:E.cell? ⟨t,i+1,none⟩=some (.int .i64 (O:Int)):=o5.out E b3;have d4:E.cell? ⟨t,i,none⟩=some (.int .i64 (a2:Int)):=o4.out E b3;have s:E.cell? ⟨M,T+(i+1),none⟩=some (.int .i64 (O:Int))/\E.cell? ⟨M,T+i,none⟩=some (.int .i64 (a2:Int)):=⟨q4,q3⟩;refine Z0 (S:=fun D=>D.cell? ⟨M,T+(i+1),none⟩=some (.int .i64 (O:Int))/\D.cell? ⟨M,T+i,none⟩=some (.int .i64 (a2:Int))) [17] kz (by rw [f9];exact s) ?_;intro _;rw [f9];clear f9 q4 q3;refine tkE (i:=0) (d:=35) (v:=?_) rfl (Or.inl ⟨by rfl,?_⟩) s ?_;rotate_left
   ·intro w g;(try dsimp only at g);obtain⟨z,A⟩:=g;go_simp;try with_reducible rfl
   try simp only [Act.put,pq]
   refine tkE (i:=1) (d:=36) (v:=?_) rfl (Or.inl ⟨by rfl,?_⟩) s ?_;rotate_left
   ·intro w g;(try dsimp only at g);obtain⟨z,A⟩:=g;go_simp;try with_reducible rfl
   try simp only [Act.put,pq]
   refine tkE (i:=2) (d:=37) (v:=?_) rfl (Or.inl ⟨by rfl,?_⟩) s ?_;rotate_left
   ·intro w g;(try dsimp only at g);obtain⟨z,A⟩:=g;go_simp;try with_reducible rfl
   try simp only [Act.put,pq]
   refine tkE (i:=3) (d:=38) (v:=?_) rfl (Or.inl ⟨by rfl,?_⟩) s ?_;rotate_left
   ·intro w g;(try dsimp only at g);obtain⟨z,A⟩:=g;go_simp;try with_reducible rfl
   try simp only [Act.put,pq]
   refine tkE (i:=4) (d:=39) (v:=?_) rfl (Or.inl ⟨by rfl,?_⟩) s ?_;rotate_left
   ·intro w g;(try dsimp only at g);obtain⟨z,A⟩:=g;go_simp;try with_reducible rfl
   try simp only [Act.put,pq]
   refine tkE (i:=5) (d:=40) (v:=?_) rfl (Or.inl ⟨by rfl,?_⟩) s ?_;rotate_left
   ·intro w g;(try dsimp only at g);obtain⟨z,A⟩:=g;go_simp;try with_reducible rfl
   try simp only [Act.put,pq]
   refine tkE (i:=6) (d:=41) (v:=?_) rfl (Or.inl ⟨by rfl,?_⟩) s ?_;rotate_left
   ·intro w g;(try dsimp only at g);obtain⟨z,A⟩:=g;go_simp;try with_reducible rfl
   try simp only [Act.put,pq]
   refine tkE (i:=7) (d:=42) (v:=?_) rfl (Or.inl ⟨by rfl,?_⟩) s ?_;rotate_left
   ·intro w g;(try dsimp only at g);obtain⟨z,A⟩:=g;go_simp;try with_reducible rfl
   try simp only [Act.put,pq]
   refine tkE (i:=8) (d:=43) (v:=?_) rfl (Or.inl ⟨by rfl,?_⟩) s ?_;rotate_left
   ·intro w g;(try dsimp only at g);obtain⟨z,A⟩:=g;go_simp;try with_reducible rfl
   try simp only [Act.put,pq]
   refine tkE (i:=9) (d:=44) (v:=?_) rfl (Or.inl ⟨by rfl,?_⟩) s ?_;rotate_left
   ·intro w g;(try dsimp only at g);obtain⟨z,A⟩:=g;go_simp;try with_reducible rfl
   try simp only [Act.put,pq]
   refine tkE (i:=10) (d:=45) (v:=?_) rfl (Or.inl ⟨by rfl,?_⟩) s ?_;rotate_left
   ·intro w g;(try dsimp only at g);obtain⟨z,A⟩:=g;go_simp;try with_reducible rfl
   try simp only [Act.put,pq]
   refine tkE (i:=11) (d:=46) (v:=?_) rfl (Or.inl ⟨by rfl,?_⟩) s ?_;rotate_left
   ·intro w g;(try dsimp only at g);obtain⟨z,A⟩:=g;go_simp;try with_reducible rfl
   try simp only [Act.put,pq]
   refine tkE (i:=12) (d:=47) (v:=?_) rfl (Or.inl ⟨by rfl,?_⟩) s ?_;rotate_left
   ·intro w g;(try dsimp only at g);obtain⟨z,A⟩:=g;go_simp;try with_reducible rfl
   try simp only [Act.put,pq]
   refine tkE (i:=13) (d:=48) (v:=?_) rfl (Or.inl ⟨by rfl,?_⟩) s ?_;rotate_left
   ·intro w g;(try dsimp only at g);obtain⟨z,A⟩:=g;go_simp;try with_reducible rfl
   try simp only [Act.put,pq]
   refine tkE (i:=14) (d:=49) (v:=?_) rfl (Or.inl ⟨by rfl,?_⟩) s ?_;rotate_left
   ·intro w g;(try dsimp only at g);obtain⟨z,A⟩:=g;go_simp;try with_reducible rfl
   try simp only [Act.put,pq]
   refine rE [15] ?_;refine Q1.cons rfl (fun K hK=>?_) Q1.nil;refine iw rfl ?_;have J:=P1 m5 (j:=i) oz;go_simp;have l3:(E.setCell ⟨t,i,none⟩ (.int .i64 (O:Int))).cell? ⟨M,T+(i+1),none⟩=some (.int .i64 (O:Int))/\(E.setCell ⟨t,i,none⟩ (.int .i64 (O:Int))).cell? ⟨M,T+i,none⟩=some (.int .i64 (a2:Int)):=by
    refine⟨?_,?_⟩
    ·rw [World.cell?_setCell_other (h:=by intro e;simp only [Addr.mk.injEq] at e;exact t1 e.1)];exact s.1
    ·rw [World.cell?_setCell_other (h:=by intro e;simp only [Addr.mk.injEq] at e;exact t1 e.1)];exact s.2
   refine hK.out _ _ l3 (fun _=>?_);clear hK K J d4
   (try change Qs _ _ _ _ _ _ _ _ (Act.put _ none _) _)
   (try simp only [Act.put])
   refine tkE (i:=16) (d:=50) (v:=?_) rfl (Or.inl ⟨by rfl,?_⟩) l3 ?_;rotate_left
   ·intro w g;(try dsimp only at g);obtain⟨z,A⟩:=g;go_simp;try with_reducible rfl
   try simp only [Act.put,pq]
   refine rE [17] ?_;refine Q1.late rfl rfl (fun K hK=>?_) Q1.nil;refine iw rfl ?_;have m6:=Yd m5 i (.int .i64 (O:Int));have L:=P1 m6 (j:=i+1) oz;go_simp;refine hK.out _ _ ?_;clear hK K L
   (try change Qs _ _ _ _ _ _ _ _ (Act.put _ none _) _)
   (try simp only [Act.put])
   refine Ql kz ?_ _;have m7:=Yd m6 (i+1) (.int .i64 (a2:Int));have n7:Q0 (fun b=>b=t) E ((E.setCell ⟨t,i,none⟩ (.int .i64 (O:Int))).setCell ⟨t,i+1,none⟩ (.int .i64 (a2:Int))):=(Q0.set1 _ _ _ _).trans (Q0.set1 _ _ _ _);obtain⟨b2,s3⟩:=zE ((E.setCell ⟨t,i,none⟩ (.int .i64 (O:Int))).setCell ⟨t,i+1,none⟩ (.int .i64 (a2:Int)));rw [s3] at m7 n7 ⊢;have t5:b2.ownsRow B.heap.size 3 1 (.slice (some ⟨t,0,none⟩) k V) k (Qc (Xz p i)):=by
    have e:=Ev p i;rw [k0.out,k1.out] at e;rw [<-e];exact m7
   have N:Ext B b2:=(o9.out.trans b3).after n7 (fun b hb e=>by omega);have u7:=Zh t5;have u4:=Zh N;clear s3 m7 n7 t5 N m6 m5 s l3;go_wp2
   go_meet
   case rel=>exact⟨u7.out,u4.out⟩
  case rest=>
   obtain⟨e0,N⟩:=hcut;generalize wc=b2 at e0 N ⊢;have t9:=Rd.of_own e0;obtain⟨c6,r4⟩:=zE (Zy ps p qs);obtain⟨c7,r5⟩:=zE (Zy ps (Xz p i) qs);have b6:=a6.out p;have k9:=a6.out (Xz p i);have b7:=d0.out p;have i0:=j7.out i;rw [r4] at b6 b7 i0;rw [r5] at k9 i0;have s7:=fun(r:World) (hV:Ext b2 r)=>a5.out t3 r ((a4.out.trans (W.out.trans N)).trans hV) p (some ⟨M,T,none⟩) oc (e8.out.ext (W.out.trans (N.trans hV))) e4.out e5.out;have s8:=fun(r:World) (hV:Ext b2 r)=>a5.out t3 r ((a4.out.trans (W.out.trans N)).trans hV) (Xz p i) (some ⟨t,0,none⟩) V (t9.ext hV) (by rw [Ll,e4.out]) (Ey (by rw [e4.out];exact g3) e5.out);obtain⟨j2,j4,j3,j6,j0,j1,e3⟩:=Zh7 b6 k9 b7 i0 s7 s8 N;clear b6 k9 b7 i0 s7 s8 r4 r5 t9 e0 N a5 a6 d0 j7 o4 o5 p2 o9 p7 p8 k0 k1;go_wp2;refine wp_loop (Qhl m i (.slice lo k lc) (.slice (some ⟨M,T,none⟩) k oc) (.slice i4 m i3) (.slice ao i2 c) (.slice (some ⟨t,0,none⟩) k V) c6 c7 b2) (fun a _=>((m:Int) - intOf (a.tmps.getD 13 undef)).toNat) ?_ ?_
   ·exact⟨0,by omega,rfl,⟨rfl,rfl,rfl,rfl,rfl,rfl,rfl,rfl,rfl⟩,Q0.refl _ _⟩
   rintro⟨n6,_⟩ r ⟨o,y9,m0,⟨d9,J,L,Y,P,X,k5,k6,k7⟩,r3⟩;subst m0;obtain⟨n8,F⟩:=Qv d9;obtain⟨f,rfl⟩:∃ x,x=n8:=⟨_,rfl⟩;have n1:n6=#[f 0,f 1,f 2,f 3,f 4,f 5,f 6,f 7,f 8,f 9,f 10,f 11,f 12,f 13,f 14,f 15,f 16,f 17,f 18,f 19,f 20,f 21,f 22,f 23,f 24,f 25,f 26,f 27,f 28,f 29,f 30,f 31,f 32,f 33,f 34,f 35,f 36,f 37,f 38,f 39,f 40,f 41,f 42,f 43,f 44,f 45,f 46,f 47,f 48,f 49,f 50,f 51,f 52,f 53,f 54,f 55,f 56,f 57,f 58,f 59,f 60,f 61,f 62,f 63,f 64,f 65,f 66,f 67,f 68,f 69,f 70,f 71,f 72,f 73,f 74,f 75,f 76,f 77,f 78,f 79,f 80,f 81,f 82]:=F;clear F;subst n1;change f 0=_ at J;change f 1=_ at L;change f 2=_ at Y;change f 9=_ at P;change f 10=_ at X;change f 11=_ at k5;change f 12=_ at k6;change f 13=_ at k7;rw [J,L,Y,P,X,k5,k6,k7];clear J L Y P X k5 k6 k7 d9;have I:=Zh r3;clear r3;by_cases v4:o<m;case pos=>
    have v3:(o:Int)<(m:Int):=by omega
    have z0:(0:Int)<=(o:Int):=by omega
    have m2:o<qs.length:=by rw [u6.out];exact v4
    have C:=Qae c6 c7 o;have s9:=j2.out o m2;have t0:=j4.out o m2;rw [s9,t0] at C;obtain⟨k3,d3⟩:=zE (Ci c6 c7 o);rw [d3] at C ⊢;have t7:=fun(V':World) (hV':Ext r V')=>U9.at (Qg p6.out ((a4.out.trans (W.out.trans (e3.out.trans I.out))).trans hV')) m2;obtain⟨q5,u1,k4,R,G,⟨f,v,s5,F,w1⟩,w6⟩:=t7 r (Q0.refl _ r);replace R:=R zd;obtain⟨R,v2⟩:=R;simp only [zV] at R;obtain⟨rfl,w2,rfl⟩:=R;rw [s5] at G;obtain⟨f4,f3,rfl,n2,w7⟩:=F;obtain⟨i6,i5,rfl,n3,w8⟩:=w1;have g1:=fun(D:World) (hD:Ext r D)=>j0.out D (I.out.trans hD) f4 f3 i6 i5 _ _ (n2.ext hD) (n3.ext hD);have g2:=fun(D:World) (hD:Ext r D)=>j1.out D (I.out.trans hD) f4 f3 i6 i5 _ _ (n2.ext hD) (n3.ext hD);obtain⟨u9,l4⟩:=zE (Gr ps p qs[o].1.1 qs[o].1.2);obtain⟨x3,l5⟩:=zE (Gr ps (Xz p i) qs[o].1.1 qs[o].1.2);rw [l4,l5] at C;simp only [l4] at g1;simp only [l5] at g2;obtain⟨x6,m1⟩:=zE (qs[o].1.1.length);obtain⟨z5,n0⟩:=zE (qs[o].1.2.length);simp only [m1,n0] at g1 g2;rw [m1,n0] at G;obtain⟨f0,i8,e1⟩:=Zh3 C g1 g2;have t8:=fun(D:World) (hD:Ext r D)=>Kr hD G id;have d1:=Zh t8;clear C g1 g2 G t8 l4 l5 m1 n0 w2 s5 n2 n3 w6 w7 w8 v2 s9 t0 d3 t7 j0 j1 j2 j4 j3 j6 e8 e5 e9 e7 k2;cases k3 with
    | true=>
     have y:=f0.out;rw [Bool.true_or] at y;have a8:=Zh y;clear y f0 i8 e1 d1;go_wp2;exact⟨⟨o+1,by omega,tz,⟨rfl,rfl,rfl,rfl,rfl,rfl,rfl,by rw [a8.out];rfl,rfl⟩,I.out⟩,mz⟩
    | false=>
     have y:=f0.out;rw [Bool.false_or] at y;have a8:=Zh y;clear y f0;have G:=d1.out r (Q0.refl _ r)
     go_wp2_with (refine Y5 (by rfl) 105 (.tmp 63) rfl q5 (u1+o*2) zr _ _ G Tryz.underlying105 rfl kz ?_)
     clear G;refine(i8.out r (Q0.refl _ r)).mono ?_;rintro e q1 ⟨rfl,r0⟩;have c9:=Zh r0;clear r0 i8;cases u9 with
     | false=>
      have y:=a8.out;rw [Bool.false_and] at y;have j8:=Zh y;clear y a8 e1 d1;go_wp2;exact⟨⟨o+1,by omega,tz,⟨rfl,rfl,rfl,rfl,rfl,rfl,rfl,by rw [j8.out];rfl,rfl⟩,I.out.trans c9.out⟩,mz⟩
     | true=>
      have y:=a8.out;rw [Bool.true_and] at y;have j8:=Zh y;have G:=d1.out q1 c9.out;clear y a8 d1
      go_wp2_with (refine Y5 (by rfl) 105 (.tmp 71) rfl q5 (u1+o*2) zr _ _ G Tryz.underlying105 rfl kz ?_)
      clear G;refine(e1.out q1 c9.out).mono ?_;rintro e x0 ⟨rfl,r1⟩;have u2:=Zh (c9.out.trans r1);clear r1 e1 c9;go_wp2;exact⟨⟨o+1,by omega,tz,⟨rfl,rfl,rfl,rfl,rfl,rfl,rfl,by rw [j8.out];rfl,rfl⟩,I.out.trans u2.out⟩,mz⟩
   obtain rfl:o=m:=by omega
   have v3:¬ (o:Int)<(o:Int):=by omega
   rw [Qd9 j3.out,<-j6.out];have C:=e9.out;have q6:=Q7 e7.out (e3.out.trans I.out);obtain⟨k3,d3⟩:=zE (b0 i);rw [d3] at C ⊢;obtain⟨f1,i7,i9⟩:=Zh3 C q6 (W.out.trans (e3.out.trans I.out));clear C q6 d3 j0 j1 j2 j4 j3 j6 e9 e7 e3 I k2;cases k3 with
   | false=>
    go_wp2;exact⟨⟨i+1,ao,c,by omega,tz,⟨rfl,rfl,rfl,rfl,by dsimp only;rw [f1.out];simp [a7.out],rfl⟩,by dsimp only;rw [f1.out];simpa [a7.out] using i7.out,i9.out⟩,mz⟩
   | true=>
    have y0:a3<=r.heap.size:=by have:=i9.out.size;have:=o3.out;omega
    go_wp2_with (at_builtin;refine Qk rfl (.tmp 78) (.tmp 80) 48 rfl a3 3 _ 1 8 Tryz.underlying48 Tryz.infoI rfl zd _ _ _ rfl (Q7 i7.out ((Q0.refl _ r).alloc _)) ⟨r.heap.size,0,none⟩ 1 1 [.int .i64 (i:Int)] rfl rfl (Qq rfl) ?c2 ?c3 ?c4 ?c5 ?_)
    case c2=>first | rfl | (intro f F;simp at F;subst F;rfl)
    case c3=>unfold maxLen;omega
    case c4=>omega
    case c5=>first | omega | (simp;omega)
    intro q2 k4 o0 r6 s1 v1;have s2:Q0 (fun b=>(Value.slice ao i2 c).ownBlock=some b) r o0:=Q0.trans (Q0.alloc (Q0.refl _ r) _) s1;have r2:Ext n9 o0:=i9.out.after s2 (fun b hb e=>by have:=(i7.out.lt _ e).1;have:=o3.out;omega);have b4:o0.ownsRow a3 3 1 (.slice q2 (i2+1) k4) (i2+1) (Qc (u0++[i])):=by rw [Yu];exact r6
    have c8:=Zh b4;have u3:=Zh r2;clear b4 r2 s2 s1 v1 r6;go_wp2;exact⟨⟨i+1,q2,k4,by omega,tz,⟨rfl,rfl,rfl,rfl,by dsimp only;rw [f1.out];simp [a7.out],rfl⟩,by dsimp only;rw [f1.out];simp only [if_true,List.length_append,a7.out,List.length_singleton];exact c8.out,u3.out⟩,mz⟩
end Go.Proofs.YtfdlhlghcbeblaaGreatDoor
