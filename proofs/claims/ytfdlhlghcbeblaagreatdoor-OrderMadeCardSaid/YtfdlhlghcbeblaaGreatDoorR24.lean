/- PLAIN: -/
import Derived.Test.YtfdlhlghcbeblaaGreatDoorR23
set_option maxRecDepth 100000
set_option maxHeartbeats 16000000
namespace Go.Proofs.YtfdlhlghcbeblaaGreatDoor
open Go.RowKit Go.Ab
def Qdf(xs:List Int)(n k:Nat):Prop:=(∀ x∈xs.take k,0<=x/\x<(n:Int))/\(xs.take k).Nodup
def Qdh(xs:List Int)(n k:Nat):List Value:=(List.range n).map fun(i:Nat)=>.bool (decide ((i:Int)∈xs.take k))
attribute [local go_sem] Oper.semAt_some Zk Qx
theorem Q4c{a:Func}{t u v:Tmp}(h:a.results=#[.tmp t,.tmp u,.tmp v])(tmps:Array Value)(P:Program)(w:World) :
  (results a tmps).run P w=.ok (.tuple #[tmps.getD t undef,tmps.getD u undef,tmps.getD v undef]) w:=by
 simp [results,h,go_sem]
def Y3(xs:List Int):List Nat:=xs.map Int.toNat
theorem Vr{xs:List Int}{n:Nat}(h:U8 xs n=true):Qq (Y3 xs)=Zw xs/\(∀ x∈Y3 xs,x<n)/\(Y3 xs).Perm (List.range n)/\xs=(Y3 xs).map fun(i:Nat)=>(i:Int):=by
 unfold U8 at h;rw [decide_eq_true_eq] at h
 have e:∀ x∈xs,∃ i:Nat,i<n/\(i:Int)=x:=fun x a=>by
  obtain⟨i,c,b⟩:=List.mem_map.1 (h.mem_iff.1 a);exact⟨i,List.mem_range.1 c,b⟩
 have d:∀ x∈xs,((x.toNat:Nat):Int)=x:=fun x a=>by obtain⟨i,_,rfl⟩:=e x a;simp
 refine⟨?_,fun x a=>?_,?_,?_⟩
 ·unfold Qq Y3 Zw;rw [List.map_map];apply List.map_congr_left;intro x a;show Value.int .i64 ((x.toNat:Nat):Int)=_;rw [d x a]
 ·obtain⟨g,f,rfl⟩:=List.mem_map.1 a;obtain⟨i,c,rfl⟩:=e g f
  simpa using c
 ·have:=h.map Int.toNat;rw [List.map_map] at this;have b:(List.range n).map (Int.toNat ∘ fun(i:Nat)=>(i:Int))=List.range n:=by
   conv=>rhs;rw [<-List.map_id (List.range n)]
   apply List.map_congr_left;intro i _;simp
  rw [b] at this;exact this
 ·unfold Y3;rw [List.map_map];conv=>lhs;rw [<-List.map_id xs]
  apply List.map_congr_left;intro x a;exact(d x a).symm
def Hu(LD:List Qe)(xs:List Int)(qs:Qi):Int:=Ku (Yg LD (Y3 xs) qs) false
def Hs(LD:List Qe)(xs:List Int)(qs:Qi):Int:=if Ya LD xs (qs.map (·.1))=0 then max (Hu LD xs qs) 0 else 0
def Gs(LD:List Qe)(xs:List Int)(qs:Qi):Bool:=if Ya LD xs (qs.map (·.1))=0 then decide (0<=Hu LD xs qs) else false
theorem Vn{LD:List Qe}{xs:List Int}{a:List (Wd × Wd)} (h:Ya LD xs a=0):Z6 LD a=0/\U8 xs LD.length=true:=by
 unfold Ya at h
 split at h
 ·split at h
  ·exact⟨by assumption,by assumption⟩
  ·cases h
 ·rename_i b;exact absurd h b
theorem Q9w(l:List Bool)(b:Bool):-1<=Ku l b/\Ku l b<9223372036854775807\/9223372036854775807<=l.length:=by
 by_cases c:9223372036854775807<=l.length
 ·exact .inr c
 ·refine .inl ?_;unfold Ku
  split
  ·rename_i d a
   have:=(List.findIdx?_eq_some_iff_getElem.1 a).1;omega
  ·omega
theorem Nw{w:World}{ps:Qs}{qs:Qi}{lo:Option Addr}{n lc:Nat}{oo:Option Addr}{r oc:Nat}{xs:List Int}{S:Option Addr}{m R:Nat}(z:Za w (.slice lo n lc) ps) (o:ps.length=n) (B:Rd w (.slice oo r oc) r 1 (Zw xs)) (C:xs.length=r) (D:Zg w (.slice S m R) qs) (d:qs.length=m) (y:Tab w) :
  Calls Tryz.prog 27 #[.slice lo n lc,.slice oo r oc,.slice S m R] w fun e w'=>e=.returned (.tuple #[.int .i64 (Hs (ps.map (·.1)) xs qs),.bool (Gs (ps.map (·.1)) xs qs),.int .i64 (Ya (ps.map (·.1)) xs (qs.map (·.1)))])/\Ext w w':=by
 have E:=fun(V:World) (hE:Ext w V)=>Cz (z.ext hE) o (B.ext hE) C (Z3 D hE) d (y.keep hE id)
 have c:=fun(a:Ya (ps.map (·.1)) xs (qs.map (·.1))=0) (V:World) (hE:Ext w V)=>Q4s (ol:=Y3 xs) (z.ext hE) o (by
  have p:=Vn a;rw [(Vr p.2).1];exact B.ext hE) (by unfold Y3;rw [List.length_map,C]) (by
  have p:=Vn a;rw [List.length_map,o] at p;exact(Vr p.2).2.1) (Z3 D hE) d (by have:=(Jh (Vn a).1).2.2.1;rw [List.length_map,d] at this;omega) (y.keep hE id)
 have A:Ya (ps.map (·.1)) xs (qs.map (·.1))=0->m<=32:=fun a=>by have:=(Jh (Vn a).1).2.2.1;rw [List.length_map,d] at this;omega
 obtain⟨W,i⟩:=zE (Hs (ps.map (·.1)) xs qs);obtain⟨X,j⟩:=zE (Gs (ps.map (·.1)) xs qs);rw [i,j];unfold Hs Hu at i;unfold Gs Hu at j;obtain⟨F,b⟩:=zE (Ya (ps.map (·.1)) xs (qs.map (·.1)));obtain⟨t,l⟩:=zE (Yg (ps.map (·.1)) (Y3 xs) qs);have N:t.length=m:=by rw [<-l];unfold Yg;rw [List.length_map,d]
 rw [b,l] at i j;rw [b];rw [b] at c A;simp only [b] at E;simp only [l] at c;obtain⟨L,H,K,I,u,v⟩:=Zh6 E c A N i j;clear i j E c b l N A z o B C D d y;go_enter Tryz.func27,Tryz.ntmps27;go_wp2_with fail;refine(L.out _ (Qa.refl _ _)).mono ?_;rintro e U ⟨rfl,M⟩;have k:=Zh M;clear M L;by_cases b:F=0;case neg=>
  have a2:(F != 0)=true:=by simpa using b
  have f:=u.out;have g:=v.out;rw [if_neg b] at f g;subst f g;go_wp2;exact bodyPost_ret (Q4c rfl _ _ _) rfl ⟨rfl,k.out⟩
 subst b;have a1:=K.out uz;have c:=H.out uz U k.out;have G:=Zh c;clear c H K;go_wp2_with fail;refine G.out.mono ?_;rintro e a4 ⟨a0,Z,rfl,⟨Y,_,P⟩,O⟩;have Q:=Q2a false (Rd.of_own P) I.out;have J:=Zh Q;have T:=Zh (k.out.trans O);clear Q P O G k;go_wp2_with fail;refine J.out.mono ?_;rintro e a5 ⟨rfl,rfl⟩;obtain⟨s,q⟩:=zE (Ku t false);have a3:-1<=s/\s<9223372036854775807:=by
  rcases Q9w t false with a | a
  ·rw [q] at a;exact a
  ·rw [I.out] at a;omega
 have f:=u.out;have g:=v.out;rw [if_pos uz,q] at f g;subst f g;rw [q];clear q J u v;go_wp2;exact bodyPost_ret (Q4c rfl _ _ _) rfl ⟨rfl,T.out⟩
def Q3f(ps:Qs)(xs:List Int)(qs:Qi):Int:=if Ya (ps.map (·.1)) xs (qs.map (·.1))=0 then(if Ub ps (Y3 xs) qs=qs.length then 0 else(Ub ps (Y3 xs) qs:Nat)) else 0
def Q2h(ps:Qs)(xs:List Int)(qs:Qi):Bool:=if Ya (ps.map (·.1)) xs (qs.map (·.1))=0 then decide (Ub ps (Y3 xs) qs≠qs.length) else false
def Do(l:List Bool):Nat:=l.countP id
def Wa(LD:List Qe)(qs:Qi)(x:List Nat):Nat:=Do (Yg LD x qs)
def Yk(LD:List Qe)(qs:Qi)(s:List Nat × Int)(x:List Nat):List Nat × Int:=if s.2<(Wa LD qs x:Int) then(x,(Wa LD qs x:Int)) else s
def Yc(LD:List Qe)(qs:Qi)(l:List (List Nat)):List Nat × Int:=l.foldl (Yk LD qs) ([],-1)
theorem Pn(LD:List Qe)(qs:Qi)(l:List (List Nat)) (x:List Nat):Yc LD qs (l++[x])=Yk LD qs (Yc LD qs l) x:=by
 unfold Yc;rw [List.foldl_append];rfl
def Fk(LD:List Qe)(qs:Qi):List Nat:=if Z6 LD (qs.map (·.1))=0 then(Yc LD qs (Y5 LD.length (List.range LD.length))).1 else []
def Mj(LD:List Qe)(qs:Qi):Int:=if Z6 LD (qs.map (·.1))=0 then(Yc LD qs (Y5 LD.length (List.range LD.length))).2 else 0
theorem Q6g{l:List Bool}{k:Nat}(a:k<l.length):Do (l.take (k+1))=Do (l.take k)+if l[k]=true then 1 else 0:=by
 unfold Do;rw [List.take_succ_eq_append_getElem a,List.countP_append];cases l[k] <;> simp
theorem Q15(l:List Bool):Do l<=l.length:=List.countP_le_length
theorem Te(LD:List Qe)(qs:Qi)(l:List (List Nat)):-1<=(Yc LD qs l).2/\(Yc LD qs l).2<=qs.length:=by
 have c:∀(l:List (List Nat)) (a:List Nat × Int),-1<=a.2/\a.2<=qs.length->-1<=(l.foldl (Yk LD qs) a).2/\(l.foldl (Yk LD qs) a).2<=qs.length:=by
  intro l
  induction l with
  | nil=>intro a b;exact b
  | cons x l ih=>
   intro a b;refine ih _ ?_;unfold Yk
   split
   ·have:=Q15 (Yg LD x qs);unfold Yg at this;rw [List.length_map] at this;show -1<=((Wa LD qs x:Nat):Int)/\((Wa LD qs x:Nat):Int)<=qs.length;unfold Wa Yg;omega
   ·exact b
 exact c l ([],-1) ⟨Int.le_refl _,by show (-1:Int)<=_;omega⟩
def Dm(BB BM BP base:Nat)(LD:List Qe)(qs:Qi)(pv:Value)(w:World)(O:Nat->Prop)(pre:List (List Nat)) (V:World):Prop:=
 ∃ ao c,V.heap[BB]?=some (.cells #[.slice ao (Yc LD qs pre).1.length c] 48 (0,0))/\V.heap[BM]?=some (.cells #[.int .i64 (Yc LD qs pre).2] 3 (0,0))/\V.heap[BP]?=some (.cells #[pv] 61 (0,0)) /\
  V.ownsRow base 3 1 (.slice ao (Yc LD qs pre).1.length c) (Yc LD qs pre).1.length (Qq (Yc LD qs pre).1)/\(∀ g,(Value.slice ao (Yc LD qs pre).1.length c).ownBlock=some g->¬ O g)/\Ext w V
theorem Dm.step{c BM d base D:Nat}{LD:List Qe}{qs:Qi}{l:Value}{w A B:World}{O O':Nat->Prop}{k:List (List Nat)} (h:Dm c BM d base LD qs l w O k A) (v:w.heap.size<=D) (u:c<D/\BM<D/\d<D) (i:base=D+2) (s:∀ b,O b->D+2<=b/\b<A.heap.size) (j:Qa (fun b=>O b\/b=D+1) A B)
  (t:∀ b,O' b->(O b\/A.heap.size<=b)/\b<B.heap.size):Dm c BM d base LD qs l w O' k B:=by
 subst i;obtain⟨m,n,o,p,q,e,f,r⟩:=h;have a:Qa (fun b=>D+1<=b) A B:=j.mono fun b _ h=>h.elim (fun h=>by have:=(s b h).1;omega) (fun h=>by omega);refine⟨m,n,a.heap o oz,a.heap p oz,a.heap q oz,Qn e j (fun g hg h=>?_),fun g hg h=>?_,r.after a fun b i h=>by omega⟩
 ·have:=(e.lt g hg).1;rcases h with h | h
  ·exact f g hg h
  ·omega
 ·rcases(t g h).1 with h | h
  ·exact f g hg h
  ·have:=(e.lt g hg).2;omega
theorem Q7n{w:World}{ps:Qs}{qs:Qi}{lo:Option Addr}{n lc:Nat}{V:Option Addr}{m U:Nat}(g4:Za w (.slice lo n lc) ps) (S:ps.length=n) (c9:Zg w (.slice V m U) qs) (a6:qs.length=m) (f6:Tab w) :
  Calls Tryz.prog 43 #[.slice lo n lc,.slice V m U] w fun e w'=>∃ ao c,e=.returned (.tuple #[.slice ao (Fk (ps.map (·.1)) qs).length c,.int .i64 (Mj (ps.map (·.1)) qs),.int .i64 (Z6 (ps.map (·.1)) (qs.map (·.1)))])/\Rd w' (.slice ao (Fk (ps.map (·.1)) qs).length c) (Fk (ps.map (·.1)) qs).length 1 (Qq (Fk (ps.map (·.1)) qs))/\Ext w w':=by
 have c7:=fun(j:World) (x:Ext w j)=>Kj (g4.ext x) S (Z3 c9 x) a6 (f6.keep x id);obtain⟨l,c3⟩:=zE (ps.map (·.1));have f4:l.length=n:=by rw [<-c3,List.length_map,S]
 have a7:Z6 l (qs.map (·.1))=0->n<=6/\m<=1000:=fun a=>by have:=Jh a;rw [f4,List.length_map,a6] at this;omega
 have O:=fun(a:Z6 l (qs.map (·.1))=0) (j:World) (B1 B2:Nat) (x:Ext w j) (B:j.heap[B1]?=_) (A:j.heap[B2]?=_)=>Nk x g4 S (a7 a).1 c9 a6 (a7 a).2 f6 B A;have g2:=fun(a:Z6 l (qs.map (·.1))=0) (j:World) (x:Ext w j) (d5:Option Addr) (d4:Nat) (d3:List (Option Wd × List Value)) (B:Yl j (.slice d5 m d4) d3) (A:d3.length=m)=>Hh B A (Z3 c9 x) a6 (a7 a).2;have g9:Z6 l (qs.map (·.1))=0->∀ d∈Y5 n (List.range n),d.length<=6:=fun a d r=>by rw [Xq] at r;rw [(Ju n d r).1];exact(a7 a).1
 rw [c3];simp only [c3] at c7 O;obtain⟨o1,a5⟩:=zE (Fk l qs);obtain⟨m4,a0⟩:=zE (Mj l qs);rw [a5,a0];unfold Fk at a5;unfold Mj at a0;rw [f4] at a5 a0;obtain⟨k0,f3⟩:=zE (Y5 n (List.range n));obtain⟨b6,H⟩:=zE (Z6 l (qs.map (·.1)));rw [f3,H] at a5 a0 g9;have g8:=fun(a:b6=0)=>(a7 (by rw [H];exact a)).2;rw [H] at O g2 ⊢;simp only [f3] at O;simp only [H] at c7;obtain⟨j2,j5,j4,e7,e1,j9,e5,j8⟩:=Zh8 c7 O g2 a5 a0 g9 a6 g8;clear c7 O g2 a5 a0 g9 f3 H a7 c3 f4 g4 S c9 a6 f6 g8;refine Z8 Tryz.func43 rfl ?_;simp only [Tryz.ntmps43,zS,Nat.reduceAdd,Nat.reduceSub];go_upto_region 1 with (fail)
 obtain⟨C,c4⟩:=zE w.heap.size;obtain⟨m2,d2⟩:=zE (w.alloc (.cells #[.slice V m U] 61));have b2:Ext w m2:=by rw [<-d2];exact(Qa.refl _ w).alloc _
 have f1:m2.heap[C]?=some (.cells #[.slice V m U] 61 (0,0)):=by rw [<-d2];exact Qc c4.symm
 rw [c4,d2];obtain⟨o,i5,a9⟩:=Zh3 b2 f1 c4;have e9:=cell_of_one f1;clear b2 f1 d2 c4;go_wp2_with fail;refine(j2.out _ o.out).mono ?_;rintro e d6 ⟨rfl,a2⟩;have d9:=Zh (a2.keep i5.out);have e2:=Zh (o.out.trans a2);clear a2 o i5 j2 e9;by_cases H:b6=0;case neg=>
  have q9:(b6 != 0)=true:=by simpa using H
  have r:=e7.out;have p:=e1.out;rw [if_neg H] at r p;subst r p;go_wp2;refine Zy (v:=.tuple #[.slice none 0 0,.int .i64 0,.int .i64 b6]) (base:=C) _ _ trivial fun w' ht' l8=>⟨Q9e rfl rfl rfl rfl,none,0,rfl,Rd.of_own (e:=3) (World.ownsRow_nil _ 0 _ _),Qa.after e2.out ht' (fun b p a=>by have:=a.1;have:=a9.out;omega)⟩
 subst H;have r:=e7.out;have p:=e1.out;rw [if_pos uz] at r p;obtain⟨n9,m9,o0,n2⟩:=Zh4 r p (j9.out uz) (j4.out uz);have q8:=j8.out uz;clear r p e7 e1 j9 j4 j8;go_upto_region 6 with (fail)
 obtain⟨d7,b4⟩:=zE ((d6.alloc (.cells #[.slice none 0 0] 48)).alloc (.cells #[.int .i64 (-1)] 3));have f5:Ext d6 d7:=by rw [<-b4];exact((Qa.refl _ d6).alloc _).alloc _
 obtain⟨g,c2⟩:=zE d6.heap.size;have k4:d7.heap[g]?=some (.cells #[.slice none 0 0] 48 (0,0)):=by rw [<-b4];exact Qh (Qc c2.symm)
 have k5:d7.heap[g+1]?=some (.cells #[.int .i64 (-1)] 3 (0,0)):=by rw [<-b4];exact Qc (by simp;omega)
 have q3:C<g:=by rw [<-c2];exact(Array.getElem?_eq_some_iff.1 d9.out).1
 rw [c2,b4];have f2:=f5.keep d9.out;obtain⟨i7,i8,e0,e3⟩:=Zh4 f2 k4 k5 (e2.out.trans f5);have e9:=cell_of_one f2;clear b4 c2 f5 k4 k5 f2 d9 e2;go_wp2_with fail;refine(Rn _ _ _ _ _ _ _).mono ?_;rintro e J ⟨rfl,f9,g0,a1,g7⟩;obtain⟨E,f7⟩:=zE d7.heap.size;rw [f7] at f9 g0 g7 ⊢;have O:=j5.out uz J E (E+1) (e3.out.trans a1) f9 g0;have q4:g+1<E:=by rw [<-f7];exact(Array.getElem?_eq_some_iff.1 e0.out).1
 obtain⟨n1,b0,n3,m5,m6,m7⟩:=Zh6 (e3.out.trans a1) g7 O (a1.keep i7.out) (a1.keep i8.out) (a1.keep e0.out);clear a1 g7 O f9 g0 f7 j5 i7 i8 e0 e3 e9;go_wp2
 refine Jb (xs:=k0) (K:=fun b=>b<w.heap.size\/b=E\/b=E+1) rfl (fun args w=>by simp [go_sem]) n3.out (fun b a=>by have:=b0.out;have:=a9.out;rcases a with a | a | a <;> omega) (fun _ _ d m3 W a=>by obtain⟨_,_,_,_,rfl,_⟩:=a;rfl) ?hEs
  (Dm g (g+1) C (J.heap.size+2) l qs (.slice V m U) w) (fun c X F j=>False) ?hI ?hIx ?h0 (fun W t=>(((t.setIfInBounds 24 (W.getD 0 undef)).setIfInBounds 25 (W.getD 1 undef)).setIfInBounds 10 (W.getD 0 undef)).setIfInBounds 11 (W.getD 1 undef)) ?assign ?body ?done ?stop
 case hEs=>exact fun _ _ _ _ _ _ a T d0=>Ra a T d0
 case hI=>
  rintro X p6 F m3 i3 a a3 T o6;exact a.step (D:=J.heap.size) (by rw [b0.out];have:=a9.out;omega) (by rw [b0.out];omega) rfl a3 (T.mono fun b _ a=>a.imp (fun a=>a.1) id) o6
 case hIx=>exact fun _ _ _ _ _ _ a _ _ _=>a
 case h0=>
  intro j c6 l8;exact⟨none,0,c6.keep m6.out,c6.keep m7.out,c6.keep m5.out,World.ownsRow_nil _ _ _ _,(fun Q N=>by cases N),Qa.trans n1.out c6⟩
 case assign=>
  rintro _ _ d W j p5 ⟨m1,m0,d5,d4,rfl,_⟩ o5;gi_wp2;exact o5
 case stop=>exact fun _ _ _ _ _ _ _ a=>a.elim
 case done=>
  rintro X j ⟨ao,c,B,A,b1,M,s,x⟩ a3 T k6;have r:=n9.out;have p:=m9.out;rw [r] at B M s;rw [p] at A;obtain⟨b7,b8,n0⟩:=Zh3 M x k6;have k3:=cell_of_one B;have o3:=cell_of_one A;obtain⟨p2,g5⟩:=zE o1.length;have n5:=Zh g5;rw [g5] at k3;clear B A b1 M s x k6 a3 T g5 r p;go_wp2
  go_quiet (fail)
  go_wp2;have p1:=b0.out;have c8:Ext j (j.drewN nq):=(Qa.refl _ j).drewN nq;refine Zy (v:=.tuple #[.slice ao p2 c,.int .i64 m4,.int .i64 0]) (base:=C) _ _ (Qz.cons (base:=C) trivial oz (c8.keep n0.out) (fun e he=>by cases he)) fun w' ht' l8=>⟨Q9e rfl rfl rfl rfl,ao,c,by rw [n5.out],Rd.of_own (Qn (Qo b7.out c8) ht' (fun Q N e=>by obtain⟨q0,I⟩:=Zb (Qo b7.out c8) N;exact Go.Ab.Shut.not I rfl e)),Qa.after (b8.out.trans c8) ht' (fun b p a=>by have:=a.1;have:=a9.out;omega)⟩
 case body=>
  rintro X F d r3 W j r g8 a3 T ⟨ao,c,B,A,b1,M,s,x⟩ ⟨m1,m0,d5,d4,rfl,d0,d3,l6,l5,l4⟩;simp only [pq];have I:=n2.out j x d5 d4 d3 l6 l5;rw [Pg e5.out (by rw [l4,List.map_map];rfl)] at I;have y:=Pn l qs F d;unfold Yk Wa at y;obtain⟨G,g1⟩:=zE (Yg l d qs);rw [g1] at I y;have k8:G.length=m:=by rw [<-g1];unfold Yg;rw [List.length_map,e5.out]
  have g6:=Te l qs F;rw [e5.out] at g6;have l9:d∈k0:=by rw [r];simp
  have p0:=o0.out d l9;have o7:∀ q,Yc l qs F=q->q=((Yc l qs F).1,(Yc l qs F).2):=fun q a=>by rw [<-a]
  obtain⟨⟨p9,o2⟩,f8⟩:=zE (Yc l qs F);rw [f8] at B A M s g6 y;dsimp only at B A M s g6 y;have o4:=cell_of_one b1;have f0:=cell_of_one A;obtain⟨a8,i0⟩:=zE d.length;have b9:=Zh i0;rw [i0] at p0 ⊢;obtain⟨j6,i4,d8,i6,b7,m8,b8,n6⟩:=Zh8 a3 B A b1 M s x d0;obtain⟨j0,i9,n8,p3⟩:=Zh4 I k8 y f8;have p1:E+2<=J.heap.size:=Nat.le_of_eq b0.out.symm;clear r a3 B A b1 M s x d0 I k8 y f8 o7 l6 l5 l4 T g1 l9 i0;refine wpIn_block ?_;gi_wp2;refine callsIn_wide.2 (j0.out.mono ?_);rintro e e8 ⟨p8,p7,rfl,k7,b2⟩;obtain⟨n7,o,j1⟩:=Zh3 (Rd.of_own k7) b2 (show Do (G.take 0)=0 from rfl);clear k7 b2 o4 f0 j0;gi_wp2
  gi_loop [12,30] (fun cn i=>∃ f:Nat,f<=m/\i=.int .i64 f/\cn=.int .i64 (Do (G.take f):Nat)) (fun _ i=>m - (intOf i).toNat)
  case atStart=>exact⟨0,by omega,rfl,by rw [j1.out];rfl⟩
  case round=>
   obtain⟨f,q6,rfl,rfl⟩:=hrel;obtain⟨L,R⟩:=zE (Do (G.take f));have q5:L<=1000:=by
    have:=Q15 (G.take f);rw [List.length_take] at this;omega
   rw [R];by_cases l3:f<m
   ·have o9:(f:Int)<(m:Int):=by omega
    have q7:(0:Int)<=(f:Int):=by omega
    have g3:f<G.length:=by rw [i9.out];exact l3
    obtain⟨Q,r2,cap,l7,N,I⟩:=Km n7.out l3;simp only [zV,true_and] at l7;obtain⟨rfl,rfl⟩:=l7;have l0:(G.map Value.bool).getD f undef=.bool G[f]:=by rw [List.getD_eq_getElem?_getD,List.getElem?_map,List.getElem?_eq_getElem g3];rfl
    rw [l0] at I;have d1:=Q6g g3;rw [R] at d1;obtain⟨b,p⟩:=zE (G[f]);rw [p] at I d1;have j7:=Zh d1;have r1:IntKind.i64.wrap ((f:Int)+1)=(f:Int)+1:=IntWalk.i64_in _ oz;have r0:IntKind.i64.wrap ((L:Int)+1)=(L:Int)+1:=IntWalk.i64_in _ oz;clear d1 p l0 g3 R;cases b with
    | false=>
     gi_wp2
     go_round
     case rel=>exact⟨f+1,by omega,by go_num,by rw [j7.out];simp⟩
     case measure=>simp [intOf];omega
    | true=>
     gi_wp2
     go_round
     case rel=>exact⟨f+1,by omega,by go_num,by rw [j7.out];simp⟩
     case measure=>simp [intOf];omega
   ·obtain rfl:f=m:=by omega
    have o9:¬ (f:Int)<(f:Int):=by omega
    rw [List.take_of_length_le (by rw [i9.out];exact Nat.le_refl _)] at R;have p4:=Zh R;have f0:=cell_of_one (o.out.keep d8.out);have y:=n8.out;rw [R] at y;clear R j1;by_cases l1:o2<(L:Int)
    ·rw [if_pos l1] at y;have e6:=Zh y;clear y;have k9:=Fv (w:=e8) (ao:=m1) (n:=a8) (cap:=m0) (xs:=Qq d) (by have:=n6.out.ext o.out;rw [b9.out] at this;exact this) (fun u hu=>by obtain⟨_,_,rfl⟩:=List.mem_map.1 hu;rfl) oz;have j3:=Zh k9;clear k9;gi_wp2;refine callsIn_wide.2 (j3.out.mono ?_);rintro e P ⟨Z,Y,rfl,c5,a2⟩;have a4:Ext j P:=o.out.trans a2;have c0:=a4.keep i4.out;have c1:=a4.keep d8.out;have k2:=a4.keep i6.out;have o8:J.heap.size+2<=e8.heap.size:=by have:=o.out.size;omega
     have i1:=Qa.set1 P g 0 (.slice Z a8 Y);have i2:=Qa.set1 (P.setCell ⟨g,0,none⟩ (.slice Z a8 Y)) (g+1) 0 (.int .i64 (L:Int));have k1:=i1.heap c1 oz;have S:=a9.out;have b5:Qa (fun b=>b=g\/b=g+1) P ((P.setCell ⟨g,0,none⟩ (.slice Z a8 Y)).setCell ⟨g+1,0,none⟩ (.int .i64 (L:Int))):=(i1.mono fun b _ e=>.inl e).trans (i2.mono fun b _ e=>.inr e);have b3:Dm g (g+1) C (J.heap.size+2) l qs (.slice V f U) w X (F++[d]) ((P.setCell ⟨g,0,none⟩ (.slice Z a8 Y)).setCell ⟨g+1,0,none⟩ (.int .i64 (L:Int))):=by
      have e:=e6.out;refine⟨Z,Y,?_,?_,b5.heap k2 oz,?_,?_,Qa.after (b8.out.trans a4) b5 (fun b p a=>by omega)⟩
      ·rw [e];dsimp only;rw [b9.out];exact i2.heap (Jn c0) oz
      ·rw [e];exact Jn k1
      ·rw [e];dsimp only;rw [b9.out];exact Qn (Xh c5 o8) b5 (fun Q N e=>by have:=(c5.lt Q N).1;omega)
      ·rw [e];dsimp only;rw [b9.out];intro Q N a;have:=(c5.lt Q N).1;have:=(j6.out Q a).2;have:=o.out.size;omega
     have l2:Qa (fun b=>¬ ((b<w.heap.size\/b=E\/b=E+1)\/X b\/b=J.heap.size\/b=J.heap.size+1)) j ((P.setCell ⟨g,0,none⟩ (.slice Z a8 Y)).setCell ⟨g+1,0,none⟩ (.int .i64 (L:Int))):=a4.of.trans (b5.mono fun b _ a S=>by
      rcases S with (s | s | s) | s | s | s
      ·omega
      ·omega
      ·omega
      ·have:=(j6.out b s).1;omega
      ·omega
      ·omega)
     have e4:=Zh b3;have n4:=Zh l2;have k3:=cell_of_one c0;have q1:=free_of_one c0;have o3:=cell_of_one c1;have q2:=free_of_one c1;clear b3 l2 i1 i2 b5 k1 c0 c1 k2 a4 c5 a2 f0 j3;gi_wp2;exact⟨n4.out,e4.out⟩
    ·rw [if_neg l1] at y;have e6:=Zh y;clear y;have b3:Dm g (g+1) C (J.heap.size+2) l qs (.slice V f U) w X (F++[d]) e8:=by
      have e:=e6.out;refine⟨ao,c,?_,?_,o.out.keep i6.out,?_,?_,b8.out.trans o.out⟩
      ·rw [e];exact o.out.keep i4.out
      ·rw [e];exact o.out.keep d8.out
      ·rw [e];exact Qo b7.out o.out
      ·rw [e];exact m8.out
     have e4:=Zh b3;clear b3;gi_wp2;exact⟨o.out.of,e4.out⟩
def V0(l:List Nat)(i:Nat):List Nat:=(l.set i (l.getD (i+1) 0)).set (i+1) (l.getD i 0)
def exB(F G:List Bool):Bool:=(List.range F.length).any fun k=>F.getD k false && !G.getD k false
def Gr(LD:List Qe)(qs:Qi)(l:List Nat)(i:Nat):Bool:=exB (Yg LD l qs) (Yg LD (V0 l i) qs)
def Wm(LD:List Qe)(xs:List Int)(qs:Qi):List Nat:=if Ya LD xs (qs.map (·.1))=0 then(List.range (xs.length - 1)).filter (Gr LD qs (Y3 xs)) else []
theorem Bg(l:List Nat)(i:Nat):(V0 l i).length=l.length:=by unfold V0;simp
theorem Q5b{l:List Nat}{i n:Nat}(c:i+1<l.length)(h:∀ x∈l,x<n):∀ x∈V0 l i,x<n:=by
 intro x a;unfold V0 at a;have b:∀ j,j<l.length->l.getD j 0<n:=fun j hj=>by rw [List.getD_eq_getElem?_getD,List.getElem?_eq_getElem hj];exact h _ (List.getElem_mem hj)
 rcases List.mem_or_eq_of_mem_set a with a | rfl
 ·rcases List.mem_or_eq_of_mem_set a with a | rfl
  ·exact h x a
  ·exact b _ oz
 ·exact b _ oz
theorem Q47(l:List Nat)(i:Nat):((Qq l).set i (.int .i64 (l.getD (i+1) 0:Nat))).set (i+1) (.int .i64 (l.getD i 0:Nat))=Qq (V0 l i):=by
 unfold Qq V0;rw [List.map_set,List.map_set]
def Q3b(F G:List Bool)(k:Nat):Prop:=∀ j,j<k->(F.getD j false && !G.getD j false)=false
theorem Q42{F G:List Bool}{k:Nat}(h:Q3b F G k)(h1:(F.getD k false && !G.getD k false)=false):Q3b F G (k+1):=fun j hj=>by
 by_cases e:j=k
 ·subst e;exact h1
 ·exact h j oz
theorem Q6s{F G:List Bool}{k:Nat}(c:F.length<=k)(h:Q3b F G k):exB F G=false:=by
 unfold exB;rw [List.any_eq_false];intro b a;rw [h b (by have:=List.mem_range.1 a;omega)];decide
theorem Qav{F G:List Bool}{k:Nat}(b:k<F.length)(a:(F.getD k false && !G.getD k false)=true):exB F G=true:=by
 unfold exB;rw [List.any_eq_true];exact⟨k,List.mem_range.2 b,a⟩
theorem Mr(q:Nat->Bool)(k:Nat):(List.range (k+1)).filter q=(List.range k).filter q++if q k=true then [k] else []:=by
 rw [List.range_succ,List.filter_append];cases h:q k <;> simp [h]
theorem Cs{w:World}{base:Nat}{e:TypeId}{g n cap j:Nat}{xs:List Value}(h:w.ownsRow base e 1 (.slice (some ⟨g,0,none⟩) n cap) n xs) (_hj:j<n):w.frozen? ⟨g,j,none⟩=false:=by
 obtain⟨b,a⟩:=Zb h rfl;simp [World.frozen?,a]
def Qc2(lo oo po fo:Option Addr)(n lc on oc m pc fc mx B0:Nat)(w2:World)(P:Nat->List Nat)(a:Act)(W:World):Prop:=∃(i:Nat) (ao:Option Addr) (c:Nat),i<=mx/\a.defers=[]/\(a.tmps.size=76/\a.tmps.getD 0 undef=.slice lo n lc/\a.tmps.getD 1 undef=.slice oo on oc/\a.tmps.getD 2 undef=.slice po m pc/\a.tmps.getD 9 undef=.slice fo m fc/\a.tmps.getD 10 undef=.slice ao (P i).length c/\a.tmps.getD 29 undef=.int .i64 mx/\a.tmps.getD 30 undef=.int .i64 i)/\W.ownsRow B0 3 1 (.slice ao (P i).length c) (P i).length (Qq (P i))/\Ext w2 W
theorem Q0z{w:World}{ps:Qs}{qs:Qi}{lo:Option Addr}{n lc:Nat}{oo:Option Addr}{i oc:Nat}{xs:List Int}{e3:Option Addr}{m e2:Nat}(g1:Za w (.slice lo n lc) ps) (d7:ps.length=n) (d8:Rd w (.slice oo i oc) i 1 (Zw xs)) (d9:xs.length=i) (g7:Zg w (.slice e3 m e2) qs) (d5:qs.length=m) (f7:Tab w) :
  Calls Tryz.prog 28 #[.slice lo n lc,.slice oo i oc,.slice e3 m e2] w fun e w'=>∃ ao c,e=.returned (.tuple #[.slice ao (Wm (ps.map (·.1)) xs qs).length c,.int .i64 (Ya (ps.map (·.1)) xs (qs.map (·.1)))])/\Rd w' (.slice ao (Wm (ps.map (·.1)) xs qs).length c) (Wm (ps.map (·.1)) xs qs).length 1 (Qq (Wm (ps.map (·.1)) xs qs))/\Ext w w':=by
 have e0:=fun(V:World) (r:Ext w V)=>Cz (g1.ext r) d7 (d8.ext r) d9 (Z3 g7 r) d5 (f7.keep r id)
 have b2:Ya (ps.map (·.1)) xs (qs.map (·.1))=0->m<=32/\i<=6:=fun h=>by
  have C:=Vn h;have q5:=Jh C.1;have Y:=(Vr C.2).2.2.1.length_eq;unfold Y3 at Y;simp at Y q5;omega
 have d2:=fun(h:Ya (ps.map (·.1)) xs (qs.map (·.1))=0) (V:World) (r:Ext w V) (o:List Nat) (o5:Option Addr) (a1:Nat) (b8:Rd V (.slice o5 i a1) i 1 (Qq o)) (hyl:o.length=i) (b1:∀ x∈o,x<n)=>Q4s (g1.ext r) d7 b8 hyl b1 (Z3 g7 r) d5 (by have:=(b2 h).1;omega) (f7.keep r id)
 have b3:Ya (ps.map (·.1)) xs (qs.map (·.1))=0->Qq (Y3 xs)=Zw xs/\∀ x∈Y3 xs,x<n:=fun h=>by
  have C:=(Vn h).2;rw [List.length_map,d7] at C;exact⟨(Vr C).1,(Vr C).2.1⟩
 obtain⟨t,f4⟩:=zE (ps.map (·.1));rw [f4] at b2 b3 ⊢;simp only [f4] at e0 d2;obtain⟨r4,N⟩:=zE (Wm t xs qs);rw [N];unfold Wm at N;rw [d9] at N;obtain⟨i8,L⟩:=zE (Ya t xs (qs.map (·.1)));rw [L] at b2 b3 d2 N ⊢;simp only [L] at e0;obtain⟨o,g6⟩:=zE (Y3 xs);have O:o.length=i:=by rw [<-g6];unfold Y3;rw [List.length_map,d9]
 rw [g6] at N b3;have a5:∀ l,(Yg t l qs).length=m:=fun l=>by unfold Yg;rw [List.length_map,d5]
 obtain⟨k7,j0,j8,k1,e9,c0,k2,j6⟩:=Zh8 e0 d2 b2 b3 N O d8 a5;have r0:i<=maxLen:=d8.2.1;unfold maxLen at r0;clear e0 d2 b2 b3 N O d8 a5 L g6 f4 g1 d7 d9 g7 d5 f7;go_enter Tryz.func28,Tryz.ntmps28;go_wp2;refine wp_scope_straight ?_;go_wp2_with fail;refine(k7.out _ (Qa.refl _ _)).mono ?_;rintro e r2 ⟨rfl,l5⟩;have a2:=Zh l5;clear l5 k7;by_cases L:i8=0;case neg=>
  have t6:(i8 != 0)=true:=by simpa using L
  have Z:=e9.out;rw [if_neg L] at Z;subst Z;go_wp2;unfold Exit.noGoto;go_ret2;exact⟨none,0,rfl,Rd.of_own (e:=3) (World.ownsRow_nil _ 0 _ _),a2.out⟩
 subst L;obtain⟨t4,t7⟩:=j8.out uz;obtain⟨g2,b1⟩:=k1.out uz;have Z:=e9.out;rw [if_pos uz] at Z;have a7:=j0.out uz;obtain⟨k8,o7,p2,p4⟩:=Zh4 Z a7 b1 g2;have n3:=a7 r2 a2.out o oo oc (by rw [g2];exact k2.out.ext a2.out) c0.out b1;have j5:=Zh n3;clear Z a7 b1 g2 n3 e9 j0 j8 k1;go_wp2_with fail;refine j5.out.mono ?_;rintro e i6 ⟨l2,l1,rfl,⟨r5,a7,f6⟩,l6⟩;obtain⟨q,c8⟩:=zE (Yg t o qs);rw [c8] at f6;have a5:q.length=m:=by rw [<-c8];exact j6.out _
 obtain⟨p6,e5,o9,j7⟩:=Zh4 (Rd.of_own f6) (a2.out.trans l6) c8 a5;clear f6 l6 c8 a5 j5 a2 a7;have o0:max ((i:Int) - 1) 0=((i - 1:Nat):Int):=by omega
 have r1:IntKind.i64.wrap ((i:Int) - 1)=(i:Int) - 1:=IntWalk.i64_in _ oz;obtain⟨P,d6⟩:=zE (i - 1);rw [d6] at o0;have a0:=k8.out;rw [d6] at a0;have q0:=Zh a0;have p3:=Zh d6;have t5:P<=i:=by omega
 clear a0 d6 k8;go_wp2;refine wp_label ?_;go_wp2;clear r1 o0;obtain⟨R,l4⟩:=zE i6.heap.size;have i9:=Zh l4;clear l4
 refine wp_loop (Qc2 lo oo e3 l2 n lc i oc m e2 l1 P R i6 (fun f=>(List.range f).filter (Gr t qs o)))
  (fun a _=>((P:Int) - intOf (a.tmps.getD 30 undef)).toNat) ?_ ?_
 ·exact⟨0,none,0,by omega,rfl,⟨rfl,rfl,rfl,rfl,rfl,rfl,rfl,rfl⟩,World.ownsRow_nil _ _ _ _,Qa.refl _ _⟩
 rintro⟨i3,_⟩ A ⟨f,ao,c,s6,f9,⟨b7,y,z,F,J,B,H,I⟩,f5,r⟩;dsimp only at B f5;subst f9;obtain⟨i5,u⟩:=Zi b7;obtain⟨d,rfl⟩:∃ x,x=i5:=⟨_,rfl⟩;have i0:i3=#[d 0,d 1,d 2,d 3,d 4,d 5,d 6,d 7,d 8,d 9,d 10,d 11,d 12,d 13,d 14,d 15,d 16,d 17,d 18,d 19,d 20,d 21,d 22,d 23,d 24,d 25,d 26,d 27,d 28,d 29,d 30,d 31,d 32,d 33,d 34,d 35,d 36,d 37,d 38,d 39,d 40,d 41,d 42,d 43,d 44,d 45,d 46,d 47,d 48,d 49,d 50,d 51,d 52,d 53,d 54,d 55,d 56,d 57,d 58,d 59,d 60,d 61,d 62,d 63,d 64,d 65,d 66,d 67,d 68,d 69,d 70,d 71,d 72,d 73,d 74,d 75]:=u;clear u;subst i0;change d 0=_ at y;change d 1=_ at z;change d 2=_ at F;change d 9=_ at J;change d 10=_ at B;change d 29=_ at H;change d 30=_ at I;rw [y,z,F,J,B,H,I];clear y z F J B H I b7;have k4:=Zh f5;have E:=Zh r;have s:=Mr (Gr t qs o) f;have n8:((List.range f).filter (Gr t qs o)).length<=f:=Nat.le_trans (List.length_filter_le _ _) zy;obtain⟨o4,b0⟩:=zE ((List.range f).filter (Gr t qs o));rw [b0] at s n8;have p1:=Zh b0;have d0:=k4.out;rw [b0] at d0;rw [b0];obtain⟨e1,O⟩:=zE o4.length;rw [O] at d0 n8;rw [O];obtain⟨e7,k6,W⟩:=Zh3 d0 s O;clear f5 r s b0 O d0 k4;by_cases t0:f<P;case neg=>
  obtain rfl:f=P:=by omega
  have C:¬ (f:Int)<(f:Int):=by omega
  have a0:=q0.out;rw [p1.out] at a0;subst a0;go_wp2;go_ret2;exact⟨ao,c,by rw [W.out];rfl,by rw [W.out];exact Rd.of_own e7.out,e5.out.trans E.out⟩
 have C:(f:Int)<(P:Int):=by omega
 have s1:(0:Int)<=(f:Int):=by omega
 have n7:f+1<i:=by have:=p3.out;omega
 have t8:IntKind.i64.wrap ((f:Int)+1)=(f:Int)+1:=IntWalk.i64_in _ oz;have s8:(f:Int)+1<(i:Int):=by omega
 have s7:(0:Int)<=(f:Int)+1:=by omega
 have s9:(f:Int)<(i:Int):=by omega
 have t1:((f:Int)+1).toNat=f+1:=by omega
 have n0:=Fv (w:=A) (ao:=oo) (n:=i) (cap:=oc) (xs:=Qq o) (by rw [p4.out];exact k2.out.ext (e5.out.trans E.out)) (fun d u=>by obtain⟨_,_,rfl⟩:=List.mem_map.1 u;rfl) oz;have j3:=Zh n0;clear n0;go_upto_region 9 with (fail)
 go_wp2_with fail;refine j3.out.mono ?_;rintro e c1 ⟨o5,a1,rfl,a6,m2⟩;obtain⟨p,rfl⟩:=Ge (n:=i - 1) (cap:=a1) (by rw [show i - 1+1=i by omega];exact a6);obtain⟨e4,i1⟩:=zE (o.getD f 0);obtain⟨Q,i2⟩:=zE (o.getD (f+1) 0)
 have f8:∀ j,j<i->∀ U,Ext c1 U->U.cell? ⟨p,j,none⟩=some (.int .i64 (o.getD j 0:Nat)):=fun j hj U hU=>by
  have:=(Qo a6 hU).cellAt j oz;rw [this];unfold Qq;rw [List.getElem?_map,List.getD_eq_getElem?_getD,List.getElem?_eq_getElem (by rw [c0.out];exact hj)];rfl
 have a8:=f8 f oz;have k:=f8 (f+1) n7;rw [i1] at a8;rw [i2] at k;have s3:A.heap.size<=p:=(a6.lt p rfl).1;obtain⟨j1,j2,k3,k0,p8,p9⟩:=Zh6 a8 k a6 m2 i1 i2;clear f8 a8 k a6 m2 i1 i2 j3;go_upto_region 10 with (fail)
 go_cut [] from 35 to 50 (fun wx=>wx.ownsRow A.heap.size 3 1 (.slice (some ⟨p,0,none⟩) i a1) i (Qq (V0 o f))/\Ext A wx)
 case first=>
  obtain⟨v,d1⟩:=zE c1.drew;have c7:Ext c1 v:=by rw [<-d1];exact(Qa.refl _ c1).drew
  have g3:=Qo k3.out c7;have k:v.cell? ⟨p,f+1,none⟩=some (.int .i64 (Q:Int)):=j2.out v c7;have a8:v.cell? ⟨p,f,none⟩=some (.int .i64 (e4:Int)):=j1.out v c7;refine Z7 (S:=fun D=>D.cell? ⟨p,f+1,none⟩=some (.int .i64 (Q:Int))) [17] kz (by rw [d1];exact k) ?_;intro _;rw [d1];clear d1;refine tE 0 35 k ?_;refine tE 1 36 k ?_;refine tE 2 37 k ?_;refine tE 3 38 k ?_;refine tE 4 39 k ?_;refine tE 5 40 k ?_;refine tE 6 41 k ?_;refine tE 7 42 k ?_;refine tE 8 43 k ?_;refine tE 9 44 k ?_;refine tE 10 45 k ?_;refine tE 11 46 k ?_;refine tE 12 47 k ?_;refine rE [13] ?_;refine Qb.cons rfl (fun K hK=>?_) Qb.nil;refine iw rfl ?_;go_simp;refine hK.out _ _ k (fun _=>?_);clear hK K;try simp only [Act.put,pq]
  refine tE 14 49 k ?_;refine rE [15] ?_;refine Qb.cons rfl (fun K hK=>?_) Qb.nil;refine iw rfl ?_;have y:=Cs g3 (j:=f) oz;go_simp;have q9:(⟨p,f,none⟩:Addr)≠⟨p,f+1,none⟩:=by intro e;simp at e
  have g8:(v.setCell ⟨p,f,none⟩ (.int .i64 (Q:Int))).cell? ⟨p,f+1,none⟩=some (.int .i64 (Q:Int)):=by rw [World.cell?_setCell_other (h:=q9)];exact k
  refine hK.out _ _ g8 (fun _=>?_);clear hK K y a8
  (try change Qt _ _ _ _ _ _ _ _ (Act.put _ none _) _)
  (try simp only [Act.put])
  refine tE 16 50 g8 ?_;refine rE [17] ?_;refine Qb.late rfl rfl (fun K hK=>?_) Qb.nil;refine iw rfl ?_;have g4:=Vs g3 f (.int .i64 (Q:Int));have z:=Cs g4 (j:=f+1) oz;go_simp;refine hK.out _ _ ?_;clear hK K z
  (try change Qt _ _ _ _ _ _ _ _ (Act.put _ none _) _)
  (try simp only [Act.put])
  refine Qv kz ?_ _;have g5:=Vs g4 (f+1) (.int .i64 (e4:Int));have i4:Qa (fun b=>b=p) v ((v.setCell ⟨p,f,none⟩ (.int .i64 (Q:Int))).setCell ⟨p,f+1,none⟩ (.int .i64 (e4:Int))):=(Qa.set1 _ _ _ _).trans (Qa.set1 _ _ _ _);obtain⟨c6,m7⟩:=zE ((v.setCell ⟨p,f,none⟩ (.int .i64 (Q:Int))).setCell ⟨p,f+1,none⟩ (.int .i64 (e4:Int)));rw [m7] at g5 i4 ⊢;have o2:c6.ownsRow A.heap.size 3 1 (.slice (some ⟨p,0,none⟩) i a1) i (Qq (V0 o f)):=by
   have e:=Q47 o f;rw [p8.out,p9.out] at e;rw [<-e];exact g5
  have M:Ext A c6:=(k0.out.trans c7).after i4 (fun b hb e=>by omega);have p5:=Zh o2;have e6:=Zh M;clear m7 g5 i4 o2 M g4 g3 g8 k;go_wp2
  go_meet
  case rel=>exact⟨p5.out,e6.out⟩
 case rest=>
  obtain⟨b8,M⟩:=hcut;generalize wc=c6 at b8 M ⊢;have g9:=o7.out c6 (e5.out.trans (E.out.trans M)) (V0 o f) (some ⟨p,0,none⟩) a1 (Rd.of_own b8) (by rw [Bg,c0.out]) (Q5b (by rw [c0.out];exact n7) p2.out);obtain⟨G,c9⟩:=zE (Yg t (V0 o f) qs);have m1:G.length=m:=by rw [<-c9];exact j6.out _
  rw [c9] at g9;have n9:Gr t qs o f=exB q G:=by unfold Gr;rw [o9.out,c9]
  obtain⟨k5,p0,j9,e6⟩:=Zh4 g9 m1 n9 M;clear b8 M g9 c9 m1 n9 j1 j2 k3 k0;go_wp2_with fail;refine k5.out.mono ?_;rintro e X ⟨q4,q3,rfl,⟨r6,q7,m3⟩,l7⟩;have p7:=Zh (Rd.of_own m3);have T:=Zh (e6.out.trans l7);clear m3 l7 k5 q7;go_wp2
  refine wp_loop (fun a A=>∃(g:Nat),g<=m/\a.defers=[]/\(a.tmps.size=76/\a.tmps.getD 0 undef=.slice lo n lc/\a.tmps.getD 1 undef=.slice oo i oc/\a.tmps.getD 2 undef=.slice e3 m e2/\a.tmps.getD 9 undef=.slice l2 m l1/\a.tmps.getD 10 undef=.slice ao e1 c/\a.tmps.getD 11 undef=.int .i64 f/\a.tmps.getD 29 undef=.int .i64 P/\a.tmps.getD 30 undef=.int .i64 f/\a.tmps.getD 54 undef=.slice q4 m q3/\a.tmps.getD 55 undef=.int .i64 m/\a.tmps.getD 56 undef=.int .i64 g)/\Q3b q G g/\X=A)
   (fun a _=>((m:Int) - intOf (a.tmps.getD 56 undef)).toNat) ?_ ?_
  ·exact⟨0,by omega,rfl,⟨rfl,rfl,rfl,rfl,rfl,rfl,rfl,rfl,rfl,rfl,rfl,rfl⟩,fun j hj=>by omega,by first | trivial | rfl⟩
  rintro⟨i3,_⟩ r3 ⟨g,t2,f9,⟨b7,y,z,F,J,B,f0,H,I,f1,f2,f3⟩,n1,rfl⟩;subst f9;obtain⟨i5,u⟩:=Zi b7;obtain⟨d,rfl⟩:∃ x,x=i5:=⟨_,rfl⟩;have i0:i3=#[d 0,d 1,d 2,d 3,d 4,d 5,d 6,d 7,d 8,d 9,d 10,d 11,d 12,d 13,d 14,d 15,d 16,d 17,d 18,d 19,d 20,d 21,d 22,d 23,d 24,d 25,d 26,d 27,d 28,d 29,d 30,d 31,d 32,d 33,d 34,d 35,d 36,d 37,d 38,d 39,d 40,d 41,d 42,d 43,d 44,d 45,d 46,d 47,d 48,d 49,d 50,d 51,d 52,d 53,d 54,d 55,d 56,d 57,d 58,d 59,d 60,d 61,d 62,d 63,d 64,d 65,d 66,d 67,d 68,d 69,d 70,d 71,d 72,d 73,d 74,d 75]:=u;clear u;subst i0;change d 0=_ at y;change d 1=_ at z;change d 2=_ at F;change d 9=_ at J;change d 10=_ at B;change d 11=_ at f0;change d 29=_ at H;change d 30=_ at I;change d 54=_ at f1;change d 55=_ at f2;change d 56=_ at f3;rw [y,z,F,J,B,f0,H,I,f1,f2,f3];clear y z F J B f0 H I f1 f2 f3 b7;have j4:=Zh n1;clear n1;by_cases d4:g<m;case neg=>
   obtain rfl:g=m:=by omega
   have q8:¬ (g:Int)<(g:Int):=by omega
   have o1:=Q6s (by rw [j7.out];exact Nat.le_refl _) j4.out;have s:=k6.out;rw [j9.out,o1] at s;have a3:=Zh s;clear s o1;go_wp2;exact⟨⟨f+1,ao,c,by omega,tz,⟨rfl,rfl,rfl,rfl,rfl,by dsimp only;rw [a3.out];simp [W.out],rfl,rfl⟩,by dsimp only;rw [a3.out];simpa [W.out] using Qo e7.out T.out,E.out.trans T.out⟩,mz⟩
  have q8:(g:Int)<(m:Int):=by omega
  have t3:(0:Int)<=(g:Int):=by omega
  have t9:IntKind.i64.wrap ((g:Int)+1)=(g:Int)+1:=IntWalk.i64_in _ oz;have d3:g<q.length:=by rw [j7.out];exact d4
  have g0:g<G.length:=by rw [p0.out];exact d4
  obtain⟨r9,u0,r7,b4,s4,m8⟩:=Km (p6.out.ext (E.out.trans T.out)) d4;simp only [zV,true_and] at b4;obtain⟨rfl,rfl⟩:=b4;obtain⟨s0,u1,r8,b4,s5,m9⟩:=Km p7.out d4;simp only [zV,true_and] at b4;obtain⟨rfl,rfl⟩:=b4;have n4:(q.map Value.bool).getD g undef=.bool q[g]:=by rw [List.getD_eq_getElem?_getD,List.getElem?_map,List.getElem?_eq_getElem d3];rfl
  have n6:(G.map Value.bool).getD g undef=.bool G[g]:=by rw [List.getD_eq_getElem?_getD,List.getElem?_map,List.getElem?_eq_getElem g0];rfl
  have l9:q.getD g false=q[g]:=by rw [List.getD_eq_getElem?_getD,List.getElem?_eq_getElem d3];rfl
  have m0:G.getD g false=G[g]:=by rw [List.getD_eq_getElem?_getD,List.getElem?_eq_getElem g0];rfl
  rw [n4] at m8;rw [n6] at m9;have a9:=fun h=>Qav (G:=G) d3 h;have b6:=fun h=>Q42 j4.out h;rw [l9,m0] at a9 b6;obtain⟨q1,n2⟩:=zE (q[g]);obtain⟨q2,n5⟩:=zE (G[g]);rw [n2] at m8 a9 b6;rw [n5] at m9 a9 b6;have b9:=Zh a9;have a4:=Zh b6;clear n2 n5 a9 b6 l9 m0 n4 n6 d3 g0;cases q1 with
  | false=>
   have b5:=a4.out rfl;have e8:=Zh b5;clear b5 a4 b9;go_wp2;exact⟨⟨g+1,by omega,tz,⟨rfl,rfl,rfl,rfl,rfl,rfl,rfl,rfl,rfl,rfl,rfl,rfl⟩,e8.out,by first | trivial | rfl⟩,mz⟩
  | true=>
   cases q2 with
   | true=>
    have b5:=a4.out rfl;have e8:=Zh b5;clear b5 a4 b9;go_wp2;exact⟨⟨g+1,by omega,tz,⟨rfl,rfl,rfl,rfl,rfl,rfl,rfl,rfl,rfl,rfl,rfl,rfl⟩,e8.out,by first | trivial | rfl⟩,mz⟩
   | false=>
    have o3:=b9.out rfl;have s:=k6.out;rw [j9.out,o3] at s;have a3:=Zh s;have s2:R<=X.heap.size:=by have:=E.out.size;have:=T.out.size;have:=i9.out;omega
    have Y:=Qo e7.out T.out;clear s o3 b9 a4
    go_wp2_with (at_builtin;refine Zp rfl (.tmp 69) (.tmp 71) 48 rfl R 3 _ 1 8 Tryz.underlying48 Tryz.infoI rfl zd _ _ _ rfl (Qo Y ((Qa.refl _ X).alloc _)) ⟨X.heap.size,0,none⟩ 1 1 [.int .i64 (f:Int)] rfl rfl (Zo rfl) ?c2 ?c3 ?c4 ?c5 ?_)
    case c2=>first | rfl | (intro d u;simp at u;subst u;rfl)
    case c3=>unfold maxLen;omega
    case c4=>omega
    case c5=>first | omega | (simp;omega)
    intro k9 l0 i7 m4 m5 q6;have m6:Qa (fun b=>(Value.slice ao e1 c).ownBlock=some b) X i7:=Qa.trans (Qa.alloc (Qa.refl _ X) _) m5;have l8:Ext i6 i7:=(E.out.trans T.out).after m6 (fun b hb e=>by have:=(Y.lt _ e).1;have:=i9.out;omega);have l3:i7.ownsRow R 3 1 (.slice k9 (e1+1) l0) (e1+1) (Qq (o4++[f])):=by rw [Xa];exact m4
    have o6:=Zh l3;have o8:=Zh l8;clear l3 l8 m6 m5 q6 m4 Y;go_wp2;exact⟨⟨f+1,k9,l0,by omega,tz,⟨rfl,rfl,rfl,rfl,rfl,by dsimp only;rw [a3.out];simp [W.out],rfl,rfl⟩,by dsimp only;rw [a3.out];simp only [if_true,List.length_append,W.out,List.length_singleton];exact o6.out,o8.out⟩,mz⟩
theorem Tq{z:Array Value}{n:Nat}{x:Value}(h:x∈(Builtin.zeroCells z n).toList):x∈z.toList:=by
 rw [Array.mem_toList_iff] at h ⊢;unfold Builtin.zeroCells at h;obtain⟨c,a,rfl⟩:=Array.mem_map.1 h;rw [Array.mem_range] at a;have e:0<z.size:=by
  apply Nat.pos_of_ne_zero;intro d;rw [d,Nat.mul_zero] at a;omega
 have b:=Nat.mod_lt c e;rw [getElem!_pos z (c % z.size) b];exact Array.getElem_mem b
theorem Q25{w:World}{g o:Nat}{a:Array Value}{t:TypeId}{m:Nat × Nat}(h:w.heap[g]?=some (.cells a t m)):w.cell? ⟨g,o,none⟩=a[o]?:=by simp [World.cell?,h]
def Jk(K:Value->Prop)(w:World)(v:Value):Prop:=∀ g cur t m,v.ownBlock=some g->w.heap[g]?=some (.cells cur t m)->∀ x∈cur.toList,K x
theorem Jk.nil{K:Value->Prop}(w:World):Jk K w (.slice none 0 0):=fun _ _ _ _ h=>by simp [Value.ownBlock] at h
theorem Jk.keep{K:Value->Prop}{S:Nat->Prop}{A B:World}{v:Value}{base:Nat}{e:TypeId}{k n:Nat}{xs:List Value}(h:Jk K A v)(f:A.ownsRow base e k v n xs)(i:Qa S A B)(c:∀ g,v.ownBlock=some g->¬ S g):Jk K B v:=by
 intro g b l j a d;refine h g b l j a ?_;rw [<-d];exact(i.block g (f.lt g a).2 (c g a)).symm
theorem Q02{K:Value->Prop}{P:Program}{w:World}{base:Nat}{t ty e:TypeId}{i:TypeInfo}{z:Value}(C:P.underlying t=some (.slice e)) (y:P.info? e=some i) (L:i.zero=some z)
  {v:Value} {n:Nat} {xs:List Value} (H:w.ownsRow base e i.size v n xs)
  (a:Addr) (m c:Nat) (l:List Value) (B:l.length=m*i.size) (G:∀ j u,l[j]?=some u->w.cell? (a.add j)=some u) (T:∀ u∈l,u.oneCell'=true)
  (U:n+m<=maxLen) (I:(n+m)*i.bytes<=140737488355328) {v':Value} {Q:World}
  (f:(Builtin.append_ #[t,t] ty #[v,.slice (some a) m c]).run P w=.ok v' Q) (a0:∀ x∈z.cells.toList,K x) (F:∀ x∈l,K x) (E:Jk K w v):Jk K Q v':=by
 have a4:n+m<=9223372036854775807:=by simp only [maxLen] at U;omega
 have M:∀ k,∀ x∈(Builtin.zeroCells z.cells k).toList,K x:=fun k x b=>a0 x (Tq b);rcases H.2 with ⟨rfl,rfl⟩ | ⟨g,D,p,rfl,a1,o,a3,a2,V,Z⟩
 ·by_cases X:m=0
  ·subst X;have:(Builtin.append_ #[t,t] ty #[.slice none 0 0,.slice (some a) 0 c]).run P w=.ok (.slice none 0 0) w:=by
    simp [Builtin.append_,run_underlying C,sizeOf,typeInfo,y,Builtin.lenOf,Builtin.firstCells,loadCells,loadCellsFrom]
   rw [this] at f;cases f;exact E
  ·have r:=run_append_nil (P:=P) w t ty e i z C y L a m c l B G oz oz (by have d:=I;simp only [Nat.zero_add] at d;omega);rw [r] at f;cases f;intro g p O N o d x b;simp only [Value.ownBlock,Option.some.injEq] at o;subst o;rw [Qc (A:=w.drew) (n:=w.heap.size) rfl] at d;cases d;simp only [Array.toList_append,List.mem_append] at b;exact b.elim (F x) (M _ x)
 ·by_cases J:n+m<=D
  ·have W:n*i.size+l.length<=p.size:=by rw [B,V,<-Nat.add_mul];exact Nat.mul_le_mul_right _ J
   have r:=run_append_room (P:=P) w t ty e i C y g n D p o a m c l B G T J W;rw [r] at f;cases f;intro S R O N q d x b;simp only [Value.ownBlock,Option.some.injEq] at q;subst q;rw [setRow_heap _ _ _ _ _ _ o] at d;cases d;have s:=E g p _ _ rfl o;simp only [List.mem_append] at b;rcases b with (b | b) | b
   ·exact s x (List.mem_of_mem_take b)
   ·exact F x b
   ·exact s x (List.mem_of_mem_drop b)
  ·have Y:∀ j u,xs[j]?=some u->w.cell? ((⟨g,0,none⟩:Addr).add j)=some u:=H.cells (g:=g) rfl;have r:=run_append_grow (P:=P) w t ty e i z C y L ⟨g,0,none⟩ n D xs H.1 Y a m c l B G oz oz (growslice_fits oz I);rw [r] at f;cases f;intro S R O N q d x b;simp only [Value.ownBlock,Option.some.injEq] at q;subst q;rw [Qc (A:=w.drew) (n:=w.heap.size) rfl] at d;cases d;simp only [Array.toList_append,List.mem_append] at b;rcases b with (b | b) | b
   ·have s:=E g p _ _ rfl o;have:x∈p.toList.take (n*i.size):=by rw [Z];exact b
    exact s x (List.mem_of_mem_take this)
   ·exact F x b
   ·exact M _ x b
theorem Q0n{K:Value->Prop}{P:Program}{w:World}{ops:Array Oper}{rest:List Oper}{o:Oper}{a:Act}{Q:Exit->Act->World->Prop}(M:o.guard=none)(s x:Operand)(t:TypeId)
  (R:o.op=.call { callee:=.builtin .append,args:=#[s,x],argTypes:=#[t,t] })
  (base:Nat) (e:TypeId) (z:Value) (size g:Nat) (E:P.underlying t=some (.slice e)) (N:(P.info? e).map (fun i=>(i.zero,i.size,i.bytes))=some (some z,size,g))
  (X:z.cells.size=size) (U:0<size)
  (v:Value) (n:Nat) (xs:List Value) (S:a.eval s=v) (C:w.ownsRow base e size v n xs)
  (f:Addr) (m c:Nat) (d:List Value) (V:a.eval x=.slice (some f) m c) (A:d.length=m*size) (B:∀ j u,d[j]?=some u->w.cell? (f.add j)=some u) (l:∀ u∈d,u.oneCell'=true)
  (q:n+m<=maxLen) (r:(n+m)*g<=140737488355328) (L:base<=w.heap.size) (W:∀ x∈z.cells.toList,K x) (O:∀ x∈d,K x) (I:Jk K w v)
  (h:∀ ao c' w',w'.ownsRow base e size (.slice ao (n+m) c') (n+m) (xs++d)->Qa (fun b=>v.ownBlock=some b) w w'->Jk K w' (.slice ao (n+m) c')->wpList P ops Q rest (a.put o.dst (.slice ao (n+m) c')) w'):wpList P ops Q (o::rest) a w:=by
 obtain⟨i,y,F,T,J⟩:=info_parts N;subst T;subst J;refine wpList_plain M fun K hK=>?_
 obtain⟨Z,w',D,p,G,Y⟩:=run_append_own (P:=P) w base t o.type e i z _ _ E y F rfl rfl X U v n xs C f m c d A B l q r L;have H:=Q02 E y F C f m c d A B l q r D W O I;unfold Oper.wp execOp;simp only [R,resolve,invoke,builtin,Sem.run_bind,Sem.run_pure,Result.andThen_ok,List.map_toArray,List.map_cons,List.map_nil,S,V,D];obtain⟨ao,c',rfl⟩:=Zn p;exact hK _ _ (h ao c' w' p ((Qa.refl _ w).grown G (fun k e=>.inr e)) H)
def Np(v:Value):Prop:=∃ ao n c,v=.slice ao n c
theorem Q34{w:World}{v u:Value}{base:Nat}{e:TypeId}{t n:Nat}{xs:List Value}{ws:Wd}(q:Zc w u ws)(p:Jk Np w v)(o:w.ownsRow base e t v n xs):Z1 (fun b=>¬ v.ownBlock=some b) u:=by
 rintro k C B y rfl g d;obtain⟨x,z,a,r,_⟩:=q;simp only [zV] at a;obtain⟨rfl,rfl,rfl⟩:=a;obtain⟨⟨_,_,_,_,a,l⟩,_⟩:=r;cases a;obtain⟨A,D,a,_,m⟩:=l g;cases a;obtain⟨j,f⟩:=Zb o d;have c:=m 0 oz;cases ws with
 | nil=>cases g
 | cons s ws=>
  rw [Nat.add_zero,Q25 f] at c;obtain⟨_,_,_,i⟩:=p k j _ _ d f _ (Array.mem_toList_iff.2 (Array.mem_of_getElem? c));rw [Us] at i;cases i
theorem Zc.row{A B:World}{v u:Value}{base:Nat}{e:TypeId}{sz n:Nat}{xs:List Value}{ws:Wd}(h:Zc A u ws)(hr:Jk Np A v)(ho:A.ownsRow base e sz v n xs)(ht:Qa (fun b=>v.ownBlock=some b) A B):Zc B u ws:=
 h.keepS (ht.mono fun _ _ hb hn=>hn hb) (Q34 h hr ho)
theorem Ur.row{A B:World}{v:Value}{base:Nat}{e:TypeId}{j n:Nat}{xs cs:List Value}{p:Wd × Wd}(h:Ur A p cs)(c:Jk Np A v)(a:A.ownsRow base e j v n xs)(d:Qa (fun b=>v.ownBlock=some b) A B):Ur B p cs:=by
 obtain⟨k,v,f,g,i⟩:=h;exact⟨k,v,f,g.row c a d,i.row c a d⟩
end Go.Proofs.YtfdlhlghcbeblaaGreatDoor
