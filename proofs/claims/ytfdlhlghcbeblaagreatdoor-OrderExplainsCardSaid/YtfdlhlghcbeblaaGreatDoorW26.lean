/- PLAIN: -/
import Derived.Test.YtfdlhlghcbeblaaGreatDoorW25
set_option maxRecDepth 100000
set_option maxHeartbeats 16000000
namespace Go.Proofs.YtfdlhlghcbeblaaGreatDoor
open Go.RowKit Go.Ab
def Qe4(xs:List Int)(n k:Nat):Prop:=(∀ x∈xs.take k,0<=x/\x<(n:Int))/\(xs.take k).Nodup
def Qe5(xs:List Int)(n k:Nat):List Value:=(List.range n).map fun(i:Nat)=>.bool (decide ((i:Int)∈xs.take k))
attribute [local go_sem] Oper.semAt_some Z1 Qk
theorem Q66{a:Func}{t u v:Tmp}(h:a.results=#[.tmp t,.tmp u,.tmp v])(tmps:Array Value)(P:Program)(w:World) :
  (results a tmps).run P w=.ok (.tuple #[tmps.getD t undef,tmps.getD u undef,tmps.getD v undef]) w:=by
 simp [results,h,go_sem]
def Y3(xs:List Int):List Nat:=xs.map Int.toNat
theorem Vt{xs:List Int}{n:Nat}(h:Jz xs n=true):Qd (Y3 xs)=Zv xs/\(∀ x∈Y3 xs,x<n)/\(Y3 xs).Perm (List.range n)/\xs=(Y3 xs).map fun(i:Nat)=>(i:Int):=by
 unfold Jz at h;rw [decide_eq_true_eq] at h
 have e:∀ x∈xs,∃ i:Nat,i<n/\(i:Int)=x:=fun x a=>by
  obtain⟨i,c,b⟩:=List.mem_map.1 (h.mem_iff.1 a);exact⟨i,List.mem_range.1 c,b⟩
 have d:∀ x∈xs,((x.toNat:Nat):Int)=x:=fun x a=>by obtain⟨i,_,rfl⟩:=e x a;simp
 refine⟨?_,fun x a=>?_,?_,?_⟩
 ·unfold Qd Y3 Zv;rw [List.map_map];apply List.map_congr_left;intro x a;show Value.int .i64 ((x.toNat:Nat):Int)=_;rw [d x a]
 ·obtain⟨g,f,rfl⟩:=List.mem_map.1 a;obtain⟨i,c,rfl⟩:=e g f
  simpa using c
 ·have:=h.map Int.toNat;rw [List.map_map] at this;have b:(List.range n).map (Int.toNat ∘ fun(i:Nat)=>(i:Int))=List.range n:=by
   conv=>rhs;rw [<-List.map_id (List.range n)]
   apply List.map_congr_left;intro i _;simp
  rw [b] at this;exact this
 ·unfold Y3;rw [List.map_map];conv=>lhs;rw [<-List.map_id xs]
  apply List.map_congr_left;intro x a;exact(d x a).symm
def Hw(LD:List Q5)(xs:List Int)(qs:Q8):Int:=Kz (Ye LD (Y3 xs) qs) false
def Hk(LD:List Q5)(xs:List Int)(qs:Q8):Int:=if Y5 LD xs (qs.map (·.1))=0 then max (Hw LD xs qs) 0 else 0
def Ht(LD:List Q5)(xs:List Int)(qs:Q8):Bool:=if Y5 LD xs (qs.map (·.1))=0 then decide (0<=Hw LD xs qs) else false
theorem Vj{LD:List Q5}{xs:List Int}{a:List (Wd × Wd)} (h:Y5 LD xs a=0):Qo LD a=0/\Jz xs LD.length=true:=by
 unfold Y5 at h
 split at h
 ·split at h
  ·exact⟨by assumption,by assumption⟩
  ·cases h
 ·rename_i b;exact absurd h b
theorem Qb2(l:List Bool)(b:Bool):-1<=Kz l b/\Kz l b<9223372036854775807\/9223372036854775807<=l.length:=by
 by_cases c:9223372036854775807<=l.length
 ·exact .inr c
 ·refine .inl ?_;unfold Kz
  split
  ·rename_i d a
   have:=(List.findIdx?_eq_some_iff_getElem.1 a).1;omega
  ·omega
theorem Nq{w:World}{ps:Qg}{qs:Q8}{lo:Option Addr}{n lc:Nat}{oo:Option Addr}{r oc:Nat}{xs:List Int}{R:Option Addr}{m pc:Nat}(z:Qz w (.slice lo n lc) ps) (o:ps.length=n) (B:Rd w (.slice oo r oc) r 1 (Zv xs)) (C:xs.length=r) (D:Z3 w (.slice R m pc) qs) (d:qs.length=m) (y:Tab w) :
  Calls Tryz.prog 27 #[.slice lo n lc,.slice oo r oc,.slice R m pc] w fun e w'=>e=.returned (.tuple #[.int .i64 (Hk (ps.map (·.1)) xs qs),.bool (Ht (ps.map (·.1)) xs qs),.int .i64 (Y5 (ps.map (·.1)) xs (qs.map (·.1)))])/\Ext w w':=by
 have E:=fun(V:World) (hE:Ext w V)=>Cs (z.ext hE) o (B.ext hE) C (Qj D hE) d (y.keep hE id)
 have c:=fun(a:Y5 (ps.map (·.1)) xs (qs.map (·.1))=0) (V:World) (hE:Ext w V)=>Q5o (ol:=Y3 xs) (z.ext hE) o (by
  have p:=Vj a;rw [(Vt p.2).1];exact B.ext hE) (by unfold Y3;rw [List.length_map,C]) (by
  have p:=Vj a;rw [List.length_map,o] at p;exact(Vt p.2).2.1) (Qj D hE) d (by have:=(Jg (Vj a).1).2.2.1;rw [List.length_map,d] at this;omega) (y.keep hE id)
 have A:Y5 (ps.map (·.1)) xs (qs.map (·.1))=0->m<=32:=fun a=>by have:=(Jg (Vj a).1).2.2.1;rw [List.length_map,d] at this;omega
 obtain⟨U,i⟩:=zE (Hk (ps.map (·.1)) xs qs);obtain⟨W,j⟩:=zE (Ht (ps.map (·.1)) xs qs);rw [i,j];unfold Hk Hw at i;unfold Ht Hw at j;obtain⟨F,b⟩:=zE (Y5 (ps.map (·.1)) xs (qs.map (·.1)));obtain⟨t,l⟩:=zE (Ye (ps.map (·.1)) (Y3 xs) qs);have N:t.length=m:=by rw [<-l];unfold Ye;rw [List.length_map,d]
 rw [b,l] at i j;rw [b];rw [b] at c A;simp only [b] at E;simp only [l] at c;obtain⟨L,H,K,I,u,v⟩:=Zh6 E c A N i j;clear i j E c b l N A z o B C D d y;go_enter Tryz.func27,Tryz.ntmps27;go_wp2_with fail;refine(L.out _ (Q0.refl _ _)).mono ?_;rintro e T ⟨rfl,M⟩;have k:=Zh M;clear M L;by_cases b:F=0;case neg=>
  have a1:(F != 0)=true:=by simpa using b
  have f:=u.out;have g:=v.out;rw [if_neg b] at f g;subst f g;go_wp2;exact bodyPost_ret (Q66 rfl _ _ _) rfl ⟨rfl,k.out⟩
 subst b;have a0:=K.out uz;have c:=H.out uz T k.out;have G:=Zh c;clear c H K;go_wp2_with fail;refine G.out.mono ?_;rintro e a3 ⟨Z,Y,rfl,⟨X,_,P⟩,O⟩;have Q:=Q34 false (Rd.of_own P) I.out;have J:=Zh Q;have S:=Zh (k.out.trans O);clear Q P O G k;go_wp2_with fail;refine J.out.mono ?_;rintro e a4 ⟨rfl,rfl⟩;obtain⟨s,q⟩:=zE (Kz t false);have a2:-1<=s/\s<9223372036854775807:=by
  rcases Qb2 t false with a | a
  ·rw [q] at a;exact a
  ·rw [I.out] at a;omega
 have f:=u.out;have g:=v.out;rw [if_pos uz,q] at f g;subst f g;rw [q];clear q J u v;go_wp2;exact bodyPost_ret (Q66 rfl _ _ _) rfl ⟨rfl,S.out⟩
def Q3d(ps:Qg)(xs:List Int)(qs:Q8):Int:=if Y5 (ps.map (·.1)) xs (qs.map (·.1))=0 then(if J3 ps (Y3 xs) qs=qs.length then 0 else(J3 ps (Y3 xs) qs:Nat)) else 0
def Q3h(ps:Qg)(xs:List Int)(qs:Q8):Bool:=if Y5 (ps.map (·.1)) xs (qs.map (·.1))=0 then decide (J3 ps (Y3 xs) qs≠qs.length) else false
def Dj(l:List Bool):Nat:=l.countP id
def Uv(LD:List Q5)(qs:Q8)(x:List Nat):Nat:=Dj (Ye LD x qs)
def Zb(LD:List Q5)(qs:Q8)(s:List Nat × Int)(x:List Nat):List Nat × Int:=if s.2<(Uv LD qs x:Int) then(x,(Uv LD qs x:Int)) else s
def Qw(LD:List Q5)(qs:Q8)(l:List (List Nat)):List Nat × Int:=l.foldl (Zb LD qs) ([],-1)
theorem Ps(LD:List Q5)(qs:Q8)(l:List (List Nat)) (x:List Nat):Qw LD qs (l++[x])=Zb LD qs (Qw LD qs l) x:=by
 unfold Qw;rw [List.foldl_append];rfl
def V0(LD:List Q5)(qs:Q8):List Nat:=if Qo LD (qs.map (·.1))=0 then(Qw LD qs (Y1 LD.length (List.range LD.length))).1 else []
def U9(LD:List Q5)(qs:Q8):Int:=if Qo LD (qs.map (·.1))=0 then(Qw LD qs (Y1 LD.length (List.range LD.length))).2 else 0
theorem Q4a{l:List Bool}{k:Nat}(a:k<l.length):Dj (l.take (k+1))=Dj (l.take k)+if l[k]=true then 1 else 0:=by
 unfold Dj;rw [List.take_succ_eq_append_getElem a,List.countP_append];cases l[k] <;> simp
theorem Q1e(l:List Bool):Dj l<=l.length:=List.countP_le_length
theorem H6(LD:List Q5)(qs:Q8)(l:List (List Nat)):-1<=(Qw LD qs l).2/\(Qw LD qs l).2<=qs.length:=by
 have c:∀(l:List (List Nat)) (a:List Nat × Int),-1<=a.2/\a.2<=qs.length->-1<=(l.foldl (Zb LD qs) a).2/\(l.foldl (Zb LD qs) a).2<=qs.length:=by
  intro l
  induction l with
  | nil=>intro a b;exact b
  | cons x l ih=>
   intro a b;refine ih _ ?_;unfold Zb
   split
   ·have:=Q1e (Ye LD x qs);unfold Ye at this;rw [List.length_map] at this;show -1<=((Uv LD qs x:Nat):Int)/\((Uv LD qs x:Nat):Int)<=qs.length;unfold Uv Ye;omega
   ·exact b
 exact c l ([],-1) ⟨Int.le_refl _,by show (-1:Int)<=_;omega⟩
def Ds(BB BM BP base:Nat)(LD:List Q5)(qs:Q8)(pv:Value)(w:World)(O:Nat->Prop)(pre:List (List Nat)) (V:World):Prop:=
 ∃ ao c,V.heap[BB]?=some (.cells #[.slice ao (Qw LD qs pre).1.length c] 48 (0,0))/\V.heap[BM]?=some (.cells #[.int .i64 (Qw LD qs pre).2] 3 (0,0))/\V.heap[BP]?=some (.cells #[pv] 61 (0,0)) /\
  V.ownsRow base 3 1 (.slice ao (Qw LD qs pre).1.length c) (Qw LD qs pre).1.length (Qd (Qw LD qs pre).1)/\(∀ g,(Value.slice ao (Qw LD qs pre).1.length c).ownBlock=some g->¬ O g)/\Ext w V
theorem Ds.step{c BM d base D:Nat}{LD:List Q5}{qs:Q8}{l:Value}{w A B:World}{O O':Nat->Prop}{k:List (List Nat)} (h:Ds c BM d base LD qs l w O k A) (v:w.heap.size<=D) (u:c<D/\BM<D/\d<D) (i:base=D+2) (s:∀ b,O b->D+2<=b/\b<A.heap.size) (j:Q0 (fun b=>O b\/b=D+1) A B)
  (t:∀ b,O' b->(O b\/A.heap.size<=b)/\b<B.heap.size):Ds c BM d base LD qs l w O' k B:=by
 subst i;obtain⟨m,n,o,p,q,e,f,r⟩:=h;have a:Q0 (fun b=>D+1<=b) A B:=j.mono fun b _ h=>h.elim (fun h=>by have:=(s b h).1;omega) (fun h=>by omega);refine⟨m,n,a.heap o oz,a.heap p oz,a.heap q oz,Qf e j (fun g hg h=>?_),fun g hg h=>?_,r.after a fun b i h=>by omega⟩
 ·have:=(e.lt g hg).1;rcases h with h | h
  ·exact f g hg h
  ·omega
 ·rcases(t g h).1 with h | h
  ·exact f g hg h
  ·have:=(e.lt g hg).2;omega
theorem Q7w{w:World}{ps:Qg}{qs:Q8}{lo:Option Addr}{n lc:Nat}{U:Option Addr}{m pc:Nat}(g3:Qz w (.slice lo n lc) ps) (S:ps.length=n) (c8:Z3 w (.slice U m pc) qs) (a5:qs.length=m) (f5:Tab w) :
  Calls Tryz.prog 43 #[.slice lo n lc,.slice U m pc] w fun e w'=>∃ ao c,e=.returned (.tuple #[.slice ao (V0 (ps.map (·.1)) qs).length c,.int .i64 (U9 (ps.map (·.1)) qs),.int .i64 (Qo (ps.map (·.1)) (qs.map (·.1)))])/\Rd w' (.slice ao (V0 (ps.map (·.1)) qs).length c) (V0 (ps.map (·.1)) qs).length 1 (Qd (V0 (ps.map (·.1)) qs))/\Ext w w':=by
 have c6:=fun(j:World) (x:Ext w j)=>K9 (g3.ext x) S (Qj c8 x) a5 (f5.keep x id);obtain⟨l,c2⟩:=zE (ps.map (·.1));have f3:l.length=n:=by rw [<-c2,List.length_map,S]
 have a6:Qo l (qs.map (·.1))=0->n<=6/\m<=1000:=fun a=>by have:=Jg a;rw [f3,List.length_map,a5] at this;omega
 have O:=fun(a:Qo l (qs.map (·.1))=0) (j:World) (B1 B2:Nat) (x:Ext w j) (B:j.heap[B1]?=_) (A:j.heap[B2]?=_)=>Nc x g3 S (a6 a).1 c8 a5 (a6 a).2 f5 B A;have g1:=fun(a:Qo l (qs.map (·.1))=0) (j:World) (x:Ext w j) (d4:Option Addr) (d3:Nat) (d2:List (Option Wd × List Value)) (B:Yk j (.slice d4 m d3) d2) (A:d2.length=m)=>He B A (Qj c8 x) a5 (a6 a).2;have g8:Qo l (qs.map (·.1))=0->∀ d∈Y1 n (List.range n),d.length<=6:=fun a d r=>by rw [Yc] at r;rw [(Xw n d r).1];exact(a6 a).1
 rw [c2];simp only [c2] at c6 O;obtain⟨o0,a4⟩:=zE (V0 l qs);obtain⟨m3,Z⟩:=zE (U9 l qs);rw [a4,Z];unfold V0 at a4;unfold U9 at Z;rw [f3] at a4 Z;obtain⟨j9,f2⟩:=zE (Y1 n (List.range n));obtain⟨b5,H⟩:=zE (Qo l (qs.map (·.1)));rw [f2,H] at a4 Z g8;have g7:=fun(a:b5=0)=>(a6 (by rw [H];exact a)).2;rw [H] at O g1 ⊢;simp only [f2] at O;simp only [H] at c6;obtain⟨j1,j4,j3,e6,e0,j8,e4,j7⟩:=Zh8 c6 O g1 a4 Z g8 a5 g7;clear c6 O g1 a4 Z g8 f2 H a6 c2 f3 g3 S c8 a5 f5 g7;refine Qu Tryz.func43 rfl ?_;simp only [Tryz.ntmps43,zS,Nat.reduceAdd,Nat.reduceSub];go_upto_region 1 with (fail)
 obtain⟨C,c3⟩:=zE w.heap.size;obtain⟨m1,d1⟩:=zE (w.alloc (.cells #[.slice U m pc] 61));have b1:Ext w m1:=by rw [<-d1];exact(Q0.refl _ w).alloc _
 have f0:m1.heap[C]?=some (.cells #[.slice U m pc] 61 (0,0)):=by rw [<-d1];exact Q2 c3.symm
 rw [c3,d1];obtain⟨o,i4,a8⟩:=Zh3 b1 f0 c3;have e8:=cell_of_one f0;clear b1 f0 d1 c3;go_wp2_with fail;refine(j1.out _ o.out).mono ?_;rintro e d5 ⟨rfl,a1⟩;have d8:=Zh (a1.keep i4.out);have e1:=Zh (o.out.trans a1);clear a1 o i4 j1 e8;by_cases H:b5=0;case neg=>
  have q8:(b5 != 0)=true:=by simpa using H
  have r:=e6.out;have p:=e0.out;rw [if_neg H] at r p;subst r p;go_wp2;refine Zu (v:=.tuple #[.slice none 0 0,.int .i64 0,.int .i64 b5]) (base:=C) _ _ trivial fun w' ht' l7=>⟨Q98 rfl rfl rfl rfl,none,0,rfl,Rd.of_own (e:=3) (World.ownsRow_nil _ 0 _ _),Q0.after e1.out ht' (fun b p a=>by have:=a.1;have:=a8.out;omega)⟩
 subst H;have r:=e6.out;have p:=e0.out;rw [if_pos uz] at r p;obtain⟨n8,m8,n9,n1⟩:=Zh4 r p (j8.out uz) (j3.out uz);have q7:=j7.out uz;clear r p e6 e0 j8 j3 j7;go_upto_region 6 with (fail)
 obtain⟨d6,b3⟩:=zE ((d5.alloc (.cells #[.slice none 0 0] 48)).alloc (.cells #[.int .i64 (-1)] 3));have f4:Ext d5 d6:=by rw [<-b3];exact((Q0.refl _ d5).alloc _).alloc _
 obtain⟨g,c1⟩:=zE d5.heap.size;have k3:d6.heap[g]?=some (.cells #[.slice none 0 0] 48 (0,0)):=by rw [<-b3];exact Q6 (Q2 c1.symm)
 have k4:d6.heap[g+1]?=some (.cells #[.int .i64 (-1)] 3 (0,0)):=by rw [<-b3];exact Q2 (by simp;omega)
 have q2:C<g:=by rw [<-c1];exact(Array.getElem?_eq_some_iff.1 d8.out).1
 rw [c1,b3];have f1:=f4.keep d8.out;obtain⟨i6,i7,d9,e2⟩:=Zh4 f1 k3 k4 (e1.out.trans f4);have e8:=cell_of_one f1;clear b3 c1 f4 k3 k4 f1 d8 e1;go_wp2_with fail;refine(Pv _ _ _ _ _ _ _).mono ?_;rintro e J ⟨rfl,f8,f9,a0,g6⟩;obtain⟨E,f6⟩:=zE d6.heap.size;rw [f6] at f8 f9 g6 ⊢;have O:=j4.out uz J E (E+1) (e2.out.trans a0) f8 f9;have q3:g+1<E:=by rw [<-f6];exact(Array.getElem?_eq_some_iff.1 d9.out).1
 obtain⟨n0,a9,n2,m4,m5,m6⟩:=Zh6 (e2.out.trans a0) g6 O (a0.keep i6.out) (a0.keep i7.out) (a0.keep d9.out);clear a0 g6 O f8 f9 f6 j4 i6 i7 d9 e2 e8;go_wp2
 refine Jf (xs:=j9) (K:=fun b=>b<w.heap.size\/b=E\/b=E+1) rfl (fun args w=>by simp [go_sem]) n2.out (fun b a=>by have:=a9.out;have:=a8.out;rcases a with a | a | a <;> omega) (fun _ _ d m2 V a=>by obtain⟨_,_,_,_,rfl,_⟩:=a;rfl) ?hEs
  (Ds g (g+1) C (J.heap.size+2) l qs (.slice U m pc) w) (fun c W F j=>False) ?hI ?hIx ?h0 (fun V t=>(((t.setIfInBounds 24 (V.getD 0 undef)).setIfInBounds 25 (V.getD 1 undef)).setIfInBounds 10 (V.getD 0 undef)).setIfInBounds 11 (V.getD 1 undef)) ?assign ?body ?done ?stop
 case hEs=>exact fun _ _ _ _ _ _ a T c9=>Pr a T c9
 case hI=>
  rintro W p5 F m2 i2 a a2 T o5;exact a.step (D:=J.heap.size) (by rw [a9.out];have:=a8.out;omega) (by rw [a9.out];omega) rfl a2 (T.mono fun b _ a=>a.imp (fun a=>a.1) id) o5
 case hIx=>exact fun _ _ _ _ _ _ a _ _ _=>a
 case h0=>
  intro j c5 l7;exact⟨none,0,c5.keep m5.out,c5.keep m6.out,c5.keep m4.out,World.ownsRow_nil _ _ _ _,(fun Q N=>by cases N),Q0.trans n0.out c5⟩
 case assign=>
  rintro _ _ d V j p4 ⟨m0,l9,d4,d3,rfl,_⟩ o4;gi_wp2;exact o4
 case stop=>exact fun _ _ _ _ _ _ _ a=>a.elim
 case done=>
  rintro W j ⟨ao,c,B,A,b0,M,s,x⟩ a2 T k5;have r:=n8.out;have p:=m8.out;rw [r] at B M s;rw [p] at A;obtain⟨b6,b7,m9⟩:=Zh3 M x k5;have k2:=cell_of_one B;have o2:=cell_of_one A;obtain⟨p1,g4⟩:=zE o0.length;have n4:=Zh g4;rw [g4] at k2;clear B A b0 M s x k5 a2 T g4 r p;go_wp2
  go_quiet (fail)
  go_wp2;have p0:=a9.out;have c7:Ext j (j.drewN nq):=(Q0.refl _ j).drewN nq;refine Zu (v:=.tuple #[.slice ao p1 c,.int .i64 m3,.int .i64 0]) (base:=C) _ _ (Qs.cons (base:=C) trivial oz (c7.keep m9.out) (fun e he=>by cases he)) fun w' ht' l7=>⟨Q98 rfl rfl rfl rfl,ao,c,by rw [n4.out],Rd.of_own (Qf (Qe b6.out c7) ht' (fun Q N e=>by obtain⟨p9,I⟩:=Z7 (Qe b6.out c7) N;exact Go.Ab.Shut.not I rfl e)),Q0.after (b7.out.trans c7) ht' (fun b p a=>by have:=a.1;have:=a8.out;omega)⟩
 case body=>
  rintro W F d r2 V j r g7 a2 T ⟨ao,c,B,A,b0,M,s,x⟩ ⟨m0,l9,d4,d3,rfl,c9,d2,l5,l4,l3⟩;simp only [pq];have I:=n1.out j x d4 d3 d2 l5 l4;rw [Nv e4.out (by rw [l3,List.map_map];rfl)] at I;have y:=Ps l qs F d;unfold Zb Uv at y;obtain⟨G,g0⟩:=zE (Ye l d qs);rw [g0] at I y;have k7:G.length=m:=by rw [<-g0];unfold Ye;rw [List.length_map,e4.out]
  have g5:=H6 l qs F;rw [e4.out] at g5;have l8:d∈j9:=by rw [r];simp
  have o9:=n9.out d l8;have o6:∀ q,Qw l qs F=q->q=((Qw l qs F).1,(Qw l qs F).2):=fun q a=>by rw [<-a]
  obtain⟨⟨p8,o1⟩,f7⟩:=zE (Qw l qs F);rw [f7] at B A M s g5 y;dsimp only at B A M s g5 y;have o3:=cell_of_one b0;have e9:=cell_of_one A;obtain⟨a7,g9⟩:=zE d.length;have b8:=Zh g9;rw [g9] at o9 ⊢;obtain⟨j5,i3,d7,i5,b6,m7,b7,n5⟩:=Zh8 a2 B A b0 M s x c9;obtain⟨i9,i8,n7,p2⟩:=Zh4 I k7 y f7;have p0:E+2<=J.heap.size:=Nat.le_of_eq a9.out.symm;clear r a2 B A b0 M s x c9 I k7 y f7 o6 l5 l4 l3 T g0 l8 g9;refine wpIn_block ?_;gi_wp2;refine callsIn_wide.2 (i9.out.mono ?_);rintro e e7 ⟨p7,p6,rfl,k6,b1⟩;obtain⟨n6,o,j0⟩:=Zh3 (Rd.of_own k6) b1 (show Dj (G.take 0)=0 from rfl);clear k6 b1 o3 e9 i9;gi_wp2
  gi_loop [12,30] (fun cn i=>∃ f:Nat,f<=m/\i=.int .i64 f/\cn=.int .i64 (Dj (G.take f):Nat)) (fun _ i=>m - (intOf i).toNat)
  case atStart=>exact⟨0,by omega,rfl,by rw [j0.out];rfl⟩
  case round=>
   obtain⟨f,q5,rfl,rfl⟩:=hrel;obtain⟨L,R⟩:=zE (Dj (G.take f));have q4:L<=1000:=by
    have:=Q1e (G.take f);rw [List.length_take] at this;omega
   rw [R];by_cases l2:f<m
   ·have o8:(f:Int)<(m:Int):=by omega
    have q6:(0:Int)<=(f:Int):=by omega
    have g2:f<G.length:=by rw [i8.out];exact l2
    obtain⟨Q,r1,cap,l6,N,I⟩:=Kf n6.out l2;simp only [zV,true_and] at l6;obtain⟨rfl,rfl⟩:=l6;have k9:(G.map Value.bool).getD f undef=.bool G[f]:=by rw [List.getD_eq_getElem?_getD,List.getElem?_map,List.getElem?_eq_getElem g2];rfl
    rw [k9] at I;have d0:=Q4a g2;rw [R] at d0;obtain⟨b,p⟩:=zE (G[f]);rw [p] at I d0;have j6:=Zh d0;have r0:IntKind.i64.wrap ((f:Int)+1)=(f:Int)+1:=IntWalk.i64_in _ oz;have q9:IntKind.i64.wrap ((L:Int)+1)=(L:Int)+1:=IntWalk.i64_in _ oz;clear d0 p k9 g2 R;cases b with
    | false=>
     gi_wp2
     go_round
     case rel=>exact⟨f+1,by omega,by go_num,by rw [j6.out];simp⟩
     case measure=>simp [intOf];omega
    | true=>
     gi_wp2
     go_round
     case rel=>exact⟨f+1,by omega,by go_num,by rw [j6.out];simp⟩
     case measure=>simp [intOf];omega
   ·obtain rfl:f=m:=by omega
    have o8:¬ (f:Int)<(f:Int):=by omega
    rw [List.take_of_length_le (by rw [i8.out];exact Nat.le_refl _)] at R;have p3:=Zh R;have e9:=cell_of_one (o.out.keep d7.out);have y:=n7.out;rw [R] at y;clear R j0;by_cases l0:o1<(L:Int)
    ·rw [if_pos l0] at y;have e5:=Zh y;clear y;have k8:=L7 (w:=e7) (ao:=m0) (n:=a7) (cap:=l9) (xs:=Qd d) (by have:=n5.out.ext o.out;rw [b8.out] at this;exact this) (fun u hu=>by obtain⟨_,_,rfl⟩:=List.mem_map.1 hu;rfl) oz;have j2:=Zh k8;clear k8;gi_wp2;refine callsIn_wide.2 (j2.out.mono ?_);rintro e P ⟨Y,X,rfl,c4,a1⟩;have a3:Ext j P:=o.out.trans a1;have b9:=a3.keep i3.out;have c0:=a3.keep d7.out;have k1:=a3.keep i5.out;have o7:J.heap.size+2<=e7.heap.size:=by have:=o.out.size;omega
     have i0:=Q0.set1 P g 0 (.slice Y a7 X);have i1:=Q0.set1 (P.setCell ⟨g,0,none⟩ (.slice Y a7 X)) (g+1) 0 (.int .i64 (L:Int));have k0:=i0.heap c0 oz;have S:=a8.out;have b4:Q0 (fun b=>b=g\/b=g+1) P ((P.setCell ⟨g,0,none⟩ (.slice Y a7 X)).setCell ⟨g+1,0,none⟩ (.int .i64 (L:Int))):=(i0.mono fun b _ e=>.inl e).trans (i1.mono fun b _ e=>.inr e);have b2:Ds g (g+1) C (J.heap.size+2) l qs (.slice U f pc) w W (F++[d]) ((P.setCell ⟨g,0,none⟩ (.slice Y a7 X)).setCell ⟨g+1,0,none⟩ (.int .i64 (L:Int))):=by
      have e:=e5.out;refine⟨Y,X,?_,?_,b4.heap k1 oz,?_,?_,Q0.after (b7.out.trans a3) b4 (fun b p a=>by omega)⟩
      ·rw [e];dsimp only;rw [b8.out];exact i1.heap (Jr b9) oz
      ·rw [e];exact Jr k0
      ·rw [e];dsimp only;rw [b8.out];exact Qf (Xl c4 o7) b4 (fun Q N e=>by have:=(c4.lt Q N).1;omega)
      ·rw [e];dsimp only;rw [b8.out];intro Q N a;have:=(c4.lt Q N).1;have:=(j5.out Q a).2;have:=o.out.size;omega
     have l1:Q0 (fun b=>¬ ((b<w.heap.size\/b=E\/b=E+1)\/W b\/b=J.heap.size\/b=J.heap.size+1)) j ((P.setCell ⟨g,0,none⟩ (.slice Y a7 X)).setCell ⟨g+1,0,none⟩ (.int .i64 (L:Int))):=a3.of.trans (b4.mono fun b _ a S=>by
      rcases S with (s | s | s) | s | s | s
      ·omega
      ·omega
      ·omega
      ·have:=(j5.out b s).1;omega
      ·omega
      ·omega)
     have e3:=Zh b2;have n3:=Zh l1;have k2:=cell_of_one b9;have q0:=free_of_one b9;have o2:=cell_of_one c0;have q1:=free_of_one c0;clear b2 l1 i0 i1 b4 k0 b9 c0 k1 a3 c4 a1 e9 j2;gi_wp2;exact⟨n3.out,e3.out⟩
    ·rw [if_neg l0] at y;have e5:=Zh y;clear y;have b2:Ds g (g+1) C (J.heap.size+2) l qs (.slice U f pc) w W (F++[d]) e7:=by
      have e:=e5.out;refine⟨ao,c,?_,?_,o.out.keep i5.out,?_,?_,b7.out.trans o.out⟩
      ·rw [e];exact o.out.keep i3.out
      ·rw [e];exact o.out.keep d7.out
      ·rw [e];exact Qe b6.out o.out
      ·rw [e];exact m7.out
     have e3:=Zh b2;clear b2;gi_wp2;exact⟨o.out.of,e3.out⟩
theorem Q01{l:List Int}(h:Yw l=0):∀ x∈l,x=0:=by
 induction l with
 | nil=>intro x a;cases a
 | cons e l ih=>
  unfold Yw at h
  split at h
  ·rename_i b
   intro x a;rcases List.mem_cons.1 a with rfl | a
   ·exact b
   ·exact ih h x a
  ·rename_i b;exact absurd h b
theorem Gz{LD:List Q5}{a:List (Wd × Wd)} (h:Qo LD a=0):LD.length<=6/\(∀ l∈LD,Zw l=true)/\a.length<=32/\∀ q∈a,wE q.1=0/\wE q.2=0:=by
 obtain⟨b,c,d,e⟩:=Jg h;refine⟨b,fun l hl=>List.all_eq_true.1 c l hl,d,fun q hq=>?_⟩;have:=Q01 e _ (List.mem_map.2 ⟨q,hq,rfl⟩);unfold wpE at this
 split at this
 ·exact⟨by assumption,this⟩
 ·rename_i f;exact absurd this f
theorem Mb(LD:List Q5):∀ ol:List Nat,Xg LD ol none=none
 | []=>rfl
 | x::ol=>by
  unfold Xg;rw [List.foldl_cons];cases LD[x]? with
  | none=>exact Mb LD ol
  | some l=>exact Mb LD ol
theorem Q53(LD:List Q5)(x:Nat)(ol:List Nat)(s:Option Wd):Xg LD (x::ol) s=Xg LD ol (match LD[x]? with | some l=>Yh l s | none=>s):=rfl
theorem P3(LD:List Q5):∀(ol:List Nat) (u:Wd),Yf (ol.filterMap fun x=>LD[x]?) u=Xg LD ol (some u)
 | [],_=>rfl
 | x::ol,u=>by
  rw [Q53,List.filterMap_cons];cases h:LD[x]? with
  | none=>exact P3 LD ol u
  | some l=>
   show (if trE l u=0 then Yf (ol.filterMap fun x=>LD[x]?) (Xs l u) else none)=Xg LD ol ((some u).bind fun u=>if trE l u=0 then some (Xs l u) else none);rw [Option.bind_some];by_cases ht:trE l u=0
   ·rw [if_pos ht,if_pos ht];exact P3 LD ol _
   ·rw [if_neg ht,if_neg ht,Mb]
theorem Q8b(ps:Qg)(ol:List Nat):(Yj ps ol).map (·.1)=ol.filterMap fun x=>(ps.map (·.1))[x]?:=by
 unfold Yj;rw [List.map_filterMap]
 congr 1
 funext x
 rw [List.getElem?_map]
theorem Q69{ps:Qg}{ol:List Nat}{u v:Wd}(e:∀ l∈ps.map (·.1),Zw l=true) (f:ol.length<=64) (i:wE u=0):Gl ps ol u v=xB (Xg (ps.map (·.1)) ol (some u)) v:=by
 have c:U2 ((Yj ps ol).map (·.1))=0:=by
  unfold U2;have k:((Yj ps ol).map (·.1)).length<=64:=by
   rw [List.length_map];unfold Yj;exact Nat.le_trans (List.length_filterMap_le _ _) f
  rw [if_neg oz,if_pos];rw [List.all_eq_true];intro l b;obtain⟨j,g,rfl⟩:=List.mem_map.1 b;exact e _ (List.mem_map.2 ⟨j,Cp g,rfl⟩)
 have a:Ko ((Yj ps ol).map (·.1)) u=0:=by unfold Ko;rw [if_pos c,i]
 have d:Yf ((Yj ps ol).map (·.1)) u=Xg (ps.map (·.1)) ol (some u):=by rw [Q8b,P3]
 unfold Gl;rw [<-d];cases hd:Yf ((Yj ps ol).map (·.1)) u with
 | none=>
  rw [(Sq a hd).1];rfl
 | some t=>
  rw [(L6 a hd).1,(L6 a hd).2];simp [xB]
theorem H5{ps:Qg}{qs:Q8}{ol:List Nat}(h:Qo (ps.map (·.1)) (qs.map (·.1))=0) (d:ol.length<=64):Z8 ps ol qs=Ye (ps.map (·.1)) ol qs:=by
 obtain⟨_,b,_,c⟩:=Gz h;unfold Z8 Ye;apply List.map_congr_left;intro a e;exact Q69 b d (c a.1 (List.mem_map.2 ⟨a,e,rfl⟩)).1
theorem Bi(l:List Bool):Kz l false=if l.findIdx (fun b=>!b)=l.length then -1 else((l.findIdx fun b=>!b:Nat):Int):=by
 unfold Kz;cases h:l.findIdx? fun b=>b == false with
 | none=>
  rw [List.findIdx?_eq_none_iff] at h;have:l.findIdx (fun b=>!b)=l.length:=List.findIdx_eq_length_of_false fun x hx=>by have:=h x hx;cases x <;> simp_all
  rw [if_pos this]
 | some i=>
  obtain⟨c,d,a⟩:=List.findIdx?_eq_some_iff_getElem.1 h;have:l.findIdx (fun b=>!b)=i:=by
   rw [List.findIdx_eq c];exact⟨by cases hb:l[i] <;> simp_all,fun j hj=>by have:=a j hj;cases hb:l[j] <;> simp_all⟩
  rw [this,if_neg oz]
theorem Pp{ps:Qg}{qs:Q8}{ol:List Nat}:J3 ps ol qs=qs.length↔(Z8 ps ol qs).all id=true:=by
 have d:(Z8 ps ol qs).length=qs.length:=by unfold Z8;rw [List.length_map]
 unfold J3;rw [<-d,List.findIdx_eq_length,List.all_eq_true];constructor
 ·intro a c b;have:=a c b;simpa using this
 ·intro a c b;have:=a c b;simp at this;simp [this]
theorem Q6w{xs:List Int}{n:Nat}(h:Jz xs n=true):(Y3 xs).length=n/\xs.length=n:=by
 have a:=(Vt h).2.2.1.length_eq;rw [List.length_range] at a;exact⟨a,by unfold Y3 at a;rwa [List.length_map] at a⟩
theorem Sv{ps:Qg}{qs:Q8}{xs:List Int}:Q3d ps xs qs=Hk (ps.map (·.1)) xs qs/\Q3h ps xs qs=Ht (ps.map (·.1)) xs qs:=by
 unfold Q3d Q3h Hk Ht;by_cases a:Y5 (ps.map (·.1)) xs (qs.map (·.1))=0
 ·obtain⟨d,e⟩:=Vj a;have j:=(Gz d).1;have k:=(Q6w e).1;have f:=H5 (ol:=Y3 xs) d oz;have i:(Ye (ps.map (·.1)) (Y3 xs) qs).length=qs.length:=by unfold Ye;rw [List.length_map]
  have g:J3 ps (Y3 xs) qs=(Ye (ps.map (·.1)) (Y3 xs) qs).findIdx fun b=>!b:=by unfold J3;rw [f]
  have l:(Ye (ps.map (·.1)) (Y3 xs) qs).findIdx (fun b=>!b)<=(Ye (ps.map (·.1)) (Y3 xs) qs).length:=List.findIdx_le_length;rw [if_pos a,if_pos a,if_pos a,if_pos a,g];unfold Hw;rw [Bi,i];by_cases c:(Ye (ps.map (·.1)) (Y3 xs) qs).findIdx (fun b=>!b)=qs.length
  ·rw [if_pos c,if_pos c];refine⟨by decide,?_⟩;rw [decide_eq_false (by simpa using c)];decide
  ·rw [if_neg c,if_neg c];refine⟨by omega,?_⟩;rw [decide_eq_true c,decide_eq_true oz]
 ·rw [if_neg a,if_neg a,if_neg a,if_neg a];exact⟨rfl,rfl⟩
def Ub(n:Nat)(L:List (List Nat)):List (List Nat):=L.flatMap fun o=>(Xd n o).map fun x=>o++[x]
def Yp(n:Nat):Nat->List (List Nat)
 | 0=>[[]]
 | k+1=>Ub n (Yp n k)
theorem Q6z(n m:Nat)(p:List Nat):Jk n (m+1) p=(Xd n p).flatMap fun i=>Jk n m (p++[i]):=by rw [<-L9];rfl
theorem Pq(n:Nat):∀ k m,k+m=n->(Yp n k).flatMap (Jk n m)=Jk n n []
 | 0,m,h=>by
  obtain rfl:m=n:=by omega
  simp [Yp]
 | k+1,m,h=>by
  rw [<-Pq n k (m+1) oz];show (Ub n (Yp n k)).flatMap (Jk n m)=_;unfold Ub;rw [List.flatMap_assoc];apply Hx;intro a _;rw [Q6z,List.flatMap_map]
theorem Q1x(n:Nat):Yp n n=Qa n:=by
 have a:=Pq n n 0 oz;have b:(Yp n n).flatMap (Jk n 0)=Yp n n:=by
  have:Jk n 0=fun p=>[p]:=funext (Bt n);rw [this];simp
 rw [b] at a;rw [a];unfold Jk;have c:Xd n []=List.range n:=by unfold Xd;simp
 rw [c,Yc];simp
theorem St{α:Type}{p:α->Bool}{L:List α}{i:Nat}(c:i<L.length)(d:p L[i]=true):(L.filter p)[((L.take i).filter p).length]?=some L[i]:=by
 have a:L.filter p=(L.take i).filter p++L[i]::(L.drop (i+1)).filter p:=by
  have b:(L.drop i).filter p=L[i]::(L.drop (i+1)).filter p:=by rw [List.drop_eq_getElem_cons c,List.filter_cons_of_pos d]
  rw [<-b,<-List.filter_append,List.take_append_drop]
 rw [a,List.getElem?_append_right (Nat.le_refl _)];simp
section
variable {LD:List Q5} {qs:Q8}
theorem Fe{L:List (List Nat)} {k:Nat} (a:k<L.length):Qw LD qs (L.take (k+1))=Zb LD qs (Qw LD qs (L.take k)) L[k]:=by
 rw [List.take_succ_eq_append_getElem a,Ps]
theorem La:∀(l:List (List Nat)) (s:List Nat × Int),s.2<=(l.foldl (Zb LD qs) s).2
 | [],_=>Int.le_refl _
 | x::l,s=>by
  rw [List.foldl_cons];refine Int.le_trans ?_ (La l _);unfold Zb
  split
  ·dsimp only;omega
  ·exact Int.le_refl _
theorem Sn:∀(l:List (List Nat)) (s:List Nat × Int),(l.foldl (Zb LD qs) s).2<=s.2->l.foldl (Zb LD qs) s=s
 | [],_,_=>rfl
 | x::l,s,h=>by
  rw [List.foldl_cons] at h ⊢;have h1:=La (LD:=LD) (qs:=qs) l (Zb LD qs s x);have h2:Zb LD qs s x=s:=by
   unfold Zb at h1 ⊢
   split at h1
   ·dsimp only at h1
    rename_i h3
    unfold Zb at h;rw [if_pos h3] at h;omega
   ·rename_i h3;rw [if_neg h3]
  rw [h2] at h ⊢;exact Sn l s h
theorem Mv(L:List (List Nat)) (k:Nat):Qw LD qs L=(L.drop k).foldl (Zb LD qs) (Qw LD qs (L.take k)):=by
 unfold Qw;rw [<-List.foldl_append,List.take_append_drop]
theorem Q1g{L:List (List Nat)} {i:Nat} (e:i<L.length) (c:(Qw LD qs (L.take i)).2<(Uv LD qs L[i]:Int)) (b:(Uv LD qs L[i]:Int)=(Qw LD qs L).2):(Qw LD qs L).1=L[i]:=by
 have d:Qw LD qs (L.take (i+1))=(L[i],(Uv LD qs L[i]:Int)):=by rw [Fe e];unfold Zb;rw [if_pos c]
 have a:=Mv (LD:=LD) (qs:=qs) L (i+1);rw [d] at a;rw [a] at b;rw [a,Sn _ _ (by rw [<-b];exact Int.le_refl _)]
theorem Q6q{L:List (List Nat)} {x:List Nat} (e:x∈L):(Uv LD qs x:Int)<=(Qw LD qs L).2:=by
 obtain⟨b,d,rfl⟩:=List.getElem_of_mem e;have c:=Mv (LD:=LD) (qs:=qs) L (b+1);have a:=La (LD:=LD) (qs:=qs) (L.drop (b+1)) (Qw LD qs (L.take (b+1)));rw [<-c,Fe d] at a;unfold Zb at a
 split at a
 ·exact a
 ·rename_i f;omega
theorem Q4g(L:List (List Nat)):(Qw LD qs L).2=-1\/∃ x∈L,(Uv LD qs x:Int)=(Qw LD qs L).2:=by
 unfold Qw;have e:∀(a:List (List Nat)) (b:List Nat × Int),(a.foldl (Zb LD qs) b).2=b.2\/∃ x∈a,(Uv LD qs x:Int)=(a.foldl (Zb LD qs) b).2:=by
  intro a
  induction a with
  | nil=>intro b;exact .inl rfl
  | cons x a ih=>
   intro b;rw [List.foldl_cons];rcases ih (Zb LD qs b x) with c | ⟨f,d,c⟩
   ·rw [c];unfold Zb
    split
    ·exact .inr ⟨x,by simp,rfl⟩
    ·exact .inl rfl
   ·exact .inr ⟨f,by simp [d],c⟩
 exact e L _
theorem Q70(x:List Nat):(Ye LD x qs).length=qs.length:=by unfold Ye;rw [List.length_map]
theorem Lk{x:List Nat}:Zo LD qs x=true↔Uv LD qs x=qs.length:=by
 unfold Zo Uv Dj;rw [<-Q70 (LD:=LD) (qs:=qs) x,List.countP_eq_length,List.all_eq_true]
theorem Mi{L:List (List Nat)}:(Qw LD qs L).2=qs.length↔L.filter (Zo LD qs)≠[]:=by
 constructor
 ·intro c;rcases Q4g (LD:=LD) (qs:=qs) L with a | ⟨e,b,a⟩
  ·omega
  ·have d:Zo LD qs e=true:=Lk.2 oz;exact List.ne_nil_of_mem (List.mem_filter.2 ⟨b,d⟩)
 ·intro c;obtain⟨e,b⟩:=List.exists_mem_of_ne_nil _ c;obtain⟨f,g⟩:=List.mem_filter.1 b;have a:=Q6q (LD:=LD) (qs:=qs) f;rw [Lk.1 g] at a;have d:=(H6 LD qs L).2;omega
theorem Q39{L:List (List Nat)} {y:List Nat} {r:List (List Nat)} (h:L.filter (Zo LD qs)=y::r):(Qw LD qs L).1=y:=by
 rw [List.filter_eq_cons_iff] at h;obtain⟨a,b,rfl,g,d,_⟩:=h;have l:(a++y::b)[a.length]?=some y:=by simp
 have k:a.length<(a++y::b).length:=by simp
 have c:(a++y::b)[a.length]=y:=by simp
 have f:(a++y::b).take a.length=a:=by simp
 have e:Uv LD qs y=qs.length:=Lk.1 d;have i:(Qw LD qs a).2<(qs.length:Int):=by
  have m:=(H6 LD qs a).2
  have n:(Qw LD qs a).2≠qs.length:=fun q=>by
   have:=Mi.1 q;apply this;rw [List.filter_eq_nil_iff];exact g
  omega
 have j:(Qw LD qs (a++y::b)).2=qs.length:=Mi.2 (List.ne_nil_of_mem (List.mem_filter.2 ⟨by simp,d⟩));have:=Q1g (LD:=LD) (qs:=qs) k (by rw [c,f,e];exact i) (by rw [c,e,j]);rw [this,c]
end
def Hv(o:List Nat)(x y:Nat):Bool:=!(o.take (o.idxOf x)).contains y
def Uz(L:List (List Nat)) (x y:Nat):Bool:=decide (x≠y) && L.all fun o=>Hv o x y
theorem El{o:List Nat}(e:o.Nodup){x y:Nat}(f:y∈o):(o.take (o.idxOf x)).contains y=decide (o.idxOf y<o.idxOf x):=by
 rw [Bool.eq_iff_iff,List.contains_iff_mem,decide_eq_true_iff];have g:=List.idxOf_lt_length_of_mem f;constructor
 ·intro b;obtain⟨a,i,c⟩:=List.mem_take_iff_getElem.1 b;have d:a<o.length:=by omega
  have:o.idxOf y=a:=by rw [<-c];exact e.idxOf_getElem a d
  omega
 ·intro b;exact List.mem_take_iff_getElem.2 ⟨o.idxOf y,by omega,List.getElem_idxOf g⟩
theorem Ex{n:Nat}{L:List (List Nat)} (c:Ml n L) (g:L≠[]) {x y:Nat} (i:x<n) (d:y<n):Ve (Zg L) x y=Uz L x y:=by
 rw [Bool.eq_iff_iff,Jy c g];unfold Uz Hv;rw [Bool.and_eq_true,decide_eq_true_iff,List.all_eq_true];constructor
 ·rintro⟨_,_,f⟩;obtain⟨a,b⟩:=List.exists_mem_of_ne_nil L g;refine⟨fun e=>by subst e;have:=f a b;omega,fun a b=>?_⟩;rw [El (c a b).1 (((c a b).2 y).2 d),Bool.not_eq_true',decide_eq_false_iff_not];have:=f a b;omega
 ·rintro⟨k,l⟩;refine⟨i,d,fun a b=>?_⟩;have m:=l a b;rw [El (c a b).1 (((c a b).2 y).2 d),Bool.not_eq_true',decide_eq_false_iff_not] at m;have o:=((c a b).2 x).2 i;have p:=((c a b).2 y).2 d
  have r:a.idxOf x≠a.idxOf y:=fun e=>k (by
   have j:=List.getElem_idxOf (List.idxOf_lt_length_of_mem o);have q:=List.getElem_idxOf (List.idxOf_lt_length_of_mem p);simp only [e] at j;exact j.symm.trans q)
  omega
def Yx(l:List Nat)(i:Nat):List Nat:=(l.set i (l.getD (i+1) 0)).set (i+1) (l.getD i 0)
def exB(F G:List Bool):Bool:=(List.range F.length).any fun k=>F.getD k false && !G.getD k false
def Kh(LD:List Q5)(qs:Q8)(l:List Nat)(i:Nat):Bool:=exB (Ye LD l qs) (Ye LD (Yx l i) qs)
def Gp(LD:List Q5)(xs:List Int)(qs:Q8):List Nat:=if Y5 LD xs (qs.map (·.1))=0 then(List.range (xs.length - 1)).filter (Kh LD qs (Y3 xs)) else []
theorem Wl(l:List Nat)(i:Nat):(Yx l i).length=l.length:=by unfold Yx;simp
theorem Sp{l:List Nat}{i n:Nat}(c:i+1<l.length)(h:∀ x∈l,x<n):∀ x∈Yx l i,x<n:=by
 intro x a;unfold Yx at a;have b:∀ j,j<l.length->l.getD j 0<n:=fun j hj=>by rw [List.getD_eq_getElem?_getD,List.getElem?_eq_getElem hj];exact h _ (List.getElem_mem hj)
 rcases List.mem_or_eq_of_mem_set a with a | rfl
 ·rcases List.mem_or_eq_of_mem_set a with a | rfl
  ·exact h x a
  ·exact b _ oz
 ·exact b _ oz
theorem T1(l:List Nat)(i:Nat):((Qd l).set i (.int .i64 (l.getD (i+1) 0:Nat))).set (i+1) (.int .i64 (l.getD i 0:Nat))=Qd (Yx l i):=by
 unfold Qd Yx;rw [List.map_set,List.map_set]
def Q36(F G:List Bool)(k:Nat):Prop:=∀ j,j<k->(F.getD j false && !G.getD j false)=false
theorem Q5i{F G:List Bool}{k:Nat}(h:Q36 F G k)(h1:(F.getD k false && !G.getD k false)=false):Q36 F G (k+1):=fun j hj=>by
 by_cases e:j=k
 ·subst e;exact h1
 ·exact h j oz
theorem Q6y{F G:List Bool}{k:Nat}(c:F.length<=k)(h:Q36 F G k):exB F G=false:=by
 unfold exB;rw [List.any_eq_false];intro b a;rw [h b (by have:=List.mem_range.1 a;omega)];decide
theorem Q9y{F G:List Bool}{k:Nat}(b:k<F.length)(a:(F.getD k false && !G.getD k false)=true):exB F G=true:=by
 unfold exB;rw [List.any_eq_true];exact⟨k,List.mem_range.2 b,a⟩
theorem Hf(q:Nat->Bool)(k:Nat):(List.range (k+1)).filter q=(List.range k).filter q++if q k=true then [k] else []:=by
 rw [List.range_succ,List.filter_append];cases h:q k <;> simp [h]
theorem Dy{w:World}{base:Nat}{e:TypeId}{g n cap j:Nat}{xs:List Value}(h:w.ownsRow base e 1 (.slice (some ⟨g,0,none⟩) n cap) n xs) (_hj:j<n):w.frozen? ⟨g,j,none⟩=false:=by
 obtain⟨b,a⟩:=Z7 h rfl;simp [World.frozen?,a]
def Qcm(lo oo po fo:Option Addr)(n lc on oc m pc fc mx B0:Nat)(w2:World)(P:Nat->List Nat)(a:Act)(W:World):Prop:=∃(i:Nat) (ao:Option Addr) (c:Nat),i<=mx/\a.defers=[]/\(a.tmps.size=76/\a.tmps.getD 0 undef=.slice lo n lc/\a.tmps.getD 1 undef=.slice oo on oc/\a.tmps.getD 2 undef=.slice po m pc/\a.tmps.getD 9 undef=.slice fo m fc/\a.tmps.getD 10 undef=.slice ao (P i).length c/\a.tmps.getD 29 undef=.int .i64 mx/\a.tmps.getD 30 undef=.int .i64 i)/\W.ownsRow B0 3 1 (.slice ao (P i).length c) (P i).length (Qd (P i))/\Ext w2 W
theorem Mw{w:World}{ps:Qg}{qs:Q8}{lo:Option Addr}{n lc:Nat}{oo:Option Addr}{i oc:Nat}{xs:List Int}{e2:Option Addr}{m pc:Nat}(g0:Qz w (.slice lo n lc) ps) (d7:ps.length=n) (d8:Rd w (.slice oo i oc) i 1 (Zv xs)) (d9:xs.length=i) (g6:Z3 w (.slice e2 m pc) qs) (d5:qs.length=m) (f6:Tab w) :
  Calls Tryz.prog 28 #[.slice lo n lc,.slice oo i oc,.slice e2 m pc] w fun e w'=>∃ ao c,e=.returned (.tuple #[.slice ao (Gp (ps.map (·.1)) xs qs).length c,.int .i64 (Y5 (ps.map (·.1)) xs (qs.map (·.1)))])/\Rd w' (.slice ao (Gp (ps.map (·.1)) xs qs).length c) (Gp (ps.map (·.1)) xs qs).length 1 (Qd (Gp (ps.map (·.1)) xs qs))/\Ext w w':=by
 have e0:=fun(V:World) (r:Ext w V)=>Cs (g0.ext r) d7 (d8.ext r) d9 (Qj g6 r) d5 (f6.keep r id)
 have b2:Y5 (ps.map (·.1)) xs (qs.map (·.1))=0->m<=32/\i<=6:=fun h=>by
  have C:=Vj h;have q4:=Jg C.1;have Y:=(Vt C.2).2.2.1.length_eq;unfold Y3 at Y;simp at Y q4;omega
 have d2:=fun(h:Y5 (ps.map (·.1)) xs (qs.map (·.1))=0) (V:World) (r:Ext w V) (o:List Nat) (o4:Option Addr) (a1:Nat) (b8:Rd V (.slice o4 i a1) i 1 (Qd o)) (hyl:o.length=i) (b1:∀ x∈o,x<n)=>Q5o (g0.ext r) d7 b8 hyl b1 (Qj g6 r) d5 (by have:=(b2 h).1;omega) (f6.keep r id)
 have b3:Y5 (ps.map (·.1)) xs (qs.map (·.1))=0->Qd (Y3 xs)=Zv xs/\∀ x∈Y3 xs,x<n:=fun h=>by
  have C:=(Vj h).2;rw [List.length_map,d7] at C;exact⟨(Vt C).1,(Vt C).2.1⟩
 obtain⟨t,f3⟩:=zE (ps.map (·.1));rw [f3] at b2 b3 ⊢;simp only [f3] at e0 d2;obtain⟨r3,N⟩:=zE (Gp t xs qs);rw [N];unfold Gp at N;rw [d9] at N;obtain⟨i7,L⟩:=zE (Y5 t xs (qs.map (·.1)));rw [L] at b2 b3 d2 N ⊢;simp only [L] at e0;obtain⟨o,g5⟩:=zE (Y3 xs);have O:o.length=i:=by rw [<-g5];unfold Y3;rw [List.length_map,d9]
 rw [g5] at N b3;have a5:∀ l,(Ye t l qs).length=m:=fun l=>by unfold Ye;rw [List.length_map,d5]
 obtain⟨k6,i9,j7,k0,e8,c0,k1,j5⟩:=Zh8 e0 d2 b2 b3 N O d8 a5;have q9:i<=maxLen:=d8.2.1;unfold maxLen at q9;clear e0 d2 b2 b3 N O d8 a5 L g5 f3 g0 d7 d9 g6 d5 f6;go_enter Tryz.func28,Tryz.ntmps28;go_wp2;refine wp_scope_straight ?_;go_wp2_with fail;refine(k6.out _ (Q0.refl _ _)).mono ?_;rintro e r1 ⟨rfl,l4⟩;have a2:=Zh l4;clear l4 k6;by_cases L:i7=0;case neg=>
  have t5:(i7 != 0)=true:=by simpa using L
  have Z:=e8.out;rw [if_neg L] at Z;subst Z;go_wp2;unfold Exit.noGoto;go_ret2;exact⟨none,0,rfl,Rd.of_own (e:=3) (World.ownsRow_nil _ 0 _ _),a2.out⟩
 subst L;obtain⟨t3,t6⟩:=j7.out uz;obtain⟨g1,b1⟩:=k0.out uz;have Z:=e8.out;rw [if_pos uz] at Z;have a7:=i9.out uz;obtain⟨k7,o6,p1,p3⟩:=Zh4 Z a7 b1 g1;have n2:=a7 r1 a2.out o oo oc (by rw [g1];exact k1.out.ext a2.out) c0.out b1;have j4:=Zh n2;clear Z a7 b1 g1 n2 e8 i9 j7 k0;go_wp2_with fail;refine j4.out.mono ?_;rintro e i5 ⟨l1,l0,rfl,⟨r4,a7,f5⟩,l5⟩;obtain⟨q,c8⟩:=zE (Ye t o qs);rw [c8] at f5;have a5:q.length=m:=by rw [<-c8];exact j5.out _
 obtain⟨p5,e4,o8,j6⟩:=Zh4 (Rd.of_own f5) (a2.out.trans l5) c8 a5;clear f5 l5 c8 a5 j4 a2 a7;have n9:max ((i:Int) - 1) 0=((i - 1:Nat):Int):=by omega
 have r0:IntKind.i64.wrap ((i:Int) - 1)=(i:Int) - 1:=IntWalk.i64_in _ oz;obtain⟨P,d6⟩:=zE (i - 1);rw [d6] at n9;have a0:=k7.out;rw [d6] at a0;have p9:=Zh a0;have p2:=Zh d6;have t4:P<=i:=by omega
 clear a0 d6 k7;go_wp2;refine wp_label ?_;go_wp2;clear r0 n9;obtain⟨R,l3⟩:=zE i5.heap.size;have i8:=Zh l3;clear l3
 refine wp_loop (Qcm lo oo e2 l1 n lc i oc m pc l0 P R i5 (fun f=>(List.range f).filter (Kh t qs o)))
  (fun a _=>((P:Int) - intOf (a.tmps.getD 30 undef)).toNat) ?_ ?_
 ·exact⟨0,none,0,by omega,rfl,⟨rfl,rfl,rfl,rfl,rfl,rfl,rfl,rfl⟩,World.ownsRow_nil _ _ _ _,Q0.refl _ _⟩
 rintro⟨i2,_⟩ A ⟨f,ao,c,s5,f8,⟨b7,y,z,F,J,B,H,I⟩,f4,r⟩;dsimp only at B f4;subst f8;obtain⟨i4,u⟩:=Zn b7;obtain⟨d,rfl⟩:∃ x,x=i4:=⟨_,rfl⟩;have g9:i2=#[d 0,d 1,d 2,d 3,d 4,d 5,d 6,d 7,d 8,d 9,d 10,d 11,d 12,d 13,d 14,d 15,d 16,d 17,d 18,d 19,d 20,d 21,d 22,d 23,d 24,d 25,d 26,d 27,d 28,d 29,d 30,d 31,d 32,d 33,d 34,d 35,d 36,d 37,d 38,d 39,d 40,d 41,d 42,d 43,d 44,d 45,d 46,d 47,d 48,d 49,d 50,d 51,d 52,d 53,d 54,d 55,d 56,d 57,d 58,d 59,d 60,d 61,d 62,d 63,d 64,d 65,d 66,d 67,d 68,d 69,d 70,d 71,d 72,d 73,d 74,d 75]:=u;clear u;subst g9;change d 0=_ at y;change d 1=_ at z;change d 2=_ at F;change d 9=_ at J;change d 10=_ at B;change d 29=_ at H;change d 30=_ at I;rw [y,z,F,J,B,H,I];clear y z F J B H I b7;have k3:=Zh f4;have E:=Zh r;have s:=Hf (Kh t qs o) f;have n7:((List.range f).filter (Kh t qs o)).length<=f:=Nat.le_trans (List.length_filter_le _ _) zy;obtain⟨o3,b0⟩:=zE ((List.range f).filter (Kh t qs o));rw [b0] at s n7;have p0:=Zh b0;have d0:=k3.out;rw [b0] at d0;rw [b0];obtain⟨e1,O⟩:=zE o3.length;rw [O] at d0 n7;rw [O];obtain⟨e6,k5,W⟩:=Zh3 d0 s O;clear f4 r s b0 O d0 k3;by_cases s9:f<P;case neg=>
  obtain rfl:f=P:=by omega
  have C:¬ (f:Int)<(f:Int):=by omega
  have a0:=p9.out;rw [p0.out] at a0;subst a0;go_wp2;go_ret2;exact⟨ao,c,by rw [W.out];rfl,by rw [W.out];exact Rd.of_own e6.out,e4.out.trans E.out⟩
 have C:(f:Int)<(P:Int):=by omega
 have s0:(0:Int)<=(f:Int):=by omega
 have n6:f+1<i:=by have:=p2.out;omega
 have t7:IntKind.i64.wrap ((f:Int)+1)=(f:Int)+1:=IntWalk.i64_in _ oz;have s7:(f:Int)+1<(i:Int):=by omega
 have s6:(0:Int)<=(f:Int)+1:=by omega
 have s8:(f:Int)<(i:Int):=by omega
 have t0:((f:Int)+1).toNat=f+1:=by omega
 have m9:=L7 (w:=A) (ao:=oo) (n:=i) (cap:=oc) (xs:=Qd o) (by rw [p3.out];exact k1.out.ext (e4.out.trans E.out)) (fun d u=>by obtain⟨_,_,rfl⟩:=List.mem_map.1 u;rfl) oz;have j2:=Zh m9;clear m9;go_upto_region 9 with (fail)
 go_wp2_with fail;refine j2.out.mono ?_;rintro e c1 ⟨o4,a1,rfl,a6,m1⟩;obtain⟨p,rfl⟩:=Vk (n:=i - 1) (cap:=a1) (by rw [show i - 1+1=i by omega];exact a6);obtain⟨e3,i0⟩:=zE (o.getD f 0);obtain⟨Q,i1⟩:=zE (o.getD (f+1) 0)
 have f7:∀ j,j<i->∀ U,Ext c1 U->U.cell? ⟨p,j,none⟩=some (.int .i64 (o.getD j 0:Nat)):=fun j hj U hU=>by
  have:=(Qe a6 hU).cellAt j oz;rw [this];unfold Qd;rw [List.getElem?_map,List.getD_eq_getElem?_getD,List.getElem?_eq_getElem (by rw [c0.out];exact hj)];rfl
 have a8:=f7 f oz;have k:=f7 (f+1) n6;rw [i0] at a8;rw [i1] at k;have s2:A.heap.size<=p:=(a6.lt p rfl).1;obtain⟨j0,j1,k2,j9,p7,p8⟩:=Zh6 a8 k a6 m1 i0 i1;clear f7 a8 k a6 m1 i0 i1 j2;go_upto_region 10 with (fail)
 go_cut [] from 35 to 50 (fun wx=>wx.ownsRow A.heap.size 3 1 (.slice (some ⟨p,0,none⟩) i a1) i (Qd (Yx o f))/\Ext A wx)
 case first=>
  obtain⟨v,d1⟩:=zE c1.drew;have c7:Ext c1 v:=by rw [<-d1];exact(Q0.refl _ c1).drew
  have g2:=Qe k2.out c7;have k:v.cell? ⟨p,f+1,none⟩=some (.int .i64 (Q:Int)):=j1.out v c7;have a8:v.cell? ⟨p,f,none⟩=some (.int .i64 (e3:Int)):=j0.out v c7;refine Qv (S:=fun D=>D.cell? ⟨p,f+1,none⟩=some (.int .i64 (Q:Int))) [17] kz (by rw [d1];exact k) ?_;intro _;rw [d1];clear d1;refine tE 0 35 k ?_;refine tE 1 36 k ?_;refine tE 2 37 k ?_;refine tE 3 38 k ?_;refine tE 4 39 k ?_;refine tE 5 40 k ?_;refine tE 6 41 k ?_;refine tE 7 42 k ?_;refine tE 8 43 k ?_;refine tE 9 44 k ?_;refine tE 10 45 k ?_;refine tE 11 46 k ?_;refine tE 12 47 k ?_;refine rE [13] ?_;refine Q1.cons rfl (fun K hK=>?_) Q1.nil;refine iw rfl ?_;go_simp;refine hK.out _ _ k (fun _=>?_);clear hK K;try simp only [Act.put,pq]
  refine tE 14 49 k ?_;refine rE [15] ?_;refine Q1.cons rfl (fun K hK=>?_) Q1.nil;refine iw rfl ?_;have y:=Dy g2 (j:=f) oz;go_simp;have q8:(⟨p,f,none⟩:Addr)≠⟨p,f+1,none⟩:=by intro e;simp at e
  have g7:(v.setCell ⟨p,f,none⟩ (.int .i64 (Q:Int))).cell? ⟨p,f+1,none⟩=some (.int .i64 (Q:Int)):=by rw [World.cell?_setCell_other (h:=q8)];exact k
  refine hK.out _ _ g7 (fun _=>?_);clear hK K y a8
  (try change Qm _ _ _ _ _ _ _ _ (Act.put _ none _) _)
  (try simp only [Act.put])
  refine tE 16 50 g7 ?_;refine rE [17] ?_;refine Q1.late rfl rfl (fun K hK=>?_) Q1.nil;refine iw rfl ?_;have g3:=Jw g2 f (.int .i64 (Q:Int));have z:=Dy g3 (j:=f+1) oz;go_simp;refine hK.out _ _ ?_;clear hK K z
  (try change Qm _ _ _ _ _ _ _ _ (Act.put _ none _) _)
  (try simp only [Act.put])
  refine Ql kz ?_ _;have g4:=Jw g3 (f+1) (.int .i64 (e3:Int));have i3:Q0 (fun b=>b=p) v ((v.setCell ⟨p,f,none⟩ (.int .i64 (Q:Int))).setCell ⟨p,f+1,none⟩ (.int .i64 (e3:Int))):=(Q0.set1 _ _ _ _).trans (Q0.set1 _ _ _ _);obtain⟨c6,m6⟩:=zE ((v.setCell ⟨p,f,none⟩ (.int .i64 (Q:Int))).setCell ⟨p,f+1,none⟩ (.int .i64 (e3:Int)));rw [m6] at g4 i3 ⊢;have o1:c6.ownsRow A.heap.size 3 1 (.slice (some ⟨p,0,none⟩) i a1) i (Qd (Yx o f)):=by
   have e:=T1 o f;rw [p7.out,p8.out] at e;rw [<-e];exact g4
  have M:Ext A c6:=(j9.out.trans c7).after i3 (fun b hb e=>by omega);have p4:=Zh o1;have e5:=Zh M;clear m6 g4 i3 o1 M g3 g2 g7 k;go_wp2
  go_meet
  case rel=>exact⟨p4.out,e5.out⟩
 case rest=>
  obtain⟨b8,M⟩:=hcut;generalize wc=c6 at b8 M ⊢;have g8:=o6.out c6 (e4.out.trans (E.out.trans M)) (Yx o f) (some ⟨p,0,none⟩) a1 (Rd.of_own b8) (by rw [Wl,c0.out]) (Sp (by rw [c0.out];exact n6) p1.out);obtain⟨G,c9⟩:=zE (Ye t (Yx o f) qs);have m0:G.length=m:=by rw [<-c9];exact j5.out _
  rw [c9] at g8;have n8:Kh t qs o f=exB q G:=by unfold Kh;rw [o8.out,c9]
  obtain⟨k4,o9,j8,e5⟩:=Zh4 g8 m0 n8 M;clear b8 M g8 c9 m0 n8 j0 j1 k2 j9;go_wp2_with fail;refine k4.out.mono ?_;rintro e X ⟨q3,q2,rfl,⟨r5,q6,m2⟩,l6⟩;have p6:=Zh (Rd.of_own m2);have T:=Zh (e5.out.trans l6);clear m2 l6 k4 q6;go_wp2
  refine wp_loop (fun a A=>∃(g:Nat),g<=m/\a.defers=[]/\(a.tmps.size=76/\a.tmps.getD 0 undef=.slice lo n lc/\a.tmps.getD 1 undef=.slice oo i oc/\a.tmps.getD 2 undef=.slice e2 m pc/\a.tmps.getD 9 undef=.slice l1 m l0/\a.tmps.getD 10 undef=.slice ao e1 c/\a.tmps.getD 11 undef=.int .i64 f/\a.tmps.getD 29 undef=.int .i64 P/\a.tmps.getD 30 undef=.int .i64 f/\a.tmps.getD 54 undef=.slice q3 m q2/\a.tmps.getD 55 undef=.int .i64 m/\a.tmps.getD 56 undef=.int .i64 g)/\Q36 q G g/\X=A)
   (fun a _=>((m:Int) - intOf (a.tmps.getD 56 undef)).toNat) ?_ ?_
  ·exact⟨0,by omega,rfl,⟨rfl,rfl,rfl,rfl,rfl,rfl,rfl,rfl,rfl,rfl,rfl,rfl⟩,fun j hj=>by omega,by first | trivial | rfl⟩
  rintro⟨i2,_⟩ r2 ⟨g,t1,f8,⟨b7,y,z,F,J,B,e9,H,I,f0,f1,f2⟩,n0,rfl⟩;subst f8;obtain⟨i4,u⟩:=Zn b7;obtain⟨d,rfl⟩:∃ x,x=i4:=⟨_,rfl⟩;have g9:i2=#[d 0,d 1,d 2,d 3,d 4,d 5,d 6,d 7,d 8,d 9,d 10,d 11,d 12,d 13,d 14,d 15,d 16,d 17,d 18,d 19,d 20,d 21,d 22,d 23,d 24,d 25,d 26,d 27,d 28,d 29,d 30,d 31,d 32,d 33,d 34,d 35,d 36,d 37,d 38,d 39,d 40,d 41,d 42,d 43,d 44,d 45,d 46,d 47,d 48,d 49,d 50,d 51,d 52,d 53,d 54,d 55,d 56,d 57,d 58,d 59,d 60,d 61,d 62,d 63,d 64,d 65,d 66,d 67,d 68,d 69,d 70,d 71,d 72,d 73,d 74,d 75]:=u;clear u;subst g9;change d 0=_ at y;change d 1=_ at z;change d 2=_ at F;change d 9=_ at J;change d 10=_ at B;change d 11=_ at e9;change d 29=_ at H;change d 30=_ at I;change d 54=_ at f0;change d 55=_ at f1;change d 56=_ at f2;rw [y,z,F,J,B,e9,H,I,f0,f1,f2];clear y z F J B e9 H I f0 f1 f2 b7;have j3:=Zh n0;clear n0;by_cases d4:g<m;case neg=>
   obtain rfl:g=m:=by omega
   have q7:¬ (g:Int)<(g:Int):=by omega
   have o0:=Q6y (by rw [j6.out];exact Nat.le_refl _) j3.out;have s:=k5.out;rw [j8.out,o0] at s;have a3:=Zh s;clear s o0;go_wp2;exact⟨⟨f+1,ao,c,by omega,tz,⟨rfl,rfl,rfl,rfl,rfl,by dsimp only;rw [a3.out];simp [W.out],rfl,rfl⟩,by dsimp only;rw [a3.out];simpa [W.out] using Qe e6.out T.out,E.out.trans T.out⟩,mz⟩
  have q7:(g:Int)<(m:Int):=by omega
  have t2:(0:Int)<=(g:Int):=by omega
  have t8:IntKind.i64.wrap ((g:Int)+1)=(g:Int)+1:=IntWalk.i64_in _ oz;have d3:g<q.length:=by rw [j6.out];exact d4
  have f9:g<G.length:=by rw [o9.out];exact d4
  obtain⟨r8,t9,r6,b4,s3,m7⟩:=Kf (p5.out.ext (E.out.trans T.out)) d4;simp only [zV,true_and] at b4;obtain⟨rfl,rfl⟩:=b4;obtain⟨r9,u0,r7,b4,s4,m8⟩:=Kf p6.out d4;simp only [zV,true_and] at b4;obtain⟨rfl,rfl⟩:=b4;have n3:(q.map Value.bool).getD g undef=.bool q[g]:=by rw [List.getD_eq_getElem?_getD,List.getElem?_map,List.getElem?_eq_getElem d3];rfl
  have n5:(G.map Value.bool).getD g undef=.bool G[g]:=by rw [List.getD_eq_getElem?_getD,List.getElem?_map,List.getElem?_eq_getElem f9];rfl
  have l8:q.getD g false=q[g]:=by rw [List.getD_eq_getElem?_getD,List.getElem?_eq_getElem d3];rfl
  have l9:G.getD g false=G[g]:=by rw [List.getD_eq_getElem?_getD,List.getElem?_eq_getElem f9];rfl
  rw [n3] at m7;rw [n5] at m8;have a9:=fun h=>Q9y (G:=G) d3 h;have b6:=fun h=>Q5i j3.out h;rw [l8,l9] at a9 b6;obtain⟨q0,n1⟩:=zE (q[g]);obtain⟨q1,n4⟩:=zE (G[g]);rw [n1] at m7 a9 b6;rw [n4] at m8 a9 b6;have b9:=Zh a9;have a4:=Zh b6;clear n1 n4 a9 b6 l8 l9 n3 n5 d3 f9;cases q0 with
  | false=>
   have b5:=a4.out rfl;have e7:=Zh b5;clear b5 a4 b9;go_wp2;exact⟨⟨g+1,by omega,tz,⟨rfl,rfl,rfl,rfl,rfl,rfl,rfl,rfl,rfl,rfl,rfl,rfl⟩,e7.out,by first | trivial | rfl⟩,mz⟩
  | true=>
   cases q1 with
   | true=>
    have b5:=a4.out rfl;have e7:=Zh b5;clear b5 a4 b9;go_wp2;exact⟨⟨g+1,by omega,tz,⟨rfl,rfl,rfl,rfl,rfl,rfl,rfl,rfl,rfl,rfl,rfl,rfl⟩,e7.out,by first | trivial | rfl⟩,mz⟩
   | false=>
    have o2:=b9.out rfl;have s:=k5.out;rw [j8.out,o2] at s;have a3:=Zh s;have s1:R<=X.heap.size:=by have:=E.out.size;have:=T.out.size;have:=i8.out;omega
    have Y:=Qe e6.out T.out;clear s o2 b9 a4
    go_wp2_with (at_builtin;refine Zi rfl (.tmp 69) (.tmp 71) 48 rfl R 3 _ 1 8 Tryz.underlying48 Tryz.infoI rfl zd _ _ _ rfl (Qe Y ((Q0.refl _ X).alloc _)) ⟨X.heap.size,0,none⟩ 1 1 [.int .i64 (f:Int)] rfl rfl (Zp rfl) ?c2 ?c3 ?c4 ?c5 ?_)
    case c2=>first | rfl | (intro d u;simp at u;subst u;rfl)
    case c3=>unfold maxLen;omega
    case c4=>omega
    case c5=>first | omega | (simp;omega)
    intro k8 k9 i6 m3 m4 q5;have m5:Q0 (fun b=>(Value.slice ao e1 c).ownBlock=some b) X i6:=Q0.trans (Q0.alloc (Q0.refl _ X) _) m4;have l7:Ext i5 i6:=(E.out.trans T.out).after m5 (fun b hb e=>by have:=(Y.lt _ e).1;have:=i8.out;omega);have l2:i6.ownsRow R 3 1 (.slice k8 (e1+1) k9) (e1+1) (Qd (o3++[f])):=by rw [X8];exact m3
    have o5:=Zh l2;have o7:=Zh l7;clear l2 l7 m5 m4 q5 m3 Y;go_wp2;exact⟨⟨f+1,k8,k9,by omega,tz,⟨rfl,rfl,rfl,rfl,rfl,by dsimp only;rw [a3.out];simp [W.out],rfl,rfl⟩,by dsimp only;rw [a3.out];simp only [if_true,List.length_append,W.out,List.length_singleton];exact o5.out,o7.out⟩,mz⟩
def W8(LD:List Q5)(QS:List (Wd × Wd)):Prop:=LD.length<=4/\QS.length<=5/\Qo LD QS=0
theorem Qa5{LD:List Q5}{a:List (Wd × Wd)} (f:LD.length<=6) (c:LD.all Zw=true) (d:a.length<=32) (b:∀ q∈a,wE q.1=0/\wE q.2=0):Qo LD a=0:=by
 unfold Qo;rw [if_neg oz,if_pos c,if_neg oz];clear d
 induction a with
 | nil=>rfl
 | cons q a ih=>
  have:=b q zy;have e:wpE q=0:=by unfold wpE;rw [if_pos this.1];exact this.2
  rw [List.map_cons];unfold Yw;rw [if_pos e];exact ih fun q hq=>b q (by simp [hq])
theorem Q2o{LD:List Q5}(h:U2 LD=0):LD.all Zw=true:=by
 unfold U2 at h
 split at h
 ·cases h
 ·split at h
  ·assumption
  ·cases h
theorem Dm(n:Nat)(j:n<=4):(Qa n).length<=24:=by
 have a:∀ n,(Qa (n+1)).length=(n+1)*(Qa n).length:=fun n=>by
  conv=>lhs;unfold Qa
  rw [List.length_flatMap];have b:(List.range (n+1)).map (fun f=>((Qa n).map fun r=>f::r.map fun x=>if f<=x then x+1 else x).length)=List.replicate (n+1) (Qa n).length:=by
   apply List.ext_getElem
   ·simp
   ·intro k c d;simp
  rw [b];simp
 have e:(Qa 0).length=1:=rfl;have c:(Qa 1).length=1*(Qa 0).length:=a 0;have d:(Qa 2).length=2*(Qa 1).length:=a 1;have g:(Qa 3).length=3*(Qa 2).length:=a 2;have i:(Qa 4).length=4*(Qa 3).length:=a 3;have:n=0\/n=1\/n=2\/n=3\/n=4:=by omega
 rcases this with rfl | rfl | rfl | rfl | rfl <;> omega
theorem Eu(n:Nat):0<(Qa n).length:=by
 induction n with
 | zero=>exact Nat.one_pos
 | succ n ih=>
  unfold Qa;rw [List.length_flatMap,List.range_succ_eq_map,List.map_cons,List.sum_cons,List.length_map];omega
theorem Db(LD:List Q5)(qs:Q8)(n:Nat)(b:n<=4):(Z4 LD qs n).length<=24:=by
 have a:=Ld LD qs n;rw [Yc] at a;exact Nat.le_trans a (Dm n b)
theorem Uq(LD:List Q5)(qs:Q8)(n:Nat):Z4 LD qs n=(Qa n).filter (Zo LD qs):=by unfold Z4;rw [Yc]
def Xt(x:List Nat):List Int:=x.map fun(i:Nat)=>(i:Int)
theorem Pk(x:List Nat):Y3 (Xt x)=x:=by
 unfold Y3 Xt;rw [List.map_map];conv=>rhs;rw [<-List.map_id x]
 apply List.map_congr_left;intro a _;simp
theorem S2(x:List Nat):Zv (Xt x)=Qd x:=by
 unfold Zv Xt Qd;rw [List.map_map];rfl
theorem Tq{n:Nat}{x:List Nat}(a:x∈Qa n):Jz (Xt x) n=true:=by
 rw [<-Yc] at a;obtain⟨b,c⟩:=Mz n x a;unfold Jz Xt;rw [decide_eq_true_iff];apply List.Perm.map;rw [List.perm_ext_iff_of_nodup b List.nodup_range];intro d;rw [c,List.mem_range]
theorem W4{LD:List Q5}{a:List (Wd × Wd)} {x:List Nat} (h:Qo LD a=0) (b:x∈Qa LD.length):Y5 LD (Xt x) a=0:=by
 unfold Y5;rw [if_pos h,if_pos (Tq b)]
def byI(ps:Qg)(x:List Nat)(qs:Q8):Int:=if J3 ps x qs=qs.length then -1 else(J3 ps x qs:Nat)
theorem Q9x{ps:Qg}{qs:Q8}{x:List Nat}(h:Qo (ps.map (·.1)) (qs.map (·.1))=0) (c:x∈Qa ps.length):Hk (ps.map (·.1)) (Xt x) qs=max (byI ps x qs) 0/\Ht (ps.map (·.1)) (Xt x) qs=decide (0<=byI ps x qs):=by
 have b:=W4 h (x:=x) (by rw [List.length_map];exact c);rw [<-Sv.1,<-Sv.2];unfold Q3d Q3h byI;rw [if_pos b,if_pos b,Pk];by_cases a:J3 ps x qs=qs.length
 ·rw [if_pos a,if_pos a];refine⟨by decide,?_⟩;rw [decide_eq_false (by simpa using a)];decide
 ·rw [if_neg a,if_neg a];refine⟨by omega,?_⟩;rw [decide_eq_true a,decide_eq_true oz]
theorem Qad{ps:Qg}{qs:Q8}{x:List Nat}(h:Qo (ps.map (·.1)) (qs.map (·.1))=0) (d:x∈Qa ps.length):Zo (ps.map (·.1)) qs x=decide (byI ps x qs<0):=by
 have e:=(Xw _ x d).1;have b:=(Gz h).1;rw [List.length_map] at b;have c:=H5 (ol:=x) h oz;unfold Zo byI;rw [<-c];by_cases a:J3 ps x qs=qs.length
 ·rw [if_pos a,Pp.1 a];decide
 ·rw [if_neg a,decide_eq_false oz];cases hb:(Z8 ps x qs).all id with
  | false=>rfl
  | true=>exact absurd (Pp.2 hb) a
theorem Qb6{ps:Qg}{qs:Q8}{x:List Nat}(h:Qo (ps.map (·.1)) (qs.map (·.1))=0) (b:x∈Qa ps.length):V4 ps qs x=Uv (ps.map (·.1)) qs x:=by
 have c:=(Xw _ x b).1;have a:=(Gz h).1;rw [List.length_map] at a;unfold V4 Uv Dj;rw [H5 (ol:=x) h oz]
theorem Rh{α:Type}(p:α->Bool){f:List α}{i:Nat}(b:i<f.length):((f.take (i+1)).filter p).length=((f.take i).filter p).length+if p f[i]=true then 1 else 0:=by
 rw [List.take_succ_eq_append_getElem b,List.filter_append,List.length_append];by_cases a:p f[i]=true <;> simp [a]
theorem Qb1(ps:Qg)(q:(Wd × Wd) × List Value) (x:List Nat):V4 ps [q] x=if Gl ps x q.1.1 q.1.2=true then 1 else 0:=by
 unfold V4 Z8;cases h:Gl ps x q.1.1 q.1.2 <;> simp [h]
def Nm(LD:List Q5)(ol:List Nat)(QS:List (Wd × Wd)):List Bool:=QS.map fun q=>xB (Xg LD ol (some q.1)) q.2
theorem Pi(LD:List Q5)(ol:List Nat)(qs:Q8):Ye LD ol qs=Nm LD ol (qs.map (·.1)):=by
 unfold Ye Nm;rw [List.map_map];rfl
def Q9d(LD:List Q5)(QS:List (Wd × Wd)) (n:Nat):List (List Nat):=(Y1 n (List.range n)).filter fun x=>(Nm LD x QS).all id
theorem Qa2(LD:List Q5)(qs:Q8)(n:Nat):Z4 LD qs n=Q9d LD (qs.map (·.1)) n:=by
 unfold Z4 Q9d;apply List.filter_congr;intro a _;unfold Zo;rw [Pi]
theorem Qar(LD:List Q5)(qs:Q8)(l:List Nat)(i:Nat):Kh LD qs l i=exB (Nm LD l (qs.map (·.1))) (Nm LD (Yx l i) (qs.map (·.1))):=by
 unfold Kh;rw [Pi,Pi]
abbrev Q5e:Pat:=.node 1 4 0 false 0 0 []
abbrev Q97:Pat:=.node 0 0 0 false 0 0 []
abbrev Qc1:Pat:=.node 6 0 0 false 0 0 []
abbrev vD:Q5:=⟨⟨#[86]⟩,Q5e,Q5e,[(2,0)],[⟨0,0,(1,0),0,0⟩],1⟩
abbrev fD:Q5:=⟨⟨#[70]⟩,Q97,Qc1,[(4,0)],[],1⟩
abbrev uD:Q5:=⟨⟨#[85]⟩,Q97,Qc1,[(2,0)],[⟨0,0,(0,1),0,0⟩],1⟩
abbrev Zz:Wd:=[(5,2),(2,5),(5,2)]
abbrev apO:Wd:=[(5,2),(2,5)]
abbrev abO:Wd:=[(5,2),(3,4)]
theorem Q19{qs:Q8}(h:qs.map (·.1)=[(Zz,apO),(Zz,abO)]):Hk [vD,fD,uD] [0,1,2] qs=1/\Ht [vD,fD,uD] [0,1,2] qs=true/\Y5 [vD,fD,uD] [0,1,2] (qs.map (·.1))=0:=by
 unfold Hk Ht Hw;rw [Pi,h];decide +kernel
theorem Dw{qs:Q8}(h:qs.map (·.1)=[(Zz,abO)]):Qo [vD,fD,uD] (qs.map (·.1))=0:=by
 rw [h];decide +kernel
theorem Rm{qs:Q8}(h:qs.map (·.1)=[(Zz,abO)]):Z4 [vD,fD,uD] qs 3=[[0,2,1],[2,0,1]]:=by
 rw [Qa2,h];decide +kernel
theorem Q28{qs:Q8}(h:qs.map (·.1)=[(Zz,abO)]):Vf [vD,fD,uD] qs=[0,2,1]/\Km [vD,fD,uD] qs=true:=by
 have a:=Dw h;have b:=Rm h;unfold Vf Km;rw [if_pos a,if_pos a];show (Z4 [vD,fD,uD] qs 3).headD []=_/\(!(Z4 [vD,fD,uD] qs 3).isEmpty)=_;rw [b];exact⟨rfl,rfl⟩
theorem Qbl{qs:Q8}(h:qs.map (·.1)=[(Zz,abO)]):Uj [vD,fD,uD] qs 9=[[0,2,1],[2,0,1]]:=by
 have a:=Dw h;have b:=Rm h;unfold Uj;rw [if_pos a];show (Z4 [vD,fD,uD] qs 3).take _=_;rw [b];rfl
theorem Qat{qs:Q8}(h:qs.map (·.1)=[(Zz,abO)]):Xv [vD,fD,uD] qs=[(0,1),(2,1)]/\X9 [vD,fD,uD] qs=0:=by
 have c:=Dw h;have a:=Rm h;have b:X9 [vD,fD,uD] qs=0:=by
  unfold X9;rw [if_pos c];show (if (Z4 [vD,fD,uD] qs 3).isEmpty=true then(5:Int) else 0)=0;rw [a];rfl
 refine⟨?_,b⟩;unfold Xv;rw [if_pos b];show Jb 3 (Ve (Zg (Z4 [vD,fD,uD] qs 3)))=_;rw [a];decide +kernel
theorem Qb3{qs:Q8}(h:qs.map (·.1)=[(Zz,abO)]):Gp [vD,fD] [0,1] qs=[0]/\Y5 [vD,fD] [0,1] (qs.map (·.1))=0:=by
 have a:Y5 [vD,fD] [0,1] (qs.map (·.1))=0:=by rw [h];decide +kernel
 refine⟨?_,a⟩;unfold Gp;rw [if_pos a];have b:Kh [vD,fD] qs (Y3 [0,1])=fun i=>exB (Nm [vD,fD] [0,1] [(Zz,abO)]) (Nm [vD,fD] (Yx [0,1] i) [(Zz,abO)]):=funext fun i=>by rw [Qar,h];rfl
 rw [b];decide +kernel
theorem Q7y:(Tryz.prog.info? 98).map (·.size)=some 7:=by kernel_rfl
theorem P1:(Tryz.prog.info? 95).map (·.size)=some 2:=by kernel_rfl
theorem Lg:(Tryz.prog.info? 105).map (·.size)=some 2:=by kernel_rfl
theorem P2{a:Func}{p:Tmp}(h:a.results=#[.cell p 95]){tmps:Array Value}{w:World}{g:Nat}{cs:Array Value}(d:tmps.getD p undef=.pointer (some ⟨g,0,none⟩)) (b:w.heap[g]?=some (.cells cs 95 (0,0))) (c:(Tryz.prog.info? 95).map (·.size)=some cs.size) :
  (results a tmps).run Tryz.prog w=.ok (.agg cs) w:=by
 have e:tmps[p]?.getD undef=.pointer (some ⟨g,0,none⟩):=by simpa using d
 simp [results,h,e,asAddr,run_loadVar_row w g _ _ _ _ _ b Tryz.underlying95 rfl c]
theorem Nz{a:Func}{p:Tmp}(h:a.results=#[.cell p 102]){tmps:Array Value}{w:World}{g:Nat}{cs:Array Value}(d:tmps.getD p undef=.pointer (some ⟨g,0,none⟩)) (b:w.heap[g]?=some (.cells cs 102 (0,0))) (c:(Tryz.prog.info? 102).map (·.size)=some cs.size) :
  (results a tmps).run Tryz.prog w=.ok (.agg cs) w:=by
 have e:tmps[p]?.getD undef=.pointer (some ⟨g,0,none⟩):=by simpa using d
 simp [results,h,e,asAddr,run_loadVar_row w g _ _ _ _ _ b Tryz.underlying102 rfl c]
theorem Q5a{a:Func}{p:Tmp}(h:a.results=#[.cell p 105]){tmps:Array Value}{w:World}{g:Nat}{cs:Array Value}(d:tmps.getD p undef=.pointer (some ⟨g,0,none⟩)) (b:w.heap[g]?=some (.cells cs 105 (0,0))) (c:(Tryz.prog.info? 105).map (·.size)=some cs.size) :
  (results a tmps).run Tryz.prog w=.ok (.agg cs) w:=by
 have e:tmps[p]?.getD undef=.pointer (some ⟨g,0,none⟩):=by simpa using d
 simp [results,h,e,asAddr,run_loadVar_row w g _ _ _ _ _ b Tryz.underlying105 rfl c]
theorem Q43(w:World):Calls Tryz.prog 57 #[] w fun e w'=>e=.returned (.agg #[.int .u32 2,.int .u32 5])/\Ext w w':=by
 go_enter Tryz.func57,Tryz.ntmps57;go_wp2;exact bodyPost_ret (P2 rfl rfl (Q2 rfl) P1) rfl ⟨rfl,(Q0.refl _ w).alloc _⟩
theorem Qbd(w:World):Calls Tryz.prog 56 #[] w fun e w'=>e=.returned (.agg #[.int .u32 3,.int .u32 4])/\Ext w w':=by
 go_enter Tryz.func56,Tryz.ntmps56;go_wp2;exact bodyPost_ret (P2 rfl rfl (Q2 rfl) P1) rfl ⟨rfl,(Q0.refl _ w).alloc _⟩
theorem R5(w:World):Calls Tryz.prog 55 #[] w fun e w'=>e=.returned (.agg #[.int .u32 5,.int .u32 2])/\Ext w w':=by
 go_enter Tryz.func55,Tryz.ntmps55;go_wp2;exact bodyPost_ret (P2 rfl rfl (Q2 rfl) P1) rfl ⟨rfl,(Q0.refl _ w).alloc _⟩
theorem Q5u(w:World):Calls Tryz.prog 53 #[] w fun e w'=>∃ g1:Nat,e=.returned (.agg #[.string ⟨#[70]⟩,.int .i64 0,.int .u32 0,.int .u32 0,.bool false,.int .i64 0,.int .i64 0,.slice none 0 0,.int .i64 6,.int .u32 0,.int .u32 0,.bool false,.int .i64 0,.int .i64 0,.slice none 0 0,.slice (some ⟨g1,0,none⟩) 1 1,.slice none 0 0,.int .i64 1])/\Zf w' fD [.string ⟨#[70]⟩,.int .i64 0,.int .u32 0,.int .u32 0,.bool false,.int .i64 0,.int .i64 0,.slice none 0 0,.int .i64 6,.int .u32 0,.int .u32 0,.bool false,.int .i64 0,.int .i64 0,.slice none 0 0,.slice (some ⟨g1,0,none⟩) 1 1,.slice none 0 0,.int .i64 1]/\Ext w w':=by
 go_enter Tryz.func53,Tryz.ntmps53;obtain⟨a,c⟩:=zE ((w.alloc (.cells #[.string ⟨#[]⟩,.int .i64 0,.int .u32 0,.int .u32 0,.bool false,.int .i64 0,.int .i64 0,.slice none 0 0,.int .i64 0,.int .u32 0,.int .u32 0,.bool false,.int .i64 0,.int .i64 0,.slice none 0 0,.slice none 0 0,.slice none 0 0,.int .i64 0] 102)).alloc (.cells #[.int .u32 4,.int .u32 0] 95));have l:Ext w a:=by rw [<-c];exact((Q0.refl _ w).alloc _).alloc _
 have g:a.heap[w.heap.size]?=some (.cells #[.string ⟨#[]⟩,.int .i64 0,.int .u32 0,.int .u32 0,.bool false,.int .i64 0,.int .i64 0,.slice none 0 0,.int .i64 0,.int .u32 0,.int .u32 0,.bool false,.int .i64 0,.int .i64 0,.slice none 0 0,.slice none 0 0,.slice none 0 0,.int .i64 0] 102 (0,0)):=by rw [<-c];exact Q6 (Q2 rfl)
 have i:a.heap[w.heap.size+1]?=some (.cells #[.int .u32 4,.int .u32 0] 95 (0,0)):=by rw [<-c];exact Q2 zy
 obtain⟨p,d,o⟩:=Zh3 l g i;clear l g i;have f:=Q0.setRow a w.heap.size #[.string ⟨#[70]⟩,.int .i64 0,.int .u32 0,.int .u32 0,.bool false,.int .i64 0,.int .i64 0,.slice none 0 0,.int .i64 6,.int .u32 0,.int .u32 0,.bool false,.int .i64 0,.int .i64 0,.slice none 0 0,.slice (some ⟨w.heap.size+1,0,none⟩) 1 1,.slice none 0 0,.int .i64 1];have m:=setRow_heap _ _ _ #[.string ⟨#[70]⟩,.int .i64 0,.int .u32 0,.int .u32 0,.bool false,.int .i64 0,.int .i64 0,.slice none 0 0,.int .i64 6,.int .u32 0,.int .u32 0,.bool false,.int .i64 0,.int .i64 0,.slice none 0 0,.slice (some ⟨w.heap.size+1,0,none⟩) 1 1,.slice none 0 0,.int .i64 1] _ _ d.out;have j:=f.heap o.out oz;have k:Ext w (a.setRow w.heap.size #[.string ⟨#[70]⟩,.int .i64 0,.int .u32 0,.int .u32 0,.bool false,.int .i64 0,.int .i64 0,.slice none 0 0,.int .i64 6,.int .u32 0,.int .u32 0,.bool false,.int .i64 0,.int .i64 0,.slice none 0 0,.slice (some ⟨w.heap.size+1,0,none⟩) 1 1,.slice none 0 0,.int .i64 1]):=p.out.after f (fun b hb e=>by omega);obtain⟨r,n⟩:=zE (a.setRow w.heap.size #[.string ⟨#[70]⟩,.int .i64 0,.int .u32 0,.int .u32 0,.bool false,.int .i64 0,.int .i64 0,.slice none 0 0,.int .i64 6,.int .u32 0,.int .u32 0,.bool false,.int .i64 0,.int .i64 0,.slice none 0 0,.slice (some ⟨w.heap.size+1,0,none⟩) 1 1,.slice none 0 0,.int .i64 1]);rw [n] at m k j;clear f;have q:Hid ((((w.alloc (.cells #[.string ⟨#[]⟩,.int .i64 0,.int .u32 0,.int .u32 0,.bool false,.int .i64 0,.int .i64 0,.slice none 0 0,.int .i64 0,.int .u32 0,.int .u32 0,.bool false,.int .i64 0,.int .i64 0,.slice none 0 0,.slice none 0 0,.slice none 0 0,.int .i64 0] 102)).alloc (.cells #[.int .u32 4,.int .u32 0] 95))).heap[w.heap.size]?=some (.cells #[.string ⟨#[]⟩,.int .i64 0,.int .u32 0,.int .u32 0,.bool false,.int .i64 0,.int .i64 0,.slice none 0 0,.int .i64 0,.int .u32 0,.int .u32 0,.bool false,.int .i64 0,.int .i64 0,.slice none 0 0,.slice none 0 0,.slice none 0 0,.int .i64 0] 102 (0,0))):=Zh (by rw [c];exact d.out)
 go_wp2_with (first | (refine wpList_store_row rfl 102 (.tmp 0) (.tmp 4) rfl w.heap.size #[.string ⟨#[70]⟩,.int .i64 0,.int .u32 0,.int .u32 0,.bool false,.int .i64 0,.int .i64 0,.slice none 0 0,.int .i64 6,.int .u32 0,.int .u32 0,.bool false,.int .i64 0,.int .i64 0,.slice none 0 0,.slice (some ⟨w.heap.size+1,0,none⟩) 1 1,.slice none 0 0,.int .i64 1] zr zr _ _ d.out kz rfl kz ?_;try rw [n]))
 try simp only [Act.put]
 go_wp2;exact bodyPost_ret (Nz rfl rfl m kz) rfl ⟨w.heap.size+1,rfl,⟨[.int .i64 0,.int .u32 0,.int .u32 0,.bool false,.int .i64 0,.int .i64 0,.slice none 0 0],[.int .i64 6,.int .u32 0,.int .u32 0,.bool false,.int .i64 0,.int .i64 0,.slice none 0 0],_,_,rfl,by decide,Gb _ _ 0 false 0 0 zd zd,Gb _ _ 6 false 0 0 zd zd,⟨Yd (xs:=Zt [(4,0)]) j rfl zd,by simp [X3]⟩,⟨⟨rfl,by simp [maxLen],none,0,rfl,fun h=>by simp at h⟩,by simp [Jl]⟩⟩,k⟩
theorem Qbu(w:World):Calls Tryz.prog 93 #[] w fun e w'=>∃ g1 g2:Nat,e=.returned (.agg #[.string ⟨#[85]⟩,.int .i64 0,.int .u32 0,.int .u32 0,.bool false,.int .i64 0,.int .i64 0,.slice none 0 0,.int .i64 6,.int .u32 0,.int .u32 0,.bool false,.int .i64 0,.int .i64 0,.slice none 0 0,.slice (some ⟨g1,0,none⟩) 1 1,.slice (some ⟨g2,0,none⟩) 1 1,.int .i64 1])/\Zf w' uD [.string ⟨#[85]⟩,.int .i64 0,.int .u32 0,.int .u32 0,.bool false,.int .i64 0,.int .i64 0,.slice none 0 0,.int .i64 6,.int .u32 0,.int .u32 0,.bool false,.int .i64 0,.int .i64 0,.slice none 0 0,.slice (some ⟨g1,0,none⟩) 1 1,.slice (some ⟨g2,0,none⟩) 1 1,.int .i64 1]/\Ext w w':=by
 go_enter Tryz.func93,Tryz.ntmps93;obtain⟨a,c⟩:=zE (((w.alloc (.cells #[.string ⟨#[]⟩,.int .i64 0,.int .u32 0,.int .u32 0,.bool false,.int .i64 0,.int .i64 0,.slice none 0 0,.int .i64 0,.int .u32 0,.int .u32 0,.bool false,.int .i64 0,.int .i64 0,.slice none 0 0,.slice none 0 0,.slice none 0 0,.int .i64 0] 102)).alloc (.cells #[.int .u32 2,.int .u32 0] 95)).alloc (.cells #[.int .i64 0,.int .u32 0,.int .u32 0,.int .u32 1,.int .u32 0,.int .i64 0] 109));have n:Ext w a:=by rw [<-c];exact(((Q0.refl _ w).alloc _).alloc _).alloc _
 have g:a.heap[w.heap.size]?=some (.cells #[.string ⟨#[]⟩,.int .i64 0,.int .u32 0,.int .u32 0,.bool false,.int .i64 0,.int .i64 0,.slice none 0 0,.int .i64 0,.int .u32 0,.int .u32 0,.bool false,.int .i64 0,.int .i64 0,.slice none 0 0,.slice none 0 0,.slice none 0 0,.int .i64 0] 102 (0,0)):=by rw [<-c];exact Q6 (Q6 (Q2 rfl))
 have i:a.heap[w.heap.size+1]?=some (.cells #[.int .u32 2,.int .u32 0] 95 (0,0)):=by rw [<-c];exact Q6 (Q2 zy)
 have j:a.heap[w.heap.size+2]?=some (.cells #[.int .i64 0,.int .u32 0,.int .u32 0,.int .u32 1,.int .u32 0,.int .i64 0] 109 (0,0)):=by rw [<-c];exact Q2 zy
 obtain⟨s,f,q,r⟩:=Zh4 n g i j;clear n g i j;have d:=Q0.setRow a w.heap.size #[.string ⟨#[85]⟩,.int .i64 0,.int .u32 0,.int .u32 0,.bool false,.int .i64 0,.int .i64 0,.slice none 0 0,.int .i64 6,.int .u32 0,.int .u32 0,.bool false,.int .i64 0,.int .i64 0,.slice none 0 0,.slice (some ⟨w.heap.size+1,0,none⟩) 1 1,.slice (some ⟨w.heap.size+2,0,none⟩) 1 1,.int .i64 1];have o:=setRow_heap _ _ _ #[.string ⟨#[85]⟩,.int .i64 0,.int .u32 0,.int .u32 0,.bool false,.int .i64 0,.int .i64 0,.slice none 0 0,.int .i64 6,.int .u32 0,.int .u32 0,.bool false,.int .i64 0,.int .i64 0,.slice none 0 0,.slice (some ⟨w.heap.size+1,0,none⟩) 1 1,.slice (some ⟨w.heap.size+2,0,none⟩) 1 1,.int .i64 1] _ _ f.out;have k:=d.heap q.out oz;have l:=d.heap r.out oz;have m:Ext w (a.setRow w.heap.size #[.string ⟨#[85]⟩,.int .i64 0,.int .u32 0,.int .u32 0,.bool false,.int .i64 0,.int .i64 0,.slice none 0 0,.int .i64 6,.int .u32 0,.int .u32 0,.bool false,.int .i64 0,.int .i64 0,.slice none 0 0,.slice (some ⟨w.heap.size+1,0,none⟩) 1 1,.slice (some ⟨w.heap.size+2,0,none⟩) 1 1,.int .i64 1]):=s.out.after d (fun b hb e=>by omega);obtain⟨u,p⟩:=zE (a.setRow w.heap.size #[.string ⟨#[85]⟩,.int .i64 0,.int .u32 0,.int .u32 0,.bool false,.int .i64 0,.int .i64 0,.slice none 0 0,.int .i64 6,.int .u32 0,.int .u32 0,.bool false,.int .i64 0,.int .i64 0,.slice none 0 0,.slice (some ⟨w.heap.size+1,0,none⟩) 1 1,.slice (some ⟨w.heap.size+2,0,none⟩) 1 1,.int .i64 1]);rw [p] at o m k l;clear d;have t:Hid (((((w.alloc (.cells #[.string ⟨#[]⟩,.int .i64 0,.int .u32 0,.int .u32 0,.bool false,.int .i64 0,.int .i64 0,.slice none 0 0,.int .i64 0,.int .u32 0,.int .u32 0,.bool false,.int .i64 0,.int .i64 0,.slice none 0 0,.slice none 0 0,.slice none 0 0,.int .i64 0] 102)).alloc (.cells #[.int .u32 2,.int .u32 0] 95)).alloc (.cells #[.int .i64 0,.int .u32 0,.int .u32 0,.int .u32 1,.int .u32 0,.int .i64 0] 109))).heap[w.heap.size]?=some (.cells #[.string ⟨#[]⟩,.int .i64 0,.int .u32 0,.int .u32 0,.bool false,.int .i64 0,.int .i64 0,.slice none 0 0,.int .i64 0,.int .u32 0,.int .u32 0,.bool false,.int .i64 0,.int .i64 0,.slice none 0 0,.slice none 0 0,.slice none 0 0,.int .i64 0] 102 (0,0))):=Zh (by rw [c];exact f.out)
 go_wp2_with (first | (refine wpList_store_row rfl 102 (.tmp 0) (.tmp 7) rfl w.heap.size #[.string ⟨#[85]⟩,.int .i64 0,.int .u32 0,.int .u32 0,.bool false,.int .i64 0,.int .i64 0,.slice none 0 0,.int .i64 6,.int .u32 0,.int .u32 0,.bool false,.int .i64 0,.int .i64 0,.slice none 0 0,.slice (some ⟨w.heap.size+1,0,none⟩) 1 1,.slice (some ⟨w.heap.size+2,0,none⟩) 1 1,.int .i64 1] zr zr _ _ f.out kz rfl kz ?_;try rw [p]))
 try simp only [Act.put]
 go_wp2;exact bodyPost_ret (Nz rfl rfl o kz) rfl ⟨w.heap.size+1,w.heap.size+2,rfl,⟨[.int .i64 0,.int .u32 0,.int .u32 0,.bool false,.int .i64 0,.int .i64 0,.slice none 0 0],[.int .i64 6,.int .u32 0,.int .u32 0,.bool false,.int .i64 0,.int .i64 0,.slice none 0 0],_,_,rfl,by decide,Gb _ _ 0 false 0 0 zd zd,Gb _ _ 6 false 0 0 zd zd,⟨Yd (xs:=Zt [(2,0)]) k rfl zd,by simp [X3]⟩,⟨Yd (xs:=Nn [⟨0,0,(0,1),0,0⟩]) l rfl zd,by simp [Jl,Zl]⟩⟩,m⟩
theorem Q5y(w:World):Calls Tryz.prog 52 #[] w fun e w'=>∃ g1 g2:Nat,e=.returned (.agg #[.string ⟨#[86]⟩,.int .i64 1,.int .u32 4,.int .u32 0,.bool false,.int .i64 0,.int .i64 0,.slice none 0 0,.int .i64 1,.int .u32 4,.int .u32 0,.bool false,.int .i64 0,.int .i64 0,.slice none 0 0,.slice (some ⟨g1,0,none⟩) 1 1,.slice (some ⟨g2,0,none⟩) 1 1,.int .i64 1])/\Zf w' vD [.string ⟨#[86]⟩,.int .i64 1,.int .u32 4,.int .u32 0,.bool false,.int .i64 0,.int .i64 0,.slice none 0 0,.int .i64 1,.int .u32 4,.int .u32 0,.bool false,.int .i64 0,.int .i64 0,.slice none 0 0,.slice (some ⟨g1,0,none⟩) 1 1,.slice (some ⟨g2,0,none⟩) 1 1,.int .i64 1]/\Ext w w':=by
 go_enter Tryz.func52,Tryz.ntmps52;obtain⟨a,c⟩:=zE ((((w.alloc (.cells #[.string ⟨#[]⟩,.int .i64 0,.int .u32 0,.int .u32 0,.bool false,.int .i64 0,.int .i64 0,.slice none 0 0,.int .i64 0,.int .u32 0,.int .u32 0,.bool false,.int .i64 0,.int .i64 0,.slice none 0 0,.slice none 0 0,.slice none 0 0,.int .i64 0] 102)).alloc (.cells #[.int .i64 1,.int .u32 4,.int .u32 0,.bool false,.int .i64 0,.int .i64 0,.slice none 0 0] 98)).alloc (.cells #[.int .u32 2,.int .u32 0] 95)).alloc (.cells #[.int .i64 0,.int .u32 0,.int .u32 1,.int .u32 0,.int .u32 0,.int .i64 0] 109));have o:Ext w a:=by rw [<-c];exact((((Q0.refl _ w).alloc _).alloc _).alloc _).alloc _
 have g:a.heap[w.heap.size]?=some (.cells #[.string ⟨#[]⟩,.int .i64 0,.int .u32 0,.int .u32 0,.bool false,.int .i64 0,.int .i64 0,.slice none 0 0,.int .i64 0,.int .u32 0,.int .u32 0,.bool false,.int .i64 0,.int .i64 0,.slice none 0 0,.slice none 0 0,.slice none 0 0,.int .i64 0] 102 (0,0)):=by rw [<-c];exact Q6 (Q6 (Q6 (Q2 rfl)))
 have i:a.heap[w.heap.size+1]?=some (.cells #[.int .i64 1,.int .u32 4,.int .u32 0,.bool false,.int .i64 0,.int .i64 0,.slice none 0 0] 98 (0,0)):=by rw [<-c];exact Q6 (Q6 (Q2 zy))
 have j:a.heap[w.heap.size+2]?=some (.cells #[.int .u32 2,.int .u32 0] 95 (0,0)):=by rw [<-c];exact Q6 (Q2 zy)
 have k:a.heap[w.heap.size+3]?=some (.cells #[.int .i64 0,.int .u32 0,.int .u32 1,.int .u32 0,.int .u32 0,.int .i64 0] 109 (0,0)):=by rw [<-c];exact Q2 zy
 obtain⟨t,f,u,r,s⟩:=Zh5 o g i j k;clear o g i j k;have d:=Q0.setRow a w.heap.size #[.string ⟨#[86]⟩,.int .i64 1,.int .u32 4,.int .u32 0,.bool false,.int .i64 0,.int .i64 0,.slice none 0 0,.int .i64 1,.int .u32 4,.int .u32 0,.bool false,.int .i64 0,.int .i64 0,.slice none 0 0,.slice (some ⟨w.heap.size+2,0,none⟩) 1 1,.slice (some ⟨w.heap.size+3,0,none⟩) 1 1,.int .i64 1];have p:=setRow_heap _ _ _ #[.string ⟨#[86]⟩,.int .i64 1,.int .u32 4,.int .u32 0,.bool false,.int .i64 0,.int .i64 0,.slice none 0 0,.int .i64 1,.int .u32 4,.int .u32 0,.bool false,.int .i64 0,.int .i64 0,.slice none 0 0,.slice (some ⟨w.heap.size+2,0,none⟩) 1 1,.slice (some ⟨w.heap.size+3,0,none⟩) 1 1,.int .i64 1] _ _ f.out;have l:=d.heap r.out oz;have m:=d.heap s.out oz;have n:Ext w (a.setRow w.heap.size #[.string ⟨#[86]⟩,.int .i64 1,.int .u32 4,.int .u32 0,.bool false,.int .i64 0,.int .i64 0,.slice none 0 0,.int .i64 1,.int .u32 4,.int .u32 0,.bool false,.int .i64 0,.int .i64 0,.slice none 0 0,.slice (some ⟨w.heap.size+2,0,none⟩) 1 1,.slice (some ⟨w.heap.size+3,0,none⟩) 1 1,.int .i64 1]):=t.out.after d (fun b hb e=>by omega);obtain⟨x,q⟩:=zE (a.setRow w.heap.size #[.string ⟨#[86]⟩,.int .i64 1,.int .u32 4,.int .u32 0,.bool false,.int .i64 0,.int .i64 0,.slice none 0 0,.int .i64 1,.int .u32 4,.int .u32 0,.bool false,.int .i64 0,.int .i64 0,.slice none 0 0,.slice (some ⟨w.heap.size+2,0,none⟩) 1 1,.slice (some ⟨w.heap.size+3,0,none⟩) 1 1,.int .i64 1]);rw [q] at p n l m;clear d;have v:Hid ((((((w.alloc (.cells #[.string ⟨#[]⟩,.int .i64 0,.int .u32 0,.int .u32 0,.bool false,.int .i64 0,.int .i64 0,.slice none 0 0,.int .i64 0,.int .u32 0,.int .u32 0,.bool false,.int .i64 0,.int .i64 0,.slice none 0 0,.slice none 0 0,.slice none 0 0,.int .i64 0] 102)).alloc (.cells #[.int .i64 1,.int .u32 4,.int .u32 0,.bool false,.int .i64 0,.int .i64 0,.slice none 0 0] 98)).alloc (.cells #[.int .u32 2,.int .u32 0] 95)).alloc (.cells #[.int .i64 0,.int .u32 0,.int .u32 1,.int .u32 0,.int .u32 0,.int .i64 0] 109))).heap[w.heap.size]?=some (.cells #[.string ⟨#[]⟩,.int .i64 0,.int .u32 0,.int .u32 0,.bool false,.int .i64 0,.int .i64 0,.slice none 0 0,.int .i64 0,.int .u32 0,.int .u32 0,.bool false,.int .i64 0,.int .i64 0,.slice none 0 0,.slice none 0 0,.slice none 0 0,.int .i64 0] 102 (0,0))):=Zh (by rw [c];exact f.out)
 go_wp2_with (first | (refine wpList_load_row rfl 98 (.tmp 1) rfl (w.heap.size+1) zr _ _ _ (by first | exact Q2 zy | exact Q2 rfl) Tryz.underlying98 rfl Q7y ?_) | (refine wpList_store_row rfl 102 (.tmp 0) (.tmp 11) rfl w.heap.size #[.string ⟨#[86]⟩,.int .i64 1,.int .u32 4,.int .u32 0,.bool false,.int .i64 0,.int .i64 0,.slice none 0 0,.int .i64 1,.int .u32 4,.int .u32 0,.bool false,.int .i64 0,.int .i64 0,.slice none 0 0,.slice (some ⟨w.heap.size+2,0,none⟩) 1 1,.slice (some ⟨w.heap.size+3,0,none⟩) 1 1,.int .i64 1] zr zr _ _ f.out kz rfl kz ?_;try rw [q]))
 try simp only [Act.put]
 go_wp2;exact bodyPost_ret (Nz rfl rfl p kz) rfl ⟨w.heap.size+2,w.heap.size+3,rfl,⟨[.int .i64 1,.int .u32 4,.int .u32 0,.bool false,.int .i64 0,.int .i64 0,.slice none 0 0],[.int .i64 1,.int .u32 4,.int .u32 0,.bool false,.int .i64 0,.int .i64 0,.slice none 0 0],_,_,rfl,by decide,Gb _ _ 1 false 0 0 zd zd,Gb _ _ 1 false 0 0 zd zd,⟨Yd (xs:=Zt [(2,0)]) l rfl zd,by simp [X3]⟩,⟨Yd (xs:=Nn [⟨0,0,(1,0),0,0⟩]) m rfl zd,by simp [Jl,Zl]⟩⟩,n⟩
theorem Sc(w:World)(ao:Option Addr)(n c:Nat):Calls Tryz.prog 54 #[.slice ao n c] w fun e w'=>∃ g:Nat,e=.returned (.agg #[.slice (some ⟨g,0,none⟩) 3 3,.slice ao n c])/\Qb w' (.slice (some ⟨g,0,none⟩) 3 3) Zz/\Ext w w':=by
 go_enter Tryz.func54,Tryz.ntmps54;go_upto_region 1 with (fail)
 obtain⟨H,i⟩:=zE (w.alloc (.cells #[.slice none 0 0,.slice none 0 0] 105));have B:Ext w H:=by rw [<-i];exact(Q0.refl _ w).alloc _
 have o:H.heap[w.heap.size]?=some (.cells #[.slice none 0 0,.slice none 0 0] 105 (0,0)):=by rw [<-i];exact Q2 rfl
 rw [i];obtain⟨d,m⟩:=zE w.heap.size;rw [m] at o ⊢;obtain⟨t,u,J⟩:=Zh3 o B m;clear i B o m;go_wp2_with fail;refine(R5 _).mono ?_;rintro e N ⟨rfl,p⟩;go_wp2_with fail;refine(Q43 _).mono ?_;rintro e O ⟨rfl,q⟩;go_wp2_with fail;refine(R5 _).mono ?_;rintro e a ⟨rfl,r⟩;have y:=Ext.keep (p.trans (q.trans r)) t.out;have v:=Zh (u.out.trans (p.trans (q.trans r)));have l:=Zh y;clear y p q r t u;obtain⟨f,j⟩:=zE (a.alloc (.cells #[.int .u32 5,.int .u32 2,.int .u32 2,.int .u32 5,.int .u32 5,.int .u32 2] 95));have z:f.heap[d]?=some (.cells #[.slice none 0 0,.slice none 0 0] 105 (0,0)):=by rw [<-j];exact Q6 l.out
 have A:f.heap[a.heap.size]?=some (.cells #[.int .u32 5,.int .u32 2,.int .u32 2,.int .u32 5,.int .u32 5,.int .u32 2] 95 (0,0)):=by rw [<-j];exact Q2 rfl
 have C:Ext w f:=by rw [<-j];exact v.out.trans ((Q0.refl _ a).alloc _)
 obtain⟨k,I,K⟩:=Zh3 z A C;have M:d<a.heap.size:=(Array.getElem?_eq_some_iff.1 l.out).1;clear z A C l v;have s:=Q0.setRow f d #[.slice (some ⟨a.heap.size,0,none⟩) 3 3,.slice ao n c];have F:=setRow_heap _ _ _ #[.slice (some ⟨a.heap.size,0,none⟩) 3 3,.slice ao n c] _ _ k.out;have x:=s.heap I.out oz;have E:=K.out.after s (fun b hb e=>by have:=J.out;omega);obtain⟨P,G⟩:=zE (f.setRow d #[.slice (some ⟨a.heap.size,0,none⟩) 3 3,.slice ao n c]);rw [G] at F x E;clear s;have L:Hid ((a.alloc (.cells #[.int .u32 5,.int .u32 2,.int .u32 2,.int .u32 5,.int .u32 5,.int .u32 2] 95)).heap[d]?=some (.cells #[.slice none 0 0,.slice none 0 0] 105 (0,0))):=Zh (by rw [j];exact k.out)
 go_wp2_with (refine wpList_store_row rfl 105 (.tmp 2) (.tmp 8) rfl d #[.slice (some ⟨a.heap.size,0,none⟩) 3 3,.slice ao n c] (by rfl) (by rfl) _ _ k.out kz rfl kz ?_;try rw [G])
 try simp only [Act.put]
 go_wp2;exact bodyPost_ret (Q5a rfl rfl F Lg) rfl ⟨a.heap.size,rfl,⟨Yd (xs:=Zt Zz) x rfl zd,by simp [X3]⟩,E⟩
theorem Hl(w:World)(b8:Tab w):Calls Tryz.prog 33 #[] w fun e w'=>e=.returned (.bool true)/\Ext w w':=by
 go_enter Tryz.func33,Tryz.ntmps33;have l5:Ext w w:=Q0.refl _ _;go_wp2_with fail;refine(Q5y _).mono ?_;rintro e l2 ⟨N,O,rfl,q2,c⟩;have l6:Ext w l2:=l5.trans c;have u4:=c;have k3:Hid (∀ a,Ext l2 a->Zf a vD [.string ⟨#[86]⟩,.int .i64 1,.int .u32 4,.int .u32 0,.bool false,.int .i64 0,.int .i64 0,.slice none 0 0,.int .i64 1,.int .u32 4,.int .u32 0,.bool false,.int .i64 0,.int .i64 0,.slice none 0 0,.slice (some ⟨N,0,none⟩) 1 1,.slice (some ⟨O,0,none⟩) 1 1,.int .i64 1]):=Zh (fun a f=>q2.ext f);clear q2;clear c;go_wp2_with fail;refine(Q5u _).mono ?_;rintro e l4 ⟨P,rfl,q3,c⟩;have m3:Ext w l4:=l6.trans c;have u7:=c;have k4:Hid (∀ a,Ext l4 a->Zf a fD [.string ⟨#[70]⟩,.int .i64 0,.int .u32 0,.int .u32 0,.bool false,.int .i64 0,.int .i64 0,.slice none 0 0,.int .i64 6,.int .u32 0,.int .u32 0,.bool false,.int .i64 0,.int .i64 0,.slice none 0 0,.slice (some ⟨P,0,none⟩) 1 1,.slice none 0 0,.int .i64 1]):=Zh (fun a f=>q3.ext f);clear q3;have r0:=c;clear c;go_wp2_with fail;refine(Qbu _).mono ?_;rintro e b1 ⟨Q,R,rfl,q4,c⟩;have n3:Ext w b1:=m3.trans c;have w1:=c;have k5:Hid (∀ a,Ext b1 a->Zf a uD [.string ⟨#[85]⟩,.int .i64 0,.int .u32 0,.int .u32 0,.bool false,.int .i64 0,.int .i64 0,.slice none 0 0,.int .i64 6,.int .u32 0,.int .u32 0,.bool false,.int .i64 0,.int .i64 0,.slice none 0 0,.slice (some ⟨Q,0,none⟩) 1 1,.slice (some ⟨R,0,none⟩) 1 1,.int .i64 1]):=Zh (fun a f=>q4.ext f);clear q4;have a7:=c;clear c;obtain⟨T,f5⟩:=zE (b1.alloc (.cells #[.string ⟨#[86]⟩,.int .i64 1,.int .u32 4,.int .u32 0,.bool false,.int .i64 0,.int .i64 0,.slice none 0 0,.int .i64 1,.int .u32 4,.int .u32 0,.bool false,.int .i64 0,.int .i64 0,.slice none 0 0,.slice (some ⟨N,0,none⟩) 1 1,.slice (some ⟨O,0,none⟩) 1 1,.int .i64 1,.string ⟨#[70]⟩,.int .i64 0,.int .u32 0,.int .u32 0,.bool false,.int .i64 0,.int .i64 0,.slice none 0 0,.int .i64 6,.int .u32 0,.int .u32 0,.bool false,.int .i64 0,.int .i64 0,.slice none 0 0,.slice (some ⟨P,0,none⟩) 1 1,.slice none 0 0,.int .i64 1,.string ⟨#[85]⟩,.int .i64 0,.int .u32 0,.int .u32 0,.bool false,.int .i64 0,.int .i64 0,.slice none 0 0,.int .i64 6,.int .u32 0,.int .u32 0,.bool false,.int .i64 0,.int .i64 0,.slice none 0 0,.slice (some ⟨Q,0,none⟩) 1 1,.slice (some ⟨R,0,none⟩) 1 1,.int .i64 1] 102));have n8:Ext w T:=by rw [<-f5];exact n3.alloc _
 have j2:T.heap[b1.heap.size]?=some (.cells #[.string ⟨#[86]⟩,.int .i64 1,.int .u32 4,.int .u32 0,.bool false,.int .i64 0,.int .i64 0,.slice none 0 0,.int .i64 1,.int .u32 4,.int .u32 0,.bool false,.int .i64 0,.int .i64 0,.slice none 0 0,.slice (some ⟨N,0,none⟩) 1 1,.slice (some ⟨O,0,none⟩) 1 1,.int .i64 1,.string ⟨#[70]⟩,.int .i64 0,.int .u32 0,.int .u32 0,.bool false,.int .i64 0,.int .i64 0,.slice none 0 0,.int .i64 6,.int .u32 0,.int .u32 0,.bool false,.int .i64 0,.int .i64 0,.slice none 0 0,.slice (some ⟨P,0,none⟩) 1 1,.slice none 0 0,.int .i64 1,.string ⟨#[85]⟩,.int .i64 0,.int .u32 0,.int .u32 0,.bool false,.int .i64 0,.int .i64 0,.slice none 0 0,.int .i64 6,.int .u32 0,.int .u32 0,.bool false,.int .i64 0,.int .i64 0,.slice none 0 0,.slice (some ⟨Q,0,none⟩) 1 1,.slice (some ⟨R,0,none⟩) 1 1,.int .i64 1] 102 (0,0)):=by rw [<-f5];exact Q2 rfl
 have d6:Ext b1 T:=by rw [<-f5];exact(Q0.refl _ b1).alloc _
 have w6:=d6;obtain⟨k0,p3⟩:=zE b1.heap.size;rw [p3] at j2
 have d3:Qz T (.slice (some ⟨k0,0,none⟩) 3 3) [(vD,[.string ⟨#[86]⟩,.int .i64 1,.int .u32 4,.int .u32 0,.bool false,.int .i64 0,.int .i64 0,.slice none 0 0,.int .i64 1,.int .u32 4,.int .u32 0,.bool false,.int .i64 0,.int .i64 0,.slice none 0 0,.slice (some ⟨N,0,none⟩) 1 1,.slice (some ⟨O,0,none⟩) 1 1,.int .i64 1]),(fD,[.string ⟨#[70]⟩,.int .i64 0,.int .u32 0,.int .u32 0,.bool false,.int .i64 0,.int .i64 0,.slice none 0 0,.int .i64 6,.int .u32 0,.int .u32 0,.bool false,.int .i64 0,.int .i64 0,.slice none 0 0,.slice (some ⟨P,0,none⟩) 1 1,.slice none 0 0,.int .i64 1]),(uD,[.string ⟨#[85]⟩,.int .i64 0,.int .u32 0,.int .u32 0,.bool false,.int .i64 0,.int .i64 0,.slice none 0 0,.int .i64 6,.int .u32 0,.int .u32 0,.bool false,.int .i64 0,.int .i64 0,.slice none 0 0,.slice (some ⟨Q,0,none⟩) 1 1,.slice (some ⟨R,0,none⟩) 1 1,.int .i64 1])]:=⟨Yd (xs:=[.string ⟨#[86]⟩,.int .i64 1,.int .u32 4,.int .u32 0,.bool false,.int .i64 0,.int .i64 0,.slice none 0 0,.int .i64 1,.int .u32 4,.int .u32 0,.bool false,.int .i64 0,.int .i64 0,.slice none 0 0,.slice (some ⟨N,0,none⟩) 1 1,.slice (some ⟨O,0,none⟩) 1 1,.int .i64 1,.string ⟨#[70]⟩,.int .i64 0,.int .u32 0,.int .u32 0,.bool false,.int .i64 0,.int .i64 0,.slice none 0 0,.int .i64 6,.int .u32 0,.int .u32 0,.bool false,.int .i64 0,.int .i64 0,.slice none 0 0,.slice (some ⟨P,0,none⟩) 1 1,.slice none 0 0,.int .i64 1,.string ⟨#[85]⟩,.int .i64 0,.int .u32 0,.int .u32 0,.bool false,.int .i64 0,.int .i64 0,.slice none 0 0,.int .i64 6,.int .u32 0,.int .u32 0,.bool false,.int .i64 0,.int .i64 0,.slice none 0 0,.slice (some ⟨Q,0,none⟩) 1 1,.slice (some ⟨R,0,none⟩) 1 1,.int .i64 1]) j2 rfl zd,fun p z=>by
  simp only [List.mem_cons,List.not_mem_nil,or_false] at z;rcases z with rfl | rfl | rfl
  ·exact k3.out _ (r0.trans (a7.trans d6))
  ·exact k4.out _ (a7.trans d6)
  ·exact k5.out _ d6⟩
 have b4:Hid (∀ a,Ext T a->Qz a (.slice (some ⟨k0,0,none⟩) 3 3) [(vD,[.string ⟨#[86]⟩,.int .i64 1,.int .u32 4,.int .u32 0,.bool false,.int .i64 0,.int .i64 0,.slice none 0 0,.int .i64 1,.int .u32 4,.int .u32 0,.bool false,.int .i64 0,.int .i64 0,.slice none 0 0,.slice (some ⟨N,0,none⟩) 1 1,.slice (some ⟨O,0,none⟩) 1 1,.int .i64 1]),(fD,[.string ⟨#[70]⟩,.int .i64 0,.int .u32 0,.int .u32 0,.bool false,.int .i64 0,.int .i64 0,.slice none 0 0,.int .i64 6,.int .u32 0,.int .u32 0,.bool false,.int .i64 0,.int .i64 0,.slice none 0 0,.slice (some ⟨P,0,none⟩) 1 1,.slice none 0 0,.int .i64 1]),(uD,[.string ⟨#[85]⟩,.int .i64 0,.int .u32 0,.int .u32 0,.bool false,.int .i64 0,.int .i64 0,.slice none 0 0,.int .i64 6,.int .u32 0,.int .u32 0,.bool false,.int .i64 0,.int .i64 0,.slice none 0 0,.slice (some ⟨Q,0,none⟩) 1 1,.slice (some ⟨R,0,none⟩) 1 1,.int .i64 1])]):=Zh (fun a f=>d3.ext f);clear d3 k3 k4 k5 r0 a7 d6;go_wp2_with fail;refine(R5 _).mono ?_;rintro e t2 ⟨rfl,c⟩;have n9:Ext w t2:=n8.trans c;have t5:=c;clear f5 p3 j2;clear c;go_wp2_with fail;refine(Qbd _).mono ?_;rintro e b6 ⟨rfl,c⟩;have o0:Ext w b6:=n9.trans c;have t6:=c;clear c;obtain⟨e1,f6⟩:=zE (b6.alloc (.cells #[.int .u32 5,.int .u32 2,.int .u32 3,.int .u32 4] 95));have o1:Ext w e1:=by rw [<-f6];exact o0.alloc _
 have i4:e1.heap[b6.heap.size]?=some (.cells #[.int .u32 5,.int .u32 2,.int .u32 3,.int .u32 4] 95 (0,0)):=by rw [<-f6];exact Q2 rfl
 have r1:Ext b6 e1:=by rw [<-f6];exact(Q0.refl _ b6).alloc _
 have t7:=r1;obtain⟨j,o5⟩:=zE b6.heap.size;rw [o5] at i4;have a8:Hid (∀ a,Ext e1 a->Qb a (.slice (some ⟨j,0,none⟩) 2 2) abO):=Zh (fun a f=>Qb.ext ⟨Yd (xs:=Zt abO) i4 rfl zd,by simp [X3]⟩ f);clear r1;go_wp2_with fail;refine(Sc _ _ _ _).mono ?_;rintro e a6 ⟨k,rfl,d2,c⟩;have o2:Ext w a6:=o1.trans c;have t8:=c;have b7:Hid (∀ a,Ext a6 a->Qb a (.slice (some ⟨k,0,none⟩) 3 3) Zz):=Zh (fun a f=>d2.ext f);have a8:Hid (∀ a,Ext a6 a->Qb a (.slice (some ⟨j,0,none⟩) 2 2) abO):=Zh (fun a f=>a8.out a (c.trans f));clear c d2;clear f6 o5 i4;obtain⟨F,f7⟩:=zE (a6.alloc (.cells #[.slice (some ⟨k,0,none⟩) 3 3,.slice (some ⟨j,0,none⟩) 2 2] 105));have o3:Ext w F:=by rw [<-f7];exact o2.alloc _
 have e4:F.heap[a6.heap.size]?=some (.cells #[.slice (some ⟨k,0,none⟩) 3 3,.slice (some ⟨j,0,none⟩) 2 2] 105 (0,0)):=by rw [<-f7];exact Q2 rfl
 have c1:Ext a6 F:=by rw [<-f7];exact(Q0.refl _ a6).alloc _
 have t9:=c1;obtain⟨d9,p6⟩:=zE a6.heap.size;rw [p6] at e4
 have z:Z3 F (.slice (some ⟨d9,0,none⟩) 1 1) [((Zz,abO),[.slice (some ⟨k,0,none⟩) 3 3,.slice (some ⟨j,0,none⟩) 2 2])]:=⟨Yd (xs:=[.slice (some ⟨k,0,none⟩) 3 3,.slice (some ⟨j,0,none⟩) 2 2]) e4 rfl zd,fun p z=>by
  simp only [List.mem_cons,List.not_mem_nil,or_false] at z;subst z;exact⟨rfl,_,_,rfl,⟨_,3,rfl,b7.out _ c1,Nat.le_refl 3⟩,⟨_,2,rfl,a8.out _ c1,Nat.le_refl 2⟩⟩⟩
 have c6:Hid (∀ a,Ext F a->Z3 a (.slice (some ⟨d9,0,none⟩) 1 1) [((Zz,abO),[.slice (some ⟨k,0,none⟩) 3 3,.slice (some ⟨j,0,none⟩) 2 2])]):=Zh (fun a f=>Qj z f);have k2:Hid (∀ a,Ext F a->a.heap[d9]?=some (.cells #[.slice (some ⟨k,0,none⟩) 3 3,.slice (some ⟨j,0,none⟩) 2 2] 105 (0,0))):=Zh (fun a f=>Ext.keep f e4);have a8:Hid (∀ a,Ext F a->Qb a (.slice (some ⟨j,0,none⟩) 2 2) abO):=Zh (fun a f=>a8.out a (c1.trans f));have b7:Hid (∀ a,Ext F a->Qb a (.slice (some ⟨k,0,none⟩) 3 3) Zz):=Zh (fun a f=>b7.out a (c1.trans f));clear z e4 c1;go_wp2_with fail;refine(R5 _).mono ?_;rintro e t0 ⟨rfl,c⟩;have l7:Ext w t0:=o3.trans c;have r2:=c;clear f7 p6;clear c;go_wp2_with fail;refine(Q43 _).mono ?_;rintro e b5 ⟨rfl,c⟩;have l8:Ext w b5:=l7.trans c;have r3:=c;clear c;obtain⟨e0,e5⟩:=zE (b5.alloc (.cells #[.int .u32 5,.int .u32 2,.int .u32 2,.int .u32 5] 95));have l9:Ext w e0:=by rw [<-e5];exact l8.alloc _
 have i6:e0.heap[b5.heap.size]?=some (.cells #[.int .u32 5,.int .u32 2,.int .u32 2,.int .u32 5] 95 (0,0)):=by rw [<-e5];exact Q2 rfl
 have q9:Ext b5 e0:=by rw [<-e5];exact(Q0.refl _ b5).alloc _
 have r4:=q9;obtain⟨t,o7⟩:=zE b5.heap.size;rw [o7] at i6;have b3:Hid (∀ a,Ext e0 a->Qb a (.slice (some ⟨t,0,none⟩) 2 2) apO):=Zh (fun a f=>Qb.ext ⟨Yd (xs:=Zt apO) i6 rfl zd,by simp [X3]⟩ f);clear q9;go_wp2_with fail;refine(Sc _ _ _ _).mono ?_;rintro e a0 ⟨u,rfl,d2,c⟩;have m0:Ext w a0:=l9.trans c;have r5:=c;have c9:Hid (∀ a,Ext a0 a->Qb a (.slice (some ⟨u,0,none⟩) 3 3) Zz):=Zh (fun a f=>d2.ext f);have b3:Hid (∀ a,Ext a0 a->Qb a (.slice (some ⟨t,0,none⟩) 2 2) apO):=Zh (fun a f=>b3.out a (c.trans f));clear c d2;clear e5 o7 i6;obtain⟨o,e6⟩:=zE (a0.alloc (.cells #[.slice (some ⟨u,0,none⟩) 3 3,.slice (some ⟨t,0,none⟩) 2 2] 105));have e2:Ext w o:=by rw [<-e6];exact m0.alloc _
 have i3:o.heap[a0.heap.size]?=some (.cells #[.slice (some ⟨u,0,none⟩) 3 3,.slice (some ⟨t,0,none⟩) 2 2] 105 (0,0)):=by rw [<-e6];exact Q2 rfl
 have g0:Ext a0 o:=by rw [<-e6];exact(Q0.refl _ a0).alloc _
 have r6:=g0;obtain⟨j8,o4⟩:=zE a0.heap.size;rw [o4] at i3;have k1:Hid (∀ a,Ext o a->a.heap[j8]?=some (.cells #[.slice (some ⟨u,0,none⟩) 3 3,.slice (some ⟨t,0,none⟩) 2 2] 105 (0,0))):=Zh (fun a f=>Ext.keep f i3);have b3:Hid (∀ a,Ext o a->Qb a (.slice (some ⟨t,0,none⟩) 2 2) apO):=Zh (fun a f=>b3.out a (g0.trans f));have c9:Hid (∀ a,Ext o a->Qb a (.slice (some ⟨u,0,none⟩) 3 3) Zz):=Zh (fun a f=>c9.out a (g0.trans f));go_upto_region 3 with (fail)
 clear e6 o4 i3 g0;have D:Ext T o:=(t5.trans (t6.trans (t7.trans (t8.trans (t9.trans (r2.trans (r3.trans (r4.trans (r5.trans r6)))))))));have r:Ext F o:=(r2.trans (r3.trans (r4.trans (r5.trans r6))))
 go_cut [4,5,6] from 30 to 40 (fun v4 v5 v6 wx=>v4=.int .i64 1/\v5=.bool true/\v6=.int .i64 0/\Ext o wx)
 case first=>
  have I:Ext o o.drew:=(Q0.refl _ o).drew;refine Qv (S:=fun a=>Ext o a) [] kz I ?_;intro _;obtain⟨Z,p7⟩:=zE o.drew;rw [p7] at I ⊢;clear p7;refine tE 0 30 I ?_;refine tkE (i:=2) (d:=32) (v:=?_) rfl (Or.inl ⟨by rfl,?_⟩) I ?_;rotate_left
  ·intro a f;have j5:=k1.out a (show Ext o a from f);refine Vd (x:=.tmp 3) ?_ j8 ?_ _ _ _ j5 Tryz.underlying105 Lg <;> rfl
  try simp only [Act.put,pq]
  refine tE 3 33 I ?_;refine tE 4 34 I ?_;refine tkE (i:=5) (d:=35) (v:=?_) rfl (Or.inl ⟨by rfl,?_⟩) I ?_;rotate_left
  ·intro a f;have j5:=k2.out a (r.trans (show Ext o a from f));refine Vd (x:=.tmp 34) ?_ d9 ?_ _ _ _ j5 Tryz.underlying105 Lg <;> rfl
  try simp only [Act.put,pq]
  refine rE [1,6] ?_;refine Q1.cons rfl (fun K hK=>?_) (Q1.cons rfl (fun K hK=>?_) Q1.nil)
  ·refine iw rfl ?_;go_simp;obtain⟨y,n⟩:=zE (Z.alloc (.cells #[.int .i64 0,.int .i64 1,.int .i64 2] 3));have B:y.heap[Z.heap.size]?=some (.cells #[.int .i64 0,.int .i64 1,.int .i64 2] 3 (0,0)):=by rw [<-n];exact Q2 rfl
   have J:Ext o y:=by rw [<-n];exact I.alloc _
   rw [n];obtain⟨g4,d0⟩:=zE Z.heap.size;rw [d0] at B ⊢;have g6:Hid (∀ a,Ext y a->Rd a (.slice (some ⟨g4,0,none⟩) 3 3) 3 1 (Zv [0,1,2])):=Zh (fun a f=>(Yd (xs:=Zv [0,1,2]) B rfl zd).ext f);have t3:Ext Z y:=by rw [<-n];exact(Q0.refl _ _).alloc _
   clear n B d0;refine hK _ _ J (fun _=>?_);clear hK K;try simp only [Act.put,pq]
   refine rE [6] ?_;refine Q1.cons rfl (fun K hK=>?_) Q1.nil;refine iw rfl ?_;go_simp;obtain⟨H,n⟩:=zE (y.alloc (.cells #[.slice (some ⟨u,0,none⟩) 3 3,.slice (some ⟨t,0,none⟩) 2 2,.slice (some ⟨k,0,none⟩) 3 3,.slice (some ⟨j,0,none⟩) 2 2] 105));have B:H.heap[y.heap.size]?=some (.cells #[.slice (some ⟨u,0,none⟩) 3 3,.slice (some ⟨t,0,none⟩) 2 2,.slice (some ⟨k,0,none⟩) 3 3,.slice (some ⟨j,0,none⟩) 2 2] 105 (0,0)):=by rw [<-n];exact Q2 rfl
   have C:Ext o H:=by rw [<-n];exact J.alloc _
   rw [n];obtain⟨c5,d1⟩:=zE y.heap.size;rw [d1] at B ⊢
   have g7:Hid (∀ a,Ext H a->Z3 a (.slice (some ⟨c5,0,none⟩) 2 2) [((Zz,apO),[.slice (some ⟨u,0,none⟩) 3 3,.slice (some ⟨t,0,none⟩) 2 2]),((Zz,abO),[.slice (some ⟨k,0,none⟩) 3 3,.slice (some ⟨j,0,none⟩) 2 2])]):=Zh (fun a f=>Qj (v:=.slice (some ⟨c5,0,none⟩) 2 2) ⟨Yd (xs:=[.slice (some ⟨u,0,none⟩) 3 3,.slice (some ⟨t,0,none⟩) 2 2,.slice (some ⟨k,0,none⟩) 3 3,.slice (some ⟨j,0,none⟩) 2 2]) B rfl zd,fun p z=>by
    simp only [List.mem_cons,List.not_mem_nil,or_false] at z;rcases z with rfl | rfl
    ·exact⟨rfl,_,_,rfl,⟨_,3,rfl,c9.out _ C,Nat.le_refl 3⟩,⟨_,2,rfl,b3.out _ C,Nat.le_refl 2⟩⟩
    ·exact⟨rfl,_,_,rfl,⟨_,3,rfl,b7.out _ (r.trans C),Nat.le_refl 3⟩,⟨_,2,rfl,a8.out _ (r.trans C),Nat.le_refl 2⟩⟩⟩ f)
   have j6:Ext y H:=by rw [<-n];exact(Q0.refl _ _).alloc _
   clear n B d1;refine hK _ _ C (fun _=>?_);clear hK K;try simp only [Act.put,pq]
   refine rE [7] ?_;refine Q1.cons rfl (fun K hK=>?_) Q1.nil;refine iw rfl ?_;go_simp;have l:=Q19 (qs:=[((Zz,apO),[.slice (some ⟨u,0,none⟩) 3 3,.slice (some ⟨t,0,none⟩) 2 2]),((Zz,abO),[.slice (some ⟨k,0,none⟩) 3 3,.slice (some ⟨j,0,none⟩) 2 2])]) rfl;have g:=Nq (w:=H) (ps:=[(vD,[.string ⟨#[86]⟩,.int .i64 1,.int .u32 4,.int .u32 0,.bool false,.int .i64 0,.int .i64 0,.slice none 0 0,.int .i64 1,.int .u32 4,.int .u32 0,.bool false,.int .i64 0,.int .i64 0,.slice none 0 0,.slice (some ⟨N,0,none⟩) 1 1,.slice (some ⟨O,0,none⟩) 1 1,.int .i64 1]),(fD,[.string ⟨#[70]⟩,.int .i64 0,.int .u32 0,.int .u32 0,.bool false,.int .i64 0,.int .i64 0,.slice none 0 0,.int .i64 6,.int .u32 0,.int .u32 0,.bool false,.int .i64 0,.int .i64 0,.slice none 0 0,.slice (some ⟨P,0,none⟩) 1 1,.slice none 0 0,.int .i64 1]),(uD,[.string ⟨#[85]⟩,.int .i64 0,.int .u32 0,.int .u32 0,.bool false,.int .i64 0,.int .i64 0,.slice none 0 0,.int .i64 6,.int .u32 0,.int .u32 0,.bool false,.int .i64 0,.int .i64 0,.slice none 0 0,.slice (some ⟨Q,0,none⟩) 1 1,.slice (some ⟨R,0,none⟩) 1 1,.int .i64 1])]) (qs:=[((Zz,apO),[.slice (some ⟨u,0,none⟩) 3 3,.slice (some ⟨t,0,none⟩) 2 2]),((Zz,abO),[.slice (some ⟨k,0,none⟩) 3 3,.slice (some ⟨j,0,none⟩) 2 2])]) (xs:=[0,1,2]) (b4.out _ (D.trans C)) rfl (g6.out _ j6) rfl (g7.out _ (Q0.refl _ _)) rfl (b8.keep (e2.trans C) id);simp only [List.map_cons,List.map_nil] at g l;rw [l.1,l.2.1,l.2.2] at g;have m:=Zh g;clear g l;refine m.out.mono ?_;rintro e g8 ⟨rfl,c⟩;have q:Ext o g8:=C.trans c;clear c m;refine hK _ _ q (fun _=>?_);clear hK K;try simp only [Act.put,pq]
   refine tE 8 29 q ?_;refine tE 9 38 q ?_;refine tE 10 39 q ?_;refine tE 11 40 q ?_;refine tE 12 4 q ?_;refine tE 13 5 q ?_;refine tE 14 6 q ?_;refine Ql kz ?_ _;have g5:=Zh q;clear q C J I;go_wp2
   go_meet
   case rel=>exact⟨rfl,rfl,rfl,g5.out⟩
  ·refine iw rfl ?_;go_simp;obtain⟨y,n⟩:=zE (Z.alloc (.cells #[.slice (some ⟨u,0,none⟩) 3 3,.slice (some ⟨t,0,none⟩) 2 2,.slice (some ⟨k,0,none⟩) 3 3,.slice (some ⟨j,0,none⟩) 2 2] 105));have B:y.heap[Z.heap.size]?=some (.cells #[.slice (some ⟨u,0,none⟩) 3 3,.slice (some ⟨t,0,none⟩) 2 2,.slice (some ⟨k,0,none⟩) 3 3,.slice (some ⟨j,0,none⟩) 2 2] 105 (0,0)):=by rw [<-n];exact Q2 rfl
   have J:Ext o y:=by rw [<-n];exact I.alloc _
   rw [n];obtain⟨c5,d1⟩:=zE Z.heap.size;rw [d1] at B ⊢
   have g7:Hid (∀ a,Ext y a->Z3 a (.slice (some ⟨c5,0,none⟩) 2 2) [((Zz,apO),[.slice (some ⟨u,0,none⟩) 3 3,.slice (some ⟨t,0,none⟩) 2 2]),((Zz,abO),[.slice (some ⟨k,0,none⟩) 3 3,.slice (some ⟨j,0,none⟩) 2 2])]):=Zh (fun a f=>Qj (v:=.slice (some ⟨c5,0,none⟩) 2 2) ⟨Yd (xs:=[.slice (some ⟨u,0,none⟩) 3 3,.slice (some ⟨t,0,none⟩) 2 2,.slice (some ⟨k,0,none⟩) 3 3,.slice (some ⟨j,0,none⟩) 2 2]) B rfl zd,fun p z=>by
    simp only [List.mem_cons,List.not_mem_nil,or_false] at z;rcases z with rfl | rfl
    ·exact⟨rfl,_,_,rfl,⟨_,3,rfl,c9.out _ J,Nat.le_refl 3⟩,⟨_,2,rfl,b3.out _ J,Nat.le_refl 2⟩⟩
    ·exact⟨rfl,_,_,rfl,⟨_,3,rfl,b7.out _ (r.trans J),Nat.le_refl 3⟩,⟨_,2,rfl,a8.out _ (r.trans J),Nat.le_refl 2⟩⟩⟩ f)
   have t3:Ext Z y:=by rw [<-n];exact(Q0.refl _ _).alloc _
   clear n B d1;refine hK _ _ J (fun _=>?_);clear hK K;try simp only [Act.put,pq]
   refine rE [1] ?_;refine Q1.cons rfl (fun K hK=>?_) Q1.nil;refine iw rfl ?_;go_simp;obtain⟨H,n⟩:=zE (y.alloc (.cells #[.int .i64 0,.int .i64 1,.int .i64 2] 3));have B:H.heap[y.heap.size]?=some (.cells #[.int .i64 0,.int .i64 1,.int .i64 2] 3 (0,0)):=by rw [<-n];exact Q2 rfl
   have C:Ext o H:=by rw [<-n];exact J.alloc _
   rw [n];obtain⟨g4,d0⟩:=zE y.heap.size;rw [d0] at B ⊢;have g6:Hid (∀ a,Ext H a->Rd a (.slice (some ⟨g4,0,none⟩) 3 3) 3 1 (Zv [0,1,2])):=Zh (fun a f=>(Yd (xs:=Zv [0,1,2]) B rfl zd).ext f);have j6:Ext y H:=by rw [<-n];exact(Q0.refl _ _).alloc _
   clear n B d0;refine hK _ _ C (fun _=>?_);clear hK K;try simp only [Act.put,pq]
   refine rE [7] ?_;refine Q1.cons rfl (fun K hK=>?_) Q1.nil;refine iw rfl ?_;go_simp;have l:=Q19 (qs:=[((Zz,apO),[.slice (some ⟨u,0,none⟩) 3 3,.slice (some ⟨t,0,none⟩) 2 2]),((Zz,abO),[.slice (some ⟨k,0,none⟩) 3 3,.slice (some ⟨j,0,none⟩) 2 2])]) rfl;have g:=Nq (w:=H) (ps:=[(vD,[.string ⟨#[86]⟩,.int .i64 1,.int .u32 4,.int .u32 0,.bool false,.int .i64 0,.int .i64 0,.slice none 0 0,.int .i64 1,.int .u32 4,.int .u32 0,.bool false,.int .i64 0,.int .i64 0,.slice none 0 0,.slice (some ⟨N,0,none⟩) 1 1,.slice (some ⟨O,0,none⟩) 1 1,.int .i64 1]),(fD,[.string ⟨#[70]⟩,.int .i64 0,.int .u32 0,.int .u32 0,.bool false,.int .i64 0,.int .i64 0,.slice none 0 0,.int .i64 6,.int .u32 0,.int .u32 0,.bool false,.int .i64 0,.int .i64 0,.slice none 0 0,.slice (some ⟨P,0,none⟩) 1 1,.slice none 0 0,.int .i64 1]),(uD,[.string ⟨#[85]⟩,.int .i64 0,.int .u32 0,.int .u32 0,.bool false,.int .i64 0,.int .i64 0,.slice none 0 0,.int .i64 6,.int .u32 0,.int .u32 0,.bool false,.int .i64 0,.int .i64 0,.slice none 0 0,.slice (some ⟨Q,0,none⟩) 1 1,.slice (some ⟨R,0,none⟩) 1 1,.int .i64 1])]) (qs:=[((Zz,apO),[.slice (some ⟨u,0,none⟩) 3 3,.slice (some ⟨t,0,none⟩) 2 2]),((Zz,abO),[.slice (some ⟨k,0,none⟩) 3 3,.slice (some ⟨j,0,none⟩) 2 2])]) (xs:=[0,1,2]) (b4.out _ (D.trans C)) rfl (g6.out _ (Q0.refl _ _)) rfl (g7.out _ j6) rfl (b8.keep (e2.trans C) id);simp only [List.map_cons,List.map_nil] at g l;rw [l.1,l.2.1,l.2.2] at g;have m:=Zh g;clear g l;refine m.out.mono ?_;rintro e g8 ⟨rfl,c⟩;have q:Ext o g8:=C.trans c;clear c m;refine hK _ _ q (fun _=>?_);clear hK K;try simp only [Act.put,pq]
   refine tE 8 29 q ?_;refine tE 9 38 q ?_;refine tE 10 39 q ?_;refine tE 11 40 q ?_;refine tE 12 4 q ?_;refine tE 13 5 q ?_;refine tE 14 6 q ?_;refine Ql kz ?_ _;have g5:=Zh q;clear q C J I;go_wp2
   go_meet
   case rel=>exact⟨rfl,rfl,rfl,g5.out⟩
 case rest=>
  obtain⟨rfl,rfl,rfl,f8⟩:=hcut;have e3:Ext w wc:=e2.trans f8;have D:Ext T wc:=D.trans f8;have r:Ext F wc:=r.trans f8;generalize wc=t1 at e3 D r ⊢;clear f8 k1 a8 b7 b3 c9 k2;have g:=N6 (w:=t1) (ps:=[(vD,[.string ⟨#[86]⟩,.int .i64 1,.int .u32 4,.int .u32 0,.bool false,.int .i64 0,.int .i64 0,.slice none 0 0,.int .i64 1,.int .u32 4,.int .u32 0,.bool false,.int .i64 0,.int .i64 0,.slice none 0 0,.slice (some ⟨N,0,none⟩) 1 1,.slice (some ⟨O,0,none⟩) 1 1,.int .i64 1]),(fD,[.string ⟨#[70]⟩,.int .i64 0,.int .u32 0,.int .u32 0,.bool false,.int .i64 0,.int .i64 0,.slice none 0 0,.int .i64 6,.int .u32 0,.int .u32 0,.bool false,.int .i64 0,.int .i64 0,.slice none 0 0,.slice (some ⟨P,0,none⟩) 1 1,.slice none 0 0,.int .i64 1]),(uD,[.string ⟨#[85]⟩,.int .i64 0,.int .u32 0,.int .u32 0,.bool false,.int .i64 0,.int .i64 0,.slice none 0 0,.int .i64 6,.int .u32 0,.int .u32 0,.bool false,.int .i64 0,.int .i64 0,.slice none 0 0,.slice (some ⟨Q,0,none⟩) 1 1,.slice (some ⟨R,0,none⟩) 1 1,.int .i64 1])]) (qs:=[((Zz,abO),[.slice (some ⟨k,0,none⟩) 3 3,.slice (some ⟨j,0,none⟩) 2 2])]) (b4.out _ D) rfl (c6.out _ r) rfl (b8.keep e3 id);have l:=Q28 (qs:=[((Zz,abO),[.slice (some ⟨k,0,none⟩) 3 3,.slice (some ⟨j,0,none⟩) 2 2])]) rfl;simp only [List.map_cons,List.map_nil] at g l;have b2:=Dw (qs:=[((Zz,abO),[.slice (some ⟨k,0,none⟩) 3 3,.slice (some ⟨j,0,none⟩) 2 2])]) rfl;simp only [List.map_cons,List.map_nil] at b2;rw [l.1,l.2,b2] at g;simp only [List.length_cons,List.length_nil] at g;clear b2;have m:=Zh g;clear g l;go_wp2_with fail;refine(m.out).mono ?_;rintro e c7 ⟨r9,r8,rfl,M,c⟩;have i0:Ext w c7:=e3.trans c;have u5:=c;have D:Ext T c7:=D.trans c;have r:Ext F c7:=r.trans c;clear m;have k9:Hid (∀ a,Ext c7 a->Rd a (.slice r9 3 r8) 3 1 (Qd [0,2,1])):=Zh (fun a f=>M.ext f);clear M c;have g:=Fr (w:=c7) (ps:=[(vD,[.string ⟨#[86]⟩,.int .i64 1,.int .u32 4,.int .u32 0,.bool false,.int .i64 0,.int .i64 0,.slice none 0 0,.int .i64 1,.int .u32 4,.int .u32 0,.bool false,.int .i64 0,.int .i64 0,.slice none 0 0,.slice (some ⟨N,0,none⟩) 1 1,.slice (some ⟨O,0,none⟩) 1 1,.int .i64 1]),(fD,[.string ⟨#[70]⟩,.int .i64 0,.int .u32 0,.int .u32 0,.bool false,.int .i64 0,.int .i64 0,.slice none 0 0,.int .i64 6,.int .u32 0,.int .u32 0,.bool false,.int .i64 0,.int .i64 0,.slice none 0 0,.slice (some ⟨P,0,none⟩) 1 1,.slice none 0 0,.int .i64 1]),(uD,[.string ⟨#[85]⟩,.int .i64 0,.int .u32 0,.int .u32 0,.bool false,.int .i64 0,.int .i64 0,.slice none 0 0,.int .i64 6,.int .u32 0,.int .u32 0,.bool false,.int .i64 0,.int .i64 0,.slice none 0 0,.slice (some ⟨Q,0,none⟩) 1 1,.slice (some ⟨R,0,none⟩) 1 1,.int .i64 1])]) (qs:=[((Zz,abO),[.slice (some ⟨k,0,none⟩) 3 3,.slice (some ⟨j,0,none⟩) 2 2])]) (most:=9) (b4.out _ D) rfl (c6.out _ r) rfl (b8.keep i0 id);have l:=Qbl (qs:=[((Zz,abO),[.slice (some ⟨k,0,none⟩) 3 3,.slice (some ⟨j,0,none⟩) 2 2])]) rfl;simp only [List.map_cons,List.map_nil] at g l;have b2:=Dw (qs:=[((Zz,abO),[.slice (some ⟨k,0,none⟩) 3 3,.slice (some ⟨j,0,none⟩) 2 2])]) rfl
  simp only [List.map_cons,List.map_nil] at b2;rw [l,b2] at g;simp only [List.length_cons,List.length_nil] at g;clear b2;have m:=Zh g;clear g l;go_wp2_with fail;refine(m.out).mono ?_;rintro e c8 ⟨s1,s0,rfl,M,c⟩;have i1:Ext w c8:=i0.trans c;have t4:=c;have D:Ext T c8:=D.trans c;have r:Ext F c8:=r.trans c;clear m;have l0:Hid (∀ a,Ext c8 a->Za a (.slice s1 2 s0) [[0,2,1],[2,0,1]]):=Zh (fun a f=>Za.ext M f);clear M c;have g:=Fw (w:=c8) (ps:=[(vD,[.string ⟨#[86]⟩,.int .i64 1,.int .u32 4,.int .u32 0,.bool false,.int .i64 0,.int .i64 0,.slice none 0 0,.int .i64 1,.int .u32 4,.int .u32 0,.bool false,.int .i64 0,.int .i64 0,.slice none 0 0,.slice (some ⟨N,0,none⟩) 1 1,.slice (some ⟨O,0,none⟩) 1 1,.int .i64 1]),(fD,[.string ⟨#[70]⟩,.int .i64 0,.int .u32 0,.int .u32 0,.bool false,.int .i64 0,.int .i64 0,.slice none 0 0,.int .i64 6,.int .u32 0,.int .u32 0,.bool false,.int .i64 0,.int .i64 0,.slice none 0 0,.slice (some ⟨P,0,none⟩) 1 1,.slice none 0 0,.int .i64 1]),(uD,[.string ⟨#[85]⟩,.int .i64 0,.int .u32 0,.int .u32 0,.bool false,.int .i64 0,.int .i64 0,.slice none 0 0,.int .i64 6,.int .u32 0,.int .u32 0,.bool false,.int .i64 0,.int .i64 0,.slice none 0 0,.slice (some ⟨Q,0,none⟩) 1 1,.slice (some ⟨R,0,none⟩) 1 1,.int .i64 1])]) (qs:=[((Zz,abO),[.slice (some ⟨k,0,none⟩) 3 3,.slice (some ⟨j,0,none⟩) 2 2])]) (b4.out _ D) rfl (c6.out _ r) rfl (b8.keep i1 id);have l:=Qat (qs:=[((Zz,abO),[.slice (some ⟨k,0,none⟩) 3 3,.slice (some ⟨j,0,none⟩) 2 2])]) rfl;simp only [List.map_cons,List.map_nil] at g l;rw [l.1,l.2] at g;simp only [List.length_cons,List.length_nil] at g;have m:=Zh g;clear g l;go_wp2_with fail;refine(m.out).mono ?_;rintro e E ⟨s3,s2,rfl,M,c⟩;have m1:Ext w E:=i1.trans c;have r7:=c;have D:Ext T E:=D.trans c;have r:Ext F E:=r.trans c;clear m;have l1:Hid (∀ a,Ext E a->Rd a (.slice s3 2 s2) 2 2 (prs [(0,1),(2,1)])):=Zh (fun a f=>M.ext f);clear M c;go_wp2_with fail;refine(Q5y _).mono ?_;rintro e l3 ⟨c2,c3,rfl,q5,c⟩;have m2:Ext w l3:=m1.trans c;have u6:=c;have k6:Hid (∀ a,Ext l3 a->Zf a vD [.string ⟨#[86]⟩,.int .i64 1,.int .u32 4,.int .u32 0,.bool false,.int .i64 0,.int .i64 0,.slice none 0 0,.int .i64 1,.int .u32 4,.int .u32 0,.bool false,.int .i64 0,.int .i64 0,.slice none 0 0,.slice (some ⟨c2,0,none⟩) 1 1,.slice (some ⟨c3,0,none⟩) 1 1,.int .i64 1]):=Zh (fun a f=>q5.ext f);clear q5;have j7:=c;clear c;go_wp2_with fail;refine(Q5u _).mono ?_;rintro e a9 ⟨c4,rfl,q6,c⟩;have m4:Ext w a9:=m2.trans c;have u8:=c;have k7:Hid (∀ a,Ext a9 a->Zf a fD [.string ⟨#[70]⟩,.int .i64 0,.int .u32 0,.int .u32 0,.bool false,.int .i64 0,.int .i64 0,.slice none 0 0,.int .i64 6,.int .u32 0,.int .u32 0,.bool false,.int .i64 0,.int .i64 0,.slice none 0 0,.slice (some ⟨c4,0,none⟩) 1 1,.slice none 0 0,.int .i64 1]):=Zh (fun a f=>q6.ext f);clear q6;have f9:=c;clear c;obtain⟨U,e7⟩:=zE (a9.alloc (.cells #[.string ⟨#[86]⟩,.int .i64 1,.int .u32 4,.int .u32 0,.bool false,.int .i64 0,.int .i64 0,.slice none 0 0,.int .i64 1,.int .u32 4,.int .u32 0,.bool false,.int .i64 0,.int .i64 0,.slice none 0 0,.slice (some ⟨c2,0,none⟩) 1 1,.slice (some ⟨c3,0,none⟩) 1 1,.int .i64 1,.string ⟨#[70]⟩,.int .i64 0,.int .u32 0,.int .u32 0,.bool false,.int .i64 0,.int .i64 0,.slice none 0 0,.int .i64 6,.int .u32 0,.int .u32 0,.bool false,.int .i64 0,.int .i64 0,.slice none 0 0,.slice (some ⟨c4,0,none⟩) 1 1,.slice none 0 0,.int .i64 1] 102))
  have m5:Ext w U:=by rw [<-e7];exact m4.alloc _
  have j3:U.heap[a9.heap.size]?=some (.cells #[.string ⟨#[86]⟩,.int .i64 1,.int .u32 4,.int .u32 0,.bool false,.int .i64 0,.int .i64 0,.slice none 0 0,.int .i64 1,.int .u32 4,.int .u32 0,.bool false,.int .i64 0,.int .i64 0,.slice none 0 0,.slice (some ⟨c2,0,none⟩) 1 1,.slice (some ⟨c3,0,none⟩) 1 1,.int .i64 1,.string ⟨#[70]⟩,.int .i64 0,.int .u32 0,.int .u32 0,.bool false,.int .i64 0,.int .i64 0,.slice none 0 0,.int .i64 6,.int .u32 0,.int .u32 0,.bool false,.int .i64 0,.int .i64 0,.slice none 0 0,.slice (some ⟨c4,0,none⟩) 1 1,.slice none 0 0,.int .i64 1] 102 (0,0)):=by rw [<-e7];exact Q2 rfl
  have b9:Ext a9 U:=by rw [<-e7];exact(Q0.refl _ a9).alloc _
  have u9:=b9;obtain⟨s7,p4⟩:=zE a9.heap.size;rw [p4] at j3
  have d3:Qz U (.slice (some ⟨s7,0,none⟩) 2 2) [(vD,[.string ⟨#[86]⟩,.int .i64 1,.int .u32 4,.int .u32 0,.bool false,.int .i64 0,.int .i64 0,.slice none 0 0,.int .i64 1,.int .u32 4,.int .u32 0,.bool false,.int .i64 0,.int .i64 0,.slice none 0 0,.slice (some ⟨c2,0,none⟩) 1 1,.slice (some ⟨c3,0,none⟩) 1 1,.int .i64 1]),(fD,[.string ⟨#[70]⟩,.int .i64 0,.int .u32 0,.int .u32 0,.bool false,.int .i64 0,.int .i64 0,.slice none 0 0,.int .i64 6,.int .u32 0,.int .u32 0,.bool false,.int .i64 0,.int .i64 0,.slice none 0 0,.slice (some ⟨c4,0,none⟩) 1 1,.slice none 0 0,.int .i64 1])]:=⟨Yd (xs:=[.string ⟨#[86]⟩,.int .i64 1,.int .u32 4,.int .u32 0,.bool false,.int .i64 0,.int .i64 0,.slice none 0 0,.int .i64 1,.int .u32 4,.int .u32 0,.bool false,.int .i64 0,.int .i64 0,.slice none 0 0,.slice (some ⟨c2,0,none⟩) 1 1,.slice (some ⟨c3,0,none⟩) 1 1,.int .i64 1,.string ⟨#[70]⟩,.int .i64 0,.int .u32 0,.int .u32 0,.bool false,.int .i64 0,.int .i64 0,.slice none 0 0,.int .i64 6,.int .u32 0,.int .u32 0,.bool false,.int .i64 0,.int .i64 0,.slice none 0 0,.slice (some ⟨c4,0,none⟩) 1 1,.slice none 0 0,.int .i64 1]) j3 rfl zd,fun p z=>by
   simp only [List.mem_cons,List.not_mem_nil,or_false] at z;rcases z with rfl | rfl
   ·exact k6.out _ (f9.trans b9)
   ·exact k7.out _ b9⟩
  obtain⟨b0,e8⟩:=zE (U.alloc (.cells #[.int .i64 0,.int .i64 1] 3));have i2:Ext w b0:=by rw [<-e8];exact m5.alloc _
  have j4:b0.heap[U.heap.size]?=some (.cells #[.int .i64 0,.int .i64 1] 3 (0,0)):=by rw [<-e8];exact Q2 rfl
  have d4:Ext U b0:=by rw [<-e8];exact(Q0.refl _ U).alloc _
  have v0:=d4;obtain⟨s8,p5⟩:=zE U.heap.size;rw [p5] at j4;have q0:=d3.ext d4;have q1:Rd b0 (.slice (some ⟨s8,0,none⟩) 2 2) 2 1 (Zv [0,1]):=Yd (xs:=Zv [0,1]) j4 rfl zd;have r:Ext F b0:=r.trans (j7.trans (f9.trans (b9.trans d4)));have s:Ext E b0:=j7.trans (f9.trans (b9.trans d4));have g:=Mw (w:=b0) (ps:=[(vD,[.string ⟨#[86]⟩,.int .i64 1,.int .u32 4,.int .u32 0,.bool false,.int .i64 0,.int .i64 0,.slice none 0 0,.int .i64 1,.int .u32 4,.int .u32 0,.bool false,.int .i64 0,.int .i64 0,.slice none 0 0,.slice (some ⟨c2,0,none⟩) 1 1,.slice (some ⟨c3,0,none⟩) 1 1,.int .i64 1]),(fD,[.string ⟨#[70]⟩,.int .i64 0,.int .u32 0,.int .u32 0,.bool false,.int .i64 0,.int .i64 0,.slice none 0 0,.int .i64 6,.int .u32 0,.int .u32 0,.bool false,.int .i64 0,.int .i64 0,.slice none 0 0,.slice (some ⟨c4,0,none⟩) 1 1,.slice none 0 0,.int .i64 1])]) (qs:=[((Zz,abO),[.slice (some ⟨k,0,none⟩) 3 3,.slice (some ⟨j,0,none⟩) 2 2])]) (xs:=[0,1]) q0 rfl q1 rfl (c6.out _ r) rfl (b8.keep i2 id);have l:=Qb3 (qs:=[((Zz,abO),[.slice (some ⟨k,0,none⟩) 3 3,.slice (some ⟨j,0,none⟩) 2 2])]) rfl;simp only [List.map_cons,List.map_nil] at g l;rw [l.1,l.2] at g;simp only [List.length_cons,List.length_nil] at g;have m:=Zh g;clear g l d3 q0 q1 k6 k7 j7 f9 j3 j4 b4 c6 D r;go_wp2_with fail;refine(m.out).mono ?_;rintro e A ⟨q8,q7,rfl,M,c⟩;have m6:Ext w A:=i2.trans c;have v1:=c;have s:Ext E A:=s.trans c;clear m e7 e8 p4 p5 b9 d4;have k8:Hid (∀ a,Ext A a->Rd a (.slice q8 1 q7) 1 1 (Qd [0])):=Zh (fun a f=>M.ext f);clear M c;obtain⟨a1,e9⟩:=zE (A.alloc (.cells #[.int .i64 0,.int .i64 2,.int .i64 1] 3));have m7:Ext w a1:=by rw [<-e9];exact m6.alloc _
  have i5:a1.heap[A.heap.size]?=some (.cells #[.int .i64 0,.int .i64 2,.int .i64 1] 3 (0,0)):=by rw [<-e9];exact Q2 rfl
  have a7:Ext A a1:=by rw [<-e9];exact(Q0.refl _ A).alloc _
  have v2:=a7;obtain⟨s4,o6⟩:=zE A.heap.size;rw [o6] at i5;have s:Ext E a1:=s.trans a7;have G:Ext A a1:=a7;have g:=Xe (.slice r9 3 r8) (.slice (some ⟨s4,0,none⟩) 3 3) [0,2,1] [0,2,1] a1 (k9.out _ ((t4.trans r7).trans s)) (Yd (xs:=Qd [0,2,1]) i5 rfl zd);rw [decide_eq_true rfl] at g;have m:=Zh g;clear g;go_wp2_with fail;refine m.out.mono ?_;rintro e V ⟨rfl,u0,L⟩;have c:Ext a1 V:=by rw [L];exact(Q0.refl _ a1).drewN _
  have m8:Ext w V:=m7.trans c;have v3:=c;have s:Ext E V:=s.trans c;clear m L e9 o6 i5 a7 k9;have G:Ext A V:=G.trans c;clear c;obtain⟨a2,f0⟩:=zE (V.alloc (.cells #[.int .i64 0,.int .i64 2,.int .i64 1] 3));have m9:Ext w a2:=by rw [<-f0];exact m8.alloc _
  have i7:a2.heap[V.heap.size]?=some (.cells #[.int .i64 0,.int .i64 2,.int .i64 1] 3 (0,0)):=by rw [<-f0];exact Q2 rfl
  have g1:Ext V a2:=by rw [<-f0];exact(Q0.refl _ V).alloc _
  have v7:=g1;obtain⟨d7,o8⟩:=zE V.heap.size;rw [o8] at i7;obtain⟨a3,f1⟩:=zE (a2.alloc (.cells #[.int .i64 2,.int .i64 0,.int .i64 1] 3));have n0:Ext w a3:=by rw [<-f1];exact m9.alloc _
  have i8:a3.heap[a2.heap.size]?=some (.cells #[.int .i64 2,.int .i64 0,.int .i64 1] 3 (0,0)):=by rw [<-f1];exact Q2 rfl
  have d5:Ext a2 a3:=by rw [<-f1];exact(Q0.refl _ a2).alloc _
  have v8:=d5;obtain⟨d8,o9⟩:=zE a2.heap.size;rw [o9] at i8;obtain⟨W,f2⟩:=zE (a3.alloc (.cells #[.slice (some ⟨d7,0,none⟩) 3 3,.slice (some ⟨d8,0,none⟩) 3 3] 48));have n1:Ext w W:=by rw [<-f2];exact n0.alloc _
  have i9:W.heap[a3.heap.size]?=some (.cells #[.slice (some ⟨d7,0,none⟩) 3 3,.slice (some ⟨d8,0,none⟩) 3 3] 48 (0,0)):=by rw [<-f2];exact Q2 rfl
  have c0:Ext a3 W:=by rw [<-f2];exact(Q0.refl _ a3).alloc _
  have v9:=c0;obtain⟨j9,p0⟩:=zE a3.heap.size;rw [p0] at i9;have s:Ext E W:=s.trans (g1.trans (d5.trans c0));have G:Ext A W:=G.trans (g1.trans (d5.trans c0))
  have p8:Za W (.slice (some ⟨j9,0,none⟩) 2 2) [[0,2,1],[2,0,1]]:=⟨[.slice (some ⟨d7,0,none⟩) 3 3,.slice (some ⟨d8,0,none⟩) 3 3],Yd (xs:=[.slice (some ⟨d7,0,none⟩) 3 3,.slice (some ⟨d8,0,none⟩) 3 3]) i9 rfl zd,fun i p9=>by
   have p9:i<2:=p9;rcases(by omega:i=0\/i=1) with rfl | rfl
   ·exact⟨_,_,rfl,(Yd (xs:=Qd [0,2,1]) i7 rfl (by show 3<=maxLen;decide)).ext (d5.trans c0)⟩
   ·exact⟨_,_,rfl,(Yd (xs:=Qd [2,0,1]) i8 rfl (by show 3<=maxLen;decide)).ext c0⟩⟩
  have g:=Sk (.slice s1 2 s0) (.slice (some ⟨j9,0,none⟩) 2 2) [[0,2,1],[2,0,1]] [[0,2,1],[2,0,1]] W (l0.out _ (r7.trans s)) p8;rw [decide_eq_true rfl] at g;have m:=Zh g;clear g;go_wp2_with fail;refine m.out.mono ?_;rintro e X ⟨rfl,u1,L⟩;have c:Ext W X:=by rw [L];exact(Q0.refl _ W).drewN _
  have n2:Ext w X:=n1.trans c;have w0:=c;have s:Ext E X:=s.trans c;clear m L f0 f1 f2 o8 o9 p0 i7 i8 i9 p8 g1 d5 c0 l0;have G:Ext A X:=G.trans c;clear c;obtain⟨a4,f3⟩:=zE (X.alloc (.cells #[.int .i64 0,.int .i64 1,.int .i64 2,.int .i64 1] 73));have n4:Ext w a4:=by rw [<-f3];exact n2.alloc _
  have j0:a4.heap[X.heap.size]?=some (.cells #[.int .i64 0,.int .i64 1,.int .i64 2,.int .i64 1] 73 (0,0)):=by rw [<-f3];exact Q2 rfl
  have g2:Ext X a4:=by rw [<-f3];exact(Q0.refl _ X).alloc _
  have w2:=g2;obtain⟨s5,p1⟩:=zE X.heap.size;rw [p1] at j0;have s:Ext E a4:=s.trans g2;have G:Ext A a4:=G.trans g2;have g:=Q7n (.slice s3 2 s2) (.slice (some ⟨s5,0,none⟩) 2 2) [(0,1),(2,1)] [(0,1),(2,1)] a4 (l1.out _ s) (Yd (xs:=prs [(0,1),(2,1)]) j0 rfl zd);rw [decide_eq_true rfl] at g;have m:=Zh g;clear g;go_wp2_with fail;refine m.out.mono ?_;rintro e Y ⟨rfl,u2,L⟩;have c:Ext a4 Y:=by rw [L];exact(Q0.refl _ a4).drewN _
  have n5:Ext w Y:=n4.trans c;have w3:=c;have s:Ext E Y:=s.trans c;clear m L f3 p1 j0 g2 l1;have G:Ext A Y:=G.trans c;clear c;obtain⟨a5,f4⟩:=zE (Y.alloc (.cells #[.int .i64 0] 3));have n6:Ext w a5:=by rw [<-f4];exact n5.alloc _
  have j1:a5.heap[Y.heap.size]?=some (.cells #[.int .i64 0] 3 (0,0)):=by rw [<-f4];exact Q2 rfl
  have g3:Ext Y a5:=by rw [<-f4];exact(Q0.refl _ Y).alloc _
  have w4:=g3;obtain⟨s6,p2⟩:=zE Y.heap.size;rw [p2] at j1;have G:Ext A a5:=G.trans g3;have s:Ext E a5:=s.trans g3;have g:=Xe (.slice q8 1 q7) (.slice (some ⟨s6,0,none⟩) 1 1) [0] [0] a5 (k8.out _ G) (Yd (xs:=Qd [0]) j1 rfl zd);rw [decide_eq_true rfl] at g;have m:=Zh g;clear g;go_wp2_with fail;refine m.out.mono ?_;rintro e g9 ⟨rfl,u3,L⟩;have c:Ext a5 g9:=by rw [L];exact(Q0.refl _ a5).drewN _
  have n7:Ext w g9:=n6.trans c;have w5:=c;have s:Ext E g9:=s.trans c;clear m L f4 p2 j1 g3 k8;have s9:=Zh n7;clear l5 l6 m3 n3 n8 n9 o0 o1 o2 o3 l7 l8 l9 m0 e2 e3 i0 i1 m1 m2 m4 m5 i2 m6 m7 m8 m9 n0 n1 n2 n4 n5 n6 n7;go_wp2;go_ret;exact⟨rfl,s9.out⟩
end Go.Proofs.YtfdlhlghcbeblaaGreatDoor
