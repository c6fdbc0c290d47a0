/- PLAIN: -/
import Derived.Test.YtfdlhlghcbeblaaGreatDoorX23
set_option maxRecDepth 100000
set_option maxHeartbeats 16000000
namespace Go.Proofs.YtfdlhlghcbeblaaGreatDoor
open Go.RowKit Go.Ab
def Q9n(xs:List Int)(n k:Nat):Prop:=(∀ x∈xs.take k,0<=x/\x<(n:Int))/\(xs.take k).Nodup
def Q9r(xs:List Int)(n k:Nat):List Value:=(List.range n).map fun(i:Nat)=>.bool (decide ((i:Int)∈xs.take k))
attribute [local go_sem] Oper.semAt_some Z8 Qp
theorem Q2b{a:Func}{t u v:Tmp}(h:a.results=#[.tmp t,.tmp u,.tmp v])(tmps:Array Value)(P:Program)(w:World) :
  (results a tmps).run P w=.ok (.tuple #[tmps.getD t undef,tmps.getD u undef,tmps.getD v undef]) w:=by
 simp [results,h,go_sem]
def Yx(xs:List Int):List Nat:=xs.map Int.toNat
theorem Kb{xs:List Int}{n:Nat}(h:Jl xs n=true):Qj (Yx xs)=Zs xs/\(∀ x∈Yx xs,x<n)/\(Yx xs).Perm (List.range n)/\xs=(Yx xs).map fun(i:Nat)=>(i:Int):=by
 unfold Jl at h;rw [decide_eq_true_eq] at h
 have e:∀ x∈xs,∃ i:Nat,i<n/\(i:Int)=x:=fun x a=>by
  obtain⟨i,c,b⟩:=List.mem_map.1 (h.mem_iff.1 a);exact⟨i,List.mem_range.1 c,b⟩
 have d:∀ x∈xs,((x.toNat:Nat):Int)=x:=fun x a=>by obtain⟨i,_,rfl⟩:=e x a;simp
 refine⟨?_,fun x a=>?_,?_,?_⟩
 ·unfold Qj Yx Zs;rw [List.map_map];apply List.map_congr_left;intro x a;show Value.int .i64 ((x.toNat:Nat):Int)=_;rw [d x a]
 ·obtain⟨g,f,rfl⟩:=List.mem_map.1 a;obtain⟨i,c,rfl⟩:=e g f
  simpa using c
 ·have:=h.map Int.toNat;rw [List.map_map] at this;have b:(List.range n).map (Int.toNat ∘ fun(i:Nat)=>(i:Int))=List.range n:=by
   conv=>rhs;rw [<-List.map_id (List.range n)]
   apply List.map_congr_left;intro i _;simp
  rw [b] at this;exact this
 ·unfold Yx;rw [List.map_map];conv=>lhs;rw [<-List.map_id xs]
  apply List.map_congr_left;intro x a;exact(d x a).symm
def Hk(LD:List Q2)(xs:List Int)(qs:Qb):Int:=Vn (Xa LD (Yx xs) qs) false
def Pq(LD:List Q2)(xs:List Int)(qs:Qb):Int:=if Zy LD xs (qs.map (·.1))=0 then max (Hk LD xs qs) 0 else 0
def Fj(LD:List Q2)(xs:List Int)(qs:Qb):Bool:=if Zy LD xs (qs.map (·.1))=0 then decide (0<=Hk LD xs qs) else false
theorem Vm{LD:List Q2}{xs:List Int}{a:List (Wd × Wd)} (h:Zy LD xs a=0):Z9 LD a=0/\Jl xs LD.length=true:=by
 unfold Zy at h
 split at h
 ·split at h
  ·exact⟨by assumption,by assumption⟩
  ·cases h
 ·rename_i b;exact absurd h b
theorem Q74(l:List Bool)(b:Bool):-1<=Vn l b/\Vn l b<9223372036854775807\/9223372036854775807<=l.length:=by
 by_cases c:9223372036854775807<=l.length
 ·exact .inr c
 ·refine .inl ?_;unfold Vn
  split
  ·rename_i d a
   have:=(List.findIdx?_eq_some_iff_getElem.1 a).1;omega
  ·omega
theorem Q4w{w:World}{ps:Qk}{qs:Qb}{lo:Option Addr}{n lc:Nat}{oo:Option Addr}{r oc:Nat}{xs:List Int}{R:Option Addr}{m pc:Nat}(z:Qv w (.slice lo n lc) ps) (o:ps.length=n) (B:Rd w (.slice oo r oc) r 1 (Zs xs)) (C:xs.length=r) (D:Zw w (.slice R m pc) qs) (d:qs.length=m) (y:Tab w) :
  Calls Tryz.prog 27 #[.slice lo n lc,.slice oo r oc,.slice R m pc] w fun e w'=>e=.returned (.tuple #[.int .i64 (Pq (ps.map (·.1)) xs qs),.bool (Fj (ps.map (·.1)) xs qs),.int .i64 (Zy (ps.map (·.1)) xs (qs.map (·.1)))])/\Ext w w':=by
 have E:=fun(V:World) (hE:Ext w V)=>S2 (z.ext hE) o (B.ext hE) C (Z7 D hE) d (y.keep hE id)
 have c:=fun(a:Zy (ps.map (·.1)) xs (qs.map (·.1))=0) (V:World) (hE:Ext w V)=>Q2y (ol:=Yx xs) (z.ext hE) o (by
  have p:=Vm a;rw [(Kb p.2).1];exact B.ext hE) (by unfold Yx;rw [List.length_map,C]) (by
  have p:=Vm a;rw [List.length_map,o] at p;exact(Kb p.2).2.1) (Z7 D hE) d (by have:=(Vo (Vm a).1).2.2.1;rw [List.length_map,d] at this;omega) (y.keep hE id)
 have A:Zy (ps.map (·.1)) xs (qs.map (·.1))=0->m<=32:=fun a=>by have:=(Vo (Vm a).1).2.2.1;rw [List.length_map,d] at this;omega
 obtain⟨U,i⟩:=zE (Pq (ps.map (·.1)) xs qs);obtain⟨W,j⟩:=zE (Fj (ps.map (·.1)) xs qs);rw [i,j];unfold Pq Hk at i;unfold Fj Hk at j;obtain⟨F,b⟩:=zE (Zy (ps.map (·.1)) xs (qs.map (·.1)));obtain⟨t,l⟩:=zE (Xa (ps.map (·.1)) (Yx xs) qs);have N:t.length=m:=by rw [<-l];unfold Xa;rw [List.length_map,d]
 rw [b,l] at i j;rw [b];rw [b] at c A;simp only [b] at E;simp only [l] at c;obtain⟨L,H,K,I,u,v⟩:=Zh6 E c A N i j;clear i j E c b l N A z o B C D d y;go_enter Tryz.func27,Tryz.ntmps27;go_wp2_with fail;refine(L.out _ (Q0.refl _ _)).mono ?_;rintro e T ⟨rfl,M⟩;have k:=Zh M;clear M L;by_cases b:F=0;case neg=>
  have a1:(F != 0)=true:=by simpa using b
  have f:=u.out;have g:=v.out;rw [if_neg b] at f g;subst f g;go_wp2;exact bodyPost_ret (Q2b rfl _ _ _) rfl ⟨rfl,k.out⟩
 subst b;have a0:=K.out uz;have c:=H.out uz T k.out;have G:=Zh c;clear c H K;go_wp2_with fail;refine G.out.mono ?_;rintro e a3 ⟨Z,Y,rfl,⟨X,_,P⟩,O⟩;have Q:=Q0h false (Rd.of_own P) I.out;have J:=Zh Q;have S:=Zh (k.out.trans O);clear Q P O G k;go_wp2_with fail;refine J.out.mono ?_;rintro e a4 ⟨rfl,rfl⟩;obtain⟨s,q⟩:=zE (Vn t false);have a2:-1<=s/\s<9223372036854775807:=by
  rcases Q74 t false with a | a
  ·rw [q] at a;exact a
  ·rw [I.out] at a;omega
 have f:=u.out;have g:=v.out;rw [if_pos uz,q] at f g;subst f g;rw [q];clear q J u v;go_wp2;exact bodyPost_ret (Q2b rfl _ _ _) rfl ⟨rfl,S.out⟩
def Qab(ps:Qk)(xs:List Int)(qs:Qb):Int:=if Zy (ps.map (·.1)) xs (qs.map (·.1))=0 then(if Hj ps (Yx xs) qs=qs.length then 0 else(Hj ps (Yx xs) qs:Nat)) else 0
def Q9v(ps:Qk)(xs:List Int)(qs:Qb):Bool:=if Zy (ps.map (·.1)) xs (qs.map (·.1))=0 then decide (Hj ps (Yx xs) qs≠qs.length) else false
def Q8q(l:List Bool):Nat:=l.countP id
def Q7n(LD:List Q2)(qs:Qb)(x:List Nat):Nat:=Q8q (Xa LD x qs)
def Q5i(LD:List Q2)(qs:Qb)(s:List Nat × Int)(x:List Nat):List Nat × Int:=if s.2<(Q7n LD qs x:Int) then(x,(Q7n LD qs x:Int)) else s
def Gv(LD:List Q2)(qs:Qb)(l:List (List Nat)):List Nat × Int:=l.foldl (Q5i LD qs) ([],-1)
def Q9k(LD:List Q2)(qs:Qb):List Nat:=if Z9 LD (qs.map (·.1))=0 then(Gv LD qs (Y3 LD.length (List.range LD.length))).1 else []
def Qae(LD:List Q2)(qs:Qb):Int:=if Z9 LD (qs.map (·.1))=0 then(Gv LD qs (Y3 LD.length (List.range LD.length))).2 else 0
def R6(BB BM BP base:Nat)(LD:List Q2)(qs:Qb)(pv:Value)(w:World)(O:Nat->Prop)(pre:List (List Nat)) (V:World):Prop:=
 ∃ ao c,V.heap[BB]?=some (.cells #[.slice ao (Gv LD qs pre).1.length c] 48 (0,0))/\V.heap[BM]?=some (.cells #[.int .i64 (Gv LD qs pre).2] 3 (0,0))/\V.heap[BP]?=some (.cells #[pv] 61 (0,0)) /\
  V.ownsRow base 3 1 (.slice ao (Gv LD qs pre).1.length c) (Gv LD qs pre).1.length (Qj (Gv LD qs pre).1)/\(∀ g,(Value.slice ao (Gv LD qs pre).1.length c).ownBlock=some g->¬ O g)/\Ext w V
theorem R6.step{c BM d base D:Nat}{LD:List Q2}{qs:Qb}{l:Value}{w A B:World}{O O':Nat->Prop}{k:List (List Nat)} (h:R6 c BM d base LD qs l w O k A) (v:w.heap.size<=D) (u:c<D/\BM<D/\d<D) (i:base=D+2) (s:∀ b,O b->D+2<=b/\b<A.heap.size) (j:Q0 (fun b=>O b\/b=D+1) A B)
  (t:∀ b,O' b->(O b\/A.heap.size<=b)/\b<B.heap.size):R6 c BM d base LD qs l w O' k B:=by
 subst i;obtain⟨m,n,o,p,q,e,f,r⟩:=h;have a:Q0 (fun b=>D+1<=b) A B:=j.mono fun b _ h=>h.elim (fun h=>by have:=(s b h).1;omega) (fun h=>by omega);refine⟨m,n,a.heap o oz,a.heap p oz,a.heap q oz,Qf e j (fun g hg h=>?_),fun g hg h=>?_,r.after a fun b i h=>by omega⟩
 ·have:=(e.lt g hg).1;rcases h with h | h
  ·exact f g hg h
  ·omega
 ·rcases(t g h).1 with h | h
  ·exact f g hg h
  ·have:=(e.lt g hg).2;omega
def Xm(l:List Nat)(i:Nat):List Nat:=(l.set i (l.getD (i+1) 0)).set (i+1) (l.getD i 0)
def exB(F G:List Bool):Bool:=(List.range F.length).any fun k=>F.getD k false && !G.getD k false
def Gq(LD:List Q2)(qs:Qb)(l:List Nat)(i:Nat):Bool:=exB (Xa LD l qs) (Xa LD (Xm l i) qs)
def K0(LD:List Q2)(xs:List Int)(qs:Qb):List Nat:=if Zy LD xs (qs.map (·.1))=0 then(List.range (xs.length - 1)).filter (Gq LD qs (Yx xs)) else []
theorem Wt(l:List Nat)(i:Nat):(Xm l i).length=l.length:=by unfold Xm;simp
theorem P9{l:List Nat}{i n:Nat}(c:i+1<l.length)(h:∀ x∈l,x<n):∀ x∈Xm l i,x<n:=by
 intro x a;unfold Xm at a;have b:∀ j,j<l.length->l.getD j 0<n:=fun j hj=>by rw [List.getD_eq_getElem?_getD,List.getElem?_eq_getElem hj];exact h _ (List.getElem_mem hj)
 rcases List.mem_or_eq_of_mem_set a with a | rfl
 ·rcases List.mem_or_eq_of_mem_set a with a | rfl
  ·exact h x a
  ·exact b _ oz
 ·exact b _ oz
theorem Q0v(l:List Nat)(i:Nat):((Qj l).set i (.int .i64 (l.getD (i+1) 0:Nat))).set (i+1) (.int .i64 (l.getD i 0:Nat))=Qj (Xm l i):=by
 unfold Qj Xm;rw [List.map_set,List.map_set]
def Cn(F G:List Bool)(k:Nat):Prop:=∀ j,j<k->(F.getD j false && !G.getD j false)=false
theorem Q2v{F G:List Bool}{k:Nat}(h:Cn F G k)(h1:(F.getD k false && !G.getD k false)=false):Cn F G (k+1):=fun j hj=>by
 by_cases e:j=k
 ·subst e;exact h1
 ·exact h j oz
theorem Q4c{F G:List Bool}{k:Nat}(c:F.length<=k)(h:Cn F G k):exB F G=false:=by
 unfold exB;rw [List.any_eq_false];intro b a;rw [h b (by have:=List.mem_range.1 a;omega)];decide
theorem Q6v{F G:List Bool}{k:Nat}(b:k<F.length)(a:(F.getD k false && !G.getD k false)=true):exB F G=true:=by
 unfold exB;rw [List.any_eq_true];exact⟨k,List.mem_range.2 b,a⟩
theorem Fl(q:Nat->Bool)(k:Nat):(List.range (k+1)).filter q=(List.range k).filter q++if q k=true then [k] else []:=by
 rw [List.range_succ,List.filter_append];cases h:q k <;> simp [h]
theorem Sd{w:World}{base:Nat}{e:TypeId}{g n cap j:Nat}{xs:List Value}(h:w.ownsRow base e 1 (.slice (some ⟨g,0,none⟩) n cap) n xs) (_hj:j<n):w.frozen? ⟨g,j,none⟩=false:=by
 obtain⟨b,a⟩:=Zc h rfl;simp [World.frozen?,a]
def Q89(lo oo po fo:Option Addr)(n lc on oc m pc fc mx B0:Nat)(w2:World)(P:Nat->List Nat)(a:Act)(W:World):Prop:=∃(i:Nat) (ao:Option Addr) (c:Nat),i<=mx/\a.defers=[]/\(a.tmps.size=76/\a.tmps.getD 0 undef=.slice lo n lc/\a.tmps.getD 1 undef=.slice oo on oc/\a.tmps.getD 2 undef=.slice po m pc/\a.tmps.getD 9 undef=.slice fo m fc/\a.tmps.getD 10 undef=.slice ao (P i).length c/\a.tmps.getD 29 undef=.int .i64 mx/\a.tmps.getD 30 undef=.int .i64 i)/\W.ownsRow B0 3 1 (.slice ao (P i).length c) (P i).length (Qj (P i))/\Ext w2 W
theorem Ba{w:World}{ps:Qk}{qs:Qb}{lo:Option Addr}{n lc:Nat}{oo:Option Addr}{i oc:Nat}{xs:List Int}{e2:Option Addr}{m pc:Nat}(g0:Qv w (.slice lo n lc) ps) (d7:ps.length=n) (d8:Rd w (.slice oo i oc) i 1 (Zs xs)) (d9:xs.length=i) (g6:Zw w (.slice e2 m pc) qs) (d5:qs.length=m) (f6:Tab w) :
  Calls Tryz.prog 28 #[.slice lo n lc,.slice oo i oc,.slice e2 m pc] w fun e w'=>∃ ao c,e=.returned (.tuple #[.slice ao (K0 (ps.map (·.1)) xs qs).length c,.int .i64 (Zy (ps.map (·.1)) xs (qs.map (·.1)))])/\Rd w' (.slice ao (K0 (ps.map (·.1)) xs qs).length c) (K0 (ps.map (·.1)) xs qs).length 1 (Qj (K0 (ps.map (·.1)) xs qs))/\Ext w w':=by
 have e0:=fun(V:World) (r:Ext w V)=>S2 (g0.ext r) d7 (d8.ext r) d9 (Z7 g6 r) d5 (f6.keep r id)
 have b2:Zy (ps.map (·.1)) xs (qs.map (·.1))=0->m<=32/\i<=6:=fun h=>by
  have C:=Vm h;have q4:=Vo C.1;have Y:=(Kb C.2).2.2.1.length_eq;unfold Yx at Y;simp at Y q4;omega
 have d2:=fun(h:Zy (ps.map (·.1)) xs (qs.map (·.1))=0) (V:World) (r:Ext w V) (o:List Nat) (o4:Option Addr) (a1:Nat) (b8:Rd V (.slice o4 i a1) i 1 (Qj o)) (hyl:o.length=i) (b1:∀ x∈o,x<n)=>Q2y (g0.ext r) d7 b8 hyl b1 (Z7 g6 r) d5 (by have:=(b2 h).1;omega) (f6.keep r id)
 have b3:Zy (ps.map (·.1)) xs (qs.map (·.1))=0->Qj (Yx xs)=Zs xs/\∀ x∈Yx xs,x<n:=fun h=>by
  have C:=(Vm h).2;rw [List.length_map,d7] at C;exact⟨(Kb C).1,(Kb C).2.1⟩
 obtain⟨t,f3⟩:=zE (ps.map (·.1));rw [f3] at b2 b3 ⊢;simp only [f3] at e0 d2;obtain⟨r3,N⟩:=zE (K0 t xs qs);rw [N];unfold K0 at N;rw [d9] at N;obtain⟨i7,L⟩:=zE (Zy t xs (qs.map (·.1)));rw [L] at b2 b3 d2 N ⊢;simp only [L] at e0;obtain⟨o,g5⟩:=zE (Yx xs);have O:o.length=i:=by rw [<-g5];unfold Yx;rw [List.length_map,d9]
 rw [g5] at N b3;have a5:∀ l,(Xa t l qs).length=m:=fun l=>by unfold Xa;rw [List.length_map,d5]
 obtain⟨k6,i9,j7,k0,e8,c0,k1,j5⟩:=Zh8 e0 d2 b2 b3 N O d8 a5;have q9:i<=maxLen:=d8.2.1;unfold maxLen at q9;clear e0 d2 b2 b3 N O d8 a5 L g5 f3 g0 d7 d9 g6 d5 f6;go_enter Tryz.func28,Tryz.ntmps28;go_wp2;refine wp_scope_straight ?_;go_wp2_with fail;refine(k6.out _ (Q0.refl _ _)).mono ?_;rintro e r1 ⟨rfl,l4⟩;have a2:=Zh l4;clear l4 k6;by_cases L:i7=0;case neg=>
  have t5:(i7 != 0)=true:=by simpa using L
  have Z:=e8.out;rw [if_neg L] at Z;subst Z;go_wp2;unfold Exit.noGoto;go_ret2;exact⟨none,0,rfl,Rd.of_own (e:=3) (World.ownsRow_nil _ 0 _ _),a2.out⟩
 subst L;obtain⟨t3,t6⟩:=j7.out uz;obtain⟨g1,b1⟩:=k0.out uz;have Z:=e8.out;rw [if_pos uz] at Z;have a7:=i9.out uz;obtain⟨k7,o6,p1,p3⟩:=Zh4 Z a7 b1 g1;have n2:=a7 r1 a2.out o oo oc (by rw [g1];exact k1.out.ext a2.out) c0.out b1;have j4:=Zh n2;clear Z a7 b1 g1 n2 e8 i9 j7 k0;go_wp2_with fail;refine j4.out.mono ?_;rintro e i5 ⟨l1,l0,rfl,⟨r4,a7,f5⟩,l5⟩;obtain⟨q,c8⟩:=zE (Xa t o qs);rw [c8] at f5;have a5:q.length=m:=by rw [<-c8];exact j5.out _
 obtain⟨p5,e4,o8,j6⟩:=Zh4 (Rd.of_own f5) (a2.out.trans l5) c8 a5;clear f5 l5 c8 a5 j4 a2 a7;have n9:max ((i:Int) - 1) 0=((i - 1:Nat):Int):=by omega
 have r0:IntKind.i64.wrap ((i:Int) - 1)=(i:Int) - 1:=IntWalk.i64_in _ oz;obtain⟨P,d6⟩:=zE (i - 1);rw [d6] at n9;have a0:=k7.out;rw [d6] at a0;have p9:=Zh a0;have p2:=Zh d6;have t4:P<=i:=by omega
 clear a0 d6 k7;go_wp2;refine wp_label ?_;go_wp2;clear r0 n9;obtain⟨R,l3⟩:=zE i5.heap.size;have i8:=Zh l3;clear l3
 refine wp_loop (Q89 lo oo e2 l1 n lc i oc m pc l0 P R i5 (fun f=>(List.range f).filter (Gq t qs o)))
  (fun a _=>((P:Int) - intOf (a.tmps.getD 30 undef)).toNat) ?_ ?_
 ·exact⟨0,none,0,by omega,rfl,⟨rfl,rfl,rfl,rfl,rfl,rfl,rfl,rfl⟩,World.ownsRow_nil _ _ _ _,Q0.refl _ _⟩
 rintro⟨i2,_⟩ A ⟨f,ao,c,s5,f8,⟨b7,y,z,F,J,B,H,I⟩,f4,r⟩;dsimp only at B f4;subst f8;obtain⟨i4,u⟩:=Zb b7;obtain⟨d,rfl⟩:∃ x,x=i4:=⟨_,rfl⟩;have g9:i2=#[d 0,d 1,d 2,d 3,d 4,d 5,d 6,d 7,d 8,d 9,d 10,d 11,d 12,d 13,d 14,d 15,d 16,d 17,d 18,d 19,d 20,d 21,d 22,d 23,d 24,d 25,d 26,d 27,d 28,d 29,d 30,d 31,d 32,d 33,d 34,d 35,d 36,d 37,d 38,d 39,d 40,d 41,d 42,d 43,d 44,d 45,d 46,d 47,d 48,d 49,d 50,d 51,d 52,d 53,d 54,d 55,d 56,d 57,d 58,d 59,d 60,d 61,d 62,d 63,d 64,d 65,d 66,d 67,d 68,d 69,d 70,d 71,d 72,d 73,d 74,d 75]:=u;clear u;subst g9;change d 0=_ at y;change d 1=_ at z;change d 2=_ at F;change d 9=_ at J;change d 10=_ at B;change d 29=_ at H;change d 30=_ at I;rw [y,z,F,J,B,H,I];clear y z F J B H I b7;have k3:=Zh f4;have E:=Zh r;have s:=Fl (Gq t qs o) f;have n7:((List.range f).filter (Gq t qs o)).length<=f:=Nat.le_trans (List.length_filter_le _ _) zy;obtain⟨o3,b0⟩:=zE ((List.range f).filter (Gq t qs o));rw [b0] at s n7;have p0:=Zh b0;have d0:=k3.out;rw [b0] at d0;rw [b0];obtain⟨e1,O⟩:=zE o3.length;rw [O] at d0 n7;rw [O];obtain⟨e6,k5,W⟩:=Zh3 d0 s O;clear f4 r s b0 O d0 k3;by_cases s9:f<P;case neg=>
  obtain rfl:f=P:=by omega
  have C:¬ (f:Int)<(f:Int):=by omega
  have a0:=p9.out;rw [p0.out] at a0;subst a0;go_wp2;go_ret2;exact⟨ao,c,by rw [W.out];rfl,by rw [W.out];exact Rd.of_own e6.out,e4.out.trans E.out⟩
 have C:(f:Int)<(P:Int):=by omega
 have s0:(0:Int)<=(f:Int):=by omega
 have n6:f+1<i:=by have:=p2.out;omega
 have t7:IntKind.i64.wrap ((f:Int)+1)=(f:Int)+1:=IntWalk.i64_in _ oz;have s7:(f:Int)+1<(i:Int):=by omega
 have s6:(0:Int)<=(f:Int)+1:=by omega
 have s8:(f:Int)<(i:Int):=by omega
 have t0:((f:Int)+1).toNat=f+1:=by omega
 have m9:=Ns (w:=A) (ao:=oo) (n:=i) (cap:=oc) (xs:=Qj o) (by rw [p3.out];exact k1.out.ext (e4.out.trans E.out)) (fun d u=>by obtain⟨_,_,rfl⟩:=List.mem_map.1 u;rfl) oz;have j2:=Zh m9;clear m9;go_upto_region 9 with (fail)
 go_wp2_with fail;refine j2.out.mono ?_;rintro e c1 ⟨o4,a1,rfl,a6,m1⟩;obtain⟨p,rfl⟩:=Vl (n:=i - 1) (cap:=a1) (by rw [show i - 1+1=i by omega];exact a6);obtain⟨e3,i0⟩:=zE (o.getD f 0);obtain⟨Q,i1⟩:=zE (o.getD (f+1) 0)
 have f7:∀ j,j<i->∀ U,Ext c1 U->U.cell? ⟨p,j,none⟩=some (.int .i64 (o.getD j 0:Nat)):=fun j hj U hU=>by
  have:=(Qc a6 hU).cellAt j oz;rw [this];unfold Qj;rw [List.getElem?_map,List.getD_eq_getElem?_getD,List.getElem?_eq_getElem (by rw [c0.out];exact hj)];rfl
 have a8:=f7 f oz;have k:=f7 (f+1) n6;rw [i0] at a8;rw [i1] at k;have s2:A.heap.size<=p:=(a6.lt p rfl).1;obtain⟨j0,j1,k2,j9,p7,p8⟩:=Zh6 a8 k a6 m1 i0 i1;clear f7 a8 k a6 m1 i0 i1 j2;go_upto_region 10 with (fail)
 go_cut [] from 35 to 50 (fun wx=>wx.ownsRow A.heap.size 3 1 (.slice (some ⟨p,0,none⟩) i a1) i (Qj (Xm o f))/\Ext A wx)
 case first=>
  obtain⟨v,d1⟩:=zE c1.drew;have c7:Ext c1 v:=by rw [<-d1];exact(Q0.refl _ c1).drew
  have g2:=Qc k2.out c7;have k:v.cell? ⟨p,f+1,none⟩=some (.int .i64 (Q:Int)):=j1.out v c7;have a8:v.cell? ⟨p,f,none⟩=some (.int .i64 (e3:Int)):=j0.out v c7;refine Qr (S:=fun D=>D.cell? ⟨p,f+1,none⟩=some (.int .i64 (Q:Int))) [17] kz (by rw [d1];exact k) ?_;intro _;rw [d1];clear d1;refine tE 0 35 k ?_;refine tE 1 36 k ?_;refine tE 2 37 k ?_;refine tE 3 38 k ?_;refine tE 4 39 k ?_;refine tE 5 40 k ?_;refine tE 6 41 k ?_;refine tE 7 42 k ?_;refine tE 8 43 k ?_;refine tE 9 44 k ?_;refine tE 10 45 k ?_;refine tE 11 46 k ?_;refine tE 12 47 k ?_;refine rE [13] ?_;refine Q1.cons rfl (fun K hK=>?_) Q1.nil;refine iw rfl ?_;go_simp;refine hK.out _ _ k (fun _=>?_);clear hK K;try simp only [Act.put,pq]
  refine tE 14 49 k ?_;refine rE [15] ?_;refine Q1.cons rfl (fun K hK=>?_) Q1.nil;refine iw rfl ?_;have y:=Sd g2 (j:=f) oz;go_simp;have q8:(⟨p,f,none⟩:Addr)≠⟨p,f+1,none⟩:=by intro e;simp at e
  have g7:(v.setCell ⟨p,f,none⟩ (.int .i64 (Q:Int))).cell? ⟨p,f+1,none⟩=some (.int .i64 (Q:Int)):=by rw [World.cell?_setCell_other (h:=q8)];exact k
  refine hK.out _ _ g7 (fun _=>?_);clear hK K y a8
  (try change Qg _ _ _ _ _ _ _ _ (Act.put _ none _) _)
  (try simp only [Act.put])
  refine tE 16 50 g7 ?_;refine rE [17] ?_;refine Q1.late rfl rfl (fun K hK=>?_) Q1.nil;refine iw rfl ?_;have g3:=Uo g2 f (.int .i64 (Q:Int));have z:=Sd g3 (j:=f+1) oz;go_simp;refine hK.out _ _ ?_;clear hK K z
  (try change Qg _ _ _ _ _ _ _ _ (Act.put _ none _) _)
  (try simp only [Act.put])
  refine Qh kz ?_ _;have g4:=Uo g3 (f+1) (.int .i64 (e3:Int));have i3:Q0 (fun b=>b=p) v ((v.setCell ⟨p,f,none⟩ (.int .i64 (Q:Int))).setCell ⟨p,f+1,none⟩ (.int .i64 (e3:Int))):=(Q0.set1 _ _ _ _).trans (Q0.set1 _ _ _ _);obtain⟨c6,m6⟩:=zE ((v.setCell ⟨p,f,none⟩ (.int .i64 (Q:Int))).setCell ⟨p,f+1,none⟩ (.int .i64 (e3:Int)));rw [m6] at g4 i3 ⊢;have o1:c6.ownsRow A.heap.size 3 1 (.slice (some ⟨p,0,none⟩) i a1) i (Qj (Xm o f)):=by
   have e:=Q0v o f;rw [p7.out,p8.out] at e;rw [<-e];exact g4
  have M:Ext A c6:=(j9.out.trans c7).after i3 (fun b hb e=>by omega);have p4:=Zh o1;have e5:=Zh M;clear m6 g4 i3 o1 M g3 g2 g7 k;go_wp2
  go_meet
  case rel=>exact⟨p4.out,e5.out⟩
 case rest=>
  obtain⟨b8,M⟩:=hcut;generalize wc=c6 at b8 M ⊢;have g8:=o6.out c6 (e4.out.trans (E.out.trans M)) (Xm o f) (some ⟨p,0,none⟩) a1 (Rd.of_own b8) (by rw [Wt,c0.out]) (P9 (by rw [c0.out];exact n6) p1.out);obtain⟨G,c9⟩:=zE (Xa t (Xm o f) qs);have m0:G.length=m:=by rw [<-c9];exact j5.out _
  rw [c9] at g8;have n8:Gq t qs o f=exB q G:=by unfold Gq;rw [o8.out,c9]
  obtain⟨k4,o9,j8,e5⟩:=Zh4 g8 m0 n8 M;clear b8 M g8 c9 m0 n8 j0 j1 k2 j9;go_wp2_with fail;refine k4.out.mono ?_;rintro e X ⟨q3,q2,rfl,⟨r5,q6,m2⟩,l6⟩;have p6:=Zh (Rd.of_own m2);have T:=Zh (e5.out.trans l6);clear m2 l6 k4 q6;go_wp2
  refine wp_loop (fun a A=>∃(g:Nat),g<=m/\a.defers=[]/\(a.tmps.size=76/\a.tmps.getD 0 undef=.slice lo n lc/\a.tmps.getD 1 undef=.slice oo i oc/\a.tmps.getD 2 undef=.slice e2 m pc/\a.tmps.getD 9 undef=.slice l1 m l0/\a.tmps.getD 10 undef=.slice ao e1 c/\a.tmps.getD 11 undef=.int .i64 f/\a.tmps.getD 29 undef=.int .i64 P/\a.tmps.getD 30 undef=.int .i64 f/\a.tmps.getD 54 undef=.slice q3 m q2/\a.tmps.getD 55 undef=.int .i64 m/\a.tmps.getD 56 undef=.int .i64 g)/\Cn q G g/\X=A)
   (fun a _=>((m:Int) - intOf (a.tmps.getD 56 undef)).toNat) ?_ ?_
  ·exact⟨0,by omega,rfl,⟨rfl,rfl,rfl,rfl,rfl,rfl,rfl,rfl,rfl,rfl,rfl,rfl⟩,fun j hj=>by omega,by first | trivial | rfl⟩
  rintro⟨i2,_⟩ r2 ⟨g,t1,f8,⟨b7,y,z,F,J,B,e9,H,I,f0,f1,f2⟩,n0,rfl⟩;subst f8;obtain⟨i4,u⟩:=Zb b7;obtain⟨d,rfl⟩:∃ x,x=i4:=⟨_,rfl⟩;have g9:i2=#[d 0,d 1,d 2,d 3,d 4,d 5,d 6,d 7,d 8,d 9,d 10,d 11,d 12,d 13,d 14,d 15,d 16,d 17,d 18,d 19,d 20,d 21,d 22,d 23,d 24,d 25,d 26,d 27,d 28,d 29,d 30,d 31,d 32,d 33,d 34,d 35,d 36,d 37,d 38,d 39,d 40,d 41,d 42,d 43,d 44,d 45,d 46,d 47,d 48,d 49,d 50,d 51,d 52,d 53,d 54,d 55,d 56,d 57,d 58,d 59,d 60,d 61,d 62,d 63,d 64,d 65,d 66,d 67,d 68,d 69,d 70,d 71,d 72,d 73,d 74,d 75]:=u;clear u;subst g9;change d 0=_ at y;change d 1=_ at z;change d 2=_ at F;change d 9=_ at J;change d 10=_ at B;change d 11=_ at e9;change d 29=_ at H;change d 30=_ at I;change d 54=_ at f0;change d 55=_ at f1;change d 56=_ at f2;rw [y,z,F,J,B,e9,H,I,f0,f1,f2];clear y z F J B e9 H I f0 f1 f2 b7;have j3:=Zh n0;clear n0;by_cases d4:g<m;case neg=>
   obtain rfl:g=m:=by omega
   have q7:¬ (g:Int)<(g:Int):=by omega
   have o0:=Q4c (by rw [j6.out];exact Nat.le_refl _) j3.out;have s:=k5.out;rw [j8.out,o0] at s;have a3:=Zh s;clear s o0;go_wp2;exact⟨⟨f+1,ao,c,by omega,tz,⟨rfl,rfl,rfl,rfl,rfl,by dsimp only;rw [a3.out];simp [W.out],rfl,rfl⟩,by dsimp only;rw [a3.out];simpa [W.out] using Qc e6.out T.out,E.out.trans T.out⟩,mz⟩
  have q7:(g:Int)<(m:Int):=by omega
  have t2:(0:Int)<=(g:Int):=by omega
  have t8:IntKind.i64.wrap ((g:Int)+1)=(g:Int)+1:=IntWalk.i64_in _ oz;have d3:g<q.length:=by rw [j6.out];exact d4
  have f9:g<G.length:=by rw [o9.out];exact d4
  obtain⟨r8,t9,r6,b4,s3,m7⟩:=K4 (p5.out.ext (E.out.trans T.out)) d4;simp only [zV,true_and] at b4;obtain⟨rfl,rfl⟩:=b4;obtain⟨r9,u0,r7,b4,s4,m8⟩:=K4 p6.out d4;simp only [zV,true_and] at b4;obtain⟨rfl,rfl⟩:=b4;have n3:(q.map Value.bool).getD g undef=.bool q[g]:=by rw [List.getD_eq_getElem?_getD,List.getElem?_map,List.getElem?_eq_getElem d3];rfl
  have n5:(G.map Value.bool).getD g undef=.bool G[g]:=by rw [List.getD_eq_getElem?_getD,List.getElem?_map,List.getElem?_eq_getElem f9];rfl
  have l8:q.getD g false=q[g]:=by rw [List.getD_eq_getElem?_getD,List.getElem?_eq_getElem d3];rfl
  have l9:G.getD g false=G[g]:=by rw [List.getD_eq_getElem?_getD,List.getElem?_eq_getElem f9];rfl
  rw [n3] at m7;rw [n5] at m8;have a9:=fun h=>Q6v (G:=G) d3 h;have b6:=fun h=>Q2v j3.out h;rw [l8,l9] at a9 b6;obtain⟨q0,n1⟩:=zE (q[g]);obtain⟨q1,n4⟩:=zE (G[g]);rw [n1] at m7 a9 b6;rw [n4] at m8 a9 b6;have b9:=Zh a9;have a4:=Zh b6;clear n1 n4 a9 b6 l8 l9 n3 n5 d3 f9;cases q0 with
  | false=>
   have b5:=a4.out rfl;have e7:=Zh b5;clear b5 a4 b9;go_wp2;exact⟨⟨g+1,by omega,tz,⟨rfl,rfl,rfl,rfl,rfl,rfl,rfl,rfl,rfl,rfl,rfl,rfl⟩,e7.out,by first | trivial | rfl⟩,mz⟩
  | true=>
   cases q1 with
   | true=>
    have b5:=a4.out rfl;have e7:=Zh b5;clear b5 a4 b9;go_wp2;exact⟨⟨g+1,by omega,tz,⟨rfl,rfl,rfl,rfl,rfl,rfl,rfl,rfl,rfl,rfl,rfl,rfl⟩,e7.out,by first | trivial | rfl⟩,mz⟩
   | false=>
    have o2:=b9.out rfl;have s:=k5.out;rw [j8.out,o2] at s;have a3:=Zh s;have s1:R<=X.heap.size:=by have:=E.out.size;have:=T.out.size;have:=i8.out;omega
    have Y:=Qc e6.out T.out;clear s o2 b9 a4
    go_wp2_with (at_builtin;refine Zo rfl (.tmp 69) (.tmp 71) 48 rfl R 3 _ 1 8 Tryz.underlying48 Tryz.infoI rfl zd _ _ _ rfl (Qc Y ((Q0.refl _ X).alloc _)) ⟨X.heap.size,0,none⟩ 1 1 [.int .i64 (f:Int)] rfl rfl (Ze rfl) ?c2 ?c3 ?c4 ?c5 ?_)
    case c2=>first | rfl | (intro d u;simp at u;subst u;rfl)
    case c3=>unfold maxLen;omega
    case c4=>omega
    case c5=>first | omega | (simp;omega)
    intro k8 k9 i6 m3 m4 q5;have m5:Q0 (fun b=>(Value.slice ao e1 c).ownBlock=some b) X i6:=Q0.trans (Q0.alloc (Q0.refl _ X) _) m4;have l7:Ext i5 i6:=(E.out.trans T.out).after m5 (fun b hb e=>by have:=(Y.lt _ e).1;have:=i8.out;omega);have l2:i6.ownsRow R 3 1 (.slice k8 (e1+1) k9) (e1+1) (Qj (o3++[f])):=by rw [X8];exact m3
    have o5:=Zh l2;have o7:=Zh l7;clear l2 l7 m5 m4 q5 m3 Y;go_wp2;exact⟨⟨f+1,k8,k9,by omega,tz,⟨rfl,rfl,rfl,rfl,rfl,by dsimp only;rw [a3.out];simp [W.out],rfl,rfl⟩,by dsimp only;rw [a3.out];simp only [if_true,List.length_append,W.out,List.length_singleton];exact o5.out,o7.out⟩,mz⟩
end Go.Proofs.YtfdlhlghcbeblaaGreatDoor
