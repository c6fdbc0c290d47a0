/- PLAIN: -/
import Derived.Test.YtfdlhlghcbeblaaGreatDoorY23
set_option maxRecDepth 100000
set_option maxHeartbeats 16000000
namespace Go.Proofs.YtfdlhlghcbeblaaGreatDoor
open Go.RowKit Go.Ab
def Qan(xs:List Int)(n k:Nat):Prop:=(∀ x∈xs.take k,0<=x/\x<(n:Int))/\(xs.take k).Nodup
def Qag(xs:List Int)(n k:Nat):List Value:=(List.range n).map fun(i:Nat)=>.bool (decide ((i:Int)∈xs.take k))
attribute [local go_sem] Oper.semAt_some Zf Qp
theorem Q0x{a:Func}{t u v:Tmp}(h:a.results=#[.tmp t,.tmp u,.tmp v])(tmps:Array Value)(P:Program)(w:World) :
  (results a tmps).run P w=.ok (.tuple #[tmps.getD t undef,tmps.getD u undef,tmps.getD v undef]) w:=by
 simp [results,h,go_sem]
def Ym(xs:List Int):List Nat:=xs.map Int.toNat
theorem Ga{xs:List Int}{n:Nat}(h:Js xs n=true):Qi (Ym xs)=Z7 xs/\(∀ x∈Ym xs,x<n)/\(Ym xs).Perm (List.range n)/\xs=(Ym xs).map fun(i:Nat)=>(i:Int):=by
 unfold Js at h;rw [decide_eq_true_eq] at h
 have e:∀ x∈xs,∃ i:Nat,i<n/\(i:Int)=x:=fun x a=>by
  obtain⟨i,c,b⟩:=List.mem_map.1 (h.mem_iff.1 a);exact⟨i,List.mem_range.1 c,b⟩
 have d:∀ x∈xs,((x.toNat:Nat):Int)=x:=fun x a=>by obtain⟨i,_,rfl⟩:=e x a;simp
 refine⟨?_,fun x a=>?_,?_,?_⟩
 ·unfold Qi Ym Z7;rw [List.map_map];apply List.map_congr_left;intro x a;show Value.int .i64 ((x.toNat:Nat):Int)=_;rw [d x a]
 ·obtain⟨g,f,rfl⟩:=List.mem_map.1 a;obtain⟨i,c,rfl⟩:=e g f
  simpa using c
 ·have:=h.map Int.toNat;rw [List.map_map] at this;have b:(List.range n).map (Int.toNat ∘ fun(i:Nat)=>(i:Int))=List.range n:=by
   conv=>rhs;rw [<-List.map_id (List.range n)]
   apply List.map_congr_left;intro i _;simp
  rw [b] at this;exact this
 ·unfold Ym;rw [List.map_map];conv=>lhs;rw [<-List.map_id xs]
  apply List.map_congr_left;intro x a;exact(d x a).symm
def H5(LD:List Q7)(xs:List Int)(qs:Qa):Int:=He (Xk LD (Ym xs) qs) false
def Uy(LD:List Q7)(xs:List Int)(qs:Qa):Int:=if Qx LD xs (qs.map (·.1))=0 then max (H5 LD xs qs) 0 else 0
def Uv(LD:List Q7)(xs:List Int)(qs:Qa):Bool:=if Qx LD xs (qs.map (·.1))=0 then decide (0<=H5 LD xs qs) else false
theorem K4{LD:List Q7}{xs:List Int}{a:List (Wd × Wd)} (h:Qx LD xs a=0):Qh LD a=0/\Js xs LD.length=true:=by
 unfold Qx at h
 split at h
 ·split at h
  ·exact⟨by assumption,by assumption⟩
  ·cases h
 ·rename_i b;exact absurd h b
theorem Q6e(l:List Bool)(b:Bool):-1<=He l b/\He l b<9223372036854775807\/9223372036854775807<=l.length:=by
 by_cases c:9223372036854775807<=l.length
 ·exact .inr c
 ·refine .inl ?_;unfold He
  split
  ·rename_i d a
   have:=(List.findIdx?_eq_some_iff_getElem.1 a).1;omega
  ·omega
theorem Hk{w:World}{ps:Qy}{qs:Qa}{lo:Option Addr}{n lc:Nat}{oo:Option Addr}{on oc:Nat}{xs:List Int}{Q:Option Addr}{m pc:Nat}(y:Z9 w (.slice lo n lc) ps) (o:ps.length=n) (A:Rd w (.slice oo on oc) on 1 (Z7 xs)) (B:xs.length=on) (C:Qu w (.slice Q m pc) qs) (d:qs.length=m) (v:Tab w) :
  Calls Tryz.prog 27 #[.slice lo n lc,.slice oo on oc,.slice Q m pc] w fun e w'=>e=.returned (.tuple #[.int .i64 (Uy (ps.map (·.1)) xs qs),.bool (Uv (ps.map (·.1)) xs qs),.int .i64 (Qx (ps.map (·.1)) xs (qs.map (·.1)))])/\Ext w w':=by
 have D:=fun(V:World) (hE:Ext w V)=>Sx (y.ext hE) o (A.ext hE) B (Zc C hE) d (v.keep hE id)
 have c:=fun(a:Qx (ps.map (·.1)) xs (qs.map (·.1))=0) (V:World) (hE:Ext w V)=>Q31 (ol:=Ym xs) (y.ext hE) o (by
  have p:=K4 a;rw [(Ga p.2).1];exact A.ext hE) (by unfold Ym;rw [List.length_map,B]) (by
  have p:=K4 a;rw [List.length_map,o] at p;exact(Ga p.2).2.1) (Zc C hE) d (by have:=(Jg (K4 a).1).2.2.1;rw [List.length_map,d] at this;omega) (v.keep hE id)
 have z:Qx (ps.map (·.1)) xs (qs.map (·.1))=0->m<=32:=fun a=>by have:=(Jg (K4 a).1).2.2.1;rw [List.length_map,d] at this;omega
 obtain⟨T,i⟩:=zE (Uy (ps.map (·.1)) xs qs);obtain⟨U,j⟩:=zE (Uv (ps.map (·.1)) xs qs);rw [i,j];unfold Uy H5 at i;unfold Uv H5 at j;obtain⟨E,b⟩:=zE (Qx (ps.map (·.1)) xs (qs.map (·.1)));obtain⟨s,l⟩:=zE (Xk (ps.map (·.1)) (Ym xs) qs);have M:s.length=m:=by rw [<-l];unfold Xk;rw [List.length_map,d]
 rw [b,l] at i j;rw [b];rw [b] at c z;simp only [b] at D;simp only [l] at c;obtain⟨K,G,J,H,t,u⟩:=Zh6 D c z M i j;clear i j D c b l M z y o A B C d v;go_enter Tryz.func27,Tryz.ntmps27;go_wp2_with fail;refine(K.out _ (Q1.refl _ _)).mono ?_;rintro e S ⟨rfl,L⟩;have k:=Zh L;clear L K;by_cases b:E=0;case neg=>
  have a0:(E != 0)=true:=by simpa using b
  have f:=t.out;have g:=u.out;rw [if_neg b] at f g;subst f g;go_wp2;exact bodyPost_ret (Q0x rfl _ _ _) rfl ⟨rfl,k.out⟩
 subst b;have Z:=J.out uz;have c:=G.out uz S k.out;have F:=Zh c;clear c G J;go_wp2_with fail;refine F.out.mono ?_;rintro e a2 ⟨Y,X,rfl,⟨W,_,O⟩,N⟩;have P:=Cu false (Rd.of_own O) H.out;have I:=Zh P;have R:=Zh (k.out.trans N);clear P O N F k;go_wp2_with fail;refine I.out.mono ?_;rintro e a3 ⟨rfl,rfl⟩;obtain⟨r,q⟩:=zE (He s false);have a1:-1<=r/\r<9223372036854775807:=by
  rcases Q6e s false with a | a
  ·rw [q] at a;exact a
  ·rw [H.out] at a;omega
 have f:=t.out;have g:=u.out;rw [if_pos uz,q] at f g;subst f g;rw [q];clear q I t u;go_wp2;exact bodyPost_ret (Q0x rfl _ _ _) rfl ⟨rfl,R.out⟩
def Qaj(ps:Qy)(xs:List Int)(qs:Qa):Int:=if Qx (ps.map (·.1)) xs (qs.map (·.1))=0 then(if Wh ps (Ym xs) qs=qs.length then 0 else(Wh ps (Ym xs) qs:Nat)) else 0
def Qal(ps:Qy)(xs:List Int)(qs:Qa):Bool:=if Qx (ps.map (·.1)) xs (qs.map (·.1))=0 then decide (Wh ps (Ym xs) qs≠qs.length) else false
def W6(l:List Bool):Nat:=l.countP id
def M7(LD:List Q7)(qs:Qa)(x:List Nat):Nat:=W6 (Xk LD x qs)
def Jz(LD:List Q7)(qs:Qa)(s:List Nat × Int)(x:List Nat):List Nat × Int:=if s.2<(M7 LD qs x:Int) then(x,(M7 LD qs x:Int)) else s
def Yx(LD:List Q7)(qs:Qa)(l:List (List Nat)):List Nat × Int:=l.foldl (Jz LD qs) ([],-1)
theorem Cw(LD:List Q7)(qs:Qa)(l:List (List Nat)) (x:List Nat):Yx LD qs (l++[x])=Jz LD qs (Yx LD qs l) x:=by
 unfold Yx;rw [List.foldl_append];rfl
def K2(LD:List Q7)(qs:Qa):List Nat:=if Qh LD (qs.map (·.1))=0 then(Yx LD qs (Zn LD.length (List.range LD.length))).1 else []
def Hv(LD:List Q7)(qs:Qa):Int:=if Qh LD (qs.map (·.1))=0 then(Yx LD qs (Zn LD.length (List.range LD.length))).2 else 0
theorem Q2p{l:List Bool}{k:Nat}(a:k<l.length):W6 (l.take (k+1))=W6 (l.take k)+if l[k]=true then 1 else 0:=by
 unfold W6;rw [List.take_succ_eq_append_getElem a,List.countP_append];cases l[k] <;> simp
theorem By(l:List Bool):W6 l<=l.length:=List.countP_le_length
theorem Q0v(LD:List Q7)(qs:Qa)(l:List (List Nat)):-1<=(Yx LD qs l).2/\(Yx LD qs l).2<=qs.length:=by
 have c:∀(l:List (List Nat)) (a:List Nat × Int),-1<=a.2/\a.2<=qs.length->-1<=(l.foldl (Jz LD qs) a).2/\(l.foldl (Jz LD qs) a).2<=qs.length:=by
  intro l
  induction l with
  | nil=>intro a b;exact b
  | cons x l ih=>
   intro a b;refine ih _ ?_;unfold Jz
   split
   ·have:=By (Xk LD x qs);unfold Xk at this;rw [List.length_map] at this;show -1<=((M7 LD qs x:Nat):Int)/\((M7 LD qs x:Nat):Int)<=qs.length;unfold M7 Xk;omega
   ·exact b
 exact c l ([],-1) ⟨Int.le_refl _,by show (-1:Int)<=_;omega⟩
def Wg(BB BM BP base:Nat)(LD:List Q7)(qs:Qa)(pv:Value)(w:World)(O:Nat->Prop)(pre:List (List Nat)) (V:World):Prop:=
 ∃ ao c,V.heap[BB]?=some (.cells #[.slice ao (Yx LD qs pre).1.length c] 48 (0,0))/\V.heap[BM]?=some (.cells #[.int .i64 (Yx LD qs pre).2] 3 (0,0))/\V.heap[BP]?=some (.cells #[pv] 61 (0,0)) /\
  V.ownsRow base 3 1 (.slice ao (Yx LD qs pre).1.length c) (Yx LD qs pre).1.length (Qi (Yx LD qs pre).1)/\(∀ g,(Value.slice ao (Yx LD qs pre).1.length c).ownBlock=some g->¬ O g)/\Ext w V
theorem Wg.step{c BM d base D:Nat}{LD:List Q7}{qs:Qa}{l:Value}{w A B:World}{O O':Nat->Prop}{k:List (List Nat)} (h:Wg c BM d base LD qs l w O k A) (v:w.heap.size<=D) (u:c<D/\BM<D/\d<D) (i:base=D+2) (s:∀ b,O b->D+2<=b/\b<A.heap.size) (j:Q1 (fun b=>O b\/b=D+1) A B)
  (t:∀ b,O' b->(O b\/A.heap.size<=b)/\b<B.heap.size):Wg c BM d base LD qs l w O' k B:=by
 subst i;obtain⟨m,n,o,p,q,e,f,r⟩:=h;have a:Q1 (fun b=>D+1<=b) A B:=j.mono fun b _ h=>h.elim (fun h=>by have:=(s b h).1;omega) (fun h=>by omega);refine⟨m,n,a.heap o oz,a.heap p oz,a.heap q oz,Qd e j (fun g hg h=>?_),fun g hg h=>?_,r.after a fun b i h=>by omega⟩
 ·have:=(e.lt g hg).1;rcases h with h | h
  ·exact f g hg h
  ·omega
 ·rcases(t g h).1 with h | h
  ·exact f g hg h
  ·have:=(e.lt g hg).2;omega
theorem Ro{w:World}{ps:Qy}{qs:Qa}{lo:Option Addr}{n lc:Nat}{U:Option Addr}{m pc:Nat}(g3:Z9 w (.slice lo n lc) ps) (S:ps.length=n) (c8:Qu w (.slice U m pc) qs) (a5:qs.length=m) (f5:Tab w) :
  Calls Tryz.prog 43 #[.slice lo n lc,.slice U m pc] w fun e w'=>∃ ao c,e=.returned (.tuple #[.slice ao (K2 (ps.map (·.1)) qs).length c,.int .i64 (Hv (ps.map (·.1)) qs),.int .i64 (Qh (ps.map (·.1)) (qs.map (·.1)))])/\Rd w' (.slice ao (K2 (ps.map (·.1)) qs).length c) (K2 (ps.map (·.1)) qs).length 1 (Qi (K2 (ps.map (·.1)) qs))/\Ext w w':=by
 have c6:=fun(j:World) (x:Ext w j)=>Vj (g3.ext x) S (Zc c8 x) a5 (f5.keep x id);obtain⟨l,c2⟩:=zE (ps.map (·.1));have f3:l.length=n:=by rw [<-c2,List.length_map,S]
 have a6:Qh l (qs.map (·.1))=0->n<=6/\m<=1000:=fun a=>by have:=Jg a;rw [f3,List.length_map,a5] at this;omega
 have O:=fun(a:Qh l (qs.map (·.1))=0) (j:World) (B1 B2:Nat) (x:Ext w j) (B:j.heap[B1]?=_) (A:j.heap[B2]?=_)=>Lh x g3 S (a6 a).1 c8 a5 (a6 a).2 f5 B A;have g1:=fun(a:Qh l (qs.map (·.1))=0) (j:World) (x:Ext w j) (d4:Option Addr) (d3:Nat) (d2:List (Option Wd × List Value)) (B:Y9 j (.slice d4 m d3) d2) (A:d2.length=m)=>Gq B A (Zc c8 x) a5 (a6 a).2;have g8:Qh l (qs.map (·.1))=0->∀ d∈Zn n (List.range n),d.length<=6:=fun a d r=>by rw [Kq] at r;rw [(Gc n d r).1];exact(a6 a).1
 rw [c2];simp only [c2] at c6 O;obtain⟨o0,a4⟩:=zE (K2 l qs);obtain⟨m3,Z⟩:=zE (Hv l qs);rw [a4,Z];unfold K2 at a4;unfold Hv at Z;rw [f3] at a4 Z;obtain⟨j9,f2⟩:=zE (Zn n (List.range n));obtain⟨b5,H⟩:=zE (Qh l (qs.map (·.1)));rw [f2,H] at a4 Z g8;have g7:=fun(a:b5=0)=>(a6 (by rw [H];exact a)).2;rw [H] at O g1 ⊢;simp only [f2] at O;simp only [H] at c6;obtain⟨j1,j4,j3,e6,e0,j8,e4,j7⟩:=Zh8 c6 O g1 a4 Z g8 a5 g7;clear c6 O g1 a4 Z g8 f2 H a6 c2 f3 g3 S c8 a5 f5 g7;refine Qv Tryz.func43 rfl ?_;simp only [Tryz.ntmps43,zS,Nat.reduceAdd,Nat.reduceSub];go_upto_region 1 with (fail)
 obtain⟨C,c3⟩:=zE w.heap.size;obtain⟨m1,d1⟩:=zE (w.alloc (.cells #[.slice U m pc] 61));have b1:Ext w m1:=by rw [<-d1];exact(Q1.refl _ w).alloc _
 have f0:m1.heap[C]?=some (.cells #[.slice U m pc] 61 (0,0)):=by rw [<-d1];exact Q3 c3.symm
 rw [c3,d1];obtain⟨o,i4,a8⟩:=Zh3 b1 f0 c3;have e8:=cell_of_one f0;clear b1 f0 d1 c3;go_wp2_with fail;refine(j1.out _ o.out).mono ?_;rintro e d5 ⟨rfl,a1⟩;have d8:=Zh (a1.keep i4.out);have e1:=Zh (o.out.trans a1);clear a1 o i4 j1 e8;by_cases H:b5=0;case neg=>
  have q8:(b5 != 0)=true:=by simpa using H
  have r:=e6.out;have p:=e0.out;rw [if_neg H] at r p;subst r p;go_wp2;refine Zr (v:=.tuple #[.slice none 0 0,.int .i64 0,.int .i64 b5]) (base:=C) _ _ trivial fun w' ht' l7=>⟨Q5u rfl rfl rfl rfl,none,0,rfl,Rd.of_own (e:=3) (World.ownsRow_nil _ 0 _ _),Q1.after e1.out ht' (fun b p a=>by have:=a.1;have:=a8.out;omega)⟩
 subst H;have r:=e6.out;have p:=e0.out;rw [if_pos uz] at r p;obtain⟨n8,m8,n9,n1⟩:=Zh4 r p (j8.out uz) (j3.out uz);have q7:=j7.out uz;clear r p e6 e0 j8 j3 j7;go_upto_region 6 with (fail)
 obtain⟨d6,b3⟩:=zE ((d5.alloc (.cells #[.slice none 0 0] 48)).alloc (.cells #[.int .i64 (-1)] 3));have f4:Ext d5 d6:=by rw [<-b3];exact((Q1.refl _ d5).alloc _).alloc _
 obtain⟨g,c1⟩:=zE d5.heap.size;have k3:d6.heap[g]?=some (.cells #[.slice none 0 0] 48 (0,0)):=by rw [<-b3];exact Q6 (Q3 c1.symm)
 have k4:d6.heap[g+1]?=some (.cells #[.int .i64 (-1)] 3 (0,0)):=by rw [<-b3];exact Q3 (by simp;omega)
 have q2:C<g:=by rw [<-c1];exact(Array.getElem?_eq_some_iff.1 d8.out).1
 rw [c1,b3];have f1:=f4.keep d8.out;obtain⟨i6,i7,d9,e2⟩:=Zh4 f1 k3 k4 (e1.out.trans f4);have e8:=cell_of_one f1;clear b3 c1 f4 k3 k4 f1 d8 e1;go_wp2_with fail;refine(N5 _ _ _ _ _ _ _).mono ?_;rintro e J ⟨rfl,f8,f9,a0,g6⟩;obtain⟨E,f6⟩:=zE d6.heap.size;rw [f6] at f8 f9 g6 ⊢;have O:=j4.out uz J E (E+1) (e2.out.trans a0) f8 f9;have q3:g+1<E:=by rw [<-f6];exact(Array.getElem?_eq_some_iff.1 d9.out).1
 obtain⟨n0,a9,n2,m4,m5,m6⟩:=Zh6 (e2.out.trans a0) g6 O (a0.keep i6.out) (a0.keep i7.out) (a0.keep d9.out);clear a0 g6 O f8 f9 f6 j4 i6 i7 d9 e2 e8;go_wp2
 refine Xu (xs:=j9) (K:=fun b=>b<w.heap.size\/b=E\/b=E+1) rfl (fun args w=>by simp [go_sem]) n2.out (fun b a=>by have:=a9.out;have:=a8.out;rcases a with a | a | a <;> omega) (fun _ _ d m2 V a=>by obtain⟨_,_,_,_,rfl,_⟩:=a;rfl) ?hEs
  (Wg g (g+1) C (J.heap.size+2) l qs (.slice U m pc) w) (fun c W F j=>False) ?hI ?hIx ?h0 (fun V t=>(((t.setIfInBounds 24 (V.getD 0 undef)).setIfInBounds 25 (V.getD 1 undef)).setIfInBounds 10 (V.getD 0 undef)).setIfInBounds 11 (V.getD 1 undef)) ?assign ?body ?done ?stop
 case hEs=>exact fun _ _ _ _ _ _ a T c9=>N6 a T c9
 case hI=>
  rintro W p5 F m2 i2 a a2 T o5;exact a.step (D:=J.heap.size) (by rw [a9.out];have:=a8.out;omega) (by rw [a9.out];omega) rfl a2 (T.mono fun b _ a=>a.imp (fun a=>a.1) id) o5
 case hIx=>exact fun _ _ _ _ _ _ a _ _ _=>a
 case h0=>
  intro j c5 l7;exact⟨none,0,c5.keep m5.out,c5.keep m6.out,c5.keep m4.out,World.ownsRow_nil _ _ _ _,(fun Q N=>by cases N),Q1.trans n0.out c5⟩
 case assign=>
  rintro _ _ d V j p4 ⟨m0,l9,d4,d3,rfl,_⟩ o4;gi_wp2;exact o4
 case stop=>exact fun _ _ _ _ _ _ _ a=>a.elim
 case done=>
  rintro W j ⟨ao,c,B,A,b0,M,s,x⟩ a2 T k5;have r:=n8.out;have p:=m8.out;rw [r] at B M s;rw [p] at A;obtain⟨b6,b7,m9⟩:=Zh3 M x k5;have k2:=cell_of_one B;have o2:=cell_of_one A;obtain⟨p1,g4⟩:=zE o0.length;have n4:=Zh g4;rw [g4] at k2;clear B A b0 M s x k5 a2 T g4 r p;go_wp2
  go_quiet (fail)
  go_wp2;have p0:=a9.out;have c7:Ext j (j.drewN nq):=(Q1.refl _ j).drewN nq;refine Zr (v:=.tuple #[.slice ao p1 c,.int .i64 m3,.int .i64 0]) (base:=C) _ _ (Qs.cons (base:=C) trivial oz (c7.keep m9.out) (fun e he=>by cases he)) fun w' ht' l7=>⟨Q5u rfl rfl rfl rfl,ao,c,by rw [n4.out],Rd.of_own (Qd (Qf b6.out c7) ht' (fun Q N e=>by obtain⟨p9,I⟩:=Z3 (Qf b6.out c7) N;exact Go.Ab.Shut.not I rfl e)),Q1.after (b7.out.trans c7) ht' (fun b p a=>by have:=a.1;have:=a8.out;omega)⟩
 case body=>
  rintro W F d r2 V j r g7 a2 T ⟨ao,c,B,A,b0,M,s,x⟩ ⟨m0,l9,d4,d3,rfl,c9,d2,l5,l4,l3⟩;simp only [pq];have I:=n1.out j x d4 d3 d2 l5 l4;rw [Ls e4.out (by rw [l3,List.map_map];rfl)] at I;have y:=Cw l qs F d;unfold Jz M7 at y;obtain⟨G,g0⟩:=zE (Xk l d qs);rw [g0] at I y;have k7:G.length=m:=by rw [<-g0];unfold Xk;rw [List.length_map,e4.out]
  have g5:=Q0v l qs F;rw [e4.out] at g5;have l8:d∈j9:=by rw [r];simp
  have o9:=n9.out d l8;have o6:∀ q,Yx l qs F=q->q=((Yx l qs F).1,(Yx l qs F).2):=fun q a=>by rw [<-a]
  obtain⟨⟨p8,o1⟩,f7⟩:=zE (Yx l qs F);rw [f7] at B A M s g5 y;dsimp only at B A M s g5 y;have o3:=cell_of_one b0;have e9:=cell_of_one A;obtain⟨a7,g9⟩:=zE d.length;have b8:=Zh g9;rw [g9] at o9 ⊢;obtain⟨j5,i3,d7,i5,b6,m7,b7,n5⟩:=Zh8 a2 B A b0 M s x c9;obtain⟨i9,i8,n7,p2⟩:=Zh4 I k7 y f7;have p0:E+2<=J.heap.size:=Nat.le_of_eq a9.out.symm;clear r a2 B A b0 M s x c9 I k7 y f7 o6 l5 l4 l3 T g0 l8 g9;refine wpIn_block ?_;gi_wp2;refine callsIn_wide.2 (i9.out.mono ?_);rintro e e7 ⟨p7,p6,rfl,k6,b1⟩;obtain⟨n6,o,j0⟩:=Zh3 (Rd.of_own k6) b1 (show W6 (G.take 0)=0 from rfl);clear k6 b1 o3 e9 i9;gi_wp2
  gi_loop [12,30] (fun cn i=>∃ f:Nat,f<=m/\i=.int .i64 f/\cn=.int .i64 (W6 (G.take f):Nat)) (fun _ i=>m - (intOf i).toNat)
  case atStart=>exact⟨0,by omega,rfl,by rw [j0.out];rfl⟩
  case round=>
   obtain⟨f,q5,rfl,rfl⟩:=hrel;obtain⟨L,R⟩:=zE (W6 (G.take f));have q4:L<=1000:=by
    have:=By (G.take f);rw [List.length_take] at this;omega
   rw [R];by_cases l2:f<m
   ·have o8:(f:Int)<(m:Int):=by omega
    have q6:(0:Int)<=(f:Int):=by omega
    have g2:f<G.length:=by rw [i8.out];exact l2
    obtain⟨Q,r1,cap,l6,N,I⟩:=Vx n6.out l2;simp only [zV,true_and] at l6;obtain⟨rfl,rfl⟩:=l6;have k9:(G.map Value.bool).getD f undef=.bool G[f]:=by rw [List.getD_eq_getElem?_getD,List.getElem?_map,List.getElem?_eq_getElem g2];rfl
    rw [k9] at I;have d0:=Q2p g2;rw [R] at d0;obtain⟨b,p⟩:=zE (G[f]);rw [p] at I d0;have j6:=Zh d0;have r0:IntKind.i64.wrap ((f:Int)+1)=(f:Int)+1:=IntWalk.i64_in _ oz;have q9:IntKind.i64.wrap ((L:Int)+1)=(L:Int)+1:=IntWalk.i64_in _ oz;clear d0 p k9 g2 R;cases b with
    | false=>
     gi_wp2
     go_round
     case rel=>exact⟨f+1,by omega,by go_num,by rw [j6.out];simp⟩
     case measure=>simp [intOf];omega
    | true=>
     gi_wp2
     go_round
     case rel=>exact⟨f+1,by omega,by go_num,by rw [j6.out];simp⟩
     case measure=>simp [intOf];omega
   ·obtain rfl:f=m:=by omega
    have o8:¬ (f:Int)<(f:Int):=by omega
    rw [List.take_of_length_le (by rw [i8.out];exact Nat.le_refl _)] at R;have p3:=Zh R;have e9:=cell_of_one (o.out.keep d7.out);have y:=n7.out;rw [R] at y;clear R j0;by_cases l0:o1<(L:Int)
    ·rw [if_pos l0] at y;have e5:=Zh y;clear y;have k8:=Dy (w:=e7) (ao:=m0) (n:=a7) (cap:=l9) (xs:=Qi d) (by have:=n5.out.ext o.out;rw [b8.out] at this;exact this) (fun u hu=>by obtain⟨_,_,rfl⟩:=List.mem_map.1 hu;rfl) oz;have j2:=Zh k8;clear k8;gi_wp2;refine callsIn_wide.2 (j2.out.mono ?_);rintro e P ⟨Y,X,rfl,c4,a1⟩;have a3:Ext j P:=o.out.trans a1;have b9:=a3.keep i3.out;have c0:=a3.keep d7.out;have k1:=a3.keep i5.out;have o7:J.heap.size+2<=e7.heap.size:=by have:=o.out.size;omega
     have i0:=Q1.set1 P g 0 (.slice Y a7 X);have i1:=Q1.set1 (P.setCell ⟨g,0,none⟩ (.slice Y a7 X)) (g+1) 0 (.int .i64 (L:Int));have k0:=i0.heap c0 oz;have S:=a8.out;have b4:Q1 (fun b=>b=g\/b=g+1) P ((P.setCell ⟨g,0,none⟩ (.slice Y a7 X)).setCell ⟨g+1,0,none⟩ (.int .i64 (L:Int))):=(i0.mono fun b _ e=>.inl e).trans (i1.mono fun b _ e=>.inr e);have b2:Wg g (g+1) C (J.heap.size+2) l qs (.slice U f pc) w W (F++[d]) ((P.setCell ⟨g,0,none⟩ (.slice Y a7 X)).setCell ⟨g+1,0,none⟩ (.int .i64 (L:Int))):=by
      have e:=e5.out;refine⟨Y,X,?_,?_,b4.heap k1 oz,?_,?_,Q1.after (b7.out.trans a3) b4 (fun b p a=>by omega)⟩
      ·rw [e];dsimp only;rw [b8.out];exact i1.heap (J9 b9) oz
      ·rw [e];exact J9 k0
      ·rw [e];dsimp only;rw [b8.out];exact Qd (Xh c4 o7) b4 (fun Q N e=>by have:=(c4.lt Q N).1;omega)
      ·rw [e];dsimp only;rw [b8.out];intro Q N a;have:=(c4.lt Q N).1;have:=(j5.out Q a).2;have:=o.out.size;omega
     have l1:Q1 (fun b=>¬ ((b<w.heap.size\/b=E\/b=E+1)\/W b\/b=J.heap.size\/b=J.heap.size+1)) j ((P.setCell ⟨g,0,none⟩ (.slice Y a7 X)).setCell ⟨g+1,0,none⟩ (.int .i64 (L:Int))):=a3.of.trans (b4.mono fun b _ a S=>by
      rcases S with (s | s | s) | s | s | s
      ·omega
      ·omega
      ·omega
      ·have:=(j5.out b s).1;omega
      ·omega
      ·omega)
     have e3:=Zh b2;have n3:=Zh l1;have k2:=cell_of_one b9;have q0:=free_of_one b9;have o2:=cell_of_one c0;have q1:=free_of_one c0;clear b2 l1 i0 i1 b4 k0 b9 c0 k1 a3 c4 a1 e9 j2;gi_wp2;exact⟨n3.out,e3.out⟩
    ·rw [if_neg l0] at y;have e5:=Zh y;clear y;have b2:Wg g (g+1) C (J.heap.size+2) l qs (.slice U f pc) w W (F++[d]) e7:=by
      have e:=e5.out;refine⟨ao,c,?_,?_,o.out.keep i5.out,?_,?_,b7.out.trans o.out⟩
      ·rw [e];exact o.out.keep i3.out
      ·rw [e];exact o.out.keep d7.out
      ·rw [e];exact Qf b6.out o.out
      ·rw [e];exact m7.out
     have e3:=Zh b2;clear b2;gi_wp2;exact⟨o.out.of,e3.out⟩
def Jb(l:List Nat)(i:Nat):List Nat:=(l.set i (l.getD (i+1) 0)).set (i+1) (l.getD i 0)
def exB(F G:List Bool):Bool:=(List.range F.length).any fun k=>F.getD k false && !G.getD k false
def Uw(LD:List Q7)(qs:Qa)(l:List Nat)(i:Nat):Bool:=exB (Xk LD l qs) (Xk LD (Jb l i) qs)
def J3(LD:List Q7)(xs:List Int)(qs:Qa):List Nat:=if Qx LD xs (qs.map (·.1))=0 then(List.range (xs.length - 1)).filter (Uw LD qs (Ym xs)) else []
theorem Ta(l:List Nat)(i:Nat):(Jb l i).length=l.length:=by unfold Jb;simp
theorem Q2q{l:List Nat}{i n:Nat}(c:i+1<l.length)(h:∀ x∈l,x<n):∀ x∈Jb l i,x<n:=by
 intro x a;unfold Jb at a;have b:∀ j,j<l.length->l.getD j 0<n:=fun j hj=>by rw [List.getD_eq_getElem?_getD,List.getElem?_eq_getElem hj];exact h _ (List.getElem_mem hj)
 rcases List.mem_or_eq_of_mem_set a with a | rfl
 ·rcases List.mem_or_eq_of_mem_set a with a | rfl
  ·exact h x a
  ·exact b _ oz
 ·exact b _ oz
theorem Q1j(l:List Nat)(i:Nat):((Qi l).set i (.int .i64 (l.getD (i+1) 0:Nat))).set (i+1) (.int .i64 (l.getD i 0:Nat))=Qi (Jb l i):=by
 unfold Qi Jb;rw [List.map_set,List.map_set]
def Ee(F G:List Bool)(k:Nat):Prop:=∀ j,j<k->(F.getD j false && !G.getD j false)=false
theorem Q2z{F G:List Bool}{k:Nat}(h:Ee F G k)(h1:(F.getD k false && !G.getD k false)=false):Ee F G (k+1):=fun j hj=>by
 by_cases e:j=k
 ·subst e;exact h1
 ·exact h j oz
theorem Q5d{F G:List Bool}{k:Nat}(c:F.length<=k)(h:Ee F G k):exB F G=false:=by
 unfold exB;rw [List.any_eq_false];intro b a;rw [h b (by have:=List.mem_range.1 a;omega)];decide
theorem Q6f{F G:List Bool}{k:Nat}(b:k<F.length)(a:(F.getD k false && !G.getD k false)=true):exB F G=true:=by
 unfold exB;rw [List.any_eq_true];exact⟨k,List.mem_range.2 b,a⟩
theorem L9(q:Nat->Bool)(k:Nat):(List.range (k+1)).filter q=(List.range k).filter q++if q k=true then [k] else []:=by
 rw [List.range_succ,List.filter_append];cases h:q k <;> simp [h]
theorem So{w:World}{base:Nat}{e:TypeId}{g n cap j:Nat}{xs:List Value}(h:w.ownsRow base e 1 (.slice (some ⟨g,0,none⟩) n cap) n xs) (_hj:j<n):w.frozen? ⟨g,j,none⟩=false:=by
 obtain⟨b,a⟩:=Z3 h rfl;simp [World.frozen?,a]
def Q8s(lo oo po fo:Option Addr)(n lc on oc m pc fc mx B0:Nat)(w2:World)(P:Nat->List Nat)(a:Act)(W:World):Prop:=∃(i:Nat) (ao:Option Addr) (c:Nat),i<=mx/\a.defers=[]/\(a.tmps.size=76/\a.tmps.getD 0 undef=.slice lo n lc/\a.tmps.getD 1 undef=.slice oo on oc/\a.tmps.getD 2 undef=.slice po m pc/\a.tmps.getD 9 undef=.slice fo m fc/\a.tmps.getD 10 undef=.slice ao (P i).length c/\a.tmps.getD 29 undef=.int .i64 mx/\a.tmps.getD 30 undef=.int .i64 i)/\W.ownsRow B0 3 1 (.slice ao (P i).length c) (P i).length (Qi (P i))/\Ext w2 W
theorem Um{w:World}{ps:Qy}{qs:Qa}{lo:Option Addr}{n lc:Nat}{oo:Option Addr}{on oc:Nat}{xs:List Int}{e1:Option Addr}{m pc:Nat}(f9:Z9 w (.slice lo n lc) ps) (d6:ps.length=n) (d7:Rd w (.slice oo on oc) on 1 (Z7 xs)) (d8:xs.length=on) (g5:Qu w (.slice e1 m pc) qs) (d4:qs.length=m) (f5:Tab w) :
  Calls Tryz.prog 28 #[.slice lo n lc,.slice oo on oc,.slice e1 m pc] w fun e w'=>∃ ao c,e=.returned (.tuple #[.slice ao (J3 (ps.map (·.1)) xs qs).length c,.int .i64 (Qx (ps.map (·.1)) xs (qs.map (·.1)))])/\Rd w' (.slice ao (J3 (ps.map (·.1)) xs qs).length c) (J3 (ps.map (·.1)) xs qs).length 1 (Qi (J3 (ps.map (·.1)) xs qs))/\Ext w w':=by
 have d9:=fun(V:World) (q:Ext w V)=>Sx (f9.ext q) d6 (d7.ext q) d8 (Zc g5 q) d4 (f5.keep q id)
 have b1:Qx (ps.map (·.1)) xs (qs.map (·.1))=0->m<=32/\on<=6:=fun h=>by
  have B:=K4 h;have q3:=Jg B.1;have X:=(Ga B.2).2.2.1.length_eq;unfold Ym at X;simp at X q3;omega
 have d1:=fun(h:Qx (ps.map (·.1)) xs (qs.map (·.1))=0) (V:World) (q:Ext w V) (k:List Nat) (o3:Option Addr) (a0:Nat) (b7:Rd V (.slice o3 on a0) on 1 (Qi k)) (hyl:k.length=on) (b0:∀ x∈k,x<n)=>Q31 (f9.ext q) d6 b7 hyl b0 (Zc g5 q) d4 (by have:=(b1 h).1;omega) (f5.keep q id)
 have b2:Qx (ps.map (·.1)) xs (qs.map (·.1))=0->Qi (Ym xs)=Z7 xs/\∀ x∈Ym xs,x<n:=fun h=>by
  have B:=(K4 h).2;rw [List.length_map,d6] at B;exact⟨(Ga B).1,(Ga B).2.1⟩
 obtain⟨s,f2⟩:=zE (ps.map (·.1));rw [f2] at b1 b2 ⊢;simp only [f2] at d9 d1;obtain⟨r2,M⟩:=zE (J3 s xs qs);rw [M];unfold J3 at M;rw [d8] at M;obtain⟨i6,J⟩:=zE (Qx s xs (qs.map (·.1)));rw [J] at b1 b2 d1 M ⊢;simp only [J] at d9;obtain⟨k,g4⟩:=zE (Ym xs);have N:k.length=on:=by rw [<-g4];unfold Ym;rw [List.length_map,d8]
 rw [g4] at M b2;have a4:∀ l,(Xk s l qs).length=m:=fun l=>by unfold Xk;rw [List.length_map,d4]
 obtain⟨k5,i8,j6,j9,e7,b9,k0,j4⟩:=Zh8 d9 d1 b1 b2 M N d7 a4;have q8:on<=maxLen:=d7.2.1;unfold maxLen at q8;clear d9 d1 b1 b2 M N d7 a4 J g4 f2 f9 d6 d8 g5 d4 f5;go_enter Tryz.func28,Tryz.ntmps28;go_wp2;refine wp_scope_straight ?_;go_wp2_with fail;refine(k5.out _ (Q1.refl _ _)).mono ?_;rintro e r0 ⟨rfl,l3⟩;have a1:=Zh l3;clear l3 k5;by_cases J:i6=0;case neg=>
  have t4:(i6 != 0)=true:=by simpa using J
  have Y:=e7.out;rw [if_neg J] at Y;subst Y;go_wp2;unfold Exit.noGoto;go_ret2;exact⟨none,0,rfl,Rd.of_own (e:=3) (World.ownsRow_nil _ 0 _ _),a1.out⟩
 subst J;obtain⟨t2,t5⟩:=j6.out uz;obtain⟨g0,b0⟩:=j9.out uz;have Y:=e7.out;rw [if_pos uz] at Y;have a6:=i8.out uz;obtain⟨k6,o5,p0,p2⟩:=Zh4 Y a6 b0 g0;have n1:=a6 r0 a1.out k oo oc (by rw [g0];exact k0.out.ext a1.out) b9.out b0;have j3:=Zh n1;clear Y a6 b0 g0 n1 e7 i8 j6 j9;go_wp2_with fail;refine j3.out.mono ?_;rintro e i4 ⟨l0,k9,rfl,⟨r3,a6,f4⟩,l4⟩;obtain⟨p,c7⟩:=zE (Xk s k qs);rw [c7] at f4;have a4:p.length=m:=by rw [<-c7];exact j4.out _
 obtain⟨p4,e3,o7,j5⟩:=Zh4 (Rd.of_own f4) (a1.out.trans l4) c7 a4;clear f4 l4 c7 a4 j3 a1 a6;have n8:max ((on:Int) - 1) 0=((on - 1:Nat):Int):=by omega
 have q9:IntKind.i64.wrap ((on:Int) - 1)=(on:Int) - 1:=IntWalk.i64_in _ oz;obtain⟨O,d5⟩:=zE (on - 1);rw [d5] at n8;have Z:=k6.out;rw [d5] at Z;have p8:=Zh Z;have p1:=Zh d5;have t3:O<=on:=by omega
 clear Z d5 k6;go_wp2;refine wp_label ?_;go_wp2;clear q9 n8;obtain⟨Q,l2⟩:=zE i4.heap.size;have i7:=Zh l2;clear l2
 refine wp_loop (Q8s lo oo e1 l0 n lc on oc m pc k9 O Q i4 (fun f=>(List.range f).filter (Uw s qs k)))
  (fun a _=>((O:Int) - intOf (a.tmps.getD 30 undef)).toNat) ?_ ?_
 ·exact⟨0,none,0,by omega,rfl,⟨rfl,rfl,rfl,rfl,rfl,rfl,rfl,rfl⟩,World.ownsRow_nil _ _ _ _,Q1.refl _ _⟩
 rintro⟨i1,_⟩ z ⟨f,ao,c,s4,f7,⟨b6,v,y,E,I,A,F,H⟩,f3,q⟩;dsimp only at A f3;subst f7;obtain⟨i3,t⟩:=Zd b6;obtain⟨d,rfl⟩:∃ x,x=i3:=⟨_,rfl⟩;have g8:i1=#[d 0,d 1,d 2,d 3,d 4,d 5,d 6,d 7,d 8,d 9,d 10,d 11,d 12,d 13,d 14,d 15,d 16,d 17,d 18,d 19,d 20,d 21,d 22,d 23,d 24,d 25,d 26,d 27,d 28,d 29,d 30,d 31,d 32,d 33,d 34,d 35,d 36,d 37,d 38,d 39,d 40,d 41,d 42,d 43,d 44,d 45,d 46,d 47,d 48,d 49,d 50,d 51,d 52,d 53,d 54,d 55,d 56,d 57,d 58,d 59,d 60,d 61,d 62,d 63,d 64,d 65,d 66,d 67,d 68,d 69,d 70,d 71,d 72,d 73,d 74,d 75]:=t;clear t;subst g8;change d 0=_ at v;change d 1=_ at y;change d 2=_ at E;change d 9=_ at I;change d 10=_ at A;change d 29=_ at F;change d 30=_ at H;rw [v,y,E,I,A,F,H];clear v y E I A F H b6;have k2:=Zh f3;have C:=Zh q;have r:=L9 (Uw s qs k) f;have n6:((List.range f).filter (Uw s qs k)).length<=f:=Nat.le_trans (List.length_filter_le _ _) zy;obtain⟨o2,a9⟩:=zE ((List.range f).filter (Uw s qs k));rw [a9] at r n6;have o9:=Zh a9;have c9:=k2.out;rw [a9] at c9;rw [a9];obtain⟨e0,N⟩:=zE o2.length;rw [N] at c9 n6;rw [N];obtain⟨e5,k4,T⟩:=Zh3 c9 r N;clear f3 q r a9 N c9 k2;by_cases s8:f<O;case neg=>
  obtain rfl:f=O:=by omega
  have B:¬ (f:Int)<(f:Int):=by omega
  have Z:=p8.out;rw [o9.out] at Z;subst Z;go_wp2;go_ret2;exact⟨ao,c,by rw [T.out];rfl,by rw [T.out];exact Rd.of_own e5.out,e3.out.trans C.out⟩
 have B:(f:Int)<(O:Int):=by omega
 have r9:(0:Int)<=(f:Int):=by omega
 have n5:f+1<on:=by have:=p1.out;omega
 have t6:IntKind.i64.wrap ((f:Int)+1)=(f:Int)+1:=IntWalk.i64_in _ oz;have s6:(f:Int)+1<(on:Int):=by omega
 have s5:(0:Int)<=(f:Int)+1:=by omega
 have s7:(f:Int)<(on:Int):=by omega
 have s9:((f:Int)+1).toNat=f+1:=by omega
 have m8:=Dy (w:=z) (ao:=oo) (n:=on) (cap:=oc) (xs:=Qi k) (by rw [p2.out];exact k0.out.ext (e3.out.trans C.out)) (fun d t=>by obtain⟨_,_,rfl⟩:=List.mem_map.1 t;rfl) oz;have j1:=Zh m8;clear m8;go_upto_region 9 with (fail)
 go_wp2_with fail;refine j1.out.mono ?_;rintro e c0 ⟨o3,a0,rfl,a5,m0⟩;obtain⟨o,rfl⟩:=K5 (n:=on - 1) (cap:=a0) (by rw [show on - 1+1=on by omega];exact a5);obtain⟨e2,g9⟩:=zE (k.getD f 0);obtain⟨P,i0⟩:=zE (k.getD (f+1) 0)
 have f6:∀ j,j<on->∀ U,Ext c0 U->U.cell? ⟨o,j,none⟩=some (.int .i64 (k.getD j 0:Nat)):=fun j hj U hU=>by
  have:=(Qf a5 hU).cellAt j oz;rw [this];unfold Qi;rw [List.getElem?_map,List.getD_eq_getElem?_getD,List.getElem?_eq_getElem (by rw [b9.out];exact hj)];rfl
 have a7:=f6 f oz;have i:=f6 (f+1) n5;rw [g9] at a7;rw [i0] at i;have s1:z.heap.size<=o:=(a5.lt o rfl).1;obtain⟨i9,j0,k1,j8,p6,p7⟩:=Zh6 a7 i a5 m0 g9 i0;clear f6 a7 i a5 m0 g9 i0 j1;go_upto_region 10 with (fail)
 go_cut [] from 35 to 50 (fun wx=>wx.ownsRow z.heap.size 3 1 (.slice (some ⟨o,0,none⟩) on a0) on (Qi (Jb k f))/\Ext z wx)
 case first=>
  obtain⟨u,d0⟩:=zE c0.drew;have c6:Ext c0 u:=by rw [<-d0];exact(Q1.refl _ c0).drew
  have g1:=Qf k1.out c6;have i:u.cell? ⟨o,f+1,none⟩=some (.int .i64 (P:Int)):=j0.out u c6;have a7:u.cell? ⟨o,f,none⟩=some (.int .i64 (e2:Int)):=i9.out u c6;refine Z5 (S:=fun D=>D.cell? ⟨o,f+1,none⟩=some (.int .i64 (P:Int))) [17] kz (by rw [d0];exact i) ?_;intro _;rw [d0];clear d0;refine tE 0 35 i ?_;refine tE 1 36 i ?_;refine tE 2 37 i ?_;refine tE 3 38 i ?_;refine tE 4 39 i ?_;refine tE 5 40 i ?_;refine tE 6 41 i ?_;refine tE 7 42 i ?_;refine tE 8 43 i ?_;refine tE 9 44 i ?_;refine tE 10 45 i ?_;refine tE 11 46 i ?_;refine tE 12 47 i ?_;refine rE [13] ?_;refine Q2.cons rfl (fun K hK=>?_) Q2.nil;refine iw rfl ?_;go_simp;refine hK.out _ _ i (fun _=>?_);clear hK K;try simp only [Act.put,pq]
  refine tE 14 49 i ?_;refine rE [15] ?_;refine Q2.cons rfl (fun K hK=>?_) Q2.nil;refine iw rfl ?_;have v:=So g1 (j:=f) oz;go_simp;have q7:(⟨o,f,none⟩:Addr)≠⟨o,f+1,none⟩:=by intro e;simp at e
  have g6:(u.setCell ⟨o,f,none⟩ (.int .i64 (P:Int))).cell? ⟨o,f+1,none⟩=some (.int .i64 (P:Int)):=by rw [World.cell?_setCell_other (h:=q7)];exact i
  refine hK.out _ _ g6 (fun _=>?_);clear hK K v a7
  (try change Qj _ _ _ _ _ _ _ _ (Act.put _ none _) _)
  (try simp only [Act.put])
  refine tE 16 50 g6 ?_;refine rE [17] ?_;refine Q2.late rfl rfl (fun K hK=>?_) Q2.nil;refine iw rfl ?_;have g2:=Vd g1 f (.int .i64 (P:Int));have y:=So g2 (j:=f+1) oz;go_simp;refine hK.out _ _ ?_;clear hK K y
  (try change Qj _ _ _ _ _ _ _ _ (Act.put _ none _) _)
  (try simp only [Act.put])
  refine Qm kz ?_ _;have g3:=Vd g2 (f+1) (.int .i64 (e2:Int));have i2:Q1 (fun b=>b=o) u ((u.setCell ⟨o,f,none⟩ (.int .i64 (P:Int))).setCell ⟨o,f+1,none⟩ (.int .i64 (e2:Int))):=(Q1.set1 _ _ _ _).trans (Q1.set1 _ _ _ _);obtain⟨c1,m5⟩:=zE ((u.setCell ⟨o,f,none⟩ (.int .i64 (P:Int))).setCell ⟨o,f+1,none⟩ (.int .i64 (e2:Int)));rw [m5] at g3 i2 ⊢;have o0:c1.ownsRow z.heap.size 3 1 (.slice (some ⟨o,0,none⟩) on a0) on (Qi (Jb k f)):=by
   have e:=Q1j k f;rw [p6.out,p7.out] at e;rw [<-e];exact g3
  have L:Ext z c1:=(j8.out.trans c6).after i2 (fun b hb e=>by omega);have p3:=Zh o0;have e4:=Zh L;clear m5 g3 i2 o0 L g2 g1 g6 i;go_wp2
  go_meet
  case rel=>exact⟨p3.out,e4.out⟩
 case rest=>
  obtain⟨b7,L⟩:=hcut;generalize wc=c1 at b7 L ⊢;have g7:=o5.out c1 (e3.out.trans (C.out.trans L)) (Jb k f) (some ⟨o,0,none⟩) a0 (Rd.of_own b7) (by rw [Ta,b9.out]) (Q2q (by rw [b9.out];exact n5) p0.out);obtain⟨G,c8⟩:=zE (Xk s (Jb k f) qs);have l9:G.length=m:=by rw [<-c8];exact j4.out _
  rw [c8] at g7;have n7:Uw s qs k f=exB p G:=by unfold Uw;rw [o7.out,c8]
  obtain⟨k3,o8,j7,e4⟩:=Zh4 g7 l9 n7 L;clear b7 L g7 c8 l9 n7 i9 j0 k1 j8;go_wp2_with fail;refine k3.out.mono ?_;rintro e W ⟨q2,q1,rfl,⟨r4,q5,m1⟩,l5⟩;have p5:=Zh (Rd.of_own m1);have R:=Zh (e4.out.trans l5);clear m1 l5 k3 q5;go_wp2
  refine wp_loop (fun a z=>∃(g:Nat),g<=m/\a.defers=[]/\(a.tmps.size=76/\a.tmps.getD 0 undef=.slice lo n lc/\a.tmps.getD 1 undef=.slice oo on oc/\a.tmps.getD 2 undef=.slice e1 m pc/\a.tmps.getD 9 undef=.slice l0 m k9/\a.tmps.getD 10 undef=.slice ao e0 c/\a.tmps.getD 11 undef=.int .i64 f/\a.tmps.getD 29 undef=.int .i64 O/\a.tmps.getD 30 undef=.int .i64 f/\a.tmps.getD 54 undef=.slice q2 m q1/\a.tmps.getD 55 undef=.int .i64 m/\a.tmps.getD 56 undef=.int .i64 g)/\Ee p G g/\W=z)
   (fun a _=>((m:Int) - intOf (a.tmps.getD 56 undef)).toNat) ?_ ?_
  ·exact⟨0,by omega,rfl,⟨rfl,rfl,rfl,rfl,rfl,rfl,rfl,rfl,rfl,rfl,rfl,rfl⟩,fun j hj=>by omega,by first | trivial | rfl⟩
  rintro⟨i1,_⟩ r1 ⟨g,t0,f7,⟨b6,v,y,E,I,A,e8,F,H,e9,f0,f1⟩,m9,rfl⟩;subst f7;obtain⟨i3,t⟩:=Zd b6;obtain⟨d,rfl⟩:∃ x,x=i3:=⟨_,rfl⟩;have g8:i1=#[d 0,d 1,d 2,d 3,d 4,d 5,d 6,d 7,d 8,d 9,d 10,d 11,d 12,d 13,d 14,d 15,d 16,d 17,d 18,d 19,d 20,d 21,d 22,d 23,d 24,d 25,d 26,d 27,d 28,d 29,d 30,d 31,d 32,d 33,d 34,d 35,d 36,d 37,d 38,d 39,d 40,d 41,d 42,d 43,d 44,d 45,d 46,d 47,d 48,d 49,d 50,d 51,d 52,d 53,d 54,d 55,d 56,d 57,d 58,d 59,d 60,d 61,d 62,d 63,d 64,d 65,d 66,d 67,d 68,d 69,d 70,d 71,d 72,d 73,d 74,d 75]:=t;clear t;subst g8;change d 0=_ at v;change d 1=_ at y;change d 2=_ at E;change d 9=_ at I;change d 10=_ at A;change d 11=_ at e8;change d 29=_ at F;change d 30=_ at H;change d 54=_ at e9;change d 55=_ at f0;change d 56=_ at f1;rw [v,y,E,I,A,e8,F,H,e9,f0,f1];clear v y E I A e8 F H e9 f0 f1 b6;have j2:=Zh m9;clear m9;by_cases d3:g<m;case neg=>
   obtain rfl:g=m:=by omega
   have q6:¬ (g:Int)<(g:Int):=by omega
   have n9:=Q5d (by rw [j5.out];exact Nat.le_refl _) j2.out;have r:=k4.out;rw [j7.out,n9] at r;have a2:=Zh r;clear r n9;go_wp2;exact⟨⟨f+1,ao,c,by omega,tz,⟨rfl,rfl,rfl,rfl,rfl,by dsimp only;rw [a2.out];simp [T.out],rfl,rfl⟩,by dsimp only;rw [a2.out];simpa [T.out] using Qf e5.out R.out,C.out.trans R.out⟩,mz⟩
  have q6:(g:Int)<(m:Int):=by omega
  have t1:(0:Int)<=(g:Int):=by omega
  have t7:IntKind.i64.wrap ((g:Int)+1)=(g:Int)+1:=IntWalk.i64_in _ oz;have d2:g<p.length:=by rw [j5.out];exact d3
  have f8:g<G.length:=by rw [o8.out];exact d3
  obtain⟨r7,t8,r5,b3,s2,m6⟩:=Vx (p4.out.ext (C.out.trans R.out)) d3;simp only [zV,true_and] at b3;obtain⟨rfl,rfl⟩:=b3;obtain⟨r8,t9,r6,b3,s3,m7⟩:=Vx p5.out d3;simp only [zV,true_and] at b3;obtain⟨rfl,rfl⟩:=b3;have n2:(p.map Value.bool).getD g undef=.bool p[g]:=by rw [List.getD_eq_getElem?_getD,List.getElem?_map,List.getElem?_eq_getElem d2];rfl
  have n4:(G.map Value.bool).getD g undef=.bool G[g]:=by rw [List.getD_eq_getElem?_getD,List.getElem?_map,List.getElem?_eq_getElem f8];rfl
  have l7:p.getD g false=p[g]:=by rw [List.getD_eq_getElem?_getD,List.getElem?_eq_getElem d2];rfl
  have l8:G.getD g false=G[g]:=by rw [List.getD_eq_getElem?_getD,List.getElem?_eq_getElem f8];rfl
  rw [n2] at m6;rw [n4] at m7;have a8:=fun h=>Q6f (G:=G) d2 h;have b5:=fun h=>Q2z j2.out h;rw [l7,l8] at a8 b5;obtain⟨p9,n0⟩:=zE (p[g]);obtain⟨q0,n3⟩:=zE (G[g]);rw [n0] at m6 a8 b5;rw [n3] at m7 a8 b5;have b8:=Zh a8;have a3:=Zh b5;clear n0 n3 a8 b5 l7 l8 n2 n4 d2 f8;cases p9 with
  | false=>
   have b4:=a3.out rfl;have e6:=Zh b4;clear b4 a3 b8;go_wp2;exact⟨⟨g+1,by omega,tz,⟨rfl,rfl,rfl,rfl,rfl,rfl,rfl,rfl,rfl,rfl,rfl,rfl⟩,e6.out,by first | trivial | rfl⟩,mz⟩
  | true=>
   cases q0 with
   | true=>
    have b4:=a3.out rfl;have e6:=Zh b4;clear b4 a3 b8;go_wp2;exact⟨⟨g+1,by omega,tz,⟨rfl,rfl,rfl,rfl,rfl,rfl,rfl,rfl,rfl,rfl,rfl,rfl⟩,e6.out,by first | trivial | rfl⟩,mz⟩
   | false=>
    have o1:=b8.out rfl;have r:=k4.out;rw [j7.out,o1] at r;have a2:=Zh r;have s0:Q<=W.heap.size:=by have:=C.out.size;have:=R.out.size;have:=i7.out;omega
    have X:=Qf e5.out R.out;clear r o1 b8 a3
    go_wp2_with (at_builtin;refine Zz rfl (.tmp 69) (.tmp 71) 48 rfl Q 3 _ 1 8 Tryz.underlying48 Tryz.infoI rfl zd _ _ _ rfl (Qf X ((Q1.refl _ W).alloc _)) ⟨W.heap.size,0,none⟩ 1 1 [.int .i64 (f:Int)] rfl rfl (Y5 rfl) ?c2 ?c3 ?c4 ?c5 ?_)
    case c2=>first | rfl | (intro d t;simp at t;subst t;rfl)
    case c3=>unfold maxLen;omega
    case c4=>omega
    case c5=>first | omega | (simp;omega)
    intro k7 k8 i5 m2 m3 q4;have m4:Q1 (fun b=>(Value.slice ao e0 c).ownBlock=some b) W i5:=Q1.trans (Q1.alloc (Q1.refl _ W) _) m3;have l6:Ext i4 i5:=(C.out.trans R.out).after m4 (fun b hb e=>by have:=(X.lt _ e).1;have:=i7.out;omega);have l1:i5.ownsRow Q 3 1 (.slice k7 (e0+1) k8) (e0+1) (Qi (o2++[f])):=by rw [Xg];exact m2
    have o4:=Zh l1;have o6:=Zh l6;clear l1 l6 m4 m3 q4 m2 X;go_wp2;exact⟨⟨f+1,k7,k8,by omega,tz,⟨rfl,rfl,rfl,rfl,rfl,by dsimp only;rw [a2.out];simp [T.out],rfl,rfl⟩,by dsimp only;rw [a2.out];simp only [if_true,List.length_append,T.out,List.length_singleton];exact o4.out,o6.out⟩,mz⟩
end Go.Proofs.YtfdlhlghcbeblaaGreatDoor
