/- pats.allowed: the error of a node alone. slices.Backward over patterns. -/
import Derived.Test.YtbmbdoanammlgaaDoorP06
set_option maxRecDepth 100000
set_option maxHeartbeats 8000000
namespace Go.Proofs.YtbmbdoanammlgaaDoor
open Go.RowKit Go.Ab
def Qy(k:Int)(pl mi:Nat)(nt:Bool)(mn mx:Int)(N:Nat):Int:=
  if k<0\/6<k then 2
  else if k≠1/\(pl≠0\/mi≠0\/nt=true) then 2
  else if k≠3/\k≠4/\k≠5/\N≠0 then 2
  else if k≠5/\(mn≠0\/mx≠0) then 2
  else if k=5/\(N≠1\/mn<0\/32<mn\/(mx≠-1/\(mx<mn\/32<mx))) then 2
  else if Z3 pl mi=true then 0 else 14
theorem Lq(k:Int)(pl mi:Nat)(nt:Bool)(mn mx:Int)(l:List Pat):Y3 (.node k pl mi nt mn mx l)=Qy k pl mi nt mn mx l.length:=rfl
theorem Qt:Z3 0 0=true:=rfl
theorem We(k:Int)(pl mi:Nat)(nt:Bool)(mn mx:Int)(ao:Option Addr)(N cap:Nat)(w:World)(a:k<0\/6<k) :
    Calls Tryd.prog 19 #[.agg #[.int .i64 k,.int .u32 (pl:Int),.int .u32 (mi:Int),.bool nt,.int .i64 mn,.int .i64 mx,.slice ao N cap]] w fun e w'=>e=.returned (.int .i64 (Qy k pl mi nt mn mx N))/\Ext w w':=by
  have d:(k == 0)=false:=by rw [beq_eq_false_iff_ne];omega
  have f:(k == 1)=false:=by rw [beq_eq_false_iff_ne];omega
  have g:(k == 2)=false:=by rw [beq_eq_false_iff_ne];omega
  have i:(k == 3)=false:=by rw [beq_eq_false_iff_ne];omega
  have j:(k == 4)=false:=by rw [beq_eq_false_iff_ne];omega
  have l:(k == 5)=false:=by rw [beq_eq_false_iff_ne];omega
  have m:(k == 6)=false:=by rw [beq_eq_false_iff_ne];omega
  have b:Qy k pl mi nt mn mx N=2:=by unfold Qy;rw [if_pos a]
  have c:=Zh b;clear a b;go_enter Tryd.func19,Tryd.ntmps19;go_wp2;go_ret;exact⟨by rw [c.out];rfl,((Q1.refl _ _).alloc _).alloc _⟩
theorem Fp(pl mi:Nat)(nt:Bool)(mn mx:Int)(ao:Option Addr)(N cap:Nat)(w:World)(n:pl<4294967296)(m:mi<4294967296)(_hN:N<=9223372036854775807) :
    Calls Tryd.prog 19 #[.agg #[.int .i64 0,.int .u32 (pl:Int),.int .u32 (mi:Int),.bool nt,.int .i64 mn,.int .i64 mx,.slice ao N cap]] w fun e w'=>e=.returned (.int .i64 (Qy 0 pl mi nt mn mx N))/\Ext w w':=by
  have o:True:=trivial;all_goals (go_enter Tryd.func19,Tryd.ntmps19)
  all_goals (go_wp2_with fail)
  all_goals first
    | (refine(Z7 _ _ (by assumption) (by assumption) _).mono ?_
       rintro e l ⟨rfl,b⟩;have a:=(((Q1.refl (fun _=>False) w).alloc _).alloc _).trans b;have d:=Zh a;clear a b;obtain⟨g,f⟩:=zE (Z3 pl mi);have i:=Zh f;rw [f];clear f;cases g
       all_goals
         go_wp2;go_ret;exact⟨Qr (by have:=i.out;unfold Qy;rw [this];(try subst ‹nt=true›);(try (have c:nt=false:=Bool.eq_false_iff.2 ‹¬nt=true›;subst c));simp <;> omega),d.out⟩)
    | (refine(Z7 0 0 zd zd _).mono ?_
       rintro e l ⟨rfl,b⟩;have a:=(((Q1.refl (fun _=>False) w).alloc _).alloc _).trans b;have d:=Zh a;clear a b;rw [Qt];go_wp2;go_ret
       exact ⟨Qr (by have:=Qt;have j:pl=0:=by assumption
                     have k:mi=0:=by assumption
                     subst j;subst k;unfold Qy;rw [this];(try (have c:nt=false:=Bool.eq_false_iff.2 ‹¬nt=true›;subst c));simp <;> omega),d.out⟩)
    | (go_ret
       exact⟨Qr (by unfold Qy;(try subst ‹nt=true›);(try (have c:nt=false:=Bool.eq_false_iff.2 ‹¬nt=true›;subst c));simp <;> omega),((Q1.refl _ _).alloc _).alloc _⟩)
theorem Dy(pl mi:Nat)(nt:Bool)(mn mx:Int)(ao:Option Addr)(N cap:Nat)(w:World)(n:pl<4294967296)(m:mi<4294967296)(_hN:N<=9223372036854775807) :
    Calls Tryd.prog 19 #[.agg #[.int .i64 1,.int .u32 (pl:Int),.int .u32 (mi:Int),.bool nt,.int .i64 mn,.int .i64 mx,.slice ao N cap]] w fun e w'=>e=.returned (.int .i64 (Qy 1 pl mi nt mn mx N))/\Ext w w':=by
  have o:True:=trivial;all_goals (go_enter Tryd.func19,Tryd.ntmps19)
  all_goals (go_wp2_with fail)
  all_goals first
    | (refine(Z7 _ _ (by assumption) (by assumption) _).mono ?_
       rintro e l ⟨rfl,b⟩;have a:=(((Q1.refl (fun _=>False) w).alloc _).alloc _).trans b;have d:=Zh a;clear a b;obtain⟨g,f⟩:=zE (Z3 pl mi);have i:=Zh f;rw [f];clear f;cases g
       all_goals
         go_wp2;go_ret;exact⟨Qr (by have:=i.out;unfold Qy;rw [this];(try subst ‹nt=true›);(try (have c:nt=false:=Bool.eq_false_iff.2 ‹¬nt=true›;subst c));simp <;> omega),d.out⟩)
    | (refine(Z7 0 0 zd zd _).mono ?_
       rintro e l ⟨rfl,b⟩;have a:=(((Q1.refl (fun _=>False) w).alloc _).alloc _).trans b;have d:=Zh a;clear a b;rw [Qt];go_wp2;go_ret
       exact ⟨Qr (by have:=Qt;have j:pl=0:=by assumption
                     have k:mi=0:=by assumption
                     subst j;subst k;unfold Qy;rw [this];(try (have c:nt=false:=Bool.eq_false_iff.2 ‹¬nt=true›;subst c));simp <;> omega),d.out⟩)
    | (go_ret
       exact⟨Qr (by unfold Qy;(try subst ‹nt=true›);(try (have c:nt=false:=Bool.eq_false_iff.2 ‹¬nt=true›;subst c));simp <;> omega),((Q1.refl _ _).alloc _).alloc _⟩)
theorem Dv(pl mi:Nat)(nt:Bool)(mn mx:Int)(ao:Option Addr)(N cap:Nat)(w:World)(n:pl<4294967296)(m:mi<4294967296)(_hN:N<=9223372036854775807) :
    Calls Tryd.prog 19 #[.agg #[.int .i64 2,.int .u32 (pl:Int),.int .u32 (mi:Int),.bool nt,.int .i64 mn,.int .i64 mx,.slice ao N cap]] w fun e w'=>e=.returned (.int .i64 (Qy 2 pl mi nt mn mx N))/\Ext w w':=by
  have o:True:=trivial;all_goals (go_enter Tryd.func19,Tryd.ntmps19)
  all_goals (go_wp2_with fail)
  all_goals first
    | (refine(Z7 _ _ (by assumption) (by assumption) _).mono ?_
       rintro e l ⟨rfl,b⟩;have a:=(((Q1.refl (fun _=>False) w).alloc _).alloc _).trans b;have d:=Zh a;clear a b;obtain⟨g,f⟩:=zE (Z3 pl mi);have i:=Zh f;rw [f];clear f;cases g
       all_goals
         go_wp2;go_ret;exact⟨Qr (by have:=i.out;unfold Qy;rw [this];(try subst ‹nt=true›);(try (have c:nt=false:=Bool.eq_false_iff.2 ‹¬nt=true›;subst c));simp <;> omega),d.out⟩)
    | (refine(Z7 0 0 zd zd _).mono ?_
       rintro e l ⟨rfl,b⟩;have a:=(((Q1.refl (fun _=>False) w).alloc _).alloc _).trans b;have d:=Zh a;clear a b;rw [Qt];go_wp2;go_ret
       exact ⟨Qr (by have:=Qt;have j:pl=0:=by assumption
                     have k:mi=0:=by assumption
                     subst j;subst k;unfold Qy;rw [this];(try (have c:nt=false:=Bool.eq_false_iff.2 ‹¬nt=true›;subst c));simp <;> omega),d.out⟩)
    | (go_ret
       exact⟨Qr (by unfold Qy;(try subst ‹nt=true›);(try (have c:nt=false:=Bool.eq_false_iff.2 ‹¬nt=true›;subst c));simp <;> omega),((Q1.refl _ _).alloc _).alloc _⟩)
theorem Fl(pl mi:Nat)(nt:Bool)(mn mx:Int)(ao:Option Addr)(N cap:Nat)(w:World)(n:pl<4294967296)(m:mi<4294967296)(_hN:N<=9223372036854775807) :
    Calls Tryd.prog 19 #[.agg #[.int .i64 3,.int .u32 (pl:Int),.int .u32 (mi:Int),.bool nt,.int .i64 mn,.int .i64 mx,.slice ao N cap]] w fun e w'=>e=.returned (.int .i64 (Qy 3 pl mi nt mn mx N))/\Ext w w':=by
  have o:True:=trivial;all_goals (go_enter Tryd.func19,Tryd.ntmps19)
  all_goals (go_wp2_with fail)
  all_goals first
    | (refine(Z7 _ _ (by assumption) (by assumption) _).mono ?_
       rintro e l ⟨rfl,b⟩;have a:=(((Q1.refl (fun _=>False) w).alloc _).alloc _).trans b;have d:=Zh a;clear a b;obtain⟨g,f⟩:=zE (Z3 pl mi);have i:=Zh f;rw [f];clear f;cases g
       all_goals
         go_wp2;go_ret;exact⟨Qr (by have:=i.out;unfold Qy;rw [this];(try subst ‹nt=true›);(try (have c:nt=false:=Bool.eq_false_iff.2 ‹¬nt=true›;subst c));simp <;> omega),d.out⟩)
    | (refine(Z7 0 0 zd zd _).mono ?_
       rintro e l ⟨rfl,b⟩;have a:=(((Q1.refl (fun _=>False) w).alloc _).alloc _).trans b;have d:=Zh a;clear a b;rw [Qt];go_wp2;go_ret
       exact ⟨Qr (by have:=Qt;have j:pl=0:=by assumption
                     have k:mi=0:=by assumption
                     subst j;subst k;unfold Qy;rw [this];(try (have c:nt=false:=Bool.eq_false_iff.2 ‹¬nt=true›;subst c));simp <;> omega),d.out⟩)
    | (go_ret
       exact⟨Qr (by unfold Qy;(try subst ‹nt=true›);(try (have c:nt=false:=Bool.eq_false_iff.2 ‹¬nt=true›;subst c));simp <;> omega),((Q1.refl _ _).alloc _).alloc _⟩)
theorem F0(pl mi:Nat)(nt:Bool)(mn mx:Int)(ao:Option Addr)(N cap:Nat)(w:World)(n:pl<4294967296)(m:mi<4294967296)(_hN:N<=9223372036854775807) :
    Calls Tryd.prog 19 #[.agg #[.int .i64 4,.int .u32 (pl:Int),.int .u32 (mi:Int),.bool nt,.int .i64 mn,.int .i64 mx,.slice ao N cap]] w fun e w'=>e=.returned (.int .i64 (Qy 4 pl mi nt mn mx N))/\Ext w w':=by
  have o:True:=trivial;all_goals (go_enter Tryd.func19,Tryd.ntmps19)
  all_goals (go_wp2_with fail)
  all_goals first
    | (refine(Z7 _ _ (by assumption) (by assumption) _).mono ?_
       rintro e l ⟨rfl,b⟩;have a:=(((Q1.refl (fun _=>False) w).alloc _).alloc _).trans b;have d:=Zh a;clear a b;obtain⟨g,f⟩:=zE (Z3 pl mi);have i:=Zh f;rw [f];clear f;cases g
       all_goals
         go_wp2;go_ret;exact⟨Qr (by have:=i.out;unfold Qy;rw [this];(try subst ‹nt=true›);(try (have c:nt=false:=Bool.eq_false_iff.2 ‹¬nt=true›;subst c));simp <;> omega),d.out⟩)
    | (refine(Z7 0 0 zd zd _).mono ?_
       rintro e l ⟨rfl,b⟩;have a:=(((Q1.refl (fun _=>False) w).alloc _).alloc _).trans b;have d:=Zh a;clear a b;rw [Qt];go_wp2;go_ret
       exact ⟨Qr (by have:=Qt;have j:pl=0:=by assumption
                     have k:mi=0:=by assumption
                     subst j;subst k;unfold Qy;rw [this];(try (have c:nt=false:=Bool.eq_false_iff.2 ‹¬nt=true›;subst c));simp <;> omega),d.out⟩)
    | (go_ret
       exact⟨Qr (by unfold Qy;(try subst ‹nt=true›);(try (have c:nt=false:=Bool.eq_false_iff.2 ‹¬nt=true›;subst c));simp <;> omega),((Q1.refl _ _).alloc _).alloc _⟩)
theorem Fa(pl mi:Nat)(nt:Bool)(mn mx:Int)(ao:Option Addr)(N cap:Nat)(w:World)(n:pl<4294967296)(m:mi<4294967296)(_hN:N<=9223372036854775807) :
    Calls Tryd.prog 19 #[.agg #[.int .i64 5,.int .u32 (pl:Int),.int .u32 (mi:Int),.bool nt,.int .i64 mn,.int .i64 mx,.slice ao N cap]] w fun e w'=>e=.returned (.int .i64 (Qy 5 pl mi nt mn mx N))/\Ext w w':=by
  rcases(show (32<mx/\(mx != -1)=true)\/mx<=32 by rw [bne_iff_ne];omega) with ⟨hx,hq⟩ | hx
  all_goals (go_enter Tryd.func19,Tryd.ntmps19)
  all_goals (go_wp2_with fail)
  all_goals first
    | (refine(Z7 _ _ (by assumption) (by assumption) _).mono ?_
       rintro e l ⟨rfl,b⟩;have a:=(((Q1.refl (fun _=>False) w).alloc _).alloc _).trans b;have d:=Zh a;clear a b;obtain⟨g,f⟩:=zE (Z3 pl mi);have i:=Zh f;rw [f];clear f;cases g
       all_goals
         go_wp2;go_ret;exact⟨Qr (by have:=i.out;unfold Qy;rw [this];(try subst ‹nt=true›);(try (have c:nt=false:=Bool.eq_false_iff.2 ‹¬nt=true›;subst c));simp <;> omega),d.out⟩)
    | (refine(Z7 0 0 zd zd _).mono ?_
       rintro e l ⟨rfl,b⟩;have a:=(((Q1.refl (fun _=>False) w).alloc _).alloc _).trans b;have d:=Zh a;clear a b;rw [Qt];go_wp2;go_ret
       exact ⟨Qr (by have:=Qt;have j:pl=0:=by assumption
                     have k:mi=0:=by assumption
                     subst j;subst k;unfold Qy;rw [this];(try (have c:nt=false:=Bool.eq_false_iff.2 ‹¬nt=true›;subst c));simp <;> omega),d.out⟩)
    | (go_ret
       exact⟨Qr (by unfold Qy;(try subst ‹nt=true›);(try (have c:nt=false:=Bool.eq_false_iff.2 ‹¬nt=true›;subst c));simp <;> omega),((Q1.refl _ _).alloc _).alloc _⟩)
theorem L0(pl mi:Nat)(nt:Bool)(mn mx:Int)(ao:Option Addr)(N cap:Nat)(w:World)(n:pl<4294967296)(m:mi<4294967296)(_hN:N<=9223372036854775807) :
    Calls Tryd.prog 19 #[.agg #[.int .i64 6,.int .u32 (pl:Int),.int .u32 (mi:Int),.bool nt,.int .i64 mn,.int .i64 mx,.slice ao N cap]] w fun e w'=>e=.returned (.int .i64 (Qy 6 pl mi nt mn mx N))/\Ext w w':=by
  have o:True:=trivial;all_goals (go_enter Tryd.func19,Tryd.ntmps19)
  all_goals (go_wp2_with fail)
  all_goals first
    | (refine(Z7 _ _ (by assumption) (by assumption) _).mono ?_
       rintro e l ⟨rfl,b⟩;have a:=(((Q1.refl (fun _=>False) w).alloc _).alloc _).trans b;have d:=Zh a;clear a b;obtain⟨g,f⟩:=zE (Z3 pl mi);have i:=Zh f;rw [f];clear f;cases g
       all_goals
         go_wp2;go_ret;exact⟨Qr (by have:=i.out;unfold Qy;rw [this];(try subst ‹nt=true›);(try (have c:nt=false:=Bool.eq_false_iff.2 ‹¬nt=true›;subst c));simp <;> omega),d.out⟩)
    | (refine(Z7 0 0 zd zd _).mono ?_
       rintro e l ⟨rfl,b⟩;have a:=(((Q1.refl (fun _=>False) w).alloc _).alloc _).trans b;have d:=Zh a;clear a b;rw [Qt];go_wp2;go_ret
       exact ⟨Qr (by have:=Qt;have j:pl=0:=by assumption
                     have k:mi=0:=by assumption
                     subst j;subst k;unfold Qy;rw [this];(try (have c:nt=false:=Bool.eq_false_iff.2 ‹¬nt=true›;subst c));simp <;> omega),d.out⟩)
    | (go_ret
       exact⟨Qr (by unfold Qy;(try subst ‹nt=true›);(try (have c:nt=false:=Bool.eq_false_iff.2 ‹¬nt=true›;subst c));simp <;> omega),((Q1.refl _ _).alloc _).alloc _⟩)
theorem Wg{K:Nat->Prop}{w:World}{p:Pat}{cs:List Value}(h:Qc K w p cs)(W:World) :
    Calls Tryd.prog 19 #[.agg cs.toArray] W fun e w'=>e=.returned (.int .i64 (Y3 p))/\Ext W w':=by
  obtain⟨a,k,f,j,g,i,d⟩:=p;unfold Qc at h;obtain⟨b,c,rfl,m,l,q,n,_⟩:=h;unfold maxLen at n;rw [Lq];unfold Q2;by_cases o:a<0\/6<a
  · exact We a k f j g i b d.length c W o
  · rcases(show a=0\/a=1\/a=2\/a=3\/a=4\/a=5\/a=6 by omega) with rfl | rfl | rfl | rfl | rfl | rfl | rfl
    · exact Fp k f j g i b d.length c W m l oz
    · exact Dy k f j g i b d.length c W m l oz
    · exact Dv k f j g i b d.length c W m l oz
    · exact Fl k f j g i b d.length c W m l oz
    · exact F0 k f j g i b d.length c W m l oz
    · exact Fa k f j g i b d.length c W m l oz
    · exact L0 k f j g i b d.length c W m l oz
attribute [local go_sem] Oper.semAt_some Zx Z4
def xsB(cs:Nat->List Value):Nat->List (Nat × List Value)
 | 0=>[]
 | k+1=>(k,cs k)::xsB cs k
def Wz(w:World)(ao:Option Addr)(K:Nat->Prop)(i:Nat)(c:List Value):Prop:=
 ∃ g off k pl mi nt mn mx xo n cap,ao=some ⟨g,off,none⟩/\K g/\w.rangeAt g (off+i*7) c/\c=Q2 k pl mi nt mn mx xo n cap
theorem Gv{w:World}{bx N cap:Nat}{ao:Option Addr}{cs:Nat->List Value}{K:Nat->Prop}(r:K bx)(u:w.heap[bx]?=some (.cells #[.slice ao N cap] 22 (0,0))) (s:N<=maxLen) (v:∀ i,i<N->Wz w ao K i (cs i)) :
  Dm Tryd.prog 32 #[.pointer (some ⟨bx,0,none⟩)] (fun x:Nat × List Value=>#[.int .i64 (x.1:Int),.agg x.2.toArray]) (xsB cs N) (fun _=>False) K w:=by
 intro b5 q a3 D A b2 b3 S O;unfold maxLen at s;have U:D.heap[bx]?=some (.cells #[.slice ao N cap] 22 (0,0)):=A.heap u (fun h=>h r);have Z:IntKind.i64.wrap ((N:Int) - 1)=(N:Int) - 1:=IntWalk.i64_in _ oz;have l:=cell_of_one U;refine callsIn_wide.1 (callsIn_of_wp (n:=0) Tryd.func32 rfl trivial ?_ rfl);simp only [Tryd.ntmps32,zS,Nat.reduceAdd,Nat.reduceSub];gi_wp2;clear Z l
 gi_loopw [3] (fun v3 wr=>∃(c:Nat) (e:Int) (a:List (Nat × List Value)),c<=N/\e+1=c/\v3=.int .i64 e/\xsB cs N=a++xsB cs c/\q a wr/\Q1 (fun b=>¬ K b) w wr)
  (fun v3 _=>(intOf v3+1).toNat)
 case atStart=>exact⟨N,(N:Int) - 1,[],Nat.le_refl _,by omega,rfl,rfl,O,A⟩
 case round=>
  obtain⟨c,e,a,b4,Y,rfl,j,m,g⟩:=hrel;cases c with
  | zero=>
   obtain rfl:e=-1:=by omega
   have V:q (xsB cs N) wr:=by rw [j];simpa [xsB] using m
   clear j;gi_wp2;go_end0
   exact⟨⟨_,rfl⟩,.inl V⟩
  | succ k=>
   obtain rfl:e=(k:Int):=by omega
   obtain⟨M,a0,c2,c1,b6,c0,b7,b8,c4,b9,a7,rfl,R,y,f⟩:=v k oz;have z:=J8 g y (fun h=>h R);obtain⟨l,E,F,G,H,I,J⟩:=Zt z f;have T:wr.heap[bx]?=some (.cells #[.slice (some ⟨M,a0,none⟩) N cap] 22 (0,0)):=g.heap u (fun h=>h r);have L:=cell_of_one T;have o:xsB cs N=a++(k,cs k)::xsB cs k:=j;obtain⟨a9,c3,a5,a6,d,t⟩:=S a _ _ wr o m;rw [f] at d;unfold Q2 at d;dsimp only at d;have b0:(k:Int)<(N:Int):=by omega
   have b1:(0:Int)<=(k:Int):=by omega
   obtain⟨p,C,B,a2,a1⟩:=Zh5 o g t s f;clear o j g t Y y z f v;gi_wp2;refine B.out.mono ?_;rintro a8 a4 (⟨rfl,P,W⟩ | ⟨rfl,Q⟩)
   ·have X:=C.out.trans W;clear d m l E F G H I J L;gi_wp2
    go_roundw
    case rel=>exact⟨k,(k:Int) - 1,a++[(k,cs k)],by omega,by omega,by first | rfl | go_num,by rw [p.out];simp,P,X⟩
    case measure=>first | (simp [intOf];done) | (simp [intOf];omega)
   ·clear d;gi_wp2;refine bodyPost_ret (results_none rfl _ _ _) rfl ?_;exact⟨⟨_,rfl⟩,.inr ⟨a,_,_,p.out,Q⟩⟩
theorem Hk(ao:Option Addr)(N cap:Nat)(w:World) :
  Calls Tryd.prog 20 #[.slice ao N cap] w fun e w'=>e=.returned (.func (.func 32) #[] #[.pointer (some ⟨w.heap.size,0,none⟩)])/\w'=w.alloc (.cells #[.slice ao N cap] 22):=by
 go_enter Tryd.func20,Tryd.ntmps20;go_wp2;go_ret;exact⟨rfl,rfl⟩
end Go.Proofs.YtbmbdoanammlgaaDoor
