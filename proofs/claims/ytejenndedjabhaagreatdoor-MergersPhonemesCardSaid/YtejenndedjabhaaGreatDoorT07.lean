/- PLAIN: -/
import Derived.Test.YtejenndedjabhaaGreatDoorT06
set_option maxRecDepth 100000
set_option maxHeartbeats 16000000
namespace Go.Proofs.YtejenndedjabhaaGreatDoor
open Go.RowKit Go.Ab
mutual
def Bw:Pat->Prop
 | .node k pl mi nt mn mx l=>Xf (.node k pl mi nt mn mx l)=0/\Ud l
def Ud:List Pat->Prop
 | []=>True
 | p::l=>Bw p/\Ud l
end
theorem Hp(p:Pat):Bw p↔Xf p=0/\Ud p.l:=by cases p;unfold Bw;exact Iff.rfl
theorem Wo(p:Pat)(l:List Pat):Ud (p::l)↔Bw p/\Ud l:=by rw [Ud]
theorem Q7m(a b:List Pat):Ud (a++b)↔Ud a/\Ud b:=by
 induction a with
 | nil=>simp [Ud]
 | cons p a ih=>rw [List.cons_append,Wo,Wo,ih,and_assoc]
theorem Wf{l:List Pat}:Ud l↔∀ p∈l,Bw p:=by
 induction l with
 | nil=>simp [Ud]
 | cons p l ih=>rw [Wo,ih];simp
theorem Cq(p:Pat)(l:List Pat):Xl (p::l)=Dj p+Xl l:=by rw [Xl]
theorem Q6r:∀(f:Nat) (l:List Pat),chk f l=0↔Ud l/\Xl l<=f
 | f,[]=>by cases f <;> simp [chk,Ud,Xl]
 | 0,p::l=>by
  have h1:Xl (p::l)=Xl p.l+1+Xl l:=by rw [Cq,Q2z]
  constructor
  ·intro a;simp [chk] at a
  ·rintro⟨_,a⟩;omega
 | f+1,p::l=>by
  have h1:Xl (p::l)=Xl p.l+1+Xl l:=by rw [Cq,Q2z]
  rw [Pp];by_cases b:Xf p=0
  ·rw [if_pos b,Q6r f,Q7m,Rx,Wo,Hp];constructor
   ·rintro⟨⟨c,d⟩,e⟩;exact⟨⟨⟨b,c⟩,d⟩,by omega⟩
   ·rintro⟨⟨⟨_,c⟩,d⟩,e⟩;exact⟨⟨c,d⟩,by omega⟩
  ·rw [if_neg b,Wo,Hp];constructor
   ·intro a;exact absurd a b
   ·rintro⟨⟨⟨a,_⟩,_⟩,_⟩;exact absurd a b
theorem Qdr(p:Pat):Yj p=0↔Bw p/\Dj p<=40:=by
 unfold Yj;rw [Q6r,Wo,Cq];simp [Ud,Xl]
theorem Ml{p:Pat}{ws:Wd}:Ui p ws=0↔Yj p=0/\ws.length<=32/\Jo ws=true:=by
 unfold Ui;by_cases a:Yj p=0
 ·rw [if_pos a];by_cases c:32<ws.length
  ·rw [if_pos c];simp [a];omega
  ·rw [if_neg c];by_cases b:Jo ws=true
   ·rw [if_pos b];simp [a,b];omega
   ·rw [if_neg b];simp [b]
 ·rw [if_neg a];simp [a]
theorem Q4m{p:Pat}{ws:Wd}(h:Ui p ws=0):Hd p ws=Xd ws p:=by unfold Hd;rw [if_pos h]
theorem Q3l{p:Pat}{ws:Wd}(h:Ui p ws=0):Bw p:=((Qdr p).1 (Ml.1 h).1).1
theorem Wh(w:Wd)(k:Int)(pl mi:Nat)(nt:Bool)(mn mx:Int)(l:List Pat):Xd w (.node k pl mi nt mn mx l)=if k=1 then Zq w (pl,mi) nt else if k=2 then Y8 0 else if k=6 then Y8 w.length else if k=4 then Kr w l else if k=5 then Bn w l mn mx else Vo w l (idB w.length):=by rw [Xd]
theorem Q9f{p:Pat}(h:Xf p=0):0<=p.k/\p.k<=6/\(p.k≠3->p.k≠4->p.k≠5->p.l.length=0)/\(p.k=5->p.l.length=1/\0<=p.mn/\p.mn<=32):=by
 unfold Xf at h;by_cases e:p.k<0\/6<p.k
 ·rw [if_pos e] at h;exact absurd h zd
 rw [if_neg e] at h;by_cases f:p.k≠1/\(p.pl≠0\/p.mi≠0\/p.nt=true)
 ·rw [if_pos f] at h;exact absurd h zd
 rw [if_neg f] at h;by_cases d:p.k≠3/\p.k≠4/\p.k≠5/\p.l.length≠0
 ·rw [if_pos d] at h;exact absurd h zd
 rw [if_neg d] at h;by_cases g:p.k≠5/\(p.mn≠0\/p.mx≠0)
 ·rw [if_pos g] at h;exact absurd h zd
 rw [if_neg g] at h;by_cases i:p.k=5/\(p.l.length≠1\/p.mn<0\/32<p.mn\/(p.mx≠-1/\(p.mx<p.mn\/32<p.mx)))
 ·rw [if_pos i] at h;exact absurd h zd
 refine⟨by omega,by omega,fun a b c=>?_,fun hk=>?_⟩
 ·exact Decidable.byContradiction fun hh=>d ⟨a,b,c,hh⟩
 ·have j:=fun hh=>i ⟨hk,hh⟩;omega
theorem Tc{k:Int}{pl mi:Nat}{nt:Bool}{mn mx:Int}{l:List Pat}(h:Xf (.node k pl mi nt mn mx l)=0) :
  0<=k/\k<=6/\(k≠3->k≠4->k≠5->l=[])/\(k=5->(∃ q,l=[q])/\0<=mn/\mn<=32):=by
 obtain⟨e,f,g,i⟩:=Q9f h;refine⟨e,f,fun a b c=>List.eq_nil_of_length_eq_zero (g a b c),fun hk=>?_⟩;obtain⟨d,j,m⟩:=i hk;refine⟨?_,j,m⟩;have d:l.length=1:=d
 match l,d with
 | [q],_=>exact⟨q,rfl⟩
mutual
def Qi4:Pat->Pat
 | .node k pl mi nt mn mx l=>.node (if k=2 then 6 else if k=6 then 2 else k) pl mi nt mn mx (if k=3 then(Qj9 l).reverse else Qj9 l)
def Qj9:List Pat->List Pat
 | []=>[]
 | p::l=>Qi4 p::Qj9 l
end
def Vj(k:Int)(pl mi:Nat)(nt:Bool)(mn mx:Int)(n:Nat):Int:=
 if k<0\/6<k then 2
 else if k≠1/\(pl≠0\/mi≠0\/nt=true) then 2
 else if k≠3/\k≠4/\k≠5/\n≠0 then 2
 else if k≠5/\(mn≠0\/mx≠0) then 2
 else if k=5/\(n≠1\/mn<0\/32<mn\/(mx≠-1/\(mx<mn\/32<mx))) then 2
 else if Zo pl mi=true then 0 else 14
theorem Qaf(k:Int)(pl mi:Nat)(nt:Bool)(mn mx:Int)(l:List Pat):Xf (.node k pl mi nt mn mx l)=Vj k pl mi nt mn mx l.length:=rfl
def Qn9(n:Nat)(X:Qr):Qr:=fun a b=>decide (a<=n) && decide (b<=n) && X (n - b) (n - a)
attribute [local go_sem] Oper.semAt_some Y5 Z9
theorem Qjw(a b:Nat):((a ||| b) / 16777216 == 0)=(decide (a<16777216) && decide (b<16777216)):=by
 apply Bool.eq_iff_iff.2;rw [beq_iff_eq,Bool.and_eq_true,decide_eq_true_eq,decide_eq_true_eq];constructor
 ·intro e;have c:a ||| b<16777216:=by omega
  have d:a<=a ||| b:=Nat.left_le_or;have f:b<=a ||| b:=Nat.right_le_or;omega
 ·rintro⟨c,d⟩;have:=Nat.or_lt_two_pow (n:=24) c d;omega
theorem Q1u(a b:Nat)(o:a<4294967296)(p:b<4294967296)(w:World) :
  Calls Tryz.prog 128 #[.agg #[.int .u32 (a:Int),.int .u32 (b:Int)]] w fun e w'=>e=.returned (.bool (Zo a b))/\Ext w w':=by
 obtain⟨q,_⟩:=Fr o p;have j:Zo a b=((a &&& b == 0) && (decide (a<16777216) && decide (b<16777216))):=by unfold Zo;rw [Qjw]
 obtain⟨k,l⟩:=zE (a &&& b == 0);rw [l] at q j;have g:=Zh j;clear j l;go_enter Tryz.func128,Tryz.ntmps128;cases k
 ·go_wp2;go_ret;exact⟨by rw [g.out];rfl,(Qa.refl _ _).alloc _⟩
 ·by_cases f:a<16777216
  ·have m:(a:Int)<16777216:=by omega
   by_cases i:b<16777216
   ·have n:(b:Int)<16777216:=by omega
    have c:Zo a b=true:=by rw [g.out,decide_eq_true f,decide_eq_true i];rfl
    have d:=Zh c;clear c f i;go_wp2;go_ret;exact⟨by rw [d.out];rfl,(Qa.refl _ _).alloc _⟩
   ·have n:¬ (b:Int)<16777216:=by omega
    have c:Zo a b=false:=by rw [g.out,decide_eq_false i,Bool.and_false,Bool.and_false]
    have d:=Zh c;clear c f i;go_wp2;go_ret;exact⟨by rw [d.out];rfl,(Qa.refl _ _).alloc _⟩
  ·have m:¬ (a:Int)<16777216:=by omega
   have c:Zo a b=false:=by rw [g.out,decide_eq_false f,Bool.false_and,Bool.and_false]
   have d:=Zh c;clear c f;go_wp2;go_ret;exact⟨by rw [d.out];rfl,(Qa.refl _ _).alloc _⟩
theorem Nc{w:World}{v:Value}{ws:Wd}(p:Qd w v ws) :
  Calls Tryz.prog 96 #[v] w fun e w'=>e=.returned (.int .i64 (wE ws))/\Ext w w':=by
 obtain⟨K,L,rfl,F⟩:=p.slice;unfold maxLen at F;have m:=Zh p;clear p;obtain⟨b,k⟩:=zE ws.length;have t:=Zh k;have f:Hid (wE ws=if 32<b then 11 else if Jo ws=true then 0 else 14):=Zh (by unfold wE;rw [k]);rw [k] at F m ⊢;clear k;by_cases A:32<b
 ·rw [if_pos A] at f;have z:(32:Int)<(b:Int):=by omega
  go_enter Tryz.func96,Tryz.ntmps96;go_wp2;go_ret;exact⟨by rw [f.out];rfl,Qa.refl _ _⟩
 rw [if_neg A] at f;have R:¬ (32:Int)<(b:Int):=by omega
 go_enter Tryz.func96,Tryz.ntmps96;go_wp2
 refine wp_loop (fun c u=>∃(a:Nat),a<=b/\c.defers=[]/\gS c [0,3]=(19,[.slice K b L,.int .i64 a])/\Jo (ws.take a)=true/\Ext w u)
  (fun c _=>b - (intOf (c.tmps.getD 3 undef)).toNat) ?_ ?_
 ·exact⟨0,by omega,rfl,rfl,by simp [Jo],Qa.refl _ _⟩
 rintro⟨V,_⟩ u ⟨a,T,M,I,D,j⟩;subst M;obtain⟨W,rfl⟩:=Qo I;clear I;have r:=Zh D;clear D;by_cases N:a<b
 ·have z:(a:Int)<(b:Int):=by omega
  have l:a<ws.length:=by rw [t.out];exact N
  obtain⟨Q,U,P,E,S,x,y⟩:=(m.out.ext j).at l;simp only [zV] at E;obtain⟨rfl,O,rfl⟩:=E;clear O;obtain⟨G,H⟩:=m.out.2.get a l;obtain⟨c,n⟩:=zE ((ws.getD a (0,0)).1);obtain⟨i,o⟩:=zE ((ws.getD a (0,0)).2);rw [n] at x G;rw [o] at y H;have q:=Zh n;have s:=Zh o;clear n o;go_wp2_with fail;refine(Q1u c i G H _).mono ?_;rintro e J ⟨rfl,C⟩;have B:Ext w J:=j.trans C;clear j C x y;cases hok:Zo c i
  ·have d:Jo ws=false:=Q2s l (by rw [q.out,s.out];exact hok);have g:=Zh d;clear d hok;go_wp2;go_ret;exact⟨by rw [f.out,g.out];rfl,B⟩
  ·have d:=Bv l r.out (by rw [q.out,s.out];exact hok);have g:=Zh d;clear d hok;go_wp2;exact⟨⟨a+1,by omega,tz,rfl,g.out,B⟩,nz⟩
 ·obtain rfl:a=b:=by omega
  have z:¬ (a:Int)<(a:Int):=by omega
  have d:Jo ws=true:=by have:=r.out;rwa [List.take_of_length_le (by rw [t.out];exact Nat.le_refl _)] at this
  have g:=Zh d;clear d;go_wp2;go_ret;exact⟨by rw [f.out,g.out];rfl,j⟩
def okE(pl mi:Nat):Int:=if Zo pl mi=true then 0 else 14
section
variable (pl mi:Nat) (nt:Bool) (mn mx:Int) (n:Nat)
theorem Q4d{k:Int}(h:k<0\/6<k):Vj k pl mi nt mn mx n=2:=by unfold Vj;rw [if_pos h]
theorem Lo:Vj 0 pl mi nt mn mx n=if pl≠0\/mi≠0\/nt=true then 2 else if n≠0 then 2 else if mn≠0\/mx≠0 then 2 else okE pl mi:=by simp [Vj,okE]
theorem Ld:Vj 2 pl mi nt mn mx n=if pl≠0\/mi≠0\/nt=true then 2 else if n≠0 then 2 else if mn≠0\/mx≠0 then 2 else okE pl mi:=by simp [Vj,okE]
theorem Lf:Vj 6 pl mi nt mn mx n=if pl≠0\/mi≠0\/nt=true then 2 else if n≠0 then 2 else if mn≠0\/mx≠0 then 2 else okE pl mi:=by simp [Vj,okE]
theorem Eb:Vj 1 pl mi nt mn mx n=if n≠0 then 2 else if mn≠0\/mx≠0 then 2 else okE pl mi:=by simp [Vj,okE]
theorem Nu:Vj 3 pl mi nt mn mx n=if pl≠0\/mi≠0\/nt=true then 2 else if mn≠0\/mx≠0 then 2 else okE pl mi:=by simp [Vj,okE]
theorem Np:Vj 4 pl mi nt mn mx n=if pl≠0\/mi≠0\/nt=true then 2 else if mn≠0\/mx≠0 then 2 else okE pl mi:=by simp [Vj,okE]
theorem Gj:Vj 5 pl mi nt mn mx n=if pl≠0\/mi≠0\/nt=true then 2 else if n≠1\/mn<0\/32<mn\/(mx≠-1/\(mx<mn\/32<mx)) then 2 else okE pl mi:=by simp [Vj,okE]
end
theorem Qbi(k:Int)(pl mi:Nat)(nt:Bool)(mn mx:Int)(ao:Option Addr)(n cap:Nat)(a0:pl<4294967296)(Y:mi<4294967296)(Z:n<=maxLen)(w:World) :
  Calls Tryz.prog 190 #[.agg #[.int .i64 k,.int .u32 (pl:Int),.int .u32 (mi:Int),.bool nt,.int .i64 mn,.int .i64 mx,.slice ao n cap]] w fun e w'=>e=.returned (.int .i64 (Vj k pl mi nt mn mx n))/\Ext w w':=by
 unfold maxLen at Z;by_cases M:k<0;case pos=>
  go_enter Tryz.func190,Tryz.ntmps190;have a:=Zh (Q4d pl mi nt mn mx n (.inl M));go_wp2;go_ret;exact⟨by rw [a.out];rfl,(Qa.refl _ w).alloc _⟩
 by_cases N:6<k;case pos=>
  go_enter Tryz.func190,Tryz.ntmps190;have a:=Zh (Q4d pl mi nt mn mx n (.inr N));go_wp2;go_ret;exact⟨by rw [a.out];rfl,(Qa.refl _ w).alloc _⟩
 have X:k=0\/k=1\/k=2\/k=3\/k=4\/k=5\/k=6:=by omega
 clear M N;obtain⟨B,L⟩:=zE (Zo pl mi);have J:=fun(W:World)=>Q1u pl mi a0 Y W;rw [L] at J;have C:=Zh J;have E:=Zh L;clear J L;obtain⟨b,K⟩:=zE (Vj k pl mi nt mn mx n);rw [K];have c:=Zh K;clear K;rcases X with rfl | rfl | rfl | rfl | rfl | rfl | rfl
 ·go_enter Tryz.func190,Tryz.ntmps190;by_cases l:pl=0;case pos=>
   have A:((pl:Int) == 0)=true:=by rw [beq_iff_eq];omega
   have f:=Zh l;clear l;by_cases j:mi=0;case pos=>
    have y:((mi:Int) == 0)=true:=by rw [beq_iff_eq];omega
    have d:=Zh j;clear j;cases nt;case true=>
     have a:Hid (b=2):=Zh (by rw [<-c.out];rw [Lo,if_pos (.inr (.inr rfl))]);go_wp2;go_ret;exact⟨by rw [a.out];rfl,(Qa.refl _ w).alloc _⟩
    case false=>
     by_cases r:n=0;case pos=>
      have F:¬ (0:Int)<(n:Int):=by omega
      have p:=Zh r;clear r;by_cases g:mn=0;case pos=>
       have z:(mn == 0)=true:=by rw [beq_iff_eq];exact g
       have m:=Zh g;clear g;by_cases i:mx=0;case pos=>
        have x:(mx == 0)=true:=by rw [beq_iff_eq];exact i
        have o:=Zh i;clear i;have a:Hid (b=okE pl mi):=Zh (by rw [<-c.out];rw [Lo,if_neg (by simp [f.out,d.out]),if_neg (by simp [p.out]),if_neg (by simp [m.out,o.out])]);go_wp2_with fail;refine(C.out _).mono ?_;rintro e u ⟨rfl,q⟩;have t:Ext w u:=Qa.trans ((Qa.refl _ w).alloc _) q;clear q;cases B
        all_goals
         go_wp2;go_ret;exact⟨by rw [a.out];unfold okE;rw [E.out];rfl,t⟩
       case neg=>
        have x:(mx == 0)=false:=by rw [beq_eq_false_iff_ne];exact i
        have o:=Zh i;clear i;have a:Hid (b=2):=Zh (by rw [<-c.out];rw [Lo,if_neg (by simp [f.out,d.out]),if_neg (by simp [p.out]),if_pos (.inr o.out)]);go_wp2;go_ret;exact⟨by rw [a.out];rfl,(Qa.refl _ w).alloc _⟩
      case neg=>
       have z:(mn == 0)=false:=by rw [beq_eq_false_iff_ne];exact g
       have m:=Zh g;clear g;have a:Hid (b=2):=Zh (by rw [<-c.out];rw [Lo,if_neg (by simp [f.out,d.out]),if_neg (by simp [p.out]),if_pos (.inl m.out)]);go_wp2;go_ret;exact⟨by rw [a.out];rfl,(Qa.refl _ w).alloc _⟩
     case neg=>
      have F:(0:Int)<(n:Int):=by omega
      have p:=Zh r;clear r;have a:Hid (b=2):=Zh (by rw [<-c.out];rw [Lo,if_neg (by simp [f.out,d.out]),if_pos p.out]);go_wp2;go_ret;exact⟨by rw [a.out];rfl,(Qa.refl _ w).alloc _⟩
   case neg=>
    have y:((mi:Int) == 0)=false:=by rw [beq_eq_false_iff_ne];omega
    have d:=Zh j;clear j;have a:Hid (b=2):=Zh (by rw [<-c.out];rw [Lo,if_pos (.inr (.inl d.out))]);go_wp2;go_ret;exact⟨by rw [a.out];rfl,(Qa.refl _ w).alloc _⟩
  case neg=>
   have A:((pl:Int) == 0)=false:=by rw [beq_eq_false_iff_ne];omega
   have f:=Zh l;clear l;have a:Hid (b=2):=Zh (by rw [<-c.out];rw [Lo,if_pos (.inl f.out)]);go_wp2;go_ret;exact⟨by rw [a.out];rfl,(Qa.refl _ w).alloc _⟩
 ·go_enter Tryz.func190,Tryz.ntmps190;by_cases r:n=0;case pos=>
   have F:¬ (0:Int)<(n:Int):=by omega
   have p:=Zh r;clear r;by_cases g:mn=0;case pos=>
    have z:(mn == 0)=true:=by rw [beq_iff_eq];exact g
    have m:=Zh g;clear g;by_cases i:mx=0;case pos=>
     have x:(mx == 0)=true:=by rw [beq_iff_eq];exact i
     have o:=Zh i;clear i;have a:Hid (b=okE pl mi):=Zh (by rw [<-c.out];rw [Eb,if_neg (by simp [p.out]),if_neg (by simp [m.out,o.out])]);go_wp2_with fail;refine(C.out _).mono ?_;rintro e u ⟨rfl,q⟩;have t:Ext w u:=Qa.trans ((Qa.refl _ w).alloc _) q;clear q;cases B
     all_goals
      go_wp2;go_ret;exact⟨by rw [a.out];unfold okE;rw [E.out];rfl,t⟩
    case neg=>
     have x:(mx == 0)=false:=by rw [beq_eq_false_iff_ne];exact i
     have o:=Zh i;clear i;have a:Hid (b=2):=Zh (by rw [<-c.out];rw [Eb,if_neg (by simp [p.out]),if_pos (.inr o.out)]);go_wp2;go_ret;exact⟨by rw [a.out];rfl,(Qa.refl _ w).alloc _⟩
   case neg=>
    have z:(mn == 0)=false:=by rw [beq_eq_false_iff_ne];exact g
    have m:=Zh g;clear g;have a:Hid (b=2):=Zh (by rw [<-c.out];rw [Eb,if_neg (by simp [p.out]),if_pos (.inl m.out)]);go_wp2;go_ret;exact⟨by rw [a.out];rfl,(Qa.refl _ w).alloc _⟩
  case neg=>
   have F:(0:Int)<(n:Int):=by omega
   have p:=Zh r;clear r;have a:Hid (b=2):=Zh (by rw [<-c.out];rw [Eb,if_pos p.out]);go_wp2;go_ret;exact⟨by rw [a.out];rfl,(Qa.refl _ w).alloc _⟩
 ·go_enter Tryz.func190,Tryz.ntmps190;by_cases l:pl=0;case pos=>
   have A:((pl:Int) == 0)=true:=by rw [beq_iff_eq];omega
   have f:=Zh l;clear l;by_cases j:mi=0;case pos=>
    have y:((mi:Int) == 0)=true:=by rw [beq_iff_eq];omega
    have d:=Zh j;clear j;cases nt;case true=>
     have a:Hid (b=2):=Zh (by rw [<-c.out];rw [Ld,if_pos (.inr (.inr rfl))]);go_wp2;go_ret;exact⟨by rw [a.out];rfl,(Qa.refl _ w).alloc _⟩
    case false=>
     by_cases r:n=0;case pos=>
      have F:¬ (0:Int)<(n:Int):=by omega
      have p:=Zh r;clear r;by_cases g:mn=0;case pos=>
       have z:(mn == 0)=true:=by rw [beq_iff_eq];exact g
       have m:=Zh g;clear g;by_cases i:mx=0;case pos=>
        have x:(mx == 0)=true:=by rw [beq_iff_eq];exact i
        have o:=Zh i;clear i;have a:Hid (b=okE pl mi):=Zh (by rw [<-c.out];rw [Ld,if_neg (by simp [f.out,d.out]),if_neg (by simp [p.out]),if_neg (by simp [m.out,o.out])]);go_wp2_with fail;refine(C.out _).mono ?_;rintro e u ⟨rfl,q⟩;have t:Ext w u:=Qa.trans ((Qa.refl _ w).alloc _) q;clear q;cases B
        all_goals
         go_wp2;go_ret;exact⟨by rw [a.out];unfold okE;rw [E.out];rfl,t⟩
       case neg=>
        have x:(mx == 0)=false:=by rw [beq_eq_false_iff_ne];exact i
        have o:=Zh i;clear i;have a:Hid (b=2):=Zh (by rw [<-c.out];rw [Ld,if_neg (by simp [f.out,d.out]),if_neg (by simp [p.out]),if_pos (.inr o.out)]);go_wp2;go_ret;exact⟨by rw [a.out];rfl,(Qa.refl _ w).alloc _⟩
      case neg=>
       have z:(mn == 0)=false:=by rw [beq_eq_false_iff_ne];exact g
       have m:=Zh g;clear g;have a:Hid (b=2):=Zh (by rw [<-c.out];rw [Ld,if_neg (by simp [f.out,d.out]),if_neg (by simp [p.out]),if_pos (.inl m.out)]);go_wp2;go_ret;exact⟨by rw [a.out];rfl,(Qa.refl _ w).alloc _⟩
     case neg=>
      have F:(0:Int)<(n:Int):=by omega
      have p:=Zh r;clear r;have a:Hid (b=2):=Zh (by rw [<-c.out];rw [Ld,if_neg (by simp [f.out,d.out]),if_pos p.out]);go_wp2;go_ret;exact⟨by rw [a.out];rfl,(Qa.refl _ w).alloc _⟩
   case neg=>
    have y:((mi:Int) == 0)=false:=by rw [beq_eq_false_iff_ne];omega
    have d:=Zh j;clear j;have a:Hid (b=2):=Zh (by rw [<-c.out];rw [Ld,if_pos (.inr (.inl d.out))]);go_wp2;go_ret;exact⟨by rw [a.out];rfl,(Qa.refl _ w).alloc _⟩
  case neg=>
   have A:((pl:Int) == 0)=false:=by rw [beq_eq_false_iff_ne];omega
   have f:=Zh l;clear l;have a:Hid (b=2):=Zh (by rw [<-c.out];rw [Ld,if_pos (.inl f.out)]);go_wp2;go_ret;exact⟨by rw [a.out];rfl,(Qa.refl _ w).alloc _⟩
 ·go_enter Tryz.func190,Tryz.ntmps190;by_cases l:pl=0;case pos=>
   have A:((pl:Int) == 0)=true:=by rw [beq_iff_eq];omega
   have f:=Zh l;clear l;by_cases j:mi=0;case pos=>
    have y:((mi:Int) == 0)=true:=by rw [beq_iff_eq];omega
    have d:=Zh j;clear j;cases nt;case true=>
     have a:Hid (b=2):=Zh (by rw [<-c.out];rw [Nu,if_pos (.inr (.inr rfl))]);go_wp2;go_ret;exact⟨by rw [a.out];rfl,(Qa.refl _ w).alloc _⟩
    case false=>
     by_cases g:mn=0;case pos=>
      have z:(mn == 0)=true:=by rw [beq_iff_eq];exact g
      have m:=Zh g;clear g;by_cases i:mx=0;case pos=>
       have x:(mx == 0)=true:=by rw [beq_iff_eq];exact i
       have o:=Zh i;clear i;have a:Hid (b=okE pl mi):=Zh (by rw [<-c.out];rw [Nu,if_neg (by simp [f.out,d.out]),if_neg (by simp [m.out,o.out])]);go_wp2_with fail;refine(C.out _).mono ?_;rintro e u ⟨rfl,q⟩;have t:Ext w u:=Qa.trans ((Qa.refl _ w).alloc _) q;clear q;cases B
       all_goals
        go_wp2;go_ret;exact⟨by rw [a.out];unfold okE;rw [E.out];rfl,t⟩
      case neg=>
       have x:(mx == 0)=false:=by rw [beq_eq_false_iff_ne];exact i
       have o:=Zh i;clear i;have a:Hid (b=2):=Zh (by rw [<-c.out];rw [Nu,if_neg (by simp [f.out,d.out]),if_pos (.inr o.out)]);go_wp2;go_ret;exact⟨by rw [a.out];rfl,(Qa.refl _ w).alloc _⟩
     case neg=>
      have z:(mn == 0)=false:=by rw [beq_eq_false_iff_ne];exact g
      have m:=Zh g;clear g;have a:Hid (b=2):=Zh (by rw [<-c.out];rw [Nu,if_neg (by simp [f.out,d.out]),if_pos (.inl m.out)]);go_wp2;go_ret;exact⟨by rw [a.out];rfl,(Qa.refl _ w).alloc _⟩
   case neg=>
    have y:((mi:Int) == 0)=false:=by rw [beq_eq_false_iff_ne];omega
    have d:=Zh j;clear j;have a:Hid (b=2):=Zh (by rw [<-c.out];rw [Nu,if_pos (.inr (.inl d.out))]);go_wp2;go_ret;exact⟨by rw [a.out];rfl,(Qa.refl _ w).alloc _⟩
  case neg=>
   have A:((pl:Int) == 0)=false:=by rw [beq_eq_false_iff_ne];omega
   have f:=Zh l;clear l;have a:Hid (b=2):=Zh (by rw [<-c.out];rw [Nu,if_pos (.inl f.out)]);go_wp2;go_ret;exact⟨by rw [a.out];rfl,(Qa.refl _ w).alloc _⟩
 ·go_enter Tryz.func190,Tryz.ntmps190;by_cases l:pl=0;case pos=>
   have A:((pl:Int) == 0)=true:=by rw [beq_iff_eq];omega
   have f:=Zh l;clear l;by_cases j:mi=0;case pos=>
    have y:((mi:Int) == 0)=true:=by rw [beq_iff_eq];omega
    have d:=Zh j;clear j;cases nt;case true=>
     have a:Hid (b=2):=Zh (by rw [<-c.out];rw [Np,if_pos (.inr (.inr rfl))]);go_wp2;go_ret;exact⟨by rw [a.out];rfl,(Qa.refl _ w).alloc _⟩
    case false=>
     by_cases g:mn=0;case pos=>
      have z:(mn == 0)=true:=by rw [beq_iff_eq];exact g
      have m:=Zh g;clear g;by_cases i:mx=0;case pos=>
       have x:(mx == 0)=true:=by rw [beq_iff_eq];exact i
       have o:=Zh i;clear i;have a:Hid (b=okE pl mi):=Zh (by rw [<-c.out];rw [Np,if_neg (by simp [f.out,d.out]),if_neg (by simp [m.out,o.out])]);go_wp2_with fail;refine(C.out _).mono ?_;rintro e u ⟨rfl,q⟩;have t:Ext w u:=Qa.trans ((Qa.refl _ w).alloc _) q;clear q;cases B
       all_goals
        go_wp2;go_ret;exact⟨by rw [a.out];unfold okE;rw [E.out];rfl,t⟩
      case neg=>
       have x:(mx == 0)=false:=by rw [beq_eq_false_iff_ne];exact i
       have o:=Zh i;clear i;have a:Hid (b=2):=Zh (by rw [<-c.out];rw [Np,if_neg (by simp [f.out,d.out]),if_pos (.inr o.out)]);go_wp2;go_ret;exact⟨by rw [a.out];rfl,(Qa.refl _ w).alloc _⟩
     case neg=>
      have z:(mn == 0)=false:=by rw [beq_eq_false_iff_ne];exact g
      have m:=Zh g;clear g;have a:Hid (b=2):=Zh (by rw [<-c.out];rw [Np,if_neg (by simp [f.out,d.out]),if_pos (.inl m.out)]);go_wp2;go_ret;exact⟨by rw [a.out];rfl,(Qa.refl _ w).alloc _⟩
   case neg=>
    have y:((mi:Int) == 0)=false:=by rw [beq_eq_false_iff_ne];omega
    have d:=Zh j;clear j;have a:Hid (b=2):=Zh (by rw [<-c.out];rw [Np,if_pos (.inr (.inl d.out))]);go_wp2;go_ret;exact⟨by rw [a.out];rfl,(Qa.refl _ w).alloc _⟩
  case neg=>
   have A:((pl:Int) == 0)=false:=by rw [beq_eq_false_iff_ne];omega
   have f:=Zh l;clear l;have a:Hid (b=2):=Zh (by rw [<-c.out];rw [Np,if_pos (.inl f.out)]);go_wp2;go_ret;exact⟨by rw [a.out];rfl,(Qa.refl _ w).alloc _⟩
 ·go_enter Tryz.func190,Tryz.ntmps190;by_cases l:pl=0;case pos=>
   have A:((pl:Int) == 0)=true:=by rw [beq_iff_eq];omega
   have f:=Zh l;clear l;by_cases j:mi=0;case pos=>
    have y:((mi:Int) == 0)=true:=by rw [beq_iff_eq];omega
    have d:=Zh j;clear j;cases nt;case true=>
     have a:Hid (b=2):=Zh (by rw [<-c.out];rw [Gj,if_pos (.inr (.inr rfl))]);go_wp2;go_ret;exact⟨by rw [a.out];rfl,(Qa.refl _ w).alloc _⟩
    case false=>
     by_cases H:n=1;case pos=>
      subst H;have H:(1:Nat)=1:=rfl;have s:=Zh H;clear H;by_cases O:mn<0;case pos=>
       have S:=Zh O;have a:Hid (b=2):=Zh (by rw [<-c.out];rw [Gj,if_neg (by simp [f.out,d.out]),if_pos (by first | omega | (have v:=s.out;omega) | (have v:=s.out;have G:=D.out;omega))]);go_wp2;go_ret;exact⟨by rw [a.out];rfl,(Qa.refl _ w).alloc _⟩
      case neg=>
       have S:=Zh O;by_cases P:32<mn;case pos=>
        have T:=Zh P;have a:Hid (b=2):=Zh (by rw [<-c.out];rw [Gj,if_neg (by simp [f.out,d.out]),if_pos (by first | omega | (have v:=s.out;omega) | (have v:=s.out;have G:=D.out;omega))]);go_wp2;go_ret;exact⟨by rw [a.out];rfl,(Qa.refl _ w).alloc _⟩
       case neg=>
        have T:=Zh P;by_cases I:mx=-1;case pos=>
         have x:(mx == -1)=true:=by rw [beq_iff_eq];exact I
         have D:=Zh I;clear I;have a:Hid (b=okE pl mi):=Zh (by rw [<-c.out];rw [Gj,if_neg (by simp [f.out,d.out]),if_neg (by first | omega | (have v:=s.out;omega) | (have v:=s.out;have G:=D.out;omega))]);go_wp2_with fail;refine(C.out _).mono ?_;rintro e u ⟨rfl,q⟩;have t:Ext w u:=Qa.trans ((Qa.refl _ w).alloc _) q;clear q;cases B
         all_goals
          go_wp2;go_ret;exact⟨by rw [a.out];unfold okE;rw [E.out];rfl,t⟩
        case neg=>
         have x:(mx == -1)=false:=by rw [beq_eq_false_iff_ne];exact I
         have D:=Zh I;clear I;by_cases Q:mx<mn;case pos=>
          have U:=Zh Q;have a:Hid (b=2):=Zh (by rw [<-c.out];rw [Gj,if_neg (by simp [f.out,d.out]),if_pos (by first | omega | (have v:=s.out;omega) | (have v:=s.out;have G:=D.out;omega))]);go_wp2;go_ret;exact⟨by rw [a.out];rfl,(Qa.refl _ w).alloc _⟩
         case neg=>
          have U:=Zh Q;by_cases R:32<mx;case pos=>
           have V:=Zh R;have a:Hid (b=2):=Zh (by rw [<-c.out];rw [Gj,if_neg (by simp [f.out,d.out]),if_pos (by first | omega | (have v:=s.out;omega) | (have v:=s.out;have G:=D.out;omega))]);go_wp2;go_ret;exact⟨by rw [a.out];rfl,(Qa.refl _ w).alloc _⟩
          case neg=>
           have V:=Zh R;have a:Hid (b=okE pl mi):=Zh (by rw [<-c.out];rw [Gj,if_neg (by simp [f.out,d.out]),if_neg (by first | omega | (have v:=s.out;omega) | (have v:=s.out;have G:=D.out;omega))]);go_wp2_with fail;refine(C.out _).mono ?_;rintro e u ⟨rfl,q⟩;have t:Ext w u:=Qa.trans ((Qa.refl _ w).alloc _) q;clear q;cases B
           all_goals
            go_wp2;go_ret;exact⟨by rw [a.out];unfold okE;rw [E.out];rfl,t⟩
     case neg=>
      have F:((n:Int) == 1)=false:=by rw [beq_eq_false_iff_ne];omega
      have a1:¬ (n:Int)=1:=by omega
      have s:=Zh H;clear H;have a:Hid (b=2):=Zh (by rw [<-c.out];rw [Gj,if_neg (by simp [f.out,d.out]),if_pos (by first | omega | (have v:=s.out;omega) | (have v:=s.out;have G:=D.out;omega))]);go_wp2;go_ret;exact⟨by rw [a.out];rfl,(Qa.refl _ w).alloc _⟩
   case neg=>
    have y:((mi:Int) == 0)=false:=by rw [beq_eq_false_iff_ne];omega
    have d:=Zh j;clear j;have a:Hid (b=2):=Zh (by rw [<-c.out];rw [Gj,if_pos (.inr (.inl d.out))]);go_wp2;go_ret;exact⟨by rw [a.out];rfl,(Qa.refl _ w).alloc _⟩
  case neg=>
   have A:((pl:Int) == 0)=false:=by rw [beq_eq_false_iff_ne];omega
   have f:=Zh l;clear l;have a:Hid (b=2):=Zh (by rw [<-c.out];rw [Gj,if_pos (.inl f.out)]);go_wp2;go_ret;exact⟨by rw [a.out];rfl,(Qa.refl _ w).alloc _⟩
 ·go_enter Tryz.func190,Tryz.ntmps190;by_cases l:pl=0;case pos=>
   have A:((pl:Int) == 0)=true:=by rw [beq_iff_eq];omega
   have f:=Zh l;clear l;by_cases j:mi=0;case pos=>
    have y:((mi:Int) == 0)=true:=by rw [beq_iff_eq];omega
    have d:=Zh j;clear j;cases nt;case true=>
     have a:Hid (b=2):=Zh (by rw [<-c.out];rw [Lf,if_pos (.inr (.inr rfl))]);go_wp2;go_ret;exact⟨by rw [a.out];rfl,(Qa.refl _ w).alloc _⟩
    case false=>
     by_cases r:n=0;case pos=>
      have F:¬ (0:Int)<(n:Int):=by omega
      have p:=Zh r;clear r;by_cases g:mn=0;case pos=>
       have z:(mn == 0)=true:=by rw [beq_iff_eq];exact g
       have m:=Zh g;clear g;by_cases i:mx=0;case pos=>
        have x:(mx == 0)=true:=by rw [beq_iff_eq];exact i
        have o:=Zh i;clear i;have a:Hid (b=okE pl mi):=Zh (by rw [<-c.out];rw [Lf,if_neg (by simp [f.out,d.out]),if_neg (by simp [p.out]),if_neg (by simp [m.out,o.out])]);go_wp2_with fail;refine(C.out _).mono ?_;rintro e u ⟨rfl,q⟩;have t:Ext w u:=Qa.trans ((Qa.refl _ w).alloc _) q;clear q;cases B
        all_goals
         go_wp2;go_ret;exact⟨by rw [a.out];unfold okE;rw [E.out];rfl,t⟩
       case neg=>
        have x:(mx == 0)=false:=by rw [beq_eq_false_iff_ne];exact i
        have o:=Zh i;clear i;have a:Hid (b=2):=Zh (by rw [<-c.out];rw [Lf,if_neg (by simp [f.out,d.out]),if_neg (by simp [p.out]),if_pos (.inr o.out)]);go_wp2;go_ret;exact⟨by rw [a.out];rfl,(Qa.refl _ w).alloc _⟩
      case neg=>
       have z:(mn == 0)=false:=by rw [beq_eq_false_iff_ne];exact g
       have m:=Zh g;clear g;have a:Hid (b=2):=Zh (by rw [<-c.out];rw [Lf,if_neg (by simp [f.out,d.out]),if_neg (by simp [p.out]),if_pos (.inl m.out)]);go_wp2;go_ret;exact⟨by rw [a.out];rfl,(Qa.refl _ w).alloc _⟩
     case neg=>
      have F:(0:Int)<(n:Int):=by omega
      have p:=Zh r;clear r;have a:Hid (b=2):=Zh (by rw [<-c.out];rw [Lf,if_neg (by simp [f.out,d.out]),if_pos p.out]);go_wp2;go_ret;exact⟨by rw [a.out];rfl,(Qa.refl _ w).alloc _⟩
   case neg=>
    have y:((mi:Int) == 0)=false:=by rw [beq_eq_false_iff_ne];omega
    have d:=Zh j;clear j;have a:Hid (b=2):=Zh (by rw [<-c.out];rw [Lf,if_pos (.inr (.inl d.out))]);go_wp2;go_ret;exact⟨by rw [a.out];rfl,(Qa.refl _ w).alloc _⟩
  case neg=>
   have A:((pl:Int) == 0)=false:=by rw [beq_eq_false_iff_ne];omega
   have f:=Zh l;clear l;have a:Hid (b=2):=Zh (by rw [<-c.out];rw [Lf,if_pos (.inl f.out)]);go_wp2;go_ret;exact⟨by rw [a.out];rfl,(Qa.refl _ w).alloc _⟩
theorem Qdp(p:Pat)(l:List Pat)(n:Nat):Jg (p::l) n=Es (Xg p n) (Jg l):=by rw [Jg]
theorem Qic(p:Pat)(n:Nat):Xg p n=if n=40 then(n,12) else if Xf p=0 then Jg p.l (n+1) else(n,Xf p):=by cases p;rw [Xg];rfl
theorem Qit{p:Pat}{n:Nat}(h:n<=40):(Xg p n).1<=40:=(Mg p n [] h).1.1
def Q2a(p:Pat):Prop:=∀(K:Nat->Prop) (w:World) (cs:List Value) (n:Nat),Qu K w p cs->n<=40 ->
 Calls Tryz.prog 173 #[.agg cs.toArray,.int .i64 n] w fun e w'=>e=.returned (.tuple #[.int .i64 ((Xg p n).1:Int),.int .i64 (Xg p n).2])/\Ext w w'
theorem Qgi(k:Int)(pl mi:Nat)(nt:Bool)(mn mx:Int)(l:List Pat)(a7:∀ p∈l,Q2a p):Q2a (.node k pl mi nt mn mx l):=by
 intro b2 q c6 e a2 d4;unfold Qu at a2;obtain⟨S,T,rfl,a3,a1,K,H,Y⟩:=a2;have B:=fun(V:World)=>Qbi k pl mi nt mn mx S l.length T a3 a1 (Nat.le_trans K H) V;have Z:l.length<=maxLen:=Nat.le_trans K H;unfold maxLen at Z;rw [<-Qaf] at B;have d:=Zh (Qic (.node k pl mi nt mn mx l) e);obtain⟨r,a6⟩:=zE (Xf (.node k pl mi nt mn mx l));rw [a6] at d B;obtain⟨m,G⟩:=zE l.length;obtain⟨Q,a9,R,b1⟩:=Zh4 G Y B a7;unfold Ql;rw [G] at R Z ⊢;clear Y B a7 a6 G K H a3 a1;obtain⟨g,i,W⟩:∃ a b,Xg (.node k pl mi nt mn mx l) e=(a,b):=⟨_,_,rfl⟩;rw [W] at d ⊢;clear W;change Hid ((g,i)=if e=40 then(e,12) else if r=0 then Jg l (e+1) else(e,r)) at d;show Calls Tryz.prog 173 _ q fun E w'=>E=.returned (.tuple #[.int .i64 (g:Int),.int .i64 i])/\Ext q w'
 by_cases F:e=40
 ·subst F;have f:g=40/\i=12:=by have:=d.out;rw [if_pos rfl] at this;exact⟨congrArg Prod.fst this,congrArg Prod.snd this⟩
  obtain⟨rfl,rfl⟩:=f;clear d;go_enter Tryz.func173,Tryz.ntmps173;go_wp2;exact bodyPost_ret (Yk rfl _ _ _) rfl ⟨rfl,(Qa.refl _ q).alloc _⟩
 have c8:((e:Int) == 40)=false:=by rw [beq_eq_false_iff_ne];omega
 have d5:e<40:=by omega
 rw [if_neg F] at d;clear F;go_enter Tryz.func173,Tryz.ntmps173;go_wp2_with fail;refine(R.out _).mono ?_;rintro E O ⟨rfl,t⟩;have A:Ext q O:=Qa.trans ((Qa.refl _ q).alloc _) t;have o:O.heap[q.heap.size]?=some (.cells #[.int .i64 k,.int .u32 (pl:Int),.int .u32 (mi:Int),.bool nt,.int .i64 mn,.int .i64 mx,.slice S m T] 47 (0,0)):=t.keep (new_at rfl);clear t;by_cases x:r=0;case neg=>
  have d0:(r == 0)=false:=by rw [beq_eq_false_iff_ne];exact x
  rw [if_neg x] at d;have f:g=e/\i=r:=⟨congrArg Prod.fst d.out,congrArg Prod.snd d.out⟩;obtain⟨rfl,rfl⟩:=f;clear d x o;go_wp2;exact bodyPost_ret (Yk rfl _ _ _) rfl ⟨rfl,A⟩
 rw [if_pos x] at d;subst x;generalize q.heap.size=a8 at o ⊢;have b0:=Zh o;clear o;go_wp2
 refine wp_loop (fun a D=>∃(c n:Nat),c<=m/\n<=40/\Jg (l.drop c) n=(g,i)/\a.defers=[]/\gS a [2,7,8]=(42,[.pointer (some ⟨a8,0,none⟩),.int .i64 n,.int .i64 c])/\Ext O D)
  (fun a _=>m - (intOf (a.tmps.getD 8 undef)).toNat) ?_ ?_
 ·exact⟨0,e+1,by omega,by omega,d.out.symm,rfl,(Prod.ext rfl (lE rfl (lE (by go_num) rfl))),Qa.refl _ _⟩
 clear d;rintro⟨d9,_⟩ D ⟨c,n,d3,a0,f,c3,a4,u⟩;subst c3;obtain⟨e0,rfl⟩:=Qo a4;clear a4;have d:=Zh f;clear f;have o:=u.keep b0.out;have c1:=zR o;by_cases c4:c<m
 ·have c2:(c:Int)<(m:Int):=by omega
  have J:c<l.length:=by rw [Q.out];exact c4
  obtain⟨c7,d6,b3,rfl,d1,d2,N,M⟩:=(a9.out.ext (A.trans u)).get c J;rw [Nat.zero_add] at N;obtain⟨d8,d7,I,_,_,_⟩:=Zv M;obtain⟨b4,b5,b6,b7,b8,b9,c0⟩:=Jl N I;have v:=b1.out _ (List.getElem_mem J) b2 D b3 n M a0;have X:l.drop c=l[c]::l.drop (c+1):=List.drop_eq_getElem_cons J;have C:Es (Xg l[c] n) (Jg (l.drop (c+1)))=(g,i):=by rw [<-Qdp,<-X];exact d.out
  have L:=Qit (p:=l[c]) a0;obtain⟨y,z,a5⟩:∃ a b,Xg l[c] n=(a,b):=⟨_,_,rfl⟩;rw [a5] at v C L;change y<=40 at L;change (if z=0 then Jg (l.drop (c+1)) y else(y,z))=(g,i) at C;rw [I] at v;unfold Ql at v;have P:=Zh v;have s:=Zh C;clear v N M I X C a5 o;go_wp2_with fail;refine P.out.mono ?_;rintro E c5 ⟨rfl,t⟩;have U:=u.trans t;clear u t b4 b5 b6 b7 b8 b9 c0 P c1;by_cases w:z=0
  ·rw [if_pos w] at s;subst w;go_wp2;exact⟨⟨c+1,y,by omega,L,s.out,tz,rfl,U⟩,nz⟩
  ·have c9:(z == 0)=false:=by rw [beq_eq_false_iff_ne];exact w
   rw [if_neg w] at s;have f:g=y/\i=z:=⟨(congrArg Prod.fst s.out).symm,(congrArg Prod.snd s.out).symm⟩;obtain⟨rfl,rfl⟩:=f;clear w s;go_wp2;exact bodyPost_ret (Yk rfl _ _ _) rfl ⟨rfl,A.trans U⟩
 ·obtain rfl:c=m:=by omega
  have c2:¬ (c:Int)<(c:Int):=by omega
  have f:g=n/\i=0:=by
   have:=d.out;rw [List.drop_of_length_le (by rw [Q.out];exact Nat.le_refl _),Jg] at this;exact⟨(congrArg Prod.fst this).symm,(congrArg Prod.snd this).symm⟩
  obtain⟨rfl,rfl⟩:=f;clear d;go_wp2;exact bodyPost_ret (Yk rfl _ _ _) rfl ⟨rfl,A.trans u⟩
mutual
theorem Q6g:∀ p:Pat,Q2a p
 | .node k pl mi nt mn mx l=>Qgi k pl mi nt mn mx l (Q4t l)
theorem Q4t:∀ l:List Pat,∀ p∈l,Q2a p
 | [],_,h=>by cases h
 | q::l,p,h=>(List.mem_cons.1 h).elim (fun e=>e ▸ Q6g q) (fun h=>Q4t l p h)
end
theorem Pc{K:Nat->Prop}{w:World}{p:Pat}{cs:List Value}(j:Qu K w p cs) :
  Calls Tryz.prog 157 #[.agg cs.toArray] w fun e w'=>e=.returned (.int .i64 (Yj p))/\Ext w w':=by
 have f:Ext w (w.alloc (.cells cs.toArray 47)):=(Qa.refl _ w).alloc _;have a:=Q6g p K _ cs 0 (j.ext f) oz;rw [Q1f] at a;obtain⟨q,o,i,_,_,_⟩:=Zv j;rw [i] at a ⊢;unfold Ql at a ⊢;obtain⟨n,g⟩:=zE ((Xg p 0).1);obtain⟨r,c⟩:=zE (Yj p);rw [g,c] at a;rw [c];have k:=Zh a;clear a i f g c;go_enter Tryz.func157,Tryz.ntmps157;go_wp2_with fail;refine k.out.mono ?_;rintro e m ⟨rfl,d⟩;have l:Ext w m:=Qa.trans ((Qa.refl _ w).alloc _) d;clear d;go_wp2;go_ret;exact⟨rfl,l⟩
theorem Q0a{K:Nat->Prop}{w:World}{p:Pat}{cs:List Value}{v:Value}{ws:Wd}(q:Qu K w p cs)(j:Qd w v ws) :
  Calls Tryz.prog 215 #[.agg cs.toArray,v] w fun e w'=>e=.returned (.int .i64 (Ui p ws))/\Ext w w':=by
 have l:Ext w (w.alloc (.cells cs.toArray 47)):=(Qa.refl _ w).alloc _;have d:=Pc (q.ext l);have g:=fun(V:World) (a:Ext w V)=>Nc (j.ext a);have c:Hid (Ui p ws=if Yj p=0 then wE ws else Yj p):=Zh (by unfold Ui wE;rfl);obtain⟨E,D,n,_,_,_⟩:=Zv q;obtain⟨B,A,rfl,_⟩:=j.slice;rw [n] at d ⊢;unfold Ql at d ⊢;obtain⟨z,m⟩:=zE (wE ws);obtain⟨t,r⟩:=zE (Yj p);obtain⟨s,o⟩:=zE ws.length;rw [r] at d c;rw [m] at g c;rw [o] at g ⊢;have k:=Zh d;have u:=Zh g;clear d n l m r g o j;go_enter Tryz.func215,Tryz.ntmps215;go_wp2_with fail;refine k.out.mono ?_;rintro e y ⟨rfl,a⟩;have i:Ext w y:=Qa.trans ((Qa.refl _ w).alloc _) a;clear a k;by_cases f:t=0
 ·rw [if_pos f] at c;subst f;go_wp2_with fail;refine(u.out _ i).mono ?_;rintro e F ⟨rfl,a⟩;have x:=i.trans a;clear a;go_wp2;go_ret;exact⟨by rw [c.out];rfl,x⟩
 ·rw [if_neg f] at c;have C:(t == 0)=false:=by rw [beq_eq_false_iff_ne];exact f
  clear f;go_wp2;go_ret;exact⟨by rw [c.out];rfl,i⟩
theorem Tryz.infoU:(Tryz.prog.info? 162).map (fun i=>(i.zero,i.size,i.bytes))=some (some (.int .u64 0),1,8):=by kernel_rfl
def Y7(n:Nat)(f:Nat->Nat):List Value:=(List.range n).map fun a=>Value.int .u64 (f a:Int)
theorem Mc(n:Nat)(f:Nat->Nat):(Y7 n f).length=n:=by simp [Y7]
theorem Uz{n a:Nat}(f:Nat->Nat)(h:a<n):(Y7 n f)[a]?=some (.int .u64 (f a:Int)):=by simp [Y7,h]
theorem Qv{n:Nat}{f g:Nat->Nat}(h:∀ a,a<n->f a=g a):Y7 n f=Y7 n g:=List.map_congr_left fun a ha=>by rw [h a (List.mem_range.1 ha)]
def Wl(f:Nat->Nat)(k v:Nat):Nat->Nat:=fun i=>if i=k then v else f i
theorem Hy(n:Nat)(f:Nat->Nat)(k v:Nat):(Y7 n f).set k (.int .u64 (v:Int))=Y7 n (Wl f k v):=by
 apply List.ext_getElem?;intro c;rw [List.getElem?_set];by_cases b:c<n
 ·rw [Uz _ b,Uz _ b];unfold Wl;by_cases a:k=c
  ·subst a;rw [if_pos rfl,if_pos (by rw [Mc];exact b),if_pos rfl]
  ·rw [if_neg a,if_neg (fun h=>a h.symm)]
 ·have d:∀ f:Nat->Nat,(Y7 n f)[c]?=none:=fun f=>List.getElem?_eq_none (by rw [Mc];omega);rw [d,d]
  split
  ·rename_i a;subst a;rw [if_neg (by rw [Mc];exact b)]
  ·rfl
theorem Vl(n:Nat):List.replicate n (Value.int .u64 0)=Y7 n (fun _=>0):=by
 apply List.ext_getElem?;intro b;by_cases a:b<n
 ·rw [Uz _ a];simp [a]
 ·rw [List.getElem?_eq_none (by simpa using Nat.le_of_not_lt a),List.getElem?_eq_none (by rw [Mc];omega)]
def X7(w:World)(u:Value)(n:Nat)(f:Nat->Nat):Prop:=∃ g cap,u=.slice (some ⟨g,0,none⟩) n cap/\g<w.heap.size/\∀ a,a<n->w.cell? ⟨g,a,none⟩=some (.int .u64 (f a:Int))
theorem X7.keep{S:Nat->Prop}{A B:World}{u:Value}{n:Nat}{f:Nat->Nat}(h:X7 A u n f)(b:Qa S A B)(d:∀ g,u.ownBlock=some g->¬ S g):X7 B u n f:=by
 obtain⟨g,c,rfl,i,e⟩:=h;exact⟨g,c,rfl,Nat.lt_of_lt_of_le i b.size,fun a ha=>b.cell_some (e a ha) (d g rfl)⟩
theorem X7.ext{A B:World}{u:Value}{n:Nat}{f:Nat->Nat}(h:X7 A u n f)(ht:Ext A B):X7 B u n f:=h.keep ht fun _ _ h=>h
theorem X7.own{w:World}{base:Nat}{t:TypeId}{u:Value}{n:Nat}{f:Nat->Nat}(h:w.ownsRow base t 1 u (n+1) (Y7 (n+1) f)):X7 w u (n+1) f:=by
 rcases h.2 with ⟨_,e⟩ | ⟨c,b,g,rfl,_,d,_⟩
 ·simp at e
 ·exact⟨c,b,rfl,(Array.getElem?_eq_some_iff.1 d).1,fun a ha=>by rw [h.cellAt a oz,Uz _ ha]⟩
theorem Q70(n:Nat)(G:n<=32)(w:World) :
  Calls Tryz.prog 229 #[.int .i64 n] w fun e w'=>∃ u,e=.returned u/\w'.ownsRow w.heap.size 162 1 u (n+1) (Y7 (n+1) (Qc (idB n)))/\Ext w w':=by
 go_enter Tryz.func229,Tryz.ntmps229
 go_wp2_with (at_make;refine Yu rfl (.tmp 6) (.tmp 6) 238 rfl w.heap.size 162 _ 8 Tryz.underlying238 Tryz.infoU rfl .i64 .i64 ((n:Int)+1) ((n:Int)+1) (n+1) rfl rfl oz oz ?c1 ?c2 (Nat.le_refl _) ?_)
 case c1=>omega
 case c2=>unfold maxLen;omega
 intro O b v;obtain⟨c,q⟩:=zE w.heap.size;rw [q] at b ⊢;rw [Vl,show Y7 (n+1) (fun _=>0)=Y7 (n+1) (fun a=>if a<0 then 2 ^ a else 0) from Qv fun a _=>by simp] at b;have f:=Zh q;clear q;go_wp2
 refine wp_loop (fun a d=>∃(k:Nat),k<=n+1/\a.defers=[]/\(a.tmps.size=19/\a.tmps.getD 0 undef=.int .i64 n/\a.tmps.getD 3 undef=.slice (some ⟨c,0,none⟩) (n+1) (n+1)/\a.tmps.getD 4 undef=.int .i64 k)/\d.ownsRow c 162 1 (.slice (some ⟨c,0,none⟩) (n+1) (n+1)) (n+1) (Y7 (n+1) (fun a=>if a<k then 2 ^ a else 0))/\Ext w d)
  (fun a _=>n+1 - (intOf (a.tmps.getD 4 undef)).toNat) ?_ ?_
 ·exact⟨0,by omega,rfl,⟨rfl,rfl,rfl,rfl⟩,b,v⟩
 clear b v;rintro⟨I,_⟩ d ⟨k,M,E,⟨z,j,l,m⟩,b,o⟩;subst E;obtain⟨J,A⟩:=Qq z;obtain⟨u,rfl⟩:∃ x,x=J:=⟨_,rfl⟩;have H:I=#[u 0,u 1,u 2,u 3,u 4,u 5,u 6,u 7,u 8,u 9,u 10,u 11,u 12,u 13,u 14,u 15,u 16,u 17,u 18]:=A;clear A;subst H;change u 0=_ at j;change u 3=_ at l;change u 4=_ at m;rw [j,l,m];clear j l m z;by_cases F:k<n+1
 ·have D:(k:Int)<=(n:Int):=by omega
  have K:(k:Int)<(n:Int)+1:=by omega
  have L:(k:Int)<64:=by omega
  have N:=Dx (k:=k) oz;have c1:d.cell? ⟨c,k,none⟩=some (.int .u64 ((if k<k then 2 ^ k else 0:Nat):Int)):=by rw [b.cellAt k oz,Uz _ F]
  rw [if_neg (Nat.lt_irrefl k)] at c1;have c2:d.frozen? ⟨c,k,none⟩=false:=b.frozenAt k;have r:=Y6 b k (.int .u64 ((2 ^ k:Nat):Int))
  rw [Hy,Qv (g:=fun a=>if a<k+1 then 2 ^ a else 0) (fun i _=>by
   unfold Wl;by_cases e:i=k
   ·subst e;simp
   ·rw [if_neg e];show (if i<k then 2 ^ i else 0)=_;by_cases t:i<k
    ·rw [if_pos t,if_pos oz]
    ·rw [if_neg t,if_neg oz])] at r
  have y:Ext w (d.setCell ⟨c,k,none⟩ (.int .u64 ((2 ^ k:Nat):Int))):=o.setCell (p:=⟨c,k,none⟩) (.inl (by rw [f.out];exact Nat.le_refl c)) _;have C:=Zh r;have B:=Zh y;clear r y b o;go_wp2;exact⟨⟨k+1,by omega,tz,⟨rfl,rfl,rfl,rfl⟩,C.out,B.out⟩,nz⟩
 ·obtain rfl:k=n+1:=by omega
  have D:¬ (((n+1:Nat):Int)<=(n:Int)):=by omega
  rw [Qv (g:=Qc (idB n)) (fun a ha=>by rw [if_pos ha,Q35 G oz])] at b;rw [<-f.out] at b;have s:=Zh b;clear b;go_wp2;go_ret;rw [f.out] at s;exact⟨_,rfl,by rw [f.out];exact s.out,o⟩
theorem Q84{n:Nat}{w:World}{x y:Value}{f g:Nat->Nat}(b0:n<=32)(a3:X7 w x (n+1) f) (a4:X7 w y (n+1) g) (H:∀ a,f a<8589934592) (J:∀ a,g a<8589934592) :
  Calls Tryz.prog 231 #[x,y] w fun e w'=>∃ u,e=.returned u/\w'.ownsRow w.heap.size 162 1 u (n+1) (Y7 (n+1) (fun a=>f a ||| g a))/\Ext w w':=by
 obtain⟨Y,S,rfl,_,F⟩:=a3;obtain⟨Z,T,rfl,_,G⟩:=a4;obtain⟨Q,R,O,P⟩:=Zh4 F G H J;clear F G H J;go_enter Tryz.func231,Tryz.ntmps231
 go_wp2_with (at_make;refine Yu rfl (.tmp 8) (.tmp 8) 238 rfl w.heap.size 162 _ 8 Tryz.underlying238 Tryz.infoU rfl .i64 .i64 _ _ (n+1) rfl rfl zq zq ?c1 ?c2 (Nat.le_refl _) ?_)
 case c1=>omega
 case c2=>unfold maxLen;omega
 intro b1 c E;obtain⟨d,B⟩:=zE w.heap.size;rw [B] at c ⊢;rw [Vl,show Y7 (n+1) (fun _=>0)=Y7 (n+1) (fun a=>if a<0 then f a ||| g a else 0) from Qv fun a _=>by simp] at c;have o:=Zh B;clear B;go_wp2
 refine wp_loop (fun a j=>∃(b:Nat),b<=n+1/\a.defers=[]/\(a.tmps.size=29/\a.tmps.getD 0 undef=.slice (some ⟨Y,0,none⟩) (n+1) S/\a.tmps.getD 1 undef=.slice (some ⟨Z,0,none⟩) (n+1) T/\a.tmps.getD 5 undef=.slice (some ⟨d,0,none⟩) (n+1) (n+1)/\a.tmps.getD 6 undef=.int .i64 b)/\j.ownsRow d 162 1 (.slice (some ⟨d,0,none⟩) (n+1) (n+1)) (n+1) (Y7 (n+1) (fun a=>if a<b then f a ||| g a else 0))/\Ext w j)
  (fun a _=>n+1 - (intOf (a.tmps.getD 6 undef)).toNat) ?_ ?_
 ·exact⟨0,by omega,rfl,⟨rfl,rfl,rfl,rfl,rfl⟩,c,E⟩
 clear c E;rintro⟨a5,_⟩ j ⟨b,a9,a1,⟨L,r,s,t,z⟩,c,k⟩;subst a1;obtain⟨a6,M⟩:=Qq L;obtain⟨u,rfl⟩:∃ x,x=a6:=⟨_,rfl⟩;have a2:a5=#[u 0,u 1,u 2,u 3,u 4,u 5,u 6,u 7,u 8,u 9,u 10,u 11,u 12,u 13,u 14,u 15,u 16,u 17,u 18,u 19,u 20,u 21,u 22,u 23,u 24,u 25,u 26,u 27,u 28]:=M;clear M;subst a2;change u 0=_ at r;change u 1=_ at s;change u 5=_ at t;change u 6=_ at z;rw [r,s,t,z];clear r s t z L;by_cases A:b<n+1
 ·have a0:(b:Int)<(n:Int)+1:=by omega
  have U:=k.cell_some (Q.out b A) id;have V:=k.cell_some (R.out b A) id;have W:=O.out b;have X:=P.out b;have c1:j.cell? ⟨d,b,none⟩=some (.int .u64 ((if b<b then f b ||| g b else 0:Nat):Int)):=by rw [c.cellAt b oz,Uz _ A]
  rw [if_neg (Nat.lt_irrefl b)] at c1;have c2:j.frozen? ⟨d,b,none⟩=false:=c.frozenAt b;have N:=u64_or_nat (f b) (g b) oz oz;have l:∀ m,((j.drewN m).setCell ⟨d,b,none⟩ (.int .u64 ((f b ||| g b:Nat):Int))).ownsRow d 162 1 (.slice (some ⟨d,0,none⟩) (n+1) (n+1)) (n+1) (Y7 (n+1) (fun a=>if a<b+1 then f a ||| g a else 0))/\Ext w ((j.drewN m).setCell ⟨d,b,none⟩ (.int .u64 ((f b ||| g b:Nat):Int))):=by
   intro m;have l:=Y6 (Qe c ((Qa.refl _ j).drewN m)) b (.int .u64 ((f b ||| g b:Nat):Int))
   rw [Hy,Qv (g:=fun a=>if a<b+1 then f a ||| g a else 0) (fun i _=>by
    unfold Wl;by_cases e:i=b
    ·subst e;simp
    ·rw [if_neg e];show (if i<b then f i ||| g i else 0)=_;by_cases D:i<b
     ·rw [if_pos D,if_pos oz]
     ·rw [if_neg D,if_neg oz])] at l
   exact⟨l,(k.drewN m).setCell (p:=⟨d,b,none⟩) (.inl (by rw [o.out];exact Nat.le_refl d)) _⟩
  have q:=Zh l;obtain⟨a7,I⟩:=zE (f b);obtain⟨a8,K⟩:=zE (g b);rw [I] at U W N q;rw [K] at V X N q;clear l c k I K;go_wp2;refine Wc 11 kz kz ?_;simp only [List.take_succ_cons,List.take_zero,List.drop_succ_cons,List.drop_zero];repeat still_step
  refine wpStill_nil ?_;go_wp2;exact⟨⟨b+1,by omega,tz,⟨rfl,rfl,rfl,rfl,rfl⟩,(q.out _).1,(q.out _).2⟩,nz⟩
 ·obtain rfl:b=n+1:=by omega
  have a0:¬ (((n+1:Nat):Int)<(n:Int)+1):=by omega
  rw [Qv (g:=fun a=>f a ||| g a) (fun a ha=>by rw [if_pos ha])] at c;rw [<-o.out] at c;have C:=Zh c;clear c;go_wp2;go_ret;rw [o.out] at C;exact⟨_,rfl,by rw [o.out];exact C.out,k⟩
theorem No{n:Nat}{w:World}{x y:Value}{X Y:Qr}(b4:n<=32)(b5:X7 w x (n+1) (Qc X)) (b6:X7 w y (n+1) (Qc Y)) (V:Qx n X) :
  Calls Tryz.prog 230 #[x,y] w fun e w'=>∃ u,e=.returned u/\w'.ownsRow w.heap.size 162 1 u (n+1) (Y7 (n+1) (Qc (comp X Y)))/\Ext w w':=by
 obtain⟨R,O,rfl,_,W⟩:=b5;obtain⟨S,P,rfl,_,Z⟩:=b6;obtain⟨a6,a7,a5⟩:=Zh3 W Z V;clear W Z V;go_enter Tryz.func230,Tryz.ntmps230
 go_wp2_with (at_make;refine Yu rfl (.tmp 9) (.tmp 9) 238 rfl w.heap.size 162 _ 8 Tryz.underlying238 Tryz.infoU rfl .i64 .i64 _ _ (n+1) rfl rfl zq zq ?c1 ?c2 (Nat.le_refl _) ?_)
 case c1=>omega
 case c2=>unfold maxLen;omega
 intro c5 d U;obtain⟨f,J⟩:=zE w.heap.size;rw [J] at d ⊢;rw [Vl,show Y7 (n+1) (fun _=>0)=Y7 (n+1) (fun a=>if a<0 then Qc (comp X Y) a else 0) from Qv fun a _=>by simp] at d;have C:=Zh J;clear J;go_wp2
 refine wp_loop (fun a F=>∃(b:Nat),b<=n+1/\a.defers=[]/\(a.tmps.size=44/\a.tmps.getD 0 undef=.slice (some ⟨R,0,none⟩) (n+1) O/\a.tmps.getD 1 undef=.slice (some ⟨S,0,none⟩) (n+1) P/\a.tmps.getD 5 undef=.slice (some ⟨f,0,none⟩) (n+1) (n+1)/\a.tmps.getD 6 undef=.int .i64 b)/\F.ownsRow f 162 1 (.slice (some ⟨f,0,none⟩) (n+1) (n+1)) (n+1) (Y7 (n+1) (fun a=>if a<b then Qc (comp X Y) a else 0))/\Ext w F)
  (fun a _=>n+1 - (intOf (a.tmps.getD 6 undef)).toNat) ?_ ?_
 ·exact⟨0,by omega,rfl,⟨rfl,rfl,rfl,rfl,rfl⟩,d,U⟩
 clear d U;rintro⟨M,_⟩ F ⟨b,c3,H,⟨z,o,q,r,s⟩,d,k⟩;subst H;obtain⟨N,A⟩:=Qq z;obtain⟨u,rfl⟩:∃ x,x=N:=⟨_,rfl⟩;have K:M=#[u 0,u 1,u 2,u 3,u 4,u 5,u 6,u 7,u 8,u 9,u 10,u 11,u 12,u 13,u 14,u 15,u 16,u 17,u 18,u 19,u 20,u 21,u 22,u 23,u 24,u 25,u 26,u 27,u 28,u 29,u 30,u 31,u 32,u 33,u 34,u 35,u 36,u 37,u 38,u 39,u 40,u 41,u 42,u 43]:=A;clear A;subst K;change u 0=_ at o;change u 1=_ at q;change u 5=_ at r;change u 6=_ at s;rw [o,q,r,s];clear o q r s z;by_cases a0:b<n+1
 ·have b0:(b:Int)<(n:Int)+1:=by omega
  rw [Qv (g:=Wl (fun a=>if a<b then Qc (comp X Y) a else 0) b (X6 Y ((List.range 0).filter (X b)))) (fun i _=>by
   unfold Wl;by_cases e:i=b
   ·subst e;rw [if_pos rfl,if_neg (Nat.lt_irrefl i)];exact(Q3t Y).symm
   ·rw [if_neg e])] at d
  have j:=Zh d;clear d;go_wp2
  refine wp_loop (fun a l=>∃(c:Nat),c<=n+1/\a.defers=[]/\(a.tmps.size=44/\a.tmps.getD 0 undef=.slice (some ⟨R,0,none⟩) (n+1) O/\a.tmps.getD 1 undef=.slice (some ⟨S,0,none⟩) (n+1) P/\a.tmps.getD 5 undef=.slice (some ⟨f,0,none⟩) (n+1) (n+1)/\a.tmps.getD 6 undef=.int .i64 b/\a.tmps.getD 7 undef=.int .i64 c)/\l.ownsRow f 162 1 (.slice (some ⟨f,0,none⟩) (n+1) (n+1)) (n+1) (Y7 (n+1) (Wl (fun a=>if a<b then Qc (comp X Y) a else 0) b (X6 Y ((List.range c).filter (X b)))))/\Ext w l)
   (fun a _=>n+1 - (intOf (a.tmps.getD 7 undef)).toNat) ?_ ?_
  ·exact⟨0,by omega,rfl,⟨rfl,rfl,rfl,rfl,rfl,rfl⟩,j.out,k⟩
  clear j k;rintro⟨M,_⟩ l ⟨c,c0,H,⟨z,o,q,r,s,G⟩,d,k⟩;subst H;obtain⟨N,A⟩:=Qq z;obtain⟨u,rfl⟩:∃ x,x=N:=⟨_,rfl⟩;have K:M=#[u 0,u 1,u 2,u 3,u 4,u 5,u 6,u 7,u 8,u 9,u 10,u 11,u 12,u 13,u 14,u 15,u 16,u 17,u 18,u 19,u 20,u 21,u 22,u 23,u 24,u 25,u 26,u 27,u 28,u 29,u 30,u 31,u 32,u 33,u 34,u 35,u 36,u 37,u 38,u 39,u 40,u 41,u 42,u 43]:=A;clear A;subst K;change u 0=_ at o;change u 1=_ at q;change u 5=_ at r;change u 6=_ at s;change u 7=_ at G;rw [o,q,r,s,G];clear o q r s G z;by_cases b3:c<n+1
  ·have b1:(c:Int)<(n:Int)+1:=by omega
   have b9:(c:Int)<64:=by omega
   have b7:=k.cell_some (a6.out b a0) id;have Q:=k.cell_some (a7.out c b3) id;have b8:=Je X b;have b2:=Qby X b c oz;have I:=Qa7 (X b) c;obtain⟨L,a2⟩:=zE (X b c);rw [a2] at b2 I;have E:=Zh I;clear I a2;cases L
   ·have m:=E.out;rw [if_neg zd,List.append_nil] at m;rw [<-m] at d;have j:=Zh d;clear m d Q;go_wp2;exact⟨⟨c+1,by omega,tz,⟨rfl,rfl,rfl,rfl,rfl,rfl⟩,j.out,k⟩,nz⟩
   ·have m:=E.out;rw [if_pos rfl] at m;have a8:=Je Y c;have a9:=Q6e Y ((List.range c).filter (X b));have c1:l.cell? ⟨f,b,none⟩=some (.int .u64 (X6 Y ((List.range c).filter (X b)):Int)):=by
     rw [d.cellAt b oz,Uz _ a0];unfold Wl;rw [if_pos rfl]
    have c2:l.frozen? ⟨f,b,none⟩=false:=d.frozenAt b;have a4:=u64_or_nat (X6 Y ((List.range c).filter (X b))) (Qc Y c) oz oz;have t:∀ B,((l.drewN B).setCell ⟨f,b,none⟩ (.int .u64 ((X6 Y ((List.range c).filter (X b)) ||| Qc Y c:Nat):Int))).ownsRow f 162 1 (.slice (some ⟨f,0,none⟩) (n+1) (n+1)) (n+1) (Y7 (n+1) (Wl (fun a=>if a<b then Qc (comp X Y) a else 0) b (X6 Y ((List.range (c+1)).filter (X b)))))/\Ext w ((l.drewN B).setCell ⟨f,b,none⟩ (.int .u64 ((X6 Y ((List.range c).filter (X b)) ||| Qc Y c:Nat):Int))):=by
     intro B;have t:=Y6 (Qe d ((Qa.refl _ l).drewN B)) b (.int .u64 ((X6 Y ((List.range c).filter (X b)) ||| Qc Y c:Nat):Int))
     rw [Hy,<-Sv,<-m,Qv (g:=Wl (fun a=>if a<b then Qc (comp X Y) a else 0) b (X6 Y ((List.range (c+1)).filter (X b)))) (fun i _=>by
      unfold Wl;by_cases e:i=b
      ·rw [if_pos e,if_pos e]
      ·rw [if_neg e,if_neg e,if_neg e])] at t
     rw [<-Sv,<-m];exact⟨t,(k.drewN B).setCell (p:=⟨f,b,none⟩) (.inl (by rw [C.out];exact Nat.le_refl f)) _⟩
    have D:=Zh t;obtain⟨c4,a1⟩:=zE (X6 Y ((List.range c).filter (X b)));obtain⟨c6,a3⟩:=zE (Qc Y c);rw [a1] at a9 c1 a4 D;rw [a3] at Q a8 a4 D;clear t d k a1 a3 m E;go_wp2;refine Wc 11 kz kz ?_;simp only [List.take_succ_cons,List.take_zero,List.drop_succ_cons,List.drop_zero];repeat still_step
    refine wpStill_nil ?_;go_wp2;exact⟨⟨c+1,by omega,tz,⟨rfl,rfl,rfl,rfl,rfl,rfl⟩,(D.out _).1,(D.out _).2⟩,nz⟩
  ·obtain rfl:c=n+1:=by omega
   have b1:¬ (((n+1:Nat):Int)<(n:Int)+1):=by omega
   rw [Qv (g:=fun a=>if a<b+1 then Qc (comp X Y) a else 0) (fun i _=>by
    unfold Wl;by_cases e:i=b
    ·subst e;rw [if_pos rfl,if_pos oz];exact Qc3 b4 a5.out Y i
    ·rw [if_neg e];show (if i<b then Qc (comp X Y) i else 0)=_;by_cases T:i<b
     ·rw [if_pos T,if_pos oz]
     ·rw [if_neg T,if_neg oz])] at d
   have j:=Zh d;clear d;go_wp2;first | exact⟨⟨b+1,by omega,tz,⟨rfl,rfl,rfl,rfl,rfl⟩,j.out,k⟩,nz⟩ | exact⟨⟨b+1,by omega,by simp,j.out,k⟩,nz⟩ | exact⟨⟨b+1,by omega,by simp,j.out⟩,nz⟩
 ·obtain rfl:b=n+1:=by omega
  have b0:¬ (((n+1:Nat):Int)<(n:Int)+1):=by omega
  rw [Qv (g:=Qc (comp X Y)) (fun a ha=>by rw [if_pos ha])] at d;rw [<-C.out] at d;have j:=Zh d;clear d;go_wp2;go_ret;rw [C.out] at j;exact⟨_,rfl,by rw [C.out];exact j.out,k⟩
def Qlj(n:Nat)(f g:Nat->Nat)(e:Ending):Prop:=∃ b,e=.returned (.bool b)/\(b=true↔∀ a,a<n+1->f a=g a)
theorem Qfl{n:Nat}{w:World}{x y:Value}{f g:Nat->Nat}(a4:n<=32)(Y:X7 w x (n+1) f) (Z:X7 w y (n+1) g) (D:∀ a,f a<8589934592) (E:∀ a,g a<8589934592) :
  Calls Tryz.prog 232 #[x,y] w fun e w'=>Qlj n f g e/\Ext w w':=by
 obtain⟨T,Q,rfl,_,B⟩:=Y;obtain⟨U,R,rfl,_,C⟩:=Z;obtain⟨O,P,M,N⟩:=Zh4 B C D E;clear B C D E;go_enter Tryz.func232,Tryz.ntmps232;go_wp2
 refine wp_loop (fun a s=>∃(b:Nat),b<=n+1/\a.defers=[]/\(a.tmps.size=21/\a.tmps.getD 0 undef=.slice (some ⟨T,0,none⟩) (n+1) Q/\a.tmps.getD 1 undef=.slice (some ⟨U,0,none⟩) (n+1) R/\a.tmps.getD 5 undef=.int .i64 b)/\(∀ a,a<b->f a=g a)/\Ext w s)
  (fun a _=>n+1 - (intOf (a.tmps.getD 5 undef)).toNat) ?_ ?_
 ·exact⟨0,by omega,rfl,⟨rfl,rfl,rfl,rfl⟩,fun a ha=>by omega,Qa.refl _ _⟩
 rintro⟨a0,_⟩ s ⟨b,a3,W,⟨I,m,o,p⟩,A,d⟩;subst W;obtain⟨a1,J⟩:=Qq I;obtain⟨c,rfl⟩:∃ x,x=a1:=⟨_,rfl⟩;have X:a0=#[c 0,c 1,c 2,c 3,c 4,c 5,c 6,c 7,c 8,c 9,c 10,c 11,c 12,c 13,c 14,c 15,c 16,c 17,c 18,c 19,c 20]:=J;clear J;subst X;change c 0=_ at m;change c 1=_ at o;change c 5=_ at p;rw [m,o,p];clear m o p I;have r:=Zh A;clear A;by_cases q:b<n+1
 ·have V:(b:Int)<(n:Int)+1:=by omega
  have t:=d.cell_some (O.out b q) id;have l:=d.cell_some (P.out b q) id;have u:=M.out b;have z:=N.out b;by_cases i:f b=g b
  ·have G:∀ a,a<b+1->f a=g a:=fun a ha=>by
    by_cases e:a=b
    ·rw [e];exact i
    ·exact r.out a oz
   have k:=Zh G;rw [<-i] at l;obtain⟨S,j⟩:=zE (f b);rw [j] at t l u;clear G i j z;go_wp2
   go_quiet (fail)
   go_wp2;exact⟨⟨b+1,by omega,tz,⟨rfl,rfl,rfl,rfl⟩,k.out,d.drewN _⟩,nz⟩
  ·have H:¬ ∀ a,a<n+1->f a=g a:=fun h=>i (h b q);have k:=Zh H;have K:((f b:Int) ==(g b:Int))=false:=by rw [beq_eq_false_iff_ne];omega
   have L:((f b:Int) !=(g b:Int))=true:=by rw [bne_iff_ne];omega
   obtain⟨S,j⟩:=zE (f b);obtain⟨a2,F⟩:=zE (g b);rw [j] at t u K L;rw [F] at l z K L;clear H i j F;go_wp2
   go_quiet (fail)
   go_wp2;go_ret;exact⟨⟨false,rfl,⟨(fun h=>by cases h),fun h=>absurd h k.out⟩⟩,d.drewN _⟩
 ·obtain rfl:b=n+1:=by omega
  have V:¬ (((n+1:Nat):Int)<(n:Int)+1):=by omega
  go_wp2;go_ret;exact⟨⟨true,rfl,⟨fun _=>r.out,fun _=>rfl⟩⟩,d⟩
theorem Ql9{s c:Nat × Nat}(q:s.1<4294967296)(r:s.2<4294967296)(t:c.1<4294967296)(u:c.2<4294967296)(w:World) :
  Calls Tryz.prog 228 #[.agg #[.int .u32 (s.1:Int),.int .u32 (s.2:Int)],.agg #[.int .u32 (c.1:Int),.int .u32 (c.2:Int)]] w fun e w'=>e=.returned (.bool (sat s c))/\Ext w w':=by
 have o:bits .and .u32 (s.1:Int) (c.1:Int)=((s.1 &&& c.1:Nat):Int):=u32_and_nat _ _ q t;have p:bits .and .u32 (s.2:Int) (c.2:Int)=((s.2 &&& c.2:Nat):Int):=u32_and_nat _ _ r u;have a:Hid (sat s c=((s.1 &&& c.1 == c.1) && (s.2 &&& c.2 == c.2))):=Zh (by unfold sat;rw [Nat.and_comm c.1,Nat.and_comm c.2]);have f:(((s.1 &&& c.1:Nat):Int) ==(c.1:Int))=(s.1 &&& c.1 == c.1):=by apply Bool.eq_iff_iff.2;rw [beq_iff_eq,beq_iff_eq];omega
 have g:(((s.2 &&& c.2:Nat):Int) ==(c.2:Int))=(s.2 &&& c.2 == c.2):=by apply Bool.eq_iff_iff.2;rw [beq_iff_eq,beq_iff_eq];omega
 obtain⟨v,x⟩:=s;obtain⟨i,j⟩:=c;simp only at *;obtain⟨b,k⟩:=zE (v &&& i);obtain⟨y,l⟩:=zE (x &&& j);rw [k] at o f a;rw [l] at p g a;obtain⟨d,m⟩:=zE (b == i);obtain⟨z,n⟩:=zE (y == j);rw [m] at f a;rw [n] at g a;clear k l m n;go_enter Tryz.func228,Tryz.ntmps228;cases d
 ·go_wp2;go_ret;exact⟨by rw [a.out];rfl,((Qa.refl _ _).alloc _).alloc _⟩
 ·cases z
  all_goals
   go_wp2;go_ret;exact⟨by rw [a.out];rfl,((Qa.refl _ _).alloc _).alloc _⟩
theorem Q4z(p:Pat)(l:List Pat)(n:Nat):Dp (p::l) n=if n<=40 then Dp l (Gv p n) else n:=by rw [Dp]
theorem Qkk(p:Pat)(n:Nat):Gv p n=Dp p.l (n+1):=by cases p;rw [Gv];rfl
theorem Qk7{p:Pat}{n:Nat}(h:n<=40):Gv p n<=41:=(Q2w p n [] h).1.1
def Ee(p:Pat):Prop:=∀(K:Nat->Prop) (w:World) (cs:List Value) (n:Nat),Qu K w p cs->n<=40 ->
 Calls Tryz.prog 119 #[.agg cs.toArray,.int .i64 n] w fun e w'=>e=.returned (.int .i64 (Gv p n:Int))/\Ext w w'
theorem Qc2(k:Int)(pl mi:Nat)(nt:Bool)(mn mx:Int)(l:List Pat)(T:∀ p∈l,Ee p):Ee (.node k pl mi nt mn mx l):=by
 intro Z f b9 n P c6;unfold Qu at P;obtain⟨q,r,rfl,b5,b4,M,K,L⟩:=P;have O:l.length<=maxLen:=Nat.le_trans M K;unfold maxLen at O;have v:=Qkk (.node k pl mi nt mn mx l) n;change Gv (.node k pl mi nt mn mx l) n=Dp l (n+1) at v;obtain⟨o,J⟩:=zE (Gv (.node k pl mi nt mn mx l) n);rw [J] at v ⊢;obtain⟨d,x⟩:=zE l.length;obtain⟨G,V,Y,H⟩:=Zh4 x L T v;unfold Ql;rw [x] at O ⊢;clear L T x M K b5 b4 J v;go_enter Tryz.func119,Tryz.ntmps119;go_wp2;have e:(f.alloc (.cells #[.int .i64 k,.int .u32 (pl:Int),.int .u32 (mi:Int),.bool nt,.int .i64 mn,.int .i64 mx,.slice q d r] 47)).heap[f.heap.size]?=some (.cells #[.int .i64 k,.int .u32 (pl:Int),.int .u32 (mi:Int),.bool nt,.int .i64 mn,.int .i64 mx,.slice q d r] 47 (0,0)):=new_at rfl;have s:Ext f (f.alloc (.cells #[.int .i64 k,.int .u32 (pl:Int),.int .u32 (mi:Int),.bool nt,.int .i64 mn,.int .i64 mx,.slice q d r] 47)):=(Qa.refl _ f).alloc _;generalize (f.alloc (.cells #[.int .i64 k,.int .u32 (pl:Int),.int .u32 (mi:Int),.bool nt,.int .i64 mn,.int .i64 mx,.slice q d r] 47))=b6 at e s ⊢;generalize f.heap.size=U at e ⊢;have X:=Zh e;clear e
 refine wp_loop (fun a w=>∃(b c:Nat),b<=d/\c<=41/\Dp (l.drop b) c=o/\a.defers=[]/\gS a [2,5,6]=(28,[.pointer (some ⟨U,0,none⟩),.int .i64 c,.int .i64 b])/\Ext b6 w)
  (fun a _=>d - (intOf (a.tmps.getD 6 undef)).toNat) ?_ ?_
 ·exact⟨0,n+1,by omega,by omega,H.out.symm,rfl,(Prod.ext rfl (lE rfl (lE (by go_num) rfl))),Qa.refl _ _⟩
 clear H;rintro⟨d0,_⟩ w ⟨b,c,c4,c5,R,b2,Q,g⟩;subst b2;obtain⟨d1,rfl⟩:=Qo Q;clear Q;have i:=Zh R;clear R;have e:=g.keep X.out;have a8:=zR e;by_cases b3:b<d
 ·have a9:(b:Int)<(d:Int):=by omega
  have A:b<l.length:=by rw [G.out];exact b3
  have t:l.drop b=l[b]::l.drop (b+1):=List.drop_eq_getElem_cons A;by_cases u:c<=40
  ·have b0:(c:Int)<=40:=by omega
   obtain⟨c1,c7,a0,rfl,c2,c3,D,C⟩:=(V.out.ext (s.trans g)).get b A;rw [Nat.zero_add] at D;obtain⟨c9,c8,y,_,_,_⟩:=Zv C;obtain⟨a1,a2,a3,a4,a5,a6,a7⟩:=Jl D y;have m:=Y.out _ (List.getElem_mem A) Z w a0 c C u;have B:Dp (l.drop (b+1)) (Gv l[b] c)=o:=by
    have:=i.out;rw [t,Q4z,if_pos u] at this;exact this
   have N:=Qk7 (p:=l[b]) u;obtain⟨b7,S⟩:=zE (Gv l[b] c);rw [S] at m B N;rw [y] at m;unfold Ql at m;have F:=Zh m;have W:=Zh B;clear m D C y t B S e;go_wp2_with fail;refine F.out.mono ?_;rintro c0 b8 ⟨rfl,I⟩;have b1:=g.trans I;clear g I a1 a2 a3 a4 a5 a6 a7 F a8;go_wp2;exact⟨⟨b+1,b7,by omega,N,W.out,tz,rfl,b1⟩,nz⟩
  ·have b0:¬ (c:Int)<=40:=by omega
   have E:c=o:=by
    have:=i.out;rw [t,Q4z,if_neg u] at this;exact this
   subst E;clear i t;go_wp2;go_ret;exact⟨rfl,s.trans g⟩
 ·obtain rfl:b=d:=by omega
  have a9:¬ (b:Int)<(b:Int):=by omega
  have E:c=o:=by
   have:=i.out;rw [List.drop_of_length_le (by rw [G.out];exact Nat.le_refl _),Dp] at this;exact this
  subst E;clear i;go_wp2;go_ret;exact⟨rfl,s.trans g⟩
mutual
theorem Q43:∀ p:Pat,Ee p
 | .node k pl mi nt mn mx l=>Qc2 k pl mi nt mn mx l (Q2e l)
theorem Q2e:∀ l:List Pat,∀ p∈l,Ee p
 | [],_,h=>by cases h
 | q::l,p,h=>(List.mem_cons.1 h).elim (fun e=>e ▸ Q43 q) (fun h=>Q2e l p h)
end
theorem Lv{K:Nat->Prop}{w:World}{p:Pat}{cs:List Value}(g:Qu K w p cs) :
  Calls Tryz.prog 79 #[.agg cs.toArray] w fun e w'=>e=.returned (.int .i64 (Fz p:Int))/\Ext w w':=by
 have d:Ext w (w.alloc (.cells cs.toArray 47)):=(Qa.refl _ w).alloc _;have a:=Q43 p K _ cs 0 (g.ext d) oz;rw [Qee] at a;obtain⟨n,m,f,_,_,_⟩:=Zv g;rw [f] at a ⊢;unfold Ql at a ⊢;obtain⟨o,i⟩:=zE (Fz p);rw [i] at a ⊢;have j:=Zh a;clear a f d i;go_enter Tryz.func79,Tryz.ntmps79;go_wp2_with fail;refine j.out.mono ?_;rintro e l ⟨rfl,c⟩;have k:Ext w l:=Qa.trans ((Qa.refl _ w).alloc _) c;clear c;go_wp2;go_ret;exact⟨rfl,k⟩
end Go.Proofs.YtejenndedjabhaaGreatDoor
