/- PLAIN: -/
import Derived.Test.YtfdlhlghcbeblaaGreatDoorQ04
set_option maxRecDepth 100000
set_option maxHeartbeats 16000000
namespace Go.Proofs.YtfdlhlghcbeblaaGreatDoor
open Go.RowKit Go.Ab
mutual
def Pw:Pat->Prop
 | .node k pl mi nt mn mx l=>Yo (.node k pl mi nt mn mx l)=0/\Xx l
def Xx:List Pat->Prop
 | []=>True
 | p::l=>Pw p/\Xx l
end
theorem Kc(p:Pat):Pw p↔Yo p=0/\Xx p.l:=by cases p;unfold Pw;exact Iff.rfl
theorem Gj(p:Pat)(l:List Pat):Xx (p::l)↔Pw p/\Xx l:=by rw [Xx]
theorem Q2s(a b:List Pat):Xx (a++b)↔Xx a/\Xx b:=by
 induction a with
 | nil=>simp [Xx]
 | cons p a ih=>rw [List.cons_append,Gj,Gj,ih,and_assoc]
theorem Kp{l:List Pat}:Xx l↔∀ p∈l,Pw p:=by
 induction l with
 | nil=>simp [Xx]
 | cons p l ih=>rw [Gj,ih];simp
theorem P8(p:Pat)(l:List Pat):Yr (p::l)=Gy p+Yr l:=by rw [Yr]
theorem Q3t:∀(f:Nat) (l:List Pat),chk f l=0↔Xx l/\Yr l<=f
 | f,[]=>by cases f <;> simp [chk,Xx,Yr]
 | 0,p::l=>by
  have h1:Yr (p::l)=Yr p.l+1+Yr l:=by rw [P8,Cq]
  constructor
  ·intro a;simp [chk] at a
  ·rintro⟨_,a⟩;omega
 | f+1,p::l=>by
  have h1:Yr (p::l)=Yr p.l+1+Yr l:=by rw [P8,Cq]
  rw [La];by_cases b:Yo p=0
  ·rw [if_pos b,Q3t f,Q2s,Mj,Gj,Kc];constructor
   ·rintro⟨⟨c,d⟩,e⟩;exact⟨⟨⟨b,c⟩,d⟩,by omega⟩
   ·rintro⟨⟨⟨_,c⟩,d⟩,e⟩;exact⟨⟨c,d⟩,by omega⟩
  ·rw [if_neg b,Gj,Kc];constructor
   ·intro a;exact absurd a b
   ·rintro⟨⟨⟨a,_⟩,_⟩,_⟩;exact absurd a b
theorem Q8m(p:Pat):Zw p=0↔Pw p/\Gy p<=40:=by
 unfold Zw;rw [Q3t,Gj,P8];simp [Xx,Yr]
theorem Dp{p:Pat}{ws:Wd}:Jd p ws=0↔Zw p=0/\ws.length<=32/\Xu ws=true:=by
 unfold Jd;by_cases a:Zw p=0
 ·rw [if_pos a];by_cases c:32<ws.length
  ·rw [if_pos c];simp [a];omega
  ·rw [if_neg c];by_cases b:Xu ws=true
   ·rw [if_pos b];simp [a,b];omega
   ·rw [if_neg b];simp [b]
 ·rw [if_neg a];simp [a]
theorem Q1d{p:Pat}{ws:Wd}(h:Jd p ws=0):Vt p ws=Ym ws p:=by unfold Vt;rw [if_pos h]
theorem Ew{p:Pat}{ws:Wd}(h:Jd p ws=0):Pw p:=((Q8m p).1 (Dp.1 h).1).1
theorem Ko(w:Wd)(k:Int)(pl mi:Nat)(nt:Bool)(mn mx:Int)(l:List Pat):Ym w (.node k pl mi nt mn mx l)=if k=1 then Z9 w (pl,mi) nt else if k=2 then Zk 0 else if k=6 then Zk w.length else if k=4 then V0 w l else if k=5 then Pa w l mn mx else Uh w l (idB w.length):=by rw [Ym]
theorem Q55{p:Pat}(h:Yo p=0):0<=p.k/\p.k<=6/\(p.k≠3->p.k≠4->p.k≠5->p.l.length=0)/\(p.k=5->p.l.length=1/\0<=p.mn/\p.mn<=32):=by
 unfold Yo at h;by_cases e:p.k<0\/6<p.k
 ·rw [if_pos e] at h;exact absurd h zd
 rw [if_neg e] at h;by_cases f:p.k≠1/\(p.pl≠0\/p.mi≠0\/p.nt=true)
 ·rw [if_pos f] at h;exact absurd h zd
 rw [if_neg f] at h;by_cases d:p.k≠3/\p.k≠4/\p.k≠5/\p.l.length≠0
 ·rw [if_pos d] at h;exact absurd h zd
 rw [if_neg d] at h;by_cases g:p.k≠5/\(p.mn≠0\/p.mx≠0)
 ·rw [if_pos g] at h;exact absurd h zd
 rw [if_neg g] at h;by_cases i:p.k=5/\(p.l.length≠1\/p.mn<0\/32<p.mn\/(p.mx≠-1/\(p.mx<p.mn\/32<p.mx)))
 ·rw [if_pos i] at h;exact absurd h zd
 refine⟨by omega,by omega,fun a b c=>?_,fun hk=>?_⟩
 ·exact Decidable.byContradiction fun hh=>d ⟨a,b,c,hh⟩
 ·have j:=fun hh=>i ⟨hk,hh⟩;omega
theorem Np{k:Int}{pl mi:Nat}{nt:Bool}{mn mx:Int}{l:List Pat}(h:Yo (.node k pl mi nt mn mx l)=0) :
  0<=k/\k<=6/\(k≠3->k≠4->k≠5->l=[])/\(k=5->(∃ q,l=[q])/\0<=mn/\mn<=32):=by
 obtain⟨e,f,g,i⟩:=Q55 h;refine⟨e,f,fun a b c=>List.eq_nil_of_length_eq_zero (g a b c),fun hk=>?_⟩;obtain⟨d,j,m⟩:=i hk;refine⟨?_,j,m⟩;have d:l.length=1:=d
 match l,d with
 | [q],_=>exact⟨q,rfl⟩
mutual
def Qd4:Pat->Pat
 | .node k pl mi nt mn mx l=>.node (if k=2 then 6 else if k=6 then 2 else k) pl mi nt mn mx (if k=3 then(Qd1 l).reverse else Qd1 l)
def Qd1:List Pat->List Pat
 | []=>[]
 | p::l=>Qd4 p::Qd1 l
end
def U7(k:Int)(pl mi:Nat)(nt:Bool)(mn mx:Int)(n:Nat):Int:=
 if k<0\/6<k then 2
 else if k≠1/\(pl≠0\/mi≠0\/nt=true) then 2
 else if k≠3/\k≠4/\k≠5/\n≠0 then 2
 else if k≠5/\(mn≠0\/mx≠0) then 2
 else if k=5/\(n≠1\/mn<0\/32<mn\/(mx≠-1/\(mx<mn\/32<mx))) then 2
 else if Z8 pl mi=true then 0 else 14
theorem Q67(k:Int)(pl mi:Nat)(nt:Bool)(mn mx:Int)(l:List Pat):Yo (.node k pl mi nt mn mx l)=U7 k pl mi nt mn mx l.length:=rfl
def Qi7(n:Nat)(X:Qh):Qh:=fun a b=>decide (a<=n) && decide (b<=n) && X (n - b) (n - a)
attribute [local go_sem] Oper.semAt_some Zi Qz
theorem Qfh(a b:Nat):((a ||| b) / 16777216 == 0)=(decide (a<16777216) && decide (b<16777216)):=by
 apply Bool.eq_iff_iff.2;rw [beq_iff_eq,Bool.and_eq_true,decide_eq_true_eq,decide_eq_true_eq];constructor
 ·intro e;have c:a ||| b<16777216:=by omega
  have d:a<=a ||| b:=Nat.left_le_or;have f:b<=a ||| b:=Nat.right_le_or;omega
 ·rintro⟨c,d⟩;have:=Nat.or_lt_two_pow (n:=24) c d;omega
theorem Bb(a b:Nat)(o:a<4294967296)(p:b<4294967296)(w:World) :
  Calls Tryz.prog 185 #[.agg #[.int .u32 (a:Int),.int .u32 (b:Int)]] w fun e w'=>e=.returned (.bool (Z8 a b))/\Ext w w':=by
 obtain⟨q,_⟩:=Wg o p;have j:Z8 a b=((a &&& b == 0) && (decide (a<16777216) && decide (b<16777216))):=by unfold Z8;rw [Qfh]
 obtain⟨k,l⟩:=zE (a &&& b == 0);rw [l] at q j;have g:=Zh j;clear j l;go_enter Tryz.func185,Tryz.ntmps185;cases k
 ·go_wp2;go_ret;exact⟨by rw [g.out];rfl,(Q0.refl _ _).alloc _⟩
 ·by_cases f:a<16777216
  ·have m:(a:Int)<16777216:=by omega
   by_cases i:b<16777216
   ·have n:(b:Int)<16777216:=by omega
    have c:Z8 a b=true:=by rw [g.out,decide_eq_true f,decide_eq_true i];rfl
    have d:=Zh c;clear c f i;go_wp2;go_ret;exact⟨by rw [d.out];rfl,(Q0.refl _ _).alloc _⟩
   ·have n:¬ (b:Int)<16777216:=by omega
    have c:Z8 a b=false:=by rw [g.out,decide_eq_false i,Bool.and_false,Bool.and_false]
    have d:=Zh c;clear c f i;go_wp2;go_ret;exact⟨by rw [d.out];rfl,(Q0.refl _ _).alloc _⟩
  ·have m:¬ (a:Int)<16777216:=by omega
   have c:Z8 a b=false:=by rw [g.out,decide_eq_false f,Bool.false_and,Bool.and_false]
   have d:=Zh c;clear c f;go_wp2;go_ret;exact⟨by rw [d.out];rfl,(Q0.refl _ _).alloc _⟩
theorem W6{w:World}{v:Value}{ws:Wd}(p:Q6 w v ws) :
  Calls Tryz.prog 144 #[v] w fun e w'=>e=.returned (.int .i64 (wE ws))/\Ext w w':=by
 obtain⟨K,L,rfl,F⟩:=p.slice;unfold maxLen at F;have m:=Zh p;clear p;obtain⟨b,k⟩:=zE ws.length;have t:=Zh k;have f:Hid (wE ws=if 32<b then 11 else if Xu ws=true then 0 else 14):=Zh (by unfold wE;rw [k]);rw [k] at F m ⊢;clear k;by_cases A:32<b
 ·rw [if_pos A] at f;have z:(32:Int)<(b:Int):=by omega
  go_enter Tryz.func144,Tryz.ntmps144;go_wp2;go_ret;exact⟨by rw [f.out];rfl,Q0.refl _ _⟩
 rw [if_neg A] at f;have R:¬ (32:Int)<(b:Int):=by omega
 go_enter Tryz.func144,Tryz.ntmps144;go_wp2
 refine wp_loop (fun c u=>∃(a:Nat),a<=b/\c.defers=[]/\gS c [0,3]=(19,[.slice K b L,.int .i64 a])/\Xu (ws.take a)=true/\Ext w u)
  (fun c _=>b - (intOf (c.tmps.getD 3 undef)).toNat) ?_ ?_
 ·exact⟨0,by omega,rfl,rfl,by simp [Xu],Q0.refl _ _⟩
 rintro⟨V,_⟩ u ⟨a,T,M,I,D,j⟩;subst M;obtain⟨W,rfl⟩:=Qj I;clear I;have r:=Zh D;clear D;by_cases N:a<b
 ·have z:(a:Int)<(b:Int):=by omega
  have l:a<ws.length:=by rw [t.out];exact N
  obtain⟨Q,U,P,E,S,x,y⟩:=(m.out.ext j).at l;simp only [zV] at E;obtain⟨rfl,O,rfl⟩:=E;clear O;obtain⟨G,H⟩:=m.out.2.get a l;obtain⟨c,n⟩:=zE ((ws.getD a (0,0)).1);obtain⟨i,o⟩:=zE ((ws.getD a (0,0)).2);rw [n] at x G;rw [o] at y H;have q:=Zh n;have s:=Zh o;clear n o;go_wp2_with fail;refine(Bb c i G H _).mono ?_;rintro e J ⟨rfl,C⟩;have B:Ext w J:=j.trans C;clear j C x y;cases hok:Z8 c i
  ·have d:Xu ws=false:=Ce l (by rw [q.out,s.out];exact hok);have g:=Zh d;clear d hok;go_wp2;go_ret;exact⟨by rw [f.out,g.out];rfl,B⟩
  ·have d:=P7 l r.out (by rw [q.out,s.out];exact hok);have g:=Zh d;clear d hok;go_wp2;exact⟨⟨a+1,by omega,tz,rfl,g.out,B⟩,nz⟩
 ·obtain rfl:a=b:=by omega
  have z:¬ (a:Int)<(a:Int):=by omega
  have d:Xu ws=true:=by have:=r.out;rwa [List.take_of_length_le (by rw [t.out];exact Nat.le_refl _)] at this
  have g:=Zh d;clear d;go_wp2;go_ret;exact⟨by rw [f.out,g.out];rfl,j⟩
def okE(pl mi:Nat):Int:=if Z8 pl mi=true then 0 else 14
section
variable (pl mi:Nat) (nt:Bool) (mn mx:Int) (n:Nat)
theorem Eo{k:Int}(h:k<0\/6<k):U7 k pl mi nt mn mx n=2:=by unfold U7;rw [if_pos h]
theorem Wu:U7 0 pl mi nt mn mx n=if pl≠0\/mi≠0\/nt=true then 2 else if n≠0 then 2 else if mn≠0\/mx≠0 then 2 else okE pl mi:=by simp [U7,okE]
theorem Ws:U7 2 pl mi nt mn mx n=if pl≠0\/mi≠0\/nt=true then 2 else if n≠0 then 2 else if mn≠0\/mx≠0 then 2 else okE pl mi:=by simp [U7,okE]
theorem Wi:U7 6 pl mi nt mn mx n=if pl≠0\/mi≠0\/nt=true then 2 else if n≠0 then 2 else if mn≠0\/mx≠0 then 2 else okE pl mi:=by simp [U7,okE]
theorem Rp:U7 1 pl mi nt mn mx n=if n≠0 then 2 else if mn≠0\/mx≠0 then 2 else okE pl mi:=by simp [U7,okE]
theorem Ft:U7 3 pl mi nt mn mx n=if pl≠0\/mi≠0\/nt=true then 2 else if mn≠0\/mx≠0 then 2 else okE pl mi:=by simp [U7,okE]
theorem Fu:U7 4 pl mi nt mn mx n=if pl≠0\/mi≠0\/nt=true then 2 else if mn≠0\/mx≠0 then 2 else okE pl mi:=by simp [U7,okE]
theorem Vc:U7 5 pl mi nt mn mx n=if pl≠0\/mi≠0\/nt=true then 2 else if n≠1\/mn<0\/32<mn\/(mx≠-1/\(mx<mn\/32<mx)) then 2 else okE pl mi:=by simp [U7,okE]
end
theorem Q7x(k:Int)(pl mi:Nat)(nt:Bool)(mn mx:Int)(ao:Option Addr)(n cap:Nat)(a0:pl<4294967296)(Y:mi<4294967296)(Z:n<=maxLen)(w:World) :
  Calls Tryz.prog 242 #[.agg #[.int .i64 k,.int .u32 (pl:Int),.int .u32 (mi:Int),.bool nt,.int .i64 mn,.int .i64 mx,.slice ao n cap]] w fun e w'=>e=.returned (.int .i64 (U7 k pl mi nt mn mx n))/\Ext w w':=by
 unfold maxLen at Z;by_cases M:k<0;case pos=>
  go_enter Tryz.func242,Tryz.ntmps242;have a:=Zh (Eo pl mi nt mn mx n (.inl M));go_wp2;go_ret;exact⟨by rw [a.out];rfl,(Q0.refl _ w).alloc _⟩
 by_cases N:6<k;case pos=>
  go_enter Tryz.func242,Tryz.ntmps242;have a:=Zh (Eo pl mi nt mn mx n (.inr N));go_wp2;go_ret;exact⟨by rw [a.out];rfl,(Q0.refl _ w).alloc _⟩
 have X:k=0\/k=1\/k=2\/k=3\/k=4\/k=5\/k=6:=by omega
 clear M N;obtain⟨B,L⟩:=zE (Z8 pl mi);have J:=fun(W:World)=>Bb pl mi a0 Y W;rw [L] at J;have C:=Zh J;have E:=Zh L;clear J L;obtain⟨b,K⟩:=zE (U7 k pl mi nt mn mx n);rw [K];have c:=Zh K;clear K;rcases X with rfl | rfl | rfl | rfl | rfl | rfl | rfl
 ·go_enter Tryz.func242,Tryz.ntmps242;by_cases l:pl=0;case pos=>
   have A:((pl:Int) == 0)=true:=by rw [beq_iff_eq];omega
   have f:=Zh l;clear l;by_cases j:mi=0;case pos=>
    have y:((mi:Int) == 0)=true:=by rw [beq_iff_eq];omega
    have d:=Zh j;clear j;cases nt;case true=>
     have a:Hid (b=2):=Zh (by rw [<-c.out];rw [Wu,if_pos (.inr (.inr rfl))]);go_wp2;go_ret;exact⟨by rw [a.out];rfl,(Q0.refl _ w).alloc _⟩
    case false=>
     by_cases r:n=0;case pos=>
      have F:¬ (0:Int)<(n:Int):=by omega
      have p:=Zh r;clear r;by_cases g:mn=0;case pos=>
       have z:(mn == 0)=true:=by rw [beq_iff_eq];exact g
       have m:=Zh g;clear g;by_cases i:mx=0;case pos=>
        have x:(mx == 0)=true:=by rw [beq_iff_eq];exact i
        have o:=Zh i;clear i;have a:Hid (b=okE pl mi):=Zh (by rw [<-c.out];rw [Wu,if_neg (by simp [f.out,d.out]),if_neg (by simp [p.out]),if_neg (by simp [m.out,o.out])]);go_wp2_with fail;refine(C.out _).mono ?_;rintro e u ⟨rfl,q⟩;have t:Ext w u:=Q0.trans ((Q0.refl _ w).alloc _) q;clear q;cases B
        all_goals
         go_wp2;go_ret;exact⟨by rw [a.out];unfold okE;rw [E.out];rfl,t⟩
       case neg=>
        have x:(mx == 0)=false:=by rw [beq_eq_false_iff_ne];exact i
        have o:=Zh i;clear i;have a:Hid (b=2):=Zh (by rw [<-c.out];rw [Wu,if_neg (by simp [f.out,d.out]),if_neg (by simp [p.out]),if_pos (.inr o.out)]);go_wp2;go_ret;exact⟨by rw [a.out];rfl,(Q0.refl _ w).alloc _⟩
      case neg=>
       have z:(mn == 0)=false:=by rw [beq_eq_false_iff_ne];exact g
       have m:=Zh g;clear g;have a:Hid (b=2):=Zh (by rw [<-c.out];rw [Wu,if_neg (by simp [f.out,d.out]),if_neg (by simp [p.out]),if_pos (.inl m.out)]);go_wp2;go_ret;exact⟨by rw [a.out];rfl,(Q0.refl _ w).alloc _⟩
     case neg=>
      have F:(0:Int)<(n:Int):=by omega
      have p:=Zh r;clear r;have a:Hid (b=2):=Zh (by rw [<-c.out];rw [Wu,if_neg (by simp [f.out,d.out]),if_pos p.out]);go_wp2;go_ret;exact⟨by rw [a.out];rfl,(Q0.refl _ w).alloc _⟩
   case neg=>
    have y:((mi:Int) == 0)=false:=by rw [beq_eq_false_iff_ne];omega
    have d:=Zh j;clear j;have a:Hid (b=2):=Zh (by rw [<-c.out];rw [Wu,if_pos (.inr (.inl d.out))]);go_wp2;go_ret;exact⟨by rw [a.out];rfl,(Q0.refl _ w).alloc _⟩
  case neg=>
   have A:((pl:Int) == 0)=false:=by rw [beq_eq_false_iff_ne];omega
   have f:=Zh l;clear l;have a:Hid (b=2):=Zh (by rw [<-c.out];rw [Wu,if_pos (.inl f.out)]);go_wp2;go_ret;exact⟨by rw [a.out];rfl,(Q0.refl _ w).alloc _⟩
 ·go_enter Tryz.func242,Tryz.ntmps242;by_cases r:n=0;case pos=>
   have F:¬ (0:Int)<(n:Int):=by omega
   have p:=Zh r;clear r;by_cases g:mn=0;case pos=>
    have z:(mn == 0)=true:=by rw [beq_iff_eq];exact g
    have m:=Zh g;clear g;by_cases i:mx=0;case pos=>
     have x:(mx == 0)=true:=by rw [beq_iff_eq];exact i
     have o:=Zh i;clear i;have a:Hid (b=okE pl mi):=Zh (by rw [<-c.out];rw [Rp,if_neg (by simp [p.out]),if_neg (by simp [m.out,o.out])]);go_wp2_with fail;refine(C.out _).mono ?_;rintro e u ⟨rfl,q⟩;have t:Ext w u:=Q0.trans ((Q0.refl _ w).alloc _) q;clear q;cases B
     all_goals
      go_wp2;go_ret;exact⟨by rw [a.out];unfold okE;rw [E.out];rfl,t⟩
    case neg=>
     have x:(mx == 0)=false:=by rw [beq_eq_false_iff_ne];exact i
     have o:=Zh i;clear i;have a:Hid (b=2):=Zh (by rw [<-c.out];rw [Rp,if_neg (by simp [p.out]),if_pos (.inr o.out)]);go_wp2;go_ret;exact⟨by rw [a.out];rfl,(Q0.refl _ w).alloc _⟩
   case neg=>
    have z:(mn == 0)=false:=by rw [beq_eq_false_iff_ne];exact g
    have m:=Zh g;clear g;have a:Hid (b=2):=Zh (by rw [<-c.out];rw [Rp,if_neg (by simp [p.out]),if_pos (.inl m.out)]);go_wp2;go_ret;exact⟨by rw [a.out];rfl,(Q0.refl _ w).alloc _⟩
  case neg=>
   have F:(0:Int)<(n:Int):=by omega
   have p:=Zh r;clear r;have a:Hid (b=2):=Zh (by rw [<-c.out];rw [Rp,if_pos p.out]);go_wp2;go_ret;exact⟨by rw [a.out];rfl,(Q0.refl _ w).alloc _⟩
 ·go_enter Tryz.func242,Tryz.ntmps242;by_cases l:pl=0;case pos=>
   have A:((pl:Int) == 0)=true:=by rw [beq_iff_eq];omega
   have f:=Zh l;clear l;by_cases j:mi=0;case pos=>
    have y:((mi:Int) == 0)=true:=by rw [beq_iff_eq];omega
    have d:=Zh j;clear j;cases nt;case true=>
     have a:Hid (b=2):=Zh (by rw [<-c.out];rw [Ws,if_pos (.inr (.inr rfl))]);go_wp2;go_ret;exact⟨by rw [a.out];rfl,(Q0.refl _ w).alloc _⟩
    case false=>
     by_cases r:n=0;case pos=>
      have F:¬ (0:Int)<(n:Int):=by omega
      have p:=Zh r;clear r;by_cases g:mn=0;case pos=>
       have z:(mn == 0)=true:=by rw [beq_iff_eq];exact g
       have m:=Zh g;clear g;by_cases i:mx=0;case pos=>
        have x:(mx == 0)=true:=by rw [beq_iff_eq];exact i
        have o:=Zh i;clear i;have a:Hid (b=okE pl mi):=Zh (by rw [<-c.out];rw [Ws,if_neg (by simp [f.out,d.out]),if_neg (by simp [p.out]),if_neg (by simp [m.out,o.out])]);go_wp2_with fail;refine(C.out _).mono ?_;rintro e u ⟨rfl,q⟩;have t:Ext w u:=Q0.trans ((Q0.refl _ w).alloc _) q;clear q;cases B
        all_goals
         go_wp2;go_ret;exact⟨by rw [a.out];unfold okE;rw [E.out];rfl,t⟩
       case neg=>
        have x:(mx == 0)=false:=by rw [beq_eq_false_iff_ne];exact i
        have o:=Zh i;clear i;have a:Hid (b=2):=Zh (by rw [<-c.out];rw [Ws,if_neg (by simp [f.out,d.out]),if_neg (by simp [p.out]),if_pos (.inr o.out)]);go_wp2;go_ret;exact⟨by rw [a.out];rfl,(Q0.refl _ w).alloc _⟩
      case neg=>
       have z:(mn == 0)=false:=by rw [beq_eq_false_iff_ne];exact g
       have m:=Zh g;clear g;have a:Hid (b=2):=Zh (by rw [<-c.out];rw [Ws,if_neg (by simp [f.out,d.out]),if_neg (by simp [p.out]),if_pos (.inl m.out)]);go_wp2;go_ret;exact⟨by rw [a.out];rfl,(Q0.refl _ w).alloc _⟩
     case neg=>
      have F:(0:Int)<(n:Int):=by omega
      have p:=Zh r;clear r;have a:Hid (b=2):=Zh (by rw [<-c.out];rw [Ws,if_neg (by simp [f.out,d.out]),if_pos p.out]);go_wp2;go_ret;exact⟨by rw [a.out];rfl,(Q0.refl _ w).alloc _⟩
   case neg=>
    have y:((mi:Int) == 0)=false:=by rw [beq_eq_false_iff_ne];omega
    have d:=Zh j;clear j;have a:Hid (b=2):=Zh (by rw [<-c.out];rw [Ws,if_pos (.inr (.inl d.out))]);go_wp2;go_ret;exact⟨by rw [a.out];rfl,(Q0.refl _ w).alloc _⟩
  case neg=>
   have A:((pl:Int) == 0)=false:=by rw [beq_eq_false_iff_ne];omega
   have f:=Zh l;clear l;have a:Hid (b=2):=Zh (by rw [<-c.out];rw [Ws,if_pos (.inl f.out)]);go_wp2;go_ret;exact⟨by rw [a.out];rfl,(Q0.refl _ w).alloc _⟩
 ·go_enter Tryz.func242,Tryz.ntmps242;by_cases l:pl=0;case pos=>
   have A:((pl:Int) == 0)=true:=by rw [beq_iff_eq];omega
   have f:=Zh l;clear l;by_cases j:mi=0;case pos=>
    have y:((mi:Int) == 0)=true:=by rw [beq_iff_eq];omega
    have d:=Zh j;clear j;cases nt;case true=>
     have a:Hid (b=2):=Zh (by rw [<-c.out];rw [Ft,if_pos (.inr (.inr rfl))]);go_wp2;go_ret;exact⟨by rw [a.out];rfl,(Q0.refl _ w).alloc _⟩
    case false=>
     by_cases g:mn=0;case pos=>
      have z:(mn == 0)=true:=by rw [beq_iff_eq];exact g
      have m:=Zh g;clear g;by_cases i:mx=0;case pos=>
       have x:(mx == 0)=true:=by rw [beq_iff_eq];exact i
       have o:=Zh i;clear i;have a:Hid (b=okE pl mi):=Zh (by rw [<-c.out];rw [Ft,if_neg (by simp [f.out,d.out]),if_neg (by simp [m.out,o.out])]);go_wp2_with fail;refine(C.out _).mono ?_;rintro e u ⟨rfl,q⟩;have t:Ext w u:=Q0.trans ((Q0.refl _ w).alloc _) q;clear q;cases B
       all_goals
        go_wp2;go_ret;exact⟨by rw [a.out];unfold okE;rw [E.out];rfl,t⟩
      case neg=>
       have x:(mx == 0)=false:=by rw [beq_eq_false_iff_ne];exact i
       have o:=Zh i;clear i;have a:Hid (b=2):=Zh (by rw [<-c.out];rw [Ft,if_neg (by simp [f.out,d.out]),if_pos (.inr o.out)]);go_wp2;go_ret;exact⟨by rw [a.out];rfl,(Q0.refl _ w).alloc _⟩
     case neg=>
      have z:(mn == 0)=false:=by rw [beq_eq_false_iff_ne];exact g
      have m:=Zh g;clear g;have a:Hid (b=2):=Zh (by rw [<-c.out];rw [Ft,if_neg (by simp [f.out,d.out]),if_pos (.inl m.out)]);go_wp2;go_ret;exact⟨by rw [a.out];rfl,(Q0.refl _ w).alloc _⟩
   case neg=>
    have y:((mi:Int) == 0)=false:=by rw [beq_eq_false_iff_ne];omega
    have d:=Zh j;clear j;have a:Hid (b=2):=Zh (by rw [<-c.out];rw [Ft,if_pos (.inr (.inl d.out))]);go_wp2;go_ret;exact⟨by rw [a.out];rfl,(Q0.refl _ w).alloc _⟩
  case neg=>
   have A:((pl:Int) == 0)=false:=by rw [beq_eq_false_iff_ne];omega
   have f:=Zh l;clear l;have a:Hid (b=2):=Zh (by rw [<-c.out];rw [Ft,if_pos (.inl f.out)]);go_wp2;go_ret;exact⟨by rw [a.out];rfl,(Q0.refl _ w).alloc _⟩
 ·go_enter Tryz.func242,Tryz.ntmps242;by_cases l:pl=0;case pos=>
   have A:((pl:Int) == 0)=true:=by rw [beq_iff_eq];omega
   have f:=Zh l;clear l;by_cases j:mi=0;case pos=>
    have y:((mi:Int) == 0)=true:=by rw [beq_iff_eq];omega
    have d:=Zh j;clear j;cases nt;case true=>
     have a:Hid (b=2):=Zh (by rw [<-c.out];rw [Fu,if_pos (.inr (.inr rfl))]);go_wp2;go_ret;exact⟨by rw [a.out];rfl,(Q0.refl _ w).alloc _⟩
    case false=>
     by_cases g:mn=0;case pos=>
      have z:(mn == 0)=true:=by rw [beq_iff_eq];exact g
      have m:=Zh g;clear g;by_cases i:mx=0;case pos=>
       have x:(mx == 0)=true:=by rw [beq_iff_eq];exact i
       have o:=Zh i;clear i;have a:Hid (b=okE pl mi):=Zh (by rw [<-c.out];rw [Fu,if_neg (by simp [f.out,d.out]),if_neg (by simp [m.out,o.out])]);go_wp2_with fail;refine(C.out _).mono ?_;rintro e u ⟨rfl,q⟩;have t:Ext w u:=Q0.trans ((Q0.refl _ w).alloc _) q;clear q;cases B
       all_goals
        go_wp2;go_ret;exact⟨by rw [a.out];unfold okE;rw [E.out];rfl,t⟩
      case neg=>
       have x:(mx == 0)=false:=by rw [beq_eq_false_iff_ne];exact i
       have o:=Zh i;clear i;have a:Hid (b=2):=Zh (by rw [<-c.out];rw [Fu,if_neg (by simp [f.out,d.out]),if_pos (.inr o.out)]);go_wp2;go_ret;exact⟨by rw [a.out];rfl,(Q0.refl _ w).alloc _⟩
     case neg=>
      have z:(mn == 0)=false:=by rw [beq_eq_false_iff_ne];exact g
      have m:=Zh g;clear g;have a:Hid (b=2):=Zh (by rw [<-c.out];rw [Fu,if_neg (by simp [f.out,d.out]),if_pos (.inl m.out)]);go_wp2;go_ret;exact⟨by rw [a.out];rfl,(Q0.refl _ w).alloc _⟩
   case neg=>
    have y:((mi:Int) == 0)=false:=by rw [beq_eq_false_iff_ne];omega
    have d:=Zh j;clear j;have a:Hid (b=2):=Zh (by rw [<-c.out];rw [Fu,if_pos (.inr (.inl d.out))]);go_wp2;go_ret;exact⟨by rw [a.out];rfl,(Q0.refl _ w).alloc _⟩
  case neg=>
   have A:((pl:Int) == 0)=false:=by rw [beq_eq_false_iff_ne];omega
   have f:=Zh l;clear l;have a:Hid (b=2):=Zh (by rw [<-c.out];rw [Fu,if_pos (.inl f.out)]);go_wp2;go_ret;exact⟨by rw [a.out];rfl,(Q0.refl _ w).alloc _⟩
 ·go_enter Tryz.func242,Tryz.ntmps242;by_cases l:pl=0;case pos=>
   have A:((pl:Int) == 0)=true:=by rw [beq_iff_eq];omega
   have f:=Zh l;clear l;by_cases j:mi=0;case pos=>
    have y:((mi:Int) == 0)=true:=by rw [beq_iff_eq];omega
    have d:=Zh j;clear j;cases nt;case true=>
     have a:Hid (b=2):=Zh (by rw [<-c.out];rw [Vc,if_pos (.inr (.inr rfl))]);go_wp2;go_ret;exact⟨by rw [a.out];rfl,(Q0.refl _ w).alloc _⟩
    case false=>
     by_cases H:n=1;case pos=>
      subst H;have H:(1:Nat)=1:=rfl;have s:=Zh H;clear H;by_cases O:mn<0;case pos=>
       have S:=Zh O;have a:Hid (b=2):=Zh (by rw [<-c.out];rw [Vc,if_neg (by simp [f.out,d.out]),if_pos (by first | omega | (have v:=s.out;omega) | (have v:=s.out;have G:=D.out;omega))]);go_wp2;go_ret;exact⟨by rw [a.out];rfl,(Q0.refl _ w).alloc _⟩
      case neg=>
       have S:=Zh O;by_cases P:32<mn;case pos=>
        have T:=Zh P;have a:Hid (b=2):=Zh (by rw [<-c.out];rw [Vc,if_neg (by simp [f.out,d.out]),if_pos (by first | omega | (have v:=s.out;omega) | (have v:=s.out;have G:=D.out;omega))]);go_wp2;go_ret;exact⟨by rw [a.out];rfl,(Q0.refl _ w).alloc _⟩
       case neg=>
        have T:=Zh P;by_cases I:mx=-1;case pos=>
         have x:(mx == -1)=true:=by rw [beq_iff_eq];exact I
         have D:=Zh I;clear I;have a:Hid (b=okE pl mi):=Zh (by rw [<-c.out];rw [Vc,if_neg (by simp [f.out,d.out]),if_neg (by first | omega | (have v:=s.out;omega) | (have v:=s.out;have G:=D.out;omega))]);go_wp2_with fail;refine(C.out _).mono ?_;rintro e u ⟨rfl,q⟩;have t:Ext w u:=Q0.trans ((Q0.refl _ w).alloc _) q;clear q;cases B
         all_goals
          go_wp2;go_ret;exact⟨by rw [a.out];unfold okE;rw [E.out];rfl,t⟩
        case neg=>
         have x:(mx == -1)=false:=by rw [beq_eq_false_iff_ne];exact I
         have D:=Zh I;clear I;by_cases Q:mx<mn;case pos=>
          have U:=Zh Q;have a:Hid (b=2):=Zh (by rw [<-c.out];rw [Vc,if_neg (by simp [f.out,d.out]),if_pos (by first | omega | (have v:=s.out;omega) | (have v:=s.out;have G:=D.out;omega))]);go_wp2;go_ret;exact⟨by rw [a.out];rfl,(Q0.refl _ w).alloc _⟩
         case neg=>
          have U:=Zh Q;by_cases R:32<mx;case pos=>
           have V:=Zh R;have a:Hid (b=2):=Zh (by rw [<-c.out];rw [Vc,if_neg (by simp [f.out,d.out]),if_pos (by first | omega | (have v:=s.out;omega) | (have v:=s.out;have G:=D.out;omega))]);go_wp2;go_ret;exact⟨by rw [a.out];rfl,(Q0.refl _ w).alloc _⟩
          case neg=>
           have V:=Zh R;have a:Hid (b=okE pl mi):=Zh (by rw [<-c.out];rw [Vc,if_neg (by simp [f.out,d.out]),if_neg (by first | omega | (have v:=s.out;omega) | (have v:=s.out;have G:=D.out;omega))]);go_wp2_with fail;refine(C.out _).mono ?_;rintro e u ⟨rfl,q⟩;have t:Ext w u:=Q0.trans ((Q0.refl _ w).alloc _) q;clear q;cases B
           all_goals
            go_wp2;go_ret;exact⟨by rw [a.out];unfold okE;rw [E.out];rfl,t⟩
     case neg=>
      have F:((n:Int) == 1)=false:=by rw [beq_eq_false_iff_ne];omega
      have a1:¬ (n:Int)=1:=by omega
      have s:=Zh H;clear H;have a:Hid (b=2):=Zh (by rw [<-c.out];rw [Vc,if_neg (by simp [f.out,d.out]),if_pos (by first | omega | (have v:=s.out;omega) | (have v:=s.out;have G:=D.out;omega))]);go_wp2;go_ret;exact⟨by rw [a.out];rfl,(Q0.refl _ w).alloc _⟩
   case neg=>
    have y:((mi:Int) == 0)=false:=by rw [beq_eq_false_iff_ne];omega
    have d:=Zh j;clear j;have a:Hid (b=2):=Zh (by rw [<-c.out];rw [Vc,if_pos (.inr (.inl d.out))]);go_wp2;go_ret;exact⟨by rw [a.out];rfl,(Q0.refl _ w).alloc _⟩
  case neg=>
   have A:((pl:Int) == 0)=false:=by rw [beq_eq_false_iff_ne];omega
   have f:=Zh l;clear l;have a:Hid (b=2):=Zh (by rw [<-c.out];rw [Vc,if_pos (.inl f.out)]);go_wp2;go_ret;exact⟨by rw [a.out];rfl,(Q0.refl _ w).alloc _⟩
 ·go_enter Tryz.func242,Tryz.ntmps242;by_cases l:pl=0;case pos=>
   have A:((pl:Int) == 0)=true:=by rw [beq_iff_eq];omega
   have f:=Zh l;clear l;by_cases j:mi=0;case pos=>
    have y:((mi:Int) == 0)=true:=by rw [beq_iff_eq];omega
    have d:=Zh j;clear j;cases nt;case true=>
     have a:Hid (b=2):=Zh (by rw [<-c.out];rw [Wi,if_pos (.inr (.inr rfl))]);go_wp2;go_ret;exact⟨by rw [a.out];rfl,(Q0.refl _ w).alloc _⟩
    case false=>
     by_cases r:n=0;case pos=>
      have F:¬ (0:Int)<(n:Int):=by omega
      have p:=Zh r;clear r;by_cases g:mn=0;case pos=>
       have z:(mn == 0)=true:=by rw [beq_iff_eq];exact g
       have m:=Zh g;clear g;by_cases i:mx=0;case pos=>
        have x:(mx == 0)=true:=by rw [beq_iff_eq];exact i
        have o:=Zh i;clear i;have a:Hid (b=okE pl mi):=Zh (by rw [<-c.out];rw [Wi,if_neg (by simp [f.out,d.out]),if_neg (by simp [p.out]),if_neg (by simp [m.out,o.out])]);go_wp2_with fail;refine(C.out _).mono ?_;rintro e u ⟨rfl,q⟩;have t:Ext w u:=Q0.trans ((Q0.refl _ w).alloc _) q;clear q;cases B
        all_goals
         go_wp2;go_ret;exact⟨by rw [a.out];unfold okE;rw [E.out];rfl,t⟩
       case neg=>
        have x:(mx == 0)=false:=by rw [beq_eq_false_iff_ne];exact i
        have o:=Zh i;clear i;have a:Hid (b=2):=Zh (by rw [<-c.out];rw [Wi,if_neg (by simp [f.out,d.out]),if_neg (by simp [p.out]),if_pos (.inr o.out)]);go_wp2;go_ret;exact⟨by rw [a.out];rfl,(Q0.refl _ w).alloc _⟩
      case neg=>
       have z:(mn == 0)=false:=by rw [beq_eq_false_iff_ne];exact g
       have m:=Zh g;clear g;have a:Hid (b=2):=Zh (by rw [<-c.out];rw [Wi,if_neg (by simp [f.out,d.out]),if_neg (by simp [p.out]),if_pos (.inl m.out)]);go_wp2;go_ret;exact⟨by rw [a.out];rfl,(Q0.refl _ w).alloc _⟩
     case neg=>
      have F:(0:Int)<(n:Int):=by omega
      have p:=Zh r;clear r;have a:Hid (b=2):=Zh (by rw [<-c.out];rw [Wi,if_neg (by simp [f.out,d.out]),if_pos p.out]);go_wp2;go_ret;exact⟨by rw [a.out];rfl,(Q0.refl _ w).alloc _⟩
   case neg=>
    have y:((mi:Int) == 0)=false:=by rw [beq_eq_false_iff_ne];omega
    have d:=Zh j;clear j;have a:Hid (b=2):=Zh (by rw [<-c.out];rw [Wi,if_pos (.inr (.inl d.out))]);go_wp2;go_ret;exact⟨by rw [a.out];rfl,(Q0.refl _ w).alloc _⟩
  case neg=>
   have A:((pl:Int) == 0)=false:=by rw [beq_eq_false_iff_ne];omega
   have f:=Zh l;clear l;have a:Hid (b=2):=Zh (by rw [<-c.out];rw [Wi,if_pos (.inl f.out)]);go_wp2;go_ret;exact⟨by rw [a.out];rfl,(Q0.refl _ w).alloc _⟩
theorem Q7l(p:Pat)(l:List Pat)(n:Nat):Xj (p::l) n=Rm (Yn p n) (Xj l):=by rw [Xj]
theorem Qd7(p:Pat)(n:Nat):Yn p n=if n=40 then(n,12) else if Yo p=0 then Xj p.l (n+1) else(n,Yo p):=by cases p;rw [Yn];rfl
theorem Qdi{p:Pat}{n:Nat}(h:n<=40):(Yn p n).1<=40:=(Dq p n [] h).1.1
def Tq(p:Pat):Prop:=∀(K:Nat->Prop) (w:World) (cs:List Value) (n:Nat),Qm K w p cs->n<=40 ->
 Calls Tryz.prog 204 #[.agg cs.toArray,.int .i64 n] w fun e w'=>e=.returned (.tuple #[.int .i64 ((Yn p n).1:Int),.int .i64 (Yn p n).2])/\Ext w w'
theorem Q9m(k:Int)(pl mi:Nat)(nt:Bool)(mn mx:Int)(l:List Pat)(a7:∀ p∈l,Tq p):Tq (.node k pl mi nt mn mx l):=by
 intro b2 q c6 e a2 d4;unfold Qm at a2;obtain⟨S,T,rfl,a3,a1,K,H,Y⟩:=a2;have B:=fun(V:World)=>Q7x k pl mi nt mn mx S l.length T a3 a1 (Nat.le_trans K H) V;have Z:l.length<=maxLen:=Nat.le_trans K H;unfold maxLen at Z;rw [<-Q67] at B;have d:=Zh (Qd7 (.node k pl mi nt mn mx l) e);obtain⟨r,a6⟩:=zE (Yo (.node k pl mi nt mn mx l));rw [a6] at d B;obtain⟨m,G⟩:=zE l.length;obtain⟨Q,a9,R,b1⟩:=Zh4 G Y B a7;unfold Qd;rw [G] at R Z ⊢;clear Y B a7 a6 G K H a3 a1;obtain⟨g,i,W⟩:∃ a b,Yn (.node k pl mi nt mn mx l) e=(a,b):=⟨_,_,rfl⟩;rw [W] at d ⊢;clear W;change Hid ((g,i)=if e=40 then(e,12) else if r=0 then Xj l (e+1) else(e,r)) at d;show Calls Tryz.prog 204 _ q fun E w'=>E=.returned (.tuple #[.int .i64 (g:Int),.int .i64 i])/\Ext q w'
 by_cases F:e=40
 ·subst F;have f:g=40/\i=12:=by have:=d.out;rw [if_pos rfl] at this;exact⟨congrArg Prod.fst this,congrArg Prod.snd this⟩
  obtain⟨rfl,rfl⟩:=f;clear d;go_enter Tryz.func204,Tryz.ntmps204;go_wp2;exact bodyPost_ret (Zx rfl _ _ _) rfl ⟨rfl,(Q0.refl _ q).alloc _⟩
 have c8:((e:Int) == 40)=false:=by rw [beq_eq_false_iff_ne];omega
 have d5:e<40:=by omega
 rw [if_neg F] at d;clear F;go_enter Tryz.func204,Tryz.ntmps204;go_wp2_with fail;refine(R.out _).mono ?_;rintro E O ⟨rfl,t⟩;have A:Ext q O:=Q0.trans ((Q0.refl _ q).alloc _) t;have o:O.heap[q.heap.size]?=some (.cells #[.int .i64 k,.int .u32 (pl:Int),.int .u32 (mi:Int),.bool nt,.int .i64 mn,.int .i64 mx,.slice S m T] 98 (0,0)):=t.keep (Q3 rfl);clear t;by_cases x:r=0;case neg=>
  have d0:(r == 0)=false:=by rw [beq_eq_false_iff_ne];exact x
  rw [if_neg x] at d;have f:g=e/\i=r:=⟨congrArg Prod.fst d.out,congrArg Prod.snd d.out⟩;obtain⟨rfl,rfl⟩:=f;clear d x o;go_wp2;exact bodyPost_ret (Zx rfl _ _ _) rfl ⟨rfl,A⟩
 rw [if_pos x] at d;subst x;generalize q.heap.size=a8 at o ⊢;have b0:=Zh o;clear o;go_wp2
 refine wp_loop (fun a D=>∃(c n:Nat),c<=m/\n<=40/\Xj (l.drop c) n=(g,i)/\a.defers=[]/\gS a [2,7,8]=(42,[.pointer (some ⟨a8,0,none⟩),.int .i64 n,.int .i64 c])/\Ext O D)
  (fun a _=>m - (intOf (a.tmps.getD 8 undef)).toNat) ?_ ?_
 ·exact⟨0,e+1,by omega,by omega,d.out.symm,rfl,(Prod.ext rfl (lE rfl (lE (by go_num) rfl))),Q0.refl _ _⟩
 clear d;rintro⟨d9,_⟩ D ⟨c,n,d3,a0,f,c3,a4,u⟩;subst c3;obtain⟨e0,rfl⟩:=Qj a4;clear a4;have d:=Zh f;clear f;have o:=u.keep b0.out;have c1:=zR o;by_cases c4:c<m
 ·have c2:(c:Int)<(m:Int):=by omega
  have J:c<l.length:=by rw [Q.out];exact c4
  obtain⟨c7,d6,b3,rfl,d1,d2,N,M⟩:=(a9.out.ext (A.trans u)).get c J;rw [Nat.zero_add] at N;obtain⟨d8,d7,I,_,_,_⟩:=Zc M;obtain⟨b4,b5,b6,b7,b8,b9,c0⟩:=Xn N I;have v:=b1.out _ (List.getElem_mem J) b2 D b3 n M a0;have X:l.drop c=l[c]::l.drop (c+1):=List.drop_eq_getElem_cons J;have C:Rm (Yn l[c] n) (Xj (l.drop (c+1)))=(g,i):=by rw [<-Q7l,<-X];exact d.out
  have L:=Qdi (p:=l[c]) a0;obtain⟨y,z,a5⟩:∃ a b,Yn l[c] n=(a,b):=⟨_,_,rfl⟩;rw [a5] at v C L;change y<=40 at L;change (if z=0 then Xj (l.drop (c+1)) y else(y,z))=(g,i) at C;rw [I] at v;unfold Qd at v;have P:=Zh v;have s:=Zh C;clear v N M I X C a5 o;go_wp2_with fail;refine P.out.mono ?_;rintro E c5 ⟨rfl,t⟩;have U:=u.trans t;clear u t b4 b5 b6 b7 b8 b9 c0 P c1;by_cases w:z=0
  ·rw [if_pos w] at s;subst w;go_wp2;exact⟨⟨c+1,y,by omega,L,s.out,tz,rfl,U⟩,nz⟩
  ·have c9:(z == 0)=false:=by rw [beq_eq_false_iff_ne];exact w
   rw [if_neg w] at s;have f:g=y/\i=z:=⟨(congrArg Prod.fst s.out).symm,(congrArg Prod.snd s.out).symm⟩;obtain⟨rfl,rfl⟩:=f;clear w s;go_wp2;exact bodyPost_ret (Zx rfl _ _ _) rfl ⟨rfl,A.trans U⟩
 ·obtain rfl:c=m:=by omega
  have c2:¬ (c:Int)<(c:Int):=by omega
  have f:g=n/\i=0:=by
   have:=d.out;rw [List.drop_of_length_le (by rw [Q.out];exact Nat.le_refl _),Xj] at this;exact⟨(congrArg Prod.fst this).symm,(congrArg Prod.snd this).symm⟩
  obtain⟨rfl,rfl⟩:=f;clear d;go_wp2;exact bodyPost_ret (Zx rfl _ _ _) rfl ⟨rfl,A.trans u⟩
mutual
theorem Q40:∀ p:Pat,Tq p
 | .node k pl mi nt mn mx l=>Q9m k pl mi nt mn mx l (Ep l)
theorem Ep:∀ l:List Pat,∀ p∈l,Tq p
 | [],_,h=>by cases h
 | q::l,p,h=>(List.mem_cons.1 h).elim (fun e=>e ▸ Q40 q) (fun h=>Ep l p h)
end
theorem Lm{K:Nat->Prop}{w:World}{p:Pat}{cs:List Value}(j:Qm K w p cs) :
  Calls Tryz.prog 182 #[.agg cs.toArray] w fun e w'=>e=.returned (.int .i64 (Zw p))/\Ext w w':=by
 have f:Ext w (w.alloc (.cells cs.toArray 98)):=(Q0.refl _ w).alloc _;have a:=Q40 p K _ cs 0 (j.ext f) oz;rw [Bp] at a;obtain⟨q,o,i,_,_,_⟩:=Zc j;rw [i] at a ⊢;unfold Qd at a ⊢;obtain⟨n,g⟩:=zE ((Yn p 0).1);obtain⟨r,c⟩:=zE (Zw p);rw [g,c] at a;rw [c];have k:=Zh a;clear a i f g c;go_enter Tryz.func182,Tryz.ntmps182;go_wp2_with fail;refine k.out.mono ?_;rintro e m ⟨rfl,d⟩;have l:Ext w m:=Q0.trans ((Q0.refl _ w).alloc _) d;clear d;go_wp2;go_ret;exact⟨rfl,l⟩
theorem Si{K:Nat->Prop}{w:World}{p:Pat}{cs:List Value}{v:Value}{ws:Wd}(q:Qm K w p cs)(j:Q6 w v ws) :
  Calls Tryz.prog 303 #[.agg cs.toArray,v] w fun e w'=>e=.returned (.int .i64 (Jd p ws))/\Ext w w':=by
 have l:Ext w (w.alloc (.cells cs.toArray 98)):=(Q0.refl _ w).alloc _;have d:=Lm (q.ext l);have g:=fun(V:World) (a:Ext w V)=>W6 (j.ext a);have c:Hid (Jd p ws=if Zw p=0 then wE ws else Zw p):=Zh (by unfold Jd wE;rfl);obtain⟨E,D,n,_,_,_⟩:=Zc q;obtain⟨B,A,rfl,_⟩:=j.slice;rw [n] at d ⊢;unfold Qd at d ⊢;obtain⟨z,m⟩:=zE (wE ws);obtain⟨t,r⟩:=zE (Zw p);obtain⟨s,o⟩:=zE ws.length;rw [r] at d c;rw [m] at g c;rw [o] at g ⊢;have k:=Zh d;have u:=Zh g;clear d n l m r g o j;go_enter Tryz.func303,Tryz.ntmps303;go_wp2_with fail;refine k.out.mono ?_;rintro e y ⟨rfl,a⟩;have i:Ext w y:=Q0.trans ((Q0.refl _ w).alloc _) a;clear a k;by_cases f:t=0
 ·rw [if_pos f] at c;subst f;go_wp2_with fail;refine(u.out _ i).mono ?_;rintro e F ⟨rfl,a⟩;have x:=i.trans a;clear a;go_wp2;go_ret;exact⟨by rw [c.out];rfl,x⟩
 ·rw [if_neg f] at c;have C:(t == 0)=false:=by rw [beq_eq_false_iff_ne];exact f
  clear f;go_wp2;go_ret;exact⟨by rw [c.out];rfl,i⟩
theorem Em(p:Pat)(l:List Pat)(n:Nat):Gx (p::l) n=if n<=40 then Gx l (Vr p n) else n:=by rw [Gx]
theorem Qer(p:Pat)(n:Nat):Vr p n=Gx p.l (n+1):=by cases p;rw [Vr];rfl
theorem Qev{p:Pat}{n:Nat}(h:n<=40):Vr p n<=41:=(Cw p n [] h).1.1
def Rv(p:Pat):Prop:=∀(K:Nat->Prop) (w:World) (cs:List Value) (n:Nat),Qm K w p cs->n<=40 ->
 Calls Tryz.prog 141 #[.agg cs.toArray,.int .i64 n] w fun e w'=>e=.returned (.int .i64 (Vr p n:Int))/\Ext w w'
theorem Q6l(k:Int)(pl mi:Nat)(nt:Bool)(mn mx:Int)(l:List Pat)(T:∀ p∈l,Rv p):Rv (.node k pl mi nt mn mx l):=by
 intro Z f b9 n P c6;unfold Qm at P;obtain⟨q,r,rfl,b5,b4,M,K,L⟩:=P;have O:l.length<=maxLen:=Nat.le_trans M K;unfold maxLen at O;have v:=Qer (.node k pl mi nt mn mx l) n;change Vr (.node k pl mi nt mn mx l) n=Gx l (n+1) at v;obtain⟨o,J⟩:=zE (Vr (.node k pl mi nt mn mx l) n);rw [J] at v ⊢;obtain⟨d,x⟩:=zE l.length;obtain⟨G,V,Y,H⟩:=Zh4 x L T v;unfold Qd;rw [x] at O ⊢;clear L T x M K b5 b4 J v;go_enter Tryz.func141,Tryz.ntmps141;go_wp2;have e:(f.alloc (.cells #[.int .i64 k,.int .u32 (pl:Int),.int .u32 (mi:Int),.bool nt,.int .i64 mn,.int .i64 mx,.slice q d r] 98)).heap[f.heap.size]?=some (.cells #[.int .i64 k,.int .u32 (pl:Int),.int .u32 (mi:Int),.bool nt,.int .i64 mn,.int .i64 mx,.slice q d r] 98 (0,0)):=Q3 rfl;have s:Ext f (f.alloc (.cells #[.int .i64 k,.int .u32 (pl:Int),.int .u32 (mi:Int),.bool nt,.int .i64 mn,.int .i64 mx,.slice q d r] 98)):=(Q0.refl _ f).alloc _;generalize (f.alloc (.cells #[.int .i64 k,.int .u32 (pl:Int),.int .u32 (mi:Int),.bool nt,.int .i64 mn,.int .i64 mx,.slice q d r] 98))=b6 at e s ⊢;generalize f.heap.size=U at e ⊢;have X:=Zh e;clear e
 refine wp_loop (fun a w=>∃(b c:Nat),b<=d/\c<=41/\Gx (l.drop b) c=o/\a.defers=[]/\gS a [2,5,6]=(28,[.pointer (some ⟨U,0,none⟩),.int .i64 c,.int .i64 b])/\Ext b6 w)
  (fun a _=>d - (intOf (a.tmps.getD 6 undef)).toNat) ?_ ?_
 ·exact⟨0,n+1,by omega,by omega,H.out.symm,rfl,(Prod.ext rfl (lE rfl (lE (by go_num) rfl))),Q0.refl _ _⟩
 clear H;rintro⟨d0,_⟩ w ⟨b,c,c4,c5,R,b2,Q,g⟩;subst b2;obtain⟨d1,rfl⟩:=Qj Q;clear Q;have i:=Zh R;clear R;have e:=g.keep X.out;have a8:=zR e;by_cases b3:b<d
 ·have a9:(b:Int)<(d:Int):=by omega
  have A:b<l.length:=by rw [G.out];exact b3
  have t:l.drop b=l[b]::l.drop (b+1):=List.drop_eq_getElem_cons A;by_cases u:c<=40
  ·have b0:(c:Int)<=40:=by omega
   obtain⟨c1,c7,a0,rfl,c2,c3,D,C⟩:=(V.out.ext (s.trans g)).get b A;rw [Nat.zero_add] at D;obtain⟨c9,c8,y,_,_,_⟩:=Zc C;obtain⟨a1,a2,a3,a4,a5,a6,a7⟩:=Xn D y;have m:=Y.out _ (List.getElem_mem A) Z w a0 c C u;have B:Gx (l.drop (b+1)) (Vr l[b] c)=o:=by
    have:=i.out;rw [t,Em,if_pos u] at this;exact this
   have N:=Qev (p:=l[b]) u;obtain⟨b7,S⟩:=zE (Vr l[b] c);rw [S] at m B N;rw [y] at m;unfold Qd at m;have F:=Zh m;have W:=Zh B;clear m D C y t B S e;go_wp2_with fail;refine F.out.mono ?_;rintro c0 b8 ⟨rfl,I⟩;have b1:=g.trans I;clear g I a1 a2 a3 a4 a5 a6 a7 F a8;go_wp2;exact⟨⟨b+1,b7,by omega,N,W.out,tz,rfl,b1⟩,nz⟩
  ·have b0:¬ (c:Int)<=40:=by omega
   have E:c=o:=by
    have:=i.out;rw [t,Em,if_neg u] at this;exact this
   subst E;clear i t;go_wp2;go_ret;exact⟨rfl,s.trans g⟩
 ·obtain rfl:b=d:=by omega
  have a9:¬ (b:Int)<(b:Int):=by omega
  have E:c=o:=by
   have:=i.out;rw [List.drop_of_length_le (by rw [G.out];exact Nat.le_refl _),Gx] at this;exact this
  subst E;clear i;go_wp2;go_ret;exact⟨rfl,s.trans g⟩
mutual
theorem El:∀ p:Pat,Rv p
 | .node k pl mi nt mn mx l=>Q6l k pl mi nt mn mx l (Cd l)
theorem Cd:∀ l:List Pat,∀ p∈l,Rv p
 | [],_,h=>by cases h
 | q::l,p,h=>(List.mem_cons.1 h).elim (fun e=>e ▸ El q) (fun h=>Cd l p h)
end
theorem Wx{K:Nat->Prop}{w:World}{p:Pat}{cs:List Value}(g:Qm K w p cs) :
  Calls Tryz.prog 91 #[.agg cs.toArray] w fun e w'=>e=.returned (.int .i64 (W8 p:Int))/\Ext w w':=by
 have d:Ext w (w.alloc (.cells cs.toArray 98)):=(Q0.refl _ w).alloc _;have a:=El p K _ cs 0 (g.ext d) oz;rw [Q9t] at a;obtain⟨n,m,f,_,_,_⟩:=Zc g;rw [f] at a ⊢;unfold Qd at a ⊢;obtain⟨o,i⟩:=zE (W8 p);rw [i] at a ⊢;have j:=Zh a;clear a f d i;go_enter Tryz.func91,Tryz.ntmps91;go_wp2_with fail;refine j.out.mono ?_;rintro e l ⟨rfl,c⟩;have k:Ext w l:=Q0.trans ((Q0.refl _ w).alloc _) c;clear c;go_wp2;go_ret;exact⟨rfl,k⟩
theorem Tryz.infoU:(Tryz.prog.info? 183).map (fun i=>(i.zero,i.size,i.bytes))=some (some (.int .u64 0),1,8):=by kernel_rfl
def Zj(n:Nat)(f:Nat->Nat):List Value:=(List.range n).map fun a=>Value.int .u64 (f a:Int)
theorem De(n:Nat)(f:Nat->Nat):(Zj n f).length=n:=by simp [Zj]
theorem Jw{n a:Nat}(f:Nat->Nat)(h:a<n):(Zj n f)[a]?=some (.int .u64 (f a:Int)):=by simp [Zj,h]
theorem Qn{n:Nat}{f g:Nat->Nat}(h:∀ a,a<n->f a=g a):Zj n f=Zj n g:=List.map_congr_left fun a ha=>by rw [h a (List.mem_range.1 ha)]
def Gd(f:Nat->Nat)(k v:Nat):Nat->Nat:=fun i=>if i=k then v else f i
theorem Kz(n:Nat)(f:Nat->Nat)(k v:Nat):(Zj n f).set k (.int .u64 (v:Int))=Zj n (Gd f k v):=by
 apply List.ext_getElem?;intro c;rw [List.getElem?_set];by_cases b:c<n
 ·rw [Jw _ b,Jw _ b];unfold Gd;by_cases a:k=c
  ·subst a;rw [if_pos rfl,if_pos (by rw [De];exact b),if_pos rfl]
  ·rw [if_neg a,if_neg (fun h=>a h.symm)]
 ·have d:∀ f:Nat->Nat,(Zj n f)[c]?=none:=fun f=>List.getElem?_eq_none (by rw [De];omega);rw [d,d]
  split
  ·rename_i a;subst a;rw [if_neg (by rw [De];exact b)]
  ·rfl
theorem Ub(n:Nat):List.replicate n (Value.int .u64 0)=Zj n (fun _=>0):=by
 apply List.ext_getElem?;intro b;by_cases a:b<n
 ·rw [Jw _ a];simp [a]
 ·rw [List.getElem?_eq_none (by simpa using Nat.le_of_not_lt a),List.getElem?_eq_none (by rw [De];omega)]
def Y9(w:World)(u:Value)(n:Nat)(f:Nat->Nat):Prop:=∃ g cap,u=.slice (some ⟨g,0,none⟩) n cap/\g<w.heap.size/\∀ a,a<n->w.cell? ⟨g,a,none⟩=some (.int .u64 (f a:Int))
theorem Y9.keep{S:Nat->Prop}{A B:World}{u:Value}{n:Nat}{f:Nat->Nat}(h:Y9 A u n f)(b:Q0 S A B)(d:∀ g,u.ownBlock=some g->¬ S g):Y9 B u n f:=by
 obtain⟨g,c,rfl,i,e⟩:=h;exact⟨g,c,rfl,Nat.lt_of_lt_of_le i b.size,fun a ha=>b.cell_some (e a ha) (d g rfl)⟩
theorem Y9.ext{A B:World}{u:Value}{n:Nat}{f:Nat->Nat}(h:Y9 A u n f)(ht:Ext A B):Y9 B u n f:=h.keep ht fun _ _ h=>h
theorem Y9.own{w:World}{base:Nat}{t:TypeId}{u:Value}{n:Nat}{f:Nat->Nat}(h:w.ownsRow base t 1 u (n+1) (Zj (n+1) f)):Y9 w u (n+1) f:=by
 rcases h.2 with ⟨_,e⟩ | ⟨c,b,g,rfl,_,d,_⟩
 ·simp at e
 ·exact⟨c,b,rfl,(Array.getElem?_eq_some_iff.1 d).1,fun a ha=>by rw [h.cellAt a oz,Jw _ ha]⟩
theorem Q3e(n:Nat)(G:n<=32)(w:World) :
  Calls Tryz.prog 308 #[.int .i64 n] w fun e w'=>∃ u,e=.returned u/\w'.ownsRow w.heap.size 183 1 u (n+1) (Zj (n+1) (Q2 (idB n)))/\Ext w w':=by
 go_enter Tryz.func308,Tryz.ntmps308
 go_wp2_with (at_make;refine Jj rfl (.tmp 6) (.tmp 6) 374 rfl w.heap.size 183 _ 8 Tryz.underlying374 Tryz.infoU rfl .i64 .i64 ((n:Int)+1) ((n:Int)+1) (n+1) rfl rfl oz oz ?c1 ?c2 (Nat.le_refl _) ?_)
 case c1=>omega
 case c2=>unfold maxLen;omega
 intro O b v;obtain⟨c,q⟩:=zE w.heap.size;rw [q] at b ⊢;rw [Ub,show Zj (n+1) (fun _=>0)=Zj (n+1) (fun a=>if a<0 then 2 ^ a else 0) from Qn fun a _=>by simp] at b;have f:=Zh q;clear q;go_wp2
 refine wp_loop (fun a d=>∃(k:Nat),k<=n+1/\a.defers=[]/\(a.tmps.size=19/\a.tmps.getD 0 undef=.int .i64 n/\a.tmps.getD 3 undef=.slice (some ⟨c,0,none⟩) (n+1) (n+1)/\a.tmps.getD 4 undef=.int .i64 k)/\d.ownsRow c 183 1 (.slice (some ⟨c,0,none⟩) (n+1) (n+1)) (n+1) (Zj (n+1) (fun a=>if a<k then 2 ^ a else 0))/\Ext w d)
  (fun a _=>n+1 - (intOf (a.tmps.getD 4 undef)).toNat) ?_ ?_
 ·exact⟨0,by omega,rfl,⟨rfl,rfl,rfl,rfl⟩,b,v⟩
 clear b v;rintro⟨I,_⟩ d ⟨k,M,E,⟨z,j,l,m⟩,b,o⟩;subst E;obtain⟨J,A⟩:=Qv z;obtain⟨u,rfl⟩:∃ x,x=J:=⟨_,rfl⟩;have H:I=#[u 0,u 1,u 2,u 3,u 4,u 5,u 6,u 7,u 8,u 9,u 10,u 11,u 12,u 13,u 14,u 15,u 16,u 17,u 18]:=A;clear A;subst H;change u 0=_ at j;change u 3=_ at l;change u 4=_ at m;rw [j,l,m];clear j l m z;by_cases F:k<n+1
 ·have D:(k:Int)<=(n:Int):=by omega
  have K:(k:Int)<(n:Int)+1:=by omega
  have L:(k:Int)<64:=by omega
  have N:=Hi (k:=k) oz;have c1:d.cell? ⟨c,k,none⟩=some (.int .u64 ((if k<k then 2 ^ k else 0:Nat):Int)):=by rw [b.cellAt k oz,Jw _ F]
  rw [if_neg (Nat.lt_irrefl k)] at c1;have c2:d.frozen? ⟨c,k,none⟩=false:=b.frozenAt k;have r:=Yd b k (.int .u64 ((2 ^ k:Nat):Int))
  rw [Kz,Qn (g:=fun a=>if a<k+1 then 2 ^ a else 0) (fun i _=>by
   unfold Gd;by_cases e:i=k
   ·subst e;simp
   ·rw [if_neg e];show (if i<k then 2 ^ i else 0)=_;by_cases t:i<k
    ·rw [if_pos t,if_pos oz]
    ·rw [if_neg t,if_neg oz])] at r
  have y:Ext w (d.setCell ⟨c,k,none⟩ (.int .u64 ((2 ^ k:Nat):Int))):=o.setCell (p:=⟨c,k,none⟩) (.inl (by rw [f.out];exact Nat.le_refl c)) _;have C:=Zh r;have B:=Zh y;clear r y b o;go_wp2;exact⟨⟨k+1,by omega,tz,⟨rfl,rfl,rfl,rfl⟩,C.out,B.out⟩,nz⟩
 ·obtain rfl:k=n+1:=by omega
  have D:¬ (((n+1:Nat):Int)<=(n:Int)):=by omega
  rw [Qn (g:=Q2 (idB n)) (fun a ha=>by rw [if_pos ha,Co G oz])] at b;rw [<-f.out] at b;have s:=Zh b;clear b;go_wp2;go_ret;rw [f.out] at s;exact⟨_,rfl,by rw [f.out];exact s.out,o⟩
theorem Q1v{n:Nat}{w:World}{x y:Value}{f g:Nat->Nat}(b0:n<=32)(a3:Y9 w x (n+1) f) (a4:Y9 w y (n+1) g) (H:∀ a,f a<8589934592) (J:∀ a,g a<8589934592) :
  Calls Tryz.prog 310 #[x,y] w fun e w'=>∃ u,e=.returned u/\w'.ownsRow w.heap.size 183 1 u (n+1) (Zj (n+1) (fun a=>f a ||| g a))/\Ext w w':=by
 obtain⟨Y,S,rfl,_,F⟩:=a3;obtain⟨Z,T,rfl,_,G⟩:=a4;obtain⟨Q,R,O,P⟩:=Zh4 F G H J;clear F G H J;go_enter Tryz.func310,Tryz.ntmps310
 go_wp2_with (at_make;refine Jj rfl (.tmp 8) (.tmp 8) 374 rfl w.heap.size 183 _ 8 Tryz.underlying374 Tryz.infoU rfl .i64 .i64 _ _ (n+1) rfl rfl zq zq ?c1 ?c2 (Nat.le_refl _) ?_)
 case c1=>omega
 case c2=>unfold maxLen;omega
 intro b1 c E;obtain⟨d,B⟩:=zE w.heap.size;rw [B] at c ⊢;rw [Ub,show Zj (n+1) (fun _=>0)=Zj (n+1) (fun a=>if a<0 then f a ||| g a else 0) from Qn fun a _=>by simp] at c;have o:=Zh B;clear B;go_wp2
 refine wp_loop (fun a j=>∃(b:Nat),b<=n+1/\a.defers=[]/\(a.tmps.size=29/\a.tmps.getD 0 undef=.slice (some ⟨Y,0,none⟩) (n+1) S/\a.tmps.getD 1 undef=.slice (some ⟨Z,0,none⟩) (n+1) T/\a.tmps.getD 5 undef=.slice (some ⟨d,0,none⟩) (n+1) (n+1)/\a.tmps.getD 6 undef=.int .i64 b)/\j.ownsRow d 183 1 (.slice (some ⟨d,0,none⟩) (n+1) (n+1)) (n+1) (Zj (n+1) (fun a=>if a<b then f a ||| g a else 0))/\Ext w j)
  (fun a _=>n+1 - (intOf (a.tmps.getD 6 undef)).toNat) ?_ ?_
 ·exact⟨0,by omega,rfl,⟨rfl,rfl,rfl,rfl,rfl⟩,c,E⟩
 clear c E;rintro⟨a5,_⟩ j ⟨b,a9,a1,⟨L,r,s,t,z⟩,c,k⟩;subst a1;obtain⟨a6,M⟩:=Qv L;obtain⟨u,rfl⟩:∃ x,x=a6:=⟨_,rfl⟩;have a2:a5=#[u 0,u 1,u 2,u 3,u 4,u 5,u 6,u 7,u 8,u 9,u 10,u 11,u 12,u 13,u 14,u 15,u 16,u 17,u 18,u 19,u 20,u 21,u 22,u 23,u 24,u 25,u 26,u 27,u 28]:=M;clear M;subst a2;change u 0=_ at r;change u 1=_ at s;change u 5=_ at t;change u 6=_ at z;rw [r,s,t,z];clear r s t z L;by_cases A:b<n+1
 ·have a0:(b:Int)<(n:Int)+1:=by omega
  have U:=k.cell_some (Q.out b A) id;have V:=k.cell_some (R.out b A) id;have W:=O.out b;have X:=P.out b;have c1:j.cell? ⟨d,b,none⟩=some (.int .u64 ((if b<b then f b ||| g b else 0:Nat):Int)):=by rw [c.cellAt b oz,Jw _ A]
  rw [if_neg (Nat.lt_irrefl b)] at c1;have c2:j.frozen? ⟨d,b,none⟩=false:=c.frozenAt b;have N:=u64_or_nat (f b) (g b) oz oz;have l:∀ m,((j.drewN m).setCell ⟨d,b,none⟩ (.int .u64 ((f b ||| g b:Nat):Int))).ownsRow d 183 1 (.slice (some ⟨d,0,none⟩) (n+1) (n+1)) (n+1) (Zj (n+1) (fun a=>if a<b+1 then f a ||| g a else 0))/\Ext w ((j.drewN m).setCell ⟨d,b,none⟩ (.int .u64 ((f b ||| g b:Nat):Int))):=by
   intro m;have l:=Yd (Q7 c ((Q0.refl _ j).drewN m)) b (.int .u64 ((f b ||| g b:Nat):Int))
   rw [Kz,Qn (g:=fun a=>if a<b+1 then f a ||| g a else 0) (fun i _=>by
    unfold Gd;by_cases e:i=b
    ·subst e;simp
    ·rw [if_neg e];show (if i<b then f i ||| g i else 0)=_;by_cases D:i<b
     ·rw [if_pos D,if_pos oz]
     ·rw [if_neg D,if_neg oz])] at l
   exact⟨l,(k.drewN m).setCell (p:=⟨d,b,none⟩) (.inl (by rw [o.out];exact Nat.le_refl d)) _⟩
  have q:=Zh l;obtain⟨a7,I⟩:=zE (f b);obtain⟨a8,K⟩:=zE (g b);rw [I] at U W N q;rw [K] at V X N q;clear l c k I K;go_wp2;refine Kt 11 kz kz ?_;simp only [List.take_succ_cons,List.take_zero,List.drop_succ_cons,List.drop_zero];repeat still_step
  refine wpStill_nil ?_;go_wp2;exact⟨⟨b+1,by omega,tz,⟨rfl,rfl,rfl,rfl,rfl⟩,(q.out _).1,(q.out _).2⟩,nz⟩
 ·obtain rfl:b=n+1:=by omega
  have a0:¬ (((n+1:Nat):Int)<(n:Int)+1):=by omega
  rw [Qn (g:=fun a=>f a ||| g a) (fun a ha=>by rw [if_pos ha])] at c;rw [<-o.out] at c;have C:=Zh c;clear c;go_wp2;go_ret;rw [o.out] at C;exact⟨_,rfl,by rw [o.out];exact C.out,k⟩
theorem Fo{n:Nat}{w:World}{x y:Value}{X Y:Qh}(b4:n<=32)(b5:Y9 w x (n+1) (Q2 X)) (b6:Y9 w y (n+1) (Q2 Y)) (V:Qp n X) :
  Calls Tryz.prog 309 #[x,y] w fun e w'=>∃ u,e=.returned u/\w'.ownsRow w.heap.size 183 1 u (n+1) (Zj (n+1) (Q2 (comp X Y)))/\Ext w w':=by
 obtain⟨R,O,rfl,_,W⟩:=b5;obtain⟨S,P,rfl,_,Z⟩:=b6;obtain⟨a6,a7,a5⟩:=Zh3 W Z V;clear W Z V;go_enter Tryz.func309,Tryz.ntmps309
 go_wp2_with (at_make;refine Jj rfl (.tmp 9) (.tmp 9) 374 rfl w.heap.size 183 _ 8 Tryz.underlying374 Tryz.infoU rfl .i64 .i64 _ _ (n+1) rfl rfl zq zq ?c1 ?c2 (Nat.le_refl _) ?_)
 case c1=>omega
 case c2=>unfold maxLen;omega
 intro c5 d U;obtain⟨f,J⟩:=zE w.heap.size;rw [J] at d ⊢;rw [Ub,show Zj (n+1) (fun _=>0)=Zj (n+1) (fun a=>if a<0 then Q2 (comp X Y) a else 0) from Qn fun a _=>by simp] at d;have C:=Zh J;clear J;go_wp2
 refine wp_loop (fun a F=>∃(b:Nat),b<=n+1/\a.defers=[]/\(a.tmps.size=44/\a.tmps.getD 0 undef=.slice (some ⟨R,0,none⟩) (n+1) O/\a.tmps.getD 1 undef=.slice (some ⟨S,0,none⟩) (n+1) P/\a.tmps.getD 5 undef=.slice (some ⟨f,0,none⟩) (n+1) (n+1)/\a.tmps.getD 6 undef=.int .i64 b)/\F.ownsRow f 183 1 (.slice (some ⟨f,0,none⟩) (n+1) (n+1)) (n+1) (Zj (n+1) (fun a=>if a<b then Q2 (comp X Y) a else 0))/\Ext w F)
  (fun a _=>n+1 - (intOf (a.tmps.getD 6 undef)).toNat) ?_ ?_
 ·exact⟨0,by omega,rfl,⟨rfl,rfl,rfl,rfl,rfl⟩,d,U⟩
 clear d U;rintro⟨M,_⟩ F ⟨b,c3,H,⟨z,o,q,r,s⟩,d,k⟩;subst H;obtain⟨N,A⟩:=Qv z;obtain⟨u,rfl⟩:∃ x,x=N:=⟨_,rfl⟩;have K:M=#[u 0,u 1,u 2,u 3,u 4,u 5,u 6,u 7,u 8,u 9,u 10,u 11,u 12,u 13,u 14,u 15,u 16,u 17,u 18,u 19,u 20,u 21,u 22,u 23,u 24,u 25,u 26,u 27,u 28,u 29,u 30,u 31,u 32,u 33,u 34,u 35,u 36,u 37,u 38,u 39,u 40,u 41,u 42,u 43]:=A;clear A;subst K;change u 0=_ at o;change u 1=_ at q;change u 5=_ at r;change u 6=_ at s;rw [o,q,r,s];clear o q r s z;by_cases a0:b<n+1
 ·have b0:(b:Int)<(n:Int)+1:=by omega
  rw [Qn (g:=Gd (fun a=>if a<b then Q2 (comp X Y) a else 0) b (Y8 Y ((List.range 0).filter (X b)))) (fun i _=>by
   unfold Gd;by_cases e:i=b
   ·subst e;rw [if_pos rfl,if_neg (Nat.lt_irrefl i)];exact(Q0s Y).symm
   ·rw [if_neg e])] at d
  have j:=Zh d;clear d;go_wp2
  refine wp_loop (fun a l=>∃(c:Nat),c<=n+1/\a.defers=[]/\(a.tmps.size=44/\a.tmps.getD 0 undef=.slice (some ⟨R,0,none⟩) (n+1) O/\a.tmps.getD 1 undef=.slice (some ⟨S,0,none⟩) (n+1) P/\a.tmps.getD 5 undef=.slice (some ⟨f,0,none⟩) (n+1) (n+1)/\a.tmps.getD 6 undef=.int .i64 b/\a.tmps.getD 7 undef=.int .i64 c)/\l.ownsRow f 183 1 (.slice (some ⟨f,0,none⟩) (n+1) (n+1)) (n+1) (Zj (n+1) (Gd (fun a=>if a<b then Q2 (comp X Y) a else 0) b (Y8 Y ((List.range c).filter (X b)))))/\Ext w l)
   (fun a _=>n+1 - (intOf (a.tmps.getD 7 undef)).toNat) ?_ ?_
  ·exact⟨0,by omega,rfl,⟨rfl,rfl,rfl,rfl,rfl,rfl⟩,j.out,k⟩
  clear j k;rintro⟨M,_⟩ l ⟨c,c0,H,⟨z,o,q,r,s,G⟩,d,k⟩;subst H;obtain⟨N,A⟩:=Qv z;obtain⟨u,rfl⟩:∃ x,x=N:=⟨_,rfl⟩;have K:M=#[u 0,u 1,u 2,u 3,u 4,u 5,u 6,u 7,u 8,u 9,u 10,u 11,u 12,u 13,u 14,u 15,u 16,u 17,u 18,u 19,u 20,u 21,u 22,u 23,u 24,u 25,u 26,u 27,u 28,u 29,u 30,u 31,u 32,u 33,u 34,u 35,u 36,u 37,u 38,u 39,u 40,u 41,u 42,u 43]:=A;clear A;subst K;change u 0=_ at o;change u 1=_ at q;change u 5=_ at r;change u 6=_ at s;change u 7=_ at G;rw [o,q,r,s,G];clear o q r s G z;by_cases b3:c<n+1
  ·have b1:(c:Int)<(n:Int)+1:=by omega
   have b9:(c:Int)<64:=by omega
   have b7:=k.cell_some (a6.out b a0) id;have Q:=k.cell_some (a7.out c b3) id;have b8:=Xe X b;have b2:=Q73 X b c oz;have I:=Q5h (X b) c;obtain⟨L,a2⟩:=zE (X b c);rw [a2] at b2 I;have E:=Zh I;clear I a2;cases L
   ·have m:=E.out;rw [if_neg zd,List.append_nil] at m;rw [<-m] at d;have j:=Zh d;clear m d Q;go_wp2;exact⟨⟨c+1,by omega,tz,⟨rfl,rfl,rfl,rfl,rfl,rfl⟩,j.out,k⟩,nz⟩
   ·have m:=E.out;rw [if_pos rfl] at m;have a8:=Xe Y c;have a9:=Q36 Y ((List.range c).filter (X b));have c1:l.cell? ⟨f,b,none⟩=some (.int .u64 (Y8 Y ((List.range c).filter (X b)):Int)):=by
     rw [d.cellAt b oz,Jw _ a0];unfold Gd;rw [if_pos rfl]
    have c2:l.frozen? ⟨f,b,none⟩=false:=d.frozenAt b;have a4:=u64_or_nat (Y8 Y ((List.range c).filter (X b))) (Q2 Y c) oz oz;have t:∀ B,((l.drewN B).setCell ⟨f,b,none⟩ (.int .u64 ((Y8 Y ((List.range c).filter (X b)) ||| Q2 Y c:Nat):Int))).ownsRow f 183 1 (.slice (some ⟨f,0,none⟩) (n+1) (n+1)) (n+1) (Zj (n+1) (Gd (fun a=>if a<b then Q2 (comp X Y) a else 0) b (Y8 Y ((List.range (c+1)).filter (X b)))))/\Ext w ((l.drewN B).setCell ⟨f,b,none⟩ (.int .u64 ((Y8 Y ((List.range c).filter (X b)) ||| Q2 Y c:Nat):Int))):=by
     intro B;have t:=Yd (Q7 d ((Q0.refl _ l).drewN B)) b (.int .u64 ((Y8 Y ((List.range c).filter (X b)) ||| Q2 Y c:Nat):Int))
     rw [Kz,<-Nq,<-m,Qn (g:=Gd (fun a=>if a<b then Q2 (comp X Y) a else 0) b (Y8 Y ((List.range (c+1)).filter (X b)))) (fun i _=>by
      unfold Gd;by_cases e:i=b
      ·rw [if_pos e,if_pos e]
      ·rw [if_neg e,if_neg e,if_neg e])] at t
     rw [<-Nq,<-m];exact⟨t,(k.drewN B).setCell (p:=⟨f,b,none⟩) (.inl (by rw [C.out];exact Nat.le_refl f)) _⟩
    have D:=Zh t;obtain⟨c4,a1⟩:=zE (Y8 Y ((List.range c).filter (X b)));obtain⟨c6,a3⟩:=zE (Q2 Y c);rw [a1] at a9 c1 a4 D;rw [a3] at Q a8 a4 D;clear t d k a1 a3 m E;go_wp2;refine Kt 11 kz kz ?_;simp only [List.take_succ_cons,List.take_zero,List.drop_succ_cons,List.drop_zero];repeat still_step
    refine wpStill_nil ?_;go_wp2;exact⟨⟨c+1,by omega,tz,⟨rfl,rfl,rfl,rfl,rfl,rfl⟩,(D.out _).1,(D.out _).2⟩,nz⟩
  ·obtain rfl:c=n+1:=by omega
   have b1:¬ (((n+1:Nat):Int)<(n:Int)+1):=by omega
   rw [Qn (g:=fun a=>if a<b+1 then Q2 (comp X Y) a else 0) (fun i _=>by
    unfold Gd;by_cases e:i=b
    ·subst e;rw [if_pos rfl,if_pos oz];exact Q7r b4 a5.out Y i
    ·rw [if_neg e];show (if i<b then Q2 (comp X Y) i else 0)=_;by_cases T:i<b
     ·rw [if_pos T,if_pos oz]
     ·rw [if_neg T,if_neg oz])] at d
   have j:=Zh d;clear d;go_wp2;first | exact⟨⟨b+1,by omega,tz,⟨rfl,rfl,rfl,rfl,rfl⟩,j.out,k⟩,nz⟩ | exact⟨⟨b+1,by omega,by simp,j.out,k⟩,nz⟩ | exact⟨⟨b+1,by omega,by simp,j.out⟩,nz⟩
 ·obtain rfl:b=n+1:=by omega
  have b0:¬ (((n+1:Nat):Int)<(n:Int)+1):=by omega
  rw [Qn (g:=Q2 (comp X Y)) (fun a ha=>by rw [if_pos ha])] at d;rw [<-C.out] at d;have j:=Zh d;clear d;go_wp2;go_ret;rw [C.out] at j;exact⟨_,rfl,by rw [C.out];exact j.out,k⟩
def Qgh(n:Nat)(f g:Nat->Nat)(e:Ending):Prop:=∃ b,e=.returned (.bool b)/\(b=true↔∀ a,a<n+1->f a=g a)
theorem Q9j{n:Nat}{w:World}{x y:Value}{f g:Nat->Nat}(a4:n<=32)(Y:Y9 w x (n+1) f) (Z:Y9 w y (n+1) g) (D:∀ a,f a<8589934592) (E:∀ a,g a<8589934592) :
  Calls Tryz.prog 311 #[x,y] w fun e w'=>Qgh n f g e/\Ext w w':=by
 obtain⟨T,Q,rfl,_,B⟩:=Y;obtain⟨U,R,rfl,_,C⟩:=Z;obtain⟨O,P,M,N⟩:=Zh4 B C D E;clear B C D E;go_enter Tryz.func311,Tryz.ntmps311;go_wp2
 refine wp_loop (fun a s=>∃(b:Nat),b<=n+1/\a.defers=[]/\(a.tmps.size=21/\a.tmps.getD 0 undef=.slice (some ⟨T,0,none⟩) (n+1) Q/\a.tmps.getD 1 undef=.slice (some ⟨U,0,none⟩) (n+1) R/\a.tmps.getD 5 undef=.int .i64 b)/\(∀ a,a<b->f a=g a)/\Ext w s)
  (fun a _=>n+1 - (intOf (a.tmps.getD 5 undef)).toNat) ?_ ?_
 ·exact⟨0,by omega,rfl,⟨rfl,rfl,rfl,rfl⟩,fun a ha=>by omega,Q0.refl _ _⟩
 rintro⟨a0,_⟩ s ⟨b,a3,W,⟨I,m,o,p⟩,A,d⟩;subst W;obtain⟨a1,J⟩:=Qv I;obtain⟨c,rfl⟩:∃ x,x=a1:=⟨_,rfl⟩;have X:a0=#[c 0,c 1,c 2,c 3,c 4,c 5,c 6,c 7,c 8,c 9,c 10,c 11,c 12,c 13,c 14,c 15,c 16,c 17,c 18,c 19,c 20]:=J;clear J;subst X;change c 0=_ at m;change c 1=_ at o;change c 5=_ at p;rw [m,o,p];clear m o p I;have r:=Zh A;clear A;by_cases q:b<n+1
 ·have V:(b:Int)<(n:Int)+1:=by omega
  have t:=d.cell_some (O.out b q) id;have l:=d.cell_some (P.out b q) id;have u:=M.out b;have z:=N.out b;by_cases i:f b=g b
  ·have G:∀ a,a<b+1->f a=g a:=fun a ha=>by
    by_cases e:a=b
    ·rw [e];exact i
    ·exact r.out a oz
   have k:=Zh G;rw [<-i] at l;obtain⟨S,j⟩:=zE (f b);rw [j] at t l u;clear G i j z;go_wp2
   go_quiet (fail)
   go_wp2;exact⟨⟨b+1,by omega,tz,⟨rfl,rfl,rfl,rfl⟩,k.out,d.drewN _⟩,nz⟩
  ·have H:¬ ∀ a,a<n+1->f a=g a:=fun h=>i (h b q);have k:=Zh H;have K:((f b:Int) ==(g b:Int))=false:=by rw [beq_eq_false_iff_ne];omega
   have L:((f b:Int) !=(g b:Int))=true:=by rw [bne_iff_ne];omega
   obtain⟨S,j⟩:=zE (f b);obtain⟨a2,F⟩:=zE (g b);rw [j] at t u K L;rw [F] at l z K L;clear H i j F;go_wp2
   go_quiet (fail)
   go_wp2;go_ret;exact⟨⟨false,rfl,⟨(fun h=>by cases h),fun h=>absurd h k.out⟩⟩,d.drewN _⟩
 ·obtain rfl:b=n+1:=by omega
  have V:¬ (((n+1:Nat):Int)<(n:Int)+1):=by omega
  go_wp2;go_ret;exact⟨⟨true,rfl,⟨fun _=>r.out,fun _=>rfl⟩⟩,d⟩
theorem Qf3{s c:Nat × Nat}(q:s.1<4294967296)(r:s.2<4294967296)(t:c.1<4294967296)(u:c.2<4294967296)(w:World) :
  Calls Tryz.prog 307 #[.agg #[.int .u32 (s.1:Int),.int .u32 (s.2:Int)],.agg #[.int .u32 (c.1:Int),.int .u32 (c.2:Int)]] w fun e w'=>e=.returned (.bool (sat s c))/\Ext w w':=by
 have o:bits .and .u32 (s.1:Int) (c.1:Int)=((s.1 &&& c.1:Nat):Int):=u32_and_nat _ _ q t;have p:bits .and .u32 (s.2:Int) (c.2:Int)=((s.2 &&& c.2:Nat):Int):=u32_and_nat _ _ r u;have a:Hid (sat s c=((s.1 &&& c.1 == c.1) && (s.2 &&& c.2 == c.2))):=Zh (by unfold sat;rw [Nat.and_comm c.1,Nat.and_comm c.2]);have f:(((s.1 &&& c.1:Nat):Int) ==(c.1:Int))=(s.1 &&& c.1 == c.1):=by apply Bool.eq_iff_iff.2;rw [beq_iff_eq,beq_iff_eq];omega
 have g:(((s.2 &&& c.2:Nat):Int) ==(c.2:Int))=(s.2 &&& c.2 == c.2):=by apply Bool.eq_iff_iff.2;rw [beq_iff_eq,beq_iff_eq];omega
 obtain⟨v,x⟩:=s;obtain⟨i,j⟩:=c;simp only at *;obtain⟨b,k⟩:=zE (v &&& i);obtain⟨y,l⟩:=zE (x &&& j);rw [k] at o f a;rw [l] at p g a;obtain⟨d,m⟩:=zE (b == i);obtain⟨z,n⟩:=zE (y == j);rw [m] at f a;rw [n] at g a;clear k l m n;go_enter Tryz.func307,Tryz.ntmps307;cases d
 ·go_wp2;go_ret;exact⟨by rw [a.out];rfl,((Q0.refl _ _).alloc _).alloc _⟩
 ·cases z
  all_goals
   go_wp2;go_ret;exact⟨by rw [a.out];rfl,((Q0.refl _ _).alloc _).alloc _⟩
end Go.Proofs.YtfdlhlghcbeblaaGreatDoor
