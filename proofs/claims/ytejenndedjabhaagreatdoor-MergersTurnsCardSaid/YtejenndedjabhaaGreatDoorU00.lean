/- PLAIN: -/
import Derived.Test.YtejenndedjabhaaGreatDoorProg
import Derived.Lib.Hide
import Derived.RangeFuncNested
import Derived.OwnWalkIn
import Derived.TacticsInMore
import Derived.LoopNIn
import Derived.LoopIn
import Derived.BigQuiet
import Derived.StillTailTactics
import Derived.Deep.DeepCutAuto
import Derived.Deep.RegionHeld3
import Derived.WalkLawsBesides
import Derived.Handy
import Derived.Shelf.Spec.TrailingZeros
import Derived.Deep.WholeRow
set_option maxRecDepth 100000
set_option maxHeartbeats 8000000
namespace Go.Ab
def Xg:Nat->(Nat->Bool)->Nat
 | 0,_=>0
 | n+1,p=>Xg n p+if p n then 2 ^ n else 0
theorem Gw(n:Nat)(p:Nat->Bool):Xg n p<2 ^ n:=by
 induction n with
 | zero=>simp [Xg]
 | succ n ih=>
  unfold Xg;rw [Nat.pow_succ]
  split <;> omega
theorem Xj(n:Nat)(p:Nat->Bool)(i:Nat):(Xg n p).testBit i=(decide (i<n) && p i):=by
 induction n with
 | zero=>simp [Xg]
 | succ n ih=>
  unfold Xg;have f:=Gw n p;by_cases a:p n=true
  ·rw [if_pos a,Nat.add_comm];rw [show 2 ^ n+Xg n p=2 ^ n*1+Xg n p by omega];rw [Nat.testBit_two_pow_mul_add _ f]
   split
   ·rename_i c;rw [ih];simp [c,Nat.lt_succ_of_lt c]
   ·rename_i c
    by_cases b:i=n
    ·subst b;simp [a]
    ·obtain⟨d,e⟩:∃ d,i - n=d+1:=⟨i - n - 1,by omega⟩;rw [e,Nat.testBit_succ];simp;omega
  ·rw [if_neg a,Nat.add_zero,ih];by_cases b:i=n
   ·subst b;simp at a;simp [a]
   ·have:(i<n+1)↔(i<n):=by omega
    simp [this]
theorem P8{n v:Nat}{p:Nat->Bool}(b:v<2 ^ n)(h:∀ i,i<n->v.testBit i=p i):v=Xg n p:=by
 apply Nat.eq_of_testBit_eq;intro i;rw [Xj];by_cases a:i<n
 ·simp [a,h i a]
 ·rw [Nat.testBit_lt_two_pow (Nat.lt_of_lt_of_le b (Nat.pow_le_pow_right (by decide) (by omega)))];simp [a]
theorem Vj{n:Nat}{p q:Nat->Bool}(h:∀ i,i<n->p i=q i):Xg n p=Xg n q:=
 P8 (Gw n p) fun i hi=>by rw [Xj];simp [hi,h i hi]
theorem Eo(n:Nat)(p q:Nat->Bool):Xg n p ||| Xg n q=Xg n (fun i=>p i || q i):=
 P8 (Nat.or_lt_two_pow (Gw n p) (Gw n q)) fun i hi=>by
  rw [Nat.testBit_or,Xj,Xj];simp [hi]
theorem Hh{n x:Nat}(hx:x<n):2 ^ x=Xg n (fun i=>i == x):=
 P8 (Nat.pow_lt_pow_right (by decide) hx) fun i _=>by
  rw [Nat.testBit_two_pow];by_cases h:x=i
  ·subst h;simp
  ·have:(i == x)=false:=by simp;omega
   simp [h,this]
theorem V7(n:Nat):Xg n (fun _=>false)=0:=by
 induction n with
 | zero=>rfl
 | succ n ih=>simp [Xg,ih]
def evs(v:Nat):List Nat:=(List.range 64).filter v.testBit
theorem Q5a:evs 0=[]:=by simp [evs]
theorem Q8i{v i:Nat}:i∈evs v↔i<64/\v.testBit i=true:=by simp [evs]
theorem Q52(n:Nat)(f:n<=64)(p:Nat->Bool):evs (Xg n p)=(List.range n).filter p:=by
 unfold evs;have b:(64:Nat)=n+(64 - n):=by omega
 rw [b,List.range_add,List.filter_append];have c:(List.range n).filter (Xg n p).testBit=(List.range n).filter p:=by
  apply List.filter_congr;intro e a;rw [Xj];simp at a;simp [a]
 have d:(List.map (n+·) (List.range (64 - n))).filter (Xg n p).testBit=[]:=by
  rw [List.filter_eq_nil_iff];intro e a;simp only [List.mem_map,List.mem_range] at a;obtain⟨g,_,rfl⟩:=a;rw [Xj];simp;omega
 rw [c,d,List.append_nil]
theorem Tn(v:Nat)(b:v≠0)(h:v<2 ^ 64):∃ m,v=2 ^ Lib.ctz 64 v*(2*m+1)/\Lib.ctz 64 v<64:=by
 obtain⟨m,d,c⟩:=Lib.ctzFrom_spec 64 v (by omega) h;have a:Lib.ctz 64 v=Lib.ctzFrom 64 v:=by simp [Lib.ctz,b]
 rw [a];exact⟨m,d,c⟩
theorem Bn(k m:Nat):2 ^ k*(2*m+1) &&& (2 ^ k*(2*m+1) - 1)=2 ^ (k+1)*m:=by
 have r:0<2 ^ k:=Nat.two_pow_pos k;have l:2 ^ k*(2*m+1) - 1=2 ^ k*(2*m)+(2 ^ k - 1):=by
  rw [Nat.mul_add,Nat.mul_one];omega
 rw [l];apply Nat.eq_of_testBit_eq;intro b;have q:(2 ^ k - 1)<2 ^ k:=by omega
 rw [Nat.testBit_and,Nat.testBit_two_pow_mul_add _ q,Nat.testBit_two_pow_mul,Nat.testBit_two_pow_mul];by_cases p:b<k
 ·have c:¬ b>=k:=by omega
  have d:¬ b>=k+1:=by omega
  simp [c,d]
 ·rw [if_neg p];by_cases j:b=k
  ·subst j;simp [Nat.testBit_zero];omega
  ·obtain⟨a,rfl⟩:∃ a,b=k+(a+1):=⟨b - k - 1,by omega⟩;have g:k+(a+1) - k=a+1:=by omega
   have i:k+(a+1) - (k+1)=a:=by omega
   rw [g,i,Nat.testBit_succ,Nat.testBit_succ];have e:(2*m+1) / 2=m:=by omega
   have f:2*m / 2=m:=by omega
   rw [e,f];have n:k+(a+1)>=k:=by omega
   have o:k+(a+1)>=k+1:=by omega
   simp [n,o]
theorem Fk(k m i:Nat):(2 ^ k*(2*m+1)).testBit i=(decide (i=k) || (decide (k<i) && m.testBit (i - (k+1)))):=by
 rw [Nat.testBit_two_pow_mul];by_cases o:i<k
 ·have b:¬ i>=k:=by omega
  have c:¬ i=k:=by omega
  have d:¬ k<i:=by omega
  simp [b,c,d]
 ·by_cases j:i=k
  ·subst j;simp [Nat.testBit_zero]
  ·obtain⟨a,rfl⟩:∃ a,i=k+(a+1):=⟨i - k - 1,by omega⟩;have f:k+(a+1) - k=a+1:=by omega
   have g:k+(a+1) - (k+1)=a:=by omega
   rw [f,g,Nat.testBit_succ];have e:(2*m+1) / 2=m:=by omega
   rw [e];have l:k+(a+1)>=k:=by omega
   have n:k<k+(a+1):=by omega
   simp [l,n]
theorem Q64(v:Nat)(j:v≠0)(h:v<2 ^ 64):evs v=Lib.ctz 64 v::evs (v &&& (v - 1)):=by
 obtain⟨g,f,k⟩:=Tn v j h;generalize Lib.ctz 64 v=a at f k;have d:∀ b,v.testBit b=(decide (b=a) || (decide (a<b) && g.testBit (b - (a+1)))):=fun b=>by rw [f];exact Fk a g b
 have e:∀ b,(v &&& (v - 1)).testBit b=(decide (a<b) && g.testBit (b - (a+1))):=fun b=>by
  rw [f,Bn,Nat.testBit_two_pow_mul];simp only [ge_iff_le,Nat.succ_le_iff]
 unfold evs;have i:(64:Nat)=a+(1+(63 - a)):=by omega
 rw [i,List.range_add,List.filter_append,List.filter_append,List.range_add,List.map_append,List.filter_append,List.filter_append];have n:(List.range a).filter v.testBit=[]:=by
  rw [List.filter_eq_nil_iff];intro b c;simp at c;rw [d];simp;omega
 have o:(List.range a).filter (v &&& (v - 1)).testBit=[]:=by
  rw [List.filter_eq_nil_iff];intro b c;simp at c;rw [e];simp;omega
 have l:(List.map (a+·) (List.range 1)).filter v.testBit=[a]:=by
  have:v.testBit a=true:=by rw [d];simp
  simp [List.range_one,this]
 have m:(List.map (a+·) (List.range 1)).filter (v &&& (v - 1)).testBit=[]:=by
  have:(v &&& (v - 1)).testBit a=false:=by rw [e];simp
  simp [List.range_one,this]
 rw [n,o,l,m,List.nil_append,List.nil_append,List.nil_append,List.singleton_append]
 congr 1
 apply List.filter_congr;intro b c;simp only [List.mem_map,List.mem_range] at c;obtain⟨p,⟨q,_,rfl⟩,rfl⟩:=c;rw [d,e];simp
end Go.Ab
namespace Go.Ab
inductive Pat where
 | node (k:Int) (pl mi:Nat) (nt:Bool) (mn mx:Int) (l:List Pat)
namespace Pat
def k:Pat->Int | node k _ _ _ _ _ _=>k
def pl:Pat->Nat | node _ p _ _ _ _ _=>p
def mi:Pat->Nat | node _ _ m _ _ _ _=>m
def nt:Pat->Bool | node _ _ _ b _ _ _=>b
def mn:Pat->Int | node _ _ _ _ x _ _=>x
def mx:Pat->Int | node _ _ _ _ _ x _=>x
def l:Pat->List Pat | node _ _ _ _ _ _ l=>l
end Pat
def Z7(pl mi:Nat):Bool:=pl &&& mi == 0 && (pl ||| mi) / 16777216 == 0
def Xa(p:Pat):Int:=
 if p.k<0\/6<p.k then 2
 else if p.k≠1/\(p.pl≠0\/p.mi≠0\/p.nt=true) then 2
 else if p.k≠3/\p.k≠4/\p.k≠5/\p.l.length≠0 then 2
 else if p.k≠5/\(p.mn≠0\/p.mx≠0) then 2
 else if p.k=5/\(p.l.length≠1\/p.mn<0\/32<p.mn\/(p.mx≠-1/\(p.mx<p.mn\/32<p.mx))) then 2
 else if Z7 p.pl p.mi=true then 0 else 14
def chk:Nat->List Pat->Int
 | _,[]=>0
 | 0,_::_=>12
 | f+1,p::l=>if Xa p=0 then chk f (p.l++l) else Xa p
theorem Dx(f:Nat)(p:Pat)(l:List Pat):chk (f+1) (p::l)=if Xa p=0 then chk f (p.l++l) else Xa p:=rfl
def Ya(p:Pat):Int:=chk 40 [p]
def Si(r:Nat × Int)(f:Nat->Nat × Int):Nat × Int:=if r.2=0 then f r.1 else r
mutual
def Yy:Pat->Nat->Nat × Int
 | .node k pl mi nt mn mx l,n=>if n=40 then(n,12) else if Xa (.node k pl mi nt mn mx l)=0 then Ji l (n+1) else(n,Xa (.node k pl mi nt mn mx l))
def Ji:List Pat->Nat->Nat × Int
 | [],n=>(n,0)
 | p::l,n=>Si (Yy p n) (Ji l)
end
mutual
theorem W6:∀(p:Pat) (n:Nat) (rest:List Pat),n<=40->((Yy p n).1<=40/\n<=(Yy p n).1)/\chk (40 - n) (p::rest)=(if (Yy p n).2=0 then chk (40 - (Yy p n).1) rest else(Yy p n).2)
 | .node k pl mi nt mn mx l,n,rest,hn=>by
  unfold Yy;by_cases h:n=40
  ·subst h;rw [if_pos rfl];exact⟨⟨by simp,by simp⟩,by simp [chk]⟩
  ·rw [if_neg h];obtain⟨f,hf⟩:∃ f,40 - n=f+1:=⟨39 - n,by omega⟩;rw [hf];by_cases he:Xa (.node k pl mi nt mn mx l)=0
   ·rw [if_pos he];have:=W4 l (n+1) rest (by omega);refine⟨⟨this.1.1,by have:=this.1.2;omega⟩,?_⟩;rw [Dx,if_pos he,<-this.2,show 40 - (n+1)=f by omega];rfl
   ·rw [if_neg he];refine⟨⟨hn,Nat.le_refl _⟩,?_⟩;rw [Dx,if_neg he,if_neg he]
theorem W4:∀(l:List Pat) (n:Nat) (rest:List Pat),n<=40->((Ji l n).1<=40/\n<=(Ji l n).1)/\chk (40 - n) (l++rest)=(if (Ji l n).2=0 then chk (40 - (Ji l n).1) rest else(Ji l n).2)
 | [],n,rest,hn=>by simp [Ji,hn]
 | p::l,n,rest,hn=>by
  have h1:=W6 p n (l++rest) hn;rw [List.cons_append];unfold Ji Si;by_cases he:(Yy p n).2=0
  ·rw [if_pos he] at h1 ⊢;have h2:=W4 l (Yy p n).1 rest h1.1.1;exact⟨⟨h2.1.1,Nat.le_trans h1.1.2 h2.1.2⟩,h1.2.trans h2.2⟩
  ·rw [if_neg he] at h1 ⊢;exact⟨h1.1,by rw [h1.2,if_neg he]⟩
end
theorem Q1l(p:Pat):(Yy p 0).2=Ya p:=by
 have b:=(W6 p 0 [] (by omega)).2;unfold Ya;rw [b];by_cases a:(Yy p 0).2=0
 ·rw [if_pos a,a];cases 40 - (Yy p 0).1 <;> rfl
 ·rw [if_neg a]
theorem N0:∀(f:Nat) (l:List Pat) (m:Nat),f+1<=m->chk f (l.take m)=chk f l
 | f,[],m,_=>by simp
 | 0,p::l,m,h=>by
  obtain⟨m,rfl⟩:∃ k,m=k+1:=⟨m - 1,by omega⟩;rfl
 | f+1,p::l,m,h=>by
  obtain⟨m,rfl⟩:∃ k,m=k+1:=⟨m - 1,by omega⟩;rw [List.take_succ_cons];rw [Dx,Dx];by_cases he:Xa p=0
  ·rw [if_pos he,if_pos he];have h1:=N0 f (p.l++l) (p.l.length+m) (by omega);have h2:(p.l++l).take (p.l.length+m)=p.l++l.take m:=by
    rw [List.take_append];simp [List.take_of_length_le]
   rw [<-h1,h2]
  ·rw [if_neg he,if_neg he]
theorem Q7o(f:Nat)(l rest:List Pat)(b:f<=40):chk f (l.take 41++rest)=chk f (l++rest):=by
 rw [<-N0 f (l.take 41++rest) 41 (by omega),<-N0 f (l++rest) 41 (by omega),List.take_append,List.take_append,List.take_take,List.length_take]
 congr 2
 by_cases a:l.length<=41
 ·rw [Nat.min_eq_right a]
 ·rw [Nat.min_eq_left (by omega),show 41 - l.length=0 by omega]
def szW:Nat->List Pat->Nat
 | _,[]=>0
 | 0,_::_=>0
 | f+1,p::l=>szW f (p.l++l)+1
def Qap(p:Pat):Nat:=szW 41 [p]
mutual
def Q8v:Pat->Nat->Nat
 | .node _ _ _ _ _ _ l,n=>Q8z l (n+1)
def Q8z:List Pat->Nat->Nat
 | [],n=>n
 | p::l,n=>if n<=40 then Q8z l (Q8v p n) else n
end
end Go.Ab
namespace Go.Ab
abbrev Qf:=Nat->Nat->Bool
abbrev Wd:=List (Nat × Nat)
def comp(X Y:Qf):Qf:=fun a c=>(List.range 33).any fun b=>X a b && Y b c
def idB(n:Nat):Qf:=fun a b=>a == b && decide (a<=n)
def orB(X Y:Qf):Qf:=fun a b=>X a b || Y a b
def noB:Qf:=fun _ _=>false
def Z2(X:Qf)(n:Nat):Nat->Qf
 | 0=>idB n
 | k+1=>comp X (Z2 X n k)
def Qy(n:Nat)(X:Qf):Prop:=∀ a b,X a b=true->a<=b/\b<=n
theorem Da{X Y:Qf}{a c:Nat}:comp X Y a c=true↔∃ b,b<33/\X a b=true/\Y b c=true:=by
 simp only [comp,List.any_eq_true,List.mem_range,Bool.and_eq_true]
theorem Lw{n a b:Nat}:idB n a b=true↔a=b/\a<=n:=by simp [idB]
theorem Q7z{X Y:Qf}{a b:Nat}:orB X Y a b=true↔X a b=true\/Y a b=true:=by simp [orB]
theorem Pd{X Y:Qf}(h:∀ a b,X a b=true↔Y a b=true):X=Y:=by
 funext a b;exact Bool.eq_iff_iff.2 (h a b)
theorem Qy.id(n:Nat):Qy n (idB n):=fun a b h=>by rw [Lw] at h;omega
theorem Qy.no(n:Nat):Qy n noB:=fun a b h=>by cases h
theorem Qy.comp{n:Nat}{X Y:Qf}(h:Qy n X)(k:Qy n Y):Qy n (comp X Y):=fun a c hc=>by
 obtain⟨b,_,h1,h2⟩:=Da.1 hc;have:=h _ _ h1;have:=k _ _ h2;omega
theorem Qy.or{n:Nat}{X Y:Qf}(h:Qy n X)(k:Qy n Y):Qy n (orB X Y):=fun a b hc=>by
 rcases Q7z.1 hc with hc | hc
 ·exact h _ _ hc
 ·exact k _ _ hc
theorem Qy.pow{n:Nat}{X:Qf}(h:Qy n X):∀ k,Qy n (Z2 X n k)
 | 0=>Qy.id n
 | k+1=>h.comp (Qy.pow h k)
theorem P4(X Y Z:Qf):comp (comp X Y) Z=comp X (comp Y Z):=by
 apply Pd;intro i j;simp only [Da];constructor
 ·rintro⟨b,g,⟨a,f,c,d⟩,e⟩;exact⟨a,f,c,b,g,d,e⟩
 ·rintro⟨a,f,c,b,g,d,e⟩;exact⟨b,g,⟨a,f,c,d⟩,e⟩
theorem Q7l{n:Nat}(e:n<=32){X:Qf}(h:Qy n X):comp X (idB n)=X:=by
 apply Pd;intro c b;simp only [Da,Lw];constructor
 ·rintro⟨d,_,a,rfl,_⟩;exact a
 ·intro a;have:=h _ _ a;exact⟨b,by omega,a,rfl,by omega⟩
theorem Q8a{n:Nat}(e:n<=32){X:Qf}(h:Qy n X):comp (idB n) X=X:=by
 apply Pd;intro b d;simp only [Da,Lw];constructor
 ·rintro⟨c,_,⟨rfl,_⟩,a⟩;exact a
 ·intro a;have:=h _ _ a;exact⟨b,by omega,⟨rfl,by omega⟩,a⟩
def Qa0(n:Nat):Nat->Nat->Qf->Qf->Qf
 | 0,_,_,out=>out
 | f+1,k,x,out=>if k=0 then out else Qa0 n f (k / 2) (comp x x) (if k % 2=1 then comp out x else out)
theorem Po{n:Nat}(hn:n<=32){X:Qf}(h:Qy n X):∀ k,Z2 (comp X X) n k=Z2 X n (2*k)
 | 0=>rfl
 | k+1=>by
  show comp (comp X X) _=_;rw [Po hn h k,show 2*(k+1)=2*k+1+1 by omega,P4];rfl
def Q95(X:Qf)(n lo:Nat):Nat->Qf
 | 0=>Z2 X n lo
 | e+1=>orB (Q95 X n lo e) (Z2 X n (lo+(e+1)))
def Pb(X:Qf)(n lo e:Nat):Qf:=comp (Z2 X n lo) (Z2 (orB X (idB n)) n e)
def sat(s c:Nat × Nat):Bool:=(c.1 &&& s.1 == c.1) && (c.2 &&& s.2 == c.2)
def Yq(w:Wd)(c:Nat × Nat)(nt:Bool):Qf:=fun a b=>b == a+1 && decide (a<w.length) && (sat (w.getD a (0,0)) c != nt)
def X6(a:Nat):Qf:=fun x y=>x == a && y == a
def W1(n:Nat)(mn mx:Int):Nat:=if mx<0 then n else(mx - mn).toNat
mutual
def Vf(w:Wd):Pat->Qf
 | .node k pl mi nt mn mx l=>
  if k=1 then Yq w (pl,mi) nt
  else if k=2 then X6 0
  else if k=6 then X6 w.length
  else if k=4 then Lc w l
  else if k=5 then Tk w l mn mx
  else Fo w l (idB w.length)
def Fo(w:Wd):List Pat->Qf->Qf
 | [],X=>X
 | p::l,X=>Fo w l (comp X (Vf w p))
def Lc(w:Wd):List Pat->Qf
 | []=>noB
 | p::l=>orB (Vf w p) (Lc w l)
def Tk(w:Wd):List Pat->Int->Int->Qf
 | [],_,_=>noB
 | p::_,mn,mx=>Pb (Vf w p) w.length mn.toNat (W1 w.length mn mx)
end
theorem Qy.sound(w:Wd)(c:Nat × Nat)(nt:Bool):Qy w.length (Yq w c nt):=fun a b h=>by
 simp only [Yq,Bool.and_eq_true,beq_iff_eq,decide_eq_true_eq] at h;omega
theorem Qy.edge{n a:Nat}(h:a<=n):Qy n (X6 a):=fun x y hh=>by
 simp only [X6,Bool.and_eq_true,beq_iff_eq] at hh;omega
mutual
theorem Kr(w:Wd):∀ p,Qy w.length (Vf w p)
 | .node k pl mi nt mn mx l=>by
  unfold Vf
  split
  ·exact Qy.sound _ _ _
  ·split
   ·exact Qy.edge (Nat.zero_le _)
   ·split
    ·exact Qy.edge (Nat.le_refl _)
    ·split
     ·exact Rj w l
     ·split
      ·exact Q3h w l mn mx
      ·exact R4 w l _ (Qy.id _)
theorem R4(w:Wd):∀(l:List Pat) (X:Qf),Qy w.length X->Qy w.length (Fo w l X)
 | [],_,h=>by unfold Fo;exact h
 | p::l,X,h=>by unfold Fo;exact R4 w l _ (h.comp (Kr w p))
theorem Rj(w:Wd):∀(l:List Pat),Qy w.length (Lc w l)
 | []=>by unfold Lc;exact Qy.no _
 | p::l=>by unfold Lc;exact(Kr w p).or (Rj w l)
theorem Q3h(w:Wd):∀(l:List Pat) (mn mx:Int),Qy w.length (Tk w l mn mx)
 | [],_,_=>by unfold Tk;exact Qy.no _
 | p::_,mn,mx=>by unfold Tk Pb;exact(Qy.pow (Kr w p) _).comp (Qy.pow ((Kr w p).or (Qy.id _)) _)
end
theorem Q4l(X Y Z:Qf):orB (orB X Y) Z=orB X (orB Y Z):=by funext a b;simp [orB,Bool.or_assoc]
theorem Q9d(X:Qf):orB X noB=X:=by funext a b;simp [orB,noB]
theorem Q8t(X:Qf):orB noB X=X:=by funext a b;simp [orB,noB]
end Go.Ab
namespace Go.Ab
open Go.RowKit
universe u
theorem pq:(∀(l:List Value) (i:Nat) (a:Value),l.toArray.setIfInBounds i a=(l.set i a).toArray)/\(∀(x:Value) (l:List Value) (a:Value),(x::l).set 0 a=a::l)/\(∀(x:Value) (l:List Value) (i:Nat) (a:Value),(x::l).set (i+1) a=x::l.set i a):=
 ⟨fun _ _ _=>List.setIfInBounds_toArray ..,fun _ _ _=>rfl,fun _ _ _ _=>rfl⟩
theorem tkH{P:Program}{md:Region.Mode}{ops:Array Oper}{Q:Exit->Act->World->Prop}{S:World->Prop}{i d:Nat}{oi:Oper}{v:Value}{fuel:Nat}{listed:Array Bool}{a:Act}{w:World}(hi:ops[i]?=some oi)
  (hy:YieldsIf P ops S oi v a) (hS:S w) (h:wpAnyH P md ops Q S fuel (listed.setIfInBounds i true) (a.put (some d) v) w)
  (hs:Region.noSelect ops=true:=by kernel_rfl) (hf:Region.free md ops listed i=true:=by kernel_rfl) (hr:(Region.ready md ops listed).contains i=true:=by kernel_rfl) (hd:oi.dst=some d:=by rfl)
  (hQ:∀ c a w,Q (.panic c) (a.put (some d) v) w->Q (.panic c) a w:=by exact fun _ _ _ h=>h):wpAnyH P md ops Q S (fuel+1) listed a w:=
 wpAnyH_take hi hs hf hr (by rw [hd];exact hQ) hy hS (by rw [hd];exact h)
theorem tH(i d:Nat){P:Program}{md:Region.Mode}{ops:Array Oper}{Q:Exit->Act->World->Prop}{S:World->Prop}{oi:Oper}{v:Value}{fuel:Nat}{listed:Array Bool}{a a':Act}{w:World}
  (hS:S w) (h:wpAnyH P md ops Q S fuel (listed.setIfInBounds i true) a' w) (hi:ops[i]?=some oi:=by exact rfl)
  (hy:YieldsIf P ops S oi v a:=by(exact Or.inl ⟨by rfl,by(intro w hSw;(try dsimp only at hSw);go_simp;try with_reducible rfl)⟩)) (ha:a.put (some d) v=a':=by((try simp only [Act.put,pq]);exact rfl))
  (hs:Region.noSelect ops=true:=by kernel_rfl) (hf:Region.free md ops listed i=true:=by kernel_rfl) (hr:(Region.ready md ops listed).contains i=true:=by kernel_rfl) (hd:oi.dst=some d:=by rfl)
  (hQ:∀ c a w,Q (.panic c) (a.put (some d) v) w->Q (.panic c) a w:=by exact fun _ _ _ h=>h):wpAnyH P md ops Q S (fuel+1) listed a w:=
 wpAnyH_take hi hs hf hr (by rw [hd];exact hQ) hy hS (by rw [hd,ha];exact h)
theorem rH(rs:List Nat){P:Program}{md:Region.Mode}{ops:Array Oper}{Q:Exit->Act->World->Prop}{S:World->Prop}{fuel:Nat}{listed:Array Bool}{a:Act}{w:World}
  (h:AllReadyH P md ops Q S fuel listed a w rs) (hr:Region.ready md ops listed=rs:=by kernel_rfl) (hne:rs≠[]:=by simp):wpAnyH P md ops Q S (fuel+1) listed a w:=wpAnyH_ready hr hne h
theorem oz{p:Prop}(h:p:=by omega):p:=h
theorem kz{p:Prop}(h:p:=by kernel_rfl):p:=h
theorem zd{p:Prop}(h:p:=by decide):p:=h
theorem tz{p:Prop}(h:p:=by first | rfl | trivial):p:=h
theorem uz{p:Prop}(h:p:=by first | trivial | rfl):p:=h
theorem mz{p:Prop}(h:p:=by first | (simp [intOf];done) | (simp [intOf];omega)):p:=h
theorem nz{p:Prop}(h:p:=by simp [intOf];omega):p:=h
theorem iw{c a b:Prop} [Decidable c] (h:c) (k:a):if c then a else b:=by rw [if_pos h];exact k
theorem zE{α:Sort u}(a:α):∃ x,a=x:=⟨a,rfl⟩
theorem zV(a a':Option Addr)(b b' c c':Nat):(Value.slice a b c=Value.slice a' b' c')=(a=a'/\b=b'/\c=c'):=Value.slice.injEq ..
theorem zy{p:Prop}(h:p:=by simp):p:=h
theorem zr{p:Prop}(h:p:=by first | rfl | simp):p:=h
theorem zS:(∀ l:List Value,l.toArray.size=l.length)/\(∀(a:Value) (l:List Value),(a::l).length=l.length+1)/\(([]:List Value).length=0)/\(∀(n:Nat) (a:Value),Array.replicate (n+1) a=(Array.replicate n a).push a)/\(∀ a:Value,Array.replicate 0 a=#[])/\(∀(l:List Value) (a:Value),l.toArray.push a=(l++[a]).toArray)/\(∀ l m:List Value,l.toArray++m.toArray=(l++m).toArray)/\(∀ l:List Value,[]++l=l)/\(∀(a:Value) (l m:List Value),(a::l)++m=a::(l++m)):=
 ⟨fun _=>rfl,fun _ _=>rfl,rfl,fun _ _=>Array.replicate_succ ..,fun _=>Array.replicate_zero ..,fun _ _=>List.push_toArray ..,fun _ _=>List.append_toArray ..,fun _=>rfl,fun _ _ _=>rfl⟩
theorem zR{w:World}{g:Nat}{cs:Array Value}{t:TypeId}{fr:Nat × Nat}(h:w.heap[g]?=some (.cells cs t fr)) (j:Nat):w.cell? ⟨g,j,none⟩=cs[j]?:=cell_of_row _ _ j _ _ _ h
theorem Zh3{p q r:Prop}(a:p)(b:q)(c:r):Hid p/\Hid q/\Hid r:=⟨a,b,c⟩
theorem Zh4{p q r s:Prop}(a:p)(b:q)(c:r)(d:s):Hid p/\Hid q/\Hid r/\Hid s:=⟨a,b,c,d⟩
theorem Zh5{p q r s t:Prop}(a:p)(b:q)(c:r)(d:s)(e:t):Hid p/\Hid q/\Hid r/\Hid s/\Hid t:=⟨a,b,c,d,e⟩
theorem Zh6{p q r s t v:Prop}(a:p)(b:q)(c:r)(d:s)(e:t)(f:v):Hid p/\Hid q/\Hid r/\Hid s/\Hid t/\Hid v:=⟨a,b,c,d,e,f⟩
theorem Zh7{p q r s t v x:Prop}(a:p)(b:q)(c:r)(d:s)(e:t)(f:v)(g:x):Hid p/\Hid q/\Hid r/\Hid s/\Hid t/\Hid v/\Hid x:=⟨a,b,c,d,e,f,g⟩
theorem Zh8{p q r s t v x y:Prop}(a:p)(b:q)(c:r)(d:s)(e:t)(f:v)(g:x)(h:y):Hid p/\Hid q/\Hid r/\Hid s/\Hid t/\Hid v/\Hid x/\Hid y:=⟨a,b,c,d,e,f,g,h⟩
theorem Zh{p:Prop}(h:p):Hid p:=h
end Go.Ab
namespace Go.Ab
open Go.RowKit
structure Q0 (S:Nat->Prop) (A B:World):Prop where
 os:B.os=A.os
 tape:B.tape=A.tape
 output:B.output=A.output
 size:A.heap.size<=B.heap.size
 block:∀ b,b<A.heap.size->¬ S b->B.heap[b]?=A.heap[b]?
theorem Q0.refl(S:Nat->Prop)(A:World):Q0 S A A:=⟨rfl,rfl,rfl,Nat.le_refl _,fun _ _ _=>rfl⟩
theorem Q0.trans{S:Nat->Prop}{A B C:World}(h:Q0 S A B)(k:Q0 S B C):Q0 S A C:=
 ⟨k.os.trans h.os,k.tape.trans h.tape,k.output.trans h.output,Nat.le_trans h.size k.size,
  fun b hb hS=>(k.block b (Nat.lt_of_lt_of_le hb h.size) hS).trans (h.block b hb hS)⟩
theorem Q0.mono{S T:Nat->Prop}{A B:World}(h:Q0 S A B)(hst:∀ b,b<A.heap.size->S b->T b):Q0 T A B:=
 ⟨h.os,h.tape,h.output,h.size,fun b hb hT=>h.block b hb fun hs=>hT (hst b hb hs)⟩
theorem Q0.heap{S:Nat->Prop}{A B:World}(h:Q0 S A B){b:Nat}{o:Obj}(hb:A.heap[b]?=some o)(hS:¬ S b):B.heap[b]?=some o:=
 (h.block b (Array.getElem?_eq_some_iff.1 hb).1 hS).trans hb
theorem Q0.cell{S:Nat->Prop}{A B:World}(h:Q0 S A B){p:Addr}(hb:p.block<A.heap.size)(hS:¬ S p.block):B.cell? p=A.cell? p:=
 World.cell?_of_block (w:=A) (h.block p.block hb hS)
theorem Q0.cell_some{S:Nat->Prop}{A B:World}(h:Q0 S A B){p:Addr}{v:Value}(a:A.cell? p=some v)(b:¬ S p.block):B.cell? p=some v:=by
 have c:p.block<A.heap.size:=by
  apply Nat.lt_of_not_le;intro d;simp [World.cell?,Array.getElem?_eq_none d] at a
 rw [h.cell c b];exact a
theorem Q0.frozen{S:Nat->Prop}{A B:World}(h:Q0 S A B){p:Addr}(hb:p.block<A.heap.size)(hS:¬ S p.block):B.frozen? p=A.frozen? p:=
 World.frozen?_of_block (w:=A) (h.block p.block hb hS)
theorem Q0.alloc{S:Nat->Prop}{A B:World}(h:Q0 S A B)(o:Obj):Q0 S A (B.alloc o):=
 h.trans ⟨rfl,rfl,rfl,by simp,fun b hb _=>Below.heap_alloc _ _ _ hb⟩
theorem Q0.drew{S:Nat->Prop}{A B:World}(h:Q0 S A B):Q0 S A B.drew:=⟨h.os,h.tape,h.output,h.size,h.block⟩
theorem Q0.drewN{S:Nat->Prop}{A B:World}(h:Q0 S A B)(n:Nat):Q0 S A (B.drewN n):=⟨h.os,h.tape,h.output,h.size,h.block⟩
theorem Q0.setCell{S:Nat->Prop}{A B:World}(h:Q0 S A B){p:Addr}(hp:A.heap.size<=p.block\/S p.block)(u:Value):Q0 S A (B.setCell p u):=
 ⟨h.os,h.tape,h.output,by simpa [World.setCell] using h.size,fun b hb hS=>by
  rw [Below.heap_setCell _ _ _ _ (by rintro rfl;rcases hp with hp | hp;omega;exact hS hp)];exact h.block b hb hS⟩
theorem Q0.set1(A:World)(b o:Nat)(v:Value):Q0 (fun x=>x=b) A (A.setCell ⟨b,o,none⟩ v):=(Q0.refl (fun x=>x=b) A).setCell (p:=⟨b,o,none⟩) (.inr rfl) v
theorem Q0.putObj{S:Nat->Prop}{A B:World}(h:Q0 S A B){r:Nat}(hp:A.heap.size<=r\/S r)(o:Obj):Q0 S A (B.putObj r o):=
 ⟨h.os,h.tape,h.output,by simpa using h.size,fun b hb hS=>by
  rw [World.putObj_heap_other (by rintro rfl;rcases hp with hp | hp;omega;exact hS hp)];exact h.block b hb hS⟩
theorem Q0.below{S:Nat->Prop}{A B:World}(h:Q0 S A B)(hS:∀ b,b<A.heap.size->¬ S b):Below A.heap.size A B:=
 ⟨h.os,h.tape,h.output,h.size,fun b hb=>h.block b hb (hS b hb)⟩
theorem Q0.grown{S:Nat->Prop}{A B C:World}{row:Option Nat}(h:Q0 S A B)(hg:B.grownBy C row)(hr:∀ k,row=some k->A.heap.size<=k\/S k):Q0 S A C:=
 ⟨hg.os.trans h.os,hg.tape.trans h.tape,hg.output.trans h.output,Nat.le_trans h.size hg.size,fun b hb hS=>by
  rw [hg.block b (Nat.lt_of_lt_of_le hb h.size) (fun e=>by rcases hr b e.symm with hh | hh;omega;exact hS hh)];exact h.block b hb hS⟩
abbrev Ext(A B:World):Prop:=Q0 (fun _=>False) A B
theorem Ext.of{S:Nat->Prop}{A B:World}(h:Ext A B):Q0 S A B:=h.mono fun _ _ h=>h.elim
theorem Ext.keep{A B:World}(h:Ext A B){b:Nat}{o:Obj}(hb:A.heap[b]?=some o):B.heap[b]?=some o:=Q0.heap h hb (fun h=>h)
theorem Q0.after{S T:Nat->Prop}{w A B:World}(h:Q0 S w A)(k:Q0 T A B)(hT:∀ b,b<w.heap.size->T b->S b):Q0 S w B:=
 ⟨k.os.trans h.os,k.tape.trans h.tape,k.output.trans h.output,Nat.le_trans h.size k.size,
  fun b hb hS=>(k.block b (Nat.lt_of_lt_of_le hb h.size) fun ht=>hS (hT b hb ht)).trans (h.block b hb hS)⟩
theorem Mp{a b:Bool}(h:a=b):Ending.returned (.bool a)=.returned (.bool b):=by rw [h]
theorem Zk{k:IntKind}{a b:Int}(h:a=b):Ending.returned (.int k a)=.returned (.int k b):=by rw [h]
theorem new_at{A:World}{n:Nat}{o:Obj}(h:n=A.heap.size):(A.alloc o).heap[n]?=some o:=by subst h;exact World.alloc_heap_new _ _
theorem Q7{A:World}{n:Nat}{o o':Obj}(h:A.heap[n]?=some o'):(A.alloc o).heap[n]?=some o':=
 (Below.heap_alloc _ _ _ (Array.getElem?_eq_some_iff.1 h).1).trans h
theorem Xw{A:World}{n:Nat}{o:Obj}(h:A.heap[n]?=some o):A.drew.heap[n]?=some o:=h
theorem Z6(f:FuncId):Fence.wide.fn f=True:=rfl
theorem Qn:Fence.wide.depth=none:=rfl
def Qz(base:Nat):List Deferred->World->Prop
 | [],_=>True
 | d::ds,w=>∃ r,base<=r/\d={ target:=.collected r,args:=#[] }/\w.heap[r]?=some (.deferred (some []))/\(∀ e∈ds,e.target≠.collected r)/\Qz base ds w
theorem Qz.keep{base:Nat}{S:Nat->Prop}:∀ {ds:List Deferred} {A B:World},Qz base ds A->Q0 S A B->(∀ b,S b->∀ o,A.heap[b]?=some o->o.isCells=true)->Qz base ds B
 | [],_,_,_,_,_=>trivial
 | d::ds,A,B,⟨r,h1,h2,h3,h4,h5⟩,ht,hS=>
  ⟨r,h1,h2,ht.heap h3 (fun hs=>by have:=hS r hs _ h3;simp [Obj.isCells] at this),h4,h5.keep ht hS⟩
theorem Qz.keep'{base:Nat}{S:Nat->Prop}:∀ {ds:List Deferred} {A B:World},Qz base ds A->Q0 S A B->(∀ b,S b->∀ e∈ds,e.target≠.collected b)->Qz base ds B
 | [],_,_,_,_,_=>trivial
 | d::ds,A,B,⟨r,h1,h2,h3,h4,h5⟩,ht,hS=>
  ⟨r,h1,h2,ht.heap h3 (fun hs=>hS r hs d (List.mem_cons_self ..) (by rw [h2])),h4,h5.keep' ht (fun b hb e he=>hS b hb e (List.mem_cons_of_mem _ he))⟩
theorem Qz.lt{base:Nat}:∀ {ds:List Deferred} {A:World},Qz base ds A->∀ e∈ds,∀ r,e.target=.collected r->r<A.heap.size
 | [],_,_,_,he,_,_=>by cases he
 | d::ds,A,⟨r,h1,h2,h3,h4,h5⟩,e,he,q,hq=>by
  rcases List.mem_cons.1 he with rfl | he
  ·rw [h2] at hq;simp at hq;subst hq;exact(Array.getElem?_eq_some_iff.1 h3).1
  ·exact h5.lt e he q hq
theorem Qz.keepC{base N:Nat}{S:Nat->Prop}{a:List Deferred}{A B:World}(h:Qz base a A)(c:∀ e∈a,∀ r,e.target=.collected r->r<N)(q:Q0 S A B)
  (n:∀ b,S b->N<=b\/A.heap.size<=b\/∃ o,A.heap[b]?=some o/\o.isCells=true):Qz base a B:=by
 have j:∀(a:List Deferred),(∀ e∈a,∀ r,e.target=.collected r->r<N)->Qz base a A->Qz base a B:=by
  intro a
  induction a with
  | nil=>intro _ _;trivial
  | cons d a ih=>
   rintro c ⟨r,k,g,f,l,m⟩;refine⟨r,k,g,q.heap f (fun hs=>?_),l,ih (fun e he=>c e (List.mem_cons_of_mem _ he)) m⟩;rcases n r hs with h | h | ⟨o,i,p⟩
   ·have:=c d (List.mem_cons_self ..) r (by rw [g]);omega
   ·have:=(Array.getElem?_eq_some_iff.1 f).1;omega
   ·rw [f] at i;cases i;simp [Obj.isCells] at p
 exact j a c h
theorem Qz.fresh{base:Nat}{ds:List Deferred}{A:World}{r:Nat}(h:Qz base ds A)(hr:A.heap.size<=r):∀ e∈ds,e.target≠.collected r:=fun e he ht=>by
 have:=h.lt e he r ht;omega
theorem Qz.cons{base:Nat}{ds:List Deferred}{A:World}{r:Nat}(h:Qz base ds A)(hb:base<=r)(hr:A.heap[r]?=some (.deferred (some []))) (hn:∀ e∈ds,e.target≠.collected r) :
  Qz base ({ target:=.collected r,args:=#[] }::ds) A:=⟨r,hb,rfl,hr,hn,h⟩
def Shut(base:Nat)(w:World)(b:Nat):Prop:=base<=b/\∀ o,w.heap[b]?=some o->o.isCells=false
theorem Shut.not{base:Nat}{w:World}{b:Nat}{o:Obj}(hb:w.heap[b]?=some o)(ho:o.isCells=true):¬ Shut base w b:=fun h=>by
 have:=h.2 o hb;rw [ho] at this;cases this
theorem J8{P:Program}{fn:Func}{tmps:Array Value}{R:Ending->World->Prop}{v:Value}{base:Nat} :
  ∀(ds:List Deferred) (w:World),Qz base ds w->(∀ w',Q0 (Shut base w) w w'->w'.heap.size=w.heap.size->(results fn tmps).run P w'=.ok v w'/\R (.returned v) w') ->
   LeavesInM Fence.wide 0 P fn tmps R ds .returning w
 | [],w,_,h=>by
  obtain⟨h1,h2⟩:=h w (Q0.refl _ _) rfl;exact⟨v,h1,h2⟩
 | d::ds,w,⟨r,hb,hd,hr,hn,hm⟩,h=>by
  refine⟨by simp,.inl ⟨r,_,by rw [hd],run_takeDeferred hr,?_⟩⟩;refine J8 (v:=v) ds _ (hm.keep' (S:=(·=r)) ((Q0.refl (·=r) w).putObj (.inr rfl) _) (fun b e=>by subst e;exact hn)) ?_;intro w' ht hs;have hput:Q0 (Shut base w) w (w.putObj r (.deferred none)):=(Q0.refl _ w).putObj (.inr ⟨hb,fun o ho=>by rw [hr] at ho;cases ho;rfl⟩) _;refine h w' (hput.after ht fun b hlt hsh=>?_) (by rw [hs];simp);refine⟨hsh.1,fun o ho=>?_⟩;by_cases hbr:b=r
  ·subst hbr;rw [hr] at ho;cases ho;rfl
  ·exact hsh.2 o (by rw [World.putObj_heap_other hbr];exact ho)
theorem Zr{P:Program}{f:FuncId}{fn:Func}{c:Code}{args:Array Value}{w:World}{R:Ending->World->Prop}
  (hf:P.funcs[f]?=some fn) (hb:fn.body=some c)
  (h:c.wp P (bodyPostM Fence.wide 0 P fn R) { tmps:=args++Array.replicate (fn.ntmps - args.size) undef,defers:=[] } w):Calls P f args w R:=
 callsIn_wide.1 (callsIn_of_wp_marks (n:=0) hf hb trivial (wpIn_wide.2 h))
theorem Jq{P:Program}{fn:Func}{R:Ending->World->Prop}{a:Act}{w:World}{v:Value}{base:Nat}(hm:Qz base a.defers w)
  (hr:∀ w',(results fn a.tmps).run P w'=.ok v w') (hR:∀ w',Q0 (Shut base w) w w'->w'.heap.size=w.heap.size->R (.returned v) w') :
  bodyPostM Fence.wide 0 P fn R .ret a w:=J8 _ _ hm fun w' ht hs=>⟨hr w',hR w' ht hs⟩
theorem Z8{t:Array Value}{n:Nat}(h:t.size=n):∃ u:Nat->Value,t=((List.range n).map u).toArray:=
 ⟨fun i=>t.getD i undef,by
  apply Array.ext
  ·simp [h]
  ·intro i h1 h2;simp [Array.getD,h1]⟩
def gS(a:Act)(l:List Nat):Nat × List Value:=(a.tmps.size,l.map fun i=>a.tmps.getD i undef)
def frL(u:Nat->Value):List (Nat × Value)->Nat->Nat->List Value
 | _,_,0=>[]
 | [],i,n+1=>u i::frL u [] (i+1) n
 | (j,v)::L,i,n+1=>if j=i then v::frL u L (i+1) n else u i::frL u ((j,v)::L) (i+1) n
theorem fq:(∀ u L i,frL u L i 0=[])/\(∀ u i n,frL u [] i (n+1)=u i::frL u [] (i+1) n)/\(∀ u j v L i n,frL u ((j,v)::L) i (n+1)=if j=i then v::frL u L (i+1) n else u i::frL u ((j,v)::L) (i+1) n)/\(∀(x:Nat) l (y:Value) m,List.zip (x::l) (y::m)=(x,y)::List.zip l m)/\(∀ m:List Value,List.zip ([]:List Nat) m=[]):=
 ⟨fun _ L _=>by cases L <;> rfl,fun _ _ _=>rfl,fun _ _ _ _ _ _=>rfl,fun _ _ _ _=>rfl,fun _=>rfl⟩
theorem Nr(u:Nat->Value):∀(n i:Nat) (L:List (Nat × Value)),(∀ p∈L,u p.1=p.2)->frL u L i n=(List.range' i n).map u
 | 0,_,L,_=>by cases L <;> rfl
 | n+1,i,[],_=>by rw [fq.2.1,Nr u n _ [] (fun _ h=>by cases h),List.range'_succ,List.map_cons]
 | n+1,i,(j,v)::L,h=>by
  rw [fq.2.2.1,List.range'_succ,List.map_cons]
  split
  ·rename_i hj
   subst hj;rw [Nr u n _ L (fun p hp=>h p (by simp [hp])),h (j,v) zy]
  ·rw [Nr u n _ _ h]
theorem Q99{t:Array Value}{d:List Deferred}{l:List Nat}{n:Nat}{vs:List Value}(h:gS ⟨t,d⟩ l=(n,vs)):∃ u:Nat->Value,t=(frL u (l.zip vs) 0 n).toArray:=by
 unfold gS at h;simp only [Prod.mk.injEq] at h;obtain⟨b,rfl⟩:=h;refine⟨fun a=>t.getD a undef,?_⟩;rw [Nr _ n 0 _ (fun p hp=>?_),<-List.range_eq_range']
 ·apply Array.ext
  ·simp [b]
  ·intro a c e;simp [Array.getD,c]
 ·obtain⟨a,f,rfl⟩:=List.mem_iff_getElem.1 hp;simp
theorem Qt{t:Array Value}{d:List Deferred}{l:List Nat}{n:Nat}{vs:List Value}{F:(Nat->Value)->List Value} (h:gS ⟨t,d⟩ l=(n,vs))
  (e:∀ u,frL u (l.zip vs) 0 n=F u:=by(intro u;simp only [fq,Nat.reduceAdd,Nat.reduceEqDiff,if_true,if_false];exact rfl)):∃ u,t=(F u).toArray:=by
 obtain⟨u,a⟩:=Q99 h;exact⟨u,by rw [a,e]⟩
def Q1i{α:Type}(P:Program)(gf:Nat)(lb:Array Value)(encs:α->Array Value)(xs:List α)(S K:Nat->Prop)(w:World):Prop:=
 ∀(l:Nat) (J Jx:List α->World->Prop) (W:World),Q0 (fun b=>¬ K b) w W ->
  (∀ pre A B,J pre A->Q0 S A B->J pre B)->(∀ pre A B,Jx pre A->Q0 S A B->Jx pre B) ->
  (∀ pre x rest A,xs=pre++x::rest->J pre A->YieldAt Fence.wide 0 P l (encs x) A fun e B=>
   (e=.returned (.bool true)/\J (pre++[x]) B/\Q0 (fun b=>¬ K b) A B)\/(e=.returned (.bool false)/\Jx (pre++[x]) B)) ->
  J [] W ->
  Calls P gf (#[.func (.yield l) #[] #[]]++lb) W fun e B=>(∃ v,e=.returned v)/\(J xs B\/∃ pre x rest,xs=pre++x::rest/\Jx (pre++[x]) B)
def Nn{α:Type}(K:Nat->Prop)(I:List α->World->Prop)(Ix:Code->List α->World->Prop)(xs:List α)(W:World):Exit->Act->World->Prop
 | .normal,_,W'=>Q0 (fun b=>¬ K b) W W'/\I xs W'
 | .ret,_,W'=>Q0 (fun b=>¬ K b) W W'/\Ix .ret xs W'
 | .exit id,_,W'=>Q0 (fun b=>¬ K b) W W'/\Ix (.exit id) xs W'
 | .goto t,_,W'=>Q0 (fun b=>¬ K b) W W'/\Ix (.goto t) xs W'
 | .panic _,_,_=>False
 | .outgrown,_,_=>False
theorem Tf{α:Type}{P:Program}{g:Operand}{ps:Array Tmp}{assign body:Code}{Q:Exit->Act->World->Prop}{a:Act}{w:World}
  {gf:Nat} {lb:Array Value} (b7:a.eval g=.func (.func gf) #[] lb) (a5:∀ args w,(callFunc gf args).run P w=.ok (.enter gf args) w)
  {H:α->Array Value} {xs:List α} {S K:Nat->Prop} (c2:Q1i P gf lb H xs S K w) (b1:∀ b,S b->K b) (a2:∀ b,K b->b<w.heap.size) (c0:∀ x,(H x).size=ps.size)
  (I:List α->World->Prop) (C:Code->List α->World->Prop)
  (L:∀ pre A B,I pre A->Q0 (fun b=>S b\/b=w.heap.size+1) A B->I pre B)
  (D:∀ c pre A B,C c pre A->Q0 (fun b=>S b\/b=w.heap.size+1) A B->C c pre B)
  (a6:∀ W,Ext w W->W.heap.size=w.heap.size+2->I [] W) (a4:α->Array Value->Array Value)
  (b2:∀(x:α) (W:World) (Kn:Act->World->Prop),Kn { tmps:=a4 x a.tmps,defers:=[] } W ->
   assign.wpIn (Fence.wide.inRound (w.heap.size+1)) 0 P (Exit.then Kn (fun _ _ _=>False)) { tmps:=(ps.zip (H x)).foldl (fun t (p,v)=>t.setIfInBounds p v) a.tmps,defers:=[] } W)
  (b3:∀(pre:List α) (x:α) (rest:List α) (W:World),xs=pre++x::rest->w.heap.size+2<=W.heap.size->Q0 (fun b=>¬ K b\/S b) w W->I pre W ->
   body.wpIn (Fence.wide.inRound (w.heap.size+1)) 0 P (Nn (fun b=>K b\/b=w.heap.size\/b=w.heap.size+1) I C (pre++[x]) W) { tmps:=a4 x a.tmps,defers:=[] } W)
  (b6:∀ W,I xs W->Q0 (fun b=>¬ K b\/S b) w W->W.heap[w.heap.size]?=some (.deferred (some []))->Q .normal { a with defers:={ target:=.collected w.heap.size,args:=#[] }::a.defers } W)
  (c3:∀ c pre x rest W,xs=pre++x::rest->C c (pre++[x]) W->W.heap[w.heap.size]?=some (.deferred (some []))->c.wp P Q { a with defers:={ target:=.collected w.heap.size,args:=#[] }::a.defers } W) :
  (Code.rangeFunc g ps assign body).wp P Q a w:=by
 refine(wpIn_wide (n:=0)).1 (wpIn_rangeFunc ?_);intro fn _;obtain⟨e,k⟩:∃ e:LoopState->Option Code->Loop,e=fun st pe=>{ state:=st,pending:=pe,fn,tmps:=a.tmps,params:=ps,assign,body,defers:=w.heap.size }:=⟨_,rfl⟩;obtain⟨j,E⟩:=zE ((w.alloc (.deferred (some []))).alloc (.loop (e .ready none)));have b0:j.heap[w.heap.size+1]?=some (.loop (e .ready none)):=by
  rw [<-E];have:=World.alloc_heap_new (w.alloc (.deferred (some []))) (.loop (e .ready none));rwa [World.size_alloc] at this
 have a9:j.heap[w.heap.size]?=some (.deferred (some [])):=by
  rw [<-E];exact(Below.heap_alloc _ _ _ zy).trans (World.alloc_heap_new w _)
 have T:Ext w j:=by rw [<-E];exact((Q0.refl _ w).alloc _).alloc _
 have c1:j.heap.size=w.heap.size+2:=by rw [<-E];simp
 have M:∀ b,S b->b≠w.heap.size+1/\b≠w.heap.size:=fun b hb=>by have:=a2 b (b1 b hb);omega
 refine⟨w.heap.size+1,[{ target:=.collected w.heap.size,args:=#[] }],j,{ target:=.fn (.func gf) lb,args:=#[.func (.yield (w.heap.size+1)) #[] #[]] },j,gf,
  #[.func (.yield (w.heap.size+1)) #[] #[]]++lb,j,?_,?_,fun _ _=>trivial,?_,fun h=>by simp [Fence.wide] at h,?_⟩
 ·rw [<-E,k];exact run_enterLoop_outer _ _ _ _ _
 ·simp only [resolve,b7];simp [go_sem]
 ·simp [invoke,go_sem,a5]
 ·refine callsIn_wide.2 ((c2 (w.heap.size+1)
   (fun pre W=>I pre W/\W.heap[w.heap.size+1]?=some (.loop (e .ready none))/\W.heap[w.heap.size]?=some (.deferred (some []))/\Q0 (fun b=>¬ K b\/S b) w W/\w.heap.size+2<=W.heap.size)
   (fun pre W=>∃ c,C c pre W/\W.heap[w.heap.size+1]?=some (.loop (e .done (some c)))/\W.heap[w.heap.size]?=some (.deferred (some [])))
   j T.of ?_ ?_ ?_ ⟨a6 _ T c1,b0,a9,T.of,by omega⟩).mono ?_)
  ·rintro pre A B ⟨N,O,R,a7,a8⟩ f;exact⟨L _ _ _ N (f.mono fun b _ hb=>.inl hb),f.heap O (fun hb=>(M _ hb).1 rfl),f.heap R (fun hb=>(M _ hb).2 rfl),a7.after f (fun b _ hb=>.inr hb),Nat.le_trans a8 f.size⟩
  ·rintro pre A B ⟨c,N,O,R⟩ f;exact⟨c,D _ _ _ _ N (f.mono fun b _ hb=>.inl hb),f.heap O (fun hb=>(M _ hb).1 rfl),f.heap R (fun hb=>(M _ hb).2 rfl)⟩
  ·rintro pre x rest W Y ⟨G,u,F,f,V⟩;have b9:w.heap.size+1<W.heap.size:=by omega
   have Z:=run_yield (P:=P) (args:=H x) u (by rw [k];exact c0 x);rw [k] at Z;refine⟨fn,_,assign,body,Z,roundIn_of_wpIn trivial (b2 x W _ ?_)⟩;clear Z;refine⟨_,run_beginRound u (by rw [k]),?_⟩;have b8:(W.putObj (w.heap.size+1) (.loop { e .ready none with state:=.busy })).heap[w.heap.size+1]?=some (.loop { e .ready none with state:=.busy }):=World.putObj_heap_same b9;have b4:(W.putObj (w.heap.size+1) (.loop { e .ready none with state:=.busy })).heap[w.heap.size]?=some (.deferred (some [])):=(World.putObj_heap_other oz).trans F;have l:∀(X:World) o,Q0 (fun b=>S b\/b=w.heap.size+1) X (X.putObj (w.heap.size+1) o):=fun X o=>(Q0.refl _ X).putObj (.inr (.inr rfl)) o;have U:∀(X:World) o,Q0 (fun b=>¬ K b) X (X.putObj (w.heap.size+1) o):=fun X o=>(Q0.refl _ X).putObj (.inr (fun hk=>by have:=a2 _ hk;omega)) o;refine wpIn_mono (b3 pre x rest _ Y (by simpa using V) (f.after (U W _) (fun b _ hb=>.inl hb)) (L _ _ _ G (l W _))) ?_
   have J:∀(jump:Option Code) (d:World),Q0 (fun b=>¬ (K b\/b=w.heap.size\/b=w.heap.size+1)) (W.putObj (w.heap.size+1) (.loop { e .ready none with state:=.busy })) d ->
     (Instr.endRound (w.heap.size+1) jump).run P d=.ok (.bool jump.isNone) (d.putObj (w.heap.size+1) (.loop (e (if jump.isNone then .ready else .done) jump))) /\
     (d.putObj (w.heap.size+1) (.loop (e (if jump.isNone then .ready else .done) jump))).heap[w.heap.size+1]?=some (.loop (e (if jump.isNone then .ready else .done) jump)) /\
     (d.putObj (w.heap.size+1) (.loop (e (if jump.isNone then .ready else .done) jump))).heap[w.heap.size]?=some (.deferred (some [])) /\
     Q0 (fun b=>¬ K b) W (d.putObj (w.heap.size+1) (.loop (e (if jump.isNone then .ready else .done) jump))):=fun jump d i=>by
    have a3:=i.heap b8 (fun h=>h (.inr (.inr rfl)));have b5:=i.heap b4 (fun h=>h (.inr (.inl rfl)));have:=run_endRound (P:=P) jump a3;rw [k] at this ⊢;refine⟨this,World.putObj_heap_same (Array.getElem?_eq_some_iff.1 a3).1,(World.putObj_heap_other oz).trans b5,?_⟩;exact((U W _).trans (i.mono fun b _ hb hk=>hb (.inl hk))).trans (U d _)
   rintro a1 c4 d y;cases a1 with
   | normal=>
    obtain⟨i,q⟩:=y;obtain⟨s,r,m,z⟩:=J none d i;exact⟨_,_,s,.inl ⟨rfl,⟨L _ _ _ q (l d _),r,m,f.after z (fun b _ hb=>.inl hb),Nat.le_trans V z.size⟩,z⟩⟩
   | ret=>
    obtain⟨i,q⟩:=y;obtain⟨s,r,m,z⟩:=J (some .ret) d i;exact⟨_,_,s,.inr ⟨rfl,.ret,D _ _ _ _ q (l d _),r,m⟩⟩
   | exit id=>
    obtain⟨i,q⟩:=y;obtain⟨s,r,m,z⟩:=J (some (.exit id)) d i;exact⟨_,_,s,.inr ⟨rfl,.exit id,D _ _ _ _ q (l d _),r,m⟩⟩
   | goto t=>
    obtain⟨i,q⟩:=y;obtain⟨s,r,m,z⟩:=J (some (.goto t)) d i;exact⟨_,_,s,.inr ⟨rfl,.goto t,D _ _ _ _ q (l d _),r,m⟩⟩
   | panic ch=>exact y.elim
   | outgrown=>exact y.elim
  ·have l:∀(X:World) o,Q0 (fun b=>S b\/b=w.heap.size+1) X (X.putObj (w.heap.size+1) o):=fun X o=>(Q0.refl _ X).putObj (.inr (.inr rfl)) o;rintro a1 a0 ⟨⟨v,rfl⟩,(⟨G,u,F,f,V⟩ | ⟨pre,x,rest,Y,c,G,u,F⟩)⟩
   ·refine⟨none,_,by have:=run_endLoop (P:=P) u (by rw [k];simp);rw [k] at this;exact this,?_⟩;exact b6 _ (L _ _ _ G (l a0 _)) (f.putObj (.inl oz) _) ((World.putObj_heap_other oz).trans F)
   ·refine⟨some c,_,by have:=run_endLoop (P:=P) u (by rw [k];simp);rw [k] at this;exact this,?_⟩;exact(wpIn_wide (n:=0)).2 (c3 c pre x rest _ Y (D _ _ _ _ G (l a0 _)) ((World.putObj_heap_other oz).trans F))
end Go.Ab
namespace Go.Ab
open Go.RowKit
variable {P:Program} {ops:Array Oper} {Q:Exit->Act->World->Prop}
theorem Eh{o:Oper}{a:Act}{w:World}{K:Act->World->Prop}{l n:Nat}(d:∀ c,o.op≠.defer c)(b:¬ LetsOut Q)
  (h:o.wp P a w K Q\/(o.asks P a w/\LetsOut Q)):o.wpIn (Fence.wide.inRound l) n P a w K Q:=by
 have h:=h.resolve_right fun h=>b h.2;refine⟨fun _ _=>trivial,?_⟩;rw [Oper.semAt_eq _ _ _ d];unfold Oper.wp at h;generalize (execOp a.eval o).run P w=e at *;cases e with
 | ok x w'=>
  cases x <;> simp only [Oper.upon,Oper.uponIn] at h ⊢ <;> first
   | exact h
   | exact⟨fun hh=>by simp [Fence.wide] at hh,(callsIn_wide.2 h).inRound l⟩
   | exact⟨fun hh=>by simp [Fence.wide] at hh,fun c cs _=>let ⟨v,w'',hR,hs⟩:=h c cs;⟨v,w'',hR,stepsIn_wide.2 hs⟩⟩
 | halt x w'=>cases x <;> simp only [Oper.upon,Oper.uponIn] at h ⊢ <;> exact h
def Ug(ops:Array Oper):Bool:=ops.all fun o=>match o.op with | .defer _=>false | _=>true
theorem Tr(h:Ug ops=true){i:Nat}{o:Oper}(a:ops[i]?=some o)(c:Call):o.op≠.defer c:=by
 intro b;have:=Array.all_eq_true.1 h i (Array.getElem?_eq_some_iff.1 a).1;rw [(Array.getElem?_eq_some_iff.1 a).2,b] at this;simp at this
theorem Mj{l n:Nat}(g:Ug ops=true)(f:¬ LetsOut Q){i:Nat}{K d:Act->World->Prop}{a:Act}{w:World}(e:∀ a w,K a w->d a w)
  (h:wpOp P ops Q i K a w):wpOpIn (Fence.wide.inRound l) n P ops Q i d a w:=by
 have h:=wpOp_mono e h;unfold wpOp at h;unfold wpOpIn
 split
 ·rename_i b;rw [b] at h;exact h
 ·rename_i j b
  rw [b] at h;simp only at h
  split
  ·rename_i c;rw [if_pos c] at h;exact Eh (Tr g b) f h
  ·rename_i c;rw [if_neg c] at h;exact⟨fun _ _=>trivial,h⟩
theorem Ld{l n:Nat}{md:Region.Mode}(hd:Ug ops=true)(hQ:¬ LetsOut Q):∀(f:Nat) (listed:Array Bool) (a:Act) (w:World),
  wpAny P md ops Q f listed a w->wpAnyIn (Fence.wide.inRound l) n P md ops Q f listed a w
 | 0,_,_,_,h=>h
 | f+1,_,_,_,h=>⟨h.1,fun i hi=>Mj hd hQ (fun a w h=>Ld hd hQ f _ a w h) (h.2 i hi)⟩
theorem Lk{l n:Nat}(hd:Ug ops=true)(hQ:¬ LetsOut Q):∀(is:List Nat) (a:Act) (w:World),
  wpOps P ops Q is a w->wpOpsIn (Fence.wide.inRound l) n P ops Q is a w
 | [],_,_,h=>h
 | i::is,a,w,h=>by
  rw [wpOps_cons] at h;rw [wpOpsIn_cons];exact Mj hd hQ (fun a w h=>Lk hd hQ is a w h) h
theorem Uk{id l n:Nat}{a:Act}{w:World}{os:List Oper}(hd:Ug os.toArray=true)(hQ:¬ LetsOut Q)
  (h:wpList P os.toArray Q os a w):(Code.region id os.toArray false).wpIn (Fence.wide.inRound l) n P Q a w:=
 wpIn_region (Lk hd hQ _ _ _ (by
  have:=wpOps_eq_wpList (P:=P) (ops:=os.toArray) (Q:=Q) os 0 zy;rw [show List.range os.toArray.size=List.range' 0 os.length by simp [List.range_eq_range'],this];exact h))
theorem V1{id l n:Nat}{a:Act}{w:World}(hm:P.follows .mixedOrders=true)(hd:Ug ops=true)(hQ:¬ LetsOut Q)
  (h:wpAny P .any ops Q ops.size (Array.replicate ops.size false) a { w with drawn:=w.drawn+1 }):(Code.region id ops true).wpIn (Fence.wide.inRound l) n P Q a w:=
 wpIn_region_any hm (Ld hd hQ _ _ _ _ h)
theorem Wm{x k n:Nat}{a:Act}{w:World}{l:List Oper}(m:Nat)(s:P.follows .mixedOrders=true)(c:Region.lexTailB .any l.toArray m=true)(p:Ug l.toArray=true)(i:¬ LetsOut Q)
  (h:wpStill P l.toArray w.drew (fun a'=>wpList P l.toArray Q (l.drop m) a' w.drew) (l.take m) a):(Code.region x l.toArray true).wpIn (Fence.wide.inRound k) n P Q a w:=by
 simp only [Region.lexTailB,Bool.and_eq_true,decide_eq_true_eq] at c;obtain⟨⟨⟨⟨v,e⟩,u⟩,o⟩,r⟩:=c;have z:m<l.length:=by simpa using e
 have b:(l.take m).length=m:=by simp;omega
 have d:(l.drop m).length=l.toArray.size - m:=by simp
 have y:HeadInv .any l.toArray m (Array.replicate l.toArray.size false):=
  ⟨by simp,fun j oj _ hl=>(by rw [getD_replicate_false] at hl;cases hl),fun t _ ht=>getD_in (by simpa using ht) (getD_replicate_false _ _)⟩
 have f:=wpAnyL_lex (md:=.any) (g:=l.toArray.size - m) v u o e (l.take m) 0 _ a (fun j hj=>by
  have q:j<m:=by rw [b] at hj;exact hj
  simp [q]) (by simpa using b) y (by rw [b];exact r) h
 refine V1 s p i ?_
 have:=wpAny_of_head (Q':=Q) (g:=l.toArray.size - m) (fun listed a' hL=>by
  have:=wpAny_of_seq (md:=.any) (Q':=Q) (l.drop m) m listed a' { w with drawn:=w.drawn+1 } (fun j=>by simp [List.getElem?_drop]) (by rw [d];exact hL.1) hL.2
  rwa [d] at this) _ _ _ f
 rw [b,show m+(l.toArray.size - m)=l.toArray.size by omega] at this;exact this
theorem Hb{id:Nat}{a:Act}{w:World}{l:List Oper}(m:Nat)(hm:P.follows .mixedOrders=true)(hB:Region.lexTailB .any l.toArray m=true)
  (h:wpStill P l.toArray w.drew (fun a'=>wpList P l.toArray Q (l.drop m) a' w.drew) (l.take m) a):(Code.region id l.toArray true).wp P Q a w:=
 wp_region_still_tail m hm hB h
end Go.Ab
namespace Go.Ab
open Go.RowKit
def Rd(w:World)(v:Value)(n sz:Nat)(xs:List Value):Prop:=
 xs.length=n*sz/\n<=maxLen/\∃ ao cap,v=.slice ao n cap/\(0<n->∃ g off,ao=some ⟨g,off,none⟩/\g<w.heap.size/\∀ j,j<n*sz->w.cell? ⟨g,off+j,none⟩=some (xs.getD j undef))
theorem Rd.keep{S:Nat->Prop}{A B:World}{v:Value}{n sz:Nat}{xs:List Value}(h:Rd A v n sz xs)(b:Q0 S A B)(k:∀ g off len cap,v=.slice (some ⟨g,off,none⟩) len cap->¬ S g):Rd B v n sz xs:=by
 obtain⟨e,f,d,cap,c,i⟩:=h;refine⟨e,f,d,cap,c,fun hn=>?_⟩;obtain⟨g,off,a,m,l⟩:=i hn;exact⟨g,off,a,Nat.lt_of_lt_of_le m b.size,fun j hj=>b.cell_some (l j hj) (k g off n cap (by rw [c,a]))⟩
theorem Rd.ext{A B:World}{v:Value}{n sz:Nat}{xs:List Value}(h:Rd A v n sz xs)(ht:Ext A B):Rd B v n sz xs:=h.keep ht fun _ _ _ _ _ h=>h
theorem Rd.drewN{A:World}{v:Value}{n sz:Nat}{xs:List Value}(h:Rd A v n sz xs)(m:Nat):Rd (A.drewN m) v n sz xs:=h.ext ((Q0.refl _ A).drewN m)
theorem Rd.of_own{w:World}{base:Nat}{e:TypeId}{sz:Nat}{v:Value}{n:Nat}{xs:List Value}(h:w.ownsRow base e sz v n xs):Rd w v n sz xs:=by
 have b:=h.1;rcases h.2 with ⟨rfl,rfl⟩ | ⟨a,c,i,rfl,k,f,g,d,l,m⟩
 ·exact⟨b,by simp [maxLen],none,0,rfl,fun h=>by omega⟩
 ·refine⟨b,Nat.le_trans g d,some ⟨a,0,none⟩,c,rfl,fun _=>⟨a,0,rfl,(Array.getElem?_eq_some_iff.1 f).1,fun j hj=>?_⟩⟩;rw [Nat.zero_add,h.cellAt j hj,List.getD_eq_getElem?_getD];have:j<xs.length:=by omega
  simp [this]
theorem Qd{S:Nat->Prop}{A B:World}{base:Nat}{e:TypeId}{sz:Nat}{v:Value}{n:Nat}{xs:List Value}(h:A.ownsRow base e sz v n xs)(l:Q0 S A B)(d:∀ g,v.ownBlock=some g->¬ S g):B.ownsRow base e sz v n xs:=by
 obtain⟨j,c⟩:=h;refine⟨j,?_⟩;rcases c with ⟨rfl,rfl⟩ | ⟨g,a,b,rfl,f,i,k⟩
 ·exact .inl ⟨rfl,rfl⟩
 ·exact .inr ⟨g,a,b,rfl,f,l.heap i (d g rfl),k⟩
theorem Qb{A B:World}{base:Nat}{e:TypeId}{sz:Nat}{v:Value}{n:Nat}{xs:List Value}(h:A.ownsRow base e sz v n xs)(ht:Ext A B):B.ownsRow base e sz v n xs:=Qd h ht fun _ _ h=>h
theorem Q6w{S:Nat->Prop}{A B:World}{base:Nat}{e:TypeId}{sz:Nat}{v:Value}{n:Nat}{xs:List Value}(h:A.ownsRow base e sz v n xs)(c:Q0 S A B)(a:∀ g o,A.heap[g]?=some o->o.isCells=true->¬ S g):B.ownsRow base e sz v n xs:=by
 refine Qd h c fun g hg=>?_
 rcases h.2 with ⟨e,_⟩ | ⟨i,d,f,e,_,b,_⟩
 ·rw [e] at hg;simp [Value.ownBlock] at hg
 ·rw [e] at hg;simp [Value.ownBlock] at hg;subst hg;exact a _ _ b rfl
theorem Jj{A:World}{base base':Nat}{e:TypeId}{sz:Nat}{v:Value}{n:Nat}{xs:List Value}(h:A.ownsRow base e sz v n xs)(f:base'<=base):A.ownsRow base' e sz v n xs:=by
 obtain⟨i,d⟩:=h;refine⟨i,?_⟩;rcases d with h | ⟨c,a,b,k,g,j⟩
 ·exact .inl h
 ·exact .inr ⟨c,a,b,k,Nat.le_trans f g,j⟩
theorem Lg{P:Program}{w:World}{base:Nat}{t ty e:TypeId}{i:TypeInfo}{z:Value}(o:P.underlying t=some (.slice e)) (l:P.info? e=some i) (A:i.zero=some z) (_hsz:0<i.size)
  {v:Value} {n:Nat} {xs:List Value} (r:w.ownsRow base e i.size v n xs)
  (a:Addr) (m c:Nat) (d:List Value) (f:d.length=m*i.size) (q:∀ j u,d[j]?=some u->w.cell? (a.add j)=some u) (B:∀ u∈d,u.oneCell'=true)
  (C:n+m<=maxLen) (x:(n+m)*i.bytes<=140737488355328) {v':Value} {K:World}
  (b:(Builtin.append_ #[t,t] ty #[v,.slice (some a) m c]).run P w=.ok v' K):v'.ownBlock=v.ownBlock\/v'.ownBlock=some w.heap.size:=by
 have O:n+m<=9223372036854775807:=by simp only [maxLen] at C;omega
 rcases r.2 with ⟨rfl,rfl⟩ | ⟨g,p,s,rfl,L,G,N,M,E,Q⟩
 ·by_cases H:m=0
  ·subst H;have I:d=[]:=List.eq_nil_of_length_eq_zero (by simpa using f);subst I;have:(Builtin.append_ #[t,t] ty #[.slice none 0 0,.slice (some a) 0 c]).run P w=.ok (.slice none 0 0) w:=by
    simp [Builtin.append_,run_underlying o,sizeOf,typeInfo,l,Builtin.lenOf,Builtin.firstCells,loadCells,loadCellsFrom]
   rw [this] at b;cases b;exact .inl rfl
  ·have k:=run_append_nil (P:=P) w t ty e i z o l A a m c d f q oz oz (by have D:=x;simp only [Nat.zero_add] at D;omega);rw [k] at b;cases b;exact .inr rfl
 ·by_cases y:n+m<=p
  ·have F:n*i.size+d.length<=s.size:=by rw [f,E,<-Nat.add_mul];exact Nat.mul_le_mul_right _ y
   have k:=run_append_room (P:=P) w t ty e i o l g n p s G a m c d f q B y F;rw [k] at b;cases b;exact .inl rfl
  ·have J:∀ j u,xs[j]?=some u->w.cell? ((⟨g,0,none⟩:Addr).add j)=some u:=r.cells (g:=g) rfl;have k:=run_append_grow (P:=P) w t ty e i z o l A ⟨g,0,none⟩ n p xs r.1 J a m c d f q oz oz (growslice_fits oz x);rw [k] at b;cases b;exact .inr rfl
def Qa6(v:Value):Prop:=∃ ao n cap,v=.slice ao n cap
theorem Qk{w:World}{base:Nat}{e:TypeId}{sz:Nat}{v:Value}{n:Nat}{xs:List Value}(h:w.ownsRow base e sz v n xs):∃ ao cap,v=.slice ao n cap:=by
 rcases h.2 with ⟨rfl,rfl⟩ | ⟨b,cap,a,rfl,_⟩
 ·exact⟨_,_,rfl⟩
 ·exact⟨_,_,rfl⟩
theorem Zv{P:Program}{w:World}{ops:Array Oper}{rest:List Oper}{o:Oper}{a:Act}{Q:Exit->Act->World->Prop}(M:o.guard=none)(s x:Operand)(t:TypeId)
  (O:o.op=.call { callee:=.builtin .append,args:=#[s,x],argTypes:=#[t,t] })
  (base:Nat) (e:TypeId) (z:Value) (size g:Nat) (F:P.underlying t=some (.slice e)) (N:(P.info? e).map (fun i=>(i.zero,i.size,i.bytes))=some (some z,size,g))
  (U:z.cells.size=size) (E:0<size)
  (v:Value) (n:Nat) (xs:List Value) (R:a.eval s=v) (C:w.ownsRow base e size v n xs)
  (f:Addr) (m c:Nat) (d:List Value) (T:a.eval x=.slice (some f) m c) (A:d.length=m*size) (B:∀ j u,d[j]?=some u->w.cell? (f.add j)=some u) (l:∀ u∈d,u.oneCell'=true)
  (q:n+m<=maxLen) (r:(n+m)*g<=140737488355328) (L:base<=w.heap.size)
  (h:∀ ao c' w',w'.ownsRow base e size (.slice ao (n+m) c') (n+m) (xs++d)->Q0 (fun b=>v.ownBlock=some b) w w'->((Value.slice ao (n+m) c').ownBlock=v.ownBlock\/(Value.slice ao (n+m) c').ownBlock=some w.heap.size)->wpList P ops Q rest (a.put o.dst (.slice ao (n+m) c')) w'):wpList P ops Q (o::rest) a w:=by
 obtain⟨i,y,G,S,J⟩:=info_parts N;subst S;subst J;refine wpList_plain M fun K hK=>?_
 obtain⟨W,w',D,p,H,V⟩:=run_append_own (P:=P) w base t o.type e i z _ _ F y G rfl rfl U E v n xs C f m c d A B l q r L;have I:=Lg F y G E C f m c d A B l q r D;unfold Oper.wp execOp;simp only [O,resolve,invoke,builtin,Sem.run_bind,Sem.run_pure,Result.andThen_ok,List.map_toArray,List.map_cons,List.map_nil,R,T,D];obtain⟨ao,c',rfl⟩:=Qk p;exact hK _ _ (h ao c' w' p ((Q0.refl _ w).grown H (fun k e=>.inr e)) I)
theorem Pq{w:World}{l:List Value}{t:TypeId}:∀ j u,l[j]?=some u->(w.alloc (.cells l.toArray t)).cell? ((⟨w.heap.size,0,none⟩:Addr).add j)=some u:=by
 intro j u c;have a:((⟨w.heap.size,0,none⟩:Addr).add j)=⟨w.heap.size,j,none⟩:=by
  unfold Addr.add;split
  ·rename_i b;subst b;rfl
  ·simp
 rw [a,World.cell?_alloc_new]
 simpa using c
theorem Zy{w:World}{l:List Value}{t:TypeId}{n:Nat}(a:n=w.heap.size):∀ j u,l[j]?=some u->(w.alloc (.cells l.toArray t)).cell? ((⟨n,0,none⟩:Addr).add j)=some u:=by
 subst a;exact Pq
theorem Se(z:Value)(n:Nat):(madeCells #[z] n).toList=List.replicate n z:=by
 simp only [madeCells,Array.toList_map,Array.toList_range];apply List.ext_getElem
 ·simp
 ·intro c a b;simp [Nat.mod_one]
theorem Jg{P:Program}{w:World}{ops:Array Oper}{rest:List Oper}{o:Oper}{a:Act}{Q:Exit->Act->World->Prop}
  (x:o.guard=none) (l c:Operand) (t:TypeId) (D:o.op=Op.makeSlice t l c)
  (base:Nat) (e:TypeId) (z:Value) (b:Nat) (p:P.underlying t=some (.slice e)) (A:(P.info? e).map (fun i=>(i.zero,i.size,i.bytes))=some (some z,1,b)) (F:z.cells=#[z])
  (f d:IntKind) (L C:Int) (n:Nat) (B:a.eval l=.int f L) (v:a.eval c=.int d C) (s:L=(n:Int)) (q:C=(n:Int)) (g:b*n<=281474976710656) (j:n<=maxLen) (m:base<=w.heap.size)
  (r:∀ w',w'.ownsRow base e 1 (.slice (some ⟨w.heap.size,0,none⟩) n n) n (List.replicate n z)->Ext w w'->wpList P ops Q rest (a.put o.dst (.slice (some ⟨w.heap.size,0,none⟩) n n)) w') :
  wpList P ops Q (o::rest) a w:=by
 obtain⟨i,y,G,E,u⟩:=info_parts A;subst u;refine wpList_make_full w x l c t D base e i z 1 p y G E f d L C n B v s q g j m fun w' hO hG=>?_
 rw [F,Nat.mul_one,Se] at hO;exact r w' hO ((Q0.refl _ w).grown hG (fun k e=>by cases e))
theorem Yc{w:World}{base g n cap:Nat}{e:TypeId}{xs:List Value}(h:w.ownsRow base e 1 (.slice (some ⟨g,0,none⟩) n cap) n xs) (j:Nat) (u:Value) :
  (w.setCell ⟨g,j,none⟩ u).ownsRow base e 1 (.slice (some ⟨g,0,none⟩) n cap) n (xs.set j u):=(h.stored j u).1
end Go.Ab
namespace Go.Ab
open Go.RowKit
def Ql(w:Wd):List Value:=w.flatMap fun s=>[Value.int .u32 (s.1:Int),Value.int .u32 (s.2:Int)]
theorem U7(s:Nat × Nat)(w:Wd):Ql (s::w)=.int .u32 (s.1:Int)::.int .u32 (s.2:Int)::Ql w:=rfl
theorem Kc(w:Wd):(Ql w).length=w.length*2:=by
 induction w with
 | nil=>rfl
 | cons s w ih=>simp [U7,ih];omega
theorem Xx(v w:Wd):Ql (v++w)=Ql v++Ql w:=by simp [Ql]
theorem Q5l(w:Wd)(i:Nat)(h:i<w.length):(Ql w)[i*2]?=some (.int .u32 ((w.getD i (0,0)).1:Int))/\(Ql w)[i*2+1]?=some (.int .u32 ((w.getD i (0,0)).2:Int)):=by
 induction w generalizing i with
 | nil=>simp at h
 | cons s w ih=>
  cases i with
  | zero=>simp [U7]
  | succ i=>
   rw [U7,show (i+1)*2=i*2+1+1 by omega]
   simpa using ih i (by simpa using h)
def Qw(w:Wd):Prop:=∀ s∈w,s.1<4294967296/\s.2<4294967296
theorem Qw.get{w:Wd}(h:Qw w)(i:Nat)(a:i<w.length):(w.getD i (0,0)).1<4294967296/\(w.getD i (0,0)).2<4294967296:=by
 refine h _ ?_;rw [List.getD_eq_getElem?_getD,List.getElem?_eq_getElem a];exact List.getElem_mem a
def Q4(W:World)(v:Value)(w:Wd):Prop:=Rd W v w.length 2 (Ql w)/\Qw w
theorem Q4.ext{A B:World}{v:Value}{w:Wd}(h:Q4 A v w)(ht:Ext A B):Q4 B v w:=⟨h.1.ext ht,h.2⟩
theorem Q4.at{W:World}{v:Value}{w:Wd}(h:Q4 W v w){i:Nat}(k:i<w.length) :
  ∃ g off cap,v=.slice (some ⟨g,off,none⟩) w.length cap/\g<W.heap.size/\W.cell? ⟨g,off+i*2,none⟩=some (.int .u32 ((w.getD i (0,0)).1:Int))/\W.cell? ⟨g,off+i*2+1,none⟩=some (.int .u32 ((w.getD i (0,0)).2:Int)):=by
 obtain⟨⟨n,o,m,cap,l,e⟩,p⟩:=h;obtain⟨g,off,f,j,d⟩:=e oz;have c:=Q5l w i k;have a:=d (i*2) oz;have b:=d (i*2+1) oz;rw [List.getD_eq_getElem?_getD,c.1] at a;rw [List.getD_eq_getElem?_getD,c.2,<-Nat.add_assoc] at b;exact⟨g,off,cap,by rw [l,f],j,a,b⟩
theorem Q4.slice{W:World}{v:Value}{w:Wd}(h:Q4 W v w):∃ ao cap,v=.slice ao w.length cap/\w.length<=maxLen:=by
 obtain⟨⟨c,a,ao,cap,b,d⟩,e⟩:=h;exact⟨ao,cap,b,a⟩
theorem Ro(a b:Nat)(g:a<4294967296)(j:b<4294967296):a &&& (4294967295 - b)=0↔a &&& b=a:=by
 have f:∀ c,(4294967295 - b).testBit c=(decide (c<32) && !b.testBit c):=fun c=>by
  have:=Nat.testBit_two_pow_sub_succ (n:=32) (x:=b) (by simpa using j) c
  simpa using this
 have i:∀ c,32<=c->a.testBit c=false:=fun c e=>Nat.testBit_lt_two_pow (Nat.lt_of_lt_of_le g (Nat.pow_le_pow_right (n:=2) zd e));constructor
 ·intro d;apply Nat.eq_of_testBit_eq;intro c;have:=congrArg (fun v=>Nat.testBit v c) d;simp only [Nat.testBit_and,f,Nat.zero_testBit] at this;rw [Nat.testBit_and];by_cases e:c<32
  ·cases q:a.testBit c <;> cases r:b.testBit c <;> simp_all
  ·rw [i c oz];rfl
 ·intro d;apply Nat.eq_of_testBit_eq;intro c;have:=congrArg (fun v=>Nat.testBit v c) d;simp only [Nat.testBit_and] at this;rw [Nat.testBit_and,f,Nat.zero_testBit];cases q:a.testBit c <;> cases r:b.testBit c <;> simp_all
theorem Q6g{s c:Nat × Nat}(e:s.1<4294967296)(f:s.2<4294967296)(b:c.1<4294967296)(d:c.2<4294967296) :
  (bits .or .u32 (bits .andNot .u32 (c.1:Int) (s.1:Int)) (bits .andNot .u32 (c.2:Int) (s.2:Int)) == 0)=sat s c:=by
 have g:c.1 &&& (4294967295 - s.1)<4294967296:=Nat.lt_of_le_of_lt Nat.and_le_left b;have i:c.2 &&& (4294967295 - s.2)<4294967296:=Nat.lt_of_le_of_lt Nat.and_le_left d;rw [u32_andNot_nat _ _ b e,u32_andNot_nat _ _ d f,u32_or_nat _ _ g i];apply Bool.eq_iff_iff.2;rw [beq_iff_eq,sat,Bool.and_eq_true,beq_iff_eq,beq_iff_eq,<-Ro _ _ b e,<-Ro _ _ d f];constructor
 ·intro a;have a:(c.1 &&& (4294967295 - s.1) ||| c.2 &&& (4294967295 - s.2))=0:=by exact_mod_cast a
  exact Nat.or_eq_zero_iff.1 a
 ·intro a;have:(c.1 &&& (4294967295 - s.1) ||| c.2 &&& (4294967295 - s.2))=0:=Nat.or_eq_zero_iff.2 a
  exact_mod_cast this
theorem He{a b:Nat}(c:a<4294967296)(d:b<4294967296):((bits .and .u32 (a:Int) (b:Int) == 0)=(a &&& b == 0))/\bits .or .u32 (a:Int) (b:Int)=((a ||| b:Nat):Int):=by
 rw [u32_and_nat _ _ c d,u32_or_nat _ _ c d];refine⟨?_,rfl⟩;apply Bool.eq_iff_iff.2;rw [beq_iff_eq,beq_iff_eq];exact⟨fun h=>by exact_mod_cast h,fun h=>by rw [h];rfl⟩
end Go.Ab
namespace Go.Ab
open Go.RowKit
theorem Q2f{α:Type}{P:Program}{g:Operand}{ps:Array Tmp}{assign body:Code}{Q:Exit->Act->World->Prop}{a:Act}{w:World}
  {gf:Nat} {lb:Array Value} (c2:a.eval g=.func (.func gf) #[] lb) (a7:∀ args w,(callFunc gf args).run P w=.ok (.enter gf args) w)
  {N:α->Array Value} {xs:List α} {S K:Nat->Prop} (c6:Q1i P gf lb N xs S K w) (b4:∀ b,S b->K b) (a4:∀ b,K b->b<w.heap.size) (c4:∀ x,(N x).size=ps.size)
  (I:List α->World->Prop) (G:Code->List α->World->Prop)
  (H:∀ pre A B,I pre A->Q0 (fun b=>S b\/b=w.heap.size+1) A B->I pre B)
  (J:∀ c pre A B,G c pre A->Q0 (fun b=>S b\/b=w.heap.size+1) A B->G c pre B)
  (a8:∀ W,Ext w W->W.heap.size=w.heap.size+2->I [] W) (M:α->Act->World->Prop) (b1:∀ x a' A B,M x a' A->Q0 (fun b=>b=w.heap.size+1) A B->M x a' B)
  (b6:∀(pre:List α) (x:α) (W:World) (Kn:Act->World->Prop),x∈xs->I pre W->w.heap.size+2<=W.heap.size->(∀ a' W',Ext W W'->M x a' W'->Kn a' W') ->
   assign.wpIn (Fence.wide.inRound (w.heap.size+1)) 0 P (Exit.then Kn (fun _ _ _=>False)) { tmps:=(ps.zip (N x)).foldl (fun t (p,v)=>t.setIfInBounds p v) a.tmps,defers:=[] } W)
  (b8:∀(pre:List α) (x:α) (rest:List α) (a':Act) (W:World),xs=pre++x::rest->w.heap.size+2<=W.heap.size->Q0 (fun b=>¬ K b\/S b) w W->I pre W->M x a' W ->
   body.wpIn (Fence.wide.inRound (w.heap.size+1)) 0 P (Nn (fun b=>K b\/b=w.heap.size\/b=w.heap.size+1) I G (pre++[x]) W) a' W)
  (c1:∀ W,I xs W->Q0 (fun b=>¬ K b\/S b) w W->W.heap[w.heap.size]?=some (.deferred (some []))->Q .normal { a with defers:={ target:=.collected w.heap.size,args:=#[] }::a.defers } W)
  (c7:∀ c pre x rest W,xs=pre++x::rest->G c (pre++[x]) W->W.heap[w.heap.size]?=some (.deferred (some []))->c.wp P Q { a with defers:={ target:=.collected w.heap.size,args:=#[] }::a.defers } W) :
  (Code.rangeFunc g ps assign body).wp P Q a w:=by
 refine(wpIn_wide (n:=0)).1 (wpIn_rangeFunc ?_);intro fn _;obtain⟨f,k⟩:∃ f:LoopState->Option Code->Loop,f=fun st pe=>{ state:=st,pending:=pe,fn,tmps:=a.tmps,params:=ps,assign,body,defers:=w.heap.size }:=⟨_,rfl⟩;obtain⟨j,L⟩:=zE ((w.alloc (.deferred (some []))).alloc (.loop (f .ready none)));have b3:j.heap[w.heap.size+1]?=some (.loop (f .ready none)):=by
  rw [<-L];have:=World.alloc_heap_new (w.alloc (.deferred (some []))) (.loop (f .ready none));rwa [World.size_alloc] at this
 have b2:j.heap[w.heap.size]?=some (.deferred (some [])):=by
  rw [<-L];exact(Below.heap_alloc _ _ _ zy).trans (World.alloc_heap_new w _)
 have Z:Ext w j:=by rw [<-L];exact((Q0.refl _ w).alloc _).alloc _
 have c5:j.heap.size=w.heap.size+2:=by rw [<-L];simp
 have R:∀ b,S b->b≠w.heap.size+1/\b≠w.heap.size:=fun b hb=>by have:=a4 b (b4 b hb);omega
 refine⟨w.heap.size+1,[{ target:=.collected w.heap.size,args:=#[] }],j,{ target:=.fn (.func gf) lb,args:=#[.func (.yield (w.heap.size+1)) #[] #[]] },j,gf,
  #[.func (.yield (w.heap.size+1)) #[] #[]]++lb,j,?_,?_,fun _ _=>trivial,?_,fun h=>by simp [Fence.wide] at h,?_⟩
 ·rw [<-L,k];exact run_enterLoop_outer _ _ _ _ _
 ·simp only [resolve,c2];simp [go_sem]
 ·simp [invoke,go_sem,a7]
 ·refine callsIn_wide.2 ((c6 (w.heap.size+1)
   (fun pre W=>I pre W/\W.heap[w.heap.size+1]?=some (.loop (f .ready none))/\W.heap[w.heap.size]?=some (.deferred (some []))/\Q0 (fun b=>¬ K b\/S b) w W/\w.heap.size+2<=W.heap.size)
   (fun pre W=>∃ c,G c pre W/\W.heap[w.heap.size+1]?=some (.loop (f .done (some c)))/\W.heap[w.heap.size]?=some (.deferred (some [])))
   j Z.of ?_ ?_ ?_ ⟨a8 _ Z c5,b3,b2,Z.of,by omega⟩).mono ?_)
  ·rintro pre A B ⟨U,V,Y,a9,b0⟩ e;exact⟨H _ _ _ U (e.mono fun b _ hb=>.inl hb),e.heap V (fun hb=>(R _ hb).1 rfl),e.heap Y (fun hb=>(R _ hb).2 rfl),a9.after e (fun b _ hb=>.inr hb),Nat.le_trans b0 e.size⟩
  ·rintro pre A B ⟨c,U,V,Y⟩ e;exact⟨c,J _ _ _ _ U (e.mono fun b _ hb=>.inl hb),e.heap V (fun hb=>(R _ hb).1 rfl),e.heap Y (fun hb=>(R _ hb).2 rfl)⟩
  ·rintro pre x rest W T ⟨l,m,r,e,E⟩;have c9:=e;have c8:=E;have a6:w.heap.size+1<W.heap.size:=by omega
   have a1:=run_yield (P:=P) (args:=N x) m (by rw [k];exact c4 x);rw [k] at a1;refine⟨fn,_,assign,body,a1,roundIn_of_wpIn trivial (b6 pre x W _ (by rw [T];simp) l E ?_)⟩;clear a1;intro a' W' C b7;have b5:=C;have l:=H _ _ _ l (Ext.of C);have m:=C.keep m;have r:=C.keep r;have e:=e.after C (fun b _ h=>h.elim);have E:w.heap.size+2<=W'.heap.size:=Nat.le_trans E C.size;have a6:w.heap.size+1<W'.heap.size:=by omega
   refine⟨_,run_beginRound m (by rw [k]),?_⟩;have c3:(W'.putObj (w.heap.size+1) (.loop { f .ready none with state:=.busy })).heap[w.heap.size+1]?=some (.loop { f .ready none with state:=.busy }):=World.putObj_heap_same a6;have b9:(W'.putObj (w.heap.size+1) (.loop { f .ready none with state:=.busy })).heap[w.heap.size]?=some (.deferred (some [])):=(World.putObj_heap_other oz).trans r;have q:∀(X:World) o,Q0 (fun b=>S b\/b=w.heap.size+1) X (X.putObj (w.heap.size+1) o):=fun X o=>(Q0.refl _ X).putObj (.inr (.inr rfl)) o;have a0:∀(X:World) o,Q0 (fun b=>¬ K b) X (X.putObj (w.heap.size+1) o):=fun X o=>(Q0.refl _ X).putObj (.inr (fun hk=>by have:=a4 _ hk;omega)) o;refine wpIn_mono (b8 pre x rest a' _ T (by simpa using E) (e.after (a0 W' _) (fun b _ hb=>.inl hb)) (H _ _ _ l (q W' _)) (b1 _ _ _ _ b7 ((Q0.refl (fun b=>b=w.heap.size+1) W').putObj (.inr rfl) _))) ?_
   have O:∀(jump:Option Code) (d:World),Q0 (fun b=>¬ (K b\/b=w.heap.size\/b=w.heap.size+1)) (W'.putObj (w.heap.size+1) (.loop { f .ready none with state:=.busy })) d ->
     (Instr.endRound (w.heap.size+1) jump).run P d=.ok (.bool jump.isNone) (d.putObj (w.heap.size+1) (.loop (f (if jump.isNone then .ready else .done) jump))) /\
     (d.putObj (w.heap.size+1) (.loop (f (if jump.isNone then .ready else .done) jump))).heap[w.heap.size+1]?=some (.loop (f (if jump.isNone then .ready else .done) jump)) /\
     (d.putObj (w.heap.size+1) (.loop (f (if jump.isNone then .ready else .done) jump))).heap[w.heap.size]?=some (.deferred (some [])) /\
     Q0 (fun b=>¬ K b) W (d.putObj (w.heap.size+1) (.loop (f (if jump.isNone then .ready else .done) jump))):=fun jump d i=>by
    have a5:=i.heap c3 (fun h=>h (.inr (.inr rfl)));have c0:=i.heap b9 (fun h=>h (.inr (.inl rfl)));have:=run_endRound (P:=P) jump a5;rw [k] at this ⊢;refine⟨this,World.putObj_heap_same (Array.getElem?_eq_some_iff.1 a5).1,(World.putObj_heap_other oz).trans c0,?_⟩;exact(((b5.of).trans (a0 W' _)).trans (i.mono fun b _ hb hk=>hb (.inl hk))).trans (a0 d _)
   rintro a3 d0 d D;cases a3 with
   | normal=>
    obtain⟨i,u⟩:=D;obtain⟨z,y,s,F⟩:=O none d i;exact⟨_,_,z,.inl ⟨rfl,⟨H _ _ _ u (q d _),y,s,c9.after F (fun b _ hb=>.inl hb),Nat.le_trans c8 F.size⟩,F⟩⟩
   | ret=>
    obtain⟨i,u⟩:=D;obtain⟨z,y,s,F⟩:=O (some .ret) d i;exact⟨_,_,z,.inr ⟨rfl,.ret,J _ _ _ _ u (q d _),y,s⟩⟩
   | exit id=>
    obtain⟨i,u⟩:=D;obtain⟨z,y,s,F⟩:=O (some (.exit id)) d i;exact⟨_,_,z,.inr ⟨rfl,.exit id,J _ _ _ _ u (q d _),y,s⟩⟩
   | goto t=>
    obtain⟨i,u⟩:=D;obtain⟨z,y,s,F⟩:=O (some (.goto t)) d i;exact⟨_,_,z,.inr ⟨rfl,.goto t,J _ _ _ _ u (q d _),y,s⟩⟩
   | panic ch=>exact D.elim
   | outgrown=>exact D.elim
  ·have q:∀(X:World) o,Q0 (fun b=>S b\/b=w.heap.size+1) X (X.putObj (w.heap.size+1) o):=fun X o=>(Q0.refl _ X).putObj (.inr (.inr rfl)) o;rintro a3 a2 ⟨⟨v,rfl⟩,(⟨l,m,r,e,E⟩ | ⟨pre,x,rest,T,c,l,m,r⟩)⟩
   ·refine⟨none,_,by have:=run_endLoop (P:=P) m (by rw [k];simp);rw [k] at this;exact this,?_⟩;exact c1 _ (H _ _ _ l (q a2 _)) (e.putObj (.inl oz) _) ((World.putObj_heap_other oz).trans r)
   ·refine⟨some c,_,by have:=run_endLoop (P:=P) m (by rw [k];simp);rw [k] at this;exact this,?_⟩;exact(wpIn_wide (n:=0)).2 (c7 c pre x rest _ T (J _ _ _ _ l (q a2 _)) ((World.putObj_heap_other oz).trans r))
theorem N5{P:Program}{ops:Array Oper}{Q:Exit->Act->World->Prop}{S:World->Prop}{id l n:Nat}{a:Act}{w:World}(hm:P.follows .mixedOrders=true)(hd:Ug ops=true)(hQ:¬ LetsOut Q)(hS:S w.drew)
  (h:S w.drew->wpAnyH P .any ops Q S ops.size (Array.replicate ops.size false) a w.drew):(Code.region id ops true).wpIn (Fence.wide.inRound l) n P Q a w:=
 V1 hm hd hQ (wpAny_of_held _ _ _ _ (h hS))
end Go.Ab
namespace Go.Ab
open Go.RowKit
theorem Nk{P:Program}{w:World}{base:Nat}{t ty e:TypeId}{size:Nat}{i:TypeInfo}(b:P.underlying t=some (.slice e)) (a:P.info? e=some i)
  {v:Value} {n:Nat} {xs:List Value} (f:w.ownsRow base e size v n xs) (ao:Option Addr) (c:Nat) :
  (Builtin.append_ #[t,t] ty #[v,.slice ao 0 c]).run P w=.ok v w:=by
 rcases f.2 with ⟨rfl,rfl⟩ | ⟨k,g,j,rfl,_,_,d,_⟩
 ·cases ao <;> simp [Builtin.append_,run_underlying b,sizeOf,typeInfo,a,Builtin.lenOf,Builtin.firstCells,loadCells,loadCellsFrom]
 ·cases ao <;> simp [Builtin.append_,run_underlying b,sizeOf,typeInfo,a,Builtin.lenOf,Builtin.firstCells,d,storeCells,loadCells,loadCellsFrom]
theorem Rd.cells{w:World}{m size:Nat}{e:List Value}{a:Addr}{c:Nat}(h:Rd w (.slice (some a) m c) m size e) (n:0<m):∀ j u,e[j]?=some u->w.cell? (a.add j)=some u:=by
 obtain⟨r,s,p,q,o,i⟩:=h;intro j u d;obtain⟨b,f,k,t,l⟩:=i n;cases o;cases k;have v:=(List.getElem?_eq_some_iff.1 d).1;have:=l j oz;rw [List.getD_eq_getElem?_getD,d] at this;have g:((⟨b,f,none⟩:Addr).add j)=⟨b,f+j,none⟩:=by
  unfold Addr.add;split
  ·rename_i h;subst h;simp
  ·simp
 rw [g];exact this
theorem V5{P:Program}{w:World}{ops:Array Oper}{rest:List Oper}{o:Oper}{a:Act}{Q:Exit->Act->World->Prop}(k:o.guard=none)(s x:Operand)(t:TypeId)
  (q:o.op=.call { callee:=.builtin .append,args:=#[s,x],argTypes:=#[t,t] })
  (base:Nat) (e:TypeId) (z:Value) (size f:Nat) (A:P.underlying t=some (.slice e)) (l:(P.info? e).map (fun i=>(i.zero,i.size,i.bytes))=some (some z,size,f))
  (N:z.cells.size=size) (M:0<size)
  (v:Value) (n:Nat) (xs:List Value) (y:a.eval s=v) (d:w.ownsRow base e size v n xs)
  (u:Value) (m:Nat) (c:List Value) (B:a.eval x=u) (r:Rd w u m size c) (D:∀ u∈c,u.oneCell'=true)
  (E:n+m<=maxLen) (G:(n+m)*f<=140737488355328) (F:base<=w.heap.size)
  (h:∀ ao c' w',w'.ownsRow base e size (.slice ao (n+m) c') (n+m) (xs++c)->Q0 (fun b=>v.ownBlock=some b) w w'->((Value.slice ao (n+m) c').ownBlock=v.ownBlock\/(Value.slice ao (n+m) c').ownBlock=some w.heap.size)->wpList P ops Q rest (a.put o.dst (.slice ao (n+m) c')) w'):wpList P ops Q (o::rest) a w:=by
 have L:=r;obtain⟨j,T,ao,g,rfl,C⟩:=r;by_cases p:0<m
 ·obtain⟨S,X,rfl,_,_⟩:=C p;exact Zv k s x t q base e z size f A l N M v n xs y d _ m g c B j (L.cells p) D E G F h
 ·obtain rfl:m=0:=by omega
  have I:c=[]:=List.eq_nil_of_length_eq_zero (by simpa using j);subst I;obtain⟨i,H,W,V,U⟩:=info_parts l;refine wpList_plain k fun K hK=>?_
  have J:=Nk (P:=P) (ty:=o.type) A H d ao g;obtain⟨R,O,rfl⟩:=Qk d;unfold Oper.wp execOp;simp only [q,resolve,invoke,builtin,Sem.run_bind,Sem.run_pure,Result.andThen_ok,List.map_toArray,List.map_cons,List.map_nil,y,B,J];exact hK _ _ (h R O w (by simpa using d) (Q0.refl _ _) (.inl rfl))
end Go.Ab
namespace Go.Ab
open Go.RowKit
theorem Q85{w:World}{base:Nat}{e:TypeId}{sz g n cap:Nat}{xs:List Value}(h:w.ownsRow base e sz (.slice (some ⟨g,0,none⟩) (n+1) cap) (n+1) xs) :
  w.ownsRow base e sz (.slice (some ⟨g,0,none⟩) n cap) n (xs.take (n*sz)):=by
 have j:=h.1;rcases h.2 with ⟨a,_⟩ | ⟨m,l,b,a,c,i,o,d,f,k⟩
 ·cases a
 ·simp only [zV,Option.some.injEq,Addr.mk.injEq] at a;obtain⟨⟨rfl,_,_⟩,_,rfl⟩:=a;refine⟨by rw [List.length_take,j,Nat.min_eq_left (Nat.mul_le_mul_right _ oz)],.inr ⟨g,cap,b,rfl,c,i,by omega,d,f,?_⟩⟩;rw [<-k,List.take_take,Nat.min_eq_left (Nat.mul_le_mul_right _ oz)]
def Xb:List Value->Nat->List Value->List Value
 | cur,_,[]=>cur
 | cur,o,v::vs=>Xb (cur.set o v) (o+1) vs
theorem Vk:∀(vs cur:List Value) (o:Nat),(Xb cur o vs).length=cur.length
 | [],cur,o=>rfl
 | v::vs,cur,o=>by unfold Xb;rw [Vk vs,List.length_set]
theorem Gc{t:TypeId}{b:Nat}:∀(vs:List Value) (o:Nat) (w:World) (cur:Array Value),w.heap[b]?=some (.cells cur t (0,0))->(w.setCells b o vs).heap[b]?=some (.cells (Xb cur.toList o vs).toArray t (0,0))
 | [],o,w,cur,h=>h
 | v::vs,o,w,cur,h=>by
  have h1:(w.setCell ⟨b,o,none⟩ v).heap[b]?=some (.cells (cur.setIfInBounds o v) t (0,0)):=by
   simp only [World.setCell,Array.getElem?_modify,h];simp
  have:=Gc vs (o+1) _ _ h1;rw [Array.toList_setIfInBounds] at this;exact this
theorem Ru:∀(vs pre zs:List Value),vs.length=zs.length->Xb (pre++zs) pre.length vs=pre++vs
 | [],pre,zs,h=>by
  obtain rfl:zs=[]:=List.eq_nil_of_length_eq_zero (by simpa using h.symm);rfl
 | v::vs,pre,z::zs,h=>by
  unfold Xb;have e:(pre++z::zs).set pre.length v=(pre++[v])++zs:=by
   rw [List.set_append_right _ _ (Nat.le_refl _)];simp
  rw [e];have:=Ru vs (pre++[v]) zs (by simpa using h);rw [List.length_append] at this
  simpa using this
theorem Dr:∀(vs cur:List Value) (o m:Nat),o+vs.length<=m->(Xb cur o vs).take m=Xb (cur.take m) o vs
 | [],cur,o,m,_=>rfl
 | v::vs,cur,o,m,h=>by
  unfold Xb;rw [Dr vs _ _ _ (by simp at h;omega)]
  congr 1
  simp only [List.length_cons] at h;rw [List.take_set]
theorem Kp{w:World}{base:Nat}{e:TypeId}{sz g n cap:Nat}{xs d cs:List Value}(h:w.ownsRow base e sz (.slice (some ⟨g,0,none⟩) (n+1) cap) (n+1) (xs++d)) (c:xs.length=n*sz) (f:cs.length=sz) :
  (w.setCells g (n*sz) cs).ownsRow base e sz (.slice (some ⟨g,0,none⟩) (n+1) cap) (n+1) (xs++cs):=by
 have o:=h.1;rcases h.2 with ⟨a,_⟩ | ⟨s,r,b,a,j,m,p,k,l,q⟩
 ·cases a
 ·simp only [zV,Option.some.injEq,Addr.mk.injEq] at a;obtain⟨⟨rfl,_,_⟩,_,rfl⟩:=a;have t:d.length=sz:=by
   rw [List.length_append,c,Nat.add_mul,Nat.one_mul] at o;omega
  refine⟨by rw [List.length_append,c,f,Nat.add_mul,Nat.one_mul],.inr ⟨g,cap,_,rfl,j,Gc cs _ w b m,p,k,by simp [Vk,l],?_⟩⟩;have i:n*sz+cs.length<=(n+1)*sz:=by rw [f,Nat.add_mul,Nat.one_mul];exact Nat.le_refl _
  rw [show ((Xb b.toList (n*sz) cs).toArray.toList)=Xb b.toList (n*sz) cs from rfl,Dr _ _ _ _ i,q,<-c];exact Ru cs xs d oz
theorem Q0.setCells(A:World)(b:Nat):∀(vs:List Value) (o:Nat),Q0 (·=b) A (A.setCells b o vs)
 | [],_=>Q0.refl _ _
 | v::vs,o=>(Q0.set1 A b o v).trans (Q0.setCells (A.setCell ⟨b,o,none⟩ v) b vs (o+1))
theorem Va{w:World}{base:Nat}{e:TypeId}{sz g n cap:Nat}{xs:List Value}(h:w.ownsRow base e sz (.slice (some ⟨g,0,none⟩) n cap) n xs) {o m:Nat} (ho:o+m<=n*sz):w.there g o m:=fun j hj=>by
 have h1:=h.cellAt (o+j) oz;have h2:=h.frozenAt (o+j);have:(o+j)<xs.length:=by rw [h.1];omega
 rw [List.getElem?_eq_getElem this] at h1;exact⟨by rw [h1];rfl,h2⟩
theorem R9{w:World}{base:Nat}{e:TypeId}{sz g n cap:Nat}{xs:List Value}(h:w.ownsRow base e sz (.slice (some ⟨g,0,none⟩) n cap) n xs) {o:Nat} {cs:List Value} (hc:∀ j v,cs[j]?=some v->xs[o+j]?=some v):w.rangeAt g o cs:=fun j v hv=>by
 have h0:=hc j v hv;have hlt:o+j<n*sz:=by rw [<-h.1];exact(List.getElem?_eq_some_iff.1 h0).1
 rw [h.cellAt (o+j) hlt];exact h0
theorem Dj{w:World}{base:Nat}{e:TypeId}{sz n m cap:Nat}{ao:Option Addr}{xs:List Value}(h:w.ownsRow base e sz (.slice ao (n+1) cap) m xs):∃ g,ao=some ⟨g,0,none⟩:=by
 rcases h.2 with ⟨a,_⟩ | ⟨g,_,_,a,_⟩
 ·cases a
 ·cases a;exact⟨g,rfl⟩
theorem Jy{w:World}{base:Nat}{e:TypeId}{sz g n m cap:Nat}{xs:List Value}(h:w.ownsRow base e sz (.slice (some ⟨g,0,none⟩) n cap) m xs):∃ cur,w.heap[g]?=some (.cells cur e (0,0)):=by
 rcases h.2 with ⟨a,_⟩ | ⟨_,_,cur,a,_,b,_⟩
 ·cases a
 ·cases a;exact⟨cur,b⟩
theorem Xe{P:Program}{w:World}{o:Oper}{a:Act}{K:Act->World->Prop}{Q:Exit->Act->World->Prop}(s x:Operand)(t:TypeId)
  (N:o.op=.call { callee:=.builtin .append,args:=#[s,x],argTypes:=#[t,t] })
  (base:Nat) (e:TypeId) (z:Value) (size g:Nat) (F:P.underlying t=some (.slice e)) (M:(P.info? e).map (fun i=>(i.zero,i.size,i.bytes))=some (some z,size,g))
  (T:z.cells.size=size) (E:0<size)
  (v:Value) (n:Nat) (xs:List Value) (O:a.eval s=v) (C:w.ownsRow base e size v n xs)
  (f:Addr) (m c:Nat) (d:List Value) (S:a.eval x=.slice (some f) m c) (A:d.length=m*size) (B:∀ j u,d[j]?=some u->w.cell? (f.add j)=some u) (l:∀ u∈d,u.oneCell'=true)
  (q:n+m<=maxLen) (r:(n+m)*g<=140737488355328) (L:base<=w.heap.size)
  (h:∀ ao c' w',w'.ownsRow base e size (.slice ao (n+m) c') (n+m) (xs++d)->Q0 (fun b=>v.ownBlock=some b) w w'->((Value.slice ao (n+m) c').ownBlock=v.ownBlock\/(Value.slice ao (n+m) c').ownBlock=some w.heap.size)->K (a.put o.dst (.slice ao (n+m) c')) w'):Oper.wp P o a w K Q:=by
 obtain⟨i,y,G,R,J⟩:=info_parts M;subst R;subst J;obtain⟨V,w',D,p,H,U⟩:=run_append_own (P:=P) w base t o.type e i z _ _ F y G rfl rfl T E v n xs C f m c d A B l q r L;have I:=Lg F y G E C f m c d A B l q r D;unfold Oper.wp execOp;simp only [N,resolve,invoke,builtin,Sem.run_bind,Sem.run_pure,Result.andThen_ok,List.map_toArray,List.map_cons,List.map_nil,O,S,D];obtain⟨ao,c',rfl⟩:=Qk p;exact h ao c' w' p ((Q0.refl _ w).grown H (fun k e=>.inr e)) I
end Go.Ab
namespace Go.Ab
open Go.RowKit
def Qg(k:Int)(pl mi:Nat)(nt:Bool)(mn mx:Int)(ao:Option Addr)(n cap:Nat):List Value:=
 [.int .i64 k,.int .u32 pl,.int .u32 mi,.bool nt,.int .i64 mn,.int .i64 mx,.slice ao n cap]
mutual
def Qu(K:Nat->Prop)(w:World):Pat->List Value->Prop
 | .node k pl mi nt mn mx l,cs=>∃ ao cap,cs=Qg k pl mi nt mn mx ao l.length cap/\pl<4294967296/\mi<4294967296/\l.length<=cap/\cap<=maxLen/\Z1 K w l ao 0
def Z1(K:Nat->Prop)(w:World):List Pat->Option Addr->Nat->Prop
 | [],_,_=>True
 | p::l,ao,i=>(∃ g off cs,ao=some ⟨g,off,none⟩/\K g/\g<w.heap.size/\w.rangeAt g (off+i*7) cs/\Qu K w p cs)/\Z1 K w l ao (i+1)
end
theorem Z1.get{K:Nat->Prop}{w:World}:∀ {l:List Pat} {ao:Option Addr} {i:Nat},Z1 K w l ao i->∀ j (h:j<l.length),∃ g off cs,ao=some ⟨g,off,none⟩/\K g/\g<w.heap.size/\w.rangeAt g (off+(i+j)*7) cs/\Qu K w l[j] cs
 | [],_,_,_,j,h=>by simp at h
 | p::l,ao,i,h,0,_=>by unfold Z1 at h;exact h.1
 | p::l,ao,i,h,j+1,hj=>by
  unfold Z1 at h;have:=Z1.get h.2 j (by simpa using hj);rw [show i+(j+1)=i+1+j by omega];exact this
theorem Z1.mk{K:Nat->Prop}{w:World}:∀ {l:List Pat} {ao:Option Addr} {i:Nat},(∀ j (h:j<l.length),∃ g off cs,ao=some ⟨g,off,none⟩/\K g/\g<w.heap.size/\w.rangeAt g (off+(i+j)*7) cs/\Qu K w l[j] cs)->Z1 K w l ao i
 | [],_,_,_=>by unfold Z1;trivial
 | p::l,ao,i,h=>by
  unfold Z1;refine⟨h 0 zy,Z1.mk fun j hj=>?_⟩;have:=h (j+1) (by simpa using hj);rw [show i+(j+1)=i+1+j by omega] at this;exact this
theorem L9{S:Nat->Prop}{A B:World}(ht:Q0 S A B){g o:Nat}{cs:List Value}(h:A.rangeAt g o cs)(hS:¬ S g):B.rangeAt g o cs:=fun j v hv=>ht.cell_some (h j v hv) hS
mutual
theorem Qu.keep{K S:Nat->Prop}{A B:World}(ht:Q0 S A B)(hS:∀ g,K g->¬ S g):∀ {p:Pat} {cs:List Value},Qu K A p cs->Qu K B p cs
 | .node k pl mi nt mn mx l,cs,h=>by
  unfold Qu at h ⊢;obtain⟨ao,cap,h1,h2,h3,h4,h5,h6⟩:=h;exact⟨ao,cap,h1,h2,h3,h4,h5,Z1.keep ht hS h6⟩
theorem Z1.keep{K S:Nat->Prop}{A B:World}(ht:Q0 S A B)(hS:∀ g,K g->¬ S g):∀ {l:List Pat} {ao:Option Addr} {i:Nat},Z1 K A l ao i->Z1 K B l ao i
 | [],_,_,_=>by unfold Z1;trivial
 | p::l,ao,i,h=>by
  unfold Z1 at h ⊢;obtain⟨⟨g,off,cs,h1,h2,h3,h4,h5⟩,h6⟩:=h;exact⟨⟨g,off,cs,h1,h2,Nat.lt_of_lt_of_le h3 ht.size,L9 ht h4 (hS g h2),Qu.keep ht hS h5⟩,Z1.keep ht hS h6⟩
end
theorem Qu.ext{K:Nat->Prop}{A B:World}{p:Pat}{cs:List Value}(h:Qu K A p cs)(ht:Ext A B):Qu K B p cs:=h.keep ht fun _ _ h=>h
theorem Z1.ext{K:Nat->Prop}{A B:World}{l:List Pat}{ao:Option Addr}{i:Nat}(h:Z1 K A l ao i)(ht:Ext A B):Z1 K B l ao i:=h.keep ht fun _ _ h=>h
mutual
theorem Qu.mono{K L:Nat->Prop}{A:World}(hK:∀ g,K g->L g):∀ {p:Pat} {cs:List Value},Qu K A p cs->Qu L A p cs
 | .node k pl mi nt mn mx l,cs,h=>by
  unfold Qu at h ⊢;obtain⟨ao,cap,h1,h2,h3,h4,h5,h6⟩:=h;exact⟨ao,cap,h1,h2,h3,h4,h5,Z1.mono hK h6⟩
theorem Z1.mono{K L:Nat->Prop}{A:World}(hK:∀ g,K g->L g):∀ {l:List Pat} {ao:Option Addr} {i:Nat},Z1 K A l ao i->Z1 L A l ao i
 | [],_,_,_=>by unfold Z1;trivial
 | p::l,ao,i,h=>by
  unfold Z1 at h ⊢;obtain⟨⟨g,off,cs,h1,h2,h3,h4,h5⟩,h6⟩:=h;exact⟨⟨g,off,cs,h1,hK g h2,h3,h4,Qu.mono hK h5⟩,Z1.mono hK h6⟩
end
end Go.Ab
namespace Go.Proofs.YtejenndedjabhaaGreatDoor
open Go.RowKit Go.Ab
def Tab(w:World):Prop:=∀ j,j<64->w.cell? ⟨3,j,none⟩=some (.int .u8 (Lib.deBruijn64tab.getD j 0))
theorem Tab.keep{S:Nat->Prop}{A B:World}(h:Tab A)(ht:Q0 S A B)(hS:¬ S 3):Tab B:=
 fun j hj=>ht.cell_some (h j hj) hS
theorem Q8l(x k a:Nat)(w:World)(g:((x:Int) == 0)=false)
  (b:IntKind.u64.wrap (bits BinOp.and IntKind.u64 (x:Int) (IntKind.u64.wrap (-(x:Int)))*285870213051353865) / 288230376151711744=(a:Int))
  (d:a<64) (f:k<64) (c:w.cell? ⟨3,a,none⟩=some (.int .u8 k)) :
  Calls Tryz.prog 246 #[.int .u64 x] w fun e w'=>e=.returned (.int .i64 k)/\w=w':=by
 go_enter Tryz.func246,Tryz.ntmps246
 go_wp2_with (simp only [b])
 go_ret;exact⟨rfl,rfl⟩
theorem Q8q(x:Nat)(d:x<18446744073709551616)(f:x≠0)(w:World)(g:Tab w) :
  Calls Tryz.prog 246 #[.int .u64 x] w fun e w'=>e=.returned (.int .i64 (Lib.ctz 64 x))/\w=w':=by
 obtain⟨i,c⟩:=Lib.lowest_bit 64 x f d;obtain⟨b,j⟩:=Lib.deBruijn64_at _ c;have a:=g _ b;rw [j] at a;exact Q8l x _ _ w (by simp;omega) (tz64_key x _ d f i) b c a
end Go.Proofs.YtejenndedjabhaaGreatDoor
namespace Go.Ab
def Qbk(X:Qf)(n lo k:Nat):Qf:=if k<=lo then noB else Q95 X n lo (k - lo - 1)
def Q2(X:Qf)(a:Nat):Nat:=Xg 33 (X a)
theorem Q5u{n:Nat}{X:Qf}(c:Qy n X){a:Nat}(h:n<a):Q2 X a=0:=by
 have:X a=fun _=>false:=by
  funext b
  cases hh:X a b with
  | false=>rfl
  | true=>have:=c _ _ hh;omega
 rw [Q2,this,V7]
theorem Q7v(X Y:Qf)(a:Nat):Q2 X a ||| Q2 Y a=Q2 (orB X Y) a:=by
 unfold Q2;rw [Eo];rfl
theorem Ud(a:Nat):Q2 noB a=0:=V7 33
theorem Q7m{n a:Nat}(b:n<=32)(h:a<=n):Q2 (idB n) a=2 ^ a:=by
 rw [Hh (n:=33) (by omega)]
 exact Vj fun i _=>by
  apply Bool.eq_iff_iff.2;rw [Lw,beq_iff_eq];omega
theorem Q72(X:Qf){a b:Nat}(c:b<33):(Q2 X a).testBit b=X a b:=by
 rw [Q2,Xj];simp [c]
def Yv(Y:Qf)(pre:List Nat):Nat:=Xg 33 fun c=>pre.any fun b=>Y b c
theorem Q4o(Y:Qf):Yv Y []=0:=V7 33
theorem Q17(Y:Qf)(a:List Nat)(b:Nat):Yv Y (a++[b])=Yv Y a ||| Q2 Y b:=by
 unfold Yv Q2;rw [Eo];exact Vj fun i _=>by simp
theorem Q37(X Y:Qf)(a:Nat):Yv Y ((List.range 33).filter (X a))=Q2 (comp X Y) a:=by
 unfold Yv Q2 comp;exact Vj fun i _=>by rw [List.any_filter]
theorem Mv(X:Qf)(a:Nat):evs (Q2 X a)=(List.range 33).filter (X a):=Q52 33 (by decide) _
end Go.Ab
namespace Go.Proofs.YtejenndedjabhaaGreatDoor
open Go.RowKit Go.Ab
attribute [local go_sem] Oper.semAt_some Z6 Qn
theorem Q0l(v:Nat)(i:v<18446744073709551616)(o:v≠0) :
  bits BinOp.andNot IntKind.u64 (v:Int) (IntKind.u64.wrap (2 ^ Lib.ctz 64 v))=((v &&& (v - 1):Nat):Int):=by
 obtain⟨k,f,m⟩:=Tn v o (by simpa using i);generalize Lib.ctz 64 v=c at f m;have g:2 ^ c<18446744073709551616:=by
  have:=Nat.pow_lt_pow_right (a:=2) zd m
  simpa using this
 have d:IntKind.u64.wrap (2 ^ c)=((2 ^ c:Nat):Int):=by
  rw [IntKind.wrap_u64];have d:((2:Int) ^ c)=((2 ^ c:Nat):Int):=by simp
  rw [d];generalize 2 ^ c=t at g;omega
 rw [d,u64_andNot_nat _ _ i g]
 congr 1
 apply Nat.eq_of_testBit_eq;intro b;have p:(18446744073709551615 - 2 ^ c).testBit b=(decide (b<64) && !(2 ^ c).testBit b):=by
  have:=Nat.testBit_two_pow_sub_succ (n:=64) (x:=2 ^ c) (by simpa using g) b
  simpa using this
 have l:v.testBit b=(decide (b=c) || (decide (c<b) && k.testBit (b - (c+1)))):=by rw [f];exact Fk c k b
 have q:(v &&& (v - 1)).testBit b=(decide (c<b) && k.testBit (b - (c+1))):=by
  rw [f,Bn,Nat.testBit_two_pow_mul];simp only [ge_iff_le,Nat.succ_le_iff]
 rw [q,Nat.testBit_and,p,l,Nat.testBit_two_pow];by_cases e:b=c
 ·subst e;simp
 ·have s:¬ c=b:=fun d=>e d.symm;simp only [e,s,decide_false,Bool.false_or,Bool.not_false,Bool.and_true];by_cases r:b<64
  ·simp [r]
  ·have j:v.testBit b=false:=Nat.testBit_lt_two_pow (Nat.lt_of_lt_of_le i (Nat.pow_le_pow_right (n:=2) zd (show 64<=b by omega)));rw [l] at j;simp only [e,decide_false,Bool.false_or] at j;simp [j]
def U0(w:World)(bx:Nat)(v:Nat):Prop:=w.heap[bx]?=some (.cells #[.int .u64 v] 255 (0,0))
theorem U0.cell{w:World}{bx v:Nat}(h:U0 w bx v):w.cell? ⟨bx,0,none⟩=some (.int .u64 v):=cell_of_one h
theorem U0.free{w:World}{bx v:Nat}(h:U0 w bx v):w.frozen? ⟨bx,0,none⟩=false:=free_of_one h
theorem U0.store{w:World}{bx v:Nat}(u:Nat)(h:U0 w bx v):U0 (w.setCell ⟨bx,0,none⟩ (.int .u64 u)) bx u:=one_setCell h
def Sh(w:World)(bx:Nat):Nat:=match w.cell? ⟨bx,0,none⟩ with | some (.int _ n)=>n.toNat | _=>0
theorem T0{w:World}{bx v:Nat}(h:U0 w bx v):Sh w bx=v:=by unfold Sh;rw [h.cell];simp
theorem Q8x(v:Nat)(a:v<18446744073709551616):v &&& (v - 1)<18446744073709551616:=by
 have:=Nat.and_le_left (n:=v) (m:=v - 1);omega
theorem Q7s(v:Nat)(a:v≠0):(v &&& (v - 1))<v:=by
 have:=Nat.and_le_right (n:=v) (m:=v - 1);omega
theorem Be(v:Nat)(a1:v<18446744073709551616)(bx:Nat)(Y:bx≠3)(w:World)(W:U0 w bx v)(S:Tab w) :
  Q1i Tryz.prog 245 #[.pointer (some ⟨bx,0,none⟩)] (fun x:Nat=>#[.int .i64 x]) (evs v) (·=bx) (fun b=>b=bx\/b=3) w:=by
 intro b2 M a4 t F P a8 V O;have X:U0 t bx v:=F.heap W zy;have U:Tab t:=S.keep F zy;refine callsIn_wide.1 (callsIn_of_wp (n:=0) Tryz.func245 rfl trivial ?_ rfl);simp only [Tryz.ntmps245,zS,Nat.reduceAdd,Nat.reduceSub];gi_wp2
 gi_loopw [3] (fun _ wr=>∃(d:List Nat) (a:Nat),U0 wr bx a/\a<18446744073709551616/\evs v=d++evs a/\M d wr/\Tab wr)
  (fun _ wr=>Sh wr bx)
 case atStart=>exact⟨[],v,X,a1,rfl,O,U⟩
 case round=>
  obtain⟨d,a,e,j,c,m,o⟩:=hrel;have Z:=e.cell;have q:Sh wr bx=a:=T0 e;by_cases f:a=0
  ·subst f;rw [Q5a,List.append_nil] at c;clear q;gi_wp2;go_end0
   exact⟨⟨_,rfl⟩,.inl (by rw [c];exact m)⟩
  ·have b0:((a:Int) != 0)=true:=by simp;omega
   have i:=Q64 a f (by simpa using j);rw [i] at c;have a2:Lib.ctz 64 a<64:=(Q8i.1 (by rw [i];simp:Lib.ctz 64 a∈evs a)).1;have a3:=Zh i;clear i;have H:=Zh q;clear q;have E:=Q0l a j f;obtain⟨k,s⟩:=zE (Lib.ctz 64 a);rw [s] at E a2 c;have l:=Zh c;clear c;have r:=Q8q a j f wr o;rw [s] at r;have K:=Zh r;clear r s;have a9:=e.free;have b1:(k:Int)<64:=by omega
   have p:Q0 (·=bx) wr (wr.setCell ⟨bx,0,none⟩ (.int .u64 ((a &&& (a - 1):Nat):Int))).drew:=(Q0.set1 wr bx 0 _).drew;have y:=P _ _ _ m p;have B:U0 (wr.setCell ⟨bx,0,none⟩ (.int .u64 ((a &&& (a - 1):Nat):Int))).drew bx (a &&& (a - 1)):=Xw (U0.store (w:=wr) _ e);have A:Tab (wr.setCell ⟨bx,0,none⟩ (.int .u64 ((a &&& (a - 1):Nat):Int))).drew:=o.keep p (Ne.symm Y);have J:=Zh A;have a0:=Q8x a j;obtain⟨a7,b3,a5,a6,g,z⟩:=V d _ _ _ l.out y
   gi_wp2_with (gi_at_call 246;refine(callsIn_wide.2 K.out).mono ?_;rintro N b4 ⟨rfl,rfl⟩)
   obtain⟨L,I,G⟩:=Zh3 g z B;clear g z p y A B;refine(wpIn_wide (n:=_)).2 ?_;refine Hb 4 kz kz ?_;simp only [List.take_succ_cons,List.take_zero,List.drop_succ_cons,List.drop_zero];repeat still_step
   refine wpStill_nil ?_;go_wp2;have g:=L.out;gi_wp2;refine I.out.mono ?_;rintro N u (⟨rfl,Q,D⟩ | ⟨rfl,R⟩)
   ·have C:U0 u bx (a &&& (a - 1)):=D.heap G.out zy;have T:Tab u:=J.out.keep D zy;clear g e Z o m E;gi_wp2
    go_roundw
    case rel=>exact⟨d++[k],a &&& (a - 1),C,a0,by rw [l.out];simp,Q,T⟩
    case measure=>rw [H.out,T0 C];exact Q7s a f
   ·clear g;gi_wp2;refine bodyPost_ret (results_none rfl _ _ _) rfl ?_;exact⟨⟨_,rfl⟩,.inr ⟨d,_,_,l.out,R⟩⟩
theorem Ex(v:Int)(w:World) :
  Calls Tryz.prog 242 #[.int .u64 v] w fun e w'=>e=.returned (.func (.func 245) #[] #[.pointer (some ⟨w.heap.size,0,none⟩)])/\w'=w.alloc (.cells #[.int .u64 v] 255):=by
 go_enter Tryz.func242,Tryz.ntmps242;go_wp2;go_ret;exact⟨rfl,rfl⟩
def Q6(M:Qf):Array Value:=((List.range 33).map fun a=>Value.int .u64 (Q2 M a)).toArray
theorem Qo(M:Qf):(Q6 M).size=33:=by simp [Q6]
theorem Yb(M:Qf):(Q6 M=#[])=False:=by
 apply eq_false;intro a;have:=Qo M;rw [a] at this;simp at this
theorem Q42:Q6 noB=(Array.replicate 33 (Value.int .u64 0)):=by
 unfold Q6;have:(fun a=>Value.int .u64 ((Q2 noB a:Nat):Int))=fun _=>Value.int .u64 0:=by funext a;rw [Ud];rfl
 rw [this];rfl
theorem Yu(w:World):(zeroValue 257).run Tryz.prog w=.ok (.agg (Q6 noB)) w:=by
 rw [Q42];kernel_rfl
def Q3(f:Nat->Nat):Array Value:=((List.range 33).map fun a=>Value.int .u64 (f a)).toArray
theorem Xs(M:Qf):Q6 M=Q3 (Q2 M):=rfl
theorem Q1z(f:Nat->Nat)(a v:Nat):(Q3 f).setIfInBounds a (.int .u64 (v:Int))=Q3 fun i=>if i=a then v else f i:=by
 unfold Q3;rw [List.setIfInBounds_toArray]
 congr 1
 apply List.ext_getElem?;intro i;simp only [List.getElem?_set,List.getElem?_map,List.length_map,List.length_range];by_cases c:a=i
 ·subst c;by_cases b:a<33
  ·simp [b]
  ·simp [b]
 ·rw [if_neg c];by_cases b:i<33
  ·simp [b,Ne.symm c]
  ·simp [b]
theorem Zj{f g:Nat->Nat}(h:∀ a,a<33->f a=g a):Q3 f=Q3 g:=by
 unfold Q3;rw [List.map_congr_left fun a ha=>by rw [h a (List.mem_range.1 ha)]]
theorem Q12(f:Nat->Nat){a:Nat}(h:a<33):(Q3 f)[a]?=some (.int .u64 (f a)):=by simp [Q3,h]
theorem Q9(f:Nat->Nat):(Q3 f).size=33:=by simp [Q3]
def Q8(w:World)(b:Nat)(f:Nat->Nat):Prop:=w.heap[b]?=some (.cells (Q3 f) 257 (0,0))
theorem Q8.cell{w:World}{b:Nat}{f:Nat->Nat}(h:Q8 w b f){a:Nat}(c:a<33):w.cell? ⟨b,a,none⟩=some (.int .u64 (f a)):=by
 rw [cell_of_row w b a _ _ _ h,Q12 f c]
theorem Q8.free{w:World}{b:Nat}{f:Nat->Nat}(h:Q8 w b f)(a:Nat):w.frozen? ⟨b,a,none⟩=false:=frozen_of_row w b a _ _ h
theorem Q8.keep{S:Nat->Prop}{A B:World}{b:Nat}{f:Nat->Nat}(h:Q8 A b f)(ht:Q0 S A B)(hS:¬ S b):Q8 B b f:=ht.heap h hS
theorem Q8.lt{w:World}{b:Nat}{f:Nat->Nat}(h:Q8 w b f):b<w.heap.size:=(Array.getElem?_eq_some_iff.1 h).1
theorem Q8.store{w:World}{b:Nat}{f:Nat->Nat}(h:Q8 w b f)(a v:Nat):Q8 (w.setCell ⟨b,a,none⟩ (.int .u64 (v:Int))) b (fun i=>if i=a then v else f i):=by
 unfold Q8;rw [heap_setCell_same w b a _ _ _ h,Q1z]
theorem Q8.row{w:World}{b:Nat}{f g:Nat->Nat}(h:Q8 w b f):Q8 (w.setRow b (Q3 g)) b g:=setRow_heap w b _ _ _ _ h
theorem Q0.setRow(A:World)(b:Nat)(cs:Array Value):Q0 (·=b) A (A.setRow b cs):=
 ⟨rfl,rfl,rfl,by simp,fun i _ hi=>by
  show (A.heap.modify b _)[i]?=_;rw [Array.getElem?_modify,if_neg (fun e=>hi e.symm)]⟩
theorem Tryz.relInfo (f:Nat->Nat):(Tryz.prog.info? 257).map (·.size)=some (Q3 f).size:=by
 rw [Q9];kernel_rfl
theorem Qj(f:Nat->Nat):(Q3 f).all (·.oneCell')=true:=by
 rw [Array.all_eq_true'];intro b a;simp only [Q3,List.mem_toArray,List.mem_map] at a;obtain⟨_,_,rfl⟩:=a;rfl
theorem Pk{k:Nat}(c:k<64):IntKind.u64.wrap (2 ^ k)=((2 ^ k:Nat):Int):=by
 have d:2 ^ k<18446744073709551616:=by
  have:=Nat.pow_lt_pow_right (a:=2) zd c
  simpa using this
 rw [IntKind.wrap_u64];have b:((2:Int) ^ k)=((2 ^ k:Nat):Int):=by simp
 rw [b];generalize 2 ^ k=e at d;omega
theorem X0{fn:Func}{p:Tmp}(h:fn.results=#[.cell p 257]){tmps:Array Value}{w:World}{g:Nat}{f:Nat->Nat}(hp:tmps.getD p undef=.pointer (some ⟨g,0,none⟩)) (hg:Q8 w g f) :
  (results fn tmps).run Tryz.prog w=.ok (.agg (Q3 f)) w:=
 results_cell_row h tmps w g _ _ _ _ hp hg Tryz.underlying257 rfl (Tryz.relInfo f)
theorem H9(n:Nat)(C:n<=32)(w:World) :
  Calls Tryz.prog 269 #[.int .i64 n] w fun e w'=>e=.returned (.agg (Q3 (Q2 (idB n))))/\Ext w w':=by
 have E:=Yu;have F:=Qo noB;have G:=Yb noB;go_enter Tryz.func269,Tryz.ntmps269;go_wp2;clear E F G;obtain⟨b,m⟩:=zE w.heap.size;have f:Q8 ((w.alloc (.cells (Q6 noB) 257)).alloc (.cells (Q6 noB) 257)) b (fun _=>0):=by
  subst m;refine Q7 (new_at rfl) |>.trans ?_;rw [Xs,Zj fun a _=>Ud a]
 have d:Q8 ((w.alloc (.cells (Q6 noB) 257)).alloc (.cells (Q6 noB) 257)) (b+1) (fun a=>if a<0 then 2 ^ a else 0):=by
  subst m;refine(new_at zy).trans ?_;rw [Xs,Zj (g:=fun a=>if a<0 then 2 ^ a else 0) fun a _=>by rw [Ud];simp]
 have j:Ext w ((w.alloc (.cells (Q6 noB) 257)).alloc (.cells (Q6 noB) 257)):=((Q0.refl _ w).alloc _).alloc _;generalize ((w.alloc (.cells (Q6 noB) 257)).alloc (.cells (Q6 noB) 257))=P at f d j ⊢;rw [m];have r:=Zh m;clear m
 refine wp_loop (fun a c=>∃(k:Nat),k<=n+1/\a.defers=[]/\gS a [2,3,6,7]=(16,[.pointer (some ⟨b,0,none⟩),.pointer (some ⟨b+1,0,none⟩),.int .i64 ((n:Int)+1),.int .i64 k])/\Q8 c b (fun _=>0)/\Q8 c (b+1) (fun a=>if a<k then 2 ^ a else 0)/\Ext w c)
  (fun a _=>n+1 - (intOf (a.tmps.getD 7 undef)).toNat) ?_ ?_
 ·exact⟨0,by omega,rfl,rfl,f,d,j⟩
 clear f d j;rintro⟨N,_⟩ c ⟨k,K,B,x,f,d,j⟩;subst B;obtain⟨O,rfl⟩:=Qt x;clear x;by_cases L:k<n+1
 ·have p:(k:Int)<(n:Int)+1:=by omega
  have s:(k:Int)<33:=by omega
  have J:(k:Int)<64:=by omega
  have H:=d.cell (a:=k) oz;have I:=d.free k;have M:=Pk (k:=k) oz;have q:=d.store k (2 ^ k);have t:(fun i=>if i=k then 2 ^ k else if i<k then 2 ^ i else 0)=fun a=>if a<k+1 then 2 ^ a else 0:=by
   funext i
   by_cases e:i=k
   ·subst e;simp
   ·rw [if_neg e];by_cases l:i<k
    ·rw [if_pos l,if_pos oz]
    ·rw [if_neg l,if_neg oz]
  rw [t] at q;have u:=f.keep (Q0.set1 c (b+1) k (.int .u64 ((2 ^ k:Nat):Int))) oz;have o:Ext w (c.setCell ⟨b+1,k,none⟩ (.int .u64 ((2 ^ k:Nat):Int))):=j.after (Q0.set1 c (b+1) k _) (fun b' p s=>by have:=r.out;omega);obtain⟨A,z,y⟩:=Zh3 q u o;clear t q u o f d j;go_wp2;exact⟨⟨k+1,by omega,tz,rfl,z.out,A.out,y.out⟩,nz⟩
 ·obtain rfl:k=n+1:=by omega
  have p:¬ (((n+1:Nat):Int)<(n:Int)+1):=by omega
  have D:=Q8.row (g:=fun a=>if a<n+1 then 2 ^ a else 0) f;have o:Ext w (c.setRow b (Q3 fun a=>if a<n+1 then 2 ^ a else 0)):=j.after (Q0.setRow c b _) (fun b' p s=>by have:=r.out;omega)
  go_wp2_with (first
   | (refine wpList_load_row rfl 257 (.tmp 3) rfl (b+1) rfl _ _ _ _ d Tryz.underlying257 rfl (Tryz.relInfo _) ?_)
   | (refine wpList_store_row rfl 257 (.tmp 2) (.tmp 15) rfl b (Q3 fun a=>if a<n+1 then 2 ^ a else 0) rfl rfl _ _ f (Tryz.relInfo _) (by rw [Q9,Q9]) (Qj _) ?_))
  refine bodyPost_ret (v:=.agg (Q3 fun a=>if a<n+1 then 2 ^ a else 0)) (X0 rfl rfl D) rfl ⟨?_,o⟩;rw [Zj (g:=Q2 (idB n)) fun a _=>?_];by_cases l:a<n+1
  ·rw [if_pos l,Q7m C oz]
  ·rw [if_neg l,Q5u (Qy.id n) oz]
def Vu(X Y:Qf)(k:Nat):Nat->Nat:=fun a=>if a<k then Q2 (comp X Y) a else 0
def Vs(X Y:Qf)(k:Nat)(pre:List Nat):Nat->Nat:=fun a=>if a=k then Yv Y pre else Vu X Y k a
theorem Q3r(X Y:Qf)(k:Nat):Vs X Y k []=Vu X Y k:=by
 funext a;unfold Vs Vu
 by_cases b:a=k
 ·subst b;simp [Q4o]
 ·rw [if_neg b]
theorem Q4j(X Y:Qf)(k:Nat):Vs X Y k (evs (Q2 X k))=Vu X Y (k+1):=by
 funext a;unfold Vs Vu
 by_cases b:a=k
 ·subst b;rw [if_pos rfl,if_pos oz,Mv,Q37]
 ·rw [if_neg b];by_cases c:a<k
  ·rw [if_pos c,if_pos oz]
  ·rw [if_neg c,if_neg oz]
theorem Q1u(X Y:Qf)(k:Nat)(d:List Nat)(b:Nat):(fun i=>if i=k then Yv Y d ||| Q2 Y b else Vs X Y k d i)=Vs X Y k (d++[b]):=by
 funext a;unfold Vs
 by_cases c:a=k
 ·subst c;rw [if_pos rfl,if_pos rfl,Q17]
 ·rw [if_neg c,if_neg c,if_neg c]
theorem K4(X:Qf)(a:Nat):Q2 X a<8589934592:=by
 have:=Gw 33 (X a);simpa [Q2] using this
theorem Q5c(Y:Qf)(a:List Nat):Yv Y a<8589934592:=by
 have:=Gw 33 (fun c=>a.any fun b=>Y b c);simpa [Yv] using this
theorem Q8m{w:World}(h:Tab w):3<w.heap.size:=by
 have b:=h 0 zd;unfold World.cell? at b;rcases Nat.lt_or_ge 3 w.heap.size with a | a
 ·exact a
 ·simp [Array.getElem?_eq_none a] at b
theorem K1{w:World}{bx n:Nat}{X Y:Qf}(b0:Q8 w bx (Q2 X)) (U:Q8 w n (Q2 Y)) (a3:Tab w) :
  Calls Tryz.prog 270 #[.pointer (some ⟨bx,0,none⟩),.pointer (some ⟨n,0,none⟩)] w fun e w'=>e=.returned (.agg (Q3 (Q2 (comp X Y))))/\Ext w w':=by
 have c8:=Yu;have c9:=Qo noB;have d0:=Yb noB;have e1:3<w.heap.size:=Q8m a3;refine Zr Tryz.func270 rfl ?_;simp only [Tryz.ntmps270,zS,Nat.reduceAdd,Nat.reduceSub];go_wp2;clear c8 c9 d0;obtain⟨d,B⟩:=zE w.heap.size;have u:(((w.alloc (.cells #[.pointer (some ⟨n,0,none⟩)] 291)).alloc (.cells (Q6 noB) 257)).alloc (.cells (Q6 noB) 257)).heap[d]?=some (.cells #[.pointer (some ⟨n,0,none⟩)] 291 (0,0)):=by
  subst B;exact Q7 (Q7 (new_at rfl))
 have s:Q8 (((w.alloc (.cells #[.pointer (some ⟨n,0,none⟩)] 291)).alloc (.cells (Q6 noB) 257)).alloc (.cells (Q6 noB) 257)) (d+1) (fun _=>0):=by
  subst B;refine(Q7 (new_at zy)).trans ?_;rw [Xs,Zj fun a _=>Ud a]
 have r:Q8 (((w.alloc (.cells #[.pointer (some ⟨n,0,none⟩)] 291)).alloc (.cells (Q6 noB) 257)).alloc (.cells (Q6 noB) 257)) (d+1+1) (Vu X Y 0):=by
  subst B;refine(new_at zy).trans ?_;rw [Xs,Zj (g:=Vu X Y 0) fun a _=>by rw [Ud];simp [Vu]]
 have p:Ext w (((w.alloc (.cells #[.pointer (some ⟨n,0,none⟩)] 291)).alloc (.cells (Q6 noB) 257)).alloc (.cells (Q6 noB) 257)):=(((Q0.refl _ w).alloc _).alloc _).alloc _;generalize (((w.alloc (.cells #[.pointer (some ⟨n,0,none⟩)] 291)).alloc (.cells (Q6 noB) 257)).alloc (.cells (Q6 noB) 257))=f1 at u s r p ⊢;have c6:=b0.lt;have c7:=U.lt;rw [B] at c6 c7 ⊢;have G:=Zh B;have c0:=a3;clear B
 refine wp_loop (fun a f=>∃(c:Nat) (z:List Deferred),c<=33/\a.defers=z/\gS a [0,3,4,5,9,10]=(31,[.pointer (some ⟨bx,0,none⟩),.pointer (some ⟨d,0,none⟩),.pointer (some ⟨d+1,0,none⟩),.pointer (some ⟨d+1+1,0,none⟩),.pointer (some ⟨bx,0,none⟩),.int .i64 c])/\Qz d z f /\
   f.heap[d]?=some (.cells #[.pointer (some ⟨n,0,none⟩)] 291 (0,0))/\Q8 f (d+1) (fun _=>0)/\Q8 f (d+1+1) (Vu X Y c)/\Ext w f)
  (fun a _=>33 - (intOf (a.tmps.getD 10 undef)).toNat) ?_ ?_
 ·exact⟨0,[],by omega,rfl,rfl,trivial,u,s,r,p⟩
 clear u s r p;rintro⟨b3,z⟩ f ⟨c,d8,e3,c2,Q,J,u,s,r,p⟩;subst c2;obtain⟨f0,rfl⟩:=Qt Q;clear Q;have T:=b0.keep p id;have b2:=U.keep p id;have c1:=c0.keep p id;have e6:=r.lt;by_cases a8:c<33
 ·have M:(c:Int)<33:=by omega
  have Z:=T.cell a8;have W:Hid (∀ D,Ext f D->D.cell? ⟨bx,c,none⟩=some (.int .u64 (Q2 X c))):=Zh fun D N=>N.cell_some Z id;have e4:=K4 X c;have O:=J.lt;go_wp2
  go_region_held3 (fun w'=>w'.cell? ⟨bx,c,none⟩=some (.int .u64 (Q2 X c)))
   ((refine W.out _ ?_;repeat' (first | exact Q0.refl _ _ | refine Q0.drew ?_ | refine Q0.alloc ?_ _ | refine Q0.setCell ?_ (.inl zy) _))) (first | fail)
  go_wp2_with (go_at_call 242;refine(Ex _ _).mono ?_;rintro e w' ⟨rfl,rfl⟩)
  have a5:U0 (((f.alloc (.cells #[.int .i64 c] 3)).alloc (.cells #[.int .u64 (Q2 X c)] 255)).drew) (f.heap.size+1) (Q2 X c):=Xw (new_at zy);have H:Ext f (((f.alloc (.cells #[.int .i64 c] 3)).alloc (.cells #[.int .u64 (Q2 X c)] 255)).drew):=(((Q0.refl _ _).alloc _).alloc _).drew;have a7:(((f.alloc (.cells #[.int .i64 c] 3)).alloc (.cells #[.int .u64 (Q2 X c)] 255)).drew).heap[f.heap.size]?=some (.cells #[.int .i64 c] 3 (0,0)):=Xw (Q7 (new_at rfl));have c4:(((f.alloc (.cells #[.int .i64 c] 3)).alloc (.cells #[.int .u64 (Q2 X c)] 255)).drew).heap.size=f.heap.size+2:=by simp
  generalize (((f.alloc (.cells #[.int .i64 c] 3)).alloc (.cells #[.int .u64 (Q2 X c)] 255)).drew)=L at a5 H a7 c4 ⊢;rw [<-Q3r] at r;clear W Z
  refine Tf (xs:=evs (Q2 X c)) (S:=(·=f.heap.size+1)) (K:=fun b'=>b'=f.heap.size+1\/b'=3) rfl (enters_of Tryz.func245 kz rfl)
   (Be _ oz (f.heap.size+1) oz L a5 (c1.keep H id)) (fun _ m=>.inl m) (fun b' m=>by omega) (fun _=>rfl)
   (fun k i=>Q8 i (d+1+1) (Vs X Y c k)/\i.heap[d]?=some (.cells #[.pointer (some ⟨n,0,none⟩)] 291 (0,0))/\Q8 i (d+1) (fun _=>0)/\i.heap[f.heap.size]?=some (.cells #[.int .i64 c] 3 (0,0))/\Ext w i/\Qz d z i)
   (fun _ _ _=>False) ?hI ?hIx ?h0 (fun j b3=>(b3.setIfInBounds 18 (.int .i64 j)).setIfInBounds 8 (.int .i64 j)) ?assign ?body ?done ?stop
  case hI=>
   rintro k d3 d4 ⟨t,x,C,E,y,F⟩ l;exact⟨t.keep l oz,l.heap x oz,C.keep l oz,l.heap E oz,y.after l (fun b' M h2=>by have:=G.out;omega),F.keepC O l (fun b' m=>.inl oz)⟩
  case hIx=>exact fun _ _ _ _ m _=>m
  case h0=>
   intro i a4 _;have I:Ext f i:=H.trans a4;exact⟨r.keep I id,I.heap u id,s.keep I id,a4.heap a7 id,p.trans I,J.keepC O I (fun _ m=>m.elim)⟩
  case assign=>
   intro j i K b9;gi_wp2;exact b9
  case body=>
   rintro k j e9 i R Q l ⟨t,x,C,E,y,F⟩;simp only [pq];have c3:j<33:=by
    have:j∈evs (Q2 X c):=by rw [R];simp
    rw [Mv] at this;exact List.mem_range.1 (List.mem_filter.1 this).1
   have e2:(j:Int)<33:=by omega
   have b1:=U.keep y id;have d5:=cell_of_one E;have d6:=cell_of_one x;have b8:=t.cell (a:=c) a8;have d9:=t.free c;have d7:=b1.cell c3;have A:Vs X Y c k c=Yv Y k:=by unfold Vs;rw [if_pos rfl]
   rw [A] at b8;have e5:=Q5c Y k;have e7:=K4 Y j;have e8:=u64_or_nat (Yv Y k) (Q2 Y j) oz oz;have P:=t.store c (Yv Y k ||| Q2 Y j);rw [Q1u] at P;have q:=Q0.set1 i (d+1+1) c (.int .u64 ((Yv Y k ||| Q2 Y j:Nat):Int))
   have a6:Q0 (fun b'=>¬ ((b'=f.heap.size+1\/b'=3)\/b'=L.heap.size\/b'=L.heap.size+1)) i ((i.setCell ⟨d+1+1,c,none⟩ (.int .u64 ((Yv Y k ||| Q2 Y j:Nat):Int))).drew):=
    (q.mono (fun b' _ e=>by have:=G.out;omega)).drew
   have a1:Q8 ((i.setCell ⟨d+1+1,c,none⟩ (.int .u64 ((Yv Y k ||| Q2 Y j:Nat):Int))).drew) (d+1+1) (Vs X Y c (k++[j]))/\((i.setCell ⟨d+1+1,c,none⟩ (.int .u64 ((Yv Y k ||| Q2 Y j:Nat):Int))).drew).heap[d]?=some (.cells #[.pointer (some ⟨n,0,none⟩)] 291 (0,0))/\Q8 ((i.setCell ⟨d+1+1,c,none⟩ (.int .u64 ((Yv Y k ||| Q2 Y j:Nat):Int))).drew) (d+1) (fun _=>0)/\((i.setCell ⟨d+1+1,c,none⟩ (.int .u64 ((Yv Y k ||| Q2 Y j:Nat):Int))).drew).heap[f.heap.size]?=some (.cells #[.int .i64 c] 3 (0,0))/\Ext w ((i.setCell ⟨d+1+1,c,none⟩ (.int .u64 ((Yv Y k ||| Q2 Y j:Nat):Int))).drew)/\Qz d z ((i.setCell ⟨d+1+1,c,none⟩ (.int .u64 ((Yv Y k ||| Q2 Y j:Nat):Int))).drew):=
    ⟨P,q.drew.heap x oz,C.keep q.drew oz,q.drew.heap E oz,y.after q.drew (fun b' M h2=>by have:=G.out;omega),F.keepC O q.drew (fun b' m=>.inr (.inr ⟨_,by subst m;exact t,rfl⟩))⟩
   obtain⟨b5,b6,d2,d1⟩:=Zh4 a6 a1 R A;clear a6 a1 R A P q t x C E y F b1 H p J r s u T b2 l;gi_wp2;refine Wm 9 kz kz kz (by rintro⟨_,_,m⟩;exact m) ?_;simp only [List.take_succ_cons,List.take_zero,List.drop_succ_cons,List.drop_zero];repeat still_step
   refine wpStill_nil ?_;go_wp2;exact⟨b5.out,b6.out⟩
  case done=>
   rintro i ⟨t,x,C,E,y,F⟩ l N;rw [Q4j] at t;have e0:L.heap.size<i.heap.size:=(Array.getElem?_eq_some_iff.1 N).1;clear H p J r s u T b2;go_wp2;exact⟨⟨c+1,_,by omega,rfl,rfl,Qz.cons F oz N (fun e he l=>by have:=O e he _ l;omega),x,C,t,y⟩,nz⟩
  case stop=>exact fun _ _ _ _ _ _ m=>m.elim
 ·obtain rfl:c=33:=by omega
  have M:¬ (((33:Nat):Int)<33):=by omega
  have A:Q3 (Vu X Y 33)=Q3 (Q2 (comp X Y)):=Zj fun a ha=>by unfold Vu;rw [if_pos ha]
  have a9:=Q8.row (g:=Q2 (comp X Y)) s;have q:=Q0.setRow f (d+1) (Q3 (Q2 (comp X Y)));have a0:Ext w (f.setRow (d+1) (Q3 (Q2 (comp X Y)))):=p.after q (fun b' M h2=>by have:=G.out;omega)
  have a2:Qz d z (f.setRow (d+1) (Q3 (Q2 (comp X Y)))):=J.keep q (fun b hb o ho=>by
   subst hb;have:f.heap[d+1]?=_:=s;rw [this] at ho;cases ho;rfl)
  have c5:Q8 f (d+1+1) (Q2 (comp X Y)):=by unfold Q8;rw [<-A];exact r
  obtain⟨b7,b4,V⟩:=Zh3 a2 a0 a9;clear a2 a0 a9 q A r
  go_wp2_with (first
   | (refine wpList_load_row rfl 257 (.tmp 5) rfl (d+1+1) rfl _ _ _ _ c5 Tryz.underlying257 rfl (Tryz.relInfo _) ?_)
   | (refine wpList_store_row rfl 257 (.tmp 4) (.tmp 30) rfl (d+1) (Q3 (Q2 (comp X Y))) rfl rfl _ _ s (Tryz.relInfo _) (by rw [Q9,Q9]) (Qj _) ?_))
  refine J8 (v:=.agg (Q3 (Q2 (comp X Y)))) _ _ b7.out (fun w' l hs=>⟨X0 rfl rfl (V.out.keep l (Shut.not V.out rfl)),rfl,b4.out.after l (fun b' h2 h3=>by have:=h3.1;have:=G.out;omega)⟩)
def orF(X Y:Qf)(k:Nat):Nat->Nat:=fun a=>if a<k then Q2 (orB X Y) a else Q2 X a
theorem Q6v(X Y:Qf)(k:Nat):(fun i=>if i=k then Q2 X k ||| Q2 Y k else orF X Y k i)=orF X Y (k+1):=by
 funext a;unfold orF
 by_cases b:a=k
 ·subst b;rw [if_pos rfl,if_pos oz,Q7v]
 ·rw [if_neg b];by_cases c:a<k
  ·rw [if_pos c,if_pos oz]
  ·rw [if_neg c,if_neg oz]
theorem Q3w{w:World}{bx g:Nat}{X Y:Qf}(B:Q8 w bx (Q2 X)) (C:Q8 w g (Q2 Y)) (A:bx≠g) :
  Calls Tryz.prog 267 #[.pointer (some ⟨bx,0,none⟩),.pointer (some ⟨g,0,none⟩)] w fun e w'=>(∃ v,e=.returned v)/\Q0 (·=bx) w w'/\Q8 w' bx (Q2 (orB X Y)):=by
 go_enter Tryz.func267,Tryz.ntmps267;go_wp2;have q:Q8 w bx (orF X Y 0):=by
  have:orF X Y 0=Q2 X:=by funext a;simp [orF]
  rw [this];exact B
 refine wp_loop (fun a d=>∃(b:Nat),b<=33/\a.defers=[]/\gS a [0,6,7]=(23,[.pointer (some ⟨bx,0,none⟩),.pointer (some ⟨g,0,none⟩),.int .i64 b])/\Q8 d bx (orF X Y b)/\Q0 (·=bx) w d)
  (fun a _=>33 - (intOf (a.tmps.getD 7 undef)).toNat) ?_ ?_
 ·exact⟨0,by omega,rfl,rfl,q,Q0.refl _ _⟩
 clear q;rintro⟨K,_⟩ d ⟨b,G,z,n,c,i⟩;subst z;obtain⟨L,rfl⟩:=Qt n;clear n;have r:=C.keep i (fun h=>A h.symm);by_cases l:b<33
 ·have y:(b:Int)<33:=by omega
  have E:=r.cell l;have x:=c.cell l;have F:=c.free b;have f:orF X Y b b=Q2 X b:=by unfold orF;rw [if_neg oz]
  rw [f] at x;have H:=K4 X b;have I:=K4 Y b;have J:=u64_or_nat (Q2 X b) (Q2 Y b) oz oz;have j:=c.store b (Q2 X b ||| Q2 Y b);rw [Q6v] at j;have k:∀ m,Q0 (·=bx) w ((d.drewN m).setCell ⟨bx,b,none⟩ (.int .u64 ((Q2 X b ||| Q2 Y b:Nat):Int))):=fun m=>(i.drewN m).setCell (p:=⟨bx,b,none⟩) (.inr rfl) _;obtain⟨s,t,D⟩:=Zh3 j k f;clear j k f c i r;go_wp2
  go_quiet (fail)
  go_wp2;refine Hb 9 kz kz ?_;simp only [List.take_succ_cons,List.take_zero,List.drop_succ_cons,List.drop_zero];repeat still_step
  refine wpStill_nil ?_;go_wp2;exact⟨⟨b+1,by omega,tz,rfl,s.out,t.out _⟩,nz⟩
 ·obtain rfl:b=33:=by omega
  have y:¬ (((33:Nat):Int)<33):=by omega
  have o:Q8 d bx (Q2 (orB X Y)):=by
   have f:Q3 (orF X Y 33)=Q3 (Q2 (orB X Y)):=Zj fun a ha=>by unfold orF;rw [if_pos ha]
   unfold Q8;rw [<-f];exact c
  have u:=Zh o;clear c o;go_wp2;go_end0
  exact⟨⟨_,rfl⟩,i,u.out⟩
theorem Q61(k:Nat)(c:k<9223372036854775808):(bits .and .i64 (k:Int) 1 == 1)=decide (k % 2=1):=by
 have b:bits .and .i64 (k:Int) 1=((k % 2:Nat):Int):=by
  show IntKind.i64.wrap ((BitVec.ofInt 64 (k:Int) &&& BitVec.ofInt 64 ((1:Nat):Int)).toNat:Int)=_;rw [BitVec.toNat_and,ofInt_u64 _ oz,ofInt_u64 1 oz,Nat.and_one_is_mod];exact IntWalk.i64_in _ oz
 rw [b];rcases Nat.mod_two_eq_zero_or_one k with a | a <;> simp [a]
theorem R7{n:Nat}(I:n<=32){X:Qf}(a5:Qy n X)(k:Nat)(b6:k<=64)(w:World)(M:Tab w) :
  Calls Tryz.prog 263 #[.agg (Q3 (Q2 X)),.int .i64 k,.int .i64 n] w fun e w'=>e=.returned (.agg (Q3 (Q2 (Z2 X n k))))/\Ext w w':=by
 have c1:=Yu;have c2:=Qo noB;have c3:=Yb noB;have c4:=Q9 (Q2 X);go_enter Tryz.func263,Tryz.ntmps263;go_wp2_with fail;clear c4;obtain⟨d,D⟩:=zE w.heap.size;have a1:Q8 ((w.alloc (.cells (Q3 (Q2 X)) 257)).alloc (.cells (Q6 noB) 257)) d (Q2 X):=by
  subst D;exact Q7 (new_at rfl)
 have t:Q8 ((w.alloc (.cells (Q3 (Q2 X)) 257)).alloc (.cells (Q6 noB) 257)) (d+1) (fun _=>0):=by
  subst D;refine(new_at zy).trans ?_;rw [Xs,Zj fun a _=>Ud a]
 have r:Ext w ((w.alloc (.cells (Q3 (Q2 X)) 257)).alloc (.cells (Q6 noB) 257)):=((Q0.refl _ w).alloc _).alloc _;generalize ((w.alloc (.cells (Q3 (Q2 X)) 257)).alloc (.cells (Q6 noB) 257))=c0 at a1 t r ⊢;rw [D];have P:=Zh D;clear D;refine(H9 n I c0).mono ?_;rintro e j ⟨rfl,l⟩;have a9:=a1.keep l id;have a0:=t.keep l id;have a4:=r.trans l;have T:(j.alloc (.cells (Q6 noB) 257)).heap[j.heap.size]?=some (.cells (Q6 noB) 257 (0,0)):=new_at rfl
 go_wp2_with (refine wpList_store_row rfl 257 (.tmp 7) (.tmp 9) rfl j.heap.size (Q3 (Q2 (idB n))) rfl rfl _ _ T (Tryz.relInfo _) (by rw [Qo,Q9]) (Qj _) ?_)
 obtain⟨q,x⟩:=zE j.heap.size;have L:Q8 ((j.alloc (.cells (Q6 noB) 257)).setRow j.heap.size (Q3 (Q2 (idB n)))) j.heap.size (Q2 (idB n)):=setRow_heap _ _ _ _ _ _ T;have s:Ext j ((j.alloc (.cells (Q6 noB) 257)).setRow j.heap.size (Q3 (Q2 (idB n)))):=((Q0.refl _ j).alloc _).after (Q0.setRow _ _ _) (fun b' o h2=>by omega);have b7:=a0.lt;generalize ((j.alloc (.cells (Q6 noB) 257)).setRow j.heap.size (Q3 (Q2 (idB n))))=d2 at L s ⊢;rw [x] at L b7 ⊢;have b0:=a9.keep s id;have B:=a0.keep s id;have S:=a4.trans s;have W:=M.keep S id;have c6:3<d:=by
  have:=M 0 zd;rw [<-P.out];apply Nat.lt_of_not_le;intro b2;simp [World.cell?,Array.getElem?_eq_none b2] at this
 clear a1 t r l a9 a0 a4 T s x c1 c2 c3
 refine wp_loop (fun a u=>∃(f:Nat) (c m:Qf),f<=64/\a.defers=[]/\gS a [1,3,6,7]=(20,[.int .i64 f,.pointer (some ⟨d,0,none⟩),.pointer (some ⟨d+1,0,none⟩),.pointer (some ⟨q,0,none⟩)]) /\
   (Qy n c/\Qy n m/\comp m (Z2 c n f)=Z2 X n k)/\Q8 u d (Q2 c)/\Q8 u (d+1) (fun _=>0)/\Q8 u q (Q2 m)/\Ext w u)
  (fun a _=>(intOf (a.tmps.getD 1 undef)).toNat) ?_ ?_
 ·exact⟨k,X,idB n,b6,rfl,rfl,⟨a5,Qy.id n,Q8a I (Qy.pow a5 k)⟩,b0,B,L,S⟩
 clear b0 B L S W;rintro⟨d0,_⟩ u ⟨f,c,m,c7,b4,a7,b8,y,t,x,r⟩;subst b4;obtain⟨d1,rfl⟩:=Qt a7;clear a7;obtain⟨A,Z,N⟩:=b8;have Y:=M.keep r id;have b3:Q0 (fun b=>b=d\/b=q) u u:=Q0.refl _ _;have a8:w.heap.size<=q/\w.heap.size<=d:=by have:=P.out;omega
 have R:=Zh a8;clear a8;by_cases b5:f=0
 ·subst b5;rw [show Z2 c n 0=idB n from rfl,Q7l I Z] at N;subst N;have b9:=Q8.row (g:=Q2 (Z2 X n k)) t;have l:Ext w (u.setRow (d+1) (Q3 (Q2 (Z2 X n k)))):=r.after (Q0.setRow u (d+1) _) (fun b' o h2=>by have:=P.out;omega)
  go_wp2_with (first
   | (refine wpList_load_row rfl 257 (.tmp 7) rfl q rfl _ _ _ _ x Tryz.underlying257 rfl (Tryz.relInfo _) ?_)
   | (refine wpList_store_row rfl 257 (.tmp 6) (.tmp 19) rfl (d+1) (Q3 (Q2 (Z2 X n k))) rfl rfl _ _ t (Tryz.relInfo _) (by rw [Q9,Q9]) (Qj _) ?_))
  exact bodyPost_ret (v:=.agg (Q3 (Q2 (Z2 X n k)))) (X0 rfl rfl b9) rfl ⟨rfl,l⟩
 ·have c8:(0:Int)<(f:Int):=by omega
  have c9:(f:Int)<=64:=by omega
  have a6:=Q61 f oz;have a2:=Zh N;clear N;by_cases o:f % 2=1
  ·rw [decide_eq_true o] at a6;have O:=Zh o;clear o;go_wp2_with fail;refine(K1 x y Y).mono ?_;rintro e a3 ⟨rfl,l⟩;have U:=x.keep l id
   go_wp2_with (refine wpList_store_row rfl 257 (.tmp 7) (.tmp 17) rfl q (Q3 (Q2 (comp m c))) rfl rfl _ _ U (Tryz.relInfo _) (by rw [Q9,Q9]) (Qj _) ?_)
   have i:=Q0.setRow a3 q (Q3 (Q2 (comp m c)));have V:=Q8.row (g:=Q2 (comp m c)) U;have G:=(y.keep l id).keep i oz;have B:=(t.keep l id).keep i oz;have s:=(r.trans l).after i (fun b' o h2=>by have:=R.out.1;omega);generalize (a3.setRow q (Q3 (Q2 (comp m c))))=c5 at V G B s ⊢;have W:=M.keep s id;clear i U l x y t r Y b3;go_wp2_with fail;refine(K1 G G W).mono ?_;rintro e C ⟨rfl,p⟩;have z:=G.keep p id
   go_wp2_with (refine wpList_store_row rfl 257 (.tmp 3) (.tmp 18) rfl d (Q3 (Q2 (comp c c))) rfl rfl _ _ z (Tryz.relInfo _) (by rw [Q9,Q9]) (Qj _) ?_)
   have i:=Q0.setRow C d (Q3 (Q2 (comp c c)));have H:=Q8.row (g:=Q2 (comp c c)) z;have F:=(V.keep p id).keep i oz;have K:=(B.keep p id).keep i oz;have E:=(s.trans p).after i (fun b' o h2=>by have:=R.out.2;omega);generalize (C.setRow d (Q3 (Q2 (comp c c))))=b1 at H F K E ⊢;clear i z p G B s V;have J:comp (comp m c) (Z2 (comp c c) n (f / 2))=Z2 X n k:=by
    rw [Po I A,P4,<-a2.out]
    congr 1
    have:f=2*(f / 2)+1:=by have:=O.out;omega
    rw [show Z2 c n f=Z2 c n (2*(f / 2)+1) from congrArg _ this];rfl
   have Q:=Zh J;clear J;go_wp2;exact⟨⟨f / 2,comp c c,comp m c,by omega,tz,rfl,⟨A.comp A,Z.comp A,Q.out⟩,H,K,F,E⟩,nz⟩
  ·rw [decide_eq_false o] at a6;have O:=Zh o;clear o;go_wp2_with fail;refine(K1 y y Y).mono ?_;rintro e C ⟨rfl,p⟩;have z:=y.keep p id
   go_wp2_with (refine wpList_store_row rfl 257 (.tmp 3) (.tmp 18) rfl d (Q3 (Q2 (comp c c))) rfl rfl _ _ z (Tryz.relInfo _) (by rw [Q9,Q9]) (Qj _) ?_)
   have i:=Q0.setRow C d (Q3 (Q2 (comp c c)));have H:=Q8.row (g:=Q2 (comp c c)) z;have F:=(x.keep p id).keep i oz;have K:=(t.keep p id).keep i oz;have E:=(r.trans p).after i (fun b' o h2=>by have:=R.out.2;omega);generalize (C.setRow d (Q3 (Q2 (comp c c))))=b1 at H F K E ⊢;clear i z p y t r x;have J:comp m (Z2 (comp c c) n (f / 2))=Z2 X n k:=by
    rw [Po I A,<-a2.out]
    congr 2
    have:=O.out;omega
   have Q:=Zh J;clear J;go_wp2;exact⟨⟨f / 2,comp c c,m,by omega,tz,rfl,⟨A.comp A,Z,Q.out⟩,H,K,F,E⟩,nz⟩
end Go.Proofs.YtejenndedjabhaaGreatDoor
namespace Go.Ab
inductive Z3 where
 | sound (pl mi:Nat) (nt:Bool)
 | edge (e:Bool)
 | seq (l:List Z3)
 | alt (l:List Z3)
 | rep (of:Z3) (mn mx:Int)
mutual
def Ye(w:Wd):Z3->Qf
 | .sound pl mi nt=>Yq w (pl,mi) nt
 | .edge e=>X6 (if e then w.length else 0)
 | .seq l=>Uj w l (idB w.length)
 | .alt l=>Jd w l noB
 | .rep p mn mx=>Pb (Ye w p) w.length mn.toNat (W1 w.length mn mx)
def Uj(w:Wd):List Z3->Qf->Qf
 | [],X=>X
 | p::l,X=>Uj w l (comp X (Ye w p))
def Jd(w:Wd):List Z3->Qf->Qf
 | [],X=>X
 | p::l,X=>Jd w l (orB X (Ye w p))
end
theorem Re(w:Wd)(p:Z3):∀(l:List Z3) (X:Qf),Uj w (l++[p]) X=comp (Uj w l X) (Ye w p)
 | [],X=>by simp [Uj]
 | q::l,X=>by rw [List.cons_append];unfold Uj;exact Re w p l _
theorem Ps(w:Wd)(p:Z3):∀(l:List Z3) (X:Qf),Jd w (l++[p]) X=orB (Jd w l X) (Ye w p)
 | [],X=>by simp [Jd]
 | q::l,X=>by rw [List.cons_append];unfold Jd;exact Ps w p l _
mutual
theorem Kz(w:Wd):∀ p,Qy w.length (Ye w p)
 | .sound pl mi nt=>by unfold Ye;exact Qy.sound _ _ _
 | .edge e=>by unfold Ye;exact Qy.edge (by cases e <;> simp)
 | .seq l=>by unfold Ye;exact Rg w l _ (Qy.id _)
 | .alt l=>by unfold Ye;exact Pp w l _ (Qy.no _)
 | .rep p mn mx=>by unfold Ye Pb;exact(Qy.pow (Kz w p) _).comp (Qy.pow ((Kz w p).or (Qy.id _)) _)
theorem Rg(w:Wd):∀(l:List Z3) (X:Qf),Qy w.length X->Qy w.length (Uj w l X)
 | [],_,h=>by unfold Uj;exact h
 | p::l,X,h=>by unfold Uj;exact Rg w l _ (h.comp (Kz w p))
theorem Pp(w:Wd):∀(l:List Z3) (X:Qf),Qy w.length X->Qy w.length (Jd w l X)
 | [],_,h=>by unfold Jd;exact h
 | p::l,X,h=>by unfold Jd;exact Pp w l _ (h.or (Kz w p))
end
mutual
def cmp:Pat->Z3
 | .node k pl mi nt mn mx l=>
  if k=1 then .sound pl mi nt
  else if k=2 then .edge false
  else if k=6 then .edge true
  else if k=4 then .alt (Xy l)
  else if k=5 then .rep ((Xy l).headD (.seq [])) mn mx
  else .seq (Xy l)
def Xy:List Pat->List Z3
 | []=>[]
 | p::l=>cmp p::Xy l
end
theorem H8(l:List Pat):Xy l=l.map cmp:=by
 induction l with
 | nil=>rfl
 | cons p l ih=>unfold Xy;rw [ih];rfl
mutual
def Kf:Pat->Prop
 | .node k pl mi nt mn mx l=>Xa (.node k pl mi nt mn mx l)=0/\l.length<=40/\J7 l
def J7:List Pat->Prop
 | []=>True
 | p::l=>Kf p/\J7 l
end
theorem Q1q{l:List Pat}:J7 l↔∀ p∈l,Kf p:=by
 induction l with
 | nil=>simp [J7]
 | cons p l ih=>unfold J7;rw [ih];simp
theorem Q5k(p:Pat)(n:Nat)(c:n<=40)(h:(Yy p n).2=0):n+1<=(Yy p n).1:=by
 cases p with
 | node k pl mi nt mn mx l=>
  unfold Yy at h ⊢;by_cases b:n=40
  ·rw [if_pos b] at h;cases h
  ·rw [if_neg b] at h ⊢;by_cases a:Xa (.node k pl mi nt mn mx l)=0
   ·rw [if_pos a];exact(W4 l (n+1) [] (by omega)).1.2
   ·rw [if_neg a] at h;exact absurd h a
theorem S4:∀(l:List Pat) (n:Nat),n<=40->(Ji l n).2=0->n+l.length<=(Ji l n).1
 | [],n,_,_=>by simp [Ji]
 | p::l,n,hn,h=>by
  unfold Ji Si at h ⊢;by_cases he:(Yy p n).2=0
  ·rw [if_pos he] at h ⊢;have h1:=Q5k p n hn he;have h2:=S4 l _ (W6 p n [] hn).1.1 h;simp only [List.length_cons];omega
  ·rw [if_neg he] at h;exact absurd h he
mutual
theorem Ss:∀(p:Pat) (n:Nat),n<=40->(Yy p n).2=0->Kf p
 | .node k pl mi nt mn mx l,n,hn40,h=>by
  unfold Yy at h;unfold Kf;by_cases hn:n=40
  ·rw [if_pos hn] at h;cases h
  ·rw [if_neg hn] at h;by_cases he:Xa (.node k pl mi nt mn mx l)=0
   ·rw [if_pos he] at h;have h1:=S4 l (n+1) (by omega) h;have h2:=(W4 l (n+1) [] (by omega)).1.1;exact⟨he,by omega,T4 l _ (by omega) h⟩
   ·rw [if_neg he] at h;exact absurd h he
theorem T4:∀(l:List Pat) (n:Nat),n<=40->(Ji l n).2=0->J7 l
 | [],_,_,_=>by unfold J7;trivial
 | p::l,n,hn,h=>by
  unfold Ji Si at h;unfold J7;by_cases he:(Yy p n).2=0
  ·rw [if_pos he] at h;exact⟨Ss p n hn he,T4 l _ (W6 p n [] hn).1.1 h⟩
  ·rw [if_neg he] at h;exact absurd h he
end
theorem Q8p{p:Pat}(h:Ya p=0):Kf p:=Ss p 0 (by omega) (by rw [Q1l];exact h)
theorem Q79{c:Prop} [Decidable c] (h:(if c then(0:Int) else 14)=0):c:=by
 by_cases a:c
 ·exact a
 ·rw [if_neg a] at h;cases h
theorem Wp{c:Prop} [Decidable c] {x:Int} (h:(if c then 2 else x)=0):¬ c/\x=0:=by
 by_cases a:c
 ·rw [if_pos a] at h;cases h
 ·rw [if_neg a] at h;exact⟨a,h⟩
theorem N9{k:Int}{pl mi:Nat}{nt:Bool}{mn mx:Int}{l:List Pat}(h:Xa (.node k pl mi nt mn mx l)=0) :
  (0<=k/\k<=6)/\(k≠1->pl=0/\mi=0/\nt=false)/\(k≠3->k≠4->k≠5->l=[])/\(k≠5->mn=0/\mx=0) /\
   (k=5->l.length=1/\0<=mn/\mn<=32/\(mx=-1\/mn<=mx/\mx<=32))/\Z7 pl mi=true:=by
 unfold Xa at h;simp only [Pat.k,Pat.pl,Pat.mi,Pat.nt,Pat.mn,Pat.mx,Pat.l] at h;obtain⟨j,h⟩:=Wp h;obtain⟨f,h⟩:=Wp h;obtain⟨g,h⟩:=Wp h;obtain⟨m,h⟩:=Wp h;obtain⟨d,h⟩:=Wp h;have i:Z7 pl mi=true:=Q79 h;refine⟨by omega,fun hk=>?_,fun a b c=>?_,fun hk=>by omega,fun hk=>?_,i⟩
 ·refine⟨?_,?_,?_⟩
  ·exact Classical.byContradiction fun hh=>f ⟨hk,.inl hh⟩
  ·exact Classical.byContradiction fun hh=>f ⟨hk,.inr (.inl hh)⟩
  ·cases nt
   ·rfl
   ·exact absurd ⟨hk,.inr (.inr rfl)⟩ f
 ·exact List.eq_nil_of_length_eq_zero (Classical.byContradiction fun hh=>g ⟨a,b,c,hh⟩)
 ·refine⟨Classical.byContradiction fun hh=>d ⟨hk,.inl hh⟩,?_,?_,?_⟩
  ·apply Int.not_lt.1;exact fun hh=>d ⟨hk,.inr (.inl hh)⟩
  ·apply Int.not_lt.1;exact fun hh=>d ⟨hk,.inr (.inr (.inl hh))⟩
  ·by_cases e:mx=-1
   ·exact .inl e
   ·refine .inr ⟨?_,?_⟩
    ·apply Int.not_lt.1;exact fun hh=>d ⟨hk,.inr (.inr (.inr ⟨e,.inl hh⟩))⟩
    ·apply Int.not_lt.1;exact fun hh=>d ⟨hk,.inr (.inr (.inr ⟨e,.inr hh⟩))⟩
theorem Q02(w:Wd):∀(l:List Z3) (X Y:Qf),Jd w l (orB X Y)=orB X (Jd w l Y)
 | [],X,Y=>by unfold Jd;rfl
 | p::l,X,Y=>by unfold Jd;rw [Q4l,Q02 w l]
mutual
theorem Ww(w:Wd):∀ p,Kf p->Ye w (cmp p)=Vf w p
 | .node k pl mi nt mn mx l,h=>by
  unfold Kf at h;obtain⟨_,_,_,_,h5,_⟩:=N9 h.1;unfold cmp Vf
  split
  ·unfold Ye;rfl
  ·split
   ·unfold Ye;rfl
   ·split
    ·unfold Ye;rfl
    ·split
     ·unfold Ye;exact(Tq w l h.2.2)
     ·split
      ·rename_i hk
       have hl:=(h5 hk).1
       match l,hl,h.2.2 with
       | [q],_,h2=>
        unfold J7 at h2;unfold Ye Tk;show Pb (Ye w (cmp q)) _ _ _=_;rw [Ww w q h2.1]
      ·unfold Ye;exact Bu w l _ h.2.2
theorem Bu(w:Wd):∀(l:List Pat) (X:Qf),J7 l->Uj w (Xy l) X=Fo w l X
 | [],X,_=>by unfold Xy Uj Fo;rfl
 | p::l,X,h=>by
  unfold J7 at h;unfold Xy Uj Fo;rw [Ww w p h.1,Bu w l _ h.2]
theorem Tq(w:Wd):∀(l:List Pat),J7 l->Jd w (Xy l) noB=Lc w l
 | [],_=>by unfold Xy Jd Lc;rfl
 | p::l,h=>by
  unfold J7 at h;unfold Xy Jd Lc;rw [Q8t,<-Q9d (Ye w (cmp p)),Q02,Ww w p h.1,Tq w l h.2]
end
end Go.Ab
