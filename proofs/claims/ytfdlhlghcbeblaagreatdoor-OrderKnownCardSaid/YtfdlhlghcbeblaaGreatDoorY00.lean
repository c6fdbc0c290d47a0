/- PLAIN: -/
import Derived.Test.YtfdlhlghcbeblaaGreatDoorProg
import Derived.Lib.Hide
import Derived.RangeFuncNested
import Derived.OwnWalkIn
import Derived.TacticsInMore
import Derived.LoopNIn
import Derived.LoopIn
import Derived.BigQuiet
import Derived.StillTailTactics
import Derived.Deep.DeepCutAuto
import Derived.Deep.RegionHeld3
import Derived.WalkLawsBesides
import Derived.Handy
import Derived.Shelf.Spec.TrailingZeros
import Derived.Deep.WholeRow
set_option maxRecDepth 100000
set_option maxHeartbeats 8000000
namespace Go.Ab
def Y1:Nat->(Nat->Bool)->Nat
 | 0,_=>0
 | n+1,p=>Y1 n p+if p n then 2 ^ n else 0
theorem Vf(n:Nat)(p:Nat->Bool):Y1 n p<2 ^ n:=by
 induction n with
 | zero=>simp [Y1]
 | succ n ih=>
  unfold Y1;rw [Nat.pow_succ]
  split <;> omega
theorem Yj(n:Nat)(p:Nat->Bool)(i:Nat):(Y1 n p).testBit i=(decide (i<n) && p i):=by
 induction n with
 | zero=>simp [Y1]
 | succ n ih=>
  unfold Y1;have f:=Vf n p;by_cases a:p n=true
  ·rw [if_pos a,Nat.add_comm];rw [show 2 ^ n+Y1 n p=2 ^ n*1+Y1 n p by omega];rw [Nat.testBit_two_pow_mul_add _ f]
   split
   ·rename_i c;rw [ih];simp [c,Nat.lt_succ_of_lt c]
   ·rename_i c
    by_cases b:i=n
    ·subst b;simp [a]
    ·obtain⟨d,e⟩:∃ d,i - n=d+1:=⟨i - n - 1,by omega⟩;rw [e,Nat.testBit_succ];simp;omega
  ·rw [if_neg a,Nat.add_zero,ih];by_cases b:i=n
   ·subst b;simp at a;simp [a]
   ·have:(i<n+1)↔(i<n):=by omega
    simp [this]
theorem Nk{n v:Nat}{p:Nat->Bool}(b:v<2 ^ n)(h:∀ i,i<n->v.testBit i=p i):v=Y1 n p:=by
 apply Nat.eq_of_testBit_eq;intro i;rw [Yj];by_cases a:i<n
 ·simp [a,h i a]
 ·rw [Nat.testBit_lt_two_pow (Nat.lt_of_lt_of_le b (Nat.pow_le_pow_right (by decide) (by omega)))];simp [a]
theorem Yu{n:Nat}{p q:Nat->Bool}(h:∀ i,i<n->p i=q i):Y1 n p=Y1 n q:=
 Nk (Vf n p) fun i hi=>by rw [Yj];simp [hi,h i hi]
theorem Uc(n:Nat)(p q:Nat->Bool):Y1 n p ||| Y1 n q=Y1 n (fun i=>p i || q i):=
 Nk (Nat.or_lt_two_pow (Vf n p) (Vf n q)) fun i hi=>by
  rw [Nat.testBit_or,Yj,Yj];simp [hi]
theorem X3{n x:Nat}(hx:x<n):2 ^ x=Y1 n (fun i=>i == x):=
 Nk (Nat.pow_lt_pow_right (by decide) hx) fun i _=>by
  rw [Nat.testBit_two_pow];by_cases h:x=i
  ·subst h;simp
  ·have:(i == x)=false:=by simp;omega
   simp [h,this]
theorem Xr(n:Nat):Y1 n (fun _=>false)=0:=by
 induction n with
 | zero=>rfl
 | succ n ih=>simp [Y1,ih]
def evs(v:Nat):List Nat:=(List.range 64).filter v.testBit
theorem Sn:evs 0=[]:=by simp [evs]
theorem Nv{v i:Nat}:i∈evs v↔i<64/\v.testBit i=true:=by simp [evs]
theorem Tj(n:Nat)(f:n<=64)(p:Nat->Bool):evs (Y1 n p)=(List.range n).filter p:=by
 unfold evs;have b:(64:Nat)=n+(64 - n):=by omega
 rw [b,List.range_add,List.filter_append];have c:(List.range n).filter (Y1 n p).testBit=(List.range n).filter p:=by
  apply List.filter_congr;intro e a;rw [Yj];simp at a;simp [a]
 have d:(List.map (n+·) (List.range (64 - n))).filter (Y1 n p).testBit=[]:=by
  rw [List.filter_eq_nil_iff];intro e a;simp only [List.mem_map,List.mem_range] at a;obtain⟨g,_,rfl⟩:=a;rw [Yj];simp;omega
 rw [c,d,List.append_nil]
theorem Si(v:Nat)(b:v≠0)(h:v<2 ^ 64):∃ m,v=2 ^ Lib.ctz 64 v*(2*m+1)/\Lib.ctz 64 v<64:=by
 obtain⟨m,d,c⟩:=Lib.ctzFrom_spec 64 v (by omega) h;have a:Lib.ctz 64 v=Lib.ctzFrom 64 v:=by simp [Lib.ctz,b]
 rw [a];exact⟨m,d,c⟩
theorem S5(k m:Nat):2 ^ k*(2*m+1) &&& (2 ^ k*(2*m+1) - 1)=2 ^ (k+1)*m:=by
 have r:0<2 ^ k:=Nat.two_pow_pos k;have l:2 ^ k*(2*m+1) - 1=2 ^ k*(2*m)+(2 ^ k - 1):=by
  rw [Nat.mul_add,Nat.mul_one];omega
 rw [l];apply Nat.eq_of_testBit_eq;intro b;have q:(2 ^ k - 1)<2 ^ k:=by omega
 rw [Nat.testBit_and,Nat.testBit_two_pow_mul_add _ q,Nat.testBit_two_pow_mul,Nat.testBit_two_pow_mul];by_cases p:b<k
 ·have c:¬ b>=k:=by omega
  have d:¬ b>=k+1:=by omega
  simp [c,d]
 ·rw [if_neg p];by_cases j:b=k
  ·subst j;simp [Nat.testBit_zero];omega
  ·obtain⟨a,rfl⟩:∃ a,b=k+(a+1):=⟨b - k - 1,by omega⟩;have g:k+(a+1) - k=a+1:=by omega
   have i:k+(a+1) - (k+1)=a:=by omega
   rw [g,i,Nat.testBit_succ,Nat.testBit_succ];have e:(2*m+1) / 2=m:=by omega
   have f:2*m / 2=m:=by omega
   rw [e,f];have n:k+(a+1)>=k:=by omega
   have o:k+(a+1)>=k+1:=by omega
   simp [n,o]
theorem Dt(k m i:Nat):(2 ^ k*(2*m+1)).testBit i=(decide (i=k) || (decide (k<i) && m.testBit (i - (k+1)))):=by
 rw [Nat.testBit_two_pow_mul];by_cases o:i<k
 ·have b:¬ i>=k:=by omega
  have c:¬ i=k:=by omega
  have d:¬ k<i:=by omega
  simp [b,c,d]
 ·by_cases j:i=k
  ·subst j;simp [Nat.testBit_zero]
  ·obtain⟨a,rfl⟩:∃ a,i=k+(a+1):=⟨i - k - 1,by omega⟩;have f:k+(a+1) - k=a+1:=by omega
   have g:k+(a+1) - (k+1)=a:=by omega
   rw [f,g,Nat.testBit_succ];have e:(2*m+1) / 2=m:=by omega
   rw [e];have l:k+(a+1)>=k:=by omega
   have n:k<k+(a+1):=by omega
   simp [l,n]
theorem Sf(v:Nat)(j:v≠0)(h:v<2 ^ 64):evs v=Lib.ctz 64 v::evs (v &&& (v - 1)):=by
 obtain⟨g,f,k⟩:=Si v j h;generalize Lib.ctz 64 v=a at f k;have d:∀ b,v.testBit b=(decide (b=a) || (decide (a<b) && g.testBit (b - (a+1)))):=fun b=>by rw [f];exact Dt a g b
 have e:∀ b,(v &&& (v - 1)).testBit b=(decide (a<b) && g.testBit (b - (a+1))):=fun b=>by
  rw [f,S5,Nat.testBit_two_pow_mul];simp only [ge_iff_le,Nat.succ_le_iff]
 unfold evs;have i:(64:Nat)=a+(1+(63 - a)):=by omega
 rw [i,List.range_add,List.filter_append,List.filter_append,List.range_add,List.map_append,List.filter_append,List.filter_append];have n:(List.range a).filter v.testBit=[]:=by
  rw [List.filter_eq_nil_iff];intro b c;simp at c;rw [d];simp;omega
 have o:(List.range a).filter (v &&& (v - 1)).testBit=[]:=by
  rw [List.filter_eq_nil_iff];intro b c;simp at c;rw [e];simp;omega
 have l:(List.map (a+·) (List.range 1)).filter v.testBit=[a]:=by
  have:v.testBit a=true:=by rw [d];simp
  simp [List.range_one,this]
 have m:(List.map (a+·) (List.range 1)).filter (v &&& (v - 1)).testBit=[]:=by
  have:(v &&& (v - 1)).testBit a=false:=by rw [e];simp
  simp [List.range_one,this]
 rw [n,o,l,m,List.nil_append,List.nil_append,List.nil_append,List.singleton_append]
 congr 1
 apply List.filter_congr;intro b c;simp only [List.mem_map,List.mem_range] at c;obtain⟨p,⟨q,_,rfl⟩,rfl⟩:=c;rw [d,e];simp
end Go.Ab
namespace Go.Ab
inductive Pat where
 | node (k:Int) (pl mi:Nat) (nt:Bool) (mn mx:Int) (l:List Pat)
namespace Pat
def k:Pat->Int | node k _ _ _ _ _ _=>k
def pl:Pat->Nat | node _ p _ _ _ _ _=>p
def mi:Pat->Nat | node _ _ m _ _ _ _=>m
def nt:Pat->Bool | node _ _ _ b _ _ _=>b
def mn:Pat->Int | node _ _ _ _ x _ _=>x
def mx:Pat->Int | node _ _ _ _ _ x _=>x
def l:Pat->List Pat | node _ _ _ _ _ _ l=>l
end Pat
def Zi(pl mi:Nat):Bool:=pl &&& mi == 0 && (pl ||| mi) / 16777216 == 0
def Xe(p:Pat):Int:=
 if p.k<0\/6<p.k then 2
 else if p.k≠1/\(p.pl≠0\/p.mi≠0\/p.nt=true) then 2
 else if p.k≠3/\p.k≠4/\p.k≠5/\p.l.length≠0 then 2
 else if p.k≠5/\(p.mn≠0\/p.mx≠0) then 2
 else if p.k=5/\(p.l.length≠1\/p.mn<0\/32<p.mn\/(p.mx≠-1/\(p.mx<p.mn\/32<p.mx))) then 2
 else if Zi p.pl p.mi=true then 0 else 14
def chk:Nat->List Pat->Int
 | _,[]=>0
 | 0,_::_=>12
 | f+1,p::l=>if Xe p=0 then chk f (p.l++l) else Xe p
theorem Wt(f:Nat)(p:Pat)(l:List Pat):chk (f+1) (p::l)=if Xe p=0 then chk f (p.l++l) else Xe p:=rfl
def Y8(p:Pat):Int:=chk 40 [p]
def R8(r:Nat × Int)(f:Nat->Nat × Int):Nat × Int:=if r.2=0 then f r.1 else r
mutual
def Yw:Pat->Nat->Nat × Int
 | .node k pl mi nt mn mx l,n=>if n=40 then(n,12) else if Xe (.node k pl mi nt mn mx l)=0 then Jd l (n+1) else(n,Xe (.node k pl mi nt mn mx l))
def Jd:List Pat->Nat->Nat × Int
 | [],n=>(n,0)
 | p::l,n=>R8 (Yw p n) (Jd l)
end
mutual
theorem Hz:∀(p:Pat) (n:Nat) (rest:List Pat),n<=40->((Yw p n).1<=40/\n<=(Yw p n).1)/\chk (40 - n) (p::rest)=(if (Yw p n).2=0 then chk (40 - (Yw p n).1) rest else(Yw p n).2)
 | .node k pl mi nt mn mx l,n,rest,hn=>by
  unfold Yw;by_cases h:n=40
  ·subst h;rw [if_pos rfl];exact⟨⟨by simp,by simp⟩,by simp [chk]⟩
  ·rw [if_neg h];obtain⟨f,hf⟩:∃ f,40 - n=f+1:=⟨39 - n,by omega⟩;rw [hf];by_cases he:Xe (.node k pl mi nt mn mx l)=0
   ·rw [if_pos he];have:=Hy l (n+1) rest (by omega);refine⟨⟨this.1.1,by have:=this.1.2;omega⟩,?_⟩;rw [Wt,if_pos he,<-this.2,show 40 - (n+1)=f by omega];rfl
   ·rw [if_neg he];refine⟨⟨hn,Nat.le_refl _⟩,?_⟩;rw [Wt,if_neg he,if_neg he]
theorem Hy:∀(l:List Pat) (n:Nat) (rest:List Pat),n<=40->((Jd l n).1<=40/\n<=(Jd l n).1)/\chk (40 - n) (l++rest)=(if (Jd l n).2=0 then chk (40 - (Jd l n).1) rest else(Jd l n).2)
 | [],n,rest,hn=>by simp [Jd,hn]
 | p::l,n,rest,hn=>by
  have h1:=Hz p n (l++rest) hn;rw [List.cons_append];unfold Jd R8;by_cases he:(Yw p n).2=0
  ·rw [if_pos he] at h1 ⊢;have h2:=Hy l (Yw p n).1 rest h1.1.1;exact⟨⟨h2.1.1,Nat.le_trans h1.1.2 h2.1.2⟩,h1.2.trans h2.2⟩
  ·rw [if_neg he] at h1 ⊢;exact⟨h1.1,by rw [h1.2,if_neg he]⟩
end
theorem Q0a(p:Pat):(Yw p 0).2=Y8 p:=by
 have b:=(Hz p 0 [] (by omega)).2;unfold Y8;rw [b];by_cases a:(Yw p 0).2=0
 ·rw [if_pos a,a];cases 40 - (Yw p 0).1 <;> rfl
 ·rw [if_neg a]
theorem Ll:∀(f:Nat) (l:List Pat) (m:Nat),f+1<=m->chk f (l.take m)=chk f l
 | f,[],m,_=>by simp
 | 0,p::l,m,h=>by
  obtain⟨m,rfl⟩:∃ k,m=k+1:=⟨m - 1,by omega⟩;rfl
 | f+1,p::l,m,h=>by
  obtain⟨m,rfl⟩:∃ k,m=k+1:=⟨m - 1,by omega⟩;rw [List.take_succ_cons];rw [Wt,Wt];by_cases he:Xe p=0
  ·rw [if_pos he,if_pos he];have h1:=Ll f (p.l++l) (p.l.length+m) (by omega);have h2:(p.l++l).take (p.l.length+m)=p.l++l.take m:=by
    rw [List.take_append];simp [List.take_of_length_le]
   rw [<-h1,h2]
  ·rw [if_neg he,if_neg he]
theorem Q7b(f:Nat)(l rest:List Pat)(b:f<=40):chk f (l.take 41++rest)=chk f (l++rest):=by
 rw [<-Ll f (l.take 41++rest) 41 (by omega),<-Ll f (l++rest) 41 (by omega),List.take_append,List.take_append,List.take_take,List.length_take]
 congr 2
 by_cases a:l.length<=41
 ·rw [Nat.min_eq_right a]
 ·rw [Nat.min_eq_left (by omega),show 41 - l.length=0 by omega]
def szW:Nat->List Pat->Nat
 | _,[]=>0
 | 0,_::_=>0
 | f+1,p::l=>szW f (p.l++l)+1
def Qat(p:Pat):Nat:=szW 41 [p]
mutual
def Q9g:Pat->Nat->Nat
 | .node _ _ _ _ _ _ l,n=>Q7y l (n+1)
def Q7y:List Pat->Nat->Nat
 | [],n=>n
 | p::l,n=>if n<=40 then Q7y l (Q9g p n) else n
end
end Go.Ab
namespace Go.Ab
abbrev Qk:=Nat->Nat->Bool
abbrev Wd:=List (Nat × Nat)
def comp(X Y:Qk):Qk:=fun a c=>(List.range 33).any fun b=>X a b && Y b c
def idB(n:Nat):Qk:=fun a b=>a == b && decide (a<=n)
def orB(X Y:Qk):Qk:=fun a b=>X a b || Y a b
def noB:Qk:=fun _ _=>false
def Z8(X:Qk)(n:Nat):Nat->Qk
 | 0=>idB n
 | k+1=>comp X (Z8 X n k)
def Qz(n:Nat)(X:Qk):Prop:=∀ a b,X a b=true->a<=b/\b<=n
theorem Db{X Y:Qk}{a c:Nat}:comp X Y a c=true↔∃ b,b<33/\X a b=true/\Y b c=true:=by
 simp only [comp,List.any_eq_true,List.mem_range,Bool.and_eq_true]
theorem L1{n a b:Nat}:idB n a b=true↔a=b/\a<=n:=by simp [idB]
theorem Q66{X Y:Qk}{a b:Nat}:orB X Y a b=true↔X a b=true\/Y a b=true:=by simp [orB]
theorem Nb{X Y:Qk}(h:∀ a b,X a b=true↔Y a b=true):X=Y:=by
 funext a b;exact Bool.eq_iff_iff.2 (h a b)
theorem Qz.id(n:Nat):Qz n (idB n):=fun a b h=>by rw [L1] at h;omega
theorem Qz.no(n:Nat):Qz n noB:=fun a b h=>by cases h
theorem Qz.comp{n:Nat}{X Y:Qk}(h:Qz n X)(k:Qz n Y):Qz n (comp X Y):=fun a c hc=>by
 obtain⟨b,_,h1,h2⟩:=Db.1 hc;have:=h _ _ h1;have:=k _ _ h2;omega
theorem Qz.or{n:Nat}{X Y:Qk}(h:Qz n X)(k:Qz n Y):Qz n (orB X Y):=fun a b hc=>by
 rcases Q66.1 hc with hc | hc
 ·exact h _ _ hc
 ·exact k _ _ hc
theorem Qz.pow{n:Nat}{X:Qk}(h:Qz n X):∀ k,Qz n (Z8 X n k)
 | 0=>Qz.id n
 | k+1=>h.comp (Qz.pow h k)
theorem Mt(X Y Z:Qk):comp (comp X Y) Z=comp X (comp Y Z):=by
 apply Nb;intro i j;simp only [Db];constructor
 ·rintro⟨b,g,⟨a,f,c,d⟩,e⟩;exact⟨a,f,c,b,g,d,e⟩
 ·rintro⟨a,f,c,b,g,d,e⟩;exact⟨b,g,⟨a,f,c,d⟩,e⟩
theorem Q62{n:Nat}(e:n<=32){X:Qk}(h:Qz n X):comp X (idB n)=X:=by
 apply Nb;intro c b;simp only [Db,L1];constructor
 ·rintro⟨d,_,a,rfl,_⟩;exact a
 ·intro a;have:=h _ _ a;exact⟨b,by omega,a,rfl,by omega⟩
theorem Q73{n:Nat}(e:n<=32){X:Qk}(h:Qz n X):comp (idB n) X=X:=by
 apply Nb;intro b d;simp only [Db,L1];constructor
 ·rintro⟨c,_,⟨rfl,_⟩,a⟩;exact a
 ·intro a;have:=h _ _ a;exact⟨b,by omega,⟨rfl,by omega⟩,a⟩
def Q9c(n:Nat):Nat->Nat->Qk->Qk->Qk
 | 0,_,_,out=>out
 | f+1,k,x,out=>if k=0 then out else Q9c n f (k / 2) (comp x x) (if k % 2=1 then comp out x else out)
theorem Na{n:Nat}(hn:n<=32){X:Qk}(h:Qz n X):∀ k,Z8 (comp X X) n k=Z8 X n (2*k)
 | 0=>rfl
 | k+1=>by
  show comp (comp X X) _=_;rw [Na hn h k,show 2*(k+1)=2*k+1+1 by omega,Mt];rfl
def Q8a(X:Qk)(n lo:Nat):Nat->Qk
 | 0=>Z8 X n lo
 | e+1=>orB (Q8a X n lo e) (Z8 X n (lo+(e+1)))
def Nc(X:Qk)(n lo e:Nat):Qk:=comp (Z8 X n lo) (Z8 (orB X (idB n)) n e)
def sat(s c:Nat × Nat):Bool:=(c.1 &&& s.1 == c.1) && (c.2 &&& s.2 == c.2)
def Yo(w:Wd)(c:Nat × Nat)(nt:Bool):Qk:=fun a b=>b == a+1 && decide (a<w.length) && (sat (w.getD a (0,0)) c != nt)
def X6(a:Nat):Qk:=fun x y=>x == a && y == a
def Hw(n:Nat)(mn mx:Int):Nat:=if mx<0 then n else(mx - mn).toNat
mutual
def Vn(w:Wd):Pat->Qk
 | .node k pl mi nt mn mx l=>
  if k=1 then Yo w (pl,mi) nt
  else if k=2 then X6 0
  else if k=6 then X6 w.length
  else if k=4 then Dr w l
  else if k=5 then Sy w l mn mx
  else Fj w l (idB w.length)
def Fj(w:Wd):List Pat->Qk->Qk
 | [],X=>X
 | p::l,X=>Fj w l (comp X (Vn w p))
def Dr(w:Wd):List Pat->Qk
 | []=>noB
 | p::l=>orB (Vn w p) (Dr w l)
def Sy(w:Wd):List Pat->Int->Int->Qk
 | [],_,_=>noB
 | p::_,mn,mx=>Nc (Vn w p) w.length mn.toNat (Hw w.length mn mx)
end
theorem Qz.sound(w:Wd)(c:Nat × Nat)(nt:Bool):Qz w.length (Yo w c nt):=fun a b h=>by
 simp only [Yo,Bool.and_eq_true,beq_iff_eq,decide_eq_true_eq] at h;omega
theorem Qz.edge{n a:Nat}(h:a<=n):Qz n (X6 a):=fun x y hh=>by
 simp only [X6,Bool.and_eq_true,beq_iff_eq] at hh;omega
mutual
theorem Gd(w:Wd):∀ p,Qz w.length (Vn w p)
 | .node k pl mi nt mn mx l=>by
  unfold Vn
  split
  ·exact Qz.sound _ _ _
  ·split
   ·exact Qz.edge (Nat.zero_le _)
   ·split
    ·exact Qz.edge (Nat.le_refl _)
    ·split
     ·exact P5 w l
     ·split
      ·exact Q2n w l mn mx
      ·exact P6 w l _ (Qz.id _)
theorem P6(w:Wd):∀(l:List Pat) (X:Qk),Qz w.length X->Qz w.length (Fj w l X)
 | [],_,h=>by unfold Fj;exact h
 | p::l,X,h=>by unfold Fj;exact P6 w l _ (h.comp (Gd w p))
theorem P5(w:Wd):∀(l:List Pat),Qz w.length (Dr w l)
 | []=>by unfold Dr;exact Qz.no _
 | p::l=>by unfold Dr;exact(Gd w p).or (P5 w l)
theorem Q2n(w:Wd):∀(l:List Pat) (mn mx:Int),Qz w.length (Sy w l mn mx)
 | [],_,_=>by unfold Sy;exact Qz.no _
 | p::_,mn,mx=>by unfold Sy Nc;exact(Qz.pow (Gd w p) _).comp (Qz.pow ((Gd w p).or (Qz.id _)) _)
end
theorem Q1h(X Y Z:Qk):orB (orB X Y) Z=orB X (orB Y Z):=by funext a b;simp [orB,Bool.or_assoc]
theorem Q7r(X:Qk):orB X noB=X:=by funext a b;simp [orB,noB]
theorem Q8d(X:Qk):orB noB X=X:=by funext a b;simp [orB,noB]
end Go.Ab
namespace Go.Ab
open Go.RowKit
universe u
theorem pq:(∀(l:List Value) (i:Nat) (a:Value),l.toArray.setIfInBounds i a=(l.set i a).toArray)/\(∀(x:Value) (l:List Value) (a:Value),(x::l).set 0 a=a::l)/\(∀(x:Value) (l:List Value) (i:Nat) (a:Value),(x::l).set (i+1) a=x::l.set i a):=
 ⟨fun _ _ _=>List.setIfInBounds_toArray ..,fun _ _ _=>rfl,fun _ _ _ _=>rfl⟩
theorem tkH{P:Program}{md:Region.Mode}{ops:Array Oper}{Q:Exit->Act->World->Prop}{S:World->Prop}{i d:Nat}{oi:Oper}{v:Value}{fuel:Nat}{listed:Array Bool}{a:Act}{w:World}(hi:ops[i]?=some oi)
  (hy:YieldsIf P ops S oi v a) (hS:S w) (h:wpAnyH P md ops Q S fuel (listed.setIfInBounds i true) (a.put (some d) v) w)
  (hs:Region.noSelect ops=true:=by kernel_rfl) (hf:Region.free md ops listed i=true:=by kernel_rfl) (hr:(Region.ready md ops listed).contains i=true:=by kernel_rfl) (hd:oi.dst=some d:=by rfl)
  (hQ:∀ c a w,Q (.panic c) (a.put (some d) v) w->Q (.panic c) a w:=by exact fun _ _ _ h=>h):wpAnyH P md ops Q S (fuel+1) listed a w:=
 wpAnyH_take hi hs hf hr (by rw [hd];exact hQ) hy hS (by rw [hd];exact h)
theorem tH(i d:Nat){P:Program}{md:Region.Mode}{ops:Array Oper}{Q:Exit->Act->World->Prop}{S:World->Prop}{oi:Oper}{v:Value}{fuel:Nat}{listed:Array Bool}{a a':Act}{w:World}
  (hS:S w) (h:wpAnyH P md ops Q S fuel (listed.setIfInBounds i true) a' w) (hi:ops[i]?=some oi:=by exact rfl)
  (hy:YieldsIf P ops S oi v a:=by(exact Or.inl ⟨by rfl,by(intro w hSw;(try dsimp only at hSw);go_simp;try with_reducible rfl)⟩)) (ha:a.put (some d) v=a':=by((try simp only [Act.put,pq]);exact rfl))
  (hs:Region.noSelect ops=true:=by kernel_rfl) (hf:Region.free md ops listed i=true:=by kernel_rfl) (hr:(Region.ready md ops listed).contains i=true:=by kernel_rfl) (hd:oi.dst=some d:=by rfl)
  (hQ:∀ c a w,Q (.panic c) (a.put (some d) v) w->Q (.panic c) a w:=by exact fun _ _ _ h=>h):wpAnyH P md ops Q S (fuel+1) listed a w:=
 wpAnyH_take hi hs hf hr (by rw [hd];exact hQ) hy hS (by rw [hd,ha];exact h)
theorem rH(rs:List Nat){P:Program}{md:Region.Mode}{ops:Array Oper}{Q:Exit->Act->World->Prop}{S:World->Prop}{fuel:Nat}{listed:Array Bool}{a:Act}{w:World}
  (h:AllReadyH P md ops Q S fuel listed a w rs) (hr:Region.ready md ops listed=rs:=by kernel_rfl) (hne:rs≠[]:=by simp):wpAnyH P md ops Q S (fuel+1) listed a w:=wpAnyH_ready hr hne h
theorem oz{p:Prop}(h:p:=by omega):p:=h
theorem kz{p:Prop}(h:p:=by kernel_rfl):p:=h
theorem zd{p:Prop}(h:p:=by decide):p:=h
theorem tz{p:Prop}(h:p:=by first | rfl | trivial):p:=h
theorem uz{p:Prop}(h:p:=by first | trivial | rfl):p:=h
theorem mz{p:Prop}(h:p:=by first | (simp [intOf];done) | (simp [intOf];omega)):p:=h
theorem nz{p:Prop}(h:p:=by simp [intOf];omega):p:=h
theorem iw{c a b:Prop} [Decidable c] (h:c) (k:a):if c then a else b:=by rw [if_pos h];exact k
theorem zE{α:Sort u}(a:α):∃ x,a=x:=⟨a,rfl⟩
theorem zV(a a':Option Addr)(b b' c c':Nat):(Value.slice a b c=Value.slice a' b' c')=(a=a'/\b=b'/\c=c'):=Value.slice.injEq ..
theorem zy{p:Prop}(h:p:=by simp):p:=h
theorem zr{p:Prop}(h:p:=by first | rfl | simp):p:=h
theorem zS:(∀ l:List Value,l.toArray.size=l.length)/\(∀(a:Value) (l:List Value),(a::l).length=l.length+1)/\(([]:List Value).length=0)/\(∀(n:Nat) (a:Value),Array.replicate (n+1) a=(Array.replicate n a).push a)/\(∀ a:Value,Array.replicate 0 a=#[])/\(∀(l:List Value) (a:Value),l.toArray.push a=(l++[a]).toArray)/\(∀ l m:List Value,l.toArray++m.toArray=(l++m).toArray)/\(∀ l:List Value,[]++l=l)/\(∀(a:Value) (l m:List Value),(a::l)++m=a::(l++m)):=
 ⟨fun _=>rfl,fun _ _=>rfl,rfl,fun _ _=>Array.replicate_succ ..,fun _=>Array.replicate_zero ..,fun _ _=>List.push_toArray ..,fun _ _=>List.append_toArray ..,fun _=>rfl,fun _ _ _=>rfl⟩
theorem zR{w:World}{g:Nat}{cs:Array Value}{t:TypeId}{fr:Nat × Nat}(h:w.heap[g]?=some (.cells cs t fr)) (j:Nat):w.cell? ⟨g,j,none⟩=cs[j]?:=cell_of_row _ _ j _ _ _ h
theorem Zh3{p q r:Prop}(a:p)(b:q)(c:r):Hid p/\Hid q/\Hid r:=⟨a,b,c⟩
theorem Zh4{p q r s:Prop}(a:p)(b:q)(c:r)(d:s):Hid p/\Hid q/\Hid r/\Hid s:=⟨a,b,c,d⟩
theorem Zh5{p q r s t:Prop}(a:p)(b:q)(c:r)(d:s)(e:t):Hid p/\Hid q/\Hid r/\Hid s/\Hid t:=⟨a,b,c,d,e⟩
theorem Zh6{p q r s t v:Prop}(a:p)(b:q)(c:r)(d:s)(e:t)(f:v):Hid p/\Hid q/\Hid r/\Hid s/\Hid t/\Hid v:=⟨a,b,c,d,e,f⟩
theorem Zh7{p q r s t v x:Prop}(a:p)(b:q)(c:r)(d:s)(e:t)(f:v)(g:x):Hid p/\Hid q/\Hid r/\Hid s/\Hid t/\Hid v/\Hid x:=⟨a,b,c,d,e,f,g⟩
theorem Zh8{p q r s t v x y:Prop}(a:p)(b:q)(c:r)(d:s)(e:t)(f:v)(g:x)(h:y):Hid p/\Hid q/\Hid r/\Hid s/\Hid t/\Hid v/\Hid x/\Hid y:=⟨a,b,c,d,e,f,g,h⟩
theorem Zh{p:Prop}(h:p):Hid p:=h
end Go.Ab
namespace Go.Ab
open Go.RowKit
structure Q1 (S:Nat->Prop) (A B:World):Prop where
 os:B.os=A.os
 tape:B.tape=A.tape
 output:B.output=A.output
 size:A.heap.size<=B.heap.size
 block:∀ b,b<A.heap.size->¬ S b->B.heap[b]?=A.heap[b]?
theorem Q1.refl(S:Nat->Prop)(A:World):Q1 S A A:=⟨rfl,rfl,rfl,Nat.le_refl _,fun _ _ _=>rfl⟩
theorem Q1.trans{S:Nat->Prop}{A B C:World}(h:Q1 S A B)(k:Q1 S B C):Q1 S A C:=
 ⟨k.os.trans h.os,k.tape.trans h.tape,k.output.trans h.output,Nat.le_trans h.size k.size,
  fun b hb hS=>(k.block b (Nat.lt_of_lt_of_le hb h.size) hS).trans (h.block b hb hS)⟩
theorem Q1.mono{S T:Nat->Prop}{A B:World}(h:Q1 S A B)(hst:∀ b,b<A.heap.size->S b->T b):Q1 T A B:=
 ⟨h.os,h.tape,h.output,h.size,fun b hb hT=>h.block b hb fun hs=>hT (hst b hb hs)⟩
theorem Q1.heap{S:Nat->Prop}{A B:World}(h:Q1 S A B){b:Nat}{o:Obj}(hb:A.heap[b]?=some o)(hS:¬ S b):B.heap[b]?=some o:=
 (h.block b (Array.getElem?_eq_some_iff.1 hb).1 hS).trans hb
theorem Q1.cell{S:Nat->Prop}{A B:World}(h:Q1 S A B){p:Addr}(hb:p.block<A.heap.size)(hS:¬ S p.block):B.cell? p=A.cell? p:=
 World.cell?_of_block (w:=A) (h.block p.block hb hS)
theorem Q1.cell_some{S:Nat->Prop}{A B:World}(h:Q1 S A B){p:Addr}{v:Value}(a:A.cell? p=some v)(b:¬ S p.block):B.cell? p=some v:=by
 have c:p.block<A.heap.size:=by
  apply Nat.lt_of_not_le;intro d;simp [World.cell?,Array.getElem?_eq_none d] at a
 rw [h.cell c b];exact a
theorem Q1.frozen{S:Nat->Prop}{A B:World}(h:Q1 S A B){p:Addr}(hb:p.block<A.heap.size)(hS:¬ S p.block):B.frozen? p=A.frozen? p:=
 World.frozen?_of_block (w:=A) (h.block p.block hb hS)
theorem Q1.alloc{S:Nat->Prop}{A B:World}(h:Q1 S A B)(o:Obj):Q1 S A (B.alloc o):=
 h.trans ⟨rfl,rfl,rfl,by simp,fun b hb _=>Below.heap_alloc _ _ _ hb⟩
theorem Q1.drew{S:Nat->Prop}{A B:World}(h:Q1 S A B):Q1 S A B.drew:=⟨h.os,h.tape,h.output,h.size,h.block⟩
theorem Q1.drewN{S:Nat->Prop}{A B:World}(h:Q1 S A B)(n:Nat):Q1 S A (B.drewN n):=⟨h.os,h.tape,h.output,h.size,h.block⟩
theorem Q1.setCell{S:Nat->Prop}{A B:World}(h:Q1 S A B){p:Addr}(hp:A.heap.size<=p.block\/S p.block)(u:Value):Q1 S A (B.setCell p u):=
 ⟨h.os,h.tape,h.output,by simpa [World.setCell] using h.size,fun b hb hS=>by
  rw [Below.heap_setCell _ _ _ _ (by rintro rfl;rcases hp with hp | hp;omega;exact hS hp)];exact h.block b hb hS⟩
theorem Q1.set1(A:World)(b o:Nat)(v:Value):Q1 (fun x=>x=b) A (A.setCell ⟨b,o,none⟩ v):=(Q1.refl (fun x=>x=b) A).setCell (p:=⟨b,o,none⟩) (.inr rfl) v
theorem Q1.putObj{S:Nat->Prop}{A B:World}(h:Q1 S A B){r:Nat}(hp:A.heap.size<=r\/S r)(o:Obj):Q1 S A (B.putObj r o):=
 ⟨h.os,h.tape,h.output,by simpa using h.size,fun b hb hS=>by
  rw [World.putObj_heap_other (by rintro rfl;rcases hp with hp | hp;omega;exact hS hp)];exact h.block b hb hS⟩
theorem Q1.below{S:Nat->Prop}{A B:World}(h:Q1 S A B)(hS:∀ b,b<A.heap.size->¬ S b):Below A.heap.size A B:=
 ⟨h.os,h.tape,h.output,h.size,fun b hb=>h.block b hb (hS b hb)⟩
theorem Q1.grown{S:Nat->Prop}{A B C:World}{row:Option Nat}(h:Q1 S A B)(hg:B.grownBy C row)(hr:∀ k,row=some k->A.heap.size<=k\/S k):Q1 S A C:=
 ⟨hg.os.trans h.os,hg.tape.trans h.tape,hg.output.trans h.output,Nat.le_trans h.size hg.size,fun b hb hS=>by
  rw [hg.block b (Nat.lt_of_lt_of_le hb h.size) (fun e=>by rcases hr b e.symm with hh | hh;omega;exact hS hh)];exact h.block b hb hS⟩
abbrev Ext(A B:World):Prop:=Q1 (fun _=>False) A B
theorem Ext.of{S:Nat->Prop}{A B:World}(h:Ext A B):Q1 S A B:=h.mono fun _ _ h=>h.elim
theorem Ext.keep{A B:World}(h:Ext A B){b:Nat}{o:Obj}(hb:A.heap[b]?=some o):B.heap[b]?=some o:=Q1.heap h hb (fun h=>h)
theorem Q1.after{S T:Nat->Prop}{w A B:World}(h:Q1 S w A)(k:Q1 T A B)(hT:∀ b,b<w.heap.size->T b->S b):Q1 S w B:=
 ⟨k.os.trans h.os,k.tape.trans h.tape,k.output.trans h.output,Nat.le_trans h.size k.size,
  fun b hb hS=>(k.block b (Nat.lt_of_lt_of_le hb h.size) fun ht=>hS (hT b hb ht)).trans (h.block b hb hS)⟩
theorem Yk{a b:Bool}(h:a=b):Ending.returned (.bool a)=.returned (.bool b):=by rw [h]
theorem Zm{k:IntKind}{a b:Int}(h:a=b):Ending.returned (.int k a)=.returned (.int k b):=by rw [h]
theorem Q3{A:World}{n:Nat}{o:Obj}(h:n=A.heap.size):(A.alloc o).heap[n]?=some o:=by subst h;exact World.alloc_heap_new _ _
theorem Q6{A:World}{n:Nat}{o o':Obj}(h:A.heap[n]?=some o'):(A.alloc o).heap[n]?=some o':=
 (Below.heap_alloc _ _ _ (Array.getElem?_eq_some_iff.1 h).1).trans h
theorem Yc{A:World}{n:Nat}{o:Obj}(h:A.heap[n]?=some o):A.drew.heap[n]?=some o:=h
theorem K7{A:World}{n:Nat}{a:Addr}{v:Value}{o:Obj}(h:A.heap[n]?=some o)(hn:n≠a.block):(A.setCell a v).heap[n]?=some o:=
 (Below.heap_setCell _ _ _ _ hn).trans h
theorem Zf(f:FuncId):Fence.wide.fn f=True:=rfl
theorem Qp:Fence.wide.depth=none:=rfl
theorem Ws(a x:Nat)(d:a<18446744073709551616)(e:x<64):bits .or .u64 (a:Int) (IntKind.u64.wrap (2 ^ x))=((a ||| 2 ^ x:Nat):Int):=by
 have c:2 ^ x<18446744073709551616:=by
  have:=Nat.pow_lt_pow_right (a:=2) zd e
  simpa using this
 have b:IntKind.u64.wrap (2 ^ x)=((2 ^ x:Nat):Int):=by
  rw [IntKind.wrap_u64];have b:((2:Int) ^ x)=((2 ^ x:Nat):Int):=by simp
  rw [b];generalize 2 ^ x=f at c;omega
 rw [b,u64_or_nat _ _ d c]
def Qs(base:Nat):List Deferred->World->Prop
 | [],_=>True
 | d::ds,w=>∃ r,base<=r/\d={ target:=.collected r,args:=#[] }/\w.heap[r]?=some (.deferred (some []))/\(∀ e∈ds,e.target≠.collected r)/\Qs base ds w
theorem Qs.keep{base:Nat}{S:Nat->Prop}:∀ {ds:List Deferred} {A B:World},Qs base ds A->Q1 S A B->(∀ b,S b->∀ o,A.heap[b]?=some o->o.isCells=true)->Qs base ds B
 | [],_,_,_,_,_=>trivial
 | d::ds,A,B,⟨r,h1,h2,h3,h4,h5⟩,ht,hS=>
  ⟨r,h1,h2,ht.heap h3 (fun hs=>by have:=hS r hs _ h3;simp [Obj.isCells] at this),h4,h5.keep ht hS⟩
theorem Qs.keep'{base:Nat}{S:Nat->Prop}:∀ {ds:List Deferred} {A B:World},Qs base ds A->Q1 S A B->(∀ b,S b->∀ e∈ds,e.target≠.collected b)->Qs base ds B
 | [],_,_,_,_,_=>trivial
 | d::ds,A,B,⟨r,h1,h2,h3,h4,h5⟩,ht,hS=>
  ⟨r,h1,h2,ht.heap h3 (fun hs=>hS r hs d (List.mem_cons_self ..) (by rw [h2])),h4,h5.keep' ht (fun b hb e he=>hS b hb e (List.mem_cons_of_mem _ he))⟩
theorem Qs.lt{base:Nat}:∀ {ds:List Deferred} {A:World},Qs base ds A->∀ e∈ds,∀ r,e.target=.collected r->r<A.heap.size
 | [],_,_,_,he,_,_=>by cases he
 | d::ds,A,⟨r,h1,h2,h3,h4,h5⟩,e,he,q,hq=>by
  rcases List.mem_cons.1 he with rfl | he
  ·rw [h2] at hq;simp at hq;subst hq;exact(Array.getElem?_eq_some_iff.1 h3).1
  ·exact h5.lt e he q hq
theorem Qs.keepC{base N:Nat}{S:Nat->Prop}{a:List Deferred}{A B:World}(h:Qs base a A)(c:∀ e∈a,∀ r,e.target=.collected r->r<N)(q:Q1 S A B)
  (n:∀ b,S b->N<=b\/A.heap.size<=b\/∃ o,A.heap[b]?=some o/\o.isCells=true):Qs base a B:=by
 have j:∀(a:List Deferred),(∀ e∈a,∀ r,e.target=.collected r->r<N)->Qs base a A->Qs base a B:=by
  intro a
  induction a with
  | nil=>intro _ _;trivial
  | cons d a ih=>
   rintro c ⟨r,k,g,f,l,m⟩;refine⟨r,k,g,q.heap f (fun hs=>?_),l,ih (fun e he=>c e (List.mem_cons_of_mem _ he)) m⟩;rcases n r hs with h | h | ⟨o,i,p⟩
   ·have:=c d (List.mem_cons_self ..) r (by rw [g]);omega
   ·have:=(Array.getElem?_eq_some_iff.1 f).1;omega
   ·rw [f] at i;cases i;simp [Obj.isCells] at p
 exact j a c h
theorem Qs.fresh{base:Nat}{ds:List Deferred}{A:World}{r:Nat}(h:Qs base ds A)(hr:A.heap.size<=r):∀ e∈ds,e.target≠.collected r:=fun e he ht=>by
 have:=h.lt e he r ht;omega
theorem Qs.cons{base:Nat}{ds:List Deferred}{A:World}{r:Nat}(h:Qs base ds A)(hb:base<=r)(hr:A.heap[r]?=some (.deferred (some []))) (hn:∀ e∈ds,e.target≠.collected r) :
  Qs base ({ target:=.collected r,args:=#[] }::ds) A:=⟨r,hb,rfl,hr,hn,h⟩
def Shut(base:Nat)(w:World)(b:Nat):Prop:=base<=b/\∀ o,w.heap[b]?=some o->o.isCells=false
theorem Shut.not{base:Nat}{w:World}{b:Nat}{o:Obj}(hb:w.heap[b]?=some o)(ho:o.isCells=true):¬ Shut base w b:=fun h=>by
 have:=h.2 o hb;rw [ho] at this;cases this
theorem Zr{P:Program}{fn:Func}{tmps:Array Value}{R:Ending->World->Prop}{v:Value}{base:Nat} :
  ∀(ds:List Deferred) (w:World),Qs base ds w->(∀ w',Q1 (Shut base w) w w'->w'.heap.size=w.heap.size->(results fn tmps).run P w'=.ok v w'/\R (.returned v) w') ->
   LeavesInM Fence.wide 0 P fn tmps R ds .returning w
 | [],w,_,h=>by
  obtain⟨h1,h2⟩:=h w (Q1.refl _ _) rfl;exact⟨v,h1,h2⟩
 | d::ds,w,⟨r,hb,hd,hr,hn,hm⟩,h=>by
  refine⟨by simp,.inl ⟨r,_,by rw [hd],run_takeDeferred hr,?_⟩⟩;refine Zr (v:=v) ds _ (hm.keep' (S:=(·=r)) ((Q1.refl (·=r) w).putObj (.inr rfl) _) (fun b e=>by subst e;exact hn)) ?_;intro w' ht hs;have hput:Q1 (Shut base w) w (w.putObj r (.deferred none)):=(Q1.refl _ w).putObj (.inr ⟨hb,fun o ho=>by rw [hr] at ho;cases ho;rfl⟩) _;refine h w' (hput.after ht fun b hlt hsh=>?_) (by rw [hs];simp);refine⟨hsh.1,fun o ho=>?_⟩;by_cases hbr:b=r
  ·subst hbr;rw [hr] at ho;cases ho;rfl
  ·exact hsh.2 o (by rw [World.putObj_heap_other hbr];exact ho)
theorem Qv{P:Program}{f:FuncId}{fn:Func}{c:Code}{args:Array Value}{w:World}{R:Ending->World->Prop}
  (hf:P.funcs[f]?=some fn) (hb:fn.body=some c)
  (h:c.wp P (bodyPostM Fence.wide 0 P fn R) { tmps:=args++Array.replicate (fn.ntmps - args.size) undef,defers:=[] } w):Calls P f args w R:=
 callsIn_wide.1 (callsIn_of_wp_marks (n:=0) hf hb trivial (wpIn_wide.2 h))
theorem Y7{P:Program}{fn:Func}{R:Ending->World->Prop}{a:Act}{w:World}{v:Value}{base:Nat}(hm:Qs base a.defers w)
  (hr:∀ w',(results fn a.tmps).run P w'=.ok v w') (hR:∀ w',Q1 (Shut base w) w w'->w'.heap.size=w.heap.size->R (.returned v) w') :
  bodyPostM Fence.wide 0 P fn R .ret a w:=Zr _ _ hm fun w' ht hs=>⟨hr w',hR w' ht hs⟩
theorem Zd{t:Array Value}{n:Nat}(h:t.size=n):∃ u:Nat->Value,t=((List.range n).map u).toArray:=
 ⟨fun i=>t.getD i undef,by
  apply Array.ext
  ·simp [h]
  ·intro i h1 h2;simp [Array.getD,h1]⟩
def gS(a:Act)(l:List Nat):Nat × List Value:=(a.tmps.size,l.map fun i=>a.tmps.getD i undef)
def frL(u:Nat->Value):List (Nat × Value)->Nat->Nat->List Value
 | _,_,0=>[]
 | [],i,n+1=>u i::frL u [] (i+1) n
 | (j,v)::L,i,n+1=>if j=i then v::frL u L (i+1) n else u i::frL u ((j,v)::L) (i+1) n
theorem fq:(∀ u L i,frL u L i 0=[])/\(∀ u i n,frL u [] i (n+1)=u i::frL u [] (i+1) n)/\(∀ u j v L i n,frL u ((j,v)::L) i (n+1)=if j=i then v::frL u L (i+1) n else u i::frL u ((j,v)::L) (i+1) n)/\(∀(x:Nat) l (y:Value) m,List.zip (x::l) (y::m)=(x,y)::List.zip l m)/\(∀ m:List Value,List.zip ([]:List Nat) m=[]):=
 ⟨fun _ L _=>by cases L <;> rfl,fun _ _ _=>rfl,fun _ _ _ _ _ _=>rfl,fun _ _ _ _=>rfl,fun _=>rfl⟩
theorem M8(u:Nat->Value):∀(n i:Nat) (L:List (Nat × Value)),(∀ p∈L,u p.1=p.2)->frL u L i n=(List.range' i n).map u
 | 0,_,L,_=>by cases L <;> rfl
 | n+1,i,[],_=>by rw [fq.2.1,M8 u n _ [] (fun _ h=>by cases h),List.range'_succ,List.map_cons]
 | n+1,i,(j,v)::L,h=>by
  rw [fq.2.2.1,List.range'_succ,List.map_cons]
  split
  ·rename_i hj
   subst hj;rw [M8 u n _ L (fun p hp=>h p (by simp [hp])),h (j,v) zy]
  ·rw [M8 u n _ _ h]
theorem Q84{t:Array Value}{d:List Deferred}{l:List Nat}{n:Nat}{vs:List Value}(h:gS ⟨t,d⟩ l=(n,vs)):∃ u:Nat->Value,t=(frL u (l.zip vs) 0 n).toArray:=by
 unfold gS at h;simp only [Prod.mk.injEq] at h;obtain⟨b,rfl⟩:=h;refine⟨fun a=>t.getD a undef,?_⟩;rw [M8 _ n 0 _ (fun p hp=>?_),<-List.range_eq_range']
 ·apply Array.ext
  ·simp [b]
  ·intro a c e;simp [Array.getD,c]
 ·obtain⟨a,f,rfl⟩:=List.mem_iff_getElem.1 hp;simp
theorem Y6{t:Array Value}{d:List Deferred}{l:List Nat}{n:Nat}{vs:List Value}{F:(Nat->Value)->List Value} (h:gS ⟨t,d⟩ l=(n,vs))
  (e:∀ u,frL u (l.zip vs) 0 n=F u:=by(intro u;simp only [fq,Nat.reduceAdd,Nat.reduceEqDiff,if_true,if_false];exact rfl)):∃ u,t=(F u).toArray:=by
 obtain⟨u,a⟩:=Q84 h;exact⟨u,by rw [a,e]⟩
def T5{α:Type}(P:Program)(gf:Nat)(lb:Array Value)(encs:α->Array Value)(xs:List α)(S K:Nat->Prop)(w:World):Prop:=
 ∀(l:Nat) (J Jx:List α->World->Prop) (W:World),Q1 (fun b=>¬ K b) w W ->
  (∀ pre A B,J pre A->Q1 S A B->J pre B)->(∀ pre A B,Jx pre A->Q1 S A B->Jx pre B) ->
  (∀ pre x rest A,xs=pre++x::rest->J pre A->YieldAt Fence.wide 0 P l (encs x) A fun e B=>
   (e=.returned (.bool true)/\J (pre++[x]) B/\Q1 (fun b=>¬ K b) A B)\/(e=.returned (.bool false)/\Jx (pre++[x]) B)) ->
  J [] W ->
  Calls P gf (#[.func (.yield l) #[] #[]]++lb) W fun e B=>(∃ v,e=.returned v)/\(J xs B\/∃ pre x rest,xs=pre++x::rest/\Jx (pre++[x]) B)
def Tl{α:Type}(K:Nat->Prop)(I:List α->World->Prop)(Ix:Code->List α->World->Prop)(xs:List α)(W:World):Exit->Act->World->Prop
 | .normal,_,W'=>Q1 (fun b=>¬ K b) W W'/\I xs W'
 | .ret,_,W'=>Q1 (fun b=>¬ K b) W W'/\Ix .ret xs W'
 | .exit id,_,W'=>Q1 (fun b=>¬ K b) W W'/\Ix (.exit id) xs W'
 | .goto t,_,W'=>Q1 (fun b=>¬ K b) W W'/\Ix (.goto t) xs W'
 | .panic _,_,_=>False
 | .outgrown,_,_=>False
theorem Wr{α:Type}{P:Program}{g:Operand}{ps:Array Tmp}{assign body:Code}{Q:Exit->Act->World->Prop}{a:Act}{w:World}
  {gf:Nat} {lb:Array Value} (b7:a.eval g=.func (.func gf) #[] lb) (a5:∀ args w,(callFunc gf args).run P w=.ok (.enter gf args) w)
  {H:α->Array Value} {xs:List α} {S K:Nat->Prop} (c2:T5 P gf lb H xs S K w) (b1:∀ b,S b->K b) (a2:∀ b,K b->b<w.heap.size) (c0:∀ x,(H x).size=ps.size)
  (I:List α->World->Prop) (C:Code->List α->World->Prop)
  (L:∀ pre A B,I pre A->Q1 (fun b=>S b\/b=w.heap.size+1) A B->I pre B)
  (D:∀ c pre A B,C c pre A->Q1 (fun b=>S b\/b=w.heap.size+1) A B->C c pre B)
  (a6:∀ W,Ext w W->W.heap.size=w.heap.size+2->I [] W) (a4:α->Array Value->Array Value)
  (b2:∀(x:α) (W:World) (Kn:Act->World->Prop),Kn { tmps:=a4 x a.tmps,defers:=[] } W ->
   assign.wpIn (Fence.wide.inRound (w.heap.size+1)) 0 P (Exit.then Kn (fun _ _ _=>False)) { tmps:=(ps.zip (H x)).foldl (fun t (p,v)=>t.setIfInBounds p v) a.tmps,defers:=[] } W)
  (b3:∀(pre:List α) (x:α) (rest:List α) (W:World),xs=pre++x::rest->w.heap.size+2<=W.heap.size->Q1 (fun b=>¬ K b\/S b) w W->I pre W ->
   body.wpIn (Fence.wide.inRound (w.heap.size+1)) 0 P (Tl (fun b=>K b\/b=w.heap.size\/b=w.heap.size+1) I C (pre++[x]) W) { tmps:=a4 x a.tmps,defers:=[] } W)
  (b6:∀ W,I xs W->Q1 (fun b=>¬ K b\/S b) w W->W.heap[w.heap.size]?=some (.deferred (some []))->Q .normal { a with defers:={ target:=.collected w.heap.size,args:=#[] }::a.defers } W)
  (c3:∀ c pre x rest W,xs=pre++x::rest->C c (pre++[x]) W->W.heap[w.heap.size]?=some (.deferred (some []))->c.wp P Q { a with defers:={ target:=.collected w.heap.size,args:=#[] }::a.defers } W) :
  (Code.rangeFunc g ps assign body).wp P Q a w:=by
 refine(wpIn_wide (n:=0)).1 (wpIn_rangeFunc ?_);intro fn _;obtain⟨e,k⟩:∃ e:LoopState->Option Code->Loop,e=fun st pe=>{ state:=st,pending:=pe,fn,tmps:=a.tmps,params:=ps,assign,body,defers:=w.heap.size }:=⟨_,rfl⟩;obtain⟨j,E⟩:=zE ((w.alloc (.deferred (some []))).alloc (.loop (e .ready none)));have b0:j.heap[w.heap.size+1]?=some (.loop (e .ready none)):=by
  rw [<-E];have:=World.alloc_heap_new (w.alloc (.deferred (some []))) (.loop (e .ready none));rwa [World.size_alloc] at this
 have a9:j.heap[w.heap.size]?=some (.deferred (some [])):=by
  rw [<-E];exact(Below.heap_alloc _ _ _ zy).trans (World.alloc_heap_new w _)
 have T:Ext w j:=by rw [<-E];exact((Q1.refl _ w).alloc _).alloc _
 have c1:j.heap.size=w.heap.size+2:=by rw [<-E];simp
 have M:∀ b,S b->b≠w.heap.size+1/\b≠w.heap.size:=fun b hb=>by have:=a2 b (b1 b hb);omega
 refine⟨w.heap.size+1,[{ target:=.collected w.heap.size,args:=#[] }],j,{ target:=.fn (.func gf) lb,args:=#[.func (.yield (w.heap.size+1)) #[] #[]] },j,gf,
  #[.func (.yield (w.heap.size+1)) #[] #[]]++lb,j,?_,?_,fun _ _=>trivial,?_,fun h=>by simp [Fence.wide] at h,?_⟩
 ·rw [<-E,k];exact run_enterLoop_outer _ _ _ _ _
 ·simp only [resolve,b7];simp [go_sem]
 ·simp [invoke,go_sem,a5]
 ·refine callsIn_wide.2 ((c2 (w.heap.size+1)
   (fun pre W=>I pre W/\W.heap[w.heap.size+1]?=some (.loop (e .ready none))/\W.heap[w.heap.size]?=some (.deferred (some []))/\Q1 (fun b=>¬ K b\/S b) w W/\w.heap.size+2<=W.heap.size)
   (fun pre W=>∃ c,C c pre W/\W.heap[w.heap.size+1]?=some (.loop (e .done (some c)))/\W.heap[w.heap.size]?=some (.deferred (some [])))
   j T.of ?_ ?_ ?_ ⟨a6 _ T c1,b0,a9,T.of,by omega⟩).mono ?_)
  ·rintro pre A B ⟨N,O,R,a7,a8⟩ f;exact⟨L _ _ _ N (f.mono fun b _ hb=>.inl hb),f.heap O (fun hb=>(M _ hb).1 rfl),f.heap R (fun hb=>(M _ hb).2 rfl),a7.after f (fun b _ hb=>.inr hb),Nat.le_trans a8 f.size⟩
  ·rintro pre A B ⟨c,N,O,R⟩ f;exact⟨c,D _ _ _ _ N (f.mono fun b _ hb=>.inl hb),f.heap O (fun hb=>(M _ hb).1 rfl),f.heap R (fun hb=>(M _ hb).2 rfl)⟩
  ·rintro pre x rest W Y ⟨G,u,F,f,V⟩;have b9:w.heap.size+1<W.heap.size:=by omega
   have Z:=run_yield (P:=P) (args:=H x) u (by rw [k];exact c0 x);rw [k] at Z;refine⟨fn,_,assign,body,Z,roundIn_of_wpIn trivial (b2 x W _ ?_)⟩;clear Z;refine⟨_,run_beginRound u (by rw [k]),?_⟩;have b8:(W.putObj (w.heap.size+1) (.loop { e .ready none with state:=.busy })).heap[w.heap.size+1]?=some (.loop { e .ready none with state:=.busy }):=World.putObj_heap_same b9;have b4:(W.putObj (w.heap.size+1) (.loop { e .ready none with state:=.busy })).heap[w.heap.size]?=some (.deferred (some [])):=(World.putObj_heap_other oz).trans F;have l:∀(X:World) o,Q1 (fun b=>S b\/b=w.heap.size+1) X (X.putObj (w.heap.size+1) o):=fun X o=>(Q1.refl _ X).putObj (.inr (.inr rfl)) o;have U:∀(X:World) o,Q1 (fun b=>¬ K b) X (X.putObj (w.heap.size+1) o):=fun X o=>(Q1.refl _ X).putObj (.inr (fun hk=>by have:=a2 _ hk;omega)) o;refine wpIn_mono (b3 pre x rest _ Y (by simpa using V) (f.after (U W _) (fun b _ hb=>.inl hb)) (L _ _ _ G (l W _))) ?_
   have J:∀(jump:Option Code) (d:World),Q1 (fun b=>¬ (K b\/b=w.heap.size\/b=w.heap.size+1)) (W.putObj (w.heap.size+1) (.loop { e .ready none with state:=.busy })) d ->
     (Instr.endRound (w.heap.size+1) jump).run P d=.ok (.bool jump.isNone) (d.putObj (w.heap.size+1) (.loop (e (if jump.isNone then .ready else .done) jump))) /\
     (d.putObj (w.heap.size+1) (.loop (e (if jump.isNone then .ready else .done) jump))).heap[w.heap.size+1]?=some (.loop (e (if jump.isNone then .ready else .done) jump)) /\
     (d.putObj (w.heap.size+1) (.loop (e (if jump.isNone then .ready else .done) jump))).heap[w.heap.size]?=some (.deferred (some [])) /\
     Q1 (fun b=>¬ K b) W (d.putObj (w.heap.size+1) (.loop (e (if jump.isNone then .ready else .done) jump))):=fun jump d i=>by
    have a3:=i.heap b8 (fun h=>h (.inr (.inr rfl)));have b5:=i.heap b4 (fun h=>h (.inr (.inl rfl)));have:=run_endRound (P:=P) jump a3;rw [k] at this ⊢;refine⟨this,World.putObj_heap_same (Array.getElem?_eq_some_iff.1 a3).1,(World.putObj_heap_other oz).trans b5,?_⟩;exact((U W _).trans (i.mono fun b _ hb hk=>hb (.inl hk))).trans (U d _)
   rintro a1 c4 d y;cases a1 with
   | normal=>
    obtain⟨i,q⟩:=y;obtain⟨s,r,m,z⟩:=J none d i;exact⟨_,_,s,.inl ⟨rfl,⟨L _ _ _ q (l d _),r,m,f.after z (fun b _ hb=>.inl hb),Nat.le_trans V z.size⟩,z⟩⟩
   | ret=>
    obtain⟨i,q⟩:=y;obtain⟨s,r,m,z⟩:=J (some .ret) d i;exact⟨_,_,s,.inr ⟨rfl,.ret,D _ _ _ _ q (l d _),r,m⟩⟩
   | exit id=>
    obtain⟨i,q⟩:=y;obtain⟨s,r,m,z⟩:=J (some (.exit id)) d i;exact⟨_,_,s,.inr ⟨rfl,.exit id,D _ _ _ _ q (l d _),r,m⟩⟩
   | goto t=>
    obtain⟨i,q⟩:=y;obtain⟨s,r,m,z⟩:=J (some (.goto t)) d i;exact⟨_,_,s,.inr ⟨rfl,.goto t,D _ _ _ _ q (l d _),r,m⟩⟩
   | panic ch=>exact y.elim
   | outgrown=>exact y.elim
  ·have l:∀(X:World) o,Q1 (fun b=>S b\/b=w.heap.size+1) X (X.putObj (w.heap.size+1) o):=fun X o=>(Q1.refl _ X).putObj (.inr (.inr rfl)) o;rintro a1 a0 ⟨⟨v,rfl⟩,(⟨G,u,F,f,V⟩ | ⟨pre,x,rest,Y,c,G,u,F⟩)⟩
   ·refine⟨none,_,by have:=run_endLoop (P:=P) u (by rw [k];simp);rw [k] at this;exact this,?_⟩;exact b6 _ (L _ _ _ G (l a0 _)) (f.putObj (.inl oz) _) ((World.putObj_heap_other oz).trans F)
   ·refine⟨some c,_,by have:=run_endLoop (P:=P) u (by rw [k];simp);rw [k] at this;exact this,?_⟩;exact(wpIn_wide (n:=0)).2 (c3 c pre x rest _ Y (D _ _ _ _ G (l a0 _)) ((World.putObj_heap_other oz).trans F))
end Go.Ab
namespace Go.Ab
open Go.RowKit
variable {P:Program} {ops:Array Oper} {Q:Exit->Act->World->Prop}
theorem Bo{o:Oper}{a:Act}{w:World}{K:Act->World->Prop}{l n:Nat}(d:∀ c,o.op≠.defer c)(b:¬ LetsOut Q)
  (h:o.wp P a w K Q\/(o.asks P a w/\LetsOut Q)):o.wpIn (Fence.wide.inRound l) n P a w K Q:=by
 have h:=h.resolve_right fun h=>b h.2;refine⟨fun _ _=>trivial,?_⟩;rw [Oper.semAt_eq _ _ _ d];unfold Oper.wp at h;generalize (execOp a.eval o).run P w=e at *;cases e with
 | ok x w'=>
  cases x <;> simp only [Oper.upon,Oper.uponIn] at h ⊢ <;> first
   | exact h
   | exact⟨fun hh=>by simp [Fence.wide] at hh,(callsIn_wide.2 h).inRound l⟩
   | exact⟨fun hh=>by simp [Fence.wide] at hh,fun c cs _=>let ⟨v,w'',hR,hs⟩:=h c cs;⟨v,w'',hR,stepsIn_wide.2 hs⟩⟩
 | halt x w'=>cases x <;> simp only [Oper.upon,Oper.uponIn] at h ⊢ <;> exact h
def J4(ops:Array Oper):Bool:=ops.all fun o=>match o.op with | .defer _=>false | _=>true
theorem Rl(h:J4 ops=true){i:Nat}{o:Oper}(a:ops[i]?=some o)(c:Call):o.op≠.defer c:=by
 intro b;have:=Array.all_eq_true.1 h i (Array.getElem?_eq_some_iff.1 a).1;rw [(Array.getElem?_eq_some_iff.1 a).2,b] at this;simp at this
theorem Wb{l n:Nat}(g:J4 ops=true)(f:¬ LetsOut Q){i:Nat}{K d:Act->World->Prop}{a:Act}{w:World}(e:∀ a w,K a w->d a w)
  (h:wpOp P ops Q i K a w):wpOpIn (Fence.wide.inRound l) n P ops Q i d a w:=by
 have h:=wpOp_mono e h;unfold wpOp at h;unfold wpOpIn
 split
 ·rename_i b;rw [b] at h;exact h
 ·rename_i j b
  rw [b] at h;simp only at h
  split
  ·rename_i c;rw [if_pos c] at h;exact Bo (Rl g b) f h
  ·rename_i c;rw [if_neg c] at h;exact⟨fun _ _=>trivial,h⟩
theorem L0{l n:Nat}{md:Region.Mode}(hd:J4 ops=true)(hQ:¬ LetsOut Q):∀(f:Nat) (listed:Array Bool) (a:Act) (w:World),
  wpAny P md ops Q f listed a w->wpAnyIn (Fence.wide.inRound l) n P md ops Q f listed a w
 | 0,_,_,_,h=>h
 | f+1,_,_,_,h=>⟨h.1,fun i hi=>Wb hd hQ (fun a w h=>L0 hd hQ f _ a w h) (h.2 i hi)⟩
theorem Fa{l n:Nat}(hd:J4 ops=true)(hQ:¬ LetsOut Q):∀(is:List Nat) (a:Act) (w:World),
  wpOps P ops Q is a w->wpOpsIn (Fence.wide.inRound l) n P ops Q is a w
 | [],_,_,h=>h
 | i::is,a,w,h=>by
  rw [wpOps_cons] at h;rw [wpOpsIn_cons];exact Wb hd hQ (fun a w h=>Fa hd hQ is a w h) h
theorem Xc{id l n:Nat}{a:Act}{w:World}{os:List Oper}(hd:J4 os.toArray=true)(hQ:¬ LetsOut Q)
  (h:wpList P os.toArray Q os a w):(Code.region id os.toArray false).wpIn (Fence.wide.inRound l) n P Q a w:=
 wpIn_region (Fa hd hQ _ _ _ (by
  have:=wpOps_eq_wpList (P:=P) (ops:=os.toArray) (Q:=Q) os 0 zy;rw [show List.range os.toArray.size=List.range' 0 os.length by simp [List.range_eq_range'],this];exact h))
theorem V6{id l n:Nat}{a:Act}{w:World}(hm:P.follows .mixedOrders=true)(hd:J4 ops=true)(hQ:¬ LetsOut Q)
  (h:wpAny P .any ops Q ops.size (Array.replicate ops.size false) a { w with drawn:=w.drawn+1 }):(Code.region id ops true).wpIn (Fence.wide.inRound l) n P Q a w:=
 wpIn_region_any hm (L0 hd hQ _ _ _ _ h)
theorem Xz{x k n:Nat}{a:Act}{w:World}{l:List Oper}(m:Nat)(s:P.follows .mixedOrders=true)(c:Region.lexTailB .any l.toArray m=true)(p:J4 l.toArray=true)(i:¬ LetsOut Q)
  (h:wpStill P l.toArray w.drew (fun a'=>wpList P l.toArray Q (l.drop m) a' w.drew) (l.take m) a):(Code.region x l.toArray true).wpIn (Fence.wide.inRound k) n P Q a w:=by
 simp only [Region.lexTailB,Bool.and_eq_true,decide_eq_true_eq] at c;obtain⟨⟨⟨⟨v,e⟩,u⟩,o⟩,r⟩:=c;have z:m<l.length:=by simpa using e
 have b:(l.take m).length=m:=by simp;omega
 have d:(l.drop m).length=l.toArray.size - m:=by simp
 have y:HeadInv .any l.toArray m (Array.replicate l.toArray.size false):=
  ⟨by simp,fun j oj _ hl=>(by rw [getD_replicate_false] at hl;cases hl),fun t _ ht=>getD_in (by simpa using ht) (getD_replicate_false _ _)⟩
 have f:=wpAnyL_lex (md:=.any) (g:=l.toArray.size - m) v u o e (l.take m) 0 _ a (fun j hj=>by
  have q:j<m:=by rw [b] at hj;exact hj
  simp [q]) (by simpa using b) y (by rw [b];exact r) h
 refine V6 s p i ?_
 have:=wpAny_of_head (Q':=Q) (g:=l.toArray.size - m) (fun listed a' hL=>by
  have:=wpAny_of_seq (md:=.any) (Q':=Q) (l.drop m) m listed a' { w with drawn:=w.drawn+1 } (fun j=>by simp [List.getElem?_drop]) (by rw [d];exact hL.1) hL.2
  rwa [d] at this) _ _ _ f
 rw [b,show m+(l.toArray.size - m)=l.toArray.size by omega] at this;exact this
theorem Ds{id:Nat}{a:Act}{w:World}{l:List Oper}(m:Nat)(hm:P.follows .mixedOrders=true)(hB:Region.lexTailB .any l.toArray m=true)
  (h:wpStill P l.toArray w.drew (fun a'=>wpList P l.toArray Q (l.drop m) a' w.drew) (l.take m) a):(Code.region id l.toArray true).wp P Q a w:=
 wp_region_still_tail m hm hB h
end Go.Ab
namespace Go.Ab
open Go.RowKit
def Rd(w:World)(v:Value)(n sz:Nat)(xs:List Value):Prop:=
 xs.length=n*sz/\n<=maxLen/\∃ ao cap,v=.slice ao n cap/\(0<n->∃ g off,ao=some ⟨g,off,none⟩/\g<w.heap.size/\∀ j,j<n*sz->w.cell? ⟨g,off+j,none⟩=some (xs.getD j undef))
theorem Rd.keep{S:Nat->Prop}{A B:World}{v:Value}{n sz:Nat}{xs:List Value}(h:Rd A v n sz xs)(b:Q1 S A B)(k:∀ g off len cap,v=.slice (some ⟨g,off,none⟩) len cap->¬ S g):Rd B v n sz xs:=by
 obtain⟨e,f,d,cap,c,i⟩:=h;refine⟨e,f,d,cap,c,fun hn=>?_⟩;obtain⟨g,off,a,m,l⟩:=i hn;exact⟨g,off,a,Nat.lt_of_lt_of_le m b.size,fun j hj=>b.cell_some (l j hj) (k g off n cap (by rw [c,a]))⟩
theorem Rd.ext{A B:World}{v:Value}{n sz:Nat}{xs:List Value}(h:Rd A v n sz xs)(ht:Ext A B):Rd B v n sz xs:=h.keep ht fun _ _ _ _ _ h=>h
theorem Rd.drewN{A:World}{v:Value}{n sz:Nat}{xs:List Value}(h:Rd A v n sz xs)(m:Nat):Rd (A.drewN m) v n sz xs:=h.ext ((Q1.refl _ A).drewN m)
theorem Rd.of_own{w:World}{base:Nat}{e:TypeId}{sz:Nat}{v:Value}{n:Nat}{xs:List Value}(h:w.ownsRow base e sz v n xs):Rd w v n sz xs:=by
 have b:=h.1;rcases h.2 with ⟨rfl,rfl⟩ | ⟨a,c,i,rfl,k,f,g,d,l,m⟩
 ·exact⟨b,by simp [maxLen],none,0,rfl,fun h=>by omega⟩
 ·refine⟨b,Nat.le_trans g d,some ⟨a,0,none⟩,c,rfl,fun _=>⟨a,0,rfl,(Array.getElem?_eq_some_iff.1 f).1,fun j hj=>?_⟩⟩;rw [Nat.zero_add,h.cellAt j hj,List.getD_eq_getElem?_getD];have:j<xs.length:=by omega
  simp [this]
theorem Qd{S:Nat->Prop}{A B:World}{base:Nat}{e:TypeId}{sz:Nat}{v:Value}{n:Nat}{xs:List Value}(h:A.ownsRow base e sz v n xs)(l:Q1 S A B)(d:∀ g,v.ownBlock=some g->¬ S g):B.ownsRow base e sz v n xs:=by
 obtain⟨j,c⟩:=h;refine⟨j,?_⟩;rcases c with ⟨rfl,rfl⟩ | ⟨g,a,b,rfl,f,i,k⟩
 ·exact .inl ⟨rfl,rfl⟩
 ·exact .inr ⟨g,a,b,rfl,f,l.heap i (d g rfl),k⟩
theorem Qf{A B:World}{base:Nat}{e:TypeId}{sz:Nat}{v:Value}{n:Nat}{xs:List Value}(h:A.ownsRow base e sz v n xs)(ht:Ext A B):B.ownsRow base e sz v n xs:=Qd h ht fun _ _ h=>h
theorem Q52{S:Nat->Prop}{A B:World}{base:Nat}{e:TypeId}{sz:Nat}{v:Value}{n:Nat}{xs:List Value}(h:A.ownsRow base e sz v n xs)(c:Q1 S A B)(a:∀ g o,A.heap[g]?=some o->o.isCells=true->¬ S g):B.ownsRow base e sz v n xs:=by
 refine Qd h c fun g hg=>?_
 rcases h.2 with ⟨e,_⟩ | ⟨i,d,f,e,_,b,_⟩
 ·rw [e] at hg;simp [Value.ownBlock] at hg
 ·rw [e] at hg;simp [Value.ownBlock] at hg;subst hg;exact a _ _ b rfl
theorem Xh{A:World}{base base':Nat}{e:TypeId}{sz:Nat}{v:Value}{n:Nat}{xs:List Value}(h:A.ownsRow base e sz v n xs)(f:base'<=base):A.ownsRow base' e sz v n xs:=by
 obtain⟨i,d⟩:=h;refine⟨i,?_⟩;rcases d with h | ⟨c,a,b,k,g,j⟩
 ·exact .inl h
 ·exact .inr ⟨c,a,b,k,Nat.le_trans f g,j⟩
theorem Ff{P:Program}{w:World}{base:Nat}{t ty e:TypeId}{i:TypeInfo}{z:Value}(o:P.underlying t=some (.slice e)) (l:P.info? e=some i) (A:i.zero=some z) (_hsz:0<i.size)
  {v:Value} {n:Nat} {xs:List Value} (r:w.ownsRow base e i.size v n xs)
  (a:Addr) (m c:Nat) (d:List Value) (f:d.length=m*i.size) (q:∀ j u,d[j]?=some u->w.cell? (a.add j)=some u) (B:∀ u∈d,u.oneCell'=true)
  (C:n+m<=maxLen) (x:(n+m)*i.bytes<=140737488355328) {v':Value} {K:World}
  (b:(Builtin.append_ #[t,t] ty #[v,.slice (some a) m c]).run P w=.ok v' K):v'.ownBlock=v.ownBlock\/v'.ownBlock=some w.heap.size:=by
 have O:n+m<=9223372036854775807:=by simp only [maxLen] at C;omega
 rcases r.2 with ⟨rfl,rfl⟩ | ⟨g,p,s,rfl,L,G,N,M,E,Q⟩
 ·by_cases H:m=0
  ·subst H;have I:d=[]:=List.eq_nil_of_length_eq_zero (by simpa using f);subst I;have:(Builtin.append_ #[t,t] ty #[.slice none 0 0,.slice (some a) 0 c]).run P w=.ok (.slice none 0 0) w:=by
    simp [Builtin.append_,run_underlying o,sizeOf,typeInfo,l,Builtin.lenOf,Builtin.firstCells,loadCells,loadCellsFrom]
   rw [this] at b;cases b;exact .inl rfl
  ·have k:=run_append_nil (P:=P) w t ty e i z o l A a m c d f q oz oz (by have D:=x;simp only [Nat.zero_add] at D;omega);rw [k] at b;cases b;exact .inr rfl
 ·by_cases y:n+m<=p
  ·have F:n*i.size+d.length<=s.size:=by rw [f,E,<-Nat.add_mul];exact Nat.mul_le_mul_right _ y
   have k:=run_append_room (P:=P) w t ty e i o l g n p s G a m c d f q B y F;rw [k] at b;cases b;exact .inl rfl
  ·have J:∀ j u,xs[j]?=some u->w.cell? ((⟨g,0,none⟩:Addr).add j)=some u:=r.cells (g:=g) rfl;have k:=run_append_grow (P:=P) w t ty e i z o l A ⟨g,0,none⟩ n p xs r.1 J a m c d f q oz oz (growslice_fits oz x);rw [k] at b;cases b;exact .inr rfl
def Q9l(v:Value):Prop:=∃ ao n cap,v=.slice ao n cap
theorem Zj{w:World}{base:Nat}{e:TypeId}{sz:Nat}{v:Value}{n:Nat}{xs:List Value}(h:w.ownsRow base e sz v n xs):∃ ao cap,v=.slice ao n cap:=by
 rcases h.2 with ⟨rfl,rfl⟩ | ⟨b,cap,a,rfl,_⟩
 ·exact⟨_,_,rfl⟩
 ·exact⟨_,_,rfl⟩
theorem Zz{P:Program}{w:World}{ops:Array Oper}{rest:List Oper}{o:Oper}{a:Act}{Q:Exit->Act->World->Prop}(M:o.guard=none)(s x:Operand)(t:TypeId)
  (O:o.op=.call { callee:=.builtin .append,args:=#[s,x],argTypes:=#[t,t] })
  (base:Nat) (e:TypeId) (z:Value) (size g:Nat) (F:P.underlying t=some (.slice e)) (N:(P.info? e).map (fun i=>(i.zero,i.size,i.bytes))=some (some z,size,g))
  (U:z.cells.size=size) (E:0<size)
  (v:Value) (n:Nat) (xs:List Value) (R:a.eval s=v) (C:w.ownsRow base e size v n xs)
  (f:Addr) (m c:Nat) (d:List Value) (T:a.eval x=.slice (some f) m c) (A:d.length=m*size) (B:∀ j u,d[j]?=some u->w.cell? (f.add j)=some u) (l:∀ u∈d,u.oneCell'=true)
  (q:n+m<=maxLen) (r:(n+m)*g<=140737488355328) (L:base<=w.heap.size)
  (h:∀ ao c' w',w'.ownsRow base e size (.slice ao (n+m) c') (n+m) (xs++d)->Q1 (fun b=>v.ownBlock=some b) w w'->((Value.slice ao (n+m) c').ownBlock=v.ownBlock\/(Value.slice ao (n+m) c').ownBlock=some w.heap.size)->wpList P ops Q rest (a.put o.dst (.slice ao (n+m) c')) w'):wpList P ops Q (o::rest) a w:=by
 obtain⟨i,y,G,S,J⟩:=info_parts N;subst S;subst J;refine wpList_plain M fun K hK=>?_
 obtain⟨W,w',D,p,H,V⟩:=run_append_own (P:=P) w base t o.type e i z _ _ F y G rfl rfl U E v n xs C f m c d A B l q r L;have I:=Ff F y G E C f m c d A B l q r D;unfold Oper.wp execOp;simp only [O,resolve,invoke,builtin,Sem.run_bind,Sem.run_pure,Result.andThen_ok,List.map_toArray,List.map_cons,List.map_nil,R,T,D];obtain⟨ao,c',rfl⟩:=Zj p;exact hK _ _ (h ao c' w' p ((Q1.refl _ w).grown H (fun k e=>.inr e)) I)
theorem Ny{w:World}{l:List Value}{t:TypeId}:∀ j u,l[j]?=some u->(w.alloc (.cells l.toArray t)).cell? ((⟨w.heap.size,0,none⟩:Addr).add j)=some u:=by
 intro j u c;have a:((⟨w.heap.size,0,none⟩:Addr).add j)=⟨w.heap.size,j,none⟩:=by
  unfold Addr.add;split
  ·rename_i b;subst b;rfl
  ·simp
 rw [a,World.cell?_alloc_new]
 simpa using c
theorem Y5{w:World}{l:List Value}{t:TypeId}{n:Nat}(a:n=w.heap.size):∀ j u,l[j]?=some u->(w.alloc (.cells l.toArray t)).cell? ((⟨n,0,none⟩:Addr).add j)=some u:=by
 subst a;exact Ny
theorem Vd{w:World}{base g n cap:Nat}{e:TypeId}{xs:List Value}(h:w.ownsRow base e 1 (.slice (some ⟨g,0,none⟩) n cap) n xs) (j:Nat) (u:Value) :
  (w.setCell ⟨g,j,none⟩ u).ownsRow base e 1 (.slice (some ⟨g,0,none⟩) n cap) n (xs.set j u):=(h.stored j u).1
end Go.Ab
namespace Go.Ab
open Go.RowKit
def Qw(w:Wd):List Value:=w.flatMap fun s=>[Value.int .u32 (s.1:Int),Value.int .u32 (s.2:Int)]
theorem U3(s:Nat × Nat)(w:Wd):Qw (s::w)=.int .u32 (s.1:Int)::.int .u32 (s.2:Int)::Qw w:=rfl
theorem Lb(w:Wd):(Qw w).length=w.length*2:=by
 induction w with
 | nil=>rfl
 | cons s w ih=>simp [U3,ih];omega
theorem Ur(v w:Wd):Qw (v++w)=Qw v++Qw w:=by simp [Qw]
theorem Q4d(w:Wd)(i:Nat)(h:i<w.length):(Qw w)[i*2]?=some (.int .u32 ((w.getD i (0,0)).1:Int))/\(Qw w)[i*2+1]?=some (.int .u32 ((w.getD i (0,0)).2:Int)):=by
 induction w generalizing i with
 | nil=>simp at h
 | cons s w ih=>
  cases i with
  | zero=>simp [U3]
  | succ i=>
   rw [U3,show (i+1)*2=i*2+1+1 by omega]
   simpa using ih i (by simpa using h)
def Zt(w:Wd):Prop:=∀ s∈w,s.1<4294967296/\s.2<4294967296
theorem Zt.get{w:Wd}(h:Zt w)(i:Nat)(a:i<w.length):(w.getD i (0,0)).1<4294967296/\(w.getD i (0,0)).2<4294967296:=by
 refine h _ ?_;rw [List.getD_eq_getElem?_getD,List.getElem?_eq_getElem a];exact List.getElem_mem a
def Q8(W:World)(v:Value)(w:Wd):Prop:=Rd W v w.length 2 (Qw w)/\Zt w
theorem Q8.ext{A B:World}{v:Value}{w:Wd}(h:Q8 A v w)(ht:Ext A B):Q8 B v w:=⟨h.1.ext ht,h.2⟩
theorem Q8.at{W:World}{v:Value}{w:Wd}(h:Q8 W v w){i:Nat}(k:i<w.length) :
  ∃ g off cap,v=.slice (some ⟨g,off,none⟩) w.length cap/\g<W.heap.size/\W.cell? ⟨g,off+i*2,none⟩=some (.int .u32 ((w.getD i (0,0)).1:Int))/\W.cell? ⟨g,off+i*2+1,none⟩=some (.int .u32 ((w.getD i (0,0)).2:Int)):=by
 obtain⟨⟨n,o,m,cap,l,e⟩,p⟩:=h;obtain⟨g,off,f,j,d⟩:=e oz;have c:=Q4d w i k;have a:=d (i*2) oz;have b:=d (i*2+1) oz;rw [List.getD_eq_getElem?_getD,c.1] at a;rw [List.getD_eq_getElem?_getD,c.2,<-Nat.add_assoc] at b;exact⟨g,off,cap,by rw [l,f],j,a,b⟩
theorem Q8.slice{W:World}{v:Value}{w:Wd}(h:Q8 W v w):∃ ao cap,v=.slice ao w.length cap/\w.length<=maxLen:=by
 obtain⟨⟨c,a,ao,cap,b,d⟩,e⟩:=h;exact⟨ao,cap,b,a⟩
theorem Nz(a b:Nat)(g:a<4294967296)(j:b<4294967296):a &&& (4294967295 - b)=0↔a &&& b=a:=by
 have f:∀ c,(4294967295 - b).testBit c=(decide (c<32) && !b.testBit c):=fun c=>by
  have:=Nat.testBit_two_pow_sub_succ (n:=32) (x:=b) (by simpa using j) c
  simpa using this
 have i:∀ c,32<=c->a.testBit c=false:=fun c e=>Nat.testBit_lt_two_pow (Nat.lt_of_lt_of_le g (Nat.pow_le_pow_right (n:=2) zd e));constructor
 ·intro d;apply Nat.eq_of_testBit_eq;intro c;have:=congrArg (fun v=>Nat.testBit v c) d;simp only [Nat.testBit_and,f,Nat.zero_testBit] at this;rw [Nat.testBit_and];by_cases e:c<32
  ·cases q:a.testBit c <;> cases r:b.testBit c <;> simp_all
  ·rw [i c oz];rfl
 ·intro d;apply Nat.eq_of_testBit_eq;intro c;have:=congrArg (fun v=>Nat.testBit v c) d;simp only [Nat.testBit_and] at this;rw [Nat.testBit_and,f,Nat.zero_testBit];cases q:a.testBit c <;> cases r:b.testBit c <;> simp_all
theorem Q3g{s c:Nat × Nat}(e:s.1<4294967296)(f:s.2<4294967296)(b:c.1<4294967296)(d:c.2<4294967296) :
  (bits .or .u32 (bits .andNot .u32 (c.1:Int) (s.1:Int)) (bits .andNot .u32 (c.2:Int) (s.2:Int)) == 0)=sat s c:=by
 have g:c.1 &&& (4294967295 - s.1)<4294967296:=Nat.lt_of_le_of_lt Nat.and_le_left b;have i:c.2 &&& (4294967295 - s.2)<4294967296:=Nat.lt_of_le_of_lt Nat.and_le_left d;rw [u32_andNot_nat _ _ b e,u32_andNot_nat _ _ d f,u32_or_nat _ _ g i];apply Bool.eq_iff_iff.2;rw [beq_iff_eq,sat,Bool.and_eq_true,beq_iff_eq,beq_iff_eq,<-Nz _ _ b e,<-Nz _ _ d f];constructor
 ·intro a;have a:(c.1 &&& (4294967295 - s.1) ||| c.2 &&& (4294967295 - s.2))=0:=by exact_mod_cast a
  exact Nat.or_eq_zero_iff.1 a
 ·intro a;have:(c.1 &&& (4294967295 - s.1) ||| c.2 &&& (4294967295 - s.2))=0:=Nat.or_eq_zero_iff.2 a
  exact_mod_cast this
theorem Hj{a b:Nat}(c:a<4294967296)(d:b<4294967296):((bits .and .u32 (a:Int) (b:Int) == 0)=(a &&& b == 0))/\bits .or .u32 (a:Int) (b:Int)=((a ||| b:Nat):Int):=by
 rw [u32_and_nat _ _ c d,u32_or_nat _ _ c d];refine⟨?_,rfl⟩;apply Bool.eq_iff_iff.2;rw [beq_iff_eq,beq_iff_eq];exact⟨fun h=>by exact_mod_cast h,fun h=>by rw [h];rfl⟩
end Go.Ab
namespace Go.Ab
open Go.RowKit
def Ql(k:Int)(pl mi:Nat)(nt:Bool)(mn mx:Int)(ao:Option Addr)(n cap:Nat):List Value:=
 [.int .i64 k,.int .u32 pl,.int .u32 mi,.bool nt,.int .i64 mn,.int .i64 mx,.slice ao n cap]
mutual
def Z0(K:Nat->Prop)(w:World):Pat->List Value->Prop
 | .node k pl mi nt mn mx l,cs=>∃ ao cap,cs=Ql k pl mi nt mn mx ao l.length cap/\pl<4294967296/\mi<4294967296/\l.length<=cap/\cap<=maxLen/\Zb K w l ao 0
def Zb(K:Nat->Prop)(w:World):List Pat->Option Addr->Nat->Prop
 | [],_,_=>True
 | p::l,ao,i=>(∃ g off cs,ao=some ⟨g,off,none⟩/\K g/\g<w.heap.size/\w.rangeAt g (off+i*7) cs/\Z0 K w p cs)/\Zb K w l ao (i+1)
end
theorem Zb.get{K:Nat->Prop}{w:World}:∀ {l:List Pat} {ao:Option Addr} {i:Nat},Zb K w l ao i->∀ j (h:j<l.length),∃ g off cs,ao=some ⟨g,off,none⟩/\K g/\g<w.heap.size/\w.rangeAt g (off+(i+j)*7) cs/\Z0 K w l[j] cs
 | [],_,_,_,j,h=>by simp at h
 | p::l,ao,i,h,0,_=>by unfold Zb at h;exact h.1
 | p::l,ao,i,h,j+1,hj=>by
  unfold Zb at h;have:=Zb.get h.2 j (by simpa using hj);rw [show i+(j+1)=i+1+j by omega];exact this
theorem Zb.mk{K:Nat->Prop}{w:World}:∀ {l:List Pat} {ao:Option Addr} {i:Nat},(∀ j (h:j<l.length),∃ g off cs,ao=some ⟨g,off,none⟩/\K g/\g<w.heap.size/\w.rangeAt g (off+(i+j)*7) cs/\Z0 K w l[j] cs)->Zb K w l ao i
 | [],_,_,_=>by unfold Zb;trivial
 | p::l,ao,i,h=>by
  unfold Zb;refine⟨h 0 zy,Zb.mk fun j hj=>?_⟩;have:=h (j+1) (by simpa using hj);rw [show i+(j+1)=i+1+j by omega] at this;exact this
theorem Dv{S:Nat->Prop}{A B:World}(ht:Q1 S A B){g o:Nat}{cs:List Value}(h:A.rangeAt g o cs)(hS:¬ S g):B.rangeAt g o cs:=fun j v hv=>ht.cell_some (h j v hv) hS
mutual
theorem Z0.keep{K S:Nat->Prop}{A B:World}(ht:Q1 S A B)(hS:∀ g,K g->¬ S g):∀ {p:Pat} {cs:List Value},Z0 K A p cs->Z0 K B p cs
 | .node k pl mi nt mn mx l,cs,h=>by
  unfold Z0 at h ⊢;obtain⟨ao,cap,h1,h2,h3,h4,h5,h6⟩:=h;exact⟨ao,cap,h1,h2,h3,h4,h5,Zb.keep ht hS h6⟩
theorem Zb.keep{K S:Nat->Prop}{A B:World}(ht:Q1 S A B)(hS:∀ g,K g->¬ S g):∀ {l:List Pat} {ao:Option Addr} {i:Nat},Zb K A l ao i->Zb K B l ao i
 | [],_,_,_=>by unfold Zb;trivial
 | p::l,ao,i,h=>by
  unfold Zb at h ⊢;obtain⟨⟨g,off,cs,h1,h2,h3,h4,h5⟩,h6⟩:=h;exact⟨⟨g,off,cs,h1,h2,Nat.lt_of_lt_of_le h3 ht.size,Dv ht h4 (hS g h2),Z0.keep ht hS h5⟩,Zb.keep ht hS h6⟩
end
theorem Z0.ext{K:Nat->Prop}{A B:World}{p:Pat}{cs:List Value}(h:Z0 K A p cs)(ht:Ext A B):Z0 K B p cs:=h.keep ht fun _ _ h=>h
theorem Zb.ext{K:Nat->Prop}{A B:World}{l:List Pat}{ao:Option Addr}{i:Nat}(h:Zb K A l ao i)(ht:Ext A B):Zb K B l ao i:=h.keep ht fun _ _ h=>h
mutual
theorem Z0.mono{K L:Nat->Prop}{A:World}(hK:∀ g,K g->L g):∀ {p:Pat} {cs:List Value},Z0 K A p cs->Z0 L A p cs
 | .node k pl mi nt mn mx l,cs,h=>by
  unfold Z0 at h ⊢;obtain⟨ao,cap,h1,h2,h3,h4,h5,h6⟩:=h;exact⟨ao,cap,h1,h2,h3,h4,h5,Zb.mono hK h6⟩
theorem Zb.mono{K L:Nat->Prop}{A:World}(hK:∀ g,K g->L g):∀ {l:List Pat} {ao:Option Addr} {i:Nat},Zb K A l ao i->Zb L A l ao i
 | [],_,_,_=>by unfold Zb;trivial
 | p::l,ao,i,h=>by
  unfold Zb at h ⊢;obtain⟨⟨g,off,cs,h1,h2,h3,h4,h5⟩,h6⟩:=h;exact⟨⟨g,off,cs,h1,hK g h2,h3,h4,Z0.mono hK h5⟩,Zb.mono hK h6⟩
end
end Go.Ab
namespace Go.Proofs.YtfdlhlghcbeblaaGreatDoor
open Go.RowKit Go.Ab
def Tab(w:World):Prop:=∀ j,j<64->w.cell? ⟨0,j,none⟩=some (.int .u8 (Lib.deBruijn64tab.getD j 0))
theorem Tab.keep{S:Nat->Prop}{A B:World}(h:Tab A)(ht:Q1 S A B)(hS:¬ S 0):Tab B:=
 fun j hj=>ht.cell_some (h j hj) hS
theorem Q5x(x k a:Nat)(w:World)(g:((x:Int) == 0)=false)
  (b:IntKind.u64.wrap (bits BinOp.and IntKind.u64 (x:Int) (IntKind.u64.wrap (-(x:Int)))*285870213051353865) / 288230376151711744=(a:Int))
  (d:a<64) (f:k<64) (c:w.cell? ⟨0,a,none⟩=some (.int .u8 k)) :
  Calls Tryz.prog 152 #[.int .u64 x] w fun e w'=>e=.returned (.int .i64 k)/\w=w':=by
 go_enter Tryz.func152,Tryz.ntmps152
 go_wp2_with (simp only [b])
 go_ret;exact⟨rfl,rfl⟩
theorem Q2l(x:Nat)(d:x<18446744073709551616)(f:x≠0)(w:World)(g:Tab w) :
  Calls Tryz.prog 152 #[.int .u64 x] w fun e w'=>e=.returned (.int .i64 (Lib.ctz 64 x))/\w=w':=by
 obtain⟨i,c⟩:=Lib.lowest_bit 64 x f d;obtain⟨b,j⟩:=Lib.deBruijn64_at _ c;have a:=g _ b;rw [j] at a;exact Q5x x _ _ w (by simp;omega) (tz64_key x _ d f i) b c a
end Go.Proofs.YtfdlhlghcbeblaaGreatDoor
namespace Go.Ab
def Qb3(X:Qk)(n lo k:Nat):Qk:=if k<=lo then noB else Q8a X n lo (k - lo - 1)
def Q4(X:Qk)(a:Nat):Nat:=Y1 33 (X a)
theorem Q53{n:Nat}{X:Qk}(c:Qz n X){a:Nat}(h:n<a):Q4 X a=0:=by
 have:X a=fun _=>false:=by
  funext b
  cases hh:X a b with
  | false=>rfl
  | true=>have:=c _ _ hh;omega
 rw [Q4,this,Xr]
theorem Q6r(X Y:Qk)(a:Nat):Q4 X a ||| Q4 Y a=Q4 (orB X Y) a:=by
 unfold Q4;rw [Uc];rfl
theorem Uj(a:Nat):Q4 noB a=0:=Xr 33
theorem Q6j{n a:Nat}(b:n<=32)(h:a<=n):Q4 (idB n) a=2 ^ a:=by
 rw [X3 (n:=33) (by omega)]
 exact Yu fun i _=>by
  apply Bool.eq_iff_iff.2;rw [L1,beq_iff_eq];omega
theorem Q51(X:Qk){a b:Nat}(c:b<33):(Q4 X a).testBit b=X a b:=by
 rw [Q4,Yj];simp [c]
def X1(Y:Qk)(pre:List Nat):Nat:=Y1 33 fun c=>pre.any fun b=>Y b c
theorem Q1f(Y:Qk):X1 Y []=0:=Xr 33
theorem En(Y:Qk)(a:List Nat)(b:Nat):X1 Y (a++[b])=X1 Y a ||| Q4 Y b:=by
 unfold X1 Q4;rw [Uc];exact Yu fun i _=>by simp
theorem Q0s(X Y:Qk)(a:Nat):X1 Y ((List.range 33).filter (X a))=Q4 (comp X Y) a:=by
 unfold X1 Q4 comp;exact Yu fun i _=>by rw [List.any_filter]
theorem M1(X:Qk)(a:Nat):evs (Q4 X a)=(List.range 33).filter (X a):=Tj 33 (by decide) _
end Go.Ab
namespace Go.Proofs.YtfdlhlghcbeblaaGreatDoor
open Go.RowKit Go.Ab
attribute [local go_sem] Oper.semAt_some Zf Qp
theorem Ec(v:Nat)(i:v<18446744073709551616)(o:v≠0) :
  bits BinOp.andNot IntKind.u64 (v:Int) (IntKind.u64.wrap (2 ^ Lib.ctz 64 v))=((v &&& (v - 1):Nat):Int):=by
 obtain⟨k,f,m⟩:=Si v o (by simpa using i);generalize Lib.ctz 64 v=c at f m;have g:2 ^ c<18446744073709551616:=by
  have:=Nat.pow_lt_pow_right (a:=2) zd m
  simpa using this
 have d:IntKind.u64.wrap (2 ^ c)=((2 ^ c:Nat):Int):=by
  rw [IntKind.wrap_u64];have d:((2:Int) ^ c)=((2 ^ c:Nat):Int):=by simp
  rw [d];generalize 2 ^ c=t at g;omega
 rw [d,u64_andNot_nat _ _ i g]
 congr 1
 apply Nat.eq_of_testBit_eq;intro b;have p:(18446744073709551615 - 2 ^ c).testBit b=(decide (b<64) && !(2 ^ c).testBit b):=by
  have:=Nat.testBit_two_pow_sub_succ (n:=64) (x:=2 ^ c) (by simpa using g) b
  simpa using this
 have l:v.testBit b=(decide (b=c) || (decide (c<b) && k.testBit (b - (c+1)))):=by rw [f];exact Dt c k b
 have q:(v &&& (v - 1)).testBit b=(decide (c<b) && k.testBit (b - (c+1))):=by
  rw [f,S5,Nat.testBit_two_pow_mul];simp only [ge_iff_le,Nat.succ_le_iff]
 rw [q,Nat.testBit_and,p,l,Nat.testBit_two_pow];by_cases e:b=c
 ·subst e;simp
 ·have s:¬ c=b:=fun d=>e d.symm;simp only [e,s,decide_false,Bool.false_or,Bool.not_false,Bool.and_true];by_cases r:b<64
  ·simp [r]
  ·have j:v.testBit b=false:=Nat.testBit_lt_two_pow (Nat.lt_of_lt_of_le i (Nat.pow_le_pow_right (n:=2) zd (show 64<=b by omega)));rw [l] at j;simp only [e,decide_false,Bool.false_or] at j;simp [j]
def Jn(w:World)(bx:Nat)(v:Nat):Prop:=w.heap[bx]?=some (.cells #[.int .u64 v] 361 (0,0))
theorem Jn.cell{w:World}{bx v:Nat}(h:Jn w bx v):w.cell? ⟨bx,0,none⟩=some (.int .u64 v):=cell_of_one h
theorem Jn.free{w:World}{bx v:Nat}(h:Jn w bx v):w.frozen? ⟨bx,0,none⟩=false:=free_of_one h
theorem Jn.store{w:World}{bx v:Nat}(u:Nat)(h:Jn w bx v):Jn (w.setCell ⟨bx,0,none⟩ (.int .u64 u)) bx u:=one_setCell h
def R3(w:World)(bx:Nat):Nat:=match w.cell? ⟨bx,0,none⟩ with | some (.int _ n)=>n.toNat | _=>0
theorem T2{w:World}{bx v:Nat}(h:Jn w bx v):R3 w bx=v:=by unfold R3;rw [h.cell];simp
theorem Q81(v:Nat)(a:v<18446744073709551616):v &&& (v - 1)<18446744073709551616:=by
 have:=Nat.and_le_left (n:=v) (m:=v - 1);omega
theorem Q69(v:Nat)(a:v≠0):(v &&& (v - 1))<v:=by
 have:=Nat.and_le_right (n:=v) (m:=v - 1);omega
theorem Rp(v:Nat)(a1:v<18446744073709551616)(bx:Nat)(Y:bx≠0)(w:World)(W:Jn w bx v)(S:Tab w) :
  T5 Tryz.prog 301 #[.pointer (some ⟨bx,0,none⟩)] (fun x:Nat=>#[.int .i64 x]) (evs v) (·=bx) (fun b=>b=bx\/b=0) w:=by
 intro b2 M a4 t F P a8 V O;have X:Jn t bx v:=F.heap W zy;have U:Tab t:=S.keep F zy;refine callsIn_wide.1 (callsIn_of_wp (n:=0) Tryz.func301 rfl trivial ?_ rfl);simp only [Tryz.ntmps301,zS,Nat.reduceAdd,Nat.reduceSub];gi_wp2
 gi_loopw [3] (fun _ wr=>∃(d:List Nat) (a:Nat),Jn wr bx a/\a<18446744073709551616/\evs v=d++evs a/\M d wr/\Tab wr)
  (fun _ wr=>R3 wr bx)
 case atStart=>exact⟨[],v,X,a1,rfl,O,U⟩
 case round=>
  obtain⟨d,a,e,j,c,m,o⟩:=hrel;have Z:=e.cell;have q:R3 wr bx=a:=T2 e;by_cases f:a=0
  ·subst f;rw [Sn,List.append_nil] at c;clear q;gi_wp2;go_end0
   exact⟨⟨_,rfl⟩,.inl (by rw [c];exact m)⟩
  ·have b0:((a:Int) != 0)=true:=by simp;omega
   have i:=Sf a f (by simpa using j);rw [i] at c;have a2:Lib.ctz 64 a<64:=(Nv.1 (by rw [i];simp:Lib.ctz 64 a∈evs a)).1;have a3:=Zh i;clear i;have H:=Zh q;clear q;have E:=Ec a j f;obtain⟨k,s⟩:=zE (Lib.ctz 64 a);rw [s] at E a2 c;have l:=Zh c;clear c;have r:=Q2l a j f wr o;rw [s] at r;have K:=Zh r;clear r s;have a9:=e.free;have b1:(k:Int)<64:=by omega
   have p:Q1 (·=bx) wr (wr.setCell ⟨bx,0,none⟩ (.int .u64 ((a &&& (a - 1):Nat):Int))).drew:=(Q1.set1 wr bx 0 _).drew;have y:=P _ _ _ m p;have B:Jn (wr.setCell ⟨bx,0,none⟩ (.int .u64 ((a &&& (a - 1):Nat):Int))).drew bx (a &&& (a - 1)):=Yc (Jn.store (w:=wr) _ e);have A:Tab (wr.setCell ⟨bx,0,none⟩ (.int .u64 ((a &&& (a - 1):Nat):Int))).drew:=o.keep p (Ne.symm Y);have J:=Zh A;have a0:=Q81 a j;obtain⟨a7,b3,a5,a6,g,z⟩:=V d _ _ _ l.out y
   gi_wp2_with (gi_at_call 152;refine(callsIn_wide.2 K.out).mono ?_;rintro N b4 ⟨rfl,rfl⟩)
   obtain⟨L,I,G⟩:=Zh3 g z B;clear g z p y A B;refine(wpIn_wide (n:=_)).2 ?_;refine Ds 4 kz kz ?_;simp only [List.take_succ_cons,List.take_zero,List.drop_succ_cons,List.drop_zero];repeat still_step
   refine wpStill_nil ?_;go_wp2;have g:=L.out;gi_wp2;refine I.out.mono ?_;rintro N u (⟨rfl,Q,D⟩ | ⟨rfl,R⟩)
   ·have C:Jn u bx (a &&& (a - 1)):=D.heap G.out zy;have T:Tab u:=J.out.keep D zy;clear g e Z o m E;gi_wp2
    go_roundw
    case rel=>exact⟨d++[k],a &&& (a - 1),C,a0,by rw [l.out];simp,Q,T⟩
    case measure=>rw [H.out,T2 C];exact Q69 a f
   ·clear g;gi_wp2;refine bodyPost_ret (results_none rfl _ _ _) rfl ?_;exact⟨⟨_,rfl⟩,.inr ⟨d,_,_,l.out,R⟩⟩
theorem Cq(v:Int)(w:World) :
  Calls Tryz.prog 293 #[.int .u64 v] w fun e w'=>e=.returned (.func (.func 301) #[] #[.pointer (some ⟨w.heap.size,0,none⟩)])/\w'=w.alloc (.cells #[.int .u64 v] 361):=by
 go_enter Tryz.func293,Tryz.ntmps293;go_wp2;go_ret;exact⟨rfl,rfl⟩
def Q9(M:Qk):Array Value:=((List.range 33).map fun a=>Value.int .u64 (Q4 M a)).toArray
theorem Qq(M:Qk):(Q9 M).size=33:=by simp [Q9]
theorem Ya(M:Qk):(Q9 M=#[])=False:=by
 apply eq_false;intro a;have:=Qq M;rw [a] at this;simp at this
theorem Q1b:Q9 noB=(Array.replicate 33 (Value.int .u64 0)):=by
 unfold Q9;have:(fun a=>Value.int .u64 ((Q4 noB a:Nat):Int))=fun _=>Value.int .u64 0:=by funext a;rw [Uj];rfl
 rw [this];rfl
theorem Yp(w:World):(zeroValue 363).run Tryz.prog w=.ok (.agg (Q9 noB)) w:=by
 rw [Q1b];kernel_rfl
def Q5(f:Nat->Nat):Array Value:=((List.range 33).map fun a=>Value.int .u64 (f a)).toArray
theorem Xy(M:Qk):Q9 M=Q5 (Q4 M):=rfl
theorem Ek(f:Nat->Nat)(a v:Nat):(Q5 f).setIfInBounds a (.int .u64 (v:Int))=Q5 fun i=>if i=a then v else f i:=by
 unfold Q5;rw [List.setIfInBounds_toArray]
 congr 1
 apply List.ext_getElem?;intro i;simp only [List.getElem?_set,List.getElem?_map,List.length_map,List.length_range];by_cases c:a=i
 ·subst c;by_cases b:a<33
  ·simp [b]
  ·simp [b]
 ·rw [if_neg c];by_cases b:i<33
  ·simp [b,Ne.symm c]
  ·simp [b]
theorem Zo{f g:Nat->Nat}(h:∀ a,a<33->f a=g a):Q5 f=Q5 g:=by
 unfold Q5;rw [List.map_congr_left fun a ha=>by rw [h a (List.mem_range.1 ha)]]
theorem Ed(f:Nat->Nat){a:Nat}(h:a<33):(Q5 f)[a]?=some (.int .u64 (f a)):=by simp [Q5,h]
theorem Qc(f:Nat->Nat):(Q5 f).size=33:=by simp [Q5]
def Qb(w:World)(b:Nat)(f:Nat->Nat):Prop:=w.heap[b]?=some (.cells (Q5 f) 363 (0,0))
theorem Qb.cell{w:World}{b:Nat}{f:Nat->Nat}(h:Qb w b f){a:Nat}(c:a<33):w.cell? ⟨b,a,none⟩=some (.int .u64 (f a)):=by
 rw [cell_of_row w b a _ _ _ h,Ed f c]
theorem Qb.free{w:World}{b:Nat}{f:Nat->Nat}(h:Qb w b f)(a:Nat):w.frozen? ⟨b,a,none⟩=false:=frozen_of_row w b a _ _ h
theorem Qb.keep{S:Nat->Prop}{A B:World}{b:Nat}{f:Nat->Nat}(h:Qb A b f)(ht:Q1 S A B)(hS:¬ S b):Qb B b f:=ht.heap h hS
theorem Qb.lt{w:World}{b:Nat}{f:Nat->Nat}(h:Qb w b f):b<w.heap.size:=(Array.getElem?_eq_some_iff.1 h).1
theorem Qb.store{w:World}{b:Nat}{f:Nat->Nat}(h:Qb w b f)(a v:Nat):Qb (w.setCell ⟨b,a,none⟩ (.int .u64 (v:Int))) b (fun i=>if i=a then v else f i):=by
 unfold Qb;rw [heap_setCell_same w b a _ _ _ h,Ek]
theorem Qb.row{w:World}{b:Nat}{f g:Nat->Nat}(h:Qb w b f):Qb (w.setRow b (Q5 g)) b g:=setRow_heap w b _ _ _ _ h
theorem Q1.setRow(A:World)(b:Nat)(cs:Array Value):Q1 (·=b) A (A.setRow b cs):=
 ⟨rfl,rfl,rfl,by simp,fun i _ hi=>by
  show (A.heap.modify b _)[i]?=_;rw [Array.getElem?_modify,if_neg (fun e=>hi e.symm)]⟩
theorem Tryz.relInfo (f:Nat->Nat):(Tryz.prog.info? 363).map (·.size)=some (Q5 f).size:=by
 rw [Qc];kernel_rfl
theorem Qo(f:Nat->Nat):(Q5 f).all (·.oneCell')=true:=by
 rw [Array.all_eq_true'];intro b a;simp only [Q5,List.mem_toArray,List.mem_map] at a;obtain⟨_,_,rfl⟩:=a;rfl
theorem Nl{k:Nat}(c:k<64):IntKind.u64.wrap (2 ^ k)=((2 ^ k:Nat):Int):=by
 have d:2 ^ k<18446744073709551616:=by
  have:=Nat.pow_lt_pow_right (a:=2) zd c
  simpa using this
 rw [IntKind.wrap_u64];have b:((2:Int) ^ k)=((2 ^ k:Nat):Int):=by simp
 rw [b];generalize 2 ^ k=e at d;omega
theorem Yy{fn:Func}{p:Tmp}(h:fn.results=#[.cell p 363]){tmps:Array Value}{w:World}{g:Nat}{f:Nat->Nat}(hp:tmps.getD p undef=.pointer (some ⟨g,0,none⟩)) (hg:Qb w g f) :
  (results fn tmps).run Tryz.prog w=.ok (.agg (Q5 f)) w:=
 results_cell_row h tmps w g _ _ _ _ hp hg Tryz.underlying363 rfl (Tryz.relInfo f)
theorem Hi(n:Nat)(C:n<=32)(w:World) :
  Calls Tryz.prog 335 #[.int .i64 n] w fun e w'=>e=.returned (.agg (Q5 (Q4 (idB n))))/\Ext w w':=by
 have E:=Yp;have F:=Qq noB;have G:=Ya noB;go_enter Tryz.func335,Tryz.ntmps335;go_wp2;clear E F G;obtain⟨b,m⟩:=zE w.heap.size;have f:Qb ((w.alloc (.cells (Q9 noB) 363)).alloc (.cells (Q9 noB) 363)) b (fun _=>0):=by
  subst m;refine Q6 (Q3 rfl) |>.trans ?_;rw [Xy,Zo fun a _=>Uj a]
 have d:Qb ((w.alloc (.cells (Q9 noB) 363)).alloc (.cells (Q9 noB) 363)) (b+1) (fun a=>if a<0 then 2 ^ a else 0):=by
  subst m;refine(Q3 zy).trans ?_;rw [Xy,Zo (g:=fun a=>if a<0 then 2 ^ a else 0) fun a _=>by rw [Uj];simp]
 have j:Ext w ((w.alloc (.cells (Q9 noB) 363)).alloc (.cells (Q9 noB) 363)):=((Q1.refl _ w).alloc _).alloc _;generalize ((w.alloc (.cells (Q9 noB) 363)).alloc (.cells (Q9 noB) 363))=P at f d j ⊢;rw [m];have r:=Zh m;clear m
 refine wp_loop (fun a c=>∃(k:Nat),k<=n+1/\a.defers=[]/\gS a [2,3,6,7]=(16,[.pointer (some ⟨b,0,none⟩),.pointer (some ⟨b+1,0,none⟩),.int .i64 ((n:Int)+1),.int .i64 k])/\Qb c b (fun _=>0)/\Qb c (b+1) (fun a=>if a<k then 2 ^ a else 0)/\Ext w c)
  (fun a _=>n+1 - (intOf (a.tmps.getD 7 undef)).toNat) ?_ ?_
 ·exact⟨0,by omega,rfl,rfl,f,d,j⟩
 clear f d j;rintro⟨N,_⟩ c ⟨k,K,B,x,f,d,j⟩;subst B;obtain⟨O,rfl⟩:=Y6 x;clear x;by_cases L:k<n+1
 ·have p:(k:Int)<(n:Int)+1:=by omega
  have s:(k:Int)<33:=by omega
  have J:(k:Int)<64:=by omega
  have H:=d.cell (a:=k) oz;have I:=d.free k;have M:=Nl (k:=k) oz;have q:=d.store k (2 ^ k);have t:(fun i=>if i=k then 2 ^ k else if i<k then 2 ^ i else 0)=fun a=>if a<k+1 then 2 ^ a else 0:=by
   funext i
   by_cases e:i=k
   ·subst e;simp
   ·rw [if_neg e];by_cases l:i<k
    ·rw [if_pos l,if_pos oz]
    ·rw [if_neg l,if_neg oz]
  rw [t] at q;have u:=f.keep (Q1.set1 c (b+1) k (.int .u64 ((2 ^ k:Nat):Int))) oz;have o:Ext w (c.setCell ⟨b+1,k,none⟩ (.int .u64 ((2 ^ k:Nat):Int))):=j.after (Q1.set1 c (b+1) k _) (fun b' p s=>by have:=r.out;omega);obtain⟨A,z,y⟩:=Zh3 q u o;clear t q u o f d j;go_wp2;exact⟨⟨k+1,by omega,tz,rfl,z.out,A.out,y.out⟩,nz⟩
 ·obtain rfl:k=n+1:=by omega
  have p:¬ (((n+1:Nat):Int)<(n:Int)+1):=by omega
  have D:=Qb.row (g:=fun a=>if a<n+1 then 2 ^ a else 0) f;have o:Ext w (c.setRow b (Q5 fun a=>if a<n+1 then 2 ^ a else 0)):=j.after (Q1.setRow c b _) (fun b' p s=>by have:=r.out;omega)
  go_wp2_with (first
   | (refine wpList_load_row rfl 363 (.tmp 3) rfl (b+1) rfl _ _ _ _ d Tryz.underlying363 rfl (Tryz.relInfo _) ?_)
   | (refine wpList_store_row rfl 363 (.tmp 2) (.tmp 15) rfl b (Q5 fun a=>if a<n+1 then 2 ^ a else 0) rfl rfl _ _ f (Tryz.relInfo _) (by rw [Qc,Qc]) (Qo _) ?_))
  refine bodyPost_ret (v:=.agg (Q5 fun a=>if a<n+1 then 2 ^ a else 0)) (Yy rfl rfl D) rfl ⟨?_,o⟩;rw [Zo (g:=Q4 (idB n)) fun a _=>?_];by_cases l:a<n+1
  ·rw [if_pos l,Q6j C oz]
  ·rw [if_neg l,Q53 (Qz.id n) oz]
def Vh(X Y:Qk)(k:Nat):Nat->Nat:=fun a=>if a<k then Q4 (comp X Y) a else 0
def Vq(X Y:Qk)(k:Nat)(pre:List Nat):Nat->Nat:=fun a=>if a=k then X1 Y pre else Vh X Y k a
theorem Q2y(X Y:Qk)(k:Nat):Vq X Y k []=Vh X Y k:=by
 funext a;unfold Vq Vh
 by_cases b:a=k
 ·subst b;simp [Q1f]
 ·rw [if_neg b]
theorem Q21(X Y:Qk)(k:Nat):Vq X Y k (evs (Q4 X k))=Vh X Y (k+1):=by
 funext a;unfold Vq Vh
 by_cases b:a=k
 ·subst b;rw [if_pos rfl,if_pos oz,M1,Q0s]
 ·rw [if_neg b];by_cases c:a<k
  ·rw [if_pos c,if_pos oz]
  ·rw [if_neg c,if_neg oz]
theorem Cy(X Y:Qk)(k:Nat)(d:List Nat)(b:Nat):(fun i=>if i=k then X1 Y d ||| Q4 Y b else Vq X Y k d i)=Vq X Y k (d++[b]):=by
 funext a;unfold Vq
 by_cases c:a=k
 ·subst c;rw [if_pos rfl,if_pos rfl,En]
 ·rw [if_neg c,if_neg c,if_neg c]
theorem Ka(X:Qk)(a:Nat):Q4 X a<8589934592:=by
 have:=Vf 33 (X a);simpa [Q4] using this
theorem Q3z(Y:Qk)(a:List Nat):X1 Y a<8589934592:=by
 have:=Vf 33 (fun c=>a.any fun b=>Y b c);simpa [X1] using this
theorem Q7a{w:World}(h:Tab w):0<w.heap.size:=by
 have b:=h 0 zd;unfold World.cell? at b;rcases Nat.lt_or_ge 0 w.heap.size with a | a
 ·exact a
 ·simp [Array.getElem?_eq_none a] at b
theorem Kk{w:World}{bx n:Nat}{X Y:Qk}(b0:Qb w bx (Q4 X)) (U:Qb w n (Q4 Y)) (a3:Tab w) :
  Calls Tryz.prog 336 #[.pointer (some ⟨bx,0,none⟩),.pointer (some ⟨n,0,none⟩)] w fun e w'=>e=.returned (.agg (Q5 (Q4 (comp X Y))))/\Ext w w':=by
 have c8:=Yp;have c9:=Qq noB;have d0:=Ya noB;have e1:0<w.heap.size:=Q7a a3;refine Qv Tryz.func336 rfl ?_;simp only [Tryz.ntmps336,zS,Nat.reduceAdd,Nat.reduceSub];go_wp2;clear c8 c9 d0;obtain⟨d,B⟩:=zE w.heap.size;have u:(((w.alloc (.cells #[.pointer (some ⟨n,0,none⟩)] 406)).alloc (.cells (Q9 noB) 363)).alloc (.cells (Q9 noB) 363)).heap[d]?=some (.cells #[.pointer (some ⟨n,0,none⟩)] 406 (0,0)):=by
  subst B;exact Q6 (Q6 (Q3 rfl))
 have s:Qb (((w.alloc (.cells #[.pointer (some ⟨n,0,none⟩)] 406)).alloc (.cells (Q9 noB) 363)).alloc (.cells (Q9 noB) 363)) (d+1) (fun _=>0):=by
  subst B;refine(Q6 (Q3 zy)).trans ?_;rw [Xy,Zo fun a _=>Uj a]
 have r:Qb (((w.alloc (.cells #[.pointer (some ⟨n,0,none⟩)] 406)).alloc (.cells (Q9 noB) 363)).alloc (.cells (Q9 noB) 363)) (d+1+1) (Vh X Y 0):=by
  subst B;refine(Q3 zy).trans ?_;rw [Xy,Zo (g:=Vh X Y 0) fun a _=>by rw [Uj];simp [Vh]]
 have p:Ext w (((w.alloc (.cells #[.pointer (some ⟨n,0,none⟩)] 406)).alloc (.cells (Q9 noB) 363)).alloc (.cells (Q9 noB) 363)):=(((Q1.refl _ w).alloc _).alloc _).alloc _;generalize (((w.alloc (.cells #[.pointer (some ⟨n,0,none⟩)] 406)).alloc (.cells (Q9 noB) 363)).alloc (.cells (Q9 noB) 363))=f1 at u s r p ⊢;have c6:=b0.lt;have c7:=U.lt;rw [B] at c6 c7 ⊢;have G:=Zh B;have c0:=a3;clear B
 refine wp_loop (fun a f=>∃(c:Nat) (z:List Deferred),c<=33/\a.defers=z/\gS a [0,3,4,5,9,10]=(31,[.pointer (some ⟨bx,0,none⟩),.pointer (some ⟨d,0,none⟩),.pointer (some ⟨d+1,0,none⟩),.pointer (some ⟨d+1+1,0,none⟩),.pointer (some ⟨bx,0,none⟩),.int .i64 c])/\Qs d z f /\
   f.heap[d]?=some (.cells #[.pointer (some ⟨n,0,none⟩)] 406 (0,0))/\Qb f (d+1) (fun _=>0)/\Qb f (d+1+1) (Vh X Y c)/\Ext w f)
  (fun a _=>33 - (intOf (a.tmps.getD 10 undef)).toNat) ?_ ?_
 ·exact⟨0,[],by omega,rfl,rfl,trivial,u,s,r,p⟩
 clear u s r p;rintro⟨b3,z⟩ f ⟨c,d8,e3,c2,Q,J,u,s,r,p⟩;subst c2;obtain⟨f0,rfl⟩:=Y6 Q;clear Q;have T:=b0.keep p id;have b2:=U.keep p id;have c1:=c0.keep p id;have e6:=r.lt;by_cases a8:c<33
 ·have M:(c:Int)<33:=by omega
  have Z:=T.cell a8;have W:Hid (∀ D,Ext f D->D.cell? ⟨bx,c,none⟩=some (.int .u64 (Q4 X c))):=Zh fun D N=>N.cell_some Z id;have e4:=Ka X c;have O:=J.lt;go_wp2
  go_region_held3 (fun w'=>w'.cell? ⟨bx,c,none⟩=some (.int .u64 (Q4 X c)))
   ((refine W.out _ ?_;repeat' (first | exact Q1.refl _ _ | refine Q1.drew ?_ | refine Q1.alloc ?_ _ | refine Q1.setCell ?_ (.inl zy) _))) (first | fail)
  go_wp2_with (go_at_call 293;refine(Cq _ _).mono ?_;rintro e w' ⟨rfl,rfl⟩)
  have a5:Jn (((f.alloc (.cells #[.int .i64 c] 3)).alloc (.cells #[.int .u64 (Q4 X c)] 361)).drew) (f.heap.size+1) (Q4 X c):=Yc (Q3 zy);have H:Ext f (((f.alloc (.cells #[.int .i64 c] 3)).alloc (.cells #[.int .u64 (Q4 X c)] 361)).drew):=(((Q1.refl _ _).alloc _).alloc _).drew;have a7:(((f.alloc (.cells #[.int .i64 c] 3)).alloc (.cells #[.int .u64 (Q4 X c)] 361)).drew).heap[f.heap.size]?=some (.cells #[.int .i64 c] 3 (0,0)):=Yc (Q6 (Q3 rfl));have c4:(((f.alloc (.cells #[.int .i64 c] 3)).alloc (.cells #[.int .u64 (Q4 X c)] 361)).drew).heap.size=f.heap.size+2:=by simp
  generalize (((f.alloc (.cells #[.int .i64 c] 3)).alloc (.cells #[.int .u64 (Q4 X c)] 361)).drew)=L at a5 H a7 c4 ⊢;rw [<-Q2y] at r;clear W Z
  refine Wr (xs:=evs (Q4 X c)) (S:=(·=f.heap.size+1)) (K:=fun b'=>b'=f.heap.size+1\/b'=0) rfl (enters_of Tryz.func301 kz rfl)
   (Rp _ oz (f.heap.size+1) oz L a5 (c1.keep H id)) (fun _ m=>.inl m) (fun b' m=>by omega) (fun _=>rfl)
   (fun k i=>Qb i (d+1+1) (Vq X Y c k)/\i.heap[d]?=some (.cells #[.pointer (some ⟨n,0,none⟩)] 406 (0,0))/\Qb i (d+1) (fun _=>0)/\i.heap[f.heap.size]?=some (.cells #[.int .i64 c] 3 (0,0))/\Ext w i/\Qs d z i)
   (fun _ _ _=>False) ?hI ?hIx ?h0 (fun j b3=>(b3.setIfInBounds 18 (.int .i64 j)).setIfInBounds 8 (.int .i64 j)) ?assign ?body ?done ?stop
  case hI=>
   rintro k d3 d4 ⟨t,x,C,E,y,F⟩ l;exact⟨t.keep l oz,l.heap x oz,C.keep l oz,l.heap E oz,y.after l (fun b' M h2=>by have:=G.out;omega),F.keepC O l (fun b' m=>.inl oz)⟩
  case hIx=>exact fun _ _ _ _ m _=>m
  case h0=>
   intro i a4 _;have I:Ext f i:=H.trans a4;exact⟨r.keep I id,I.heap u id,s.keep I id,a4.heap a7 id,p.trans I,J.keepC O I (fun _ m=>m.elim)⟩
  case assign=>
   intro j i K b9;gi_wp2;exact b9
  case body=>
   rintro k j e9 i R Q l ⟨t,x,C,E,y,F⟩;simp only [pq];have c3:j<33:=by
    have:j∈evs (Q4 X c):=by rw [R];simp
    rw [M1] at this;exact List.mem_range.1 (List.mem_filter.1 this).1
   have e2:(j:Int)<33:=by omega
   have b1:=U.keep y id;have d5:=cell_of_one E;have d6:=cell_of_one x;have b8:=t.cell (a:=c) a8;have d9:=t.free c;have d7:=b1.cell c3;have A:Vq X Y c k c=X1 Y k:=by unfold Vq;rw [if_pos rfl]
   rw [A] at b8;have e5:=Q3z Y k;have e7:=Ka Y j;have e8:=u64_or_nat (X1 Y k) (Q4 Y j) oz oz;have P:=t.store c (X1 Y k ||| Q4 Y j);rw [Cy] at P;have q:=Q1.set1 i (d+1+1) c (.int .u64 ((X1 Y k ||| Q4 Y j:Nat):Int))
   have a6:Q1 (fun b'=>¬ ((b'=f.heap.size+1\/b'=0)\/b'=L.heap.size\/b'=L.heap.size+1)) i ((i.setCell ⟨d+1+1,c,none⟩ (.int .u64 ((X1 Y k ||| Q4 Y j:Nat):Int))).drew):=
    (q.mono (fun b' _ e=>by have:=G.out;omega)).drew
   have a1:Qb ((i.setCell ⟨d+1+1,c,none⟩ (.int .u64 ((X1 Y k ||| Q4 Y j:Nat):Int))).drew) (d+1+1) (Vq X Y c (k++[j]))/\((i.setCell ⟨d+1+1,c,none⟩ (.int .u64 ((X1 Y k ||| Q4 Y j:Nat):Int))).drew).heap[d]?=some (.cells #[.pointer (some ⟨n,0,none⟩)] 406 (0,0))/\Qb ((i.setCell ⟨d+1+1,c,none⟩ (.int .u64 ((X1 Y k ||| Q4 Y j:Nat):Int))).drew) (d+1) (fun _=>0)/\((i.setCell ⟨d+1+1,c,none⟩ (.int .u64 ((X1 Y k ||| Q4 Y j:Nat):Int))).drew).heap[f.heap.size]?=some (.cells #[.int .i64 c] 3 (0,0))/\Ext w ((i.setCell ⟨d+1+1,c,none⟩ (.int .u64 ((X1 Y k ||| Q4 Y j:Nat):Int))).drew)/\Qs d z ((i.setCell ⟨d+1+1,c,none⟩ (.int .u64 ((X1 Y k ||| Q4 Y j:Nat):Int))).drew):=
    ⟨P,q.drew.heap x oz,C.keep q.drew oz,q.drew.heap E oz,y.after q.drew (fun b' M h2=>by have:=G.out;omega),F.keepC O q.drew (fun b' m=>.inr (.inr ⟨_,by subst m;exact t,rfl⟩))⟩
   obtain⟨b5,b6,d2,d1⟩:=Zh4 a6 a1 R A;clear a6 a1 R A P q t x C E y F b1 H p J r s u T b2 l;gi_wp2;refine Xz 9 kz kz kz (by rintro⟨_,_,m⟩;exact m) ?_;simp only [List.take_succ_cons,List.take_zero,List.drop_succ_cons,List.drop_zero];repeat still_step
   refine wpStill_nil ?_;go_wp2;exact⟨b5.out,b6.out⟩
  case done=>
   rintro i ⟨t,x,C,E,y,F⟩ l N;rw [Q21] at t;have e0:L.heap.size<i.heap.size:=(Array.getElem?_eq_some_iff.1 N).1;clear H p J r s u T b2;go_wp2;exact⟨⟨c+1,_,by omega,rfl,rfl,Qs.cons F oz N (fun e he l=>by have:=O e he _ l;omega),x,C,t,y⟩,nz⟩
  case stop=>exact fun _ _ _ _ _ _ m=>m.elim
 ·obtain rfl:c=33:=by omega
  have M:¬ (((33:Nat):Int)<33):=by omega
  have A:Q5 (Vh X Y 33)=Q5 (Q4 (comp X Y)):=Zo fun a ha=>by unfold Vh;rw [if_pos ha]
  have a9:=Qb.row (g:=Q4 (comp X Y)) s;have q:=Q1.setRow f (d+1) (Q5 (Q4 (comp X Y)));have a0:Ext w (f.setRow (d+1) (Q5 (Q4 (comp X Y)))):=p.after q (fun b' M h2=>by have:=G.out;omega)
  have a2:Qs d z (f.setRow (d+1) (Q5 (Q4 (comp X Y)))):=J.keep q (fun b hb o ho=>by
   subst hb;have:f.heap[d+1]?=_:=s;rw [this] at ho;cases ho;rfl)
  have c5:Qb f (d+1+1) (Q4 (comp X Y)):=by unfold Qb;rw [<-A];exact r
  obtain⟨b7,b4,V⟩:=Zh3 a2 a0 a9;clear a2 a0 a9 q A r
  go_wp2_with (first
   | (refine wpList_load_row rfl 363 (.tmp 5) rfl (d+1+1) rfl _ _ _ _ c5 Tryz.underlying363 rfl (Tryz.relInfo _) ?_)
   | (refine wpList_store_row rfl 363 (.tmp 4) (.tmp 30) rfl (d+1) (Q5 (Q4 (comp X Y))) rfl rfl _ _ s (Tryz.relInfo _) (by rw [Qc,Qc]) (Qo _) ?_))
  refine Zr (v:=.agg (Q5 (Q4 (comp X Y)))) _ _ b7.out (fun w' l hs=>⟨Yy rfl rfl (V.out.keep l (Shut.not V.out rfl)),rfl,b4.out.after l (fun b' h2 h3=>by have:=h3.1;have:=G.out;omega)⟩)
def orF(X Y:Qk)(k:Nat):Nat->Nat:=fun a=>if a<k then Q4 (orB X Y) a else Q4 X a
theorem Q4j(X Y:Qk)(k:Nat):(fun i=>if i=k then Q4 X k ||| Q4 Y k else orF X Y k i)=orF X Y (k+1):=by
 funext a;unfold orF
 by_cases b:a=k
 ·subst b;rw [if_pos rfl,if_pos oz,Q6r]
 ·rw [if_neg b];by_cases c:a<k
  ·rw [if_pos c,if_pos oz]
  ·rw [if_neg c,if_neg oz]
theorem Q1l{w:World}{bx g:Nat}{X Y:Qk}(B:Qb w bx (Q4 X)) (C:Qb w g (Q4 Y)) (A:bx≠g) :
  Calls Tryz.prog 333 #[.pointer (some ⟨bx,0,none⟩),.pointer (some ⟨g,0,none⟩)] w fun e w'=>(∃ v,e=.returned v)/\Q1 (·=bx) w w'/\Qb w' bx (Q4 (orB X Y)):=by
 go_enter Tryz.func333,Tryz.ntmps333;go_wp2;have q:Qb w bx (orF X Y 0):=by
  have:orF X Y 0=Q4 X:=by funext a;simp [orF]
  rw [this];exact B
 refine wp_loop (fun a d=>∃(b:Nat),b<=33/\a.defers=[]/\gS a [0,6,7]=(23,[.pointer (some ⟨bx,0,none⟩),.pointer (some ⟨g,0,none⟩),.int .i64 b])/\Qb d bx (orF X Y b)/\Q1 (·=bx) w d)
  (fun a _=>33 - (intOf (a.tmps.getD 7 undef)).toNat) ?_ ?_
 ·exact⟨0,by omega,rfl,rfl,q,Q1.refl _ _⟩
 clear q;rintro⟨K,_⟩ d ⟨b,G,z,n,c,i⟩;subst z;obtain⟨L,rfl⟩:=Y6 n;clear n;have r:=C.keep i (fun h=>A h.symm);by_cases l:b<33
 ·have y:(b:Int)<33:=by omega
  have E:=r.cell l;have x:=c.cell l;have F:=c.free b;have f:orF X Y b b=Q4 X b:=by unfold orF;rw [if_neg oz]
  rw [f] at x;have H:=Ka X b;have I:=Ka Y b;have J:=u64_or_nat (Q4 X b) (Q4 Y b) oz oz;have j:=c.store b (Q4 X b ||| Q4 Y b);rw [Q4j] at j;have k:∀ m,Q1 (·=bx) w ((d.drewN m).setCell ⟨bx,b,none⟩ (.int .u64 ((Q4 X b ||| Q4 Y b:Nat):Int))):=fun m=>(i.drewN m).setCell (p:=⟨bx,b,none⟩) (.inr rfl) _;obtain⟨s,t,D⟩:=Zh3 j k f;clear j k f c i r;go_wp2
  go_quiet (fail)
  go_wp2;refine Ds 9 kz kz ?_;simp only [List.take_succ_cons,List.take_zero,List.drop_succ_cons,List.drop_zero];repeat still_step
  refine wpStill_nil ?_;go_wp2;exact⟨⟨b+1,by omega,tz,rfl,s.out,t.out _⟩,nz⟩
 ·obtain rfl:b=33:=by omega
  have y:¬ (((33:Nat):Int)<33):=by omega
  have o:Qb d bx (Q4 (orB X Y)):=by
   have f:Q5 (orF X Y 33)=Q5 (Q4 (orB X Y)):=Zo fun a ha=>by unfold orF;rw [if_pos ha]
   unfold Qb;rw [<-f];exact c
  have u:=Zh o;clear c o;go_wp2;go_end0
  exact⟨⟨_,rfl⟩,i,u.out⟩
theorem Q4k(k:Nat)(c:k<9223372036854775808):(bits .and .i64 (k:Int) 1 == 1)=decide (k % 2=1):=by
 have b:bits .and .i64 (k:Int) 1=((k % 2:Nat):Int):=by
  show IntKind.i64.wrap ((BitVec.ofInt 64 (k:Int) &&& BitVec.ofInt 64 ((1:Nat):Int)).toNat:Int)=_;rw [BitVec.toNat_and,ofInt_u64 _ oz,ofInt_u64 1 oz,Nat.and_one_is_mod];exact IntWalk.i64_in _ oz
 rw [b];rcases Nat.mod_two_eq_zero_or_one k with a | a <;> simp [a]
theorem Pg{n:Nat}(I:n<=32){X:Qk}(a5:Qz n X)(k:Nat)(b6:k<=64)(w:World)(M:Tab w) :
  Calls Tryz.prog 329 #[.agg (Q5 (Q4 X)),.int .i64 k,.int .i64 n] w fun e w'=>e=.returned (.agg (Q5 (Q4 (Z8 X n k))))/\Ext w w':=by
 have c1:=Yp;have c2:=Qq noB;have c3:=Ya noB;have c4:=Qc (Q4 X);go_enter Tryz.func329,Tryz.ntmps329;go_wp2_with fail;clear c4;obtain⟨d,D⟩:=zE w.heap.size;have a1:Qb ((w.alloc (.cells (Q5 (Q4 X)) 363)).alloc (.cells (Q9 noB) 363)) d (Q4 X):=by
  subst D;exact Q6 (Q3 rfl)
 have t:Qb ((w.alloc (.cells (Q5 (Q4 X)) 363)).alloc (.cells (Q9 noB) 363)) (d+1) (fun _=>0):=by
  subst D;refine(Q3 zy).trans ?_;rw [Xy,Zo fun a _=>Uj a]
 have r:Ext w ((w.alloc (.cells (Q5 (Q4 X)) 363)).alloc (.cells (Q9 noB) 363)):=((Q1.refl _ w).alloc _).alloc _;generalize ((w.alloc (.cells (Q5 (Q4 X)) 363)).alloc (.cells (Q9 noB) 363))=c0 at a1 t r ⊢;rw [D];have P:=Zh D;clear D;refine(Hi n I c0).mono ?_;rintro e j ⟨rfl,l⟩;have a9:=a1.keep l id;have a0:=t.keep l id;have a4:=r.trans l;have T:(j.alloc (.cells (Q9 noB) 363)).heap[j.heap.size]?=some (.cells (Q9 noB) 363 (0,0)):=Q3 rfl
 go_wp2_with (refine wpList_store_row rfl 363 (.tmp 7) (.tmp 9) rfl j.heap.size (Q5 (Q4 (idB n))) rfl rfl _ _ T (Tryz.relInfo _) (by rw [Qq,Qc]) (Qo _) ?_)
 obtain⟨q,x⟩:=zE j.heap.size;have L:Qb ((j.alloc (.cells (Q9 noB) 363)).setRow j.heap.size (Q5 (Q4 (idB n)))) j.heap.size (Q4 (idB n)):=setRow_heap _ _ _ _ _ _ T;have s:Ext j ((j.alloc (.cells (Q9 noB) 363)).setRow j.heap.size (Q5 (Q4 (idB n)))):=((Q1.refl _ j).alloc _).after (Q1.setRow _ _ _) (fun b' o h2=>by omega);have b7:=a0.lt;generalize ((j.alloc (.cells (Q9 noB) 363)).setRow j.heap.size (Q5 (Q4 (idB n))))=d2 at L s ⊢;rw [x] at L b7 ⊢;have b0:=a9.keep s id;have B:=a0.keep s id;have S:=a4.trans s;have W:=M.keep S id;have c6:0<d:=by
  have:=M 0 zd;rw [<-P.out];apply Nat.lt_of_not_le;intro b2;simp [World.cell?,Array.getElem?_eq_none b2] at this
 clear a1 t r l a9 a0 a4 T s x c1 c2 c3
 refine wp_loop (fun a u=>∃(f:Nat) (c m:Qk),f<=64/\a.defers=[]/\gS a [1,3,6,7]=(20,[.int .i64 f,.pointer (some ⟨d,0,none⟩),.pointer (some ⟨d+1,0,none⟩),.pointer (some ⟨q,0,none⟩)]) /\
   (Qz n c/\Qz n m/\comp m (Z8 c n f)=Z8 X n k)/\Qb u d (Q4 c)/\Qb u (d+1) (fun _=>0)/\Qb u q (Q4 m)/\Ext w u)
  (fun a _=>(intOf (a.tmps.getD 1 undef)).toNat) ?_ ?_
 ·exact⟨k,X,idB n,b6,rfl,rfl,⟨a5,Qz.id n,Q73 I (Qz.pow a5 k)⟩,b0,B,L,S⟩
 clear b0 B L S W;rintro⟨d0,_⟩ u ⟨f,c,m,c7,b4,a7,b8,y,t,x,r⟩;subst b4;obtain⟨d1,rfl⟩:=Y6 a7;clear a7;obtain⟨A,Z,N⟩:=b8;have Y:=M.keep r id;have b3:Q1 (fun b=>b=d\/b=q) u u:=Q1.refl _ _;have a8:w.heap.size<=q/\w.heap.size<=d:=by have:=P.out;omega
 have R:=Zh a8;clear a8;by_cases b5:f=0
 ·subst b5;rw [show Z8 c n 0=idB n from rfl,Q62 I Z] at N;subst N;have b9:=Qb.row (g:=Q4 (Z8 X n k)) t;have l:Ext w (u.setRow (d+1) (Q5 (Q4 (Z8 X n k)))):=r.after (Q1.setRow u (d+1) _) (fun b' o h2=>by have:=P.out;omega)
  go_wp2_with (first
   | (refine wpList_load_row rfl 363 (.tmp 7) rfl q rfl _ _ _ _ x Tryz.underlying363 rfl (Tryz.relInfo _) ?_)
   | (refine wpList_store_row rfl 363 (.tmp 6) (.tmp 19) rfl (d+1) (Q5 (Q4 (Z8 X n k))) rfl rfl _ _ t (Tryz.relInfo _) (by rw [Qc,Qc]) (Qo _) ?_))
  exact bodyPost_ret (v:=.agg (Q5 (Q4 (Z8 X n k)))) (Yy rfl rfl b9) rfl ⟨rfl,l⟩
 ·have c8:(0:Int)<(f:Int):=by omega
  have c9:(f:Int)<=64:=by omega
  have a6:=Q4k f oz;have a2:=Zh N;clear N;by_cases o:f % 2=1
  ·rw [decide_eq_true o] at a6;have O:=Zh o;clear o;go_wp2_with fail;refine(Kk x y Y).mono ?_;rintro e a3 ⟨rfl,l⟩;have U:=x.keep l id
   go_wp2_with (refine wpList_store_row rfl 363 (.tmp 7) (.tmp 17) rfl q (Q5 (Q4 (comp m c))) rfl rfl _ _ U (Tryz.relInfo _) (by rw [Qc,Qc]) (Qo _) ?_)
   have i:=Q1.setRow a3 q (Q5 (Q4 (comp m c)));have V:=Qb.row (g:=Q4 (comp m c)) U;have G:=(y.keep l id).keep i oz;have B:=(t.keep l id).keep i oz;have s:=(r.trans l).after i (fun b' o h2=>by have:=R.out.1;omega);generalize (a3.setRow q (Q5 (Q4 (comp m c))))=c5 at V G B s ⊢;have W:=M.keep s id;clear i U l x y t r Y b3;go_wp2_with fail;refine(Kk G G W).mono ?_;rintro e C ⟨rfl,p⟩;have z:=G.keep p id
   go_wp2_with (refine wpList_store_row rfl 363 (.tmp 3) (.tmp 18) rfl d (Q5 (Q4 (comp c c))) rfl rfl _ _ z (Tryz.relInfo _) (by rw [Qc,Qc]) (Qo _) ?_)
   have i:=Q1.setRow C d (Q5 (Q4 (comp c c)));have H:=Qb.row (g:=Q4 (comp c c)) z;have F:=(V.keep p id).keep i oz;have K:=(B.keep p id).keep i oz;have E:=(s.trans p).after i (fun b' o h2=>by have:=R.out.2;omega);generalize (C.setRow d (Q5 (Q4 (comp c c))))=b1 at H F K E ⊢;clear i z p G B s V;have J:comp (comp m c) (Z8 (comp c c) n (f / 2))=Z8 X n k:=by
    rw [Na I A,Mt,<-a2.out]
    congr 1
    have:f=2*(f / 2)+1:=by have:=O.out;omega
    rw [show Z8 c n f=Z8 c n (2*(f / 2)+1) from congrArg _ this];rfl
   have Q:=Zh J;clear J;go_wp2;exact⟨⟨f / 2,comp c c,comp m c,by omega,tz,rfl,⟨A.comp A,Z.comp A,Q.out⟩,H,K,F,E⟩,nz⟩
  ·rw [decide_eq_false o] at a6;have O:=Zh o;clear o;go_wp2_with fail;refine(Kk y y Y).mono ?_;rintro e C ⟨rfl,p⟩;have z:=y.keep p id
   go_wp2_with (refine wpList_store_row rfl 363 (.tmp 3) (.tmp 18) rfl d (Q5 (Q4 (comp c c))) rfl rfl _ _ z (Tryz.relInfo _) (by rw [Qc,Qc]) (Qo _) ?_)
   have i:=Q1.setRow C d (Q5 (Q4 (comp c c)));have H:=Qb.row (g:=Q4 (comp c c)) z;have F:=(x.keep p id).keep i oz;have K:=(t.keep p id).keep i oz;have E:=(r.trans p).after i (fun b' o h2=>by have:=R.out.2;omega);generalize (C.setRow d (Q5 (Q4 (comp c c))))=b1 at H F K E ⊢;clear i z p y t r x;have J:comp m (Z8 (comp c c) n (f / 2))=Z8 X n k:=by
    rw [Na I A,<-a2.out]
    congr 2
    have:=O.out;omega
   have Q:=Zh J;clear J;go_wp2;exact⟨⟨f / 2,comp c c,m,by omega,tz,rfl,⟨A.comp A,Z,Q.out⟩,H,K,F,E⟩,nz⟩
end Go.Proofs.YtfdlhlghcbeblaaGreatDoor
namespace Go.Ab
inductive Za where
 | sound (pl mi:Nat) (nt:Bool)
 | edge (e:Bool)
 | seq (l:List Za)
 | alt (l:List Za)
 | rep (of:Za) (mn mx:Int)
mutual
def Yi(w:Wd):Za->Qk
 | .sound pl mi nt=>Yo w (pl,mi) nt
 | .edge e=>X6 (if e then w.length else 0)
 | .seq l=>Ul w l (idB w.length)
 | .alt l=>J5 w l noB
 | .rep p mn mx=>Nc (Yi w p) w.length mn.toNat (Hw w.length mn mx)
def Ul(w:Wd):List Za->Qk->Qk
 | [],X=>X
 | p::l,X=>Ul w l (comp X (Yi w p))
def J5(w:Wd):List Za->Qk->Qk
 | [],X=>X
 | p::l,X=>J5 w l (orB X (Yi w p))
end
theorem Nx(w:Wd)(p:Za):∀(l:List Za) (X:Qk),Ul w (l++[p]) X=comp (Ul w l X) (Yi w p)
 | [],X=>by simp [Ul]
 | q::l,X=>by rw [List.cons_append];unfold Ul;exact Nx w p l _
theorem Ph(w:Wd)(p:Za):∀(l:List Za) (X:Qk),J5 w (l++[p]) X=orB (J5 w l X) (Yi w p)
 | [],X=>by simp [J5]
 | q::l,X=>by rw [List.cons_append];unfold J5;exact Ph w p l _
mutual
theorem Gi(w:Wd):∀ p,Qz w.length (Yi w p)
 | .sound pl mi nt=>by unfold Yi;exact Qz.sound _ _ _
 | .edge e=>by unfold Yi;exact Qz.edge (by cases e <;> simp)
 | .seq l=>by unfold Yi;exact Pr w l _ (Qz.id _)
 | .alt l=>by unfold Yi;exact Pt w l _ (Qz.no _)
 | .rep p mn mx=>by unfold Yi Nc;exact(Qz.pow (Gi w p) _).comp (Qz.pow ((Gi w p).or (Qz.id _)) _)
theorem Pr(w:Wd):∀(l:List Za) (X:Qk),Qz w.length X->Qz w.length (Ul w l X)
 | [],_,h=>by unfold Ul;exact h
 | p::l,X,h=>by unfold Ul;exact Pr w l _ (h.comp (Gi w p))
theorem Pt(w:Wd):∀(l:List Za) (X:Qk),Qz w.length X->Qz w.length (J5 w l X)
 | [],_,h=>by unfold J5;exact h
 | p::l,X,h=>by unfold J5;exact Pt w l _ (h.or (Gi w p))
end
mutual
def cmp:Pat->Za
 | .node k pl mi nt mn mx l=>
  if k=1 then .sound pl mi nt
  else if k=2 then .edge false
  else if k=6 then .edge true
  else if k=4 then .alt (J2 l)
  else if k=5 then .rep ((J2 l).headD (.seq [])) mn mx
  else .seq (J2 l)
def J2:List Pat->List Za
 | []=>[]
 | p::l=>cmp p::J2 l
end
theorem Ho(l:List Pat):J2 l=l.map cmp:=by
 induction l with
 | nil=>rfl
 | cons p l ih=>unfold J2;rw [ih];rfl
mutual
def Kp:Pat->Prop
 | .node k pl mi nt mn mx l=>Xe (.node k pl mi nt mn mx l)=0/\l.length<=40/\J8 l
def J8:List Pat->Prop
 | []=>True
 | p::l=>Kp p/\J8 l
end
theorem Q08{l:List Pat}:J8 l↔∀ p∈l,Kp p:=by
 induction l with
 | nil=>simp [J8]
 | cons p l ih=>unfold J8;rw [ih];simp
theorem Q4o(p:Pat)(n:Nat)(c:n<=40)(h:(Yw p n).2=0):n+1<=(Yw p n).1:=by
 cases p with
 | node k pl mi nt mn mx l=>
  unfold Yw at h ⊢;by_cases b:n=40
  ·rw [if_pos b] at h;cases h
  ·rw [if_neg b] at h ⊢;by_cases a:Xe (.node k pl mi nt mn mx l)=0
   ·rw [if_pos a];exact(Hy l (n+1) [] (by omega)).1.2
   ·rw [if_neg a] at h;exact absurd h a
theorem Ps:∀(l:List Pat) (n:Nat),n<=40->(Jd l n).2=0->n+l.length<=(Jd l n).1
 | [],n,_,_=>by simp [Jd]
 | p::l,n,hn,h=>by
  unfold Jd R8 at h ⊢;by_cases he:(Yw p n).2=0
  ·rw [if_pos he] at h ⊢;have h1:=Q4o p n hn he;have h2:=Ps l _ (Hz p n [] hn).1.1 h;simp only [List.length_cons];omega
  ·rw [if_neg he] at h;exact absurd h he
mutual
theorem S1:∀(p:Pat) (n:Nat),n<=40->(Yw p n).2=0->Kp p
 | .node k pl mi nt mn mx l,n,hn40,h=>by
  unfold Yw at h;unfold Kp;by_cases hn:n=40
  ·rw [if_pos hn] at h;cases h
  ·rw [if_neg hn] at h;by_cases he:Xe (.node k pl mi nt mn mx l)=0
   ·rw [if_pos he] at h;have h1:=Ps l (n+1) (by omega) h;have h2:=(Hy l (n+1) [] (by omega)).1.1;exact⟨he,by omega,Sb l _ (by omega) h⟩
   ·rw [if_neg he] at h;exact absurd h he
theorem Sb:∀(l:List Pat) (n:Nat),n<=40->(Jd l n).2=0->J8 l
 | [],_,_,_=>by unfold J8;trivial
 | p::l,n,hn,h=>by
  unfold Jd R8 at h;unfold J8;by_cases he:(Yw p n).2=0
  ·rw [if_pos he] at h;exact⟨S1 p n hn he,Sb l _ (Hz p n [] hn).1.1 h⟩
  ·rw [if_neg he] at h;exact absurd h he
end
theorem Q6y{p:Pat}(h:Y8 p=0):Kp p:=S1 p 0 (by omega) (by rw [Q0a];exact h)
theorem Q57{c:Prop} [Decidable c] (h:(if c then(0:Int) else 14)=0):c:=by
 by_cases a:c
 ·exact a
 ·rw [if_neg a] at h;cases h
theorem Wi{c:Prop} [Decidable c] {x:Int} (h:(if c then 2 else x)=0):¬ c/\x=0:=by
 by_cases a:c
 ·rw [if_pos a] at h;cases h
 ·rw [if_neg a] at h;exact⟨a,h⟩
theorem Mz{k:Int}{pl mi:Nat}{nt:Bool}{mn mx:Int}{l:List Pat}(h:Xe (.node k pl mi nt mn mx l)=0) :
  (0<=k/\k<=6)/\(k≠1->pl=0/\mi=0/\nt=false)/\(k≠3->k≠4->k≠5->l=[])/\(k≠5->mn=0/\mx=0) /\
   (k=5->l.length=1/\0<=mn/\mn<=32/\(mx=-1\/mn<=mx/\mx<=32))/\Zi pl mi=true:=by
 unfold Xe at h;simp only [Pat.k,Pat.pl,Pat.mi,Pat.nt,Pat.mn,Pat.mx,Pat.l] at h;obtain⟨j,h⟩:=Wi h;obtain⟨f,h⟩:=Wi h;obtain⟨g,h⟩:=Wi h;obtain⟨m,h⟩:=Wi h;obtain⟨d,h⟩:=Wi h;have i:Zi pl mi=true:=Q57 h;refine⟨by omega,fun hk=>?_,fun a b c=>?_,fun hk=>by omega,fun hk=>?_,i⟩
 ·refine⟨?_,?_,?_⟩
  ·exact Classical.byContradiction fun hh=>f ⟨hk,.inl hh⟩
  ·exact Classical.byContradiction fun hh=>f ⟨hk,.inr (.inl hh)⟩
  ·cases nt
   ·rfl
   ·exact absurd ⟨hk,.inr (.inr rfl)⟩ f
 ·exact List.eq_nil_of_length_eq_zero (Classical.byContradiction fun hh=>g ⟨a,b,c,hh⟩)
 ·refine⟨Classical.byContradiction fun hh=>d ⟨hk,.inl hh⟩,?_,?_,?_⟩
  ·apply Int.not_lt.1;exact fun hh=>d ⟨hk,.inr (.inl hh)⟩
  ·apply Int.not_lt.1;exact fun hh=>d ⟨hk,.inr (.inr (.inl hh))⟩
  ·by_cases e:mx=-1
   ·exact .inl e
   ·refine .inr ⟨?_,?_⟩
    ·apply Int.not_lt.1;exact fun hh=>d ⟨hk,.inr (.inr (.inr ⟨e,.inl hh⟩))⟩
    ·apply Int.not_lt.1;exact fun hh=>d ⟨hk,.inr (.inr (.inr ⟨e,.inr hh⟩))⟩
theorem Cn(w:Wd):∀(l:List Za) (X Y:Qk),J5 w l (orB X Y)=orB X (J5 w l Y)
 | [],X,Y=>by unfold J5;rfl
 | p::l,X,Y=>by unfold J5;rw [Q1h,Cn w l]
mutual
theorem Wo(w:Wd):∀ p,Kp p->Yi w (cmp p)=Vn w p
 | .node k pl mi nt mn mx l,h=>by
  unfold Kp at h;obtain⟨_,_,_,_,h5,_⟩:=Mz h.1;unfold cmp Vn
  split
  ·unfold Yi;rfl
  ·split
   ·unfold Yi;rfl
   ·split
    ·unfold Yi;rfl
    ·split
     ·unfold Yi;exact(Rw w l h.2.2)
     ·split
      ·rename_i hk
       have hl:=(h5 hk).1
       match l,hl,h.2.2 with
       | [q],_,h2=>
        unfold J8 at h2;unfold Yi Sy;show Nc (Yi w (cmp q)) _ _ _=_;rw [Wo w q h2.1]
      ·unfold Yi;exact S6 w l _ h.2.2
theorem S6(w:Wd):∀(l:List Pat) (X:Qk),J8 l->Ul w (J2 l) X=Fj w l X
 | [],X,_=>by unfold J2 Ul Fj;rfl
 | p::l,X,h=>by
  unfold J8 at h;unfold J2 Ul Fj;rw [Wo w p h.1,S6 w l _ h.2]
theorem Rw(w:Wd):∀(l:List Pat),J8 l->J5 w (J2 l) noB=Dr w l
 | [],_=>by unfold J2 J5 Dr;rfl
 | p::l,h=>by
  unfold J8 at h;unfold J2 J5 Dr;rw [Q8d,<-Q7r (Yi w (cmp p)),Cn,Wo w p h.1,Rw w l h.2]
end
end Go.Ab
namespace Go.Ab
open Go.RowKit
theorem My{P:Program}{w:World}{base:Nat}{t ty e:TypeId}{size:Nat}{i:TypeInfo}(b:P.underlying t=some (.slice e)) (a:P.info? e=some i)
  {v:Value} {n:Nat} {xs:List Value} (f:w.ownsRow base e size v n xs) (ao:Option Addr) (c:Nat) :
  (Builtin.append_ #[t,t] ty #[v,.slice ao 0 c]).run P w=.ok v w:=by
 rcases f.2 with ⟨rfl,rfl⟩ | ⟨k,g,j,rfl,_,_,d,_⟩
 ·cases ao <;> simp [Builtin.append_,run_underlying b,sizeOf,typeInfo,a,Builtin.lenOf,Builtin.firstCells,loadCells,loadCellsFrom]
 ·cases ao <;> simp [Builtin.append_,run_underlying b,sizeOf,typeInfo,a,Builtin.lenOf,Builtin.firstCells,d,storeCells,loadCells,loadCellsFrom]
theorem Rd.cells{w:World}{m size:Nat}{e:List Value}{a:Addr}{c:Nat}(h:Rd w (.slice (some a) m c) m size e) (n:0<m):∀ j u,e[j]?=some u->w.cell? (a.add j)=some u:=by
 obtain⟨r,s,p,q,o,i⟩:=h;intro j u d;obtain⟨b,f,k,t,l⟩:=i n;cases o;cases k;have v:=(List.getElem?_eq_some_iff.1 d).1;have:=l j oz;rw [List.getD_eq_getElem?_getD,d] at this;have g:((⟨b,f,none⟩:Addr).add j)=⟨b,f+j,none⟩:=by
  unfold Addr.add;split
  ·rename_i h;subst h;simp
  ·simp
 rw [g];exact this
theorem Kz{P:Program}{w:World}{ops:Array Oper}{rest:List Oper}{o:Oper}{a:Act}{Q:Exit->Act->World->Prop}(k:o.guard=none)(s x:Operand)(t:TypeId)
  (q:o.op=.call { callee:=.builtin .append,args:=#[s,x],argTypes:=#[t,t] })
  (base:Nat) (e:TypeId) (z:Value) (size f:Nat) (A:P.underlying t=some (.slice e)) (l:(P.info? e).map (fun i=>(i.zero,i.size,i.bytes))=some (some z,size,f))
  (N:z.cells.size=size) (M:0<size)
  (v:Value) (n:Nat) (xs:List Value) (y:a.eval s=v) (d:w.ownsRow base e size v n xs)
  (u:Value) (m:Nat) (c:List Value) (B:a.eval x=u) (r:Rd w u m size c) (D:∀ u∈c,u.oneCell'=true)
  (E:n+m<=maxLen) (G:(n+m)*f<=140737488355328) (F:base<=w.heap.size)
  (h:∀ ao c' w',w'.ownsRow base e size (.slice ao (n+m) c') (n+m) (xs++c)->Q1 (fun b=>v.ownBlock=some b) w w'->((Value.slice ao (n+m) c').ownBlock=v.ownBlock\/(Value.slice ao (n+m) c').ownBlock=some w.heap.size)->wpList P ops Q rest (a.put o.dst (.slice ao (n+m) c')) w'):wpList P ops Q (o::rest) a w:=by
 have L:=r;obtain⟨j,T,ao,g,rfl,C⟩:=r;by_cases p:0<m
 ·obtain⟨S,X,rfl,_,_⟩:=C p;exact Zz k s x t q base e z size f A l N M v n xs y d _ m g c B j (L.cells p) D E G F h
 ·obtain rfl:m=0:=by omega
  have I:c=[]:=List.eq_nil_of_length_eq_zero (by simpa using j);subst I;obtain⟨i,H,W,V,U⟩:=info_parts l;refine wpList_plain k fun K hK=>?_
  have J:=My (P:=P) (ty:=o.type) A H d ao g;obtain⟨R,O,rfl⟩:=Zj d;unfold Oper.wp execOp;simp only [q,resolve,invoke,builtin,Sem.run_bind,Sem.run_pure,Result.andThen_ok,List.map_toArray,List.map_cons,List.map_nil,y,B,J];exact hK _ _ (h R O w (by simpa using d) (Q1.refl _ _) (.inl rfl))
end Go.Ab
namespace Go.Ab
open Go.RowKit
theorem Q2o{α:Type}{P:Program}{g:Operand}{ps:Array Tmp}{assign body:Code}{Q:Exit->Act->World->Prop}{a:Act}{w:World}
  {gf:Nat} {lb:Array Value} (c2:a.eval g=.func (.func gf) #[] lb) (a7:∀ args w,(callFunc gf args).run P w=.ok (.enter gf args) w)
  {N:α->Array Value} {xs:List α} {S K:Nat->Prop} (c6:T5 P gf lb N xs S K w) (b4:∀ b,S b->K b) (a4:∀ b,K b->b<w.heap.size) (c4:∀ x,(N x).size=ps.size)
  (I:List α->World->Prop) (G:Code->List α->World->Prop)
  (H:∀ pre A B,I pre A->Q1 (fun b=>S b\/b=w.heap.size+1) A B->I pre B)
  (J:∀ c pre A B,G c pre A->Q1 (fun b=>S b\/b=w.heap.size+1) A B->G c pre B)
  (a8:∀ W,Ext w W->W.heap.size=w.heap.size+2->I [] W) (M:α->Act->World->Prop) (b1:∀ x a' A B,M x a' A->Q1 (fun b=>b=w.heap.size+1) A B->M x a' B)
  (b6:∀(pre:List α) (x:α) (W:World) (Kn:Act->World->Prop),x∈xs->I pre W->w.heap.size+2<=W.heap.size->(∀ a' W',Ext W W'->M x a' W'->Kn a' W') ->
   assign.wpIn (Fence.wide.inRound (w.heap.size+1)) 0 P (Exit.then Kn (fun _ _ _=>False)) { tmps:=(ps.zip (N x)).foldl (fun t (p,v)=>t.setIfInBounds p v) a.tmps,defers:=[] } W)
  (b8:∀(pre:List α) (x:α) (rest:List α) (a':Act) (W:World),xs=pre++x::rest->w.heap.size+2<=W.heap.size->Q1 (fun b=>¬ K b\/S b) w W->I pre W->M x a' W ->
   body.wpIn (Fence.wide.inRound (w.heap.size+1)) 0 P (Tl (fun b=>K b\/b=w.heap.size\/b=w.heap.size+1) I G (pre++[x]) W) a' W)
  (c1:∀ W,I xs W->Q1 (fun b=>¬ K b\/S b) w W->W.heap[w.heap.size]?=some (.deferred (some []))->Q .normal { a with defers:={ target:=.collected w.heap.size,args:=#[] }::a.defers } W)
  (c7:∀ c pre x rest W,xs=pre++x::rest->G c (pre++[x]) W->W.heap[w.heap.size]?=some (.deferred (some []))->c.wp P Q { a with defers:={ target:=.collected w.heap.size,args:=#[] }::a.defers } W) :
  (Code.rangeFunc g ps assign body).wp P Q a w:=by
 refine(wpIn_wide (n:=0)).1 (wpIn_rangeFunc ?_);intro fn _;obtain⟨f,k⟩:∃ f:LoopState->Option Code->Loop,f=fun st pe=>{ state:=st,pending:=pe,fn,tmps:=a.tmps,params:=ps,assign,body,defers:=w.heap.size }:=⟨_,rfl⟩;obtain⟨j,L⟩:=zE ((w.alloc (.deferred (some []))).alloc (.loop (f .ready none)));have b3:j.heap[w.heap.size+1]?=some (.loop (f .ready none)):=by
  rw [<-L];have:=World.alloc_heap_new (w.alloc (.deferred (some []))) (.loop (f .ready none));rwa [World.size_alloc] at this
 have b2:j.heap[w.heap.size]?=some (.deferred (some [])):=by
  rw [<-L];exact(Below.heap_alloc _ _ _ zy).trans (World.alloc_heap_new w _)
 have Z:Ext w j:=by rw [<-L];exact((Q1.refl _ w).alloc _).alloc _
 have c5:j.heap.size=w.heap.size+2:=by rw [<-L];simp
 have R:∀ b,S b->b≠w.heap.size+1/\b≠w.heap.size:=fun b hb=>by have:=a4 b (b4 b hb);omega
 refine⟨w.heap.size+1,[{ target:=.collected w.heap.size,args:=#[] }],j,{ target:=.fn (.func gf) lb,args:=#[.func (.yield (w.heap.size+1)) #[] #[]] },j,gf,
  #[.func (.yield (w.heap.size+1)) #[] #[]]++lb,j,?_,?_,fun _ _=>trivial,?_,fun h=>by simp [Fence.wide] at h,?_⟩
 ·rw [<-L,k];exact run_enterLoop_outer _ _ _ _ _
 ·simp only [resolve,c2];simp [go_sem]
 ·simp [invoke,go_sem,a7]
 ·refine callsIn_wide.2 ((c6 (w.heap.size+1)
   (fun pre W=>I pre W/\W.heap[w.heap.size+1]?=some (.loop (f .ready none))/\W.heap[w.heap.size]?=some (.deferred (some []))/\Q1 (fun b=>¬ K b\/S b) w W/\w.heap.size+2<=W.heap.size)
   (fun pre W=>∃ c,G c pre W/\W.heap[w.heap.size+1]?=some (.loop (f .done (some c)))/\W.heap[w.heap.size]?=some (.deferred (some [])))
   j Z.of ?_ ?_ ?_ ⟨a8 _ Z c5,b3,b2,Z.of,by omega⟩).mono ?_)
  ·rintro pre A B ⟨U,V,Y,a9,b0⟩ e;exact⟨H _ _ _ U (e.mono fun b _ hb=>.inl hb),e.heap V (fun hb=>(R _ hb).1 rfl),e.heap Y (fun hb=>(R _ hb).2 rfl),a9.after e (fun b _ hb=>.inr hb),Nat.le_trans b0 e.size⟩
  ·rintro pre A B ⟨c,U,V,Y⟩ e;exact⟨c,J _ _ _ _ U (e.mono fun b _ hb=>.inl hb),e.heap V (fun hb=>(R _ hb).1 rfl),e.heap Y (fun hb=>(R _ hb).2 rfl)⟩
  ·rintro pre x rest W T ⟨l,m,r,e,E⟩;have c9:=e;have c8:=E;have a6:w.heap.size+1<W.heap.size:=by omega
   have a1:=run_yield (P:=P) (args:=N x) m (by rw [k];exact c4 x);rw [k] at a1;refine⟨fn,_,assign,body,a1,roundIn_of_wpIn trivial (b6 pre x W _ (by rw [T];simp) l E ?_)⟩;clear a1;intro a' W' C b7;have b5:=C;have l:=H _ _ _ l (Ext.of C);have m:=C.keep m;have r:=C.keep r;have e:=e.after C (fun b _ h=>h.elim);have E:w.heap.size+2<=W'.heap.size:=Nat.le_trans E C.size;have a6:w.heap.size+1<W'.heap.size:=by omega
   refine⟨_,run_beginRound m (by rw [k]),?_⟩;have c3:(W'.putObj (w.heap.size+1) (.loop { f .ready none with state:=.busy })).heap[w.heap.size+1]?=some (.loop { f .ready none with state:=.busy }):=World.putObj_heap_same a6;have b9:(W'.putObj (w.heap.size+1) (.loop { f .ready none with state:=.busy })).heap[w.heap.size]?=some (.deferred (some [])):=(World.putObj_heap_other oz).trans r;have q:∀(X:World) o,Q1 (fun b=>S b\/b=w.heap.size+1) X (X.putObj (w.heap.size+1) o):=fun X o=>(Q1.refl _ X).putObj (.inr (.inr rfl)) o;have a0:∀(X:World) o,Q1 (fun b=>¬ K b) X (X.putObj (w.heap.size+1) o):=fun X o=>(Q1.refl _ X).putObj (.inr (fun hk=>by have:=a4 _ hk;omega)) o;refine wpIn_mono (b8 pre x rest a' _ T (by simpa using E) (e.after (a0 W' _) (fun b _ hb=>.inl hb)) (H _ _ _ l (q W' _)) (b1 _ _ _ _ b7 ((Q1.refl (fun b=>b=w.heap.size+1) W').putObj (.inr rfl) _))) ?_
   have O:∀(jump:Option Code) (d:World),Q1 (fun b=>¬ (K b\/b=w.heap.size\/b=w.heap.size+1)) (W'.putObj (w.heap.size+1) (.loop { f .ready none with state:=.busy })) d ->
     (Instr.endRound (w.heap.size+1) jump).run P d=.ok (.bool jump.isNone) (d.putObj (w.heap.size+1) (.loop (f (if jump.isNone then .ready else .done) jump))) /\
     (d.putObj (w.heap.size+1) (.loop (f (if jump.isNone then .ready else .done) jump))).heap[w.heap.size+1]?=some (.loop (f (if jump.isNone then .ready else .done) jump)) /\
     (d.putObj (w.heap.size+1) (.loop (f (if jump.isNone then .ready else .done) jump))).heap[w.heap.size]?=some (.deferred (some [])) /\
     Q1 (fun b=>¬ K b) W (d.putObj (w.heap.size+1) (.loop (f (if jump.isNone then .ready else .done) jump))):=fun jump d i=>by
    have a5:=i.heap c3 (fun h=>h (.inr (.inr rfl)));have c0:=i.heap b9 (fun h=>h (.inr (.inl rfl)));have:=run_endRound (P:=P) jump a5;rw [k] at this ⊢;refine⟨this,World.putObj_heap_same (Array.getElem?_eq_some_iff.1 a5).1,(World.putObj_heap_other oz).trans c0,?_⟩;exact(((b5.of).trans (a0 W' _)).trans (i.mono fun b _ hb hk=>hb (.inl hk))).trans (a0 d _)
   rintro a3 d0 d D;cases a3 with
   | normal=>
    obtain⟨i,u⟩:=D;obtain⟨z,y,s,F⟩:=O none d i;exact⟨_,_,z,.inl ⟨rfl,⟨H _ _ _ u (q d _),y,s,c9.after F (fun b _ hb=>.inl hb),Nat.le_trans c8 F.size⟩,F⟩⟩
   | ret=>
    obtain⟨i,u⟩:=D;obtain⟨z,y,s,F⟩:=O (some .ret) d i;exact⟨_,_,z,.inr ⟨rfl,.ret,J _ _ _ _ u (q d _),y,s⟩⟩
   | exit id=>
    obtain⟨i,u⟩:=D;obtain⟨z,y,s,F⟩:=O (some (.exit id)) d i;exact⟨_,_,z,.inr ⟨rfl,.exit id,J _ _ _ _ u (q d _),y,s⟩⟩
   | goto t=>
    obtain⟨i,u⟩:=D;obtain⟨z,y,s,F⟩:=O (some (.goto t)) d i;exact⟨_,_,z,.inr ⟨rfl,.goto t,J _ _ _ _ u (q d _),y,s⟩⟩
   | panic ch=>exact D.elim
   | outgrown=>exact D.elim
  ·have q:∀(X:World) o,Q1 (fun b=>S b\/b=w.heap.size+1) X (X.putObj (w.heap.size+1) o):=fun X o=>(Q1.refl _ X).putObj (.inr (.inr rfl)) o;rintro a3 a2 ⟨⟨v,rfl⟩,(⟨l,m,r,e,E⟩ | ⟨pre,x,rest,T,c,l,m,r⟩)⟩
   ·refine⟨none,_,by have:=run_endLoop (P:=P) m (by rw [k];simp);rw [k] at this;exact this,?_⟩;exact c1 _ (H _ _ _ l (q a2 _)) (e.putObj (.inl oz) _) ((World.putObj_heap_other oz).trans r)
   ·refine⟨some c,_,by have:=run_endLoop (P:=P) m (by rw [k];simp);rw [k] at this;exact this,?_⟩;exact(wpIn_wide (n:=0)).2 (c7 c pre x rest _ T (J _ _ _ _ l (q a2 _)) ((World.putObj_heap_other oz).trans r))
theorem Lm{P:Program}{ops:Array Oper}{Q:Exit->Act->World->Prop}{S:World->Prop}{id l n:Nat}{a:Act}{w:World}(hm:P.follows .mixedOrders=true)(hd:J4 ops=true)(hQ:¬ LetsOut Q)(hS:S w.drew)
  (h:S w.drew->wpAnyH P .any ops Q S ops.size (Array.replicate ops.size false) a w.drew):(Code.region id ops true).wpIn (Fence.wide.inRound l) n P Q a w:=
 V6 hm hd hQ (wpAny_of_held _ _ _ _ (h hS))
end Go.Ab
namespace Go.Ab
open Go.RowKit
theorem Cp{w:World}{base:Nat}{e:TypeId}{sz g n cap:Nat}{xs:List Value}(h:w.ownsRow base e sz (.slice (some ⟨g,0,none⟩) (n+1) cap) (n+1) xs) :
  w.ownsRow base e sz (.slice (some ⟨g,0,none⟩) n cap) n (xs.take (n*sz)):=by
 have j:=h.1;rcases h.2 with ⟨a,_⟩ | ⟨m,l,b,a,c,i,o,d,f,k⟩
 ·cases a
 ·simp only [zV,Option.some.injEq,Addr.mk.injEq] at a;obtain⟨⟨rfl,_,_⟩,_,rfl⟩:=a;refine⟨by rw [List.length_take,j,Nat.min_eq_left (Nat.mul_le_mul_right _ oz)],.inr ⟨g,cap,b,rfl,c,i,by omega,d,f,?_⟩⟩;rw [<-k,List.take_take,Nat.min_eq_left (Nat.mul_le_mul_right _ oz)]
def Xm:List Value->Nat->List Value->List Value
 | cur,_,[]=>cur
 | cur,o,v::vs=>Xm (cur.set o v) (o+1) vs
theorem K1:∀(vs cur:List Value) (o:Nat),(Xm cur o vs).length=cur.length
 | [],cur,o=>rfl
 | v::vs,cur,o=>by unfold Xm;rw [K1 vs,List.length_set]
theorem Gl{t:TypeId}{b:Nat}:∀(vs:List Value) (o:Nat) (w:World) (cur:Array Value),w.heap[b]?=some (.cells cur t (0,0))->(w.setCells b o vs).heap[b]?=some (.cells (Xm cur.toList o vs).toArray t (0,0))
 | [],o,w,cur,h=>h
 | v::vs,o,w,cur,h=>by
  have h1:(w.setCell ⟨b,o,none⟩ v).heap[b]?=some (.cells (cur.setIfInBounds o v) t (0,0)):=by
   simp only [World.setCell,Array.getElem?_modify,h];simp
  have:=Gl vs (o+1) _ _ h1;rw [Array.toList_setIfInBounds] at this;exact this
theorem P3:∀(vs pre zs:List Value),vs.length=zs.length->Xm (pre++zs) pre.length vs=pre++vs
 | [],pre,zs,h=>by
  obtain rfl:zs=[]:=List.eq_nil_of_length_eq_zero (by simpa using h.symm);rfl
 | v::vs,pre,z::zs,h=>by
  unfold Xm;have e:(pre++z::zs).set pre.length v=(pre++[v])++zs:=by
   rw [List.set_append_right _ _ (Nat.le_refl _)];simp
  rw [e];have:=P3 vs (pre++[v]) zs (by simpa using h);rw [List.length_append] at this
  simpa using this
theorem Wu:∀(vs cur:List Value) (o m:Nat),o+vs.length<=m->(Xm cur o vs).take m=Xm (cur.take m) o vs
 | [],cur,o,m,_=>rfl
 | v::vs,cur,o,m,h=>by
  unfold Xm;rw [Wu vs _ _ _ (by simp at h;omega)]
  congr 1
  simp only [List.length_cons] at h;rw [List.take_set]
theorem Kl{w:World}{base:Nat}{e:TypeId}{sz g n cap:Nat}{xs d cs:List Value}(h:w.ownsRow base e sz (.slice (some ⟨g,0,none⟩) (n+1) cap) (n+1) (xs++d)) (c:xs.length=n*sz) (f:cs.length=sz) :
  (w.setCells g (n*sz) cs).ownsRow base e sz (.slice (some ⟨g,0,none⟩) (n+1) cap) (n+1) (xs++cs):=by
 have o:=h.1;rcases h.2 with ⟨a,_⟩ | ⟨s,r,b,a,j,m,p,k,l,q⟩
 ·cases a
 ·simp only [zV,Option.some.injEq,Addr.mk.injEq] at a;obtain⟨⟨rfl,_,_⟩,_,rfl⟩:=a;have t:d.length=sz:=by
   rw [List.length_append,c,Nat.add_mul,Nat.one_mul] at o;omega
  refine⟨by rw [List.length_append,c,f,Nat.add_mul,Nat.one_mul],.inr ⟨g,cap,_,rfl,j,Gl cs _ w b m,p,k,by simp [K1,l],?_⟩⟩;have i:n*sz+cs.length<=(n+1)*sz:=by rw [f,Nat.add_mul,Nat.one_mul];exact Nat.le_refl _
  rw [show ((Xm b.toList (n*sz) cs).toArray.toList)=Xm b.toList (n*sz) cs from rfl,Wu _ _ _ _ i,q,<-c];exact P3 cs xs d oz
theorem Q1.setCells(A:World)(b:Nat):∀(vs:List Value) (o:Nat),Q1 (·=b) A (A.setCells b o vs)
 | [],_=>Q1.refl _ _
 | v::vs,o=>(Q1.set1 A b o v).trans (Q1.setCells (A.setCell ⟨b,o,none⟩ v) b vs (o+1))
theorem Gh{w:World}{base:Nat}{e:TypeId}{sz g n cap:Nat}{xs:List Value}(h:w.ownsRow base e sz (.slice (some ⟨g,0,none⟩) n cap) n xs) {o m:Nat} (ho:o+m<=n*sz):w.there g o m:=fun j hj=>by
 have h1:=h.cellAt (o+j) oz;have h2:=h.frozenAt (o+j);have:(o+j)<xs.length:=by rw [h.1];omega
 rw [List.getElem?_eq_getElem this] at h1;exact⟨by rw [h1];rfl,h2⟩
theorem Pn{w:World}{base:Nat}{e:TypeId}{sz g n cap:Nat}{xs:List Value}(h:w.ownsRow base e sz (.slice (some ⟨g,0,none⟩) n cap) n xs) {o:Nat} {cs:List Value} (hc:∀ j v,cs[j]?=some v->xs[o+j]?=some v):w.rangeAt g o cs:=fun j v hv=>by
 have h0:=hc j v hv;have hlt:o+j<n*sz:=by rw [<-h.1];exact(List.getElem?_eq_some_iff.1 h0).1
 rw [h.cellAt (o+j) hlt];exact h0
theorem K5{w:World}{base:Nat}{e:TypeId}{sz n m cap:Nat}{ao:Option Addr}{xs:List Value}(h:w.ownsRow base e sz (.slice ao (n+1) cap) m xs):∃ g,ao=some ⟨g,0,none⟩:=by
 rcases h.2 with ⟨a,_⟩ | ⟨g,_,_,a,_⟩
 ·cases a
 ·cases a;exact⟨g,rfl⟩
theorem Jk{w:World}{base:Nat}{e:TypeId}{sz g n m cap:Nat}{xs:List Value}(h:w.ownsRow base e sz (.slice (some ⟨g,0,none⟩) n cap) m xs):∃ cur,w.heap[g]?=some (.cells cur e (0,0)):=by
 rcases h.2 with ⟨a,_⟩ | ⟨_,_,cur,a,_,b,_⟩
 ·cases a
 ·cases a;exact⟨cur,b⟩
theorem Y4{P:Program}{w:World}{o:Oper}{a:Act}{K:Act->World->Prop}{Q:Exit->Act->World->Prop}(s x:Operand)(t:TypeId)
  (N:o.op=.call { callee:=.builtin .append,args:=#[s,x],argTypes:=#[t,t] })
  (base:Nat) (e:TypeId) (z:Value) (size g:Nat) (F:P.underlying t=some (.slice e)) (M:(P.info? e).map (fun i=>(i.zero,i.size,i.bytes))=some (some z,size,g))
  (T:z.cells.size=size) (E:0<size)
  (v:Value) (n:Nat) (xs:List Value) (O:a.eval s=v) (C:w.ownsRow base e size v n xs)
  (f:Addr) (m c:Nat) (d:List Value) (S:a.eval x=.slice (some f) m c) (A:d.length=m*size) (B:∀ j u,d[j]?=some u->w.cell? (f.add j)=some u) (l:∀ u∈d,u.oneCell'=true)
  (q:n+m<=maxLen) (r:(n+m)*g<=140737488355328) (L:base<=w.heap.size)
  (h:∀ ao c' w',w'.ownsRow base e size (.slice ao (n+m) c') (n+m) (xs++d)->Q1 (fun b=>v.ownBlock=some b) w w'->((Value.slice ao (n+m) c').ownBlock=v.ownBlock\/(Value.slice ao (n+m) c').ownBlock=some w.heap.size)->K (a.put o.dst (.slice ao (n+m) c')) w'):Oper.wp P o a w K Q:=by
 obtain⟨i,y,G,R,J⟩:=info_parts M;subst R;subst J;obtain⟨V,w',D,p,H,U⟩:=run_append_own (P:=P) w base t o.type e i z _ _ F y G rfl rfl T E v n xs C f m c d A B l q r L;have I:=Ff F y G E C f m c d A B l q r D;unfold Oper.wp execOp;simp only [N,resolve,invoke,builtin,Sem.run_bind,Sem.run_pure,Result.andThen_ok,List.map_toArray,List.map_cons,List.map_nil,O,S,D];obtain⟨ao,c',rfl⟩:=Zj p;exact h ao c' w' p ((Q1.refl _ w).grown H (fun k e=>.inr e)) I
end Go.Ab
