/- PLAIN: -/
import Derived.Lib.TrailingZeros
namespace Go.Ab
def Y6:Nat->(Nat->Bool)->Nat
 | 0,_=>0
 | n+1,p=>Y6 n p+if p n then 2 ^ n else 0
theorem J6(n:Nat)(p:Nat->Bool):Y6 n p<2 ^ n:=by
 induction n with
 | zero=>simp [Y6]
 | succ n ih=>
  unfold Y6;rw [Nat.pow_succ]
  split <;> omega
theorem Y8(n:Nat)(p:Nat->Bool)(i:Nat):(Y6 n p).testBit i=(decide (i<n) && p i):=by
 induction n with
 | zero=>simp [Y6]
 | succ n ih=>
  unfold Y6;have f:=J6 n p;by_cases a:p n=true
  ·rw [if_pos a,Nat.add_comm];rw [show 2 ^ n+Y6 n p=2 ^ n*1+Y6 n p by omega];rw [Nat.testBit_two_pow_mul_add _ f]
   split
   ·rename_i c;rw [ih];simp [c,Nat.lt_succ_of_lt c]
   ·rename_i c
    by_cases b:i=n
    ·subst b;simp [a]
    ·obtain⟨d,e⟩:∃ d,i - n=d+1:=⟨i - n - 1,by omega⟩;rw [e,Nat.testBit_succ];simp;omega
  ·rw [if_neg a,Nat.add_zero,ih];by_cases b:i=n
   ·subst b;simp at a;simp [a]
   ·have:(i<n+1)↔(i<n):=by omega
    simp [this]
theorem Ky{n v:Nat}{p:Nat->Bool}(b:v<2 ^ n)(h:∀ i,i<n->v.testBit i=p i):v=Y6 n p:=by
 apply Nat.eq_of_testBit_eq;intro i;rw [Y8];by_cases a:i<n
 ·simp [a,h i a]
 ·rw [Nat.testBit_lt_two_pow (Nat.lt_of_lt_of_le b (Nat.pow_le_pow_right (by decide) (by omega)))];simp [a]
theorem Xe{n:Nat}{p q:Nat->Bool}(h:∀ i,i<n->p i=q i):Y6 n p=Y6 n q:=
 Ky (J6 n p) fun i hi=>by rw [Y8];simp [hi,h i hi]
theorem Wl(n:Nat)(p q:Nat->Bool):Y6 n p ||| Y6 n q=Y6 n (fun i=>p i || q i):=
 Ky (Nat.or_lt_two_pow (J6 n p) (J6 n q)) fun i hi=>by
  rw [Nat.testBit_or,Y8,Y8];simp [hi]
theorem Je{n x:Nat}(hx:x<n):2 ^ x=Y6 n (fun i=>i == x):=
 Ky (Nat.pow_lt_pow_right (by decide) hx) fun i _=>by
  rw [Nat.testBit_two_pow];by_cases h:x=i
  ·subst h;simp
  ·have:(i == x)=false:=by simp;omega
   simp [h,this]
theorem X9(n:Nat):Y6 n (fun _=>false)=0:=by
 induction n with
 | zero=>rfl
 | succ n ih=>simp [Y6,ih]
def evs(v:Nat):List Nat:=(List.range 64).filter v.testBit
theorem Lg:evs 0=[]:=by simp [evs]
theorem M6{v i:Nat}:i∈evs v↔i<64/\v.testBit i=true:=by simp [evs]
theorem Lm(n:Nat)(f:n<=64)(p:Nat->Bool):evs (Y6 n p)=(List.range n).filter p:=by
 unfold evs;have b:(64:Nat)=n+(64 - n):=by omega
 rw [b,List.range_add,List.filter_append];have c:(List.range n).filter (Y6 n p).testBit=(List.range n).filter p:=by
  apply List.filter_congr;intro e a;rw [Y8];simp at a;simp [a]
 have d:(List.map (n+·) (List.range (64 - n))).filter (Y6 n p).testBit=[]:=by
  rw [List.filter_eq_nil_iff];intro e a;simp only [List.mem_map,List.mem_range] at a;obtain⟨g,_,rfl⟩:=a;rw [Y8];simp;omega
 rw [c,d,List.append_nil]
theorem Hy(v:Nat)(b:v≠0)(h:v<2 ^ 64):∃ m,v=2 ^ Lib.ctz 64 v*(2*m+1)/\Lib.ctz 64 v<64:=by
 obtain⟨m,d,c⟩:=Lib.ctzFrom_spec 64 v (by omega) h;have a:Lib.ctz 64 v=Lib.ctzFrom 64 v:=by simp [Lib.ctz,b]
 rw [a];exact⟨m,d,c⟩
theorem Hj(k m:Nat):2 ^ k*(2*m+1) &&& (2 ^ k*(2*m+1) - 1)=2 ^ (k+1)*m:=by
 have r:0<2 ^ k:=Nat.two_pow_pos k;have l:2 ^ k*(2*m+1) - 1=2 ^ k*(2*m)+(2 ^ k - 1):=by
  rw [Nat.mul_add,Nat.mul_one];omega
 rw [l];apply Nat.eq_of_testBit_eq;intro b;have q:(2 ^ k - 1)<2 ^ k:=by omega
 rw [Nat.testBit_and,Nat.testBit_two_pow_mul_add _ q,Nat.testBit_two_pow_mul,Nat.testBit_two_pow_mul];by_cases p:b<k
 ·have c:¬ b>=k:=by omega
  have d:¬ b>=k+1:=by omega
  simp [c,d]
 ·rw [if_neg p];by_cases j:b=k
  ·subst j;simp [Nat.testBit_zero];omega
  ·obtain⟨a,rfl⟩:∃ a,b=k+(a+1):=⟨b - k - 1,by omega⟩;have g:k+(a+1) - k=a+1:=by omega
   have i:k+(a+1) - (k+1)=a:=by omega
   rw [g,i,Nat.testBit_succ,Nat.testBit_succ];have e:(2*m+1) / 2=m:=by omega
   have f:2*m / 2=m:=by omega
   rw [e,f];have n:k+(a+1)>=k:=by omega
   have o:k+(a+1)>=k+1:=by omega
   simp [n,o]
theorem Uz(k m i:Nat):(2 ^ k*(2*m+1)).testBit i=(decide (i=k) || (decide (k<i) && m.testBit (i - (k+1)))):=by
 rw [Nat.testBit_two_pow_mul];by_cases o:i<k
 ·have b:¬ i>=k:=by omega
  have c:¬ i=k:=by omega
  have d:¬ k<i:=by omega
  simp [b,c,d]
 ·by_cases j:i=k
  ·subst j;simp [Nat.testBit_zero]
  ·obtain⟨a,rfl⟩:∃ a,i=k+(a+1):=⟨i - k - 1,by omega⟩;have f:k+(a+1) - k=a+1:=by omega
   have g:k+(a+1) - (k+1)=a:=by omega
   rw [f,g,Nat.testBit_succ];have e:(2*m+1) / 2=m:=by omega
   rw [e];have l:k+(a+1)>=k:=by omega
   have n:k<k+(a+1):=by omega
   simp [l,n]
theorem L4(v:Nat)(j:v≠0)(h:v<2 ^ 64):evs v=Lib.ctz 64 v::evs (v &&& (v - 1)):=by
 obtain⟨g,f,k⟩:=Hy v j h;generalize Lib.ctz 64 v=a at f k;have d:∀ b,v.testBit b=(decide (b=a) || (decide (a<b) && g.testBit (b - (a+1)))):=fun b=>by rw [f];exact Uz a g b
 have e:∀ b,(v &&& (v - 1)).testBit b=(decide (a<b) && g.testBit (b - (a+1))):=fun b=>by
  rw [f,Hj,Nat.testBit_two_pow_mul];simp only [ge_iff_le,Nat.succ_le_iff]
 unfold evs;have i:(64:Nat)=a+(1+(63 - a)):=by omega
 rw [i,List.range_add,List.filter_append,List.filter_append,List.range_add,List.map_append,List.filter_append,List.filter_append];have n:(List.range a).filter v.testBit=[]:=by
  rw [List.filter_eq_nil_iff];intro b c;simp at c;rw [d];simp;omega
 have o:(List.range a).filter (v &&& (v - 1)).testBit=[]:=by
  rw [List.filter_eq_nil_iff];intro b c;simp at c;rw [e];simp;omega
 have l:(List.map (a+·) (List.range 1)).filter v.testBit=[a]:=by
  have:v.testBit a=true:=by rw [d];simp
  simp [List.range_one,this]
 have m:(List.map (a+·) (List.range 1)).filter (v &&& (v - 1)).testBit=[]:=by
  have:(v &&& (v - 1)).testBit a=false:=by rw [e];simp
  simp [List.range_one,this]
 rw [n,o,l,m,List.nil_append,List.nil_append,List.nil_append,List.singleton_append]
 congr 1
 apply List.filter_congr;intro b c;simp only [List.mem_map,List.mem_range] at c;obtain⟨p,⟨q,_,rfl⟩,rfl⟩:=c;rw [d,e];simp
end Go.Ab
namespace Go.Ab
inductive Pat where
 | node (k:Int) (pl mi:Nat) (nt:Bool) (mn mx:Int) (l:List Pat)
namespace Pat
def k:Pat->Int | node k _ _ _ _ _ _=>k
def pl:Pat->Nat | node _ p _ _ _ _ _=>p
def mi:Pat->Nat | node _ _ m _ _ _ _=>m
def nt:Pat->Bool | node _ _ _ b _ _ _=>b
def mn:Pat->Int | node _ _ _ _ x _ _=>x
def mx:Pat->Int | node _ _ _ _ _ x _=>x
def l:Pat->List Pat | node _ _ _ _ _ _ l=>l
end Pat
def Z3(pl mi:Nat):Bool:=pl &&& mi == 0 && (pl ||| mi) / 16777216 == 0
def Y3(p:Pat):Int:=
 if p.k<0\/6<p.k then 2
 else if p.k≠1/\(p.pl≠0\/p.mi≠0\/p.nt=true) then 2
 else if p.k≠3/\p.k≠4/\p.k≠5/\p.l.length≠0 then 2
 else if p.k≠5/\(p.mn≠0\/p.mx≠0) then 2
 else if p.k=5/\(p.l.length≠1\/p.mn<0\/32<p.mn\/(p.mx≠-1/\(p.mx<p.mn\/32<p.mx))) then 2
 else if Z3 p.pl p.mi=true then 0 else 14
def chk:Nat->List Pat->Int
 | _,[]=>0
 | 0,_::_=>12
 | f+1,p::l=>if Y3 p=0 then chk f (p.l++l) else Y3 p
theorem Jy(f:Nat)(p:Pat)(l:List Pat):chk (f+1) (p::l)=if Y3 p=0 then chk f (p.l++l) else Y3 p:=rfl
def Ze(p:Pat):Int:=chk 40 [p]
def Gy(r:Nat × Int)(f:Nat->Nat × Int):Nat × Int:=if r.2=0 then f r.1 else r
mutual
def Y2:Pat->Nat->Nat × Int
 | .node k pl mi nt mn mx l,n=>if n=40 then(n,12) else if Y3 (.node k pl mi nt mn mx l)=0 then Ym l (n+1) else(n,Y3 (.node k pl mi nt mn mx l))
def Ym:List Pat->Nat->Nat × Int
 | [],n=>(n,0)
 | p::l,n=>Gy (Y2 p n) (Ym l)
end
mutual
theorem Jg:∀(p:Pat) (n:Nat) (rest:List Pat),n<=40->((Y2 p n).1<=40/\n<=(Y2 p n).1)/\chk (40 - n) (p::rest)=(if (Y2 p n).2=0 then chk (40 - (Y2 p n).1) rest else(Y2 p n).2)
 | .node k pl mi nt mn mx l,n,rest,hn=>by
  unfold Y2;by_cases h:n=40
  ·subst h;rw [if_pos rfl];exact⟨⟨by simp,by simp⟩,by simp [chk]⟩
  ·rw [if_neg h];obtain⟨f,hf⟩:∃ f,40 - n=f+1:=⟨39 - n,by omega⟩;rw [hf];by_cases he:Y3 (.node k pl mi nt mn mx l)=0
   ·rw [if_pos he];have:=Jh l (n+1) rest (by omega);refine⟨⟨this.1.1,by have:=this.1.2;omega⟩,?_⟩;rw [Jy,if_pos he,<-this.2,show 40 - (n+1)=f by omega];rfl
   ·rw [if_neg he];refine⟨⟨hn,Nat.le_refl _⟩,?_⟩;rw [Jy,if_neg he,if_neg he]
theorem Jh:∀(l:List Pat) (n:Nat) (rest:List Pat),n<=40->((Ym l n).1<=40/\n<=(Ym l n).1)/\chk (40 - n) (l++rest)=(if (Ym l n).2=0 then chk (40 - (Ym l n).1) rest else(Ym l n).2)
 | [],n,rest,hn=>by simp [Ym,hn]
 | p::l,n,rest,hn=>by
  have h1:=Jg p n (l++rest) hn;rw [List.cons_append];unfold Ym Gy;by_cases he:(Y2 p n).2=0
  ·rw [if_pos he] at h1 ⊢;have h2:=Jh l (Y2 p n).1 rest h1.1.1;exact⟨⟨h2.1.1,Nat.le_trans h1.1.2 h2.1.2⟩,h1.2.trans h2.2⟩
  ·rw [if_neg he] at h1 ⊢;exact⟨h1.1,by rw [h1.2,if_neg he]⟩
end
theorem Da(p:Pat):(Y2 p 0).2=Ze p:=by
 have b:=(Jg p 0 [] (by omega)).2;unfold Ze;rw [b];by_cases a:(Y2 p 0).2=0
 ·rw [if_pos a,a];cases 40 - (Y2 p 0).1 <;> rfl
 ·rw [if_neg a]
theorem Vv:∀(f:Nat) (l:List Pat) (m:Nat),f+1<=m->chk f (l.take m)=chk f l
 | f,[],m,_=>by simp
 | 0,p::l,m,h=>by
  obtain⟨m,rfl⟩:∃ k,m=k+1:=⟨m - 1,by omega⟩;rfl
 | f+1,p::l,m,h=>by
  obtain⟨m,rfl⟩:∃ k,m=k+1:=⟨m - 1,by omega⟩;rw [List.take_succ_cons];rw [Jy,Jy];by_cases he:Y3 p=0
  ·rw [if_pos he,if_pos he];have h1:=Vv f (p.l++l) (p.l.length+m) (by omega);have h2:(p.l++l).take (p.l.length+m)=p.l++l.take m:=by
    rw [List.take_append];simp [List.take_of_length_le]
   rw [<-h1,h2]
  ·rw [if_neg he,if_neg he]
theorem Mp(f:Nat)(l rest:List Pat)(b:f<=40):chk f (l.take 41++rest)=chk f (l++rest):=by
 rw [<-Vv f (l.take 41++rest) 41 (by omega),<-Vv f (l++rest) 41 (by omega),List.take_append,List.take_append,List.take_take,List.length_take]
 congr 2
 by_cases a:l.length<=41
 ·rw [Nat.min_eq_right a]
 ·rw [Nat.min_eq_left (by omega),show 41 - l.length=0 by omega]
def szW:Nat->List Pat->Nat
 | _,[]=>0
 | 0,_::_=>0
 | f+1,p::l=>szW f (p.l++l)+1
def Ub(p:Pat):Nat:=szW 41 [p]
mutual
def Nr:Pat->Nat->Nat
 | .node _ _ _ _ _ _ l,n=>Mx l (n+1)
def Mx:List Pat->Nat->Nat
 | [],n=>n
 | p::l,n=>if n<=40 then Mx l (Nr p n) else n
end
theorem L1(l:List Pat):szW 0 l=0:=by cases l <;> rfl
end Go.Ab
namespace Go.Ab
abbrev Qf:=Nat->Nat->Bool
abbrev Wd:=List (Nat × Nat)
def comp(X Y:Qf):Qf:=fun a c=>(List.range 33).any fun b=>X a b && Y b c
def idB(n:Nat):Qf:=fun a b=>a == b && decide (a<=n)
def orB(X Y:Qf):Qf:=fun a b=>X a b || Y a b
def noB:Qf:=fun _ _=>false
def Ql(X:Qf)(n:Nat):Nat->Qf
 | 0=>idB n
 | k+1=>comp X (Ql X n k)
def Qk(n:Nat)(X:Qf):Prop:=∀ a b,X a b=true->a<=b/\b<=n
theorem Ya{X Y:Qf}{a c:Nat}:comp X Y a c=true↔∃ b,b<33/\X a b=true/\Y b c=true:=by
 simp only [comp,List.any_eq_true,List.mem_range,Bool.and_eq_true]
theorem Yz{n a b:Nat}:idB n a b=true↔a=b/\a<=n:=by simp [idB]
theorem Js{X Y:Qf}{a b:Nat}:orB X Y a b=true↔X a b=true\/Y a b=true:=by simp [orB]
theorem J5{X Y:Qf}(h:∀ a b,X a b=true↔Y a b=true):X=Y:=by
 funext a b;exact Bool.eq_iff_iff.2 (h a b)
theorem Qk.id(n:Nat):Qk n (idB n):=fun a b h=>by rw [Yz] at h;omega
theorem Qk.no(n:Nat):Qk n noB:=fun a b h=>by cases h
theorem Qk.comp{n:Nat}{X Y:Qf}(h:Qk n X)(k:Qk n Y):Qk n (comp X Y):=fun a c hc=>by
 obtain⟨b,_,h1,h2⟩:=Ya.1 hc;have:=h _ _ h1;have:=k _ _ h2;omega
theorem Qk.or{n:Nat}{X Y:Qf}(h:Qk n X)(k:Qk n Y):Qk n (orB X Y):=fun a b hc=>by
 rcases Js.1 hc with hc | hc
 ·exact h _ _ hc
 ·exact k _ _ hc
theorem Qk.pow{n:Nat}{X:Qf}(h:Qk n X):∀ k,Qk n (Ql X n k)
 | 0=>Qk.id n
 | k+1=>h.comp (Qk.pow h k)
theorem U6(X Y Z:Qf):comp (comp X Y) Z=comp X (comp Y Z):=by
 apply J5;intro i j;simp only [Ya];constructor
 ·rintro⟨b,g,⟨a,f,c,d⟩,e⟩;exact⟨a,f,c,b,g,d,e⟩
 ·rintro⟨a,f,c,b,g,d,e⟩;exact⟨b,g,⟨a,f,c,d⟩,e⟩
theorem Wu{n:Nat}(e:n<=32){X:Qf}(h:Qk n X):comp X (idB n)=X:=by
 apply J5;intro c b;simp only [Ya,Yz];constructor
 ·rintro⟨d,_,a,rfl,_⟩;exact a
 ·intro a;have:=h _ _ a;exact⟨b,by omega,a,rfl,by omega⟩
theorem Wr{n:Nat}(e:n<=32){X:Qf}(h:Qk n X):comp (idB n) X=X:=by
 apply J5;intro b d;simp only [Ya,Yz];constructor
 ·rintro⟨c,_,⟨rfl,_⟩,a⟩;exact a
 ·intro a;have:=h _ _ a;exact⟨b,by omega,⟨rfl,by omega⟩,a⟩
theorem Kr{n:Nat}(hn:n<=32){X:Qf}(h:Qk n X)(j:Nat):∀ k,Ql X n (k+j)=comp (Ql X n k) (Ql X n j)
 | 0=>by rw [Nat.zero_add];exact(Wr hn (Qk.pow h j)).symm
 | k+1=>by
  rw [show k+1+j=(k+j)+1 by omega];show comp X _=comp (comp X _) _;rw [Kr hn h j k,U6]
def Nv(n:Nat):Nat->Nat->Qf->Qf->Qf
 | 0,_,_,out=>out
 | f+1,k,x,out=>if k=0 then out else Nv n f (k / 2) (comp x x) (if k % 2=1 then comp out x else out)
theorem G4{n:Nat}(hn:n<=32){X:Qf}(h:Qk n X):∀ k,Ql (comp X X) n k=Ql X n (2*k)
 | 0=>rfl
 | k+1=>by
  show comp (comp X X) _=_;rw [G4 hn h k,show 2*(k+1)=2*k+1+1 by omega,U6];rfl
def Hn(X:Qf)(n lo:Nat):Nat->Qf
 | 0=>Ql X n lo
 | e+1=>orB (Hn X n lo e) (Ql X n (lo+(e+1)))
theorem Ye{X:Qf}{n lo:Nat}:∀ {e a b:Nat},Hn X n lo e a b=true↔∃ j,j<=e/\Ql X n (lo+j) a b=true
 | 0,a,b=>⟨fun h=>⟨0,Nat.le_refl _,h⟩,fun⟨j,h1,h2⟩=>by obtain rfl:j=0:=(by omega);exact h2⟩
 | e+1,a,b=>by
  show orB _ _ a b=true↔_;rw [Js,Ye];constructor
  ·rintro(⟨j,h1,h2⟩ | h)
   ·exact⟨j,by omega,h2⟩
   ·exact⟨e+1,Nat.le_refl _,h⟩
  ·rintro⟨j,h1,h2⟩;by_cases hj:j<=e
   ·exact .inl ⟨j,hj,h2⟩
   ·obtain rfl:j=e+1:=by omega
    exact .inr h2
theorem Uh{n:Nat}(hn:n<=32){X:Qf}(h:Qk n X):∀ e,Ql (orB X (idB n)) n e=Hn X n 0 e
 | 0=>rfl
 | e+1=>by
  apply J5;intro a c;show comp _ _ a c=true↔_;rw [Ya,Ye];constructor
  ·rintro⟨b,hb,h1,h2⟩;rw [Uh hn h e,Ye] at h2;obtain⟨j,hj,h2⟩:=h2;rcases Js.1 h1 with h1 | h1
   ·refine⟨j+1,by omega,?_⟩;rw [show 0+(j+1)=(0+j)+1 by omega];exact Ya.2 ⟨b,hb,h1,h2⟩
   ·obtain⟨rfl,_⟩:=Yz.1 h1;exact⟨j,by omega,h2⟩
  ·rintro⟨j,hj,h2⟩;rw [Nat.zero_add] at h2;cases j with
   | zero=>
    obtain⟨rfl,ha⟩:=Yz.1 h2;refine⟨a,by omega,Js.2 (.inr (Yz.2 ⟨rfl,ha⟩)),?_⟩;rw [Uh hn h e,Ye];exact⟨0,by omega,Yz.2 ⟨rfl,ha⟩⟩
   | succ j=>
    obtain⟨b,hb,h3,h4⟩:=Ya.1 h2;refine⟨b,hb,Js.2 (.inl h3),?_⟩;rw [Uh hn h e,Ye];exact⟨j,by omega,by rw [Nat.zero_add];exact h4⟩
def Jl(X:Qf)(n lo e:Nat):Qf:=comp (Ql X n lo) (Ql (orB X (idB n)) n e)
theorem W0{n:Nat}(g:n<=32){X:Qf}(h:Qk n X)(lo e:Nat):Jl X n lo e=Hn X n lo e:=by
 apply J5;intro k l;unfold Jl;rw [Uh g h,Ya,Ye];constructor
 ·rintro⟨c,d,b,a⟩;obtain⟨i,f,a⟩:=Ye.1 a;rw [Nat.zero_add] at a;exact⟨i,f,by rw [Kr g h];exact Ya.2 ⟨c,d,b,a⟩⟩
 ·rintro⟨i,f,b⟩;rw [Kr g h] at b;obtain⟨c,d,a,j⟩:=Ya.1 b;exact⟨c,d,a,Ye.2 ⟨i,f,by rw [Nat.zero_add];exact j⟩⟩
def sat(s c:Nat × Nat):Bool:=(c.1 &&& s.1 == c.1) && (c.2 &&& s.2 == c.2)
def Z5(w:Wd)(c:Nat × Nat)(nt:Bool):Qf:=fun a b=>b == a+1 && decide (a<w.length) && (sat (w.getD a (0,0)) c != nt)
def Zy(a:Nat):Qf:=fun x y=>x == a && y == a
def Xz(n:Nat)(mn mx:Int):Nat:=if mx<0 then n else(mx - mn).toNat
mutual
def Yn(w:Wd):Pat->Qf
 | .node k pl mi nt mn mx l=>
  if k=1 then Z5 w (pl,mi) nt
  else if k=2 then Zy 0
  else if k=6 then Zy w.length
  else if k=4 then Ve w l
  else if k=5 then Vw w l mn mx
  else Ue w l (idB w.length)
def Ue(w:Wd):List Pat->Qf->Qf
 | [],X=>X
 | p::l,X=>Ue w l (comp X (Yn w p))
def Ve(w:Wd):List Pat->Qf
 | []=>noB
 | p::l=>orB (Yn w p) (Ve w l)
def Vw(w:Wd):List Pat->Int->Int->Qf
 | [],_,_=>noB
 | p::_,mn,mx=>Jl (Yn w p) w.length mn.toNat (Xz w.length mn mx)
end
theorem Qk.sound(w:Wd)(c:Nat × Nat)(nt:Bool):Qk w.length (Z5 w c nt):=fun a b h=>by
 simp only [Z5,Bool.and_eq_true,beq_iff_eq,decide_eq_true_eq] at h;omega
theorem Qk.edge{n a:Nat}(h:a<=n):Qk n (Zy a):=fun x y hh=>by
 simp only [Zy,Bool.and_eq_true,beq_iff_eq] at hh;omega
mutual
theorem Yx(w:Wd):∀ p,Qk w.length (Yn w p)
 | .node k pl mi nt mn mx l=>by
  unfold Yn
  split
  ·exact Qk.sound _ _ _
  ·split
   ·exact Qk.edge (Nat.zero_le _)
   ·split
    ·exact Qk.edge (Nat.le_refl _)
    ·split
     ·exact Gm w l
     ·split
      ·exact Fx w l mn mx
      ·exact Gr w l _ (Qk.id _)
theorem Gr(w:Wd):∀(l:List Pat) (X:Qf),Qk w.length X->Qk w.length (Ue w l X)
 | [],_,h=>by unfold Ue;exact h
 | p::l,X,h=>by unfold Ue;exact Gr w l _ (h.comp (Yx w p))
theorem Gm(w:Wd):∀(l:List Pat),Qk w.length (Ve w l)
 | []=>by unfold Ve;exact Qk.no _
 | p::l=>by unfold Ve;exact(Yx w p).or (Gm w l)
theorem Fx(w:Wd):∀(l:List Pat) (mn mx:Int),Qk w.length (Vw w l mn mx)
 | [],_,_=>by unfold Vw;exact Qk.no _
 | p::_,mn,mx=>by unfold Vw Jl;exact(Qk.pow (Yx w p) _).comp (Qk.pow ((Yx w p).or (Qk.id _)) _)
end
theorem Fj(X Y Z:Qf):orB (orB X Y) Z=orB X (orB Y Z):=by funext a b;simp [orB,Bool.or_assoc]
theorem My(X:Qf):orB X noB=X:=by funext a b;simp [orB,noB]
theorem Nh(X:Qf):orB noB X=X:=by funext a b;simp [orB,noB]
end Go.Ab
namespace Go.Ab
def P3(X:Qf)(n lo k:Nat):Qf:=if k<=lo then noB else Hn X n lo (k - lo - 1)
def Q3(X:Qf)(a:Nat):Nat:=Y6 33 (X a)
theorem Lk{n:Nat}{X:Qf}(c:Qk n X){a:Nat}(h:n<a):Q3 X a=0:=by
 have:X a=fun _=>false:=by
  funext b
  cases hh:X a b with
  | false=>rfl
  | true=>have:=c _ _ hh;omega
 rw [Q3,this,X9]
theorem M7(X Y:Qf)(a:Nat):Q3 X a ||| Q3 Y a=Q3 (orB X Y) a:=by
 unfold Q3;rw [Wl];rfl
theorem Yy(a:Nat):Q3 noB a=0:=X9 33
theorem Mq{n a:Nat}(b:n<=32)(h:a<=n):Q3 (idB n) a=2 ^ a:=by
 rw [Je (n:=33) (by omega)]
 exact Xe fun i _=>by
  apply Bool.eq_iff_iff.2;rw [Yz,beq_iff_eq];omega
theorem U7(X:Qf){a b:Nat}(c:b<33):(Q3 X a).testBit b=X a b:=by
 rw [Q3,Y8];simp [c]
def Zr(Y:Qf)(pre:List Nat):Nat:=Y6 33 fun c=>pre.any fun b=>Y b c
theorem Fy(Y:Qf):Zr Y []=0:=X9 33
theorem Dj(Y:Qf)(a:List Nat)(b:Nat):Zr Y (a++[b])=Zr Y a ||| Q3 Y b:=by
 unfold Zr Q3;rw [Wl];exact Xe fun i _=>by simp
theorem Fi(X Y:Qf)(a:Nat):Zr Y ((List.range 33).filter (X a))=Q3 (comp X Y) a:=by
 unfold Zr Q3 comp;exact Xe fun i _=>by rw [List.any_filter]
theorem Vy(X:Qf)(a:Nat):evs (Q3 X a)=(List.range 33).filter (X a):=Lm 33 (by decide) _
end Go.Ab
namespace Go.Ab
inductive Qp where
 | sound (pl mi:Nat) (nt:Bool)
 | edge (e:Bool)
 | seq (l:List Qp)
 | alt (l:List Qp)
 | rep (of:Qp) (mn mx:Int)
mutual
def Zk(w:Wd):Qp->Qf
 | .sound pl mi nt=>Z5 w (pl,mi) nt
 | .edge e=>Zy (if e then w.length else 0)
 | .seq l=>X4 w l (idB w.length)
 | .alt l=>Yk w l noB
 | .rep p mn mx=>Jl (Zk w p) w.length mn.toNat (Xz w.length mn mx)
def X4(w:Wd):List Qp->Qf->Qf
 | [],X=>X
 | p::l,X=>X4 w l (comp X (Zk w p))
def Yk(w:Wd):List Qp->Qf->Qf
 | [],X=>X
 | p::l,X=>Yk w l (orB X (Zk w p))
end
theorem Ga(w:Wd)(p:Qp):∀(l:List Qp) (X:Qf),X4 w (l++[p]) X=comp (X4 w l X) (Zk w p)
 | [],X=>by simp [X4]
 | q::l,X=>by rw [List.cons_append];unfold X4;exact Ga w p l _
theorem Gg(w:Wd)(p:Qp):∀(l:List Qp) (X:Qf),Yk w (l++[p]) X=orB (Yk w l X) (Zk w p)
 | [],X=>by simp [Yk]
 | q::l,X=>by rw [List.cons_append];unfold Yk;exact Gg w p l _
mutual
theorem Xv(w:Wd):∀ p,Qk w.length (Zk w p)
 | .sound pl mi nt=>by unfold Zk;exact Qk.sound _ _ _
 | .edge e=>by unfold Zk;exact Qk.edge (by cases e <;> simp)
 | .seq l=>by unfold Zk;exact Gd w l _ (Qk.id _)
 | .alt l=>by unfold Zk;exact Gi w l _ (Qk.no _)
 | .rep p mn mx=>by unfold Zk Jl;exact(Qk.pow (Xv w p) _).comp (Qk.pow ((Xv w p).or (Qk.id _)) _)
theorem Gd(w:Wd):∀(l:List Qp) (X:Qf),Qk w.length X->Qk w.length (X4 w l X)
 | [],_,h=>by unfold X4;exact h
 | p::l,X,h=>by unfold X4;exact Gd w l _ (h.comp (Xv w p))
theorem Gi(w:Wd):∀(l:List Qp) (X:Qf),Qk w.length X->Qk w.length (Yk w l X)
 | [],_,h=>by unfold Yk;exact h
 | p::l,X,h=>by unfold Yk;exact Gi w l _ (h.or (Xv w p))
end
mutual
def cmp:Pat->Qp
 | .node k pl mi nt mn mx l=>
  if k=1 then .sound pl mi nt
  else if k=2 then .edge false
  else if k=6 then .edge true
  else if k=4 then .alt (Yg l)
  else if k=5 then .rep ((Yg l).headD (.seq [])) mn mx
  else .seq (Yg l)
def Yg:List Pat->List Qp
 | []=>[]
 | p::l=>cmp p::Yg l
end
theorem J9(l:List Pat):Yg l=l.map cmp:=by
 induction l with
 | nil=>rfl
 | cons p l ih=>unfold Yg;rw [ih];rfl
mutual
def Yh:Pat->Prop
 | .node k pl mi nt mn mx l=>Y3 (.node k pl mi nt mn mx l)=0/\l.length<=40/\Yj l
def Yj:List Pat->Prop
 | []=>True
 | p::l=>Yh p/\Yj l
end
theorem U5{l:List Pat}:Yj l↔∀ p∈l,Yh p:=by
 induction l with
 | nil=>simp [Yj]
 | cons p l ih=>unfold Yj;rw [ih];simp
theorem Lv(p:Pat)(n:Nat)(c:n<=40)(h:(Y2 p n).2=0):n+1<=(Y2 p n).1:=by
 cases p with
 | node k pl mi nt mn mx l=>
  unfold Y2 at h ⊢;by_cases b:n=40
  ·rw [if_pos b] at h;cases h
  ·rw [if_neg b] at h ⊢;by_cases a:Y3 (.node k pl mi nt mn mx l)=0
   ·rw [if_pos a];exact(Jh l (n+1) [] (by omega)).1.2
   ·rw [if_neg a] at h;exact absurd h a
theorem Gn:∀(l:List Pat) (n:Nat),n<=40->(Ym l n).2=0->n+l.length<=(Ym l n).1
 | [],n,_,_=>by simp [Ym]
 | p::l,n,hn,h=>by
  unfold Ym Gy at h ⊢;by_cases he:(Y2 p n).2=0
  ·rw [if_pos he] at h ⊢;have h1:=Lv p n hn he;have h2:=Gn l _ (Jg p n [] hn).1.1 h;simp only [List.length_cons];omega
  ·rw [if_neg he] at h;exact absurd h he
mutual
theorem W6:∀(p:Pat) (n:Nat),n<=40->(Y2 p n).2=0->Yh p
 | .node k pl mi nt mn mx l,n,hn40,h=>by
  unfold Y2 at h;unfold Yh;by_cases hn:n=40
  ·rw [if_pos hn] at h;cases h
  ·rw [if_neg hn] at h;by_cases he:Y3 (.node k pl mi nt mn mx l)=0
   ·rw [if_pos he] at h;have h1:=Gn l (n+1) (by omega) h;have h2:=(Jh l (n+1) [] (by omega)).1.1;exact⟨he,by omega,Hi l _ (by omega) h⟩
   ·rw [if_neg he] at h;exact absurd h he
theorem Hi:∀(l:List Pat) (n:Nat),n<=40->(Ym l n).2=0->Yj l
 | [],_,_,_=>by unfold Yj;trivial
 | p::l,n,hn,h=>by
  unfold Ym Gy at h;unfold Yj;by_cases he:(Y2 p n).2=0
  ·rw [if_pos he] at h;exact⟨W6 p n hn he,Hi l _ (Jg p n [] hn).1.1 h⟩
  ·rw [if_neg he] at h;exact absurd h he
end
theorem Kw{p:Pat}(h:Ze p=0):Yh p:=W6 p 0 (by omega) (by rw [Da];exact h)
theorem L9{c:Prop} [Decidable c] (h:(if c then(0:Int) else 14)=0):c:=by
 by_cases a:c
 ·exact a
 ·rw [if_neg a] at h;cases h
theorem Jp{c:Prop} [Decidable c] {x:Int} (h:(if c then 2 else x)=0):¬ c/\x=0:=by
 by_cases a:c
 ·rw [if_pos a] at h;cases h
 ·rw [if_neg a] at h;exact⟨a,h⟩
theorem J0{k:Int}{pl mi:Nat}{nt:Bool}{mn mx:Int}{l:List Pat}(h:Y3 (.node k pl mi nt mn mx l)=0) :
  (0<=k/\k<=6)/\(k≠1->pl=0/\mi=0/\nt=false)/\(k≠3->k≠4->k≠5->l=[])/\(k≠5->mn=0/\mx=0) /\
   (k=5->l.length=1/\0<=mn/\mn<=32/\(mx=-1\/mn<=mx/\mx<=32))/\Z3 pl mi=true:=by
 unfold Y3 at h;simp only [Pat.k,Pat.pl,Pat.mi,Pat.nt,Pat.mn,Pat.mx,Pat.l] at h;obtain⟨j,h⟩:=Jp h;obtain⟨f,h⟩:=Jp h;obtain⟨g,h⟩:=Jp h;obtain⟨m,h⟩:=Jp h;obtain⟨d,h⟩:=Jp h;have i:Z3 pl mi=true:=L9 h;refine⟨by omega,fun hk=>?_,fun a b c=>?_,fun hk=>by omega,fun hk=>?_,i⟩
 ·refine⟨?_,?_,?_⟩
  ·exact Classical.byContradiction fun hh=>f ⟨hk,.inl hh⟩
  ·exact Classical.byContradiction fun hh=>f ⟨hk,.inr (.inl hh)⟩
  ·cases nt
   ·rfl
   ·exact absurd ⟨hk,.inr (.inr rfl)⟩ f
 ·exact List.eq_nil_of_length_eq_zero (Classical.byContradiction fun hh=>g ⟨a,b,c,hh⟩)
 ·refine⟨Classical.byContradiction fun hh=>d ⟨hk,.inl hh⟩,?_,?_,?_⟩
  ·apply Int.not_lt.1;exact fun hh=>d ⟨hk,.inr (.inl hh)⟩
  ·apply Int.not_lt.1;exact fun hh=>d ⟨hk,.inr (.inr (.inl hh))⟩
  ·by_cases e:mx=-1
   ·exact .inl e
   ·refine .inr ⟨?_,?_⟩
    ·apply Int.not_lt.1;exact fun hh=>d ⟨hk,.inr (.inr (.inr ⟨e,.inl hh⟩))⟩
    ·apply Int.not_lt.1;exact fun hh=>d ⟨hk,.inr (.inr (.inr ⟨e,.inr hh⟩))⟩
theorem Wo(w:Wd):∀(l:List Qp) (X Y:Qf),Yk w l (orB X Y)=orB X (Yk w l Y)
 | [],X,Y=>by unfold Yk;rfl
 | p::l,X,Y=>by unfold Yk;rw [Fj,Wo w l]
mutual
theorem Uc(w:Wd):∀ p,Yh p->Zk w (cmp p)=Yn w p
 | .node k pl mi nt mn mx l,h=>by
  unfold Yh at h;obtain⟨_,_,_,_,h5,_⟩:=J0 h.1;unfold cmp Yn
  split
  ·unfold Zk;rfl
  ·split
   ·unfold Zk;rfl
   ·split
    ·unfold Zk;rfl
    ·split
     ·unfold Zk;exact(H2 w l h.2.2)
     ·split
      ·rename_i hk
       have hl:=(h5 hk).1
       match l,hl,h.2.2 with
       | [q],_,h2=>
        unfold Yj at h2;unfold Zk Vw;show Jl (Zk w (cmp q)) _ _ _=_;rw [Uc w q h2.1]
      ·unfold Zk;exact H7 w l _ h.2.2
theorem H7(w:Wd):∀(l:List Pat) (X:Qf),Yj l->X4 w (Yg l) X=Ue w l X
 | [],X,_=>by unfold Yg X4 Ue;rfl
 | p::l,X,h=>by
  unfold Yj at h;unfold Yg X4 Ue;rw [Uc w p h.1,H7 w l _ h.2]
theorem H2(w:Wd):∀(l:List Pat),Yj l->Yk w (Yg l) noB=Ve w l
 | [],_=>by unfold Yg Yk Ve;rfl
 | p::l,h=>by
  unfold Yj at h;unfold Yg Yk Ve;rw [Nh,<-My (Zk w (cmp p)),Wo,Uc w p h.1,H2 w l h.2]
end
end Go.Ab
