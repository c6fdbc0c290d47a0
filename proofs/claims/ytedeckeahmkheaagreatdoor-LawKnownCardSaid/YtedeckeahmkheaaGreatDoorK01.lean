/- PLAIN: -/
import Derived.Lib.TrailingZeros
namespace Go.Ab
def Ye:Nat->(Nat->Bool)->Nat
 | 0,_=>0
 | n+1,p=>Ye n p+if p n then 2 ^ n else 0
theorem Uj(n:Nat)(p:Nat->Bool):Ye n p<2 ^ n:=by
 induction n with
 | zero=>simp [Ye]
 | succ n ih=>
  unfold Ye;rw [Nat.pow_succ]
  split <;> omega
theorem Yc(n:Nat)(p:Nat->Bool)(i:Nat):(Ye n p).testBit i=(decide (i<n) && p i):=by
 induction n with
 | zero=>simp [Ye]
 | succ n ih=>
  unfold Ye;have f:=Uj n p;by_cases a:p n=true
  ·rw [if_pos a,Nat.add_comm];rw [show 2 ^ n+Ye n p=2 ^ n*1+Ye n p by omega];rw [Nat.testBit_two_pow_mul_add _ f]
   split
   ·rename_i c;rw [ih];simp [c,Nat.lt_succ_of_lt c]
   ·rename_i c
    by_cases b:i=n
    ·subst b;simp [a]
    ·obtain⟨d,e⟩:∃ d,i - n=d+1:=⟨i - n - 1,by omega⟩;rw [e,Nat.testBit_succ];simp;omega
  ·rw [if_neg a,Nat.add_zero,ih];by_cases b:i=n
   ·subst b;simp at a;simp [a]
   ·have:(i<n+1)↔(i<n):=by omega
    simp [this]
theorem H8{n v:Nat}{p:Nat->Bool}(b:v<2 ^ n)(h:∀ i,i<n->v.testBit i=p i):v=Ye n p:=by
 apply Nat.eq_of_testBit_eq;intro i;rw [Yc];by_cases a:i<n
 ·simp [a,h i a]
 ·rw [Nat.testBit_lt_two_pow (Nat.lt_of_lt_of_le b (Nat.pow_le_pow_right (by decide) (by omega)))];simp [a]
theorem Jb{n:Nat}{p q:Nat->Bool}(h:∀ i,i<n->p i=q i):Ye n p=Ye n q:=
 H8 (Uj n p) fun i hi=>by rw [Yc];simp [hi,h i hi]
theorem L2(n:Nat)(p q:Nat->Bool):Ye n p ||| Ye n q=Ye n (fun i=>p i || q i):=
 H8 (Nat.or_lt_two_pow (Uj n p) (Uj n q)) fun i hi=>by
  rw [Nat.testBit_or,Yc,Yc];simp [hi]
theorem Up{n x:Nat}(hx:x<n):2 ^ x=Ye n (fun i=>i == x):=
 H8 (Nat.pow_lt_pow_right (by decide) hx) fun i _=>by
  rw [Nat.testBit_two_pow];by_cases h:x=i
  ·subst h;simp
  ·have:(i == x)=false:=by simp;omega
   simp [h,this]
theorem J6(n:Nat):Ye n (fun _=>false)=0:=by
 induction n with
 | zero=>rfl
 | succ n ih=>simp [Ye,ih]
def evs(v:Nat):List Nat:=(List.range 64).filter v.testBit
theorem P3:evs 0=[]:=by simp [evs]
theorem Ri{v i:Nat}:i∈evs v↔i<64/\v.testBit i=true:=by simp [evs]
theorem P6(n:Nat)(f:n<=64)(p:Nat->Bool):evs (Ye n p)=(List.range n).filter p:=by
 unfold evs;have b:(64:Nat)=n+(64 - n):=by omega
 rw [b,List.range_add,List.filter_append];have c:(List.range n).filter (Ye n p).testBit=(List.range n).filter p:=by
  apply List.filter_congr;intro e a;rw [Yc];simp at a;simp [a]
 have d:(List.map (n+·) (List.range (64 - n))).filter (Ye n p).testBit=[]:=by
  rw [List.filter_eq_nil_iff];intro e a;simp only [List.mem_map,List.mem_range] at a;obtain⟨g,_,rfl⟩:=a;rw [Yc];simp;omega
 rw [c,d,List.append_nil]
theorem Wq(v:Nat)(b:v≠0)(h:v<2 ^ 64):∃ m,v=2 ^ Lib.ctz 64 v*(2*m+1)/\Lib.ctz 64 v<64:=by
 obtain⟨m,d,c⟩:=Lib.ctzFrom_spec 64 v (by omega) h;have a:Lib.ctz 64 v=Lib.ctzFrom 64 v:=by simp [Lib.ctz,b]
 rw [a];exact⟨m,d,c⟩
theorem Wk(k m:Nat):2 ^ k*(2*m+1) &&& (2 ^ k*(2*m+1) - 1)=2 ^ (k+1)*m:=by
 have r:0<2 ^ k:=Nat.two_pow_pos k;have l:2 ^ k*(2*m+1) - 1=2 ^ k*(2*m)+(2 ^ k - 1):=by
  rw [Nat.mul_add,Nat.mul_one];omega
 rw [l];apply Nat.eq_of_testBit_eq;intro b;have q:(2 ^ k - 1)<2 ^ k:=by omega
 rw [Nat.testBit_and,Nat.testBit_two_pow_mul_add _ q,Nat.testBit_two_pow_mul,Nat.testBit_two_pow_mul];by_cases p:b<k
 ·have c:¬ b>=k:=by omega
  have d:¬ b>=k+1:=by omega
  simp [c,d]
 ·rw [if_neg p];by_cases j:b=k
  ·subst j;simp [Nat.testBit_zero];omega
  ·obtain⟨a,rfl⟩:∃ a,b=k+(a+1):=⟨b - k - 1,by omega⟩;have g:k+(a+1) - k=a+1:=by omega
   have i:k+(a+1) - (k+1)=a:=by omega
   rw [g,i,Nat.testBit_succ,Nat.testBit_succ];have e:(2*m+1) / 2=m:=by omega
   have f:2*m / 2=m:=by omega
   rw [e,f];have n:k+(a+1)>=k:=by omega
   have o:k+(a+1)>=k+1:=by omega
   simp [n,o]
theorem K5(k m i:Nat):(2 ^ k*(2*m+1)).testBit i=(decide (i=k) || (decide (k<i) && m.testBit (i - (k+1)))):=by
 rw [Nat.testBit_two_pow_mul];by_cases o:i<k
 ·have b:¬ i>=k:=by omega
  have c:¬ i=k:=by omega
  have d:¬ k<i:=by omega
  simp [b,c,d]
 ·by_cases j:i=k
  ·subst j;simp [Nat.testBit_zero]
  ·obtain⟨a,rfl⟩:∃ a,i=k+(a+1):=⟨i - k - 1,by omega⟩;have f:k+(a+1) - k=a+1:=by omega
   have g:k+(a+1) - (k+1)=a:=by omega
   rw [f,g,Nat.testBit_succ];have e:(2*m+1) / 2=m:=by omega
   rw [e];have l:k+(a+1)>=k:=by omega
   have n:k<k+(a+1):=by omega
   simp [l,n]
theorem Nv(v:Nat)(j:v≠0)(h:v<2 ^ 64):evs v=Lib.ctz 64 v::evs (v &&& (v - 1)):=by
 obtain⟨g,f,k⟩:=Wq v j h;generalize Lib.ctz 64 v=a at f k;have d:∀ b,v.testBit b=(decide (b=a) || (decide (a<b) && g.testBit (b - (a+1)))):=fun b=>by rw [f];exact K5 a g b
 have e:∀ b,(v &&& (v - 1)).testBit b=(decide (a<b) && g.testBit (b - (a+1))):=fun b=>by
  rw [f,Wk,Nat.testBit_two_pow_mul];simp only [ge_iff_le,Nat.succ_le_iff]
 unfold evs;have i:(64:Nat)=a+(1+(63 - a)):=by omega
 rw [i,List.range_add,List.filter_append,List.filter_append,List.range_add,List.map_append,List.filter_append,List.filter_append];have n:(List.range a).filter v.testBit=[]:=by
  rw [List.filter_eq_nil_iff];intro b c;simp at c;rw [d];simp;omega
 have o:(List.range a).filter (v &&& (v - 1)).testBit=[]:=by
  rw [List.filter_eq_nil_iff];intro b c;simp at c;rw [e];simp;omega
 have l:(List.map (a+·) (List.range 1)).filter v.testBit=[a]:=by
  have:v.testBit a=true:=by rw [d];simp
  simp [List.range_one,this]
 have m:(List.map (a+·) (List.range 1)).filter (v &&& (v - 1)).testBit=[]:=by
  have:(v &&& (v - 1)).testBit a=false:=by rw [e];simp
  simp [List.range_one,this]
 rw [n,o,l,m,List.nil_append,List.nil_append,List.nil_append,List.singleton_append]
 congr 1
 apply List.filter_congr;intro b c;simp only [List.mem_map,List.mem_range] at c;obtain⟨p,⟨q,_,rfl⟩,rfl⟩:=c;rw [d,e];simp
end Go.Ab
namespace Go.Ab
inductive Pat where
 | node (k:Int) (pl mi:Nat) (nt:Bool) (mn mx:Int) (l:List Pat)
namespace Pat
def k:Pat->Int | node k _ _ _ _ _ _=>k
def pl:Pat->Nat | node _ p _ _ _ _ _=>p
def mi:Pat->Nat | node _ _ m _ _ _ _=>m
def nt:Pat->Bool | node _ _ _ b _ _ _=>b
def mn:Pat->Int | node _ _ _ _ x _ _=>x
def mx:Pat->Int | node _ _ _ _ _ x _=>x
def l:Pat->List Pat | node _ _ _ _ _ _ l=>l
end Pat
def Qx(pl mi:Nat):Bool:=pl &&& mi == 0 && (pl ||| mi) / 16777216 == 0
def Yg(p:Pat):Int:=
 if p.k<0\/6<p.k then 2
 else if p.k≠1/\(p.pl≠0\/p.mi≠0\/p.nt=true) then 2
 else if p.k≠3/\p.k≠4/\p.k≠5/\p.l.length≠0 then 2
 else if p.k≠5/\(p.mn≠0\/p.mx≠0) then 2
 else if p.k=5/\(p.l.length≠1\/p.mn<0\/32<p.mn\/(p.mx≠-1/\(p.mx<p.mn\/32<p.mx))) then 2
 else if Qx p.pl p.mi=true then 0 else 14
def chk:Nat->List Pat->Int
 | _,[]=>0
 | 0,_::_=>12
 | f+1,p::l=>if Yg p=0 then chk f (p.l++l) else Yg p
theorem K1(f:Nat)(p:Pat)(l:List Pat):chk (f+1) (p::l)=if Yg p=0 then chk f (p.l++l) else Yg p:=rfl
def Zk(p:Pat):Int:=chk 40 [p]
def W9(r:Nat × Int)(f:Nat->Nat × Int):Nat × Int:=if r.2=0 then f r.1 else r
mutual
def Y7:Pat->Nat->Nat × Int
 | .node k pl mi nt mn mx l,n=>if n=40 then(n,12) else if Yg (.node k pl mi nt mn mx l)=0 then X2 l (n+1) else(n,Yg (.node k pl mi nt mn mx l))
def X2:List Pat->Nat->Nat × Int
 | [],n=>(n,0)
 | p::l,n=>W9 (Y7 p n) (X2 l)
end
mutual
theorem V5:∀(p:Pat) (n:Nat) (rest:List Pat),n<=40->((Y7 p n).1<=40/\n<=(Y7 p n).1)/\chk (40 - n) (p::rest)=(if (Y7 p n).2=0 then chk (40 - (Y7 p n).1) rest else(Y7 p n).2)
 | .node k pl mi nt mn mx l,n,rest,hn=>by
  unfold Y7;by_cases h:n=40
  ·subst h;rw [if_pos rfl];exact⟨⟨by simp,by simp⟩,by simp [chk]⟩
  ·rw [if_neg h];obtain⟨f,hf⟩:∃ f,40 - n=f+1:=⟨39 - n,by omega⟩;rw [hf];by_cases he:Yg (.node k pl mi nt mn mx l)=0
   ·rw [if_pos he];have:=Uz l (n+1) rest (by omega);refine⟨⟨this.1.1,by have:=this.1.2;omega⟩,?_⟩;rw [K1,if_pos he,<-this.2,show 40 - (n+1)=f by omega];rfl
   ·rw [if_neg he];refine⟨⟨hn,Nat.le_refl _⟩,?_⟩;rw [K1,if_neg he,if_neg he]
theorem Uz:∀(l:List Pat) (n:Nat) (rest:List Pat),n<=40->((X2 l n).1<=40/\n<=(X2 l n).1)/\chk (40 - n) (l++rest)=(if (X2 l n).2=0 then chk (40 - (X2 l n).1) rest else(X2 l n).2)
 | [],n,rest,hn=>by simp [X2,hn]
 | p::l,n,rest,hn=>by
  have h1:=V5 p n (l++rest) hn;rw [List.cons_append];unfold X2 W9;by_cases he:(Y7 p n).2=0
  ·rw [if_pos he] at h1 ⊢;have h2:=Uz l (Y7 p n).1 rest h1.1.1;exact⟨⟨h2.1.1,Nat.le_trans h1.1.2 h2.1.2⟩,h1.2.trans h2.2⟩
  ·rw [if_neg he] at h1 ⊢;exact⟨h1.1,by rw [h1.2,if_neg he]⟩
end
theorem Ll(p:Pat):(Y7 p 0).2=Zk p:=by
 have b:=(V5 p 0 [] (by omega)).2;unfold Zk;rw [b];by_cases a:(Y7 p 0).2=0
 ·rw [if_pos a,a];cases 40 - (Y7 p 0).1 <;> rfl
 ·rw [if_neg a]
theorem G6:∀(f:Nat) (l:List Pat) (m:Nat),f+1<=m->chk f (l.take m)=chk f l
 | f,[],m,_=>by simp
 | 0,p::l,m,h=>by
  obtain⟨m,rfl⟩:∃ k,m=k+1:=⟨m - 1,by omega⟩;rfl
 | f+1,p::l,m,h=>by
  obtain⟨m,rfl⟩:∃ k,m=k+1:=⟨m - 1,by omega⟩;rw [List.take_succ_cons];rw [K1,K1];by_cases he:Yg p=0
  ·rw [if_pos he,if_pos he];have h1:=G6 f (p.l++l) (p.l.length+m) (by omega);have h2:(p.l++l).take (p.l.length+m)=p.l++l.take m:=by
    rw [List.take_append];simp [List.take_of_length_le]
   rw [<-h1,h2]
  ·rw [if_neg he,if_neg he]
theorem Rs(f:Nat)(l rest:List Pat)(b:f<=40):chk f (l.take 41++rest)=chk f (l++rest):=by
 rw [<-G6 f (l.take 41++rest) 41 (by omega),<-G6 f (l++rest) 41 (by omega),List.take_append,List.take_append,List.take_take,List.length_take]
 congr 2
 by_cases a:l.length<=41
 ·rw [Nat.min_eq_right a]
 ·rw [Nat.min_eq_left (by omega),show 41 - l.length=0 by omega]
def szW:Nat->List Pat->Nat
 | _,[]=>0
 | 0,_::_=>0
 | f+1,p::l=>szW f (p.l++l)+1
def Sl(p:Pat):Nat:=szW 41 [p]
mutual
def Sg:Pat->Nat->Nat
 | .node _ _ _ _ _ _ l,n=>S4 l (n+1)
def S4:List Pat->Nat->Nat
 | [],n=>n
 | p::l,n=>if n<=40 then S4 l (Sg p n) else n
end
end Go.Ab
namespace Go.Ab
abbrev Qe:=Nat->Nat->Bool
abbrev Wd:=List (Nat × Nat)
def comp(X Y:Qe):Qe:=fun a c=>(List.range 33).any fun b=>X a b && Y b c
def idB(n:Nat):Qe:=fun a b=>a == b && decide (a<=n)
def orB(X Y:Qe):Qe:=fun a b=>X a b || Y a b
def noB:Qe:=fun _ _=>false
def Qp(X:Qe)(n:Nat):Nat->Qe
 | 0=>idB n
 | k+1=>comp X (Qp X n k)
def Qk(n:Nat)(X:Qe):Prop:=∀ a b,X a b=true->a<=b/\b<=n
theorem Vy{X Y:Qe}{a c:Nat}:comp X Y a c=true↔∃ b,b<33/\X a b=true/\Y b c=true:=by
 simp only [comp,List.any_eq_true,List.mem_range,Bool.and_eq_true]
theorem Kt{n a b:Nat}:idB n a b=true↔a=b/\a<=n:=by simp [idB]
theorem R6{X Y:Qe}{a b:Nat}:orB X Y a b=true↔X a b=true\/Y a b=true:=by simp [orB]
theorem H1{X Y:Qe}(h:∀ a b,X a b=true↔Y a b=true):X=Y:=by
 funext a b;exact Bool.eq_iff_iff.2 (h a b)
theorem Qk.id(n:Nat):Qk n (idB n):=fun a b h=>by rw [Kt] at h;omega
theorem Qk.no(n:Nat):Qk n noB:=fun a b h=>by cases h
theorem Qk.comp{n:Nat}{X Y:Qe}(h:Qk n X)(k:Qk n Y):Qk n (comp X Y):=fun a c hc=>by
 obtain⟨b,_,h1,h2⟩:=Vy.1 hc;have:=h _ _ h1;have:=k _ _ h2;omega
theorem Qk.or{n:Nat}{X Y:Qe}(h:Qk n X)(k:Qk n Y):Qk n (orB X Y):=fun a b hc=>by
 rcases R6.1 hc with hc | hc
 ·exact h _ _ hc
 ·exact k _ _ hc
theorem Qk.pow{n:Nat}{X:Qe}(h:Qk n X):∀ k,Qk n (Qp X n k)
 | 0=>Qk.id n
 | k+1=>h.comp (Qk.pow h k)
theorem Gu(X Y Z:Qe):comp (comp X Y) Z=comp X (comp Y Z):=by
 apply H1;intro i j;simp only [Vy];constructor
 ·rintro⟨b,g,⟨a,f,c,d⟩,e⟩;exact⟨a,f,c,b,g,d,e⟩
 ·rintro⟨a,f,c,b,g,d,e⟩;exact⟨b,g,⟨a,f,c,d⟩,e⟩
theorem R2{n:Nat}(e:n<=32){X:Qe}(h:Qk n X):comp X (idB n)=X:=by
 apply H1;intro c b;simp only [Vy,Kt];constructor
 ·rintro⟨d,_,a,rfl,_⟩;exact a
 ·intro a;have:=h _ _ a;exact⟨b,by omega,a,rfl,by omega⟩
theorem Rk{n:Nat}(e:n<=32){X:Qe}(h:Qk n X):comp (idB n) X=X:=by
 apply H1;intro b d;simp only [Vy,Kt];constructor
 ·rintro⟨c,_,⟨rfl,_⟩,a⟩;exact a
 ·intro a;have:=h _ _ a;exact⟨b,by omega,⟨rfl,by omega⟩,a⟩
def Se(n:Nat):Nat->Nat->Qe->Qe->Qe
 | 0,_,_,out=>out
 | f+1,k,x,out=>if k=0 then out else Se n f (k / 2) (comp x x) (if k % 2=1 then comp out x else out)
theorem H4{n:Nat}(hn:n<=32){X:Qe}(h:Qk n X):∀ k,Qp (comp X X) n k=Qp X n (2*k)
 | 0=>rfl
 | k+1=>by
  show comp (comp X X) _=_;rw [H4 hn h k,show 2*(k+1)=2*k+1+1 by omega,Gu];rfl
def S0(X:Qe)(n lo:Nat):Nat->Qe
 | 0=>Qp X n lo
 | e+1=>orB (S0 X n lo e) (Qp X n (lo+(e+1)))
def Hb(X:Qe)(n lo e:Nat):Qe:=comp (Qp X n lo) (Qp (orB X (idB n)) n e)
def sat(s c:Nat × Nat):Bool:=(c.1 &&& s.1 == c.1) && (c.2 &&& s.2 == c.2)
def Zq(w:Wd)(c:Nat × Nat)(nt:Bool):Qe:=fun a b=>b == a+1 && decide (a<w.length) && (sat (w.getD a (0,0)) c != nt)
def Y2(a:Nat):Qe:=fun x y=>x == a && y == a
def V1(n:Nat)(mn mx:Int):Nat:=if mx<0 then n else(mx - mn).toNat
mutual
def Jp(w:Wd):Pat->Qe
 | .node k pl mi nt mn mx l=>
  if k=1 then Zq w (pl,mi) nt
  else if k=2 then Y2 0
  else if k=6 then Y2 w.length
  else if k=4 then K6 w l
  else if k=5 then Wm w l mn mx
  else Ko w l (idB w.length)
def Ko(w:Wd):List Pat->Qe->Qe
 | [],X=>X
 | p::l,X=>Ko w l (comp X (Jp w p))
def K6(w:Wd):List Pat->Qe
 | []=>noB
 | p::l=>orB (Jp w p) (K6 w l)
def Wm(w:Wd):List Pat->Int->Int->Qe
 | [],_,_=>noB
 | p::_,mn,mx=>Hb (Jp w p) w.length mn.toNat (V1 w.length mn mx)
end
theorem Qk.sound(w:Wd)(c:Nat × Nat)(nt:Bool):Qk w.length (Zq w c nt):=fun a b h=>by
 simp only [Zq,Bool.and_eq_true,beq_iff_eq,decide_eq_true_eq] at h;omega
theorem Qk.edge{n a:Nat}(h:a<=n):Qk n (Y2 a):=fun x y hh=>by
 simp only [Y2,Bool.and_eq_true,beq_iff_eq] at hh;omega
mutual
theorem U4(w:Wd):∀ p,Qk w.length (Jp w p)
 | .node k pl mi nt mn mx l=>by
  unfold Jp
  split
  ·exact Qk.sound _ _ _
  ·split
   ·exact Qk.edge (Nat.zero_le _)
   ·split
    ·exact Qk.edge (Nat.le_refl _)
    ·split
     ·exact Ho w l
     ·split
      ·exact N7 w l mn mx
      ·exact Hi w l _ (Qk.id _)
theorem Hi(w:Wd):∀(l:List Pat) (X:Qe),Qk w.length X->Qk w.length (Ko w l X)
 | [],_,h=>by unfold Ko;exact h
 | p::l,X,h=>by unfold Ko;exact Hi w l _ (h.comp (U4 w p))
theorem Ho(w:Wd):∀(l:List Pat),Qk w.length (K6 w l)
 | []=>by unfold K6;exact Qk.no _
 | p::l=>by unfold K6;exact(U4 w p).or (Ho w l)
theorem N7(w:Wd):∀(l:List Pat) (mn mx:Int),Qk w.length (Wm w l mn mx)
 | [],_,_=>by unfold Wm;exact Qk.no _
 | p::_,mn,mx=>by unfold Wm Hb;exact(Qk.pow (U4 w p) _).comp (Qk.pow ((U4 w p).or (Qk.id _)) _)
end
theorem Nc(X Y Z:Qe):orB (orB X Y) Z=orB X (orB Y Z):=by funext a b;simp [orB,Bool.or_assoc]
theorem S6(X:Qe):orB X noB=X:=by funext a b;simp [orB,noB]
theorem Sa(X:Qe):orB noB X=X:=by funext a b;simp [orB,noB]
end Go.Ab
namespace Go.Ab
def Sp(X:Qe)(n lo k:Nat):Qe:=if k<=lo then noB else S0 X n lo (k - lo - 1)
def Q3(X:Qe)(a:Nat):Nat:=Ye 33 (X a)
theorem Pj{n:Nat}{X:Qe}(c:Qk n X){a:Nat}(h:n<a):Q3 X a=0:=by
 have:X a=fun _=>false:=by
  funext b
  cases hh:X a b with
  | false=>rfl
  | true=>have:=c _ _ hh;omega
 rw [Q3,this,J6]
theorem R8(X Y:Qe)(a:Nat):Q3 X a ||| Q3 Y a=Q3 (orB X Y) a:=by
 unfold Q3;rw [L2];rfl
theorem Xq(a:Nat):Q3 noB a=0:=J6 33
theorem R5{n a:Nat}(b:n<=32)(h:a<=n):Q3 (idB n) a=2 ^ a:=by
 rw [Up (n:=33) (by omega)]
 exact Jb fun i _=>by
  apply Bool.eq_iff_iff.2;rw [Kt,beq_iff_eq];omega
theorem Pz(X:Qe){a b:Nat}(c:b<33):(Q3 X a).testBit b=X a b:=by
 rw [Q3,Yc];simp [c]
def Zy(Y:Qe)(pre:List Nat):Nat:=Ye 33 fun c=>pre.any fun b=>Y b c
theorem Mh(Y:Qe):Zy Y []=0:=J6 33
theorem Lo(Y:Qe)(a:List Nat)(b:Nat):Zy Y (a++[b])=Zy Y a ||| Q3 Y b:=by
 unfold Zy Q3;rw [L2];exact Jb fun i _=>by simp
theorem Mw(X Y:Qe)(a:Nat):Zy Y ((List.range 33).filter (X a))=Q3 (comp X Y) a:=by
 unfold Zy Q3 comp;exact Jb fun i _=>by rw [List.any_filter]
theorem G5(X:Qe)(a:Nat):evs (Q3 X a)=(List.range 33).filter (X a):=P6 33 (by decide) _
end Go.Ab
namespace Go.Ab
inductive Qr where
 | sound (pl mi:Nat) (nt:Bool)
 | edge (e:Bool)
 | seq (l:List Qr)
 | alt (l:List Qr)
 | rep (of:Qr) (mn mx:Int)
mutual
def Zj(w:Wd):Qr->Qe
 | .sound pl mi nt=>Zq w (pl,mi) nt
 | .edge e=>Y2 (if e then w.length else 0)
 | .seq l=>Xt w l (idB w.length)
 | .alt l=>Yy w l noB
 | .rep p mn mx=>Hb (Zj w p) w.length mn.toNat (V1 w.length mn mx)
def Xt(w:Wd):List Qr->Qe->Qe
 | [],X=>X
 | p::l,X=>Xt w l (comp X (Zj w p))
def Yy(w:Wd):List Qr->Qe->Qe
 | [],X=>X
 | p::l,X=>Yy w l (orB X (Zj w p))
end
theorem Hx(w:Wd)(p:Qr):∀(l:List Qr) (X:Qe),Xt w (l++[p]) X=comp (Xt w l X) (Zj w p)
 | [],X=>by simp [Xt]
 | q::l,X=>by rw [List.cons_append];unfold Xt;exact Hx w p l _
theorem W1(w:Wd)(p:Qr):∀(l:List Qr) (X:Qe),Yy w (l++[p]) X=orB (Yy w l X) (Zj w p)
 | [],X=>by simp [Yy]
 | q::l,X=>by rw [List.cons_append];unfold Yy;exact W1 w p l _
mutual
theorem U6(w:Wd):∀ p,Qk w.length (Zj w p)
 | .sound pl mi nt=>by unfold Zj;exact Qk.sound _ _ _
 | .edge e=>by unfold Zj;exact Qk.edge (by cases e <;> simp)
 | .seq l=>by unfold Zj;exact Hs w l _ (Qk.id _)
 | .alt l=>by unfold Zj;exact Hy w l _ (Qk.no _)
 | .rep p mn mx=>by unfold Zj Hb;exact(Qk.pow (U6 w p) _).comp (Qk.pow ((U6 w p).or (Qk.id _)) _)
theorem Hs(w:Wd):∀(l:List Qr) (X:Qe),Qk w.length X->Qk w.length (Xt w l X)
 | [],_,h=>by unfold Xt;exact h
 | p::l,X,h=>by unfold Xt;exact Hs w l _ (h.comp (U6 w p))
theorem Hy(w:Wd):∀(l:List Qr) (X:Qe),Qk w.length X->Qk w.length (Yy w l X)
 | [],_,h=>by unfold Yy;exact h
 | p::l,X,h=>by unfold Yy;exact Hy w l _ (h.or (U6 w p))
end
mutual
def cmp:Pat->Qr
 | .node k pl mi nt mn mx l=>
  if k=1 then .sound pl mi nt
  else if k=2 then .edge false
  else if k=6 then .edge true
  else if k=4 then .alt (Yq l)
  else if k=5 then .rep ((Yq l).headD (.seq [])) mn mx
  else .seq (Yq l)
def Yq:List Pat->List Qr
 | []=>[]
 | p::l=>cmp p::Yq l
end
theorem Ur(l:List Pat):Yq l=l.map cmp:=by
 induction l with
 | nil=>rfl
 | cons p l ih=>unfold Yq;rw [ih];rfl
mutual
def U1:Pat->Prop
 | .node k pl mi nt mn mx l=>Yg (.node k pl mi nt mn mx l)=0/\l.length<=40/\Yz l
def Yz:List Pat->Prop
 | []=>True
 | p::l=>U1 p/\Yz l
end
theorem Li{l:List Pat}:Yz l↔∀ p∈l,U1 p:=by
 induction l with
 | nil=>simp [Yz]
 | cons p l ih=>unfold Yz;rw [ih];simp
theorem Ns(p:Pat)(n:Nat)(c:n<=40)(h:(Y7 p n).2=0):n+1<=(Y7 p n).1:=by
 cases p with
 | node k pl mi nt mn mx l=>
  unfold Y7 at h ⊢;by_cases b:n=40
  ·rw [if_pos b] at h;cases h
  ·rw [if_neg b] at h ⊢;by_cases a:Yg (.node k pl mi nt mn mx l)=0
   ·rw [if_pos a];exact(Uz l (n+1) [] (by omega)).1.2
   ·rw [if_neg a] at h;exact absurd h a
theorem Ht:∀(l:List Pat) (n:Nat),n<=40->(X2 l n).2=0->n+l.length<=(X2 l n).1
 | [],n,_,_=>by simp [X2]
 | p::l,n,hn,h=>by
  unfold X2 W9 at h ⊢;by_cases he:(Y7 p n).2=0
  ·rw [if_pos he] at h ⊢;have h1:=Ns p n hn he;have h2:=Ht l _ (V5 p n [] hn).1.1 h;simp only [List.length_cons];omega
  ·rw [if_neg he] at h;exact absurd h he
mutual
theorem Wo:∀(p:Pat) (n:Nat),n<=40->(Y7 p n).2=0->U1 p
 | .node k pl mi nt mn mx l,n,hn40,h=>by
  unfold Y7 at h;unfold U1;by_cases hn:n=40
  ·rw [if_pos hn] at h;cases h
  ·rw [if_neg hn] at h;by_cases he:Yg (.node k pl mi nt mn mx l)=0
   ·rw [if_pos he] at h;have h1:=Ht l (n+1) (by omega) h;have h2:=(Uz l (n+1) [] (by omega)).1.1;exact⟨he,by omega,Wh l _ (by omega) h⟩
   ·rw [if_neg he] at h;exact absurd h he
theorem Wh:∀(l:List Pat) (n:Nat),n<=40->(X2 l n).2=0->Yz l
 | [],_,_,_=>by unfold Yz;trivial
 | p::l,n,hn,h=>by
  unfold X2 W9 at h;unfold Yz;by_cases he:(Y7 p n).2=0
  ·rw [if_pos he] at h;exact⟨Wo p n hn he,Wh l _ (V5 p n [] hn).1.1 h⟩
  ·rw [if_neg he] at h;exact absurd h he
end
theorem Ra{p:Pat}(h:Zk p=0):U1 p:=Wo p 0 (by omega) (by rw [Ll];exact h)
theorem Nq{c:Prop} [Decidable c] (h:(if c then(0:Int) else 14)=0):c:=by
 by_cases a:c
 ·exact a
 ·rw [if_neg a] at h;cases h
theorem Vi{c:Prop} [Decidable c] {x:Int} (h:(if c then 2 else x)=0):¬ c/\x=0:=by
 by_cases a:c
 ·rw [if_pos a] at h;cases h
 ·rw [if_neg a] at h;exact⟨a,h⟩
theorem Gi{k:Int}{pl mi:Nat}{nt:Bool}{mn mx:Int}{l:List Pat}(h:Yg (.node k pl mi nt mn mx l)=0) :
  (0<=k/\k<=6)/\(k≠1->pl=0/\mi=0/\nt=false)/\(k≠3->k≠4->k≠5->l=[])/\(k≠5->mn=0/\mx=0) /\
   (k=5->l.length=1/\0<=mn/\mn<=32/\(mx=-1\/mn<=mx/\mx<=32))/\Qx pl mi=true:=by
 unfold Yg at h;simp only [Pat.k,Pat.pl,Pat.mi,Pat.nt,Pat.mn,Pat.mx,Pat.l] at h;obtain⟨j,h⟩:=Vi h;obtain⟨f,h⟩:=Vi h;obtain⟨g,h⟩:=Vi h;obtain⟨m,h⟩:=Vi h;obtain⟨d,h⟩:=Vi h;have i:Qx pl mi=true:=Nq h;refine⟨by omega,fun hk=>?_,fun a b c=>?_,fun hk=>by omega,fun hk=>?_,i⟩
 ·refine⟨?_,?_,?_⟩
  ·exact Classical.byContradiction fun hh=>f ⟨hk,.inl hh⟩
  ·exact Classical.byContradiction fun hh=>f ⟨hk,.inr (.inl hh)⟩
  ·cases nt
   ·rfl
   ·exact absurd ⟨hk,.inr (.inr rfl)⟩ f
 ·exact List.eq_nil_of_length_eq_zero (Classical.byContradiction fun hh=>g ⟨a,b,c,hh⟩)
 ·refine⟨Classical.byContradiction fun hh=>d ⟨hk,.inl hh⟩,?_,?_,?_⟩
  ·apply Int.not_lt.1;exact fun hh=>d ⟨hk,.inr (.inl hh)⟩
  ·apply Int.not_lt.1;exact fun hh=>d ⟨hk,.inr (.inr (.inl hh))⟩
  ·by_cases e:mx=-1
   ·exact .inl e
   ·refine .inr ⟨?_,?_⟩
    ·apply Int.not_lt.1;exact fun hh=>d ⟨hk,.inr (.inr (.inr ⟨e,.inl hh⟩))⟩
    ·apply Int.not_lt.1;exact fun hh=>d ⟨hk,.inr (.inr (.inr ⟨e,.inr hh⟩))⟩
theorem L9(w:Wd):∀(l:List Qr) (X Y:Qe),Yy w l (orB X Y)=orB X (Yy w l Y)
 | [],X,Y=>by unfold Yy;rfl
 | p::l,X,Y=>by unfold Yy;rw [Nc,L9 w l]
mutual
theorem Vz(w:Wd):∀ p,U1 p->Zj w (cmp p)=Jp w p
 | .node k pl mi nt mn mx l,h=>by
  unfold U1 at h;obtain⟨_,_,_,_,h5,_⟩:=Gi h.1;unfold cmp Jp
  split
  ·unfold Zj;rfl
  ·split
   ·unfold Zj;rfl
   ·split
    ·unfold Zj;rfl
    ·split
     ·unfold Zj;exact(Dz w l h.2.2)
     ·split
      ·rename_i hk
       have hl:=(h5 hk).1
       match l,hl,h.2.2 with
       | [q],_,h2=>
        unfold Yz at h2;unfold Zj Wm;show Hb (Zj w (cmp q)) _ _ _=_;rw [Vz w q h2.1]
      ·unfold Zj;exact Dv w l _ h.2.2
theorem Dv(w:Wd):∀(l:List Pat) (X:Qe),Yz l->Xt w (Yq l) X=Ko w l X
 | [],X,_=>by unfold Yq Xt Ko;rfl
 | p::l,X,h=>by
  unfold Yz at h;unfold Yq Xt Ko;rw [Vz w p h.1,Dv w l _ h.2]
theorem Dz(w:Wd):∀(l:List Pat),Yz l->Yy w (Yq l) noB=K6 w l
 | [],_=>by unfold Yq Yy K6;rfl
 | p::l,h=>by
  unfold Yz at h;unfold Yq Yy K6;rw [Sa,<-S6 (Zj w (cmp p)),L9,Vz w p h.1,Dz w l h.2]
end
end Go.Ab
