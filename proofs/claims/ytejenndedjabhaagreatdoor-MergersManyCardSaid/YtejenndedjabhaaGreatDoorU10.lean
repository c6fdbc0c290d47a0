/- slices.ContainsFunc over sounds and over elements of Out; law.Check$1, Check$ -/
import Derived.Test.YtejenndedjabhaaGreatDoorU09
import Derived.Test.YtejenndedjabhaaGreatDoorU08
set_option maxRecDepth 100000
set_option maxHeartbeats 16000000
namespace Go.Proofs.YtejenndedjabhaaGreatDoor
open Go.RowKit Go.Ab
attribute [local go_sem] Oper.semAt_some Z6 Qn
theorem Q4f{w:World}{ao:Option Addr}{N cap:Nat}{l:List Ym}(J:Jf w (.slice ao N cap) l) (H:l.length=N) (T:N<=maxLen) (f:Nat) (lb:Array Value) (k:∀ args w,(callFunc f args).run Tryz.prog w=.ok (.enter f args) w)
  (F:Ym->Bool) (G:∀ x∈l,∀ V,Ext w V->Calls Tryz.prog f (#[.agg (Zs x).toArray]++lb) V fun e w'=>e=.returned (.bool (F x))/\Ext V w') :
  Calls Tryz.prog 172 #[.slice ao N cap,.func (.func f) #[] lb] w fun e w'=>∃ z:Int,e=.returned (.int .i64 z)/\decide (0<=z)=l.any F/\Ext w w':=by
 unfold maxLen at T;obtain⟨P,O,t,M⟩:=Zh4 J G H k;clear J G H k;go_enter Tryz.func172,Tryz.ntmps172;go_wp2
 refine wp_loop (fun a o=>∃(b:Nat),b<=N/\a.defers=[]/\gS a [0,1,7,8]=(19,[.slice ao N cap,.func (.func f) #[] lb,.int .i64 N,.int .i64 b])/\(l.take b).any F=false/\Ext w o)
  (fun a _=>N - (intOf (a.tmps.getD 8 undef)).toNat) ?_ ?_
 ·exact⟨0,by omega,rfl,rfl,by simp,Q0.refl _ _⟩
 rintro⟨a3,_⟩ o ⟨b,a1,R,L,I,g⟩;subst R;obtain⟨a4,rfl⟩:=Qt L;clear L;have q:=Zh I;clear I;by_cases S:b<N
 ·have Q:(b:Int)<(N:Int):=by omega
  have m:b<l.length:=by rw [t.out];exact S
  obtain⟨Z,a2,Y,K,a0,_,u,v,y,A,B,C⟩:=(P.out.ext g).at m;simp only [zV] at K;obtain⟨rfl,U,rfl⟩:=K;clear U;have i:=O.out _ (List.getElem_mem m) o g;obtain⟨x,n⟩:=zE (l[b]);have W:Hid (l[b]=x):=Zh n;rw [n] at u v y A B C i;unfold Zs at i;obtain⟨j,p⟩:=zE (F x);rw [p] at i;have r:Hid (F l[b]=j):=Zh (by rw [n];exact p);have s:=Zh i;clear i n p;have k:=M.out;go_wp2_with fail;clear k;refine s.out.mono ?_;rintro e X ⟨rfl,E⟩;have D:=g.trans E;clear s g E u v y A B C;cases j
  ·have c:(l.take (b+1)).any F=false:=by
    rw [List.take_succ_eq_append_getElem m,List.any_append,q.out];simp [r.out]
   have d:=Zh c;clear c;go_wp2;exact⟨⟨b+1,by omega,tz,rfl,d.out,D⟩,nz⟩
  ·have c:l.any F=true:=List.any_eq_true.2 ⟨_,List.getElem_mem m,r.out⟩;have d:=Zh c;clear c;go_wp2;go_ret;exact⟨_,rfl,by rw [d.out];simp,D⟩
 ·obtain rfl:b=N:=by omega
  have Q:¬ (b:Int)<(b:Int):=by omega
  have c:l.any F=false:=by have:=q.out;rwa [List.take_of_length_le (by rw [t.out];exact Nat.le_refl _)] at this
  have d:=Zh c;clear c;go_wp2;go_ret;exact⟨_,rfl,by rw [d.out];simp,g⟩
theorem T8{w:World}{ao:Option Addr}{N cap:Nat}{l:List Ym}(g:Jf w (.slice ao N cap) l) (c:l.length=N) (n:N<=maxLen) (a:Nat) (lb:Array Value) (d:∀ args w,(callFunc a args).run Tryz.prog w=.ok (.enter a args) w)
  (F:Ym->Bool) (b:∀ x∈l,∀ V,Ext w V->Calls Tryz.prog a (#[.agg (Zs x).toArray]++lb) V fun e w'=>e=.returned (.bool (F x))/\Ext V w') :
  Calls Tryz.prog 155 #[.slice ao N cap,.func (.func a) #[] lb] w fun e w'=>e=.returned (.bool (l.any F))/\Ext w w':=by
 have f:=Q4f g c n (cap:=cap) a lb d F b;have j:=Zh f;clear f b g d c;go_enter Tryz.func155,Tryz.ntmps155;go_wp2_with fail;refine j.out.mono ?_;rintro e o ⟨p,rfl,i,m⟩;have k:=Zh i;clear i;go_wp2;go_ret;exact⟨by rw [<-k.out];rfl,m⟩
theorem Q3b{w:World}{ao:Option Addr}{N cap:Nat}{l:List (Nat × Nat)} (G:Q4 w (.slice ao N cap) l) (C:l.length=N) (Q:N<=maxLen) (f:Nat) (lb:Array Value) (o:∀ args w,(callFunc f args).run Tryz.prog w=.ok (.enter f args) w)
  (F:(Nat × Nat)->Bool) (B:∀ x∈l,∀ V,Ext w V->Calls Tryz.prog f (#[sV x]++lb) V fun e w'=>e=.returned (.bool (F x))/\Ext V w') :
  Calls Tryz.prog 159 #[.slice ao N cap,.func (.func f) #[] lb] w fun e w'=>∃ z:Int,e=.returned (.int .i64 z)/\decide (0<=z)=l.any F/\Ext w w':=by
 unfold maxLen at Q;obtain⟨L,K,v,J⟩:=Zh4 G B C o;clear G B C o;go_enter Tryz.func159,Tryz.ntmps159;go_wp2
 refine wp_loop (fun a p=>∃(b:Nat),b<=N/\a.defers=[]/\gS a [0,1,7,8]=(19,[.slice ao N cap,.func (.func f) #[] lb,.int .i64 N,.int .i64 b])/\(l.take b).any F=false/\Ext w p)
  (fun a _=>N - (intOf (a.tmps.getD 8 undef)).toNat) ?_ ?_
 ·exact⟨0,by omega,rfl,rfl,by simp,Q0.refl _ _⟩
 rintro⟨a1,_⟩ p ⟨b,Z,O,I,D,g⟩;subst O;obtain⟨a2,rfl⟩:=Qt I;clear I;have s:=Zh D;clear D;by_cases P:b<N
 ·have M:(b:Int)<(N:Int):=by omega
  have i:b<l.length:=by rw [v.out];exact P
  obtain⟨X,a0,W,H,Y,k,m⟩:=(L.out.ext g).at i;simp only [zV] at H;obtain⟨rfl,R,rfl⟩:=H;clear R;have E:l.getD b (0,0)=l[b]:=by rw [List.getD_eq_getElem?_getD,List.getElem?_eq_getElem i];rfl
  rw [E] at k m;have n:=K.out _ (List.getElem_mem i) p g;obtain⟨x,r⟩:=zE (l[b]);rw [r] at k m n;obtain⟨S,T⟩:=x;dsimp only at k m;obtain⟨j,q⟩:=zE (F (S,T));rw [q] at n;have t:Hid (F l[b]=j):=Zh (by rw [r];exact q);have u:=Zh n;clear n r q E;have o:=J.out;go_wp2_with fail;clear o;refine u.out.mono ?_;rintro e U ⟨rfl,A⟩;have y:=g.trans A;clear u g A k m;cases j
  ·have c:(l.take (b+1)).any F=false:=by
    rw [List.take_succ_eq_append_getElem i,List.any_append,s.out];simp [t.out]
   have d:=Zh c;clear c;go_wp2;exact⟨⟨b+1,by omega,tz,rfl,d.out,y⟩,nz⟩
  ·have c:l.any F=true:=List.any_eq_true.2 ⟨_,List.getElem_mem i,t.out⟩;have d:=Zh c;clear c;go_wp2;go_ret;exact⟨_,rfl,by rw [d.out];simp,y⟩
 ·obtain rfl:b=N:=by omega
  have M:¬ (b:Int)<(b:Int):=by omega
  have c:l.any F=false:=by have:=s.out;rwa [List.take_of_length_le (by rw [v.out];exact Nat.le_refl _)] at this
  have d:=Zh c;clear c;go_wp2;go_ret;exact⟨_,rfl,by rw [d.out];simp,g⟩
theorem L3{w:World}{ao:Option Addr}{N cap:Nat}{l:List (Nat × Nat)} (g:Q4 w (.slice ao N cap) l) (c:l.length=N) (n:N<=maxLen) (a:Nat) (lb:Array Value) (d:∀ args w,(callFunc a args).run Tryz.prog w=.ok (.enter a args) w)
  (F:(Nat × Nat)->Bool) (b:∀ x∈l,∀ V,Ext w V->Calls Tryz.prog a (#[sV x]++lb) V fun e w'=>e=.returned (.bool (F x))/\Ext V w') :
  Calls Tryz.prog 125 #[.slice ao N cap,.func (.func a) #[] lb] w fun e w'=>e=.returned (.bool (l.any F))/\Ext w w':=by
 have f:=Q3b g c n (cap:=cap) a lb d F b;have j:=Zh f;clear f b g d c;go_enter Tryz.func125,Tryz.ntmps125;go_wp2_with fail;refine j.out.mono ?_;rintro e o ⟨p,rfl,i,m⟩;have k:=Zh i;clear i;go_wp2;go_ret;exact⟨by rw [<-k.out];rfl,m⟩
theorem Q25{x:Ym}(p:Jh x){k d:Nat}(o:k<=9223372036854775807){w:World}(i:w.heap[d]?=some (.cells #[.int .i64 (k:Int)] 3 (0,0))) :
  Calls Tryz.prog 150 #[.agg (Zs x).toArray,.pointer (some ⟨d,0,none⟩)] w fun e w'=>e=.returned (.bool (!Xq k x))/\Ext w w':=by
 have b:Ext w (w.alloc (.cells (Zs x).toArray 131)):=(Q0.refl _ w).alloc _;have l:=cell_of_one (b.keep i);have c:=Q5o p k o (w.alloc (.cells (Zs x).toArray 131));obtain⟨a,j⟩:=zE (Xq k x);rw [j] at c ⊢;have f:=Zh c;have g:=Zh b;clear j c b i;unfold Zs at f l g ⊢;go_enter Tryz.func150,Tryz.ntmps150;go_wp2_with fail;refine f.out.mono ?_;rintro e q ⟨rfl,m⟩;have n:=g.out.trans m;cases a
 all_goals
  go_wp2;go_ret;exact⟨rfl,n⟩
theorem Q0n{s:Nat × Nat}(k:Qe s)(w:World) :
  Calls Tryz.prog 152 #[sV s] w fun e w'=>e=.returned (.bool (!okS s))/\Ext w w':=by
 have c:Ext w (w.alloc (.cells #[.int .u32 (s.1:Int),.int .u32 (s.2:Int)] 26)):=(Q0.refl _ w).alloc _;have b:=Yg k (w.alloc (.cells #[.int .u32 (s.1:Int),.int .u32 (s.2:Int)] 26));obtain⟨a,d⟩:=zE (okS s);rw [d] at b ⊢;have f:=Zh b;have g:=Zh c;clear d b c;go_enter Tryz.func152,Tryz.ntmps152;go_wp2_with fail;refine f.out.mono ?_;rintro e l ⟨rfl,i⟩;have j:=g.out.trans i;cases a
 all_goals
  go_wp2;go_ret;exact⟨rfl,j⟩
theorem Cx(s:ByteArray):s=⟨s.data.toList.toArray⟩:=by
 cases s;simp
theorem Q5f(l:Q5):Yj l=if Ko l.name=false then false else if Ya l.left≠0 then false else if Ya l.right≠0 then false else if 4<l.ifs.length then false else if 6<l.outs.length then false else if l.ifs.length+l.outs.length=0 then false else
  if l.mode<1\/3<l.mode then false else if (l.ifs.any fun s=>!okS s)=true then false else if (l.outs.any fun x=>!Xq l.ifs.length x)=true then false else true:=by
 unfold Yj;have g:l.ifs.all okS=!(l.ifs.any fun s=>!okS s):=by simp [List.any_eq_not_all_not]
 have i:l.outs.all (Xq l.ifs.length)=!(l.outs.any fun x=>!Xq l.ifs.length x):=by simp [List.any_eq_not_all_not]
 rw [g,i];cases Ko l.name
 ·simp
 rw [if_neg zd];by_cases b:Ya l.left=0;case neg=>rw [if_pos b,decide_eq_false b];simp
 rw [if_neg (fun q=>q b),decide_eq_true b];by_cases c:Ya l.right=0;case neg=>rw [if_pos c,decide_eq_false c];simp
 rw [if_neg (fun q=>q c),decide_eq_true c];by_cases e:4<l.ifs.length
 ·rw [if_pos e,decide_eq_false (by omega:¬ l.ifs.length<=4)];simp
 rw [if_neg e,decide_eq_true (by omega:l.ifs.length<=4)];by_cases f:6<l.outs.length
 ·rw [if_pos f,decide_eq_false (by omega:¬ l.outs.length<=6)];simp
 rw [if_neg f,decide_eq_true (by omega:l.outs.length<=6)];by_cases d:l.ifs.length+l.outs.length=0
 ·rw [if_pos d,decide_eq_false (by omega:¬ (l.ifs.length+l.outs.length≠0))];simp
 rw [if_neg d,decide_eq_true d];by_cases a:l.mode<1\/3<l.mode
 ·rw [if_pos a];rcases a with a | a
  ·rw [decide_eq_false (by omega:¬ 1<=l.mode)];simp
  ·rw [decide_eq_false (by omega:¬ l.mode<=3)];simp
 rw [if_neg a,decide_eq_true (by omega:1<=l.mode),decide_eq_true (by omega:l.mode<=3)];cases (l.ifs.any fun s=>!okS s) <;> cases (l.outs.any fun x=>!Xq l.ifs.length x) <;> rfl
theorem Gm{c:Prop} [Decidable c] {b:Bool} {z:Int} (h:(if b=true then(0:Int) else 17)=z):(if (if c then false else b)=true then(0:Int) else 17)=if c then 17 else z:=by
 subst h;by_cases a:c <;> simp [a]
theorem Q49(l:Q5):Wh l=if Ko l.name=false then 17 else if Ya l.left≠0 then 17 else if Ya l.right≠0 then 17 else if 4<l.ifs.length then 17 else if 6<l.outs.length then 17 else if l.ifs.length+l.outs.length=0 then 17 else
  if l.mode<1\/3<l.mode then 17 else if (l.ifs.any fun s=>!okS s)=true then 17 else if (l.outs.any fun x=>!Xq l.ifs.length x)=true then 17 else 0:=by
 unfold Wh;rw [Q5f];exact Gm (Gm (Gm (Gm (Gm (Gm (Gm (Gm (Gm rfl))))))))
theorem Nx{w:World}{l:Q5}{cs:List Value}(f3:Y7 w l cs)(d0:Tab w) :
  Calls Tryz.prog 113 #[.agg cs.toArray] w fun e w'=>e=.returned (.int .i64 (Wh l))/\Ext w w':=by
 obtain⟨n,T,a4,W,Y,H,J,a0,F,L,U,a5,X,Z,I,K,a1,G,M,S,a,R,a3,k,a2,p,rfl,f7,d7,d8,b0,c3,d6,f8,f9,c0,c1,d5,g4,i0,i1,g5,i2⟩:=X5 f3;have Q:=Cx n;have f6:n.data.toList.length<=9223372036854775807:=by rw [Array.length_toList];exact g4
 have c2:Hid (∀ V,Ext w V->Calls Tryz.prog 153 #[.string n] V fun e w'=>e=.returned (.bool (Ko n))/\Ext V w'):=Zh fun V _=>by
  have:=Q3m n.data.toList f6 V;rw [<-Q] at this;exact this
 have c4:Hid (∀ V,Ext w V->Calls Tryz.prog 154 #[.agg #[.int .i64 T,.int .u32 (a4:Int),.int .u32 (W:Int),.bool Y,.int .i64 H,.int .i64 J,.slice a0 F L]] V fun e w'=>e=.returned (.int .i64 (Ya l.left))/\Ext V w'):=
  Zh fun V hE=>La (d7.out.ext hE) (fun g hg=>Nat.lt_of_lt_of_le hg hE.size) (d0.keep hE id)
 have c5:Hid (∀ V,Ext w V->Calls Tryz.prog 154 #[.agg #[.int .i64 U,.int .u32 (a5:Int),.int .u32 (X:Int),.bool Z,.int .i64 I,.int .i64 K,.slice a1 G M]] V fun e w'=>e=.returned (.int .i64 (Ya l.right))/\Ext V w'):=
  Zh fun V hE=>La (d8.out.ext hE) (fun g hg=>Nat.lt_of_lt_of_le hg hE.size) (d0.keep hE id)
 have a9:Hid (∀ V,Ext w V->Calls Tryz.prog 125 #[.slice S a R,.func (.func 152) #[] #[]] V fun e w'=>e=.returned (.bool (l.ifs.any fun s=>!okS s))/\Ext V w'):=
  Zh fun V hE=>L3 (b0.out.ext hE) c0.out (by unfold maxLen;omega) _ #[] (enters_of Tryz.func152 kz rfl) (fun s=>!okS s) (fun s Q V2 _=>Q0n (b0.out.2 s Q) V2)
 have a8:Hid (∀(Bk:Nat) V,Ext w V->V.heap[Bk]?=some (.cells #[.int .i64 (a:Int)] 3 (0,0))->Calls Tryz.prog 155 #[.slice a3 k a2,.func (.func 150) #[] #[.pointer (some ⟨Bk,0,none⟩)]] V fun e w'=>e=.returned (.bool (l.outs.any fun x=>!Xq a x))/\Ext V w'):=
  Zh fun Bk V hE hb=>T8 (c3.out.ext hE) c1.out (by unfold maxLen;omega) _ #[.pointer (some ⟨Bk,0,none⟩)] (enters_of Tryz.func150 kz rfl) (fun x=>!Xq a x) (fun x hx V2 z=>Q25 (c3.out.2 x hx) g5 (z.keep hb))
 have i:Hid (Wh l=if Ko n=false then 17 else if Ya l.left≠0 then 17 else if Ya l.right≠0 then 17 else if 4<a then 17 else if 6<k then 17 else if a+k=0 then 17 else if p<1\/3<p then 17 else if (l.ifs.any fun s=>!okS s)=true then 17 else if (l.outs.any fun x=>!Xq a x)=true then 17 else 0):=Zh (by
  rw [Q49,d6.out,c0.out,c1.out,d5.out])
 obtain⟨f,e7⟩:=zE (Wh l);rw [e7] at i ⊢;obtain⟨g3,f5⟩:=zE (Ko n);obtain⟨d9,f0⟩:=zE (Ya l.left);obtain⟨e0,f1⟩:=zE (Ya l.right);obtain⟨c8,e9⟩:=zE (l.ifs.any fun s=>!okS s);obtain⟨c7,e8⟩:∃ x,(l.outs.any fun x=>!Xq a x)=x:=⟨_,rfl⟩;rw [f5] at c2 i;rw [f0] at c4 i;rw [f1] at c5 i;rw [e9] at a9 i;rw [e8] at a8 i;clear f3 Q f6 d0 e7 f5 f0 f1 e9 e8 f7 d7 d8 b0 c3 d6 f8 f9 c0 c1 d5;go_enter Tryz.func113,Tryz.ntmps113;go_upto_region 1 with (fail)
 obtain⟨a6,C⟩:=zE (w.alloc (.cells #[.string n,.int .i64 T,.int .u32 (a4:Int),.int .u32 (W:Int),.bool Y,.int .i64 H,.int .i64 J,.slice a0 F L,.int .i64 U,.int .u32 (a5:Int),.int .u32 (X:Int),.bool Z,.int .i64 I,.int .i64 K,.slice a1 G M,.slice S a R,.slice a3 k a2,.int .i64 p] 50));have e5:Ext w a6:=by rw [<-C];exact(Q0.refl _ w).alloc _
 have P:a6.heap[w.heap.size]?=some (.cells #[.string n,.int .i64 T,.int .u32 (a4:Int),.int .u32 (W:Int),.bool Y,.int .i64 H,.int .i64 J,.slice a0 F L,.int .i64 U,.int .u32 (a5:Int),.int .u32 (X:Int),.bool Z,.int .i64 I,.int .i64 K,.slice a1 G M,.slice S a R,.slice a3 k a2,.int .i64 p] 50 (0,0)):=by rw [<-C];exact new_at rfl
 have d1:a6.heap.size=w.heap.size+1:=by rw [<-C];simp
 rw [C];obtain⟨d2,e4⟩:=zE w.heap.size;rw [e4] at P d1 ⊢;have t:=cell_of_row _ _ 15 _ _ _ P;have c6:=Zh d1;have d3:=Zh P;clear C e4 d1 P;go_upto_region 4 with (fail)
 rw [c6.out];obtain⟨a7,E⟩:=zE (a6.alloc (.cells #[.int .i64 (a:Int)] 3));have c9:Ext w a7:=by rw [<-E];exact e5.alloc _
 have f2:a7.heap[d2+1]?=some (.cells #[.int .i64 (a:Int)] 3 (0,0)):=by rw [<-E];exact new_at c6.out.symm
 have f4:a7.heap[d2]?=some (.cells #[.string n,.int .i64 T,.int .u32 (a4:Int),.int .u32 (W:Int),.bool Y,.int .i64 H,.int .i64 J,.slice a0 F L,.int .i64 U,.int .u32 (a5:Int),.int .u32 (X:Int),.bool Z,.int .i64 I,.int .i64 K,.slice a1 G M,.slice S a R,.slice a3 k a2,.int .i64 p] 50 (0,0)):=by rw [<-E];exact Q7 d3.out
 rw [E];have b6:=Zh f4;have b1:=Zh f2;clear E f2 f4 t d3 c6 e5;have t:=zR b6.out;have A:=cell_of_one b1.out;go_wp2_with fail;refine(c2.out a7 c9).mono ?_;rintro e g6 ⟨rfl,c⟩;have z:=c9.trans c;have b7:=Zh (c.keep b6.out);have b2:=Zh (c.keep b1.out);have t:=zR b7.out;have A:=cell_of_one b2.out;clear c b6 b1 c9 c2;cases g3
 ·have d:Hid (f=17):=Zh (by rw [i.out];rfl);clear i;go_wp2;go_ret;exact⟨by rw [d.out];rfl,z⟩
 go_wp2_with fail;refine(c4.out g6 z).mono ?_;rintro e g7 ⟨rfl,c⟩;have N:=z.trans c;have b8:=Zh (c.keep b7.out);have b3:=Zh (c.keep b2.out);have t:=zR b8.out;have A:=cell_of_one b3.out;clear c b7 b2 z c4;by_cases u:d9=0;case neg=>
  have g2:(d9 != 0)=true:=by rw [bne_iff_ne];exact u
  have d:Hid (f=17):=Zh (by rw [i.out,if_neg zd,if_pos u]);clear i;go_wp2;go_ret;exact⟨by rw [d.out];rfl,N⟩
 subst u;go_wp2_with fail;refine(c5.out g7 N).mono ?_;rintro e g8 ⟨rfl,c⟩;have o:=N.trans c;have b9:=Zh (c.keep b8.out);have b4:=Zh (c.keep b3.out);have t:=zR b9.out;have A:=cell_of_one b4.out;clear c b8 b3 N c5;by_cases u:e0=0;case neg=>
  have g2:(e0 != 0)=true:=by rw [bne_iff_ne];exact u
  have d:Hid (f=17):=Zh (by rw [i.out,if_neg zd,if_neg zd,if_pos u]);clear i;go_wp2;go_ret;exact⟨by rw [d.out];rfl,o⟩
 subst u;have m:Hid (f=if 4<a then 17 else if 6<k then 17 else if a+k=0 then 17 else if p<1\/3<p then 17 else if c8=true then 17 else if c7=true then 17 else 0):=Zh (by rw [i.out];rfl);clear i;by_cases y:4<a
 ·have e1:(4:Int)<(a:Int):=by omega
  have d:Hid (f=17):=Zh (by rw [m.out,if_pos y]);clear m;go_wp2;go_ret;exact⟨by rw [d.out];rfl,o⟩
 by_cases B:6<k
 ·have e1:¬ (4:Int)<(a:Int):=by omega
  have g0:(6:Int)<(k:Int):=by omega
  have d:Hid (f=17):=Zh (by rw [m.out,if_neg y,if_pos B]);clear m;go_wp2;go_ret;exact⟨by rw [d.out];rfl,o⟩
 have e1:¬ (4:Int)<(a:Int):=by omega
 have g0:¬ (6:Int)<(k:Int):=by omega
 by_cases r:a+k=0
 ·have g1:((a:Int)+(k:Int) == 0)=true:=by rw [beq_iff_eq];omega
  have d:Hid (f=17):=Zh (by rw [m.out,if_neg y,if_neg B,if_pos r]);clear m r;go_wp2;go_ret;exact⟨by rw [d.out];rfl,o⟩
 have g1:((a:Int)+(k:Int) == 0)=false:=by rw [beq_eq_false_iff_ne];omega
 by_cases e2:p<1
 ·have d:Hid (f=17):=Zh (by rw [m.out,if_neg y,if_neg B,if_neg r,if_pos (.inl e2)]);clear m r;go_wp2;go_ret;exact⟨by rw [d.out];rfl,o⟩
 by_cases e3:3<p
 ·have d:Hid (f=17):=Zh (by rw [m.out,if_neg y,if_neg B,if_neg r,if_pos (.inr e3)]);clear m r;go_wp2;go_ret;exact⟨by rw [d.out];rfl,o⟩
 have v:Hid (f=if c8=true then 17 else if c7=true then 17 else 0):=Zh (by rw [m.out,if_neg y,if_neg B,if_neg r,if_neg (fun q=>q.elim e2 e3)]);clear m r;go_wp2_with fail;refine(a9.out g8 o).mono ?_;rintro e g9 ⟨rfl,c⟩;have O:=o.trans c;have d4:=Zh (c.keep b9.out);have b5:=Zh (c.keep b4.out);have t:=zR d4.out;have A:=cell_of_one b5.out;clear c b9 b4 o a9;cases c8;case true=>
  have d:Hid (f=17):=Zh (by rw [v.out];rfl);clear v;go_wp2;go_ret;exact⟨by rw [d.out];rfl,O⟩
 go_wp2_with fail;refine(a8.out _ g9 O b5.out).mono ?_;rintro e i3 ⟨rfl,c⟩;have e6:=O.trans c;clear c d4 b5 O a8 t A;cases c7
 ·have d:Hid (f=0):=Zh (by rw [v.out];rfl);clear v;go_wp2;go_ret;exact⟨by rw [d.out];rfl,e6⟩
 ·have d:Hid (f=17):=Zh (by rw [v.out];rfl);clear v;go_wp2;go_ret;exact⟨by rw [d.out];rfl,e6⟩
theorem Co{w:World}{l:Q5}{cs:List Value}{v:Value}{ws:Wd}(p:Y7 w l cs)(d:Q4 w v ws)(t:Tab w) :
  Calls Tryz.prog 199 #[.agg cs.toArray,v] w fun e w'=>e=.returned (.int .i64 (J0 l ws))/\Ext w w':=by
 obtain⟨c0,b8,rfl,_⟩:=d.slice;obtain⟨b9,u⟩:=zE ws.length;rw [u] at d ⊢;have r:=fun(V:World) (hE:Ext w V)=>Ve (d.ext hE);have q:=fun(V:World) (hE:Ext w V)=>Nx (p.ext hE) (t.keep hE id);obtain⟨a5,Y,b0,a0,a3,O,Q,a6,K,S,Z,b1,a1,a4,P,R,a7,L,T,X,M,W,a9,N,a8,a2,rfl,y,H,I,x,G,F,B,C,D,E,A,b3,b4,b5,b6,b7⟩:=X5 p;have b:Hid (J0 l ws=if Wh l=0 then wE ws else Wh l):=Zh (by unfold J0 Wh;cases Yj l <;> rfl);obtain⟨a,k⟩:=zE (J0 l ws);obtain⟨g,m⟩:=zE (Wh l);obtain⟨U,o⟩:=zE (wE ws);rw [k,m,o] at b;rw [m] at q;rw [o] at r;rw [k];have J:=Zh r;have z:=Zh q;clear u k m o r q d p t y H I x G F B C D E A;have i:Ext w (w.alloc (.cells #[.string a5,.int .i64 Y,.int .u32 (b0:Int),.int .u32 (a0:Int),.bool a3,.int .i64 O,.int .i64 Q,.slice a6 K S,.int .i64 Z,.int .u32 (b1:Int),.int .u32 (a1:Int),.bool a4,.int .i64 P,.int .i64 R,.slice a7 L T,.slice X M W,.slice a9 N a8,.int .i64 a2] 50)):=(Q0.refl _ w).alloc _;go_enter Tryz.func199,Tryz.ntmps199
 go_wp2_with (refine wpList_load_row rfl 50 (.tmp 2) rfl w.heap.size rfl _ _ _ _ (new_at rfl) Tryz.underlying50 rfl Tryz.lawInfo ?_)
 refine(z.out _ i).mono ?_;rintro e c1 ⟨rfl,c⟩;have j:=i.trans c;clear c i;by_cases s:g=0;case neg=>
  have b2:(g != 0)=true:=by rw [bne_iff_ne];exact s
  have f:Hid (a=g):=Zh (by rw [b.out,if_neg s]);clear b;go_wp2;go_ret;exact⟨by rw [f.out];rfl,j⟩
 subst s;have f:Hid (a=U):=Zh (by rw [b.out,if_pos rfl]);go_wp2_with fail;refine(J.out _ j).mono ?_;rintro e c2 ⟨rfl,c⟩;go_wp2;go_ret;exact⟨by rw [f.out];rfl,j.trans c⟩
abbrev Qbi:Nat->(Nat->Prop)->Nat->World->Array Value->Prop:=fun _ _ x _ ys=>ys=#[.int .i64 (x:Int)]
def Qas(l:Q5)(ws:Wd):List Nat:=if J0 l ws=0 then We l ws else []
theorem U1{ws:Wd}(h:wE ws=0):ws.length<=32:=by
 apply Nat.le_of_not_lt;intro a;unfold wE at h;rw [if_pos a] at h;cases h
theorem Hr{l:Q5}{ws:Wd}(h:J0 l ws=0):Yj l=true/\wE ws=0:=by
 unfold J0 at h
 split at h
 ·rename_i a;exact⟨a,h⟩
 ·cases h
abbrev Q9c:Nat->(Nat->Prop)->Int->World->Array Value->Prop:=fun _ _ x _ ys=>ys=#[.int .i64 x]
theorem Cs{w:World}{gf:Nat}{lb:Array Value}(Y:∀ args w,(callFunc gf args).run Tryz.prog w=.ok (.enter gf args) w) {M:Nat->Nat->Prop} {xs:List Int} (a0:∀ w1,Ext w w1->Kj Tryz.prog gf lb M Q9c xs (fun b=>b<w.heap.size) w1) (d1:xs.length<=1000) :
  Calls Tryz.prog 117 #[.slice none 0 0,.func (.func gf) #[] lb] w fun e w'=>∃ u,e=.returned u/\w'.ownsRow w.heap.size 3 1 u xs.length (Qh xs)/\Ext w w':=by
 refine Zr Tryz.func117 rfl ?_;simp only [Tryz.ntmps117,zS,Nat.reduceAdd,Nat.reduceSub];have a8:=Zh a0;have a5:=Zh Y;clear a0 Y;go_wp2;obtain⟨c,B⟩:=zE w.heap.size;have H:(w.alloc (.cells #[.slice none 0 0] 36)).heap[c]?=some (.cells #[.slice none 0 0] 36 (0,0)):=new_at B.symm;have C:Ext w (w.alloc (.cells #[.slice none 0 0] 36)):=(Q0.refl _ w).alloc _;have b8:(w.alloc (.cells #[.slice none 0 0] 36)).heap.size=c+1:=by rw [<-B];simp
 generalize (w.alloc (.cells #[.slice none 0 0] 36))=w1 at H C b8 ⊢;have L:=a8.out w1 C;rw [B] at L ⊢;have z:=Zh B;clear B
 refine Wb (xs:=xs) (K:=fun b=>b<c) rfl a5.out L (fun b a=>by omega) (fun _ _ x A y a=>by rw [a];rfl) (fun _ _ x A D y a _ _=>a)
  (fun k f g=>∃ u,g.heap[c]?=some (.cells #[u] 36 (0,0))/\g.ownsRow c 3 1 u f.length (Qh f)/\(∀ d,u.ownBlock=some d->d≠c/\d≠c+1/\d≠c+2/\¬ k d)/\Ext w g)
  (fun _ _ _ _=>False) ?hI ?hIx ?h0 (fun y t=>(t.setIfInBounds 7 (y.getD 0 undef)).setIfInBounds 5 (y.getD 0 undef)) ?assign ?body ?done ?stop
 case hI=>
  rintro k c1 f b0 b1 ⟨u,j,i,n,v⟩ r b9 b5;have s:Q0 (fun b=>k b\/b=c+2) b0 b1:=b9.mono (fun b _ a=>a.elim (fun q=>.inl q.1) (fun q=>.inr oz));refine⟨u,s.heap j (fun a=>?_),Qd i s (fun b hb e=>?_),fun d p=>?_,v.after s (fun b' h1 h2=>?_)⟩
  ·rcases a with a | a
   ·have:=(r _ a).1;omega
   ·omega
  ·have:=n b hb;exact e.elim this.2.2.2 (fun q=>this.2.2.1 q)
  ·obtain⟨a2,a3,a4,O⟩:=n d p;exact⟨a2,a3,a4,fun a=>by rcases(b5 d a).1 with a | a;exact O a;have:=(i.lt _ p).2;omega⟩
  ·have:=z.out;rcases h2 with a | a
   ·have:=(r _ a).1;omega
   ·omega
 case hIx=>exact fun _ _ _ _ _ _ a _ _ _=>a
 case h0=>
  intro g X _;exact⟨.slice none 0 0,X.keep H,World.ownsRow_nil _ _ _ _,(fun d p=>by cases p),Q0.trans C X⟩
 case assign=>
  rintro _ _ G y g c0 rfl b4;gi_wp2;exact b4
 case body=>
  rintro k f G d4 y g N d3 r s ⟨u,j,i,n,v⟩ rfl;simp only [pq];have d2:f.length<1000:=by
   have:=congrArg List.length N;simp at this;omega
  have Q:=cell_of_one j;have b2:=free_of_one j;have c9:c<g.heap.size:=(Array.getElem?_eq_some_iff.1 j).1;have d0:=Zh N;have P:=Zh r;clear N r;refine wpIn_block ?_;refine Uk kz (by rintro⟨_,_,a⟩;exact a) ?_;have a9:=Zh j;clear j
  go_wp2_with (at_builtin;refine Zv rfl (.tmp 8) (.tmp 10) 36 rfl c 3 _ 1 8 Tryz.underlying36 Tryz.infoI rfl zd _ _ _ rfl (Qb i ((Q0.refl _ g).alloc _)) ⟨g.heap.size,0,none⟩ 1 1 [.int .i64 G] rfl rfl (Zy rfl) ?c2 ?c3 ?c4 ?c5 ?_)
  case c2=>first | rfl | (intro u a1;simp at a1;rcases a1 with rfl;rfl)
  case c3=>unfold maxLen;omega
  case c4=>omega
  case c5=>simp;omega
  intro l m o V W R;have E:Q0 (fun b'=>u.ownBlock=some b') g o:=Q0.trans (Q0.alloc (Q0.refl _ g) _) W;have I:=E.heap a9.out (fun e=>(n _ e).1 rfl);have S:Ext w o:=Q0.after v E (fun b' h1 e=>by have:=(i.lt _ e).1;have:=z.out;omega);have J:∀ d,(Value.slice l (f.length+1) m).ownBlock=some d->d≠c/\d≠c+1/\d≠c+2/\¬ k d:=by
   intro d p;rcases R with e | e
   ·exact n d (e ▸ p)
   ·rw [p] at e;cases e;exact⟨by first | omega | (simp;omega),by first | omega | (simp;omega),by first | omega | (simp;omega),fun a=>by have:=(P.out _ a).2;first | omega | (simp at this;omega)⟩
  have c6:=cell_of_one I;have c8:=free_of_one I;have F:=Q0.set1 o c 0 (.slice l (f.length+1) m);have U:(o.setCell ⟨c,0,none⟩ (.slice l (f.length+1) m)).heap[c]?=some (.cells #[.slice l (f.length+1) m] 36 (0,0)):=by
   simp only [World.setCell,Array.getElem?_modify,I];simp
  have T:Q0 (fun b=>¬ (b<c\/k b\/b=c+1\/b=c+1+1)) g (o.setCell ⟨c,0,none⟩ (.slice l (f.length+1) m)):=by
   refine(E.mono (fun b' _ e hn=>?_)).trans (F.mono (fun b' _ e hn=>?_))
   ·obtain⟨a2,a3,a4,O⟩:=n _ e;have:=(i.lt _ e).1;rcases hn with a | a | a
    ·omega
    ·exact O a
    ·omega
   ·rcases hn with a | a | a
    ·omega
    ·have:=(P.out _ a).1;omega
    ·omega
  have Z:∃ u,(o.setCell ⟨c,0,none⟩ (.slice l (f.length+1) m)).heap[c]?=some (.cells #[u] 36 (0,0))/\(o.setCell ⟨c,0,none⟩ (.slice l (f.length+1) m)).ownsRow c 3 1 u (f++[G]).length (Qh (f++[G]))/\(∀ d,u.ownBlock=some d->d≠c/\d≠c+1/\d≠c+2/\¬ k d)/\Ext w (o.setCell ⟨c,0,none⟩ (.slice l (f.length+1) m)):=by
   refine⟨_,U,?_,J,Q0.after S F (fun b h1 h2=>by have:=z.out;omega)⟩;rw [M1,List.length_append];exact Qd V F (fun b hb e=>(J b hb).1 e)
  have a7:=Zh T;have a6:=Zh Z;clear T Z U F J S E W V R Q b2 i n v s;go_wp2;exact⟨a7.out,a6.out⟩
 case done=>
  rintro k g ⟨u,j,i,n,v⟩ r s b3;have Q:=cell_of_one j;clear C H L;go_wp2;have b7:Qz c ({ target:=.collected w1.heap.size,args:=#[] }::[]) g:=Qz.cons (base:=c) trivial oz b3 (fun e he=>by cases he);refine Jq b7 (fun w'=>results_tmp rfl _ _ _) (fun w' ht' hs=>⟨u,rfl,?_,?_⟩)
  ·rw [z.out];exact Qd i ht' (fun b hb e=>by obtain⟨c7,b6⟩:=J4 i hb;exact Shut.not b6 rfl e)
  ·exact Q0.after v ht' (fun b' h2 h3=>by have:=h3.1;have:=z.out;omega)
 case stop=>exact fun _ _ _ _ _ _ _ a=>a.elim
theorem Fy{w:World}{gf:Nat}{lb:Array Value}(d:∀ args w,(callFunc gf args).run Tryz.prog w=.ok (.enter gf args) w) {M:Nat->Nat->Prop} {xs:List Int} (f:∀ w1,Ext w w1->Kj Tryz.prog gf lb M Q9c xs (fun b=>b<w.heap.size) w1) (k:xs.length<=1000) :
  Calls Tryz.prog 76 #[.func (.func gf) #[] lb] w fun e w'=>∃ u,e=.returned u/\w'.ownsRow w.heap.size 3 1 u xs.length (Qh xs)/\Ext w w':=by
 have c:=Cs d f k;have g:=Zh c;clear c f d;go_enter Tryz.func76,Tryz.ntmps76;go_wp2_with fail;refine g.out.mono ?_;rintro e w' ⟨u,rfl,a,j⟩;obtain⟨m,l,rfl⟩:=Qk a;have i:=Zh a;clear a;go_wp2;go_ret;exact⟨_,rfl,i.out,j⟩
def Mw(sh:List Int)(k j:Nat):Bool:=(List.range k).any fun p=>decide (p≠j) && decide (sh.getD p (-1)=(j:Int))
def U9(sh:List Int)(k:Nat):Array Value:=((List.range 64).map fun(j:Nat)=>Value.bool (Mw sh k j)).toArray
theorem Pt(sh:List Int)(k j:Nat):Mw sh (k+1) j=(Mw sh k j || (decide (k≠j) && decide (sh.getD k (-1)=(j:Int)))):=by
 unfold Mw;rw [List.range_succ,List.any_append,List.any_cons,List.any_nil,Bool.or_false]
theorem Q89(sh:List Int)(j:Nat):Mw sh sh.length j=toB sh j:=rfl
theorem Bg{sh:List Int}{k m:Nat}(a:m<64):(U9 sh k)[m]?=some (.bool (Mw sh k m)):=by simp [U9,a]
theorem Rs{sh:List Int}{k:Nat}(h:sh.getD k (-1)<0\/sh.getD k (-1)=(k:Int)):U9 sh (k+1)=U9 sh k:=by
 unfold U9
 congr 2
 funext j
 rw [Pt];have:(decide (k≠j) && decide (sh.getD k (-1)=(j:Int)))=false:=by
  rw [Bool.and_eq_false_iff,decide_eq_false_iff_not,decide_eq_false_iff_not];omega
 rw [this,Bool.or_false]
theorem Q5z{sh:List Int}{k m:Nat}(h:sh.getD k (-1)=(m:Int)) (d:m≠k):(U9 sh k).setIfInBounds m (.bool true)=U9 sh (k+1):=by
 apply Array.ext
 ·simp [U9]
 ·intro a c f;rw [Array.getElem_setIfInBounds (by simpa using c)];simp only [U9,List.getElem_toArray,List.getElem_map,List.getElem_range];rw [Pt,h];by_cases b:m=a
  ·subst b;rw [if_pos rfl]
   congr 1
   have:(decide (k≠m) && decide ((m:Int)=(m:Int)))=true:=by rw [Bool.and_eq_true,decide_eq_true_iff,decide_eq_true_iff];exact⟨fun e=>d e.symm,rfl⟩
   rw [this,Bool.or_true]
  ·rw [if_neg b]
   congr 1
   have:(decide (k≠a) && decide ((m:Int)=(a:Int)))=false:=by
    rw [Bool.and_eq_false_iff,decide_eq_false_iff_not,decide_eq_false_iff_not];omega
   rw [this,Bool.or_false]
def U5(sh:List Int)(i:Nat):Bool:=Xv sh i && !toB sh i
def Y9(sh:List Int)(k:Nat):List (List Int):=((List.range k).filter (U5 sh)).map (Qa sh)
theorem Sz(sh:List Int):Y9 sh sh.length=Gx sh:=rfl
theorem Su{sh:List Int}{k:Nat}(h:U5 sh k=true):Y9 sh (k+1)=Y9 sh k++[Qa sh k]:=by
 unfold Y9;rw [List.range_succ,List.filter_append,List.map_append];simp [h]
theorem Ei{sh:List Int}{k:Nat}(h:U5 sh k=false):Y9 sh (k+1)=Y9 sh k:=by
 unfold Y9;rw [List.range_succ,List.filter_append,List.map_append];simp [h]
theorem Th(sh:List Int)(k:Nat):(Y9 sh k).length<=k:=by
 unfold Y9;rw [List.length_map];exact Nat.le_trans (List.length_filter_le _ _) zy
def Jz(sh:List Int):List (List Int):=if Yi sh=0 then Gx sh else []
theorem Q2a{sh:List Int}{k:Nat}{x:Int}(a:sh.getD k (-1)=x) (c:Zp sh):U5 sh k=((decide (0<=x) && decide (x≠(k:Int))) && !toB sh k):=by
 unfold U5 Xv;rw [a];have b:=Kq c k;rw [a] at b
 congr 2
 rw [decide_eq_decide];omega
theorem Dn{w:World}{ao:Option Addr}{N cap:Nat}{sh:List Int}(a6:Rd w (.slice ao N cap) N 1 (Qh sh)) (a2:sh.length=N) :
  Calls Tryz.prog 33 #[.slice ao N cap] w fun e w'=>∃ v,e=.returned (.tuple #[v,.int .i64 (Yi sh)])/\Y5 w.heap.size w' v (Jz sh)/\Ext w w':=by
 have l0:=a6.2.1;unfold maxLen at l0;have e1:=M7 a6 a2 (cap:=cap);have d9:=@S6 sh;have a4:Jz sh=if Yi sh=0 then Y9 sh N else []:=by unfold Jz;rw [<-Sz,a2]
 obtain⟨X,g7⟩:=zE (Yi sh);rw [g7] at e1 d9 a4 ⊢;obtain⟨g4,i3⟩:=zE (Jz sh);rw [i3] at a4 ⊢;obtain⟨f8,b1,x,f7,b4⟩:=Zh5 e1 a6 a2 d9 a4;clear e1 a6 d9 g7 a4 i3 a2;go_enter Tryz.func33,Tryz.ntmps33;go_wp2_with fail;refine f8.out.mono ?_;rintro e a8 ⟨rfl,a1⟩;have Y:=Zh a1;clear f8 a1;by_cases e6:X=0;case neg=>
  have i7:(X != 0)=true:=by simpa using e6
  have J:=b4.out;rw [if_neg e6] at J;subst J;go_wp2;refine bodyPost_ret (Qi rfl _ _ _) rfl ⟨_,rfl,Y5.nil _ _,Y.out⟩
 subst e6;have J:=b4.out;rw [if_pos rfl] at J;have e2:=f7.out rfl;have l6:N<=64:=by rw [<-x.out];exact e2.1
 have k2:=Zh J;have a0:=Zh e2;clear J e2 b4 f7;obtain⟨f,d0⟩:=zE a8.heap.size;have e7:U9 sh 0=#[.bool false,.bool false,.bool false,.bool false,.bool false,.bool false,.bool false,.bool false,.bool false,.bool false,.bool false,.bool false,.bool false,.bool false,.bool false,.bool false,.bool false,.bool false,.bool false,.bool false,.bool false,.bool false,.bool false,.bool false,.bool false,.bool false,.bool false,.bool false,.bool false,.bool false,.bool false,.bool false,.bool false,.bool false,.bool false,.bool false,.bool false,.bool false,.bool false,.bool false,.bool false,.bool false,.bool false,.bool false,.bool false,.bool false,.bool false,.bool false,.bool false,.bool false,.bool false,.bool false,.bool false,.bool false,.bool false,.bool false,.bool false,.bool false,.bool false,.bool false,.bool false,.bool false,.bool false,.bool false]:=by kernel_rfl
 have a5:(a8.alloc (.cells (U9 sh 0) 110)).heap[f]?=some (.cells (U9 sh 0) 110 (0,0)):=new_at d0.symm;have c8:Ext w (a8.alloc (.cells (U9 sh 0) 110)):=Y.out.alloc _;have g9:w.heap.size<=f:=by rw [<-d0];exact Y.out.size
 rw [e7] at a5 c8;rw [<-e7] at a5;obtain⟨f6,f5,k0⟩:=Zh3 a5 c8 g9;clear a5 c8 e7 g9 Y;go_wp2
 refine wp_loop (fun a V=>∃(k:Nat),k<=N/\a.defers=[]/\(a.tmps.size=62/\a.tmps.getD 0 undef=.slice ao N cap/\a.tmps.getD 5 undef=.pointer (some ⟨f,0,none⟩)/\a.tmps.getD 16 undef=.slice ao N cap/\a.tmps.getD 17 undef=.int .i64 N/\a.tmps.getD 18 undef=.int .i64 k)/\V.heap[f]?=some (.cells (U9 sh k) 110 (0,0))/\Ext w V)
  (fun a _=>N - (intOf (a.tmps.getD 18 undef)).toNat) ?_ ?_
 ·exact⟨0,by omega,rfl,⟨rfl,rfl,rfl,rfl,rfl,rfl⟩,f6.out,f5.out⟩
 clear f6 f5 d0;rintro⟨e8,_⟩ V ⟨k,m1,d5,⟨U,y,z,b7,b8,b9⟩,m,P⟩;subst d5;obtain⟨f0,o⟩:=Z8 U;obtain⟨b,rfl⟩:∃ l,l=f0:=⟨_,rfl⟩;have e3:e8=#[b 0,b 1,b 2,b 3,b 4,b 5,b 6,b 7,b 8,b 9,b 10,b 11,b 12,b 13,b 14,b 15,b 16,b 17,b 18,b 19,b 20,b 21,b 22,b 23,b 24,b 25,b 26,b 27,b 28,b 29,b 30,b 31,b 32,b 33,b 34,b 35,b 36,b 37,b 38,b 39,b 40,b 41,b 42,b 43,b 44,b 45,b 46,b 47,b 48,b 49,b 50,b 51,b 52,b 53,b 54,b 55,b 56,b 57,b 58,b 59,b 60,b 61]:=o;clear o;subst e3;change b 0=_ at y;change b 5=_ at z;change b 16=_ at b7;change b 17=_ at b8;change b 18=_ at b9;rw [y,z,b7,b8,b9];clear y z b7 b8 b9 U;have j:=Zh m;have g:=Zh P;clear m P;by_cases i6:k<N
 ·have u:(k:Int)<(N:Int):=by omega
  have k7:(0:Int)<=(k:Int):=by omega
  have F:k<sh.length:=by rw [x.out];exact i6
  obtain⟨g6,l1,b6,S,k8,I⟩:=Zq (b1.out.ext g.out) i6;simp only [zV,true_and] at S;obtain⟨rfl,rfl⟩:=S;rw [Y1 sh F] at I;have E:=P6 F (-1);have e4:=a0.out.2 _ (List.getElem_mem F);rw [x.out] at e4;obtain⟨l,W⟩:=zE (sh[k]);rw [W] at I E e4;obtain⟨m4,m3⟩:=e4;have b0:=Zh E;clear W E;by_cases i8:l<0
  ·have T:=Rs (sh:=sh) (k:=k) (.inl (by rw [b0.out];exact i8));have m:=j.out;rw [<-T] at m;have K:=Zh m;clear T m;go_wp2;exact⟨⟨k+1,by omega,by omega,K.out,g.out⟩,nz⟩
  ·obtain⟨d,rfl⟩:∃ d:Nat,l=(d:Int):=⟨l.toNat,by omega⟩;by_cases a7:d=k
   ·subst a7;have T:=Rs (sh:=sh) (k:=d) (.inr b0.out);have m:=j.out;rw [<-T] at m;have K:=Zh m;clear T m;go_wp2;exact⟨⟨d+1,by omega,by omega,K.out,g.out⟩,nz⟩
   ·have m2:(d:Int)<64:=by omega
    have D:V.cell? ⟨f,d,none⟩=some (.bool (Mw sh k d)):=by rw [cell_of_row V f d _ _ _ j.out,Bg oz]
    have l8:V.frozen? ⟨f,d,none⟩=false:=frozen_of_row V f d _ _ j.out;have j0:(V.setCell ⟨f,d,none⟩ (.bool true)).heap[f]?=some (.cells (U9 sh (k+1)) 110 (0,0)):=by
     have u:=j.out;simp only [World.setCell,Array.getElem?_modify,u];simp [Q5z b0.out a7]
    have A:Ext w (V.setCell ⟨f,d,none⟩ (.bool true)):=g.out.after (Q0.set1 V f d _) (fun g6 u h2=>by have:=k0.out;omega);have i7:((d:Int) !=(k:Int))=true:=by simp;omega
    have K:=Zh j0;have Z:=Zh A;clear j0 A;go_wp2;exact⟨⟨k+1,by omega,by omega,K.out,Z.out⟩,nz⟩
 obtain rfl:k=N:=by omega
 have u:¬ (k:Int)<(k:Int):=by omega
 go_wp2;clear u;obtain⟨t,i4⟩:=zE w.heap.size;have b5:=Zh i4;clear i4
 refine wp_loop (fun a s=>∃(c:Nat) (v:Value),c<=k/\a.defers=[]/\(a.tmps.size=62/\a.tmps.getD 0 undef=.slice ao k cap/\a.tmps.getD 5 undef=.pointer (some ⟨f,0,none⟩)/\a.tmps.getD 8 undef=v/\a.tmps.getD 33 undef=.slice ao k cap/\a.tmps.getD 34 undef=.int .i64 k/\a.tmps.getD 35 undef=.int .i64 c)/\Y5 t s v (Y9 sh c)/\s.heap[f]?=some (.cells (U9 sh k) 110 (0,0))/\Ext w s)
  (fun a _=>k - (intOf (a.tmps.getD 35 undef)).toNat) ?_ ?_
 ·exact⟨0,_,by omega,rfl,⟨rfl,rfl,rfl,rfl,rfl,rfl,rfl⟩,Y5.nil _ _,j.out,g.out⟩
 clear j g;rintro⟨e8,_⟩ s ⟨c,v,l9,d5,⟨U,y,z,c7,c0,c1,c6⟩,C,m,P⟩;subst d5;obtain⟨f0,o⟩:=Z8 U;obtain⟨b,rfl⟩:∃ l,l=f0:=⟨_,rfl⟩;have e3:e8=#[b 0,b 1,b 2,b 3,b 4,b 5,b 6,b 7,b 8,b 9,b 10,b 11,b 12,b 13,b 14,b 15,b 16,b 17,b 18,b 19,b 20,b 21,b 22,b 23,b 24,b 25,b 26,b 27,b 28,b 29,b 30,b 31,b 32,b 33,b 34,b 35,b 36,b 37,b 38,b 39,b 40,b 41,b 42,b 43,b 44,b 45,b 46,b 47,b 48,b 49,b 50,b 51,b 52,b 53,b 54,b 55,b 56,b 57,b 58,b 59,b 60,b 61]:=o;clear o;subst e3;change b 0=_ at y;change b 5=_ at z;change b 8=_ at c7;change b 33=_ at c0;change b 34=_ at c1;change b 35=_ at c6;rw [y,z,c7,c0,c1,c6];clear y z c7 c0 c1 c6 U;obtain⟨j7,j6,rfl⟩:=C.slice;obtain⟨q,j,g⟩:=Zh3 C m P;clear C m P;by_cases d6:c<k;case neg=>
  obtain rfl:c=k:=by omega
  have u:¬ (c:Int)<(c:Int):=by omega
  go_wp2;refine bodyPost_ret (Qi rfl _ _ _) rfl ⟨_,rfl,by rw [k2.out,b5.out];exact q.out,g.out⟩
 have u:(c:Int)<(k:Int):=by omega
 have k7:(0:Int)<=(c:Int):=by omega
 have F:c<sh.length:=by rw [x.out];exact d6
 obtain⟨g6,l1,b6,S,k8,I⟩:=Zq (b1.out.ext g.out) d6;simp only [zV,true_and] at S;obtain⟨rfl,rfl⟩:=S;rw [Y1 sh F] at I;have E:=P6 F (-1);obtain⟨l,W⟩:=zE (sh[c]);rw [W] at I E;have r:=Q2a E a0.out;clear W E;have i9:U5 sh c=false->Y5 t s (.slice j7 (Y9 sh c).length j6) (Y9 sh (c+1)):=fun h=>by rw [Ei h];exact q.out
 have p:=Zh i9;have k9:=Th sh c;obtain⟨g1,B⟩:=zE ((Y9 sh c).length);rw [B] at k9;have b2:=Zh B;have C:=q.out;have d8:=p.out;rw [B] at C d8 ⊢;clear q p;have q:=Zh C;have p:=Zh d8;clear C d8 i9;by_cases i8:l<0
 ·have R:U5 sh c=false:=by rw [r,decide_eq_false oz];rfl
  have L:=Zh (p.out R);clear r R p q B;go_wp2;exact⟨⟨c+1,by omega,_,⟨rfl,by omega⟩,L.out,j.out,g.out⟩,nz⟩
 obtain⟨d,rfl⟩:∃ d:Nat,l=(d:Int):=⟨l.toNat,by omega⟩;by_cases a7:d=c
 ·subst a7;have R:U5 sh d=false:=by rw [r];simp
  have L:=Zh (p.out R);clear r R p q B;go_wp2;exact⟨⟨d+1,by omega,_,⟨rfl,by omega⟩,L.out,j.out,g.out⟩,nz⟩
 have i7:((d:Int) !=(c:Int))=true:=by simp;omega
 have m0:(c:Int)<64:=by omega
 have d7:=Q89 sh c;rw [x.out] at d7;have D:s.cell? ⟨f,c,none⟩=some (.bool (toB sh c)):=by rw [cell_of_row s f c _ _ _ j.out,Bg oz,d7]
 clear d7;rw [decide_eq_true oz,decide_eq_true oz] at r;obtain⟨e9,j3⟩:=zE (toB sh c);rw [j3] at D r;clear j3;cases e9;case true=>
  have L:=Zh (p.out r);clear r p q B;go_wp2;exact⟨⟨c+1,by omega,_,⟨rfl,by omega⟩,L.out,j.out,g.out⟩,nz⟩
 case false=>
  have e5:=Su (k:=c) r;have j2:=Hs a0.out F;have j1:=j2.le;rw [x.out] at j1;obtain⟨H,d1⟩:=zE (Qa sh c);have f9:=Zh d1;rw [d1] at e5 j1;have k3:=Zh e5;clear r p e5 j2 d1 B;go_wp2_with fail;refine(Rb).mono ?_;rintro e g5 ⟨rfl,d2,d3,A⟩;obtain⟨g2,i1⟩:=zE s.heap.size;rw [i1] at d2 d3 ⊢;have d4:=Fy (w:=g5) (M:=fun _ _=>True) M9 (fun a8 a1=>Ni (sh:=sh) a1 d6 a0.out x.out ((b1.out.ext g.out).ext A) d2 d3) (by rw [f9.out];omega);rw [f9.out] at d4;have i2:t<=g5.heap.size:=by have:=g.out.size;have:=A.size;have:=b5.out;omega
  obtain⟨f4,Z,b3⟩:=Zh3 d4 A i2;clear d4 A d2 d3 i1 i2 I D;go_wp2_with fail;refine f4.out.mono ?_;rintro e O ⟨b,rfl,o,c9⟩;obtain⟨f2,f1,rfl⟩:=Qk o;have a9:=Zh (Z.out.trans c9);have g0:=Zh (Jj o b3.out);obtain⟨vs,j4,l2,j5⟩:=q.out;have l7:t<=O.heap.size:=by have:=b3.out;have:=c9.size;omega
  have G:=Zh j4;have g3:=Zh j5;clear f4 o c9 j4 j5 q Z b3;rw [b2.out] at G
  go_wp2_with (at_builtin;refine Zv rfl (.tmp 53) (.tmp 58) 54 rfl t 36 _ 1 24 Tryz.underlying54 Tx rfl zd _ _ _ rfl (Qb G.out (a9.out.alloc _)) ⟨O.heap.size,0,none⟩ 1 1 [.slice f2 H.length f1] rfl rfl (Zy rfl) ?c2 ?c3 ?c4 ?c5 ?_)
  case c2=>first | rfl | (intro b o;simp at o;rcases o with rfl;rfl)
  case c3=>unfold maxLen;omega
  case c4=>omega
  case c5=>simp;omega
  intro k5 b6 f3 i0 a3 _;have Q:Ext s (O.alloc (.cells #[.slice f2 H.length f1] 36)):=a9.out.alloc _;have e0:Y5 t f3 (.slice k5 (g1+1) b6) (Y9 sh c++[H]):=by
   refine Y5.push (V:=O.alloc (.cells #[.slice f2 H.length f1] 36)) (v:=.slice j7 g1 j6) (vs:=vs) (by rw [b2.out];exact Qb G.out Q) l2 (fun i hi=>?_) (Qb g0.out ((Q0.refl _ O).alloc _)) (by rw [b2.out];exact i0) a3;obtain⟨k4,k6,l3,l4⟩:=g3.out i hi;exact⟨k4,k6,l3,Qb l4 Q⟩
  have i5:f3.heap[f]?=some (.cells (U9 sh k) 110 (0,0)):=by
   refine a3.heap (Q.keep j.out) (fun e=>?_);obtain⟨l5,D⟩:=Vx G.out e;rw [j.out] at D;simp only [Option.some.injEq,Obj.cells.injEq] at D;exact absurd D.2.1 zd
  have g8:Ext w f3:=(g.out.trans Q).after a3 (fun b' u e=>by have:=(G.out.lt _ e).1;have:=b5.out;omega);rw [<-k3.out] at e0;obtain⟨k1,j9,j8⟩:=Zh3 e0 i5 g8;clear e0 i5 g8 Q a3 i0 G g3 g0 a9 j g;go_wp2;exact⟨⟨c+1,_,by omega,by first | trivial | rfl,⟨rfl,rfl,rfl,rfl,rfl,rfl,rfl⟩,k1.out,j9.out,j8.out⟩,nz⟩
def Zu(sh:List Int)(k:Nat):List (List Int):=((List.range k).filter (Xc sh)).map (Qa sh)
theorem T3(sh:List Int):Zu sh sh.length=Yk sh:=rfl
theorem Bd{sh:List Int}{k:Nat}(h:Xc sh k=true):Zu sh (k+1)=Zu sh k++[Qa sh k]:=by
 unfold Zu;rw [List.range_succ,List.filter_append,List.map_append];simp [h]
theorem Ct{sh:List Int}{k:Nat}(h:Xc sh k=false):Zu sh (k+1)=Zu sh k:=by
 unfold Zu;rw [List.range_succ,List.filter_append,List.map_append];simp [h]
theorem To(sh:List Int)(k:Nat):(Zu sh k).length<=k:=by
 unfold Zu;rw [List.length_map];exact Nat.le_trans (List.length_filter_le _ _) zy
def K3(sh:List Int):List (List Int):=if Yi sh=0 then Yk sh else []
theorem Q81{S:List Int}{q:Nat}(h:S.length=q+1):S.getLastD 0=S[q]' oz:=by
 rw [List.getLastD_eq_getLast?,List.getLast?_eq_getElem?];have a:S.length - 1=q:=by omega
 simp only [a];rw [List.getElem?_eq_getElem oz];rfl
theorem Q5x{S:List Int}{k:Nat}{m:Int}(c:(k:Int)∈S) (d:m∈S) (a:∀ x∈S,m<=x):(S.all fun x=>decide ((k:Int)<=x))=decide (m=(k:Int)):=by
 rw [Bool.eq_iff_iff,List.all_eq_true,decide_eq_true_iff];constructor
 ·intro b;have f:=of_decide_eq_true (b m d);have g:=a _ c;omega
 ·rintro rfl x e;exact decide_eq_true (a x e)
theorem N7{w:World}{ao:Option Addr}{N cap:Nat}{sh:List Int}(a0:Rd w (.slice ao N cap) N 1 (Qh sh)) (X:sh.length=N) :
  Calls Tryz.prog 34 #[.slice ao N cap] w fun e w'=>∃ v,e=.returned (.tuple #[v,.int .i64 (Yi sh)])/\Y5 w.heap.size w' v (K3 sh)/\Ext w w':=by
 have k2:=a0.2.1;unfold maxLen at k2;have c8:=M7 a0 X (cap:=cap);have c6:=@S6 sh;have Y:K3 sh=if Yi sh=0 then Zu sh N else []:=by unfold K3;rw [<-T3,X]
 obtain⟨P,f0⟩:=zE (Yi sh);rw [f0] at c8 c6 Y ⊢;obtain⟨e5,f5⟩:=zE (K3 sh);rw [f5] at Y ⊢;obtain⟨d9,d5,x,d7,b1⟩:=Zh5 c8 a0 X c6 Y;clear c8 a0 c6 f0 Y f5 X;go_enter Tryz.func34,Tryz.ntmps34;go_wp2_with fail;refine d9.out.mono ?_;rintro e k7 ⟨rfl,S⟩;have a8:=Zh S;clear d9 S;by_cases s:P=0;case neg=>
  have l8:(P != 0)=true:=by simpa using s
  have B:=b1.out;rw [if_neg s] at B;subst B;go_wp2;refine bodyPost_ret (Qi rfl _ _ _) rfl ⟨_,rfl,Y5.nil _ _,a8.out⟩
 subst s;have B:=b1.out;rw [if_pos rfl] at B;have c9:=d7.out rfl;have l2:N<=64:=by rw [<-x.out];exact c9.1
 have j1:=Zh B;have b2:=Zh c9;clear B c9 b1 d7;obtain⟨f,f6⟩:=zE w.heap.size;have b3:=Zh f6;clear f6;go_wp2
 refine wp_loop (fun a y=>∃(b:Nat) (v:Value),b<=N/\a.defers=[]/\gS a [0,5,13,14,15]=(50,[.slice ao N cap,v,.slice ao N cap,.int .i64 N,.int .i64 b])/\Y5 f y v (Zu sh b)/\Ext w y)
  (fun a _=>N - (intOf (a.tmps.getD 15 undef)).toNat) ?_ ?_
 ·exact⟨0,_,by omega,rfl,rfl,Y5.nil _ _,a8.out⟩
 clear a8;rintro⟨m1,_⟩ y ⟨b,v,l6,k0,i0,p,e9⟩;subst k0;obtain⟨i6,rfl⟩:=Qt i0;clear i0;obtain⟨O,L,rfl⟩:=p.slice;have m:=Zh p;have u:=Zh e9;clear p e9;by_cases f8:b<N;case neg=>
  obtain rfl:b=N:=by omega
  have e7:¬ (b:Int)<(b:Int):=by omega
  go_wp2;refine bodyPost_ret (Qi rfl _ _ _) rfl ⟨_,rfl,by rw [j1.out,b3.out];exact m.out,u.out⟩
 have e7:(b:Int)<(N:Int):=by omega
 have l1:(0:Int)<=(b:Int):=by omega
 have f9:b<sh.length:=by rw [x.out];exact f8
 have a1:Xc sh b=false->Y5 f y (.slice O (Zu sh b).length L) (Zu sh (b+1)):=fun h=>by rw [Ct h];exact m.out
 have r:=Bd (sh:=sh) (k:=b);have c:=Q46 b2.out f9;have a2:=Hs b2.out f9;have d0:=Hj (sh:=sh) (i:=b);have j9:=To sh b;obtain⟨I,W⟩:=zE ((Zu sh b).length);rw [W] at j9 a1 ⊢;have a9:=Zh W;have p:=m.out;rw [W] at p;clear m;have m:=Zh p;obtain⟨d,b6⟩:=zE (Qa sh b);have e1:=Zh b6;rw [b6] at a2 d0 r c;have g9:=a2.le;rw [x.out] at g9;obtain⟨t,e8⟩:=zE (Xc sh b);rw [e8] at a1 r c;obtain⟨Q,e2,a5,j2,e0⟩:=Zh5 a1 r c a2 d0;clear a1 r c a2 d0 p W b6 e8;go_wp2_with fail;refine(Rb).mono ?_;rintro e e6 ⟨rfl,c,b8,T⟩;obtain⟨e3,f3⟩:=zE y.heap.size;rw [f3] at c b8 ⊢;have c0:=Fy (w:=e6) (M:=fun _ _=>True) M9 (fun k7 S=>Ni (sh:=sh) S f8 b2.out x.out ((d5.out.ext u.out).ext T) c b8) (by rw [e1.out];omega);rw [e1.out] at c0;have f4:f<=e6.heap.size:=by have:=u.out.size;have:=T.size;have:=b3.out;omega
 obtain⟨d3,d4,b0⟩:=Zh3 c0 T f4;clear c0 T c b8 f3 f4;go_wp2_with fail;refine d3.out.mono ?_;rintro e R ⟨i6,rfl,C,b4⟩;obtain⟨m2,F,rfl⟩:=Qk C;have l:=Zh (d4.out.trans b4);have o:=Zh (Jj C b0.out);have l3:f<=R.heap.size:=by have:=b0.out;have:=b4.size;omega
 clear d3 C b4 d4 b0;have k3:0<d.length:=List.length_pos_of_mem e0.out;obtain⟨g,j⟩:∃ g,d.length=g+1:=⟨d.length - 1,by omega⟩;have d8:=Zh j;have K:=o.out;rw [j] at K g9 ⊢;clear o k3;have o:=Zh K;clear K;have k1:t=false->∃(j_1:Nat),True:=fun _=>⟨0,trivial⟩;clear k1;have f2:Ext w R:=u.out.trans l.out;have G:=Zh f2;clear f2;by_cases k4:g=0
 ·subst k4;have q:t=false:=by rw [a5.out,decide_eq_false (by rw [j];omega)];rfl
  have H:Hid (Y5 f R (.slice O I L) (Zu sh (b+1))):=Zh ((Q.out q).ext l.out);clear j;go_wp2;exact⟨⟨b+1,_,by omega,by first | trivial | rfl,rfl,H.out,G.out⟩,nz⟩
 have l9:((g:Int)+1 > 1)=True:=by simp;omega
 have g7:g<d.length:=by omega
 have g0:=Q81 j;have g8:=Rd.of_own o.out;obtain⟨A,E,c2,g5,l4,b9⟩:=Zq g8 (show g<g+1 by omega);simp only [zV,true_and] at g5;obtain⟨rfl,rfl⟩:=g5;rw [Y1 d g7] at b9;have Z:=j2.out.2 _ (List.getElem_mem g7);rw [<-g0] at Z b9;obtain⟨a4,s⟩:=zE (d.getLastD 0);rw [s] at Z b9;obtain⟨D,rfl⟩:∃ D:Nat,a4=(D:Int):=⟨a4.toNat,by omega⟩;rw [x.out] at Z;have g1:D<N:=by omega
 have g4:D<sh.length:=by rw [x.out];exact g1
 obtain⟨l0,m0,c3,g6,l5,f7⟩:=Zq (d5.out.ext G.out) g1;simp only [zV,true_and] at g6;obtain⟨rfl,rfl⟩:=g6;rw [Y1 sh g4] at f7;have c1:=P6 g4 (-1);obtain⟨a3,i1⟩:=zE (sh[D]);rw [i1] at f7 c1;have l7:(D:Int)<(N:Int):=by omega
 have c:=a5.out;rw [s,Int.toNat_natCast,c1,decide_eq_true (by rw [j];omega),Bool.true_and] at c;have a6:=Zh c;have g3:=Q84 (o.out |> Rd.of_own) j oz;have d6:=Zh g3;clear i1 c1 c s g0 g8 Z a5 j g3;by_cases d1:a3=(b:Int);case neg=>
  have q:t=false:=by rw [a6.out,decide_eq_false d1];rfl
  have H:Hid (Y5 f R (.slice O I L) (Zu sh (b+1))):=Zh ((Q.out q).ext l.out);have k5:(a3 ==(b:Int))=false:=by simpa using d1
  clear q;go_wp2;exact⟨⟨b+1,_,by omega,by first | trivial | rfl,rfl,H.out,G.out⟩,nz⟩
 subst d1;go_wp2_with fail;refine d6.out.mono ?_;rintro e z ⟨i8,rfl,⟨i2,i3⟩,rfl⟩;have g2:=Q5x e0.out i2 i3;have c:=a6.out;rw [g2,decide_eq_true trivial,Bool.true_and] at c;have a7:=Zh c;clear i2 i3 g2 c d6 a6;by_cases d2:i8=(b:Int);case neg=>
  have q:t=false:=by rw [a7.out,decide_eq_false d2]
  have H:Hid (Y5 f z (.slice O I L) (Zu sh (b+1))):=Zh ((Q.out q).ext l.out);have k5:(i8 ==(b:Int))=false:=by simpa using d2
  clear q;go_wp2;exact⟨⟨b+1,_,by omega,by first | trivial | rfl,rfl,H.out,G.out⟩,nz⟩
 subst d2;have r:=e2.out (by rw [a7.out];exact decide_eq_true rfl);have j3:=Zh r;clear r e2 Q a7;obtain⟨vs,i4,k6,i5⟩:=m.out;have J:=Zh i4;have e4:=Zh i5;clear i4 i5 m;rw [a9.out] at J
 go_wp2_with (at_builtin;refine Zv rfl (.tmp 44) (.tmp 46) 54 rfl f 36 _ 1 24 Tryz.underlying54 Tx rfl zd _ _ _ rfl (Qb J.out (l.out.alloc _)) ⟨z.heap.size,0,none⟩ 1 1 [.slice (some ⟨A,E,none⟩) (g+1) F] rfl rfl (Zy rfl) ?c2 ?c3 ?c4 ?c5 ?_)
 case c2=>first | rfl | (intro i6 C;simp at C;rcases C with rfl;rfl)
 case c3=>unfold maxLen;omega
 case c4=>omega
 case c5=>simp;omega
 intro j5 j6 i7 b5 b7 _;have U:Ext y (z.alloc (.cells #[.slice (some ⟨A,E,none⟩) (g+1) F] 36)):=l.out.alloc _;have c7:Y5 f i7 (.slice j5 (I+1) j6) (Zu sh b++[d]):=by
  have K:=Qb o.out ((Q0.refl (fun _=>False) z).alloc (.cells #[.slice (some ⟨A,E,none⟩) (g+1) F] 36));have j8:(z.alloc (.cells #[.slice (some ⟨A,E,none⟩) (g+1) F] 36)).ownsRow f 3 1 (.slice (some ⟨A,E,none⟩) d.length F) d.length (Qh d):=by rw [d8.out];exact K
  rw [<-d8.out] at b5;refine Y5.push (V:=z.alloc (.cells #[.slice (some ⟨A,E,none⟩) (g+1) F] 36)) (v:=.slice O I L) (vs:=vs) (by rw [a9.out];exact Qb J.out U) k6 (fun i hi=>?_) j8 (by rw [a9.out];exact b5) b7;obtain⟨j4,j7,k8,k9⟩:=e4.out i hi;exact⟨j4,j7,k8,Qb k9 U⟩
 have f1:Ext w i7:=(u.out.trans U).after b7 (fun b' e7 e=>by have:=(J.out.lt _ e).1;have:=b3.out;omega);rw [<-j3.out] at c7;have j0:=Zh c7;have i9:=Zh f1;clear c7 f1 U b7 b5 J e4 o l u G;go_wp2;exact⟨⟨b+1,_,by omega,by first | trivial | rfl,rfl,j0.out,i9.out⟩,nz⟩
def Qb8(l:List Nat)(n:Nat):List Int:=(List.range n).map fun i=>((l.getD i 0 % (n+1):Nat):Int) - 1
theorem Q8y{sh:List Int}(h:Zp sh):Yi sh=0:=by
 unfold Yi;rw [if_neg (by have:=h.1;omega),if_neg];intro a;obtain⟨d,c,b⟩:=List.any_eq_true.1 a;rw [Bool.or_eq_true,decide_eq_true_iff,decide_eq_true_iff] at b;have:=h.2 d c;omega
def Q9g(sh:List Int)(k j:Nat):Nat:=(List.range k).countP fun p=>decide (p≠j) && decide (sh.getD p (-1)=(j:Int))
def Qaa(sh:List Int)(n k:Nat):List Nat:=(List.range n).map (Q9g sh k)
def hdC(sh:List Int):List Nat:=(List.range sh.length).filter (U5 sh)
def hdK(sh:List Int):List Nat:=(List.range sh.length).filter (Xc sh)
theorem Q4s(sh:List Int):Gx sh=(hdC sh).map (Qa sh):=rfl
theorem Wc(sh:List Int):Yk sh=(hdK sh).map (Qa sh):=rfl
section
variable {sh:List Int} (hs:Zp sh) {s:Nat} (hi:s<sh.length)
include hs hi
end
theorem Q41{sh:List Int}{m:Nat}(h:Xc sh m=true):Xv sh m=true:=by
 unfold Xc at h;rw [Bool.and_eq_true,Bool.and_eq_true] at h;exact h.1.1
def Qb5(sh:List Int):List Int:=(Gx sh).flatten++(Yk sh).flatten
theorem Nf:∀ {l:List (List Int)},(∀ c∈l,c.Nodup)->(l.Pairwise fun c d=>∀ x∈c,x ∉ d)->l.flatten.Nodup
 | [],_,_=>List.nodup_nil
 | c::l,h1,h2=>by
  rw [List.pairwise_cons] at h2;rw [List.flatten_cons];refine List.pairwise_append.2 ⟨h1 c zy,Nf (fun d hd=>h1 d (by simp [hd])) h2.2,fun x hx y hy e=>?_⟩;obtain⟨d,hd,hyd⟩:=List.mem_flatten.1 hy;exact h2.1 d hd x hx (by rw [e];exact hyd)
section
variable {sh:List Int} (hs:Zp sh)
include hs
theorem L1:((Yk sh).flatten).Nodup:=by
 refine Nf (fun c hc=>?_) ?_
 ·rw [Wc] at hc;obtain⟨l,i,rfl⟩:=List.mem_map.1 hc;exact Fu hs (List.mem_range.1 (List.mem_filter.1 i).1)
 ·rw [Wc,List.pairwise_map];have g:((List.range sh.length).filter (Xc sh)).Pairwise (· < ·):=List.Pairwise.filter _ List.pairwise_lt_range;refine List.Pairwise.imp_of_mem (fun {a b} ha hb hab=>?_) g;intro e d j;unfold hdK at ha hb;rw [List.mem_filter,List.mem_range] at ha hb;have k:=(Vc hs ha.1 d).1;obtain⟨f,rfl⟩:∃ f:Nat,e=(f:Int):=⟨e.toNat,by omega⟩;have:=Q3j hs ha.1 hb.1 ha.2 hb.2 d j;omega
theorem Q73{s i:Nat}(a:s<sh.length)(c:Xv sh s=true)(e:(i:Int)∈Qa sh s):Xv sh i=true\/toB sh i=true:=by
 by_cases b:(i:Int)=(s:Int)
 ·have:i=s:=by omega
  rw [this];exact .inl c
 ·obtain⟨j,f,k,d⟩:=Q6c hs a e b;have g:=Vc hs a f;refine .inr (Lx.2 ⟨j.toNat,by omega,by omega,?_⟩);rw [Int.toNat_of_nonneg g.1];exact d
end
-- counting place by place
def K8(sh:List Int)(n k:Nat):List Int:=sh.take k++List.replicate (n - k) 0
theorem Q4x(sh:List Int)(n:Nat):Qh (K8 sh n 0)=List.replicate n (.int .i64 0):=by simp [K8,Qh]
theorem Q57{sh:List Int}{n:Nat}(h:sh.length=n):K8 sh n n=sh:=by simp [K8,<-h]
theorem Q69{sh:List Int}{n k:Nat}(h:sh.length=n)(a:k<=n):(K8 sh n k).length=n:=by simp [K8];omega
theorem Q55{sh:List Int}{n k:Nat}(h:sh.length=n)(f:k<n){y:Int}(e:sh.getD k (-1)=y):(Qh (K8 sh n k)).set k (.int .i64 y)=Qh (K8 sh n (k+1)):=by
 have a:k<sh.length:=by omega
 have b:sh[k]=y:=by rw [<-e,List.getD_eq_getElem?_getD,List.getElem?_eq_getElem a];rfl
 have c:(Qh (K8 sh n k)).set k (.int .i64 y)=Qh ((K8 sh n k).set k y):=by unfold Qh;rw [List.map_set]
 rw [c]
 congr 1
 unfold K8;have d:(sh.take k).length=k:=by rw [List.length_take];omega
 rw [List.set_append_right _ _ oz,d,Nat.sub_self,show n - k=n - (k+1)+1 by omega,List.replicate_succ,List.set_cons_zero,List.take_succ_eq_append_getElem a,b,List.append_assoc];rfl
theorem Hz{W:World}{X g n c:Nat}{L:List Int}(h:W.ownsRow X 3 1 (.slice (some ⟨g,0,none⟩) n c) n (Qh L)) (e:L.length=n) {m:Nat} (f:m<n) {d x:Int} (a:L.getD m d=x):W.cell? ⟨g,m,none⟩=some (.int .i64 x):=by
 rw [h.cellAt m oz];have b:m<L.length:=by omega
 rw [List.getD_eq_getElem?_getD,List.getElem?_eq_getElem b] at a;simp only [Option.getD_some] at a;simp [Qh,b,a]
theorem Gv{X:Nat}{W:World}{v:Value}{L:List (List Int)} (h:Y5 X W v L):∃ ao c,v=.slice ao L.length c:=by
 obtain⟨b,a,_⟩:=h;exact Qk a
def Np(w:World)(v:Value)(L:List (List Int)):Prop:=∃ vs,Rd w v L.length 1 vs/\∀ i (h:i<L.length),∃ ao c,vs.getD i undef=.slice ao L[i].length c/\Rd w (.slice ao L[i].length c) L[i].length 1 (Qh L[i])/\L[i].length<=c
theorem Np.ext{A B:World}{v:Value}{L:List (List Int)} (h:Np A v L) (a:Ext A B):Np B v L:=by
 obtain⟨k,d,e⟩:=h;refine⟨k,d.ext a,fun i hi=>?_⟩;obtain⟨b,c,f,g,j⟩:=e i hi;exact⟨b,c,f,g.ext a,j⟩
theorem Q3s{W:World}{X n c m:Nat}{ao:Option Addr}{xs:List Value}{e:TypeId}(h:W.ownsRow X e 1 (.slice ao n c) m xs):n<=c:=by
 obtain⟨_,a⟩:=h;rcases a with ⟨h,_⟩ | ⟨g,d,f,h,_,_,b,_⟩
 ·simp only [zV] at h;omega
 ·simp only [zV] at h;obtain⟨_,rfl,rfl⟩:=h;exact b
theorem Y5.grc{X:Nat}{W:World}{v:Value}{L:List (List Int)} (h:Y5 X W v L):Np W v L:=by
 obtain⟨g,d,_,e⟩:=h;refine⟨g,Rd.of_own d,fun i hi=>?_⟩;obtain⟨b,c,f,a⟩:=e i hi;exact⟨b,c,f,Rd.of_own a,Q3s a⟩
theorem Q2i{W:World}{ao:Option Addr}{N cap:Nat}{L:List (List Int)} (h:Np W (.slice ao N cap) L) (m:L.length=N) {q:Nat} (o:q<L.length) {c:List Int} (a:L[q]=c) (k:0<c.length) :
  ∃ g off cg co cc,ao=some ⟨g,off,none⟩/\W.cell? ⟨g,off+q,none⟩=some (.slice (some ⟨cg,co,none⟩) c.length cc)/\(∀ j,j<c.length->W.cell? ⟨cg,co+j,none⟩=some (.int .i64 (c.getD j 0)))/\Rd W (.slice (some ⟨cg,co,none⟩) c.length cc) c.length 1 (Qh c)/\c.length<=cc:=by
 subst a;obtain⟨y,i,l⟩:=h;obtain⟨x,c,p,b,r⟩:=l q o;rw [m] at i;obtain⟨g,off,s,d,_,a⟩:=Zq i (by omega:q<N);rw [p] at a;simp only [zV] at d;obtain⟨cg,co,t,e,_,_⟩:=Zq b k;simp only [zV] at e;obtain⟨rfl,_,rfl⟩:=e;refine⟨g,off,cg,co,c,d.1,a,fun j hj=>?_,b,r⟩;obtain⟨v,w,u,f,_,n⟩:=Zq b hj;simp only [zV,Option.some.injEq,Addr.mk.injEq,and_true] at f;obtain⟨⟨rfl,rfl⟩,_⟩:=f;rw [n,Y1 _ hj,List.getD_eq_getElem?_getD,List.getElem?_eq_getElem hj];rfl
def Qam(hd:List Nat)(q:Nat):Int:=if q=0 then -1 else(hd.getD (q - 1) 0:Nat)
def Q9m(sh:List Int):List (List Int):=Gx sh++Yk sh
def Qbl(sh:List Int)(Q:Nat):Nat:=((Q9m sh).take Q).flatten.length
def Qb4(sh:List Int)(p:Nat):Nat:=((Yk sh).take p).flatten.length
def Qbc(sh:List Int)(k:Nat):Nat:=((List.range k).filter (U5 sh)).length
theorem Q38{w:World}{BW BL a3 a4:Nat}{l:Q5}{cs:List Value}{vo:Option Addr}{vc:Nat}{ws:Wd}{K:Nat->Prop}(k3:Yj l=true)(e7:l.mode=2)(o2:ws.length<=32)(e0:ws.length<=vc)(e4:Ze K (.slice vo ws.length vc))
  (i8:∀ b,K b->b<w.heap.size) (E:∀ W,Q0 (fun b=>¬ K b) w W->Sn W BW BL a3 a4 l cs vo vc ws) :
  Kj Tryz.prog 209 #[.pointer (some ⟨BW,0,none⟩),.pointer (some ⟨BL,0,none⟩),.pointer (some ⟨a3,0,none⟩),.pointer (some ⟨a4,0,none⟩)] (Yh 2) (Ty 2) (Qv l ws) K w:=by
 intro a0 m9 p4 W f1 i4 n6 j4 i3;obtain⟨n9,k5,k2,_,j8,_,_,_⟩:=Gu k3;have b2:=E W f1;have k6:=b2.law.box.mode;rw [e7] at k6;obtain⟨l6,f2⟩:=zE ws.length;have a9:=cell_of_one b2.box;rw [f2] at a9 o2 e0 e4;obtain⟨g1,O,d3,l9,g4,I,d5,f9⟩:=Zh8 e4 f2 E j8 e7 i4 j4 i3;have d4:=Zh f1;have c3:=Zh b2;obtain⟨Z,e3⟩:=zE l.ifs.length;obtain⟨f4,e6⟩:=zE l.outs.length;rw [e3] at n9 k2;rw [e6] at k5 k2;have q:=Zh e3;have J:=Zh e6;clear E j8 e7 i4 n6 j4 i3 f1 b2 k3 f2 e4 e3 e6;show Calls _ _ #[.func (.yield a0) #[] #[],.pointer (some ⟨BW,0,none⟩),.pointer (some ⟨BL,0,none⟩),.pointer (some ⟨a3,0,none⟩),.pointer (some ⟨a4,0,none⟩)] _ _;go_enter Tryz.func209,Tryz.ntmps209;have d6:=c3.out.law.box.mode;rw [g4.out] at d6;go_upto_region 1 with (fail)
 obtain⟨N,p⟩:=zE (W.alloc (.cells #[.func (.yield a0) #[] #[]] 211));have G:Ext W N:=by rw [<-p];exact(Q0.refl _ W).alloc _
 have d9:N.heap[W.heap.size]?=some (.cells #[.func (.yield a0) #[] #[]] 211 (0,0)):=by rw [<-p];exact new_at rfl
 have f0:N.heap.size=W.heap.size+1:=by rw [<-p];simp
 rw [p];obtain⟨e,b7⟩:=zE W.heap.size;rw [b7] at d9 f0 ⊢;have e2:=I.out;have f3:=d5.out;rw [b7] at e2 f3;have o7:=I;have I:=Zh e2;have d5:=Zh f3;clear e2 f3;have m1:Hid (∀ b,K b->b<e):=Zh fun b U=>by have:=i8 b U;have:=d4.out.size;omega
 have i1:=Zh b7;have a6:=Zh f0;clear i8;have a9:=G.cell_some a9 id;clear p b7 f0 k6;go_upto_region 2 with (fail)
 rw [a6.out];obtain⟨c2,Y⟩:=zE (N.alloc (.cells #[.slice vo l6 vc] 23));have C:Ext N c2:=by rw [<-Y];exact(Q0.refl _ N).alloc _
 have i9:Yz c2 (e+1) (.slice vo l6 vc):=by rw [<-Y];exact new_at a6.out.symm
 have k8:c2.heap.size=e+2:=by rw [<-Y];simp [a6.out]
 have j5:=C.keep d9;rw [Y];have R:=G.trans C;have o0:=R.cell_some d6 id;have d1:=Zh k8;clear Y a9 d9 G C d6 k8;have i5:=I.out _ (fun b=>b=e\/b=e+1) [] _ _ f9.out (Ext.of R) (fun b U=>by have:=i1.out;have:=d1.out;omega);have g0:=Zh i5;have j2:Q0 (fun b=>¬ K b) w c2:=d4.out.trans (Ext.of R);clear i5;go_wp2;obtain⟨g9,i2,c7⟩:=Zh3 j2 j5 i9;clear j2 j5 i9 o0
 refine wp_loop (fun a P=>∃(a7:Nat->Prop) (A:List (Nat × Wd)) (u:Wd) (i:Nat) (f7:Option Addr) (f6:Nat),a.defers=[]/\gS a [0,1,2,3,4,5,6,10]=(117,[.func (.yield a0) #[] #[],.pointer (some ⟨BW,0,none⟩),.pointer (some ⟨BL,0,none⟩),.pointer (some ⟨a3,0,none⟩),.pointer (some ⟨a4,0,none⟩),.pointer (some ⟨e,0,none⟩),.pointer (some ⟨e+1,0,none⟩),.int .i64 i])/\J9 l ws A u i/\Yr w P K a7 m9 e a0 A u f7 f6)
  (fun a P=>T7 P (e+1)+1 - (intOf (a.tmps.getD 10 undef)).toNat) ?_ ?_
 ·refine⟨(fun b=>b=e\/b=e+1),[],ws,0,vo,vc,rfl,rfl,.start g4.out,⟨g0.out,.inl rfl,.inr rfl,fun b U=>by have:=d1.out;omega,g9.out,i2.out,?_,?_,?_,?_⟩⟩
  ·rw [O.out];exact c7.out
  ·exact c3.out.word.ext R
  ·rw [O.out];exact e0
  ·rw [O.out];exact fun g o n c L h0'=>.inl (g1.out g o n c L h0')
 clear g0 f9 g9 i2 c7 c3 R d4 i1 a6 d1 e0 g1;rintro⟨t,_⟩ P ⟨a7,A,o5,i,f7,f6,n7,l0,T,M⟩;obtain⟨H,rfl⟩:∃ x,x=o5:=⟨_,rfl⟩;subst n7;obtain⟨u,rfl⟩:=Qt l0;clear l0;have E:=d3.out P M.t;obtain⟨c1,X⟩:=zE H.length;have f:=V9 M.n;have B:=cell_of_one M.n;have b0:=cell_of_one M.y;have b1:=cell_of_one E.bk;have Q:=cell_of_one E.bm;rw [q.out] at b1;rw [J.out] at Q;rw [X] at B f;have n8:=few (t:=A.length) (n:=ws.length+1) (m:=f4) (by have:=T.2.1;omega) k5 (by rw [O.out];omega);have q9:c1<=230:=by
  have F:=T.2.2.1;rw [J.out,X,O.out] at F;omega
 have j9:=T.2.2.2;rw [X] at j9;obtain⟨d,c4,c9,a5,d0⟩:=Zh5 X f T M E;clear X f T M E n8;by_cases e5:i+Z<=c1;case neg=>
  have F:¬ ((i:Int)+(Z:Int)<=(c1:Int)):=by omega
  have j7:=c9.out.done (by rw [d.out,q.out];omega);have l8:=Zh j7;clear j7 Q b0;go_wp2;go_end0
  exact⟨⟨_,rfl⟩,a7,.inl (by rw [l8.out];exact a5.out.j)⟩
 have F:(i:Int)+(Z:Int)<=(c1:Int):=by omega
 go_upto_region 14 with (fail)
 obtain⟨S,b3⟩:=d0.out.law;obtain⟨r9,r2,s4,r4,r7,p9,q2,s0,p5,q5,r3,s5,r5,r8,q0,q3,s1,p6,q6,r1,p7,r0,s3,p8,s2,r6,rfl,o8,p2,p3,o6,m3,p1,r,c7,c8,p0,o9,s6,l3,o3,l4,s7⟩:=X5 b3;have c0:=a5.out.wd;have b8:=Q03 b3 c0 d0.out.tab i (by rw [d.out];exact j9) (by rw [d.out,q.out];omega);rw [d.out] at b8 c0;obtain⟨U,e1⟩:=zE (Zt l H i);rw [e1] at b8;obtain⟨c5,c6,g2,m7,m2⟩:=Zh5 b8 e1 S c0 b3;clear b8 e1 S b3 c0 b1 Q b0
 go_wp2_with (first | (refine wpList_load_row rfl 50 (.tmp 2) rfl BL rfl _ _ _ _ g2.out Tryz.underlying50 rfl Tryz.lawInfo ?_) | fail)
 refine c5.out.mono ?_;rintro L n0 ⟨rfl,G⟩;have s:=a5.out.ext G I.out;have b6:=d3.out n0 s.t;cases U;case false=>
  have j0:=c9.out.miss (by rw [d.out,q.out];exact e5) c6.out;have m5:=Zh j0;have r:=Zh s;have f:=V9 s.n;rw [d.out] at f;have l7:=Zh f;clear j0 s b6 c5 G B f;go_wp2;refine⟨⟨a7,A,H,i+1,f7,f6,tz,rfl,m5.out,r.out⟩,?_⟩;rw [c4.out,l7.out];simp [intOf];omega
 have B:=cell_of_one s.n;rw [d.out] at B;have p:=s.wd;rw [d.out] at p;have k7:=Mh b6.law.2 p d.out (by have:=s.cap;rw [d.out] at this;exact this) i (by rw [q.out];exact e5) l9.out (by rw [J.out];omega) oz;have S:=b6.law.1;have l1:Qw (Yd l H i):=by
  have F:=p.2;intro f5 k;unfold Yd Vg at k;rcases List.mem_append.1 k with k | k
  ·rcases List.mem_append.1 k with k | k
   ·exact F f5 (List.mem_of_mem_take k)
   ·exact Lq (fun x hx=>F x (List.mem_of_mem_drop (List.mem_of_mem_take hx))) m3.out.2 f5 k
  ·exact F f5 (List.mem_of_mem_drop k)
 obtain⟨g7,g3,r,i0⟩:=Zh4 k7 S s l1;obtain⟨j1,l5,k9⟩:=c9.out.hit c6.out;have g5:=Zh j1;have d2:=Zh k9;clear k7 S s b6 p l1 j1 k9 c5 G;go_upto_region 17 with (first | (refine wpList_load_row rfl 50 (.tmp 2) rfl BL rfl _ _ _ _ g3.out Tryz.underlying50 rfl Tryz.lawInfo ?_) | (go_at_call 213;refine g7.out.mono ?_;rintro L n1 ⟨s8,rfl,d7,C⟩;obtain⟨a2,a1,rfl⟩:=Qk d7;have n4:=cell_of_one (C.keep r.out.n);have n5:=free_of_one (C.keep r.out.n)))
 obtain⟨a8,v,_,b5⟩:=(r.out).put2 m1.out d7 C i0.out (Nat.le_refl 2) I.out;have o1:=(r.out.lt _ r.out.on).2;obtain⟨n2,j3⟩:=zE (n1.setCell ⟨e+1,0,none⟩ (.slice a2 (Yd l H i).length a1));rw [j3] at v b5 ⊢;clear j3 d7 C B n4 n5 g7 g3 g2 r i0 m2 m7 a5 d0;obtain⟨z,b9⟩:=zE (Yd l H i);rw [b9] at v b5 g5 d2;have k4:=Vq (l:=l) (u:=H) (i:=i) (by rw [d.out,q.out];exact e5);rw [b9,d.out,q.out,J.out] at k4;rw [b9];obtain⟨o4,V⟩:=zE z.length;rw [V] at k4;have B:=cell_of_one v.n;rw [V] at B;have b0:=cell_of_one v.y;obtain⟨q7,s9,q1,q4,l2,j6⟩:=d5.out a8 A (i,z) l5 n2 #[.int .i64 (i:Int),.slice a2 o4 a1] d2.out v.j ⟨a2,a1,by rw [V],v.wd,v.cap,fun g o n c L h0'=>by obtain⟨l3,o3,l4⟩:=b5 g o n c L h0';exact⟨l3,by omega,l4⟩⟩;clear b5 o1;obtain⟨m4,m8,g8⟩:=Zh3 v j6 V;clear v j6 V b9 c6;rw [g8.out];refine(wpIn_wide (n:=0)).1 ?_;gi_wp2;refine m8.out.mono ?_;rintro L n3 (⟨rfl,i6,k1⟩ | ⟨rfl,i7,_⟩)
 ·have b4:=m4.out.yielded i6 k1;have d8:=d3.out n3 b4.t;have b1:=cell_of_one d8.bk;have Q:=cell_of_one d8.bm;rw [q.out] at b1;rw [J.out] at Q;have f:=V9 b4.n;rw [g8.out] at f;have c8:=Zh b4;have f8:=Zh f;clear b4 d8 f l2 B b0 i6 k1;have e8:=g5.out;rw [q.out,J.out] at e8;have g6:=Zh e8;clear e8;by_cases k0:Z=0
  ·subst k0;gi_wp2;go_wp2;refine⟨⟨a8,A++[(i,z)],z,i+f4+1,a2,a1,tz,rfl,g6.out,c8.out⟩,?_⟩;rw [c4.out,f8.out];simp [intOf];omega
  ·have q8:((Z:Int) == 0)=false:=by rw [beq_eq_false_iff_ne];omega
   have e9:=g6.out;rw [if_neg k0,Nat.add_zero] at e9;have m6:=Zh e9;clear e9;gi_wp2;go_wp2;refine⟨⟨a8,A++[(i,z)],z,i+f4,a2,a1,tz,rfl,m6.out,c8.out⟩,?_⟩;rw [c4.out,f8.out];simp [intOf];omega
 ·have m0:=Zh i7;clear i7 l2;gi_wp2;go_wp2;refine bodyPost_ret (results_none rfl _ _ _) rfl ?_;exact⟨⟨_,rfl⟩,a8,.inr ⟨A,(i,z),l5,d2.out,m0.out⟩⟩
def Q9t(l:Q5)(ws:Wd)(z:Int):Int:=
 if J0 l ws=0 then(if z<0\/(ws.length:Int)<z then 3 else if Zt l ws z.toNat=false then 5 else if 32<(Yd l ws z.toNat).length then 11 else 0) else J0 l ws
def Qax(l:Q5)(ws:Wd)(z:Int):Wd:=if Q9t l ws z=0 then Yd l ws z.toNat else []
theorem Q7e{w:World}{u v:Value}{us vs:Wd}(t:Q4 w u us)(x:Q4 w v vs) :
  Calls Tryz.prog 21 #[u,v] w fun e w'=>e=.returned (.bool (decide (us=vs)))/\Ext w w':=by
 obtain⟨b0,a9,rfl,a0⟩:=t.slice;obtain⟨b2,b1,rfl,a1⟩:=x.slice;unfold maxLen at a0 a1;obtain⟨c,G⟩:=zE us.length;obtain⟨z,F⟩:=zE vs.length;rw [G] at t a0 ⊢;rw [F] at x a1 ⊢;obtain⟨a7,a8,o,y⟩:=Zh4 t x G F;clear t x G F;go_enter Tryz.func21,Tryz.ntmps21;by_cases T:c=z;case neg=>
  have c1:((c:Int) ==(z:Int))=false:=by simp;omega
  have c4:¬ (c:Int)=(z:Int):=by omega
  have l:¬ us=vs:=by intro E;rw [E,y.out] at o;exact T o.out.symm
  have p:=Zh (decide_eq_false l);clear l;go_wp2;go_ret;exact⟨by rw [p.out];rfl,Q0.refl _ _⟩
 subst T;go_wp2
 refine wp_loop (fun a q=>∃(b:Nat),b<=c/\a.defers=[]/\gS a [0,1,12,13]=(26,[.slice b0 c a9,.slice b2 c b1,.int .i64 c,.int .i64 b])/\us.take b=vs.take b/\Ext w q)
  (fun a _=>c - (intOf (a.tmps.getD 13 undef)).toNat) ?_ ?_
 ·exact⟨0,by omega,rfl,rfl,by simp,Q0.refl _ _⟩
 rintro⟨M,_⟩ q ⟨b,c7,b6,a3,U,g⟩;subst b6;obtain⟨u,rfl⟩:=Qt a3;clear a3;have N:=Zh U;clear U;by_cases Z:b<c
 ·have b3:(b:Int)<(c:Int):=by omega
  have H:b<us.length:=by rw [o.out];exact Z
  have I:b<vs.length:=by rw [y.out];exact Z
  obtain⟨b9,c8,b7,m,c5,A,B⟩:=(show Q4 q _ us from(a7.out.ext g)).at H;simp only [zV] at m;obtain⟨rfl,L,rfl⟩:=m;clear L;obtain⟨c0,c9,b8,m,c6,C,D⟩:=(show Q4 q _ vs from(a8.out.ext g)).at I;simp only [zV] at m;obtain⟨rfl,L,rfl⟩:=m;clear L;have X:us.getD b (0,0)=us[b]:=by rw [List.getD_eq_getElem?_getD,List.getElem?_eq_getElem H];rfl
  have Y:vs.getD b (0,0)=vs[b]:=by rw [List.getD_eq_getElem?_getD,List.getElem?_eq_getElem I];rfl
  rw [X] at A B;rw [Y] at C D;obtain⟨i,J⟩:=zE (us[b]);obtain⟨M,K⟩:=zE (vs[b]);have O:Hid (us[b]=i):=Zh J;have P:Hid (vs[b]=M):=Zh K;rw [J] at A B;rw [K] at C D;obtain⟨d,j⟩:=i;obtain⟨f,k⟩:=M;dsimp only at A B C D;clear X Y J K;by_cases s:d=f/\j=k
  ·obtain⟨rfl,rfl⟩:=s;have a2:us.take (b+1)=vs.take (b+1):=by
    rw [List.take_succ_eq_append_getElem H,List.take_succ_eq_append_getElem I,N.out,O.out,P.out]
   have a6:=Zh a2;clear a2;go_wp2
   go_quiet (fail)
   go_wp2;exact⟨⟨b+1,by omega,tz,rfl,a6.out,g.drewN _⟩,nz⟩
  ·have l:¬ us=vs:=by
    intro E;subst E;have r:=O.out.symm.trans P.out;simp only [Prod.mk.injEq] at r;exact s r
   have p:=Zh (decide_eq_false l);have V:(((d:Int) ==(f:Int)) && ((j:Int) ==(k:Int)))=false:=by
    by_cases r:d=f
    ·have Q:¬ j=k:=fun Q=>s ⟨r,Q⟩;simp;omega
    ·simp;omega
   have R:¬ ((d:Int)=(f:Int)/\(j:Int)=(k:Int)):=by omega
   have S:(d:Int)=(f:Int)->¬ (j:Int)=(k:Int):=by omega
   have a4:=Zh S;clear l s S;by_cases b4:(d:Int)=(f:Int)
   ·have c2:=a4.out b4;have c3:((j:Int) ==(k:Int))=false:=by simp;omega
    have b5:((d:Int) ==(f:Int))=true:=by simp;omega
    clear V R;go_wp2
    go_quiet (fail)
    go_wp2;go_ret;exact⟨by rw [p.out];rfl,g.drewN _⟩
   ·have b5:((d:Int) ==(f:Int))=false:=by simp;omega
    clear V R;go_wp2
    go_quiet (fail)
    go_wp2;go_ret;exact⟨by rw [p.out];rfl,g.drewN _⟩
 ·obtain rfl:b=c:=by omega
  have b3:¬ (b:Int)<(b:Int):=by omega
  have W:us=vs:=by have:=N.out;rwa [List.take_of_length_le (by rw [o.out];exact Nat.le_refl _),List.take_of_length_le (by rw [y.out];exact Nat.le_refl _)] at this
  have a5:=Zh (decide_eq_true W);clear W;go_wp2;go_ret;exact⟨by rw [a5.out];rfl,g⟩
theorem eqW{w:World}{u v:Value}{us vs:Wd}(a:Q4 w u us)(b:Q4 w v vs) :
  Calls Tryz.prog 83 #[u,v] w fun e w'=>e=.returned (.bool (decide (us=vs)))/\Ext w w':=by
 have c:=fun(D:World) (hD:Ext w D)=>Q7e (a.ext hD) (b.ext hD);obtain⟨i,g,rfl,l⟩:=a.slice;obtain⟨k,j,rfl,m⟩:=b.slice;have d:=Zh c;clear c a b;go_enter Tryz.func83,Tryz.ntmps83;go_wp2_with fail;refine(d.out _ (by first | exact Q0.refl _ _ | exact Q0.drew (Q0.refl _ _))).mono ?_;rintro e n ⟨rfl,f⟩;clear d;go_wp2;go_ret;exact⟨rfl,by first | exact f | exact Q0.trans (Q0.drew (Q0.refl _ _)) f⟩
mutual
def Q8r:Pat->Nat
 | .node k _ _ _ _ _ l=>(if k=5 then 1 else 0)+Q8w l
def Q8w:List Pat->Nat
 | []=>0
 | p::l=>Q8r p+Q8w l
end
def Qb1(p:Pat):Prop:=∀(K:Nat->Prop) (w:World) (cs:List Value),Qu K w p cs->Q8u p<=40 ->
 Calls Tryz.prog 120 #[.agg cs.toArray] w fun e w'=>e=.returned (.int .i64 (Q8r p:Nat))/\Ext w w'
def Qan(n:Nat)(lv:Value)(w:World)(a:Act)(W:World):Prop:=∃(i z:Nat),i<=n/\i<=301/\z<=80/\a.defers=[]/\gS a [0,3,4]=(46,[lv,.int .i64 z,.int .i64 i])/\Ext w W
def Qaq(z i G:Nat)(lv:Value)(V2:World)(a:Act)(V:World):Prop:=∃(j z2:Nat),j<=2/\z2<=40*j/\a.defers=[]/\gS a [0,3,4,5,28,29,30]=(46,[lv,.int .i64 z,.int .i64 i,.int .i64 z2,.slice (some ⟨G,0,none⟩) 2 2,.int .i64 2,.int .i64 j])/\Ext V2 V
theorem Wa{P:Program}(w:World)(c:Array TypeId)(t:TypeId)(k b:IntKind)(x y:Int):(Builtin.min_ c t #[.int k x,.int b y]).run P w=.ok (.int k (min x y)) w:=by
 have a:(if y<x then y else x)=min x y:=by
  rw [Int.min_def]
  split <;> split <;> omega
 simp [Builtin.min_,Builtin.min2,a]
attribute [local go_sem high] Wa
def Qar(w:World)(e:Ending)(w':World):Prop:=∃ b:Bool,e=.returned (.bool b)/\Ext w w'
def Qaz(_n M:Nat)(lv sv:Value)(w:World)(a:Act)(W:World):Prop:=∃(i:Nat) (z:Int),i<=M/\-2*(i:Int)<=z/\z<=82*(i:Int)/\a.defers=[]/\gS a [0,3,10,11,12]=(60,[lv,.int .i64 z,sv,.int .i64 M,.int .i64 i])/\Ext w W
theorem Q24{w:World}{ao:Option Addr}{N cap:Nat}{l:Wd}(x:Q4 w (.slice ao N cap) l) (u:l.length=N) (s:Nat × Nat) :
  Calls Tryz.prog 100 #[.slice ao N cap,sV s] w fun e w'=>∃ z:Int,e=.returned (.int .i64 z)/\(0<=z↔s∈l)/\Ext w w':=by
 have K:=x.1.2.1;rw [u] at K;unfold maxLen at K;have Q:=Zh x;have r:=Zh u;clear x u;obtain⟨c,g⟩:=s;unfold sV;go_enter Tryz.func100,Tryz.ntmps100;obtain⟨i,F⟩:=zE w.heap.size;have A:(w.alloc (.cells #[.int .u32 c,.int .u32 g] 26)).heap[i]?=some (.cells #[.int .u32 c,.int .u32 g] 26 (0,0)):=new_at F.symm;have t:Ext w (w.alloc (.cells #[.int .u32 c,.int .u32 g] 26)):=(Q0.refl _ w).alloc _;go_wp2;generalize (w.alloc (.cells #[.int .u32 c,.int .u32 g] 26))=a1 at A t ⊢;have T:=Zh A;have q:=Zh t;clear A t F
 refine wp_loop (fun a d=>∃(b:Nat),b<=N/\a.defers=[]/\gS a [0,3,7,8]=(19,[.slice ao N cap,.pointer (some ⟨i,0,none⟩),.int .i64 N,.int .i64 b])/\(c,g) ∉ l.take b/\Ext a1 d)
  (fun a _=>N - (intOf (a.tmps.getD 8 undef)).toNat) ?_ ?_
 ·exact⟨0,by omega,rfl,rfl,by simp,Q0.refl _ _⟩
 rintro⟨a9,_⟩ d ⟨b,a7,Z,M,f,G⟩;subst Z;obtain⟨b0,rfl⟩:=Qt M;clear M;have D:=Zh f;have k:=Zh G;clear f G;have v:=k.out.keep T.out;have U:d.cell? ⟨i,0,none⟩=some (.int .u32 c):=by rw [cell_of_row d i 0 _ _ _ v];rfl
 have V:d.cell? ⟨i,1,none⟩=some (.int .u32 g):=by rw [cell_of_row d i 1 _ _ _ v];rfl
 clear v;by_cases a0:b<N;case neg=>
  obtain rfl:b=N:=by omega
  have X:¬ (b:Int)<(b:Int):=by omega
  have f:=D.out;rw [List.take_of_length_le (by rw [r.out];exact Nat.le_refl _)] at f;have m:=Zh f;clear f U V;go_wp2;go_ret;exact⟨-1,rfl,⟨fun j=>by omega,fun j=>absurd j m.out⟩,q.out.trans k.out⟩
 have X:(b:Int)<(N:Int):=by omega
 have W:(0:Int)<=(b:Int):=by omega
 have o:b<l.length:=by rw [r.out];exact a0
 have H:=((Q.out.ext q.out).ext k.out).at o;rw [r.out] at H;obtain⟨a3,a8,a2,L,a6,I,J⟩:=H;simp only [zV,true_and] at L;obtain⟨rfl,rfl⟩:=L;rw [List.getD_eq_getElem?_getD,List.getElem?_eq_getElem o,Option.getD_some] at I J;have B:l.take (b+1)=l.take b++[l[b]]:=List.take_succ_eq_append_getElem o;have y:l[b]∈l:=List.getElem_mem o;obtain⟨C,O⟩:=zE (l[b]);rw [O] at I J B y;clear O;obtain⟨p,P⟩:=C;have E:=Zh B;have S:=Zh y;clear B y;by_cases n:c=p/\g=P
 ·obtain⟨rfl,rfl⟩:=n;have R:=S;clear E;go_wp2
  go_quiet (fail)
  go_wp2;go_ret;exact⟨b,rfl,⟨fun _=>R.out,fun _=>W⟩,q.out.trans (k.out.trans ((Q0.refl _ d).drewN _))⟩
 ·have f:(c,g) ∉ l.take (b+1):=by
   rw [E.out,List.mem_append,List.mem_singleton];rintro(j | j)
   ·exact D.out j
   ·simp only [Prod.mk.injEq] at j;exact n j
  have m:=Zh f;clear f;by_cases a4:(c:Int)=(p:Int)
  ·have a5:((g:Int) ==(P:Int))=false:=by simp;omega
   have Y:((c:Int) ==(p:Int))=true:=by simp;omega
   clear n;go_wp2
   go_quiet (fail)
   go_wp2;exact⟨⟨b+1,by omega,by first | trivial | rfl,rfl,m.out,k.out.trans ((Q0.refl _ d).drewN _)⟩,nz⟩
  ·have Y:((c:Int) ==(p:Int))=false:=by simp;omega
   clear n;go_wp2
   go_quiet (fail)
   go_wp2;exact⟨⟨b+1,by omega,by first | trivial | rfl,rfl,m.out,k.out.trans ((Q0.refl _ d).drewN _)⟩,nz⟩
theorem S9{w:World}{ao:Option Addr}{N cap:Nat}{l:Wd}(f:Q4 w (.slice ao N cap) l) (n:l.length=N) (s:Nat × Nat) :
  Calls Tryz.prog 52 #[.slice ao N cap,sV s] w fun e w'=>e=.returned (.bool (decide (s∈l)))/\Ext w w':=by
 obtain⟨i,j⟩:=s;have b:Ext w (w.alloc (.cells #[.int .u32 i,.int .u32 j] 26)):=(Q0.refl _ w).alloc _;have a:=Zh (Q24 (f.ext b) n (i,j));have c:=Zh b;clear f b;unfold sV at a ⊢;go_enter Tryz.func52,Tryz.ntmps52;go_wp2_with fail;refine a.out.mono ?_;rintro e p ⟨o,rfl,g,d⟩;have m:=Zh g;have k:=Zh (c.out.trans d);clear a g d c;go_wp2;go_ret;refine⟨?_,k.out⟩;show Ending.returned (.bool (decide (0<=o)))=_;rw [decide_eq_decide.2 m.out]
end Go.Proofs.YtejenndedjabhaaGreatDoor
