/- slices.ContainsFunc over sounds and over elements of Out; law.Check$1, Check$ -/
import Derived.Test.YtedeckeahmkheaaGreatDoorK16
set_option maxRecDepth 100000
set_option maxHeartbeats 8000000
namespace Go.Proofs.YtedeckeahmkheaaGreatDoor
open Go.RowKit Go.Ab
attribute [local go_sem] Oper.semAt_some Y3 Z8
theorem Mj{w:World}{ao:Option Addr}{N cap:Nat}{l:List Y4}(J:X0 w (.slice ao N cap) l) (H:l.length=N) (T:N<=maxLen) (f:Nat) (lb:Array Value) (k:∀ args w,(callFunc f args).run Tryz.prog w=.ok (.enter f args) w)
  (F:Y4->Bool) (G:∀ x∈l,∀ V,Ext w V->Calls Tryz.prog f (#[.agg (Z7 x).toArray]++lb) V fun e w'=>e=.returned (.bool (F x))/\Ext V w') :
  Calls Tryz.prog 48 #[.slice ao N cap,.func (.func f) #[] lb] w fun e w'=>∃ z:Int,e=.returned (.int .i64 z)/\decide (0<=z)=l.any F/\Ext w w':=by
 unfold maxLen at T;obtain⟨P,O,t,M⟩:=Zh4 J G H k;clear J G H k;go_enter Tryz.func48,Tryz.ntmps48;go_wp2
 refine wp_loop (fun a o=>∃(b:Nat),b<=N/\a.defers=[]/\gS a [0,1,7,8]=(19,[.slice ao N cap,.func (.func f) #[] lb,.int .i64 N,.int .i64 b])/\(l.take b).any F=false/\Ext w o)
  (fun a _=>N - (intOf (a.tmps.getD 8 undef)).toNat) ?_ ?_
 ·exact⟨0,by omega,rfl,rfl,by simp,Q0.refl _ _⟩
 rintro⟨a3,_⟩ o ⟨b,a1,R,L,I,g⟩;subst R;obtain⟨a4,rfl⟩:=Zf L;clear L;have q:=Zh I;clear I;by_cases S:b<N
 ·have Q:(b:Int)<(N:Int):=by omega
  have m:b<l.length:=by rw [t.out];exact S
  obtain⟨Z,a2,Y,K,a0,_,u,v,y,A,B,C⟩:=(P.out.ext g).at m;simp only [zV] at K;obtain⟨rfl,U,rfl⟩:=K;clear U;have i:=O.out _ (List.getElem_mem m) o g;obtain⟨x,n⟩:=zE (l[b]);have W:Hid (l[b]=x):=Zh n;rw [n] at u v y A B C i;unfold Z7 at i;obtain⟨j,p⟩:=zE (F x);rw [p] at i;have r:Hid (F l[b]=j):=Zh (by rw [n];exact p);have s:=Zh i;clear i n p;have k:=M.out;go_wp2_with fail;clear k;refine s.out.mono ?_;rintro e X ⟨rfl,E⟩;have D:=g.trans E;clear s g E u v y A B C;cases j
  ·have c:(l.take (b+1)).any F=false:=by
    rw [List.take_succ_eq_append_getElem m,List.any_append,q.out];simp [r.out]
   have d:=Zh c;clear c;go_wp2;exact⟨⟨b+1,by omega,tz,rfl,d.out,D⟩,nz⟩
  ·have c:l.any F=true:=List.any_eq_true.2 ⟨_,List.getElem_mem m,r.out⟩;have d:=Zh c;clear c;go_wp2;go_ret;exact⟨_,rfl,by rw [d.out];simp,D⟩
 ·obtain rfl:b=N:=by omega
  have Q:¬ (b:Int)<(b:Int):=by omega
  have c:l.any F=false:=by have:=q.out;rwa [List.take_of_length_le (by rw [t.out];exact Nat.le_refl _)] at this
  have d:=Zh c;clear c;go_wp2;go_ret;exact⟨_,rfl,by rw [d.out];simp,g⟩
theorem Dl{w:World}{ao:Option Addr}{N cap:Nat}{l:List Y4}(g:X0 w (.slice ao N cap) l) (c:l.length=N) (n:N<=maxLen) (a:Nat) (lb:Array Value) (d:∀ args w,(callFunc a args).run Tryz.prog w=.ok (.enter a args) w)
  (F:Y4->Bool) (b:∀ x∈l,∀ V,Ext w V->Calls Tryz.prog a (#[.agg (Z7 x).toArray]++lb) V fun e w'=>e=.returned (.bool (F x))/\Ext V w') :
  Calls Tryz.prog 34 #[.slice ao N cap,.func (.func a) #[] lb] w fun e w'=>e=.returned (.bool (l.any F))/\Ext w w':=by
 have f:=Mj g c n (cap:=cap) a lb d F b;have j:=Zh f;clear f b g d c;go_enter Tryz.func34,Tryz.ntmps34;go_wp2_with fail;refine j.out.mono ?_;rintro e o ⟨p,rfl,i,m⟩;have k:=Zh i;clear i;go_wp2;go_ret;exact⟨by rw [<-k.out];rfl,m⟩
theorem Ma{w:World}{ao:Option Addr}{N cap:Nat}{l:List (Nat × Nat)} (G:Q7 w (.slice ao N cap) l) (C:l.length=N) (Q:N<=maxLen) (f:Nat) (lb:Array Value) (o:∀ args w,(callFunc f args).run Tryz.prog w=.ok (.enter f args) w)
  (F:(Nat × Nat)->Bool) (B:∀ x∈l,∀ V,Ext w V->Calls Tryz.prog f (#[sV x]++lb) V fun e w'=>e=.returned (.bool (F x))/\Ext V w') :
  Calls Tryz.prog 47 #[.slice ao N cap,.func (.func f) #[] lb] w fun e w'=>∃ z:Int,e=.returned (.int .i64 z)/\decide (0<=z)=l.any F/\Ext w w':=by
 unfold maxLen at Q;obtain⟨L,K,v,J⟩:=Zh4 G B C o;clear G B C o;go_enter Tryz.func47,Tryz.ntmps47;go_wp2
 refine wp_loop (fun a p=>∃(b:Nat),b<=N/\a.defers=[]/\gS a [0,1,7,8]=(19,[.slice ao N cap,.func (.func f) #[] lb,.int .i64 N,.int .i64 b])/\(l.take b).any F=false/\Ext w p)
  (fun a _=>N - (intOf (a.tmps.getD 8 undef)).toNat) ?_ ?_
 ·exact⟨0,by omega,rfl,rfl,by simp,Q0.refl _ _⟩
 rintro⟨a1,_⟩ p ⟨b,Z,O,I,D,g⟩;subst O;obtain⟨a2,rfl⟩:=Zf I;clear I;have s:=Zh D;clear D;by_cases P:b<N
 ·have M:(b:Int)<(N:Int):=by omega
  have i:b<l.length:=by rw [v.out];exact P
  obtain⟨X,a0,W,H,Y,k,m⟩:=(L.out.ext g).at i;simp only [zV] at H;obtain⟨rfl,R,rfl⟩:=H;clear R;have E:l.getD b (0,0)=l[b]:=by rw [List.getD_eq_getElem?_getD,List.getElem?_eq_getElem i];rfl
  rw [E] at k m;have n:=K.out _ (List.getElem_mem i) p g;obtain⟨x,r⟩:=zE (l[b]);rw [r] at k m n;obtain⟨S,T⟩:=x;dsimp only at k m;obtain⟨j,q⟩:=zE (F (S,T));rw [q] at n;have t:Hid (F l[b]=j):=Zh (by rw [r];exact q);have u:=Zh n;clear n r q E;have o:=J.out;go_wp2_with fail;clear o;refine u.out.mono ?_;rintro e U ⟨rfl,A⟩;have y:=g.trans A;clear u g A k m;cases j
  ·have c:(l.take (b+1)).any F=false:=by
    rw [List.take_succ_eq_append_getElem i,List.any_append,s.out];simp [t.out]
   have d:=Zh c;clear c;go_wp2;exact⟨⟨b+1,by omega,tz,rfl,d.out,y⟩,nz⟩
  ·have c:l.any F=true:=List.any_eq_true.2 ⟨_,List.getElem_mem i,t.out⟩;have d:=Zh c;clear c;go_wp2;go_ret;exact⟨_,rfl,by rw [d.out];simp,y⟩
 ·obtain rfl:b=N:=by omega
  have M:¬ (b:Int)<(b:Int):=by omega
  have c:l.any F=false:=by have:=s.out;rwa [List.take_of_length_le (by rw [v.out];exact Nat.le_refl _)] at this
  have d:=Zh c;clear c;go_wp2;go_ret;exact⟨_,rfl,by rw [d.out];simp,g⟩
theorem Dg{w:World}{ao:Option Addr}{N cap:Nat}{l:List (Nat × Nat)} (g:Q7 w (.slice ao N cap) l) (c:l.length=N) (n:N<=maxLen) (a:Nat) (lb:Array Value) (d:∀ args w,(callFunc a args).run Tryz.prog w=.ok (.enter a args) w)
  (F:(Nat × Nat)->Bool) (b:∀ x∈l,∀ V,Ext w V->Calls Tryz.prog a (#[sV x]++lb) V fun e w'=>e=.returned (.bool (F x))/\Ext V w') :
  Calls Tryz.prog 33 #[.slice ao N cap,.func (.func a) #[] lb] w fun e w'=>e=.returned (.bool (l.any F))/\Ext w w':=by
 have f:=Ma g c n (cap:=cap) a lb d F b;have j:=Zh f;clear f b g d c;go_enter Tryz.func33,Tryz.ntmps33;go_wp2_with fail;refine j.out.mono ?_;rintro e o ⟨p,rfl,i,m⟩;have k:=Zh i;clear i;go_wp2;go_ret;exact⟨by rw [<-k.out];rfl,m⟩
theorem Lu{x:Y4}(p:Xl x){k d:Nat}(o:k<=9223372036854775807){w:World}(i:w.heap[d]?=some (.cells #[.int .i64 (k:Int)] 3 (0,0))) :
  Calls Tryz.prog 27 #[.agg (Z7 x).toArray,.pointer (some ⟨d,0,none⟩)] w fun e w'=>e=.returned (.bool (!Yu k x))/\Ext w w':=by
 have b:Ext w (w.alloc (.cells (Z7 x).toArray 30)):=(Q0.refl _ w).alloc _;have l:=cell_of_one (b.keep i);have c:=R1 p k o (w.alloc (.cells (Z7 x).toArray 30));obtain⟨a,j⟩:=zE (Yu k x);rw [j] at c ⊢;have f:=Zh c;have g:=Zh b;clear j c b i;unfold Z7 at f l g ⊢;go_enter Tryz.func27,Tryz.ntmps27;go_wp2_with fail;refine f.out.mono ?_;rintro e q ⟨rfl,m⟩;have n:=g.out.trans m;cases a
 all_goals
  go_wp2;go_ret;exact⟨rfl,n⟩
theorem Lq{s:Nat × Nat}(k:Za s)(w:World) :
  Calls Tryz.prog 29 #[sV s] w fun e w'=>e=.returned (.bool (!okS s))/\Ext w w':=by
 have c:Ext w (w.alloc (.cells #[.int .u32 (s.1:Int),.int .u32 (s.2:Int)] 24)):=(Q0.refl _ w).alloc _;have b:=Yo k (w.alloc (.cells #[.int .u32 (s.1:Int),.int .u32 (s.2:Int)] 24));obtain⟨a,d⟩:=zE (okS s);rw [d] at b ⊢;have f:=Zh b;have g:=Zh c;clear d b c;go_enter Tryz.func29,Tryz.ntmps29;go_wp2_with fail;refine f.out.mono ?_;rintro e l ⟨rfl,i⟩;have j:=g.out.trans i;cases a
 all_goals
  go_wp2;go_ret;exact⟨rfl,j⟩
theorem Fo(s:ByteArray):s=⟨s.data.toList.toArray⟩:=by
 cases s;simp
theorem Pg(l:Qa):J1 l=if Jz l.name=false then false else if Zk l.left≠0 then false else if Zk l.right≠0 then false else if 4<l.ifs.length then false else if 6<l.outs.length then false else if l.ifs.length+l.outs.length=0 then false else
  if l.mode<1\/3<l.mode then false else if (l.ifs.any fun s=>!okS s)=true then false else if (l.outs.any fun x=>!Yu l.ifs.length x)=true then false else true:=by
 unfold J1;have g:l.ifs.all okS=!(l.ifs.any fun s=>!okS s):=by simp [List.any_eq_not_all_not]
 have i:l.outs.all (Yu l.ifs.length)=!(l.outs.any fun x=>!Yu l.ifs.length x):=by simp [List.any_eq_not_all_not]
 rw [g,i];cases Jz l.name
 ·simp
 rw [if_neg zd];by_cases b:Zk l.left=0;case neg=>rw [if_pos b,decide_eq_false b];simp
 rw [if_neg (fun q=>q b),decide_eq_true b];by_cases c:Zk l.right=0;case neg=>rw [if_pos c,decide_eq_false c];simp
 rw [if_neg (fun q=>q c),decide_eq_true c];by_cases e:4<l.ifs.length
 ·rw [if_pos e,decide_eq_false (by omega:¬ l.ifs.length<=4)];simp
 rw [if_neg e,decide_eq_true (by omega:l.ifs.length<=4)];by_cases f:6<l.outs.length
 ·rw [if_pos f,decide_eq_false (by omega:¬ l.outs.length<=6)];simp
 rw [if_neg f,decide_eq_true (by omega:l.outs.length<=6)];by_cases d:l.ifs.length+l.outs.length=0
 ·rw [if_pos d,decide_eq_false (by omega:¬ (l.ifs.length+l.outs.length≠0))];simp
 rw [if_neg d,decide_eq_true d];by_cases a:l.mode<1\/3<l.mode
 ·rw [if_pos a];rcases a with a | a
  ·rw [decide_eq_false (by omega:¬ 1<=l.mode)];simp
  ·rw [decide_eq_false (by omega:¬ l.mode<=3)];simp
 rw [if_neg a,decide_eq_true (by omega:1<=l.mode),decide_eq_true (by omega:l.mode<=3)];cases (l.ifs.any fun s=>!okS s) <;> cases (l.outs.any fun x=>!Yu l.ifs.length x) <;> rfl
theorem Uh{c:Prop} [Decidable c] {b:Bool} {z:Int} (h:(if b=true then(0:Int) else 17)=z):(if (if c then false else b)=true then(0:Int) else 17)=if c then 17 else z:=by
 subst h;by_cases a:c <;> simp [a]
theorem Mo(l:Qa):Xc l=if Jz l.name=false then 17 else if Zk l.left≠0 then 17 else if Zk l.right≠0 then 17 else if 4<l.ifs.length then 17 else if 6<l.outs.length then 17 else if l.ifs.length+l.outs.length=0 then 17 else
  if l.mode<1\/3<l.mode then 17 else if (l.ifs.any fun s=>!okS s)=true then 17 else if (l.outs.any fun x=>!Yu l.ifs.length x)=true then 17 else 0:=by
 unfold Xc;rw [Pg];exact Uh (Uh (Uh (Uh (Uh (Uh (Uh (Uh (Uh rfl))))))))
theorem Gf{w:World}{l:Qa}{cs:List Value}(f3:Z3 w l cs)(d0:Tab w) :
  Calls Tryz.prog 17 #[.agg cs.toArray] w fun e w'=>e=.returned (.int .i64 (Xc l))/\Ext w w':=by
 obtain⟨n,T,a4,W,Y,H,J,a0,F,L,U,a5,X,Z,I,K,a1,G,M,S,a,R,a3,k,a2,p,rfl,f7,d7,d8,b0,c3,d6,f8,f9,c0,c1,d5,g4,i0,i1,g5,i2⟩:=Zo f3;have Q:=Fo n;have f6:n.data.toList.length<=9223372036854775807:=by rw [Array.length_toList];exact g4
 have c2:Hid (∀ V,Ext w V->Calls Tryz.prog 31 #[.string n] V fun e w'=>e=.returned (.bool (Jz n))/\Ext V w'):=Zh fun V _=>by
  have:=Ng n.data.toList f6 V;rw [<-Q] at this;exact this
 have c4:Hid (∀ V,Ext w V->Calls Tryz.prog 32 #[.agg #[.int .i64 T,.int .u32 (a4:Int),.int .u32 (W:Int),.bool Y,.int .i64 H,.int .i64 J,.slice a0 F L]] V fun e w'=>e=.returned (.int .i64 (Zk l.left))/\Ext V w'):=
  Zh fun V hE=>Kq (d7.out.ext hE) (fun g hg=>Nat.lt_of_lt_of_le hg hE.size) (d0.keep hE id)
 have c5:Hid (∀ V,Ext w V->Calls Tryz.prog 32 #[.agg #[.int .i64 U,.int .u32 (a5:Int),.int .u32 (X:Int),.bool Z,.int .i64 I,.int .i64 K,.slice a1 G M]] V fun e w'=>e=.returned (.int .i64 (Zk l.right))/\Ext V w'):=
  Zh fun V hE=>Kq (d8.out.ext hE) (fun g hg=>Nat.lt_of_lt_of_le hg hE.size) (d0.keep hE id)
 have a9:Hid (∀ V,Ext w V->Calls Tryz.prog 33 #[.slice S a R,.func (.func 29) #[] #[]] V fun e w'=>e=.returned (.bool (l.ifs.any fun s=>!okS s))/\Ext V w'):=
  Zh fun V hE=>Dg (b0.out.ext hE) c0.out (by unfold maxLen;omega) _ #[] (enters_of Tryz.func29 kz rfl) (fun s=>!okS s) (fun s Q V2 _=>Lq (b0.out.2 s Q) V2)
 have a8:Hid (∀(Bk:Nat) V,Ext w V->V.heap[Bk]?=some (.cells #[.int .i64 (a:Int)] 3 (0,0))->Calls Tryz.prog 34 #[.slice a3 k a2,.func (.func 27) #[] #[.pointer (some ⟨Bk,0,none⟩)]] V fun e w'=>e=.returned (.bool (l.outs.any fun x=>!Yu a x))/\Ext V w'):=
  Zh fun Bk V hE hb=>Dl (c3.out.ext hE) c1.out (by unfold maxLen;omega) _ #[.pointer (some ⟨Bk,0,none⟩)] (enters_of Tryz.func27 kz rfl) (fun x=>!Yu a x) (fun x hx V2 z=>Lu (c3.out.2 x hx) g5 (z.keep hb))
 have i:Hid (Xc l=if Jz n=false then 17 else if Zk l.left≠0 then 17 else if Zk l.right≠0 then 17 else if 4<a then 17 else if 6<k then 17 else if a+k=0 then 17 else if p<1\/3<p then 17 else if (l.ifs.any fun s=>!okS s)=true then 17 else if (l.outs.any fun x=>!Yu a x)=true then 17 else 0):=Zh (by
  rw [Mo,d6.out,c0.out,c1.out,d5.out])
 obtain⟨f,e7⟩:=zE (Xc l);rw [e7] at i ⊢;obtain⟨g3,f5⟩:=zE (Jz n);obtain⟨d9,f0⟩:=zE (Zk l.left);obtain⟨e0,f1⟩:=zE (Zk l.right);obtain⟨c8,e9⟩:=zE (l.ifs.any fun s=>!okS s);obtain⟨c7,e8⟩:∃ x,(l.outs.any fun x=>!Yu a x)=x:=⟨_,rfl⟩;rw [f5] at c2 i;rw [f0] at c4 i;rw [f1] at c5 i;rw [e9] at a9 i;rw [e8] at a8 i;clear f3 Q f6 d0 e7 f5 f0 f1 e9 e8 f7 d7 d8 b0 c3 d6 f8 f9 c0 c1 d5;go_enter Tryz.func17,Tryz.ntmps17;go_upto_region 1 with (fail)
 obtain⟨a6,C⟩:=zE (w.alloc (.cells #[.string n,.int .i64 T,.int .u32 (a4:Int),.int .u32 (W:Int),.bool Y,.int .i64 H,.int .i64 J,.slice a0 F L,.int .i64 U,.int .u32 (a5:Int),.int .u32 (X:Int),.bool Z,.int .i64 I,.int .i64 K,.slice a1 G M,.slice S a R,.slice a3 k a2,.int .i64 p] 34));have e5:Ext w a6:=by rw [<-C];exact(Q0.refl _ w).alloc _
 have P:a6.heap[w.heap.size]?=some (.cells #[.string n,.int .i64 T,.int .u32 (a4:Int),.int .u32 (W:Int),.bool Y,.int .i64 H,.int .i64 J,.slice a0 F L,.int .i64 U,.int .u32 (a5:Int),.int .u32 (X:Int),.bool Z,.int .i64 I,.int .i64 K,.slice a1 G M,.slice S a R,.slice a3 k a2,.int .i64 p] 34 (0,0)):=by rw [<-C];exact Q5 rfl
 have d1:a6.heap.size=w.heap.size+1:=by rw [<-C];simp
 rw [C];obtain⟨d2,e4⟩:=zE w.heap.size;rw [e4] at P d1 ⊢;have t:=cell_of_row _ _ 15 _ _ _ P;have c6:=Zh d1;have d3:=Zh P;clear C e4 d1 P;go_upto_region 4 with (fail)
 rw [c6.out];obtain⟨a7,E⟩:=zE (a6.alloc (.cells #[.int .i64 (a:Int)] 3));have c9:Ext w a7:=by rw [<-E];exact e5.alloc _
 have f2:a7.heap[d2+1]?=some (.cells #[.int .i64 (a:Int)] 3 (0,0)):=by rw [<-E];exact Q5 c6.out.symm
 have f4:a7.heap[d2]?=some (.cells #[.string n,.int .i64 T,.int .u32 (a4:Int),.int .u32 (W:Int),.bool Y,.int .i64 H,.int .i64 J,.slice a0 F L,.int .i64 U,.int .u32 (a5:Int),.int .u32 (X:Int),.bool Z,.int .i64 I,.int .i64 K,.slice a1 G M,.slice S a R,.slice a3 k a2,.int .i64 p] 34 (0,0)):=by rw [<-E];exact Qb d3.out
 rw [E];have b6:=Zh f4;have b1:=Zh f2;clear E f2 f4 t d3 c6 e5;have t:=zR b6.out;have A:=cell_of_one b1.out;go_wp2_with fail;refine(c2.out a7 c9).mono ?_;rintro e g6 ⟨rfl,c⟩;have z:=c9.trans c;have b7:=Zh (c.keep b6.out);have b2:=Zh (c.keep b1.out);have t:=zR b7.out;have A:=cell_of_one b2.out;clear c b6 b1 c9 c2;cases g3
 ·have d:Hid (f=17):=Zh (by rw [i.out];rfl);clear i;go_wp2;go_ret;exact⟨by rw [d.out];rfl,z⟩
 go_wp2_with fail;refine(c4.out g6 z).mono ?_;rintro e g7 ⟨rfl,c⟩;have N:=z.trans c;have b8:=Zh (c.keep b7.out);have b3:=Zh (c.keep b2.out);have t:=zR b8.out;have A:=cell_of_one b3.out;clear c b7 b2 z c4;by_cases u:d9=0;case neg=>
  have g2:(d9 != 0)=true:=by rw [bne_iff_ne];exact u
  have d:Hid (f=17):=Zh (by rw [i.out,if_neg zd,if_pos u]);clear i;go_wp2;go_ret;exact⟨by rw [d.out];rfl,N⟩
 subst u;go_wp2_with fail;refine(c5.out g7 N).mono ?_;rintro e g8 ⟨rfl,c⟩;have o:=N.trans c;have b9:=Zh (c.keep b8.out);have b4:=Zh (c.keep b3.out);have t:=zR b9.out;have A:=cell_of_one b4.out;clear c b8 b3 N c5;by_cases u:e0=0;case neg=>
  have g2:(e0 != 0)=true:=by rw [bne_iff_ne];exact u
  have d:Hid (f=17):=Zh (by rw [i.out,if_neg zd,if_neg zd,if_pos u]);clear i;go_wp2;go_ret;exact⟨by rw [d.out];rfl,o⟩
 subst u;have m:Hid (f=if 4<a then 17 else if 6<k then 17 else if a+k=0 then 17 else if p<1\/3<p then 17 else if c8=true then 17 else if c7=true then 17 else 0):=Zh (by rw [i.out];rfl);clear i;by_cases y:4<a
 ·have e1:(4:Int)<(a:Int):=by omega
  have d:Hid (f=17):=Zh (by rw [m.out,if_pos y]);clear m;go_wp2;go_ret;exact⟨by rw [d.out];rfl,o⟩
 by_cases B:6<k
 ·have e1:¬ (4:Int)<(a:Int):=by omega
  have g0:(6:Int)<(k:Int):=by omega
  have d:Hid (f=17):=Zh (by rw [m.out,if_neg y,if_pos B]);clear m;go_wp2;go_ret;exact⟨by rw [d.out];rfl,o⟩
 have e1:¬ (4:Int)<(a:Int):=by omega
 have g0:¬ (6:Int)<(k:Int):=by omega
 by_cases r:a+k=0
 ·have g1:((a:Int)+(k:Int) == 0)=true:=by rw [beq_iff_eq];omega
  have d:Hid (f=17):=Zh (by rw [m.out,if_neg y,if_neg B,if_pos r]);clear m r;go_wp2;go_ret;exact⟨by rw [d.out];rfl,o⟩
 have g1:((a:Int)+(k:Int) == 0)=false:=by rw [beq_eq_false_iff_ne];omega
 by_cases e2:p<1
 ·have d:Hid (f=17):=Zh (by rw [m.out,if_neg y,if_neg B,if_neg r,if_pos (.inl e2)]);clear m r;go_wp2;go_ret;exact⟨by rw [d.out];rfl,o⟩
 by_cases e3:3<p
 ·have d:Hid (f=17):=Zh (by rw [m.out,if_neg y,if_neg B,if_neg r,if_pos (.inr e3)]);clear m r;go_wp2;go_ret;exact⟨by rw [d.out];rfl,o⟩
 have v:Hid (f=if c8=true then 17 else if c7=true then 17 else 0):=Zh (by rw [m.out,if_neg y,if_neg B,if_neg r,if_neg (fun q=>q.elim e2 e3)]);clear m r;go_wp2_with fail;refine(a9.out g8 o).mono ?_;rintro e g9 ⟨rfl,c⟩;have O:=o.trans c;have d4:=Zh (c.keep b9.out);have b5:=Zh (c.keep b4.out);have t:=zR d4.out;have A:=cell_of_one b5.out;clear c b9 b4 o a9;cases c8;case true=>
  have d:Hid (f=17):=Zh (by rw [v.out];rfl);clear v;go_wp2;go_ret;exact⟨by rw [d.out];rfl,O⟩
 go_wp2_with fail;refine(a8.out _ g9 O b5.out).mono ?_;rintro e i3 ⟨rfl,c⟩;have e6:=O.trans c;clear c d4 b5 O a8 t A;cases c7
 ·have d:Hid (f=0):=Zh (by rw [v.out];rfl);clear v;go_wp2;go_ret;exact⟨by rw [d.out];rfl,e6⟩
 ·have d:Hid (f=17):=Zh (by rw [v.out];rfl);clear v;go_wp2;go_ret;exact⟨by rw [d.out];rfl,e6⟩
theorem Ju{w:World}{l:Qa}{cs:List Value}{v:Value}{ws:Wd}(p:Z3 w l cs)(d:Q7 w v ws)(t:Tab w) :
  Calls Tryz.prog 15 #[.agg cs.toArray,v] w fun e w'=>e=.returned (.int .i64 (Ze l ws))/\Ext w w':=by
 obtain⟨c0,b8,rfl,_⟩:=d.slice;obtain⟨b9,u⟩:=zE ws.length;rw [u] at d ⊢;have r:=fun(V:World) (hE:Ext w V)=>La (d.ext hE);have q:=fun(V:World) (hE:Ext w V)=>Gf (p.ext hE) (t.keep hE id);obtain⟨a5,Y,b0,a0,a3,O,Q,a6,K,S,Z,b1,a1,a4,P,R,a7,L,T,X,M,W,a9,N,a8,a2,rfl,y,H,I,x,G,F,B,C,D,E,A,b3,b4,b5,b6,b7⟩:=Zo p;have b:Hid (Ze l ws=if Xc l=0 then wE ws else Xc l):=Zh (by unfold Ze Xc;cases J1 l <;> rfl);obtain⟨a,k⟩:=zE (Ze l ws);obtain⟨g,m⟩:=zE (Xc l);obtain⟨U,o⟩:=zE (wE ws);rw [k,m,o] at b;rw [m] at q;rw [o] at r;rw [k];have J:=Zh r;have z:=Zh q;clear u k m o r q d p t y H I x G F B C D E A;have i:Ext w (w.alloc (.cells #[.string a5,.int .i64 Y,.int .u32 (b0:Int),.int .u32 (a0:Int),.bool a3,.int .i64 O,.int .i64 Q,.slice a6 K S,.int .i64 Z,.int .u32 (b1:Int),.int .u32 (a1:Int),.bool a4,.int .i64 P,.int .i64 R,.slice a7 L T,.slice X M W,.slice a9 N a8,.int .i64 a2] 34)):=(Q0.refl _ w).alloc _;go_enter Tryz.func15,Tryz.ntmps15
 go_wp2_with (refine wpList_load_row rfl 34 (.tmp 2) rfl w.heap.size rfl _ _ _ _ (Q5 rfl) Tryz.underlying34 rfl Tryz.lawInfo ?_)
 refine(z.out _ i).mono ?_;rintro e c1 ⟨rfl,c⟩;have j:=i.trans c;clear c i;by_cases s:g=0;case neg=>
  have b2:(g != 0)=true:=by rw [bne_iff_ne];exact s
  have f:Hid (a=g):=Zh (by rw [b.out,if_neg s]);clear b;go_wp2;go_ret;exact⟨by rw [f.out];rfl,j⟩
 subst s;have f:Hid (a=U):=Zh (by rw [b.out,if_pos rfl]);go_wp2_with fail;refine(J.out _ j).mono ?_;rintro e c2 ⟨rfl,c⟩;go_wp2;go_ret;exact⟨by rw [f.out];rfl,j.trans c⟩
abbrev S3:Nat->(Nat->Prop)->Nat->World->Array Value->Prop:=fun _ _ x _ ys=>ys=#[.int .i64 (x:Int)]
theorem Fs{w:World}{gf:Nat}{lb:Array Value}(Y:∀ args w,(callFunc gf args).run Tryz.prog w=.ok (.enter gf args) w) {M:Nat->Nat->Prop} {xs:List Nat} (a0:∀ w1,Ext w w1->Ui Tryz.prog gf lb M S3 xs (fun b=>b<w.heap.size) w1) (d1:xs.length<=1000) :
  Calls Tryz.prog 66 #[.slice none 0 0,.func (.func gf) #[] lb] w fun e w'=>∃ u,e=.returned u/\w'.ownsRow w.heap.size 3 1 u xs.length (Yt xs)/\Ext w w':=by
 refine Zd Tryz.func66 rfl ?_;simp only [Tryz.ntmps66,zS,Nat.reduceAdd,Nat.reduceSub];have a8:=Zh a0;have a5:=Zh Y;clear a0 Y;go_wp2;obtain⟨c,B⟩:=zE w.heap.size;have H:(w.alloc (.cells #[.slice none 0 0] 45)).heap[c]?=some (.cells #[.slice none 0 0] 45 (0,0)):=Q5 B.symm;have C:Ext w (w.alloc (.cells #[.slice none 0 0] 45)):=(Q0.refl _ w).alloc _;have b8:(w.alloc (.cells #[.slice none 0 0] 45)).heap.size=c+1:=by rw [<-B];simp
 generalize (w.alloc (.cells #[.slice none 0 0] 45))=w1 at H C b8 ⊢;have L:=a8.out w1 C;rw [B] at L ⊢;have z:=Zh B;clear B
 refine Uy (xs:=xs) (K:=fun b=>b<c) rfl a5.out L (fun b a=>by omega) (fun _ _ x A y a=>by rw [a];rfl) (fun _ _ x A D y a _ _=>a)
  (fun k f g=>∃ u,g.heap[c]?=some (.cells #[u] 45 (0,0))/\g.ownsRow c 3 1 u f.length (Yt f)/\(∀ d,u.ownBlock=some d->d≠c/\d≠c+1/\d≠c+2/\¬ k d)/\Ext w g)
  (fun _ _ _ _=>False) ?hI ?hIx ?h0 (fun y t=>(t.setIfInBounds 7 (y.getD 0 undef)).setIfInBounds 5 (y.getD 0 undef)) ?assign ?body ?done ?stop
 case hI=>
  rintro k c1 f b0 b1 ⟨u,j,i,n,v⟩ r b9 b5;have s:Q0 (fun b=>k b\/b=c+2) b0 b1:=b9.mono (fun b _ a=>a.elim (fun q=>.inl q.1) (fun q=>.inr oz));refine⟨u,s.heap j (fun a=>?_),Qm i s (fun b hb e=>?_),fun d p=>?_,v.after s (fun b' h1 h2=>?_)⟩
  ·rcases a with a | a
   ·have:=(r _ a).1;omega
   ·omega
  ·have:=n b hb;exact e.elim this.2.2.2 (fun q=>this.2.2.1 q)
  ·obtain⟨a2,a3,a4,O⟩:=n d p;exact⟨a2,a3,a4,fun a=>by rcases(b5 d a).1 with a | a;exact O a;have:=(i.lt _ p).2;omega⟩
  ·have:=z.out;rcases h2 with a | a
   ·have:=(r _ a).1;omega
   ·omega
 case hIx=>exact fun _ _ _ _ _ _ a _ _ _=>a
 case h0=>
  intro g X _;exact⟨.slice none 0 0,X.keep H,World.ownsRow_nil _ _ _ _,(fun d p=>by cases p),Q0.trans C X⟩
 case assign=>
  rintro _ _ G y g c0 rfl b4;gi_wp2;exact b4
 case body=>
  rintro k f G d4 y g N d3 r s ⟨u,j,i,n,v⟩ rfl;simp only [pq];have d2:f.length<1000:=by
   have:=congrArg List.length N;simp at this;omega
  have Q:=cell_of_one j;have b2:=free_of_one j;have c9:c<g.heap.size:=(Array.getElem?_eq_some_iff.1 j).1;have d0:=Zh N;have P:=Zh r;clear N r;refine wpIn_block ?_;refine Xs kz (by rintro⟨_,_,a⟩;exact a) ?_;have a9:=Zh j;clear j
  go_wp2_with (at_builtin;refine Zl rfl (.tmp 8) (.tmp 10) 45 rfl c 3 _ 1 8 Tryz.underlying45 Tryz.infoI rfl zd _ _ _ rfl (Ql i ((Q0.refl _ g).alloc _)) ⟨g.heap.size,0,none⟩ 1 1 [.int .i64 G] rfl rfl (Zx rfl) ?c2 ?c3 ?c4 ?c5 ?_)
  case c2=>first | rfl | (intro u a1;simp at a1;rcases a1 with rfl;rfl)
  case c3=>unfold maxLen;omega
  case c4=>omega
  case c5=>simp;omega
  intro l m o V W R;have E:Q0 (fun b'=>u.ownBlock=some b') g o:=Q0.trans (Q0.alloc (Q0.refl _ g) _) W;have I:=E.heap a9.out (fun e=>(n _ e).1 rfl);have S:Ext w o:=Q0.after v E (fun b' h1 e=>by have:=(i.lt _ e).1;have:=z.out;omega);have J:∀ d,(Value.slice l (f.length+1) m).ownBlock=some d->d≠c/\d≠c+1/\d≠c+2/\¬ k d:=by
   intro d p;rcases R with e | e
   ·exact n d (e ▸ p)
   ·rw [p] at e;cases e;exact⟨by first | omega | (simp;omega),by first | omega | (simp;omega),by first | omega | (simp;omega),fun a=>by have:=(P.out _ a).2;first | omega | (simp at this;omega)⟩
  have c6:=cell_of_one I;have c8:=free_of_one I;have F:=Q0.set1 o c 0 (.slice l (f.length+1) m);have U:(o.setCell ⟨c,0,none⟩ (.slice l (f.length+1) m)).heap[c]?=some (.cells #[.slice l (f.length+1) m] 45 (0,0)):=by
   simp only [World.setCell,Array.getElem?_modify,I];simp
  have T:Q0 (fun b=>¬ (b<c\/k b\/b=c+1\/b=c+1+1)) g (o.setCell ⟨c,0,none⟩ (.slice l (f.length+1) m)):=by
   refine(E.mono (fun b' _ e hn=>?_)).trans (F.mono (fun b' _ e hn=>?_))
   ·obtain⟨a2,a3,a4,O⟩:=n _ e;have:=(i.lt _ e).1;rcases hn with a | a | a
    ·omega
    ·exact O a
    ·omega
   ·rcases hn with a | a | a
    ·omega
    ·have:=(P.out _ a).1;omega
    ·omega
  have Z:∃ u,(o.setCell ⟨c,0,none⟩ (.slice l (f.length+1) m)).heap[c]?=some (.cells #[u] 45 (0,0))/\(o.setCell ⟨c,0,none⟩ (.slice l (f.length+1) m)).ownsRow c 3 1 u (f++[G]).length (Yt (f++[G]))/\(∀ d,u.ownBlock=some d->d≠c/\d≠c+1/\d≠c+2/\¬ k d)/\Ext w (o.setCell ⟨c,0,none⟩ (.slice l (f.length+1) m)):=by
   refine⟨_,U,?_,J,Q0.after S F (fun b h1 h2=>by have:=z.out;omega)⟩;rw [Jy,List.length_append];exact Qm V F (fun b hb e=>(J b hb).1 e)
  have a7:=Zh T;have a6:=Zh Z;clear T Z U F J S E W V R Q b2 i n v s;go_wp2;exact⟨a7.out,a6.out⟩
 case done=>
  rintro k g ⟨u,j,i,n,v⟩ r s b3;have Q:=cell_of_one j;clear C H L;go_wp2;have b7:Qq c ({ target:=.collected w1.heap.size,args:=#[] }::[]) g:=Qq.cons (base:=c) trivial oz b3 (fun e he=>by cases he);refine X7 b7 (fun w'=>results_tmp rfl _ _ _) (fun w' ht' hs=>⟨u,rfl,?_,?_⟩)
  ·rw [z.out];exact Qm i ht' (fun b hb e=>by obtain⟨c7,b6⟩:=Xf i hb;exact Shut.not b6 rfl e)
  ·exact Q0.after v ht' (fun b' h2 h3=>by have:=h3.1;have:=z.out;omega)
 case stop=>exact fun _ _ _ _ _ _ _ a=>a.elim
theorem Wr{w:World}{gf:Nat}{lb:Array Value}(d:∀ args w,(callFunc gf args).run Tryz.prog w=.ok (.enter gf args) w) {M:Nat->Nat->Prop} {xs:List Nat} (f:∀ w1,Ext w w1->Ui Tryz.prog gf lb M S3 xs (fun b=>b<w.heap.size) w1) (k:xs.length<=1000) :
  Calls Tryz.prog 41 #[.func (.func gf) #[] lb] w fun e w'=>∃ u,e=.returned u/\w'.ownsRow w.heap.size 3 1 u xs.length (Yt xs)/\Ext w w':=by
 have c:=Fs d f k;have g:=Zh c;clear c f d;go_enter Tryz.func41,Tryz.ntmps41;go_wp2_with fail;refine g.out.mono ?_;rintro e w' ⟨u,rfl,a,j⟩;obtain⟨m,l,rfl⟩:=Z2 a;have i:=Zh a;clear a;go_wp2;go_ret;exact⟨_,rfl,i.out,j⟩
def Gp(l:Qa)(ws:Wd):List Nat:=if Ze l ws=0 then Xr l ws else []
theorem Wg(l:Qa)(ws:Wd):(Xr l ws).length<=ws.length+1:=by
 unfold Xr;exact Nat.le_trans (List.length_filter_le _ _) zy
theorem K0{ws:Wd}(h:wE ws=0):ws.length<=32:=by
 apply Nat.le_of_not_lt;intro a;unfold wE at h;rw [if_pos a] at h;cases h
theorem X1{l:Qa}{ws:Wd}(h:Ze l ws=0):J1 l=true/\wE ws=0:=by
 unfold Ze at h
 split at h
 ·rename_i a;exact⟨a,h⟩
 ·cases h
theorem Ry{w:World}{u v:Value}{us vs:Wd}(t:Q7 w u us)(x:Q7 w v vs) :
  Calls Tryz.prog 22 #[u,v] w fun e w'=>e=.returned (.bool (decide (us=vs)))/\Ext w w':=by
 obtain⟨b0,a9,rfl,a0⟩:=t.slice;obtain⟨b2,b1,rfl,a1⟩:=x.slice;unfold maxLen at a0 a1;obtain⟨c,G⟩:=zE us.length;obtain⟨z,F⟩:=zE vs.length;rw [G] at t a0 ⊢;rw [F] at x a1 ⊢;obtain⟨a7,a8,o,y⟩:=Zh4 t x G F;clear t x G F;go_enter Tryz.func22,Tryz.ntmps22;by_cases T:c=z;case neg=>
  have c1:((c:Int) ==(z:Int))=false:=by simp;omega
  have c4:¬ (c:Int)=(z:Int):=by omega
  have l:¬ us=vs:=by intro E;rw [E,y.out] at o;exact T o.out.symm
  have p:=Zh (decide_eq_false l);clear l;go_wp2;go_ret;exact⟨by rw [p.out];rfl,Q0.refl _ _⟩
 subst T;go_wp2
 refine wp_loop (fun a q=>∃(b:Nat),b<=c/\a.defers=[]/\gS a [0,1,5]=(26,[.slice b0 c a9,.slice b2 c b1,.int .i64 b])/\us.take b=vs.take b/\Ext w q)
  (fun a _=>c - (intOf (a.tmps.getD 5 undef)).toNat) ?_ ?_
 ·exact⟨0,by omega,rfl,rfl,by simp,Q0.refl _ _⟩
 rintro⟨M,_⟩ q ⟨b,c7,b6,a3,U,g⟩;subst b6;obtain⟨u,rfl⟩:=Zf a3;clear a3;have N:=Zh U;clear U;by_cases Z:b<c
 ·have b3:(b:Int)<(c:Int):=by omega
  have H:b<us.length:=by rw [o.out];exact Z
  have I:b<vs.length:=by rw [y.out];exact Z
  obtain⟨b9,c8,b7,m,c5,A,B⟩:=(show Q7 q _ us from(a7.out.ext g)).at H;simp only [zV] at m;obtain⟨rfl,L,rfl⟩:=m;clear L;obtain⟨c0,c9,b8,m,c6,C,D⟩:=(show Q7 q _ vs from(a8.out.ext g)).at I;simp only [zV] at m;obtain⟨rfl,L,rfl⟩:=m;clear L;have X:us.getD b (0,0)=us[b]:=by rw [List.getD_eq_getElem?_getD,List.getElem?_eq_getElem H];rfl
  have Y:vs.getD b (0,0)=vs[b]:=by rw [List.getD_eq_getElem?_getD,List.getElem?_eq_getElem I];rfl
  rw [X] at A B;rw [Y] at C D;obtain⟨i,J⟩:=zE (us[b]);obtain⟨M,K⟩:=zE (vs[b]);have O:Hid (us[b]=i):=Zh J;have P:Hid (vs[b]=M):=Zh K;rw [J] at A B;rw [K] at C D;obtain⟨d,j⟩:=i;obtain⟨f,k⟩:=M;dsimp only at A B C D;clear X Y J K;by_cases s:d=f/\j=k
  ·obtain⟨rfl,rfl⟩:=s;have a2:us.take (b+1)=vs.take (b+1):=by
    rw [List.take_succ_eq_append_getElem H,List.take_succ_eq_append_getElem I,N.out,O.out,P.out]
   have a6:=Zh a2;clear a2;go_wp2
   go_quiet (fail)
   go_wp2;exact⟨⟨b+1,by omega,tz,rfl,a6.out,g.drewN _⟩,nz⟩
  ·have l:¬ us=vs:=by
    intro E;subst E;have r:=O.out.symm.trans P.out;simp only [Prod.mk.injEq] at r;exact s r
   have p:=Zh (decide_eq_false l);have V:(((d:Int) ==(f:Int)) && ((j:Int) ==(k:Int)))=false:=by
    by_cases r:d=f
    ·have Q:¬ j=k:=fun Q=>s ⟨r,Q⟩;simp;omega
    ·simp;omega
   have R:¬ ((d:Int)=(f:Int)/\(j:Int)=(k:Int)):=by omega
   have S:(d:Int)=(f:Int)->¬ (j:Int)=(k:Int):=by omega
   have a4:=Zh S;clear l s S;by_cases b4:(d:Int)=(f:Int)
   ·have c2:=a4.out b4;have c3:((j:Int) ==(k:Int))=false:=by simp;omega
    have b5:((d:Int) ==(f:Int))=true:=by simp;omega
    clear V R;go_wp2
    go_quiet (fail)
    go_wp2;go_ret;exact⟨by rw [p.out];rfl,g.drewN _⟩
   ·have b5:((d:Int) ==(f:Int))=false:=by simp;omega
    clear V R;go_wp2
    go_quiet (fail)
    go_wp2;go_ret;exact⟨by rw [p.out];rfl,g.drewN _⟩
 ·obtain rfl:b=c:=by omega
  have b3:¬ (b:Int)<(b:Int):=by omega
  have W:us=vs:=by have:=N.out;rwa [List.take_of_length_le (by rw [o.out];exact Nat.le_refl _),List.take_of_length_le (by rw [y.out];exact Nat.le_refl _)] at this
  have a5:=Zh (decide_eq_true W);clear W;go_wp2;go_ret;exact⟨by rw [a5.out];rfl,g⟩
theorem Sd{w:World}{u v:Value}{us vs:Wd}(t:Q7 w u us)(x:Q7 w v vs) :
  Calls Tryz.prog 26 #[u,v] w fun e w'=>e=.returned (.bool (decide (us=vs)))/\Ext w w':=by
 obtain⟨b0,a9,rfl,a0⟩:=t.slice;obtain⟨b2,b1,rfl,a1⟩:=x.slice;unfold maxLen at a0 a1;obtain⟨c,G⟩:=zE us.length;obtain⟨z,F⟩:=zE vs.length;rw [G] at t a0 ⊢;rw [F] at x a1 ⊢;obtain⟨a7,a8,o,y⟩:=Zh4 t x G F;clear t x G F;go_enter Tryz.func26,Tryz.ntmps26;by_cases T:c=z;case neg=>
  have c1:((c:Int) ==(z:Int))=false:=by simp;omega
  have c4:¬ (c:Int)=(z:Int):=by omega
  have l:¬ us=vs:=by intro E;rw [E,y.out] at o;exact T o.out.symm
  have p:=Zh (decide_eq_false l);clear l;go_wp2;go_ret;exact⟨by rw [p.out];rfl,Q0.refl _ _⟩
 subst T;go_wp2
 refine wp_loop (fun a q=>∃(b:Nat),b<=c/\a.defers=[]/\gS a [0,1,12,13]=(26,[.slice b0 c a9,.slice b2 c b1,.int .i64 c,.int .i64 b])/\us.take b=vs.take b/\Ext w q)
  (fun a _=>c - (intOf (a.tmps.getD 13 undef)).toNat) ?_ ?_
 ·exact⟨0,by omega,rfl,rfl,by simp,Q0.refl _ _⟩
 rintro⟨M,_⟩ q ⟨b,c7,b6,a3,U,g⟩;subst b6;obtain⟨u,rfl⟩:=Zf a3;clear a3;have N:=Zh U;clear U;by_cases Z:b<c
 ·have b3:(b:Int)<(c:Int):=by omega
  have H:b<us.length:=by rw [o.out];exact Z
  have I:b<vs.length:=by rw [y.out];exact Z
  obtain⟨b9,c8,b7,m,c5,A,B⟩:=(show Q7 q _ us from(a7.out.ext g)).at H;simp only [zV] at m;obtain⟨rfl,L,rfl⟩:=m;clear L;obtain⟨c0,c9,b8,m,c6,C,D⟩:=(show Q7 q _ vs from(a8.out.ext g)).at I;simp only [zV] at m;obtain⟨rfl,L,rfl⟩:=m;clear L;have X:us.getD b (0,0)=us[b]:=by rw [List.getD_eq_getElem?_getD,List.getElem?_eq_getElem H];rfl
  have Y:vs.getD b (0,0)=vs[b]:=by rw [List.getD_eq_getElem?_getD,List.getElem?_eq_getElem I];rfl
  rw [X] at A B;rw [Y] at C D;obtain⟨i,J⟩:=zE (us[b]);obtain⟨M,K⟩:=zE (vs[b]);have O:Hid (us[b]=i):=Zh J;have P:Hid (vs[b]=M):=Zh K;rw [J] at A B;rw [K] at C D;obtain⟨d,j⟩:=i;obtain⟨f,k⟩:=M;dsimp only at A B C D;clear X Y J K;by_cases s:d=f/\j=k
  ·obtain⟨rfl,rfl⟩:=s;have a2:us.take (b+1)=vs.take (b+1):=by
    rw [List.take_succ_eq_append_getElem H,List.take_succ_eq_append_getElem I,N.out,O.out,P.out]
   have a6:=Zh a2;clear a2;go_wp2
   go_quiet (fail)
   go_wp2;exact⟨⟨b+1,by omega,tz,rfl,a6.out,g.drewN _⟩,nz⟩
  ·have l:¬ us=vs:=by
    intro E;subst E;have r:=O.out.symm.trans P.out;simp only [Prod.mk.injEq] at r;exact s r
   have p:=Zh (decide_eq_false l);have V:(((d:Int) ==(f:Int)) && ((j:Int) ==(k:Int)))=false:=by
    by_cases r:d=f
    ·have Q:¬ j=k:=fun Q=>s ⟨r,Q⟩;simp;omega
    ·simp;omega
   have R:¬ ((d:Int)=(f:Int)/\(j:Int)=(k:Int)):=by omega
   have S:(d:Int)=(f:Int)->¬ (j:Int)=(k:Int):=by omega
   have a4:=Zh S;clear l s S;by_cases b4:(d:Int)=(f:Int)
   ·have c2:=a4.out b4;have c3:((j:Int) ==(k:Int))=false:=by simp;omega
    have b5:((d:Int) ==(f:Int))=true:=by simp;omega
    clear V R;go_wp2
    go_quiet (fail)
    go_wp2;go_ret;exact⟨by rw [p.out];rfl,g.drewN _⟩
   ·have b5:((d:Int) ==(f:Int))=false:=by simp;omega
    clear V R;go_wp2
    go_quiet (fail)
    go_wp2;go_ret;exact⟨by rw [p.out];rfl,g.drewN _⟩
 ·obtain rfl:b=c:=by omega
  have b3:¬ (b:Int)<(b:Int):=by omega
  have W:us=vs:=by have:=N.out;rwa [List.take_of_length_le (by rw [o.out];exact Nat.le_refl _),List.take_of_length_le (by rw [y.out];exact Nat.le_refl _)] at this
  have a5:=Zh (decide_eq_true W);clear W;go_wp2;go_ret;exact⟨by rw [a5.out];rfl,g⟩
theorem eqW{w:World}{u v:Value}{us vs:Wd}(a:Q7 w u us)(b:Q7 w v vs) :
  Calls Tryz.prog 16 #[u,v] w fun e w'=>e=.returned (.bool (decide (us=vs)))/\Ext w w':=by
 have c:=fun(D:World) (hD:Ext w D)=>Sd (a.ext hD) (b.ext hD);obtain⟨i,g,rfl,l⟩:=a.slice;obtain⟨k,j,rfl,m⟩:=b.slice;have d:=Zh c;clear c a b;go_enter Tryz.func16,Tryz.ntmps16;go_wp2_with fail;refine(d.out _ (by first | exact Q0.refl _ _ | exact Q0.drew (Q0.refl _ _))).mono ?_;rintro e n ⟨rfl,f⟩;clear d;go_wp2;go_ret;exact⟨rfl,by first | exact f | exact Q0.trans (Q0.drew (Q0.refl _ _)) f⟩
theorem Mk{w:World}{l:Qa}{cs:List Value}{v:Value}{ws:Wd}(q:Z3 w l cs)(r:Q7 w v ws)(B:Tab w) :
  Calls Tryz.prog 23 #[.agg cs.toArray,v] w fun e w'=>∃ u,e=.returned (.tuple #[u,.int .i64 (Ze l ws)])/\w'.ownsRow w.heap.size 3 1 u (Gp l ws).length (Yt (Gp l ws))/\Ext w w':=by
 obtain⟨G,F,rfl,_⟩:=r.slice;have o:=fun(a:World) (d:Ext w a)=>Ju (q.ext d) (r.ext d) (B.keep d id);have C:=fun(a:World) (d:Ext w a)=>G7 (q.ext d) (ao:=G) (n:=ws.length) (c:=F) 0
 have p:Ze l ws=0->∀(b:Nat) (a:World),Ext w a->LBx a b l cs->Zp a (b+1) (.slice G ws.length F)->a.heap[b+2]?=some (.cells #[.int .i64 ((0:Nat):Int)] 3 (0,0)) ->
   Calls Tryz.prog 41 #[.func (.func 60) #[] #[.pointer (some ⟨b,0,none⟩),.pointer (some ⟨b+1,0,none⟩),.pointer (some ⟨b+2,0,none⟩)]] a fun e w'=>∃ u,e=.returned u/\w'.ownsRow a.heap.size 3 1 u (Xr l ws).length (Yt (Xr l ws))/\Ext a w':=by
  intro i b a d c5 c6 c7;obtain⟨d1,f⟩:=X1 i;obtain⟨e8,_⟩:=Y6 d1;have e9:=K0 f;refine Wr (M:=fun _ _=>False) (enters_of Tryz.func60 kz rfl) (fun d2 hw1=>?_) (by have:=Wg l ws;omega);rw [<-Gs];refine Kc (cs:=cs) (v:=.slice G ws.length F) 0 oz oz (fun W hW=>?_);have k:Ext a W:=Q0.after hw1 hW (fun b hb hn=>hn hb);exact⟨c5.ext k,k.keep c6,(r.ext d).ext k,(B.keep d id).keep k id,k.keep c7⟩
 obtain⟨f8,E⟩:=zE ws.length;rw [E] at o C p;rw [E];obtain⟨b1,a4,b6,a6,a9,P,R,b2,K,T,a5,b7,a7,b0,Q,S,b3,L,U,a3,N,a2,b5,O,b4,a8,rfl,d6,e4,e5,d5,e3,e2,d8,d9,e0,e1,d7,f0,f1,f2,f3,f4⟩:=Zo q;obtain⟨g,A⟩:=zE (Ze l ws);rw [A] at o p ⊢;have I:Hid (Gp l ws=if g=0 then Xr l ws else []):=Zh (by unfold Gp;rw [A]);obtain⟨c0,c2,c1⟩:=Zh3 o C p;clear q r B E o C p A;obtain⟨b8,f⟩:=zE (w.alloc (.cells #[.string b1,.int .i64 a4,.int .u32 (b6:Int),.int .u32 (a6:Int),.bool a9,.int .i64 P,.int .i64 R,.slice b2 K T,.int .i64 a5,.int .u32 (b7:Int),.int .u32 (a7:Int),.bool b0,.int .i64 Q,.int .i64 S,.slice b3 L U,.slice a3 N a2,.slice b5 O b4,.int .i64 a8] 34));have t:Ext w b8:=by rw [<-f];exact(Q0.refl _ w).alloc _
 have a0:b8.heap[w.heap.size]?=some (.cells #[.string b1,.int .i64 a4,.int .u32 (b6:Int),.int .u32 (a6:Int),.bool a9,.int .i64 P,.int .i64 R,.slice b2 K T,.int .i64 a5,.int .u32 (b7:Int),.int .u32 (a7:Int),.bool b0,.int .i64 Q,.int .i64 S,.slice b3 L U,.slice a3 N a2,.slice b5 O b4,.int .i64 a8] 34 (0,0)):=by rw [<-f];exact Q5 rfl
 have m:=Zh a0;have J:=Zh f;clear a0 f;go_enter Tryz.func23,Tryz.ntmps23;go_upto_region 1 with (fail)
 rw [J.out];obtain⟨H,s⟩:=zE w.heap.size;have d4:=Zh s;rw [s] at m ⊢;clear s J
 go_wp2_with (refine wpList_load_row rfl 34 (.tmp 2) rfl H rfl _ _ _ _ m.out Tryz.underlying34 rfl Tryz.lawInfo ?_)
 refine(c0.out _ t).mono ?_;rintro e d2 ⟨rfl,y⟩;have j:=t.trans y;have c3:=Zh (y.keep m.out);clear y t m;by_cases i:g=0;case neg=>
  have e7:(g != 0)=true:=by rw [bne_iff_ne];exact i
  go_wp2;go_ret2;exact⟨_,rfl,by rw [I.out,if_neg i];exact World.ownsRow_nil _ _ _ _,j⟩
 subst i
 go_wp2_with (refine wpList_load_row rfl 34 (.tmp 2) rfl H rfl _ _ _ _ c3.out Tryz.underlying34 rfl Tryz.lawInfo ?_)
 refine(c2.out _ j).mono ?_;rintro e d3 ⟨rfl,a1,X,Y,V,x⟩;have Z:=c1.out uz _ d3 (j.trans x) X Y V;have b9:=Zh Z;have e6:=Zh a1;clear Z X Y V a1;go_wp2_with fail;refine b9.out.mono ?_;rintro e f7 ⟨u,rfl,z,c8⟩;obtain⟨f6,f5,rfl⟩:=Z2 z;have c9:=(j.trans x).trans c8;have d0:=(j.trans x).size;have c4:=Zh (X4 z d0);clear z;go_wp2;go_ret2;exact⟨_,rfl,by rw [I.out];exact c4.out,c9⟩
def Vr(l:Qa)(ws:Wd)(z:Int):Int:=
 if Ze l ws=0 then(if z<0\/(ws.length:Int)<z then 3 else if Z1 l ws z.toNat=false then 5 else if 32<(Qv l ws z.toNat).length then 11 else 0) else Ze l ws
def V6(l:Qa)(ws:Wd)(z:Int):Wd:=if Vr l ws z=0 then Qv l ws z.toNat else []
theorem Un{w:World}{e:TypeId}{b:Nat}:w.ownsRow b e 2 (.slice none 0 0) ([]:Wd).length (Qj []):=World.ownsRow_nil _ _ _ _
theorem N8{w:World}{l:Qa}{cs:List Value}{vo:Option Addr}{vc:Nat}{ws:Wd}(A:Z3 w l cs)(C:Q7 w (.slice vo ws.length vc) ws) (f5:ws.length<=vc) (S:Tab w) (z:Int) :
  Calls Tryz.prog 10 #[.agg cs.toArray,.slice vo ws.length vc,.int .i64 z] w fun e w'=>∃ u,e=.returned (.tuple #[u,.int .i64 (Vr l ws z)])/\w'.ownsRow w.heap.size 24 2 u (V6 l ws z).length (Qj (V6 l ws z))/\Ext w w':=by
 have H:=fun(g:World) (f:Ext w g)=>Ju (A.ext f) (C.ext f) (S.keep f id);have I:Ze l ws=0->∀(a:Nat),a<=ws.length->∀ g,Ext w g->Calls Tryz.prog 20 #[.agg cs.toArray,.slice vo ws.length vc,.int .i64 a] g fun e w'=>e=.returned (.bool (Z1 l ws a))/\Ext g w':=by
  intro d a J g f;obtain⟨B,m⟩:=X1 d;obtain⟨c2,_⟩:=Y6 B;have c6:=K0 m;exact H3 (A.ext f) (C.ext f) (S.keep f id) a oz oz
 have L:Ze l ws=0->∀(a:Nat),Z1 l ws a=true->∀ g,Ext w g->Calls Tryz.prog 21 #[.agg cs.toArray,.slice vo ws.length vc,.int .i64 a] g fun e w'=>∃ u,e=.returned u/\w'.ownsRow g.heap.size 24 2 u (Qv l ws a).length (Qj (Qv l ws a))/\Ext g w':=by
  intro d a J g f;obtain⟨B,m⟩:=X1 d;obtain⟨c2,f7,_,_,f6,_⟩:=Y6 B;have c6:=K0 m;exact Vb (A.ext f) (C.ext f) rfl f5 a (U3 J) f6 oz oz
 have x:Ze l ws=0->∀(a:Nat),Z1 l ws a=true->(Qv l ws a).length<=100:=by
  intro d a J;obtain⟨B,m⟩:=X1 d;obtain⟨c2,f7,_⟩:=Y6 B;have c6:=K0 m;have:=Xe (l:=l) (U3 J);omega
 have s:Hid (Vr l ws z=if Ze l ws=0 then(if z<0\/(ws.length:Int)<z then 3 else if Z1 l ws z.toNat=false then 5 else if 32<(Qv l ws z.toNat).length then 11 else 0) else Ze l ws):=Zh rfl;have p:Hid (V6 l ws z=if Vr l ws z=0 then Qv l ws z.toNat else []):=Zh rfl;have c4:=C.1.2.1;unfold maxLen at c4;obtain⟨e8,c7⟩:=zE ws.length;rw [c7] at H I L s c4 ⊢;obtain⟨d9,d2,e4,d4,d7,b2,b4,e0,a8,b6,d3,e5,d5,d8,b3,b5,e1,a9,b7,d1,b0,d0,e3,b1,e2,d6,rfl,g0,g8,g9,f9,g7,g6,g2,g3,g4,g5,g1,i3,i4,i5,i6,i7⟩:=Zo A;obtain⟨j,c0⟩:=zE (Ze l ws);obtain⟨o,f⟩:=zE (Vr l ws z);obtain⟨r,c1⟩:=zE (V6 l ws z);rw [c0] at H I L x s;rw [f] at s p ⊢;rw [c1] at p ⊢;obtain⟨f0,Z,a3,a5⟩:=Zh4 H I L x;clear A C S c7 H I L x c0 f c1;obtain⟨e6,m⟩:=zE (w.alloc (.cells #[.string d9,.int .i64 d2,.int .u32 (e4:Int),.int .u32 (d4:Int),.bool d7,.int .i64 b2,.int .i64 b4,.slice e0 a8 b6,.int .i64 d3,.int .u32 (e5:Int),.int .u32 (d5:Int),.bool d8,.int .i64 b3,.int .i64 b5,.slice e1 a9 b7,.slice d1 b0 d0,.slice e3 b1 e2,.int .i64 d6] 34));have Q:Ext w e6:=by rw [<-m];exact(Q0.refl _ w).alloc _
 have c3:e6.heap[w.heap.size]?=some (.cells #[.string d9,.int .i64 d2,.int .u32 (e4:Int),.int .u32 (d4:Int),.bool d7,.int .i64 b2,.int .i64 b4,.slice e0 a8 b6,.int .i64 d3,.int .u32 (e5:Int),.int .u32 (d5:Int),.bool d8,.int .i64 b3,.int .i64 b5,.slice e1 a9 b7,.slice d1 b0 d0,.slice e3 b1 e2,.int .i64 d6] 34 (0,0)):=by rw [<-m];exact Q5 rfl
 have E:=Zh c3;have a7:=Zh m;clear c3 m;go_enter Tryz.func10,Tryz.ntmps10;go_upto_region 1 with (fail)
 rw [a7.out];obtain⟨N,P⟩:=zE w.heap.size;have e9:=Zh P;rw [P] at E ⊢;clear P a7
 go_wp2_with (refine wpList_load_row rfl 34 (.tmp 3) rfl N rfl _ _ _ _ E.out Tryz.underlying34 rfl Tryz.lawInfo ?_)
 refine(f0.out _ Q).mono ?_;rintro e f8 ⟨rfl,k⟩;have v:=Q.trans k;have O:=Zh (k.keep E.out);clear k Q E;by_cases d:j=0;case neg=>
  have i0:(j != 0)=true:=by rw [bne_iff_ne];exact d
  have c:Hid (o=j):=Zh (by rw [s.out,if_neg d]);have i:Hid (r=[]):=Zh (by rw [p.out,if_neg (by rw [c.out];exact d)]);go_wp2;go_ret2;exact⟨_,by rw [c.out];rfl,by rw [i.out];exact Un,v⟩
 have i2:(j != 0)=false:=by rw [d];rfl
 have F:Hid (o=if z<0\/(e8:Int)<z then 3 else if Z1 l ws z.toNat=false then 5 else if 32<(Qv l ws z.toNat).length then 11 else 0):=Zh (by rw [s.out,if_pos d]);obtain⟨a0,a4,a6⟩:=Zh3 (Z.out d) (a3.out d) (a5.out d);clear s Z a3 a5 d;by_cases c8:z<0
 ·have c:Hid (o=3):=Zh (by rw [F.out,if_pos (.inl c8)]);have i:Hid (r=[]):=Zh (by rw [p.out,if_neg (by rw [c.out];decide)]);go_wp2;go_ret2;exact⟨_,by rw [c.out];rfl,by rw [i.out];exact Un,v⟩
 by_cases c9:(e8:Int)<z
 ·have c:Hid (o=3):=Zh (by rw [F.out,if_pos (.inr c9)]);have i:Hid (r=[]):=Zh (by rw [p.out,if_neg (by rw [c.out];decide)]);go_wp2;go_ret2;exact⟨_,by rw [c.out];rfl,by rw [i.out];exact Un,v⟩
 obtain⟨a,rfl⟩:=Int.eq_ofNat_of_zero_le (show 0<=z by omega);have t:Hid (o=if Z1 l ws a=false then 5 else if 32<(Qv l ws a).length then 11 else 0):=Zh (by rw [F.out,if_neg (fun q=>q.elim c8 c9)];rfl);have G:Hid (r=if o=0 then Qv l ws a else []):=Zh (by rw [p.out];rfl);clear F p;have U:=a0.out a oz f8 v;obtain⟨f4,T⟩:=zE (Z1 l ws a);rw [T] at U t;have Y:=Zh U;have X:=Zh T;clear U T a0
 go_wp2_with (refine wpList_load_row rfl 34 (.tmp 3) rfl N rfl _ _ _ _ O.out Tryz.underlying34 rfl Tryz.lawInfo ?_)
 refine Y.out.mono ?_;rintro e e7 ⟨rfl,k⟩;have y:=v.trans k;have a1:=Zh (k.keep O.out);clear k v O Y;cases f4
 ·have c:Hid (o=5):=Zh (by rw [t.out];rfl);have i:Hid (r=[]):=Zh (by rw [G.out,if_neg (by rw [c.out];decide)]);go_wp2;go_ret2;exact⟨_,by rw [c.out];rfl,by rw [i.out];exact Un,y⟩
 have K:=a4.out a X.out e7 y;have x:=a6.out a X.out;obtain⟨M,c5⟩:=zE (Qv l ws a);rw [c5] at K x t G;obtain⟨W,V⟩:=zE M.length;rw [V] at K x t;have a2:=Zh K;have f2:=Zh V;clear K c5 V a4 a6
 go_wp2_with (refine wpList_load_row rfl 34 (.tmp 3) rfl N rfl _ _ _ _ a1.out Tryz.underlying34 rfl Tryz.lawInfo ?_)
 refine a2.out.mono ?_;rintro e j0 ⟨u,rfl,R,k⟩;have b9:=y.trans k;obtain⟨i9,i8,rfl⟩:=Z2 R;have i1:=y.size;have f1:=Zh (X4 R (by have:=e9.out;omega:w.heap.size<=e7.heap.size));clear R k y a1 a2;by_cases b8:32<W
 ·have f3:(32:Int)<(W:Int):=by omega
  have c:Hid (o=11):=Zh (by rw [t.out,if_neg zd,if_pos b8]);have i:Hid (r=[]):=Zh (by rw [G.out,if_neg (by rw [c.out];decide)]);go_wp2;go_ret2;exact⟨_,by rw [c.out];rfl,by rw [i.out];exact Un,b9⟩
 ·have f3:¬ (32:Int)<(W:Int):=by omega
  have c:Hid (o=0):=Zh (by rw [t.out,if_neg zd,if_neg b8]);have i:Hid (r=M):=Zh (by rw [G.out,if_pos c.out]);go_wp2;go_ret2;exact⟨_,by rw [c.out];rfl,by rw [i.out,f2.out];exact f1.out,b9⟩
end Go.Proofs.YtedeckeahmkheaaGreatDoor
