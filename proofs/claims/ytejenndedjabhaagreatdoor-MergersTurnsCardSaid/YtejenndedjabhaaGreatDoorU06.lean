/- slices.DeleteFunc over the counts of mergers.Sizes. -/
import Derived.Test.YtejenndedjabhaaGreatDoorU05
import Derived.Lib.AppendZeros
set_option maxRecDepth 100000
set_option maxHeartbeats 8000000
namespace Go.Proofs.YtejenndedjabhaaGreatDoor
open Go.RowKit Go.Ab
attribute [local go_sem] Oper.semAt_some Z6 Qn
theorem Q56(x:Int)(w:World):Calls Tryz.prog 74 #[.int .i64 x] w fun e w'=>e=.returned (.bool (decide (x=0)))/\Ext w w':=by
 by_cases a:x=0
 ·subst a;go_enter Tryz.func74,Tryz.ntmps74;go_wp2;go_ret;exact⟨rfl,Q0.refl _ _⟩
 ·have b:(x == 0)=false:=by simpa using a
  rw [decide_eq_false a];go_enter Tryz.func74,Tryz.ntmps74;go_wp2;go_ret;exact⟨rfl,Q0.refl _ _⟩
theorem Q71(l:List Nat):Qh (l.map fun(n:Nat)=>(n:Int))=Y2 l:=by unfold Qh Y2;rw [List.map_map];rfl
def J1(n:Nat):Bool:=decide (n≠0)
def Jr(xs:List Nat)(i j:Nat)(R:List Value):Prop:=((xs.take j).filter J1).length=i/\R.take i=Y2 ((xs.take j).filter J1)/\R.drop j=Y2 (xs.drop j)
theorem Jr.drop{xs:List Nat}{i j:Nat}{R:List Value}(h:Jr xs i j R)(f:j<xs.length)(g:xs[j]=0):Jr xs i (j+1) R:=by
 obtain⟨b,c,d⟩:=h;have a:=L2 J1 f;have e:¬ J1 xs[j]=true:=by rw [g];decide
 rw [if_neg e,List.append_nil] at a;refine⟨by rw [a];exact b,by rw [a];exact c,?_⟩;rw [<-List.drop_drop,d];unfold Y2;rw [<-List.map_drop,List.drop_drop]
theorem Jr.keep{xs:List Nat}{i j:Nat}{R:List Value}(h:Jr xs i j R)(k:j<xs.length)(l:xs[j]≠0)(f:i<R.length)(g:i<j+1):Jr xs (i+1) (j+1) (R.set i (.int .i64 (xs[j]:Nat))):=by
 obtain⟨b,c,d⟩:=h;have a:=L2 J1 k;have e:J1 xs[j]=true:=by unfold J1;simpa using l
 rw [if_pos e] at a;refine⟨by rw [a,List.length_append,b];rfl,?_,?_⟩
 ·rw [List.take_succ_eq_append_getElem (by simpa using f),List.getElem_set_self,List.take_set_of_le (Nat.le_refl i),c,a];simp [Y2]
 ·rw [List.drop_set_of_lt g,<-List.drop_drop,d];unfold Y2;rw [<-List.map_drop,List.drop_drop]
theorem Jr.start{xs:List Nat}{k:Nat}(e:k<xs.length)(c:(xs.take k).all J1=true) (f:xs[k]=0):Jr xs k (k+1) (Y2 xs):=by
 have b:=L2 J1 e;have d:¬ J1 xs[k]=true:=by rw [f];decide
 rw [if_neg d,List.append_nil,List.filter_eq_self.2 (fun a ha=>(List.all_eq_true.1 c) a ha)] at b;refine⟨by rw [b,List.length_take];omega,by rw [b];unfold Y2;rw [List.map_take],by unfold Y2;rw [List.map_drop]⟩
theorem Q3l{w:World}{base:Nat}{e:TypeId}{g n cap i:Nat}{xs:List Value}(h:w.ownsRow base e 1 (.slice (some ⟨g,0,none⟩) n cap) n xs) (p:i<=n) :
  w.ownsRow base e 1 (.slice (some ⟨g,0,none⟩) i cap) i (xs.take i):=by
 have k:=h.1;rcases h.2 with ⟨a,_⟩ | ⟨o,m,b,a,c,j,q,d,f,l⟩
 ·cases a
 ·simp only [zV,Option.some.injEq,Addr.mk.injEq] at a;obtain⟨⟨rfl,_,_⟩,_,rfl⟩:=a;refine⟨by rw [List.length_take,k];omega,.inr ⟨g,cap,b,rfl,c,j,by omega,d,f,?_⟩⟩;rw [<-l,List.take_take]
  congr 1;omega
theorem Nt{base:Nat}{e:TypeId}{g n cap:Nat}:∀(vs:List Value) (o:Nat) (w:World) (xs:List Value),w.ownsRow base e 1 (.slice (some ⟨g,0,none⟩) n cap) n xs ->
  ∃ ys,(w.setCells g o vs).ownsRow base e 1 (.slice (some ⟨g,0,none⟩) n cap) n ys/\ys.take o=xs.take o
 | [],_,_,xs,h=>⟨xs,h,rfl⟩
 | v::vs,o,w,xs,h=>by
  obtain⟨ys,h1,h2⟩:=Nt vs (o+1) _ _ (Yc h o v);refine⟨ys,h1,?_⟩;have h3:=congrArg (List.take o) h2;rw [List.take_take,List.take_take,Nat.min_eq_left oz,List.take_set_of_le (Nat.le_refl o)] at h3;exact h3
theorem Jr.get{xs:List Nat}{i j:Nat}{R:List Value}(h:Jr xs i j R)(b:j<xs.length):R[j]?=some (.int .i64 (xs[j]:Nat)):=by
 have a:=congrArg (fun l=>l[0]?) h.2.2;simp only [List.getElem?_drop,Nat.add_zero] at a;rw [a];simp [Y2,b]
theorem Q8f(w:World):(zeroValue 3).run Tryz.prog w=.ok (.int .i64 0) w:=by kernel_rfl
theorem Cn{w:World}{base:Nat}{v:Value}{N:Nat}{xs:List Nat}(y:w.ownsRow base 3 1 v N (Y2 xs)) (K:xs.length=N) (r:Nat) (lb:Array Value) (t:∀ args w,(callFunc r args).run Tryz.prog w=.ok (.enter r args) w)
  (J:∀(x:Int) (V:World),Calls Tryz.prog r (#[.int .i64 x]++lb) V fun e w'=>e=.returned (.bool (decide (x=0)))/\Ext V w') :
  Calls Tryz.prog 73 #[v,.func (.func r) #[] lb] w fun e w'=>∃ u,e=.returned u/\w'.ownsRow base 3 1 u (xs.filter J1).length (Y2 (xs.filter J1))/\Q0 (fun b=>v.ownBlock=some b) w w':=by
 obtain⟨c8,m,rfl⟩:=Qk y;have e6:=(K5 y).1;have d7:=(K5 y).2;unfold maxLen at d7;have b0:Rd w (.slice c8 N m) N 1 (Qh (xs.map fun(n:Nat)=>(n:Int))):=by rw [Q71];exact Rd.of_own y
 have a6:=S3 b0 (by rw [List.length_map];exact K) r lb t (fun x=>decide (x=0)) (fun x _ V _=>J x V);obtain⟨F,b9,A,b8,W⟩:=Zh5 y J K t a6;clear y J K t b0 a6;go_enter Tryz.func73,Tryz.ntmps73;go_wp2_with fail;refine W.out.mono ?_;rintro e c7 ⟨e9,rfl,d8,Z⟩;have z:=Zh Z;clear W Z;rcases d8 with ⟨rfl,s⟩ | ⟨l,Q,rfl,R,a3⟩
 ·have D:xs.filter J1=xs:=by
   rw [List.filter_eq_self];intro k L;rw [List.any_map,List.any_eq_false] at s;have:=s k L;unfold J1
   simpa using this
  have c1:=Zh D;clear s D;go_wp2;go_ret;refine⟨_,rfl,?_,z.out.mono (fun _ _ h=>h.elim)⟩;rw [c1.out,A.out];exact Qb F.out z.out
 ·have a7:l<N:=by rw [List.length_map] at Q;rw [<-A.out];exact Q
  have a8:l<xs.length:=by rw [A.out];exact a7
  have b5:xs[l]=0:=by
   have:=of_decide_eq_true a3;rw [List.getElem_map] at this;omega
  have s:(xs.take l).all J1=true:=by
   rw [List.all_eq_true];intro k L;rw [<-List.map_take,List.any_map,List.any_eq_false] at R;have:=R k L;unfold J1
   simpa using this
  obtain⟨c,rfl⟩:=Mq F.out oz;have B:=Zh (Jr.start a8 s b5);have X:=Zh (Qb F.out z.out);have f:Hid (Q0 (fun b=>b=c) w c7):=Zh (z.out.mono (fun _ _ h=>h.elim));clear s b5 a3 R Q a8 z;have d5:((l:Int) == -1)=false:=by simp
  have d6:((l:Int)=-1)=False:=by simp
  go_wp2
  refine wp_loop (fun k V=>∃(i a:Nat) (j:List Value),i<a/\a<=N/\k.defers=[]/\gS k [0,1,5,6]=(42,[.slice (some ⟨c,0,none⟩) N m,.func (.func r) #[] lb,.int .i64 i,.int .i64 a])/\V.ownsRow base 3 1 (.slice (some ⟨c,0,none⟩) N m) N j/\Jr xs i a j/\Q0 (fun b=>b=c) w V)
   (fun k _=>N - (intOf (k.tmps.getD 6 undef)).toNat) ?_ ?_
  ·exact⟨l,l+1,_,by omega,by omega,rfl,rfl,X.out,B.out,f.out⟩
  clear X B f d5 d6 a7;rintro⟨e7,_⟩ V ⟨i,a,j,e3,e5,d2,b1,a0,B,a1⟩;subst d2;obtain⟨u,rfl⟩:=Qt b1;clear b1;obtain⟨d,g,f⟩:=Zh3 a0 B a1;clear a0 B a1;by_cases d4:a<N
  ·have d0:(a:Int)<(N:Int):=by omega
   have c9:(0:Int)<=(a:Int):=by omega
   have e1:(0:Int)<=(i:Int):=by omega
   have d3:(i:Int)<(N:Int):=by omega
   have P:a<xs.length:=by rw [A.out];exact d4
   have C:=d.out.cellAt a oz;have O:=d.out.cellAt i oz;have a4:=d.out.frozenAt i;rw [g.out.get P] at C;have M:=b9.out (xs[a]:Nat) V;have d9:=d.out.1;obtain⟨x,S⟩:=zE (xs[a]);obtain⟨U,T⟩:∃ U,j[i]?=some U:=⟨_,List.getElem?_eq_getElem (show i<j.length by omega)⟩;rw [T] at O;rw [S] at C M;have G:Hid (xs[a]=x):=Zh S;have Y:Hid (j[i]?=some U):=Zh T;have p:=Zh M;have t:=b8.out;clear M S T;by_cases b2:x=0
   ·subst b2;rw [decide_eq_true (by rfl)] at p;go_wp2_with fail;clear t;refine p.out.mono ?_;rintro e H ⟨rfl,o⟩;have c2:=Zh (Qb d.out o);have b6:=Zh (g.out.drop P G.out);have c4:Hid (Q0 (fun b=>b=c) w H):=Zh (f.out.trans (o.mono (fun _ _ h=>h.elim)));clear d g f p o C O a4;go_wp2;exact⟨⟨i,a+1,j,by omega,by omega,tz,rfl,c2.out,b6.out,c4.out⟩,nz⟩
   ·rw [decide_eq_false oz] at p;go_wp2_with fail;clear t;refine p.out.mono ?_;rintro e H ⟨rfl,o⟩;have E:=Qb d.out o;have d1:=E.cellAt i oz;have e0:=E.frozenAt i;rw [Y.out] at d1;have c3:=Zh (Yc E i (.int .i64 (x:Nat)));have a2:Q0 (fun b=>b=c) w (H.setCell ⟨c,i,none⟩ (.int .i64 (x:Nat))):=(f.out.trans (o.mono (fun _ _ h=>h.elim))).setCell (.inr rfl) _;have I:=g.out.keep P (by rw [G.out];exact b2) oz oz;rw [G.out] at I;have c6:=Zh a2;have b7:=Zh I;clear d g f p o C O a4 E a2 I Y;go_wp2;exact⟨⟨i+1,a+1,_,by omega,by omega,tz,rfl,c3.out,b7.out,c6.out⟩,nz⟩
  ·obtain rfl:a=N:=by omega
   have d0:¬ (a:Int)<(a:Int):=by omega
   have c9:(0:Int)<=(i:Int):=by omega
   have d3:(i:Int)<=(a:Int):=by omega
   have e2:(i:Int)<=(m:Int):=by omega
   have e4:(a:Int)<=(m:Int):=by omega
   have C:∀ ty,(Builtin.clear_ #[36] ty #[.slice (some ⟨c,i,none⟩) (a - i) (m - i)]).run Tryz.prog V=.ok (.tuple #[]) (V.setCells c i (List.replicate (a - i) (.int .i64 0))):=
    fun ty=>Lib.run_clear_slice V _ 3 ty (.int .i64 0) Tryz.underlying36 Q8f rfl rfl c i _ _ oz (fun q hq=>by rw [d.out.cellAt (i+q) oz];have:=d.out.1;rw [List.getElem?_eq_getElem oz];rfl) (fun q _=>d.out.frozenAt _)
   obtain⟨e8,b3,b4⟩:=Nt (List.replicate (a - i) (.int .i64 0)) i V j d.out;have a9:=Q3l b3 (i:=i) oz;have D:xs.filter J1=(xs.take a).filter J1:=by rw [List.take_of_length_le (by rw [A.out];exact Nat.le_refl _)]
   have a5:(V.setCells c i (List.replicate (a - i) (.int .i64 0))).ownsRow base 3 1 (.slice (some ⟨c,0,none⟩) i m) (xs.filter J1).length (Y2 (xs.filter J1)):=by
    rw [D,g.out.1,<-g.out.2.1,<-b4];exact a9
   have c0:=Zh a5;have c5:Hid (Q0 (fun b=>b=c) w (V.setCells c i (List.replicate (a - i) (.int .i64 0)))):=Zh (f.out.trans (Q0.setCells V c _ i));clear b3 b4 a9 D a5 d g f;go_wp2;go_ret;exact⟨_,rfl,c0.out,c5.out.mono (fun b _ e=>by subst e;rfl)⟩
theorem Q1c:∀ args w,(callFunc 74 args).run Tryz.prog w=.ok (.enter 74 args) w:=fun args w=>by simp [go_sem]
theorem Tryz.infoD:(Tryz.prog.info? 3).map (fun i=>(i.zero,i.size,i.bytes))=some (some (.int .i64 0),1,8):=by kernel_rfl
theorem Qi{a:Func}{t u:Tmp}(h:a.results=#[.tmp t,.tmp u])(tmps:Array Value)(P:Program)(w:World) :
  (results a tmps).run P w=.ok (.tuple #[tmps.getD t undef,tmps.getD u undef]) w:=by
 simp [results,h]
theorem Gh{l:List Int}(h:Jc l≠0):Ky l=[]:=by unfold Ky;rw [if_neg h]
theorem Q43{w:World}{ao:Option Addr}{N cap:Nat}{l:List Int}(M:Rd w (.slice ao N cap) N 1 (Qh l)) (a0:l.length=N) :
  Calls Tryz.prog 31 #[.slice ao N cap] w fun e w'=>∃ u,e=.returned (.tuple #[u,.int .i64 (Jc l)])/\w'.ownsRow w.heap.size 3 1 u (Ky l).length (Y2 (Ky l))/\Ext w w':=by
 have c9:=M.2.1;unfold maxLen at c9;have V:=Zh M;have i:=Zh a0;clear M a0;by_cases G:N<=256;case neg=>
  have o:(N:Int) > 256:=by omega
  have j:Jc l=12:=Q4z (by rw [i.out];exact G);rw [j,Gh (by rw [j];decide)];clear j;go_enter Tryz.func31,Tryz.ntmps31;go_wp2;refine bodyPost_ret (Qi rfl _ _ _) rfl ⟨_,rfl,World.ownsRow_nil _ _ _ _,Q0.refl _ _⟩
 have o:¬ (N:Int) > 256:=by omega
 go_enter Tryz.func31,Tryz.ntmps31
 go_wp2_with (at_make;refine Jg rfl (.tmp 11) (.tmp 11) 36 rfl w.heap.size 3 _ 8 Tryz.underlying36 Tryz.infoD rfl .i64 .i64 N N N rfl rfl rfl rfl ?c1 ?c2 zy ?_)
 case c1=>omega
 case c2=>unfold maxLen;omega
 intro e5 r Z;rw [<-Cy l N] at r;obtain⟨m,I⟩:=zE w.heap.size;have x:=Zh I;rw [I] at r ⊢;have W:=Zh r;have S:=Zh Z;clear r Z I o;go_wp2
 refine wp_loop (fun a q=>∃(b:Nat),b<=N/\a.defers=[]/\(a.tmps.size=44/\a.tmps.getD 0 undef=.slice ao N cap/\a.tmps.getD 4 undef=.slice (some ⟨m,0,none⟩) N N/\a.tmps.getD 13 undef=.slice ao N cap/\a.tmps.getD 14 undef=.int .i64 N/\a.tmps.getD 15 undef=.int .i64 b)/\q.ownsRow m 3 1 (.slice (some ⟨m,0,none⟩) N N) N (Y2 (X7 l N b))/\Q1b l b/\Ext w q)
  (fun a _=>N - (intOf (a.tmps.getD 15 undef)).toNat) ?_ ?_
 ·exact⟨0,by omega,rfl,⟨rfl,rfl,rfl,rfl,rfl,rfl⟩,W.out,fun b8 L=>absurd L (Nat.not_lt_zero _),S.out⟩
 clear W S;rintro⟨d1,_⟩ q ⟨b,e0,c8,⟨b5,A,E,B,C,D⟩,a1,a7,Y⟩;subst c8;obtain⟨d2,v⟩:=Z8 b5;obtain⟨u,rfl⟩:∃ d,d=d2:=⟨_,rfl⟩;have d0:d1=#[u 0,u 1,u 2,u 3,u 4,u 5,u 6,u 7,u 8,u 9,u 10,u 11,u 12,u 13,u 14,u 15,u 16,u 17,u 18,u 19,u 20,u 21,u 22,u 23,u 24,u 25,u 26,u 27,u 28,u 29,u 30,u 31,u 32,u 33,u 34,u 35,u 36,u 37,u 38,u 39,u 40,u 41,u 42,u 43]:=v;clear v;subst d0;change u 0=_ at A;change u 4=_ at E;change u 13=_ at B;change u 14=_ at C;change u 15=_ at D;rw [A,E,B,C,D];clear A E B C D b5;obtain⟨k,y,g⟩:=Zh3 a1 a7 Y;clear a1 a7 Y;by_cases a6:b<N
 ·have o:(b:Int)<(N:Int):=by omega
  have d5:(0:Int)<=(b:Int):=by omega
  have s:b<l.length:=by rw [i.out];exact a6
  obtain⟨c5,e3,d4,b2,d6,a4⟩:=Zq (V.out.ext g.out) a6;simp only [zV,true_and] at b2;obtain⟨rfl,rfl⟩:=b2;rw [Y1 l s] at a4;have J:l.getD b 0=l[b]:=by rw [List.getD_eq_getElem?_getD,List.getElem?_eq_getElem s];rfl
  obtain⟨d,P⟩:=zE (l[b]);rw [P] at a4 J;have c4:=Zh P;have T:=Zh J;clear P J;have a2:¬ (0<=d/\d<=b/\l.getD d.toNat 0=d)->Jc l=2:=fun n=>Q7j (by rw [i.out];exact G) s (by rw [T.out];exact n);have p:=Zh a2;clear a2;by_cases e2:d<0
  ·have f:=Zh (p.out oz);go_wp2;refine bodyPost_ret (Qi rfl _ _ _) rfl ⟨_,by rw [f.out];rfl,by rw [Gh (by rw [f.out];decide)];exact World.ownsRow_nil _ _ _ _,g.out⟩
  ·by_cases d9:d > (b:Int)
   ·have f:=Zh (p.out oz);go_wp2;refine bodyPost_ret (Qi rfl _ _ _) rfl ⟨_,by rw [f.out];rfl,by rw [Gh (by rw [f.out];decide)];exact World.ownsRow_nil _ _ _ _,g.out⟩
   ·obtain⟨c,rfl⟩:∃ c:Nat,d=(c:Int):=⟨d.toNat,by omega⟩;have O:c<N:=by omega
    have e1:(c:Int)<(N:Int):=by omega
    have b0:c<l.length:=by rw [i.out];exact O
    obtain⟨d3,e4,c2,b3,d7,a5⟩:=Zq (V.out.ext g.out) O;simp only [zV,Option.some.injEq,Addr.mk.injEq,and_true,true_and] at b3;obtain⟨⟨rfl,rfl⟩,rfl⟩:=b3;rw [Y1 l b0] at a5;have K:l.getD c 0=l[c]:=by rw [List.getD_eq_getElem?_getD,List.getElem?_eq_getElem b0];rfl
    obtain⟨Q,b7⟩:=zE (l[c]);rw [b7] at a5 K;have U:=Zh K;clear b7 K;by_cases b1:Q=(c:Int)
    ·subst b1;have a9:=k.out.cellAt c oz;rw [show (Y2 (X7 l N b))[c]?=some (.int .i64 (Us l b c:Nat)) by rw [List.getElem?_eq_getElem (by simpa [Y2,X7] using O)];simp [Y2,X7]] at a9;have d8:=k.out.frozenAt c;have c7:=Q6k l b c;have t:=Yc k.out c (.int .i64 ((Us l b c:Nat)+1));rw [<-Cv s c4.out] at t;have F:Ext w (q.setCell ⟨m,c,none⟩ (.int .i64 ((Us l b c:Nat)+1))):=g.out.setCell (.inl (by rw [x.out];exact Nat.le_refl _)) _;have a8:Q1b l (b+1):=by
      intro b8 L;rcases Nat.lt_succ_iff_lt_or_eq.1 L with n | rfl
      ·exact y.out b8 n
      ·rw [T.out];exact⟨by omega,by omega,U.out⟩
     obtain⟨X,a3⟩:=zE (Us l b c);rw [a3] at a9 c7 t F;obtain⟨c3,b9,c0⟩:=Zh3 t F a8;clear t F a8 k g y p a3;go_wp2;exact⟨⟨b+1,by omega,by omega,c3.out,c0.out,b9.out⟩,nz⟩
    ·have f:=Zh (p.out (fun n=>b1 (by rw [<-U.out];exact n.2.2)));go_wp2;refine bodyPost_ret (Qi rfl _ _ _) rfl ⟨_,by rw [f.out];rfl,by rw [Gh (by rw [f.out];decide)];exact World.ownsRow_nil _ _ _ _,g.out⟩
 ·obtain rfl:b=N:=by omega
  have o:¬ (b:Int)<(b:Int):=by omega
  have j:Jc l=0:=Q7x (by rw [i.out];exact G) (by rw [i.out];exact y.out);have b4:(X7 l b b).filter J1=Ky l:=by
   unfold Ky;rw [if_pos j,<-Q0j,i.out];rfl
  have H:=Cn k.out (Sb _ _ _) 74 #[] Q1c (fun d z=>Q56 d z);rw [b4] at H;have R:=Zh H;have f:=Zh j;clear b4 j H k;go_wp2_with fail;refine R.out.mono ?_;rintro e z ⟨u,rfl,v,b6⟩;have c6:Ext w z:=g.out.after b6 (fun c5 o h2=>by simp [Value.ownBlock] at h2;have:=x.out;omega);clear R b6;go_wp2;refine bodyPost_ret (Qi rfl _ _ _) rfl ⟨_,by rw [f.out];rfl,by rw [x.out];exact v,c6⟩
def Qbg(l:List Int)(i:Nat):List Nat:=((List.range i).map (Sv l)).filter fun n=>decide (n≠0)
def Bb(n:Nat)(k:Int):Bool:=decide (k < -1) || decide ((n:Int)<=k)
theorem Q6e{w:World}{B:Nat}{ao:Option Addr}{N cap:Nat}(c:w.cell? ⟨B,0,none⟩=some (.slice ao N cap)) (x:Int) :
  Calls Tryz.prog 116 (#[.int .i64 x]++#[.pointer (some ⟨B,0,none⟩)]) w fun e w'=>e=.returned (.bool (Bb N x))/\Ext w w':=by
 unfold Bb;by_cases a:x < -1
 ·rw [decide_eq_true a];go_enter Tryz.func116,Tryz.ntmps116;go_wp2;go_ret;exact⟨rfl,Q0.refl _ _⟩
 ·rw [decide_eq_false a];by_cases b:(N:Int)<=x
  ·rw [decide_eq_true b];go_enter Tryz.func116,Tryz.ntmps116;go_wp2;go_ret;exact⟨rfl,Q0.refl _ _⟩
  ·rw [decide_eq_false b];go_enter Tryz.func116,Tryz.ntmps116;go_wp2;go_ret;exact⟨rfl,Q0.refl _ _⟩
theorem Sa:∀ args w,(callFunc 116 args).run Tryz.prog w=.ok (.enter 116 args) w:=fun args w=>by simp [go_sem]
theorem M7{w:World}{ao:Option Addr}{N cap:Nat}{sh:List Int}(j:Rd w (.slice ao N cap) N 1 (Qh sh)) (i:sh.length=N) :
  Calls Tryz.prog 75 #[.slice ao N cap] w fun e w'=>e=.returned (.int .i64 (Yi sh))/\Ext w w':=by
 have q:=j.2.1;unfold maxLen at q;have g:Ext w (w.alloc (.cells #[.slice ao N cap] 36)):=(Q0.refl _ w).alloc _;have n:(w.alloc (.cells #[.slice ao N cap] 36)).cell? ⟨w.heap.size,0,none⟩=some (.slice ao N cap):=cell_of_one (new_at rfl);have o:=Bw (j.ext g) i (cap:=cap) 116 #[.pointer (some ⟨w.heap.size,0,none⟩)] Sa (Bb N) (fun x _ V hV=>Q6e (hV.cell_some n id) x);obtain⟨b,c,d⟩:=Zh3 o g i;clear o g j i;by_cases r:N<=64;case neg=>
  have p:(N:Int) > 64:=by omega
  have a:Hid (Yi sh=12):=Zh (by unfold Yi;rw [if_pos (by rw [d.out];omega)]);go_enter Tryz.func75,Tryz.ntmps75;go_wp2;go_ret;exact⟨by rw [a.out];rfl,c.out⟩
 have p:¬ (N:Int) > 64:=by omega
 have a:Hid (Yi sh=if sh.any (Bb N)=true then 3 else 0):=Zh (by unfold Yi;rw [if_neg (by rw [d.out];omega),d.out];rfl);obtain⟨f,m⟩:=zE (sh.any (Bb N));rw [m] at b a;clear m;go_enter Tryz.func75,Tryz.ntmps75;go_wp2_with fail;refine b.out.mono ?_;rintro e s ⟨rfl,l⟩;have k:=Zh (c.out.trans l);clear b c l n;cases f
 ·go_wp2;go_ret;exact⟨by rw [a.out];rfl,k.out⟩
 ·go_wp2;go_ret;exact⟨by rw [a.out];rfl,k.out⟩
def J2(d:List Int):Array Value:=((List.range 64).map fun(j:Nat)=>Value.bool (decide ((j:Int)∈d))).toArray
def isF:Value->Bool
 | .bool false=>true
 | _=>false
def Q0v(w:World)(G:Nat):Nat:=match w.heap[G]? with
 | some (.cells cs _ _)=>(cs.toList.filter isF).length
 | _=>0
def No(d:List Int):Nat:=((List.range 64).filter fun(j:Nat)=>!decide ((j:Int)∈d)).length
theorem Sq{w:World}{G:Nat}{d:List Int}{t:TypeId}{m:Nat × Nat}(h:w.heap[G]?=some (.cells (J2 d) t m)):Q0v w G=No d:=by
 unfold Q0v No J2 at *;rw [h];simp only [List.filter_map,List.length_map]
 congr 2
 funext j
 cases hd:decide ((j:Int)∈d) <;> simp [isF,Function.comp,hd]
theorem Q5b{d:List Int}{m:Nat}(f:m<64)(e:(m:Int) ∉ d):No (d++[(m:Int)])<No d:=by
 unfold No;have a:(List.range 64).filter (fun(j:Nat)=>!decide ((j:Int)∈d++[(m:Int)]))=((List.range 64).filter (fun(j:Nat)=>!decide ((j:Int)∈d))).filter (fun(j:Nat)=>decide (j≠m)):=by
  rw [List.filter_filter]
  congr 1
  funext j
  rw [Bool.eq_iff_iff];simp only [Bool.not_eq_true',decide_eq_false_iff_not,List.mem_append,List.mem_singleton,not_or,Bool.and_eq_true,decide_eq_true_eq];constructor
  ·rintro⟨b,c⟩;exact⟨fun a=>c (by rw [a]),b⟩
  ·rintro⟨b,c⟩;exact⟨c,fun a=>b oz⟩
 rw [a];refine List.length_filter_lt_length_iff_exists.2 ⟨m,List.mem_filter.2 ⟨List.mem_range.2 f,by simp [e]⟩,by simp⟩
theorem Q4i{d:List Int}{m:Nat}(a:m<64):(J2 d)[m]?=some (.bool (decide ((m:Int)∈d))):=by simp [J2,a]
theorem Q2m{d:List Int}{m:Nat}:(J2 d).setIfInBounds m (.bool true)=J2 (d++[(m:Int)]):=by
 apply Array.ext
 ·simp [J2]
 ·intro e c f;rw [Array.getElem_setIfInBounds (by simpa using c)];simp only [J2,List.getElem_toArray,List.getElem_map,List.getElem_range];by_cases a:m=e
  ·subst a;rw [if_pos rfl];simp
  ·rw [if_neg a];congr 1;rw [Bool.eq_iff_iff];simp only [decide_eq_true_eq,List.mem_append,List.mem_singleton];constructor
   ·exact .inl
   ·rintro(b | b)
    ·exact b
    ·exact absurd oz a
theorem Ni{w r:World}{s BS i N cap:Nat}{ao:Option Addr}{sh:List Int}(H:Ext w r)(f0:i<N)(c8:Zp sh)(b2:sh.length=N)(c7:Rd w (.slice ao N cap) N 1 (Qh sh))
  (b6:w.heap[s]?=some (.cells #[.int .i64 i] 3 (0,0))) (b7:w.heap[BS]?=some (.cells #[.slice ao N cap] 36 (0,0))) :
  Kj Tryz.prog 118 #[.pointer (some ⟨s,0,none⟩),.pointer (some ⟨BS,0,none⟩)] (fun _ _=>True) (fun _ _ (x:Int) _ ys=>ys=#[.int .i64 x]) (Qa sh i) (fun b=>b<w.heap.size) r:=by
 intro d2 a6 f5 j R b0 b1 b4 a8;have G:Ext w j:=H.after R (fun b k v=>v k);have K:=G.keep b6;have e6:=cell_of_one K;have f1:s<j.heap.size:=(Array.getElem?_eq_some_iff.1 K).1;show Calls _ _ #[.func (.yield d2) #[] #[],.pointer (some ⟨s,0,none⟩),.pointer (some ⟨BS,0,none⟩)] _ _;obtain⟨u,e2,e5,a1,e3,V,X,f4⟩:=Zh8 c8 c7 b4 b2 R a8 b0 b1;obtain⟨d4,d6,d5⟩:=Zh3 b7 H G;clear c8 c7 b4 b2 R a8 b0 b1 b7 b6 K H G;go_enter Tryz.func118,Tryz.ntmps118;go_wp2;clear e6 f1;obtain⟨c,y⟩:=zE j.heap.size;have d7:=Zh y;have U:J2 []=#[.bool false,.bool false,.bool false,.bool false,.bool false,.bool false,.bool false,.bool false,.bool false,.bool false,.bool false,.bool false,.bool false,.bool false,.bool false,.bool false,.bool false,.bool false,.bool false,.bool false,.bool false,.bool false,.bool false,.bool false,.bool false,.bool false,.bool false,.bool false,.bool false,.bool false,.bool false,.bool false,.bool false,.bool false,.bool false,.bool false,.bool false,.bool false,.bool false,.bool false,.bool false,.bool false,.bool false,.bool false,.bool false,.bool false,.bool false,.bool false,.bool false,.bool false,.bool false,.bool false,.bool false,.bool false,.bool false,.bool false,.bool false,.bool false,.bool false,.bool false,.bool false,.bool false,.bool false,.bool false]:=by kernel_rfl
 have a9:Q0 (fun b=>False/\True) j (j.alloc (.cells (J2 []) 110)):=(Q0.refl _ j).alloc _;have l:a6 (fun b=>b=c) [] (j.alloc (.cells (J2 []) 110)):=X.out (fun _=>False) (fun b=>b=c) [] j _ V.out a9 (fun b q=>by subst q;exact⟨.inr oz,by simp;omega⟩);have B:(j.alloc (.cells (J2 []) 110)).heap[c]?=some (.cells (J2 []) 110 (0,0)):=by rw [<-y];exact new_at rfl
 have S:Q0 (fun b=>¬ b<w.heap.size) r (j.alloc (.cells (J2 []) 110)):=e3.out.alloc _;rw [y];rw [U] at l B S;rw [<-U] at B;obtain⟨Y,W,p⟩:=Zh3 l B S;clear l B S a9 U y
 refine wp_loop (fun a e=>∃(f:List Int) (m:Int),Xr sh i f m/\a.defers=[]/\gS a [0,2,4,5]=(25,[.func (.yield d2) #[] #[],.pointer (some ⟨BS,0,none⟩),.pointer (some ⟨c,0,none⟩),.int .i64 m])/\a6 (fun b=>b=c) f e/\e.heap[c]?=some (.cells (J2 f) 110 (0,0))/\Q0 (fun b=>¬ b<w.heap.size) r e)
  (fun _ e=>Q0v e c) ?_ ?_
 ·exact⟨[],i,Xr.start i (by rw [a1.out];exact f0),rfl,rfl,Y.out,W.out,p.out⟩
 clear Y W p V;rintro⟨g7,_⟩ e ⟨f,m,Q,e8,d0,c0,M,b3⟩;subst e8;obtain⟨g9,rfl⟩:=Qt d0;clear d0;have c3:=Sq M;have g3:=Q.lt;have g2:=u.out.1;obtain⟨F,t,o,a3,e0⟩:=Zh5 Q c0 M b3 c3;clear Q c0 M b3 c3;by_cases c1:0<=m;case neg=>
  have g:=F.out.stop u.out (fun h=>c1 h.1);have E:=Zh g;clear g;go_wp2;go_end0
  refine⟨⟨_,rfl⟩,(fun b=>b=c),.inl ?_⟩;rw [E.out];exact t.out
 obtain⟨d,rfl⟩:∃ d:Nat,m=(d:Int):=⟨m.toNat,by omega⟩;have c2:d<64:=by omega
 have g4:(d:Int)<64:=by omega
 have L:e.cell? ⟨c,d,none⟩=some (.bool (decide ((d:Int)∈f))):=by rw [cell_of_row e c d _ _ _ o.out,Q4i c2]
 have e9:e.frozen? ⟨c,d,none⟩=false:=frozen_of_row e c d _ _ o.out;by_cases g:(d:Int)∈f
 ·rw [decide_eq_true g] at L;have g:=F.out.stop u.out (fun h=>h.2 g);have E:=Zh g;clear g;go_wp2;go_end0
  refine⟨⟨_,rfl⟩,(fun b=>b=c),.inl ?_⟩;rw [E.out];exact t.out
 rw [decide_eq_false g] at L;obtain⟨c5,d3,T⟩:=F.out.more u.out c1 g;have c9:(e.setCell ⟨c,d,none⟩ (.bool true)).heap[c]?=some (.cells (J2 (f++[(d:Int)])) 110 (0,0)):=by
  have k:=o.out;simp only [World.setCell,Array.getElem?_modify,k];simp [Q2m]
 have A:Q0 (fun b=>b=c) e (e.setCell ⟨c,d,none⟩ (.bool true)):=Q0.set1 e c d _;have e7:c<e.heap.size:=(Array.getElem?_eq_some_iff.1 o.out).1;have l:=X.out (fun b=>b=c) (fun b=>b=c) f e _ t.out (A.mono fun b _ h=>⟨h,trivial⟩) (fun b q=>⟨.inl q,by subst q;exact Nat.lt_of_lt_of_le e7 A.size⟩);obtain⟨g1,g8,f6,f7,f3,b5⟩:=e5.out (fun b=>b=c) f (d:Int) d3 _ #[.int .i64 d] T l rfl;obtain⟨a5,a4,a0,a2,p⟩:=Zh5 b5 T c5 c9 A;clear b5 T c5 c9 A l t;go_upto_region 5 with (fail)
 refine(wpIn_wide (n:=0)).1 ?_;gi_wp2;refine a5.out.mono ?_;rintro g0 a7 (⟨rfl,z,C⟩ | ⟨rfl,z,C⟩);case inr=>
  gi_wp2;go_wp2;refine bodyPost_ret (results_none rfl _ _ _) rfl ?_;exact⟨⟨_,rfl⟩,(fun b=>b=c),.inr ⟨f,(d:Int),d3,a4.out,z⟩⟩
 have J:Q0 (fun b=>¬ b<w.heap.size) r a7:=(a3.out.trans (p.out.mono fun b _ h=>by have k:=d5.out.size;have v:=d7.out;omega)).trans (C.mono fun b _ h=>h.1);have I:Ext w a7:=d6.out.after J (fun b k v=>v k);have O:=C.heap a2.out (fun h=>h.2 rfl);have P:=Q5b c2 g;rw [<-Sq O,<-e0.out] at P;have b8:=I.keep d4.out;have f9:=cell_of_one b8;have f2:d<N:=by rw [<-a1.out];omega
 have c4:d<sh.length:=by omega
 have g5:(d:Int)<(N:Int):=by omega
 obtain⟨b,g6,f8,c6,q,b9⟩:=Zq (e2.out.ext I) f2;simp only [zV,true_and] at c6;obtain⟨rfl,rfl⟩:=c6;rw [Y1 sh c4] at b9;have D:=a0.out;rw [show sh.getD (d:Int).toNat (-1)=sh[d] by rw [List.getD_eq_getElem?_getD,Int.toNat_natCast,List.getElem?_eq_getElem c4];rfl] at D;obtain⟨x,d1⟩:=zE (sh[d]);rw [d1] at b9 D;obtain⟨d9,e4,d8,Z,e1⟩:=Zh5 z J O P D;clear z J C I O P D b8 d1 f3 a5 p a2 a4 a0 o a3 L e9;gi_wp2;go_wp2;exact⟨⟨f++[(d:Int)],x,e1.out,by first | trivial | rfl,rfl,d9.out,d8.out,e4.out⟩,by first | exact Z.out | simpa using Z.out⟩
theorem M9:∀ args w,(callFunc 118 args).run Tryz.prog w=.ok (.enter 118 args) w:=fun args w=>by simp [go_sem]
theorem Rb{w:World}{ao:Option Addr}{N cap i:Nat} :
  Calls Tryz.prog 77 #[.slice ao N cap,.int .i64 i] w fun e w'=>e=.returned (.func (.func 118) #[] #[.pointer (some ⟨w.heap.size+1,0,none⟩),.pointer (some ⟨w.heap.size,0,none⟩)])
   /\ w'.heap[w.heap.size+1]?=some (.cells #[.int .i64 i] 3 (0,0))/\w'.heap[w.heap.size]?=some (.cells #[.slice ao N cap] 36 (0,0))/\Ext w w':=by
 go_enter Tryz.func77,Tryz.ntmps77;go_wp2;go_ret;exact⟨by simp,new_at zy,Q7 (new_at rfl),((Q0.refl _ w).alloc _).alloc _⟩
end Go.Proofs.YtejenndedjabhaaGreatDoor
namespace Go.Ab
open Go.RowKit
structure Ym where
 frm:Int
 cl:Nat
 st:Nat × Nat
 tk:Nat
 ofi:Int
structure Q5 where
 name:ByteArray
 left:Pat
 right:Pat
 ifs:Wd
 outs:List Ym
 mode:Int
def Zs(x:Ym):List Value:=[.int .i64 x.frm,.int .u32 (x.cl:Int),.int .u32 (x.st.1:Int),.int .u32 (x.st.2:Int),.int .u32 (x.tk:Int),.int .i64 x.ofi]
def P9(l:List Ym):List Value:=l.flatMap Zs
def Jh(x:Ym):Prop:=x.cl<4294967296/\Qe x.st/\x.tk<4294967296
theorem L5(x:Ym)(l:List Ym):P9 (x::l)=Zs x++P9 l:=rfl
theorem Ce(l:List Ym):(P9 l).length=l.length*6:=by
 induction l with
 | nil=>rfl
 | cons x l ih=>rw [L5,List.length_append,ih];simp [Zs];omega
theorem Bq:∀(l:List Ym) (i j:Nat) (h:i<l.length),j<6->(P9 l)[i*6+j]?=(Zs l[i])[j]?
 | [],i,j,h,_=>by simp at h
 | x::l,0,j,_,hj=>by rw [L5,Nat.zero_mul,Nat.zero_add,List.getElem?_append_left (by simpa [Zs] using hj)];rfl
 | x::l,i+1,j,h,hj=>by
  rw [L5,List.getElem?_append_right (by simp [Zs];omega),show (i+1)*6+j - (Zs x).length=i*6+j by simp [Zs];omega];exact Bq l i j (by simpa using h) hj
def Jf(w:World)(v:Value)(l:List Ym):Prop:=Rd w v l.length 6 (P9 l)/\∀ x∈l,Jh x
theorem Jf.ext{A B:World}{v:Value}{l:List Ym}(h:Jf A v l)(ht:Ext A B):Jf B v l:=⟨h.1.ext ht,h.2⟩
theorem Jf.slice{w:World}{v:Value}{l:List Ym}(h:Jf w v l):∃ ao cap,v=.slice ao l.length cap/\l.length<=maxLen:=by
 obtain⟨⟨_,a,ao,cap,b,_⟩,_⟩:=h;exact⟨ao,cap,b,a⟩
theorem Jf.at{w:World}{v:Value}{l:List Ym}(h:Jf w v l){i:Nat}(b:i<l.length) :
  ∃ g off cap,v=.slice (some ⟨g,off,none⟩) l.length cap/\g<w.heap.size/\Jh l[i]/\w.cell? ⟨g,off+i*6,none⟩=some (.int .i64 l[i].frm)/\w.cell? ⟨g,off+i*6+1,none⟩=some (.int .u32 (l[i].cl:Int))/\w.cell? ⟨g,off+i*6+2,none⟩=some (.int .u32 (l[i].st.1:Int)) /\
   w.cell? ⟨g,off+i*6+3,none⟩=some (.int .u32 (l[i].st.2:Int))/\w.cell? ⟨g,off+i*6+4,none⟩=some (.int .u32 (l[i].tk:Int))/\w.cell? ⟨g,off+i*6+5,none⟩=some (.int .i64 l[i].ofi):=by
 obtain⟨⟨p,q,o,cap,n,d⟩,e⟩:=h;obtain⟨g,off,f,m,k⟩:=d oz
 have a:∀ j,j<6->w.cell? ⟨g,off+i*6+j,none⟩=(Zs l[i])[j]?:=fun j hj=>by
  have c:i*6+j<l.length*6:=by omega
  rw [Nat.add_assoc,k (i*6+j) c,<-Bq l i j b hj,List.getD_eq_getElem?_getD,List.getElem?_eq_getElem (by rw [Ce];exact c)];rfl
 exact⟨g,off,cap,by rw [n,f],m,e _ (List.getElem_mem b),a 0 zd,a 1 zd,a 2 zd,a 3 zd,a 4 zd,a 5 zd⟩
def Ba(name:ByteArray)(lc rc:List Value)(iv ov:Value)(mode:Int):List Value:=.string name::(lc++(rc++[iv,ov,.int .i64 mode]))
def Y7(w:World)(l:Q5)(cs:List Value):Prop:=
 ∃ lc rc iv ov,cs=Ba l.name lc rc iv ov l.mode/\l.name.size<=maxLen/\Qu (fun g=>g<w.heap.size) w l.left lc/\Qu (fun g=>g<w.heap.size) w l.right rc/\Q4 w iv l.ifs/\Jf w ov l.outs
theorem Y7.ext{A B:World}{l:Q5}{cs:List Value}(h:Y7 A l cs)(a:Ext A B):Y7 B l cs:=by
 obtain⟨m,o,k,n,c,d,e,f,i,j⟩:=h;have b:∀ g,g<A.heap.size->g<B.heap.size:=fun g hg=>Nat.lt_of_lt_of_le hg a.size;exact⟨m,o,k,n,c,d,Qu.mono b (e.ext a),Qu.mono b (f.ext a),i.ext a,j.ext a⟩
end Go.Ab
namespace Go.Proofs.YtejenndedjabhaaGreatDoor
open Go.RowKit Go.Ab
attribute [local go_sem] Oper.semAt_some Z6 Qn
def Vt(p:Pat)(ws:Wd):Int:=if Ya p=0 then(if 32<ws.length then 11 else if Xp ws=true then 0 else 14) else Ya p
def K7(p:Pat)(ws:Wd):Qf:=if Vt p ws=0 then Vf ws p else noB
theorem Md{a:Func}{p u:Tmp}(h:a.results=#[.cell p 257,.tmp u]){tmps:Array Value}{w:World}{g:Nat}{f:Nat->Nat}(c:tmps.getD p undef=.pointer (some ⟨g,0,none⟩)) (b:Q8 w g f) :
  (results a tmps).run Tryz.prog w=.ok (.tuple #[.agg (Q3 f),tmps.getD u undef]) w:=by
 have d:tmps[p]?.getD undef=.pointer (some ⟨g,0,none⟩):=by simpa using c
 simp [results,h,d,asAddr,run_loadVar_row w g _ _ _ _ _ b Tryz.underlying257 rfl (Tryz.relInfo f)]
theorem Nm{K:Nat->Prop}{w:World}{p:Pat}{cs:List Value}{v:Value}{ws:Wd}(J:Qu K w p cs)(b0:∀ g,K g->g<w.heap.size)(M:Q4 w v ws)(X:Tab w) :
  Calls Tryz.prog 240 #[.agg cs.toArray,v] w fun e w'=>e=.returned (.tuple #[.agg (Q3 (Q2 (K7 p ws))),.int .i64 (Vt p ws)])/\Ext w w':=by
 have b2:=fun(c:World) (hE:Ext w c)=>La (K:=K) (J.ext hE) (fun g hg=>Nat.lt_of_lt_of_le (b0 g hg) hE.size) (X.keep hE id);have b3:=fun(c:World) (hE:Ext w c)=>M4 p K c cs (J.ext hE);have b1:=fun(c:World) (hE:Ext w c)=>Tc (M.ext hE);have a5:=Zh M;have c2:=Zh X;obtain⟨s,t,rfl,d2,d1,_⟩:=Yx J;obtain⟨d9,d8,rfl,d0⟩:=M.slice;clear J d2 d1 M X b0;obtain⟨S,a2,R⟩:=Zh3 b2 b3 b1;clear b2 b3 b1;obtain⟨r,N⟩:=zE (Ya p);obtain⟨a6,I⟩:=zE (Xp ws);obtain⟨q,H⟩:=zE ws.length;have d:Hid (Vt p ws=if r=0 then(if 32<q then 11 else if a6=true then 0 else 14) else r):=Zh (by unfold Vt;rw [N,I,H]);rw [N] at S;rw [I] at R;rw [H] at R a5 d0 ⊢;obtain⟨c3,d7,c1⟩:=Zh3 N I H;clear N I H;unfold Qg at S a2 ⊢;have e2:=Yu;have e3:=Qo noB;have e4:=Yb noB;go_enter Tryz.func240,Tryz.ntmps240;go_wp2_with fail;obtain⟨a,x⟩:=zE w.heap.size;have a0:((w.alloc (.cells #[.int .i64 p.k,.int .u32 (p.pl:Int),.int .u32 (p.mi:Int),.bool p.nt,.int .i64 p.mn,.int .i64 p.mx,.slice s p.l.length t] 47)).alloc (.cells (Q6 noB) 257)).heap[a]?=some (.cells #[.int .i64 p.k,.int .u32 (p.pl:Int),.int .u32 (p.mi:Int),.bool p.nt,.int .i64 p.mn,.int .i64 p.mx,.slice s p.l.length t] 47 (0,0)):=by
  subst x;exact Q7 (new_at rfl)
 have Z:Q8 ((w.alloc (.cells #[.int .i64 p.k,.int .u32 (p.pl:Int),.int .u32 (p.mi:Int),.bool p.nt,.int .i64 p.mn,.int .i64 p.mx,.slice s p.l.length t] 47)).alloc (.cells (Q6 noB) 257)) (a+1) (Q2 noB):=by
  subst x;exact new_at zy
 have F:Ext w ((w.alloc (.cells #[.int .i64 p.k,.int .u32 (p.pl:Int),.int .u32 (p.mi:Int),.bool p.nt,.int .i64 p.mn,.int .i64 p.mx,.slice s p.l.length t] 47)).alloc (.cells (Q6 noB) 257)):=((Q0.refl _ w).alloc _).alloc _;generalize ((w.alloc (.cells #[.int .i64 p.k,.int .u32 (p.pl:Int),.int .u32 (p.mi:Int),.bool p.nt,.int .i64 p.mn,.int .i64 p.mx,.slice s p.l.length t] 47)).alloc (.cells (Q6 noB) 257))=e1 at a0 Z F ⊢;rw [x];have B:=Zh x;clear x;refine(S.out _ F).mono ?_;rintro e P ⟨rfl,G⟩;have a1:=G.keep a0;have o:=Z.keep G id;have y:=F.trans G;clear F G a0 Z
 have a7:∀(c:World) (C:Int) (A:Array Value) (U:List Deferred),Q8 c (a+1) (Q2 noB)->Ext w c->U=[]->C=Vt p ws->C≠0->A.getD 4 undef=.pointer (some ⟨a+1,0,none⟩)->A.getD 5 undef=.int .i64 C ->
   bodyPost Tryz.prog Tryz.f240 (fun e w'=>e=.returned (.tuple #[.agg (Q3 (Q2 (K7 p ws))),.int .i64 (Vt p ws)])/\Ext w w') .ret { tmps:=A,defers:=U } c:=by
  intro c C A U n u c4 a9 c5 c6 c7;subst c4;refine bodyPost_ret (Md rfl c6 n) rfl ⟨?_,u⟩;have:K7 p ws=noB:=by unfold K7;rw [if_neg (a9 ▸ c5)]
  rw [this,<-a9];show Ending.returned (.tuple #[_,A.getD 5 undef])=_;rw [c7]
 have Q:=Zh a7;clear a7;have T:=zR a1;by_cases O:r=0
 ·rw [if_pos O] at d;subst O;by_cases b4:32<q
  ·rw [if_pos b4] at d;have n:(32:Int)<(q:Int):=by omega
   have m:Q8 (P.setRow (a+1) (Q3 (Q2 noB))) (a+1) (Q2 noB):=setRow_heap _ _ _ _ _ _ o;have i:Ext w (P.setRow (a+1) (Q3 (Q2 noB))):=y.after (Q0.setRow _ _ _) (fun b' n u=>by have:=B.out;omega)
   go_wp2_with (refine wpList_store_row rfl 257 (.tmp 4) (.tmp 18) rfl (a+1) (Q3 (Q2 noB)) rfl rfl _ _ o (Tryz.relInfo _) (by simp only [Q9]) (Qj _) ?_)
   exact Q.out _ 11 _ _ m i rfl d.out.symm oz rfl rfl
  ·rw [if_neg b4] at d;have n:¬ (32:Int)<(q:Int):=by omega
   go_wp2_with fail;refine(R.out _ y).mono ?_;rintro e b9 ⟨rfl,i⟩;have b7:=i.keep a1;have m:=o.keep i id;have D:=y.trans i;clear i a1 o y T;have T:=zR b7;cases a6
   ·have L:Q8 (b9.setRow (a+1) (Q3 (Q2 noB))) (a+1) (Q2 noB):=setRow_heap _ _ _ _ _ _ m;have z:Ext w (b9.setRow (a+1) (Q3 (Q2 noB))):=D.after (Q0.setRow _ _ _) (fun b' n u=>by have:=B.out;omega)
    go_wp2_with (refine wpList_store_row rfl 257 (.tmp 4) (.tmp 22) rfl (a+1) (Q3 (Q2 noB)) rfl rfl _ _ m (Tryz.relInfo _) (by simp only [Q9]) (Qj _) ?_)
    exact Q.out _ 14 _ _ L z rfl d.out.symm oz rfl rfl
   ·have b5:Kf p:=Q8p c3.out;have a4:=Zh b5;clear b5;go_wp2_with fail;refine(a2.out _ D a4.out).mono ?_;rintro e d6 ⟨e0,rfl,W,z⟩;obtain⟨b8,rfl⟩:=Xk W;have d5:=Kb (cmp p) b8;have d4:=Hw (cmp p);have L:=m.keep z id;have E:=D.trans z;have Y:=Bi (cmp p) _ d6 b8 _ ws W (a5.out.ext E) (by rw [c1.out];omega) (c2.out.keep E id);rw [Ww ws p a4.out] at Y;have a3:=Zh Y;clear Y z m D b7 T W;go_wp2_with fail;clear d5 d4;refine a3.out.mono ?_;rintro e c0 ⟨rfl,V⟩;have b6:=L.keep V id;have c8:=E.trans V;have d3:Q8 (c0.setRow (a+1) (Q3 (Q2 (Vf ws p)))) (a+1) (Q2 (Vf ws p)):=setRow_heap _ _ _ _ _ _ b6;have c9:Ext w (c0.setRow (a+1) (Q3 (Q2 (Vf ws p)))):=c8.after (Q0.setRow _ _ _) (fun b' n u=>by have:=B.out;omega);clear a3 L E V
    go_wp2_with (refine wpList_store_row rfl 257 (.tmp 4) (.tmp 26) rfl (a+1) (Q3 (Q2 (Vf ws p))) rfl rfl _ _ b6 (Tryz.relInfo _) (by simp only [Q9]) (Qj _) ?_)
    refine bodyPost_ret (Md rfl rfl d3) rfl ⟨?_,c9⟩;have a8:Vt p ws=0:=d.out;have:K7 p ws=Vf ws p:=by unfold K7;rw [if_pos a8]
    rw [this,a8];rfl
 ·rw [if_neg O] at d;have m:Q8 (P.setRow (a+1) (Q3 (Q2 noB))) (a+1) (Q2 noB):=setRow_heap _ _ _ _ _ _ o;have i:Ext w (P.setRow (a+1) (Q3 (Q2 noB))):=y.after (Q0.setRow _ _ _) (fun b' n u=>by have:=B.out;omega)
  go_wp2_with (refine wpList_store_row rfl 257 (.tmp 4) (.tmp 12) rfl (a+1) (Q3 (Q2 noB)) rfl rfl _ _ o (Tryz.relInfo _) (by simp only [Q9]) (Qj _) ?_)
  exact Q.out _ r _ _ m i rfl d.out.symm O rfl rfl
def exE(n:Nat)(at':Int):Int:=if at'<0\/(n:Int)<at' then 3 else 0
theorem P3(ao:Option Addr)(n cap:Nat)(a:Int)(w:World) :
  Calls Tryz.prog 241 #[.slice ao n cap,.int .i64 a] w fun e w'=>e=.returned (.int .i64 (exE n a))/\w'=w:=by
 by_cases c:a<0
 ·have b:Hid (exE n a=3):=Zh (by unfold exE;rw [if_pos (.inl c)]);go_enter Tryz.func241,Tryz.ntmps241;go_wp2;go_ret;exact⟨by rw [b.out];rfl,rfl⟩
 ·by_cases d:(n:Int)<a
  ·have b:Hid (exE n a=3):=Zh (by unfold exE;rw [if_pos (.inr d)]);go_enter Tryz.func241,Tryz.ntmps241;go_wp2;go_ret;exact⟨by rw [b.out];rfl,rfl⟩
  ·have b:Hid (exE n a=0):=Zh (by unfold exE;rw [if_neg oz]);go_enter Tryz.func241,Tryz.ntmps241;go_wp2;go_ret;exact⟨by rw [b.out];rfl,rfl⟩
theorem Qa4(x n:Nat)(c:x<18446744073709551616):(bits .and .u64 ((x:Int) / 2 ^ n) 1 == 1)=x.testBit n:=by
 have a:((x:Int) / 2 ^ n)=((x / 2 ^ n:Nat):Int):=by simp
 have b:bits .and .u64 ((x / 2 ^ n:Nat):Int) ((1:Nat):Int)=((x / 2 ^ n &&& 1:Nat):Int):=u64_and_nat _ _ (Nat.lt_of_le_of_lt (Nat.div_le_self _ _) c) zd;rw [a,show (1:Int)=((1:Nat):Int) from rfl,b,Nat.and_one_is_mod,Nat.testBit_eq_decide_div_mod_eq,Bool.eq_iff_iff,beq_iff_eq,decide_eq_true_iff];omega
theorem Q9x(R:Qf)(a n:Nat)(b:n<=32):(bits .and .u64 ((Q2 R a:Int) / 2 ^ n) 1 == 1)=R a n:=by
 rw [Qa4 _ _ (by have:=K4 R a;omega),Q72 R oz]
theorem Bl{p:Pat}{ws:Wd}(h:Vt p ws=0):ws.length<=32:=by
 unfold Vt at h;by_cases a:Ya p=0
 ·rw [if_pos a] at h;by_cases b:32<ws.length
  ·rw [if_pos b] at h;cases h
  ·omega
 ·rw [if_neg a] at h;exact absurd h a
def Qbb(p:Pat)(ws:Wd):Bool:=decide (Vt p ws=0) && K7 p ws 0 ws.length
theorem Jt{a:Func}{t u:Tmp}(h:a.results=#[.tmp t,.tmp u])(tmps:Array Value)(P:Program)(w:World) :
  (results a tmps).run P w=.ok (.tuple #[tmps.getD t undef,tmps.getD u undef]) w:=by
 simp [results,h]
def Jp(p:Pat)(ws:Wd)(at':Int):Int:=if Vt p ws=0 then exE ws.length at' else Vt p ws
def Ll(p:Pat)(ws:Wd)(at':Int):List Nat:=if Jp p ws at'=0 then(List.range (ws.length+1)).filter (fun a=>K7 p ws a at'.toNat) else []
def L7(p:Pat)(ws:Wd)(at':Int):List Nat:=if Jp p ws at'=0 then(List.range (ws.length+1)).filter (fun b=>K7 p ws at'.toNat b) else []
def Yt(l:List Nat):List Value:=l.map fun(x:Nat)=>Value.int .i64 (x:Int)
theorem Tryz.infoI:(Tryz.prog.info? 3).map (fun i=>(i.zero,i.size,i.bytes))=some (some (.int .i64 0),1,8):=by kernel_rfl
theorem J4{w:World}{base:Nat}{e:TypeId}{sz n g:Nat}{v:Value}{xs:List Value}(h:w.ownsRow base e sz v n xs)(a:v.ownBlock=some g):∃ cur,w.heap[g]?=some (.cells cur e (0,0)):=by
 rcases h.2 with ⟨rfl,_⟩ | ⟨d,c,cur,rfl,_,b,_⟩
 ·cases a
 ·cases a;exact⟨cur,b⟩
theorem Kd(l:List Nat)(x:Nat):Yt (l++[x])=Yt l++[.int .i64 (x:Int)]:=by simp [Yt]
theorem Q19{K:Nat->Prop}{w:World}{p:Pat}{cs:List Value}{v:Value}{ws:Wd}(G:Qu K w p cs)(N:∀ g,K g->g<w.heap.size)(H:Q4 w v ws)(O:Tab w)(d:Int) :
  Calls Tryz.prog 235 #[.agg cs.toArray,v,.int .i64 d] w fun e w'=>∃ u,e=.returned (.tuple #[u,.int .i64 (Jp p ws d)])/\w'.ownsRow w.heap.size 3 1 u (Ll p ws d).length (Yt (Ll p ws d))/\Ext w w':=by
 have U:=fun(V:World) (m:Ext w V)=>Nm (K:=K) (G.ext m) (fun g hg=>Nat.lt_of_lt_of_le (N g hg) m.size) (H.ext m) (O.keep m id);obtain⟨b2,b7,rfl,a8,a7,_⟩:=Yx G;obtain⟨b5,b4,rfl,a6⟩:=H.slice;clear G a8 a7 H O N;have s:=Zh U;clear U;obtain⟨o,B⟩:=zE (Vt p ws);obtain⟨c,n⟩:=zE (K7 p ws);obtain⟨j,t⟩:=zE ws.length;have l:Hid (Jp p ws d=if o=0 then exE j d else o):=Zh (by unfold Jp;rw [B,t]);have z:Hid (Ll p ws d=if Jp p ws d=0 then(List.range (j+1)).filter (fun a=>c a d.toNat) else []):=Zh (by unfold Ll;rw [n,t])
 have T:o=0->j<=32:=fun h=>by
  subst B;subst t;exact Bl h
 rw [B] at s;rw [n] at s;rw [t] at s a6 ⊢;clear B n t;have Z:=Zh T;clear T;unfold Qg at s ⊢;have a9:=Yu;have b0:=Qo noB;have b1:=Yb noB;go_enter Tryz.func235,Tryz.ntmps235;go_wp2_with fail;refine(s.out _ ((Q0.refl _ w).alloc _)).mono ?_;rintro e k ⟨rfl,M⟩;have L:Ext w k:=Q0.trans ((Q0.refl _ w).alloc _) M;clear M;have C:(k.alloc (.cells (Q6 noB) 257)).heap[k.heap.size]?=some (.cells (Q6 noB) 257 (0,0)):=new_at rfl;have D:Q8 ((k.alloc (.cells (Q6 noB) 257)).setRow k.heap.size (Q3 (Q2 c))) k.heap.size (Q2 c):=setRow_heap _ _ _ _ _ _ C;have A:Ext w ((k.alloc (.cells (Q6 noB) 257)).setRow k.heap.size (Q3 (Q2 c))):=L.trans (((Q0.refl _ k).alloc _).after (Q0.setRow _ _ _) (fun b' J h2=>by omega));go_upto_region 2 with (refine wpList_store_row rfl 257 (.tmp 8) (.tmp 16) rfl k.heap.size (Q3 (Q2 c)) rfl rfl _ _ C (Tryz.relInfo _) (by rw [Qo,Q9]) (Qj _) ?_)
 generalize ((k.alloc (.cells (Q6 noB) 257)).setRow k.heap.size (Q3 (Q2 c)))=d0 at D A ⊢;generalize k.heap.size=I at D ⊢;clear C L a9 b0 b1;by_cases r:o=0
 ·have c8:=Z.out r;rw [if_pos r] at l;subst r;go_wp2_with fail;refine(P3 _ _ _ _ _).mono ?_;rintro e d1 ⟨rfl,rfl⟩;by_cases F:d<0\/(j:Int)<d
  ·have x:exE j d=3:=by unfold exE;rw [if_pos F]
   rw [x] at l ⊢;clear x;go_wp2;refine bodyPost_ret (Jt rfl _ _ _) rfl ⟨_,by rw [l.out];rfl,?_,A⟩;rw [z.out,l.out,if_neg zd];exact World.ownsRow_nil _ _ _ _
  ·have x:exE j d=0:=by unfold exE;rw [if_neg F]
   rw [x] at l ⊢;obtain⟨f,rfl⟩:∃ f:Nat,d=f:=⟨d.toNat,by omega⟩;have Y:Hid (Ll p ws f=(List.range (j+1)).filter (fun a=>c a f)):=Zh (by rw [z.out,l.out];rfl);have c7:f<=j:=by omega
   clear x z F;go_wp2
   go_loopw [10,29] (fun v i wr=>∃ b:Nat,b<=j+1/\i=.int .i64 b/\wr.ownsRow w.heap.size 3 1 v ((List.range b).filter (fun a=>c a f)).length (Yt ((List.range b).filter (fun a=>c a f)))/\Ext w wr/\Q8 wr I (Q2 c)) (fun _ i _=>j+1 - (intOf i).toNat)
   case atStart=>exact⟨0,Nat.zero_le _,rfl,World.ownsRow_nil _ _ _ _,A,D⟩
   case round=>
    obtain⟨b,b9,rfl,q,m,n⟩:=hrel;by_cases c6:b<j+1
    ·have a1:=n.cell (a:=b) oz;have c0:=K4 c b;have J:(b:Int)<(j:Int)+1:=by omega
     have S:(List.range (b+1)).filter (fun a=>c a f)=(List.range b).filter (fun a=>c a f)++if c b f then [b] else []:=by
      rw [List.range_succ,List.filter_append];cases hq:c b f <;> simp [hq]
     have Q:=Q9x c b f oz;have y:=Zh S;have c1:((List.range b).filter (fun a=>c a f)).length<=33:=by
      have:=List.length_filter_le (fun a=>c a f) (List.range b);simp at this;omega
     clear S;cases hq:c b f
     ·rw [hq] at Q y;have a0:=Zh hq;clear hq;go_wp2
      go_roundw
      case rel=>exact⟨b+1,by omega,by go_num,by rw [y.out];simpa using q,m,n⟩
      case measure=>simp [intOf];omega
     ·rw [hq] at Q y;have a0:=Zh hq;clear hq
      go_wp2_with (at_builtin;refine Zv rfl (.tmp 39) (.tmp 41) 36 rfl w.heap.size 3 _ 1 8 Tryz.underlying36 Tryz.infoI rfl zd _ _ _ rfl (Qb q ((Q0.refl _ wr).alloc _)) ⟨wr.heap.size,0,none⟩ 1 1 [.int .i64 b] rfl rfl (Zy rfl) ?c2 ?c3 ?c4 ?c5 ?_)
      case c2=>first | rfl | (intro u W;simp at W;rcases W with rfl;rfl)
      case c3=>unfold maxLen;omega
      case c4=>omega
      case c5=>have:=m.size;simp;omega
      intro b3 b6 X a4 P _;have E:Q0 (fun b'=>u10.ownBlock=some b') wr X:=Q0.trans (Q0.alloc (Q0.refl _ wr) _) P;have a3:Ext w X:=m.after E (fun b' J e=>by have:=(q.lt _ e).1;omega);have a5:=n.keep E (fun e=>by obtain⟨b8,R⟩:=J4 q e;have a2:wr.heap[I]?=_:=n;rw [a2] at R;cases R);clear P E q m a1;go_wp2
      go_roundw
      case rel=>
       refine⟨b+1,by omega,by go_num,?_,a3,a5⟩;rw [y.out,if_pos tz,Kd,List.length_append];exact a4
      case measure=>simp [intOf];omega
    ·obtain rfl:b=j+1:=by omega
     go_wp2;refine bodyPost_ret (Jt rfl _ _ _) rfl ⟨_,by rw [l.out];rfl,?_,m⟩;rw [Y.out];exact q
 ·have c9:(o == 0)=false:=by rw [beq_eq_false_iff_ne];exact r
  rw [if_neg r] at l;go_wp2;refine bodyPost_ret (Jt rfl _ _ _) rfl ⟨_,by rw [l.out];rfl,?_,A⟩;rw [z.out,l.out,if_neg r];exact World.ownsRow_nil _ _ _ _
theorem Q0p{w:World}{bx v:Nat}(a9:v<18446744073709551616)(a4:bx≠3)(j:U0 w bx v)(O:Tab w)(b6:(evs v).length<=64) :
  Calls Tryz.prog 117 #[.slice none 0 0,.func (.func 245) #[] #[.pointer (some ⟨bx,0,none⟩)]] w fun e w'=>∃ u,e=.returned u/\w'.ownsRow w.heap.size 3 1 u (evs v).length (Yt (evs v))/\Q0 (·=bx) w w':=by
 refine Zr Tryz.func117 rfl ?_;simp only [Tryz.ntmps117,zS,Nat.reduceAdd,Nat.reduceSub];go_wp2;obtain⟨a,p⟩:=zE w.heap.size;have b5:bx<a:=by rw [<-p];exact(Array.getElem?_eq_some_iff.1 j).1
 have b9:3<a:=by rw [<-p];exact Q4m O
 have C:(w.alloc (.cells #[.slice none 0 0] 36)).heap[a]?=some (.cells #[.slice none 0 0] 36 (0,0)):=new_at p.symm;have y:Ext w (w.alloc (.cells #[.slice none 0 0] 36)):=(Q0.refl _ w).alloc _;have a7:(w.alloc (.cells #[.slice none 0 0] 36)).heap.size=a+1:=by rw [<-p];simp
 generalize (w.alloc (.cells #[.slice none 0 0] 36))=G at C y a7 ⊢;have T:U0 G bx v:=y.keep j;have P:=O.keep y id;rw [p];have x:=Zh p;clear p
 refine Tf (xs:=evs v) (S:=(·=bx)) (K:=fun b'=>b'=bx\/b'=3) rfl (enters_of Tryz.func245 kz rfl)
  (Be _ a9 bx a4 G T P) (fun _ i=>.inl i) (fun b' i=>by omega) (fun _=>rfl)
  (fun d f=>∃ u,f.heap[a]?=some (.cells #[u] 36 (0,0))/\f.ownsRow a 3 1 u d.length (Yt d)/\(∀ c,u.ownBlock=some c->c≠a/\c≠a+1/\c≠a+2)/\Q0 (·=bx) w f)
  (fun _ _ _=>False) ?hI ?hIx ?h0 (fun q t=>(t.setIfInBounds 7 (.int .i64 q)).setIfInBounds 5 (.int .i64 q)) ?assign ?body ?done ?stop
 case hI=>
  rintro d Z a0 ⟨u,k,g,n,s⟩ a8;have r:Q0 (fun b=>b=bx\/b=a+2) Z a0:=a8.mono (fun b _ i=>by omega);exact⟨u,r.heap k oz,Qd g r (fun b j e=>by have:=n b j;have:=(g.lt _ j).1;omega),n,s.after r (fun b' h1 h2=>by have:=x.out;omega)⟩
 case hIx=>exact fun _ _ _ _ i _=>i
 case h0=>
  intro f R _;exact⟨.slice none 0 0,R.keep C,World.ownsRow_nil _ _ _ _,(fun c B=>by cases B),Ext.of (Q0.trans y R)⟩
 case assign=>
  intro q f K a3;gi_wp2;exact a3
 case body=>
  rintro d q c0 f F b8 r ⟨u,k,g,n,s⟩;simp only [pq];have b7:d.length<64:=by
   have:=congrArg List.length F;simp at this;omega
  have H:=cell_of_one k;have a1:=free_of_one k;have b3:a<f.heap.size:=(Array.getElem?_eq_some_iff.1 k).1;have b4:=Zh F;clear F;refine wpIn_block ?_;refine Uk kz (by rintro⟨_,_,i⟩;exact i) ?_;have Y:=Zh k;clear k
  go_wp2_with (at_builtin;refine Zv rfl (.tmp 8) (.tmp 10) 36 rfl a 3 _ 1 8 Tryz.underlying36 Tryz.infoI rfl zd _ _ _ rfl (Qb g ((Q0.refl _ f).alloc _)) ⟨f.heap.size,0,none⟩ 1 1 [.int .i64 q] rfl rfl (Zy rfl) ?c2 ?c3 ?c4 ?c5 ?_)
  case c2=>first | rfl | (intro u V;simp at V;rcases V with rfl;rfl)
  case c3=>unfold maxLen;omega
  case c4=>omega
  case c5=>simp;omega
  intro l m o N Q I;have z:Q0 (fun b'=>u.ownBlock=some b') f o:=Q0.trans (Q0.alloc (Q0.refl _ f) _) Q;have D:=z.heap Y.out (fun e=>(n _ e).1 rfl);have J:Q0 (·=bx) w o:=s.after z (fun b' h1 e=>by have:=(g.lt _ e).1;have:=x.out;omega);have E:∀ c,(Value.slice l (d.length+1) m).ownBlock=some c->c≠a/\c≠a+1/\c≠a+2:=by
   intro c B;rcases I with e | e
   ·exact n c (e ▸ B)
   ·rw [B] at e;cases e;omega
  have b0:=cell_of_one D;have b2:=free_of_one D;have A:=Q0.set1 o a 0 (.slice l (d.length+1) m);have M:(o.setCell ⟨a,0,none⟩ (.slice l (d.length+1) m)).heap[a]?=some (.cells #[.slice l (d.length+1) m] 36 (0,0)):=by
   simp only [World.setCell,Array.getElem?_modify,D];simp
  have L:Q0 (fun b=>¬ ((b=bx\/b=3)\/b=a+1\/b=a+1+1)) f (o.setCell ⟨a,0,none⟩ (.slice l (d.length+1) m)):=
   (z.mono (fun b' _ e=>by have:=n _ e;have:=(g.lt _ e).1;omega)).trans (A.mono (fun b' _ e=>by omega))
  have U:∃ u,(o.setCell ⟨a,0,none⟩ (.slice l (d.length+1) m)).heap[a]?=some (.cells #[u] 36 (0,0))/\(o.setCell ⟨a,0,none⟩ (.slice l (d.length+1) m)).ownsRow a 3 1 u (d++[q]).length (Yt (d++[q]))/\(∀ c,u.ownBlock=some c->c≠a/\c≠a+1/\c≠a+2)/\Q0 (·=bx) w (o.setCell ⟨a,0,none⟩ (.slice l (d.length+1) m)):=by
   refine⟨_,M,?_,E,J.after A (fun b h1 h2=>by have:=x.out;omega)⟩;rw [Kd,List.length_append];exact Qd N A (fun b j e=>(E b j).1 e)
  have X:=Zh L;have W:=Zh U;clear L U M A E J z Q N I H a1 g n s r;go_wp2;exact⟨X.out,W.out⟩
 case done=>
  rintro f ⟨u,k,g,n,s⟩ r a2;have H:=cell_of_one k;clear y T P C;go_wp2;have a6:Qz a ({ target:=.collected G.heap.size,args:=#[] }::[]) f:=Qz.cons (base:=a) trivial oz a2 (fun e he=>by cases he);refine Jq a6 (fun w'=>results_tmp rfl _ _ _) (fun w' ht' hs=>⟨u,rfl,?_,?_⟩)
  ·rw [x.out];exact Qd g ht' (fun b j e=>by obtain⟨b1,a5⟩:=J4 g j;exact Shut.not a5 rfl e)
  ·exact s.after ht' (fun b' h2 h3=>by have:=h3.1;have:=x.out;omega)
 case stop=>exact fun _ _ _ _ _ _ i=>i.elim
theorem Cw{w:World}{bx v:Nat}(i:v<18446744073709551616)(f:bx≠3)(d:U0 w bx v)(c:Tab w)(g:(evs v).length<=64) :
  Calls Tryz.prog 76 #[.func (.func 245) #[] #[.pointer (some ⟨bx,0,none⟩)]] w fun e w'=>∃ u,e=.returned u/\w'.ownsRow w.heap.size 3 1 u (evs v).length (Yt (evs v))/\Q0 (·=bx) w w':=by
 go_enter Tryz.func76,Tryz.ntmps76;go_wp2_with fail;refine(Q0p i f d c g).mono ?_;rintro e j ⟨u,rfl,a,b⟩;go_wp2;go_ret;exact⟨_,rfl,a,b⟩
theorem Et(R:Qf)(a:Nat):evs (Q2 R a)=(List.range 33).filter (R a):=Mv R a
theorem Q1t{R:Qf}{a n:Nat}(g:n<=32)(e:∀ b,R a b=true->b<=n):(List.range 33).filter (R a)=(List.range (n+1)).filter (fun b=>R a b):=by
 have c:List.range 33=List.range (n+1)++(List.range (32 - n)).map (n+1+·):=by
  rw [<-List.range_add,show n+1+(32 - n)=33 by omega]
 rw [c,List.filter_append];have:((List.range (32 - n)).map (n+1+·)).filter (R a)=[]:=by
  rw [List.filter_eq_nil_iff];intro j f d;obtain⟨i,_,rfl⟩:=List.mem_map.1 f;have:=e _ d;omega
 rw [this,List.append_nil]
theorem Q58{K:Nat->Prop}{w:World}{p:Pat}{cs:List Value}{v:Value}{ws:Wd}(F:Qu K w p cs)(L:∀ g,K g->g<w.heap.size)(G:Q4 w v ws)(D:Tab w)(c:Int) :
  Calls Tryz.prog 236 #[.agg cs.toArray,v,.int .i64 c] w fun e w'=>∃ u,e=.returned (.tuple #[u,.int .i64 (Jp p ws c)])/\w'.ownsRow w.heap.size 3 1 u (L7 p ws c).length (Yt (L7 p ws c))/\Ext w w':=by
 have x:Qy ws.length (K7 p ws):=by
  unfold K7
  split
  ·exact Kr ws p
  ·exact Qy.no _
 have H:=Zh D;have P:=fun(V:World) (hE:Ext w V)=>Nm (K:=K) (F.ext hE) (fun g hg=>Nat.lt_of_lt_of_le (L g hg) hE.size) (G.ext hE) (D.keep hE id);obtain⟨a7,b1,rfl,a1,a0,_⟩:=Yx F;obtain⟨a9,a8,rfl,Z⟩:=G.slice;clear F a1 a0 G D L;have n:=Zh P;clear P;obtain⟨l,y⟩:=zE (Vt p ws);obtain⟨b,A⟩:=zE (K7 p ws);obtain⟨i,q⟩:=zE ws.length;have j:Hid (Jp p ws c=if l=0 then exE i c else l):=Zh (by unfold Jp;rw [y,q]);have s:Hid (L7 p ws c=if Jp p ws c=0 then(List.range (i+1)).filter (fun k=>b c.toNat k) else []):=Zh (by unfold L7;rw [A,q])
 have O:l=0->i<=32:=fun h=>by
  subst y;subst q;exact Bl h
 rw [y] at n;rw [A] at n x;rw [q] at n Z x ⊢;have T:=Zh x;clear x;clear y A q;have U:=Zh O;clear O;unfold Qg at n ⊢;have a4:=Yu;have a5:=Qo noB;have a6:=Yb noB;go_enter Tryz.func236,Tryz.ntmps236;go_wp2_with fail;refine(n.out _ ((Q0.refl _ w).alloc _)).mono ?_;rintro e f ⟨rfl,J⟩;have I:Ext w f:=Q0.trans ((Q0.refl _ w).alloc _) J;clear J;have B:(f.alloc (.cells (Q6 noB) 257)).heap[f.heap.size]?=some (.cells (Q6 noB) 257 (0,0)):=new_at rfl;have C:Q8 ((f.alloc (.cells (Q6 noB) 257)).setRow f.heap.size (Q3 (Q2 b))) f.heap.size (Q2 b):=setRow_heap _ _ _ _ _ _ B;have o:Ext w ((f.alloc (.cells (Q6 noB) 257)).setRow f.heap.size (Q3 (Q2 b))):=I.trans (((Q0.refl _ f).alloc _).after (Q0.setRow _ _ _) (fun b' h1 h2=>by omega));go_upto_region 2 with (refine wpList_store_row rfl 257 (.tmp 8) (.tmp 14) rfl f.heap.size (Q3 (Q2 b)) rfl rfl _ _ B (Tryz.relInfo _) (by rw [Qo,Q9]) (Qj _) ?_)
 generalize ((f.alloc (.cells (Q6 noB) 257)).setRow f.heap.size (Q3 (Q2 b)))=b7 at C o ⊢;generalize f.heap.size=k at C ⊢;clear B I a4 a5 a6;by_cases m:l=0
 ·have a2:=U.out m;rw [if_pos m] at j;subst m;go_wp2_with fail;refine(P3 _ _ _ _ _).mono ?_;rintro e R ⟨rfl,rfl⟩;by_cases E:c<0\/(i:Int)<c
  ·have r:exE i c=3:=by unfold exE;rw [if_pos E]
   rw [r] at j ⊢;clear r;go_wp2;refine bodyPost_ret (Jt rfl _ _ _) rfl ⟨_,by rw [j.out];rfl,?_,o⟩;rw [s.out,j.out,if_neg zd];exact World.ownsRow_nil _ _ _ _
  ·have r:exE i c=0:=by unfold exE;rw [if_neg E]
   rw [r] at j ⊢;obtain⟨d,rfl⟩:∃ d:Nat,c=d:=⟨c.toNat,by omega⟩;have S:Hid (L7 p ws d=(List.range (i+1)).filter (fun k=>b d k)):=Zh (by rw [s.out,j.out];rfl);have b4:d<=i:=by omega
   have b0:=C.cell (a:=d) oz;have b3:=K4 b d;have Q:(List.range 33).filter (b d)=(List.range (i+1)).filter (fun k=>b d k):=Q1t a2 (fun k hb=>(T.out d k hb).2);have W:=Zh Q;clear r s E Q
   go_wp2_with (go_at_call 242;refine(Ex _ _).mono ?_;rintro e w' ⟨rfl,rfl⟩)
   have b2:=Q4m H.out;have b5:=o.size;have t:Ext w (R.alloc (.cells #[.int .u64 (Q2 b d:Int)] 255)):=Q0.alloc o _;have N:(evs (Q2 b d)).length<=64:=by
    rw [Et];have:=List.length_filter_le (b d) (List.range 33);simp at this;omega
   refine(Cw (v:=Q2 b d) (bx:=R.heap.size) oz oz (new_at rfl) (H.out.keep t id) N).mono ?_;rintro e a3 ⟨u,rfl,z,M⟩;rw [Et,W.out,<-S.out] at z;have X:Ext w a3:=t.after M (fun b' h1 h2=>by omega);have Y:=Jj z t.size;clear z M t N;go_wp2;exact bodyPost_ret (Jt rfl _ _ _) rfl ⟨_,by rw [j.out];rfl,Y,X⟩
 ·have b6:(l == 0)=false:=by rw [beq_eq_false_iff_ne];exact m
  rw [if_neg m] at j;go_wp2;refine bodyPost_ret (Jt rfl _ _ _) rfl ⟨_,by rw [j.out];rfl,?_,o⟩;rw [s.out,j.out,if_neg m];exact World.ownsRow_nil _ _ _ _
theorem P6{l:List Int}{i:Nat}(h:i<l.length)(z:Int):l.getD i z=l[i]:=by rw [List.getD_eq_getElem?_getD,List.getElem?_eq_getElem h];rfl
structure K0 (sh:List Int) (i:Nat) (d:List Int) (k:Int):Prop where
 pre:Jw sh d
 lo:0<=k
 lt:k<(sh.length:Int)
 way:Qa sh i=V8 sh (65 - d.length) k d
theorem K0.start{sh:List Int}(hs:Zp sh)(i:Nat)(hi:i<sh.length):K0 sh i [] (i:Int):=
 ⟨⟨List.nodup_nil,fun _ h=>by cases h⟩,by omega,by omega,Lj (fun k hk=>(hs.2 k hk).1) _ _ _ oz⟩
theorem K0.more{sh d:List Int}{i:Nat}{k:Int}(e:Zp sh)(h:K0 sh i d k)(c:k ∉ d):K0 sh i (d++[k]) (if sh.getD k.toNat (-1)≠-1/\sh.getD k.toNat (-1)≠k then sh.getD k.toNat (-1) else k):=by
 have n:=h.pre.le;have g:=e.1;have a:=h.way;have j:=Kq e k.toNat;have l:=h.lo;have m:=h.lt;obtain⟨b,f⟩:∃ b,65 - d.length=b+1:=⟨64 - d.length,by omega⟩;rw [f] at a;unfold V8 at a;rw [if_pos c] at a;refine⟨h.pre.snoc h.lo h.lt c,?_,?_,?_⟩
 ·split <;> omega
 ·split <;> omega
 ·rw [a,List.length_append,List.length_singleton];have:65 - (d.length+1)=b:=by omega
  rw [this]
theorem K0.stop{sh d:List Int}{i:Nat}{k:Int}(f:Zp sh)(h:K0 sh i d k)(c:k∈d):Qa sh i=d:=by
 have j:=h.pre.le;have g:=f.1;have a:=h.way;obtain⟨b,e⟩:∃ b,65 - d.length=b+1:=⟨64 - d.length,by omega⟩;rw [e] at a;unfold V8 at a;rw [if_neg (fun h=>h c)] at a;exact a
def Qbe:Value->Nat
 | .slice _ n _=>n
 | _=>0
theorem M1(l:List Int)(x:Int):Qh (l++[x])=Qh l++[.int .i64 x]:=by simp [Qh]
theorem Tx:(Tryz.prog.info? 36).map (fun i=>(i.zero,i.size,i.bytes))=some (some (.slice none 0 0),1,24):=by kernel_rfl
def Y5(X:Nat)(W:World)(v:Value)(L:List (List Int)):Prop:=∃ vs,W.ownsRow X 36 1 v L.length vs/\vs.length=L.length/\∀ i (h:i<L.length),∃ ao c,vs.getD i undef=.slice ao L[i].length c/\W.ownsRow X 3 1 (.slice ao L[i].length c) L[i].length (Qh L[i])
def Sk(w:World)(v:Value)(L:List (List Int)):Prop:=∃ vs,Rd w v L.length 1 vs/\∀ i (h:i<L.length),∃ ao c,vs.getD i undef=.slice ao L[i].length c/\Rd w (.slice ao L[i].length c) L[i].length 1 (Qh L[i])
theorem Sk.ext{A B:World}{v:Value}{L:List (List Int)} (h:Sk A v L) (a:Ext A B):Sk B v L:=by
 obtain⟨j,d,e⟩:=h;refine⟨j,d.ext a,fun i hi=>?_⟩;obtain⟨b,c,f,g⟩:=e i hi;exact⟨b,c,f,g.ext a⟩
theorem Y5.rd{X:Nat}{W:World}{v:Value}{L:List (List Int)} (h:Y5 X W v L):Sk W v L:=by
 obtain⟨g,c,_,d⟩:=h;refine⟨g,Rd.of_own c,fun i hi=>?_⟩;obtain⟨a,b,e,f⟩:=d i hi;exact⟨a,b,e,Rd.of_own f⟩
theorem Y5.nil(X:Nat)(W:World):Y5 X W (.slice none 0 0) []:=⟨[],World.ownsRow_nil _ _ _ _,rfl,fun i hi=>by cases hi⟩
theorem Y5.ext{X:Nat}{A B:World}{v:Value}{L:List (List Int)} (h:Y5 X A v L) (a:Ext A B):Y5 X B v L:=by
 obtain⟨k,d,f,e⟩:=h;refine⟨k,Qb d a,f,fun i hi=>?_⟩;obtain⟨b,c,g,j⟩:=e i hi;exact⟨b,c,g,Qb j a⟩
theorem Y5.slice{X:Nat}{W:World}{v:Value}{L:List (List Int)} (h:Y5 X W v L):∃ ao c,v=.slice ao L.length c:=by
 obtain⟨b,a,_⟩:=h;exact Qk a
theorem Y5.lt{X:Nat}{W:World}{v:Value}{L:List (List Int)} (h:Y5 X W v L):∀ g,v.ownBlock=some g->X<=g:=by
 obtain⟨b,a,_⟩:=h;exact fun g hg=>(a.lt g hg).1
theorem Y5.push{X:Nat}{V k:World}{v p:Value}{L:List (List Int)} {x:List Int} {vo:Option Addr} {vc:Nat} {vs:List Value} (q:V.ownsRow X 36 1 v L.length vs) (e:vs.length=L.length) (r:∀ i (h:i<L.length),∃ ao c,vs.getD i undef=.slice ao L[i].length c/\V.ownsRow X 3 1 (.slice ao L[i].length c) L[i].length (Qh L[i]))
  (o:V.ownsRow X 3 1 (.slice vo x.length vc) x.length (Qh x)) (s:k.ownsRow X 36 1 p (L.length+1) (vs++[.slice vo x.length vc])) (l:Q0 (fun b=>v.ownBlock=some b) V k):Y5 X k p (L++[x]):=by
 have m:∀ {u:Value} {n:Nat} {xs:List Value},V.ownsRow X 3 1 u n xs->∀ g,u.ownBlock=some g->¬ v.ownBlock=some g:=fun hu g hg d=>by
  obtain⟨w,j⟩:=Vx hu hg;obtain⟨y,a⟩:=Vx q d;rw [j] at a;simp only [Option.some.injEq,Obj.cells.injEq] at a;exact absurd a.2.1 zd
 refine⟨vs++[.slice vo x.length vc],by rw [List.length_append];exact s,by simp [e],fun i hi=>?_⟩;by_cases f:i<L.length
 ·obtain⟨ao,c,j,a⟩:=r i f;rw [List.getElem_append_left f];refine⟨ao,c,?_,Qd a l (m a)⟩;rw [List.getD_eq_getElem?_getD,List.getElem?_append_left (by rw [e];exact f),<-List.getD_eq_getElem?_getD,j]
 ·have t:i=L.length:=by simp at hi;omega
  subst t;have d:(L++[x])[L.length]'hi=x:=by simp
  rw [d];refine⟨vo,vc,?_,Qd o l (m o)⟩;rw [List.getD_eq_getElem?_getD,<-e,List.getElem?_append_right (Nat.le_refl _)];simp
theorem Q9e(b o j:Nat):(⟨b,o,none⟩:Addr).add j=⟨b,o+j,none⟩:=by
 unfold Addr.add;split
 ·rename_i a;subst a;rfl
 ·simp
section
variable {P:Program} {w:World}
theorem V5{ops:Array Oper}{rest:List Oper}{o:Oper}{a:Act}{Q:Exit->Act->World->Prop}(r:o.guard=none)(s x:Operand)(t:TypeId)
  (C:o.op=.call { callee:=.builtin .append,args:=#[s,x],argTypes:=#[t,t] })
  (base:Nat) (e:TypeId) (z:Value) (size g:Nat) (l:P.underlying t=some (.slice e)) (B:(P.info? e).map (fun i=>(i.zero,i.size,i.bytes))=some (some z,size,g))
  (Y:z.cells.size=size) (X:0<size)
  (v:Value) (n:Nat) (xs:List Value) (D:a.eval s=v) (f:w.ownsRow base e size v n xs)
  (A:Option Addr) (m c:Nat) (d:List Value) (F:a.eval x=.slice A m c) (V:Rd w (.slice A m c) m size d) (M:∀ u∈d,u.oneCell'=true)
  (N:n+m<=maxLen) (R:(n+m)*g<=140737488355328) (O:base<=w.heap.size)
  (h:∀ ao c' w',w'.ownsRow base e size (.slice ao (n+m) c') (n+m) (xs++d)->Q0 (fun b=>v.ownBlock=some b) w w'->((Value.slice ao (n+m) c').ownBlock=v.ownBlock\/(Value.slice ao (n+m) c').ownBlock=some w.heap.size)->wpList P ops Q rest (a.put o.dst (.slice ao (n+m) c')) w'):wpList P ops Q (o::rest) a w:=by
 obtain⟨q,_,ao,I,E,G⟩:=V;simp only [zV,true_and] at E;obtain⟨rfl,rfl⟩:=E;rcases A with _ | H
 ·have k:m=0:=by
   apply Nat.le_antisymm _ (Nat.zero_le _);apply Nat.le_of_not_lt;intro L;obtain⟨_,_,p,_⟩:=G L;cases p
  subst k;obtain rfl:d=[]:=List.eq_nil_of_length_eq_zero (by simpa using q);obtain⟨i,y,a2,a1,a0⟩:=info_parts B;have W:(Builtin.append_ #[t,t] o.type #[v,.slice none 0 c]).run P w=.ok v w:=by
   rcases f.2 with ⟨rfl,rfl⟩ | ⟨J,I,Z,rfl,_,_,U,_⟩
   ·simp [Builtin.append_,run_underlying l,sizeOf,typeInfo,y,Builtin.lenOf,Builtin.firstCells]
   ·simp [Builtin.append_,run_underlying l,sizeOf,typeInfo,y,Builtin.lenOf,Builtin.firstCells,U,storeCells]
  refine wpList_plain r fun K hK=>?_
  unfold Oper.wp execOp;simp only [C,resolve,invoke,builtin,Sem.run_bind,Sem.run_pure,Result.andThen_ok,List.map_toArray,List.map_cons,List.map_nil,D,F,W];obtain⟨ao,c',rfl⟩:=Qk f;exact hK _ _ (h ao c' w (by simpa using f) (Q0.refl _ _) (.inl rfl))
 ·refine Zv r s x t C base e z size g l B Y X v n xs D f H m c d F q (fun j u hj=>?_) M N R O h;have T:j<m*size:=by rw [<-q];exact(List.getElem?_eq_some_iff.1 hj).1
  have k:0<m:=by
   apply Nat.pos_of_ne_zero;rintro rfl;omega
  obtain⟨J,a3,p,_,S⟩:=G k;cases p;rw [Q9e,S j T,List.getD_eq_getElem?_getD,hj];rfl
end
theorem Bv(w:Wd):∀ u∈Ql w,u.oneCell'=true:=by
 intro u a;obtain⟨b,_,a⟩:=List.mem_flatMap.1 a;simp only [List.mem_cons,List.not_mem_nil,or_false] at a;rcases a with rfl | rfl <;> rfl
theorem Ki:(Tryz.prog.info? 26).map (fun i=>(i.zero,i.size,i.bytes))=some (some (.agg #[.int .u32 0,.int .u32 0]),2,8):=by kernel_rfl
theorem Q6r(n:Nat)(s:n<=100000)(w:World) :
  Calls Tryz.prog 91 #[.slice none 0 0,.int .i64 n] w fun e w'=>∃ ao c,e=.returned (.slice ao 0 c)/\w'.ownsRow w.heap.size 26 2 (.slice ao 0 c) 0 []/\Ext w w':=by
 by_cases m:n=0
 ·subst m;go_enter Tryz.func91,Tryz.ntmps91;go_wp2;go_ret;exact⟨_,_,rfl,World.ownsRow_nil _ _ _ _,Q0.refl _ _⟩
 ·obtain⟨r,i,k,p,f⟩:=info_parts (@Ki);have b:=Lib.run_append_nil_zeros (P:=Tryz.prog) w 23 3 23 26 r (.agg #[.int .u32 0,.int .u32 0]) .i64 .i64 Tryz.underlying23 Tryz.underlying3 i k n oz oz oz (by rw [f];omega);have o:=grownCap_ge w n 0 26;have j:=grownCap_le_maxLen w n 0 26 (by unfold maxLen;omega);obtain⟨c,g⟩:=zE (grownCap w n 0 26);rw [g] at b o j;obtain⟨a,d⟩:=zE (Builtin.zeroCells (Value.agg #[.int .u32 0,.int .u32 0]).cells n++Builtin.zeroCells (Value.agg #[.int .u32 0,.int .u32 0]).cells (c - n));have q:a.size=c*2:=by
   rw [<-d,Array.size_append,size_zeroCells,size_zeroCells];show n*2+(c - n)*2=c*2;omega
  rw [d] at b;have t:(0:Int)<(n:Int):=by omega
  have l:=Zh b;clear b d g i k p f;go_enter Tryz.func91,Tryz.ntmps91
  go_wp2_with (at_builtin;refine Lib.wpList_append_run _ rfl (.tmp 20) (.tmp 21) _ _ rfl (.slice none 0 0) (.int .i64 n) rfl rfl _ _ l.out ?_)
  go_ret;exact⟨_,_,rfl,⟨by simp,.inr ⟨w.heap.size,c,a,rfl,Nat.le_refl _,new_at zy,by omega,j,q,by simp⟩⟩,((Q0.refl _ w).drew).alloc _⟩
def Xn(us:List Wd)(k:Nat):Wd:=(us.take k).flatten
theorem Rk{us:List Wd}{k:Nat}(h:k<us.length):Xn us (k+1)=Xn us k++us[k]:=by
 unfold Xn;rw [List.take_succ_eq_append_getElem h,List.flatten_append];simp
theorem Bc{us:List Wd}{k:Nat}(h:us.length<=k):Xn us k=us.flatten:=by unfold Xn;rw [List.take_of_length_le h]
theorem Q07{us:List Wd}(k:Nat):(Xn us k).length<=us.flatten.length:=by
 unfold Xn;conv=>rhs;rw [<-List.take_append_drop k us,List.flatten_append,List.length_append]
 omega
theorem Dg{w:World}{ao:Option Addr}{cap:Nat}{vs:List Value}{us:List Wd}{F:Wd}(b1:us.flatten=F)(G:Rd w (.slice ao us.length cap) us.length 1 vs) (b7:∀ i (h:i<us.length),Q4 w (vs.getD i undef) us[i]) (d1:F.length<=1000) :
  Calls Tryz.prog 49 #[.slice ao us.length cap] w fun e w'=>∃ u,e=.returned u/\w'.ownsRow w.heap.size 26 2 u F.length (Ql F)/\Ext w w':=by
 obtain⟨f,Y⟩:=zE us.length;have c4:f<=maxLen:=by have:=G.2.1;omega
 unfold maxLen at c4;rw [Y] at G ⊢;have o:=Zh Y;clear Y;have a5:=Zh b7;have C:=Zh b1;clear b1
 have b4:Hid (∀ c (b6:c<us.length),∃ l s,ao=some ⟨l,s,none⟩/\l<w.heap.size/\w.cell? ⟨l,s+c,none⟩=some (vs.getD c undef)):=Zh fun c b6=>by
  obtain⟨_,_,a9,b0,d2,c0⟩:=G;cases d2;obtain⟨l,s,c1,c2,c3⟩:=c0 (by have:=o.out;omega);exact⟨l,s,c1,c2,c3 c (by have:=o.out;omega)⟩
 clear G b7;go_enter Tryz.func49,Tryz.ntmps49;go_wp2
 refine wp_loop (fun a p=>∃(c:Nat),c<=f/\a.defers=[]/\(a.tmps.size=36/\a.tmps.getD 0 undef=.slice ao f cap/\a.tmps.getD 3 undef=.int .i64 ((Xn us c).length:Int)/\a.tmps.getD 9 undef=.slice ao f cap/\a.tmps.getD 10 undef=.int .i64 f/\a.tmps.getD 11 undef=.int .i64 c)/\w=p)
  (fun a _=>f - (intOf (a.tmps.getD 11 undef)).toNat) ?_ ?_
 ·exact⟨0,by omega,rfl,⟨rfl,rfl,by simp [Xn],rfl,rfl,rfl⟩,rfl⟩
 rintro⟨a3,_⟩ p ⟨c,b6,a0,⟨z,O,U,W,P,Q⟩,rfl⟩;subst a0;obtain⟨a4,A⟩:=Z8 z;obtain⟨u,rfl⟩:∃ x,x=a4:=⟨_,rfl⟩;have a1:a3=#[u 0,u 1,u 2,u 3,u 4,u 5,u 6,u 7,u 8,u 9,u 10,u 11,u 12,u 13,u 14,u 15,u 16,u 17,u 18,u 19,u 20,u 21,u 22,u 23,u 24,u 25,u 26,u 27,u 28,u 29,u 30,u 31,u 32,u 33,u 34,u 35]:=A;clear A;subst a1;change u 0=_ at O;change u 3=_ at U;change u 9=_ at W;change u 10=_ at P;change u 11=_ at Q;rw [O,U,W,P,Q];clear O U W P Q z;by_cases d0:c<f
 ·have X:(c:Int)<(f:Int):=by omega
  have m:c<us.length:=by rw [o.out];exact d0
  obtain⟨l,s,rfl,c8,y⟩:=b4.out c m;obtain⟨d5,d4,B,a2⟩:=(a5.out c m).slice;rw [B] at y;have r:=Rk m;have k:=Q07 (us:=us) (c+1);rw [C.out] at k;have n:(Xn us (c+1)).length=(Xn us c).length+us[c].length:=by rw [r,List.length_append]
  rw [n] at k;obtain⟨L,J⟩:=zE ((Xn us c).length);obtain⟨K,I⟩:=zE (us[c].length);rw [J,I] at k;rw [J];rw [I] at y;have d8:¬ ((L:Int)+(K:Int)<0):=by omega
  have b8:Hid ((Xn us (c+1)).length=L+K):=Zh (by rw [n,J,I]);clear r n J I B a2;go_wp2;exact⟨⟨c+1,by omega,by rw [b8.out];simp,by simp⟩,nz⟩
 obtain rfl:c=f:=by omega
 have X:¬ (c:Int)<(c:Int):=by omega
 have q:(Xn us c)=F:=(Bc (by rw [o.out];exact Nat.le_refl _)).trans C.out;rw [q];clear q;obtain⟨N,Z⟩:=zE F.length;rw [Z] at d1 ⊢;have E:=Zh Z;clear Z
 go_wp2_with (go_at_call 91;refine(Q6r N oz _).mono ?_;rintro e d3 ⟨v,t,rfl,g,j⟩)
 refine wp_loop (fun a p=>∃(d:Nat) (v:Option Addr) (t:Nat),d<=c/\a.defers=[]/\(a.tmps.size=36/\a.tmps.getD 6 undef=.slice v (Xn us d).length t/\a.tmps.getD 25 undef=.slice ao c cap/\a.tmps.getD 26 undef=.int .i64 c/\a.tmps.getD 27 undef=.int .i64 d)/\p.ownsRow w.heap.size 26 2 (.slice v (Xn us d).length t) (Xn us d).length (Ql (Xn us d))/\Ext w p)
  (fun a _=>c - (intOf (a.tmps.getD 27 undef)).toNat) ?_ ?_
 ·exact⟨0,v,t,by omega,rfl,⟨rfl,rfl,rfl,rfl,rfl⟩,g,j⟩
 clear g j d3 v t;rintro⟨a3,_⟩ p ⟨d,v,t,d7,a0,⟨z,V,R,S,T⟩,g,j⟩;subst a0;obtain⟨a4,A⟩:=Z8 z;obtain⟨u,rfl⟩:∃ x,x=a4:=⟨_,rfl⟩;have a1:a3=#[u 0,u 1,u 2,u 3,u 4,u 5,u 6,u 7,u 8,u 9,u 10,u 11,u 12,u 13,u 14,u 15,u 16,u 17,u 18,u 19,u 20,u 21,u 22,u 23,u 24,u 25,u 26,u 27,u 28,u 29,u 30,u 31,u 32,u 33,u 34,u 35]:=A;clear A;subst a1;change u 6=_ at V;change u 25=_ at R;change u 26=_ at S;change u 27=_ at T;rw [V,R,S,T];clear V R S T z;by_cases c9:d<c
 ·have X:(d:Int)<(c:Int):=by omega
  have m:d<us.length:=by rw [o.out];exact c9
  obtain⟨l,s,rfl,c8,b5⟩:=b4.out d m;have y:=j.cell_some b5 (fun h=>h);have H:=(a5.out d m).ext j;obtain⟨d5,d4,B,a2⟩:=H.slice;rw [B] at y H;have r:=Rk m;have k:=Q07 (us:=us) (d+1);rw [C.out] at k;have n:(Xn us (d+1)).length=(Xn us d).length+us[d].length:=by rw [r,List.length_append]
  rw [n,E.out] at k;obtain⟨M,D,a6⟩:=Zh3 r n H.1;have c7:=j.size;clear r n B a2 H b5;obtain⟨a7,b2⟩:=zE (Xn us d);obtain⟨a8,b3⟩:=zE (us[d]);rw [b2] at g k M D ⊢;rw [b3] at y k M D a6;clear b2 b3
  go_wp2_with (at_builtin;refine V5 rfl (.tmp 31) (.tmp 32) 23 rfl w.heap.size 26 _ 2 8 Tryz.underlying23 @Ki rfl zd _ _ _ rfl g _ _ _ _ rfl a6.out (Bv _) (by unfold maxLen;omega) oz c7 ?_;intro a9 b0 d9 c5 c6 d6)
  refine⟨⟨d+1,a9,b0,by omega,tz,⟨rfl,by rw [D.out];rfl,rfl,rfl,rfl⟩,?_,?_⟩,nz⟩
  ·rw [D.out,M.out,Xx];exact c5
  ·exact j.after c6 (fun b hb e=>by have:=(g.lt _ e).1;omega)
 ·obtain rfl:d=c:=by omega
  have X:¬ (d:Int)<(d:Int):=by omega
  have q:(Xn us d)=F:=(Bc (by rw [o.out];exact Nat.le_refl _)).trans C.out;rw [q,E.out] at g;rw [q,E.out];have b9:=Zh g;clear g q;go_wp2;go_ret;exact⟨_,rfl,by rw [E.out];exact b9.out,j⟩
theorem P7:(Tryz.prog.info? 3).map (fun i=>(i.zero,i.size,i.bytes))=some (some (.int .i64 0),1,8):=by kernel_rfl
end Go.Proofs.YtejenndedjabhaaGreatDoor
namespace Go.Ab
open Go.RowKit
def Qb2(l:Q5)(cs:List Value):Prop:=∃(io:Option Addr) (ic:Nat),cs[15]?=some (.slice io l.ifs.length ic)/\l.ifs.length<=ic
end Go.Ab
namespace Go.Proofs.YtejenndedjabhaaGreatDoor
open Go.RowKit Go.Ab
theorem Zm{w:World}{g n cap sz:Nat}{xs:List Value}{t:TypeId}(h:w.heap[g]?=some (.cells xs.toArray t (0,0))) (a:xs.length=n*sz) (b:n<=maxLen):Rd w (.slice (some ⟨g,0,none⟩) n cap) n sz xs:=by
 refine⟨a,b,_,cap,rfl,fun _=>⟨g,0,rfl,(Array.getElem?_eq_some_iff.1 h).1,fun j hj=>?_⟩⟩;rw [Nat.zero_add];have:j<xs.length:=by omega
 simp [World.cell?,h,List.getD_eq_getElem?_getD,this]
theorem Tj(K:Nat->Prop)(w:World)(k:Int){pl mi:Nat}(nt:Bool)(mn mx:Int)(a:pl<4294967296)(b:mi<4294967296):Qu K w (.node k pl mi nt mn mx []) [.int .i64 k,.int .u32 (pl:Int),.int .u32 (mi:Int),.bool nt,.int .i64 mn,.int .i64 mx,.slice none 0 0]:=by
 unfold Qu;exact⟨none,0,rfl,a,b,by simp,by simp [maxLen],by unfold Z1;trivial⟩
end Go.Proofs.YtejenndedjabhaaGreatDoor
