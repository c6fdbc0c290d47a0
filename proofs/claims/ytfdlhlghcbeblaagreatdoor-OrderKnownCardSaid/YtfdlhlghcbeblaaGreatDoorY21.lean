/- slices.Values, slices.Sorted over ints; order.with. -/
import Derived.Test.YtfdlhlghcbeblaaGreatDoorY14
import Derived.Test.YtfdlhlghcbeblaaGreatDoorY19
import Derived.Laws.EntriesVeiled
set_option maxRecDepth 100000
set_option maxHeartbeats 32000000
namespace Go.Proofs.YtfdlhlghcbeblaaGreatDoor
open Go.RowKit Go.Ab
attribute [local go_sem] Oper.semAt_some Zf Qp
theorem Vx{w:World}{v:Value}{n:Nat}{xs:List Value}(h:Rd w v n 1 xs){k:Nat}(e:k<n):∃ g off cap,v=.slice (some ⟨g,off,none⟩) n cap/\g<w.heap.size/\w.cell? ⟨g,off+k,none⟩=some (xs.getD k undef):=by
 obtain⟨_,_,d,cap,rfl,a⟩:=h;obtain⟨g,off,rfl,c,b⟩:=a oz;exact⟨g,off,cap,rfl,c,b k oz⟩
theorem Hp{S:Nat->Prop}{A B:World}{v:Value}{n sz:Nat}{xs:List Value}(h:Rd A v n sz xs)(d:Q1 (fun b=>¬ S b) A B) (l:Qr S v):Rd B v n sz xs:=by
 obtain⟨g,i,f,a,rfl,k⟩:=h;refine⟨g,i,f,a,rfl,fun hn=>?_⟩;obtain⟨c,e,rfl,o,m⟩:=k hn;exact⟨c,e,rfl,Nat.lt_of_lt_of_le o d.size,fun j hj=>d.cell_some (m j hj) (fun h=>h (l c e n a rfl hn))⟩
theorem Pw(L:List Int){i:Nat}(h:i<L.length):(Z7 L).getD i undef=.int .i64 L[i]:=by
 unfold Z7;rw [List.getD_eq_getElem?_getD,List.getElem?_map,List.getElem?_eq_getElem h];rfl
theorem Q45{α:Type}{xs:List α}{k:Nat}(h:k<xs.length):xs=xs.take k++xs[k]::xs.drop (k+1):=by
 rw [<-List.drop_eq_getElem_cons h,List.take_append_drop]
theorem Bf{w:World}{B:Nat}{ao:Option Addr}{n c:Nat}{xs:List Int}{K:Nat->Prop}(D:w.heap[B]?=some (.cells #[.slice ao n c] 48 (0,0))) (a2:K B) (r:Rd w (.slice ao n c) n 1 (Z7 xs)) (H:xs.length=n) (x:Qr K (.slice ao n c)) :
  Ut Tryz.prog 178 #[.pointer (some ⟨B,0,none⟩)] (fun _ _=>False) Q5n xs K w:=by
 intro N W a6 a7 s a0 a1 A p;have E:=s.heap D (fun h=>h a2);have a4:n<=maxLen:=r.2.1;unfold maxLen at a4;obtain⟨R,Q,V,u,e,t⟩:=Zh6 r x A H s p;clear r x A H s p a0 a1;show Calls _ _ #[.func (.yield N) #[] #[],.pointer (some ⟨B,0,none⟩)] _ _;go_enter Tryz.func178,Tryz.ntmps178;have Y:=cell_of_one E;go_wp2;clear Y E D
 refine wp_loop (fun a i=>∃(d:Nat),d<=n/\a.defers=[]/\gS a [0,5,6,7]=(16,[.func (.yield N) #[] #[],.slice ao n c,.int .i64 n,.int .i64 d])/\W (fun _=>False) (xs.take d) i/\Q1 (fun b=>¬ K b) w i)
  (fun a _=>((n:Int) - intOf (a.tmps.getD 7 undef)).toNat) ?_ ?_
 ·exact⟨0,by omega,rfl,rfl,t.out,e.out⟩
 clear t e;rintro⟨b8,_⟩ i ⟨d,b5,a3,L,f,y⟩;subst a3;obtain⟨c0,rfl⟩:=Y6 L;clear L;have o:=Zh f;have e:=Zh y;clear f y;by_cases G:d<n;case neg=>
  obtain rfl:d=n:=by omega
  have Z:¬ (d:Int)<(d:Int):=by omega
  have f:=o.out;rw [List.take_of_length_le (by rw [u.out];exact Nat.le_refl _)] at f;have O:=Zh f;clear f;go_wp2;go_end0
  exact⟨⟨_,rfl⟩,_,.inl O.out⟩
 have Z:(d:Int)<(n:Int):=by omega
 have p:(0:Int)<=(d:Int):=by omega
 have k:d<xs.length:=by rw [u.out];exact G
 have J:=Hp R.out e.out Q.out;obtain⟨b3,b7,b0,I,b4,F⟩:=Vx J G;simp only [zV,true_and] at I;obtain⟨rfl,rfl⟩:=I;rw [Pw xs k] at F;obtain⟨g,m⟩:=zE (xs[d]);rw [m] at F;have l:=Q45 k;rw [m] at l;have M:xs.take (d+1)=xs.take d++[g]:=by rw [List.take_succ_eq_append_getElem k,m]
 have U:=Zh M;have S:=Zh l;obtain⟨b2,b9,a8,a9,a5,C⟩:=V.out (fun _=>False) (xs.take d) g (xs.drop (d+1)) i #[.int .i64 g] l o.out rfl;have v:=Zh C;have b6:IntKind.i64.wrap ((d:Int)+1)=(d:Int)+1:=IntWalk.i64_in _ oz;clear C l M m k J;go_upto_region 3 with (fail)
 refine(wpIn_wide (n:=0)).1 ?_;gi_wp2;refine v.out.mono ?_;rintro b1 X (⟨rfl,j,q⟩ | ⟨rfl,j,q⟩);case inr=>
  gi_wp2;go_wp2;refine bodyPost_ret (results_none rfl _ _ _) rfl ?_;exact⟨⟨_,rfl⟩,_,.inr ⟨xs.take d,g,_,S.out,j⟩⟩
 have z:Q1 (fun b=>¬ K b) w X:=e.out.trans (q.mono fun b _ h=>h.1);have P:=Zh j;have T:=Zh z;clear j z q a5 v o e;gi_wp2;go_wp2;exact⟨⟨d+1,by omega,tz,rfl,by rw [U.out];exact P.out,T.out⟩,mz⟩
theorem Ew(ao:Option Addr)(n c:Nat)(w:World) :
  Calls Tryz.prog 134 #[.slice ao n c] w fun e w'=>e=.returned (.func (.func 178) #[] #[.pointer (some ⟨w.heap.size,0,none⟩)])/\w'.heap[w.heap.size]?=some (.cells #[.slice ao n c] 48 (0,0))/\Ext w w':=by
 go_enter Tryz.func134,Tryz.ntmps134;go_wp2;go_ret;exact⟨rfl,Q3 rfl,(Q1.refl _ w).alloc _⟩
theorem Tv{w:World}{B:Nat}{ao:Option Addr}{n c:Nat}{xs:List Int}(f:w.heap[B]?=some (.cells #[.slice ao n c] 48 (0,0))) (k:Rd w (.slice ao n c) n 1 (Z7 xs)) (j:xs.length=n) (I:n<=12) :
  Calls Tryz.prog 133 #[.func (.func 178) #[] #[.pointer (some ⟨B,0,none⟩)]] w fun e w'=>∃ u X,e=.returned u/\w'.ownsRow w.heap.size 3 1 u n (Z7 X)/\X.Perm xs/\X.Pairwise (·<=·)/\Ext w w':=by
 have J:=(Array.getElem?_eq_some_iff.1 f).1
 have z:Qr (fun b=>b<w.heap.size) (.slice ao n c):=fun g o m c' e h0=>by
  cases e;obtain⟨P,Q,O,K,i,_⟩:=Vx k h0;cases K;exact i
 have y:=Rz (w:=w) (gf:=178) (lb:=#[.pointer (some ⟨B,0,none⟩)]) (M:=fun _ _=>False) (xs:=xs) (fun args w=>by simp [go_sem]) (fun L a=>Bf (a.keep f) J (k.ext a) j z) oz;have l:=Zh y;have r:=Zh j;clear y k z f;go_enter Tryz.func133,Tryz.ntmps133;go_wp2_with fail;refine l.out.mono ?_;rintro e L ⟨u,rfl,d,a⟩;rw [r.out] at d;obtain⟨S,R,rfl⟩:=Zj d;have D:=Q4t d r.out I;obtain⟨s,p,q⟩:=Zh3 D a (fun g i=>(d.lt g i).1);clear D a d l j;go_wp2_with fail;refine s.out.mono ?_;rintro e N ⟨rfl,⟨X,A,C,v⟩,x⟩;have t:Ext w N:=p.out.after x (fun b f e=>by have:=q.out b e;omega);obtain⟨F,E,G,H⟩:=Zh4 v t A C;clear v t A C x s p q;go_wp2;go_ret;exact⟨_,X,rfl,F.out,G.out,H.out,E.out⟩
def Js(xs:List Int)(n:Nat):Bool:=decide (xs.Perm ((List.range n).map fun(i:Nat)=>(i:Int)))
def Qx(LD:List Q7)(xs:List Int)(QS:List (Wd × Wd)):Int:=if Qh LD QS=0 then(if Js xs LD.length=true then 0 else 2) else Qh LD QS
theorem Jg{LD:List Q7}{a:List (Wd × Wd)} (h:Qh LD a=0):LD.length<=6/\LD.all X8=true/\a.length<=32/\Xa (a.map wpE)=0:=by
 unfold Qh at h
 split at h
 ·cases h
 ·split at h
  ·split at h
   ·cases h
   ·exact⟨by omega,by assumption,by omega,h⟩
  ·cases h
def Kw(n:Nat):List Int:=(List.range n).map fun(i:Nat)=>(i:Int)
theorem Sd(n:Nat):(Kw n).Pairwise (·<=·):=by
 unfold Kw;rw [List.pairwise_map];exact List.Pairwise.imp (fun h=>by omega) (List.pairwise_lt_range (n:=n))
theorem Pf:∀ {a b:List Int},a.Perm b->a.Pairwise (·<=·)->b.Pairwise (·<=·)->a=b
 | [],b,h,_,_=>h.nil_eq
 | x::a,[],h,_,_=>by cases h.symm.nil_eq
 | x::a,y::b,h,h1,h2=>by
  have hx:x∈y::b:=h.mem_iff.1 zy;have hy:y∈x::a:=h.mem_iff.2 zy;obtain⟨p1,p2⟩:=List.pairwise_cons.1 h1;obtain⟨q1,q2⟩:=List.pairwise_cons.1 h2;have e:x=y:=by
   rcases List.mem_cons.1 hx with e | e
   ·exact e
   ·rcases List.mem_cons.1 hy with e' | e'
    ·exact e'.symm
    ·exact Int.le_antisymm (p1 _ e') (q1 _ e)
  subst e;rw [Pf (List.Perm.cons_inv h) p2 q2]
def Nu(X:List Int)(k:Nat):Prop:=X.take k=Kw k
theorem Q2w{X:List Int}{k:Nat}(b:k<X.length)(h:Nu X k)(a:X[k]=(k:Int)):Nu X (k+1):=by
 unfold Nu Kw at *;rw [List.take_succ_eq_append_getElem b,h,a,List.range_succ,List.map_append];rfl
theorem Q2j{X xs:List Int}{n:Nat}(b:X.length=n)(h:Nu X n)(a:X.Perm xs):Js xs n=true:=by
 unfold Nu at h;rw [List.take_of_length_le oz] at h;unfold Js;rw [decide_eq_true_eq];exact a.symm.trans (by rw [h];rfl)
theorem Q44{X xs:List Int}{n k:Nat}(g:X.Pairwise (·<=·)) (f:X.Perm xs) (c:k<X.length) (e:X[k]≠(k:Int)):Js xs n=false:=by
 unfold Js;rw [decide_eq_false_iff_not];intro d;have b:X=Kw n:=Pf (f.trans d) g (Sd n);apply e;have a:k<(Kw n).length:=by rw [<-b];exact c
 have:X[k]?=(Kw n)[k]?:=by rw [b]
 rw [List.getElem?_eq_getElem c] at this;unfold Kw at this a;rw [List.length_map,List.length_range] at a;rw [List.getElem?_map,List.getElem?_range a] at this;exact Option.some.inj this
theorem Tu{xs:List Int}{n:Nat}(h:xs.length≠n):Js xs n=false:=by
 unfold Js;rw [decide_eq_false_iff_not];intro a;have:=a.length_eq;rw [List.length_map,List.length_range] at this;exact h this
theorem Sx{w:World}{ps:Qy}{qs:Qa}{lo:Option Addr}{n lc:Nat}{oo:Option Addr}{on oc:Nat}{xs:List Int}{b8:Option Addr}{m pc:Nat}(A:Z9 w (.slice lo n lc) ps) (s:ps.length=n) (C:Rd w (.slice oo on oc) on 1 (Z7 xs)) (a7:xs.length=on) (a8:Qu w (.slice b8 m pc) qs) (a6:qs.length=m) (a0:Tab w) :
  Calls Tryz.prog 84 #[.slice lo n lc,.slice oo on oc,.slice b8 m pc] w fun e w'=>e=.returned (.int .i64 (Qx (ps.map (·.1)) xs (qs.map (·.1))))/\Ext w w':=by
 have q:=fun(V:World) (hE:Ext w V)=>Vj (A.ext hE) s (Zc a8 hE) a6 (a0.keep hE id);have d1:on<=maxLen:=C.2.1;have d0:n<=maxLen:=by rw [<-s];exact A.1.2.1
 unfold maxLen at d1 d0;have p:(ps.map (·.1)).length=n:=by rw [List.length_map,s]
 obtain⟨f,v⟩:=zE (ps.map (·.1));obtain⟨g,y⟩:=zE (qs.map (·.1));rw [v] at p ⊢;rw [y];simp only [v,y] at q;have b6:(Qh f g≠0->Qx f xs g=Qh f g)/\(Qh f g=0->Js xs n=true->Qx f xs g=0)/\(Qh f g=0->Js xs n=false->Qx f xs g=2)/\(Qh f g=0->n<=6):=by
  unfold Qx;rw [p];exact⟨fun h=>by rw [if_neg h],fun h l=>by rw [if_pos h,if_pos l],fun h l=>by rw [if_pos h,if_neg (by rw [l];decide)],fun h=>by rw [<-p];exact(Jg h).1⟩
 obtain⟨H,k⟩:=zE (Qh f g);obtain⟨d7,z⟩:=zE (Qx f xs g);rw [k,z] at b6;rw [z];simp only [k] at q;obtain⟨b9,c0,c1,c2⟩:=b6;obtain⟨R,c7,S,T,I,c3,t⟩:=Zh7 b9 c0 c1 c2 q C a7;clear k z b9 c0 c1 c2 q C a7 A a8 a0 v y p s a6;go_enter Tryz.func84,Tryz.ntmps84;go_wp2_with fail;refine(I.out _ (Q1.refl _ _)).mono ?_;rintro e e8 ⟨rfl,X⟩;have o:=Zh X;clear X I;by_cases k:H=0;case neg=>
  have c9:(H != 0)=true:=by simpa using k
  have d:=R.out k;have i:=Zh d;clear d;go_wp2;go_ret;exact⟨by rw [i.out];rfl,o.out⟩
 subst k;by_cases a5:on=n;case neg=>
  have d:=S.out rfl (Tu (by rw [t.out];exact a5));have i:=Zh d;have e4:¬ ((on:Int)=(n:Int)):=by omega
  clear d;go_wp2;go_ret;exact⟨by rw [i.out];rfl,o.out⟩
 subst a5;have e1:=T.out rfl;have b2:=fun(V:World) (hE:Ext w V) (B:Nat) (hb:V.heap[B]?=some (.cells #[.slice oo on oc] 48 (0,0)))=>Tv hb (c3.out.ext hE) t.out oz;have N:=Zh b2;clear b2 T R;go_wp2_with fail;refine(Ew oo on oc _).mono ?_;rintro e d5 ⟨rfl,a2,Y⟩;have u:=o.out.trans Y;have b1:=N.out d5 u _ a2;have M:=Zh b1;have J:=Zh u;clear b1 u a2 Y N o;go_wp2_with fail;refine M.out.mono ?_;rintro e d6 ⟨d2,j,rfl,x,D,b0,Z⟩;obtain⟨d4,d3,rfl⟩:=Zj x;have a1:j.length=on:=by rw [D.length_eq,t.out]
 obtain⟨c4,L,c5,U,K⟩:=Zh5 (Rd.of_own x) D b0 a1 (J.out.trans Z);clear x D b0 a1 Z M J;go_wp2
 refine wp_loop (fun a W=>∃(b:Nat),b<=on/\a.defers=[]/\gS a [25,26,27]=(36,[.slice d4 on d3,.int .i64 on,.int .i64 b])/\Nu j b/\d6=W)
  (fun a _=>((on:Int) - intOf (a.tmps.getD 27 undef)).toNat) ?_ ?_
 ·exact⟨0,by omega,rfl,rfl,rfl,rfl⟩
 rintro⟨e7,_⟩ W ⟨b,e3,c8,b3,b5,rfl⟩;subst c8;obtain⟨d2,rfl⟩:=Y6 b3;clear b3;have P:=Zh b5;clear b5;by_cases a4:b<on;case neg=>
  obtain rfl:b=on:=by omega
  have l:¬ (b:Int)<(b:Int):=by omega
  have d:=c7.out uz (Q2j U.out P.out L.out);have i:=Zh d;clear d;go_wp2;go_ret;exact⟨by rw [i.out];rfl,K.out⟩
 have l:(b:Int)<(on:Int):=by omega
 have e0:(0:Int)<=(b:Int):=by omega
 have r:b<j.length:=by rw [U.out];exact a4
 obtain⟨d9,e6,d8,a9,e2,a3⟩:=Vx c4.out a4;simp only [zV,true_and] at a9;obtain⟨rfl,rfl⟩:=a9;rw [Pw j r] at a3;have E:=fun(h:j[b]≠(b:Int))=>S.out uz (Q44 c5.out L.out r h);have F:=fun(h:j[b]=(b:Int))=>Q2w r P.out h;obtain⟨c,b7⟩:=zE (j[b]);rw [b7] at a3 E F;have O:=Zh E;have Q:=Zh F;have e5:IntKind.i64.wrap ((b:Int)+1)=(b:Int)+1:=IntWalk.i64_in _ oz;clear b7 E F r;by_cases G:c=(b:Int);case neg=>
  have c9:¬ ((b:Int)=c):=fun h=>G h.symm;have d:=O.out G;have i:=Zh d;clear d;go_wp2;go_ret;exact⟨by rw [i.out];rfl,K.out⟩
 subst G;have b4:=Q.out rfl;have c6:=Zh b4;clear b4 O Q;go_wp2;exact⟨⟨b+1,by omega,tz,rfl,c6.out,by first | trivial | rfl⟩,mz⟩
structure Vis (BO BL BY BU BV l n n0:Nat) (lo:Option Addr) (lc:Nat) (O:Nat->Prop) (p:List Nat) (vo:Value) (W:World):Prop where
 cO:W.heap[BO]?=some (.cells #[vo] 48 (0,0))
 cL:W.heap[BL]?=some (.cells #[.slice lo n lc] 26 (0,0))
 cY:W.heap[BY]?=some (.cells #[.func (.yield l) #[] #[]] 236 (0,0))
 cU:W.heap[BU]?=some (.cells #[.int .u64 (Jc n p:Int)] 237 (0,0))
 cV:W.heap[BV]?=some (.cells #[.func (.func 150) #[] #[.pointer (some ⟨BO,0,none⟩),.pointer (some ⟨BL,0,none⟩),.pointer (some ⟨BY,0,none⟩),.pointer (some ⟨BU,0,none⟩),.pointer (some ⟨BV,0,none⟩)]] 238 (0,0))
 own:W.ownsRow n0 3 1 vo p.length (Qi p)
 row:∀ g,vo.ownBlock=some g->O g/\g≠BO/\g≠BU/\g≠BV/\g≠BY
 oO:O BO/\O BU/\O BY/\O BV
def Dp(K O:Nat->Prop)(BO BU:Nat)(vo:Value)(b:Nat):Prop:=¬ K b/\(O b->b=BO\/b=BU\/vo.ownBlock=some b)
def Vs(K O:Nat->Prop)(BO BU:Nat)(vo:Value)(b:Nat):Prop:=K b\/(O b/\b≠BO/\b≠BU/\vo.ownBlock≠some b)
theorem Q48{K O:Nat->Prop}{d e:Nat}{vo:Value}{b:Nat}(h:Dp K O d e vo b):¬ Vs K O d e vo b:=by
 rintro(c | ⟨c,f,g,i⟩)
 ·exact h.1 c
 ·rcases h.2 c with a | a | a
  ·exact f a
  ·exact g a
  ·exact i a
theorem Sg{S:Nat->Prop}{A B:World}{v:Value}{os:List (Option Wd × List Value)} (h:Y9 A v os) (ht:Q1 (fun b=>¬ S b) A B) (hv:Qr S v) (hk:H7 S os):Y9 B v os:=
 ⟨Hp h.1 ht hv,fun p hp=>⟨(h.2 p hp).1,N8 (h.2 p hp).2 ht (hk p hp)⟩⟩
def Dk(BO BL BY BU BV n0:Nat):Prop:=BL<n0/\n0<=BO/\n0<=BY/\n0<=BU/\n0<=BV/\BO≠BY/\BO≠BU/\BO≠BV/\BU≠BY/\BU≠BV
section
variable {BO BL BY BU BV l n n0 lc k:Nat} {lo:Option Addr} {O O':Nat->Prop} {p:List Nat} {vo v2:Value} {A B W W5 W7:World}
theorem Vis.keep{T:Nat->Prop}(h:Vis BO BL BY BU BV l n n0 lo lc O p vo A)(ht:Q1 T A B)(hT:∀ b,T b->¬ O b/\b≠BL)(hO:∀ b,O b->O' b):Vis BO BL BY BU BV l n n0 lo lc O' p vo B where
 cO:=ht.heap h.cO (fun q=>(hT _ q).1 h.oO.1)
 cL:=ht.heap h.cL (fun q=>(hT _ q).2 rfl)
 cY:=ht.heap h.cY (fun q=>(hT _ q).1 h.oO.2.2.1)
 cU:=ht.heap h.cU (fun q=>(hT _ q).1 h.oO.2.1)
 cV:=ht.heap h.cV (fun q=>(hT _ q).1 h.oO.2.2.2)
 own:=Qd h.own ht (fun g hg q=>(hT _ q).1 (h.row g hg).1)
 row:=fun g hg=>⟨hO _ (h.row g hg).1,(h.row g hg).2⟩
 oO:=⟨hO _ h.oO.1,hO _ h.oO.2.1,hO _ h.oO.2.2.1,hO _ h.oO.2.2.2⟩
theorem J9{W:World}{b:Nat}{u v:Value}{t:TypeId}(h:W.heap[b]?=some (.cells #[u] t (0,0))):(W.setCell ⟨b,0,none⟩ v).heap[b]?=some (.cells #[v] t (0,0)):=by
 simp only [World.setCell,Array.getElem?_modify,h];simp
theorem Vis.push(h:Vis BO BL BY BU BV l n n0 lo lc O p vo W)(a:Q1 (fun b=>vo.ownBlock=some b) W W5) (m:W5.ownsRow n0 3 1 v2 (p.length+1) (Qi (p++[k])))
  (f:v2.ownBlock=vo.ownBlock\/∃ g,W.heap.size<=g/\v2.ownBlock=some g) (d:∀ b,O b->n0<=b/\b<W.heap.size) (x:Dk BO BL BY BU BV n0) (z:n0<=W.heap.size)
  (q:(W5.setCell ⟨BO,0,none⟩ v2).setCell ⟨BU,0,none⟩ (.int .u64 (Jc n (p++[k]):Int))=W7) :
  Vis BO BL BY BU BV l n n0 lo lc (fun b=>O b\/(W.heap.size<=b/\b<W7.heap.size)) (p++[k]) v2 W7/\Q1 (fun b=>b=BO\/b=BU\/vo.ownBlock=some b) W W7/\n0<=W7.heap.size:=by
 obtain⟨B,D,E,F,G,H,I,J,K,C⟩:=x;have r:Q1 (fun b=>b=BO) W5 (W5.setCell ⟨BO,0,none⟩ v2):=Q1.set1 _ _ _ _;have s:Q1 (fun b=>b=BU) (W5.setCell ⟨BO,0,none⟩ v2) W7:=by rw [<-q];exact Q1.set1 _ _ _ _
 have c:Q1 (fun b=>b=BO\/b=BU) W5 W7:=(r.mono fun b _ e=>.inl e).trans (s.mono fun b _ e=>.inr e);have A:W.heap.size<=W7.heap.size:=Nat.le_trans a.size c.size;have i:∀ g,vo.ownBlock=some g->g≠BO/\g≠BU/\g≠BV/\g≠BY:=fun g hg=>(h.row g hg).2;have t:=a.heap h.cO (fun e=>(i _ e).1 rfl);have u:=a.heap h.cU (fun e=>(i _ e).2.1 rfl);have y:∀ g,v2.ownBlock=some g->g<W7.heap.size:=fun g hg=>Nat.lt_of_lt_of_le (m.lt g hg).2 c.size;refine⟨⟨?_,?_,?_,?_,?_,?_,fun g hg=>?_,.inl h.oO.1,.inl h.oO.2.1,.inl h.oO.2.2.1,.inl h.oO.2.2.2⟩,?_,Nat.le_trans z A⟩
 ·exact s.heap (J9 t) oz
 ·refine c.heap (a.heap h.cL (fun e=>?_)) oz;have:=(m.lt);have:=(h.own.lt _ e).1;omega
 ·exact c.heap (a.heap h.cY (fun e=>(i _ e).2.2.2 rfl)) oz
 ·rw [<-q];exact J9 (r.heap u oz)
 ·exact c.heap (a.heap h.cV (fun e=>(i _ e).2.2.1 rfl)) oz
 ·rw [List.length_append,List.length_singleton];refine Qd m c (fun g hg e=>?_);rcases f with f | ⟨v,o,j⟩
  ·rw [f] at hg;have:=i g hg;omega
  ·rw [j] at hg;cases hg;have:=(d _ h.oO.1).2;have:=(d _ h.oO.2.1).2;omega
 ·rcases f with f | ⟨v,o,j⟩
  ·rw [f] at hg;exact⟨.inl (h.row g hg).1,(h.row g hg).2⟩
  ·have w:=y g hg;rw [j] at hg;cases hg;have:=(d _ h.oO.1).2;have:=(d _ h.oO.2.1).2;have:=(d _ h.oO.2.2.1).2;have:=(d _ h.oO.2.2.2).2;exact⟨.inr ⟨o,w⟩,by omega,by omega,by omega,by omega⟩
 ·exact(a.mono fun b _ e=>.inr (.inr e)).trans (c.mono fun b _ e=>e.elim .inl (fun e=>.inr (.inl e)))
theorem Vis.pop{g c:Nat}(h:Vis BO BL BY BU BV l n n0 lo lc O (p++[k]) (.slice (some ⟨g,0,none⟩) (p.length+1) c) W) (o:Dk BO BL BY BU BV n0)
  (e:(W.setCell ⟨BO,0,none⟩ (.slice (some ⟨g,0,none⟩) p.length c)).setCell ⟨BU,0,none⟩ (.int .u64 (Jc n p:Int))=W7) :
  Vis BO BL BY BU BV l n n0 lo lc O p (.slice (some ⟨g,0,none⟩) p.length c) W7/\Q1 (fun b=>b=BO\/b=BU) W W7/\W7.heap.size=W.heap.size:=by
 obtain⟨q,s,t,u,v,w,x,y,z,r⟩:=o;have j:Q1 (fun b=>b=BO) W (W.setCell ⟨BO,0,none⟩ (.slice (some ⟨g,0,none⟩) p.length c)):=Q1.set1 _ _ _ _;have m:Q1 (fun b=>b=BU) (W.setCell ⟨BO,0,none⟩ (.slice (some ⟨g,0,none⟩) p.length c)) W7:=by rw [<-e];exact Q1.set1 _ _ _ _
 have d:Q1 (fun b=>b=BO\/b=BU) W W7:=(j.mono fun b _ a=>.inl a).trans (m.mono fun b _ a=>.inr a);have A:=h.row g rfl;have i:=h.own;rw [List.length_append,List.length_singleton] at i;have f:=Cp i;refine⟨⟨?_,d.heap h.cL oz,d.heap h.cY oz,?_,d.heap h.cV oz,?_,fun g' hg=>h.row g' hg,h.oO⟩,d,by rw [<-e];simp⟩
 ·exact m.heap (J9 h.cO) oz
 ·rw [<-e];exact J9 (j.heap h.cU oz)
 ·refine Qd ?_ d (fun g' hg a=>?_)
  ·rw [Nat.mul_one] at f;have a:(Qi (p++[k])).take p.length=Qi p:=by
    rw [Xg,List.take_left' (by unfold Qi;rw [List.length_map])]
   rw [a] at f;exact f
  ·have:=h.row g' hg;omega
end
def Co(BO BL BY BU BV l n n0 lc:Nat)(lo:Option Addr)(O:Nat->Prop)(p:List Nat)(vo:Value)(V1 W:World):Prop:=
 ∃ ao c,Vis BO BL BY BU BV l n n0 lo lc (fun b=>O b\/(V1.heap.size<=b/\b<W.heap.size)) p (.slice ao p.length c) W/\Q1 (fun b=>b=BO\/b=BU\/vo.ownBlock=some b) V1 W/\n0<=W.heap.size /\
  ((Value.slice ao p.length c).ownBlock=vo.ownBlock\/∃ g,V1.heap.size<=g/\(Value.slice ao p.length c).ownBlock=some g)
theorem Mw{f BL o i m l n n0 lc k d:Nat}{lo:Option Addr}{O:Nat->Prop}{p:List Nat}{vo:Value}{ao:Option Addr}{c:Nat}{e a q V7:World}(j:a.heap.size=e.heap.size)(h:Vis f BL o i m l n n0 lo lc O p vo a)(t:Ext e a)(A:Q1 (fun b=>vo.ownBlock=some b) a q)
  (D:q.ownsRow n0 3 1 (.slice ao (d+1) c) (p.length+1) (Qi (p++[k]))) (s:(Value.slice ao (d+1) c).ownBlock=vo.ownBlock\/∃ g,a.heap.size<=g/\(Value.slice ao (d+1) c).ownBlock=some g) (z:∀ b,O b->n0<=b/\b<e.heap.size) (y:Dk f BL o i m n0) (C:n0<=e.heap.size) (B:p.length=d)
  (x:(q.setCell ⟨f,0,none⟩ (.slice ao (d+1) c)).setCell ⟨i,0,none⟩ (.int .u64 (Jc n (p++[k]):Int))=V7):Co f BL o i m l n n0 lc lo O (p++[k]) vo e V7:=by
 obtain⟨u,v,w⟩:=h.push A D s (by rw [j];exact z) y (by rw [j];exact C) x;have r:(p++[k]).length=d+1:=by rw [List.length_append,B];rfl
 refine⟨ao,c,?_,t.of.trans v,w,?_⟩
 ·rw [r,<-j];exact u
 ·rw [r,<-j];exact s
def Mj(BO BL BY BU BV l n n0 lc:Nat)(lo:Option Addr)(O:Nat->Prop)(p:List Nat)(vo:Value)(V1 W:World):Prop:=
 ∃ ao c,Vis BO BL BY BU BV l n n0 lo lc O p (.slice ao p.length c) W/\Q1 (fun b=>b=BO\/b=BU) V1 W/\W.heap.size=V1.heap.size/\(Value.slice ao p.length c).ownBlock=vo.ownBlock
theorem Mv{a BL i b f l n n0 lc k d g c:Nat}{lo:Option Addr}{O:Nat->Prop}{p:List Nat}{j e V7:World}(v:e.heap.size=j.heap.size)(h:Vis a BL i b f l n n0 lo lc O (p++[k]) (.slice (some ⟨g,0,none⟩) (d+1) c) e) (m:Ext j e) (u:p.length=d) (t:Dk a BL i b f n0)
  (s:(e.setCell ⟨a,0,none⟩ (.slice (some ⟨g,0,none⟩) d c)).setCell ⟨b,0,none⟩ (.int .u64 (Jc n p:Int))=V7):Mj a BL i b f l n n0 lc lo O p (.slice (some ⟨g,0,none⟩) (d+1) c) j V7:=by
 subst u;obtain⟨o,q,r⟩:=h.pop t s;exact⟨_,c,o,m.of.trans q,by rw [r,v],rfl⟩
def Q1a(BO BL BY BU BV l n n0 lc:Nat)(lo:Option Addr)(K O:Nat->Prop)(J Jx:(Nat->Prop)->List (List Nat)->World->Prop) (xs pre new:List (List Nat)) (p:List Nat) (vo:Value) (W:World) (b:Bool) (W':World):Prop:=
 ∃ O' ao c,Vis BO BL BY BU BV l n n0 lo lc O' p (.slice ao p.length c) W'/\(∀ b,O' b->n0<=b/\b<W'.heap.size)/\(∀ b,O b->O' b)/\Q1 (Dp K O BO BU vo) W W'/\(∀ g,(Value.slice ao p.length c).ownBlock=some g->vo.ownBlock=some g\/W.heap.size<=g) /\
  (b=true->J O' (pre++new) W')/\(b=false->∃ pre1 x rest1,xs=pre1++x::rest1/\Jx O' (pre1++[x]) W')
def Q7v(BO BL BY BU BV l n n0 lc:Nat)(lo:Option Addr)(K O:Nat->Prop)(J Jx:(Nat->Prop)->List (List Nat)->World->Prop) (xs pre new:List (List Nat)) (p:List Nat) (vo:Value) (W:World) (e:Ending) (W':World):Prop:=
 ∃ b,e=.returned (.bool b)/\Q1a BO BL BY BU BV l n n0 lc lo K O J Jx xs pre new p vo W b W'
section
variable {BO BL BY BU BV l n n0 lc M k d:Nat} {lo:Option Addr} {K O O0:Nat->Prop} {J Jx:(Nat->Prop)->List (List Nat)->World->Prop} {xs L:List (List Nat)} {p q:List Nat} {v0 v v7:Value} {w W0 W V1 V7 U0 U1:World}
theorem Q74(e:∀ b,K b->b<n0)(_hn0:n0<=W0.heap.size)(d:Vis BO BL BY BU BV l n n0 lo lc O p v W)(c:∀ b,O b->n0<=b/\b<W.heap.size)
  (m:Q1 (Dp K O0 BO BU v0) W0 W) (r:∀ g,v.ownBlock=some g->v0.ownBlock=some g\/W0.heap.size<=g) (q:Q1 (fun b=>¬ K b) w W) (k:Ext W V1)
  (o:Q1 (fun b=>b=BO\/b=BU\/v.ownBlock=some b) V1 V7) (j:Ext V7 U0):Q1 (fun b=>¬ K b) w U0/\Q1 (fun b=>¬ Vs K O0 BO BU v0 b) W0 U0:=by
 have f:Q1 (fun b=>b=BO\/b=BU\/v.ownBlock=some b) W U0:=((k.of.trans o).trans j.of)
 have i:∀ b,(b=BO\/b=BU\/v.ownBlock=some b)->n0<=b:=fun b a=>by
  rcases a with rfl | rfl | a
  ·exact(c _ d.oO.1).1
  ·exact(c _ d.oO.2.1).1
  ·exact(c b (d.row b a).1).1
 refine⟨q.trans (f.mono fun b _ a hk=>?_),Q1.mono (m.after f fun b hb a=>⟨fun hk=>?_,fun ho=>?_⟩) (fun b _ a=>Q48 a)⟩
 ·have:=e b hk;have:=i b a;omega
 ·have:=e b hk;have:=i b a;omega
 ·rcases a with rfl | rfl | a
  ·exact .inl rfl
  ·exact .inr (.inl rfl)
  ·rcases r b a with a | a
   ·exact .inr (.inr a)
   ·omega
theorem Q23(a3:Dk BO BL BY BU BV n0)(C:∀ b,K b->b<n0)(a4:∀ O O' pre A B,J O pre A->Q1 O A B->(∀ b,O' b->(O b\/A.heap.size<=b)/\b<B.heap.size)->J O' pre B)
  (a5:∀ b,O0 b->n0<=b/\b<W0.heap.size) (d0:n0<=W0.heap.size) (i:Vis BO BL BY BU BV l n n0 lo lc O p v W) (b0:J O L W) (f:∀ b,O b->n0<=b/\b<W.heap.size) (a6:∀ b,O0 b->O b)
  (F:Q1 (Dp K O0 BO BU v0) W0 W) (S:∀ g,v.ownBlock=some g->v0.ownBlock=some g\/W0.heap.size<=g) (a7:Q1 (fun b=>¬ K b) w W) (D:Ext W V1)
  (R:Vis BO BL BY BU BV l n n0 lo lc (fun b=>O b\/(V1.heap.size<=b/\b<V7.heap.size)) q v7 V7) (G:Q1 (fun b=>b=BO\/b=BU\/v.ownBlock=some b) V1 V7) (b2:v7.ownBlock=v.ownBlock\/∃ g,V1.heap.size<=g/\v7.ownBlock=some g)
  (c9:O0 BO/\O0 BU) (y:Ext V7 U0) {m:Option Addr} {j:Nat} {T:List (Option Wd × List Value)} (k:Jq U0.heap.size (fun g=>Vs K O0 BO BU v0 g\/U0.heap.size<=g) (.slice m M j) U1 M T) (E:Ext U0 U1) :
  Vis BO BL BY BU BV l n n0 lo lc (fun b=>O b\/(W.heap.size<=b/\b<U1.heap.size)) q v7 U1/\J (fun b=>O b\/(W.heap.size<=b/\b<U1.heap.size)) L U1/\(∀ b,(O b\/(W.heap.size<=b/\b<U1.heap.size))->n0<=b/\b<U1.heap.size)/\Q1 (fun b=>¬ K b) w U1/\Q1 (Dp K O0 BO BU v0) W0 U1 /\
   Qr (Vs K (fun b=>O b\/(W.heap.size<=b/\b<U1.heap.size)) BO BU v7) (.slice m M j)/\H7 (Vs K (fun b=>O b\/(W.heap.size<=b/\b<U1.heap.size)) BO BU v7) T:=by
 obtain⟨b6,b8,b9,c0,c1,c2,c3,c4,c5,b7⟩:=a3;have z:Ext V7 U1:=y.trans E;have d2:=D.size;have d3:=G.size;have d4:=y.size;have d5:=E.size;have d6:=F.size;have I:Q1 (fun b=>b=BO\/b=BU\/v.ownBlock=some b) W U1:=((D.of.trans G).trans z.of)
 have H:Q1 O W U1:=I.mono fun b _ a=>by
  rcases a with rfl | rfl | a
  ·exact i.oO.1
  ·exact i.oO.2.1
  ·exact(i.row b a).1
 have a8:∀ g,(Value.slice m M j).ownBlock=some g->U0.heap.size<=g/\g<U1.heap.size:=fun g hg=>k.own.lt g hg;have a2:∀ g,v7.ownBlock=some g->g<V7.heap.size:=fun g hg=>(R.own.lt g hg).2
 have N:∀ b,U0.heap.size<=b->b<U1.heap.size->Vs K (fun b=>O b\/(W.heap.size<=b/\b<U1.heap.size)) BO BU v7 b:=fun b d e=>by
  have u:=(f _ i.oO.1).2;have V:=(f _ i.oO.2.1).2;refine .inr ⟨.inr ⟨by omega,e⟩,by omega,by omega,fun c=>?_⟩;have:=a2 b c;omega
 have b1:∀ b,Vs K O0 BO BU v0 b->Vs K (fun b=>O b\/(W.heap.size<=b/\b<U1.heap.size)) BO BU v7 b:=fun b a=>by
  rcases a with a | ⟨d,e,a0,a1⟩
  ·exact .inl a
  ·have:=(a5 b d).2;refine .inr ⟨.inl (a6 b d),e,a0,fun c=>?_⟩;rcases b2 with Y | ⟨g,c8,Z⟩
   ·rw [Y] at c;rcases S b c with c | c
    ·exact a1 c
    ·omega
   ·rw [Z] at c;cases c;omega
 refine⟨R.keep z (fun _ a=>a.elim) (fun b a=>a.elim .inl (fun a=>.inr ⟨by omega,by omega⟩)),a4 O _ _ W U1 b0 H (fun b a=>a.elim (fun a=>⟨.inl a,by have:=(f b a).2;omega⟩) (fun a=>⟨.inr a.1,a.2⟩)),fun b a=>a.elim (fun a=>⟨(f b a).1,by have:=(f b a).2;omega⟩) (fun a=>⟨by omega,a.2⟩),?_,?_,?_,?_⟩
 ·refine a7.trans (H.mono fun b _ a hk=>?_);have:=C b hk;have:=(f b a).1;omega
 ·refine F.after I fun b hb a=>⟨fun hk=>?_,fun ho=>?_⟩
  ·have:=C b hk;rcases a with rfl | rfl | a
   ·omega
   ·omega
   ·have:=(f b (i.row b a).1).1;omega
  ·rcases a with rfl | rfl | a
   ·exact .inl rfl
   ·exact .inr (.inl rfl)
   ·rcases S b a with a | a
    ·exact .inr (.inr a)
    ·omega
 ·intro g t s o c r;cases c
  obtain⟨d,e⟩:=a8 g (by
   obtain⟨c7,a9⟩:=K5 (n:=M - 1) (cap:=j) (by rw [show M - 1+1=M by omega];exact k.own);cases a9;rfl)
  exact N g d e
 ·intro U P X Q b3 b4 c g t s o x r;have d:=(k.kept U P X Q b3 b4 c g t s o x r).1;obtain⟨b5,d1,c6,u,V⟩:=k.ok U P;have e:g<U1.heap.size:=by
   rw [c] at u;cases u;exact Nf (V X Q) g t s o x r
  rcases d with d | d
  ·exact b1 g d
  ·exact N g d e
theorem Q39{b:Bool}{c f:World}{O':Nat->Prop}{m:Option Addr}{o:Nat}{D:List (List Nat)} (H:Dk BO BL BY BU BV n0) (N:∀ b,K b->b<n0)
  (I:∀ O O' pre A B,J O pre A->Q1 O A B->(∀ b,O' b->(O b\/A.heap.size<=b)/\b<B.heap.size)->J O' pre B) (M:∀ O O' pre A B,Jx O pre A->Q1 O A B->(∀ b,O' b->(O b\/A.heap.size<=b)/\b<B.heap.size)->Jx O' pre B)
  (t:∀ b,O0 b->O b) (_hOB0:∀ b,O0 b->n0<=b/\b<W0.heap.size) (w:Q1 (Dp K O0 BO BU v0) W0 U1) (z:∀ g,v.ownBlock=some g->v0.ownBlock=some g\/W0.heap.size<=g) (C:v7.ownBlock=v.ownBlock\/∃ g,W0.heap.size<=g/\v7.ownBlock=some g)
  (P:∀ b,O b->O' b) (Q:Q1 (Dp K O BO BU v7) U1 c) (k:∀ b,O' b->n0<=b/\b<c.heap.size) (U:∀ g,(Value.slice m (d+1) o).ownBlock=some g->v7.ownBlock=some g\/U1.heap.size<=g)
  (R:b=true->J O' (L++D) c) (S:b=false->∃ pre1 x rest1,xs=pre1++x::rest1/\Jx O' (pre1++[x]) c) (_hd:p.length=d)
  (T:Mj BO BL BY BU BV l n n0 lc lo O' p (.slice m (d+1) o) c f):Q1a BO BL BY BU BV l n n0 lc lo K O0 J Jx xs L D p v0 W0 b f:=by
 obtain⟨X,Z,a0,a1,a2,a3,a4,a5,a6,Y⟩:=H;obtain⟨E,F,j,r,s,G⟩:=T
 have u:Q1 O' c f:=r.mono fun b _ a=>by
  rcases a with rfl | rfl
  ·exact j.oO.1
  ·exact j.oO.2.1
 have y:∀ b,O' b->(O' b\/c.heap.size<=b)/\b<f.heap.size:=fun b a=>⟨.inl a,by rw [s];exact(k b a).2⟩;have a8:=w.size;refine⟨O',E,F,j,fun b a=>⟨(k b a).1,by rw [s];exact(k b a).2⟩,fun b a=>P b (t b a),?_,fun g hg=>?_,fun e=>I _ _ _ _ _ (R e) u y,fun e=>?_⟩
 ·refine(w.after Q fun b hb a=>⟨a.1,fun ho=>?_⟩).after r fun b hb a=>⟨fun hk=>?_,fun ho=>?_⟩
  ·rcases a.2 (t b ho) with a | a | a
   ·exact .inl a
   ·exact .inr (.inl a)
   ·rcases C with e | ⟨g,q,i⟩
    ·rw [e] at a;rcases z b a with a | a
     ·exact .inr (.inr a)
     ·omega
    ·rw [i] at a;cases a;omega
  ·have:=N b hk;rcases a with rfl | rfl <;> omega
  ·rcases a with rfl | rfl
   ·exact .inl rfl
   ·exact .inr (.inl rfl)
 ·rw [G] at hg;rcases U g hg with a | a
  ·rcases C with e | ⟨a7,q,i⟩
   ·rw [e] at a;exact z g a
   ·rw [i] at a;cases a;exact .inr q
  ·exact .inr oz
 ·obtain⟨pre1,x,rest1,V,W⟩:=S e;exact⟨pre1,x,rest1,V,M _ _ _ _ _ W u y⟩
end
def Ey(M:Nat)(LD:List Q7)(T0:List (Option Wd)) (x:List Nat) (A:World) (ys:Array Value):Prop:=∃ vo vc so sc,ys=#[.slice vo x.length vc,.slice so M sc]/\Rd A (.slice vo x.length vc) x.length 1 (Qi x)/\Gx A (.slice so M sc) M (T0.map (Jm LD x))
theorem Q5h(v y:Nat)(e:v<18446744073709551616):(bits .and .u64 ((v:Int) / 2 ^ y) 1 == 1)=v.testBit y:=by
 have a:((v:Int) / 2 ^ y)=((v / 2 ^ y:Nat):Int):=by simp
 have d:v / 2 ^ y<=v:=Nat.div_le_self _ _;have b:(1:Int)=((1:Nat):Int):=rfl;rw [a,b,u64_and_nat _ _ oz zd,Nat.and_one_is_mod,Nat.testBit_eq_decide_div_mod_eq];by_cases c:v / 2 ^ y % 2=1
 ·rw [c];simp
 ·have:v / 2 ^ y % 2=0:=by omega
  rw [this];simp
theorem Q2b:∀ u<64,∀ k<6,u.testBit k=false->bits .andNot .u64 ((u ||| 2 ^ k:Nat):Int) (IntKind.u64.wrap (2 ^ k))=(u:Int):=by decide
theorem Q2u{w0 w:World}{r BL X s R l n n0 lc M:Nat}{lo:Option Addr}{ps:Qy}{K:Nat->Prop}{xs:List (List Nat)} {T0:List (Option Wd)} {J Jx:(Nat->Prop)->List (List Nat)->World->Prop}
  (m4:Z9 w0 (.slice lo n lc) ps) (m6:ps.length=n) (x4:n<=6) (e4:Tab w0) (C1:M<=1000) (u8:T0.length=M) (l7:Dk r BL X s R n0) (l8:K BL) (p4:∀ b,K b->b<n0)
  (n1:∀ V,Q1 (fun b=>¬ K b) w V->Ext w0 V)
  (p2:∀ O O' pre A B,J O pre A->Q1 O A B->(∀ b,O' b->(O b\/A.heap.size<=b)/\b<B.heap.size)->J O' pre B)
  (p3:∀ O O' pre A B,Jx O pre A->Q1 O A B->(∀ b,O' b->(O b\/A.heap.size<=b)/\b<B.heap.size)->Jx O' pre B)
  (p6:∀ O pre x rest A ys,xs=pre++x::rest->J O pre A->Ey M (ps.map (·.1)) T0 x A ys->YieldAt Fence.wide 0 Tryz.prog l ys A fun e B=>
   (e=.returned (.bool true)/\J O (pre++[x]) B/\Q1 (fun b=>¬ K b/\¬ O b) A B)\/(e=.returned (.bool false)/\Jx O (pre++[x]) B/\Q1 (fun b=>¬ K b/\¬ O b) A B)) :
  ∀(m:Nat) (p:List Nat) (O:Nat->Prop) (pre rest:List (List Nat)) (vo:Value) (W:World) (no:Option Addr) (nc:Nat) (os:List (Option Wd × List Value)),
   p.length+m=n->(∀ x∈p,x<n)->xs=pre++K6 n m p++rest->Vis r BL X s R l n n0 lo lc O p vo W->J O pre W->(∀ b,O b->n0<=b/\b<W.heap.size)->Q1 (fun b=>¬ K b) w W ->
   Y9 W (.slice no M nc) os->os.map (·.1)=T0.map (Jm (ps.map (·.1)) p)->Qr (Vs K O r s vo) (.slice no M nc)->H7 (Vs K O r s vo) os ->
   Calls Tryz.prog 150 #[.slice no M nc,.pointer (some ⟨r,0,none⟩),.pointer (some ⟨BL,0,none⟩),.pointer (some ⟨X,0,none⟩),.pointer (some ⟨s,0,none⟩),.pointer (some ⟨R,0,none⟩)] W (Q7v r BL X s R l n n0 lc lo K O J Jx xs pre (K6 n m p) p vo W):=by
 intro m
 induction m with
 | zero=>
  intro p O pre rest vo W no nc os e9 k4 U z I a7 b2 c6 c5 k0 k1;obtain⟨a4,n6,rfl⟩:=Zj z.own;obtain⟨d,c3⟩:=zE p.length;have w2:n=d:=by omega
  rw [Q41] at U ⊢;have p8:xs=pre++p::rest:=by rw [U];simp
  have k3:os.length=M:=by have:=congrArg List.length c5;rw [List.length_map,List.length_map] at this;omega
  obtain⟨E9,G4,E2,E3,D5,v4⟩:=p6 O pre p rest W #[.slice a4 p.length n6,.slice no M nc] p8 I ⟨a4,n6,no,nc,rfl,Rd.of_own z.own,os,c6,k3,c5⟩;have p0:=cell_of_one z.cO;have u3:=cell_of_one z.cL;have E4:=cell_of_one z.cY;have w6:=fun(B:World) (ht:Q1 (fun b=>¬ K b/\¬ O b) W B)=>(z.keep ht (fun b q=>⟨q.2,fun e=>q.1 (e ▸ l8)⟩) (fun _ c=>c):Vis r BL X s R l n n0 lo lc O p _ B);obtain⟨o5,l0,L,B3,G,r9⟩:=Zh6 v4 w6 a7 p8 c3 k4;rw [c3] at D5 p0;subst w2;clear v4 w6 a7 p8 c3 e9 U c6 c5 k0 k1 m4 m6 e4 l7 p4 l8 n1 p2 p3 p6 z I b2 k4 k3 u8;go_enter Tryz.func150,Tryz.ntmps150;go_upto_region 2 with (fail)
  refine(wpIn_wide (n:=0)).1 ?_;gi_wp2;refine o5.out.mono ?_;rintro e t8 (⟨rfl,j1,c4⟩ | ⟨rfl,j1,c4⟩)
  ·have k2:=l0.out t8 c4;obtain⟨o0,i1,c9⟩:=Zh3 k2 c4 j1;clear k2 c4 j1 l0 o5;gi_wp2;go_wp2;go_ret;exact⟨true,rfl,O,a4,n6,o0.out,fun b hb=>⟨(L.out b hb).1,Nat.lt_of_lt_of_le (L.out b hb).2 i1.out.size⟩,fun _ c=>c,i1.out.mono (fun b _ q=>⟨q.1,fun c=>absurd c q.2⟩),fun u hg=>.inl hg,fun _=>c9.out,fun c=>by cases c⟩
  ·have k2:=l0.out t8 c4;obtain⟨o0,i1,c9⟩:=Zh3 k2 c4 j1;clear k2 c4 j1 l0 o5;gi_wp2;go_wp2;go_ret;exact⟨false,rfl,O,a4,n6,o0.out,fun b hb=>⟨(L.out b hb).1,Nat.lt_of_lt_of_le (L.out b hb).2 i1.out.size⟩,fun _ c=>c,i1.out.mono (fun b _ q=>⟨q.1,fun c=>absurd c q.2⟩),fun u hg=>.inl hg,(fun c=>by cases c),fun _=>⟨pre,p,rest,B3.out,c9.out⟩⟩
 | succ m ih=>
  intro p i8 pre rest vo l5 no nc os e9 k4 U z I a7 b2 c6 c5 k0 k1;obtain⟨a4,k9,rfl⟩:=Zj z.own;obtain⟨d,c3⟩:=zE p.length;have w2:d<n:=by omega
  have k3:os.length=M:=by have:=congrArg List.length c5;rw [List.length_map,List.length_map] at this;omega
  rw [c3] at z k0 k1 ⊢;have C6:n<=maxLen:=by rw [<-m6];exact m4.1.2.1
  have x3:n0<=l5.heap.size:=by have:=a7 _ z.oO.1;omega
  have C0:=l7;obtain⟨G5,G7,G8,G9,H0,H1,H2,H3,H4,G6⟩:=C0;have w9:=fun(V:World) (ht:Q1 (fun b=>¬ K b) w V)=>m4.ext (n1 V ht);have v6:=fun(V:World) (l:Q7) (cs:List Value) (e8:Z2 V l cs) (S0:Nat->Prop) (so:Option Addr) (sc:Nat) (ss:List (Option Wd × List Value)) (c6:Y9 V (.slice so M sc) ss) (hss:ss.length=M) (ht:Q1 (fun b=>¬ K b) w V) (hS:H7 S0 ss)=>Pq e8 c6 hss C1 (e4.keep (n1 V ht) id) S0 hS;obtain⟨r3,z0,s6,r0,o1,B6,B2,A0⟩:=Zh8 w9 v6 z I a7 b2 c6 c5;obtain⟨z7,r2,G,B8,r9,q9,n7,z6⟩:=Zh8 k0 k1 c3 U k4 ih p2 p3;obtain⟨c8,n9,D9,A1,r8,A9,l3,A7⟩:=Zh8 l7 p4 l8 m6 k3 e9 x3 (And.intro z.oO.1 z.oO.2.1);have p0:=cell_of_one z.cO;have u3:=cell_of_one z.cL;have C8:¬ ((d:Int)=(n:Int)):=by omega
  clear w9 v6 z I a7 b2 c6 c5 k0 k1 c3 U k4 ih p2 p3 l7 p4 l8 m6 k3 e9 m4 e4 n1 p6 x3 u8;unfold maxLen at C6;go_enter Tryz.func150,Tryz.ntmps150;go_wp2;clear p0 u3 C8
  refine wp_loop (fun a W=>∃(g:Nat) (Z:Option Addr) (a1:Nat) (O:Nat->Prop),g<=n/\a.defers=[]/\gS a [0,1,2,3,4,5,20,21,22]=(57,[.slice no M nc,.pointer (some ⟨r,0,none⟩),.pointer (some ⟨BL,0,none⟩),.pointer (some ⟨X,0,none⟩),.pointer (some ⟨s,0,none⟩),.pointer (some ⟨R,0,none⟩),.slice lo n lc,.int .i64 n,.int .i64 g]) /\
    Vis r BL X s R l n n0 lo lc O p (.slice Z d a1) W/\J O (pre++Jo n m p g) W/\(∀ b,O b->n0<=b/\b<W.heap.size)/\(∀ b,i8 b->O b)/\Q1 (Dp K i8 r s (.slice a4 d k9)) l5 W/\(∀ u,(Value.slice Z d a1).ownBlock=some u->(Value.slice a4 d k9).ownBlock=some u\/l5.heap.size<=u))
   (fun a _=>((n:Int) - intOf (a.tmps.getD 22 undef)).toNat) ?_ ?_
  ·exact⟨0,a4,k9,i8,by omega,rfl,rfl,s6.out,by rw [Q01,List.append_nil];exact r0.out,o1.out,fun _ c=>c,Q1.refl _ _,fun u c=>.inl c⟩
  clear s6 r0;rintro⟨G3,_⟩ W ⟨g,Z,a1,O,F5,C4,n2,z,I,a7,u6,e4,y6⟩;subst C4;obtain⟨Q,rfl⟩:=Y6 n2;clear n2;obtain⟨b0,n8,L,l1,a9,i6⟩:=Zh6 z I a7 u6 e4 y6;clear z I a7 u6 e4 y6;by_cases m2:g<n;case neg=>
   obtain rfl:g=n:=by omega
   have B9:¬ (g:Int)<(g:Int):=by omega
   have I:=n8.out;rw [P9] at I;have z4:=Zh I;clear I;go_wp2;go_ret;exact⟨true,rfl,O,Z,a1,by rw [G.out];exact b0.out,L.out,l1.out,a9.out,by rw [G.out];exact i6.out,fun _=>z4.out,fun c=>by cases c⟩
  have B9:(g:Int)<(n:Int):=by omega
  have F0:(0:Int)<=(g:Int):=by omega
  have b2:Q1 (fun b=>¬ K b) w W:=B6.out.after a9.out (fun b _ q=>q.1);have m3:g<ps.length:=by rw [A1.out];exact m2
  have w8:=r3.out W b2;obtain⟨l6,n5,a6,y0,C5,m9,e8,p1⟩:=w8.at m3;simp only [zV] at y0;obtain⟨rfl,D6,rfl⟩:=y0;obtain⟨⟨g9,D7⟩,m7⟩:=zE (ps[g]);have y2:(ps.map (·.1))[g]?=some g9:=by rw [List.getElem?_map,List.getElem?_eq_getElem m3,m7];rfl
  have x1:(g9,D7)∈ps:=by rw [<-m7];exact List.getElem_mem m3
  rw [m7] at m9 e8 p1;dsimp only at m9 e8 p1;obtain⟨g0,f3,g7,f5,f8,d7,d9,g3,d0,t,f4,g8,f6,f9,d8,e0,g4,d1,e1,f2,d2,f1,g6,d3,g5,f7,C3,E0,B0,B1,z2,A8,A5,Y,A2,A3,A4,z8,F8,F9,G0,G1,G2⟩:=Yr e8;subst C3;have F7:IntKind.i64.wrap ((g:Int)+1)=(g:Int)+1:=IntWalk.i64_in _ oz;obtain⟨s1,B4,z9,s4⟩:=Zh4 m9 y2 x1 b2;clear x1 D6 w8 e8 p1 m7 m3 m9 y2 b2 C5 B0 B1 z2 A8 A5 Y A2 A3 A4 z8;obtain⟨T,m0⟩:=zE ((W.alloc (.cells #[.string ⟨#[]⟩,.int .i64 0,.int .u32 0,.int .u32 0,.bool false,.int .i64 0,.int .i64 0,.slice none 0 0,.int .i64 0,.int .u32 0,.int .u32 0,.bool false,.int .i64 0,.int .i64 0,.slice none 0 0,.slice none 0 0,.slice none 0 0,.int .i64 0] 102)).setRow W.heap.size #[.string g0,.int .i64 f3,.int .u32 (g7:Int),.int .u32 (f5:Int),.bool f8,.int .i64 d7,.int .i64 d9,.slice g3 d0 t,.int .i64 f4,.int .u32 (g8:Int),.int .u32 (f6:Int),.bool f9,.int .i64 d8,.int .i64 e0,.slice g4 d1 e1,.slice f2 d2 f1,.slice g6 d3 g5,.int .i64 f7]);have p5:Ext W T:=by rw [<-m0];exact((Q1.refl (fun _=>False) W).alloc _).after (Q1.setRow _ _ _) (fun b hb e=>by omega)
  have f0:T.heap[W.heap.size]?=some (.cells #[.string g0,.int .i64 f3,.int .u32 (g7:Int),.int .u32 (f5:Int),.bool f8,.int .i64 d7,.int .i64 d9,.slice g3 d0 t,.int .i64 f4,.int .u32 (g8:Int),.int .u32 (f6:Int),.bool f9,.int .i64 d8,.int .i64 e0,.slice g4 d1 e1,.slice f2 d2 f1,.slice g6 d3 g5,.int .i64 f7] 102 (0,0)):=by rw [<-m0];exact setRow_heap _ _ _ #[.string g0,.int .i64 f3,.int .u32 (g7:Int),.int .u32 (f5:Int),.bool f8,.int .i64 d7,.int .i64 d9,.slice g3 d0 t,.int .i64 f4,.int .u32 (g8:Int),.int .u32 (f6:Int),.bool f9,.int .i64 d8,.int .i64 e0,.slice g4 d1 e1,.slice f2 d2 f1,.slice g6 d3 g5,.int .i64 f7] _ _ (Q3 rfl)
  obtain⟨o6,v1⟩:=zE W.heap.size;have i5:=Zh (b0.out.keep p5 (fun _ c=>c.elim) (fun _ c=>c));obtain⟨Q,n3⟩:=zE (Jc n p);have D4:Q<64:=by rw [<-n3];exact Nat.lt_of_lt_of_le (Cj n p) (Nat.pow_le_pow_right (n:=2) zd x4)
  have y3:Q.testBit g=decide (g∈p):=by rw [<-n3];exact Q4g m2
  obtain⟨t4,t2,Y,i4,s5,o4⟩:=Zh6 f0 m0 p5 n3 y3 v1;clear f0 m0 p5 n3 y3 v1;go_upto_region 6 with (first | (refine Kc (by rfl) 102 (.tmp 25) rfl l6 (n5+g*18) zr _ _ s1.out Tryz.underlying102 rfl kz ?_) | (refine wpList_store_row rfl 102 (.tmp 9) (.tmp 26) rfl W.heap.size #[.string g0,.int .i64 f3,.int .u32 (g7:Int),.int .u32 (f5:Int),.bool f8,.int .i64 d7,.int .i64 d9,.slice g3 d0 t,.int .i64 f4,.int .u32 (g8:Int),.int .u32 (f6:Int),.bool f9,.int .i64 d8,.int .i64 e0,.slice g4 d1 e1,.slice f2 d2 f1,.slice g6 d3 g5,.int .i64 f7] (by rfl) (by rfl) _ _ (Q3 rfl) kz kz kz ?_;(try simp only [Act.put])))
  have f0:=t4.out;rw [t2.out,o4.out];rw [o4.out] at f0;have t3:=Zh f0;clear f0 t4 t2 s1;have u4:=cell_of_one i5.out.cU;rw [i4.out] at u4;have e5:=Q5h Q g oz;rw [s5.out] at e5;by_cases e6:g∈p
  ·have p7:bits .and .u64 ((Q:Int) / 2 ^ g) 1=1:=by rw [decide_eq_true e6] at e5;simpa using e5
   have I:=n7.out O (fun b=>O b\/(W.heap.size<=b/\b<T.heap.size)) _ W T n8.out Y.out.of (fun b hb=>hb.elim (fun c=>⟨.inl c,Nat.lt_of_lt_of_le (L.out b c).2 Y.out.size⟩) (fun c=>⟨.inr c.1,c.2⟩));rw [<-Sa (n:=n) (m:=m) e6] at I;have D2:=Nat.le_trans l3.out a9.out.size;obtain⟨z3,i5,B5⟩:=Zh3 I (b0.out.keep (O':=fun b=>O b\/(W.heap.size<=b/\b<T.heap.size)) Y.out (fun _ c=>c.elim) (fun _ c=>.inl c)) (a9.out.trans Y.out.of);have A6:Hid (∀ b,(O b\/(W.heap.size<=b/\b<T.heap.size))->n0<=b/\b<T.heap.size):=Zh fun b hb=>hb.elim (fun c=>⟨(L.out b c).1,Nat.lt_of_lt_of_le (L.out b c).2 Y.out.size⟩) (fun c=>⟨by omega,c.2⟩);clear I e5 D2;go_wp2;exact⟨⟨g+1,Z,a1,_,by omega,tz,rfl,i5.out,z3.out,A6.out,fun b c=>.inl (l1.out b c),B5.out,i6.out⟩,mz⟩
  ·have p7:(bits .and .u64 ((Q:Int) / 2 ^ g) 1 == 1)=false:=by rw [e5,decide_eq_false e6]
   have C2:¬ bits .and .u64 ((Q:Int) / 2 ^ g) 1=1:=by simpa using p7
   clear e5;go_upto_region 7 with (fail)
   have n2:n0<=T.heap.size:=Nat.le_trans l3.out (Nat.le_trans a9.out.size Y.out.size);have l2:=Zh n2;have r7:Hid (∀ b,O b->n0<=b/\b<T.heap.size):=Zh fun b c=>⟨(L.out b c).1,Nat.lt_of_lt_of_le (L.out b c).2 Y.out.size⟩;obtain⟨c7,n4⟩:=zE (Jc n (p++[g]));have F6:c7<64:=by rw [<-n4];exact Nat.lt_of_lt_of_le (Cj n _) (Nat.pow_le_pow_right (n:=2) zd x4)
   have p9:Q ||| 2 ^ g=c7:=by rw [<-n4,<-Q72 m2,i4.out]
   have D0:=Ws Q g oz oz;rw [p9] at D0;have m1:=Q2b Q D4 g oz (by rw [s5.out,decide_eq_false e6]);rw [p9] at m1;have o3:=Zh n4;have z1:=Zh m1;clear n4 p9 m1 u4 p7 C2
   go_cut [] from 32 to 39 (fun wx=>Co r BL X s R l n n0 lc (some ⟨l6,n5,none⟩) O (p++[g]) (.slice Z d a1) T wx)
   case first=>
    obtain⟨H,j6⟩:=zE T.drew;have C:Ext T H:=by rw [<-j6];exact(Q1.refl _ T).drew
    have i7:Hid (H.heap.size=T.heap.size):=Zh (by rw [<-j6];rfl);have k:=i5.out.keep C (fun _ c=>c.elim) (fun _ c=>c);have j:=k.cU;rw [i4.out] at j;refine Z5 (S:=fun D=>D.heap[s]?=some (.cells #[.int .u64 (Q:Int)] 237 (0,0))) [9] kz (by rw [j6];exact j) ?_;intro _;rw [j6];clear j6;refine tkE (i:=1) (d:=33) (v:=?_) rfl (Or.inl ⟨by rfl,?_⟩) j ?_;rotate_left
    ·intro w f;(try dsimp only at f);have t:=cell_of_one f;go_simp;try with_reducible rfl
    try simp only [Act.put,pq]
    refine tkE (i:=4) (d:=36) (v:=?_) rfl (Or.inl ⟨by rfl,?_⟩) j ?_;rotate_left
    ·intro w f;(try dsimp only at f);have t:=cell_of_one f;go_simp;try with_reducible rfl
    try simp only [Act.put,pq]
    refine tkE (i:=5) (d:=37) (v:=?_) rfl (Or.inl ⟨by rfl,?_⟩) j ?_;rotate_left
    ·intro w f;(try dsimp only at f);have t:=cell_of_one f;go_simp;try with_reducible rfl
    try simp only [Act.put,pq]
    refine tkE (i:=6) (d:=38) (v:=?_) rfl (Or.inl ⟨by rfl,?_⟩) j ?_;rotate_left
    ·intro w f;(try dsimp only at f);have t:=cell_of_one f;go_simp;try with_reducible rfl
    try simp only [Act.put,pq]
    refine tkE (i:=7) (d:=39) (v:=?_) rfl (Or.inl ⟨by rfl,?_⟩) j ?_;rotate_left
    ·intro w f;(try dsimp only at f);have t:=cell_of_one f;go_simp;try with_reducible rfl
    try simp only [Act.put,pq]
    refine rE [0,2] ?_;refine Q2.cons rfl (fun K hK=>?_) (Q2.cons rfl (fun K hK=>?_) Q2.nil)
    ·refine iw rfl ?_;have o:=cell_of_one k.cO;go_simp;refine hK.out _ _ j (fun _=>?_);clear hK K o;try simp only [Act.put,pq]
     refine rE [2] ?_;refine Q2.cons rfl (fun K hK=>?_) Q2.nil;refine iw rfl ?_;go_simp;obtain⟨i9,a8⟩:=zE (H.alloc (.cells #[.int .i64 (g:Int)] 3));have N:Ext H i9:=by rw [<-a8];exact(Q1.refl _ H).alloc _
     have c1:i9.heap[H.heap.size]?=some (.cells #[.int .i64 (g:Int)] 3 (0,0)):=by rw [<-a8];exact Q3 rfl
     obtain⟨o7,b9⟩:=zE H.heap.size;rw [a8,b9];rw [b9] at c1;clear a8 b9;have b1:=N.keep j;refine hK.out _ _ b1 (fun _=>?_);clear hK K;try simp only [Act.put,pq]
     refine rE [3] ?_;refine Q2.cons rfl (fun K hK=>?_) Q2.nil;refine iw rfl ?_;refine Y4 (.tmp 32) (.tmp 34) 48 rfl n0 3 _ 1 8 Tryz.underlying48 Tryz.infoI rfl zd _ _ _ rfl (by have:=Qf k.own N;rw [G.out] at this;exact this) ⟨o7,0,none⟩ 1 1 [.int .i64 (g:Int)] rfl rfl (W3 (vs:=[.int .i64 (g:Int)]) c1) (by intro x U;simp at U;subst U;rfl) (by unfold maxLen;omega) oz (Nat.le_trans l2.out (Nat.le_trans C.size N.size)) ?_;intro a0 a2 a5 j2 b6 j0;have b7:Q1 (fun b=>(Value.slice Z d a1).ownBlock=some b) H a5:=Q1.trans (Ext.of N) b6;have b5:=b6.heap b1 (fun e=>(k.row _ e).2.2.1 rfl);have c2:=b7.heap k.cO (fun e=>(k.row _ e).2.1 rfl);have j8:(Value.slice a0 (d+1) a2).ownBlock=(Value.slice Z d a1).ownBlock\/∃ u,H.heap.size<=u/\(Value.slice a0 (d+1) a2).ownBlock=some u:=j0.imp id fun e=>⟨_,N.size,e⟩;have j3:a5.ownsRow n0 3 1 (.slice a0 (d+1) a2) (p.length+1) (Qi (p++[g])):=by rw [G.out,Xg];exact j2
     obtain⟨i3,i0,i2⟩:=Zh3 b7 j8 j3;clear b7 j8 j3 b6 j2 j0;refine hK.out _ _ b5 (fun _=>?_);clear hK K;try simp only [Act.put,pq]
     refine rE [8] ?_;refine Q2.cons rfl (fun K hK=>?_) Q2.nil;refine iw rfl ?_;have o:=cell_of_one c2;have P:=free_of_one c2;go_simp;have E:=(Q1.set1 a5 r 0 (.slice a0 (d+1) a2)).heap b5 oz;refine hK.out _ _ E (fun _=>?_);clear hK K o P
     (try change Qj _ _ _ _ _ _ _ _ (Act.put _ none _) _)
     (try simp only [Act.put])
     refine rE [9] ?_;refine Q2.late rfl rfl (fun K hK=>?_) Q2.nil;refine iw rfl ?_;have o:=cell_of_one E;have P:=free_of_one E;go_simp;refine hK.out _ _ ?_;clear hK K o P
     (try change Qj _ _ _ _ _ _ _ _ (Act.put _ none _) _)
     (try simp only [Act.put])
     refine Qm kz ?_ _;obtain⟨V7,b8⟩:=zE ((a5.setCell ⟨r,0,none⟩ (.slice a0 (d+1) a2)).setCell ⟨s,0,none⟩ (.int .u64 (c7:Int)));have a3:=Mw (V7:=V7) i7.out k C i3.out i2.out i0.out r7.out c8.out l2.out G.out (by rw [o3.out];exact b8);have b4:=Zh a3;rw [b8];clear a3 b8 E b5 c2 i3 i2 i0 b1 c1 N j k C;go_wp2
     go_meet
     case rel=>exact b4.out
    ·refine iw rfl ?_;go_simp;obtain⟨i9,a8⟩:=zE (H.alloc (.cells #[.int .i64 (g:Int)] 3));have N:Ext H i9:=by rw [<-a8];exact(Q1.refl _ H).alloc _
     have c1:i9.heap[H.heap.size]?=some (.cells #[.int .i64 (g:Int)] 3 (0,0)):=by rw [<-a8];exact Q3 rfl
     obtain⟨o7,b9⟩:=zE H.heap.size;rw [a8,b9];rw [b9] at c1;clear a8 b9;have b1:=N.keep j;refine hK.out _ _ b1 (fun _=>?_);clear hK K;try simp only [Act.put,pq]
     refine rE [0] ?_;refine Q2.cons rfl (fun K hK=>?_) Q2.nil;refine iw rfl ?_;have o:=cell_of_one (N.keep k.cO);go_simp;refine hK.out _ _ b1 (fun _=>?_);clear hK K o;try simp only [Act.put,pq]
     refine rE [3] ?_;refine Q2.cons rfl (fun K hK=>?_) Q2.nil;refine iw rfl ?_;refine Y4 (.tmp 32) (.tmp 34) 48 rfl n0 3 _ 1 8 Tryz.underlying48 Tryz.infoI rfl zd _ _ _ rfl (by have:=Qf k.own N;rw [G.out] at this;exact this) ⟨o7,0,none⟩ 1 1 [.int .i64 (g:Int)] rfl rfl (W3 (vs:=[.int .i64 (g:Int)]) c1) (by intro x U;simp at U;subst U;rfl) (by unfold maxLen;omega) oz (Nat.le_trans l2.out (Nat.le_trans C.size N.size)) ?_;intro a0 a2 a5 j2 b6 j0;have b7:Q1 (fun b=>(Value.slice Z d a1).ownBlock=some b) H a5:=Q1.trans (Ext.of N) b6;have b5:=b6.heap b1 (fun e=>(k.row _ e).2.2.1 rfl);have c2:=b7.heap k.cO (fun e=>(k.row _ e).2.1 rfl);have j8:(Value.slice a0 (d+1) a2).ownBlock=(Value.slice Z d a1).ownBlock\/∃ u,H.heap.size<=u/\(Value.slice a0 (d+1) a2).ownBlock=some u:=j0.imp id fun e=>⟨_,N.size,e⟩;have j3:a5.ownsRow n0 3 1 (.slice a0 (d+1) a2) (p.length+1) (Qi (p++[g])):=by rw [G.out,Xg];exact j2
     obtain⟨i3,i0,i2⟩:=Zh3 b7 j8 j3;clear b7 j8 j3 b6 j2 j0;refine hK.out _ _ b5 (fun _=>?_);clear hK K;try simp only [Act.put,pq]
     refine rE [8] ?_;refine Q2.cons rfl (fun K hK=>?_) Q2.nil;refine iw rfl ?_;have o:=cell_of_one c2;have P:=free_of_one c2;go_simp;have E:=(Q1.set1 a5 r 0 (.slice a0 (d+1) a2)).heap b5 oz;refine hK.out _ _ E (fun _=>?_);clear hK K o P
     (try change Qj _ _ _ _ _ _ _ _ (Act.put _ none _) _)
     (try simp only [Act.put])
     refine rE [9] ?_;refine Q2.late rfl rfl (fun K hK=>?_) Q2.nil;refine iw rfl ?_;have o:=cell_of_one E;have P:=free_of_one E;go_simp;refine hK.out _ _ ?_;clear hK K o P
     (try change Qj _ _ _ _ _ _ _ _ (Act.put _ none _) _)
     (try simp only [Act.put])
     refine Qm kz ?_ _;obtain⟨V7,b8⟩:=zE ((a5.setCell ⟨r,0,none⟩ (.slice a0 (d+1) a2)).setCell ⟨s,0,none⟩ (.int .u64 (c7:Int)));have a3:=Mw (V7:=V7) i7.out k C i3.out i2.out i0.out r7.out c8.out l2.out G.out (by rw [o3.out];exact b8);have b4:=Zh a3;rw [b8];clear a3 b8 E b5 c2 i3 i2 i0 b1 c1 N j k C;go_wp2
     go_meet
     case rel=>exact b4.out
   case rest=>
    obtain⟨u0,u2,k6,j4,D3,k7⟩:=hcut;generalize wc=V7 at k6 j4 D3 k7 ⊢;have m8:(p++[g]).length=d+1:=by rw [List.length_append,G.out];rfl
    have w1:(p++[g]).length+m=n:=by rw [m8];have:=A9.out;have:=G.out;omega
    have x9:∀ x∈p++[g],x<n:=fun x U=>by
     rcases List.mem_append.1 U with c | c
     ·exact r9.out x c
     ·rw [List.mem_singleton] at c;omega
    obtain⟨D8,y1⟩:=Cz (m:=m) m2 e6;have y9:xs=(pre++Jo n m p g)++K6 n m (p++[g])++(D8++rest):=by rw [B8.out,y1];simp only [List.append_assoc]
    rw [m8] at k6 k7
    have v2:=j4.heap t3.out (by
     have E7:=(L.out _ b0.out.oO.1).2;have N:=(L.out _ b0.out.oO.2.1).2;have E8:=o4.out;rintro(e | e | e)
     ·omega
     ·omega
     ·have:=(b0.out.own.lt _ e).2;omega)
    have C9:=r8.out;have v5:=fun(F l4:World) (o9:Option Addr) (o8:Nat) (b3:List (Option Wd × List Value)) (hE:Ext V7 F) (k5:Jq F.heap.size (fun u=>Vs K i8 r s (.slice a4 d k9) u\/F.heap.size<=u) (.slice o9 M o8) l4 M b3) (e3:Ext F l4)=>
     Q23 c8.out n9.out n7.out o1.out l3.out b0.out n8.out L.out l1.out a9.out i6.out s4.out Y.out k6 j4 k7 A7.out hE k5 e3
    have m5:=fun(F:World) (hE:Ext V7 F)=>Q74 n9.out l3.out b0.out L.out a9.out i6.out s4.out Y.out j4 hE;have v7:=fun(F:World) (hE:Ext V7 F)=>z0.out F g9 _ ((r3.out F (m5 F hE).1).2 _ z9.out) (Vs K i8 r s (.slice a4 d k9)) no nc os (Sg B2.out (m5 F hE).2 z7.out r2.out) r8.out (m5 F hE).1 r2.out
    have x2:∀ b3:List (Option Wd × List Value),b3.map (·.1)=os.map (fun q=>Yd g9 q.1)->b3.map (·.1)=T0.map (Jm (ps.map (·.1)) (p++[g])):=fun b3 c=>by
     rw [c,show (fun q:Option Wd × List Value=>Yd g9 q.1)=(fun q3=>Yd g9 q3) ∘ (fun q=>q.1) from rfl,<-List.map_map,A0.out,List.map_map];apply List.map_congr_left;intro q3 _;exact(Q24 B4.out q3).symm
    have y7:(Value.slice u0 (d+1) u2).ownBlock=(Value.slice Z d a1).ownBlock\/∃ u,l5.heap.size<=u/\(Value.slice u0 (d+1) u2).ownBlock=some u:=k7.imp id fun⟨u,g1,g2⟩=>⟨u,by have:=a9.out.size;have:=Y.out.size;omega,g2⟩;obtain⟨s8,t5,q5,q4,q8,s0,t6,r4⟩:=Zh8 k6 v2 v7 v5 w1 x9 y9 x2;have B7:=Zh y7;have o2:=Zh m8;clear k6 v2 v7 v5 w1 x9 y9 x2 y7 m5 j4 k7 y1 m8 C9;go_upto_region 8 with (fail)
    obtain⟨F,l9⟩:=zE V7.drew;have C:Ext V7 F:=by rw [<-l9];exact(Q1.refl _ V7).drew
    have y4:=s8.out.keep C (fun _ c=>c.elim) (fun _ c=>c);have v3:=C.keep t5.out;have j:F.heap[R]?=some (.cells #[.func (.func 150) #[] #[.pointer (some ⟨r,0,none⟩),.pointer (some ⟨BL,0,none⟩),.pointer (some ⟨X,0,none⟩),.pointer (some ⟨s,0,none⟩),.pointer (some ⟨R,0,none⟩)]] 238 (0,0))/\F.heap[o6]?=some (.cells #[.string g0,.int .i64 f3,.int .u32 (g7:Int),.int .u32 (f5:Int),.bool f8,.int .i64 d7,.int .i64 d9,.slice g3 d0 t,.int .i64 f4,.int .u32 (g8:Int),.int .u32 (f6:Int),.bool f9,.int .i64 d8,.int .i64 e0,.slice g4 d1 e1,.slice f2 d2 f1,.slice g6 d3 g5,.int .i64 f7] 102 (0,0)):=⟨y4.cV,v3⟩;refine Z5 (S:=fun D=>D.heap[R]?=some (.cells #[.func (.func 150) #[] #[.pointer (some ⟨r,0,none⟩),.pointer (some ⟨BL,0,none⟩),.pointer (some ⟨X,0,none⟩),.pointer (some ⟨s,0,none⟩),.pointer (some ⟨R,0,none⟩)]] 238 (0,0))/\D.heap[o6]?=some (.cells #[.string g0,.int .i64 f3,.int .u32 (g7:Int),.int .u32 (f5:Int),.bool f8,.int .i64 d7,.int .i64 d9,.slice g3 d0 t,.int .i64 f4,.int .u32 (g8:Int),.int .u32 (f6:Int),.bool f9,.int .i64 d8,.int .i64 e0,.slice g4 d1 e1,.slice f2 d2 f1,.slice g6 d3 g5,.int .i64 f7] 102 (0,0))) [4,5] kz (by rw [l9];exact j) ?_;intro _;rw [l9];clear l9;refine tkE (i:=0) (d:=40) (v:=?_) rfl (Or.inl ⟨by rfl,?_⟩) j ?_;rotate_left
    ·intro w f;(try dsimp only at f);have t:=cell_of_one f.1;go_simp;try with_reducible rfl
    try simp only [Act.put,pq]
    refine tkE (i:=1) (d:=41) (v:=?_) rfl (Or.inl ⟨by rfl,?_⟩) j ?_;rotate_left
    ·intro w f;(try dsimp only at f);have D1:=f.2;refine X7 (x:=.tmp 9) ?_ o6 ?_ _ _ _ D1 Tryz.underlying102 Tryz.lawInfo <;> rfl
    try simp only [Act.put,pq]
    refine tkE (i:=2) (d:=42) (v:=?_) rfl (Or.inl ⟨by rfl,?_⟩) j ?_;rotate_left
    ·intro w f;(try dsimp only at f);have t:=cell_of_one f.1;go_simp;try with_reducible rfl
    try simp only [Act.put,pq]
    refine rE [3] ?_;refine Q2.cons rfl (fun K hK=>?_) Q2.nil;refine iw rfl ?_;go_simp;refine(q5.out _ C).mono ?_;rintro e l4 ⟨o9,o8,b3,rfl,k5,x0,e3⟩;obtain⟨y5,j9,u5,v0,j5,w5,w7⟩:=q4.out F l4 o9 o8 b3 C k5 e3;have u7:=And.intro (e3.keep j.1) (e3.keep j.2);have v9:=q9.out (p++[g]) _ _ _ _ _ _ _ _ q8.out s0.out t6.out y5 j9 u5 v0 k5.at (r4.out b3 x0) w5 w7;have q7:=Zh v9;have s3:=Zh j5;clear v9 y5 j9 u5 v0 j5 w5 w7 k5 x0 e3;refine hK.out _ _ u7 (fun _=>?_);clear hK K;try simp only [Act.put,pq]
    refine rE [4] ?_;refine Q2.late rfl rfl (fun K hK=>?_) Q2.nil;refine iw rfl ?_;go_simp;refine q7.out.mono ?_;rintro e d4 ⟨b,rfl,y8⟩;have t0:=Zh y8;clear y8 q7;refine hK.out _ _ ?_;clear hK K;try simp only [Act.put,pq]
    refine rE [5] ?_;refine Q2.late rfl rfl (fun K hK=>?_) Q2.nil;refine iw rfl ?_;go_simp;refine hK.out _ _ ?_;clear hK K;try simp only [Act.put,pq]
    refine Qm kz ?_ _;clear j u7 y4 v3 C;obtain⟨O',E1,a6,k8,x8,x6,j5,q2,j9,w4⟩:=t0.out;rw [o2.out] at k8 q2;obtain⟨e2,rfl⟩:=K5 (by have:=k8.own;rw [o2.out] at this;exact this);have F1:d+1<=a6:=by
     have c:=k8.own;rw [o2.out] at c;rcases c.2 with ⟨e,_⟩ | ⟨u,E5,E6,e,_,_,C7,_⟩
     ·cases e
     ·cases e;exact C7
    have t1:=Zh k8;have q6:=Zh (fun(d6:World) (e9:Mj r BL X s R l n n0 lc (some ⟨l6,n5,none⟩) O' p (.slice (some ⟨e2,0,none⟩) (d+1) a6) d4 d6)=>Q39 c8.out n9.out n7.out z6.out (fun b c=>Or.inl (l1.out b c)) o1.out s3.out i6.out B7.out x6 j5 x8 q2 j9 w4 G.out e9);clear k8 x8 x6 j5 q2 j9 w4 t0 s8 t5 t3 q5 q4 q8 s0 t6 r4 s3 q9 i5;go_upto_region 9 with (fail)
    have F2:(0:Int)<=(d:Int):=by omega
    have F3:(d:Int)<=(a6:Int):=by omega
    have F4:IntKind.i64.wrap (d:Int)=(d:Int):=IntWalk.i64_in _ oz;have m1:=z1.out
    go_cut [] from 45 to 53 (fun wx=>Mj r BL X s R l n n0 lc (some ⟨l6,n5,none⟩) O' p (.slice (some ⟨e2,0,none⟩) (d+1) a6) d4 wx)
    case first=>
     obtain⟨d5,j7⟩:=zE d4.drew;have C:Ext d4 d5:=by rw [<-j7];exact(Q1.refl _ d4).drew
     have i7:Hid (d5.heap.size=d4.heap.size):=Zh (by rw [<-j7];rfl);have k:=t1.out.keep C (fun _ c=>c.elim) (fun _ c=>c);have j:=k.cU;rw [o3.out] at j;refine Z5 (S:=fun D=>D.heap[s]?=some (.cells #[.int .u64 (c7:Int)] 237 (0,0))) [10] kz (by rw [j7];exact j) ?_;intro _;rw [j7];clear j7;refine tkE (i:=5) (d:=50) (v:=?_) rfl (Or.inl ⟨by rfl,?_⟩) j ?_;rotate_left
     ·intro w f;(try dsimp only at f);have t:=cell_of_one f;go_simp;try with_reducible rfl
     try simp only [Act.put,pq]
     refine tkE (i:=6) (d:=51) (v:=?_) rfl (Or.inl ⟨by rfl,?_⟩) j ?_;rotate_left
     ·intro w f;(try dsimp only at f);have t:=cell_of_one f;go_simp;try with_reducible rfl
     try simp only [Act.put,pq]
     refine tkE (i:=7) (d:=52) (v:=?_) rfl (Or.inl ⟨by rfl,?_⟩) j ?_;rotate_left
     ·intro w f;(try dsimp only at f);have t:=cell_of_one f;go_simp;try with_reducible rfl
     try simp only [Act.put,pq]
     refine tkE (i:=8) (d:=53) (v:=?_) rfl (Or.inl ⟨by rfl,?_⟩) j ?_;rotate_left
     ·intro w f;(try dsimp only at f);have t:=cell_of_one f;go_simp;try with_reducible rfl
     try simp only [Act.put,pq]
     refine rE [0,1] ?_;refine Q2.cons rfl (fun K hK=>?_) (Q2.cons rfl (fun K hK=>?_) Q2.nil)
     ·refine iw rfl ?_;have o:=cell_of_one k.cO;go_simp;refine hK.out _ _ j (fun _=>?_);clear hK K o;try simp only [Act.put,pq]
      refine rE [1] ?_;refine Q2.cons rfl (fun K hK=>?_) Q2.nil;refine iw rfl ?_;have o:=cell_of_one k.cO;go_simp;refine hK.out _ _ j (fun _=>?_);clear hK K o;try simp only [Act.put,pq]
      refine tkE (i:=2) (d:=47) (v:=?_) rfl (Or.inl ⟨by rfl,?_⟩) j ?_;rotate_left
      ·intro w f;(try dsimp only at f);have t:=cell_of_one f;go_simp;try with_reducible rfl
      try simp only [Act.put,pq]
      refine tkE (i:=3) (d:=48) (v:=?_) rfl (Or.inl ⟨by rfl,?_⟩) j ?_;rotate_left
      ·intro w f;(try dsimp only at f);have t:=cell_of_one f;go_simp;try with_reducible rfl
      try simp only [Act.put,pq]
      refine tkE (i:=4) (d:=49) (v:=?_) rfl (Or.inl ⟨by rfl,?_⟩) j ?_;rotate_left
      ·intro w f;(try dsimp only at f);have t:=cell_of_one f;go_simp;try with_reducible rfl
      try simp only [Act.put,pq]
      refine rE [9] ?_;refine Q2.cons rfl (fun K hK=>?_) Q2.nil;refine iw rfl ?_;have o:=cell_of_one k.cO;have P:=free_of_one k.cO;go_simp;have E:=(Q1.set1 d5 r 0 (.slice (some ⟨e2,0,none⟩) d a6)).heap j oz;refine hK.out _ _ E (fun _=>?_);clear hK K o P
      (try change Qj _ _ _ _ _ _ _ _ (Act.put _ none _) _)
      (try simp only [Act.put])
      refine rE [10] ?_;refine Q2.late rfl rfl (fun K hK=>?_) Q2.nil;refine iw rfl ?_;have o:=cell_of_one E;have P:=free_of_one E;go_simp;refine hK.out _ _ ?_;clear hK K o P
      (try change Qj _ _ _ _ _ _ _ _ (Act.put _ none _) _)
      (try simp only [Act.put])
      refine Qm kz ?_ _;obtain⟨d6,c0⟩:=zE ((d5.setCell ⟨r,0,none⟩ (.slice (some ⟨e2,0,none⟩) d a6)).setCell ⟨s,0,none⟩ (.int .u64 (Q:Int)));have a3:=Mv (V7:=d6) i7.out k C G.out c8.out (by rw [i4.out];exact c0);have b4:=Zh a3;rw [c0];clear a3 c0 E j k C;go_wp2
      go_meet
      case rel=>exact b4.out
     ·refine iw rfl ?_;have o:=cell_of_one k.cO;go_simp;refine hK.out _ _ j (fun _=>?_);clear hK K o;try simp only [Act.put,pq]
      refine tkE (i:=2) (d:=47) (v:=?_) rfl (Or.inl ⟨by rfl,?_⟩) j ?_;rotate_left
      ·intro w f;(try dsimp only at f);have t:=cell_of_one f;go_simp;try with_reducible rfl
      try simp only [Act.put,pq]
      refine tkE (i:=3) (d:=48) (v:=?_) rfl (Or.inl ⟨by rfl,?_⟩) j ?_;rotate_left
      ·intro w f;(try dsimp only at f);have t:=cell_of_one f;go_simp;try with_reducible rfl
      try simp only [Act.put,pq]
      refine rE [0] ?_;refine Q2.cons rfl (fun K hK=>?_) Q2.nil;refine iw rfl ?_;have o:=cell_of_one k.cO;go_simp;refine hK.out _ _ j (fun _=>?_);clear hK K o;try simp only [Act.put,pq]
      refine tkE (i:=4) (d:=49) (v:=?_) rfl (Or.inl ⟨by rfl,?_⟩) j ?_;rotate_left
      ·intro w f;(try dsimp only at f);have t:=cell_of_one f;go_simp;try with_reducible rfl
      try simp only [Act.put,pq]
      refine rE [9] ?_;refine Q2.cons rfl (fun K hK=>?_) Q2.nil;refine iw rfl ?_;have o:=cell_of_one k.cO;have P:=free_of_one k.cO;go_simp;have E:=(Q1.set1 d5 r 0 (.slice (some ⟨e2,0,none⟩) d a6)).heap j oz;refine hK.out _ _ E (fun _=>?_);clear hK K o P
      (try change Qj _ _ _ _ _ _ _ _ (Act.put _ none _) _)
      (try simp only [Act.put])
      refine rE [10] ?_;refine Q2.late rfl rfl (fun K hK=>?_) Q2.nil;refine iw rfl ?_;have o:=cell_of_one E;have P:=free_of_one E;go_simp;refine hK.out _ _ ?_;clear hK K o P
      (try change Qj _ _ _ _ _ _ _ _ (Act.put _ none _) _)
      (try simp only [Act.put])
      refine Qm kz ?_ _;obtain⟨d6,c0⟩:=zE ((d5.setCell ⟨r,0,none⟩ (.slice (some ⟨e2,0,none⟩) d a6)).setCell ⟨s,0,none⟩ (.int .u64 (Q:Int)));have a3:=Mv (V7:=d6) i7.out k C G.out c8.out (by rw [i4.out];exact c0);have b4:=Zh a3;rw [c0];clear a3 c0 E j k C;go_wp2
      go_meet
      case rel=>exact b4.out
    case rest=>
     have v8:=q6.out _ hcut;clear hcut;generalize wc=d6 at v8 ⊢;obtain⟨t7,t9,u1,q0,x7,x5,u9,q1,e7,w3⟩:=v8;rw [G.out] at q0 q1;obtain⟨s7,r6,r5,s2,s9,c9,r1⟩:=Zh7 q0 x7 x5 u9 q1 e7 w3;clear q0 x7 x5 u9 q1 e7 w3 q6 t1;cases b with
     | false=>
      go_wp2;go_ret;exact⟨false,rfl,t7,t9,u1,by rw [G.out];exact s7.out,r6.out,r5.out,s2.out,by rw [G.out];exact s9.out,(fun c=>by cases c),fun _=>r1.out uz⟩
     | true=>
      have e7:=c9.out uz;rw [List.append_assoc,<-Fh e6] at e7;have z5:=Zh e7;clear e7 c9 r1;go_wp2;exact⟨⟨g+1,t9,u1,t7,by omega,tz,rfl,s7.out,z5.out,r6.out,r5.out,s2.out,s9.out⟩,mz⟩
theorem Cm(n:Nat):K6 n n []=Zn n (List.range n):=by
 unfold K6 Ux;have a:(List.range n).filter (fun i=>!([]:List Nat).contains i)=List.range n:=List.filter_eq_self.2 (fun _ _=>rfl);rw [a];simp
theorem Lh{w0 w:World}{BL j n M lc pc:Nat}{lo T:Option Addr}{ps:Qy}{qs:Qa}(U:Ext w0 w)(d3:Z9 w0 (.slice lo n lc) ps) (d4:ps.length=n) (i0:n<=6) (H:Qu w0 (.slice T M pc) qs) (X:qs.length=M) (b8:M<=1000) (c0:Tab w0)
  (Y:w.heap[BL]?=some (.cells #[.slice lo n lc] 26 (0,0))) (Z:w.heap[j]?=some (.cells #[.slice T M pc] 61 (0,0))) :
  Ut Tryz.prog 149 #[.pointer (some ⟨BL,0,none⟩),.pointer (some ⟨j,0,none⟩)] (fun _ _=>True) (fun _ _=>Ey M (ps.map (·.1)) (qs.map fun q=>some q.1.1)) (Zn n (List.range n)) (fun b=>b<w0.heap.size\/b=BL\/b=j) w:=by
 intro I J Jx r E b4 b6 c1 F;have g7:=(Array.getElem?_eq_some_iff.1 Y).1;have g8:=(Array.getElem?_eq_some_iff.1 Z).1;have i8:=U.size;have i9:=E.size;have b7:∀ b,(b<w0.heap.size\/b=BL\/b=j)->b<r.heap.size:=fun b hb=>by rcases hb with e | rfl | rfl <;> omega
 have a2:∀ V,Q1 (fun b=>¬ (b<w0.heap.size\/b=BL\/b=j)) w V->Ext w0 V:=fun V hV=>Q1.after U hV (fun b hb k=>k (.inl hb));have b3:∀ O O' pre A B,J O pre A->Q1 O A B->(∀ b,O' b->(O b\/A.heap.size<=b)/\b<B.heap.size)->J O' pre B:=fun O O' pre A B h1 h2 h3=>b4 O O' pre A B h1 (h2.mono fun b _ e=>⟨e,trivial⟩) h3;have b5:∀ O O' pre A B,Jx O pre A->Q1 O A B->(∀ b,O' b->(O b\/A.heap.size<=b)/\b<B.heap.size)->Jx O' pre B:=fun O O' pre A B h1 h2 h3=>b6 O O' pre A B h1 (h2.mono fun b _ e=>⟨e,trivial⟩) h3;have c2:=E.heap Y (fun e=>e (.inr (.inl rfl)));have c3:=E.heap Z (fun e=>e (.inr (.inr rfl)));have b2:=a2 r E;have d6:=fun(V:World) (hE:Ext w0 V)=>Px (Zc H hE) X b8;obtain⟨f6,g0,a7,e8,f5,a6,f0,e3⟩:=Zh8 d6 c1 b3 b5 a2 b2 b7 F;obtain⟨e5,e6,f2,f3,f7,f8,a9,a8⟩:=Zh8 c2 c3 d3 d4 c0 E H X;clear d6 c1 b3 b5 a2 b2 b7 F c2 c3 b4 b6 U d3 d4 H X c0 Y Z E g7 g8 i8 i9;show Calls _ _ #[.func (.yield I) #[] #[],.pointer (some ⟨BL,0,none⟩),.pointer (some ⟨j,0,none⟩)] _ _;go_enter Tryz.func149,Tryz.ntmps149;go_upto_region 5 with (fail)
 obtain⟨a,z⟩:=zE r.heap.size;rw [z];obtain⟨f,s⟩:=zE ((((r.alloc (.cells #[.func (.yield I) #[] #[]] 236)).alloc (.cells #[.slice none 0 0] 48)).alloc (.cells #[.int .u64 0] 237)).alloc (.cells #[.func (.func 150) #[] #[.pointer (some ⟨a+1,0,none⟩),.pointer (some ⟨BL,0,none⟩),.pointer (some ⟨a,0,none⟩),.pointer (some ⟨a+1+1,0,none⟩),.pointer (some ⟨a+1+1+1,0,none⟩)]] 238));have P:Ext r f:=by rw [<-s];exact(((((Q1.refl _ r).alloc _).alloc _).alloc _).alloc _)
 have e0:f.heap.size=a+1+1+1+1:=by rw [<-s,<-z];simp
 have c6:f.heap[a]?=some (.cells #[.func (.yield I) #[] #[]] 236 (0,0)):=by rw [<-s];exact Q6 (Q6 (Q6 (Q3 z.symm)))
 have c4:f.heap[a+1]?=some (.cells #[.slice none 0 0] 48 (0,0)):=by rw [<-s];exact Q6 (Q6 (Q3 (by simp;omega)))
 have c5:f.heap[a+1+1]?=some (.cells #[.int .u64 0] 237 (0,0)):=by rw [<-s];exact Q6 (Q3 (by simp;omega))
 have a0:f.heap[a+1+1+1]?=some (.cells #[.func (.func 150) #[] #[.pointer (some ⟨a+1,0,none⟩),.pointer (some ⟨BL,0,none⟩),.pointer (some ⟨a,0,none⟩),.pointer (some ⟨a+1+1,0,none⟩),.pointer (some ⟨a+1+1+1,0,none⟩)]] 238 (0,0)):=by rw [<-s];exact Q3 (by simp;omega)
 rw [s];clear s;have W:∀ b,(b<w0.heap.size\/b=BL\/b=j)->b<a:=by rw [<-z];exact f0.out
 have d8:Vis (a+1) BL a (a+1+1) (a+1+1+1) I n a lo lc (fun b=>a<=b/\b<f.heap.size) [] (.slice none 0 0) f:=
  ⟨c4,P.keep e5.out,c6,by rw [Q3m];exact c5,a0,World.ownsRow_nil _ _ _ _,(fun g hg=>by cases hg),⟨by omega,by omega⟩,⟨by omega,by omega⟩,⟨by omega,by omega⟩,⟨by omega,by omega⟩⟩
 have b1:Dk (a+1) BL a (a+1+1) (a+1+1+1) a:=⟨W BL (.inr (.inl rfl)),by omega,by omega,by omega,by omega,by omega,by omega,by omega,by omega,by omega⟩;obtain⟨N,R⟩:=zE f.drew;have x:Ext f N:=by rw [<-R];exact(Q1.refl _ f).drew
 have C:N.heap[a+1+1+1]?=some (.cells #[.func (.func 150) #[] #[.pointer (some ⟨a+1,0,none⟩),.pointer (some ⟨BL,0,none⟩),.pointer (some ⟨a,0,none⟩),.pointer (some ⟨a+1+1,0,none⟩),.pointer (some ⟨a+1+1+1,0,none⟩)]] 238 (0,0))/\N.heap[j]?=some (.cells #[.slice T M pc] 61 (0,0)):=⟨x.keep a0,x.keep (P.keep e6.out)⟩;have d9:=d8.keep x (fun _ e=>e.elim) (fun _ e=>e);obtain⟨f9,e4,f1,a5,f4⟩:=Zh5 d9 b1 W (P.trans x) z;have g1:Hid (f.heap.size<=N.heap.size/\f.heap.size=a+1+1+1+1):=Zh ⟨x.size,e0⟩;clear c4 c5 c6 a0 d8 d9 b1 W P e0;refine Z5 (S:=fun D=>D.heap[a+1+1+1]?=some (.cells #[.func (.func 150) #[] #[.pointer (some ⟨a+1,0,none⟩),.pointer (some ⟨BL,0,none⟩),.pointer (some ⟨a,0,none⟩),.pointer (some ⟨a+1+1,0,none⟩),.pointer (some ⟨a+1+1+1,0,none⟩)]] 238 (0,0))/\D.heap[j]?=some (.cells #[.slice T M pc] 61 (0,0))) [3] kz (by rw [R];exact C) ?_;intro _;rw [R];clear R z x;refine tkE (i:=0) (d:=8) (v:=?_) rfl (Or.inl ⟨by rfl,?_⟩) C ?_;rotate_left
 ·intro w t;(try dsimp only at t);have g2:=cell_of_one t.1;have g3:=cell_of_one t.2;go_simp;try with_reducible rfl
 try simp only [Act.put,pq]
 refine tkE (i:=1) (d:=9) (v:=?_) rfl (Or.inl ⟨by rfl,?_⟩) C ?_;rotate_left
 ·intro w t;(try dsimp only at t);have g2:=cell_of_one t.1;have g3:=cell_of_one t.2;go_simp;try with_reducible rfl
 try simp only [Act.put,pq]
 refine rE [2] ?_;refine Q2.cons rfl (fun K hK=>?_) Q2.nil;refine iw rfl ?_;go_simp;refine(f6.out _ (a6.out.trans a5.out)).mono ?_;rintro k l ⟨e2,a3,rfl,Q,y⟩;have G:Ext r l:=a5.out.trans y;have j2:=f4.out;have i5:=G.size;have j0:=g1.out;have j1:=y.size;have d7:Vis (a+1) BL a (a+1+1) (a+1+1+1) I n a lo lc (fun b=>a<=b/\b<l.heap.size) [] (.slice none 0 0) l:=f9.out.keep y (fun _ e=>e.elim) (fun b e=>⟨e.1,by omega⟩);have c8:J (fun b=>a<=b/\b<l.heap.size) [] l:=a7.out _ _ _ r l e3.out G.of (fun b e=>⟨.inr oz,e.2⟩);have d5:=Dl a8.out Q (fun q a1=>(((Zc a9.out (a6.out.trans G)).2 q a1).2))
 have d1:Qr (Vs (fun b=>b<w0.heap.size\/b=BL\/b=j) (fun b=>a<=b/\b<l.heap.size) (a+1) (a+1+1) (.slice none 0 0)) (.slice e2 M a3):=fun g o m c k F=>by
  cases k;obtain⟨j8,g9⟩:=K5 (n:=M - 1) (cap:=a3) (by rw [show M - 1+1=M by omega];exact Q);cases g9;have:=Q.lt g rfl;exact .inr ⟨⟨by omega,by omega⟩,by omega,by omega,(fun k=>by cases k)⟩
 have d2:H7 (Vs (fun b=>b<w0.heap.size\/b=BL\/b=j) (fun b=>a<=b/\b<l.heap.size) (a+1) (a+1+1) (.slice none 0 0)) (Jy qs):=fun p H u hu v L k g o m c e1 F=>by
  obtain⟨q,a1,rfl⟩:=List.mem_map.1 H;obtain⟨_,j9,k0,i4,i1,_⟩:=a9.out.2 q a1;cases hu;rw [i4] at k;simp only [List.getD_cons_zero,List.cons.injEq,and_true] at k;rw [<-k.1] at e1;exact .inl (.inl (Nf i1 g o m c e1 F))
 have c7:=Q2u (w:=w) (M:=M) (n0:=a) (xs:=Zn n (List.range n)) (T0:=qs.map fun q=>some q.1.1) (J:=J) (Jx:=Jx) f2.out f3.out i0 f7.out b8 (by rw [List.length_map,a8.out]) e4.out (.inr (.inl rfl)) f1.out f5.out a7.out e8.out (fun O pre L rest A ys=>g0.out O pre L rest A ys) n [] _ [] [] _ l e2 a3 (Jy qs) zy (fun L hx=>by cases hx) (by rw [Cm];simp) d7 c8 (fun b e=>e) (f8.out.trans G.of) d5 (by unfold Jy;rw [List.map_map,List.map_map];rfl) d1 d2;have a4:=Zh c7;have b9:=And.intro (y.keep C.1) (y.keep C.2);clear c7 d1 d2 d5 c8 d7 G j2 i5 j0 j1 Q y;refine hK.out _ _ b9 (fun _=>?_);clear hK K;try simp only [Act.put,pq]
 refine rE [3] ?_;refine Q2.late rfl rfl (fun K hK=>?_) Q2.nil;refine iw rfl ?_;go_simp;refine a4.out.mono ?_;rintro k j5 ⟨b,rfl,b0,j6,j7,i6,i3,i2,g6,i7,c9,d0⟩;have e7:=Zh c9;have e9:=Zh d0;clear i6 i3 i2 g6 i7 c9 d0 a4;refine hK.out _ _ ?_;clear hK K;try simp only [Act.put,pq]
 refine Qm kz ?_ _;clear C b9;go_wp2;refine bodyPost_end (results_none rfl _ _ _) rfl ?_;cases b with
 | true=>exact⟨⟨_,rfl⟩,b0,.inl (by have:=e7.out rfl;rw [List.nil_append,Cm] at this;exact this)⟩
 | false=>
  obtain⟨j3,L,j4,g4,g5⟩:=e9.out rfl;exact⟨⟨_,rfl⟩,b0,.inr ⟨j3,L,⟨j4,g4⟩,g5⟩⟩
theorem N5(lo a:Option Addr)(n lc M pc:Nat)(w:World) :
  Calls Tryz.prog 100 #[.slice lo n lc,.slice a M pc] w fun e w'=>e=.returned (.func (.func 149) #[] #[.pointer (some ⟨w.heap.size,0,none⟩),.pointer (some ⟨w.heap.size+1,0,none⟩)])/\w'.heap[w.heap.size]?=some (.cells #[.slice lo n lc] 26 (0,0))/\w'.heap[w.heap.size+1]?=some (.cells #[.slice a M pc] 61 (0,0))/\Ext w w'/\w'.heap.size=w.heap.size+2:=by
 go_enter Tryz.func100,Tryz.ntmps100;go_wp2;go_ret;exact⟨rfl,Q6 (Q3 rfl),Q3 zy,((Q1.refl _ w).alloc _).alloc _,by simp⟩
end Go.Proofs.YtfdlhlghcbeblaaGreatDoor
