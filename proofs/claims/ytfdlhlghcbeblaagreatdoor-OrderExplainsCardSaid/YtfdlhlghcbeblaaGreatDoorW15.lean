/- slices.ContainsFunc over laws; derive.Check (printed by genderchk.py). -/
import Derived.Test.YtfdlhlghcbeblaaGreatDoorW14
set_option maxRecDepth 100000
set_option maxHeartbeats 16000000
namespace Go.Proofs.YtfdlhlghcbeblaaGreatDoor
open Go.RowKit Go.Ab
attribute [local go_sem] Oper.semAt_some Z1 Qk
theorem Q6c{w:World}{ao:Option Addr}{N cap:Nat}{ps:Qg}(H:Qz w (.slice ao N cap) ps) (E:ps.length=N) (U:N<=maxLen) (f:Nat) (lb:Array Value) (m:∀ args w,(callFunc f args).run Tryz.prog w=.ok (.enter f args) w)
  (F:Q5->Bool) (D:∀ p∈ps,∀ V,Ext w V->Calls Tryz.prog f (#[.agg p.2.toArray]++lb) V fun e w'=>e=.returned (.bool (F p.1))/\Ext V w') :
  Calls Tryz.prog 187 #[.slice ao N cap,.func (.func f) #[] lb] w fun e w'=>∃ z:Int,e=.returned (.int .i64 z)/\decide (0<=z)=ps.any (fun p=>F p.1)/\Ext w w':=by
 unfold maxLen at U;obtain⟨M,L,y,K⟩:=Zh4 H D E m;clear H D E m;go_enter Tryz.func187,Tryz.ntmps187;go_wp2
 refine wp_loop (fun a r=>∃(b:Nat),b<=N/\a.defers=[]/\gS a [0,1,7,8]=(19,[.slice ao N cap,.func (.func f) #[] lb,.int .i64 N,.int .i64 b])/\(ps.take b).any (fun p=>F p.1)=false/\Ext w r)
  (fun a _=>N - (intOf (a.tmps.getD 8 undef)).toNat) ?_ ?_
 ·exact⟨0,by omega,rfl,rfl,by simp,Q0.refl _ _⟩
 rintro⟨a4,_⟩ r ⟨b,a3,R,J,G,g⟩;subst R;obtain⟨a5,rfl⟩:=Qq J;clear J;have u:=Zh G;clear G;by_cases S:b<N
 ·have Q:(b:Int)<(N:Int):=by omega
  have a1:(0:Int)<=(b:Int):=by omega
  have n:b<ps.length:=by rw [y.out];exact S
  obtain⟨P,X,a0,I,a2,o,T,l⟩:=(M.out.ext g).at n;simp only [zV] at I;obtain⟨rfl,W,rfl⟩:=I;clear W;have i:=L.out _ (List.getElem_mem n) r g;obtain⟨j,q⟩:=zE (ps[b]);have Y:Hid (ps[b]=j):=Zh q;rw [q] at o l i;obtain⟨k,s⟩:=zE (F j.1);rw [s] at i;have v:Hid (F ps[b].1=k):=Zh (by rw [q];exact s);obtain⟨a6,O⟩:=j;dsimp only at o l i;obtain⟨x,A,t⟩:=Zh3 i o l;clear i q s o l T;have m:=K.out
  go_wp2_with (refine Yn (by rfl) 102 (.tmp 14) rfl P (X+b*18) zr O _ A.out Tryz.underlying102 rfl (by rw [t.out];kernel_rfl) ?_)
  clear m;refine x.out.mono ?_;rintro e Z ⟨rfl,C⟩;have B:=g.trans C;clear x g C A t;cases k
  ·have c:(ps.take (b+1)).any (fun p=>F p.1)=false:=by
    rw [List.take_succ_eq_append_getElem n,List.any_append,u.out];simp [v.out]
   have d:=Zh c;clear c;go_wp2;exact⟨⟨b+1,by omega,tz,rfl,d.out,B⟩,nz⟩
  ·have c:ps.any (fun p=>F p.1)=true:=List.any_eq_true.2 ⟨_,List.getElem_mem n,v.out⟩;have d:=Zh c;clear c;go_wp2;go_ret;exact⟨_,rfl,by rw [d.out];simp,B⟩
 ·obtain rfl:b=N:=by omega
  have Q:¬ (b:Int)<(b:Int):=by omega
  have c:ps.any (fun p=>F p.1)=false:=by have:=u.out;rwa [List.take_of_length_le (by rw [y.out];exact Nat.le_refl _)] at this
  have d:=Zh c;clear c;go_wp2;go_ret;exact⟨_,rfl,by rw [d.out];simp,g⟩
theorem Cv{w:World}{ao:Option Addr}{N cap:Nat}{ps:Qg}(g:Qz w (.slice ao N cap) ps) (c:ps.length=N) (m:N<=maxLen) (a:Nat) (lb:Array Value) (d:∀ args w,(callFunc a args).run Tryz.prog w=.ok (.enter a args) w)
  (F:Q5->Bool) (b:∀ p∈ps,∀ V,Ext w V->Calls Tryz.prog a (#[.agg p.2.toArray]++lb) V fun e w'=>e=.returned (.bool (F p.1))/\Ext V w') :
  Calls Tryz.prog 147 #[.slice ao N cap,.func (.func a) #[] lb] w fun e w'=>e=.returned (.bool (ps.any fun p=>F p.1))/\Ext w w':=by
 have f:=Q6c g c m (cap:=cap) a lb d F b;have j:=Zh f;clear f b g d c;go_enter Tryz.func147,Tryz.ntmps147;go_wp2_with fail;refine j.out.mono ?_;rintro e n ⟨o,rfl,i,l⟩;have k:=Zh i;clear i;go_wp2;go_ret;exact⟨by rw [<-k.out];rfl,l⟩
theorem Q3c{w:World}{l:Q5}{cs:List Value}(g:Zf w l cs)(z:Tab w) :
  Calls Tryz.prog 148 #[.agg cs.toArray] w fun e w'=>e=.returned (.bool (!Zw l))/\Ext w w':=by
 have f:=fun(V:World) (hE:Ext w V)=>Fz (g.ext hE) (z.keep hE id);obtain⟨L,E,Q,G,J,p,r,M,k,t,F,R,H,K,q,s,N,m,u,C,n,B,P,o,O,I,rfl,Y,a6,a7,X,a5,a4,a0,a1,a2,a3,Z,a8,a9,b0,b1,b2⟩:=Y9 g;have d:Hb l=if Zw l=true then 0 else 17:=rfl
 obtain⟨a,A⟩:=zE (Zw l);rw [A] at d ⊢;rw [d] at f;have j:=Zh f;clear f g z d A;go_enter Tryz.func148,Tryz.ntmps148;go_upto_region 1 with (fail)
 obtain⟨S,b⟩:=zE (w.alloc (.cells #[.string L,.int .i64 E,.int .u32 (Q:Int),.int .u32 (G:Int),.bool J,.int .i64 p,.int .i64 r,.slice M k t,.int .i64 F,.int .u32 (R:Int),.int .u32 (H:Int),.bool K,.int .i64 q,.int .i64 s,.slice N m u,.slice C n B,.slice P o O,.int .i64 I] 102));have x:Ext w S:=by rw [<-b];exact(Q0.refl _ w).alloc _
 have i:S.heap[w.heap.size]?=some (.cells #[.string L,.int .i64 E,.int .u32 (Q:Int),.int .u32 (G:Int),.bool J,.int .i64 p,.int .i64 r,.slice M k t,.int .i64 F,.int .u32 (R:Int),.int .u32 (H:Int),.bool K,.int .i64 q,.int .i64 s,.slice N m u,.slice C n B,.slice P o O,.int .i64 I] 102 (0,0)):=by rw [<-b];exact Q2 rfl
 rw [b];obtain⟨T,v⟩:=zE w.heap.size;rw [v] at i ⊢;have W:=Zh i;have c:=Zh x;clear b i v x
 go_wp2_with (refine wpList_load_row rfl 102 (.tmp 1) rfl T rfl _ _ _ _ W.out Tryz.underlying102 rfl Tryz.lawInfo ?_)
 refine(j.out _ c.out).mono ?_;rintro e b3 ⟨rfl,y⟩;have U:=Zh (c.out.trans y);clear y j c;cases a
 all_goals
  go_wp2;go_ret;exact⟨rfl,U.out⟩
theorem Pf{w:World}{ps:Qg}{lo:Option Addr}{n lc:Nat}(f:Qz w (.slice lo n lc) ps) (g:ps.length=n) (o:Tab w) :
  Calls Tryz.prog 99 #[.slice lo n lc] w fun e w'=>e=.returned (.int .i64 (U2 (ps.map (·.1))))/\Ext w w':=by
 have q:n<=maxLen:=by rw [<-g];exact f.1.2.1
 have k:=Cv f g q 148 #[] (enters_of Tryz.func148 kz rfl) (fun l=>!Zw l) (fun a d V c=>Q3c ((f.2 a d).ext c) (o.keep c id));have r:U2 (ps.map (·.1))=if 64<n then 12 else if (ps.any fun a=>!Zw a.1)=true then 17 else 0:=by
  unfold U2;rw [List.length_map,g];by_cases b:64<n
  ·rw [if_pos b,if_pos b]
  ·rw [if_neg b,if_neg b];cases h2:ps.any fun a=>!Zw a.1 with
   | false=>rw [if_pos (by rw [List.all_map,List.all_eq_true];intro a d;have:=List.any_eq_false.1 h2 a d;simpa using this)];rfl
   | true=>rw [if_neg (by rw [List.all_map,List.all_eq_true];intro u;obtain⟨a,d,m⟩:=List.any_eq_true.1 h2;have:=u a d;simp at m this;rw [m] at this;cases this)];rfl
 rw [r];obtain⟨j,p⟩:=zE (ps.any fun a=>!Zw a.1);rw [p] at k ⊢;unfold maxLen at q;have i:=Zh k;clear k r p f g o;go_enter Tryz.func99,Tryz.ntmps99;by_cases b:64<n
 ·have t:(n:Int) > 64:=by omega
  rw [if_pos b];clear i;go_wp2;go_ret;exact⟨rfl,Q0.refl _ _⟩
 have t:¬ (n:Int) > 64:=by omega
 rw [if_neg b];go_wp2_with fail;refine i.out.mono ?_;rintro e v ⟨rfl,c⟩;have s:=Zh c;clear c i;cases j
 all_goals
  go_wp2;go_ret;exact⟨rfl,s.out⟩
def Qe1(l:Wd)(i:Nat):Bool:=(l.take i).any fun s=>!okS s
def Qdn(n:Nat)(l:List Yt)(i:Nat):Bool:=(l.take i).any fun x=>!J7 n x
def Kb(W:World)(u v x:Value):Prop:=Qx (fun g=>g<W.heap.size/\u.ownBlock≠some g/\v.ownBlock≠some g) x
structure TrP (b:Nat) (W:World) (u v:Value) (vals:List Value) (tr:List (Nat × Wd)):Prop where
 ou:W.ownsRow b 3 1 u tr.length (Qd (tr.map (·.1)))
 ov:W.ownsRow b 99 1 v tr.length vals
 wd:Y6 W vals (tr.map (·.2))
 wk:∀ x∈vals,Kb W u v x
theorem TrP.nil(b:Nat)(W:World):TrP b W (.slice none 0 0) (.slice none 0 0) [] []:=⟨World.ownsRow_nil _ _ _ _,World.ownsRow_nil _ _ _ _,trivial,fun x hx=>by cases hx⟩
theorem TrP.ext{b:Nat}{A B:World}{u v:Value}{vals:List Value}{tr:List (Nat × Wd)} (h:TrP b A u v vals tr) (ht:Ext A B):TrP b B u v vals tr:=
 ⟨Qe h.ou ht,Qe h.ov ht,h.wd.ext ht,fun x hx=>(h.wk x hx).mono fun _g hg=>⟨Nat.lt_of_lt_of_le hg.1 ht.size,hg.2⟩⟩
theorem TrP.out{b:Nat}{A:World}{u v:Value}{vals:List Value}{tr:List (Nat × Wd)} (h:TrP b A u v vals tr):Uo b A u v tr:=⟨h.ou,vals,h.ov,h.wd⟩
theorem Kb.ext{A B:World}{u v x:Value}(h:Kb A u v x)(ht:Ext A B):Kb B u v x:=h.mono fun _g hg=>⟨Nat.lt_of_lt_of_le hg.1 ht.size,hg.2⟩
theorem Kb.own{W:World}{b k:Nat}{i j f:TypeId}{s1 s2 s p q r:Nat}{u v x:Value}{t w y:List Value}(n:W.ownsRow b i s1 u p t)(o:W.ownsRow b j s2 v q w)(d:W.ownsRow k f s x r y)(l:i≠f)(m:j≠f):Kb W u v x:=by
 intro c F E z a D;have g:x.ownBlock=some c:=by
  rcases d.2 with ⟨e,_⟩ | ⟨C,A,B,e,_⟩
  ·rw [e] at a;cases a
  ·rw [e] at a;cases a;rw [e];rfl
 exact⟨(d.lt c g).2,fun hu'=>Gy n d l c hu' g,fun hv'=>Gy o d m c hv' g⟩
theorem TrP.push{b:Nat}{V W:World}{u v u' v':Value}{e:List Value}{c:List (Nat × Wd)} (h:TrP b V u v e c) {i:Nat} {r:Wd} {x:Value} (o:Zc V x r) (j:Kb V u v x)
  (s:W.ownsRow b 3 1 u' (c.length+1) (Qd (c.map (·.1))++[.int .i64 (i:Int)])) (t:W.ownsRow b 99 1 v' (c.length+1) (e++[x]))
  (m:Q0 (fun b=>u.ownBlock=some b\/v.ownBlock=some b) V W) (z:u'.ownBlock=u.ownBlock\/∃ k,V.heap.size<=k/\u'.ownBlock=some k) (A:v'.ownBlock=v.ownBlock\/∃ k,V.heap.size<=k/\v'.ownBlock=some k) :
  TrP b W u' v' (e++[x]) (c++[(i,r)])/\Zc W x r/\Kb W u' v' x:=by
 have q:∀ {y y':Value} (g:Nat),y.ownBlock≠some g->g<V.heap.size->(y'.ownBlock=y.ownBlock\/∃ k,V.heap.size<=k/\y'.ownBlock=some k)->y'.ownBlock≠some g:=fun g h1 h2 d=>by
  rcases d with d | ⟨k,d,w⟩
  ·rw [d];exact h1
  ·rw [w];intro f;cases f;omega
 have l:∀ y∈e++[x],Kb V u v y:=fun y a=>by
  rcases List.mem_append.1 a with a | a
  ·exact h.wk y a
  ·simp only [List.mem_singleton] at a;subst a;exact j
 have p:∀ y,Kb V u v y->Kb W u' v' y:=fun y a=>a.mono fun g hg=>⟨Nat.lt_of_lt_of_le hg.1 m.size,q g hg.2.1 hg.1 z,q g hg.2.2 hg.1 A⟩;have n:Q0 (fun b=>¬ (b<V.heap.size/\u.ownBlock≠some b/\v.ownBlock≠some b)) V W:=m.mono fun b _ f hn=>f.elim hn.2.1 hn.2.2;refine⟨⟨?_,?_,?_,fun y a=>p y (l y a)⟩,o.keepS n j,p x j⟩
 ·rw [List.length_append,List.map_append];show W.ownsRow _ _ _ _ _ (Qd (c.map (·.1)++[i]));rw [X8];exact s
 ·rw [List.length_append];exact t
 ·rw [List.map_append];exact(h.wd.snoc o).keepS n l
def Kz(l:List Bool)(b:Bool):Int:=match l.findIdx? (· == b) with | some i=>(i:Int) | none=>-1
def Q2c(l:List Bool)(b:Bool)(k:Nat):Prop:=∀ x∈l.take k,(x == b)=false
theorem Qb4{l:List Bool}{b:Bool}{k:Nat}(c:k<l.length)(h:Q2c l b k)(a:l[k]=b):Kz l b=(k:Int):=by
 unfold Kz;have:l.findIdx? (· == b)=some k:=by
  rw [List.findIdx?_eq_some_iff_getElem];refine⟨c,by simp [a],fun j hj=>?_⟩;have:=h l[j] (List.mem_take_iff_getElem.2 ⟨j,by omega,rfl⟩);simp [this]
 rw [this]
theorem Q80{l:List Bool}{b:Bool}{k:Nat}(a:l.length<=k)(h:Q2c l b k):Kz l b=-1:=by
 unfold Kz;have:l.findIdx? (· == b)=none:=by
  rw [List.findIdx?_eq_none_iff];intro d c;exact h d (by rw [List.take_of_length_le a];exact c)
 rw [this]
theorem Q34{w:World}{l:List Bool}{ao:Option Addr}{n c:Nat}(b:Bool)(h:Rd w (.slice ao n c) n 1 (l.map .bool)) (A:l.length=n) :
  Calls Tryz.prog 85 #[.slice ao n c,.bool b] w fun e w'=>e=.returned (.int .i64 (Kz l b))/\w'=w:=by
 have N:=h.2.1;unfold maxLen at N;have H:=Zh h;have t:=Zh A;obtain⟨x,o⟩:=zE (Kz l b);rw [o];have u:=Zh o;clear h A o;go_enter Tryz.func85,Tryz.ntmps85;go_wp2
 refine wp_loop (fun a v=>∃(d:Nat),d<=n/\a.defers=[]/\gS a [0,1,7,8]=(19,[.slice ao n c,.bool b,.int .i64 n,.int .i64 d])/\Q2c l b d/\v=w)
  (fun a _=>((n:Int) - intOf (a.tmps.getD 8 undef)).toNat) ?_ ?_
 ·exact⟨0,by omega,rfl,rfl,fun i f=>(by simp at f),rfl⟩
 rintro⟨W,_⟩ v ⟨d,T,L,E,C,rfl⟩;subst L;obtain⟨X,rfl⟩:=Qq E;clear E;have m:=Zh C;clear C;by_cases M:d<n
 ·have K:(d:Int)<(n:Int):=by omega
  have R:(0:Int)<=(d:Int):=by omega
  have j:d<l.length:=by rw [t.out];exact M
  obtain⟨F,G,O,P,D,r⟩:=H.out;simp only [zV,true_and] at D;obtain⟨rfl,rfl⟩:=D;obtain⟨Q,V,rfl,_,s⟩:=r oz;have J:=s d oz;obtain⟨i,f⟩:=zE (l[d]);have p:(l.map Value.bool).getD d undef=.bool i:=by rw [List.getD_eq_getElem?_getD,List.getElem?_map,List.getElem?_eq_getElem j,f];rfl
  rw [p] at J;have U:IntKind.i64.wrap ((d:Int)+1)=(d:Int)+1:=IntWalk.i64_in _ oz;by_cases k:b=i
  ·have q:x=(d:Int):=u.out.symm.trans (Qb4 j m.out (f.trans k.symm));subst k;subst q;clear p F G r s f;cases b
   all_goals
    go_wp2;go_ret;exact⟨rfl,rfl⟩
  ·have B:Q2c l b (d+1):=fun y g=>by
    rw [List.take_succ_eq_append_getElem j] at g;rcases List.mem_append.1 g with g | g
    ·exact m.out y g
    ·simp at g;subst g;rw [f,beq_eq_false_iff_ne];exact fun e=>k e.symm
   have I:=Zh B;have S:(b == i)=false:=by rw [beq_eq_false_iff_ne];exact k
   clear p F G r s f B j;go_wp2;exact⟨⟨d+1,by omega,tz,rfl,I.out,by first | trivial | rfl⟩,mz⟩
 ·obtain rfl:d=n:=by omega
  have K:¬ (d:Int)<(d:Int):=by omega
  have q:x=-1:=u.out.symm.trans (Q80 (by rw [t.out];exact Nat.le_refl _) m.out);subst q;go_wp2;go_ret;exact⟨rfl,rfl⟩
def Y1:Nat->List Nat->List (List Nat)
 | 0,_=>[[]]
 | n+1,av=>av.flatMap fun i=>(Y1 n (av.filter (· != i))).map (i::·)
def Qa:Nat->List (List Nat)
 | 0=>[[]]
 | n+1=>(List.range (n+1)).flatMap fun f=>(Qa n).map fun r=>f::r.map fun x=>if f<=x then x+1 else x
theorem Hx{α β:Type}{l:List α}{f g:α->List β}(h:∀ x∈l,f x=g x):l.flatMap f=l.flatMap g:=by
 rw [List.flatMap_def,List.flatMap_def,List.map_congr_left h]
theorem M4{b:List Nat}(h:b.Nodup){f:Nat}(c:f<b.length):b.filter (· != b[f])=b.eraseIdx f:=by
 induction b generalizing f with
 | nil=>cases c
 | cons a b ih=>
  rw [List.nodup_cons] at h;cases f with
  | zero=>
   simp only [List.getElem_cons_zero,List.eraseIdx_cons_zero];rw [List.filter_cons_of_neg zy,List.filter_eq_self.2];intro i g;simp only [bne_iff_ne,ne_eq];rintro rfl;exact h.1 g
  | succ f=>
   have d:f<b.length:=by simpa using c
   simp only [List.getElem_cons_succ,List.eraseIdx_cons_succ];rw [List.filter_cons_of_pos (by simp only [bne_iff_ne,ne_eq];intro e;exact h.1 (e ▸ List.getElem_mem d)),ih h.2 d]
theorem Q32(a:List Nat)(f x:Nat):(a.eraseIdx f).getD x 0=a.getD (if f<=x then x+1 else x) 0:=by
 rw [List.getD_eq_getElem?_getD,List.getD_eq_getElem?_getD,List.getElem?_eraseIdx];by_cases b:f<=x
 ·rw [if_pos b,if_neg oz]
 ·rw [if_neg b,if_pos oz]
theorem Lu:∀(n:Nat) (av:List Nat),av.Nodup->av.length=n->Y1 n av=(Qa n).map fun o=>o.map fun x=>av.getD x 0
 | 0,_,_,_=>rfl
 | n+1,av,hn,hl=>by
  unfold Y1 Qa;have hav:av=(List.range (n+1)).map fun f=>av.getD f 0:=by
   apply List.ext_getElem
   ·simp [hl]
   ·intro e c d;simp [List.getD_eq_getElem?_getD,c]
  conv=>lhs;arg 2;rw [hav]
  rw [List.flatMap_map,List.map_flatMap];refine Hx fun f hf=>?_
  have a:f<av.length:=by rw [hl];exact List.mem_range.1 hf
  have b:av.getD f 0=av[f]:=by rw [List.getD_eq_getElem?_getD,List.getElem?_eq_getElem a];rfl
  rw [b,M4 hn a,Lu n (av.eraseIdx f) (hn.sublist (List.eraseIdx_sublist ..)) (by rw [List.length_eraseIdx_of_lt a,hl];rfl),List.map_map,List.map_map];refine List.map_congr_left fun r _=>?_
  simp only [Function.comp,List.map_cons,List.map_map];rw [b]
  congr 1
  exact List.map_congr_left fun x _=>Q32 av f x
theorem Xw:∀(n:Nat),∀ o∈Qa n,o.length=n/\∀ x∈o,x<n
 | 0,o,h=>by
  unfold Qa at h;rw [List.mem_singleton] at h;subst h;exact⟨rfl,fun x hx=>by cases hx⟩
 | n+1,o,h=>by
  unfold Qa at h;obtain⟨f,hf,h⟩:=List.mem_flatMap.1 h;obtain⟨r,hr,rfl⟩:=List.mem_map.1 h;obtain⟨h1,h2⟩:=Xw n r hr;refine⟨by simp [h1],fun x hx=>?_⟩;rcases List.mem_cons.1 hx with rfl | hx
  ·exact List.mem_range.1 hf
  ·obtain⟨y,hy,rfl⟩:=List.mem_map.1 hx;have:=h2 y hy
   split <;> omega
theorem Yc(n:Nat):Y1 n (List.range n)=Qa n:=by
 rw [Lu n _ List.nodup_range zy];conv=>rhs;rw [<-List.map_id (Qa n)]
 refine List.map_congr_left fun o ho=>?_
 conv=>rhs;rw [id,<-List.map_id o]
 refine List.map_congr_left fun x hx=>?_
 have:=(Xw n o ho).2 x hx;simp [List.getD_eq_getElem?_getD,this]
def Xd(n:Nat)(p:List Nat):List Nat:=(List.range n).filter fun i=>!p.contains i
def Jk(n m:Nat)(p:List Nat):List (List Nat):=(Y1 m (Xd n p)).map (p++·)
def Um(n m:Nat)(p:List Nat)(k:Nat):List (List Nat):=(Xd k p).flatMap fun i=>Jk n m (p++[i])
theorem Bt(n:Nat)(p:List Nat):Jk n 0 p=[p]:=by
 unfold Jk Y1;simp
theorem Q4j(n:Nat)(p:List Nat)(i:Nat):Xd n (p++[i])=(Xd n p).filter (· != i):=by
 unfold Xd;rw [List.filter_filter];apply List.filter_congr;intro b _;by_cases a:b=i
 ·subst a;simp
 ·simp [a]
theorem Q2l(n m:Nat)(p:List Nat):Um n m p 0=[]:=rfl
theorem Tt{n m k:Nat}{p:List Nat}(h:k∈p):Um n m p (k+1)=Um n m p k:=by
 unfold Um Xd;rw [List.range_succ,List.filter_append];simp [h]
theorem Lf{n m k:Nat}{p:List Nat}(h:k ∉ p):Um n m p (k+1)=Um n m p k++Jk n m (p++[k]):=by
 unfold Um Xd;rw [List.range_succ,List.filter_append];simp [h]
theorem L9(n m:Nat)(p:List Nat):Um n m p n=Jk n (m+1) p:=by
 have c:Y1 (m+1) (Xd n p)=(Xd n p).flatMap fun a=>(Y1 m ((Xd n p).filter (· != a))).map (a::·):=rfl;unfold Um Jk;rw [c,List.map_flatMap];apply Hx;intro a _;rw [Q4j,List.map_map];apply List.map_congr_left;intro b _;show (p++[a])++b=p++a::b;simp
theorem Q2d{n m k:Nat}{p:List Nat}(i:k<n)(h:k ∉ p):∃ rest,Jk n (m+1) p=Um n m p k++Jk n m (p++[k])++rest:=by
 have g:∀ b a,a+b=n->∃ rest,Um n m p n=Um n m p a++rest:=by
  intro b
  induction b with
  | zero=>
   intro a f;obtain rfl:a=n:=by omega
   exact⟨[],by simp⟩
  | succ b ih=>
   intro a f;obtain⟨d,c⟩:=ih (a+1) oz;by_cases e:a∈p
   ·exact⟨d,by rw [c,Tt e]⟩
   ·exact⟨_,by rw [c,Lf e,List.append_assoc]⟩
 obtain⟨d,c⟩:=g (n - (k+1)) (k+1) oz;exact⟨d,by rw [<-L9,c,Lf h]⟩
theorem Q3u{LD:List Q5}{p:List Nat}{i:Nat}{l:Q5}(a:LD[i]?=some l)(s:Option Wd):Xg LD (p++[i]) s=Yh l (Xg LD p s):=by
 unfold Xg;rw [List.foldl_append];simp only [List.foldl_cons,List.foldl_nil,a]
def Ua(n:Nat)(p:List Nat):Nat:=Zx n fun i=>p.contains i
theorem Q1d(n:Nat)(p:List Nat):Ua n p<2 ^ n:=Vs _ _
theorem Q8a(n:Nat):Ua n []=0:=by unfold Ua;rw [show (fun i=>([]:List Nat).contains i)=fun _=>false from rfl,Xy]
theorem Q7j{n k:Nat}{p:List Nat}(a:k<n):(Ua n p).testBit k=decide (k∈p):=by
 unfold Ua;rw [Zr];simp [a]
theorem Qay{n k:Nat}{p:List Nat}(b:k<n):Ua n p ||| 2 ^ k=Ua n (p++[k]):=by
 unfold Ua;rw [Yu b,Ui];apply Ys;intro c _;by_cases a:c=k
 ·subst a;simp
 ·simp [a]
end Go.Proofs.YtfdlhlghcbeblaaGreatDoor
