/- ablautref10.Check. -/
import Derived.Test.YtfdlhlghcbeblaaGreatDoorY13
import Derived.Test.YtfdlhlghcbeblaaGreatDoorY17
set_option maxRecDepth 100000
set_option maxHeartbeats 16000000
namespace Go.Proofs.YtfdlhlghcbeblaaGreatDoor
open Go.RowKit Go.Ab
attribute [local go_sem] Oper.semAt_some Zf Qp
def Vp(W:World)(u v x:Value):Prop:=Qr (fun g=>g<W.heap.size/\u.ownBlock≠some g/\v.ownBlock≠some g) x
structure TrP (b:Nat) (W:World) (u v:Value) (vals:List Value) (tr:List (Nat × Wd)):Prop where
 ou:W.ownsRow b 3 1 u tr.length (Qi (tr.map (·.1)))
 ov:W.ownsRow b 99 1 v tr.length vals
 wd:Zw W vals (tr.map (·.2))
 wk:∀ x∈vals,Vp W u v x
theorem TrP.nil(b:Nat)(W:World):TrP b W (.slice none 0 0) (.slice none 0 0) [] []:=⟨World.ownsRow_nil _ _ _ _,World.ownsRow_nil _ _ _ _,trivial,fun x hx=>by cases hx⟩
theorem TrP.ext{b:Nat}{A B:World}{u v:Value}{vals:List Value}{tr:List (Nat × Wd)} (h:TrP b A u v vals tr) (ht:Ext A B):TrP b B u v vals tr:=
 ⟨Qf h.ou ht,Qf h.ov ht,h.wd.ext ht,fun x hx=>(h.wk x hx).mono fun _g hg=>⟨Nat.lt_of_lt_of_le hg.1 ht.size,hg.2⟩⟩
theorem TrP.out{b:Nat}{A:World}{u v:Value}{vals:List Value}{tr:List (Nat × Wd)} (h:TrP b A u v vals tr):Jt b A u v tr:=⟨h.ou,vals,h.ov,h.wd⟩
theorem Vp.ext{A B:World}{u v x:Value}(h:Vp A u v x)(ht:Ext A B):Vp B u v x:=h.mono fun _g hg=>⟨Nat.lt_of_lt_of_le hg.1 ht.size,hg.2⟩
theorem Vp.own{W:World}{b k:Nat}{i j f:TypeId}{s1 s2 s p q r:Nat}{u v x:Value}{t w y:List Value}(n:W.ownsRow b i s1 u p t)(o:W.ownsRow b j s2 v q w)(d:W.ownsRow k f s x r y)(l:i≠f)(m:j≠f):Vp W u v x:=by
 intro c F E z a D;have g:x.ownBlock=some c:=by
  rcases d.2 with ⟨e,_⟩ | ⟨C,A,B,e,_⟩
  ·rw [e] at a;cases a
  ·rw [e] at a;cases a;rw [e];rfl
 exact⟨(d.lt c g).2,fun hu'=>Gg n d l c hu' g,fun hv'=>Gg o d m c hv' g⟩
theorem TrP.push{b:Nat}{V W:World}{u v u' v':Value}{e:List Value}{c:List (Nat × Wd)} (h:TrP b V u v e c) {i:Nat} {r:Wd} {x:Value} (o:Zu V x r) (j:Vp V u v x)
  (s:W.ownsRow b 3 1 u' (c.length+1) (Qi (c.map (·.1))++[.int .i64 (i:Int)])) (t:W.ownsRow b 99 1 v' (c.length+1) (e++[x]))
  (m:Q1 (fun b=>u.ownBlock=some b\/v.ownBlock=some b) V W) (z:u'.ownBlock=u.ownBlock\/∃ k,V.heap.size<=k/\u'.ownBlock=some k) (A:v'.ownBlock=v.ownBlock\/∃ k,V.heap.size<=k/\v'.ownBlock=some k) :
  TrP b W u' v' (e++[x]) (c++[(i,r)])/\Zu W x r/\Vp W u' v' x:=by
 have q:∀ {y y':Value} (g:Nat),y.ownBlock≠some g->g<V.heap.size->(y'.ownBlock=y.ownBlock\/∃ k,V.heap.size<=k/\y'.ownBlock=some k)->y'.ownBlock≠some g:=fun g h1 h2 d=>by
  rcases d with d | ⟨k,d,w⟩
  ·rw [d];exact h1
  ·rw [w];intro f;cases f;omega
 have l:∀ y∈e++[x],Vp V u v y:=fun y a=>by
  rcases List.mem_append.1 a with a | a
  ·exact h.wk y a
  ·simp only [List.mem_singleton] at a;subst a;exact j
 have p:∀ y,Vp V u v y->Vp W u' v' y:=fun y a=>a.mono fun g hg=>⟨Nat.lt_of_lt_of_le hg.1 m.size,q g hg.2.1 hg.1 z,q g hg.2.2 hg.1 A⟩;have n:Q1 (fun b=>¬ (b<V.heap.size/\u.ownBlock≠some b/\v.ownBlock≠some b)) V W:=m.mono fun b _ f hn=>f.elim hn.2.1 hn.2.2;refine⟨⟨?_,?_,?_,fun y a=>p y (l y a)⟩,o.keepS n j,p x j⟩
 ·rw [List.length_append,List.map_append];show W.ownsRow _ _ _ _ _ (Qi (c.map (·.1)++[i]));rw [Xg];exact s
 ·rw [List.length_append];exact t
 ·rw [List.map_append];exact(h.wd.snoc o).keepS n l
def He(l:List Bool)(b:Bool):Int:=match l.findIdx? (· == b) with | some i=>(i:Int) | none=>-1
def Em(l:List Bool)(b:Bool)(k:Nat):Prop:=∀ x∈l.take k,(x == b)=false
theorem Q6g{l:List Bool}{b:Bool}{k:Nat}(c:k<l.length)(h:Em l b k)(a:l[k]=b):He l b=(k:Int):=by
 unfold He;have:l.findIdx? (· == b)=some k:=by
  rw [List.findIdx?_eq_some_iff_getElem];refine⟨c,by simp [a],fun j hj=>?_⟩;have:=h l[j] (List.mem_take_iff_getElem.2 ⟨j,by omega,rfl⟩);simp [this]
 rw [this]
theorem Q3s{l:List Bool}{b:Bool}{k:Nat}(a:l.length<=k)(h:Em l b k):He l b=-1:=by
 unfold He;have:l.findIdx? (· == b)=none:=by
  rw [List.findIdx?_eq_none_iff];intro d c;exact h d (by rw [List.take_of_length_le a];exact c)
 rw [this]
theorem Cu{w:World}{l:List Bool}{ao:Option Addr}{n c:Nat}(b:Bool)(h:Rd w (.slice ao n c) n 1 (l.map .bool)) (A:l.length=n) :
  Calls Tryz.prog 85 #[.slice ao n c,.bool b] w fun e w'=>e=.returned (.int .i64 (He l b))/\w'=w:=by
 have N:=h.2.1;unfold maxLen at N;have H:=Zh h;have t:=Zh A;obtain⟨x,o⟩:=zE (He l b);rw [o];have u:=Zh o;clear h A o;go_enter Tryz.func85,Tryz.ntmps85;go_wp2
 refine wp_loop (fun a v=>∃(d:Nat),d<=n/\a.defers=[]/\gS a [0,1,7,8]=(19,[.slice ao n c,.bool b,.int .i64 n,.int .i64 d])/\Em l b d/\v=w)
  (fun a _=>((n:Int) - intOf (a.tmps.getD 8 undef)).toNat) ?_ ?_
 ·exact⟨0,by omega,rfl,rfl,fun i f=>(by simp at f),rfl⟩
 rintro⟨W,_⟩ v ⟨d,T,L,E,C,rfl⟩;subst L;obtain⟨X,rfl⟩:=Y6 E;clear E;have m:=Zh C;clear C;by_cases M:d<n
 ·have K:(d:Int)<(n:Int):=by omega
  have R:(0:Int)<=(d:Int):=by omega
  have j:d<l.length:=by rw [t.out];exact M
  obtain⟨F,G,O,P,D,r⟩:=H.out;simp only [zV,true_and] at D;obtain⟨rfl,rfl⟩:=D;obtain⟨Q,V,rfl,_,s⟩:=r oz;have J:=s d oz;obtain⟨i,f⟩:=zE (l[d]);have p:(l.map Value.bool).getD d undef=.bool i:=by rw [List.getD_eq_getElem?_getD,List.getElem?_map,List.getElem?_eq_getElem j,f];rfl
  rw [p] at J;have U:IntKind.i64.wrap ((d:Int)+1)=(d:Int)+1:=IntWalk.i64_in _ oz;by_cases k:b=i
  ·have q:x=(d:Int):=u.out.symm.trans (Q6g j m.out (f.trans k.symm));subst k;subst q;clear p F G r s f;cases b
   all_goals
    go_wp2;go_ret;exact⟨rfl,rfl⟩
  ·have B:Em l b (d+1):=fun y g=>by
    rw [List.take_succ_eq_append_getElem j] at g;rcases List.mem_append.1 g with g | g
    ·exact m.out y g
    ·simp at g;subst g;rw [f,beq_eq_false_iff_ne];exact fun e=>k e.symm
   have I:=Zh B;have S:(b == i)=false:=by rw [beq_eq_false_iff_ne];exact k
   clear p F G r s f B j;go_wp2;exact⟨⟨d+1,by omega,tz,rfl,I.out,by first | trivial | rfl⟩,mz⟩
 ·obtain rfl:d=n:=by omega
  have K:¬ (d:Int)<(d:Int):=by omega
  have q:x=-1:=u.out.symm.trans (Q3s (by rw [t.out];exact Nat.le_refl _) m.out);subst q;go_wp2;go_ret;exact⟨rfl,rfl⟩
def Zn:Nat->List Nat->List (List Nat)
 | 0,_=>[[]]
 | n+1,av=>av.flatMap fun i=>(Zn n (av.filter (· != i))).map (i::·)
def Z6:Nat->List (List Nat)
 | 0=>[[]]
 | n+1=>(List.range (n+1)).flatMap fun f=>(Z6 n).map fun r=>f::r.map fun x=>if f<=x then x+1 else x
theorem Fw{α β:Type}{l:List α}{f g:α->List β}(h:∀ x∈l,f x=g x):l.flatMap f=l.flatMap g:=by
 rw [List.flatMap_def,List.flatMap_def,List.map_congr_left h]
theorem Ft{b:List Nat}(h:b.Nodup){f:Nat}(c:f<b.length):b.filter (· != b[f])=b.eraseIdx f:=by
 induction b generalizing f with
 | nil=>cases c
 | cons a b ih=>
  rw [List.nodup_cons] at h;cases f with
  | zero=>
   simp only [List.getElem_cons_zero,List.eraseIdx_cons_zero];rw [List.filter_cons_of_neg zy,List.filter_eq_self.2];intro i g;simp only [bne_iff_ne,ne_eq];rintro rfl;exact h.1 g
  | succ f=>
   have d:f<b.length:=by simpa using c
   simp only [List.getElem_cons_succ,List.eraseIdx_cons_succ];rw [List.filter_cons_of_pos (by simp only [bne_iff_ne,ne_eq];intro e;exact h.1 (e ▸ List.getElem_mem d)),ih h.2 d]
theorem Er(a:List Nat)(f x:Nat):(a.eraseIdx f).getD x 0=a.getD (if f<=x then x+1 else x) 0:=by
 rw [List.getD_eq_getElem?_getD,List.getD_eq_getElem?_getD,List.getElem?_eraseIdx];by_cases b:f<=x
 ·rw [if_pos b,if_neg oz]
 ·rw [if_neg b,if_pos oz]
theorem Fy:∀(n:Nat) (av:List Nat),av.Nodup->av.length=n->Zn n av=(Z6 n).map fun o=>o.map fun x=>av.getD x 0
 | 0,_,_,_=>rfl
 | n+1,av,hn,hl=>by
  unfold Zn Z6;have hav:av=(List.range (n+1)).map fun f=>av.getD f 0:=by
   apply List.ext_getElem
   ·simp [hl]
   ·intro e c d;simp [List.getD_eq_getElem?_getD,c]
  conv=>lhs;arg 2;rw [hav]
  rw [List.flatMap_map,List.map_flatMap];refine Fw fun f hf=>?_
  have a:f<av.length:=by rw [hl];exact List.mem_range.1 hf
  have b:av.getD f 0=av[f]:=by rw [List.getD_eq_getElem?_getD,List.getElem?_eq_getElem a];rfl
  rw [b,Ft hn a,Fy n (av.eraseIdx f) (hn.sublist (List.eraseIdx_sublist ..)) (by rw [List.length_eraseIdx_of_lt a,hl];rfl),List.map_map,List.map_map];refine List.map_congr_left fun r _=>?_
  simp only [Function.comp,List.map_cons,List.map_map];rw [b]
  congr 1
  exact List.map_congr_left fun x _=>Er av f x
theorem Gc:∀(n:Nat),∀ o∈Z6 n,o.length=n/\∀ x∈o,x<n
 | 0,o,h=>by
  unfold Z6 at h;rw [List.mem_singleton] at h;subst h;exact⟨rfl,fun x hx=>by cases hx⟩
 | n+1,o,h=>by
  unfold Z6 at h;obtain⟨f,hf,h⟩:=List.mem_flatMap.1 h;obtain⟨r,hr,rfl⟩:=List.mem_map.1 h;obtain⟨h1,h2⟩:=Gc n r hr;refine⟨by simp [h1],fun x hx=>?_⟩;rcases List.mem_cons.1 hx with rfl | hx
  ·exact List.mem_range.1 hf
  ·obtain⟨y,hy,rfl⟩:=List.mem_map.1 hx;have:=h2 y hy
   split <;> omega
theorem Kq(n:Nat):Zn n (List.range n)=Z6 n:=by
 rw [Fy n _ List.nodup_range zy];conv=>rhs;rw [<-List.map_id (Z6 n)]
 refine List.map_congr_left fun o ho=>?_
 conv=>rhs;rw [id,<-List.map_id o]
 refine List.map_congr_left fun x hx=>?_
 have:=(Gc n o ho).2 x hx;simp [List.getD_eq_getElem?_getD,this]
def Ux(n:Nat)(p:List Nat):List Nat:=(List.range n).filter fun i=>!p.contains i
def K6(n m:Nat)(p:List Nat):List (List Nat):=(Zn m (Ux n p)).map (p++·)
def Jo(n m:Nat)(p:List Nat)(k:Nat):List (List Nat):=(Ux k p).flatMap fun i=>K6 n m (p++[i])
theorem Q41(n:Nat)(p:List Nat):K6 n 0 p=[p]:=by
 unfold K6 Zn;simp
theorem Q20(n:Nat)(p:List Nat)(i:Nat):Ux n (p++[i])=(Ux n p).filter (· != i):=by
 unfold Ux;rw [List.filter_filter];apply List.filter_congr;intro b _;by_cases a:b=i
 ·subst a;simp
 ·simp [a]
theorem Q01(n m:Nat)(p:List Nat):Jo n m p 0=[]:=rfl
theorem Sa{n m k:Nat}{p:List Nat}(h:k∈p):Jo n m p (k+1)=Jo n m p k:=by
 unfold Jo Ux;rw [List.range_succ,List.filter_append];simp [h]
theorem Fh{n m k:Nat}{p:List Nat}(h:k ∉ p):Jo n m p (k+1)=Jo n m p k++K6 n m (p++[k]):=by
 unfold Jo Ux;rw [List.range_succ,List.filter_append];simp [h]
theorem P9(n m:Nat)(p:List Nat):Jo n m p n=K6 n (m+1) p:=by
 have c:Zn (m+1) (Ux n p)=(Ux n p).flatMap fun a=>(Zn m ((Ux n p).filter (· != a))).map (a::·):=rfl;unfold Jo K6;rw [c,List.map_flatMap];apply Fw;intro a _;rw [Q20,List.map_map];apply List.map_congr_left;intro b _;show (p++[a])++b=p++a::b;simp
theorem Cz{n m k:Nat}{p:List Nat}(i:k<n)(h:k ∉ p):∃ rest,K6 n (m+1) p=Jo n m p k++K6 n m (p++[k])++rest:=by
 have g:∀ b a,a+b=n->∃ rest,Jo n m p n=Jo n m p a++rest:=by
  intro b
  induction b with
  | zero=>
   intro a f;obtain rfl:a=n:=by omega
   exact⟨[],by simp⟩
  | succ b ih=>
   intro a f;obtain⟨d,c⟩:=ih (a+1) oz;by_cases e:a∈p
   ·exact⟨d,by rw [c,Sa e]⟩
   ·exact⟨_,by rw [c,Fh e,List.append_assoc]⟩
 obtain⟨d,c⟩:=g (n - (k+1)) (k+1) oz;exact⟨d,by rw [<-P9,c,Fh h]⟩
theorem Q24{LD:List Q7}{p:List Nat}{i:Nat}{l:Q7}(a:LD[i]?=some l)(s:Option Wd):Jm LD (p++[i]) s=Yd l (Jm LD p s):=by
 unfold Jm;rw [List.foldl_append];simp only [List.foldl_cons,List.foldl_nil,a]
def Jc(n:Nat)(p:List Nat):Nat:=Y1 n fun i=>p.contains i
theorem Cj(n:Nat)(p:List Nat):Jc n p<2 ^ n:=Vf _ _
theorem Q3m(n:Nat):Jc n []=0:=by unfold Jc;rw [show (fun i=>([]:List Nat).contains i)=fun _=>false from rfl,Xr]
theorem Q4g{n k:Nat}{p:List Nat}(a:k<n):(Jc n p).testBit k=decide (k∈p):=by
 unfold Jc;rw [Yj];simp [a]
theorem Q72{n k:Nat}{p:List Nat}(b:k<n):Jc n p ||| 2 ^ k=Jc n (p++[k]):=by
 unfold Jc;rw [X3 b,Uc];apply Yu;intro c _;by_cases a:c=k
 ·subst a;simp
 ·simp [a]
def Q7q:List Q7->Wd->Nat->List (Nat × Wd)
 | [],u,i=>[(i,u)]
 | l::ls,u,i=>(i,u)::(if trE l u=0 then Q7q ls (Vu l u) (i+1) else [])
def Q95:List PanicEntry:=[{ v:=.iface 221 (.int .i64 11),recovered:=false }]
def Q9p(ls:List Q7)(ws:Wd):Option (List PanicEntry):=if (Cs ls ws).isSome=true then none else some Q95
def Qai(_:Nat)(x:Nat × Wd)(W:World)(ys:Array Value):Prop:=∃ v,ys=#[.int .i64 (x.1:Int),v]/\Zu W v x.2
end Go.Proofs.YtfdlhlghcbeblaaGreatDoor
