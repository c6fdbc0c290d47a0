/- feats: -/
import Derived.Test.YtejenndedjabhaaGreatDoorU04
set_option maxRecDepth 100000
set_option maxHeartbeats 8000000
namespace Go.Proofs.YtejenndedjabhaaGreatDoor
open Go.RowKit Go.Ab
attribute [local go_sem] Oper.semAt_some Z6 Qn
abbrev sV(s:Nat × Nat):Value:=.agg #[.int .u32 (s.1:Int),.int .u32 (s.2:Int)]
set_option maxHeartbeats 2000000 in
theorem Yg{s:Nat × Nat}(t:Qe s)(w:World) :
  Calls Tryz.prog 61 #[sV s] w fun e w'=>e=.returned (.bool (okS s))/\Ext w w':=by
 obtain⟨b,c⟩:=s;obtain⟨i,j⟩:=t;obtain⟨u,v⟩:=He i j;have r:b ||| c<4294967296:=Nat.or_lt_two_pow (n:=32) i j;have d:okS (b,c)=((b &&& c == 0) && ((b ||| c) / 16777216 == 0)):=rfl;obtain⟨g,o⟩:=zE (b &&& c == 0);obtain⟨a,m⟩:=zE (b ||| c);rw [o] at u d;rw [m] at v d r;have p:(a / 16777216 == 0)=decide ((a:Int)<=16777215):=by
  apply Bool.eq_iff_iff.2;rw [beq_iff_eq,decide_eq_true_iff];omega
 rw [p] at d;obtain⟨k,f⟩:=zE (decide ((a:Int)<=16777215));rw [f] at d;have l:=Zh d;clear d o m p;dsimp only at i j;cases k
 ·have q:¬ (a:Int)<=16777215:=of_decide_eq_false f;clear f;go_enter Tryz.func61,Tryz.ntmps61;cases g
  all_goals
   go_wp2;go_ret;exact⟨by rw [l.out];rfl,(Q0.refl _ _).alloc _⟩
 ·have q:(a:Int)<=16777215:=of_decide_eq_true f;clear f;go_enter Tryz.func61,Tryz.ntmps61;cases g
  all_goals
   go_wp2;go_ret;exact⟨by rw [l.out];rfl,(Q0.refl _ _).alloc _⟩
set_option maxHeartbeats 2000000 in
theorem Q54{s:Nat × Nat}(f:Qe s)(w:World) :
  Calls Tryz.prog 237 #[sV s] w fun e w'=>e=.returned (.int .u32 ((s.1 ||| s.2:Nat):Int))/\Ext w w':=by
 obtain⟨c,d⟩:=s;obtain⟨a,b⟩:=f;have g:=u32_or_nat c d a b;dsimp only at a b ⊢;go_enter Tryz.func237,Tryz.ntmps237;go_wp2;go_ret;exact⟨rfl,(Q0.refl _ _).alloc _⟩
set_option maxHeartbeats 2000000 in
theorem Tm{s f:Nat × Nat}{m:Nat}(q:Qe s)(p:Qe f)(c:m<4294967296)(w:World) :
  Calls Tryz.prog 238 #[sV s,sV f,.int .u32 (m:Int)] w fun e w'=>e=.returned (sV (K6 s f m))/\Ext w w':=by
 obtain⟨d,g⟩:=s;obtain⟨a,b⟩:=f;obtain⟨i,j⟩:=q;obtain⟨k,l⟩:=p;dsimp only at i j k l;have r:=Ft d m i c;have t:=Ft g m j c;have u:=u32_and_nat a m k c;have v:=u32_and_nat b m l c;have n:a &&& m<4294967296:=Nat.lt_of_le_of_lt Nat.and_le_left k;have o:b &&& m<4294967296:=Nat.lt_of_le_of_lt Nat.and_le_left l;have x:=u32_or_nat (Ys d m) (a &&& m) (Es i) n;have y:=u32_or_nat (Ys g m) (b &&& m) (Es j) o;clear n o;go_enter Tryz.func238,Tryz.ntmps238;go_wp2;refine bodyPost_ret (results_cell_row rfl _ _ (w.heap.size+1+1) _ #[.int .u32 ((Ys d m ||| a &&& m:Nat):Int),.int .u32 ((Ys g m ||| b &&& m:Nat):Int)] _ _ rfl (new_at zy) Tryz.underlying26 rfl kz) rfl ?_;exact⟨rfl,(((Q0.refl _ _).alloc _).alloc _).alloc _⟩
theorem X1{a:Func}{p u:Tmp}(h:a.results=#[.cell p 26,.tmp u]){tmps:Array Value}{w:World}{g:Nat}{cs:Array Value}(d:tmps.getD p undef=.pointer (some ⟨g,0,none⟩)) (b:w.heap[g]?=some (.cells cs 26 (0,0))) (c:(Tryz.prog.info? 26).map (·.size)=some cs.size) :
  (results a tmps).run Tryz.prog w=.ok (.tuple #[.agg cs,tmps.getD u undef]) w:=by
 have e:tmps[p]?.getD undef=.pointer (some ⟨g,0,none⟩):=by simpa using d
 simp [results,h,e,asAddr,run_loadVar_row w g _ _ _ _ _ b Tryz.underlying26 rfl c]
def Gb(s c:Nat × Nat):Bool:=okS s && okS c && Q59 s c
theorem Q4g{s c:Nat × Nat}(a:Qe c):Q59 s c=(Ys c.1 s.1 == 0 && Ys c.2 s.2 == 0):=by
 unfold Q59;apply Bool.eq_iff_iff.2;simp only [Bool.and_eq_true,beq_iff_eq];rw [Rm a.1,Rm a.2]
set_option maxHeartbeats 4000000 in
theorem Q6u{s c:Nat × Nat}(K:Qe s)(g:Qe c)(w:World) :
  Calls Tryz.prog 224 #[sV s,sV c] w fun e w'=>e=.returned (.bool (Gb s c))/\Ext w w':=by
 have y:=fun(V:World)=>Yg K V;have z:=fun(V:World)=>Yg g V;have r:Gb s c=(okS s && okS c && (Ys c.1 s.1 == 0 && Ys c.2 s.2 == 0)):=by unfold Gb;rw [Q4g g]
 obtain⟨b,d⟩:=s;obtain⟨c,f⟩:=c;obtain⟨H,I⟩:=K;obtain⟨g,J⟩:=g;dsimp only at H I g J;have Q:=Ft c b g H;have R:=Ft f d J I;dsimp only at r;obtain⟨a,A⟩:=zE (okS (b,d));obtain⟨S,B⟩:=zE (okS (c,f));obtain⟨Z,C⟩:=zE (Gb (b,d) (c,f));obtain⟨D,i⟩:=zE (Ys c b);obtain⟨N,x⟩:=zE (Ys f d);rw [A] at y;rw [B] at z;rw [A,B,C,i,x] at r;rw [i] at Q;rw [x] at R;rw [C];obtain⟨O,P,k⟩:=Zh3 y z r;clear y z r A B C i x;go_enter Tryz.func224,Tryz.ntmps224;go_wp2_with fail;have v:Ext w ((w.alloc (.cells #[.int .u32 (b:Int),.int .u32 (d:Int)] 26)).alloc (.cells #[.int .u32 (c:Int),.int .u32 (f:Int)] 26)):=((Q0.refl _ w).alloc _).alloc _;have n:((w.alloc (.cells #[.int .u32 (b:Int),.int .u32 (d:Int)] 26)).alloc (.cells #[.int .u32 (c:Int),.int .u32 (f:Int)] 26)).heap[w.heap.size]?=some (.cells #[.int .u32 (b:Int),.int .u32 (d:Int)] 26 (0,0)):=Q7 (new_at rfl);have o:((w.alloc (.cells #[.int .u32 (b:Int),.int .u32 (d:Int)] 26)).alloc (.cells #[.int .u32 (c:Int),.int .u32 (f:Int)] 26)).heap[w.heap.size+1]?=some (.cells #[.int .u32 (c:Int),.int .u32 (f:Int)] 26 (0,0)):=new_at zy;refine(O.out _).mono ?_;generalize ((w.alloc (.cells #[.int .u32 (b:Int),.int .u32 (d:Int)] 26)).alloc (.cells #[.int .u32 (c:Int),.int .u32 (f:Int)] 26))=W at v n o ⊢;generalize w.heap.size=T at n o ⊢;rintro e X ⟨rfl,p⟩;have t:=v.trans p;have l:=p.keep n;have m:=p.keep o;have F:=zR l;have G:=zR m;clear p n o v;cases a
 ·clear l m;go_wp2;go_ret;exact⟨by rw [k.out];rfl,t⟩
 ·go_wp2_with fail;refine(P.out _).mono ?_;rintro e Y ⟨rfl,q⟩;have u:=t.trans q;have L:=q.keep l;have M:=q.keep m;clear F G q t l m;have F:=zR L;have G:=zR M;clear L M;cases S
  ·go_wp2;go_ret;exact⟨by rw [k.out];rfl,u⟩
  ·by_cases i:D=0
   ·subst i;have E:((N:Int) == 0)=(N == 0):=by
     apply Bool.eq_iff_iff.2;rw [beq_iff_eq,beq_iff_eq];omega
    go_wp2;go_ret;refine⟨?_,u⟩;rw [k.out];simp
   ·have U:((D:Int) == 0)=false:=by rw [beq_eq_false_iff_ne];omega
    have E:(D == 0)=false:=by rw [beq_eq_false_iff_ne];exact i
    rw [E] at k;clear E;go_wp2;go_ret;exact⟨by rw [k.out];rfl,u⟩
def Yi(sh:List Int):Int:=if 64<sh.length then 12 else if sh.any (fun k=>decide (k < -1) || decide ((sh.length:Int)<=k))=true then 3 else 0
def Xh(sh:List Int):Nat->Int->List Int->List Int
 | 0,_,d=>d
 | n+1,k,d=>if 0<=k/\k ∉ d then Xh sh n (sh.getD k.toNat (-1)) (d++[k]) else d
def V8(sh:List Int):Nat->Int->List Int->List Int
 | 0,_,d=>d
 | n+1,k,d=>if k ∉ d then V8 sh n (if sh.getD k.toNat (-1)≠-1/\sh.getD k.toNat (-1)≠k then sh.getD k.toNat (-1) else k) (d++[k]) else d
def Qa(sh:List Int)(i:Nat):List Int:=Xh sh 65 i []
def Xv(sh:List Int)(i:Nat):Bool:=decide (sh.getD i (-1)≠-1) && decide (sh.getD i (-1)≠i)
def toB(sh:List Int)(i:Nat):Bool:=(List.range sh.length).any fun k=>decide (k≠i) && decide (sh.getD k (-1)=i)
def Gx(sh:List Int):List (List Int):=((List.range sh.length).filter fun i=>Xv sh i && !toB sh i).map (Qa sh)
def Xc(sh:List Int)(i:Nat):Bool:=Xv sh i && decide (sh.getD ((Qa sh i).getLastD 0).toNat (-1)=i) && (Qa sh i).all fun k=>decide ((i:Int)<=k)
def Yk(sh:List Int):List (List Int):=((List.range sh.length).filter (Xc sh)).map (Qa sh)
theorem Lj{sh:List Int}(e:∀ k∈sh,-1<=k):∀(n:Nat) (k:Int) (d:List Int),0<=k->Xh sh n k d=V8 sh n k d
 | 0,_,_,_=>rfl
 | n+1,k,d,hk=>by
  have hg:-1<=sh.getD k.toNat (-1):=by
   rw [List.getD_eq_getElem?_getD];cases h:sh[k.toNat]? with
   | none=>exact Int.le_refl _
   | some x=>exact e x (List.mem_of_getElem? h)
  unfold Xh V8;by_cases a:k∈d
  ·rw [if_neg (fun h=>h.2 a),if_neg (fun h=>h a)]
  ·rw [if_pos ⟨hk,a⟩,if_pos a];by_cases b:sh.getD k.toNat (-1)=-1
   ·rw [if_neg (fun h=>h.1 b),b];cases n with
    | zero=>rfl
    | succ n=>unfold Xh V8;rw [if_neg (fun h=>by omega),if_neg (fun h=>h zy)]
   ·by_cases c:sh.getD k.toNat (-1)=k
    ·rw [if_neg (fun h=>h.2 c),c];cases n with
     | zero=>rfl
     | succ n=>unfold Xh V8;rw [if_neg (fun h=>h.2 zy),if_neg (fun h=>h zy)]
    ·rw [if_pos ⟨b,c⟩];exact Lj e n _ _ oz
def Jc(l:List Int):Int:=if 256<l.length then 12 else if (List.range l.length).all (fun i=>decide (0<=l.getD i 0) && decide (l.getD i 0<=i) && decide (l.getD (l.getD i 0).toNat 0=l.getD i 0))=true then 0 else 2
def Sv(l:List Int)(i:Nat):Nat:=l.countP fun k=>decide (k=(i:Int))
def Ts(l:List Int):List Nat:=((List.range l.length).map (Sv l)).filter fun n=>decide (n≠0)
theorem Vw:∀(n:Nat) (l:List Int),l.Nodup->(∀ x∈l,0<=x/\x<(n:Int))->l.length<=n
 | 0,l,_,h=>by
  cases l with
  | nil=>exact Nat.le_refl _
  | cons x l=>have:=h x zy;omega
 | n+1,l,hn,h=>by
  by_cases hm:(n:Int)∈l
  ·have ih:=Vw n (l.erase (n:Int)) (hn.erase _) fun x hx=>by
    have h1:=h x (List.mem_of_mem_erase hx);have h2:x≠(n:Int):=fun e=>by subst e;exact(hn.mem_erase_iff.1 hx).1 rfl
    omega
   have hl:=List.length_erase_of_mem hm;have hpos:=List.length_pos_of_mem hm;omega
  ·have ih:=Vw n l hn fun x hx=>by
    have h1:=h x hx;have h2:x≠(n:Int):=fun e=>by subst e;exact hm hx
    omega
   omega
def Zp(sh:List Int):Prop:=sh.length<=64/\∀ k∈sh,-1<=k/\k<(sh.length:Int)
theorem S6{sh:List Int}(h:Yi sh=0):Zp sh:=by
 unfold Yi at h
 split at h
 ·cases h
 ·split at h
  ·cases h
  ·rename_i b a
   refine⟨by omega,fun k hk=>?_⟩;rw [Bool.not_eq_true,List.any_eq_false] at a;have:=a k hk;simp only [Bool.or_eq_true,decide_eq_true_eq,not_or] at this;omega
theorem Kq{sh:List Int}(h:Zp sh)(i:Nat):-1<=sh.getD i (-1)/\(sh.getD i (-1)<(sh.length:Int)):=by
 rw [List.getD_eq_getElem?_getD];cases e:sh[i]? with
 | none=>exact⟨Int.le_refl _,by simp;omega⟩
 | some x=>exact h.2 x (List.mem_of_getElem? e)
theorem Dq(sh:List Int):∀(n:Nat) (k:Int) (d:List Int),∃ r,Xh sh n k d=d++r
 | 0,_,d=>⟨[],by simp [Xh]⟩
 | n+1,k,d=>by
  unfold Xh
  split
  ·obtain⟨r,hr⟩:=Dq sh n (sh.getD k.toNat (-1)) (d++[k]);exact⟨k::r,by rw [hr];simp⟩
  ·exact⟨[],by simp⟩
def Jw(sh:List Int)(d:List Int):Prop:=d.Nodup/\∀ k∈d,0<=k/\k<(sh.length:Int)
theorem Jw.le{sh d:List Int}(h:Jw sh d):d.length<=sh.length:=Vw sh.length d h.1 h.2
theorem Jw.snoc{sh d:List Int}{k:Int}(h:Jw sh d)(e:0<=k)(g:k<(sh.length:Int)) (f:k ∉ d):Jw sh (d++[k]):=by
 refine⟨List.nodup_append.2 ⟨h.1,by simp,fun a ha b hb=>?_⟩,fun x c=>?_⟩
 ·rw [List.mem_singleton] at hb;subst hb;rintro rfl;exact f ha
 ·rcases List.mem_append.1 c with c | c
  ·exact h.2 x c
  ·rw [List.mem_singleton] at c;subst c;exact⟨e,g⟩
theorem Pu{sh:List Int}(hs:Zp sh):∀(n:Nat) (k:Int) (d:List Int),Jw sh d->k<(sh.length:Int)->Jw sh (Xh sh n k d)
 | 0,_,_,h,_=>h
 | n+1,k,d,h,hk=>by
  unfold Xh
  split
  ·rename_i h1
   exact Pu hs n _ _ (h.snoc h1.1 hk h1.2) (Kq hs _).2
  ·exact h
theorem Hs{sh:List Int}(hs:Zp sh){i:Nat}(hi:i<sh.length):Jw sh (Qa sh i):=Pu hs _ _ _ ⟨List.nodup_nil,fun _ h=>by cases h⟩ oz
theorem M2(sh:List Int)(i:Nat):∃ r,Qa sh i=(i:Int)::r:=by
 unfold Qa Xh;rw [if_pos ⟨by omega,by simp⟩];obtain⟨r,a⟩:=Dq sh 64 (sh.getD (i:Int).toNat (-1)) ([]++[(i:Int)]);exact⟨r,by rw [a];simp⟩
structure Xr (sh:List Int) (i:Nat) (d:List Int) (k:Int):Prop where
 pre:Jw sh d
 lt:k<(sh.length:Int)
 way:Qa sh i=Xh sh (65 - d.length) k d
theorem Xr.start{sh:List Int}(i:Nat)(hi:i<sh.length):Xr sh i [] (i:Int):=⟨⟨List.nodup_nil,fun _ h=>by cases h⟩,by omega,rfl⟩
theorem Xr.more{sh d:List Int}{i:Nat}{k:Int}(f:Zp sh)(h:Xr sh i d k)(c:0<=k)(e:k ∉ d):Xr sh i (d++[k]) (sh.getD k.toNat (-1))/\∃ r,Qa sh i=d++k::r:=by
 have m:=h.pre.le;have l:=f.1;have a:=h.way;obtain⟨b,g⟩:∃ b,65 - d.length=b+1:=⟨64 - d.length,by omega⟩;rw [g] at a;unfold Xh at a;rw [if_pos ⟨c,e⟩] at a;refine⟨⟨h.pre.snoc c h.lt e,(Kq f _).2,?_⟩,?_⟩
 ·rw [a,List.length_append,List.length_singleton];have:65 - (d.length+1)=b:=by omega
  rw [this]
 ·obtain⟨r,j⟩:=Dq sh b (sh.getD k.toNat (-1)) (d++[k]);exact⟨r,by rw [a,j];simp⟩
theorem Xr.stop{sh d:List Int}{i:Nat}{k:Int}(f:Zp sh)(h:Xr sh i d k)(c:¬ (0<=k/\k ∉ d)):Qa sh i=d:=by
 have j:=h.pre.le;have g:=f.1;have a:=h.way;obtain⟨b,e⟩:∃ b,65 - d.length=b+1:=⟨64 - d.length,by omega⟩;rw [e] at a;unfold Xh at a;rw [if_neg c] at a;exact a
theorem Ly{sh:List Int}(b:Zp sh){i:Nat}(g:i<sh.length):(1<(Qa sh i).length)↔Xv sh i=true:=by
 have m:=Kq b i;have c:=(Xr.start (sh:=sh) i g).more b oz zy;have j:((i:Int)).toNat=i:=by simp
 rw [j] at c;unfold Xv;rw [Bool.and_eq_true,decide_eq_true_iff,decide_eq_true_iff];constructor
 ·intro d;by_cases a:0<=sh.getD i (-1)/\sh.getD i (-1) ∉ ([]++[(i:Int)])
  ·simp only [List.nil_append,List.mem_singleton] at a;exact⟨by omega,a.2⟩
  ·rw [c.1.stop b a] at d;simp at d
 ·rintro⟨l,e⟩;have a:0<=sh.getD i (-1):=by omega
  have f:=c.1.more b a (by simpa using e);obtain⟨n,k⟩:=f.2;rw [k];simp
theorem Q46{sh:List Int}(b:Zp sh){i:Nat}(a:i<sh.length):Xc sh i=(decide (1<(Qa sh i).length) && decide (sh.getD ((Qa sh i).getLastD 0).toNat (-1)=i) && (Qa sh i).all fun k=>decide ((i:Int)<=k)):=by
 unfold Xc;rw [show Xv sh i=decide (1<(Qa sh i).length) from by rw [Bool.eq_iff_iff,decide_eq_true_iff];exact(Ly b a).symm]
def nxt(sh:List Int)(k:Int):Int:=sh.getD k.toNat (-1)
theorem gl{d e:List Int}{j:Nat}(h:j<d.length):(d++e).getD j 0=d.getD j 0:=by rw [List.getD_eq_getElem?_getD,List.getD_eq_getElem?_getD,List.getElem?_append_left h]
theorem gr{d:List Int}{k:Int}:(d++[k]).getD d.length 0=k:=by rw [List.getD_eq_getElem?_getD];simp
theorem gm{d:List Int}{j:Nat}(h:j<d.length):d.getD j 0∈d:=by
 rw [List.getD_eq_getElem?_getD,List.getElem?_eq_getElem h];exact List.getElem_mem h
theorem gx{d:List Int}{x:Int}(h:x∈d):∃ j,j<d.length/\d.getD j 0=x:=by
 obtain⟨j,a,b⟩:=List.getElem_of_mem h;refine⟨j,a,?_⟩;rw [List.getD_eq_getElem?_getD,List.getElem?_eq_getElem a];exact b
theorem gi{d:List Int}(g:d.Nodup){i j:Nat}(a:i<d.length)(b:j<d.length)(h:d.getD i 0=d.getD j 0):i=j:=by
 rw [List.getD_eq_getElem?_getD,List.getD_eq_getElem?_getD,List.getElem?_eq_getElem a,List.getElem?_eq_getElem b] at h;have c:=List.pairwise_iff_getElem.1 g;by_cases e:i<j
 ·exact absurd (Option.some.inj (by simpa using h)) (c i j a b e)
 ·by_cases f:j<i
  ·exact absurd (Option.some.inj (by simpa using h.symm)) (c j i b a f)
  ·omega
def Wn(sh d:List Int)(k:Int):Prop:=(∀ j,j+1<d.length->nxt sh (d.getD j 0)=d.getD (j+1) 0)/\∀ j,j+1=d.length->nxt sh (d.getD j 0)=k
theorem Wn.snoc{sh d:List Int}{k:Int}(h:Wn sh d k):Wn sh (d++[k]) (nxt sh k):=by
 refine⟨fun j hj=>?_,fun j hj=>?_⟩
 ·rw [List.length_append,List.length_singleton] at hj;rw [gl oz];by_cases b:j+1<d.length
  ·rw [gl b];exact h.1 j b
  ·have a:j+1=d.length:=by omega
   rw [a,gr];exact h.2 j a
 ·rw [List.length_append,List.length_singleton] at hj;rw [show j=d.length by omega,gr]
theorem Q7k{sh:List Int}(e:Zp sh){i:Nat}:∀(m:Nat) (d:List Int) (k:Int),sh.length - d.length=m->Xr sh i d k->Wn sh d k->∃ k',Wn sh (Qa sh i) k'/\¬ (0<=k'/\k' ∉ Qa sh i):=by
 intro m
 induction m with
 | zero=>
  intro d k g b c;by_cases a:0<=k/\k ∉ d
  ·have f:=(b.more e a.1 a.2).1.pre.le;rw [List.length_append,List.length_singleton] at f;omega
  ·exact⟨k,by rw [b.stop e a];exact⟨c,a⟩⟩
 | succ m ih=>
  intro d k g b c;by_cases a:0<=k/\k ∉ d
  ·exact ih (d++[k]) _ (by rw [List.length_append,List.length_singleton];omega) (b.more e a.1 a.2).1 c.snoc
  ·exact⟨k,by rw [b.stop e a];exact⟨c,a⟩⟩
theorem Hj{sh:List Int}{i:Nat}:(i:Int)∈Qa sh i:=by
 obtain⟨b,a⟩:=M2 sh i;rw [a];exact List.mem_cons_self
theorem Ux{sh:List Int}{i:Nat}:(Qa sh i).getD 0 0=(i:Int)/\0<(Qa sh i).length:=by
 obtain⟨b,a⟩:=M2 sh i;rw [a];exact⟨rfl,by simp⟩
section
variable {sh:List Int} (hs:Zp sh) {i s:Nat} (hi:i<sh.length)
include hs hi
theorem Ue:∃ k',Wn sh (Qa sh i) k'/\¬ (0<=k'/\k' ∉ Qa sh i):=Q7k hs _ [] (i:Int) rfl (Xr.start i hi) ⟨fun j hj=>by simp at hj,fun j hj=>by simp at hj⟩
theorem Fu:(Qa sh i).Nodup:=(Hs hs hi).1
theorem Vc{x:Int}(h:x∈Qa sh i):0<=x/\x<(sh.length:Int):=(Hs hs hi).2 x h
theorem Gg{x:Int}(h:x∈Qa sh i)(b:0<=nxt sh x):nxt sh x∈Qa sh i:=by
 obtain⟨j,d,f⟩:=Ue hs hi;obtain⟨a,g,rfl⟩:=gx h;by_cases c:a+1<(Qa sh i).length
 ·rw [d.1 a c];exact gm c
 ·have e:=d.2 a oz;rw [e] at b ⊢;exact Classical.byContradiction fun hn=>f ⟨b,hn⟩
theorem Q6c{x:Int}(h:x∈Qa sh i)(d:x≠(i:Int)):∃ y,y∈Qa sh i/\y≠x/\nxt sh y=x:=by
 obtain⟨f,c,_⟩:=Ue hs hi;obtain⟨a,b,rfl⟩:=gx h;cases a with
 | zero=>exact absurd Ux.1 d
 | succ a=>
  exact⟨(Qa sh i).getD a 0,gm oz,fun e=>by have:=gi (Fu hs hi) oz b e;omega,c.1 a b⟩
theorem Hq(e:s<sh.length)(h:(i:Int)∈Qa sh s) {x:Int} (f:x∈Qa sh i):x∈Qa sh s:=by
 obtain⟨g,d,_⟩:=Ue hs hi;have:∀ a,a<(Qa sh i).length->(Qa sh i).getD a 0∈Qa sh s:=by
  intro a
  induction a with
  | zero=>intro _;rw [Ux.1];exact h
  | succ a ih=>
   intro b;have c:=d.1 a b;rw [<-c];refine Gg hs e (ih oz) ?_;rw [c];exact(Vc hs hi (gm b)).1
 obtain⟨a,b,rfl⟩:=gx f;exact this a b
end
theorem Uf(sh:List Int)(i:Nat):nxt sh (i:Int)=sh.getD i (-1):=by unfold nxt;rw [Int.toNat_natCast]
theorem W5{sh:List Int}{i:Nat}:Xv sh i=true↔nxt sh (i:Int)≠-1/\nxt sh (i:Int)≠(i:Int):=by
 unfold Xv;rw [Bool.and_eq_true,decide_eq_true_iff,decide_eq_true_iff,Uf]
theorem Lx{sh:List Int}{i:Nat}:toB sh i=true↔∃ p,p<sh.length/\p≠i/\nxt sh (p:Int)=(i:Int):=by
 unfold toB;rw [List.any_eq_true];constructor
 ·rintro⟨p,b,a⟩;rw [Bool.and_eq_true,decide_eq_true_iff,decide_eq_true_iff] at a;exact⟨p,List.mem_range.1 b,a.1,by rw [Uf];exact a.2⟩
 ·rintro⟨p,b,a,c⟩;exact⟨p,List.mem_range.2 b,by rw [Bool.and_eq_true,decide_eq_true_iff,decide_eq_true_iff];exact⟨a,by rw [<-Uf];exact c⟩⟩
theorem pig:∀(C B:List Nat),C.Nodup->(∀ x∈C,x∈B)->B.length<=C.length->∀ x∈B,x∈C
 | [],B,_,_,h,x,hx=>by
  have:=List.length_pos_of_mem hx;simp at h;subst h;cases hx
 | c::C,B,hn,hs,h,x,hx=>by
  rw [List.nodup_cons] at hn;have hc:=hs c zy;have hl:=List.length_erase_of_mem hc;have hp:=List.length_pos_of_mem hc;have ih:=pig C (B.erase c) hn.2 (fun y hy=>(List.mem_erase_of_ne (fun e=>hn.1 (by rw [<-e];exact hy))).2 (hs y (by simp [hy]))) (by rw [hl];simp at h;omega);by_cases hxc:x=c
  ·rw [hxc];simp
  ·exact List.mem_cons_of_mem _ (ih x ((List.mem_erase_of_ne hxc).2 hx))
theorem Q2w{sh:List Int}(I:Zp sh){B:List Nat}(Q:B.Nodup)(a0:∀ b∈B,b<sh.length)(H:∀ b∈B,∃ p,p∈B/\p≠b/\nxt sh (p:Int)=(b:Int)) :
  ∀ b∈B,(∃ c,c∈B/\c≠b/\nxt sh (b:Int)=(c:Int))/\nxt sh ((Qa sh b).getLastD 0)=(b:Int):=by
 let f:Nat->Nat:=fun b=>if h:b∈B then Classical.choose (H b h) else 0
 have o:∀ b∈B,f b∈B/\f b≠b/\nxt sh (f b:Int)=(b:Int):=fun b h=>by
  have:=Classical.choose_spec (H b h);simp only [f,dif_pos h];exact this
 have X:∀ a∈B,∀ b∈B,f a=f b->a=b:=fun a ha b g e=>by
  have M:=(o a ha).2.2;have N:=(o b g).2.2;rw [e,N] at M;omega
 have R:∀(l:List Nat),l.Nodup->(∀ x∈l,x∈B)->(l.map f).Nodup:=by
  intro l
  induction l with
  | nil=>intro _ _;exact List.nodup_nil
  | cons a l ih=>
   intro k w;rw [List.nodup_cons] at k;rw [List.map_cons,List.nodup_cons];refine⟨fun h=>?_,ih k.2 fun x hx=>w x (by simp [hx])⟩;obtain⟨s,r,e⟩:=List.mem_map.1 h;exact k.1 (by rw [<-X s (w s (by simp [r])) a (w a zy) e];exact r)
 have a3:=pig (B.map f) B (R B Q fun _ h=>h) (fun x hx=>by obtain⟨s,r,rfl⟩:=List.mem_map.1 hx;exact(o s r).1) (by rw [List.length_map];exact Nat.le_refl _)
 have q:∀ b∈B,∃ c,c∈B/\c≠b/\nxt sh (b:Int)=(c:Int)/\f c=b:=fun b g=>by
  obtain⟨c,j,e⟩:=List.mem_map.1 (a3 b g);have:=o c j;rw [e] at this;exact⟨c,j,fun h=>this.2.1 h.symm,this.2.2,e⟩
 intro b g;obtain⟨J,S,U,a1,_⟩:=q b g;refine⟨⟨J,S,U,a1⟩,?_⟩;have E:=a0 b g;obtain⟨a7,v,Y⟩:=Ue I E;have D:∀ d,d<(Qa sh b).length->∃ c,c∈B/\(Qa sh b).getD d 0=(c:Int):=by
  intro d
  induction d with
  | zero=>intro _;exact⟨b,g,Ux.1⟩
  | succ d ih=>
   intro u;obtain⟨c,j,e⟩:=ih oz;obtain⟨n,F,_,y,_⟩:=q c j;exact⟨n,F,by rw [<-v.1 d u,e,y]⟩
 have a6:=(Ux (sh:=sh) (i:=b)).2;obtain⟨m,k⟩:∃ m,(Qa sh b).length=m+1:=⟨(Qa sh b).length - 1,by omega⟩;have Z:(Qa sh b).getLastD 0=(Qa sh b).getD m 0:=by
  rw [List.getLastD_eq_getLast?,List.getLast?_eq_getElem?,k,List.getD_eq_getElem?_getD];rfl
 rw [Z];have G:=v.2 m k.symm;obtain⟨c,j,A⟩:=D m oz;obtain⟨n,F,_,y,V⟩:=q c j;rw [A,y] at G ⊢;have W:(n:Int)∈Qa sh b:=Classical.byContradiction fun h=>Y ⟨by omega,by rw [<-G];exact h⟩;obtain⟨d,u,C⟩:=gx W;cases d with
 | zero=>rw [<-C];exact Ux.1
 | succ d=>
  exfalso
  obtain⟨K,T,z⟩:=D d oz;have O:=v.1 d u;obtain⟨L,a5,_,a2,t⟩:=q K T;rw [z,a2,C] at O;have P:L=n:=by omega
  rw [P] at t;rw [V] at t;have a4:=gi (Fu I E) (show d < _ by omega) (show m < _ by omega) (by rw [z,A,t]);omega
section
variable {sh:List Int} (hs:Zp sh)
include hs
theorem Pa{i:Nat}(n:i<sh.length)(h:Xv sh i=true\/toB sh i=true) :
  (∃ s,s<sh.length/\Xv sh s=true/\toB sh s=false/\(i:Int)∈Qa sh s)\/∃ m,m<sh.length/\Xc sh m=true/\(i:Int)∈Qa sh m:=by
 by_cases q:∃ s,s<sh.length/\Xv sh s=true/\toB sh s=false/\(i:Int)∈Qa sh s
 ·exact .inl q
 right
 let B:=(List.range sh.length).filter fun b=>decide ((i:Int)∈Qa sh b)
 have k:∀ b,b∈B↔b<sh.length/\(i:Int)∈Qa sh b:=fun b=>by simp only [B,List.mem_filter,List.mem_range,decide_eq_true_eq]
 have R:∀ b∈B,toB sh b=true:=fun b hb=>by
  have l:=(k b).1 hb;by_cases K:b=i
  ·subst K;rcases h with h | h
   ·cases f:toB sh b with
    | true=>rfl
    | false=>exact absurd ⟨b,l.1,h,f,l.2⟩ q
   ·exact h
  ·cases f:toB sh b with
   | true=>rfl
   | false=>
    refine absurd ⟨b,l.1,(Ly hs l.1).1 ?_,f,l.2⟩ q;obtain⟨e,o,F⟩:=gx l.2;cases e with
    | zero=>have:=(Ux (sh:=sh) (i:=b)).1;omega
    | succ e=>omega
 have y:=Q2w hs (B:=B) (List.nodup_range.filter _) (fun b hb=>((k b).1 hb).1) fun b hb=>by
  obtain⟨w,r,G,t⟩:=Lx.1 (R b hb);refine⟨w,(k w).2 ⟨r,?_⟩,G,t⟩;have L:(b:Int)∈Qa sh w:=by
   rw [<-t];exact Gg hs r Hj (by rw [t];omega)
  exact Hq hs ((k b).1 hb).1 r L ((k b).1 hb).2
 have N:i∈B:=(k i).2 ⟨n,Hj⟩
 -- the least index of the way
 obtain⟨m,v,O⟩:∃ m:Nat,(m:Int)∈Qa sh i/\∀ d∈Qa sh i,(m:Int)<=d:=by
  have:∀(g:List Int),(∀ d∈g,0<=d)->g≠[]->∃ m:Nat,(m:Int)∈g/\∀ d∈g,(m:Int)<=d:=by
   intro g
   induction g with
   | nil=>intro _ h;exact absurd rfl h
   | cons a g ih=>
    intro x _;have H:=x a zy;by_cases p:g=[]
    ·subst p;exact⟨a.toNat,by simp;omega,fun d c=>by simp at c;omega⟩
    ·obtain⟨m,S,D⟩:=ih (fun d c=>x d (by simp [c])) p;by_cases P:(m:Int)<=a
     ·exact⟨m,by simp [S],fun d c=>by rcases List.mem_cons.1 c with rfl | c;exact P;exact D d c⟩
     ·exact⟨a.toNat,by rw [Int.toNat_of_nonneg H];simp,fun d c=>by rcases List.mem_cons.1 c with rfl | c;omega;have:=D d c;omega⟩
  exact this _ (fun d c=>(Vc hs n c).1) (fun f=>by have:=Hj (sh:=sh) (i:=i);rw [f] at this;cases this)
 have U:=(Vc hs n v).2;have A:m<sh.length:=by omega
 -- m leads to i again
 have z:m∈B:=by
  have I:∀ e,e<(Qa sh i).length->∃ j,j∈B/\(Qa sh i).getD e 0=(j:Int):=by
   obtain⟨V,p,_⟩:=Ue hs n;intro e
   induction e with
   | zero=>intro _;exact⟨i,N,Ux.1⟩
   | succ e ih=>
    intro o;obtain⟨j,u,f⟩:=ih oz;obtain⟨E,M,_,Q⟩:=(y j u).1;exact⟨E,M,by rw [<-p.1 e o,f,Q]⟩
  obtain⟨e,o,F⟩:=gx v;obtain⟨j,u,f⟩:=I e o;have:j=m:=by omega
  rw [<-this];exact u
 refine⟨m,A,?_,((k m).1 z).2⟩;obtain⟨⟨j,_,T,C⟩,J⟩:=y m z;unfold Xc;rw [Bool.and_eq_true,Bool.and_eq_true];refine⟨⟨W5.2 ⟨by rw [C];omega,by rw [C];omega⟩,decide_eq_true J⟩,?_⟩;rw [List.all_eq_true];intro d c;exact decide_eq_true (O d (Hq hs A n v c))
theorem Nj{m:Nat}(d:m<sh.length)(c:Xc sh m=true){x:Nat}(j:(x:Int)∈Qa sh m):(m:Int)∈Qa sh x:=by
 unfold Xc at c;rw [Bool.and_eq_true,Bool.and_eq_true,decide_eq_true_iff] at c;obtain⟨⟨_,n⟩,_⟩:=c;obtain⟨s,p,_⟩:=Ue hs d;have k:x<sh.length:=by have:=(Vc hs d j).2;omega
 obtain⟨b,r,l⟩:=gx j;have o:∀ a,b+a<(Qa sh m).length->(Qa sh m).getD (b+a) 0∈Qa sh x:=by
  intro a
  induction a with
  | zero=>intro _;rw [Nat.add_zero,l];exact Hj
  | succ a ih=>
   intro i;have e:=p.1 (b+a) oz;rw [show b+(a+1)=b+a+1 by omega,<-e];refine Gg hs k (ih oz) ?_;rw [e];exact(Vc hs d (gm oz)).1
 obtain⟨a,i⟩:∃ a,(Qa sh m).length=b+a+1:=⟨(Qa sh m).length - b - 1,by omega⟩;have q:(Qa sh m).getLastD 0=(Qa sh m).getD (b+a) 0:=by
  rw [List.getLastD_eq_getLast?,List.getLast?_eq_getElem?,i,List.getD_eq_getElem?_getD];rfl
 have f:=o a oz;rw [<-q] at f;have g:nxt sh ((Qa sh m).getLastD 0)=(m:Int):=n;rw [<-g];exact Gg hs k f (by rw [g];omega)
theorem Q3j{m n:Nat}(c:m<sh.length)(e:n<sh.length)(a:Xc sh m=true)(b:Xc sh n=true){x:Nat}(d:(x:Int)∈Qa sh m) (g:(x:Int)∈Qa sh n):m=n:=by
 have f:x<sh.length:=by have:=(Vc hs c d).2;omega
 have i:=Hq hs f e g (Nj hs c a d);have j:=Hq hs f c d (Nj hs e b g);unfold Xc at a b;rw [Bool.and_eq_true,List.all_eq_true] at a b;have k:=of_decide_eq_true (a.2 _ j);have l:=of_decide_eq_true (b.2 _ i);omega
end
def Y2(l:List Nat):List Value:=l.map fun(x:Nat)=>Value.int .i64 (x:Int)
def Us(l:List Int)(k j:Nat):Nat:=(l.take k).countP fun x=>decide (x=(j:Int))
def X7(l:List Int)(n k:Nat):List Nat:=(List.range n).map (Us l k)
theorem Sb(l:List Int)(n k:Nat):(X7 l n k).length=n:=by simp [X7]
theorem Q6k(l:List Int)(k j:Nat):Us l k j<=k:=Nat.le_trans List.countP_le_length (by rw [List.length_take];omega)
theorem Q0f{l:List Int}{k:Nat}(b:k<l.length)(j:Nat):Us l (k+1) j=Us l k j+if l[k]=(j:Int) then 1 else 0:=by
 unfold Us;rw [List.take_succ_eq_append_getElem b,List.countP_append];by_cases a:l[k]=(j:Int) <;> simp [a]
theorem Cv{l:List Int}{n k x:Nat}(c:k<l.length)(b:l[k]=(x:Int)):Y2 (X7 l n (k+1))=(Y2 (X7 l n k)).set x (.int .i64 ((Us l k x:Nat)+1)):=by
 apply List.ext_getElem
 ·simp [Y2,X7]
 ·intro d e f;rw [List.getElem_set];simp only [Y2,X7,List.getElem_map,List.getElem_range];rw [Q0f c];by_cases a:x=d
  ·subst a;rw [if_pos b,if_pos rfl];rfl
  ·rw [if_neg (by rw [b];omega),if_neg a];rfl
theorem Cy(l:List Int)(n:Nat):Y2 (X7 l n 0)=List.replicate n (.int .i64 0):=by
 apply List.ext_getElem
 ·simp [Y2,X7]
 ·intro c a b;simp [Y2,X7,Us]
theorem Q0j(l:List Int):(X7 l l.length l.length).filter (fun n=>decide (n≠0))=Ts l:=by
 unfold Ts X7
 congr 1
 apply List.map_congr_left;intro a _;unfold Us Sv;rw [List.take_length]
def Q1b(l:List Int)(k:Nat):Prop:=∀ i,i<k->0<=l.getD i 0/\l.getD i 0<=i/\l.getD (l.getD i 0).toNat 0=l.getD i 0
theorem Q7x{l:List Int}(h:l.length<=256)(e:Q1b l l.length):Jc l=0:=by
 unfold Jc;rw [if_neg oz,if_pos];rw [List.all_eq_true];intro f a;rw [List.mem_range] at a;obtain⟨b,c,d⟩:=e f a;rw [decide_eq_true b,decide_eq_true c,decide_eq_true d];rfl
theorem Q7j{l:List Int}(h:l.length<=256){i:Nat}(c:i<l.length)(b:¬ (0<=l.getD i 0/\l.getD i 0<=i/\l.getD (l.getD i 0).toNat 0=l.getD i 0)):Jc l=2:=by
 unfold Jc;rw [if_neg oz,if_neg];intro a;have:=(List.all_eq_true.1 a) i (List.mem_range.2 c);simp only [Bool.and_eq_true,decide_eq_true_eq] at this;exact b ⟨this.1.1,this.1.2,this.2⟩
theorem Q4z{l:List Int}(h:¬ l.length<=256):Jc l=12:=by unfold Jc;rw [if_pos oz]
def Ky(l:List Int):List Nat:=if Jc l=0 then Ts l else []
theorem L2{α:Type}(p:α->Bool){f:List α}{i:Nat}(b:i<f.length):(f.take (i+1)).filter p=(f.take i).filter p++if p f[i]=true then [f[i]] else []:=by
 rw [List.take_succ_eq_append_getElem b,List.filter_append];by_cases a:p f[i]=true <;> simp [a]
def Jk(s:Nat × Nat)(m:Nat)(f:Nat × Nat):(Nat × Nat) × Int:=
 if okS s=false\/okS f=false then((0,0),14) else if 16777215<m\/m &&& (f.1 ||| f.2)≠0 then((0,0),2) else(K6 s f (m ||| (f.1 ||| f.2)),0)
def Ut(s f:Nat × Nat)(m:Nat):(Nat × Nat) × Int:=
 if okS s=false\/okS f=false then((0,0),14) else if 16777215<m then((0,0),2) else(K6 s f m,0)
theorem Rq{s f:Nat × Nat}{m:Nat}(M:Qe s)(K:Qe f)(b3:m<4294967296)(w:World) :
  Calls Tryz.prog 226 #[sV s,sV f,.int .u32 (m:Int)] w fun e w'=>e=.returned (.tuple #[sV (Ut s f m).1,.int .i64 (Ut s f m).2])/\Ext w w':=by
 have N:=fun(V:World)=>Yg M V;have O:=fun(V:World)=>Yg K V;have L:=fun(V:World)=>Tm M K b3 V;obtain⟨d,b⟩:=s;obtain⟨g,i⟩:=f;obtain⟨a9,b0⟩:=M;obtain⟨b1,b2⟩:=K;dsimp only at a9 b0 b1 b2;obtain⟨t,P⟩:=zE (okS (d,b));obtain⟨a2,Q⟩:=zE (okS (g,i));rw [P] at N;rw [Q] at O;have a6:=Zh N;have a7:=Zh O;have k:Hid (Ut (d,b) (g,i) m=if t=false\/a2=false then((0,0),14) else if 16777215<m then((0,0),2) else(K6 (d,b) (g,i) m,0)):=Zh (by unfold Ut;rw [P,Q]);obtain⟨q,r,Z⟩:∃ q r,Ut (d,b) (g,i) m=(q,r):=⟨_,_,rfl⟩;rw [Z] at k ⊢;clear N O P Q Z;obtain⟨⟨R,S⟩,a0⟩:=zE (K6 (d,b) (g,i) m);rw [a0] at L k;have a5:=Zh L;clear L a0;go_enter Tryz.func226,Tryz.ntmps226;go_wp2_with fail;obtain⟨c,o⟩:=zE w.heap.size;have T:(((w.alloc (.cells #[.int .u32 (d:Int),.int .u32 (b:Int)] 26)).alloc (.cells #[.int .u32 (g:Int),.int .u32 (i:Int)] 26)).alloc (.cells #[.int .u32 0,.int .u32 0] 26)).heap[c]?=some (.cells #[.int .u32 (d:Int),.int .u32 (b:Int)] 26 (0,0)):=by subst o;exact Q7 (Q7 (new_at rfl))
 have U:(((w.alloc (.cells #[.int .u32 (d:Int),.int .u32 (b:Int)] 26)).alloc (.cells #[.int .u32 (g:Int),.int .u32 (i:Int)] 26)).alloc (.cells #[.int .u32 0,.int .u32 0] 26)).heap[c+1]?=some (.cells #[.int .u32 (g:Int),.int .u32 (i:Int)] 26 (0,0)):=by subst o;exact Q7 (new_at zy)
 have W:(((w.alloc (.cells #[.int .u32 (d:Int),.int .u32 (b:Int)] 26)).alloc (.cells #[.int .u32 (g:Int),.int .u32 (i:Int)] 26)).alloc (.cells #[.int .u32 0,.int .u32 0] 26)).heap[c+2]?=some (.cells #[.int .u32 0,.int .u32 0] 26 (0,0)):=by subst o;exact new_at zy
 have F:Ext w (((w.alloc (.cells #[.int .u32 (d:Int),.int .u32 (b:Int)] 26)).alloc (.cells #[.int .u32 (g:Int),.int .u32 (i:Int)] 26)).alloc (.cells #[.int .u32 0,.int .u32 0] 26)):=(((Q0.refl _ w).alloc _).alloc _).alloc _;refine(a6.out _).mono ?_;generalize (((w.alloc (.cells #[.int .u32 (d:Int),.int .u32 (b:Int)] 26)).alloc (.cells #[.int .u32 (g:Int),.int .u32 (i:Int)] 26)).alloc (.cells #[.int .u32 0,.int .u32 0] 26))=b8 at T U W F ⊢;rw [o];have B:=Zh o;clear o;rintro e b4 ⟨rfl,a⟩;have G:=F.trans a;have C:=a.keep T;have D:=a.keep U;have E:=a.keep W;have I:=zR C;have J:=zR D;have H:=Zh E;clear a T U W F;cases t
 ·clear C D E;have n:q=(0,0)/\r=14:=by have:=k.out;rw [if_pos (.inl rfl)] at this;exact⟨congrArg Prod.fst this,congrArg Prod.snd this⟩
  obtain⟨rfl,rfl⟩:=n;clear k
  go_wp2_with (refine wpList_store_row rfl 26 (.tmp 6) (.tmp 16) rfl (c+2) #[.int .u32 0,.int .u32 0] rfl rfl _ _ H.out kz rfl kz ?_)
  have l:=Q0.setRow b4 (c+2) #[.int .u32 0,.int .u32 0];refine bodyPost_ret (X1 (p:=6) (u:=7) rfl rfl (setRow_heap _ _ _ _ _ _ H.out) kz) rfl ?_;exact⟨rfl,G.after l (fun b h1 e=>by have:=B.out;omega)⟩
 go_wp2_with fail;refine(a7.out _).mono ?_;rintro e a1 ⟨rfl,a⟩;have A:=G.trans a;have x:=a.keep C;have y:=a.keep D;have z:=a.keep E;clear I J H a C D E G;have I:=zR x;have J:=zR y;have v:=Zh z;cases a2
 ·clear x y z;have n:q=(0,0)/\r=14:=by have:=k.out;rw [if_pos (.inr rfl)] at this;exact⟨congrArg Prod.fst this,congrArg Prod.snd this⟩
  obtain⟨rfl,rfl⟩:=n;clear k
  go_wp2_with (refine wpList_store_row rfl 26 (.tmp 6) (.tmp 16) rfl (c+2) #[.int .u32 0,.int .u32 0] rfl rfl _ _ v.out kz rfl kz ?_)
  have l:=Q0.setRow a1 (c+2) #[.int .u32 0,.int .u32 0];refine bodyPost_ret (X1 (p:=6) (u:=7) rfl rfl (setRow_heap _ _ _ _ _ _ v.out) kz) rfl ?_;exact⟨rfl,A.after l (fun b h1 e=>by have:=B.out;omega)⟩
 by_cases Y:16777215<m
 ·have a8:(16777215:Int)<(m:Int):=by omega
  clear x y z;have n:q=(0,0)/\r=2:=by have:=k.out;rw [if_neg zd,if_pos Y] at this;exact⟨congrArg Prod.fst this,congrArg Prod.snd this⟩
  obtain⟨rfl,rfl⟩:=n;clear k
  go_wp2_with (refine wpList_store_row rfl 26 (.tmp 6) (.tmp 19) rfl (c+2) #[.int .u32 0,.int .u32 0] rfl rfl _ _ v.out kz rfl kz ?_)
  have l:=Q0.setRow a1 (c+2) #[.int .u32 0,.int .u32 0];refine bodyPost_ret (X1 (p:=6) (u:=7) rfl rfl (setRow_heap _ _ _ _ _ _ v.out) kz) rfl ?_;exact⟨rfl,A.after l (fun b h1 e=>by have:=B.out;omega)⟩
 have a8:¬ (16777215:Int)<(m:Int):=by omega
 have n:q=(R,S)/\r=0:=by have:=k.out;rw [if_neg zd,if_neg Y] at this;exact⟨congrArg Prod.fst this,congrArg Prod.snd this⟩
 obtain⟨rfl,rfl⟩:=n;clear k;go_wp2_with fail;refine(a5.out _).mono ?_;rintro e b5 ⟨rfl,a⟩;have a4:=A.trans a;have b6:=a.keep x;have b7:=a.keep y;have a3:=a.keep z;clear I J v a x y z A;have X:=Zh a3;clear b6 b7 a3
 go_wp2_with (refine wpList_store_row rfl 26 (.tmp 6) (.tmp 23) rfl (c+2) #[.int .u32 (R:Int),.int .u32 (S:Int)] rfl rfl _ _ X.out kz rfl kz ?_)
 have l:=Q0.setRow b5 (c+2) #[.int .u32 (R:Int),.int .u32 (S:Int)];refine bodyPost_ret (X1 (p:=6) (u:=7) rfl rfl (setRow_heap _ _ _ _ _ _ X.out) kz) rfl ?_;exact⟨rfl,a4.after l (fun b h1 e=>by have:=B.out;omega)⟩
theorem M6{s f:Nat × Nat}{m:Nat}(a6:Qe s)(y:Qe f)(a5:m<4294967296)(w:World) :
  Calls Tryz.prog 225 #[sV s,.int .u32 (m:Int),sV f] w fun e w'=>e=.returned (.tuple #[sV (Jk s m f).1,.int .i64 (Jk s m f).2])/\Ext w w':=by
 have a7:=fun(V:World)=>Yg a6 V;have a8:=fun(V:World)=>Yg y V;have R:=fun(V:World)=>Q54 y V;have J:f.1 ||| f.2<4294967296:=Nat.or_lt_two_pow (n:=32) y.1 y.2;have T:m ||| (f.1 ||| f.2)<4294967296:=Nat.or_lt_two_pow (n:=32) a5 J;have z:=fun(V:World)=>Tm a6 y T V;have b1:=u32_and_nat m (f.1 ||| f.2) a5 J;have b2:=u32_or_nat m (f.1 ||| f.2) a5 J;obtain⟨k,c⟩:=s;obtain⟨d,g⟩:=f;obtain⟨d9,e0⟩:=a6;obtain⟨e1,e2⟩:=y;dsimp only at d9 e0 e1 e2;dsimp only at R J T z b1 b2;obtain⟨C,a9⟩:=zE (okS (k,c));obtain⟨d1,b0⟩:=zE (okS (d,g));rw [a9] at a7;rw [b0] at a8;have d4:=Zh a7;have d5:=Zh a8;have i:Hid (Jk (k,c) m (d,g)=if C=false\/d1=false then((0,0),14) else if 16777215<m\/m &&& (d ||| g)≠0 then((0,0),2) else(K6 (k,c) (d,g) (m ||| (d ||| g)),0)):=Zh (by unfold Jk;rw [a9,b0]);obtain⟨r,t,L⟩:∃ r t,Jk (k,c) m (d,g)=(r,t):=⟨_,_,rfl⟩;rw [L] at i ⊢;clear a7 a8 a9 b0 L;obtain⟨⟨b3,b4⟩,c7⟩:=zE (K6 (k,c) (d,g) (m ||| (d ||| g)));obtain⟨Q,c4⟩:=zE (d ||| g);rw [c7] at z i;rw [c4] at R z i b1 b2 J T;obtain⟨A,c5⟩:=zE (m &&& Q);obtain⟨e7,L⟩:=zE (m ||| Q);rw [c5] at b1 i;rw [L] at b2 z;have d3:=Zh z;have c1:=Zh R;clear z R c7 c4 c5 L T;go_enter Tryz.func225,Tryz.ntmps225;go_wp2_with fail;obtain⟨a,x⟩:=zE w.heap.size;have b5:(((w.alloc (.cells #[.int .u32 (k:Int),.int .u32 (c:Int)] 26)).alloc (.cells #[.int .u32 (d:Int),.int .u32 (g:Int)] 26)).alloc (.cells #[.int .u32 0,.int .u32 0] 26)).heap[a]?=some (.cells #[.int .u32 (k:Int),.int .u32 (c:Int)] 26 (0,0)):=by subst x;exact Q7 (Q7 (new_at rfl))
 have b6:(((w.alloc (.cells #[.int .u32 (k:Int),.int .u32 (c:Int)] 26)).alloc (.cells #[.int .u32 (d:Int),.int .u32 (g:Int)] 26)).alloc (.cells #[.int .u32 0,.int .u32 0] 26)).heap[a+1]?=some (.cells #[.int .u32 (d:Int),.int .u32 (g:Int)] 26 (0,0)):=by subst x;exact Q7 (new_at zy)
 have b7:(((w.alloc (.cells #[.int .u32 (k:Int),.int .u32 (c:Int)] 26)).alloc (.cells #[.int .u32 (d:Int),.int .u32 (g:Int)] 26)).alloc (.cells #[.int .u32 0,.int .u32 0] 26)).heap[a+2]?=some (.cells #[.int .u32 0,.int .u32 0] 26 (0,0)):=by subst x;exact new_at zy
 have a1:Ext w (((w.alloc (.cells #[.int .u32 (k:Int),.int .u32 (c:Int)] 26)).alloc (.cells #[.int .u32 (d:Int),.int .u32 (g:Int)] 26)).alloc (.cells #[.int .u32 0,.int .u32 0] 26)):=(((Q0.refl _ w).alloc _).alloc _).alloc _;refine(d4.out _).mono ?_;generalize (((w.alloc (.cells #[.int .u32 (k:Int),.int .u32 (c:Int)] 26)).alloc (.cells #[.int .u32 (d:Int),.int .u32 (g:Int)] 26)).alloc (.cells #[.int .u32 0,.int .u32 0] 26))=e8 at b5 b6 b7 a1 ⊢;rw [x];have D:=Zh x;clear x;rintro e e4 ⟨rfl,b⟩;have a2:=a1.trans b;have W:=b.keep b5;have Y:=b.keep b6;have a0:=b.keep b7;have G:=zR W;have H:=zR Y;have a3:=Zh a0;clear b b5 b6 b7 a1;cases C
 ·clear W Y a0;have q:r=(0,0)/\t=14:=by have:=i.out;rw [if_pos (.inl rfl)] at this;exact⟨congrArg Prod.fst this,congrArg Prod.snd this⟩
  obtain⟨rfl,rfl⟩:=q;clear i
  go_wp2_with (refine wpList_store_row rfl 26 (.tmp 6) (.tmp 16) rfl (a+2) #[.int .u32 0,.int .u32 0] rfl rfl _ _ a3.out kz rfl kz ?_)
  have o:=Q0.setRow e4 (a+2) #[.int .u32 0,.int .u32 0];refine bodyPost_ret (X1 (p:=6) (u:=7) rfl rfl (setRow_heap _ _ _ _ _ _ a3.out) kz) rfl ?_;exact⟨rfl,a2.after o (fun c v e=>by have:=D.out;omega)⟩
 go_wp2_with fail;refine(d5.out _).mono ?_;rintro e c9 ⟨rfl,b⟩;have P:=a2.trans b;have M:=b.keep W;have N:=b.keep Y;have O:=b.keep a0;clear G H a3 b W Y a0 a2;have G:=zR M;have H:=zR N;have F:=Zh O;cases d1
 ·clear M N O;have q:r=(0,0)/\t=14:=by have:=i.out;rw [if_pos (.inr rfl)] at this;exact⟨congrArg Prod.fst this,congrArg Prod.snd this⟩
  obtain⟨rfl,rfl⟩:=q;clear i
  go_wp2_with (refine wpList_store_row rfl 26 (.tmp 6) (.tmp 16) rfl (a+2) #[.int .u32 0,.int .u32 0] rfl rfl _ _ F.out kz rfl kz ?_)
  have o:=Q0.setRow c9 (a+2) #[.int .u32 0,.int .u32 0];refine bodyPost_ret (X1 (p:=6) (u:=7) rfl rfl (setRow_heap _ _ _ _ _ _ F.out) kz) rfl ?_;exact⟨rfl,P.after o (fun c v e=>by have:=D.out;omega)⟩
 by_cases e3:16777215<m
 ·have d7:(16777215:Int)<(m:Int):=by omega
  clear M N O;have q:r=(0,0)/\t=2:=by have:=i.out;rw [if_neg zd,if_pos (.inl e3)] at this;exact⟨congrArg Prod.fst this,congrArg Prod.snd this⟩
  obtain⟨rfl,rfl⟩:=q;clear i
  go_wp2_with (refine wpList_store_row rfl 26 (.tmp 6) (.tmp 26) rfl (a+2) #[.int .u32 0,.int .u32 0] rfl rfl _ _ F.out kz rfl kz ?_)
  have o:=Q0.setRow c9 (a+2) #[.int .u32 0,.int .u32 0];refine bodyPost_ret (X1 (p:=6) (u:=7) rfl rfl (setRow_heap _ _ _ _ _ _ F.out) kz) rfl ?_;exact⟨rfl,P.after o (fun c v e=>by have:=D.out;omega)⟩
 have d7:¬ (16777215:Int)<(m:Int):=by omega
 go_wp2_with fail;refine(c1.out _).mono ?_;rintro e B ⟨rfl,b⟩;have c0:=P.trans b;have X:=b.keep M;have Z:=b.keep N;have b8:=b.keep O;clear G H F b M N O P;have G:=zR X;have H:=zR Z;have a4:=Zh b8;by_cases c6:A=0;case neg=>
  have e6:((A:Int) != 0)=true:=by rw [bne_iff_ne];omega
  clear X Z b8;have q:r=(0,0)/\t=2:=by have:=i.out;rw [if_neg zd,if_pos (.inr c6)] at this;exact⟨congrArg Prod.fst this,congrArg Prod.snd this⟩
  obtain⟨rfl,rfl⟩:=q;clear i
  go_wp2_with (refine wpList_store_row rfl 26 (.tmp 6) (.tmp 26) rfl (a+2) #[.int .u32 0,.int .u32 0] rfl rfl _ _ a4.out kz rfl kz ?_)
  have o:=Q0.setRow B (a+2) #[.int .u32 0,.int .u32 0];refine bodyPost_ret (X1 (p:=6) (u:=7) rfl rfl (setRow_heap _ _ _ _ _ _ a4.out) kz) rfl ?_;exact⟨rfl,c0.after o (fun c v e=>by have:=D.out;omega)⟩
 subst c6;have q:r=(b3,b4)/\t=0:=by have:=i.out;rw [if_neg zd,if_neg oz] at this;exact⟨congrArg Prod.fst this,congrArg Prod.snd this⟩
 obtain⟨rfl,rfl⟩:=q;clear i;have c3:∀(l:World),Q0 (·=a+2) B l->l.cell? ⟨a,0,none⟩=some (.int .u32 (k:Int))/\l.cell? ⟨a,1,none⟩=some (.int .u32 (c:Int))/\l.cell? ⟨a+1,0,none⟩=some (.int .u32 (d:Int))/\l.cell? ⟨a+1,1,none⟩=some (.int .u32 (g:Int)):=by
  intro l c2;have d8:=c2.heap X oz;have v:=c2.heap Z oz;simp [World.cell?,d8,v]
 have E:=Zh c3;clear c3 X Z b8;go_wp2_with fail;clear G H;refine wp_region_held_drew (S:=fun l=>l.cell? ⟨a,0,none⟩=some (.int .u32 (k:Int))/\l.cell? ⟨a,1,none⟩=some (.int .u32 (c:Int))/\l.cell? ⟨a+1,0,none⟩=some (.int .u32 (d:Int))/\l.cell? ⟨a+1,1,none⟩=some (.int .u32 (g:Int))) kz (E.out _ (Q0.drew (Q0.refl _ B))) ?_;intro I;refine tH 0 27 I ?_;refine tH 1 28 I ?_;refine tH 2 29 I ?_;refine tH 3 30 I ?_;refine rH [4] ?_;refine AllReadyH.cons rfl (fun K hK=>?_) AllReadyH.nil;refine iw rfl ?_;go_simp;refine(c1.out _).mono ?_;rintro e e5 ⟨rfl,b⟩;have c8:Ext B e5:=Q0.trans (Q0.drew (Q0.refl _ B)) b;refine hK.out _ _ (E.out _ (Ext.of c8)) (fun hS1=>?_);clear hK K b;refine tH 5 32 hS1 ?_;refine rH [6] ?_;refine AllReadyH.cons rfl (fun K hK=>?_) AllReadyH.nil;refine iw rfl ?_;go_simp;refine(d3.out _).mono ?_;rintro e d0 ⟨rfl,b⟩;have U:Ext B d0:=Q0.trans c8 b;have b9:=U.keep a4.out;refine hK.out _ _ (E.out _ (Ext.of U)) (fun hS2=>?_);clear hK K b;refine rH [7] ?_;refine AllReadyH.cons rfl (fun K hK=>?_) AllReadyH.nil;refine iw rfl ?_;refine wp_store_row 26 (.tmp 6) (.tmp 33) rfl (a+2) #[.int .u32 (b3:Int),.int .u32 (b4:Int)] rfl rfl _ _ b9 kz rfl kz ?_;have o:=Q0.setRow d0 (a+2) #[.int .u32 (b3:Int),.int .u32 (b4:Int)];refine hK.out _ _ (E.out _ ((Ext.of U).trans o)) (fun hS3=>?_);clear hK K;change wpAnyH _ _ _ _ _ _ _ (Act.put _ none _) _;simp only [Act.put];refine tH 8 7 hS3 ?_;refine wpAnyH_done kz ?_ _;have d2:=c0.trans U;clear I hS1 hS2 hS3 E;have d6:=Zh b9;clear b9;go_wp2;refine bodyPost_ret (X1 (p:=6) (u:=7) rfl rfl (setRow_heap _ _ _ _ _ _ d6.out) kz) rfl ?_;exact⟨rfl,d2.after o (fun c v e=>by have:=D.out;omega)⟩
def byt(n i:Nat):UInt8:=UInt8.ofNat (n / 2 ^ (8*i))
def Xo(s:Nat × Nat):List UInt8:=[byt s.1 0,byt s.2 0,byt s.1 1,byt s.2 1,byt s.1 2,byt s.2 2,byt s.1 3,byt s.2 3]
def Qr(u:Wd):List UInt8:=u.flatMap Xo
def X4(u:Wd):ByteArray:=⟨(Qr u).toArray⟩
theorem Lo{n m i:Nat}(h:byt n i=byt m i):n / 2 ^ (8*i) % 256=m / 2 ^ (8*i) % 256:=by
 have:=congrArg UInt8.toNat h
 simpa [byt,UInt8.toNat_ofNat'] using this
theorem Q2k{n m:Nat}(k:n<4294967296)(j:m<4294967296)(e:byt n 0=byt m 0)(f:byt n 1=byt m 1)(g:byt n 2=byt m 2)(i:byt n 3=byt m 3):n=m:=by
 have a:=Lo e;have b:=Lo f;have c:=Lo g;have d:=Lo i;simp only [Nat.mul_zero,Nat.mul_one,Nat.pow_zero,Nat.div_one,show (2:Nat) ^ 8=256 from rfl,show (2:Nat) ^ (8*2)=65536 from rfl,show (2:Nat) ^ (8*3)=16777216 from rfl] at a b c d;omega
theorem Q53{s t:Nat × Nat}(a:Qe s)(b:Qe t)(h:Xo s=Xo t):s=t:=by
 unfold Xo at h;simp only [List.cons.injEq,and_true] at h;obtain⟨c,g,d,i,e,j,f,k⟩:=h;exact Prod.ext (Q2k a.1 b.1 c d e f) (Q2k a.2 b.2 g i j k)
theorem Hx:∀ {u v:Wd},(∀ s∈u,Qe s)->(∀ s∈v,Qe s)->Qr u=Qr v->u=v
 | [],[],_,_,_=>rfl
 | [],t::v,_,_,h=>by simp [Qr,Xo] at h
 | s::u,[],_,_,h=>by simp [Qr,Xo] at h
 | s::u,t::v,hu,hv,h=>by
  have h':Xo s++Qr u=Xo t++Qr v:=h;have hl:(Xo s).length=(Xo t).length:=rfl;obtain⟨h1,h2⟩:=List.append_inj h' hl;rw [Q53 (hu s zy) (hv t zy) h1,Hx (fun x hx=>hu x (by simp [hx])) (fun x hx=>hv x (by simp [hx])) h2]
theorem Vi(u:Wd):(Qr u).length=8*u.length:=by
 induction u with
 | nil=>rfl
 | cons s u ih=>show (Xo s++Qr u).length=_;rw [List.length_append,ih];simp [Xo];omega
def Qaw(s:Nat × Nat)(f:Nat):Prop:=∀ i,i<f->¬ (s.1.testBit i=true/\s.2.testBit i=true)/\((s.1.testBit i=true\/s.2.testBit i=true)->i<24)
def Qat(s c:Nat × Nat)(f:Nat):Prop:=∀ i,i<f->Q5i c i≠0->Q5i s i=Q5i c i
theorem Q29{ws:Wd}{k:Nat}(h:k<ws.length):Qr (ws.take (k+1))=Qr (ws.take k)++Xo ws[k]:=by
 rw [List.take_succ_eq_append_getElem h];unfold Qr;rw [List.flatMap_append];simp only [List.flatMap_cons,List.flatMap_nil,List.append_nil]
theorem Q00(n i:Nat):(n:Int) / 2 ^ (8*i) % 256=((byt n i).toNat:Int):=by
 unfold byt;rw [UInt8.toNat_ofNat'];obtain⟨a,b⟩:∃ a:Nat,2 ^ (8*i)=a:=⟨_,rfl⟩;have c:(2:Int) ^ (8*i)=(a:Int):=by rw [<-b,Int.natCast_pow];rfl
 rw [b,c,Int.natCast_emod,Int.natCast_ediv];rfl
theorem Q40(s:Nat × Nat){i:Nat}(h:i<4):(Xo s).take (2*(i+1))=(Xo s).take (2*i)++[byt s.1 i]++[byt s.2 i]:=by
 have:i=0\/i=1\/i=2\/i=3:=by omega
 rcases this with rfl | rfl | rfl | rfl <;> rfl
theorem Q75(s:Nat × Nat)(i:Nat):((Xo s).take i).length<=8:=by rw [List.length_take];have:(Xo s).length=8:=rfl;omega
theorem S1{V b:World}{B C:Nat}{cs:Array Value}(c:V.heap[C]?=some (.cells cs 26 (0,0))) (d:C≠B) (e:Q0 (Q0s B B V) V b):b.heap[C]?=some (.cells cs 26 (0,0)):=by
 refine e.heap c ?_;rintro(a | ⟨_,f,a⟩)
 ·exact d a
 ·rw [c] at a;simp only [Option.some.injEq,Obj.cells.injEq] at a;exact absurd a.2.1 zd
theorem Sw{w V V':World}{B:Nat}(hE:Ext w V)(hB:w.heap.size<=B)(ht:Q0 (Q0s B B V) V V'):Ext w V':=hE.after ht fun b h1 h2=>by
 rcases h2 with h | ⟨h,_⟩
 ·omega
 ·omega
theorem Wy{w:World}{ao:Option Addr}{N cap:Nat}{ws:Wd}(p:Q4 w (.slice ao N cap) ws) (a6:ws.length=N) (e2:N<=1000) :
  Calls Tryz.prog 70 #[.slice ao N cap] w fun e w'=>e=.returned (.string (X4 ws))/\Ext w w':=by
 have X:=Zh p;have A:=Zh a6;clear p a6;go_enter Tryz.func70,Tryz.ntmps70;obtain⟨g,C⟩:=zE w.heap.size;have D:(w.alloc (.cells #[.pointer none,.slice none 0 0] 144)).heap[g]?=some (.cells #[.pointer none,.slice none 0 0] 144 (0,0)):=new_at C.symm;have m:Ext w (w.alloc (.cells #[.pointer none,.slice none 0 0] 144)):=(Q0.refl _ w).alloc _;go_wp2;generalize (w.alloc (.cells #[.pointer none,.slice none 0 0] 144))=d0 at D m ⊢;have B:Ka g g d0 (Qr (ws.take 0)):=⟨_,_,D,.inl rfl,World.ownsRow_nil _ _ _ _⟩;obtain⟨S,r,v⟩:=Zh3 B m C;clear B D m C
 refine wp_loop (fun a l=>∃(f:Nat),f<=N/\a.defers=[]/\gS a [0,3,7,8,9]=(33,[.slice ao N cap,.pointer (some ⟨g,0,none⟩),.slice ao N cap,.int .i64 N,.int .i64 f])/\Ka g g l (Qr (ws.take f))/\Ext w l)
  (fun a _=>N - (intOf (a.tmps.getD 9 undef)).toNat) ?_ ?_
 ·exact⟨0,by omega,rfl,rfl,S.out,r.out⟩
 clear r S;rintro⟨c8,_⟩ l ⟨f,d9,M,u,t,s⟩;subst M;obtain⟨c9,rfl⟩:=Qt u;clear u;have j:=Zh t;have k:=Zh s;clear t s;by_cases c5:f<N;case neg=>
  obtain rfl:f=N:=by omega
  have a4:¬ (f:Int)<(f:Int):=by omega
  have n:=j.out;rw [List.take_of_length_le (by rw [A.out];exact Nat.le_refl _)] at n;have a0:=Zh (Q68 n);clear n j;go_wp2_with fail;refine a0.out.mono ?_;rintro e c1 ⟨rfl,a7⟩;have b9:Hid (Ext w c1):=Zh (k.out.after a7 (fun b a4 h2=>by have:=v.out;omega));clear a7 a0;go_wp2;go_ret;exact⟨rfl,b9.out⟩
 have a4:(f:Int)<(N:Int):=by omega
 have B:(0:Int)<=(f:Int):=by omega
 have z:f<ws.length:=by rw [A.out];exact c5
 have a8:=(X.out.ext k.out).at z;rw [A.out] at a8;obtain⟨a3,b3,d4,b1,c3,I,J⟩:=a8;simp only [zV,true_and] at b1;obtain⟨rfl,rfl⟩:=b1;have P:=X.out.2 _ (List.getElem_mem z);rw [List.getD_eq_getElem?_getD,List.getElem?_eq_getElem z,Option.getD_some] at I J;have O:=Q29 z;obtain⟨c,b2⟩:=zE (ws[f]);rw [b2] at I J P O;clear b2;have d2:=Zh P;have Y:=Zh O;clear P O;go_wp2;obtain⟨i,y⟩:=zE l.heap.size;have Q:(l.alloc (.cells #[.int .u32 c.1,.int .u32 c.2] 26)).heap[i]?=some (.cells #[.int .u32 c.1,.int .u32 c.2] 26 (0,0)):=new_at y.symm;have m:Ext l (l.alloc (.cells #[.int .u32 c.1,.int .u32 c.2] 26)):=(Q0.refl _ l).alloc _;rw [y];generalize (l.alloc (.cells #[.int .u32 c.1,.int .u32 c.2] 26))=c0 at Q m ⊢;have G:Ka g g c0 (Qr (ws.take f)):=by
  obtain⟨b4,b5,R,c6,c7⟩:=j.out;exact⟨b4,b5,m.keep R,c6,Qb c7 m⟩
 obtain⟨q,p⟩:=zE (Qr (ws.take f));have e1:q.length<=8000:=by rw [<-p,Vi,List.length_take];omega
 rw [p] at G Y;obtain⟨Z,r,T,d1⟩:=Zh4 Q (k.out.trans m) G y;have d5:g<=i:=by have:=k.out.size;have:=v.out;omega
 have a5:i≠g:=by
  rintro rfl;obtain⟨b4,b5,R,_⟩:=j.out;have:=(Array.getElem?_eq_some_iff.1 R).1;omega
 clear Q m G y k j p I J c3
 refine wp_loop (fun a o=>∃(d:Nat),d<=4/\a.defers=[]/\gS a [0,3,5,7,8,9,13]=(33,[.slice (some ⟨a3,b3,none⟩) N cap,.pointer (some ⟨g,0,none⟩),.pointer (some ⟨i,0,none⟩),.slice (some ⟨a3,b3,none⟩) N cap,.int .i64 N,.int .i64 f,.int .i64 d])/\Ka g g o (q++(Xo c).take (2*d))/\o.heap[i]?=some (.cells #[.int .u32 c.1,.int .u32 c.2] 26 (0,0))/\Ext w o)
  (fun a _=>4 - (intOf (a.tmps.getD 13 undef)).toNat) ?_ ?_
 ·exact⟨0,by omega,rfl,rfl,by rw [Nat.mul_zero,List.take_zero,List.append_nil];exact T.out,Z.out,r.out⟩
 clear T Z r;rintro⟨c8,_⟩ o ⟨d,d6,M,u,t,K,s⟩;subst M;obtain⟨c9,rfl⟩:=Qt u;clear u;obtain⟨j,k,U⟩:=Zh3 t s K;have a2:o.cell? ⟨i,0,none⟩=some (.int .u32 c.1):=by rw [cell_of_row o i 0 _ _ _ K];rfl
 clear t s K;by_cases c4:d<4;case neg=>
  obtain rfl:d=4:=by omega
  have n:=j.out;rw [show (Xo c).take (2*4)=Xo c from rfl,<-Y.out] at n;have x:=Zh n;clear n j a2;go_wp2;exact⟨⟨f+1,by omega,by first | trivial | rfl,rfl,x.out,k.out⟩,nz⟩
 have d8:(d:Int)<4:=by omega
 have d7:(0:Int)<=(d:Int):=by omega
 have e0:=Q75 c (2*d);go_wp2_with fail;rw [Q00];refine(Rh (byt c.1 d) j.out (Nat.le_refl _) (by rw [List.length_append];omega)).mono ?_;rintro e a1 ⟨rfl,a9,E⟩;have L:=S1 U.out a5 E;have W:=Zh (Sw k.out (by have:=v.out;omega) E);have c2:a1.cell? ⟨i,1,none⟩=some (.int .u32 c.2):=by rw [cell_of_row a1 i 1 _ _ _ L];rfl
 have x:=Zh a9;have V:=Zh L;clear a9 L E j k U a2;go_wp2_with fail;rw [Q00];refine(Rh (byt c.2 d) x.out (Nat.le_refl _) (by rw [List.length_append,List.length_append,List.length_singleton];omega)).mono ?_;rintro e d3 ⟨rfl,H,F⟩;have b0:=S1 V.out a5 F;have b8:=Zh (Sw W.out (by have:=v.out;omega) F);rw [show q++(Xo c).take (2*d)++[byt c.1 d]++[byt c.2 d]=q++(Xo c).take (2*(d+1)) by rw [Q40 c c4];simp only [List.append_assoc]] at H;have b6:=Zh H;have b7:=Zh b0;clear H b0 F x W V c2;go_wp2;exact⟨⟨d+1,by omega,by first | trivial | rfl,rfl,b6.out,b7.out,b8.out⟩,nz⟩
end Go.Proofs.YtejenndedjabhaaGreatDoor
