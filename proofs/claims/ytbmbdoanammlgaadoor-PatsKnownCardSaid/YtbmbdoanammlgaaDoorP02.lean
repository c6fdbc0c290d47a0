/- math/bits.TrailingZeros64. -/
import Derived.Test.YtbmbdoanammlgaaDoorP01
import Derived.Test.YtbmbdoanammlgaaDoorP00
import Derived.Test.YtbmbdoanammlgaaDoorProg
import Derived.WalkLawsBesides
import Derived.Handy
import Derived.Shelf.Spec.TrailingZeros
import Derived.Deep.WholeRow
set_option maxRecDepth 100000
set_option maxHeartbeats 8000000
namespace Go.Proofs.YtbmbdoanammlgaaDoor
open Go.RowKit Go.Ab
def Tab(w:World):Prop:=∀ j,j<64->w.cell? ⟨0,j,none⟩=some (.int .u8 (Lib.deBruijn64tab.getD j 0))
theorem Tab.keep{S:Nat->Prop}{A B:World}(h:Tab A)(ht:Q1 S A B)(hS:¬ S 0):Tab B:=
 fun j hj=>ht.cell_some (h j hj) hS
theorem Mc(x k a:Nat)(w:World)(g:((x:Int) == 0)=false)
  (b:IntKind.u64.wrap (bits BinOp.and IntKind.u64 (x:Int) (IntKind.u64.wrap (-(x:Int)))*285870213051353865) / 288230376151711744=(a:Int))
  (d:a<64) (f:k<64) (c:w.cell? ⟨0,a,none⟩=some (.int .u8 k)) :
  Calls Tryd.prog 40 #[.int .u64 x] w fun e w'=>e=.returned (.int .i64 k)/\w=w':=by
 go_enter Tryd.func40,Tryd.ntmps40
 go_wp2_with (simp only [b])
 go_ret;exact⟨rfl,rfl⟩
theorem Na(x:Nat)(d:x<18446744073709551616)(f:x≠0)(w:World)(g:Tab w) :
  Calls Tryd.prog 40 #[.int .u64 x] w fun e w'=>e=.returned (.int .i64 (Lib.ctz 64 x))/\w=w':=by
 obtain⟨i,c⟩:=Lib.lowest_bit 64 x f d;obtain⟨b,j⟩:=Lib.deBruijn64_at _ c;have a:=g _ b;rw [j] at a;exact Mc x _ _ w (by simp;omega) (tz64_key x _ d f i) b c a
attribute [local go_sem] Oper.semAt_some Zx Z4
theorem Dk(v:Nat)(i:v<18446744073709551616)(o:v≠0) :
  bits BinOp.andNot IntKind.u64 (v:Int) (IntKind.u64.wrap (2 ^ Lib.ctz 64 v))=((v &&& (v - 1):Nat):Int):=by
 obtain⟨k,f,m⟩:=Hy v o (by simpa using i);generalize Lib.ctz 64 v=c at f m;have g:2 ^ c<18446744073709551616:=by
  have:=Nat.pow_lt_pow_right (a:=2) zd m
  simpa using this
 have d:IntKind.u64.wrap (2 ^ c)=((2 ^ c:Nat):Int):=by
  rw [IntKind.wrap_u64];have d:((2:Int) ^ c)=((2 ^ c:Nat):Int):=by simp
  rw [d];generalize 2 ^ c=t at g;omega
 rw [d,u64_andNot_nat _ _ i g]
 congr 1
 apply Nat.eq_of_testBit_eq;intro b;have p:(18446744073709551615 - 2 ^ c).testBit b=(decide (b<64) && !(2 ^ c).testBit b):=by
  have:=Nat.testBit_two_pow_sub_succ (n:=64) (x:=2 ^ c) (by simpa using g) b
  simpa using this
 have l:v.testBit b=(decide (b=c) || (decide (c<b) && k.testBit (b - (c+1)))):=by rw [f];exact Uz c k b
 have q:(v &&& (v - 1)).testBit b=(decide (c<b) && k.testBit (b - (c+1))):=by
  rw [f,Hj,Nat.testBit_two_pow_mul];simp only [ge_iff_le,Nat.succ_le_iff]
 rw [q,Nat.testBit_and,p,l,Nat.testBit_two_pow];by_cases e:b=c
 ·subst e;simp
 ·have s:¬ c=b:=fun d=>e d.symm;simp only [e,s,decide_false,Bool.false_or,Bool.not_false,Bool.and_true];by_cases r:b<64
  ·simp [r]
  ·have j:v.testBit b=false:=Nat.testBit_lt_two_pow (Nat.lt_of_lt_of_le i (Nat.pow_le_pow_right (n:=2) zd (show 64<=b by omega)));rw [l] at j;simp only [e,decide_false,Bool.false_or] at j;simp [j]
def Ys(w:World)(bx:Nat)(v:Nat):Prop:=w.heap[bx]?=some (.cells #[.int .u64 v] 56 (0,0))
theorem Ys.cell{w:World}{bx v:Nat}(h:Ys w bx v):w.cell? ⟨bx,0,none⟩=some (.int .u64 v):=cell_of_one h
theorem Ys.free{w:World}{bx v:Nat}(h:Ys w bx v):w.frozen? ⟨bx,0,none⟩=false:=free_of_one h
theorem Ys.store{w:World}{bx v:Nat}(u:Nat)(h:Ys w bx v):Ys (w.setCell ⟨bx,0,none⟩ (.int .u64 u)) bx u:=one_setCell h
def Gx(w:World)(bx:Nat):Nat:=match w.cell? ⟨bx,0,none⟩ with | some (.int _ n)=>n.toNat | _=>0
theorem H9{w:World}{bx v:Nat}(h:Ys w bx v):Gx w bx=v:=by unfold Gx;rw [h.cell];simp
theorem N4(v:Nat)(a:v<18446744073709551616):v &&& (v - 1)<18446744073709551616:=by
 have:=Nat.and_le_left (n:=v) (m:=v - 1);omega
theorem Mf(v:Nat)(a:v≠0):(v &&& (v - 1))<v:=by
 have:=Nat.and_le_right (n:=v) (m:=v - 1);omega
theorem Ha(v:Nat)(a1:v<18446744073709551616)(bx:Nat)(Y:bx≠0)(w:World)(W:Ys w bx v)(S:Tab w) :
  Dm Tryd.prog 39 #[.pointer (some ⟨bx,0,none⟩)] (fun x:Nat=>#[.int .i64 x]) (evs v) (·=bx) (fun b=>b=bx\/b=0) w:=by
 intro b2 M a4 t F P a8 V O;have X:Ys t bx v:=F.heap W zy;have U:Tab t:=S.keep F zy;refine callsIn_wide.1 (callsIn_of_wp (n:=0) Tryd.func39 rfl trivial ?_ rfl);simp only [Tryd.ntmps39,zS,Nat.reduceAdd,Nat.reduceSub];gi_wp2
 gi_loopw [3] (fun _ wr=>∃(d:List Nat) (a:Nat),Ys wr bx a/\a<18446744073709551616/\evs v=d++evs a/\M d wr/\Tab wr)
  (fun _ wr=>Gx wr bx)
 case atStart=>exact⟨[],v,X,a1,rfl,O,U⟩
 case round=>
  obtain⟨d,a,e,j,c,m,o⟩:=hrel;have Z:=e.cell;have q:Gx wr bx=a:=H9 e;by_cases f:a=0
  ·subst f;rw [Lg,List.append_nil] at c;clear q;gi_wp2;go_end0
   exact⟨⟨_,rfl⟩,.inl (by rw [c];exact m)⟩
  ·have b0:((a:Int) != 0)=true:=by simp;omega
   have i:=L4 a f (by simpa using j);rw [i] at c;have a2:Lib.ctz 64 a<64:=(M6.1 (by rw [i];simp:Lib.ctz 64 a∈evs a)).1;have a3:=Zh i;clear i;have H:=Zh q;clear q;have E:=Dk a j f;obtain⟨k,s⟩:=zE (Lib.ctz 64 a);rw [s] at E a2 c;have l:=Zh c;clear c;have r:=Na a j f wr o;rw [s] at r;have K:=Zh r;clear r s;have a9:=e.free;have b1:(k:Int)<64:=by omega
   have p:Q1 (·=bx) wr (wr.setCell ⟨bx,0,none⟩ (.int .u64 ((a &&& (a - 1):Nat):Int))).drew:=(Q1.set1 wr bx 0 _).drew;have y:=P _ _ _ m p;have B:Ys (wr.setCell ⟨bx,0,none⟩ (.int .u64 ((a &&& (a - 1):Nat):Int))).drew bx (a &&& (a - 1)):=Uv (Ys.store (w:=wr) _ e);have A:Tab (wr.setCell ⟨bx,0,none⟩ (.int .u64 ((a &&& (a - 1):Nat):Int))).drew:=o.keep p (Ne.symm Y);have J:=Zh A;have a0:=N4 a j;obtain⟨a7,b3,a5,a6,g,z⟩:=V d _ _ _ l.out y
   gi_wp2_with (gi_at_call 40;refine(callsIn_wide.2 K.out).mono ?_;rintro N b4 ⟨rfl,rfl⟩)
   obtain⟨L,I,G⟩:=Zh3 g z B;clear g z p y A B;refine(wpIn_wide (n:=_)).2 ?_;refine Us 4 kz kz ?_;simp only [List.take_succ_cons,List.take_zero,List.drop_succ_cons,List.drop_zero];repeat still_step
   refine wpStill_nil ?_;go_wp2;have g:=L.out;gi_wp2;refine I.out.mono ?_;rintro N u (⟨rfl,Q,D⟩ | ⟨rfl,R⟩)
   ·have C:Ys u bx (a &&& (a - 1)):=D.heap G.out zy;have T:Tab u:=J.out.keep D zy;clear g e Z o m E;gi_wp2
    go_roundw
    case rel=>exact⟨d++[k],a &&& (a - 1),C,a0,by rw [l.out];simp,Q,T⟩
    case measure=>rw [H.out,H9 C];exact Mf a f
   ·clear g;gi_wp2;refine bodyPost_ret (results_none rfl _ _ _) rfl ?_;exact⟨⟨_,rfl⟩,.inr ⟨d,_,_,l.out,R⟩⟩
theorem Wn(v:Int)(w:World) :
  Calls Tryd.prog 26 #[.int .u64 v] w fun e w'=>e=.returned (.func (.func 39) #[] #[.pointer (some ⟨w.heap.size,0,none⟩)])/\w'=w.alloc (.cells #[.int .u64 v] 56):=by
 go_enter Tryd.func26,Tryd.ntmps26;go_wp2;go_ret;exact⟨rfl,rfl⟩
def Q6(M:Qf):Array Value:=((List.range 33).map fun a=>Value.int .u64 (Q3 M a)).toArray
theorem Qi(M:Qf):(Q6 M).size=33:=by simp [Q6]
theorem Z6(M:Qf):(Q6 M=#[])=False:=by
 apply eq_false;intro a;have:=Qi M;rw [a] at this;simp at this
theorem Dz:Q6 noB=(Array.replicate 33 (Value.int .u64 0)):=by
 unfold Q6;have:(fun a=>Value.int .u64 ((Q3 noB a:Nat):Int))=fun _=>Value.int .u64 0:=by funext a;rw [Yy];rfl
 rw [this];rfl
theorem Zg(w:World):(zeroValue 58).run Tryd.prog w=.ok (.agg (Q6 noB)) w:=by
 rw [Dz];kernel_rfl
def Q4(f:Nat->Nat):Array Value:=((List.range 33).map fun a=>Value.int .u64 (f a)).toArray
theorem Yc(M:Qf):Q6 M=Q4 (Q3 M):=rfl
theorem Db(f:Nat->Nat)(a v:Nat):(Q4 f).setIfInBounds a (.int .u64 (v:Int))=Q4 fun i=>if i=a then v else f i:=by
 unfold Q4;rw [List.setIfInBounds_toArray]
 congr 1
 apply List.ext_getElem?;intro i;simp only [List.getElem?_set,List.getElem?_map,List.length_map,List.length_range];by_cases c:a=i
 ·subst c;by_cases b:a<33
  ·simp [b]
  ·simp [b]
 ·rw [if_neg c];by_cases b:i<33
  ·simp [b,Ne.symm c]
  ·simp [b]
theorem Qx{f g:Nat->Nat}(h:∀ a,a<33->f a=g a):Q4 f=Q4 g:=by
 unfold Q4;rw [List.map_congr_left fun a ha=>by rw [h a (List.mem_range.1 ha)]]
theorem Dc(f:Nat->Nat){a:Nat}(h:a<33):(Q4 f)[a]?=some (.int .u64 (f a)):=by simp [Q4,h]
theorem Qa(f:Nat->Nat):(Q4 f).size=33:=by simp [Q4]
def Q8(w:World)(b:Nat)(f:Nat->Nat):Prop:=w.heap[b]?=some (.cells (Q4 f) 58 (0,0))
theorem Q8.cell{w:World}{b:Nat}{f:Nat->Nat}(h:Q8 w b f){a:Nat}(c:a<33):w.cell? ⟨b,a,none⟩=some (.int .u64 (f a)):=by
 rw [cell_of_row w b a _ _ _ h,Dc f c]
theorem Q8.free{w:World}{b:Nat}{f:Nat->Nat}(h:Q8 w b f)(a:Nat):w.frozen? ⟨b,a,none⟩=false:=frozen_of_row w b a _ _ h
theorem Q8.keep{S:Nat->Prop}{A B:World}{b:Nat}{f:Nat->Nat}(h:Q8 A b f)(ht:Q1 S A B)(hS:¬ S b):Q8 B b f:=ht.heap h hS
theorem Q8.lt{w:World}{b:Nat}{f:Nat->Nat}(h:Q8 w b f):b<w.heap.size:=(Array.getElem?_eq_some_iff.1 h).1
theorem Q8.store{w:World}{b:Nat}{f:Nat->Nat}(h:Q8 w b f)(a v:Nat):Q8 (w.setCell ⟨b,a,none⟩ (.int .u64 (v:Int))) b (fun i=>if i=a then v else f i):=by
 unfold Q8;rw [heap_setCell_same w b a _ _ _ h,Db]
theorem Q8.row{w:World}{b:Nat}{f g:Nat->Nat}(h:Q8 w b f):Q8 (w.setRow b (Q4 g)) b g:=setRow_heap w b _ _ _ _ h
theorem Q1.setRow(A:World)(b:Nat)(cs:Array Value):Q1 (·=b) A (A.setRow b cs):=
 ⟨rfl,rfl,rfl,by simp,fun i _ hi=>by
  show (A.heap.modify b _)[i]?=_;rw [Array.getElem?_modify,if_neg (fun e=>hi e.symm)]⟩
theorem Tryd.relInfo (f:Nat->Nat):(Tryd.prog.info? 58).map (·.size)=some (Q4 f).size:=by
 rw [Qa];kernel_rfl
theorem Qh(f:Nat->Nat):(Q4 f).all (·.oneCell')=true:=by
 rw [Array.all_eq_true'];intro b a;simp only [Q4,List.mem_toArray,List.mem_map] at a;obtain⟨_,_,rfl⟩:=a;rfl
theorem G1{k:Nat}(c:k<64):IntKind.u64.wrap (2 ^ k)=((2 ^ k:Nat):Int):=by
 have d:2 ^ k<18446744073709551616:=by
  have:=Nat.pow_lt_pow_right (a:=2) zd c
  simpa using this
 rw [IntKind.wrap_u64];have b:((2:Int) ^ k)=((2 ^ k:Nat):Int):=by simp
 rw [b];generalize 2 ^ k=e at d;omega
theorem Zu{fn:Func}{p:Tmp}(h:fn.results=#[.cell p 58]){tmps:Array Value}{w:World}{g:Nat}{f:Nat->Nat}(hp:tmps.getD p undef=.pointer (some ⟨g,0,none⟩)) (hg:Q8 w g f) :
  (results fn tmps).run Tryd.prog w=.ok (.agg (Q4 f)) w:=
 results_cell_row h tmps w g _ _ _ _ hp hg Tryd.underlying58 rfl (Tryd.relInfo f)
theorem Jb(n:Nat)(C:n<=32)(w:World) :
  Calls Tryd.prog 66 #[.int .i64 n] w fun e w'=>e=.returned (.agg (Q4 (Q3 (idB n))))/\Ext w w':=by
 have E:=Zg;have F:=Qi noB;have G:=Z6 noB;go_enter Tryd.func66,Tryd.ntmps66;go_wp2;clear E F G;obtain⟨b,m⟩:=zE w.heap.size;have f:Q8 ((w.alloc (.cells (Q6 noB) 58)).alloc (.cells (Q6 noB) 58)) b (fun _=>0):=by
  subst m;refine Qs (Q9 rfl) |>.trans ?_;rw [Yc,Qx fun a _=>Yy a]
 have d:Q8 ((w.alloc (.cells (Q6 noB) 58)).alloc (.cells (Q6 noB) 58)) (b+1) (fun a=>if a<0 then 2 ^ a else 0):=by
  subst m;refine(Q9 zy).trans ?_;rw [Yc,Qx (g:=fun a=>if a<0 then 2 ^ a else 0) fun a _=>by rw [Yy];simp]
 have j:Ext w ((w.alloc (.cells (Q6 noB) 58)).alloc (.cells (Q6 noB) 58)):=((Q1.refl _ w).alloc _).alloc _;generalize ((w.alloc (.cells (Q6 noB) 58)).alloc (.cells (Q6 noB) 58))=P at f d j ⊢;rw [m];have r:=Zh m;clear m
 refine wp_loop (fun a c=>∃(k:Nat),k<=n+1/\a.defers=[]/\gS a [2,3,6,7]=(16,[.pointer (some ⟨b,0,none⟩),.pointer (some ⟨b+1,0,none⟩),.int .i64 ((n:Int)+1),.int .i64 k])/\Q8 c b (fun _=>0)/\Q8 c (b+1) (fun a=>if a<k then 2 ^ a else 0)/\Ext w c)
  (fun a _=>n+1 - (intOf (a.tmps.getD 7 undef)).toNat) ?_ ?_
 ·exact⟨0,by omega,rfl,rfl,f,d,j⟩
 clear f d j;rintro⟨N,_⟩ c ⟨k,K,B,x,f,d,j⟩;subst B;obtain⟨O,rfl⟩:=Xx x;clear x;by_cases L:k<n+1
 ·have p:(k:Int)<(n:Int)+1:=by omega
  have s:(k:Int)<33:=by omega
  have J:(k:Int)<64:=by omega
  have H:=d.cell (a:=k) oz;have I:=d.free k;have M:=G1 (k:=k) oz;have q:=d.store k (2 ^ k);have t:(fun i=>if i=k then 2 ^ k else if i<k then 2 ^ i else 0)=fun a=>if a<k+1 then 2 ^ a else 0:=by
   funext i
   by_cases e:i=k
   ·subst e;simp
   ·rw [if_neg e];by_cases l:i<k
    ·rw [if_pos l,if_pos oz]
    ·rw [if_neg l,if_neg oz]
  rw [t] at q;have u:=f.keep (Q1.set1 c (b+1) k (.int .u64 ((2 ^ k:Nat):Int))) oz;have o:Ext w (c.setCell ⟨b+1,k,none⟩ (.int .u64 ((2 ^ k:Nat):Int))):=j.after (Q1.set1 c (b+1) k _) (fun b' p s=>by have:=r.out;omega);obtain⟨A,z,y⟩:=Zh3 q u o;clear t q u o f d j;go_wp2;exact⟨⟨k+1,by omega,tz,rfl,z.out,A.out,y.out⟩,nz⟩
 ·obtain rfl:k=n+1:=by omega
  have p:¬ (((n+1:Nat):Int)<(n:Int)+1):=by omega
  have D:=Q8.row (g:=fun a=>if a<n+1 then 2 ^ a else 0) f;have o:Ext w (c.setRow b (Q4 fun a=>if a<n+1 then 2 ^ a else 0)):=j.after (Q1.setRow c b _) (fun b' p s=>by have:=r.out;omega)
  go_wp2_with (first
   | (refine wpList_load_row rfl 58 (.tmp 3) rfl (b+1) rfl _ _ _ _ d Tryd.underlying58 rfl (Tryd.relInfo _) ?_)
   | (refine wpList_store_row rfl 58 (.tmp 2) (.tmp 15) rfl b (Q4 fun a=>if a<n+1 then 2 ^ a else 0) rfl rfl _ _ f (Tryd.relInfo _) (by rw [Qa,Qa]) (Qh _) ?_))
  refine bodyPost_ret (v:=.agg (Q4 fun a=>if a<n+1 then 2 ^ a else 0)) (Zu rfl rfl D) rfl ⟨?_,o⟩;rw [Qx (g:=Q3 (idB n)) fun a _=>?_];by_cases l:a<n+1
  ·rw [if_pos l,Mq C oz]
  ·rw [if_neg l,Lk (Qk.id n) oz]
def Xc(X Y:Qf)(k:Nat):Nat->Nat:=fun a=>if a<k then Q3 (comp X Y) a else 0
def Xl(X Y:Qf)(k:Nat)(pre:List Nat):Nat->Nat:=fun a=>if a=k then Zr Y pre else Xc X Y k a
theorem Fe(X Y:Qf)(k:Nat):Xl X Y k []=Xc X Y k:=by
 funext a;unfold Xl Xc
 by_cases b:a=k
 ·subst b;simp [Fy]
 ·rw [if_neg b]
theorem F1(X Y:Qf)(k:Nat):Xl X Y k (evs (Q3 X k))=Xc X Y (k+1):=by
 funext a;unfold Xl Xc
 by_cases b:a=k
 ·subst b;rw [if_pos rfl,if_pos oz,Vy,Fi]
 ·rw [if_neg b];by_cases c:a<k
  ·rw [if_pos c,if_pos oz]
  ·rw [if_neg c,if_neg oz]
theorem Dr(X Y:Qf)(k:Nat)(d:List Nat)(b:Nat):(fun i=>if i=k then Zr Y d ||| Q3 Y b else Xl X Y k d i)=Xl X Y k (d++[b]):=by
 funext a;unfold Xl
 by_cases c:a=k
 ·subst c;rw [if_pos rfl,if_pos rfl,Dj]
 ·rw [if_neg c,if_neg c,if_neg c]
theorem Yq(X:Qf)(a:Nat):Q3 X a<8589934592:=by
 have:=J6 33 (X a);simpa [Q3] using this
theorem Lr(Y:Qf)(a:List Nat):Zr Y a<8589934592:=by
 have:=J6 33 (fun c=>a.any fun b=>Y b c);simpa [Zr] using this
theorem M3{w:World}(h:Tab w):0<w.heap.size:=by
 have b:=h 0 zd;unfold World.cell? at b;rcases Nat.lt_or_ge 0 w.heap.size with a | a
 ·exact a
 ·simp [Array.getElem?_eq_none a] at b
theorem Xo{w:World}{bx n:Nat}{X Y:Qf}(b0:Q8 w bx (Q3 X)) (U:Q8 w n (Q3 Y)) (a3:Tab w) :
  Calls Tryd.prog 67 #[.pointer (some ⟨bx,0,none⟩),.pointer (some ⟨n,0,none⟩)] w fun e w'=>e=.returned (.agg (Q4 (Q3 (comp X Y))))/\Ext w w':=by
 have c8:=Zg;have c9:=Qi noB;have d0:=Z6 noB;have e1:0<w.heap.size:=M3 a3;refine X3 Tryd.func67 rfl ?_;simp only [Tryd.ntmps67,zS,Nat.reduceAdd,Nat.reduceSub];go_wp2;clear c8 c9 d0;obtain⟨d,B⟩:=zE w.heap.size;have u:(((w.alloc (.cells #[.pointer (some ⟨n,0,none⟩)] 110)).alloc (.cells (Q6 noB) 58)).alloc (.cells (Q6 noB) 58)).heap[d]?=some (.cells #[.pointer (some ⟨n,0,none⟩)] 110 (0,0)):=by
  subst B;exact Qs (Qs (Q9 rfl))
 have s:Q8 (((w.alloc (.cells #[.pointer (some ⟨n,0,none⟩)] 110)).alloc (.cells (Q6 noB) 58)).alloc (.cells (Q6 noB) 58)) (d+1) (fun _=>0):=by
  subst B;refine(Qs (Q9 zy)).trans ?_;rw [Yc,Qx fun a _=>Yy a]
 have r:Q8 (((w.alloc (.cells #[.pointer (some ⟨n,0,none⟩)] 110)).alloc (.cells (Q6 noB) 58)).alloc (.cells (Q6 noB) 58)) (d+1+1) (Xc X Y 0):=by
  subst B;refine(Q9 zy).trans ?_;rw [Yc,Qx (g:=Xc X Y 0) fun a _=>by rw [Yy];simp [Xc]]
 have p:Ext w (((w.alloc (.cells #[.pointer (some ⟨n,0,none⟩)] 110)).alloc (.cells (Q6 noB) 58)).alloc (.cells (Q6 noB) 58)):=(((Q1.refl _ w).alloc _).alloc _).alloc _;generalize (((w.alloc (.cells #[.pointer (some ⟨n,0,none⟩)] 110)).alloc (.cells (Q6 noB) 58)).alloc (.cells (Q6 noB) 58))=f1 at u s r p ⊢;have c6:=b0.lt;have c7:=U.lt;rw [B] at c6 c7 ⊢;have G:=Zh B;have c0:=a3;clear B
 refine wp_loop (fun a f=>∃(c:Nat) (z:List Deferred),c<=33/\a.defers=z/\gS a [0,3,4,5,9,10]=(31,[.pointer (some ⟨bx,0,none⟩),.pointer (some ⟨d,0,none⟩),.pointer (some ⟨d+1,0,none⟩),.pointer (some ⟨d+1+1,0,none⟩),.pointer (some ⟨bx,0,none⟩),.int .i64 c])/\Z2 d z f /\
   f.heap[d]?=some (.cells #[.pointer (some ⟨n,0,none⟩)] 110 (0,0))/\Q8 f (d+1) (fun _=>0)/\Q8 f (d+1+1) (Xc X Y c)/\Ext w f)
  (fun a _=>33 - (intOf (a.tmps.getD 10 undef)).toNat) ?_ ?_
 ·exact⟨0,[],by omega,rfl,rfl,trivial,u,s,r,p⟩
 clear u s r p;rintro⟨b3,z⟩ f ⟨c,d8,e3,c2,Q,J,u,s,r,p⟩;subst c2;obtain⟨f0,rfl⟩:=Xx Q;clear Q;have T:=b0.keep p id;have b2:=U.keep p id;have c1:=c0.keep p id;have e6:=r.lt;by_cases a8:c<33
 ·have M:(c:Int)<33:=by omega
  have Z:=T.cell a8;have W:Hid (∀ D,Ext f D->D.cell? ⟨bx,c,none⟩=some (.int .u64 (Q3 X c))):=Zh fun D N=>N.cell_some Z id;have e4:=Yq X c;have O:=J.lt;go_wp2
  go_region_held3 (fun w'=>w'.cell? ⟨bx,c,none⟩=some (.int .u64 (Q3 X c)))
   ((refine W.out _ ?_;repeat' (first | exact Q1.refl _ _ | refine Q1.drew ?_ | refine Q1.alloc ?_ _ | refine Q1.setCell ?_ (.inl zy) _))) (first | fail)
  go_wp2_with (go_at_call 26;refine(Wn _ _).mono ?_;rintro e w' ⟨rfl,rfl⟩)
  have a5:Ys (((f.alloc (.cells #[.int .i64 c] 3)).alloc (.cells #[.int .u64 (Q3 X c)] 56)).drew) (f.heap.size+1) (Q3 X c):=Uv (Q9 zy);have H:Ext f (((f.alloc (.cells #[.int .i64 c] 3)).alloc (.cells #[.int .u64 (Q3 X c)] 56)).drew):=(((Q1.refl _ _).alloc _).alloc _).drew;have a7:(((f.alloc (.cells #[.int .i64 c] 3)).alloc (.cells #[.int .u64 (Q3 X c)] 56)).drew).heap[f.heap.size]?=some (.cells #[.int .i64 c] 3 (0,0)):=Uv (Qs (Q9 rfl));have c4:(((f.alloc (.cells #[.int .i64 c] 3)).alloc (.cells #[.int .u64 (Q3 X c)] 56)).drew).heap.size=f.heap.size+2:=by simp
  generalize (((f.alloc (.cells #[.int .i64 c] 3)).alloc (.cells #[.int .u64 (Q3 X c)] 56)).drew)=L at a5 H a7 c4 ⊢;rw [<-Fe] at r;clear W Z
  refine Hw (xs:=evs (Q3 X c)) (S:=(·=f.heap.size+1)) (K:=fun b'=>b'=f.heap.size+1\/b'=0) rfl (enters_of Tryd.func39 kz rfl)
   (Ha _ oz (f.heap.size+1) oz L a5 (c1.keep H id)) (fun _ m=>.inl m) (fun b' m=>by omega) (fun _=>rfl)
   (fun k i=>Q8 i (d+1+1) (Xl X Y c k)/\i.heap[d]?=some (.cells #[.pointer (some ⟨n,0,none⟩)] 110 (0,0))/\Q8 i (d+1) (fun _=>0)/\i.heap[f.heap.size]?=some (.cells #[.int .i64 c] 3 (0,0))/\Ext w i/\Z2 d z i)
   (fun _ _ _=>False) ?hI ?hIx ?h0 (fun j b3=>(b3.setIfInBounds 18 (.int .i64 j)).setIfInBounds 8 (.int .i64 j)) ?assign ?body ?done ?stop
  case hI=>
   rintro k d3 d4 ⟨t,x,C,E,y,F⟩ l;exact⟨t.keep l oz,l.heap x oz,C.keep l oz,l.heap E oz,y.after l (fun b' M h2=>by have:=G.out;omega),F.keepC O l (fun b' m=>.inl oz)⟩
  case hIx=>exact fun _ _ _ _ m _=>m
  case h0=>
   intro i a4 _;have I:Ext f i:=H.trans a4;exact⟨r.keep I id,I.heap u id,s.keep I id,a4.heap a7 id,p.trans I,J.keepC O I (fun _ m=>m.elim)⟩
  case assign=>
   intro j i K b9;gi_wp2;exact b9
  case body=>
   rintro k j e9 i R Q l ⟨t,x,C,E,y,F⟩;simp only [pq];have c3:j<33:=by
    have:j∈evs (Q3 X c):=by rw [R];simp
    rw [Vy] at this;exact List.mem_range.1 (List.mem_filter.1 this).1
   have e2:(j:Int)<33:=by omega
   have b1:=U.keep y id;have d5:=cell_of_one E;have d6:=cell_of_one x;have b8:=t.cell (a:=c) a8;have d9:=t.free c;have d7:=b1.cell c3;have A:Xl X Y c k c=Zr Y k:=by unfold Xl;rw [if_pos rfl]
   rw [A] at b8;have e5:=Lr Y k;have e7:=Yq Y j;have e8:=u64_or_nat (Zr Y k) (Q3 Y j) oz oz;have P:=t.store c (Zr Y k ||| Q3 Y j);rw [Dr] at P;have q:=Q1.set1 i (d+1+1) c (.int .u64 ((Zr Y k ||| Q3 Y j:Nat):Int))
   have a6:Q1 (fun b'=>¬ ((b'=f.heap.size+1\/b'=0)\/b'=L.heap.size\/b'=L.heap.size+1)) i ((i.setCell ⟨d+1+1,c,none⟩ (.int .u64 ((Zr Y k ||| Q3 Y j:Nat):Int))).drew):=
    (q.mono (fun b' _ e=>by have:=G.out;omega)).drew
   have a1:Q8 ((i.setCell ⟨d+1+1,c,none⟩ (.int .u64 ((Zr Y k ||| Q3 Y j:Nat):Int))).drew) (d+1+1) (Xl X Y c (k++[j]))/\((i.setCell ⟨d+1+1,c,none⟩ (.int .u64 ((Zr Y k ||| Q3 Y j:Nat):Int))).drew).heap[d]?=some (.cells #[.pointer (some ⟨n,0,none⟩)] 110 (0,0))/\Q8 ((i.setCell ⟨d+1+1,c,none⟩ (.int .u64 ((Zr Y k ||| Q3 Y j:Nat):Int))).drew) (d+1) (fun _=>0)/\((i.setCell ⟨d+1+1,c,none⟩ (.int .u64 ((Zr Y k ||| Q3 Y j:Nat):Int))).drew).heap[f.heap.size]?=some (.cells #[.int .i64 c] 3 (0,0))/\Ext w ((i.setCell ⟨d+1+1,c,none⟩ (.int .u64 ((Zr Y k ||| Q3 Y j:Nat):Int))).drew)/\Z2 d z ((i.setCell ⟨d+1+1,c,none⟩ (.int .u64 ((Zr Y k ||| Q3 Y j:Nat):Int))).drew):=
    ⟨P,q.drew.heap x oz,C.keep q.drew oz,q.drew.heap E oz,y.after q.drew (fun b' M h2=>by have:=G.out;omega),F.keepC O q.drew (fun b' m=>.inr (.inr ⟨_,by subst m;exact t,rfl⟩))⟩
   obtain⟨b5,b6,d2,d1⟩:=Zh4 a6 a1 R A;clear a6 a1 R A P q t x C E y F b1 H p J r s u T b2 l;gi_wp2;refine Jj 9 kz kz kz (by rintro⟨_,_,m⟩;exact m) ?_;simp only [List.take_succ_cons,List.take_zero,List.drop_succ_cons,List.drop_zero];repeat still_step
   refine wpStill_nil ?_;go_wp2;exact⟨b5.out,b6.out⟩
  case done=>
   rintro i ⟨t,x,C,E,y,F⟩ l N;rw [F1] at t;have e0:L.heap.size<i.heap.size:=(Array.getElem?_eq_some_iff.1 N).1;clear H p J r s u T b2;go_wp2;exact⟨⟨c+1,_,by omega,rfl,rfl,Z2.cons F oz N (fun e he l=>by have:=O e he _ l;omega),x,C,t,y⟩,nz⟩
  case stop=>exact fun _ _ _ _ _ _ m=>m.elim
 ·obtain rfl:c=33:=by omega
  have M:¬ (((33:Nat):Int)<33):=by omega
  have A:Q4 (Xc X Y 33)=Q4 (Q3 (comp X Y)):=Qx fun a ha=>by unfold Xc;rw [if_pos ha]
  have a9:=Q8.row (g:=Q3 (comp X Y)) s;have q:=Q1.setRow f (d+1) (Q4 (Q3 (comp X Y)));have a0:Ext w (f.setRow (d+1) (Q4 (Q3 (comp X Y)))):=p.after q (fun b' M h2=>by have:=G.out;omega)
  have a2:Z2 d z (f.setRow (d+1) (Q4 (Q3 (comp X Y)))):=J.keep q (fun b hb o ho=>by
   subst hb;have:f.heap[d+1]?=_:=s;rw [this] at ho;cases ho;rfl)
  have c5:Q8 f (d+1+1) (Q3 (comp X Y)):=by unfold Q8;rw [<-A];exact r
  obtain⟨b7,b4,V⟩:=Zh3 a2 a0 a9;clear a2 a0 a9 q A r
  go_wp2_with (first
   | (refine wpList_load_row rfl 58 (.tmp 5) rfl (d+1+1) rfl _ _ _ _ c5 Tryd.underlying58 rfl (Tryd.relInfo _) ?_)
   | (refine wpList_store_row rfl 58 (.tmp 4) (.tmp 30) rfl (d+1) (Q4 (Q3 (comp X Y))) rfl rfl _ _ s (Tryd.relInfo _) (by rw [Qa,Qa]) (Qh _) ?_))
  refine G5 (v:=.agg (Q4 (Q3 (comp X Y)))) _ _ b7.out (fun w' l hs=>⟨Zu rfl rfl (V.out.keep l (Shut.not V.out rfl)),rfl,b4.out.after l (fun b' h2 h3=>by have:=h3.1;have:=G.out;omega)⟩)
def orF(X Y:Qf)(k:Nat):Nat->Nat:=fun a=>if a<k then Q3 (orB X Y) a else Q3 X a
theorem L3(X Y:Qf)(k:Nat):(fun i=>if i=k then Q3 X k ||| Q3 Y k else orF X Y k i)=orF X Y (k+1):=by
 funext a;unfold orF
 by_cases b:a=k
 ·subst b;rw [if_pos rfl,if_pos oz,M7]
 ·rw [if_neg b];by_cases c:a<k
  ·rw [if_pos c,if_pos oz]
  ·rw [if_neg c,if_neg oz]
theorem Fb{w:World}{bx g:Nat}{X Y:Qf}(B:Q8 w bx (Q3 X)) (C:Q8 w g (Q3 Y)) (A:bx≠g) :
  Calls Tryd.prog 64 #[.pointer (some ⟨bx,0,none⟩),.pointer (some ⟨g,0,none⟩)] w fun e w'=>(∃ v,e=.returned v)/\Q1 (·=bx) w w'/\Q8 w' bx (Q3 (orB X Y)):=by
 go_enter Tryd.func64,Tryd.ntmps64;go_wp2;have q:Q8 w bx (orF X Y 0):=by
  have:orF X Y 0=Q3 X:=by funext a;simp [orF]
  rw [this];exact B
 refine wp_loop (fun a d=>∃(b:Nat),b<=33/\a.defers=[]/\gS a [0,6,7]=(23,[.pointer (some ⟨bx,0,none⟩),.pointer (some ⟨g,0,none⟩),.int .i64 b])/\Q8 d bx (orF X Y b)/\Q1 (·=bx) w d)
  (fun a _=>33 - (intOf (a.tmps.getD 7 undef)).toNat) ?_ ?_
 ·exact⟨0,by omega,rfl,rfl,q,Q1.refl _ _⟩
 clear q;rintro⟨K,_⟩ d ⟨b,G,z,n,c,i⟩;subst z;obtain⟨L,rfl⟩:=Xx n;clear n;have r:=C.keep i (fun h=>A h.symm);by_cases l:b<33
 ·have y:(b:Int)<33:=by omega
  have E:=r.cell l;have x:=c.cell l;have F:=c.free b;have f:orF X Y b b=Q3 X b:=by unfold orF;rw [if_neg oz]
  rw [f] at x;have H:=Yq X b;have I:=Yq Y b;have J:=u64_or_nat (Q3 X b) (Q3 Y b) oz oz;have j:=c.store b (Q3 X b ||| Q3 Y b);rw [L3] at j;have k:∀ m,Q1 (·=bx) w ((d.drewN m).setCell ⟨bx,b,none⟩ (.int .u64 ((Q3 X b ||| Q3 Y b:Nat):Int))):=fun m=>(i.drewN m).setCell (p:=⟨bx,b,none⟩) (.inr rfl) _;obtain⟨s,t,D⟩:=Zh3 j k f;clear j k f c i r;go_wp2
  go_quiet (fail)
  go_wp2;refine Us 9 kz kz ?_;simp only [List.take_succ_cons,List.take_zero,List.drop_succ_cons,List.drop_zero];repeat still_step
  refine wpStill_nil ?_;go_wp2;exact⟨⟨b+1,by omega,tz,rfl,s.out,t.out _⟩,nz⟩
 ·obtain rfl:b=33:=by omega
  have y:¬ (((33:Nat):Int)<33):=by omega
  have o:Q8 d bx (Q3 (orB X Y)):=by
   have f:Q4 (orF X Y 33)=Q4 (Q3 (orB X Y)):=Qx fun a ha=>by unfold orF;rw [if_pos ha]
   unfold Q8;rw [<-f];exact c
  have u:=Zh o;clear c o;go_wp2;go_end0
  exact⟨⟨_,rfl⟩,i,u.out⟩
theorem Ld(k:Nat)(c:k<9223372036854775808):(bits .and .i64 (k:Int) 1 == 1)=decide (k % 2=1):=by
 have b:bits .and .i64 (k:Int) 1=((k % 2:Nat):Int):=by
  show IntKind.i64.wrap ((BitVec.ofInt 64 (k:Int) &&& BitVec.ofInt 64 ((1:Nat):Int)).toNat:Int)=_;rw [BitVec.toNat_and,ofInt_u64 _ oz,ofInt_u64 1 oz,Nat.and_one_is_mod];exact IntWalk.i64_in _ oz
 rw [b];rcases Nat.mod_two_eq_zero_or_one k with a | a <;> simp [a]
theorem Gq{n:Nat}(I:n<=32){X:Qf}(a5:Qk n X)(k:Nat)(b6:k<=64)(w:World)(M:Tab w) :
  Calls Tryd.prog 60 #[.agg (Q4 (Q3 X)),.int .i64 k,.int .i64 n] w fun e w'=>e=.returned (.agg (Q4 (Q3 (Ql X n k))))/\Ext w w':=by
 have c1:=Zg;have c2:=Qi noB;have c3:=Z6 noB;have c4:=Qa (Q3 X);go_enter Tryd.func60,Tryd.ntmps60;go_wp2_with fail;clear c4;obtain⟨d,D⟩:=zE w.heap.size;have a1:Q8 ((w.alloc (.cells (Q4 (Q3 X)) 58)).alloc (.cells (Q6 noB) 58)) d (Q3 X):=by
  subst D;exact Qs (Q9 rfl)
 have t:Q8 ((w.alloc (.cells (Q4 (Q3 X)) 58)).alloc (.cells (Q6 noB) 58)) (d+1) (fun _=>0):=by
  subst D;refine(Q9 zy).trans ?_;rw [Yc,Qx fun a _=>Yy a]
 have r:Ext w ((w.alloc (.cells (Q4 (Q3 X)) 58)).alloc (.cells (Q6 noB) 58)):=((Q1.refl _ w).alloc _).alloc _;generalize ((w.alloc (.cells (Q4 (Q3 X)) 58)).alloc (.cells (Q6 noB) 58))=c0 at a1 t r ⊢;rw [D];have P:=Zh D;clear D;refine(Jb n I c0).mono ?_;rintro e j ⟨rfl,l⟩;have a9:=a1.keep l id;have a0:=t.keep l id;have a4:=r.trans l;have T:(j.alloc (.cells (Q6 noB) 58)).heap[j.heap.size]?=some (.cells (Q6 noB) 58 (0,0)):=Q9 rfl
 go_wp2_with (refine wpList_store_row rfl 58 (.tmp 7) (.tmp 9) rfl j.heap.size (Q4 (Q3 (idB n))) rfl rfl _ _ T (Tryd.relInfo _) (by rw [Qi,Qa]) (Qh _) ?_)
 obtain⟨q,x⟩:=zE j.heap.size;have L:Q8 ((j.alloc (.cells (Q6 noB) 58)).setRow j.heap.size (Q4 (Q3 (idB n)))) j.heap.size (Q3 (idB n)):=setRow_heap _ _ _ _ _ _ T;have s:Ext j ((j.alloc (.cells (Q6 noB) 58)).setRow j.heap.size (Q4 (Q3 (idB n)))):=((Q1.refl _ j).alloc _).after (Q1.setRow _ _ _) (fun b' o h2=>by omega);have b7:=a0.lt;generalize ((j.alloc (.cells (Q6 noB) 58)).setRow j.heap.size (Q4 (Q3 (idB n))))=d2 at L s ⊢;rw [x] at L b7 ⊢;have b0:=a9.keep s id;have B:=a0.keep s id;have S:=a4.trans s;have W:=M.keep S id;have c6:0<d:=by
  have:=M 0 zd;rw [<-P.out];apply Nat.lt_of_not_le;intro b2;simp [World.cell?,Array.getElem?_eq_none b2] at this
 clear a1 t r l a9 a0 a4 T s x c1 c2 c3
 refine wp_loop (fun a u=>∃(f:Nat) (c m:Qf),f<=64/\a.defers=[]/\gS a [1,3,6,7]=(20,[.int .i64 f,.pointer (some ⟨d,0,none⟩),.pointer (some ⟨d+1,0,none⟩),.pointer (some ⟨q,0,none⟩)]) /\
   (Qk n c/\Qk n m/\comp m (Ql c n f)=Ql X n k)/\Q8 u d (Q3 c)/\Q8 u (d+1) (fun _=>0)/\Q8 u q (Q3 m)/\Ext w u)
  (fun a _=>(intOf (a.tmps.getD 1 undef)).toNat) ?_ ?_
 ·exact⟨k,X,idB n,b6,rfl,rfl,⟨a5,Qk.id n,Wr I (Qk.pow a5 k)⟩,b0,B,L,S⟩
 clear b0 B L S W;rintro⟨d0,_⟩ u ⟨f,c,m,c7,b4,a7,b8,y,t,x,r⟩;subst b4;obtain⟨d1,rfl⟩:=Xx a7;clear a7;obtain⟨A,Z,N⟩:=b8;have Y:=M.keep r id;have b3:Q1 (fun b=>b=d\/b=q) u u:=Q1.refl _ _;have a8:w.heap.size<=q/\w.heap.size<=d:=by have:=P.out;omega
 have R:=Zh a8;clear a8;by_cases b5:f=0
 ·subst b5;rw [show Ql c n 0=idB n from rfl,Wu I Z] at N;subst N;have b9:=Q8.row (g:=Q3 (Ql X n k)) t;have l:Ext w (u.setRow (d+1) (Q4 (Q3 (Ql X n k)))):=r.after (Q1.setRow u (d+1) _) (fun b' o h2=>by have:=P.out;omega)
  go_wp2_with (first
   | (refine wpList_load_row rfl 58 (.tmp 7) rfl q rfl _ _ _ _ x Tryd.underlying58 rfl (Tryd.relInfo _) ?_)
   | (refine wpList_store_row rfl 58 (.tmp 6) (.tmp 19) rfl (d+1) (Q4 (Q3 (Ql X n k))) rfl rfl _ _ t (Tryd.relInfo _) (by rw [Qa,Qa]) (Qh _) ?_))
  exact bodyPost_ret (v:=.agg (Q4 (Q3 (Ql X n k)))) (Zu rfl rfl b9) rfl ⟨rfl,l⟩
 ·have c8:(0:Int)<(f:Int):=by omega
  have c9:(f:Int)<=64:=by omega
  have a6:=Ld f oz;have a2:=Zh N;clear N;by_cases o:f % 2=1
  ·rw [decide_eq_true o] at a6;have O:=Zh o;clear o;go_wp2_with fail;refine(Xo x y Y).mono ?_;rintro e a3 ⟨rfl,l⟩;have U:=x.keep l id
   go_wp2_with (refine wpList_store_row rfl 58 (.tmp 7) (.tmp 17) rfl q (Q4 (Q3 (comp m c))) rfl rfl _ _ U (Tryd.relInfo _) (by rw [Qa,Qa]) (Qh _) ?_)
   have i:=Q1.setRow a3 q (Q4 (Q3 (comp m c)));have V:=Q8.row (g:=Q3 (comp m c)) U;have G:=(y.keep l id).keep i oz;have B:=(t.keep l id).keep i oz;have s:=(r.trans l).after i (fun b' o h2=>by have:=R.out.1;omega);generalize (a3.setRow q (Q4 (Q3 (comp m c))))=c5 at V G B s ⊢;have W:=M.keep s id;clear i U l x y t r Y b3;go_wp2_with fail;refine(Xo G G W).mono ?_;rintro e C ⟨rfl,p⟩;have z:=G.keep p id
   go_wp2_with (refine wpList_store_row rfl 58 (.tmp 3) (.tmp 18) rfl d (Q4 (Q3 (comp c c))) rfl rfl _ _ z (Tryd.relInfo _) (by rw [Qa,Qa]) (Qh _) ?_)
   have i:=Q1.setRow C d (Q4 (Q3 (comp c c)));have H:=Q8.row (g:=Q3 (comp c c)) z;have F:=(V.keep p id).keep i oz;have K:=(B.keep p id).keep i oz;have E:=(s.trans p).after i (fun b' o h2=>by have:=R.out.2;omega);generalize (C.setRow d (Q4 (Q3 (comp c c))))=b1 at H F K E ⊢;clear i z p G B s V;have J:comp (comp m c) (Ql (comp c c) n (f / 2))=Ql X n k:=by
    rw [G4 I A,U6,<-a2.out]
    congr 1
    have:f=2*(f / 2)+1:=by have:=O.out;omega
    rw [show Ql c n f=Ql c n (2*(f / 2)+1) from congrArg _ this];rfl
   have Q:=Zh J;clear J;go_wp2;exact⟨⟨f / 2,comp c c,comp m c,by omega,tz,rfl,⟨A.comp A,Z.comp A,Q.out⟩,H,K,F,E⟩,nz⟩
  ·rw [decide_eq_false o] at a6;have O:=Zh o;clear o;go_wp2_with fail;refine(Xo y y Y).mono ?_;rintro e C ⟨rfl,p⟩;have z:=y.keep p id
   go_wp2_with (refine wpList_store_row rfl 58 (.tmp 3) (.tmp 18) rfl d (Q4 (Q3 (comp c c))) rfl rfl _ _ z (Tryd.relInfo _) (by rw [Qa,Qa]) (Qh _) ?_)
   have i:=Q1.setRow C d (Q4 (Q3 (comp c c)));have H:=Q8.row (g:=Q3 (comp c c)) z;have F:=(x.keep p id).keep i oz;have K:=(t.keep p id).keep i oz;have E:=(r.trans p).after i (fun b' o h2=>by have:=R.out.2;omega);generalize (C.setRow d (Q4 (Q3 (comp c c))))=b1 at H F K E ⊢;clear i z p y t r x;have J:comp m (Ql (comp c c) n (f / 2))=Ql X n k:=by
    rw [G4 I A,<-a2.out]
    congr 2
    have:=O.out;omega
   have Q:=Zh J;clear J;go_wp2;exact⟨⟨f / 2,comp c c,m,by omega,tz,rfl,⟨A.comp A,Z,Q.out⟩,H,K,F,E⟩,nz⟩
end Go.Proofs.YtbmbdoanammlgaaDoor
