/- Patterns of one's own: -/
import Derived.Test.YtfdlhlghcbeblaaGreatDoorY04
set_option maxRecDepth 100000
set_option maxHeartbeats 4000000
namespace Go.Ab
open Go.RowKit
def Hq(xs:List Value)(j:Nat):List Value:=(xs.drop (j*7)).take 7
theorem Q0o{xs:List Value}{j i:Nat}(a:i<7):(Hq xs j)[i]?=xs[j*7+i]?:=by
 unfold Hq;rw [List.getElem?_take_of_lt a,List.getElem?_drop]
theorem Eo{xs:List Value}{j i:Nat}{v:Value}(h:(Hq xs j)[i]?=some v):xs[j*7+i]?=some v:=by
 have a:i<(Hq xs j).length:=(List.getElem?_eq_some_iff.1 h).1;have:i<7:=by unfold Hq at a;rw [List.length_take] at a;omega
 rw [<-Q0o this];exact h
theorem Q0t{w:World}{base:Nat}{e:TypeId}{g n cap:Nat}{xs:List Value}(h:w.ownsRow base e 7 (.slice (some ⟨g,0,none⟩) n cap) n xs) (j:Nat):w.rangeAt g (j*7) (Hq xs j):=
 Pn h fun _ _ hv=>Eo hv
theorem Pa:∀(vs cur:List Value) (o i:Nat),o+vs.length<=cur.length->(Xm cur o vs)[i]?=if o<=i/\i<o+vs.length then vs[i - o]? else cur[i]?
 | [],cur,o,i,_=>by unfold Xm;rw [if_neg (by simp only [List.length_nil];omega)]
 | v::vs,cur,o,i,h=>by
  simp only [List.length_cons] at h ⊢;unfold Xm;rw [Pa vs _ _ _ (by rw [List.length_set];omega)];by_cases h1:o+1<=i/\i<o+1+vs.length
  ·rw [if_pos h1,if_pos oz,show i - o=(i - (o+1))+1 by omega,List.getElem?_cons_succ]
  ·rw [if_neg h1];by_cases h2:i=o
   ·subst h2;rw [if_pos oz,Nat.sub_self,List.getElem?_set_self oz];rfl
   ·rw [if_neg oz,List.getElem?_set_ne oz]
inductive Uq (T:TypeId) (w:World):Pat->List Value->(Nat->Prop)->Prop
 | mk {k:Int} {pl mi:Nat} {nt:Bool} {mn mx:Int} {l:List Pat} {ao:Option Addr} {cap:Nat} {K:Nat->Prop} (xs:List Value) (Ks:Nat->Nat->Prop)
   (hpl:pl<4294967296) (hmi:mi<4294967296)
   (hO:w.ownsRow 0 T 7 (.slice ao l.length cap) l.length xs)
   (hg:∀ g,(Value.slice ao l.length cap).ownBlock=some g->K g/\∀ j,j<l.length->¬ Ks j g)
   (hs:∀ j b,j<l.length->Ks j b->K b)
   (hd:∀ i j b,i<l.length->j<l.length->i≠j->Ks i b->¬ Ks j b)
   (hc:∀ j (h:j<l.length),Uq T w l[j] (Hq xs j) (Ks j)):Uq T w (.node k pl mi nt mn mx l) (Ql k pl mi nt mn mx ao l.length cap) K
theorem Uq.keep{T:TypeId}{S:Nat->Prop}{A B:World}(d:Q1 S A B):∀ {p:Pat} {cs:List Value} {K:Nat->Prop},Uq T A p cs K->(∀ b,K b->¬ S b)->Uq T B p cs K:=by
 intro p cs K a
 induction a with
 | mk xs Ks hpl hmi hO hg hs hd hc ih=>
  intro c;exact .mk xs Ks hpl hmi (Qd hO d fun g hb=>c g (hg g hb).1) hg hs hd fun j a=>ih j a fun b hb=>c b (hs j b a hb)
theorem Uq.mono{T:TypeId}{w:World}{p:Pat}{cs:List Value}{K L:Nat->Prop}(h:Uq T w p cs K)(a:∀ b,K b->L b):Uq T w p cs L:=by
 cases h with
 | mk xs Ks hpl hmi hO hg hs hd hc=>exact .mk xs Ks hpl hmi hO (fun g hb=>⟨a g (hg g hb).1,(hg g hb).2⟩) (fun j b h1 h2=>a b (hs j b h1 h2)) hd hc
theorem Kd{w:World}{base:Nat}{e:TypeId}{sz:Nat}{ao:Option Addr}{n cap:Nat}{xs:List Value}(h:w.ownsRow base e sz (.slice ao n cap) n xs):n<=cap/\cap<=maxLen:=by
 rcases h.2 with ⟨a,_⟩ | ⟨_,_,_,a,_,_,b,c,_⟩
 ·simp only [zV] at a;simp [a.2.1,a.2.2]
 ·simp only [zV] at a;obtain⟨_,_,rfl⟩:=a;exact⟨b,c⟩
theorem Dd{w:World}{base:Nat}{e:TypeId}{sz n cap:Nat}{ao:Option Addr}{xs:List Value}(h:w.ownsRow base e sz (.slice ao n cap) n xs) (b:0<n):∃ g,ao=some ⟨g,0,none⟩:=by
 rcases h.2 with ⟨a,_⟩ | ⟨g,_,_,a,_⟩
 ·simp only [zV] at a;omega
 ·cases a;exact⟨g,rfl⟩
theorem Uq.at{T:TypeId}{w:World}:∀ {p:Pat} {cs:List Value} {K:Nat->Prop},Uq T w p cs K->Z0 K w p cs:=by
 intro p cs K c
 induction c with
 | @mk k pl mi nt mn mx l ao cap K xs Ks hpl hmi hO hg hs hd hc ih=>
  unfold Z0;obtain⟨d,e⟩:=Kd hO;refine⟨ao,cap,rfl,hpl,hmi,d,e,Zb.mk fun j hj=>?_⟩;obtain⟨a,rfl⟩:=Dd hO oz;refine⟨a,0,Hq xs j,rfl,(hg a rfl).1,(hO.lt a rfl).2,by rw [Nat.zero_add,Nat.zero_add];exact Q0t hO j,Z0.mono (fun b hb=>hs j b hj hb) (ih j hj)⟩
end Go.Ab
namespace Go.Ab
open Go.RowKit
theorem Q12(b o j:Nat):(⟨b,o,none⟩:Addr).add j=⟨b,o+j,none⟩:=by
 unfold Addr.add;split
 ·rename_i a;subst a;rfl
 ·simp
theorem Pk:∀(ws:Wd) (a:Nat),Qw (ws.drop a)=(Qw ws).drop (a*2)
 | _,0=>rfl
 | [],a+1=>by simp [Qw]
 | s::ws,a+1=>by
  rw [List.drop_succ_cons,Pk ws a,U3,show (a+1)*2=a*2+1+1 by omega,List.drop_succ_cons,List.drop_succ_cons]
theorem Pv:∀(ws:Wd) (a:Nat),Qw (ws.take a)=(Qw ws).take (a*2)
 | _,0=>rfl
 | [],a+1=>by simp [Qw]
 | s::ws,a+1=>by
  rw [List.take_succ_cons,U3,Pv ws a,U3,show (a+1)*2=a*2+1+1 by omega,List.take_succ_cons,List.take_succ_cons]
theorem Q8.cut{w:World}{A:Option Addr}{c:Nat}{ws:Wd}(h:Q8 w (.slice A ws.length c) ws) {a b:Nat} (u:a<=b) (v:b<=ws.length) (x:ws.length<=c) :
  Q8 w (sliced A a b c 2) ((ws.drop a).take (b - a)):=by
 have d:((ws.drop a).take (b - a)).length=b - a:=by rw [List.length_take,List.length_drop];omega
 obtain⟨⟨r,t,p,q,f,k⟩,l⟩:=h;simp only [zV,true_and] at f;obtain⟨rfl,rfl⟩:=f;refine⟨⟨by rw [Lb],by omega,_,_,by unfold sliced;rw [d],fun h0=>?_⟩,fun s hs=>l s (List.mem_of_mem_drop (List.mem_of_mem_take hs))⟩;rw [d] at h0;obtain⟨e,g,rfl,o,m⟩:=k oz
 have i:∀ j,j<(b - a)*2->w.cell? ⟨e,g+a*2+j,none⟩=some ((Qw ((ws.drop a).take (b - a))).getD j undef):=fun j hj=>by
  rw [Nat.add_assoc,m (a*2+j) oz,Pv,Pk]
  congr 1
  rw [List.getD_eq_getElem?_getD,List.getD_eq_getElem?_getD,List.getElem?_take,if_pos hj,List.getElem?_drop]
 rw [d];by_cases n:c=a
 ·omega
 ·exact⟨e,g+a*2,by rw [if_neg n];simp [Q12],o,fun j hj=>i j hj⟩
theorem T9{ws:Wd}{a b:Nat}(h:b=ws.length):(ws.drop a).take (b - a)=ws.drop a:=by
 subst h;rw [<-List.length_drop,List.take_length]
theorem take_zero{ws:Wd}(b:Nat):(ws.drop 0).take (b - 0)=ws.take b:=by simp
section
variable {P:Program} {t:TypeId} {size:Nat}
theorem Tb{A:Option Addr}{n c:Nat}(e:P.underlying t=some (.slice (P.elem t))) (d:∀ D,(sizeOf (P.elem t)).run P D=.ok size D) (a b:Nat) (f:a<=b) (g:b<=c) (D:World) :
  (Instr.slice t (.slice A n c) (some (.int .i64 (a:Int))) (some (.int .i64 (b:Int))) none).run P D=.ok (sliced A a b c size) D:=by
 rw [run_slice_lh D t A n c e .i64 .i64 (a:Int) (b:Int) oz oz oz,d];rfl
theorem No{A:Option Addr}{n c:Nat}(d:P.underlying t=some (.slice (P.elem t))) (a:∀ D,(sizeOf (P.elem t)).run P D=.ok size D) (b:Nat) (e:b<=c) (D:World) :
  (Instr.slice t (.slice A n c) none (some (.int .i64 (b:Int))) none).run P D=.ok (sliced A 0 b c size) D:=by
 rw [run_slice_h D t A n c d .i64 (b:Int) oz oz,a];rfl
theorem Nn{A:Option Addr}{n c:Nat}(d:P.underlying t=some (.slice (P.elem t))) (b:∀ D,(sizeOf (P.elem t)).run P D=.ok size D) (a:Nat) (e:a<=n) (D:World) :
  (Instr.slice t (.slice A n c) (some (.int .i64 (a:Int))) none none).run P D=.ok (sliced A a n c size) D:=by
 rw [run_slice_l D t A n c d .i64 (a:Int) oz oz,b];rfl
end
end Go.Ab
namespace Go.Proofs.YtfdlhlghcbeblaaGreatDoor
open Go.RowKit Go.Ab
attribute [local go_sem] Oper.semAt_some Zf Qp
theorem Bl(v:Nat)(a:v<18446744073709551616):v &&& (v - 1)<18446744073709551616:=by
 have:=Nat.and_le_left (n:=v) (m:=v - 1);omega
theorem Q29(v:Nat)(b:v<18446744073709551616)(c:v≠0) :
  bits BinOp.and IntKind.u64 (v:Int) ((v:Int) - 1)=((v &&& (v - 1):Nat):Int):=by
 have a:(v:Int) - 1=((v - 1:Nat):Int):=by omega
 rw [a,u64_and_nat v _ b oz]
theorem T7(v:Nat)(b:v<18446744073709551616)(a:v≠0):(v &&& (v - 1))<v:=by
 have:=Nat.and_le_right (n:=v) (m:=v - 1);omega
def SetBox(w:World)(bx:Nat)(v:Nat):Prop:=w.heap[bx]?=some (.cells #[.int .u64 v] 183 (0,0))
theorem SetBox.cell{w:World}{bx v:Nat}(h:SetBox w bx v):w.cell? ⟨bx,0,none⟩=some (.int .u64 v):=cell_of_one h
theorem SetBox.free{w:World}{bx v:Nat}(h:SetBox w bx v):w.frozen? ⟨bx,0,none⟩=false:=free_of_one h
theorem SetBox.store{w:World}{bx v:Nat}(u:Nat)(h:SetBox w bx v):SetBox (w.setCell ⟨bx,0,none⟩ (.int .u64 u)) bx u:=one_setCell h
def L4(w:World)(bx:Nat):Nat:=match w.cell? ⟨bx,0,none⟩ with | some (.int _ n)=>n.toNat | _=>0
theorem Mx{w:World}{bx v:Nat}(h:SetBox w bx v):L4 w bx=v:=by unfold L4;rw [h.cell];simp
theorem Le(v:Nat)(N:v<18446744073709551616)(bx:Nat)(L:bx≠0)(w:World)(J:SetBox w bx v)(F:Tab w) :
  T5 Tryz.prog 151 #[.pointer (some ⟨bx,0,none⟩)] (fun x:Nat=>#[.int .i64 x]) (evs v) (·=bx) (fun b=>b=bx\/b=0) w:=by
 intro Y z P r t C T I B;have K:SetBox r bx v:=t.heap J zy;have H:Tab r:=F.keep t zy;refine callsIn_wide.1 (callsIn_of_wp (n:=0) Tryz.func151 rfl trivial ?_ rfl);simp only [Tryz.ntmps151,zS,Nat.reduceAdd,Nat.reduceSub];gi_wp2
 gi_loopw [3] (fun _ wr=>∃(c:List Nat) (a:Nat),SetBox wr bx a/\a<18446744073709551616/\evs v=c++evs a/\z c wr/\Tab wr)
  (fun _ wr=>L4 wr bx)
 case atStart=>exact⟨[],v,K,N,rfl,B,H⟩
 case round=>
  obtain⟨c,a,j,e,d,l,o⟩:=hrel;have M:=j.cell;have q:L4 wr bx=a:=Mx j;by_cases f:a=0
  ·subst f;rw [Sn,List.append_nil] at d;clear q;gi_wp2;go_end0
   exact⟨⟨_,rfl⟩,.inl (by rw [d];exact l)⟩
  ·have W:((a:Int) != 0)=true:=by simp;omega
   have p:=Sf a f (by simpa using e);rw [p] at d;have k:=Zh d;clear d;have O:=Zh p;clear p;have y:=Zh q;clear q;obtain⟨S,Z,Q,R,u,m⟩:=I c _ _ wr k.out l
   gi_wp2_with (gi_at_call 152;refine(callsIn_wide.2 (Q2l a e f wr o)).mono ?_;rintro A a0 ⟨rfl,rfl⟩)
   refine m.mono ?_;rintro A g (⟨rfl,D,s⟩ | ⟨rfl,E⟩)
   ·have i:SetBox g bx a:=s.heap j zy;have G:Tab g:=o.keep s zy;have U:=i.cell;have V:=i.free;have X:=Q29 a e f;clear m u j M o l;gi_wp2
    go_roundw
    case rel=>exact⟨c++[Lib.ctz 64 a],a &&& (a - 1),i.store _,Bl a e,by rw [k.out];simp,C _ _ _ D (Q1.set1 g bx 0 _),G.keep (Q1.set1 g bx 0 _) (Ne.symm L)⟩
    case measure=>rw [y.out,Mx (i.store _)];exact T7 a e f
   ·clear m u;gi_wp2;go_end0
    exact⟨⟨_,rfl⟩,.inr ⟨c,_,_,k.out,E⟩⟩
theorem M9(v:Int)(w:World) :
  Calls Tryz.prog 106 #[.int .u64 v] w fun e w'=>e=.returned (.func (.func 151) #[] #[.pointer (some ⟨w.heap.size,0,none⟩)])/\w'=w.alloc (.cells #[.int .u64 v] 183):=by
 go_enter Tryz.func106,Tryz.ntmps106;go_wp2;go_ret;exact⟨rfl,rfl⟩
def Ve(mk:Bool)(n:Nat)(bf af:Nat->Nat):List Value:=
 .bool mk::.int .i64 n::((List.range 64).map (fun i=>Value.int .u64 (bf i))++(List.range 64).map (fun i=>Value.int .u64 (af i)))
def U5(mk:Bool)(n:Nat)(bf af:Nat->Nat):Array Value:=(Ve mk n bf af).toArray
def Ord(w:World)(b:Nat)(mk:Bool)(n:Nat)(bf af:Nat->Nat):Prop:=
 w.heap[b]?=some (.cells (U5 mk n bf af) 186 (0,0))
theorem Ord.get{w:World}{b:Nat}{d:Bool}{n:Nat}{c a:Nat->Nat}(h:Ord w b d n c a)(o:Nat) :
  w.cell? ⟨b,o,none⟩=(Ve d n c a)[o]?:=by
 unfold Ord at h;simp [World.cell?,h,U5]
theorem Ord.free{w:World}{b:Nat}{d:Bool}{n:Nat}{c a:Nat->Nat}(h:Ord w b d n c a)(o:Nat):w.frozen? ⟨b,o,none⟩=false:=by
 unfold Ord at h;simp [World.frozen?,h]
theorem Ord.made{w:World}{b:Nat}{a:Bool}{n:Nat}{d c:Nat->Nat}(h:Ord w b a n d c):w.cell? ⟨b,0,none⟩=some (.bool a):=by
 rw [h.get];rfl
theorem Ord.n{w:World}{b:Nat}{d:Bool}{n:Nat}{c a:Nat->Nat}(h:Ord w b d n c a):w.cell? ⟨b,1,none⟩=some (.int .i64 n):=by
 rw [h.get];rfl
theorem Ord.bf{w:World}{b:Nat}{e:Bool}{n:Nat}{a c:Nat->Nat}(h:Ord w b e n a c)(i:Nat)(d:i<64):w.cell? ⟨b,2+i,none⟩=some (.int .u64 (a i)):=by
 rw [h.get,Nat.add_comm];simp [Ve,List.getElem?_append,d]
theorem Ord.af{w:World}{b:Nat}{e:Bool}{n:Nat}{c a:Nat->Nat}(h:Ord w b e n c a)(i:Nat)(d:i<64):w.cell? ⟨b,66+i,none⟩=some (.int .u64 (a i)):=by
 rw [h.get,show 66+i=(64+i)+1+1 by omega];simp [Ve,List.getElem?_append,d]
theorem Ord.keep{S:Nat->Prop}{A B:World}{b:Nat}{mk:Bool}{n:Nat}{bf af:Nat->Nat}(h:Ord A b mk n bf af)(ht:Q1 S A B)(hS:¬ S b):Ord B b mk n bf af:=ht.heap h hS
theorem Ord.lt{w:World}{b:Nat}{mk:Bool}{n:Nat}{bf af:Nat->Nat}(h:Ord w b mk n bf af):b<w.heap.size:=(Array.getElem?_eq_some_iff.1 h).1
def upd(f:Nat->Nat)(x v:Nat):Nat->Nat:=fun i=>if i=x then v else f i
theorem Hl{w:World}{b o:Nat}{cs:Array Value}{t:TypeId}{v:Value}(h:w.heap[b]?=some (.cells cs t (0,0))) :
  (w.setCell ⟨b,o,none⟩ v).heap[b]?=some (.cells (cs.setIfInBounds o v) t (0,0)):=by
 simp only [World.setCell,Array.getElem?_modify,h];simp
theorem map_set(f:Nat->Nat)(x v:Nat)(g:Nat->Value)(m:Nat):((List.range m).map (fun i=>g (f i))).set x (g v)=(List.range m).map (fun i=>g (upd f x v i)):=by
 apply List.ext_getElem?;intro i;simp only [List.getElem?_set,List.getElem?_map,List.length_map,List.length_range,upd];by_cases b:x=i
 ·subst b;by_cases a:x<m
  ·simp [a]
  ·simp [a]
 ·rw [if_neg b];by_cases a:i<m
  ·simp [a,Ne.symm b]
  ·simp [a]
theorem Ord.setAf{w:World}{b:Nat}{d:Bool}{n:Nat}{c a:Nat->Nat}(h:Ord w b d n c a)(x v:Nat)(_hx:x<64) :
  Ord (w.setCell ⟨b,66+x,none⟩ (.int .u64 v)) b d n c (upd a x v):=by
 unfold Ord;rw [Hl h]
 congr 2
 unfold U5;rw [List.setIfInBounds_toArray]
 congr 1
 rw [show 66+x=(64+x)+1+1 by omega];simp only [Ve,List.set_cons_succ];rw [List.set_append_right _ _ zy];simp only [List.length_map,List.length_range,Nat.add_sub_cancel_left];rw [map_set a x v (fun i=>Value.int .u64 i) 64]
theorem Ord.setBf{w:World}{b:Nat}{d:Bool}{n:Nat}{a c:Nat->Nat}(h:Ord w b d n a c)(x v:Nat)(e:x<64) :
  Ord (w.setCell ⟨b,2+x,none⟩ (.int .u64 v)) b d n (upd a x v) c:=by
 unfold Ord;rw [Hl h]
 congr 2
 unfold U5;rw [List.setIfInBounds_toArray]
 congr 1
 rw [show 2+x=x+1+1 by omega];simp only [Ve,List.set_cons_succ];rw [List.set_append_left _ _ (by simpa using e)];rw [map_set a x v (fun i=>Value.int .u64 i) 64]
theorem Lf(c:Bool)(n:Nat)(b a:Nat->Nat):(U5 c n b a).size=130:=by simp [U5,Ve]
theorem Q2x(c:Bool)(n:Nat)(b a:Nat->Nat):(U5 c n b a=#[])=False:=by
 apply eq_false;intro d;have:=Lf c n b a;rw [d] at this;simp at this
theorem Q4r(w:World):(zeroValue 186).run Tryz.prog w=.ok (.agg (U5 false 0 (fun _=>0) (fun _=>0))) w:=by kernel_rfl
theorem Tk(n:Nat):((U5 false 0 (fun _=>0) (fun _=>0)).setIfInBounds 0 (.bool true)).setIfInBounds 1 (.int .i64 n)=U5 true n (fun _=>0) (fun _=>0):=by
 simp [U5,Ve]
theorem Q83(n:Nat)(a:n<=64)(w:World) :
  Calls Tryz.prog 104 #[.int .i64 n] w fun e w'=>e=.returned (.tuple #[.pointer (some ⟨w.heap.size,0,none⟩),.int .i64 0])/\Ext w w'/\Ord w' w.heap.size true n (fun _=>0) (fun _=>0):=by
 have b:=Q4r;have c:=Lf false 0 (fun _=>0) (fun _=>0);have d:=Q2x false 0 (fun _=>0) (fun _=>0);have f:=Tk n;go_enter Tryz.func104,Tryz.ntmps104;go_wp2;go_ret2;exact⟨rfl,(Q1.refl _ _).alloc _,World.alloc_heap_new _ _⟩
theorem Rv(b:Nat)(n:Int)(w:World)(a:w.cell? ⟨b,1,none⟩=some (.int .i64 n)) :
  Calls Tryz.prog 48 #[.pointer (some ⟨b,0,none⟩)] w fun e w'=>e=.returned (.int .i64 n)/\w=w':=by
 go_enter Tryz.func48,Tryz.ntmps48;go_wp2;go_ret;exact⟨rfl,rfl⟩
def Zl(n a:Int):Bool:=decide (0<=a) && decide (a<n)
theorem Gf{n a:Int}(b:0<=a)(h:a<n):Zl n a=true:=by simp [Zl,b,h]
theorem K8{n a:Int}:Zl n a=true↔0<=a/\a<n:=by simp [Zl]
theorem Lu{n a:Int}(h:¬ (0<=a/\a<n)):Zl n a=false:=by
 cases h':Zl n a with
 | false=>rfl
 | true=>exact absurd (K8.1 h') h
theorem U8(b:Nat)(n a:Int)(w:World)(c:w.cell? ⟨b,1,none⟩=some (.int .i64 n)) :
  Calls Tryz.prog 108 #[.pointer (some ⟨b,0,none⟩),.int .i64 a] w fun e w'=>e=.returned (.bool (Zl n a))/\w=w':=by
 by_cases d:0<=a
 ·go_enter Tryz.func108,Tryz.ntmps108
  go_wp2_with (go_at_call 48;refine(Rv b n w c).mono ?_;rintro e w' ⟨rfl,rfl⟩)
  go_ret;exact⟨Yk (by simp [Zl,d]),rfl⟩
 ·have f:a<0:=by omega
  go_enter Tryz.func108,Tryz.ntmps108
  go_wp2_with (go_at_call 48;refine(Rv b n w c).mono ?_;rintro e w' ⟨rfl,rfl⟩)
  go_ret;exact⟨Yk (Lu oz).symm,rfl⟩
theorem Q79(v y:Nat)(e:v<18446744073709551616):(bits .and .u64 ((v:Int) / 2 ^ y) 1 == 1)=v.testBit y:=by
 have a:((v:Int) / 2 ^ y)=((v / 2 ^ y:Nat):Int):=by simp
 have d:v / 2 ^ y<=v:=Nat.div_le_self _ _;have b:(1:Int)=((1:Nat):Int):=rfl;rw [a,b,u64_and_nat _ _ oz zd,Nat.and_one_is_mod,Nat.testBit_eq_decide_div_mod_eq];by_cases c:v / 2 ^ y % 2=1
 ·rw [c];simp
 ·have:v / 2 ^ y % 2=0:=by omega
  rw [this];simp
def isB(n:Nat)(af:Nat->Nat)(x y:Int):Bool:=Zl n x && Zl n y && (af x.toNat).testBit y.toNat
def Q0d(n:Nat)(bf af:Nat->Nat):Prop:=n<=64/\(∀ i,bf i<18446744073709551616)/\(∀ i,af i<18446744073709551616)
theorem Q0i(b:Nat)(o:Bool)(n:Nat)(k a:Nat->Nat)(w:World)(m:Ord w b o n k a)(l:Q0d n k a)(x y:Int) :
  Calls Tryz.prog 58 #[.pointer (some ⟨b,0,none⟩),.int .i64 x,.int .i64 y] w fun e w'=>e=.returned (.bool (isB n a x y))/\w=w':=by
 have j:=m.n;have r:=l.1;by_cases c:0<=x/\x<n
 ·by_cases g:0<=y/\y<n
  ·have d:=Gf c.1 c.2;have i:=Gf g.1 g.2;obtain⟨x,rfl⟩:=Int.eq_ofNat_of_zero_le c.1;obtain⟨y,rfl⟩:=Int.eq_ofNat_of_zero_le g.1;have s:(x:Int)<64:=by omega
   have t:(y:Int)<64:=by omega
   have q:=m.af x oz;have p:=Q79 (a x) y (l.2.2 x);have f:isB n a x y=(a x).testBit y:=by simp [isB,d,i]
   go_enter Tryz.func58,Tryz.ntmps58
   go_wp2_with (go_at_call 108;refine(U8 b n _ w j).mono ?_;rintro e w' ⟨rfl,rfl⟩)
   go_ret;exact⟨Yk f.symm,rfl⟩
  ·have d:=Gf c.1 c.2;have i:=Lu g;have f:isB n a x y=false:=by simp [isB,d,i]
   go_enter Tryz.func58,Tryz.ntmps58
   go_wp2_with (go_at_call 108;refine(U8 b n _ w j).mono ?_;rintro e w' ⟨rfl,rfl⟩)
   go_ret;exact⟨Yk f.symm,rfl⟩
 ·have d:=Lu c;have f:isB n a x y=false:=by simp [isB,d]
  go_enter Tryz.func58,Tryz.ntmps58
  go_wp2_with (go_at_call 108;refine(U8 b n _ w j).mono ?_;rintro e w' ⟨rfl,rfl⟩)
  go_ret;exact⟨Yk f.symm,rfl⟩
def Qa8(n:Nat)(af:Nat->Nat)(x y:Int):Bool:=Zl n x && Zl n y && !(x == y) && !isB n af x y && !isB n af y x
theorem _root_.Go.Proofs.YtfdlhlghcbeblaaGreatDoor.SetBox.lt {w:World} {bx v:Nat} (h:SetBox w bx v):bx<w.heap.size:=(Array.getElem?_eq_some_iff.1 h).1
theorem Cf(f:Nat->Nat)(v:Nat)(a:List Nat)(i:Nat):upd (fun k=>if k∈a then f k ||| v else f k) i ((if i∈a then f i ||| v else f i) ||| v)=fun k=>if k∈a++[i] then f k ||| v else f k:=by
 funext k
 unfold upd;by_cases b:k=i
 ·subst b;by_cases c:k∈a
  ·simp [c,Nat.or_assoc]
  ·simp [c]
 ·simp [b]
theorem L5{a b:Nat}(ha:a<18446744073709551616)(hb:b<18446744073709551616):a ||| b<18446744073709551616:=Nat.or_lt_two_pow (n:=64) ha hb
theorem Sr{x:Nat}(hx:x<64):2 ^ x<18446744073709551616:=Nat.pow_lt_pow_right (a:=2) (n:=64) zd hx
theorem Q1t(b:Nat)(n:Nat)(c a:Nat->Nat)(w:World)(z:Ord w b true n c a)(r:Q0d n c a)(P:Tab w)(c5:b≠0)(x y:Nat)(e6:x<n)(e9:y<n)(e8:x≠y)(c7:(a y).testBit x=false) :
  Calls Tryz.prog 105 #[.pointer (some ⟨b,0,none⟩),.int .i64 x,.int .i64 y] w fun e w'=>e=.returned (.int .i64 0)/\Q1 (·=b) w w' /\
   Ord w' b true n (fun i=>if i∈evs (a y ||| 2 ^ y) then c i ||| (c x ||| 2 ^ x) else c i) (fun i=>if i∈evs (c x ||| 2 ^ x) then a i ||| (a y ||| 2 ^ y) else a i):=by
 have e1:=z.lt;have c8:b<w.heap.size+1:=by omega
 have c9:b<w.heap.size+1+1:=by omega
 have d0:b<w.heap.size+2:=by omega
 have e2:=r.1;have a9:Zl (n:Int) (x:Int)=true:=Gf oz oz;have b0:Zl (n:Int) (y:Int)=true:=Gf oz oz;have b9:isB n a y x=false:=by simp [isB,a9,b0,c7]
 have c0:((x:Int) ==(y:Int))=false:=by simp;omega
 have e7:(x:Int)<64:=by omega
 have f0:(y:Int)<64:=by omega
 have E:Ord (w.alloc (.cells #[.pointer (some ⟨b,0,none⟩)] 84)) b true n c a:=z.keep ((Q1.refl (fun _=>False) w).alloc _) id;have d1:=z.made;have b5:=z.bf x oz;have b6:=z.af y oz;refine Qv Tryz.func105 rfl ?_;simp only [Tryz.ntmps105,zS,Nat.reduceAdd,Nat.reduceSub]
 go_wp2_with (first | (go_at_call 108;refine(U8 b n _ _ E.n).mono ?_;rintro e w' ⟨rfl,rfl⟩) | (go_at_call 58;refine(Q0i b true n c a _ E r _ _).mono ?_;rintro e w' ⟨rfl,rfl⟩))
 have d4:=Ws (c x) x (r.2.1 x) oz;have d5:=Ws (a y) y (r.2.2 y) oz
 have a6:Hid (∀ v,Ext (w.alloc (.cells #[.pointer (some ⟨b,0,none⟩)] 84)) v->v.cell? ⟨w.heap.size,0,none⟩=some (.pointer (some ⟨b,0,none⟩))/\v.cell? ⟨b,2+x,none⟩=some (.int .u64 (c x))/\v.cell? ⟨b,66+y,none⟩=some (.int .u64 (a y))):=
  Zh fun v hB=>⟨hB.cell_some (World.cell?_alloc_new _ _ _ 0) id,hB.cell_some (E.bf x oz) id,hB.cell_some (E.af y oz) id⟩
 go_cut [7,8] from 11 (fun s7 s8 wc=>∃ C H,s7=.pointer (some ⟨C,0,none⟩)/\s8=.pointer (some ⟨H,0,none⟩)/\C≠H/\w.heap.size<C/\w.heap.size<H /\
   Ext (w.alloc (.cells #[.pointer (some ⟨b,0,none⟩)] 84)) wc/\SetBox wc C (c x ||| 2 ^ x)/\SetBox wc H (a y ||| 2 ^ y))
 case first=>
  go_region_held3 (fun w'=>w'.cell? ⟨w.heap.size,0,none⟩=some (.pointer (some ⟨b,0,none⟩))/\w'.cell? ⟨b,2+x,none⟩=some (.int .u64 (c x))/\w'.cell? ⟨b,66+y,none⟩=some (.int .u64 (a y)))
   ((refine a6.out _ ?_;repeat' (first | exact Q1.refl _ _ | refine Q1.drew ?_ | refine Q1.alloc ?_ _ | refine Q1.setCell ?_ (.inl zy) _))) (first | fail)
  ·go_wp2
   go_meet
   case rel=>exact⟨w.heap.size+1,w.heap.size+1+1,rfl,rfl,by omega,by omega,by omega,(((Q1.refl _ _).alloc _).alloc _).drew,Yc (Q6 (Q3 zy)),Yc (Q3 zy)⟩
  ·go_wp2
   go_meet
   case rel=>exact⟨w.heap.size+1+1,w.heap.size+1,rfl,rfl,by omega,by omega,by omega,(((Q1.refl _ _).alloc _).alloc _).drew,Yc (Q3 zy),Yc (Q6 (Q3 zy))⟩
 case rest=>
  obtain⟨C,H,rfl,rfl,e3,e4,e5,D,R,M⟩:=hcut;have a4:Ord wc b true n c a:=E.keep D id;have a3:wc.heap[w.heap.size]?=some (.cells #[.pointer (some ⟨b,0,none⟩)] 84 (0,0)):=D.heap (Q3 rfl) id;have a7:=R.cell;clear a6 d4 d5 b5 b6 d1 a9 b0 b9 c0 c8 c9 d0 E
  go_wp2_with (go_at_call 106;refine(M9 _ _).mono ?_;rintro e w' ⟨rfl,rfl⟩)
  have a0:SetBox (wc.alloc (.cells #[.int .u64 ((c x ||| 2 ^ x:Nat):Int)] 183)) wc.heap.size (c x ||| 2 ^ x):=Q3 rfl;have J:Ext wc (wc.alloc (.cells #[.int .u64 ((c x ||| 2 ^ x:Nat):Int)] 183)):=(Q1.refl _ _).alloc _;generalize hW0:wc.alloc (.cells #[.int .u64 ((c x ||| 2 ^ x:Nat):Int)] 183)=I at a0 J ⊢;have d9:=R.lt;have d2:I.heap.size=wc.heap.size+1:=by rw [<-hW0];simp
  have Y:Tab wc:=(P.keep ((Q1.refl (fun _=>False) w).alloc _) id).keep D id;have a5:Ext w wc:=((Q1.refl (fun _=>False) w).alloc _).trans D;have a1:(c x ||| 2 ^ x)<18446744073709551616:=L5 (r.2.1 x) (Sr oz);have a2:(a y ||| 2 ^ y)<18446744073709551616:=L5 (r.2.2 y) (Sr oz);clear hW0
  refine Wr (xs:=evs (c x ||| 2 ^ x)) (S:=(·=wc.heap.size)) (K:=fun b'=>b'=wc.heap.size\/b'=0) rfl (enters_of Tryz.func151 kz rfl)
   (Le _ a1 wc.heap.size oz I a0 (Y.keep J id)) (fun _ f=>.inl f) (fun b' f=>by omega) (fun _=>rfl)
   (fun u d=>Ord d b true n c (fun i=>if i∈u then a i ||| (a y ||| 2 ^ y) else a i)/\d.heap[w.heap.size]?=some (.cells #[.pointer (some ⟨b,0,none⟩)] 84 (0,0))/\SetBox d C (c x ||| 2 ^ x)/\SetBox d H (a y ||| 2 ^ y)/\Q1 (·=b) w d)
   (fun _ _ _=>False) ?hI ?hIx ?h0 (fun i t=>(t.setIfInBounds 62 (.int .i64 i)).setIfInBounds 9 (.int .i64 i)) ?assign ?body ?done ?stop
  case hI=>
   have c4:=M.lt;rintro u A v ⟨j,l,q,F,m⟩ g;exact⟨j.keep g oz,g.heap l oz,g.heap q oz,g.heap F oz,m.after g (fun b' O h2=>by omega)⟩
  case hIx=>exact fun _ _ _ _ f _=>f
  case h0=>
   intro d c3 _;have p:Ext wc d:=J.trans c3;exact⟨by simpa using a4.keep p id,p.heap a3 id,p.heap R id,p.heap M id,Ext.of (a5.trans p)⟩
  case assign=>
   intro i d K W;gi_wp2;exact W
  case body=>
   rintro u i rest d B d3 g ⟨j,l,q,F,m⟩;simp only [pq];have N:i<64:=(Nv.1 (by rw [B];simp)).1;have c6:(i:Int)<64:=by omega
   obtain⟨o,s⟩:=zE (if i∈u then a i ||| (a y ||| 2 ^ y) else a i);have b8:=cell_of_one l;have b7:=F.cell;have U:=j.af i N;have c1:=j.free (66+i);simp only [s] at U;have Z:o<18446744073709551616:=by
    rw [<-s];split
    ·exact L5 (r.2.2 i) a2
    ·exact r.2.2 i
   have d6:bits .or .u64 (o:Int) ((a y ||| 2 ^ y:Nat):Int)=((o ||| (a y ||| 2 ^ y):Nat):Int):=u64_or_nat _ _ Z a2;have b3:=Zh B;have T:=Zh s;clear B s a7 P a5 Y g J D a3 z a4;gi_wp2;refine Xz 11 kz kz kz (by rintro⟨_,_,f⟩;exact f) ?_;simp only [List.take_succ_cons,List.take_zero,List.drop_succ_cons,List.drop_zero];repeat still_step
   refine wpStill_nil ?_;go_wp2;refine⟨((Q1.refl _ d).drew).setCell (.inr (by dsimp only;omega)) _,?_,?_,?_,?_,?_⟩
   ·rw [<-Cf,T.out];exact Ord.setAf (w:=d.drew) j i _ N
   ·exact K7 (A:=d.drew) l (by dsimp only;omega)
   ·exact K7 (A:=d.drew) q (by dsimp only;omega)
   ·exact K7 (A:=d.drew) F (by dsimp only;omega)
   ·exact(m.drew).setCell (.inr rfl) _
  case done=>
   rintro d ⟨j,l,q,F,m⟩ g V;have c4:=M.lt;have X:Tab d:=P.keep m (fun f=>c5 f.symm);have a8:=F.cell;have e0:=M.lt;have d8:I.heap.size<=d.heap.size:=g.size;have d7:I.heap.size<d.heap.size:=(Array.getElem?_eq_some_iff.1 V).1;clear P a5 Y g J D a3 z a4 R M a0 a7
   go_wp2_with (go_at_call 106;refine(M9 _ _).mono ?_;rintro e w' ⟨rfl,rfl⟩)
   have Q:SetBox (d.alloc (.cells #[.int .u64 ((a y ||| 2 ^ y:Nat):Int)] 183)) d.heap.size (a y ||| 2 ^ y):=Q3 rfl;have L:Ext d (d.alloc (.cells #[.int .u64 ((a y ||| 2 ^ y:Nat):Int)] 183)):=(Q1.refl _ _).alloc _;have b2:(d.alloc (.cells #[.int .u64 ((a y ||| 2 ^ y:Nat):Int)] 183)).heap.size=d.heap.size+1:=by simp
   generalize d.alloc (.cells #[.int .u64 ((a y ||| 2 ^ y:Nat):Int)] 183)=b4 at Q L b2 ⊢
   refine Wr (xs:=evs (a y ||| 2 ^ y)) (S:=(·=d.heap.size)) (K:=fun b'=>b'=d.heap.size\/b'=0) rfl (enters_of Tryz.func151 kz rfl)
    (Le _ a2 d.heap.size oz b4 Q (X.keep L id)) (fun _ f=>.inl f) (fun b' f=>by omega) (fun _=>rfl)
    (fun u k=>Ord k b true n (fun i=>if i∈u then c i ||| (c x ||| 2 ^ x) else c i) (fun i=>if i∈evs (c x ||| 2 ^ x) then a i ||| (a y ||| 2 ^ y) else a i)/\k.heap[w.heap.size]?=some (.cells #[.pointer (some ⟨b,0,none⟩)] 84 (0,0))/\SetBox k C (c x ||| 2 ^ x)/\Q1 (·=b) w k/\k.heap[I.heap.size]?=some (.deferred (some [])))
    (fun _ _ _=>False) ?hI2 ?hIx2 ?h02 (fun i t=>(t.setIfInBounds 76 (.int .i64 i)).setIfInBounds 10 (.int .i64 i)) ?assign2 ?body2 ?done2 ?stop2
   case hI2=>
    rintro u A v ⟨j,l,q,m,G⟩ g;exact⟨j.keep g oz,g.heap l oz,g.heap q oz,m.after g (fun b' O h2=>by omega),g.heap G oz⟩
   case hIx2=>exact fun _ _ _ _ f _=>f
   case h02=>
    intro k c2 _;have p:Ext d k:=L.trans c2;exact⟨by simpa using j.keep p id,p.heap l id,p.heap q id,m.after p (fun _ _ f=>f.elim),p.heap V id⟩
   case assign2=>
    intro i k K W;gi_wp2;exact W
   case body2=>
    rintro u i rest k B d3 g ⟨j,l,q,m,G⟩;simp only [pq];have N:i<64:=(Nv.1 (by rw [B];simp)).1;have c6:(i:Int)<64:=by omega
    obtain⟨o,s⟩:=zE (if i∈u then c i ||| (c x ||| 2 ^ x) else c i);have b8:=cell_of_one l;have b7:=q.cell;have U:=j.bf i N;have c1:=j.free (2+i);simp only [s] at U;have Z:o<18446744073709551616:=by
     rw [<-s];split
     ·exact L5 (r.2.1 i) a1
     ·exact r.2.1 i
    have d6:bits .or .u64 (o:Int) ((c x ||| 2 ^ x:Nat):Int)=((o ||| (c x ||| 2 ^ x):Nat):Int):=u64_or_nat _ _ Z a1;have b3:=Zh B;have T:=Zh s;clear B s X g L V a8 Q;gi_wp2;refine Xz 11 kz kz kz (by rintro⟨_,_,f⟩;exact f) ?_;simp only [List.take_succ_cons,List.take_zero,List.drop_succ_cons,List.drop_zero];repeat still_step
    refine wpStill_nil ?_;go_wp2;refine⟨((Q1.refl _ k).drew).setCell (.inr (by dsimp only;omega)) _,?_,?_,?_,?_,?_⟩
    ·rw [<-Cf,T.out];exact Ord.setBf (w:=k.drew) j i _ N
    ·exact K7 (A:=k.drew) l (by dsimp only;omega)
    ·exact K7 (A:=k.drew) q (by dsimp only;omega)
    ·exact(m.drew).setCell (.inr rfl) _
    ·exact K7 (A:=k.drew) G (by dsimp only;omega)
   case done2=>
    rintro k ⟨j,l,q,m,G⟩ g b1;clear g L Q X a8;go_wp2;refine Y7 (base:=w.heap.size) (Qs.cons (Qs.cons trivial oz (by first | exact G | (rw [<-d2];exact G)) zy) oz (by first | exact b1 | (rw [<-b2];exact b1)) (by simp;omega)) (fun w'=>results_tmp rfl _ _ _) ?_;intro w' O _;exact⟨rfl,m.after O (fun b' h2 h3=>by have:=h3.1;omega),j.keep O (Shut.not j rfl)⟩
   case stop2=>exact fun _ _ _ _ _ _ f=>f.elim
  case stop=>exact fun _ _ _ _ _ _ f=>f.elim
def Q8b(k:Nat)(af:Nat->Nat):List (Int × Int):=(List.range k).flatMap fun a=>(evs (af a)).map fun(b:Nat)=>((a:Int),(b:Int))
theorem Tryz.infoPair:(Tryz.prog.info? 73).map (fun i=>(i.zero,i.size,i.bytes))=some (some (.agg #[.int .i64 0,.int .i64 0]),2,16):=by kernel_rfl
def Q8p(bf af:Nat->Nat)(p:Int × Int):Bool:=af p.1.toNat &&& bf p.2.toNat == 0
def Q9b(n:Nat)(bf af:Nat->Nat):List (Int × Int):=(Q8b n af).filter (Q8p bf af)
def Da(w:World)(b n:Nat)(R:Nat->Nat->Bool):Prop:=Ord w b true n (bfR n R) (afR n R)
theorem Da.keep{S:Nat->Prop}{A B:World}{b n:Nat}{R:Nat->Nat->Bool}(h:Da A b n R)(ht:Q1 S A B)(hS:¬ S b):Da B b n R:=Ord.keep h ht hS
theorem Q8n{n:Nat}(hn:n<=64)(R:Nat->Nat->Bool):Q0d n (bfR n R) (afR n R):=⟨hn,fun _=>P2 hn _,fun _=>P2 hn _⟩
def Qb8(n:Nat)(l:List Nat):Nat:=Y1 n (fun i=>l.contains i)
set_option maxHeartbeats 4000000 in
theorem Ep(b:Nat)(n:Nat)(f c:Nat->Nat)(w:World)(i:Ord w b true n f c)(m:Q0d n f c)(x y:Int)(r:Int)
  (o:((Zl n x && Zl n y)=false/\r=3)\/(Zl n x=true/\Zl n y=true/\((x == y) || isB n c y x)=true/\r=9)) :
  Calls Tryz.prog 105 #[.pointer (some ⟨b,0,none⟩),.int .i64 x,.int .i64 y] w fun e w'=>e=.returned (.int .i64 r)/\Ext w w':=by
 have q:=i.lt;have g:Ord (w.alloc (.cells #[.pointer (some ⟨b,0,none⟩)] 84)) b true n f c:=i.keep ((Q1.refl (fun _=>False) w).alloc _) id;have s:=i.made;refine Qv Tryz.func105 rfl ?_;simp only [Tryz.ntmps105,zS,Nat.reduceAdd,Nat.reduceSub];rcases o with ⟨a,rfl⟩ | ⟨j,k,a,rfl⟩
 ·have d:Zl n x=false\/(Zl n x=true/\Zl n y=false):=by
   revert a;cases Zl n x <;> cases Zl n y <;> simp
  clear a;rcases d with j | ⟨j,k⟩
  ·go_wp2_with (go_at_call 108;refine(U8 b n _ _ g.n).mono ?_;rintro e w' ⟨rfl,rfl⟩)
   go_goals
   refine Y7 (base:=w.heap.size) trivial (fun w'=>results_tmp rfl _ _ _) ?_;intro w' a _;exact⟨rfl,Q1.after ((Q1.refl (fun _=>False) w).alloc _) a fun b' d h3=>by have:=h3.1;omega⟩
  ·go_wp2_with (go_at_call 108;refine(U8 b n _ _ g.n).mono ?_;rintro e w' ⟨rfl,rfl⟩)
   go_goals
   refine Y7 (base:=w.heap.size) trivial (fun w'=>results_tmp rfl _ _ _) ?_;intro w' a _;exact⟨rfl,Q1.after ((Q1.refl (fun _=>False) w).alloc _) a fun b' d h3=>by have:=h3.1;omega⟩
 ·have d:(x == y)=true\/((x == y)=false/\isB n c y x=true):=by
   revert a;cases (x == y) <;> cases isB n c y x <;> simp
  clear a;rcases d with l | ⟨l,p⟩
  all_goals
   go_wp2_with (first | (go_at_call 108;refine(U8 b n _ _ g.n).mono ?_;rintro e w' ⟨rfl,rfl⟩) | (go_at_call 58;refine(Q0i b true n f c _ g m _ _).mono ?_;rintro e w' ⟨rfl,rfl⟩))
   go_goals
   refine Y7 (base:=w.heap.size) trivial (fun w'=>results_tmp rfl _ _ _) ?_;intro w' a _;exact⟨rfl,Q1.after ((Q1.refl (fun _=>False) w).alloc _) a fun b' d h3=>by have:=h3.1;omega⟩
def isR(n:Nat)(R:Nat->Nat->Bool)(x y:Int):Bool:=Zl n x && Zl n y && R x.toNat y.toNat
theorem Q5o(n:Nat)(R:Nat->Nat->Bool)(x y:Int):isB n (afR n R) x y=isR n R x y:=by
 unfold isB isR;cases h1:Zl n x
 ·simp
 ·cases h2:Zl n y
  ·simp
  ·have:=K8.1 h2;simp only [Bool.true_and,afR,Yj];simp;omega
def Qa4(n:Nat)(R:Nat->Nat->Bool)(x y:Int):Bool:=Zl n x && Zl n y && !(x == y) && !isR n R x y && !isR n R y x
def W9(n:Nat)(R:Nat->Nat->Bool)(x y:Int):Int:=if Zl n x && Zl n y then(if x == y || isR n R y x then 9 else 0) else 3
def Fq(n:Nat)(R:Nat->Nat->Bool)(x y:Int):Nat->Nat->Bool:=if W9 n R x y=0 then Vr R x.toNat y.toNat else R
theorem Fz{n:Nat}{R:Nat->Nat->Bool}{x y:Int}:W9 n R x y=0↔Zl n x=true/\Zl n y=true/\x≠y/\isR n R y x=false:=by
 unfold W9;cases Zl n x <;> cases Zl n y <;> simp
theorem Q3t{n:Nat}{R:Nat->Nat->Bool}(h:Rel n R)(x y:Int):Rel n (Fq n R x y):=by
 unfold Fq
 split
 ·rename_i c
  obtain⟨a,b,g,d⟩:=Fz.1 c;have e:=K8.1 a;have f:=K8.1 b;refine Q3y h oz oz oz ?_
  simpa [isR,a,b] using d
 ·exact h
theorem Q37(b n:Nat)(R:Nat->Nat->Bool)(g:n<=64)(j:Rel n R)(w:World)(i:Da w b n R)(r:Tab w)(s:b≠0)(x y:Int) :
  Calls Tryz.prog 105 #[.pointer (some ⟨b,0,none⟩),.int .i64 x,.int .i64 y] w fun e w'=>e=.returned (.int .i64 (W9 n R x y))/\Q1 (·=b) w w'/\Da w' b n (Fq n R x y):=by
 have k:=Q8n g R;by_cases a:W9 n R x y=0
 ·obtain⟨d,f,v,q⟩:=Fz.1 a;have o:=K8.1 d;have p:=K8.1 f;obtain⟨x,rfl⟩:=Int.eq_ofNat_of_zero_le o.1;obtain⟨y,rfl⟩:=Int.eq_ofNat_of_zero_le p.1;have t:(afR n R y).testBit x=false:=by
   have:=Q5o n R y x;rw [q,isB,d,f] at this
   simpa using this
  refine(Q1t b n _ _ w i k r s x y oz oz oz t).mono ?_;rintro e w' ⟨rfl,c,l⟩;refine⟨by rw [a],c,?_⟩;rw [Q64 g j oz oz,Q6w g j oz oz] at l;rw [Fq,if_pos a];exact l
 ·have u:((Zl n x && Zl n y)=false/\W9 n R x y=3)\/(Zl n x=true/\Zl n y=true/\((x == y) || isB n (afR n R) y x)=true/\W9 n R x y=9):=by
   rw [Q5o];unfold W9 at a ⊢;cases d:Zl n x <;> cases f:Zl n y <;> simp_all
   by_cases m:x=y
   ·exact .inl m
   ·exact .inr (a m)
  refine(Ep b n _ _ w i k x y _ u).mono ?_;rintro e w' ⟨rfl,c⟩;refine⟨rfl,c.of,?_⟩;rw [Fq,if_neg a];exact i.keep c id
theorem Q8z(n:Nat)(f:n<=64)(w:World) :
  Calls Tryz.prog 104 #[.int .i64 n] w fun e w'=>e=.returned (.tuple #[.pointer (some ⟨w.heap.size,0,none⟩),.int .i64 0])/\Ext w w'/\Da w' w.heap.size n (fun _ _=>false):=by
 refine(Q83 n f w).mono ?_;rintro e w' ⟨rfl,c,d⟩;refine⟨rfl,c,?_⟩;have a:bfR n (fun _ _=>false)=fun _=>0:=by funext x;exact Xr n
 have b:afR n (fun _ _=>false)=fun _=>0:=by funext x;exact Xr n
 rw [Da,a,b];exact d
def Ju(n:Nat)(R:Nat->Nat->Bool):List (Int × Int):=(List.range n).flatMap fun a=>((List.range n).filter (R a)).map fun(b:Nat)=>((a:Int),(b:Int))
def Qb4(n:Nat)(R:Nat->Nat->Bool):List (Int × Int):=(Ju n R).filter fun p=>(List.range n).all fun c=>!(R p.1.toNat c && R c p.2.toNat)
theorem Mb{n:Nat}{R:Nat->Nat->Bool}{p:Int × Int}:p∈Ju n R↔∃ a b:Nat,p=((a:Int),(b:Int))/\a<n/\b<n/\R a b=true:=by
 simp only [Ju,List.mem_flatMap,List.mem_range,List.mem_map,List.mem_filter];constructor
 ·rintro⟨a,c,b,⟨d,e⟩,rfl⟩;exact⟨a,b,rfl,c,d,e⟩
 ·rintro⟨a,b,rfl,c,d,e⟩;exact⟨a,c,b,⟨d,e⟩,rfl⟩
end Go.Proofs.YtfdlhlghcbeblaaGreatDoor
