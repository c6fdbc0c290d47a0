/- order.Best. math/bits.TrailingZeros64 and chron.events: the iterator over the bits of a number. chron.Order in memory; its plain methods. chron.Order.Before. -/
import Derived.Test.YtfdlhlghcbeblaaGreatDoorG40
import Derived.Test.YtfdlhlghcbeblaaGreatDoorG35
import Derived.Test.YtfdlhlghcbeblaaGreatDoorG00
import Derived.WalkLawsBesides
import Derived.Handy
import Derived.Lib.Hide
import Derived.Shelf.Spec.TrailingZeros
set_option maxRecDepth 100000
set_option maxHeartbeats 16000000
namespace Go.Proofs.YtfdlhlghcbeblaaGreatDoor
open Go.RowKit Go.Ab
attribute [local go_sem] Oper.semAt_some wide_fn wide_depth
def cntB(l:List Bool):Nat:=l.countP id
def cntX(LD:List LawD)(qs:PairsL)(x:List Nat):Nat:=cntB (fitL LD x qs)
def bestStep(LD:List LawD)(qs:PairsL)(s:List Nat × Int)(x:List Nat):List Nat × Int:=if s.2<(cntX LD qs x:Int) then(x,(cntX LD qs x:Int)) else s
def bestS(LD:List LawD)(qs:PairsL)(l:List (List Nat)):List Nat × Int:=l.foldl (bestStep LD qs) ([],-1)
def bestX(LD:List LawD)(qs:PairsL):List Nat:=if ordE LD (qs.map (·.1))=0 then(bestS LD qs (permsF LD.length (List.range LD.length))).1 else []
def bestN(LD:List LawD)(qs:PairsL):Int:=if ordE LD (qs.map (·.1))=0 then(bestS LD qs (permsF LD.length (List.range LD.length))).2 else 0
def BestSt(BB BM BP base:Nat)(LD:List LawD)(qs:PairsL)(pv:Value)(w:World)(O:Nat→Prop)(pre:List (List Nat)) (V:World):Prop:=
 ∃ ao c,V.heap[BB]?=some (.cells #[.slice ao (bestS LD qs pre).1.length c] 48 (0,0))∧V.heap[BM]?=some (.cells #[.int .i64 (bestS LD qs pre).2] 3 (0,0))∧V.heap[BP]?=some (.cells #[pv] 61 (0,0)) ∧
  V.ownsRow base 3 1 (.slice ao (bestS LD qs pre).1.length c) (bestS LD qs pre).1.length (natV (bestS LD qs pre).1)∧(∀ g,(Value.slice ao (bestS LD qs pre).1.length c).ownBlock=some g→¬ O g)∧Ext w V
theorem BestSt.step{BB BM BP base D:Nat}{LD:List LawD}{qs:PairsL}{pv:Value}{w A B:World}{O O':Nat→Prop}{pre:List (List Nat)} (h:BestSt BB BM BP base LD qs pv w O pre A) (hw:w.heap.size≤D) (hX:BB<D∧BM<D∧BP<D) (hb:base=D+2) (hO:∀ b,O b→D+2≤b∧b<A.heap.size) (ht:Turn (fun b=>O b∨b=D+1) A B)
  (hO':∀ b,O' b→(O b∨A.heap.size≤b)∧b<B.heap.size):BestSt BB BM BP base LD qs pv w O' pre B:=by
 subst hb
 obtain⟨ao,c,h1,h2,h3,h4,h5,h6⟩:=h
 have ht2:Turn (fun b=>D+1≤b) A B:=ht.mono fun b _ h=>h.elim (fun h=>by have:=(hO b h).1;omega) (fun h=>by omega)
 refine⟨ao,c,ht2.heap h1 (by omega),ht2.heap h2 (by omega),ht2.heap h3 (by omega),own_keep h4 ht (fun g hg h=>?_),fun g hg h=>?_,h6.after ht2 fun b hb h=>by omega⟩
 ·have:=(h4.lt g hg).1
  rcases h with h | h
  ·exact h5 g hg h
  ·omega
 ·rcases(hO' g h).1 with h | h
  ·exact h5 g hg h
  ·have:=(h4.lt g hg).2;omega
end Go.Proofs.YtfdlhlghcbeblaaGreatDoor
namespace Go.Proofs.YtfdlhlghcbeblaaGreatDoor
open Go.RowKit Go.Ab
attribute [local go_sem] Oper.semAt_some wide_fn wide_depth
theorem and_pred_lt(v:Nat)(hv:v<18446744073709551616):v &&& (v - 1)<18446744073709551616:=by
 have:=Nat.and_le_left (n:=v) (m:=v - 1)
 omega
theorem pred_step(v:Nat)(hv:v<18446744073709551616)(h0:v≠0) :
  bits BinOp.and IntKind.u64 (v:Int) ((v:Int) - 1)=((v &&& (v - 1):Nat):Int):=by
 have e1:(v:Int) - 1=((v - 1:Nat):Int):=by omega
 rw [e1,u64_and_nat v _ hv (by omega)]
theorem and_pred_lt'(v:Nat)(hv:v<18446744073709551616)(h0:v≠0):(v &&& (v - 1))<v:=by
 have:=Nat.and_le_right (n:=v) (m:=v - 1)
 omega
def SetBox(w:World)(bx:Nat)(v:Nat):Prop:=w.heap[bx]?=some (.cells #[.int .u64 v] 183 (0,0))
theorem SetBox.cell{w:World}{bx v:Nat}(h:SetBox w bx v):w.cell? ⟨bx,0,none⟩=some (.int .u64 v):=cell_of_one h
theorem SetBox.free{w:World}{bx v:Nat}(h:SetBox w bx v):w.frozen? ⟨bx,0,none⟩=false:=free_of_one h
theorem SetBox.store{w:World}{bx v:Nat}(u:Nat)(h:SetBox w bx v):SetBox (w.setCell ⟨bx,0,none⟩ (.int .u64 u)) bx u:=one_setCell h
def setLeft(w:World)(bx:Nat):Nat:=match w.cell? ⟨bx,0,none⟩ with | some (.int _ n)=>n.toNat | _=>0
theorem setLeft_eq{w:World}{bx v:Nat}(h:SetBox w bx v):setLeft w bx=v:=by unfold setLeft;rw [h.cell];simp
theorem events_iter(v:Nat)(hv:v<18446744073709551616)(bx:Nat)(hbx:bx≠0)(w:World)(hb:SetBox w bx v)(hT:Tab w) :
  Iter Tryz.prog 151 #[.pointer (some ⟨bx,0,none⟩)] (fun x:Nat=>#[.int .i64 x]) (evs v) (·=bx) (fun b=>b=bx∨b=0) w:=by
 intro l J Jx W ht hJ hJx hY h0
 have hbW:SetBox W bx v:=ht.heap hb (by simp)
 have hTW:Tab W:=hT.keep ht (by simp)
 refine callsIn_wide.1 (callsIn_of_wp (n:=0) Tryz.func151 rfl trivial ?_ rfl)
 simp only [Tryz.ntmps151,List.size_toArray,List.length_cons,List.length_nil,Nat.reduceAdd,Nat.reduceSub,Array.replicate_succ,Array.replicate_zero,List.push_toArray,List.append_toArray,List.nil_append,List.cons_append]
 gi_wp2
 gi_loopw [3] (fun _ wr=>∃(pre:List Nat) (u:Nat),SetBox wr bx u∧u<18446744073709551616∧evs v=pre++evs u∧J pre wr∧Tab wr)
  (fun _ wr=>setLeft wr bx)
 case atStart=>exact⟨[],v,hbW,hv,rfl,h0,hTW⟩
 case round=>
  obtain⟨pre,u,hbox,hu,hev,hJs,hTs⟩:=hrel
  have hc:=hbox.cell
  have hm0:setLeft wr bx=u:=setLeft_eq hbox
  by_cases hu0:u=0
  ·subst hu0
   rw [evs_zero,List.append_nil] at hev
   clear hm0
   gi_wp2
   go_end0
   exact⟨⟨_,rfl⟩,.inl (by rw [hev];exact hJs)⟩
  ·have hne:((u:Int) != 0)=true:=by simp;omega
   have hcons:=evs_cons u hu0 (by simpa using hu)
   rw [hcons] at hev
   have HE:=Lib.hid hev;clear hev
   have HC:=Lib.hid hcons;clear hcons
   have HM:=Lib.hid hm0;clear hm0
   obtain⟨fn,tmps,assign,body,hy,hR⟩:=hY pre _ _ wr HE.out hJs
   gi_wp2_with (gi_at_call 152;refine(callsIn_wide.2 (tz_any u hu hu0 wr hTs)).mono ?_;rintro e w' ⟨rfl,rfl⟩)
   refine hR.mono ?_
   rintro e W3 (⟨rfl,hJ3,hk3⟩ | ⟨rfl,hJx3⟩)
   ·have hb3:SetBox W3 bx u:=hk3.heap hbox (by simp)
    have hT3:Tab W3:=hTs.keep hk3 (by simp)
    have hc3:=hb3.cell
    have hf3:=hb3.free
    have hp:=pred_step u hu hu0
    clear hR hy hbox hc hTs hJs
    gi_wp2
    go_roundw
    case rel=>exact⟨pre++[Lib.ctz 64 u],u &&& (u - 1),hb3.store _,and_pred_lt u hu,by rw [HE.out];simp,hJ _ _ _ hJ3 (Turn.set1 W3 bx 0 _),hT3.keep (Turn.set1 W3 bx 0 _) (Ne.symm hbx)⟩
    case measure=>rw [HM.out,setLeft_eq (hb3.store _)];exact and_pred_lt' u hu hu0
   ·clear hR hy
    gi_wp2
    go_end0
    exact⟨⟨_,rfl⟩,.inr ⟨pre,_,_,HE.out,hJx3⟩⟩
theorem events_any(v:Int)(w:World) :
  Calls Tryz.prog 106 #[.int .u64 v] w fun e w'=>e=.returned (.func (.func 151) #[] #[.pointer (some ⟨w.heap.size,0,none⟩)])∧w'=w.alloc (.cells #[.int .u64 v] 183):=by
 go_enter Tryz.func106,Tryz.ntmps106
 go_wp2
 go_ret
 exact⟨rfl,rfl⟩
end Go.Proofs.YtfdlhlghcbeblaaGreatDoor
set_option maxRecDepth 100000
namespace Go.Proofs.YtfdlhlghcbeblaaGreatDoor
open Go.RowKit Go.Ab
def chCells(mk:Bool)(n:Nat)(bf af:Nat→Nat):List Value:=
 .bool mk::.int .i64 n::((List.range 64).map (fun i=>Value.int .u64 (bf i))++(List.range 64).map (fun i=>Value.int .u64 (af i)))
def ordArr(mk:Bool)(n:Nat)(bf af:Nat→Nat):Array Value:=(chCells mk n bf af).toArray
def Ord(w:World)(b:Nat)(mk:Bool)(n:Nat)(bf af:Nat→Nat):Prop:=
 w.heap[b]?=some (.cells (ordArr mk n bf af) 186 (0,0))
theorem Ord.get{w:World}{b:Nat}{mk:Bool}{n:Nat}{bf af:Nat→Nat}(h:Ord w b mk n bf af)(o:Nat) :
  w.cell? ⟨b,o,none⟩=(chCells mk n bf af)[o]?:=by
 unfold Ord at h;simp [World.cell?,h,ordArr]
theorem Ord.free{w:World}{b:Nat}{mk:Bool}{n:Nat}{bf af:Nat→Nat}(h:Ord w b mk n bf af)(o:Nat):w.frozen? ⟨b,o,none⟩=false:=by
 unfold Ord at h;simp [World.frozen?,h]
theorem Ord.made{w:World}{b:Nat}{mk:Bool}{n:Nat}{bf af:Nat→Nat}(h:Ord w b mk n bf af):w.cell? ⟨b,0,none⟩=some (.bool mk):=by
 rw [h.get];rfl
theorem Ord.n{w:World}{b:Nat}{mk:Bool}{n:Nat}{bf af:Nat→Nat}(h:Ord w b mk n bf af):w.cell? ⟨b,1,none⟩=some (.int .i64 n):=by
 rw [h.get];rfl
theorem Ord.bf{w:World}{b:Nat}{mk:Bool}{n:Nat}{bf af:Nat→Nat}(h:Ord w b mk n bf af)(i:Nat)(hi:i<64):w.cell? ⟨b,2+i,none⟩=some (.int .u64 (bf i)):=by
 rw [h.get,Nat.add_comm]
 simp [chCells,List.getElem?_append,hi]
theorem Ord.af{w:World}{b:Nat}{mk:Bool}{n:Nat}{bf af:Nat→Nat}(h:Ord w b mk n bf af)(i:Nat)(hi:i<64):w.cell? ⟨b,66+i,none⟩=some (.int .u64 (af i)):=by
 rw [h.get,show 66+i=(64+i)+1+1 by omega]
 simp [chCells,List.getElem?_append,hi]
theorem Ord.keep{S:Nat→Prop}{A B:World}{b:Nat}{mk:Bool}{n:Nat}{bf af:Nat→Nat}(h:Ord A b mk n bf af)(ht:Turn S A B)(hS:¬ S b):Ord B b mk n bf af:=ht.heap h hS
theorem Ord.lt{w:World}{b:Nat}{mk:Bool}{n:Nat}{bf af:Nat→Nat}(h:Ord w b mk n bf af):b<w.heap.size:=(Array.getElem?_eq_some_iff.1 h).1
def upd(f:Nat→Nat)(x v:Nat):Nat→Nat:=fun i=>if i=x then v else f i
theorem heap_setCell_row{w:World}{b o:Nat}{cs:Array Value}{t:TypeId}{v:Value}(h:w.heap[b]?=some (.cells cs t (0,0))) :
  (w.setCell ⟨b,o,none⟩ v).heap[b]?=some (.cells (cs.setIfInBounds o v) t (0,0)):=by
 simp only [World.setCell,Array.getElem?_modify,h]
 simp
theorem map_set(f:Nat→Nat)(x v:Nat)(g:Nat→Value)(m:Nat):((List.range m).map (fun i=>g (f i))).set x (g v)=(List.range m).map (fun i=>g (upd f x v i)):=by
 apply List.ext_getElem?
 intro i
 simp only [List.getElem?_set,List.getElem?_map,List.length_map,List.length_range,upd]
 by_cases hx:x=i
 ·subst hx
  by_cases hm:x<m
  ·simp [hm]
  ·simp [hm]
 ·rw [if_neg hx]
  by_cases hm:i<m
  ·simp [hm,Ne.symm hx]
  ·simp [hm]
theorem Ord.setAf{w:World}{b:Nat}{mk:Bool}{n:Nat}{bf af:Nat→Nat}(h:Ord w b mk n bf af)(x v:Nat)(_hx:x<64) :
  Ord (w.setCell ⟨b,66+x,none⟩ (.int .u64 v)) b mk n bf (upd af x v):=by
 unfold Ord
 rw [heap_setCell_row h]
 congr 2
 unfold ordArr
 rw [List.setIfInBounds_toArray]
 congr 1
 rw [show 66+x=(64+x)+1+1 by omega]
 simp only [chCells,List.set_cons_succ]
 rw [List.set_append_right _ _ (by simp)]
 simp only [List.length_map,List.length_range,Nat.add_sub_cancel_left]
 rw [map_set af x v (fun i=>Value.int .u64 i) 64]
theorem Ord.setBf{w:World}{b:Nat}{mk:Bool}{n:Nat}{bf af:Nat→Nat}(h:Ord w b mk n bf af)(x v:Nat)(hx:x<64) :
  Ord (w.setCell ⟨b,2+x,none⟩ (.int .u64 v)) b mk n (upd bf x v) af:=by
 unfold Ord
 rw [heap_setCell_row h]
 congr 2
 unfold ordArr
 rw [List.setIfInBounds_toArray]
 congr 1
 rw [show 2+x=x+1+1 by omega]
 simp only [chCells,List.set_cons_succ]
 rw [List.set_append_left _ _ (by simpa using hx)]
 rw [map_set bf x v (fun i=>Value.int .u64 i) 64]
theorem ordArr_size(mk:Bool)(n:Nat)(bf af:Nat→Nat):(ordArr mk n bf af).size=130:=by simp [ordArr,chCells]
theorem ordArr_ne(mk:Bool)(n:Nat)(bf af:Nat→Nat):(ordArr mk n bf af=#[])=False:=by
 apply eq_false;intro h;have:=ordArr_size mk n bf af;rw [h] at this;simp at this
theorem zero_ord(w:World):(zeroValue 186).run Tryz.prog w=.ok (.agg (ordArr false 0 (fun _=>0) (fun _=>0))) w:=by kernel_rfl
theorem ordArr_build(n:Nat):((ordArr false 0 (fun _=>0) (fun _=>0)).setIfInBounds 0 (.bool true)).setIfInBounds 1 (.int .i64 n)=ordArr true n (fun _=>0) (fun _=>0):=by
 simp [ordArr,chCells]
theorem new_ok(n:Nat)(hn:n≤64)(w:World) :
  Calls Tryz.prog 104 #[.int .i64 n] w fun e w'=>e=.returned (.tuple #[.pointer (some ⟨w.heap.size,0,none⟩),.int .i64 0])∧Ext w w'∧Ord w' w.heap.size true n (fun _=>0) (fun _=>0):=by
 have z1:=zero_ord
 have z2:=ordArr_size false 0 (fun _=>0) (fun _=>0)
 have z3:=ordArr_ne false 0 (fun _=>0) (fun _=>0)
 have z4:=ordArr_build n
 go_enter Tryz.func104,Tryz.ntmps104
 go_wp2
 go_ret2
 exact⟨rfl,(Turn.refl _ _).alloc _,World.alloc_heap_new _ _⟩
theorem clen_any(b:Nat)(n:Int)(w:World)(h1:w.cell? ⟨b,1,none⟩=some (.int .i64 n)) :
  Calls Tryz.prog 48 #[.pointer (some ⟨b,0,none⟩)] w fun e w'=>e=.returned (.int .i64 n)∧w=w':=by
 go_enter Tryz.func48,Tryz.ntmps48
 go_wp2
 go_ret
 exact⟨rfl,rfl⟩
def isEv(n a:Int):Bool:=decide (0≤a) && decide (a<n)
theorem isEv_true{n a:Int}(h0:0≤a)(h:a<n):isEv n a=true:=by simp [isEv,h0,h]
theorem isEv_iff{n a:Int}:isEv n a=true↔0≤a∧a<n:=by simp [isEv]
theorem isEv_not{n a:Int}(h:¬ (0≤a∧a<n)):isEv n a=false:=by
 cases h':isEv n a with
 | false=>rfl
 | true=>exact absurd (isEv_iff.1 h') h
theorem event_any(b:Nat)(n a:Int)(w:World)(h1:w.cell? ⟨b,1,none⟩=some (.int .i64 n)) :
  Calls Tryz.prog 108 #[.pointer (some ⟨b,0,none⟩),.int .i64 a] w fun e w'=>e=.returned (.bool (isEv n a))∧w=w':=by
 by_cases h0:0≤a
 ·go_enter Tryz.func108,Tryz.ntmps108
  go_wp2_with (go_at_call 48;refine(clen_any b n w h1).mono ?_;rintro e w' ⟨rfl,rfl⟩)
  go_ret
  exact⟨ret_bool (by simp [isEv,h0]),rfl⟩
 ·have h':a<0:=by omega
  go_enter Tryz.func108,Tryz.ntmps108
  go_wp2_with (go_at_call 48;refine(clen_any b n w h1).mono ?_;rintro e w' ⟨rfl,rfl⟩)
  go_ret
  exact⟨ret_bool (isEv_not (by omega)).symm,rfl⟩
theorem shr_bit(v y:Nat)(hv:v<18446744073709551616):(bits .and .u64 ((v:Int) / 2 ^ y) 1 == 1)=v.testBit y:=by
 have e:((v:Int) / 2 ^ y)=((v / 2 ^ y:Nat):Int):=by simp
 have h1:v / 2 ^ y≤v:=Nat.div_le_self _ _
 have e1:(1:Int)=((1:Nat):Int):=rfl
 rw [e,e1,u64_and_nat _ _ (by omega) (by decide),Nat.and_one_is_mod,Nat.testBit_eq_decide_div_mod_eq]
 by_cases h:v / 2 ^ y % 2=1
 ·rw [h];simp
 ·have:v / 2 ^ y % 2=0:=by omega
  rw [this];simp
def isB(n:Nat)(af:Nat→Nat)(x y:Int):Bool:=isEv n x && isEv n y && (af x.toNat).testBit y.toNat
def Fits(n:Nat)(bf af:Nat→Nat):Prop:=n≤64∧(∀ i,bf i<18446744073709551616)∧(∀ i,af i<18446744073709551616)
theorem is_any(b:Nat)(mk:Bool)(n:Nat)(bf af:Nat→Nat)(w:World)(ho:Ord w b mk n bf af)(hf:Fits n bf af)(x y:Int) :
  Calls Tryz.prog 58 #[.pointer (some ⟨b,0,none⟩),.int .i64 x,.int .i64 y] w fun e w'=>e=.returned (.bool (isB n af x y))∧w=w':=by
 have hn:=ho.n
 have hn64:=hf.1
 by_cases hx:0≤x∧x<n
 ·by_cases hy:0≤y∧y<n
  ·have e1:=isEv_true hx.1 hx.2
   have e2:=isEv_true hy.1 hy.2
   obtain⟨x,rfl⟩:=Int.eq_ofNat_of_zero_le hx.1
   obtain⟨y,rfl⟩:=Int.eq_ofNat_of_zero_le hy.1
   have hx1:(x:Int)<64:=by omega
   have hy1:(y:Int)<64:=by omega
   have hc:=ho.af x (by omega)
   have hb:=shr_bit (af x) y (hf.2.2 x)
   have hr:isB n af x y=(af x).testBit y:=by simp [isB,e1,e2]
   go_enter Tryz.func58,Tryz.ntmps58
   go_wp2_with (go_at_call 108;refine(event_any b n _ w hn).mono ?_;rintro e w' ⟨rfl,rfl⟩)
   go_ret
   exact⟨ret_bool hr.symm,rfl⟩
  ·have e1:=isEv_true hx.1 hx.2
   have e2:=isEv_not hy
   have hr:isB n af x y=false:=by simp [isB,e1,e2]
   go_enter Tryz.func58,Tryz.ntmps58
   go_wp2_with (go_at_call 108;refine(event_any b n _ w hn).mono ?_;rintro e w' ⟨rfl,rfl⟩)
   go_ret
   exact⟨ret_bool hr.symm,rfl⟩
 ·have e1:=isEv_not hx
  have hr:isB n af x y=false:=by simp [isB,e1]
  go_enter Tryz.func58,Tryz.ntmps58
  go_wp2_with (go_at_call 108;refine(event_any b n _ w hn).mono ?_;rintro e w' ⟨rfl,rfl⟩)
  go_ret
  exact⟨ret_bool hr.symm,rfl⟩
def freeB(n:Nat)(af:Nat→Nat)(x y:Int):Bool:=isEv n x && isEv n y && !(x == y) && !isB n af x y && !isB n af y x
end Go.Proofs.YtfdlhlghcbeblaaGreatDoor
set_option maxRecDepth 100000
set_option maxHeartbeats 4000000
namespace Go.Proofs.YtfdlhlghcbeblaaGreatDoor
open Go.RowKit Go.Ab
theorem _root_.Go.Proofs.YtfdlhlghcbeblaaGreatDoor.SetBox.lt {w:World} {bx v:Nat} (h:SetBox w bx v):bx<w.heap.size:=(Array.getElem?_eq_some_iff.1 h).1
attribute [local go_sem] Oper.semAt_some wide_fn wide_depth
theorem or_step(f:Nat→Nat)(v:Nat)(pre:List Nat)(i:Nat):upd (fun k=>if k∈pre then f k ||| v else f k) i ((if i∈pre then f i ||| v else f i) ||| v)=fun k=>if k∈pre++[i] then f k ||| v else f k:=by
 funext k
 unfold upd
 by_cases hk:k=i
 ·subst hk
  by_cases hp:k∈pre
  ·simp [hp,Nat.or_assoc]
  ·simp [hp]
 ·simp [hk]
theorem or_lt64{a b:Nat}(ha:a<18446744073709551616)(hb:b<18446744073709551616):a ||| b<18446744073709551616:=Nat.or_lt_two_pow (n:=64) ha hb
theorem pow_lt64{x:Nat}(hx:x<64):2 ^ x<18446744073709551616:=Nat.pow_lt_pow_right (a:=2) (n:=64) (by decide) hx
theorem before_ok(b:Nat)(n:Nat)(bf af:Nat→Nat)(w:World)(ho:Ord w b true n bf af)(hf:Fits n bf af)(hT:Tab w)(hbt:b≠0)(x y:Nat)(hx:x<n)(hy:y<n)(hxy:x≠y)(hl:(af y).testBit x=false) :
  Calls Tryz.prog 105 #[.pointer (some ⟨b,0,none⟩),.int .i64 x,.int .i64 y] w fun e w'=>e=.returned (.int .i64 0)∧Turn (·=b) w w' ∧
   Ord w' b true n (fun i=>if i∈evs (af y ||| 2 ^ y) then bf i ||| (bf x ||| 2 ^ x) else bf i) (fun i=>if i∈evs (bf x ||| 2 ^ x) then af i ||| (af y ||| 2 ^ y) else af i):=by
 have hlt:=ho.lt
 have hlt1:b<w.heap.size+1:=by omega
 have hlt2:b<w.heap.size+1+1:=by omega
 have hlt3:b<w.heap.size+2:=by omega
 have hn64:=hf.1
 have e1:isEv (n:Int) (x:Int)=true:=isEv_true (by omega) (by omega)
 have e2:isEv (n:Int) (y:Int)=true:=isEv_true (by omega) (by omega)
 have e3:isB n af y x=false:=by simp [isB,e1,e2,hl]
 have e4:((x:Int) ==(y:Int))=false:=by simp;omega
 have hx1:(x:Int)<64:=by omega
 have hy1:(y:Int)<64:=by omega
 have ho1:Ord (w.alloc (.cells #[.pointer (some ⟨b,0,none⟩)] 84)) b true n bf af:=ho.keep ((Turn.refl (fun _=>False) w).alloc _) id
 have hm:=ho.made
 have c1:=ho.bf x (by omega)
 have c2:=ho.af y (by omega)
 refine calls_of_wp_marks Tryz.func105 rfl ?_
 simp only [Tryz.ntmps105,List.size_toArray,List.length_cons,List.length_nil,Nat.reduceAdd,Nat.reduceSub,Array.replicate_succ,Array.replicate_zero,List.push_toArray,List.append_toArray,List.nil_append,List.cons_append]
 go_wp2_with (first | (go_at_call 108;refine(event_any b n _ _ ho1.n).mono ?_;rintro e w' ⟨rfl,rfl⟩) | (go_at_call 58;refine(is_any b true n bf af _ ho1 hf _ _).mono ?_;rintro e w' ⟨rfl,rfl⟩))
 have o1:=u64_or_shl (bf x) x (hf.2.1 x) (by omega)
 have o2:=u64_or_shl (af y) y (hf.2.2 y) (by omega)
 have HS:Hid (∀ B,Ext (w.alloc (.cells #[.pointer (some ⟨b,0,none⟩)] 84)) B→B.cell? ⟨w.heap.size,0,none⟩=some (.pointer (some ⟨b,0,none⟩))∧B.cell? ⟨b,2+x,none⟩=some (.int .u64 (bf x))∧B.cell? ⟨b,66+y,none⟩=some (.int .u64 (af y))):=
  Lib.hid fun B hB=>⟨hB.cell_some (World.cell?_alloc_new _ _ _ 0) id,hB.cell_some (ho1.bf x (by omega)) id,hB.cell_some (ho1.af y (by omega)) id⟩
 go_cut [7,8] from 11 (fun s7 s8 wc=>∃ pe pl,s7=.pointer (some ⟨pe,0,none⟩)∧s8=.pointer (some ⟨pl,0,none⟩)∧pe≠pl∧w.heap.size<pe∧w.heap.size<pl ∧
   Ext (w.alloc (.cells #[.pointer (some ⟨b,0,none⟩)] 84)) wc∧SetBox wc pe (bf x ||| 2 ^ x)∧SetBox wc pl (af y ||| 2 ^ y))
 case first=>
  go_region_held3 (fun w'=>w'.cell? ⟨w.heap.size,0,none⟩=some (.pointer (some ⟨b,0,none⟩))∧w'.cell? ⟨b,2+x,none⟩=some (.int .u64 (bf x))∧w'.cell? ⟨b,66+y,none⟩=some (.int .u64 (af y)))
   ((refine HS.out _ ?_;repeat' (first | exact Turn.refl _ _ | refine Turn.drew ?_ | refine Turn.alloc ?_ _ | refine Turn.setCell ?_ (.inl (by simp)) _))) (first | fail)
  ·go_wp2
   go_meet
   case rel=>exact⟨w.heap.size+1,w.heap.size+1+1,rfl,rfl,by omega,by omega,by omega,(((Turn.refl _ _).alloc _).alloc _).drew,drew_keep (new_keep (new_at (by simp))),drew_keep (new_at (by simp))⟩
  ·go_wp2
   go_meet
   case rel=>exact⟨w.heap.size+1+1,w.heap.size+1,rfl,rfl,by omega,by omega,by omega,(((Turn.refl _ _).alloc _).alloc _).drew,drew_keep (new_at (by simp)),drew_keep (new_keep (new_at (by simp)))⟩
 case rest=>
  obtain⟨pe,pl,rfl,rfl,hne,hpe,hpl,hext,hbe,hbl⟩:=hcut
  have hoc:Ord wc b true n bf af:=ho1.keep hext id
  have hobox:wc.heap[w.heap.size]?=some (.cells #[.pointer (some ⟨b,0,none⟩)] 84 (0,0)):=hext.heap (new_at rfl) id
  have ce:=hbe.cell
  clear HS o1 o2 c1 c2 hm e1 e2 e3 e4 hlt1 hlt2 hlt3 ho1
  go_wp2_with (go_at_call 106;refine(events_any _ _).mono ?_;rintro e w' ⟨rfl,rfl⟩)
  have hb0:SetBox (wc.alloc (.cells #[.int .u64 ((bf x ||| 2 ^ x:Nat):Int)] 183)) wc.heap.size (bf x ||| 2 ^ x):=new_at rfl
  have hE0:Ext wc (wc.alloc (.cells #[.int .u64 ((bf x ||| 2 ^ x:Nat):Int)] 183)):=(Turn.refl _ _).alloc _
  generalize hW0:wc.alloc (.cells #[.int .u64 ((bf x ||| 2 ^ x:Nat):Int)] 183)=W0 at hb0 hE0 ⊢
  have hbe_lt:=hbe.lt
  have hs0:W0.heap.size=wc.heap.size+1:=by rw [← hW0];simp
  have hTc:Tab wc:=(hT.keep ((Turn.refl (fun _=>False) w).alloc _) id).keep hext id
  have hwc:Ext w wc:=((Turn.refl (fun _=>False) w).alloc _).trans hext
  have hev:(bf x ||| 2 ^ x)<18446744073709551616:=or_lt64 (hf.2.1 x) (pow_lt64 (by omega))
  have hlv:(af y ||| 2 ^ y)<18446744073709551616:=or_lt64 (hf.2.2 y) (pow_lt64 (by omega))
  clear hW0
  refine wp_range (xs:=evs (bf x ||| 2 ^ x)) (S:=(·=wc.heap.size)) (K:=fun b'=>b'=wc.heap.size∨b'=0) rfl (enters_of Tryz.func151 (by kernel_rfl) rfl)
   (events_iter _ hev wc.heap.size (by omega) W0 hb0 (hTc.keep hE0 id)) (fun _ h=>.inl h) (fun b' h=>by omega) (fun _=>rfl)
   (fun pre W=>Ord W b true n bf (fun i=>if i∈pre then af i ||| (af y ||| 2 ^ y) else af i)∧W.heap[w.heap.size]?=some (.cells #[.pointer (some ⟨b,0,none⟩)] 84 (0,0))∧SetBox W pe (bf x ||| 2 ^ x)∧SetBox W pl (af y ||| 2 ^ y)∧Turn (·=b) w W)
   (fun _ _ _=>False) ?hI ?hIx ?h0 (fun i t=>(t.setIfInBounds 62 (.int .i64 i)).setIfInBounds 9 (.int .i64 i)) ?assign ?body ?done ?stop
  case hI=>
   have hbl_lt:=hbl.lt
   rintro pre A B ⟨i1,i2,i3,i4,i5⟩ ht
   exact⟨i1.keep ht (by omega),ht.heap i2 (by omega),ht.heap i3 (by omega),ht.heap i4 (by omega),i5.after ht (fun b' h1 h2=>by omega)⟩
  case hIx=>exact fun _ _ _ _ h _=>h
  case h0=>
   intro W hW _
   have hE:Ext wc W:=hE0.trans hW
   exact⟨by simpa using hoc.keep hE id,hE.heap hobox id,hE.heap hbe id,hE.heap hbl id,Ext.of (hwc.trans hE)⟩
  case assign=>
   intro i W K hK
   gi_wp2
   exact hK
  case body=>
   rintro pre i rest W hx' hsz ht ⟨i1,i2,i3,i4,i5⟩
   simp only [pq]
   have hi64:i<64:=(mem_evs.1 (by rw [hx'];simp)).1
   have hi1:(i:Int)<64:=by omega
   obtain⟨av,hav⟩:∃ av,(if i∈pre then af i ||| (af y ||| 2 ^ y) else af i)=av:=⟨_,rfl⟩
   have cO:=cell_of_one i2
   have cL:=i4.cell
   have cA:=i1.af i hi64
   have fA:=i1.free (66+i)
   simp only [hav] at cA
   have havl:av<18446744073709551616:=by
    rw [← hav];split
    ·exact or_lt64 (hf.2.2 i) hlv
    ·exact hf.2.2 i
   have oA:bits .or .u64 (av:Int) ((af y ||| 2 ^ y:Nat):Int)=((av ||| (af y ||| 2 ^ y):Nat):Int):=u64_or_nat _ _ havl hlv
   have HX:=Lib.hid hx'
   have HA:=Lib.hid hav
   clear hx' hav ce hT hwc hTc ht hE0 hext hobox ho hoc
   gi_wp2
   refine wpIn_region_still_tail 11 (by kernel_rfl) (by kernel_rfl) (by kernel_rfl) (by rintro⟨_,_,h⟩;exact h) ?_
   simp only [List.take_succ_cons,List.take_zero,List.drop_succ_cons,List.drop_zero]
   repeat still_step
   refine wpStill_nil ?_
   go_wp2
   refine⟨((Turn.refl _ W).drew).setCell (.inr (by dsimp only;omega)) _,?_,?_,?_,?_,?_⟩
   ·rw [← or_step,HA.out]
    exact Ord.setAf (w:=W.drew) i1 i _ hi64
   ·exact set_keep (A:=W.drew) i2 (by dsimp only;omega)
   ·exact set_keep (A:=W.drew) i3 (by dsimp only;omega)
   ·exact set_keep (A:=W.drew) i4 (by dsimp only;omega)
   ·exact(i5.drew).setCell (.inr rfl) _
  case done=>
   rintro W ⟨i1,i2,i3,i4,i5⟩ ht hD
   have hbl_lt:=hbl.lt
   have hTW:Tab W:=hT.keep i5 (fun h=>hbt h.symm)
   have cl:=i4.cell
   have hlo:=hbl.lt
   have hW0W:W0.heap.size≤W.heap.size:=ht.size
   have hDlt:W0.heap.size<W.heap.size:=(Array.getElem?_eq_some_iff.1 hD).1
   clear hT hwc hTc ht hE0 hext hobox ho hoc hbe hbl hb0 ce
   go_wp2_with (go_at_call 106;refine(events_any _ _).mono ?_;rintro e w' ⟨rfl,rfl⟩)
   have hb1:SetBox (W.alloc (.cells #[.int .u64 ((af y ||| 2 ^ y:Nat):Int)] 183)) W.heap.size (af y ||| 2 ^ y):=new_at rfl
   have hE1:Ext W (W.alloc (.cells #[.int .u64 ((af y ||| 2 ^ y:Nat):Int)] 183)):=(Turn.refl _ _).alloc _
   have hs1:(W.alloc (.cells #[.int .u64 ((af y ||| 2 ^ y:Nat):Int)] 183)).heap.size=W.heap.size+1:=by simp
   generalize W.alloc (.cells #[.int .u64 ((af y ||| 2 ^ y:Nat):Int)] 183)=W1 at hb1 hE1 hs1 ⊢
   refine wp_range (xs:=evs (af y ||| 2 ^ y)) (S:=(·=W.heap.size)) (K:=fun b'=>b'=W.heap.size∨b'=0) rfl (enters_of Tryz.func151 (by kernel_rfl) rfl)
    (events_iter _ hlv W.heap.size (by omega) W1 hb1 (hTW.keep hE1 id)) (fun _ h=>.inl h) (fun b' h=>by omega) (fun _=>rfl)
    (fun pre V=>Ord V b true n (fun i=>if i∈pre then bf i ||| (bf x ||| 2 ^ x) else bf i) (fun i=>if i∈evs (bf x ||| 2 ^ x) then af i ||| (af y ||| 2 ^ y) else af i)∧V.heap[w.heap.size]?=some (.cells #[.pointer (some ⟨b,0,none⟩)] 84 (0,0))∧SetBox V pe (bf x ||| 2 ^ x)∧Turn (·=b) w V∧V.heap[W0.heap.size]?=some (.deferred (some [])))
    (fun _ _ _=>False) ?hI2 ?hIx2 ?h02 (fun i t=>(t.setIfInBounds 76 (.int .i64 i)).setIfInBounds 10 (.int .i64 i)) ?assign2 ?body2 ?done2 ?stop2
   case hI2=>
    rintro pre A B ⟨i1,i2,i3,i5,i6⟩ ht
    exact⟨i1.keep ht (by omega),ht.heap i2 (by omega),ht.heap i3 (by omega),i5.after ht (fun b' h1 h2=>by omega),ht.heap i6 (by omega)⟩
   case hIx2=>exact fun _ _ _ _ h _=>h
   case h02=>
    intro V hV _
    have hE:Ext W V:=hE1.trans hV
    exact⟨by simpa using i1.keep hE id,hE.heap i2 id,hE.heap i3 id,i5.after hE (fun _ _ h=>h.elim),hE.heap hD id⟩
   case assign2=>
    intro i V K hK
    gi_wp2
    exact hK
   case body2=>
    rintro pre i rest V hx' hsz ht ⟨i1,i2,i3,i5,i6⟩
    simp only [pq]
    have hi64:i<64:=(mem_evs.1 (by rw [hx'];simp)).1
    have hi1:(i:Int)<64:=by omega
    obtain⟨av,hav⟩:∃ av,(if i∈pre then bf i ||| (bf x ||| 2 ^ x) else bf i)=av:=⟨_,rfl⟩
    have cO:=cell_of_one i2
    have cL:=i3.cell
    have cA:=i1.bf i hi64
    have fA:=i1.free (2+i)
    simp only [hav] at cA
    have havl:av<18446744073709551616:=by
     rw [← hav];split
     ·exact or_lt64 (hf.2.1 i) hev
     ·exact hf.2.1 i
    have oA:bits .or .u64 (av:Int) ((bf x ||| 2 ^ x:Nat):Int)=((av ||| (bf x ||| 2 ^ x):Nat):Int):=u64_or_nat _ _ havl hev
    have HX:=Lib.hid hx'
    have HA:=Lib.hid hav
    clear hx' hav hTW ht hE1 hD cl hb1
    gi_wp2
    refine wpIn_region_still_tail 11 (by kernel_rfl) (by kernel_rfl) (by kernel_rfl) (by rintro⟨_,_,h⟩;exact h) ?_
    simp only [List.take_succ_cons,List.take_zero,List.drop_succ_cons,List.drop_zero]
    repeat still_step
    refine wpStill_nil ?_
    go_wp2
    refine⟨((Turn.refl _ V).drew).setCell (.inr (by dsimp only;omega)) _,?_,?_,?_,?_,?_⟩
    ·rw [← or_step,HA.out]
     exact Ord.setBf (w:=V.drew) i1 i _ hi64
    ·exact set_keep (A:=V.drew) i2 (by dsimp only;omega)
    ·exact set_keep (A:=V.drew) i3 (by dsimp only;omega)
    ·exact(i5.drew).setCell (.inr rfl) _
    ·exact set_keep (A:=V.drew) i6 (by dsimp only;omega)
   case done2=>
    rintro V ⟨i1,i2,i3,i5,i6⟩ ht hD2
    clear ht hE1 hb1 hTW cl
    go_wp2
    refine bodyPostM_ret (base:=w.heap.size) (Marks.cons (Marks.cons trivial (by omega) (by first | exact i6 | (rw [← hs0];exact i6)) (by simp)) (by omega) (by first | exact hD2 | (rw [← hs1];exact hD2)) (by simp;omega)) (fun w'=>results_tmp rfl _ _ _) ?_
    intro w' h1 _
    exact⟨rfl,i5.after h1 (fun b' h2 h3=>by have:=h3.1;omega),i1.keep h1 (Shut.not i1 rfl)⟩
   case stop2=>exact fun _ _ _ _ _ _ h=>h.elim
  case stop=>exact fun _ _ _ _ _ _ h=>h.elim
end Go.Proofs.YtfdlhlghcbeblaaGreatDoor
