/- Rows of the call's own: the last element taken away, and written over. No program is named. slices.Backward over patterns. pats.Check. -/
import Derived.Test.YtfdlhlghcbeblaaGreatDoorH04
import Derived.Test.YtfdlhlghcbeblaaGreatDoorH03
import Derived.Deep.MidRow
namespace Go.Ab
open Go.RowKit
theorem own_pop{w:World}{base:Nat}{e:TypeId}{sz g n cap:Nat}{xs:List Value}(h:w.ownsRow base e sz (.slice (some ⟨g,0,none⟩) (n+1) cap) (n+1) xs) :
  w.ownsRow base e sz (.slice (some ⟨g,0,none⟩) n cap) n (xs.take (n*sz)):=by
 have hl:=h.1
 rcases h.2 with ⟨q,_⟩ | ⟨g',cap',cur,q,hb,hg,hnc,hcm,hcs,htake⟩
 ·cases q
 ·simp only [Value.slice.injEq,Option.some.injEq,Addr.mk.injEq] at q
  obtain⟨⟨rfl,_,_⟩,_,rfl⟩:=q
  refine⟨by rw [List.length_take,hl,Nat.min_eq_left (Nat.mul_le_mul_right _ (by omega))],.inr ⟨g,cap,cur,rfl,hb,hg,by omega,hcm,hcs,?_⟩⟩
  rw [<-htake,List.take_take,Nat.min_eq_left (Nat.mul_le_mul_right _ (by omega))]
def overL:List Value->Nat->List Value->List Value
 | cur,_,[]=>cur
 | cur,o,v::vs=>overL (cur.set o v) (o+1) vs
theorem overL_length:∀(vs cur:List Value) (o:Nat),(overL cur o vs).length=cur.length
 | [],cur,o=>rfl
 | v::vs,cur,o=>by unfold overL;rw [overL_length vs,List.length_set]
theorem setCells_heap{t:TypeId}{b:Nat}:∀(vs:List Value) (o:Nat) (w:World) (cur:Array Value),w.heap[b]?=some (.cells cur t (0,0))->(w.setCells b o vs).heap[b]?=some (.cells (overL cur.toList o vs).toArray t (0,0))
 | [],o,w,cur,h=>h
 | v::vs,o,w,cur,h=>by
  have h1:(w.setCell ⟨b,o,none⟩ v).heap[b]?=some (.cells (cur.setIfInBounds o v) t (0,0)):=by
   simp only [World.setCell,Array.getElem?_modify,h];simp
  have:=setCells_heap vs (o+1) _ _ h1
  rw [Array.toList_setIfInBounds] at this
  exact this
theorem overL_end:∀(vs pre zs:List Value),vs.length=zs.length->overL (pre++zs) pre.length vs=pre++vs
 | [],pre,zs,h=>by
  obtain rfl:zs=[]:=List.eq_nil_of_length_eq_zero (by simpa using h.symm)
  rfl
 | v::vs,pre,z::zs,h=>by
  unfold overL
  have e:(pre++z::zs).set pre.length v=(pre++[v])++zs:=by
   rw [List.set_append_right _ _ (Nat.le_refl _)];simp
  rw [e]
  have:=overL_end vs (pre++[v]) zs (by simpa using h)
  rw [List.length_append] at this
  simpa using this
theorem overL_take:∀(vs cur:List Value) (o m:Nat),o+vs.length<=m->(overL cur o vs).take m=overL (cur.take m) o vs
 | [],cur,o,m,_=>rfl
 | v::vs,cur,o,m,h=>by
  unfold overL
  rw [overL_take vs _ _ _ (by simp at h;omega)]
  congr 1
  simp only [List.length_cons] at h
  rw [List.take_set]
theorem own_setLast{w:World}{base:Nat}{e:TypeId}{sz g n cap:Nat}{xs zs cs:List Value}(h:w.ownsRow base e sz (.slice (some ⟨g,0,none⟩) (n+1) cap) (n+1) (xs++zs)) (hx:xs.length=n*sz) (hc:cs.length=sz) :
  (w.setCells g (n*sz) cs).ownsRow base e sz (.slice (some ⟨g,0,none⟩) (n+1) cap) (n+1) (xs++cs):=by
 have hl:=h.1
 rcases h.2 with ⟨q,_⟩ | ⟨g',cap',cur,q,hb,hg,hnc,hcm,hcs,htake⟩
 ·cases q
 ·simp only [Value.slice.injEq,Option.some.injEq,Addr.mk.injEq] at q
  obtain⟨⟨rfl,_,_⟩,_,rfl⟩:=q
  have hzs:zs.length=sz:=by
   rw [List.length_append,hx,Nat.add_mul,Nat.one_mul] at hl;omega
  refine⟨by rw [List.length_append,hx,hc,Nat.add_mul,Nat.one_mul],.inr ⟨g,cap,_,rfl,hb,setCells_heap cs _ w cur hg,hnc,hcm,by simp [overL_length,hcs],?_⟩⟩
  have h1:n*sz+cs.length<=(n+1)*sz:=by rw [hc,Nat.add_mul,Nat.one_mul];exact Nat.le_refl _
  rw [show ((overL cur.toList (n*sz) cs).toArray.toList)=overL cur.toList (n*sz) cs from rfl,overL_take _ _ _ _ h1,htake,<-hx]
  exact overL_end cs xs zs (by omega)
theorem Turn.setCells(A:World)(b:Nat):∀(vs:List Value) (o:Nat),Turn (·=b) A (A.setCells b o vs)
 | [],_=>Turn.refl _ _
 | v::vs,o=>(Turn.set1 A b o v).trans (Turn.setCells (A.setCell ⟨b,o,none⟩ v) b vs (o+1))
theorem own_there{w:World}{base:Nat}{e:TypeId}{sz g n cap:Nat}{xs:List Value}(h:w.ownsRow base e sz (.slice (some ⟨g,0,none⟩) n cap) n xs) {o m:Nat} (ho:o+m<=n*sz):w.there g o m:=fun j hj=>by
 have h1:=h.cellAt (o+j) (by omega)
 have h2:=h.frozenAt (o+j)
 have:(o+j)<xs.length:=by rw [h.1];omega
 rw [List.getElem?_eq_getElem this] at h1
 exact⟨by rw [h1];rfl,h2⟩
theorem own_range{w:World}{base:Nat}{e:TypeId}{sz g n cap:Nat}{xs:List Value}(h:w.ownsRow base e sz (.slice (some ⟨g,0,none⟩) n cap) n xs) {o:Nat} {cs:List Value} (hc:∀ j v,cs[j]?=some v->xs[o+j]?=some v):w.rangeAt g o cs:=fun j v hv=>by
 have h0:=hc j v hv
 have hlt:o+j<n*sz:=by rw [<-h.1];exact(List.getElem?_eq_some_iff.1 h0).1
 rw [h.cellAt (o+j) hlt];exact h0
theorem own_addr{w:World}{base:Nat}{e:TypeId}{sz n m cap:Nat}{ao:Option Addr}{xs:List Value}(h:w.ownsRow base e sz (.slice ao (n+1) cap) m xs):∃ g,ao=some ⟨g,0,none⟩:=by
 rcases h.2 with ⟨q,_⟩ | ⟨g,_,_,q,_⟩
 ·cases q
 ·cases q;exact⟨g,rfl⟩
theorem own_cellsAt{w:World}{base:Nat}{e:TypeId}{sz g n m cap:Nat}{xs:List Value}(h:w.ownsRow base e sz (.slice (some ⟨g,0,none⟩) n cap) m xs):∃ cur,w.heap[g]?=some (.cells cur e (0,0)):=by
 rcases h.2 with ⟨q,_⟩ | ⟨_,_,cur,q,_,hg,_⟩
 ·cases q
 ·cases q;exact⟨cur,hg⟩
theorem append_oper{P:Program}{w:World}{o:Oper}{a:Act}{K:Act->World->Prop}{Q:Exit->Act->World->Prop}(s x:Operand)(t:TypeId)
  (ho:o.op=.call { callee:=.builtin .append,args:=#[s,x],argTypes:=#[t,t] })
  (base:Nat) (e:TypeId) (z:Value) (size bytes:Nat) (ht:P.underlying t=some (.slice e)) (hinfo:(P.info? e).map (fun i=>(i.zero,i.size,i.bytes))=some (some z,size,bytes))
  (hzs:z.cells.size=size) (hsz:0<size)
  (v:Value) (n:Nat) (xs:List Value) (hs:a.eval s=v) (hown:w.ownsRow base e size v n xs)
  (ad:Addr) (m c:Nat) (news:List Value) (hx:a.eval x=.slice (some ad) m c) (hl:news.length=m*size) (hnews:∀ j u,news[j]?=some u->w.cell? (ad.add j)=some u) (h1:∀ u∈news,u.oneCell'=true)
  (h63:n+m<=maxLen) (hbytes:(n+m)*bytes<=140737488355328) (hbase:base<=w.heap.size)
  (h:∀ ao c' w',w'.ownsRow base e size (.slice ao (n+m) c') (n+m) (xs++news)->Turn (fun b=>v.ownBlock=some b) w w'->((Value.slice ao (n+m) c').ownBlock=v.ownBlock\/(Value.slice ao (n+m) c').ownBlock=some w.heap.size)->K (a.put o.dst (.slice ao (n+m) c')) w'):Oper.wp P o a w K Q:=by
 obtain⟨i,hi,hz,hs1,hb1⟩:=info_parts hinfo
 subst hs1
 subst hb1
 obtain⟨v',w',hr,h2,h3,h4⟩:=run_append_own (P:=P) w base t o.type e i z _ _ ht hi hz rfl rfl hzs hsz v n xs hown ad m c news hl hnews h1 h63 hbytes hbase
 have h5:=append_block ht hi hz hsz hown ad m c news hl hnews h1 h63 hbytes hr
 unfold Oper.wp execOp
 simp only [ho,resolve,invoke,builtin,Sem.run_bind,Sem.run_pure,Result.andThen_ok,List.map_toArray,List.map_cons,List.map_nil,hs,hx,hr]
 obtain⟨ao,c',rfl⟩:=own_slice h2
 exact h ao c' w' h2 ((Turn.refl _ w).grown h3 (fun k e=>.inr e)) h5
end Go.Ab
set_option maxRecDepth 100000
set_option maxHeartbeats 4000000
namespace Go.Proofs.YtfdlhlghcbeblaaGreatDoor
open Go.RowKit Go.Ab
attribute [local go_sem] Oper.semAt_some wide_fn wide_depth
def xsB(cs:Nat->List Value):Nat->List (Nat × List Value)
 | 0=>[]
 | k+1=>(k,cs k)::xsB cs k
def CellsOk(w:World)(ao:Option Addr)(K:Nat->Prop)(i:Nat)(c:List Value):Prop:=
 ∃ g off k pl mi nt mn mx xo n cap,ao=some ⟨g,off,none⟩/\K g/\w.rangeAt g (off+i*7) c/\c=patCells k pl mi nt mn mx xo n cap
theorem backward_iter{w:World}{bx N cap:Nat}{ao:Option Addr}{cs:Nat->List Value}{K:Nat->Prop}(hK:K bx)(hb:w.heap[bx]?=some (.cells #[.slice ao N cap] 96 (0,0))) (hN:N<=maxLen) (hel:∀ i,i<N->CellsOk w ao K i (cs i)) :
  Iter Tryz.prog 224 #[.pointer (some ⟨bx,0,none⟩)] (fun x:Nat × List Value=>#[.int .i64 (x.1:Int),.agg x.2.toArray]) (xsB cs N) (fun _=>False) K w:=by
 intro l J Jx W ht hJ hJx hY h0
 unfold maxLen at hN
 have hbW:W.heap[bx]?=some (.cells #[.slice ao N cap] 96 (0,0)):=ht.heap hb (fun h=>h hK)
 have hz0:IntKind.i64.wrap ((N:Int) - 1)=(N:Int) - 1:=IntWalk.i64_in _ (by omega)
 have c0:=cell_of_one hbW
 refine callsIn_wide.1 (callsIn_of_wp (n:=0) Tryz.func224 rfl trivial ?_ rfl)
 simp only [Tryz.ntmps224,List.size_toArray,List.length_cons,List.length_nil,Nat.reduceAdd,Nat.reduceSub,Array.replicate_succ,Array.replicate_zero,List.push_toArray,List.append_toArray,List.nil_append,List.cons_append]
 gi_wp2
 clear hz0 c0
 gi_loopw [3] (fun v3 wr=>∃(c:Nat) (z:Int) (pre:List (Nat × List Value)),c<=N/\z+1=c/\v3=.int .i64 z/\xsB cs N=pre++xsB cs c/\J pre wr/\Turn (fun b=>¬ K b) w wr)
  (fun v3 _=>(intOf v3+1).toNat)
 case atStart=>exact⟨N,(N:Int) - 1,[],Nat.le_refl _,by omega,rfl,rfl,h0,ht⟩
 case round=>
  obtain⟨c,z,pre,hc,hz,rfl,hxs,hJs,htr⟩:=hrel
  cases c with
  | zero=>
   obtain rfl:z=-1:=by omega
   have hfin:J (xsB cs N) wr:=by rw [hxs];simpa [xsB] using hJs
   clear hxs
   gi_wp2
   go_end0
   exact⟨⟨_,rfl⟩,.inl hfin⟩
  | succ k=>
   obtain rfl:z=(k:Int):=by omega
   obtain⟨g,off,qk,pl,mi,nt,mn,mx,xo,n',cap',rfl,hKg,hra,hcs⟩:=hel k (by omega)
   have hra2:=rangeAt_turn htr hra (fun h=>h hKg)
   obtain⟨c0,c1,c2,c3,c4,c5,c6⟩:=patCells_at hra2 hcs
   have hb2:wr.heap[bx]?=some (.cells #[.slice (some ⟨g,off,none⟩) N cap] 96 (0,0)):=htr.heap hb (fun h=>h hK)
   have cb:=cell_of_one hb2
   have hx2:xsB cs N=pre++(k,cs k)::xsB cs k:=hxs
   obtain⟨fn,tmps,assign,body,hy,hR⟩:=hY pre _ _ wr hx2 hJs
   rw [hcs] at hy
   unfold patCells at hy
   dsimp only at hy
   have h1:(k:Int)<(N:Int):=by omega
   have h2:(0:Int)<=(k:Int):=by omega
   have HX:=Lib.hid hx2;have HT:=Lib.hid htr;have HR:=Lib.hid hR;have HN:=Lib.hid hN;have HCS:=Lib.hid hcs
   clear hx2 hxs htr hR hz hra hra2 hcs hel
   gi_wp2
   refine HR.out.mono ?_
   rintro e W3 (⟨rfl,hJ3,hk3⟩ | ⟨rfl,hJx3⟩)
   ·have ht3:=HT.out.trans hk3
    clear hy hJs c0 c1 c2 c3 c4 c5 c6 cb
    gi_wp2
    go_roundw
    case rel=>exact⟨k,(k:Int) - 1,pre++[(k,cs k)],by omega,by omega,by first | rfl | go_num,by rw [HX.out];simp,hJ3,ht3⟩
    case measure=>first | (simp [intOf];done) | (simp [intOf];omega)
   ·clear hy
    gi_wp2
    refine bodyPost_ret (results_none rfl _ _ _) rfl ?_
    exact⟨⟨_,rfl⟩,.inr ⟨pre,_,_,HX.out,hJx3⟩⟩
theorem backward_any(ao:Option Addr)(N cap:Nat)(w:World) :
  Calls Tryz.prog 197 #[.slice ao N cap] w fun e w'=>e=.returned (.func (.func 224) #[] #[.pointer (some ⟨w.heap.size,0,none⟩)])/\w'=w.alloc (.cells #[.slice ao N cap] 96):=by
 go_enter Tryz.func197,Tryz.ntmps197
 go_wp2
 go_ret
 exact⟨rfl,rfl⟩
end Go.Proofs.YtfdlhlghcbeblaaGreatDoor
set_option maxRecDepth 100000
set_option maxHeartbeats 8000000
namespace Go.Proofs.YtfdlhlghcbeblaaGreatDoor
open Go.RowKit Go.Ab
attribute [local go_sem] Oper.semAt_some wide_fn wide_depth
theorem Tryz.infoPat:(Tryz.prog.info? 98).map (fun i=>(i.zero,i.size,i.bytes))=some (some (.agg #[.int .i64 0,.int .u32 0,.int .u32 0,.bool false,.int .i64 0,.int .i64 0,.slice none 0 0]),7,64):=by kernel_rfl
theorem patCells_one{k:Int}{pl mi:Nat}{nt:Bool}{mn mx:Int}{ao:Option Addr}{n cap:Nat}:∀ v∈patCells k pl mi nt mn mx ao n cap,v.oneCell'=true:=by
 intro v hv
 simp only [patCells,List.mem_cons,List.not_mem_nil,or_false] at hv
 rcases hv with rfl | rfl | rfl | rfl | rfl | rfl | rfl <;> rfl
def Stk(K:Nat->Prop)(W:World)(ps:List Pat)(xs:List Value):Prop:=
 xs.length=ps.length*7/\∀ i (h:i<ps.length),∃ c,c.length=7/\(∀ j v,c[j]?=some v->xs[i*7+j]?=some v)/\PatAt K W ps[i] c
theorem Stk.nil(K:Nat->Prop)(W:World):Stk K W [] []:=⟨rfl,fun i h=>by simp at h⟩
theorem Stk.ext{K:Nat->Prop}{A B:World}{ps:List Pat}{xs:List Value}(h:Stk K A ps xs){S:Nat->Prop}(ht:Turn S A B)(hS:∀ g,K g->¬ S g):Stk K B ps xs:=
 ⟨h.1,fun i hi=>by obtain⟨c,h1,h2,h3⟩:=h.2 i hi;exact⟨c,h1,h2,h3.keep ht hS⟩⟩
theorem Stk.push{K:Nat->Prop}{W:World}{ps:List Pat}{xs:List Value}(h:Stk K W ps xs){p:Pat}{c:List Value}(hc:c.length=7)(hp:PatAt K W p c):Stk K W (ps++[p]) (xs++c):=by
 refine⟨by rw [List.length_append,h.1,hc,List.length_append];simp;omega,fun i hi=>?_⟩
 by_cases hip:i<ps.length
 ·obtain⟨d,h1,h2,h3⟩:=h.2 i hip
  refine⟨d,h1,fun j v hj=>?_,by rw [List.getElem_append_left hip];exact h3⟩
  have:=h2 j v hj
  rw [List.getElem?_append_left (List.getElem?_eq_some_iff.1 this).1];exact this
 ·have hie:i=ps.length:=by simp at hi;omega
  subst hie
  refine⟨c,hc,fun j v hj=>?_,?_⟩
  ·rw [List.getElem?_append_right (by rw [h.1];omega),h.1]
   rw [show ps.length*7+j - ps.length*7=j by omega];exact hj
  ·have e:(ps++[p])[ps.length]'hi=p:=by simp
   rw [e];exact hp
theorem Stk.pop{K:Nat->Prop}{W:World}{ps:List Pat}{p:Pat}{xs:List Value}(h:Stk K W (ps++[p]) xs) :
  Stk K W ps (xs.take (ps.length*7))/\∃ c,c.length=7/\(∀ j v,c[j]?=some v->xs[ps.length*7+j]?=some v)/\PatAt K W p c:=by
 have hl:=h.1
 simp only [List.length_append,List.length_singleton] at hl
 refine⟨⟨by rw [List.length_take,hl];omega,fun i hi=>?_⟩,?_⟩
 ·obtain⟨d,h1,h2,h3⟩:=h.2 i (by simp;omega)
  refine⟨d,h1,fun j v hj=>?_,by rw [List.getElem_append_left hi] at h3;exact h3⟩
  have hj7:j<7:=by rw [<-h1];exact(List.getElem?_eq_some_iff.1 hj).1
  rw [List.getElem?_take,if_pos (by omega)]
  exact h2 j v hj
 ·obtain⟨d,h1,h2,h3⟩:=h.2 ps.length (by simp)
  refine⟨d,h1,h2,?_⟩
  have e:(ps++[p])[ps.length]'(by simp)=p:=by simp
  rwa [e] at h3
theorem patAt_cells{K:Nat->Prop}{W:World}{p:Pat}{c:List Value}(h:PatAt K W p c):∃ ao cap,c=patCells p.k p.pl p.mi p.nt p.mn p.mx ao p.l.length cap/\p.l.length<=cap/\cap<=maxLen/\PatsAt K W p.l ao 0:=by
 obtain⟨k,pl,mi,nt,mn,mx,l⟩:=p
 unfold PatAt at h
 obtain⟨ao,cap,h1,_,_,h4,h5,h6⟩:=h
 exact⟨ao,cap,h1,h4,h5,h6⟩
theorem xsB_map{α:Type}(cs:Nat->List Value)(f:Nat->α):∀ n,(xsB cs n).map (fun x=>f x.1)=((List.range n).map f).reverse
 | 0=>rfl
 | n+1=>by rw [List.range_succ,List.map_append,List.reverse_append];show f n::_=_;rw [xsB_map cs f n];rfl
theorem range_getD{α:Type}(l:List α)(d:α)(n:Nat)(h:n<=l.length):(List.range n).map (fun i=>l.getD i d)=l.take n:=by
 apply List.ext_getElem
 ·simp [Nat.min_eq_left h]
 ·intro i h1 h2
  have:i<l.length:=by simp at h2;omega
  simp [List.getD_eq_getElem?_getD,List.getElem?_eq_getElem this]
theorem xsB_mem{cs:Nat->List Value}:∀ {n:Nat} {x:Nat × List Value},x∈xsB cs n->x.1<n/\x.2=cs x.1
 | 0,x,h=>by cases h
 | n+1,x,h=>by
  rcases List.mem_cons.1 h with rfl | h
  ·exact⟨Nat.lt_succ_self _,rfl⟩
  ·have:=xsB_mem h;exact⟨Nat.lt_succ_of_lt this.1,this.2⟩
theorem xsB_length(cs:Nat->List Value):∀ n,(xsB cs n).length=n
 | 0=>rfl
 | n+1=>by show (xsB cs n).length+1=_;rw [xsB_length cs n]
theorem check_any{K:Nat->Prop}{w:World}{p:Pat}{cs:List Value}(hp:PatAt K w p cs)(hK:∀ g,K g->g<w.heap.size)(_hT:Tab w) :
  Calls Tryz.prog 172 #[.agg cs.toArray] w fun e w'=>e=.returned (.int .i64 (chkP p))/\Ext w w':=by
 have hp0:=hp
 obtain⟨ao,cap,rfl,hlc,hcm,_⟩:=patAt_cells hp
 obtain⟨pk,hpk⟩:∃ x,p.k=x:=⟨_,rfl⟩
 obtain⟨ppl,hppl⟩:∃ x,p.pl=x:=⟨_,rfl⟩
 obtain⟨pmi,hpmi⟩:∃ x,p.mi=x:=⟨_,rfl⟩
 obtain⟨pnt,hpnt⟩:∃ x,p.nt=x:=⟨_,rfl⟩
 obtain⟨pmn,hpmn⟩:∃ x,p.mn=x:=⟨_,rfl⟩
 obtain⟨pmx,hpmx⟩:∃ x,p.mx=x:=⟨_,rfl⟩
 obtain⟨pN,hpN⟩:∃ x,p.l.length=x:=⟨_,rfl⟩
 rw [hpk,hppl,hpmi,hpnt,hpmn,hpmx,hpN] at hp0 ⊢
 have HP0:=Lib.hid hp0
 unfold patCells
 clear hp hp0 hpk hppl hpmi hpnt hpmn hpmx hpN hlc hcm
 refine calls_of_wp_marks Tryz.func172 rfl ?_
 simp only [Tryz.ntmps172,List.size_toArray,List.length_cons,List.length_nil,Nat.reduceAdd,Nat.reduceSub,Array.replicate_succ,Array.replicate_zero,List.push_toArray,List.append_toArray,List.nil_append,List.cons_append]
 obtain⟨B,hB⟩:∃ B,w.heap.size=B:=⟨_,rfl⟩
 have HB:=Lib.hid hB
 clear hB
 go_wp2
 have hB:=HB.out
 have hSt0:Stk (·<B) w [p] (patCells pk ppl pmi pnt pmn pmx ao pN cap):=by
  subst hB
  have:=(Stk.nil (·<w.heap.size) w).push (c:=patCells pk ppl pmi pnt pmn pmx ao pN cap) rfl (HP0.out.mono (fun g h=>hK g h))
  simpa using this
 have hrow0:(((w.alloc (.cells (patCells pk ppl pmi pnt pmn pmx ao pN cap).toArray 98)).alloc (.cells (patCells pk ppl pmi pnt pmn pmx ao pN cap).toArray 98)).alloc (.cells #[.slice (some ⟨w.heap.size+1,0,none⟩) 1 1] 96)).ownsRow B 98 7 (.slice (some ⟨B+1,0,none⟩) 1 1) 1 (patCells pk ppl pmi pnt pmn pmx ao pN cap):=by
  subst hB
  exact⟨rfl,.inr ⟨_,_,_,rfl,by omega,new_keep (new_at (by simp)),by omega,by decide,rfl,rfl⟩⟩
 have hL0:(((w.alloc (.cells (patCells pk ppl pmi pnt pmn pmx ao pN cap).toArray 98)).alloc (.cells (patCells pk ppl pmi pnt pmn pmx ao pN cap).toArray 98)).alloc (.cells #[.slice (some ⟨w.heap.size+1,0,none⟩) 1 1] 96)).heap[B+2]?=some (.cells #[.slice (some ⟨B+1,0,none⟩) 1 1] 96 (0,0)):=by
  subst hB
  exact new_at (by simp)
 have hE0:Ext w (((w.alloc (.cells (patCells pk ppl pmi pnt pmn pmx ao pN cap).toArray 98)).alloc (.cells (patCells pk ppl pmi pnt pmn pmx ao pN cap).toArray 98)).alloc (.cells #[.slice (some ⟨w.heap.size+1,0,none⟩) 1 1] 96)):=(((Turn.refl _ _).alloc _).alloc _).alloc _
 unfold patCells at hrow0 hL0 hE0
 generalize (((w.alloc (.cells [.int .i64 pk,.int .u32 (ppl:Int),.int .u32 (pmi:Int),.bool pnt,.int .i64 pmn,.int .i64 pmx,.slice ao pN cap].toArray 98)).alloc (.cells [.int .i64 pk,.int .u32 (ppl:Int),.int .u32 (pmi:Int),.bool pnt,.int .i64 pmn,.int .i64 pmx,.slice ao pN cap].toArray 98)).alloc (.cells #[.slice (some ⟨w.heap.size+1,0,none⟩) 1 1] 96))=w1 at hrow0 hL0 hE0 ⊢
 rw [hB]
 clear hB
 refine wp_loop (fun a W=>∃(nn:Nat) (ps:List Pat) (g cap:Nat) (xs:List Value) (ds:List Deferred),nn<=40/\a.defers=ds/\(a.tmps.size=52/\a.tmps.getD 3 undef=.pointer (some ⟨B+2,0,none⟩)/\a.tmps.getD 4 undef=.int .i64 nn)/\Marks B ds W /\
   W.heap[B+2]?=some (.cells #[.slice (some ⟨g,0,none⟩) ps.length cap] 96 (0,0))/\W.ownsRow B 98 7 (.slice (some ⟨g,0,none⟩) ps.length cap) ps.length xs/\g≠B+2/\Stk (·<B) W ps xs /\
   chk (40 - nn) ps.reverse=chkP p/\Ext w W/\ps.length<=41*nn+1)
  (fun a _=>40 - (intOf (a.tmps.getD 4 undef)).toNat) ?_ ?_
 ·exact⟨0,[p],B+1,1,_,[],by omega,rfl,⟨rfl,rfl,rfl⟩,trivial,hL0,hrow0,by omega,hSt0.ext hE0 (fun _ _ h=>h),rfl,hE0,by simp⟩
 clear hL0 hrow0 hSt0 hE0 HP0
 rintro⟨t,ds⟩ W ⟨nn,ps,g,cap,xs,dz,hnn,hds,⟨hsz,f3,f4⟩,hM,hL,hO,hg,hS,hchk,hE,hpl⟩
 subst hds
 obtain⟨u',hu⟩:=frame_fun hsz
 obtain⟨u,rfl⟩:∃ x,x=u':=⟨_,rfl⟩
 have hu':t=#[u 0,u 1,u 2,u 3,u 4,u 5,u 6,u 7,u 8,u 9,u 10,u 11,u 12,u 13,u 14,u 15,u 16,u 17,u 18,u 19,u 20,u 21,u 22,u 23,u 24,u 25,u 26,u 27,u 28,u 29,u 30,u 31,u 32,u 33,u 34,u 35,u 36,u 37,u 38,u 39,u 40,u 41,u 42,u 43,u 44,u 45,u 46,u 47,u 48,u 49,u 50,u 51]:=hu
 clear hu
 subst hu'
 change u 3=_ at f3
 change u 4=_ at f4
 rw [f3,f4]
 clear f3 f4 hsz
 have cL:=cell_of_one hL
 have HC:=Lib.hid hchk
 clear hchk
 rcases List.eq_nil_or_concat ps with rfl | ⟨qs,q,hq⟩
 ·have hz:chkP p=0:=by
   rw [<-HC.out]
   cases 40 - nn <;> rfl
  rw [hz]
  clear hO hS hL
  go_wp2
  refine bodyPostM_ret hM (fun w'=>results_tmp rfl _ _ _) ?_
  intro w' h1 _
  exact⟨rfl,hE.after h1 fun b' h2 h3=>by have:=h3.1;have:=HB.out;omega⟩
 ·rw [List.concat_eq_append] at hq
  subst hq
  have hpop:=hS.pop
  obtain⟨hS1,c,hc7,hcx,hqc⟩:=hpop
  obtain⟨M,hMq⟩:∃ M,qs.length=M:=⟨_,rfl⟩
  have hlen:(qs++[q]).length=M+1:=by rw [List.length_append,hMq];rfl
  rw [hlen] at hO hL hpl cL
  rw [hMq] at hS1 hcx
  clear hlen hS
  by_cases hn40:nn=40
  ·have hz:chkP p=12:=by
    rw [<-HC.out,hn40,List.reverse_append];rfl
   subst hn40
   have HZ:=Lib.hid hz
   have h1:(0:Int)<((M+1:Nat):Int):=by omega
   clear hO hL hcx hc7 hqc hS1 hz
   go_wp2
   refine bodyPostM_ret hM (fun w'=>results_tmp rfl _ _ _) ?_
   intro w' h1 _
   exact⟨ret_int HZ.out.symm,hE.after h1 fun b' h2 h3=>by have:=h3.1;have:=HB.out;omega⟩
  ·obtain⟨qo,qcap,hcq,hqlc,hqcm,hqs⟩:=patAt_cells hqc
   have hO1:=own_pop hO
   have hra:=own_range hO (o:=M*7) hcx
   obtain⟨c0,c1,c2,c3,c4,c5,c6⟩:=patCells_at hra hcq
   have hal:=fun V=>allowed_any hqc V
   rw [hcq] at hal
   unfold patCells at hal
   have hchk2:(if nodeE q=0 then chk (39 - nn) (q.l++qs.reverse) else nodeE q)=chkP p:=by
    rw [<-HC.out,List.reverse_append,show 40 - nn=(39 - nn)+1 by omega];rfl
   have HC2:=Lib.hid hchk2;have HQL:=Lib.hid hqlc;have HQC:=Lib.hid hqc;have HAL:=Lib.hid hal;have HCX:=Lib.hid hcx;have HCQ:=Lib.hid hcq;have HQS:=Lib.hid hqs
   obtain⟨qk,hqk⟩:∃ x,q.k=x:=⟨_,rfl⟩
   obtain⟨qpl,hqpl⟩:∃ x,q.pl=x:=⟨_,rfl⟩
   obtain⟨qmi,hqmi⟩:∃ x,q.mi=x:=⟨_,rfl⟩
   obtain⟨qnt,hqnt⟩:∃ x,q.nt=x:=⟨_,rfl⟩
   obtain⟨qmn,hqmn⟩:∃ x,q.mn=x:=⟨_,rfl⟩
   obtain⟨qmx,hqmx⟩:∃ x,q.mx=x:=⟨_,rfl⟩
   obtain⟨qN,hqN⟩:∃ x,q.l.length=x:=⟨_,rfl⟩
   rw [hqk,hqpl,hqmi,hqnt,hqmn,hqmx,hqN] at HAL
   rw [hqk] at c0
   rw [hqpl] at c1
   rw [hqmi] at c2
   rw [hqnt] at c3
   rw [hqmn] at c4
   rw [hqmx] at c5
   rw [hqN] at c6 HQL
   have HQN:=Lib.hid hqN
   have h1:(0:Int)<((M+1:Nat):Int):=by omega
   have h2:¬ (nn:Int)=40:=by omega
   have h4:(M:Int)<((M+1:Nat):Int):=by omega
   have h5:M<=cap:=by
    rcases hO.2 with ⟨e,_⟩ | ⟨_,_,_,e,_,_,hnc,_⟩
    ·cases e
    ·cases e;omega
   have hgW:g<W.heap.size:=(hO.lt _ rfl).2
   clear hchk2 hqlc hqc hal hcx hcq hqs hqk hqpl hqmi hqnt hqmn hqmx hqN hc7 hra
   have HO:=Lib.hid hO;have HO1:=Lib.hid hO1;have HL:=Lib.hid hL;have hL':=hL
   clear hO hO1 hL
   have hLW:B+2<W.heap.size:=(Array.getElem?_eq_some_iff.1 HL.out).1
   have fL:=free_of_one hL'
   clear hL'
   have hMl:=hM.lt
   have hpc:(#[.int .i64 qk,.int .u32 (qpl:Int),.int .u32 (qmi:Int),.bool qnt,.int .i64 qmn,.int .i64 qmx,.slice qo qN qcap]:Array Value).size=7:=rfl
   go_wp2_with fail
   have hTx:Turn (·=B+2) W ((W.setCell ⟨B+2,0,none⟩ (.slice (some ⟨g,0,none⟩) M cap)).alloc (.cells #[.int .i64 qk,.int .u32 (qpl:Int),.int .u32 (qmi:Int),.bool qnt,.int .i64 qmn,.int .i64 qmx,.slice qo qN qcap] 98)):=((Turn.refl (·=B+2) W).setCell (p:=⟨B+2,0,none⟩) (.inr rfl) _).alloc _
   have hLx:((W.setCell ⟨B+2,0,none⟩ (.slice (some ⟨g,0,none⟩) M cap)).alloc (.cells #[.int .i64 qk,.int .u32 (qpl:Int),.int .u32 (qmi:Int),.bool qnt,.int .i64 qmn,.int .i64 qmx,.slice qo qN qcap] 98)).heap[B+2]?=some (.cells #[.slice (some ⟨g,0,none⟩) M cap] 96 (0,0)):=by
    have h0:(W.setCell ⟨B+2,0,none⟩ (.slice (some ⟨g,0,none⟩) M cap)).heap[B+2]?=some (.cells #[.slice (some ⟨g,0,none⟩) M cap] 96 (0,0)):=by
     simp only [World.setCell,Array.getElem?_modify,HL.out]
     simp
    exact new_keep h0
   have hXx:((W.setCell ⟨B+2,0,none⟩ (.slice (some ⟨g,0,none⟩) M cap)).alloc (.cells #[.int .i64 qk,.int .u32 (qpl:Int),.int .u32 (qmi:Int),.bool qnt,.int .i64 qmn,.int .i64 qmx,.slice qo qN qcap] 98)).heap[W.heap.size]?=some (.cells #[.int .i64 qk,.int .u32 (qpl:Int),.int .u32 (qmi:Int),.bool qnt,.int .i64 qmn,.int .i64 qmx,.slice qo qN qcap] 98 (0,0)):=new_at (by simp)
   refine(HAL.out _).mono ?_
   rintro e W2 ⟨rfl,hE2⟩
   have hT2:=hTx.after hE2 (fun _ _ h=>h.elim)
   have hL2:=hE2.keep hLx
   have hX2:=hE2.keep hXx
   have hO2:=own_keep HO1.out hT2 (fun b hb e=>by cases hb;exact hg e)
   have hS2:=hS1.ext hT2 (fun b hb e=>by omega)
   have hQ2:=HQS.out.keep hT2 (fun b hb e=>by omega)
   have hM2:=hM.keepC hMl hT2 (fun b e=>.inr (.inr ⟨_,e ▸ HL.out,rfl⟩))
   have hE3:Ext w W2:=hE.after hT2 (fun b h1 h2=>by have:=HB.out;omega)
   have hXl:W.heap.size<W2.heap.size:=(Array.getElem?_eq_some_iff.1 hX2).1
   generalize W.heap.size=X at hX2 hXl hMl hgW hLW ⊢
   clear hTx hLx hXx hE2 hT2 HO HO1 HL cL c0 c1 c2 c3 c4 c5 c6 hS1 HQS hM hE h1 h2 h4 hMl hgW hLW hpc HQC HCX HCQ HC HAL
   obtain⟨z,hz⟩:∃ z,nodeE q=z:=⟨_,rfl⟩
   have HZ:=Lib.hid hz
   rw [hz] at HC2 ⊢
   clear hz
   by_cases hz0:z=0
   ·rw [if_pos hz0] at HC2
    subst hz0
    have hk2:qN<=qcap:=HQL.out
    have cX:W2.cell? ⟨X,6,none⟩=some (.slice qo qN qcap):=by simp [World.cell?,hX2]
    unfold maxLen at hqcm
    go_wp2_with fail
    case' inl=>(generalize h41:(41:Nat)=T;have hT1:T<=q.l.length:=(by rw [HQN.out];omega);have hT2:q.l.take T=q.l.take 41:=(by rw [h41]))
    case' inr=>(have hq41:qN<=41:=(by omega);generalize h41:qN=T;have hT1:T<=q.l.length:=(by rw [HQN.out];omega);have hT2:q.l.take T=q.l.take 41:=(by rw [List.take_of_length_le (by rw [HQN.out];omega),List.take_of_length_le (by rw [HQN.out];omega)]))
    all_goals
     have hT3:T<=41:=by omega
     refine(backward_any qo T qcap W2).mono ?_
     rintro e W3 ⟨rfl,hW3⟩
     obtain⟨bx,hbx⟩:∃ bx,W2.heap.size=bx:=⟨_,rfl⟩
     have hE2:Ext W2 W3:=by rw [hW3];exact(Turn.refl _ _).alloc _
     have hb3:W3.heap[bx]?=some (.cells #[.slice qo T qcap] 96 (0,0)):=by rw [hW3];exact new_at hbx.symm
     have hs3:W3.heap.size=bx+1:=by rw [hW3,<-hbx];simp
     have hL3:=hE2.keep hL2
     have hO3:=own_ext hO2 hE2
     have hS3:=hS2.ext hE2 (fun _ _ h=>h)
     have hQ3:=hQ2.ext hE2
     have hM3:=hM2.keepC (N:=bx) (fun e he r hr=>by have:=hM2.lt e he r hr;omega) hE2 (fun _ h=>h.elim)
     have hE4:Ext w W3:=hE3.trans hE2
     have hMl3:∀ e∈ds,∀ r,e.target=.collected r->r<bx:=fun e he r hr=>by have:=hM2.lt e he r hr;omega
     have hg3:g<bx:=by rw [<-hbx];exact(hO2.lt _ rfl).2
     have hLb:B+2<bx:=by rw [<-hbx];exact(Array.getElem?_eq_some_iff.1 hL2).1
     rw [hbx]
     clear hbx hW3 hL2 hO2 hS2 hQ2 hM2 hE3 hE2 hX2 hXl cX fL hk2 h41
     have hex:∀ i,∃ c,i<T->(CellsOk W3 qo (fun b=>b=bx\/b<B) i c/\PatAt (·<B) W3 (q.l.getD i q) c):=by
      intro i
      by_cases hi:i<T
      ·obtain⟨g',off,c,h1,h2,h3,h4,h5⟩:=hQ3.get i (by omega)
       obtain⟨o',cap',h6,_⟩:=patAt_cells h5
       refine⟨c,fun _=>⟨⟨g',off,_,_,_,_,_,_,_,_,_,h1,.inr h2,by rw [Nat.zero_add] at h4;exact h4,h6⟩,?_⟩⟩
       rw [List.getD_eq_getElem?_getD,List.getElem?_eq_getElem (by omega),Option.getD_some];exact h5
      ·exact⟨[],fun h=>(hi h).elim⟩
     obtain⟨cs,hcs⟩:=Classical.axiomOfChoice hex
     go_wp2
     refine wp_range2 (xs:=xsB cs T) (S:=fun _=>False) (K:=fun b=>b=bx\/b<B) rfl (enters_of Tryz.func224 (by kernel_rfl) rfl)
      (backward_iter (.inl rfl) hb3 (by unfold maxLen;omega) (fun i hi=>(hcs i hi).1)) (fun _ h=>h.elim) (fun b h=>by rcases h with h | h <;> omega) (fun _=>rfl)
      (fun pre V=>∃ g' cap' ys,V.heap[B+2]?=some (.cells #[.slice (some ⟨g',0,none⟩) (M+pre.length) cap'] 96 (0,0))/\V.ownsRow B 98 7 (.slice (some ⟨g',0,none⟩) (M+pre.length) cap') (M+pre.length) ys /\
       g'≠B+2/\g'≠bx/\g'≠bx+1/\g'≠bx+2/\Stk (·<B) V (qs++pre.map (fun x=>q.l.getD x.1 q)) ys/\Ext w V/\Marks B ds V)
      (fun _ _ _=>False) ?hI ?hIx ?h0
      (fun x a' V=>a'.defers=[]/\∃ bq,(a'.tmps.size=52/\a'.tmps.getD 3 undef=.pointer (some ⟨B+2,0,none⟩)/\a'.tmps.getD 9 undef=.pointer (some ⟨bq,0,none⟩))/\bx+3<=bq/\V.heap[bq]?=some (.cells x.2.toArray 98 (0,0))/\∃ g2 n2 c2,V.heap[B+2]?=some (.cells #[.slice (some ⟨g2,0,none⟩) n2 c2] 96 (0,0))/\g2≠bq)
      ?hAx ?assign ?body ?done ?stop
     case hI=>
      rintro pre A C ⟨g',cap',ys,i1,i2,i3,i4,i5,i6,i7,i8,i9⟩ ht0
      have ht:Turn (·=bx+2) A C:=ht0.mono (fun b _ h=>by rcases h with h | h;exact h.elim;omega)
      exact⟨g',cap',ys,ht.heap i1 (by omega),own_keep i2 ht (fun b hb e=>by cases hb;exact i6 e),i3,i4,i5,i6,i7.ext ht (fun b hb e=>by omega),i8.after ht (fun b h1 h2=>by have:=HB.out;omega),i9.keepC hMl3 ht (fun b h=>.inl (by omega))⟩
     case hIx=>exact fun _ _ _ _ h _=>h
     case hAx=>
      rintro x a' A C ⟨e1,bq,e2,e3,e4,g2,n2,c2,e5,e6⟩ ht0
      have ht:Turn (·=bx+2) A C:=ht0.mono (fun b _ h=>by omega)
      exact⟨e1,bq,e2,e3,ht.heap e4 (by omega),g2,n2,c2,ht.heap e5 (by omega),e6⟩
     case h0=>
      intro V hV _
      exact⟨g,cap,_,hV.keep hL3,own_ext hO3 hV,hg,by omega,by omega,by omega,by simpa using hS3.ext hV (fun _ _ h=>h),hE4.trans hV,hM3.keepC hMl3 hV (fun _ h=>h.elim)⟩
     case assign=>
      rintro pre x V Kn hx ⟨g',cap',ys,i1,i2,_⟩ hsz hKn
      have hgl:=(i2.lt _ rfl).2
      obtain⟨hx1,hx2⟩:=xsB_mem hx
      obtain⟨_,_,k1,k2,k3,k4,k5,k6,k7,k8,k9,_,_,_,hx3⟩:=(hcs _ hx1).1
      rw [<-hx2] at hx3
      unfold patCells at hx3
      rw [hx3] at hKn ⊢
      clear hx3 hx2 hx hE4 hM3 hQ3 hS3 hO3 hL3 hb3 hcs hex
      simp only [List.setIfInBounds_toArray,List.set_cons_zero,List.set_cons_succ,List.zip_toArray,List.zip_cons_cons,List.zip_nil_right,List.foldl_toArray,List.foldl_cons,List.foldl_nil]
      gi_wp2
      exact hKn _ _ ((Turn.refl _ _).alloc _) ⟨rfl,V.heap.size,⟨rfl,rfl,rfl⟩,by omega,new_at rfl,g',_,cap',new_keep i1,by omega⟩
     case body=>
      rintro pre x rest ⟨t,dz⟩ V hx hszV ht ⟨g',cap',ys,i1,i2,i3,i4,i5,i6,i7,i8,i9⟩ ⟨hds,bq,⟨hsz,f3,f9⟩,hbq,hXq,g2,n2,c2,hg2,hgq⟩
      have hxm:x∈xsB cs T:=by rw [hx];simp
      obtain⟨hx1,hx2⟩:=xsB_mem hxm
      have hpx:=(hcs _ hx1).2
      obtain⟨_,_,k3,k4,k5,k6,k7,k8,k9,kn,kc,_,_,_,hx3⟩:=(hcs _ hx1).1
      rw [hx3] at hx2 hpx
      have hpV:=hpx.keep ht (fun b hb h=>by rcases h with h | h;exact h (.inr hb);exact h)
      rw [hx2] at hXq
      unfold patCells at hXq
      subst hds
      obtain⟨u',hu⟩:=frame_fun hsz
      obtain⟨u,rfl⟩:∃ x,x=u':=⟨_,rfl⟩
      have hu':t=#[u 0,u 1,u 2,u 3,u 4,u 5,u 6,u 7,u 8,u 9,u 10,u 11,u 12,u 13,u 14,u 15,u 16,u 17,u 18,u 19,u 20,u 21,u 22,u 23,u 24,u 25,u 26,u 27,u 28,u 29,u 30,u 31,u 32,u 33,u 34,u 35,u 36,u 37,u 38,u 39,u 40,u 41,u 42,u 43,u 44,u 45,u 46,u 47,u 48,u 49,u 50,u 51]:=hu
      clear hu
      subst hu'
      change u 3=_ at f3
      change u 9=_ at f9
      rw [f3,f9]
      clear f3 f9 hsz
      have cL:=cell_of_one i1
      have fL:=free_of_one i1
      have hgq':g'≠bq:=by rw [i1] at hg2;cases hg2;exact hgq
      have hBV:B+2<V.heap.size:=(Array.getElem?_eq_some_iff.1 i1).1
      have hqV:bq<V.heap.size:=(Array.getElem?_eq_some_iff.1 hXq).1
      clear hg2 hgq
      have hcc:∀(D:World),D.heap[bq]?=some (.cells #[.int .i64 k3,.int .u32 (k4:Int),.int .u32 (k5:Int),.bool k6,.int .i64 k7,.int .i64 k8,.slice k9 kn kc] 98 (0,0))->D.cell? ⟨bq,0,none⟩=some (.int .i64 k3)/\D.cell? ⟨bq,1,none⟩=some (.int .u32 (k4:Int))/\D.cell? ⟨bq,2,none⟩=some (.int .u32 (k5:Int))/\D.cell? ⟨bq,3,none⟩=some (.bool k6)/\D.cell? ⟨bq,4,none⟩=some (.int .i64 k7)/\D.cell? ⟨bq,5,none⟩=some (.int .i64 k8)/\D.cell? ⟨bq,6,none⟩=some (.slice k9 kn kc):=by
       intro D h0
       simp [World.cell?,h0]
      have HS:=Lib.hid hcc
      have hplen:pre.length<T:=by
       have:=congrArg List.length hx
       rw [xsB_length] at this
       simp at this
       omega
      have I1:=Lib.hid i1;have I2:=Lib.hid i2;have I7:=Lib.hid i7;have I9:=Lib.hid i9;have HPV:=Lib.hid hpV;have HXQ:=Lib.hid hXq;have HX:=Lib.hid hx
      clear i1 i2 i7 i9 hpV hpx hXq hcc hE4 hM3 hQ3 hS3 hO3 hL3 hb3 hcs hex hT2 hx3 hx2 hxm hx ht hx1
      gi_wp2
      refine wpIn_region_held (S:=fun D=>D.cell? ⟨bq,0,none⟩=some (.int .i64 k3)/\D.cell? ⟨bq,1,none⟩=some (.int .u32 (k4:Int))/\D.cell? ⟨bq,2,none⟩=some (.int .u32 (k5:Int))/\D.cell? ⟨bq,3,none⟩=some (.bool k6)/\D.cell? ⟨bq,4,none⟩=some (.int .i64 k7)/\D.cell? ⟨bq,5,none⟩=some (.int .i64 k8)/\D.cell? ⟨bq,6,none⟩=some (.slice k9 kn kc)) (by kernel_rfl) (by kernel_rfl) (by rintro⟨_,_,h⟩;exact h) (HS.out _ HXQ.out) ?_
      intro hS0
      have HSX:=HS.out V.drew HXQ.out
      have hgB:B<=g':=(I2.out.lt _ rfl).1
      refine tkH (i:=1) (d:=47) (v:=?_) rfl (Or.inl ⟨by rfl,?_⟩) hS0 ?_
      rotate_left
      ·intro w hSw;(try dsimp only at hSw);go_simp;try with_reducible rfl
      try simp only [Act.put,pq]
      refine wpAnyH_ready (rs:=[0,3]) (by kernel_rfl) (by simp) ?_
      refine AllReadyH.cons rfl (fun K hK=>?_) (AllReadyH.cons rfl (fun K hK=>?_) AllReadyH.nil)
      ·go_simp
       refine hK.out _ _ HSX (fun hS1=>?_)
       clear hK K
       refine tkH (i:=2) (d:=48) (v:=?_) rfl (Or.inl ⟨by rfl,?_⟩) hS1 ?_
       rotate_left
       ·intro w hSw;(try dsimp only at hSw);go_simp;try with_reducible rfl
       try simp only [Act.put,pq]
       refine wpAnyH_ready (rs:=[3]) (by kernel_rfl) (by simp) ?_
       refine AllReadyH.cons rfl (fun K hK=>?_) AllReadyH.nil
       go_simp
       refine hK.out _ _ (HS.out _ (new_keep HXQ.out)) (fun hS3=>?_)
       clear hK K
       refine wpAnyH_ready (rs:=[4]) (by kernel_rfl) (by simp) ?_
       refine AllReadyH.cons rfl (fun K hK=>?_) AllReadyH.nil
       rw [if_pos (show Region.wanted _ _=true from rfl)]
       refine append_oper (.tmp 46) (.tmp 49) 96 rfl B 98 _ 7 64 Tryz.underlying96 Tryz.infoPat rfl (by decide) (.slice (some ⟨g',0,none⟩) (M+pre.length) cap') _ _ rfl (own_ext I2.out ((Turn.refl _ _).drew.alloc _)) ⟨V.heap.size,0,none⟩ 1 1 _ rfl rfl (new_cells' (by simp)) ?o1 ?o2 ?o3 ?o4 ?o5
       case o1=>
        intro u hu
        simp only [List.mem_cons,List.not_mem_nil,or_false] at hu
        rcases hu with rfl | rfl | rfl | rfl | rfl | rfl | rfl <;> rfl
       case o2=>unfold maxLen;omega
       case o3=>omega
       case o4=>show B<=(V.alloc _).heap.size;rw [World.size_alloc];omega
       case o5=>
        intro ao5 c5 w5 hO5 hT5 hB5
        obtain⟨g5,rfl⟩:=own_addr hO5
        have hg5:g5=g'\/g5=V.heap.size+1:=by
         rcases hB5 with e | e
         ·left;simpa [Value.ownBlock] using e
         ·right;simpa [Value.ownBlock,World.size_alloc] using e
        have hT6:Turn (·=g') V w5:=((Turn.refl (·=g') V).alloc _).drew.trans (hT5.mono (fun b _ e=>by cases e;rfl))
        have hX5:=hT6.heap HXQ.out (fun e=>hgq' e.symm)
        have hL5:=hT6.heap I1.out (fun e=>i3 e.symm)
        have hS7:=I7.out.ext hT6 (fun b hb e=>by omega)
        have hP5:=HPV.out.keep hT6 (fun b hb e=>by omega)
        have hM5:=I9.out.keepC hMl3 hT6 (fun b e=>.inr (.inr (by obtain⟨cur,hc⟩:=own_cellsAt I2.out;exact⟨_,e ▸ hc,rfl⟩)))
        have hE5:Ext w w5:=i8.after hT6 (fun b h1 h2=>by have:=HB.out;omega)
        have hV5:=hT6.size
        clear hT5 hB5
        refine hK.out _ _ (HS.out _ hX5) (fun hS5=>?_)
        clear hK K
        refine tkH (i:=5) (d:=51) (v:=?_) rfl (Or.inl ⟨by rfl,?_⟩) hS5 ?_
        rotate_left
        ·intro w hSw;(try dsimp only at hSw);go_simp;rw [if_pos ⟨by omega,by omega⟩,show ((M:Int)+(pre.length:Int)).toNat=M+pre.length by omega]
        try simp only [Act.put,List.setIfInBounds_toArray]
        refine wpAnyH_ready (rs:=[6,7]) (by kernel_rfl) (by simp) ?_
        have hg6:g5≠B+2:=by omega
        have e9:M+(pre++[x]).length=M+pre.length+1:=by simp;omega
        have cL5:=cell_of_one hL5
        have fL5:=free_of_one hL5
        refine AllReadyH.cons rfl (fun K hK=>?_) (AllReadyH.cons rfl (fun K hK=>?_) AllReadyH.nil)
        ·rw [if_pos (show Region.wanted _ _=true from rfl)]
         refine wp_store_mid 98 (.tmp 51) (.tmp 47) rfl g5 ((M+pre.length)*7) _ rfl rfl (own_there hO5 (by simp;omega)) (by kernel_rfl) (all_oneCell_toArray patCells_one) ?_
         have hT7:=Turn.setCells w5 g5 (patCells k3 k4 k5 k6 k7 k8 k9 kn kc) ((M+pre.length)*7)
         have hO6:=own_setLast (cs:=patCells k3 k4 k5 k6 k7 k8 k9 kn kc) hO5 I2.out.1 rfl
         have hX6:=hT7.heap hX5 (by omega)
         have hL6:=hT7.heap hL5 (by omega)
         have hS8:=(hS7.ext hT7 (fun b hb e=>by omega)).push rfl (hP5.keep hT7 (fun b hb e=>by omega))
         have hM6:=hM5.keepC hMl3 hT7 (fun b e=>.inr (.inr (by obtain⟨cur,hc⟩:=own_cellsAt hO5;exact⟨_,e ▸ hc,rfl⟩)))
         have hE6:Ext w _:=hE5.after hT7 (fun b h1 h2=>by have:=HB.out;omega)
         refine hK.out _ _ (HS.out _ hX6) (fun hS6=>?_)
         clear hK K
         unfold patCells at hT7 hO6 hX6 hL6 hS8 hM6 hE6
         have hT8:Turn (fun b=>b=g'\/b=g5) V _:=(hT6.mono (fun _ _ e=>.inl e)).trans (hT7.mono (fun _ _ e=>.inr e))
         simp only at hT7 hO6 hX6 hL6 hS8 hM6 hE6 hT8 ⊢
         generalize w5.setCells g5 ((M+pre.length)*7) [.int .i64 k3,.int .u32 (k4:Int),.int .u32 (k5:Int),.bool k6,.int .i64 k7,.int .i64 k8,.slice k9 kn kc]=w6 at hT7 hO6 hX6 hL6 hS8 hM6 hE6 hT8 hS6 ⊢
         clear hT7 hS7 hP5 hM5 hE5 hX5 hL5 hO5 hT6 hS5 cL5 fL5
         refine wpAnyH_ready (rs:=[7]) (by kernel_rfl) (by simp) ?_
         refine AllReadyH.cons rfl (fun K hK=>?_) AllReadyH.nil
         have cL6:=cell_of_one hL6
         have fL6:=free_of_one hL6
         go_simp
         have hT9:=Turn.set1 w6 (B+2) 0 (.slice (some ⟨g5,0,none⟩) (M+pre.length+1) c5)
         have hL7:(w6.setCell ⟨B+2,0,none⟩ (.slice (some ⟨g5,0,none⟩) (M+pre.length+1) c5)).heap[B+2]?=some (.cells #[.slice (some ⟨g5,0,none⟩) (M+pre.length+1) c5] 96 (0,0)):=by
          simp only [World.setCell,Array.getElem?_modify,hL6]
          simp
         refine hK.out _ _ (HS.out _ (hT9.heap hX6 (by omega))) (fun hS9=>?_)
         clear hK K
         refine wpAnyH_done (by kernel_rfl) ?_ _
         refine⟨(hT8.mono (fun b _ h=>?_)).trans (hT9.mono (fun b _ h=>?_)),g5,c5,ys++[.int .i64 k3,.int .u32 (k4:Int),.int .u32 (k5:Int),.bool k6,.int .i64 k7,.int .i64 k8,.slice k9 kn kc],?_,?_,hg6,by omega,by omega,by omega,?_,hE6.after hT9 (fun b h1 h2=>by have:=HB.out;omega),hM6.keepC hMl3 hT9 (fun b e=>.inr (.inr ⟨_,e ▸ hL6,rfl⟩))⟩
         ·show ¬ ((b=bx\/b<B)\/b=W3.heap.size\/b=W3.heap.size+1)
          omega
         ·show ¬ ((b=bx\/b<B)\/b=W3.heap.size\/b=W3.heap.size+1)
          omega
         ·rw [e9];exact hL7
         ·rw [e9];exact own_keep hO6 hT9 (fun b hb e=>by cases hb;exact hg6 e)
         ·rw [List.map_append,<-List.append_assoc]
          exact hS8.ext hT9 (fun b hb e=>by omega)
        ·go_simp
         have hT9:=Turn.set1 w5 (B+2) 0 (.slice (some ⟨g5,0,none⟩) (M+pre.length+1) c5)
         have hL7:(w5.setCell ⟨B+2,0,none⟩ (.slice (some ⟨g5,0,none⟩) (M+pre.length+1) c5)).heap[B+2]?=some (.cells #[.slice (some ⟨g5,0,none⟩) (M+pre.length+1) c5] 96 (0,0)):=by
          simp only [World.setCell,Array.getElem?_modify,hL5]
          simp
         have hX7:=hT9.heap hX5 (by omega)
         have hO7:=own_keep hO5 hT9 (fun b hb e=>by cases hb;exact hg6 e)
         have hS8:=hS7.ext hT9 (fun b hb e=>by omega)
         have hP7:=hP5.keep hT9 (fun b hb e=>by omega)
         have hM7:=hM5.keepC hMl3 hT9 (fun b e=>.inr (.inr ⟨_,e ▸ hL5,rfl⟩))
         have hE7:Ext w _:=hE5.after hT9 (fun b h1 h2=>by have:=HB.out;omega)
         have hT8:Turn (fun b=>b=g'\/b=B+2) V _:=(hT6.mono (fun _ _ e=>.inl e)).trans (hT9.mono (fun _ _ e=>.inr e))
         refine hK.out _ _ (HS.out _ hX7) (fun hS6=>?_)
         clear hK K
         generalize w5.setCell ⟨B+2,0,none⟩ (.slice (some ⟨g5,0,none⟩) (M+pre.length+1) c5)=w6 at hT9 hL7 hX7 hO7 hS8 hP7 hM7 hE7 hT8 hS6 ⊢
         clear hT9 hS7 hP5 hM5 hE5 hX5 hL5 hO5 hT6 hS5 cL5 fL5
         refine wpAnyH_ready (rs:=[6]) (by kernel_rfl) (by simp) ?_
         refine AllReadyH.cons rfl (fun K hK=>?_) AllReadyH.nil
         rw [if_pos (show Region.wanted _ _=true from rfl)]
         refine wp_store_mid 98 (.tmp 51) (.tmp 47) rfl g5 ((M+pre.length)*7) _ rfl rfl (own_there hO7 (by simp;omega)) (by kernel_rfl) (all_oneCell_toArray patCells_one) ?_
         have hT7:=Turn.setCells w6 g5 (patCells k3 k4 k5 k6 k7 k8 k9 kn kc) ((M+pre.length)*7)
         have hO6:=own_setLast (cs:=patCells k3 k4 k5 k6 k7 k8 k9 kn kc) hO7 I2.out.1 rfl
         refine hK.out _ _ (HS.out _ (hT7.heap hX7 (by omega))) (fun hS9=>?_)
         clear hK K
         refine wpAnyH_done (by kernel_rfl) ?_ _
         refine⟨(hT8.mono (fun b _ h=>?_)).trans (hT7.mono (fun b _ h=>?_)),g5,c5,ys++patCells k3 k4 k5 k6 k7 k8 k9 kn kc,?_,?_,hg6,by omega,by omega,by omega,?_,hE7.after hT7 (fun b h1 h2=>by have:=HB.out;omega),hM7.keepC hMl3 hT7 (fun b e=>.inr (.inr (by obtain⟨cur,hc⟩:=own_cellsAt hO7;exact⟨_,e ▸ hc,rfl⟩)))⟩
         ·show ¬ ((b=bx\/b<B)\/b=W3.heap.size\/b=W3.heap.size+1)
          omega
         ·show ¬ ((b=bx\/b<B)\/b=W3.heap.size\/b=W3.heap.size+1)
          omega
         ·rw [e9];exact hT7.heap hL7 (fun e=>hg6 e.symm)
         ·rw [e9];exact hO6
         ·rw [List.map_append,<-List.append_assoc]
          exact(hS8.ext hT7 (fun b hb e=>by omega)).push rfl (hP7.keep hT7 (fun b hb e=>by omega))
      ·go_simp
       refine hK.out _ _ (HS.out _ (new_keep HXQ.out)) (fun hS3=>?_)
       clear hK K
       refine wpAnyH_ready (rs:=[0]) (by kernel_rfl) (by simp) ?_
       refine AllReadyH.cons rfl (fun K hK=>?_) AllReadyH.nil
       go_simp
       refine hK.out _ _ hS3 (fun hS1=>?_)
       clear hK K
       refine tkH (i:=2) (d:=48) (v:=?_) rfl (Or.inl ⟨by rfl,?_⟩) hS1 ?_
       rotate_left
       ·intro w hSw;(try dsimp only at hSw);go_simp;try with_reducible rfl
       try simp only [Act.put,pq]
       refine wpAnyH_ready (rs:=[4]) (by kernel_rfl) (by simp) ?_
       refine AllReadyH.cons rfl (fun K hK=>?_) AllReadyH.nil
       rw [if_pos (show Region.wanted _ _=true from rfl)]
       refine append_oper (.tmp 46) (.tmp 49) 96 rfl B 98 _ 7 64 Tryz.underlying96 Tryz.infoPat rfl (by decide) (.slice (some ⟨g',0,none⟩) (M+pre.length) cap') _ _ rfl (own_ext I2.out ((Turn.refl _ _).drew.alloc _)) ⟨V.heap.size,0,none⟩ 1 1 _ rfl rfl (new_cells' (by simp)) ?o1 ?o2 ?o3 ?o4 ?o5
       case o1=>
        intro u hu
        simp only [List.mem_cons,List.not_mem_nil,or_false] at hu
        rcases hu with rfl | rfl | rfl | rfl | rfl | rfl | rfl <;> rfl
       case o2=>unfold maxLen;omega
       case o3=>omega
       case o4=>show B<=(V.alloc _).heap.size;rw [World.size_alloc];omega
       case o5=>
        intro ao5 c5 w5 hO5 hT5 hB5
        obtain⟨g5,rfl⟩:=own_addr hO5
        have hg5:g5=g'\/g5=V.heap.size+1:=by
         rcases hB5 with e | e
         ·left;simpa [Value.ownBlock] using e
         ·right;simpa [Value.ownBlock,World.size_alloc] using e
        have hT6:Turn (·=g') V w5:=((Turn.refl (·=g') V).alloc _).drew.trans (hT5.mono (fun b _ e=>by cases e;rfl))
        have hX5:=hT6.heap HXQ.out (fun e=>hgq' e.symm)
        have hL5:=hT6.heap I1.out (fun e=>i3 e.symm)
        have hS7:=I7.out.ext hT6 (fun b hb e=>by omega)
        have hP5:=HPV.out.keep hT6 (fun b hb e=>by omega)
        have hM5:=I9.out.keepC hMl3 hT6 (fun b e=>.inr (.inr (by obtain⟨cur,hc⟩:=own_cellsAt I2.out;exact⟨_,e ▸ hc,rfl⟩)))
        have hE5:Ext w w5:=i8.after hT6 (fun b h1 h2=>by have:=HB.out;omega)
        have hV5:=hT6.size
        clear hT5 hB5
        refine hK.out _ _ (HS.out _ hX5) (fun hS5=>?_)
        clear hK K
        refine tkH (i:=5) (d:=51) (v:=?_) rfl (Or.inl ⟨by rfl,?_⟩) hS5 ?_
        rotate_left
        ·intro w hSw;(try dsimp only at hSw);go_simp;rw [if_pos ⟨by omega,by omega⟩,show ((M:Int)+(pre.length:Int)).toNat=M+pre.length by omega]
        try simp only [Act.put,List.setIfInBounds_toArray]
        refine wpAnyH_ready (rs:=[6,7]) (by kernel_rfl) (by simp) ?_
        have hg6:g5≠B+2:=by omega
        have e9:M+(pre++[x]).length=M+pre.length+1:=by simp;omega
        have cL5:=cell_of_one hL5
        have fL5:=free_of_one hL5
        refine AllReadyH.cons rfl (fun K hK=>?_) (AllReadyH.cons rfl (fun K hK=>?_) AllReadyH.nil)
        ·rw [if_pos (show Region.wanted _ _=true from rfl)]
         refine wp_store_mid 98 (.tmp 51) (.tmp 47) rfl g5 ((M+pre.length)*7) _ rfl rfl (own_there hO5 (by simp;omega)) (by kernel_rfl) (all_oneCell_toArray patCells_one) ?_
         have hT7:=Turn.setCells w5 g5 (patCells k3 k4 k5 k6 k7 k8 k9 kn kc) ((M+pre.length)*7)
         have hO6:=own_setLast (cs:=patCells k3 k4 k5 k6 k7 k8 k9 kn kc) hO5 I2.out.1 rfl
         have hX6:=hT7.heap hX5 (by omega)
         have hL6:=hT7.heap hL5 (by omega)
         have hS8:=(hS7.ext hT7 (fun b hb e=>by omega)).push rfl (hP5.keep hT7 (fun b hb e=>by omega))
         have hM6:=hM5.keepC hMl3 hT7 (fun b e=>.inr (.inr (by obtain⟨cur,hc⟩:=own_cellsAt hO5;exact⟨_,e ▸ hc,rfl⟩)))
         have hE6:Ext w _:=hE5.after hT7 (fun b h1 h2=>by have:=HB.out;omega)
         refine hK.out _ _ (HS.out _ hX6) (fun hS6=>?_)
         clear hK K
         unfold patCells at hT7 hO6 hX6 hL6 hS8 hM6 hE6
         have hT8:Turn (fun b=>b=g'\/b=g5) V _:=(hT6.mono (fun _ _ e=>.inl e)).trans (hT7.mono (fun _ _ e=>.inr e))
         simp only at hT7 hO6 hX6 hL6 hS8 hM6 hE6 hT8 ⊢
         generalize w5.setCells g5 ((M+pre.length)*7) [.int .i64 k3,.int .u32 (k4:Int),.int .u32 (k5:Int),.bool k6,.int .i64 k7,.int .i64 k8,.slice k9 kn kc]=w6 at hT7 hO6 hX6 hL6 hS8 hM6 hE6 hT8 hS6 ⊢
         clear hT7 hS7 hP5 hM5 hE5 hX5 hL5 hO5 hT6 hS5 cL5 fL5
         refine wpAnyH_ready (rs:=[7]) (by kernel_rfl) (by simp) ?_
         refine AllReadyH.cons rfl (fun K hK=>?_) AllReadyH.nil
         have cL6:=cell_of_one hL6
         have fL6:=free_of_one hL6
         go_simp
         have hT9:=Turn.set1 w6 (B+2) 0 (.slice (some ⟨g5,0,none⟩) (M+pre.length+1) c5)
         have hL7:(w6.setCell ⟨B+2,0,none⟩ (.slice (some ⟨g5,0,none⟩) (M+pre.length+1) c5)).heap[B+2]?=some (.cells #[.slice (some ⟨g5,0,none⟩) (M+pre.length+1) c5] 96 (0,0)):=by
          simp only [World.setCell,Array.getElem?_modify,hL6]
          simp
         refine hK.out _ _ (HS.out _ (hT9.heap hX6 (by omega))) (fun hS9=>?_)
         clear hK K
         refine wpAnyH_done (by kernel_rfl) ?_ _
         refine⟨(hT8.mono (fun b _ h=>?_)).trans (hT9.mono (fun b _ h=>?_)),g5,c5,ys++[.int .i64 k3,.int .u32 (k4:Int),.int .u32 (k5:Int),.bool k6,.int .i64 k7,.int .i64 k8,.slice k9 kn kc],?_,?_,hg6,by omega,by omega,by omega,?_,hE6.after hT9 (fun b h1 h2=>by have:=HB.out;omega),hM6.keepC hMl3 hT9 (fun b e=>.inr (.inr ⟨_,e ▸ hL6,rfl⟩))⟩
         ·show ¬ ((b=bx\/b<B)\/b=W3.heap.size\/b=W3.heap.size+1)
          omega
         ·show ¬ ((b=bx\/b<B)\/b=W3.heap.size\/b=W3.heap.size+1)
          omega
         ·rw [e9];exact hL7
         ·rw [e9];exact own_keep hO6 hT9 (fun b hb e=>by cases hb;exact hg6 e)
         ·rw [List.map_append,<-List.append_assoc]
          exact hS8.ext hT9 (fun b hb e=>by omega)
        ·go_simp
         have hT9:=Turn.set1 w5 (B+2) 0 (.slice (some ⟨g5,0,none⟩) (M+pre.length+1) c5)
         have hL7:(w5.setCell ⟨B+2,0,none⟩ (.slice (some ⟨g5,0,none⟩) (M+pre.length+1) c5)).heap[B+2]?=some (.cells #[.slice (some ⟨g5,0,none⟩) (M+pre.length+1) c5] 96 (0,0)):=by
          simp only [World.setCell,Array.getElem?_modify,hL5]
          simp
         have hX7:=hT9.heap hX5 (by omega)
         have hO7:=own_keep hO5 hT9 (fun b hb e=>by cases hb;exact hg6 e)
         have hS8:=hS7.ext hT9 (fun b hb e=>by omega)
         have hP7:=hP5.keep hT9 (fun b hb e=>by omega)
         have hM7:=hM5.keepC hMl3 hT9 (fun b e=>.inr (.inr ⟨_,e ▸ hL5,rfl⟩))
         have hE7:Ext w _:=hE5.after hT9 (fun b h1 h2=>by have:=HB.out;omega)
         have hT8:Turn (fun b=>b=g'\/b=B+2) V _:=(hT6.mono (fun _ _ e=>.inl e)).trans (hT9.mono (fun _ _ e=>.inr e))
         refine hK.out _ _ (HS.out _ hX7) (fun hS6=>?_)
         clear hK K
         generalize w5.setCell ⟨B+2,0,none⟩ (.slice (some ⟨g5,0,none⟩) (M+pre.length+1) c5)=w6 at hT9 hL7 hX7 hO7 hS8 hP7 hM7 hE7 hT8 hS6 ⊢
         clear hT9 hS7 hP5 hM5 hE5 hX5 hL5 hO5 hT6 hS5 cL5 fL5
         refine wpAnyH_ready (rs:=[6]) (by kernel_rfl) (by simp) ?_
         refine AllReadyH.cons rfl (fun K hK=>?_) AllReadyH.nil
         rw [if_pos (show Region.wanted _ _=true from rfl)]
         refine wp_store_mid 98 (.tmp 51) (.tmp 47) rfl g5 ((M+pre.length)*7) _ rfl rfl (own_there hO7 (by simp;omega)) (by kernel_rfl) (all_oneCell_toArray patCells_one) ?_
         have hT7:=Turn.setCells w6 g5 (patCells k3 k4 k5 k6 k7 k8 k9 kn kc) ((M+pre.length)*7)
         have hO6:=own_setLast (cs:=patCells k3 k4 k5 k6 k7 k8 k9 kn kc) hO7 I2.out.1 rfl
         refine hK.out _ _ (HS.out _ (hT7.heap hX7 (by omega))) (fun hS9=>?_)
         clear hK K
         refine wpAnyH_done (by kernel_rfl) ?_ _
         refine⟨(hT8.mono (fun b _ h=>?_)).trans (hT7.mono (fun b _ h=>?_)),g5,c5,ys++patCells k3 k4 k5 k6 k7 k8 k9 kn kc,?_,?_,hg6,by omega,by omega,by omega,?_,hE7.after hT7 (fun b h1 h2=>by have:=HB.out;omega),hM7.keepC hMl3 hT7 (fun b e=>.inr (.inr (by obtain⟨cur,hc⟩:=own_cellsAt hO7;exact⟨_,e ▸ hc,rfl⟩)))⟩
         ·show ¬ ((b=bx\/b<B)\/b=W3.heap.size\/b=W3.heap.size+1)
          omega
         ·show ¬ ((b=bx\/b<B)\/b=W3.heap.size\/b=W3.heap.size+1)
          omega
         ·rw [e9];exact hT7.heap hL7 (fun e=>hg6 e.symm)
         ·rw [e9];exact hO6
         ·rw [List.map_append,<-List.append_assoc]
          exact(hS8.ext hT7 (fun b hb e=>by omega)).push rfl (hP7.keep hT7 (fun b hb e=>by omega))
     case done=>
      rintro V ⟨g',cap',ys,i1,i2,i3,i4,i5,i6,i7,i8,i9⟩ ht hD
      rw [xsB_length] at i1 i2
      have e1:(xsB cs T).map (fun x=>q.l.getD x.1 q)=(q.l.take T).reverse:=by rw [xsB_map cs (fun i=>q.l.getD i q),range_getD _ _ _ hT1]
      rw [e1] at i7
      have hlen:(qs++(q.l.take T).reverse).length=M+T:=by rw [List.length_append,hMq,List.length_reverse,List.length_take,Nat.min_eq_left hT1]
      have hch:chk (40 - (nn+1)) (qs++(q.l.take T).reverse).reverse=chkP p:=by
       rw [List.reverse_append,List.reverse_reverse,hT2,chk_cut _ _ _ (by omega),<-HC2.out,show 40 - (nn+1)=39 - nn by omega]
      have hm:Marks B ({ target:=.collected W3.heap.size,args:=#[] }::ds) V:=Marks.cons i9 (by omega) hD (fun e he ht=>by have:=hMl3 e he _ ht;omega)
      rw [<-hlen] at i1 i2
      have HCH:=Lib.hid hch;have HM:=Lib.hid hm;have I1:=Lib.hid i1;have I2:=Lib.hid i2;have I7:=Lib.hid i7;have HLEN:=Lib.hid hlen
      clear hch hm i1 i2 i7 hlen e1 hE4 hM3 hQ3 hS3 hO3 hL3 hb3 hcs hex hT2
      go_wp2
      exact⟨⟨nn+1,_,g',cap',ys,_,by omega,rfl,⟨rfl,rfl,by first | rfl | trivial⟩,HM.out,I1.out,I2.out,i3,I7.out,HCH.out,i8,by have:=HLEN.out;omega⟩,by simp [intOf];omega⟩
     case stop=>exact fun _ _ _ _ _ _ h=>h.elim
   ·rw [if_neg hz0] at HC2
    go_wp2
    refine bodyPostM_ret hM2 (fun w'=>results_tmp rfl _ _ _) ?_
    intro w' h1 _
    exact⟨ret_int HC2.out,hE3.after h1 fun b' h2 h3=>by have:=h3.1;have:=HB.out;omega⟩
end Go.Proofs.YtfdlhlghcbeblaaGreatDoor
