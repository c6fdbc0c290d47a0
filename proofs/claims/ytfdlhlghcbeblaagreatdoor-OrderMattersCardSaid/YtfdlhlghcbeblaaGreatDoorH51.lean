/- A range over a function whose rounds turn a few known blocks (T) alone, and whose iterator may end in a panic (fin). No program is named. derive.forms: its iterator (printed by genderi.py). derive.rescue, forms, outcome. derive.outcome: the last form, or a panic. derive.attempt: the outcome, or that there is none. -/
import Derived.Test.YtfdlhlghcbeblaaGreatDoorH50
import Derived.Test.YtfdlhlghcbeblaaGreatDoorH12
import Derived.Test.YtfdlhlghcbeblaaGreatDoorH19
import Derived.Test.YtfdlhlghcbeblaaGreatDoorH29
import Derived.Test.YtfdlhlghcbeblaaGreatDoorH18
import Derived.Test.YtfdlhlghcbeblaaGreatDoorH28
import Derived.Defers
import Derived.Recover
namespace Go.Ab
open Go.RowKit
def IterF{α:Type}(P:Program)(gf:Nat)(lb:Array Value)(M:Nat→Nat→Prop)(E:Nat→α→World→Array Value→Prop)(xs:List α)(fin:Option (List PanicEntry)) (T:Nat→Prop) (C:World→Prop) (w:World):Prop:=
 ∀(l:Nat) (J Jx:List α→World→Prop) (W:World),Turn T w W →
  w.heap.size≤l→(∃ o,W.heap[l]?=some o∧o.isCells=false) →
  (∀ pre A B,J pre A→Turn (fun b=>W.heap.size≤b∧M W.heap.size b) A B→J pre B) →
  (∀ pre A B,Jx pre A→Turn (fun b=>W.heap.size≤b∧M W.heap.size b) A B→Jx pre B) →
  (∀ pre A,J pre A→C A∧∃ o,A.heap[l]?=some o∧o.isCells=false) →
  (∀ pre x rest A ys,xs=pre++x::rest→J pre A→E W.heap.size x A ys→YieldAt Fence.wide 0 P l ys A fun e B=>
   (e=.returned (.bool true)∧J (pre++[x]) B∧Turn (fun b=>T b∨b=l) A B)∨(e=.returned (.bool false)∧Jx (pre++[x]) B∧Turn (fun b=>T b∨b=l) A B)) →
  J [] W →
  Calls P gf (#[.func (.yield l) #[] #[]]++lb) W fun e B=>((∃ v,e=.returned v)∧((fin=none∧J xs B)∨∃ pre x rest,xs=pre++x::rest∧Jx (pre++[x]) B))∨(∃ ch,fin=some ch∧e=.panicked ch∧J xs B)
theorem wp_rangeF{α:Type}{P:Program}{g:Operand}{ps:Array Tmp}{assign body:Code}{Q:Exit→Act→World→Prop}{a:Act}{w:World}
  {gf:Nat} {lb:Array Value} (hg:a.eval g=.func (.func gf) #[] lb) (eg:∀ args w,(callFunc gf args).run P w=.ok (.enter gf args) w)
  {M:Nat→Nat→Prop} {E:Nat→α→World→Array Value→Prop} {xs:List α} {fin:Option (List PanicEntry)} {T:Nat→Prop} {C:World→Prop} (hseq:IterF P gf lb M E xs fin T C w) (hT:∀ b,T b→b<w.heap.size) (hps:∀ n x A ys,E n x A ys→ys.size=ps.size)
  (_hEs:∀ n x A B ys,E n x A ys→Turn (fun b=>b=w.heap.size+1) A B→(∃ o,A.heap[w.heap.size+1]?=some o∧o.isCells=false)→E n x B ys)
  (I:List α→World→Prop) (Ix:Code→List α→World→Prop) (hC:∀ pre A,I pre A→C A)
  (hI:∀ pre A B,I pre A→Turn (fun b=>(w.heap.size+2≤b∧M (w.heap.size+2) b)∨b=w.heap.size+1) A B→(∃ o,A.heap[w.heap.size+1]?=some o∧o.isCells=false)→I pre B)
  (hIx:∀ c pre A B,Ix c pre A→Turn (fun b=>(w.heap.size+2≤b∧M (w.heap.size+2) b)∨b=w.heap.size+1) A B→(∃ o,A.heap[w.heap.size+1]?=some o∧o.isCells=false)→Ix c pre B)
  (h0:∀ W,Ext w W→W.heap.size=w.heap.size+2→I [] W) (up:Array Value→Array Value→Array Value)
  (hassign:∀(n:Nat) (pre:List α) (x:α) (rest:List α) (ys:Array Value) (W:World) (Kn:Act→World→Prop),xs=pre++x::rest→I pre W→E n x W ys→(∀ W',Turn T W W'→I (pre++[x]) W'→Kn { tmps:=up ys a.tmps,defers:=[] } W') →
   assign.wpIn (Fence.wide.inRound (w.heap.size+1)) 0 P (Exit.then Kn (fun _ _ _=>False)) { tmps:=(ps.zip ys).foldl (fun t (p,v)=>t.setIfInBounds p v) a.tmps,defers:=[] } W)
  (hbody:∀(pre:List α) (x:α) (rest:List α) (ys:Array Value) (W:World),xs=pre++x::rest→w.heap.size+2≤W.heap.size→Turn (fun b=>T b∨w.heap.size≤b) w W→I (pre++[x]) W →
   body.wpIn (Fence.wide.inRound (w.heap.size+1)) 0 P (roundQ (fun b=>¬ T b) I (fun c=>Ix c) (pre++[x]) W) { tmps:=up ys a.tmps,defers:=[] } W)
  (hpan:∀ ch W,fin=some ch→I xs W→W.heap[w.heap.size]?=some (.deferred (some []))→w.heap.size+2≤W.heap.size→Q (.panic ch) { a with defers:={ target:=.collected w.heap.size,args:=#[] }::a.defers } W)
  (hdone:fin=none→∀ W,I xs W→W.heap[w.heap.size]?=some (.deferred (some []))→w.heap.size+2≤W.heap.size→Q .normal { a with defers:={ target:=.collected w.heap.size,args:=#[] }::a.defers } W)
  (hstop:∀ c pre x rest W,xs=pre++x::rest→Ix c (pre++[x]) W→W.heap[w.heap.size]?=some (.deferred (some []))→c.wp P Q { a with defers:={ target:=.collected w.heap.size,args:=#[] }::a.defers } W) :
  (Code.rangeFunc g ps assign body).wp P Q a w:=by
 refine(wpIn_wide (n:=0)).1 (wpIn_rangeFunc ?_)
 intro fn _
 obtain⟨rec,hrec⟩:∃ rec:LoopState→Option Code→Loop,rec=fun st pe=>{ state:=st,pending:=pe,fn,tmps:=a.tmps,params:=ps,assign,body,defers:=w.heap.size }:=⟨_,rfl⟩
 obtain⟨W1,hW1⟩:∃ W1,(w.alloc (.deferred (some []))).alloc (.loop (rec .ready none))=W1:=⟨_,rfl⟩
 have hL1:W1.heap[w.heap.size+1]?=some (.loop (rec .ready none)):=by
  rw [← hW1];have:=World.alloc_heap_new (w.alloc (.deferred (some []))) (.loop (rec .ready none));rwa [World.size_alloc] at this
 have hD1:W1.heap[w.heap.size]?=some (.deferred (some [])):=by
  rw [← hW1];exact(Below.heap_alloc _ _ _ (by simp)).trans (World.alloc_heap_new w _)
 have hE1:Ext w W1:=by rw [← hW1];exact((Turn.refl _ w).alloc _).alloc _
 have hs1:W1.heap.size=w.heap.size+2:=by rw [← hW1];simp
 have hTn:∀ b,w.heap.size≤b→¬ T b:=fun b hb ht=>by have:=hT b ht;omega
 have hput:∀(X:World) o,Turn (fun b=>(w.heap.size+2≤b∧M (w.heap.size+2) b)∨b=w.heap.size+1) X (X.putObj (w.heap.size+1) o):=fun X o=>(Turn.refl _ X).putObj (.inr (.inr rfl)) o
 refine⟨w.heap.size+1,[{ target:=.collected w.heap.size,args:=#[] }],W1,{ target:=.fn (.func gf) lb,args:=#[.func (.yield (w.heap.size+1)) #[] #[]] },W1,gf,
  #[.func (.yield (w.heap.size+1)) #[] #[]]++lb,W1,?_,?_,fun _ _=>trivial,?_,fun h=>by simp [Fence.wide] at h,?_⟩
 ·rw [← hW1,hrec];exact run_enterLoop_outer _ _ _ _ _
 ·simp only [resolve,hg]
  simp [go_sem]
 ·simp [invoke,go_sem,eg]
 ·refine callsIn_wide.2 ((hseq (w.heap.size+1)
   (fun pre W=>I pre W∧W.heap[w.heap.size+1]?=some (.loop (rec .ready none))∧W.heap[w.heap.size]?=some (.deferred (some []))∧Turn (fun b=>T b∨w.heap.size≤b) w W∧w.heap.size+2≤W.heap.size)
   (fun pre W=>∃ c,Ix c pre W∧W.heap[w.heap.size+1]?=some (.loop (rec .done (some c)))∧W.heap[w.heap.size]?=some (.deferred (some []))∧w.heap.size+2≤W.heap.size)
   W1 hE1.of (Nat.le_succ _) ⟨_,hL1,rfl⟩ ?_ ?_ ?_ ?_ ⟨h0 _ hE1 hs1,hL1,hD1,hE1.of,by omega⟩).mono ?_)
  ·rintro pre A B ⟨h1,h2,h3,h4,h5⟩ ht
   rw [hs1] at ht
   exact⟨hI _ _ _ h1 (ht.mono fun b _ hb=>.inl hb) ⟨_,h2,rfl⟩,ht.heap h2 (fun hb=>by have:=hb.1;omega),ht.heap h3 (fun hb=>by have:=hb.1;omega),h4.after ht (fun b hlt hb=>by have:=hb.1;omega),Nat.le_trans h5 ht.size⟩
  ·rintro pre A B ⟨c,h1,h2,h3,h5⟩ ht
   rw [hs1] at ht
   exact⟨c,hIx _ _ _ _ h1 (ht.mono fun b _ hb=>.inl hb) ⟨_,h2,rfl⟩,ht.heap h2 (fun hb=>by have:=hb.1;omega),ht.heap h3 (fun hb=>by have:=hb.1;omega),Nat.le_trans h5 ht.size⟩
  ·rintro pre A ⟨h1,h2,_⟩
   exact⟨hC _ _ h1,_,h2,rfl⟩
  ·-- one round
   rintro pre x rest W ys hx ⟨hi,hl,hd,ht,hsz⟩ hen
   rw [hs1] at hen
   have hlt:w.heap.size+1<W.heap.size:=by omega
   have hy:=run_yield (P:=P) (args:=ys) hl (by rw [hrec];exact hps _ x _ _ hen)
   rw [hrec] at hy
   refine⟨fn,_,assign,body,hy,roundIn_of_wpIn trivial (hassign _ pre x rest ys W _ hx hi hen ?_)⟩
   intro W' htw hi
   clear hy
   have hl:=htw.heap hl (hTn _ (by omega))
   have hd:=htw.heap hd (hTn _ (by omega))
   have ht0:=ht
   have ht:=ht.trans (htw.mono fun b _ h=>.inl h)
   have hsz0:=hsz
   have hsz:=Nat.le_trans hsz htw.size
   have hlt:w.heap.size+1<W'.heap.size:=by omega
   have htw':Turn (fun b=>T b∨b=w.heap.size+1) W W':=htw.mono fun b _ h=>.inl h
   refine⟨_,run_beginRound hl (by rw [hrec]),?_⟩
   have hl2:(W'.putObj (w.heap.size+1) (.loop { rec .ready none with state:=.busy })).heap[w.heap.size+1]?=some (.loop { rec .ready none with state:=.busy }):=World.putObj_heap_same hlt
   have hd2:(W'.putObj (w.heap.size+1) (.loop { rec .ready none with state:=.busy })).heap[w.heap.size]?=some (.deferred (some [])):=(World.putObj_heap_other (by omega)).trans hd
   have hTB:Turn (fun b=>T b∨w.heap.size≤b) w (W'.putObj (w.heap.size+1) (.loop { rec .ready none with state:=.busy })):=ht.putObj (.inl (Nat.le_succ _)) _
   refine wpIn_mono (hbody pre x rest ys _ hx (by simpa using hsz) hTB (hI _ _ _ hi (hput W' _) ⟨_,hl,rfl⟩)) ?_
   have fin:∀(jump:Option Code) (W3:World),Turn (fun b=>¬ ¬ T b) (W'.putObj (w.heap.size+1) (.loop { rec .ready none with state:=.busy })) W3 →
     (Instr.endRound (w.heap.size+1) jump).run P W3=.ok (.bool jump.isNone) (W3.putObj (w.heap.size+1) (.loop (rec (if jump.isNone then .ready else .done) jump))) ∧
     (W3.putObj (w.heap.size+1) (.loop (rec (if jump.isNone then .ready else .done) jump))).heap[w.heap.size+1]?=some (.loop (rec (if jump.isNone then .ready else .done) jump)) ∧
     (W3.putObj (w.heap.size+1) (.loop (rec (if jump.isNone then .ready else .done) jump))).heap[w.heap.size]?=some (.deferred (some [])) ∧
     Turn (fun b=>T b∨b=w.heap.size+1) W (W3.putObj (w.heap.size+1) (.loop (rec (if jump.isNone then .ready else .done) jump)))∧(∃ o,W3.heap[w.heap.size+1]?=some o∧o.isCells=false):=fun jump W3 hk3=>by
    have hl3:=hk3.heap hl2 (fun h=>h (hTn _ (by omega)))
    have hd3:=hk3.heap hd2 (fun h=>h (hTn _ (by omega)))
    have:=run_endRound (P:=P) jump hl3
    rw [hrec] at this ⊢
    refine⟨this,World.putObj_heap_same (Array.getElem?_eq_some_iff.1 hl3).1,(World.putObj_heap_other (by omega)).trans hd3,?_,_,hl3,rfl⟩
    exact(htw'.trans ((Turn.refl _ W').putObj (.inr (.inr rfl)) _)).trans (hk3.mono fun b _ hb=>.inl (Classical.byContradiction hb)) |>.putObj (.inr (.inr rfl)) _
   have hgrow:∀ {X:World},Turn (fun b=>T b∨b=w.heap.size+1) W X→Turn (fun b=>T b∨w.heap.size≤b) w X:=fun h=>ht0.trans (h.mono fun b _ hb=>hb.imp id (fun e=>by omega))
   rintro e a3 W3 hp
   cases e with
   | normal=>
    obtain⟨hk3,hi3⟩:=hp
    obtain⟨hr,hl4,hd4,ht4,hn4⟩:=fin none W3 hk3
    exact⟨_,_,hr,.inl ⟨rfl,⟨hI _ _ _ hi3 (hput W3 _) hn4,hl4,hd4,hgrow ht4,Nat.le_trans hsz0 ht4.size⟩,ht4⟩⟩
   | ret=>
    obtain⟨hk3,hi3⟩:=hp
    obtain⟨hr,hl4,hd4,ht4,hn4⟩:=fin (some .ret) W3 hk3
    exact⟨_,_,hr,.inr ⟨rfl,⟨.ret,hIx _ _ _ _ hi3 (hput W3 _) hn4,hl4,hd4,Nat.le_trans hsz0 ht4.size⟩,ht4⟩⟩
   | exit id=>
    obtain⟨hk3,hi3⟩:=hp
    obtain⟨hr,hl4,hd4,ht4,hn4⟩:=fin (some (.exit id)) W3 hk3
    exact⟨_,_,hr,.inr ⟨rfl,⟨.exit id,hIx _ _ _ _ hi3 (hput W3 _) hn4,hl4,hd4,Nat.le_trans hsz0 ht4.size⟩,ht4⟩⟩
   | goto t=>
    obtain⟨hk3,hi3⟩:=hp
    obtain⟨hr,hl4,hd4,ht4,hn4⟩:=fin (some (.goto t)) W3 hk3
    exact⟨_,_,hr,.inr ⟨rfl,⟨.goto t,hIx _ _ _ _ hi3 (hput W3 _) hn4,hl4,hd4,Nat.le_trans hsz0 ht4.size⟩,ht4⟩⟩
   | panic ch=>exact hp.elim
   | outgrown=>exact hp.elim
  ·-- behind the iterator
   rintro e W2 (⟨⟨v,rfl⟩,(⟨hf,hi,hl,hd,ht,hsz⟩ | ⟨pre,x,rest,hx,c,hi,hl,hd,hsz⟩)⟩ | ⟨ch,hf,rfl,hi,hl,hd,ht,hsz⟩)
   ·refine⟨none,_,by have:=run_endLoop (P:=P) hl (by rw [hrec];simp);rw [hrec] at this;exact this,?_⟩
    exact hdone hf _ (hI _ _ _ hi (hput W2 _) ⟨_,hl,rfl⟩) ((World.putObj_heap_other (by omega)).trans hd) (by simpa using hsz)
   ·refine⟨some c,_,by have:=run_endLoop (P:=P) hl (by rw [hrec];simp);rw [hrec] at this;exact this,?_⟩
    exact(wpIn_wide (n:=0)).2 (hstop c pre x rest _ hx (hIx _ _ _ _ hi (hput W2 _) ⟨_,hl,rfl⟩) ((World.putObj_heap_other (by omega)).trans hd))
   ·exact hpan ch W2 hf hi hd hsz
end Go.Ab
set_option maxRecDepth 100000
set_option maxHeartbeats 16000000
namespace Go.Proofs.YtfdlhlghcbeblaaGreatDoor
open Go.RowKit Go.Ab
attribute [local go_sem] Oper.semAt_some wide_fn wide_depth
def formsG:List LawD→Wd→Nat→List (Nat × Wd)
 | [],u,i=>[(i,u)]
 | l::ls,u,i=>(i,u)::(if trE l u=0 then formsG ls (appL l u) (i+1) else [])
def failE:List PanicEntry:=[{ v:=.iface 221 (.int .i64 11),recovered:=false }]
def formsX(ls:List LawD)(ws:Wd):Option (List PanicEntry):=if (derO ls ws).isSome=true then none else some failE
def FormE(_:Nat)(x:Nat × Wd)(W:World)(ys:Array Value):Prop:=∃ v,ys=#[.int .i64 (x.1:Int),v]∧OneW W v x.2
theorem formsG_last:∀(ls:List LawD) (ws:Wd) (i:Nat) (u:Wd),derO ls ws=some u→∃ pre,formsG ls ws i=pre++[(i+ls.length,u)]
 | [],ws,i,u,h=>by cases h;exact⟨[],rfl⟩
 | l::ls,ws,i,u,h=>by
  unfold derO at h
  split at h
  ·rename_i h0
   obtain⟨pre,hp⟩:=formsG_last ls _ (i+1) u h
   refine⟨(i,ws)::pre,?_⟩
   unfold formsG
   rw [if_pos h0,hp,List.length_cons,show i+(ls.length+1)=i+1+ls.length by omega]
   rfl
  ·cases h
theorem formsG_head(ls:List LawD)(u:Wd)(i:Nat):formsG ls u i=(i,u)::(formsG ls u i).tail:=by cases ls <;> rfl
theorem one_apart{A B:World}{v:Value}{u:Wd}{D l:Nat}{so:Option Addr}{sn sc:Nat}{t:TypeId}{fr:Nat × Nat}(h:OneW A v u)(ht:Turn (fun b=>b=D∨b=l) A B) (hD:A.heap[D]?=some (.cells #[.slice so sn sc] t fr)) (hl:∃ o,A.heap[l]?=some o∧o.isCells=false):OneW B v u:=by
 obtain⟨ao,c,rfl,⟨⟨h1,h2,ao',cap,hv,h3⟩,h4⟩,h5⟩:=h
 refine⟨ao,c,rfl,⟨⟨h1,h2,ao',cap,hv,fun hn=>?_⟩,h4⟩,h5⟩
 obtain⟨g,off,ha,hg,hc⟩:=h3 hn
 have hne:¬ (g=D∨g=l):=by
  rintro(rfl | rfl)
  ·have h0:=hc 0 (by omega)
   rw [Nat.add_zero] at h0
   unfold World.cell? at h0
   simp only [hD] at h0
   cases off with
   | zero=>
    rw [List.getD_eq_getElem?_getD] at h0
    cases u with
    | nil=>simp at hn
    | cons s u=>simp [sndL] at h0
   | succ off=>simp at h0
  ·obtain⟨o,q1,q2⟩:=hl
   obtain⟨o',q3,q4⟩:=cell_cells (hc 0 (by omega))
   simp only at q3
   rw [q1] at q3;cases q3
   rw [q2] at q4;cases q4
 exact⟨g,off,ha,Nat.lt_of_lt_of_le hg ht.size,fun j hj=>ht.cell_some (hc j hj) hne⟩
theorem forms_iter{w0 w:World}{BL BW D n:Nat}{ps:LawsL}{lo:Option Addr}{lc:Nat}{vo:Option Addr}{vn vc:Nat}{ws:Wd}(hE0:Ext w0 w)(hD0:w0.heap.size≤D)(hlaws:LawsAt w0 (.slice lo n lc) ps) (hn:ps.length=n) (hok:∀ p∈ps,lawB p.1=true)
  (hw:WordAt w0 (.slice vo vn vc) ws) (hvn:ws.length=vn) (hwE:wE ws=0) (hT:Tab w0) (hbl:w.heap[BL]?=some (.cells #[.slice lo n lc] 26 (0,0))) (hbw:w.heap[BW]?=some (.cells #[.slice vo vn vc] 99 (0,0))) (hnl:BL≠D) (hnw:BW≠D) :
  IterF Tryz.prog 176 #[.pointer (some ⟨BW,0,none⟩),.pointer (some ⟨BL,0,none⟩)] (fun _ _=>False) FormE (formsG (ps.map (·.1)) ws 0) (formsX (ps.map (·.1)) ws) (fun b=>b=D) (fun A=>∃ so sn sc,A.heap[D]?=some (.cells #[.slice so sn sc] 99 (0,0))) w:=by
 intro l J Jx W ht hlw hl0 hJ hJx hC hY h0
 have hwb:=(Array.getElem?_eq_some_iff.1 hbl).1
 have hbl1:=ht.heap hbl hnl
 have hbw1:=ht.heap hbw hnw
 have hEW:Ext w0 W:=Turn.after hE0 ht (fun b hb e=>by omega)
 have hw0s:=hE0.size
 have hps:ps.length≤maxLen:=hlaws.1.2.1
 rw [hn] at hps
 unfold maxLen at hps
 have hv32:ws.length≤32:=wE_le hwE
 have hwd:=hw.2
 have hcl:=fun(V:World) (hE:Ext w0 V)=>clone_snd (hw.ext hE) (by omega)
 have hJs:∀ pre A B,J pre A→Ext A B→J pre B:=fun pre A B hj he=>hJ pre A B hj (Ext.of he)
 have hst:∀ V,Ext w0 V→∀ B,Turn (fun b=>b=D∨b=l) V B→Ext w0 B:=fun V hE B ht=>Turn.after hE ht (fun b hb h=>by rcases h with h | h <;> omega)
 obtain⟨LD,hLD⟩:∃ x,ps.map (·.1)=x:=⟨_,rfl⟩
 obtain⟨FX,hFX⟩:∃ x,formsG LD ws 0=x:=⟨_,rfl⟩
 rw [hLD,hFX] at hY ⊢
 have hgood:∀ k (hk:k<n),∃ p,ps[k]?=some p∧lawB p.1=true∧LD[k]?=some p.1∧(∀ x∈p.1.outs,OutOk x):=fun k hk=>by
  have h1:k<ps.length:=by omega
  refine⟨ps[k],List.getElem?_eq_getElem h1,hok _ (List.getElem_mem h1),by rw [← hLD,List.getElem?_map,List.getElem?_eq_getElem h1];rfl,?_⟩
  obtain⟨_,_,_,_,_,_,_,_,_,ho⟩:=hlaws.2 _ (List.getElem_mem h1)
  exact ho.2
 have hlen:LD.length=n:=by rw [← hLD,List.length_map,hn]
 have HLAWS:=Lib.hid (fun(V:World) (hE:Ext w0 V)=>hlaws.ext hE);have HCL:=Lib.hid hcl;have HJS:=Lib.hid hJs;have HY:=Lib.hid hY;have HC:=Lib.hid hC;have HST:=Lib.hid hst;have HG:=Lib.hid hgood;have HFX:=Lib.hid hFX;have HLEN:=Lib.hid hlen;have HWD:=Lib.hid hwd;have HWE:=Lib.hid hwE;have HJ0:=Lib.hid h0;have HTB:=Lib.hid (fun(V:World) (hE:Ext w0 V)=>hT.keep hE id);have HVN:=Lib.hid hvn;have HPN:=Lib.hid hn
 rw [hvn] at hv32
 clear hlaws hcl hJs hY hC hst hgood hFX hlen hwd hwE h0 hT hJ hJx hE0 hw hok hLD ht hbl hbw hvn hn
 show Calls _ _ #[.func (.yield l) #[] #[],.pointer (some ⟨BW,0,none⟩),.pointer (some ⟨BL,0,none⟩)] _ _
 go_enter Tryz.func176,Tryz.ntmps176
 have cW:=cell_of_one hbw1
 go_wp2_with fail
 have hcc:=HCL.out _ hEW
 rw [HVN.out] at hcc
 refine hcc.mono ?_
 rintro e w1 ⟨uo,uc,rfl,hO,hN⟩
 have hE1:Ext w0 w1:=hEW.trans hN
 have hbl2:=hN.keep hbl1
 have hu:OneW w1 (.slice uo vn uc) ws:=by have:=OneW.own (u:=ws) (by rw [HVN.out];exact hO) HWD.out;rw [HVN.out] at this;exact this
 have hj1:=HJS.out _ _ _ HJ0.out hN
 have hsp:FX=[]++(0,ws)::(formsG LD ws 0).tail:=by
  rw [← HFX.out]
  cases LD with
  | nil=>rfl
  | cons a b=>rfl
 obtain⟨fn,tmps,assign,body,hy,hYR⟩:=HY.out [] (0,ws) _ w1 #[.int .i64 0,.slice uo vn uc] hsp hj1 ⟨_,rfl,hu⟩
 obtain⟨⟨so,sn,sc,hDc⟩,hlc⟩:=HC.out _ _ hj1
 have HSP:=Lib.hid hsp;have HYR:=Lib.hid hYR;have HU:=Lib.hid hu;have HE1:=Lib.hid hE1;have HBL:=Lib.hid hbl2;have HDC:=Lib.hid hDc;have HLC:=Lib.hid hlc
 clear hYR hu hE1 hbl2 hDc hlc hj1 hsp hO hN hcc cW hbl1 hbw1 hEW
 go_upto_region 1 with (fail)
 refine(wpIn_wide (n:=0)).1 ?_
 gi_wp2
 refine HYR.out.mono ?_
 rintro e w2 (⟨rfl,hJ2,hk2⟩ | ⟨rfl,hJ2,hk2⟩)
 case inr=>
  gi_wp2
  go_wp2
  refine bodyPost_ret (results_none rfl _ _ _) rfl ?_
  exact .inl ⟨⟨_,rfl⟩,.inr ⟨[],(0,ws),_,HSP.out,hJ2⟩⟩
 have hE2:=HST.out _ HE1.out _ hk2
 have hu2:=one_apart HU.out hk2 HDC.out HLC.out
 have hbl3:=hk2.heap HBL.out (by rintro(h | h);exact hnl h;omega)
 have HU2:=Lib.hid hu2;have HJ2:=Lib.hid hJ2;have HE2:=Lib.hid hE2
 clear hu2 hJ2 hE2 hk2 HYR HU HE1 HBL HDC HLC hy
 have cL:=cell_of_one hbl3
 gi_wp2
 go_wp2
 refine wp_loop (fun a V=>∃(k:Nat) (pre:List (Nat × Wd)) (uw:Wd) (uo:Option Addr) (un uc:Nat),a.defers=[]∧(a.tmps.size=40∧a.tmps.getD 0 undef=.func (.yield l) #[] #[]∧a.tmps.getD 4 undef=.slice uo un uc∧a.tmps.getD 15 undef=.slice lo n lc∧a.tmps.getD 16 undef=.int .i64 n∧a.tmps.getD 17 undef=.int .i64 k)∧k≤n∧FX=pre++formsG (LD.drop k) uw k∧derO (LD.take k) ws=some uw∧J (pre++[(k,uw)]) V∧OneW V (.slice uo un uc) uw∧uw.length=un∧wE uw=0∧WdOk uw∧Ext w0 V)
  (fun a _=>((n:Int) - intOf (a.tmps.getD 17 undef)).toNat) ?_ ?_
 ·exact⟨0,[],ws,uo,vn,uc,rfl,⟨rfl,rfl,rfl,rfl,rfl,rfl⟩,Nat.zero_le _,by rw [← HFX.out];rfl,rfl,HJ2.out,HU2.out,HVN.out,HWE.out,HWD.out,HE2.out⟩
 clear HU2 HJ2 HE2 HJ0 cL hbl3
 rintro⟨t,_⟩ V ⟨k,pre,uw,uo,un,uc,hds,⟨hsz,f0,f4,f15,f16,f17⟩,hk,hfx,hdo,hj,hu,hun,hwe,hwo,hE⟩
 subst hds
 obtain⟨u',hu⟩:=frame_fun hsz
 obtain⟨u,rfl⟩:∃ x,x=u':=⟨_,rfl⟩
 have hu':t=#[u 0,u 1,u 2,u 3,u 4,u 5,u 6,u 7,u 8,u 9,u 10,u 11,u 12,u 13,u 14,u 15,u 16,u 17,u 18,u 19,u 20,u 21,u 22,u 23,u 24,u 25,u 26,u 27,u 28,u 29,u 30,u 31,u 32,u 33,u 34,u 35,u 36,u 37,u 38,u 39]:=hu
 clear hu
 subst hu'
 change u 0=_ at f0
 change u 4=_ at f4
 change u 15=_ at f15
 change u 16=_ at f16
 change u 17=_ at f17
 rw [f0,f4,f15,f16,f17]
 clear f0 f4 f15 f16 f17 hsz
 have HFX2:=Lib.hid hfx;have HDO:=Lib.hid hdo;have HJV:=Lib.hid hj;have HU:=Lib.hid hu;have HUN:=Lib.hid hun;have HWE2:=Lib.hid hwe;have HWO:=Lib.hid hwo;have HE:=Lib.hid hE
 clear hfx hdo hj hu hun hwe hwo hE
 by_cases hkn:k<n
 case neg=>
  obtain rfl:k=n:=by omega
  have h1:¬ ((k:Int)<(k:Int)):=by omega
  have hx:FX=pre++[(k,uw)]:=by
   have:=HFX2.out
   rw [List.drop_eq_nil_of_le (by rw [HLEN.out];exact Nat.le_refl _)] at this
   exact this
  have hf:formsX LD ws=none:=by
   have:=HDO.out
   rw [derO_all (by rw [HLEN.out];exact Nat.le_refl _)] at this
   unfold formsX;rw [this];rfl
  have HX:=Lib.hid hx;have HF:=Lib.hid hf
  clear hx hf
  go_wp2
  go_end0
  exact .inl ⟨⟨_,rfl⟩,.inl ⟨HF.out,by rw [HX.out];exact HJV.out⟩⟩
 have h1:(k:Int)<(n:Int):=by omega
 have h0:(0:Int)≤(k:Int):=by omega
 obtain⟨p,hpk,hpb,hpl,hpo⟩:=HG.out k hkn
 have hlV:=HLAWS.out V HE.out
 have hk2:k<ps.length:=by rw [HPN.out];exact hkn
 obtain⟨g,off,c9,hq,hg,hrg,hla,h18⟩:=hlV.at hk2
 have hpe:ps[k]=p:=by rw [List.getElem?_eq_getElem hk2] at hpk;exact Option.some.inj hpk
 rw [hpe] at hrg hla h18
 simp only [Value.slice.injEq] at hq
 obtain⟨rfl,hq2,rfl⟩:=hq
 obtain⟨pl,pc⟩:=p
 dsimp only at hrg hla h18 hpb hpl hpo
 obtain⟨nm,k1,p1,m1,n1,a1,b1,o1,N1,c1,k2,p2,m2,n2,a2,b2,o2,N2,c2,io,N3,ic,oo,N4,oc,md,hcs,HLA,HPL,HPR,HIF,HOU,HNM,HN1,HN2,HN3,HN4,HMD,q0,q1,q2,q3,q4⟩:=law_gen hla
 subst hcs
 have hwk:IntKind.i64.wrap ((k:Int)+1)=(k:Int)+1:=IntWalk.i64_in _ (by omega)
 have HRG:=Lib.hid hrg;have HPO:=Lib.hid hpo;have HPL2:=Lib.hid hpl;have HPB:=Lib.hid hpb
 clear hq2 hpe hpk hlV hla h18 hk2 hrg hpo hpl hpb HPL HPR HIF HOU HNM HN1 HN2 HN3 HN4 HMD
 obtain⟨V1,hV1⟩:∃ D,V.alloc (.cells #[.string nm,.int .i64 k1,.int .u32 (p1:Int),.int .u32 (m1:Int),.bool n1,.int .i64 a1,.int .i64 b1,.slice o1 N1 c1,.int .i64 k2,.int .u32 (p2:Int),.int .u32 (m2:Int),.bool n2,.int .i64 a2,.int .i64 b2,.slice o2 N2 c2,.slice io N3 ic,.slice oo N4 oc,.int .i64 md] 102)=D:=⟨_,rfl⟩
 have hN1:Ext V V1:=by rw [← hV1];exact(Turn.refl _ V).alloc _
 have hx1:V1.heap[V.heap.size]?=some (.cells #[.string nm,.int .i64 k1,.int .u32 (p1:Int),.int .u32 (m1:Int),.bool n1,.int .i64 a1,.int .i64 b1,.slice o1 N1 c1,.int .i64 k2,.int .u32 (p2:Int),.int .u32 (m2:Int),.bool n2,.int .i64 a2,.int .i64 b2,.slice o2 N2 c2,.slice io N3 ic,.slice oo N4 oc,.int .i64 md] 102 (0,0)):=by rw [← hV1];exact new_at rfl
 obtain⟨X,hX⟩:∃ x,V.heap.size=x:=⟨_,rfl⟩
 rw [hX] at hx1
 have HX1:=Lib.hid hx1;have HV1:=Lib.hid hV1
 clear hx1 hV1
 go_upto_region 5 with (refine wpList_load_at (by rfl) 102 (.tmp 20) rfl g (off+k*18) (by first | rfl | simp) _ _ HRG.out Tryz.underlying102 rfl (by kernel_rfl) ?_)
 rw [HV1.out]
 have HX0:=Lib.hid hX
 clear hX
 obtain⟨ao,cc,hq,hwv,hcp⟩:=HU.out
 simp only [Value.slice.injEq] at hq
 obtain⟨rfl,hq2,rfl⟩:=hq
 have hc:=lapply_any (HLA.out.ext hN1) (hwv.ext hN1) hcp (HTB.out V1 (HE.out.trans hN1))
 rw [HUN.out] at hc
 have hcs:=trE_good HPB.out HWE2.out
 have hap:=appL_wE HPO.out HWO.out
 have hkl:k<LD.length:=by rw [HLEN.out];exact hkn
 have hgk:LD[k]=pl:=by have:=HPL2.out;rw [List.getElem?_eq_getElem hkl] at this;exact Option.some.inj this
 have hdt:=derO_take hkl ws
 rw [HDO.out,Option.bind_some,hgk] at hdt
 have hfs:=HFX2.out
 rw [List.drop_eq_getElem_cons hkl,hgk] at hfs
 have hall:trE pl uw≠0→derO LD ws=none:=fun h=>derO_stop hkl HDO.out (by rw [hgk];exact h)
 unfold formsG at hfs
 obtain⟨E,hqE⟩:∃ x,trE pl uw=x:=⟨_,rfl⟩
 rw [hqE] at hc hcs hap hdt hfs hall
 obtain⟨R,hqR⟩:∃ x,appL pl uw=x:=⟨_,rfl⟩
 rw [hqR] at hc hap hdt hfs
 have HCA:=Lib.hid hc;have HCS:=Lib.hid hcs;have HAP:=Lib.hid hap;have HDT:=Lib.hid hdt;have HFS:=Lib.hid hfs;have HALL:=Lib.hid hall
 clear hq2 hc hcs hap hdt hfs hall hgk hkl hqE hqR hwv hcp HU HFX2 HDO HPL2 HPO HPB HWE2 HWO HLA HRG HV1
 go_wp2_with (refine wpList_load_row rfl 102 (.tmp 6) rfl X rfl _ _ _ _ HX1.out Tryz.underlying102 rfl Tryz.lawInfo ?_)
 refine HCA.out.mono ?_
 rintro e V2 ⟨ru,rfl,⟨ro,rc,rfl,hrw,hrc⟩,hN2⟩
 have hE2:Ext w0 V2:=HE.out.trans (hN1.trans hN2)
 have hj2:=HJS.out _ _ _ HJV.out (hN1.trans hN2)
 obtain⟨rn,hrn⟩:∃ n,R.length=n:=⟨_,rfl⟩
 rw [hrn] at hrw hrc ⊢
 have hru:OneW V2 (.slice ro rn rc) R:=⟨ro,rc,by rw [hrn],by rw [hrn];exact hrw,by rw [hrn];exact hrc⟩
 have HRU:=Lib.hid hru;have HJ2:=Lib.hid hj2;have HE2:=Lib.hid hE2;have HRN:=Lib.hid hrn
 clear hru hj2 hE2 hrn hrw hrc hN1 hN2 HCA HX1 HJV HE
 by_cases h0E:E=0
 case neg=>
  obtain rfl:E=11:=HCS.out.resolve_left h0E
  have hx:=HFS.out
  rw [if_neg (by decide)] at hx
  have hf:formsX LD ws=some failE:=by unfold formsX;rw [HALL.out (by decide)];rfl
  have HX:=Lib.hid hx;have HF:=Lib.hid hf
  clear hx hf HFS HALL HDT HAP HCS
  go_wp2
  refine⟨rfl,.inr ⟨failE,HF.out,rfl,?_⟩⟩
  rw [HX.out];exact HJ2.out
 subst h0E
 have hx:=HFS.out
 rw [if_pos rfl,formsG_head] at hx
 have hd1:=HDT.out
 rw [if_pos rfl] at hd1
 obtain⟨hw1,hw2⟩:=HAP.out rfl
 have HD1:=Lib.hid hd1;have HW1:=Lib.hid hw1;have HW2:=Lib.hid hw2
 have hx2:FX=(pre++[(k,uw)])++(k+1,R)::(formsG (LD.drop (k+1)) R (k+1)).tail:=by rw [hx,List.append_assoc];rfl
 have hx3:FX=(pre++[(k,uw)])++formsG (LD.drop (k+1)) R (k+1):=by rw [hx2,← formsG_head]
 have HX2:=Lib.hid hx2;have HX3:=Lib.hid hx3
 clear hx hd1 hw1 hw2 hx2 hx3 HFS HALL HDT HAP HCS
 obtain⟨fn,tmps,assign,body,hy,hYR⟩:=HY.out (pre++[(k,uw)]) (k+1,R) _ V2 #[.int .i64 ((k:Int)+1),.slice ro rn rc] HX2.out HJ2.out ⟨_,rfl,HRU.out⟩
 obtain⟨⟨so,sn,sc,hDc⟩,hlc⟩:=HC.out _ _ HJ2.out
 have HYR:=Lib.hid hYR;have HDC:=Lib.hid hDc;have HLC:=Lib.hid hlc
 clear hYR hDc hlc
 go_upto_region 8 with (fail)
 refine(wpIn_wide (n:=0)).1 ?_
 gi_wp2
 refine HYR.out.mono ?_
 rintro e V3 (⟨rfl,hJ3,hk3⟩ | ⟨rfl,hJ3,hk3⟩)
 case inr=>
  gi_wp2
  go_wp2
  refine bodyPost_ret (results_none rfl _ _ _) rfl ?_
  exact .inl ⟨⟨_,rfl⟩,.inr ⟨pre++[(k,uw)],(k+1,R),_,HX2.out,hJ3⟩⟩
 have hE3:=HST.out _ HE2.out _ hk3
 have hu3:=one_apart HRU.out hk3 HDC.out HLC.out
 have HU3:=Lib.hid hu3;have HJ3:=Lib.hid hJ3;have HE3:=Lib.hid hE3
 clear hu3 hJ3 hE3 hk3 hy HYR HRU HJ2 HE2
 gi_wp2
 go_wp2
 exact⟨⟨k+1,pre++[(k,uw)],R,ro,rn,rc,by first | rfl | trivial,⟨rfl,rfl,rfl,rfl,rfl,rfl⟩,by omega,HX3.out,HD1.out,HJ3.out,HU3.out,HRN.out,HW1.out,HW2.out,HE3.out⟩,by first | (simp [intOf];done) | (simp [intOf];omega)⟩
end Go.Proofs.YtfdlhlghcbeblaaGreatDoor
set_option maxRecDepth 100000
namespace Go.Proofs.YtfdlhlghcbeblaaGreatDoor
open Go.RowKit Go.Ab
attribute [local go_sem] Oper.semAt_some wide_fn wide_depth
theorem rescue_bad(p:Addr)(older:List PanicEntry)(w:World)(x:Int)(hc:w.cell? p=some (.int .i64 x)) (hz:w.frozen? p=false) :
  CallsD Tryz.prog 80 #[.pointer (some p)] (.panicking ({ v:=.iface 221 (.int .i64 11),recovered:=false }::older)) w fun e u' w'=>
   e=.returned (.tuple #[])∧u'=.panicking ({ v:=.iface 221 (.int .i64 11),recovered:=true }::older)∧w'=w.setCell p (.int .i64 11):=by
 refine callsD_of_wpS Tryz.func80 rfl fun c₀ cs hu=>?_
 apply wpS_seq
 apply wpS_region
 simp [wpOpsS,go_sem,recoverD,hu,Tryz.ntmps80,Exit.thenS]
 refine wpS_of_wp ?_
 have hta:∀(W:World),(Instr.typeAssert (.iface 221 (.int .i64 11)) 20 221 true).run Tryz.prog W=.ok (.tuple #[.int .i64 11,.bool true]) W:=fun W=>by
  simp [Instr.typeAssert,run_underlying Tryz.underlying221,go_sem,Result.andThen]
 go_wp2
 simp [bodyPostS,results,Tryz.results80]
theorem rescue_idle(p:Addr)(w:World) :
  CallsD Tryz.prog 80 #[.pointer (some p)] .returning w fun e u' w'=>e=.returned (.tuple #[])∧u'=.returning∧w'=w:=by
 refine callsD_of_wpS Tryz.func80 rfl fun c₀ cs hu=>?_
 apply wpS_seq
 apply wpS_region
 simp [wpOpsS,go_sem,recoverD,hu,Tryz.ntmps80,Exit.thenS]
 refine wpS_of_wp ?_
 go_wp2
 cases c₀
 simp_all [bodyPostS,results,Tryz.results80]
end Go.Proofs.YtfdlhlghcbeblaaGreatDoor
set_option maxRecDepth 100000
set_option maxHeartbeats 16000000
namespace Go.Proofs.YtfdlhlghcbeblaaGreatDoor
open Go.RowKit Go.Ab
attribute [local go_sem] Oper.semAt_some wide_fn wide_depth
theorem forms_any(lo:Option Addr)(n lc:Nat)(vo:Option Addr)(vn vc:Nat)(w:World):Calls Tryz.prog 132 #[.slice lo n lc,.slice vo vn vc] w fun e w'=>
  e=.returned (.func (.func 176) #[] #[.pointer (some ⟨w.heap.size+1,0,none⟩),.pointer (some ⟨w.heap.size,0,none⟩)])∧w'=(w.alloc (.cells #[.slice lo n lc] 26)).alloc (.cells #[.slice vo vn vc] 99):=by
 have hmf:∀(fn:Fn) (first cap:Array Value) (w:World),(Instr.makeFunc fn first cap).run Tryz.prog w=.ok (.func fn first cap) w:=fun _ _ _ _=>rfl
 go_enter Tryz.func132,Tryz.ntmps132
 go_wp2
 go_ret
 exact⟨by simp,rfl⟩
theorem results_cell_slice{fn:Func}{p:Tmp}{ty:TypeId}(h:fn.results=#[.cell p ty]){tmps:Array Value}{w:World}{g:Nat}{ao:Option Addr}{n c:Nat}{t:TypeId}(hp:tmps.getD p undef=.pointer (some ⟨g,0,none⟩)) (hu:(Tryz.prog.underlying ty).map (fun d=>match d with | .slice _=>true | _=>false)=some true) (hg:w.heap[g]?=some (.cells #[.slice ao n c] t (0,0))) :
  (results fn tmps).run Tryz.prog w=.ok (.slice ao n c) w:=by
 have hc:=cell_of_one hg
 have hp':tmps[p]?.getD undef=.pointer (some ⟨g,0,none⟩):=by simpa using hp
 cases hd:Tryz.prog.underlying ty with
 | none=>simp [hd] at hu
 | some d=>
  cases d with
  | slice e=>simp [results,h,hp',asAddr,loadVar,isAgg,run_underlying hd,go_sem,hc]
  | _=>simp [hd] at hu
theorem one_apart1{A B:World}{v:Value}{u:Wd}{D:Nat}{so:Option Addr}{sn sc:Nat}{t:TypeId}{fr:Nat × Nat}(h:OneW A v u)(ht:Turn (fun b=>b=D) A B) (hD:A.heap[D]?=some (.cells #[.slice so sn sc] t fr)):OneW B v u:=by
 obtain⟨ao,c,rfl,⟨⟨h1,h2,ao',cap,hv,h3⟩,h4⟩,h5⟩:=h
 refine⟨ao,c,rfl,⟨⟨h1,h2,ao',cap,hv,fun hn=>?_⟩,h4⟩,h5⟩
 obtain⟨g,off,ha,hg,hc⟩:=h3 hn
 have hne:¬ g=D:=by
  rintro rfl
  have h0:=hc 0 (by omega)
  rw [Nat.add_zero] at h0
  unfold World.cell? at h0
  simp only [hD] at h0
  cases off with
  | zero=>
   rw [List.getD_eq_getElem?_getD] at h0
   cases u with
   | nil=>simp at hn
   | cons s u=>simp [sndL] at h0
  | succ off=>simp at h0
 exact⟨g,off,ha,Nat.lt_of_lt_of_le hg ht.size,fun j hj=>ht.cell_some (hc j hj) hne⟩
theorem one_nocells{A B:World}{r:Nat}{v:Value}{u:Wd}(h:OneW A v u)(ht:Turn (fun b=>b=r) A B) (hr:∃ o,A.heap[r]?=some o∧o.isCells=false):OneW B v u:=by
 obtain⟨ao,c,rfl,h1,h2⟩:=h
 exact⟨ao,c,rfl,⟨Rd.nocells ht hr h1.1,h1.2⟩,h2⟩
theorem outcome_any{w:World}{ps:LawsL}{lo:Option Addr}{n lc:Nat}{vo:Option Addr}{vn vc:Nat}{ws:Wd}(hlaws:LawsAt w (.slice lo n lc) ps) (hn:ps.length=n) (hok:∀ p∈ps,lawB p.1=true) (hw:WordAt w (.slice vo vn vc) ws) (hvn:ws.length=vn) (hwE:wE ws=0) (hT:Tab w) :
  Calls Tryz.prog 82 #[.slice lo n lc,.slice vo vn vc] w fun e w'=>(∃ u v,derO (ps.map (·.1)) ws=some u∧e=.returned v∧OneW w' v u∧Ext w w')∨(derO (ps.map (·.1)) ws=none∧e=.panicked failE∧Ext w w'):=by
 have hit:=fun(w2:World) (hE:Ext w w2) (BL BW D:Nat) (hD:w.heap.size≤D)=>forms_iter (w0:=w) (w:=w2) (BL:=BL) (BW:=BW) (D:=D) hE hD hlaws hn hok hw hvn hwE hT
 have HIT:=Lib.hid hit
 clear hit hlaws hn hok hw hvn hwE hT
 obtain⟨LD,hLD⟩:∃ x,ps.map (·.1)=x:=⟨_,rfl⟩
 rw [hLD] at HIT ⊢
 have hfl:=formsG_last LD ws 0
 obtain⟨FX,hFX⟩:∃ x,formsG LD ws 0=x:=⟨_,rfl⟩
 rw [hFX] at HIT hfl
 obtain⟨DO,hDO⟩:∃ x,derO LD ws=x:=⟨_,rfl⟩
 have hfin:formsX LD ws=if DO.isSome=true then none else some failE:=by unfold formsX;rw [hDO]
 rw [hfin] at HIT
 rw [hDO] at hfl ⊢
 have HFL:=Lib.hid hfl
 clear hLD hFX hDO hfin hfl
 refine calls_of_wp_marks Tryz.func82 rfl ?_
 simp only [Tryz.ntmps82,List.size_toArray,List.length_cons,List.length_nil,Nat.reduceAdd,Nat.reduceSub,Array.replicate_succ,Array.replicate_zero,List.push_toArray,List.append_toArray,List.nil_append,List.cons_append]
 go_upto_region 1 with (fail)
 obtain⟨w1,hw1⟩:∃ V,w.alloc (.cells #[.slice none 0 0] 99)=V:=⟨_,rfl⟩
 have hE1:Ext w w1:=by rw [← hw1];exact(Turn.refl _ w).alloc _
 have hd1:w1.heap[w.heap.size]?=some (.cells #[.slice none 0 0] 99 (0,0)):=by rw [← hw1];exact new_at rfl
 have hs1:w1.heap.size=w.heap.size+1:=by rw [← hw1];simp
 rw [hw1]
 obtain⟨D,hD⟩:∃ b,w.heap.size=b:=⟨_,rfl⟩
 rw [hD] at hd1 hs1 ⊢
 have HD:=Lib.hid hD
 clear hw1 hD
 go_wp2_with fail
 refine(forms_any lo n lc vo vn vc w1).mono ?_
 rintro e w2 ⟨rfl,hw2⟩
 rw [hs1]
 have hE12:Ext w1 w2:=by rw [hw2];exact((Turn.refl _ w1).alloc _).alloc _
 have hbl:w2.heap[D+1]?=some (.cells #[.slice lo n lc] 26 (0,0)):=by rw [hw2];exact new_keep (new_at hs1.symm)
 have hbw:w2.heap[D+1+1]?=some (.cells #[.slice vo vn vc] 99 (0,0)):=by rw [hw2];exact new_at (by simp [hs1])
 have hd2:=hE12.keep hd1
 have hs2:w2.heap.size=D+3:=by rw [hw2];simp [hs1]
 have hE2:=hE1.trans hE12
 have hit2:=HIT.out w2 hE2 (D+1) (D+1+1) D (by have:=HD.out;omega) hbl hbw (by omega) (by omega)
 have HI2:=Lib.hid hit2;have HD2:=Lib.hid hd2;have HE2:=Lib.hid hE2
 clear hw2 hE12 hbl hbw hd2 hE2 hit2 HIT hE1 hd1 hs1
 go_wp2_with fail
 refine wp_rangeF (xs:=FX) rfl (enters_of Tryz.func176 (by kernel_rfl) rfl) HI2.out (fun b h=>by omega) (fun _ x A ys h=>by obtain⟨v,rfl,_⟩:=h;rfl) ?hEs
  (fun pre W=>∃ so sn sc,W.heap[D]?=some (.cells #[.slice so sn sc] 99 (0,0))∧Ext w W∧(∀ p2 x,pre=p2++[x]→OneW W (.slice so sn sc) x.2))
  (fun _ _ _=>False) ?hC ?hI ?hIx ?h0 (fun ys t=>(t.setIfInBounds 8 (ys.getD 0 undef)).setIfInBounds 9 (ys.getD 1 undef)) ?assign ?body ?pan ?done ?stop
 case hEs=>
  rintro _ x A B ys ⟨v,rfl,hv⟩ ht hr
  exact⟨v,rfl,one_nocells hv ht hr⟩
 case hC=>
  rintro pre A ⟨so,sn,sc,h,_⟩
  exact⟨so,sn,sc,h⟩
 case hI=>
  rintro pre A B ⟨so,sn,sc,h1,h2,h3⟩ ht hr
  have ht':Turn (fun b=>b=w2.heap.size+1) A B:=ht.mono fun b _ h=>h.elim (fun h=>h.2.elim) id
  exact⟨so,sn,sc,ht'.heap h1 (by omega),Turn.after h2 ht' (fun b hb h=>by have:=HD.out;omega),fun p2 x hx=>one_nocells (h3 p2 x hx) ht' hr⟩
 case hIx=>exact fun _ _ _ _ h=>h.elim
 case h0=>
  intro W hW _
  exact⟨none,0,0,hW.keep HD2.out,HE2.out.trans hW,fun p2 x hx=>by have:=congrArg List.length hx;simp at this⟩
 case assign=>
  rintro _ pre x rest ys W Kn hx ⟨so,sn,sc,h1,h2,h3⟩ ⟨v,rfl,hv⟩ hK
  obtain⟨ao,c,rfl,hv2⟩:=hv
  have cD:=cell_of_one h1
  have fD:=free_of_one h1
  have hset:Turn (fun b=>b=D) W (W.setCell ⟨D,0,none⟩ (.slice ao x.2.length c)):=Turn.set1 W D 0 _
  have hheap:(W.setCell ⟨D,0,none⟩ (.slice ao x.2.length c)).heap[D]?=some (.cells #[.slice ao x.2.length c] 99 (0,0)):=by
   simp only [World.setCell,Array.getElem?_modify,h1];simp
  have hone:OneW (W.setCell ⟨D,0,none⟩ (.slice ao x.2.length c)) (.slice ao x.2.length c) x.2:=one_apart1 ⟨ao,c,rfl,hv2⟩ hset h1
  have hk:=hK _ hset ⟨ao,_,c,hheap,Turn.after h2 hset (fun b hb h=>by have:=HD.out;omega),fun p2 y hy=>by
   obtain⟨_,rfl⟩:=List.append_inj' hy rfl |>.imp id (fun h=>(List.cons.inj h).1)
   exact hone⟩
  have HK:=Lib.hid hk
  clear hk hK hset hheap hone h2 h3 hv2 hx
  gi_wp2
  exact HK.out
 case body=>
  rintro pre x rest ys W hx hsz ht hi
  refine wpIn_block ?_
  gi_wp2
  exact⟨Turn.refl _ _,hi⟩
 case pan=>
  rintro ch W hf ⟨so,sn,sc,h1,h2,h3⟩ hd hsz
  have hm:Marks D ({ target:=.collected w2.heap.size,args:=#[] }::[]) W:=Marks.cons (base:=D) trivial (by omega) hd (fun e he=>by cases he)
  cases DO with
  | some u=>simp at hf
  | none=>
   obtain rfl:failE=ch:=by simpa using hf
   refine bodyPostM_panic hm (fun w' ht' hs=>.inr ⟨rfl,rfl,?_⟩)
   exact Turn.after h2 ht' (fun b h1 h2=>by have:=h2.1;have:=HD.out;omega)
 case done=>
  rintro hf W ⟨so,sn,sc,h1,h2,h3⟩ hd hsz
  cases DO with
  | none=>simp at hf
  | some u=>
   obtain⟨p2,hp2⟩:=HFL.out u rfl
   have hone:=h3 p2 _ hp2
   have cD:=cell_of_one h1
   have fD:=free_of_one h1
   have hset:Turn (fun b=>b=D) W (W.setCell ⟨D,0,none⟩ (.slice so sn sc)):=Turn.set1 W D 0 _
   have hheap:(W.setCell ⟨D,0,none⟩ (.slice so sn sc)).heap[D]?=some (.cells #[.slice so sn sc] 99 (0,0)):=by
    simp only [World.setCell,Array.getElem?_modify,h1];simp
   have hone2:=one_apart1 hone hset h1
   have hext:=Turn.after h2 hset (fun b hb h=>by have:=HD.out;omega)
   have hm:Marks D ({ target:=.collected w2.heap.size,args:=#[] }::[]) (W.setCell ⟨D,0,none⟩ (.slice so sn sc)):=Marks.cons (base:=D) trivial (by omega) (hset.heap hd (by omega)) (fun e he=>by cases he)
   rw [hs2] at hm
   have HHE:=Lib.hid hheap;have HON:=Lib.hid hone2;have HEX:=Lib.hid hext;have HM:=Lib.hid hm
   clear hheap hone hone2 hext hm hset h1 h2 h3 hp2 hf hd HFL HI2
   go_wp2
   refine leavesM (v:=.slice so sn sc) _ _ HM.out fun w' ht' hs=>⟨results_cell_slice rfl rfl (by kernel_rfl) (ht'.heap HHE.out (Shut.not HHE.out rfl)),⟨_,rfl,?_,?_⟩⟩
   ·obtain⟨ao,c,hq,hw1,hw2⟩:=HON.out
    exact⟨ao,c,hq,⟨Rd.shut ht' hw1.1,hw1.2⟩,hw2⟩
   ·exact Turn.after HEX.out ht' (fun b h1 h2=>by have:=h2.1;have:=HD.out;omega)
 case stop=>exact fun _ _ _ _ _ _ h=>h.elim
end Go.Proofs.YtfdlhlghcbeblaaGreatDoor
set_option maxRecDepth 100000
set_option maxHeartbeats 16000000
namespace Go.Proofs.YtfdlhlghcbeblaaGreatDoor
open Go.RowKit Go.Ab
attribute [local go_sem] Oper.semAt_some wide_fn wide_depth
theorem attf_any{w:World}{DO:Option Wd}{E BL BW BO:Nat}{lo:Option Addr}{n lc:Nat}{vo:Option Addr}{vn vc:Nat}{so:Option Addr}{sn sc:Nat}(hE:w.heap[E]?=some (.cells #[.int .i64 0] 40 (0,0))) (hL:w.heap[BL]?=some (.cells #[.slice lo n lc] 26 (0,0))) (hW:w.heap[BW]?=some (.cells #[.slice vo vn vc] 99 (0,0))) (hO:w.heap[BO]?=some (.cells #[.slice so sn sc] 99 (0,0))) (hne:E≠BO)
  (hc:Calls Tryz.prog 82 #[.slice lo n lc,.slice vo vn vc] w fun e w'=>(∃ u v,DO=some u∧e=.returned v∧OneW w' v u∧Ext w w')∨(DO=none∧e=.panicked failE∧Ext w w')) :
  Calls Tryz.prog 153 #[.pointer (some ⟨E,0,none⟩),.pointer (some ⟨BL,0,none⟩),.pointer (some ⟨BW,0,none⟩),.pointer (some ⟨BO,0,none⟩)] w fun e w'=>e=.returned (.tuple #[])∧Turn (fun b=>b=E∨b=BO) w w' ∧
   ∃ so' sn' sc',w'.heap[BO]?=some (.cells #[.slice so' sn' sc'] 99 (0,0))∧((∃ u,DO=some u∧OneW w' (.slice so' sn' sc') u∧w'.heap[E]?=some (.cells #[.int .i64 0] 40 (0,0)))∨(DO=none∧w'.heap[E]?=some (.cells #[.int .i64 11] 40 (0,0)))):=by
 have cL:=cell_of_one hL
 have cW:=cell_of_one hW
 have HEE:=Lib.hid hE;have HOO:=Lib.hid hO;have HC:=Lib.hid hc
 clear hE hL hW hO hc
 go_enter_defers Tryz.func153,Tryz.ntmps153
 go_wp2_with fail
 refine HC.out.mono ?_
 rintro e w2 (⟨u,v,rfl,rfl,hone,hN⟩ | ⟨rfl,rfl,hN⟩)
 ·obtain⟨ao,c,rfl,hw1,hw2⟩:=hone
  have hO2:=hN.keep HOO.out
  have hE2:=hN.keep HEE.out
  have cO:=cell_of_one hO2
  have fO:=free_of_one hO2
  have hset:Turn (fun b=>b=BO) w2 (w2.setCell ⟨BO,0,none⟩ (.slice ao u.length c)):=Turn.set1 w2 BO 0 _
  have hheap:(w2.setCell ⟨BO,0,none⟩ (.slice ao u.length c)).heap[BO]?=some (.cells #[.slice ao u.length c] 99 (0,0)):=by
   simp only [World.setCell,Array.getElem?_modify,hO2];simp
  have hone2:=one_apart1 ⟨ao,c,rfl,hw1,hw2⟩ hset hO2
  have hE3:=hset.heap hE2 hne
  have hT:Turn (fun b=>b=E∨b=BO) w (w2.setCell ⟨BO,0,none⟩ (.slice ao u.length c)):=(Ext.of hN).trans (hset.mono fun b _ h=>.inr h)
  have HHE:=Lib.hid hheap;have HON:=Lib.hid hone2;have HE3:=Lib.hid hE3;have HT:=Lib.hid hT
  clear hheap hone2 hE3 hT hset hO2 hE2 hw1 hw2 hN HC cL cW HEE HOO
  go_wp2
  refine leaves_cons (f:=80) (args:=#[.pointer (some ⟨E,0,none⟩)]) (by simp) (by simp [go_sem]) ?_
  refine(rescue_idle _ _).mono ?_
  rintro e u' w'' ⟨rfl,rfl,rfl⟩
  refine⟨.tuple #[],results_none rfl _ _ _,rfl,HT.out,ao,_,c,HHE.out,.inl ⟨u,rfl,HON.out,HE3.out⟩⟩
 ·have hO2:=hN.keep HOO.out
  have hE2:=hN.keep HEE.out
  have cE:=cell_of_one hE2
  have fE:=free_of_one hE2
  have hset:Turn (fun b=>b=E) w2 (w2.setCell ⟨E,0,none⟩ (.int .i64 11)):=Turn.set1 w2 E 0 _
  have hheap:(w2.setCell ⟨E,0,none⟩ (.int .i64 11)).heap[E]?=some (.cells #[.int .i64 11] 40 (0,0)):=by
   simp only [World.setCell,Array.getElem?_modify,hE2];simp
  have hO3:=hset.heap hO2 (fun h=>hne h.symm)
  have hT:Turn (fun b=>b=E∨b=BO) w (w2.setCell ⟨E,0,none⟩ (.int .i64 11)):=(Ext.of hN).trans (hset.mono fun b _ h=>.inl h)
  have HHE:=Lib.hid hheap;have HO3:=Lib.hid hO3;have HT:=Lib.hid hT
  clear hheap hO3 hT hset hO2 hE2 hN HC cL cW HEE HOO
  go_wp2
  refine leaves_cons (f:=80) (args:=#[.pointer (some ⟨E,0,none⟩)]) (by simp) (by simp [go_sem]) ?_
  refine(rescue_bad _ [] _ 0 cE fE).mono ?_
  rintro e u' w'' ⟨rfl,rfl,rfl⟩
  simp [Leaves,settle,results,Tryz.results153,go_sem]
  exact⟨HT.out,⟨so,sn,sc,HO3.out⟩,HHE.out⟩
end Go.Proofs.YtfdlhlghcbeblaaGreatDoor
