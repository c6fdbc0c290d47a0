/- chron.Order.Allows, Copy; Before's errors. chron.Order.Levels. PLAIN: the relations that are said, and all that follows: the least transitive relation. PLAIN: the first order is possible; levels; the events by their levels are a possible order. Which lists are possible orders: by the events that have come, and by all pairs. Plain. PLAIN: what OrderNeeded's loops count; every order that explains all pairs is allowed by what is needed. -/
import Derived.Test.YtfdlhlghcbeblaaGreatDoorG42
import Derived.Test.YtfdlhlghcbeblaaGreatDoorG45
namespace Go.Proofs.YtfdlhlghcbeblaaGreatDoor
open Go.RowKit Go.Ab
def alGo(n:Nat)(R:Nat→Nat→Bool):List Int→List Nat→Bool→Option (List Nat × Bool)
 | [],d,b=>some (d,b)
 | x::l,d,b=>if isEv n x && !d.contains x.toNat then alGo n R l (d++[x.toNat]) (b && (List.range n).all fun a=>!R a x.toNat || d.contains a) else none
def allowsR(n:Nat)(R:Nat→Nat→Bool)(l:List Int):Bool × Int:=
 match alGo n R l [] true with
 | some (_,b)=>if l.length=n then(b,0) else(false,2)
 | none=>(false,2)
theorem alGo_append(n:Nat)(R:Nat→Nat→Bool):∀(l m:List Int) (d:List Nat) (b:Bool),alGo n R (l++m) d b=(alGo n R l d b).bind fun p=>alGo n R m p.1 p.2
 | [],m,d,b=>by simp [alGo]
 | x::l,m,d,b=>by
  simp only [List.cons_append,alGo]
  split
  ·exact alGo_append n R l m _ _
  ·rfl
set_option maxHeartbeats 4000000 in
theorem allows_any(b n:Nat)(R:Nat→Nat→Bool)(hn:n≤64)(w:World)(ho:OrdR w b n R)(v:Value)(L:List Int)(hv:Rd w v L.length 1 (ints L)) :
  Calls Tryz.prog 59 #[.pointer (some ⟨b,0,none⟩),v] w fun e w'=>e=.returned (.tuple #[.bool (allowsR n R L).1,.int .i64 (allowsR n R L).2])∧w=w':=by
 obtain⟨hl1,hm1,ap,cp,rfl,hR⟩:=hv
 unfold maxLen at hm1
 have cn:=ho.n
 have cm:=ho.made
 go_enter Tryz.func59,Tryz.ntmps59
 go_wp2
 go_loop [6,7,21] (fun dv iv cv=>∃(k:Nat) (d:List Nat) (is:Bool),k≤L.length∧cv=.int .i64 k∧dv=.int .u64 (setL n d)∧iv=.bool is∧alGo n R (L.take k) [] true=some (d,is)) (fun _ _ cv=>L.length - (intOf cv).toNat)
 case atStart=>exact⟨0,[],true,Nat.zero_le _,rfl,by simp [setL_nil],rfl,by simp [alGo]⟩
 case round=>
  obtain⟨k,d,is,hk,rfl,rfl,rfl,hal⟩:=hrel
  by_cases hlt:k<L.length
  ·obtain⟨g,off,rfl,hg,hc⟩:=hR (by omega)
   obtain⟨x,hx⟩:∃ x,L[k]=x:=⟨_,rfl⟩
   have c1:=hc k (by omega)
   rw [ints_getD _ _ hlt,show L.getD k 0=x by simp [List.getD_eq_getElem?_getD,hlt,hx]] at c1
   have htk:L.take (k+1)=L.take k++[x]:=by rw [List.take_succ_eq_append_getElem hlt,hx]
   have hstep:alGo n R (L.take (k+1)) [] true=alGo n R [x] d is:=by rw [htk,alGo_append,hal];rfl
   have hmono:alGo n R (L.take (k+1)) [] true=none→alGo n R L [] true=none:=by
    intro h
    rw [← List.take_append_drop (k+1) L,alGo_append,h];rfl
   simp only [alGo] at hstep
   by_cases hev:0≤x∧x<n
   ·have e1:=isEv_true hev.1 hev.2
    obtain⟨x,rfl⟩:=Int.eq_ofNat_of_zero_le hev.1
    have hxn:x<n:=by omega
    have hx64:(x:Int)<64:=by omega
    have b1:=shr_bit (setL n d) x (mask_lt64 hn _)
    have b3:(setL n d).testBit x=d.contains x:=by rw [setL,testBit_mask];simp;omega
    rw [b3] at b1
    have cB:=ho.bf x (by omega)
    have b2:(bits .andNot .u64 ((bfR n R x:Nat):Int) ((setL n d:Nat):Int) == 0)=(List.range n).all fun a=>!R a x || d.contains a:=andNot_zero hn _ _
    have b4:=setL_snoc hxn d
    have o1:=u64_or_shl (setL n d) x (mask_lt64 hn _) (by omega)
    rw [b4] at o1
    simp only [e1,Int.toNat_natCast,Bool.true_and] at hstep
    have HS:=Lib.hid hstep;have HM:=Lib.hid hmono;have HX:=Lib.hid hx
    clear hstep hmono hx hal b3 b4 htk hc hR hev
    by_cases hcd:d.contains x=true
    ·rw [hcd] at b1
     have HC:=Lib.hid hcd
     clear hcd
     go_wp2_with (go_at_call 108;refine(event_any b n _ w cn).mono ?_;rintro e w' ⟨rfl,rfl⟩)
     go_ret2
     have h1:=HM.out (by rw [HS.out,HC.out];rfl)
     exact⟨by simp [allowsR,h1],rfl⟩
    ·have hcd':d.contains x=false:=by simpa using hcd
     rw [hcd'] at b1
     have HC:=Lib.hid hcd'
     clear hcd hcd'
     go_wp2_with (go_at_call 108;refine(event_any b n _ w cn).mono ?_;rintro e w' ⟨rfl,rfl⟩)
     go_goals
     all_goals
      go_round
      case rel=>
       refine⟨k+1,d++[x],_,by omega,by first | rfl | go_num,rfl,rfl,?_⟩
       rw [HS.out,HC.out];simp_all
      case measure=>simp [intOf];omega
   ·have e1:=isEv_not hev
    have h1:=Lib.hid (hmono (by rw [hstep];simp [e1]))
    clear hmono hstep hal htk hx hc hR hev
    go_wp2_with (go_at_call 108;refine(event_any b n _ w cn).mono ?_;rintro e w' ⟨rfl,rfl⟩)
    go_ret2
    exact⟨by simp [allowsR,h1.out],rfl⟩
  ·obtain rfl:k=L.length:=by omega
   rw [List.take_length] at hal
   have HA:=Lib.hid hal
   clear hal hR hlt hk
   go_wp2
   go_goals
   all_goals
    rename_i hne _
    have hne':L.length≠n∨L.length=n:=by omega
    simp only [bne_iff_ne,ne_eq,bne_eq_false_iff_eq,Int.natCast_inj] at hne
    go_ret2
    exact⟨by simp [allowsR,HA.out,hne],rfl⟩
end Go.Proofs.YtfdlhlghcbeblaaGreatDoor
namespace Go.Proofs.YtfdlhlghcbeblaaGreatDoor
open Go.RowKit Go.Ab
attribute [local go_sem] Oper.semAt_some wide_fn wide_depth
def levAt(_n:Nat)(_R:Nat→Nat→Bool)(lv:Nat→Nat)(b:Nat)(l:List Nat):Nat:=l.foldl (fun m a=>max m (lv a+1)) (lv b)
def levStep(n:Nat)(R:Nat→Nat→Bool)(lv:Nat→Nat)(b:Nat):Nat→Nat:=upd lv b (levAt n R lv b ((List.range n).filter fun a=>R a b))
def levF(n:Nat)(R:Nat→Nat→Bool)(l:List Nat):Nat→Nat:=l.foldl (levStep n R) (fun _=>0)
def levelsL(n:Nat)(R:Nat→Nat→Bool):List Nat:=(List.range n).map (levF n R (firstL n R))
def lvRow(n:Nat)(lv:Nat→Nat):List Value:=ints (zs ((List.range n).map lv))
end Go.Proofs.YtfdlhlghcbeblaaGreatDoor
namespace Go.Ab
abbrev Bin:=Nat→Nat→Bool
def Sub(R Q:Bin):Prop:=∀ a b,R a b=true→Q a b=true
def Trans(Q:Bin):Prop:=∀ a b c,Q a b=true→Q b c=true→Q a c=true
def addL(R:Bin)(l:List (Nat × Nat)):Bin:=l.foldl (fun R p=>addR R p.1 p.2) R
def noR:Bin:=fun _ _=>false
def ltR(n:Nat):Bin:=fun a b=>decide (a<b) && decide (b<n)
def isCov(n:Nat)(R:Bin)(a b:Nat):Bool:=R a b && (List.range n).all fun c=>!(R a c && R c b)
end Go.Ab
namespace Go.Proofs.YtfdlhlghcbeblaaGreatDoor
open Go.RowKit Go.Ab
theorem snoc_ind{α:Type}{p:List α→Prop}(h0:p [])(h1:∀ l x,p l→p (l++[x])):∀ l,p l:=by
 intro l
 rw [← List.reverse_reverse l]
 induction l.reverse with
 | nil=>exact h0
 | cons x m ih=>rw [List.reverse_cons];exact h1 _ _ ih
def Good(n:Nat)(R:Bin)(l:List Nat):Prop:=∀ pre x post,l=pre++x::post→nextR n R pre=some x
theorem split_snoc{α:Type}{l pre post:List α}{x y:α}(h:l++[x]=pre++y::post):(post=[]∧pre=l∧y=x)∨∃ q,post=q++[x]∧l=pre++y::q:=by
 rcases List.eq_nil_or_concat post with rfl | ⟨q,z,rfl⟩
 ·have h1:=List.append_inj' h rfl
  exact .inl ⟨rfl,h1.1.symm,by simpa using h1.2.symm⟩
 ·right
  have e:pre++y::(q++[z])=(pre++y::q)++[z]:=by simp
  rw [List.concat_eq_append,e] at h
  have h1:=List.append_inj' h rfl
  have hz:x=z:=by simpa using h1.2
  exact⟨q,by simp [hz],h1.1⟩
theorem Good.nil(n:Nat)(R:Bin):Good n R []:=fun pre x post h=>by simp at h
theorem Good.snoc{n:Nat}{R:Bin}{l:List Nat}{x:Nat}(h:Good n R l)(hx:nextR n R l=some x):Good n R (l++[x]):=by
 intro pre y post e
 rcases split_snoc e with ⟨_,rfl,rfl⟩ | ⟨q,_,e'⟩
 ·exact hx
 ·exact h pre y q e'
def Topo(n:Nat)(R:Bin)(l:List Nat):Prop:=∀ pre x post,l=pre++x::post→x<n∧rdy n R pre x=true
theorem Topo.front{n:Nat}{R:Bin}{l m:List Nat}(h:Topo n R (l++m)):Topo n R l:=fun pre x post e=>h pre x (post++m) (by rw [e];simp)
theorem Topo.allows{n:Nat}{R:Bin}:∀ {l:List Nat},Topo n R l→alGo n R (zs l) [] true=some (l,true):=by
 intro l
 refine snoc_ind (p:=fun l=>Topo n R l→alGo n R (zs l) [] true=some (l,true)) ?_ ?_ l
 ·intro _;rfl
 ·intro l x ih h
  obtain⟨hx,hr⟩:=h l x [] rfl
  rw [zs_append,alGo_append,ih h.front]
  simp only [rdy,Bool.and_eq_true] at hr
  have e1:isEv (n:Int) (x:Int)=true:=isEv_true (by omega) (by omega)
  simp only [Option.bind_some,zs,List.map_cons,List.map_nil,alGo,e1,Int.toNat_natCast,hr.1,hr.2,Bool.and_self,if_true]
theorem Topo.allowsR{n:Nat}{R:Bin}{l:List Nat}(h:Topo n R l)(hl:l.length=n):allowsR n R (zs l)=(true,0):=by
 simp only [Go.Proofs.YtfdlhlghcbeblaaGreatDoor.allowsR,h.allows,zs_length,hl,if_true]
def lvl(n:Nat)(R:Bin):Nat→Nat:=levF n R (firstL n R)
def byLev(n:Nat)(lv:Nat→Nat)(k:Nat):List Nat:=(List.range k).flatMap fun level=>(List.range n).filter fun b=>lv b == level
def lex(lv:Nat→Nat)(a b:Nat):Prop:=lv a<lv b∨(lv a=lv b∧a<b)
end Go.Proofs.YtfdlhlghcbeblaaGreatDoor
namespace Go.Proofs.YtfdlhlghcbeblaaGreatDoor
open Go.RowKit Go.Ab
def okP(n:Nat)(L:List Int)(k:Nat):Prop:=∀ i,i<k→∃ a:Nat,a<n∧L[i]?=some (a:Int)∧∀ j,j<i→L[j]?≠some (a:Int)
theorem okP_le{n:Nat}{L:List Int}{k m:Nat}(h:okP n L k)(hm:m≤k):okP n L m:=fun i hi=>h i (by omega)
def possK(n:Nat)(R:Bin)(M:List Nat)(k:Nat):Bool:=(List.range k).all fun i=>(List.range n).all fun a=>!R a (M.getD i 0) || (M.take i).contains a
theorem possK_succ(n:Nat)(R:Bin)(M:List Nat)(k:Nat):possK n R M (k+1)=(possK n R M k && (List.range n).all fun a=>!R a (M.getD k 0) || (M.take k).contains a):=by
 unfold possK;rw [List.range_succ,List.all_append];simp
theorem map_get{L:List Int}{i a:Nat}(h:L[i]?=some (a:Int)):(L.map Int.toNat)[i]?=some a:=by
 rw [List.getElem?_map,h];rfl
theorem okP_lt{n:Nat}{L:List Int}{k:Nat}(h:okP n L k):k≤L.length:=by
 apply Nat.le_of_not_lt;intro hlt
 obtain⟨a,_,h2,_⟩:=h L.length hlt
 simp at h2
theorem alGo_ok{n:Nat}(R:Bin){L:List Int}:∀(k:Nat),okP n L k→alGo n R (L.take k) [] true=some ((L.map Int.toNat).take k,possK n R (L.map Int.toNat) k)
 | 0,_=>by simp [alGo,possK]
 | k+1,h=>by
  have hk:=okP_lt h
  obtain⟨a,ha,e,hne⟩:=h k (by omega)
  have hlt:k<L.length:=by omega
  have hx:L[k]=(a:Int):=by
   rw [List.getElem?_eq_getElem hlt] at e;exact Option.some.inj e
  rw [List.take_succ_eq_append_getElem hlt,alGo_append,alGo_ok R k (okP_le h (by omega)),hx]
  show alGo n R [(a:Int)] _ _=_
  have hc:((L.map Int.toNat).take k).contains a=false:=by
   rw [← Bool.not_eq_true,List.contains_iff_mem]
   intro hm
   obtain⟨j,hj,e2⟩:=List.getElem_of_mem hm
   simp only [List.length_take,List.length_map] at hj
   obtain⟨b,_,e3,_⟩:=h j (by omega)
   have e4:=map_get e3
   have:a=b:=by
    rw [List.getElem_take] at e2
    rw [List.getElem?_eq_getElem (by simp;omega)] at e4
    rw [← e2];exact Option.some.inj e4
   subst this
   exact hne j (by omega) e3
  have hm:=map_get e
  unfold alGo
  rw [if_pos (by rw [isEv_true (by omega) (by omega),Int.toNat_natCast,hc];rfl)]
  unfold alGo
  rw [possK_succ,Int.toNat_natCast]
  congr 2
  ·rw [List.take_add_one,hm];rfl
  ·simp [List.getD_eq_getElem?_getD,hm]
theorem allowsR_ok{n:Nat}{R:Bin}{L:List Int}(hl:L.length=n)(h:okP n L n):allowsR n R L=(possK n R (L.map Int.toNat) n,0):=by
 have:=alGo_ok R n h
 rw [← hl,List.take_length] at this
 unfold allowsR
 rw [hl] at this
 rw [this]
 simp only [hl,if_true]
end Go.Proofs.YtfdlhlghcbeblaaGreatDoor
namespace Go.Proofs.YtfdlhlghcbeblaaGreatDoor
open Go.RowKit Go.Ab
def alwTo(L:List (List Nat)) (x y i:Nat):Bool:=decide (x≠y) && (L.take i).all fun o=>beforeB o x y
theorem alwTo_succ{L:List (List Nat)} {x y i:Nat} (hi:i<L.length):alwTo L x y (i+1)=(alwTo L x y i && beforeB L[i] x y):=by
 unfold alwTo
 rw [List.take_succ_eq_append_getElem hi,List.all_append,Bool.and_assoc]
 simp
theorem alwTo_all{L:List (List Nat)} {x y:Nat}:alwTo L x y L.length=alwaysB L x y:=by
 unfold alwTo alwaysB
 rw [List.take_length]
theorem alwTo_stop{L:List (List Nat)} {x y i:Nat} (h:alwTo L x y i=false):alwaysB L x y=false:=by
 have h1:alwaysB L x y=true→alwTo L x y i=true:=by
  unfold alwTo alwaysB
  simp only [Bool.and_eq_true,List.all_eq_true]
  exact fun⟨a,b⟩=>⟨a,fun o ho=>b o (List.mem_of_mem_take ho)⟩
 cases hq:alwaysB L x y with
 | false=>rfl
 | true=>rw [h1 hq] at h;cases h
def noY(o:List Nat)(y j:Nat):Bool:=!(o.take j).contains y
theorem noY_succ{o:List Nat}{y j:Nat}(hj:j<o.length):noY o y (j+1)=(noY o y j && !(o[j] == y)):=by
 unfold noY
 have h:(o.take j++[o[j]]).contains y=((o.take j).contains y || o[j] == y):=by
  rw [Bool.eq_iff_iff,List.contains_iff_mem,Bool.or_eq_true,List.contains_iff_mem,List.mem_append,List.mem_singleton,beq_iff_eq]
  exact or_congr Iff.rfl eq_comm
 rw [List.take_succ_eq_append_getElem hj,h,Bool.not_or]
theorem noY_bef{o:List Nat}{x y:Nat}:noY o y (o.idxOf x)=beforeB o x y:=rfl
theorem rowsN_pre(n:Nat)(R:Nat→Nat→Bool)(x:Nat):∀ d,rowsN n R x <+: rowsN n R (x+d)
 | 0=>List.prefix_rfl
 | d+1=>by
  rw [← Nat.add_assoc,rowsN_succ]
  exact(rowsN_pre n R x d).trans (List.prefix_append _ _)
theorem rowN_pre(R:Nat→Nat→Bool)(x y:Nat):∀ d,rowN R x y <+: rowN R x (y+d)
 | 0=>List.prefix_rfl
 | d+1=>by
  rw [← Nat.add_assoc,rowN_succ]
  exact(rowN_pre R x y d).trans (List.prefix_append _ _)
theorem pairs_rows(n:Nat)(R:Nat→Nat→Bool):pairsR n R=rowsN n R n:=rfl
theorem need_at{n:Nat}{R:Nat→Nat→Bool}{x y:Nat}(hx:x<n)(hy:y<n)(h:R x y=true):(pairsR n R)[(rowsN n R x).length+(rowN R x y).length]?=some ((x:Int),(y:Int)):=by
 have h1:rowsN n R x++rowN R x (y+1) <+: rowsN n R (x+1):=by
  rw [rowsN_succ]
  refine(List.prefix_append_right_inj _).2 ?_
  have:=rowN_pre R x (y+1) (n - (y+1))
  rwa [show y+1+(n - (y+1))=n by omega] at this
 have h2:=h1.trans (rowsN_pre n R (x+1) (n - (x+1)))
 rw [show x+1+(n - (x+1))=n by omega] at h2
 obtain⟨t,ht⟩:=h2
 rw [pairs_rows,← ht,rowN_succ,if_pos h,List.append_assoc,List.getElem?_append_right (by omega),Nat.add_sub_cancel_left,List.append_assoc,List.getElem?_append_right (Nat.le_refl _),Nat.sub_self]
 rfl
theorem allows_need{n:Nat}{L:List (List Nat)} (hL:Perms n L) {o:List Nat} (ho:o∈L) (hl:o.length=n):allowsR n (needR (pairsOf L)) (o.map fun(i:Nat)=>(i:Int))=(true,0):=by
 obtain⟨hnd,hmem⟩:=hL o ho
 have hne:L≠[]:=List.ne_nil_of_mem ho
 have hok:okP n (o.map fun(i:Nat)=>(i:Int)) n:=fun i hi=>by
  have hio:i<o.length:=by omega
  refine⟨o[i],(hmem _).1 (List.getElem_mem hio),?_,fun j hj e=>?_⟩
  ·rw [List.getElem?_map,List.getElem?_eq_getElem hio];rfl
  ·rw [List.getElem?_map,List.getElem?_eq_getElem (by omega:j<o.length)] at e
   simp only [Option.map_some,Option.some.injEq,Int.natCast_inj] at e
   have h1:=hnd.idxOf_getElem j (by omega)
   have h2:=hnd.idxOf_getElem i hio
   rw [e] at h1
   omega
 rw [allowsR_ok (by rw [List.length_map,hl]) hok]
 have hm:(o.map fun(i:Nat)=>(i:Int)).map Int.toNat=o:=by
  rw [List.map_map]
  exact List.map_id _
 rw [hm]
 have hp:possK n (needR (pairsOf L)) o n=true:=by
  unfold possK
  rw [List.all_eq_true]
  intro i hi
  rw [List.all_eq_true]
  intro a ha
  have hi':i<o.length:=by rw [hl];exact List.mem_range.1 hi
  rw [List.getD_eq_getElem?_getD,List.getElem?_eq_getElem hi',Option.getD_some]
  cases hq:needR (pairsOf L) a o[i] with
  | false=>rfl
  | true=>
   obtain⟨_,_,h⟩:=(needR_iff hL hne).1 hq
   have h1:=h o ho
   rw [hnd.idxOf_getElem i hi'] at h1
   rw [Bool.not_true,Bool.false_or,List.contains_iff_mem]
   exact List.mem_take_iff_getElem.2 ⟨o.idxOf a,by omega,List.getElem_idxOf (by omega)⟩
 rw [hp]
end Go.Proofs.YtfdlhlghcbeblaaGreatDoor
