/- PLAIN: what is needed is a strict order of the laws. PLAIN: what an order explains: derivation by the reference, and step by step; the reference's values of chapter 14 are the program's. order.Matters (printed by genmatt.py out of matt.txt). PLAIN: the examples of chapter 14. -/
import Derived.Test.YtfdlhlghcbeblaaGreatDoorH37
import Derived.Test.YtfdlhlghcbeblaaGreatDoorH29
import Derived.Test.YtfdlhlghcbeblaaGreatDoorH30
import Derived.Test.YtfdlhlghcbeblaaGreatDoorH31
import Derived.Test.YtfdlhlghcbeblaaGreatDoorH35
import Derived.Test.YtfdlhlghcbeblaaGreatDoorH36
namespace Go.Proofs.YtfdlhlghcbeblaaGreatDoor
open Go.RowKit Go.Ab
def Perms(n:Nat)(L:List (List Nat)):Prop:=∀ x∈L,x.Nodup/\∀ a,a∈x↔a<n
theorem orders_perm:∀(n:Nat),∀ x∈permsF n (List.range n),x.Nodup/\∀ a,a∈x↔a<n:=by
 have key:∀(n:Nat) (av:List Nat),av.Nodup->av.length=n->∀ x∈permsF n av,x.Nodup/\∀ a,a∈x↔a∈av:=by
  intro n
  induction n with
  | zero=>
   intro av _ hl x hx
   obtain rfl:av=[]:=List.eq_nil_of_length_eq_zero hl
   simp [permsF] at hx
   subst hx
   exact⟨List.nodup_nil,fun a=>Iff.rfl⟩
  | succ n ih=>
   intro av hnd hl x hx
   unfold permsF at hx
   obtain⟨i,hi,h⟩:=List.mem_flatMap.1 hx
   obtain⟨y,hy,rfl⟩:=List.mem_map.1 h
   have hlen:(av.filter (· != i)).length=n:=by
    obtain⟨f,hf,e⟩:=List.mem_iff_getElem.1 hi
    have:=filter_erase hnd hf
    rw [e] at this
    rw [this,List.length_eraseIdx_of_lt hf]
    omega
   obtain⟨h1,h2⟩:=ih (av.filter (· != i)) (hnd.filter _) hlen y hy
   refine⟨List.nodup_cons.2 ⟨fun hm=>?_,h1⟩,fun a=>?_⟩
   ·have:=(h2 i).1 hm
    simp at this
   ·rw [List.mem_cons,h2 a,List.mem_filter]
    constructor
    ·rintro(rfl | h)
     ·exact hi
     ·exact h.1
    ·intro h
     by_cases e:a=i
     ·exact .inl e
     ·exact .inr ⟨h,by simpa using e⟩
 intro n x hx
 have:=key n (List.range n) List.nodup_range (by simp) x hx
 exact⟨this.1,fun a=>by rw [this.2 a,List.mem_range]⟩
structure Und (n:Nat) (R Rk:Nat->Nat->Bool) (l:List (Int × Int)):Prop where
 rel:Rel n Rk
 le:∀ a b,Rk a b=true->R a b=true
 all:∀ a b:Nat,((a:Int),(b:Int))∈l->Rk a b=true
theorem Und.start{n:Nat}{R:Nat->Nat->Bool}:Und n R (fun _ _=>false) []:=⟨Rel.empty n,(fun _ _ h=>by cases h),(fun _ _ h=>by cases h)⟩
theorem isEv_nat{n a:Nat}(h:a<n):isEv n (a:Int)=true:=by unfold isEv;simp;omega
theorem Und.step{n:Nat}{R Rk:Nat->Nat->Bool}{l:List (Int × Int)} {a b:Nat} (hR:Rel n R) (h:Und n R Rk l) (hab:R a b=true):befC n Rk (a:Int) (b:Int)=0/\Und n R (befN n Rk (a:Int) (b:Int)) (l++[((a:Int),(b:Int))]):=by
 obtain⟨ha,hb⟩:=hR.dom a b hab
 have hne:a≠b:=fun e=>by subst e;rw [hR.irr] at hab;cases hab
 have hba:Rk b a=false:=by
  cases e:Rk b a with
  | false=>rfl
  | true=>have:=hR.asym hab;rw [h.le b a e] at this;cases this
 have h0:befC n Rk (a:Int) (b:Int)=0:=by
  rw [befC_zero]
  refine⟨isEv_nat ha,isEv_nat hb,by omega,?_⟩
  unfold isR
  rw [isEv_nat ha,isEv_nat hb]
  simpa using hba
 refine⟨h0,⟨befN_rel h.rel _ _,fun i k hik=>?_,fun i k hik=>?_⟩⟩
 ·unfold befN at hik
  rw [if_pos h0] at hik
  unfold addR at hik
  simp only [Int.toNat_natCast,Bool.or_eq_true,Bool.and_eq_true,beq_iff_eq] at hik
  rcases hik with hik | ⟨h1,h2⟩
  ·exact h.le _ _ hik
  ·have q1:i=a\/R i a=true:=h1.imp id (h.le _ _)
   have q2:k=b\/R b k=true:=h2.imp id (h.le _ _)
   rcases q1 with rfl | q1
   ·rcases q2 with rfl | q2
    ·exact hab
    ·exact hR.tr _ _ _ hab q2
   ·rcases q2 with rfl | q2
    ·exact hR.tr _ _ _ q1 hab
    ·exact hR.tr _ _ _ q1 (hR.tr _ _ _ hab q2)
 ·unfold befN
  rw [if_pos h0]
  unfold addR
  simp only [Int.toNat_natCast,Bool.or_eq_true,Bool.and_eq_true,beq_iff_eq]
  rcases List.mem_append.1 hik with hik | hik
  ·exact .inl (h.all _ _ hik)
  ·rw [List.mem_singleton,Prod.mk.injEq] at hik
   exact .inr ⟨.inl (by omega),.inl (by omega)⟩
theorem Und.done{n:Nat}{R Rk:Nat->Nat->Bool}(hR:Rel n R)(h:Und n R Rk (pairsR n R)):Rk=R:=by
 funext a b
 rw [Bool.eq_iff_iff]
 exact⟨h.le a b,fun e=>h.all a b (mem_pairsR.2 ⟨a,b,rfl,(hR.dom a b e).1,(hR.dom a b e).2,e⟩)⟩
end Go.Proofs.YtfdlhlghcbeblaaGreatDoor
namespace Go.Proofs.YtfdlhlghcbeblaaGreatDoor
open Go.RowKit Go.Ab
theorem firstE_zero{l:List Int}(h:firstE l=0):∀ x∈l,x=0:=by
 induction l with
 | nil=>intro x hx;cases hx
 | cons e l ih=>
  unfold firstE at h
  split at h
  ·rename_i he
   intro x hx
   rcases List.mem_cons.1 hx with rfl | hx
   ·exact he
   ·exact ih h x hx
  ·rename_i he;exact absurd h he
theorem ordE_zero{LD:List LawD}{QS:List (Wd × Wd)} (h:ordE LD QS=0):LD.length<=6/\(∀ l∈LD,lawB l=true)/\QS.length<=32/\∀ q∈QS,wE q.1=0/\wE q.2=0:=by
 obtain⟨h1,h2,h3,h4⟩:=ordE_six h
 refine⟨h1,fun l hl=>List.all_eq_true.1 h2 l hl,h3,fun q hq=>?_⟩
 have:=firstE_zero h4 _ (List.mem_map.2 ⟨q,hq,rfl⟩)
 unfold wpE at this
 split at this
 ·exact⟨by assumption,this⟩
 ·rename_i h5;exact absurd this h5
theorem runO_none(LD:List LawD):∀ ol:List Nat,runO LD ol none=none
 | []=>rfl
 | x::ol=>by
  unfold runO
  rw [List.foldl_cons]
  cases LD[x]? with
  | none=>exact runO_none LD ol
  | some l=>exact runO_none LD ol
theorem runO_cons(LD:List LawD)(x:Nat)(ol:List Nat)(s:Option Wd):runO LD (x::ol) s=runO LD ol (match LD[x]? with | some l=>stepO l s | none=>s):=rfl
theorem derO_run(LD:List LawD):∀(ol:List Nat) (u:Wd),derO (ol.filterMap fun x=>LD[x]?) u=runO LD ol (some u)
 | [],_=>rfl
 | x::ol,u=>by
  rw [runO_cons,List.filterMap_cons]
  cases h:LD[x]? with
  | none=>exact derO_run LD ol u
  | some l=>
   show (if trE l u=0 then derO (ol.filterMap fun x=>LD[x]?) (appL l u) else none)=runO LD ol ((some u).bind fun u=>if trE l u=0 then some (appL l u) else none)
   rw [Option.bind_some]
   by_cases ht:trE l u=0
   ·rw [if_pos ht,if_pos ht];exact derO_run LD ol _
   ·rw [if_neg ht,if_neg ht,runO_none]
theorem putL_map(ps:LawsL)(ol:List Nat):(putL' ps ol).map (·.1)=ol.filterMap fun x=>(ps.map (·.1))[x]?:=by
 unfold putL'
 rw [List.map_filterMap]
 congr 1
 funext x
 rw [List.getElem?_map]
theorem explR_run{ps:LawsL}{ol:List Nat}{u v:Wd}(hl:∀ l∈ps.map (·.1),lawB l=true) (hn:ol.length<=64) (hu:wE u=0):explR ps ol u v=xB (runO (ps.map (·.1)) ol (some u)) v:=by
 have h0:lawsE ((putL' ps ol).map (·.1))=0:=by
  unfold lawsE
  have h1:((putL' ps ol).map (·.1)).length<=64:=by
   rw [List.length_map]
   unfold putL'
   exact Nat.le_trans (List.length_filterMap_le _ _) hn
  rw [if_neg (by omega),if_pos]
  rw [List.all_eq_true]
  intro l h
  obtain⟨p,hp,rfl⟩:=List.mem_map.1 h
  exact hl _ (List.mem_map.2 ⟨p,putL_mem hp,rfl⟩)
 have h2:lwsE ((putL' ps ol).map (·.1)) u=0:=by unfold lwsE;rw [if_pos h0,hu]
 have h3:derO ((putL' ps ol).map (·.1)) u=runO (ps.map (·.1)) ol (some u):=by rw [putL_map,derO_run]
 unfold explR
 rw [<-h3]
 cases hd:derO ((putL' ps ol).map (·.1)) u with
 | none=>
  rw [(derE_none h2 hd).1]
  rfl
 | some t=>
  rw [(derE_some h2 hd).1,(derE_some h2 hd).2]
  simp [xB]
theorem expls_fit{ps:LawsL}{qs:PairsL}{ol:List Nat}(h:ordE (ps.map (·.1)) (qs.map (·.1))=0) (hn:ol.length<=64):explsR ps ol qs=fitL (ps.map (·.1)) ol qs:=by
 obtain⟨_,h2,_,h4⟩:=ordE_zero h
 unfold explsR fitL
 apply List.map_congr_left
 intro q hq
 exact explR_run h2 hn (h4 q.1 (List.mem_map.2 ⟨q,hq,rfl⟩)).1
theorem findIdx_idxB(l:List Bool):idxB l false=if l.findIdx (fun b=>!b)=l.length then -1 else((l.findIdx fun b=>!b:Nat):Int):=by
 unfold idxB
 cases h:l.findIdx? fun b=>b == false with
 | none=>
  rw [List.findIdx?_eq_none_iff] at h
  have:l.findIdx (fun b=>!b)=l.length:=List.findIdx_eq_length_of_false fun x hx=>by have:=h x hx;cases x <;> simp_all
  rw [if_pos this]
 | some i=>
  obtain⟨hi,h1,h2⟩:=List.findIdx?_eq_some_iff_getElem.1 h
  have:l.findIdx (fun b=>!b)=i:=by
   rw [List.findIdx_eq hi]
   exact⟨by cases hb:l[i] <;> simp_all,fun j hj=>by have:=h2 j hj;cases hb:l[j] <;> simp_all⟩
  rw [this,if_neg (by omega)]
theorem firstR_all{ps:LawsL}{qs:PairsL}{ol:List Nat}:firstR ps ol qs=qs.length↔(explsR ps ol qs).all id=true:=by
 have hl:(explsR ps ol qs).length=qs.length:=by unfold explsR;rw [List.length_map]
 unfold firstR
 rw [<-hl,List.findIdx_eq_length,List.all_eq_true]
 constructor
 ·intro h x hx;have:=h x hx;simpa using this
 ·intro h x hx;have:=h x hx;simp at this;simp [this]
theorem perm_len{xs:List Int}{n:Nat}(h:permB xs n=true):(natsI xs).length=n/\xs.length=n:=by
 have h1:=(perm_nats h).2.2.1.length_eq
 rw [List.length_range] at h1
 exact⟨h1,by unfold natsI at h1;rwa [List.length_map] at h1⟩
theorem fits_same{ps:LawsL}{qs:PairsL}{xs:List Int}:rfitI ps xs qs=fitsI (ps.map (·.1)) xs qs/\rfitN ps xs qs=fitsN (ps.map (·.1)) xs qs:=by
 unfold rfitI rfitN fitsI fitsN
 by_cases h:withE (ps.map (·.1)) xs (qs.map (·.1))=0
 ·obtain⟨h1,h2⟩:=withE_ok h
  have h6:=(ordE_zero h1).1
  have hl:=(perm_len h2).1
  have he:=expls_fit (ol:=natsI xs) h1 (by omega)
  have hq:(fitL (ps.map (·.1)) (natsI xs) qs).length=qs.length:=by unfold fitL;rw [List.length_map]
  have hf:firstR ps (natsI xs) qs=(fitL (ps.map (·.1)) (natsI xs) qs).findIdx fun b=>!b:=by unfold firstR;rw [he]
  have hle:(fitL (ps.map (·.1)) (natsI xs) qs).findIdx (fun b=>!b)<=(fitL (ps.map (·.1)) (natsI xs) qs).length:=List.findIdx_le_length
  rw [if_pos h,if_pos h,if_pos h,if_pos h,hf]
  unfold fitsIdx
  rw [findIdx_idxB,hq]
  by_cases h3:(fitL (ps.map (·.1)) (natsI xs) qs).findIdx (fun b=>!b)=qs.length
  ·rw [if_pos h3,if_pos h3]
   refine⟨by decide,?_⟩
   rw [decide_eq_false (by simpa using h3)];decide
  ·rw [if_neg h3,if_neg h3]
   refine⟨by omega,?_⟩
   rw [decide_eq_true h3,decide_eq_true (by omega)]
 ·rw [if_neg h,if_neg h,if_neg h,if_neg h]
  exact⟨rfl,rfl⟩
end Go.Proofs.YtfdlhlghcbeblaaGreatDoor
set_option maxRecDepth 100000
set_option maxHeartbeats 16000000
namespace Go.Proofs.YtfdlhlghcbeblaaGreatDoor
open Go.RowKit Go.Ab
attribute [local go_sem] Oper.semAt_some wide_fn wide_depth
def swapN(l:List Nat)(i:Nat):List Nat:=(l.set i (l.getD (i+1) 0)).set (i+1) (l.getD i 0)
def exB(F G:List Bool):Bool:=(List.range F.length).any fun k=>F.getD k false && !G.getD k false
def mattB(LD:List LawD)(qs:PairsL)(l:List Nat)(i:Nat):Bool:=exB (fitL LD l qs) (fitL LD (swapN l i) qs)
def mattL(LD:List LawD)(xs:List Int)(qs:PairsL):List Nat:=if withE LD xs (qs.map (·.1))=0 then(List.range (xs.length - 1)).filter (mattB LD qs (natsI xs)) else []
theorem swapN_length(l:List Nat)(i:Nat):(swapN l i).length=l.length:=by unfold swapN;simp
theorem swapN_mem{l:List Nat}{i n:Nat}(hi:i+1<l.length)(h:∀ x∈l,x<n):∀ x∈swapN l i,x<n:=by
 intro x hx
 unfold swapN at hx
 have h0:∀ j,j<l.length->l.getD j 0<n:=fun j hj=>by rw [List.getD_eq_getElem?_getD,List.getElem?_eq_getElem hj];exact h _ (List.getElem_mem hj)
 rcases List.mem_or_eq_of_mem_set hx with hx | rfl
 ·rcases List.mem_or_eq_of_mem_set hx with hx | rfl
  ·exact h x hx
  ·exact h0 _ (by omega)
 ·exact h0 _ (by omega)
theorem natV_swap(l:List Nat)(i:Nat):((natV l).set i (.int .i64 (l.getD (i+1) 0:Nat))).set (i+1) (.int .i64 (l.getD i 0:Nat))=natV (swapN l i):=by
 unfold natV swapN
 rw [List.map_set,List.map_set]
def exTo(F G:List Bool)(k:Nat):Prop:=∀ j,j<k->(F.getD j false && !G.getD j false)=false
theorem exTo_succ{F G:List Bool}{k:Nat}(h:exTo F G k)(h1:(F.getD k false && !G.getD k false)=false):exTo F G (k+1):=fun j hj=>by
 by_cases e:j=k
 ·subst e;exact h1
 ·exact h j (by omega)
theorem exTo_all{F G:List Bool}{k:Nat}(hk:F.length<=k)(h:exTo F G k):exB F G=false:=by
 unfold exB
 rw [List.any_eq_false]
 intro j hj
 rw [h j (by have:=List.mem_range.1 hj;omega)]
 decide
theorem exB_hit{F G:List Bool}{k:Nat}(hk:k<F.length)(h1:(F.getD k false && !G.getD k false)=true):exB F G=true:=by
 unfold exB
 rw [List.any_eq_true]
 exact⟨k,List.mem_range.2 hk,h1⟩
theorem filter_range_succ(q:Nat->Bool)(k:Nat):(List.range (k+1)).filter q=(List.range k).filter q++if q k=true then [k] else []:=by
 rw [List.range_succ,List.filter_append]
 cases h:q k <;> simp [h]
theorem own_free{w:World}{base:Nat}{e:TypeId}{g n cap j:Nat}{xs:List Value}(h:w.ownsRow base e 1 (.slice (some ⟨g,0,none⟩) n cap) n xs) (_hj:j<n):w.frozen? ⟨g,j,none⟩=false:=by
 obtain⟨cur,hc⟩:=own_block_ty h rfl
 simp [World.frozen?,hc]
def MatSt(lo oo po fo:Option Addr)(n lc on oc m pc fc mx B0:Nat)(w2:World)(P:Nat->List Nat)(a:Act)(W:World):Prop:=∃(i:Nat) (ao:Option Addr) (c:Nat),i<=mx/\a.defers=[]/\(a.tmps.size=76/\a.tmps.getD 0 undef=.slice lo n lc/\a.tmps.getD 1 undef=.slice oo on oc/\a.tmps.getD 2 undef=.slice po m pc/\a.tmps.getD 9 undef=.slice fo m fc/\a.tmps.getD 10 undef=.slice ao (P i).length c/\a.tmps.getD 29 undef=.int .i64 mx/\a.tmps.getD 30 undef=.int .i64 i)/\W.ownsRow B0 3 1 (.slice ao (P i).length c) (P i).length (natV (P i))/\Ext w2 W
theorem matters_any{w:World}{ps:LawsL}{qs:PairsL}{lo:Option Addr}{n lc:Nat}{oo:Option Addr}{on oc:Nat}{xs:List Int}{po:Option Addr}{m pc:Nat}(hl:LawsAt w (.slice lo n lc) ps) (hn:ps.length=n) (ho:Rd w (.slice oo on oc) on 1 (intV xs)) (hon:xs.length=on) (hp:PairsAt w (.slice po m pc) qs) (hm:qs.length=m) (hT:Tab w) :
  Calls Tryz.prog 28 #[.slice lo n lc,.slice oo on oc,.slice po m pc] w fun e w'=>∃ ao c,e=.returned (.tuple #[.slice ao (mattL (ps.map (·.1)) xs qs).length c,.int .i64 (withE (ps.map (·.1)) xs (qs.map (·.1)))])/\Rd w' (.slice ao (mattL (ps.map (·.1)) xs qs).length c) (mattL (ps.map (·.1)) xs qs).length 1 (natV (mattL (ps.map (·.1)) xs qs))/\Ext w w':=by
 have hwith:=fun(V:World) (hE:Ext w V)=>with_any (hl.ext hE) hn (ho.ext hE) hon (pairs_ext hp hE) hm (hT.keep hE id)
 have hm2:withE (ps.map (·.1)) xs (qs.map (·.1))=0->m<=32/\on<=6:=fun h=>by
  have h1:=withE_ok h
  have h2:=ordE_six h1.1
  have h3:=(perm_nats h1.2).2.2.1.length_eq
  unfold natsI at h3
  simp at h3 h2
  omega
 have hby:=fun(h:withE (ps.map (·.1)) xs (qs.map (·.1))=0) (V:World) (hE:Ext w V) (ol:List Nat) (yo:Option Addr) (yc:Nat) (hy:Rd V (.slice yo on yc) on 1 (natV ol)) (hyl:ol.length=on) (hlt:∀ x∈ol,x<n)=>by_any (hl.ext hE) hn hy hyl hlt (pairs_ext hp hE) hm (by have:=(hm2 h).1;omega) (hT.keep hE id)
 have hnat:withE (ps.map (·.1)) xs (qs.map (·.1))=0->natV (natsI xs)=intV xs/\∀ x∈natsI xs,x<n:=fun h=>by
  have h1:=(withE_ok h).2
  rw [List.length_map,hn] at h1
  exact⟨(perm_nats h1).1,(perm_nats h1).2.1⟩
 obtain⟨LD,hLD⟩:∃ x,ps.map (·.1)=x:=⟨_,rfl⟩
 rw [hLD] at hm2 hnat ⊢
 simp only [hLD] at hwith hby
 obtain⟨X,hX⟩:∃ x,mattL LD xs qs=x:=⟨_,rfl⟩
 rw [hX]
 unfold mattL at hX
 rw [hon] at hX
 obtain⟨E,hE0⟩:∃ x,withE LD xs (qs.map (·.1))=x:=⟨_,rfl⟩
 rw [hE0] at hm2 hnat hby hX ⊢
 simp only [hE0] at hwith
 obtain⟨ol,hol⟩:∃ l,natsI xs=l:=⟨_,rfl⟩
 have hll:ol.length=on:=by rw [<-hol];unfold natsI;rw [List.length_map,hon]
 rw [hol] at hX hnat
 have hFl:∀ l,(fitL LD l qs).length=m:=fun l=>by unfold fitL;rw [List.length_map,hm]
 have HW:=Lib.hid hwith;have HBY:=Lib.hid hby;have HM2:=Lib.hid hm2;have HNAT:=Lib.hid hnat;have HX:=Lib.hid hX;have HLL:=Lib.hid hll;have HO:=Lib.hid ho;have HFL:=Lib.hid hFl
 have hom:on<=maxLen:=ho.2.1
 unfold maxLen at hom
 clear hwith hby hm2 hnat hX hll ho hFl hE0 hol hLD hl hn hon hp hm hT
 go_enter Tryz.func28,Tryz.ntmps28
 go_wp2
 refine wp_scope_straight ?_
 go_wp2_with fail
 refine(HW.out _ (Turn.refl _ _)).mono ?_
 rintro e w1 ⟨rfl,hE1⟩
 have HE1:=Lib.hid hE1
 clear hE1 HW
 by_cases hE0:E=0
 case neg=>
  have hne:(E != 0)=true:=by simpa using hE0
  have hx:=HX.out
  rw [if_neg hE0] at hx
  subst hx
  go_wp2
  unfold Exit.noGoto
  go_ret2
  exact⟨none,0,rfl,Rd.of_own (e:=3) (World.ownsRow_nil _ 0 _ _),HE1.out⟩
 subst hE0
 obtain⟨hm32,ho6⟩:=HM2.out (by first | trivial | rfl)
 obtain⟨hnv,hlt⟩:=HNAT.out (by first | trivial | rfl)
 have hx:=HX.out
 rw [if_pos (by first | trivial | rfl)] at hx
 have hb0:=HBY.out (by first | trivial | rfl)
 have HX2:=Lib.hid hx;have HB:=Lib.hid hb0;have HLT:=Lib.hid hlt;have HNV:=Lib.hid hnv
 have hfirst:=hb0 w1 HE1.out ol oo oc (by rw [hnv];exact HO.out.ext HE1.out) HLL.out hlt
 have HF:=Lib.hid hfirst
 clear hx hb0 hlt hnv hfirst HX HBY HM2 HNAT
 go_wp2_with fail
 refine HF.out.mono ?_
 rintro e w2 ⟨fo,fc,rfl,⟨b0,hb0,hO2⟩,hE2⟩
 obtain⟨F,hF⟩:∃ F,fitL LD ol qs=F:=⟨_,rfl⟩
 rw [hF] at hO2
 have hFl:F.length=m:=by rw [<-hF];exact HFL.out _
 have HRF:=Lib.hid (Rd.of_own hO2);have HE2:=Lib.hid (HE1.out.trans hE2);have HFF:=Lib.hid hF;have HFLL:=Lib.hid hFl
 clear hO2 hE2 hF hFl HF HE1 hb0
 have hmx:max ((on:Int) - 1) 0=((on - 1:Nat):Int):=by omega
 have hwo:IntKind.i64.wrap ((on:Int) - 1)=(on:Int) - 1:=IntWalk.i64_in _ (by omega)
 obtain⟨mx,hmx2⟩:∃ k,on - 1=k:=⟨_,rfl⟩
 rw [hmx2] at hmx
 have hxx:=HX2.out
 rw [hmx2] at hxx
 have HXX:=Lib.hid hxx;have HMX:=Lib.hid hmx2
 have hmon:mx<=on:=by omega
 clear hxx hmx2 HX2
 go_wp2
 refine wp_label ?_
 go_wp2
 clear hwo hmx
 obtain⟨B0,hB0⟩:∃ B0,w2.heap.size=B0:=⟨_,rfl⟩
 have HB0:=Lib.hid hB0
 clear hB0
 refine wp_loop (MatSt lo oo po fo n lc on oc m pc fc mx B0 w2 (fun i=>(List.range i).filter (mattB LD qs ol)))
  (fun a _=>((mx:Int) - intOf (a.tmps.getD 30 undef)).toNat) ?_ ?_
 ·exact⟨0,none,0,by omega,rfl,⟨rfl,rfl,rfl,rfl,rfl,rfl,rfl,rfl⟩,World.ownsRow_nil _ _ _ _,Turn.refl _ _⟩
 rintro⟨t,_⟩ W ⟨i,ao,c,hi,hds,⟨hsz,f0,f1,f2,f9,f10,f29,f30⟩,hO,hE⟩
 dsimp only at f10 hO
 subst hds
 obtain⟨u',hu⟩:=frame_fun hsz
 obtain⟨u,rfl⟩:∃ x,x=u':=⟨_,rfl⟩
 have hu':t=#[u 0,u 1,u 2,u 3,u 4,u 5,u 6,u 7,u 8,u 9,u 10,u 11,u 12,u 13,u 14,u 15,u 16,u 17,u 18,u 19,u 20,u 21,u 22,u 23,u 24,u 25,u 26,u 27,u 28,u 29,u 30,u 31,u 32,u 33,u 34,u 35,u 36,u 37,u 38,u 39,u 40,u 41,u 42,u 43,u 44,u 45,u 46,u 47,u 48,u 49,u 50,u 51,u 52,u 53,u 54,u 55,u 56,u 57,u 58,u 59,u 60,u 61,u 62,u 63,u 64,u 65,u 66,u 67,u 68,u 69,u 70,u 71,u 72,u 73,u 74,u 75]:=hu
 clear hu
 subst hu'
 change u 0=_ at f0
 change u 1=_ at f1
 change u 2=_ at f2
 change u 9=_ at f9
 change u 10=_ at f10
 change u 29=_ at f29
 change u 30=_ at f30
 rw [f0,f1,f2,f9,f10,f29,f30]
 clear f0 f1 f2 f9 f10 f29 f30 hsz
 have HOW:=Lib.hid hO;have HEW:=Lib.hid hE
 have hsu:=filter_range_succ (mattB LD qs ol) i
 have hle:((List.range i).filter (mattB LD qs ol)).length<=i:=Nat.le_trans (List.length_filter_le _ _) (by simp)
 obtain⟨l0,hl0⟩:∃ l,(List.range i).filter (mattB LD qs ol)=l:=⟨_,rfl⟩
 rw [hl0] at hsu hle
 have HL0:=Lib.hid hl0
 have hOl:=HOW.out
 rw [hl0] at hOl
 rw [hl0]
 obtain⟨ll,hll⟩:∃ k,l0.length=k:=⟨_,rfl⟩
 rw [hll] at hOl hle
 rw [hll]
 have HOW2:=Lib.hid hOl;have HSU:=Lib.hid hsu;have HLLN:=Lib.hid hll
 clear hO hE hsu hl0 hll hOl HOW
 by_cases hiN:i<mx
 case neg=>
  obtain rfl:i=mx:=by omega
  have h1:¬ (i:Int)<(i:Int):=by omega
  have hxx:=HXX.out
  rw [HL0.out] at hxx
  subst hxx
  go_wp2
  go_ret2
  exact⟨ao,c,by rw [HLLN.out];rfl,by rw [HLLN.out];exact Rd.of_own HOW2.out,HE2.out.trans HEW.out⟩
 have h1:(i:Int)<(mx:Int):=by omega
 have h0:(0:Int)<=(i:Int):=by omega
 have hion:i+1<on:=by have:=HMX.out;omega
 have hwi:IntKind.i64.wrap ((i:Int)+1)=(i:Int)+1:=IntWalk.i64_in _ (by omega)
 have hi1:(i:Int)+1<(on:Int):=by omega
 have hi0:(0:Int)<=(i:Int)+1:=by omega
 have hi2:(i:Int)<(on:Int):=by omega
 have hin:((i:Int)+1).toNat=i+1:=by omega
 have hcl:=clone_int (w:=W) (ao:=oo) (n:=on) (cap:=oc) (xs:=natV ol) (by rw [HNV.out];exact HO.out.ext (HE2.out.trans HEW.out)) (fun u hu=>by obtain⟨_,_,rfl⟩:=List.mem_map.1 hu;rfl) (by omega)
 have HCL:=Lib.hid hcl
 clear hcl
 go_upto_region 9 with (fail)
 go_wp2_with fail
 refine HCL.out.mono ?_
 rintro e V1 ⟨yo,yc,rfl,hO1,hN1⟩
 obtain⟨g,rfl⟩:=own_addr (n:=on - 1) (cap:=yc) (by rw [show on - 1+1=on by omega];exact hO1)
 obtain⟨x0,hx0⟩:∃ x,ol.getD i 0=x:=⟨_,rfl⟩
 obtain⟨x1,hx1⟩:∃ x,ol.getD (i+1) 0=x:=⟨_,rfl⟩
 have hcc:∀ j,j<on->∀ U,Ext V1 U->U.cell? ⟨g,j,none⟩=some (.int .i64 (ol.getD j 0:Nat)):=fun j hj U hU=>by
  have:=(own_ext hO1 hU).cellAt j (by omega)
  rw [this]
  unfold natV
  rw [List.getElem?_map,List.getD_eq_getElem?_getD,List.getElem?_eq_getElem (by rw [HLL.out];exact hj)]
  rfl
 have hc0:=hcc i (by omega)
 have hc1:=hcc (i+1) hion
 rw [hx0] at hc0
 rw [hx1] at hc1
 have hgW:W.heap.size<=g:=(hO1.lt g rfl).1
 have HC0:=Lib.hid hc0;have HC1:=Lib.hid hc1;have HO1:=Lib.hid hO1;have HN1:=Lib.hid hN1;have HX0:=Lib.hid hx0;have HX1:=Lib.hid hx1
 clear hcc hc0 hc1 hO1 hN1 hx0 hx1 HCL
 go_upto_region 10 with (fail)
 go_cut [] from 35 to 50 (fun wx=>wx.ownsRow W.heap.size 3 1 (.slice (some ⟨g,0,none⟩) on yc) on (natV (swapN ol i))/\Ext W wx)
 case first=>
  obtain⟨U0,hU0⟩:∃ D,V1.drew=D:=⟨_,rfl⟩
  have e0:Ext V1 U0:=by rw [<-hU0];exact(Turn.refl _ V1).drew
  have ho0:=own_ext HO1.out e0
  have hc1:U0.cell? ⟨g,i+1,none⟩=some (.int .i64 (x1:Int)):=HC1.out U0 e0
  have hc0:U0.cell? ⟨g,i,none⟩=some (.int .i64 (x0:Int)):=HC0.out U0 e0
  refine wp_region_late (S:=fun D=>D.cell? ⟨g,i+1,none⟩=some (.int .i64 (x1:Int))) [17] (by kernel_rfl) (by rw [hU0];exact hc1) ?_
  intro _
  rw [hU0]
  clear hU0
  refine tkE (i:=0) (d:=35) (v:=?_) rfl (Or.inl ⟨by rfl,?_⟩) hc1 ?_
  rotate_left
  ·intro w hSw;(try dsimp only at hSw);go_simp;try with_reducible rfl
  try simp only [Act.put,pq]
  refine tkE (i:=1) (d:=36) (v:=?_) rfl (Or.inl ⟨by rfl,?_⟩) hc1 ?_
  rotate_left
  ·intro w hSw;(try dsimp only at hSw);go_simp;try with_reducible rfl
  try simp only [Act.put,pq]
  refine tkE (i:=2) (d:=37) (v:=?_) rfl (Or.inl ⟨by rfl,?_⟩) hc1 ?_
  rotate_left
  ·intro w hSw;(try dsimp only at hSw);go_simp;try with_reducible rfl
  try simp only [Act.put,pq]
  refine tkE (i:=3) (d:=38) (v:=?_) rfl (Or.inl ⟨by rfl,?_⟩) hc1 ?_
  rotate_left
  ·intro w hSw;(try dsimp only at hSw);go_simp;try with_reducible rfl
  try simp only [Act.put,pq]
  refine tkE (i:=4) (d:=39) (v:=?_) rfl (Or.inl ⟨by rfl,?_⟩) hc1 ?_
  rotate_left
  ·intro w hSw;(try dsimp only at hSw);go_simp;try with_reducible rfl
  try simp only [Act.put,pq]
  refine tkE (i:=5) (d:=40) (v:=?_) rfl (Or.inl ⟨by rfl,?_⟩) hc1 ?_
  rotate_left
  ·intro w hSw;(try dsimp only at hSw);go_simp;try with_reducible rfl
  try simp only [Act.put,pq]
  refine tkE (i:=6) (d:=41) (v:=?_) rfl (Or.inl ⟨by rfl,?_⟩) hc1 ?_
  rotate_left
  ·intro w hSw;(try dsimp only at hSw);go_simp;try with_reducible rfl
  try simp only [Act.put,pq]
  refine tkE (i:=7) (d:=42) (v:=?_) rfl (Or.inl ⟨by rfl,?_⟩) hc1 ?_
  rotate_left
  ·intro w hSw;(try dsimp only at hSw);go_simp;try with_reducible rfl
  try simp only [Act.put,pq]
  refine tkE (i:=8) (d:=43) (v:=?_) rfl (Or.inl ⟨by rfl,?_⟩) hc1 ?_
  rotate_left
  ·intro w hSw;(try dsimp only at hSw);go_simp;try with_reducible rfl
  try simp only [Act.put,pq]
  refine tkE (i:=9) (d:=44) (v:=?_) rfl (Or.inl ⟨by rfl,?_⟩) hc1 ?_
  rotate_left
  ·intro w hSw;(try dsimp only at hSw);go_simp;try with_reducible rfl
  try simp only [Act.put,pq]
  refine tkE (i:=10) (d:=45) (v:=?_) rfl (Or.inl ⟨by rfl,?_⟩) hc1 ?_
  rotate_left
  ·intro w hSw;(try dsimp only at hSw);go_simp;try with_reducible rfl
  try simp only [Act.put,pq]
  refine tkE (i:=11) (d:=46) (v:=?_) rfl (Or.inl ⟨by rfl,?_⟩) hc1 ?_
  rotate_left
  ·intro w hSw;(try dsimp only at hSw);go_simp;try with_reducible rfl
  try simp only [Act.put,pq]
  refine tkE (i:=12) (d:=47) (v:=?_) rfl (Or.inl ⟨by rfl,?_⟩) hc1 ?_
  rotate_left
  ·intro w hSw;(try dsimp only at hSw);go_simp;try with_reducible rfl
  try simp only [Act.put,pq]
  refine wpAnyE_ready (rs:=[13]) (by kernel_rfl) (by simp) ?_
  refine AllReadyE.cons rfl (fun K hK=>?_) AllReadyE.nil
  (try rw [if_pos (show Region.wanted _ _=true from rfl)])
  go_simp
  refine hK.out _ _ hc1 (fun _=>?_)
  clear hK K
  try simp only [Act.put,pq]
  refine tkE (i:=14) (d:=49) (v:=?_) rfl (Or.inl ⟨by rfl,?_⟩) hc1 ?_
  rotate_left
  ·intro w hSw;(try dsimp only at hSw);go_simp;try with_reducible rfl
  try simp only [Act.put,pq]
  refine wpAnyE_ready (rs:=[15]) (by kernel_rfl) (by simp) ?_
  refine AllReadyE.cons rfl (fun K hK=>?_) AllReadyE.nil
  (try rw [if_pos (show Region.wanted _ _=true from rfl)])
  have f0:=own_free ho0 (j:=i) (by omega)
  go_simp
  have hne1:(⟨g,i,none⟩:Addr)≠⟨g,i+1,none⟩:=by intro e;simp at e
  have hs1:(U0.setCell ⟨g,i,none⟩ (.int .i64 (x1:Int))).cell? ⟨g,i+1,none⟩=some (.int .i64 (x1:Int)):=by rw [World.cell?_setCell_other (h:=hne1)];exact hc1
  refine hK.out _ _ hs1 (fun _=>?_)
  clear hK K f0 hc0
  (try change wpAnyE _ _ _ _ _ _ _ _ (Act.put _ none _) _)
  (try simp only [Act.put])
  refine tkE (i:=16) (d:=50) (v:=?_) rfl (Or.inl ⟨by rfl,?_⟩) hs1 ?_
  rotate_left
  ·intro w hSw;(try dsimp only at hSw);go_simp;try with_reducible rfl
  try simp only [Act.put,pq]
  refine wpAnyE_ready (rs:=[17]) (by kernel_rfl) (by simp) ?_
  refine AllReadyE.late rfl rfl (fun K hK=>?_) AllReadyE.nil
  (try rw [if_pos (show Region.wanted _ _=true from rfl)])
  have ho1:=own_store ho0 i (.int .i64 (x1:Int))
  have f1:=own_free ho1 (j:=i+1) (by omega)
  go_simp
  refine hK.out _ _ ?_
  clear hK K f1
  (try change wpAnyE _ _ _ _ _ _ _ _ (Act.put _ none _) _)
  (try simp only [Act.put])
  refine wpAnyE_done (by kernel_rfl) ?_ _
  have ho2:=own_store ho1 (i+1) (.int .i64 (x0:Int))
  have t12:Turn (fun b=>b=g) U0 ((U0.setCell ⟨g,i,none⟩ (.int .i64 (x1:Int))).setCell ⟨g,i+1,none⟩ (.int .i64 (x0:Int))):=(Turn.set1 _ _ _ _).trans (Turn.set1 _ _ _ _)
  obtain⟨V2,hV2⟩:∃ D,(U0.setCell ⟨g,i,none⟩ (.int .i64 (x1:Int))).setCell ⟨g,i+1,none⟩ (.int .i64 (x0:Int))=D:=⟨_,rfl⟩
  rw [hV2] at ho2 t12 ⊢
  have ho3:V2.ownsRow W.heap.size 3 1 (.slice (some ⟨g,0,none⟩) on yc) on (natV (swapN ol i)):=by
   have e:=natV_swap ol i
   rw [HX0.out,HX1.out] at e
   rw [<-e];exact ho2
  have hEX:Ext W V2:=(HN1.out.trans e0).after t12 (fun b hb e=>by omega)
  have HOX:=Lib.hid ho3;have HEX:=Lib.hid hEX
  clear hV2 ho2 t12 ho3 hEX ho1 ho0 hs1 hc1
  go_wp2
  go_meet
  case rel=>exact⟨HOX.out,HEX.out⟩
 case rest=>
  obtain⟨hy,hEX⟩:=hcut
  generalize wc=V2 at hy hEX ⊢
  have hsec:=HB.out V2 (HE2.out.trans (HEW.out.trans hEX)) (swapN ol i) (some ⟨g,0,none⟩) yc (Rd.of_own hy) (by rw [swapN_length,HLL.out]) (swapN_mem (by rw [HLL.out];exact hion) HLT.out)
  obtain⟨G,hG⟩:∃ G,fitL LD (swapN ol i) qs=G:=⟨_,rfl⟩
  have hGl:G.length=m:=by rw [<-hG];exact HFL.out _
  rw [hG] at hsec
  have hmat:mattB LD qs ol i=exB F G:=by unfold mattB;rw [HFF.out,hG]
  have HSEC:=Lib.hid hsec;have HGL:=Lib.hid hGl;have HMAT:=Lib.hid hmat;have HEX:=Lib.hid hEX
  clear hy hEX hsec hG hGl hmat HC0 HC1 HO1 HN1
  go_wp2_with fail
  refine HSEC.out.mono ?_
  rintro e V3 ⟨go,gc,rfl,⟨b1,hb1,hO3⟩,hE3⟩
  have HRG:=Lib.hid (Rd.of_own hO3);have HE3:=Lib.hid (HEX.out.trans hE3)
  clear hO3 hE3 HSEC hb1
  go_wp2
  refine wp_loop (fun a W=>∃(k:Nat),k<=m/\a.defers=[]/\(a.tmps.size=76/\a.tmps.getD 0 undef=.slice lo n lc/\a.tmps.getD 1 undef=.slice oo on oc/\a.tmps.getD 2 undef=.slice po m pc/\a.tmps.getD 9 undef=.slice fo m fc/\a.tmps.getD 10 undef=.slice ao ll c/\a.tmps.getD 11 undef=.int .i64 i/\a.tmps.getD 29 undef=.int .i64 mx/\a.tmps.getD 30 undef=.int .i64 i/\a.tmps.getD 54 undef=.slice go m gc/\a.tmps.getD 55 undef=.int .i64 m/\a.tmps.getD 56 undef=.int .i64 k)/\exTo F G k/\V3=W)
   (fun a _=>((m:Int) - intOf (a.tmps.getD 56 undef)).toNat) ?_ ?_
  ·exact⟨0,by omega,rfl,⟨rfl,rfl,rfl,rfl,rfl,rfl,rfl,rfl,rfl,rfl,rfl,rfl⟩,fun j hj=>by omega,by first | trivial | rfl⟩
  rintro⟨t,_⟩ W5 ⟨k,hk,hds,⟨hsz,f0,f1,f2,f9,f10,f11,f29,f30,f54,f55,f56⟩,hex,rfl⟩
  subst hds
  obtain⟨u',hu⟩:=frame_fun hsz
  obtain⟨u,rfl⟩:∃ x,x=u':=⟨_,rfl⟩
  have hu':t=#[u 0,u 1,u 2,u 3,u 4,u 5,u 6,u 7,u 8,u 9,u 10,u 11,u 12,u 13,u 14,u 15,u 16,u 17,u 18,u 19,u 20,u 21,u 22,u 23,u 24,u 25,u 26,u 27,u 28,u 29,u 30,u 31,u 32,u 33,u 34,u 35,u 36,u 37,u 38,u 39,u 40,u 41,u 42,u 43,u 44,u 45,u 46,u 47,u 48,u 49,u 50,u 51,u 52,u 53,u 54,u 55,u 56,u 57,u 58,u 59,u 60,u 61,u 62,u 63,u 64,u 65,u 66,u 67,u 68,u 69,u 70,u 71,u 72,u 73,u 74,u 75]:=hu
  clear hu
  subst hu'
  change u 0=_ at f0
  change u 1=_ at f1
  change u 2=_ at f2
  change u 9=_ at f9
  change u 10=_ at f10
  change u 11=_ at f11
  change u 29=_ at f29
  change u 30=_ at f30
  change u 54=_ at f54
  change u 55=_ at f55
  change u 56=_ at f56
  rw [f0,f1,f2,f9,f10,f11,f29,f30,f54,f55,f56]
  clear f0 f1 f2 f9 f10 f11 f29 f30 f54 f55 f56 hsz
  have HEXT:=Lib.hid hex
  clear hex
  by_cases hkm:k<m
  case neg=>
   obtain rfl:k=m:=by omega
   have hk1:¬ (k:Int)<(k:Int):=by omega
   have hno:=exTo_all (by rw [HFLL.out];exact Nat.le_refl _) HEXT.out
   have hsu:=HSU.out
   rw [HMAT.out,hno] at hsu
   have HS2:=Lib.hid hsu
   clear hsu hno
   go_wp2
   exact⟨⟨i+1,ao,c,by omega,by first | rfl | trivial,⟨rfl,rfl,rfl,rfl,rfl,by dsimp only;rw [HS2.out];simp [HLLN.out],rfl,rfl⟩,by dsimp only;rw [HS2.out];simpa [HLLN.out] using own_ext HOW2.out HE3.out,HEW.out.trans HE3.out⟩,by first | (simp [intOf];done) | (simp [intOf];omega)⟩
  have hk1:(k:Int)<(m:Int):=by omega
  have hk0:(0:Int)<=(k:Int):=by omega
  have hwk:IntKind.i64.wrap ((k:Int)+1)=(k:Int)+1:=IntWalk.i64_in _ (by omega)
  have hkF:k<F.length:=by rw [HFLL.out];exact hkm
  have hkG:k<G.length:=by rw [HGL.out];exact hkm
  obtain⟨gf,of,cf,hq,hgf,hcf⟩:=rd_at1 (HRF.out.ext (HEW.out.trans HE3.out)) hkm
  simp only [Value.slice.injEq,true_and] at hq
  obtain⟨rfl,rfl⟩:=hq
  obtain⟨gg,og,cg,hq,hgg,hcg⟩:=rd_at1 HRG.out hkm
  simp only [Value.slice.injEq,true_and] at hq
  obtain⟨rfl,rfl⟩:=hq
  have hfv:(F.map Value.bool).getD k undef=.bool F[k]:=by rw [List.getD_eq_getElem?_getD,List.getElem?_map,List.getElem?_eq_getElem hkF];rfl
  have hgv:(G.map Value.bool).getD k undef=.bool G[k]:=by rw [List.getD_eq_getElem?_getD,List.getElem?_map,List.getElem?_eq_getElem hkG];rfl
  have hFd:F.getD k false=F[k]:=by rw [List.getD_eq_getElem?_getD,List.getElem?_eq_getElem hkF];rfl
  have hGd:G.getD k false=G[k]:=by rw [List.getD_eq_getElem?_getD,List.getElem?_eq_getElem hkG];rfl
  rw [hfv] at hcf
  rw [hgv] at hcg
  have hhit:=fun h=>exB_hit (G:=G) hkF h
  have hstep:=fun h=>exTo_succ HEXT.out h
  rw [hFd,hGd] at hhit hstep
  obtain⟨fb,hfb⟩:∃ b,F[k]=b:=⟨_,rfl⟩
  obtain⟨gb,hgb⟩:∃ b,G[k]=b:=⟨_,rfl⟩
  rw [hfb] at hcf hhit hstep
  rw [hgb] at hcg hhit hstep
  have HHIT:=Lib.hid hhit;have HSTEP:=Lib.hid hstep
  clear hfb hgb hhit hstep hFd hGd hfv hgv hkF hkG
  cases fb with
  | false=>
   have hs:=HSTEP.out rfl
   have HS3:=Lib.hid hs
   clear hs HSTEP HHIT
   go_wp2
   exact⟨⟨k+1,by omega,by first | rfl | trivial,⟨rfl,rfl,rfl,rfl,rfl,rfl,rfl,rfl,rfl,rfl,rfl,rfl⟩,HS3.out,by first | trivial | rfl⟩,by first | (simp [intOf];done) | (simp [intOf];omega)⟩
  | true=>
   cases gb with
   | true=>
    have hs:=HSTEP.out rfl
    have HS3:=Lib.hid hs
    clear hs HSTEP HHIT
    go_wp2
    exact⟨⟨k+1,by omega,by first | rfl | trivial,⟨rfl,rfl,rfl,rfl,rfl,rfl,rfl,rfl,rfl,rfl,rfl,rfl⟩,HS3.out,by first | trivial | rfl⟩,by first | (simp [intOf];done) | (simp [intOf];omega)⟩
   | false=>
    have hyes:=HHIT.out rfl
    have hsu:=HSU.out
    rw [HMAT.out,hyes] at hsu
    have HS2:=Lib.hid hsu
    have hbz:B0<=V3.heap.size:=by have:=HEW.out.size;have:=HE3.out.size;have:=HB0.out;omega
    have h3:=own_ext HOW2.out HE3.out
    clear hsu hyes HHIT HSTEP
    go_wp2_with (at_builtin;refine append_row rfl (.tmp 69) (.tmp 71) 48 rfl B0 3 _ 1 8 Tryz.underlying48 Tryz.infoI rfl (by decide) _ _ _ rfl (own_ext h3 ((Turn.refl _ V3).alloc _)) ⟨V3.heap.size,0,none⟩ 1 1 [.int .i64 (i:Int)] rfl rfl (new_cells' rfl) ?c2 ?c3 ?c4 ?c5 ?_)
    case c2=>first | rfl | (intro u hu;simp at hu;subst hu;rfl)
    case c3=>unfold maxLen;omega
    case c4=>omega
    case c5=>first | omega | (simp;omega)
    intro ao' c' w5 hO5 hT5 hB5
    have hT6:Turn (fun b=>(Value.slice ao ll c).ownBlock=some b) V3 w5:=Turn.trans (Turn.alloc (Turn.refl _ V3) _) hT5
    have hE5:Ext w2 w5:=(HEW.out.trans HE3.out).after hT6 (fun b hb e=>by have:=(h3.lt _ e).1;have:=HB0.out;omega)
    have h6:w5.ownsRow B0 3 1 (.slice ao' (ll+1) c') (ll+1) (natV (l0++[i])):=by rw [natV_append];exact hO5
    have H6:=Lib.hid h6;have HE5:=Lib.hid hE5
    clear h6 hE5 hT6 hT5 hB5 hO5 h3
    go_wp2
    exact⟨⟨i+1,ao',c',by omega,by first | rfl | trivial,⟨rfl,rfl,rfl,rfl,rfl,by dsimp only;rw [HS2.out];simp [HLLN.out],rfl,rfl⟩,by dsimp only;rw [HS2.out];simp only [if_true,List.length_append,HLLN.out,List.length_singleton];exact H6.out,HE5.out⟩,by first | (simp [intOf];done) | (simp [intOf];omega)⟩
end Go.Proofs.YtfdlhlghcbeblaaGreatDoor
namespace Go.Proofs.YtfdlhlghcbeblaaGreatDoor
open Go.RowKit Go.Ab
def fitQ(LD:List LawD)(ol:List Nat)(QS:List (Wd × Wd)):List Bool:=QS.map fun q=>xB (runO LD ol (some q.1)) q.2
theorem fitL_Q(LD:List LawD)(ol:List Nat)(qs:PairsL):fitL LD ol qs=fitQ LD ol (qs.map (·.1)):=by
 unfold fitL fitQ;rw [List.map_map];rfl
def explQ(LD:List LawD)(QS:List (Wd × Wd)) (n:Nat):List (List Nat):=(permsF n (List.range n)).filter fun x=>(fitQ LD x QS).all id
theorem explL_Q(LD:List LawD)(qs:PairsL)(n:Nat):explL LD qs n=explQ LD (qs.map (·.1)) n:=by
 unfold explL explQ
 apply List.filter_congr
 intro x _
 unfold fitsA
 rw [fitL_Q]
theorem mattB_Q(LD:List LawD)(qs:PairsL)(l:List Nat)(i:Nat):mattB LD qs l i=exB (fitQ LD l (qs.map (·.1))) (fitQ LD (swapN l i) (qs.map (·.1))):=by
 unfold mattB;rw [fitL_Q,fitL_Q]
abbrev vowelO:Pat:=.node 1 4 0 false 0 0 []
abbrev noneO:Pat:=.node 0 0 0 false 0 0 []
abbrev endO:Pat:=.node 6 0 0 false 0 0 []
abbrev vD:LawD:=⟨⟨#[86]⟩,vowelO,vowelO,[(2,0)],[⟨0,0,(1,0),0,0⟩],1⟩
abbrev fD:LawD:=⟨⟨#[70]⟩,noneO,endO,[(4,0)],[],1⟩
abbrev uD:LawD:=⟨⟨#[85]⟩,noneO,endO,[(2,0)],[⟨0,0,(0,1),0,0⟩],1⟩
abbrev apaO:Wd:=[(5,2),(2,5),(5,2)]
abbrev apO:Wd:=[(5,2),(2,5)]
abbrev abO:Wd:=[(5,2),(3,4)]
theorem wo_fits{qs:PairsL}(h:qs.map (·.1)=[(apaO,apO),(apaO,abO)]):fitsI [vD,fD,uD] [0,1,2] qs=1/\fitsN [vD,fD,uD] [0,1,2] qs=true/\withE [vD,fD,uD] [0,1,2] (qs.map (·.1))=0:=by
 unfold fitsI fitsN fitsIdx
 rw [fitL_Q,h]
 decide +kernel
theorem wo_ordE{qs:PairsL}(h:qs.map (·.1)=[(apaO,abO)]):ordE [vD,fD,uD] (qs.map (·.1))=0:=by
 rw [h]
 decide +kernel
theorem wo_expl{qs:PairsL}(h:qs.map (·.1)=[(apaO,abO)]):explL [vD,fD,uD] qs 3=[[0,2,1],[2,0,1]]:=by
 rw [explL_Q,h]
 decide +kernel
theorem wo_explain{qs:PairsL}(h:qs.map (·.1)=[(apaO,abO)]):explX [vD,fD,uD] qs=[0,2,1]/\explB [vD,fD,uD] qs=true:=by
 have h1:=wo_ordE h
 have h2:=wo_expl h
 unfold explX explB
 rw [if_pos h1,if_pos h1]
 show (explL [vD,fD,uD] qs 3).headD []=_/\(!(explL [vD,fD,uD] qs 3).isEmpty)=_
 rw [h2]
 exact⟨rfl,rfl⟩
theorem wo_all{qs:PairsL}(h:qs.map (·.1)=[(apaO,abO)]):allL [vD,fD,uD] qs 9=[[0,2,1],[2,0,1]]:=by
 have h1:=wo_ordE h
 have h2:=wo_expl h
 unfold allL
 rw [if_pos h1]
 show (explL [vD,fD,uD] qs 3).take _=_
 rw [h2]
 rfl
theorem wo_need{qs:PairsL}(h:qs.map (·.1)=[(apaO,abO)]):needL [vD,fD,uD] qs=[(0,1),(2,1)]/\needE [vD,fD,uD] qs=0:=by
 have h1:=wo_ordE h
 have h2:=wo_expl h
 have h3:needE [vD,fD,uD] qs=0:=by
  unfold needE
  rw [if_pos h1]
  show (if (explL [vD,fD,uD] qs 3).isEmpty=true then(5:Int) else 0)=0
  rw [h2]
  rfl
 refine⟨?_,h3⟩
 unfold needL
 rw [if_pos h3]
 show pairsR 3 (needR (pairsOf (explL [vD,fD,uD] qs 3)))=_
 rw [h2]
 decide +kernel
theorem wo_matt{qs:PairsL}(h:qs.map (·.1)=[(apaO,abO)]):mattL [vD,fD] [0,1] qs=[0]/\withE [vD,fD] [0,1] (qs.map (·.1))=0:=by
 have h1:withE [vD,fD] [0,1] (qs.map (·.1))=0:=by rw [h];decide +kernel
 refine⟨?_,h1⟩
 unfold mattL
 rw [if_pos h1]
 have e:mattB [vD,fD] qs (natsI [0,1])=fun i=>exB (fitQ [vD,fD] [0,1] [(apaO,abO)]) (fitQ [vD,fD] (swapN [0,1] i) [(apaO,abO)]):=funext fun i=>by rw [mattB_Q,h];rfl
 rw [e]
 decide +kernel
end Go.Proofs.YtfdlhlghcbeblaaGreatDoor
