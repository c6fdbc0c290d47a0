/- ablautlaw14: numbers, twos, lists. Began as XSame. order.Needed: its walk. -/
import Derived.Test.YtfdlhlghcbeblaaGreatDoorH37
import Derived.Test.YtfdlhlghcbeblaaGreatDoorH35
import Derived.Test.YtfdlhlghcbeblaaGreatDoorH30
import Derived.Test.YtfdlhlghcbeblaaGreatDoorH12
import Derived.BigQuiet
namespace Go.Proofs.YtfdlhlghcbeblaaGreatDoor
open Go.RowKit Go.Ab
theorem nat_ints(l:List Nat):ints (l.map fun(i:Nat)=>(i:Int))=natV l:=by simp [ints,natV]
theorem numbers_len(ao bo:Option Addr)(n m ca cb:Nat)(w:World)(h:n≠m) :
  Calls Tryz.prog 36 #[.slice ao n ca,.slice bo m cb] w fun e w'=>e=.returned (.bool false)/\w=w':=by
 have h':((n:Int) !=(m:Int))=true:=by simp;omega
 go_enter Tryz.func36,Tryz.ntmps36
 go_wp2
 go_ret
 exact⟨rfl,rfl⟩
theorem numbers_int(va vb:Value)(la lb:List Int)(w:World)(ha:Rd w va la.length 1 (ints la)) (hb:Rd w vb lb.length 1 (ints lb)) :
  Calls Tryz.prog 36 #[va,vb] w fun e w'=>e=.returned (.bool (decide (la=lb)))/\∃ m,w'=w.drewN m:=by
 obtain⟨_,hna,ao,ca,rfl,ha⟩:=ha
 obtain⟨_,hnb,bo,cb,rfl,hb⟩:=hb
 unfold maxLen at hna hnb
 by_cases hl:la.length=lb.length
 ·by_cases h0:la.length=0
  ·have:la=[]:=by simpa using h0
   subst this
   have:lb=[]:=by simpa using hl.symm
   subst this
   go_enter Tryz.func36,Tryz.ntmps36
   go_wp2
   refine wp_loop_rounds 1 ?_;rw [rounds_succ]
   go_wp2
   go_ret
   exact⟨rfl,0,rfl⟩
  ·obtain⟨ga,oa,rfl,_,ha⟩:=ha (by omega)
   obtain⟨gb,ob,rfl,_,hb⟩:=hb (by omega)
   have he:((la.length:Int) !=(lb.length:Int))=false:=by simp [hl]
   have HL:=Lib.hid hl
   clear hl
   go_enter Tryz.func36,Tryz.ntmps36
   go_wp2
   go_loopw [5] (fun i wr=>∃ k m:Nat,k<=la.length/\i=.int .i64 k/\(∀ j,j<k->la.getD j 0=lb.getD j 0)/\wr=w.drewN m) (fun i _=>la.length - (intOf i).toNat)
   case atStart=>exact⟨0,0,Nat.zero_le _,rfl,fun _ h=>by omega,rfl⟩
   case round=>
    obtain⟨k,m,hk,rfl,heq,rfl⟩:=hrel
    by_cases hlt:k<la.length
    ·obtain⟨x,hx⟩:∃ x,la.getD k 0=x:=⟨_,rfl⟩
     obtain⟨y,hy⟩:∃ y,lb.getD k 0=y:=⟨_,rfl⟩
     have cx:=ha k (by omega)
     have cy:=hb k (by have:=HL.out;omega)
     rw [ints_getD _ _ hlt,hx] at cx
     rw [ints_getD _ _ (by have:=HL.out;omega),hy] at cy
     have hlt2:(k:Int)<(lb.length:Int):=by have:=HL.out;omega
     have HX:=Lib.hid hx;have HY:=Lib.hid hy;have HQ:=Lib.hid heq
     clear heq ha hb hx hy
     go_wp2
     go_quiet (fail)
     go_wp2
     ·have hne:(x != y)=true:=by assumption
      go_ret
      refine⟨ret_bool (decide_eq_false fun e=>?_).symm,m+nq,by simp⟩
      subst e
      rw [HX.out.symm.trans HY.out] at hne
      simp at hne
     ·have hxy:(x != y)=false:=by assumption
      go_roundw
      case rel=>
       refine⟨k+1,m+nq,by omega,by go_num,fun j hj=>?_,by simp⟩
       by_cases e:j=k
       ·subst e;rw [HX.out,HY.out];simpa using hxy
       ·exact HQ.out j (by omega)
      case measure=>simp [intOf];omega
    ·have hk':k=la.length:=by omega
     have HK:=Lib.hid hk'
     have HQ:=Lib.hid heq
     clear hk' heq ha hb
     go_wp2
     go_ret
     refine⟨ret_bool (decide_eq_true (List.ext_getElem HL.out fun j h1 h2=>?_)).symm,m,rfl⟩
     have:=HQ.out j (by have:=HK.out;omega)
     simpa [List.getD_eq_getElem?_getD,h1,h2] using this
 ·have hne:la≠lb:=fun h=>hl (by rw [h])
  exact(numbers_len _ _ _ _ _ _ w hl).mono fun e w' ⟨h1,h2⟩=>⟨by rw [h1];simp [hne],0,h2.symm⟩
theorem twos_len(ao bo:Option Addr)(n m ca cb:Nat)(w:World)(h:n≠m) :
  Calls Tryz.prog 47 #[.slice ao n ca,.slice bo m cb] w fun e w'=>e=.returned (.bool false)/\w=w':=by
 have h':((n:Int) !=(m:Int))=true:=by simp;omega
 go_enter Tryz.func47,Tryz.ntmps47
 go_wp2
 go_ret
 exact⟨rfl,rfl⟩
theorem twos_any(va vb:Value)(la lb:List (Int × Int)) (w:World) (ha:Rd w va la.length 2 (prs la)) (hb:Rd w vb lb.length 2 (prs lb)) :
  Calls Tryz.prog 47 #[va,vb] w fun e w'=>e=.returned (.bool (decide (la=lb)))/\∃ m,w'=w.drewN m:=by
 obtain⟨_,hna,ao,ca,rfl,ha⟩:=ha
 obtain⟨_,hnb,bo,cb,rfl,hb⟩:=hb
 unfold maxLen at hna hnb
 by_cases hl:la.length=lb.length
 ·by_cases h0:la.length=0
  ·have:la=[]:=by simpa using h0
   subst this
   have:lb=[]:=by simpa using hl.symm
   subst this
   go_enter Tryz.func47,Tryz.ntmps47
   go_wp2
   refine wp_loop_rounds 1 ?_;rw [rounds_succ]
   go_wp2
   go_ret
   exact⟨rfl,0,rfl⟩
  ·obtain⟨ga,oa,rfl,_,ha⟩:=ha (by omega)
   obtain⟨gb,ob,rfl,_,hb⟩:=hb (by omega)
   have he:((la.length:Int) !=(lb.length:Int))=false:=by simp [hl]
   have HL:=Lib.hid hl
   clear hl
   have hpair:=fun W x1 x2 y1 y2=>run_equalIn_pair (P:=Tryz.prog) W 9998 73 3 .i64 x1 x2 y1 y2 Tryz.underlying73 Tryz.underlying3 (by kernel_rfl)
   go_enter Tryz.func47,Tryz.ntmps47
   go_wp2
   go_loopw [5] (fun i wr=>∃ k m:Nat,k<=la.length/\i=.int .i64 k/\(∀ j,j<k->la.getD j (0,0)=lb.getD j (0,0))/\wr=w.drewN m) (fun i _=>la.length - (intOf i).toNat)
   case atStart=>exact⟨0,0,Nat.zero_le _,rfl,fun _ h=>by omega,rfl⟩
   case round=>
    obtain⟨k,m,hk,rfl,heq,rfl⟩:=hrel
    by_cases hlt:k<la.length
    ·obtain⟨⟨x1,x2⟩,hx⟩:∃ x,la.getD k (0,0)=x:=⟨_,rfl⟩
     obtain⟨⟨y1,y2⟩,hy⟩:∃ y,lb.getD k (0,0)=y:=⟨_,rfl⟩
     have hlb:k<lb.length:=by have:=HL.out;omega
     have cx1:=ha (k*2) (by omega)
     have cx2:=ha (k*2+1) (by omega)
     have cy1:=hb (k*2) (by omega)
     have cy2:=hb (k*2+1) (by omega)
     rw [prs_fst _ _ hlt,hx] at cx1
     rw [prs_snd _ _ hlt,hx,<-Nat.add_assoc] at cx2
     rw [prs_fst _ _ hlb,hy] at cy1
     rw [prs_snd _ _ hlb,hy,<-Nat.add_assoc] at cy2
     have hlt2:(k:Int)<(lb.length:Int):=by omega
     have HX:=Lib.hid hx;have HY:=Lib.hid hy;have HQ:=Lib.hid heq
     clear heq ha hb hx hy
     go_wp2
     go_quiet (fail)
     go_wp2
     ·have hne:(!x1 == y1)=true\/(!x2 == y2)=true:=by assumption
      go_ret
      refine⟨ret_bool (decide_eq_false fun e=>?_).symm,m+nq,by simp⟩
      subst e
      have:=HX.out.symm.trans HY.out
      simp at this
      simp [this] at hne
     ·have hxy:(!x1 == y1)=false/\(!x2 == y2)=false:=by assumption
      go_roundw
      case rel=>
       refine⟨k+1,m+nq,by omega,by go_num,fun j hj=>?_,by simp⟩
       by_cases e:j=k
       ·subst e;rw [HX.out,HY.out];simpa using hxy
       ·exact HQ.out j (by omega)
      case measure=>simp [intOf];omega
    ·have hk':k=la.length:=by omega
     have HK:=Lib.hid hk'
     have HQ:=Lib.hid heq
     clear hk' heq ha hb
     go_wp2
     go_ret
     refine⟨ret_bool (decide_eq_true (List.ext_getElem HL.out fun j h1 h2=>?_)).symm,m,rfl⟩
     have:=HQ.out j (by have:=HK.out;omega)
     simpa [List.getD_eq_getElem?_getD,h1,h2] using this
 ·have hne:la≠lb:=fun h=>hl (by rw [h])
  exact(twos_len _ _ _ _ _ _ w hl).mono fun e w' ⟨h1,h2⟩=>⟨by rw [h1];simp [hne],0,h2.symm⟩
theorem numbers_nat(va vb:Value)(la lb:List Nat)(w:World)(ha:Rd w va la.length 1 (natV la)) (hb:Rd w vb lb.length 1 (natV lb)) :
  Calls Tryz.prog 36 #[va,vb] w fun e w'=>e=.returned (.bool (decide (la=lb)))/\∃ m,w'=w.drewN m:=by
 have h:=numbers_int va vb (la.map fun(i:Nat)=>(i:Int)) (lb.map fun(i:Nat)=>(i:Int)) w (by rw [nat_ints,List.length_map];exact ha) (by rw [nat_ints,List.length_map];exact hb)
 have he:decide ((la.map fun(i:Nat)=>(i:Int))=(lb.map fun(i:Nat)=>(i:Int)))=decide (la=lb):=by
  by_cases e:la=lb
  ·subst e;simp
  ·rw [decide_eq_false e,decide_eq_false]
   intro q
   exact e ((List.map_inj_right (f:=fun(i:Nat)=>(i:Int)) (fun a b (hab:(a:Int)=(b:Int))=>by omega)).1 q)
 rwa [he] at h
theorem lists_len(ao bo:Option Addr)(n m ca cb:Nat)(w:World)(h:n≠m) :
  Calls Tryz.prog 41 #[.slice ao n ca,.slice bo m cb] w fun e w'=>e=.returned (.bool false)/\w=w':=by
 have h':((n:Int) !=(m:Int))=true:=by simp;omega
 go_enter Tryz.func41,Tryz.ntmps41
 go_wp2
 go_ret
 exact⟨rfl,rfl⟩
theorem lists_any(va vb:Value)(la lb:List (List Nat)) (w:World) (ha:GridAt w va la) (hb:GridAt w vb lb) :
  Calls Tryz.prog 41 #[va,vb] w fun e w'=>e=.returned (.bool (decide (la=lb)))/\∃ m,w'=w.drewN m:=by
 obtain⟨us,⟨_,hna,ao,ca,rfl,ha⟩,hus⟩:=ha
 obtain⟨vs,⟨_,hnb,bo,cb,rfl,hb⟩,hvs⟩:=hb
 unfold maxLen at hna hnb
 by_cases hl:la.length=lb.length
 ·by_cases h0:la.length=0
  ·have:la=[]:=by simpa using h0
   subst this
   have:lb=[]:=by simpa using hl.symm
   subst this
   go_enter Tryz.func41,Tryz.ntmps41
   go_wp2
   refine wp_loop_rounds 1 ?_;rw [rounds_succ]
   go_wp2
   go_ret
   exact⟨rfl,0,rfl⟩
  ·obtain⟨ga,oa,rfl,_,ha⟩:=ha (by omega)
   obtain⟨gb,ob,rfl,_,hb⟩:=hb (by omega)
   have he:((la.length:Int) !=(lb.length:Int))=false:=by simp [hl]
   have HL:=Lib.hid hl;have HUS:=Lib.hid hus;have HVS:=Lib.hid hvs
   clear hl hus hvs
   go_enter Tryz.func41,Tryz.ntmps41
   go_wp2
   go_loopw [5] (fun i wr=>∃ k m:Nat,k<=la.length/\i=.int .i64 k/\(∀ j,j<k->la.getD j []=lb.getD j [])/\wr=w.drewN m) (fun i _=>la.length - (intOf i).toNat)
   case atStart=>exact⟨0,0,Nat.zero_le _,rfl,fun _ h=>by omega,rfl⟩
   case round=>
    obtain⟨k,m,hk,rfl,heq,rfl⟩:=hrel
    by_cases hlt:k<la.length
    ·have hlb:k<lb.length:=by have:=HL.out;omega
     obtain⟨ka,kca,hka,hra⟩:=HUS.out k hlt
     obtain⟨kb,kcb,hkb,hrb⟩:=HVS.out k hlb
     have cx:=ha k (by omega)
     have cy:=hb k (by omega)
     rw [hka] at cx
     rw [hkb] at cy
     have hx:la.getD k []=la[k]:=by simp [List.getD_eq_getElem?_getD,hlt]
     have hy:lb.getD k []=lb[k]:=by simp [List.getD_eq_getElem?_getD,hlb]
     obtain⟨x,hxx⟩:∃ x,la[k]=x:=⟨_,rfl⟩
     obtain⟨y,hyy⟩:∃ y,lb[k]=y:=⟨_,rfl⟩
     rw [hxx] at cx hra hx
     rw [hyy] at cy hrb hy
     have hlt2:(k:Int)<(lb.length:Int):=by have:=HL.out;omega
     obtain⟨W,hW⟩:∃ W,w.drewN m=W:=⟨_,rfl⟩
     have cx:W.cell? ⟨ga,oa+k,none⟩=some (.slice ka x.length kca):=by rw [<-hW];simpa using cx
     have cy:W.cell? ⟨gb,ob+k,none⟩=some (.slice kb y.length kcb):=by rw [<-hW];simpa using cy
     have hra:Rd W (.slice ka x.length kca) x.length 1 (natV x):=by rw [<-hW];exact hra.drewN m
     have hrb:Rd W (.slice kb y.length kcb) y.length 1 (natV y):=by rw [<-hW];exact hrb.drewN m
     have hc:∀ d,Calls Tryz.prog 36 #[.slice ka x.length kca,.slice kb y.length kcb] (W.drewN d) fun e w'=>e=.returned (.bool (decide (x=y)))/\∃ m,w'=(W.drewN d).drewN m:=fun d=>numbers_nat _ _ x y _ (hra.drewN d) (hrb.drewN d)
     have HW:=Lib.hid hW
     rw [hW]
     clear hW
     by_cases hxy:x=y
     ·rw [decide_eq_true hxy] at hc
      have HC:=Lib.hid hc;have HXY:=Lib.hid hxy
      have HX:=Lib.hid hx;have HY:=Lib.hid hy;have HQ:=Lib.hid heq
      clear heq ha hb hx hy hxx hyy hka hkb hra hrb hc hxy
      go_wp2
      go_quiet ((go_at_call 36;exact Calls.quiet_of (HC.out _)))
      go_wp2
      go_roundw
      case rel=>
       refine⟨k+1,m+nq,by omega,by go_num,fun j hj=>?_,by rw [<-HW.out];simp⟩
       by_cases e:j=k
       ·subst e;rw [HX.out,HY.out];exact HXY.out
       ·exact HQ.out j (by omega)
      case measure=>simp [intOf];omega
     ·rw [decide_eq_false hxy] at hc
      have HC:=Lib.hid hc;have HXY:=Lib.hid hxy
      have HX:=Lib.hid hx;have HY:=Lib.hid hy
      clear heq ha hb hx hy hxx hyy hka hkb hra hrb hc hxy
      go_wp2
      go_quiet ((go_at_call 36;exact Calls.quiet_of (HC.out _)))
      go_wp2
      go_ret
      refine⟨ret_bool (decide_eq_false fun e=>?_).symm,m+nq,by rw [<-HW.out];simp⟩
      subst e
      exact HXY.out (HX.out.symm.trans HY.out)
    ·have hk':k=la.length:=by omega
     have HK:=Lib.hid hk'
     have HQ:=Lib.hid heq
     clear hk' heq ha hb
     go_wp2
     go_ret
     refine⟨ret_bool (decide_eq_true (List.ext_getElem HL.out fun j h1 h2=>?_)).symm,m,rfl⟩
     have:=HQ.out j (by have:=HK.out;omega)
     simpa [List.getD_eq_getElem?_getD,h1,h2] using this
 ·have hne:la≠lb:=fun h=>hl (by rw [h])
  exact(lists_len _ _ _ _ _ _ w hl).mono fun e w' ⟨h1,h2⟩=>⟨by rw [h1];simp [hne],0,h2.symm⟩
end Go.Proofs.YtfdlhlghcbeblaaGreatDoor
set_option maxRecDepth 100000
set_option maxHeartbeats 16000000
namespace Go.Proofs.YtfdlhlghcbeblaaGreatDoor
open Go.RowKit Go.Ab
attribute [local go_sem] Oper.semAt_some wide_fn wide_depth
theorem size_int(D:World):(sizeOf (Tryz.prog.elem 48)).run Tryz.prog D=.ok 1 D:=by
 have e:Tryz.prog.elem 48=3:=by kernel_rfl
 rw [e]
 obtain⟨i,hi,_,hs,_⟩:=info_parts @infoI1
 simp [sizeOf,typeInfo,hi,hs]
theorem under_int:Tryz.prog.underlying 48=some (.slice (Tryz.prog.elem 48)):=by kernel_rfl
theorem rd_cut1{w:World}{A:Option Addr}{n c:Nat}{xs:List Value}(h:Rd w (.slice A n c) n 1 xs) {a:Nat} (ha:a<=n) (hcap:n<=c):Rd w (sliced A a n c 1) (n - a) 1 (xs.drop a):=by
 obtain⟨h1,h2,ao,cap,hv,h3⟩:=h
 simp only [Value.slice.injEq,true_and] at hv
 obtain⟨rfl,rfl⟩:=hv
 rw [Nat.mul_one] at h1
 refine⟨by rw [List.length_drop,h1,Nat.mul_one],by omega,_,_,by unfold sliced;rfl,fun h0=>?_⟩
 obtain⟨g,off,rfl,hg,hc⟩:=h3 (by omega)
 by_cases hca:c=a
 ·omega
 ·refine⟨g,off+a,by rw [if_neg hca];simp [cut_at],hg,fun j hj=>?_⟩
  rw [Nat.add_assoc,hc (a+j) (by omega)]
  congr 1
  rw [List.getD_eq_getElem?_getD,List.getD_eq_getElem?_getD,List.getElem?_drop]
theorem bef_new{V:World}{BB:Nat}(h:V.heap[BB]?=some (.cells #[.bool false,.bool false,.bool false,.bool false,.bool false,.bool false,.bool false,.bool false,.bool false,.bool false,.bool false,.bool false,.bool false,.bool false,.bool false,.bool false,.bool false,.bool false,.bool false,.bool false,.bool false,.bool false,.bool false,.bool false,.bool false,.bool false,.bool false,.bool false,.bool false,.bool false,.bool false,.bool false,.bool false,.bool false,.bool false,.bool false] 164 (0,0))):BefAt V BB (pairsOf []):=by
 have e:(#[.bool false,.bool false,.bool false,.bool false,.bool false,.bool false,.bool false,.bool false,.bool false,.bool false,.bool false,.bool false,.bool false,.bool false,.bool false,.bool false,.bool false,.bool false,.bool false,.bool false,.bool false,.bool false,.bool false,.bool false,.bool false,.bool false,.bool false,.bool false,.bool false,.bool false,.bool false,.bool false,.bool false,.bool false,.bool false,.bool false]:Array Value)=(List.replicate 36 (Value.bool false)).toArray:=rfl
 rw [e] at h
 refine⟨_,h,by simp,fun a b ha hb=>?_⟩
 have hab:a*6+b<36:=by omega
 simp only [List.getElem?_toArray,List.getElem?_replicate,hab,if_true]
 rfl
def NeedSt(BB _base:Nat)(w:World)(pre:List (List Nat)) (V:World):Prop:=BefAt V BB (pairsOf pre)/\V.heap[BB+1]?=some (.cells #[.bool (!pre.isEmpty)] 4 (0,0))/\Ext w V
theorem needed_any{w:World}{ps:LawsL}{qs:PairsL}{lo:Option Addr}{n lc:Nat}{po:Option Addr}{m pc:Nat}(hl:LawsAt w (.slice lo n lc) ps) (hn:ps.length=n) (hp:PairsAt w (.slice po m pc) qs) (hm:qs.length=m) (hT:Tab w) :
  Calls Tryz.prog 31 #[.slice lo n lc,.slice po m pc] w fun e w'=>∃ ao c,e=.returned (.tuple #[.slice ao (needL (ps.map (·.1)) qs).length c,.int .i64 (needE (ps.map (·.1)) qs)])/\Rd w' (.slice ao (needL (ps.map (·.1)) qs).length c) (needL (ps.map (·.1)) qs).length 2 (prs (needL (ps.map (·.1)) qs))/\Ext w w':=by
 have hck:=fun(V:World) (hE:Ext w V)=>ocheck_any (hl.ext hE) hn (pairs_ext hp hE) hm (hT.keep hE id)
 obtain⟨LD,hLD⟩:∃ x,ps.map (·.1)=x:=⟨_,rfl⟩
 have hLn:LD.length=n:=by rw [<-hLD,List.length_map,hn]
 have hnm:n<=maxLen:=by rw [<-hn];exact hl.1.2.1
 have hsix:ordE LD (qs.map (·.1))=0->n<=6/\m<=1000:=fun h=>by have:=ordE_six h;rw [hLn,List.length_map,hm] at this;omega
 have hit:=fun(h:ordE LD (qs.map (·.1))=0) (V:World) (B1 B2:Nat) (hE:Ext w V) (h1:V.heap[B1]?=_) (h2:V.heap[B2]?=_)=>expl_iter hE hl hn (hsix h).1 hp hm (hsix h).2 hT h1 h2
 have hxl:ordE LD (qs.map (·.1))=0->∀ x∈explL LD qs n,x.length=n/\∀ a∈x,a<n:=fun h x hx=>by
  unfold explL at hx
  have hx:=(List.mem_filter.1 hx).1
  rw [perms_range] at hx
  exact orders_lt n x hx
 rw [hLD]
 simp only [hLD] at hck hit
 obtain⟨X,hX⟩:∃ x,needL LD qs=x:=⟨_,rfl⟩
 obtain⟨NE,hNE⟩:∃ x,needE LD qs=x:=⟨_,rfl⟩
 rw [hX,hNE]
 unfold needL at hX
 rw [hNE] at hX
 unfold needE at hNE
 rw [hLn] at hX hNE
 obtain⟨L,hL⟩:∃ x,explL LD qs n=x:=⟨_,rfl⟩
 obtain⟨E,hE0⟩:∃ x,ordE LD (qs.map (·.1))=x:=⟨_,rfl⟩
 rw [hL] at hX
 rw [hL,hE0] at hNE hxl
 have hn6:=fun(h:E=0)=>(hsix (by rw [hE0];exact h)).1
 rw [hE0] at hit
 simp only [hL] at hit
 simp only [hE0] at hck
 have HCK:=Lib.hid hck;have HIT:=Lib.hid hit;have HX:=Lib.hid hX;have HNE:=Lib.hid hNE;have HXL:=Lib.hid hxl;have HN6:=Lib.hid hn6
 clear hck hit hX hNE hxl hL hE0 hsix hLD hLn hl hn hp hm hT hn6
 unfold maxLen at hnm
 refine calls_of_wp_marks Tryz.func31 rfl ?_
 simp only [Tryz.ntmps31,List.size_toArray,List.length_cons,List.length_nil,Nat.reduceAdd,Nat.reduceSub,Array.replicate_succ,Array.replicate_zero,List.push_toArray,List.append_toArray,List.nil_append,List.cons_append]
 obtain⟨N,hN⟩:∃ N,w.heap.size=N:=⟨_,rfl⟩
 have HN:=Lib.hid hN
 clear hN
 go_wp2_with fail
 refine(HCK.out _ (Turn.refl _ _)).mono ?_
 rintro e w2 ⟨rfl,hN2⟩
 have HE2:=Lib.hid hN2
 clear hN2 HCK
 by_cases hE0:E=0
 case neg=>
  have hne:(E != 0)=true:=by simpa using hE0
  have hnx:=HNE.out
  rw [if_neg hE0] at hnx
  have hx:=HX.out
  rw [<-hnx,if_neg hE0] at hx
  subst hx hnx
  go_wp2
  refine leavesM (v:=.tuple #[.slice none 0 0,.int .i64 E]) (base:=N) _ _ trivial fun w' ht' hs=>⟨res_2 rfl rfl rfl,none,0,rfl,Rd.of_own (e:=3) (World.ownsRow_nil _ 0 _ _),Turn.after HE2.out ht' (fun b hb h=>by have:=h.1;have:=HN.out;omega)⟩
 subst hE0
 have hnx:=HNE.out
 rw [if_pos (by first | trivial | rfl)] at hnx
 have HNE2:=Lib.hid hnx
 have hn6:=HN6.out (by first | trivial | rfl)
 have HXL2:=Lib.hid (HXL.out (by first | trivial | rfl))
 clear hnx HNE HXL HN6
 go_upto_region 6 with (fail)
 obtain⟨w3,hw3⟩:∃ D,(w2.alloc (.cells #[.bool false,.bool false,.bool false,.bool false,.bool false,.bool false,.bool false,.bool false,.bool false,.bool false,.bool false,.bool false,.bool false,.bool false,.bool false,.bool false,.bool false,.bool false,.bool false,.bool false,.bool false,.bool false,.bool false,.bool false,.bool false,.bool false,.bool false,.bool false,.bool false,.bool false,.bool false,.bool false,.bool false,.bool false,.bool false,.bool false] 164)).alloc (.cells #[.bool false] 4)=D:=⟨_,rfl⟩
 have hN3:Ext w2 w3:=by rw [<-hw3];exact((Turn.refl _ w2).alloc _).alloc _
 obtain⟨BB,hBB⟩:∃ B,w2.heap.size=B:=⟨_,rfl⟩
 have h31:BefAt w3 BB (pairsOf []):=bef_new (by rw [<-hw3];exact new_keep (new_at hBB.symm))
 have h32:w3.heap[BB+1]?=some (.cells #[.bool false] 4 (0,0)):=by rw [<-hw3];exact new_at (by simp;omega)
 have hNX:N<=BB:=by rw [<-hBB,<-HN.out];exact HE2.out.size
 rw [hBB,hw3]
 have H31:=Lib.hid h31;have H32:=Lib.hid h32;have HE3:=Lib.hid (HE2.out.trans hN3)
 clear hw3 hBB hN3 h31 h32 HE2
 go_wp2_with fail
 refine(explaining_any _ _ _ _ _ _ _).mono ?_
 rintro e w4 ⟨rfl,hb1,hb2,hE4,hs4⟩
 obtain⟨Y,hY⟩:∃ Y,w3.heap.size=Y:=⟨_,rfl⟩
 rw [hY] at hb1 hb2 hs4 ⊢
 have hit:=HIT.out (by first | trivial | rfl) w4 Y (Y+1) (HE3.out.trans hE4) hb1 hb2
 have hXY:BB+1<Y:=by rw [<-hY];exact(Array.getElem?_eq_some_iff.1 H32.out).1
 have HE4:=Lib.hid (HE3.out.trans hE4);have HS4:=Lib.hid hs4;have HITT:=Lib.hid hit
 have H41:=Lib.hid (H31.out.ext hE4 id);have H42:=Lib.hid (hE4.keep H32.out)
 clear hE4 hs4 hit hb1 hb2 hY HIT H31 H32 HE3
 go_wp2
 refine wp_rangeO (xs:=L) (K:=fun b=>b<w.heap.size\/b=Y\/b=Y+1) rfl (fun args w=>by simp [go_sem]) HITT.out (fun b h=>by have:=HS4.out;have:=HN.out;rcases h with h | h | h <;> omega) (fun _ _ x A ys h=>by obtain⟨_,_,rfl,_⟩:=h;rfl) ?hEs
  (fun O pre V=>NeedSt BB (w4.heap.size+2) w pre V) (fun c O pre V=>False) ?hI ?hIx ?h0 (fun ys t=>(t.setIfInBounds 26 (ys.getD 0 undef)).setIfInBounds 9 (ys.getD 0 undef)) ?assign ?body ?done ?stop
 case hEs=>
  rintro n' O x A B ys ⟨vo,vc,rfl,h1,h2⟩ ht ⟨o,q1,q2⟩
  refine⟨vo,vc,rfl,own_keep h1 ht (fun g hg e=>?_),h2⟩
  subst e
  obtain⟨cur,hc⟩:=own_block_ty h1 hg
  rw [q1] at hc;cases hc;cases q2
 case hI=>
  rintro O O' pre A B ⟨h1,h2,h3⟩ hO ht hO'
  have hz:=HS4.out
  have hn:=HN.out
  have ht2:Turn (fun b=>w4.heap.size+1<=b) A B:=ht.mono fun b _ h=>h.elim (fun h=>by have:=(hO b h.1).1;omega) (fun h=>by omega)
  exact⟨h1.ext ht2 (by omega),ht2.heap h2 (by omega),h3.after ht2 (fun b hb h=>by omega)⟩
 case hIx=>exact fun _ _ _ _ _ _ h _ _ _=>h
 case h0=>
  intro V hV hs
  exact⟨H41.out.ext hV id,hV.keep H42.out,Turn.trans HE4.out hV⟩
 case assign=>
  rintro _ _ x ys V Kn ⟨vo,vc,rfl,_⟩ hK
  gi_wp2
  exact hK
 case stop=>exact fun _ _ _ _ _ _ _ h=>h.elim
 case body=>
  rintro O pre x rest ys V hx hsz hO ht ⟨h1,h2,hE⟩ ⟨vo,vc,rfl,hr,hg⟩
  simp only [pq]
  have hxm:=HXL2.out x (by rw [hx];simp)
  have hz:Y+2<=w4.heap.size:=Nat.le_of_eq HS4.out.symm
  have hrl:∀ g,(Value.slice vo x.length vc).ownBlock=some g->w4.heap.size+2<=g:=fun g hg=>(hr.lt g hg).1
  have hrd:∀ B,Turn (fun b=>b=BB\/b=BB+1) V B->Rd B (.slice vo x.length vc) x.length 1 (natV x):=fun B hB=>Rd.of_own (own_keep hr hB (fun g hg e=>by have:=hrl g hg;omega))
  have hcap:x.length<=vc:=by
   rcases hr.2 with ⟨e,_⟩ | ⟨g,cap,cur,e,_,_,hnc,_⟩
   ·simp only [Value.slice.injEq] at e;omega
   ·cases e;exact hnc
  obtain⟨xn,hxn⟩:∃ k,x.length=k:=⟨_,rfl⟩
  have HXN:=Lib.hid hxn
  rw [hxn] at hrd hcap
  have hxn6:xn<=6:=by omega
  rw [hxn]
  have HXM:=Lib.hid hxm.2;have HO:=Lib.hid hO;have H1:=Lib.hid h1;have H2:=Lib.hid h2;have HEV:=Lib.hid hE;have HRD:=Lib.hid hrd
  have c2:=cell_of_one h2;have f2:=free_of_one h2
  clear hxm hrl hrd hx hO h1 hE hr hg ht hxn
  refine wpIn_block ?_
  gi_wp2
  have t1:=Turn.set1 V (BB+1) 0 (.bool true)
  obtain⟨V1,hV1⟩:∃ D,V.setCell ⟨BB+1,0,none⟩ (.bool true)=D:=⟨_,rfl⟩
  have hf1:V1.heap[BB+1]?=some (.cells #[.bool true] 4 (0,0)):=by rw [<-hV1];exact set_one h2
  rw [hV1] at t1 ⊢
  have hb1:=H1.out.ext t1 (by omega)
  have HF1:=Lib.hid hf1;have HT1:=Lib.hid t1;have HB1:=Lib.hid hb1
  clear hV1 hf1 t1 hb1 c2 f2 h2
  have hoth:∀ W,Turn (fun b=>b=BB) V1 W->Turn (fun b=>b=BB\/b=BB+1) V W:=fun W hW=>(HT1.out.mono fun b _ e=>.inr e).trans (hW.mono fun b _ e=>.inl e)
  have HOTH:=Lib.hid hoth
  clear hoth
  gi_loopw [29] (fun i wr=>∃ k:Nat,k<=xn/\i=.int .i64 k/\BefAt wr BB (pairsOf pre++pairsTo x k)/\Turn (fun b=>b=BB) V1 wr) (fun i _=>xn - (intOf i).toNat)
  case atStart=>exact⟨0,by omega,rfl,by rw [show pairsTo x 0=[] from rfl,List.append_nil];exact HB1.out,Turn.refl _ _⟩
  case round=>
   obtain⟨k,hk,rfl,hbk,htk⟩:=hrel
   have HBK:=Lib.hid hbk;have HTK:=Lib.hid htk
   clear hbk htk
   by_cases hlt:k<xn
   ·have hl1:(k:Int)<(xn:Int):=by omega
    have hl0:(0:Int)<=(k:Int):=by omega
    have hkx:k<x.length:=by rw [HXN.out];exact hlt
    have hrd:=HRD.out wr (HOTH.out wr HTK.out)
    obtain⟨g,off,cap,hq,hg,hc⟩:=rd_at1 hrd hlt
    simp only [Value.slice.injEq,true_and] at hq
    obtain⟨rfl,rfl⟩:=hq
    have hgx:(natV x).getD k undef=.int .i64 (x[k]:Int):=by unfold natV;rw [List.getD_eq_getElem?_getD,List.getElem?_map,List.getElem?_eq_getElem hkx];rfl
    rw [hgx] at hc
    have ha6:x[k]<6:=Nat.lt_of_lt_of_le (HXM.out _ (List.getElem_mem hkx)) hn6
    have hps:=pairsTo_succ x k
    rw [List.getD_eq_getElem?_getD,List.getElem?_eq_getElem hkx,Option.getD_some] at hps
    obtain⟨a,hxa⟩:∃ a,x[k]=a:=⟨_,rfl⟩
    rw [hxa] at hc ha6 hps
    have HPS:=Lib.hid hps
    have hwk:IntKind.i64.wrap ((k:Int)+1)=(k:Int)+1:=IntWalk.i64_in _ (by omega)
    have hk1:((k:Int)+1)=((k+1:Nat):Int):=by omega
    have s1:=fun D=>slice_l (A:=some ⟨g,off,none⟩) (n:=xn) (c:=vc) under_int size_int (k+1) (by omega) D
    rw [<-hk1] at s1
    obtain⟨y1,hy1⟩:∃ y,(if vc=k+1 then some (⟨g,off,none⟩:Addr) else(some (⟨g,off,none⟩:Addr)).map (·.add ((k+1)*1)))=y:=⟨_,rfl⟩
    have hsl:sliced (some ⟨g,off,none⟩) (k+1) xn vc 1=.slice y1 (xn - (k+1)) (vc - (k+1)):=by unfold sliced;rw [hy1]
    rw [hsl] at s1
    have hrd2:=fun W (hW:Turn (fun b=>b=BB) wr W)=>rd_cut1 (HRD.out W (HOTH.out W (HTK.out.trans hW))) (a:=k+1) (by omega) hcap
    rw [hsl] at hrd2
    have HRD2:=Lib.hid hrd2
    have hmem:∀ b∈x.drop (k+1),b<6:=fun b hb=>Nat.lt_of_lt_of_le (HXM.out _ (List.mem_of_mem_drop hb)) hn6
    have hdl:(x.drop (k+1)).length=xn - (k+1):=by rw [List.length_drop,HXN.out]
    have HMEM:=Lib.hid hmem;have HDL:=Lib.hid hdl
    clear hps hxa hgx hkx hrd hk1 hy1 hsl hrd2 hmem hdl
    obtain⟨rn,hrn⟩:∃ r,xn - (k+1)=r:=⟨_,rfl⟩
    have HRN:=Lib.hid hrn
    have hrn6:rn<=6:=by omega
    rw [hrn] at s1
    clear hrn
    gi_wp2
    clear s1
    gi_loopw [39] (fun i wq=>∃ q:Nat,q<=rn/\i=.int .i64 q/\BefAt wq BB (pairsOf pre++pairsTo x k++((x.drop (k+1)).take q).map fun b=>(a,b))/\Turn (fun b=>b=BB) wr wq) (fun i _=>rn - (intOf i).toNat)
    case atStart=>exact⟨0,by omega,rfl,by rw [List.take_zero,List.map_nil,List.append_nil];exact HBK.out,Turn.refl _ _⟩
    case round=>
     obtain⟨q,hq,rfl,hbq,htq⟩:=hrel
     have HBQ:=Lib.hid hbq;have HTQ:=Lib.hid htq
     clear hbq htq
     by_cases hqlt:q<rn
     ·have hq1:(q:Int)<(rn:Int):=by omega
      have hq0:(0:Int)<=(q:Int):=by omega
      have hqx:q<(x.drop (k+1)).length:=by rw [HDL.out,HRN.out];exact hqlt
      have hrd:=HRD2.out _ HTQ.out
      rw [HRN.out] at hrd
      obtain⟨g2,off2,cap2,hq2,hg2,hc2⟩:=rd_at1 hrd hqlt
      simp only [Value.slice.injEq,true_and] at hq2
      obtain⟨rfl,hq2⟩:=hq2
      have hgx:((natV x).drop (k+1)).getD q undef=.int .i64 ((x.drop (k+1))[q]:Int):=by
       unfold natV
       rw [List.getD_eq_getElem?_getD,<-List.map_drop,List.getElem?_map,List.getElem?_eq_getElem hqx];rfl
      rw [hgx] at hc2
      have hb6:(x.drop (k+1))[q]<6:=HMEM.out _ (List.getElem_mem hqx)
      have htk:(x.drop (k+1)).take (q+1)=(x.drop (k+1)).take q++[(x.drop (k+1))[q]]:=List.take_succ_eq_append_getElem hqx
      obtain⟨b,hxb⟩:∃ b,(x.drop (k+1))[q]=b:=⟨_,rfl⟩
      rw [hxb] at hc2 hb6 htk
      obtain⟨hcell,hfree⟩:=HBQ.out.cell ha6 hb6
      have hset:=HBQ.out.set ha6 hb6
      have hts:=HTQ.out.trans (Turn.set1 wr BB (a*6+b) (.bool true))
      have hwq:IntKind.i64.wrap ((q:Int)+1)=(q:Int)+1:=IntWalk.i64_in _ (by omega)
      have ha0:(0:Int)<=(a:Int):=by omega
      have hb0:(0:Int)<=(b:Int):=by omega
      have ha6i:(a:Int)<6:=by omega
      have hb6i:(b:Int)<6:=by omega
      have HSET:=Lib.hid hset;have HTS:=Lib.hid hts;have HTKK:=Lib.hid htk
      clear hset hts htk hxb hqx hq2 hgx hrd
      gi_wp2
      go_round
      case rel=>exact⟨q+1,by omega,by go_num,by rw [HTKK.out,List.map_append,<-List.append_assoc];exact HSET.out,HTS.out⟩
      case measure=>simp [intOf];omega
     ·obtain rfl:q=rn:=by omega
      have hq1:¬ (q:Int)<(q:Int):=by omega
      have hb:=HBQ.out
      rw [List.take_of_length_le (by rw [HDL.out,HRN.out];exact Nat.le_refl _),List.append_assoc,<-HPS.out] at hb
      have HBN:=Lib.hid hb;have HTN:=Lib.hid (HTK.out.trans HTQ.out)
      clear hb HBQ HTQ
      gi_wp2
      go_round
      case rel=>exact⟨k+1,by omega,by go_num,HBN.out,HTN.out⟩
      case measure=>simp [intOf];omega
   ·obtain rfl:k=xn:=by omega
    have hl1:¬ (k:Int)<(k:Int):=by omega
    have hb:=HBK.out
    rw [<-HXN.out,show pairsTo x x.length=pairsAll x from rfl,<-pairsOf_snoc] at hb
    have hvv:=HOTH.out wr HTK.out
    have hst:NeedSt BB (w4.heap.size+2) w (pre++[x]) wr:=⟨hb,by rw [show (!(pre++[x]).isEmpty)=true by simp];exact HTK.out.heap HF1.out (by omega),HEV.out.after hvv (fun b hb h=>by have:=HN.out;omega)⟩
    have hkeep:Turn (fun b=>¬ ((b<w.heap.size\/b=Y\/b=Y+1)\/O b\/b=w4.heap.size\/b=w4.heap.size+1)) V wr:=hvv.mono fun b _ h hn=>by
     have:=HN.out
     rcases hn with (h5 | h5 | h5) | h5 | h5 | h5
     ·omega
     ·omega
     ·omega
     ·have:=(HO.out b h5).1;omega
     ·omega
     ·omega
    have HST:=Lib.hid hst;have HKEEP:=Lib.hid hkeep
    clear hb hvv hst hkeep
    gi_wp2
    exact⟨HKEEP.out,HST.out⟩
 case done=>
  rintro O V ⟨hb,hf,hE⟩ hO ht hD
  have HB:=Lib.hid hb;have HEV:=Lib.hid hE;have HD:=Lib.hid hD;have HF:=Lib.hid hf
  have c1:=cell_of_one hf
  have hz:Y+2<=w4.heap.size:=Nat.le_of_eq HS4.out.symm
  clear hb hf hE hD hO ht
  by_cases hemp:L.isEmpty=true
  ·rw [hemp] at c1
   have hnx:=HNE2.out
   rw [if_pos hemp] at hnx
   have hx:=HX.out
   rw [<-hnx,if_neg (by decide)] at hx
   subst hx hnx
   clear HNE2 HX
   go_wp2
   refine leavesM (v:=.tuple #[.slice none 0 0,.int .i64 5]) (base:=N) _ _ (Marks.cons (base:=N) trivial (by omega) HD.out (fun e he=>by cases he)) fun w' ht' hs=>⟨res_2 rfl rfl rfl,none,0,rfl,Rd.of_own (e:=3) (World.ownsRow_nil _ 0 _ _),Turn.after HEV.out ht' (fun b hb h=>by have:=h.1;have:=HN.out;omega)⟩
  ·have hemp2:L.isEmpty=false:=by simpa using hemp
   rw [hemp2] at c1
   have hnx:=HNE2.out
   rw [if_neg hemp] at hnx
   have hx:=HX.out
   rw [<-hnx,if_pos rfl] at hx
   subst hnx
   obtain⟨R,hR⟩:∃ R,needR (pairsOf L)=R:=⟨_,rfl⟩
   rw [hR] at hx
   have HXX:=Lib.hid hx;have HRR:=Lib.hid hR
   clear hx hR HNE2 HX
   go_wp2
   obtain⟨B0,hB0⟩:∃ B0,V.heap.size=B0:=⟨_,rfl⟩
   have HB0:=Lib.hid hB0
   clear hB0
   go_loopw [14,53] (fun v i W=>∃(a:Nat) (ao:Option Addr) (c:Nat),a<=n/\i=.int .i64 a/\v=.slice ao (rowsN n R a).length c/\W.ownsRow B0 73 2 (.slice ao (rowsN n R a).length c) (rowsN n R a).length (prs (rowsN n R a))/\Ext V W) (fun _ i _=>n - (intOf i).toNat)
   case atStart=>exact⟨0,none,0,by omega,rfl,rfl,World.ownsRow_nil _ _ _ _,Turn.refl _ _⟩
   case round=>
    obtain⟨a,ao,c,ha,rfl,rfl,hO,hE⟩:=hrel
    have HOW:=Lib.hid hO;have HEW:=Lib.hid hE
    clear hO hE
    by_cases hlt:a<n
    ·have hl1:(a:Int)<(n:Int):=by omega
     have hwk:IntKind.i64.wrap ((a:Int)+1)=(a:Int)+1:=IntWalk.i64_in _ (by omega)
     have hle:=rowsN_le n R a
     have hsq:(rowsN n R a).length<=36:=Nat.le_trans hle (Nat.le_trans (Nat.mul_le_mul (by omega) hn6) (by decide:6*6<=36))
     have hs2:=rowsN_succ n R a
     obtain⟨l0,hl0⟩:∃ l,rowsN n R a=l:=⟨_,rfl⟩
     rw [hl0] at hs2 hsq
     have HOW2:=HOW.out
     rw [hl0] at HOW2
     rw [hl0]
     have HOW3:=Lib.hid HOW2;have HS2:=Lib.hid hs2
     clear HOW2 HOW hle hs2 hl0
     go_wp2
     go_loopw [14,58] (fun v i U=>∃(b:Nat) (ao:Option Addr) (c:Nat),b<=n/\i=.int .i64 b/\v=.slice ao (l0++rowN R a b).length c/\U.ownsRow B0 73 2 (.slice ao (l0++rowN R a b).length c) (l0++rowN R a b).length (prs (l0++rowN R a b))/\Ext V U) (fun _ i _=>n - (intOf i).toNat)
     case atStart=>exact⟨0,ao,c,by omega,rfl,by simp [rowN],by simpa [rowN] using HOW3.out,HEW.out⟩
     case round=>
      obtain⟨b,ao2,c2,hb,rfl,rfl,hO2,hE2⟩:=hrel
      have hrl:=rowN_le R a b
      have hsu:=rowN_succ R a b
      obtain⟨r0,hr0⟩:∃ l,l0++rowN R a b=l:=⟨_,rfl⟩
      have hr0l:r0.length<=42:=by rw [<-hr0,List.length_append];omega
      have hsu2:l0++rowN R a (b+1)=r0++if R a b=true then [((a:Int),(b:Int))] else []:=by rw [hsu,<-List.append_assoc,hr0]
      rw [hr0] at hO2
      rw [hr0]
      have HSU:=Lib.hid hsu2;have HO2:=Lib.hid hO2;have HE2:=Lib.hid hE2;have HR0:=Lib.hid hr0
      clear hsu hsu2 hO2 hE2 hr0 hrl
      by_cases hblt:b<n
      ·have hb1:(b:Int)<(n:Int):=by omega
       have hwb:IntKind.i64.wrap ((b:Int)+1)=(b:Int)+1:=IntWalk.i64_in _ (by omega)
       have ha0:(0:Int)<=(a:Int):=by omega
       have hb0:(0:Int)<=(b:Int):=by omega
       have ha6:(a:Int)<6:=by omega
       have hb6:(b:Int)<6:=by omega
       have hBU:=HB.out.ext HE2.out id
       obtain⟨q1,_⟩:=hBU.cell (a:=a) (b:=b) (by omega) (by omega)
       obtain⟨q2,_⟩:=hBU.cell (a:=b) (b:=a) (by omega) (by omega)
       have hRab:R a b=(inP (pairsOf L) a b && !inP (pairsOf L) b a):=by rw [<-HRR.out];rfl
       obtain⟨u1,hu1⟩:∃ u,inP (pairsOf L) a b=u:=⟨_,rfl⟩
       obtain⟨u2,hu2⟩:∃ u,inP (pairsOf L) b a=u:=⟨_,rfl⟩
       rw [hu1] at q1 hRab
       rw [hu2] at q2 hRab
       have hs3:=HSU.out
       rw [hRab] at hs3
       have HS3:=Lib.hid hs3
       clear hs3 hRab hu1 hu2 hBU
       cases u1 with
       | false=>
        go_wp2
        go_round
        case rel=>exact⟨b+1,ao2,c2,by omega,by go_num,by rw [HS3.out];simp,by rw [HS3.out];simpa using HO2.out,HE2.out⟩
        case measure=>simp [intOf];omega
       | true=>
        cases u2 with
        | true=>
         go_wp2
         go_round
         case rel=>exact⟨b+1,ao2,c2,by omega,by go_num,by rw [HS3.out];simp,by rw [HS3.out];simpa using HO2.out,HE2.out⟩
         case measure=>simp [intOf];omega
        | false=>
         have h3:=HO2.out
         obtain⟨rl,hrl⟩:∃ k,r0.length=k:=⟨_,rfl⟩
         have HRL:=Lib.hid hrl
         rw [hrl] at h3 hr0l
         rw [hrl]
         clear hrl
         have hbz:B0<=wr.heap.size:=by have:=HE2.out.size;have:=HB0.out;omega
         go_wp2_with (at_builtin;refine append_row rfl (.tmp 74) (.tmp 78) 70 rfl B0 73 _ 2 16 Tryz.underlying70 Tryz.infoPair rfl (by decide) _ _ _ rfl (own_ext h3 ((Turn.refl _ wr).alloc _)) ⟨wr.heap.size,0,none⟩ 1 1 [.int .i64 (a:Int),.int .i64 (b:Int)] rfl rfl (new_cells' rfl) ?c2 ?c3 ?c4 ?c5 ?_)
         case c2=>intro u hu;simp at hu;rcases hu with rfl | rfl <;> rfl
         case c3=>unfold maxLen;omega
         case c4=>omega
         case c5=>simp;omega
         intro ao' c' w5 hO5 hT5 hB5
         have hT6:Turn (fun b=>(Value.slice ao2 rl c2).ownBlock=some b) wr w5:=Turn.trans (Turn.alloc (Turn.refl _ wr) _) hT5
         have hE5:Ext V w5:=HE2.out.after hT6 (fun b hb e=>by have:=(h3.lt _ e).1;have:=HB0.out;omega)
         have e2:(r0++[((a:Int),(b:Int))]).length=rl+1:=by rw [List.length_append,HRL.out];rfl
         have h6:w5.ownsRow B0 73 2 (.slice ao' (rl+1) c') (rl+1) (prs (r0++[((a:Int),(b:Int))])):=by rw [prs_append];exact hO5
         have H6:=Lib.hid h6;have HE5:=Lib.hid hE5;have HEL:=Lib.hid e2
         clear h6 hE5 e2 hT6 hT5 hB5 hO5 h3
         go_wp2
         go_round
         case rel=>exact⟨b+1,ao',c',by omega,by go_num,by rw [HS3.out];simp [HRL.out],by rw [HS3.out];simp only [Bool.not_false,Bool.and_true,if_true];rw [HEL.out];exact H6.out,HE5.out⟩
         case measure=>simp [intOf];omega
      ·obtain rfl:b=n:=by omega
       have hb1:¬ (b:Int)<(b:Int):=by omega
       have hfin:=HR0.out
       rw [<-HS2.out] at hfin
       subst hfin
       go_wp2
       go_round
       case rel=>exact⟨a+1,ao2,c2,by omega,by go_num,rfl,HO2.out,HE2.out⟩
       case measure=>simp [intOf];omega
    ·obtain rfl:a=n:=by omega
     have hl1:¬ (a:Int)<(a:Int):=by omega
     have hx:=HXX.out
     have h3:=HOW.out
     rw [rowsN_all] at h3
     have hrr:rowsN a R a=X:=by rw [rowsN_all];exact hx
     rw [hx] at h3
     rw [hrr]
     obtain⟨xl,hxl⟩:∃ k,X.length=k:=⟨_,rfl⟩
     have HXLN:=Lib.hid hxl;have H3:=Lib.hid h3
     rw [hxl]
     clear hx h3 hrr hxl HOW
     go_wp2
     refine leavesM (v:=.tuple #[.slice ao xl c,.int .i64 0]) (base:=N) _ _ (Marks.cons (base:=N) trivial (by omega) (HEW.out.keep HD.out) (fun e he=>by cases he)) fun w' ht' hs=>⟨res_2 rfl rfl rfl,ao,c,by rw [HXLN.out],Rd.of_own (own_keep H3.out ht' (fun g hg e=>by obtain⟨cur,hc⟩:=own_block_ty H3.out hg;exact Go.Ab.Shut.not hc rfl e)),Turn.after (HEV.out.trans HEW.out) ht' (fun b hb h=>by have:=h.1;have:=HN.out;omega)⟩
end Go.Proofs.YtfdlhlghcbeblaaGreatDoor
