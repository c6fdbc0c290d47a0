/- PLAIN: what patterns match, as relations between places; a pattern that is repeated. PLAIN: the reference's loop over the times of a repeated pattern; relations as rows of bits. pats.set.all: the iterator over the places of a set. pats.relation in memory; identity. pats.relation: then, or, power. -/
import Derived.Test.YtfdlhlghcbeblaaGreatDoorH00
import Derived.Laws.Rows
import Derived.Laws.Tables
import Derived.Deep.WholeRow
namespace Go.Ab
abbrev Bin2:=Nat->Nat->Bool
abbrev Wd:=List (Nat × Nat)
def comp(X Y:Bin2):Bin2:=fun a c=>(List.range 33).any fun b=>X a b && Y b c
def idB(n:Nat):Bin2:=fun a b=>a == b && decide (a<=n)
def orB(X Y:Bin2):Bin2:=fun a b=>X a b || Y a b
def noB:Bin2:=fun _ _=>false
def powB(X:Bin2)(n:Nat):Nat->Bin2
 | 0=>idB n
 | k+1=>comp X (powB X n k)
def Mono(n:Nat)(X:Bin2):Prop:=∀ a b,X a b=true->a<=b/\b<=n
theorem comp_iff{X Y:Bin2}{a c:Nat}:comp X Y a c=true↔∃ b,b<33/\X a b=true/\Y b c=true:=by
 simp only [comp,List.any_eq_true,List.mem_range,Bool.and_eq_true]
theorem idB_iff{n a b:Nat}:idB n a b=true↔a=b/\a<=n:=by simp [idB]
theorem orB_iff{X Y:Bin2}{a b:Nat}:orB X Y a b=true↔X a b=true\/Y a b=true:=by simp [orB]
theorem bin_ext{X Y:Bin2}(h:∀ a b,X a b=true↔Y a b=true):X=Y:=by
 funext a b;exact Bool.eq_iff_iff.2 (h a b)
theorem Mono.id(n:Nat):Mono n (idB n):=fun a b h=>by rw [idB_iff] at h;omega
theorem Mono.no(n:Nat):Mono n noB:=fun a b h=>by cases h
theorem Mono.comp{n:Nat}{X Y:Bin2}(h:Mono n X)(k:Mono n Y):Mono n (comp X Y):=fun a c hc=>by
 obtain⟨b,_,h1,h2⟩:=comp_iff.1 hc
 have:=h _ _ h1;have:=k _ _ h2;omega
theorem Mono.or{n:Nat}{X Y:Bin2}(h:Mono n X)(k:Mono n Y):Mono n (orB X Y):=fun a b hc=>by
 rcases orB_iff.1 hc with hc | hc
 ·exact h _ _ hc
 ·exact k _ _ hc
theorem Mono.pow{n:Nat}{X:Bin2}(h:Mono n X):∀ k,Mono n (powB X n k)
 | 0=>Mono.id n
 | k+1=>h.comp (Mono.pow h k)
theorem comp_assoc(X Y Z:Bin2):comp (comp X Y) Z=comp X (comp Y Z):=by
 apply bin_ext;intro a d
 simp only [comp_iff]
 constructor
 ·rintro⟨c,hc,⟨b,hb,h1,h2⟩,h3⟩;exact⟨b,hb,h1,c,hc,h2,h3⟩
 ·rintro⟨b,hb,h1,c,hc,h2,h3⟩;exact⟨c,hc,⟨b,hb,h1,h2⟩,h3⟩
theorem comp_id{n:Nat}(hn:n<=32){X:Bin2}(h:Mono n X):comp X (idB n)=X:=by
 apply bin_ext;intro a c
 simp only [comp_iff,idB_iff]
 constructor
 ·rintro⟨b,_,h1,rfl,_⟩;exact h1
 ·intro h1;have:=h _ _ h1;exact⟨c,by omega,h1,rfl,by omega⟩
theorem id_comp{n:Nat}(hn:n<=32){X:Bin2}(h:Mono n X):comp (idB n) X=X:=by
 apply bin_ext;intro a c
 simp only [comp_iff,idB_iff]
 constructor
 ·rintro⟨b,_,⟨rfl,_⟩,h1⟩;exact h1
 ·intro h1;have:=h _ _ h1;exact⟨a,by omega,⟨rfl,by omega⟩,h1⟩
def pwGo(n:Nat):Nat->Nat->Bin2->Bin2->Bin2
 | 0,_,_,out=>out
 | f+1,k,x,out=>if k=0 then out else pwGo n f (k / 2) (comp x x) (if k % 2=1 then comp out x else out)
theorem pow_two{n:Nat}(hn:n<=32){X:Bin2}(h:Mono n X):∀ k,powB (comp X X) n k=powB X n (2*k)
 | 0=>rfl
 | k+1=>by
  show comp (comp X X) _=_
  rw [pow_two hn h k,show 2*(k+1)=2*k+1+1 by omega,comp_assoc];rfl
def sumB(X:Bin2)(n lo:Nat):Nat->Bin2
 | 0=>powB X n lo
 | e+1=>orB (sumB X n lo e) (powB X n (lo+(e+1)))
def repB(X:Bin2)(n lo e:Nat):Bin2:=comp (powB X n lo) (powB (orB X (idB n)) n e)
def sat(s c:Nat × Nat):Bool:=(c.1 &&& s.1 == c.1) && (c.2 &&& s.2 == c.2)
def soundB(w:Wd)(c:Nat × Nat)(nt:Bool):Bin2:=fun a b=>b == a+1 && decide (a<w.length) && (sat (w.getD a (0,0)) c != nt)
def edgeB(a:Nat):Bin2:=fun x y=>x == a && y == a
def extra(n:Nat)(mn mx:Int):Nat:=if mx<0 then n else(mx - mn).toNat
mutual
def relP(w:Wd):Pat->Bin2
 | .node k pl mi nt mn mx l=>
  if k=1 then soundB w (pl,mi) nt
  else if k=2 then edgeB 0
  else if k=6 then edgeB w.length
  else if k=4 then altB w l
  else if k=5 then oneB w l mn mx
  else seqB w l (idB w.length)
def seqB(w:Wd):List Pat->Bin2->Bin2
 | [],X=>X
 | p::l,X=>seqB w l (comp X (relP w p))
def altB(w:Wd):List Pat->Bin2
 | []=>noB
 | p::l=>orB (relP w p) (altB w l)
def oneB(w:Wd):List Pat->Int->Int->Bin2
 | [],_,_=>noB
 | p::_,mn,mx=>repB (relP w p) w.length mn.toNat (extra w.length mn mx)
end
theorem Mono.sound(w:Wd)(c:Nat × Nat)(nt:Bool):Mono w.length (soundB w c nt):=fun a b h=>by
 simp only [soundB,Bool.and_eq_true,beq_iff_eq,decide_eq_true_eq] at h
 omega
theorem Mono.edge{n a:Nat}(h:a<=n):Mono n (edgeB a):=fun x y hh=>by
 simp only [edgeB,Bool.and_eq_true,beq_iff_eq] at hh
 omega
mutual
theorem relP_mono(w:Wd):∀ p,Mono w.length (relP w p)
 | .node k pl mi nt mn mx l=>by
  unfold relP
  split
  ·exact Mono.sound _ _ _
  ·split
   ·exact Mono.edge (Nat.zero_le _)
   ·split
    ·exact Mono.edge (Nat.le_refl _)
    ·split
     ·exact altB_mono w l
     ·split
      ·exact oneB_mono w l mn mx
      ·exact seqB_mono w l _ (Mono.id _)
theorem seqB_mono(w:Wd):∀(l:List Pat) (X:Bin2),Mono w.length X->Mono w.length (seqB w l X)
 | [],_,h=>by unfold seqB;exact h
 | p::l,X,h=>by unfold seqB;exact seqB_mono w l _ (h.comp (relP_mono w p))
theorem altB_mono(w:Wd):∀(l:List Pat),Mono w.length (altB w l)
 | []=>by unfold altB;exact Mono.no _
 | p::l=>by unfold altB;exact(relP_mono w p).or (altB_mono w l)
theorem oneB_mono(w:Wd):∀(l:List Pat) (mn mx:Int),Mono w.length (oneB w l mn mx)
 | [],_,_=>by unfold oneB;exact Mono.no _
 | p::_,mn,mx=>by unfold oneB repB;exact(Mono.pow (relP_mono w p) _).comp (Mono.pow ((relP_mono w p).or (Mono.id _)) _)
end
theorem orB_assoc(X Y Z:Bin2):orB (orB X Y) Z=orB X (orB Y Z):=by funext a b;simp [orB,Bool.or_assoc]
theorem orB_no(X:Bin2):orB X noB=X:=by funext a b;simp [orB,noB]
theorem no_orB(X:Bin2):orB noB X=X:=by funext a b;simp [orB,noB]
end Go.Ab
namespace Go.Ab
def outK(X:Bin2)(n lo k:Nat):Bin2:=if k<=lo then noB else sumB X n lo (k - lo - 1)
def rowM(X:Bin2)(a:Nat):Nat:=mask 33 (X a)
theorem rowM_out{n:Nat}{X:Bin2}(hX:Mono n X){a:Nat}(h:n<a):rowM X a=0:=by
 have:X a=fun _=>false:=by
  funext b
  cases hh:X a b with
  | false=>rfl
  | true=>have:=hX _ _ hh;omega
 rw [rowM,this,mask_zero]
theorem rowM_or(X Y:Bin2)(a:Nat):rowM X a ||| rowM Y a=rowM (orB X Y) a:=by
 unfold rowM;rw [mask_or];rfl
theorem rowM_no(a:Nat):rowM noB a=0:=mask_zero 33
theorem rowM_id{n a:Nat}(hn:n<=32)(h:a<=n):rowM (idB n) a=2 ^ a:=by
 rw [two_pow_mask (n:=33) (by omega)]
 exact mask_congr fun i _=>by
  apply Bool.eq_iff_iff.2
  rw [idB_iff,beq_iff_eq]
  omega
theorem rowM_bit(X:Bin2){a b:Nat}(hb:b<33):(rowM X a).testBit b=X a b:=by
 rw [rowM,testBit_mask];simp [hb]
def partB(Y:Bin2)(pre:List Nat):Nat:=mask 33 fun c=>pre.any fun b=>Y b c
theorem partB_nil(Y:Bin2):partB Y []=0:=mask_zero 33
theorem partB_snoc(Y:Bin2)(pre:List Nat)(b:Nat):partB Y (pre++[b])=partB Y pre ||| rowM Y b:=by
 unfold partB rowM
 rw [mask_or]
 exact mask_congr fun i _=>by simp
theorem partB_all(X Y:Bin2)(a:Nat):partB Y ((List.range 33).filter (X a))=rowM (comp X Y) a:=by
 unfold partB rowM comp
 exact mask_congr fun i _=>by rw [List.any_filter]
theorem evs_rowM(X:Bin2)(a:Nat):evs (rowM X a)=(List.range 33).filter (X a):=evs_mask 33 (by decide) _
end Go.Ab
set_option maxRecDepth 100000
namespace Go.Proofs.YtfdlhlghcbeblaaGreatDoor
open Go.RowKit Go.Ab
attribute [local go_sem] Oper.semAt_some wide_fn wide_depth
theorem andNot_low(v:Nat)(hv:v<18446744073709551616)(h0:v≠0) :
  bits BinOp.andNot IntKind.u64 (v:Int) (IntKind.u64.wrap (2 ^ Lib.ctz 64 v))=((v &&& (v - 1):Nat):Int):=by
 obtain⟨m,hm,hk⟩:=ctz_form v h0 (by simpa using hv)
 generalize Lib.ctz 64 v=k at hm hk
 have hp:2 ^ k<18446744073709551616:=by
  have:=Nat.pow_lt_pow_right (a:=2) (by decide) hk
  simpa using this
 have e:IntKind.u64.wrap (2 ^ k)=((2 ^ k:Nat):Int):=by
  rw [IntKind.wrap_u64]
  have e:((2:Int) ^ k)=((2 ^ k:Nat):Int):=by simp
  rw [e]
  generalize 2 ^ k=P at hp
  omega
 rw [e,u64_andNot_nat _ _ hv hp]
 congr 1
 apply Nat.eq_of_testBit_eq
 intro i
 have h1:(18446744073709551615 - 2 ^ k).testBit i=(decide (i<64) && !(2 ^ k).testBit i):=by
  have:=Nat.testBit_two_pow_sub_succ (n:=64) (x:=2 ^ k) (by simpa using hp) i
  simpa using this
 have h2:v.testBit i=(decide (i=k) || (decide (k<i) && m.testBit (i - (k+1)))):=by rw [hm];exact testBit_form k m i
 have h3:(v &&& (v - 1)).testBit i=(decide (k<i) && m.testBit (i - (k+1))):=by
  rw [hm,and_pred,Nat.testBit_two_pow_mul]
  simp only [ge_iff_le,Nat.succ_le_iff]
 rw [h3,Nat.testBit_and,h1,h2,Nat.testBit_two_pow]
 by_cases hik:i=k
 ·subst hik;simp
 ·have hki:¬ k=i:=fun e=>hik e.symm
  simp only [hik,hki,decide_false,Bool.false_or,Bool.not_false,Bool.and_true]
  by_cases h64:i<64
  ·simp [h64]
  ·have hv2:v.testBit i=false:=Nat.testBit_lt_two_pow (Nat.lt_of_lt_of_le hv (Nat.pow_le_pow_right (n:=2) (by decide) (show 64<=i by omega)))
   rw [h2] at hv2
   simp only [hik,decide_false,Bool.false_or] at hv2
   simp [hv2]
def SBox(w:World)(bx:Nat)(v:Nat):Prop:=w.heap[bx]?=some (.cells #[.int .u64 v] 361 (0,0))
theorem SBox.cell{w:World}{bx v:Nat}(h:SBox w bx v):w.cell? ⟨bx,0,none⟩=some (.int .u64 v):=cell_of_one h
theorem SBox.free{w:World}{bx v:Nat}(h:SBox w bx v):w.frozen? ⟨bx,0,none⟩=false:=free_of_one h
theorem SBox.store{w:World}{bx v:Nat}(u:Nat)(h:SBox w bx v):SBox (w.setCell ⟨bx,0,none⟩ (.int .u64 u)) bx u:=one_setCell h
def sLeft(w:World)(bx:Nat):Nat:=match w.cell? ⟨bx,0,none⟩ with | some (.int _ n)=>n.toNat | _=>0
theorem sLeft_eq{w:World}{bx v:Nat}(h:SBox w bx v):sLeft w bx=v:=by unfold sLeft;rw [h.cell];simp
theorem low_lt(v:Nat)(hv:v<18446744073709551616):v &&& (v - 1)<18446744073709551616:=by
 have:=Nat.and_le_left (n:=v) (m:=v - 1)
 omega
theorem low_lt'(v:Nat)(h0:v≠0):(v &&& (v - 1))<v:=by
 have:=Nat.and_le_right (n:=v) (m:=v - 1)
 omega
theorem all_iter(v:Nat)(hv:v<18446744073709551616)(bx:Nat)(hbx:bx≠0)(w:World)(hb:SBox w bx v)(hT:Tab w) :
  Iter Tryz.prog 301 #[.pointer (some ⟨bx,0,none⟩)] (fun x:Nat=>#[.int .i64 x]) (evs v) (·=bx) (fun b=>b=bx\/b=0) w:=by
 intro l J Jx W ht hJ hJx hY h0
 have hbW:SBox W bx v:=ht.heap hb (by simp)
 have hTW:Tab W:=hT.keep ht (by simp)
 refine callsIn_wide.1 (callsIn_of_wp (n:=0) Tryz.func301 rfl trivial ?_ rfl)
 simp only [Tryz.ntmps301,List.size_toArray,List.length_cons,List.length_nil,Nat.reduceAdd,Nat.reduceSub,Array.replicate_succ,Array.replicate_zero,List.push_toArray,List.append_toArray,List.nil_append,List.cons_append]
 gi_wp2
 gi_loopw [3] (fun _ wr=>∃(pre:List Nat) (u:Nat),SBox wr bx u/\u<18446744073709551616/\evs v=pre++evs u/\J pre wr/\Tab wr)
  (fun _ wr=>sLeft wr bx)
 case atStart=>exact⟨[],v,hbW,hv,rfl,h0,hTW⟩
 case round=>
  obtain⟨pre,u,hbox,hu,hev,hJs,hTs⟩:=hrel
  have hc:=hbox.cell
  have hm0:sLeft wr bx=u:=sLeft_eq hbox
  by_cases hu0:u=0
  ·subst hu0
   rw [evs_zero,List.append_nil] at hev
   clear hm0
   gi_wp2
   go_end0
   exact⟨⟨_,rfl⟩,.inl (by rw [hev];exact hJs)⟩
  ·have hne:((u:Int) != 0)=true:=by simp;omega
   have hcons:=evs_cons u hu0 (by simpa using hu)
   rw [hcons] at hev
   have hz64:Lib.ctz 64 u<64:=(mem_evs.1 (by rw [hcons];simp:Lib.ctz 64 u∈evs u)).1
   have HC:=Lib.hid hcons;clear hcons
   have HM:=Lib.hid hm0;clear hm0
   have hp:=andNot_low u hu hu0
   obtain⟨z,hz⟩:∃ z,Lib.ctz 64 u=z:=⟨_,rfl⟩
   rw [hz] at hp hz64 hev
   have HE:=Lib.hid hev;clear hev
   have htz:=tz_any u hu hu0 wr hTs
   rw [hz] at htz
   have HTZ:=Lib.hid htz
   clear htz hz
   have hfr:=hbox.free
   have hz3:(z:Int)<64:=by omega
   have hTs2:Turn (·=bx) wr (wr.setCell ⟨bx,0,none⟩ (.int .u64 ((u &&& (u - 1):Nat):Int))).drew:=(Turn.set1 wr bx 0 _).drew
   have hJ2:=hJ _ _ _ hJs hTs2
   have hb2:SBox (wr.setCell ⟨bx,0,none⟩ (.int .u64 ((u &&& (u - 1):Nat):Int))).drew bx (u &&& (u - 1)):=drew_keep (SBox.store (w:=wr) _ hbox)
   have hT2:Tab (wr.setCell ⟨bx,0,none⟩ (.int .u64 ((u &&& (u - 1):Nat):Int))).drew:=hTs.keep hTs2 (Ne.symm hbx)
   have HT2:=Lib.hid hT2
   have hlow:=low_lt u hu
   obtain⟨fn,tmps,assign,body,hy,hR⟩:=hY pre _ _ _ HE.out hJ2
   gi_wp2_with (gi_at_call 152;refine(callsIn_wide.2 HTZ.out).mono ?_;rintro e w' ⟨rfl,rfl⟩)
   have HY:=Lib.hid hy;have HR:=Lib.hid hR;have HB2:=Lib.hid hb2
   clear hy hR hTs2 hJ2 hT2 hb2
   refine(wpIn_wide (n:=_)).2 ?_
   refine region_still 4 (by kernel_rfl) (by kernel_rfl) ?_
   simp only [List.take_succ_cons,List.take_zero,List.drop_succ_cons,List.drop_zero]
   repeat still_step
   refine wpStill_nil ?_
   go_wp2
   have hy:=HY.out
   gi_wp2
   refine HR.out.mono ?_
   rintro e W3 (⟨rfl,hJ3,hk3⟩ | ⟨rfl,hJx3⟩)
   ·have hb3:SBox W3 bx (u &&& (u - 1)):=hk3.heap HB2.out (by simp)
    have hT3:Tab W3:=HT2.out.keep hk3 (by simp)
    clear hy hbox hc hTs hJs hp
    gi_wp2
    go_roundw
    case rel=>exact⟨pre++[z],u &&& (u - 1),hb3,hlow,by rw [HE.out];simp,hJ3,hT3⟩
    case measure=>rw [HM.out,sLeft_eq hb3];exact low_lt' u hu0
   ·clear hy
    gi_wp2
    refine bodyPost_ret (results_none rfl _ _ _) rfl ?_
    exact⟨⟨_,rfl⟩,.inr ⟨pre,_,_,HE.out,hJx3⟩⟩
theorem all_any(v:Int)(w:World) :
  Calls Tryz.prog 293 #[.int .u64 v] w fun e w'=>e=.returned (.func (.func 301) #[] #[.pointer (some ⟨w.heap.size,0,none⟩)])/\w'=w.alloc (.cells #[.int .u64 v] 361):=by
 go_enter Tryz.func293,Tryz.ntmps293
 go_wp2
 go_ret
 exact⟨rfl,rfl⟩
end Go.Proofs.YtfdlhlghcbeblaaGreatDoor
set_option maxRecDepth 100000
set_option maxHeartbeats 4000000
namespace Go.Proofs.YtfdlhlghcbeblaaGreatDoor
open Go.RowKit Go.Ab
def relArr(M:Bin2):Array Value:=((List.range 33).map fun a=>Value.int .u64 (rowM M a)).toArray
theorem relArr_size(M:Bin2):(relArr M).size=33:=by simp [relArr]
theorem relArr_ne(M:Bin2):(relArr M=#[])=False:=by
 apply eq_false;intro h;have:=relArr_size M;rw [h] at this;simp at this
theorem relArr_no:relArr noB=(Array.replicate 33 (Value.int .u64 0)):=by
 unfold relArr
 have:(fun a=>Value.int .u64 ((rowM noB a:Nat):Int))=fun _=>Value.int .u64 0:=by funext a;rw [rowM_no];rfl
 rw [this];rfl
theorem zero_rel(w:World):(zeroValue 363).run Tryz.prog w=.ok (.agg (relArr noB)) w:=by
 rw [relArr_no];kernel_rfl
def rowArr(f:Nat->Nat):Array Value:=((List.range 33).map fun a=>Value.int .u64 (f a)).toArray
theorem rowArr_rel(M:Bin2):relArr M=rowArr (rowM M):=rfl
theorem rowArr_set(f:Nat->Nat)(a v:Nat):(rowArr f).setIfInBounds a (.int .u64 (v:Int))=rowArr fun i=>if i=a then v else f i:=by
 unfold rowArr
 rw [List.setIfInBounds_toArray]
 congr 1
 apply List.ext_getElem?
 intro i
 simp only [List.getElem?_set,List.getElem?_map,List.length_map,List.length_range]
 by_cases hx:a=i
 ·subst hx
  by_cases hm:a<33
  ·simp [hm]
  ·simp [hm]
 ·rw [if_neg hx]
  by_cases hm:i<33
  ·simp [hm,Ne.symm hx]
  ·simp [hm]
theorem rowArr_congr{f g:Nat->Nat}(h:∀ a,a<33->f a=g a):rowArr f=rowArr g:=by
 unfold rowArr
 rw [List.map_congr_left fun a ha=>by rw [h a (List.mem_range.1 ha)]]
theorem rowArr_get(f:Nat->Nat){a:Nat}(h:a<33):(rowArr f)[a]?=some (.int .u64 (f a)):=by simp [rowArr,h]
theorem rowArr_size(f:Nat->Nat):(rowArr f).size=33:=by simp [rowArr]
def RowsAt(w:World)(b:Nat)(f:Nat->Nat):Prop:=w.heap[b]?=some (.cells (rowArr f) 363 (0,0))
theorem RowsAt.cell{w:World}{b:Nat}{f:Nat->Nat}(h:RowsAt w b f){a:Nat}(ha:a<33):w.cell? ⟨b,a,none⟩=some (.int .u64 (f a)):=by
 rw [cell_of_row w b a _ _ _ h,rowArr_get f ha]
theorem RowsAt.free{w:World}{b:Nat}{f:Nat->Nat}(h:RowsAt w b f)(a:Nat):w.frozen? ⟨b,a,none⟩=false:=frozen_of_row w b a _ _ h
theorem RowsAt.keep{S:Nat->Prop}{A B:World}{b:Nat}{f:Nat->Nat}(h:RowsAt A b f)(ht:Turn S A B)(hS:¬ S b):RowsAt B b f:=ht.heap h hS
theorem RowsAt.lt{w:World}{b:Nat}{f:Nat->Nat}(h:RowsAt w b f):b<w.heap.size:=(Array.getElem?_eq_some_iff.1 h).1
theorem RowsAt.store{w:World}{b:Nat}{f:Nat->Nat}(h:RowsAt w b f)(a v:Nat):RowsAt (w.setCell ⟨b,a,none⟩ (.int .u64 (v:Int))) b (fun i=>if i=a then v else f i):=by
 unfold RowsAt
 rw [heap_setCell_same w b a _ _ _ h,rowArr_set]
theorem RowsAt.row{w:World}{b:Nat}{f g:Nat->Nat}(h:RowsAt w b f):RowsAt (w.setRow b (rowArr g)) b g:=setRow_heap w b _ _ _ _ h
theorem Turn.setRow(A:World)(b:Nat)(cs:Array Value):Turn (·=b) A (A.setRow b cs):=
 ⟨rfl,rfl,rfl,by simp,fun i _ hi=>by
  show (A.heap.modify b _)[i]?=_
  rw [Array.getElem?_modify,if_neg (fun e=>hi e.symm)]⟩
theorem Tryz.relInfo (f:Nat->Nat):(Tryz.prog.info? 363).map (·.size)=some (rowArr f).size:=by
 rw [rowArr_size];kernel_rfl
theorem rowArr_one(f:Nat->Nat):(rowArr f).all (·.oneCell')=true:=by
 rw [Array.all_eq_true']
 intro v hv
 simp only [rowArr,List.mem_toArray,List.mem_map] at hv
 obtain⟨_,_,rfl⟩:=hv;rfl
theorem pow_u64{k:Nat}(hk:k<64):IntKind.u64.wrap (2 ^ k)=((2 ^ k:Nat):Int):=by
 have hp:2 ^ k<18446744073709551616:=by
  have:=Nat.pow_lt_pow_right (a:=2) (by decide) hk
  simpa using this
 rw [IntKind.wrap_u64]
 have e:((2:Int) ^ k)=((2 ^ k:Nat):Int):=by simp
 rw [e]
 generalize 2 ^ k=P at hp
 omega
theorem rel_result{fn:Func}{p:Tmp}(h:fn.results=#[.cell p 363]){tmps:Array Value}{w:World}{g:Nat}{f:Nat->Nat}(hp:tmps.getD p undef=.pointer (some ⟨g,0,none⟩)) (hg:RowsAt w g f) :
  (results fn tmps).run Tryz.prog w=.ok (.agg (rowArr f)) w:=
 results_cell_row h tmps w g _ _ _ _ hp hg Tryz.underlying363 rfl (Tryz.relInfo f)
theorem identity_any(n:Nat)(hn:n<=32)(w:World) :
  Calls Tryz.prog 335 #[.int .i64 n] w fun e w'=>e=.returned (.agg (rowArr (rowM (idB n))))/\Ext w w':=by
 have z1:=zero_rel
 have z2:=relArr_size noB
 have z3:=relArr_ne noB
 go_enter Tryz.func335,Tryz.ntmps335
 go_wp2
 clear z1 z2 z3
 obtain⟨B,hB⟩:∃ B,w.heap.size=B:=⟨_,rfl⟩
 have hr:RowsAt ((w.alloc (.cells (relArr noB) 363)).alloc (.cells (relArr noB) 363)) B (fun _=>0):=by
  subst hB
  refine new_keep (new_at rfl) |>.trans ?_
  rw [rowArr_rel,rowArr_congr fun a _=>rowM_no a]
 have hv:RowsAt ((w.alloc (.cells (relArr noB) 363)).alloc (.cells (relArr noB) 363)) (B+1) (fun a=>if a<0 then 2 ^ a else 0):=by
  subst hB
  refine(new_at (by simp)).trans ?_
  rw [rowArr_rel,rowArr_congr (g:=fun a=>if a<0 then 2 ^ a else 0) fun a _=>by rw [rowM_no];simp]
 have hE:Ext w ((w.alloc (.cells (relArr noB) 363)).alloc (.cells (relArr noB) 363)):=((Turn.refl _ w).alloc _).alloc _
 generalize ((w.alloc (.cells (relArr noB) 363)).alloc (.cells (relArr noB) 363))=w1 at hr hv hE ⊢
 rw [hB]
 have HB:=Lib.hid hB
 clear hB
 refine wp_loop (fun a W=>∃(k:Nat),k<=n+1/\a.defers=[]/\(a.tmps.size=16/\a.tmps.getD 2 undef=.pointer (some ⟨B,0,none⟩)/\a.tmps.getD 3 undef=.pointer (some ⟨B+1,0,none⟩)/\a.tmps.getD 6 undef=.int .i64 ((n:Int)+1)/\a.tmps.getD 7 undef=.int .i64 k)/\RowsAt W B (fun _=>0)/\RowsAt W (B+1) (fun a=>if a<k then 2 ^ a else 0)/\Ext w W)
  (fun a _=>n+1 - (intOf (a.tmps.getD 7 undef)).toNat) ?_ ?_
 ·exact⟨0,by omega,rfl,⟨rfl,rfl,rfl,rfl,rfl⟩,hr,hv,hE⟩
 clear hr hv hE
 rintro⟨t,_⟩ W ⟨k,hk,hds,⟨hsz,f2,f3,f6,f7⟩,hr,hv,hE⟩
 subst hds
 obtain⟨u',hu⟩:=frame_fun hsz
 obtain⟨u,rfl⟩:∃ x,x=u':=⟨_,rfl⟩
 have hu':t=#[u 0,u 1,u 2,u 3,u 4,u 5,u 6,u 7,u 8,u 9,u 10,u 11,u 12,u 13,u 14,u 15]:=hu
 clear hu
 subst hu'
 change u 2=_ at f2
 change u 3=_ at f3
 change u 6=_ at f6
 change u 7=_ at f7
 rw [f2,f3,f6,f7]
 clear f2 f3 f6 f7 hsz
 by_cases hkn:k<n+1
 ·have h1:(k:Int)<(n:Int)+1:=by omega
  have h2:(k:Int)<33:=by omega
  have h3:(k:Int)<64:=by omega
  have c1:=hv.cell (a:=k) (by omega)
  have f1:=hv.free k
  have hw:=pow_u64 (k:=k) (by omega)
  have hs:=hv.store k (2 ^ k)
  have hfe:(fun i=>if i=k then 2 ^ k else if i<k then 2 ^ i else 0)=fun a=>if a<k+1 then 2 ^ a else 0:=by
   funext i
   by_cases e:i=k
   ·subst e;simp
   ·rw [if_neg e]
    by_cases h:i<k
    ·rw [if_pos h,if_pos (by omega)]
    ·rw [if_neg h,if_neg (by omega)]
  rw [hfe] at hs
  have hr2:=hr.keep (Turn.set1 W (B+1) k (.int .u64 ((2 ^ k:Nat):Int))) (by omega)
  have hE2:Ext w (W.setCell ⟨B+1,k,none⟩ (.int .u64 ((2 ^ k:Nat):Int))):=hE.after (Turn.set1 W (B+1) k _) (fun b' h1 h2=>by have:=HB.out;omega)
  have HS:=Lib.hid hs;have HR:=Lib.hid hr2;have HE:=Lib.hid hE2
  clear hfe hs hr2 hE2 hr hv hE
  go_wp2
  exact⟨⟨k+1,by omega,by first | rfl | trivial,⟨rfl,rfl,rfl,rfl,rfl⟩,HR.out,HS.out,HE.out⟩,by simp [intOf];omega⟩
 ·obtain rfl:k=n+1:=by omega
  have h1:¬ (((n+1:Nat):Int)<(n:Int)+1):=by omega
  have hrow:=RowsAt.row (g:=fun a=>if a<n+1 then 2 ^ a else 0) hr
  have hE2:Ext w (W.setRow B (rowArr fun a=>if a<n+1 then 2 ^ a else 0)):=hE.after (Turn.setRow W B _) (fun b' h1 h2=>by have:=HB.out;omega)
  go_wp2_with (first
   | (refine wpList_load_row rfl 363 (.tmp 3) rfl (B+1) rfl _ _ _ _ hv Tryz.underlying363 rfl (Tryz.relInfo _) ?_)
   | (refine wpList_store_row rfl 363 (.tmp 2) (.tmp 15) rfl B (rowArr fun a=>if a<n+1 then 2 ^ a else 0) rfl rfl _ _ hr (Tryz.relInfo _) (by rw [rowArr_size,rowArr_size]) (rowArr_one _) ?_))
  refine bodyPost_ret (v:=.agg (rowArr fun a=>if a<n+1 then 2 ^ a else 0)) (rel_result rfl rfl hrow) rfl ⟨?_,hE2⟩
  rw [rowArr_congr (g:=rowM (idB n)) fun a _=>?_]
  by_cases h:a<n+1
  ·rw [if_pos h,rowM_id hn (by omega)]
  ·rw [if_neg h,rowM_out (Mono.id n) (by omega)]
end Go.Proofs.YtfdlhlghcbeblaaGreatDoor
set_option maxRecDepth 100000
set_option maxHeartbeats 8000000
namespace Go.Proofs.YtfdlhlghcbeblaaGreatDoor
open Go.RowKit Go.Ab
attribute [local go_sem] Oper.semAt_some wide_fn wide_depth
def thenF(X Y:Bin2)(k:Nat):Nat->Nat:=fun a=>if a<k then rowM (comp X Y) a else 0
def thenG(X Y:Bin2)(k:Nat)(pre:List Nat):Nat->Nat:=fun a=>if a=k then partB Y pre else thenF X Y k a
theorem thenG_nil(X Y:Bin2)(k:Nat):thenG X Y k []=thenF X Y k:=by
 funext a;unfold thenG thenF
 by_cases h:a=k
 ·subst h;simp [partB_nil]
 ·rw [if_neg h]
theorem thenG_all(X Y:Bin2)(k:Nat):thenG X Y k (evs (rowM X k))=thenF X Y (k+1):=by
 funext a;unfold thenG thenF
 by_cases h:a=k
 ·subst h;rw [if_pos rfl,if_pos (by omega),evs_rowM,partB_all]
 ·rw [if_neg h]
  by_cases h2:a<k
  ·rw [if_pos h2,if_pos (by omega)]
  ·rw [if_neg h2,if_neg (by omega)]
theorem thenG_snoc(X Y:Bin2)(k:Nat)(pre:List Nat)(b:Nat):(fun i=>if i=k then partB Y pre ||| rowM Y b else thenG X Y k pre i)=thenG X Y k (pre++[b]):=by
 funext a;unfold thenG
 by_cases h:a=k
 ·subst h;rw [if_pos rfl,if_pos rfl,partB_snoc]
 ·rw [if_neg h,if_neg h,if_neg h]
theorem rowM_lt(X:Bin2)(a:Nat):rowM X a<8589934592:=by
 have:=mask_lt 33 (X a);simpa [rowM] using this
theorem partB_lt(Y:Bin2)(pre:List Nat):partB Y pre<8589934592:=by
 have:=mask_lt 33 (fun c=>pre.any fun b=>Y b c);simpa [partB] using this
theorem then_any{w:World}{bx by':Nat}{X Y:Bin2}(hx:RowsAt w bx (rowM X)) (hy:RowsAt w by' (rowM Y)) (hT:Tab w) :
  Calls Tryz.prog 336 #[.pointer (some ⟨bx,0,none⟩),.pointer (some ⟨by',0,none⟩)] w fun e w'=>e=.returned (.agg (rowArr (rowM (comp X Y))))/\Ext w w':=by
 have z1:=zero_rel
 have z2:=relArr_size noB
 have z3:=relArr_ne noB
 have hb0:0<w.heap.size:=by have:=hx.lt;omega
 refine calls_of_wp_marks Tryz.func336 rfl ?_
 simp only [Tryz.ntmps336,List.size_toArray,List.length_cons,List.length_nil,Nat.reduceAdd,Nat.reduceSub,Array.replicate_succ,Array.replicate_zero,List.push_toArray,List.append_toArray,List.nil_append,List.cons_append]
 go_wp2
 clear z1 z2 z3
 obtain⟨B,hB⟩:∃ B,w.heap.size=B:=⟨_,rfl⟩
 have hp:(((w.alloc (.cells #[.pointer (some ⟨by',0,none⟩)] 406)).alloc (.cells (relArr noB) 363)).alloc (.cells (relArr noB) 363)).heap[B]?=some (.cells #[.pointer (some ⟨by',0,none⟩)] 406 (0,0)):=by
  subst hB;exact new_keep (new_keep (new_at rfl))
 have hr:RowsAt (((w.alloc (.cells #[.pointer (some ⟨by',0,none⟩)] 406)).alloc (.cells (relArr noB) 363)).alloc (.cells (relArr noB) 363)) (B+1) (fun _=>0):=by
  subst hB
  refine(new_keep (new_at (by simp))).trans ?_
  rw [rowArr_rel,rowArr_congr fun a _=>rowM_no a]
 have hv:RowsAt (((w.alloc (.cells #[.pointer (some ⟨by',0,none⟩)] 406)).alloc (.cells (relArr noB) 363)).alloc (.cells (relArr noB) 363)) (B+1+1) (thenF X Y 0):=by
  subst hB
  refine(new_at (by simp)).trans ?_
  rw [rowArr_rel,rowArr_congr (g:=thenF X Y 0) fun a _=>by rw [rowM_no];simp [thenF]]
 have hE:Ext w (((w.alloc (.cells #[.pointer (some ⟨by',0,none⟩)] 406)).alloc (.cells (relArr noB) 363)).alloc (.cells (relArr noB) 363)):=(((Turn.refl _ w).alloc _).alloc _).alloc _
 generalize (((w.alloc (.cells #[.pointer (some ⟨by',0,none⟩)] 406)).alloc (.cells (relArr noB) 363)).alloc (.cells (relArr noB) 363))=w1 at hp hr hv hE ⊢
 have hxl:=hx.lt
 have hyl:=hy.lt
 rw [hB] at hxl hyl ⊢
 have HB:=Lib.hid hB
 have hT0:=hT
 clear hB
 refine wp_loop (fun a W=>∃(k:Nat) (ds:List Deferred),k<=33/\a.defers=ds/\(a.tmps.size=31/\a.tmps.getD 0 undef=.pointer (some ⟨bx,0,none⟩)/\a.tmps.getD 3 undef=.pointer (some ⟨B,0,none⟩)/\a.tmps.getD 4 undef=.pointer (some ⟨B+1,0,none⟩)/\a.tmps.getD 5 undef=.pointer (some ⟨B+1+1,0,none⟩)/\a.tmps.getD 9 undef=.pointer (some ⟨bx,0,none⟩)/\a.tmps.getD 10 undef=.int .i64 k)/\Marks B ds W /\
   W.heap[B]?=some (.cells #[.pointer (some ⟨by',0,none⟩)] 406 (0,0))/\RowsAt W (B+1) (fun _=>0)/\RowsAt W (B+1+1) (thenF X Y k)/\Ext w W)
  (fun a _=>33 - (intOf (a.tmps.getD 10 undef)).toNat) ?_ ?_
 ·exact⟨0,[],by omega,rfl,⟨rfl,rfl,rfl,rfl,rfl,rfl,rfl⟩,trivial,hp,hr,hv,hE⟩
 clear hp hr hv hE
 rintro⟨t,ds⟩ W ⟨k,dz,hk,hds,⟨hsz,f0,f3,f4,f5,f9,f10⟩,hM,hp,hr,hv,hE⟩
 subst hds
 obtain⟨u',hu⟩:=frame_fun hsz
 obtain⟨u,rfl⟩:∃ x,x=u':=⟨_,rfl⟩
 have hu':t=#[u 0,u 1,u 2,u 3,u 4,u 5,u 6,u 7,u 8,u 9,u 10,u 11,u 12,u 13,u 14,u 15,u 16,u 17,u 18,u 19,u 20,u 21,u 22,u 23,u 24,u 25,u 26,u 27,u 28,u 29,u 30]:=hu
 clear hu
 subst hu'
 change u 0=_ at f0
 change u 3=_ at f3
 change u 4=_ at f4
 change u 5=_ at f5
 change u 9=_ at f9
 change u 10=_ at f10
 rw [f0,f3,f4,f5,f9,f10]
 clear f0 f3 f4 f5 f9 f10 hsz
 have hxW:=hx.keep hE id
 have hyW:=hy.keep hE id
 have hTW:=hT0.keep hE id
 have hvl:=hv.lt
 by_cases hk2:k<33
 ·have h1:(k:Int)<33:=by omega
  have c1:=hxW.cell hk2
  have HS:Hid (∀ D,Ext W D->D.cell? ⟨bx,k,none⟩=some (.int .u64 (rowM X k))):=Lib.hid fun D hD=>hD.cell_some c1 id
  have hml:=rowM_lt X k
  have hMl:=hM.lt
  go_wp2
  go_region_held3 (fun w'=>w'.cell? ⟨bx,k,none⟩=some (.int .u64 (rowM X k)))
   ((refine HS.out _ ?_;repeat' (first | exact Turn.refl _ _ | refine Turn.drew ?_ | refine Turn.alloc ?_ _ | refine Turn.setCell ?_ (.inl (by simp)) _))) (first | fail)
  go_wp2_with (go_at_call 293;refine(all_any _ _).mono ?_;rintro e w' ⟨rfl,rfl⟩)
  have hb1:SBox (((W.alloc (.cells #[.int .i64 k] 3)).alloc (.cells #[.int .u64 (rowM X k)] 361)).drew) (W.heap.size+1) (rowM X k):=drew_keep (new_at (by simp))
  have hE1:Ext W (((W.alloc (.cells #[.int .i64 k] 3)).alloc (.cells #[.int .u64 (rowM X k)] 361)).drew):=(((Turn.refl _ _).alloc _).alloc _).drew
  have hk1:(((W.alloc (.cells #[.int .i64 k] 3)).alloc (.cells #[.int .u64 (rowM X k)] 361)).drew).heap[W.heap.size]?=some (.cells #[.int .i64 k] 3 (0,0)):=drew_keep (new_keep (new_at rfl))
  have hs1:(((W.alloc (.cells #[.int .i64 k] 3)).alloc (.cells #[.int .u64 (rowM X k)] 361)).drew).heap.size=W.heap.size+2:=by simp
  generalize (((W.alloc (.cells #[.int .i64 k] 3)).alloc (.cells #[.int .u64 (rowM X k)] 361)).drew)=W1 at hb1 hE1 hk1 hs1 ⊢
  rw [<-thenG_nil] at hv
  clear HS c1
  refine wp_range (xs:=evs (rowM X k)) (S:=(·=W.heap.size+1)) (K:=fun b'=>b'=W.heap.size+1\/b'=0) rfl (enters_of Tryz.func301 (by kernel_rfl) rfl)
   (all_iter _ (by omega) (W.heap.size+1) (by omega) W1 hb1 (hTW.keep hE1 id)) (fun _ h=>.inl h) (fun b' h=>by omega) (fun _=>rfl)
   (fun pre V=>RowsAt V (B+1+1) (thenG X Y k pre)/\V.heap[B]?=some (.cells #[.pointer (some ⟨by',0,none⟩)] 406 (0,0))/\RowsAt V (B+1) (fun _=>0)/\V.heap[W.heap.size]?=some (.cells #[.int .i64 k] 3 (0,0))/\Ext w V/\Marks B ds V)
   (fun _ _ _=>False) ?hI ?hIx ?h0 (fun i t=>(t.setIfInBounds 18 (.int .i64 i)).setIfInBounds 8 (.int .i64 i)) ?assign ?body ?done ?stop
  case hI=>
   rintro pre P Q ⟨i1,i2,i3,i4,i5,i6⟩ ht
   exact⟨i1.keep ht (by omega),ht.heap i2 (by omega),i3.keep ht (by omega),ht.heap i4 (by omega),i5.after ht (fun b' h1 h2=>by have:=HB.out;omega),i6.keepC hMl ht (fun b' h=>.inl (by omega))⟩
  case hIx=>exact fun _ _ _ _ h _=>h
  case h0=>
   intro V hV _
   have hEV:Ext W V:=hE1.trans hV
   exact⟨hv.keep hEV id,hEV.heap hp id,hr.keep hEV id,hV.heap hk1 id,hE.trans hEV,hM.keepC hMl hEV (fun _ h=>h.elim)⟩
  case assign=>
   intro i V K hK
   gi_wp2
   exact hK
  case body=>
   rintro pre i rest V hx' hsz ht ⟨i1,i2,i3,i4,i5,i6⟩
   simp only [pq]
   have hi33:i<33:=by
    have:i∈evs (rowM X k):=by rw [hx'];simp
    rw [evs_rowM] at this
    exact List.mem_range.1 (List.mem_filter.1 this).1
   have hi1:(i:Int)<33:=by omega
   have hyV:=hy.keep i5 id
   have cK:=cell_of_one i4
   have cP:=cell_of_one i2
   have cO:=i1.cell (a:=k) hk2
   have fO:=i1.free k
   have cY:=hyV.cell hi33
   have e1:thenG X Y k pre k=partB Y pre:=by unfold thenG;rw [if_pos rfl]
   rw [e1] at cO
   have hpl:=partB_lt Y pre
   have hyl2:=rowM_lt Y i
   have oA:=u64_or_nat (partB Y pre) (rowM Y i) (by omega) (by omega)
   have hst:=i1.store k (partB Y pre ||| rowM Y i)
   rw [thenG_snoc] at hst
   have hTs:=Turn.set1 V (B+1+1) k (.int .u64 ((partB Y pre ||| rowM Y i:Nat):Int))
   have hfin:Turn (fun b'=>¬ ((b'=W.heap.size+1\/b'=0)\/b'=W1.heap.size\/b'=W1.heap.size+1)) V ((V.setCell ⟨B+1+1,k,none⟩ (.int .u64 ((partB Y pre ||| rowM Y i:Nat):Int))).drew):=
    (hTs.mono (fun b' _ e=>by omega)).drew
   have hI2:RowsAt ((V.setCell ⟨B+1+1,k,none⟩ (.int .u64 ((partB Y pre ||| rowM Y i:Nat):Int))).drew) (B+1+1) (thenG X Y k (pre++[i]))/\((V.setCell ⟨B+1+1,k,none⟩ (.int .u64 ((partB Y pre ||| rowM Y i:Nat):Int))).drew).heap[B]?=some (.cells #[.pointer (some ⟨by',0,none⟩)] 406 (0,0))/\RowsAt ((V.setCell ⟨B+1+1,k,none⟩ (.int .u64 ((partB Y pre ||| rowM Y i:Nat):Int))).drew) (B+1) (fun _=>0)/\((V.setCell ⟨B+1+1,k,none⟩ (.int .u64 ((partB Y pre ||| rowM Y i:Nat):Int))).drew).heap[W.heap.size]?=some (.cells #[.int .i64 k] 3 (0,0))/\Ext w ((V.setCell ⟨B+1+1,k,none⟩ (.int .u64 ((partB Y pre ||| rowM Y i:Nat):Int))).drew)/\Marks B ds ((V.setCell ⟨B+1+1,k,none⟩ (.int .u64 ((partB Y pre ||| rowM Y i:Nat):Int))).drew):=
    ⟨hst,hTs.drew.heap i2 (by omega),i3.keep hTs.drew (by omega),hTs.drew.heap i4 (by omega),i5.after hTs.drew (fun b' h1 h2=>by have:=HB.out;omega),i6.keepC hMl hTs.drew (fun b' h=>.inr (.inr ⟨_,by subst h;exact i1,rfl⟩))⟩
   have HF:=Lib.hid hfin;have HI2:=Lib.hid hI2;have HX:=Lib.hid hx';have HE1:=Lib.hid e1
   clear hfin hI2 hx' e1 hst hTs i1 i2 i3 i4 i5 i6 hyV hE1 hE hM hv hr hp hxW hyW ht
   gi_wp2
   refine wpIn_region_still_tail 9 (by kernel_rfl) (by kernel_rfl) (by kernel_rfl) (by rintro⟨_,_,h⟩;exact h) ?_
   simp only [List.take_succ_cons,List.take_zero,List.drop_succ_cons,List.drop_zero]
   repeat still_step
   refine wpStill_nil ?_
   go_wp2
   exact⟨HF.out,HI2.out⟩
  case done=>
   rintro V ⟨i1,i2,i3,i4,i5,i6⟩ ht hD
   rw [thenG_all] at i1
   have hDlt:W1.heap.size<V.heap.size:=(Array.getElem?_eq_some_iff.1 hD).1
   clear hE1 hE hM hv hr hp hxW hyW
   go_wp2
   exact⟨⟨k+1,_,by omega,rfl,⟨rfl,rfl,rfl,rfl,rfl,rfl,rfl⟩,Marks.cons i6 (by omega) hD (fun e he ht=>by have:=hMl e he _ ht;omega),i2,i3,i1,i5⟩,by simp [intOf];omega⟩
  case stop=>exact fun _ _ _ _ _ _ h=>h.elim
 ·obtain rfl:k=33:=by omega
  have h1:¬ (((33:Nat):Int)<33):=by omega
  have e1:rowArr (thenF X Y 33)=rowArr (rowM (comp X Y)):=rowArr_congr fun a ha=>by unfold thenF;rw [if_pos ha]
  have hrow:=RowsAt.row (g:=rowM (comp X Y)) hr
  have hTs:=Turn.setRow W (B+1) (rowArr (rowM (comp X Y)))
  have hE2:Ext w (W.setRow (B+1) (rowArr (rowM (comp X Y)))):=hE.after hTs (fun b' h1 h2=>by have:=HB.out;omega)
  have hM2:Marks B ds (W.setRow (B+1) (rowArr (rowM (comp X Y)))):=hM.keep hTs (fun b hb o ho=>by
   subst hb;have:W.heap[B+1]?=_:=hr;rw [this] at ho;cases ho;rfl)
  have hv':RowsAt W (B+1+1) (rowM (comp X Y)):=by unfold RowsAt;rw [<-e1];exact hv
  have HM2:=Lib.hid hM2;have HE2:=Lib.hid hE2;have HROW:=Lib.hid hrow
  clear hM2 hE2 hrow hTs e1 hv
  go_wp2_with (first
   | (refine wpList_load_row rfl 363 (.tmp 5) rfl (B+1+1) rfl _ _ _ _ hv' Tryz.underlying363 rfl (Tryz.relInfo _) ?_)
   | (refine wpList_store_row rfl 363 (.tmp 4) (.tmp 30) rfl (B+1) (rowArr (rowM (comp X Y))) rfl rfl _ _ hr (Tryz.relInfo _) (by rw [rowArr_size,rowArr_size]) (rowArr_one _) ?_))
  refine leavesM (v:=.agg (rowArr (rowM (comp X Y)))) _ _ HM2.out (fun w' ht hs=>⟨rel_result rfl rfl (HROW.out.keep ht (Shut.not HROW.out rfl)),rfl,HE2.out.after ht (fun b' h2 h3=>by have:=h3.1;have:=HB.out;omega)⟩)
end Go.Proofs.YtfdlhlghcbeblaaGreatDoor
