/- pats.relation: or, power. PLAIN: what patterns are compiled to; valid patterns. Slices that are read, and slices that a call makes. No program is named. Words in memory; what a sound satisfies. No program is named. Patterns in memory. No program is named. -/
import Derived.Test.YtfdlhlghcbeblaaGreatDoorH01
import Derived.Test.YtfdlhlghcbeblaaGreatDoorH00
import Derived.Deep.MidRow
set_option maxRecDepth 100000
set_option maxHeartbeats 8000000
namespace Go.Proofs.YtfdlhlghcbeblaaGreatDoor
open Go.RowKit Go.Ab
def orF(X Y:Bin2)(k:Nat):Nat->Nat:=fun a=>if a<k then rowM (orB X Y) a else rowM X a
theorem orF_step(X Y:Bin2)(k:Nat):(fun i=>if i=k then rowM X k ||| rowM Y k else orF X Y k i)=orF X Y (k+1):=by
 funext a;unfold orF
 by_cases h:a=k
 ·subst h;rw [if_pos rfl,if_pos (by omega),rowM_or]
 ·rw [if_neg h]
  by_cases h2:a<k
  ·rw [if_pos h2,if_pos (by omega)]
  ·rw [if_neg h2,if_neg (by omega)]
theorem or_any{w:World}{bx by':Nat}{X Y:Bin2}(hx:RowsAt w bx (rowM X)) (hy:RowsAt w by' (rowM Y)) (hne:bx≠by') :
  Calls Tryz.prog 333 #[.pointer (some ⟨bx,0,none⟩),.pointer (some ⟨by',0,none⟩)] w fun e w'=>(∃ v,e=.returned v)/\Turn (·=bx) w w'/\RowsAt w' bx (rowM (orB X Y)):=by
 go_enter Tryz.func333,Tryz.ntmps333
 go_wp2
 have hx0:RowsAt w bx (orF X Y 0):=by
  have:orF X Y 0=rowM X:=by funext a;simp [orF]
  rw [this];exact hx
 refine wp_loop (fun a W=>∃(k:Nat),k<=33/\a.defers=[]/\(a.tmps.size=23/\a.tmps.getD 0 undef=.pointer (some ⟨bx,0,none⟩)/\a.tmps.getD 6 undef=.pointer (some ⟨by',0,none⟩)/\a.tmps.getD 7 undef=.int .i64 k)/\RowsAt W bx (orF X Y k)/\Turn (·=bx) w W)
  (fun a _=>33 - (intOf (a.tmps.getD 7 undef)).toNat) ?_ ?_
 ·exact⟨0,by omega,rfl,⟨rfl,rfl,rfl,rfl⟩,hx0,Turn.refl _ _⟩
 clear hx0
 rintro⟨t,_⟩ W ⟨k,hk,hds,⟨hsz,f0,f6,f7⟩,hv,hE⟩
 subst hds
 obtain⟨u',hu⟩:=frame_fun hsz
 obtain⟨u,rfl⟩:∃ x,x=u':=⟨_,rfl⟩
 have hu':t=#[u 0,u 1,u 2,u 3,u 4,u 5,u 6,u 7,u 8,u 9,u 10,u 11,u 12,u 13,u 14,u 15,u 16,u 17,u 18,u 19,u 20,u 21,u 22]:=hu
 clear hu
 subst hu'
 change u 0=_ at f0
 change u 6=_ at f6
 change u 7=_ at f7
 rw [f0,f6,f7]
 clear f0 f6 f7 hsz
 have hyW:=hy.keep hE (fun h=>hne h.symm)
 by_cases hk2:k<33
 ·have h1:(k:Int)<33:=by omega
  have c1:=hyW.cell hk2
  have c2:=hv.cell hk2
  have f2:=hv.free k
  have e1:orF X Y k k=rowM X k:=by unfold orF;rw [if_neg (by omega)]
  rw [e1] at c2
  have l1:=rowM_lt X k
  have l2:=rowM_lt Y k
  have oA:=u64_or_nat (rowM X k) (rowM Y k) (by omega) (by omega)
  have hst:=hv.store k (rowM X k ||| rowM Y k)
  rw [orF_step] at hst
  have hTs:∀ m,Turn (·=bx) w ((W.drewN m).setCell ⟨bx,k,none⟩ (.int .u64 ((rowM X k ||| rowM Y k:Nat):Int))):=fun m=>(hE.drewN m).setCell (p:=⟨bx,k,none⟩) (.inr rfl) _
  have HST:=Lib.hid hst;have HTS:=Lib.hid hTs;have HE1:=Lib.hid e1
  clear hst hTs e1 hv hE hyW
  go_wp2
  go_quiet (fail)
  go_wp2
  refine region_still 9 (by kernel_rfl) (by kernel_rfl) ?_
  simp only [List.take_succ_cons,List.take_zero,List.drop_succ_cons,List.drop_zero]
  repeat still_step
  refine wpStill_nil ?_
  go_wp2
  exact⟨⟨k+1,by omega,by first | rfl | trivial,⟨rfl,rfl,rfl,rfl⟩,HST.out,HTS.out _⟩,by simp [intOf];omega⟩
 ·obtain rfl:k=33:=by omega
  have h1:¬ (((33:Nat):Int)<33):=by omega
  have hv':RowsAt W bx (rowM (orB X Y)):=by
   have e1:rowArr (orF X Y 33)=rowArr (rowM (orB X Y)):=rowArr_congr fun a ha=>by unfold orF;rw [if_pos ha]
   unfold RowsAt;rw [<-e1];exact hv
  have HV:=Lib.hid hv'
  clear hv hv'
  go_wp2
  go_end0
  exact⟨⟨_,rfl⟩,hE,HV.out⟩
theorem i64_and1(k:Nat)(hk:k<9223372036854775808):(bits .and .i64 (k:Int) 1 == 1)=decide (k % 2=1):=by
 have e:bits .and .i64 (k:Int) 1=((k % 2:Nat):Int):=by
  show IntKind.i64.wrap ((BitVec.ofInt 64 (k:Int) &&& BitVec.ofInt 64 ((1:Nat):Int)).toNat:Int)=_
  rw [BitVec.toNat_and,ofInt_u64 _ (by omega),ofInt_u64 1 (by omega),Nat.and_one_is_mod]
  exact IntWalk.i64_in _ (by omega)
 rw [e]
 rcases Nat.mod_two_eq_zero_or_one k with h | h <;> simp [h]
theorem power_any{n:Nat}(hn:n<=32){X:Bin2}(hX:Mono n X)(k:Nat)(hk:k<=64)(w:World)(hT:Tab w) :
  Calls Tryz.prog 329 #[.agg (rowArr (rowM X)),.int .i64 k,.int .i64 n] w fun e w'=>e=.returned (.agg (rowArr (rowM (powB X n k))))/\Ext w w':=by
 have z1:=zero_rel
 have z2:=relArr_size noB
 have z3:=relArr_ne noB
 have z4:=rowArr_size (rowM X)
 go_enter Tryz.func329,Tryz.ntmps329
 go_wp2_with fail
 clear z4
 obtain⟨B,hB⟩:∃ B,w.heap.size=B:=⟨_,rfl⟩
 have hx:RowsAt ((w.alloc (.cells (rowArr (rowM X)) 363)).alloc (.cells (relArr noB) 363)) B (rowM X):=by
  subst hB;exact new_keep (new_at rfl)
 have hr:RowsAt ((w.alloc (.cells (rowArr (rowM X)) 363)).alloc (.cells (relArr noB) 363)) (B+1) (fun _=>0):=by
  subst hB
  refine(new_at (by simp)).trans ?_
  rw [rowArr_rel,rowArr_congr fun a _=>rowM_no a]
 have hE:Ext w ((w.alloc (.cells (rowArr (rowM X)) 363)).alloc (.cells (relArr noB) 363)):=((Turn.refl _ w).alloc _).alloc _
 generalize ((w.alloc (.cells (rowArr (rowM X)) 363)).alloc (.cells (relArr noB) 363))=w1 at hx hr hE ⊢
 rw [hB]
 have HB:=Lib.hid hB
 clear hB
 refine(identity_any n hn w1).mono ?_
 rintro e w2 ⟨rfl,hE2⟩
 have hx2:=hx.keep hE2 id
 have hr2:=hr.keep hE2 id
 have hE02:=hE.trans hE2
 have hO0:(w2.alloc (.cells (relArr noB) 363)).heap[w2.heap.size]?=some (.cells (relArr noB) 363 (0,0)):=new_at rfl
 go_wp2_with (refine wpList_store_row rfl 363 (.tmp 7) (.tmp 9) rfl w2.heap.size (rowArr (rowM (idB n))) rfl rfl _ _ hO0 (Tryz.relInfo _) (by rw [relArr_size,rowArr_size]) (rowArr_one _) ?_)
 obtain⟨O,hO⟩:∃ O,w2.heap.size=O:=⟨_,rfl⟩
 have hO1:RowsAt ((w2.alloc (.cells (relArr noB) 363)).setRow w2.heap.size (rowArr (rowM (idB n)))) w2.heap.size (rowM (idB n)):=setRow_heap _ _ _ _ _ _ hO0
 have hE3:Ext w2 ((w2.alloc (.cells (relArr noB) 363)).setRow w2.heap.size (rowArr (rowM (idB n)))):=((Turn.refl _ w2).alloc _).after (Turn.setRow _ _ _) (fun b' h1 h2=>by omega)
 have hl2:=hr2.lt
 generalize ((w2.alloc (.cells (relArr noB) 363)).setRow w2.heap.size (rowArr (rowM (idB n))))=w3 at hO1 hE3 ⊢
 rw [hO] at hO1 hl2 ⊢
 have hx3:=hx2.keep hE3 id
 have hr3:=hr2.keep hE3 id
 have hE03:=hE02.trans hE3
 have hT3:=hT.keep hE03 id
 have hBg:0<B:=by
  have:=hT 0 (by decide)
  rw [<-HB.out]
  apply Nat.lt_of_not_le;intro h
  simp [World.cell?,Array.getElem?_eq_none h] at this
 clear hx hr hE hE2 hx2 hr2 hE02 hO0 hE3 hO z1 z2 z3
 refine wp_loop (fun a W=>∃(j:Nat) (Y out:Bin2),j<=64/\a.defers=[]/\(a.tmps.size=20/\a.tmps.getD 1 undef=.int .i64 j/\a.tmps.getD 3 undef=.pointer (some ⟨B,0,none⟩)/\a.tmps.getD 6 undef=.pointer (some ⟨B+1,0,none⟩)/\a.tmps.getD 7 undef=.pointer (some ⟨O,0,none⟩)) /\
   (Mono n Y/\Mono n out/\comp out (powB Y n j)=powB X n k)/\RowsAt W B (rowM Y)/\RowsAt W (B+1) (fun _=>0)/\RowsAt W O (rowM out)/\Ext w W)
  (fun a _=>(intOf (a.tmps.getD 1 undef)).toNat) ?_ ?_
 ·exact⟨k,X,idB n,hk,rfl,⟨rfl,rfl,rfl,rfl,rfl⟩,⟨hX,Mono.id n,id_comp hn (Mono.pow hX k)⟩,hx3,hr3,hO1,hE03⟩
 clear hx3 hr3 hO1 hE03 hT3
 rintro⟨t,_⟩ W ⟨j,Y,out,hj,hds,⟨hsz,f1,f3,f6,f7⟩,hpl,hY,hr,hO,hE⟩
 subst hds
 obtain⟨u',hu⟩:=frame_fun hsz
 obtain⟨u,rfl⟩:∃ x,x=u':=⟨_,rfl⟩
 have hu':t=#[u 0,u 1,u 2,u 3,u 4,u 5,u 6,u 7,u 8,u 9,u 10,u 11,u 12,u 13,u 14,u 15,u 16,u 17,u 18,u 19]:=hu
 clear hu
 subst hu'
 change u 1=_ at f1
 change u 3=_ at f3
 change u 6=_ at f6
 change u 7=_ at f7
 rw [f1,f3,f6,f7]
 clear f1 f3 f6 f7 hsz
 obtain⟨hmY,hmo,hpw⟩:=hpl
 have hTW:=hT.keep hE id
 have hNB:Turn (fun b=>b=B\/b=O) W W:=Turn.refl _ _
 have hwl:w.heap.size<=O/\w.heap.size<=B:=by have:=HB.out;omega
 have HWL:=Lib.hid hwl
 clear hwl
 by_cases hj0:j=0
 ·subst hj0
  rw [show powB Y n 0=idB n from rfl,comp_id hn hmo] at hpw
  subst hpw
  have hrow:=RowsAt.row (g:=rowM (powB X n k)) hr
  have hE2:Ext w (W.setRow (B+1) (rowArr (rowM (powB X n k)))):=hE.after (Turn.setRow W (B+1) _) (fun b' h1 h2=>by have:=HB.out;omega)
  go_wp2_with (first
   | (refine wpList_load_row rfl 363 (.tmp 7) rfl O rfl _ _ _ _ hO Tryz.underlying363 rfl (Tryz.relInfo _) ?_)
   | (refine wpList_store_row rfl 363 (.tmp 6) (.tmp 19) rfl (B+1) (rowArr (rowM (powB X n k))) rfl rfl _ _ hr (Tryz.relInfo _) (by rw [rowArr_size,rowArr_size]) (rowArr_one _) ?_))
  exact bodyPost_ret (v:=.agg (rowArr (rowM (powB X n k)))) (rel_result rfl rfl hrow) rfl ⟨rfl,hE2⟩
 ·have hj1:(0:Int)<(j:Int):=by omega
  have hj2:(j:Int)<=64:=by omega
  have hbit:=i64_and1 j (by omega)
  have HPW:=Lib.hid hpw
  clear hpw
  by_cases h1:j % 2=1
  ·rw [decide_eq_true h1] at hbit
   have H1:=Lib.hid h1
   clear h1
   go_wp2_with fail
   refine(then_any hO hY hTW).mono ?_
   rintro e W2 ⟨rfl,hE2⟩
   have hO2:=hO.keep hE2 id
   go_wp2_with (refine wpList_store_row rfl 363 (.tmp 7) (.tmp 17) rfl O (rowArr (rowM (comp out Y))) rfl rfl _ _ hO2 (Tryz.relInfo _) (by rw [rowArr_size,rowArr_size]) (rowArr_one _) ?_)
   have hTs:=Turn.setRow W2 O (rowArr (rowM (comp out Y)))
   have hO3:=RowsAt.row (g:=rowM (comp out Y)) hO2
   have hY3:=(hY.keep hE2 id).keep hTs (by omega)
   have hr3:=(hr.keep hE2 id).keep hTs (by omega)
   have hE3:=(hE.trans hE2).after hTs (fun b' h1 h2=>by have:=HWL.out.1;omega)
   generalize (W2.setRow O (rowArr (rowM (comp out Y))))=W3 at hO3 hY3 hr3 hE3 ⊢
   have hT3:=hT.keep hE3 id
   clear hTs hO2 hE2 hO hY hr hE hTW hNB
   go_wp2_with fail
   refine(then_any hY3 hY3 hT3).mono ?_
   rintro e W4 ⟨rfl,hE4⟩
   have hY4:=hY3.keep hE4 id
   go_wp2_with (refine wpList_store_row rfl 363 (.tmp 3) (.tmp 18) rfl B (rowArr (rowM (comp Y Y))) rfl rfl _ _ hY4 (Tryz.relInfo _) (by rw [rowArr_size,rowArr_size]) (rowArr_one _) ?_)
   have hTs:=Turn.setRow W4 B (rowArr (rowM (comp Y Y)))
   have hY5:=RowsAt.row (g:=rowM (comp Y Y)) hY4
   have hO5:=(hO3.keep hE4 id).keep hTs (by omega)
   have hr5:=(hr3.keep hE4 id).keep hTs (by omega)
   have hE5:=(hE3.trans hE4).after hTs (fun b' h1 h2=>by have:=HWL.out.2;omega)
   generalize (W4.setRow B (rowArr (rowM (comp Y Y))))=W5 at hY5 hO5 hr5 hE5 ⊢
   clear hTs hY4 hE4 hY3 hr3 hE3 hO3
   have hp2:comp (comp out Y) (powB (comp Y Y) n (j / 2))=powB X n k:=by
    rw [pow_two hn hmY,comp_assoc,<-HPW.out]
    congr 1
    have:j=2*(j / 2)+1:=by have:=H1.out;omega
    rw [show powB Y n j=powB Y n (2*(j / 2)+1) from congrArg _ this];rfl
   have HP2:=Lib.hid hp2
   clear hp2
   go_wp2
   exact⟨⟨j / 2,comp Y Y,comp out Y,by omega,by first | rfl | trivial,⟨rfl,rfl,rfl,rfl,rfl⟩,⟨hmY.comp hmY,hmo.comp hmY,HP2.out⟩,hY5,hr5,hO5,hE5⟩,by simp [intOf];omega⟩
  ·rw [decide_eq_false h1] at hbit
   have H1:=Lib.hid h1
   clear h1
   go_wp2_with fail
   refine(then_any hY hY hTW).mono ?_
   rintro e W4 ⟨rfl,hE4⟩
   have hY4:=hY.keep hE4 id
   go_wp2_with (refine wpList_store_row rfl 363 (.tmp 3) (.tmp 18) rfl B (rowArr (rowM (comp Y Y))) rfl rfl _ _ hY4 (Tryz.relInfo _) (by rw [rowArr_size,rowArr_size]) (rowArr_one _) ?_)
   have hTs:=Turn.setRow W4 B (rowArr (rowM (comp Y Y)))
   have hY5:=RowsAt.row (g:=rowM (comp Y Y)) hY4
   have hO5:=(hO.keep hE4 id).keep hTs (by omega)
   have hr5:=(hr.keep hE4 id).keep hTs (by omega)
   have hE5:=(hE.trans hE4).after hTs (fun b' h1 h2=>by have:=HWL.out.2;omega)
   generalize (W4.setRow B (rowArr (rowM (comp Y Y))))=W5 at hY5 hO5 hr5 hE5 ⊢
   clear hTs hY4 hE4 hY hr hE hO
   have hp2:comp out (powB (comp Y Y) n (j / 2))=powB X n k:=by
    rw [pow_two hn hmY,<-HPW.out]
    congr 2
    have:=H1.out;omega
   have HP2:=Lib.hid hp2
   clear hp2
   go_wp2
   exact⟨⟨j / 2,comp Y Y,out,by omega,by first | rfl | trivial,⟨rfl,rfl,rfl,rfl,rfl⟩,⟨hmY.comp hmY,hmo,HP2.out⟩,hY5,hr5,hO5,hE5⟩,by simp [intOf];omega⟩
end Go.Proofs.YtfdlhlghcbeblaaGreatDoor
namespace Go.Ab
inductive PartS where
 | sound (pl mi:Nat) (nt:Bool)
 | edge (e:Bool)
 | seq (l:List PartS)
 | alt (l:List PartS)
 | rep (of:PartS) (mn mx:Int)
mutual
def relS(w:Wd):PartS->Bin2
 | .sound pl mi nt=>soundB w (pl,mi) nt
 | .edge e=>edgeB (if e then w.length else 0)
 | .seq l=>seqS w l (idB w.length)
 | .alt l=>altS w l noB
 | .rep p mn mx=>repB (relS w p) w.length mn.toNat (extra w.length mn mx)
def seqS(w:Wd):List PartS->Bin2->Bin2
 | [],X=>X
 | p::l,X=>seqS w l (comp X (relS w p))
def altS(w:Wd):List PartS->Bin2->Bin2
 | [],X=>X
 | p::l,X=>altS w l (orB X (relS w p))
end
theorem seqS_snoc(w:Wd)(p:PartS):∀(l:List PartS) (X:Bin2),seqS w (l++[p]) X=comp (seqS w l X) (relS w p)
 | [],X=>by simp [seqS]
 | q::l,X=>by rw [List.cons_append];unfold seqS;exact seqS_snoc w p l _
theorem altS_snoc(w:Wd)(p:PartS):∀(l:List PartS) (X:Bin2),altS w (l++[p]) X=orB (altS w l X) (relS w p)
 | [],X=>by simp [altS]
 | q::l,X=>by rw [List.cons_append];unfold altS;exact altS_snoc w p l _
mutual
theorem relS_mono(w:Wd):∀ p,Mono w.length (relS w p)
 | .sound pl mi nt=>by unfold relS;exact Mono.sound _ _ _
 | .edge e=>by unfold relS;exact Mono.edge (by cases e <;> simp)
 | .seq l=>by unfold relS;exact seqS_mono w l _ (Mono.id _)
 | .alt l=>by unfold relS;exact altS_mono w l _ (Mono.no _)
 | .rep p mn mx=>by unfold relS repB;exact(Mono.pow (relS_mono w p) _).comp (Mono.pow ((relS_mono w p).or (Mono.id _)) _)
theorem seqS_mono(w:Wd):∀(l:List PartS) (X:Bin2),Mono w.length X->Mono w.length (seqS w l X)
 | [],_,h=>by unfold seqS;exact h
 | p::l,X,h=>by unfold seqS;exact seqS_mono w l _ (h.comp (relS_mono w p))
theorem altS_mono(w:Wd):∀(l:List PartS) (X:Bin2),Mono w.length X->Mono w.length (altS w l X)
 | [],_,h=>by unfold altS;exact h
 | p::l,X,h=>by unfold altS;exact altS_mono w l _ (h.or (relS_mono w p))
end
mutual
def cmp:Pat->PartS
 | .node k pl mi nt mn mx l=>
  if k=1 then .sound pl mi nt
  else if k=2 then .edge false
  else if k=6 then .edge true
  else if k=4 then .alt (cmpL l)
  else if k=5 then .rep ((cmpL l).headD (.seq [])) mn mx
  else .seq (cmpL l)
def cmpL:List Pat->List PartS
 | []=>[]
 | p::l=>cmp p::cmpL l
end
theorem cmpL_map(l:List Pat):cmpL l=l.map cmp:=by
 induction l with
 | nil=>rfl
 | cons p l ih=>unfold cmpL;rw [ih];rfl
mutual
def okPat:Pat->Prop
 | .node k pl mi nt mn mx l=>nodeE (.node k pl mi nt mn mx l)=0/\l.length<=40/\okPats l
def okPats:List Pat->Prop
 | []=>True
 | p::l=>okPat p/\okPats l
end
theorem okPats_iff{l:List Pat}:okPats l↔∀ p∈l,okPat p:=by
 induction l with
 | nil=>simp [okPats]
 | cons p l ih=>unfold okPats;rw [ih];simp
theorem walkP_up(p:Pat)(n:Nat)(hn40:n<=40)(h:(walkP p n).2=0):n+1<=(walkP p n).1:=by
 cases p with
 | node k pl mi nt mn mx l=>
  unfold walkP at h ⊢
  by_cases hn:n=40
  ·rw [if_pos hn] at h;cases h
  ·rw [if_neg hn] at h ⊢
   by_cases he:nodeE (.node k pl mi nt mn mx l)=0
   ·rw [if_pos he]
    exact(walkL_chk l (n+1) [] (by omega)).1.2
   ·rw [if_neg he] at h;exact absurd h he
theorem walkL_len:∀(l:List Pat) (n:Nat),n<=40->(walkL l n).2=0->n+l.length<=(walkL l n).1
 | [],n,_,_=>by simp [walkL]
 | p::l,n,hn,h=>by
  unfold walkL bindE at h ⊢
  by_cases he:(walkP p n).2=0
  ·rw [if_pos he] at h ⊢
   have h1:=walkP_up p n hn he
   have h2:=walkL_len l _ (walkP_chk p n [] hn).1.1 h
   simp only [List.length_cons];omega
  ·rw [if_neg he] at h;exact absurd h he
mutual
theorem walkP_ok:∀(p:Pat) (n:Nat),n<=40->(walkP p n).2=0->okPat p
 | .node k pl mi nt mn mx l,n,hn40,h=>by
  unfold walkP at h
  unfold okPat
  by_cases hn:n=40
  ·rw [if_pos hn] at h;cases h
  ·rw [if_neg hn] at h
   by_cases he:nodeE (.node k pl mi nt mn mx l)=0
   ·rw [if_pos he] at h
    have h1:=walkL_len l (n+1) (by omega) h
    have h2:=(walkL_chk l (n+1) [] (by omega)).1.1
    exact⟨he,by omega,walkL_ok l _ (by omega) h⟩
   ·rw [if_neg he] at h;exact absurd h he
theorem walkL_ok:∀(l:List Pat) (n:Nat),n<=40->(walkL l n).2=0->okPats l
 | [],_,_,_=>by unfold okPats;trivial
 | p::l,n,hn,h=>by
  unfold walkL bindE at h
  unfold okPats
  by_cases he:(walkP p n).2=0
  ·rw [if_pos he] at h
   exact⟨walkP_ok p n hn he,walkL_ok l _ (walkP_chk p n [] hn).1.1 h⟩
  ·rw [if_neg he] at h;exact absurd h he
end
theorem chkP_ok{p:Pat}(h:chkP p=0):okPat p:=walkP_ok p 0 (by omega) (by rw [walkP_zero];exact h)
theorem ite_zero{c:Prop} [Decidable c] (h:(if c then(0:Int) else 14)=0):c:=by
 by_cases hc:c
 ·exact hc
 ·rw [if_neg hc] at h;cases h
theorem ite_two{c:Prop} [Decidable c] {x:Int} (h:(if c then 2 else x)=0):¬ c/\x=0:=by
 by_cases hc:c
 ·rw [if_pos hc] at h;cases h
 ·rw [if_neg hc] at h;exact⟨hc,h⟩
theorem nodeE_zero{k:Int}{pl mi:Nat}{nt:Bool}{mn mx:Int}{l:List Pat}(h:nodeE (.node k pl mi nt mn mx l)=0) :
  (0<=k/\k<=6)/\(k≠1->pl=0/\mi=0/\nt=false)/\(k≠3->k≠4->k≠5->l=[])/\(k≠5->mn=0/\mx=0) /\
   (k=5->l.length=1/\0<=mn/\mn<=32/\(mx=-1\/mn<=mx/\mx<=32))/\okSound pl mi=true:=by
 unfold nodeE at h
 simp only [Pat.k,Pat.pl,Pat.mi,Pat.nt,Pat.mn,Pat.mx,Pat.l] at h
 obtain⟨h1,h⟩:=ite_two h
 obtain⟨h2,h⟩:=ite_two h
 obtain⟨h3,h⟩:=ite_two h
 obtain⟨h4,h⟩:=ite_two h
 obtain⟨h5,h⟩:=ite_two h
 have h6:okSound pl mi=true:=ite_zero h
 refine⟨by omega,fun hk=>?_,fun a b c=>?_,fun hk=>by omega,fun hk=>?_,h6⟩
 ·refine⟨?_,?_,?_⟩
  ·exact Classical.byContradiction fun hh=>h2 ⟨hk,.inl hh⟩
  ·exact Classical.byContradiction fun hh=>h2 ⟨hk,.inr (.inl hh)⟩
  ·cases nt
   ·rfl
   ·exact absurd ⟨hk,.inr (.inr rfl)⟩ h2
 ·exact List.eq_nil_of_length_eq_zero (Classical.byContradiction fun hh=>h3 ⟨a,b,c,hh⟩)
 ·refine⟨Classical.byContradiction fun hh=>h5 ⟨hk,.inl hh⟩,?_,?_,?_⟩
  ·apply Int.not_lt.1;exact fun hh=>h5 ⟨hk,.inr (.inl hh)⟩
  ·apply Int.not_lt.1;exact fun hh=>h5 ⟨hk,.inr (.inr (.inl hh))⟩
  ·by_cases e:mx=-1
   ·exact .inl e
   ·refine .inr ⟨?_,?_⟩
    ·apply Int.not_lt.1;exact fun hh=>h5 ⟨hk,.inr (.inr (.inr ⟨e,.inl hh⟩))⟩
    ·apply Int.not_lt.1;exact fun hh=>h5 ⟨hk,.inr (.inr (.inr ⟨e,.inr hh⟩))⟩
theorem altS_or(w:Wd):∀(l:List PartS) (X Y:Bin2),altS w l (orB X Y)=orB X (altS w l Y)
 | [],X,Y=>by unfold altS;rfl
 | p::l,X,Y=>by unfold altS;rw [orB_assoc,altS_or w l]
mutual
theorem relS_cmp(w:Wd):∀ p,okPat p->relS w (cmp p)=relP w p
 | .node k pl mi nt mn mx l,h=>by
  unfold okPat at h
  obtain⟨_,_,_,_,h5,_⟩:=nodeE_zero h.1
  unfold cmp relP
  split
  ·unfold relS;rfl
  ·split
   ·unfold relS;rfl
   ·split
    ·unfold relS;rfl
    ·split
     ·unfold relS;exact(altS_cmp w l h.2.2)
     ·split
      ·rename_i hk
       have hl:=(h5 hk).1
       match l,hl,h.2.2 with
       | [q],_,h2=>
        unfold okPats at h2
        unfold relS oneB
        show repB (relS w (cmp q)) _ _ _=_
        rw [relS_cmp w q h2.1]
      ·unfold relS;exact seqS_cmp w l _ h.2.2
theorem seqS_cmp(w:Wd):∀(l:List Pat) (X:Bin2),okPats l->seqS w (cmpL l) X=seqB w l X
 | [],X,_=>by unfold cmpL seqS seqB;rfl
 | p::l,X,h=>by
  unfold okPats at h
  unfold cmpL seqS seqB
  rw [relS_cmp w p h.1,seqS_cmp w l _ h.2]
theorem altS_cmp(w:Wd):∀(l:List Pat),okPats l->altS w (cmpL l) noB=altB w l
 | [],_=>by unfold cmpL altS altB;rfl
 | p::l,h=>by
  unfold okPats at h
  unfold cmpL altS altB
  rw [no_orB,<-orB_no (relS w (cmp p)),altS_or,relS_cmp w p h.1,altS_cmp w l h.2]
end
end Go.Ab
namespace Go.Ab
open Go.RowKit
def Rd(w:World)(v:Value)(n sz:Nat)(xs:List Value):Prop:=
 xs.length=n*sz/\n<=maxLen/\∃ ao cap,v=.slice ao n cap/\(0<n->∃ g off,ao=some ⟨g,off,none⟩/\g<w.heap.size/\∀ j,j<n*sz->w.cell? ⟨g,off+j,none⟩=some (xs.getD j undef))
theorem Rd.keep{S:Nat->Prop}{A B:World}{v:Value}{n sz:Nat}{xs:List Value}(h:Rd A v n sz xs)(ht:Turn S A B)(hS:∀ g off len cap,v=.slice (some ⟨g,off,none⟩) len cap->¬ S g):Rd B v n sz xs:=by
 obtain⟨h1,h2,ao,cap,hv,h3⟩:=h
 refine⟨h1,h2,ao,cap,hv,fun hn=>?_⟩
 obtain⟨g,off,ha,hg,hc⟩:=h3 hn
 exact⟨g,off,ha,Nat.lt_of_lt_of_le hg ht.size,fun j hj=>ht.cell_some (hc j hj) (hS g off n cap (by rw [hv,ha]))⟩
theorem Rd.ext{A B:World}{v:Value}{n sz:Nat}{xs:List Value}(h:Rd A v n sz xs)(ht:Ext A B):Rd B v n sz xs:=h.keep ht fun _ _ _ _ _ h=>h
theorem Rd.drewN{A:World}{v:Value}{n sz:Nat}{xs:List Value}(h:Rd A v n sz xs)(m:Nat):Rd (A.drewN m) v n sz xs:=h.ext ((Turn.refl _ A).drewN m)
theorem Rd.of_own{w:World}{base:Nat}{e:TypeId}{sz:Nat}{v:Value}{n:Nat}{xs:List Value}(h:w.ownsRow base e sz v n xs):Rd w v n sz xs:=by
 have hl:=h.1
 rcases h.2 with ⟨rfl,rfl⟩ | ⟨g,cap,cur,rfl,hb,hg,hnc,hcm,hcs,htake⟩
 ·exact⟨hl,by simp [maxLen],none,0,rfl,fun h=>by omega⟩
 ·refine⟨hl,Nat.le_trans hnc hcm,some ⟨g,0,none⟩,cap,rfl,fun _=>⟨g,0,rfl,(Array.getElem?_eq_some_iff.1 hg).1,fun j hj=>?_⟩⟩
  rw [Nat.zero_add,h.cellAt j hj,List.getD_eq_getElem?_getD]
  have:j<xs.length:=by omega
  simp [this]
theorem own_keep{S:Nat->Prop}{A B:World}{base:Nat}{e:TypeId}{sz:Nat}{v:Value}{n:Nat}{xs:List Value}(h:A.ownsRow base e sz v n xs)(ht:Turn S A B)(hS:∀ g,v.ownBlock=some g->¬ S g):B.ownsRow base e sz v n xs:=by
 obtain⟨hl,h2⟩:=h
 refine⟨hl,?_⟩
 rcases h2 with ⟨rfl,rfl⟩ | ⟨g,cap,cur,rfl,hb,hg,hr⟩
 ·exact .inl ⟨rfl,rfl⟩
 ·exact .inr ⟨g,cap,cur,rfl,hb,ht.heap hg (hS g rfl),hr⟩
theorem own_ext{A B:World}{base:Nat}{e:TypeId}{sz:Nat}{v:Value}{n:Nat}{xs:List Value}(h:A.ownsRow base e sz v n xs)(ht:Ext A B):B.ownsRow base e sz v n xs:=own_keep h ht fun _ _ h=>h
theorem own_turn{S:Nat->Prop}{A B:World}{base:Nat}{e:TypeId}{sz:Nat}{v:Value}{n:Nat}{xs:List Value}(h:A.ownsRow base e sz v n xs)(ht:Turn S A B)(hS:∀ g o,A.heap[g]?=some o->o.isCells=true->¬ S g):B.ownsRow base e sz v n xs:=by
 refine own_keep h ht fun g hg=>?_
 rcases h.2 with ⟨e,_⟩ | ⟨g',cap,cur,e,_,hc,_⟩
 ·rw [e] at hg;simp [Value.ownBlock] at hg
 ·rw [e] at hg;simp [Value.ownBlock] at hg;subst hg;exact hS _ _ hc rfl
theorem own_base{A:World}{base base':Nat}{e:TypeId}{sz:Nat}{v:Value}{n:Nat}{xs:List Value}(h:A.ownsRow base e sz v n xs)(hb:base'<=base):A.ownsRow base' e sz v n xs:=by
 obtain⟨hl,h2⟩:=h
 refine⟨hl,?_⟩
 rcases h2 with h | ⟨g,cap,cur,hv,hb',hr⟩
 ·exact .inl h
 ·exact .inr ⟨g,cap,cur,hv,Nat.le_trans hb hb',hr⟩
theorem append_block{P:Program}{w:World}{base:Nat}{t ty e:TypeId}{i:TypeInfo}{z:Value}(ht:P.underlying t=some (.slice e)) (hi:P.info? e=some i) (hz:i.zero=some z) (_hsz:0<i.size)
  {v:Value} {n:Nat} {xs:List Value} (hown:w.ownsRow base e i.size v n xs)
  (a:Addr) (m c:Nat) (news:List Value) (hl:news.length=m*i.size) (hnews:∀ j u,news[j]?=some u->w.cell? (a.add j)=some u) (h1:∀ u∈news,u.oneCell'=true)
  (h63:n+m<=maxLen) (hbytes:(n+m)*i.bytes<=140737488355328) {v':Value} {w':World}
  (hr:(Builtin.append_ #[t,t] ty #[v,.slice (some a) m c]).run P w=.ok v' w'):v'.ownBlock=v.ownBlock\/v'.ownBlock=some w.heap.size:=by
 have hsmall:n+m<=9223372036854775807:=by simp only [maxLen] at h63;omega
 rcases hown.2 with ⟨rfl,rfl⟩ | ⟨g,cap,cur,rfl,hbg,hg,hnc,hcm,hcs,htake⟩
 ·by_cases hm:m=0
  ·subst hm
   have hn:news=[]:=List.eq_nil_of_length_eq_zero (by simpa using hl)
   subst hn
   have:(Builtin.append_ #[t,t] ty #[.slice none 0 0,.slice (some a) 0 c]).run P w=.ok (.slice none 0 0) w:=by
    simp [Builtin.append_,run_underlying ht,sizeOf,typeInfo,hi,Builtin.lenOf,Builtin.firstCells,loadCells,loadCellsFrom]
   rw [this] at hr
   cases hr
   exact .inl rfl
  ·have hr':=run_append_nil (P:=P) w t ty e i z ht hi hz a m c news hl hnews (by omega) (by omega) (by have hb:=hbytes;simp only [Nat.zero_add] at hb;omega)
   rw [hr'] at hr
   cases hr
   exact .inr rfl
 ·by_cases hroom:n+m<=cap
  ·have hfit:n*i.size+news.length<=cur.size:=by rw [hl,hcs,<-Nat.add_mul];exact Nat.mul_le_mul_right _ hroom
   have hr':=run_append_room (P:=P) w t ty e i ht hi g n cap cur hg a m c news hl hnews h1 hroom hfit
   rw [hr'] at hr
   cases hr
   exact .inl rfl
  ·have holds:∀ j u,xs[j]?=some u->w.cell? ((⟨g,0,none⟩:Addr).add j)=some u:=hown.cells (g:=g) rfl
   have hr':=run_append_grow (P:=P) w t ty e i z ht hi hz ⟨g,0,none⟩ n cap xs hown.1 holds a m c news hl hnews (by omega) (by omega) (growslice_fits (by omega) hbytes)
   rw [hr'] at hr
   cases hr
   exact .inr rfl
def IsSlice(v:Value):Prop:=∃ ao n cap,v=.slice ao n cap
theorem own_slice{w:World}{base:Nat}{e:TypeId}{sz:Nat}{v:Value}{n:Nat}{xs:List Value}(h:w.ownsRow base e sz v n xs):∃ ao cap,v=.slice ao n cap:=by
 rcases h.2 with ⟨rfl,rfl⟩ | ⟨g,cap,cur,rfl,_⟩
 ·exact⟨_,_,rfl⟩
 ·exact⟨_,_,rfl⟩
theorem append_row{P:Program}{w:World}{ops:Array Oper}{rest:List Oper}{o:Oper}{a:Act}{Q:Exit->Act->World->Prop}(hgd:o.guard=none)(s x:Operand)(t:TypeId)
  (ho:o.op=.call { callee:=.builtin .append,args:=#[s,x],argTypes:=#[t,t] })
  (base:Nat) (e:TypeId) (z:Value) (size bytes:Nat) (ht:P.underlying t=some (.slice e)) (hinfo:(P.info? e).map (fun i=>(i.zero,i.size,i.bytes))=some (some z,size,bytes))
  (hzs:z.cells.size=size) (hsz:0<size)
  (v:Value) (n:Nat) (xs:List Value) (hs:a.eval s=v) (hown:w.ownsRow base e size v n xs)
  (ad:Addr) (m c:Nat) (news:List Value) (hx:a.eval x=.slice (some ad) m c) (hl:news.length=m*size) (hnews:∀ j u,news[j]?=some u->w.cell? (ad.add j)=some u) (h1:∀ u∈news,u.oneCell'=true)
  (h63:n+m<=maxLen) (hbytes:(n+m)*bytes<=140737488355328) (hbase:base<=w.heap.size)
  (h:∀ ao c' w',w'.ownsRow base e size (.slice ao (n+m) c') (n+m) (xs++news)->Turn (fun b=>v.ownBlock=some b) w w'->((Value.slice ao (n+m) c').ownBlock=v.ownBlock\/(Value.slice ao (n+m) c').ownBlock=some w.heap.size)->wpList P ops Q rest (a.put o.dst (.slice ao (n+m) c')) w'):wpList P ops Q (o::rest) a w:=by
 obtain⟨i,hi,hz,hs1,hb1⟩:=info_parts hinfo
 subst hs1
 subst hb1
 refine wpList_plain hgd fun K hK=>?_
 obtain⟨v',w',hr,h2,h3,h4⟩:=run_append_own (P:=P) w base t o.type e i z _ _ ht hi hz rfl rfl hzs hsz v n xs hown ad m c news hl hnews h1 h63 hbytes hbase
 have h5:=append_block ht hi hz hsz hown ad m c news hl hnews h1 h63 hbytes hr
 unfold Oper.wp execOp
 simp only [ho,resolve,invoke,builtin,Sem.run_bind,Sem.run_pure,Result.andThen_ok,List.map_toArray,List.map_cons,List.map_nil,hs,hx,hr]
 obtain⟨ao,c',rfl⟩:=own_slice h2
 exact hK _ _ (h ao c' w' h2 ((Turn.refl _ w).grown h3 (fun k e=>.inr e)) h5)
theorem new_cells{w:World}{l:List Value}{t:TypeId}:∀ j u,l[j]?=some u->(w.alloc (.cells l.toArray t)).cell? ((⟨w.heap.size,0,none⟩:Addr).add j)=some u:=by
 intro j u hj
 have e:((⟨w.heap.size,0,none⟩:Addr).add j)=⟨w.heap.size,j,none⟩:=by
  unfold Addr.add;split
  ·rename_i h;subst h;rfl
  ·simp
 rw [e,World.cell?_alloc_new]
 simpa using hj
theorem new_cells'{w:World}{l:List Value}{t:TypeId}{n:Nat}(hn:n=w.heap.size):∀ j u,l[j]?=some u->(w.alloc (.cells l.toArray t)).cell? ((⟨n,0,none⟩:Addr).add j)=some u:=by
 subst hn;exact new_cells
theorem own_store{w:World}{base g n cap:Nat}{e:TypeId}{xs:List Value}(h:w.ownsRow base e 1 (.slice (some ⟨g,0,none⟩) n cap) n xs) (j:Nat) (u:Value) :
  (w.setCell ⟨g,j,none⟩ u).ownsRow base e 1 (.slice (some ⟨g,0,none⟩) n cap) n (xs.set j u):=(h.stored j u).1
end Go.Ab
namespace Go.Ab
open Go.RowKit
def sndL(w:Wd):List Value:=w.flatMap fun s=>[Value.int .u32 (s.1:Int),Value.int .u32 (s.2:Int)]
theorem sndL_cons(s:Nat × Nat)(w:Wd):sndL (s::w)=.int .u32 (s.1:Int)::.int .u32 (s.2:Int)::sndL w:=rfl
theorem sndL_length(w:Wd):(sndL w).length=w.length*2:=by
 induction w with
 | nil=>rfl
 | cons s w ih=>simp [sndL_cons,ih];omega
theorem sndL_append(v w:Wd):sndL (v++w)=sndL v++sndL w:=by simp [sndL]
theorem sndL_get(w:Wd)(i:Nat)(h:i<w.length):(sndL w)[i*2]?=some (.int .u32 ((w.getD i (0,0)).1:Int))/\(sndL w)[i*2+1]?=some (.int .u32 ((w.getD i (0,0)).2:Int)):=by
 induction w generalizing i with
 | nil=>simp at h
 | cons s w ih=>
  cases i with
  | zero=>simp [sndL_cons]
  | succ i=>
   rw [sndL_cons,show (i+1)*2=i*2+1+1 by omega]
   simpa using ih i (by simpa using h)
def WdOk(w:Wd):Prop:=∀ s∈w,s.1<4294967296/\s.2<4294967296
theorem WdOk.get{w:Wd}(h:WdOk w)(i:Nat)(hi:i<w.length):(w.getD i (0,0)).1<4294967296/\(w.getD i (0,0)).2<4294967296:=by
 refine h _ ?_
 rw [List.getD_eq_getElem?_getD,List.getElem?_eq_getElem hi]
 exact List.getElem_mem hi
def WordAt(W:World)(v:Value)(w:Wd):Prop:=Rd W v w.length 2 (sndL w)/\WdOk w
theorem WordAt.ext{A B:World}{v:Value}{w:Wd}(h:WordAt A v w)(ht:Ext A B):WordAt B v w:=⟨h.1.ext ht,h.2⟩
theorem WordAt.at{W:World}{v:Value}{w:Wd}(h:WordAt W v w){i:Nat}(hi:i<w.length) :
  ∃ g off cap,v=.slice (some ⟨g,off,none⟩) w.length cap/\g<W.heap.size/\W.cell? ⟨g,off+i*2,none⟩=some (.int .u32 ((w.getD i (0,0)).1:Int))/\W.cell? ⟨g,off+i*2+1,none⟩=some (.int .u32 ((w.getD i (0,0)).2:Int)):=by
 obtain⟨⟨h1,h2,ao,cap,hv,h3⟩,h4⟩:=h
 obtain⟨g,off,ha,hg,hc⟩:=h3 (by omega)
 have e:=sndL_get w i hi
 have c1:=hc (i*2) (by omega)
 have c2:=hc (i*2+1) (by omega)
 rw [List.getD_eq_getElem?_getD,e.1] at c1
 rw [List.getD_eq_getElem?_getD,e.2,<-Nat.add_assoc] at c2
 exact⟨g,off,cap,by rw [hv,ha],hg,c1,c2⟩
theorem WordAt.slice{W:World}{v:Value}{w:Wd}(h:WordAt W v w):∃ ao cap,v=.slice ao w.length cap/\w.length<=maxLen:=by
 obtain⟨⟨h1,h2,ao,cap,hv,h3⟩,h4⟩:=h
 exact⟨ao,cap,hv,h2⟩
theorem and_not32(a b:Nat)(ha:a<4294967296)(hb:b<4294967296):a &&& (4294967295 - b)=0↔a &&& b=a:=by
 have hn:∀ i,(4294967295 - b).testBit i=(decide (i<32) && !b.testBit i):=fun i=>by
  have:=Nat.testBit_two_pow_sub_succ (n:=32) (x:=b) (by simpa using hb) i
  simpa using this
 have ha2:∀ i,32<=i->a.testBit i=false:=fun i hi=>Nat.testBit_lt_two_pow (Nat.lt_of_lt_of_le ha (Nat.pow_le_pow_right (n:=2) (by decide) hi))
 constructor
 ·intro h
  apply Nat.eq_of_testBit_eq
  intro i
  have:=congrArg (fun v=>Nat.testBit v i) h
  simp only [Nat.testBit_and,hn,Nat.zero_testBit] at this
  rw [Nat.testBit_and]
  by_cases hi:i<32
  ·cases q:a.testBit i <;> cases r:b.testBit i <;> simp_all
  ·rw [ha2 i (by omega)];rfl
 ·intro h
  apply Nat.eq_of_testBit_eq
  intro i
  have:=congrArg (fun v=>Nat.testBit v i) h
  simp only [Nat.testBit_and] at this
  rw [Nat.testBit_and,hn,Nat.zero_testBit]
  cases q:a.testBit i <;> cases r:b.testBit i <;> simp_all
theorem sat_bits{s c:Nat × Nat}(h1:s.1<4294967296)(h2:s.2<4294967296)(h3:c.1<4294967296)(h4:c.2<4294967296) :
  (bits .or .u32 (bits .andNot .u32 (c.1:Int) (s.1:Int)) (bits .andNot .u32 (c.2:Int) (s.2:Int)) == 0)=sat s c:=by
 have l1:c.1 &&& (4294967295 - s.1)<4294967296:=Nat.lt_of_le_of_lt Nat.and_le_left h3
 have l2:c.2 &&& (4294967295 - s.2)<4294967296:=Nat.lt_of_le_of_lt Nat.and_le_left h4
 rw [u32_andNot_nat _ _ h3 h1,u32_andNot_nat _ _ h4 h2,u32_or_nat _ _ l1 l2]
 apply Bool.eq_iff_iff.2
 rw [beq_iff_eq,sat,Bool.and_eq_true,beq_iff_eq,beq_iff_eq,<-and_not32 _ _ h3 h1,<-and_not32 _ _ h4 h2]
 constructor
 ·intro h
  have h:(c.1 &&& (4294967295 - s.1) ||| c.2 &&& (4294967295 - s.2))=0:=by exact_mod_cast h
  exact Nat.or_eq_zero_iff.1 h
 ·intro h
  have:(c.1 &&& (4294967295 - s.1) ||| c.2 &&& (4294967295 - s.2))=0:=Nat.or_eq_zero_iff.2 h
  exact_mod_cast this
theorem okSound_bits{a b:Nat}(ha:a<4294967296)(hb:b<4294967296):((bits .and .u32 (a:Int) (b:Int) == 0)=(a &&& b == 0))/\bits .or .u32 (a:Int) (b:Int)=((a ||| b:Nat):Int):=by
 rw [u32_and_nat _ _ ha hb,u32_or_nat _ _ ha hb]
 refine⟨?_,rfl⟩
 apply Bool.eq_iff_iff.2
 rw [beq_iff_eq,beq_iff_eq]
 exact⟨fun h=>by exact_mod_cast h,fun h=>by rw [h];rfl⟩
end Go.Ab
namespace Go.Ab
open Go.RowKit
def patCells(k:Int)(pl mi:Nat)(nt:Bool)(mn mx:Int)(ao:Option Addr)(n cap:Nat):List Value:=
 [.int .i64 k,.int .u32 pl,.int .u32 mi,.bool nt,.int .i64 mn,.int .i64 mx,.slice ao n cap]
mutual
def PatAt(K:Nat->Prop)(w:World):Pat->List Value->Prop
 | .node k pl mi nt mn mx l,cs=>∃ ao cap,cs=patCells k pl mi nt mn mx ao l.length cap/\pl<4294967296/\mi<4294967296/\l.length<=cap/\cap<=maxLen/\PatsAt K w l ao 0
def PatsAt(K:Nat->Prop)(w:World):List Pat->Option Addr->Nat->Prop
 | [],_,_=>True
 | p::l,ao,i=>(∃ g off cs,ao=some ⟨g,off,none⟩/\K g/\g<w.heap.size/\w.rangeAt g (off+i*7) cs/\PatAt K w p cs)/\PatsAt K w l ao (i+1)
end
theorem PatsAt.get{K:Nat->Prop}{w:World}:∀ {l:List Pat} {ao:Option Addr} {i:Nat},PatsAt K w l ao i->∀ j (h:j<l.length),∃ g off cs,ao=some ⟨g,off,none⟩/\K g/\g<w.heap.size/\w.rangeAt g (off+(i+j)*7) cs/\PatAt K w l[j] cs
 | [],_,_,_,j,h=>by simp at h
 | p::l,ao,i,h,0,_=>by unfold PatsAt at h;exact h.1
 | p::l,ao,i,h,j+1,hj=>by
  unfold PatsAt at h
  have:=PatsAt.get h.2 j (by simpa using hj)
  rw [show i+(j+1)=i+1+j by omega]
  exact this
theorem PatsAt.mk{K:Nat->Prop}{w:World}:∀ {l:List Pat} {ao:Option Addr} {i:Nat},(∀ j (h:j<l.length),∃ g off cs,ao=some ⟨g,off,none⟩/\K g/\g<w.heap.size/\w.rangeAt g (off+(i+j)*7) cs/\PatAt K w l[j] cs)->PatsAt K w l ao i
 | [],_,_,_=>by unfold PatsAt;trivial
 | p::l,ao,i,h=>by
  unfold PatsAt
  refine⟨h 0 (by simp),PatsAt.mk fun j hj=>?_⟩
  have:=h (j+1) (by simpa using hj)
  rw [show i+(j+1)=i+1+j by omega] at this
  exact this
theorem rangeAt_turn{S:Nat->Prop}{A B:World}(ht:Turn S A B){g o:Nat}{cs:List Value}(h:A.rangeAt g o cs)(hS:¬ S g):B.rangeAt g o cs:=fun j v hv=>ht.cell_some (h j v hv) hS
mutual
theorem PatAt.keep{K S:Nat->Prop}{A B:World}(ht:Turn S A B)(hS:∀ g,K g->¬ S g):∀ {p:Pat} {cs:List Value},PatAt K A p cs->PatAt K B p cs
 | .node k pl mi nt mn mx l,cs,h=>by
  unfold PatAt at h ⊢
  obtain⟨ao,cap,h1,h2,h3,h4,h5,h6⟩:=h
  exact⟨ao,cap,h1,h2,h3,h4,h5,PatsAt.keep ht hS h6⟩
theorem PatsAt.keep{K S:Nat->Prop}{A B:World}(ht:Turn S A B)(hS:∀ g,K g->¬ S g):∀ {l:List Pat} {ao:Option Addr} {i:Nat},PatsAt K A l ao i->PatsAt K B l ao i
 | [],_,_,_=>by unfold PatsAt;trivial
 | p::l,ao,i,h=>by
  unfold PatsAt at h ⊢
  obtain⟨⟨g,off,cs,h1,h2,h3,h4,h5⟩,h6⟩:=h
  exact⟨⟨g,off,cs,h1,h2,Nat.lt_of_lt_of_le h3 ht.size,rangeAt_turn ht h4 (hS g h2),PatAt.keep ht hS h5⟩,PatsAt.keep ht hS h6⟩
end
theorem PatAt.ext{K:Nat->Prop}{A B:World}{p:Pat}{cs:List Value}(h:PatAt K A p cs)(ht:Ext A B):PatAt K B p cs:=h.keep ht fun _ _ h=>h
theorem PatsAt.ext{K:Nat->Prop}{A B:World}{l:List Pat}{ao:Option Addr}{i:Nat}(h:PatsAt K A l ao i)(ht:Ext A B):PatsAt K B l ao i:=h.keep ht fun _ _ h=>h
mutual
theorem PatAt.mono{K L:Nat->Prop}{A:World}(hK:∀ g,K g->L g):∀ {p:Pat} {cs:List Value},PatAt K A p cs->PatAt L A p cs
 | .node k pl mi nt mn mx l,cs,h=>by
  unfold PatAt at h ⊢
  obtain⟨ao,cap,h1,h2,h3,h4,h5,h6⟩:=h
  exact⟨ao,cap,h1,h2,h3,h4,h5,PatsAt.mono hK h6⟩
theorem PatsAt.mono{K L:Nat->Prop}{A:World}(hK:∀ g,K g->L g):∀ {l:List Pat} {ao:Option Addr} {i:Nat},PatsAt K A l ao i->PatsAt L A l ao i
 | [],_,_,_=>by unfold PatsAt;trivial
 | p::l,ao,i,h=>by
  unfold PatsAt at h ⊢
  obtain⟨⟨g,off,cs,h1,h2,h3,h4,h5⟩,h6⟩:=h
  exact⟨⟨g,off,cs,h1,hK g h2,h3,h4,PatAt.mono hK h5⟩,PatsAt.mono hK h6⟩
end
end Go.Ab
