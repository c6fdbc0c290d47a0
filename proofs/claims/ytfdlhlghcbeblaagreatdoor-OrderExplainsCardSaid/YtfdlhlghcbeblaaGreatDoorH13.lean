/- PLAIN: ModeAll: the word as the program keeps it. law.run: its iterator in ModeAll (printed by genrun.py). law.run: its iterator in ModeRight (printed by genrun.py). -/
import Derived.Test.YtfdlhlghcbeblaaGreatDoorH11
import Derived.Test.YtfdlhlghcbeblaaGreatDoorH12
import Derived.Test.YtfdlhlghcbeblaaGreatDoorH10
namespace Go.Proofs.YtfdlhlghcbeblaaGreatDoor
open Go.RowKit Go.Ab
def AllB(l:LawD)(ws:Wd)(pre:List Nat)(tr:List (Nat × Wd)) (u:Wd) (next:Nat):Prop:=
 ∃ d,AllAt l ws pre tr next d/\u=d++ws.drop next/\tr.length<=next/\next<=ws.length+1
def shiftZ(l:LawD)(tr:List (Nat × Wd)):Int:=((tr.length*l.outs.length:Nat):Int) - ((tr.length*l.ifs.length:Nat):Int)
theorem AllB.start{l:LawD}{ws:Wd}(h:l.mode=1):AllB l ws [] [] ws 0:=⟨[],.start h,by simp,by simp,by omega⟩
theorem AllB.pass{l:LawD}{ws:Wd}{pre:List Nat}{tr:List (Nat × Wd)} {u:Wd} {next a:Nat} (h:AllB l ws pre tr u next) (ha:a<next):AllB l ws (pre++[a]) tr u next:=by
 obtain⟨d,h1,h2,h3,h4⟩:=h
 exact⟨d,h1.pass ha,h2,h3,h4⟩
theorem AllB.done{l:LawD}{ws:Wd}{tr:List (Nat × Wd)} {u:Wd} {next:Nat} (h:AllB l ws (hitsL l ws) tr u next):traceL l ws=tr:=by
 obtain⟨d,h1,_⟩:=h
 exact h1.done
theorem AllB.hit{l:LawD}{ws:Wd}{pre rest:List Nat}{tr:List (Nat × Wd)} {u:Wd} {next a:Nat} (h:AllB l ws pre tr u next) (hx:hitsL l ws=pre++a::rest) (ha:next<=a) :
  ∃(c:Nat) (r:Wd),(c:Int)=(a:Int)+shiftZ l tr/\c<=u.length/\r=u.take c++putL l ((ws.drop a).take l.ifs.length)++ws.drop (a+l.ifs.length)/\r.length+l.ifs.length=c+l.outs.length+(ws.length - a)/\c<=a+tr.length*l.outs.length/\tr.length<=ws.length/\a+l.ifs.length<=ws.length /\
   AllB l ws (pre++[a]) (tr++[(a,r)]) r (a+max l.ifs.length 1)/\∃ rest2,traceL l ws=tr++(a,r)::rest2:=by
 obtain⟨d,h1,h2,h3,h4⟩:=h
 obtain⟨p1,p2,p3,p4⟩:=pair_split hx
 have hle:=hit_le p1
 obtain⟨d1,hd1,hl1,h5⟩:=h1.hit hx ha
 have hdu:u.take d1.length=d1:=by
  rw [h2,hd1,List.length_append,List.take_append,List.take_of_length_le (by omega)]
  congr 1
  rw [show d.length+((ws.drop next).take (a - next)).length - d.length=((ws.drop next).take (a - next)).length by omega]
  rw [List.length_take,List.length_drop]
  rw [show min (a - next) (ws.length - next)=a - next by omega]
 have hcu:d1.length<=u.length:=by rw [<-hdu,List.length_take];omega
 refine⟨d1.length,d1++putL l ((ws.drop a).take l.ifs.length)++ws.drop (a+l.ifs.length),by unfold shiftZ;omega,hcu,by rw [hdu],?_,by omega,by omega,hle,⟨_,h5,?_,?_,by omega⟩,?_⟩
 ·rw [List.length_append,List.length_append,putL_length,List.length_drop];omega
 ·by_cases hk:l.ifs.length=0
  ·rw [if_pos hk,hk]
   simp only [Nat.add_zero,Nat.zero_max,List.append_assoc]
   congr 2
   skip
   rw [<-List.drop_drop,List.take_append_drop]
  ·rw [if_neg hk,show a+max l.ifs.length 1=a+l.ifs.length by omega]
 ·rw [List.length_append,List.length_singleton];omega
 ·obtain⟨⟨n,_,ht⟩,_⟩:=h5
  exact⟨_,by rw [ht,List.append_assoc];rfl⟩
theorem shiftZ_succ(l:LawD)(tr:List (Nat × Wd)) (x:Nat × Wd):shiftZ l (tr++[x])=shiftZ l tr+(l.outs.length:Int) - (l.ifs.length:Int):=by
 unfold shiftZ
 rw [List.length_append,List.length_singleton,Nat.add_mul,Nat.add_mul];omega
end Go.Proofs.YtfdlhlghcbeblaaGreatDoor
set_option maxRecDepth 100000
set_option maxHeartbeats 16000000
namespace Go.Proofs.YtfdlhlghcbeblaaGreatDoor
open Go.RowKit Go.Ab
attribute [local go_sem] Oper.semAt_some wide_fn wide_depth
theorem exec_load_row{o:Oper}{a:Act}{w:World}{ty:TypeId}{x:Operand}(ho:o.op=.load ty x)(g:Nat)(hx:a.eval x=.pointer (some ⟨g,0,none⟩)) (t:TypeId) (cs:Array Value) (fr:Nat × Nat) (hg:w.heap[g]?=some (.cells cs t fr))
  {fs:Array Field} (hu:Tryz.prog.underlying ty=some (.struct fs)) (hi:(Tryz.prog.info? ty).map (·.size)=some cs.size):(execOp a.eval o).run Tryz.prog w=.ok (.value (.agg cs)) w:=by
 unfold execOp
 simp only [ho,hx,Instr.loadAt,Instr.sureAddr,Sem.run_bind,Sem.run_pure,Result.andThen_ok,run_loadVar_row w g t ty cs fr (.struct fs) hg hu rfl hi]
theorem cell1_set{W:World}{b:Nat}{t:TypeId}{v:Value}(u:Value)(h:W.heap[b]?=some (.cells #[v] t (0,0))):(W.setCell ⟨b,0,none⟩ u).heap[b]?=some (.cells #[u] t (0,0)):=by
 simp only [World.setCell,Array.getElem?_modify,h];simp
theorem RunNow.inner{w V V':World}{K O:Nat->Prop}{J:(Nat->Prop)->List (Nat × Wd)->World->Prop} {Y0 lp:Nat} {tr:List (Nat × Wd)} {u:Wd} {uo:Option Addr} {uc:Nat} (h:RunNow w V K O J Y0 lp tr u uo uc)
  (hT:Turn (fun b=>b=Y0+2\/b=Y0+3) V V') (h2:O (Y0+2)) (h3:O (Y0+3)) (hJ:∀ O O' pre A B,J O pre A->Turn (fun b=>O b/\RunM 9 Y0 b) A B->(∀ b,O' b->(O b\/A.heap.size<=b)/\b<B.heap.size)->J O' pre B)
  (hw:KeptIn (fun g=>Y0+4<=g) (.slice uo u.length uc)) (hK:∀ b,K b->b<Y0):RunNow w V' K O J Y0 lp tr u uo uc:=by
 have hTO:Turn (fun b=>O b/\RunM 9 Y0 b) V V':=hT.mono fun b _ hb=>by
  rcases hb with rfl | rfl
  ·exact⟨h2,by unfold RunM;omega⟩
  ·exact⟨h3,by unfold RunM;omega⟩
 have hlt:∀ b,O b->Y0<=b/\b<V'.heap.size:=fun b hb=>⟨(h.lt b hb).1,Nat.lt_of_lt_of_le (h.lt b hb).2 hT.size⟩
 refine⟨hJ _ _ _ _ _ h.j hTO (fun b hb=>⟨.inl hb,(hlt b hb).2⟩),h.oy,h.on,hlt,?_,hT.heap h.y (by omega),hT.heap h.n (by omega),wd_keepS (S:=fun g=>Y0+4<=g) h.wd (hT.mono fun b _ hb hn=>by omega) hw,h.cap,h.kept⟩
 exact h.t.trans (hT.mono fun b _ hb hk=>by have:=hK b hk;omega)
theorem leaves1{P:Program}{fn:Func}{tmps:Array Value}{R:Ending->World->Prop}{v:Value}{r:Nat}{w:World}(hr:w.heap[r]?=some (.deferred (some [])))
  (h1:(results fn tmps).run P (w.putObj r (.deferred none))=.ok v (w.putObj r (.deferred none))) (h2:R (.returned v) (w.putObj r (.deferred none))) :
  LeavesInM Fence.wide 0 P fn tmps R [{ target:=.collected r,args:=#[] }] .returning w:=
 ⟨by simp,.inl ⟨r,_,rfl,run_takeDeferred hr,⟨v,h1,h2⟩⟩⟩
def AllNow(w:World)(K:Nat->Prop)(J:(Nat->Prop)->List (Nat × Wd)->World->Prop) (Y0 lp:Nat) (l:LawD) (ws:Wd) (Oin:Nat->Prop) (pre:List Nat) (V:World):Prop:=
 ∃(O:Nat->Prop) (tr:List (Nat × Wd)) (u:Wd) (uo:Option Addr) (uc next:Nat),RunNow w V K O J Y0 lp tr u uo uc/\AllB l ws pre tr u next /\
  V.heap[Y0+2]?=some (.cells #[.int .i64 (next:Int)] 3 (0,0))/\V.heap[Y0+3]?=some (.cells #[.int .i64 (shiftZ l tr)] 3 (0,0)) /\
  (∀ b,Oin b->O b)/\(∀ b,Y0<=b->b<Y0+9->O b)/\KeptIn (fun g=>g≠Y0+8/\g<V.heap.size) (.slice uo u.length uc)
def AllEnd(J:(Nat->Prop)->List (Nat × Wd)->World->Prop) (Y0:Nat) (l:LawD) (ws:Wd) (Oin:Nat->Prop) (V:World):Prop:=
 ∃(O:Nat->Prop) (tr:List (Nat × Wd)) (x:Nat × Wd) (rest:List (Nat × Wd)),traceL l ws=tr++x::rest/\J O (tr++[x]) V/\(∀ b,Oin b->O b)/\(∀ b,Y0<=b->b<Y0+9->O b)/\(∀ b,O b->b<V.heap.size)
section
variable {w:World} {K:Nat->Prop} {J Jx:(Nat->Prop)->List (Nat × Wd)->World->Prop} {Y0 lp:Nat} {l:LawD} {ws:Wd} {Oin Oin':Nat->Prop} {pre:List Nat} {A B:World}
theorem AllNow.step(h:AllNow w K J Y0 lp l ws Oin pre A)(hJ:∀ O O' pre A B,J O pre A->Turn (fun b=>O b/\RunM 9 Y0 b) A B->(∀ b,O' b->(O b\/A.heap.size<=b)/\b<B.heap.size)->J O' pre B) (hK:∀ b,K b->b<Y0)
  (hO:∀ b,Oin b->Y0+9<=b/\b<A.heap.size) (ht:Turn (fun b=>b=Y0+8) A B) (hO':∀ b,Oin' b->(Oin b\/A.heap.size<=b)/\b<B.heap.size):AllNow w K J Y0 lp l ws Oin' pre B:=by
 obtain⟨O,tr,u,uo,uc,next,hN,hB,h2,h3,h4,h5,h6⟩:=h
 have hOt:Turn (fun b=>O b/\RunM 9 Y0 b) A B:=ht.mono fun b _ hb=>by
  subst hb
  exact⟨h5 _ (by omega) (by omega),by unfold RunM;omega⟩
 have hlow:∀ b,b<Y0+8->¬ (b=Y0+8):=fun b hb hn=>by omega
 have hwk:KeptIn (fun g=>¬ (g=Y0+8)) (.slice uo u.length uc):=fun g o n c e h0'=>(h6 g o n c e h0').1
 refine⟨fun b=>O b\/Oin' b,tr,u,uo,uc,next,⟨hJ _ _ _ _ _ hN.j hOt (fun b hb=>?_),.inl hN.oy,.inl hN.on,fun b hb=>?_,hN.t.trans (hOt.mono fun b _ hb hk=>?_),ht.heap hN.y (hlow _ (by omega)),ht.heap hN.n (hlow _ (by omega)),wd_keepS (S:=fun g=>¬ (g=Y0+8)) hN.wd (ht.mono fun b _ hb hn=>hn hb) hwk,hN.cap,fun g o n c e h0'=>?_⟩,hB,ht.heap h2 (hlow _ (by omega)),ht.heap h3 (hlow _ (by omega)),fun b hb=>.inr hb,fun b h1 h2=>.inl (h5 b h1 h2),fun g o n c e h0'=>?_⟩
 ·rcases hb with hb | hb
  ·exact⟨.inl hb,Nat.lt_of_lt_of_le (hN.lt b hb).2 ht.size⟩
  ·exact⟨(hO' b hb).1.imp (fun h=>h4 b h) id,(hO' b hb).2⟩
 ·rcases hb with hb | hb
  ·exact⟨(hN.lt b hb).1,Nat.lt_of_lt_of_le (hN.lt b hb).2 ht.size⟩
  ·refine⟨?_,(hO' b hb).2⟩
   rcases(hO' b hb).1 with h | h
   ·have:=(hO b h).1;omega
   ·have:=(hN.lt _ hN.oy).2;omega
 ·have:=hK b hk;have:=(hN.lt b hb.1).1;omega
 ·exact(hN.kept g o n c e h0').imp id .inl
 ·obtain⟨k2,k3⟩:=h6 g o n c e h0'
  exact⟨k2,Nat.lt_of_lt_of_le k3 ht.size⟩
theorem AllEnd.step(h:AllEnd Jx Y0 l ws Oin A)(hJ:∀ O O' pre A B,Jx O pre A->Turn (fun b=>O b/\RunM 9 Y0 b) A B->(∀ b,O' b->(O b\/A.heap.size<=b)/\b<B.heap.size)->Jx O' pre B)
  (ht:Turn (fun b=>b=Y0+8) A B) (hO':∀ b,Oin' b->(Oin b\/A.heap.size<=b)/\b<B.heap.size):AllEnd Jx Y0 l ws Oin' B:=by
 obtain⟨O,tr,x,rest,h1,h2,h4,h5,h6⟩:=h
 have hOt:Turn (fun b=>O b/\RunM 9 Y0 b) A B:=ht.mono fun b _ hb=>by
  subst hb
  exact⟨h5 _ (by omega) (by omega),by unfold RunM;omega⟩
 refine⟨fun b=>O b\/Oin' b,tr,x,rest,h1,hJ _ _ _ _ _ h2 hOt (fun b hb=>?_),fun b hb=>.inr hb,fun b h1 h2=>.inl (h5 b h1 h2),fun b hb=>?_⟩
 ·rcases hb with hb | hb
  ·exact⟨.inl hb,Nat.lt_of_lt_of_le (h6 b hb) ht.size⟩
  ·exact⟨(hO' b hb).1.imp (fun h=>h4 b h) id,(hO' b hb).2⟩
 ·rcases hb with hb | hb
  ·exact Nat.lt_of_lt_of_le (h6 b hb) ht.size
  ·exact(hO' b hb).2
end
theorem run_all{w:World}{BW BL Bk Bm:Nat}{l:LawD}{cs:List Value}{vo:Option Addr}{vc:Nat}{ws:Wd}{K:Nat->Prop}(hlaw:lawB l=true)(hmode:l.mode=1)(hwl:ws.length<=32)(hcap:ws.length<=vc)(hkv:KeptIn K (.slice vo ws.length vc))
  (hKw:∀ b,K b->b<w.heap.size) (hst:∀ W,Turn (fun b=>¬ K b) w W->RunSt W BW BL Bk Bm l cs vo vc ws) :
  IterO Tryz.prog 225 #[.pointer (some ⟨BW,0,none⟩),.pointer (some ⟨BL,0,none⟩),.pointer (some ⟨Bk,0,none⟩),.pointer (some ⟨Bm,0,none⟩)] (RunM 9) (RunE 9) (traceL l ws) K w:=by
 intro lp J Jx W ht hJ hJx hY h0
 obtain⟨hk4,hm6,hkm,_,hfits,_,_,_⟩:=lawB_parts hlaw
 have h0st:=hst W ht
 have hmo:=h0st.law.box.mode
 rw [hmode] at hmo
 obtain⟨wn,hwn⟩:∃ n,ws.length=n:=⟨_,rfl⟩
 have cW:=cell_of_one h0st.box
 rw [hwn] at cW hwl hcap hkv
 have HKV:=Lib.hid hkv
 have HWN:=Lib.hid hwn;have HST:=Lib.hid hst;have HFT:=Lib.hid hfits;have HMO:=Lib.hid hmode;have HJ:=Lib.hid hJ;have HY:=Lib.hid hY;have HJ0:=Lib.hid h0;have HT0:=Lib.hid ht
 have H0ST:=Lib.hid h0st
 obtain⟨kn,hkn⟩:∃ n,l.ifs.length=n:=⟨_,rfl⟩
 obtain⟨mn,hmn⟩:∃ n,l.outs.length=n:=⟨_,rfl⟩
 rw [hkn] at hk4 hkm
 rw [hmn] at hm6 hkm
 have HKN:=Lib.hid hkn;have HMN:=Lib.hid hmn
 have HJX:=Lib.hid hJx
 clear hst hfits hmode hJ hJx hY h0 ht h0st hlaw hwn hkv hkn hmn
 show Calls _ _ #[.func (.yield lp) #[] #[],.pointer (some ⟨BW,0,none⟩),.pointer (some ⟨BL,0,none⟩),.pointer (some ⟨Bk,0,none⟩),.pointer (some ⟨Bm,0,none⟩)] _ _
 refine calls_of_wp_marks Tryz.func225 rfl ?_
 simp only [Tryz.ntmps225,List.size_toArray,List.length_cons,List.length_nil,Nat.reduceAdd,Nat.reduceSub,Array.replicate_succ,Array.replicate_zero,List.push_toArray,List.append_toArray,List.nil_append,List.cons_append]
 have hL0:=H0ST.out.law.box.mode
 rw [HMO.out] at hL0
 go_upto_region 1 with (fail)
 obtain⟨w1,hw1⟩:∃ D,W.alloc (.cells #[.func (.yield lp) #[] #[]] 266)=D:=⟨_,rfl⟩
 have hE1:Ext W w1:=by rw [<-hw1];exact(Turn.refl _ W).alloc _
 have hY1:w1.heap[W.heap.size]?=some (.cells #[.func (.yield lp) #[] #[]] 266 (0,0)):=by rw [<-hw1];exact new_at rfl
 have hs1:w1.heap.size=W.heap.size+1:=by rw [<-hw1];simp
 rw [hw1]
 obtain⟨Y0,hY0⟩:∃ b,W.heap.size=b:=⟨_,rfl⟩
 rw [hY0] at hY1 hs1 ⊢
 have hj:=HJ.out;have hyy:=HY.out
 rw [hY0] at hj hyy
 have HJW:=HJ
 have HJ:=Lib.hid hj;have HY:=Lib.hid hyy
 clear hj hyy
 have HKY:Hid (∀ b,K b->b<Y0):=Lib.hid fun b hb=>by have:=hKw b hb;have:=HT0.out.size;omega
 have HY0:=Lib.hid hY0;have HS1:=Lib.hid hs1
 clear hKw
 have cW:=hE1.cell_some cW id
 clear hw1 hY0 hs1 hmo
 go_upto_region 2 with (fail)
 rw [HS1.out]
 obtain⟨w2,hw2⟩:∃ D,w1.alloc (.cells #[.slice vo wn vc] 99)=D:=⟨_,rfl⟩
 have hE2:Ext w1 w2:=by rw [<-hw2];exact(Turn.refl _ w1).alloc _
 have hN2:SlBox w2 (Y0+1) (.slice vo wn vc):=by rw [<-hw2];exact new_at HS1.out.symm
 have hs2:w2.heap.size=Y0+2:=by rw [<-hw2];simp [HS1.out]
 have hY2:=hE2.keep hY1
 rw [hw2]
 have hE12:=hE1.trans hE2
 have hmd:=hE12.cell_some hL0 id
 have HS2:=Lib.hid hs2
 clear hw2 cW hY1 hE1 hE2 hL0 hs2
 have hJ2:=HJ.out _ (fun b=>b=Y0\/b=Y0+1) [] _ _ HJ0.out (Ext.of hE12) (fun b hb=>by have:=HY0.out;have:=HS2.out;omega)
 have HJ2:=Lib.hid hJ2
 have hT2:Turn (fun b=>¬ K b) w w2:=HT0.out.trans (Ext.of hE12)
 clear hJ2
 have hjx:=HJX.out
 rw [HY0.out] at hjx
 have HJX:=Lib.hid hjx
 clear hjx
 go_upto_region 5 with (fail)
 rw [HS2.out,show Y0+2+1=Y0+3 from rfl]
 obtain⟨w3,hw3⟩:∃ D,(w2.alloc (.cells #[.int .i64 0] 3)).alloc (.cells #[.int .i64 0] 3)=D:=⟨_,rfl⟩
 have hE3:Ext w2 w3:=by rw [<-hw3];exact((Turn.refl _ w2).alloc _).alloc _
 have hx3:w3.heap[Y0+2]?=some (.cells #[.int .i64 0] 3 (0,0)):=by rw [<-hw3];exact new_keep (new_at HS2.out.symm)
 have hh3:w3.heap[Y0+3]?=some (.cells #[.int .i64 0] 3 (0,0)):=by rw [<-hw3];exact new_at (by simp [HS2.out])
 have hs3:w3.heap.size=Y0+4:=by rw [<-hw3];simp [HS2.out]
 rw [hw3]
 have hY3:=hE3.keep hY2
 have hN3:=hE3.keep hN2
 have hE13:=hE12.trans hE3
 have hT3:Turn (fun b=>¬ K b) w w3:=HT0.out.trans (Ext.of hE13)
 have hS3:=HST.out w3 hT3
 have HS3:=Lib.hid hs3
 clear hw3 hE3 hY2 hN2 hs3 hE12 hT2 HJ2 hmd HS1
 have cW:=cell_of_one hS3.box
 rw [HWN.out] at cW
 have hhits:=hits_any hS3.law.2 (ao:=vo) (n:=wn) (c:=vc) 0
 rw [HS3.out] at hhits
 have HHITS:=Lib.hid hhits
 obtain⟨hL1,hL2⟩:=hS3.law
 obtain⟨nm,k1,p1,m1,n1,a1,b1,o1,N1,c1,k2,p2,m2,n2,a2,b2,o2,N2,c2,io,N3,ic,oo,N4,oc,md,rfl,HLA,HPL,HPR,HIF,HOU,HNM,HN1,HN2,HN3,HN4,HMD,q0,q1,q2,q3,q4⟩:=law_gen hL2
 have HL1:=Lib.hid hL1
 clear hhits hL1 hL2 hS3
 go_wp2_with (first | (refine wpList_load_row rfl 102 (.tmp 2) rfl BL rfl _ _ _ _ HL1.out Tryz.underlying102 rfl Tryz.lawInfo ?_) | (go_at_call 226;refine HHITS.out.mono ?_;rintro e w4 ⟨rfl,hs4,hLB,hSB,hFB,hE4⟩))
 have hs4':w4.heap.size=Y0+7:=by omega
 have HS4:=Lib.hid hs4'
 have hx4:=hE4.keep hx3
 have hh4:=hE4.keep hh3
 have hY4:=hE4.keep hY3
 have hN4:=hE4.keep hN3
 have hE14:=hE13.trans hE4
 have hT4:Turn (fun b=>¬ K b) w w4:=hT3.trans (Ext.of hE4)
 clear hs4 hs4' hx3 hh3 hY3 hN3 hT3 hE4 HHITS cW HL1
 have hst4:∀ V,Turn (fun b=>¬ (K b\/b=Y0+4\/b=Y0+5\/b=Y0+6)) w4 V->LBx V (Y0+4) l _/\SlBox V (Y0+4+1) (.slice vo wn vc)/\WordAt V (.slice vo wn vc) ws/\Tab V/\V.heap[Y0+4+2]?=some (.cells #[.int .i64 (0:Nat)] 3 (0,0)):=fun V hV=>by
  have hVK:Turn (fun b=>¬ K b) w V:=hT4.trans (hV.mono fun b _ hb hk=>hb (.inl hk))
  have hS:=HST.out V hVK
  have hwd:=hS.word
  rw [HWN.out] at hwd
  exact⟨⟨hV.heap hLB.1 (fun h=>h (.inr (.inl rfl))),hS.law.2⟩,hV.heap hSB (fun h=>h (.inr (.inr (.inl rfl)))),hwd,hS.tab,hV.heap hFB (fun h=>h (.inr (.inr (.inr rfl))))⟩
 refine wp_rangeO (xs:=hitsL l ws) (K:=fun b=>K b\/b=Y0+4\/b=Y0+5\/b=Y0+6) rfl (enters_of Tryz.func258 (by kernel_rfl) rfl)
  (by rw [<-hitsF_zero];exact hits_iter 0 (by omega) (by rw [HKN.out,HWN.out];omega) hst4) (fun b h=>by have:=HS4.out;rcases h with h | h;have:=HKY.out b h;omega;omega) (fun _ _ x A ys h=>by rw [h];rfl) (fun _ _ x A D ys h _ _=>h)
  (AllNow w K J Y0 lp l ws) (fun c O pre V=>c=.ret/\AllEnd Jx Y0 l ws O V) ?hI ?hIx ?h0 (fun ys t=>(t.setIfInBounds 20 (ys.getD 0 undef)).setIfInBounds 9 (ys.getD 0 undef)) ?assign ?body ?done ?stop
 case hI=>
  rintro O O' pre A D h hO ht hO'
  rw [HS4.out] at hO ht
  exact h.step HJ.out HKY.out (fun b hb=>⟨by have:=(hO b hb).1;omega,(hO b hb).2⟩) (ht.mono fun b _ h=>h.elim (fun q=>q.2.elim) id) hO'
 case hIx=>
  rintro c O O' pre A D ⟨rfl,h⟩ hO ht hO'
  rw [HS4.out] at ht
  exact⟨rfl,h.step HJX.out (ht.mono fun b _ h=>h.elim (fun q=>q.2.elim) id) hO'⟩
 case h0=>
  intro V hV hs
  have hTV:Turn (fun b=>¬ K b) w V:=hT4.trans (Ext.of hV)
  refine⟨fun b=>Y0<=b/\b<Y0+9,[],ws,vo,vc,0,⟨HJ.out _ _ _ _ _ HJ0.out (Ext.of (hE14.trans hV)) (fun b hb=>by have:=HY0.out;have:=HS4.out;omega),⟨by omega,by omega⟩,⟨by omega,by omega⟩,fun b hb=>by have:=HS4.out;omega,hTV,hV.keep hY4,by rw [HWN.out];exact hV.keep hN4,(HST.out V hTV).word,by rw [HWN.out];exact hcap,by rw [HWN.out];exact fun g o n c e h0'=>.inl (HKV.out g o n c e h0')⟩,.start HMO.out,hV.keep hx4,?_,fun b hb=>hb.elim,fun b h1 h2=>⟨h1,h2⟩,?_⟩
  ·have:shiftZ l []=0:=by unfold shiftZ;simp
   rw [this];exact hV.keep hh4
  ·rw [HWN.out]
   intro g o n c e h0'
   have:=HKY.out g (HKV.out g o n c e h0')
   exact⟨by omega,by have:=HS4.out;omega⟩
 case assign=>
  rintro _ _ i ys V Kn rfl hK
  gi_wp2
  exact hK
 case done=>
  rintro O V ⟨O2,tr,u,uo,uc,next,hN,hB,_,_,_,h5,_⟩ hO ht hD
  have hd:=hB.done
  have HD:=Lib.hid hd;have HNN:=Lib.hid hN;have H5:=Lib.hid h5;have HDD:=Lib.hid hD
  clear hd hN hB h5 hD hst4 hT4 hx4 hh4 hY4 hN4 hE14 hLB hSB hFB ht hO
  go_wp2
  have hr:w4.heap.size=Y0+7:=HS4.out
  refine leaves1 HDD.out (results_none rfl _ _ _) ⟨⟨_,rfl⟩,O2,.inl ?_⟩
  rw [HD.out]
  exact HJ.out _ _ _ _ _ HNN.out.j ((Turn.refl (fun b=>O2 b/\RunM 9 Y0 b) V).putObj (.inr (by rw [hr];exact⟨H5.out _ (by omega) (by omega),by unfold RunM;omega⟩)) _) (fun b hb=>⟨.inl hb,by simpa using (HNN.out.lt b hb).2⟩)
 case stop=>
  rintro c O pre x rest V hx ⟨rfl,O2,tr,y,rest2,h1,h2,h3,h5,h6⟩ hD
  refine wp_ret ?_
  have hr:w4.heap.size=Y0+7:=HS4.out
  refine leaves1 hD (results_none rfl _ _ _) ⟨⟨_,rfl⟩,O2,.inr ⟨tr,y,rest2,h1,?_⟩⟩
  exact HJX.out _ _ _ _ _ h2 ((Turn.refl (fun b=>O2 b/\RunM 9 Y0 b) V).putObj (.inr (by rw [hr];exact⟨h5 _ (by omega) (by omega),by unfold RunM;omega⟩)) _) (fun b hb=>⟨.inl hb,by simpa using h6 b hb⟩)
 case body=>
  rintro O pre a rest ys V hx hsz hO ht ⟨O2,tr,u,uo,uc,next,hN,hB,h2,h3,h4,h5,h6⟩ rfl
  simp only [pq]
  have cX:=cell_of_one h2
  have cH:=cell_of_one h3
  have HX:=Lib.hid hx;have HO:=Lib.hid hO;have HN:=Lib.hid hN;have HB:=Lib.hid hB;have H2:=Lib.hid h2;have H3:=Lib.hid h3;have H4:=Lib.hid h4;have H5:=Lib.hid h5;have H6:=Lib.hid h6
  clear hx hO hN hB h2 h3 h4 h5 h6 hst4 hT4 hx4 hh4 hY4 hN4 hE14 hLB hSB hFB ht
  have han:a<=32:=by
   have:=(pair_split HX.out).2.1
   rw [HWN.out] at this;omega
  have hnx:next<=33:=by obtain⟨_,_,_,_,h⟩:=HB.out;rw [HWN.out] at h;omega
  by_cases hlt:a<next
  ·have hlt1:(a:Int)<(next:Int):=by omega
   gi_wp2
   exact⟨Turn.refl _ _,O2,tr,u,uo,uc,next,HN.out,HB.out.pass hlt,H2.out,H3.out,H4.out,H5.out,H6.out⟩
  have hlt1:¬ ((a:Int)<(next:Int)):=by omega
  gi_wp2
  obtain⟨c,r,hz,hcu,hr,hrl,hca,htr,hak,hB2,rest2,hspl⟩:=HB.out.hit HX.out (by omega)
  rw [HKN.out] at hr hrl hak
  rw [HMN.out] at hrl hca
  rw [HWN.out] at hrl htr hak
  have hfew:=few (t:=tr.length) (n:=wn) (m:=mn) htr hm6 (by omega)
  have hcb:c<=230:=by omega
  have hrb:r.length<=300:=by omega
  obtain⟨z,hzz⟩:∃ z,shiftZ l tr=z:=⟨_,rfl⟩
  have HZZ:=Lib.hid hzz
  rw [hzz] at hz cH
  have HB2:=Lib.hid hB2;have HSPL:=Lib.hid hspl;have HRL:=Lib.hid hrl
  clear hB2 hspl hrl hca htr hfew hzz cX
  have hNcap:=HN.out.cap
  have hNwd:=HN.out.wd
  obtain⟨un,hun⟩:∃ n,u.length=n:=⟨_,rfl⟩
  have hvS:=HST.out V HN.out.t
  have hvw:=hvS.word
  have hw1:WordAt V _ _:=WordAt.cut hNwd (a:=0) (b:=c) (by omega) hcu hNcap
  have hw2:WordAt V _ _:=WordAt.cut hvw (a:=a) (b:=a+kn) (by omega) (by rw [HWN.out];exact hak) (by rw [HWN.out];exact hcap)
  have hw3:WordAt V _ _:=WordAt.cut hvw (a:=a+kn) (b:=ws.length) (by rw [HWN.out];exact hak) (by omega) (by rw [HWN.out];exact hcap)
  rw [take_zero] at hw1
  rw [show a+kn - a=kn by omega] at hw2
  rw [take_mid rfl,HWN.out] at hw3
  have s1:=fun D=>slice_h (A:=uo) (n:=un) (c:=uc) under_snd size_snd c (by omega) D
  have s2:=fun D=>slice_lh (A:=vo) (n:=wn) (c:=vc) under_snd size_snd a (a+kn) (by omega) (by omega) D
  have s3:=fun D=>slice_l (A:=vo) (n:=wn) (c:=vc) under_snd size_snd (a+kn) (by omega) D
  simp only [Int.natCast_add] at s2 s3
  rw [hz] at s1
  obtain⟨y1,z1,e1,hx1⟩:∃ y z e,sliced uo 0 c uc 2=.slice y z e:=⟨_,_,_,rfl⟩
  obtain⟨y2,z2,e2,hx2⟩:∃ y z e,sliced vo a (a+kn) vc 2=.slice y z e:=⟨_,_,_,rfl⟩
  obtain⟨y3,z3,e3,hx3⟩:∃ y z e,sliced vo (a+kn) wn vc 2=.slice y z e:=⟨_,_,_,rfl⟩
  rw [hx1] at hw1 s1
  rw [hx2] at hw2 s2
  rw [hx3] at hw3 s3
  have hmid:((ws.drop a).take kn).length=kn:=by rw [List.length_take,List.length_drop,HWN.out];omega
  have hputs:=fun(D:World) (hE:Ext V D)=>put_any (hvS.law.2.ext hE) (hw2.ext hE) (by rw [hmid,<-HKN.out];exact HFT.out) (by rw [HMN.out];omega)
  have hpl:=putL_length l ((ws.drop a).take kn)
  rw [HMN.out] at hpl
  have hpok:WdOk (putL l ((ws.drop a).take kn)):=putL_ok hw2.2 HOU.out.2
  obtain⟨M,hM⟩:∃ M,putL l ((ws.drop a).take kn)=M:=⟨_,rfl⟩
  rw [hM] at hputs hr hpl hpok
  have hrok:WdOk r:=by
   rw [hr];intro s hs
   rcases List.mem_append.1 hs with hs | hs
   ·rcases List.mem_append.1 hs with hs | hs
    ·exact hw1.2 s hs
    ·exact hpok s hs
   ·exact hw3.2 s hs
  have HCON:Hid (∀(b5:Nat) (uo:Option Addr) (uc:Nat) (w5:World),w5.ownsRow b5 95 2 (.slice uo mn uc) mn (sndL M)->Ext V w5->Calls Tryz.prog 227 #[.slice (some ⟨w5.heap.size,0,none⟩) 3 3] (w5.alloc (.cells #[.slice y1 z1 e1,.slice uo mn uc,.slice y3 z3 e3] 99)) fun e w'=>∃ u,e=.returned u/\w'.ownsRow (w5.heap.size+1) 95 2 u r.length (sndL r)/\Ext (w5.alloc (.cells #[.slice y1 z1 e1,.slice uo mn uc,.slice y3 z3 e3] 99)) w'):=Lib.hid fun b5 uo uc w5 hO5 hE5=>by
   have hA:Ext w5 (w5.alloc (.cells #[.slice y1 z1 e1,.slice uo mn uc,.slice y3 z3 e3] 99)):=(Turn.refl _ w5).alloc _
   have hr5:=Rd.of_own (own_ext hO5 hA)
   have hc:=concat_any (w:=w5.alloc (.cells #[.slice y1 z1 e1,.slice uo mn uc,.slice y3 z3 e3] 99)) (us:=[u.take c,M,ws.drop (a+kn)]) (F:=r) (by rw [hr];simp) (three_rd (w:=w5))
    (fun j hj=>by
     match j,hj with
     | 0,_=>exact(hw1.ext hE5).ext hA
     | 1,_=>
      show WordAt _ (.slice uo mn uc) M
      exact⟨by rw [hpl];exact hr5,hpok⟩
     | 2,_=>exact(hw3.ext hE5).ext hA) (by omega)
   rw [World.size_alloc] at hc
   exact hc
  have HPUTS:Hid (∀ D,Ext V D->Calls Tryz.prog 228 #[.agg #[.string nm,.int .i64 k1,.int .u32 (p1:Int),.int .u32 (m1:Int),.bool n1,.int .i64 a1,.int .i64 b1,.slice o1 N1 c1,.int .i64 k2,.int .u32 (p2:Int),.int .u32 (m2:Int),.bool n2,.int .i64 a2,.int .i64 b2,.slice o2 N2 c2,.slice io N3 ic,.slice oo N4 oc,.int .i64 md],.slice y2 z2 e2] D fun e w'=>∃ u,e=.returned u/\w'.ownsRow D.heap.size 95 2 u mn (sndL M)/\Ext D w'):=Lib.hid fun D hE=>by
   have:=hputs D hE
   rw [HMN.out] at this
   exact this
  have HROK:=Lib.hid hrok
  have hyv:Y0+1<V.heap.size:=(HN.out.lt _ HN.out.on).2
  have hcs:∀(D:World),Ext V D->D.heap[BL]?=some (.cells #[.string nm,.int .i64 k1,.int .u32 (p1:Int),.int .u32 (m1:Int),.bool n1,.int .i64 a1,.int .i64 b1,.slice o1 N1 c1,.int .i64 k2,.int .u32 (p2:Int),.int .u32 (m2:Int),.bool n2,.int .i64 a2,.int .i64 b2,.slice o2 N2 c2,.slice io N3 ic,.slice oo N4 oc,.int .i64 md] 102 (0,0))/\D.cell? ⟨Y0+1,0,none⟩=some (.slice uo un uc)/\D.cell? ⟨BW,0,none⟩=some (.slice vo wn vc)/\D.cell? ⟨Bk,0,none⟩=some (.int .i64 (kn:Int))/\D.cell? ⟨Y0+3,0,none⟩=some (.int .i64 z):=by
   intro D hD
   have hS:=HST.out D (HN.out.t.trans (Ext.of hD))
   have h0:=cell_of_one (hD.keep HN.out.n)
   rw [hun] at h0
   have h1:=hS.box
   have h2:=hS.bk
   rw [HWN.out] at h1
   rw [HKN.out] at h2
   have h3:=hD.keep H3.out
   rw [HZZ.out] at h3
   exact⟨hS.law.1,h0,cell_of_one h1,cell_of_one h2,cell_of_one h3⟩
  have HS:=Lib.hid hcs
  have HUN:=Lib.hid hun
  clear hw1 hw2 hw3 hputs hpl hpok hM hmid hvS hvw hNwd hNcap hx1 hx2 hx3 hcs hrok hr cH hun
  have hwr1:IntKind.i64.wrap ((a:Int)+z)=(a:Int)+z:=IntWalk.i64_in _ (by omega)
  have hwr2:IntKind.i64.wrap ((a:Int)+(kn:Int))=(a:Int)+(kn:Int):=IntWalk.i64_in _ (by omega)
  refine wpIn_region_late (S:=fun D=>D.heap[BL]?=some (.cells #[.string nm,.int .i64 k1,.int .u32 (p1:Int),.int .u32 (m1:Int),.bool n1,.int .i64 a1,.int .i64 b1,.slice o1 N1 c1,.int .i64 k2,.int .u32 (p2:Int),.int .u32 (m2:Int),.bool n2,.int .i64 a2,.int .i64 b2,.slice o2 N2 c2,.slice io N3 ic,.slice oo N4 oc,.int .i64 md] 102 (0,0))/\D.cell? ⟨Y0+1,0,none⟩=some (.slice uo un uc)/\D.cell? ⟨BW,0,none⟩=some (.slice vo wn vc)/\D.cell? ⟨Bk,0,none⟩=some (.int .i64 (kn:Int))/\D.cell? ⟨Y0+3,0,none⟩=some (.int .i64 z)) [20] (by kernel_rfl) (by kernel_rfl) (by rintro⟨_,_,h⟩;exact h) (HS.out _ (Turn.drew (Turn.refl _ V))) ?_
  intro hS0
  refine tkE (i:=0) (d:=24) (v:=?_) rfl (Or.inl ⟨by rfl,?_⟩) hS0 ?_
  rotate_left
  ·intro w hSw;(try dsimp only at hSw);go_simp;try with_reducible rfl
  try simp only [Act.put,pq]
  refine tkE (i:=1) (d:=25) (v:=?_) rfl (Or.inl ⟨by rfl,?_⟩) hS0 ?_
  rotate_left
  ·intro w hSw;(try dsimp only at hSw);go_simp;try with_reducible rfl
  try simp only [Act.put,pq]
  refine tkE (i:=2) (d:=26) (v:=?_) rfl (Or.inl ⟨by rfl,?_⟩) hS0 ?_
  rotate_left
  ·intro w hSw;(try dsimp only at hSw);go_simp;try with_reducible rfl
  try simp only [Act.put,pq]
  refine tkE (i:=3) (d:=27) (v:=?_) rfl (Or.inl ⟨by rfl,?_⟩) hS0 ?_
  rotate_left
  ·intro w hSw;(try dsimp only at hSw);go_simp;try with_reducible rfl
  try simp only [Act.put,pq]
  refine tkE (i:=4) (d:=28) (v:=?_) rfl (Or.inl ⟨by rfl,?_⟩) hS0 ?_
  rotate_left
  ·intro w hSw;(try dsimp only at hSw);go_simp;try with_reducible rfl
  try simp only [Act.put,pq]
  refine tkE (i:=5) (d:=29) (v:=?_) rfl (Or.inl ⟨by rfl,?_⟩) hS0 ?_
  rotate_left
  ·intro w hSw;(try dsimp only at hSw);have hrow:=hSw.1;refine exec_load_row (x:=.tmp 2) ?_ BL ?_ _ _ _ hrow Tryz.underlying102 Tryz.lawInfo <;> rfl
  try simp only [Act.put,pq]
  refine tkE (i:=6) (d:=30) (v:=?_) rfl (Or.inl ⟨by rfl,?_⟩) hS0 ?_
  rotate_left
  ·intro w hSw;(try dsimp only at hSw);go_simp;try with_reducible rfl
  try simp only [Act.put,pq]
  refine tkE (i:=7) (d:=31) (v:=?_) rfl (Or.inl ⟨by rfl,?_⟩) hS0 ?_
  rotate_left
  ·intro w hSw;(try dsimp only at hSw);go_simp;try with_reducible rfl
  try simp only [Act.put,pq]
  refine tkE (i:=8) (d:=32) (v:=?_) rfl (Or.inl ⟨by rfl,?_⟩) hS0 ?_
  rotate_left
  ·intro w hSw;(try dsimp only at hSw);go_simp;try with_reducible rfl
  try simp only [Act.put,pq]
  refine tkE (i:=9) (d:=33) (v:=?_) rfl (Or.inl ⟨by rfl,?_⟩) hS0 ?_
  rotate_left
  ·intro w hSw;(try dsimp only at hSw);go_simp;try with_reducible rfl
  try simp only [Act.put,pq]
  refine tkE (i:=10) (d:=34) (v:=?_) rfl (Or.inl ⟨by rfl,?_⟩) hS0 ?_
  rotate_left
  ·intro w hSw;(try dsimp only at hSw);go_simp;try with_reducible rfl
  try simp only [Act.put,pq]
  refine tkE (i:=11) (d:=35) (v:=?_) rfl (Or.inl ⟨by rfl,?_⟩) hS0 ?_
  rotate_left
  ·intro w hSw;(try dsimp only at hSw);go_simp;try with_reducible rfl
  try simp only [Act.put,pq]
  refine tkE (i:=13) (d:=37) (v:=?_) rfl (Or.inl ⟨by rfl,?_⟩) hS0 ?_
  rotate_left
  ·intro w hSw;(try dsimp only at hSw);go_simp;try with_reducible rfl
  try simp only [Act.put,pq]
  refine tkE (i:=14) (d:=38) (v:=?_) rfl (Or.inl ⟨by rfl,?_⟩) hS0 ?_
  rotate_left
  ·intro w hSw;(try dsimp only at hSw);go_simp;try with_reducible rfl
  try simp only [Act.put,pq]
  refine tkE (i:=15) (d:=39) (v:=?_) rfl (Or.inl ⟨by rfl,?_⟩) hS0 ?_
  rotate_left
  ·intro w hSw;(try dsimp only at hSw);go_simp;try with_reducible rfl
  try simp only [Act.put,pq]
  refine tkE (i:=16) (d:=40) (v:=?_) rfl (Or.inl ⟨by rfl,?_⟩) hS0 ?_
  rotate_left
  ·intro w hSw;(try dsimp only at hSw);go_simp;try with_reducible rfl
  try simp only [Act.put,pq]
  refine tkE (i:=17) (d:=41) (v:=?_) rfl (Or.inl ⟨by rfl,?_⟩) hS0 ?_
  rotate_left
  ·intro w hSw;(try dsimp only at hSw);go_simp;try with_reducible rfl
  try simp only [Act.put,pq]
  refine wpAnyE_ready (rs:=[12]) (by kernel_rfl) (by simp) ?_
  refine AllReadyE.cons rfl (fun K hK=>?_) AllReadyE.nil
  (try rw [if_pos (show Region.wanted _ _=true from rfl)])
  go_simp
  refine(HPUTS.out _ (Turn.drew (Turn.refl _ V))).mono ?_
  rintro e w5 ⟨u5,rfl,hO5,hN5⟩
  have hE5:Ext V w5:=Turn.trans (Turn.drew (Turn.refl _ V)) hN5
  obtain⟨po,pc,rfl⟩:=own_slice hO5
  refine hK.out _ _ (HS.out _ hE5) (fun hS5=>?_)
  clear hK K
  try simp only [Act.put,pq]
  refine wpAnyE_ready (rs:=[18]) (by kernel_rfl) (by simp) ?_
  refine AllReadyE.cons rfl (fun K hK=>?_) AllReadyE.nil
  (try rw [if_pos (show Region.wanted _ _=true from rfl)])
  go_simp
  have hEA:Ext V (w5.alloc (.cells #[.slice y1 z1 e1,.slice po mn pc,.slice y3 z3 e3] 99)):=hE5.alloc _
  refine hK.out _ _ (HS.out _ hEA) (fun hS6=>?_)
  clear hK K
  try simp only [Act.put,pq]
  refine wpAnyE_ready (rs:=[19]) (by kernel_rfl) (by simp) ?_
  refine AllReadyE.cons rfl (fun K hK=>?_) AllReadyE.nil
  (try rw [if_pos (show Region.wanted _ _=true from rfl)])
  go_simp
  refine(HCON.out _ po pc w5 hO5 hE5).mono ?_
  rintro e w6 ⟨u6,rfl,hO6,hN6⟩
  have hE6:Ext V w6:=Turn.trans hEA hN6
  obtain⟨ro,rc,rfl⟩:=own_slice hO6
  have hE5s:=hE5
  refine hK.out _ _ (HS.out _ hE6) (fun hS7=>?_)
  clear hK K
  try simp only [Act.put,pq]
  refine wpAnyE_ready (rs:=[20]) (by kernel_rfl) (by simp) ?_
  refine AllReadyE.late rfl rfl (fun K hK=>?_) AllReadyE.nil
  (try rw [if_pos (show Region.wanted _ _=true from rfl)])
  have cN:=cell_of_one (hE6.keep HN.out.n)
  have fN:=free_of_one (hE6.keep HN.out.n)
  go_simp
  refine hK.out _ _ ?_
  clear hK K cN fN
  (try change wpAnyE _ _ _ _ _ _ _ _ (Act.put _ none _) _)
  (try simp only [Act.put])
  refine wpAnyE_done (by kernel_rfl) ?_ _
  clear s1 s2 s3 hwr1 hwr2 hS0 hS5 hS6 hS7 HPUTS HCON HS hE5 hEA hN5 hO5
  obtain⟨O3,hP,hP2,hP3⟩:=(HN.out).put2 HKY.out (own_base hO6 (by have:=hE5s.size;omega)) hE6 HROK.out (by decide) HJ.out
  obtain⟨w7,hw7⟩:∃ D,w6.setCell ⟨Y0+1,0,none⟩ (.slice ro r.length rc)=D:=⟨_,rfl⟩
  have hT7:Turn (fun b=>b=Y0+1) w6 w7:=by rw [<-hw7];exact Turn.set1 w6 (Y0+1) 0 _
  rw [hw7] at hP hP3 ⊢
  have hx7:=hT7.heap (hE6.keep H2.out) (by omega)
  have hh7:=hT7.heap (hE6.keep H3.out) (by omega)
  have hVW:Turn (fun b=>b=Y0+1) V w7:=Turn.trans (Ext.of hE6) hT7
  clear hw7 hO6 hE6 hT7 hN6
  rw [HZZ.out] at hh7
  obtain⟨rn,hrn⟩:∃ n,r.length=n:=⟨_,rfl⟩
  rw [hrn] at hrb
  have cN:=cell_of_one hP.n
  rw [hrn] at cN
  have cY:=cell_of_one hP.y
  obtain⟨fn,tmps,assign,body,hy,hYR⟩:=HY.out O3 tr (a,r) rest2 w7 #[.int .i64 (a:Int),.slice ro rn rc] HSPL.out hP.j ⟨ro,rc,by rw [hrn],hP.wd,hP.cap,fun g o n c e h0'=>by obtain⟨q1,q2,q3⟩:=hP3 g o n c e h0';exact⟨q1,by have:=HS4.out;omega,q3⟩⟩
  have HP:=Lib.hid hP;have HYR:=Lib.hid hYR;have HRN:=Lib.hid hrn;have HP2:=Lib.hid hP2;have HP3:=Lib.hid hP3
  clear hP hYR hrn hP2 hP3
  rw [HRN.out]
  gi_wp2
  refine HYR.out.mono ?_
  have hout:∀ b,b<V.heap.size->((K b\/b=Y0+4\/b=Y0+5\/b=Y0+6)\/O b\/b=w4.heap.size\/b=w4.heap.size+1)->K b\/(O3 b/\b≠Y0+1/\b≠Y0+2/\b≠Y0+3):=by
   intro b _ hb
   have hr:=HS4.out
   rcases hb with (hb | hb) | hb | hb
   ·exact .inl hb
   ·exact .inr ⟨HP2.out _ (H5.out _ (by omega) (by omega)),by omega⟩
   ·have:=(HO.out b hb).1
    exact .inr ⟨HP2.out _ (H4.out _ hb),by omega⟩
   ·exact .inr ⟨HP2.out _ (H5.out _ (by omega) (by omega)),by omega⟩
  have HOUT:=Lib.hid hout
  clear hout
  rintro e W3 (⟨rfl,hJ3,hk3⟩ | ⟨rfl,hJx3,hk3⟩)
  ·have hN9:=HP.out.yielded hJ3 hk3
   have hx9:=hk3.heap hx7 (fun h=>h.2 (HP2.out _ (H5.out _ (by omega) (by omega))))
   have hh9:=hk3.heap hh7 (fun h=>h.2 (HP2.out _ (H5.out _ (by omega) (by omega))))
   have hV3:Turn (fun b=>b=Y0+1\/(¬ K b/\¬ O3 b)) V W3:=(hVW.mono fun b _ e=>.inl e).trans (hk3.mono fun b _ h=>.inr h)
   obtain⟨mx,hmx⟩:∃ n,max kn 1=n:=⟨_,rfl⟩
   have hmxi:(if (kn:Int)<1 then(1:Int) else(kn:Int))=(mx:Int):=by split <;> omega
   have hmx4:mx<=4/\1<=mx:=by omega
   have hcs:∀(D:World),Turn (fun b=>b=Y0+2) W3 D->D.cell? ⟨Y0+3,0,none⟩=some (.int .i64 z)/\D.cell? ⟨Bk,0,none⟩=some (.int .i64 (kn:Int))/\D.cell? ⟨Bm,0,none⟩=some (.int .i64 (mn:Int)):=by
    intro D hD
    have hS:=HST.out D (hN9.t.trans (hD.mono fun b _ hb hk=>by have:=HKY.out b hk;omega))
    have h1:=hS.bk
    have h2:=hS.bm
    rw [HKN.out] at h1
    rw [HMN.out] at h2
    exact⟨cell_of_one (hD.heap hh9 (by omega)),cell_of_one h1,cell_of_one h2⟩
   have HS9:=Lib.hid hcs
   have HN9:=Lib.hid hN9;have HMX:=Lib.hid hmx;have HV3:=Lib.hid hV3
   have hs97:=hk3.size
   clear hcs hN9 hmx hV3 hk3 hJ3 hy cN cY hx7 hh7 hVW
   gi_wp2
   have hz1:-300<=z/\z<=300:=by omega
   have hw1:IntKind.i64.wrap (z+(mn:Int))=z+(mn:Int):=IntWalk.i64_in _ (by omega)
   have hw2:IntKind.i64.wrap (z+(mn:Int) - (kn:Int))=z+(mn:Int) - (kn:Int):=IntWalk.i64_in _ (by omega)
   have hw3:IntKind.i64.wrap ((a:Int)+(mx:Int))=(a:Int)+(mx:Int):=IntWalk.i64_in _ (by omega)
   refine wpIn_region_late (S:=fun D=>D.cell? ⟨Y0+3,0,none⟩=some (.int .i64 z)/\D.cell? ⟨Bk,0,none⟩=some (.int .i64 (kn:Int))/\D.cell? ⟨Bm,0,none⟩=some (.int .i64 (mn:Int))) [10] (by kernel_rfl) (by kernel_rfl) (by rintro⟨_,_,h⟩;exact h) (HS9.out _ (Turn.drew (Turn.refl _ W3))) ?_
   intro hS9
   refine tkE (i:=0) (d:=49) (v:=?_) rfl (Or.inl ⟨by rfl,?_⟩) hS9 ?_
   rotate_left
   ·intro w hSw;(try dsimp only at hSw);go_simp;try with_reducible rfl
   try simp only [Act.put,pq]
   refine tkE (i:=1) (d:=50) (v:=?_) rfl (Or.inl ⟨by rfl,?_⟩) hS9 ?_
   rotate_left
   ·intro w hSw;(try dsimp only at hSw);go_simp;try with_reducible rfl
   try simp only [Act.put,pq]
   refine wpAnyE_take (i:=2) (v:=.int .i64 (mx:Int)) rfl (by kernel_rfl) (by kernel_rfl) (by kernel_rfl) (by kernel_rfl) (by kernel_rfl) (fun _ _ _ h=>h) (Or.inl ⟨by rfl,?_⟩) (hS9) ?_
   ·intro w hSw;(try dsimp only at hSw);go_simp;try exact hmxi
   change wpAnyE _ _ _ _ _ _ _ _ (Act.put _ (some 51) _) _
   try simp only [Act.put,pq]
   refine tkE (i:=3) (d:=52) (v:=?_) rfl (Or.inl ⟨by rfl,?_⟩) hS9 ?_
   rotate_left
   ·intro w hSw;(try dsimp only at hSw);go_simp;try with_reducible rfl
   try simp only [Act.put,pq]
   refine tkE (i:=4) (d:=53) (v:=?_) rfl (Or.inl ⟨by rfl,?_⟩) hS9 ?_
   rotate_left
   ·intro w hSw;(try dsimp only at hSw);go_simp;try with_reducible rfl
   try simp only [Act.put,pq]
   refine tkE (i:=5) (d:=54) (v:=?_) rfl (Or.inl ⟨by rfl,?_⟩) hS9 ?_
   rotate_left
   ·intro w hSw;(try dsimp only at hSw);go_simp;try with_reducible rfl
   try simp only [Act.put,pq]
   refine tkE (i:=6) (d:=55) (v:=?_) rfl (Or.inl ⟨by rfl,?_⟩) hS9 ?_
   rotate_left
   ·intro w hSw;(try dsimp only at hSw);go_simp;try with_reducible rfl
   try simp only [Act.put,pq]
   refine tkE (i:=7) (d:=56) (v:=?_) rfl (Or.inl ⟨by rfl,?_⟩) hS9 ?_
   rotate_left
   ·intro w hSw;(try dsimp only at hSw);go_simp;try with_reducible rfl
   try simp only [Act.put,pq]
   refine tkE (i:=8) (d:=57) (v:=?_) rfl (Or.inl ⟨by rfl,?_⟩) hS9 ?_
   rotate_left
   ·intro w hSw;(try dsimp only at hSw);go_simp;try with_reducible rfl
   try simp only [Act.put,pq]
   refine wpAnyE_ready (rs:=[9]) (by kernel_rfl) (by simp) ?_
   refine AllReadyE.cons rfl (fun K hK=>?_) AllReadyE.nil
   (try rw [if_pos (show Region.wanted _ _=true from rfl)])
   have cX9:=cell_of_one hx9
   have fX9:=free_of_one hx9
   go_simp
   refine hK.out _ _ (HS9.out _ ((Turn.set1 W3 (Y0+2) 0 _).drew)) (fun hS10=>?_)
   clear hK K cX9 fX9
   (try change wpAnyE _ _ _ _ _ _ _ _ (Act.put _ none _) _)
   (try simp only [Act.put])
   refine wpAnyE_ready (rs:=[10]) (by kernel_rfl) (by simp) ?_
   refine AllReadyE.late rfl rfl (fun K hK=>?_) AllReadyE.nil
   (try rw [if_pos (show Region.wanted _ _=true from rfl)])
   have cH10:=cell_of_one hh9
   have fH10:=free_of_one hh9
   go_simp
   refine hK.out _ _ ?_
   clear hK K cH10 fH10
   (try change wpAnyE _ _ _ _ _ _ _ _ (Act.put _ none _) _)
   (try simp only [Act.put])
   refine wpAnyE_done (by kernel_rfl) ?_ _
   clear hw1 hw2 hw3 hS9 hS10 hmxi
   have hTF:Turn (fun b=>b=Y0+2\/b=Y0+3) W3 ((W3.setCell ⟨Y0+2,0,none⟩ (.int .i64 ((a:Int)+(mx:Int)))).setCell ⟨Y0+3,0,none⟩ (.int .i64 (z+(mn:Int) - (kn:Int)))).drew:=(((Turn.set1 W3 (Y0+2) 0 _).mono (fun b _ e=>.inl e)).trans ((Turn.set1 _ (Y0+3) 0 _).mono (fun b _ e=>.inr e))).drew
   have hxF:((W3.setCell ⟨Y0+2,0,none⟩ (.int .i64 ((a:Int)+(mx:Int)))).setCell ⟨Y0+3,0,none⟩ (.int .i64 (z+(mn:Int) - (kn:Int)))).drew.heap[Y0+2]?=some (.cells #[.int .i64 ((a:Int)+(mx:Int))] 3 (0,0)):=drew_keep ((Turn.set1 _ (Y0+3) 0 _).heap (cell1_set (W:=W3) _ hx9) (by omega))
   have hhF:((W3.setCell ⟨Y0+2,0,none⟩ (.int .i64 ((a:Int)+(mx:Int)))).setCell ⟨Y0+3,0,none⟩ (.int .i64 (z+(mn:Int) - (kn:Int)))).drew.heap[Y0+3]?=some (.cells #[.int .i64 (z+(mn:Int) - (kn:Int))] 3 (0,0)):=drew_keep (cell1_set _ ((Turn.set1 W3 (Y0+2) 0 _).heap (A:=W3) hh9 (by omega)))
   have hNF:=HN9.out.inner hTF (HP2.out _ (H5.out _ (by omega) (by omega))) (HP2.out _ (H5.out _ (by omega) (by omega))) HJ.out (fun g o n c e h0'=>by have:=(HP3.out g o n c e h0').2.1;have:=HS4.out;omega) HKY.out
   have hB9:=HB2.out
   rw [HKN.out,HMX.out] at hB9
   have HXF:=Lib.hid hxF;have HHF:=Lib.hid hhF;have HNF:=Lib.hid hNF;have HB9:=Lib.hid hB9;have HTF:=Lib.hid hTF
   clear hxF hhF hNF hB9 hTF hx9 hh9
   gi_wp2
   refine⟨((HV3.out.mono fun b _ e=>Or.inl e).trans (HTF.out.mono fun b _ e=>Or.inr e):Turn (fun b=>(b=Y0+1\/¬ K b/\¬ O3 b)\/(b=Y0+2\/b=Y0+3)) V _).mono (fun b hlt hb hk=>?_),O3,tr++[(a,r)],r,ro,rc,a+mx,HNF.out,HB9.out,by rw [Int.natCast_add];exact HXF.out,by rw [shiftZ_succ,HZZ.out,HMN.out,HKN.out];exact HHF.out,fun b hb=>HP2.out _ (H4.out b hb),fun b h1 h2=>HP2.out _ (H5.out b h1 h2),fun g o n c e h0'=>?_⟩
   ·have hY:=HKY.out b
    rcases HOUT.out b hlt hk with h | h
    ·have h1:=hY h
     rcases hb with (hb | hb) | hb
     ·omega
     ·exact hb.1 h
     ·omega
    ·rcases hb with (hb | hb) | hb
     ·omega
     ·exact hb.2 h.1
     ·omega
   ·have h1:=HP3.out g o n c e h0'
    refine⟨by have:=HS4.out;omega,?_⟩
    have h2:=HTF.out.size
    omega
  ·have HJX3:=Lib.hid hJx3
   clear hJx3 hy cN cY
   gi_wp2
   refine⟨(hVW.mono fun b _ e=>Or.inl e:Turn (fun b=>b=Y0+1\/(¬ K b/\¬ O3 b)) V w7).trans (hk3.mono fun b _ h=>Or.inr h) |>.mono (fun b hlt hb hk=>?_),rfl,O3,tr,(a,r),rest2,HSPL.out,HJX3.out,fun b hb=>HP2.out _ (H4.out b hb),fun b h1 h2=>HP2.out _ (H5.out b h1 h2),fun b hb=>Nat.lt_of_lt_of_le (HP.out.lt b hb).2 hk3.size⟩
   have hY:=HKY.out b
   rcases HOUT.out b hlt hk with h | h
   ·have h1:=hY h
    rcases hb with hb | hb
    ·omega
    ·exact hb.1 h
   ·rcases hb with hb | hb
    ·omega
    ·exact hb.2 h.1
end Go.Proofs.YtfdlhlghcbeblaaGreatDoor
set_option maxRecDepth 100000
set_option maxHeartbeats 16000000
namespace Go.Proofs.YtfdlhlghcbeblaaGreatDoor
open Go.RowKit Go.Ab
attribute [local go_sem] Oper.semAt_some wide_fn wide_depth
theorem run_right{w:World}{BW BL Bk Bm:Nat}{l:LawD}{cs:List Value}{vo:Option Addr}{vc:Nat}{ws:Wd}{K:Nat->Prop}(hlaw:lawB l=true)(hmode:l.mode=2)(hwl:ws.length<=32)(hcap:ws.length<=vc)(hkv:KeptIn K (.slice vo ws.length vc))
  (hKw:∀ b,K b->b<w.heap.size) (hst:∀ W,Turn (fun b=>¬ K b) w W->RunSt W BW BL Bk Bm l cs vo vc ws) :
  IterO Tryz.prog 225 #[.pointer (some ⟨BW,0,none⟩),.pointer (some ⟨BL,0,none⟩),.pointer (some ⟨Bk,0,none⟩),.pointer (some ⟨Bm,0,none⟩)] (RunM 2) (RunE 2) (traceL l ws) K w:=by
 intro lp J Jx W ht hJ hJx hY h0
 obtain⟨hk4,hm6,hkm,_,hfits,_,_,_⟩:=lawB_parts hlaw
 have h0st:=hst W ht
 have hmo:=h0st.law.box.mode
 rw [hmode] at hmo
 obtain⟨wn,hwn⟩:∃ n,ws.length=n:=⟨_,rfl⟩
 have cW:=cell_of_one h0st.box
 rw [hwn] at cW hwl hcap hkv
 have HKV:=Lib.hid hkv
 have HWN:=Lib.hid hwn;have HST:=Lib.hid hst;have HFT:=Lib.hid hfits;have HMO:=Lib.hid hmode;have HJ:=Lib.hid hJ;have HY:=Lib.hid hY;have HJ0:=Lib.hid h0;have HT0:=Lib.hid ht
 have H0ST:=Lib.hid h0st
 obtain⟨kn,hkn⟩:∃ n,l.ifs.length=n:=⟨_,rfl⟩
 obtain⟨mn,hmn⟩:∃ n,l.outs.length=n:=⟨_,rfl⟩
 rw [hkn] at hk4 hkm
 rw [hmn] at hm6 hkm
 have HKN:=Lib.hid hkn;have HMN:=Lib.hid hmn
 clear hst hfits hmode hJ hJx hY h0 ht h0st hlaw hwn hkv hkn hmn
 show Calls _ _ #[.func (.yield lp) #[] #[],.pointer (some ⟨BW,0,none⟩),.pointer (some ⟨BL,0,none⟩),.pointer (some ⟨Bk,0,none⟩),.pointer (some ⟨Bm,0,none⟩)] _ _
 go_enter Tryz.func225,Tryz.ntmps225
 have hL0:=H0ST.out.law.box.mode
 rw [HMO.out] at hL0
 go_upto_region 1 with (fail)
 obtain⟨w1,hw1⟩:∃ D,W.alloc (.cells #[.func (.yield lp) #[] #[]] 266)=D:=⟨_,rfl⟩
 have hE1:Ext W w1:=by rw [<-hw1];exact(Turn.refl _ W).alloc _
 have hY1:w1.heap[W.heap.size]?=some (.cells #[.func (.yield lp) #[] #[]] 266 (0,0)):=by rw [<-hw1];exact new_at rfl
 have hs1:w1.heap.size=W.heap.size+1:=by rw [<-hw1];simp
 rw [hw1]
 obtain⟨Y0,hY0⟩:∃ b,W.heap.size=b:=⟨_,rfl⟩
 rw [hY0] at hY1 hs1 ⊢
 have hj:=HJ.out;have hyy:=HY.out
 rw [hY0] at hj hyy
 have HJW:=HJ
 have HJ:=Lib.hid hj;have HY:=Lib.hid hyy
 clear hj hyy
 have HKY:Hid (∀ b,K b->b<Y0):=Lib.hid fun b hb=>by have:=hKw b hb;have:=HT0.out.size;omega
 have HY0:=Lib.hid hY0;have HS1:=Lib.hid hs1
 clear hKw
 have cW:=hE1.cell_some cW id
 clear hw1 hY0 hs1 hmo
 go_upto_region 2 with (fail)
 rw [HS1.out]
 obtain⟨w2,hw2⟩:∃ D,w1.alloc (.cells #[.slice vo wn vc] 99)=D:=⟨_,rfl⟩
 have hE2:Ext w1 w2:=by rw [<-hw2];exact(Turn.refl _ w1).alloc _
 have hN2:SlBox w2 (Y0+1) (.slice vo wn vc):=by rw [<-hw2];exact new_at HS1.out.symm
 have hs2:w2.heap.size=Y0+2:=by rw [<-hw2];simp [HS1.out]
 have hY2:=hE2.keep hY1
 rw [hw2]
 have hE12:=hE1.trans hE2
 have hmd:=hE12.cell_some hL0 id
 have HS2:=Lib.hid hs2
 clear hw2 cW hY1 hE1 hE2 hL0 hs2
 have hJ2:=HJ.out _ (fun b=>b=Y0\/b=Y0+1) [] _ _ HJ0.out (Ext.of hE12) (fun b hb=>by have:=HY0.out;have:=HS2.out;omega)
 have HJ2:=Lib.hid hJ2
 have hT2:Turn (fun b=>¬ K b) w w2:=HT0.out.trans (Ext.of hE12)
 clear hJ2
 go_wp2
 have HT2:=Lib.hid hT2;have HY2:=Lib.hid hY2;have HN2:=Lib.hid hN2
 clear hT2 hY2 hN2 hmd
 refine wp_loop (fun a V=>∃(O:Nat->Prop) (tr:List (Nat × Wd)) (u:Wd) (i:Nat) (uo:Option Addr) (uc:Nat),a.defers=[]/\(a.tmps.size=117/\a.tmps.getD 0 undef=.func (.yield lp) #[] #[]/\a.tmps.getD 1 undef=.pointer (some ⟨BW,0,none⟩)/\a.tmps.getD 2 undef=.pointer (some ⟨BL,0,none⟩)/\a.tmps.getD 3 undef=.pointer (some ⟨Bk,0,none⟩)/\a.tmps.getD 4 undef=.pointer (some ⟨Bm,0,none⟩)/\a.tmps.getD 5 undef=.pointer (some ⟨Y0,0,none⟩)/\a.tmps.getD 6 undef=.pointer (some ⟨Y0+1,0,none⟩)/\a.tmps.getD 10 undef=.int .i64 i)/\RightAt l ws tr u i/\RunNow w V K O J Y0 lp tr u uo uc)
  (fun a V=>boxLen V (Y0+1)+1 - (intOf (a.tmps.getD 10 undef)).toNat) ?_ ?_
 ·refine⟨(fun b=>b=Y0\/b=Y0+1),[],ws,0,vo,vc,rfl,⟨rfl,rfl,rfl,rfl,rfl,rfl,rfl,rfl,rfl⟩,.start HMO.out,⟨HJ2.out,.inl rfl,.inr rfl,fun b hb=>by have:=HS2.out;omega,HT2.out,HY2.out,?_,?_,?_,?_⟩⟩
  ·rw [HWN.out];exact HN2.out
  ·exact H0ST.out.word.ext hE12
  ·rw [HWN.out];exact hcap
  ·rw [HWN.out];exact fun g o n c e h0'=>.inl (HKV.out g o n c e h0')
 clear HJ2 HJ0 HT2 HY2 HN2 H0ST hE12 HT0 HY0 HS1 HS2 hcap HKV
 rintro⟨t,_⟩ V ⟨O,tr,u',i,uo,uc,hds,⟨hsz,f0,f1,f2,f3,f4,f5,f6,f10⟩,hR,hN⟩
 obtain⟨uw,rfl⟩:∃ x,x=u':=⟨_,rfl⟩
 subst hds
 obtain⟨u',hu⟩:=frame_fun hsz
 obtain⟨u,rfl⟩:∃ x,x=u':=⟨_,rfl⟩
 have hu':t=#[u 0,u 1,u 2,u 3,u 4,u 5,u 6,u 7,u 8,u 9,u 10,u 11,u 12,u 13,u 14,u 15,u 16,u 17,u 18,u 19,u 20,u 21,u 22,u 23,u 24,u 25,u 26,u 27,u 28,u 29,u 30,u 31,u 32,u 33,u 34,u 35,u 36,u 37,u 38,u 39,u 40,u 41,u 42,u 43,u 44,u 45,u 46,u 47,u 48,u 49,u 50,u 51,u 52,u 53,u 54,u 55,u 56,u 57,u 58,u 59,u 60,u 61,u 62,u 63,u 64,u 65,u 66,u 67,u 68,u 69,u 70,u 71,u 72,u 73,u 74,u 75,u 76,u 77,u 78,u 79,u 80,u 81,u 82,u 83,u 84,u 85,u 86,u 87,u 88,u 89,u 90,u 91,u 92,u 93,u 94,u 95,u 96,u 97,u 98,u 99,u 100,u 101,u 102,u 103,u 104,u 105,u 106,u 107,u 108,u 109,u 110,u 111,u 112,u 113,u 114,u 115,u 116]:=hu
 clear hu
 subst hu'
 change u 0=_ at f0
 change u 1=_ at f1
 change u 2=_ at f2
 change u 3=_ at f3
 change u 4=_ at f4
 change u 5=_ at f5
 change u 6=_ at f6
 change u 10=_ at f10
 rw [f0,f1,f2,f3,f4,f5,f6,f10]
 clear f0 f1 f2 f3 f4 f5 f6 f10 hsz
 have hst:=HST.out V hN.t
 obtain⟨un,hun⟩:∃ n,uw.length=n:=⟨_,rfl⟩
 have hbl:=boxLen_eq hN.n
 have cN:=cell_of_one hN.n
 have cY:=cell_of_one hN.y
 have ck:=cell_of_one hst.bk
 have cm:=cell_of_one hst.bm
 rw [HKN.out] at ck
 rw [HMN.out] at cm
 rw [hun] at cN hbl
 have hfew:=few (t:=tr.length) (n:=ws.length+1) (m:=mn) (by have:=hR.2.1;omega) hm6 (by rw [HWN.out];omega)
 have hul:un<=230:=by
  have h1:=hR.2.2.1
  rw [HMN.out,hun,HWN.out] at h1
  omega
 have hil:=hR.2.2.2
 rw [hun] at hil
 have HUN:=Lib.hid hun;have HBL:=Lib.hid hbl;have HR:=Lib.hid hR;have HN:=Lib.hid hN;have HS:=Lib.hid hst
 clear hun hbl hR hN hst hfew
 by_cases hle:i+kn<=un
 case neg=>
  have h1:¬ ((i:Int)+(kn:Int)<=(un:Int)):=by omega
  have hd:=HR.out.done (by rw [HUN.out,HKN.out];omega)
  have HD:=Lib.hid hd
  clear hd cm cY
  go_wp2
  go_end0
  exact⟨⟨_,rfl⟩,O,.inl (by rw [HD.out];exact HN.out.j)⟩
 have h1:(i:Int)+(kn:Int)<=(un:Int):=by omega
 go_upto_region 14 with (fail)
 obtain⟨hL1,hL2⟩:=HS.out.law
 obtain⟨nm,k1,p1,m1,n1,a1,b1,o1,N1,c1,k2,p2,m2,n2,a2,b2,o2,N2,c2,io,N3,ic,oo,N4,oc,md,rfl,HLA,HPL,HPR,HIF,HOU,HNM,HN1,HN2,HN3,HN4,HMD,q0,q1,q2,q3,q4⟩:=law_gen hL2
 have hwd:=HN.out.wd
 have hhit:=hit_any hL2 hwd HS.out.tab i (by rw [HUN.out];exact hil) (by rw [HUN.out,HKN.out];omega)
 rw [HUN.out] at hhit hwd
 obtain⟨hb,hhb⟩:∃ b,hitL l uw i=b:=⟨_,rfl⟩
 rw [hhb] at hhit
 have HH:=Lib.hid hhit;have HHB:=Lib.hid hhb;have HL1:=Lib.hid hL1;have HWD:=Lib.hid hwd;have HL2:=Lib.hid hL2
 clear hhit hhb hL1 hL2 hwd ck cm cY
 go_wp2_with (first | (refine wpList_load_row rfl 102 (.tmp 2) rfl BL rfl _ _ _ _ HL1.out Tryz.underlying102 rfl Tryz.lawInfo ?_) | fail)
 refine HH.out.mono ?_
 rintro e V1 ⟨rfl,hE1⟩
 have hN1:=HN.out.ext hE1 HJ.out
 have hS1:=HST.out V1 hN1.t
 cases hb
 case false=>
  have hR1:=HR.out.miss (by rw [HUN.out,HKN.out];exact hle) HHB.out
  have HR1:=Lib.hid hR1;have HN1:=Lib.hid hN1
  have hbl:=boxLen_eq hN1.n
  rw [HUN.out] at hbl
  have HB1:=Lib.hid hbl
  clear hR1 hN1 hS1 HH hE1 cN hbl
  go_wp2
  refine⟨⟨O,tr,uw,i+1,uo,uc,by first | rfl | trivial,⟨rfl,rfl,rfl,rfl,rfl,rfl,rfl,rfl,rfl⟩,HR1.out,HN1.out⟩,?_⟩
  rw [HBL.out,HB1.out];simp [intOf];omega
 have cN:=cell_of_one hN1.n
 rw [HUN.out] at cN
 have hw1:=hN1.wd
 rw [HUN.out] at hw1
 have hrep:=replace_any hS1.law.2 hw1 HUN.out (by have:=hN1.cap;rw [HUN.out] at this;exact this) i (by rw [HKN.out];exact hle) HFT.out (by rw [HMN.out];omega) (by omega)
 have hL1:=hS1.law.1
 have hwok:WdOk (replL l uw i):=by
  have h1:=hw1.2
  intro s hs
  unfold replL repl at hs
  rcases List.mem_append.1 hs with hs | hs
  ·rcases List.mem_append.1 hs with hs | hs
   ·exact h1 s (List.mem_of_mem_take hs)
   ·exact putL_ok (fun x hx=>h1 x (List.mem_of_mem_drop (List.mem_of_mem_take hx))) HOU.out.2 s hs
  ·exact h1 s (List.mem_of_mem_drop hs)
 have HREP:=Lib.hid hrep;have HL1':=Lib.hid hL1;have HN1:=Lib.hid hN1;have HWOK:=Lib.hid hwok
 obtain⟨hR2,rest,hspl⟩:=HR.out.hit HHB.out
 have HR2:=Lib.hid hR2;have HSPL:=Lib.hid hspl
 clear hrep hL1 hN1 hS1 hw1 hwok hR2 hspl HH hE1
 go_upto_region 17 with (first | (refine wpList_load_row rfl 102 (.tmp 2) rfl BL rfl _ _ _ _ HL1'.out Tryz.underlying102 rfl Tryz.lawInfo ?_) | (go_at_call 230;refine HREP.out.mono ?_;rintro e V2 ⟨ru,rfl,hO2,hE2⟩;obtain⟨ro,rc,rfl⟩:=own_slice hO2;have cN2:=cell_of_one (hE2.keep HN1.out.n);have fN2:=free_of_one (hE2.keep HN1.out.n)))
 obtain⟨O2,hP,_,hP3⟩:=(HN1.out).put2 HKY.out hO2 hE2 HWOK.out (Nat.le_refl 2) HJ.out
 have hv2:=(HN1.out.lt _ HN1.out.on).2
 obtain⟨V3,hV3⟩:∃ D,V2.setCell ⟨Y0+1,0,none⟩ (.slice ro (replL l uw i).length rc)=D:=⟨_,rfl⟩
 rw [hV3] at hP hP3 ⊢
 clear hV3 hO2 hE2 cN cN2 fN2 HREP HL1' HL1 HN1 HWOK HL2 HWD HN HS
 obtain⟨r,hr⟩:∃ r,replL l uw i=r:=⟨_,rfl⟩
 rw [hr] at hP hP3 HR2 HSPL
 have hlr:=replL_length (l:=l) (u:=uw) (i:=i) (by rw [HUN.out,HKN.out];exact hle)
 rw [hr,HUN.out,HKN.out,HMN.out] at hlr
 rw [hr]
 obtain⟨rn,hrn⟩:∃ n,r.length=n:=⟨_,rfl⟩
 rw [hrn] at hlr
 have cN:=cell_of_one hP.n
 rw [hrn] at cN
 have cY:=cell_of_one hP.y
 obtain⟨fn,tmps,assign,body,hy,hYR⟩:=HY.out O2 tr (i,r) rest V3 #[.int .i64 (i:Int),.slice ro rn rc] HSPL.out hP.j ⟨ro,rc,by rw [hrn],hP.wd,hP.cap,fun g o n c e h0'=>by obtain⟨q1,q2,q3⟩:=hP3 g o n c e h0';exact⟨q1,by omega,q3⟩⟩
 clear hP3 hv2
 have HP:=Lib.hid hP;have HYR:=Lib.hid hYR;have HRN:=Lib.hid hrn
 clear hP hYR hrn hr HHB
 rw [HRN.out]
 refine(wpIn_wide (n:=0)).1 ?_
 gi_wp2
 refine HYR.out.mono ?_
 rintro e W3 (⟨rfl,hJ3,hk3⟩ | ⟨rfl,hJx3,_⟩)
 ·have hN3:=HP.out.yielded hJ3 hk3
  have hS3:=HST.out W3 hN3.t
  have ck:=cell_of_one hS3.bk
  have cm:=cell_of_one hS3.bm
  rw [HKN.out] at ck
  rw [HMN.out] at cm
  have hbl:=boxLen_eq hN3.n
  rw [HRN.out] at hbl
  have HN3:=Lib.hid hN3;have HB3:=Lib.hid hbl
  clear hN3 hS3 hbl hy cN cY hJ3 hk3
  have hr3:=HR2.out
  rw [HKN.out,HMN.out] at hr3
  have HR3:=Lib.hid hr3
  clear hr3
  by_cases hk0:kn=0
  ·subst hk0
   gi_wp2
   go_wp2
   refine⟨⟨O2,tr++[(i,r)],r,i+mn+1,ro,rc,by first | rfl | trivial,⟨rfl,rfl,rfl,rfl,rfl,rfl,rfl,rfl,rfl⟩,HR3.out,HN3.out⟩,?_⟩
   rw [HBL.out,HB3.out];simp [intOf];omega
  ·have hk1:((kn:Int) == 0)=false:=by rw [beq_eq_false_iff_ne];omega
   have hr4:=HR3.out
   rw [if_neg hk0,Nat.add_zero] at hr4
   have HR4:=Lib.hid hr4
   clear hr4
   gi_wp2
   go_wp2
   refine⟨⟨O2,tr++[(i,r)],r,i+mn,ro,rc,by first | rfl | trivial,⟨rfl,rfl,rfl,rfl,rfl,rfl,rfl,rfl,rfl⟩,HR4.out,HN3.out⟩,?_⟩
   rw [HBL.out,HB3.out];simp [intOf];omega
 ·have HJX:=Lib.hid hJx3
  clear hJx3 hy
  gi_wp2
  go_wp2
  refine bodyPost_ret (results_none rfl _ _ _) rfl ?_
  exact⟨⟨_,rfl⟩,O2,.inr ⟨tr,(i,r),rest,HSPL.out,HJX.out⟩⟩
end Go.Proofs.YtfdlhlghcbeblaaGreatDoor
