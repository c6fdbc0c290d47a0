/- PLAIN: the laws of chapter 8: lengths, the first replacement, laws for each sound alone. PLAIN: derivations: laws, one after the other. order.start (printed by genords.py). PLAIN: a valid law makes valid words of valid words. PLAIN: the text of a word: different ones for different words. PLAIN: what sounds become between two words, and which ones become the same. order.check (printed by genordk.py). -/
import Derived.Test.YtfdlhlghcbeblaaGreatDoorG18
import Derived.Test.YtfdlhlghcbeblaaGreatDoorG14
import Derived.Test.YtfdlhlghcbeblaaGreatDoorG09
import Derived.Test.YtfdlhlghcbeblaaGreatDoorG17
namespace Go.Proofs.YtfdlhlghcbeblaaGreatDoor
open Go.RowKit Go.Ab
abbrev emptyPat:Pat:=.node 0 0 0 false 0 0 []
def aloneF(l:LawD)(s:Nat × Nat):Wd:=if satV s (l.ifs.getD 0 (0,0))=true then putL l [s] else [s]
end Go.Proofs.YtfdlhlghcbeblaaGreatDoor
namespace Go.Proofs.YtfdlhlghcbeblaaGreatDoor
open Go.RowKit Go.Ab
def derO:List LawD→Wd→Option Wd
 | [],w=>some w
 | l::ls,w=>if trE l w=0 then derO ls (appL l w) else none
def lawsE(ls:List LawD):Int:=if 64<ls.length then 12 else if ls.all lawB=true then 0 else 17
def lwsE(ls:List LawD)(w:Wd):Int:=if lawsE ls=0 then wE w else lawsE ls
def derE(ls:List LawD)(w:Wd):Int:=if lwsE ls w=0 then(if (derO ls w).isSome=true then 0 else 11) else lwsE ls w
def derW(ls:List LawD)(w:Wd):Wd:=if lwsE ls w=0 then(derO ls w).getD [] else []
end Go.Proofs.YtfdlhlghcbeblaaGreatDoor
set_option maxRecDepth 100000
set_option maxHeartbeats 16000000
namespace Go.Proofs.YtfdlhlghcbeblaaGreatDoor
open Go.RowKit Go.Ab
attribute [local go_sem] Oper.semAt_some wide_fn wide_depth
abbrev PairsL:=List ((Wd × Wd) × List Value)
def startC(qs:PairsL):List Value:=qs.flatMap fun q=>[q.2.getD 0 undef,.bool false]
def startS(qs:PairsL):List (Option Wd × List Value):=qs.map fun q=>(some q.1.1,[q.2.getD 0 undef,.bool false])
theorem infoSt:(Tryz.prog.info? 240).map (fun i=>(i.zero,i.size,i.bytes))=some (some (.agg #[.slice none 0 0,.bool false]),2,32):=by kernel_rfl
theorem startC_succ{qs:PairsL}{k:Nat}(h:k<qs.length):startC (qs.take (k+1))=startC (qs.take k)++[qs[k].2.getD 0 undef,.bool false]:=by
 rw [List.take_succ_eq_append_getElem h];unfold startC;rw [List.flatMap_append];rfl
theorem start_states{w:World}{v:Value}{qs:PairsL}{n:Nat}{e:TypeId}{b:Nat}(hn:qs.length=n)(h:w.ownsRow b e 2 v n (startC qs)) (hq:∀ q∈qs,PairOk w q.1 q.2):StatesAt w v (startS qs):=by
 refine⟨?_,fun p hp=>?_⟩
 ·have hr:=Rd.of_own h
  have e1:(startS qs).length=n:=by unfold startS;rw [List.length_map,hn]
  have e2:(startS qs).flatMap (·.2)=startC qs:=by unfold startS startC;rw [List.flatMap_map]
  rw [e1,e2];exact hr
 ·obtain⟨q,hqm,rfl⟩:=List.mem_map.1 hp
  obtain⟨u,v,h1,⟨ao,c,rfl,h2,h3⟩,_⟩:=hq q hqm
  refine⟨rfl,ao,_,c,by rw [h1];rfl,fun x hx=>?_⟩
  cases hx
  exact⟨ao,c,rfl,h2,h3⟩
theorem start_any{w:World}{qs:PairsL}{po:Option Addr}{n pc:Nat}(hp:PairsAt w (.slice po n pc) qs) (hn:qs.length=n) (hb:n≤1000) :
  Calls Tryz.prog 135 #[.slice po n pc] w fun e w'=>∃ ao c,e=.returned (.slice ao n c)∧w'.ownsRow w.heap.size 240 2 (.slice ao n c) n (startC qs)∧Ext w w':=by
 have HP:=Lib.hid hp;have HN:=Lib.hid hn
 clear hp hn
 go_enter Tryz.func135,Tryz.ntmps135
 go_wp2
 refine wp_loop (fun a W=>∃(k:Nat) (ao:Option Addr) (c:Nat),k≤n∧a.defers=[]∧(a.tmps.size=20∧a.tmps.getD 3 undef=.slice ao k c∧a.tmps.getD 6 undef=.slice po n pc∧a.tmps.getD 7 undef=.int .i64 n∧a.tmps.getD 8 undef=.int .i64 k)∧W.ownsRow w.heap.size 240 2 (.slice ao k c) k (startC (qs.take k))∧Ext w W)
  (fun a _=>((n:Int) - intOf (a.tmps.getD 8 undef)).toNat) ?_ ?_
 ·exact⟨0,none,0,by omega,rfl,⟨rfl,rfl,rfl,rfl,rfl⟩,World.ownsRow_nil _ _ _ _,Turn.refl _ _⟩
 rintro⟨t,_⟩ W ⟨k,ao,c,hk,hds,⟨hsz,f3,f6,f7,f8⟩,ho,hE⟩
 subst hds
 obtain⟨u',hu⟩:=frame_fun hsz
 obtain⟨u,rfl⟩:∃ x,x=u':=⟨_,rfl⟩
 have hu':t=#[u 0,u 1,u 2,u 3,u 4,u 5,u 6,u 7,u 8,u 9,u 10,u 11,u 12,u 13,u 14,u 15,u 16,u 17,u 18,u 19]:=hu
 clear hu
 subst hu'
 change u 3=_ at f3
 change u 6=_ at f6
 change u 7=_ at f7
 change u 8=_ at f8
 rw [f3,f6,f7,f8]
 clear f3 f6 f7 f8 hsz
 have HO:=Lib.hid ho
 clear ho
 by_cases hkN:k<n
 ·have h1:(k:Int)<(n:Int):=by omega
  have h0:(0:Int)≤(k:Int):=by omega
  have hkl:k<qs.length:=by rw [HN.out];exact hkN
  obtain⟨g,off,c',hq,hrg,⟨u,v,hcs,hu,hv⟩,_⟩:=StrAt.at (pairs_ext HP.out hE) hkl
  replace hq:=hq (by decide)
  obtain⟨hq,hg⟩:=hq
  simp only [Value.slice.injEq] at hq
  obtain⟨rfl,hz,rfl⟩:=hq
  clear hz
  have hsn:=startC_succ hkl
  rw [hcs] at hrg hsn
  obtain⟨fo,fc,rfl,_⟩:=hu
  obtain⟨qo,qc,rfl,_⟩:=hv
  obtain⟨fl,hfl⟩:∃ x,qs[k].1.1.length=x:=⟨_,rfl⟩
  obtain⟨tl,htl⟩:∃ x,qs[k].1.2.length=x:=⟨_,rfl⟩
  rw [hfl] at hrg hsn
  rw [htl] at hrg hsn
  have d0:=hrg 0 _ rfl
  have d1:=hrg 1 _ rfl
  rw [Nat.add_zero] at d0
  have hwk:IntKind.i64.wrap ((k:Int)+1)=(k:Int)+1:=IntWalk.i64_in _ (by omega)
  have HSN:=Lib.hid hsn
  clear hsn hrg hcs hfl htl
  go_wp2_with (at_builtin;refine append_row rfl (.tmp 12) (.tmp 16) 178 rfl w.heap.size 240 _ 2 32 Tryz.underlying178 @infoSt rfl (by decide) _ _ _ rfl (own_ext HO.out (((Turn.refl _ W).alloc _).alloc _)) ⟨W.heap.size+1,0,none⟩ 1 1 [.slice fo fl fc,.bool false] rfl rfl (new_cells' (by simp)) (by intro x hx;simp at hx;rcases hx with rfl | rfl <;> rfl) (by unfold maxLen;omega) (by omega) (Nat.le_trans hE.size (Turn.size (Turn.alloc (Turn.alloc (Turn.refl (fun _=>False) W) _) _))) ?_)
  intro ao' c2 W2 hO2 hT2 hB2
  have hE2:Ext w W2:=Turn.after (hE.trans (((Turn.refl _ W).alloc _).alloc _)) hT2 (fun b hb e=>by have:=(HO.out.lt _ e).1;omega)
  have HO2:=Lib.hid hO2;have HE2:=Lib.hid hE2
  clear hO2 hE2 hT2 hB2 hE d0 d1
  go_wp2
  exact⟨⟨k+1,ao',c2,by omega,by first | rfl | trivial,⟨rfl,rfl,rfl,rfl,rfl⟩,by rw [HSN.out];exact HO2.out,HE2.out⟩,by first | (simp [intOf];done) | (simp [intOf];omega)⟩
 ·obtain rfl:k=n:=by omega
  have h1:¬ (k:Int)<(k:Int):=by omega
  have hfin:qs.take k=qs:=List.take_of_length_le (by rw [HN.out];exact Nat.le_refl _)
  have ho:=HO.out
  rw [hfin] at ho
  have HO2:=Lib.hid ho
  clear ho hfin HO
  go_wp2
  go_ret
  exact⟨ao,c,rfl,HO2.out,hE⟩
end Go.Proofs.YtfdlhlghcbeblaaGreatDoor
namespace Go.Proofs.YtfdlhlghcbeblaaGreatDoor
open Go.RowKit Go.Ab
section
variable {α:Type} {H:List α→Nat→Bool} {P:List α→List α} {k m:Nat} {p:α→Prop}
end
abbrev okW(s:Nat × Nat):Prop:=lt32 s∧okS s=true
end Go.Proofs.YtfdlhlghcbeblaaGreatDoor
namespace Go.Proofs.YtfdlhlghcbeblaaGreatDoor
open Go.RowKit Go.Ab
def byt(n i:Nat):UInt8:=UInt8.ofNat (n / 2 ^ (8*i))
def sndB(s:Nat × Nat):List UInt8:=[byt s.1 0,byt s.2 0,byt s.1 1,byt s.2 1,byt s.1 2,byt s.2 2,byt s.1 3,byt s.2 3]
def textL(u:Wd):List UInt8:=u.flatMap sndB
def textB(u:Wd):ByteArray:=⟨(textL u).toArray⟩
end Go.Proofs.YtfdlhlghcbeblaaGreatDoor
namespace Go.Proofs.YtfdlhlghcbeblaaGreatDoor
open Go.RowKit Go.Ab
def joinW(a b:Wd)(s:Nat × Nat):Wd:=a++[s]++b
def frameE(ls:List LawD)(a b:Wd):Int:=if lawsE ls=0 then(if wE a=0 then wE b else wE a) else lawsE ls
def outE(ls:List LawD)(a b:Wd)(s:Nat × Nat):Int:=if frameE ls a b=0 then(if okS s=true then derE ls (joinW a b s) else 14) else frameE ls a b
def outW(ls:List LawD)(a b:Wd)(s:Nat × Nat):Wd:=if frameE ls a b=0 then(if okS s=true then derW ls (joinW a b s) else []) else []
def sndsE(ss:Wd)(most:Nat):Int:=if most<ss.length then 12 else if ss.all okS=true then(if ss.Nodup then 0 else 6) else 14
def firstE:List Int→Int
 | []=>0
 | e::l=>if e=0 then firstE l else e
def outsE(ls:List LawD)(a b ss:Wd):Int:=if frameE ls a b=0 then(if sndsE ss 64=0 then firstE (ss.map fun s=>derE ls (joinW a b s)) else sndsE ss 64) else frameE ls a b
def outsW(ls:List LawD)(a b ss:Wd):List Wd:=if outsE ls a b ss=0 then ss.map fun s=>derW ls (joinW a b s) else []
def mergedL(l:List Wd):List Nat:=l.map fun w=>l.idxOf w
def lastAt(pl:List Wd)(w:Wd):Nat→Int
 | 0=>-1
 | n+1=>if pl.getD n []=w then(n:Int) else lastAt pl w n
def shiftL(l pl:List Wd):List Int:=l.map fun w=>lastAt pl w pl.length
theorem firstE_take{l:List Int}{n:Nat}(hn:n<l.length)(h:firstE (l.take n)=0):firstE (l.take (n+1))=l[n]:=by
 induction l generalizing n with
 | nil=>cases hn
 | cons e l ih=>
  cases n with
  | zero=>simp only [Nat.zero_add,List.take_succ_cons,List.take_zero,List.getElem_cons_zero];unfold firstE;split <;> rename_i h0 <;> simp [firstE,h0]
  | succ n=>
   rw [List.take_succ_cons] at h ⊢
   unfold firstE at h ⊢
   split at h
   ·rename_i h0
    rw [if_pos h0,List.getElem_cons_succ]
    exact ih (by simpa using hn) h
   ·contradiction
theorem firstE_stop{l:List Int}{n:Nat}(hn:n<l.length)(h:firstE (l.take n)=0) (h0:l[n]≠0):firstE l=l[n]:=by
 induction l generalizing n with
 | nil=>cases hn
 | cons e l ih=>
  cases n with
  | zero=>rw [List.getElem_cons_zero] at h0 ⊢;unfold firstE;rw [if_neg h0]
  | succ n=>
   rw [List.take_succ_cons] at h
   unfold firstE at h ⊢
   split at h
   ·rename_i h1
    rw [if_pos h1,List.getElem_cons_succ]
    exact ih (by simpa using hn) h (by simpa using h0)
   ·contradiction
end Go.Proofs.YtfdlhlghcbeblaaGreatDoor
set_option maxRecDepth 100000
set_option maxHeartbeats 16000000
namespace Go.Proofs.YtfdlhlghcbeblaaGreatDoor
open Go.RowKit Go.Ab
attribute [local go_sem] Oper.semAt_some wide_fn wide_depth
def wpE(q:Wd × Wd):Int:=if wE q.1=0 then wE q.2 else wE q.1
def ordE(LD:List LawD)(QS:List (Wd × Wd)):Int:=if 6<LD.length then 12 else if LD.all lawB=true then(if 32<QS.length then 12 else firstE (QS.map wpE)) else 17
def okTo(ps:LawsL)(k:Nat):Prop:=(ps.take k).all (fun p=>lawB p.1)=true
def fineTo(QS:List (Wd × Wd)) (k:Nat):Prop:=firstE ((QS.map wpE).take k)=0
def inTo(A B:Int)(i:Nat):Prop:=(1≤i→A=0)∧(2≤i→B=0)
theorem okTo_succ{ps:LawsL}{k:Nat}(hk:k<ps.length)(h:okTo ps k)(h1:lawB ps[k].1=true):okTo ps (k+1):=by
 unfold okTo at *
 rw [List.take_succ_eq_append_getElem hk,List.all_append,h];simp [h1]
theorem okTo_bad{ps:LawsL}{k:Nat}(hk:k<ps.length)(h1:lawB ps[k].1=false):(ps.map (·.1)).all lawB=false:=by
 rw [List.all_map,List.all_eq_false]
 exact⟨_,List.getElem_mem hk,by simp [h1]⟩
theorem okTo_all{ps:LawsL}{k:Nat}(hk:ps.length≤k)(h:okTo ps k):(ps.map (·.1)).all lawB=true:=by
 unfold okTo at h
 rw [List.take_of_length_le hk] at h
 rw [List.all_map];exact h
theorem ocheck_any{w:World}{ps:LawsL}{qs:PairsL}{lo:Option Addr}{n lc:Nat}{po:Option Addr}{m pc:Nat}(hl:LawsAt w (.slice lo n lc) ps) (hn:ps.length=n) (hp:PairsAt w (.slice po m pc) qs) (hm:qs.length=m) (hT:Tab w) :
  Calls Tryz.prog 89 #[.slice lo n lc,.slice po m pc] w fun e w'=>e=.returned (.int .i64 (ordE (ps.map (·.1)) (qs.map (·.1))))∧Ext w w':=by
 have hck:=fun(V:World) (hE:Ext w V) (l:LawD) (cs:List Value) (h:LawAt V l cs)=>lcheck_any h (hT.keep hE id)
 obtain⟨RE,hRE⟩:∃ x,ordE (ps.map (·.1)) (qs.map (·.1))=x:=⟨_,rfl⟩
 rw [hRE]
 have r1:6<n→RE=12:=fun h=>by rw [← hRE];unfold ordE;rw [if_pos (by rw [List.length_map,hn];exact h)]
 have r2:¬ 6<n→∀ k (hk:k<ps.length),lawB ps[k].1=false→RE=17:=fun h k hk h1=>by rw [← hRE];unfold ordE;rw [if_neg (by rw [List.length_map,hn];exact h),okTo_bad hk h1];rfl
 have r3:¬ 6<n→okTo ps n→32<m→RE=12:=fun h h1 h2=>by rw [← hRE];unfold ordE;rw [if_neg (by rw [List.length_map,hn];exact h),okTo_all (by omega) h1,if_pos rfl,if_pos (by rw [List.length_map,hm];exact h2)]
 have r4:¬ 6<n→okTo ps n→¬ 32<m→RE=firstE ((qs.map (·.1)).map wpE):=fun h h1 h2=>by rw [← hRE];unfold ordE;rw [if_neg (by rw [List.length_map,hn];exact h),okTo_all (by omega) h1,if_pos rfl,if_neg (by rw [List.length_map,hm];exact h2)]
 have hnm:n≤maxLen:=by rw [← hn];exact hl.1.2.1
 have hmm:m≤maxLen:=by rw [← hm];exact hp.1.2.1
 unfold maxLen at hnm hmm
 have HCK:=Lib.hid hck;have HL:=Lib.hid hl;have HN:=Lib.hid hn;have HP:=Lib.hid hp;have HM:=Lib.hid hm;have R1:=Lib.hid r1;have R2:=Lib.hid r2;have R3:=Lib.hid r3;have R4:=Lib.hid r4
 clear hck hl hn hp hm hT hRE r1 r2 r3 r4
 go_enter Tryz.func89,Tryz.ntmps89
 by_cases h6:6<n
 case pos=>
  have h1:(n:Int) > 6:=by omega
  have hre:RE=12:=R1.out h6
  subst hre
  go_wp2
  go_ret
  exact⟨rfl,Turn.refl _ _⟩
 have h61:¬ (n:Int) > 6:=by omega
 have H6:=Lib.hid h6
 clear h6
 go_wp2
 refine wp_loop (fun a W=>∃(k:Nat),k≤n∧a.defers=[]∧(a.tmps.size=51∧a.tmps.getD 1 undef=.slice po m pc∧a.tmps.getD 15 undef=.slice lo n lc∧a.tmps.getD 16 undef=.int .i64 n∧a.tmps.getD 17 undef=.int .i64 k)∧okTo ps k∧Ext w W)
  (fun a _=>((n:Int) - intOf (a.tmps.getD 17 undef)).toNat) ?_ ?_
 ·exact⟨0,by omega,rfl,⟨rfl,rfl,rfl,rfl,rfl⟩,by simp [okTo],Turn.refl _ _⟩
 rintro⟨t,_⟩ W ⟨k,hk,hds,⟨hsz,f1,f15,f16,f17⟩,hok,hE⟩
 subst hds
 obtain⟨u',hu⟩:=frame_fun hsz
 obtain⟨u,rfl⟩:∃ x,x=u':=⟨_,rfl⟩
 have hu':t=#[u 0,u 1,u 2,u 3,u 4,u 5,u 6,u 7,u 8,u 9,u 10,u 11,u 12,u 13,u 14,u 15,u 16,u 17,u 18,u 19,u 20,u 21,u 22,u 23,u 24,u 25,u 26,u 27,u 28,u 29,u 30,u 31,u 32,u 33,u 34,u 35,u 36,u 37,u 38,u 39,u 40,u 41,u 42,u 43,u 44,u 45,u 46,u 47,u 48,u 49,u 50]:=hu
 clear hu
 subst hu'
 change u 1=_ at f1
 change u 15=_ at f15
 change u 16=_ at f16
 change u 17=_ at f17
 rw [f1,f15,f16,f17]
 clear f1 f15 f16 f17 hsz
 have HOK:=Lib.hid hok;have HE:=Lib.hid hE
 clear hok hE
 by_cases hkN:k<n
 case pos=>
  have h1:(k:Int)<(n:Int):=by omega
  have h0:(0:Int)≤(k:Int):=by omega
  have hkl:k<ps.length:=by rw [HN.out];exact hkN
  obtain⟨g,off,c9,hq,hg,hrg,hla,h18⟩:=(HL.out.ext HE.out).at hkl
  simp only [Value.slice.injEq] at hq
  obtain⟨rfl,hq2,rfl⟩:=hq
  have hr2:=R2.out H6.out k hkl
  have hos:=fun h=>okTo_succ hkl HOK.out h
  obtain⟨p,hpe⟩:∃ p,ps[k]=p:=⟨_,rfl⟩
  rw [hpe] at hrg hla h18 hr2
  simp only [hpe] at hos
  obtain⟨pl,pcs⟩:=p
  dsimp only at hrg hla h18 hr2 hos
  obtain⟨nm,k1,p1,m1,n1,a1,b1,o1,N1,c1,k2,p2,m2,n2,a2,b2,o2,N2,c2,io,N3,ic,oo,N4,oc,md,hcs,HLA,HPL,HPR,HIF,HOU,HNM,HN1,HN2,HN3,HN4,HMD,q0,q1,q2,q3,q4⟩:=law_gen hla
  subst hcs
  have hwk:IntKind.i64.wrap ((k:Int)+1)=(k:Int)+1:=IntWalk.i64_in _ (by omega)
  obtain⟨bb,hbb⟩:∃ b,lawB pl=b:=⟨_,rfl⟩
  have hle:lawE pl=if bb=true then 0 else 17:=by unfold lawE;rw [hbb]
  rw [hbb] at hr2
  simp only [hbb] at hos
  have HRG:=Lib.hid hrg;have HR2:=Lib.hid hr2;have HOS:=Lib.hid hos;have HLE:=Lib.hid hle
  clear hq2 hpe hla h18 hrg hr2 hos hle hbb HPL HPR HIF HOU HNM HN1 HN2 HN3 HN4 HMD HOK hg
  obtain⟨V1,hV1⟩:∃ D,W.alloc (.cells #[.string nm,.int .i64 k1,.int .u32 (p1:Int),.int .u32 (m1:Int),.bool n1,.int .i64 a1,.int .i64 b1,.slice o1 N1 c1,.int .i64 k2,.int .u32 (p2:Int),.int .u32 (m2:Int),.bool n2,.int .i64 a2,.int .i64 b2,.slice o2 N2 c2,.slice io N3 ic,.slice oo N4 oc,.int .i64 md] 102)=D:=⟨_,rfl⟩
  have hN1:Ext W V1:=by rw [← hV1];exact(Turn.refl _ W).alloc _
  have hx1:V1.heap[W.heap.size]?=some (.cells #[.string nm,.int .i64 k1,.int .u32 (p1:Int),.int .u32 (m1:Int),.bool n1,.int .i64 a1,.int .i64 b1,.slice o1 N1 c1,.int .i64 k2,.int .u32 (p2:Int),.int .u32 (m2:Int),.bool n2,.int .i64 a2,.int .i64 b2,.slice o2 N2 c2,.slice io N3 ic,.slice oo N4 oc,.int .i64 md] 102 (0,0)):=by rw [← hV1];exact new_at rfl
  obtain⟨X,hX⟩:∃ x,W.heap.size=x:=⟨_,rfl⟩
  rw [hX] at hx1
  have HX1:=Lib.hid hx1;have HV1:=Lib.hid hV1
  clear hx1 hV1
  go_upto_region 6 with (refine wpList_load_at (by rfl) 102 (.tmp 19) rfl g (off+k*18) (by first | rfl | simp) _ _ HRG.out Tryz.underlying102 rfl (by kernel_rfl) ?_)
  rw [HV1.out]
  have hc:=HCK.out V1 (HE.out.trans hN1) _ _ (HLA.out.ext hN1)
  rw [HLE.out] at hc
  have HC:=Lib.hid hc;have HE1:=Lib.hid (HE.out.trans hN1);have HX0:=Lib.hid hX
  clear hc hN1 hX HV1 HRG HLA
  go_wp2_with (refine wpList_load_row rfl 102 (.tmp 6) rfl X rfl _ _ _ _ HX1.out Tryz.underlying102 rfl Tryz.lawInfo ?_)
  refine HC.out.mono ?_
  rintro e V2 ⟨rfl,hN2⟩
  have HE2:=Lib.hid (HE1.out.trans hN2)
  clear hN2 HC HX1 HE1
  cases bb with
  | true=>
   have hos:=HOS.out rfl
   have HOS2:=Lib.hid hos
   clear hos
   go_wp2
   exact⟨⟨k+1,by omega,by first | rfl | trivial,⟨rfl,rfl,rfl,rfl,rfl⟩,HOS2.out,HE2.out⟩,by first | (simp [intOf];done) | (simp [intOf];omega)⟩
  | false=>
   have hre:RE=17:=HR2.out (by first | trivial | rfl)
   subst hre
   go_wp2
   go_ret
   exact⟨rfl,HE2.out⟩
 obtain rfl:k=n:=by omega
 have h1:¬ (k:Int)<(k:Int):=by omega
 by_cases h32:32<m
 case pos=>
  have h2:(m:Int) > 32:=by omega
  have hre:RE=12:=R3.out H6.out HOK.out h32
  subst hre
  go_wp2
  go_ret
  exact⟨rfl,HE.out⟩
 have h2:¬ (m:Int) > 32:=by omega
 have hre:=R4.out H6.out HOK.out h32
 have HRE:=Lib.hid hre
 clear hre R1 R2 R3 R4 H6 HOK h61
 go_wp2
 refine wp_loop (fun a W=>∃(j:Nat),j≤m∧a.defers=[]∧(a.tmps.size=51∧a.tmps.getD 28 undef=.slice po m pc∧a.tmps.getD 29 undef=.int .i64 m∧a.tmps.getD 30 undef=.int .i64 j)∧fineTo (qs.map (·.1)) j∧Ext w W)
  (fun a _=>((m:Int) - intOf (a.tmps.getD 30 undef)).toNat) ?_ ?_
 ·exact⟨0,by omega,rfl,⟨rfl,rfl,rfl,rfl⟩,rfl,HE.out⟩
 clear HE HCK HL
 rintro⟨t,_⟩ V ⟨j,hj,hds,⟨hsz,f28,f29,f30⟩,hfi,hE⟩
 subst hds
 obtain⟨u',hu⟩:=frame_fun hsz
 obtain⟨u,rfl⟩:∃ x,x=u':=⟨_,rfl⟩
 have hu':t=#[u 0,u 1,u 2,u 3,u 4,u 5,u 6,u 7,u 8,u 9,u 10,u 11,u 12,u 13,u 14,u 15,u 16,u 17,u 18,u 19,u 20,u 21,u 22,u 23,u 24,u 25,u 26,u 27,u 28,u 29,u 30,u 31,u 32,u 33,u 34,u 35,u 36,u 37,u 38,u 39,u 40,u 41,u 42,u 43,u 44,u 45,u 46,u 47,u 48,u 49,u 50]:=hu
 clear hu
 subst hu'
 change u 28=_ at f28
 change u 29=_ at f29
 change u 30=_ at f30
 rw [f28,f29,f30]
 clear f28 f29 f30 hsz
 have HFI:=Lib.hid hfi;have HE:=Lib.hid hE
 clear hfi hE
 have hlq:((qs.map (·.1)).map wpE).length=m:=by rw [List.length_map,List.length_map,HM.out]
 by_cases hjm:j<m
 case neg=>
  obtain rfl:j=m:=by omega
  have h3:¬ (j:Int)<(j:Int):=by omega
  have hz:RE=0:=by
   rw [HRE.out]
   have:=HFI.out
   unfold fineTo at this
   rwa [List.take_of_length_le (by omega)] at this
  subst hz
  clear hlq
  go_wp2
  go_ret
  exact⟨rfl,HE.out⟩
 have h3:(j:Int)<(m:Int):=by omega
 have h0:(0:Int)≤(j:Int):=by omega
 have hjl:j<qs.length:=by rw [HM.out];exact hjm
 have hgj:((qs.map (·.1)).map wpE)[j]'(by omega)=wpE qs[j].1:=by rw [List.getElem_map,List.getElem_map]
 have hfq:firstE (((qs.map (fun(q:(Wd × Wd) × List Value)=>q.1)).map wpE).take j)=0:=HFI.out
 have hft:=firstE_take (l:=(qs.map (fun(q:(Wd × Wd) × List Value)=>q.1)).map wpE) (n:=j) (by omega) hfq
 have hfs:=firstE_stop (l:=(qs.map (fun(q:(Wd × Wd) × List Value)=>q.1)).map wpE) (n:=j) (by omega) hfq
 rw [hgj] at hft hfs
 obtain⟨g,off,c',hq,hrg,⟨u,v,hcs,hu,hv⟩,zz2⟩:=StrAt.at (pairs_ext HP.out HE.out) hjl
 replace hq:=hq (by decide)
 obtain⟨hq,hg⟩:=hq
 simp only [Value.slice.injEq] at hq
 obtain⟨rfl,hz,rfl⟩:=hq
 rw [hcs] at hrg
 obtain⟨fo,fc,rfl,huw,zz3⟩:=hu
 obtain⟨qo,qc,rfl,hvw,zz4⟩:=hv
 have d0:=hrg 0 _ rfl
 have d1:=hrg 1 _ rfl
 rw [Nat.add_zero] at d0
 obtain⟨A,hA⟩:∃ x,wE qs[j].1.1=x:=⟨_,rfl⟩
 obtain⟨Bv,hB⟩:∃ x,wE qs[j].1.2=x:=⟨_,rfl⟩
 have hwv:wpE qs[j].1=if A=0 then Bv else A:=by unfold wpE;rw [hA,hB]
 rw [hwv] at hft hfs
 have ha:A≠0→RE=A:=fun h=>by rw [if_neg h] at hfs;rw [HRE.out];exact hfs h
 have hb:A=0→Bv≠0→RE=Bv:=fun h h'=>by rw [if_pos h] at hfs;rw [HRE.out];exact hfs h'
 have hok2:A=0→Bv=0→fineTo (qs.map (·.1)) (j+1):=fun h h'=>by rw [if_pos h,h'] at hft;exact hft
 have hw1:=fun(D:World) (hD:Ext V D)=>wcheck_any (huw.ext hD)
 have hw2:=fun(D:World) (hD:Ext V D)=>wcheck_any (hvw.ext hD)
 simp only [hA] at hw1
 simp only [hB] at hw2
 obtain⟨fl,hfl⟩:∃ x,qs[j].1.1.length=x:=⟨_,rfl⟩
 obtain⟨tl,htl⟩:∃ x,qs[j].1.2.length=x:=⟨_,rfl⟩
 rw [hfl] at d0
 rw [htl] at d1
 simp only [hfl] at hw1
 simp only [htl] at hw2
 have HA:=Lib.hid ha;have HB:=Lib.hid hb;have HK2:=Lib.hid hok2;have HW1:=Lib.hid hw1;have HW2:=Lib.hid hw2
 have hwk:IntKind.i64.wrap ((j:Int)+1)=(j:Int)+1:=IntWalk.i64_in _ (by omega)
 clear hlq hgj hft hfs hfq hz zz2 zz3 zz4 hcs hrg huw hvw hA hB hwv ha hb hok2 hw1 hw2 hfl htl hg hjl HFI
 go_upto_region 14 with (fail)
 obtain⟨W1,hW1⟩:∃ D,V.alloc (.cells #[.slice fo fl fc,.slice qo tl qc] 105)=D:=⟨_,rfl⟩
 have hN1:Ext V W1:=by rw [← hW1];exact(Turn.refl _ V).alloc _
 have hX1:W1.heap[V.heap.size]?=some (.cells #[.slice fo fl fc,.slice qo tl qc] 105 (0,0)):=by rw [← hW1];exact new_at rfl
 rw [hW1]
 obtain⟨X,hX⟩:∃ x,V.heap.size=x:=⟨_,rfl⟩
 rw [hX] at hX1 ⊢
 have cX:=fun j=>cell_of_row _ _ j _ _ _ hX1
 have HN1:=Lib.hid hN1;have HX0:=Lib.hid hX
 clear hW1 hX1 hX hN1 d0 d1
 go_wp2
 obtain⟨W2,hW2⟩:∃ D,W1.alloc (.cells #[.slice fo fl fc,.slice qo tl qc] 99)=D:=⟨_,rfl⟩
 have hN2:Ext V W2:=by rw [← hW2];exact HN1.out.trans ((Turn.refl _ W1).alloc _)
 have hY2:W2.heap[W1.heap.size]?=some (.cells #[.slice fo fl fc,.slice qo tl qc] 99 (0,0)):=by rw [← hW2];exact new_at rfl
 rw [hW2]
 obtain⟨Y,hY⟩:∃ x,W1.heap.size=x:=⟨_,rfl⟩
 rw [hY] at hY2 ⊢
 have HN2:=Lib.hid hN2;have HY2:=Lib.hid hY2
 clear hW2 hN2 hY2 hY cX HN1
 refine wp_loop (fun a D=>∃(i:Nat),i≤2∧a.defers=[]∧(a.tmps.size=51∧a.tmps.getD 28 undef=.slice (some ⟨g,off,none⟩) m pc∧a.tmps.getD 29 undef=.int .i64 m∧a.tmps.getD 30 undef=.int .i64 j∧a.tmps.getD 38 undef=.slice (some ⟨Y,0,none⟩) 2 2∧a.tmps.getD 39 undef=.int .i64 2∧a.tmps.getD 40 undef=.int .i64 i)∧D.heap[Y]?=some (.cells #[.slice fo fl fc,.slice qo tl qc] 99 (0,0))∧inTo A Bv i∧Ext V D)
  (fun a _=>(2 - intOf (a.tmps.getD 40 undef)).toNat) ?_ ?_
 ·exact⟨0,by omega,rfl,⟨rfl,rfl,rfl,rfl,rfl,rfl,rfl⟩,HY2.out,⟨fun h=>by omega,fun h=>by omega⟩,HN2.out⟩
 clear HN2 HY2
 rintro⟨t,_⟩ D ⟨i,hi,hds,⟨hsz,f28,f29,f30,f38,f39,f40⟩,hYD,hin,hVD⟩
 subst hds
 obtain⟨u',hu⟩:=frame_fun hsz
 obtain⟨u,rfl⟩:∃ x,x=u':=⟨_,rfl⟩
 have hu':t=#[u 0,u 1,u 2,u 3,u 4,u 5,u 6,u 7,u 8,u 9,u 10,u 11,u 12,u 13,u 14,u 15,u 16,u 17,u 18,u 19,u 20,u 21,u 22,u 23,u 24,u 25,u 26,u 27,u 28,u 29,u 30,u 31,u 32,u 33,u 34,u 35,u 36,u 37,u 38,u 39,u 40,u 41,u 42,u 43,u 44,u 45,u 46,u 47,u 48,u 49,u 50]:=hu
 clear hu
 subst hu'
 change u 28=_ at f28
 change u 29=_ at f29
 change u 30=_ at f30
 change u 38=_ at f38
 change u 39=_ at f39
 change u 40=_ at f40
 rw [f28,f29,f30,f38,f39,f40]
 clear f28 f29 f30 f38 f39 f40 hsz
 have HYD:=Lib.hid hYD;have HIN:=Lib.hid hin;have HVD:=Lib.hid hVD
 clear hYD hin hVD
 by_cases hi2:i=2
 ·subst hi2
  have hk3:=HK2.out (HIN.out.1 (by omega)) (HIN.out.2 (by omega))
  have HK3:=Lib.hid hk3;have HE3:=Lib.hid (HE.out.trans HVD.out)
  clear hk3 HK2 HIN HVD HYD HW1 HW2 HA HB
  go_wp2
  exact⟨⟨j+1,by omega,by first | rfl | trivial,⟨rfl,rfl,rfl,rfl⟩,HK3.out,HE3.out⟩,by first | (simp [intOf];done) | (simp [intOf];omega)⟩
 have cY:=fun j=>cell_of_row _ _ j _ _ _ HYD.out
 by_cases hi0:i=0
 ·subst hi0
  clear hi2
  go_wp2_with fail
  refine(HW1.out _ HVD.out).mono ?_
  rintro e D2 ⟨rfl,hN3⟩
  have hY3:=hN3.keep HYD.out
  have HY3:=Lib.hid hY3;have HV3:=Lib.hid (HVD.out.trans hN3)
  clear hY3 hN3 cY HYD HVD HW1
  by_cases hA0:A=0
  ·subst hA0
   have hin1:inTo 0 Bv 1:=⟨fun _=>rfl,fun h=>by omega⟩
   have HI1:=Lib.hid hin1
   clear hin1 HIN HA
   go_wp2
   exact⟨⟨1,by omega,by first | rfl | trivial,⟨rfl,rfl,rfl,rfl,rfl,rfl,rfl⟩,HY3.out,HI1.out,HV3.out⟩,by simp [intOf]⟩
  ·have h9:(A != 0)=true:=by rw [bne_iff_ne];exact hA0
   have hre:RE=A:=HA.out hA0
   subst hre
   have HE3:=Lib.hid (HE.out.trans HV3.out)
   clear HA HB HK2 HIN HW2 HY3 HV3
   go_wp2
   go_ret
   exact⟨rfl,HE3.out⟩
 ·obtain rfl:i=1:=by omega
  clear hi2 hi0
  have hA0:A=0:=HIN.out.1 (by omega)
  subst hA0
  go_wp2_with fail
  refine(HW2.out _ HVD.out).mono ?_
  rintro e D2 ⟨rfl,hN3⟩
  have hY3:=hN3.keep HYD.out
  have HY3:=Lib.hid hY3;have HV3:=Lib.hid (HVD.out.trans hN3)
  clear hY3 hN3 cY HYD HVD HW2
  by_cases hB0:Bv=0
  ·subst hB0
   have hin1:inTo 0 0 2:=⟨fun _=>rfl,fun _=>rfl⟩
   have HI1:=Lib.hid hin1
   clear hin1 HIN HB
   go_wp2
   exact⟨⟨2,by omega,by first | rfl | trivial,⟨rfl,rfl,rfl,rfl,rfl,rfl,rfl⟩,HY3.out,HI1.out,HV3.out⟩,by simp [intOf]⟩
  ·have h9:(Bv != 0)=true:=by rw [bne_iff_ne];exact hB0
   have hre:RE=Bv:=HB.out (by first | trivial | rfl) hB0
   subst hre
   have HE3:=Lib.hid (HE.out.trans HV3.out)
   clear HA HB HK2 HIN HW1 HY3 HV3
   go_wp2
   go_ret
   exact⟨rfl,HE3.out⟩
end Go.Proofs.YtfdlhlghcbeblaaGreatDoor
