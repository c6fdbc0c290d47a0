/- ablautlaw14.Light, valid (printed by genlightw.py). -/
import Derived.Test.YtfdlhlghcbeblaaGreatDoorH39
import Derived.Test.YtfdlhlghcbeblaaGreatDoorH40
set_option maxRecDepth 100000
set_option maxHeartbeats 16000000
namespace Go.Proofs.YtfdlhlghcbeblaaGreatDoor
open Go.RowKit Go.Ab
attribute [local go_sem] Oper.semAt_some wide_fn wide_depth
def LigO(n:Nat)(lv pv:Value)(w:World)(a:Act)(W:World):Prop:=∃(i z:Nat),i<=n/\i<=7/\z<=82*i/\a.defers=[]/\(a.tmps.size=85/\a.tmps.getD 0 undef=lv/\a.tmps.getD 1 undef=pv/\a.tmps.getD 5 undef=.int .i64 z/\a.tmps.getD 6 undef=.int .i64 i)/\Ext w W
def LigK(m z:Nat)(lv pv:Value)(w:World)(a:Act)(W:World):Prop:=∃(k:Nat),k<=m/\a.defers=[]/\(a.tmps.size=85/\a.tmps.getD 0 undef=lv/\a.tmps.getD 1 undef=pv/\a.tmps.getD 5 undef=.int .i64 z/\a.tmps.getD 7 undef=.int .i64 k)/\Ext w W
def SomeB(w:World)(e:Ending)(w':World):Prop:=∃ b:Bool,e=.returned (.bool b)/\Ext w w'
theorem light_any{w:World}{ps:LawsL}{qs:PairsL}{lo:Option Addr}{n lc:Nat}{po:Option Addr}{m pc:Nat}(hl:LawsAt w (.slice lo n lc) ps) (hn:ps.length=n) (hp:PairsAt w (.slice po m pc) qs) (hm:qs.length=m) :
  Calls Tryz.prog 32 #[.slice lo n lc,.slice po m pc] w (SomeB w):=by
 have hnm:n<=maxLen:=by rw [<-hn];exact hl.1.2.1
 have hmm:m<=maxLen:=by rw [<-hm];exact hp.1.2.1
 unfold maxLen at hnm hmm
 have hre:=fun(V:World) (hE:Ext w V)=>reps_any (hl.ext hE) hn
 have HL:=Lib.hid hl;have HN:=Lib.hid hn;have HP:=Lib.hid hp;have HM:=Lib.hid hm;have HRE:=Lib.hid hre
 clear hl hn hp hm hre
 go_enter Tryz.func32,Tryz.ntmps32
 by_cases hbad:(4<n/\n<=6)\/(5<m/\m<=32)
 ·clear HL HP HRE
  by_cases h1:4<n/\n<=6
  ·have g1:(n:Int) > 4:=by omega
   have g2:(n:Int)<=6:=by omega
   go_wp2
   go_ret
   exact⟨false,rfl,Turn.refl _ _⟩
  ·have h2:5<m/\m<=32:=hbad.resolve_left h1
   have g3:(m:Int) > 5:=by omega
   have g4:(m:Int)<=32:=by omega
   by_cases h3:4<n
   ·have g1:(n:Int) > 4:=by omega
    have g2:¬ (n:Int)<=6:=by omega
    go_wp2
    go_ret
    exact⟨false,rfl,Turn.refl _ _⟩
   ·have g1:¬ (n:Int) > 4:=by omega
    go_wp2
    go_ret
    exact⟨false,rfl,Turn.refl _ _⟩
 rw [not_or] at hbad
 have hn2:n<=4\/6<n:=by omega
 have hm2:m<=5\/32<m:=by omega
 clear hbad
 rcases hn2 with hn2 | hn2
 ·have g1:¬ (n:Int) > 4:=by omega
  have g2:True:=trivial
  rcases hm2 with hm2 | hm2
  ·have g3:¬ (m:Int) > 5:=by omega
   have g4:True:=trivial
   go_wp2
   refine wp_loop (LigO n (.slice lo n lc) (.slice po m pc) w) (fun a _=>((n:Int) - intOf (a.tmps.getD 6 undef)).toNat) ?_ ?_
   ·exact⟨0,0,by omega,by omega,by omega,rfl,⟨rfl,rfl,rfl,rfl,rfl⟩,Turn.refl _ _⟩
   clear g1 g2 g3 g4
   rintro⟨t,_⟩ W ⟨i,z,hi,hi7,hz,hds,⟨hsz,f0,f1,f5,f6⟩,hE⟩
   subst hds
   obtain⟨u',hu⟩:=frame_fun hsz
   obtain⟨u,rfl⟩:∃ x,x=u':=⟨_,rfl⟩
   have hu':t=#[u 0,u 1,u 2,u 3,u 4,u 5,u 6,u 7,u 8,u 9,u 10,u 11,u 12,u 13,u 14,u 15,u 16,u 17,u 18,u 19,u 20,u 21,u 22,u 23,u 24,u 25,u 26,u 27,u 28,u 29,u 30,u 31,u 32,u 33,u 34,u 35,u 36,u 37,u 38,u 39,u 40,u 41,u 42,u 43,u 44,u 45,u 46,u 47,u 48,u 49,u 50,u 51,u 52,u 53,u 54,u 55,u 56,u 57,u 58,u 59,u 60,u 61,u 62,u 63,u 64,u 65,u 66,u 67,u 68,u 69,u 70,u 71,u 72,u 73,u 74,u 75,u 76,u 77,u 78,u 79,u 80,u 81,u 82,u 83,u 84]:=hu
   clear hu
   subst hu'
   change u 0=_ at f0
   change u 1=_ at f1
   change u 5=_ at f5
   change u 6=_ at f6
   rw [f0,f1,f5,f6]
   clear f0 f1 f5 f6 hsz
   have HE:=Lib.hid hE
   clear hE
   by_cases hin:i<n/\i<=6
   case pos=>
    obtain⟨hin,hi6⟩:=hin
    have h1:(i:Int)<(n:Int):=by omega
    have h0:(0:Int)<=(i:Int):=by omega
    have h2:(i:Int)<=6:=by omega
    have hil:i<ps.length:=by rw [HN.out];exact hin
    obtain⟨g,off,c',hq,hg,hrg,hla,h18⟩:=(HL.out.ext HE.out).at hil
    simp only [Value.slice.injEq] at hq
    obtain⟨rfl,hzz,rfl⟩:=hq
    obtain⟨x,hx⟩:∃ x,ps[i]=x:=⟨_,rfl⟩
    rw [hx] at hrg hla h18
    obtain⟨xl,cs⟩:=x
    dsimp only at hrg hla h18
    clear hx hzz h18 HL HRE HP
    obtain⟨nm,k1,p1,m1,n1,a1,b1,o1,N1,c1,k2,p2,m2,n2,a2,b2,o2,N2,c2,io,N3,ic,oo,N4,oc,md,rfl,HLA,HPL,HPR,HIF,HOU,HNM,HN1,HN2,HN3,HN4,HMD,q0,q1,q2,q3,q4⟩:=law_gen hla
    have hlg:W.rangeAt g (off+i*18+1) [.int .i64 k1,.int .u32 (p1:Int),.int .u32 (m1:Int),.bool n1,.int .i64 a1,.int .i64 b1,.slice o1 N1 c1]:=range_sub hrg 1 7
    have hrrg:W.rangeAt g (off+i*18+8) [.int .i64 k2,.int .u32 (p2:Int),.int .u32 (m2:Int),.bool n2,.int .i64 a2,.int .i64 b2,.slice o2 N2 c2]:=range_sub hrg 8 7
    have hc1:=fun(D:World) (hD:Ext W D)=>refsize_any (HPL.out.ext hD)
    have hc2:=fun(D:World) (hD:Ext W D)=>refsize_any (HPR.out.ext hD)
    have hs1:sizeP xl.left<=41:=by rw [sizeP_tot];omega
    have hs2:sizeP xl.right<=41:=by rw [sizeP_tot];omega
    obtain⟨s1,e1⟩:∃ q,sizeP xl.left=q:=⟨_,rfl⟩
    obtain⟨s2,e2⟩:∃ q,sizeP xl.right=q:=⟨_,rfl⟩
    simp only [e1] at hc1 hs1
    simp only [e2] at hc2 hs2
    obtain⟨z1,hz1⟩:∃ q,z+s1=q:=⟨_,rfl⟩
    obtain⟨z2,hz2⟩:∃ q,z1+s2=q:=⟨_,rfl⟩
    have hwk1:IntKind.i64.wrap ((z:Int)+(s1:Int))=(z1:Int):=by rw [IntWalk.i64_in _ (by omega)];omega
    have hwk2:IntKind.i64.wrap ((z1:Int)+(s2:Int))=(z2:Int):=by rw [IntWalk.i64_in _ (by omega)];omega
    have hzf:z2<=82*(i+1):=by omega
    have HLG:=Lib.hid hlg;have HRG:=Lib.hid hrrg;have HC1:=Lib.hid hc1;have HC2:=Lib.hid hc2
    clear hlg hrrg hrg hc1 hc2 e1 e2 hz1 hz2 HIF HOU HLA HNM HN1 HN2 HN3 HN4 HMD HPL HPR hla
    go_upto_region 7 with (fail)
    have hS0:Ext W W.drew:=(Turn.refl _ W).drew
    refine wp_region_late (S:=fun D=>Ext W D) [] (by kernel_rfl) hS0 ?_
    intro _
    obtain⟨V,hV⟩:∃ D,W.drew=D:=⟨_,rfl⟩
    rw [hV] at hS0 ⊢
    clear hV
    refine tkE (i:=0) (d:=36) (v:=?_) rfl (Or.inl ⟨by rfl,?_⟩) hS0 ?_
    rotate_left
    ·intro w hSw;(try dsimp only at hSw);go_simp;try with_reducible rfl
    try simp only [Act.put,pq]
    refine tkE (i:=1) (d:=37) (v:=?_) rfl (Or.inl ⟨by rfl,?_⟩) hS0 ?_
    rotate_left
    ·intro w hSw;(try dsimp only at hSw);go_simp;try with_reducible rfl
    try simp only [Act.put,pq]
    refine tkE (i:=2) (d:=38) (v:=?_) rfl (Or.inl ⟨by rfl,?_⟩) hS0 ?_
    rotate_left
    ·intro w hSw;(try dsimp only at hSw);go_simp;try with_reducible rfl
    try simp only [Act.put,pq]
    refine tkE (i:=3) (d:=39) (v:=?_) rfl (Or.inl ⟨by rfl,?_⟩) hS0 ?_
    rotate_left
    ·intro w hSw;(try dsimp only at hSw);go_simp;try with_reducible rfl
    try simp only [Act.put,pq]
    refine tkE (i:=4) (d:=40) (v:=?_) rfl (Or.inl ⟨by rfl,?_⟩) hS0 ?_
    rotate_left
    ·intro w hSw;(try dsimp only at hSw);go_simp;try with_reducible rfl
    try simp only [Act.put,pq]
    refine tkE (i:=5) (d:=41) (v:=?_) rfl (Or.inl ⟨by rfl,?_⟩) hS0 ?_
    rotate_left
    ·intro D hD;refine exec_load_at (x:=.tmp 40) ?_ g (off+i*18+1) ?_ [.int .i64 k1,.int .u32 (p1:Int),.int .u32 (m1:Int),.bool n1,.int .i64 a1,.int .i64 b1,.slice o1 N1 c1] _ (fun j u hu=>(show Ext W D from hD).cell_some (HLG.out j u hu) id) Tryz.underlying98 rfl (by kernel_rfl) <;> first | rfl | (simp;done)
    try simp only [Act.put,pq]
    refine tkE (i:=8) (d:=44) (v:=?_) rfl (Or.inl ⟨by rfl,?_⟩) hS0 ?_
    rotate_left
    ·intro w hSw;(try dsimp only at hSw);go_simp;try with_reducible rfl
    try simp only [Act.put,pq]
    refine tkE (i:=9) (d:=45) (v:=?_) rfl (Or.inl ⟨by rfl,?_⟩) hS0 ?_
    rotate_left
    ·intro w hSw;(try dsimp only at hSw);go_simp;try with_reducible rfl
    try simp only [Act.put,pq]
    refine tkE (i:=10) (d:=46) (v:=?_) rfl (Or.inl ⟨by rfl,?_⟩) hS0 ?_
    rotate_left
    ·intro w hSw;(try dsimp only at hSw);go_simp;try with_reducible rfl
    try simp only [Act.put,pq]
    refine tkE (i:=11) (d:=47) (v:=?_) rfl (Or.inl ⟨by rfl,?_⟩) hS0 ?_
    rotate_left
    ·intro w hSw;(try dsimp only at hSw);go_simp;try with_reducible rfl
    try simp only [Act.put,pq]
    refine tkE (i:=12) (d:=48) (v:=?_) rfl (Or.inl ⟨by rfl,?_⟩) hS0 ?_
    rotate_left
    ·intro D hD;refine exec_load_at (x:=.tmp 47) ?_ g (off+i*18+8) ?_ [.int .i64 k2,.int .u32 (p2:Int),.int .u32 (m2:Int),.bool n2,.int .i64 a2,.int .i64 b2,.slice o2 N2 c2] _ (fun j u hu=>(show Ext W D from hD).cell_some (HRG.out j u hu) id) Tryz.underlying98 rfl (by kernel_rfl) <;> first | rfl | (simp;done)
    try simp only [Act.put,pq]
    refine wpAnyE_ready (rs:=[6]) (by kernel_rfl) (by simp) ?_
    refine AllReadyE.cons rfl (fun K hK=>?_) AllReadyE.nil
    (try rw [if_pos (show Region.wanted _ _=true from rfl)])
    go_simp
    refine(HC1.out _ hS0).mono ?_
    rintro e V2 ⟨rfl,hE2⟩
    have hS1:Ext W V2:=hS0.trans hE2
    clear hE2 hS0
    refine hK _ _ hS1 (fun _=>?_)
    clear hK K
    try simp only [Act.put,pq]
    refine tkE (i:=7) (d:=43) (v:=?_) rfl (Or.inl ⟨by rfl,?_⟩) hS1 ?_
    rotate_left
    ·intro w hSw;(try dsimp only at hSw);go_simp;try with_reducible rfl
    try simp only [Act.put,pq]
    refine wpAnyE_ready (rs:=[13]) (by kernel_rfl) (by simp) ?_
    refine AllReadyE.cons rfl (fun K hK=>?_) AllReadyE.nil
    (try rw [if_pos (show Region.wanted _ _=true from rfl)])
    go_simp
    refine(HC2.out _ hS1).mono ?_
    rintro e V3 ⟨rfl,hE3⟩
    have hS2:Ext W V3:=hS1.trans hE3
    clear hE3 hS1
    refine hK _ _ hS2 (fun _=>?_)
    clear hK K
    try simp only [Act.put,pq]
    refine tkE (i:=14) (d:=50) (v:=?_) rfl (Or.inl ⟨by rfl,?_⟩) hS2 ?_
    rotate_left
    ·intro w hSw;(try dsimp only at hSw);go_simp;try with_reducible rfl
    try simp only [Act.put,pq]
    refine tkE (i:=15) (d:=5) (v:=?_) rfl (Or.inl ⟨by rfl,?_⟩) hS2 ?_
    rotate_left
    ·intro w hSw;(try dsimp only at hSw);go_simp;try with_reducible rfl
    try simp only [Act.put,pq]
    refine wpAnyE_done (by kernel_rfl) ?_ _
    have HS2:=Lib.hid hS2
    clear hS2 HC1 HC2 HLG HRG hwk1 hwk2
    go_wp2
    exact⟨⟨i+1,z2,by omega,by omega,hzf,by first | rfl | trivial,⟨rfl,rfl,rfl,rfl,rfl⟩,HE.out.trans HS2.out⟩,by first | (simp [intOf];done) | (simp [intOf];omega)⟩
   have hne:¬ (i:Int)<(n:Int)\/((i:Int)<(n:Int)/\¬ (i:Int)<=6):=by omega
   rcases hne with h1 | ⟨h1,h2⟩
   ·clear HL
    go_wp2
    refine wp_loop (LigK m z (.slice lo n lc) (.slice po m pc) w) (fun a _=>((m:Int) - intOf (a.tmps.getD 7 undef)).toNat) ?_ ?_
    ·exact⟨0,by omega,rfl,⟨rfl,rfl,rfl,rfl,rfl⟩,HE.out⟩
    clear HE
    rintro⟨t,_⟩ W ⟨k,hk,hds,⟨hsz,f0,f1,f5,f7⟩,hE⟩
    subst hds
    obtain⟨u',hu⟩:=frame_fun hsz
    obtain⟨u,rfl⟩:∃ x,x=u':=⟨_,rfl⟩
    have hu':t=#[u 0,u 1,u 2,u 3,u 4,u 5,u 6,u 7,u 8,u 9,u 10,u 11,u 12,u 13,u 14,u 15,u 16,u 17,u 18,u 19,u 20,u 21,u 22,u 23,u 24,u 25,u 26,u 27,u 28,u 29,u 30,u 31,u 32,u 33,u 34,u 35,u 36,u 37,u 38,u 39,u 40,u 41,u 42,u 43,u 44,u 45,u 46,u 47,u 48,u 49,u 50,u 51,u 52,u 53,u 54,u 55,u 56,u 57,u 58,u 59,u 60,u 61,u 62,u 63,u 64,u 65,u 66,u 67,u 68,u 69,u 70,u 71,u 72,u 73,u 74,u 75,u 76,u 77,u 78,u 79,u 80,u 81,u 82,u 83,u 84]:=hu
    clear hu
    subst hu'
    change u 0=_ at f0
    change u 1=_ at f1
    change u 5=_ at f5
    change u 7=_ at f7
    rw [f0,f1,f5,f7]
    clear f0 f1 f5 f7 hsz
    have HE:=Lib.hid hE
    clear hE
    by_cases hkm:k<m
    case pos=>
     have h3:(k:Int)<(m:Int):=by omega
     have h30:(0:Int)<=(k:Int):=by omega
     have hkq:k<qs.length:=by rw [HM.out];exact hkm
     obtain⟨g,off,c',hq,hrg,⟨u,v,hcs,hu,hv⟩,zz2⟩:=StrAt.at (pairs_ext HP.out HE.out) hkq
     replace hq:=hq (by decide)
     obtain⟨hq,hg⟩:=hq
     simp only [Value.slice.injEq] at hq
     obtain⟨rfl,hzq,rfl⟩:=hq
     rw [hcs] at hrg
     obtain⟨fo,fc,rfl,huw,zz3⟩:=hu
     obtain⟨qo,qc,rfl,hvw,zz4⟩:=hv
     have d0:=hrg 0 _ rfl
     have d1:=hrg 1 _ rfl
     rw [Nat.add_zero] at d0
     obtain⟨fl,hfl⟩:∃ x,qs[k].1.1.length=x:=⟨_,rfl⟩
     obtain⟨tl,htl⟩:∃ x,qs[k].1.2.length=x:=⟨_,rfl⟩
     rw [hfl] at d0
     rw [htl] at d1
     clear hrg hcs huw hvw zz2 zz3 zz4 hg hfl htl hzq HP HRE
     by_cases hf:100<fl
     ·have g5:(fl:Int) > 100:=by omega
      go_wp2
      go_ret
      exact⟨false,rfl,HE.out⟩
     ·have g5:¬ (fl:Int) > 100:=by omega
      by_cases ht:100<tl
      ·have g6:(tl:Int) > 100:=by omega
       go_wp2
       go_ret
       exact⟨false,rfl,HE.out⟩
      ·have g6:¬ (tl:Int) > 100:=by omega
       go_wp2
       exact⟨⟨k+1,by omega,by first | rfl | trivial,⟨rfl,rfl,rfl,rfl,rfl⟩,HE.out⟩,by first | (simp [intOf];done) | (simp [intOf];omega)⟩
    have h3:¬ (k:Int)<(m:Int):=by omega
    clear HP
    by_cases hz40:z<=40
    ·have g5:(z:Int)<=40:=by omega
     have hrr:=HRE.out W HE.out
     have HRR:=Lib.hid hrr
     clear hrr HRE
     go_wp2_with fail
     refine HRR.out.mono ?_
     rintro e W2 ⟨y,hy,rfl,hE2⟩
     have HE2:=Lib.hid (HE.out.trans hE2)
     clear hE2 HRR
     by_cases hy4:y<=4
     ·have g6:(y:Int)<=4:=by omega
      go_wp2
      go_ret
      exact⟨_,rfl,HE2.out⟩
     ·have g6:¬ (y:Int)<=4:=by omega
      go_wp2
      go_ret
      exact⟨_,rfl,HE2.out⟩
    ·have g5:¬ (z:Int)<=40:=by omega
     clear HRE
     go_wp2
     go_ret
     exact⟨_,rfl,HE.out⟩
   ·exfalso;omega
  ·have g3:(m:Int) > 5:=by omega
   have g4:¬ (m:Int)<=32:=by omega
   go_wp2
   refine wp_loop (LigO n (.slice lo n lc) (.slice po m pc) w) (fun a _=>((n:Int) - intOf (a.tmps.getD 6 undef)).toNat) ?_ ?_
   ·exact⟨0,0,by omega,by omega,by omega,rfl,⟨rfl,rfl,rfl,rfl,rfl⟩,Turn.refl _ _⟩
   clear g1 g2 g3 g4
   rintro⟨t,_⟩ W ⟨i,z,hi,hi7,hz,hds,⟨hsz,f0,f1,f5,f6⟩,hE⟩
   subst hds
   obtain⟨u',hu⟩:=frame_fun hsz
   obtain⟨u,rfl⟩:∃ x,x=u':=⟨_,rfl⟩
   have hu':t=#[u 0,u 1,u 2,u 3,u 4,u 5,u 6,u 7,u 8,u 9,u 10,u 11,u 12,u 13,u 14,u 15,u 16,u 17,u 18,u 19,u 20,u 21,u 22,u 23,u 24,u 25,u 26,u 27,u 28,u 29,u 30,u 31,u 32,u 33,u 34,u 35,u 36,u 37,u 38,u 39,u 40,u 41,u 42,u 43,u 44,u 45,u 46,u 47,u 48,u 49,u 50,u 51,u 52,u 53,u 54,u 55,u 56,u 57,u 58,u 59,u 60,u 61,u 62,u 63,u 64,u 65,u 66,u 67,u 68,u 69,u 70,u 71,u 72,u 73,u 74,u 75,u 76,u 77,u 78,u 79,u 80,u 81,u 82,u 83,u 84]:=hu
   clear hu
   subst hu'
   change u 0=_ at f0
   change u 1=_ at f1
   change u 5=_ at f5
   change u 6=_ at f6
   rw [f0,f1,f5,f6]
   clear f0 f1 f5 f6 hsz
   have HE:=Lib.hid hE
   clear hE
   by_cases hin:i<n/\i<=6
   case pos=>
    obtain⟨hin,hi6⟩:=hin
    have h1:(i:Int)<(n:Int):=by omega
    have h0:(0:Int)<=(i:Int):=by omega
    have h2:(i:Int)<=6:=by omega
    have hil:i<ps.length:=by rw [HN.out];exact hin
    obtain⟨g,off,c',hq,hg,hrg,hla,h18⟩:=(HL.out.ext HE.out).at hil
    simp only [Value.slice.injEq] at hq
    obtain⟨rfl,hzz,rfl⟩:=hq
    obtain⟨x,hx⟩:∃ x,ps[i]=x:=⟨_,rfl⟩
    rw [hx] at hrg hla h18
    obtain⟨xl,cs⟩:=x
    dsimp only at hrg hla h18
    clear hx hzz h18 HL HRE HP
    obtain⟨nm,k1,p1,m1,n1,a1,b1,o1,N1,c1,k2,p2,m2,n2,a2,b2,o2,N2,c2,io,N3,ic,oo,N4,oc,md,rfl,HLA,HPL,HPR,HIF,HOU,HNM,HN1,HN2,HN3,HN4,HMD,q0,q1,q2,q3,q4⟩:=law_gen hla
    have hlg:W.rangeAt g (off+i*18+1) [.int .i64 k1,.int .u32 (p1:Int),.int .u32 (m1:Int),.bool n1,.int .i64 a1,.int .i64 b1,.slice o1 N1 c1]:=range_sub hrg 1 7
    have hrrg:W.rangeAt g (off+i*18+8) [.int .i64 k2,.int .u32 (p2:Int),.int .u32 (m2:Int),.bool n2,.int .i64 a2,.int .i64 b2,.slice o2 N2 c2]:=range_sub hrg 8 7
    have hc1:=fun(D:World) (hD:Ext W D)=>refsize_any (HPL.out.ext hD)
    have hc2:=fun(D:World) (hD:Ext W D)=>refsize_any (HPR.out.ext hD)
    have hs1:sizeP xl.left<=41:=by rw [sizeP_tot];omega
    have hs2:sizeP xl.right<=41:=by rw [sizeP_tot];omega
    obtain⟨s1,e1⟩:∃ q,sizeP xl.left=q:=⟨_,rfl⟩
    obtain⟨s2,e2⟩:∃ q,sizeP xl.right=q:=⟨_,rfl⟩
    simp only [e1] at hc1 hs1
    simp only [e2] at hc2 hs2
    obtain⟨z1,hz1⟩:∃ q,z+s1=q:=⟨_,rfl⟩
    obtain⟨z2,hz2⟩:∃ q,z1+s2=q:=⟨_,rfl⟩
    have hwk1:IntKind.i64.wrap ((z:Int)+(s1:Int))=(z1:Int):=by rw [IntWalk.i64_in _ (by omega)];omega
    have hwk2:IntKind.i64.wrap ((z1:Int)+(s2:Int))=(z2:Int):=by rw [IntWalk.i64_in _ (by omega)];omega
    have hzf:z2<=82*(i+1):=by omega
    have HLG:=Lib.hid hlg;have HRG:=Lib.hid hrrg;have HC1:=Lib.hid hc1;have HC2:=Lib.hid hc2
    clear hlg hrrg hrg hc1 hc2 e1 e2 hz1 hz2 HIF HOU HLA HNM HN1 HN2 HN3 HN4 HMD HPL HPR hla
    go_upto_region 7 with (fail)
    have hS0:Ext W W.drew:=(Turn.refl _ W).drew
    refine wp_region_late (S:=fun D=>Ext W D) [] (by kernel_rfl) hS0 ?_
    intro _
    obtain⟨V,hV⟩:∃ D,W.drew=D:=⟨_,rfl⟩
    rw [hV] at hS0 ⊢
    clear hV
    refine tkE (i:=0) (d:=36) (v:=?_) rfl (Or.inl ⟨by rfl,?_⟩) hS0 ?_
    rotate_left
    ·intro w hSw;(try dsimp only at hSw);go_simp;try with_reducible rfl
    try simp only [Act.put,pq]
    refine tkE (i:=1) (d:=37) (v:=?_) rfl (Or.inl ⟨by rfl,?_⟩) hS0 ?_
    rotate_left
    ·intro w hSw;(try dsimp only at hSw);go_simp;try with_reducible rfl
    try simp only [Act.put,pq]
    refine tkE (i:=2) (d:=38) (v:=?_) rfl (Or.inl ⟨by rfl,?_⟩) hS0 ?_
    rotate_left
    ·intro w hSw;(try dsimp only at hSw);go_simp;try with_reducible rfl
    try simp only [Act.put,pq]
    refine tkE (i:=3) (d:=39) (v:=?_) rfl (Or.inl ⟨by rfl,?_⟩) hS0 ?_
    rotate_left
    ·intro w hSw;(try dsimp only at hSw);go_simp;try with_reducible rfl
    try simp only [Act.put,pq]
    refine tkE (i:=4) (d:=40) (v:=?_) rfl (Or.inl ⟨by rfl,?_⟩) hS0 ?_
    rotate_left
    ·intro w hSw;(try dsimp only at hSw);go_simp;try with_reducible rfl
    try simp only [Act.put,pq]
    refine tkE (i:=5) (d:=41) (v:=?_) rfl (Or.inl ⟨by rfl,?_⟩) hS0 ?_
    rotate_left
    ·intro D hD;refine exec_load_at (x:=.tmp 40) ?_ g (off+i*18+1) ?_ [.int .i64 k1,.int .u32 (p1:Int),.int .u32 (m1:Int),.bool n1,.int .i64 a1,.int .i64 b1,.slice o1 N1 c1] _ (fun j u hu=>(show Ext W D from hD).cell_some (HLG.out j u hu) id) Tryz.underlying98 rfl (by kernel_rfl) <;> first | rfl | (simp;done)
    try simp only [Act.put,pq]
    refine tkE (i:=8) (d:=44) (v:=?_) rfl (Or.inl ⟨by rfl,?_⟩) hS0 ?_
    rotate_left
    ·intro w hSw;(try dsimp only at hSw);go_simp;try with_reducible rfl
    try simp only [Act.put,pq]
    refine tkE (i:=9) (d:=45) (v:=?_) rfl (Or.inl ⟨by rfl,?_⟩) hS0 ?_
    rotate_left
    ·intro w hSw;(try dsimp only at hSw);go_simp;try with_reducible rfl
    try simp only [Act.put,pq]
    refine tkE (i:=10) (d:=46) (v:=?_) rfl (Or.inl ⟨by rfl,?_⟩) hS0 ?_
    rotate_left
    ·intro w hSw;(try dsimp only at hSw);go_simp;try with_reducible rfl
    try simp only [Act.put,pq]
    refine tkE (i:=11) (d:=47) (v:=?_) rfl (Or.inl ⟨by rfl,?_⟩) hS0 ?_
    rotate_left
    ·intro w hSw;(try dsimp only at hSw);go_simp;try with_reducible rfl
    try simp only [Act.put,pq]
    refine tkE (i:=12) (d:=48) (v:=?_) rfl (Or.inl ⟨by rfl,?_⟩) hS0 ?_
    rotate_left
    ·intro D hD;refine exec_load_at (x:=.tmp 47) ?_ g (off+i*18+8) ?_ [.int .i64 k2,.int .u32 (p2:Int),.int .u32 (m2:Int),.bool n2,.int .i64 a2,.int .i64 b2,.slice o2 N2 c2] _ (fun j u hu=>(show Ext W D from hD).cell_some (HRG.out j u hu) id) Tryz.underlying98 rfl (by kernel_rfl) <;> first | rfl | (simp;done)
    try simp only [Act.put,pq]
    refine wpAnyE_ready (rs:=[6]) (by kernel_rfl) (by simp) ?_
    refine AllReadyE.cons rfl (fun K hK=>?_) AllReadyE.nil
    (try rw [if_pos (show Region.wanted _ _=true from rfl)])
    go_simp
    refine(HC1.out _ hS0).mono ?_
    rintro e V2 ⟨rfl,hE2⟩
    have hS1:Ext W V2:=hS0.trans hE2
    clear hE2 hS0
    refine hK _ _ hS1 (fun _=>?_)
    clear hK K
    try simp only [Act.put,pq]
    refine tkE (i:=7) (d:=43) (v:=?_) rfl (Or.inl ⟨by rfl,?_⟩) hS1 ?_
    rotate_left
    ·intro w hSw;(try dsimp only at hSw);go_simp;try with_reducible rfl
    try simp only [Act.put,pq]
    refine wpAnyE_ready (rs:=[13]) (by kernel_rfl) (by simp) ?_
    refine AllReadyE.cons rfl (fun K hK=>?_) AllReadyE.nil
    (try rw [if_pos (show Region.wanted _ _=true from rfl)])
    go_simp
    refine(HC2.out _ hS1).mono ?_
    rintro e V3 ⟨rfl,hE3⟩
    have hS2:Ext W V3:=hS1.trans hE3
    clear hE3 hS1
    refine hK _ _ hS2 (fun _=>?_)
    clear hK K
    try simp only [Act.put,pq]
    refine tkE (i:=14) (d:=50) (v:=?_) rfl (Or.inl ⟨by rfl,?_⟩) hS2 ?_
    rotate_left
    ·intro w hSw;(try dsimp only at hSw);go_simp;try with_reducible rfl
    try simp only [Act.put,pq]
    refine tkE (i:=15) (d:=5) (v:=?_) rfl (Or.inl ⟨by rfl,?_⟩) hS2 ?_
    rotate_left
    ·intro w hSw;(try dsimp only at hSw);go_simp;try with_reducible rfl
    try simp only [Act.put,pq]
    refine wpAnyE_done (by kernel_rfl) ?_ _
    have HS2:=Lib.hid hS2
    clear hS2 HC1 HC2 HLG HRG hwk1 hwk2
    go_wp2
    exact⟨⟨i+1,z2,by omega,by omega,hzf,by first | rfl | trivial,⟨rfl,rfl,rfl,rfl,rfl⟩,HE.out.trans HS2.out⟩,by first | (simp [intOf];done) | (simp [intOf];omega)⟩
   have hne:¬ (i:Int)<(n:Int)\/((i:Int)<(n:Int)/\¬ (i:Int)<=6):=by omega
   rcases hne with h1 | ⟨h1,h2⟩
   ·clear HL
    go_wp2
    refine wp_loop (LigK m z (.slice lo n lc) (.slice po m pc) w) (fun a _=>((m:Int) - intOf (a.tmps.getD 7 undef)).toNat) ?_ ?_
    ·exact⟨0,by omega,rfl,⟨rfl,rfl,rfl,rfl,rfl⟩,HE.out⟩
    clear HE
    rintro⟨t,_⟩ W ⟨k,hk,hds,⟨hsz,f0,f1,f5,f7⟩,hE⟩
    subst hds
    obtain⟨u',hu⟩:=frame_fun hsz
    obtain⟨u,rfl⟩:∃ x,x=u':=⟨_,rfl⟩
    have hu':t=#[u 0,u 1,u 2,u 3,u 4,u 5,u 6,u 7,u 8,u 9,u 10,u 11,u 12,u 13,u 14,u 15,u 16,u 17,u 18,u 19,u 20,u 21,u 22,u 23,u 24,u 25,u 26,u 27,u 28,u 29,u 30,u 31,u 32,u 33,u 34,u 35,u 36,u 37,u 38,u 39,u 40,u 41,u 42,u 43,u 44,u 45,u 46,u 47,u 48,u 49,u 50,u 51,u 52,u 53,u 54,u 55,u 56,u 57,u 58,u 59,u 60,u 61,u 62,u 63,u 64,u 65,u 66,u 67,u 68,u 69,u 70,u 71,u 72,u 73,u 74,u 75,u 76,u 77,u 78,u 79,u 80,u 81,u 82,u 83,u 84]:=hu
    clear hu
    subst hu'
    change u 0=_ at f0
    change u 1=_ at f1
    change u 5=_ at f5
    change u 7=_ at f7
    rw [f0,f1,f5,f7]
    clear f0 f1 f5 f7 hsz
    have HE:=Lib.hid hE
    clear hE
    by_cases hkm:k<m
    case pos=>
     have h3:(k:Int)<(m:Int):=by omega
     have h30:(0:Int)<=(k:Int):=by omega
     have hkq:k<qs.length:=by rw [HM.out];exact hkm
     obtain⟨g,off,c',hq,hrg,⟨u,v,hcs,hu,hv⟩,zz2⟩:=StrAt.at (pairs_ext HP.out HE.out) hkq
     replace hq:=hq (by decide)
     obtain⟨hq,hg⟩:=hq
     simp only [Value.slice.injEq] at hq
     obtain⟨rfl,hzq,rfl⟩:=hq
     rw [hcs] at hrg
     obtain⟨fo,fc,rfl,huw,zz3⟩:=hu
     obtain⟨qo,qc,rfl,hvw,zz4⟩:=hv
     have d0:=hrg 0 _ rfl
     have d1:=hrg 1 _ rfl
     rw [Nat.add_zero] at d0
     obtain⟨fl,hfl⟩:∃ x,qs[k].1.1.length=x:=⟨_,rfl⟩
     obtain⟨tl,htl⟩:∃ x,qs[k].1.2.length=x:=⟨_,rfl⟩
     rw [hfl] at d0
     rw [htl] at d1
     clear hrg hcs huw hvw zz2 zz3 zz4 hg hfl htl hzq HP HRE
     by_cases hf:100<fl
     ·have g5:(fl:Int) > 100:=by omega
      go_wp2
      go_ret
      exact⟨false,rfl,HE.out⟩
     ·have g5:¬ (fl:Int) > 100:=by omega
      by_cases ht:100<tl
      ·have g6:(tl:Int) > 100:=by omega
       go_wp2
       go_ret
       exact⟨false,rfl,HE.out⟩
      ·have g6:¬ (tl:Int) > 100:=by omega
       go_wp2
       exact⟨⟨k+1,by omega,by first | rfl | trivial,⟨rfl,rfl,rfl,rfl,rfl⟩,HE.out⟩,by first | (simp [intOf];done) | (simp [intOf];omega)⟩
    have h3:¬ (k:Int)<(m:Int):=by omega
    clear HP
    by_cases hz40:z<=40
    ·have g5:(z:Int)<=40:=by omega
     have hrr:=HRE.out W HE.out
     have HRR:=Lib.hid hrr
     clear hrr HRE
     go_wp2_with fail
     refine HRR.out.mono ?_
     rintro e W2 ⟨y,hy,rfl,hE2⟩
     have HE2:=Lib.hid (HE.out.trans hE2)
     clear hE2 HRR
     by_cases hy4:y<=4
     ·have g6:(y:Int)<=4:=by omega
      go_wp2
      go_ret
      exact⟨_,rfl,HE2.out⟩
     ·have g6:¬ (y:Int)<=4:=by omega
      go_wp2
      go_ret
      exact⟨_,rfl,HE2.out⟩
    ·have g5:¬ (z:Int)<=40:=by omega
     clear HRE
     go_wp2
     go_ret
     exact⟨_,rfl,HE.out⟩
   ·exfalso;omega
 ·have g1:(n:Int) > 4:=by omega
  have g2:¬ (n:Int)<=6:=by omega
  rcases hm2 with hm2 | hm2
  ·have g3:¬ (m:Int) > 5:=by omega
   have g4:True:=trivial
   go_wp2
   refine wp_loop (LigO n (.slice lo n lc) (.slice po m pc) w) (fun a _=>((n:Int) - intOf (a.tmps.getD 6 undef)).toNat) ?_ ?_
   ·exact⟨0,0,by omega,by omega,by omega,rfl,⟨rfl,rfl,rfl,rfl,rfl⟩,Turn.refl _ _⟩
   clear g1 g2 g3 g4
   rintro⟨t,_⟩ W ⟨i,z,hi,hi7,hz,hds,⟨hsz,f0,f1,f5,f6⟩,hE⟩
   subst hds
   obtain⟨u',hu⟩:=frame_fun hsz
   obtain⟨u,rfl⟩:∃ x,x=u':=⟨_,rfl⟩
   have hu':t=#[u 0,u 1,u 2,u 3,u 4,u 5,u 6,u 7,u 8,u 9,u 10,u 11,u 12,u 13,u 14,u 15,u 16,u 17,u 18,u 19,u 20,u 21,u 22,u 23,u 24,u 25,u 26,u 27,u 28,u 29,u 30,u 31,u 32,u 33,u 34,u 35,u 36,u 37,u 38,u 39,u 40,u 41,u 42,u 43,u 44,u 45,u 46,u 47,u 48,u 49,u 50,u 51,u 52,u 53,u 54,u 55,u 56,u 57,u 58,u 59,u 60,u 61,u 62,u 63,u 64,u 65,u 66,u 67,u 68,u 69,u 70,u 71,u 72,u 73,u 74,u 75,u 76,u 77,u 78,u 79,u 80,u 81,u 82,u 83,u 84]:=hu
   clear hu
   subst hu'
   change u 0=_ at f0
   change u 1=_ at f1
   change u 5=_ at f5
   change u 6=_ at f6
   rw [f0,f1,f5,f6]
   clear f0 f1 f5 f6 hsz
   have HE:=Lib.hid hE
   clear hE
   by_cases hin:i<n/\i<=6
   case pos=>
    obtain⟨hin,hi6⟩:=hin
    have h1:(i:Int)<(n:Int):=by omega
    have h0:(0:Int)<=(i:Int):=by omega
    have h2:(i:Int)<=6:=by omega
    have hil:i<ps.length:=by rw [HN.out];exact hin
    obtain⟨g,off,c',hq,hg,hrg,hla,h18⟩:=(HL.out.ext HE.out).at hil
    simp only [Value.slice.injEq] at hq
    obtain⟨rfl,hzz,rfl⟩:=hq
    obtain⟨x,hx⟩:∃ x,ps[i]=x:=⟨_,rfl⟩
    rw [hx] at hrg hla h18
    obtain⟨xl,cs⟩:=x
    dsimp only at hrg hla h18
    clear hx hzz h18 HL HRE HP
    obtain⟨nm,k1,p1,m1,n1,a1,b1,o1,N1,c1,k2,p2,m2,n2,a2,b2,o2,N2,c2,io,N3,ic,oo,N4,oc,md,rfl,HLA,HPL,HPR,HIF,HOU,HNM,HN1,HN2,HN3,HN4,HMD,q0,q1,q2,q3,q4⟩:=law_gen hla
    have hlg:W.rangeAt g (off+i*18+1) [.int .i64 k1,.int .u32 (p1:Int),.int .u32 (m1:Int),.bool n1,.int .i64 a1,.int .i64 b1,.slice o1 N1 c1]:=range_sub hrg 1 7
    have hrrg:W.rangeAt g (off+i*18+8) [.int .i64 k2,.int .u32 (p2:Int),.int .u32 (m2:Int),.bool n2,.int .i64 a2,.int .i64 b2,.slice o2 N2 c2]:=range_sub hrg 8 7
    have hc1:=fun(D:World) (hD:Ext W D)=>refsize_any (HPL.out.ext hD)
    have hc2:=fun(D:World) (hD:Ext W D)=>refsize_any (HPR.out.ext hD)
    have hs1:sizeP xl.left<=41:=by rw [sizeP_tot];omega
    have hs2:sizeP xl.right<=41:=by rw [sizeP_tot];omega
    obtain⟨s1,e1⟩:∃ q,sizeP xl.left=q:=⟨_,rfl⟩
    obtain⟨s2,e2⟩:∃ q,sizeP xl.right=q:=⟨_,rfl⟩
    simp only [e1] at hc1 hs1
    simp only [e2] at hc2 hs2
    obtain⟨z1,hz1⟩:∃ q,z+s1=q:=⟨_,rfl⟩
    obtain⟨z2,hz2⟩:∃ q,z1+s2=q:=⟨_,rfl⟩
    have hwk1:IntKind.i64.wrap ((z:Int)+(s1:Int))=(z1:Int):=by rw [IntWalk.i64_in _ (by omega)];omega
    have hwk2:IntKind.i64.wrap ((z1:Int)+(s2:Int))=(z2:Int):=by rw [IntWalk.i64_in _ (by omega)];omega
    have hzf:z2<=82*(i+1):=by omega
    have HLG:=Lib.hid hlg;have HRG:=Lib.hid hrrg;have HC1:=Lib.hid hc1;have HC2:=Lib.hid hc2
    clear hlg hrrg hrg hc1 hc2 e1 e2 hz1 hz2 HIF HOU HLA HNM HN1 HN2 HN3 HN4 HMD HPL HPR hla
    go_upto_region 7 with (fail)
    have hS0:Ext W W.drew:=(Turn.refl _ W).drew
    refine wp_region_late (S:=fun D=>Ext W D) [] (by kernel_rfl) hS0 ?_
    intro _
    obtain⟨V,hV⟩:∃ D,W.drew=D:=⟨_,rfl⟩
    rw [hV] at hS0 ⊢
    clear hV
    refine tkE (i:=0) (d:=36) (v:=?_) rfl (Or.inl ⟨by rfl,?_⟩) hS0 ?_
    rotate_left
    ·intro w hSw;(try dsimp only at hSw);go_simp;try with_reducible rfl
    try simp only [Act.put,pq]
    refine tkE (i:=1) (d:=37) (v:=?_) rfl (Or.inl ⟨by rfl,?_⟩) hS0 ?_
    rotate_left
    ·intro w hSw;(try dsimp only at hSw);go_simp;try with_reducible rfl
    try simp only [Act.put,pq]
    refine tkE (i:=2) (d:=38) (v:=?_) rfl (Or.inl ⟨by rfl,?_⟩) hS0 ?_
    rotate_left
    ·intro w hSw;(try dsimp only at hSw);go_simp;try with_reducible rfl
    try simp only [Act.put,pq]
    refine tkE (i:=3) (d:=39) (v:=?_) rfl (Or.inl ⟨by rfl,?_⟩) hS0 ?_
    rotate_left
    ·intro w hSw;(try dsimp only at hSw);go_simp;try with_reducible rfl
    try simp only [Act.put,pq]
    refine tkE (i:=4) (d:=40) (v:=?_) rfl (Or.inl ⟨by rfl,?_⟩) hS0 ?_
    rotate_left
    ·intro w hSw;(try dsimp only at hSw);go_simp;try with_reducible rfl
    try simp only [Act.put,pq]
    refine tkE (i:=5) (d:=41) (v:=?_) rfl (Or.inl ⟨by rfl,?_⟩) hS0 ?_
    rotate_left
    ·intro D hD;refine exec_load_at (x:=.tmp 40) ?_ g (off+i*18+1) ?_ [.int .i64 k1,.int .u32 (p1:Int),.int .u32 (m1:Int),.bool n1,.int .i64 a1,.int .i64 b1,.slice o1 N1 c1] _ (fun j u hu=>(show Ext W D from hD).cell_some (HLG.out j u hu) id) Tryz.underlying98 rfl (by kernel_rfl) <;> first | rfl | (simp;done)
    try simp only [Act.put,pq]
    refine tkE (i:=8) (d:=44) (v:=?_) rfl (Or.inl ⟨by rfl,?_⟩) hS0 ?_
    rotate_left
    ·intro w hSw;(try dsimp only at hSw);go_simp;try with_reducible rfl
    try simp only [Act.put,pq]
    refine tkE (i:=9) (d:=45) (v:=?_) rfl (Or.inl ⟨by rfl,?_⟩) hS0 ?_
    rotate_left
    ·intro w hSw;(try dsimp only at hSw);go_simp;try with_reducible rfl
    try simp only [Act.put,pq]
    refine tkE (i:=10) (d:=46) (v:=?_) rfl (Or.inl ⟨by rfl,?_⟩) hS0 ?_
    rotate_left
    ·intro w hSw;(try dsimp only at hSw);go_simp;try with_reducible rfl
    try simp only [Act.put,pq]
    refine tkE (i:=11) (d:=47) (v:=?_) rfl (Or.inl ⟨by rfl,?_⟩) hS0 ?_
    rotate_left
    ·intro w hSw;(try dsimp only at hSw);go_simp;try with_reducible rfl
    try simp only [Act.put,pq]
    refine tkE (i:=12) (d:=48) (v:=?_) rfl (Or.inl ⟨by rfl,?_⟩) hS0 ?_
    rotate_left
    ·intro D hD;refine exec_load_at (x:=.tmp 47) ?_ g (off+i*18+8) ?_ [.int .i64 k2,.int .u32 (p2:Int),.int .u32 (m2:Int),.bool n2,.int .i64 a2,.int .i64 b2,.slice o2 N2 c2] _ (fun j u hu=>(show Ext W D from hD).cell_some (HRG.out j u hu) id) Tryz.underlying98 rfl (by kernel_rfl) <;> first | rfl | (simp;done)
    try simp only [Act.put,pq]
    refine wpAnyE_ready (rs:=[6]) (by kernel_rfl) (by simp) ?_
    refine AllReadyE.cons rfl (fun K hK=>?_) AllReadyE.nil
    (try rw [if_pos (show Region.wanted _ _=true from rfl)])
    go_simp
    refine(HC1.out _ hS0).mono ?_
    rintro e V2 ⟨rfl,hE2⟩
    have hS1:Ext W V2:=hS0.trans hE2
    clear hE2 hS0
    refine hK _ _ hS1 (fun _=>?_)
    clear hK K
    try simp only [Act.put,pq]
    refine tkE (i:=7) (d:=43) (v:=?_) rfl (Or.inl ⟨by rfl,?_⟩) hS1 ?_
    rotate_left
    ·intro w hSw;(try dsimp only at hSw);go_simp;try with_reducible rfl
    try simp only [Act.put,pq]
    refine wpAnyE_ready (rs:=[13]) (by kernel_rfl) (by simp) ?_
    refine AllReadyE.cons rfl (fun K hK=>?_) AllReadyE.nil
    (try rw [if_pos (show Region.wanted _ _=true from rfl)])
    go_simp
    refine(HC2.out _ hS1).mono ?_
    rintro e V3 ⟨rfl,hE3⟩
    have hS2:Ext W V3:=hS1.trans hE3
    clear hE3 hS1
    refine hK _ _ hS2 (fun _=>?_)
    clear hK K
    try simp only [Act.put,pq]
    refine tkE (i:=14) (d:=50) (v:=?_) rfl (Or.inl ⟨by rfl,?_⟩) hS2 ?_
    rotate_left
    ·intro w hSw;(try dsimp only at hSw);go_simp;try with_reducible rfl
    try simp only [Act.put,pq]
    refine tkE (i:=15) (d:=5) (v:=?_) rfl (Or.inl ⟨by rfl,?_⟩) hS2 ?_
    rotate_left
    ·intro w hSw;(try dsimp only at hSw);go_simp;try with_reducible rfl
    try simp only [Act.put,pq]
    refine wpAnyE_done (by kernel_rfl) ?_ _
    have HS2:=Lib.hid hS2
    clear hS2 HC1 HC2 HLG HRG hwk1 hwk2
    go_wp2
    exact⟨⟨i+1,z2,by omega,by omega,hzf,by first | rfl | trivial,⟨rfl,rfl,rfl,rfl,rfl⟩,HE.out.trans HS2.out⟩,by first | (simp [intOf];done) | (simp [intOf];omega)⟩
   have hne:¬ (i:Int)<(n:Int)\/((i:Int)<(n:Int)/\¬ (i:Int)<=6):=by omega
   rcases hne with h1 | ⟨h1,h2⟩
   ·clear HL
    go_wp2
    refine wp_loop (LigK m z (.slice lo n lc) (.slice po m pc) w) (fun a _=>((m:Int) - intOf (a.tmps.getD 7 undef)).toNat) ?_ ?_
    ·exact⟨0,by omega,rfl,⟨rfl,rfl,rfl,rfl,rfl⟩,HE.out⟩
    clear HE
    rintro⟨t,_⟩ W ⟨k,hk,hds,⟨hsz,f0,f1,f5,f7⟩,hE⟩
    subst hds
    obtain⟨u',hu⟩:=frame_fun hsz
    obtain⟨u,rfl⟩:∃ x,x=u':=⟨_,rfl⟩
    have hu':t=#[u 0,u 1,u 2,u 3,u 4,u 5,u 6,u 7,u 8,u 9,u 10,u 11,u 12,u 13,u 14,u 15,u 16,u 17,u 18,u 19,u 20,u 21,u 22,u 23,u 24,u 25,u 26,u 27,u 28,u 29,u 30,u 31,u 32,u 33,u 34,u 35,u 36,u 37,u 38,u 39,u 40,u 41,u 42,u 43,u 44,u 45,u 46,u 47,u 48,u 49,u 50,u 51,u 52,u 53,u 54,u 55,u 56,u 57,u 58,u 59,u 60,u 61,u 62,u 63,u 64,u 65,u 66,u 67,u 68,u 69,u 70,u 71,u 72,u 73,u 74,u 75,u 76,u 77,u 78,u 79,u 80,u 81,u 82,u 83,u 84]:=hu
    clear hu
    subst hu'
    change u 0=_ at f0
    change u 1=_ at f1
    change u 5=_ at f5
    change u 7=_ at f7
    rw [f0,f1,f5,f7]
    clear f0 f1 f5 f7 hsz
    have HE:=Lib.hid hE
    clear hE
    by_cases hkm:k<m
    case pos=>
     have h3:(k:Int)<(m:Int):=by omega
     have h30:(0:Int)<=(k:Int):=by omega
     have hkq:k<qs.length:=by rw [HM.out];exact hkm
     obtain⟨g,off,c',hq,hrg,⟨u,v,hcs,hu,hv⟩,zz2⟩:=StrAt.at (pairs_ext HP.out HE.out) hkq
     replace hq:=hq (by decide)
     obtain⟨hq,hg⟩:=hq
     simp only [Value.slice.injEq] at hq
     obtain⟨rfl,hzq,rfl⟩:=hq
     rw [hcs] at hrg
     obtain⟨fo,fc,rfl,huw,zz3⟩:=hu
     obtain⟨qo,qc,rfl,hvw,zz4⟩:=hv
     have d0:=hrg 0 _ rfl
     have d1:=hrg 1 _ rfl
     rw [Nat.add_zero] at d0
     obtain⟨fl,hfl⟩:∃ x,qs[k].1.1.length=x:=⟨_,rfl⟩
     obtain⟨tl,htl⟩:∃ x,qs[k].1.2.length=x:=⟨_,rfl⟩
     rw [hfl] at d0
     rw [htl] at d1
     clear hrg hcs huw hvw zz2 zz3 zz4 hg hfl htl hzq HP HRE
     by_cases hf:100<fl
     ·have g5:(fl:Int) > 100:=by omega
      go_wp2
      go_ret
      exact⟨false,rfl,HE.out⟩
     ·have g5:¬ (fl:Int) > 100:=by omega
      by_cases ht:100<tl
      ·have g6:(tl:Int) > 100:=by omega
       go_wp2
       go_ret
       exact⟨false,rfl,HE.out⟩
      ·have g6:¬ (tl:Int) > 100:=by omega
       go_wp2
       exact⟨⟨k+1,by omega,by first | rfl | trivial,⟨rfl,rfl,rfl,rfl,rfl⟩,HE.out⟩,by first | (simp [intOf];done) | (simp [intOf];omega)⟩
    have h3:¬ (k:Int)<(m:Int):=by omega
    clear HP
    by_cases hz40:z<=40
    ·have g5:(z:Int)<=40:=by omega
     have hrr:=HRE.out W HE.out
     have HRR:=Lib.hid hrr
     clear hrr HRE
     go_wp2_with fail
     refine HRR.out.mono ?_
     rintro e W2 ⟨y,hy,rfl,hE2⟩
     have HE2:=Lib.hid (HE.out.trans hE2)
     clear hE2 HRR
     by_cases hy4:y<=4
     ·have g6:(y:Int)<=4:=by omega
      go_wp2
      go_ret
      exact⟨_,rfl,HE2.out⟩
     ·have g6:¬ (y:Int)<=4:=by omega
      go_wp2
      go_ret
      exact⟨_,rfl,HE2.out⟩
    ·have g5:¬ (z:Int)<=40:=by omega
     clear HRE
     go_wp2
     go_ret
     exact⟨_,rfl,HE.out⟩
   ·clear HL
    go_wp2
    refine wp_loop (LigK m z (.slice lo n lc) (.slice po m pc) w) (fun a _=>((m:Int) - intOf (a.tmps.getD 7 undef)).toNat) ?_ ?_
    ·exact⟨0,by omega,rfl,⟨rfl,rfl,rfl,rfl,rfl⟩,HE.out⟩
    clear HE
    rintro⟨t,_⟩ W ⟨k,hk,hds,⟨hsz,f0,f1,f5,f7⟩,hE⟩
    subst hds
    obtain⟨u',hu⟩:=frame_fun hsz
    obtain⟨u,rfl⟩:∃ x,x=u':=⟨_,rfl⟩
    have hu':t=#[u 0,u 1,u 2,u 3,u 4,u 5,u 6,u 7,u 8,u 9,u 10,u 11,u 12,u 13,u 14,u 15,u 16,u 17,u 18,u 19,u 20,u 21,u 22,u 23,u 24,u 25,u 26,u 27,u 28,u 29,u 30,u 31,u 32,u 33,u 34,u 35,u 36,u 37,u 38,u 39,u 40,u 41,u 42,u 43,u 44,u 45,u 46,u 47,u 48,u 49,u 50,u 51,u 52,u 53,u 54,u 55,u 56,u 57,u 58,u 59,u 60,u 61,u 62,u 63,u 64,u 65,u 66,u 67,u 68,u 69,u 70,u 71,u 72,u 73,u 74,u 75,u 76,u 77,u 78,u 79,u 80,u 81,u 82,u 83,u 84]:=hu
    clear hu
    subst hu'
    change u 0=_ at f0
    change u 1=_ at f1
    change u 5=_ at f5
    change u 7=_ at f7
    rw [f0,f1,f5,f7]
    clear f0 f1 f5 f7 hsz
    have HE:=Lib.hid hE
    clear hE
    by_cases hkm:k<m
    case pos=>
     have h3:(k:Int)<(m:Int):=by omega
     have h30:(0:Int)<=(k:Int):=by omega
     have hkq:k<qs.length:=by rw [HM.out];exact hkm
     obtain⟨g,off,c',hq,hrg,⟨u,v,hcs,hu,hv⟩,zz2⟩:=StrAt.at (pairs_ext HP.out HE.out) hkq
     replace hq:=hq (by decide)
     obtain⟨hq,hg⟩:=hq
     simp only [Value.slice.injEq] at hq
     obtain⟨rfl,hzq,rfl⟩:=hq
     rw [hcs] at hrg
     obtain⟨fo,fc,rfl,huw,zz3⟩:=hu
     obtain⟨qo,qc,rfl,hvw,zz4⟩:=hv
     have d0:=hrg 0 _ rfl
     have d1:=hrg 1 _ rfl
     rw [Nat.add_zero] at d0
     obtain⟨fl,hfl⟩:∃ x,qs[k].1.1.length=x:=⟨_,rfl⟩
     obtain⟨tl,htl⟩:∃ x,qs[k].1.2.length=x:=⟨_,rfl⟩
     rw [hfl] at d0
     rw [htl] at d1
     clear hrg hcs huw hvw zz2 zz3 zz4 hg hfl htl hzq HP HRE
     by_cases hf:100<fl
     ·have g5:(fl:Int) > 100:=by omega
      go_wp2
      go_ret
      exact⟨false,rfl,HE.out⟩
     ·have g5:¬ (fl:Int) > 100:=by omega
      by_cases ht:100<tl
      ·have g6:(tl:Int) > 100:=by omega
       go_wp2
       go_ret
       exact⟨false,rfl,HE.out⟩
      ·have g6:¬ (tl:Int) > 100:=by omega
       go_wp2
       exact⟨⟨k+1,by omega,by first | rfl | trivial,⟨rfl,rfl,rfl,rfl,rfl⟩,HE.out⟩,by first | (simp [intOf];done) | (simp [intOf];omega)⟩
    have h3:¬ (k:Int)<(m:Int):=by omega
    clear HP
    by_cases hz40:z<=40
    ·have g5:(z:Int)<=40:=by omega
     have hrr:=HRE.out W HE.out
     have HRR:=Lib.hid hrr
     clear hrr HRE
     go_wp2_with fail
     refine HRR.out.mono ?_
     rintro e W2 ⟨y,hy,rfl,hE2⟩
     have HE2:=Lib.hid (HE.out.trans hE2)
     clear hE2 HRR
     by_cases hy4:y<=4
     ·have g6:(y:Int)<=4:=by omega
      go_wp2
      go_ret
      exact⟨_,rfl,HE2.out⟩
     ·have g6:¬ (y:Int)<=4:=by omega
      go_wp2
      go_ret
      exact⟨_,rfl,HE2.out⟩
    ·have g5:¬ (z:Int)<=40:=by omega
     clear HRE
     go_wp2
     go_ret
     exact⟨_,rfl,HE.out⟩
  ·have g3:(m:Int) > 5:=by omega
   have g4:¬ (m:Int)<=32:=by omega
   go_wp2
   refine wp_loop (LigO n (.slice lo n lc) (.slice po m pc) w) (fun a _=>((n:Int) - intOf (a.tmps.getD 6 undef)).toNat) ?_ ?_
   ·exact⟨0,0,by omega,by omega,by omega,rfl,⟨rfl,rfl,rfl,rfl,rfl⟩,Turn.refl _ _⟩
   clear g1 g2 g3 g4
   rintro⟨t,_⟩ W ⟨i,z,hi,hi7,hz,hds,⟨hsz,f0,f1,f5,f6⟩,hE⟩
   subst hds
   obtain⟨u',hu⟩:=frame_fun hsz
   obtain⟨u,rfl⟩:∃ x,x=u':=⟨_,rfl⟩
   have hu':t=#[u 0,u 1,u 2,u 3,u 4,u 5,u 6,u 7,u 8,u 9,u 10,u 11,u 12,u 13,u 14,u 15,u 16,u 17,u 18,u 19,u 20,u 21,u 22,u 23,u 24,u 25,u 26,u 27,u 28,u 29,u 30,u 31,u 32,u 33,u 34,u 35,u 36,u 37,u 38,u 39,u 40,u 41,u 42,u 43,u 44,u 45,u 46,u 47,u 48,u 49,u 50,u 51,u 52,u 53,u 54,u 55,u 56,u 57,u 58,u 59,u 60,u 61,u 62,u 63,u 64,u 65,u 66,u 67,u 68,u 69,u 70,u 71,u 72,u 73,u 74,u 75,u 76,u 77,u 78,u 79,u 80,u 81,u 82,u 83,u 84]:=hu
   clear hu
   subst hu'
   change u 0=_ at f0
   change u 1=_ at f1
   change u 5=_ at f5
   change u 6=_ at f6
   rw [f0,f1,f5,f6]
   clear f0 f1 f5 f6 hsz
   have HE:=Lib.hid hE
   clear hE
   by_cases hin:i<n/\i<=6
   case pos=>
    obtain⟨hin,hi6⟩:=hin
    have h1:(i:Int)<(n:Int):=by omega
    have h0:(0:Int)<=(i:Int):=by omega
    have h2:(i:Int)<=6:=by omega
    have hil:i<ps.length:=by rw [HN.out];exact hin
    obtain⟨g,off,c',hq,hg,hrg,hla,h18⟩:=(HL.out.ext HE.out).at hil
    simp only [Value.slice.injEq] at hq
    obtain⟨rfl,hzz,rfl⟩:=hq
    obtain⟨x,hx⟩:∃ x,ps[i]=x:=⟨_,rfl⟩
    rw [hx] at hrg hla h18
    obtain⟨xl,cs⟩:=x
    dsimp only at hrg hla h18
    clear hx hzz h18 HL HRE HP
    obtain⟨nm,k1,p1,m1,n1,a1,b1,o1,N1,c1,k2,p2,m2,n2,a2,b2,o2,N2,c2,io,N3,ic,oo,N4,oc,md,rfl,HLA,HPL,HPR,HIF,HOU,HNM,HN1,HN2,HN3,HN4,HMD,q0,q1,q2,q3,q4⟩:=law_gen hla
    have hlg:W.rangeAt g (off+i*18+1) [.int .i64 k1,.int .u32 (p1:Int),.int .u32 (m1:Int),.bool n1,.int .i64 a1,.int .i64 b1,.slice o1 N1 c1]:=range_sub hrg 1 7
    have hrrg:W.rangeAt g (off+i*18+8) [.int .i64 k2,.int .u32 (p2:Int),.int .u32 (m2:Int),.bool n2,.int .i64 a2,.int .i64 b2,.slice o2 N2 c2]:=range_sub hrg 8 7
    have hc1:=fun(D:World) (hD:Ext W D)=>refsize_any (HPL.out.ext hD)
    have hc2:=fun(D:World) (hD:Ext W D)=>refsize_any (HPR.out.ext hD)
    have hs1:sizeP xl.left<=41:=by rw [sizeP_tot];omega
    have hs2:sizeP xl.right<=41:=by rw [sizeP_tot];omega
    obtain⟨s1,e1⟩:∃ q,sizeP xl.left=q:=⟨_,rfl⟩
    obtain⟨s2,e2⟩:∃ q,sizeP xl.right=q:=⟨_,rfl⟩
    simp only [e1] at hc1 hs1
    simp only [e2] at hc2 hs2
    obtain⟨z1,hz1⟩:∃ q,z+s1=q:=⟨_,rfl⟩
    obtain⟨z2,hz2⟩:∃ q,z1+s2=q:=⟨_,rfl⟩
    have hwk1:IntKind.i64.wrap ((z:Int)+(s1:Int))=(z1:Int):=by rw [IntWalk.i64_in _ (by omega)];omega
    have hwk2:IntKind.i64.wrap ((z1:Int)+(s2:Int))=(z2:Int):=by rw [IntWalk.i64_in _ (by omega)];omega
    have hzf:z2<=82*(i+1):=by omega
    have HLG:=Lib.hid hlg;have HRG:=Lib.hid hrrg;have HC1:=Lib.hid hc1;have HC2:=Lib.hid hc2
    clear hlg hrrg hrg hc1 hc2 e1 e2 hz1 hz2 HIF HOU HLA HNM HN1 HN2 HN3 HN4 HMD HPL HPR hla
    go_upto_region 7 with (fail)
    have hS0:Ext W W.drew:=(Turn.refl _ W).drew
    refine wp_region_late (S:=fun D=>Ext W D) [] (by kernel_rfl) hS0 ?_
    intro _
    obtain⟨V,hV⟩:∃ D,W.drew=D:=⟨_,rfl⟩
    rw [hV] at hS0 ⊢
    clear hV
    refine tkE (i:=0) (d:=36) (v:=?_) rfl (Or.inl ⟨by rfl,?_⟩) hS0 ?_
    rotate_left
    ·intro w hSw;(try dsimp only at hSw);go_simp;try with_reducible rfl
    try simp only [Act.put,pq]
    refine tkE (i:=1) (d:=37) (v:=?_) rfl (Or.inl ⟨by rfl,?_⟩) hS0 ?_
    rotate_left
    ·intro w hSw;(try dsimp only at hSw);go_simp;try with_reducible rfl
    try simp only [Act.put,pq]
    refine tkE (i:=2) (d:=38) (v:=?_) rfl (Or.inl ⟨by rfl,?_⟩) hS0 ?_
    rotate_left
    ·intro w hSw;(try dsimp only at hSw);go_simp;try with_reducible rfl
    try simp only [Act.put,pq]
    refine tkE (i:=3) (d:=39) (v:=?_) rfl (Or.inl ⟨by rfl,?_⟩) hS0 ?_
    rotate_left
    ·intro w hSw;(try dsimp only at hSw);go_simp;try with_reducible rfl
    try simp only [Act.put,pq]
    refine tkE (i:=4) (d:=40) (v:=?_) rfl (Or.inl ⟨by rfl,?_⟩) hS0 ?_
    rotate_left
    ·intro w hSw;(try dsimp only at hSw);go_simp;try with_reducible rfl
    try simp only [Act.put,pq]
    refine tkE (i:=5) (d:=41) (v:=?_) rfl (Or.inl ⟨by rfl,?_⟩) hS0 ?_
    rotate_left
    ·intro D hD;refine exec_load_at (x:=.tmp 40) ?_ g (off+i*18+1) ?_ [.int .i64 k1,.int .u32 (p1:Int),.int .u32 (m1:Int),.bool n1,.int .i64 a1,.int .i64 b1,.slice o1 N1 c1] _ (fun j u hu=>(show Ext W D from hD).cell_some (HLG.out j u hu) id) Tryz.underlying98 rfl (by kernel_rfl) <;> first | rfl | (simp;done)
    try simp only [Act.put,pq]
    refine tkE (i:=8) (d:=44) (v:=?_) rfl (Or.inl ⟨by rfl,?_⟩) hS0 ?_
    rotate_left
    ·intro w hSw;(try dsimp only at hSw);go_simp;try with_reducible rfl
    try simp only [Act.put,pq]
    refine tkE (i:=9) (d:=45) (v:=?_) rfl (Or.inl ⟨by rfl,?_⟩) hS0 ?_
    rotate_left
    ·intro w hSw;(try dsimp only at hSw);go_simp;try with_reducible rfl
    try simp only [Act.put,pq]
    refine tkE (i:=10) (d:=46) (v:=?_) rfl (Or.inl ⟨by rfl,?_⟩) hS0 ?_
    rotate_left
    ·intro w hSw;(try dsimp only at hSw);go_simp;try with_reducible rfl
    try simp only [Act.put,pq]
    refine tkE (i:=11) (d:=47) (v:=?_) rfl (Or.inl ⟨by rfl,?_⟩) hS0 ?_
    rotate_left
    ·intro w hSw;(try dsimp only at hSw);go_simp;try with_reducible rfl
    try simp only [Act.put,pq]
    refine tkE (i:=12) (d:=48) (v:=?_) rfl (Or.inl ⟨by rfl,?_⟩) hS0 ?_
    rotate_left
    ·intro D hD;refine exec_load_at (x:=.tmp 47) ?_ g (off+i*18+8) ?_ [.int .i64 k2,.int .u32 (p2:Int),.int .u32 (m2:Int),.bool n2,.int .i64 a2,.int .i64 b2,.slice o2 N2 c2] _ (fun j u hu=>(show Ext W D from hD).cell_some (HRG.out j u hu) id) Tryz.underlying98 rfl (by kernel_rfl) <;> first | rfl | (simp;done)
    try simp only [Act.put,pq]
    refine wpAnyE_ready (rs:=[6]) (by kernel_rfl) (by simp) ?_
    refine AllReadyE.cons rfl (fun K hK=>?_) AllReadyE.nil
    (try rw [if_pos (show Region.wanted _ _=true from rfl)])
    go_simp
    refine(HC1.out _ hS0).mono ?_
    rintro e V2 ⟨rfl,hE2⟩
    have hS1:Ext W V2:=hS0.trans hE2
    clear hE2 hS0
    refine hK _ _ hS1 (fun _=>?_)
    clear hK K
    try simp only [Act.put,pq]
    refine tkE (i:=7) (d:=43) (v:=?_) rfl (Or.inl ⟨by rfl,?_⟩) hS1 ?_
    rotate_left
    ·intro w hSw;(try dsimp only at hSw);go_simp;try with_reducible rfl
    try simp only [Act.put,pq]
    refine wpAnyE_ready (rs:=[13]) (by kernel_rfl) (by simp) ?_
    refine AllReadyE.cons rfl (fun K hK=>?_) AllReadyE.nil
    (try rw [if_pos (show Region.wanted _ _=true from rfl)])
    go_simp
    refine(HC2.out _ hS1).mono ?_
    rintro e V3 ⟨rfl,hE3⟩
    have hS2:Ext W V3:=hS1.trans hE3
    clear hE3 hS1
    refine hK _ _ hS2 (fun _=>?_)
    clear hK K
    try simp only [Act.put,pq]
    refine tkE (i:=14) (d:=50) (v:=?_) rfl (Or.inl ⟨by rfl,?_⟩) hS2 ?_
    rotate_left
    ·intro w hSw;(try dsimp only at hSw);go_simp;try with_reducible rfl
    try simp only [Act.put,pq]
    refine tkE (i:=15) (d:=5) (v:=?_) rfl (Or.inl ⟨by rfl,?_⟩) hS2 ?_
    rotate_left
    ·intro w hSw;(try dsimp only at hSw);go_simp;try with_reducible rfl
    try simp only [Act.put,pq]
    refine wpAnyE_done (by kernel_rfl) ?_ _
    have HS2:=Lib.hid hS2
    clear hS2 HC1 HC2 HLG HRG hwk1 hwk2
    go_wp2
    exact⟨⟨i+1,z2,by omega,by omega,hzf,by first | rfl | trivial,⟨rfl,rfl,rfl,rfl,rfl⟩,HE.out.trans HS2.out⟩,by first | (simp [intOf];done) | (simp [intOf];omega)⟩
   have hne:¬ (i:Int)<(n:Int)\/((i:Int)<(n:Int)/\¬ (i:Int)<=6):=by omega
   rcases hne with h1 | ⟨h1,h2⟩
   ·clear HL
    go_wp2
    refine wp_loop (LigK m z (.slice lo n lc) (.slice po m pc) w) (fun a _=>((m:Int) - intOf (a.tmps.getD 7 undef)).toNat) ?_ ?_
    ·exact⟨0,by omega,rfl,⟨rfl,rfl,rfl,rfl,rfl⟩,HE.out⟩
    clear HE
    rintro⟨t,_⟩ W ⟨k,hk,hds,⟨hsz,f0,f1,f5,f7⟩,hE⟩
    subst hds
    obtain⟨u',hu⟩:=frame_fun hsz
    obtain⟨u,rfl⟩:∃ x,x=u':=⟨_,rfl⟩
    have hu':t=#[u 0,u 1,u 2,u 3,u 4,u 5,u 6,u 7,u 8,u 9,u 10,u 11,u 12,u 13,u 14,u 15,u 16,u 17,u 18,u 19,u 20,u 21,u 22,u 23,u 24,u 25,u 26,u 27,u 28,u 29,u 30,u 31,u 32,u 33,u 34,u 35,u 36,u 37,u 38,u 39,u 40,u 41,u 42,u 43,u 44,u 45,u 46,u 47,u 48,u 49,u 50,u 51,u 52,u 53,u 54,u 55,u 56,u 57,u 58,u 59,u 60,u 61,u 62,u 63,u 64,u 65,u 66,u 67,u 68,u 69,u 70,u 71,u 72,u 73,u 74,u 75,u 76,u 77,u 78,u 79,u 80,u 81,u 82,u 83,u 84]:=hu
    clear hu
    subst hu'
    change u 0=_ at f0
    change u 1=_ at f1
    change u 5=_ at f5
    change u 7=_ at f7
    rw [f0,f1,f5,f7]
    clear f0 f1 f5 f7 hsz
    have HE:=Lib.hid hE
    clear hE
    by_cases hkm:k<m
    case pos=>
     have h3:(k:Int)<(m:Int):=by omega
     have h30:(0:Int)<=(k:Int):=by omega
     have hkq:k<qs.length:=by rw [HM.out];exact hkm
     obtain⟨g,off,c',hq,hrg,⟨u,v,hcs,hu,hv⟩,zz2⟩:=StrAt.at (pairs_ext HP.out HE.out) hkq
     replace hq:=hq (by decide)
     obtain⟨hq,hg⟩:=hq
     simp only [Value.slice.injEq] at hq
     obtain⟨rfl,hzq,rfl⟩:=hq
     rw [hcs] at hrg
     obtain⟨fo,fc,rfl,huw,zz3⟩:=hu
     obtain⟨qo,qc,rfl,hvw,zz4⟩:=hv
     have d0:=hrg 0 _ rfl
     have d1:=hrg 1 _ rfl
     rw [Nat.add_zero] at d0
     obtain⟨fl,hfl⟩:∃ x,qs[k].1.1.length=x:=⟨_,rfl⟩
     obtain⟨tl,htl⟩:∃ x,qs[k].1.2.length=x:=⟨_,rfl⟩
     rw [hfl] at d0
     rw [htl] at d1
     clear hrg hcs huw hvw zz2 zz3 zz4 hg hfl htl hzq HP HRE
     by_cases hf:100<fl
     ·have g5:(fl:Int) > 100:=by omega
      go_wp2
      go_ret
      exact⟨false,rfl,HE.out⟩
     ·have g5:¬ (fl:Int) > 100:=by omega
      by_cases ht:100<tl
      ·have g6:(tl:Int) > 100:=by omega
       go_wp2
       go_ret
       exact⟨false,rfl,HE.out⟩
      ·have g6:¬ (tl:Int) > 100:=by omega
       go_wp2
       exact⟨⟨k+1,by omega,by first | rfl | trivial,⟨rfl,rfl,rfl,rfl,rfl⟩,HE.out⟩,by first | (simp [intOf];done) | (simp [intOf];omega)⟩
    have h3:¬ (k:Int)<(m:Int):=by omega
    clear HP
    by_cases hz40:z<=40
    ·have g5:(z:Int)<=40:=by omega
     have hrr:=HRE.out W HE.out
     have HRR:=Lib.hid hrr
     clear hrr HRE
     go_wp2_with fail
     refine HRR.out.mono ?_
     rintro e W2 ⟨y,hy,rfl,hE2⟩
     have HE2:=Lib.hid (HE.out.trans hE2)
     clear hE2 HRR
     by_cases hy4:y<=4
     ·have g6:(y:Int)<=4:=by omega
      go_wp2
      go_ret
      exact⟨_,rfl,HE2.out⟩
     ·have g6:¬ (y:Int)<=4:=by omega
      go_wp2
      go_ret
      exact⟨_,rfl,HE2.out⟩
    ·have g5:¬ (z:Int)<=40:=by omega
     clear HRE
     go_wp2
     go_ret
     exact⟨_,rfl,HE.out⟩
   ·clear HL
    go_wp2
    refine wp_loop (LigK m z (.slice lo n lc) (.slice po m pc) w) (fun a _=>((m:Int) - intOf (a.tmps.getD 7 undef)).toNat) ?_ ?_
    ·exact⟨0,by omega,rfl,⟨rfl,rfl,rfl,rfl,rfl⟩,HE.out⟩
    clear HE
    rintro⟨t,_⟩ W ⟨k,hk,hds,⟨hsz,f0,f1,f5,f7⟩,hE⟩
    subst hds
    obtain⟨u',hu⟩:=frame_fun hsz
    obtain⟨u,rfl⟩:∃ x,x=u':=⟨_,rfl⟩
    have hu':t=#[u 0,u 1,u 2,u 3,u 4,u 5,u 6,u 7,u 8,u 9,u 10,u 11,u 12,u 13,u 14,u 15,u 16,u 17,u 18,u 19,u 20,u 21,u 22,u 23,u 24,u 25,u 26,u 27,u 28,u 29,u 30,u 31,u 32,u 33,u 34,u 35,u 36,u 37,u 38,u 39,u 40,u 41,u 42,u 43,u 44,u 45,u 46,u 47,u 48,u 49,u 50,u 51,u 52,u 53,u 54,u 55,u 56,u 57,u 58,u 59,u 60,u 61,u 62,u 63,u 64,u 65,u 66,u 67,u 68,u 69,u 70,u 71,u 72,u 73,u 74,u 75,u 76,u 77,u 78,u 79,u 80,u 81,u 82,u 83,u 84]:=hu
    clear hu
    subst hu'
    change u 0=_ at f0
    change u 1=_ at f1
    change u 5=_ at f5
    change u 7=_ at f7
    rw [f0,f1,f5,f7]
    clear f0 f1 f5 f7 hsz
    have HE:=Lib.hid hE
    clear hE
    by_cases hkm:k<m
    case pos=>
     have h3:(k:Int)<(m:Int):=by omega
     have h30:(0:Int)<=(k:Int):=by omega
     have hkq:k<qs.length:=by rw [HM.out];exact hkm
     obtain⟨g,off,c',hq,hrg,⟨u,v,hcs,hu,hv⟩,zz2⟩:=StrAt.at (pairs_ext HP.out HE.out) hkq
     replace hq:=hq (by decide)
     obtain⟨hq,hg⟩:=hq
     simp only [Value.slice.injEq] at hq
     obtain⟨rfl,hzq,rfl⟩:=hq
     rw [hcs] at hrg
     obtain⟨fo,fc,rfl,huw,zz3⟩:=hu
     obtain⟨qo,qc,rfl,hvw,zz4⟩:=hv
     have d0:=hrg 0 _ rfl
     have d1:=hrg 1 _ rfl
     rw [Nat.add_zero] at d0
     obtain⟨fl,hfl⟩:∃ x,qs[k].1.1.length=x:=⟨_,rfl⟩
     obtain⟨tl,htl⟩:∃ x,qs[k].1.2.length=x:=⟨_,rfl⟩
     rw [hfl] at d0
     rw [htl] at d1
     clear hrg hcs huw hvw zz2 zz3 zz4 hg hfl htl hzq HP HRE
     by_cases hf:100<fl
     ·have g5:(fl:Int) > 100:=by omega
      go_wp2
      go_ret
      exact⟨false,rfl,HE.out⟩
     ·have g5:¬ (fl:Int) > 100:=by omega
      by_cases ht:100<tl
      ·have g6:(tl:Int) > 100:=by omega
       go_wp2
       go_ret
       exact⟨false,rfl,HE.out⟩
      ·have g6:¬ (tl:Int) > 100:=by omega
       go_wp2
       exact⟨⟨k+1,by omega,by first | rfl | trivial,⟨rfl,rfl,rfl,rfl,rfl⟩,HE.out⟩,by first | (simp [intOf];done) | (simp [intOf];omega)⟩
    have h3:¬ (k:Int)<(m:Int):=by omega
    clear HP
    by_cases hz40:z<=40
    ·have g5:(z:Int)<=40:=by omega
     have hrr:=HRE.out W HE.out
     have HRR:=Lib.hid hrr
     clear hrr HRE
     go_wp2_with fail
     refine HRR.out.mono ?_
     rintro e W2 ⟨y,hy,rfl,hE2⟩
     have HE2:=Lib.hid (HE.out.trans hE2)
     clear hE2 HRR
     by_cases hy4:y<=4
     ·have g6:(y:Int)<=4:=by omega
      go_wp2
      go_ret
      exact⟨_,rfl,HE2.out⟩
     ·have g6:¬ (y:Int)<=4:=by omega
      go_wp2
      go_ret
      exact⟨_,rfl,HE2.out⟩
    ·have g5:¬ (z:Int)<=40:=by omega
     clear HRE
     go_wp2
     go_ret
     exact⟨_,rfl,HE.out⟩
def ValidB(ps:LawsL)(qs:PairsL)(w:World)(e:Ending)(w':World):Prop:=∃ b:Bool,e=.returned (.bool b)/\(b=true->GoodLP (ps.map (·.1)) (qs.map (·.1)))/\Ext w w'
def ValSt(m:Nat)(pv:Value)(QS:List (Wd × Wd)) (w:World) (a:Act) (W:World):Prop:=∃(k:Nat),k<=m/\a.defers=[]/\(a.tmps.size=47/\a.tmps.getD 1 undef=pv/\a.tmps.getD 5 undef=.int .i64 k)/\(∀ q∈QS.take k,wE q.1=0/\wE q.2=0)/\Ext w W
theorem ovalid_any{w:World}{ps:LawsL}{qs:PairsL}{lo:Option Addr}{n lc:Nat}{po:Option Addr}{m pc:Nat}(hl:LawsAt w (.slice lo n lc) ps) (hn:ps.length=n) (hp:PairsAt w (.slice po m pc) qs) (hm:qs.length=m) (hT:Tab w) :
  Calls Tryz.prog 42 #[.slice lo n lc,.slice po m pc] w (ValidB ps qs w):=by
 have hnm:n<=maxLen:=by rw [<-hn];exact hl.1.2.1
 have hmm:m<=maxLen:=by rw [<-hm];exact hp.1.2.1
 unfold maxLen at hnm hmm
 have hli:=light_any hl hn hp hm
 have hdc:=fun(V:World) (hE:Ext w V)=>dCheck_any (hl.ext hE) hn (hT.keep hE id)
 have hwc:=fun(V:World) (hE:Ext w V) (v:Value) (u:Wd) (h:WordAt V v u)=>wcheck_any h
 have hgood:n<=4->m<=5->lawsE (ps.map (·.1))=0->(∀ q∈qs.map (·.1),wE q.1=0/\wE q.2=0)->GoodLP (ps.map (·.1)) (qs.map (·.1)):=fun h1 h2 h3 h4=>⟨by rw [List.length_map,hn];exact h1,by rw [List.length_map,hm];exact h2,ordE_of (by rw [List.length_map,hn];omega) (lawsE_zero h3) (by rw [List.length_map,hm];omega) h4⟩
 obtain⟨LE,hLE⟩:∃ x,lawsE (ps.map (·.1))=x:=⟨_,rfl⟩
 simp only [hLE] at hdc hgood
 obtain⟨QS,hQS⟩:∃ x,qs.map (·.1)=x:=⟨_,rfl⟩
 rw [hQS] at hgood
 have hQl:QS.length=m:=by rw [<-hQS,List.length_map,hm]
 have hQk:∀ k (h:k<qs.length) (h':k<QS.length),QS[k]=qs[k].1:=fun k h h'=>by subst hQS;rw [List.getElem_map]
 have hfin:∀(b:Bool) (W:World),(b=true->GoodLP (ps.map (·.1)) QS)->Ext w W->ValidB ps qs w (.returned (.bool b)) W:=fun b W h hE=>⟨b,rfl,fun hb=>by rw [hQS];exact h hb,hE⟩
 obtain⟨GP,hGP⟩:∃ p,GoodLP (ps.map (·.1)) QS=p:=⟨_,rfl⟩
 rw [hGP] at hgood
 simp only [hGP] at hfin
 have HLI:=Lib.hid hli;have HDC:=Lib.hid hdc;have HWC:=Lib.hid hwc;have HG:=Lib.hid hgood;have HP:=Lib.hid hp;have HM:=Lib.hid hm;have HQL:=Lib.hid hQl;have HQK:=Lib.hid hQk;have HF:=Lib.hid hfin
 clear hli hdc hwc hgood hl hn hp hm hT hLE hQl hQk hfin hQS hGP
 go_enter Tryz.func42,Tryz.ntmps42
 go_wp2_with fail
 refine HLI.out.mono ?_
 rintro e w1 ⟨b,rfl,hE1⟩
 have HE1:=Lib.hid hE1
 clear hE1 HLI
 cases b with
 | false=>
  clear HDC HWC HG
  go_wp2
  go_ret
  exact HF.out false _ (fun h=>by cases h) HE1.out
 | true=>
  by_cases hn4:n<=4
  case neg=>
   have g1:(n:Int) > 4:=by omega
   clear HDC HWC HG
   go_wp2
   go_ret
   exact HF.out false _ (fun h=>by cases h) HE1.out
  have g1:¬ (n:Int) > 4:=by omega
  by_cases hm5:m<=5
  case neg=>
   have g2:(m:Int) > 5:=by omega
   clear HDC HWC HG
   go_wp2
   go_ret
   exact HF.out false _ (fun h=>by cases h) HE1.out
  have g2:¬ (m:Int) > 5:=by omega
  have hdc:=HDC.out w1 HE1.out
  have HDC2:=Lib.hid hdc
  clear hdc HDC
  go_wp2_with fail
  refine HDC2.out.mono ?_
  rintro e w2 ⟨rfl,hE2⟩
  have HE2:=Lib.hid (HE1.out.trans hE2)
  clear hE2 HDC2 HE1
  by_cases hLE:LE=0
  case neg=>
   have g3:(LE != 0)=true:=by rw [bne_iff_ne];exact hLE
   clear HWC HG
   go_wp2
   go_ret
   exact HF.out false _ (fun h=>by cases h) HE2.out
  subst hLE
  go_wp2
  clear g1 g2
  refine wp_loop (ValSt m (.slice po m pc) QS w) (fun a _=>((m:Int) - intOf (a.tmps.getD 5 undef)).toNat) ?_ ?_
  ·exact⟨0,by omega,rfl,⟨rfl,rfl,rfl⟩,(fun q h=>by cases h),HE2.out⟩
  clear HE2
  rintro⟨t,_⟩ W ⟨k,hk,hds,⟨hsz,f1,f5⟩,hall,hE⟩
  subst hds
  obtain⟨u',hu⟩:=frame_fun hsz
  obtain⟨u,rfl⟩:∃ x,x=u':=⟨_,rfl⟩
  have hu':t=#[u 0,u 1,u 2,u 3,u 4,u 5,u 6,u 7,u 8,u 9,u 10,u 11,u 12,u 13,u 14,u 15,u 16,u 17,u 18,u 19,u 20,u 21,u 22,u 23,u 24,u 25,u 26,u 27,u 28,u 29,u 30,u 31,u 32,u 33,u 34,u 35,u 36,u 37,u 38,u 39,u 40,u 41,u 42,u 43,u 44,u 45,u 46]:=hu
  clear hu
  subst hu'
  change u 1=_ at f1
  change u 5=_ at f5
  rw [f1,f5]
  clear f1 f5 hsz
  have HE:=Lib.hid hE;have HALL:=Lib.hid hall
  clear hE hall
  by_cases hkm:k<m
  case neg=>
   obtain rfl:k=m:=by omega
   have h3:¬ (k:Int)<(k:Int):=by omega
   have hgp:=HG.out hn4 hm5 (by first | trivial | rfl) (by have:=HALL.out;rwa [List.take_of_length_le (by rw [HQL.out];exact Nat.le_refl _)] at this)
   have HGP:=Lib.hid hgp
   clear hgp HWC HG HP HALL
   go_wp2
   go_ret
   exact HF.out true _ (fun _=>HGP.out) HE.out
  have h3:(k:Int)<(m:Int):=by omega
  have h30:(0:Int)<=(k:Int):=by omega
  have hkq:k<qs.length:=by rw [HM.out];exact hkm
  have hkQ:k<QS.length:=by rw [HQL.out];exact hkm
  have hqk:=HQK.out k hkq hkQ
  have hts:QS.take (k+1)=QS.take k++[QS[k]]:=List.take_succ_eq_append_getElem hkQ
  obtain⟨g,off,c',hq,hrg,⟨u,v,hcs,hu,hv⟩,zz2⟩:=StrAt.at (pairs_ext HP.out HE.out) hkq
  replace hq:=hq (by decide)
  obtain⟨hq,hg⟩:=hq
  simp only [Value.slice.injEq] at hq
  obtain⟨rfl,hzq,rfl⟩:=hq
  rw [hcs] at hrg
  obtain⟨fo,fc,rfl,huw,zz3⟩:=hu
  obtain⟨qo,qc,rfl,hvw,zz4⟩:=hv
  have d0:=hrg 0 _ rfl
  have d1:=hrg 1 _ rfl
  rw [Nat.add_zero] at d0
  have hc0:=HWC.out W HE.out _ _ huw
  have hc1:=fun(V:World) (hV:Ext W V)=>HWC.out V (HE.out.trans hV) _ _ (hvw.ext hV)
  obtain⟨E0,hE0⟩:∃ x,wE qs[k].1.1=x:=⟨_,rfl⟩
  obtain⟨E1,hE1⟩:∃ x,wE qs[k].1.2=x:=⟨_,rfl⟩
  rw [hE0] at hc0
  simp only [hE1] at hc1
  have hnx:E0=0->E1=0->∀ q∈QS.take (k+1),wE q.1=0/\wE q.2=0:=fun h0 h1 q hq=>by
   rw [hts] at hq
   rcases List.mem_append.1 hq with hq | hq
   ·exact HALL.out q hq
   ·rw [List.mem_singleton] at hq
    subst hq
    rw [hqk]
    exact⟨hE0.trans h0,hE1.trans h1⟩
  obtain⟨fl,hfl⟩:∃ x,qs[k].1.1.length=x:=⟨_,rfl⟩
  obtain⟨tl,htl⟩:∃ x,qs[k].1.2.length=x:=⟨_,rfl⟩
  rw [hfl] at d0 hc0
  simp only [htl] at d1 hc1
  have HC0:=Lib.hid hc0;have HC1:=Lib.hid hc1;have HNX:=Lib.hid hnx;have HD1:=Lib.hid d1
  clear hc0 hc1 hnx hrg hcs huw hvw zz2 zz3 zz4 hg hfl htl hzq hE0 hE1 hqk hts HG HALL d1
  go_wp2_with fail
  refine HC0.out.mono ?_
  rintro e W2 ⟨rfl,hE2⟩
  have HE2:=Lib.hid hE2
  have d1:=hE2.cell_some HD1.out id
  clear hE2 HC0 d0 HD1
  by_cases h0:E0=0
  case neg=>
   have g5:(E0 != 0)=true:=by rw [bne_iff_ne];exact h0
   clear HC1 HNX
   go_wp2
   go_ret
   exact HF.out false _ (fun h=>by cases h) (HE.out.trans HE2.out)
  subst h0
  have hc1:=HC1.out W2 HE2.out
  have HC2:=Lib.hid hc1
  clear hc1 HC1
  go_wp2_with fail
  refine HC2.out.mono ?_
  rintro e W3 ⟨rfl,hE3⟩
  have HE3:=Lib.hid (HE.out.trans (HE2.out.trans hE3))
  clear hE3 HC2 d1
  by_cases h1:E1=0
  case neg=>
   have g5:(E1 != 0)=true:=by rw [bne_iff_ne];exact h1
   clear HNX
   go_wp2
   go_ret
   exact HF.out false _ (fun h=>by cases h) HE3.out
  subst h1
  have hnx:=HNX.out (by first | trivial | rfl) (by first | trivial | rfl)
  have HN2:=Lib.hid hnx
  clear hnx HNX
  go_wp2
  exact⟨⟨k+1,by omega,by first | rfl | trivial,⟨rfl,rfl,rfl⟩,HN2.out,HE3.out⟩,by first | (simp [intOf];done) | (simp [intOf];omega)⟩
end Go.Proofs.YtfdlhlghcbeblaaGreatDoor
