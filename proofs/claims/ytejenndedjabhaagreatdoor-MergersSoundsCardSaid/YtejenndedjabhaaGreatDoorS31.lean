/- What a case of chapter 15 reads as. -/
import Derived.Test.YtejenndedjabhaaGreatDoorS24
import Derived.Test.YtejenndedjabhaaGreatDoorS19
set_option maxRecDepth 100000
namespace Go.Proofs.YtejenndedjabhaaGreatDoor
open Go.RowKit Go.Ab Go.ChangeShapes Go.WideShapes
section
variable {H:Type} {enc:TypeId × Value->H} {w:World} {base b0:Nat} {held:Bool} {r:Reach} {v:Value} {d:DataW H} {ps:List MemPlace}
theorem Q0i:Tryz.prog.cellsOf 28=6:=by kernel_rfl
theorem Ba:Tryz.prog.cellsOf 22=1:=by kernel_rfl
theorem By(I:Value.okWide Tryz.prog w r b0 28 v)(E:DataW.Trod enc Tryz.prog w base (fun _=>true) held 28 v d ps) :
  ∃(ls:Qr) (lo:Option Addr) (lc:Nat) (FL:Wd) (fo:Option Addr) (fc:Nat) (FR:Wd) (ro:Option Addr) (rc:Nat) (S:Wd) (so:Option Addr) (sc:Nat) (p m:Nat),
   v=.agg #[.slice lo ls.length lc,.slice fo FL.length fc,.slice ro FR.length rc,.slice so S.length sc,.int .u32 (p:Int),.int .u32 (m:Int)]/\Qt w (.slice lo ls.length lc) ls/\ls.length<=lc /\
   Q4 w (.slice fo FL.length fc) FL/\Q4 w (.slice ro FR.length rc) FR/\Q4 w (.slice so S.length sc) S/\S.length<=sc/\Qh (p,m):=by
 obtain⟨cs,rfl,O⟩:=okWide_struct Tryz.underlying28 I;obtain⟨y,a⟩:=E;have a:DataW.trod enc Tryz.prog w base (fun _=>true) held y 28 cs.toList=some (d,ps):=a;obtain⟨q,b,rfl,_,o,g,a⟩:=DataW.trod_struct Tryz.underlying28 a;rw [Q0i] at o;have g:q.length=5:=g
 match q,g with
 | [y0,y1,y2,y3,y4],_=>
 have i:DataW.trod enc Tryz.prog w base (fun _=>true) held b 22 ((cs.toList.drop 0).take (Tryz.prog.cellsOf 22))=some y0:=a 0 _ rfl;have j:DataW.trod enc Tryz.prog w base (fun _=>true) held b 23 ((cs.toList.drop 1).take (Tryz.prog.cellsOf 23))=some y1:=a 1 _ rfl;have k:DataW.trod enc Tryz.prog w base (fun _=>true) held b 23 ((cs.toList.drop 2).take (Tryz.prog.cellsOf 23))=some y2:=a 2 _ rfl;have l:DataW.trod enc Tryz.prog w base (fun _=>true) held b 23 ((cs.toList.drop 3).take (Tryz.prog.cellsOf 23))=some y3:=a 3 _ rfl;have n:DataW.trod enc Tryz.prog w base (fun _=>true) held b 26 ((cs.toList.drop 4).take (Tryz.prog.cellsOf 26))=some y4:=a 4 _ rfl;rw [Ba] at i;rw [Fj] at j k l;rw [Gi] at n;obtain⟨f,F,rfl⟩:∃ f:List Value,f.length=6/\cs=f.toArray:=⟨cs.toList,by simpa using o,by simp⟩
 match f,F with
 | [c0,c1,c2,c3,c4,c5],_=>
 obtain⟨ls,z,A,lo,lc,B,C⟩:=Ky (c:=c0) (α:=Q7 × List Value) Tryz.underlying22 Lf zd (fun p=>p.2) (fun p=>Zq w p.1 p.2) (fun h=>Q0z h) i;obtain⟨FL,fo,fc,s,J,M⟩:=Gd (c:=c1) j;obtain⟨FR,ro,rc,t,K,N⟩:=Gd (c:=c2) k;obtain⟨S,so,sc,u,L,D⟩:=Gd (c:=c3) l;obtain⟨p,m,e,H,G⟩:=Fg (cs:=[c4,c5]) n;simp only [List.cons.injEq,and_true] at e;obtain⟨e,x⟩:=e;subst B s t u e x;exact⟨ls,lo,lc,FL,fo,fc,FR,ro,rc,S,so,sc,p,m,rfl,⟨z,A⟩,C,J,K,L,D,H,G⟩
theorem Q7e(l:Value.okWide Tryz.prog w r b0 26 v)(k:DataW.Trod enc Tryz.prog w base (fun _=>true) held 26 v d ps):∃ a b:Nat,v=.agg #[.int .u32 (a:Int),.int .u32 (b:Int)]/\Qh (a,b):=by
 obtain⟨c,rfl,m⟩:=okWide_struct Tryz.underlying26 l;obtain⟨f,e⟩:=k;have e:DataW.trod enc Tryz.prog w base (fun _=>true) held f 26 c.toList=some (d,ps):=e;obtain⟨a,b,g,i,j⟩:=Fg e;refine⟨a,b,?_,i,j⟩;have:c=c.toList.toArray:=by simp
 rw [this,g]
theorem Q3b:Tryz.prog.cellsOf 5=1:=by kernel_rfl
theorem Qb3(l:List Nat):(l.flatMap fun(x:Nat)=>[Value.int .u8 (x:Int)])=u8V l:=by
 induction l with
 | nil=>rfl
 | cons x l ih=>rw [List.flatMap_cons,ih];rfl
theorem Q1y(o:Value.okWide Tryz.prog w r b0 40 v)(n:DataW.Trod enc Tryz.prog w base (fun _=>true) held 40 v d ps):∃(l:List Nat) (vo:Option Addr) (vc:Nat),v=.slice vo l.length vc/\Rd w (.slice vo l.length vc) l.length 1 (u8V l)/\l.length<=vc/\∀ x∈l,x<256:=by
 obtain⟨f,q,g,rfl⟩:=okWide_slice Tryz.underlying40 o;obtain⟨j,a⟩:=n;have a:DataW.trod enc Tryz.prog w base (fun _=>true) held j 40 [.slice f q g]=some (d,ps):=by simpa [Value.cells] using a
 obtain⟨l,c,k,vo,vc,e,m⟩:=Ky (α:=Nat) Tryz.underlying40 Q3b zd (fun x=>[Value.int .u8 (x:Int)]) (fun x=>x<256)
  (fun h=>by
   obtain⟨b,i,_,p⟩:=DataW.trod_int Tryz.underlying5 h;have s:=bounds_u8 p;refine⟨b.toNat,?_,by omega⟩;rw [i];have:((b.toNat:Nat):Int)=b:=by omega
   rw [this]) a
 rw [Qb3,e] at c;exact⟨l,vo,vc,e,c,m,k⟩
end
end Go.Proofs.YtejenndedjabhaaGreatDoor
