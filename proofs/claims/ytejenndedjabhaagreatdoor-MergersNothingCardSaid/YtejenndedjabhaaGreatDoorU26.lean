/- MergersLabels: -/
import Derived.Test.YtejenndedjabhaaGreatDoorU25
set_option maxRecDepth 100000
set_option maxHeartbeats 16000000
namespace Go.Proofs.YtejenndedjabhaaGreatDoor
open Go.RowKit Go.Ab
theorem L8(pl:List Wd)(w:Wd):∀ n,(Y2 pl w n=-1/\∀ j,j<n->pl.getD j []≠w)\/∃ j,j<n/\Y2 pl w n=(j:Int)/\pl.getD j []=w
 | 0=>.inl ⟨rfl,fun j h=>absurd h (Nat.not_lt_zero j)⟩
 | n+1=>by
  by_cases h:pl.getD n []=w
  ·exact .inr ⟨n,by omega,by unfold Y2;rw [if_pos h],h⟩
  ·have hu:Y2 pl w (n+1)=Y2 pl w n:=by rw [Y2,if_neg h]
   rw [hu];rcases L8 pl w n with ⟨b,a⟩ | ⟨j,b,a,d⟩
   ·refine .inl ⟨b,fun j hj=>?_⟩;by_cases c:j=n
    ·subst c;exact h
    ·exact a j oz
   ·exact .inr ⟨j,by omega,a,d⟩
theorem Nn{a b:Wd}{s t:Nat × Nat}(h:Qg a b s=Qg a b t):s=t:=by
 unfold Qg at h;have c:=List.append_cancel_right h;have d:=List.append_cancel_left c
 simpa using d
theorem Q4k:∀ i:Nat,i<8->∀ j:Nat,j<8->Zb 0 i=Zb 0 j->i=j:=by decide
theorem Q7h:∀ q:Nat,q<64->okS (q,63 - q)=true:=by decide
theorem T9(n sh:Nat):∀ s∈Z7 n sh,okS s=true:=fun s hs=>by
 obtain⟨i,_,rfl⟩:=List.mem_map.1 hs;exact Q7h _ (Nat.mod_lt _ zd)
theorem Ln{sh i j:Nat}(b:i<64)(c:j<64)(h:Zb sh i=Zb sh j):i=j:=by
 unfold Zb at h;have a:=(Prod.mk.inj h).1;omega
theorem Ra{n sh i:Nat}(h:i<n):(Z7 n sh).getD i (0,0)=Zb sh i:=by
 rw [List.getD_eq_getElem?_getD];simp [Z7,h]
theorem Cv{n sh:Nat}(a:n<=64):(Z7 n sh).Nodup:=by
 unfold Z7;refine List.pairwise_map.2 ((List.pairwise_iff_getElem.2 fun i j hi hj hij e=>?_));rw [List.length_range] at hi hj;simp only [List.getElem_range] at e;have:=Ln oz oz e;omega
theorem Nk{n sh:Nat}(m:Nat)(a:n<=64)(b:n<=m):Yd (Z7 n sh) m=0:=by
 unfold Yd;rw [if_neg (by rw [Zw];omega),if_pos (List.all_eq_true.2 (T9 n sh)),if_pos (Cv a)]
theorem Bv{u:Wd}(h:wE u=0):Xu [] u=0/\X5 [] u=u:=Hg (ls:=[]) (by unfold Zz;rw [if_pos (show Qz []=0 from rfl)];exact h) rfl
section
variable {a b:Wd} (ha:wE a=0) (hb:wE b=0) (hab:a.length+b.length<=31)
include ha hb hab
theorem Q18{n sh:Nat}(g:n<=64):Zx [] a b (Z7 n sh)=0/\Zi [] a b (Z7 n sh)=Zm a b (Z7 n sh):=by
 have f:∀ c∈Z7 n sh,Xu [] (Qg a b c)=0/\X5 [] (Qg a b c)=Qg a b c:=fun c d=>Bv (Rv ha hb (T9 n sh c d) hab);have e:Zx [] a b (Z7 n sh)=0:=by
  unfold Zx;rw [if_pos (by unfold Z4;rw [if_pos (show Qz []=0 from rfl),if_pos ha];exact hb),if_pos (Nk 64 g g)];have:∀ l:List Int,(∀ x∈l,x=0)->Ql l=0:=fun l h=>(Fl (fun x hx=>.inl (h x hx))).2.2 h;refine this _ fun x hx=>?_
  obtain⟨c,d,rfl⟩:=List.mem_map.1 hx;exact(f c d).1
 refine⟨e,?_⟩;unfold Zi Zm;rw [if_pos e];exact List.map_congr_left fun c d=>(f c d).2
end
theorem Kl{a b:Wd}{n sh i:Nat}(h:i<n):(Zm a b (Z7 n sh)).getD i []=Qg a b (Zb sh i):=by
 rw [L4 (by rw [Zw];exact h)];simp [Z7]
theorem Tx{a b:Wd}{n sh:Nat}(d:n<=64):Vr (Zm a b (Z7 n sh))=List.range n:=by
 have c:(Zm a b (Z7 n sh)).length=n:=by simp [Zm,Zw]
 unfold Vr;rw [c];conv=>rhs;rw [<-List.map_id (List.range n)]
 refine List.map_congr_left fun k hk=>?_
 rw [List.mem_range] at hk;refine(Pp (Nat.le_refl k) rfl fun i hi e=>?_).symm;rw [Kl oz,Kl hk] at e;have:=Ln oz oz (Nn e);omega
theorem Q2m{a b:Wd}{n sh:Nat}(g:n<=64){k:Nat}(e:k<n):Y2 (Zm a b (Z7 n sh)) (Qg a b (Zb sh k)) n=(k:Int):=by
 rcases L8 (Zm a b (Z7 n sh)) (Qg a b (Zb sh k)) n with ⟨_,c⟩ | ⟨i,f,c,d⟩
 ·exact absurd (Kl e) (c k e)
 ·rw [Kl f] at d;have:=Ln oz oz (Nn d);rw [c,this]
def Xy(n:Nat):List Int:=(List.range n).map fun(i:Nat)=>(i:Int)
theorem Eg{a b:Wd}{n sh:Nat}(g:n<=64):Kb (Zm a b (Z7 n sh)) (Zm a b (Z7 n sh))=Xy n:=by
 have d:(Zm a b (Z7 n sh)).length=n:=by simp [Zm,Zw]
 unfold Kb Xy;rw [d];apply List.ext_getElem
 ·simp [d]
 ·intro i j f;have c:i<n:=by simpa using f
  have e:=Kl (a:=a) (b:=b) (sh:=sh) c;rw [List.getD_eq_getElem?_getD,List.getElem?_eq_getElem (by rw [d];exact c),Option.getD_some] at e;rw [List.getElem_map,List.getElem_map,List.getElem_range,e];exact Q2m g c
theorem Q3m{n i:Nat}(h:i<n):(Xy n).getD i (-1)=(i:Int):=by
 rw [List.getD_eq_getElem?_getD];simp [Xy,h]
theorem Jb(n:Nat):(Xy n).length=n:=by simp [Xy]
theorem Cy{n:Nat}(f:n<=64):Yn (Xy n)=0/\Fz (Xy n)=[]/\Fv (Xy n)=[]:=by
 have d:∀ b,b<n->Ge (Xy n) b=false:=fun b a=>by
  unfold Ge;rw [Q3m a];simp
 refine⟨?_,?_,?_⟩
 ·unfold Yn;rw [if_neg (by rw [Jb];omega),if_neg];intro c;obtain⟨g,e,c⟩:=List.any_eq_true.1 c;obtain⟨b,a,rfl⟩:=List.mem_map.1 e;rw [List.mem_range] at a;rw [Jb,Bool.or_eq_true,decide_eq_true_iff,decide_eq_true_iff] at c;omega
 ·unfold Fz;rw [Jb,List.filter_eq_nil_iff.2,List.map_nil];intro b a;rw [List.mem_range] at a;rw [d b a];simp
 ·unfold Fv;rw [Jb,List.filter_eq_nil_iff.2,List.map_nil];intro b a;rw [List.mem_range] at a;unfold Gd;rw [d b a];simp
-- what words keep apart
def R5(A B:Wd)(i:Nat):Bool:=decide (Zb 0 i∈A) || decide (Zb 0 i∈B)
theorem Q2l{w:Wd}{i:Nat}{s t:Nat × Nat}(c:i<w.length)(h:w.getD i (0,0)=s) (d:s≠t):w≠w.set i t:=by
 intro b;have a:(w.set i t).getD i (0,0)=t:=by rw [List.getD_eq_getElem?_getD];simp [c]
 rw [<-b,h] at a;exact d a
theorem Bw{u v:Wd}(h:u≠v):Gy [] u v=false:=by
 unfold Gy;exact decide_eq_false fun e=>h (Option.some.inj e)
theorem Bx{w:Wd}{s t:Nat × Nat}(k:s≠t):apB [] w s t=(decide (s∈w) || decide (t∈w)):=by
 have i:∀ {x},x∈w->∃ a,a<w.length/\w.getD a (0,0)=x:=fun {x} hx=>by
  obtain⟨a,b,d⟩:=List.getElem_of_mem hx;exact⟨a,b,by rw [List.getD_eq_getElem?_getD,List.getElem?_eq_getElem b];exact d⟩
 have g:∀ a,a<w.length->Lw [] w s t a=(decide (w.getD a (0,0)=s) || decide (w.getD a (0,0)=t)):=fun a b=>by
  unfold Lw;by_cases e:w.getD a (0,0)=s
  ·rw [if_pos e,Bw (Q2l b e k),decide_eq_true e];rfl
  ·rw [if_neg e,decide_eq_false e];by_cases f:w.getD a (0,0)=t
   ·rw [if_pos f,Bw (Q2l b f (Ne.symm k)),decide_eq_true f];rfl
   ·rw [if_neg f,decide_eq_false f];rfl
 unfold apB;rw [Bool.eq_iff_iff,List.any_eq_true,Bool.or_eq_true,decide_eq_true_iff,decide_eq_true_iff];constructor
 ·rintro⟨a,b,c⟩;rw [List.mem_range] at b;rw [g a b,Bool.or_eq_true,decide_eq_true_iff,decide_eq_true_iff] at c;have j:w.getD a (0,0)∈w:=by rw [List.getD_eq_getElem?_getD,List.getElem?_eq_getElem b];exact List.getElem_mem b
  rcases c with c | c
  ·exact .inl (c ▸ j)
  ·exact .inr (c ▸ j)
 ·rintro(c | c)
  ·obtain⟨a,b,d⟩:=i c;exact⟨a,List.mem_range.2 b,by rw [g a b,d];simp⟩
  ·obtain⟨a,b,d⟩:=i c;exact⟨a,List.mem_range.2 b,by rw [g a b,d];simp⟩
theorem Q05{f g:Nat->Nat->Bool}{i:Nat}(h:∀ k,k<i->f i k=g i k)(L:List Nat){k:Nat}(a:k<i):Ue f i L k=Ue g i L k:=by unfold Ue;rw [h k a]
theorem Lb{f g:Nat->Nat->Bool}{i:Nat}(h:∀ k,k<i->f i k=g i k)(L:List Nat):∀ k,k<=i->Jv f i L k=Jv g i L k
 | 0,_=>rfl
 | k+1,hk=>by rw [Ve,Ve,Lb h L k oz,Q05 h _ oz]
theorem Wb{f g:Nat->Nat->Bool}:∀ n,(∀ i,i<n->∀ k,k<i->f i k=g i k)->U3 f n=U3 g n
 | 0,_=>rfl
 | n+1,h=>by rw [Kg,Kg,Wb n fun i hi=>h i oz,Lb (h n oz) _ n (Nat.le_refl n)]
def Xn(U:Nat->Bool):Nat->Int
 | 0=>-1
 | k+1=>if Xn U k<0 then(if U k=true then -1 else(k:Int)) else Xn U k
def Kt(U:Nat->Bool)(k:Nat):Nat:=if U k=true then k else(Xn U (k+1)).toNat
def us(l:List Bool)(i:Nat):Bool:=l.getD i true
theorem Q7r:∀ b0 b1 b2 b3 b4 b5 b6 b7:Bool,U3 (fun i k=>us [b0,b1,b2,b3,b4,b5,b6,b7] i || us [b0,b1,b2,b3,b4,b5,b6,b7] k) 8=(List.range 8).map (Kt (us [b0,b1,b2,b3,b4,b5,b6,b7])):=by decide
theorem Mr{U V:Nat->Bool}:∀ n,(∀ i,i<n->U i=V i)->Xn U n=Xn V n
 | 0,_=>rfl
 | n+1,h=>by unfold Xn;rw [Mr n fun i hi=>h i oz,h n oz]
theorem Q7b(U:Nat->Bool):U3 (fun i k=>U i || U k) 8=(List.range 8).map (Kt U):=by
 have a:∀ i,i<8->us [U 0,U 1,U 2,U 3,U 4,U 5,U 6,U 7] i=U i:=fun i hi=>by
  have:i=0\/i=1\/i=2\/i=3\/i=4\/i=5\/i=6\/i=7:=by omega
  rcases this with rfl | rfl | rfl | rfl | rfl | rfl | rfl | rfl <;> rfl
 have b:=Q7r (U 0) (U 1) (U 2) (U 3) (U 4) (U 5) (U 6) (U 7);rw [Wb (g:=fun i k=>U i || U k) 8 fun i hi k hk=>by rw [a i hi,a k oz]] at b;rw [b];refine List.map_congr_left fun k hk=>?_
 rw [List.mem_range] at hk;unfold Kt;rw [a k hk,Mr (k+1) fun i hi=>a i oz]
theorem Q3z{U:Nat->Bool}{k:Nat}(h:U k=false):0<=Xn U (k+1):=by
 unfold Xn
 split
 ·rw [h];simp
 ·omega
theorem Q2i{A B:Wd}(c:wE A=0)(d:wE B=0):Xw [] [A,B] (Z7 8 0)=0/\Vx [] [A,B] (Z7 8 0)=(List.range 8).map (Kt (R5 A B)):=by
 have a:Xw [] [A,B] (Z7 8 0)=0:=by
  unfold Xw;rw [if_pos (show Qz []=0 from rfl),if_neg zy,if_pos,Nk 16 zd zd];unfold Km;rw [List.map_cons,List.map_cons,c,d];rfl
 refine⟨a,?_⟩;unfold Vx;rw [if_pos a,Zw,<-Q7b];refine Wb 8 fun i hi k hk=>?_
 rw [Ra hi,Ra oz];have b:Zb 0 i≠Zb 0 k:=fun e=>by have:=Q4k i hi k oz e;omega
 unfold apL R5;rw [List.any_cons,List.any_cons,List.any_nil,Bx b,Bx b];cases decide (Zb 0 i∈A) <;> cases decide (Zb 0 k∈A) <;> cases decide (Zb 0 i∈B) <;> cases decide (Zb 0 k∈B) <;> rfl
theorem Rp{fr:List (Wd × Wd)} {s:Nat × Nat} (b:∀ p∈fr,wE p.1=0/\wE p.2=0/\p.1.length+p.2.length<=31) (e:okS s=true) (j:fr.length<=256):X4 [] fr s=0/\Up [] fr s=fr.map fun _=>false:=by
 have d:∀ p∈fr,Xu [] (Qg p.1 p.2 s)=0/\X5 [] (Qg p.1 p.2 s)=Qg p.1 p.2 s:=fun p a=>Bv (Rv (b p a).1 (b p a).2.1 e (b p a).2.2);have f:∀ l:List Int,(∀ x∈l,x=0)->Ql l=0:=fun l h=>(Fl (fun x hx=>.inl (h x hx))).2.2 h
 have g:Ql (Uw fr)=0:=f _ fun x hx=>by
  unfold Uw at hx;obtain⟨p,a,rfl⟩:=List.mem_map.1 hx;unfold Z4;rw [if_pos (show Qz []=0 from rfl),if_pos (b p a).1];exact(b p a).2.1
 have i:Ql (Db [] fr s)=0:=f _ fun x hx=>by
  unfold Db at hx;obtain⟨p,a,rfl⟩:=List.mem_map.1 hx;exact(d p a).1
 have c:X4 [] fr s=0:=by
  unfold X4;simp only [show Qz []=0 from rfl,g,i,e,if_true];rw [if_neg oz]
 refine⟨c,?_⟩;rw [Ci c];unfold frB;refine List.map_congr_left fun p a=>?_
 rw [(d p a).2];simp
attribute [local go_sem] Oper.semAt_some Z3 Qj
def Q7l(DS:List Wd)(k:Nat):List Nat:=(List.range k).map (Zs DS)
theorem Vf.at{w:World}{vo:Option Addr}{N vc:Nat}{us:List Wd}(h:Vf w (.slice vo N vc) us) (j:us.length=N) {i:Nat} (l:i<N) :
  ∃ g off ao c,vo=some ⟨g,off,none⟩/\g<w.heap.size/\w.cell? ⟨g,off+i,none⟩=some (.slice ao (us.getD i []).length c)/\Q5 w (.slice ao (us.getD i []).length c) (us.getD i []):=by
 obtain⟨o,a,f⟩:=h;rw [j] at a;obtain⟨g,off,n,d,k,b⟩:=Zq a l;simp only [zV,true_and] at d;obtain⟨rfl,rfl⟩:=d;obtain⟨ao,c,e,m,_⟩:=f.get i oz;rw [e] at b;exact⟨g,off,ao,c,rfl,k,b,m⟩
def Q7u(DS PL:List Wd)(k:Nat):List Int:=(List.range k).map fun i=>Y2 PL (DS.getD i []) PL.length
theorem Bu:Hv [v15] [(5,2)] [(5,2)] (2,5)=0/\Hz [v15] [(5,2)] [(5,2)] (2,5)=[(5,2),(3,4),(5,2)]:=by decide +kernel
theorem M1:Zx [v15] [(5,2)] [(5,2)] [(2,5),(3,4),(5,2)]=0/\Zi [v15] [(5,2)] [(5,2)] [(2,5),(3,4),(5,2)]=[[(5,2),(3,4),(5,2)],[(5,2),(3,4),(5,2)],[(5,2),(5,2),(5,2)]]:=by decide +kernel
theorem Q0u:Vr [[(5,2),(3,4),(5,2)],[(5,2),(3,4),(5,2)],[(5,2),(5,2),(5,2)]]=[0,0,2]:=by decide +kernel
theorem Q14:Jm [v15] [(5,2)] [(5,2)] [(2,5),(3,4),(5,2)]=[1,1,2]:=by decide +kernel
theorem Mh:Yn [1,2,-1,3]=0/\Vn [1,2,-1,3]=[[0,1,2]]:=by decide +kernel
theorem To(w:World)(m2:Tab w):Calls Tryz.prog 16 #[] w fun e w'=>e=.returned (.bool true)/\Ext w w':=by
 have j9:=Zh m2;clear m2;go_enter Tryz.func16,Tryz.ntmps16;go_wp2_with fail;refine(Tz w).mono ?_;rintro e B ⟨g0,g1,rfl,m8,m0⟩;have d8:=Zh m8;have i8:=Zh m0;clear m8 m0;unfold sV;obtain⟨N,a4⟩:=zE B.heap.size;have g4:((((B.alloc (.cells #[.int .u32 2,.int .u32 5] 26)).alloc (.cells #[.int .u32 3,.int .u32 4] 26)).alloc (.cells #[.int .u32 5,.int .u32 2] 26)).alloc (.cells #[.string ⟨#[]⟩,.int .i64 0,.int .u32 0,.int .u32 0,.bool false,.int .i64 0,.int .i64 0,.slice none 0 0,.int .i64 0,.int .u32 0,.int .u32 0,.bool false,.int .i64 0,.int .i64 0,.slice none 0 0,.slice none 0 0,.slice none 0 0,.int .i64 0] 50)).heap[N+3]?=some (.cells #[.string ⟨#[]⟩,.int .i64 0,.int .u32 0,.int .u32 0,.bool false,.int .i64 0,.int .i64 0,.slice none 0 0,.int .i64 0,.int .u32 0,.int .u32 0,.bool false,.int .i64 0,.int .i64 0,.slice none 0 0,.slice none 0 0,.slice none 0 0,.int .i64 0] 50 (0,0)):=by rw [<-a4];exact new_at zy
 have l5:((((B.alloc (.cells #[.int .u32 2,.int .u32 5] 26)).alloc (.cells #[.int .u32 3,.int .u32 4] 26)).alloc (.cells #[.int .u32 5,.int .u32 2] 26)).alloc (.cells #[.string ⟨#[]⟩,.int .i64 0,.int .u32 0,.int .u32 0,.bool false,.int .i64 0,.int .i64 0,.slice none 0 0,.int .i64 0,.int .u32 0,.int .u32 0,.bool false,.int .i64 0,.int .i64 0,.slice none 0 0,.slice none 0 0,.slice none 0 0,.int .i64 0] 50)).heap[N]?=some (.cells #[.int .u32 2,.int .u32 5] 26 (0,0)):=by rw [<-a4];exact Q8 (Q8 (Q8 (new_at rfl)))
 have l6:((((B.alloc (.cells #[.int .u32 2,.int .u32 5] 26)).alloc (.cells #[.int .u32 3,.int .u32 4] 26)).alloc (.cells #[.int .u32 5,.int .u32 2] 26)).alloc (.cells #[.string ⟨#[]⟩,.int .i64 0,.int .u32 0,.int .u32 0,.bool false,.int .i64 0,.int .i64 0,.slice none 0 0,.int .i64 0,.int .u32 0,.int .u32 0,.bool false,.int .i64 0,.int .i64 0,.slice none 0 0,.slice none 0 0,.slice none 0 0,.int .i64 0] 50)).heap[N+1]?=some (.cells #[.int .u32 3,.int .u32 4] 26 (0,0)):=by rw [<-a4];exact Q8 (Q8 (new_at zy))
 have l7:((((B.alloc (.cells #[.int .u32 2,.int .u32 5] 26)).alloc (.cells #[.int .u32 3,.int .u32 4] 26)).alloc (.cells #[.int .u32 5,.int .u32 2] 26)).alloc (.cells #[.string ⟨#[]⟩,.int .i64 0,.int .u32 0,.int .u32 0,.bool false,.int .i64 0,.int .i64 0,.slice none 0 0,.int .i64 0,.int .u32 0,.int .u32 0,.bool false,.int .i64 0,.int .i64 0,.slice none 0 0,.slice none 0 0,.slice none 0 0,.int .i64 0] 50)).heap[N+2]?=some (.cells #[.int .u32 5,.int .u32 2] 26 (0,0)):=by rw [<-a4];exact Q8 (new_at zy)
 have l8:Ext B ((((B.alloc (.cells #[.int .u32 2,.int .u32 5] 26)).alloc (.cells #[.int .u32 3,.int .u32 4] 26)).alloc (.cells #[.int .u32 5,.int .u32 2] 26)).alloc (.cells #[.string ⟨#[]⟩,.int .i64 0,.int .u32 0,.int .u32 0,.bool false,.int .i64 0,.int .i64 0,.slice none 0 0,.int .i64 0,.int .u32 0,.int .u32 0,.bool false,.int .i64 0,.int .i64 0,.slice none 0 0,.slice none 0 0,.slice none 0 0,.int .i64 0] 50)):=((((Q0.refl _ B).alloc _).alloc _).alloc _).alloc _;obtain⟨a1,i0,i1,i2,i6⟩:=Zh5 g4 l5 l6 l7 l8;clear g4 l5 l6 l7 l8;obtain⟨y,a5⟩:=zE (X6 g0 g1);have n1:(Tryz.prog.info? 50).map (·.size)=some y.size:=by rw [<-a5];kernel_rfl
 have b9:y.all (·.oneCell')=true:=by rw [<-a5];kernel_rfl
 have n2:y.size=18:=by rw [<-a5];rfl
 rw [a5] at d8 ⊢;obtain⟨e2,e1,j5,a8⟩:=Zh4 n2 n1 b9 a5;clear n1 b9 n2 a5
 go_wp2_with (refine wpList_store_row rfl 50 (.tmp 4) (.tmp 20) rfl (N+3) y zr zr _ _ a1.out e1.out (by rw [e2.out];rfl) j5.out ?_)
 have b7:=Q0.setRow ((((B.alloc (.cells #[.int .u32 2,.int .u32 5] 26)).alloc (.cells #[.int .u32 3,.int .u32 4] 26)).alloc (.cells #[.int .u32 5,.int .u32 2] 26)).alloc (.cells #[.string ⟨#[]⟩,.int .i64 0,.int .u32 0,.int .u32 0,.bool false,.int .i64 0,.int .i64 0,.slice none 0 0,.int .i64 0,.int .u32 0,.int .u32 0,.bool false,.int .i64 0,.int .i64 0,.slice none 0 0,.slice none 0 0,.slice none 0 0,.int .i64 0] 50)) (N+3) y;have f7:=setRow_heap _ _ _ y _ _ a1.out;have f4:=b7.heap i0.out oz;have f5:=b7.heap i1.out oz;have f6:=b7.heap i2.out oz;have c8:Ext B (((((B.alloc (.cells #[.int .u32 2,.int .u32 5] 26)).alloc (.cells #[.int .u32 3,.int .u32 4] 26)).alloc (.cells #[.int .u32 5,.int .u32 2] 26)).alloc (.cells #[.string ⟨#[]⟩,.int .i64 0,.int .u32 0,.int .u32 0,.bool false,.int .i64 0,.int .i64 0,.slice none 0 0,.int .i64 0,.int .u32 0,.int .u32 0,.bool false,.int .i64 0,.int .i64 0,.slice none 0 0,.slice none 0 0,.slice none 0 0,.int .i64 0] 50)).setRow (N+3) y):=i6.out.after b7 (fun b h1 h2=>by omega);obtain⟨E,m4⟩:=zE (((((B.alloc (.cells #[.int .u32 2,.int .u32 5] 26)).alloc (.cells #[.int .u32 3,.int .u32 4] 26)).alloc (.cells #[.int .u32 5,.int .u32 2] 26)).alloc (.cells #[.string ⟨#[]⟩,.int .i64 0,.int .u32 0,.int .u32 0,.bool false,.int .i64 0,.int .i64 0,.slice none 0 0,.int .i64 0,.int .u32 0,.int .u32 0,.bool false,.int .i64 0,.int .i64 0,.slice none 0 0,.slice none 0 0,.slice none 0 0,.int .i64 0] 50)).setRow (N+3) y);rw [m4] at f4 f5 f6 f7 c8 ⊢;try simp only [Act.put]
 obtain⟨i3,i4,d4,i5,d5,i9,n8⟩:=Zh7 f4 f5 f6 f7 (i8.out.trans c8) (d8.out.ext c8) a4;clear b7 f4 f5 f6 f7 c8 m4 a1 i0 i1 i2 i6 i8 d8 a4
 go_cut [5,6] from 15 to 24 (fun v5 v6 wx=>∃ d0 c9:Nat,v5=.slice (some ⟨d0,0,none⟩) 1 1/\v6=.slice (some ⟨c9,0,none⟩) 1 1/\wx.heap[d0]?=some (.cells y 50 (0,0))/\wx.heap[c9]?=some (.cells #[.int .u32 5,.int .u32 2] 26 (0,0))/\Ext E wx)
 case first=>
  obtain⟨I,d2⟩:=zE E.drew;have a0:Ext E I:=by rw [<-d2];exact(Q0.refl _ E).drew
  refine Ya (S:=fun c=>Ext E c) [] kz (by rw [d2];exact a0) ?_;intro _;rw [d2];clear d2;refine tkE (i:=0) (d:=21) (v:=?_) rfl (Or.inl ⟨by rfl,?_⟩) a0 ?_;rotate_left
  ·intro c z;(try dsimp only at z);refine Zp (x:=.tmp 4) ?_ (N+3) ?_ _ _ _ ((show Ext E c from z).keep i5.out) Tryz.underlying50 e1.out <;> rfl
  try simp only [Act.put,pq]
  refine tkE (i:=2) (d:=23) (v:=?_) rfl (Or.inl ⟨by rfl,?_⟩) a0 ?_;rotate_left
  ·intro c z;(try dsimp only at z);refine Zp (x:=.tmp 3) ?_ (N+2) ?_ _ _ _ ((show Ext E c from z).keep d4.out) Tryz.underlying26 kz <;> rfl
  try simp only [Act.put,pq]
  refine rE [1,3] ?_;refine Q1.cons rfl (fun K hK=>?_) (Q1.cons rfl (fun K hK=>?_) Q1.nil)
  ·refine iw rfl ?_;rw [<-a8.out];unfold X6;go_simp;obtain⟨o,j⟩:=zE (I.alloc (.cells (X6 g0 g1) 50));have Y:o.heap[I.heap.size]?=some (.cells y 50 (0,0)):=by rw [<-j,<-a8.out];exact new_at rfl
   have R:Ext E o:=by rw [<-j];exact a0.alloc _
   have g5:Ext I o:=by rw [<-j];exact(Q0.refl _ _).alloc _
   unfold X6 at j;rw [j];obtain⟨d6,G⟩:=zE I.heap.size;rw [G] at Y ⊢;clear j G;refine hK _ _ R (fun _=>?_);clear hK K;try simp only [Act.put,pq]
   refine tkE (i:=4) (d:=5) (v:=?_) rfl (Or.inl ⟨by rfl,?_⟩) R ?_;rotate_left
   ·intro c z;(try dsimp only at z);go_simp;try with_reducible rfl
   try simp only [Act.put,pq]
   refine rE [3] ?_;refine Q1.cons rfl (fun K hK=>?_) Q1.nil;refine iw rfl ?_;go_simp;obtain⟨X,j⟩:=zE (o.alloc (.cells #[.int .u32 5,.int .u32 2] 26));have Z:X.heap[o.heap.size]?=some (.cells #[.int .u32 5,.int .u32 2] 26 (0,0)):=by rw [<-j];exact new_at rfl
   have H:Ext E X:=by rw [<-j];exact R.alloc _
   have c1:Ext o X:=by rw [<-j];exact(Q0.refl _ _).alloc _
   rw [j];obtain⟨d7,G⟩:=zE o.heap.size;rw [G] at Z ⊢;clear j G;refine hK _ _ H (fun _=>?_);clear hK K;try simp only [Act.put,pq]
   refine tkE (i:=5) (d:=6) (v:=?_) rfl (Or.inl ⟨by rfl,?_⟩) H ?_;rotate_left
   ·intro c z;(try dsimp only at z);go_simp;try with_reducible rfl
   try simp only [Act.put,pq]
   refine Z0 kz ?_ _;obtain⟨e4,e5,e6⟩:=Zh3 (c1.keep Y) Z H;clear Y Z a0 R H g5 c1;go_wp2
   go_meet
   case rel=>exact⟨d6,d7,rfl,rfl,e4.out,e5.out,e6.out⟩
  ·refine iw rfl ?_;go_simp;obtain⟨o,j⟩:=zE (I.alloc (.cells #[.int .u32 5,.int .u32 2] 26));have Y:o.heap[I.heap.size]?=some (.cells #[.int .u32 5,.int .u32 2] 26 (0,0)):=by rw [<-j];exact new_at rfl
   have R:Ext E o:=by rw [<-j];exact a0.alloc _
   have g5:Ext I o:=by rw [<-j];exact(Q0.refl _ _).alloc _
   rw [j];obtain⟨d6,G⟩:=zE I.heap.size;rw [G] at Y ⊢;clear j G;refine hK _ _ R (fun _=>?_);clear hK K;try simp only [Act.put,pq]
   refine rE [1] ?_;refine Q1.cons rfl (fun K hK=>?_) Q1.nil;refine iw rfl ?_;rw [<-a8.out];unfold X6;go_simp;obtain⟨X,j⟩:=zE (o.alloc (.cells (X6 g0 g1) 50));have Z:X.heap[o.heap.size]?=some (.cells y 50 (0,0)):=by rw [<-j,<-a8.out];exact new_at rfl
   have H:Ext E X:=by rw [<-j];exact R.alloc _
   have c1:Ext o X:=by rw [<-j];exact(Q0.refl _ _).alloc _
   unfold X6 at j;rw [j];obtain⟨d7,G⟩:=zE o.heap.size;rw [G] at Z ⊢;clear j G;refine hK _ _ H (fun _=>?_);clear hK K;try simp only [Act.put,pq]
   refine tkE (i:=4) (d:=5) (v:=?_) rfl (Or.inl ⟨by rfl,?_⟩) H ?_;rotate_left
   ·intro c z;(try dsimp only at z);go_simp;try with_reducible rfl
   try simp only [Act.put,pq]
   refine tkE (i:=5) (d:=6) (v:=?_) rfl (Or.inl ⟨by rfl,?_⟩) H ?_;rotate_left
   ·intro c z;(try dsimp only at z);go_simp;try with_reducible rfl
   try simp only [Act.put,pq]
   refine Z0 kz ?_ _;obtain⟨e4,e5,e6⟩:=Zh3 (c1.keep Y) Z H;clear Y Z a0 R H g5 c1;go_wp2
   go_meet
   case rel=>exact⟨d7,d6,rfl,rfl,e5.out,e4.out,e6.out⟩
 obtain⟨d0,c9,rfl,rfl,g6,g7,Q⟩:=hcut;clear e1 j5;generalize wc=J at g6 g7 Q ⊢;have m9:Z5 J (.slice (some ⟨d0,0,none⟩) 1 1) [(v15,y.toList)]:=by
  refine⟨Xd (xs:=([(v15,y.toList)]:Ze).flatMap (·.2)) (by simpa using g6) (by simp [e2.out]) (by unfold maxLen;simp),fun p hp=>?_⟩;rw [List.mem_singleton] at hp;subst hp;exact i9.out.ext Q
 have n4:Q5 J (.slice (some ⟨c9,0,none⟩) 1 1) [(5,2)]:=⟨Xd (xs:=Qx [(5,2)]) g7 rfl zd,by simp [Z8]⟩;have m3:Tab J:=j9.out.keep (d5.out.trans Q) id;obtain⟨c2,U,c3,W,a2,a3,n6⟩:=Zh7 m9 n4 m3 (Q.keep i3.out) (Q.keep i4.out) (Q.keep d4.out) (d5.out.trans Q);clear m9 n4 m3 g6 g7 Q i3 i4 d4 i5 i9 j9 d5 a8 e2 n8
 -- Outcome
 have o1:J.cell? ⟨N,0,none⟩=some (.int .u32 2):=by rw [cell_of_row J N 0 _ _ _ W.out];rfl
 have o2:J.cell? ⟨N,1,none⟩=some (.int .u32 5):=by rw [cell_of_row J N 1 _ _ _ W.out];rfl
 have b6:=Pv (s:=(2,5)) c2.out rfl U.out U.out ⟨by decide,by decide⟩ c3.out;simp only [List.map_cons,List.map_nil] at b6;rw [Bu.1,Bu.2] at b6;unfold sV at b6;have j4:=Zh b6;clear b6;go_wp2_with fail;refine j4.out.mono ?_;rintro e r ⟨v,rfl,b9,m1⟩;obtain⟨p2,p1,rfl,n3⟩:=Jc b9;have e3:=Zh n3;have M:=Zh m1;clear j4 b9 n3 m1 o1 o2;rw [show ([(5,2),(3,4),(5,2)]:Wd).length=3 from rfl] at e3 ⊢;have f8:r.cell? ⟨N,0,none⟩=some (.int .u32 2):=by rw [cell_of_row r N 0 _ _ _ (Ext.keep M.out W.out)];rfl
 have f9:r.cell? ⟨N,1,none⟩=some (.int .u32 5):=by rw [cell_of_row r N 1 _ _ _ (Ext.keep M.out W.out)];rfl
 have b1:r.cell? ⟨N+1,0,none⟩=some (.int .u32 3):=by rw [cell_of_row r (N+1) 0 _ _ _ (Ext.keep M.out a2.out)];rfl
 have b2:r.cell? ⟨N+1,1,none⟩=some (.int .u32 4):=by rw [cell_of_row r (N+1) 1 _ _ _ (Ext.keep M.out a2.out)];rfl
 have b3:r.cell? ⟨N+2,0,none⟩=some (.int .u32 5):=by rw [cell_of_row r (N+2) 0 _ _ _ (Ext.keep M.out a3.out)];rfl
 have b4:r.cell? ⟨N+2,1,none⟩=some (.int .u32 2):=by rw [cell_of_row r (N+2) 1 _ _ _ (Ext.keep M.out a3.out)];rfl
 obtain⟨c6,a⟩:=zE (r.alloc (.cells #[.int .u32 2,.int .u32 5,.int .u32 3,.int .u32 4,.int .u32 5,.int .u32 2] 26));have f:Ext r c6:=by rw [<-a];exact(Q0.refl _ _).alloc _
 obtain⟨O,m⟩:=zE r.heap.size;have l:c6.heap[O]?=some (.cells #[.int .u32 2,.int .u32 5,.int .u32 3,.int .u32 4,.int .u32 5,.int .u32 2] 26 (0,0)):=by rw [<-a];exact new_at m.symm
 have T:Q5 c6 (.slice (some ⟨O,0,none⟩) 3 3) [(2,5),(3,4),(5,2)]:=⟨Xd (xs:=Qx [(2,5),(3,4),(5,2)]) l rfl zd,by simp [Z8]⟩;have A:Ext J c6:=M.out.trans f;have L:=Md (c2.out.ext A) rfl (U.out.ext A) (U.out.ext A) T rfl (Nat.le_refl 3) (c3.out.keep A id);simp only [List.map_cons,List.map_nil] at L;rw [M1.1,M1.2,Q0u] at L;obtain⟨a7,b0,k,k5⟩:=Zh4 L A a (e3.out.ext f);clear L A a f l T e3;go_wp2_with fail;try rw [k.out]
 refine a7.out.mono ?_;rintro e q ⟨p0,o9,rfl,b8,g3⟩;obtain⟨d9,P,k0⟩:=Zh3 (Rd.of_own b8) (b0.out.trans g3) (k5.out.ext g3);clear a7 b8 g3 b0 k k5 m;clear f8 f9 b1 b2 b3 b4;rw [show ([[(5,2),(3,4),(5,2)],[(5,2),(3,4),(5,2)],[(5,2),(5,2),(5,2)]]:List Wd).length=3 from rfl] at d9 ⊢;have f8:q.cell? ⟨N,0,none⟩=some (.int .u32 2):=by rw [cell_of_row q N 0 _ _ _ (Ext.keep P.out W.out)];rfl
 have f9:q.cell? ⟨N,1,none⟩=some (.int .u32 5):=by rw [cell_of_row q N 1 _ _ _ (Ext.keep P.out W.out)];rfl
 have b1:q.cell? ⟨N+1,0,none⟩=some (.int .u32 3):=by rw [cell_of_row q (N+1) 0 _ _ _ (Ext.keep P.out a2.out)];rfl
 have b2:q.cell? ⟨N+1,1,none⟩=some (.int .u32 4):=by rw [cell_of_row q (N+1) 1 _ _ _ (Ext.keep P.out a2.out)];rfl
 have b3:q.cell? ⟨N+2,0,none⟩=some (.int .u32 5):=by rw [cell_of_row q (N+2) 0 _ _ _ (Ext.keep P.out a3.out)];rfl
 have b4:q.cell? ⟨N+2,1,none⟩=some (.int .u32 2):=by rw [cell_of_row q (N+2) 1 _ _ _ (Ext.keep P.out a3.out)];rfl
 obtain⟨c4,a⟩:=zE (q.alloc (.cells #[.int .u32 2,.int .u32 5,.int .u32 3,.int .u32 4,.int .u32 5,.int .u32 2] 26));have f:Ext q c4:=by rw [<-a];exact(Q0.refl _ _).alloc _
 obtain⟨O,m⟩:=zE q.heap.size;have l:c4.heap[O]?=some (.cells #[.int .u32 2,.int .u32 5,.int .u32 3,.int .u32 4,.int .u32 5,.int .u32 2] 26 (0,0)):=by rw [<-a];exact new_at m.symm
 have T:Q5 c4 (.slice (some ⟨O,0,none⟩) 3 3) [(2,5),(3,4),(5,2)]:=⟨Xd (xs:=Qx [(2,5),(3,4),(5,2)]) l rfl zd,by simp [Z8]⟩;have A:Ext J c4:=P.out.trans f;have L:=Nx (c2.out.ext A) rfl (U.out.ext A) (U.out.ext A) T rfl (Nat.le_refl 3) (c3.out.keep A id);simp only [List.map_cons,List.map_nil] at L;rw [M1.1,Q14] at L;obtain⟨a7,b0,k,k1,j0⟩:=Zh5 L A a (k0.out.ext f) (d9.out.ext f);clear L A a f l T k0 d9;go_wp2_with fail;try rw [k.out]
 refine a7.out.mono ?_;rintro e e7 ⟨o8,g4,rfl,b8,d1⟩;obtain⟨e0,l3,k2,j1⟩:=Zh4 (Rd.of_own b8) (b0.out.trans d1) (k1.out.ext d1) (j0.out.ext d1);clear a7 b8 d1 b0 k k1 j0 m c2 U c3;clear f8 f9 b1 b2 b3 b4;rw [show ([1,1,2]:List Int).length=3 from rfl] at e0 ⊢;obtain⟨e8,a⟩:=zE (e7.alloc (.cells #[.int .i64 1,.int .i64 2,.int .i64 (-1),.int .i64 3] 3));have f:Ext e7 e8:=by rw [<-a];exact(Q0.refl _ _).alloc _
 obtain⟨O,m⟩:=zE e7.heap.size;have l:e8.heap[O]?=some (.cells #[.int .i64 1,.int .i64 2,.int .i64 (-1),.int .i64 3] 3 (0,0)):=by rw [<-a];exact new_at m.symm
 have g2:=Mb (w:=e8) (ao:=some ⟨O,0,none⟩) (N:=4) (cap:=4) (sh:=[1,2,-1,3]) (Xd (xs:=Za [1,2,-1,3]) l rfl zd) rfl;rw [Mh.1,Mh.2] at g2;obtain⟨a1,l4,k,k3,j2,j7⟩:=Zh6 g2 (Q0.trans l3.out f) a (k2.out.ext f) (j1.out.ext f) (e0.out.ext f);clear g2 a f l k2 j1 e0 l3;go_wp2_with fail;try rw [k.out]
 refine a1.out.mono ?_;rintro e u ⟨o6,rfl,m5,b5⟩;obtain⟨o7,⟨_,_,o5,o4,rfl,m6⟩,m7⟩:=m5.rd;obtain⟨l9,n5,rfl,_,d3⟩:=m6 zd;have a6:=d3 0 zd;obtain⟨g8,g9,n0,c0⟩:=m7 0 zd;rw [n0] at a6;obtain⟨a9,k4,j3,j8,i7,j6⟩:=Zh6 (Q0.trans l4.out b5) (k3.out.ext b5) (j2.out.ext b5) (j7.out.ext b5) a6 c0;clear a1 m5 b5 l4 k k3 j2 j7 m m6 m7 d3 a6 c0 n0;have a6:u.cell? ⟨l9,n5,none⟩=some (.slice g8 3 g9):=i7.out;have c0:Rd u (.slice g8 3 g9) 3 1 (Za [0,1,2]):=j6.out;have n7:=Zh a6;have n9:=Zh c0;rw [show ([[0,1,2]]:List (List Int)).length=1 from rfl];clear i7 j6 a6 c0 M P W;have b1:u.cell? ⟨N+1,0,none⟩=some (.int .u32 3):=by rw [cell_of_row u (N+1) 0 _ _ _ (Ext.keep a9.out a2.out)];rfl
 have b2:u.cell? ⟨N+1,1,none⟩=some (.int .u32 4):=by rw [cell_of_row u (N+1) 1 _ _ _ (Ext.keep a9.out a2.out)];rfl
 have b3:u.cell? ⟨N+2,0,none⟩=some (.int .u32 5):=by rw [cell_of_row u (N+2) 0 _ _ _ (Ext.keep a9.out a3.out)];rfl
 have b4:u.cell? ⟨N+2,1,none⟩=some (.int .u32 2):=by rw [cell_of_row u (N+2) 1 _ _ _ (Ext.keep a9.out a3.out)];rfl
 obtain⟨e9,a⟩:=zE (u.alloc (.cells #[.int .u32 5,.int .u32 2,.int .u32 3,.int .u32 4,.int .u32 5,.int .u32 2] 26));have f:Ext u e9:=by rw [<-a];exact(Q0.refl _ _).alloc _
 obtain⟨k6,m⟩:=zE u.heap.size;have l:e9.heap[k6]?=some (.cells #[.int .u32 5,.int .u32 2,.int .u32 3,.int .u32 4,.int .u32 5,.int .u32 2] 26 (0,0)):=by rw [<-a];exact new_at m.symm
 have T:Q5 e9 (.slice (some ⟨k6,0,none⟩) 3 3) [(5,2),(3,4),(5,2)]:=⟨Xd (xs:=Qx [(5,2),(3,4),(5,2)]) l rfl zd,by simp [Z8]⟩;have t:=Q59 (k4.out.ext f) T;rw [decide_eq_true (rfl:([(5,2),(3,4),(5,2)]:Wd)=[(5,2),(3,4),(5,2)])] at t;obtain⟨D,k,C⟩:=Zh3 t a f;clear t a f l T k4;go_wp2_with fail;try rw [k.out]
 refine D.out.mono ?_;rintro e f0 ⟨rfl,F⟩;have f2:=Zh (Q0.trans C.out F);clear D k C F b1 b2 b3 b4;obtain⟨l0,a⟩:=zE (f0.alloc (.cells #[.int .i64 0,.int .i64 0,.int .i64 2] 3));have f:Ext f0 l0:=by rw [<-a];exact(Q0.refl _ _).alloc _
 obtain⟨k7,m⟩:=zE f0.heap.size;have l:l0.heap[k7]?=some (.cells #[.int .i64 0,.int .i64 0,.int .i64 2] 3 (0,0)):=by rw [<-a];exact new_at m.symm
 have t:=R3 (us:=[0,0,2]) (vs:=[0,0,2]) (j3.out.ext (Q0.trans f2.out f)) (Xd (g:=k7) (n:=3) (cap:=3) (xs:=Za [0,0,2]) l rfl zd);rw [decide_eq_true (rfl:([0,0,2]:List Int)=[0,0,2])] at t;obtain⟨D,k,C⟩:=Zh3 t a f;clear t a f l;go_wp2_with fail;try rw [k.out]
 refine D.out.mono ?_;rintro e f1 ⟨rfl,F⟩;have f3:=Zh (Q0.trans f2.out (Q0.trans C.out F));clear D k C F f2 j3 m;obtain⟨l1,a⟩:=zE (f1.alloc (.cells #[.int .i64 1,.int .i64 1,.int .i64 2] 3));have f:Ext f1 l1:=by rw [<-a];exact(Q0.refl _ _).alloc _
 obtain⟨k8,m⟩:=zE f1.heap.size;have l:l1.heap[k8]?=some (.cells #[.int .i64 1,.int .i64 1,.int .i64 2] 3 (0,0)):=by rw [<-a];exact new_at m.symm
 have t:=R3 (us:=[1,1,2]) (vs:=[1,1,2]) (j8.out.ext (Q0.trans f3.out f)) (Xd (g:=k8) (n:=3) (cap:=3) (xs:=Za [1,1,2]) l rfl zd);rw [decide_eq_true (rfl:([1,1,2]:List Int)=[1,1,2])] at t;obtain⟨D,k,C⟩:=Zh3 t a f;clear t a f l;go_wp2_with fail;try rw [k.out]
 refine D.out.mono ?_;rintro e c5 ⟨rfl,F⟩;have c7:=Zh (Q0.trans f3.out (Q0.trans C.out F));clear D k C F f3 j8 m;have d3:c5.cell? ⟨l9,n5,none⟩=some (.slice g8 3 g9):=Q0.cell_some c7.out n7.out id;obtain⟨l2,a⟩:=zE (c5.alloc (.cells #[.int .i64 0,.int .i64 1,.int .i64 2] 3));have f:Ext c5 l2:=by rw [<-a];exact(Q0.refl _ _).alloc _
 obtain⟨k9,m⟩:=zE c5.heap.size;have l:l2.heap[k9]?=some (.cells #[.int .i64 0,.int .i64 1,.int .i64 2] 3 (0,0)):=by rw [<-a];exact new_at m.symm
 have t:=R3 (us:=[0,1,2]) (vs:=[0,1,2]) (n9.out.ext (Q0.trans c7.out f)) (Xd (g:=k9) (n:=3) (cap:=3) (xs:=Za [0,1,2]) l rfl zd);rw [decide_eq_true (rfl:([0,1,2]:List Int)=[0,1,2])] at t;obtain⟨D,k,C⟩:=Zh3 t a f;clear t a f l;go_wp2_with fail;try rw [k.out]
 refine D.out.mono ?_;rintro e o3 ⟨rfl,F⟩;have o0:=Zh (Q0.trans n6.out (Q0.trans a9.out (Q0.trans c7.out (Q0.trans C.out F))));clear D k C F c7 d3;go_wp2;go_ret;exact⟨rfl,o0.out⟩
theorem Ru{k:Nat}(h:k<8):(Z7 8 0).getD k (0,0)=Zb 0 k:=by rw [List.getD_eq_getElem?_getD];simp [Z7,h]
def lbE(ls:List Q4)(a b:Wd):List Int:=(Z7 8 0).map (Hv ls a b)
def lbW(ls:List Q4)(a b:Wd):List Wd:=(Z7 8 0).map (Hz ls a b)
theorem Bd{W:World}{a b:Value}{p:Wd × Wd}(h:Jl W p [a,b]):Vo (W.alloc (.cells #[a,b] 63)) (.slice (some ⟨W.heap.size,0,none⟩) 1 1) [(p,[a,b])]:=by
 have c:Ext W (W.alloc (.cells #[a,b] 63)):=(Q0.refl _ W).alloc _;refine⟨Xd (xs:=[a,b]) (new_at rfl) rfl zd,fun q hq=>?_⟩;rw [List.mem_singleton] at hq;subst hq;exact⟨rfl,h.ext c⟩
structure Q8w (M:Nat->Nat) (S:Nat->Int) (D:Nat->Wd) (a b:Wd):Prop where
 iff:∀ i k,i<8->k<8->((M i:Int)=(M k:Int)↔D i=D k)
 same:∀ i k,i<8->k<8->0<=S i->S i=S k->M i=M k
 lt:∀ i,i<8->M i<=i/\M (M i)=M i/\-1<=S i/\S i<=7
 own:∀ i,i<8->(S i=(i:Int)↔Qg a b (Zb 0 i)=D i)
 back:∀ i,i<8->0<=S i->D i=Qg a b (Zb 0 (S i).toNat)
theorem Ss{c:Int}(h0:0<=c)(h1:c<256):∃ n:Nat,c=(n:Int)/\n<256:=⟨c.toNat,by omega,by omega⟩
theorem Rb{X:Nat}{W:World}{v:Value}{L:List (List Int)} (h:Y8 X W v L):∃ ao c,v=.slice ao L.length c:=by
 obtain⟨b,a,_⟩:=h
 exact Z6 a
theorem Q2a(n:Nat):Ye (List.range n)=Za (Xy n):=by simp [Ye,Za,Xy]
theorem Q5v{n k:Nat}(h:k<n):(Za (Xy n)).getD k undef=.int .i64 (k:Int):=by
 rw [List.getD_eq_getElem?_getD];simp [Za,Xy,h]
theorem Q5u{l:List Nat}{k:Nat}(h:k<l.length):(Ja l).getD k undef=.int .i64 (l.getD k 0:Nat):=by
 rw [List.getD_eq_getElem?_getD,List.getD_eq_getElem?_getD];simp [Ja,h]
theorem Q2p{W:World}{ao e:Option Addr}{c d:Nat}{a b:Wd}(j:Q5 W (.slice ao a.length c) a) (l:a.length<=c) (k:Q5 W (.slice e b.length d) b) (m:b.length<=d) {g i:Nat} (o:a.length=g) (p:b.length=i) :
  Vf (W.alloc (.cells #[.slice ao g c,.slice e i d] 23)) (.slice (some ⟨W.heap.size,0,none⟩) 2 2) [a,b]:=by
 subst o p
 have f:Ext W (W.alloc (.cells #[.slice ao a.length c,.slice e b.length d] 23)):=(Q0.refl _ W).alloc _
 exact⟨[.slice ao a.length c,.slice e b.length d],Xd (n:=2) (cap:=2) (xs:=[.slice ao a.length c,.slice e b.length d]) (new_at rfl) rfl (by decide),⟨ao,c,rfl,j.ext f,l⟩,⟨e,d,rfl,k.ext f,m⟩,trivial⟩
theorem Be{W:World}{a b vc c:Value}{p q:Wd × Wd}(h:Jl W p [a,b])(e:Jl W q [vc,c]):Vo (W.alloc (.cells #[a,b,vc,c] 63)) (.slice (some ⟨W.heap.size,0,none⟩) 2 2) [(p,[a,b]),(q,[vc,c])]:=by
 have d:Ext W (W.alloc (.cells #[a,b,vc,c] 63)):=(Q0.refl _ W).alloc _
 refine⟨Xd (xs:=[a,b,vc,c]) (new_at rfl) rfl (by decide),fun x hx=>?_⟩
 simp only [List.mem_cons,List.not_mem_nil,or_false] at hx
 rcases hx with rfl | rfl
 ·exact⟨rfl,h.ext d⟩
 ·exact⟨rfl,e.ext d⟩
theorem Q70{U:Nat->Bool}{k:Nat}(h:k<8):((List.range 8).map (Kt U)).getD k 0=Kt U k:=by
 rw [List.getD_eq_getElem?_getD];simp [h]
theorem Sh(U:Nat->Bool)(k:Nat):Xn U (k+1)=if Xn U k<0 then(if U k=true then -1 else(k:Int)) else Xn U k:=rfl
theorem Q17(U:Nat->Bool):∀ k,-1<=Xn U k/\Xn U k<k
 | 0=>by simp [Xn]
 | k+1=>by
  have h:=Q17 U k
  rw [Sh]
  split
  ·split <;> omega
  ·omega
theorem T0{w:World}{e0 sh:Nat}(C3:e0<256)(x2:sh<256)
  {ao:Option Addr} {b5 j1:Nat} {b4:List Nat} (u0:Rd w (.slice ao b5 j1) b5 1 (u8V b4)) (u3:b4.length=b5) (u5:∀ x∈b4,x<256) (u2:b5<=j1) {s9:Option Addr} {b7 j2:Nat} {b6:List Nat} (u7:Rd w (.slice s9 b7 j2) b7 1 (u8V b6)) (v1:b6.length=b7) (v2:∀ x∈b6,x<256) (v0:b7<=j2) (l5:Tab w) :
  Calls Tryz.prog 12 #[.int .u8 (e0:Int),.int .u8 (sh:Int),.slice ao b5 j1,.slice s9 b7 j2] w fun e w'=>e=.returned (.bool true)/\Ext w w':=by
 have o5:=Zh (fun(d:World) (t:Ext w d)=>Ml (u0.ext t) u3 u5 u2 (mo:=15) (by decide))
 have o6:=Zh (fun(d:World) (t:Ext w d)=>Ml (u7.ext t) v1 v2 v0 (mo:=15) (by decide))
 have b0:=Zh l5
 have y7:=Zh (fun(W:World) (t:Ext w W)=>To W (l5.keep t id))
 obtain⟨n3,w4⟩:=P6 b4 (mo:=15) (by decide)
 obtain⟨n4,w5⟩:=P6 b6 (mo:=15) (by decide)
 obtain⟨i,k5⟩:∃ i,J2 b4 15=i:=⟨_,rfl⟩
 obtain⟨r,k8⟩:∃ i,J2 b6 15=i:=⟨_,rfl⟩
 rw [k5] at n3 w4
 rw [k8] at n4 w5
 have e5:i.length+r.length<=31:=by omega
 obtain⟨n,z8⟩:∃ n,e0 % 65=n:=⟨_,rfl⟩
 have c5:n<=64:=by omega
 have z9:(e0:Int) % 65=(n:Int):=by omega
 have o7:=Zh k5;have p4:=Zh k8;have d8:=Zh n3;have d9:=Zh n4;have p0:=Zh e5;have A9:=Zh x2
 have o4:=Zh (Kp w (n:=n) (sh:=sh) c5 x2)
 clear u0 u3 u5 u2 u7 v1 v2 v0 l5 k5 k8 n3 n4 w4 w5 e5 z8
 go_enter Tryz.func12,Tryz.ntmps12
 go_wp2_with fail
 refine o4.out.mono ?_
 rintro e A3 ⟨C9,C8,rfl,m4,P⟩
 obtain⟨_,_,m,Z,Y⟩:=m4
 simp only [Value.slice.injEq] at m
 obtain⟨rfl,n6,rfl⟩:=m
 clear n6
 rw [Zw] at Z Y
 have O:=Zh P;have r1:=Zh Z;have a0:=Zh Y
 have s6:=Zh (o5.out A3 P)
 clear o4 o5 P Z Y z9
 go_wp2_with fail
 refine s6.out.mono ?_
 rintro e A4 ⟨D4,rfl,c6,X⟩
 rw [o7.out] at c6
 obtain⟨z,y,rfl,u6,v5⟩:=c6
 have p9:=Zh v5;have I:=Zh (O.out.trans X);have p1:=Zh u6;have r2:=Zh (r1.out.ext X)
 have s7:=Zh (o6.out A4 I.out)
 clear s6 o6 X O u6 v5 o7 r1
 go_wp2_with fail
 refine s7.out.mono ?_
 rintro e y1 ⟨D5,rfl,c6,e7⟩
 rw [p4.out] at c6
 obtain⟨B,A,rfl,v3,v6⟩:=c6
 have q1:=Zh v6;have S:=Zh (I.out.trans e7);have g9:=Zh (p1.out.ext e7);have i2:=Zh v3;have i9:=Zh (r2.out.ext e7)
 clear s7 e7 I v3 v6 p4 r2 p1
 obtain⟨g0,g1⟩:=Q18 d8.out d9.out p0.out (n:=n) (sh:=sh) c5
 have x3:Jm [] i r (Z7 n sh)=Xy n:=by unfold Jm;rw [if_pos g0,g1,Eg c5]
 have w7:Ye (Vr (Zi [] i r (Z7 n sh)))=Za (Xy n):=by rw [g1,Tx c5,Q2a]
 have w8:(Zi [] i r (Z7 n sh)).length=n:=by rw [g1];simp [Zm,Zw]
 have m8:=fun(d:World)=>U7 d
 have L:=Md (m8 y1) rfl g9.out i2.out i9.out (Zw n sh) a0.out (b0.out.keep S.out id)
 have M:=fun(d:World) (t:Ext y1 d)=>Nx (m8 d) rfl (g9.out.ext t) (i2.out.ext t) (i9.out.ext t) (Zw n sh) a0.out (b0.out.keep (S.out.trans t) id)
 simp only [List.map_nil] at L M
 rw [w8,w7,g0] at L
 simp only [x3,Jb,g0] at M
 obtain⟨C,m6⟩:∃ n,i.length=n:=⟨_,rfl⟩
 obtain⟨E,m7⟩:∃ n,r.length=n:=⟨_,rfl⟩
 have d5:=Zh m6;have d6:=Zh m7
 rw [m6,m7] at L M ⊢
 have p7:=Zh L;have p8:=Zh M
 clear L M g0 g1 x3 w7 w8 m6 m7 m8
 go_wp2_with fail
 refine p7.out.mono ?_
 rintro e A5 ⟨o3,o2,rfl,N,l0⟩
 have a1:=Zh (Rd.of_own N);have q6:=Zh l0
 have s5:=Zh (p8.out A5 l0)
 clear p7 p8 N l0
 go_wp2_with fail
 refine s5.out.mono ?_
 rintro e A6 ⟨y0,x9,rfl,N,l1⟩
 have f7:=Rd.of_own N
 have r8:=Zh f7;have r7:=Zh (a1.out.ext l1);have q7:=Zh (q6.out.trans l1)
 obtain⟨c9,y3,y4⟩:=Cy c5
 have a4:=Mb f7 (Jb n)
 have m0:=fun(d:World) (t:Ext A6 d)=>Ev (f7.ext t) (Jb n)
 have v4:Vn (Xy n)=[]:=by unfold Vn;rw [if_pos c9,y3]
 have x4:Gk (Xy n)=[]:=by unfold Gk;rw [if_pos c9,y4]
 rw [c9,v4] at a4
 simp only [c9,x4] at m0
 have a8:=Zh a4;have q4:=Zh m0
 clear s5 N l1 a1 q6 f7 c9 y3 y4 a4 m0 v4 x4
 go_wp2_with fail
 refine a8.out.mono ?_
 rintro e A7 ⟨D2,rfl,v9,l2⟩
 obtain⟨B8,B5,rfl⟩:=Rb v9
 have s8:=Zh (q4.out A7 l2);have d2:=Zh l2
 clear a8 q4 v9 l2
 go_wp2_with fail
 refine s8.out.mono ?_
 rintro e y2 ⟨D3,rfl,w0,e8⟩
 obtain⟨B9,B6,rfl⟩:=Rb w0
 have q8:=Zh (q7.out.trans (d2.out.trans e8))
 have a1:=Zh (r7.out.ext (d2.out.trans e8));have r9:=Zh (r8.out.ext (d2.out.trans e8))
 have x1:Calls Tryz.prog 26 #[.slice o3 n o2,.slice y0 n x9] y2 fun e w'=>e=.returned (.bool true)/\Ext y2 w':=by
  have G:=R3 (us:=Xy n) (vs:=Xy n) (u:=.slice o3 n o2) (v:=.slice y0 n x9) (by rw [Jb];exact a1.out) (by rw [Jb];exact r9.out)
  rw [decide_eq_true rfl] at G
  exact G
 have s2:=Zh x1
 simp only [List.length_nil]
 clear s8 w0 e8 d2 r7 r8 r9 q7 x1
 go_wp2_with fail
 refine s2.out.mono ?_
 rintro e A8 ⟨rfl,l3⟩
 have i6:=Zh (q8.out.trans l3);have a2:=Zh (a1.out.ext l3)
 clear s2 l3 q8 a1
 go_wp2
 refine wp_loop (fun a W=>∃(k:Nat),k<=n/\a.defers=[]/\(a.tmps.size=201/\a.tmps.getD 10 undef=.slice z C y/\a.tmps.getD 11 undef=.slice B E A/\a.tmps.getD 100 undef=.slice o3 n o2/\a.tmps.getD 101 undef=.int .i64 n/\a.tmps.getD 102 undef=.int .i64 k)/\W=A8)
  (fun a _=>n - (intOf (a.tmps.getD 102 undef)).toNat) ?_ ?_
 ·exact⟨0,by omega,rfl,⟨rfl,rfl,rfl,rfl,rfl,rfl⟩,rfl⟩
 rintro⟨o0,_⟩ W ⟨k,C5,m1,⟨c8,U,V,j5,j6,j7⟩,z7⟩
 subst m1
 obtain⟨o1,o⟩:=Zg c8
 obtain⟨u,rfl⟩:∃ x,x=o1:=⟨_,rfl⟩
 have n2:o0=#[u 0,u 1,u 2,u 3,u 4,u 5,u 6,u 7,u 8,u 9,u 10,u 11,u 12,u 13,u 14,u 15,u 16,u 17,u 18,u 19,u 20,u 21,u 22,u 23,u 24,u 25,u 26,u 27,u 28,u 29,u 30,u 31,u 32,u 33,u 34,u 35,u 36,u 37,u 38,u 39,u 40,u 41,u 42,u 43,u 44,u 45,u 46,u 47,u 48,u 49,u 50,u 51,u 52,u 53,u 54,u 55,u 56,u 57,u 58,u 59,u 60,u 61,u 62,u 63,u 64,u 65,u 66,u 67,u 68,u 69,u 70,u 71,u 72,u 73,u 74,u 75,u 76,u 77,u 78,u 79,u 80,u 81,u 82,u 83,u 84,u 85,u 86,u 87,u 88,u 89,u 90,u 91,u 92,u 93,u 94,u 95,u 96,u 97,u 98,u 99,u 100,u 101,u 102,u 103,u 104,u 105,u 106,u 107,u 108,u 109,u 110,u 111,u 112,u 113,u 114,u 115,u 116,u 117,u 118,u 119,u 120,u 121,u 122,u 123,u 124,u 125,u 126,u 127,u 128,u 129,u 130,u 131,u 132,u 133,u 134,u 135,u 136,u 137,u 138,u 139,u 140,u 141,u 142,u 143,u 144,u 145,u 146,u 147,u 148,u 149,u 150,u 151,u 152,u 153,u 154,u 155,u 156,u 157,u 158,u 159,u 160,u 161,u 162,u 163,u 164,u 165,u 166,u 167,u 168,u 169,u 170,u 171,u 172,u 173,u 174,u 175,u 176,u 177,u 178,u 179,u 180,u 181,u 182,u 183,u 184,u 185,u 186,u 187,u 188,u 189,u 190,u 191,u 192,u 193,u 194,u 195,u 196,u 197,u 198,u 199,u 200]:=o
 clear o
 subst n2
 change u 10=_ at U
 change u 11=_ at V
 change u 100=_ at j5
 change u 101=_ at j6
 change u 102=_ at j7
 rw [U,V,j5,j6,j7]
 clear U V j5 j6 j7 c8
 subst z7
 by_cases w2:k<n
 case pos=>
  have e2:(k:Int)<(n:Int):=by omega
  have z6:(0:Int)<=(k:Int):=by omega
  obtain⟨g,A0,B1,m,_,a5⟩:=Zq a2.out w2
  simp only [Value.slice.injEq,true_and] at m
  obtain⟨rfl,rfl⟩:=m
  rw [Q5v w2] at a5
  have e9:((k:Int) !=(k:Int))=false:=by simp
  go_wp2
  exact⟨⟨k+1,by omega,by first | rfl | trivial,⟨rfl,rfl,rfl,rfl,rfl,rfl⟩,by first | rfl | trivial⟩,by simp [intOf];omega⟩
 obtain rfl:k=n:=by omega
 have e2:¬ (k:Int)<(k:Int):=by omega
 have p2:=Zh (g9.out.ext i6.out);have p5:=Zh (i2.out.ext i6.out)
 have y5:=Zh (S.out.trans i6.out)
 clear a2 i9 a0
 go_wp2_with fail
 refine(Kp W (n:=8) (sh:=0) (by decide) (by decide)).mono ?_
 rintro e g5 ⟨x6,x5,rfl,m4,e6⟩
 obtain⟨_,_,m,Z,Y⟩:=m4
 cases m
 rw [Zw] at Z Y
 have i7:=Zh Z;have a0:=Zh Y;have i5:=Zh (y5.out.trans e6);have i0:=Zh (p2.out.ext e6);have i3:=Zh (p5.out.ext e6)
 clear e6 Z Y p2 p5 e2
 have e3:Ext g5 (g5.alloc (.cells #[.slice z C y,.slice B E A] 23)):=(Q0.refl _ g5).alloc _
 have t8:=Q2p i0.out p9.out i3.out q1.out d5.out d6.out
 have f6:=Ta (U7 _) rfl t8 rfl (i7.out.ext e3) (Zw 8 0) a0.out (b0.out.keep (i5.out.trans e3) id)
 obtain⟨x7,x8⟩:=Q2i d8.out d9.out
 simp only [List.map_nil,x7,x8] at f6
 have w3:((List.range 8).map (Kt (R5 i r))).length=8:=by simp
 rw [w3] at f6
 have r5:=Zh f6;have o8:=Zh e3
 clear e3 t8 f6 x7 x8 w3
 go_wp2_with fail
 refine r5.out.mono ?_
 rintro e g6 ⟨A2,A1,rfl,N,t3⟩
 have a2:=Zh (Rd.of_own N)
 have c0:Ext g5 g6:=o8.out.trans t3
 have q5:=Zh (i5.out.trans c0);have i1:=Zh (i0.out.ext c0);have i4:=Zh (i3.out.ext c0);have i8:=Zh (i7.out.ext c0)
 obtain⟨j,l6⟩:∃ j,R5 i r=j:=⟨_,rfl⟩
 rw [l6] at a2
 have s3:Hid (∀ k,j k=(decide (Zb 0 k∈i) || decide (Zb 0 k∈r))):=Zh fun k=>by rw [<-l6];rfl
 clear r5 N t3 c0 o8 i5 i0 i3 i7 l6
 go_wp2
 refine wp_loop (fun a d=>∃(k:Nat),k<=8/\a.defers=[]/\(a.tmps.size=201/\a.tmps.getD 10 undef=.slice z C y/\a.tmps.getD 11 undef=.slice B E A/\a.tmps.getD 22 undef=.slice x6 8 x5/\a.tmps.getD 23 undef=.slice A2 8 A1/\a.tmps.getD 24 undef=.int .i64 0/\a.tmps.getD 25 undef=.int .i64 (Xn j k)/\a.tmps.getD 120 undef=.slice x6 8 x5/\a.tmps.getD 121 undef=.int .i64 8/\a.tmps.getD 122 undef=.int .i64 k)/\Ext g6 d)
  (fun a _=>8 - (intOf (a.tmps.getD 122 undef)).toNat) ?_ ?_
 ·exact⟨0,by omega,rfl,⟨rfl,rfl,rfl,rfl,rfl,rfl,rfl,rfl,rfl,rfl⟩,Q0.refl _ _⟩
 rintro⟨o0,_⟩ d ⟨c,C4,m1,⟨c8,U,V,k1,k2,k3,k4,j8,j9,k0⟩,t⟩
 subst m1
 obtain⟨o1,o⟩:=Zg c8
 obtain⟨u,rfl⟩:∃ x,x=o1:=⟨_,rfl⟩
 have n2:o0=#[u 0,u 1,u 2,u 3,u 4,u 5,u 6,u 7,u 8,u 9,u 10,u 11,u 12,u 13,u 14,u 15,u 16,u 17,u 18,u 19,u 20,u 21,u 22,u 23,u 24,u 25,u 26,u 27,u 28,u 29,u 30,u 31,u 32,u 33,u 34,u 35,u 36,u 37,u 38,u 39,u 40,u 41,u 42,u 43,u 44,u 45,u 46,u 47,u 48,u 49,u 50,u 51,u 52,u 53,u 54,u 55,u 56,u 57,u 58,u 59,u 60,u 61,u 62,u 63,u 64,u 65,u 66,u 67,u 68,u 69,u 70,u 71,u 72,u 73,u 74,u 75,u 76,u 77,u 78,u 79,u 80,u 81,u 82,u 83,u 84,u 85,u 86,u 87,u 88,u 89,u 90,u 91,u 92,u 93,u 94,u 95,u 96,u 97,u 98,u 99,u 100,u 101,u 102,u 103,u 104,u 105,u 106,u 107,u 108,u 109,u 110,u 111,u 112,u 113,u 114,u 115,u 116,u 117,u 118,u 119,u 120,u 121,u 122,u 123,u 124,u 125,u 126,u 127,u 128,u 129,u 130,u 131,u 132,u 133,u 134,u 135,u 136,u 137,u 138,u 139,u 140,u 141,u 142,u 143,u 144,u 145,u 146,u 147,u 148,u 149,u 150,u 151,u 152,u 153,u 154,u 155,u 156,u 157,u 158,u 159,u 160,u 161,u 162,u 163,u 164,u 165,u 166,u 167,u 168,u 169,u 170,u 171,u 172,u 173,u 174,u 175,u 176,u 177,u 178,u 179,u 180,u 181,u 182,u 183,u 184,u 185,u 186,u 187,u 188,u 189,u 190,u 191,u 192,u 193,u 194,u 195,u 196,u 197,u 198,u 199,u 200]:=o
 clear o
 subst n2
 change u 10=_ at U
 change u 11=_ at V
 change u 22=_ at k1
 change u 23=_ at k2
 change u 24=_ at k3
 change u 25=_ at k4
 change u 120=_ at j8
 change u 121=_ at j9
 change u 122=_ at k0
 rw [U,V,k1,k2,k3,k4,j8,j9,k0]
 clear U V k1 k2 k3 k4 j8 j9 k0 c8
 have F:=Zh t
 clear t
 by_cases c3:c<8
 case pos=>
  have e2:(c:Int)<8:=by omega
  have z6:(0:Int)<=(c:Int):=by omega
  have w1:c<(Z7 8 0).length:=by rw [Zw];exact c3
  have u4:=(i8.out.ext F.out).at w1
  rw [Zw] at u4
  obtain⟨C1,A0,B2,m,_,L,M⟩:=u4
  simp only [Value.slice.injEq,true_and] at m
  obtain⟨rfl,rfl⟩:=m
  rw [Ru c3] at L M
  obtain⟨C0,C6,B4,m,_,a5⟩:=Zq (a2.out.ext F.out) c3
  simp only [Value.slice.injEq,true_and] at m
  obtain⟨rfl,rfl⟩:=m
  rw [Q5u (by simpa using c3),Q70 c3] at a5
  have u1:Q5 g6 (.slice z C y) i:=by rw [<-d5.out];exact i1.out
  have u9:Q5 g6 (.slice B E A) r:=by rw [<-d6.out];exact i4.out
  have c2:=fun(D:World) (hD:Ext d D)=>Kv (u1.ext (F.out.trans hD)) d5.out (Zb 0 c)
  have Q:=fun(D:World) (hD:Ext d D)=>Kv (u9.ext (F.out.trans hD)) d6.out (Zb 0 c)
  clear u1 u9
  have l7:=s3.out c
  obtain⟨z0,l8⟩:∃ b,decide (Zb 0 c∈i)=b:=⟨_,rfl⟩
  obtain⟨z1,l9⟩:∃ b,decide (Zb 0 c∈r)=b:=⟨_,rfl⟩
  rw [l8,l9] at l7
  simp only [l8] at c2
  simp only [l9] at Q
  obtain⟨⟨a6,a7⟩,m9⟩:∃ s,Zb 0 c=s:=⟨_,rfl⟩
  rw [m9] at L M
  simp only [m9] at c2 Q
  dsimp only at L M
  unfold sV at c2 Q
  have n1:=Sh j c
  have m5:j c=true->((Kt j c:Nat):Int)=(c:Int):=fun G=>by unfold Kt;rw [if_pos G]
  have f3:j c=false->((Kt j c:Nat):Int)=Xn j (c+1):=fun G=>by unfold Kt;rw [G,if_neg (by decide)];exact Int.toNat_of_nonneg (Q3z G)
  obtain⟨f9,w6⟩:∃ l,Kt j c=l:=⟨_,rfl⟩
  rw [w6] at a5 m5 f3
  obtain⟨K,f0⟩:∃ f,Xn j c=f:=⟨_,rfl⟩
  obtain⟨e1,f1⟩:∃ f,Xn j (c+1)=f:=⟨_,rfl⟩
  rw [f0,f1] at n1
  rw [f1] at f3
  rw [f0]
  have m2:=Q17 j c
  rw [f0] at m2
  have r0:=Zh m2
  clear m2
  have q0:=Zh c2;have q2:=Zh Q;have j0:=Zh l7;have d7:=Zh n1;have r4:=Zh m5;have y6:=Zh f3;have d4:=Zh f1;have a9:=Zh a5
  clear c2 Q l7 n1 m5 f3 l8 l9 m9 w6 f0 f1 w1 a5
  obtain⟨J,t2⟩:∃ J,d.heap.size=J:=⟨_,rfl⟩
  have c7:(d.alloc (.cells #[.int .u32 a6,.int .u32 a7] 26)).heap[J]?=some (.cells #[.int .u32 a6,.int .u32 a7] 26 (0,0)):=new_at t2.symm
  have k9:Ext d (d.alloc (.cells #[.int .u32 a6,.int .u32 a7] 26)):=(Q0.refl _ d).alloc _
  go_upto_region 21 with (fail)
  generalize (d.alloc (.cells #[.int .u32 a6,.int .u32 a7] 26))=b1 at c7 k9 ⊢
  have s1:=Zh c7;have d1:=Zh k9
  have j3:b1.cell? ⟨J,0,none⟩=some (.int .u32 a6):=by rw [cell_of_row b1 J 0 _ _ _ c7];rfl
  have j4:b1.cell? ⟨J,1,none⟩=some (.int .u32 a7):=by rw [cell_of_row b1 J 1 _ _ _ c7];rfl
  clear c7 k9 t2 L M
  go_wp2_with fail
  refine(q0.out b1 d1.out).mono ?_
  rintro e b2 ⟨rfl,P⟩
  have v8:=(d1.out.trans P).cell_some a9.out id
  have n0:=P.keep s1.out
  have O:=Zh (d1.out.trans P)
  clear q0 d1 P s1 j3 j4 a9
  cases z0
  case true=>
   have o:j c=true:=by rw [j0.out];rfl
   have c4:=r4.out o
   have e9:((f9:Int) !=(c:Int))=false:=by rw [c4];simp
   have H:e1=K:=by
    rw [d7.out,o]
    by_cases R:K<0
    ·rw [if_pos R,if_pos rfl];have:=r0.out;omega
    ·rw [if_neg R]
   have T:Hid (Xn j (c+1)=K):=Zh (d4.out.trans H)
   have I:=Zh (F.out.trans O.out)
   clear c4 H o O F
   go_wp2
   exact⟨⟨c+1,by omega,by first | rfl | trivial,⟨rfl,rfl,rfl,rfl,rfl,rfl,by rw [T.out];rfl,rfl,rfl,rfl⟩,I.out⟩,by simp [intOf];omega⟩
  case false=>
   have j3:b2.cell? ⟨J,0,none⟩=some (.int .u32 a6):=by rw [cell_of_row b2 J 0 _ _ _ n0];rfl
   have j4:b2.cell? ⟨J,1,none⟩=some (.int .u32 a7):=by rw [cell_of_row b2 J 1 _ _ _ n0];rfl
   clear n0
   have a9:=Zh v8
   clear v8
   go_wp2_with fail
   refine(q2.out b2 O.out).mono ?_
   rintro e B0 ⟨rfl,X⟩
   have C2:=X.cell_some a9.out id
   have I:=Zh (F.out.trans (O.out.trans X))
   clear q2 O X F j3 j4 a9
   cases z1
   case true=>
    have o:j c=true:=by rw [j0.out];rfl
    have c4:=r4.out o
    have e9:((f9:Int) !=(c:Int))=false:=by rw [c4];simp
    have H:e1=K:=by
     rw [d7.out,o]
     by_cases R:K<0
     ·rw [if_pos R,if_pos rfl];have:=r0.out;omega
     ·rw [if_neg R]
    have T:Hid (Xn j (c+1)=K):=Zh (d4.out.trans H)
    clear c4 H o
    go_wp2
    exact⟨⟨c+1,by omega,by first | rfl | trivial,⟨rfl,rfl,rfl,rfl,rfl,rfl,by rw [T.out];rfl,rfl,rfl,rfl⟩,I.out⟩,by simp [intOf];omega⟩
   case false=>
    have o:j c=false:=by rw [j0.out];rfl
    have f2:=y6.out o
    by_cases R:K<0
    ·have H:e1=(c:Int):=by rw [d7.out,o,if_pos R,if_neg (by decide)]
     have e9:((f9:Int) !=(c:Int))=false:=by rw [f2,H];simp
     have T:Hid (Xn j (c+1)=(c:Int)):=Zh (d4.out.trans H)
     clear f2 H o
     go_wp2
     exact⟨⟨c+1,by omega,by first | rfl | trivial,⟨rfl,rfl,rfl,rfl,rfl,rfl,by rw [T.out];rfl,rfl,rfl,rfl⟩,I.out⟩,by simp [intOf];omega⟩
    ·have H:e1=K:=by rw [d7.out,o,if_neg R]
     have e9:((f9:Int) != K)=false:=by rw [f2,H];simp
     have T:Hid (Xn j (c+1)=K):=Zh (d4.out.trans H)
     clear f2 H o
     go_wp2
     exact⟨⟨c+1,by omega,by first | rfl | trivial,⟨rfl,rfl,rfl,rfl,rfl,rfl,by rw [T.out];rfl,rfl,rfl,rfl⟩,I.out⟩,by simp [intOf];omega⟩
 obtain rfl:c=8:=by omega
 have e2:¬ ((8:Nat):Int)<8:=by decide
 have p3:=Zh (i1.out.ext F.out);have p6:=Zh (i4.out.ext F.out);have r3:=Zh (i8.out.ext F.out);have d3:=Zh (q5.out.trans F.out)
 clear F i1 i4 i8 q5 a2
 have f4:Qn d (.slice z C y) i:=⟨z,y,by rw [d5.out],p3.out,p9.out⟩
 have f5:Qn d (.slice B E A) r:=⟨B,A,by rw [d6.out],p6.out,q1.out⟩
 have k6:Ext d (d.alloc (.cells #[.slice z C y,.slice B E A,.slice B E A,.slice z C y] 63)):=(Q0.refl _ d).alloc _
 have w9:=Be (W:=d) (p:=(i,r)) (q:=(r,i)) ⟨_,_,rfl,f4,f5⟩ ⟨_,_,rfl,f5,f4⟩
 have m3:∀ p∈[(i,r),(r,i)],wE p.1=0/\wE p.2=0/\p.1.length+p.2.length<=31:=fun p hp=>by
  have e5:=p0.out
  simp only [List.mem_cons,List.not_mem_nil,or_false] at hp
  rcases hp with rfl | rfl
  ·exact⟨d8.out,d9.out,e5⟩
  ·exact⟨d9.out,d8.out,by dsimp only;omega⟩
 obtain⟨n7,n8⟩:=Rp (s:=Zb 0 3) m3 (Nd 3 (by decide)) (by simp)
 obtain⟨g2,n9⟩:=Rp (fr:=[(i,r)]) (s:=Zb 0 3) (fun p hp=>m3 p (by simp at hp;simp [hp])) (Nd 3 (by decide)) (by simp)
 obtain⟨⟨g7,g8⟩,f8⟩:∃ s,Zb 0 3=s:=⟨_,rfl⟩
 have n5:Qd (g7,g8):=by rw [<-f8];exact N8 0 3
 obtain⟨B7,C7,B3,m,_,b8,b9⟩:=r3.out.at (show 3<(Z7 8 0).length by rw [Zw];decide)
 simp only [Value.slice.injEq] at m
 obtain⟨rfl,n6,rfl⟩:=m
 clear n6
 rw [Ru (by decide),f8] at b8 b9
 dsimp only at b8 b9
 rw [f8] at n7 n8 g2 n9
 have Q:W6 [] [(i,r)] (g7,g8)=false:=by unfold W6;rw [g2,if_pos rfl,n9];rfl
 have a4:Calls Tryz.prog 40 #[.slice none 0 0,.slice (some ⟨d.heap.size,0,none⟩) 2 2,.agg #[.int .u32 (g7:Int),.int .u32 (g8:Int)]] (d.alloc (.cells #[.slice z C y,.slice B E A,.slice B E A,.slice z C y] 63)) fun e w'=>∃ g4 g3,e=.returned (.tuple #[.slice g4 2 g3,.int .i64 0])/\Rd w' (.slice g4 2 g3) 2 1 (boV [false,false])/\Ext (d.alloc (.cells #[.slice z C y,.slice B E A,.slice B E A,.slice z C y] 63)) w':=by
  have G:=Lf (U7 _) rfl w9 rfl n5 (b0.out.keep (d3.out.trans k6) id)
  simp only [List.map_nil,List.map_cons,n7,n8] at G
  refine G.mono ?_
  rintro e w' ⟨g4,g3,rfl,N,t⟩
  exact⟨g4,g3,rfl,Rd.of_own N,t⟩
 have v7:∀(D:World),Ext d D->Calls Tryz.prog 42 #[.slice none 0 0,.slice (some ⟨D.heap.size,0,none⟩) 1 1,.agg #[.int .u32 (g7:Int),.int .u32 (g8:Int)]] (D.alloc (.cells #[.slice z C y,.slice B E A] 63)) fun e w'=>e=.returned (.tuple #[.bool false,.int .i64 0])/\Ext (D.alloc (.cells #[.slice z C y,.slice B E A] 63)) w':=fun D hD=>by
  have G:=Q3i (U7 (D.alloc (.cells #[.slice z C y,.slice B E A] 63))) rfl (Bd (W:=D) (p:=(i,r)) ⟨_,_,rfl,f4.ext hD,f5.ext hD⟩) rfl n5 (b0.out.keep (d3.out.trans (hD.trans ((Q0.refl _ D).alloc _))) id)
  simp only [List.map_nil,List.map_cons,g2,Q] at G
  exact G
 have a8:=Zh a4;have q3:=Zh v7;have d0:=Zh k6
 clear w9 m3 n7 n8 g2 n9 a4 v7 Q f4 f5 k6 f8 n5 p3 p6 r3 s3 a0
 have z2:=d0.out.cell_some b8 id
 have z3:=d0.out.cell_some b9 id
 go_wp2_with fail
 refine a8.out.mono ?_
 rintro e a3 ⟨D1,D0,rfl,x0,t4⟩
 have c1:Ext d a3:=d0.out.trans t4
 have t0:=c1.cell_some b8 id
 have t1:=c1.cell_some b9 id
 have t9:=q3.out a3 c1
 have e4:Ext a3 (a3.alloc (.cells #[.slice z C y,.slice B E A] 63)):=(Q0.refl _ a3).alloc _
 have z4:=e4.cell_some t0 id
 have z5:=e4.cell_some t1 id
 have s4:=Zh t9;have s0:=Zh x0;have q9:=Zh c1;have o9:=Zh e4
 clear a8 q3 t4 x0 t9 b8 b9 z2 z3 c1 e4 d0
 go_wp2_with fail
 refine s4.out.mono ?_
 rintro e b3 ⟨rfl,t5⟩
 have l4:Ext a3 b3:=o9.out.trans t5
 have k7:Ext b3 (b3.alloc (.cells #[.bool false,.bool false] 4)):=(Q0.refl _ b3).alloc _
 have m:=Q7c (us:=[false,false]) (vs:=[false,false]) (s0.out.ext (l4.trans k7)) (Xd (g:=b3.heap.size) (n:=2) (cap:=2) (xs:=boV [false,false]) (new_at rfl) rfl (by decide))
 rw [decide_eq_true rfl] at m
 have r6:=Zh m;have I:=Zh (d3.out.trans (q9.out.trans (l4.trans k7)))
 clear s4 t5 l4 k7 m t0 t1 z4 z5 s0 q9 o9 d3
 go_wp2_with fail
 refine r6.out.mono ?_
 rintro e y9 ⟨rfl,t6⟩
 have S:=Zh (I.out.trans t6)
 clear r6 t6 I
 go_wp2_with fail
 refine(y7.out y9 S.out).mono ?_
 rintro e D6 ⟨rfl,t7⟩
 have y8:=Zh (S.out.trans t7)
 clear t7 S
 go_wp2
 go_ret
 exact⟨rfl,y8.out⟩
theorem Pq{w:World}{c s:Int}(u:0<=c)(v:c<256)(A:0<=s)(B:s<256)
  {ao:Option Addr} {a d:Nat} {f:List Nat} (l:Rd w (.slice ao a d) a 1 (u8V f)) (n:f.length=a) (o:∀ x∈f,x<256) (m:a<=d) {j:Option Addr} {b g:Nat} {i:List Nat} (p:Rd w (.slice j b g) b 1 (u8V i)) (r:i.length=b) (t:∀ x∈i,x<256) (q:b<=g) (k:Tab w) :
  Calls Tryz.prog 12 #[.int .u8 c,.int .u8 s,.slice ao a d,.slice j b g] w fun e w'=>e=.returned (.bool true)/\Ext w w':=by
 obtain⟨D,rfl,z⟩:=Ss u v
 obtain⟨C,rfl,y⟩:=Ss A B
 exact T0 z y l n o m p r t q k
end Go.Proofs.YtejenndedjabhaaGreatDoor
