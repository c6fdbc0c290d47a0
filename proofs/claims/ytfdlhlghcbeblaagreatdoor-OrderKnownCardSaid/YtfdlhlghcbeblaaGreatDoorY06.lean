/- Laws: -/
import Derived.Test.YtfdlhlghcbeblaaGreatDoorY04
import Derived.Lib.AppendZeros
set_option maxRecDepth 100000
set_option maxHeartbeats 8000000
namespace Go.Ab
open Go.RowKit
structure Yq where
 frm:Int
 cl:Nat
 st:Nat × Nat
 tk:Nat
 ofi:Int
structure Q7 where
 name:ByteArray
 left:Pat
 right:Pat
 ifs:Wd
 outs:List Yq
 mode:Int
def Zy(x:Yq):List Value:=[.int .i64 x.frm,.int .u32 (x.cl:Int),.int .u32 (x.st.1:Int),.int .u32 (x.st.2:Int),.int .u32 (x.tk:Int),.int .i64 x.ofi]
def Fi(l:List Yq):List Value:=l.flatMap Zy
def Uf(x:Yq):Prop:=x.cl<4294967296/\Y3 x.st/\x.tk<4294967296
theorem Fu(x:Yq)(l:List Yq):Fi (x::l)=Zy x++Fi l:=rfl
theorem Bh(l:List Yq):(Fi l).length=l.length*6:=by
 induction l with
 | nil=>rfl
 | cons x l ih=>rw [Fu,List.length_append,ih];simp [Zy];omega
theorem S7:∀(l:List Yq) (i j:Nat) (h:i<l.length),j<6->(Fi l)[i*6+j]?=(Zy l[i])[j]?
 | [],i,j,h,_=>by simp at h
 | x::l,0,j,_,hj=>by rw [Fu,Nat.zero_mul,Nat.zero_add,List.getElem?_append_left (by simpa [Zy] using hj)];rfl
 | x::l,i+1,j,h,hj=>by
  rw [Fu,List.getElem?_append_right (by simp [Zy];omega),show (i+1)*6+j - (Zy x).length=i*6+j by simp [Zy];omega];exact S7 l i j (by simpa using h) hj
def J7(w:World)(v:Value)(l:List Yq):Prop:=Rd w v l.length 6 (Fi l)/\∀ x∈l,Uf x
theorem J7.ext{A B:World}{v:Value}{l:List Yq}(h:J7 A v l)(ht:Ext A B):J7 B v l:=⟨h.1.ext ht,h.2⟩
theorem J7.slice{w:World}{v:Value}{l:List Yq}(h:J7 w v l):∃ ao cap,v=.slice ao l.length cap/\l.length<=maxLen:=by
 obtain⟨⟨_,a,ao,cap,b,_⟩,_⟩:=h;exact⟨ao,cap,b,a⟩
theorem J7.at{w:World}{v:Value}{l:List Yq}(h:J7 w v l){i:Nat}(b:i<l.length) :
  ∃ g off cap,v=.slice (some ⟨g,off,none⟩) l.length cap/\g<w.heap.size/\Uf l[i]/\w.cell? ⟨g,off+i*6,none⟩=some (.int .i64 l[i].frm)/\w.cell? ⟨g,off+i*6+1,none⟩=some (.int .u32 (l[i].cl:Int))/\w.cell? ⟨g,off+i*6+2,none⟩=some (.int .u32 (l[i].st.1:Int)) /\
   w.cell? ⟨g,off+i*6+3,none⟩=some (.int .u32 (l[i].st.2:Int))/\w.cell? ⟨g,off+i*6+4,none⟩=some (.int .u32 (l[i].tk:Int))/\w.cell? ⟨g,off+i*6+5,none⟩=some (.int .i64 l[i].ofi):=by
 obtain⟨⟨p,q,o,cap,n,d⟩,e⟩:=h;obtain⟨g,off,f,m,k⟩:=d oz
 have a:∀ j,j<6->w.cell? ⟨g,off+i*6+j,none⟩=(Zy l[i])[j]?:=fun j hj=>by
  have c:i*6+j<l.length*6:=by omega
  rw [Nat.add_assoc,k (i*6+j) c,<-S7 l i j b hj,List.getD_eq_getElem?_getD,List.getElem?_eq_getElem (by rw [Bh];exact c)];rfl
 exact⟨g,off,cap,by rw [n,f],m,e _ (List.getElem_mem b),a 0 zd,a 1 zd,a 2 zd,a 3 zd,a 4 zd,a 5 zd⟩
def Tf(name:ByteArray)(lc rc:List Value)(iv ov:Value)(mode:Int):List Value:=.string name::(lc++(rc++[iv,ov,.int .i64 mode]))
def Z2(w:World)(l:Q7)(cs:List Value):Prop:=
 ∃ lc rc iv ov,cs=Tf l.name lc rc iv ov l.mode/\l.name.size<=maxLen/\Z0 (fun g=>g<w.heap.size) w l.left lc/\Z0 (fun g=>g<w.heap.size) w l.right rc/\Q8 w iv l.ifs/\J7 w ov l.outs
theorem Z2.ext{A B:World}{l:Q7}{cs:List Value}(h:Z2 A l cs)(a:Ext A B):Z2 B l cs:=by
 obtain⟨m,o,k,n,c,d,e,f,i,j⟩:=h;have b:∀ g,g<A.heap.size->g<B.heap.size:=fun g hg=>Nat.lt_of_lt_of_le hg a.size;exact⟨m,o,k,n,c,d,Z0.mono b (e.ext a),Z0.mono b (f.ext a),i.ext a,j.ext a⟩
end Go.Ab
namespace Go.Proofs.YtfdlhlghcbeblaaGreatDoor
open Go.RowKit Go.Ab
theorem Qn{w:World}{g n cap sz:Nat}{xs:List Value}{t:TypeId}(h:w.heap[g]?=some (.cells xs.toArray t (0,0))) (a:xs.length=n*sz) (b:n<=maxLen):Rd w (.slice (some ⟨g,0,none⟩) n cap) n sz xs:=by
 refine⟨a,b,_,cap,rfl,fun _=>⟨g,0,rfl,(Array.getElem?_eq_some_iff.1 h).1,fun j hj=>?_⟩⟩;rw [Nat.zero_add];have:j<xs.length:=by omega
 simp [World.cell?,h,List.getD_eq_getElem?_getD,this]
theorem J0(K:Nat->Prop)(w:World)(k:Int){pl mi:Nat}(nt:Bool)(mn mx:Int)(a:pl<4294967296)(b:mi<4294967296):Z0 K w (.node k pl mi nt mn mx []) [.int .i64 k,.int .u32 (pl:Int),.int .u32 (mi:Int),.bool nt,.int .i64 mn,.int .i64 mx,.slice none 0 0]:=by
 unfold Z0;exact⟨none,0,rfl,a,b,by simp,by simp [maxLen],by unfold Zb;trivial⟩
attribute [local go_sem] Oper.semAt_some Zf Qp
def Vy(p:Pat)(ws:Wd):Int:=if Y8 p=0 then(if 32<ws.length then 11 else if J1 ws=true then 0 else 14) else Y8 p
def Kg(p:Pat)(ws:Wd):Qk:=if Vy p ws=0 then Vn ws p else noB
theorem Ld{a:Func}{p u:Tmp}(h:a.results=#[.cell p 363,.tmp u]){tmps:Array Value}{w:World}{g:Nat}{f:Nat->Nat}(c:tmps.getD p undef=.pointer (some ⟨g,0,none⟩)) (b:Qb w g f) :
  (results a tmps).run Tryz.prog w=.ok (.tuple #[.agg (Q5 f),tmps.getD u undef]) w:=by
 have d:tmps[p]?.getD undef=.pointer (some ⟨g,0,none⟩):=by simpa using c
 simp [results,h,d,asAddr,run_loadVar_row w g _ _ _ _ _ b Tryz.underlying363 rfl (Tryz.relInfo f)]
theorem Mu{K:Nat->Prop}{w:World}{p:Pat}{cs:List Value}{v:Value}{ws:Wd}(J:Z0 K w p cs)(b0:∀ g,K g->g<w.heap.size)(M:Q8 w v ws)(X:Tab w) :
  Calls Tryz.prog 291 #[.agg cs.toArray,v] w fun e w'=>e=.returned (.tuple #[.agg (Q5 (Q4 (Kg p ws))),.int .i64 (Vy p ws)])/\Ext w w':=by
 have b2:=fun(c:World) (hE:Ext w c)=>Du (K:=K) (J.ext hE) (fun g hg=>Nat.lt_of_lt_of_le (b0 g hg) hE.size) (X.keep hE id);have b3:=fun(c:World) (hE:Ext w c)=>Lc p K c cs (J.ext hE);have b1:=fun(c:World) (hE:Ext w c)=>Sm (M.ext hE);have a5:=Zh M;have c2:=Zh X;obtain⟨s,t,rfl,d2,d1,_⟩:=Xf J;obtain⟨d9,d8,rfl,d0⟩:=M.slice;clear J d2 d1 M X b0;obtain⟨S,a2,R⟩:=Zh3 b2 b3 b1;clear b2 b3 b1;obtain⟨r,N⟩:=zE (Y8 p);obtain⟨a6,I⟩:=zE (J1 ws);obtain⟨q,H⟩:=zE ws.length;have d:Hid (Vy p ws=if r=0 then(if 32<q then 11 else if a6=true then 0 else 14) else r):=Zh (by unfold Vy;rw [N,I,H]);rw [N] at S;rw [I] at R;rw [H] at R a5 d0 ⊢;obtain⟨c3,d7,c1⟩:=Zh3 N I H;clear N I H;unfold Ql at S a2 ⊢;have e2:=Yp;have e3:=Qq noB;have e4:=Ya noB;go_enter Tryz.func291,Tryz.ntmps291;go_wp2_with fail;obtain⟨a,x⟩:=zE w.heap.size;have a0:((w.alloc (.cells #[.int .i64 p.k,.int .u32 (p.pl:Int),.int .u32 (p.mi:Int),.bool p.nt,.int .i64 p.mn,.int .i64 p.mx,.slice s p.l.length t] 98)).alloc (.cells (Q9 noB) 363)).heap[a]?=some (.cells #[.int .i64 p.k,.int .u32 (p.pl:Int),.int .u32 (p.mi:Int),.bool p.nt,.int .i64 p.mn,.int .i64 p.mx,.slice s p.l.length t] 98 (0,0)):=by
  subst x;exact Q6 (Q3 rfl)
 have Z:Qb ((w.alloc (.cells #[.int .i64 p.k,.int .u32 (p.pl:Int),.int .u32 (p.mi:Int),.bool p.nt,.int .i64 p.mn,.int .i64 p.mx,.slice s p.l.length t] 98)).alloc (.cells (Q9 noB) 363)) (a+1) (Q4 noB):=by
  subst x;exact Q3 zy
 have F:Ext w ((w.alloc (.cells #[.int .i64 p.k,.int .u32 (p.pl:Int),.int .u32 (p.mi:Int),.bool p.nt,.int .i64 p.mn,.int .i64 p.mx,.slice s p.l.length t] 98)).alloc (.cells (Q9 noB) 363)):=((Q1.refl _ w).alloc _).alloc _;generalize ((w.alloc (.cells #[.int .i64 p.k,.int .u32 (p.pl:Int),.int .u32 (p.mi:Int),.bool p.nt,.int .i64 p.mn,.int .i64 p.mx,.slice s p.l.length t] 98)).alloc (.cells (Q9 noB) 363))=e1 at a0 Z F ⊢;rw [x];have B:=Zh x;clear x;refine(S.out _ F).mono ?_;rintro e P ⟨rfl,G⟩;have a1:=G.keep a0;have o:=Z.keep G id;have y:=F.trans G;clear F G a0 Z
 have a7:∀(c:World) (C:Int) (A:Array Value) (U:List Deferred),Qb c (a+1) (Q4 noB)->Ext w c->U=[]->C=Vy p ws->C≠0->A.getD 4 undef=.pointer (some ⟨a+1,0,none⟩)->A.getD 5 undef=.int .i64 C ->
   bodyPost Tryz.prog Tryz.f291 (fun e w'=>e=.returned (.tuple #[.agg (Q5 (Q4 (Kg p ws))),.int .i64 (Vy p ws)])/\Ext w w') .ret { tmps:=A,defers:=U } c:=by
  intro c C A U n u c4 a9 c5 c6 c7;subst c4;refine bodyPost_ret (Ld rfl c6 n) rfl ⟨?_,u⟩;have:Kg p ws=noB:=by unfold Kg;rw [if_neg (a9 ▸ c5)]
  rw [this,<-a9];show Ending.returned (.tuple #[_,A.getD 5 undef])=_;rw [c7]
 have Q:=Zh a7;clear a7;have T:=zR a1;by_cases O:r=0
 ·rw [if_pos O] at d;subst O;by_cases b4:32<q
  ·rw [if_pos b4] at d;have n:(32:Int)<(q:Int):=by omega
   have m:Qb (P.setRow (a+1) (Q5 (Q4 noB))) (a+1) (Q4 noB):=setRow_heap _ _ _ _ _ _ o;have i:Ext w (P.setRow (a+1) (Q5 (Q4 noB))):=y.after (Q1.setRow _ _ _) (fun b' n u=>by have:=B.out;omega)
   go_wp2_with (refine wpList_store_row rfl 363 (.tmp 4) (.tmp 18) rfl (a+1) (Q5 (Q4 noB)) rfl rfl _ _ o (Tryz.relInfo _) (by simp only [Qc]) (Qo _) ?_)
   exact Q.out _ 11 _ _ m i rfl d.out.symm oz rfl rfl
  ·rw [if_neg b4] at d;have n:¬ (32:Int)<(q:Int):=by omega
   go_wp2_with fail;refine(R.out _ y).mono ?_;rintro e b9 ⟨rfl,i⟩;have b7:=i.keep a1;have m:=o.keep i id;have D:=y.trans i;clear i a1 o y T;have T:=zR b7;cases a6
   ·have L:Qb (b9.setRow (a+1) (Q5 (Q4 noB))) (a+1) (Q4 noB):=setRow_heap _ _ _ _ _ _ m;have z:Ext w (b9.setRow (a+1) (Q5 (Q4 noB))):=D.after (Q1.setRow _ _ _) (fun b' n u=>by have:=B.out;omega)
    go_wp2_with (refine wpList_store_row rfl 363 (.tmp 4) (.tmp 22) rfl (a+1) (Q5 (Q4 noB)) rfl rfl _ _ m (Tryz.relInfo _) (by simp only [Qc]) (Qo _) ?_)
    exact Q.out _ 14 _ _ L z rfl d.out.symm oz rfl rfl
   ·have b5:Kp p:=Q6y c3.out;have a4:=Zh b5;clear b5;go_wp2_with fail;refine(a2.out _ D a4.out).mono ?_;rintro e d6 ⟨e0,rfl,W,z⟩;obtain⟨b8,rfl⟩:=Xi W;have d5:=Km (cmp p) b8;have d4:=Hr (cmp p);have L:=m.keep z id;have E:=D.trans z;have Y:=To (cmp p) _ d6 b8 _ ws W (a5.out.ext E) (by rw [c1.out];omega) (c2.out.keep E id);rw [Wo ws p a4.out] at Y;have a3:=Zh Y;clear Y z m D b7 T W;go_wp2_with fail;clear d5 d4;refine a3.out.mono ?_;rintro e c0 ⟨rfl,V⟩;have b6:=L.keep V id;have c8:=E.trans V;have d3:Qb (c0.setRow (a+1) (Q5 (Q4 (Vn ws p)))) (a+1) (Q4 (Vn ws p)):=setRow_heap _ _ _ _ _ _ b6;have c9:Ext w (c0.setRow (a+1) (Q5 (Q4 (Vn ws p)))):=c8.after (Q1.setRow _ _ _) (fun b' n u=>by have:=B.out;omega);clear a3 L E V
    go_wp2_with (refine wpList_store_row rfl 363 (.tmp 4) (.tmp 26) rfl (a+1) (Q5 (Q4 (Vn ws p))) rfl rfl _ _ b6 (Tryz.relInfo _) (by simp only [Qc]) (Qo _) ?_)
    refine bodyPost_ret (Ld rfl rfl d3) rfl ⟨?_,c9⟩;have a8:Vy p ws=0:=d.out;have:Kg p ws=Vn ws p:=by unfold Kg;rw [if_pos a8]
    rw [this,a8];rfl
 ·rw [if_neg O] at d;have m:Qb (P.setRow (a+1) (Q5 (Q4 noB))) (a+1) (Q4 noB):=setRow_heap _ _ _ _ _ _ o;have i:Ext w (P.setRow (a+1) (Q5 (Q4 noB))):=y.after (Q1.setRow _ _ _) (fun b' n u=>by have:=B.out;omega)
  go_wp2_with (refine wpList_store_row rfl 363 (.tmp 4) (.tmp 12) rfl (a+1) (Q5 (Q4 noB)) rfl rfl _ _ o (Tryz.relInfo _) (by simp only [Qc]) (Qo _) ?_)
  exact Q.out _ r _ _ m i rfl d.out.symm O rfl rfl
def exE(n:Nat)(at':Int):Int:=if at'<0\/(n:Int)<at' then 3 else 0
theorem Ma(ao:Option Addr)(n cap:Nat)(a:Int)(w:World) :
  Calls Tryz.prog 292 #[.slice ao n cap,.int .i64 a] w fun e w'=>e=.returned (.int .i64 (exE n a))/\w'=w:=by
 by_cases c:a<0
 ·have b:Hid (exE n a=3):=Zh (by unfold exE;rw [if_pos (.inl c)]);go_enter Tryz.func292,Tryz.ntmps292;go_wp2;go_ret;exact⟨by rw [b.out];rfl,rfl⟩
 ·by_cases d:(n:Int)<a
  ·have b:Hid (exE n a=3):=Zh (by unfold exE;rw [if_pos (.inr d)]);go_enter Tryz.func292,Tryz.ntmps292;go_wp2;go_ret;exact⟨by rw [b.out];rfl,rfl⟩
  ·have b:Hid (exE n a=0):=Zh (by unfold exE;rw [if_neg oz]);go_enter Tryz.func292,Tryz.ntmps292;go_wp2;go_ret;exact⟨by rw [b.out];rfl,rfl⟩
theorem Q9a(x n:Nat)(c:x<18446744073709551616):(bits .and .u64 ((x:Int) / 2 ^ n) 1 == 1)=x.testBit n:=by
 have a:((x:Int) / 2 ^ n)=((x / 2 ^ n:Nat):Int):=by simp
 have b:bits .and .u64 ((x / 2 ^ n:Nat):Int) ((1:Nat):Int)=((x / 2 ^ n &&& 1:Nat):Int):=u64_and_nat _ _ (Nat.lt_of_le_of_lt (Nat.div_le_self _ _) c) zd;rw [a,show (1:Int)=((1:Nat):Int) from rfl,b,Nat.and_one_is_mod,Nat.testBit_eq_decide_div_mod_eq,Bool.eq_iff_iff,beq_iff_eq,decide_eq_true_iff];omega
theorem Q9h(R:Qk)(a n:Nat)(b:n<=32):(bits .and .u64 ((Q4 R a:Int) / 2 ^ n) 1 == 1)=R a n:=by
 rw [Q9a _ _ (by have:=Ka R a;omega),Q51 R oz]
theorem T3{p:Pat}{ws:Wd}(h:Vy p ws=0):ws.length<=32:=by
 unfold Vy at h;by_cases a:Y8 p=0
 ·rw [if_pos a] at h;by_cases b:32<ws.length
  ·rw [if_pos b] at h;cases h
  ·omega
 ·rw [if_neg a] at h;exact absurd h a
def Qav(p:Pat)(ws:Wd):Bool:=decide (Vy p ws=0) && Kg p ws 0 ws.length
theorem Jl{a:Func}{t u:Tmp}(h:a.results=#[.tmp t,.tmp u])(tmps:Array Value)(P:Program)(w:World) :
  (results a tmps).run P w=.ok (.tuple #[tmps.getD t undef,tmps.getD u undef]) w:=by
 simp [results,h]
def Jh(p:Pat)(ws:Wd)(at':Int):Int:=if Vy p ws=0 then exE ws.length at' else Vy p ws
def Dm(p:Pat)(ws:Wd)(at':Int):List Nat:=if Jh p ws at'=0 then(List.range (ws.length+1)).filter (fun a=>Kg p ws a at'.toNat) else []
def Dw(p:Pat)(ws:Wd)(at':Int):List Nat:=if Jh p ws at'=0 then(List.range (ws.length+1)).filter (fun b=>Kg p ws at'.toNat b) else []
def Qi(l:List Nat):List Value:=l.map fun(x:Nat)=>Value.int .i64 (x:Int)
theorem Tryz.infoI:(Tryz.prog.info? 3).map (fun i=>(i.zero,i.size,i.bytes))=some (some (.int .i64 0),1,8):=by kernel_rfl
theorem Z3{w:World}{base:Nat}{e:TypeId}{sz n g:Nat}{v:Value}{xs:List Value}(h:w.ownsRow base e sz v n xs)(a:v.ownBlock=some g):∃ cur,w.heap[g]?=some (.cells cur e (0,0)):=by
 rcases h.2 with ⟨rfl,_⟩ | ⟨d,c,cur,rfl,_,b,_⟩
 ·cases a
 ·cases a;exact⟨cur,b⟩
theorem Xg(l:List Nat)(x:Nat):Qi (l++[x])=Qi l++[.int .i64 (x:Int)]:=by simp [Qi]
theorem Ea{K:Nat->Prop}{w:World}{p:Pat}{cs:List Value}{v:Value}{ws:Wd}(G:Z0 K w p cs)(N:∀ g,K g->g<w.heap.size)(H:Q8 w v ws)(O:Tab w)(d:Int) :
  Calls Tryz.prog 279 #[.agg cs.toArray,v,.int .i64 d] w fun e w'=>∃ u,e=.returned (.tuple #[u,.int .i64 (Jh p ws d)])/\w'.ownsRow w.heap.size 3 1 u (Dm p ws d).length (Qi (Dm p ws d))/\Ext w w':=by
 have U:=fun(V:World) (m:Ext w V)=>Mu (K:=K) (G.ext m) (fun g hg=>Nat.lt_of_lt_of_le (N g hg) m.size) (H.ext m) (O.keep m id);obtain⟨b2,b7,rfl,a8,a7,_⟩:=Xf G;obtain⟨b5,b4,rfl,a6⟩:=H.slice;clear G a8 a7 H O N;have s:=Zh U;clear U;obtain⟨o,B⟩:=zE (Vy p ws);obtain⟨c,n⟩:=zE (Kg p ws);obtain⟨j,t⟩:=zE ws.length;have l:Hid (Jh p ws d=if o=0 then exE j d else o):=Zh (by unfold Jh;rw [B,t]);have z:Hid (Dm p ws d=if Jh p ws d=0 then(List.range (j+1)).filter (fun a=>c a d.toNat) else []):=Zh (by unfold Dm;rw [n,t])
 have T:o=0->j<=32:=fun h=>by
  subst B;subst t;exact T3 h
 rw [B] at s;rw [n] at s;rw [t] at s a6 ⊢;clear B n t;have Z:=Zh T;clear T;unfold Ql at s ⊢;have a9:=Yp;have b0:=Qq noB;have b1:=Ya noB;go_enter Tryz.func279,Tryz.ntmps279;go_wp2_with fail;refine(s.out _ ((Q1.refl _ w).alloc _)).mono ?_;rintro e k ⟨rfl,M⟩;have L:Ext w k:=Q1.trans ((Q1.refl _ w).alloc _) M;clear M;have C:(k.alloc (.cells (Q9 noB) 363)).heap[k.heap.size]?=some (.cells (Q9 noB) 363 (0,0)):=Q3 rfl;have D:Qb ((k.alloc (.cells (Q9 noB) 363)).setRow k.heap.size (Q5 (Q4 c))) k.heap.size (Q4 c):=setRow_heap _ _ _ _ _ _ C;have A:Ext w ((k.alloc (.cells (Q9 noB) 363)).setRow k.heap.size (Q5 (Q4 c))):=L.trans (((Q1.refl _ k).alloc _).after (Q1.setRow _ _ _) (fun b' J h2=>by omega));go_upto_region 2 with (refine wpList_store_row rfl 363 (.tmp 8) (.tmp 16) rfl k.heap.size (Q5 (Q4 c)) rfl rfl _ _ C (Tryz.relInfo _) (by rw [Qq,Qc]) (Qo _) ?_)
 generalize ((k.alloc (.cells (Q9 noB) 363)).setRow k.heap.size (Q5 (Q4 c)))=d0 at D A ⊢;generalize k.heap.size=I at D ⊢;clear C L a9 b0 b1;by_cases r:o=0
 ·have c8:=Z.out r;rw [if_pos r] at l;subst r;go_wp2_with fail;refine(Ma _ _ _ _ _).mono ?_;rintro e d1 ⟨rfl,rfl⟩;by_cases F:d<0\/(j:Int)<d
  ·have x:exE j d=3:=by unfold exE;rw [if_pos F]
   rw [x] at l ⊢;clear x;go_wp2;refine bodyPost_ret (Jl rfl _ _ _) rfl ⟨_,by rw [l.out];rfl,?_,A⟩;rw [z.out,l.out,if_neg zd];exact World.ownsRow_nil _ _ _ _
  ·have x:exE j d=0:=by unfold exE;rw [if_neg F]
   rw [x] at l ⊢;obtain⟨f,rfl⟩:∃ f:Nat,d=f:=⟨d.toNat,by omega⟩;have Y:Hid (Dm p ws f=(List.range (j+1)).filter (fun a=>c a f)):=Zh (by rw [z.out,l.out];rfl);have c7:f<=j:=by omega
   clear x z F;go_wp2
   go_loopw [10,29] (fun v i wr=>∃ b:Nat,b<=j+1/\i=.int .i64 b/\wr.ownsRow w.heap.size 3 1 v ((List.range b).filter (fun a=>c a f)).length (Qi ((List.range b).filter (fun a=>c a f)))/\Ext w wr/\Qb wr I (Q4 c)) (fun _ i _=>j+1 - (intOf i).toNat)
   case atStart=>exact⟨0,Nat.zero_le _,rfl,World.ownsRow_nil _ _ _ _,A,D⟩
   case round=>
    obtain⟨b,b9,rfl,q,m,n⟩:=hrel;by_cases c6:b<j+1
    ·have a1:=n.cell (a:=b) oz;have c0:=Ka c b;have J:(b:Int)<(j:Int)+1:=by omega
     have S:(List.range (b+1)).filter (fun a=>c a f)=(List.range b).filter (fun a=>c a f)++if c b f then [b] else []:=by
      rw [List.range_succ,List.filter_append];cases hq:c b f <;> simp [hq]
     have Q:=Q9h c b f oz;have y:=Zh S;have c1:((List.range b).filter (fun a=>c a f)).length<=33:=by
      have:=List.length_filter_le (fun a=>c a f) (List.range b);simp at this;omega
     clear S;cases hq:c b f
     ·rw [hq] at Q y;have a0:=Zh hq;clear hq;go_wp2
      go_roundw
      case rel=>exact⟨b+1,by omega,by go_num,by rw [y.out];simpa using q,m,n⟩
      case measure=>simp [intOf];omega
     ·rw [hq] at Q y;have a0:=Zh hq;clear hq
      go_wp2_with (at_builtin;refine Zz rfl (.tmp 39) (.tmp 41) 48 rfl w.heap.size 3 _ 1 8 Tryz.underlying48 Tryz.infoI rfl zd _ _ _ rfl (Qf q ((Q1.refl _ wr).alloc _)) ⟨wr.heap.size,0,none⟩ 1 1 [.int .i64 b] rfl rfl (Y5 rfl) ?c2 ?c3 ?c4 ?c5 ?_)
      case c2=>first | rfl | (intro u W;simp at W;rcases W with rfl;rfl)
      case c3=>unfold maxLen;omega
      case c4=>omega
      case c5=>have:=m.size;simp;omega
      intro b3 b6 X a4 P _;have E:Q1 (fun b'=>u10.ownBlock=some b') wr X:=Q1.trans (Q1.alloc (Q1.refl _ wr) _) P;have a3:Ext w X:=m.after E (fun b' J e=>by have:=(q.lt _ e).1;omega);have a5:=n.keep E (fun e=>by obtain⟨b8,R⟩:=Z3 q e;have a2:wr.heap[I]?=_:=n;rw [a2] at R;cases R);clear P E q m a1;go_wp2
      go_roundw
      case rel=>
       refine⟨b+1,by omega,by go_num,?_,a3,a5⟩;rw [y.out,if_pos tz,Xg,List.length_append];exact a4
      case measure=>simp [intOf];omega
    ·obtain rfl:b=j+1:=by omega
     go_wp2;refine bodyPost_ret (Jl rfl _ _ _) rfl ⟨_,by rw [l.out];rfl,?_,m⟩;rw [Y.out];exact q
 ·have c9:(o == 0)=false:=by rw [beq_eq_false_iff_ne];exact r
  rw [if_neg r] at l;go_wp2;refine bodyPost_ret (Jl rfl _ _ _) rfl ⟨_,by rw [l.out];rfl,?_,A⟩;rw [z.out,l.out,if_neg r];exact World.ownsRow_nil _ _ _ _
theorem Q0e{w:World}{bx v:Nat}(a9:v<18446744073709551616)(a4:bx≠0)(j:Jn w bx v)(O:Tab w)(b6:(evs v).length<=64) :
  Calls Tryz.prog 193 #[.slice none 0 0,.func (.func 301) #[] #[.pointer (some ⟨bx,0,none⟩)]] w fun e w'=>∃ u,e=.returned u/\w'.ownsRow w.heap.size 3 1 u (evs v).length (Qi (evs v))/\Q1 (·=bx) w w':=by
 refine Qv Tryz.func193 rfl ?_;simp only [Tryz.ntmps193,zS,Nat.reduceAdd,Nat.reduceSub];go_wp2;obtain⟨a,p⟩:=zE w.heap.size;have b5:bx<a:=by rw [<-p];exact(Array.getElem?_eq_some_iff.1 j).1
 have b9:0<a:=by rw [<-p];exact Q1y O
 have C:(w.alloc (.cells #[.slice none 0 0] 48)).heap[a]?=some (.cells #[.slice none 0 0] 48 (0,0)):=Q3 p.symm;have y:Ext w (w.alloc (.cells #[.slice none 0 0] 48)):=(Q1.refl _ w).alloc _;have a7:(w.alloc (.cells #[.slice none 0 0] 48)).heap.size=a+1:=by rw [<-p];simp
 generalize (w.alloc (.cells #[.slice none 0 0] 48))=G at C y a7 ⊢;have T:Jn G bx v:=y.keep j;have P:=O.keep y id;rw [p];have x:=Zh p;clear p
 refine Wr (xs:=evs v) (S:=(·=bx)) (K:=fun b'=>b'=bx\/b'=0) rfl (enters_of Tryz.func301 kz rfl)
  (Rp _ a9 bx a4 G T P) (fun _ i=>.inl i) (fun b' i=>by omega) (fun _=>rfl)
  (fun d f=>∃ u,f.heap[a]?=some (.cells #[u] 48 (0,0))/\f.ownsRow a 3 1 u d.length (Qi d)/\(∀ c,u.ownBlock=some c->c≠a/\c≠a+1/\c≠a+2)/\Q1 (·=bx) w f)
  (fun _ _ _=>False) ?hI ?hIx ?h0 (fun q t=>(t.setIfInBounds 7 (.int .i64 q)).setIfInBounds 5 (.int .i64 q)) ?assign ?body ?done ?stop
 case hI=>
  rintro d Z a0 ⟨u,k,g,n,s⟩ a8;have r:Q1 (fun b=>b=bx\/b=a+2) Z a0:=a8.mono (fun b _ i=>by omega);exact⟨u,r.heap k oz,Qd g r (fun b j e=>by have:=n b j;have:=(g.lt _ j).1;omega),n,s.after r (fun b' h1 h2=>by have:=x.out;omega)⟩
 case hIx=>exact fun _ _ _ _ i _=>i
 case h0=>
  intro f R _;exact⟨.slice none 0 0,R.keep C,World.ownsRow_nil _ _ _ _,(fun c B=>by cases B),Ext.of (Q1.trans y R)⟩
 case assign=>
  intro q f K a3;gi_wp2;exact a3
 case body=>
  rintro d q c0 f F b8 r ⟨u,k,g,n,s⟩;simp only [pq];have b7:d.length<64:=by
   have:=congrArg List.length F;simp at this;omega
  have H:=cell_of_one k;have a1:=free_of_one k;have b3:a<f.heap.size:=(Array.getElem?_eq_some_iff.1 k).1;have b4:=Zh F;clear F;refine wpIn_block ?_;refine Xc kz (by rintro⟨_,_,i⟩;exact i) ?_;have Y:=Zh k;clear k
  go_wp2_with (at_builtin;refine Zz rfl (.tmp 8) (.tmp 10) 48 rfl a 3 _ 1 8 Tryz.underlying48 Tryz.infoI rfl zd _ _ _ rfl (Qf g ((Q1.refl _ f).alloc _)) ⟨f.heap.size,0,none⟩ 1 1 [.int .i64 q] rfl rfl (Y5 rfl) ?c2 ?c3 ?c4 ?c5 ?_)
  case c2=>first | rfl | (intro u V;simp at V;rcases V with rfl;rfl)
  case c3=>unfold maxLen;omega
  case c4=>omega
  case c5=>simp;omega
  intro l m o N Q I;have z:Q1 (fun b'=>u.ownBlock=some b') f o:=Q1.trans (Q1.alloc (Q1.refl _ f) _) Q;have D:=z.heap Y.out (fun e=>(n _ e).1 rfl);have J:Q1 (·=bx) w o:=s.after z (fun b' h1 e=>by have:=(g.lt _ e).1;have:=x.out;omega);have E:∀ c,(Value.slice l (d.length+1) m).ownBlock=some c->c≠a/\c≠a+1/\c≠a+2:=by
   intro c B;rcases I with e | e
   ·exact n c (e ▸ B)
   ·rw [B] at e;cases e;omega
  have b0:=cell_of_one D;have b2:=free_of_one D;have A:=Q1.set1 o a 0 (.slice l (d.length+1) m);have M:(o.setCell ⟨a,0,none⟩ (.slice l (d.length+1) m)).heap[a]?=some (.cells #[.slice l (d.length+1) m] 48 (0,0)):=by
   simp only [World.setCell,Array.getElem?_modify,D];simp
  have L:Q1 (fun b=>¬ ((b=bx\/b=0)\/b=a+1\/b=a+1+1)) f (o.setCell ⟨a,0,none⟩ (.slice l (d.length+1) m)):=
   (z.mono (fun b' _ e=>by have:=n _ e;have:=(g.lt _ e).1;omega)).trans (A.mono (fun b' _ e=>by omega))
  have U:∃ u,(o.setCell ⟨a,0,none⟩ (.slice l (d.length+1) m)).heap[a]?=some (.cells #[u] 48 (0,0))/\(o.setCell ⟨a,0,none⟩ (.slice l (d.length+1) m)).ownsRow a 3 1 u (d++[q]).length (Qi (d++[q]))/\(∀ c,u.ownBlock=some c->c≠a/\c≠a+1/\c≠a+2)/\Q1 (·=bx) w (o.setCell ⟨a,0,none⟩ (.slice l (d.length+1) m)):=by
   refine⟨_,M,?_,E,J.after A (fun b h1 h2=>by have:=x.out;omega)⟩;rw [Xg,List.length_append];exact Qd N A (fun b j e=>(E b j).1 e)
  have X:=Zh L;have W:=Zh U;clear L U M A E J z Q N I H a1 g n s r;go_wp2;exact⟨X.out,W.out⟩
 case done=>
  rintro f ⟨u,k,g,n,s⟩ r a2;have H:=cell_of_one k;clear y T P C;go_wp2;have a6:Qs a ({ target:=.collected G.heap.size,args:=#[] }::[]) f:=Qs.cons (base:=a) trivial oz a2 (fun e he=>by cases he);refine Y7 a6 (fun w'=>results_tmp rfl _ _ _) (fun w' ht' hs=>⟨u,rfl,?_,?_⟩)
  ·rw [x.out];exact Qd g ht' (fun b j e=>by obtain⟨b1,a5⟩:=Z3 g j;exact Shut.not a5 rfl e)
  ·exact s.after ht' (fun b' h2 h3=>by have:=h3.1;have:=x.out;omega)
 case stop=>exact fun _ _ _ _ _ _ i=>i.elim
theorem Ba{w:World}{bx v:Nat}(i:v<18446744073709551616)(f:bx≠0)(d:Jn w bx v)(c:Tab w)(g:(evs v).length<=64) :
  Calls Tryz.prog 163 #[.func (.func 301) #[] #[.pointer (some ⟨bx,0,none⟩)]] w fun e w'=>∃ u,e=.returned u/\w'.ownsRow w.heap.size 3 1 u (evs v).length (Qi (evs v))/\Q1 (·=bx) w w':=by
 go_enter Tryz.func163,Tryz.ntmps163;go_wp2_with fail;refine(Q0e i f d c g).mono ?_;rintro e j ⟨u,rfl,a,b⟩;go_wp2;go_ret;exact⟨_,rfl,a,b⟩
theorem Cd(R:Qk)(a:Nat):evs (Q4 R a)=(List.range 33).filter (R a):=M1 R a
theorem Ez{R:Qk}{a n:Nat}(g:n<=32)(e:∀ b,R a b=true->b<=n):(List.range 33).filter (R a)=(List.range (n+1)).filter (fun b=>R a b):=by
 have c:List.range 33=List.range (n+1)++(List.range (32 - n)).map (n+1+·):=by
  rw [<-List.range_add,show n+1+(32 - n)=33 by omega]
 rw [c,List.filter_append];have:((List.range (32 - n)).map (n+1+·)).filter (R a)=[]:=by
  rw [List.filter_eq_nil_iff];intro j f d;obtain⟨i,_,rfl⟩:=List.mem_map.1 f;have:=e _ d;omega
 rw [this,List.append_nil]
theorem Q5l{K:Nat->Prop}{w:World}{p:Pat}{cs:List Value}{v:Value}{ws:Wd}(F:Z0 K w p cs)(L:∀ g,K g->g<w.heap.size)(G:Q8 w v ws)(D:Tab w)(c:Int) :
  Calls Tryz.prog 280 #[.agg cs.toArray,v,.int .i64 c] w fun e w'=>∃ u,e=.returned (.tuple #[u,.int .i64 (Jh p ws c)])/\w'.ownsRow w.heap.size 3 1 u (Dw p ws c).length (Qi (Dw p ws c))/\Ext w w':=by
 have x:Qz ws.length (Kg p ws):=by
  unfold Kg
  split
  ·exact Gd ws p
  ·exact Qz.no _
 have H:=Zh D;have P:=fun(V:World) (hE:Ext w V)=>Mu (K:=K) (F.ext hE) (fun g hg=>Nat.lt_of_lt_of_le (L g hg) hE.size) (G.ext hE) (D.keep hE id);obtain⟨a7,b1,rfl,a1,a0,_⟩:=Xf F;obtain⟨a9,a8,rfl,Z⟩:=G.slice;clear F a1 a0 G D L;have n:=Zh P;clear P;obtain⟨l,y⟩:=zE (Vy p ws);obtain⟨b,A⟩:=zE (Kg p ws);obtain⟨i,q⟩:=zE ws.length;have j:Hid (Jh p ws c=if l=0 then exE i c else l):=Zh (by unfold Jh;rw [y,q]);have s:Hid (Dw p ws c=if Jh p ws c=0 then(List.range (i+1)).filter (fun k=>b c.toNat k) else []):=Zh (by unfold Dw;rw [A,q])
 have O:l=0->i<=32:=fun h=>by
  subst y;subst q;exact T3 h
 rw [y] at n;rw [A] at n x;rw [q] at n Z x ⊢;have T:=Zh x;clear x;clear y A q;have U:=Zh O;clear O;unfold Ql at n ⊢;have a4:=Yp;have a5:=Qq noB;have a6:=Ya noB;go_enter Tryz.func280,Tryz.ntmps280;go_wp2_with fail;refine(n.out _ ((Q1.refl _ w).alloc _)).mono ?_;rintro e f ⟨rfl,J⟩;have I:Ext w f:=Q1.trans ((Q1.refl _ w).alloc _) J;clear J;have B:(f.alloc (.cells (Q9 noB) 363)).heap[f.heap.size]?=some (.cells (Q9 noB) 363 (0,0)):=Q3 rfl;have C:Qb ((f.alloc (.cells (Q9 noB) 363)).setRow f.heap.size (Q5 (Q4 b))) f.heap.size (Q4 b):=setRow_heap _ _ _ _ _ _ B;have o:Ext w ((f.alloc (.cells (Q9 noB) 363)).setRow f.heap.size (Q5 (Q4 b))):=I.trans (((Q1.refl _ f).alloc _).after (Q1.setRow _ _ _) (fun b' h1 h2=>by omega));go_upto_region 2 with (refine wpList_store_row rfl 363 (.tmp 8) (.tmp 14) rfl f.heap.size (Q5 (Q4 b)) rfl rfl _ _ B (Tryz.relInfo _) (by rw [Qq,Qc]) (Qo _) ?_)
 generalize ((f.alloc (.cells (Q9 noB) 363)).setRow f.heap.size (Q5 (Q4 b)))=b7 at C o ⊢;generalize f.heap.size=k at C ⊢;clear B I a4 a5 a6;by_cases m:l=0
 ·have a2:=U.out m;rw [if_pos m] at j;subst m;go_wp2_with fail;refine(Ma _ _ _ _ _).mono ?_;rintro e R ⟨rfl,rfl⟩;by_cases E:c<0\/(i:Int)<c
  ·have r:exE i c=3:=by unfold exE;rw [if_pos E]
   rw [r] at j ⊢;clear r;go_wp2;refine bodyPost_ret (Jl rfl _ _ _) rfl ⟨_,by rw [j.out];rfl,?_,o⟩;rw [s.out,j.out,if_neg zd];exact World.ownsRow_nil _ _ _ _
  ·have r:exE i c=0:=by unfold exE;rw [if_neg E]
   rw [r] at j ⊢;obtain⟨d,rfl⟩:∃ d:Nat,c=d:=⟨c.toNat,by omega⟩;have S:Hid (Dw p ws d=(List.range (i+1)).filter (fun k=>b d k)):=Zh (by rw [s.out,j.out];rfl);have b4:d<=i:=by omega
   have b0:=C.cell (a:=d) oz;have b3:=Ka b d;have Q:(List.range 33).filter (b d)=(List.range (i+1)).filter (fun k=>b d k):=Ez a2 (fun k hb=>(T.out d k hb).2);have W:=Zh Q;clear r s E Q
   go_wp2_with (go_at_call 293;refine(Cq _ _).mono ?_;rintro e w' ⟨rfl,rfl⟩)
   have b2:=Q1y H.out;have b5:=o.size;have t:Ext w (R.alloc (.cells #[.int .u64 (Q4 b d:Int)] 361)):=Q1.alloc o _;have N:(evs (Q4 b d)).length<=64:=by
    rw [Cd];have:=List.length_filter_le (b d) (List.range 33);simp at this;omega
   refine(Ba (v:=Q4 b d) (bx:=R.heap.size) oz oz (Q3 rfl) (H.out.keep t id) N).mono ?_;rintro e a3 ⟨u,rfl,z,M⟩;rw [Cd,W.out,<-S.out] at z;have X:Ext w a3:=t.after M (fun b' h1 h2=>by omega);have Y:=Xh z t.size;clear z M t N;go_wp2;exact bodyPost_ret (Jl rfl _ _ _) rfl ⟨_,by rw [j.out];rfl,Y,X⟩
 ·have b6:(l == 0)=false:=by rw [beq_eq_false_iff_ne];exact m
  rw [if_neg m] at j;go_wp2;refine bodyPost_ret (Jl rfl _ _ _) rfl ⟨_,by rw [j.out];rfl,?_,o⟩;rw [s.out,j.out,if_neg m];exact World.ownsRow_nil _ _ _ _
theorem Q7u(b o j:Nat):(⟨b,o,none⟩:Addr).add j=⟨b,o+j,none⟩:=by
 unfold Addr.add;split
 ·rename_i a;subst a;rfl
 ·simp
section
variable {P:Program} {w:World}
theorem Kz{ops:Array Oper}{rest:List Oper}{o:Oper}{a:Act}{Q:Exit->Act->World->Prop}(r:o.guard=none)(s x:Operand)(t:TypeId)
  (C:o.op=.call { callee:=.builtin .append,args:=#[s,x],argTypes:=#[t,t] })
  (base:Nat) (e:TypeId) (z:Value) (size g:Nat) (l:P.underlying t=some (.slice e)) (B:(P.info? e).map (fun i=>(i.zero,i.size,i.bytes))=some (some z,size,g))
  (Y:z.cells.size=size) (X:0<size)
  (v:Value) (n:Nat) (xs:List Value) (D:a.eval s=v) (f:w.ownsRow base e size v n xs)
  (A:Option Addr) (m c:Nat) (d:List Value) (F:a.eval x=.slice A m c) (V:Rd w (.slice A m c) m size d) (M:∀ u∈d,u.oneCell'=true)
  (N:n+m<=maxLen) (R:(n+m)*g<=140737488355328) (O:base<=w.heap.size)
  (h:∀ ao c' w',w'.ownsRow base e size (.slice ao (n+m) c') (n+m) (xs++d)->Q1 (fun b=>v.ownBlock=some b) w w'->((Value.slice ao (n+m) c').ownBlock=v.ownBlock\/(Value.slice ao (n+m) c').ownBlock=some w.heap.size)->wpList P ops Q rest (a.put o.dst (.slice ao (n+m) c')) w'):wpList P ops Q (o::rest) a w:=by
 obtain⟨q,_,ao,I,E,G⟩:=V;simp only [zV,true_and] at E;obtain⟨rfl,rfl⟩:=E;rcases A with _ | H
 ·have k:m=0:=by
   apply Nat.le_antisymm _ (Nat.zero_le _);apply Nat.le_of_not_lt;intro L;obtain⟨_,_,p,_⟩:=G L;cases p
  subst k;obtain rfl:d=[]:=List.eq_nil_of_length_eq_zero (by simpa using q);obtain⟨i,y,a2,a1,a0⟩:=info_parts B;have W:(Builtin.append_ #[t,t] o.type #[v,.slice none 0 c]).run P w=.ok v w:=by
   rcases f.2 with ⟨rfl,rfl⟩ | ⟨J,I,Z,rfl,_,_,U,_⟩
   ·simp [Builtin.append_,run_underlying l,sizeOf,typeInfo,y,Builtin.lenOf,Builtin.firstCells]
   ·simp [Builtin.append_,run_underlying l,sizeOf,typeInfo,y,Builtin.lenOf,Builtin.firstCells,U,storeCells]
  refine wpList_plain r fun K hK=>?_
  unfold Oper.wp execOp;simp only [C,resolve,invoke,builtin,Sem.run_bind,Sem.run_pure,Result.andThen_ok,List.map_toArray,List.map_cons,List.map_nil,D,F,W];obtain⟨ao,c',rfl⟩:=Zj f;exact hK _ _ (h ao c' w (by simpa using f) (Q1.refl _ _) (.inl rfl))
 ·refine Zz r s x t C base e z size g l B Y X v n xs D f H m c d F q (fun j u hj=>?_) M N R O h;have T:j<m*size:=by rw [<-q];exact(List.getElem?_eq_some_iff.1 hj).1
  have k:0<m:=by
   apply Nat.pos_of_ne_zero;rintro rfl;omega
  obtain⟨J,a3,p,_,S⟩:=G k;cases p;rw [Q7u,S j T,List.getD_eq_getElem?_getD,hj];rfl
end
theorem Ri(w:Wd):∀ u∈Qw w,u.oneCell'=true:=by
 intro u a;obtain⟨b,_,a⟩:=List.mem_flatMap.1 a;simp only [List.mem_cons,List.not_mem_nil,or_false] at a;rcases a with rfl | rfl <;> rfl
theorem Ub:(Tryz.prog.info? 95).map (fun i=>(i.zero,i.size,i.bytes))=some (some (.agg #[.int .u32 0,.int .u32 0]),2,8):=by kernel_rfl
theorem Q5a(n:Nat)(s:n<=100000)(w:World) :
  Calls Tryz.prog 261 #[.slice none 0 0,.int .i64 n] w fun e w'=>∃ ao c,e=.returned (.slice ao 0 c)/\w'.ownsRow w.heap.size 95 2 (.slice ao 0 c) 0 []/\Ext w w':=by
 by_cases m:n=0
 ·subst m;go_enter Tryz.func261,Tryz.ntmps261;go_wp2;go_ret;exact⟨_,_,rfl,World.ownsRow_nil _ _ _ _,Q1.refl _ _⟩
 ·obtain⟨r,i,k,p,f⟩:=info_parts (@Ub);have b:=Lib.run_append_nil_zeros (P:=Tryz.prog) w 99 3 99 95 r (.agg #[.int .u32 0,.int .u32 0]) .i64 .i64 Tryz.underlying99 Tryz.underlying3 i k n oz oz oz (by rw [f];omega);have o:=grownCap_ge w n 0 95;have j:=grownCap_le_maxLen w n 0 95 (by unfold maxLen;omega);obtain⟨c,g⟩:=zE (grownCap w n 0 95);rw [g] at b o j;obtain⟨a,d⟩:=zE (Builtin.zeroCells (Value.agg #[.int .u32 0,.int .u32 0]).cells n++Builtin.zeroCells (Value.agg #[.int .u32 0,.int .u32 0]).cells (c - n));have q:a.size=c*2:=by
   rw [<-d,Array.size_append,size_zeroCells,size_zeroCells];show n*2+(c - n)*2=c*2;omega
  rw [d] at b;have t:(0:Int)<(n:Int):=by omega
  have l:=Zh b;clear b d g i k p f;go_enter Tryz.func261,Tryz.ntmps261
  go_wp2_with (at_builtin;refine Lib.wpList_append_run _ rfl (.tmp 20) (.tmp 21) _ _ rfl (.slice none 0 0) (.int .i64 n) rfl rfl _ _ l.out ?_)
  go_ret;exact⟨_,_,rfl,⟨by simp,.inr ⟨w.heap.size,c,a,rfl,Nat.le_refl _,Q3 zy,by omega,j,q,by simp⟩⟩,((Q1.refl _ w).drew).alloc _⟩
def Xo(us:List Wd)(k:Nat):Wd:=(us.take k).flatten
theorem P1{us:List Wd}{k:Nat}(h:k<us.length):Xo us (k+1)=Xo us k++us[k]:=by
 unfold Xo;rw [List.take_succ_eq_append_getElem h,List.flatten_append];simp
theorem T8{us:List Wd}{k:Nat}(h:us.length<=k):Xo us k=us.flatten:=by unfold Xo;rw [List.take_of_length_le h]
theorem Bv{us:List Wd}(k:Nat):(Xo us k).length<=us.flatten.length:=by
 unfold Xo;conv=>rhs;rw [<-List.take_append_drop k us,List.flatten_append,List.length_append]
 omega
theorem Mq{w:World}{ao:Option Addr}{cap:Nat}{vs:List Value}{us:List Wd}{F:Wd}(b1:us.flatten=F)(G:Rd w (.slice ao us.length cap) us.length 1 vs) (b7:∀ i (h:i<us.length),Q8 w (vs.getD i undef) us[i]) (d1:F.length<=1000) :
  Calls Tryz.prog 227 #[.slice ao us.length cap] w fun e w'=>∃ u,e=.returned u/\w'.ownsRow w.heap.size 95 2 u F.length (Qw F)/\Ext w w':=by
 obtain⟨f,Y⟩:=zE us.length;have c4:f<=maxLen:=by have:=G.2.1;omega
 unfold maxLen at c4;rw [Y] at G ⊢;have o:=Zh Y;clear Y;have a5:=Zh b7;have C:=Zh b1;clear b1
 have b4:Hid (∀ c (b6:c<us.length),∃ l s,ao=some ⟨l,s,none⟩/\l<w.heap.size/\w.cell? ⟨l,s+c,none⟩=some (vs.getD c undef)):=Zh fun c b6=>by
  obtain⟨_,_,a9,b0,d2,c0⟩:=G;cases d2;obtain⟨l,s,c1,c2,c3⟩:=c0 (by have:=o.out;omega);exact⟨l,s,c1,c2,c3 c (by have:=o.out;omega)⟩
 clear G b7;go_enter Tryz.func227,Tryz.ntmps227;go_wp2
 refine wp_loop (fun a p=>∃(c:Nat),c<=f/\a.defers=[]/\(a.tmps.size=36/\a.tmps.getD 0 undef=.slice ao f cap/\a.tmps.getD 3 undef=.int .i64 ((Xo us c).length:Int)/\a.tmps.getD 9 undef=.slice ao f cap/\a.tmps.getD 10 undef=.int .i64 f/\a.tmps.getD 11 undef=.int .i64 c)/\w=p)
  (fun a _=>f - (intOf (a.tmps.getD 11 undef)).toNat) ?_ ?_
 ·exact⟨0,by omega,rfl,⟨rfl,rfl,by simp [Xo],rfl,rfl,rfl⟩,rfl⟩
 rintro⟨a3,_⟩ p ⟨c,b6,a0,⟨z,O,U,W,P,Q⟩,rfl⟩;subst a0;obtain⟨a4,A⟩:=Zd z;obtain⟨u,rfl⟩:∃ x,x=a4:=⟨_,rfl⟩;have a1:a3=#[u 0,u 1,u 2,u 3,u 4,u 5,u 6,u 7,u 8,u 9,u 10,u 11,u 12,u 13,u 14,u 15,u 16,u 17,u 18,u 19,u 20,u 21,u 22,u 23,u 24,u 25,u 26,u 27,u 28,u 29,u 30,u 31,u 32,u 33,u 34,u 35]:=A;clear A;subst a1;change u 0=_ at O;change u 3=_ at U;change u 9=_ at W;change u 10=_ at P;change u 11=_ at Q;rw [O,U,W,P,Q];clear O U W P Q z;by_cases d0:c<f
 ·have X:(c:Int)<(f:Int):=by omega
  have m:c<us.length:=by rw [o.out];exact d0
  obtain⟨l,s,rfl,c8,y⟩:=b4.out c m;obtain⟨d5,d4,B,a2⟩:=(a5.out c m).slice;rw [B] at y;have r:=P1 m;have k:=Bv (us:=us) (c+1);rw [C.out] at k;have n:(Xo us (c+1)).length=(Xo us c).length+us[c].length:=by rw [r,List.length_append]
  rw [n] at k;obtain⟨L,J⟩:=zE ((Xo us c).length);obtain⟨K,I⟩:=zE (us[c].length);rw [J,I] at k;rw [J];rw [I] at y;have d8:¬ ((L:Int)+(K:Int)<0):=by omega
  have b8:Hid ((Xo us (c+1)).length=L+K):=Zh (by rw [n,J,I]);clear r n J I B a2;go_wp2;exact⟨⟨c+1,by omega,by rw [b8.out];simp,by simp⟩,nz⟩
 obtain rfl:c=f:=by omega
 have X:¬ (c:Int)<(c:Int):=by omega
 have q:(Xo us c)=F:=(T8 (by rw [o.out];exact Nat.le_refl _)).trans C.out;rw [q];clear q;obtain⟨N,Z⟩:=zE F.length;rw [Z] at d1 ⊢;have E:=Zh Z;clear Z
 go_wp2_with (go_at_call 261;refine(Q5a N oz _).mono ?_;rintro e d3 ⟨v,t,rfl,g,j⟩)
 refine wp_loop (fun a p=>∃(d:Nat) (v:Option Addr) (t:Nat),d<=c/\a.defers=[]/\(a.tmps.size=36/\a.tmps.getD 6 undef=.slice v (Xo us d).length t/\a.tmps.getD 25 undef=.slice ao c cap/\a.tmps.getD 26 undef=.int .i64 c/\a.tmps.getD 27 undef=.int .i64 d)/\p.ownsRow w.heap.size 95 2 (.slice v (Xo us d).length t) (Xo us d).length (Qw (Xo us d))/\Ext w p)
  (fun a _=>c - (intOf (a.tmps.getD 27 undef)).toNat) ?_ ?_
 ·exact⟨0,v,t,by omega,rfl,⟨rfl,rfl,rfl,rfl,rfl⟩,g,j⟩
 clear g j d3 v t;rintro⟨a3,_⟩ p ⟨d,v,t,d7,a0,⟨z,V,R,S,T⟩,g,j⟩;subst a0;obtain⟨a4,A⟩:=Zd z;obtain⟨u,rfl⟩:∃ x,x=a4:=⟨_,rfl⟩;have a1:a3=#[u 0,u 1,u 2,u 3,u 4,u 5,u 6,u 7,u 8,u 9,u 10,u 11,u 12,u 13,u 14,u 15,u 16,u 17,u 18,u 19,u 20,u 21,u 22,u 23,u 24,u 25,u 26,u 27,u 28,u 29,u 30,u 31,u 32,u 33,u 34,u 35]:=A;clear A;subst a1;change u 6=_ at V;change u 25=_ at R;change u 26=_ at S;change u 27=_ at T;rw [V,R,S,T];clear V R S T z;by_cases c9:d<c
 ·have X:(d:Int)<(c:Int):=by omega
  have m:d<us.length:=by rw [o.out];exact c9
  obtain⟨l,s,rfl,c8,b5⟩:=b4.out d m;have y:=j.cell_some b5 (fun h=>h);have H:=(a5.out d m).ext j;obtain⟨d5,d4,B,a2⟩:=H.slice;rw [B] at y H;have r:=P1 m;have k:=Bv (us:=us) (d+1);rw [C.out] at k;have n:(Xo us (d+1)).length=(Xo us d).length+us[d].length:=by rw [r,List.length_append]
  rw [n,E.out] at k;obtain⟨M,D,a6⟩:=Zh3 r n H.1;have c7:=j.size;clear r n B a2 H b5;obtain⟨a7,b2⟩:=zE (Xo us d);obtain⟨a8,b3⟩:=zE (us[d]);rw [b2] at g k M D ⊢;rw [b3] at y k M D a6;clear b2 b3
  go_wp2_with (at_builtin;refine Kz rfl (.tmp 31) (.tmp 32) 99 rfl w.heap.size 95 _ 2 8 Tryz.underlying99 @Ub rfl zd _ _ _ rfl g _ _ _ _ rfl a6.out (Ri _) (by unfold maxLen;omega) oz c7 ?_;intro a9 b0 d9 c5 c6 d6)
  refine⟨⟨d+1,a9,b0,by omega,tz,⟨rfl,by rw [D.out];rfl,rfl,rfl,rfl⟩,?_,?_⟩,nz⟩
  ·rw [D.out,M.out,Ur];exact c5
  ·exact j.after c6 (fun b hb e=>by have:=(g.lt _ e).1;omega)
 ·obtain rfl:d=c:=by omega
  have X:¬ (d:Int)<(d:Int):=by omega
  have q:(Xo us d)=F:=(T8 (by rw [o.out];exact Nat.le_refl _)).trans C.out;rw [q,E.out] at g;rw [q,E.out];have b9:=Zh g;clear g q;go_wp2;go_ret;exact⟨_,rfl,by rw [E.out];exact b9.out,j⟩
end Go.Proofs.YtfdlhlghcbeblaaGreatDoor
namespace Go.Ab
open Go.RowKit Go.Proofs.YtfdlhlghcbeblaaGreatDoor
def Z1(ops:Array Oper)(i:Nat):Option Nat:=(ops[i]?).bind (·.dst)
def U2(ops:Array Oper)(vs:Nat->Value)(l:List Nat)(t:Array Value):Array Value:=
 l.foldl (fun t i=>match Z1 ops i with | some d=>t.setIfInBounds d (vs i) | none=>t) t
theorem Wz{ops:Array Oper}{vs:Nat->Value}{s:Nat}:∀ {l:List Nat} {t:Array Value},(∀ i∈l,Z1 ops i≠some s)->(U2 ops vs l t)[s]?=t[s]?
 | [],_,_=>rfl
 | i::l,t,h=>by
  unfold U2;rw [List.foldl_cons];refine(Wz (l:=l) fun j hj=>h j (by simp [hj])).trans ?_
  split
  ·rename_i d hd
   rw [Array.getElem?_setIfInBounds,if_neg];intro e;exact h i zy (by rw [hd,e])
  ·rfl
theorem Pm{ops:Array Oper}{vs:Nat->Value}{s i:Nat}:∀ {l:List Nat} {t:Array Value},i∈l->Z1 ops i=some s->(∀ j∈l,Z1 ops j=some s->j=i)->s<t.size->(U2 ops vs l t)[s]?=some (vs i)
 | [],_,h,_,_,_=>by cases h
 | j::l,t,h,hd,hu,hs=>by
  unfold U2;rw [List.foldl_cons];by_cases hl:i∈l
  ·refine Pm (l:=l) hl hd (fun k hk=>hu k (by simp [hk])) ?_
   split
   ·simpa using hs
   ·exact hs
  ·have hji:j=i:=by
    rcases List.mem_cons.1 h with h | h
    ·exact h.symm
    ·exact absurd h hl
   subst hji;refine(Wz (l:=l) fun k hk e=>hl (hu k (by simp [hk]) e ▸ hk)).trans ?_;rw [hd];dsimp only;rw [Array.getElem?_setIfInBounds,if_pos rfl,if_pos hs]
structure Box where
 al:Nat
 da:Nat
 st:Nat
 dv:Nat
 iv:Nat
def Eq(ops:Array Oper):Bool:=(List.range ops.size).all fun i=>(List.range ops.size).all fun j=>match Z1 ops i,Z1 ops j with
 | some d,some e=>decide (d=e->i=j)
 | _,_=>true
theorem Yv{ops:Array Oper}(h:Eq ops=true){i j d:Nat}(b:Z1 ops i=some d)(c:Z1 ops j=some d):i=j:=by
 have e:∀ k d,Z1 ops k=some d->k<ops.size:=fun k d hk=>by
  unfold Z1 at hk;cases ho:ops[k]? with
  | none=>rw [ho] at hk;cases hk
  | some o=>exact(Array.getElem?_eq_some_iff.1 ho).1
 have a:=List.all_eq_true.1 (List.all_eq_true.1 h i (List.mem_range.2 (e i d b))) j (List.mem_range.2 (e j d c));rw [b,c] at a
 simpa using a
def Q86(ops:Array Oper)(ty:TypeId)(bx:List Box):Bool:=bx.all fun x=>
 (Z1 ops x.al == some x.da) && (Z1 ops x.iv == some x.dv) && (Z1 ops x.st == none) && (match ops[x.st]? with
  | some o=>o.guard.isNone && (match o.op with | .store t (.tmp p) (.tmp v)=>t == ty && p == x.da && v == x.dv | _=>false) && (o.after.toList.any fun e=>Region.binds .any e && e.on == x.al) && (o.after.toList.any fun e=>Region.binds .any e && e.on == x.iv)
  | none=>false) && bx.all fun y=>(decide (x.al≠y.st)) && decide (x.iv≠y.st) && decide (x.iv≠y.al) && decide (x.al=y.al\/x.da≠y.da) && decide (x.st=y.st->x.al=y.al) && decide (x.al=y.al->x.st=y.st)
section
variable {P:Program} {ops:Array Oper} {Q:Exit->Act->World->Prop}
def Q92(X:Nat)(ty:TypeId)(Sh:Array Value->Prop)(bx:List Box)(listed:Array Bool)(b:Act)(W:World):Prop:=
 ∀ x∈bx,listed.getD x.al false=true->∃ g cs,b.tmps.getD x.da undef=.pointer (some ⟨g,0,none⟩)/\X<=g/\W.heap[g]?=some (.cells cs ty (0,0))/\Sh cs/\(listed.getD x.st false=true->b.tmps.getD x.dv undef=.agg cs) /\
  ∀ y∈bx,listed.getD y.al false=true->∀ g',b.tmps.getD y.da undef=.pointer (some ⟨g',0,none⟩)->g'=g->y.al=x.al
def Nm(X:Nat)(ty:TypeId)(Sh:Array Value->Prop)(W:World)(g:Nat):Prop:=X<=g/\∃ cs,W.heap[g]?=some (.cells cs ty (0,0))/\Sh cs
def Q94(X:Nat)(ty:TypeId)(Sh:Array Value->Prop)(bx:List Box)(ops:Array Oper)(R:Nat->Value->World->Prop)(a:Act)(w:World)(listed:Array Bool)(b:Act)(W:World):Prop:=
 Kx .any ops listed/\Ext w W/\b.defers=a.defers/\b.tmps.size=a.tmps.size/\(∀ s,(∀ i,Z1 ops i≠some s)->b.tmps.getD s undef=a.tmps.getD s undef) /\
 (∀ i d,Z1 ops i=some d->listed.getD i false=true->R i (b.tmps.getD d undef) W)/\Q92 X ty Sh bx listed b W
theorem Xl{b:Act}{d s:Nat}{v:Value}(h:s≠d):(b.put (some d) v).tmps.getD s undef=b.tmps.getD s undef:=by
 unfold Act.put;dsimp only;rw [Array.getD_eq_getD_getElem?,Array.getD_eq_getD_getElem?,Array.getElem?_setIfInBounds,if_neg (Ne.symm h)]
theorem Rj{b:Act}{d:Nat}{v:Value}(h:d<b.tmps.size):(b.put (some d) v).tmps.getD d undef=v:=by
 unfold Act.put;dsimp only;rw [Array.getD_eq_getD_getElem?,Array.getElem?_setIfInBounds,if_pos rfl,if_pos h];rfl
theorem X5{l:Array Bool}{i k:Nat}(h:(l.setIfInBounds i true).getD k false=true):k=i\/l.getD k false=true:=by
 by_cases a:k=i
 ·exact .inl a
 ·right;rwa [getD_set_ne false (Ne.symm a)] at h
theorem Ze{ty:TypeId}{bx:List Box}(h:Q86 ops ty bx=true){x:Box}(q:x∈bx):Z1 ops x.al=some x.da/\Z1 ops x.iv=some x.dv/\Z1 ops x.st=none /\
  (∃ o,ops[x.st]?=some o/\o.guard=none/\o.op=.store ty (.tmp x.da) (.tmp x.dv)/\(∃ e∈o.after,Region.binds .any e=true/\e.on=x.al)/\∃ e∈o.after,Region.binds .any e=true/\e.on=x.iv) /\
  ∀ y∈bx,x.al≠y.st/\x.iv≠y.st/\x.iv≠y.al/\(x.al=y.al\/x.da≠y.da)/\(x.st=y.st->x.al=y.al)/\(x.al=y.al->x.st=y.st):=by
 have d:=List.all_eq_true.1 h x q;simp only [Bool.and_eq_true,beq_iff_eq] at d;obtain⟨⟨⟨⟨d,l⟩,m⟩,b⟩,n⟩:=d;refine⟨d,l,m,?_,fun y hy=>?_⟩
 ·cases ho:ops[x.st]? with
  | none=>rw [ho] at b;cases b
  | some o=>
   rw [ho] at b;dsimp only at b;simp only [Bool.and_eq_true] at b;obtain⟨⟨⟨g,c⟩,i⟩,j⟩:=b;refine⟨o,rfl,by simpa using g,?_,?_,?_⟩
   ·split at c
    ·rename_i u t v p
     simp only [Bool.and_eq_true,beq_iff_eq] at c;obtain⟨⟨rfl,rfl⟩,rfl⟩:=c;exact p
    ·cases c
   ·obtain⟨e,f,a⟩:=List.any_eq_true.1 i;simp only [Bool.and_eq_true,beq_iff_eq] at a;exact⟨e,by simpa using f,a.1,a.2⟩
   ·obtain⟨e,f,a⟩:=List.any_eq_true.1 j;simp only [Bool.and_eq_true,beq_iff_eq] at a;exact⟨e,by simpa using f,a.1,a.2⟩
 ·have k:=List.all_eq_true.1 n y hy;simp only [Bool.and_eq_true,decide_eq_true_eq] at k;obtain⟨⟨⟨⟨⟨g,c⟩,i⟩,j⟩,r⟩,s⟩:=k;exact⟨g,c,i,j,r,s⟩
theorem Dj{k0:Nat}{a:Act}{w:World}(ty:TypeId)(Z:Array Value)(X:Array Value->Prop)(bx:List Box)(R:Nat->Value->World->Prop)
  (i6:P.follows .mixedOrders=true) (g9:Sc .any ops=true) (C:Eq ops=true) (m:Q86 ops ty bx=true) (c6:∀ i d,Z1 ops i=some d->d<a.tmps.size)
  (i2:bx≠[]->(P.info? ty).map (·.size)=some Z.size) (f5:bx≠[]->X Z) (d5:∀ cs,X cs->cs.size=Z.size/\cs.all (·.oneCell')=true)
  (c7:∀ i v W W',R i v W->Q1 (Nm w.heap.size ty X W) W W'->R i v W')
  (j6:∀ x∈bx,∀ v W,R x.iv v W->∃ cs,v=.agg cs/\X cs)
  (f6:∀ x∈bx,∀(b:Act) (W:World) (K:Act->World->Prop),(R x.al (.pointer (some ⟨W.heap.size,0,none⟩)) (W.alloc (.cells Z ty))->K (b.put (some x.da) (.pointer (some ⟨W.heap.size,0,none⟩))) (W.alloc (.cells Z ty)))->wpOp P ops Q x.al K b W)
  (f4:∀ x∈bx,∀ v W,R x.al v W)
  (j0:∀ i o,ops[i]?=some o->(∀ x∈bx,x.al≠i/\x.st≠i)->∀(b:Act) (W:World),Ext w.drew W->(∀ s,(∀ k,Z1 ops k≠some s)->b.tmps.getD s undef=a.tmps.getD s undef) ->
   (∀ e∈o.after,Region.binds .any e=true->∀ d,Z1 ops e.on=some d->R e.on (b.tmps.getD d undef) W)->∃ d,o.dst=some d/\∀ K:Act->World->Prop,(∀ v W',Ext W W'->R i v W'->K (b.put (some d) v) W')->wpOp P ops Q i K b W)
  (g7:∀(vs:Nat->Value) (W:World),Ext w.drew W->(∀ i d,Z1 ops i=some d->R i (vs i) W)->(∀ x∈bx,∃ g cs,vs x.al=.pointer (some ⟨g,0,none⟩)/\w.heap.size<=g/\W.heap[g]?=some (.cells cs ty (0,0))/\vs x.iv=.agg cs/\∀ y∈bx,vs y.al=vs x.al->y.al=x.al) ->
   Q .normal { tmps:=U2 ops vs (List.range ops.size) a.tmps,defers:=a.defers } W):(Code.region k0 ops true).wp P Q a w:=by
 have b5:∀ k d,Z1 ops k=some d->k<ops.size:=fun k d hk=>by
  unfold Z1 at hk;cases I:ops[k]? with
  | none=>rw [I] at hk;cases hk
  | some o=>exact(Array.getElem?_eq_some_iff.1 I).1
 have c8:∀ k,(Array.replicate ops.size false).getD k false=false:=fun k=>by
  rw [Array.getD_eq_getD_getElem?,Array.getElem?_replicate];split <;> rfl
 refine R1 (Q94 w.heap.size ty X bx ops R a w.drew) i6 g9 ?_ ?_ ?_
 ·refine⟨fun k o I hk=>?_,Q1.refl _ _,rfl,rfl,fun _ _=>rfl,fun i d _ hk=>?_,fun x _ hk=>?_⟩
  ·rw [c8] at hk;cases hk
  ·rw [c8] at hk;cases hk
  ·rw [c8] at hk;cases hk
 ·rintro q b W j3 ⟨b3,O,a4,L,a0,S,N⟩ i d6;have c0:=b3.step d6;obtain⟨e2,o,I,c1⟩:=mem_ready.1 d6;have k2:=(Array.getElem?_eq_some_iff.1 I).1;have a7:q.getD i false=false:=by
   rw [Array.getD_eq_getD_getElem?,Array.getElem?_eq_getElem oz] at e2 ⊢;exact e2
  have k3:(q.setIfInBounds i true).getD i false=true:=by
   rw [Array.getD_eq_getD_getElem?,Array.getElem?_setIfInBounds,if_pos rfl,if_pos oz];rfl
  have k4:∀ k,q.getD k false=true->(q.setIfInBounds i true).getD k false=true:=fun k hk=>getD_set_true hk;have b9:∀ d,Z1 ops i=some d->d<b.tmps.size:=fun d hd=>by rw [L];exact c6 i d hd
  by_cases V:∀ x∈bx,x.al≠i/\x.st≠i
  ·
   obtain⟨d,i9,i1⟩:=j0 i o I V b W O a0 (fun e he hbi d hd=>S e.on d hd (c1 e he hbi));have U:Z1 ops i=some d:=by unfold Z1;rw [I];exact i9
   refine i1 _ fun v W' H hRv=>⟨c0,O.trans H,a4,by unfold Act.put;simpa using L,fun s p=>?_,fun k e hk hl=>?_,fun x l hl=>?_⟩
   ·rw [Xl (fun f=>p i (by rw [U,f]))];exact a0 s p
   ·rcases X5 hl with rfl | r
    ·rw [U] at hk;cases hk;rw [Rj (b9 d U)];exact hRv
    ·have a6:e≠d:=fun f=>by
      have n:=Yv C hk (by rw [U,f]);rw [n,a7] at r;cases r
     rw [Xl a6];exact c7 _ _ _ _ (S k e hk r) (H.mono fun _ _ h=>h.elim)
   ·obtain⟨t,a9,b0,⟨a8,u,_,_,_,⟨b7,c2,c3,c4⟩⟩,d1⟩:=Ze m l;have c5:q.getD x.al false=true:=(X5 hl).resolve_left (V x l).1;obtain⟨g,cs,F,G,B,M,a2,J⟩:=N x l c5;have f9:x.da≠d:=fun f=>(V x l).1 (Yv C t (by rw [U,f]));refine⟨g,cs,by rw [Xl f9];exact F,G,H.heap B (fun h=>h),M,fun p=>?_,fun y hy Y A hg' he=>?_⟩
    ·have b4:q.getD x.st false=true:=(X5 p).resolve_left (V x l).2
     have a5:x.dv≠d:=fun f=>by
      have n:=Yv C a9 (show Z1 ops i=some x.dv by rw [U,f]);have d4:=b3 x.st a8 u b4 b7 c2 c3;rw [c4,n,a7] at d4;cases d4
     rw [Xl a5];exact a2 b4
    ·have i5:q.getD y.al false=true:=(X5 Y).resolve_left (V y hy).1;have T:y.da≠d:=fun f=>(V y hy).1 (Yv C (Ze m hy).1 (by rw [U,f]));rw [Xl T] at hg';exact J y hy i5 A hg' he
  ·
   have g8:∃ x∈bx,x.al=i\/x.st=i:=by
    apply Classical.byContradiction;intro d7;apply V;intro x l;exact⟨fun e=>d7 ⟨x,l,.inl e⟩,fun e=>d7 ⟨x,l,.inr e⟩⟩
   obtain⟨x,l,j9⟩:=g8;obtain⟨t,a9,b0,⟨a8,u,j1,e0,⟨f1,g1,g3,g5⟩,⟨b7,c2,c3,c4⟩⟩,d1⟩:=Ze m l;rcases j9 with rfl | rfl
   ·
    refine f6 x l b W _ fun hRn=>?_
    have H:Ext W (W.alloc (.cells Z ty)):=(Q1.refl _ W).alloc _;refine⟨c0,O.trans H,a4,by unfold Act.put;simpa using L,fun s p=>?_,fun k e hk hl=>?_,fun y hy hl=>?_⟩
    ·rw [Xl (fun f=>p x.al (by rw [t,f]))];exact a0 s p
    ·rcases X5 hl with rfl | r
     ·exact f4 x l _ _
     ·have a6:e≠x.da:=fun f=>by
       have n:=Yv C hk (by rw [t,f]);rw [n,a7] at r;cases r
      rw [Xl a6];exact c7 _ _ _ _ (S k e hk r) (H.mono fun _ _ h=>h.elim)
    ·have i8:∀ y∈bx,q.getD y.st false=true->y.al≠x.al:=fun y hy p f=>by
      obtain⟨_,_,_,⟨e3,b6,_,_,⟨f2,g2,g4,g6⟩,_⟩,_⟩:=Ze m hy;have:=b3 y.st e3 b6 p f2 g2 g4;rw [g6,f,a7] at this;cases this
     have j7:w.heap.size<=W.heap.size:=O.size;by_cases z:y.al=x.al
     ·have T:y.da=x.da:=by
       have n:=(Ze m hy).1;rw [z,t] at n;exact(Option.some.inj n).symm
      refine⟨W.heap.size,Z,by rw [T];exact Rj (b9 _ t),j7,Q3 rfl,f5 (fun f=>by rw [f] at l;cases l),fun p=>?_,fun y2 hy2 r A hg' he=>?_⟩
      ·rcases X5 p with f | f
       ·exact absurd f (fun f=>(d1 y hy).1 f.symm)
       ·exact absurd z (i8 y hy f)
      ·rw [z];rcases X5 r with f | f
       ·exact f
       ·apply Classical.byContradiction;intro a6;have a3:y2.da≠x.da:=fun q2=>a6 (Yv C (Ze m hy2).1 (by rw [t,q2]));rw [Xl a3] at hg';obtain⟨G,E,b1,_,e6,_⟩:=N y2 hy2 f;rw [b1] at hg';simp only [Value.pointer.injEq,Option.some.injEq,Addr.mk.injEq] at hg';have:=(Array.getElem?_eq_some_iff.1 e6).1;omega
     ·have Y:q.getD y.al false=true:=(X5 hl).resolve_left z;obtain⟨g,cs,F,G,B,M,a2,J⟩:=N y hy Y;have T:y.da≠x.da:=fun f=>z (Yv C (Ze m hy).1 (by rw [t,f]));refine⟨g,cs,by rw [Xl T];exact F,G,H.heap B (fun h=>h),M,fun p=>?_,fun y2 hy2 r A hg' he=>?_⟩
      ·have b4:q.getD y.st false=true:=(X5 p).resolve_left (fun f=>(d1 y hy).1 f.symm)
       have a5:y.dv≠x.da:=fun f=>by
        have n:=Yv C (Ze m hy).2.1 (show Z1 ops x.al=some y.dv by rw [t,f]);exact((Ze m hy).2.2.2.2 x l).2.2.1 n
       rw [Xl a5];exact a2 b4
      ·rcases X5 r with f | f
       ·have a3:y2.da=x.da:=by
         have n:=(Ze m hy2).1;rw [f,t] at n;exact(Option.some.inj n).symm
        rw [a3,Rj (b9 _ t)] at hg';simp only [Value.pointer.injEq,Option.some.injEq,Addr.mk.injEq] at hg';have:=(Array.getElem?_eq_some_iff.1 B).1;omega
       ·have a3:y2.da≠x.da:=fun q2=>by
         have:=Yv C (Ze m hy2).1 (show Z1 ops x.al=some y2.da by rw [t,q2]);rw [this,a7] at f;cases f
        rw [Xl a3] at hg';exact J y2 hy2 f A hg' he
   ·
    have c5:q.getD x.al false=true:=by
     have:=c1 f1 (by rw [I] at u;cases u;exact g1) g3
     rwa [g5] at this
    have i4:q.getD x.iv false=true:=by
     have:=c1 b7 (by rw [I] at u;cases u;exact c2) c3
     rwa [c4] at this
    obtain⟨g,cs,F,G,B,M,_,J⟩:=N x l c5;obtain⟨E,b1,d3⟩:=j6 x l _ _ (S x.iv x.dv a9 i4);have j4:=d5 cs M;have d0:=d5 E d3;have i7:bx≠[]:=fun f=>by rw [f] at l;cases l
    have b8:Q1 (·=g) W (W.setRow g E):=Q1.setRow W g E;have f3:Q1 (Nm w.heap.size ty X W) W (W.setRow g E):=b8.mono fun c _ f=>by subst f;exact⟨G,cs,B,M⟩
    have H:Ext w.drew (W.setRow g E):=O.after b8 (fun c hc2 f=>by
     have k1:c<w.heap.size:=hc2;omega)
    unfold wpOp;rw [u];dsimp only;have j8:Region.wanted a8 (yielded ops b.tmps)=true:=by unfold Region.wanted;rw [j1]
    rw [if_pos j8];left
    have g0:a8.dst=none:=by
     unfold Z1 at b0;rw [u] at b0;exact b0
    refine wp_store_row ty (.tmp x.da) (.tmp x.dv) e0 g E F b1 ty cs B (by rw [i2 i7,d0.1]) (by rw [j4.1,d0.1]) d0.2 ?_;rw [g0];refine⟨c0,H,a4,L,a0,fun k e hk hl=>?_,fun y hy hl=>?_⟩
    ·have i3:q.getD k false=true:=(X5 hl).resolve_left (fun f=>by rw [f,b0] at hk;cases hk);exact c7 _ _ _ _ (S k e hk i3) f3
    ·have Y:q.getD y.al false=true:=(X5 hl).resolve_left (fun f=>((Ze m hy).2.2.2.2 x l).1 f);have d8:∀ y2∈bx,(q.setIfInBounds x.st true).getD y2.al false=true->q.getD y2.al false=true:=fun y2 hy2 r=>(X5 r).resolve_left (fun f=>((Ze m hy2).2.2.2.2 x l).1 f);by_cases z:y.al=x.al
     ·have T:y.da=x.da:=by
       have n:=(Ze m hy).1;rw [z,t] at n;exact(Option.some.inj n).symm
      by_cases e1:y.st=x.st
      ·have a5:b.tmps.getD y.dv undef=.agg E:=by
        have n:=(Ze m hy).2.2.2.1;obtain⟨e3,b6,_,c9,_⟩:=n;rw [e1,u] at b6;cases b6;rw [e0] at c9;simp only [Op.store.injEq,Operand.tmp.injEq,true_and] at c9;rw [<-c9.2];exact b1
       exact⟨g,E,by rw [T];exact F,G,setRow_heap _ _ _ _ _ _ B,d3,fun _=>a5,fun y2 hy2 r A hg' he=>by rw [z];exact J y2 hy2 (d8 y2 hy2 r) A hg' he⟩
      ·exact absurd (((Ze m hy).2.2.2.2 x l).2.2.2.2.2 z) e1
     ·obtain⟨A,e4,d2,e5,e7,e8,e9,f0⟩:=N y hy Y;have i0:A≠g:=fun f=>z (J y hy Y A d2 f);exact⟨A,e4,d2,e5,b8.heap e7 i0,e8,fun p=>e9 ((X5 p).resolve_left (fun f=>z (((Ze m hy).2.2.2.2 x l).2.2.2.2.1 f))),fun y2 hy2 r g2' hg2 he=>f0 y2 hy2 (d8 y2 hy2 r) g2' hg2 he⟩
 ·rintro q b W j3 f7 ⟨b3,O,a4,L,a0,S,N⟩
  have b2:∀ k,k<ops.size->q.getD k false=true:=fun k hk=>by
   have:=f7 k hk;rw [Array.getD_eq_getD_getElem?,Array.getElem?_eq_getElem oz] at this ⊢;exact this
  have j2:∀ x∈bx,x.st<ops.size:=fun x l=>by
   obtain⟨_,_,_,⟨a8,u,_⟩,_⟩:=Ze m l;exact(Array.getElem?_eq_some_iff.1 u).1
  have j5:b.tmps=U2 ops (fun i=>match Z1 ops i with | some d=>b.tmps.getD d undef | none=>undef) (List.range ops.size) a.tmps:=by
   apply Array.ext_getElem?;intro s;by_cases p:∃ i,Z1 ops i=some s
   ·obtain⟨i,D⟩:=p;rw [Pm (i:=i) (List.mem_range.2 (b5 i s D)) D (fun j _ hj=>Yv C hj D) (c6 i s D),D];have a1:s<b.tmps.size:=by rw [L];exact c6 i s D
    dsimp only;rw [Array.getD_eq_getD_getElem?,Array.getElem?_eq_getElem a1];rfl
   ·have d9:∀ i,Z1 ops i≠some s:=fun i f=>p ⟨i,f⟩;rw [Wz (fun i _=>d9 i)];have:=a0 s d9;by_cases a1:s<b.tmps.size
    ·rw [Array.getD_eq_getD_getElem?,Array.getD_eq_getD_getElem?,Array.getElem?_eq_getElem a1,Array.getElem?_eq_getElem (by rw [<-L];exact a1)] at this;rw [Array.getElem?_eq_getElem a1,Array.getElem?_eq_getElem (by rw [<-L];exact a1)];exact congrArg some this
    ·rw [Array.getElem?_eq_none oz,Array.getElem?_eq_none oz]
  have f8:b={ tmps:=U2 ops (fun i=>match Z1 ops i with | some d=>b.tmps.getD d undef | none=>undef) (List.range ops.size) a.tmps,defers:=a.defers }:=by
   cases b;simp only [Act.mk.injEq];exact⟨j5,a4⟩
  rw [f8];refine g7 _ W O (fun i d D=>?_) (fun x l=>?_)
  ·try dsimp only
   rw [D];exact S i d D (b2 i (b5 i d D))
  ·obtain⟨t,a9,_⟩:=Ze m l;obtain⟨g,cs,F,G,B,M,a2,J⟩:=N x l (b2 _ (b5 _ _ t));refine⟨g,cs,?_,G,B,?_,fun y hy e=>?_⟩
   ·(try dsimp only);rw [t];exact F
   ·(try dsimp only);rw [a9];exact a2 (b2 _ (j2 x l))
   ·(try dsimp only at e)
    rw [t,(Ze m hy).1] at e
    (try dsimp only at e)
    exact J y hy (b2 _ (b5 _ _ (Ze m hy).1)) g (by rw [e];exact F) rfl
theorem Wk{id:Nat}{a:Act}{w:World}(R:Nat->Value->World->Prop)
  (hm:P.follows .mixedOrders=true) (hf:Sc .any ops=true) (h1:Eq ops=true) (hlt:∀ i d,Z1 ops i=some d->d<a.tmps.size)
  (hmono:∀ i v W W',R i v W->Ext W W'->R i v W')
  (hop:∀ i o,ops[i]?=some o->∀(b:Act) (W:World),Ext w.drew W->(∀ s,(∀ k,Z1 ops k≠some s)->b.tmps.getD s undef=a.tmps.getD s undef) ->
   (∀ e∈o.after,Region.binds .any e=true->∀ d,Z1 ops e.on=some d->R e.on (b.tmps.getD d undef) W)->∃ d,o.dst=some d/\∀ K:Act->World->Prop,(∀ v W',Ext W W'->R i v W'->K (b.put (some d) v) W')->wpOp P ops Q i K b W)
  (hend:∀(vs:Nat->Value) (W:World),Ext w.drew W->(∀ i d,Z1 ops i=some d->R i (vs i) W)->Q .normal { tmps:=U2 ops vs (List.range ops.size) a.tmps,defers:=a.defers } W):(Code.region id ops true).wp P Q a w:=
 Dj 0 #[] (fun _=>False) [] R hm hf h1 rfl hlt (fun h=>absurd rfl h) (fun h=>absurd rfl h) (fun _ h=>h.elim) (fun i v W W' h ht=>hmono i v W W' h (ht.mono fun _ _ ⟨_,_,_,q⟩=>q))
  (fun _ h=>by cases h) (fun _ h=>by cases h) (fun _ h=>by cases h) (fun i o ho _=>hop i o ho) (fun vs W h1 h2 _=>hend vs W h1 h2)
end
end Go.Ab
