/- PLAIN: -/
import Derived.Test.YtfdlhlghcbeblaaGreatDoorY06
import Derived.Test.YtfdlhlghcbeblaaGreatDoorY05
import Derived.Test.YtfdlhlghcbeblaaGreatDoorY07
set_option maxRecDepth 100000
set_option maxHeartbeats 16000000
namespace Go.Proofs.YtfdlhlghcbeblaaGreatDoor
open Go.RowKit Go.Ab
def Rs(c:UInt8):Bool:=(decide (97<=c.toNat) && decide (c.toNat<=122)) || (decide (65<=c.toNat) && decide (c.toNat<=90)) || (decide (48<=c.toNat) && decide (c.toNat<=57)) || decide (c.toNat=45)
def Kr(s:ByteArray):Bool:=decide (1<=s.size) && decide (s.size<=24) && s.data.toList.all Rs
def Xp(k:Nat)(x:Yq):Bool:=
 decide (-1<=x.frm) && decide (x.frm<k) && okS x.st && decide (x.cl<16777216) && decide (x.tk<16777216) && decide (x.cl &&& (x.st.1 ||| x.st.2)=0) && decide (x.tk &&& (x.st.1 ||| x.st.2)=0) && decide (x.tk &&& x.cl=0) &&
  (if x.tk=0 then decide (x.ofi=0) else decide (0<=x.ofi) && decide (x.ofi<k))
def X8(l:Q7):Bool:=
 Kr l.name && decide (Y8 l.left=0) && decide (Y8 l.right=0) && decide (l.ifs.length<=4) && decide (l.outs.length<=6) && decide (l.ifs.length+l.outs.length≠0) && decide (1<=l.mode) && decide (l.mode<=3) && l.ifs.all okS && l.outs.all (Xp l.ifs.length)
def Hg(l:Q7):Int:=if X8 l=true then 0 else 17
def Jf(l:Q7)(ws:Wd):Int:=if X8 l=true then wE ws else 17
def Rc(l:Q7)(ws:Wd)(i:Nat):Bool:=decide (i+l.ifs.length<=ws.length) && (List.range l.ifs.length).all fun j=>Gk (ws.getD (i+j) (0,0)) (l.ifs.getD j (0,0))
def Wy(l:Q7)(ws:Wd)(i:Nat):Bool:=!(Dm l.left ws (i:Int)).isEmpty && !(Dw l.right ws ((i+l.ifs.length:Nat):Int)).isEmpty
def Zx(l:Q7)(ws:Wd)(i:Nat):Bool:=Rc l ws i && Wy l ws i
def W4(l:Q7)(ws:Wd):List Nat:=(List.range (ws.length+1)).filter (Zx l ws)
def Vt(cut:Wd)(x:Yq):Nat × Nat:=
 if x.tk=0 then(U4 (if 0<=x.frm then cut.getD x.frm.toNat (0,0) else(0,0)) x.cl x.st).1
 else(Kh (U4 (if 0<=x.frm then cut.getD x.frm.toNat (0,0) else(0,0)) x.cl x.st).1 (cut.getD x.ofi.toNat (0,0)) x.tk).1
def X9(l:Q7)(cut:Wd):Wd:=l.outs.map (Vt cut)
def Yh(l:Q7)(ws:Wd)(i:Nat):Wd:=Gm (X9 l) l.ifs.length ws i
def Z4(l:Q7)(ws:Wd):List (Nat × Wd):=
 if l.mode=1 then U6 (Zx l) (X9 l) l.ifs.length ws (ws.length+1) 0 []
 else if l.mode=2 then U7 (Zx l) (X9 l) l.ifs.length l.outs.length (ws.length+1) ws 0
 else Uu (Zx l) (X9 l) l.ifs.length (ws.length+1) ws (ws.length+1 - l.ifs.length)
def trE(l:Q7)(ws:Wd):Int:=if Jf l ws=0 then(if Vi (Z4 l ws)=true then 11 else 0) else Jf l ws
def trT(l:Q7)(ws:Wd):List (Nat × Wd):=if trE l ws=0 then Z4 l ws else []
def Vu(l:Q7)(ws:Wd):Wd:=if trE l ws=0 then Ej ws (Z4 l ws) else []
theorem Ky{l:Q7}{ws:Wd}{i:Nat}(h:Zx l ws i=true):i+l.ifs.length<=ws.length:=by
 unfold Zx Rc at h;simp only [Bool.and_eq_true,decide_eq_true_eq] at h;exact h.1.1
theorem X0(l:Q7)(cut:Wd):(X9 l cut).length=l.outs.length:=List.length_map ..
section
variable {α:Type} {H:List α->Nat->Bool} {P:List α->List α} {k:Nat}
theorem P4(w:List α):∀(c n i:Nat) (d:List α),(∀ j,i<=j->j<i+c->H w j=false)->U6 H P k w (n+c) i d=U6 H P k w n (i+c) (d++(w.drop i).take c)
 | 0,n,i,d,_=>by simp
 | c+1,n,i,d,h=>by
  rw [show n+(c+1)=(n+c)+1 from by omega];conv=>lhs;unfold U6
  rw [if_neg (by rw [h i oz oz];decide),P4 w c n (i+1) _ (fun j h1 h2=>h j oz oz),show i+1+c=i+(c+1) by omega,List.append_assoc]
  congr 2
  rw [show (w.drop i).take (c+1)=(w.drop i).take 1++((w.drop i).drop 1).take c from by
   rw [show c+1=1+c by omega,List.take_add]]
  rw [List.drop_drop]
theorem Fp(w:List α):∀(n i:Nat) (d:List α),(∀ j,i<=j->H w j=false)->U6 H P k w n i d=[]
 | 0,_,_,_=>rfl
 | n+1,i,d,h=>by
  unfold U6;rw [if_neg (by rw [h i oz];decide)];exact Fp w n (i+1) _ (fun j hj=>h j oz)
end
theorem Wx{p:Nat->Bool}{n:Nat}{d rest:List Nat}{a:Nat}(h:(List.range n).filter p=d++a::rest) :
  p a=true/\a<n/\(∀ j,j<a->p j=true->j∈d)/\(∀ j∈d,j<a):=by
 have e:((List.range n).filter p).Pairwise (· < ·):=List.Pairwise.filter _ List.pairwise_lt_range;have c:a∈(List.range n).filter p:=by rw [h];simp
 have c:=List.mem_filter.1 c;rw [h,List.pairwise_append] at e;obtain⟨i,f,g⟩:=e;refine⟨c.2,List.mem_range.1 c.1,fun j hj hp=>?_,fun j hj=>g j hj a zy⟩;have b:j∈(List.range n).filter p:=List.mem_filter.2 ⟨List.mem_range.2 (by have:=List.mem_range.1 c.1;omega),hp⟩;rw [h] at b;rcases List.mem_append.1 b with b | b
 ·exact b
 ·rcases List.mem_cons.1 b with rfl | b
  ·omega
  ·have:=(List.pairwise_cons.1 f).1 j b;omega
def Vo(l:Q7)(ws:Wd)(pre:List Nat)(tr:List (Nat × Wd)) (next:Nat) (d:Wd):Prop:=
 (∃ n,ws.length+1 - next<=n/\Z4 l ws=tr++U6 (Zx l) (X9 l) l.ifs.length ws n next d)/\(∀ j∈pre,j<next)/\(next<=ws.length->d.length+tr.length*l.ifs.length=next+tr.length*l.outs.length)
theorem Vo.start{l:Q7}{ws:Wd}(h:l.mode=1):Vo l ws [] [] 0 []:=
 ⟨⟨ws.length+1,by omega,by unfold Z4;rw [if_pos h];rfl⟩,fun _ h=>by simp at h,fun _=>by simp⟩
theorem Vo.pass{l:Q7}{ws:Wd}{pre:List Nat}{tr:List (Nat × Wd)} {next a:Nat} {d:Wd} (h:Vo l ws pre tr next d) (ha:a<next):Vo l ws (pre++[a]) tr next d:=
 ⟨h.1,fun j hj=>by rcases List.mem_append.1 hj with hj | hj;exact h.2.1 j hj;simp at hj;omega,h.2.2⟩
theorem Vo.hit{l:Q7}{ws:Wd}{n rest:List Nat}{f:List (Nat × Wd)} {b a:Nat} {d:Wd} (h:Vo l ws n f b d) (u:W4 l ws=n++a::rest) (x:b<=a) :
  ∃ d1,d1=d++(ws.drop b).take (a - b)/\d1.length+f.length*l.ifs.length=a+f.length*l.outs.length /\
   Vo l ws (n++[a]) (f++[(a,d1++X9 l ((ws.drop a).take l.ifs.length)++ws.drop (a+l.ifs.length))]) (a+max l.ifs.length 1) (if l.ifs.length=0 then d1++X9 l ((ws.drop a).take l.ifs.length)++(ws.drop a).take 1 else d1++X9 l ((ws.drop a).take l.ifs.length)):=by
 obtain⟨⟨p,z,j⟩,r,s⟩:=h;obtain⟨q,A,v,w⟩:=Wx u;have y:=Ky q
 have t:∀ c,b<=c->c<b+(a - b)->Zx l ws c=false:=fun c hj1 hj2=>by
  cases hh:Zx l ws c with
  | false=>rfl
  | true=>have:=r c (v c oz hh);omega
 have k:(d++(ws.drop b).take (a - b)).length+f.length*l.ifs.length=a+f.length*l.outs.length:=by
  have:=s oz;rw [List.length_append,List.length_take,List.length_drop];omega
 refine⟨_,rfl,k,?_,?_,?_⟩
 ·obtain⟨i,rfl⟩:∃ i,p=i+(a - b):=⟨p - (a - b),by omega⟩;rw [P4 ws (a - b) i b d t,show b+(a - b)=a by omega] at j;obtain⟨m,rfl⟩:∃ m,i=m+1:=⟨i - 1,by omega⟩;unfold U6 at j;rw [if_pos q] at j;refine⟨m,by omega,?_⟩;rw [j];by_cases e:l.ifs.length=0
  ·rw [if_pos e,if_pos e,show a+max l.ifs.length 1=a+1 by omega];simp
  ·rw [if_neg e,if_neg e,show a+max l.ifs.length 1=a+l.ifs.length by omega];simp
 ·intro c g;rcases List.mem_append.1 g with g | g
  ·have:=w c g;omega
  ·simp at g;omega
 ·intro o;rw [List.length_append,List.length_singleton,Nat.add_mul,Nat.add_mul];by_cases e:l.ifs.length=0
  ·rw [if_pos e,List.length_append,List.length_append,X0,List.length_take,List.length_drop];rw [e] at k o ⊢;simp at k o ⊢;omega
  ·rw [if_neg e,List.length_append,X0];omega
theorem Vo.done{l:Q7}{ws:Wd}{b:List (Nat × Wd)} {f:Nat} {d:Wd} (h:Vo l ws (W4 l ws) b f d):Z4 l ws=b:=by
 obtain⟨⟨k,j,e⟩,c,g⟩:=h;rw [e,Fp,List.append_nil];intro a i;cases hh:Zx l ws a with
 | false=>rfl
 | true=>
  have:=c a (List.mem_filter.2 ⟨List.mem_range.2 (by have:=Ky hh;omega),hh⟩);omega
attribute [local go_sem] Oper.semAt_some Zf Qp
def Gr(w:World)(B:Nat)(l:Q7):Prop:=∃ cs:List Value,w.heap[B]?=some (.cells cs.toArray 102 (0,0))/\Z2 w l cs
def Yz(w:World)(B:Nat)(v:Value):Prop:=w.heap[B]?=some (.cells #[v] 99 (0,0))
def LBx(w:World)(B:Nat)(l:Q7)(cs:List Value):Prop:=w.heap[B]?=some (.cells cs.toArray 102 (0,0))/\Z2 w l cs
theorem LBx.box{w:World}{B:Nat}{l:Q7}{cs:List Value}(h:LBx w B l cs):Gr w B l:=⟨cs,h⟩
theorem LBx.ext{A B:World}{b:Nat}{l:Q7}{cs:List Value}(h:LBx A b l cs)(ht:Ext A B):LBx B b l cs:=⟨ht.keep h.1,h.2.ext ht⟩
theorem Gr.ext{A B:World}{b:Nat}{l:Q7}(h:Gr A b l)(a:Ext A B):Gr B b l:=by
 obtain⟨c,d,e⟩:=h;exact⟨c,a.keep d,e.ext a⟩
theorem Tryz.lawInfo:(Tryz.prog.info? 102).map (·.size)=some 18:=by kernel_rfl
def M2(nm:ByteArray)(k1:Int)(p1 m1:Nat)(n1:Bool)(a1 b1:Int)(s1:Value)(k2:Int)(p2 m2:Nat)(n2:Bool)(a2 b2:Int)(s2:Value)(iv ov:Value)(md:Int):List Value:=
 [.string nm,.int .i64 k1,.int .u32 (p1:Int),.int .u32 (m1:Int),.bool n1,.int .i64 a1,.int .i64 b1,s1,.int .i64 k2,.int .u32 (p2:Int),.int .u32 (m2:Int),.bool n2,.int .i64 a2,.int .i64 b2,s2,iv,ov,.int .i64 md]
theorem V5{w:World}{l:Q7}{cs:List Value}(h:Z2 w l cs) :
  ∃(k1:Int) (p1 m1:Nat) (n1:Bool) (a1 b1:Int) (o1:Option Addr) (c1:Nat) (k2:Int) (p2 m2:Nat) (n2:Bool) (a2 b2:Int) (o2:Option Addr) (c2:Nat) (io:Option Addr) (ic:Nat) (oo:Option Addr) (oc:Nat),
   cs=M2 l.name k1 p1 m1 n1 a1 b1 (.slice o1 l.left.l.length c1) k2 p2 m2 n2 a2 b2 (.slice o2 l.right.l.length c2) (.slice io l.ifs.length ic) (.slice oo l.outs.length oc) l.mode /\
   Z0 (fun g=>g<w.heap.size) w l.left [.int .i64 k1,.int .u32 (p1:Int),.int .u32 (m1:Int),.bool n1,.int .i64 a1,.int .i64 b1,.slice o1 l.left.l.length c1] /\
   Z0 (fun g=>g<w.heap.size) w l.right [.int .i64 k2,.int .u32 (p2:Int),.int .u32 (m2:Int),.bool n2,.int .i64 a2,.int .i64 b2,.slice o2 l.right.l.length c2] /\
   Q8 w (.slice io l.ifs.length ic) l.ifs/\J7 w (.slice oo l.outs.length oc) l.outs/\l.name.size<=maxLen/\l.left.l.length<=maxLen/\l.right.l.length<=maxLen/\l.ifs.length<=maxLen/\l.outs.length<=maxLen:=by
 obtain⟨p,r,o,q,rfl,e,a,b,c,d⟩:=h;obtain⟨o1,c1,rfl,j,k,_⟩:=Xf a;obtain⟨o2,c2,rfl,m,n,_⟩:=Xf b;obtain⟨io,ic,rfl,f⟩:=c.slice;obtain⟨oo,oc,rfl,i⟩:=d.slice;exact⟨_,_,_,_,_,_,o1,c1,_,_,_,_,_,_,o2,c2,io,ic,oo,oc,rfl,a,b,c,d,e,Nat.le_trans j k,Nat.le_trans m n,f,i⟩
theorem Gr.ifs{w:World}{B:Nat}{l:Q7}(h:Gr w B l):∃ io ic,w.cell? ⟨B,15,none⟩=some (.slice io l.ifs.length ic)/\Q8 w (.slice io l.ifs.length ic) l.ifs/\l.ifs.length<=maxLen:=by
 obtain⟨e,a,b⟩:=h;obtain⟨_,_,_,_,_,_,_,_,_,_,_,_,_,_,_,_,io,ic,_,_,rfl,_,_,c,_,_,_,_,d,_⟩:=V5 b;exact⟨io,ic,cell_of_row _ _ 15 _ _ _ a,c,d⟩
theorem Gr.outs{w:World}{B:Nat}{l:Q7}(h:Gr w B l):∃ io ic,w.cell? ⟨B,16,none⟩=some (.slice io l.outs.length ic)/\J7 w (.slice io l.outs.length ic) l.outs/\l.outs.length<=maxLen:=by
 obtain⟨e,a,b⟩:=h;obtain⟨_,_,_,_,_,_,_,_,_,_,_,_,_,_,_,_,_,_,io,ic,rfl,_,_,_,c,_,_,_,_,d⟩:=V5 b;exact⟨io,ic,cell_of_row _ _ 16 _ _ _ a,c,d⟩
theorem Gr.mode{w:World}{B:Nat}{l:Q7}(h:Gr w B l):w.cell? ⟨B,17,none⟩=some (.int .i64 l.mode):=by
 obtain⟨c,a,b⟩:=h;obtain⟨_,_,_,_,_,_,_,_,_,_,_,_,_,_,_,_,_,_,_,_,rfl,_⟩:=V5 b;exact cell_of_row _ _ 17 _ _ _ a
theorem Yr{w:World}{l:Q7}{cs:List Value}(h:Z2 w l cs) :
  ∃(nm:ByteArray) (k1:Int) (p1 m1:Nat) (n1:Bool) (a1 b1:Int) (o1:Option Addr) (N1 c1:Nat) (k2:Int) (p2 m2:Nat) (n2:Bool) (a2 b2:Int) (o2:Option Addr) (N2 c2:Nat) (io:Option Addr) (N3 ic:Nat) (oo:Option Addr) (N4 oc:Nat) (md:Int),
   cs=[.string nm,.int .i64 k1,.int .u32 (p1:Int),.int .u32 (m1:Int),.bool n1,.int .i64 a1,.int .i64 b1,.slice o1 N1 c1,.int .i64 k2,.int .u32 (p2:Int),.int .u32 (m2:Int),.bool n2,.int .i64 a2,.int .i64 b2,.slice o2 N2 c2,.slice io N3 ic,.slice oo N4 oc,.int .i64 md] /\
   Hid (Z2 w l [.string nm,.int .i64 k1,.int .u32 (p1:Int),.int .u32 (m1:Int),.bool n1,.int .i64 a1,.int .i64 b1,.slice o1 N1 c1,.int .i64 k2,.int .u32 (p2:Int),.int .u32 (m2:Int),.bool n2,.int .i64 a2,.int .i64 b2,.slice o2 N2 c2,.slice io N3 ic,.slice oo N4 oc,.int .i64 md]) /\
   Hid (Z0 (fun g=>g<w.heap.size) w l.left [.int .i64 k1,.int .u32 (p1:Int),.int .u32 (m1:Int),.bool n1,.int .i64 a1,.int .i64 b1,.slice o1 N1 c1]) /\
   Hid (Z0 (fun g=>g<w.heap.size) w l.right [.int .i64 k2,.int .u32 (p2:Int),.int .u32 (m2:Int),.bool n2,.int .i64 a2,.int .i64 b2,.slice o2 N2 c2]) /\
   Hid (Q8 w (.slice io N3 ic) l.ifs)/\Hid (J7 w (.slice oo N4 oc) l.outs) /\
   Hid (l.name=nm)/\Hid (l.left.l.length=N1)/\Hid (l.right.l.length=N2)/\Hid (l.ifs.length=N3)/\Hid (l.outs.length=N4)/\Hid (l.mode=md) /\
   nm.size<=9223372036854775807/\N1<=9223372036854775807/\N2<=9223372036854775807/\N3<=9223372036854775807/\N4<=9223372036854775807:=by
 obtain⟨k1,p1,m1,n1,a1,b1,o1,c1,k2,p2,m2,n2,a2,b2,o2,c2,io,ic,oo,oc,a,b,c,d,e,f,i,j,k,m⟩:=V5 h;unfold M2 at a;subst a;exact⟨_,k1,p1,m1,n1,a1,b1,o1,_,c1,k2,p2,m2,n2,a2,b2,o2,_,c2,io,_,ic,oo,_,oc,_,rfl,Zh h,Zh b,Zh c,Zh d,Zh e,Zh rfl,Zh rfl,Zh rfl,Zh rfl,Zh rfl,Zh rfl,f,i,j,k,m⟩
theorem Ei{w:World}{cs:List Value}{l:Q7}(a:Z2 w l cs){ao:Option Addr}{n c:Nat} :
  Calls Tryz.prog 259 #[.agg cs.toArray,.slice ao n c] w fun e w'=>e=.returned (.func (.func 278) #[] #[.pointer (some ⟨w.heap.size,0,none⟩),.pointer (some ⟨w.heap.size+1,0,none⟩)])/\LBx w' w.heap.size l cs/\Yz w' (w.heap.size+1) (.slice ao n c)/\Ext w w':=by
 have f:=a;obtain⟨r,C,t,v,g,j,y,m,s,D,u,x,i,k,z,o,q,p,B,A,rfl,_⟩:=V5 a;have b:=Zh f;clear a f;unfold M2 at b ⊢;go_enter Tryz.func259,Tryz.ntmps259;go_wp2;go_ret;have d:Ext w (w.alloc (.cells (M2 l.name r C t v g j (.slice y l.left.l.length m) s D u x i k (.slice z l.right.l.length o) (.slice q l.ifs.length p) (.slice B l.outs.length A) l.mode).toArray 102)):=(Q1.refl _ w).alloc _;exact⟨rfl,⟨Q6 (Q3 rfl),(b.out.ext d).ext ((Q1.refl _ _).alloc _)⟩,Q3 zy,d.alloc _⟩
theorem S9{w:World}{cs:List Value}{l:Q7}(a:Z2 w l cs){ao:Option Addr}{n c:Nat}(k:Int) :
  Calls Tryz.prog 226 #[.agg cs.toArray,.slice ao n c,.int .i64 k] w fun e w'=>e=.returned (.func (.func 258) #[] #[.pointer (some ⟨w.heap.size,0,none⟩),.pointer (some ⟨w.heap.size+1,0,none⟩),.pointer (some ⟨w.heap.size+2,0,none⟩)]) /\
   w'.heap.size=w.heap.size+3/\LBx w' w.heap.size l cs/\Yz w' (w.heap.size+1) (.slice ao n c)/\w'.heap[w.heap.size+2]?=some (.cells #[.int .i64 k] 3 (0,0))/\Ext w w':=by
 have f:=a;obtain⟨s,D,u,x,g,j,z,o,t,E,v,y,i,m,A,p,r,q,C,B,rfl,_⟩:=V5 a;have b:=Zh f;clear a f;unfold M2 at b ⊢;go_enter Tryz.func226,Tryz.ntmps226;go_wp2;go_ret;have d:Ext w (w.alloc (.cells (M2 l.name s D u x g j (.slice z l.left.l.length o) t E v y i m (.slice A l.right.l.length p) (.slice r l.ifs.length q) (.slice C l.outs.length B) l.mode).toArray 102)):=(Q1.refl _ w).alloc _;exact⟨rfl,by simp,⟨Q6 (Q6 (Q3 rfl)),((b.out.ext d).ext ((Q1.refl _ _).alloc _)).ext ((Q1.refl _ _).alloc _)⟩,Q6 (Q3 zy),Q3 zy,(d.alloc _).alloc _⟩
theorem Q6n{w:World}{BL BW:Nat}{l:Q7}{v:Value}{ws:Wd}(a9:Gr w BL l)(q:Yz w BW v)(s:Q8 w v ws)(D:Tab w)(i:Nat)(X:i+l.ifs.length<=ws.length) :
  Calls Tryz.prog 278 #[.int .i64 i,.pointer (some ⟨BL,0,none⟩),.pointer (some ⟨BW,0,none⟩)] w fun e w'=>e=.returned (.bool (Wy l ws i))/\Ext w w':=by
 obtain⟨c4,f,R⟩:=a9;obtain⟨d0,e2,d2,d5,b8,c0,d8,c2,d1,e3,d3,d6,b9,c1,d9,c3,c9,c8,e1,e0,rfl,N,O,_,_,_,a1,a2,a3,a4⟩:=V5 R;have k:=Ea N (fun g hg=>hg) s D (i:Int);have m:=fun(V:World) (hE:Ext w V)=>Q5l (O.ext hE) (fun g hg=>Nat.lt_of_lt_of_le hg hE.size) (s.ext hE) (D.keep hE id) ((i+l.ifs.length:Nat):Int);have n:Hid (Wy l ws i=(!(Dm l.left ws (i:Int)).isEmpty && !(Dw l.right ws ((i+l.ifs.length:Nat):Int)).isEmpty)):=Zh rfl;obtain⟨a,E⟩:=zE (Dm l.left ws (i:Int));obtain⟨t,F⟩:=zE (Dw l.right ws ((i+l.ifs.length:Nat):Int));obtain⟨c5,U⟩:=zE (Jh l.left ws (i:Int));obtain⟨c6,W⟩:=zE (Jh l.right ws ((i+l.ifs.length:Nat):Int));rw [E,U] at k;rw [F,W] at m;rw [E,F] at n;clear E F U W R N O D;obtain⟨I,Q⟩:=zE (Wy l ws i);rw [Q] at n ⊢;clear Q;obtain⟨d7,r⟩:=zE l.name;obtain⟨b3,z⟩:=zE l.left.l.length;obtain⟨b4,o⟩:=zE l.right.l.length;obtain⟨b5,p⟩:=zE l.ifs.length;obtain⟨b6,A⟩:=zE l.outs.length;obtain⟨d4,Y⟩:=zE l.mode;rw [r,z,o,p,A,Y] at f;rw [z] at k a1;rw [o,p] at m;rw [o] at a2;rw [p] at a3 X;rw [A] at a4;clear r z o p A Y;obtain⟨e9,e8,rfl,a0⟩:=s.slice;obtain⟨b7,S⟩:=zE ws.length;rw [S] at k m q a0 X;clear S s;unfold maxLen at a1 a2 a3 a4 a0;unfold M2 at f;have J:=Zh k;have L:=Zh m;clear k m;have y:=zR f;have u:=cell_of_one q;have a5:=Zh f;have a6:=Zh q;clear f q;go_enter Tryz.func278,Tryz.ntmps278;go_wp2_with fail;refine J.out.mono ?_;rintro e b2 ⟨e4,rfl,B,d⟩;obtain⟨e7,e6,rfl⟩:=Zj B;obtain⟨c,H⟩:=zE a.length;have b:=Kd B;rw [H] at b ⊢;have r:=Nat.le_trans b.1 b.2;unfold maxLen at r;have M:Hid (a.isEmpty=decide (c=0)):=Zh (by rw [<-H];cases a <;> simp);clear B H b J y u;by_cases Z:c=0
 ·subst Z;go_wp2;go_ret;exact⟨by rw [n.out,M.out];simp,d⟩
 ·have c7:((c:Int) == 0)=false:=by rw [beq_eq_false_iff_ne];omega
  have y:=zR (d.keep a5.out);have u:=cell_of_one (d.keep a6.out);have T:=L.out b2 d;have K:=Zh T;clear T;go_wp2_with fail;refine K.out.mono ?_;rintro e f0 ⟨e5,rfl,C,P⟩;obtain⟨f2,f1,rfl⟩:=Zj C;obtain⟨b1,G⟩:=zE t.length;have b:=Kd C;rw [G] at b ⊢;have b0:=Nat.le_trans b.1 b.2;unfold maxLen at b0;have a7:Hid (t.isEmpty=decide (b1=0)):=Zh (by rw [<-G];cases t <;> simp);have a8:=d.trans P;clear C G b L K y u d P;go_wp2;go_ret;refine⟨?_,a8⟩;rw [n.out,M.out,a7.out];apply Yk;apply Bool.eq_iff_iff.2;simp [Z];omega
theorem Q3j{l:Q7}{ws:Wd}{i j:Nat}(a:j<l.ifs.length)(h:Gk (ws.getD (i+j) (0,0)) (l.ifs.getD j (0,0))=false):Zx l ws i=false:=by
 cases hh:Zx l ws i with
 | false=>rfl
 | true=>
  unfold Zx Rc at hh;simp only [Bool.and_eq_true,List.all_eq_true,List.mem_range] at hh;rw [hh.1.2 j a] at h;cases h
theorem Q6m{l:Q7}{ws:Wd}{i:Nat}(a:i+l.ifs.length<=ws.length)(h:∀ j,j<l.ifs.length->Gk (ws.getD (i+j) (0,0)) (l.ifs.getD j (0,0))=true):Zx l ws i=Wy l ws i:=by
 unfold Zx Rc;rw [decide_eq_true a,(List.all_eq_true (l:=List.range l.ifs.length)).2 fun j hj=>h j (List.mem_range.1 hj)];rfl
def Xn(l:Q7)(ws:Wd)(a:Nat):List Nat:=(List.range' a (ws.length+1 - a)).filter (Zx l ws)
theorem Eg(l:Q7)(ws:Wd):Xn l ws 0=W4 l ws:=by unfold Xn W4;rw [List.range_eq_range'];rfl
theorem Lw{l:Q7}{ws:Wd}{a:Nat}(h:Zx l ws a=false):Xn l ws a=Xn l ws (a+1):=by
 unfold Xn;by_cases b:a<=ws.length
 ·rw [show ws.length+1 - a=(ws.length+1 - (a+1))+1 by omega,List.range'_succ,List.filter_cons,h];simp
 ·rw [show ws.length+1 - a=0 by omega,show ws.length+1 - (a+1)=0 by omega];rfl
theorem Dx{l:Q7}{ws:Wd}{a:Nat}(h:Zx l ws a=true):Xn l ws a=a::Xn l ws (a+1):=by
 have:=Ky h;unfold Xn;rw [show ws.length+1 - a=(ws.length+1 - (a+1))+1 by omega,List.range'_succ,List.filter_cons,h];simp
theorem Q0h{l:Q7}{ws:Wd}{a:Nat}(h:ws.length<a+l.ifs.length):Xn l ws a=[]:=by
 unfold Xn;rw [List.filter_eq_nil_iff];intro d c b;have:=Ky b;have:=(List.mem_range'_1.1 c).1;omega
theorem Pj{w:World}{BL BW J:Nat}{l:Q7}{cs:List Value}{v:Value}{ws:Wd}{K:Nat->Prop}(st:Nat)(l0:st<=ws.length+1)(k8:l.ifs.length+ws.length<=100000)
  (e4:∀ W,Q1 (fun b=>¬ K b) w W->LBx W BL l cs/\Yz W BW v/\Q8 W v ws/\Tab W/\W.heap[J]?=some (.cells #[.int .i64 st] 3 (0,0))) :
  Ut Tryz.prog 258 #[.pointer (some ⟨BL,0,none⟩),.pointer (some ⟨BW,0,none⟩),.pointer (some ⟨J,0,none⟩)] (fun _ _=>False) (fun _ _ (x:Nat) _ ys=>ys=#[.int .i64 x]) (Xn l ws st) K w:=by
 intro e7 b9 p2 W e5 i6 n3 j9 N;have c6:∀ O O' j A B,b9 O j A->Ext A B->(∀ b,O' b->(O b\/A.heap.size<=b)/\b<B.heap.size)->b9 O' j B:=fun O O' j A B a5 a6 i2=>i6 O O' j A B a5 (Ext.of a6) i2;clear i6;obtain⟨a8,r,H,d0,Q⟩:=e4 W e5;obtain⟨c8,j2⟩:=a8;obtain⟨s4,r7,t0,r9,s2,p6,p9,s5,p3,q2,r8,t1,s0,s3,p7,q0,s6,p4,q3,r6,o,r5,s9,p5,s7,s1,rfl,g5,m4,m5,Z,m3,p1,o8,o9,p,p0,o7,t2,e8,e9,t3,t4⟩:=Yr j2;obtain⟨k,b4⟩:=zE ws.length;obtain⟨X,y,rfl,l1⟩:=H.slice;rw [b4] at l1 l0 k8;rw [p.out] at k8;unfold maxLen at l1;have z:=Zh b4;have k2:=Ei g5.out (ao:=X) (n:=k) (c:=y);have g7:=Zh e4;have f3:=Zh k2;clear e4 k2;rw [b4] at r;clear b4 H d0 j2;have a2:=fun d=>cell_of_row _ _ d _ _ _ c8;have a1:=cell_of_one r;have i1:=cell_of_one Q;obtain⟨g4,m8,f8⟩:=Zh3 c8 r Q;clear c8 r Q a2;show Calls _ _ #[.func (.yield e7) #[] #[],.pointer (some ⟨BL,0,none⟩),.pointer (some ⟨BW,0,none⟩),.pointer (some ⟨J,0,none⟩)] _ _;go_enter Tryz.func258,Tryz.ntmps258;refine wp_scope_straight ?_
 go_wp2_with (first | (refine wpList_load_row rfl 102 (.tmp 1) rfl BL rfl _ _ _ _ g4.out Tryz.underlying102 rfl Tryz.lawInfo ?_) | (go_at_call 259;refine f3.out.mono ?_;rintro c2 t ⟨rfl,a9,b0,a7⟩))
 refine wp_label ?_;have i1:=cell_of_one (a7.keep f8.out);go_wp2_with fail;have R:∀ b,(b=W.heap.size\/b=W.heap.size+1)->((False\/W.heap.size<=b)/\b<t.heap.size):=by
  have a5:=(Array.getElem?_eq_some_iff.1 a9.1).1;have a6:=(Array.getElem?_eq_some_iff.1 b0).1;intro b s;omega
 have c7:=c6 (fun _=>False) (fun b=>b=W.heap.size\/b=W.heap.size+1) [] W t N a7 R;have b1:Q1 (fun b=>¬ K b) w t:=e5.trans a7.of;obtain⟨f,i3⟩:=zE W.heap.size;rw [i3] at c7 a9 b0 R ⊢;have q9:f<t.heap.size/\f+1<t.heap.size:=⟨(R f (.inl rfl)).2,(R (f+1) (.inr rfl)).2⟩;obtain⟨g1,g2,n0⟩:=Zh3 c6 c7 j9;clear c6 j9 c7 n3 N R i3 i1 f8 m8 g4 f3 e5 a7 g5 m4 m5 Z m3;have l7:Hid (LBx t f l _/\Yz t (f+1) (.slice X k y)):=Zh ⟨a9,b0⟩;clear a9 b0
 refine wp_loop (fun a q=>∃(j:List Nat) (i:Nat),i<=k+1/\a.defers=[]/\gS a [0,1,2,3,5,6]=(50,[.func (.yield e7) #[] #[],.pointer (some ⟨BL,0,none⟩),.pointer (some ⟨BW,0,none⟩),.pointer (some ⟨J,0,none⟩),.func (.func 278) #[] #[.pointer (some ⟨f,0,none⟩),.pointer (some ⟨f+1,0,none⟩)],.int .i64 i])/\Xn l ws st=j++Xn l ws i/\b9 (fun b=>b=f\/b=f+1) j q/\Q1 (fun b=>¬ K b) w q/\Q1 (fun b=>b≠f/\b≠f+1) t q)
  (fun a _=>k+1 - (intOf (a.tmps.getD 6 undef)).toNat) ?_ ?_
 ·exact⟨[],st,l0,rfl,rfl,rfl,g2.out,b1,Q1.refl _ _⟩
 clear g2 b1;rintro⟨o3,_⟩ q ⟨j,e,r1,d5,V,k9,j0,T,G⟩;subst d5;obtain⟨o4,rfl⟩:=Y6 V;clear V;have a0:=Zh k9;have b5:=Zh j0;clear k9 j0;obtain⟨a8,r,H,d0,Q⟩:=g7.out q T;obtain⟨l6,l5,a2,d8,_⟩:=a8.box.ifs;rw [p.out] at a2 d8;rw [z.out] at H r;have a1:=cell_of_one r;have g8:Hid (Q8 q (.slice X k y) ws):=Zh H;have m9:Hid (Yz q BW (.slice X k y)):=Zh r;have Z:Hid (Q8 q (.slice l6 o l5) l.ifs):=Zh d8;clear a8 r H Q d0 d8;by_cases k5:e+o<=k;case neg=>
  have a5:¬ ((e:Int)+(o:Int)<=(k:Int)):=by omega
  have k4:Xn l ws e=[]:=Q0h (by rw [z.out,p.out];omega);have l9:=Zh k4;clear k4;go_wp2;show bodyPost _ _ _ .normal _ _;go_end0
  refine⟨⟨_,rfl⟩,(fun b=>b=f\/b=f+1),.inl ?_⟩;have:=a0.out;rw [l9.out,List.append_nil] at this;rw [this];exact b5.out
 have a5:(e:Int)+(o:Int)<=(k:Int):=by omega
 go_wp2;clear a2 a1
 refine wp_loop (fun a m=>∃(d:Nat),d<=o/\a.defers=[]/\gS a [0,1,2,3,5,6,24,25,26]=(50,[.func (.yield e7) #[] #[],.pointer (some ⟨BL,0,none⟩),.pointer (some ⟨BW,0,none⟩),.pointer (some ⟨J,0,none⟩),.func (.func 278) #[] #[.pointer (some ⟨f,0,none⟩),.pointer (some ⟨f+1,0,none⟩)],.int .i64 e,.slice l6 o l5,.int .i64 o,.int .i64 d])/\(∀ i,i<d->Gk (ws.getD (e+i) (0,0)) (l.ifs.getD i (0,0))=true)/\Ext q m)
  (fun a _=>o - (intOf (a.tmps.getD 26 undef)).toNat) ?_ ?_
 ·exact⟨0,by omega,rfl,rfl,fun i hi=>by omega,Q1.refl _ _⟩
 rintro⟨o3,_⟩ m ⟨d,r4,d5,V,k0,D⟩;subst d5;obtain⟨o4,rfl⟩:=Y6 V;clear V;have f2:=Zh k0;clear k0;have b1:Q1 (fun b=>¬ K b) w m:=T.trans D.of;by_cases d9:d<o;case pos=>
  have a6:(d:Int)<(o:Int):=by omega
  have i2:((e:Int)+(d:Int))<(k:Int):=by omega
  have q8:(0:Int)<=(e:Int)+(d:Int):=by omega
  obtain⟨q7,s8,q4,k6,r2,c0,c1⟩:=(Z.out.ext D).at (i:=d) (by rw [p.out];exact d9);obtain⟨C,E,q5,k7,r3,a3,a4⟩:=(g8.out.ext D).at (i:=e+d) (by rw [z.out];omega);simp only [zV] at k6 k7;obtain⟨rfl,o1,rfl⟩:=k6;obtain⟨rfl,o2,rfl⟩:=k7;clear o1 o2;obtain⟨⟨L,M⟩,d3⟩:=zE (l.ifs.getD d (0,0));obtain⟨⟨f0,f1⟩,e2⟩:=zE (ws.getD (e+d) (0,0));have d4:=Z.out.2.get d (by rw [p.out];exact d9);have e3:=g8.out.2.get (e+d) (by rw [z.out];omega);rw [d3] at c0 c1 d4;rw [e2] at a3 a4 e3;dsimp only at c0 c1 a3 a4;have e1:=fun(g:World)=>Q55 e3 d4 g;obtain⟨i0,d2⟩:=zE (Gk (f0,f1) (L,M));rw [d2] at e1;have m7:=Zh e1;have f4:Hid (Gk (ws.getD (e+d) (0,0)) (l.ifs.getD d (0,0))=i0):=Zh (by rw [d3,e2];exact d2);have b8:Hid (Yz m BW (.slice (some ⟨C,E,none⟩) k y)):=Zh (D.keep m9.out);have a1:=cell_of_one b8.out;have f5:=Zh a3;have f6:=Zh a4;clear d3 e2 d4 e3 e1 d2 a3 a4;go_wp2_with fail;obtain⟨I,b3⟩:=zE (m.alloc (.cells #[.int .u32 (L:Int),.int .u32 (M:Int)] 95));have c4:Ext m I:=by rw [<-b3];exact(Q1.refl _ m).alloc _
  have c3:I.heap[m.heap.size]?=some (.cells #[.int .u32 (L:Int),.int .u32 (M:Int)] 95 (0,0)):=by rw [<-b3];exact Q3 rfl
  rw [b3];obtain⟨Y,i4⟩:=zE m.heap.size;rw [i4] at c3 ⊢;have k3:∀(g:World),Ext I g->g.cell? ⟨BW,0,none⟩=some (.slice (some ⟨C,E,none⟩) k y)/\g.cell? ⟨C,E+(e+d)*2,none⟩=some (.int .u32 (f0:Int))/\g.cell? ⟨C,E+(e+d)*2+1,none⟩=some (.int .u32 (f1:Int))/\g.cell? ⟨Y,0,none⟩=some (.int .u32 (L:Int))/\g.cell? ⟨Y,1,none⟩=some (.int .u32 (M:Int)):=by
   intro g i5;have N:=i5.keep c3;have c5:=c4.trans i5;refine⟨cell_of_one (Ext.keep c5 b8.out),c5.cell_some f5.out id,c5.cell_some f6.out id,cell_of_row _ _ 0 _ _ _ N,cell_of_row _ _ 1 _ _ _ N⟩
  have b7:=Zh k3;have f7:=Zh c4;clear k3 b3 c3 i4 c4 a1 c0 c1 f5 f6 b8;have o0:IntKind.i64.wrap ((e:Int)+(d:Int))=(e:Int)+(d:Int):=IntWalk.i64_in _ oz;have n9:((e:Int)+(d:Int)).toNat=e+d:=by omega
  refine wp_region_held_drew (S:=fun g=>g.cell? ⟨BW,0,none⟩=some (.slice (some ⟨C,E,none⟩) k y)/\g.cell? ⟨C,E+(e+d)*2,none⟩=some (.int .u32 (f0:Int))/\g.cell? ⟨C,E+(e+d)*2+1,none⟩=some (.int .u32 (f1:Int))/\g.cell? ⟨Y,0,none⟩=some (.int .u32 (L:Int))/\g.cell? ⟨Y,1,none⟩=some (.int .u32 (M:Int))) kz (b7.out _ (Q1.drew (Q1.refl _ I))) ?_;intro u;refine tH 0 31 u ?_;refine tH 1 32 u ?_;refine tH 2 33 u ?_;refine tH 3 34 u ?_;refine tH 4 35 u ?_;refine tH 5 36 u ?_;refine tH 6 37 u ?_;refine rH [7] ?_;refine AllReadyH.cons rfl (fun K hK=>?_) AllReadyH.nil;refine iw rfl ?_;go_simp;refine(m7.out _).mono ?_;rintro c2 o5 ⟨rfl,j5⟩;have l2:Ext I o5:=Q1.trans (Q1.drew (Q1.refl _ I)) j5;refine hK.out _ _ (b7.out _ l2) (fun hS1=>?_);clear hK K j5;refine tH 8 39 hS1 ?_;refine wpAnyH_done kz ?_ _;have P:=(D.trans f7.out).trans l2;clear u hS1 b7 o0 n9;have i8:=g1.out _ (fun b=>b=f\/b=f+1) j _ _ b5.out P (fun b s=>⟨.inl s,by have:=G.size;have:=P.size;omega⟩);have m1:=Zh i8;clear i8 f7;cases i0
  ·have U:=Lw (Q3j (by rw [p.out];exact d9) f4.out);have b6:=Zh U;clear U;go_wp2;exact⟨⟨j,e+1,by omega,tz,rfl,by rw [a0.out,b6.out],m1.out,T.trans (Ext.of P),G.trans (Ext.of P)⟩,nz⟩
  ·have k1:∀ i,i<d+1->Gk (ws.getD (e+i) (0,0)) (l.ifs.getD i (0,0))=true:=fun i hi=>by
    by_cases n7:i<d
    ·exact f2.out i n7
    ·obtain rfl:i=d:=by omega
     exact f4.out
   have l8:=Zh k1;clear k1;go_wp2;exact⟨⟨d+1,by omega,tz,rfl,l8.out,P⟩,nz⟩
 obtain rfl:d=o:=by omega
 have a6:¬ ((d:Int)<(d:Int)):=by omega
 have d7:Zx l ws e=Wy l ws e:=Q6m (by rw [z.out,p.out];exact k5) (by rw [p.out];exact f2.out);obtain⟨n1,d1⟩:=zE (Wy l ws e);have n8:=g7.out m b1;obtain⟨j3,n6,e6,j8,_⟩:=n8;rw [z.out] at e6;have c9:=G.trans D.of;have r0:=c9.size;obtain⟨e8,e9⟩:=l7.out;have j4:Gr m f l:=⟨_,c9.heap e8.1 oz,j3.2⟩;have j7:Yz m (f+1) (.slice X k y):=c9.heap e9 oz;have d6:=Q6n j4 j7 e6 j8 e (by rw [z.out,p.out];exact k5);rw [d1] at d6;rw [d1] at d7;have f9:=Zh d6;have g0:=Zh d7;clear d6 d7 d1 j3 n6 e6 j8 e8 e9 j4 j7;go_upto_region 9 with (fail)
 refine(wpIn_wide (n:=0)).1 ?_
 gi_wp2_with fail
 refine(callsIn_wide.2 f9.out).mono ?_;rintro c2 o6 ⟨rfl,n2⟩;have F:=D.trans n2;have i9:=g1.out _ (fun b=>b=f\/b=f+1) j _ _ b5.out F (fun b s=>⟨.inl s,by have:=G.size;have:=F.size;omega⟩);have g3:=Zh i9;clear i9 f9;cases n1
 ·have U:=Lw g0.out;have b6:=Zh U;clear U;gi_wp2;go_wp2;exact⟨⟨j,e+1,by omega,tz,rfl,by rw [a0.out,b6.out],g3.out,T.trans (Ext.of F),G.trans (Ext.of F)⟩,nz⟩
 ·have l4:=Dx g0.out;have b2:=a0.out;rw [l4] at b2;obtain⟨q6,t5,p8,q1,l3,j6⟩:=n0.out (fun b=>b=f\/b=f+1) j e _ o6 #[.int .i64 e] b2 g3.out rfl;have m6:=Zh j6;have g6:=Zh b2;clear j6 l4 b2;gi_wp2;refine m6.out.mono ?_;rintro c2 g9 (⟨rfl,i7,e0⟩ | ⟨rfl,j1,_⟩)
  ·clear l3;have n5:Q1 (fun b=>¬ K b) w g9:=(T.trans (Ext.of F)).trans (e0.mono fun b _ s=>s.1);have n4:Q1 (fun b=>b≠f/\b≠f+1) t g9:=(G.trans (Ext.of F)).trans (e0.mono fun b _ s=>⟨fun h=>s.2 (.inl h),fun h=>s.2 (.inr h)⟩);have m0:=Zh i7;clear i7 e0;gi_wp2;go_wp2;exact⟨⟨j++[e],e+1,by omega,tz,rfl,by rw [g6.out];simp,m0.out,n5,n4⟩,nz⟩
  ·clear l3;have m2:=Zh j1;clear j1;gi_wp2;go_wp2;unfold Exit.noGoto;dsimp only;refine bodyPost_ret (results_none rfl _ _ _) rfl ?_;exact⟨⟨_,rfl⟩,(fun b=>b=f\/b=f+1),.inr ⟨j,e,_,g6.out,m2.out⟩⟩
end Go.Proofs.YtfdlhlghcbeblaaGreatDoor
namespace Go.Ab
open Go.RowKit
theorem Ni{P:Program}(w:World)(g off:Nat)(ty:TypeId)(cs:List Value)(d:TypeDesc)(f:w.rangeAt g off cs)
  (l:P.underlying ty=some d) (m:(match d with | .struct _ | .array _ _=>true | _=>false)=true) (a:(P.info? ty).map (·.size)=some cs.length) :
  (loadVar ty ⟨g,off,none⟩).run P w=.ok (.agg cs.toArray) w:=by
 have e:(loadCells ⟨g,off,none⟩ cs.length).run P w=.ok cs.toArray w:=
  run_loadCells_list (P:=P) w ⟨g,off,none⟩ cs (fun j v hv=>by
   have b:(⟨g,off,none⟩:Addr).add j=⟨g,off+j,none⟩:=by unfold Addr.add;split <;> simp_all
   rw [b];exact f j v hv)
 cases hq:P.info? ty with
 | none=>simp [hq] at a
 | some i=>
  have k:i.size=cs.length:=by simpa [hq] using a
  have c:(isAgg ty).run P w=.ok true w:=by
   unfold isAgg;rw [Sem.run_bind,run_underlying l w];cases d <;> simp_all
  simp [loadVar,Sem.run_bind,c,sizeOf,typeInfo,hq,k,e]
theorem Mp{P:Program}{o:Oper}{a:Act}{w:World}{K:Act->World->Prop}{Q:Exit->Act->World->Prop}(ty:TypeId)(x:Operand)(e:o.op=.load ty x)
  (g off:Nat) (j:a.eval x=.pointer (some ⟨g,off,none⟩)) (cs:List Value) (d:TypeDesc) (f:w.rangeAt g off cs)
  (i:P.underlying ty=some d) (b:(match d with | .struct _ | .array _ _=>true | _=>false)=true) (c:(P.info? ty).map (·.size)=some cs.length)
  (h:K (a.put o.dst (.agg cs.toArray)) w):o.wp P a w K Q:=by
 unfold Oper.wp execOp;simp only [e,j,Instr.loadAt,Instr.sureAddr,Sem.run_bind,Sem.run_pure,Result.andThen_ok,Ni w g off ty cs d f i b c];exact h
theorem Kc{P:Program}{ops:Array Oper}{rest:List Oper}{o:Oper}{a:Act}{w:World}{Q:Exit->Act->World->Prop}(hgd:Region.wanted o (yielded ops a.tmps)=true) (ty:TypeId) (x:Operand) (ho:o.op=.load ty x)
  (g off:Nat) (hx:a.eval x=.pointer (some ⟨g,off,none⟩)) (cs:List Value) (d:TypeDesc) (hr:w.rangeAt g off cs)
  (hu:P.underlying ty=some d) (hd:(match d with | .struct _ | .array _ _=>true | _=>false)=true) (hi:(P.info? ty).map (·.size)=some cs.length)
  (h:wpList P ops Q rest (a.put o.dst (.agg cs.toArray)) w):wpList P ops Q (o::rest) a w:=
 wpList_step fun K hK=>by
  rw [if_pos hgd];exact Mp ty x ho g off hx cs d hr hu hd hi (hK _ _ h)
abbrev Qy:=List (Q7 × List Value)
def Z9(w:World)(v:Value)(ps:Qy):Prop:=Rd w v ps.length 18 (ps.flatMap (·.2))/\∀ p∈ps,Z2 w p.1 p.2
theorem Z9.ext{A B:World}{v:Value}{ps:Qy}(h:Z9 A v ps)(ht:Ext A B):Z9 B v ps:=⟨h.1.ext ht,fun p hp=>(h.2 p hp).ext ht⟩
theorem Z9.slice{w:World}{v:Value}{ps:Qy}(h:Z9 w v ps):∃ ao cap,v=.slice ao ps.length cap/\ps.length<=maxLen:=by
 obtain⟨⟨_,a,ao,cap,b,_⟩,_⟩:=h;exact⟨ao,cap,b,a⟩
theorem Q5q{K:Nat->Prop}{W:World}{p:Pat}{c:List Value}(h:Z0 K W p c):c.length=7:=by
 obtain⟨d,k,f,j,g,i,e⟩:=p;unfold Z0 at h;obtain⟨a,b,rfl,_⟩:=h;rfl
theorem Fs{w:World}{l:Q7}{cs:List Value}(h:Z2 w l cs):cs.length=18:=by
 obtain⟨f,i,e,g,rfl,_,c,d,_⟩:=h;have a:=Q5q c;have b:=Q5q d;unfold Tf;simp [a,b]
theorem El{ps:Qy}{w:World}(h:∀ p∈ps,Z2 w p.1 p.2){i j:Nat}(b:i<ps.length)(c:j<18):(ps.flatMap (·.2))[i*18+j]?=ps[i].2[j]?:=by
 induction ps generalizing i with
 | nil=>cases b
 | cons p ps ih=>
  have a:=Fs (h p zy);rw [List.flatMap_cons];cases i with
  | zero=>rw [Nat.zero_mul,Nat.zero_add,List.getElem?_append_left oz];rfl
  | succ i=>
   rw [List.getElem?_append_right oz,a,show (i+1)*18+j - 18=i*18+j by omega];exact ih (fun p a=>h p (by simp [a])) (by simpa using b)
theorem Z9.at{w:World}{v:Value}{ps:Qy}(h:Z9 w v ps){i:Nat}(b:i<ps.length) :
  ∃ g off cap,v=.slice (some ⟨g,off,none⟩) ps.length cap/\g<w.heap.size/\w.rangeAt g (off+i*18) ps[i].2/\Z2 w ps[i].1 ps[i].2/\ps[i].2.length=18:=by
 obtain⟨⟨p,q,o,cap,n,e⟩,a⟩:=h;obtain⟨g,off,f,l,k⟩:=e oz;subst f;have c:=a _ (List.getElem_mem b);have d:=Fs c;refine⟨g,off,cap,n,l,fun j u hu=>?_,c,d⟩;have m:j<18:=by
  apply Nat.lt_of_not_le;intro r;rw [List.getElem?_eq_none oz] at hu;cases hu
 have:=k (i*18+j) (by rw [show ps.length*18=(ps.length - 1 - i)*18+i*18+18 by omega];omega);rw [Nat.add_assoc,this,List.getD_eq_getElem?_getD,El a b m,hu];rfl
end Go.Ab
namespace Go.Proofs.YtfdlhlghcbeblaaGreatDoor
open Go.RowKit Go.Ab
theorem Gz{l:Q7}(h:X8 l=true):l.ifs.length<=4/\l.outs.length<=6/\l.ifs.length+l.outs.length≠0/\(1<=l.mode/\l.mode<=3)/\(∀ x∈l.outs,Xp l.ifs.length x=true)/\Y8 l.left=0/\Y8 l.right=0/\(∀ s∈l.ifs,okS s=true):=by
 unfold X8 at h;simp only [Bool.and_eq_true,decide_eq_true_eq] at h;obtain⟨⟨⟨⟨⟨⟨⟨⟨⟨_,a⟩,b⟩,c⟩,d⟩,e⟩,f⟩,g⟩,i⟩,j⟩:=h;exact⟨c,d,e,⟨f,g⟩,List.all_eq_true.1 j,a,b,List.all_eq_true.1 i⟩
theorem Vw{l:Q7}{u:Wd}{i:Nat}(h:i+l.ifs.length<=u.length):(Yh l u i).length+l.ifs.length=u.length+l.outs.length:=
 Bb (fun c _=>X0 l c) h
def Ja(l:Q7)(ws:Wd)(tr:List (Nat × Wd)) (u:Wd) (i:Nat):Prop:=
 (∃ n,u.length+1 - i<=n/\Z4 l ws=tr++U7 (Zx l) (X9 l) l.ifs.length l.outs.length n u i)/\tr.length+(u.length+1 - i)<=ws.length+1/\u.length<=ws.length+tr.length*l.outs.length/\i<=u.length+1
theorem Ja.start{l:Q7}{ws:Wd}(h:l.mode=2):Ja l ws [] ws 0:=
 ⟨⟨ws.length+1,by omega,by unfold Z4;rw [if_neg oz,if_pos h];rfl⟩,by simp,by simp,by omega⟩
theorem Ja.miss{l:Q7}{ws:Wd}{d:List (Nat × Wd)} {u:Wd} {i:Nat} (h:Ja l ws d u i) (k:i+l.ifs.length<=u.length) (f:Zx l u i=false):Ja l ws d u (i+1):=by
 obtain⟨⟨c,m,a⟩,g,e,j⟩:=h;obtain⟨b,rfl⟩:∃ b,c=b+1:=⟨c - 1,by omega⟩;unfold U7 at a;rw [if_neg oz,if_neg (by rw [f];decide)] at a;exact⟨⟨b,by omega,a⟩,by omega,e,by omega⟩
theorem Ja.hit{l:Q7}{ws:Wd}{c:List (Nat × Wd)} {u:Wd} {i:Nat} (h:Ja l ws c u i) (d:Zx l u i=true) :
  Ja l ws (c++[(i,Yh l u i)]) (Yh l u i) (i+l.outs.length+(if l.ifs.length=0 then 1 else 0))/\∃ rest,Z4 l ws=c++(i,Yh l u i)::rest:=by
 have g:=Ky d;have q:=Vw g;obtain⟨⟨e,r,a⟩,n,o,p⟩:=h;obtain⟨b,rfl⟩:∃ b,e=b+1:=⟨e - 1,by omega⟩;unfold U7 at a;rw [if_neg oz,if_pos d] at a;have j:(if l.ifs.length=0 then 1 else 0:Nat)+l.ifs.length>=1:=by split <;> omega
 have k:(if l.ifs.length=0 then 1 else 0:Nat)<=1:=by split <;> omega
 obtain⟨f,m⟩:=zE (if l.ifs.length=0 then 1 else 0:Nat);rw [m] at a j k ⊢;refine⟨⟨⟨b,by omega,by rw [a];simp [Yh]⟩,?_,?_,by omega⟩,_,a⟩
 ·rw [List.length_append,List.length_singleton];omega
 ·rw [List.length_append,List.length_singleton,Nat.add_mul];omega
theorem Ja.done{l:Q7}{ws:Wd}{b:List (Nat × Wd)} {u:Wd} {i:Nat} (h:Ja l ws b u i) (c:u.length<i+l.ifs.length):Z4 l ws=b:=by
 obtain⟨⟨a,j,d⟩,e,f,g⟩:=h;rw [d];cases a with
 | zero=>simp [U7]
 | succ a=>unfold U7;rw [if_pos c,List.append_nil]
def Xj(l:Q7)(ws:Wd)(tr:List (Nat × Wd)) (u:Wd) (i:Nat):Prop:=
 (∃ n,i<=n/\Z4 l ws=tr++Uu (Zx l) (X9 l) l.ifs.length n u i)/\tr.length+i<=ws.length+1/\u.length<=ws.length+tr.length*l.outs.length/\i+l.ifs.length<=u.length+1+(if i=0 then l.ifs.length else 0)
theorem Xj.start{l:Q7}{ws:Wd}(h:l.mode≠1)(h2:l.mode≠2):Xj l ws [] ws (ws.length+1 - l.ifs.length):=
 ⟨⟨ws.length+1,by omega,by unfold Z4;rw [if_neg h,if_neg h2];rfl⟩,by simp,by simp,by split <;> omega⟩
theorem Xj.miss{l:Q7}{ws:Wd}{d:List (Nat × Wd)} {u:Wd} {i:Nat} (h:Xj l ws d u (i+1)) (g:Zx l u i=false):Xj l ws d u i:=by
 obtain⟨⟨c,k,a⟩,j,e,f⟩:=h;obtain⟨b,rfl⟩:∃ b,c=b+1:=⟨c - 1,by omega⟩;unfold Uu at a;rw [if_neg (by rw [g];decide)] at a;rw [if_neg oz] at f;exact⟨⟨b,by omega,a⟩,by omega,e,by omega⟩
theorem Xj.le{l:Q7}{ws:Wd}{b:List (Nat × Wd)} {u:Wd} {i:Nat} (h:Xj l ws b u (i+1)):i+l.ifs.length<=u.length:=by
 obtain⟨_,_,_,a⟩:=h;rw [if_neg oz] at a;omega
theorem Xj.hit{l:Q7}{ws:Wd}{c:List (Nat × Wd)} {u:Wd} {i:Nat} (h:Xj l ws c u (i+1)) (e:Zx l u i=true) :
  Xj l ws (c++[(i,Yh l u i)]) (Yh l u i) (i+1 - max l.ifs.length 1)/\∃ rest,Z4 l ws=c++(i,Yh l u i)::rest:=by
 have f:=h.le;have m:=Vw f;obtain⟨⟨d,n,a⟩,g,j,k⟩:=h;obtain⟨b,rfl⟩:∃ b,d=b+1:=⟨d - 1,by omega⟩;unfold Uu at a;rw [if_pos e] at a;refine⟨⟨⟨b,by omega,by rw [a];simp [Yh]⟩,?_,?_,?_⟩,_,a⟩
 ·rw [List.length_append,List.length_singleton];omega
 ·rw [List.length_append,List.length_singleton,Nat.add_mul];omega
 ·split <;> omega
theorem Xj.done{l:Q7}{ws:Wd}{b:List (Nat × Wd)} {u:Wd} (h:Xj l ws b u 0):Z4 l ws=b:=by
 obtain⟨⟨a,d,c⟩,_⟩:=h;rw [c];cases a with
 | zero=>simp [Uu]
 | succ a=>simp [Uu]
theorem few{t n m:Nat}(h:t<=n)(hm:m<=6)(hn:n<=33):t*m<=198:=Nat.le_trans (Nat.mul_le_mul (Nat.le_trans h hn) hm) zd
attribute [local go_sem] Oper.semAt_some Zf Qp
theorem Gs{a:Func}{p:Tmp}(h:a.results=#[.cell p 4]){tmps:Array Value}{w:World}{g:Nat}{v:Value}(d:tmps.getD p undef=.pointer (some ⟨g,0,none⟩)) (c:w.heap[g]?=some (.cells #[v] 4 (0,0))) :
  (results a tmps).run Tryz.prog w=.ok v w:=by
 have e:tmps[p]?.getD undef=.pointer (some ⟨g,0,none⟩):=by simpa using d
 have b:=cell_of_one c;simp [results,h,e,asAddr,go_sem,b]
theorem Q0f{l:Q7}{ws:Wd}{a x:Nat}{r:List Nat}(h:Xn l ws a=x::r):Zx l ws a=decide (x=a):=by
 cases hh:Zx l ws a with
 | true=>rw [Dx hh] at h;simp at h;simp [h.1]
 | false=>
  rw [Lw hh] at h;have b:x∈Xn l ws (a+1):=by rw [h];simp
  have:=(List.mem_range'_1.1 (List.mem_filter.1 b).1).1;rw [eq_comm,decide_eq_false_iff_not];omega
theorem Eh{l:Q7}{ws:Wd}{a:Nat}(h:Xn l ws a=[]):Zx l ws a=false:=by
 cases hh:Zx l ws a with
 | true=>rw [Dx hh] at h;cases h
 | false=>rfl
theorem Bt{w:World}{cs:List Value}{l:Q7}{v:Value}{ws:Wd}(b7:Z2 w l cs)(W:Q8 w v ws)(b5:Tab w)(j:Nat)(b6:j<=ws.length+1)(b9:l.ifs.length+ws.length<=100000) :
  Calls Tryz.prog 229 #[.agg cs.toArray,v,.int .i64 j] w fun e w'=>e=.returned (.bool (Zx l ws j))/\Ext w w':=by
 obtain⟨b1,b0,rfl,e5⟩:=W.slice;obtain⟨f8,f1,g3,f3,f6,d5,d7,f9,d0,d9,f2,g4,f4,f7,d6,d8,g0,d1,e0,f0,d2,e9,g2,d3,g1,f5,rfl,b4,i4,i5,g6,i3,i2,g8,g9,i0,i1,g7,j2,j3,j4,j5,j6⟩:=Yr b7;obtain⟨b2,X⟩:=zE ws.length;rw [X] at W b6;obtain⟨c7,c6,c8,c5⟩:=Zh4 W b5 X b9;rw [X];clear b7 W b5 X e5 b9;refine Qv Tryz.func229 rfl ?_;simp only [Tryz.ntmps229,zS,Nat.reduceAdd,Nat.reduceSub]
 go_wp2_with (refine wpList_load_row rfl 102 (.tmp 3) rfl w.heap.size rfl _ _ _ _ (Q6 (Q6 (Q3 rfl))) Tryz.underlying102 rfl Tryz.lawInfo ?_)
 obtain⟨Y,z⟩:=zE (((w.alloc (.cells #[.string f8,.int .i64 f1,.int .u32 (g3:Int),.int .u32 (f3:Int),.bool f6,.int .i64 d5,.int .i64 d7,.slice f9 d0 d9,.int .i64 f2,.int .u32 (g4:Int),.int .u32 (f4:Int),.bool f7,.int .i64 d6,.int .i64 d8,.slice g0 d1 e0,.slice f0 d2 e9,.slice g2 d3 g1,.int .i64 f5] 102)).alloc (.cells #[.int .i64 (j:Int)] 3)).alloc (.cells #[.bool false] 4));have a2:Ext w Y:=by rw [<-z];exact(((Q1.refl _ w).alloc _).alloc _).alloc _
 have a8:Y.heap.size=w.heap.size+3:=by rw [<-z];simp
 have a7:Y.heap[w.heap.size+2]?=some (.cells #[.bool false] 4 (0,0)):=by rw [<-z];exact Q3 zy
 have a3:Y.heap[w.heap.size+1]?=some (.cells #[.int .i64 (j:Int)] 3 (0,0)):=by rw [<-z];exact Q6 (Q3 zy)
 rw [z];clear z;have a4:=S9 (b4.out.ext a2) (ao:=b1) (n:=b2) (c:=b0) (j:Int);obtain⟨f,J⟩:=zE w.heap.size;rw [a8,J] at a4;rw [J] at a7 a3 a8 ⊢;have b3:=Zh a4;have s:=Zh J;clear a4 J;refine b3.out.mono ?_;rintro e G ⟨rfl,e4,O,P,N,M⟩;have E:=a2.trans M;have U:G.heap.size=f+6:=by omega
 have T:=M.keep a7;have Q:=M.keep a3;have A:∀ g,Q1 (fun b=>¬ (b<f+6/\b≠f+2)) G g->Ext w g:=fun g m=>Q1.after E m (fun b hb hn=>hn ⟨by have:=s.out;omega,by have:=s.out;omega⟩);have D:=Zh U;clear a7 a3 a8 a2 M e4 b3;go_wp2_with fail;have V:∀ g,Q1 (fun b=>¬ (b<f+6/\b≠f+2)) G g->LBx g (f+3) l _/\Yz g (f+3+1) (.slice b1 b2 b0)/\Q8 g (.slice b1 b2 b0) ws/\Tab g/\g.heap[f+3+2]?=some (.cells #[.int .i64 (j:Int)] 3 (0,0)):=fun g m=>
  ⟨⟨m.heap O.1 (fun d=>d ⟨by omega,by omega⟩),b4.out.ext (A g m)⟩,m.heap P (fun d=>d ⟨by omega,by omega⟩),c7.out.ext (A g m),c6.out.keep (A g m) id,m.heap N (fun d=>d ⟨by omega,by omega⟩)⟩
 refine Xu (xs:=Xn l ws j) (K:=fun b=>b<f+6/\b≠f+2) rfl (enters_of Tryz.func258 kz rfl)
  (Pj j (by rw [c8.out];exact b6) c5.out V) (fun b d=>by omega) (fun _ _ o Z C d=>by rw [d];rfl) (fun _ _ o Z H C d _ _=>d)
  (fun _ r g=>r=[]/\g.heap[f+2]?=some (.cells #[.bool false] 4 (0,0))/\g.heap[f+1]?=some (.cells #[.int .i64 (j:Int)] 3 (0,0))/\Ext w g)
  (fun c _ r g=>c=.ret/\∃ o,r=[o]/\g.heap[f+2]?=some (.cells #[.bool (decide (o=j))] 4 (0,0))/\Ext w g) ?hI ?hIx ?h0 (fun C t=>(t.setIfInBounds 12 (C.getD 0 undef)).setIfInBounds 7 (C.getD 0 undef)) ?assign ?body ?done ?stop
 case hI=>
  rintro I d4 r Z H ⟨a9,i,B,p⟩ y q _;exact⟨a9,q.heap i (by rintro(d | d);exact d.2.elim;omega),q.heap B (by rintro(d | d);exact d.2.elim;omega),Q1.after p q (fun b hb hn=>by have:=s.out;rcases hn with d | d;exact d.2.elim;omega)⟩
 case hIx=>
  rintro c I d4 r Z H ⟨e8,o,a9,i,p⟩ y q _;exact⟨e8,o,a9,q.heap i (by rintro(d | d);exact d.2.elim;omega),Q1.after p q (fun b hb hn=>by have:=s.out;rcases hn with d | d;exact d.2.elim;omega)⟩
 case h0=>
  intro g m _;exact⟨rfl,m.keep T,m.keep Q,E.trans m⟩
 case assign=>
  rintro _ _ j1 C g i7 rfl e3;gi_wp2;exact e3
 case body=>
  rintro I r o g5 C k u j0 y q ⟨rfl,i,B,p⟩ rfl;simp only [pq];have i8:=cell_of_one B;have e1:=cell_of_one i;have e2:=free_of_one i;obtain⟨a1,i6,c4,a0⟩:=Zh4 i u y p;clear i B u y p q V A E T Q O P N U;refine wpIn_block ?_;refine wpIn_seq ?_;refine Xc kz (by rintro⟨_,_,d⟩;exact d) ?_;obtain⟨x,a5⟩:=zE (decide (o=j));have i9:((o:Int) ==(j:Int))=x:=by
   rw [<-a5];apply Bool.eq_iff_iff.2;rw [beq_iff_eq,decide_eq_true_iff];omega
  have c1:=Zh a5;clear a5;go_wp2;refine wpIn_ret ?_;have F:Q1 (fun b=>b=f+2) k (k.setCell ⟨f+2,0,none⟩ (.bool x)):=Q1.set1 k (f+2) 0 _;have R:(k.setCell ⟨f+2,0,none⟩ (.bool x)).heap[f+2]?=some (.cells #[.bool x] 4 (0,0)):=by
   simp only [World.setCell,Array.getElem?_modify,a1.out];simp
  refine⟨F.mono (fun b _ hb hn=>?_),rfl,o,by simp,by rw [c1.out];exact R,Q1.after a0.out F (fun b hb hn=>by have:=s.out;omega)⟩;subst hb;rcases hn with d | d | d
  ·omega
  ·have:=(c4.out _ d).1;have:=D.out;omega
  ·have:=D.out;omega
 case done=>
  rintro I k ⟨u,i,B,p⟩ y q L;have b8:=Eh u;have e1:=cell_of_one i;have e2:=free_of_one i;obtain⟨a1,c3,a0,c2⟩:=Zh4 i b8 p L;clear i B u p q V A E T Q O P N U b8 L y;go_wp2;have R:(k.setCell ⟨f+2,0,none⟩ (.bool false)).heap[f+2]?=some (.cells #[.bool false] 4 (0,0)):=by
   simp only [World.setCell,Array.getElem?_modify,a1.out];simp
  have F:Q1 (fun b=>b=f+2) k (k.setCell ⟨f+2,0,none⟩ (.bool false)):=Q1.set1 k (f+2) 0 _;have a6:Qs f ({ target:=.collected G.heap.size,args:=#[] }::[]) (k.setCell ⟨f+2,0,none⟩ (.bool false)):=Qs.cons (base:=f) trivial (by have:=D.out;omega) (F.heap c2.out (by have:=D.out;omega)) (fun e he=>by cases he);refine Zr (v:=.bool false) _ _ a6 fun w' ht' hs=>⟨Gs rfl rfl (ht'.heap R (Shut.not R rfl)),by rw [c3.out],?_⟩
  exact(Q1.after a0.out F (fun b hb hn=>by have:=s.out;omega)).after ht' (fun b h1 h2=>by have:=h2.1;have:=s.out;omega)
 case stop=>
  rintro c I r o g5 k u ⟨rfl,c0,S,i,p⟩ L;have e6:c0=o/\r=[]:=by
   cases r with
   | nil=>simp at S;exact⟨S.symm,rfl⟩
   | cons a l=>have:=congrArg List.length S;simp at this
  obtain⟨rfl,rfl⟩:=e6;have e7:=Q0f u;have c9:=Zh e7;clear V A E T Q O P N U u S;refine wp_ret ?_;have a6:Qs f ({ target:=.collected G.heap.size,args:=#[] }::[]) k:=Qs.cons (base:=f) trivial (by have:=D.out;omega) L (fun e he=>by cases he);refine Zr (v:=.bool (decide (c0=j))) _ _ a6 fun w' ht' hs=>⟨Gs rfl rfl (ht'.heap i (Shut.not i rfl)),by rw [c9.out],?_⟩
  exact Q1.after p ht' (fun b h1 h2=>by have:=h2.1;have:=s.out;omega)
theorem Ww(a b:Nat):∀ v∈[Value.int .u32 (a:Int),Value.int .u32 (b:Int)],v.oneCell'=true:=by
 intro v c;simp only [List.mem_cons,List.not_mem_nil,or_false] at c;rcases c with rfl | rfl <;> rfl
theorem Ms{s f:Nat × Nat}{m:Nat}(b:Y3 s)(a:Y3 f):Y3 (U4 s m f).1:=by
 unfold U4;split
 ·exact⟨by decide,by decide⟩
 ·split
  ·exact⟨by decide,by decide⟩
  ·exact Q0l _ b a
theorem Q8c{s f:Nat × Nat}{m:Nat}(b:Y3 s)(a:Y3 f):Y3 (Kh s f m).1:=by
 unfold Kh;split
 ·exact⟨by decide,by decide⟩
 ·split
  ·exact⟨by decide,by decide⟩
  ·exact Q0l _ b a
theorem Q33{k:Nat}{x:Yq}(h:Xp k x=true):x.frm<k/\(x.tk≠0->0<=x.ofi/\x.ofi<k):=by
 unfold Xp at h;simp only [Bool.and_eq_true,decide_eq_true_eq] at h;refine⟨h.1.1.1.1.1.1.1.2,fun h0=>?_⟩;have:=h.2;rw [if_neg h0] at this
 simpa using this
def Nr(l:Q7)(cut:Wd)(n:Nat):Wd:=(l.outs.take n).map (Vt cut)
theorem Hs{l:Q7}{a:Wd}{n:Nat}{x:Yq}(h:n<l.outs.length)(b:l.outs[n]?=some x):Nr l a (n+1)=Nr l a n++[Vt a x]:=by
 unfold Nr;rw [List.getElem?_eq_getElem h] at b;cases b;rw [List.take_succ_eq_append_getElem h,List.map_append];rfl
theorem Q3h(l:Q7)(a:Wd){n:Nat}(h:l.outs.length=n):Nr l a n=X9 l a:=by unfold Nr X9;rw [List.take_of_length_le oz]
theorem Ru{w:World}{base:Nat}{e:TypeId}{v:Value}{ws:Wd}(h:w.ownsRow base e 2 v ws.length (Qw ws)) (hok:Zt ws):Q8 w v ws:=⟨Rd.of_own h,hok⟩
theorem Q7c{a:Wd}{x:Yq}(d:Zt a)(e:Uf x):Y3 (Vt a x):=by
 have c:Y3 (if 0<=x.frm then a.getD x.frm.toNat (0,0) else(0,0)):=by
  split
  ·by_cases b:x.frm.toNat<a.length
   ·exact d.get _ b
   ·rw [List.getD_eq_getElem?_getD,List.getElem?_eq_none oz];exact⟨by decide,by decide⟩
  ·exact⟨by decide,by decide⟩
 have f:Y3 (a.getD x.ofi.toNat (0,0)):=by
  by_cases b:x.ofi.toNat<a.length
  ·exact d.get _ b
  ·rw [List.getD_eq_getElem?_getD,List.getElem?_eq_none oz];exact⟨by decide,by decide⟩
 unfold Vt
 split
 ·exact Ms c e.2.1
 ·exact Q8c (Ms c e.2.1) f
theorem L8{l:Q7}{a:Wd}(b:Zt a)(c:∀ x∈l.outs,Uf x):Zt (X9 l a):=by
 intro f d;obtain⟨x,e,rfl⟩:=List.mem_map.1 d;exact Q7c b (c x e)
theorem Bs{w:World}{cs:List Value}{l:Q7}{v:Value}{g:Wd}(l9:Z2 w l cs)(j5:Q8 w v g)(k5:∀ x∈l.outs,Xp g.length x=true)(o7:l.outs.length<=1000) :
  Calls Tryz.prog 228 #[.agg cs.toArray,v] w fun e w'=>∃ u,e=.returned u/\w'.ownsRow w.heap.size 95 2 u l.outs.length (Qw (X9 l g))/\Ext w w':=by
 obtain⟨q8,q7,rfl,m4⟩:=j5.slice;obtain⟨q0,p3,q3,p5,p8,n4,n6,q1,n0,n8,p4,q4,p6,p9,n5,n7,q2,n1,n9,p2,n2,p1,m6,a9,m5,p7,rfl,r0,i5,r6,q9,m9,r5,r2,r3,r4,e7,r1,s7,s8,s9,t0,t1⟩:=Yr l9;obtain⟨j9,j6⟩:=zE g.length;rw [j6] at j5 m4 k5;rw [e7.out] at o7;unfold maxLen at m4;obtain⟨e0,e1,m8⟩:=Zh3 j5 j6 k5;rw [j6];clear l9 j5 j6 k5;have i5:=X0 l g;rw [e7.out] at i5;have r7:=Zh i5;clear i5;rw [e7.out];go_enter Tryz.func228,Tryz.ntmps228;go_wp2;have l2:Ext w (w.alloc (.cells #[.string q0,.int .i64 p3,.int .u32 (q3:Int),.int .u32 (p5:Int),.bool p8,.int .i64 n4,.int .i64 n6,.slice q1 n0 n8,.int .i64 p4,.int .u32 (q4:Int),.int .u32 (p6:Int),.bool p9,.int .i64 n5,.int .i64 n7,.slice q2 n1 n9,.slice p2 n2 p1,.slice m6 a9 m5,.int .i64 p7] 102)):=(Q1.refl _ w).alloc _
 refine wp_loop (fun a W=>∃(d:Nat) (k9:Option Addr) (k8:Nat),d<=a9/\a.defers=[]/\gS a [1,5,10,11,12]=(54,[.slice q8 j9 q7,.slice k9 d k8,.slice m6 a9 m5,.int .i64 a9,.int .i64 d])/\W.ownsRow w.heap.size 95 2 (.slice k9 d k8) d (Qw (Nr l g d))/\Ext w W)
  (fun a _=>a9 - (intOf (a.tmps.getD 12 undef)).toNat) ?_ ?_
 ·exact⟨0,none,0,by omega,rfl,rfl,World.ownsRow_nil _ _ _ _,l2⟩
 clear l2;rintro⟨t2,_⟩ k ⟨d,k9,k8,s5,o3,m3,M,H⟩;subst o3;obtain⟨u,rfl⟩:=Y6 m3;clear m3;by_cases o5:d<a9;case neg=>
  obtain rfl:d=a9:=by omega
  have c7:¬ ((d:Int)<(d:Int)):=by omega
  rw [Q3h l g e7.out] at M;have m7:=Zh M;clear M;go_wp2;go_ret;exact⟨_,rfl,m7.out,H⟩
 have c7:(d:Int)<(a9:Int):=by omega
 have f9:d<l.outs.length:=by rw [e7.out];exact o5
 obtain⟨s0,s6,r9,R,s4,e5,i7,i8,e9,f0,i9,j0⟩:=(m9.out.ext H).at f9;simp only [zV] at R;obtain⟨rfl,d7,rfl⟩:=R;clear d7;obtain⟨x,k7⟩:=zE (l.outs[d]);have i6:Hid (l.outs[d]?=some x):=Zh (by rw [List.getElem?_eq_getElem f9,k7]);have f8:=Q33 (m8.out _ (List.getElem_mem f9));rw [k7] at i7 i8 e9 f0 i9 j0 e5 f8;have d2:Vt g x=if x.tk=0 then(U4 (if 0<=x.frm then g.getD x.frm.toNat (0,0) else(0,0)) x.cl x.st).1 else(Kh (U4 (if 0<=x.frm then g.getD x.frm.toNat (0,0) else(0,0)) x.cl x.st).1 (g.getD x.ofi.toNat (0,0)) x.tk).1:=rfl
 have i3:=Zh f9;clear k7 f9;obtain⟨j1,l5⟩:=zE x.frm;obtain⟨V,l4⟩:=zE x.cl;obtain⟨⟨b5,b6⟩,m2⟩:=zE x.st;obtain⟨z,X⟩:=zE x.tk;obtain⟨j7,m1⟩:=zE x.ofi;unfold Uf at e5;rw [l5] at i7 f8 d2;rw [l4] at i8 e5 d2;rw [m2] at e9 f0 e5 d2;rw [X] at i9 e5 f8 d2;rw [m1] at j0 f8 d2;dsimp only at e9 f0;clear l5 l4 m2 X m1;have i4:=Zh d2;obtain⟨l7,j4,l8⟩:=e5;obtain⟨s2,m0⟩:=f8;have l0:=Zh m0;clear d2 m0;obtain⟨b0,f6⟩:=zE ((k.alloc (.cells #[.int .i64 j1,.int .u32 (V:Int),.int .u32 (b5:Int),.int .u32 (b6:Int),.int .u32 (z:Int),.int .i64 j7] 109)).alloc (.cells #[.int .u32 0,.int .u32 0] 95));have f5:Ext k b0:=by rw [<-f6];exact((Q1.refl _ k).alloc _).alloc _
 have b3:b0.heap[k.heap.size]?=some (.cells #[.int .i64 j1,.int .u32 (V:Int),.int .u32 (b5:Int),.int .u32 (b6:Int),.int .u32 (z:Int),.int .i64 j7] 109 (0,0)):=by rw [<-f6];exact Q6 (Q3 rfl)
 have b1:b0.heap[k.heap.size+1]?=some (.cells #[.int .u32 0,.int .u32 0] 95 (0,0)):=by rw [<-f6];exact Q3 zy
 by_cases j3:0<=j1;case pos=>
  obtain⟨i,rfl⟩:=Int.eq_ofNat_of_zero_le j3;have l6:i<j9:=by omega
  obtain⟨j2,j8,r8,R,s3,D,E⟩:=(e0.out.ext H).at (i:=i) (by rw [e1.out];exact l6);simp only [zV] at R;obtain⟨rfl,d7,rfl⟩:=R;clear d7;obtain⟨⟨q,r⟩,k6⟩:=zE (g.getD i (0,0));have e4:=e0.out.2.get i (by rw [e1.out];exact l6);rw [k6] at D E e4;dsimp only at D E;have A:Hid (Vt g x=if z=0 then(U4 (q,r) V (b5,b6)).1 else(Kh (U4 (q,r) V (b5,b6)).1 (g.getD j7.toNat (0,0)) z).1):=Zh (by rw [i4.out,if_pos j3];simp only [Int.toNat_natCast,k6]);clear k6 i4;go_upto_region 6 with (fail)
  obtain⟨Z,a2⟩:=zE k.heap.size;obtain⟨S,a1⟩:=zE (k.heap.size+1);have e2:=Zh a2;have F:=Zh a1;rw [a2] at b3;rw [a1] at b1;rw [a1,a2];clear a2 a1 f6 i7 i8 e9 f0 i9 j0;have G:=fun d=>cell_of_row _ _ d _ _ _ b3;have o0:=f5.cell_some D id;have o1:=f5.cell_some E id;have l1:=Zh b3;have k1:=Zh b1;clear b3 b1 D E;go_upto_region 8 with (refine wpList_store_row rfl 95 (.tmp 8) (.tmp 23) rfl S #[.int .u32 (q:Int),.int .u32 (r:Int)] rfl rfl _ _ k1.out kz rfl kz ?_)
  have k3:=Q1.setRow b0 S #[.int .u32 (q:Int),.int .u32 (r:Int)];have b2:=setRow_heap _ _ _ #[.int .u32 (q:Int),.int .u32 (r:Int)] _ _ k1.out;have b4:=k3.heap l1.out (by have:=e2.out;have:=F.out;omega);have e3:Ext k (b0.setRow S #[.int .u32 (q:Int),.int .u32 (r:Int)]):=Q1.after f5 k3 (fun b hb e=>by have:=F.out;omega);obtain⟨n3,l3⟩:=zE (b0.setRow S #[.int .u32 (q:Int),.int .u32 (r:Int)]);rw [l3] at b2 b4 e3 ⊢;clear l3 k3 G o0 o1 l1 k1;have g0:Y3 (q,r):=e4;have a3:=fun(c:World)=>Lg g0 j4 l7 c;have d6:=Ms (m:=V) g0 j4;obtain⟨⟨⟨s,t⟩,q6⟩,g6⟩:=zE (U4 (q,r) V (b5,b6));rw [g6] at a3 A d6;dsimp only at a3 A d6;have e6:=Zh a3;clear a3 g6;have G:=fun d=>cell_of_row _ _ d _ _ _ b4;have B:=fun d=>cell_of_row _ _ d _ _ _ b2;go_wp2_with fail;refine(e6.out _).mono ?_;rintro e c1 ⟨rfl,C⟩;have f4:=e3.trans C;have g9:=C.keep b4;have g3:=C.keep b2;have c0:=Zh g3;clear G B b4 b2 e3 C e6;go_upto_region 9 with (refine wpList_store_row rfl 95 (.tmp 8) (.tmp 31) rfl S #[.int .u32 (s:Int),.int .u32 (t:Int)] rfl rfl _ _ c0.out kz rfl kz ?_)
  have c9:=Q1.setRow c1 S #[.int .u32 (s:Int),.int .u32 (t:Int)];have a4:=setRow_heap _ _ _ #[.int .u32 (s:Int),.int .u32 (t:Int)] _ _ c0.out;have U:=c9.heap g9 (by have:=e2.out;have:=F.out;omega);have I:Ext k (c1.setRow S #[.int .u32 (s:Int),.int .u32 (t:Int)]):=Q1.after f4 c9 (fun b hb e=>by have:=F.out;omega);obtain⟨J,g7⟩:=zE (c1.setRow S #[.int .u32 (s:Int),.int .u32 (t:Int)]);rw [g7] at a4 U I ⊢;clear g7 c9 g9 g3 c0 f4;have G:=fun d=>cell_of_row _ _ d _ _ _ U;by_cases X:z=0;case pos=>
   subst X;go_upto_region 11 with (fail)
   clear G U;have Q:Vt g x=(s,t):=by rw [A.out];simp
   have b8:=Zh Q;clear Q;have O:=Qf M I;have d1:w.heap.size<=J.heap.size:=Nat.le_trans H.size I.size;have B:=fun d=>cell_of_row _ _ d _ _ _ a4
   go_wp2_with (at_builtin;refine Zz rfl (.tmp 48) (.tmp 50) 99 rfl w.heap.size 95 _ 2 8 Tryz.underlying99 @Ub rfl zd _ _ _ rfl (Qf O ((Q1.refl _ _).alloc _)) ⟨J.heap.size,0,none⟩ 1 1 [.int .u32 (s:Int),.int .u32 (t:Int)] rfl rfl (Y5 rfl) (Ww _ _) ?c3 ?c4 ?c5 ?_)
   case c3=>unfold maxLen;omega
   case c4=>omega
   case c5=>first | omega | (simp;omega) | exact Nat.le_trans d1 (Q1.alloc (Q1.refl (fun _=>False) _) _).size
   intro c2 c6 d8 N P c8;have L:Ext w d8:=Q1.after (H.trans (Q1.trans I ((Q1.refl _ _).alloc _))) P (fun b hb e=>by have:=(M.lt _ e).1;omega);have b9:=Zh N;have b7:=Zh L;clear N L P c8 B O;go_wp2;exact⟨⟨d+1,c2,c6,by omega,tz,rfl,by rw [Hs i3.out i6.out,b8.out,Ur];exact b9.out,b7.out⟩,nz⟩
  obtain⟨k4,o6⟩:=l0.out X;have o8:((z:Int) != 0)=true:=by rw [bne_iff_ne];omega
  obtain⟨f,rfl⟩:=Int.eq_ofNat_of_zero_le k4;have g1:f<j9:=by omega
  obtain⟨f1,i0,o2,R,o4,D,E⟩:=(e0.out.ext H).at (i:=f) (by rw [e1.out];exact g1);simp only [zV,Option.some.injEq,Addr.mk.injEq] at R;obtain⟨⟨rfl,rfl,_⟩,d7,rfl⟩:=R;clear d7;obtain⟨⟨a6,a7⟩,d4⟩:=zE (g.getD f (0,0));have d3:=e0.out.2.get f (by rw [e1.out];exact g1);rw [d4] at D E d3;have g2:Y3 (a6,a7):=d3;dsimp only at D E;have a5:=fun(c:World)=>Pd d6 g2 l8 c;obtain⟨⟨⟨o,p⟩,q5⟩,d5⟩:=zE (Kh (s,t) (a6,a7) z);rw [d5] at a5;dsimp only at a5;have k2:=Zh a5;have k0:Hid (Vt g x=(o,p)):=Zh (by rw [A.out,if_neg X,show ((f:Int)).toNat=f from rfl,d4,d5]);clear a5 d5 d4 d3 g2;have f7:∀(c:World),Q1 (·=S) J c->c.cell? ⟨Z,4,none⟩=some (.int .u32 (z:Int))/\c.cell? ⟨Z,5,none⟩=some (.int .i64 f)/\c.cell? ⟨j2,j8+f*2,none⟩=some (.int .u32 (a6:Int))/\c.cell? ⟨j2,j8+f*2+1,none⟩=some (.int .u32 (a7:Int)):=by
   intro c f3;have f2:=f3.heap U (by have:=e2.out;have:=F.out;omega);have c7:Ext k c:=Q1.after I f3 (fun b hb e=>by have:=F.out;omega);exact⟨cell_of_row _ _ 4 _ _ _ f2,cell_of_row _ _ 5 _ _ _ f2,c7.cell_some D id,c7.cell_some E id⟩
  have Y:=Zh f7;have e8:=Zh a4;clear f7;go_upto_region 10 with (fail)
  clear G U a4 D E;refine wp_region_held_drew (S:=fun c=>c.cell? ⟨Z,4,none⟩=some (.int .u32 (z:Int))/\c.cell? ⟨Z,5,none⟩=some (.int .i64 f)/\c.cell? ⟨j2,j8+f*2,none⟩=some (.int .u32 (a6:Int))/\c.cell? ⟨j2,j8+f*2+1,none⟩=some (.int .u32 (a7:Int))) kz (Y.out _ (Q1.drew (Q1.refl _ J))) ?_;intro j;refine tH 1 38 j ?_;refine tH 2 39 j ?_;refine tH 3 40 j ?_;refine tH 4 41 j ?_;refine tH 5 42 j ?_;refine tH 6 43 j ?_;refine tH 7 44 j ?_;refine rH [0] ?_;refine AllReadyH.cons rfl (fun K hK=>?_) AllReadyH.nil;refine iw rfl ?_;have B:=fun d=>cell_of_row _ _ d _ _ _ e8.out;go_simp;refine hK.out _ _ j (fun _=>?_);clear hK K B;try simp only [Act.put,pq]
  refine rH [8] ?_;refine AllReadyH.cons rfl (fun K hK=>?_) AllReadyH.nil;refine iw rfl ?_;go_simp;refine(k2.out _).mono ?_;rintro e a8 ⟨rfl,C⟩;have T:Ext J a8:=Q1.trans (Q1.drew (Q1.refl _ J)) C;have d9:=T.keep e8.out;refine hK.out _ _ (Y.out _ (Ext.of T)) (fun hS1=>?_);clear hK K C;refine tH 9 36 hS1 ?_;refine tH 10 46 hS1 ?_;refine tH 11 47 hS1 ?_;refine rH [12] ?_;refine AllReadyH.cons rfl (fun K hK=>?_) AllReadyH.nil;refine iw rfl ?_;refine wp_store_row 95 (.tmp 8) (.tmp 46) rfl S #[.int .u32 (o:Int),.int .u32 (p:Int)] rfl rfl _ _ d9 kz rfl kz ?_;have d0:=Q1.setRow a8 S #[.int .u32 (o:Int),.int .u32 (p:Int)];have i2:=setRow_heap _ _ _ #[.int .u32 (o:Int),.int .u32 (p:Int)] _ _ d9;refine hK.out _ _ (Y.out _ ((Ext.of T).trans d0)) (fun hS3=>?_);clear hK K;change wpAnyH _ _ _ _ _ _ _ (Act.put _ none _) _;simp only [Act.put];refine wpAnyH_done kz ?_ _;have a0:Ext k (a8.setRow S #[.int .u32 (o:Int),.int .u32 (p:Int)]):=Q1.after (Q1.trans I T) d0 (fun b hb e=>by have:=F.out;omega);obtain⟨i1,g8⟩:=zE (a8.setRow S #[.int .u32 (o:Int),.int .u32 (p:Int)]);rw [g8] at i2 a0 ⊢;clear g8 d0 j hS1 hS3 Y d9 T A;have A:=k0;go_upto_region 11 with (fail)
  have Q:Vt g x=(o,p):=by rw [A.out];skip
  have b8:=Zh Q;clear Q;have O:=Qf M a0;have d1:w.heap.size<=i1.heap.size:=Nat.le_trans H.size a0.size;have B:=fun d=>cell_of_row _ _ d _ _ _ i2
  go_wp2_with (at_builtin;refine Zz rfl (.tmp 48) (.tmp 50) 99 rfl w.heap.size 95 _ 2 8 Tryz.underlying99 @Ub rfl zd _ _ _ rfl (Qf O ((Q1.refl _ _).alloc _)) ⟨i1.heap.size,0,none⟩ 1 1 [.int .u32 (o:Int),.int .u32 (p:Int)] rfl rfl (Y5 rfl) (Ww _ _) ?c3 ?c4 ?c5 ?_)
  case c3=>unfold maxLen;omega
  case c4=>omega
  case c5=>first | omega | (simp;omega) | exact Nat.le_trans d1 (Q1.alloc (Q1.refl (fun _=>False) _) _).size
  intro c2 c6 d8 N P c8;have L:Ext w d8:=Q1.after (H.trans (Q1.trans a0 ((Q1.refl _ _).alloc _))) P (fun b hb e=>by have:=(M.lt _ e).1;omega);have b9:=Zh N;have b7:=Zh L;clear N L P c8 B O;go_wp2;exact⟨⟨d+1,c2,c6,by omega,tz,rfl,by rw [Hs i3.out i6.out,b8.out,Ur];exact b9.out,b7.out⟩,nz⟩
 case neg=>
  have s1:¬ (0:Int)<=j1:=j3;have e4:(0:Nat)<4294967296/\(0:Nat)<4294967296:=⟨by decide,by decide⟩;obtain⟨q,g4⟩:∃ y:Nat,y=0:=⟨_,rfl⟩;obtain⟨r,g5⟩:∃ y:Nat,y=0:=⟨_,rfl⟩;have o9:(.int .u32 0:Value)=.int .u32 (q:Int):=by rw [g4];rfl
  have p0:(.int .u32 0:Value)=.int .u32 (r:Int):=by rw [g5];rfl
  have e4:q<4294967296/\r<4294967296:=by rw [g4,g5];exact e4
  have A:Hid (Vt g x=if z=0 then(U4 (q,r) V (b5,b6)).1 else(Kh (U4 (q,r) V (b5,b6)).1 (g.getD j7.toNat (0,0)) z).1):=Zh (by rw [i4.out,if_neg j3,g4,g5]);have b1:b0.heap[k.heap.size+1]?=some (.cells #[.int .u32 (q:Int),.int .u32 (r:Int)] 95 (0,0)):=by rw [g4,g5];exact b1
  clear i4 o9 p0 g4 g5;go_upto_region 6 with (fail)
  obtain⟨Z,a2⟩:=zE k.heap.size;obtain⟨S,a1⟩:=zE (k.heap.size+1);have e2:=Zh a2;have F:=Zh a1;rw [a2] at b3;rw [a1] at b1;rw [a1,a2];clear a2 a1 f6 i7 i8 e9 f0 i9 j0;have G:=fun d=>cell_of_row _ _ d _ _ _ b3;go_upto_region 8 with (fail)
  clear G;obtain⟨n3,rfl⟩:∃ c,c=b0:=⟨_,rfl⟩;have b2:=b1;have b4:=b3;have e3:=f5;clear b1 b3 f5;have g0:Y3 (q,r):=e4;have a3:=fun(c:World)=>Lg g0 j4 l7 c;have d6:=Ms (m:=V) g0 j4;obtain⟨⟨⟨s,t⟩,q6⟩,g6⟩:=zE (U4 (q,r) V (b5,b6));rw [g6] at a3 A d6;dsimp only at a3 A d6;have e6:=Zh a3;clear a3 g6;have G:=fun d=>cell_of_row _ _ d _ _ _ b4;have B:=fun d=>cell_of_row _ _ d _ _ _ b2;go_wp2_with fail;refine(e6.out _).mono ?_;rintro e c1 ⟨rfl,C⟩;have f4:=e3.trans C;have g9:=C.keep b4;have g3:=C.keep b2;have c0:=Zh g3;clear G B b4 b2 e3 C e6;go_upto_region 9 with (refine wpList_store_row rfl 95 (.tmp 8) (.tmp 31) rfl S #[.int .u32 (s:Int),.int .u32 (t:Int)] rfl rfl _ _ c0.out kz rfl kz ?_)
  have c9:=Q1.setRow c1 S #[.int .u32 (s:Int),.int .u32 (t:Int)];have a4:=setRow_heap _ _ _ #[.int .u32 (s:Int),.int .u32 (t:Int)] _ _ c0.out;have U:=c9.heap g9 (by have:=e2.out;have:=F.out;omega);have I:Ext k (c1.setRow S #[.int .u32 (s:Int),.int .u32 (t:Int)]):=Q1.after f4 c9 (fun b hb e=>by have:=F.out;omega);obtain⟨J,g7⟩:=zE (c1.setRow S #[.int .u32 (s:Int),.int .u32 (t:Int)]);rw [g7] at a4 U I ⊢;clear g7 c9 g9 g3 c0 f4;have G:=fun d=>cell_of_row _ _ d _ _ _ U;by_cases X:z=0;case pos=>
   subst X;go_upto_region 11 with (fail)
   clear G U;have Q:Vt g x=(s,t):=by rw [A.out];simp
   have b8:=Zh Q;clear Q;have O:=Qf M I;have d1:w.heap.size<=J.heap.size:=Nat.le_trans H.size I.size;have B:=fun d=>cell_of_row _ _ d _ _ _ a4
   go_wp2_with (at_builtin;refine Zz rfl (.tmp 48) (.tmp 50) 99 rfl w.heap.size 95 _ 2 8 Tryz.underlying99 @Ub rfl zd _ _ _ rfl (Qf O ((Q1.refl _ _).alloc _)) ⟨J.heap.size,0,none⟩ 1 1 [.int .u32 (s:Int),.int .u32 (t:Int)] rfl rfl (Y5 rfl) (Ww _ _) ?c3 ?c4 ?c5 ?_)
   case c3=>unfold maxLen;omega
   case c4=>omega
   case c5=>first | omega | (simp;omega) | exact Nat.le_trans d1 (Q1.alloc (Q1.refl (fun _=>False) _) _).size
   intro c2 c6 d8 N P c8;have L:Ext w d8:=Q1.after (H.trans (Q1.trans I ((Q1.refl _ _).alloc _))) P (fun b hb e=>by have:=(M.lt _ e).1;omega);have b9:=Zh N;have b7:=Zh L;clear N L P c8 B O;go_wp2;exact⟨⟨d+1,c2,c6,by omega,tz,rfl,by rw [Hs i3.out i6.out,b8.out,Ur];exact b9.out,b7.out⟩,nz⟩
  obtain⟨k4,o6⟩:=l0.out X;have o8:((z:Int) != 0)=true:=by rw [bne_iff_ne];omega
  obtain⟨f,rfl⟩:=Int.eq_ofNat_of_zero_le k4;have g1:f<j9:=by omega
  obtain⟨f1,i0,o2,R,o4,D,E⟩:=(e0.out.ext H).at (i:=f) (by rw [e1.out];exact g1);simp only [zV] at R;obtain⟨rfl,d7,rfl⟩:=R;clear d7;obtain⟨⟨a6,a7⟩,d4⟩:=zE (g.getD f (0,0));have d3:=e0.out.2.get f (by rw [e1.out];exact g1);rw [d4] at D E d3;have g2:Y3 (a6,a7):=d3;dsimp only at D E;have a5:=fun(c:World)=>Pd d6 g2 l8 c;obtain⟨⟨⟨o,p⟩,q5⟩,d5⟩:=zE (Kh (s,t) (a6,a7) z);rw [d5] at a5;dsimp only at a5;have k2:=Zh a5;have k0:Hid (Vt g x=(o,p)):=Zh (by rw [A.out,if_neg X,show ((f:Int)).toNat=f from rfl,d4,d5]);clear a5 d5 d4 d3 g2;have f7:∀(c:World),Q1 (·=S) J c->c.cell? ⟨Z,4,none⟩=some (.int .u32 (z:Int))/\c.cell? ⟨Z,5,none⟩=some (.int .i64 f)/\c.cell? ⟨f1,i0+f*2,none⟩=some (.int .u32 (a6:Int))/\c.cell? ⟨f1,i0+f*2+1,none⟩=some (.int .u32 (a7:Int)):=by
   intro c f3;have f2:=f3.heap U (by have:=e2.out;have:=F.out;omega);have c7:Ext k c:=Q1.after I f3 (fun b hb e=>by have:=F.out;omega);exact⟨cell_of_row _ _ 4 _ _ _ f2,cell_of_row _ _ 5 _ _ _ f2,c7.cell_some D id,c7.cell_some E id⟩
  have Y:=Zh f7;have e8:=Zh a4;clear f7;go_upto_region 10 with (fail)
  clear G U a4 D E;refine wp_region_held_drew (S:=fun c=>c.cell? ⟨Z,4,none⟩=some (.int .u32 (z:Int))/\c.cell? ⟨Z,5,none⟩=some (.int .i64 f)/\c.cell? ⟨f1,i0+f*2,none⟩=some (.int .u32 (a6:Int))/\c.cell? ⟨f1,i0+f*2+1,none⟩=some (.int .u32 (a7:Int))) kz (Y.out _ (Q1.drew (Q1.refl _ J))) ?_;intro j;refine tH 1 38 j ?_;refine tH 2 39 j ?_;refine tH 3 40 j ?_;refine tH 4 41 j ?_;refine tH 5 42 j ?_;refine tH 6 43 j ?_;refine tH 7 44 j ?_;refine rH [0] ?_;refine AllReadyH.cons rfl (fun K hK=>?_) AllReadyH.nil;refine iw rfl ?_;have B:=fun d=>cell_of_row _ _ d _ _ _ e8.out;go_simp;refine hK.out _ _ j (fun _=>?_);clear hK K B;try simp only [Act.put,pq]
  refine rH [8] ?_;refine AllReadyH.cons rfl (fun K hK=>?_) AllReadyH.nil;refine iw rfl ?_;go_simp;refine(k2.out _).mono ?_;rintro e a8 ⟨rfl,C⟩;have T:Ext J a8:=Q1.trans (Q1.drew (Q1.refl _ J)) C;have d9:=T.keep e8.out;refine hK.out _ _ (Y.out _ (Ext.of T)) (fun hS1=>?_);clear hK K C;refine tH 9 36 hS1 ?_;refine tH 10 46 hS1 ?_;refine tH 11 47 hS1 ?_;refine rH [12] ?_;refine AllReadyH.cons rfl (fun K hK=>?_) AllReadyH.nil;refine iw rfl ?_;refine wp_store_row 95 (.tmp 8) (.tmp 46) rfl S #[.int .u32 (o:Int),.int .u32 (p:Int)] rfl rfl _ _ d9 kz rfl kz ?_;have d0:=Q1.setRow a8 S #[.int .u32 (o:Int),.int .u32 (p:Int)];have i2:=setRow_heap _ _ _ #[.int .u32 (o:Int),.int .u32 (p:Int)] _ _ d9;refine hK.out _ _ (Y.out _ ((Ext.of T).trans d0)) (fun hS3=>?_);clear hK K;change wpAnyH _ _ _ _ _ _ _ (Act.put _ none _) _;simp only [Act.put];refine wpAnyH_done kz ?_ _;have a0:Ext k (a8.setRow S #[.int .u32 (o:Int),.int .u32 (p:Int)]):=Q1.after (Q1.trans I T) d0 (fun b hb e=>by have:=F.out;omega);obtain⟨i1,g8⟩:=zE (a8.setRow S #[.int .u32 (o:Int),.int .u32 (p:Int)]);rw [g8] at i2 a0 ⊢;clear g8 d0 j hS1 hS3 Y d9 T A;have A:=k0;go_upto_region 11 with (fail)
  have Q:Vt g x=(o,p):=by rw [A.out];skip
  have b8:=Zh Q;clear Q;have O:=Qf M a0;have d1:w.heap.size<=i1.heap.size:=Nat.le_trans H.size a0.size;have B:=fun d=>cell_of_row _ _ d _ _ _ i2
  go_wp2_with (at_builtin;refine Zz rfl (.tmp 48) (.tmp 50) 99 rfl w.heap.size 95 _ 2 8 Tryz.underlying99 @Ub rfl zd _ _ _ rfl (Qf O ((Q1.refl _ _).alloc _)) ⟨i1.heap.size,0,none⟩ 1 1 [.int .u32 (o:Int),.int .u32 (p:Int)] rfl rfl (Y5 rfl) (Ww _ _) ?c3 ?c4 ?c5 ?_)
  case c3=>unfold maxLen;omega
  case c4=>omega
  case c5=>first | omega | (simp;omega) | exact Nat.le_trans d1 (Q1.alloc (Q1.refl (fun _=>False) _) _).size
  intro c2 c6 d8 N P c8;have L:Ext w d8:=Q1.after (H.trans (Q1.trans a0 ((Q1.refl _ _).alloc _))) P (fun b hb e=>by have:=(M.lt _ e).1;omega);have b9:=Zh N;have b7:=Zh L;clear N L P c8 B O;go_wp2;exact⟨⟨d+1,c2,c6,by omega,tz,rfl,by rw [Hs i3.out i6.out,b8.out,Ur];exact b9.out,b7.out⟩,nz⟩
theorem Kb(D:World):(sizeOf (Tryz.prog.elem 99)).run Tryz.prog D=.ok 2 D:=by
 have a:Tryz.prog.elem 99=95:=by kernel_rfl
 obtain⟨d,c,_,b,_⟩:=info_parts (@Ub);rw [a];simp [sizeOf,typeInfo,c,b]
theorem V9:Tryz.prog.underlying 99=some (.slice (Tryz.prog.elem 99)):=by kernel_rfl
theorem Sp{w:World}{a b c:Value}{t:TypeId}:Rd (w.alloc (.cells #[a,b,c] t)) (.slice (some ⟨w.heap.size,0,none⟩) 3 3) 3 1 [a,b,c]:=by
 refine⟨rfl,by simp [maxLen],_,_,rfl,fun _=>⟨_,_,rfl,by simp,fun j hj=>?_⟩⟩;rw [Nat.zero_add,World.cell?_alloc_new]
 match j,hj with
 | 0,_=>rfl
 | 1,_=>rfl
 | 2,_=>rfl
theorem Lk{w:World}{cs:List Value}{l:Q7}{vo:Option Addr}{vn vc:Nat}{ws:Wd}(d1:Z2 w l cs)(b0:Q8 w (.slice vo vn vc) ws) (e6:ws.length=vn) (b9:vn<=vc) (i:Nat) (c0:i+l.ifs.length<=vn)
  (c1:∀ x∈l.outs,Xp l.ifs.length x=true) (e8:l.outs.length<=100) (g2:vn<=800) :
  Calls Tryz.prog 230 #[.agg cs.toArray,.slice vo vn vc,.int .i64 i] w fun e w'=>∃ u,e=.returned u/\w'.ownsRow w.heap.size 95 2 u (Yh l ws i).length (Qw (Yh l ws i))/\Ext w w':=by
 subst e6;obtain⟨T,L,Y,N,Q,s,v,U,q,C,M,Z,O,R,t,B,V,r,E,J,d,I,X,g,W,P,rfl,e0,f7,f8,f2,e1,f6,f4,f5,c6,a2,f3,g3,g4,g5,g6,g7⟩:=Yr d1;rw [c6.out] at c0 c1;rw [a2.out] at e8;have o:Q8 w _ _:=Q8.cut b0 (a:=0) (b:=i) oz oz b9;have H:Q8 w _ _:=Q8.cut b0 (a:=i) (b:=i+d) oz c0 b9;have b1:Q8 w _ _:=Q8.cut b0 (a:=i+d) (b:=ws.length) c0 oz b9;rw [take_zero] at o;rw [show i+d - i=d by omega] at H;rw [T9 rfl] at b1;have e9:=fun D=>No (A:=vo) (n:=ws.length) (c:=vc) V9 Kb i oz D;have d7:=fun D=>Tb (A:=vo) (n:=ws.length) (c:=vc) V9 Kb i (i+d) oz oz D;have d8:=fun D=>Nn (A:=vo) (n:=ws.length) (c:=vc) V9 Kb (i+d) oz D;simp only [Int.natCast_add] at d7 d8;obtain⟨b2,b4,a4,d4⟩:∃ y z e,sliced vo 0 i vc 2=.slice y z e:=⟨_,_,_,rfl⟩;obtain⟨g9,i0,f9,d5⟩:∃ y z e,sliced vo i (i+d) vc 2=.slice y z e:=⟨_,_,_,rfl⟩;obtain⟨b3,b5,a5,d6⟩:∃ y z e,sliced vo (i+d) ws.length vc 2=.slice y z e:=⟨_,_,_,rfl⟩;rw [d4] at o e9;rw [d5] at H d7;rw [d6] at b1 d8;clear d4 d5 d6;have d2:((ws.drop i).take d).length=d:=by rw [List.length_take,List.length_drop];omega
 have a7:Ext w (w.alloc (.cells #[.string T,.int .i64 L,.int .u32 (Y:Int),.int .u32 (N:Int),.bool Q,.int .i64 s,.int .i64 v,.slice U q C,.int .i64 M,.int .u32 (Z:Int),.int .u32 (O:Int),.bool R,.int .i64 t,.int .i64 B,.slice V r E,.slice J d I,.slice X g W,.int .i64 P] 102)):=(Q1.refl _ w).alloc _;have a8:(w.alloc (.cells #[.string T,.int .i64 L,.int .u32 (Y:Int),.int .u32 (N:Int),.bool Q,.int .i64 s,.int .i64 v,.slice U q C,.int .i64 M,.int .u32 (Z:Int),.int .u32 (O:Int),.bool R,.int .i64 t,.int .i64 B,.slice V r E,.slice J d I,.slice X g W,.int .i64 P] 102)).heap[w.heap.size]?=some (.cells #[.string T,.int .i64 L,.int .u32 (Y:Int),.int .u32 (N:Int),.bool Q,.int .i64 s,.int .i64 v,.slice U q C,.int .i64 M,.int .u32 (Z:Int),.int .u32 (O:Int),.bool R,.int .i64 t,.int .i64 B,.slice V r E,.slice J d I,.slice X g W,.int .i64 P] 102 (0,0)):=Q3 rfl;have c4:=fun(D:World) (hE:Ext w D)=>Bs (e0.out.ext hE) (H.ext hE) (by rw [d2];exact c1) (by rw [a2.out];omega);have a3:Hid (Yh l ws i=ws.take i++X9 l ((ws.drop i).take d)++ws.drop (i+d)):=Zh (by unfold Yh Gm;rw [c6.out]);have G:=X0 l ((ws.drop i).take d);rw [a2.out] at G;have c3:Zt (X9 l ((ws.drop i).take d)):=L8 H.2 e1.out.2;obtain⟨p,c9⟩:=zE (X9 l ((ws.drop i).take d));rw [c9] at c4 a3 G c3;obtain⟨F,c8⟩:=zE (Yh l ws i);rw [c8] at a3 ⊢
 have c5:Hid (∀(m:Option Addr) (k:Nat) (f:World),f.ownsRow (w.heap.size+1) 95 2 (.slice m g k) g (Qw p)->Ext w f->Calls Tryz.prog 227 #[.slice (some ⟨f.heap.size,0,none⟩) 3 3] (f.alloc (.cells #[.slice b2 b4 a4,.slice m g k,.slice b3 b5 a5] 99)) fun e w'=>∃ u,e=.returned u/\w'.ownsRow (f.heap.size+1) 95 2 u F.length (Qw F)/\Ext (f.alloc (.cells #[.slice b2 b4 a4,.slice m g k,.slice b3 b5 a5] 99)) w'):=Zh fun m k f a9 hE5=>by
  have b6:Ext f (f.alloc (.cells #[.slice b2 b4 a4,.slice m g k,.slice b3 b5 a5] 99)):=(Q1.refl _ f).alloc _;have e7:=Rd.of_own (Qf a9 b6)
  have d0:=Mq (w:=f.alloc (.cells #[.slice b2 b4 a4,.slice m g k,.slice b3 b5 a5] 99)) (us:=[ws.take i,p,ws.drop (i+d)]) (F:=F) (by rw [a3.out];simp) (Sp (w:=f))
   (fun j hj=>by
    match j,hj with
    | 0,_=>exact(o.ext hE5).ext b6
    | 1,_=>
     show Q8 _ (.slice m g k) p;exact⟨by rw [G];exact e7,c3⟩
    | 2,_=>exact(b1.ext hE5).ext b6) (by rw [a3.out];simp [G];omega)
  rw [World.size_alloc] at d0;exact d0
 have c7:=Zh c4;clear d1 b0 o H b1 c1 c4 d2 G c3 c9 c8;go_enter Tryz.func230,Tryz.ntmps230;go_upto_region 2 with (fail)
 obtain⟨a0,o⟩:=zE (w.alloc (.cells #[.string T,.int .i64 L,.int .u32 (Y:Int),.int .u32 (N:Int),.bool Q,.int .i64 s,.int .i64 v,.slice U q C,.int .i64 M,.int .u32 (Z:Int),.int .u32 (O:Int),.bool R,.int .i64 t,.int .i64 B,.slice V r E,.slice J d I,.slice X g W,.int .i64 P] 102));rw [o] at a7 a8 ⊢;obtain⟨a1,a6⟩:=zE w.heap.size;rw [a6] at a8 c5 ⊢;have d3:a0.drew.heap.size=a1+1:=by show a0.heap.size=a1+1;rw [<-o,<-a6];simp
 have d9:Hid (a0.drew.heap[a1]?=some (.cells #[.string T,.int .i64 L,.int .u32 (Y:Int),.int .u32 (N:Int),.bool Q,.int .i64 s,.int .i64 v,.slice U q C,.int .i64 M,.int .u32 (Z:Int),.int .u32 (O:Int),.bool R,.int .i64 t,.int .i64 B,.slice V r E,.slice J d I,.slice X g W,.int .i64 P] 102 (0,0))):=Zh a8;have c2:=c7.out a0.drew (Q1.drew a7);rw [d3,a2.out] at c2;have b7:Ext w a0.drew:=Q1.drew a7;clear d3 a7;have e2:=Zh c2;have f1:=Zh a6;clear c2 a8 o a6 c7;refine wp_region_held_drew (S:=fun _=>True) kz trivial ?_;intro g1;refine tH 0 13 trivial ?_;refine tH 1 14 trivial ?_;refine tH 2 15 trivial ?_;refine tH 4 17 trivial ?_;refine tH 5 18 trivial ?_;refine tH 6 19 trivial ?_;refine tH 7 20 trivial ?_;refine tH 9 22 trivial ?_;refine tH 10 23 trivial ?_;refine tH 11 24 trivial ?_;refine rH [3] ?_;refine AllReadyH.cons rfl (fun K hK=>?_) AllReadyH.nil;refine iw rfl ?_;refine wp_load_row 102 (.tmp 3) rfl a1 rfl _ _ _ _ d9.out Tryz.underlying102 rfl Tryz.lawInfo ?_;refine hK.out _ _ trivial (fun _=>?_);clear hK K;try simp only [Act.put,List.setIfInBounds_toArray]
 refine rH [8] ?_;refine AllReadyH.cons rfl (fun K hK=>?_) AllReadyH.nil;refine iw rfl ?_;go_simp;refine e2.out.mono ?_;rintro e f ⟨u,rfl,a9,b8⟩;refine hK.out _ _ trivial (fun _=>?_);clear hK K;obtain⟨m,k,rfl⟩:=Zj a9;try simp only [Act.put,pq]
 refine rH [12] ?_;refine AllReadyH.cons rfl (fun K hK=>?_) AllReadyH.nil;refine iw rfl ?_;go_simp;refine hK.out _ _ trivial (fun _=>?_);clear hK K;try simp only [Act.put,pq]
 refine rH [13] ?_;refine AllReadyH.cons rfl (fun K hK=>?_) AllReadyH.nil;refine iw rfl ?_;go_simp;refine(c5.out m k f a9 (Q1.trans b7 b8)).mono ?_;rintro e f0 ⟨g8,rfl,e5,e4⟩;refine hK.out _ _ trivial (fun _=>?_);clear hK K;try simp only [Act.put,pq]
 refine tH 14 6 trivial ?_;refine wpAnyH_done kz ?_ _;go_wp2;go_ret;have e3:Ext w f0:=Q1.trans (Q1.trans b7 b8) (Q1.trans ((Q1.refl _ f).alloc _) e4);refine⟨_,rfl,Xh e5 ?_,e3⟩;have g0:=(Q1.trans b7 b8).size;omega
def Qr(S:Nat->Prop)(v:Value):Prop:=∀ g o n c,v=.slice (some ⟨g,o,none⟩) n c->0<n->S g
def Tg(m n:Nat)(O:Nat->Prop)(x:Nat × Wd)(W:World)(ys:Array Value):Prop:=∃ ao c,ys=#[.int .i64 (x.1:Int),.slice ao x.2.length c]/\Q8 W (.slice ao x.2.length c) x.2/\x.2.length<=c/\Qr (fun g=>O g/\n+m<=g/\g<W.heap.size) (.slice ao x.2.length c)
def Yl(m n b:Nat):Prop:=b<n+m
structure R7 (W:World) (BW BL Bk Bm:Nat) (l:Q7) (cs:List Value) (vo:Option Addr) (vc:Nat) (ws:Wd):Prop where
 law:LBx W BL l cs
 box:Yz W BW (.slice vo ws.length vc)
 word:Q8 W (.slice vo ws.length vc) ws
 tab:Tab W
 bk:W.heap[Bk]?=some (.cells #[.int .i64 (l.ifs.length:Int)] 3 (0,0))
 bm:W.heap[Bm]?=some (.cells #[.int .i64 (l.outs.length:Int)] 3 (0,0))
theorem Hd{S:Nat->Prop}{A B:World}{v:Value}{w:Wd}(h:Q8 A v w)(ht:Q1 (fun b=>¬ S b) A B) (hS:Qr S v):Q8 B v w:=
 by
  cases w with
  | nil=>
   obtain⟨⟨h1,h2,ao,cap,hv,_⟩,h4⟩:=h;exact⟨⟨h1,h2,ao,cap,hv,fun h=>by simp at h⟩,h4⟩
  | cons s w=>
   obtain⟨ao,cap,hv,_⟩:=h.slice;exact⟨h.1.keep ht (fun g o n c e hn=>hn (hS g o n c e (by rw [hv] at e;cases e;simp))),h.2⟩
theorem Q5y{W:World}{b:Nat}{v:Value}(u:Value)(h:Yz W b v):Yz (W.setCell ⟨b,0,none⟩ u) b u:=by
 unfold Yz at h ⊢;simp only [World.setCell,Array.getElem?_modify,h];simp
structure Yn (w V:World) (K O:Nat->Prop) (J:(Nat->Prop)->List (Nat × Wd)->World->Prop) (Y0 lp:Nat) (tr:List (Nat × Wd)) (u:Wd) (uo:Option Addr) (uc:Nat):Prop where
 j:J O tr V
 oy:O Y0
 on:O (Y0+1)
 lt:∀ b,O b->Y0<=b/\b<V.heap.size
 t:Q1 (fun b=>¬ K b) w V
 y:V.heap[Y0]?=some (.cells #[.func (.yield lp) #[] #[]] 266 (0,0))
 n:Yz V (Y0+1) (.slice uo u.length uc)
 wd:Q8 V (.slice uo u.length uc) u
 cap:u.length<=uc
 kept:Qr (fun b=>K b\/O b) (.slice uo u.length uc)
section
variable {w V:World} {K O:Nat->Prop} {J:(Nat->Prop)->List (Nat × Wd)->World->Prop} {Y0 lp m:Nat} {tr:List (Nat × Wd)} {u:Wd} {uo:Option Addr} {uc:Nat}
theorem Yn.ext{V':World}(h:Yn w V K O J Y0 lp tr u uo uc)(hE:Ext V V')(hJ:∀ O O' pre A B,J O pre A->Q1 (fun b=>O b/\Yl m Y0 b) A B->(∀ b,O' b->(O b\/A.heap.size<=b)/\b<B.heap.size)->J O' pre B):Yn w V' K O J Y0 lp tr u uo uc:=
 ⟨hJ _ _ _ _ _ h.j (Ext.of hE) (fun b hb=>⟨.inl hb,Nat.lt_of_lt_of_le (h.lt b hb).2 hE.size⟩),h.oy,h.on,fun b hb=>⟨(h.lt b hb).1,Nat.lt_of_lt_of_le (h.lt b hb).2 hE.size⟩,h.t.trans (Ext.of hE),hE.keep h.y,hE.keep h.n,h.wd.ext hE,h.cap,h.kept⟩
theorem Yn.yielded{B:World}{x:Nat × Wd}(h:Yn w V K O J Y0 lp tr u uo uc)(hj:J O (tr++[x]) B) (ht:Q1 (fun b=>¬ K b/\¬ O b) V B):Yn w B K O J Y0 lp (tr++[x]) u uo uc:=
 ⟨hj,h.oy,h.on,fun b hb=>⟨(h.lt b hb).1,Nat.lt_of_lt_of_le (h.lt b hb).2 ht.size⟩,h.t.trans (ht.mono fun _b _ hb=>hb.1),ht.heap h.y (fun hb=>hb.2 h.oy),ht.heap h.n (fun hb=>hb.2 h.on),Hd (S:=fun b=>K b\/O b) h.wd (ht.mono fun _b _ hb hn=>hn.elim hb.1 hb.2) h.kept,h.cap,h.kept⟩
theorem Yn.put2{f:World}{r:Wd}{e:Option Addr}{d:Nat}(h:Yn w V K O J Y0 lp tr u uo uc)(C:∀ b,K b->b<Y0)(q:f.ownsRow V.heap.size 95 2 (.slice e r.length d) r.length (Qw r)) (p:Ext V f) (G:Zt r) (N:2<=m)
  (z:∀ O O' pre A B,J O pre A->Q1 (fun b=>O b/\Yl m Y0 b) A B->(∀ b,O' b->(O b\/A.heap.size<=b)/\b<B.heap.size)->J O' pre B):∃ O',Yn w (f.setCell ⟨Y0+1,0,none⟩ (.slice e r.length d)) K O' J Y0 lp tr r e d/\(∀ b,O b->O' b)/\Qr (fun g=>O' g/\V.heap.size<=g/\g<(f.setCell ⟨Y0+1,0,none⟩ (.slice e r.length d)).heap.size) (.slice e r.length d):=by
 have k:Q1 (fun b=>b=Y0+1) f (f.setCell ⟨Y0+1,0,none⟩ (.slice e r.length d)):=Q1.set1 f (Y0+1) 0 _;have M:=(h.lt _ h.on).2;have E:Q1 (fun b=>O b/\Yl m Y0 b) V (f.setCell ⟨Y0+1,0,none⟩ (.slice e r.length d)):=Q1.trans (Ext.of p) (k.mono fun b _ a=>by rw [a];exact⟨h.on,by unfold Yl;omega⟩);have x:Q1 O V (f.setCell ⟨Y0+1,0,none⟩ (.slice e r.length d)):=Q1.trans (Ext.of p) (k.mono fun b _ a=>by rw [a];exact h.on);have F:=Kd q;have i:∀ g,(Value.slice e r.length d).ownBlock=some g->V.heap.size<=g/\g<f.heap.size:=fun g hg=>q.lt g hg;have D:=Qd q k (fun g hg a=>by have:=i g hg;omega);have s:∀ g o n l,Value.slice e r.length d=.slice (some ⟨g,o,none⟩) n l->(Value.slice e r.length d).ownBlock=some g:=by
  intro g o n l a;rw [a];rcases q.2 with ⟨v,_⟩ | ⟨L,H,I,v,_⟩
  ·rw [v] at a;cases a
  ·rw [v] at a;cases a;rfl
 refine⟨fun b=>O b\/(Value.slice e r.length d).ownBlock=some b,⟨z _ _ _ _ _ h.j E (fun b c=>?_),.inl h.oy,.inl h.on,fun b c=>?_,?_,?_,Q5y _ (p.keep h.n),Ru D G,F.1,?_⟩,fun b i=>.inl i,fun g o n l a h0'=>by have:=i g (s g o n l a);exact⟨.inr (s g o n l a),this.1,Nat.lt_of_lt_of_le this.2 k.size⟩⟩
 ·rcases c with c | c
  ·exact⟨.inl c,Nat.lt_of_lt_of_le (h.lt b c).2 x.size⟩
  ·exact⟨.inr (i b c).1,Nat.lt_of_lt_of_le (i b c).2 k.size⟩
 ·rcases c with c | c
  ·exact⟨(h.lt b c).1,Nat.lt_of_lt_of_le (h.lt b c).2 x.size⟩
  ·have:=(h.lt _ h.oy).2;exact⟨by have:=(i b c).1;omega,Nat.lt_of_lt_of_le (i b c).2 k.size⟩
 ·exact(h.t.trans (Ext.of p)).trans (k.mono fun b _ a hk=>by have:=C _ hk;omega)
 ·exact k.heap (p.keep h.y) oz
 ·exact fun g o n l a h0'=>.inr (.inr (s g o n l a))
theorem Yn.put{a:World}{r:Wd}{d:Option Addr}{c:Nat}(h:Yn w V K O J Y0 lp tr u uo uc)(i:∀ b,K b->b<Y0)(j:a.ownsRow V.heap.size 95 2 (.slice d r.length c) r.length (Qw r)) (f:Ext V a) (l:Zt r) (k:2<=m)
  (g:∀ O O' pre A B,J O pre A->Q1 (fun b=>O b/\Yl m Y0 b) A B->(∀ b,O' b->(O b\/A.heap.size<=b)/\b<B.heap.size)->J O' pre B):∃ O',Yn w (a.setCell ⟨Y0+1,0,none⟩ (.slice d r.length c)) K O' J Y0 lp tr r d c:=by
 obtain⟨O',e,_⟩:=h.put2 i j f l k g;exact⟨O',e⟩
end
def S8(W:World)(b:Nat):Nat:=match W.cell? ⟨b,0,none⟩ with | some (.slice _ n _)=>n | _=>0
theorem Va{W:World}{b:Nat}{ao:Option Addr}{n c:Nat}(h:Yz W b (.slice ao n c)):S8 W b=n:=by unfold S8;rw [cell_of_one h]
def Hn(l:Q7)(ws:Wd)(pre:List Nat)(tr:List (Nat × Wd)) (u:Wd) (next:Nat):Prop:=
 ∃ d,Vo l ws pre tr next d/\u=d++ws.drop next/\tr.length<=next/\next<=ws.length+1
def K0(l:Q7)(tr:List (Nat × Wd)):Int:=((tr.length*l.outs.length:Nat):Int) - ((tr.length*l.ifs.length:Nat):Int)
theorem Hn.start{l:Q7}{ws:Wd}(h:l.mode=1):Hn l ws [] [] ws 0:=⟨[],.start h,by simp,by simp,by omega⟩
theorem Hn.pass{l:Q7}{ws:Wd}{c:List Nat}{d:List (Nat × Wd)} {u:Wd} {b a:Nat} (h:Hn l ws c d u b) (k:a<b):Hn l ws (c++[a]) d u b:=by
 obtain⟨e,f,g,i,j⟩:=h;exact⟨e,f.pass k,g,i,j⟩
theorem Hn.done{l:Q7}{ws:Wd}{a:List (Nat × Wd)} {u:Wd} {c:Nat} (h:Hn l ws (W4 l ws) a u c):Z4 l ws=a:=by
 obtain⟨d,b,_⟩:=h;exact b.done
theorem Hn.hit{l:Q7}{ws:Wd}{g rest:List Nat}{d:List (Nat × Wd)} {u:Wd} {b a:Nat} (h:Hn l ws g d u b) (m:W4 l ws=g++a::rest) (p:b<=a) :
  ∃(c:Nat) (r:Wd),(c:Int)=(a:Int)+K0 l d/\c<=u.length/\r=u.take c++X9 l ((ws.drop a).take l.ifs.length)++ws.drop (a+l.ifs.length)/\r.length+l.ifs.length=c+l.outs.length+(ws.length - a)/\c<=a+d.length*l.outs.length/\d.length<=ws.length/\a+l.ifs.length<=ws.length /\
   Hn l ws (g++[a]) (d++[(a,r)]) r (a+max l.ifs.length 1)/\∃ rest2,Z4 l ws=d++(a,r)::rest2:=by
 obtain⟨i,n,o,x,y⟩:=h;obtain⟨w,B,C,D⟩:=Wx m;have t:=Ky w;obtain⟨e,s,z,j⟩:=n.hit m p;have k:u.take e.length=e:=by
  rw [o,s,List.length_append,List.take_append,List.take_of_length_le oz]
  congr 1
  rw [show i.length+((ws.drop b).take (a - b)).length - i.length=((ws.drop b).take (a - b)).length by omega];rw [List.length_take,List.length_drop];rw [show min (a - b) (ws.length - b)=a - b by omega]
 have q:e.length<=u.length:=by rw [<-k,List.length_take];omega
 refine⟨e.length,e++X9 l ((ws.drop a).take l.ifs.length)++ws.drop (a+l.ifs.length),by unfold K0;omega,q,by rw [k],?_,by omega,by omega,t,⟨_,j,?_,?_,by omega⟩,?_⟩
 ·rw [List.length_append,List.length_append,X0,List.length_drop];omega
 ·by_cases f:l.ifs.length=0
  ·rw [if_pos f,f];simp only [Nat.add_zero,Nat.zero_max,List.append_assoc]
   congr 2
   skip
   rw [<-List.drop_drop,List.take_append_drop]
  ·rw [if_neg f,show a+max l.ifs.length 1=a+l.ifs.length by omega]
 ·rw [List.length_append,List.length_singleton];omega
 ·obtain⟨⟨A,_,v⟩,_⟩:=j;exact⟨_,by rw [v,List.append_assoc];rfl⟩
theorem Bg(l:Q7)(a:List (Nat × Wd)) (x:Nat × Wd):K0 l (a++[x])=K0 l a+(l.outs.length:Int) - (l.ifs.length:Int):=by
 unfold K0;rw [List.length_append,List.length_singleton,Nat.add_mul,Nat.add_mul];omega
theorem Q67{a b:Nat}:a ||| b=0↔a=0/\b=0:=by
 constructor
 ·intro c;have d:=Nat.left_le_or (n:=a) (m:=b);have e:=Nat.right_le_or (n:=a) (m:=b);omega
 ·rintro⟨rfl,rfl⟩;rfl
theorem Tr{a b c:Nat}:a &&& (b ||| c)=0↔a &&& b=0/\a &&& c=0:=by rw [Nat.and_or_distrib_left,Q67]
theorem Q25{a b:Nat}(k:a<4294967296)(l:b<4294967296):Ys (a ||| b) 16777215=0↔a<16777216/\b<16777216:=by
 have e:a ||| b<4294967296:=Nat.or_lt_two_pow (n:=32) k l;constructor
 ·intro j
  have o:∀ c,24<=c->(a ||| b).testBit c=false:=fun c d=>by
   by_cases p:c<32
   ·have:=congrArg (fun v=>Nat.testBit v c) j;simp only [Nat.zero_testBit] at this;rw [V4 _ e,show (16777215:Nat)=2 ^ 24 - 1 from rfl,Nat.testBit_two_pow_sub_one] at this
    simpa [show ¬ c<24 by omega] using this
   ·exact Ge e oz
  have i:a ||| b<2 ^ 24:=Nat.lt_pow_two_of_testBit _ fun c d=>o c d;have f:=Nat.left_le_or (n:=a) (m:=b);have g:=Nat.right_le_or (n:=a) (m:=b);omega
 ·rintro⟨f,g⟩;have i:a ||| b<2 ^ 24:=Nat.or_lt_two_pow (n:=24) (by simpa using f) (by simpa using g);apply Nat.eq_of_testBit_eq;intro c;rw [V4 _ e,Nat.zero_testBit,show (16777215:Nat)=2 ^ 24 - 1 from rfl,Nat.testBit_two_pow_sub_one];by_cases d:c<24
  ·simp [d]
  ·rw [Nat.testBit_lt_two_pow (Nat.lt_of_lt_of_le i (Nat.pow_le_pow_right zd oz))];rfl
theorem Q58{k:Nat}{x:Yq}(n:Uf x):Xp k x=if x.frm < -1\/(k:Int)<=x.frm then false else if okS x.st=false then false else if Ys (x.cl ||| x.tk) 16777215≠0 then false else if x.cl &&& (x.st.1 ||| x.st.2)≠0 then false else
  if x.tk &&& ((x.st.1 ||| x.st.2) ||| x.cl)≠0 then false else if x.tk=0 then decide (x.ofi=0) else(decide (0<=x.ofi) && decide (x.ofi<k)):=by
 have l:=Q25 n.1 n.2.2;have m:=Tr (a:=x.tk) (b:=x.st.1 ||| x.st.2) (c:=x.cl);unfold Xp;by_cases d:x.frm < -1\/(k:Int)<=x.frm
 ·rw [if_pos d];rcases d with d | d
  ·rw [show decide (-1<=x.frm)=false by rw [decide_eq_false_iff_not];omega];simp
  ·rw [show decide (x.frm<(k:Int))=false by rw [decide_eq_false_iff_not];omega];simp
 rw [if_neg d,show decide (-1<=x.frm)=true by rw [decide_eq_true_iff];omega,show decide (x.frm<(k:Int))=true by rw [decide_eq_true_iff];omega];by_cases i:okS x.st=false
 ·rw [if_pos i,i];simp
 rw [if_neg i,show okS x.st=true by simpa using i];by_cases e:Ys (x.cl ||| x.tk) 16777215=0
 ·rw [if_neg (show ¬ (Ys (x.cl ||| x.tk) 16777215≠0) from fun q=>q e),decide_eq_true (l.1 e).1,decide_eq_true (l.1 e).2];by_cases j:x.cl &&& (x.st.1 ||| x.st.2)=0
  ·rw [if_neg (show ¬ (x.cl &&& (x.st.1 ||| x.st.2)≠0) from fun q=>q j),decide_eq_true j];by_cases f:x.tk &&& ((x.st.1 ||| x.st.2) ||| x.cl)=0
   ·rw [if_neg (show ¬ (x.tk &&& ((x.st.1 ||| x.st.2) ||| x.cl)≠0) from fun q=>q f),decide_eq_true (m.1 f).1,decide_eq_true (m.1 f).2];simp only [Bool.and_self,Bool.true_and]
   ·rw [if_pos f];by_cases g:x.tk &&& (x.st.1 ||| x.st.2)=0
    ·rw [show decide (x.tk &&& x.cl=0)=false by rw [decide_eq_false_iff_not];exact fun h7=>f (m.2 ⟨g,h7⟩)];simp
    ·rw [decide_eq_false g];simp
  ·rw [if_pos j,decide_eq_false j];simp
 ·rw [if_pos e];by_cases g:x.cl<16777216
  ·rw [show decide (x.tk<16777216)=false by rw [decide_eq_false_iff_not];exact fun h7=>e (l.2 ⟨g,h7⟩)];simp
  ·rw [decide_eq_false g];simp
theorem Q3k{x:Yq}(a5:Uf x)(k:Nat)(_hk:k<=9223372036854775807)(w:World) :
  Calls Tryz.prog 168 #[.agg (Zy x).toArray,.int .i64 (k:Int)] w fun e w'=>e=.returned (.bool (Xp k x))/\Ext w w':=by
 have b:=Zh (Q58 (k:=k) a5);obtain⟨m,cl,⟨f,g⟩,tk,ofi⟩:=x;obtain⟨l,⟨u,v⟩,z⟩:=a5;dsimp only at l u v z b;have K:=fun(D:World)=>Xw (s:=(f,g)) ⟨u,v⟩ D;have b0:=u32_or_nat f g u v;have t:f ||| g<4294967296:=Nat.or_lt_two_pow (n:=32) u v;obtain⟨s,a4⟩:=zE (f ||| g);rw [a4] at b0 t b;have b1:=u32_or_nat cl tk l z;have T:cl ||| tk<4294967296:=Nat.or_lt_two_pow (n:=32) l z;obtain⟨q,U⟩:=zE (cl ||| tk);rw [U] at b1 T b;have b2:bits .andNot .u32 (q:Int) 16777215=((Ys q 16777215:Nat):Int):=Fo q 16777215 T oz;obtain⟨e,X⟩:=zE (Ys q 16777215);rw [X] at b2 b;have b3:=u32_and_nat cl s l t;obtain⟨C,Z⟩:=zE (cl &&& s);rw [Z] at b3 b;have b4:=u32_or_nat s cl t l;have a3:s ||| cl<4294967296:=Nat.or_lt_two_pow (n:=32) t l;obtain⟨N,a0⟩:=zE (s ||| cl);rw [a0] at b4 b a3;have b5:=u32_and_nat tk N z a3;obtain⟨E,a2⟩:=zE (tk &&& N);rw [a2] at b5 b;obtain⟨M,S⟩:=zE (okS (f,g));rw [S] at K b;have a7:=Zh K;obtain⟨c,R⟩:=zE (Xp k { frm:=m,cl:=cl,st:=(f,g),tk:=tk,ofi:=ofi });rw [R] at b ⊢;clear a4 U X Z a0 a2 S K R;unfold Zy;dsimp only;go_enter Tryz.func168,Tryz.ntmps168;go_upto_region 1 with (fail)
 obtain⟨a6,A⟩:=zE (w.alloc (.cells #[.int .i64 m,.int .u32 (cl:Int),.int .u32 (f:Int),.int .u32 (g:Int),.int .u32 (tk:Int),.int .i64 ofi] 109));have F:Ext w a6:=by rw [<-A];exact(Q1.refl _ w).alloc _
 have r:a6.heap[w.heap.size]?=some (.cells #[.int .i64 m,.int .u32 (cl:Int),.int .u32 (f:Int),.int .u32 (g:Int),.int .u32 (tk:Int),.int .i64 ofi] 109 (0,0)):=by rw [<-A];exact Q3 rfl
 (try rw [A])
 obtain⟨b6,Q⟩:=zE w.heap.size;rw [Q] at r ⊢;have a8:=zR r;have L:=Zh r;clear A Q r;by_cases O:m < -1
 ·have a:Hid (c=false):=Zh (by rw [b.out,if_pos (.inl O)]);clear b;go_wp2;go_ret;exact⟨by rw [a.out];rfl,F⟩
 by_cases P:(k:Int)<=m
 ·have a:Hid (c=false):=Zh (by rw [b.out,if_pos (.inr P)]);clear b;go_wp2;go_ret;exact⟨by rw [a.out];rfl,F⟩
 have d:Hid (c=if M=false then false else if e≠0 then false else if C≠0 then false else if E≠0 then false else if tk=0 then decide (ofi=0) else(decide (0<=ofi) && decide (ofi<k))):=Zh (by rw [b.out,if_neg (fun o=>o.elim O P)]);clear b;go_wp2_with fail;refine(a7.out _).mono ?_;rintro b8 c1 ⟨rfl,G⟩;have i:=F.trans G;have b7:=zR (G.keep L.out);clear a8 G L;cases M
 ·have a:Hid (c=false):=Zh (by rw [d.out];rfl);clear d;go_wp2;go_ret;exact⟨by rw [a.out];rfl,i⟩
 by_cases V:e=0;case neg=>
  have W:((e:Int) != 0)=true:=by rw [bne_iff_ne];omega
  have a:Hid (c=false):=Zh (by rw [d.out,if_neg zd,if_pos V]);clear d;go_wp2;go_ret;exact⟨by rw [a.out];rfl,i⟩
 subst V;by_cases Y:C=0;case neg=>
  have W:((C:Int) != 0)=true:=by rw [bne_iff_ne];omega
  have a:Hid (c=false):=Zh (by rw [d.out,if_neg zd,if_neg zd,if_pos Y]);clear d;go_wp2;go_ret;exact⟨by rw [a.out];rfl,i⟩
 subst Y;by_cases a1:E=0;case neg=>
  have W:((E:Int) != 0)=true:=by rw [bne_iff_ne];omega
  have a:Hid (c=false):=Zh (by rw [d.out,if_neg zd,if_neg zd,if_neg zd,if_pos a1]);clear d;go_wp2;go_ret;exact⟨by rw [a.out];rfl,i⟩
 subst a1;have p:Hid (c=if tk=0 then decide (ofi=0) else(decide (0<=ofi) && decide (ofi<k))):=Zh (by rw [d.out];rfl);clear d;by_cases J:tk=0
 ·have a9:((tk:Int) == 0)=true:=by rw [beq_iff_eq];omega
  have a:Hid (c=decide (ofi=0)):=Zh (by rw [p.out,if_pos J]);obtain⟨o,H⟩:=zE (decide (ofi=0));have c0:(ofi == 0)=o:=by rw [<-H];rfl
  rw [H] at a;clear p H J;go_wp2;go_ret;exact⟨by rw [a.out];rfl,i⟩
 ·have a9:((tk:Int) == 0)=false:=by rw [beq_eq_false_iff_ne];omega
  have a:Hid (c=(decide (0<=ofi) && decide (ofi<k))):=Zh (by rw [p.out,if_neg J]);clear p;by_cases I:0<=ofi
  ·have B:Hid (c=decide (ofi<k)):=Zh (by rw [a.out,decide_eq_true I];rfl);go_wp2;go_ret;exact⟨by rw [B.out];rfl,i⟩
  ·have b9:¬ (0:Int)<=ofi:=I;have B:Hid (c=false):=Zh (by rw [a.out,decide_eq_false I];rfl);go_wp2;go_ret;exact⟨by rw [B.out];rfl,i⟩
theorem Bz(l:List UInt8)(a b:Nat)(h:a<=b):(⟨l.toArray⟩:ByteArray).extract a b=⟨((l.take b).drop a).toArray⟩:=by
 apply ByteArray.ext;simp [ByteArray.data_extract,List.take_drop];rw [show a+(b - a)=b by omega]
def Mo(v:Value):Nat:=match v with | .string s=>s.size | _=>0
def Zv(F:Nat->Bool):Array Value:=((List.range 256).map fun j=>Value.bool (F j)).toArray
def Xt(w:World)(B:Nat)(F:Nat->Bool):Prop:=w.heap[B]?=some (.cells (Zv F) 306 (0,0))
theorem Xt.cell{w:World}{B:Nat}{F:Nat->Bool}(h:Xt w B F){j:Nat}(a:j<256):w.cell? ⟨B,j,none⟩=some (.bool (F j)):=by
 rw [cell_of_row _ _ j _ _ _ h];simp [Zv,a]
theorem Xt.free{w:World}{B:Nat}{F:Nat->Bool}(h:Xt w B F)(j:Nat):w.frozen? ⟨B,j,none⟩=false:=by
 simp [World.frozen?,show w.heap[B]?=_ from h]
theorem Di{w:World}{B:Nat}{F:Nat->Bool}(h:Xt w B F)(c:Nat)(a:c<256) :
  Calls Tryz.prog 254 #[.pointer (some ⟨B,0,none⟩),.int .u8 (c:Int)] w fun e w'=>e=.returned (.bool (F c))/\w=w':=by
 have b:=h.cell a;have d:(c:Int)<256:=by omega
 clear h;go_enter Tryz.func254,Tryz.ntmps254;go_wp2;go_ret;exact⟨rfl,rfl⟩
theorem Q1r{w:World}{B:Nat}{F:Nat->Bool}(h:Xt w B F)(l:List UInt8)(n:l.length<=1000) :
  Calls Tryz.prog 219 #[.string ⟨l.toArray⟩,.pointer (some ⟨B,0,none⟩)] w fun e w'=>e=.returned (.string ⟨(l.dropWhile fun c=>F c.toNat).toArray⟩)/\w=w':=by
 have k:=Zh fun(c:Nat) (b:c<256)=>Di h c b;clear h;go_enter Tryz.func219,Tryz.ntmps219;go_wp2
 go_loop [0] (fun t=>∃ a:List UInt8,t=.string ⟨a.toArray⟩/\a.length<=1000/\l.dropWhile (fun c=>F c.toNat)=a.dropWhile (fun c=>F c.toNat)) (fun t=>Mo t)
 case atStart=>exact⟨l,rfl,n,rfl⟩
 case round=>
  obtain⟨a,rfl,o,j⟩:=hrel;have d:=Zh j;clear j;cases a with
  | nil=>
   go_wp2;go_ret;exact⟨by rw [d.out];rfl,rfl⟩
  | cons c a=>
   have b:=k.out c.toNat c.toNat_lt;obtain⟨f,g⟩:=zE (F c.toNat);rw [g] at b;have m:=Zh b;have i:=Zh g;clear b g;go_wp2_with fail;refine m.out.mono ?_;rintro e w' ⟨rfl,rfl⟩;cases f
   ·go_wp2;go_ret;exact⟨by rw [d.out,List.dropWhile_cons_of_neg (by rw [i.out];decide)];rfl,rfl⟩
   ·go_wp2;rw [Bz _ _ _ oz];refine⟨⟨a,?_,by simp at o;omega,by rw [d.out,List.dropWhile_cons_of_pos (by rw [i.out])]⟩,?_⟩
    ·simp
    ·simp [Mo,ByteArray.size]
theorem P0(l:List UInt8):l=[]\/∃ m c,l=m++[c]:=by
 cases h:l.reverse with
 | nil=>exact .inl (by simpa using h)
 | cons c m=>exact .inr ⟨m.reverse,c,by have:=congrArg List.reverse h;simpa using this⟩
def Xd(F:Nat->Bool)(l:List UInt8):List UInt8:=(l.reverse.dropWhile fun c=>F c.toNat).reverse
theorem Q0u{F:Nat->Bool}{m:List UInt8}{c:UInt8}(h:F c.toNat=true):Xd F (m++[c])=Xd F m:=by
 unfold Xd;rw [List.reverse_append,List.reverse_singleton,List.singleton_append];simp [h]
theorem Q1u{F:Nat->Bool}{m:List UInt8}{c:UInt8}(h:F c.toNat=false):Xd F (m++[c])=m++[c]:=by
 unfold Xd;rw [List.reverse_append,List.reverse_singleton,List.singleton_append,List.dropWhile_cons_of_neg (by rw [h];decide)];simp
theorem Cx{w:World}{B:Nat}{F:Nat->Bool}(h:Xt w B F)(l:List UInt8)(v:l.length<=1000) :
  Calls Tryz.prog 220 #[.string ⟨l.toArray⟩,.pointer (some ⟨B,0,none⟩)] w fun e w'=>e=.returned (.string ⟨(Xd F l).toArray⟩)/\w=w':=by
 have p:=Zh fun(b:Nat) (f:b<256)=>Di h b f;clear h;go_enter Tryz.func220,Tryz.ntmps220;go_wp2
 go_loop [0] (fun t=>∃ a:List UInt8,t=.string ⟨a.toArray⟩/\a.length<=1000/\Xd F l=Xd F a) (fun t=>Mo t)
 case atStart=>exact⟨l,rfl,v,rfl⟩
 case round=>
  obtain⟨a,rfl,x,m⟩:=hrel;have g:=Zh m;clear m;rcases P0 a with rfl | ⟨a,b,rfl⟩
  ·go_wp2;go_ret;exact⟨by rw [g.out];rfl,rfl⟩
  ·have f:=p.out b.toNat b.toNat_lt;obtain⟨i,j⟩:=zE (F b.toNat);rw [j] at f;have q:=Zh f;have k:=Zh j;have z:(a++[b]).length=a.length+1:=by simp
   obtain⟨d,c⟩:∃ d:ByteArray,(⟨(a++[b]).toArray⟩:ByteArray)=d:=⟨_,rfl⟩;have y:d.size=a.length+1:=by rw [<-c];simp [ByteArray.size]
   have o:d[a.length]' oz=b:=by subst c;simp [ByteArray.getElem_eq_getElem_data]
   have n:d.extract 0 a.length=⟨a.toArray⟩:=by rw [<-c,Bz _ _ _ oz];simp
   rw [c];obtain⟨s,r,u⟩:=Zh3 o n c;clear f j o n c;go_wp2_with fail;rw [s.out];refine q.out.mono ?_;rintro e w' ⟨rfl,rfl⟩;cases i
   ·go_wp2;go_ret;exact⟨by rw [g.out,Q1u k.out,u.out];rfl,rfl⟩
   ·go_wp2;rw [r.out];exact⟨⟨a,rfl,by simp at x;omega,by rw [g.out,Q0u k.out]⟩,by simp [Mo,y];simp [ByteArray.size]⟩
def inL(l:List UInt8)(j:Nat):Bool:=l.any fun c=>c.toNat == j
theorem Q4e(l:List UInt8)(c:UInt8)(j:Nat):inL (l++[c]) j=(inL l j || c.toNat == j):=by simp [inL]
theorem Q6x(l:List UInt8)(c:UInt8):(Zv (inL l)).setIfInBounds c.toNat (.bool true)=Zv (inL (l++[c])):=by
 apply Array.ext
 ·simp [Zv]
 ·intro d e a;simp only [Zv,List.size_toArray,List.length_map,List.length_range] at a;rw [Array.getElem_setIfInBounds]
  ·simp only [Zv,List.getElem_toArray,List.getElem_map,List.getElem_range];rw [Q4e];by_cases b:c.toNat=d
   ·simp [b]
   ·simp [b]
  ·simpa [Zv] using a
theorem Q4u(l:List UInt8)(a3:l.length<=1000)(N:∀ c∈l,c.toNat<128)(w:World) :
  Calls Tryz.prog 218 #[.string ⟨l.toArray⟩] w fun e w'=>e=.returned (.tuple #[.agg (Zv (inL l)),.bool true])/\Ext w w':=by
 go_enter Tryz.func218,Tryz.ntmps218;go_upto_region 1 with (fail)
 have R:Tryz.zeroCells306=Zv (inL []):=by kernel_rfl
 have r:Xt (w.alloc (.cells Tryz.zeroCells306 306)) w.heap.size (inL []):=by rw [R];exact Q3 rfl
 have E:Ext w (w.alloc (.cells Tryz.zeroCells306 306)):=(Q1.refl _ w).alloc _;generalize w.alloc (.cells Tryz.zeroCells306 306)=b4 at r E ⊢;obtain⟨i,D⟩:=zE w.heap.size;rw [D] at r ⊢;have H:=Zh D;have T:=Zh N;clear R D N;obtain⟨n,q⟩:∃ n:ByteArray,(⟨l.toArray⟩:ByteArray)=n:=⟨_,rfl⟩;have p:n.size=l.length:=by rw [<-q];simp [ByteArray.size]
 have V:=Zh q;have X:=Zh p;rw [q];clear q p;obtain⟨k,t⟩:=zE l.length;have b3:n.size=k:=by rw [X.out,t]
 have I:=Zh t;rw [t] at a3;clear t;go_wp2
 refine wp_loop (fun a o=>∃(f:Nat),f<=k/\a.defers=[]/\(a.tmps.size=21/\a.tmps.getD 0 undef=.string n/\a.tmps.getD 2 undef=.pointer (some ⟨i,0,none⟩)/\a.tmps.getD 4 undef=.int .i64 f)/\Xt o i (inL (l.take f))/\Ext w o)
  (fun a _=>k - (intOf (a.tmps.getD 4 undef)).toNat) ?_ ?_
 ·exact⟨0,by omega,rfl,⟨rfl,rfl,rfl,rfl⟩,by simpa using r,E⟩
 clear r E;rintro⟨a6,_⟩ o ⟨f,b0,a0,⟨p,z,A,B⟩,g,K⟩;subst a0;obtain⟨a7,P⟩:=Zd p;obtain⟨d,rfl⟩:∃ x,x=a7:=⟨_,rfl⟩;have a5:a6=#[d 0,d 1,d 2,d 3,d 4,d 5,d 6,d 7,d 8,d 9,d 10,d 11,d 12,d 13,d 14,d 15,d 16,d 17,d 18,d 19,d 20]:=P;clear P;subst a5;change d 0=_ at z;change d 2=_ at A;change d 4=_ at B;rw [z,A,B];clear z A B p;by_cases a2:f<k
 ·have J:(f:Int)<(k:Int):=by omega
  have M:f<l.length:=by rw [I.out];exact a2
  obtain⟨c,s⟩:=zE (l[f]);have a4:=T.out _ (List.getElem_mem M);rw [s] at a4;have Q:n[f]' oz=c:=by
   have:=V.out;subst this;simp [ByteArray.getElem_eq_getElem_data,s]
  have b1:¬ (128:Int)<=(c.toNat:Int):=by omega
  have b2:(c.toNat:Int)<256:=by omega
  have O:Xt (o.setCell ⟨i,c.toNat,none⟩ (.bool true)) i (inL (l.take (f+1))):=by
   rw [List.take_succ_eq_append_getElem M,s];unfold Xt at g ⊢;rw [<-Q6x];simp only [World.setCell,Array.getElem?_modify,g];simp
  have a8:=g.cell (j:=c.toNat) oz;have a9:=g.free c.toNat;have W:=Zh O;have Y:=Zh Q;clear g O s Q;go_upto_region 5 with (fail)
  rw [Y.out];go_wp2;exact⟨⟨f+1,by omega,by simp,W.out,K.setCell (.inl (by rw [H.out];exact Nat.le_refl _)) _⟩,nz⟩
 ·obtain rfl:f=k:=by omega
  have J:¬ (f:Int)<(f:Int):=by omega
  have L:l.take f=l:=by rw [List.take_of_length_le (by rw [I.out];exact Nat.le_refl _)]
  rw [L] at g;clear L;have F:(Tryz.prog.info? 306).map (·.size)=some (Zv (inL l)).size:=by
   rw [show (Zv (inL l)).size=256 by simp [Zv]];kernel_rfl
  have G:(Zv (inL l)).all (·.oneCell')=true:=by simp [Zv,Value.oneCell']
  unfold Xt at g;obtain⟨m,C⟩:=zE (Zv (inL l));rw [C] at g F G;obtain⟨S,y,u,U⟩:=Zh4 C g F G;clear g C F G;go_upto_region 8 with (fail)
  refine wp_region_list ?_;refine wpList_load_row rfl 306 (.tmp 2) rfl i rfl _ _ _ _ y.out Tryz.underlying306 rfl u.out ?_;simp only [Act.put,pq];refine wpList_store_row rfl 306 (.tmp 2) (.tmp 20) rfl i m rfl rfl _ _ y.out u.out rfl U.out ?_;simp only [Act.put];go_wp2;have Z:=Q1.setRow o i m;refine bodyPost_ret (v:=.tuple #[.agg m,.bool true]) ?_ rfl ⟨by rw [S.out],Q1.after K Z (fun b J e=>by have:=H.out;omega)⟩;have a1:=setRow_heap o i m m _ _ y.out;simp [results,Tryz.results218,asAddr,run_loadVar_row _ i _ _ _ _ _ a1 Tryz.underlying306 rfl u.out]
def Hf:List UInt8:=[97,98,99,100,101,102,103,104,105,106,107,108,109,110,111,112,113,114,115,116,117,118,119,120,121,122,65,66,67,68,69,70,71,72,73,74,75,76,77,78,79,80,81,82,83,84,85,86,87,88,89,90,48,49,50,51,52,53,54,55,56,57,45]
theorem Q59:∀ c∈Hf,c.toNat<128:=by decide
theorem Q6l(c:UInt8):inL Hf c.toNat=Rs c:=by
 have a:∀ n:Fin 256,inL Hf n.val=((decide (97<=n.val) && decide (n.val<=122)) || (decide (65<=n.val) && decide (n.val<=90)) || (decide (48<=n.val) && decide (n.val<=57)) || decide (n.val=45)):=by decide +kernel
 exact a ⟨c.toNat,c.toNat_lt⟩
theorem Q3q(l:List UInt8)(R:l.length<=1000)(o:l≠[])(w:World) :
  Calls Tryz.prog 195 #[.string ⟨l.toArray⟩,.string ⟨Hf.toArray⟩] w fun e w'=>e=.returned (.string ⟨((Xd (inL Hf) l).dropWhile fun c=>inL Hf c.toNat).toArray⟩)/\Ext w w':=by
 have t:=fun(V:World)=>Q4u Hf zd Q59 V;obtain⟨a,q⟩:=zE Hf;have r:a.length=63:=by rw [<-q];rfl
 rw [q] at t ⊢;have I:=Zh t;clear t q;obtain⟨d,i⟩:∃ d:ByteArray,(⟨l.toArray⟩:ByteArray)=d:=⟨_,rfl⟩;obtain⟨n,g⟩:∃ d:ByteArray,(⟨a.toArray⟩:ByteArray)=d:=⟨_,rfl⟩;have Q:d.size=l.length:=by rw [<-i];simp [ByteArray.size]
 have U:n.size=63:=by rw [<-g];simp [ByteArray.size,r]
 have X:0<l.length:=List.length_pos_iff.2 o;have P:¬ d.toList=[]:=by rw [<-i];simpa using o
 have W:d.toList.isEmpty=false:=by rw [List.isEmpty_eq_false_iff];exact P
 have N:¬ n.toList=[]:=by rw [<-g];simp;rintro rfl;simp at r
 have T:n.toList.isEmpty=false:=by rw [List.isEmpty_eq_false_iff];exact N
 have x:=Zh g;have K:=Zh i;rw [i,g];clear i g r Q o;go_enter Tryz.func195,Tryz.ntmps195;go_upto_region 5 with (fail)
 refine wp_region_list ?_;go_wp2_with fail;rw [<-x.out];refine(I.out _).mono ?_;rintro e m ⟨rfl,A⟩;rw [x.out];have s:(Tryz.prog.info? 306).map (·.size)=some (Zv (inL a)).size:=by
  rw [show (Zv (inL a)).size=256 by simp [Zv]];kernel_rfl
 have u:(Zv (inL a)).all (·.oneCell')=true:=by simp [Zv,Value.oneCell']
 have v:Tryz.zeroCells306.size=(Zv (inL a)).size:=by
  rw [show (Zv (inL a)).size=256 by simp [Zv]];kernel_rfl
 obtain⟨j,p⟩:=zE (Zv (inL a));rw [p] at s u v ⊢;obtain⟨G,H,J,M⟩:=Zh4 p s u v;clear p s u v;obtain⟨C,k⟩:=zE ((m.alloc (.cells Tryz.zeroCells306 306)).setRow m.heap.size j);have B:Xt C m.heap.size (inL a):=by
  rw [<-k];unfold Xt;rw [G.out];exact setRow_heap _ _ _ _ _ _ (Q3 rfl)
 have O:Ext w C:=by
  rw [<-k];exact Q1.after (A.alloc _) (Q1.setRow _ _ _) (fun b hb e=>by have:=A.size;omega)
 have y:=Zh B;have L:=Zh k;clear B k;go_upto_region 7 with (refine wpList_store_row (by rfl) 306 (.tmp 5) (.tmp 32) (by rfl) m.heap.size j (by rfl) (by rfl) _ _ (Q3 rfl) H.out M.out J.out ?_)
 rw [L.out];have f:=Cx y.out l R;have S:(Xd (inL a) l).length<=1000:=by
  unfold Xd;rw [List.length_reverse];have f:=(List.dropWhile_sublist (l:=l.reverse) (fun c=>inL a c.toNat)).length_le;rw [List.length_reverse] at f;omega
 have z:=Q1r y.out (Xd (inL a) l) S;rw [K.out] at f;have E:=Zh f;have F:=Zh z;clear f z;go_wp2_with fail;refine E.out.mono ?_;rintro e w' ⟨rfl,rfl⟩;go_wp2_with fail;refine F.out.mono ?_;rintro e w' ⟨rfl,rfl⟩;go_wp2;go_ret;exact⟨rfl,O⟩
theorem Mm(p:UInt8->Bool):∀ l:List UInt8,l.dropWhile p=[]↔∀ c∈l,p c=true
 | []=>by simp
 | c::l=>by
  cases h:p c with
  | true=>rw [List.dropWhile_cons_of_pos h,Mm p l];simp [h]
  | false=>rw [List.dropWhile_cons_of_neg (by rw [h];decide)];simp [h]
theorem Q36(F:Nat->Bool)(l:List UInt8):((Xd F l).dropWhile fun c=>F c.toNat)=[]↔l.all (fun c=>F c.toNat)=true:=by
 constructor
 ·intro d;rcases P0 (Xd F l) with a | ⟨g,c,a⟩
  ·unfold Xd at a;have e:l.reverse.dropWhile (fun c=>F c.toNat)=[]:=by simpa using a
   rw [Mm] at e;exact List.all_eq_true.2 fun c b=>e c (by simpa using b)
  ·rw [Mm] at d;have b:=d c (by rw [a];simp);exfalso
   unfold Xd at a;have f:l.reverse.dropWhile (fun c=>F c.toNat)=c::g.reverse:=by have:=congrArg List.reverse a;simpa using this
   have:=List.head?_dropWhile_not (fun c:UInt8=>F c.toNat) l.reverse;rw [f] at this;simp [b] at this
 ·intro d;have:Xd F l=[]:=by
   unfold Xd;rw [(Mm _ _).2 fun c b=>List.all_eq_true.1 d c (by simpa using b)];rfl
  rw [this];rfl
theorem Q0p(l:List UInt8)(y:l.length<=9223372036854775807)(w:World) :
  Calls Tryz.prog 171 #[.string ⟨l.toArray⟩] w fun e w'=>e=.returned (.bool (Kr ⟨l.toArray⟩))/\Ext w w':=by
 have b:Hid (Kr ⟨l.toArray⟩=(decide (1<=l.length) && decide (l.length<=24) && l.all Rs)):=Zh (by simp [Kr,ByteArray.size]);obtain⟨d,a⟩:∃ d:ByteArray,(⟨l.toArray⟩:ByteArray)=d:=⟨_,rfl⟩;have r:d.size=l.length:=by rw [<-a];simp [ByteArray.size]
 have u:=Zh a;by_cases i:l=[]
 ·subst i;have q:d.toList=[]:=by rw [<-a];simp
  rw [a];rw [a] at b;clear a r;go_enter Tryz.func171,Tryz.ntmps171;go_wp2;go_ret;exact⟨by rw [b.out];rfl,Q1.refl _ _⟩
 have q:¬ d.toList=[]:=by rw [<-a];simpa using i
 have z:d.toList.isEmpty=false:=by rw [List.isEmpty_eq_false_iff];exact q
 obtain⟨f,k⟩:=zE l.length;have B:0<f:=by rw [<-k];exact List.length_pos_iff.2 i
 rw [k] at r y b;rw [a] at b ⊢;clear a;by_cases x:f<=24;case neg=>
  have v:¬ (f:Int)<=24:=by omega
  clear k;go_enter Tryz.func171,Tryz.ntmps171;go_wp2;go_ret;exact⟨by rw [b.out];simp [x],Q1.refl _ _⟩
 have v:(f:Int)<=24:=by omega
 have j:=Q3q l oz i w;rw [u.out] at j;have n:=Q36 (inL Hf) l;obtain⟨g,s⟩:=zE ((Xd (inL Hf) l).dropWhile fun c=>inL Hf c.toNat);rw [s] at j n;have t:=Zh j
 have o:Hid (l.all Rs=decide (g=[])):=Zh (by
  apply Bool.eq_iff_iff.2;rw [decide_eq_true_iff,n];simp only [Q6l])
 clear j s n k;go_enter Tryz.func171,Tryz.ntmps171;go_wp2_with fail;refine t.out.mono ?_;rintro e C ⟨rfl,p⟩;by_cases m:g=[]
 ·subst m;go_wp2;go_ret;exact⟨by rw [b.out,o.out];apply Yk;simp;omega,p⟩
 ·have A:g.isEmpty=false:=by rw [List.isEmpty_eq_false_iff];exact m
  go_wp2;go_ret;exact⟨by rw [b.out,o.out];apply Yk;simp [m],p⟩
def Q88(l:Q7):Nat->Nat->Wd->Wd × Nat × Int
 | 0,n,u=>(u,n,0)
 | f+1,n,u=>if trE l u=0 then(if Vu l u=u then(u,n,0) else Q88 l f (n+1) (Vu l u)) else([],0,trE l u)
def Qax(l:Q7)(ws:Wd)(z:Int):Wd × Nat × Int:=
 if Jf l ws=0 then(if z<0\/100<z then([],0,3) else Q88 l z.toNat 0 ws) else([],0,Jf l ws)
def Hb(l:Q7)(ws:Wd)(tr:List (Nat × Wd)) (d:Wd) (i:Nat):Prop:=
 (∃ n,ws.length+1 - i<=n/\Z4 l ws=tr++U6 (Zx l) (X9 l) l.ifs.length ws n i d)/\(i<=ws.length->d.length+tr.length*l.ifs.length=i+tr.length*l.outs.length)/\tr.length+(ws.length+1 - i)<=ws.length+1/\i<=ws.length+1
theorem Hb.start{l:Q7}{ws:Wd}(h:l.mode=1):Hb l ws [] [] 0:=
 ⟨⟨ws.length+1,by omega,by unfold Z4;rw [if_pos h];rfl⟩,fun _=>by simp,by simp,by omega⟩
theorem Hb.miss{l:Q7}{ws:Wd}{e:List (Nat × Wd)} {d:Wd} {i:Nat} (h:Hb l ws e d i) (j:i<=ws.length) (g:Zx l ws i=false):Hb l ws e (d++(ws.drop i).take 1) (i+1):=by
 obtain⟨⟨c,n,a⟩,f,k,m⟩:=h;obtain⟨b,rfl⟩:∃ b,c=b+1:=⟨c - 1,by omega⟩;unfold U6 at a;rw [if_neg (by rw [g];decide)] at a;refine⟨⟨b,by omega,a⟩,fun h5=>?_,by omega,by omega⟩;have:=f j;rw [List.length_append,List.length_take,List.length_drop];omega
def Lz(l:Q7)(ws d:Wd)(i:Nat):Wd:=d++X9 l ((ws.drop i).take l.ifs.length)
def We(l:Q7)(ws d:Wd)(i:Nat):Wd:=Lz l ws d i++ws.drop (i+l.ifs.length)
theorem Hb.hit{l:Q7}{ws:Wd}{b:List (Nat × Wd)} {d:Wd} {i:Nat} (h:Hb l ws b d i) (f:Zx l ws i=true) :
  (l.ifs.length=0->Hb l ws (b++[(i,We l ws d i)]) (Lz l ws d i++(ws.drop i).take 1) (i+1))/\(l.ifs.length≠0->Hb l ws (b++[(i,We l ws d i)]) (Lz l ws d i) (i+l.ifs.length)) /\
  (∃ rest,Z4 l ws=b++(i,We l ws d i)::rest)/\d.length+b.length*l.ifs.length=i+b.length*l.outs.length/\i+l.ifs.length<=ws.length:=by
 have k:=Ky f;obtain⟨⟨g,o,a⟩,j,m,n⟩:=h;obtain⟨c,rfl⟩:∃ c,g=c+1:=⟨g - 1,by omega⟩;have e:=j oz;unfold U6 at a;rw [if_pos f] at a;refine⟨fun hk=>?_,fun hk=>?_,⟨_,a⟩,e,k⟩
 ·rw [if_pos hk] at a;refine⟨⟨c,by omega,by rw [a];simp [We,Lz]⟩,fun h5=>?_,by rw [List.length_append,List.length_singleton];omega,by omega⟩;unfold Lz;rw [List.length_append,List.length_append,X0,List.length_append,List.length_singleton,List.length_take,List.length_drop,Nat.add_mul,Nat.add_mul,hk];rw [hk] at e;omega
 ·rw [if_neg hk] at a;refine⟨⟨c,by omega,by rw [a];simp [We,Lz]⟩,fun h5=>?_,by rw [List.length_append,List.length_singleton];omega,by omega⟩;unfold Lz;rw [List.length_append,X0,List.length_append,List.length_singleton,Nat.add_mul,Nat.add_mul];omega
theorem Hb.done{l:Q7}{ws:Wd}{a:List (Nat × Wd)} {d:Wd} {i:Nat} (h:Hb l ws a d i) (e:ws.length<i):Z4 l ws=a:=by
 obtain⟨⟨j,g,b⟩,_⟩:=h;rw [b,Fp,List.append_nil];intro c f;cases hh:Zx l ws c with
 | false=>rfl
 | true=>have:=Ky hh;omega
end Go.Proofs.YtfdlhlghcbeblaaGreatDoor
