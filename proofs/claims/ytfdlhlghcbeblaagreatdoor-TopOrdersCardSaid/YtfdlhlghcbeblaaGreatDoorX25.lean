/- PLAIN: -/
import Derived.Test.YtfdlhlghcbeblaaGreatDoorX24
set_option maxRecDepth 100000
set_option maxHeartbeats 16000000
namespace Go.Proofs.YtfdlhlghcbeblaaGreatDoor
open Go.RowKit Go.Ab
theorem Fs{l:List Int}(h:Z1 l=0):∀ x∈l,x=0:=by
 induction l with
 | nil=>intro x a;cases a
 | cons e l ih=>
  unfold Z1 at h
  split at h
  ·rename_i b
   intro x a;rcases List.mem_cons.1 a with rfl | a
   ·exact b
   ·exact ih h x a
  ·rename_i b;exact absurd h b
theorem De(LD:List Q2):∀ ol:List Nat,Yz LD ol none=none
 | []=>rfl
 | x::ol=>by
  unfold Yz;rw [List.foldl_cons];cases LD[x]? with
  | none=>exact De LD ol
  | some l=>exact De LD ol
theorem Q1v(LD:List Q2)(x:Nat)(ol:List Nat)(s:Option Wd):Yz LD (x::ol) s=Yz LD ol (match LD[x]? with | some l=>Y4 l s | none=>s):=rfl
theorem W3(LD:List Q2):∀(ol:List Nat) (u:Wd),Qq (ol.filterMap fun x=>LD[x]?) u=Yz LD ol (some u)
 | [],_=>rfl
 | x::ol,u=>by
  rw [Q1v,List.filterMap_cons];cases h:LD[x]? with
  | none=>exact W3 LD ol u
  | some l=>
   show (if trE l u=0 then Qq (ol.filterMap fun x=>LD[x]?) (X7 l u) else none)=Yz LD ol ((some u).bind fun u=>if trE l u=0 then some (X7 l u) else none);rw [Option.bind_some];by_cases ht:trE l u=0
   ·rw [if_pos ht,if_pos ht];exact W3 LD ol _
   ·rw [if_neg ht,if_neg ht,De]
theorem Ro(l:List Bool):Vn l false=if l.findIdx (fun b=>!b)=l.length then -1 else((l.findIdx fun b=>!b:Nat):Int):=by
 unfold Vn;cases h:l.findIdx? fun b=>b == false with
 | none=>
  rw [List.findIdx?_eq_none_iff] at h;have:l.findIdx (fun b=>!b)=l.length:=List.findIdx_eq_length_of_false fun x hx=>by have:=h x hx;cases x <;> simp_all
  rw [if_pos this]
 | some i=>
  obtain⟨c,d,a⟩:=List.findIdx?_eq_some_iff_getElem.1 h;have:l.findIdx (fun b=>!b)=i:=by
   rw [List.findIdx_eq c];exact⟨by cases hb:l[i] <;> simp_all,fun j hj=>by have:=a j hj;cases hb:l[j] <;> simp_all⟩
  rw [this,if_neg oz]
def Q4x(LD:List Q2)(ol:List Nat)(QS:List (Wd × Wd)):List Bool:=QS.map fun q=>xB (Yz LD ol (some q.1)) q.2
theorem Q7r(LD:List Q2)(ol:List Nat)(qs:Qb):Xa LD ol qs=Q4x LD ol (qs.map (·.1)):=by
 unfold Xa Q4x;rw [List.map_map];rfl
def Q5q(LD:List Q2)(QS:List (Wd × Wd)) (n:Nat):List (List Nat):=(Y3 n (List.range n)).filter fun x=>(Q4x LD x QS).all id
theorem Q66(LD:List Q2)(qs:Qb)(n:Nat):Yg LD qs n=Q5q LD (qs.map (·.1)) n:=by
 unfold Yg Q5q;apply List.filter_congr;intro a _;unfold Jf;rw [Q7r]
abbrev Q1k:Pat:=.node 1 4 0 false 0 0 []
abbrev Q5v:Pat:=.node 0 0 0 false 0 0 []
abbrev Q7v:Pat:=.node 6 0 0 false 0 0 []
abbrev vD:Q2:=⟨⟨#[86]⟩,Q1k,Q1k,[(2,0)],[⟨0,0,(1,0),0,0⟩],1⟩
abbrev fD:Q2:=⟨⟨#[70]⟩,Q5v,Q7v,[(4,0)],[],1⟩
abbrev uD:Q2:=⟨⟨#[85]⟩,Q5v,Q7v,[(2,0)],[⟨0,0,(0,1),0,0⟩],1⟩
abbrev Qam:Wd:=[(5,2),(2,5),(5,2)]
abbrev apO:Wd:=[(5,2),(2,5)]
abbrev abO:Wd:=[(5,2),(3,4)]
attribute [local go_sem] Oper.semAt_some Z8 Qp
abbrev M2:Wd:=[(2,0),(4,0)]
abbrev toT:Wd:=[(2,0)]
theorem Cg{qs:Qb}(h:qs.map (·.1)=[(M2,toT)]):Gz [fD] qs=[0]/\Mf [fD] qs=true/\Z9 [fD] (qs.map (·.1))=0:=by
 have a:Z9 [fD] (qs.map (·.1))=0:=by rw [h];decide +kernel
 have b:Yg [fD] qs 1=[[0]]:=by rw [Q66,h];decide +kernel
 refine⟨?_,?_,a⟩
 ·unfold Gz;rw [if_pos a];show (Yg [fD] qs 1).headD []=_;rw [b];rfl
 ·unfold Mf;rw [if_pos a];show (!(Yg [fD] qs 1).isEmpty)=_;rw [b];rfl
theorem Tg(w:World)(X:Tab w):Calls Tryz.prog 26 #[] w fun e w'=>e=.returned (.bool true)/\Ext w w':=by
 obtain⟨c,q⟩:=zE w.heap.size;obtain⟨k,m⟩:=zE ((w.alloc (.cells #[.int .u32 4,.int .u32 0] 95)).alloc (.cells #[.string ⟨#[]⟩,.int .i64 0,.int .u32 0,.int .u32 0,.bool false,.int .i64 0,.int .i64 0,.slice none 0 0,.int .i64 0,.int .u32 0,.int .u32 0,.bool false,.int .i64 0,.int .i64 0,.slice none 0 0,.slice none 0 0,.slice none 0 0,.int .i64 0] 102));have N:Ext w k:=by rw [<-m];exact((Q0.refl _ w).alloc _).alloc _
 have O:k.heap[c]?=some (.cells #[.int .u32 4,.int .u32 0] 95 (0,0)):=by rw [<-m,<-q];exact Q7 (Q5 rfl)
 have u:k.heap[c+1]?=some (.cells #[.string ⟨#[]⟩,.int .i64 0,.int .u32 0,.int .u32 0,.bool false,.int .i64 0,.int .i64 0,.slice none 0 0,.int .i64 0,.int .u32 0,.int .u32 0,.bool false,.int .i64 0,.int .i64 0,.slice none 0 0,.slice none 0 0,.slice none 0 0,.int .i64 0] 102 (0,0)):=by rw [<-m,<-q];exact Q5 zy
 have s:=Q0.setRow k (c+1) #[.string ⟨#[70]⟩,.int .i64 0,.int .u32 0,.int .u32 0,.bool false,.int .i64 0,.int .i64 0,.slice none 0 0,.int .i64 6,.int .u32 0,.int .u32 0,.bool false,.int .i64 0,.int .i64 0,.slice none 0 0,.slice (some ⟨c,0,none⟩) 1 1,.slice none 0 0,.int .i64 1];have v:=setRow_heap _ _ _ #[.string ⟨#[70]⟩,.int .i64 0,.int .u32 0,.int .u32 0,.bool false,.int .i64 0,.int .i64 0,.slice none 0 0,.int .i64 6,.int .u32 0,.int .u32 0,.bool false,.int .i64 0,.int .i64 0,.slice none 0 0,.slice (some ⟨c,0,none⟩) 1 1,.slice none 0 0,.int .i64 1] _ _ u;have t:=s.heap O oz;have j:Ext w (k.setRow (c+1) #[.string ⟨#[70]⟩,.int .i64 0,.int .u32 0,.int .u32 0,.bool false,.int .i64 0,.int .i64 0,.slice none 0 0,.int .i64 6,.int .u32 0,.int .u32 0,.bool false,.int .i64 0,.int .i64 0,.slice none 0 0,.slice (some ⟨c,0,none⟩) 1 1,.slice none 0 0,.int .i64 1]):=N.after s (fun b hb e=>by omega);obtain⟨n,x⟩:=zE (k.setRow (c+1) #[.string ⟨#[70]⟩,.int .i64 0,.int .u32 0,.int .u32 0,.bool false,.int .i64 0,.int .i64 0,.slice none 0 0,.int .i64 6,.int .u32 0,.int .u32 0,.bool false,.int .i64 0,.int .i64 0,.slice none 0 0,.slice (some ⟨c,0,none⟩) 1 1,.slice none 0 0,.int .i64 1]);rw [x] at v t j;have Q:Zk n fD [.string ⟨#[70]⟩,.int .i64 0,.int .u32 0,.int .u32 0,.bool false,.int .i64 0,.int .i64 0,.slice none 0 0,.int .i64 6,.int .u32 0,.int .u32 0,.bool false,.int .i64 0,.int .i64 0,.slice none 0 0,.slice (some ⟨c,0,none⟩) 1 1,.slice none 0 0,.int .i64 1]:=⟨[.int .i64 0,.int .u32 0,.int .u32 0,.bool false,.int .i64 0,.int .i64 0,.slice none 0 0],[.int .i64 6,.int .u32 0,.int .u32 0,.bool false,.int .i64 0,.int .i64 0,.slice none 0 0],_,_,rfl,by decide,Sn _ _ 0 (pl:=0) (mi:=0) false 0 0 zd zd,Sn _ _ 6 (pl:=0) (mi:=0) false 0 0 zd zd,⟨Dc (xs:=Zn [(4,0)]) t rfl zd,by simp [Yb]⟩,⟨⟨rfl,by simp [maxLen],none,0,rfl,fun h=>by simp at h⟩,by simp [Xe]⟩⟩;obtain⟨I,W,G,B,E,F,r⟩:=Zh7 m u x q v Q j;clear m N O u s v t j x Q q;go_enter Tryz.func26,Tryz.ntmps26;go_upto_region 2 with (refine wpList_store_row rfl 102 (.tmp 1) (.tmp 8) rfl _ #[.string ⟨#[70]⟩,.int .i64 0,.int .u32 0,.int .u32 0,.bool false,.int .i64 0,.int .i64 0,.slice none 0 0,.int .i64 6,.int .u32 0,.int .u32 0,.bool false,.int .i64 0,.int .i64 0,.slice none 0 0,.slice (some ⟨w.heap.size,0,none⟩) 1 1,.slice none 0 0,.int .i64 1] rfl rfl _ _ (Q5 zy) kz rfl kz ?_)
 simp only [Act.put];rw [B.out,I.out,G.out];clear I W G B
 -- the next blocks
 obtain⟨a,i⟩:=zE n.heap.size;obtain⟨d,g⟩:=zE ((((n.alloc (.cells #[.string ⟨#[70]⟩,.int .i64 0,.int .u32 0,.int .u32 0,.bool false,.int .i64 0,.int .i64 0,.slice none 0 0,.int .i64 6,.int .u32 0,.int .u32 0,.bool false,.int .i64 0,.int .i64 0,.slice none 0 0,.slice (some ⟨c,0,none⟩) 1 1,.slice none 0 0,.int .i64 1] 102)).alloc (.cells #[.int .u32 2,.int .u32 0,.int .u32 4,.int .u32 0] 95)).alloc (.cells #[.int .u32 2,.int .u32 0] 95)).alloc (.cells #[.slice (some ⟨a+1,0,none⟩) 2 2,.slice (some ⟨a+2,0,none⟩) 1 1] 105));have o:Ext n d:=by rw [<-g];exact((((Q0.refl _ n).alloc _).alloc _).alloc _).alloc _
 have J:d.heap[a]?=some (.cells #[.string ⟨#[70]⟩,.int .i64 0,.int .u32 0,.int .u32 0,.bool false,.int .i64 0,.int .i64 0,.slice none 0 0,.int .i64 6,.int .u32 0,.int .u32 0,.bool false,.int .i64 0,.int .i64 0,.slice none 0 0,.slice (some ⟨c,0,none⟩) 1 1,.slice none 0 0,.int .i64 1] 102 (0,0)):=by rw [<-g,<-i];exact Q7 (Q7 (Q7 (Q5 rfl)))
 have K:d.heap[a+1]?=some (.cells #[.int .u32 2,.int .u32 0,.int .u32 4,.int .u32 0] 95 (0,0)):=by rw [<-g,<-i];exact Q7 (Q7 (Q5 zy))
 have L:d.heap[a+2]?=some (.cells #[.int .u32 2,.int .u32 0] 95 (0,0)):=by rw [<-g,<-i];exact Q7 (Q5 zy)
 have M:d.heap[a+3]?=some (.cells #[.slice (some ⟨a+1,0,none⟩) 2 2,.slice (some ⟨a+2,0,none⟩) 1 1] 105 (0,0)):=by rw [<-g,<-i];exact Q5 zy
 have P:Qv d (.slice (some ⟨a,0,none⟩) 1 1) [(fD,[.string ⟨#[70]⟩,.int .i64 0,.int .u32 0,.int .u32 0,.bool false,.int .i64 0,.int .i64 0,.slice none 0 0,.int .i64 6,.int .u32 0,.int .u32 0,.bool false,.int .i64 0,.int .i64 0,.slice none 0 0,.slice (some ⟨c,0,none⟩) 1 1,.slice none 0 0,.int .i64 1])]:=⟨Dc (xs:=[.string ⟨#[70]⟩,.int .i64 0,.int .u32 0,.int .u32 0,.bool false,.int .i64 0,.int .i64 0,.slice none 0 0,.int .i64 6,.int .u32 0,.int .u32 0,.bool false,.int .i64 0,.int .i64 0,.slice none 0 0,.slice (some ⟨c,0,none⟩) 1 1,.slice none 0 0,.int .i64 1]) J rfl zd,fun p f=>by
  simp only [List.mem_cons,List.not_mem_nil,or_false] at f;subst f;exact F.out.ext o⟩
 have R:Qo d (.slice (some ⟨a+1,0,none⟩) 2 2) M2:=⟨_,2,rfl,⟨Dc (xs:=Zn M2) K rfl zd,by simp [Yb]⟩,Nat.le_refl 2⟩;have S:Qo d (.slice (some ⟨a+2,0,none⟩) 1 1) toT:=⟨_,1,rfl,⟨Dc (xs:=Zn toT) L rfl zd,by simp [Yb]⟩,Nat.le_refl 1⟩
 have f:Zw d (.slice (some ⟨a+3,0,none⟩) 1 1) [((M2,toT),[.slice (some ⟨a+1,0,none⟩) 2 2,.slice (some ⟨a+2,0,none⟩) 1 1])]:=⟨Dc (xs:=[.slice (some ⟨a+1,0,none⟩) 2 2,.slice (some ⟨a+2,0,none⟩) 1 1]) M rfl zd,fun p f=>by
  simp only [List.mem_cons,List.not_mem_nil,or_false] at f;subst f;exact⟨rfl,_,_,rfl,R,S⟩⟩
 have l:=Td P rfl f rfl (X.keep (r.out.trans o) id);obtain⟨T,U,y⟩:=Cg (qs:=[((M2,toT),[.slice (some ⟨a+1,0,none⟩) 2 2,.slice (some ⟨a+2,0,none⟩) 1 1])]) rfl;simp only [List.map_cons,List.map_nil] at l y;rw [T,U,y] at l;simp only [List.length_cons,List.length_nil] at l;obtain⟨z,H,C,A⟩:=Zh4 l g i (r.out.trans o);clear l g o J K L M P R S f T U y i F r
 go_wp2_with (refine wpList_load_row rfl 102 (.tmp 1) rfl (c+1) rfl _ _ _ _ E.out Tryz.underlying102 rfl Tryz.lawInfo ?_)
 rw [C.out];try simp only [Nat.add_assoc,Nat.reduceAdd]
 rw [H.out];clear H C E;refine z.out.mono ?_;rintro e Y ⟨a0,Z,rfl,_,j⟩;have V:=Zh (A.out.trans j);clear j z A;go_wp2;go_ret;exact⟨rfl,V.out⟩
def Q5h(n:Nat)(L:List (List Nat)):List (List Nat):=L.flatMap fun o=>(Ue n o).map fun x=>o++[x]
def Q7z(n:Nat):Nat->List (List Nat)
 | 0=>[[]]
 | k+1=>Q5h n (Q7z n k)
section
variable {LD:List Q2} {qs:Qb}
end
def Q69(o:List Nat)(x y:Nat):Bool:=!(o.take (o.idxOf x)).contains y
def Q92(L:List (List Nat)) (x y:Nat):Bool:=decide (x≠y) && L.all fun o=>Q69 o x y
def Q97(LD:List Q2)(QS:List (Wd × Wd)):Prop:=LD.length<=4/\QS.length<=5/\Z9 LD QS=0
theorem Q6o{LD:List Q2}{a:List (Wd × Wd)} (f:LD.length<=6) (c:LD.all Zm=true) (d:a.length<=32) (b:∀ q∈a,wE q.1=0/\wE q.2=0):Z9 LD a=0:=by
 unfold Z9;rw [if_neg oz,if_pos c,if_neg oz];clear d
 induction a with
 | nil=>rfl
 | cons q a ih=>
  have:=b q zy;have e:wpE q=0:=by unfold wpE;rw [if_pos this.1];exact this.2
  rw [List.map_cons];unfold Z1;rw [if_pos e];exact ih fun q hq=>b q (by simp [hq])
theorem Wh{LD:List Q2}(h:Yj LD=0):LD.all Zm=true:=by
 unfold Yj at h
 split at h
 ·cases h
 ·split at h
  ·assumption
  ·cases h
theorem Dl(LD:List Q2)(qs:Qb)(n:Nat):Yg LD qs n=(Yh n).filter (Jf LD qs):=by unfold Yg;rw [Vy]
def Ys(x:List Nat):List Int:=x.map fun(i:Nat)=>(i:Int)
theorem Lx(x:List Nat):Yx (Ys x)=x:=by
 unfold Yx Ys;rw [List.map_map];conv=>rhs;rw [<-List.map_id x]
 apply List.map_congr_left;intro a _;simp
theorem P8(x:List Nat):Zs (Ys x)=Qj x:=by
 unfold Zs Ys Qj;rw [List.map_map];rfl
theorem Se{n:Nat}{x:List Nat}(a:x∈Yh n):Jl (Ys x) n=true:=by
 rw [<-Vy] at a;obtain⟨b,c⟩:=Fo n x a;unfold Jl Ys;rw [decide_eq_true_iff];apply List.Perm.map;rw [List.perm_ext_iff_of_nodup b List.nodup_range];intro d;rw [c,List.mem_range]
theorem Px{LD:List Q2}{a:List (Wd × Wd)} {x:List Nat} (h:Z9 LD a=0) (b:x∈Yh LD.length):Zy LD (Ys x) a=0:=by
 unfold Zy;rw [if_pos h,if_pos (Se b)]
def byI(ps:Qk)(x:List Nat)(qs:Qb):Int:=if Hj ps x qs=qs.length then -1 else(Hj ps x qs:Nat)
def Zq(n:Nat):List Nat:=List.range n
theorem Hh:∀ n,n<5->Zq n∈Yh n:=by decide
theorem Eg(LD:List Q2):(List.range LD.length).filterMap (fun x=>LD[x]?)=LD:=by
 have:∀ a,a<=LD.length->(List.range a).filterMap (fun x=>LD[x]?)=LD.take a:=by
  intro a
  induction a with
  | zero=>intro _;simp
  | succ a ih=>
   intro b;rw [List.range_succ,List.filterMap_append,ih oz,List.take_succ_eq_append_getElem oz];simp [show a<LD.length by omega]
 rw [this _ (Nat.le_refl _),List.take_length]
theorem Nn(LD:List Q2)(u:Wd):Yz LD (Zq LD.length) (some u)=Qq LD u:=by
 unfold Zq;rw [<-W3,Eg]
theorem Q42{LD:List Q2}{i:Nat}(p:i+1<LD.length)(u:Wd):Yz LD (Xm (Zq LD.length) i) (some u)=Qq ((LD.set i (LD.getD (i+1) ⟨⟨#[]⟩,.node 0 0 0 false 0 0 [],.node 0 0 0 false 0 0 [],[],[],0⟩)).set (i+1) (LD.getD i ⟨⟨#[]⟩,.node 0 0 0 false 0 0 [],.node 0 0 0 false 0 0 [],[],[],0⟩)) u:=by
 rw [<-W3]
 congr 1
 have k:(Xm (Zq LD.length) i).length=LD.length:=by rw [Wt];simp [Zq]
 have q:∀ x∈Xm (Zq LD.length) i,x<LD.length:=P9 (by simp [Zq];omega) (fun x g=>List.mem_range.1 g)
 -- a list of indexes gives the list of what they name
 have o:∀(c:List Nat),(∀ x∈c,x<LD.length)->c.filterMap (fun x=>LD[x]?)=c.map fun x=>LD.getD x ⟨⟨#[]⟩,.node 0 0 0 false 0 0 [],.node 0 0 0 false 0 0 [],[],[],0⟩:=by
  intro c
  induction c with
  | nil=>intro _;rfl
  | cons x c ih=>
   intro l;have g:=l x zy;rw [List.filterMap_cons,List.getElem?_eq_getElem g,ih fun y hy=>l y (by simp [hy]),List.map_cons,List.getD_eq_getElem?_getD,List.getElem?_eq_getElem g];rfl
 rw [o _ q];apply List.ext_getElem
 ·rw [List.length_map,k];simp
 ·intro b j s;rw [List.length_map,k] at j;rw [List.getElem_map,List.getElem_set,List.getElem_set];have r:(Xm (Zq LD.length) i)[b]'(by rw [k];exact j)=if b=i+1 then i else if b=i then i+1 else b:=by
   unfold Xm Zq;rw [List.getElem_set,List.getElem_set];have m:(List.range LD.length).getD (i+1) 0=i+1:=by rw [List.getD_eq_getElem?_getD];simp [p]
   have n:(List.range LD.length).getD i 0=i:=by rw [List.getD_eq_getElem?_getD];simp [show i<LD.length by omega]
   simp only [m,n,List.getElem_range]
   repeat' split
   all_goals omega
  rw [r];by_cases d:i+1=b
  ·rw [if_pos d.symm,if_pos d]
  ·rw [if_neg (fun e=>d e.symm),if_neg d];by_cases f:i=b
   ·rw [if_pos f.symm,if_pos f]
   ·rw [if_neg (fun e=>f e.symm),if_neg f,List.getD_eq_getElem?_getD,List.getElem?_eq_getElem j];rfl
theorem Lj{LD:List Q2}{qs:Qb}(a:∀ q∈qs,Qq LD q.1.1=some q.1.2):Jf LD qs (Zq LD.length)=true:=by
 unfold Jf Xa;rw [List.all_map,List.all_eq_true];intro q b;simp only [Function.comp,id];rw [Nn,a q b];simp [xB]
theorem Lk{LD:List Q2}{qs:Qb}(h4:LD.length<=4)(hE:Z9 LD (qs.map (·.1))=0):Zy LD (Ys (Zq LD.length)) (qs.map (·.1))=0:=Px hE (Hh _ oz)
section
variable {LD:List Q2} {qs:Qb} (h4:LD.length<=4) (hE:Z9 LD (qs.map (·.1))=0) (hd:∀ q∈qs,Qq LD q.1.1=some q.1.2)
include h4 hE hd
theorem Q7d:Fj LD (Ys (Zq LD.length)) qs=false:=by
 have a:=Lj hd;unfold Fj;rw [if_pos (Lk h4 hE)];unfold Hk;rw [Lx];rw [Ro,if_pos]
 ·rfl
 ·unfold Jf at a;rw [List.all_eq_true] at a;refine List.findIdx_eq_length.2 fun b hb=>?_
  have:=a b hb;simp only [id] at this;rw [this];rfl
theorem Nf:Wi LD qs=0:=by
 unfold Wi;rw [if_pos hE,if_neg];intro a;have b:Zq LD.length∈Yg LD qs LD.length:=by
  rw [Dl];exact List.mem_filter.2 ⟨Hh _ oz,Lj hd⟩
 rw [List.isEmpty_iff] at a;rw [a] at b;cases b
theorem Q0r:∀ p∈Vu LD qs,p.1<p.2:=by
 intro p a;have b:Zq LD.length∈Yg LD qs LD.length:=by
  rw [Dl];exact List.mem_filter.2 ⟨Hh _ oz,Lj hd⟩
 unfold Vu at a;rw [if_pos (Nf h4 hE hd)] at a;unfold Kz at a;obtain⟨d,m,a⟩:=List.mem_flatMap.1 a;obtain⟨f,k,rfl⟩:=List.mem_map.1 a;obtain⟨o,l⟩:=List.mem_filter.1 k;have c:=(Q2k (Eb LD qs LD.length) (fun e=>by rw [e] at b;cases b)).1 l;have j:=c.2.2 _ b
 have i:∀ x,x<LD.length->(Zq LD.length).idxOf x=x:=fun x hx=>by
  have:=List.nodup_range (n:=LD.length);have g:=this.idxOf_getElem x (by simpa using hx);rw [List.getElem_range] at g;exact g
 rw [i d c.1,i f c.2.1] at j;show (d:Int)<(f:Int);omega
end
def Yf(LD:List Q2)(i:Nat):List Q2:=(LD.set i (LD.getD (i+1) ⟨⟨#[]⟩,.node 0 0 0 false 0 0 [],.node 0 0 0 false 0 0 [],[],[],0⟩)).set (i+1) (LD.getD i ⟨⟨#[]⟩,.node 0 0 0 false 0 0 [],.node 0 0 0 false 0 0 [],[],[],0⟩)
def Jk(LD:List Q2)(us:List Wd)(i:Nat):Bool:=us.any fun u=>decide (Qq LD u≠Qq (Yf LD i) u)
def Ho(LD:List Q2)(us:List Wd):List Nat:=(List.range (LD.length - 1)).filter (Jk LD us)
theorem Cl{LD:List Q2}{qs:Qb}(m:LD.length<=4)(n:Z9 LD (qs.map (·.1))=0) (g:∀ q∈qs,Qq LD q.1.1=some q.1.2) (p:∀ i,i+1<LD.length->∀ q∈qs,(Qq (Yf LD i) q.1.1).isSome=true) :
  K0 LD (Ys (Zq LD.length)) qs=Ho LD (qs.map (·.1.1)):=by
 unfold K0 Ho;rw [if_pos (Lk m n),Lx,show (Ys (Zq LD.length)).length=LD.length by simp [Ys,Zq]];refine List.filter_congr fun i hi=>?_
 rw [List.mem_range] at hi;have l:i+1<LD.length:=by omega
 have o:Xa LD (Zq LD.length) qs=List.replicate qs.length true:=by
  unfold Xa;refine List.eq_replicate_iff.2 ⟨by rw [List.length_map],fun j f=>?_⟩;obtain⟨q,d,rfl⟩:=List.mem_map.1 f;rw [Nn,g q d];simp [xB]
 unfold Gq exB Jk;rw [o,List.length_replicate,Bool.eq_iff_iff,List.any_eq_true,List.any_eq_true]
 have k:∀ a (b:a<qs.length),(Xa LD (Xm (Zq LD.length) i) qs).getD a false=xB (Qq (Yf LD i) qs[a].1.1) qs[a].1.2:=fun a b=>by
  unfold Xa;rw [List.getD_eq_getElem?_getD,List.getElem?_eq_getElem (by rw [List.length_map];exact b),List.getElem_map,Q42 l];rfl
 constructor
 ·rintro⟨a,b,c⟩;rw [List.mem_range] at b;rw [Bool.and_eq_true,k a b] at c;refine⟨qs[a].1.1,List.mem_map.2 ⟨qs[a],List.getElem_mem b,rfl⟩,?_⟩;rw [decide_eq_true_iff,g _ (List.getElem_mem b)];intro e;rw [<-e] at c;simp [xB] at c
 ·rintro⟨s,r,c⟩;obtain⟨q,d,rfl⟩:=List.mem_map.1 r;obtain⟨a,b,rfl⟩:=List.getElem_of_mem d;refine⟨a,List.mem_range.2 b,?_⟩;rw [Bool.and_eq_true,k a b];rw [decide_eq_true_iff,g _ d] at c;refine⟨by rw [List.getD_eq_getElem?_getD,List.getElem?_replicate,if_pos b];rfl,?_⟩;obtain⟨j,f⟩:=Option.isSome_iff_exists.1 (p i l _ d);rw [f] at c ⊢;have:¬ j=qs[a].1.2:=fun e=>c (by rw [e]);simp [xB,this]
theorem Ts{l:List Int}(h:∀ x∈l,x=0):Z1 l=0:=by
 induction l with
 | nil=>rfl
 | cons e l ih=>unfold Z1;rw [if_pos (h e zy)];exact ih fun x hx=>h x (by simp [hx])
theorem Yr{LD:List Q2}{us:List Wd}(h:Zv LD us=0):Yj LD=0/\us.length<=256/\∀ u∈us,wE u=0:=by
 unfold Zv at h
 split at h
 ·rename_i a
  split at h
  ·cases h
  ·rename_i b
   exact⟨a,by omega,fun u hu=>Fs h _ (List.mem_map.2 ⟨u,hu,rfl⟩)⟩
 ·contradiction
theorem Ds{LD:List Q2}(h:Yj LD=0):LD.length<=64:=by
 unfold Yj at h
 split at h
 ·cases h
 ·omega
theorem Hl{LD:List Q2}{u:Wd}(h:Yj LD=0)(b:wE u=0):(Xs LD u=0↔(Qq LD u).isSome=true)/\Y9 LD u=(Qq LD u).getD []:=by
 have a:Uu LD u=0:=by unfold Uu;rw [if_pos h];exact b
 unfold Xs Y9;rw [if_pos a,if_pos a];refine⟨?_,rfl⟩
 split <;> simp_all
def prQ(LD:List Q2)(us:List Wd):List (Wd × Wd):=us.map fun u=>(u,Y9 LD u)
def prE(LD:List Q2)(us:List Wd):Int:=if Zv LD us=0 then(if (us.all fun u=>(Qq LD u).isSome)=true then 0 else 11) else Zv LD us
theorem Lg{LD:List Q2}{us:List Wd}(h:prE LD us=0):Zv LD us=0/\∀ u∈us,(Qq LD u).isSome=true:=by
 unfold prE at h
 split at h
 ·rename_i a
  split at h
  ·rename_i b
   exact⟨a,List.all_eq_true.1 b⟩
  ·cases h
 ·contradiction
theorem Q76{LD:List Q2}{us:List Wd}(h:Zv LD us≠0):prE LD us=Zv LD us:=by unfold prE;rw [if_neg h]
theorem Q73{LD:List Q2}{us:List Wd}(h:Zv LD us=0)(a:∀ u∈us,(Qq LD u).isSome=true):prE LD us=0:=by
 unfold prE;rw [if_pos h,if_pos (List.all_eq_true.2 a)]
theorem Q55{LD:List Q2}{us:List Wd}(h:Zv LD us=0){u:Wd}(c:u∈us)(a:Qq LD u=none):prE LD us=11:=by
 unfold prE;rw [if_pos h,if_neg];intro b;have:=List.all_eq_true.1 b u c;rw [a] at this;cases this
theorem Q4d{LD:List Q2}{us:List Wd}{k:Nat}(a:k<us.length):prQ LD (us.take (k+1))=prQ LD (us.take k)++[(us.getD k [],Y9 LD (us.getD k []))]:=by
 unfold prQ;rw [List.take_succ_eq_append_getElem a,List.map_append,List.getD_eq_getElem?_getD,List.getElem?_eq_getElem a];rfl
theorem Q3j{P:Wd->Prop}{us:List Wd}{k:Nat}(c:k<us.length)(h:∀ u∈us.take k,P u)(b:P (us.getD k [])):∀ u∈us.take (k+1),P u:=by
 rw [List.take_succ_eq_append_getElem c];rw [List.getD_eq_getElem?_getD,List.getElem?_eq_getElem c] at b;intro u a;rcases List.mem_append.1 a with a | a
 ·exact h u a
 ·rw [List.mem_singleton] at a;subst a;exact b
theorem Hx{us:List Wd}{k:Nat}(a:k<us.length):us.getD k []∈us:=by
 rw [List.getD_eq_getElem?_getD,List.getElem?_eq_getElem a];exact List.getElem_mem a
theorem Q4k{LD:List Q2}{us:List Wd}{b:List (Wd × Wd)} (h:prE LD us=0) (p:LD.length<=4) (r:us.length<=6) (m:∀ l∈LD,∀ x∈l.outs,Xe x) (j:∀ u∈us,Yb u) (a:b=prQ LD us) :
  Z9 LD b=0/\(∀ q∈b,Qq LD q.1=some q.2)/\b.map (·.1)=us:=by
 subst a;obtain⟨k,n⟩:=Lg h;obtain⟨g,_,e⟩:=Yr k
 have f:∀ q∈prQ LD us,Qq LD q.1=some q.2/\q.1∈us:=fun q a=>by
  obtain⟨u,d,rfl⟩:=List.mem_map.1 a;refine⟨?_,d⟩;obtain⟨s,o⟩:=Option.isSome_iff_exists.1 (n u d);show Qq LD u=some (Y9 LD u);rw [(Hl g (e u d)).2,o];rfl
 refine⟨Q6o oz (Wh g) (by unfold prQ;rw [List.length_map];omega) (fun q a=>?_),fun q a=>(f q a).1,?_⟩
 ·obtain⟨i,c⟩:=f q a;exact⟨e _ c,(Bn m (j _ c) (e _ c) i).1⟩
 ·unfold prQ;rw [List.map_map];exact List.map_id _
theorem Q4r(LD:List Q2)(i:Nat):(Yf LD i).length=LD.length:=by unfold Yf;simp
theorem Q5g{LD:List Q2}{i:Nat}(c:i+1<LD.length):∀ l∈Yf LD i,l∈LD:=by
 intro l a;unfold Yf at a
 have b:∀ j,j<LD.length->LD.getD j ⟨⟨#[]⟩,.node 0 0 0 false 0 0 [],.node 0 0 0 false 0 0 [],[],[],0⟩∈LD:=fun j hj=>by
  rw [List.getD_eq_getElem?_getD,List.getElem?_eq_getElem hj];exact List.getElem_mem hj
 rcases List.mem_or_eq_of_mem_set a with a | rfl
 ·rcases List.mem_or_eq_of_mem_set a with a | rfl
  ·exact a
  ·exact b _ c
 ·exact b _ oz
theorem M7{LD:List Q2}{i:Nat}(b:i+1<LD.length)(h:Yj LD=0):Yj (Yf LD i)=0:=by
 have c:=Ds h;have a:=Wh h;unfold Yj;rw [Q4r,if_neg oz,if_pos];exact List.all_eq_true.2 fun l hl=>List.all_eq_true.1 a l (Q5g b l hl)
theorem Q33{LD:List Q2}{us:List Wd}{i:Nat}(l:i+1<LD.length)(n:Zv LD us=0)(p:∀ u∈us,(Qq LD u).isSome=true) (q:∀ u∈us,(Qq (Yf LD i) u).isSome=true) :
  Jk LD us i=!decide (us.map (Y9 LD)=us.map (Y9 (Yf LD i))):=by
 obtain⟨c,_,d⟩:=Yr n;have m:=M7 l c
 have e:∀ u∈us,(Qq LD u=Qq (Yf LD i) u↔Y9 LD u=Y9 (Yf LD i) u):=fun u a=>by
  obtain⟨r,j⟩:=Option.isSome_iff_exists.1 (p u a);obtain⟨s,k⟩:=Option.isSome_iff_exists.1 (q u a);rw [(Hl c (d u a)).2,(Hl m (d u a)).2,j,k];simp
 unfold Jk;rw [Bool.eq_iff_iff,List.any_eq_true,Bool.not_eq_true',decide_eq_false_iff_not];constructor
 ·rintro⟨u,a,b⟩ f;rw [decide_eq_true_iff] at b;exact b ((e u a).2 (List.map_inj_left.1 f u a))
 ·intro b;apply Classical.byContradiction;intro o;apply b;refine List.map_inj_left.2 fun u a=>(e u a).1 ?_
  apply Classical.byContradiction;intro g;exact o ⟨u,a,by rw [decide_eq_true_iff];exact g⟩
def U6(ps:Qk)(i:Nat):Qk:=(ps.set i (ps.getD (i+1) (⟨⟨#[]⟩,.node 0 0 0 false 0 0 [],.node 0 0 0 false 0 0 [],[],[],0⟩,[]))).set (i+1) (ps.getD i (⟨⟨#[]⟩,.node 0 0 0 false 0 0 [],.node 0 0 0 false 0 0 [],[],[],0⟩,[]))
theorem Q1g(ps:Qk)(i:Nat):(U6 ps i).map (·.1)=Yf (ps.map (·.1)) i:=by
 unfold U6 Yf;rw [List.map_set,List.map_set]
 congr 2
 ·simp only [List.getD_eq_getElem?_getD,List.getElem?_map];cases ps[i+1]? <;> rfl
 ·simp only [List.getD_eq_getElem?_getD,List.getElem?_map];cases ps[i]? <;> rfl
theorem P5(ps:Qk)(i:Nat):(U6 ps i).length=ps.length:=by unfold U6;simp
theorem Q1s{ps:Qk}{i:Nat}(c:i+1<ps.length):∀ l∈U6 ps i,l∈ps:=by
 intro l a;unfold U6 at a
 have b:∀ j,j<ps.length->ps.getD j (⟨⟨#[]⟩,.node 0 0 0 false 0 0 [],.node 0 0 0 false 0 0 [],[],[],0⟩,[])∈ps:=fun j hj=>by
  rw [List.getD_eq_getElem?_getD,List.getElem?_eq_getElem hj];exact List.getElem_mem hj
 rcases List.mem_or_eq_of_mem_set a with a | rfl
 ·rcases List.mem_or_eq_of_mem_set a with a | rfl
  ·exact a
  ·exact b _ c
 ·exact b _ oz
theorem Hc{a:Func}{p q:Tmp}(h:a.results=#[.tmp p,.cell q 40]){tmps:Array Value}{w:World}{g:Nat}{x:Value}{y:Int}{t:TypeId}(d:tmps.getD p undef=x)(f:tmps.getD q undef=.pointer (some ⟨g,0,none⟩)) (c:w.heap[g]?=some (.cells #[.int .i64 y] t (0,0))) :
  (results a tmps).run Tryz.prog w=.ok (.tuple #[x,.int .i64 y]) w:=by
 have b:=cell_of_one c;have e:tmps[p]?.getD undef=x:=by simpa using d
 have i:tmps[q]?.getD undef=.pointer (some ⟨g,0,none⟩):=by simpa using f
 simp [results,h,e,i,asAddr,loadVar,isAgg,run_underlying Tryz.underlying40,go_sem,b]
theorem Q26{P:Program}{b:Func}{R:Ending->World->Prop}{a:Act}{w:World}{v:Value}(c:a.defers=[])(d:(results b a.tmps).run P w=.ok v w) (h:R (.returned v) w):bodyPostD P b R .ret a w:=by
 show Leaves P b a.tmps R a.defers .returning w;rw [c];exact⟨v,d,h⟩
theorem Q3p{P:Program}{fn:Func}{R:Ending->World->Prop}{a:Act}{w:World}(h:Leaves P fn a.tmps R a.defers .returning w):bodyPostD P fn R .ret a w:=h
theorem Q0q{P:Program}{fn:Func}{R:Ending->World->Prop}{a:Act}{w:World}{c:List PanicEntry}(h:Leaves P fn a.tmps R a.defers (.panicking c) w):bodyPostD P fn R (.panic c) a w:=h
theorem Rt{W:World}{E:Nat}{x:Value}{t:TypeId}(h:W.heap[E]?=some (.cells #[x] t (0,0))):W.setCell ⟨E,0,none⟩ x=W:=by
 have a:W.heap.modify E (fun o=>match o with | .cells vs t m=>.cells (vs.setIfInBounds 0 x) t m | o=>o)=W.heap:=by
  apply Array.ext_getElem?;intro c;rw [Array.getElem?_modify]
  split
  ·rename_i b
   subst b;rw [h];rfl
  ·rfl
 unfold World.setCell;first | exact congrArg (fun hp=>{ W with heap:=hp }) a | (rw [a])
theorem Q5j{W:World}{base:Nat}{e:TypeId}{ao:Option Addr}{c:Nat}{u:Wd}(h:W.ownsRow base e 2 (.slice ao u.length c) u.length (Zn u)) (hu:Yb u):Qo W (.slice ao u.length c) u:=⟨ao,c,rfl,⟨Rd.of_own h,hu⟩,Bw h⟩
def Hg(LD:List Q2)(us:List Wd)(k:Nat)(W:World)(qs:Qb):Prop:=qs.length=k/\(∀ q∈qs,q.2.length=2/\Js W q.1 q.2)/\qs.map (·.1)=prQ LD (us.take k)/\∀ u∈us.take k,(Qq LD u).isSome=true
theorem Hg.ext{LD:List Q2}{us:List Wd}{k:Nat}{A B:World}{qs:Qb}(h:Hg LD us k A qs)(ht:Ext A B):Hg LD us k B qs:=⟨h.1,fun q hq=>⟨(h.2.1 q hq).1,(h.2.1 q hq).2.ext ht⟩,h.2.2⟩
theorem Hg.row{LD:List Q2}{us:List Wd}{k:Nat}{A B:World}{qs:Qb}{v:Value}{base:Nat}{e:TypeId}{sz n:Nat}{xs:List Value}(h:Hg LD us k A qs)(hr:X6 H8 A v)(ho:A.ownsRow base e sz v n xs)(ht:Q0 (fun b=>v.ownBlock=some b) A B):Hg LD us k B qs:=
 ⟨h.1,fun q hq=>⟨(h.2.1 q hq).1,(h.2.1 q hq).2.row hr ho ht⟩,h.2.2⟩
theorem Hg.snoc{LD:List Q2}{us:List Wd}{k:Nat}{W:World}{qs:Qb}(h:Hg LD us k W qs)(e:k<us.length){a b:Value}{d:Wd}(n:Qo W a (us.getD k [])) (o:Qo W b d) (l:Qq LD (us.getD k [])=some d) (m:Y9 LD (us.getD k [])=d) :
  Hg LD us (k+1) W (qs++[((us.getD k [],d),[a,b])]):=by
 obtain⟨f,g,i,j⟩:=h;refine⟨by simp [f],fun q c=>?_,?_,Q3j e j (by rw [l];rfl)⟩
 ·rcases List.mem_append.1 c with c | c
  ·exact g q c
  ·rw [List.mem_singleton] at c;subst c;exact⟨rfl,_,_,rfl,n,o⟩
 ·rw [List.map_append,i,Q4d e,m];rfl
def Q7l(RE:Int)(Q:List (Wd × Wd)) (m:Nat) (w:World) (e:Ending) (w':World):Prop:=∃(po:Option Addr) (pm pc:Nat) (qs:Qb),e=.returned (.tuple #[.slice po pm pc,.int .i64 RE])/\(RE=0->pm=m/\qs.length=m/\Zw w' (.slice po m pc) qs/\qs.map (·.1)=Q/\m<=pc)/\Ext w w'
def Q8t(m X E:Nat)(lv wv:Value)(ds:List Deferred)(LD:List Q2)(us:List Wd)(w:World)(a:Act)(W:World):Prop:=∃(k:Nat) (po:Option Addr) (pc:Nat) (qs:Qb),k<=m/\a.defers=ds/\gS a [0,4,5,7,16,17,18]=(33,[lv,.slice none 0 0,.pointer (some ⟨E,0,none⟩),.slice po k pc,wv,.int .i64 m,.int .i64 k])/\W.ownsRow X 105 2 (.slice po k pc) k (qs.flatMap (·.2))/\X6 H8 W (.slice po k pc)/\Hg LD us k W qs/\W.heap[E]?=some (.cells #[.int .i64 0] 40 (0,0))/\Ext w W
theorem Ex{w:World}{ps:Qk}{lo:Option Addr}{n lc:Nat}{i3:Option Addr}{m i2:Nat}{us:List Wd}(g2:Qv w (.slice lo n lc) ps) (g3:ps.length=n) (c0:Zz w (.slice i3 m i2) us) (X:us.length=m) (f8:Tab w) :
  Calls Tryz.prog 24 #[.slice lo n lc,.slice i3 m i2] w (Q7l (prE (ps.map (·.1)) us) (prQ (ps.map (·.1)) us) m w):=by
 have b6:=fun(V:World) (i:Ext w V)=>Tu (g2.ext i) g3 (c0.ext i) X (f8.keep i id);have p0:m<=maxLen:=by obtain⟨_,p1,_⟩:=c0;rw [<-X];exact p1.2.1
 unfold maxLen at p0;obtain⟨d,f5⟩:=zE (ps.map (·.1));have m2:=fun(V:World) (i:Ext w V) (c:Nat) (N:c<m)=>Jq (c0.ext i) X N;have C:=fun(g:Zv d us=0) (V:World) (i:Ext w V) (c:Nat) (N:c<m) (vo:Option Addr) (vc:Nat) (h:Qo V (.slice vo (us.getD c []).length vc) (us.getD c []))=>L1 (g2.ext i) g3 (fun p hp=>List.all_eq_true.1 (Wh (Yr g).1) _ (by rw [<-f5];exact List.mem_map.2 ⟨p,hp,rfl⟩)) (Ku h) rfl ((Yr g).2.2 _ (Hx oz)) (f8.keep i id);simp only [f5] at b6 C ⊢
 have L:Zv d us=0->∀ c,c<m->∀ k,Qq d (us.getD c [])=some k->Y9 d (us.getD c [])=k:=fun g c N k J=>by
  rw [(Hl (Yr g).1 ((Yr g).2.2 _ (Hx oz))).2,J];rfl
 have b5:Zv d us≠0->prE d us=Zv d us:=Q76;have A:Zv d us=0->∀ c,c<m->Qq d (us.getD c [])=none->prE d us=11:=fun g c N h=>Q55 g (Hx oz) h;have B:Zv d us=0->(∀ v∈us.take m,(Qq d v).isSome=true)->prE d us=0:=fun g h=>Q73 g (by rwa [List.take_of_length_le oz] at h);have H:Zv d us=0->∀ c,c<m->(us.getD c []).length<=32:=fun g c N=>(Cw.1 ((Yr g).2.2 _ (Hx oz))).1;have b0:Zv d us=0->m<=256:=fun g=>by have:=(Yr g).2.1;omega
 obtain⟨a7,f7⟩:=zE (prE d us);rw [f7] at b5 ⊢;simp only [f7] at A B;obtain⟨k4,l6⟩:=zE (Zv d us);simp only [l6] at b6 C L b5 A B b0 H;obtain⟨i7,a4,e8,d2,i6,d7,d9,d0⟩:=Zh8 b6 m2 C L b5 A B b0;have d1:=Zh H;have e4:=Zh X;clear b6 m2 C L b5 A B b0 H f5 f7 l6 g2 g3 c0 X f8
 go_enter_defers Tryz.func24,Tryz.ntmps24
 go_upto_region 1 with (fail)
 obtain⟨c9,a2⟩:=zE (w.alloc (.cells #[.int .i64 0] 40));have k8:Ext w c9:=by rw [<-a2];exact(Q0.refl _ w).alloc _
 have g1:c9.heap[w.heap.size]?=some (.cells #[.int .i64 0] 40 (0,0)):=by rw [<-a2];exact Q5 rfl
 have g6:c9.heap.size=w.heap.size+1:=by rw [<-a2];simp
 rw [a2];obtain⟨e,f4⟩:=zE w.heap.size;rw [f4] at g1 g6 ⊢;obtain⟨j1,i9,d4,j9⟩:=Zh4 f4 g1 k8 g6;clear a2 f4 g1 k8 g6;go_wp2_with fail;refine(i7.out c9 d4.out).mono ?_;rintro l t ⟨rfl,b2⟩;have m4:=b2.keep i9.out;obtain⟨F,j2,k0⟩:=Zh3 m4 (d4.out.trans b2) (show e+1<=t.heap.size by have:=b2.size;have:=j9.out;omega);clear m4 b2 i7 i9 d4 j9;by_cases g:k4=0;case neg=>
  have p8:(k4 != 0)=true:=by rw [bne_iff_ne];exact g
  have a0:=i6.out g;subst a0;have f2:=cell_of_one F.out;have f3:=free_of_one F.out;have a1:Q0 (fun b=>b=e) t (t.setCell ⟨e,0,none⟩ (.int .i64 a7)):=Q0.set1 t e 0 _;have W:(t.setCell ⟨e,0,none⟩ (.int .i64 a7)).heap[e]?=some (.cells #[.int .i64 a7] 40 (0,0)):=by
   have:=F.out;simp only [World.setCell,Array.getElem?_modify,this];simp
  have T:Ext w (t.setCell ⟨e,0,none⟩ (.int .i64 a7)):=j2.out.after a1 (fun b hb l=>by have:=j1.out;omega);have e2:=Zh W;have d5:=Zh T;clear a1 W T a4 e8 d2 d7 d9 d0 d1 e4 F;go_wp2;refine Q26 rfl (Hc rfl rfl rfl e2.out) ⟨none,0,0,[],rfl,fun h=>absurd h g,d5.out⟩
 subst g;have b0:=d0.out uz;have L:=d2.out uz;have A:=d7.out uz;have B:=d9.out uz;have C:=e8.out uz;have H:=d1.out uz;obtain⟨i5,d3,d8,e0,e9⟩:=Zh5 H L A B C;clear L A B C H d1 d2 d7 d9 e8 d0 i6;obtain⟨y,f9⟩:=zE t.heap.size;have m1:=k0.out;rw [f9] at m1;have k3:=Zh f9;clear f9 k0;go_wp2;refine wp_loop (Q8t m y e (.slice lo n lc) (.slice i3 m i2) [{ target:=.fn (.func 80) #[],args:=#[.pointer (some ⟨e,0,none⟩)] }] d us t) (fun a _=>m - (intOf (a.tmps.getD 18 undef)).toNat) ?_ ?_
 ·exact⟨0,none,0,[],by omega,rfl,rfl,World.ownsRow_nil _ _ _ _,X6.nil _,⟨rfl,(fun _ h=>by cases h),rfl,(fun _ h=>by simp at h)⟩,F.out,Q0.refl _ _⟩
 have p9:e<y:=by omega
 clear F m1;rintro⟨q2,_⟩ r ⟨c,i1,i0,E,N,o9,n1,l7,l1,l4,s,i⟩;subst o9;obtain⟨v,rfl⟩:=Z0 n1;clear n1;obtain⟨q,a5,a6,u,G,d6⟩:=Zh6 l7 l1 l4 s (j2.out.trans i) i;clear l7 l1 l4 s i;by_cases O:c<m;case neg=>
  obtain rfl:c=m:=by omega
  have S:¬ (c:Int)<(c:Int):=by omega
  obtain⟨g8,n4,g9,n5⟩:=a6.out;have a0:=e0.out n5;subst a0;rw [List.take_of_length_le (by have:=e4.out;omega)] at g9;have m9:Zw r (.slice i1 c i0) E:=⟨by have:=Rd.of_own q.out;rw [g8];exact this,n4⟩;have f2:=cell_of_one u.out;have f3:=free_of_one u.out;have n0:=Rt u.out;have o6:=Zh n0;have o8:=Bw q.out;obtain⟨o5,o1,o2⟩:=Zh3 m9 g8 g9;clear n0 m9 g8 n4 g9 n5 a6 a5 q d3 d8 e9 a4 e0;go_wp2;rw [o6.out];refine Q3p (leaves_cons (f:=80) (args:=#[.pointer (some ⟨e,0,none⟩)]) zy (by simp [go_sem]) ?_);refine(L0 _ _).mono ?_;rintro l p2 p3 ⟨rfl,rfl,rfl⟩;exact⟨_,Hc rfl rfl rfl u.out,i1,c,i0,E,rfl,fun _=>⟨rfl,o1.out,o5.out,o2.out,o8⟩,G.out⟩
 have S:(c:Int)<(m:Int):=by omega
 have p7:(0:Int)<=(c:Int):=by omega
 have m6:c<us.length:=by rw [e4.out];exact O
 obtain⟨p6,q1,rfl,p5,p4,g0,Y⟩:=a4.out r G.out c O;have g7:=fun(D:World) (a b:Value) (k:Wd) (s:Ext r D) (ha:Qo D a (us.getD c [])) (hb:Qo D b k) (S:Qq d (us.getD c [])=some k)=>(a6.out.ext s).snoc m6 ha hb S (d3.out c O k S);have M:=d8.out c O;have b7:=fun(D:World) (s:Ext r D)=>Fa (Ku (Y.ext s)) (by have:=i5.out c O;omega);have b8:=fun(D:World) (s:Ext r D)=>e9.out D (G.out.trans s) c O p5 p4 (Y.ext s);obtain⟨v,n2⟩:=zE (us.getD c []);simp only [n2] at g0 Y g7 M b7 b8;obtain⟨a3,b9⟩:=zE v.length;rw [b9] at g0;simp only [b9] at b7 b8;have m3:=b7 r (Q0.refl _ r);obtain⟨i8,j8,f1,e1,k1⟩:=Zh5 m3 b8 g7 M b9;have n3:=(Ku Y).2;have k2:=Zh n3;clear m3 b7 b8 g7 M n3 Y n2 b9 a6 e0 d3 d8 e9 a4 i5 m6;go_wp2_with fail;refine i8.out.mono ?_;rintro l k5 ⟨R,Q,rfl,U,f6⟩;have Z:Qo k5 (.slice R a3 Q) v:=by have:=k1.out;subst this;exact Q5j U k2.out
 have m8:=j8.out k5 f6;obtain⟨e7,f0,P⟩:=Zh3 Z m8 f6;clear Z m8 U f6 i8 j8 g0;go_wp2_with fail;refine f0.out.mono ?_;rintro l j (⟨k,n6,J,rfl,g5,z⟩ | ⟨J,rfl,z⟩);case inr=>
  have a0:=e1.out J;subst a0;have b1:=(show Ext r j from P.out.trans z).keep u.out;have k9:=G.out.trans (P.out.trans z);have f2:=cell_of_one b1;have f3:=free_of_one b1;have a1:Q0 (fun b=>b=e) j (j.setCell ⟨e,0,none⟩ (.int .i64 11)):=Q0.set1 j e 0 _;have W:(j.setCell ⟨e,0,none⟩ (.int .i64 11)).heap[e]?=some (.cells #[.int .i64 11] 40 (0,0)):=by
   simp only [World.setCell,Array.getElem?_modify,b1];simp
  have T:Ext w (j.setCell ⟨e,0,none⟩ (.int .i64 11)):=k9.after a1 (fun b hb l=>by have:=j1.out;omega);have e2:=Zh W;have d5:=Zh T;clear a1 W T k9 z b1 P f0 e7 f1 e1 q a5 u G;go_wp2;refine Q0q (leaves_cons (f:=80) (args:=#[.pointer (some ⟨e,0,none⟩)]) zy (by simp [go_sem]) ?_);refine(M5 _ [] _ 0 f2 f3).mono ?_;rintro l p2 p3 ⟨rfl,rfl,rfl⟩;show ∃ n6,(results _ _).run _ _=.ok n6 _/\_;exact⟨_,Hc rfl rfl rfl e2.out,none,0,0,[],rfl,fun h=>absurd h zd,d5.out⟩
 obtain⟨c8,c1,rfl,_⟩:=id g5;have j6:=Zh g5;have e5:=Zh (P.out.trans z);have Z:=e7.out.ext z;have j5:=Zh Z;clear g5 z Z e7 P f0 e1;obtain⟨a9,m5⟩:=zE k.length;have g4:=j6.out;rw [m5] at g4 ⊢;have j7:=Zh g4;clear m5 g4 j6;obtain⟨a8,m0⟩:=zE (j.alloc (.cells #[.slice R a3 Q,.slice c8 a9 c1] 105));have b3:Ext j a8:=by rw [<-m0];exact(Q0.refl _ j).alloc _
 have I:Ext r a8:=e5.out.trans b3;have U:=Qc q.out I;have l2:X6 H8 a8 (.slice i1 c i0):=a5.out.keep q.out I (fun _ _ h=>h);have m7:=f1.out a8 (.slice R a3 Q) (.slice c8 a9 c1) k I (j5.out.ext b3) (j7.out.ext b3) J;have q0:y<=j.heap.size:=by have:=d6.out.size;have:=e5.out.size;have:=k3.out;omega
 have k6:=I.keep u.out;obtain⟨e6,e3,j4,j3,j0⟩:=Zh5 U l2 m7 I k6;clear U l2 m7 I b3 k6 J f1 j5 j7 k1 k2 u;subst m0
 go_wp2_with (at_builtin;refine Fp (K:=H8) rfl (.tmp 22) (.tmp 29) 61 rfl y 105 _ 2 48 Tryz.underlying61 Q7k rfl zd _ _ _ rfl e6.out ⟨j.heap.size,0,none⟩ 1 1 [.slice R a3 Q,.slice c8 a9 c1] rfl rfl (Ze rfl) ?c2 ?c3 ?c4 ?c5 ?c6 ?c7 e3.out ?_)
 case c2=>intro i4 o;simp only [List.mem_cons,List.not_mem_nil,or_false] at o;rcases o with rfl | rfl <;> rfl
 case c3=>unfold maxLen;omega
 case c4=>omega
 case c5=>first | omega | (simp;omega)
 case c6=>intro i4 o;have o:i4∈[Value.slice none 0 0,.slice none 0 0]:=o;simp only [List.mem_cons,List.not_mem_nil,or_false,or_self] at o;exact⟨_,_,_,o⟩
 case c7=>intro i4 o;simp only [List.mem_cons,List.not_mem_nil,or_false] at o;rcases o with rfl | rfl <;> exact⟨_,_,_,rfl⟩
 intro o7 c5 n7 l8 b4 l3;have l0:Ext t n7:=(d6.out.trans j3.out).after b4 (fun b' S l=>by have:=(q.out.lt _ l).1;have:=k3.out;omega);have l5:=j4.out.row e3.out e6.out b4;have k7:=b4.heap j0.out (fun l=>by have:=(q.out.lt _ l).1;omega);have M:∀(E:Qb) (p:(Wd × Wd) × List Value),(E++[p]).flatMap (·.2)=E.flatMap (·.2)++p.2:=fun E p=>by simp
 have l9:n7.ownsRow y 105 2 (.slice o7 (c+1) c5) (c+1) ((E++([((v,k),[Value.slice R a3 Q,Value.slice c8 a9 c1])]:Qb)).flatMap (·.2)):=by rw [M];exact l8
 obtain⟨o4,n9,o3,o0,n8⟩:=Zh5 l9 l0 l5 l3 k7;clear l8 l0 b4 l5 l3 l9 M k7 e6 e3 j4 j3 q a5 G d6 e5 j0;go_wp2;exact⟨⟨c+1,_,_,_,by omega,tz,rfl,o4.out,o0.out,o3.out,n8.out,n9.out⟩,mz⟩
theorem Q79:(Tryz.prog.info? 99).map (fun i=>(i.zero,i.size,i.bytes))=some (some (.slice none 0 0),1,24):=by kernel_rfl
theorem Fk{a:Func}{t u:Tmp}(h:a.results=#[.tmp t,.tmp u])(tmps:Array Value)(P:Program)(w:World) :
  (results a tmps).run P w=.ok (.tuple #[tmps.getD t undef,tmps.getD u undef]) w:=by
 simp [results,h,go_sem]
theorem Z4.rowT{A B:World}{v:Value}{base:Nat}{e:TypeId}{sz n:Nat}{xs:List Value}(hr:X6 H8 A v)(ho:A.ownsRow base e sz v n xs)(ht:Q0 (fun b=>v.ownBlock=some b) A B):∀ {vs:List Value} {us:List Wd},Z4 A vs us->Z4 B vs us
 | [],[],_=>trivial
 | _::_,_::_,⟨h1,h2⟩=>⟨h1.row hr ho ht,Z4.rowT hr ho ht h2⟩
theorem Q4s{W:World}{v:Value}{vs:List Value}{us:List Wd}(h:Z4 W vs us)(hr:Rd W v us.length 1 vs):Zz W v us:=
 ⟨vs,hr,fun i hi=>by have:=h.get i hi;rwa [List.getD_eq_getElem?_getD (l:=us),List.getElem?_eq_getElem hi] at this⟩
theorem Mb{w:World}{ps:Qk}{lo:Option Addr}{n lc:Nat}{c1:Option Addr}{m c0:Nat}{us:List Wd}(g0:Qv w (.slice lo n lc) ps) (g1:ps.length=n) (y:Zz w (.slice c1 m c0) us) (S:us.length=m) (k0:m<=256) (f2:Tab w) :
  Calls Tryz.prog 137 #[.slice lo n lc,.slice c1 m c0] w fun e w'=>∃ vo vn vc,e=.returned (.tuple #[.slice vo vn vc,.int .i64 (Z1 (us.map (Xs (ps.map (·.1)))))])/\(Z1 (us.map (Xs (ps.map (·.1))))=0->vn=m/\Zz w' (.slice vo m vc) (us.map (Y9 (ps.map (·.1)))))/\Ext w w':=by
 have b4:=fun(V:World) (r:Ext w V) (c:Nat) (f9:c<m)=>Jq (y.ext r) S f9;have b5:=fun(V:World) (r:Ext w V) (vo:Option Addr) (vc:Nat) (i:Wd) (h:Qo V (.slice vo i.length vc) i)=>Q0c (g0.ext r) g1 (Ku h) rfl (f2.keep r id);obtain⟨s,e0⟩:=zE (Xs (ps.map (·.1)));obtain⟨u,e1⟩:=zE (Y9 (ps.map (·.1)));simp only [e0,e1] at b5 ⊢;have a7:(us.map s).length=m:=by rw [List.length_map,S]
 have a5:(us.map u).length=m:=by rw [List.length_map,S]
 have P:∀ c,c<m->(us.map s)[c]?=some (s (us.getD c [])):=fun c h=>by
  rw [List.getElem?_map,List.getD_eq_getElem?_getD,List.getElem?_eq_getElem oz];rfl
 have N:∀ c,c<m->(us.map u)[c]?=some (u (us.getD c [])):=fun c h=>by
  rw [List.getElem?_map,List.getD_eq_getElem?_getD,List.getElem?_eq_getElem oz];rfl
 obtain⟨G,O⟩:=zE (us.map s);obtain⟨t,M⟩:=zE (us.map u);rw [O,M];rw [O] at a7;rw [M] at a5;simp only [O] at P;simp only [M] at N;obtain⟨k,e4⟩:∃ g:Nat->Wd,(fun c=>us.getD c [])=g:=⟨_,rfl⟩;have e5:∀ c,us.getD c []=k c:=fun c=>by rw [<-e4]
 simp only [e5] at b4 P N;obtain⟨j8,b0⟩:=zE (Z1 G);rw [b0];obtain⟨g6,g7,d1,Z,i0,g8,d5⟩:=Zh7 b4 b5 a7 a5 P N b0;clear b4 b5 a7 a5 P N O M e4 e5 b0 e0 e1 g0 g1 y S f2;obtain⟨v,f5⟩:=zE w.heap.size;have d7:=Zh f5;clear f5;go_enter Tryz.func137,Tryz.ntmps137;go_wp2
 refine wp_loop (fun a p=>∃(c:Nat) (Y:Value) (b9:List Value),c<=m/\a.defers=[]/\gS a [0,6,11,12,13]=(32,[.slice lo n lc,Y,.slice c1 m c0,.int .i64 m,.int .i64 c])/\p.ownsRow v 99 1 Y c b9/\X6 H8 p Y/\Z4 p b9 (t.take c)/\Z1 (G.take c)=0/\Ext w p)
  (fun a _=>m - (intOf (a.tmps.getD 13 undef)).toNat) ?_ ?_
 ·exact⟨0,_,[],by omega,rfl,rfl,World.ownsRow_nil _ _ _ _,X6.nil _,by rw [List.take_zero];trivial,rfl,Q0.refl _ _⟩
 rintro⟨k4,_⟩ p ⟨c,Y,b9,f9,j3,g3,a8,e6,f3,A,r⟩;subst j3;obtain⟨i,rfl⟩:=Z0 g3;clear g3;obtain⟨vo,vc,rfl⟩:=Z5 a8;obtain⟨H,d2,J,a0,l⟩:=Zh5 a8 e6 f3 A r;clear a8 e6 f3 A r;by_cases C:c<m;case neg=>
  obtain rfl:c=m:=by omega
  have j0:¬ (c:Int)<(c:Int):=by omega
  have A:=a0.out;rw [List.take_of_length_le (by rw [d1.out];exact Nat.le_refl _),d5.out] at A;subst A;have y:=J.out;rw [List.take_of_length_le (by rw [Z.out];exact Nat.le_refl _)] at y;have i7:=Zh y;clear y J;go_wp2;refine bodyPost_ret (Fk rfl _ _ _) rfl ⟨vo,c,vc,rfl,⟨rfl,Q4s i7.out (by rw [Z.out];exact Rd.of_own H.out)⟩,l.out⟩
 have j0:(c:Int)<(m:Int):=by omega
 have j9:(0:Int)<=(c:Int):=by omega
 have R:c<G.length:=by rw [d1.out];exact C
 have b7:c<t.length:=by rw [Z.out];exact C
 obtain⟨d9,k3,rfl,j6,j5,f6,x⟩:=g6.out p l.out c C;have Q:=Vr R a0.out;have B:=Vp R a0.out;have T:t.take (c+1)=t.take c++[t[c]]:=List.take_succ_eq_append_getElem b7;have f8:G[c]=s (k c):=by have:=i0.out c C;rwa [List.getElem?_eq_getElem R,Option.some.injEq] at this
 rw [f8] at Q B;rw [d5.out] at B;have f7:t[c]=u (k c):=by have:=g8.out c C;rwa [List.getElem?_eq_getElem b7,Option.some.injEq] at this
 rw [f7] at T;have a3:=g7.out p l.out j6 j5 (k c) x;obtain⟨c8,a4⟩:=zE (s (k c));obtain⟨F,a6⟩:=zE (u (k c));obtain⟨k5,b8⟩:=zE ((k c).length);rw [a4,a6,b8] at a3;rw [b8] at f6;rw [a6] at T;rw [a4] at Q B;obtain⟨c9,i2,i1,i6⟩:=Zh4 a3 Q B T;clear Q B T a3 a4 a6 b8 x f8 f7 R b7;go_wp2_with fail;refine c9.out.mono ?_;rintro e z ⟨i,rfl,x,e2⟩;obtain⟨X,W,rfl,_⟩:=id x;have o:=Zh e2;have d3:=Zh x;clear c9 x e2 f6;by_cases U:c8=0;case neg=>
  have k2:(c8 != 0)=true:=by simpa using U
  have j4:=i1.out U;subst j4;go_wp2;refine bodyPost_ret (Fk rfl _ _ _) rfl ⟨none,0,0,rfl,fun h=>absurd h U,l.out.trans o.out⟩
 subst U;have a9:=Qc H.out o.out;have e7:=d2.out.keep H.out o.out (fun _ _ h=>h);have f4:=J.out.ext o.out;have k1:v<=z.heap.size:=by have:=l.out.size;have:=o.out.size;have:=d7.out;omega
 obtain⟨L,b2⟩:=zE (z.alloc (.cells #[.slice X F.length W] 99));have q:Ext z L:=by rw [<-b2];exact(Q0.refl _ z).alloc _
 have f0:=Qc a9 q;have e8:=e7.keep a9 q (fun _ _ h=>h);obtain⟨I,a1,d6,d4,d0⟩:=Zh5 f0 e8 (f4.ext q) (d3.out.ext q) (l.out.trans (o.out.trans q));have g2:∀ j i,[Value.slice X F.length W][j]?=some i->L.cell? ((⟨z.heap.size,0,none⟩:Addr).add j)=some i:=by rw [<-b2];exact Ze rfl
 have a2:=Zh g2;have j2:v<=L.heap.size:=by have:=q.size;omega
 clear a9 e7 f4 f0 e8 q g2 H d2 J d3 l o;obtain⟨g5,j1⟩:=zE z.heap.size;rw [j1] at a2;obtain⟨d8,b6⟩:=zE F.length;have i5:Hid (Qo L (.slice X d8 W) F):=Zh (by rw [<-b6];exact d4.out);rw [b6] at a2 b2;have j7:=Zh b6
 go_wp2_with (at_builtin;refine Fp (K:=H8) rfl (.tmp 26) (.tmp 28) 60 rfl v 99 _ 1 24 Tryz.underlying60 Q79 rfl zd _ _ _ rfl I.out ⟨g5,0,none⟩ 1 1 [.slice X d8 W] rfl rfl a2.out ?c2 ?c3 ?c4 ?c5 ?c6 ?c7 a1.out ?_)
 case c2=>first | rfl | (intro i g4;simp at g4;rcases g4 with rfl;rfl)
 case c3=>unfold maxLen;omega
 case c4=>omega
 case c5=>exact j2
 case c6=>intro g D;simp [Value.cells] at D;subst D;exact⟨_,_,_,rfl⟩
 case c7=>intro g D;simp at D;subst D;exact⟨_,_,_,rfl⟩
 intro k7 k6 i9 f1 b1 e9;have b3:=Z4.rowT a1.out I.out b1 (d6.out.snoc i5.out);rw [<-i6.out] at b3;have e3:Ext w i9:=d0.out.after b1 (fun b hb e=>by have:=(I.out.lt _ e).1;have:=d7.out;omega);obtain⟨i4,i3,i8,g9⟩:=Zh4 f1 e9 b3 e3;clear f1 b1 e9 b3 e3 I a1 d6 d4 d0;go_wp2;exact⟨⟨c+1,_,_,by omega,by first | trivial | rfl,rfl,i4.out,i3.out,i8.out,i2.out,g9.out⟩,nz⟩
theorem Tk{w:World}{ao M:Option Addr}{m J L:Nat}{us vs:List Wd}(Q:Zz w (.slice ao m J) us) (q:Zz w (.slice M m L) vs) (X:us.length=m) (c4:vs.length=m) :
  Calls Tryz.prog 139 #[.slice ao m J,.slice M m L] w fun e w'=>∃ z:Int,e=.returned (.int .i64 z)/\decide (0<=z)=(!decide (us=vs))/\Ext w w':=by
 have R:=fun(V:World) (p:Ext w V) (b:Nat) (F:b<m)=>Jq (Q.ext p) X F;have T:=fun(V:World) (p:Ext w V) (b:Nat) (F:b<m)=>Jq (q.ext p) c4 F;have d7:m<=maxLen:=by obtain⟨_,u,_⟩:=Q;rw [<-X];exact u.2.1
 unfold maxLen at d7
 have g:∀ b,b<m->us.getD b []≠vs.getD b []->(!decide (us=vs))=true:=fun b _ h=>by
  rw [Bool.not_eq_true',decide_eq_false_iff_not];rintro rfl;exact h rfl
 have t:(∀ b,b<m->us.getD b []=vs.getD b [])->(!decide (us=vs))=false:=fun h=>by
  rw [Bool.not_eq_false',decide_eq_true_iff];apply List.ext_getElem oz;intro b P d5;have:=h b oz
  rwa [List.getD_eq_getElem?_getD,List.getElem?_eq_getElem P,List.getD_eq_getElem?_getD,List.getElem?_eq_getElem d5] at this
 obtain⟨d8,c0⟩:=zE (!decide (us=vs));rw [c0] at g t ⊢;obtain⟨l,b6⟩:∃ x:Nat->Wd,(fun b=>us.getD b [])=x:=⟨_,rfl⟩;have b7:∀ b,us.getD b []=l b:=fun b=>by rw [<-b6]
 obtain⟨o,b8⟩:∃ x:Nat->Wd,(fun b=>vs.getD b [])=x:=⟨_,rfl⟩;have b9:∀ b,vs.getD b []=o b:=fun b=>by rw [<-b8]
 simp only [b7] at R g t;simp only [b9] at T g t;obtain⟨d0,d1,b3,a8⟩:=Zh4 R T g t;clear R T g t c0 b6 b7 b8 b9 Q q X c4;go_enter Tryz.func139,Tryz.ntmps139;go_wp2
 refine wp_loop (fun a f=>∃(b:Nat),b<=m/\a.defers=[]/\gS a [0,1,7,8]=(23,[.slice ao m J,.slice M m L,.int .i64 m,.int .i64 b])/\(∀ j,j<b->l j=o j)/\Ext w f)
  (fun a _=>m - (intOf (a.tmps.getD 8 undef)).toNat) ?_ ?_
 ·exact⟨0,by omega,rfl,rfl,fun j h=>by omega,Q0.refl _ _⟩
 rintro⟨e0,_⟩ f ⟨b,F,d6,c7,c3,p⟩;subst d6;obtain⟨e1,rfl⟩:=Z0 c7;clear c7;have G:=Zh c3;have A:=Zh p;clear c3 p;by_cases W:b<m;case pos=>
  have P:(b:Int)<(m:Int):=by omega
  have d9:(0:Int)<=(b:Int):=by omega
  obtain⟨N,a0,rfl,a4,a2,c1,c5⟩:=d0.out f A.out b W;obtain⟨O,a1,rfl,a7,a5,c2,c6⟩:=d1.out f A.out b W;have g:=b3.out b W;have c8:=Ku c5;have c9:=Ku c6;have c:=fun(V:World) (hV:Ext f V)=>eqW (c8.ext hV) (c9.ext hV)
  have y:l b=o b->∀ j,j<b+1->l j=o j:=fun h j hj=>by
   by_cases e:j=b
   ·subst e;exact h
   ·exact G.out j oz
  obtain⟨a3,Y⟩:=zE ((l b).length);obtain⟨a6,Z⟩:=zE ((o b).length);rw [Y] at c1;rw [Z] at c2;simp only [Y,Z] at c;obtain⟨r,q⟩:=zE (decide (l b=o b));simp only [q] at c;obtain⟨a9,b0,I,H⟩:=Zh4 q c y g;clear c y g c8 c9 c5 c6 Y Z q;go_upto_region 4 with (fail)
  obtain⟨B,E⟩:=zE f.drew;have s:Ext f B:=by rw [<-E];exact(Q0.refl _ f).drew
  have c:B.cell? ⟨N,a0+b,none⟩=some (.slice a4 a3 a2)/\B.cell? ⟨O,a1+b,none⟩=some (.slice a7 a6 a5):=⟨s.cell_some c1 id,s.cell_some c2 id⟩;have b5:=A.out.trans s;have b1:=Zh (b0.out B s);refine Qr (S:=fun D=>D.cell? ⟨N,a0+b,none⟩=some (.slice a4 a3 a2)/\D.cell? ⟨O,a1+b,none⟩=some (.slice a7 a6 a5)) [] kz (by rw [E];exact c) ?_;intro _;rw [E];clear E b0;refine tE 0 11 c ?_;refine tE 1 12 c ?_;refine tE 2 13 c ?_;refine tkE (i:=3) (d:=14) (v:=?_) rfl (Or.inl ⟨by rfl,?_⟩) c ?_;rotate_left
  ·intro w k;(try dsimp only at k);have d3:=k.1;have d4:=k.2;go_simp;try with_reducible rfl
  try simp only [Act.put,pq]
  refine tE 4 15 c ?_;refine tE 5 16 c ?_;refine tE 6 17 c ?_;refine tkE (i:=7) (d:=18) (v:=?_) rfl (Or.inl ⟨by rfl,?_⟩) c ?_;rotate_left
  ·intro w k;(try dsimp only at k);have d3:=k.1;have d4:=k.2;go_simp;try with_reducible rfl
  try simp only [Act.put,pq]
  refine rE [8] ?_;refine Q1.cons rfl (fun K hK=>?_) Q1.nil;refine iw rfl ?_;go_simp;refine b1.out.mono ?_;rintro e b4 ⟨rfl,C⟩;have U:b4.cell? ⟨N,a0+b,none⟩=some (.slice a4 a3 a2)/\b4.cell? ⟨O,a1+b,none⟩=some (.slice a7 a6 a5):=⟨C.cell_some c.1 id,C.cell_some c.2 id⟩;have b2:=Zh (b5.trans C);refine hK.out _ _ U (fun _=>?_);clear hK K C b5 s;try simp only [Act.put,pq]
  refine tE 9 20 U ?_;refine Qh kz ?_ _;clear c U b1;cases r with
  | false=>
   have u:=H.out (of_decide_eq_false a9.out);subst u;clear G I H a8 b3;go_wp2;go_ret;exact⟨_,rfl,by simp,b2.out⟩
  | true=>
   have y:=I.out (of_decide_eq_true a9.out);have d2:=Zh y;clear y I H;go_wp2;exact⟨⟨b+1,by omega,by first | trivial | rfl,rfl,d2.out,b2.out⟩,nz⟩
 obtain rfl:b=m:=by omega
 have P:¬ (b:Int)<(b:Int):=by omega
 have u:=a8.out G.out;subst u;go_wp2;go_ret;exact⟨_,rfl,by simp,A.out⟩
theorem Sm{l:List Value}(h:∀ v∈l,v.oneCell'=true):l.toArray.all (·.oneCell')=true:=by
 rw [Array.all_eq_true];intro b a;exact h _ zy
theorem Q5o{ps:Qk}{i:Nat}(a:i+1<ps.length):U6 ps i=(ps.set i (ps[i+1].1,ps[i+1].2)).set (i+1) (ps[i].1,ps[i].2):=by
 unfold U6;rw [List.getD_eq_getElem?_getD,List.getElem?_eq_getElem a,List.getD_eq_getElem?_getD,List.getElem?_eq_getElem (show i<ps.length by omega)];rfl
theorem Q3v{w:World}{ps:Qk}{lo:Option Addr}{n lc i:Nat}(C:Qv w (.slice lo n lc) ps) (a1:ps.length=n) (d4:i+1<n) (d5:n<=64) :
  Calls Tryz.prog 138 #[.slice lo n lc,.int .i64 (i:Int)] w fun e w'=>∃ ao c,e=.returned (.slice ao n c)/\Qv w' (.slice ao n c) (U6 ps i)/\Ext w w':=by
 have a9:=Q0s C a1 oz;have r:∀ p∈ps,p.2.length=18:=fun p s=>T1 (C.2 p s);have V:=Sf C;have A:i<ps.length:=by omega
 have m:i+1<ps.length:=by omega
 have a3:=Q5o m;have X:=fun(j:Nat) (hj:j<18)=>Up r A hj;have Y:=fun(j:Nat) (hj:j<18)=>Up r m hj;have M:=List.getElem_mem A;have N:=List.getElem_mem m;obtain⟨l,P⟩:=zE (ps[i]);obtain⟨a,F⟩:=zE (ps[i+1]);rw [P,F] at a3;simp only [P] at X;simp only [F] at Y;rw [P] at M;rw [F] at N;have a0:=r l M;have L:=r a N;have b2:∀ u∈l.2,u.oneCell'=true:=fun u hu=>V u (List.mem_flatMap.2 ⟨l,M,hu⟩);have b3:∀ u∈a.2,u.oneCell'=true:=fun u hu=>V u (List.mem_flatMap.2 ⟨a,N,hu⟩)
 have U:∀ p∈ps.set i (a.1,a.2),p.2.length=18:=fun p s=>by
  rcases List.mem_or_eq_of_mem_set s with s | rfl
  ·exact r p s
  ·exact L
 have Z:=fun(j:Nat) (hj:j<18)=>Up U (show i+1<(ps.set i (a.1,a.2)).length by rw [List.length_set];exact m) hj;have b1:(ps.set i (a.1,a.2))[i+1]'(by rw [List.length_set];exact m)=a:=by rw [List.getElem_set_ne oz];exact F
 simp only [b1] at Z;have b4:X1 (ps.flatMap (·.2)) (i*18) a.2=(ps.set i (a.1,a.2)).flatMap (·.2):=L9 zd r A L;have b5:X1 ((ps.set i (a.1,a.2)).flatMap (·.2)) ((i+1)*18) l.2=(U6 ps i).flatMap (·.2):=by
  rw [a3];exact L9 zd U (by rw [List.length_set];exact m) a0
 have b0:∀ W,Ext w W->∀ p∈U6 ps i,Zk W p.1 p.2:=fun W hE p s=>(C.2 p (Q1s m p s)).ext hE;have b9:(U6 ps i).length=n:=by rw [P5,a1]
 obtain⟨z,t,c9,d0,c2,c4,c5,d1⟩:=Zh8 a0 L b2 b3 X Y Z b4;obtain⟨d2,c3,d3,a4⟩:=Zh4 b5 b0 b9 a9;clear a9 r V a3 X Y M N P F a0 L b2 b3 U Z b1 b4 b5 b0 b9 A m C a1;have e1:IntKind.i64.wrap ((i:Int)+1)=(i:Int)+1:=IntWalk.i64_in _ oz;have d9:(i:Int)+1<(n:Int):=by omega
 have d7:(0:Int)<=(i:Int)+1:=by omega
 have d8:(0:Int)<=(i:Int):=by omega
 have e0:(i:Int)<(n:Int):=by omega
 have A:((i:Int)+1).toNat=i+1:=by omega
 go_enter Tryz.func138,Tryz.ntmps138;go_wp2_with fail;refine a4.out.mono ?_;rintro e R ⟨e3,e2,rfl,G,a7⟩;obtain⟨f,rfl⟩:=Gk G oz;have d6:w.heap.size<=f:=(G.lt f rfl).1;have c7:=Zh G;have c6:=Zh a7;clear G a7 a4;go_upto_region 2 with (fail)
 obtain⟨o,H⟩:=zE R.drew;have T:Ext R o:=by rw [<-H];exact(Q0.refl _ R).drew
 have E:=Qc c7.out T
 have b6:o.rangeAt f (i*18) l.2:=K9 E fun k u hk=>by
  have B:k<18:=by have:=(List.getElem?_eq_some_iff.1 hk).1;have:=z.out;omega
  rw [c2.out k B];exact hk
 have g:o.rangeAt f ((i+1)*18) a.2:=K9 E fun k u hk=>by
  have B:k<18:=by have:=(List.getElem?_eq_some_iff.1 hk).1;have:=t.out;omega
  rw [c4.out k B];exact hk
 have y:=Lc E (show i<n by omega) t.out;rw [d1.out] at y;obtain⟨q,I⟩:=zE (o.setCells f (i*18) a.2);rw [I] at y
 have a2:q.rangeAt f ((i+1)*18) a.2:=K9 y fun k u hk=>by
  have B:k<18:=by have:=(List.getElem?_eq_some_iff.1 hk).1;have:=t.out;omega
  rw [c5.out k B];exact hk
 have O:=Lc y d4 z.out;rw [d2.out] at O;obtain⟨Q,J⟩:=zE (q.setCells f ((i+1)*18) l.2);rw [J] at O;have c0:Q0 (·=f) o q:=by rw [<-I];exact Q0.setCells o f a.2 (i*18)
 have c1:Q0 (·=f) q Q:=by rw [<-J];exact Q0.setCells q f l.2 ((i+1)*18)
 have a6:Ext w Q:=(c6.out.trans T).after (c0.trans c1) (fun b hb e=>by subst e;omega);have a5:=Zh a6;have c8:=Zh O;clear a6 c0 c1 O;refine Qr (S:=fun D=>D.rangeAt f ((i+1)*18) a.2) [17] kz (by rw [H];exact g) ?_;intro _;rw [H];clear H;refine tE 0 8 g ?_;refine tE 1 9 g ?_;refine tE 2 10 g ?_;refine tE 3 11 g ?_;refine tE 4 12 g ?_;refine tE 5 13 g ?_;refine tE 6 14 g ?_;refine tE 7 15 g ?_;refine tE 8 16 g ?_;refine tkE (i:=9) (d:=17) (v:=?_) rfl (Or.inl ⟨by rfl,?_⟩) g ?_;rotate_left
 ·intro w a8;(try dsimp only at a8);refine Xb (x:=.tmp 16) ?_ f ((i+1)*18) ?_ _ _ a8 Tryz.underlying102 rfl (by rw [t.out];kernel_rfl) <;> rfl
 try simp only [Act.put,pq]
 refine tE 10 18 g ?_;refine tE 11 19 g ?_;refine tE 12 20 g ?_;refine rE [13] ?_;refine Q1.cons rfl (fun K hK=>?_) Q1.nil;refine iw rfl ?_;refine Lv 102 (.tmp 20) rfl f (i*18) zr _ _ b6 Tryz.underlying102 rfl (by rw [z.out];kernel_rfl) ?_;refine hK.out _ _ g (fun _=>?_);clear hK K;try simp only [Act.put]
 refine tE 14 22 g ?_;try simp only [Act.put]
 refine rE [15] ?_;refine Q1.cons rfl (fun K hK=>?_) Q1.nil;refine iw rfl ?_;refine wp_store_mid 102 (.tmp 22) (.tmp 17) rfl f (i*18) a.2.toArray (by rfl) (by rfl) (Jr E (by rw [List.size_toArray,t.out];omega)) (by rw [List.size_toArray,t.out];kernel_rfl) (Sm d0.out) ?_;have b7:o.setCells f (i*18) a.2.toArray.toList=q:=I;rw [b7];refine hK.out _ _ a2 (fun _=>?_);clear hK K b7
 (try change Qg _ _ _ _ _ _ _ _ (Act.put _ none _) _)
 (try simp only [Act.put])
 refine tE 16 23 a2 ?_;try simp only [Act.put]
 refine rE [17] ?_;refine Q1.late rfl rfl (fun K hK=>?_) Q1.nil;refine iw rfl ?_;refine wp_store_mid 102 (.tmp 23) (.tmp 21) rfl f ((i+1)*18) l.2.toArray (by rfl) (by rfl) (Jr y (by rw [List.size_toArray,z.out];omega)) (by rw [List.size_toArray,z.out];kernel_rfl) (Sm c9.out) ?_;have b8:q.setCells f ((i+1)*18) l.2.toArray.toList=Q:=J;rw [b8];refine hK.out _ _ ?_;clear hK K b8
 (try change Qg _ _ _ _ _ _ _ _ (Act.put _ none _) _)
 (try simp only [Act.put])
 refine Qh kz ?_ _;clear b6 g a2 E y I J T;go_wp2;go_ret;refine⟨_,_,rfl,⟨?_,c3.out _ a5.out⟩,a5.out⟩;rw [d3.out];exact Rd.of_own c8.out
theorem N0{a:Func}{t u v:Tmp}(h:a.results=#[.tmp t,.tmp u,.tmp v])(tmps:Array Value)(P:Program)(w:World) :
  (results a tmps).run P w=.ok (.tuple #[tmps.getD t undef,tmps.getD u undef,tmps.getD v undef]) w:=by
 simp [results,h,go_sem]
def Q86(LD:List Q2)(us:List Wd)(i:Nat)(w:World)(e:Ending)(w':World):Prop:=∃(k:Int) (b:Bool) (E:Int),e=.returned (.tuple #[.int .i64 k,.bool b,.int .i64 E])/\(E=0->(∀ u∈us,(Qq (Yf LD i) u).isSome=true)/\b=Jk LD us i)/\Ext w w'
theorem Sv{w:World}{ps:Qk}{lo:Option Addr}{n lc:Nat}{c3:Option Addr}{m c2 i:Nat}{us:List Wd}(D:Qv w (.slice lo n lc) ps) (j:ps.length=n) (G:Zz w (.slice c3 m c2) us) (g:us.length=m) (a:Zv (ps.map (·.1)) us=0) (F:∀ u∈us,(Qq (ps.map (·.1)) u).isSome=true) (c0:i+1<n) (A:Tab w) :
  Calls Tryz.prog 88 #[.slice lo n lc,.int .i64 (i:Int),.slice c3 m c2] w (Q86 (ps.map (·.1)) us i w):=by
 obtain⟨q,R,a0⟩:=Yr a;rw [g] at R;have b5:=Ds q;rw [List.length_map,j] at b5;have C:=fun(V:World) (hE:Ext w V)=>Mc (D.ext hE) j (G.ext hE) g (A.keep hE id);have r:=fun(V:World) (hE:Ext w V)=>Mb (D.ext hE) j (G.ext hE) g R (A.keep hE id);have c1:=fun(V:World) (hE:Ext w V)=>Q3v (D.ext hE) j c0 b5;have e:=fun(V:World) (hE:Ext w V) (b4:Option Addr) (c:Nat) (h:Qv V (.slice b4 n c) (U6 ps i))=>Mb h (by rw [P5,j]) (G.ext hE) g R (A.keep hE id);simp only [Q1g] at e;have E:i+1<(ps.map (·.1)).length:=by rw [List.length_map,j];exact c0
 obtain⟨d,U⟩:=zE (ps.map (·.1));rw [U] at a q E ⊢;simp only [U] at C r e F;simp only [a] at C
 have o:Z1 (us.map (Xs d))=0:=Ts fun x H=>by
  obtain⟨u,s,rfl⟩:=List.mem_map.1 H;exact(Hl q (a0 u s)).1.2 (F u s)
 simp only [o] at r;have k:Z1 (us.map (Xs (Yf d i)))=0->∀ u∈us,(Qq (Yf d i) u).isSome=true:=fun h u s=>
  (Hl (M7 E q) (a0 u s)).1.1 (Fs h _ (List.mem_map.2 ⟨u,s,rfl⟩))
 have l:Z1 (us.map (Xs (Yf d i)))=0->(!decide (us.map (Y9 d)=us.map (Y9 (Yf d i))))=Jk d us i:=fun h=>(Q33 E a F (k h)).symm;have X:(us.map (Y9 d)).length=m:=by rw [List.length_map,g]
 have Y:(us.map (Y9 (Yf d i))).length=m:=by rw [List.length_map,g]
 obtain⟨a2,f⟩:=zE (Z1 (us.map (Xs (Yf d i))));obtain⟨d2,y⟩:=zE (us.map (Y9 d));obtain⟨d3,z⟩:=zE (us.map (Y9 (Yf d i)));simp only [f,z] at e;simp only [y] at r;rw [f] at k;rw [f,y,z] at l;rw [y] at X;rw [z] at Y;obtain⟨a5,a8,b2,a9,Q,P,c4,c5⟩:=Zh8 C r c1 e k l X Y;clear C r c1 e k l X Y o f y z q a0 a F E U D j G g A;have e2:IntKind.i64.wrap ((n:Int) - 1)=(n:Int) - 1:=IntWalk.i64_in _ oz;have e1:¬ (i:Int)<0:=by omega
 have e0:¬ (i:Int)>=(n:Int) - 1:=by omega
 go_enter Tryz.func88,Tryz.ntmps88;go_wp2_with fail;refine(a5.out _ (Q0.refl _ _)).mono ?_;rintro t c7 ⟨rfl,o⟩;have K:=Zh o;clear a5 o;go_wp2_with fail;refine(a8.out c7 K.out).mono ?_;rintro t c8 ⟨b4,d5,d4,rfl,B,f⟩;obtain⟨rfl,B⟩:=B uz;have L:=Zh (K.out.trans f);have a3:=Zh B;clear a8 f B K;go_wp2_with fail;refine(b2.out c8 L.out).mono ?_;rintro t c9 ⟨d1,d0,rfl,H,S⟩;have M:=Zh (L.out.trans S);have e:=a9.out c9 M.out d1 d0 H;have b0:=Zh e;have b8:=a3.out.ext S;have a4:=Zh b8;clear b2 S H e a9 L a3 b8;go_wp2_with fail;refine b0.out.mono ?_;rintro t e3 ⟨d8,d7,d6,rfl,p,T⟩;have N:=Zh (M.out.trans T);have b9:=a4.out.ext T;have I:=Zh b9;have J:=Zh p;clear b0 T M a4 b9 p;by_cases a:a2=0;case neg=>
  have d9:(a2 != 0)=true:=by rw [bne_iff_ne];exact a
  clear Q P J I;go_wp2;exact bodyPost_ret (N0 rfl _ _ _) rfl ⟨_,_,_,rfl,fun h=>absurd h a,N.out⟩
 subst a;obtain⟨rfl,p⟩:=J.out uz;have k:=Q.out uz;have l:=P.out uz;have W:=Tk I.out p c4.out c5.out;rw [l] at W;have a6:=Zh W;have b1:=Zh k;obtain⟨b3,b7⟩:=zE (Jk d us i);have O:=Zh b7;clear k l W p Q P J I b7;go_wp2_with fail;refine a6.out.mono ?_;rintro t e4 ⟨a1,rfl,a,b6⟩;have a7:=Zh (N.out.trans b6);rw [O.out] at a;clear b6 N a6;by_cases v:0<=a1
 ·have c6:a1>=0:=v;have Z:b3=true:=by rw [<-a];exact decide_eq_true v
  subst Z;clear a;go_wp2;exact bodyPost_ret (N0 rfl _ _ _) rfl ⟨_,_,_,rfl,fun _=>⟨b1.out,O.out.symm⟩,a7.out⟩
 ·have c6:¬ a1>=0:=v;have Z:b3=false:=by rw [<-a];exact decide_eq_false v
  subst Z;clear a;go_wp2;exact bodyPost_ret (N0 rfl _ _ _) rfl ⟨_,_,_,rfl,fun _=>⟨b1.out,O.out.symm⟩,a7.out⟩
theorem Q1j:(Tryz.prog.info? 3).map (fun i=>(i.zero,i.size,i.bytes))=some (some (.int .i64 0),1,8):=by kernel_rfl
def Eh(LD:List Q2)(us:List Wd)(k:Nat):Prop:=∀ i,i<k->∀ u∈us,(Qq (Yf LD i) u).isSome=true
def Q7o(LD:List Q2)(us:List Wd)(w:World)(e:Ending)(w':World):Prop:=∃(ao:Option Addr) (c:Nat) (L:List Nat) (E:Int),e=.returned (.tuple #[.slice ao L.length c,.int .i64 E])/\Rd w' (.slice ao L.length c) L.length 1 (Qj L)/\Ext w w'/\(E=0->L=Ho LD us/\Eh LD us (LD.length - 1))
def Q8p(mx X:Nat)(lv wv:Value)(LD:List Q2)(us:List Wd)(P:Nat->List Nat)(w:World)(a:Act)(W:World):Prop:=∃(i:Nat) (ao:Option Addr) (c:Nat),i<=mx/\a.defers=[]/\(a.tmps.size=43/\a.tmps.getD 0 undef=lv/\a.tmps.getD 1 undef=wv/\a.tmps.getD 7 undef=.slice ao (P i).length c/\a.tmps.getD 21 undef=.int .i64 mx/\a.tmps.getD 22 undef=.int .i64 i)/\W.ownsRow X 3 1 (.slice ao (P i).length c) (P i).length (Qj (P i))/\Eh LD us i/\Ext w W
theorem Q0j(q:Nat->Bool)(k:Nat):(List.range (k+1)).filter q=(List.range k).filter q++if q k=true then [k] else []:=by
 rw [List.range_succ,List.filter_append];cases h:q k <;> simp [h]
theorem Et{w:World}{ps:Qk}{lo:Option Addr}{n lc:Nat}{a0:Option Addr}{m Z:Nat}{us:List Wd}(R:Qv w (.slice lo n lc) ps) (t:ps.length=n) (X:Zz w (.slice a0 m Z) us) (U:us.length=m) (i:Zv (ps.map (·.1)) us=0) (d5:∀ u∈us,(Qq (ps.map (·.1)) u).isSome=true) (P:Tab w) :
  Calls Tryz.prog 29 #[.slice lo n lc,.slice a0 m Z] w (Q7o (ps.map (·.1)) us w):=by
 have f4:=Ds (Yr i).1;rw [List.length_map,t] at f4;have C:=fun(V:World) (g:Ext w V)=>Mc (R.ext g) t (X.ext g) U (P.keep g id);have W:=fun(V:World) (g:Ext w V) (b:Nat) (d1:b+1<n)=>Sv (R.ext g) t (X.ext g) U i d5 d1 (P.keep g id);have k:(ps.map (·.1)).length=n:=by rw [List.length_map,t]
 obtain⟨f,b5⟩:=zE (ps.map (·.1));simp only [b5] at C W i k ⊢;simp only [i] at C
 have d0:∀ d,n - 1=d->(List.range d).filter (Jk f us)=Ho f us/\f.length - 1=d:=fun d h=>by
  subst h;unfold Ho;rw [k];exact⟨rfl,rfl⟩
 obtain⟨a2,e8,a3⟩:=Zh3 C W d0;clear C W d0 b5 i d5 k R t X U P;have f9:IntKind.i64.wrap ((n:Int) - 1)=(n:Int) - 1:=IntWalk.i64_in _ oz;obtain⟨d,d3⟩:=zE (n - 1);have f7:max (0:Int) ((n:Int) - 1)=(d:Int):=by omega
 have a4:=Zh d3;have g7:d<=64:=by omega
 clear d3;go_enter Tryz.func29,Tryz.ntmps29;go_wp2_with fail;refine(a2.out _ (Q0.refl _ _)).mono ?_;rintro e e3 ⟨rfl,b2⟩;have F:=Zh b2;clear a2 b2;obtain⟨r,c0⟩:=zE e3.heap.size;have a9:=Zh c0;clear c0;go_wp2;refine wp_loop (Q8p d r (.slice lo n lc) (.slice a0 m Z) f us (fun b=>(List.range b).filter (Jk f us)) e3) (fun a _=>d - (intOf (a.tmps.getD 22 undef)).toNat) ?_ ?_
 ·exact⟨0,none,0,by omega,rfl,⟨rfl,rfl,rfl,rfl,rfl,rfl⟩,World.ownsRow_nil _ _ _ _,fun b h=>by omega,Q0.refl _ _⟩
 clear f7 f9;rintro⟨g0,_⟩ f1 ⟨b,I,J,d1,f5,⟨d6,K,L,B,M,N⟩,s,d8,g⟩;dsimp only at B s;subst f5;obtain⟨g1,d7⟩:=Zb d6;obtain⟨u,rfl⟩:∃ x,x=g1:=⟨_,rfl⟩;have f8:g0=#[u 0,u 1,u 2,u 3,u 4,u 5,u 6,u 7,u 8,u 9,u 10,u 11,u 12,u 13,u 14,u 15,u 16,u 17,u 18,u 19,u 20,u 21,u 22,u 23,u 24,u 25,u 26,u 27,u 28,u 29,u 30,u 31,u 32,u 33,u 34,u 35,u 36,u 37,u 38,u 39,u 40,u 41,u 42]:=d7;clear d7;subst f8;change u 0=_ at K;change u 1=_ at L;change u 7=_ at B;change u 21=_ at M;change u 22=_ at N;rw [K,L,B,M,N];clear K L B M N d6;have c:=Q0j (Jk f us) b;have d2:((List.range b).filter (Jk f us)).length<=b:=Nat.le_trans (List.length_filter_le _ _) zy;obtain⟨Y,S⟩:=zE ((List.range b).filter (Jk f us));rw [S] at c d2 s ⊢;have e7:=Zh S;obtain⟨e2,T⟩:=zE Y.length;rw [T] at s d2 ⊢;obtain⟨G,o,H,a7,p⟩:=Zh5 s g d8 c T;clear s g d8 c S T;by_cases g6:b<d;case neg=>
  obtain rfl:b=d:=by omega
  have b1:¬ (b:Int)<(b:Int):=by omega
  obtain⟨Q,c9⟩:=a3.out b a4.out;rw [e7.out] at Q;have e5:=Zh Q;have e6:=Zh c9;clear Q c9 a3;go_wp2;exact bodyPost_ret (Fk rfl _ _ _) rfl ⟨I,J,Y,0,by rw [p.out];rfl,by rw [p.out];exact Rd.of_own G.out,F.out.trans o.out,fun _=>⟨e5.out,by rw [e6.out];exact H.out⟩⟩
 have b1:(b:Int)<(d:Int):=by omega
 have g3:(0:Int)<=(b:Int):=by omega
 have f6:b+1<n:=by have:=a4.out;omega
 have c8:=e8.out f1 (F.out.trans o.out) b f6;have a1:=Zh c8;clear c8;go_wp2_with fail;refine a1.out.mono ?_;rintro e q ⟨e1,f3,D,rfl,c1,b3⟩;have E:=Zh c1;have v:=Zh b3;clear c1 b3 a1;by_cases i:D=0;case neg=>
  have g4:(D != 0)=true:=by rw [bne_iff_ne];exact i
  clear E;go_wp2;exact bodyPost_ret (Fk rfl _ _ _) rfl ⟨none,0,[],D,rfl,Rd.of_own (e:=3) (World.ownsRow_nil _ 0 _ _),F.out.trans (o.out.trans v.out),fun h=>absurd h i⟩
 subst i;obtain⟨c6,c7⟩:=E.out uz
 have d9:Eh f us (b+1):=fun j hj=>by
  by_cases e:j=b
  ·subst e;exact c6
  ·exact H.out j oz
 have b0:=Zh d9;have c:=a7.out;rw [<-c7] at c;have b6:=Qc G.out v.out;have z:=Zh b6;have y:=Zh (o.out.trans v.out);have g5:r<=q.heap.size:=by have:=y.out.size;have:=a9.out;omega
 have A:=Zh c;clear c6 c7 d9 c b6 E a7 H G o v;cases f3 with
 | false=>
  have c:=A.out;simp only [Bool.false_eq_true,if_false,List.append_nil] at c;have a8:=Zh c;clear c A;go_wp2;exact⟨⟨b+1,I,J,by omega,tz,⟨rfl,rfl,rfl,by dsimp only;rw [a8.out,p.out];rfl,rfl,rfl⟩,by dsimp only;rw [a8.out,p.out];exact z.out,b0.out,y.out⟩,mz⟩
 | true=>
  have c:=A.out;simp only [if_true] at c;have d4:Qj ((List.range (b+1)).filter (Jk f us))=Qj Y++[.int .i64 (b:Int)]:=by rw [c];simp [Qj]
  have k:((List.range (b+1)).filter (Jk f us)).length=e2+1:=by rw [c,List.length_append,p.out];rfl
  have e9:=Zh d4;have a5:=Zh k;clear c d4 k A;have b7:=Qc z.out ((Q0.refl (fun _=>False) q).alloc (.cells #[.int .i64 (b:Int)] 3));have a6:=Zh b7;clear b7
  go_wp2_with (at_builtin;refine Zo rfl (.tmp 37) (.tmp 39) 48 rfl r 3 _ 1 8 Tryz.underlying48 Q1j rfl zd _ _ _ rfl a6.out ⟨q.heap.size,0,none⟩ 1 1 [.int .i64 (b:Int)] rfl rfl (Ze rfl) ?c2 ?c3 ?c4 ?c5 ?_)
  case c2=>first | rfl | (intro g8 e0;simp only [List.mem_cons,List.not_mem_nil,or_false] at e0;rcases e0 with rfl;rfl)
  case c3=>unfold maxLen;omega
  case c4=>omega
  case c5=>first | omega | (simp;omega)
  intro f2 c5 g2 O b8 _;have b9:Q0 (fun b'=>(Value.slice I e2 J).ownBlock=some b') q g2:=Q0.trans (Q0.alloc (Q0.refl _ q) _) b8;have b4:=y.out.after b9 (fun b' b1 e=>by have:=(z.out.lt _ e).1;have:=a9.out;omega);rw [<-e9.out] at O;have f0:=Zh O;have e4:=Zh b4;clear O b4 b8 b9 z a6 y;go_wp2;exact⟨⟨b+1,f2,c5,by omega,tz,⟨rfl,rfl,rfl,by dsimp only;rw [a5.out];rfl,rfl,rfl⟩,by dsimp only;rw [a5.out];exact f0.out,b0.out,e4.out⟩,mz⟩
theorem Q6g{w:World}{ao:Option Addr}{c:Nat}{X:List (Int × Int)} (h:Rd w (.slice ao X.length c) X.length 2 (prs X)) {k:Nat} (d:k<X.length):∃ g off,ao=some ⟨g,off,none⟩/\w.cell? ⟨g,off+k*2,none⟩=some (.int .i64 X[k].1)/\w.cell? ⟨g,off+k*2+1,none⟩=some (.int .i64 X[k].2):=by
 obtain⟨_,_,l,m,f,i⟩:=h;simp only [zV,true_and] at f;obtain⟨rfl,rfl⟩:=f;obtain⟨g,off,j,_,e⟩:=i oz;have a:=e (k*2) oz;have b:=e (k*2+1) oz;rw [Cc X k d] at a;rw [Br X k d,<-Nat.add_assoc] at b;rw [List.getD_eq_getElem?_getD,List.getElem?_eq_getElem d] at a b;exact⟨g,off,j,a,b⟩
def Q87(n X:Nat)(lv wv pv:Value)(w:World)(a:Act)(W:World):Prop:=∃(i:Nat) (ao:Option Addr) (c:Nat),i<=n/\a.defers=[]/\gS a [0,1,5,7,8]=(110,[lv,wv,pv,.slice ao i c,.int .i64 i])/\W.ownsRow X 3 1 (.slice ao i c) i (Qj (List.range i))/\Ext w W
def Q8i(z:Nat)(nv:Value)(w:World)(a:Act)(W:World):Prop:=∃(k:Nat),k<=z/\a.defers=[]/\gS a [16,18]=(110,[nv,.int .i64 k])/\Ext w W
structure Q8s (LD:List Q2) (us:List Wd) (qs:Qb):Prop where
 fn:Fj LD (Ys (Zq LD.length)) qs=false
 we:Zy LD (Ys (Zq LD.length)) (qs.map (·.1))=0
 ne:Wi LD qs=0
 nl:∀ p∈Vu LD qs,p.1<p.2
 mt:Eh LD us (LD.length - 1)->K0 LD (Ys (Zq LD.length)) qs=Ho LD us
theorem Q8m{LD:List Q2}{us:List Wd}{qs:Qb}(h:prE LD us=0)(a:LD.length<=4)(j:us.length<=6)(m:∀ l∈LD,∀ x∈l.outs,Xe x)(k:∀ u∈us,Yb u)(c:qs.map (·.1)=prQ LD us):Q8s LD us qs:=by
 obtain⟨b,f,g⟩:=Q4k h a j m k c;have d:∀ q∈qs,Qq LD q.1.1=some q.1.2:=fun q c=>f q.1 (List.mem_map.2 ⟨q,c,rfl⟩);have e:qs.map (·.1.1)=us:=by rw [<-g,List.map_map];rfl
 refine⟨Q7d a b d,Lk a b,Nf a b d,Q0r a b d,fun hx=>?_⟩;rw [<-e];refine Cl a b d fun i hi q c=>hx i oz _ ?_
 rw [<-e];exact List.mem_map.2 ⟨q,c,rfl⟩
theorem Pi{w:World}{ps:Qk}{lo:Option Addr}{n lc:Nat}(r:Qv w (.slice lo n lc) ps) (s:ps.length=n) {us:List Wd} {e7:Option Addr} {m e6:Nat} (L:Zz w (.slice e7 m e6) us) (Y:us.length=m) (y:Tab w) :
  Calls Tryz.prog 4 #[.slice lo n lc,.slice e7 m e6] w fun e w'=>e=.returned (.bool true)/\Ext w w':=by
 have n4:n<=maxLen:=by rw [<-s];exact r.1.2.1
 unfold maxLen at n4;have a0:=Ex r s L Y y;have j4:=fun(V:World) (b:Ext w V)=>Q75 (r.ext b) s (L.ext b) Y;have M:=fun(V:World) (b:Ext w V)=>Tg V (y.keep b id);have t:=fun(V:World) (b:Ext w V) (c:List Nat) (yo:Option Addr) (yc:Nat) (E:Rd V (.slice yo n yc) n 1 (Qj c)) (hyl:c.length=n) (g:Qb) (q:Option Addr) (p:Nat) (hp:Zw V (.slice q m p) g) (k:g.length=m)=>Q4w (xs:=Ys c) (r.ext b) s (by rw [P8];exact E) (by unfold Ys;rw [List.length_map,hyl]) hp k (y.keep b id);have u:=fun(V:World) (b:Ext w V) (c:List Nat) (yo:Option Addr) (yc:Nat) (E:Rd V (.slice yo n yc) n 1 (Qj c)) (hyl:c.length=n) (g:Qb) (q:Option Addr) (p:Nat) (hp:Zw V (.slice q m p) g) (k:g.length=m)=>Ba (xs:=Ys c) (r.ext b) s (by rw [P8];exact E) (by unfold Ys;rw [List.length_map,hyl]) hp k (y.keep b id);have v:=fun(V:World) (b:Ext w V) (g:Qb) (q:Option Addr) (p:Nat) (hp:Zw V (.slice q m p) g) (k:g.length=m)=>Cu (r.ext b) s hp k (y.keep b id);have o:=fun(h:prE (ps.map (·.1)) us=0) (V:World) (b:Ext w V)=>Et (r.ext b) s (L.ext b) Y (Lg h).1 (Lg h).2 (y.keep b id)
 have d8:∀ l∈ps.map (·.1),∀ c∈l.outs,Xe c:=fun l hp=>by
  obtain⟨n8,n5,rfl⟩:=List.mem_map.1 hp;obtain⟨_,_,_,_,_,_,_,_,_,i2⟩:=r.2 n8 n5;exact i2.2
 have j3:∀ a1∈us,Yb a1:=fun a1 hu=>by
  obtain⟨_,_,c7⟩:=L;obtain⟨f,B,rfl⟩:=List.mem_iff_getElem.1 hu;obtain⟨_,_,_,n0,_⟩:=c7 f B;exact n0.2
 have d7:(ps.map (·.1)).length=n:=by rw [List.length_map,s]
 obtain⟨A,i6⟩:=zE (ps.map (·.1));simp only [i6] at a0 t u v o d8 d7;have e2:=fun(h:prE A us=0) (h4:n<=4) (i2:m<=6) (g:Qb) (k:g.map (·.1)=prQ A us)=>Q8m h oz oz d8 j3 k;obtain⟨g9,d2⟩:=zE (prE A us);rw [d2] at a0;simp only [d2] at o e2;obtain⟨g4,f5,Q,a6,a9,b0,b2,b4⟩:=Zh8 a0 j4 M t u v o e2;have a8:=Zh d7;clear a0 j4 M t u v o e2 d7 d8 j3 d2 i6 r s L Y y;go_enter Tryz.func4,Tryz.ntmps4;go_wp2_with fail;refine g4.out.mono ?_;rintro e o0 ⟨q,l0,p,g,rfl,k,i3⟩;have a4:=Zh i3;have b1:=Zh k;clear i3 k g4;go_wp2_with fail;refine(f5.out o0 a4.out).mono ?_;rintro e e5 ⟨i0,rfl,j2,c8⟩;obtain⟨a5,f4,a3⟩:=Zh3 (a4.out.trans c8) c8 j2;clear c8 j2 f5 a4;by_cases X:i0=true/\g9=0;case neg=>
  have j5:=fun(V:World) (hV:Ext w V)=>(Q.out V hV).mono (R':=fun e w'=>e=.returned (.bool true)/\Ext w w') fun _ _ h=>⟨h.1,hV.trans h.2⟩;have f6:=Zh (j5 e5 a5.out);clear j5 Q a6 a9 b0 b2 b4 a8 b1 a3;cases i0 with
  | false=>
   clear X;go_wp2_with fail;refine f6.out.mono ?_;rintro e o1 ⟨rfl,d⟩;go_wp2;go_ret;exact⟨rfl,d⟩
  | true=>
   have p4:(g9 != 0)=true:=by rw [bne_iff_ne];exact fun h=>X ⟨rfl,h⟩
   clear X;go_wp2_with fail;refine f6.out.mono ?_;rintro e o1 ⟨rfl,d⟩;go_wp2;go_ret;exact⟨rfl,d⟩
 obtain⟨rfl,rfl⟩:=X;obtain⟨n3,n2⟩:=a3.out uz;obtain⟨rfl,k1,k0,k2,_⟩:=b1.out uz;have o:=b2.out uz;have k5:=b4.out uz n3 n2 g k2;obtain⟨g6,g7,g3,P⟩:=Zh4 o k5 (Z7 k0 f4.out) k1;clear o k5 k0 k2 k1 b2 b4 a3 b1 f4;obtain⟨J,j1⟩:=zE e5.heap.size;have b5:=Zh j1;clear j1;go_wp2;refine wp_loop (Q87 n J (.slice lo n lc) (.slice e7 l0 e6) (.slice q l0 p) e5) (fun a _=>((n:Int) - intOf (a.tmps.getD 8 undef)).toNat) ?_ ?_
 ·exact⟨0,none,0,by omega,rfl,rfl,World.ownsRow_nil _ _ _ _,Q0.refl _ _⟩
 rintro⟨n9,_⟩ j ⟨f,c1,c6,B,d4,K,i7,b⟩;subst d4;obtain⟨a1,rfl⟩:=Z0 K;clear K;have I:=Zh i7;have z:=Zh b;clear i7 b;by_cases p2:f<n;case pos=>
  have i1:(f:Int)<(n:Int):=by omega
  have j9:Qj (List.range (f+1))=Qj (List.range f)++[.int .i64 (f:Int)]:=by rw [List.range_succ];simp [Qj]
  have g1:=Zh j9;have i8:=Qc I.out ((Q0.refl (fun _=>False) j).alloc (.cells #[.int .i64 (f:Int)] 3));have g2:=Zh i8;have p0:J<=j.heap.size:=by have:=z.out.size;have:=b5.out;omega
  clear j9 i8
  go_wp2_with (at_builtin;refine Zo rfl (.tmp 40) (.tmp 42) 48 rfl J 3 _ 1 8 Tryz.underlying48 Q1j rfl zd _ _ _ rfl g2.out ⟨j.heap.size,0,none⟩ 1 1 [.int .i64 (f:Int)] rfl rfl (Ze rfl) ?c2 ?c3 ?c4 ?c5 ?_)
  case c2=>first | rfl | (intro q2 E;simp only [List.mem_cons,List.not_mem_nil,or_false] at E;rcases E with rfl;rfl)
  case c3=>unfold maxLen;omega
  case c4=>omega
  case c5=>first | omega | (simp;omega)
  intro m7 c5 o2 d1 i9 _;have j0:Q0 (fun b'=>(Value.slice c1 f c6).ownBlock=some b') j o2:=Q0.trans (Q0.alloc (Q0.refl _ j) _) i9;have i4:=z.out.after j0 (fun b' i1 e=>by have:=(I.out.lt _ e).1;have:=b5.out;omega);rw [<-g1.out] at d1;have l5:=Zh d1;have l2:=Zh i4;clear d1 i4 i9 j0 I g2 z g1;go_wp2;exact⟨⟨f+1,m7,c5,by omega,tz,rfl,l5.out,l2.out⟩,mz⟩
 obtain rfl:f=n:=by omega
 have i1:¬ (f:Int)<(f:Int):=by omega
 have d9:=Rd.of_own I.out;have x:=a5.out.trans z.out;have e0:(List.range f).length=f:=by simp
 have Z:=Z7 g3.out z.out;have t:=fun(D:World) (hD:Ext j D)=>a6.out D (x.trans hD) (List.range f) c1 c6 (d9.ext hD) e0 g q p (Z7 Z hD) P.out;have u:=fun(D:World) (hD:Ext j D)=>a9.out D (x.trans hD) (List.range f) c1 c6 (d9.ext hD) e0 g q p (Z7 Z hD) P.out;have v:=fun(D:World) (hD:Ext j D)=>b0.out D (x.trans hD) g q p (Z7 Z hD) P.out;have o:=fun(D:World) (hD:Ext j D)=>g6.out D (x.trans hD);have M:=fun(D:World) (hD:Ext j D)=>Q.out D (x.trans hD);obtain⟨a2,N,l1,e4,O⟩:=g7.out;rw [a8.out] at a2 N O;unfold Zq at a2 N O;simp only [a2,N] at t;simp only [N] at u;simp only [l1] at v;obtain⟨l8,c9⟩:=zE (K0 A (Ys (List.range f)) g);obtain⟨T,d0⟩:=zE (Vu A g);obtain⟨o5,i5⟩:=zE (Pq A (Ys (List.range f)) g);simp only [c9] at u;rw [c9] at O;simp only [d0] at v;rw [d0] at e4;simp only [i5] at t;obtain⟨e9,f0,f1,f2,f3,m2,b9,l4⟩:=Zh8 t u v o M e4 O x;clear t u v o M a2 N l1 e4 O c9 d0 i5 d9 x e0 Z I z a6 a9 b0 g6 Q g7 g3 P a5 b5;go_wp2_with fail;refine(e9.out j (Q0.refl _ _)).mono ?_;rintro e m3 ⟨rfl,d⟩;have b7:=Zh d;clear d e9;go_wp2_with fail;refine(f0.out m3 b7.out).mono ?_;rintro e m4 ⟨p7,p5,rfl,j7,d⟩;have b8:=Zh (b7.out.trans d);have f8:=Zh j7;clear d j7 f0 b7;go_wp2_with fail;refine(f2.out m4 b8.out).mono ?_;rintro e m5 ⟨q1,p9,b6,e8,rfl,k3,d,k4⟩;obtain⟨R,f9,g5,b3⟩:=Zh4 (b8.out.trans d) (f8.out.ext d) k3 k4;clear d k3 k4 f2 b8 f8;have d5:=Q10 f9.out g5.out;obtain⟨p6,C⟩:=zE l8.length;obtain⟨q0,e1⟩:=zE b6.length;rw [C,e1] at d5;rw [C,e1];have a7:=Zh d5;clear d5 C e1 f9 g5;by_cases F:e8=0
 case' pos=>
  subst F;obtain⟨k8,e3⟩:=b3.out uz;have C:=b9.out (by rw [a8.out] at e3;exact e3);have B:=a7.out;rw [C,<-k8,show decide (b6=b6)=true from decide_eq_true rfl] at B;have f7:=Zh B;clear B C k8 e3 b3 b9 a7;go_wp2_with fail;refine f7.out.mono ?_;rintro e c0 ⟨rfl,d⟩;have S:=Zh (R.out.trans d);clear d R f7
 case' neg=>
  have o9:(e8 == 0)=false:=by rw [beq_eq_false_iff_ne];exact F
  obtain⟨c0,d3⟩:=zE m5;have S:=Zh (show Ext j c0 by rw [<-d3];exact R.out);rw [d3];clear d3 R a7 b3 b9
 all_goals
  go_wp2_with fail;refine(f1.out c0 S.out).mono ?_;rintro e m6 ⟨n7,n6,rfl,j8,d⟩;have g8:=Zh (S.out.trans d);have g0:=Zh j8;clear d j8 f1 S;have k9:T.length<=maxLen:=g0.out.2.1;unfold maxLen at k9;obtain⟨G,F⟩:=zE T.length;have l7:=Zh F;rw [F] at k9 ⊢;clear F;go_wp2;refine wp_loop (Q8i G (.slice n7 G n6) m6) (fun a _=>((G:Int) - intOf (a.tmps.getD 18 undef)).toNat) ?_ ?_
  ·exact⟨0,by omega,rfl,rfl,Q0.refl _ _⟩
  rintro⟨n9,_⟩ m1 ⟨i,p3,d4,K,b⟩;subst d4;obtain⟨a1,rfl⟩:=Z0 K;clear K;have H:=Zh b;clear b;by_cases n1:i<G;case pos=>
   have c7:(i:Int)<(G:Int):=by omega
   have o8:(0:Int)<=(i:Int):=by omega
   have d6:i<T.length:=by rw [l7.out];exact n1
   obtain⟨o7,p8,rfl,U,W⟩:=Q6g g0.out d6;have j6:=m2.out _ (List.getElem_mem d6);obtain⟨c,k7⟩:=zE (T[i]);rw [k7] at U W j6;obtain⟨o3,o4⟩:=c;dsimp only at U W j6;have m8:=H.out.cell_some U id;have m9:=H.out.cell_some W id;have p1:decide (o3>=o4)=false:=decide_eq_false oz;clear k7 U W d6;go_upto_region 20 with (fail)
   go_quiet (fail)
   have l3:=Zh (H.out.drewN nq);clear m8 m9;go_wp2;exact⟨⟨i+1,by omega,tz,rfl,l3.out⟩,mz⟩
  have c7:¬ (i:Int)<(G:Int):=by omega
  have k6:=f3.out m1 (g8.out.trans H.out);have l6:=Zh k6;have l9:=Zh (l4.out.trans (g8.out.trans H.out));clear k6 f3;go_wp2_with fail;refine l6.out.mono ?_;rintro e o6 ⟨rfl,d⟩;have m0:=Zh (l9.out.trans d);clear d;go_wp2;go_ret;exact⟨rfl,m0.out⟩
end Go.Proofs.YtfdlhlghcbeblaaGreatDoor
