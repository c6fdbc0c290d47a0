/- chron.Order.Allows, Copy; Before's errors. -/
import Derived.Test.YtfdlhlghcbeblaaGreatDoorW06
namespace Go.Proofs.YtfdlhlghcbeblaaGreatDoor
open Go.RowKit Go.Ab
def Ja(n:Nat)(R:Nat->Nat->Bool):List Int->List Nat->Bool->Option (List Nat × Bool)
 | [],d,b=>some (d,b)
 | x::l,d,b=>if Ze n x && !d.contains x.toNat then Ja n R l (d++[x.toNat]) (b && (List.range n).all fun a=>!R a x.toNat || d.contains a) else none
def allowsR(n:Nat)(R:Nat->Nat->Bool)(l:List Int):Bool × Int:=
 match Ja n R l [] true with
 | some (_,b)=>if l.length=n then(b,0) else(false,2)
 | none=>(false,2)
theorem V8(n:Nat)(R:Nat->Nat->Bool):∀(l m:List Int) (d:List Nat) (b:Bool),Ja n R (l++m) d b=(Ja n R l d b).bind fun p=>Ja n R m p.1 p.2
 | [],m,d,b=>by simp [Ja]
 | x::l,m,d,b=>by
  simp only [List.cons_append,Ja]
  split
  ·exact V8 n R l m _ _
  ·rfl
set_option maxHeartbeats 4000000 in
theorem Q27(b n:Nat)(R:Nat->Nat->Bool)(A:n<=64)(w:World)(B:W1 w b n R)(v:Value)(L:List Int)(O:Rd w v L.length 1 (Ly L)) :
  Calls Tryz.prog 59 #[.pointer (some ⟨b,0,none⟩),v] w fun e w'=>e=.returned (.tuple #[.bool (allowsR n R L).1,.int .i64 (allowsR n R L).2])/\w=w':=by
 obtain⟨a0,N,T,X,rfl,m⟩:=O;unfold maxLen at N;have t:=B.n;have W:=B.made;go_enter Tryz.func59,Tryz.ntmps59;go_wp2
 go_loop [6,7,21] (fun dv iv cv=>∃(d:Nat) (f:List Nat) (q:Bool),d<=L.length/\cv=.int .i64 d/\dv=.int .u64 (Wm n f)/\iv=.bool q/\Ja n R (L.take d) [] true=some (f,q)) (fun _ _ cv=>L.length - (intOf cv).toNat)
 case atStart=>exact⟨0,[],true,Nat.zero_le _,rfl,by simp [Q6o],rfl,by simp [Ja]⟩
 case round=>
  obtain⟨d,f,q,M,rfl,rfl,rfl,g⟩:=hrel;by_cases o:d<L.length
  ·obtain⟨Y,a3,rfl,Z,y⟩:=m oz;obtain⟨c,l⟩:=zE (L[d]);have J:=y d oz;rw [Md _ _ o,show L.getD d 0=c by simp [List.getD_eq_getElem?_getD,o,l]] at J;have C:L.take (d+1)=L.take d++[c]:=by rw [List.take_succ_eq_append_getElem o,l]
   have j:Ja n R (L.take (d+1)) [] true=Ja n R [c] f q:=by rw [C,V8,g];rfl
   have p:Ja n R (L.take (d+1)) [] true=none->Ja n R L [] true=none:=by
    intro K;rw [<-List.take_append_drop (d+1) L,V8,K];rfl
   simp only [Ja] at j;by_cases i:0<=c/\c<n
   ·have u:=Xx i.1 i.2;obtain⟨c,rfl⟩:=Int.eq_ofNat_of_zero_le i.1;have P:c<n:=by omega
    have a2:(c:Int)<64:=by omega
    have s:=Q1f (Wm n f) c (Vv A _);have E:(Wm n f).testBit c=f.contains c:=by rw [Wm,Zr];simp;omega
    rw [E] at s;have V:=B.bf c oz;have U:(bits .andNot .u64 ((bfR n R c:Nat):Int) ((Wm n f:Nat):Int) == 0)=(List.range n).all fun a=>!R a c || f.contains a:=Q09 A _ _;have F:=Q54 P f;have Q:=Hi (Wm n f) c (Vv A _) oz;rw [F] at Q;simp only [u,Int.toNat_natCast,Bool.true_and] at j;obtain⟨D,I,S⟩:=Zh3 j p l;clear j p l g E F C y m i;by_cases k:f.contains c=true
    ·rw [k] at s;have r:=Zh k;clear k
     go_wp2_with (go_at_call 108;refine(Xz b n _ w t).mono ?_;rintro e w' ⟨rfl,rfl⟩)
     go_ret2;have x:=I.out (by rw [D.out,r.out];rfl);exact⟨by simp [allowsR,x],rfl⟩
    ·have z:f.contains c=false:=by simpa using k
     rw [z] at s;have r:=Zh z;clear k z
     go_wp2_with (go_at_call 108;refine(Xz b n _ w t).mono ?_;rintro e w' ⟨rfl,rfl⟩)
     go_goals
     all_goals
      go_round
      case rel=>
       refine⟨d+1,f++[c],_,by omega,by first | rfl | go_num,rfl,rfl,?_⟩;rw [D.out,r.out];simp_all
      case measure=>simp [intOf];omega
   ·have u:=Fd i;have x:=Zh (p (by rw [j];simp [u]));clear p j g C l y m i
    go_wp2_with (go_at_call 108;refine(Xz b n _ w t).mono ?_;rintro e w' ⟨rfl,rfl⟩)
    go_ret2;exact⟨by simp [allowsR,x.out],rfl⟩
  ·obtain rfl:d=L.length:=by omega
   rw [List.take_length] at g;have H:=Zh g;clear g m o M;go_wp2
   go_goals
   all_goals
    rename_i G _
    have a1:L.length≠n\/L.length=n:=by omega
    simp only [bne_iff_ne,ne_eq,bne_eq_false_iff_eq,Int.natCast_inj] at G;go_ret2;exact⟨by simp [allowsR,H.out,G],rfl⟩
attribute [local go_sem] Oper.semAt_some Z1 Qk
def Qci(_n:Nat)(_R:Nat->Nat->Bool)(lv:Nat->Nat)(b:Nat)(l:List Nat):Nat:=l.foldl (fun m a=>max m (lv a+1)) (lv b)
def Q9k(n:Nat)(R:Nat->Nat->Bool)(lv:Nat->Nat)(b:Nat):Nat->Nat:=upd lv b (Qci n R lv b ((List.range n).filter fun a=>R a b))
def Qc2(n:Nat)(R:Nat->Nat->Bool)(l:List Nat):Nat->Nat:=l.foldl (Q9k n R) (fun _=>0)
def Qd1(n:Nat)(R:Nat->Nat->Bool):List Nat:=(List.range n).map (Qc2 n R (Q6h n R))
def Qe3(n:Nat)(lv:Nat->Nat):List Value:=Ly (zs ((List.range n).map lv))
end Go.Proofs.YtfdlhlghcbeblaaGreatDoor
namespace Go.Ab
abbrev Bin:=Nat->Nat->Bool
def Sub(R Q:Bin):Prop:=∀ a b,R a b=true->Q a b=true
def Qdz(Q:Bin):Prop:=∀ a b c,Q a b=true->Q b c=true->Q a c=true
def Qej(R:Bin)(l:List (Nat × Nat)):Bin:=l.foldl (fun R p=>Vn R p.1 p.2) R
def noR:Bin:=fun _ _=>false
def ltR(n:Nat):Bin:=fun a b=>decide (a<b) && decide (b<n)
def Qcl(n:Nat)(R:Bin)(a b:Nat):Bool:=R a b && (List.range n).all fun c=>!(R a c && R c b)
end Go.Ab
namespace Go.Proofs.YtfdlhlghcbeblaaGreatDoor
open Go.RowKit Go.Ab
theorem Q6x{α:Type}{p:List α->Prop}(a:p [])(b:∀ l x,p l->p (l++[x])):∀ l,p l:=by
 intro l;rw [<-List.reverse_reverse l]
 induction l.reverse with
 | nil=>exact a
 | cons x m ih=>rw [List.reverse_cons];exact b _ _ ih
def Cu(n:Nat)(R:Bin)(l:List Nat):Prop:=∀ pre x post,l=pre++x::post->Q23 n R pre=some x
theorem Q1y{α:Type}{l b c:List α}{x y:α}(h:l++[x]=b++y::c):(c=[]/\b=l/\y=x)\/∃ q,c=q++[x]/\l=b++y::q:=by
 rcases List.eq_nil_or_concat c with rfl | ⟨q,d,rfl⟩
 ·have a:=List.append_inj' h rfl;exact .inl ⟨rfl,a.1.symm,by simpa using a.2.symm⟩
 ·right
  have e:b++y::(q++[d])=(b++y::q)++[d]:=by simp
  rw [List.concat_eq_append,e] at h;have a:=List.append_inj' h rfl;have f:x=d:=by simpa using a.2
  exact⟨q,by simp [f],a.1⟩
theorem Cu.nil(n:Nat)(R:Bin):Cu n R []:=fun pre x post h=>by simp at h
theorem Cu.snoc{n:Nat}{R:Bin}{l:List Nat}{x:Nat}(h:Cu n R l)(c:Q23 n R l=some x):Cu n R (l++[x]):=by
 intro d f g a;rcases Q1y a with ⟨_,rfl,rfl⟩ | ⟨e,_,b⟩
 ·exact c
 ·exact h d f e b
def Le(n:Nat)(R:Bin)(l:List Nat):Prop:=∀ pre x post,l=pre++x::post->x<n/\rdy n R pre x=true
theorem Le.front{n:Nat}{R:Bin}{l m:List Nat}(h:Le n R (l++m)):Le n R l:=fun pre x post e=>h pre x (post++m) (by rw [e];simp)
theorem Le.allows{n:Nat}{R:Bin}:∀ {l:List Nat},Le n R l->Ja n R (zs l) [] true=some (l,true):=by
 intro l;refine Q6x (p:=fun l=>Le n R l->Ja n R (zs l) [] true=some (l,true)) ?_ ?_ l
 ·intro _;rfl
 ·intro l c e b;obtain⟨f,a⟩:=b l c [] rfl;rw [Q57,V8,e b.front];simp only [rdy,Bool.and_eq_true] at a;have d:Ze (n:Int) (c:Int)=true:=Xx oz oz;simp only [Option.bind_some,zs,List.map_cons,List.map_nil,Ja,d,Int.toNat_natCast,a.1,a.2,Bool.and_self,if_true]
theorem Le.allowsR{n:Nat}{R:Bin}{l:List Nat}(h:Le n R l)(a:l.length=n):allowsR n R (zs l)=(true,0):=by
 simp only [Go.Proofs.YtfdlhlghcbeblaaGreatDoor.allowsR,h.allows,Q41,a,if_true]
def lvl(n:Nat)(R:Bin):Nat->Nat:=Qc2 n R (Q6h n R)
def Qdq(n:Nat)(lv:Nat->Nat)(k:Nat):List Nat:=(List.range k).flatMap fun level=>(List.range n).filter fun b=>lv b == level
def lex(lv:Nat->Nat)(a b:Nat):Prop:=lv a<lv b\/(lv a=lv b/\a<b)
def okP(n:Nat)(L:List Int)(k:Nat):Prop:=∀ i,i<k->∃ a:Nat,a<n/\L[i]?=some (a:Int)/\∀ j,j<i->L[j]?≠some (a:Int)
theorem Qbt{n:Nat}{L:List Int}{k m:Nat}(h:okP n L k)(hm:m<=k):okP n L m:=fun i hi=>h i oz
def Dg(n:Nat)(R:Bin)(M:List Nat)(k:Nat):Bool:=(List.range k).all fun i=>(List.range n).all fun a=>!R a (M.getD i 0) || (M.take i).contains a
theorem Q24(n:Nat)(R:Bin)(M:List Nat)(k:Nat):Dg n R M (k+1)=(Dg n R M k && (List.range n).all fun a=>!R a (M.getD k 0) || (M.take k).contains a):=by
 unfold Dg;rw [List.range_succ,List.all_append];simp
theorem Q1i{L:List Int}{i a:Nat}(h:L[i]?=some (a:Int)):(L.map Int.toNat)[i]?=some a:=by
 rw [List.getElem?_map,h];rfl
theorem Qbz{n:Nat}{L:List Int}{k:Nat}(h:okP n L k):k<=L.length:=by
 apply Nat.le_of_not_lt;intro b;obtain⟨c,_,a,_⟩:=h L.length b;simp at a
theorem Q0z{n:Nat}(R:Bin){L:List Int}:∀(k:Nat),okP n L k->Ja n R (L.take k) [] true=some ((L.map Int.toNat).take k,Dg n R (L.map Int.toNat) k)
 | 0,_=>by simp [Ja,Dg]
 | k+1,h=>by
  have hk:=Qbz h;obtain⟨a,ha,e,hne⟩:=h k oz;have hlt:k<L.length:=by omega
  have hx:L[k]=(a:Int):=by
   rw [List.getElem?_eq_getElem hlt] at e;exact Option.some.inj e
  rw [List.take_succ_eq_append_getElem hlt,V8,Q0z R k (Qbt h oz),hx];show Ja n R [(a:Int)] _ _=_;have hc:((L.map Int.toNat).take k).contains a=false:=by
   rw [<-Bool.not_eq_true,List.contains_iff_mem];intro hm;obtain⟨j,hj,e2⟩:=List.getElem_of_mem hm;simp only [List.length_take,List.length_map] at hj;obtain⟨b,_,e3,_⟩:=h j oz;have e4:=Q1i e3;have:a=b:=by
    rw [List.getElem_take] at e2;rw [List.getElem?_eq_getElem (by simp;omega)] at e4;rw [<-e2];exact Option.some.inj e4
   subst this;exact hne j oz e3
  have hm:=Q1i e;unfold Ja;rw [if_pos (by rw [Xx oz oz,Int.toNat_natCast,hc];rfl)];unfold Ja;rw [Q24,Int.toNat_natCast]
  congr 2
  ·rw [List.take_add_one,hm];rfl
  ·simp [List.getD_eq_getElem?_getD,hm]
theorem Q2j{n:Nat}{R:Bin}{L:List Int}(a:L.length=n)(h:okP n L n):allowsR n R L=(Dg n R (L.map Int.toNat) n,0):=by
 have:=Q0z R n h;rw [<-a,List.take_length] at this;unfold allowsR;rw [a] at this;rw [this];simp only [a,if_true]
theorem Qaa{n:Nat}{R:Bin}{a b:Nat}(e:a<n)(f:b<n):isR n R a b=R a b:=by
 have c:Ze (n:Int) (a:Int)=true:=Xx oz oz;have d:Ze (n:Int) (b:Int)=true:=Xx oz oz;simp [isR,c,d]
def zps(l:List (Nat × Nat)):List (Int × Int):=l.map fun p=>((p.1:Int),(p.2:Int))
def Qei(n:Nat)(R:Bin):List (Nat × Nat):=(List.range n).flatMap fun a=>((List.range n).filter fun b=>Qcl n R a b).map fun b=>(a,b)
end Go.Proofs.YtfdlhlghcbeblaaGreatDoor
