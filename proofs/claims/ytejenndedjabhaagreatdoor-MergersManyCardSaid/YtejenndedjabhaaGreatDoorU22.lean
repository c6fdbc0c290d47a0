/- ablautref08.Hit (printed by genrefhit.py). -/
import Derived.Test.YtejenndedjabhaaGreatDoorU20
import Derived.Test.YtejenndedjabhaaGreatDoorU21
import Derived.Test.YtejenndedjabhaaGreatDoorU14
set_option maxRecDepth 100000
set_option maxHeartbeats 16000000
namespace Go.Proofs.YtejenndedjabhaaGreatDoor
open Go.RowKit Go.Ab
attribute [local go_sem] Oper.semAt_some Z6 Qn
def Qbf(t:List (Nat × Wd)):Int:=if Jo t=true then 11 else 0
def Qbm(t:List (Nat × Wd)):List (Nat × Wd):=if Jo t=true then [] else t
def Qb9(v:Value):Nat:=match v with | .slice _ n _=>n | _=>0
def Off(dv:Value)(vals:List Value):Prop:=∀ x∈vals,Ze (fun g=>dv.ownBlock≠some g) x
theorem Off.same{dv dv':Value}{vals:List Value}{W:World}(h:Off dv vals)(hk:∀ x∈vals,Ze (fun g=>g<W.heap.size) x) (hb:dv'.ownBlock=dv.ownBlock\/∃ k,W.heap.size<=k/\dv'.ownBlock=some k):Off dv' vals:=fun x hx g o n c e h0=>by
 rcases hb with hb | ⟨k,h1,h2⟩
 ·rw [hb];exact h x hx g o n c e h0
 ·rw [h2];intro q;cases q;have:=hk x hx g o n c e h0;omega
theorem TrP.turn{b:Nat}{A B:World}{u v dv:Value}{vals:List Value}{tr:List (Nat × Wd)} {b3 n3:Nat} {x3:List Value} (h:TrP b A u v vals tr) (hd:A.ownsRow b3 26 2 dv n3 x3) (ht:Q0 (fun g=>dv.ownBlock=some g) A B) (ho:Off dv vals):TrP b B u v vals tr:=
 ⟨Qd h.ou ht (fun g hg e=>Kw h.ou hd zd g hg e),Qd h.ov ht (fun g hg e=>Kw h.ov hd zd g hg e),h.wd.keepS (S:=fun g=>dv.ownBlock≠some g) (ht.mono fun _ _ e hn=>hn e) ho,fun x hx=>(h.wk x hx).mono fun g hg=>⟨Nat.lt_of_lt_of_le hg.1 ht.size,hg.2⟩⟩
def Qai(E:Int)(n:Nat)(W:World)(v:Value)(u:Wd):Prop:=(E≠0->v=.slice none 0 0)/\(E=0->∃ ao c vs,v=.slice ao (n+1) c/\Rd W v (n+1) 1 vs/\Qm W (vs.getD n undef) u)
def Pm(sh i:Nat):Nat × Nat:=((i+sh) % 64,63 - (i+sh) % 64)
def Vp(n sh:Nat):Wd:=(List.range n).map (Pm sh)
theorem Q3z(n sh:Nat):Vp (n+1) sh=Vp n sh++[Pm sh n]:=by unfold Vp;rw [List.range_succ,List.map_append];rfl
theorem T6(n sh:Nat):(Vp n sh).length=n:=by simp [Vp]
theorem Q8k(sh i:Nat):Qe (Pm sh i):=by
 have:(i+sh) % 64<64:=Nat.mod_lt _ zd;unfold Pm Qe;dsimp only;omega
theorem Q7w(n sh:Nat):Qw (Vp n sh):=fun s hs=>by
 obtain⟨i,_,rfl⟩:=List.mem_map.1 hs;exact Q8k sh i
theorem Q9s:∀ q:Nat,q<64->63 &&& (4294967295 - q)=63 - q:=by decide
theorem Fd(w:World){n sh:Nat}(a0:n<=64)(a2:sh<256) :
  Calls Tryz.prog 29 #[.int .i64 (n:Int),.int .u8 (sh:Int)] w fun e w'=>∃ ao c,e=.returned (.slice ao n c)/\w'.ownsRow w.heap.size 26 2 (.slice ao n c) n (Ql (Vp n sh))/\Ext w w':=by
 obtain⟨i,D⟩:=zE w.heap.size;have q:=Zh D;clear D;go_enter Tryz.func29,Tryz.ntmps29;go_wp2
 refine wp_loop (fun a g=>∃(d:Nat) (ao:Option Addr) (l:Nat),d<=n/\a.defers=[]/\gS a [1,5,8,9]=(27,[.int .u8 (sh:Int),.slice ao d l,.int .i64 n,.int .i64 d])/\g.ownsRow i 26 2 (.slice ao d l) d (Ql (Vp d sh))/\Ext w g)
  (fun a _=>n - (intOf (a.tmps.getD 9 undef)).toNat) ?_ ?_
 ·exact⟨0,none,0,by omega,rfl,rfl,World.ownsRow_nil _ _ _ _,Q0.refl _ _⟩
 rintro⟨a5,_⟩ g ⟨d,ao,l,Y,Q,I,z,x⟩;subst Q;obtain⟨V,rfl⟩:=Qt I;clear I;have o:=Zh z;have k:=Zh x;clear z x;by_cases Z:d<n;case neg=>
  obtain rfl:d=n:=by omega
  have P:¬ (d:Int)<(d:Int):=by omega
  go_wp2;go_ret;exact⟨ao,l,rfl,by rw [q.out];exact o.out,k.out⟩
 have P:(d:Int)<(n:Int):=by omega
 have W:(0:Int)<=(d:Int):=by omega
 have a3:IntKind.i64.wrap (sh:Int)=(sh:Int):=IntWalk.i64_in _ oz;have a4:IntKind.i64.wrap ((d:Int)+(sh:Int))=(d:Int)+(sh:Int):=IntWalk.i64_in _ oz;obtain⟨f,G⟩:=zE ((d+sh) % 64);have R:f<64:=by omega
 have a1:((d:Int)+(sh:Int)) % 64=(f:Int):=by omega
 obtain⟨j,r⟩:=zE (63 - f);have X:bits .andNot .u32 63 (f:Int)=(j:Int):=by
  have v:=u32_andNot_nat 63 f zd oz;rw [Q9s f R,r] at v;exact v
 have B:Vp (d+1) sh=Vp d sh++[(f,j)]:=by rw [Q3z];unfold Pm;rw [G,r]
 have E:i<=g.heap.size:=by have:=k.out.size;rw [q.out] at this;exact this
 have m:Ext g (g.alloc (.cells #[.int .u32 (f:Int),.int .u32 (j:Int)] 26)):=(Q0.refl _ g).alloc _;have H:=Rd.of_own (World.ownsRow_lit (base:=i) (e:=26) (size:=2) g #[.int .u32 (f:Int),.int .u32 (j:Int)] 1 E zd rfl);have F:=Qb o.out m;have S:=m.size;obtain⟨N,t,p,s⟩:=Zh4 B H F (k.out.trans m);have J:i<=(g.alloc (.cells #[.int .u32 (f:Int),.int .u32 (j:Int)] 26)).heap.size:=by omega
 have u:=Zh J;clear B H F m S J E G r
 go_wp2_with (at_builtin;refine V5 rfl (.tmp 18) (.tmp 23) 23 rfl i 26 _ 2 8 Tryz.underlying23 @Ki rfl zd _ _ _ rfl p.out _ 1 _ _ rfl t.out (by intro V K;simp at K;rcases K with rfl | rfl <;> rfl) ?c3 ?c4 u.out ?_)
 case c3=>unfold maxLen;omega
 case c4=>omega
 intro U T O A C _;have y:Ext w O:=s.out.after C (fun b hb e=>by have:=(p.out.lt b e).1;have:=q.out;omega);have M:=Zh A;have L:=Zh y;clear A y C o p s t u k;go_wp2;exact⟨⟨d+1,U,T,by omega,by first | trivial | rfl,rfl,by have:=M.out;rw [N.out];simpa [Ql] using this,L.out⟩,nz⟩
attribute [local go_sem high] Wa
def u8V(l:List Nat):List Value:=l.map fun(x:Nat)=>Value.int .u8 (x:Int)
def Qab(l:List Nat)(most:Nat):Wd:=(l.take most).map fun k=>Pm 0 (k % 8)
def Vo(w:World)(v:Value)(us:List Wd):Prop:=∃ vs,Rd w v us.length 1 vs/\Z4 w vs us
theorem Vo.ext{A B:World}{v:Value}{us:List Wd}(h:Vo A v us)(a:Ext A B):Vo B v us:=by
 obtain⟨d,b,c⟩:=h;exact⟨d,b.ext a,c.ext a⟩
theorem Z4.row{A B:World}{v:Value}{base:Nat}{e:TypeId}{sz n:Nat}{xs:List Value}(hr:Gi Q0o A v)(ho:A.ownsRow base e sz v n xs)(ht:Q0 (fun b=>v.ownBlock=some b) A B):∀ {vs:List Value} {us:List Wd},Z4 A vs us->Z4 B vs us
 | [],[],_=>trivial
 | _::_,_::_,⟨h1,h2⟩=>⟨h1.row hr ho ht,Z4.row hr ho ht h2⟩
def Qa2(DS:List Wd)(k:Nat):List Nat:=(List.range k).map (Y8 DS)
theorem Vo.at{w:World}{vo:Option Addr}{N vc:Nat}{us:List Wd}(h:Vo w (.slice vo N vc) us) (j:us.length=N) {i:Nat} (l:i<N) :
  ∃ g off ao c,vo=some ⟨g,off,none⟩/\g<w.heap.size/\w.cell? ⟨g,off+i,none⟩=some (.slice ao (us.getD i []).length c)/\Q4 w (.slice ao (us.getD i []).length c) (us.getD i []):=by
 obtain⟨o,a,f⟩:=h;rw [j] at a;obtain⟨g,off,n,d,k,b⟩:=Zq a l;simp only [zV,true_and] at d;obtain⟨rfl,rfl⟩:=d;obtain⟨ao,c,e,m,_⟩:=f.get i oz;rw [e] at b;exact⟨g,off,ao,c,rfl,k,b,m⟩
def Qad(DS PL:List Wd)(k:Nat):List Int:=(List.range k).map fun i=>Xt PL (DS.getD i []) PL.length
theorem Ep:Dc [v15] [(5,2)] [(5,2)] (2,5)=0/\Db [v15] [(5,2)] [(5,2)] (2,5)=[(5,2),(3,4),(5,2)]:=by decide +kernel
theorem Mu:Zg [v15] [(5,2)] [(5,2)] [(2,5),(3,4),(5,2)]=0/\Zi [v15] [(5,2)] [(5,2)] [(2,5),(3,4),(5,2)]=[[(5,2),(3,4),(5,2)],[(5,2),(3,4),(5,2)],[(5,2),(5,2),(5,2)]]:=by decide +kernel
theorem Q1w:Ln [[(5,2),(3,4),(5,2)],[(5,2),(3,4),(5,2)],[(5,2),(5,2),(5,2)]]=[0,0,2]:=by decide +kernel
theorem Q3n:Um [v15] [(5,2)] [(5,2)] [(2,5),(3,4),(5,2)]=[1,1,2]:=by decide +kernel
theorem P1:Yi [1,2,-1,3]=0/\Jz [1,2,-1,3]=[[0,1,2]]:=by decide +kernel
end Go.Proofs.YtejenndedjabhaaGreatDoor
