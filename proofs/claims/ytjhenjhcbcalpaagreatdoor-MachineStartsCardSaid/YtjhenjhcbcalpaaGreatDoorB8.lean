/- Texts of this claim, part 8: W1, W2, W3, W4, W5, W6. Conditions: those of the given rows. -/
import Derived.Test.YtjhenjhcbcalpaaGreatDoorB7
set_option linter.unusedSimpArgs false
set_option linter.unusedVariables false
set_option maxRecDepth 1000000
set_option maxHeartbeats 8000000
namespace Go.Proofs.YtjhenjhcbcalpaaGreatDoor
open Go Go.aV
noncomputable section
theorem wrap32(n:Int):IntKind.i32.wrap (IntKind.u32.wrap n)=aI n:=by
 simp only[IntKind.wrap,IntKind.bits,IntKind.signed,aI];simp;split<;>omega
theorem ako{x y:Int} (hx:-2147483648≤x∧x≤2147483647) (hy:-2147483648≤y∧y≤2147483647):-9223372036854775808≤x * y∧x * y≤9223372036854775807:=by
 have h1:x.natAbs≤2147483648:=by omega
 have h2:y.natAbs≤2147483648:=by omega
 have h3:(x * y).natAbs≤2147483648 * 2147483648:=by rw[Int.natAbs_mul];exact Nat.mul_le_mul h1 h2
 omega
abbrev Gi:CT:={ ps:=[.int .i64],pre:=λd=>True,res:=λd=>([],.one (.c (.v (.int .i64 (aI d.1))))) }
theorem ano(n:Int):
 let z1:=IntKind.i32.wrap (IntKind.u32.wrap n);cZ IntKind.i64 z1∧qI (aI n) z1:=by
 conv=>zeta
 delta qI;have:=oL n;rw[wrap32];exact⟨au.2 (by omega),rfl,rfl⟩
theorem DJ:Go.aV.Met Tryz.prog aK.gd 77 Gi:=
 jC (cx:=aK) (n:=7) (cl:=[]) ay trivial Tryz.func77 λd hd=>by
  obtain⟨n,⟨⟩⟩:=d;exact aH (λ_=>none) (ano n) (by kernel_rfl)
abbrev akp:CT:={ ps:=[.bool],pre:=λd=>True,res:=λd=>([],.one (.c (.v (.int .i64 (if d.1=true then 1 else 0))))) }
theorem ahA(b:Bool):
 let z1:=if b=true then(1:Int) else(0:Int);br b (qI z1 (1:Int)) (qI z1 (0:Int)):=by
 conv=>zeta
 delta qI;rw[ah];cases b<;>simp
theorem acp:Go.aV.Met Tryz.prog aK.gd 161 akp:=
 jC (cx:=aK) (n:=4) (cl:=[]) ay trivial Tryz.func161 λd hd=>by
  obtain⟨b,⟨⟩⟩:=d;exact aH (λ_=>none) (ahA b) (by kernel_rfl)
abbrev UM:CT:={ ps:=[.int .i64,.int .i64,.int .i64],pre:=λd=>True,res:=λd=>([],.gX [.c (.v (.int .i64 (dP d.1 d.2.1 d.2.2.1).1)),.c (.v (.int .i64 (dP d.1 d.2.1 d.2.2.1).2))]) }
theorem anp(f a b:Int):
 let z1:=[cI ((dP f a b).fst),cI ((dP f a b).snd)];True∧True∧br (decide (f=1)) (cZ IntKind.i64 (aI a+aI b)∧True∧rT z1 [cI (aI (aI a+aI b)),cI 0]) (br (decide (f=2)) (cZ IntKind.i64 (aI a - aI b)∧True∧rT z1 [cI (aI (aI a - aI b)),cI 0]) (br (decide (f=3)) (cZ IntKind.i64 (aI a * aI b)∧True∧rT z1 [cI (aI (aI a * aI b)),cI 0]) (br (decide (f=4)) (True∧rT z1 [cI (aI (kX BinOp.and IntKind.i64 (aI a) (aI b))),cI 0]) (br (decide (f=5)) (True∧rT z1 [cI (aI (kX BinOp.or IntKind.i64 (aI a) (aI b))),cI 0]) (br (decide (f=6)) (True∧rT z1 [cI (aI (kX BinOp.xor IntKind.i64 (aI a) (aI b))),cI 0]) (br (decide (f=7)) (True∧rT z1 [cI (if decide (aI a=aI b)=true then(1:Int) else(0:Int)),cI 0]) (br (decide (f=8)) (True∧rT z1 [cI (if(!decide (aI a=aI b))=true then(1:Int) else(0:Int)),cI 0]) (br (decide (f=9)) (True∧rT z1 [cI (if decide (aI a < aI b)=true then(1:Int) else(0:Int)),cI 0]) (br (decide (f=10)) (True∧rT z1 [cI (if decide (aI a≤aI b)=true then(1:Int) else(0:Int)),cI 0]) (rT z1 [cI 0,cI 8])))))))))):=by
 conv=>zeta
 delta cI rT;have ha:=oL a;have hb:=oL b;have hm:=ako ha hb;unfold dP;simp only[ah,dG,dh]
 repeat' (first | (refine And.intro ?_ ?_) | (intro _))
 all_goals first | rfl | trivial | exact au.2 (by omega) | (simp[*];done) | skip
theorem KW:Go.aV.Met Tryz.prog aK.gd 97 UM:=
 jC (cx:=aK) (n:=75) (cl:=[(77,Gi),(161,akp)]) ay ⟨DJ,acp,trivial⟩ Tryz.func97 λd hd=>by
  obtain⟨f,a,b,⟨⟩⟩:=d;exact aH (λ_=>none) (anp f a b) (by kernel_rfl)
abbrev acr:CT:={ ps:=[.int .i64],pre:=λd=>True,res:=λd=>([],vB (jf d.1)) }
theorem ahB(op:Int):
 qB (jf op) (decide (8≤op) && decide (op≤22)):=by
 delta qB;refine⟨rfl,?_⟩;rw[show jf op=(decide (8≤op) && decide (op≤22)) by unfold jf;rw[Ee];simp]
theorem OB:Go.aV.Met Tryz.prog aK.gd 149 acr:=
 jC (cx:=aK) (n:=9) (cl:=[]) ay trivial Tryz.func149 λd hd=>by
  obtain⟨op,⟨⟩⟩:=d;exact aH (λ_=>none) (ahB op) (by kernel_rfl)
abbrev akq:CT:={ ps:=[qO],pre:=λd=>True,res:=λd=>([],.gX [.c (.v (.int .i64 (jh d.1).1)),.c (.v (.bool (jh d.1).2))]) }
theorem ahC(op a b c obj n fo ord:Int):
 let z4:=pG op a b c obj n fo ord=0;let z2:=!!decide z4;let z3:=jh (op,a,b,c,obj,n,fo,ord,());let z1:=[cI (z3.fst),cB (z3.snd)];True∧(z2=true→cZ IntKind.i64 (op - 1))∧(z2=true→0≤op - 1∧op - 1 < (22:Int))∧∀(d:ByteArray×((Sh.arr 7 Sh.bool).pair Sh.unit).den),(z2=true→Oa[(op - 1).toNat]?=some d)→(z2=true→(0:Int)≤(0:Int)∧0 < (↑(List.length d.snd.fst):Int))∧∀(dH:Bool),(z2=true→d.snd.fst[0]?=some dH)→br (!decide z4 || !dH) (rT z1 [cI 0,cB false]) (rT z1 [cI a,cB true]):=by
 conv=>zeta
 delta cI cB rT
 by_cases h:pG op a b c obj n fo ord=0
 ·obtain⟨r1,r2,r3,r4⟩:=kH (i:=(op,a,b,c,obj,n,fo,ord,())) h;have r4:1≤op∧op≤22:=r4;refine⟨trivial,λ_=>au.2 (by omega),λ_=>by omega,λd hd=>?_⟩
  have hd:=hd (by simp[h])
  obtain⟨nm,us,u⟩:=d;have hu:=Oc r4 hd;subst hu;refine⟨λ_=>by simp,λd1 hd1=>?_⟩
  have hd1:use op 0=d1:=by simpa[h]using hd1
  subst hd1;rw[ah];have hc:rX (op,a,b,c,obj,n,fo,ord,())=0:=h;refine⟨λq=>?_,λq=>?_⟩
  ·have q:use op 0=false:=by simpa[h]using q
   have e:jh (op,a,b,c,obj,n,fo,ord,())=(0,false):=by unfold jh;rw[if_pos (.inr q)]
   rw[e];exact⟨rfl,rfl⟩
  ·have q:use op 0=true:=by simpa[h]using q
   have e:jh (op,a,b,c,obj,n,fo,ord,())=(a,true):=by unfold jh;rw[if_neg (by rw[hc];simp[q])]
   rw[e];exact⟨rfl,rfl⟩
 ·have hc:¬rX (op,a,b,c,obj,n,fo,ord,())=0:=h;have e:jh (op,a,b,c,obj,n,fo,ord,())=(0,false):=by unfold jh;rw[if_pos (.inl hc)]
  rw[e];refine⟨trivial,λq=>by simp[h]at q,λq=>by simp[h]at q,λd hd=>⟨λq=>by simp[h]at q,λd1 hd1=>?_⟩⟩
  rw[ah];exact⟨λ_=>⟨rfl,rfl⟩,λq=>by simp[h]at q⟩
theorem acs:Go.aV.Met Tryz.prog aK.gd 109 akq:=
 jC (cx:=aK) (n:=19) (cl:=[(168,amB)]) ay ⟨Oe,trivial⟩ Tryz.func109 λd hd=>by
  obtain⟨⟨op,a,b,c,obj,n,fo,ord,⟨⟩⟩,⟨⟩⟩:=d;exact aH (λ_=>none) (ahC op a b c obj n fo ord) (by kernel_rfl)
instance (l:List Int):Decidable (SS l):=inferInstanceAs (Decidable (l.Pairwise (· < ·)))
def kN(l:List Int):Bool:=decide (SS l)
theorem Gj:∀{l:List Int},(∀j x y,l[j]?=some x→l[j+1]?=some y→x < y)→SS l
 | [],_=>List.Pairwise.nil
 | [a],_=>by simp[SS]
 | a :: b :: l,h=>by
   have ih:SS (b :: l):=Gj λj x y h1 h2=>h (j+1) x y (by simpa using h1) (by simpa using h2)
   refine MB.2 ⟨λz hz=>?_,ih⟩
   have hab:=h 0 a b rfl rfl;rcases mX.1 hz with rfl | hz
   ·exact hab
   ·have:=(MB.1 ih).1 z hz;omega
theorem KX{l:List Int} (h:SS l){j:Nat}{x y:Int} (h1:l[j]?=some x) (h2:l[j+1]?=some y):x < y:=by
 obtain⟨a1,a2⟩:=eU.1 h1;obtain⟨b1,b2⟩:=eU.1 h2;have:=VX.1 h j (j+1) a1 b1 (by omega)
 omega
abbrev ctV:CT:={ ps:=[.sl (.int .i64)],pre:=λd=>d.1.length≤1000000,res:=λd=>([],vB (kN d.1)) }
@[reducible] def anq (l:List Int):Nat→Option (St→iC):=λk=>match k with
  | 2=>some λ_=>.inv { α:=Nat,slots:=λk=>[(3,.c (.v (.int .i64 k)))],res:=λ_=>[],inv:=λk=>(1≤k∧(k≤l.length∨k=1))∧∀j,j+1 < k→∀x y,l[j]?=some x→l[j+1]?=some y→x < y,meas:=λk=>l.length - k }
  | _=>none
theorem ahD(l:List Int) (aA:ctV.pre (l,())):
 (∃x,((1≤x∧(x≤l.length∨x=1))∧∀(j:Nat),j+1 < x→∀(x y:Int),l[j]?=some x→l[j+1]?=some y→x < y)∧(cI 1=cI (↑x:Int)∧True)∧([]:List aal)=[])∧∀(x:Nat),((1≤x∧(x≤l.length∨x=1))∧∀(j:Nat),j+1 < x→∀(x y:Int),l[j]?=some x→l[j+1]?=some y→x < y)→br (decide ((↑x:Int) < (↑l.length:Int))) (cZ IntKind.i64 ((↑x:Int) - (1:Int))∧(0≤(↑x:Int) - (1:Int)∧(↑x:Int) - 1 < (↑l.length:Int))∧∀(d:Int),l[((↑x:Int) - (1:Int)).toNat]?=some d→(0≤(↑x:Int)∧(↑x:Int) < (↑l.length:Int))∧∀(dH:Int),l[(↑x:Int).toNat]?=some dH→br (decide (dH≤d)) (qB (kN l) false) (cZ IntKind.i64 ((↑x:Int)+(1:Int))∧∃x',((1≤x'∧(x'≤l.length∨x'=1))∧∀(j:Nat),j+1 < x'→∀(x y:Int),l[j]?=some x→l[j+1]?=some y→x < y)∧(cI ((↑x:Int)+(1:Int))=cI (↑x':Int)∧True)∧([]:List aal)=[]∧l.length - x' < l.length - x)) (qB (kN l) true):=by
 delta aal cI qB;have hp:l.length≤1000000:=aA;refine⟨⟨1,⟨⟨by omega,.inr rfl⟩,λj hj=>by omega⟩,⟨rfl,trivial⟩,rfl⟩,λk hk=>ah.2 ⟨λh=>?_,λh=>?_⟩⟩
 ·simp only[dG]at h;have hk1:=hk.1.1;refine⟨au.2 (by omega),by omega,λd hd=>⟨by omega,λe he=>?_⟩⟩
  have hd:l[k - 1]?=some d:=by rw[←hd];congr 1;omega
  have he:l[k]?=some e:=by simpa using he
  have he':l[k - 1+1]?=some e:=by rw[show k - 1+1=k by omega];exact he
  refine ah.2 ⟨λh2=>?_,λh2=>⟨au.2 (by omega),k+1,⟨⟨by omega,.inl (by omega)⟩,λj hj x y hx hy=>?_⟩,⟨by simp,trivial⟩,rfl,by omega⟩⟩
  ·simp only[dG]at h2;have:kN l=false:=Ed λhs=>by have:=KX hs hd he';omega
   rw[this];exact⟨rfl,rfl⟩
  ·simp only[dh]at h2
   by_cases gq:j+1=k
   ·have hj':j=k - 1:=by omega
    subst hj';rw[hd]at hx;rw[he']at hy;cases hx;cases hy;omega
   ·exact hk.2 j (by omega) x y hx hy
 ·simp only[dh]at h;have:kN l=true:=L6 (Gj λj x y hx hy=>hk.2 j (by have:=(eU.1 hy).1;omega) x y hx hy)
  rw[this];exact⟨rfl,rfl⟩
theorem OC:Go.aV.Met Tryz.prog aK.gd 192 ctV:=
 jC (cx:=aK) (n:=20) (cl:=[]) ay trivial Tryz.func192 λd hd=>by
  obtain⟨l,⟨⟩⟩:=d;exact aH (anq l) (ahD l hd) (by kernel_rfl)
abbrev Gl:CT:={ ps:=[.sl (.int .i64),.sl (.int .i64),.bool],pre:=λd=>d.1.length≤1000000∧d.2.1.length≤1000000,res:=λd=>([.row 3 (.int .i64) (jl (aX d.1) d.2.1 d.2.2.1)],.one (.c (.row 0))) }
@[reducible] def anr (l o:List Int) (b:Bool):Nat→Option (St→iC):=λk=>match k with
  | 3=>some λ_=>.inv { α:=Nat,slots:=λk=>[(13,.c (.v (.int .i64 k))),(7,.c (.row 1))],res:=λk=>[(1,.row 3 (.int .i64) (jl ((aX l).take k) o b))],inv:=λk=>k≤(aX l).length,meas:=λk=>(aX l).length - k,nil:=[(7,3,.int .i64)] }
  | _=>none
theorem ahE(l o:List Int) (b:Bool) (aA:Gl.pre (l,o,b,())):
 let z3:=λ(x:Nat)=>jl (List.take x (aX l)) o b;let z2:=λ(x:Nat)=>[g0 (aj.row 3 I6 (aX l)),g0 (aj.row 3 I6 (z3 x))];let z1:=λ(x x':Nat)=>cI ((↑x:Int)+(1:Int))=cI (↑x':Int)∧SV.c (SC.row 1)=SV.c (SC.row 1)∧True;l.length≤1000000∧(∃x,x≤(aX l).length∧(cI 0=cI (↑x:Int)∧SV.c (SC.row (Nat.succ 0))=SV.c (SC.row 1)∧True)∧[g0 (aj.row 3 I6 (aX l)),g0 (aj.row 3 I6 [])]=(z2 x))∧∀(x:Nat),x≤(aX l).length→br (decide ((↑x:Int) < (↑(aX l).length:Int))) ((0≤(↑x:Int)∧(↑x:Int) < (↑(aX l).length:Int))∧(↑x:Int).toNat < (aX l).length∧∀(d:Int),(aX l)[(↑x:Int).toNat]?=some d→o.length≤4611686018427387904∧br (dM o d == b) (jS (List.length (z3 x)+List.length ([d])) 8∧cZ IntKind.i64 ((↑x:Int)+(1:Int))∧∃x',x'≤(aX l).length∧(z1 x x')∧[g0 (aj.row 3 I6 (aX l)),g0 (aj.row 3 I6 (jl (List.take x (aX l)) o b++[d]))]=(z2 x')∧(aX l).length - x' < (aX l).length - x) (cZ IntKind.i64 ((↑x:Int)+(1:Int))∧∃x',x'≤(aX l).length∧(z1 x x')∧(z2 x)=(z2 x')∧(aX l).length - x' < (aX l).length - x)) ([aj.row 3 I6 (jl (aX l) o b)]=[aj.row 3 I6 (z3 x)]∧aT.one (SV.c (SC.row 0))=aT.one (SV.c (SC.row 0))):=by
 conv=>zeta
 delta cI g0 I6;have hp:l.length≤1000000∧o.length≤1000000:=aA;have hm:=Oo l;have hf:∀k,(jl ((aX l).take k) o b).length≤1000000:=λk=>by
  refine vO (VW _ _) ?_;rw[ku];omega
 refine⟨hp.1,⟨0,by omega,⟨rfl,rfl,trivial⟩,by simp[jl]⟩,λk hk=>ah.2 ⟨λh=>?_,λh=>?_⟩⟩
 ·simp only[dG]at h;refine⟨⟨by omega,h⟩,by omega,λd hd=>?_⟩
  have hd:(aX l)[k]?=some d:=by simpa using hd
  have e:jl ((aX l).take (k+1)) o b=jl ((aX l).take k) o b++(if dM o d == b then[d] else[]):=by
   unfold jl;rw[Jt,hd,Yq,List.filter_append]
   congr 1
   simp only[List.filter_cons,List.filter_nil]
  refine⟨by omega,ah.2 ⟨λh2=>⟨?_,au.2 (by omega),k+1,by omega,⟨by simp,rfl,trivial⟩,?_,by omega⟩,λh2=>⟨au.2 (by omega),k+1,by omega,⟨by simp,rfl,trivial⟩,?_,by omega⟩⟩⟩
  ·have:=hf k;rw[bI];simp;omega
  ·rw[e,h2];rfl
  ·rw[e,h2];simp
 ·simp only[dh]at h;rw[tZ (by omega)];exact⟨rfl,rfl⟩
theorem acu:Go.aV.Met Tryz.prog aK.gd 170 Gl:=
 jC (cx:=aK) (n:=28) (cl:=[(169,zO),(98,FW)]) ay ⟨Oq,zN,trivial⟩ Tryz.func170 λd hd=>by
  obtain⟨l,o,b,⟨⟩⟩:=d;exact aH (anr l o b) (ahE l o b hd) (by kernel_rfl)
abbrev OD:CT:={ ps:=[.sl (.int .i64),.int .i64],pre:=λd=>d.1.length≤1000000,res:=λd=>([.row 3 (.int .i64) (jl (aX d.1) [d.2.1] false)],.one (.c (.row 0))) }
theorem ahF(l:List Int) (x:Int) (aA:OD.pre (l,x,())):
 let z1:=[aj.row (3:TypeId) abA (jl (aX l) [x] false)];(l.length≤(1000000:Nat)∧[x].length≤(1000000:Nat))∧z1=z1∧aT.one aec=aT.one aec:=by
 conv=>zeta
 delta abA aec;have hp:l.length≤1000000:=aA;exact⟨⟨hp,by simp⟩,rfl,rfl⟩
theorem Gm:Go.aV.Met Tryz.prog aK.gd 112 OD:=
 jC (cx:=aK) (n:=9) (cl:=[(170,Gl)]) ay ⟨acu,trivial⟩ Tryz.func112 λd hd=>by
  obtain⟨l,x,⟨⟩⟩:=d;exact aH (λ_=>none) (ahF l x hd) (by kernel_rfl)
abbrev acv:CT:={ ps:=[.int .i64],pre:=λd=>0≤d.1∧d.1≤9223372036854775807,res:=λd=>([],.gX [.c (.v (.int .i64 (d.1.tdiv 8 - 1))),.c (.v (.int .i64 (d.1.tmod 8)))]) }
theorem ahG(id:Int) (aA:acv.pre (id,())):
 let z2:=id.tdiv (8:Int) - (1:Int);let z1:=[cI z2,cI (id.tmod (8:Int))];(8:Int)≠(0:Int)∧cZ IntKind.i64 (id.tdiv (8:Int))∧cZ IntKind.i64 z2∧(8:Int)≠(0:Int)∧rT z1 z1:=by
 conv=>zeta
 delta cI rT;have hp:0≤id∧id≤9223372036854775807:=aA;have e:id.tdiv 8=id / 8:=VL hp.1;exact⟨by decide,au.2 (by omega),au.2 (by omega),by decide,rfl,rfl⟩
theorem acw:Go.aV.Met Tryz.prog aK.gd 147 acv:=
 jC (cx:=aK) (n:=9) (cl:=[]) ay trivial Tryz.func147 λd hd=>by
  obtain⟨id,⟨⟩⟩:=d;exact aH (λ_=>none) (ahG id hd) (by kernel_rfl)
abbrev OE:CT:={ ps:=[.int .i64],pre:=λd=>d.1≤9223372036854775807,res:=λd=>([],.one (.c (.v (.int .i64 (aU d.1))))) }
@[reducible] def ard (id:Int):Nat→Option (St→iC):=λk=>match k with
  | 4=>some λ_=>.inv { α:=Nat×Int,slots:=λx=>[(8,.c (.v (.int .i64 x.1))),(0,.c (.v (.int .i64 x.2)))],res:=λ_=>[],inv:=λx=>x.1≤5∧0≤x.2∧x.2≤9223372036854775807∧dY (5 - x.1) x.1 x.2=aU id,meas:=λx=>5 - x.1 }
  | _=>none
theorem ant(id:Int) (aA:OE.pre (id,())):
 let z2:=qI (aU id) (-1:Int);let z1:=λ(x:Nat×Int)=>x.fst≤5∧0≤x.snd∧x.snd≤9223372036854775807∧dY (5 - x.fst) (↑x.fst:Int) x.snd=aU id;br (decide (id < 0)) z2 ((∃(x:Nat×Int),(z1 x)∧(cI 0=cI (↑x.fst:Int)∧cI id=cI x.snd∧True)∧([]:List aal)=[])∧∀(x:Nat×Int),x.fst≤5∧0≤x.snd∧x.snd≤9223372036854775807∧dY (5 - x.fst) (↑x.fst:Int) x.snd=aU id→br (decide ((↑x.fst:Int) < (5:Int))) (br (decide (x.snd < 8)) (qI (aU id) (↑x.fst:Int)) ((0≤x.snd∧x.snd≤9223372036854775807)∧br (decide (7≤x.snd.tmod (8:Int))) z2 (cZ IntKind.i64 ((↑x.fst:Int)+(1:Int))∧∃(x':Nat×Int),(z1 x')∧(cI ((↑x.fst:Int)+(1:Int))=cI (↑x'.fst:Int)∧cI (x.snd.tdiv (8:Int) - (1:Int))=cI x'.snd∧True)∧([]:List aal)=[]∧5 - x'.fst < 5 - x.fst))) z2):=by
 conv=>zeta
 delta aal cI qI;have hp:id≤9223372036854775807:=aA;refine ah.2 ⟨λh=>?_,λh=>?_⟩
 ·simp only[dG]at h;have e:aU id = -1:=by unfold aU;rw[if_pos h]
  rw[e];exact⟨rfl,rfl⟩
 simp only[dh]at h;refine⟨⟨(0,id),⟨by omega,by simp only;omega,hp,by unfold aU;rw[if_neg h];rfl⟩,⟨rfl,rfl,trivial⟩,rfl⟩,λx hx=>ah.2 ⟨λh2=>?_,λh2=>?_⟩⟩
 ·obtain⟨x1,x2,x3,x4⟩:=hx;simp only[dG]at h2;obtain⟨m,hm⟩:∃m,5 - x.1=m+1:=⟨4 - x.1,by omega⟩
  rw[hm,dY]at x4;refine ah.2 ⟨λh3=>?_,λh3=>⟨⟨x2,x3⟩,ah.2 ⟨λh4=>?_,λh4=>?_⟩⟩⟩
  ·simp only[dG]at h3;rw[if_pos h3]at x4;rw[←x4];exact⟨rfl,rfl⟩
  ·simp only[dG,dh]at h3 h4;rw[if_neg h3,if_pos h4]at x4;rw[←x4];exact⟨rfl,rfl⟩
  ·simp only[dh]at h3 h4;rw[if_neg h3,if_neg h4]at x4;have e:x.2.tdiv 8=x.2 / 8:=VL x2;refine⟨au.2 (by omega),(x.1+1,x.2.tdiv 8 - 1),⟨by simp only;omega,by simp only;omega,by simp only;omega,?_⟩,⟨rfl,rfl,trivial⟩,rfl,by simp only;omega⟩
   rw[←x4,show 5 - (x.1+1)=m by omega];rfl
 ·obtain⟨x1,x2,x3,x4⟩:=hx;simp only[dh]at h2;rw[show 5 - x.1=0 by omega]at x4
  rw[←x4];exact⟨rfl,rfl⟩
theorem KY:Go.aV.Met Tryz.prog aK.gd 76 OE:=
 jC (cx:=aK) (n:=23) (cl:=[(147,acv)]) ay ⟨acw,trivial⟩ Tryz.func76 λd hd=>by
  obtain⟨id,⟨⟩⟩:=d;exact aH (ard id) (ant id hd) (by kernel_rfl)
abbrev UN:CT:={ ps:=[dQ],pre:=λd=>d.1.1≤9223372036854775807,res:=λd=>([],.gX [.c (.v (.int .i64 (dB d.1.1 d.1.2.2.2.2.2.1).1)),.c (.v (.bool (dB d.1.1 d.1.2.2.2.2.2.1).2))]) }
theorem anu(id fn pc:Int) (rg:List Int) (st ch ph su fa:Int) (he:List Int) (aA:UN.pre ((id,fn,pc,rg,st,ch,ph,su,fa,he,()),())):
 let z1:=[cI ((dB id ch).fst),cB ((dB id ch).snd)];id≤9223372036854775807∧br (decide (aU id < 0) || decide (aU id=4) || decide (ch < 0) || decide (7≤ch)) (rT z1 [cI 0,cB false]) (cZ IntKind.i64 (id+1)∧cZ IntKind.i64 ((8:Int) * (id+1))∧cZ IntKind.i64 ((8:Int) * (id+1)+ch)∧rT z1 [cI ((8:Int) * (id+1)+ch),cB true]):=by
 conv=>zeta
 delta cI cB rT;refine⟨aA,ah.2 ⟨λh=>?_,λh=>?_⟩⟩
 ·have e:dB id ch=(0,false):=by
   unfold dB;rw[if_pos (by simpa[or_assoc]using h)]
  rw[e];exact⟨rfl,rfl⟩
 ·simp only[qH,dh]at h;have e:dB id ch=(8 * (id+1)+ch,true):=by
   unfold dB;rw[if_neg (by omega)]
  have:=mQ (id:=id) (by omega)
  rw[e];exact⟨au.2 (by omega),au.2 (by omega),au.2 (by omega),rfl,rfl⟩
theorem UO:Go.aV.Met Tryz.prog aK.gd 89 UN:=
 jC (cx:=aK) (n:=31) (cl:=[(76,OE)]) ay ⟨KY,trivial⟩ Tryz.func89 λd hd=>by
  obtain⟨⟨id,fn,pc,rg,st,ch,ph,su,fa,he,⟨⟩⟩,⟨⟩⟩:=d;exact aH (λ_=>none) (anu id fn pc rg st ch ph su fa he hd) (by kernel_rfl)
abbrev RJ:CT:={ ps:=[oH,dQ],pre:=λd=>0≤d.2.1.2.1∧d.2.1.2.1 < d.1.2.2.2.1.length∧0≤d.2.1.2.2.1,res:=λd=>([],.gX [.agg [.v (.int .i64 ((atR d.1.2.2.2.1 d.2.1.2.1 d.2.1.2.2.1).1).1),.v (.int .i64 ((atR d.1.2.2.2.1 d.2.1.2.1 d.2.1.2.2.1).1).2.1),.v (.int .i64 ((atR d.1.2.2.2.1 d.2.1.2.1 d.2.1.2.2.1).1).2.2.1),.v (.int .i64 ((atR d.1.2.2.2.1 d.2.1.2.1 d.2.1.2.2.1).1).2.2.2.1),.v (.int .i64 ((atR d.1.2.2.2.1 d.2.1.2.1 d.2.1.2.2.1).1).2.2.2.2.1),.v (.int .i64 ((atR d.1.2.2.2.1 d.2.1.2.1 d.2.1.2.2.1).1).2.2.2.2.2.1),.v (.int .i64 ((atR d.1.2.2.2.1 d.2.1.2.1 d.2.1.2.2.1).1).2.2.2.2.2.2.1),.v (.int .i64 ((atR d.1.2.2.2.1 d.2.1.2.1 d.2.1.2.2.1).1).2.2.2.2.2.2.2.1)],.c (.v (.bool (atR d.1.2.2.2.1 d.2.1.2.1 d.2.1.2.2.1).2))]) }
theorem anv(vs:List VD) (ms cs:List ByteArray) (fs:List FD) (ts:List SD) (id fn pc:Int) (rg:List Int) (st ch ph su fa:Int) (he:List Int) (aA:RJ.pre ((vs,ms,cs,fs,ts,()),(id,fn,pc,rg,st,ch,ph,su,fa,he,()),())):
 let z1:=[SV.agg [v6 ((atR fs fn pc).fst.fst),v6 ((atR fs fn pc).fst.snd.fst),v6 ((atR fs fn pc).fst.snd.snd.fst),v6 ((atR fs fn pc).fst.snd.snd.snd.fst),v6 ((atR fs fn pc).fst.snd.snd.snd.snd.fst),v6 ((atR fs fn pc).fst.snd.snd.snd.snd.snd.fst),v6 ((atR fs fn pc).fst.snd.snd.snd.snd.snd.snd.fst),v6 ((atR fs fn pc).fst.snd.snd.snd.snd.snd.snd.snd.fst)],cB ((atR fs fn pc).snd)];(0≤fn∧fn < (↑fs.length:Int))∧∀(d:ByteArray×((I6.pair (I6.pair (I6.pair (I6.pair (I6.pair (I6.pair (I6.pair (I6.pair Sh.unit)))))))).sl.pair Sh.unit).den),fs[fn.toNat]?=some d→br (decide ((↑(List.length d.snd.fst):Int)≤pc)) (rT z1 [SV.agg [v6 0,v6 0,v6 0,v6 0,v6 0,v6 0,v6 0,v6 0],cB false]) ((0≤pc∧pc < (↑(List.length d.snd.fst):Int))∧∀(dH:ID),d.snd.fst[pc.toNat]?=some dH→rT z1 [SV.agg [v6 dH.fst,v6 dH.snd.fst,v6 dH.snd.snd.fst,v6 dH.snd.snd.snd.fst,v6 dH.snd.snd.snd.snd.fst,v6 dH.snd.snd.snd.snd.snd.fst,v6 dH.snd.snd.snd.snd.snd.snd.fst,v6 dH.snd.snd.snd.snd.snd.snd.snd.fst],cB true]):=by
 conv=>zeta
 delta v6 cB rT I6;obtain⟨h1,h2,h3⟩:0≤fn∧fn < (fs.length:Int)∧0≤pc:=aA;refine⟨⟨h1,h2⟩,λx hx=>?_⟩
 obtain⟨y,hy,ey⟩:=oN ⟨h1,h2⟩;rw[hx]at hy;cases hy;refine ah.2 ⟨λh=>?_,λh=>?_⟩
 ·simp only[dG]at h;have e:atR fs fn pc=((0,0,0,0,0,0,0,0,()),false):=by
   unfold atR lH;rw[ey,qJ (by omega)]
  rw[e];exact⟨rfl,rfl⟩
 ·simp only[dh]at h;refine⟨⟨h3,by omega⟩,λi hi=>?_⟩
  have e:atR fs fn pc=(i,true):=by
   unfold atR lH;rw[ey,hi]
  rw[e];exact⟨rfl,rfl⟩
theorem Ad:Go.aV.Met Tryz.prog aK.gd 95 RJ:=
 bW (cx:=aK) (n:=25) (cl:=[]) (rc:=[]) ay trivial Tryz.func95 λd hd=>by
  obtain⟨⟨vs,ms,cs,fs,ts,⟨⟩⟩,⟨id,fn,pc,rg,st,ch,ph,su,fa,he,⟨⟩⟩,⟨⟩⟩:=d;exact aH (λ_=>none) (anv vs ms cs fs ts id fn pc rg st ch ph su fa he hd) (by kernel_rfl)
abbrev acy:CT:={ ps:=[dQ,.int .i64,.int .i64],pre:=λd=>True,res:=λd=>([],.one (.dat dQ (zY d.1 d.2.1 d.2.2.1))) }
abbrev kq7:=I6.pair (I6.pair (I6.pair (I6.pair (I6.pair (I6.sl.pair Sh.unit)))))
theorem ahH(id fn pc:Int) (rg:List Int) (st ch ph su fa:Int) (he:List Int) (s f:Int):
 rE (aT.one (SV.dat (I6.pair (I6.pair (I6.pair ((Sh.arr 8 I6).pair kq7)))) (zY (id,fn,pc,rg,st,ch,ph,su,fa,he,()) s f))) (aT.one (SV.dat (I6.pair (I6.pair (I6.pair ((Sh.arr 8 I6).pair kq7)))) ((id,fn,pc,rg,st,ch,ph,s,f,he,())))):=by
 delta kq7 rE I6;exact⟨rfl,rfl⟩
theorem OG:Go.aV.Met Tryz.prog aK.gd 148 acy:=
 bW (cx:=aK) (n:=12) (cl:=[]) (rc:=[.data dQ]) ay trivial Tryz.func148 λd hd=>by
  obtain⟨⟨id,fn,pc,rg,st,ch,ph,su,fa,he,⟨⟩⟩,s,f,⟨⟩⟩:=d;exact aH (λ_=>none) (ahH id fn pc rg st ch ph su fa he s f) (by kernel_rfl)
abbrev UQ:CT:={ ps:=[dQ,qO],pre:=λd=>d.1.2.2.2.2.2.2.2.2.2.1.length≤1000000∧d.1.1≤9223372036854775807,res:=λd=>([],.one (.c (.v (.int .i64 (iQ d.1.1 d.1.2.2.2.2.2.1 d.1.2.2.2.2.2.2.1 d.1.2.2.2.2.2.2.2.2.2.1 d.2.1))))) }
theorem ahI(id fn pc:Int) (rg:List Int) (st ch ph su fa:Int) (he:List Int) (op a b c obj n fo ord:Int) (aA:UQ.pre ((id,fn,pc,rg,st,ch,ph,su,fa,he,()),(op,a,b,c,obj,n,fo,ord,()),())):
 let z3:=iQ id ch ph he (op,a,b,c,obj,n,fo,ord,());let z2:=qI z3 (0:Int);let z1:=qI z3 (27:Int);br (!decide (ph=0)) z2 (br (decide (op=18)) (he.length≤1000000∧br (!dM he n) z1 z2) (br (decide (op=16)) (he.length≤1000000∧br (!dM he obj) z1 z2) (br (decide (op=21)) (id≤9223372036854775807∧br (!(dB id ch).snd) (qI z3 (28:Int)) z2) z2))):=by
 conv=>zeta
 delta qI;obtain⟨h1,h2⟩:he.length≤1000000∧id≤9223372036854775807:=aA;unfold iQ;simp only[ah]
 repeat' (first | exact h1 | exact h2 | (refine And.intro ?_ ?_) | (intro _))
 all_goals first | rfl | (simp_all;done)
theorem OH:Go.aV.Met Tryz.prog aK.gd 150 UQ:=
 jC (cx:=aK) (n:=35) (cl:=[(165,IU),(89,UN)]) ay ⟨zQ,UO,trivial⟩ Tryz.func150 λd hd=>by
  obtain⟨⟨id,fn,pc,rg,st,ch,ph,su,fa,he,⟨⟩⟩,⟨op,a,b,c,obj,n,fo,ord,⟨⟩⟩,⟨⟩⟩:=d;exact aH (λ_=>none) (ahI id fn pc rg st ch ph su fa he op a b c obj n fo ord hd) (by kernel_rfl)
theorem aJ{c:Prop} [Decidable c] {A B:Prop}:br (decide c) A B↔(c→A)∧(¬c→B):=by
 rw[ah,dG,dh]
abbrev acz:CT:={ ps:=[dQ,qO],pre:=λd=>(0≤d.2.1.2.1∧d.2.1.2.1 < 8)∧(0≤d.2.1.2.2.1∧d.2.1.2.2.1 < 8)∧(0≤d.2.1.2.2.2.1∧d.2.1.2.2.2.1 < 8)∧0≤d.1.2.2.1∧d.1.2.2.1≤1000000,res:=λd=>([],.gX [.dat dQ (dW d.1 d.2.1).1,.c (.v (.bool (dW d.1 d.2.1).2))]) }
theorem ahJ(id fn pc:Int) (rg:List Int) (st ch ph su fa:Int) (he:List Int) (op a b c obj n fo ord:Int) (aA:acz.pre ((id,fn,pc,rg,st,ch,ph,su,fa,he,()),(op,a,b,c,obj,n,fo,ord,()),())):
 let z5:=(id,fn,pc,rg,st,ch,ph,su,fa,he,());let z4:=dW z5 (op,a,b,c,obj,n,fo,ord,());let z3:=[SV.dat (I6.pair (I6.pair (I6.pair ((Sh.arr 8 I6).pair kq7)))) z4.fst,cB (z4.snd)];let z1:=rT z3 [SV.dat (I6.pair (I6.pair (I6.pair ((Sh.arr 8 I6).pair kq7)))) ((id,fn,pc+1,rg,st,ch,ph,su,fa,he,())),cB true];let z2:=rT z3 [SV.dat (I6.pair (I6.pair (I6.pair ((Sh.arr 8 I6).pair kq7)))) ((id,fn,n,rg,st,ch,ph,su,fa,he,())),cB true];cZ IntKind.i64 (pc+1)∧br (decide (op=1)) ((0≤a∧a < 8)∧a.toNat < 8∧rT z3 [SV.dat (I6.pair (I6.pair (I6.pair ((Sh.arr 8 I6).pair kq7)))) ((id,fn,pc+1,rg.set a.toNat n,st,ch,ph,su,fa,he,())),cB true]) (br (decide (op=2)) ((0≤b∧b < 8)∧b.toNat < 8∧∀(d:Int),rg[b.toNat]?=some d→(0≤a∧a < 8)∧a.toNat < 8∧rT z3 [SV.dat (I6.pair (I6.pair (I6.pair ((Sh.arr 8 I6).pair kq7)))) ((id,fn,pc+1,rg.set a.toNat d,st,ch,ph,su,fa,he,())),cB true]) (br (decide (op=3)) ((0≤b∧b < 8)∧b.toNat < 8∧∀(d:Int),rg[b.toNat]?=some d→(0≤c∧c < 8)∧c.toNat < 8∧∀(dH:Int),rg[c.toNat]?=some dH→True∧br (decide ((dP fo d dH).snd=0)) ((0≤a∧a < 8)∧a.toNat < 8∧rT z3 [SV.dat (I6.pair (I6.pair (I6.pair ((Sh.arr 8 I6).pair kq7)))) ((id,fn,pc+1,rg.set a.toNat (dP fo d dH).fst,st,ch,ph,su,fa,he,())),cB true]) z1) (br (decide (op=5)) ((0≤b∧b < 8)∧b.toNat < 8∧∀(d:Int),rg[b.toNat]?=some d→br (decide (d=0)) z1 z2) (br (decide (op=4)) z2 (br (decide (op=6)) ((0≤b∧b < 8)∧b.toNat < 8∧∀(d:Int),rg[b.toNat]?=some d→br (decide (d=0)) (True∧rT z3 [SV.dat (I6.pair (I6.pair (I6.pair ((Sh.arr 8 I6).pair kq7)))) (zY z5 (3:Int) (26:Int)),cB false]) z1) (br (decide (op=7)) (True∧rT z3 [SV.dat (I6.pair (I6.pair (I6.pair ((Sh.arr 8 I6).pair kq7)))) (zY z5 (2:Int) (0:Int)),cB false]) z1)))))):=by
 conv=>zeta
 delta kq7 cB rT I6;obtain⟨hA,hB,hC,hp0,hp1⟩:(0≤a∧a < 8)∧(0≤b∧b < 8)∧(0≤c∧c < 8)∧0≤pc∧pc≤1000000:=aA;have hA8:a.toNat < 8:=by omega
 have hB8:b.toNat < 8:=by omega
 have hC8:c.toNat < 8:=by omega
 have gd:∀{x d:Int},rg[x.toNat]?=some d→rg.getD x.toNat 0=d:=λhd=>by rw[H8,hd];rfl
 refine⟨au.2 (by omega),aJ.2 ⟨λh=>?_,λh=>aJ.2 ⟨λh2=>?_,λh2=>aJ.2 ⟨λh3=>?_,λh3=>aJ.2 ⟨λh4=>?_,λh4=>aJ.2 ⟨λh5=>?_,λh5=>aJ.2 ⟨λh6=>?_,λh6=>aJ.2 ⟨λh7=>?_,λh7=>?_⟩⟩⟩⟩⟩⟩⟩⟩
 ·have e:dW (id,fn,pc,rg,st,ch,ph,su,fa,he,()) (op,a,b,c,obj,n,fo,ord,())=((id,fn,pc+1,rg.set a.toNat n,st,ch,ph,su,fa,he,()),true):=by simp only[dW,if_pos h]
  rw[e];exact⟨hA,hA8,rfl,rfl⟩
 ·refine⟨hB,hB8,λd hd=>?_⟩
  have e:dW (id,fn,pc,rg,st,ch,ph,su,fa,he,()) (op,a,b,c,obj,n,fo,ord,())=((id,fn,pc+1,rg.set a.toNat d,st,ch,ph,su,fa,he,()),true):=by simp only[dW,if_neg h,if_pos h2,gd hd]
  rw[e];exact⟨hA,hA8,rfl,rfl⟩
 ·refine⟨hB,hB8,λd hd=>⟨hC,hC8,λd1 hd1=>⟨trivial,aJ.2 ⟨λh8=>?_,λh8=>?_⟩⟩⟩⟩
  ·have e:dW (id,fn,pc,rg,st,ch,ph,su,fa,he,()) (op,a,b,c,obj,n,fo,ord,())=((id,fn,pc+1,rg.set a.toNat (dP fo d d1).1,st,ch,ph,su,fa,he,()),true):=by simp only[dW,if_neg h,if_neg h2,if_pos h3,gd hd,gd hd1,if_pos h8]
   rw[e];exact⟨hA,hA8,rfl,rfl⟩
  ·have e:dW (id,fn,pc,rg,st,ch,ph,su,fa,he,()) (op,a,b,c,obj,n,fo,ord,())=((id,fn,pc+1,rg,st,ch,ph,su,fa,he,()),true):=by simp only[dW,if_neg h,if_neg h2,if_pos h3,gd hd,gd hd1,if_neg h8]
   rw[e];exact⟨rfl,rfl⟩
 ·have h45:¬op=4:=by omega
  refine⟨hB,hB8,λd hd=>aJ.2 ⟨λh8=>?_,λh8=>?_⟩⟩
  ·have e:dW (id,fn,pc,rg,st,ch,ph,su,fa,he,()) (op,a,b,c,obj,n,fo,ord,())=((id,fn,pc+1,rg,st,ch,ph,su,fa,he,()),true):=by simp only[dW,if_neg h,if_neg h2,if_neg h3,if_neg h45,if_pos h4,gd hd,if_pos h8]
   rw[e];exact⟨rfl,rfl⟩
  ·have e:dW (id,fn,pc,rg,st,ch,ph,su,fa,he,()) (op,a,b,c,obj,n,fo,ord,())=((id,fn,n,rg,st,ch,ph,su,fa,he,()),true):=by simp only[dW,if_neg h,if_neg h2,if_neg h3,if_neg h45,if_pos h4,gd hd,if_neg h8]
   rw[e];exact⟨rfl,rfl⟩
 ·have e:dW (id,fn,pc,rg,st,ch,ph,su,fa,he,()) (op,a,b,c,obj,n,fo,ord,())=((id,fn,n,rg,st,ch,ph,su,fa,he,()),true):=by simp only[dW,if_neg h,if_neg h2,if_neg h3,if_pos h5]
  rw[e];exact⟨rfl,rfl⟩
 ·refine⟨hB,hB8,λd hd=>aJ.2 ⟨λh8=>?_,λh8=>?_⟩⟩
  ·have e:dW (id,fn,pc,rg,st,ch,ph,su,fa,he,()) (op,a,b,c,obj,n,fo,ord,())=((id,fn,pc,rg,st,ch,ph,3,26,he,()),false):=by simp only[dW,if_neg h,if_neg h2,if_neg h3,if_neg h5,if_neg h4,gd hd];rw[if_pos ⟨h6,h8⟩]
   rw[e];exact⟨trivial,rfl,rfl⟩
  ·have h67:¬op=7:=by omega
   have e:dW (id,fn,pc,rg,st,ch,ph,su,fa,he,()) (op,a,b,c,obj,n,fo,ord,())=((id,fn,pc+1,rg,st,ch,ph,su,fa,he,()),true):=by simp only[dW,if_neg h,if_neg h2,if_neg h3,if_neg h5,if_neg h4,gd hd,if_neg h67];rw[if_neg λq=>h8 q.2]
   rw[e];exact⟨rfl,rfl⟩
 ·have e:dW (id,fn,pc,rg,st,ch,ph,su,fa,he,()) (op,a,b,c,obj,n,fo,ord,())=((id,fn,pc,rg,st,ch,ph,2,0,he,()),false):=by simp only[dW,if_neg h,if_neg h2,if_neg h3,if_neg h5,if_neg h4,if_pos h7];rw[if_neg λq=>h6 q.1]
  rw[e];exact⟨trivial,rfl,rfl⟩
 ·have e:dW (id,fn,pc,rg,st,ch,ph,su,fa,he,()) (op,a,b,c,obj,n,fo,ord,())=((id,fn,pc+1,rg,st,ch,ph,su,fa,he,()),true):=by simp only[dW,if_neg h,if_neg h2,if_neg h3,if_neg h5,if_neg h4,if_neg h7];rw[if_neg λq=>h6 q.1]
  rw[e];exact⟨rfl,rfl⟩
theorem acA:Go.aV.Met Tryz.prog aK.gd 151 acz:=
 bW (cx:=aK) (n:=87) (cl:=[(97,UM),(148,acy)]) (rc:=[.data dQ,.keep]) ay ⟨KW,OG,trivial⟩ Tryz.func151 λd hd=>by
  obtain⟨⟨id,fn,pc,rg,st,ch,ph,su,fa,he,⟨⟩⟩,⟨op,a,b,c,obj,n,fo,ord,⟨⟩⟩,⟨⟩⟩:=d;exact aH (λ_=>none) (ahJ id fn pc rg st ch ph su fa he op a b c obj n fo ord hd) (by kernel_rfl)
abbrev uy:CT:={ ps:=[oH,.int .i64],pre:=λd=>bnd (d.1,()),res:=λd=>([],.one (.c (.v (.int .i64 (bM (aB d.1.1 d.1.2.1 d.1.2.2.1 d.1.2.2.2.1 d.1.2.2.2.2.1).1 d.2.1))))) }
theorem anx(vs:List VD) (ms cs:List ByteArray) (fs:List FD) (ts:List SD) (bound:Int) (aA:uy.pre ((vs,ms,cs,fs,ts,()),bound,())):
 let z2:=aB vs ms cs fs ts;let z1:=bM z2.fst bound;(vs.length≤1000000∧ms.length≤1000000∧cs.length≤1000000∧fs.length≤1000000∧ts.length≤1000000∧(∀(x:ByteArray×((I6.pair (I6.pair (I6.pair (I6.pair (I6.pair (I6.pair (I6.pair (I6.pair Sh.unit)))))))).sl.pair Sh.unit).den),x∈fs→List.length x.snd.fst≤1000000)∧(dR fs).length≤1000000)∧br (!decide (z2.fst=0)) (qI z1 (z2.fst)) (br (decide (bound < 1) || decide (32 < bound)) (qI z1 (2:Int)) (qI z1 (0:Int))):=by
 conv=>zeta
 delta qI I6;have hb:bnd ((vs,ms,cs,fs,ts,()),()):=aA;refine⟨hb,ah.2 ⟨λh=>?_,λh=>ah.2 ⟨λh2=>?_,λh2=>?_⟩⟩⟩
 ·have h:(aB vs ms cs fs ts).1≠0:=by simpa using h
  unfold bM;rw[if_pos h];exact⟨rfl,rfl⟩
 ·have h:¬(aB vs ms cs fs ts).1≠0:=by simpa using h
  have h2:bound < 1∨32 < bound:=by simpa using h2
  unfold bM;rw[if_neg h,if_pos h2];exact⟨rfl,rfl⟩
 ·have h:¬(aB vs ms cs fs ts).1≠0:=by simpa using h
  have h2:¬(bound < 1∨32 < bound):=by simp only[qH,dh]at h2;omega
  unfold bM;rw[if_neg h,if_neg h2];exact⟨rfl,rfl⟩
theorem KZ:Go.aV.Met Tryz.prog aK.gd 75 uy:=
 jC (cx:=aK) (n:=23) (cl:=[(74,IY)]) ay ⟨DC,trivial⟩ Tryz.func75 λd hd=>by
  obtain⟨⟨vs,ms,cs,fs,ts,⟨⟩⟩,bound,⟨⟩⟩:=d;exact aH (λ_=>none) (anx vs ms cs fs ts bound hd) (by kernel_rfl)
open Classical in
theorem jY{ms:List ByteArray}{fs:List FD}{bound:Int}{t:TD}:iV ms fs bound t=true↔bG ms fs bound t:=by
 unfold iV;rw[Yd]
theorem xq{ms:List ByteArray}{fs:List FD}{bound:Int}{t:TD} (h:¬bG ms fs bound t):iV ms fs bound t=false:=G7.2 λq=>h (jY.1 q)
open Classical in
theorem jE{ms:List ByteArray}{fs:List FD}{bound:Int}{t:TD}:mW ms fs bound t=true↔qQ ms fs bound t:=by
 unfold mW;rw[Yd]
theorem Gn{ms:List ByteArray}{fs:List FD}{bound:Int}{t:TD} (h:¬qQ ms fs bound t):mW ms fs bound t=false:=G7.2 λq=>h (jE.1 q)
abbrev acB:CT:={ ps:=[oH,.int .i64,dQ],pre:=λd=>True∧d.2.2.1.2.2.2.2.2.2.2.2.2.1.length≤1000000∧d.2.2.1.1≤9223372036854775807∧d.2.2.1.2.2.2.1.length=8,res:=λd=>([],vB (iV d.1.2.1 d.1.2.2.2.1 d.2.1 d.2.2.1)) }
@[reducible] def anz (vs:List VD) (ms cs:List ByteArray) (fs:List FD) (ts:List SD) (bound id fn pc:Int) (rg:List Int) (st ch ph su fa:Int) (he:List Int):Nat→Option (St→iC):=λk=>match k with
  | 5=>some λ_=>.inv { α:=Nat,slots:=λk=>[(52,.c (.v (.int .i64 k)))],res:=λ_=>[],inv:=λk=>k≤8∧∀j < k,∀r,rg[j]?=some r→bV r=true,meas:=λk=>8 - k }
  | 13=>some λ_=>.inv { α:=Nat,slots:=λk=>[(97,.c (.v (.int .i64 k)))],res:=λ_=>[],inv:=λk=>k≤he.length∧∀j < k,∀m,he[j]?=some m→0≤m∧m < ms.length,meas:=λk=>he.length - k }
  | _=>none
theorem ahK(vs:List VD) (ms cs:List ByteArray) (fs:List FD) (ts:List SD) (bound id fn pc:Int) (rg:List Int) (st ch ph su fa:Int) (he:List Int) (aA:acB.pre ((vs,ms,cs,fs,ts,()),bound,(id,fn,pc,rg,st,ch,ph,su,fa,he,()),())):
 let z3:=!(decide (aU id < 0) || decide (fn < 0) || decide ((↑fs.length:Int)≤fn) || decide (pc < 0));let z7:=(id,fn,pc,rg,st,ch,ph,su,fa,he,());let z6:=iV ms fs bound z7;let z5:=qB z6 false;let z4:=λ(x:Nat)=>(x≤8∧∀(j:Nat),j < x→∀(r:Int),rg[j]?=some r→bV r=true);let z1:=[g0 (aj.blk 27 [SC.sl aea vs,SC.sl Sh.str ms,SC.sl Sh.str cs,SC.sl kq2 fs,SC.sl aeb ts]),g0 (aj.obj 56 (I6.pair (I6.pair (I6.pair ((Sh.arr 8 I6).pair kq7)))) z7)];let z10:=λ(x:Nat)=>(↑x:Int)+(1:Int);let z2:=λ(x:Nat)=>(x≤he.length∧∀(j:Nat),j < x→∀(m:Int),he[j]?=some m→0≤m∧m < (↑ms.length:Int));let z8:=decide (ph=1) || decide (ph=2);let z9:=(atR fs fn pc).fst.fst=18;id≤9223372036854775807∧(z3=true→0≤fn∧fn < (↑fs.length:Int))∧∀(d:ByteArray×((I6.pair (I6.pair (I6.pair (I6.pair (I6.pair (I6.pair (I6.pair (I6.pair Sh.unit)))))))).sl.pair Sh.unit).den),(z3=true→fs[fn.toNat]?=some d)→br (decide (aU id < 0) || decide (fn < 0) || decide ((↑fs.length:Int)≤fn) || decide (pc < 0) || decide ((↑(List.length d.snd.fst):Int) < pc)) z5 ((∃x,(z4 x)∧(cI 0=cI (↑x:Int)∧True)∧sm z1)∧∀(x:Nat),(z4 x)→br (decide ((↑x:Int) < (8:Int))) ((0≤(↑x:Int)∧(↑x:Int) < (↑rg.length:Int))∧∀(d:Int),rg[(↑x:Int).toNat]?=some d→True∧br (!decide (aI d=d)) z5 (cZ IntKind.i64 (z10 x)∧∃x',(z4 x')∧(cI (z10 x)=cI (↑x':Int)∧True)∧sm z1∧8 - x' < 8 - x)) (((!(decide (st < 0) || decide (bound < st) || decide (ch < 0) || decide (7 < ch) || decide (aU id=4) && !decide (ch=0)))=true→he.length≤1000000)∧br (decide (st < 0) || decide (bound < st) || decide (ch < 0) || decide (7 < ch) || decide (aU id=4) && !decide (ch=0) || !kN he) z5 ((∃x,(z2 x)∧(cI 0=cI (↑x:Int)∧True)∧sm z1)∧∀(x:Nat),(z2 x)→br (decide ((↑x:Int) < (↑he.length:Int))) ((0≤(↑x:Int)∧(↑x:Int) < (↑he.length:Int))∧∀(d:Int),he[(↑x:Int).toNat]?=some d→br (decide (d < 0) || decide ((↑ms.length:Int)≤d)) z5 (cZ IntKind.i64 (z10 x)∧∃x',(z2 x')∧(cI (z10 x)=cI (↑x':Int)∧True)∧sm z1∧he.length - x' < he.length - x)) (br (decide (ph=0)) (qB z6 true) ((0≤fn∧fn < (↑fs.length:Int)∧0≤pc)∧((z8 && (atR fs fn pc).snd && decide z9)=true→he.length≤1000000)∧qB z6 (z8 && (atR fs fn pc).snd && decide z9 && !dM he (atR fs fn pc).fst.snd.snd.snd.snd.snd.fst)))))):=by
 conv=>zeta
 delta aea kq2 aeb kq7 cI g0 qB sm I6;obtain⟨_,yE,hid,hrg⟩:True∧he.length≤1000000∧id≤9223372036854775807∧rg.length=8:=aA;have fF:¬bG ms fs bound (id,fn,pc,rg,st,ch,ph,su,fa,he,())→([]:List Go.aV.aj)=[]∧aT.one (SV.c (SC.v (Value.bool (iV ms fs bound (id,fn,pc,rg,st,ch,ph,su,fa,he,())))))=aT.one (SV.c (SC.v (Value.bool false))):=λq=>⟨rfl,by rw[xq q]⟩
 refine⟨hid,λg=>by simp at g;omega,λx hx=>ah.2 ⟨λh=>?_,λh=>?_⟩⟩
 ·refine fF λq=>?_
  obtain⟨q1,q2,q3,_⟩:=q;obtain⟨y,hy,ey⟩:=oN q2;have hx:=hx (by simp;omega)
  rw[hx]at hy;cases hy;rw[ey]at q3;simp at h;omega
 simp only[qH,dh]at h;obtain⟨⟨⟨⟨h1,h2⟩,h3⟩,h4⟩,h5⟩:=h;have hx:=hx (by simp;omega)
 have hfn:0≤fn∧fn < (fs.length:Int):=by omega
 obtain⟨y,hy,ey⟩:=oN hfn;rw[hx]at hy;cases hy;have hpc:0≤pc∧pc≤((codeF fs fn).length:Int):=by rw[ey];omega
 refine⟨⟨0,⟨by omega,λj hj=>by omega⟩,⟨rfl,trivial⟩,rfl⟩,λk hk=>ah.2 ⟨λh=>?_,λh=>?_⟩⟩
 ·simp only[dG]at h;refine⟨by omega,λd hd=>⟨trivial,ah.2 ⟨λh6=>?_,λh6=>⟨au.2 (by omega),k+1,⟨by omega,λj hj r hr=>?_⟩,⟨rfl,trivial⟩,rfl,by omega⟩⟩⟩⟩
  ·refine fF λq=>?_
   have:=q.2.2.2.1 k (by omega) d hd
   unfold bV at this;have h6:¬aI d=d:=by simpa using h6
   exact h6 (F9.2 (by simpa using this))
  ·have h6:aI d=d:=by simpa using h6
   by_cases gq:j=k
   ·subst gq;have hd:rg[j]?=some d:=hd;rw[hd]at hr;cases hr;unfold bV;exact L6 (F9.1 h6)
   ·exact hk.2 j (by omega) r hr
 simp only[dh]at h;have hr:∀k < 8,∀r,rg[k]?=some r→bV r=true:=λj hj r hr=>hk.2 j (by omega) r hr
 refine⟨λ_=>yE,ah.2 ⟨λh7=>?_,λh7=>?_⟩⟩
 ·refine fF λq=>?_
  obtain⟨_,_,_,_,q5,q6,q7,_⟩:=q;have e:kN he=true:=L6 q7;rw[e]at h7;simp at h7;omega
 simp only[qH,A86,yI,dh,dG]at h7;obtain⟨⟨⟨⟨⟨a1,a2⟩,a3⟩,a4⟩,a5⟩,a6⟩:=h7;have hss:SS he:=A83 a6;refine⟨⟨0,⟨by omega,λj hj=>by omega⟩,⟨rfl,trivial⟩,rfl⟩,λm hm=>ah.2 ⟨λh8=>?_,λh8=>?_⟩⟩
 ·simp only[dG]at h8;refine⟨by omega,λd hd=>ah.2 ⟨λh9=>?_,λh9=>⟨au.2 (by omega),m+1,⟨by omega,λj hj r hr=>?_⟩,⟨rfl,trivial⟩,rfl,by omega⟩⟩⟩
  ·refine fF λq=>?_
   have:=q.2.2.2.2.2.2.2.1 d (iF hd);simp at h9;omega
  ·by_cases gq:j=m
   ·subst gq;have hd:he[j]?=some d:=hd;rw[hd]at hr;cases hr;simp at h9;omega
   ·exact hm.2 j (by omega) r hr
 simp only[dh]at h8;have hmm:∀m∈he,0≤m∧m < (ms.length:Int):=λy hy=>by
  obtain⟨j,hj⟩:=wQ hy;exact hm.2 j (by have:=(eU.1 hj).1;omega) y hj
 have base:(ph=0∨((ph=1∨ph=2)∧∃i,lH fs fn pc=some i∧i.1=18∧dM he i.2.2.2.2.2.1=false))↔bG ms fs bound (id,fn,pc,rg,st,ch,ph,su,fa,he,()):=
  ⟨λq=>⟨by omega,hfn,hpc,hr,by omega,⟨by omega,by omega,λe=>by omega⟩,hss,hmm,q⟩,λq=>q.2.2.2.2.2.2.2.2⟩
 have fB:∀b:Bool,(b=true↔(ph=0∨((ph=1∨ph=2)∧∃i,lH fs fn pc=some i∧i.1=18∧dM he i.2.2.2.2.2.1=false)))→aT.one (SV.c (SC.v (Value.bool (iV ms fs bound (id,fn,pc,rg,st,ch,ph,su,fa,he,())))))=aT.one (SV.c (SC.v (Value.bool b))):=λb hb=>by
  have:iV ms fs bound (id,fn,pc,rg,st,ch,ph,su,fa,he,())=b:=by
   rw[Ee,hb,base,jY]
  rw[this]
 refine ah.2 ⟨λh9=>⟨rfl,fB _ ?_⟩,λh9=>⟨⟨hfn.1,hfn.2,hpc.1⟩,λ_=>yE,rfl,fB _ ?_⟩⟩
 ·simp at h9;simp[h9]
 ·simp at h9;cases ha:lH fs fn pc with
  | none=>rw[show atR fs fn pc=((0,0,0,0,0,0,0,0,()),false) by unfold atR;rw[ha]];simp[h9]
  | some i=>rw[show atR fs fn pc=(i,true) by unfold atR;rw[ha]];simp[h9,and_assoc]
theorem acC:Go.aV.Met Tryz.prog aK.gd 167 acB:=
 bW (cx:=aK) (n:=144) (cl:=[(76,OE),(77,Gi),(192,ctV),(95,RJ),(165,IU)]) (rc:=[]) ay ⟨KY,DJ,OC,Ad,zQ,trivial⟩ Tryz.func167 λd hd=>by
  obtain⟨⟨vs,ms,cs,fs,ts,⟨⟩⟩,bound,⟨id,fn,pc,rg,st,ch,ph,su,fa,he,⟨⟩⟩,⟨⟩⟩:=d;exact aH (anz vs ms cs fs ts bound id fn pc rg st ch ph su fa he) (ahK vs ms cs fs ts bound id fn pc rg st ch ph su fa he hd) (by kernel_rfl)
abbrev La:CT:={ ps:=[oH,.int .i64,dQ],pre:=λd=>(aB d.1.1 d.1.2.1 d.1.2.2.1 d.1.2.2.2.1 d.1.2.2.2.2.1).1=0∧d.2.2.1.2.2.2.2.2.2.2.2.2.1.length≤1000000∧d.2.2.1.1≤9223372036854775807∧d.2.2.1.2.2.2.1.length=8,res:=λd=>([],vB (mW d.1.2.1 d.1.2.2.2.1 d.2.1 d.2.2.1)) }
theorem ahL(vs:List VD) (ms cs:List ByteArray) (fs:List FD) (ts:List SD) (bound id fn pc:Int) (rg:List Int) (st ch ph su fa:Int) (he:List Int) (aA:La.pre ((vs,ms,cs,fs,ts,()),bound,(id,fn,pc,rg,st,ch,ph,su,fa,he,()),())):
 let z5:=(id,fn,pc,rg,st,ch,ph,su,fa,he,());let z4:=mW ms fs bound z5;let z3:=qB z4 false;let z2:=((!(!decide (fa=0) || !(atR fs fn pc).snd))=true→True)∧((!(!decide (fa=0) || !(atR fs fn pc).snd || !jf (atR fs fn pc).fst.fst))=true→he.length≤1000000∧id≤9223372036854775807)∧br (!decide (fa=0) || !(atR fs fn pc).snd || !jf (atR fs fn pc).fst.fst || !decide (iQ id ch ph he (atR fs fn pc).fst=0)) z3 (qB z4 (decide (su=1) && decide (st < bound) || decide (su=4) && decide (1≤st)));let z6:=(atR fs fn pc).fst.fst=6;let z1:=br (decide (su=2)) (qB z4 (decide (fa=0) && decide (ph=0) && (!(atR fs fn pc).snd || decide ((atR fs fn pc).fst.fst=7)))) (br (decide (su=3)) (br (!decide (ph=0) || !(atR fs fn pc).snd) z3 (br (decide (fa=26)) ((decide z6=true→0≤(atR fs fn pc).fst.snd.snd.fst∧(atR fs fn pc).fst.snd.snd.fst < 8)∧(decide z6=true→(atR fs fn pc).fst.snd.snd.fst.toNat < 8)∧∀(d:Int),(decide z6=true→rg[(atR fs fn pc).fst.snd.snd.fst.toNat]?=some d)→qB z4 (decide z6 && decide (d=0))) (br (decide (fa=29)) (True∧qB z4 (!jf (atR fs fn pc).fst.fst)) (((!decide (fa=0))=true→he.length≤1000000∧id≤9223372036854775807)∧qB z4 (!decide (fa=0) && decide (iQ id ch ph he (atR fs fn pc).fst=fa)))))) z3);(True∧he.length≤1000000∧id≤9223372036854775807∧rg.length=8)∧br (!iV ms fs bound z5) z3 ((0≤fn∧fn < (↑fs.length:Int)∧0≤pc)∧br (decide (su=1)) (br (decide (su=1)) z2 z1) (br (decide (su=4)) z2 z1)):=by
 conv=>zeta
 delta qB;obtain⟨hc,yE,hid,hrg⟩:(aB vs ms cs fs ts).1=0∧he.length≤1000000∧id≤9223372036854775807∧rg.length=8:=aA;refine⟨⟨trivial,yE,hid,hrg⟩,ah.2 ⟨λh=>⟨rfl,?_⟩,λh=>?_⟩⟩
 ·have:mW ms fs bound (id,fn,pc,rg,st,ch,ph,su,fa,he,())=false:=Gn λq=>by
   have e:=jY.2 q.1;rw[e]at h;cases h
  rw[this]
 have hF:bG ms fs bound (id,fn,pc,rg,st,ch,ph,su,fa,he,()):=by
  have e:iV ms fs bound (id,fn,pc,rg,st,ch,ph,su,fa,he,())=true:=by simpa using h
  exact jY.1 e
 have hfn:=hF.2.1;refine⟨⟨hfn.1,hfn.2,hF.2.2.1.1⟩,?_⟩;have W:∀b:Bool,(b=true↔(((su=1∧st < bound∨su=4∧1≤st)∧fa=0∧∃i,lH fs fn pc=some i∧jf i.1=true∧iQ id ch ph he i=0) ∨
  (su=2∧fa=0∧ph=0∧∀i,lH fs fn pc=some i→i.1=7) ∨
  (su=3∧ph=0∧∃i,lH fs fn pc=some i∧(fa=26∧i.1=6∧rg.getD i.2.2.1.toNat 0=0∨fa=29∧jf i.1=false∨fa≠26∧fa≠29∧fa≠0∧iQ id ch ph he i=fa)))) →
   aT.one (SV.c (SC.v (Value.bool (mW ms fs bound (id,fn,pc,rg,st,ch,ph,su,fa,he,())))))=aT.one (SV.c (SC.v (Value.bool b))):=λb hb=>by
  have:mW ms fs bound (id,fn,pc,rg,st,ch,ph,su,fa,he,())=b:=by
   rw[Ee,hb,jE];exact⟨λq=>q.2,λq=>⟨hF,q⟩⟩
  rw[this]
 cases ha:lH fs fn pc with
 | none=>
   rw[show atR fs fn pc=((0,0,0,0,0,0,0,0,()),false) by unfold atR;rw[ha]]
   simp only[ah,ha]at W ⊢
   repeat' (first | exact yE | exact hid | (refine And.intro ?_ ?_) | (intro _))
   all_goals first | rfl | trivial | exact yE | exact hid | (refine W _ ?_;simp_all;done) | (simp_all;done)
 | some i=>
   rw[show atR fs fn pc=(i,true) by unfold atR;rw[ha]]
   obtain⟨r1,r2,r3,r4⟩:=kH (mY (xk hc hfn ha)).1;have rb8:i.2.2.1.toNat < 8:=by omega
   have gd:∀{x d:Int},rg[x.toNat]?=some d→rg.getD x.toNat 0=d:=λhd=>by rw[H8,hd];rfl
   simp only[ah,ha]at W ⊢
   repeat' (first | exact yE | exact hid | exact r2.1 | exact r2.2 | exact rb8 | (refine And.intro ?_ ?_) | (intro _))
   all_goals first | rfl | trivial | exact yE | exact hid | exact r2.1 | exact r2.2 | exact rb8 | (refine W _ ?_;simp_all;done) | (refine W _ ?_;clear W;simp_all;grind) | skip
theorem OI:Go.aV.Met Tryz.prog aK.gd 108 La:=
 bW (cx:=aK) (n:=123) (cl:=[(167,acB),(95,RJ),(149,acr),(150,UQ)]) (rc:=[]) ay ⟨acC,Ad,OB,OH,trivial⟩ Tryz.func108 λd hd=>by
  obtain⟨⟨vs,ms,cs,fs,ts,⟨⟩⟩,bound,⟨id,fn,pc,rg,st,ch,ph,su,fa,he,⟨⟩⟩,⟨⟩⟩:=d;exact aH (λ_=>none) (ahL vs ms cs fs ts bound id fn pc rg st ch ph su fa he hd) (by kernel_rfl)
theorem acD{vs:List VD}{ms cs:List ByteArray}{fs:List FD} (h:(F5 vs ms cs fs).1=0):dU fs < 0:=by
 unfold F5 at h;split at h
 ·rename_i d hd;have hp:=aeD hd;split at h
  ·cases h
  ·rename_i h1;simp only[AA,dG]at hp;rcases hp with hp | hp
   ·exact absurd hp h1
   ·exact absurd h hp
 ·split at h
  ·cases h
  ·omega
theorem acE{fs:List FD} (h:dU fs < 0):∀f∈fs,f.2.1.length≤64:=by
 unfold dU at h;split at h
 ·omega
 ·rename_i hn;rw[Me]at hn;intro f hf;simpa using hn f hf
theorem tN{vs:List VD}{ms cs:List ByteArray}{fs:List FD}{ts:List SD} (h:(aB vs ms cs fs ts).1=0){fn:Int} (hf:0≤fn∧fn < fs.length):(codeF fs fn).length≤64:=by
 obtain⟨x,hx,ex⟩:=oN hf;rw[ex];exact acE (acD (nJ h).2.1) x (iF hx)
theorem OJ{fs:List FD}{bound id fn pc st ch ph su fa:Int}{rg he:List Int}{u:Unit} (h:lH fs fn pc=none) (k:Nat):eF fs bound k (id,fn,pc,rg,st,ch,ph,su,fa,he,u)=(id,fn,pc,rg,st,ch,ph,2,0,he,()):=by
 cases k<;>(rw[eF];unfold topS;simp only[h])
theorem UR{fs:List FD}{bound id fn pc st ch ph su fa:Int}{rg he:List Int}{u:Unit}{i:ID} (h:lH fs fn pc=some i) (hv:jf i.1=true) (k:Nat):eF fs bound k (id,fn,pc,rg,st,ch,ph,su,fa,he,u) =
 if iQ id ch ph he i≠0 then(id,fn,pc,rg,st,ch,ph,3,iQ id ch ph he i,he,()) else if st=bound then(id,fn,pc,rg,st,ch,ph,4,0,he,()) else(id,fn,pc,rg,st,ch,ph,su,fa,he,()):=by
 cases k<;>(rw[eF];unfold topS;simp only[h];rw[if_pos hv])
theorem OL{fs:List FD}{bound id fn pc st ch ph su fa:Int}{rg he:List Int}{u:Unit}{i:ID} (h:lH fs fn pc=some i) (hv:jf i.1=false):eF fs bound 0 (id,fn,pc,rg,st,ch,ph,su,fa,he,u)=(id,fn,pc,rg,st,ch,ph,3,29,he,()):=by
 rw[eF];unfold topS;simp only[h];rw[if_neg (by rw[hv];simp)];rfl
theorem OM{fs:List FD}{bound id fn pc st ch ph su fa:Int}{rg he:List Int}{u:Unit}{i:ID} (h:lH fs fn pc=some i) (hv:jf i.1=false) (k:Nat):eF fs bound (k+1) (id,fn,pc,rg,st,ch,ph,su,fa,he,u) =
 if(dW (id,fn,pc,rg,st,ch,ph,su,fa,he,u) i).2=true then eF fs bound k (dW (id,fn,pc,rg,st,ch,ph,su,fa,he,u) i).1 else(dW (id,fn,pc,rg,st,ch,ph,su,fa,he,u) i).1:=by
 rw[eF];unfold topS;simp only[h];rw[if_neg (by rw[hv];simp)]
theorem DK(t:TD) (i:ID):(dW t i).1.2.2.2.1.length=t.2.2.2.1.length:=by
 obtain⟨id,fn,pc,rg,st,ch,ph,su,fa,hd,u⟩:=t;obtain⟨op,a,b,c,obj,n,f,ord,u2⟩:=i;unfold dW;simp only
 repeat' split
 all_goals simp
abbrev UU:CT:={ ps:=[oH,.int .i64,dQ],pre:=λd=>(aB d.1.1 d.1.2.1 d.1.2.2.1 d.1.2.2.2.1 d.1.2.2.2.2.1).1=0∧bG d.1.2.1 d.1.2.2.2.1 d.2.1 d.2.2.1∧d.2.2.1.2.2.2.2.2.2.2.2.2.1.length≤1000000∧d.2.2.1.1≤9223372036854775807∧d.2.2.1.2.2.2.1.length=8,res:=λd=>([],.one (.dat dQ (eF d.1.2.2.2.1 d.2.1 256 d.2.2.1))) }
@[reducible] def arf (vs:List VD) (ms cs:List ByteArray) (fs:List FD) (ts:List SD) (bound id fn pc:Int) (rg:List Int) (st ch ph su fa:Int) (he:List Int):Nat→Option (St→iC):=λk=>match k with
  | 4=>some λ_=>.inv { α:=Nat×TD,slots:=λx=>[(7,.c (.v (.int .i64 x.1)))],res:=λx=>[(1,.obj 56 dQ x.2)],inv:=λx=>x.1≤256∧bG ms fs bound x.2∧x.2.2.2.2.2.2.2.2.2.2.1=he∧x.2.1=id∧x.2.2.2.2.1.length=8∧eF fs bound (256 - x.1) x.2=eF fs bound 256 (id,fn,pc,rg,st,ch,ph,su,fa,he,()),meas:=λx=>257 - x.1 }
  | _=>none
theorem anA(vs:List VD) (ms cs:List ByteArray) (fs:List FD) (ts:List SD) (bound id fn pc:Int) (rg:List Int) (st ch ph su fa:Int) (he:List Int) (aA:UU.pre ((vs,ms,cs,fs,ts,()),bound,(id,fn,pc,rg,st,ch,ph,su,fa,he,()),())):
 let z6:=(id,fn,pc,rg,st,ch,ph,su,fa,he,());let z1:=λ(x:Nat×TD)=>x.fst≤256∧bG ms fs bound x.snd∧x.snd.snd.snd.snd.snd.snd.snd.snd.snd.snd.fst=he∧x.snd.fst=id∧x.snd.snd.snd.snd.fst.length=8∧eF fs bound (256 - x.fst) x.snd=eF fs bound 256 z6;let z2:=[SC.sl aea vs,SC.sl Sh.str ms,SC.sl Sh.str cs,SC.sl kq2 fs,SC.sl aeb ts];let z7:=λ(x:Nat×TD)=>atR fs x.snd.snd.fst x.snd.snd.snd.fst;let z4:=eF fs bound 256 z6;let z5:=λ(x:Nat×TD)=>dW x.snd (z7 x).fst;let z3:=λ(x:Nat×TD)=>(z5 x).fst;he.length≤1000000∧(∃(x:Nat×TD),(z1 x)∧(cI 0=cI (↑x.fst:Int)∧True)∧[g0 (aj.blk 27 z2),g0 (aj.obj 56 (I6.pair (I6.pair (I6.pair ((Sh.arr 8 I6).pair kq7)))) z6),g0 (aj.obj 56 (I6.pair (I6.pair (I6.pair ((Sh.arr 8 I6).pair kq7)))) ((0:Int),(0:Int),(0:Int),List.replicate 8 (0:Int),(0:Int),(0:Int),(0:Int),(0:Int),(0:Int),[],())),g0 aj.gone]=[g0 (aj.blk 27 z2),g0 (aj.obj 56 (I6.pair (I6.pair (I6.pair ((Sh.arr 8 I6).pair kq7)))) x.snd),g0 (aj.obj 56 (I6.pair (I6.pair (I6.pair ((Sh.arr 8 I6).pair kq7)))) ((0:Int),(0:Int),(0:Int),List.replicate 8 (0:Int),(0:Int),(0:Int),(0:Int),(0:Int),(0:Int),[],())),g0 aj.gone])∧∀(x:Nat×TD),x.fst≤256∧bG ms fs bound x.snd∧x.snd.snd.snd.snd.snd.snd.snd.snd.snd.snd.fst=he∧x.snd.fst=id∧x.snd.snd.snd.snd.fst.length=8∧eF fs bound (256 - x.fst) x.snd=eF fs bound 256 z6→(0≤x.snd.snd.fst∧x.snd.snd.fst < (↑fs.length:Int)∧0≤x.snd.snd.snd.fst)∧br (!(z7 x).snd) (True∧rE (aT.one (SV.dat (I6.pair (I6.pair (I6.pair ((Sh.arr 8 I6).pair kq7)))) z4)) (aT.one (SV.dat (I6.pair (I6.pair (I6.pair ((Sh.arr 8 I6).pair kq7)))) (zY x.snd (2:Int) (0:Int))))) (True∧br (jf (z7 x).fst.fst) ((List.length x.snd.snd.snd.snd.snd.snd.snd.snd.snd.snd.fst≤1000000∧x.snd.fst≤9223372036854775807)∧br (!decide (iQ x.snd.fst x.snd.snd.snd.snd.snd.snd.fst x.snd.snd.snd.snd.snd.snd.snd.fst x.snd.snd.snd.snd.snd.snd.snd.snd.snd.snd.fst (z7 x).fst=0)) (True∧rE (aT.one (SV.dat (I6.pair (I6.pair (I6.pair ((Sh.arr 8 I6).pair kq7)))) z4)) (aT.one (SV.dat (I6.pair (I6.pair (I6.pair ((Sh.arr 8 I6).pair kq7)))) (zY x.snd (3:Int) (iQ x.snd.fst x.snd.snd.snd.snd.snd.snd.fst x.snd.snd.snd.snd.snd.snd.snd.fst x.snd.snd.snd.snd.snd.snd.snd.snd.snd.snd.fst (z7 x).fst))))) (br (decide (x.snd.snd.snd.snd.snd.fst=bound)) (True∧rE (aT.one (SV.dat (I6.pair (I6.pair (I6.pair ((Sh.arr 8 I6).pair kq7)))) z4)) (aT.one (SV.dat (I6.pair (I6.pair (I6.pair ((Sh.arr 8 I6).pair kq7)))) (zY x.snd (4:Int) (0:Int))))) (rE (aT.one (SV.dat (I6.pair (I6.pair (I6.pair ((Sh.arr 8 I6).pair kq7)))) z4)) (aT.one (SV.dat (I6.pair (I6.pair (I6.pair ((Sh.arr 8 I6).pair kq7)))) (x.snd)))))) (br (decide ((↑x.fst:Int)=(256:Int))) (True∧rE (aT.one (SV.dat (I6.pair (I6.pair (I6.pair ((Sh.arr 8 I6).pair kq7)))) z4)) (aT.one (SV.dat (I6.pair (I6.pair (I6.pair ((Sh.arr 8 I6).pair kq7)))) (zY x.snd (3:Int) (29:Int))))) (((0≤(z7 x).fst.snd.fst∧(z7 x).fst.snd.fst < 8)∧(0≤(z7 x).fst.snd.snd.fst∧(z7 x).fst.snd.snd.fst < 8)∧(0≤(z7 x).fst.snd.snd.snd.fst∧(z7 x).fst.snd.snd.snd.fst < 8)∧0≤x.snd.snd.snd.fst∧x.snd.snd.snd.fst≤1000000)∧br (!(z5 x).snd) (rE (aT.one (SV.dat (I6.pair (I6.pair (I6.pair ((Sh.arr 8 I6).pair kq7)))) z4)) (aT.one (SV.dat (I6.pair (I6.pair (I6.pair ((Sh.arr 8 I6).pair kq7)))) (z3 x)))) (cZ IntKind.i64 ((↑x.fst:Int)+(1:Int))∧∃(x':Nat×TD),(z1 x')∧(cI ((↑x.fst:Int)+(1:Int))=cI (↑x'.fst:Int)∧True)∧[g0 (aj.blk 27 z2),g0 (aj.obj 56 (I6.pair (I6.pair (I6.pair ((Sh.arr 8 I6).pair kq7)))) (z3 x)),g0 (aj.obj 56 (I6.pair (I6.pair (I6.pair ((Sh.arr 8 I6).pair kq7)))) ((0:Int),(0:Int),(0:Int),List.replicate 8 (0:Int),(0:Int),(0:Int),(0:Int),(0:Int),(0:Int),[],())),g0 aj.gone]=[g0 (aj.blk 27 z2),g0 (aj.obj 56 (I6.pair (I6.pair (I6.pair ((Sh.arr 8 I6).pair kq7)))) x'.snd),g0 (aj.obj 56 (I6.pair (I6.pair (I6.pair ((Sh.arr 8 I6).pair kq7)))) ((0:Int),(0:Int),(0:Int),List.replicate 8 (0:Int),(0:Int),(0:Int),(0:Int),(0:Int),(0:Int),[],())),g0 aj.gone]∧257 - x'.fst < 257 - x.fst)))):=by
 conv=>zeta
 delta aea kq2 aeb kq7 cI g0 rE I6;obtain⟨hc,hF,yE,hid,hrg⟩:(aB vs ms cs fs ts).1=0∧bG ms fs bound (id,fn,pc,rg,st,ch,ph,su,fa,he,())∧he.length≤1000000∧id≤9223372036854775807∧rg.length=8:=aA;refine⟨yE,⟨(0,(id,fn,pc,rg,st,ch,ph,su,fa,he,())),⟨by omega,hF,rfl,rfl,hrg,rfl⟩,⟨rfl,trivial⟩,rfl⟩,λx hx=>?_⟩
 obtain⟨k,id',fn',pc',DI,st',ch',I8,Oz,UH,he',⟨⟩⟩:=x;obtain⟨x1,x2,x3,x4,x5,x6⟩:=hx;have x1:k≤256:=x1;have x3:he'=he:=x3;have x4:id'=id:=x4;have x5:DI.length=8:=x5;have x6:eF fs bound (256 - k) (id',fn',pc',DI,st',ch',I8,Oz,UH,he',())=eF fs bound 256 (id,fn,pc,rg,st,ch,ph,su,fa,he,()):=x6;have x2:bG ms fs bound (id',fn',pc',DI,st',ch',I8,Oz,UH,he',()):=x2;subst x3;subst x4;rw[←x6];have hfn:=x2.2.1;have hpc:=x2.2.2.1;refine⟨⟨hfn.1,hfn.2,hpc.1⟩,?_⟩;show br (!(atR fs fn' pc').2) _ _;cases ha:lH fs fn' pc' with
 | none=>
   rw[show atR fs fn' pc'=((0,0,0,0,0,0,0,0,()),false) by unfold atR;rw[ha]]
   refine ah.2 ⟨λ_=>⟨trivial,rfl,?_⟩,λq=>by simp at q⟩
   rw[OJ ha];rfl
 | some i=>
   rw[show atR fs fn' pc'=(i,true) by unfold atR;rw[ha]]
   obtain⟨r1,r2,r3,r4⟩:=kH (mY (xk hc hfn ha)).1;have h64:=tN hc hfn;refine ah.2 ⟨λq=>by simp at q,λ_=>⟨trivial,ah.2 ⟨λhv=>?_,λhv=>?_⟩⟩⟩
   ·have hv:jf i.1=true:=hv;rw[UR ha hv];refine⟨⟨yE,hid⟩,ah.2 ⟨λh1=>?_,λh1=>ah.2 ⟨λh2=>?_,λh2=>?_⟩⟩⟩
    ·have h1:iQ id' ch' I8 he' i≠0:=by simpa using h1
     rw[if_pos h1];exact⟨trivial,rfl,rfl⟩
    ·have h1:¬iQ id' ch' I8 he' i≠0:=by simpa using h1
     have h2:st'=bound:=by simpa using h2
     rw[if_neg h1,if_pos h2];exact⟨trivial,rfl,rfl⟩
    ·have h1:¬iQ id' ch' I8 he' i≠0:=by simpa using h1
     have h2:¬st'=bound:=by simpa using h2
     rw[if_neg h1,if_neg h2];exact⟨rfl,rfl⟩
   ·have hv:jf i.1=false:=hv;refine ah.2 ⟨λh1=>?_,λh1=>?_⟩
    ·have h1:k=256:=by
      have:(k:Int)=256:=by simpa using h1
      omega
     rw[h1,show 256 - 256=0 from rfl,OL ha hv]
     exact⟨trivial,rfl,rfl⟩
    ·have h1:¬k=256:=by
      have:¬(k:Int)=256:=by simpa using h1
      omega
     obtain⟨m,hm⟩:∃m,256 - k=m+1:=⟨255 - k,by omega⟩
     rw[hm,OM ha hv];have hk:=Ac (id',fn',pc',DI,st',ch',I8,Oz,UH,he',()) i;have hlen:=DK (id',fn',pc',DI,st',ch',I8,Oz,UH,he',()) i;have hfo:=yw hc x2 ha hv;refine⟨⟨r1,r2,r3,hpc.1,show pc'≤1000000 by omega⟩,ah.2 ⟨λh2=>?_,λh2=>⟨au.2 (show(-9223372036854775808:Int)≤(k:Int)+1∧(k:Int)+1≤9223372036854775807 by omega),(k+1,(dW (id',fn',pc',DI,st',ch',I8,Oz,UH,he',()) i).1),⟨show k+1≤256 by omega,hfo,hk.2.2.2.2.2.1,hk.1,hlen.trans x5,?_⟩,⟨rfl,trivial⟩,rfl,show 257 - (k+1) < 257 - k by omega⟩⟩⟩
     ·have h2:¬(dW (id',fn',pc',DI,st',ch',I8,Oz,UH,he',()) i).2=true:=by simpa using h2
      rw[if_neg h2];exact⟨rfl,rfl⟩
     ·have h2:(dW (id',fn',pc',DI,st',ch',I8,Oz,UH,he',()) i).2=true:=by simpa using h2
      show eF fs bound (256 - (k+1)) _=_;rw[if_pos h2,show 256 - (k+1)=m by omega]
theorem UW:Go.aV.Met Tryz.prog aK.gd 78 UU:=
 bW (cx:=aK) (n:=59) (cl:=[(58,wF),(95,RJ),(148,acy),(149,acr),(150,UQ),(151,acz)]) (rc:=[.data dQ]) ay ⟨Dx,Ad,OG,OB,OH,acA,trivial⟩ Tryz.func78 λd hd=>by
  obtain⟨⟨vs,ms,cs,fs,ts,⟨⟩⟩,bound,⟨id,fn,pc,rg,st,ch,ph,su,fa,he,⟨⟩⟩,⟨⟩⟩:=d;exact aH (arf vs ms cs fs ts bound id fn pc rg st ch ph su fa he) (anA vs ms cs fs ts bound id fn pc rg st ch ph su fa he hd) (by kernel_rfl)
theorem val_wrap(n:Int):bV n=decide (aI n=n):=by
 unfold bV;rw[Ee,Yd,Yd,F9]
theorem acF{vs:List VD}{ms cs:List ByteArray}{fs:List FD} (h:Az vs ms cs fs=0):ms.length≤4:=by
 unfold Az at h;split at h
 ·cases h
 ·omega
theorem lW{ms:List ByteArray}{fs:List FD}{bound:Int}{t:TD} (h:bG ms fs bound t) (hm:ms.length≤4):t.2.2.2.2.2.2.2.2.2.1.length≤4:=by
 obtain⟨id,fn,pc,rg,st,ch,ph,su,fa,he,u⟩:=t;exact vO (abX h.2.2.2.2.2.2.1 h.2.2.2.2.2.2.2.1) hm
theorem I9{ms:List ByteArray}{fs:List FD}{bound:Int}{t:TD} (h:bG ms fs bound t):t.1≤9223372036854775807:=by
 obtain⟨id,fn,pc,rg,st,ch,ph,su,fa,he,u⟩:=t;have:=mQ h.1;show id≤9223372036854775807;omega
theorem Lc(t:TD) (i:ID) (r:Int):(jP t i r).2.2.2.1.length=t.2.2.2.1.length:=by
 obtain⟨id,fn,pc,rg,st,ch,ph,su,fa,hd,u⟩:=t;have e:(if(jh i).2=true then rg.set (jh i).1.toNat r else rg).length=rg.length:=by split<;>simp
 unfold jP;simp only;split
 ·split
  ·exact e
  split
  ·exact e
  ·exact e
 ·exact e
theorem OO{i:ID} (h:rX i=0) (hd:(jh i).2=true):0≤(jh i).1∧(jh i).1 < 8:=by
 obtain⟨r1,_⟩:=kH h;unfold jh at hd ⊢;split at hd
 ·cases hd
 ·rename_i q;rw[if_neg q];exact r1
abbrev UY:CT:={ ps:=[oH,.int .i64,.int .i64,.int .i64,.int .i64],pre:=λd=>bnd (d.1,())∧d.2.2.1≤9223372036854775807,res:=λd=>([],.gX [.dat dQ (newS (aB d.1.1 d.1.2.1 d.1.2.2.1 d.1.2.2.2.1 d.1.2.2.2.2.1).1 d.1.2.2.2.1 d.2.1 d.2.2.1 d.2.2.2.1 d.2.2.2.2.1).1,.c (.v (.int .i64 (newS (aB d.1.1 d.1.2.1 d.1.2.2.1 d.1.2.2.2.1 d.1.2.2.2.2.1).1 d.1.2.2.2.1 d.2.1 d.2.2.1 d.2.2.2.1 d.2.2.2.2.1).2))]) }
abbrev kq4:=[(0:Int),(0:Int),(0:Int),(0:Int),(0:Int),(0:Int),(0:Int),(0:Int)]
theorem anB(vs:List VD) (ms cs:List ByteArray) (fs:List FD) (ts:List SD) (bound id fn arg:Int) (aA:UY.pre ((vs,ms,cs,fs,ts,()),bound,id,fn,arg,())):
 let z4:=aB vs ms cs fs ts;let z3:=newS z4.fst fs bound id fn arg;let z2:=[SV.dat (I6.pair (I6.pair (I6.pair ((Sh.arr 8 I6).pair kq7)))) z3.fst,cI (z3.snd)];let z1:=rT z2 [SV.dat (I6.pair (I6.pair (I6.pair ((Sh.arr 8 I6).pair kq7)))) (((0:Int),(0:Int),(0:Int),kq4,(0:Int),(0:Int),(0:Int),(0:Int),(0:Int),[],())),cI 2];(vs.length≤1000000∧ms.length≤1000000∧cs.length≤1000000∧fs.length≤1000000∧ts.length≤1000000∧(∀(x:ByteArray×((I6.pair (I6.pair (I6.pair (I6.pair (I6.pair (I6.pair (I6.pair (I6.pair Sh.unit)))))))).sl.pair Sh.unit).den),x∈fs→List.length x.snd.fst≤1000000)∧(dR fs).length≤1000000)∧br (!decide (bM z4.fst bound=0)) (rT z2 [SV.dat (I6.pair (I6.pair (I6.pair ((Sh.arr 8 I6).pair kq7)))) (((0:Int),(0:Int),(0:Int),kq4,(0:Int),(0:Int),(0:Int),(0:Int),(0:Int),[],())),cI (bM z4.fst bound)]) (id≤9223372036854775807∧br (decide (aU id < 0)) z1 (br (decide (fn < 0) || decide ((↑fs.length:Int)≤fn)) (rT z2 [SV.dat (I6.pair (I6.pair (I6.pair ((Sh.arr 8 I6).pair kq7)))) (((0:Int),(0:Int),(0:Int),kq4,(0:Int),(0:Int),(0:Int),(0:Int),(0:Int),[],())),cI 11]) (True∧br (!decide (aI arg=arg)) z1 (((0:Int)≤(0:Int)∧(0:Int) < (8:Int))∧0 < 8∧(z4.fst=0∧bG ms fs bound (id,fn,(0:Int),kq4.set 0 arg,(0:Int),(0:Int),(0:Int),(1:Int),(0:Int),[],())∧0≤1000000∧id≤9223372036854775807∧(kq4.set 0 arg).length=8)∧rT z2 [SV.dat (I6.pair (I6.pair (I6.pair ((Sh.arr 8 I6).pair kq7)))) (eF fs bound 256 (id,fn,(0:Int),kq4.set 0 arg,(0:Int),(0:Int),(0:Int),(1:Int),(0:Int),[],())),cI 0])))):=by
 conv=>zeta
 delta kq7 kq4 cI rT I6;obtain⟨hb,hid⟩:bnd ((vs,ms,cs,fs,ts,()),())∧id≤9223372036854775807:=aA;refine⟨hb,ah.2 ⟨λh=>?_,λh=>⟨hid,ah.2 ⟨λh2=>?_,λh2=>ah.2 ⟨λh3=>?_,λh3=>⟨trivial,ah.2 ⟨λh4=>?_,λh4=>?_⟩⟩⟩⟩⟩⟩⟩
 ·have h:bM (aB vs ms cs fs ts).1 bound≠0:=by simpa using h
  have e:newS (aB vs ms cs fs ts).1 fs bound id fn arg=(zT,bM (aB vs ms cs fs ts).1 bound):=by unfold newS;rw[if_pos h]
  rw[e];exact⟨rfl,rfl⟩
 all_goals have h:¬bM (aB vs ms cs fs ts).1 bound≠0:=by simpa using h
 ·have h2:aU id < 0:=by simpa using h2
  have e:newS (aB vs ms cs fs ts).1 fs bound id fn arg=(zT,2):=by unfold newS;rw[if_neg h,if_pos h2]
  rw[e];exact⟨rfl,rfl⟩
 all_goals have h2:¬aU id < 0:=by simpa using h2
 ·have h3:fn < 0∨(fs.length:Int)≤fn:=by simpa using h3
  have e:newS (aB vs ms cs fs ts).1 fs bound id fn arg=(zT,11):=by unfold newS;rw[if_neg h,if_neg h2,if_pos h3]
  rw[e];exact⟨rfl,rfl⟩
 all_goals have h3:¬(fn < 0∨(fs.length:Int)≤fn):=by simp only[qH,dh]at h3;omega
 ·have h4:bV arg=false:=by rw[val_wrap];simpa using h4
  have e:newS (aB vs ms cs fs ts).1 fs bound id fn arg=(zT,2):=by unfold newS;rw[if_neg h,if_neg h2,if_neg h3,if_pos h4]
  rw[e];exact⟨rfl,rfl⟩
 ·have h4:¬bV arg=false:=by rw[val_wrap];simpa using h4
  have e:newS (aB vs ms cs fs ts).1 fs bound id fn arg=(eF fs bound 256 (id,fn,0,[arg,0,0,0,0,0,0,0],0,0,0,1,0,[],()),0):=by unfold newS;rw[if_neg h,if_neg h2,if_neg h3,if_neg h4]
  have hs:=fM.1 (GU.1 h);rw[e];exact⟨⟨by omega,by omega⟩,by omega,⟨hs.1,yD ms hs.2.1 h2 h3 h4,by omega,hid,rfl⟩,rfl,rfl⟩
theorem UZ:Go.aV.Met Tryz.prog aK.gd 34 UY:=
 bW (cx:=aK) (n:=50) (cl:=[(75,uy),(76,OE),(77,Gi),(78,UU)]) (rc:=[.data dQ,.keep]) ay ⟨KZ,KY,DJ,UW,trivial⟩ Tryz.func34 λd hd=>by
  obtain⟨⟨vs,ms,cs,fs,ts,⟨⟩⟩,bound,id,fn,arg,⟨⟩⟩:=d;exact aH (λ_=>none) (anB vs ms cs fs ts bound id fn arg hd) (by kernel_rfl)
abbrev ahM:CT:={ ps:=[oH,.int .i64,dQ],pre:=λd=>bnd (d.1,())∧d.2.2.1.2.2.2.2.2.2.2.2.2.1.length≤1000000∧d.2.2.1.1≤9223372036854775807∧d.2.2.1.2.2.2.1.length=8,res:=λd=>([],vB (decide (bM (aB d.1.1 d.1.2.1 d.1.2.2.1 d.1.2.2.2.1 d.1.2.2.2.2.1).1 d.2.1=0) && mW d.1.2.1 d.1.2.2.2.1 d.2.1 d.2.2.1)) }
theorem anC(vs:List VD) (ms cs:List ByteArray) (fs:List FD) (ts:List SD) (bound id fn pc:Int) (rg:List Int) (st ch ph su fa:Int) (he:List Int) (aA:ahM.pre ((vs,ms,cs,fs,ts,()),bound,(id,fn,pc,rg,st,ch,ph,su,fa,he,()),())):
 let z2:=bM (aB vs ms cs fs ts).fst bound=0;let z1:=decide z2 && mW ms fs bound (id,fn,pc,rg,st,ch,ph,su,fa,he,());(vs.length≤1000000∧ms.length≤1000000∧cs.length≤1000000∧fs.length≤1000000∧ts.length≤1000000∧(∀(x:ByteArray×((I6.pair (I6.pair (I6.pair (I6.pair (I6.pair (I6.pair (I6.pair (I6.pair Sh.unit)))))))).sl.pair Sh.unit).den),x∈fs→List.length x.snd.fst≤1000000)∧(dR fs).length≤1000000)∧(decide z2=true→(aB vs ms cs fs ts).fst=0∧he.length≤1000000∧id≤9223372036854775807∧rg.length=8)∧qB z1 z1:=by
 conv=>zeta
 delta qB I6;obtain⟨hb,yE,hid,hrg⟩:bnd ((vs,ms,cs,fs,ts,()),())∧he.length≤1000000∧id≤9223372036854775807∧rg.length=8:=aA;exact⟨hb,λh=>⟨(fM.1 (A83 h)).1,yE,hid,hrg⟩,rfl,rfl⟩
theorem U0:Go.aV.Met Tryz.prog aK.gd 85 ahM:=
 bW (cx:=aK) (n:=17) (cl:=[(75,uy),(108,La)]) (rc:=[]) ay ⟨KZ,OI,trivial⟩ Tryz.func85 λd hd=>by
  obtain⟨⟨vs,ms,cs,fs,ts,⟨⟩⟩,bound,⟨id,fn,pc,rg,st,ch,ph,su,fa,he,⟨⟩⟩,⟨⟩⟩:=d;exact aH (λ_=>none) (anC vs ms cs fs ts bound id fn pc rg st ch ph su fa he hd) (by kernel_rfl)
abbrev U1:CT:={ ps:=[oH,dQ],pre:=λd=>bnd (d.1,())∧d.2.1.2.2.2.2.2.2.2.2.2.1.length≤1000000∧d.2.1.1≤9223372036854775807∧d.2.1.2.2.2.1.length=8,res:=λd=>([],.gX [.agg [.v (.int .i64 ((iJ (aB d.1.1 d.1.2.1 d.1.2.2.1 d.1.2.2.2.1 d.1.2.2.2.2.1).1 d.1.2.1 d.1.2.2.2.1 d.2.1).1).1),.v (.int .i64 ((iJ (aB d.1.1 d.1.2.1 d.1.2.2.1 d.1.2.2.2.1 d.1.2.2.2.2.1).1 d.1.2.1 d.1.2.2.2.1 d.2.1).1).2.1),.v (.int .i64 ((iJ (aB d.1.1 d.1.2.1 d.1.2.2.1 d.1.2.2.2.1 d.1.2.2.2.2.1).1 d.1.2.1 d.1.2.2.2.1 d.2.1).1).2.2.1),.v (.int .i64 ((iJ (aB d.1.1 d.1.2.1 d.1.2.2.1 d.1.2.2.2.1 d.1.2.2.2.2.1).1 d.1.2.1 d.1.2.2.2.1 d.2.1).1).2.2.2.1),.v (.int .i64 ((iJ (aB d.1.1 d.1.2.1 d.1.2.2.1 d.1.2.2.2.1 d.1.2.2.2.2.1).1 d.1.2.1 d.1.2.2.2.1 d.2.1).1).2.2.2.2.1),.v (.int .i64 ((iJ (aB d.1.1 d.1.2.1 d.1.2.2.1 d.1.2.2.2.1 d.1.2.2.2.2.1).1 d.1.2.1 d.1.2.2.2.1 d.2.1).1).2.2.2.2.2.1),.v (.int .i64 ((iJ (aB d.1.1 d.1.2.1 d.1.2.2.1 d.1.2.2.2.1 d.1.2.2.2.2.1).1 d.1.2.1 d.1.2.2.2.1 d.2.1).1).2.2.2.2.2.2.1),.v (.int .i64 ((iJ (aB d.1.1 d.1.2.1 d.1.2.2.1 d.1.2.2.2.1 d.1.2.2.2.2.1).1 d.1.2.1 d.1.2.2.2.1 d.2.1).1).2.2.2.2.2.2.2.1)],.c (.v (.bool (iJ (aB d.1.1 d.1.2.1 d.1.2.2.1 d.1.2.2.2.1 d.1.2.2.2.2.1).1 d.1.2.1 d.1.2.2.2.1 d.2.1).2))]) }
theorem anD(vs:List VD) (ms cs:List ByteArray) (fs:List FD) (ts:List SD) (id fn pc:Int) (rg:List Int) (st ch ph su fa:Int) (he:List Int) (aA:U1.pre ((vs,ms,cs,fs,ts,()),(id,fn,pc,rg,st,ch,ph,su,fa,he,()),())):
 let z3:=(id,fn,pc,rg,st,ch,ph,su,fa,he,());let z2:=iJ (aB vs ms cs fs ts).fst ms fs z3;let z1:=[SV.agg [v6 (z2.fst.fst),v6 (z2.fst.snd.fst),v6 (z2.fst.snd.snd.fst),v6 (z2.fst.snd.snd.snd.fst),v6 (z2.fst.snd.snd.snd.snd.fst),v6 (z2.fst.snd.snd.snd.snd.snd.fst),v6 (z2.fst.snd.snd.snd.snd.snd.snd.fst),v6 (z2.fst.snd.snd.snd.snd.snd.snd.snd.fst)],cB (z2.snd)];((!!decide (su=1))=true→(vs.length≤1000000∧ms.length≤1000000∧cs.length≤1000000∧fs.length≤1000000∧ts.length≤1000000∧(∀(x:ByteArray×((I6.pair (I6.pair (I6.pair (I6.pair (I6.pair (I6.pair (I6.pair (I6.pair Sh.unit)))))))).sl.pair Sh.unit).den),x∈fs→List.length x.snd.fst≤1000000)∧(dR fs).length≤1000000)∧he.length≤1000000∧id≤9223372036854775807∧rg.length=8)∧br (!decide (su=1) || !(decide (bM (aB vs ms cs fs ts).fst (32:Int)=(0:Int)) && mW ms fs (32:Int) z3)) (rT z1 [SV.agg [v6 0,v6 0,v6 0,v6 0,v6 0,v6 0,v6 0,v6 0],cB false]) ((0≤fn∧fn < (↑fs.length:Int)∧0≤pc)∧rT z1 [SV.agg [v6 ((atR fs fn pc).fst.fst),v6 ((atR fs fn pc).fst.snd.fst),v6 ((atR fs fn pc).fst.snd.snd.fst),v6 ((atR fs fn pc).fst.snd.snd.snd.fst),v6 ((atR fs fn pc).fst.snd.snd.snd.snd.fst),v6 ((atR fs fn pc).fst.snd.snd.snd.snd.snd.fst),v6 ((atR fs fn pc).fst.snd.snd.snd.snd.snd.snd.fst),v6 ((atR fs fn pc).fst.snd.snd.snd.snd.snd.snd.snd.fst)],cB ((atR fs fn pc).snd)]):=by
 conv=>zeta
 delta v6 cB rT I6;obtain⟨hb,yE,hid,hrg⟩:bnd ((vs,ms,cs,fs,ts,()),())∧he.length≤1000000∧id≤9223372036854775807∧rg.length=8:=aA;have key:((aB vs ms cs fs ts).1=0∧su=1∧qQ ms fs 32 (id,fn,pc,rg,st,ch,ph,su,fa,he,()))↔(!decide (su=1) || !(decide (bM (aB vs ms cs fs ts).1 32=0) && mW ms fs 32 (id,fn,pc,rg,st,ch,ph,su,fa,he,())))=false:=by
  rw[qH,yI,yI,A8,Yd,Yd,fM,jE];constructor
  ·rintro⟨q1,q2,q3⟩;exact⟨q2,⟨q1,by omega,by omega⟩,q3⟩
  ·rintro⟨q2,⟨q1,_⟩,q3⟩;exact⟨q1,q2,q3⟩
 refine⟨λ_=>⟨hb,yE,hid,hrg⟩,ah.2 ⟨λh=>?_,λh=>?_⟩⟩
 ·have e:iJ (aB vs ms cs fs ts).1 ms fs (id,fn,pc,rg,st,ch,ph,su,fa,he,())=((0,0,0,0,0,0,0,0,()),false):=by
   unfold iJ;rw[if_neg];intro q;rw[key.1 q]at h;cases h
  rw[e];exact⟨rfl,rfl⟩
 ·have q:=key.2 h;have e:iJ (aB vs ms cs fs ts).1 ms fs (id,fn,pc,rg,st,ch,ph,su,fa,he,())=atR fs fn pc:=by
   unfold iJ;rw[if_pos q]
  have hF:=q.2.2.1;rw[e];exact⟨⟨hF.2.1.1,hF.2.1.2,hF.2.2.1.1⟩,rfl,rfl⟩
theorem U2:Go.aV.Met Tryz.prog aK.gd 45 U1:=
 bW (cx:=aK) (n:=21) (cl:=[(85,ahM),(95,RJ)]) (rc:=[]) ay ⟨U0,Ad,trivial⟩ Tryz.func45 λd hd=>by
  obtain⟨⟨vs,ms,cs,fs,ts,⟨⟩⟩,⟨id,fn,pc,rg,st,ch,ph,su,fa,he,⟨⟩⟩,⟨⟩⟩:=d;exact aH (λ_=>none) (anD vs ms cs fs ts id fn pc rg st ch ph su fa he hd) (by kernel_rfl)
def uz:TD→Int→TD
 | (id,fn,pc,rg,st,ch,ph,su,fa,he,_),m=>if ph=0 then(id,fn,pc,rg,st,ch,1,su,fa,yx he m,()) else if ph=1 then(id,fn,pc,rg,st,ch,2,su,fa,he,()) else(id,fn,pc+1,rg,st,ch,0,su,fa,uK he m,())
abbrev acG:CT:={ ps:=[dQ,.int .i64],pre:=λd=>d.1.2.2.2.2.2.2.2.2.2.1.length≤999999∧0≤d.1.2.2.1∧d.1.2.2.1≤1000000,res:=λd=>([],.one (.dat dQ (uz d.1 d.2.1))) }
theorem ahN(id fn pc:Int) (rg:List Int) (st ch ph su fa:Int) (he:List Int) (m:Int) (aA:acG.pre ((id,fn,pc,rg,st,ch,ph,su,fa,he,()),m,())):
 let z1:=uz (id,fn,pc,rg,st,ch,ph,su,fa,he,()) m;br (decide (ph=0)) (he.length≤1000000∧rE (aT.one (SV.dat (I6.pair (I6.pair (I6.pair ((Sh.arr 8 I6).pair kq7)))) z1)) (aT.one (SV.dat (I6.pair (I6.pair (I6.pair ((Sh.arr 8 I6).pair kq7)))) ((id,fn,pc,rg,st,ch,(1:Int),su,fa,jl (aX he) [m] false,()))))) (br (decide (ph=1)) (rE (aT.one (SV.dat (I6.pair (I6.pair (I6.pair ((Sh.arr 8 I6).pair kq7)))) z1)) (aT.one (SV.dat (I6.pair (I6.pair (I6.pair ((Sh.arr 8 I6).pair kq7)))) ((id,fn,pc,rg,st,ch,(2:Int),su,fa,he,()))))) (he.length≤999999∧cZ IntKind.i64 (pc+1)∧rE (aT.one (SV.dat (I6.pair (I6.pair (I6.pair ((Sh.arr 8 I6).pair kq7)))) z1)) (aT.one (SV.dat (I6.pair (I6.pair (I6.pair ((Sh.arr 8 I6).pair kq7)))) ((id,fn,pc+1,rg,st,ch,(0:Int),su,fa,aX (he++[m]),())))))):=by
 conv=>zeta
 delta kq7 rE I6;obtain⟨yE,hp0,hp1⟩:he.length≤999999∧0≤pc∧pc≤1000000:=aA;refine ah.2 ⟨λh=>?_,λh=>ah.2 ⟨λh2=>?_,λh2=>?_⟩⟩
 ·have h:ph=0:=by simpa using h
  have e:uz (id,fn,pc,rg,st,ch,ph,su,fa,he,()) m=(id,fn,pc,rg,st,ch,1,su,fa,yx he m,()):=by simp only[uz];rw[if_pos h]
  rw[e];exact⟨by omega,rfl,rfl⟩
 ·have h:¬ph=0:=by simpa using h
  have h2:ph=1:=by simpa using h2
  have e:uz (id,fn,pc,rg,st,ch,ph,su,fa,he,()) m=(id,fn,pc,rg,st,ch,2,su,fa,he,()):=by simp only[uz];rw[if_neg h,if_pos h2]
  rw[e];exact⟨rfl,rfl⟩
 ·have h:¬ph=0:=by simpa using h
  have h2:¬ph=1:=by simpa using h2
  have e:uz (id,fn,pc,rg,st,ch,ph,su,fa,he,()) m=(id,fn,pc+1,rg,st,ch,0,su,fa,uK he m,()):=by simp only[uz];rw[if_neg h,if_neg h2]
  rw[e];exact⟨yE,au.2 (by omega),rfl,rfl⟩
theorem acH:Go.aV.Met Tryz.prog aK.gd 110 acG:=
 bW (cx:=aK) (n:=29) (cl:=[(112,OD),(111,Ot)]) (rc:=[.data dQ]) ay ⟨Gm,FX,trivial⟩ Tryz.func110 λd hd=>by
  obtain⟨⟨id,fn,pc,rg,st,ch,ph,su,fa,he,⟨⟩⟩,m,⟨⟩⟩:=d;exact aH (λ_=>none) (ahN id fn pc rg st ch ph su fa he m hd) (by kernel_rfl)
abbrev acI:CT:={ ps:=[oH,.int .i64,dQ,.int .i64],pre:=λd=>bnd (d.1,())∧d.2.2.1.2.2.2.2.2.2.2.2.2.1.length≤1000000∧d.2.2.1.1≤9223372036854775807∧d.2.2.1.2.2.2.1.length=8,res:=λd=>([],.gX [.dat dQ (gY (aB d.1.1 d.1.2.1 d.1.2.2.1 d.1.2.2.2.1 d.1.2.2.2.2.1).1 d.1.2.1 d.1.2.2.2.1 d.2.1 d.2.2.1 d.2.2.2.1).1,.c (.v (.int .i64 (gY (aB d.1.1 d.1.2.1 d.1.2.2.1 d.1.2.2.2.1 d.1.2.2.2.2.1).1 d.1.2.1 d.1.2.2.2.1 d.2.1 d.2.2.1 d.2.2.2.1).2))]) }
theorem anE(vs:List VD) (ms cs:List ByteArray) (fs:List FD) (ts:List SD) (bound id fn pc:Int) (rg:List Int) (st ch ph su fa:Int) (he:List Int) (r:Int) (aA:acI.pre ((vs,ms,cs,fs,ts,()),bound,(id,fn,pc,rg,st,ch,ph,su,fa,he,()),r,())):
 let z30:=aB vs ms cs fs ts;let z21:=(id,fn,pc,rg,st,ch,ph,su,fa,he,());let oh:=gY z30.fst ms fs bound z21 r;let z5:=[SV.dat (I6.pair (I6.pair (I6.pair ((Sh.arr 8 I6).pair kq7)))) oh.fst,cI (oh.snd)];let z29:=jh (atR fs fn pc).fst;let z24:=decide ((atR fs fn pc).fst.fst=18);let z22:=he.length≤999999∧0≤pc∧pc≤1000000;let z8:=uz (id,fn,pc,rg.set z29.fst.toNat r,st+1,ch,ph,su,fa,he,()) (atR fs fn pc).fst.snd.snd.snd.snd.snd.fst;let z25:=decide ((atR fs fn pc).fst.fst=17);let z13:=(id,fn,pc+1,rg.set z29.fst.toNat r,st+1,ch,ph,su,fa,he,());let z20:=rg.set z29.fst.toNat r;let z3:=cZ IntKind.i64 (pc+1)∧(z30.fst=0∧bG ms fs bound z13∧he.length≤1000000∧id≤9223372036854775807∧z20.length=8)∧rT z5 [SV.dat (I6.pair (I6.pair (I6.pair ((Sh.arr 8 I6).pair kq7)))) (eF fs bound 256 z13),cI 0];let z23:=[(atR fs fn pc).fst.snd.snd.snd.snd.fst];let Mc:=he++z23;let z7:=(id,fn,pc+1,rg.set z29.fst.toNat r,st+1,ch,ph,su,fa,aX Mc,());let z17:=aX Mc;let z1:=he.length≤999999∧cZ IntKind.i64 (pc+1)∧(z30.fst=0∧bG ms fs bound z7∧z17.length≤1000000∧id≤9223372036854775807∧z20.length=8)∧rT z5 [SV.dat (I6.pair (I6.pair (I6.pair ((Sh.arr 8 I6).pair kq7)))) (eF fs bound 256 z7),cI 0];let z26:=decide ((atR fs fn pc).fst.fst=15);let z27:=decide ((atR fs fn pc).fst.fst=16);let z6:=(id,fn,pc+1,rg.set z29.fst.toNat r,st+1,ch,ph,su,fa,jl (aX he) z23 false,());let oO:=jl (aX he) z23 false;let z28:=decide ((atR fs fn pc).fst.fst=21);let z12:=(id,fn,pc+1,rg.set z29.fst.toNat r,st+1,ch+1,ph,su,fa,he,());let z11:=uz (id,fn,pc,rg,st+1,ch,ph,su,fa,he,()) (atR fs fn pc).fst.snd.snd.snd.snd.snd.fst;let OQ:=(id,fn,pc+1,rg,st+1,ch,ph,su,fa,he,());let z4:=cZ IntKind.i64 (pc+1)∧(z30.fst=0∧bG ms fs bound OQ∧he.length≤1000000∧id≤9223372036854775807∧rg.length=8)∧rT z5 [SV.dat (I6.pair (I6.pair (I6.pair ((Sh.arr 8 I6).pair kq7)))) (eF fs bound 256 OQ),cI 0];let z10:=(id,fn,pc+1,rg,st+1,ch,ph,su,fa,aX Mc,());let z2:=he.length≤999999∧cZ IntKind.i64 (pc+1)∧(z30.fst=0∧bG ms fs bound z10∧z17.length≤1000000∧id≤9223372036854775807∧rg.length=8)∧rT z5 [SV.dat (I6.pair (I6.pair (I6.pair ((Sh.arr 8 I6).pair kq7)))) (eF fs bound 256 z10),cI 0];let z9:=(id,fn,pc+1,rg,st+1,ch,ph,su,fa,jl (aX he) z23 false,());let CB:=(id,fn,pc+1,rg,st+1,ch+1,ph,su,fa,he,());(vs.length≤1000000∧ms.length≤1000000∧cs.length≤1000000∧fs.length≤1000000∧ts.length≤1000000∧(∀(x:ByteArray×((I6.pair (I6.pair (I6.pair (I6.pair (I6.pair (I6.pair (I6.pair (I6.pair Sh.unit)))))))).sl.pair Sh.unit).den),x∈fs→List.length x.snd.fst≤1000000)∧(dR fs).length≤1000000)∧br (!decide (bM z30.fst bound=0)) (rT z5 [SV.dat (I6.pair (I6.pair (I6.pair ((Sh.arr 8 I6).pair kq7)))) (((0:Int),(0:Int),(0:Int),kq4,(0:Int),(0:Int),(0:Int),(0:Int),(0:Int),[],())),cI (bM z30.fst bound)]) ((z30.fst=0∧he.length≤1000000∧id≤9223372036854775807∧rg.length=8)∧br (!mW ms fs bound z21) (rT z5 [SV.dat (I6.pair (I6.pair (I6.pair ((Sh.arr 8 I6).pair kq7)))) (((0:Int),(0:Int),(0:Int),kq4,(0:Int),(0:Int),(0:Int),(0:Int),(0:Int),[],())),cI 1]) (br (!decide (su=1)) (rT z5 [SV.dat (I6.pair (I6.pair (I6.pair ((Sh.arr 8 I6).pair kq7)))) (((0:Int),(0:Int),(0:Int),kq4,(0:Int),(0:Int),(0:Int),(0:Int),(0:Int),[],())),cI 30]) (True∧br (!decide (aI r=r)) (rT z5 [SV.dat (I6.pair (I6.pair (I6.pair ((Sh.arr 8 I6).pair kq7)))) (((0:Int),(0:Int),(0:Int),kq4,(0:Int),(0:Int),(0:Int),(0:Int),(0:Int),[],())),cI 2]) ((0≤fn∧fn < (↑fs.length:Int)∧0≤pc)∧cZ IntKind.i64 (st+1)∧True∧br z29.snd ((0≤z29.fst∧z29.fst < 8)∧z29.fst.toNat < 8∧br z24 (z22∧(z30.fst=0∧bG ms fs bound z8∧List.length z8.snd.snd.snd.snd.snd.snd.snd.snd.snd.fst≤1000000∧z8.fst≤9223372036854775807∧List.length z8.snd.snd.snd.fst=8)∧rT z5 [SV.dat (I6.pair (I6.pair (I6.pair ((Sh.arr 8 I6).pair kq7)))) (eF fs bound 256 z8),cI 0]) (br z25 (br (decide (r=0)) z3 z1) (br z26 z1 (br z27 (he.length≤1000000∧cZ IntKind.i64 (pc+1)∧(z30.fst=0∧bG ms fs bound z6∧oO.length≤1000000∧id≤9223372036854775807∧z20.length=8)∧rT z5 [SV.dat (I6.pair (I6.pair (I6.pair ((Sh.arr 8 I6).pair kq7)))) (eF fs bound 256 z6),cI 0]) (br z28 (cZ IntKind.i64 (ch+1)∧cZ IntKind.i64 (pc+1)∧(z30.fst=0∧bG ms fs bound z12∧he.length≤1000000∧id≤9223372036854775807∧z20.length=8)∧rT z5 [SV.dat (I6.pair (I6.pair (I6.pair ((Sh.arr 8 I6).pair kq7)))) (eF fs bound 256 z12),cI 0]) z3))))) (br z24 (z22∧(z30.fst=0∧bG ms fs bound z11∧List.length z11.snd.snd.snd.snd.snd.snd.snd.snd.snd.fst≤1000000∧z11.fst≤9223372036854775807∧List.length z11.snd.snd.snd.fst=8)∧rT z5 [SV.dat (I6.pair (I6.pair (I6.pair ((Sh.arr 8 I6).pair kq7)))) (eF fs bound 256 z11),cI 0]) (br z25 (br (decide (r=0)) z4 z2) (br z26 z2 (br z27 (he.length≤1000000∧cZ IntKind.i64 (pc+1)∧(z30.fst=0∧bG ms fs bound z9∧oO.length≤1000000∧id≤9223372036854775807∧rg.length=8)∧rT z5 [SV.dat (I6.pair (I6.pair (I6.pair ((Sh.arr 8 I6).pair kq7)))) (eF fs bound 256 z9),cI 0]) (br z28 (cZ IntKind.i64 (ch+1)∧cZ IntKind.i64 (pc+1)∧(z30.fst=0∧bG ms fs bound CB∧he.length≤1000000∧id≤9223372036854775807∧rg.length=8)∧rT z5 [SV.dat (I6.pair (I6.pair (I6.pair ((Sh.arr 8 I6).pair kq7)))) (eF fs bound 256 CB),cI 0]) z4))))))))):=by
 conv=>zeta
 delta kq7 kq4 cI rT I6;obtain⟨hb,yE,hid,hrg⟩:bnd ((vs,ms,cs,fs,ts,()),())∧he.length≤1000000∧id≤9223372036854775807∧rg.length=8:=aA;refine⟨hb,ah.2 ⟨λh=>?_,λh=>?_⟩⟩
 ·have h:bM (aB vs ms cs fs ts).1 bound≠0:=by simpa using h
  have e:gY (aB vs ms cs fs ts).1 ms fs bound (id,fn,pc,rg,st,ch,ph,su,fa,he,()) r=(zT,bM (aB vs ms cs fs ts).1 bound):=by unfold gY;rw[if_pos h]
  rw[e];exact⟨rfl,rfl⟩
 have h:¬bM (aB vs ms cs fs ts).1 bound≠0:=by simpa using h
 have hs:=fM.1 (GU.1 h);refine⟨⟨hs.1,yE,hid,hrg⟩,ah.2 ⟨λh2=>?_,λh2=>?_⟩⟩
 ·have h2:¬qQ ms fs bound (id,fn,pc,rg,st,ch,ph,su,fa,he,()):=λq=>by rw[jE.2 q]at h2;cases h2
  have e:gY (aB vs ms cs fs ts).1 ms fs bound (id,fn,pc,rg,st,ch,ph,su,fa,he,()) r=(zT,1):=by unfold gY;rw[if_neg h,if_pos h2]
  rw[e];exact⟨rfl,rfl⟩
 have hV:qQ ms fs bound (id,fn,pc,rg,st,ch,ph,su,fa,he,()):=jE.1 (by simpa using h2)
 have h2:¬¬qQ ms fs bound (id,fn,pc,rg,st,ch,ph,su,fa,he,()):=λq=>q hV
 refine ah.2 ⟨λh3=>?_,λh3=>⟨trivial,ah.2 ⟨λh4=>?_,λh4=>?_⟩⟩⟩
 ·have h3:su≠1:=by simpa using h3
  have e:gY (aB vs ms cs fs ts).1 ms fs bound (id,fn,pc,rg,st,ch,ph,su,fa,he,()) r=(zT,30):=by unfold gY;rw[if_neg h,if_neg h2,if_pos h3]
  rw[e];exact⟨rfl,rfl⟩
 all_goals
  have h1:su=1:=by simpa using h3
  have h3:¬su≠1:=λq=>q h1
 ·have h4:bV r=false:=by rw[val_wrap];simpa using h4
  have e:gY (aB vs ms cs fs ts).1 ms fs bound (id,fn,pc,rg,st,ch,ph,su,fa,he,()) r=(zT,2):=by unfold gY;rw[if_neg h,if_neg h2,if_neg h3,if_pos h4]
  rw[e];exact⟨rfl,rfl⟩
 have hvr:bV r=true:=by rw[val_wrap];simpa using h4
 have h4:¬bV r=false:=by rw[hvr];simp
 obtain⟨f0,s0,i,ha,vi,oi⟩:=yB hV h1;have ha:lH fs fn pc=some i:=ha;have s0:st < bound:=s0;have hF:bG ms fs bound (id,fn,pc,rg,st,ch,ph,su,fa,he,()):=hV.1;have hfn:=hF.2.1;have hpc:=hF.2.2.1;have hst:=hF.2.2.2.2.1;have hch:=hF.2.2.2.2.2.1;have h64:=tN hs.1 hfn;have hci:=(mY (xk hs.1 hfn ha)).1;have hm4:=acF (nJ hs.1).1;have h4e:he.length≤4:=lW hF hm4;have leaf:∀t':TD,t'=jP (id,fn,pc,rg,st,ch,ph,su,fa,he,()) i r→(((aB vs ms cs fs ts).1=0∧bG ms fs bound t'∧t'.2.2.2.2.2.2.2.2.2.1.length≤1000000∧t'.1≤9223372036854775807∧t'.2.2.2.1.length=8)∧([]:List Go.aV.aj)=[] ∧
  aT.gX [SV.dat dQ (gY (aB vs ms cs fs ts).1 ms fs bound (id,fn,pc,rg,st,ch,ph,su,fa,he,()) r).1,SV.c (SC.v (Value.int .i64 (gY (aB vs ms cs fs ts).1 ms fs bound (id,fn,pc,rg,st,ch,ph,su,fa,he,()) r).2))]=aT.gX [SV.dat dQ (eF fs bound 256 t'),SV.c (SC.v (Value.int .i64 0))]):=by
  intro t' et;subst et;have hf:=yC hs.1 hV h1 ha hvr;have e:gY (aB vs ms cs fs ts).1 ms fs bound (id,fn,pc,rg,st,ch,ph,su,fa,he,()) r=(eF fs bound 256 (jP (id,fn,pc,rg,st,ch,ph,su,fa,he,()) i r),0):=by
   unfold gY;rw[if_neg h,if_neg h2,if_neg h3,if_neg h4];show(eF fs bound 256 (jP (id,fn,pc,rg,st,ch,ph,su,fa,he,()) (atR fs fn pc).1 r),(0:Int))=_;rw[show atR fs fn pc=(i,true) by unfold atR;rw[ha]]
  rw[e];exact⟨⟨hs.1,hf,vO (lW hf hm4) (by omega),I9 hf,(Lc _ _ _).trans hrg⟩,rfl,rfl⟩
 rw[show atR fs fn pc=(i,true) by unfold atR;rw[ha]]
 dsimp only;have e9:he.length≤999999:=by omega
 have ep:cZ .i64 (pc+1):=au.2 (by omega)
 have ec:cZ .i64 (ch+1):=au.2 (by omega)
 refine⟨⟨hfn.1,hfn.2,hpc.1⟩,au.2 (by omega),trivial,ah.2 ⟨λhd=>?_,λhd=>?_⟩⟩
 ·have hr:=OO hci hd;refine⟨hr,by omega,?_⟩
  refine aJ.2 ⟨λq=>⟨⟨e9,hpc.1,show pc≤1000000 by omega⟩,leaf _ (by simp only[uz,jP,if_pos q,if_pos hd])⟩,λn18=>aJ.2 ⟨λn17=>aJ.2 ⟨λq=>⟨ep,leaf _ (by simp[jP,n17,hd,q])⟩,λq=>⟨e9,ep,leaf _ (by simp[jP,n17,hd,q,uK])⟩⟩,
   λn17=>aJ.2 ⟨λq=>⟨e9,ep,leaf _ (by simp[jP,q,hd,uK])⟩,λn15=>aJ.2 ⟨λq=>⟨yE,ep,leaf _ (by simp[jP,q,hd,yx])⟩,λn16=>aJ.2 ⟨λq=>⟨ec,ep,leaf _ (by simp[jP,q,hd])⟩,λn21=>⟨ep,leaf _ (by simp[jP,n18,n17,n15,n16,n21,hd])⟩⟩⟩⟩⟩⟩
 ·refine aJ.2 ⟨λq=>⟨⟨e9,hpc.1,show pc≤1000000 by omega⟩,leaf _ (by simp only[uz,jP,if_pos q,hd];simp)⟩,λn18=>aJ.2 ⟨λn17=>aJ.2 ⟨λq=>⟨ep,leaf _ (by simp[jP,n17,hd,q])⟩,λq=>⟨e9,ep,leaf _ (by simp[jP,n17,hd,q,uK])⟩⟩,
   λn17=>aJ.2 ⟨λq=>⟨e9,ep,leaf _ (by simp[jP,q,hd,uK])⟩,λn15=>aJ.2 ⟨λq=>⟨yE,ep,leaf _ (by simp[jP,q,hd,yx])⟩,λn16=>aJ.2 ⟨λq=>⟨ec,ep,leaf _ (by simp[jP,q,hd])⟩,λn21=>⟨ep,leaf _ (by simp[jP,n18,n17,n15,n16,n21,hd])⟩⟩⟩⟩⟩⟩
theorem ahO:Go.aV.Met Tryz.prog aK.gd 51 acI:=
 bW (cx:=aK) (n:=103) (cl:=[(75,uy),(108,La),(77,Gi),(95,RJ),(109,akq),(78,UU),(110,acG),(111,Ot),(112,OD)]) (rc:=[.data dQ,.keep]) ay ⟨KZ,OI,DJ,Ad,acs,UW,acH,FX,Gm,trivial⟩ Tryz.func51 λd hd=>by
  obtain⟨⟨vs,ms,cs,fs,ts,⟨⟩⟩,bound,⟨id,fn,pc,rg,st,ch,ph,su,fa,he,⟨⟩⟩,r,⟨⟩⟩:=d;exact aH (λ_=>none) (anE vs ms cs fs ts bound id fn pc rg st ch ph su fa he r hd) (by kernel_rfl)
open Classical in
def CG(a b:TD):Bool:=decide (a=b)
open Classical in
theorem wK{a b:TD}:CG a b=true↔a=b:=by
 unfold CG;rw[Yd]
abbrev RN:CT:={ ps:=[dQ,dQ],pre:=λd=>d.1.2.2.2.2.2.2.2.2.2.1.length≤1000000,res:=λd=>([],vB (CG d.1 d.2.1)) }
@[reducible] def ari (id fn pc:Int) (rg:List Int) (st ch ph su fa:Int) (he:List Int) (id2 PO pc2:Int) (PS:List Int) (st2 Md Ld Le fa2:Int) (he2:List Int):Nat→Option (St→iC):=λk=>match k with
  | 4=>some λ_=>.inv { α:=Nat,slots:=λk=>[(5,.c (.v (.int .i64 k)))],res:=λ_=>[],inv:=λk=>k≤he.length∧∀j < k,he[j]?=he2[j]?,meas:=λk=>he.length - k }
  | _=>none
theorem anF(id fn pc:Int) (rg:List Int) (st ch ph su fa:Int) (he:List Int) (id2 PO pc2:Int) (PS:List Int) (st2 Md Ld Le fa2:Int) (he2:List Int) (aA:RN.pre ((id,fn,pc,rg,st,ch,ph,su,fa,he,()),(id2,PO,pc2,PS,st2,Md,Ld,Le,fa2,he2,()),())):
 let z6:=(id,fn,pc,rg,st,ch,ph,su,fa,he,());let z5:=(id2,PO,pc2,PS,st2,Md,Ld,Le,fa2,he2,());let z3:=CG z6 z5;let z2:=qB z3 false;let z4:=λ(x:Nat)=>(x≤he.length∧∀(j:Nat),j < x→he[j]?=he2[j]?);let z1:=[g0 (aj.obj 56 (I6.pair (I6.pair (I6.pair ((Sh.arr 8 I6).pair kq7)))) z6),g0 (aj.obj 56 (I6.pair (I6.pair (I6.pair ((Sh.arr 8 I6).pair kq7)))) z5)];br (!decide ((↑he.length:Int)=(↑he2.length:Int))) z2 ((∃x,(z4 x)∧(cI 0=cI (↑x:Int)∧True)∧sm z1)∧∀(x:Nat),(z4 x)→br (decide ((↑x:Int) < (↑he.length:Int))) ((0≤(↑x:Int)∧(↑x:Int) < (↑he.length:Int))∧∀(d:Int),he[(↑x:Int).toNat]?=some d→(0≤(↑x:Int)∧(↑x:Int) < (↑he2.length:Int))∧∀(dH:Int),he2[(↑x:Int).toNat]?=some dH→br (!decide (d=dH)) z2 (cZ IntKind.i64 ((↑x:Int)+(1:Int))∧∃x',(z4 x')∧(cI ((↑x:Int)+(1:Int))=cI (↑x':Int)∧True)∧sm z1∧he.length - x' < he.length - x)) (br (!decide (id=id2) || !decide (fn=PO) || !decide (pc=pc2) || !decide (rg=PS) || !decide (st=st2)) z2 (qB z3 (decide (ch=Md) && decide (ph=Ld) && decide (su=Le) && decide (fa=fa2))))):=by
 conv=>zeta
 delta kq7 cI g0 qB sm I6;have hp:he.length≤1000000:=aA;have sF:¬(id,fn,pc,rg,st,ch,ph,su,fa,he,())=(id2,PO,pc2,PS,st2,Md,Ld,Le,fa2,he2,())→([]:List Go.aV.aj)=[]∧aT.one (SV.c (SC.v (Value.bool (CG (id,fn,pc,rg,st,ch,ph,su,fa,he,()) (id2,PO,pc2,PS,st2,Md,Ld,Le,fa2,he2,())))))=aT.one (SV.c (SC.v (Value.bool false))):=λq=>⟨rfl,by rw[show CG (id,fn,pc,rg,st,ch,ph,su,fa,he,()) (id2,PO,pc2,PS,st2,Md,Ld,Le,fa2,he2,())=false from G7.2 λh=>q (wK.1 h)]⟩
 refine ah.2 ⟨λh=>sF λq=>?_,λh=>?_⟩
 ·have:=Ec (λt:TD=>t.2.2.2.2.2.2.2.2.2.1.length) q
  simp at h;simp at this;omega
 have h:he.length=he2.length:=by simp at h;omega
 refine⟨⟨0,⟨by omega,λj hj=>by omega⟩,⟨rfl,trivial⟩,rfl⟩,λk hk=>ah.2 ⟨λh2=>?_,λh2=>?_⟩⟩
 ·simp only[dG]at h2;refine⟨by omega,λd hd=>⟨by omega,λd1 hd1=>ah.2 ⟨λh3=>sF λq=>?_,λh3=>⟨au.2 (by omega),k+1,⟨by omega,λj hj=>?_⟩,⟨rfl,trivial⟩,rfl,by omega⟩⟩⟩⟩
  ·have:he=he2:=Ec (λt:TD=>t.2.2.2.2.2.2.2.2.2.1) q
   rw[this,hd1]at hd;cases hd;simp at h3
  ·have h3:d=d1:=by simpa using h3
   by_cases gq:j=k
   ·subst gq;have a:he[j]?=some d:=hd;have b:he2[j]?=some d1:=hd1;rw[a,b,h3]
   ·exact hk.2 j (by omega)
 simp only[dh]at h2;have hh:he=he2:=yJ λj=>by
  by_cases hj:j < k
  ·exact hk.2 j hj
  ·rw[qJ (by omega),qJ (by omega)]
 subst hh;refine ah.2 ⟨λh3=>sF λq=>?_,λh3=>⟨rfl,?_⟩⟩
 ·simp only[A91]at q;obtain⟨q1,q2,q3,q4,q5,_⟩:=q;subst q1;subst q2;subst q3;subst q4;subst q5;simp at h3
 ·simp only[qH,yI,dG]at h3;obtain⟨⟨⟨⟨e1,e2⟩,e3⟩,e4⟩,e5⟩:=h3;subst e1;subst e2;subst e3;subst e4;subst e5;have:CG (id,fn,pc,rg,st,ch,ph,su,fa,he,()) (id,fn,pc,rg,st,Md,Ld,Le,fa2,he,())=(decide (ch=Md) && decide (ph=Ld) && decide (su=Le) && decide (fa=fa2)):=by
   rw[Ee,wK];simp[and_assoc]
  rw[this]
theorem ahP:Go.aV.Met Tryz.prog aK.gd 38 RN:=
 bW (cx:=aK) (n:=90) (cl:=[]) (rc:=[]) ay trivial Tryz.func38 λd hd=>by
  obtain⟨⟨id,fn,pc,rg,st,ch,ph,su,fa,he,⟨⟩⟩,⟨id2,PO,pc2,PS,st2,Md,Ld,Le,fa2,he2,⟨⟩⟩,⟨⟩⟩:=d;exact aH (ari id fn pc rg st ch ph su fa he id2 PO pc2 PS st2 Md Ld Le fa2 he2) (anF id fn pc rg st ch ph su fa he id2 PO pc2 PS st2 Md Ld Le fa2 he2 hd) (by kernel_rfl)
theorem Gp{id ch:Int} (h:(dB id ch).2=true):(dB id ch).1=8 * (id+1)+ch∧(0≤ch∧ch < 7)∧UF (dB id ch).1=(id,true)∧iI (dB id ch).1=iI id+1∧8≤(dB id ch).1∧iI (dB id ch).1≤4∧(dB id ch).1≤1000000∧(0≤iI id∧iI id≤4):=by
 unfold dB at h ⊢
 split at h
 ·cases h
 rename_i q;rw[if_neg q];have q1:0≤aU id:=by omega
 have q2:aU id≠4:=by omega
 obtain⟨e1,e2⟩:=Cm q1 q2 (ch:=ch) (by omega) (by omega)
 have hl:=mQ q1;have hr:=Gh id;refine⟨rfl,by omega,?_,?_,by simp only;omega,?_,by simp only;omega,?_⟩
 ·unfold UF;rw[if_neg (by rw[e1];omega),e2]
 ·unfold iI;rw[e1,if_neg (by omega),if_neg (by omega)]
 ·unfold iI;rw[e1,if_neg (by omega)];omega
 ·unfold iI;rw[if_neg (by omega)];omega
theorem top_len{fs:List FD}{bound:Int}{t:TD}{rest:ID→TD} (hr:∀i,(rest i).2.2.2.1.length=t.2.2.2.1.length):(topS fs bound t rest).2.2.2.1.length=t.2.2.2.1.length:=by
 obtain⟨id,fn,pc,rg,st,ch,ph,su,fa,hd,u⟩:=t;unfold topS;simp only;split
 ·rfl
 split
 ·repeat' split
  all_goals rfl
 ·exact hr _
theorem U3(fs:List FD) (bound:Int):∀(k:Nat) (t:TD),(eF fs bound k t).2.2.2.1.length=t.2.2.2.1.length:=by
 intro k
 induction k with
 | zero=>
   intro t;rw[eF];exact top_len λi=>rfl
 | succ k ih=>
   intro t;rw[eF];refine top_len λi=>?_
   split
   ·exact(ih _).trans (DK t i)
   ·exact DK t i
theorem acJ{vs:List VD}{ms cs:List ByteArray}{fs:List FD}{ts:List SD}{bound id fn r:Int} (h:(newS (aB vs ms cs fs ts).1 fs bound id fn r).2=0):bM (aB vs ms cs fs ts).1 bound=0∧qQ ms fs bound (newS (aB vs ms cs fs ts).1 fs bound id fn r).1∧(newS (aB vs ms cs fs ts).1 fs bound id fn r).1.2.2.2.1.length=8:=by
 unfold newS at h ⊢
 split at h
 ·rename_i q;exact absurd h q
 split at h
 ·cases h
 split at h
 ·cases h
 split at h
 ·cases h
 rename_i q1 q2 q3 q4;rw[if_neg q1,if_neg q2,if_neg q3,if_neg q4];have hs:=fM.1 (GU.1 q1);exact⟨GU.1 q1,UJ hs.1 hs.2.1 _ _ (yD ms hs.2.1 q2 q3 q4) rfl rfl,U3 _ _ _ _⟩
theorem anG{vs:List VD}{ms cs:List ByteArray}{fs:List FD}{ts:List SD}{bound r:Int}{t:TD} (hl:t.2.2.2.1.length=8) (h:(gY (aB vs ms cs fs ts).1 ms fs bound t r).2=0):bM (aB vs ms cs fs ts).1 bound=0∧qQ ms fs bound (gY (aB vs ms cs fs ts).1 ms fs bound t r).1∧(gY (aB vs ms cs fs ts).1 ms fs bound t r).1.2.2.2.1.length=8 ∧
 (gY (aB vs ms cs fs ts).1 ms fs bound t r).1.2.2.2.2.1=t.2.2.2.2.1+1∧(gY (aB vs ms cs fs ts).1 ms fs bound t r).1.1=t.1∧(gY (aB vs ms cs fs ts).1 ms fs bound t r).1.2.1=t.2.1∧(0≤t.2.2.2.2.1∧t.2.2.2.2.1 < 32):=by
 unfold gY at h ⊢
 split at h
 ·rename_i q;exact absurd h q
 split at h
 ·cases h
 split at h
 ·cases h
 split at h
 ·cases h
 rename_i q1 q2 q3 q4;rw[if_neg q1,if_neg q2,if_neg q3,if_neg q4];have hs:=fM.1 (GU.1 q1);have hV:=GU.1 q2;have h1:t.2.2.2.2.2.2.2.1=1:=GU.1 q3;have hv:bV r=true:=by simpa using q4
 obtain⟨f0,s0,i,ha,vi,oi⟩:=yB hV h1;have ea:(atR fs t.2.1 t.2.2.1).1=i:=by unfold atR;rw[ha]
 rw[ea];have hf:=yC hs.1 hV h1 ha hv;have hk:=aco t i r;have hk2:=OA fs bound 256 (jP t i r);refine⟨GU.1 q1,UJ hs.1 hs.2.1 _ _ hf (hk.2.2.2.1.trans h1) (hk.2.2.2.2.trans f0),((U3 _ _ _ _).trans (Lc _ _ _)).trans hl,hk2.2.2.1.trans hk.2.2.1,hk2.1.trans hk.1,hk2.2.1.trans hk.2.1,?_⟩;obtain⟨id,fn,pc,rg,st,ch,ph,su,fa,he,u⟩:=t;have:=hV.1.2.2.2.2.1;have s0:st < bound:=s0;show 0≤st∧st < 32;have:0≤st∧st≤bound:=this;omega
theorem pO{ms:List ByteArray}{fs:List FD}{bound:Int}{t:TD} (h:qQ ms fs bound t):bG ms fs bound t:=by
 obtain⟨id,fn,pc,rg,st,ch,ph,su,fa,he,u⟩:=t;exact h.1
theorem BG{ms:List ByteArray}{fs:List FD}{bound:Int}{t:TD} (h:bG ms fs bound t):(0≤t.2.1∧t.2.1 < (fs.length:Int))∧0≤t.2.2.1:=by
 obtain⟨id,fn,pc,rg,st,ch,ph,su,fa,he,u⟩:=t;exact⟨h.2.1,h.2.2.1.1⟩
theorem OU{vs:List VD}{ms cs:List ByteArray}{fs:List FD}{ts:List SD}{bound:Int}{t:TD} (hs:bM (aB vs ms cs fs ts).1 bound=0) (h:qQ ms fs bound t):t.2.2.2.2.2.2.2.2.2.1.length≤1000000∧t.1≤9223372036854775807:=by
 have hf:bG ms fs bound t:=by
  obtain⟨id,fn,pc,rg,st,ch,ph,su,fa,he,u⟩:=t;exact h.1
 exact⟨vO (lW hf (acF (nJ (fM.1 hs).1).1)) (by omega),I9 hf⟩
end
end Go.Proofs.YtjhenjhcbcalpaaGreatDoor
