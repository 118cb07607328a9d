/- Texts of this claim, part 10: M1, M2, M2D, M3, M4, M5. Conditions: those of the given rows. -/
import Derived.Test.YtjhenjhcbcalpaaGreatDoorB9
set_option linter.unusedSimpArgs false
set_option linter.unusedVariables false
set_option maxRecDepth 1000000
set_option maxHeartbeats 8000000
namespace Go.Proofs.YtjhenjhcbcalpaaGreatDoor
open Go Go.aV
noncomputable section
abbrev pY:Sh:=.pair (.sl (.int .i64)) (.pair (.sl (.int .i64)) (.pair (.sl (.sl (.int .i64))) (.pair (.sl (.int .i64)) .unit)))
abbrev MD:=List Int×List Int×List (List Int)×List Int×Unit
def Jb:MD→Prop
 | (vs,os,qs,sg,_)=>vs.length≤8∧os.length≤4∧qs.length≤4∧SS sg∧(∀v∈vs,bV v=true)∧(∀o∈os,-1≤o)∧(∀x∈sg++qs.flatten,0≤x)∧(sg++qs.flatten).Nodup
open Classical in
def dI(m:MD):Bool:=decide (Jb m)
open Classical in
theorem eY{m:MD}:dI m=true↔Jb m:=by unfold dI;rw[Yd]
theorem CJ{m:MD} (h:¬Jb m):dI m=false:=G7.2 λq=>h (eY.1 q)
def aZ(m:MD):Prop:=m.1.length≤1000∧m.2.1.length≤1000∧m.2.2.1.length≤1000∧m.2.2.2.1.length≤1000∧(∀q∈m.2.2.1,q.length≤1000)∧m.2.2.1.flatten.length≤100000
theorem lX{n:Int}:bV n=true↔-2147483648≤n∧n≤2147483647:=by
 unfold bV;simp
theorem tV{l:List Int}:kN l=true↔SS l:=by unfold kN;rw[Yd]
theorem Jc(qs:List (List Int)) (k:Nat):(qs.take k).flatten.length≤qs.flatten.length:=by
 have:qs.flatten=(qs.take k).flatten++(qs.drop k).flatten:=by rw[←List.flatten_append,Ef]
 rw[this,kD];omega
theorem Jd{qs:List (List Int)}{k:Nat}{d:List Int} (h:qs[k]?=some d):(qs.take (k+1)).flatten=(qs.take k).flatten++d:=by
 rw[Jt,h];simp
theorem ac5{l:List Int} (h:l.Nodup){k:Nat}{d:Int} (hd:l[k]?=some d):d∉l.take k:=by
 intro hm;obtain⟨j,hj⟩:=wQ hm;rw[uD]at hj;split at hj
 ·rename_i gq;obtain⟨h1,e1⟩:=eU.1 hj;obtain⟨h2,e2⟩:=eU.1 hd;have:=VX.1 h j k h1 h2 gq;exact this (e1.trans e2.symm)
 ·cases hj
theorem Sr{l:List Int}{k:Nat} (h:(l.take k).Nodup){d:Int} (hd:l[k]?=some d) (hn:d∉l.take k):(l.take (k+1)).Nodup:=by
 rw[Jt,hd,Yq,List.nodup_append];refine⟨h,by simp,λa ha b hb=>?_⟩
 simp at hb;subst hb;rintro rfl;exact hn ha
theorem Af:∀(l o:List Int),(l.foldl (λo x=>if dM o x then o else wO o x) o).length≤o.length+l.length
 | [],o=>by simp
 | x :: l,o=>by
   simp only[VP,yK];split
   ·have:=Af l o;omega
   ·have:=Af l (wO o x);rw[FU]at this;omega
abbrev Jf:CT:={ ps:=[.sl (.int .i64)],pre:=λd=>d.1.length≤1000000,res:=λd=>([.row 3 (.int .i64) (d.1)],.one (.c (.row 0))) }
theorem aie(l:List Int) (aA:Jf.pre (l,())):
 let z1:=List.replicate (↑l.length:Int).toNat (0:Int);((0:Int)≤(↑l.length:Int)∧(↑l.length:Int)≤(↑l.length:Int)∧jS (↑l.length:Int).toNat (8:Nat))∧[aj.row (3:TypeId) abA l]=[aj.row (3:TypeId) abA (List.take (List.length z1) (l)++List.drop (List.length (l)) z1)]∧aT.one aec=aT.one aec:=by
 conv=>zeta
 delta abA aec;have hp:l.length≤1000000:=aA;refine⟨⟨by omega,by omega,bI.2 (by omega)⟩,?_,rfl⟩
 simp
theorem Ag:Go.aV.Met Tryz.prog aK.gd 107 Jf:=
 bW (cx:=aK) (n:=11) (cl:=[]) (rc:=[]) ay trivial Tryz.func107 λd hd=>by
  obtain⟨l,⟨⟩⟩:=d;exact aH (λ_=>none) (aie l hd) (by kernel_rfl)
abbrev ac6:CT:={ ps:=[pY],pre:=λd=>aZ d.1,res:=λd=>([],vB (dI d.1)) }
@[reducible] def anX (vs os:List Int) (qs:List (List Int)) (sg:List Int):Nat→Option (St→iC):=λk=>match k with
  | 4=>some λ_=>.inv { α:=Nat,slots:=λk=>[(37,.c (.v (.int .i64 k)))],res:=λ_=>[],inv:=λk=>k≤vs.length∧∀j < k,∀v,vs[j]?=some v→bV v=true,meas:=λk=>vs.length - k }
  | 10=>some λ_=>.inv { α:=Nat,slots:=λk=>[(51,.c (.v (.int .i64 k)))],res:=λ_=>[],inv:=λk=>k≤os.length∧∀j < k,∀v,os[j]?=some v→-1≤v,meas:=λk=>os.length - k }
  | 17=>some λ_=>.inv { α:=Nat,drop:=[60],slots:=λk=>[(64,.c (.v (.int .i64 k))),(7,.c (.row 1))],res:=λk=>[(1,.row 3 (.int .i64) (sg++(qs.take k).flatten))],inv:=λk=>k≤qs.length,meas:=λk=>qs.length - k }
  | 22=>some λ_=>.inv { α:=Nat,uH:=[1],slots:=λk=>[(74,.c (.v (.int .i64 k)))],res:=λ_=>[],inv:=λk=>k≤(sg++qs.flatten).length∧(∀j < k,∀v,(sg++qs.flatten)[j]?=some v→0≤v)∧((sg++qs.flatten).take k).Nodup,meas:=λk=>(sg++qs.flatten).length - k }
  | _=>none
theorem aii(vs os:List Int) (qs:List (List Int)) (sg:List Int) (aA:ac6.pre ((vs,os,qs,sg,()),())):
 let z13:=dI (vs,os,qs,sg,());let z10:=qB z13 false;let z3:=λ(x:Nat)=>(x≤vs.length∧∀(j:Nat),j < x→∀(v:Int),vs[j]?=some v→bV v=true);let z12:=λ(x:Nat)=>cI 0=cI (↑x:Int)∧True;let z8:=[SC.sl I6 vs,SC.sl I6 os,SC.sl I6.sl qs,SC.sl I6 sg];let z7:=[g0 (aj.blk 34 z8)];let oh:=λ(x:Nat)=>(↑x:Int)+(1:Int);let z9:=λ(x x':Nat)=>cI (oh x)=cI (↑x':Int)∧True;let z5:=λ(x:Nat)=>(x≤os.length∧∀(j:Nat),j < x→∀(v:Int),os[j]?=some v→(-1)≤v);let z11:=λ(x:Nat)=>sg++(List.take x qs).flatten;let z2:=λ(x:Nat)=>[g0 (aj.blk 34 z8),g0 (aj.row 3 I6 (z11 x))];let oO:=sg++qs.flatten;let z6:=λ(x_1:Nat)=>(∀(j:Nat),j < x_1→∀(v:Int),oO[j]?=some v→0≤v);let z1:=λ(x:Nat)=>x≤oO.length∧(z6 x)∧(List.take x oO).Nodup;let z4:=[g0 (aj.blk 34 z8),g0 aj.gone];((!(decide (8 < (↑vs.length:Int)) || decide (4 < (↑os.length:Int)) || decide (4 < (↑qs.length:Int))))=true→sg.length≤1000000)∧br (decide (8 < (↑vs.length:Int)) || decide (4 < (↑os.length:Int)) || decide (4 < (↑qs.length:Int)) || !kN sg) z10 ((∃x,(z3 x)∧(z12 x)∧sm z7)∧∀(x:Nat),(z3 x)→br (decide ((↑x:Int) < (↑vs.length:Int))) ((0≤(↑x:Int)∧(↑x:Int) < (↑vs.length:Int))∧∀(d:Int),vs[(↑x:Int).toNat]?=some d→br (decide (d < (-2147483648)) || decide (2147483647 < d)) z10 (cZ IntKind.i64 (oh x)∧∃x',(z3 x')∧(z9 x x')∧sm z7∧vs.length - x' < vs.length - x)) ((∃x,(z5 x)∧(z12 x)∧sm z7)∧∀(x:Nat),(z5 x)→br (decide ((↑x:Int) < (↑os.length:Int))) ((0≤(↑x:Int)∧(↑x:Int) < (↑os.length:Int))∧∀(d:Int),os[(↑x:Int).toNat]?=some d→br (decide (d < (-1))) z10 (cZ IntKind.i64 (oh x)∧∃x',(z5 x')∧(z9 x x')∧sm z7∧os.length - x' < os.length - x)) (sg.length≤1000000∧(∃x,x≤qs.length∧(cI 0=cI (↑x:Int)∧SV.c (SC.row 1)=SV.c (SC.row 1)∧True)∧[g0 (aj.blk 34 z8),g0 (aj.row 3 I6 sg)]=(z2 x))∧∀(x:Nat),x≤qs.length→br (decide ((↑x:Int) < (↑qs.length:Int))) ((0≤(↑x:Int)∧(↑x:Int) < (↑qs.length:Int))∧∀(d:List Int),qs[(↑x:Int).toNat]?=some d→jS (List.length ((z11 x))+List.length (d)) 8∧cZ IntKind.i64 (oh x)∧∃x',x'≤qs.length∧(cI (oh x)=cI (↑x':Int)∧SV.c (SC.row 1)=SV.c (SC.row 1)∧True)∧[g0 (aj.blk 34 z8),g0 (aj.row 3 I6 ((z11 x)++d))]=(z2 x')∧qs.length - x' < qs.length - x) ((∃x,(z1 x)∧(z12 x)∧sm z4)∧∀(x_1:Nat),x_1≤oO.length∧(z6 x_1)∧(List.take x_1 oO).Nodup→br (decide ((↑x_1:Int) < (↑(z11 x).length:Int))) ((0≤(↑x_1:Int)∧(↑x_1:Int) < (↑(z11 x).length:Int))∧∀(d:Int),(z11 x)[(↑x_1:Int).toNat]?=some d→((!decide (d < 0))=true→(0:Int)≤(0:Int)∧0≤(↑x_1:Int)∧(↑x_1:Int)≤(↑(z11 x).length:Int))∧((!decide (d < 0))=true→(List.drop 0 (List.take (↑x_1:Int).toNat (z11 x))).length≤4611686018427387904)∧br (decide (d < 0) || dM (List.drop 0 (List.take (↑x_1:Int).toNat (z11 x))) d) z10 (cZ IntKind.i64 (oh x_1)∧∃x',(z1 x')∧(z9 x_1 x')∧sm z4∧oO.length - x' < oO.length - x_1)) (qB z13 true))))):=by
 conv=>zeta
 delta cI g0 qB sm I6;obtain⟨b1,b2,b3,b4,b5,b6⟩:vs.length≤1000∧os.length≤1000∧qs.length≤1000∧sg.length≤1000∧(∀q∈qs,q.length≤1000)∧qs.flatten.length≤100000:=aA;have fF:¬Jb (vs,os,qs,sg,())→([]:List Go.aV.aj)=[]∧aT.one (SV.c (SC.v (Value.bool (dI (vs,os,qs,sg,())))))=aT.one (SV.c (SC.v (Value.bool false))):=λq=>⟨rfl,by rw[CJ q]⟩
 refine⟨λ_=>by omega,ah.2 ⟨λh=>fF λq=>?_,λh=>?_⟩⟩
 ·obtain⟨q1,q2,q3,q4,_⟩:=q;rw[tV.2 q4]at h;simp at h;omega
 simp only[qH,yI,dh]at h;obtain⟨⟨⟨h1,h2⟩,h3⟩,h4⟩:=h;have h4:SS sg:=tV.1 h4;refine⟨⟨0,⟨by omega,λj hj=>by omega⟩,⟨rfl,trivial⟩,rfl⟩,λk hk=>ah.2 ⟨λg=>?_,λg=>?_⟩⟩
 ·simp only[dG]at g;refine⟨⟨by omega,by omega⟩,λd hd=>ah.2 ⟨λg2=>fF λq=>?_,λg2=>⟨au.2 (by omega),k+1,⟨by omega,λj hj v hv=>?_⟩,⟨rfl,trivial⟩,rfl,by omega⟩⟩⟩
  ·have:=lX.1 (q.2.2.2.2.1 d (iF hd));simp at g2;omega
  ·by_cases gq:j=k
   ·subst gq;have hd:vs[j]?=some d:=hd;rw[hd]at hv;cases hv;rw[lX];simp at g2;omega
   ·exact hk.2 j (by omega) v hv
 simp only[dh]at g;have v1:∀v∈vs,bV v=true:=λv hv=>by
  obtain⟨j,hj⟩:=wQ hv;exact hk.2 j (by have:=(eU.1 hj).1;omega) v hj
 refine⟨⟨0,⟨by omega,λj hj=>by omega⟩,⟨rfl,trivial⟩,rfl⟩,λk2 hk2=>ah.2 ⟨λg=>?_,λg=>?_⟩⟩
 ·simp only[dG]at g;refine⟨⟨by omega,by omega⟩,λd hd=>ah.2 ⟨λg2=>fF λq=>?_,λg2=>⟨au.2 (by omega),k2+1,⟨by omega,λj hj v hv=>?_⟩,⟨rfl,trivial⟩,rfl,by omega⟩⟩⟩
  ·have:=q.2.2.2.2.2.1 d (iF hd);simp at g2;omega
  ·by_cases gq:j=k2
   ·subst gq;have hd:os[j]?=some d:=hd;rw[hd]at hv;cases hv;simp at g2;omega
   ·exact hk2.2 j (by omega) v hv
 simp only[dh]at g;have v2:∀v∈os,-1≤v:=λv hv=>by
  obtain⟨j,hj⟩:=wQ hv;exact hk2.2 j (by have:=(eU.1 hj).1;omega) v hj
 refine⟨by omega,⟨0,by omega,⟨rfl,rfl,trivial⟩,by simp⟩,λk3 hk3=>ah.2 ⟨λg=>?_,λg=>?_⟩⟩
 ·simp only[dG]at g;refine⟨⟨by omega,by omega⟩,λd hd=>⟨bI.2 ?_,au.2 (by omega),k3+1,by omega,⟨rfl,rfl,trivial⟩,?_,by omega⟩⟩
  ·have:=Jc qs k3;have:=b5 d (iF hd);rw[kD];omega
  ·have hd:qs[k3]?=some d:=hd;rw[Jd hd,uO]
 simp only[dh]at g;have ek:qs.take k3=qs:=tZ (by omega)
 rw[ek];have bl:(sg++qs.flatten).length≤101000:=by rw[kD];omega
 refine⟨⟨0,⟨by omega,λj hj=>by omega,by simp⟩,⟨rfl,trivial⟩,rfl⟩,λk4 hk4=>ah.2 ⟨λg=>?_,λg=>?_⟩⟩
 ·simp only[dG]at g;refine⟨⟨by omega,by omega⟩,λd hd=>⟨λ_=>⟨by omega,by omega,by omega⟩,λ_=>by simp only[X7,ku];omega,ah.2 ⟨λg2=>fF λq=>?_,λg2=>⟨au.2 (by omega),k4+1,⟨by omega,λj hj v hv=>?_,?_⟩,⟨rfl,trivial⟩,rfl,by omega⟩⟩⟩⟩
  ·have hd:(sg++qs.flatten)[k4]?=some d:=hd;have n0:=q.2.2.2.2.2.2.1 d (iF hd);have n1:=ac5 q.2.2.2.2.2.2.2 hd;have n2:dM ((sg++qs.flatten).take k4) d=false:=pI.2 n1;rw[X7,show((k4:Int)).toNat=k4 from rfl,n2]at g2
   simp at g2;omega
  all_goals
   rw[X7,show((k4:Int)).toNat=k4 from rfl,qH,dh]at g2
   have hd:(sg++qs.flatten)[k4]?=some d:=hd
  ·by_cases gq:j=k4
   ·subst gq;rw[hd]at hv;cases hv;omega
   ·exact hk4.2.1 j (by omega) v hv
  ·exact Sr hk4.2.2 hd (pI.1 g2.2)
 simp only[dh]at g;refine⟨rfl,?_⟩;rw[eY.2];refine⟨by omega,by omega,by omega,h4,v1,v2,λx hx=>?_,?_⟩
 ·obtain⟨j,hj⟩:=wQ hx;exact hk4.2.1 j (by have:=(eU.1 hj).1;omega) x hj
 ·have:=hk4.2.2
  rwa [tZ (by omega)]at this
theorem Gw:Go.aV.Met Tryz.prog aK.gd 157 ac6:=
 bW (cx:=aK) (n:=89) (cl:=[(107,Jf),(192,ctV),(98,FW)]) (rc:=[]) ay ⟨Ag,OC,zN,trivial⟩ Tryz.func157 λd hd=>by
  obtain⟨⟨vs,os,qs,sg,⟨⟩⟩,⟨⟩⟩:=d;exact aH (anX vs os qs sg) (aii vs os qs sg hd) (by kernel_rfl)
abbrev pR:CT:={ ps:=[.sl (.int .i64),.sl (.int .i64)],pre:=λd=>d.1.length≤1000000,res:=λd=>([],vB (decide (d.1=d.2.1))) }
@[reducible] def arq (l m:List Int):Nat→Option (St→iC):=λk=>match k with
  | 4=>some λ_=>.inv { α:=Nat,slots:=λk=>[(5,.c (.v (.int .i64 k)))],res:=λk=>[],inv:=λk=>k≤(l).length∧∀j < k,l[j]?=m[j]?,meas:=λk=>(l).length - k }
  | _=>none
theorem anZ(l m:List Int) (aA:pR.pre (l,m,())):
 let z2:=qB (decide (l=m)) false;let z1:=λ(x:Nat)=>(x≤l.length∧∀(j:Nat),j < x→l[j]?=m[j]?);br (!decide ((↑l.length:Int)=(↑m.length:Int))) z2 ((∃x,(z1 x)∧(cI 0=cI (↑x:Int)∧True)∧([]:List aal)=[])∧∀(x:Nat),(z1 x)→br (decide ((↑x:Int) < (↑l.length:Int))) ((0≤(↑x:Int)∧(↑x:Int) < (↑l.length:Int))∧∀(d:Int),l[(↑x:Int).toNat]?=some d→(0≤(↑x:Int)∧(↑x:Int) < (↑m.length:Int))∧∀(dH:Int),m[(↑x:Int).toNat]?=some dH→br (!decide (d=dH)) z2 (cZ IntKind.i64 ((↑x:Int)+(1:Int))∧∃x',(z1 x')∧(cI ((↑x:Int)+(1:Int))=cI (↑x':Int)∧True)∧([]:List aal)=[]∧l.length - x' < l.length - x)) (qB (decide (l=m)) true)):=by
 conv=>zeta
 delta aal cI qB;have hp:l.length≤1000000:=aA;have fF:l≠m→([]:List Go.aV.aj)=[]∧aT.one (SV.c (SC.v (Value.bool (decide (l=m)))))=aT.one (SV.c (SC.v (Value.bool false))):=λq=>⟨rfl,by rw[Ed q]⟩
 refine ah.2 ⟨λh=>fF λq=>?_,λh=>?_⟩
 ·subst q;simp at h
 simp only[yI,dG]at h;refine⟨⟨0,⟨by omega,λj hj=>by omega⟩,⟨rfl,trivial⟩,rfl⟩,λk hk=>ah.2 ⟨λg=>?_,λg=>?_⟩⟩
 ·simp only[dG]at g;refine⟨⟨by omega,by omega⟩,λd hd=>⟨⟨by omega,by omega⟩,λd1 hd1=>ah.2 ⟨λg2=>fF λq=>?_,λg2=>⟨au.2 (by omega),k+1,⟨by omega,λj hj=>?_⟩,⟨rfl,trivial⟩,rfl,by omega⟩⟩⟩⟩
  ·subst q;rw[hd]at hd1;cases hd1;simp at g2
  ·by_cases gq:j=k
   ·subst gq;have hd:l[j]?=some d:=hd;have hd1:m[j]?=some d1:=hd1;simp at g2;rw[hd,hd1,g2]
   ·exact hk.2 j (by omega)
 simp only[dh]at g;have e:l=m:=by
  apply yJ;intro j
  by_cases hj:j < k
  ·exact hk.2 j hj
  ·rw[qJ (by omega),qJ (by omega)]
 exact⟨rfl,by rw[L6 e]⟩
theorem aik:Go.aV.Met Tryz.prog aK.gd 83 pR:=
 bW (cx:=aK) (n:=26) (cl:=[]) (rc:=[]) ay trivial Tryz.func83 λd hd=>by
  obtain⟨l,m,⟨⟩⟩:=d;exact aH (arq l m) (anZ l m hd) (by kernel_rfl)
abbrev BI:CT:={ ps:=[pY,pY],pre:=λd=>aZ d.1,res:=λd=>([],vB (decide (d.1=d.2.1))) }
@[reducible] def ars (vs os:List Int) (qs:List (List Int)) (sg vs2 os2:List Int) (DR:List (List Int)) (sg2:List Int):Nat→Option (St→iC):=λk=>match k with
  | 4=>some λ_=>.inv { α:=Nat,slots:=λk=>[(5,.c (.v (.int .i64 k)))],res:=λ_=>[],inv:=λk=>k≤qs.length∧∀j < k,qs[j]?=DR[j]?,meas:=λk=>qs.length - k }
  | _=>none
theorem an0(vs os:List Int) (qs:List (List Int)) (sg vs2 os2:List Int) (DR:List (List Int)) (sg2:List Int) (aA:BI.pre ((vs,os,qs,sg,()),(vs2,os2,DR,sg2,()),())):
 let z4:=decide ((vs,os,qs,sg,())=(vs2,os2,DR,sg2,()));let z2:=qB z4 false;let z3:=λ(x:Nat)=>(x≤qs.length∧∀(j:Nat),j < x→qs[j]?=DR[j]?);let z1:=[g0 (aj.blk 34 [SC.sl I6 vs,SC.sl I6 os,SC.sl I6.sl qs,SC.sl I6 sg]),g0 (aj.blk 34 [SC.sl I6 vs2,SC.sl I6 os2,SC.sl I6.sl DR,SC.sl I6 sg2])];vs.length≤1000000∧((!!decide (vs=vs2))=true→os.length≤1000000)∧((!(!decide (vs=vs2) || !decide (os=os2)))=true→sg.length≤1000000)∧br (!decide (vs=vs2) || !decide (os=os2) || !decide (sg=sg2) || !decide ((↑qs.length:Int)=(↑DR.length:Int))) z2 ((∃x,(z3 x)∧(cI 0=cI (↑x:Int)∧True)∧sm z1)∧∀(x:Nat),(z3 x)→br (decide ((↑x:Int) < (↑qs.length:Int))) ((0≤(↑x:Int)∧(↑x:Int) < (↑qs.length:Int))∧∀(d:List Int),qs[(↑x:Int).toNat]?=some d→(0≤(↑x:Int)∧(↑x:Int) < (↑DR.length:Int))∧∀(dH:List Int),DR[(↑x:Int).toNat]?=some dH→d.length≤1000000∧br (!decide (d=dH)) z2 (cZ IntKind.i64 ((↑x:Int)+(1:Int))∧∃x',(z3 x')∧(cI ((↑x:Int)+(1:Int))=cI (↑x':Int)∧True)∧sm z1∧qs.length - x' < qs.length - x)) (qB z4 true)):=by
 conv=>zeta
 delta cI g0 qB sm I6;obtain⟨b1,b2,b3,b4,b5,b6⟩:vs.length≤1000∧os.length≤1000∧qs.length≤1000∧sg.length≤1000∧(∀q∈qs,q.length≤1000)∧qs.flatten.length≤100000:=aA;have fF:(vs,os,qs,sg,())≠(vs2,os2,DR,sg2,())→([]:List Go.aV.aj)=[]∧aT.one (SV.c (SC.v (Value.bool (decide ((vs,os,qs,sg,())=(vs2,os2,DR,sg2,()))))))=aT.one (SV.c (SC.v (Value.bool false))):=λq=>⟨rfl,by rw[Ed q]⟩
 refine⟨by omega,λ_=>by omega,λ_=>by omega,ah.2 ⟨λh=>fF λq=>?_,λh=>?_⟩⟩
 ·cases q;simp at h
 simp only[qH,yI,dG]at h;obtain⟨⟨⟨rfl,rfl⟩,rfl⟩,h⟩:=h;refine⟨⟨0,⟨by omega,λj hj=>by omega⟩,⟨rfl,trivial⟩,rfl⟩,λk hk=>ah.2 ⟨λg=>?_,λg=>?_⟩⟩
 ·simp only[dG]at g;refine⟨⟨by omega,by omega⟩,λd hd=>⟨⟨by omega,by omega⟩,λd1 hd1=>⟨?_,ah.2 ⟨λg2=>fF λq=>?_,λg2=>⟨au.2 (by omega),k+1,⟨by omega,λj hj=>?_⟩,⟨rfl,trivial⟩,rfl,by omega⟩⟩⟩⟩⟩
  ·have:=b5 d (iF hd);omega
  ·cases q;rw[hd]at hd1;cases hd1;simp at g2
  ·by_cases gq:j=k
   ·subst gq;have hd:qs[j]?=some d:=hd;have hd1:DR[j]?=some d1:=hd1;simp at g2;rw[hd,hd1,g2]
   ·exact hk.2 j (by omega)
 simp only[dh]at g;have e:qs=DR:=by
  apply yJ;intro j
  by_cases hj:j < k
  ·exact hk.2 j hj
  ·rw[qJ (by omega),qJ (by omega)]
 subst e;exact⟨rfl,by rw[L6 rfl]⟩
theorem ail:Go.aV.Met Tryz.prog aK.gd 37 BI:=
 bW (cx:=aK) (n:=56) (cl:=[(83,pR)]) (rc:=[]) ay ⟨aik,trivial⟩ Tryz.func37 λd hd=>by
  obtain⟨⟨vs,os,qs,sg,⟨⟩⟩,⟨vs2,os2,DR,sg2,⟨⟩⟩,⟨⟩⟩:=d;exact aH (ars vs os qs sg vs2 os2 DR sg2) (an0 vs os qs sg vs2 os2 DR sg2 hd) (by kernel_rfl)
theorem Sz(k:Nat):uo (λj=>decide (j < k)) k=λj=>decide (j < k+1):=by
 funext j;unfold uo
 by_cases h:j=k
 ·subst h;simp
 ·simp[h];omega
theorem O7{qs:List (List Int)}{k:Nat}{d:List Int} (h:qs[k]?=some d):(qs.take k++List.replicate (qs.length - k) []).set k d=qs.take (k+1)++List.replicate (qs.length - (k+1)) []:=by
 obtain⟨hk,_⟩:=eU.1 h;rw[VU _ _ (by rw[ku];omega),ku,show k - min k qs.length=0 by omega,show qs.length - k=(qs.length - (k+1))+1 by omega,Yi,aeA,Jt,h]
 simp
theorem Ah{qs:List (List Int)}{k:Nat} (h:k≤qs.length):(qs.take k++List.replicate (qs.length - k) []).length=qs.length:=by simp;omega
theorem O8{qs:List (List Int)}{k:Nat} (h:¬k < qs.length) (h':k≤qs.length):qs.take k++List.replicate (qs.length - k) []=qs:=by
 have:k=qs.length:=by omega
 subst this;simp
theorem SA:Cb=λj=>decide (j < 0):=by funext j;simp
abbrev Jg:CT:={ ps:=[pY],pre:=λd=>aZ d.1,res:=λd=>([.row 3 (.int .i64) (d.1.1),.row 3 (.int .i64) (d.1.2.1),.deep 31 (.sl (.int .i64)) (d.1.2.2.1) 3 (.int .i64) 0 (λj=>decide (j < d.1.2.2.1.length)) [],.row 3 (.int .i64) (d.1.2.2.2.1)],.one (.agg [(.row 0),(.row 1),(.row 2),(.row 3)])) }
@[reducible] def aru (vs os:List Int) (qs:List (List Int)) (sg:List Int):Nat→Option (St→iC):=λk=>match k with
  | 2=>some λ_=>.cut { α:=Nat,pad:=5,can:=[(2,.slot 3),(3,.cell 2 0),(4,.cell 2 1),(5,.cell 2 2),(6,.cell 2 3)],slots:=λ_=>[(3,.c (.own 2 0))],res:=λ_=>[(2,.blk 34 [.row 3,.row 4,.row 5,.row 6]),(3,.row 3 (.int .i64) (vs)),(4,.row 3 (.int .i64) (os)),(5,.row 31 (.sl (.int .i64)) (List.replicate qs.length [])),(6,.row 3 (.int .i64) (sg))],inv:=λu=>u=0,meas:=λ_=>0 }
  | 3=>some λ_=>.inv { α:=Nat,deep:=[(5,3,.int .i64,0)],slots:=λk=>[(23,.c (.v (.int .i64 k)))],res:=λk=>[(5,.deep 31 (.sl (.int .i64)) (qs.take k++List.replicate (qs.length - k) []) 3 (.int .i64) 0 (λj=>decide (j < k)) [])],inv:=λk=>k≤qs.length,meas:=λk=>qs.length - k }
  | _=>none
abbrev kq8:Prop:=SV.c (SC.own 2 0)=SV.c (SC.own 2 0)∧True
abbrev kq3:=[SC.v (Value.slice none 0 0),SC.v (Value.slice none 0 0),SC.v (Value.slice none 0 0),SC.v (Value.slice none 0 0)]
abbrev kq9:=[SC.row 3,SC.row 4,SC.row 5,SC.row 6]
theorem an1(vs os:List Int) (qs:List (List Int)) (sg:List Int) (aA:Jg.pre ((vs,os,qs,sg,()),())):
 let z6:=0≤(↑qs.length:Int)∧(↑qs.length:Int)≤(↑qs.length:Int)∧jS (↑qs.length:Int).toNat 24;let z7:=[SC.sl I6 vs,SC.sl I6 os,SC.sl I6.sl qs,SC.sl I6 sg];let z5:=(∃v,v=0∧kq8∧[g0 (aj.blk 34 z7),g0 (aj.blk 34 kq3),g0 (aj.blk 34 kq9),g0 (aj.row 3 I6 vs),g0 (aj.row 3 I6 os),g0 (aj.row 31 I6.sl (List.replicate (↑qs.length:Int).toNat [])),g0 (aj.row 3 I6 sg)]=[g0 (aj.blk 34 z7),g0 (aj.blk 34 kq3),g0 (aj.blk 34 kq9),g0 (aj.row 3 I6 vs),g0 (aj.row 3 I6 os),g0 (aj.row 31 I6.sl (List.replicate qs.length [])),g0 (aj.row 3 I6 sg)]);let z3:=(sg.length≤1000000∧z5∧∃v,v=0∧kq8∧[g0 (aj.blk 34 z7),g0 (aj.blk 34 kq3),g0 (aj.blk 34 kq9),g0 (aj.row 3 I6 vs),g0 (aj.row 3 I6 os),g0 (aj.row 31 I6.sl (List.replicate (↑qs.length:Int).toNat [])),g0 (aj.row 3 I6 sg)]=[g0 (aj.blk 34 z7),g0 (aj.blk 34 kq3),g0 (aj.blk 34 kq9),g0 (aj.row 3 I6 vs),g0 (aj.row 3 I6 os),g0 (aj.row 31 I6.sl (List.replicate qs.length [])),g0 (aj.row 3 I6 sg)]);let z4:=(z6∧sg.length≤1000000∧∃v,v=0∧kq8∧[g0 (aj.blk 34 z7),g0 (aj.blk 34 kq3),g0 (aj.blk 34 kq9),g0 (aj.row 3 I6 vs),g0 (aj.row 3 I6 os),g0 (aj.row 31 I6.sl (List.replicate (↑qs.length:Int).toNat [])),g0 (aj.row 3 I6 sg)]=[g0 (aj.blk 34 z7),g0 (aj.blk 34 kq3),g0 (aj.blk 34 kq9),g0 (aj.row 3 I6 vs),g0 (aj.row 3 I6 os),g0 (aj.row 31 I6.sl (List.replicate qs.length [])),g0 (aj.row 3 I6 sg)]);let z1:=(os.length≤1000000∧z3∧sg.length≤1000000∧∃v,v=0∧kq8∧[g0 (aj.blk 34 z7),g0 (aj.blk 34 kq3),g0 (aj.blk 34 kq9),g0 (aj.row 3 I6 vs),g0 (aj.row 3 I6 os),g0 (aj.row 31 I6.sl (List.replicate (↑qs.length:Int).toNat [])),g0 (aj.row 3 I6 sg)]=[g0 (aj.blk 34 z7),g0 (aj.blk 34 kq3),g0 (aj.blk 34 kq9),g0 (aj.row 3 I6 vs),g0 (aj.row 3 I6 os),g0 (aj.row 31 I6.sl (List.replicate qs.length [])),g0 (aj.row 3 I6 sg)]);let z2:=(os.length≤1000000∧z4∧sg.length≤1000000∧z6∧∃v,v=0∧kq8∧[g0 (aj.blk 34 z7),g0 (aj.blk 34 kq3),g0 (aj.blk 34 kq9),g0 (aj.row 3 I6 vs),g0 (aj.row 3 I6 os),g0 (aj.row 31 I6.sl (List.replicate (↑qs.length:Int).toNat [])),g0 (aj.row 3 I6 sg)]=[g0 (aj.blk 34 z7),g0 (aj.blk 34 kq3),g0 (aj.blk 34 kq9),g0 (aj.row 3 I6 vs),g0 (aj.row 3 I6 os),g0 (aj.row 31 I6.sl (List.replicate qs.length [])),g0 (aj.row 3 I6 sg)]);((vs.length≤1000000∧(os.length≤1000000∧(z6∧z3∧sg.length≤1000000∧∃v,v=0∧kq8∧[g0 (aj.blk 34 z7),g0 (aj.blk 34 kq3),g0 (aj.blk 34 kq9),g0 (aj.row 3 I6 vs),g0 (aj.row 3 I6 os),g0 (aj.row 31 I6.sl (List.replicate (↑qs.length:Int).toNat [])),g0 (aj.row 3 I6 sg)]=[g0 (aj.blk 34 z7),g0 (aj.blk 34 kq3),g0 (aj.blk 34 kq9),g0 (aj.row 3 I6 vs),g0 (aj.row 3 I6 os),g0 (aj.row 31 I6.sl (List.replicate qs.length [])),g0 (aj.row 3 I6 sg)])∧(sg.length≤1000000∧(z6∧z5∧∃v,v=0∧kq8∧[g0 (aj.blk 34 z7),g0 (aj.blk 34 kq3),g0 (aj.blk 34 kq9),g0 (aj.row 3 I6 vs),g0 (aj.row 3 I6 os),g0 (aj.row 31 I6.sl (List.replicate (↑qs.length:Int).toNat [])),g0 (aj.row 3 I6 sg)]=[g0 (aj.blk 34 z7),g0 (aj.blk 34 kq3),g0 (aj.blk 34 kq9),g0 (aj.row 3 I6 vs),g0 (aj.row 3 I6 os),g0 (aj.row 31 I6.sl (List.replicate qs.length [])),g0 (aj.row 3 I6 sg)])∧z6∧∃v,v=0∧kq8∧[g0 (aj.blk 34 z7),g0 (aj.blk 34 kq3),g0 (aj.blk 34 kq9),g0 (aj.row 3 I6 vs),g0 (aj.row 3 I6 os),g0 (aj.row 31 I6.sl (List.replicate (↑qs.length:Int).toNat [])),g0 (aj.row 3 I6 sg)]=[g0 (aj.blk 34 z7),g0 (aj.blk 34 kq3),g0 (aj.blk 34 kq9),g0 (aj.row 3 I6 vs),g0 (aj.row 3 I6 os),g0 (aj.row 31 I6.sl (List.replicate qs.length [])),g0 (aj.row 3 I6 sg)])∧z4∧sg.length≤1000000∧z6∧∃v,v=0∧kq8∧[g0 (aj.blk 34 z7),g0 (aj.blk 34 kq3),g0 (aj.blk 34 kq9),g0 (aj.row 3 I6 vs),g0 (aj.row 3 I6 os),g0 (aj.row 31 I6.sl (List.replicate (↑qs.length:Int).toNat [])),g0 (aj.row 3 I6 sg)]=[g0 (aj.blk 34 z7),g0 (aj.blk 34 kq3),g0 (aj.blk 34 kq9),g0 (aj.row 3 I6 vs),g0 (aj.row 3 I6 os),g0 (aj.row 31 I6.sl (List.replicate qs.length [])),g0 (aj.row 3 I6 sg)])∧(z6∧z1∧os.length≤1000000∧sg.length≤1000000∧∃v,v=0∧kq8∧[g0 (aj.blk 34 z7),g0 (aj.blk 34 kq3),g0 (aj.blk 34 kq9),g0 (aj.row 3 I6 vs),g0 (aj.row 3 I6 os),g0 (aj.row 31 I6.sl (List.replicate (↑qs.length:Int).toNat [])),g0 (aj.row 3 I6 sg)]=[g0 (aj.blk 34 z7),g0 (aj.blk 34 kq3),g0 (aj.blk 34 kq9),g0 (aj.row 3 I6 vs),g0 (aj.row 3 I6 os),g0 (aj.row 31 I6.sl (List.replicate qs.length [])),g0 (aj.row 3 I6 sg)])∧z2∧z6∧os.length≤1000000∧sg.length≤1000000∧∃v,v=0∧kq8∧[g0 (aj.blk 34 z7),g0 (aj.blk 34 kq3),g0 (aj.blk 34 kq9),g0 (aj.row 3 I6 vs),g0 (aj.row 3 I6 os),g0 (aj.row 31 I6.sl (List.replicate (↑qs.length:Int).toNat [])),g0 (aj.row 3 I6 sg)]=[g0 (aj.blk 34 z7),g0 (aj.blk 34 kq3),g0 (aj.blk 34 kq9),g0 (aj.row 3 I6 vs),g0 (aj.row 3 I6 os),g0 (aj.row 31 I6.sl (List.replicate qs.length [])),g0 (aj.row 3 I6 sg)])∧(z6∧(vs.length≤1000000∧z1∧os.length≤1000000∧sg.length≤1000000∧∃v,v=0∧kq8∧[g0 (aj.blk 34 z7),g0 (aj.blk 34 kq3),g0 (aj.blk 34 kq9),g0 (aj.row 3 I6 vs),g0 (aj.row 3 I6 os),g0 (aj.row 31 I6.sl (List.replicate (↑qs.length:Int).toNat [])),g0 (aj.row 3 I6 sg)]=[g0 (aj.blk 34 z7),g0 (aj.blk 34 kq3),g0 (aj.blk 34 kq9),g0 (aj.row 3 I6 vs),g0 (aj.row 3 I6 os),g0 (aj.row 31 I6.sl (List.replicate qs.length [])),g0 (aj.row 3 I6 sg)])∧vs.length≤1000000∧os.length≤1000000∧sg.length≤1000000∧∃v,v=0∧kq8∧[g0 (aj.blk 34 z7),g0 (aj.blk 34 kq3),g0 (aj.blk 34 kq9),g0 (aj.row 3 I6 vs),g0 (aj.row 3 I6 os),g0 (aj.row 31 I6.sl (List.replicate (↑qs.length:Int).toNat [])),g0 (aj.row 3 I6 sg)]=[g0 (aj.blk 34 z7),g0 (aj.blk 34 kq3),g0 (aj.blk 34 kq9),g0 (aj.row 3 I6 vs),g0 (aj.row 3 I6 os),g0 (aj.row 31 I6.sl (List.replicate qs.length [])),g0 (aj.row 3 I6 sg)])∧(vs.length≤1000000∧z2∧z6∧os.length≤1000000∧sg.length≤1000000∧∃v,v=0∧kq8∧[g0 (aj.blk 34 z7),g0 (aj.blk 34 kq3),g0 (aj.blk 34 kq9),g0 (aj.row 3 I6 vs),g0 (aj.row 3 I6 os),g0 (aj.row 31 I6.sl (List.replicate (↑qs.length:Int).toNat [])),g0 (aj.row 3 I6 sg)]=[g0 (aj.blk 34 z7),g0 (aj.blk 34 kq3),g0 (aj.blk 34 kq9),g0 (aj.row 3 I6 vs),g0 (aj.row 3 I6 os),g0 (aj.row 31 I6.sl (List.replicate qs.length [])),g0 (aj.row 3 I6 sg)])∧z6∧vs.length≤1000000∧os.length≤1000000∧sg.length≤1000000∧∃v,v=0∧kq8∧[g0 (aj.blk 34 z7),g0 (aj.blk 34 kq3),g0 (aj.blk 34 kq9),g0 (aj.row 3 I6 vs),g0 (aj.row 3 I6 os),g0 (aj.row 31 I6.sl (List.replicate (↑qs.length:Int).toNat [])),g0 (aj.row 3 I6 sg)]=[g0 (aj.blk 34 z7),g0 (aj.blk 34 kq3),g0 (aj.blk 34 kq9),g0 (aj.row 3 I6 vs),g0 (aj.row 3 I6 os),g0 (aj.row 31 I6.sl (List.replicate qs.length [])),g0 (aj.row 3 I6 sg)])∧∀(v:Nat),v=0→(∃x,x≤qs.length∧(cI 0=cI (↑x:Int)∧True)∧[g0 (aj.blk 34 z7),g0 (aj.blk 34 kq3),g0 (aj.blk 34 kq9),g0 (aj.row 3 I6 vs),g0 (aj.row 3 I6 os),g0 (aj.deep 31 I6.sl (List.replicate qs.length []) 3 I6 0 Cb []),g0 (aj.row 3 I6 sg)]=[g0 (aj.blk 34 z7),g0 (aj.blk 34 kq3),g0 (aj.blk 34 kq9),g0 (aj.row 3 I6 vs),g0 (aj.row 3 I6 os),g0 (aj.deep 31 I6.sl (List.take x qs++List.replicate (qs.length - x) []) 3 I6 0 (λj=>decide (j < x)) []),g0 (aj.row 3 I6 sg)])∧∀(x:Nat),x≤qs.length→br (decide ((↑x:Int) < (↑qs.length:Int))) ((0≤(↑x:Int)∧(↑x:Int) < (↑qs.length:Int))∧∀(d:List Int),qs[(↑x:Int).toNat]?=some d→d.length≤1000000∧(0≤(↑x:Int)∧(↑x:Int) < (↑(List.take x qs++List.replicate (qs.length - x) []).length:Int))∧(↑x:Int).toNat < (List.take x qs++List.replicate (qs.length - x) []).length∧∀(e0:List Int),(List.take x qs++List.replicate (qs.length - x) [])[(↑x:Int).toNat]?=some e0→cZ IntKind.i64 ((↑x:Int)+(1:Int))∧∃x',x'≤qs.length∧(cI ((↑x:Int)+(1:Int))=cI (↑x':Int)∧True)∧[g0 (aj.blk 34 z7),g0 (aj.blk 34 kq3),g0 (aj.blk 34 kq9),g0 (aj.row 3 I6 vs),g0 (aj.row 3 I6 os),g0 (aj.deep 31 I6.sl ((List.take x qs++List.replicate (qs.length - x) []).set (↑x:Int).toNat (d)) 3 I6 0 (uo (λj=>decide (j < x)) (↑x:Int).toNat) []),g0 (aj.row 3 I6 sg)]=[g0 (aj.blk 34 z7),g0 (aj.blk 34 kq3),g0 (aj.blk 34 kq9),g0 (aj.row 3 I6 vs),g0 (aj.row 3 I6 os),g0 (aj.deep 31 I6.sl (List.take x' qs++List.replicate (qs.length - x') []) 3 I6 0 (λj=>decide (j < x')) []),g0 (aj.row 3 I6 sg)]∧qs.length - x' < qs.length - x) ([aj.row 3 I6 vs,aj.row 3 I6 os,aj.deep 31 I6.sl qs 3 I6 0 (λj=>decide (j < List.length (vs,os,qs,sg,()).snd.snd.fst)) [],aj.row 3 I6 sg]=[aj.row 3 I6 vs,aj.row 3 I6 os,aj.deep 31 I6.sl (List.take x qs++List.replicate (qs.length - x) []) 3 I6 0 (λj=>decide (j < x)) [],aj.row 3 I6 sg]∧aT.one (SV.agg [SC.row 0,SC.row 1,SC.row 2,SC.row 3])=aT.one (SV.agg [SC.row 0,SC.row (Nat.succ 0),SC.row (Nat.succ 0).succ,SC.row (Nat.succ 0).succ.succ])):=by
 conv=>zeta
 delta kq8 kq3 kq9 cI g0 I6;obtain⟨b1,b2,b3,b4,b5,b6⟩:vs.length≤1000∧os.length≤1000∧qs.length≤1000∧sg.length≤1000∧(∀q∈qs,q.length≤1000)∧qs.flatten.length≤100000:=aA;refine⟨?_,λu hu=>⟨⟨0,by omega,⟨rfl,trivial⟩,?_⟩,λk hk=>ah.2 ⟨λg=>?_,λg=>?_⟩⟩⟩
 ·have hA:jS (↑qs.length:Int).toNat 24:=bI.2 (by omega)
  repeat' first | exact⟨0,rfl,⟨rfl,trivial⟩,rfl⟩ | (refine And.intro ?_ ?_) | omega | exact hA
 ·rw[SA];simp
 ·simp only[dG]at g;refine⟨⟨by omega,by omega⟩,λd hd=>⟨?_,⟨by omega,?_⟩,?_,λe0 he=>⟨au.2 (by omega),k+1,by omega,⟨rfl,trivial⟩,?_,by omega⟩⟩⟩
  ·have:=b5 d (iF hd);omega
  ·rw[Ah hk];omega
  ·rw[Ah hk];show k < _;omega
  ·have hd:qs[k]?=some d:=hd;have e1:(qs.take k++List.replicate (qs.length - k) []).set (↑k:Int).toNat d=qs.take (k+1)++List.replicate (qs.length - (k+1)) []:=O7 hd;have e2:uo (λj=>decide (j < k)) (↑k:Int).toNat=λj=>decide (j < k+1):=Sz k
   rw[e2];exact Ec (λz=>_ :: _ :: _ :: _ :: _ :: (([]:Go.aV.Gd),aj.deep 31 (Sh.int IntKind.i64).sl z 3 (Sh.int IntKind.i64) 0 (λj=>decide (j < k+1)) []) :: _) e1
 simp only[dh]at g;have ek:k=qs.length:=by omega
 subst ek;exact⟨by rw[O8 (by omega) hk],rfl⟩
theorem ain:Go.aV.Met Tryz.prog aK.gd 49 Jg:=
 bW (cx:=aK) (n:=36) (cl:=[(107,Jf)]) (rc:=[]) ay ⟨Ag,trivial⟩ Tryz.func49 λd hd=>by
  obtain⟨⟨vs,os,qs,sg,⟨⟩⟩,⟨⟩⟩:=d;exact aH (aru vs os qs sg) (an1 vs os qs sg hd) (by kernel_rfl)
abbrev nM:CT:={ ps:=[pY],pre:=λd=>aZ d.1,res:=λd=>([.row 3 (.int .i64) (d.1.1),.row 3 (.int .i64) (d.1.2.1),.row 31 (.sl (.int .i64)) (d.1.2.2.1),.row 3 (.int .i64) (d.1.2.2.2.1)],.one (.agg [(.row 0),(.row 1),(.row 2),(.row 3)])) }
@[reducible] def an2 (vs os:List Int) (qs:List (List Int)) (sg:List Int):Nat→Option (St→iC):=λk=>match k with
  | 2=>some λ_=>.cut { α:=Nat,pad:=5,can:=[(2,.slot 3),(3,.cell 2 0),(4,.cell 2 1),(5,.cell 2 2),(6,.cell 2 3)],slots:=λ_=>[(3,.c (.own 2 0))],res:=λ_=>[(2,.blk 34 [.row 3,.row 4,.row 5,.row 6]),(3,.row 3 (.int .i64) (vs)),(4,.row 3 (.int .i64) (os)),(5,.row 31 (.sl (.int .i64)) (List.replicate qs.length [])),(6,.row 3 (.int .i64) (sg))],inv:=λu=>u=0,meas:=λ_=>0 }
  | 3=>some λ_=>.inv { α:=Nat,slots:=λk=>[(23,.c (.v (.int .i64 k)))],res:=λk=>[(5,.row 31 (.sl (.int .i64)) (qs.take k++List.replicate (qs.length - k) []))],inv:=λk=>k≤qs.length,meas:=λk=>qs.length - k }
  | _=>none
theorem aio(vs os:List Int) (qs:List (List Int)) (sg:List Int) (aA:nM.pre ((vs,os,qs,sg,()),())):
 let z6:=0≤(↑qs.length:Int)∧(↑qs.length:Int)≤(↑qs.length:Int)∧jS (↑qs.length:Int).toNat 24;let z7:=[SC.sl I6 vs,SC.sl I6 os,SC.sl I6.sl qs,SC.sl I6 sg];let z5:=(∃v,v=0∧kq8∧[g0 (aj.blk 34 z7),g0 (aj.blk 34 kq3),g0 (aj.blk 34 kq9),g0 (aj.row 3 I6 vs),g0 (aj.row 3 I6 os),g0 (aj.row 31 I6.sl (List.replicate (↑qs.length:Int).toNat [])),g0 (aj.row 3 I6 sg)]=[g0 (aj.blk 34 z7),g0 (aj.blk 34 kq3),g0 (aj.blk 34 kq9),g0 (aj.row 3 I6 vs),g0 (aj.row 3 I6 os),g0 (aj.row 31 I6.sl (List.replicate qs.length [])),g0 (aj.row 3 I6 sg)]);let z3:=(sg.length≤1000000∧z5∧∃v,v=0∧kq8∧[g0 (aj.blk 34 z7),g0 (aj.blk 34 kq3),g0 (aj.blk 34 kq9),g0 (aj.row 3 I6 vs),g0 (aj.row 3 I6 os),g0 (aj.row 31 I6.sl (List.replicate (↑qs.length:Int).toNat [])),g0 (aj.row 3 I6 sg)]=[g0 (aj.blk 34 z7),g0 (aj.blk 34 kq3),g0 (aj.blk 34 kq9),g0 (aj.row 3 I6 vs),g0 (aj.row 3 I6 os),g0 (aj.row 31 I6.sl (List.replicate qs.length [])),g0 (aj.row 3 I6 sg)]);let z4:=(z6∧sg.length≤1000000∧∃v,v=0∧kq8∧[g0 (aj.blk 34 z7),g0 (aj.blk 34 kq3),g0 (aj.blk 34 kq9),g0 (aj.row 3 I6 vs),g0 (aj.row 3 I6 os),g0 (aj.row 31 I6.sl (List.replicate (↑qs.length:Int).toNat [])),g0 (aj.row 3 I6 sg)]=[g0 (aj.blk 34 z7),g0 (aj.blk 34 kq3),g0 (aj.blk 34 kq9),g0 (aj.row 3 I6 vs),g0 (aj.row 3 I6 os),g0 (aj.row 31 I6.sl (List.replicate qs.length [])),g0 (aj.row 3 I6 sg)]);let z1:=(os.length≤1000000∧z3∧sg.length≤1000000∧∃v,v=0∧kq8∧[g0 (aj.blk 34 z7),g0 (aj.blk 34 kq3),g0 (aj.blk 34 kq9),g0 (aj.row 3 I6 vs),g0 (aj.row 3 I6 os),g0 (aj.row 31 I6.sl (List.replicate (↑qs.length:Int).toNat [])),g0 (aj.row 3 I6 sg)]=[g0 (aj.blk 34 z7),g0 (aj.blk 34 kq3),g0 (aj.blk 34 kq9),g0 (aj.row 3 I6 vs),g0 (aj.row 3 I6 os),g0 (aj.row 31 I6.sl (List.replicate qs.length [])),g0 (aj.row 3 I6 sg)]);let z2:=(os.length≤1000000∧z4∧sg.length≤1000000∧z6∧∃v,v=0∧kq8∧[g0 (aj.blk 34 z7),g0 (aj.blk 34 kq3),g0 (aj.blk 34 kq9),g0 (aj.row 3 I6 vs),g0 (aj.row 3 I6 os),g0 (aj.row 31 I6.sl (List.replicate (↑qs.length:Int).toNat [])),g0 (aj.row 3 I6 sg)]=[g0 (aj.blk 34 z7),g0 (aj.blk 34 kq3),g0 (aj.blk 34 kq9),g0 (aj.row 3 I6 vs),g0 (aj.row 3 I6 os),g0 (aj.row 31 I6.sl (List.replicate qs.length [])),g0 (aj.row 3 I6 sg)]);((vs.length≤1000000∧(os.length≤1000000∧(z6∧z3∧sg.length≤1000000∧∃v,v=0∧kq8∧[g0 (aj.blk 34 z7),g0 (aj.blk 34 kq3),g0 (aj.blk 34 kq9),g0 (aj.row 3 I6 vs),g0 (aj.row 3 I6 os),g0 (aj.row 31 I6.sl (List.replicate (↑qs.length:Int).toNat [])),g0 (aj.row 3 I6 sg)]=[g0 (aj.blk 34 z7),g0 (aj.blk 34 kq3),g0 (aj.blk 34 kq9),g0 (aj.row 3 I6 vs),g0 (aj.row 3 I6 os),g0 (aj.row 31 I6.sl (List.replicate qs.length [])),g0 (aj.row 3 I6 sg)])∧(sg.length≤1000000∧(z6∧z5∧∃v,v=0∧kq8∧[g0 (aj.blk 34 z7),g0 (aj.blk 34 kq3),g0 (aj.blk 34 kq9),g0 (aj.row 3 I6 vs),g0 (aj.row 3 I6 os),g0 (aj.row 31 I6.sl (List.replicate (↑qs.length:Int).toNat [])),g0 (aj.row 3 I6 sg)]=[g0 (aj.blk 34 z7),g0 (aj.blk 34 kq3),g0 (aj.blk 34 kq9),g0 (aj.row 3 I6 vs),g0 (aj.row 3 I6 os),g0 (aj.row 31 I6.sl (List.replicate qs.length [])),g0 (aj.row 3 I6 sg)])∧z6∧∃v,v=0∧kq8∧[g0 (aj.blk 34 z7),g0 (aj.blk 34 kq3),g0 (aj.blk 34 kq9),g0 (aj.row 3 I6 vs),g0 (aj.row 3 I6 os),g0 (aj.row 31 I6.sl (List.replicate (↑qs.length:Int).toNat [])),g0 (aj.row 3 I6 sg)]=[g0 (aj.blk 34 z7),g0 (aj.blk 34 kq3),g0 (aj.blk 34 kq9),g0 (aj.row 3 I6 vs),g0 (aj.row 3 I6 os),g0 (aj.row 31 I6.sl (List.replicate qs.length [])),g0 (aj.row 3 I6 sg)])∧z4∧sg.length≤1000000∧z6∧∃v,v=0∧kq8∧[g0 (aj.blk 34 z7),g0 (aj.blk 34 kq3),g0 (aj.blk 34 kq9),g0 (aj.row 3 I6 vs),g0 (aj.row 3 I6 os),g0 (aj.row 31 I6.sl (List.replicate (↑qs.length:Int).toNat [])),g0 (aj.row 3 I6 sg)]=[g0 (aj.blk 34 z7),g0 (aj.blk 34 kq3),g0 (aj.blk 34 kq9),g0 (aj.row 3 I6 vs),g0 (aj.row 3 I6 os),g0 (aj.row 31 I6.sl (List.replicate qs.length [])),g0 (aj.row 3 I6 sg)])∧(z6∧z1∧os.length≤1000000∧sg.length≤1000000∧∃v,v=0∧kq8∧[g0 (aj.blk 34 z7),g0 (aj.blk 34 kq3),g0 (aj.blk 34 kq9),g0 (aj.row 3 I6 vs),g0 (aj.row 3 I6 os),g0 (aj.row 31 I6.sl (List.replicate (↑qs.length:Int).toNat [])),g0 (aj.row 3 I6 sg)]=[g0 (aj.blk 34 z7),g0 (aj.blk 34 kq3),g0 (aj.blk 34 kq9),g0 (aj.row 3 I6 vs),g0 (aj.row 3 I6 os),g0 (aj.row 31 I6.sl (List.replicate qs.length [])),g0 (aj.row 3 I6 sg)])∧z2∧z6∧os.length≤1000000∧sg.length≤1000000∧∃v,v=0∧kq8∧[g0 (aj.blk 34 z7),g0 (aj.blk 34 kq3),g0 (aj.blk 34 kq9),g0 (aj.row 3 I6 vs),g0 (aj.row 3 I6 os),g0 (aj.row 31 I6.sl (List.replicate (↑qs.length:Int).toNat [])),g0 (aj.row 3 I6 sg)]=[g0 (aj.blk 34 z7),g0 (aj.blk 34 kq3),g0 (aj.blk 34 kq9),g0 (aj.row 3 I6 vs),g0 (aj.row 3 I6 os),g0 (aj.row 31 I6.sl (List.replicate qs.length [])),g0 (aj.row 3 I6 sg)])∧(z6∧(vs.length≤1000000∧z1∧os.length≤1000000∧sg.length≤1000000∧∃v,v=0∧kq8∧[g0 (aj.blk 34 z7),g0 (aj.blk 34 kq3),g0 (aj.blk 34 kq9),g0 (aj.row 3 I6 vs),g0 (aj.row 3 I6 os),g0 (aj.row 31 I6.sl (List.replicate (↑qs.length:Int).toNat [])),g0 (aj.row 3 I6 sg)]=[g0 (aj.blk 34 z7),g0 (aj.blk 34 kq3),g0 (aj.blk 34 kq9),g0 (aj.row 3 I6 vs),g0 (aj.row 3 I6 os),g0 (aj.row 31 I6.sl (List.replicate qs.length [])),g0 (aj.row 3 I6 sg)])∧vs.length≤1000000∧os.length≤1000000∧sg.length≤1000000∧∃v,v=0∧kq8∧[g0 (aj.blk 34 z7),g0 (aj.blk 34 kq3),g0 (aj.blk 34 kq9),g0 (aj.row 3 I6 vs),g0 (aj.row 3 I6 os),g0 (aj.row 31 I6.sl (List.replicate (↑qs.length:Int).toNat [])),g0 (aj.row 3 I6 sg)]=[g0 (aj.blk 34 z7),g0 (aj.blk 34 kq3),g0 (aj.blk 34 kq9),g0 (aj.row 3 I6 vs),g0 (aj.row 3 I6 os),g0 (aj.row 31 I6.sl (List.replicate qs.length [])),g0 (aj.row 3 I6 sg)])∧(vs.length≤1000000∧z2∧z6∧os.length≤1000000∧sg.length≤1000000∧∃v,v=0∧kq8∧[g0 (aj.blk 34 z7),g0 (aj.blk 34 kq3),g0 (aj.blk 34 kq9),g0 (aj.row 3 I6 vs),g0 (aj.row 3 I6 os),g0 (aj.row 31 I6.sl (List.replicate (↑qs.length:Int).toNat [])),g0 (aj.row 3 I6 sg)]=[g0 (aj.blk 34 z7),g0 (aj.blk 34 kq3),g0 (aj.blk 34 kq9),g0 (aj.row 3 I6 vs),g0 (aj.row 3 I6 os),g0 (aj.row 31 I6.sl (List.replicate qs.length [])),g0 (aj.row 3 I6 sg)])∧z6∧vs.length≤1000000∧os.length≤1000000∧sg.length≤1000000∧∃v,v=0∧kq8∧[g0 (aj.blk 34 z7),g0 (aj.blk 34 kq3),g0 (aj.blk 34 kq9),g0 (aj.row 3 I6 vs),g0 (aj.row 3 I6 os),g0 (aj.row 31 I6.sl (List.replicate (↑qs.length:Int).toNat [])),g0 (aj.row 3 I6 sg)]=[g0 (aj.blk 34 z7),g0 (aj.blk 34 kq3),g0 (aj.blk 34 kq9),g0 (aj.row 3 I6 vs),g0 (aj.row 3 I6 os),g0 (aj.row 31 I6.sl (List.replicate qs.length [])),g0 (aj.row 3 I6 sg)])∧∀(v:Nat),v=0→(∃x,x≤qs.length∧(cI 0=cI (↑x:Int)∧True)∧[g0 (aj.blk 34 z7),g0 (aj.blk 34 kq3),g0 (aj.blk 34 kq9),g0 (aj.row 3 I6 vs),g0 (aj.row 3 I6 os),g0 (aj.row 31 I6.sl (List.replicate qs.length [])),g0 (aj.row 3 I6 sg)]=[g0 (aj.blk 34 z7),g0 (aj.blk 34 kq3),g0 (aj.blk 34 kq9),g0 (aj.row 3 I6 vs),g0 (aj.row 3 I6 os),g0 (aj.row 31 I6.sl (List.take x qs++List.replicate (qs.length - x) [])),g0 (aj.row 3 I6 sg)])∧∀(x:Nat),x≤qs.length→br (decide ((↑x:Int) < (↑qs.length:Int))) ((0≤(↑x:Int)∧(↑x:Int) < (↑qs.length:Int))∧∀(d:List Int),qs[(↑x:Int).toNat]?=some d→d.length≤1000000∧(0≤(↑x:Int)∧(↑x:Int) < (↑(List.take x qs++List.replicate (qs.length - x) []).length:Int))∧(↑x:Int).toNat < (List.take x qs++List.replicate (qs.length - x) []).length∧cZ IntKind.i64 ((↑x:Int)+(1:Int))∧∃x',x'≤qs.length∧(cI ((↑x:Int)+(1:Int))=cI (↑x':Int)∧True)∧[g0 (aj.blk 34 z7),g0 (aj.blk 34 kq3),g0 (aj.blk 34 kq9),g0 (aj.row 3 I6 vs),g0 (aj.row 3 I6 os),g0 (aj.row 31 I6.sl ((List.take x qs++List.replicate (qs.length - x) []).set (↑x:Int).toNat (d))),g0 (aj.row 3 I6 sg)]=[g0 (aj.blk 34 z7),g0 (aj.blk 34 kq3),g0 (aj.blk 34 kq9),g0 (aj.row 3 I6 vs),g0 (aj.row 3 I6 os),g0 (aj.row 31 I6.sl (List.take x' qs++List.replicate (qs.length - x') [])),g0 (aj.row 3 I6 sg)]∧qs.length - x' < qs.length - x) ([aj.row 3 I6 vs,aj.row 3 I6 os,aj.row 31 I6.sl qs,aj.row 3 I6 sg]=[aj.row 3 I6 vs,aj.row 3 I6 os,aj.row 31 I6.sl (List.take x qs++List.replicate (qs.length - x) []),aj.row 3 I6 sg]∧aT.one (SV.agg [SC.row 0,SC.row 1,SC.row 2,SC.row 3])=aT.one (SV.agg [SC.row 0,SC.row (Nat.succ 0),SC.row (Nat.succ 0).succ,SC.row (Nat.succ 0).succ.succ])):=by
 conv=>zeta
 delta kq8 kq3 kq9 cI g0 I6;obtain⟨b1,b2,b3,b4,b5,b6⟩:vs.length≤1000∧os.length≤1000∧qs.length≤1000∧sg.length≤1000∧(∀q∈qs,q.length≤1000)∧qs.flatten.length≤100000:=aA;refine⟨?_,λu hu=>⟨⟨0,by omega,⟨rfl,trivial⟩,?_⟩,λk hk=>ah.2 ⟨λg=>?_,λg=>?_⟩⟩⟩
 ·have hA:jS (↑qs.length:Int).toNat 24:=bI.2 (by omega)
  repeat' first | exact⟨0,rfl,⟨rfl,trivial⟩,rfl⟩ | (refine And.intro ?_ ?_) | omega | exact hA
 ·simp
 ·simp only[dG]at g;refine⟨⟨by omega,by omega⟩,λd hd=>⟨?_,⟨by omega,?_⟩,?_,⟨au.2 (by omega),k+1,by omega,⟨rfl,trivial⟩,?_,by omega⟩⟩⟩
  ·have:=b5 d (iF hd);omega
  ·rw[Ah hk];omega
  ·rw[Ah hk];show k < _;omega
  ·have hd:qs[k]?=some d:=hd;have e1:(qs.take k++List.replicate (qs.length - k) []).set (↑k:Int).toNat d=qs.take (k+1)++List.replicate (qs.length - (k+1)) []:=O7 hd;exact Ec (λz=>_ :: _ :: _ :: _ :: _ :: (([]:Go.aV.Gd),aj.row 31 (Sh.int IntKind.i64).sl z) :: _) e1
 simp only[dh]at g;have ek:k=qs.length:=by omega
 subst ek;exact⟨by rw[O8 (by omega) hk],rfl⟩
theorem rY:Go.aV.Met Tryz.prog aK.gd 49 nM:=
 bW (cx:=aK) (n:=36) (cl:=[(107,Jf)]) (rc:=[]) ay ⟨Ag,trivial⟩ Tryz.func49 λd hd=>by
  obtain⟨⟨vs,os,qs,sg,⟨⟩⟩,⟨⟩⟩:=d;exact⟨an2 vs os qs sg,cast (by kernel_rfl) (aio vs os qs sg hd)⟩
def zM:MD:=([],[],[],[],())
def gZ(m:MD) (i n:Int):Int:=if dI m=false then 1 else if i < 0∨n≤i then 11 else 0
def xw(m:MD) (x:Int):Int×Int:=if gZ m x m.1.length=0 then(m.1[x.toNat]?.getD 0,0) else(0,gZ m x m.1.length)
def writeM(m:MD) (x v:Int):MD×Int:=if gZ m x m.1.length=0 then(if bV v=true then((m.1.set x.toNat v,m.2),0) else(zM,2)) else(zM,gZ m x m.1.length)
def ig(m:MD) (i id U9 to:Int):MD×Int:=if gZ m i m.2.1.length=0 then(if id < 0 then(zM,2) else if m.2.1[i.toNat]?.getD 0=U9 then((m.1,m.2.1.set i.toNat to,m.2.2),0) else(zM,30)) else(zM,gZ m i m.2.1.length)
def mF(m:MD) (i:Int):Bool:=decide (gZ m i m.2.1.length=0) && decide (m.2.1[i.toNat]?.getD 0 = -1)
def pU(m:MD) (id:Int):Bool:=m.2.2.1.any (λq=>dM q id) || dM m.2.2.2.1 id
theorem fO{m:MD}{i n:Int}:gZ m i n=0↔dI m=true∧0≤i∧i < n:=by
 unfold gZ
 by_cases h:dI m=true
 ·rw[if_neg (by simp[h])]
  split
  ·simp[h];omega
  ·simp[h];omega
 ·rw[Bool.not_eq_true]at h;rw[if_pos h,h];simp
abbrev CO:CT:={ ps:=[pY,.int .i64,.int .i64],pre:=λd=>aZ d.1,res:=λd=>([],.one (.c (.v (.int .i64 (gZ d.1 d.2.1 d.2.2.1))))) }
theorem aip(vs os:List Int) (qs:List (List Int)) (sg:List Int) (i n:Int) (aA:CO.pre ((vs,os,qs,sg,()),i,n,())):
 let z2:=(vs,os,qs,sg,());let z1:=gZ z2 i n;aZ z2∧br (!dI z2) (qI z1 (1:Int)) (br (decide (i < 0) || decide (n≤i)) (qI z1 (11:Int)) (qI z1 (0:Int))):=by
 conv=>zeta
 delta qI;unfold gZ;refine⟨aA,ah.2 ⟨λh=>⟨rfl,?_⟩,λh=>ah.2 ⟨λg=>⟨rfl,?_⟩,λg=>⟨rfl,?_⟩⟩⟩⟩
 ·rw[if_pos (by simpa using h)]
 ·rw[if_neg (by simpa using h),if_pos (by simpa using g)]
 ·rw[if_neg (by simpa using h),if_neg (by simpa using g)]
theorem rZ:Go.aV.Met Tryz.prog aK.gd 158 CO:=
 bW (cx:=aK) (n:=17) (cl:=[(157,ac6)]) (rc:=[]) ay ⟨Gw,trivial⟩ Tryz.func158 λd hd=>by
  obtain⟨⟨vs,os,qs,sg,⟨⟩⟩,i,n,⟨⟩⟩:=d;exact aH (λ_=>none) (aip vs os qs sg i n hd) (by kernel_rfl)
abbrev aiq:CT:={ ps:=[pY,.int .i64],pre:=λd=>aZ d.1,res:=λd=>([],.gX [.c (.v (.int .i64 ((xw d.1 d.2.1).1))),.c (.v (.int .i64 ((xw d.1 d.2.1).2)))]) }
theorem an3(vs os:List Int) (qs:List (List Int)) (sg:List Int) (x:Int) (aA:aiq.pre ((vs,os,qs,sg,()),x,())):
 let z3:=(vs,os,qs,sg,());let z2:=xw z3 x;let z1:=[cI (z2.fst),cI (z2.snd)];aZ z3∧br (!decide (gZ z3 x (↑vs.length:Int)=(0:Int))) (rT z1 [cI 0,cI (gZ z3 x (↑vs.length:Int))]) ((0≤x∧x < (↑vs.length:Int))∧∀(d:Int),vs[x.toNat]?=some d→rT z1 [cI d,cI 0]):=by
 conv=>zeta
 delta cI rT;unfold xw;refine⟨aA,ah.2 ⟨λh=>⟨rfl,?_⟩,λh=>?_⟩⟩
 ·rw[if_neg (by simpa using h)]
 ·have h:gZ (vs,os,qs,sg,()) x vs.length=0:=by simpa using h
  have hx:=fO.1 h;refine⟨hx.2,λd hd=>⟨rfl,?_⟩⟩
  rw[if_pos h];simp[hd]
theorem Va:Go.aV.Met Tryz.prog aK.gd 96 aiq:=
 bW (cx:=aK) (n:=21) (cl:=[(158,CO)]) (rc:=[]) ay ⟨rZ,trivial⟩ Tryz.func96 λd hd=>by
  obtain⟨⟨vs,os,qs,sg,⟨⟩⟩,x,⟨⟩⟩:=d;exact aH (λ_=>none) (an3 vs os qs sg x hd) (by kernel_rfl)
abbrev XJ:CT:={ ps:=[pY,.int .i64,.int .i64],pre:=λd=>aZ d.1,res:=λd=>([],.gX [.agg [.sl (.int .i64) ((writeM d.1 d.2.1 d.2.2.1).1).1,.sl (.int .i64) ((writeM d.1 d.2.1 d.2.2.1).1).2.1,.sl (.sl (.int .i64)) ((writeM d.1 d.2.1 d.2.2.1).1).2.2.1,.sl (.int .i64) ((writeM d.1 d.2.1 d.2.2.1).1).2.2.2.1],.c (.v (.int .i64 ((writeM d.1 d.2.1 d.2.2.1).2)))]) }
theorem air(vs os:List Int) (qs:List (List Int)) (sg:List Int) (x v:Int) (aA:XJ.pre ((vs,os,qs,sg,()),x,v,())):
 let z3:=(vs,os,qs,sg,());let z2:=writeM z3 x v;let z1:=[SV.agg [SC.sl I6 z2.fst.fst,SC.sl I6 z2.fst.snd.fst,SC.sl I6.sl z2.fst.snd.snd.fst,SC.sl I6 z2.fst.snd.snd.snd.fst],cI (z2.snd)];aZ z3∧br (!decide (gZ z3 x (↑vs.length:Int)=(0:Int))) (rT z1 [SV.agg [SC.sl I6 [],SC.sl I6 [],SC.sl I6.sl [],SC.sl I6 []],cI (gZ z3 x (↑vs.length:Int))]) (br (decide (v < (-2147483648)) || decide (2147483647 < v)) (rT z1 [SV.agg [SC.sl I6 [],SC.sl I6 [],SC.sl I6.sl [],SC.sl I6 []],cI 2]) (aZ z3∧(0≤x∧x < (↑vs.length:Int))∧x.toNat < vs.length∧rT z1 [SV.agg [SC.sl I6 (vs.set x.toNat v),SC.sl I6 os,SC.sl I6.sl qs,SC.sl I6 sg],cI 0])):=by
 conv=>zeta
 delta cI rT I6;unfold writeM;refine⟨aA,ah.2 ⟨λh=>⟨rfl,?_⟩,λh=>?_⟩⟩
 ·rw[if_neg (by simpa using h)];rfl
 ·have h:gZ (vs,os,qs,sg,()) x vs.length=0:=by simpa using h
  have hx:=fO.1 h;rw[if_pos h];refine ah.2 ⟨λg=>⟨rfl,?_⟩,λg=>⟨aA,hx.2,by omega,rfl,?_⟩⟩
  ·rw[if_neg (by rw[lX];simp at g;omega)];rfl
  ·rw[if_pos (by rw[lX];simp at g;omega)]
theorem ac7:Go.aV.Met Tryz.prog aK.gd 100 XJ:=
 bW (cx:=aK) (n:=35) (cl:=[(158,CO),(49,nM)]) (rc:=[.data pY,.keep]) ay ⟨rZ,rY,trivial⟩ Tryz.func100 λd hd=>by
  obtain⟨⟨vs,os,qs,sg,⟨⟩⟩,x,v,⟨⟩⟩:=d;exact aH (λ_=>none) (air vs os qs sg x v hd) (by kernel_rfl)
abbrev O9:CT:={ ps:=[pY,.int .i64],pre:=λd=>aZ d.1,res:=λd=>([],vB (mF d.1 d.2.1)) }
theorem an4(vs os:List Int) (qs:List (List Int)) (sg:List Int) (i:Int) (aA:O9.pre ((vs,os,qs,sg,()),i,())):
 let z2:=(vs,os,qs,sg,());let z1:=gZ z2 i (↑os.length:Int)=(0:Int);aZ z2∧(decide z1=true→0≤i∧i < (↑os.length:Int))∧∀(d:Int),(decide z1=true→os[i.toNat]?=some d)→qB (mF z2 i) (decide z1 && decide (d=(-1))):=by
 conv=>zeta
 delta qB;unfold mF;refine⟨aA,λh=>(fO.1 (by simpa using h)).2,λd hd=>⟨rfl,?_⟩⟩
 by_cases h:gZ (vs,os,qs,sg,()) i os.length=0
 ·have:=hd (by simpa using h)
  simp[this]
 ·simp[h]
theorem Vb:Go.aV.Met Tryz.prog aK.gd 87 O9:=
 bW (cx:=aK) (n:=20) (cl:=[(158,CO)]) (rc:=[]) ay ⟨rZ,trivial⟩ Tryz.func87 λd hd=>by
  obtain⟨⟨vs,os,qs,sg,⟨⟩⟩,i,⟨⟩⟩:=d;exact aH (λ_=>none) (an4 vs os qs sg i hd) (by kernel_rfl)
abbrev Vd:CT:={ ps:=[pY,.int .i64,.int .i64,.int .i64,.int .i64],pre:=λd=>aZ d.1,res:=λd=>([],.gX [.agg [.sl (.int .i64) ((ig d.1 d.2.1 d.2.2.1 d.2.2.2.1 d.2.2.2.2.1).1).1,.sl (.int .i64) ((ig d.1 d.2.1 d.2.2.1 d.2.2.2.1 d.2.2.2.2.1).1).2.1,.sl (.sl (.int .i64)) ((ig d.1 d.2.1 d.2.2.1 d.2.2.2.1 d.2.2.2.2.1).1).2.2.1,.sl (.int .i64) ((ig d.1 d.2.1 d.2.2.1 d.2.2.2.1 d.2.2.2.2.1).1).2.2.2.1],.c (.v (.int .i64 ((ig d.1 d.2.1 d.2.2.1 d.2.2.2.1 d.2.2.2.2.1).2)))]) }
theorem ais(vs os:List Int) (qs:List (List Int)) (sg:List Int) (i id U9 to:Int) (aA:Vd.pre ((vs,os,qs,sg,()),i,id,U9,to,())):
 let z4:=(vs,os,qs,sg,());let z2:=ig z4 i id U9 to;let z1:=[SV.agg [SC.sl I6 z2.fst.fst,SC.sl I6 z2.fst.snd.fst,SC.sl I6.sl z2.fst.snd.snd.fst,SC.sl I6 z2.fst.snd.snd.snd.fst],cI (z2.snd)];let z3:=0≤i∧i < (↑os.length:Int);aZ z4∧br (!decide (gZ z4 i (↑os.length:Int)=(0:Int))) (rT z1 [SV.agg [SC.sl I6 [],SC.sl I6 [],SC.sl I6.sl [],SC.sl I6 []],cI (gZ z4 i (↑os.length:Int))]) (br (decide (id < 0)) (rT z1 [SV.agg [SC.sl I6 [],SC.sl I6 [],SC.sl I6.sl [],SC.sl I6 []],cI 2]) (z3∧∀(d:Int),os[i.toNat]?=some d→br (!decide (d=U9)) (rT z1 [SV.agg [SC.sl I6 [],SC.sl I6 [],SC.sl I6.sl [],SC.sl I6 []],cI 30]) (aZ z4∧z3∧i.toNat < os.length∧rT z1 [SV.agg [SC.sl I6 vs,SC.sl I6 (os.set i.toNat to),SC.sl I6.sl qs,SC.sl I6 sg],cI 0]))):=by
 conv=>zeta
 delta cI rT I6;unfold ig;refine⟨aA,ah.2 ⟨λh=>⟨rfl,?_⟩,λh=>?_⟩⟩
 ·rw[if_neg (by simpa using h)];rfl
 ·have h:gZ (vs,os,qs,sg,()) i os.length=0:=by simpa using h
  have hx:=fO.1 h;rw[if_pos h];refine ah.2 ⟨λg=>⟨rfl,?_⟩,λg=>⟨hx.2,λd hd=>?_⟩⟩
  ·rw[if_pos (by simpa using g)];rfl
  ·rw[if_neg (by simpa using g)]
   have e:(vs,os,qs,sg,()).2.1[i.toNat]?.getD 0=d:=by simp[hd]
   rw[e];refine ah.2 ⟨λg2=>⟨rfl,?_⟩,λg2=>⟨aA,hx.2,by omega,rfl,?_⟩⟩
   ·rw[if_neg (by simpa using g2)];rfl
   ·rw[if_pos (by simpa using g2)]
theorem Pe:Go.aV.Met Tryz.prog aK.gd 163 Vd:=
 bW (cx:=aK) (n:=43) (cl:=[(158,CO),(49,nM)]) (rc:=[.data pY,.keep]) ay ⟨rZ,rY,trivial⟩ Tryz.func163 λd hd=>by
  obtain⟨⟨vs,os,qs,sg,⟨⟩⟩,i,id,U9,to,⟨⟩⟩:=d;exact aH (λ_=>none) (ais vs os qs sg i id U9 to hd) (by kernel_rfl)
abbrev Jh:CT:={ ps:=[pY,.int .i64,.int .i64],pre:=λd=>aZ d.1,res:=λd=>([],.gX [.agg [.sl (.int .i64) ((ig d.1 d.2.1 d.2.2.1 (-1) d.2.2.1).1).1,.sl (.int .i64) ((ig d.1 d.2.1 d.2.2.1 (-1) d.2.2.1).1).2.1,.sl (.sl (.int .i64)) ((ig d.1 d.2.1 d.2.2.1 (-1) d.2.2.1).1).2.2.1,.sl (.int .i64) ((ig d.1 d.2.1 d.2.2.1 (-1) d.2.2.1).1).2.2.2.1],.c (.v (.int .i64 ((ig d.1 d.2.1 d.2.2.1 (-1) d.2.2.1).2)))]) }
theorem ait(vs os:List Int) (qs:List (List Int)) (sg:List Int) (i id:Int) (aA:Jh.pre ((vs,os,qs,sg,()),i,id,())):
 let z2:=ig (vs,os,qs,sg,()) i id (-1:Int) id;let z1:=z2.snd;aZ (vs,os,qs,sg,())∧rT [SV.agg [SC.sl I6 z2.fst.fst,SC.sl I6 z2.fst.snd.fst,SC.sl I6.sl z2.fst.snd.snd.fst,SC.sl I6 z2.fst.snd.snd.snd.fst],cI z1] [SV.agg [SC.sl I6 (z2.fst.fst,z2.fst.snd.fst,z2.fst.snd.snd.fst,z2.fst.snd.snd.snd.fst,()).fst,SC.sl I6 (z2.fst.snd.fst,z2.fst.snd.snd.fst,z2.fst.snd.snd.snd.fst,()).fst,SC.sl I6.sl (z2.fst.snd.snd.fst,z2.fst.snd.snd.snd.fst,()).fst,SC.sl I6 z2.fst.snd.snd.snd.fst],cI z1]:=by
 conv=>zeta
 delta cI rT I6;exact⟨aA,rfl,rfl⟩
theorem ac8:Go.aV.Met Tryz.prog aK.gd 101 Jh:=
 bW (cx:=aK) (n:=15) (cl:=[(163,Vd)]) (rc:=[.data pY,.keep]) ay ⟨Pe,trivial⟩ Tryz.func101 λd hd=>by
  obtain⟨⟨vs,os,qs,sg,⟨⟩⟩,i,id,⟨⟩⟩:=d;exact aH (λ_=>none) (ait vs os qs sg i id hd) (by kernel_rfl)
abbrev Ji:CT:={ ps:=[pY,.int .i64,.int .i64],pre:=λd=>aZ d.1,res:=λd=>([],.gX [.agg [.sl (.int .i64) ((ig d.1 d.2.1 d.2.2.1 d.2.2.1 (-1)).1).1,.sl (.int .i64) ((ig d.1 d.2.1 d.2.2.1 d.2.2.1 (-1)).1).2.1,.sl (.sl (.int .i64)) ((ig d.1 d.2.1 d.2.2.1 d.2.2.1 (-1)).1).2.2.1,.sl (.int .i64) ((ig d.1 d.2.1 d.2.2.1 d.2.2.1 (-1)).1).2.2.2.1],.c (.v (.int .i64 ((ig d.1 d.2.1 d.2.2.1 d.2.2.1 (-1)).2)))]) }
theorem aiu(vs os:List Int) (qs:List (List Int)) (sg:List Int) (i id:Int) (aA:Ji.pre ((vs,os,qs,sg,()),i,id,())):
 let z2:=ig (vs,os,qs,sg,()) i id id (-1:Int);let z1:=z2.snd;aZ (vs,os,qs,sg,())∧rT [SV.agg [SC.sl I6 z2.fst.fst,SC.sl I6 z2.fst.snd.fst,SC.sl I6.sl z2.fst.snd.snd.fst,SC.sl I6 z2.fst.snd.snd.snd.fst],cI z1] [SV.agg [SC.sl I6 (z2.fst.fst,z2.fst.snd.fst,z2.fst.snd.snd.fst,z2.fst.snd.snd.snd.fst,()).fst,SC.sl I6 (z2.fst.snd.fst,z2.fst.snd.snd.fst,z2.fst.snd.snd.snd.fst,()).fst,SC.sl I6.sl (z2.fst.snd.snd.fst,z2.fst.snd.snd.snd.fst,()).fst,SC.sl I6 z2.fst.snd.snd.snd.fst],cI z1]:=by
 conv=>zeta
 delta cI rT I6;exact⟨aA,rfl,rfl⟩
theorem ac9:Go.aV.Met Tryz.prog aK.gd 102 Ji:=
 bW (cx:=aK) (n:=15) (cl:=[(163,Vd)]) (rc:=[.data pY,.keep]) ay ⟨Pe,trivial⟩ Tryz.func102 λd hd=>by
  obtain⟨⟨vs,os,qs,sg,⟨⟩⟩,i,id,⟨⟩⟩:=d;exact aH (λ_=>none) (aiu vs os qs sg i id hd) (by kernel_rfl)
abbrev ada:CT:={ ps:=[pY,.int .i64],pre:=λd=>aZ d.1,res:=λd=>([],vB (pU d.1 d.2.1)) }
@[reducible] def an5 (vs os:List Int) (qs:List (List Int)) (sg:List Int) (id:Int):Nat→Option (St→iC):=λk=>match k with
  | 2=>some λ_=>.inv { α:=Nat,slots:=λk=>[(10,.c (.v (.int .i64 k)))],res:=λk=>[],inv:=λk=>k≤(qs).length∧∀j < k,∀q,qs[j]?=some q→dM q id=false,meas:=λk=>(qs).length - k }
  | _=>none
theorem aiv(vs os:List Int) (qs:List (List Int)) (sg:List Int) (id:Int) (aA:ada.pre ((vs,os,qs,sg,()),id,())):
 let z1:=λ(x:Nat)=>(x≤qs.length∧∀(j:Nat),j < x→∀(q:List Int),qs[j]?=some q→dM q id=false);let z2:=[g0 (aj.blk 34 [SC.sl I6 vs,SC.sl I6 os,SC.sl I6.sl qs,SC.sl I6 sg])];let z3:=pU (vs,os,qs,sg,()) id;(∃x,(z1 x)∧(cI 0=cI (↑x:Int)∧True)∧sm z2)∧∀(x:Nat),(z1 x)→br (decide ((↑x:Int) < (↑qs.length:Int))) ((0≤(↑x:Int)∧(↑x:Int) < (↑qs.length:Int))∧∀(d:List Int),qs[(↑x:Int).toNat]?=some d→d.length≤4611686018427387904∧br (dM d id) (qB z3 true) (cZ IntKind.i64 ((↑x:Int)+(1:Int))∧∃x',(z1 x')∧(cI ((↑x:Int)+(1:Int))=cI (↑x':Int)∧True)∧sm z2∧qs.length - x' < qs.length - x)) (sg.length≤1000000∧qB z3 (dM sg id)):=by
 conv=>zeta
 delta cI g0 qB sm I6;obtain⟨b1,b2,b3,b4,b5,b6⟩:vs.length≤1000∧os.length≤1000∧qs.length≤1000∧sg.length≤1000∧(∀q∈qs,q.length≤1000)∧qs.flatten.length≤100000:=aA;refine⟨⟨0,⟨by omega,λj hj=>by omega⟩,⟨rfl,trivial⟩,rfl⟩,λk hk=>ah.2 ⟨λg=>?_,λg=>?_⟩⟩
 ·simp only[dG]at g;refine⟨⟨by omega,by omega⟩,λd hd=>⟨?_,ah.2 ⟨λg2=>⟨rfl,?_⟩,λg2=>⟨au.2 (by omega),k+1,⟨by omega,λj hj q hq=>?_⟩,⟨rfl,trivial⟩,rfl,by omega⟩⟩⟩⟩
  ·have:=b5 d (iF hd);omega
  ·have:pU (vs,os,qs,sg,()) id=true:=by
    unfold pU;rw[AA];exact .inl (VR.2 ⟨d,iF hd,g2⟩)
   rw[this]
  ·by_cases gq:j=k
   ·subst gq;have hd:qs[j]?=some d:=hd;rw[hd]at hq;cases hq;exact g2
   ·exact hk.2 j (by omega) q hq
 simp only[dh]at g;have:pU (vs,os,qs,sg,()) id=dM sg id:=by
  unfold pU;have:(qs.any λq=>dM q id)=false:=by
   rw[P9];intro q hq;obtain⟨j,hj⟩:=wQ hq;rw[hk.2 j (by have:=(eU.1 hj).1;omega) q hj];simp
  simp[this]
 exact⟨by omega,rfl,by rw[this]⟩
theorem adb:Go.aV.Met Tryz.prog aK.gd 164 ada:=
 bW (cx:=aK) (n:=22) (cl:=[(98,FW),(165,IU)]) (rc:=[]) ay ⟨zN,zQ,trivial⟩ Tryz.func164 λd hd=>by
  obtain⟨⟨vs,os,qs,sg,⟨⟩⟩,id,⟨⟩⟩:=d;exact aH (an5 vs os qs sg id) (aiv vs os qs sg id hd) (by kernel_rfl)
def pV(m:MD) (c id:Int):MD×Int:=if gZ m c m.2.2.1.length=0 then(if id < 0 then(zM,2) else if pU m id=true then(zM,30) else((m.1,m.2.1,m.2.2.1.set c.toNat (m.2.2.1[c.toNat]?.getD []++[id]),m.2.2.2),0)) else(zM,gZ m c m.2.2.1.length)
def lu(sg l:List Int):List Int:=l.foldl (λs x=>aX (s++[x])) sg
theorem SB{sg l:List Int}{k:Nat}{d:Int} (h:l[k]?=some d):lu sg (l.take (k+1))=aX (lu sg (l.take k)++[d]):=by
 unfold lu;rw[Jt,h];simp
theorem BJ:∀(l sg:List Int),(lu sg l).length≤sg.length+l.length
 | [],sg=>by simp[lu]
 | x :: l,sg=>by
   have:=BJ l (aX (sg++[x]));have h2:=Af (sg++[x]) [];have e:lu sg (x :: l)=lu (aX (sg++[x])) l:=rfl;rw[e];unfold aX at *;simp only[kD,yK,LZ]at *;omega
def nY(m:MD) (c n:Int):MD×Int×Int:=if gZ m c m.2.2.1.length=0 then((m.1,m.2.1,m.2.2.1.set c.toNat ((m.2.2.1[c.toNat]?.getD []).drop (fU n ((m.2.2.1[c.toNat]?.getD []).length:Int)).toNat),lu m.2.2.2.1 ((m.2.2.1[c.toNat]?.getD []).take (fU n ((m.2.2.1[c.toNat]?.getD []).length:Int)).toNat),()),fU n ((m.2.2.1[c.toNat]?.getD []).length:Int),0) else(zM,0,gZ m c m.2.2.1.length)
def mG(m:MD) (id:Int):MD×Int:=if dI m=false then(zM,1) else if dM m.2.2.2.1 id=false then(zM,30) else((m.1,m.2.1,m.2.2.1,jl (aX m.2.2.2.1) [id] false,()),0)
def yF(vs:List VD) (ms cs:List ByteArray) (fs:List FD) (ts:List SD):MD×Int:=if(aB vs ms cs fs ts).1=0 then((vs.map (·.2.1),List.replicate ms.length (-1),List.replicate cs.length [],[],()),0) else(zM,(aB vs ms cs fs ts).1)
abbrev ade:CT:={ ps:=[pY,.int .i64,.int .i64],pre:=λd=>aZ d.1,res:=λd=>([],.gX [.agg [.sl (.int .i64) ((pV d.1 d.2.1 d.2.2.1).1).1,.sl (.int .i64) ((pV d.1 d.2.1 d.2.2.1).1).2.1,.sl (.sl (.int .i64)) ((pV d.1 d.2.1 d.2.2.1).1).2.2.1,.sl (.int .i64) ((pV d.1 d.2.1 d.2.2.1).1).2.2.2.1],.c (.v (.int .i64 ((pV d.1 d.2.1 d.2.2.1).2)))]) }
theorem aiw(vs os:List Int) (qs:List (List Int)) (sg:List Int) (c id:Int) (aA:ade.pre ((vs,os,qs,sg,()),c,id,())):
 let z8:=(vs,os,qs,sg,());let z6:=pV z8 c id;let z1:=[SV.agg [SC.sl I6 z6.fst.fst,SC.sl I6 z6.fst.snd.fst,SC.sl I6.sl z6.fst.snd.snd.fst,SC.sl I6 z6.fst.snd.snd.snd.fst],cI (z6.snd)];let z5:=0≤c∧c < (↑qs.length:Int);let z7:=c.toNat < qs.length;let z3:=decide z7=true∧c.toNat < qs.length;let z4:=λ(d:List Int)=>List.length (d)+List.length ([id]);let z2:=λ(d:List Int)=>[SV.agg [SC.sl I6 vs,SC.sl I6 os,SC.sl I6.sl (qs.set c.toNat ((d++[id]))),SC.sl I6 sg],cI 0];aZ z8∧br (!decide (gZ z8 c (↑qs.length:Int)=(0:Int))) (rT z1 [SV.agg [SC.sl I6 [],SC.sl I6 [],SC.sl I6.sl [],SC.sl I6 []],cI (gZ z8 c (↑qs.length:Int))]) (br (decide (id < 0)) (rT z1 [SV.agg [SC.sl I6 [],SC.sl I6 [],SC.sl I6.sl [],SC.sl I6 []],cI 2]) (aZ z8∧br (pU z8 id) (rT z1 [SV.agg [SC.sl I6 [],SC.sl I6 [],SC.sl I6.sl [],SC.sl I6 []],cI 30]) (aZ z8∧z5∧c.toNat < qs.length∧∀(d:List Int),qs[c.toNat]?=some d→false=false∧(decide z7=true→(z3∧∀(d:List Int),qs[c.toNat]?=some d→jS (z4 d) 8∧z5∧c.toNat < qs.length∧c.toNat=c.toNat∧∀(e0:List Int),qs[c.toNat]?=some e0→rT z1 (z2 d))∧(z3∧∀(d:List Int),qs[c.toNat]?=some d→jS (z4 d) 8∧z5∧c.toNat < qs.length∧c.toNat=c.toNat∧∀(e0:List Int),qs[c.toNat]?=some e0→rT z1 (z2 d))∧z3∧∀(d:List Int),qs[c.toNat]?=some d→jS (z4 d) 8∧z5∧c.toNat < qs.length∧c.toNat=c.toNat∧∀(e0:List Int),qs[c.toNat]?=some e0→rT z1 (z2 d))∧(decide z7=false→False∧False∧False)))):=by
 conv=>zeta
 delta cI rT I6;unfold pV;have hb:=aA;obtain⟨b1,b2,b3,b4,b5,b6⟩:vs.length≤1000∧os.length≤1000∧qs.length≤1000∧sg.length≤1000∧(∀q∈qs,q.length≤1000)∧qs.flatten.length≤100000:=aA;refine⟨hb,ah.2 ⟨λh=>⟨rfl,?_⟩,λh=>?_⟩⟩
 ·rw[if_neg (by simpa using h)];rfl
 have h:gZ (vs,os,qs,sg,()) c qs.length=0:=by simpa using h
 have hx:=fO.1 h;rw[if_pos h];refine ah.2 ⟨λg=>⟨rfl,?_⟩,λg=>⟨hb,ah.2 ⟨λw=>⟨rfl,?_⟩,λw=>⟨hb,hx.2,by omega,λd hd=>⟨rfl,?_⟩⟩⟩⟩⟩
 ·rw[if_pos (by simpa using g)];rfl
 ·rw[if_neg (by simpa using g),if_pos w];rfl
 rw[if_neg (by simpa using g),if_neg (by simpa using w)]
 have hc:decide (c.toNat < qs.length)=true:=by rw[dG];omega
 have hl:=b5 d (iF hd);have e:(vs,os,qs,sg,()).2.2.1[c.toNat]?.getD []=d:=by simp[hd]
 rw[e];have key:∀d':List Int,qs[c.toNat]?=some d'→d'=d:=λd' h'=>by rw[hd]at h';cases h';rfl
 have hI:jS (d.length+1) 8:=bI.2 (by omega)
 have hz:¬decide (c.toNat < qs.length)=false:=by rw[hc];simp
 refine⟨λ_=>?_,λq=>absurd q hz⟩
 have F:(decide (c.toNat < qs.length)=true∧c.toNat < qs.length):=⟨hc,by omega⟩
 repeat' first | exact F | (refine And.intro ?_ ?_)
 all_goals
  intro d' h';cases key d' h';exact⟨hI,hx.2,by omega,rfl,λ_ _=>⟨rfl,rfl⟩⟩
theorem adf:Go.aV.Met Tryz.prog aK.gd 103 ade:=
 bW (cx:=aK) (n:=42) (cl:=[(158,CO),(164,ada),(49,Jg)]) (rc:=[.data pY,.keep]) ay ⟨rZ,adb,ain,trivial⟩ Tryz.func103 λd hd=>by
  obtain⟨⟨vs,os,qs,sg,⟨⟩⟩,c,id,⟨⟩⟩:=d;exact aH (λ_=>none) (aiw vs os qs sg c id hd) (by kernel_rfl)
abbrev Ve:CT:={ ps:=[pY,.int .i64,.int .i64],pre:=λd=>aZ d.1∧0≤d.2.2.1,res:=λd=>([],.gX [.agg [.sl (.int .i64) ((nY d.1 d.2.1 d.2.2.1).1).1,.sl (.int .i64) ((nY d.1 d.2.1 d.2.2.1).1).2.1,.sl (.sl (.int .i64)) ((nY d.1 d.2.1 d.2.2.1).1).2.2.1,.sl (.int .i64) ((nY d.1 d.2.1 d.2.2.1).1).2.2.2.1],.c (.v (.int .i64 ((nY d.1 d.2.1 d.2.2.1).2.1))),.c (.v (.int .i64 ((nY d.1 d.2.1 d.2.2.1).2.2)))]) }
@[reducible] def an6 (vs os:List Int) (qs:List (List Int)) (sg:List Int) (c n:Int):Nat→Option (St→iC):=λk=>match k with
  | 7=>some λs=>.inv { α:=Nat,can:=[(5,.cell 6 3)],slots:=λk=>[(41,.c (.v (.int .i64 k)))],res:=λk=>[(5,.row 3 (.int .i64) (lu sg ((slotL (.int .i64) s 39).take k)))],inv:=λk=>k≤(slotL (.int .i64) s 39).length,meas:=λk=>(slotL (.int .i64) s 39).length - k }
  | _=>none
theorem aix(vs os:List Int) (qs:List (List Int)) (sg:List Int) (c n:Int) (aA:Ve.pre ((vs,os,qs,sg,()),c,n,())):
 let z10:=(vs,os,qs,sg,());let z9:=nY z10 c n;let z2:=[SV.agg [SC.sl I6 z9.fst.fst,SC.sl I6 z9.fst.snd.fst,SC.sl I6.sl z9.fst.snd.snd.fst,SC.sl I6 z9.fst.snd.snd.snd.fst],cI (z9.snd.fst),cI (z9.snd.snd)];let z8:=0≤c∧c < (↑qs.length:Int);let z6:=λ(d dH:List Int)=>List.take (fU n (↑d.length:Int)).toNat dH;let z5:=[SC.sl I6 vs,SC.sl I6 os,SC.sl I6.sl qs,SC.sl I6 sg];let z7:=[SC.row 2,SC.row 3,SC.row 4,SC.row 5];let z3:=λ(x:Nat) (d dH:List Int)=>lu sg (List.take x (List.drop 0 (z6 d dH)));let z1:=λ(x:Nat) (d dH:List Int)=>[g0 (aj.blk 34 z5),g0 (aj.blk 34 kq3),g0 (aj.row 3 I6 vs),g0 (aj.row 3 I6 os),g0 (aj.row 31 I6.sl qs),g0 (aj.row 3 I6 (z3 x d dH)),g0 (aj.blk 34 z7)];let z4:=λ(d dN:List Int)=>List.drop (fU n (↑d.length:Int)).toNat (List.take (↑dN.length:Int).toNat dN);aZ z10∧br (!decide (gZ z10 c (↑qs.length:Int)=(0:Int))) (rT z2 [SV.agg [SC.sl I6 [],SC.sl I6 [],SC.sl I6.sl [],SC.sl I6 []],cI 0,cI (gZ z10 c (↑qs.length:Int))]) (aZ z10∧z8∧c.toNat < qs.length∧∀(d:List Int),qs[c.toNat]?=some d→z8∧c.toNat < qs.length∧∀(dH:List Int),qs[c.toNat]?=some dH→((0:Int)≤(0:Int)∧0≤fU n (↑d.length:Int)∧fU n (↑d.length:Int)≤(↑dH.length:Int))∧(∃x,x≤List.length (List.drop 0 (z6 d dH))∧(cI 0=cI (↑x:Int)∧True)∧[g0 (aj.blk 34 z5),g0 (aj.blk 34 kq3),g0 (aj.row 3 I6 vs),g0 (aj.row 3 I6 os),g0 (aj.row 31 I6.sl qs),g0 (aj.row 3 I6 sg),g0 (aj.blk 34 z7)]=(z1 x d dH))∧∀(x:Nat),x≤List.length (List.drop 0 (z6 d dH))→br (decide ((↑x:Int) < (↑(List.drop 0 (z6 d dH)).length:Int))) ((0≤(↑x:Int)∧(↑x:Int) < (↑(List.drop 0 (z6 d dH)).length:Int))∧∀(dN:Int),(List.drop 0 (z6 d dH))[(↑x:Int).toNat]?=some dN→(z3 x d dH).length≤999999∧cZ IntKind.i64 ((↑x:Int)+(1:Int))∧∃x',x'≤List.length (List.drop 0 (z6 d dH))∧(cI ((↑x:Int)+(1:Int))=cI (↑x':Int)∧True)∧[g0 (aj.blk 34 z5),g0 (aj.blk 34 kq3),g0 (aj.row 3 I6 vs),g0 (aj.row 3 I6 os),g0 (aj.row 31 I6.sl qs),g0 (aj.row 3 I6 (aX (lu sg (List.take x (List.drop 0 (z6 d dH)))++[dN]))),g0 (aj.blk 34 z7)]=(z1 x' d dH)∧List.length (List.drop 0 (z6 d dH)) - x' < List.length (List.drop 0 (z6 d dH)) - x) (z8∧c.toNat < qs.length∧∀(dN:List Int),qs[c.toNat]?=some dN→(0≤fU n (↑d.length:Int)∧fU n (↑d.length:Int)≤(↑dN.length:Int)∧(↑dN.length:Int)≤(↑dN.length:Int))∧(z4 d dN).length≤1000000∧z8∧c.toNat < qs.length∧rT z2 [SV.agg [SC.sl I6 vs,SC.sl I6 os,SC.sl I6.sl (qs.set c.toNat (z4 d dN)),SC.sl I6 (z3 x d dH)],cI (fU n (↑d.length:Int)),cI 0])):=by
 conv=>zeta
 delta kq3 cI g0 rT I6;obtain⟨hb,hn⟩:aZ (vs,os,qs,sg,())∧0≤n:=aA;unfold nY;obtain⟨b1,b2,b3,b4,b5,b6⟩:vs.length≤1000∧os.length≤1000∧qs.length≤1000∧sg.length≤1000∧(∀q∈qs,q.length≤1000)∧qs.flatten.length≤100000:=id hb;refine⟨hb,ah.2 ⟨λh=>⟨rfl,?_⟩,λh=>?_⟩⟩
 ·rw[if_neg (by simpa using h)];rfl
 have h:gZ (vs,os,qs,sg,()) c qs.length=0:=by simpa using h
 have hx:=fO.1 h;rw[if_pos h];refine⟨hb,hx.2,by omega,λd hd=>⟨hx.2,by omega,λd1 hd1=>?_⟩⟩
 rw[hd]at hd1;cases hd1;have hl:=b5 d (iF hd);have e:(vs,os,qs,sg,()).2.2.1[c.toNat]?.getD []=d:=by simp[hd]
 rw[e];have hm:0≤fU n (d.length:Int)∧fU n (d.length:Int)≤d.length:=by unfold fU;split<;>omega
 generalize fU n (d.length:Int)=k at hm;rw[X7];have h2:(d.take k.toNat).length≤1000:=by rw[ku];omega
 refine⟨⟨by omega,hm⟩,⟨0,by omega,⟨rfl,trivial⟩,rfl⟩,λj hj=>ah.2 ⟨λg=>?_,λg=>?_⟩⟩
 ·simp only[dG]at g;refine⟨⟨by omega,by omega⟩,λx hx2=>⟨?_,au.2 (by omega),j+1,by omega,⟨rfl,trivial⟩,?_,by omega⟩⟩
  ·have:=BJ ((d.take k.toNat).take j) sg;rw[ku]at this;omega
  ·have hx2:(d.take k.toNat)[j]?=some x:=hx2;rw[SB hx2]
 simp only[dh]at g;refine⟨hx.2,by omega,λd2 hd2=>?_⟩
 rw[hd]at hd2;cases hd2;have e2:List.take (d.length:Int).toNat d=d:=tZ (by omega)
 rw[e2];refine⟨⟨by omega,by omega,by omega⟩,by rw[xB];omega,hx.2,by omega,rfl,?_⟩
 rw[tZ (i:=j) (by omega)]
theorem Pg:Go.aV.Met Tryz.prog aK.gd 166 Ve:=
 bW (cx:=aK) (n:=65) (cl:=[(158,CO),(111,Ot),(107,Jf),(49,nM)]) (rc:=[.data pY,.keep,.keep]) ay ⟨rZ,FX,Ag,rY,trivial⟩ Tryz.func166 λd hd=>by
  obtain⟨⟨vs,os,qs,sg,⟨⟩⟩,c,n,⟨⟩⟩:=d;exact aH (an6 vs os qs sg c n) (aix vs os qs sg c n hd) (by kernel_rfl)
abbrev Jj:CT:={ ps:=[pY,.int .i64],pre:=λd=>aZ d.1,res:=λd=>([],.gX [.agg [.sl (.int .i64) ((nY d.1 d.2.1 1).1).1,.sl (.int .i64) ((nY d.1 d.2.1 1).1).2.1,.sl (.sl (.int .i64)) ((nY d.1 d.2.1 1).1).2.2.1,.sl (.int .i64) ((nY d.1 d.2.1 1).1).2.2.2.1],.c (.v (.int .i64 ((nY d.1 d.2.1 1).2.1))),.c (.v (.int .i64 ((nY d.1 d.2.1 1).2.2)))]) }
theorem aiy(vs os:List Int) (qs:List (List Int)) (sg:List Int) (c:Int) (aA:Jj.pre ((vs,os,qs,sg,()),c,())):
 let z3:=nY (vs,os,qs,sg,()) c (1:Int);let z1:=z3.snd.fst;let z2:=z3.snd.snd;(aZ (vs,os,qs,sg,())∧(0:Int)≤(1:Int))∧rT [SV.agg [SC.sl I6 z3.fst.fst,SC.sl I6 z3.fst.snd.fst,SC.sl I6.sl z3.fst.snd.snd.fst,SC.sl I6 z3.fst.snd.snd.snd.fst],cI z1,cI z2] [SV.agg [SC.sl I6 (z3.fst.fst,z3.fst.snd.fst,z3.fst.snd.snd.fst,z3.fst.snd.snd.snd.fst,()).fst,SC.sl I6 (z3.fst.snd.fst,z3.fst.snd.snd.fst,z3.fst.snd.snd.snd.fst,()).fst,SC.sl I6.sl (z3.fst.snd.snd.fst,z3.fst.snd.snd.snd.fst,()).fst,SC.sl I6 z3.fst.snd.snd.snd.fst],cI z1,cI z2]:=by
 conv=>zeta
 delta cI rT I6;exact⟨⟨aA,by decide⟩,rfl,rfl⟩
theorem adg:Go.aV.Met Tryz.prog aK.gd 105 Jj:=
 bW (cx:=aK) (n:=13) (cl:=[(166,Ve)]) (rc:=[.data pY,.keep,.keep]) ay ⟨Pg,trivial⟩ Tryz.func105 λd hd=>by
  obtain⟨⟨vs,os,qs,sg,⟨⟩⟩,c,⟨⟩⟩:=d;exact aH (λ_=>none) (aiy vs os qs sg c hd) (by kernel_rfl)
abbrev Jk:CT:={ ps:=[pY,.int .i64],pre:=λd=>aZ d.1,res:=λd=>([],.gX [.agg [.sl (.int .i64) ((mG d.1 d.2.1).1).1,.sl (.int .i64) ((mG d.1 d.2.1).1).2.1,.sl (.sl (.int .i64)) ((mG d.1 d.2.1).1).2.2.1,.sl (.int .i64) ((mG d.1 d.2.1).1).2.2.2.1],.c (.v (.int .i64 ((mG d.1 d.2.1).2)))]) }
theorem aiz(vs os:List Int) (qs:List (List Int)) (sg:List Int) (id:Int) (aA:Jk.pre ((vs,os,qs,sg,()),id,())):
 let z3:=(vs,os,qs,sg,());let z2:=mG z3 id;let z1:=[SV.agg [SC.sl I6 z2.fst.fst,SC.sl I6 z2.fst.snd.fst,SC.sl I6.sl z2.fst.snd.snd.fst,SC.sl I6 z2.fst.snd.snd.snd.fst],cI (z2.snd)];aZ z3∧br (!dI z3) (rT z1 [SV.agg [SC.sl I6 [],SC.sl I6 [],SC.sl I6.sl [],SC.sl I6 []],cI 1]) (sg.length≤1000000∧br (!dM sg id) (rT z1 [SV.agg [SC.sl I6 [],SC.sl I6 [],SC.sl I6.sl [],SC.sl I6 []],cI 30]) (aZ z3∧sg.length≤1000000∧rT z1 [SV.agg [SC.sl I6 vs,SC.sl I6 os,SC.sl I6.sl qs,SC.sl I6 (jl (aX sg) [id] false)],cI 0])):=by
 conv=>zeta
 delta cI rT I6;have hb:=aA;obtain⟨b1,b2,b3,b4,b5,b6⟩:vs.length≤1000∧os.length≤1000∧qs.length≤1000∧sg.length≤1000∧(∀q∈qs,q.length≤1000)∧qs.flatten.length≤100000:=aA;unfold mG;refine⟨hb,ah.2 ⟨λh=>⟨rfl,?_⟩,λh=>⟨by omega,ah.2 ⟨λg=>⟨rfl,?_⟩,λg=>⟨hb,by omega,rfl,?_⟩⟩⟩⟩⟩
 ·rw[if_pos (by simpa using h)];rfl
 ·rw[if_neg (by simpa using h),if_pos (by simpa using g)];rfl
 ·rw[if_neg (by simpa using h),if_neg (by simpa using g)]
theorem adh:Go.aV.Met Tryz.prog aK.gd 104 Jk:=
 bW (cx:=aK) (n:=25) (cl:=[(157,ac6),(165,IU),(112,OD),(49,nM)]) (rc:=[.data pY,.keep]) ay ⟨Gw,zQ,Gm,rY,trivial⟩ Tryz.func104 λd hd=>by
  obtain⟨⟨vs,os,qs,sg,⟨⟩⟩,id,⟨⟩⟩:=d;exact aH (λ_=>none) (aiz vs os qs sg id hd) (by kernel_rfl)
abbrev SE:CT:={ ps:=[oH],pre:=λd=>bnd d,res:=λd=>([],.gX [.agg [.sl (.int .i64) ((yF d.1.1 d.1.2.1 d.1.2.2.1 d.1.2.2.2.1 d.1.2.2.2.2.1).1).1,.sl (.int .i64) ((yF d.1.1 d.1.2.1 d.1.2.2.1 d.1.2.2.2.1 d.1.2.2.2.2.1).1).2.1,.sl (.sl (.int .i64)) ((yF d.1.1 d.1.2.1 d.1.2.2.1 d.1.2.2.2.1 d.1.2.2.2.2.1).1).2.2.1,.sl (.int .i64) ((yF d.1.1 d.1.2.1 d.1.2.2.1 d.1.2.2.2.1 d.1.2.2.2.2.1).1).2.2.2.1],.c (.v (.int .i64 ((yF d.1.1 d.1.2.1 d.1.2.2.1 d.1.2.2.2.1 d.1.2.2.2.2.1).2)))]) }
@[reducible] def arv (vs:List VD) (ms cs:List ByteArray) (fs:List FD) (ts:List SD):Nat→Option (St→iC):=λk=>match k with
  | 6=>some λs=>.inv { α:=Nat,pF:=[(3,0,3,.int .i64)],slots:=λk=>[(28,.c (.v (.int .i64 k)))],res:=λk=>[(4,.row 3 (.int .i64) ((vs.take k).map (·.2.1)))],inv:=λk=>k≤vs.length,meas:=λk=>vs.length - k }
  | 11=>some λs=>.inv { α:=Nat,pF:=[(3,1,3,.int .i64)],slots:=λk=>[(43,.c (.v (.int .i64 k)))],res:=λk=>[(5,.row 3 (.int .i64) (List.replicate k (-1)))],inv:=λk=>k≤ms.length,meas:=λk=>ms.length - k }
  | _=>none
theorem an7(vs:List VD) (ms cs:List ByteArray) (fs:List FD) (ts:List SD) (aA:SE.pre ((vs,ms,cs,fs,ts,()),())):
 let z7:=yF vs ms cs fs ts;let z1:=[SV.agg [SC.sl I6 z7.fst.fst,SC.sl I6 z7.fst.snd.fst,SC.sl I6.sl z7.fst.snd.snd.fst,SC.sl I6 z7.fst.snd.snd.snd.fst],cI (z7.snd)];let z4:=[SC.sl aea vs,SC.sl Sh.str ms,SC.sl Sh.str cs,SC.sl kq2 fs,SC.sl aeb ts];let z3:=[SC.row (Nat.succ 0).succ.succ.succ,SC.v (Value.slice none 0 0),SC.row (Nat.succ 0).succ,SC.v (Value.slice none 0 0)];let z8:=λ(x:Nat)=>List.take x vs;let z6:=λ(x:Nat)=>(↑x:Int)+(1:Int);let z2:=[SC.row (Nat.succ 0).succ.succ.succ,SC.row (Nat.succ 0).succ.succ.succ.succ,SC.row (Nat.succ 0).succ,SC.v (Value.slice none 0 0)];let z5:=λ(x_1:Nat)=>List.replicate x_1 (-1:Int);(vs.length≤1000000∧ms.length≤1000000∧cs.length≤1000000∧fs.length≤1000000∧ts.length≤1000000∧(∀(x:ByteArray×((I6.pair (I6.pair (I6.pair (I6.pair (I6.pair (I6.pair (I6.pair (I6.pair Sh.unit)))))))).sl.pair Sh.unit).den),x∈fs→List.length x.snd.fst≤1000000)∧(dR fs).length≤1000000)∧br (!decide ((aB vs ms cs fs ts).fst=0)) (rT z1 [SV.agg [SC.sl I6 [],SC.sl I6 [],SC.sl I6.sl [],SC.sl I6 []],cI ((aB vs ms cs fs ts).fst)]) ((0≤(↑cs.length:Int)∧(↑cs.length:Int)≤(↑cs.length:Int)∧jS (↑cs.length:Int).toNat 24)∧(∃x,x≤vs.length∧(cI 0=cI (↑x:Int)∧True)∧[g0 (aj.blk 27 z4),g0 (aj.blk 34 kq3),g0 (aj.row 31 I6.sl (List.replicate (↑cs.length:Int).toNat [])),g0 (aj.blk 34 z3),g0 (aj.row 3 I6 [])]=[g0 (aj.blk 27 z4),g0 (aj.blk 34 kq3),g0 (aj.row 31 I6.sl (List.replicate (↑cs.length:Int).toNat [])),g0 (aj.blk 34 z3),g0 (aj.row 3 I6 (List.map (λx=>x.snd.fst) (List.take x vs)))])∧∀(x:Nat),x≤vs.length→br (decide ((↑x:Int) < (↑vs.length:Int))) ((0≤(↑x:Int)∧(↑x:Int) < (↑vs.length:Int))∧∀(d:ByteArray×(I6.pair Sh.unit).den),vs[(↑x:Int).toNat]?=some d→jS (List.length (List.map (λx=>x.snd.fst) (z8 x))+List.length ([d.snd.fst])) 8∧cZ IntKind.i64 (z6 x)∧∃x',x'≤vs.length∧(cI (z6 x)=cI (↑x':Int)∧True)∧[g0 (aj.blk 27 z4),g0 (aj.blk 34 kq3),g0 (aj.row 31 I6.sl (List.replicate (↑cs.length:Int).toNat [])),g0 (aj.blk 34 z3),g0 (aj.row 3 I6 (List.map (λx=>x.snd.fst) (z8 x)++[d.snd.fst]))]=[g0 (aj.blk 27 z4),g0 (aj.blk 34 kq3),g0 (aj.row 31 I6.sl (List.replicate (↑cs.length:Int).toNat [])),g0 (aj.blk 34 z3),g0 (aj.row 3 I6 (List.map (λx=>x.snd.fst) (List.take x' vs)))]∧vs.length - x' < vs.length - x) ((∃x_1,x_1≤ms.length∧(cI 0=cI (↑x_1:Int)∧True)∧[g0 (aj.blk 27 z4),g0 (aj.blk 34 kq3),g0 (aj.row 31 I6.sl (List.replicate (↑cs.length:Int).toNat [])),g0 (aj.blk 34 z2),g0 (aj.row 3 I6 (List.map (λx=>x.snd.fst) (z8 x))),g0 (aj.row 3 I6 [])]=[g0 (aj.blk 27 z4),g0 (aj.blk 34 kq3),g0 (aj.row 31 I6.sl (List.replicate (↑cs.length:Int).toNat [])),g0 (aj.blk 34 z2),g0 (aj.row 3 I6 (List.map (λx=>x.snd.fst) (z8 x))),g0 (aj.row 3 I6 (z5 x_1))])∧∀(x_1:Nat),x_1≤ms.length→br (decide ((↑x_1:Int) < (↑ms.length:Int))) (jS (List.length (z5 x_1)+1) 8∧cZ IntKind.i64 (z6 x_1)∧∃x',x'≤ms.length∧(cI (z6 x_1)=cI (↑x':Int)∧True)∧[g0 (aj.blk 27 z4),g0 (aj.blk 34 kq3),g0 (aj.row 31 I6.sl (List.replicate (↑cs.length:Int).toNat [])),g0 (aj.blk 34 z2),g0 (aj.row 3 I6 (List.map (λx=>x.snd.fst) (z8 x))),g0 (aj.row 3 I6 (List.replicate x_1 (-1:Int)++[(-1:Int)]))]=[g0 (aj.blk 27 z4),g0 (aj.blk 34 kq3),g0 (aj.row 31 I6.sl (List.replicate (↑cs.length:Int).toNat [])),g0 (aj.blk 34 z2),g0 (aj.row 3 I6 (List.map (λx=>x.snd.fst) (z8 x))),g0 (aj.row 3 I6 (List.replicate x' (-1:Int)))]∧ms.length - x' < ms.length - x_1) (rT z1 [SV.agg [SC.sl I6 (List.map (λx=>x.snd.fst) (z8 x)),SC.sl I6 (z5 x_1),SC.sl I6.sl (List.replicate (↑cs.length:Int).toNat []),SC.sl I6 []],cI 0]))):=by
 conv=>zeta
 delta aea kq2 aeb kq3 cI g0 rT I6;have hb:vs.length≤1000000∧ms.length≤1000000∧cs.length≤1000000:=⟨aA.1,aA.2.1,aA.2.2.1⟩;obtain⟨b1,b2,b3⟩:=hb;unfold yF;refine⟨aA,ah.2 ⟨λh=>⟨rfl,?_⟩,λh=>?_⟩⟩
 ·rw[if_neg (by simpa using h)];rfl
 rw[if_pos (by simpa using h)]
 refine⟨⟨by omega,by omega,bI.2 (by omega)⟩,⟨0,by omega,⟨rfl,trivial⟩,rfl⟩,λk hk=>ah.2 ⟨λg=>?_,λg=>?_⟩⟩
 ·simp only[dG]at g;refine⟨⟨by omega,by omega⟩,λd hd=>⟨bI.2 ?_,au.2 (by omega),k+1,by omega,⟨rfl,trivial⟩,?_,by omega⟩⟩
  ·simp only[A87,ku,yK,LZ];omega
  ·have hd:vs[k]?=some d:=hd;have e:List.map (λx:VD=>x.snd.fst) (List.take (k+1) vs)=List.map (λx:VD=>x.snd.fst) (List.take k vs)++[d.2.1]:=by rw[Jt,hd];simp
   rw[e]
 simp only[dh]at g;rw[tZ (i:=k) (by omega)]
 refine⟨⟨0,by omega,⟨rfl,trivial⟩,rfl⟩,λj hj=>ah.2 ⟨λg2=>?_,λg2=>?_⟩⟩
 ·simp only[dG]at g2;refine⟨bI.2 ?_,au.2 (by omega),j+1,by omega,⟨rfl,trivial⟩,?_,by omega⟩
  ·simp only[wM];omega
  ·have e:List.replicate (j+1) (-1:Int)=List.replicate j (-1)++[-1]:=List.replicate_succ';rw[show List.replicate (j+1) (-1:(Sh.int IntKind.i64).den)=List.replicate j (-1)++[-1] from e]
 simp only[dh]at g2;have ej:j=ms.length:=by omega
 subst ej;exact⟨rfl,rfl⟩
theorem aiA:Go.aV.Met Tryz.prog aK.gd 33 SE:=
 bW (cx:=aK) (n:=52) (cl:=[(74,IY)]) (rc:=[.data pY,.keep]) ay ⟨DC,trivial⟩ Tryz.func33 λd hd=>by
  obtain⟨⟨vs,ms,cs,fs,ts,⟨⟩⟩,⟨⟩⟩:=d;exact aH (arv vs ms cs fs ts) (an7 vs ms cs fs ts hd) (by kernel_rfl)
end
end Go.Proofs.YtjhenjhcbcalpaaGreatDoor
