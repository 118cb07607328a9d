/- Texts of this claim, part 11: M8, M9, M10, X1, Y1, Y2, Y3, Y4, Y5, M6. Conditions: those of the given rows. -/
import Derived.Test.YtjhenjhcbcalpaaGreatDoorB10
set_option linter.unusedSimpArgs false
set_option linter.unusedVariables false
set_option maxRecDepth 1000000
set_option maxHeartbeats 8000000
namespace Go.Proofs.YtjhenjhcbcalpaaGreatDoor
open Go Go.aV
noncomputable section
def jI(p:PD) (m:MD):Bool:=decide ((aB p.1 p.2.1 p.2.2.1 p.2.2.2.1 p.2.2.2.2.1).1=0) && dI m && decide (m.1.length=p.1.length) && decide (m.2.1.length=p.2.1.length) && decide (m.2.2.1.length=p.2.2.1.length)
theorem aev{vs:List VD}{ms cs:List ByteArray}{fs:List FD}{ts:List SD} (h:XF vs ms cs fs ts=true):vs.length≤1000∧ms.length≤1000∧cs.length≤1000:=by
 unfold XF at h;rw[A8,dG]at h;omega
theorem akA{vs:List VD}{ms cs:List ByteArray}{fs:List FD}{ts:List SD} (h:vs.length≤1000∧ms.length≤1000∧cs.length≤1000):aZ (yF vs ms cs fs ts).1:=by
 unfold yF;split
 ·refine⟨by simp only[A87];omega,by simp only[wM];omega,by simp only[wM];omega,XY _,λq hq=>?_,?_⟩
  ·rw[List.eq_of_mem_replicate hq];exact XY _
  ·have:(List.replicate cs.length ([]:List Int)).flatten=[]:=by simp
   show(List.replicate cs.length ([]:List Int)).flatten.length≤_;rw[this];exact XY _
 ·exact(⟨by decide,by decide,by decide,by decide,by decide,by decide⟩:aZ zM)
theorem aiF(vs:List VD) (ms cs:List ByteArray) (fs:List FD) (ts:List SD) (aA:abV.pre ((vs,ms,cs,fs,ts,()),())):
 let z1:=decide ((aB vs ms cs fs ts).fst=0);(vs.length≤1000000∧ms.length≤1000000∧cs.length≤1000000∧fs.length≤1000000∧ts.length≤1000000∧(∀(x:ByteArray×((I6.pair (I6.pair (I6.pair (I6.pair (I6.pair (I6.pair (I6.pair (I6.pair Sh.unit)))))))).sl.pair Sh.unit).den),x∈fs→List.length x.snd.fst≤1000000)∧(dR fs).length≤1000000)∧qB z1 z1:=by
 conv=>zeta
 delta qB I6;exact⟨aA,rfl,rfl⟩
theorem adn:Go.aV.Met Tryz.prog aK.gd 156 abV:=
 jC (cx:=aK) (n:=14) (cl:=[(74,IY)]) ay ⟨DC,trivial⟩ Tryz.func156 λd hd=>by
  obtain⟨⟨vs,ms,cs,fs,ts,⟨⟩⟩,⟨⟩⟩:=d;exact aH (λ_=>none) (aiF vs ms cs fs ts hd) (by kernel_rfl)
abbrev XK:CT:={ ps:=[oH,pY],pre:=λd=>bnd (d.1,())∧aZ d.2.1,res:=λd=>([],vB (jI d.1 d.2.1)) }
theorem aob(vs:List VD) (ms cs:List ByteArray) (fs:List FD) (ts:List SD) (ws os:List Int) (qs:List (List Int)) (sg:List Int) (aA:XK.pre ((vs,ms,cs,fs,ts,()),(ws,os,qs,sg,()),())):
 let z1:=(aB vs ms cs fs ts).fst=0;let z2:=(ws,os,qs,sg,());(vs.length≤1000000∧ms.length≤1000000∧cs.length≤1000000∧fs.length≤1000000∧ts.length≤1000000∧(∀(x:ByteArray×((I6.pair (I6.pair (I6.pair (I6.pair (I6.pair (I6.pair (I6.pair (I6.pair Sh.unit)))))))).sl.pair Sh.unit).den),x∈fs→List.length x.snd.fst≤1000000)∧(dR fs).length≤1000000)∧(decide z1=true→aZ z2)∧qB (jI (vs,ms,cs,fs,ts,()) z2) (decide z1 && dI z2 && decide ((↑ws.length:Int)=(↑vs.length:Int)) && decide ((↑os.length:Int)=(↑ms.length:Int)) && decide ((↑qs.length:Int)=(↑cs.length:Int))):=by
 conv=>zeta
 delta qB I6;obtain⟨h1,h2⟩:=aA;refine⟨h1,λ_=>h2,rfl,?_⟩
 unfold jI;simp only[Int.ofNat_inj]
theorem aiG:Go.aV.Met Tryz.prog aK.gd 84 XK:=
 bW (cx:=aK) (n:=38) (cl:=[(156,abV),(157,ac6)]) (rc:=[]) ay ⟨adn,Gw,trivial⟩ Tryz.func84 λd hd=>by
  obtain⟨⟨vs,ms,cs,fs,ts,⟨⟩⟩,⟨ws,os,qs,sg,⟨⟩⟩,⟨⟩⟩:=d;exact aH (λ_=>none) (aob vs ms cs fs ts ws os qs sg hd) (by kernel_rfl)
@[reducible] def asj (vs:List VD) (ms cs:List ByteArray) (fs:List FD) (ts:List SD):Nat→Option (St→iC):=λk=>match k with
  | 6=>some λs=>.inv { α:=Nat,pF:=[(2,0,3,.int .i64)],slots:=λk=>[(8,.c (.v (.int .i64 k)))],res:=λk=>[(3,.row 3 (.int .i64) ((vs.take k).map (·.2.1)))],inv:=λk=>k≤vs.length,meas:=λk=>vs.length - k }
  | 10=>some λs=>.inv { α:=Nat,pF:=[(2,1,3,.int .i64)],slots:=λk=>[(9,.c (.v (.int .i64 k)))],res:=λk=>[(4,.row 3 (.int .i64) (List.replicate k (-1)))],inv:=λk=>k≤ms.length,meas:=λk=>ms.length - k }
  | 14=>some λs=>.inv { α:=Nat,pF:=[(2,2,31,.sl (.int .i64))],slots:=λk=>[(10,.c (.v (.int .i64 k)))],res:=λk=>[(5,.row 31 (.sl (.int .i64)) (List.replicate k []))],inv:=λk=>k≤cs.length,meas:=λk=>cs.length - k }
  | _=>none
theorem apQ(vs:List VD) (ms cs:List ByteArray) (fs:List FD) (ts:List SD) (aA:SE.pre ((vs,ms,cs,fs,ts,()),())):
 let z9:=yF vs ms cs fs ts;let z1:=[SV.agg [SC.sl I6 z9.fst.fst,SC.sl I6 z9.fst.snd.fst,SC.sl I6.sl z9.fst.snd.snd.fst,SC.sl I6 z9.fst.snd.snd.snd.fst],cI (z9.snd)];let z5:=[SC.sl aea vs,SC.sl Sh.str ms,SC.sl Sh.str cs,SC.sl kq2 fs,SC.sl aeb ts];let z4:=[SC.row (Nat.succ 0).succ.succ,SC.v (Value.slice none 0 0),SC.v (Value.slice none 0 0),SC.v (Value.slice none 0 0)];let z10:=λ(x:Nat)=>List.take x vs;let z8:=λ(x:Nat)=>(↑x:Int)+(1:Int);let z3:=[SC.row (Nat.succ 0).succ.succ,SC.row (Nat.succ 0).succ.succ.succ,SC.v (Value.slice none 0 0),SC.v (Value.slice none 0 0)];let z7:=λ(x_1:Nat)=>List.replicate x_1 (-1:Int);let z2:=[SC.row (Nat.succ 0).succ.succ,SC.row (Nat.succ 0).succ.succ.succ,SC.row (Nat.succ 0).succ.succ.succ.succ,SC.v (Value.slice none 0 0)];let z6:=λ(x_2:Nat)=>List.replicate x_2 ([]:List Int);(vs.length≤1000000∧ms.length≤1000000∧cs.length≤1000000∧fs.length≤1000000∧ts.length≤1000000∧(∀(x:ByteArray×((I6.pair (I6.pair (I6.pair (I6.pair (I6.pair (I6.pair (I6.pair (I6.pair Sh.unit)))))))).sl.pair Sh.unit).den),x∈fs→List.length x.snd.fst≤1000000)∧(dR fs).length≤1000000)∧br (!decide ((aB vs ms cs fs ts).fst=0)) (rT z1 [SV.agg [SC.sl I6 [],SC.sl I6 [],SC.sl I6.sl [],SC.sl I6 []],cI ((aB vs ms cs fs ts).fst)]) ((∃x,x≤vs.length∧(cI 0=cI (↑x:Int)∧True)∧[g0 (aj.blk 27 z5),g0 (aj.blk 34 kq3),g0 (aj.blk 34 z4),g0 (aj.row 3 I6 [])]=[g0 (aj.blk 27 z5),g0 (aj.blk 34 kq3),g0 (aj.blk 34 z4),g0 (aj.row 3 I6 (List.map (λx=>x.snd.fst) (List.take x vs)))])∧∀(x:Nat),x≤vs.length→br (decide ((↑x:Int) < (↑vs.length:Int))) ((0≤(↑x:Int)∧(↑x:Int) < (↑vs.length:Int))∧∀(d:ByteArray×(I6.pair Sh.unit).den),vs[(↑x:Int).toNat]?=some d→jS (List.length (List.map (λx=>x.snd.fst) (z10 x))+List.length ([d.snd.fst])) 8∧cZ IntKind.i64 (z8 x)∧∃x',x'≤vs.length∧(cI (z8 x)=cI (↑x':Int)∧True)∧[g0 (aj.blk 27 z5),g0 (aj.blk 34 kq3),g0 (aj.blk 34 z4),g0 (aj.row 3 I6 (List.map (λx=>x.snd.fst) (z10 x)++[d.snd.fst]))]=[g0 (aj.blk 27 z5),g0 (aj.blk 34 kq3),g0 (aj.blk 34 z4),g0 (aj.row 3 I6 (List.map (λx=>x.snd.fst) (List.take x' vs)))]∧vs.length - x' < vs.length - x) ((∃x_1,x_1≤ms.length∧(cI 0=cI (↑x_1:Int)∧True)∧[g0 (aj.blk 27 z5),g0 (aj.blk 34 kq3),g0 (aj.blk 34 z3),g0 (aj.row 3 I6 (List.map (λx=>x.snd.fst) (z10 x))),g0 (aj.row 3 I6 [])]=[g0 (aj.blk 27 z5),g0 (aj.blk 34 kq3),g0 (aj.blk 34 z3),g0 (aj.row 3 I6 (List.map (λx=>x.snd.fst) (z10 x))),g0 (aj.row 3 I6 (z7 x_1))])∧∀(x_1:Nat),x_1≤ms.length→br (decide ((↑x_1:Int) < (↑ms.length:Int))) (jS (List.length (z7 x_1)+1) 8∧cZ IntKind.i64 (z8 x_1)∧∃x',x'≤ms.length∧(cI (z8 x_1)=cI (↑x':Int)∧True)∧[g0 (aj.blk 27 z5),g0 (aj.blk 34 kq3),g0 (aj.blk 34 z3),g0 (aj.row 3 I6 (List.map (λx=>x.snd.fst) (z10 x))),g0 (aj.row 3 I6 (List.replicate x_1 (-1:Int)++[(-1:Int)]))]=[g0 (aj.blk 27 z5),g0 (aj.blk 34 kq3),g0 (aj.blk 34 z3),g0 (aj.row 3 I6 (List.map (λx=>x.snd.fst) (z10 x))),g0 (aj.row 3 I6 (List.replicate x' (-1:Int)))]∧ms.length - x' < ms.length - x_1) ((∃x_2,x_2≤cs.length∧(cI 0=cI (↑x_2:Int)∧True)∧[g0 (aj.blk 27 z5),g0 (aj.blk 34 kq3),g0 (aj.blk 34 z2),g0 (aj.row 3 I6 (List.map (λx=>x.snd.fst) (z10 x))),g0 (aj.row 3 I6 (z7 x_1)),g0 (aj.row 31 I6.sl [])]=[g0 (aj.blk 27 z5),g0 (aj.blk 34 kq3),g0 (aj.blk 34 z2),g0 (aj.row 3 I6 (List.map (λx=>x.snd.fst) (z10 x))),g0 (aj.row 3 I6 (z7 x_1)),g0 (aj.row 31 I6.sl (z6 x_2))])∧∀(x_2:Nat),x_2≤cs.length→br (decide ((↑x_2:Int) < (↑cs.length:Int))) (jS (List.length (z6 x_2)+1) 24∧cZ IntKind.i64 (z8 x_2)∧∃x',x'≤cs.length∧(cI (z8 x_2)=cI (↑x':Int)∧True)∧[g0 (aj.blk 27 z5),g0 (aj.blk 34 kq3),g0 (aj.blk 34 z2),g0 (aj.row 3 I6 (List.map (λx=>x.snd.fst) (z10 x))),g0 (aj.row 3 I6 (z7 x_1)),g0 (aj.row 31 I6.sl (List.replicate x_2 ([]:List Int)++[[]]))]=[g0 (aj.blk 27 z5),g0 (aj.blk 34 kq3),g0 (aj.blk 34 z2),g0 (aj.row 3 I6 (List.map (λx=>x.snd.fst) (z10 x))),g0 (aj.row 3 I6 (z7 x_1)),g0 (aj.row 31 I6.sl (List.replicate x' []))]∧cs.length - x' < cs.length - x_2) (rT z1 [SV.agg [SC.sl I6 (List.map (λx=>x.snd.fst) (z10 x)),SC.sl I6 (z7 x_1),SC.sl I6.sl (z6 x_2),SC.sl I6 []],cI 0])))):=by
 conv=>zeta
 delta aea kq2 aeb kq3 cI g0 rT I6;have hb:vs.length≤1000000∧ms.length≤1000000∧cs.length≤1000000:=⟨aA.1,aA.2.1,aA.2.2.1⟩;obtain⟨b1,b2,b3⟩:=hb;unfold yF;refine⟨aA,ah.2 ⟨λh=>⟨rfl,?_⟩,λh=>?_⟩⟩
 ·rw[if_neg (by simpa using h)];rfl
 rw[if_pos (by simpa using h)]
 refine⟨⟨0,by omega,⟨rfl,trivial⟩,rfl⟩,λk hk=>ah.2 ⟨λg=>?_,λg=>?_⟩⟩
 ·simp only[dG]at g;have e:∀d:VD,vs[k]?=some d→List.map (λx:VD=>x.snd.fst) (List.take (k+1) vs)=List.map (λx:VD=>x.snd.fst) (List.take k vs)++[d.2.1]:=λd hd=>by rw[Jt,hd];simp
  refine⟨⟨by omega,by omega⟩,λd hd=>⟨bI.2 ?_,au.2 (by omega),k+1,by omega,⟨rfl,trivial⟩,?_,by omega⟩⟩
  ·simp only[A87,ku,yK,LZ];omega
  ·rw[e d hd]
 simp only[dh]at g;rw[tZ (i:=k) (by omega)]
 refine⟨⟨0,by omega,⟨rfl,trivial⟩,rfl⟩,λj hj=>ah.2 ⟨λg2=>?_,λg2=>?_⟩⟩
 ·simp only[dG]at g2;refine⟨bI.2 ?_,au.2 (by omega),j+1,by omega,⟨rfl,trivial⟩,?_,by omega⟩
  ·simp only[wM];omega
  ·have e:List.replicate (j+1) (-1:Int)=List.replicate j (-1)++[-1]:=List.replicate_succ';rw[show List.replicate (j+1) (-1:(Sh.int IntKind.i64).den)=List.replicate j (-1)++[-1] from e]
 simp only[dh]at g2;have ej:j=ms.length:=by omega
 subst ej;refine⟨⟨0,by omega,⟨rfl,trivial⟩,rfl⟩,λj hj=>ah.2 ⟨λg3=>?_,λg3=>?_⟩⟩
 ·simp only[dG]at g3;refine⟨bI.2 ?_,au.2 (by omega),j+1,by omega,⟨rfl,trivial⟩,?_,by omega⟩
  ·simp only[wM];omega
  ·have e:List.replicate (j+1) ([]:List Int)=List.replicate j []++[[]]:=List.replicate_succ';rw[show List.replicate (j+1) ([]:(Sh.int IntKind.i64).sl.den)=List.replicate j []++[[]] from e]
 simp only[dh]at g3;have ej:j=cs.length:=by omega
 subst ej;exact⟨rfl,rfl⟩
theorem akB:Go.aV.Met Tryz.prog aK.gd 35 SE:=
 bW (cx:=aK) (n:=64) (cl:=[(66,F6)]) (rc:=[.data pY,.keep]) ay ⟨KP,trivial⟩ Tryz.func35 λd hd=>by
  obtain⟨⟨vs,ms,cs,fs,ts,⟨⟩⟩,⟨⟩⟩:=d;exact aH (asj vs ms cs fs ts) (apQ vs ms cs fs ts hd) (by kernel_rfl)
@[reducible] def aod (l m:List Int):Nat→Option (St→iC):=λk=>match k with
  | 4=>some λ_=>.inv { α:=Nat,slots:=λk=>[(13,.c (.v (.int .i64 k)))],res:=λk=>[],inv:=λk=>k≤(l).length∧∀j < k,l[j]?=m[j]?,meas:=λk=>(l).length - k }
  | _=>none
theorem aiI(l m:List Int) (aA:pR.pre (l,m,())):
 let z2:=qB (decide (l=m)) false;let z1:=λ(x:Nat)=>(x≤l.length∧∀(j:Nat),j < x→l[j]?=m[j]?);br (!decide ((↑l.length:Int)=(↑m.length:Int))) z2 ((∃x,(z1 x)∧(cI 0=cI (↑x:Int)∧True)∧([]:List aal)=[])∧∀(x:Nat),(z1 x)→br (decide ((↑x:Int) < (↑l.length:Int))) ((0≤(↑x:Int)∧(↑x:Int) < (↑l.length:Int))∧∀(d:Int),l[(↑x:Int).toNat]?=some d→(0≤(↑x:Int)∧(↑x:Int) < (↑m.length:Int))∧∀(dH:Int),m[(↑x:Int).toNat]?=some dH→br (!decide (d=dH)) z2 (cZ IntKind.i64 ((↑x:Int)+(1:Int))∧∃x',(z1 x')∧(cI ((↑x:Int)+(1:Int))=cI (↑x':Int)∧True)∧([]:List aal)=[]∧l.length - x' < l.length - x)) (qB (decide (l=m)) true)):=by
 conv=>zeta
 delta aal cI qB;have hp:l.length≤1000000:=aA;have fF:l≠m→([]:List Go.aV.aj)=[]∧aT.one (SV.c (SC.v (Value.bool (decide (l=m)))))=aT.one (SV.c (SC.v (Value.bool false))):=λq=>⟨rfl,by rw[Ed q]⟩
 refine ah.2 ⟨λh=>fF λq=>?_,λh=>?_⟩
 ·subst q;simp at h
 simp only[yI,dG]at h;refine⟨⟨0,⟨by omega,λj hj=>by omega⟩,⟨rfl,trivial⟩,rfl⟩,λk hk=>ah.2 ⟨λg=>?_,λg=>?_⟩⟩
 ·simp only[dG]at g;refine⟨⟨by omega,by omega⟩,λd hd=>⟨⟨by omega,by omega⟩,λd1 hd1=>ah.2 ⟨λg2=>fF λq=>?_,λg2=>⟨au.2 (by omega),k+1,⟨by omega,λj hj=>?_⟩,⟨rfl,trivial⟩,rfl,by omega⟩⟩⟩⟩
  ·subst q;rw[hd]at hd1;cases hd1;simp at g2
  ·by_cases gq:j=k
   ·subst gq;have hd:l[j]?=some d:=hd;have hd1:m[j]?=some d1:=hd1;simp at g2;rw[hd,hd1,g2]
   ·exact hk.2 j (by omega)
 simp only[dh]at g;have e:l=m:=by
  apply yJ;intro j
  by_cases hj:j < k
  ·exact hk.2 j hj
  ·rw[qJ (by omega),qJ (by omega)]
 exact⟨rfl,by rw[L6 e]⟩
theorem Gx:Go.aV.Met Tryz.prog aK.gd 127 pR:=
 bW (cx:=aK) (n:=26) (cl:=[]) (rc:=[]) ay trivial Tryz.func127 λd hd=>by
  obtain⟨l,m,⟨⟩⟩:=d;exact aH (aod l m) (aiI l m hd) (by kernel_rfl)
theorem aiJ(l m:List Int) (aA:pR.pre (l,m,())):
 l.length≤1000000∧qB (decide (l=m)) (decide (l=m)):=by
 delta qB;exact⟨aA,rfl,rfl⟩
theorem ado:Go.aV.Met Tryz.prog aK.gd 129 pR:=
 bW (cx:=aK) (n:=8) (cl:=[(127,pR)]) (rc:=[]) ay ⟨Gx,trivial⟩ Tryz.func129 λd hd=>by
  obtain⟨l,m,⟨⟩⟩:=d;exact aH (λ_=>none) (aiJ l m hd) (by kernel_rfl)
abbrev adp:CT:={ ps:=[.sl (.sl (.int .i64)),.sl (.sl (.int .i64))],pre:=λd=>d.1.length≤1000000∧∀q∈d.1,q.length≤1000000,res:=λd=>([],vB (decide (d.1=d.2.1))) }
@[reducible] def aoe (l m:List (List Int)):Nat→Option (St→iC):=λk=>match k with
  | 4=>some λ_=>.inv { α:=Nat,slots:=λk=>[(17,.c (.v (.int .i64 k)))],res:=λk=>[],inv:=λk=>k≤(l).length∧∀j < k,l[j]?=m[j]?,meas:=λk=>(l).length - k }
  | _=>none
theorem aiK(l m:List (List Int)) (aA:adp.pre (l,m,())):
 let z2:=qB (decide (l=m)) false;let z1:=λ(x:Nat)=>(x≤l.length∧∀(j:Nat),j < x→l[j]?=m[j]?);br (!decide ((↑l.length:Int)=(↑m.length:Int))) z2 ((∃x,(z1 x)∧(cI 0=cI (↑x:Int)∧True)∧([]:List aal)=[])∧∀(x:Nat),(z1 x)→br (decide ((↑x:Int) < (↑l.length:Int))) ((0≤(↑x:Int)∧(↑x:Int) < (↑l.length:Int))∧∀(d:List Int),l[(↑x:Int).toNat]?=some d→(0≤(↑x:Int)∧(↑x:Int) < (↑m.length:Int))∧∀(dH:List Int),m[(↑x:Int).toNat]?=some dH→d.length≤1000000∧br (!decide (d=dH)) z2 (cZ IntKind.i64 ((↑x:Int)+(1:Int))∧∃x',(z1 x')∧(cI ((↑x:Int)+(1:Int))=cI (↑x':Int)∧True)∧([]:List aal)=[]∧l.length - x' < l.length - x)) (qB (decide (l=m)) true)):=by
 conv=>zeta
 delta aal cI qB;obtain⟨hp,h6⟩:l.length≤1000000∧∀q∈l,q.length≤1000000:=aA;have fF:l≠m→([]:List Go.aV.aj)=[]∧aT.one (SV.c (SC.v (Value.bool (decide (l=m)))))=aT.one (SV.c (SC.v (Value.bool false))):=λq=>⟨rfl,by rw[Ed q]⟩
 refine ah.2 ⟨λh=>fF λq=>?_,λh=>?_⟩
 ·subst q;simp at h
 simp only[yI,dG]at h;refine⟨⟨0,⟨by omega,λj hj=>by omega⟩,⟨rfl,trivial⟩,rfl⟩,λk hk=>ah.2 ⟨λg=>?_,λg=>?_⟩⟩
 ·simp only[dG]at g;refine⟨⟨by omega,by omega⟩,λd hd=>⟨⟨by omega,by omega⟩,λd1 hd1=>⟨h6 d (iF hd),ah.2 ⟨λg2=>fF λq=>?_,λg2=>⟨au.2 (by omega),k+1,⟨by omega,λj hj=>?_⟩,⟨rfl,trivial⟩,rfl,by omega⟩⟩⟩⟩⟩
  ·subst q;rw[hd]at hd1;cases hd1;simp at g2
  ·by_cases gq:j=k
   ·subst gq;have hd:l[j]?=some d:=hd;have hd1:m[j]?=some d1:=hd1;simp at g2;rw[hd,hd1,g2]
   ·exact hk.2 j (by omega)
 simp only[dh]at g;have e:l=m:=by
  apply yJ;intro j
  by_cases hj:j < k
  ·exact hk.2 j hj
  ·rw[qJ (by omega),qJ (by omega)]
 exact⟨rfl,by rw[L6 e]⟩
theorem XL:Kz Tryz.prog aK.gd 128 [.func (.func 129) #[] #[]] adp:=
 (lV (cx:=aK) (n:=32) (cl:=[(129,pR)]) (il:=Xy) (hl:=hlN) (ml:=mlN) (rc:=[]) (lits:=[]) (suf:=[.func (.func 129) #[] #[]]) (by kernel_rfl) ay ⟨ado,trivial⟩ trivial trivial trivial Tryz.func128 (by kernel_rfl) (by kernel_rfl) rfl (by kernel_rfl) (by kernel_rfl) (by simp) λd hd=>by
  obtain⟨l,m,⟨⟩⟩:=d;exact aH (aoe l m) (aiK l m hd) (by kernel_rfl))
abbrev ati:List (Nat×Nat×CT):=[(128,129,adp)]
theorem aof(vs os:List Int) (qs:List (List Int)) (sg vs2 os2:List Int) (DR:List (List Int)) (sg2:List Int) (aA:BI.pre ((vs,os,qs,sg,()),(vs2,os2,DR,sg2,()),())):
 vs.length≤1000000∧(decide (vs=vs2)=true→os.length≤1000000)∧((decide (vs=vs2) && decide (os=os2))=true→sg.length≤1000000)∧((decide (vs=vs2) && decide (os=os2) && decide (sg=sg2))=true→qs.length≤1000000∧∀(q:List Int),q∈qs→q.length≤1000000)∧qB (decide ((vs,os,qs,sg,())=(vs2,os2,DR,sg2,()))) (decide (vs=vs2) && decide (os=os2) && decide (sg=sg2) && decide (qs=DR)):=by
 delta qB;obtain⟨b1,b2,b3,b4,b5,b6⟩:vs.length≤1000∧os.length≤1000∧qs.length≤1000∧sg.length≤1000∧(∀q∈qs,q.length≤1000)∧qs.flatten.length≤100000:=aA;have e:decide ((vs,os,qs,sg,())=(vs2,os2,DR,sg2,()))=(decide (vs=vs2) && decide (os=os2) && decide (sg=sg2) && decide (qs=DR)):=by
  rw[Ee];simp only[dG,A8,A91,and_true];constructor
  ·rintro⟨h1,h2,h3,h4⟩;exact⟨⟨⟨h1,h2⟩,h4⟩,h3⟩
  ·rintro⟨⟨⟨h1,h2⟩,h4⟩,h3⟩;exact⟨h1,h2,h3,h4⟩
 refine⟨by omega,λ_=>by omega,λ_=>by omega,λ_=>⟨by omega,λq hq=>by have:=b5 q hq;omega⟩,rfl,?_⟩
 rw[e]
theorem aiL:Go.aV.Met Tryz.prog aK.gd 60 BI:=
 (lV (cx:=aK) (n:=31) (cl:=[(127,pR)]) (il:=Xy) (hl:=ati) (ml:=mlN) (rc:=[]) (lits:=[]) (suf:=[]) (by kernel_rfl) ay ⟨Gx,trivial⟩ trivial ⟨XL,trivial⟩ trivial Tryz.func60 (by kernel_rfl) (by kernel_rfl) rfl (by kernel_rfl) (by kernel_rfl) (by simp) λd hd=>by
  obtain⟨⟨vs,os,qs,sg,⟨⟩⟩,⟨vs2,os2,DR,sg2,⟨⟩⟩,⟨⟩⟩:=d;exact aH (λ_=>none) (aof vs os qs sg vs2 os2 DR sg2 hd) (by kernel_rfl)).met
theorem DX:∀(l sg:List Int),SS sg→SS (lu sg l)∧∀y,y∈lu sg l↔y∈sg∨y∈l
 | [],sg,h=>⟨h,λy=>by simp[lu]⟩
 | x :: l,sg,h=>by
   have ih:=DX l (aX (sg++[x])) (oG _);have e:lu sg (x :: l)=lu (aX (sg++[x])) l:=rfl;rw[e];refine⟨ih.1,λy=>?_⟩
   rw[ih.2 y,pJ];simp[or_assoc]
def iE(qs:List (List Int)):Int:=qs.foldl (λa q=>dX a q.length) 0
theorem XN{qs:List (List Int)}{k:Nat}{d:List Int} (h:qs[k]?=some d):iE (qs.take (k+1))=dX (iE (qs.take k)) d.length:=by
 unfold iE;rw[Jt,h];simp
theorem DY:∀(qs:List (List Int)) (a:Int),a≤qs.foldl (λa q=>dX a (q.length:Int)) a∧∀q∈qs,(q.length:Int)≤qs.foldl (λa q=>dX a (q.length:Int)) a
 | [],a=>⟨Int.le_refl _,λq hq=>by cases hq⟩
 | x :: qs,a=>by
   have ih:=DY qs (dX a x.length);have h:a≤dX a x.length∧(x.length:Int)≤dX a x.length:=by unfold dX;split<;>omega
   refine⟨Int.le_trans h.1 ih.1,λq hq=>?_⟩
   rcases mX.1 hq with rfl | hq
   ·exact Int.le_trans h.2 ih.1
   ·exact ih.2 q hq
abbrev Jl:CT:={ ps:=[pY,.int .i64],pre:=λd=>aZ d.1,res:=λd=>([],.gX [.agg [.sl (.int .i64) ((nY d.1 d.2.1 (iE d.1.2.2.1)).1).1,.sl (.int .i64) ((nY d.1 d.2.1 (iE d.1.2.2.1)).1).2.1,.sl (.sl (.int .i64)) ((nY d.1 d.2.1 (iE d.1.2.2.1)).1).2.2.1,.sl (.int .i64) ((nY d.1 d.2.1 (iE d.1.2.2.1)).1).2.2.2.1],.c (.v (.int .i64 ((nY d.1 d.2.1 (iE d.1.2.2.1)).2.1))),.c (.v (.int .i64 ((nY d.1 d.2.1 (iE d.1.2.2.1)).2.2)))]) }
@[reducible] def aog (vs os:List Int) (qs:List (List Int)) (sg:List Int) (c:Int):Nat→Option (St→iC):=λk=>match k with
  | 3=>some λ_=>.inv { α:=Nat,slots:=λk=>[(13,.c (.v (.int .i64 k))),(7,.c (.v (.int .i64 (iE (qs.take k)))))],res:=λk=>[],inv:=λk=>k≤(qs).length,meas:=λk=>(qs).length - k }
  | _=>none
theorem aiM(vs os:List Int) (qs:List (List Int)) (sg:List Int) (c:Int) (aA:Jl.pre ((vs,os,qs,sg,()),c,())):
 let z4:=λ(x:Nat)=>iE (List.take x qs);let z1:=[g0 (aj.blk 34 [SC.sl I6 vs,SC.sl I6 os,SC.sl I6.sl qs,SC.sl I6 sg]),g0 (aj.blk 34 kq3)];let z5:=(vs,os,qs,sg,());let z3:=nY z5 c (iE qs);let z2:=λ(x:Nat)=>nY z5 c (z4 x);(∃x,x≤qs.length∧(cI 0=cI (↑x:Int)∧cI 0=cI (z4 x)∧True)∧sm z1)∧∀(x:Nat),x≤qs.length→br (decide ((↑x:Int) < (↑qs.length:Int))) ((0≤(↑x:Int)∧(↑x:Int) < (↑qs.length:Int))∧∀(d:List Int),qs[(↑x:Int).toNat]?=some d→cZ IntKind.i64 ((↑x:Int)+(1:Int))∧∃x',x'≤qs.length∧(cI ((↑x:Int)+(1:Int))=cI (↑x':Int)∧cI (dX (z4 x) (↑d.length:Int))=cI (z4 x')∧True)∧sm z1∧qs.length - x' < qs.length - x) ((aZ z5∧0≤iE (List.take x qs))∧rT [SV.agg [SC.sl I6 z3.fst.fst,SC.sl I6 z3.fst.snd.fst,SC.sl I6.sl z3.fst.snd.snd.fst,SC.sl I6 z3.fst.snd.snd.snd.fst],cI (z3.snd.fst),cI (z3.snd.snd)] [SV.agg [SC.sl I6 ((z2 x).fst.fst,(z2 x).fst.snd.fst,(z2 x).fst.snd.snd.fst,(z2 x).fst.snd.snd.snd.fst,()).fst,SC.sl I6 ((z2 x).fst.snd.fst,(z2 x).fst.snd.snd.fst,(z2 x).fst.snd.snd.snd.fst,()).fst,SC.sl I6.sl ((z2 x).fst.snd.snd.fst,(z2 x).fst.snd.snd.snd.fst,()).fst,SC.sl I6 (z2 x).fst.snd.snd.snd.fst],cI ((z2 x).snd.fst),cI ((z2 x).snd.snd)]):=by
 conv=>zeta
 delta kq3 cI g0 rT sm I6;have hb:=aA;obtain⟨b1,b2,b3,b4,b5,b6⟩:vs.length≤1000∧os.length≤1000∧qs.length≤1000∧sg.length≤1000∧(∀q∈qs,q.length≤1000)∧qs.flatten.length≤100000:=aA;refine⟨⟨0,by omega,⟨rfl,rfl,trivial⟩,rfl⟩,λk hk=>ah.2 ⟨λg=>?_,λg=>?_⟩⟩
 ·simp only[dG]at g;refine⟨⟨by omega,by omega⟩,λd hd=>⟨au.2 (by omega),k+1,by omega,⟨rfl,?_,trivial⟩,rfl,by omega⟩⟩
  have hd:qs[k]?=some d:=hd;rw[XN hd]
 simp only[dh]at g;rw[tZ (i:=k) (by omega)]
 exact⟨⟨hb,(DY qs 0).1⟩,rfl,rfl⟩
theorem adr:Go.aV.Met Tryz.prog aK.gd 106 Jl:=
 bW (cx:=aK) (n:=29) (cl:=[(166,Ve)]) (rc:=[.data pY,.keep,.keep]) ay ⟨Pg,trivial⟩ Tryz.func106 λd hd=>by
  obtain⟨⟨vs,os,qs,sg,⟨⟩⟩,c,⟨⟩⟩:=d;exact aH (aog vs os qs sg c) (aiM vs os qs sg c hd) (by kernel_rfl)
abbrev XO:Sh:=.pair (.int .i64) (.pair (.int .i64) .unit)
abbrev yH:Sh:=.pair (.int .i64) (.pair (.int .i64) (.pair (.sl XO) .unit))
abbrev Lr:Sh:=.pair (.sl dQ) (.pair pY (.pair (.sl yH) .unit))
abbrev shE:Sh:=.pair (.int .i64) (.pair (.int .i64) (.pair (.int .i64) (.pair (.int .i64) (.pair (.int .i64) (.pair (.int .i64) (.pair (.int .i64) (.pair (.int .i64) (.pair (.int .i64) .unit))))))))
abbrev BD:=Int×Int×List (Int×Int×Unit)×Unit
abbrev ZD:=List TD×MD×List BD×Unit
abbrev ED:=Int×Int×Int×Int×Int×Int×Int×Int×Int×Unit
abbrev BM(e:ED):SV:=.agg [v6 e.1,v6 e.2.1,v6 e.2.2.1,v6 e.2.2.2.1,v6 e.2.2.2.2.1,v6 e.2.2.2.2.2.1,v6 e.2.2.2.2.2.2.1,v6 e.2.2.2.2.2.2.2.1,v6 e.2.2.2.2.2.2.2.2.1]
abbrev agI(i:ID):SV:=.agg [v6 i.1,v6 i.2.1,v6 i.2.2.1,v6 i.2.2.2.1,v6 i.2.2.2.2.1,v6 i.2.2.2.2.2.1,v6 i.2.2.2.2.2.2.1,v6 i.2.2.2.2.2.2.2.1]
abbrev BN(m:MD):SV:=.agg [.sl I6 m.1,.sl I6 m.2.1,.sl I6.sl m.2.2.1,.sl I6 m.2.2.2.1]
abbrev CX(z:ZD):SV:=.agg [.sl dQ z.1,.sl I6 z.2.1.1,.sl I6 z.2.1.2.1,.sl I6.sl z.2.1.2.2.1,.sl I6 z.2.1.2.2.2.1,.sl yH z.2.2.1]
abbrev qE(a b:ED):Prop:=([]:List aj)=[]∧aT.one (BM a)=aT.one (BM b)
abbrev bP(vs:List VD) (ms cs:List ByteArray) (fs:List FD) (ts:List SD):aj:=.blk 27 [.sl shV vs,.sl .str ms,.sl .str cs,.sl shF fs,.sl FY ts]
abbrev bZ(th:List TD) (mv mo:List Int) (mq:List (List Int)) (mg:List Int) (bf:List BD):aj:=.blk 37 [.sl dQ th,.sl I6 mv,.sl I6 mo,.sl I6.sl mq,.sl I6 mg,.sl yH bf]
def tB(t:TD):Prop:=t.2.2.2.2.2.2.2.2.2.1.length≤1000000∧t.1≤9223372036854775807∧t.2.2.2.1.length=8
def iK(l:List TD):Prop:=l.length≤1000000∧∀t∈l,tB t
def qG(l:List TD):Prop:=SS (l.map (·.1))
def VS(vs:List VD) (ms cs:List ByteArray) (fs:List FD) (ts:List SD) (bound:Int) (l:List TD) (m:MD) (bf:List BD):Prop:=
 jI (vs,ms,cs,fs,ts,()) m=true∧bf=[]∧(∀t∈l,bM (aB vs ms cs fs ts).1 bound=0∧qQ ms fs bound t)∧qG l
open Classical in
def vsB(vs:List VD) (ms cs:List ByteArray) (fs:List FD) (ts:List SD) (bound:Int) (l:List TD) (m:MD) (bf:List BD):Bool:=decide (VS vs ms cs fs ts bound l m bf)
theorem jM{vs:List VD}{ms cs:List ByteArray}{fs:List FD}{ts:List SD}{bound:Int}{l:List TD}{m:MD}{bf:List BD}:vsB vs ms cs fs ts bound l m bf=true↔VS vs ms cs fs ts bound l m bf:=by
 unfold vsB;exact @Yd _ (Classical.propDecidable _)
theorem XP{vs:List VD}{ms cs:List ByteArray}{fs:List FD}{ts:List SD}{bound:Int}{l:List TD}{m:MD}{bf:List BD} (h:¬VS vs ms cs fs ts bound l m bf):vsB vs ms cs fs ts bound l m bf=false:=G7.2 λq=>h (jM.1 q)
theorem SG{l:List TD} (h:∀(j:Nat) a b,l[j]?=some a→l[j+1]?=some b→a.1 < b.1):qG l:=by
 refine Gj λj x y hx hy=>?_
 rw[LX]at hx hy;cases ha:l[j]? with
 | none=>rw[ha]at hx;cases hx
 | some a=>
   cases hb:l[j+1]? with
   | none=>rw[hb]at hy;cases hy
   | some b=>
     rw[ha]at hx;rw[hb]at hy;cases hx;cases hy;exact h j a b ha hb
theorem adv{l:List TD} (h:qG l){j:Nat}{a b:TD} (ha:l[j]?=some a) (hb:l[j+1]?=some b):a.1 < b.1:=
 KX h (j:=j) (by rw[LX,ha];rfl) (by rw[LX,hb];rfl)
def wP(l:List TD) (id:Int):Option TD:=l.find? λt=>decide (t.1=id)
def Ak(b:Bool):Int:=if b=true then 1 else 0
def labS(m:MD) (t:TD) (i:ID):ED:=
 if i.1=8 then(t.1,t.2.2.2.2.1,1,i.2.2.2.2.1,-1,-1,i.2.2.2.2.2.2.2.1,m.1[i.2.2.2.2.1.toNat]?.getD 0,0,())
 else if i.1=14 then(t.1,t.2.2.2.2.1,8,i.2.2.2.2.1,-1,-1,i.2.2.2.2.2.2.2.1,m.1[i.2.2.2.2.1.toNat]?.getD 0,0,())
 else if i.1=9 then(t.1,t.2.2.2.2.1,2,i.2.2.2.2.1,-1,-1,i.2.2.2.2.2.2.2.1,0,t.2.2.2.1.getD i.2.2.1.toNat 0,())
 else if i.1=10 then(t.1,t.2.2.2.2.1,5,i.2.2.2.2.1,-1,-1,i.2.2.2.2.2.2.2.1,m.1[i.2.2.2.2.1.toNat]?.getD 0,t.2.2.2.1.getD i.2.2.1.toNat 0,())
 else if i.1=11 then(t.1,t.2.2.2.2.1,5,i.2.2.2.2.1,-1,-1,i.2.2.2.2.2.2.2.1,m.1[i.2.2.2.2.1.toNat]?.getD 0,(dP 1 (m.1[i.2.2.2.2.1.toNat]?.getD 0) (t.2.2.2.1.getD i.2.2.1.toNat 0)).1,())
 else if i.1=12 then
  (if m.1[i.2.2.2.2.1.toNat]?.getD 0=t.2.2.2.1.getD i.2.2.1.toNat 0 then(t.1,t.2.2.2.2.1,5,i.2.2.2.2.1,-1,-1,i.2.2.2.2.2.2.2.1,m.1[i.2.2.2.2.1.toNat]?.getD 0,t.2.2.2.1.getD i.2.2.2.1.toNat 0,())
   else(t.1,t.2.2.2.2.1,6,i.2.2.2.2.1,-1,-1,i.2.2.2.2.2.2.2.1,m.1[i.2.2.2.2.1.toNat]?.getD 0,0,()))
 else if i.1=13 then(t.1,t.2.2.2.2.1,7,i.2.2.2.2.1,-1,-1,0,0,0,())
 else if i.1=15 then(t.1,t.2.2.2.2.1,9,i.2.2.2.2.1,-1,-1,0,0,0,())
 else if i.1=16 then(t.1,t.2.2.2.2.1,10,i.2.2.2.2.1,-1,-1,0,0,0,())
 else if i.1=17 then(t.1,t.2.2.2.2.1,11,i.2.2.2.2.1,-1,-1,0,Ak (mF m i.2.2.2.2.1),0,())
 else if i.1=18 then
  (if t.2.2.2.2.2.2.1=0 then(t.1,t.2.2.2.2.1,12,i.2.2.2.2.1,i.2.2.2.2.2.1,-1,0,0,0,())
   else if t.2.2.2.2.2.2.1=1 then(t.1,t.2.2.2.2.1,13,i.2.2.2.2.1,-1,-1,0,0,0,())
   else(t.1,t.2.2.2.2.1,9,i.2.2.2.2.2.1,-1,-1,0,0,0,()))
 else if i.1=19 then(t.1,t.2.2.2.2.1,14,i.2.2.2.2.1,-1,-1,0,fU 1 (m.2.2.1[i.2.2.2.2.1.toNat]?.getD []).length,0,())
 else if i.1=20 then(t.1,t.2.2.2.2.1,15,i.2.2.2.2.1,-1,-1,0,(m.2.2.1[i.2.2.2.2.1.toNat]?.getD []).length,0,())
 else if i.1=21 then(t.1,t.2.2.2.2.1,16,(dB t.1 t.2.2.2.2.2.1).1,-1,-1,0,0,0,())
 else(t.1,t.2.2.2.2.1,17,t.2.2.2.1.getD i.2.2.1.toNat 0,-1,-1,0,0,0,())
def CY(l:List TD) (m:MD) (t:TD) (i:ID):Bool:=
 if i.1=14 then decide ((dP i.2.2.2.2.2.2.1 (m.1[i.2.2.2.2.1.toNat]?.getD 0) (t.2.2.2.1.getD i.2.2.1.toNat 0)).1≠0)
 else if i.1=15 then mF m i.2.2.2.2.1
 else if i.1=18 then(if t.2.2.2.2.2.2.1=1 then dM m.2.2.2.1 t.1 else if t.2.2.2.2.2.2.1=2 then mF m i.2.2.2.2.2.1 else true)
 else if i.1=22 then(match wP l (t.2.2.2.1.getD i.2.2.1.toNat 0) with
  | some u=>decide (u.2.2.2.2.2.2.2.1=2) || decide (u.2.2.2.2.2.2.2.1=3)
  | none=>false)
 else true
def jF(m:MD) (e:ED):MD×Int:=
 if e.2.2.1=5∨e.2.2.1=2 then writeM m e.2.2.2.1 e.2.2.2.2.2.2.2.2.1
 else if e.2.2.1=9∨(e.2.2.1=11∧e.2.2.2.2.2.2.2.1≠0) then ig m e.2.2.2.1 e.1 (-1) e.1
 else if e.2.2.1=10 then ig m e.2.2.2.1 e.1 e.1 (-1)
 else if e.2.2.1=12 then(if(ig m e.2.2.2.2.1 e.1 e.1 (-1)).2=0 then pV (ig m e.2.2.2.2.1 e.1 e.1 (-1)).1 e.2.2.2.1 e.1 else ig m e.2.2.2.2.1 e.1 e.1 (-1))
 else if e.2.2.1=13 then mG m e.1
 else if e.2.2.1=14 then((nY m e.2.2.2.1 1).1,(nY m e.2.2.2.1 1).2.2)
 else if e.2.2.1=15 then((nY m e.2.2.2.1 (iE m.2.2.1)).1,(nY m e.2.2.2.1 (iE m.2.2.1)).2.2)
 else(m,0)
def uM(i:ID) (e:ED):Int:=
 if e.2.2.1=5 then(if i.1=12 then 1 else e.2.2.2.2.2.2.2.1) else if e.2.2.1=1∨e.2.2.1=8 then e.2.2.2.2.2.2.2.1
 else if e.2.2.1=11 then(if e.2.2.2.2.2.2.2.1=0 then 0 else 1) else if e.2.2.1=16 then e.2.2.2.1 else 0
def zE:ED:=(0,0,0,0,0,0,0,0,0,())
def zZ:ZD:=([],zM,[],())
def eX(p:TD→Bool) (l:List TD):Int:=match l.findIdx? p with
 | some i=>i
 | none=>-1
theorem Vl{p:TD→Bool}{l:List TD}{k:Nat}{d:TD} (hk:l[k]?=some d) (hd:p d=true) (h:∀j < k,∀t,l[j]?=some t→p t=false):eX p l=k:=by
 obtain⟨h1,h2⟩:=eU.1 hk;have:l.findIdx? p=some k:=by
  rw[xC];refine⟨h1,by rw[h2];exact hd,λj hj=>?_⟩
  rw[h j hj _ (l7 (by omega))];simp
 unfold eX;rw[this]
theorem Vm{p:TD→Bool}{l:List TD} (h:∀j < l.length,∀t,l[j]?=some t→p t=false):eX p l = -1:=by
 have:l.findIdx? p=none:=by
  rw[Me];intro x hx;obtain⟨j,hj⟩:=wQ hx;exact h j (eU.1 hj).1 x hj
 unfold eX;rw[this]
abbrev aoh:SF:={ ss:=[dQ],r:=.bool,ct:=λpr fn=>{ ps:=[.sl dQ],pre:=λd=>d.1.length≤1000000∧∀t∈d.1,pr (t,()),res:=λd=>([],.one (.c (.v (.int .i64 (eX (λt=>fn (t,())) d.1))))) } }
abbrev arx:MK:={ ss:=[.int .i64],f:=λds=>.clo Tryz.prog [dQ] .bool (λ_=>True) (λd=>decide (d.1.1=ds.1)) }
@[reducible] def aoi (pr:bY [dQ]→Prop) (fn:bY [dQ]→Bool) (l:List TD):Nat→Option (St→iC):=λk=>match k with
  | 2=>some λ_=>.inv { α:=Nat,slots:=λk=>[(8,.c (.v (.int .i64 k)))],res:=λ_=>[],inv:=λk=>k≤l.length∧∀j < k,∀t,l[j]?=some t→fn (t,())=false,meas:=λk=>l.length - k }
  | _=>none
abbrev arz:List (Nat×SF):=[]
theorem aiS(pr:bY [dQ]→Prop) (fn:bY [dQ]→Bool) (l:List TD) (aA:(aoh.ct pr fn).pre (l,())):
 let z1:=λ(x:Nat)=>(x≤l.length∧∀(j:Nat),j < x→∀(t:TD),l[j]?=some t→fn (t,())=false);let z2:=eX (λt=>fn (t,())) l;(∃x,(z1 x)∧(cI 0=cI (↑x:Int)∧True)∧([]:List aal)=[])∧∀(x:Nat),(z1 x)→br (decide ((↑x:Int) < (↑l.length:Int))) ((0≤(↑x:Int)∧(↑x:Int) < (↑l.length:Int))∧∀(d:TD),l[(↑x:Int).toNat]?=some d→some Tryz.prog=some Tryz.prog∧pr (d,())∧br (fn (d,())) (qI z2 (↑x:Int)) (cZ IntKind.i64 ((↑x:Int)+(1:Int))∧∃x',(z1 x')∧(cI ((↑x:Int)+(1:Int))=cI (↑x':Int)∧True)∧([]:List aal)=[]∧l.length - x' < l.length - x)) (qI z2 (-1:Int)):=by
 conv=>zeta
 delta aal;obtain⟨hl,hp⟩:l.length≤1000000∧∀t∈l,pr (t,()):=aA;refine⟨⟨0,⟨by omega,λj hj=>by omega⟩,⟨rfl,trivial⟩,rfl⟩,λk hk=>ah.2 ⟨λg=>?_,λg=>?_⟩⟩
 ·simp only[dG]at g;refine⟨⟨by omega,by omega⟩,λd hd=>⟨rfl,hp d (iF hd),ah.2 ⟨λg2=>⟨rfl,?_⟩,λg2=>⟨au.2 (by omega),k+1,⟨by omega,λj hj t ht=>?_⟩,⟨rfl,trivial⟩,rfl,by omega⟩⟩⟩⟩
  ·have hd:l[k]?=some d:=hd;rw[Vl (p:=λt=>fn (t,())) hd g2 hk.2]
  ·by_cases e:j=k
   ·subst e;have hd:l[j]?=some d:=hd;rw[hd]at ht;cases ht;exact g2
   ·exact hk.2 j (by omega) t ht
 ·simp only[dh]at g;refine⟨rfl,?_⟩;rw[Vm (p:=λt=>fn (t,())) λj hj t ht=>hk.2 j (by omega) t ht]
theorem aiT:afz Tryz.prog aK.gd 113 aoh:=
 alF (cx:=aK) (n:=19) (cl:=[]) (ml:=mlN) (fl:=arz) (rc:=[]) (by kernel_rfl) ay trivial trivial trivial Tryz.func113 (by kernel_rfl) (by kernel_rfl) (λ_ _=>rfl) (by kernel_rfl) (by kernel_rfl) λpr fn d hd=>by
  obtain⟨l,⟨⟩⟩:=d;exact aH (aoi pr fn l) (aiS pr fn l hd) (by kernel_rfl)
theorem aiU(c0 id fn pc:Int) (rg:List Int) (st ch ph su fa:Int) (he:List Int):
 qB (decide (id=c0)) (decide (id=c0)):=by
 exact⟨rfl,rfl⟩
theorem aiV:aam Tryz.prog aK.gd 114 arx:=
 alH (cx:=aK) (n:=8) (cl:=[]) (rc:=[]) (by kernel_rfl) ay trivial Tryz.func114 (by kernel_rfl) (by kernel_rfl) rfl rfl (by kernel_rfl) (by kernel_rfl) λds d _ _=>by
  obtain⟨c0,⟨⟩⟩:=ds;obtain⟨⟨id,fn,pc,rg,st,ch,ph,su,fa,he,⟨⟩⟩,⟨⟩⟩:=d;exact aH (λ_=>none) (aiU c0 id fn pc rg st ch ph su fa he) (by kernel_rfl)
abbrev xA:CT:={ ps:=[.sl dQ,.int .i64],pre:=λd=>d.1.length≤1000000,res:=λd=>([],.gX [.c (.v (.int .i64 (dX (eX (λt=>decide (t.1=d.2.1)) d.1) 0))),.c (.v (.bool (decide (0≤eX (λt=>decide (t.1=d.2.1)) d.1))))]) }
abbrev atj:List (Nat×SF):=[(113,aoh)]
abbrev atl:List (Nat×MK):=[(114,arx)]
theorem aoj(l:List TD) (id:Int) (aA:xA.pre (l,id,())):
 let z1:=[I6.pair (I6.pair (I6.pair ((Sh.arr 8 I6).pair kq7)))];True∧some Tryz.prog=some Tryz.prog∧∃pre' g',(GY.clo Tryz.prog z1 Sh.bool (λx=>True) λd=>decide (d.fst.fst=id))=GY.clo Tryz.prog z1 Sh.bool pre' g'∧(l.length≤1000000∧∀(t:TD),t∈l→pre' (t,()))∧rT [cI (dX (eX (λt=>decide (t.fst=(l,id,()).snd.fst)) l) (0:Int)),cB (decide (0≤eX (λt=>decide (t.fst=(l,id,()).snd.fst)) l))] [cI (dX (eX (λt=>g' (t,())) l) (0:Int)),cB (decide (0≤eX (λt=>g' (t,())) l))]:=by
 conv=>zeta
 delta kq7;exact⟨trivial,rfl,λ_=>True,λd=>decide (d.1.1=id),rfl,⟨aA,λ_ _=>trivial⟩,rfl,rfl⟩
theorem DZ:Go.aV.Met Tryz.prog aK.gd 52 xA:=
 afA (cx:=aK) (n:=14) (cl:=[]) (ml:=atl) (fl:=atj) (rc:=[]) (by kernel_rfl) ay trivial ⟨aiV,trivial⟩ ⟨aiT,trivial⟩ Tryz.func52 (by kernel_rfl) (by kernel_rfl) rfl (by kernel_rfl) (by kernel_rfl) λd hd=>by
  obtain⟨l,id,⟨⟩⟩:=d;exact aH (λ_=>none) (aoj l id hd) (by kernel_rfl)
theorem aol(vs:List VD) (ms cs:List ByteArray) (fs:List FD) (ts:List SD) (bound:Int) (aA:uy.pre ((vs,ms,cs,fs,ts,()),bound,())):
 let z2:=aB vs ms cs fs ts;let z1:=bM z2.fst bound;(bnd ((vs,ms,cs,fs,ts,()),()))∧br (!decide (z2.fst=0)) (qI z1 (z2.fst)) (br (decide (bound < 1) || decide (32 < bound)) (qI z1 (2:Int)) (qI z1 (0:Int))):=by
 conv=>zeta
 have hb:bnd ((vs,ms,cs,fs,ts,()),()):=aA;refine⟨hb,ah.2 ⟨λh=>?_,λh=>ah.2 ⟨λh2=>?_,λh2=>?_⟩⟩⟩
 ·have h:(aB vs ms cs fs ts).1≠0:=by simpa using h
  have e:bM (aB vs ms cs fs ts).1 bound=(aB vs ms cs fs ts).1:=by unfold bM;rw[if_pos h]
  rw[e];exact⟨rfl,rfl⟩
 all_goals have h:¬(aB vs ms cs fs ts).1≠0:=by simpa using h
 ·have h2:bound < 1∨32 < bound:=by simpa using h2
  have e:bM (aB vs ms cs fs ts).1 bound=2:=by unfold bM;rw[if_neg h,if_pos h2]
  rw[e];exact⟨rfl,rfl⟩
 ·have h2:¬(bound < 1∨32 < bound):=by simp only[qH,dh]at h2;omega
  have e:bM (aB vs ms cs fs ts).1 bound=0:=by unfold bM;rw[if_neg h,if_neg h2]
  rw[e];exact⟨rfl,rfl⟩
theorem Vq:Go.aV.Met Tryz.prog aK.gd 32 uy:=
 bW (cx:=aK) (n:=23) (cl:=[(74,IY)]) (rc:=[]) ay ⟨DC,trivial⟩ Tryz.func32 λd hd=>by
  obtain⟨⟨vs,ms,cs,fs,ts,⟨⟩⟩,bound,⟨⟩⟩:=d;exact aH (λ_=>none) (aol vs ms cs fs ts bound hd) (by kernel_rfl)
theorem aom(vs:List VD) (ms cs:List ByteArray) (fs:List FD) (ts:List SD) (bound:Int) (aA:uy.pre ((vs,ms,cs,fs,ts,()),bound,())):
 let z2:=aB vs ms cs fs ts;let z1:=bM z2.fst bound;(bnd ((vs,ms,cs,fs,ts,()),()))∧br (!decide (z2.fst=0)) (qI z1 (z2.fst)) (br (decide (bound < 1) || decide (32 < bound)) (qI z1 (2:Int)) (qI z1 (0:Int))):=by
 conv=>zeta
 have hb:bnd ((vs,ms,cs,fs,ts,()),()):=aA;refine⟨hb,ah.2 ⟨λh=>?_,λh=>ah.2 ⟨λh2=>?_,λh2=>?_⟩⟩⟩
 ·have h:(aB vs ms cs fs ts).1≠0:=by simpa using h
  have e:bM (aB vs ms cs fs ts).1 bound=(aB vs ms cs fs ts).1:=by unfold bM;rw[if_pos h]
  rw[e];exact⟨rfl,rfl⟩
 all_goals have h:¬(aB vs ms cs fs ts).1≠0:=by simpa using h
 ·have h2:bound < 1∨32 < bound:=by simpa using h2
  have e:bM (aB vs ms cs fs ts).1 bound=2:=by unfold bM;rw[if_neg h,if_pos h2]
  rw[e];exact⟨rfl,rfl⟩
 ·have h2:¬(bound < 1∨32 < bound):=by simp only[qH,dh]at h2;omega
  have e:bM (aB vs ms cs fs ts).1 bound=0:=by unfold bM;rw[if_neg h,if_neg h2]
  rw[e];exact⟨rfl,rfl⟩
theorem aiW:Go.aV.Met Tryz.prog aK.gd 26 uy:=
 bW (cx:=aK) (n:=23) (cl:=[(66,F6)]) (rc:=[]) ay ⟨KP,trivial⟩ Tryz.func26 λd hd=>by
  obtain⟨⟨vs,ms,cs,fs,ts,⟨⟩⟩,bound,⟨⟩⟩:=d;exact aH (λ_=>none) (aom vs ms cs fs ts bound hd) (by kernel_rfl)
abbrev Lu:CT:={ ps:=[oH,.int .i64,Lr],pre:=λd=>bnd (d.1,())∧iK d.2.2.1.1∧aZ d.2.2.1.2.1,res:=λd=>([],vB (vsB d.1.1 d.1.2.1 d.1.2.2.1 d.1.2.2.2.1 d.1.2.2.2.2.1 d.2.1 d.2.2.1.1 d.2.2.1.2.1 d.2.2.1.2.2.1)) }
@[reducible] def arB (vs:List VD) (ms cs:List ByteArray) (fs:List FD) (ts:List SD) (bound:Int) (th:List TD) (mv mo:List Int) (mq:List (List Int)) (mg:List Int) (bf:List BD):Nat→Option (St→iC):=λk=>match k with
  | 4=>some λ_=>.inv { α:=Nat,slots:=λk=>[(23,.c (.v (.int .i64 k)))],res:=λk=>[],inv:=λk=>k≤(th).length∧(∀j < k,∀t,th[j]?=some t→bM (aB vs ms cs fs ts).1 bound=0∧qQ ms fs bound t)∧∀j,j+1 < k→∀a b,th[j]?=some a→th[j+1]?=some b→a.1 < b.1,meas:=λk=>(th).length - k }
  | _=>none
theorem aon(vs:List VD) (ms cs:List ByteArray) (fs:List FD) (ts:List SD) (bound:Int) (th:List TD) (mv mo:List Int) (mq:List (List Int)) (mg:List Int) (bf:List BD) (aA:Lu.pre ((vs,ms,cs,fs,ts,()),bound,(th,(mv,mo,mq,mg,()),bf,()),())):
 let z7:=bnd ((vs,ms,cs,fs,ts,()),());let z8:=(mv,mo,mq,mg,());let z6:=vsB vs ms cs fs ts bound th z8 bf;let z5:=qB z6 false;let z1:=λ(x:Nat)=>(x≤th.length∧(∀(j:Nat),j < x→∀(t:TD),th[j]?=some t→bM (aB vs ms cs fs ts).fst bound=0∧qQ ms fs bound t)∧∀(j:Nat),j+1 < x→∀(a b:TD),th[j]?=some a→th[j+1]?=some b→a.fst < b.fst);let z2:=[g0 (aj.blk 27 [SC.sl shV vs,SC.sl Sh.str ms,SC.sl Sh.str cs,SC.sl shF fs,SC.sl FY ts]),g0 (aj.blk 37 [SC.sl dQ th,SC.sl I6 mv,SC.sl I6 mo,SC.sl I6.sl mq,SC.sl I6 mg,SC.sl yH bf])];let z4:=λ(d:TD)=>decide (bM (aB vs ms cs fs ts).fst bound=0) && mW ms fs bound d;let z3:=λ(x:Nat) (d:TD)=>decide (0 < (↑x:Int)) && !!(z4 d);(z7∧aZ z8)∧br (!jI (vs,ms,cs,fs,ts,()) z8 || decide (0 < (↑bf.length:Int))) z5 ((∃x,(z1 x)∧(cI 0=cI (↑x:Int)∧True)∧sm z2)∧∀(x:Nat),(z1 x)→br (decide ((↑x:Int) < (↑th.length:Int))) ((0≤(↑x:Int)∧(↑x:Int) < (↑th.length:Int))∧∀(d:TD),th[(↑x:Int).toNat]?=some d→(z7∧List.length d.snd.snd.snd.snd.snd.snd.snd.snd.snd.fst≤1000000∧d.fst≤9223372036854775807∧List.length d.snd.snd.snd.fst=8)∧((z3 x d)=true→cZ IntKind.i64 ((↑x:Int) - (1:Int)))∧((z3 x d)=true→0≤(↑x:Int) - (1:Int)∧(↑x:Int) - 1 < (↑th.length:Int))∧∀(dH:TD),((z3 x d)=true→th[((↑x:Int) - (1:Int)).toNat]?=some dH)→br (!(z4 d) || decide (0 < (↑x:Int)) && decide ((d).fst≤dH.fst)) z5 (cZ IntKind.i64 ((↑x:Int)+(1:Int))∧∃x',(z1 x')∧(cI ((↑x:Int)+(1:Int))=cI (↑x':Int)∧True)∧sm z2∧th.length - x' < th.length - x)) (qB z6 true)):=by
 conv=>zeta
 obtain⟨hb,hT,hM⟩:bnd ((vs,ms,cs,fs,ts,()),())∧iK th∧aZ (mv,mo,mq,mg,()):=aA;obtain⟨hl,hT⟩:=hT;have fF:¬VS vs ms cs fs ts bound th (mv,mo,mq,mg,()) bf→qB (vsB vs ms cs fs ts bound th (mv,mo,mq,mg,()) bf) false:=λq=>⟨rfl,by rw[XP q]⟩
 refine⟨⟨hb,hM⟩,ah.2 ⟨λh=>fF λq=>?_,λh=>⟨⟨0,⟨by omega,λj hj=>by omega,λj hj=>by omega⟩,⟨rfl,trivial⟩,rfl⟩,λk hk=>ah.2 ⟨λg=>?_,λg=>?_⟩⟩⟩⟩
 ·obtain⟨q1,q2,q3,q4⟩:=q;rw[q1,q2]at h;simp at h
 ·obtain⟨k1,k2,k3⟩:=hk;simp only[dG]at g;refine⟨⟨by omega,by omega⟩,λd hd=>⟨⟨hb,hT d (iF hd)⟩,λ_=>au.2 (by omega),λq=>?_,λd1 hd1=>ah.2 ⟨λg2=>fF λq=>?_,λg2=>⟨au.2 (by omega),k+1,⟨by omega,λj hj t ht=>?_,λj hj a b ha hb=>?_⟩,⟨rfl,trivial⟩,rfl,by omega⟩⟩⟩⟩
  ·rw[A8,dG]at q;omega
  ·have hd:th[k]?=some d:=hd;have q3:=q.2.2.1 d (iF hd);rw[AA,G6,A8,dG,dG]at g2;have hv:(decide (bM (aB vs ms cs fs ts).1 bound=0) && mW ms fs bound d)=true:=by rw[A8,dG,jE];exact q3
   rcases g2 with g2 | ⟨g2,g3⟩
   ·rw[hv]at g2;cases g2
   ·have gg:(decide ((0:Int) < (k:Int)) && !!(decide (bM (aB vs ms cs fs ts).1 bound=0) && mW ms fs bound d))=true:=by rw[hv,L6 g2];rfl
    have h1:=hd1 gg;rw[show((k:Int) - 1).toNat=k - 1 by omega]at h1
    have:=adv q.2.2.2 h1 (by rw[show k - 1+1=k by omega];exact hd)
    omega
  ·rw[qH,yI,A8,dG,jE]at g2
   by_cases e:j=k
   ·subst e;have hd:th[j]?=some d:=hd;rw[hd]at ht;cases ht;exact g2.1
   ·exact k2 j (by omega) t ht
  ·by_cases e:j+1=k
   ·have hd:th[k]?=some d:=hd;rw[qH,yI]at g2;have hk0:(0:Int) < (k:Int):=by omega
    have gg:(decide ((0:Int) < (k:Int)) && !!(decide (bM (aB vs ms cs fs ts).1 bound=0) && mW ms fs bound d))=true:=by rw[g2.1,L6 hk0];rfl
    have h1:=hd1 gg;rw[show((k:Int) - 1).toNat=j by omega,ha]at h1
    cases h1;rw[e,hd]at hb;cases hb;have g3:=g2.2;rw[A86,dh,dh]at g3;omega
   ·exact k3 j (by omega) a b ha hb
 ·obtain⟨k1,k2,k3⟩:=hk;simp only[dh]at g;have all:∀t∈th,bM (aB vs ms cs fs ts).1 bound=0∧qQ ms fs bound t:=λt ht=>by
   obtain⟨j,hj⟩:=wQ ht;have:=(eU.1 hj).1;exact k2 j (by omega) t hj
  have up:qG th:=SG λj a b ha hb=>by
   have:=(eU.1 hb).1;exact k3 j (by omega) a b ha hb
  rw[qH,yI,dh]at h;have e:bf=[]:=List.length_eq_zero_iff.1 (by omega)
  exact⟨rfl,by rw[jM.2 ⟨h.1,e,all,up⟩]⟩
theorem LC:Go.aV.Met Tryz.prog aK.gd 40 Lu:=
 bW (cx:=aK) (n:=50) (cl:=[(84,XK),(85,ahM)]) (rc:=[]) ay ⟨aiG,U0,trivial⟩ Tryz.func40 λd hd=>by
  obtain⟨⟨vs,ms,cs,fs,ts,⟨⟩⟩,bound,⟨th,⟨mv,mo,mq,mg,⟨⟩⟩,bf,⟨⟩⟩,⟨⟩⟩:=d;exact aH (arB vs ms cs fs ts bound th mv mo mq mg bf) (aon vs ms cs fs ts bound th mv mo mq mg bf hd) (by kernel_rfl)
theorem jZ{a b:ED} (h:a=b):qE a b:=⟨rfl,by rw[h]⟩
theorem jO{a b:Bool} (h:a=b):qB a b:=⟨rfl,by rw[h]⟩
theorem SL{rg:List Int}{b d:Int} (h:rg[b.toNat]?=some d):rg.getD b.toNat 0=d:=by rw[H8,h];rfl
theorem lY{p:TD→Bool}{l:List TD} (h:0≤eX p l):∃(k:Nat) (t:TD),eX p l=k∧l[k]?=some t∧l.find? p=some t∧k < l.length:=by
 unfold eX at h ⊢
 cases e:l.findIdx? p with
 | none=>rw[e]at h;exact absurd h (by decide)
 | some k=>
   obtain⟨h1,h2,h3⟩:=xC.1 e;refine⟨k,l[k],rfl,l7 h1,?_,h1⟩;rw[List.find?_eq_some_iff_getElem];exact⟨h2,k,h1,rfl,λj hj=>by have:=h3 j hj;simpa using this⟩
theorem nN{p:TD→Bool}{l:List TD} (h:¬0≤eX p l):l.find? p=none:=by
 unfold eX at h;cases e:l.findIdx? p with
 | some k=>rw[e]at h;exact absurd (Int.natCast_nonneg k) h
 | none=>
   rw[Me]at e;rw[A89];intro x hx;rw[e x hx];simp
def aoq(v rb rc op o:Int):ED→ED
 | (ag,ix,_,eo,mx,en,_,_,wr,_)=>if op=8 then(ag,ix,1,eo,mx,en,o,v,wr,()) else if op=14 then(ag,ix,8,eo,mx,en,o,v,wr,()) else if op=9 then(ag,ix,2,eo,mx,en,o,0,rb,())
   else if op=10 then(ag,ix,5,eo,mx,en,o,v,rb,()) else if op=11 then(ag,ix,5,eo,mx,en,o,v,(dP 1 v rb).1,()) else if v=rb then(ag,ix,5,eo,mx,en,o,v,rc,()) else(ag,ix,6,eo,mx,en,o,v,wr,())
def wtS(ph n:Int):ED→ED
 | (ag,ix,_,eo,mx,en,lG,rd,wr,_)=>if ph=0 then(ag,ix,12,eo,n,en,lG,rd,wr,()) else if ph=1 then(ag,ix,13,eo,mx,en,lG,rd,wr,()) else(ag,ix,9,n,mx,en,lG,rd,wr,())
def kJ(m:MD) (t:TD) (i:ID):Prop:=
 (aZ m∧dI m=true∧tB t)∧(0≤i.2.2.1∧i.2.2.1 < 8)∧(0≤i.2.2.2.1∧i.2.2.2.1 < 8)∧(8≤i.1∧i.1≤22) ∧
 (i.1≤14∧i.1≠13→0≤i.2.2.2.2.1∧i.2.2.2.2.1 < (m.1.length:Int))∧(18≤i.1∧i.1≤20→0≤i.2.2.2.2.1∧i.2.2.2.2.1 < (m.2.2.1.length:Int)) ∧
 (i.1=13∨15≤i.1→i.2.2.2.2.2.2.2.1=0)
theorem Vs{m:MD}{x:Int} (h:dI m=true) (h1:0≤x∧x < (m.1.length:Int)):(xw m x).1=m.1[x.toNat]?.getD 0:=by
 unfold xw;rw[if_pos (fO.2 ⟨h,h1⟩)]
abbrev GH:CT:={ ps:=[.bool],pre:=λd=>True,res:=λd=>([],.one (.c (.v (.int .i64 (Ak d.1))))) }
theorem aor(b:Bool):
 br b (qI (Ak b) (1:Int)) (qI (Ak b) (0:Int)):=by
 unfold Ak;cases b<;>exact ah.2 ⟨λh=>⟨rfl,by simp_all⟩,λh=>⟨rfl,by simp_all⟩⟩
theorem aiY:Go.aV.Met Tryz.prog aK.gd 86 GH:=
 jC (cx:=aK) (n:=4) (cl:=[]) ay trivial Tryz.func86 λd hd=>by
  obtain⟨b,⟨⟩⟩:=d;exact aH (λ_=>none) (aor b) (by kernel_rfl)
abbrev adx:CT:={ ps:=[Lr,dQ,qO,shE],pre:=λd=>aZ d.1.2.1∧d.2.1.2.2.2.1.length=8∧(0≤d.2.2.1.2.2.1∧d.2.2.1.2.2.1 < 8)∧(0≤d.2.2.1.2.2.2.1∧d.2.2.1.2.2.2.1 < 8),res:=λd=>([],.one (BM (aoq (xw d.1.2.1 d.2.2.1.2.2.2.2.1).1 (d.2.1.2.2.2.1.getD d.2.2.1.2.2.1.toNat 0) (d.2.1.2.2.2.1.getD d.2.2.1.2.2.2.1.toNat 0) d.2.2.1.1 d.2.2.1.2.2.2.2.2.2.2.1 d.2.2.2.1))) }
theorem aos(th:List TD) (mv mo:List Int) (mq:List (List Int)) (mg:List Int) (bf:List BD) (id fn pc:Int) (rg:List Int) (st ch ph su fa:Int) (he:List Int) (op a b c obj n fo ord ag ix kd eo mx en lG rd wr:Int) (aA:adx.pre ((th,(mv,mo,mq,mg,()),bf,()),(id,fn,pc,rg,st,ch,ph,su,fa,he,()),(op,a,b,c,obj,n,fo,ord,()),(ag,ix,kd,eo,mx,en,lG,rd,wr,()),())):
 let z2:=xw (mv,mo,mq,mg,()) obj;let z1:=aoq z2.fst (rg.getD b.toNat (0:Int)) (rg.getD c.toNat (0:Int)) op ord (ag,ix,kd,eo,mx,en,lG,rd,wr,());aZ (mv,mo,mq,mg,())∧br (decide (op=8)) (qE z1 (ag,ix,1,eo,mx,en,ord,z2.fst,wr,())) (br (decide (op=14)) (qE z1 (ag,ix,8,eo,mx,en,ord,z2.fst,wr,())) (br (decide (op=9)) ((0≤b∧b < 8)∧b.toNat < 8∧∀(d:Int),rg[b.toNat]?=some d→qE z1 (ag,ix,2,eo,mx,en,ord,0,d,())) (br (decide (op=10)) ((0≤b∧b < 8)∧b.toNat < 8∧∀(d:Int),rg[b.toNat]?=some d→qE z1 (ag,ix,5,eo,mx,en,ord,z2.fst,d,())) (br (decide (op=11)) ((0≤b∧b < 8)∧b.toNat < 8∧∀(d:Int),rg[b.toNat]?=some d→True∧qE z1 (ag,ix,5,eo,mx,en,ord,z2.fst,aI (aI (z2.fst,d,()).fst+aI d),())) ((0≤b∧b < 8)∧b.toNat < 8∧∀(d:Int),rg[b.toNat]?=some d→br (decide (z2.fst=d)) ((0≤c∧c < 8)∧c.toNat < 8∧∀(d:Int),rg[c.toNat]?=some d→qE z1 (ag,ix,5,eo,mx,en,ord,z2.fst,d,())) (qE z1 (ag,ix,6,eo,mx,en,ord,z2.fst,wr,()))))))):=by
 conv=>zeta
 obtain⟨hM,h8,hb,hc⟩:aZ (mv,mo,mq,mg,())∧rg.length=8∧(0≤b∧b < 8)∧(0≤c∧c < 8):=aA;have hb8:b.toNat < 8:=by omega
 have hc8:c.toNat < 8:=by omega
 refine⟨hM,aJ.2 ⟨λe=>jZ ?_,λn1=>aJ.2 ⟨λe=>jZ ?_,λn2=>aJ.2 ⟨λe=>⟨hb,hb8,λd hd=>jZ ?_⟩,λn3=>aJ.2 ⟨λe=>⟨hb,hb8,λd hd=>jZ ?_⟩,λn4=>aJ.2 ⟨λe=>⟨hb,hb8,λd hd=>⟨trivial,jZ ?_⟩⟩,λn5=>⟨hb,hb8,λd hd=>aJ.2 ⟨λe=>⟨hc,hc8,λd2 hd2=>jZ ?_⟩,λe=>jZ ?_⟩⟩⟩⟩⟩⟩⟩⟩
 ·subst e;rfl
 ·subst e;rfl
 ·subst e;rw[SL hd];rfl
 ·subst e;rw[SL hd];rfl
 ·subst e;rw[SL hd];rfl
 ·rw[SL hd,SL hd2];show(if op=8 then _ else _)=_
  rw[if_neg n1,if_neg n2,if_neg n3,if_neg n4,if_neg n5,if_pos e]
 ·rw[SL hd];show(if op=8 then _ else _)=_
  rw[if_neg n1,if_neg n2,if_neg n3,if_neg n4,if_neg n5,if_neg e]
theorem aiZ:Go.aV.Met Tryz.prog aK.gd 90 adx:=
 bW (cx:=aK) (n:=73) (cl:=[(96,aiq),(97,UM)]) (rc:=[]) ay ⟨Va,KW,trivial⟩ Tryz.func90 λd hd=>by
  obtain⟨⟨th,⟨mv,mo,mq,mg,⟨⟩⟩,bf,⟨⟩⟩,⟨id,fn,pc,rg,st,ch,ph,su,fa,he,⟨⟩⟩,⟨op,a,b,c,obj,n,fo,ord,⟨⟩⟩,⟨ag,ix,kd,eo,mx,en,lG,rd,wr,⟨⟩⟩,⟨⟩⟩:=d;exact aH (λ_=>none) (aos th mv mo mq mg bf id fn pc rg st ch ph su fa he op a b c obj n fo ord ag ix kd eo mx en lG rd wr hd) (by kernel_rfl)
abbrev akt:CT:={ ps:=[dQ,qO,shE],pre:=λd=>True,res:=λd=>([],.one (BM (wtS d.1.2.2.2.2.2.2.1 d.2.1.2.2.2.2.2.1 d.2.2.1))) }
theorem aot(id fn pc:Int) (rg:List Int) (st ch ph su fa:Int) (he:List Int) (op a b c obj n fo ord ag ix kd eo mx en lG rd wr:Int):
 let z1:=wtS ph n (ag,ix,kd,eo,mx,en,lG,rd,wr,());br (decide (ph=0)) (qE z1 (ag,ix,12,eo,n,en,lG,rd,wr,())) (br (decide (ph=1)) (qE z1 (ag,ix,13,eo,mx,en,lG,rd,wr,())) (qE z1 (ag,ix,9,n,mx,en,lG,rd,wr,()))):=by
 conv=>zeta
 refine aJ.2 ⟨λe=>jZ ?_,λn1=>aJ.2 ⟨λe=>jZ ?_,λn2=>jZ ?_⟩⟩
 ·subst e;rfl
 ·subst e;rfl
 ·show(if ph=0 then _ else _)=_
  rw[if_neg n1,if_neg n2]
theorem ai0:Go.aV.Met Tryz.prog aK.gd 88 akt:=
 bW (cx:=aK) (n:=23) (cl:=[]) (rc:=[]) ay trivial Tryz.func88 λd hd=>by
  obtain⟨⟨id,fn,pc,rg,st,ch,ph,su,fa,he,⟨⟩⟩,⟨op,a,b,c,obj,n,fo,ord,⟨⟩⟩,⟨ag,ix,kd,eo,mx,en,lG,rd,wr,⟨⟩⟩,⟨⟩⟩:=d;exact aH (λ_=>none) (aot id fn pc rg st ch ph su fa he op a b c obj n fo ord ag ix kd eo mx en lG rd wr) (by kernel_rfl)
abbrev GI:CT:={ ps:=[Lr,dQ,qO],pre:=λd=>kJ d.1.2.1 d.2.1 d.2.2.1,res:=λd=>([],.one (BM (labS d.1.2.1 d.2.1 d.2.2.1))) }
theorem aou(th:List TD) (mv mo:List Int) (mq:List (List Int)) (mg:List Int) (bf:List BD) (id fn pc:Int) (rg:List Int) (st ch ph su fa:Int) (he:List Int) (op a b c obj n fo ord:Int) (aA:GI.pre ((th,(mv,mo,mq,mg,()),bf,()),(id,fn,pc,rg,st,ch,ph,su,fa,he,()),(op,a,b,c,obj,n,fo,ord,()),())):
 let z4:=(mv,mo,mq,mg,());let z1:=labS z4 (id,fn,pc,rg,st,ch,ph,su,fa,he,()) (op,a,b,c,obj,n,fo,ord,());let z2:=(id,st,(0:Int),obj,(-1:Int),(-1:Int),(0:Int),(0:Int),(0:Int),());let z3:=0≤obj∧obj < (↑mq.length:Int);br (decide (op=13)) (qE z1 (id,st,7,obj,-1,-1,0,0,0,())) (br (decide (op=15)) (qE z1 (id,st,9,obj,-1,-1,0,0,0,())) (br (decide (op=16)) (qE z1 (id,st,10,obj,-1,-1,0,0,0,())) (br (decide (op=17)) (aZ z4∧True∧qE z1 (id,st,11,obj,-1,-1,0,Ak (mF z4 obj),0,())) (br (decide (op=18)) (True∧qE z1 (wtS ph n z2)) (br (decide (op=19)) (z3∧∀(d:List Int),mq[obj.toNat]?=some d→qE z1 (id,st,14,obj,-1,-1,0,fU (1:Int) (↑d.length:Int),0,())) (br (decide (op=20)) (z3∧∀(d:List Int),mq[obj.toNat]?=some d→qE z1 (id,st,15,obj,-1,-1,0,(↑d.length:Int),0,())) (br (decide (op=21)) (id≤9223372036854775807∧qE z1 (id,st,16,(dB id ch).fst,-1,-1,0,0,0,())) (br (decide (op=22)) ((0≤b∧b < 8)∧b.toNat < 8∧∀(d:Int),rg[b.toNat]?=some d→qE z1 (id,st,17,d,-1,-1,0,0,0,())) ((aZ z4∧rg.length=8∧(0≤b∧b < 8)∧0≤c∧c < 8)∧qE z1 (aoq (xw z4 obj).fst (rg.getD b.toNat (0:Int)) (rg.getD c.toNat (0:Int)) op ord z2)))))))))):=by
 conv=>zeta
 obtain⟨⟨hM,hf,hT⟩,hb,hc,hv,ho1,ho2,ho3⟩:kJ (mv,mo,mq,mg,()) (id,fn,pc,rg,st,ch,ph,su,fa,he,()) (op,a,b,c,obj,n,fo,ord,()):=aA;obtain⟨t1,t2,t3⟩:he.length≤1000000∧id≤9223372036854775807∧rg.length=8:=hT;have hb:0≤b∧b < 8:=hb;have hc:0≤c∧c < 8:=hc;have hv:8≤op∧op≤22:=hv;have ho1:op≤14∧op≠13→0≤obj∧obj < (mv.length:Int):=ho1;have ho2:18≤op∧op≤20→0≤obj∧obj < (mq.length:Int):=ho2;have hb8:b.toNat < 8:=by omega
 refine aJ.2 ⟨λe=>jZ ?_,λn1=>aJ.2 ⟨λe=>jZ ?_,λn2=>aJ.2 ⟨λe=>jZ ?_,λn3=>aJ.2 ⟨λe=>⟨hM,trivial,jZ ?_⟩,λn4=>aJ.2 ⟨λe=>⟨trivial,jZ ?_⟩,λn5=>aJ.2 ⟨λe=>⟨ho2 (by omega),λd hd=>jZ ?_⟩,λn6=>aJ.2 ⟨λe=>⟨ho2 (by omega),λd hd=>jZ ?_⟩,λn7=>aJ.2 ⟨λe=>⟨t2,jZ ?_⟩,λn8=>aJ.2 ⟨λe=>⟨hb,hb8,λd hd=>jZ ?_⟩,λn9=>⟨⟨hM,t3,hb,hc⟩,jZ ?_⟩⟩⟩⟩⟩⟩⟩⟩⟩⟩
 ·subst e;rfl
 ·subst e;rfl
 ·subst e;rfl
 ·subst e;rfl
 ·subst e;have e1:∀m t,labS m t (18,a,b,c,obj,n,fo,ord,())=if t.2.2.2.2.2.2.1=0 then(t.1,t.2.2.2.2.1,12,obj,n,-1,0,0,0,()) else if t.2.2.2.2.2.2.1=1 then(t.1,t.2.2.2.2.1,13,obj,-1,-1,0,0,0,()) else(t.1,t.2.2.2.2.1,9,n,-1,-1,0,0,0,()):=λ_ _=>rfl
  rw[e1];rfl
 ·subst e;have e1:∀m t,labS m t (19,a,b,c,obj,n,fo,ord,())=(t.1,t.2.2.2.2.1,14,obj,-1,-1,0,fU 1 (m.2.2.1[obj.toNat]?.getD []).length,0,()):=λ_ _=>rfl
  rw[e1];show(_,_,_,_,_,_,_,fU 1 (mq[obj.toNat]?.getD []).length,_,_)=_;rw[hd];rfl
 ·subst e;have e1:∀m t,labS m t (20,a,b,c,obj,n,fo,ord,())=(t.1,t.2.2.2.2.1,15,obj,-1,-1,0,((m.2.2.1[obj.toNat]?.getD []).length:Int),0,()):=λ_ _=>rfl
  rw[e1];show(_,_,_,_,_,_,_,(((mq[obj.toNat]?.getD []).length:Nat):Int),_,_)=_;rw[hd];rfl
 ·subst e;rfl
 ·subst e;have e1:∀m t,labS m t (22,a,b,c,obj,n,fo,ord,())=(t.1,t.2.2.2.2.1,17,t.2.2.2.1.getD b.toNat 0,-1,-1,0,0,0,()):=λ_ _=>rfl
  rw[e1];show(_,_,_,rg.getD b.toNat 0,_,_,_,_,_,_)=_;rw[SL hd]
 ·rw[Vs hf (ho1 (by omega))]
  have:op=8∨op=9∨op=10∨op=11∨op=12∨op=14:=by omega
  rcases this with e | e | e | e | e | e<;>subst e<;>rfl
theorem Vt:Go.aV.Met Tryz.prog aK.gd 42 GI:=
 bW (cx:=aK) (n:=91) (cl:=[(86,GH),(87,O9),(88,akt),(89,UN),(90,adx)]) (rc:=[]) ay ⟨aiY,Vb,ai0,UO,aiZ,trivial⟩ Tryz.func42 λd hd=>by
  obtain⟨⟨th,⟨mv,mo,mq,mg,⟨⟩⟩,bf,⟨⟩⟩,⟨id,fn,pc,rg,st,ch,ph,su,fa,he,⟨⟩⟩,⟨op,a,b,c,obj,n,fo,ord,⟨⟩⟩,⟨⟩⟩:=d;exact aH (λ_=>none) (aou th mv mo mq mg bf id fn pc rg st ch ph su fa he op a b c obj n fo ord hd) (by kernel_rfl)
abbrev Vu:CT:={ ps:=[Lr,dQ,qO],pre:=λd=>kJ d.1.2.1 d.2.1 d.2.2.1∧d.1.1.length≤1000000,res:=λd=>([],vB (CY d.1.1 d.1.2.1 d.2.1 d.2.2.1)) }
theorem aov(th:List TD) (mv mo:List Int) (mq:List (List Int)) (mg:List Int) (bf:List BD) (id fn pc:Int) (rg:List Int) (st ch ph su fa:Int) (he:List Int) (op a b c obj n fo ord:Int) (aA:Vu.pre ((th,(mv,mo,mq,mg,()),bf,()),(id,fn,pc,rg,st,ch,ph,su,fa,he,()),(op,a,b,c,obj,n,fo,ord,()),())):
 let z7:=(mv,mo,mq,mg,());let z3:=CY th z7 (id,fn,pc,rg,st,ch,ph,su,fa,he,()) (op,a,b,c,obj,n,fo,ord,());let z2:=qB z3 true;let z5:=λ(d:Int)=>0≤eX (λt=>decide (t.fst=(th,d,()).snd.fst)) th;let z6:=λ(d:Int)=>eX (λt=>decide (t.fst=(th,d,()).snd.fst)) th;let z4:=λ(d:Int)=>dX (z6 d) (0:Int);let z1:=λ(dH:TD) (d:Int)=>!decide (dH.snd.snd.snd.snd.snd.snd.snd.fst=2) && decide (z5 d);br (decide (op=14)) (aZ z7∧(0≤b∧b < 8)∧b.toNat < 8∧∀(d:Int),rg[b.toNat]?=some d→True∧qB z3 (!decide ((dP fo ((xw z7 obj).fst,d,()).fst d).fst=0))) (br (decide (op=15)) (aZ z7∧qB z3 (mF z7 obj)) (br (decide (op=18)) (br (decide (ph=1)) (mg.length≤4611686018427387904∧qB z3 (dM mg id)) (br (decide (ph=2)) (aZ z7∧qB z3 (mF z7 n)) z2)) (br (decide (op=22)) ((0≤b∧b < 8)∧b.toNat < 8∧∀(d:Int),rg[b.toNat]?=some d→th.length≤1000000∧(decide (z5 d)=true→0≤dX (z6 d) (0:Int)∧dX (z6 d) 0 < (↑th.length:Int))∧∀(dH:TD),(decide (z5 d)=true→th[(z4 d).toNat]?=some dH)→((z1 dH d)=true→0≤dX (z6 d) (0:Int)∧dX (z6 d) 0 < (↑th.length:Int))∧∀(dN:TD),((z1 dH d)=true→th[(z4 d).toNat]?=some dN)→qB z3 (decide (z5 d) && (decide (dH.snd.snd.snd.snd.snd.snd.snd.fst=2) || decide (dN.snd.snd.snd.snd.snd.snd.snd.fst=3)))) z2))):=by
 conv=>zeta
 obtain⟨⟨⟨hM,hf,hT⟩,hb,hc,hv,ho1,ho2,ho3⟩,hl⟩:kJ (mv,mo,mq,mg,()) (id,fn,pc,rg,st,ch,ph,su,fa,he,()) (op,a,b,c,obj,n,fo,ord,())∧th.length≤1000000:=aA;have hb:0≤b∧b < 8:=hb;have ho1:op≤14∧op≠13→0≤obj∧obj < (mv.length:Int):=ho1;have hb8:b.toNat < 8:=by omega
 have hg:mg.length≤4611686018427387904:=by have:mg.length≤1000:=hM.2.2.2.1;omega
 refine aJ.2 ⟨λe=>⟨hM,hb,hb8,λd hd=>⟨trivial,jO ?_⟩⟩,λn1=>aJ.2 ⟨λe=>⟨hM,jO ?_⟩,λn2=>aJ.2 ⟨λe=>aJ.2 ⟨λe2=>⟨hg,jO ?_⟩,λm1=>aJ.2 ⟨λe2=>⟨hM,jO ?_⟩,λm2=>jO ?_⟩⟩,λn3=>aJ.2 ⟨λe=>⟨hb,hb8,λd hd=>⟨hl,λq=>?_,λd1 h1=>⟨λq=>?_,λd2 h2=>jO ?_⟩⟩⟩,λn4=>jO ?_⟩⟩⟩⟩
 ·subst e;have e1:∀l m t,CY l m t (14,a,b,c,obj,n,fo,ord,())=decide ((dP fo (m.1[obj.toNat]?.getD 0) (t.2.2.2.1.getD b.toNat 0)).1≠0):=λ_ _ _=>rfl
  rw[e1,←decide_not];show decide ((dP fo (mv[obj.toNat]?.getD 0) (rg.getD b.toNat 0)).1≠0)=_;rw[SL hd,Vs hf (ho1 (by omega))]
 ·subst e;rfl
 ·subst e;subst e2;rfl
 ·subst e;subst e2;rfl
 ·subst e;have e1:∀l m t,CY l m t (18,a,b,c,obj,n,fo,ord,())=if t.2.2.2.2.2.2.1=1 then dM m.2.2.2.1 t.1 else if t.2.2.2.2.2.2.1=2 then mF m n else true:=λ_ _ _=>rfl
  rw[e1];show(if ph=1 then _ else _)=_
  rw[if_neg m1,if_neg m2]
 ·obtain⟨k,t,q1,q2,q3,q4⟩:=lY (A83 q);rw[q1];unfold dX;split<;>omega
 ·rw[A8]at q;obtain⟨k,t,q1,q2,q3,q4⟩:=lY (A83 q.2);rw[q1];unfold dX;split<;>omega
 ·subst e;have e1:∀l m t,CY l m t (22,a,b,c,obj,n,fo,ord,())=(match wP l (t.2.2.2.1.getD b.toNat 0) with
   | some u=>decide (u.2.2.2.2.2.2.2.1=2) || decide (u.2.2.2.2.2.2.2.1=3)
   | none=>false):=λ_ _ _=>rfl
  rw[e1];show(match wP th (rg.getD b.toNat 0) with
   | some u=>decide (u.2.2.2.2.2.2.2.1=2) || decide (u.2.2.2.2.2.2.2.1=3)
   | none=>false)=_
  rw[SL hd];unfold wP
  by_cases q:0≤eX (λt=>decide (t.1=d)) th
  ·obtain⟨k,t,q1,q2,q3,q4⟩:=lY q;have h1:=h1 (L6 q);have ek:(dX (eX (λt=>decide (t.1=d)) th) 0).toNat=k:=by rw[q1];unfold dX;split<;>omega
   rw[ek,q2]at h1;have eq1:t=d1:=PL h1;subst eq1;rw[q3,L6 q,BQ]
   by_cases s2:t.2.2.2.2.2.2.2.1=2
   ·simp[s2]
   ·have h2:=h2 (by rw[Ed s2,L6 q];rfl)
    rw[ek,q2]at h2;have eq2:t=d2:=PL h2;subst eq2;simp[s2]
  ·rw[nN q,Ed q];rfl
 ·show CY th _ _ _=_;unfold CY;rw[if_neg n1,if_neg n2,if_neg n3,if_neg n4]
theorem Vw:Go.aV.Met Tryz.prog aK.gd 46 Vu:=
 bW (cx:=aK) (n:=97) (cl:=[(96,aiq),(87,O9),(97,UM),(52,xA),(98,FW)]) (rc:=[]) ay ⟨Va,Vb,KW,DZ,zN,trivial⟩ Tryz.func46 λd hd=>by
  obtain⟨⟨th,⟨mv,mo,mq,mg,⟨⟩⟩,bf,⟨⟩⟩,⟨id,fn,pc,rg,st,ch,ph,su,fa,he,⟨⟩⟩,⟨op,a,b,c,obj,n,fo,ord,⟨⟩⟩,⟨⟩⟩:=d;exact aH (λ_=>none) (aov th mv mo mq mg bf id fn pc rg st ch ph su fa he op a b c obj n fo ord hd) (by kernel_rfl)
def zI:ID:=(0,0,0,0,0,0,0,0,())
def jm(e:Int) (ms:List ByteArray) (fs:List FD) (l:List TD) (id:Int):TD×ID×Bool:=match wP l id with
 | some t=>(t,(iJ e ms fs t).1,(iJ e ms fs t).2)
 | none=>(zT,zI,false)
def SN(e:Int) (ms:List ByteArray) (fs:List FD) (l:List TD) (m:MD) (t:TD):Bool:=(iJ e ms fs t).2 && CY l m t (iJ e ms fs t).1
def sD(e:Int) (ms:List ByteArray) (fs:List FD) (l:List TD) (m:MD):List TD→List Int:=λl'=>(l'.filter (SN e ms fs l m)).map (·.1)
def sG(vs:List VD) (ms cs:List ByteArray) (fs:List FD) (ts:List SD) (l:List TD) (m:MD) (bf:List BD):List Int:=if vsB vs ms cs fs ts 32 l m bf=true then sD (aB vs ms cs fs ts).1 ms fs l m l else[]
theorem vN{e:Int}{ms:List ByteArray}{fs:List FD}{l0 l:List TD}{m:MD}{k:Nat}{d:TD} (h:l[k]?=some d):sD e ms fs l0 m (l.take (k+1))=sD e ms fs l0 m (l.take k)++if SN e ms fs l0 m d=true then[d.1] else[]:=by
 unfold sD;rw[Jt,h,List.filter_append,MF]
 congr 1
 by_cases q:SN e ms fs l0 m d=true
 ·simp[q]
 ·simp[q]
theorem ady{i:ID} (h:rX i=0) (hu:use i.1 6=false):i.2.2.2.2.2.2.2.1=0:=by
 unfold rX pG at h
 repeat' split at h
 all_goals first | (simp at h;done) | skip
 rename_i h1 h2 h3 h4 h5 h6;rw[hu]at h2;simp only[AA,A8,A81]at h2
 by_cases q:i.2.2.2.2.2.2.2.1=0
 ·exact q
 ·exact absurd (.inr ⟨rfl,q⟩) h2
theorem Pn{e:Int}{ms:List ByteArray}{fs:List FD}{t:TD} (h:(iJ e ms fs t).2=true):e=0∧t.2.2.2.2.2.2.2.1=1∧qQ ms fs 32 t∧lH fs t.2.1 t.2.2.1=some (iJ e ms fs t).1:=by
 unfold iJ at h ⊢
 split at h
 ·rename_i q;rw[if_pos q];refine⟨q.1,q.2.1,q.2.2,?_⟩;unfold atR at h ⊢
  cases ha:lH fs t.2.1 t.2.2.1 with
  | none=>rw[ha]at h;cases h
  | some i=>rfl
 ·cases h
theorem wL{p:PD}{m:MD} (h:jI p m=true):(aB p.1 p.2.1 p.2.2.1 p.2.2.2.1 p.2.2.2.2.1).1=0∧dI m=true∧m.1.length=p.1.length∧m.2.1.length=p.2.1.length∧m.2.2.1.length=p.2.2.1.length:=by
 unfold jI at h;simp only[A8,dG]at h;exact⟨h.1.1.1.1,h.1.1.1.2,h.1.1.2,h.1.2,h.2⟩
theorem D5{vs:List VD}{ms cs:List ByteArray}{fs:List FD}{ts:List SD}{m:MD}{t:TD} (hv:jI (vs,ms,cs,fs,ts,()) m=true) (hM:aZ m) (hT:tB t) (h:(iJ (aB vs ms cs fs ts).1 ms fs t).2=true):
 kJ m t (iJ (aB vs ms cs fs ts).1 ms fs t).1:=by
 obtain⟨e0,h1,h2,h3⟩:=Pn h;obtain⟨_,f,l1,l2,l3⟩:=wL hv;have l1:m.1.length=vs.length:=l1;have l3:m.2.2.1.length=cs.length:=l3;generalize (iJ (aB vs ms cs fs ts).1 ms fs t).1=i at h3;obtain⟨_,_,j,hj,vj,_⟩:=yB h2 h1;rw[h3]at hj;cases hj;have hf:=(BG (pO h2)).1;obtain⟨k1,k2,k3,k4⟩:=mY (xk e0 hf h3);obtain⟨r1,r2,r3,r4⟩:=kH k1;have vj:8≤i.1∧i.1≤22:=by unfold jf at vj;simpa using vj
 refine⟨⟨hM,f,hT⟩,r2,r3,vj,λq=>?_,λq=>?_,λq=>?_⟩
 ·have e1:pK vs ms cs fs i.1=vs.length:=by unfold pK;rw[if_pos (by omega)]
  rw[e1]at k2;rw[l1];exact k2 (by omega)
 ·have e1:pK vs ms cs fs i.1=cs.length:=by unfold pK;rw[if_neg (by omega),if_neg (by omega),if_pos (by omega)]
  rw[e1]at k2;rw[l3];exact k2 (by omega)
 ·refine ady k1 ?_;have:i.1=13∨i.1=15∨i.1=16∨i.1=17∨i.1=18∨i.1=19∨i.1=20∨i.1=21∨i.1=22:=by omega
  rcases this with e | e | e | e | e | e | e | e | e<;>rw[e]<;>rfl
abbrev Vx:CT:={ ps:=[oH,Lr,.int .i64],pre:=λd=>bnd (d.1,())∧iK d.2.1.1,res:=λd=>([],.gX [.dat dQ (jm (aB d.1.1 d.1.2.1 d.1.2.2.1 d.1.2.2.2.1 d.1.2.2.2.2.1).1 d.1.2.1 d.1.2.2.2.1 d.2.1.1 d.2.2.1).1,agI ((jm (aB d.1.1 d.1.2.1 d.1.2.2.1 d.1.2.2.2.1 d.1.2.2.2.2.1).1 d.1.2.1 d.1.2.2.2.1 d.2.1.1 d.2.2.1).2.1),.c (.v (.bool ((jm (aB d.1.1 d.1.2.1 d.1.2.2.1 d.1.2.2.2.1 d.1.2.2.2.2.1).1 d.1.2.1 d.1.2.2.2.1 d.2.1.1 d.2.2.1).2.2)))]) }
theorem aow(vs:List VD) (ms cs:List ByteArray) (fs:List FD) (ts:List SD) (th:List TD) (mv mo:List Int) (mq:List (List Int)) (mg:List Int) (bf:List BD) (id:Int) (aA:Vx.pre ((vs,ms,cs,fs,ts,()),(th,(mv,mo,mq,mg,()),bf,()),id,())):
 let z9:=aB vs ms cs fs ts;let z7:=jm z9.fst ms fs th id;let z2:=[SV.dat dQ z7.fst,agI (z7.snd.fst),cB (z7.snd.snd)];let z8:=eX (λt=>decide (t.fst=id)) th;let z4:=0≤dX z8 (0:Int)∧dX z8 0 < (↑th.length:Int);let z6:=dX z8 (0:Int);let z3:=λ(d:TD)=>(bnd ((vs,ms,cs,fs,ts,()),()))∧List.length d.snd.snd.snd.snd.snd.snd.snd.snd.snd.fst≤1000000∧d.fst≤9223372036854775807∧List.length d.snd.snd.snd.fst=8;let z5:=λ(dH d:TD)=>[SV.dat dQ (dH),agI ((iJ z9.fst ms fs d).fst),cB ((iJ z9.fst ms fs d).snd)];let z1:=λ(dH d:TD)=>rT z2 (z5 dH d);th.length≤1000000∧br (!decide (0≤eX (λt=>decide (t.fst=id)) th)) (rT z2 [SV.dat dQ (((0:Int),(0:Int),(0:Int),kq4,(0:Int),(0:Int),(0:Int),(0:Int),(0:Int),[],())),agI (0,0,0,0,0,0,0,0,()),cB false]) (z4∧∀(d:TD),th[z6.toNat]?=some d→((z3 d)∧z4∧∀(dH:TD),th[z6.toNat]?=some dH→(z1 dH d)∧rT z2 (z5 dH d))∧(z3 d)∧z4∧∀(dH:TD),th[z6.toNat]?=some dH→(z1 dH d)∧rT z2 (z5 dH d)):=by
 conv=>zeta
 delta kq4;obtain⟨hb,hl,hT⟩:bnd ((vs,ms,cs,fs,ts,()),())∧iK th:=aA;refine⟨hl,ah.2 ⟨λh=>?_,λh=>?_⟩⟩
 ·have q:¬0≤eX (λt=>decide (t.1=id)) th:=by simpa using h
  have e:jm (aB vs ms cs fs ts).1 ms fs th id=(zT,zI,false):=by unfold jm wP;rw[nN q]
  rw[e];exact⟨rfl,rfl⟩
 ·have q:0≤eX (λt=>decide (t.1=id)) th:=by simpa using h
  obtain⟨k,t,q1,q2,q3,q4⟩:=lY q;have ek:(dX (eX (λt=>decide (t.1=id)) th) 0).toNat=k:=by rw[q1];unfold dX;split<;>omega
  have hx:0≤dX (eX (λt=>decide (t.1=id)) th) 0∧dX (eX (λt=>decide (t.1=id)) th) 0 < (th.length:Int):=by rw[q1];unfold dX;split<;>omega
  have e:jm (aB vs ms cs fs ts).1 ms fs th id=(t,(iJ (aB vs ms cs fs ts).1 ms fs t).1,(iJ (aB vs ms cs fs ts).1 ms fs t).2):=by unfold jm wP;rw[q3]
  have key:∀d d1:TD,th[(dX (eX (λt=>decide (t.1=id)) th) 0).toNat]?=some d→th[(dX (eX (λt=>decide (t.1=id)) th) 0).toNat]?=some d1→rT [SV.dat dQ (jm (aB vs ms cs fs ts).1 ms fs th id).1,agI (jm (aB vs ms cs fs ts).1 ms fs th id).2.1,cB (jm (aB vs ms cs fs ts).1 ms fs th id).2.2] [SV.dat dQ d1,agI (iJ (aB vs ms cs fs ts).1 ms fs d).1,cB (iJ (aB vs ms cs fs ts).1 ms fs d).2]:=by
   intro d d1 h1 h2;rw[ek,q2]at h1 h2;have e1:t=d:=PL h1;have e2:t=d1:=PL h2;subst e1;subst e2;rw[e];exact⟨rfl,rfl⟩
  exact⟨hx,λd hd=>⟨⟨⟨hb,hT d (iF hd)⟩,hx,λd1 h1=>⟨key d d1 hd h1,key d d1 hd h1⟩⟩,⟨hb,hT d (iF hd)⟩,hx,λd1 h1=>⟨key d d1 hd h1,key d d1 hd h1⟩⟩⟩
theorem Vy:Go.aV.Met Tryz.prog aK.gd 41 Vx:=
 bW (cx:=aK) (n:=40) (cl:=[(52,xA),(45,U1)]) (rc:=[.data dQ,.keep,.keep]) ay ⟨DZ,U2,trivial⟩ Tryz.func41 λd hd=>by
  obtain⟨⟨vs,ms,cs,fs,ts,⟨⟩⟩,⟨th,⟨mv,mo,mq,mg,⟨⟩⟩,bf,⟨⟩⟩,id,⟨⟩⟩:=d;exact aH (λ_=>none) (aow vs ms cs fs ts th mv mo mq mg bf id hd) (by kernel_rfl)
abbrev BO:CT:={ ps:=[oH,Lr],pre:=λd=>bnd (d.1,())∧iK d.2.1.1∧aZ d.2.1.2.1,res:=λd=>([],.one (.c (.sl (.int .i64) (sG d.1.1 d.1.2.1 d.1.2.2.1 d.1.2.2.2.1 d.1.2.2.2.2.1 d.2.1.1 d.2.1.2.1 d.2.1.2.2.1)))) }
@[reducible] def arE (vs:List VD) (ms cs:List ByteArray) (fs:List FD) (ts:List SD) (th:List TD) (mv mo:List Int) (mq:List (List Int)) (mg:List Int) (bf:List BD):Nat→Option (St→iC):=λk=>match k with
  | 5=>some λ_=>.inv { α:=Nat,nil:=[(5,3,.int .i64)],slots:=λk=>[(17,.c (.v (.int .i64 k))),(5,.c (.row 2))],res:=λk=>[(2,.row 3 (.int .i64) (sD (aB vs ms cs fs ts).1 ms fs th (mv,mo,mq,mg,()) (th.take k)))],inv:=λk=>k≤th.length,meas:=λk=>th.length - k }
  | _=>none
theorem aox(vs:List VD) (ms cs:List ByteArray) (fs:List FD) (ts:List SD) (th:List TD) (mv mo:List Int) (mq:List (List Int)) (mg:List Int) (bf:List BD) (aA:BO.pre ((vs,ms,cs,fs,ts,()),(th,(mv,mo,mq,mg,()),bf,()),())):
 let z7:=bnd ((vs,ms,cs,fs,ts,()),());let z10:=(mv,mo,mq,mg,());let z4:=aT.one (SV.c (SC.sl I6 (sG vs ms cs fs ts th z10 bf)));let z11:=bP vs ms cs fs ts;let z8:=bZ th mv mo mq mg bf;let z9:=aB vs ms cs fs ts;let z2:=λ(x:Nat)=>sD z9.fst ms fs th z10 (List.take x th);let z1:=λ(x:Nat)=>[g0 z11,g0 z8,g0 (aj.row 3 I6 (z2 x))];let z6:=λ(d:TD)=>iJ z9.fst ms fs d;let z5:=λ(d:TD)=>(z6 d).fst;let z3:=λ(x x':Nat)=>cI ((↑x:Int)+(1:Int))=cI (↑x':Int)∧sm (SV.c (SC.row 2))∧True;(z7∧iK th∧aZ z10)∧br (!vsB vs ms cs fs ts (32:Int) th z10 bf) (rE z4 (aT.one (SV.c (SC.sl I6 [])))) ((∃x,x≤th.length∧(cI 0=cI (↑x:Int)∧sm (SV.c (SC.row 2))∧True)∧[g0 z11,g0 z8,g0 (aj.row 3 I6 [])]=(z1 x))∧∀(x:Nat),x≤th.length→br (decide ((↑x:Int) < (↑th.length:Int))) ((0≤(↑x:Int)∧(↑x:Int) < (↑th.length:Int))∧∀(d:TD),th[(↑x:Int).toNat]?=some d→(z7∧List.length d.snd.snd.snd.snd.snd.snd.snd.snd.snd.fst≤1000000∧d.fst≤9223372036854775807∧List.length d.snd.snd.snd.fst=8)∧((z6 d).snd=true→kJ z10 d (z5 d)∧th.length≤1000000)∧br ((z6 d).snd && CY th z10 d (z5 d)) (jS (List.length (z2 x)+List.length ([(d).fst])) 8∧cZ IntKind.i64 ((↑x:Int)+(1:Int))∧∃x',x'≤th.length∧(z3 x x')∧[g0 z11,g0 z8,g0 (aj.row 3 I6 (sD z9.fst ms fs th z10 (List.take x th)++[(d).fst]))]=(z1 x')∧th.length - x' < th.length - x) (cZ IntKind.i64 ((↑x:Int)+(1:Int))∧∃x',x'≤th.length∧(z3 x x')∧(z1 x)=(z1 x')∧th.length - x' < th.length - x)) (rE z4 (aT.one (SV.c (SC.sl I6 (z2 x)))))):=by
 conv=>zeta
 obtain⟨hb,⟨hl,hT⟩,hM⟩:bnd ((vs,ms,cs,fs,ts,()),())∧iK th∧aZ (mv,mo,mq,mg,()):=aA;refine⟨⟨hb,⟨hl,hT⟩,hM⟩,ah.2 ⟨λh=>?_,λh=>⟨⟨0,by omega,⟨rfl,rfl,trivial⟩,by simp[sD]⟩,λk hk=>ah.2 ⟨λg=>?_,λg=>?_⟩⟩⟩⟩
 ·have h:vsB vs ms cs fs ts 32 th (mv,mo,mq,mg,()) bf=false:=by simpa using h
  exact⟨rfl,by unfold sG;rw[h];rfl⟩
 ·simp only[dG]at g;have hv:vsB vs ms cs fs ts 32 th (mv,mo,mq,mg,()) bf=true:=by simpa using h
  have hV:=jM.1 hv;have hle:(sD (aB vs ms cs fs ts).1 ms fs th (mv,mo,mq,mg,()) (th.take k)).length≤k:=by
   unfold sD;rw[A87];exact vO (VW _ _) (by rw[ku];omega)
  refine⟨⟨by omega,by omega⟩,λd hd=>⟨⟨hb,hT d (iF hd)⟩,λq=>⟨D5 hV.1 hM (hT d (iF hd)) q,hl⟩,ah.2 ⟨λg2=>⟨bI.2 (by simp only[yK,LZ];omega),au.2 (by omega),k+1,by omega,⟨rfl,rfl,trivial⟩,?_,by omega⟩,λg2=>⟨au.2 (by omega),k+1,by omega,⟨rfl,rfl,trivial⟩,?_,by omega⟩⟩⟩⟩
  ·have hd:th[k]?=some d:=hd;rw[vN hd,if_pos (show SN _ _ _ _ _ _=true from g2)]
  ·have hd:th[k]?=some d:=hd;have g2:SN (aB vs ms cs fs ts).1 ms fs th (mv,mo,mq,mg,()) d=false:=g2;rw[vN hd,g2];simp
 ·simp only[dh]at g;have hv:vsB vs ms cs fs ts 32 th (mv,mo,mq,mg,()) bf=true:=by simpa using h
  have ek:k=th.length:=by omega
  subst ek;rw[tZ (Eb _)];exact⟨rfl,by unfold sG;rw[if_pos hv]⟩
theorem ai1:Go.aV.Met Tryz.prog aK.gd 19 BO:=
 bW (cx:=aK) (n:=41) (cl:=[(40,Lu),(45,U1),(46,Vu)]) (rc:=[.data (.sl (.int .i64))]) ay ⟨LC,U2,Vw,trivial⟩ Tryz.func19 λd hd=>by
  obtain⟨⟨vs,ms,cs,fs,ts,⟨⟩⟩,⟨th,⟨mv,mo,mq,mg,⟨⟩⟩,bf,⟨⟩⟩,⟨⟩⟩:=d;exact aH (arE vs ms cs fs ts th mv mo mq mg bf) (aox vs ms cs fs ts th mv mo mq mg bf hd) (by kernel_rfl)
def CZ(vs:List VD) (ms cs:List ByteArray) (fs:List FD) (ts:List SD) (l:List TD) (m:MD) (bf:List BD) (id:Int):ED×Bool:=
 if vsB vs ms cs fs ts 32 l m bf=true then(if(jm (aB vs ms cs fs ts).1 ms fs l id).2.2=true then(labS m (jm (aB vs ms cs fs ts).1 ms fs l id).1 (jm (aB vs ms cs fs ts).1 ms fs l id).2.1,true) else(zE,false)) else(zE,false)
abbrev adz:CT:={ ps:=[oH,Lr,.int .i64],pre:=λd=>bnd (d.1,())∧iK d.2.1.1∧aZ d.2.1.2.1,res:=λd=>([],.gX [BM ((CZ d.1.1 d.1.2.1 d.1.2.2.1 d.1.2.2.2.1 d.1.2.2.2.2.1 d.2.1.1 d.2.1.2.1 d.2.1.2.2.1 d.2.2.1).1),.c (.v (.bool ((CZ d.1.1 d.1.2.1 d.1.2.2.1 d.1.2.2.2.1 d.1.2.2.2.2.1 d.2.1.1 d.2.1.2.1 d.2.1.2.2.1 d.2.2.1).2)))]) }
theorem aoy(vs:List VD) (ms cs:List ByteArray) (fs:List FD) (ts:List SD) (th:List TD) (mv mo:List Int) (mq:List (List Int)) (mg:List Int) (bf:List BD) (id:Int) (aA:adz.pre ((vs,ms,cs,fs,ts,()),(th,(mv,mo,mq,mg,()),bf,()),id,())):
 let z7:=bnd ((vs,ms,cs,fs,ts,()),());let z8:=(mv,mo,mq,mg,());let z4:=CZ vs ms cs fs ts th z8 bf id;let z2:=[BM (z4.fst),cB (z4.snd)];let z1:=rT z2 [BM (0,0,0,0,0,0,0,0,0,()),cB false];let z6:=jm (aB vs ms cs fs ts).fst ms fs th id;let z5:=z6.fst;let z3:=z6.snd.fst;(z7∧iK th∧aZ z8)∧br (!vsB vs ms cs fs ts (32:Int) th z8 bf) z1 ((z7∧iK th)∧br (!z6.snd.snd) z1 (kJ z8 z5 z3∧rT z2 [BM (labS z8 z5 z3),cB true])):=by
 conv=>zeta
 obtain⟨hb,hT,hM⟩:bnd ((vs,ms,cs,fs,ts,()),())∧iK th∧aZ (mv,mo,mq,mg,()):=aA;refine⟨⟨hb,hT,hM⟩,ah.2 ⟨λh=>?_,λh=>⟨⟨hb,hT⟩,ah.2 ⟨λh2=>?_,λh2=>⟨?_,?_⟩⟩⟩⟩⟩
 ·have h:vsB vs ms cs fs ts 32 th (mv,mo,mq,mg,()) bf=false:=by simpa using h
  have e:CZ vs ms cs fs ts th (mv,mo,mq,mg,()) bf id=(zE,false):=by unfold CZ;rw[h];rfl
  rw[e];exact⟨rfl,rfl⟩
 all_goals have hv:vsB vs ms cs fs ts 32 th (mv,mo,mq,mg,()) bf=true:=by simpa using h
 ·have h2:(jm (aB vs ms cs fs ts).1 ms fs th id).2.2=false:=by simpa using h2
  have e:CZ vs ms cs fs ts th (mv,mo,mq,mg,()) bf id=(zE,false):=by unfold CZ;rw[if_pos hv,h2];rfl
  rw[e];exact⟨rfl,rfl⟩
 all_goals have h2:(jm (aB vs ms cs fs ts).1 ms fs th id).2.2=true:=by simpa using h2
 ·have h3:=h2;unfold jm at h3 ⊢;cases ef:wP th id with
  | none=>rw[ef]at h3;cases h3
  | some t=>
    rw[ef]at h3;exact D5 (jM.1 hv).1 hM (hT.2 t (List.mem_of_find?_eq_some ef)) h3
 ·have e:CZ vs ms cs fs ts th (mv,mo,mq,mg,()) bf id=(labS (mv,mo,mq,mg,()) (jm (aB vs ms cs fs ts).1 ms fs th id).1 (jm (aB vs ms cs fs ts).1 ms fs th id).2.1,true):=by unfold CZ;rw[if_pos hv,if_pos h2]
  rw[e];exact⟨rfl,rfl⟩
theorem ai2:Go.aV.Met Tryz.prog aK.gd 16 adz:=
 bW (cx:=aK) (n:=31) (cl:=[(40,Lu),(41,Vx),(42,GI)]) (rc:=[.keep,.keep]) ay ⟨LC,Vy,Vt,trivial⟩ Tryz.func16 λd hd=>by
  obtain⟨⟨vs,ms,cs,fs,ts,⟨⟩⟩,⟨th,⟨mv,mo,mq,mg,⟨⟩⟩,bf,⟨⟩⟩,id,⟨⟩⟩:=d;exact aH (λ_=>none) (aoy vs ms cs fs ts th mv mo mq mg bf id hd) (by kernel_rfl)
abbrev shR:Sh:=.pair (.sl (.int .i64)) (.pair (.sl (.int .i64)) (.pair (.sl (.sl (.int .i64))) (.pair (.sl (.int .i64)) (.pair (.sl yH) .unit))))
def zR:TD:=(0,0,0,List.replicate 8 0,0,0,0,0,0,[],())
open Classical in
def mJ{α:Type} (a b:α):Bool:=decide (a=b)
theorem mZ{α:Type}{a b:α}:mJ a b=true↔a=b:=by unfold mJ;exact @Yd _ (Classical.propDecidable _)
theorem lC{α:Type}{a b:α} (h:a≠b):mJ a b=false:=G7.2 λq=>h (mZ.1 q)
theorem ji{α:Type}{a b:α} (h:a=b):mJ a b=true:=mZ.2 h
theorem LD{m:MD}{i id f t:Int} (h:aZ m):aZ (ig m i id f t).1:=by
 have z:aZ zM:=⟨by decide,by decide,by decide,by decide,by decide,by decide⟩
 unfold ig;split
 ·split
  ·exact z
  ·split
   ·obtain⟨h1,h2,h3⟩:=h;exact⟨h1,by rw[pX];exact h2,h3⟩
   ·exact z
 ·exact z
theorem aku{a b:List SV} (h:a=b):rT a b:=⟨rfl,by rw[h]⟩
def Am(l:List BD):Prop:=l.length≤1000000∧∀b∈l,b.2.2.1.length≤1000000
def LG(z:ZD):Prop:=iK z.1∧aZ z.2.1∧Am z.2.2.1
abbrev adA:CT:={ ps:=[pY,dQ,qO,shE],pre:=λd=>aZ d.1∧d.2.1.1=d.2.2.2.1.1,res:=λd=>([],.gX [BN ((jF d.1 d.2.2.2.1).1),.c (.v (.int .i64 (uM d.2.2.1 d.2.2.2.1))),.c (.v (.int .i64 ((jF d.1 d.2.2.2.1).2)))]) }
theorem aoz(mv mo:List Int) (mq:List (List Int)) (mg:List Int) (id fn pc:Int) (rg:List Int) (st ch ph su fa:Int) (he:List Int) (op a b c obj n fo ord ag ix kd eo mx en lG rd wr:Int) (aA:adA.pre ((mv,mo,mq,mg,()),(id,fn,pc,rg,st,ch,ph,su,fa,he,()),(op,a,b,c,obj,n,fo,ord,()),(ag,ix,kd,eo,mx,en,lG,rd,wr,()),())):
 let z20:=(mv,mo,mq,mg,());let oO:=(ag,ix,kd,eo,mx,en,lG,rd,wr,());let z5:=jF z20 oO;let z4:=[BN (z5.fst),cI (uM (op,a,b,c,obj,n,fo,ord,()) oO),cI (z5.snd)];let Mc:=writeM z20 eo wr;let z13:=Mc.fst;let oh:=Mc.snd;let z2:=rT z4 [BN z20,cI rd,cI 0];let z3:=rT z4 [BN z20,cI 0,cI 0];let z12:=ig z20 eo id (-1:Int) id;let z7:=z12.fst;let z8:=z12.snd;let z10:=ig z20 eo id id (-1:Int);let z11:=ig z20 mx id id (-1:Int);let z9:=z11.fst;let z6:=pV z9 eo id;let OQ:=mG z20 id;let z17:=nY z20 eo (1:Int);let CB:=nY z20 eo (iE mq);let z1:=br (decide (kd=11)) (br (decide (rd=0)) z3 (aZ z20∧rT z4 [BN z7,cI 1,cI z8])) (br (decide (kd=9)) (aZ z20∧rT z4 [BN z7,cI 0,cI z8]) (br (decide (kd=10)) (aZ z20∧rT z4 [BN (z10.fst),cI 0,cI (z10.snd)]) (br (decide (kd=12)) (aZ z20∧br (decide (z11.snd=0)) (aZ z9∧rT z4 [BN (z6.fst),cI 0,cI (z6.snd)]) (rT z4 [BN z9,cI 0,cI (z11.snd)])) (br (decide (kd=13)) (aZ z20∧rT z4 [BN (OQ.fst),cI 0,cI (OQ.snd)]) (br (decide (kd=14)) (aZ z20∧rT z4 [BN (z17.fst),cI 0,cI (z17.snd.snd)]) (br (decide (kd=15)) (aZ z20∧rT z4 [BN (CB.fst),cI 0,cI (CB.snd.snd)]) (br (decide (kd=16)) (rT z4 [BN z20,cI eo,cI 0]) z3)))))));br (decide (kd=5)) (aZ z20∧br (decide (op=12)) (rT z4 [BN z13,cI 1,cI oh]) (rT z4 [BN z13,cI rd,cI oh]))
 (br (decide (kd=2)) (aZ z20∧rT z4 [BN z13,cI 0,cI oh]) (br (decide (kd=1)) (br (decide (kd=1)) z2 z1) (br (decide (kd=8)) z2 z1))):=by
 conv=>zeta
 obtain⟨hM,hid⟩:aZ (mv,mo,mq,mg,())∧id=ag:=aA;subst hid;simp only[aJ]
 repeat' (first | exact hM | exact LD hM | (refine aku ?_) | (refine And.intro ?_ ?_) | (intro _))
 all_goals first | exact hM | exact LD hM | trivial | (exfalso;omega) | (simp_all[jF,uM];done) | skip
theorem ai3:Go.aV.Met Tryz.prog aK.gd 48 adA:=
 bW (cx:=aK) (n:=132) (cl:=[(100,XJ),(101,Jh),(102,Ji),(103,ade),(104,Jk),(105,Jj),(106,Jl)]) (rc:=[.data pY,.keep,.keep]) ay ⟨ac7,ac8,ac9,adf,adh,adg,adr,trivial⟩ Tryz.func48 λd hd=>by
  obtain⟨⟨mv,mo,mq,mg,⟨⟩⟩,⟨id,fn,pc,rg,st,ch,ph,su,fa,he,⟨⟩⟩,⟨op,a,b,c,obj,n,fo,ord,⟨⟩⟩,⟨ag,ix,kd,eo,mx,en,lG,rd,wr,⟨⟩⟩,⟨⟩⟩:=d;exact aH (λ_=>none) (aoz mv mo mq mg id fn pc rg st ch ph su fa he op a b c obj n fo ord ag ix kd eo mx en lG rd wr hd) (by kernel_rfl)
abbrev adB:CT:={ ps:=[.sl XO],pre:=λd=>d.1.length≤1000000,res:=λd=>([.row 67 XO d.1],.one (.c (.row 0))) }
theorem aoA(l:List (Int×Int×Unit)) (aA:adB.pre (l,())):
 ∀(b:Bool),(b=true→l=[])→br b ([aj.row 67 FY l]=[aj.row 67 FY []]∧aT.one (SV.c (SC.row 0))=aT.one (SV.c (SC.row 0))) (jS (0+List.length (l)) 16∧[aj.row 67 FY l]=[aj.row 67 FY ([]++l)]∧aT.one (SV.c (SC.row 0))=aT.one (SV.c (SC.row 0))):=by
 have hp:l.length≤1000000:=aA;intro b hb;refine ah.2 ⟨λh=>by rw[hb h];exact⟨rfl,rfl⟩,λh=>⟨?_,by simp,rfl⟩⟩
 rw[bI];omega
theorem ai4:Go.aV.Met Tryz.prog aK.gd 59 adB:=
 Q9 (il:=Xy) (rc:=[.row 67 XO]) (cx:=aK) (n:=8) (cl:=[]) (by kernel_rfl) ay trivial trivial Tryz.func59 (by kernel_rfl) (by kernel_rfl) rfl (by kernel_rfl) (by kernel_rfl) λd hd=>by
  obtain⟨l,⟨⟩⟩:=d;exact aH (λ_=>none) (aoA l hd) (by kernel_rfl)
abbrev Jm:CT:={ ps:=[Lr],pre:=λd=>LG d.1,res:=λd=>([.row 56 dQ d.1.1],.one (.agg [.row 0,.sl (.int .i64) d.1.2.1.1,.sl (.int .i64) d.1.2.1.2.1,.sl (.sl (.int .i64)) d.1.2.1.2.2.1,.sl (.int .i64) d.1.2.1.2.2.2.1,.sl yH d.1.2.2.1])) }
@[reducible] def arF (th:List TD) (mv mo:List Int) (mq:List (List Int)) (mg:List Int) (bf:List BD):Nat→Option (St→iC):=λk=>match k with
  | 5=>some λ_=>.inv { α:=Nat,slots:=λk=>[(23,.c (.v (.int .i64 k)))],res:=λk=>[(7,.row 56 dQ th)],inv:=λk=>k≤th.length,meas:=λk=>th.length - k }
  | 12=>some λ_=>.inv { α:=Nat,slots:=λk=>[(52,.c (.v (.int .i64 k)))],res:=λk=>[(8,.row 65 yH bf)],inv:=λk=>k≤bf.length,meas:=λk=>bf.length - k }
  | _=>none
abbrev kq1:=[SC.v (Value.slice none 0 0),SC.v (Value.slice none 0 0),SC.v (Value.slice none 0 0),SC.v (Value.slice none 0 0),SC.v (Value.slice none 0 0),SC.v (Value.slice none 0 0)]
theorem aoB(th:List TD) (mv mo:List Int) (mq:List (List Int)) (mg:List Int) (bf:List BD) (aA:Jm.pre ((th,(mv,mo,mq,mg,()),bf,()),())):
 let z11:=bZ th mv mo mq mg bf;let z5:=[SC.row (Nat.succ 0).succ.succ.succ.succ.succ.succ,SC.row 2,SC.row 3,SC.row 4,SC.row 5,SC.v (Value.slice none 0 0)];let z9:=List.replicate (↑th.length:Int).toNat (zR:TD);let z3:=List.take (List.length z9) (th)++List.drop (List.length (th)) z9;let z2:=[g0 z11,g0 (aj.blk 37 kq1),g0 (aj.row 3 I6 mv),g0 (aj.row 3 I6 mo),g0 (aj.row 31 I6.sl mq),g0 (aj.row 3 I6 mg),g0 (aj.blk 37 z5),g0 (aj.row 56 dQ th)];let z7:=λ(x:Nat)=>0≤(↑x:Int)∧(↑x:Int) < (↑th.length:Int);let z10:=λ(x:Nat)=>(↑x:Int)+(1:Int);let z4:=[SC.row (Nat.succ 0).succ.succ.succ.succ.succ.succ,SC.row 2,SC.row 3,SC.row 4,SC.row 5,SC.row (Nat.succ 0).succ.succ.succ.succ.succ.succ.succ];let z1:=[g0 z11,g0 (aj.blk 37 kq1),g0 (aj.row 3 I6 mv),g0 (aj.row 3 I6 mo),g0 (aj.row 31 I6.sl mq),g0 (aj.row 3 I6 mg),g0 (aj.blk 37 z4),g0 (aj.row 56 dQ th),g0 (aj.row 65 yH bf)];let z8:=λ(x:Nat)=>0≤(↑x:Int)∧(↑x:Int) < (↑bf.length:Int);let z6:=[SC.row 0,SC.sl I6 mv,SC.sl I6 mo,SC.sl I6.sl mq,SC.sl I6 mg,SC.sl yH bf];aZ (mv,mo,mq,mg,())∧(0≤(↑th.length:Int)∧(↑th.length:Int)≤(↑th.length:Int)∧jS (↑th.length:Int).toNat 152)∧(∃x,x≤th.length∧(cI 0=cI (↑x:Int)∧True)∧[g0 z11,g0 (aj.blk 37 kq1),g0 (aj.row 3 I6 mv),g0 (aj.row 3 I6 mo),g0 (aj.row 31 I6.sl mq),g0 (aj.row 3 I6 mg),g0 (aj.blk 37 z5),g0 (aj.row 56 dQ z3)]=z2)∧∀(x:Nat),x≤th.length→br (decide ((↑x:Int) < (↑z3.length:Int))) ((z7 x)∧∀(d:TD),th[(↑x:Int).toNat]?=some d→List.length d.snd.snd.snd.snd.snd.snd.snd.snd.snd.fst≤1000000∧(z7 x)∧(↑x:Int).toNat < th.length∧∀(e:TD),th[(↑x:Int).toNat]?=some e→cZ IntKind.i64 (z10 x)∧∃x',x'≤th.length∧(cI (z10 x)=cI (↑x':Int)∧True)∧[g0 z11,g0 (aj.blk 37 kq1),g0 (aj.row 3 I6 mv),g0 (aj.row 3 I6 mo),g0 (aj.row 31 I6.sl mq),g0 (aj.row 3 I6 mg),g0 (aj.blk 37 z5),g0 (aj.row 56 dQ (th.set (↑x:Int).toNat (e.fst,e.2.fst,e.2.2.fst,e.2.2.2.fst,e.2.2.2.2.fst,e.2.2.2.2.2.fst,e.2.2.2.2.2.2.fst,e.2.2.2.2.2.2.2.fst,e.2.2.2.2.2.2.2.2.fst,d.snd.snd.snd.snd.snd.snd.snd.snd.snd.fst,e.2.2.2.2.2.2.2.2.2.snd)))]=z2∧th.length - x' < th.length - x) ((0≤(↑bf.length:Int)∧(↑bf.length:Int)≤(↑bf.length:Int)∧jS (↑bf.length:Int).toNat 40)∧(∃x,x≤bf.length∧(cI 0=cI (↑x:Int)∧True)∧[g0 z11,g0 (aj.blk 37 kq1),g0 (aj.row 3 I6 mv),g0 (aj.row 3 I6 mo),g0 (aj.row 31 I6.sl mq),g0 (aj.row 3 I6 mg),g0 (aj.blk 37 z4),g0 (aj.row 56 dQ th),g0 (aj.row 65 yH (List.take (List.length (List.replicate (↑bf.length:Int).toNat (((0:Int),(0:Int),[],()):BD))) (bf)++List.drop (List.length (bf)) (List.replicate (↑bf.length:Int).toNat (((0:Int),(0:Int),[],()):BD))))]=z1)∧∀(x:Nat),x≤bf.length→br (decide ((↑x:Int) < (↑(List.take (List.length (List.replicate (↑bf.length:Int).toNat (((0:Int),(0:Int),[],()):BD))) (bf)++List.drop (List.length (bf)) (List.replicate (↑bf.length:Int).toNat (((0:Int),(0:Int),[],()):BD))).length:Int))) ((z8 x)∧∀(d:BD),bf[(↑x:Int).toNat]?=some d→List.length d.snd.snd.fst≤1000000∧(z8 x)∧(↑x:Int).toNat < bf.length∧∀(e:BD),bf[(↑x:Int).toNat]?=some e→cZ IntKind.i64 (z10 x)∧∃x',x'≤bf.length∧(cI (z10 x)=cI (↑x':Int)∧True)∧[g0 z11,g0 (aj.blk 37 kq1),g0 (aj.row 3 I6 mv),g0 (aj.row 3 I6 mo),g0 (aj.row 31 I6.sl mq),g0 (aj.row 3 I6 mg),g0 (aj.blk 37 z4),g0 (aj.row 56 dQ th),g0 (aj.row 65 yH (bf.set (↑x:Int).toNat (e.fst,e.2.fst,d.snd.snd.fst,e.2.2.snd)))]=z1∧bf.length - x' < bf.length - x) ([aj.row 56 dQ th]=[aj.row 56 dQ th]∧aT.one (SV.agg z6)=aT.one (SV.agg z6))):=by
 conv=>zeta
 delta kq1;obtain⟨⟨hl,hT⟩,hM,hB,hb⟩:iK th∧aZ (mv,mo,mq,mg,())∧Am bf:=aA;have tk:∀{α:Type} (l:List α) (z:α),List.take (List.length (List.replicate (↑l.length:Int).toNat z)) l++List.drop (List.length l) (List.replicate (↑l.length:Int).toNat z)=l:=by
  intro α l z;rw[wM,Ya,tZ (Eb _),H9 (by rw[wM];omega),XZ]
 have st:∀{α:Type}{l:List α}{k:Nat}{d:α},l[k]?=some d→l.set k d=l:=λh=>iq h
 rw[tk th,tk bf];refine⟨hM,⟨by omega,by omega,bI.2 (by omega)⟩,⟨0,by omega,⟨rfl,trivial⟩,rfl⟩,λk hk=>ah.2 ⟨λg=>?_,λg=>⟨⟨by omega,by omega,bI.2 (by omega)⟩,⟨0,by omega,⟨rfl,trivial⟩,rfl⟩,λk hk=>ah.2 ⟨λg=>?_,λg=>?_⟩⟩⟩⟩
 ·simp only[dG]at g;refine⟨⟨by omega,by omega⟩,λd hd=>⟨(hT d (iF hd)).1,⟨by omega,by omega⟩,by omega,λe he=>⟨au.2 (by omega),k+1,by omega,⟨rfl,trivial⟩,?_,by omega⟩⟩⟩
  have hd:th[(k:Int).toNat]?=some d:=hd;rw[hd]at he;have e1:d=e:=PL he;subst e1;have:th.set (k:Int).toNat d=th:=st hd;exact Ec (λz=>[_,_,_,_,_,_,_,g0 (aj.row 56 dQ z)]) this
 ·simp only[dG]at g;refine⟨⟨by omega,by omega⟩,λd hd=>⟨hb d (iF hd),⟨by omega,by omega⟩,by omega,λe he=>⟨au.2 (by omega),k+1,by omega,⟨rfl,trivial⟩,?_,by omega⟩⟩⟩
  have hd:bf[(k:Int).toNat]?=some d:=hd;rw[hd]at he;have e1:d=e:=PL he;subst e1;have:bf.set (k:Int).toNat d=bf:=st hd;exact Ec (λz=>[_,_,_,_,_,_,_,_,g0 (aj.row 65 yH z)]) this
 ·exact⟨rfl,rfl⟩
theorem ai5:Go.aV.Met Tryz.prog aK.gd 23 Jm:=
 bW (cx:=aK) (n:=69) (cl:=[(49,nM),(58,wF),(59,adB)]) (rc:=[.hd 56 dQ shR]) ay ⟨rY,Dx,ai4,trivial⟩ Tryz.func23 λd hd=>by
  obtain⟨⟨th,⟨mv,mo,mq,mg,⟨⟩⟩,bf,⟨⟩⟩,⟨⟩⟩:=d;exact aH (arF th mv mo mq mg bf) (aoB th mv mo mq mg bf hd) (by kernel_rfl)
abbrev adC:CT:={ ps:=[dQ,dQ],pre:=λd=>d.1.2.2.2.2.2.2.2.2.2.1.length≤1000000,res:=λd=>([],vB (mJ d.1 d.2.1)) }
theorem aoC(id fn pc:Int) (rg:List Int) (st ch ph su fa:Int) (he:List Int) (id2 PO pc2:Int) (PS:List Int) (st2 Md Ld Le fa2:Int) (he2:List Int) (aA:adC.pre ((id,fn,pc,rg,st,ch,ph,su,fa,he,()),(id2,PO,pc2,PS,st2,Md,Ld,Le,fa2,he2,()),())):
 let z1:=mJ (id,fn,pc,rg,st,ch,ph,su,fa,he,()) (id2,PO,pc2,PS,st2,Md,Ld,Le,fa2,he2,());br (!decide (id=id2) || !decide (fn=PO) || !decide (pc=pc2) || !decide (rg=PS) || !decide (st=st2) || !decide (ch=Md)) (qB z1 false) (((decide (ph=Ld) && decide (su=Le) && decide (fa=fa2))=true→he.length≤1000000)∧qB z1 (decide (ph=Ld) && decide (su=Le) && decide (fa=fa2) && decide (he=he2))):=by
 conv=>zeta
 have hp:he.length≤1000000:=aA;refine ah.2 ⟨λh=>⟨rfl,?_⟩,λh=>⟨λ_=>hp,jO ?_⟩⟩
 ·rw[lC];intro q;simp only[A91]at q;simp[q]at h
 ·rw[Ee,mZ];simp only[qH,yI,dG]at h;simp only[A91,A8,dG,h,true_and];constructor
  ·rintro⟨h1,h2,h3,h4,_⟩;exact⟨⟨⟨h1,h2⟩,h3⟩,h4⟩
  ·rintro⟨⟨⟨h1,h2⟩,h3⟩,h4⟩;exact⟨h1,h2,h3,h4,trivial⟩
theorem ai6:Go.aV.Met Tryz.prog aK.gd 62 adC:=
 bW (cx:=aK) (n:=71) (cl:=[(127,pR)]) (rc:=[]) ay ⟨Gx,trivial⟩ Tryz.func62 λd hd=>by
  obtain⟨⟨id,fn,pc,rg,st,ch,ph,su,fa,he,⟨⟩⟩,⟨id2,PO,pc2,PS,st2,Md,Ld,Le,fa2,he2,⟨⟩⟩,⟨⟩⟩:=d;exact aH (λ_=>none) (aoC id fn pc rg st ch ph su fa he id2 PO pc2 PS st2 Md Ld Le fa2 he2 hd) (by kernel_rfl)
abbrev adD:CT:={ ps:=[.sl dQ,.sl dQ],pre:=λd=>d.1.length≤1000000∧∀q∈d.1,q.2.2.2.2.2.2.2.2.2.1.length≤1000000,res:=λd=>([],vB (mJ d.1 d.2.1)) }
@[reducible] def arG (l m:List TD):Nat→Option (St→iC):=λk=>match k with
  | 4=>some λ_=>.inv { α:=Nat,slots:=λk=>[(17,.c (.v (.int .i64 k)))],res:=λk=>[],inv:=λk=>k≤(l).length∧∀j < k,l[j]?=m[j]?,meas:=λk=>(l).length - k }
  | _=>none
theorem aoD(l m:List TD) (aA:adD.pre (l,m,())):
 let z1:=λ(x:Nat)=>(x≤l.length∧∀(j:Nat),j < x→l[j]?=m[j]?);br (!decide ((↑l.length:Int)=(↑m.length:Int))) (qB (mJ l m) false) ((∃x,(z1 x)∧(cI 0=cI (↑x:Int)∧True)∧([]:List aal)=[])∧∀(x:Nat),(z1 x)→br (decide ((↑x:Int) < (↑l.length:Int))) ((0≤(↑x:Int)∧(↑x:Int) < (↑l.length:Int))∧∀(d:TD),l[(↑x:Int).toNat]?=some d→(0≤(↑x:Int)∧(↑x:Int) < (↑m.length:Int))∧∀(dH:TD),m[(↑x:Int).toNat]?=some dH→List.length d.snd.snd.snd.snd.snd.snd.snd.snd.snd.fst≤1000000∧br (!mJ d dH) (qB (mJ l m) false) (cZ IntKind.i64 ((↑x:Int)+(1:Int))∧∃x',(z1 x')∧(cI ((↑x:Int)+(1:Int))=cI (↑x':Int)∧True)∧([]:List aal)=[]∧l.length - x' < l.length - x)) (qB (mJ l m) true)):=by
 conv=>zeta
 delta aal;obtain⟨hp,h6⟩:l.length≤1000000∧∀q∈l,q.2.2.2.2.2.2.2.2.2.1.length≤1000000:=aA;have fF:l≠m→qB (mJ l m) false:=λq=>⟨rfl,by rw[lC q]⟩
 refine ah.2 ⟨λh=>fF λq=>?_,λh=>?_⟩
 ·subst q;simp at h
 simp only[yI,dG]at h;refine⟨⟨0,⟨by omega,λj hj=>by omega⟩,⟨rfl,trivial⟩,rfl⟩,λk hk=>ah.2 ⟨λg=>?_,λg=>?_⟩⟩
 ·simp only[dG]at g;refine⟨⟨by omega,by omega⟩,λd hd=>⟨⟨by omega,by omega⟩,λd1 hd1=>⟨h6 d (iF hd),ah.2 ⟨λg2=>fF λq=>?_,λg2=>⟨au.2 (by omega),k+1,⟨by omega,λj hj=>?_⟩,⟨rfl,trivial⟩,rfl,by omega⟩⟩⟩⟩⟩
  ·subst q;rw[hd]at hd1;cases hd1;rw[ji rfl]at g2;cases g2
  ·by_cases gq:j=k
   ·subst gq;have hd:l[j]?=some d:=hd;have hd1:m[j]?=some d1:=hd1;have g2:=mZ.1 (show mJ d d1=true by simpa using g2)
    rw[hd,hd1,g2]
   ·exact hk.2 j (by omega)
 simp only[dh]at g;have e:l=m:=by
  apply yJ;intro j
  by_cases hj:j < k
  ·exact hk.2 j hj
  ·rw[qJ (by omega),qJ (by omega)]
 exact⟨rfl,by rw[ji e]⟩
theorem adE:Kz Tryz.prog aK.gd 61 [.func (.func 62) #[] #[]] adD:=
 (lV (cx:=aK) (n:=32) (cl:=[(62,adC)]) (il:=Xy) (hl:=hlN) (ml:=mlN) (rc:=[]) (lits:=[]) (suf:=[.func (.func 62) #[] #[]]) (by kernel_rfl) ay ⟨ai6,trivial⟩ trivial trivial trivial Tryz.func61 (by kernel_rfl) (by kernel_rfl) rfl (by kernel_rfl) (by kernel_rfl) (by simp) λd hd=>by
  obtain⟨l,m,⟨⟩⟩:=d;exact aH (arG l m) (aoD l m hd) (by kernel_rfl))
abbrev adF:CT:={ ps:=[.sl XO,.sl XO],pre:=λd=>d.1.length≤1000000,res:=λd=>([],vB (mJ d.1 d.2.1)) }
@[reducible] def aoE (l m:List (Int×Int×Unit)):Nat→Option (St→iC):=λk=>match k with
  | 4=>some λ_=>.inv { α:=Nat,slots:=λk=>[(13,.c (.v (.int .i64 k)))],res:=λk=>[],inv:=λk=>k≤(l).length∧∀j < k,l[j]?=m[j]?,meas:=λk=>(l).length - k }
  | _=>none
theorem ai7(l m:List (Int×Int×Unit)) (aA:adF.pre (l,m,())):
 let z1:=λ(x:Nat)=>(x≤l.length∧∀(j:Nat),j < x→l[j]?=m[j]?);br (!decide ((↑l.length:Int)=(↑m.length:Int))) (qB (mJ l m) false) ((∃x,(z1 x)∧(cI 0=cI (↑x:Int)∧True)∧([]:List aal)=[])∧∀(x:Nat),(z1 x)→br (decide ((↑x:Int) < (↑l.length:Int))) ((0≤(↑x:Int)∧(↑x:Int) < (↑l.length:Int))∧∀(d:Int×(I6.pair Sh.unit).den),l[(↑x:Int).toNat]?=some d→(0≤(↑x:Int)∧(↑x:Int) < (↑m.length:Int))∧∀(dH:Int×(I6.pair Sh.unit).den),m[(↑x:Int).toNat]?=some dH→br (!(true && d.fst == dH.fst && d.snd.fst == dH.snd.fst)) (qB (mJ l m) false) (cZ IntKind.i64 ((↑x:Int)+(1:Int))∧∃x',(z1 x')∧(cI ((↑x:Int)+(1:Int))=cI (↑x':Int)∧True)∧([]:List aal)=[]∧l.length - x' < l.length - x)) (qB (mJ l m) true)):=by
 conv=>zeta
 delta aal;have hp:l.length≤1000000:=aA;have fF:l≠m→qB (mJ l m) false:=λq=>⟨rfl,by rw[lC q]⟩
 refine ah.2 ⟨λh=>fF λq=>?_,λh=>?_⟩
 ·subst q;simp at h
 simp only[yI,dG]at h;refine⟨⟨0,⟨by omega,λj hj=>by omega⟩,⟨rfl,trivial⟩,rfl⟩,λk hk=>ah.2 ⟨λg=>?_,λg=>?_⟩⟩
 ·simp only[dG]at g;refine⟨⟨by omega,by omega⟩,λd hd=>⟨⟨by omega,by omega⟩,λd1 hd1=>ah.2 ⟨λg2=>fF λq=>?_,λg2=>⟨au.2 (by omega),k+1,⟨by omega,λj hj=>?_⟩,⟨rfl,trivial⟩,rfl,by omega⟩⟩⟩⟩
  ·subst q;rw[hd]at hd1;cases hd1;simp at g2
  ·by_cases gq:j=k
   ·subst gq;have hd:l[j]?=some d:=hd;have hd1:m[j]?=some d1:=hd1;have g2:d=d1:=by
     obtain⟨x,y,⟨⟩⟩:=d;obtain⟨x1,y1,⟨⟩⟩:=d1;simpa using g2
    rw[hd,hd1,g2]
   ·exact hk.2 j (by omega)
 simp only[dh]at g;have e:l=m:=by
  apply yJ;intro j
  by_cases hj:j < k
  ·exact hk.2 j hj
  ·rw[qJ (by omega),qJ (by omega)]
 exact⟨rfl,by rw[ji e]⟩
theorem adG:Go.aV.Met Tryz.prog aK.gd 130 adF:=
 bW (cx:=aK) (n:=26) (cl:=[]) (rc:=[]) ay trivial Tryz.func130 λd hd=>by
  obtain⟨l,m,⟨⟩⟩:=d;exact aH (aoE l m) (ai7 l m hd) (by kernel_rfl)
abbrev Jo:CT:={ ps:=[yH,yH],pre:=λd=>d.1.2.2.1.length≤1000000,res:=λd=>([],vB (mJ d.1 d.2.1)) }
theorem aoF(b1 b2:Int) (bl:List (Int×Int×Unit)) (c1 c2:Int) (cl:List (Int×Int×Unit)) (aA:Jo.pre ((b1,b2,bl,()),(c1,c2,cl,()),())):
 ((decide (b1=c1) && decide (b2=c2))=true→bl.length≤1000000)∧qB (mJ (b1,b2,bl,()) (c1,c2,cl,())) (decide (b1=c1) && decide (b2=c2) && mJ bl cl):=by
 have hp:bl.length≤1000000:=aA;refine⟨λ_=>hp,jO ?_⟩
 rw[Ee,mZ];simp only[A91,A8,dG,mZ];constructor
 ·rintro⟨h1,h2,h3,_⟩;exact⟨⟨h1,h2⟩,h3⟩
 ·rintro⟨⟨h1,h2⟩,h3⟩;exact⟨h1,h2,h3,trivial⟩
theorem ai8:Go.aV.Met Tryz.prog aK.gd 64 Jo:=
 bW (cx:=aK) (n:=24) (cl:=[(130,adF)]) (rc:=[]) ay ⟨adG,trivial⟩ Tryz.func64 λd hd=>by
  obtain⟨⟨b1,b2,bl,⟨⟩⟩,⟨c1,c2,cl,⟨⟩⟩,⟨⟩⟩:=d;exact aH (λ_=>none) (aoF b1 b2 bl c1 c2 cl hd) (by kernel_rfl)
abbrev adH:CT:={ ps:=[.sl yH,.sl yH],pre:=λd=>Am d.1,res:=λd=>([],vB (mJ d.1 d.2.1)) }
@[reducible] def arH (l m:List BD):Nat→Option (St→iC):=λk=>match k with
  | 4=>some λ_=>.inv { α:=Nat,slots:=λk=>[(17,.c (.v (.int .i64 k)))],res:=λk=>[],inv:=λk=>k≤(l).length∧∀j < k,l[j]?=m[j]?,meas:=λk=>(l).length - k }
  | _=>none
theorem aoG(l m:List BD) (aA:adH.pre (l,m,())):
 let z1:=λ(x:Nat)=>(x≤l.length∧∀(j:Nat),j < x→l[j]?=m[j]?);br (!decide ((↑l.length:Int)=(↑m.length:Int))) (qB (mJ l m) false) ((∃x,(z1 x)∧(cI 0=cI (↑x:Int)∧True)∧([]:List aal)=[])∧∀(x:Nat),(z1 x)→br (decide ((↑x:Int) < (↑l.length:Int))) ((0≤(↑x:Int)∧(↑x:Int) < (↑l.length:Int))∧∀(d:BD),l[(↑x:Int).toNat]?=some d→(0≤(↑x:Int)∧(↑x:Int) < (↑m.length:Int))∧∀(dH:BD),m[(↑x:Int).toNat]?=some dH→List.length d.snd.snd.fst≤1000000∧br (!mJ d dH) (qB (mJ l m) false) (cZ IntKind.i64 ((↑x:Int)+(1:Int))∧∃x',(z1 x')∧(cI ((↑x:Int)+(1:Int))=cI (↑x':Int)∧True)∧([]:List aal)=[]∧l.length - x' < l.length - x)) (qB (mJ l m) true)):=by
 conv=>zeta
 delta aal;obtain⟨hp,h6⟩:l.length≤1000000∧∀q∈l,q.2.2.1.length≤1000000:=aA;have fF:l≠m→qB (mJ l m) false:=λq=>⟨rfl,by rw[lC q]⟩
 refine ah.2 ⟨λh=>fF λq=>?_,λh=>?_⟩
 ·subst q;simp at h
 simp only[yI,dG]at h;refine⟨⟨0,⟨by omega,λj hj=>by omega⟩,⟨rfl,trivial⟩,rfl⟩,λk hk=>ah.2 ⟨λg=>?_,λg=>?_⟩⟩
 ·simp only[dG]at g;refine⟨⟨by omega,by omega⟩,λd hd=>⟨⟨by omega,by omega⟩,λd1 hd1=>⟨h6 d (iF hd),ah.2 ⟨λg2=>fF λq=>?_,λg2=>⟨au.2 (by omega),k+1,⟨by omega,λj hj=>?_⟩,⟨rfl,trivial⟩,rfl,by omega⟩⟩⟩⟩⟩
  ·subst q;rw[hd]at hd1;cases hd1;rw[ji rfl]at g2;cases g2
  ·by_cases gq:j=k
   ·subst gq;have hd:l[j]?=some d:=hd;have hd1:m[j]?=some d1:=hd1;have g2:=mZ.1 (show mJ d d1=true by simpa using g2)
    rw[hd,hd1,g2]
   ·exact hk.2 j (by omega)
 simp only[dh]at g;have e:l=m:=by
  apply yJ;intro j
  by_cases hj:j < k
  ·exact hk.2 j hj
  ·rw[qJ (by omega),qJ (by omega)]
 exact⟨rfl,by rw[ji e]⟩
theorem adI:Kz Tryz.prog aK.gd 63 [.func (.func 64) #[] #[]] adH:=
 (lV (cx:=aK) (n:=32) (cl:=[(64,Jo)]) (il:=Xy) (hl:=hlN) (ml:=mlN) (rc:=[]) (lits:=[]) (suf:=[.func (.func 64) #[] #[]]) (by kernel_rfl) ay ⟨ai8,trivial⟩ trivial trivial trivial Tryz.func63 (by kernel_rfl) (by kernel_rfl) rfl (by kernel_rfl) (by kernel_rfl) (by simp) λd hd=>by
  obtain⟨l,m,⟨⟩⟩:=d;exact aH (arH l m) (aoG l m hd) (by kernel_rfl))
abbrev Jp:CT:={ ps:=[Lr,Lr],pre:=λd=>LG d.1,res:=λd=>([],vB (mJ d.1 d.2.1)) }
abbrev atp:List (Nat×Nat×CT):=[(61,62,adD),(63,64,adH)]
theorem aoH(th:List TD) (mv mo:List Int) (mq:List (List Int)) (mg:List Int) (bf:List BD) (C9:List TD) (mv2 Po:List Int) (Pq:List (List Int)) (Pv:List Int) (D6:List BD) (aA:Jp.pre ((th,(mv,mo,mq,mg,()),bf,()),(C9,(mv2,Po,Pq,Pv,()),D6,()),())):
 let z2:=(mv,mo,mq,mg,());let z1:=z2=(mv2,Po,Pq,Pv,());aZ z2∧(decide z1=true→th.length≤1000000∧∀(q:TD),q∈th→List.length q.snd.snd.snd.snd.snd.snd.snd.snd.snd.fst≤1000000)∧((decide z1 && mJ th C9)=true→Am bf)∧qB (mJ (th,z2,bf,()) (C9,(mv2,Po,Pq,Pv,()),D6,())) (decide z1 && mJ th C9 && mJ bf D6):=by
 conv=>zeta
 obtain⟨⟨hl,hT⟩,hM,hB⟩:iK th∧aZ (mv,mo,mq,mg,())∧Am bf:=aA;refine⟨hM,λ_=>⟨hl,λq hq=>(hT q hq).1⟩,λ_=>hB,jO ?_⟩
 rw[Ee,mZ];simp only[A8,dG,mZ];constructor
 ·intro h;have h:=Prod.mk.inj h;have h2:=Prod.mk.inj h.2;have h3:=Prod.mk.inj h2.2;exact⟨⟨h2.1,h.1⟩,h3.1⟩
 ·rintro⟨⟨h1,h2⟩,h3⟩;rw[h1,h2,h3]
theorem ai9:Go.aV.Met Tryz.prog aK.gd 24 Jp:=
 (lV (cx:=aK) (n:=24) (cl:=[(60,BI)]) (il:=Xy) (hl:=atp) (ml:=mlN) (rc:=[]) (lits:=[]) (suf:=[]) (by kernel_rfl) ay ⟨aiL,trivial⟩ trivial ⟨adE,adI,trivial⟩ trivial Tryz.func24 (by kernel_rfl) (by kernel_rfl) rfl (by kernel_rfl) (by kernel_rfl) (by simp) λd hd=>by
  obtain⟨⟨th,⟨mv,mo,mq,mg,⟨⟩⟩,bf,⟨⟩⟩,⟨C9,⟨mv2,Po,Pq,Pv,⟨⟩⟩,D6,⟨⟩⟩,⟨⟩⟩:=d;exact aH (λ_=>none) (aoH th mv mo mq mg bf C9 mv2 Po Pq Pv D6 hd) (by kernel_rfl)).met
def nO(m:MD):Bool:=decide (m.1.length≤20) && decide (m.2.1.length≤20) && decide (m.2.2.1.length≤20) && decide (m.2.2.2.1.length≤60) && m.2.2.1.all (λq=>decide (q.length≤60))
theorem ng{m:MD} (h:nO m=true):aZ m:=by
 obtain⟨vs,os,qs,sg,⟨⟩⟩:=m;unfold nO at h;simp only[A8,X0,dG]at h;obtain⟨⟨⟨⟨h1,h2⟩,h3⟩,h4⟩,h5⟩:=h;refine⟨by show vs.length≤1000;omega,by show os.length≤1000;omega,by show qs.length≤1000;omega,by show sg.length≤1000;omega,λq hq=>by have:=h5 q hq;omega,?_⟩
 have key:∀l:List (List Int),(∀q∈l,q.length≤60)→l.flatten.length≤60 * l.length:=by
  intro l
  induction l with
  | nil=>intro _;simp
  | cons a l ih=>
    intro hl;have:=ih λq hq=>hl q (by simp[hq])
    have:=hl a (by simp)
    simp only[Jv,kD,yK];omega
 have:=key qs h5;show qs.flatten.length≤100000;omega
theorem Px:∀(qs:List (List Int)) (k:Nat) (d:List Int) (x:Int),qs[k]?=some d→((qs.set k (d++[x])).flatten).Perm (x :: qs.flatten)
 | [],k,d,x,h=>by simp at h
 | q :: qs,0,d,x,h=>by
   simp only[A99,Yh]at h;subst h;simp only[aeA,Jv,uO,Wh];exact List.perm_middle
 | q :: qs,k+1,d,x,h=>by
   rw[VT]at h;have ih:=Px qs k d x h;simp only[Yo,Jv];exact(ih.append_left q).trans List.perm_middle
theorem Jq{m:MD}{id:Int}:pU m id=true↔id∈m.2.2.2.1++m.2.2.1.flatten:=by
 unfold pU;rw[AA,VR,nI,GV,List.mem_flatten];constructor
 ·rintro(⟨q,h1,h2⟩ | h)
  ·exact .inr ⟨q,h1,nI.1 h2⟩
  ·exact .inl h
 ·rintro(h | ⟨q,h1,h2⟩)
  ·exact .inr h
  ·exact .inl ⟨q,h1,nI.2 h2⟩
theorem Py{vs os:List Int}{qs:List (List Int)}{sg:List Int} (hB:dI (vs,os,qs,sg,())=true){k:Nat}{d:List Int} (hk:qs[k]?=some d){id:Int} (h0:0≤id):
 dI (vs,os,qs.set k (d++[id]),sg,()) = !pU (vs,os,qs,sg,()) id:=by
 obtain⟨q1,q2,q3,q4,q5,q6,q7,q8⟩:vs.length≤8∧os.length≤4∧qs.length≤4∧SS sg∧(∀v∈vs,bV v=true)∧(∀o∈os,-1≤o)∧(∀x∈sg++qs.flatten,0≤x)∧(sg++qs.flatten).Nodup:=eY.1 hB;have hp:(sg++(qs.set k (d++[id])).flatten).Perm (id :: (sg++qs.flatten)):=((Px qs k d id hk).append_left sg).trans List.perm_middle;rw[Ee,eY,G6,G7];constructor
 ·intro h w;obtain⟨_,_,_,_,_,_,_,p8⟩:vs.length≤8∧os.length≤4∧(qs.set k (d++[id])).length≤4∧SS sg∧(∀v∈vs,bV v=true)∧(∀o∈os,-1≤o)∧(∀x∈sg++(qs.set k (d++[id])).flatten,0≤x)∧(sg++(qs.set k (d++[id])).flatten).Nodup:=h;exact(Yn.1 (hp.nodup_iff.1 p8)).1 (Jq.1 w)
 ·intro w;refine(⟨q1,q2,by rw[pX];exact q3,q4,q5,q6,λx hx=>?_,hp.nodup_iff.2 (Yn.2 ⟨λhm=>w (Jq.2 hm),q8⟩)⟩:Jb (vs,os,qs.set k (d++[id]),sg,()))
  rcases mX.1 (hp.mem_iff.1 hx) with rfl | hx
  ·exact h0
  ·exact q7 x hx
theorem pW{vs os:List Int}{qs:List (List Int)}{sg:List Int} (h:nO (vs,os,qs,sg,())=true):vs.length≤20∧os.length≤20∧qs.length≤20∧sg.length≤60∧∀q∈qs,q.length≤60:=by
 unfold nO at h;simp only[A8,X0,dG]at h;obtain⟨⟨⟨⟨h1,h2⟩,h3⟩,h4⟩,h5⟩:=h;exact⟨h1,h2,h3,h4,h5⟩
theorem adJ{vs os:List Int}{qs:List (List Int)}{sg:List Int} (h1:vs.length≤20) (h2:os.length≤20) (h3:qs.length≤20) (h4:sg.length≤200) (h5:∀q∈qs,q.length≤61):aZ (vs,os,qs,sg,()):=by
 have key:∀l:List (List Int),(∀q∈l,q.length≤61)→l.flatten.length≤61 * l.length:=by
  intro l
  induction l with
  | nil=>intro _;simp
  | cons a l ih=>
    intro hl;have:=ih λq hq=>hl q (by simp[hq])
    have:=hl a (by simp)
    simp only[Jv,kD,yK];omega
 have h6:=key qs h5;exact⟨by show vs.length≤1000;omega,by show os.length≤1000;omega,by show qs.length≤1000;omega,by show sg.length≤1000;omega,λq hq=>by have:=h5 q hq;omega,by show qs.flatten.length≤100000;omega⟩
theorem LH{vs os:List Int}{qs:List (List Int)}{sg s:List Int} (h:nO (vs,os,qs,sg,())=true){k:Nat}{q:List Int} (hq:q.length≤61) (hs:s.length≤200):aZ (vs,os,qs.set k q,s,()):=by
 obtain⟨h1,h2,h3,h4,h5⟩:=pW h;refine adJ h1 h2 (by rw[pX];exact h3) hs λx hx=>?_
 rcases yL hx with hx | rfl
 ·have:=h5 x hx;omega
 ·exact hq
theorem adK{vs os:List Int}{qs:List (List Int)}{sg:List Int} (h:nO (vs,os,qs,sg,())=true) (k:Nat):(qs[k]?.getD []).length≤60:=by
 cases hk:qs[k]? with
 | none=>simp
 | some d=>exact(pW h).2.2.2.2 d (iF hk)
theorem GK:aZ zM:=⟨by decide,by decide,by decide,by decide,by decide,by decide⟩
theorem aja{m:MD}{c id:Int} (h:nO m=true):aZ (pV m c id).1:=by
 obtain⟨vs,os,qs,sg,⟨⟩⟩:=m;have h4:=(pW h).2.2.2.1;have ha:=adK h c.toNat;unfold pV;split
 ·split
  ·exact GK
  ·split
   ·exact GK
   ·exact LH h (by simp only[kD,yK,LZ];omega) (by omega)
 ·exact GK
theorem aoI{m:MD}{c n:Int} (h:nO m=true):aZ (nY m c n).1:=by
 obtain⟨vs,os,qs,sg,⟨⟩⟩:=m;have h4:=(pW h).2.2.2.1;have ha:=adK h c.toNat;unfold nY;split
 ·refine LH h (by dsimp only;rw[xB];omega) ?_
  refine vO (BJ _ _) ?_;dsimp only;rw[ku];omega
 ·exact GK
theorem adL{m:MD}{id:Int} (h:nO m=true):aZ (mG m id).1:=by
 obtain⟨vs,os,qs,sg,⟨⟩⟩:=m;obtain⟨h1,h2,h3,h4,h5⟩:=pW h;unfold mG;split
 ·exact GK
 ·split
  ·exact GK
  ·refine adJ h1 h2 h3 ?_ λq hq=>by have:=h5 q hq;omega
   refine vO (VW _ _) (vO (Af sg []) ?_);simp;omega
end
end Go.Proofs.YtjhenjhcbcalpaaGreatDoor
