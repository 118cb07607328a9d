/- Part 10 of the proof. Conditions: the rows'. -/
import Derived.Test.YtjhenjhcbcalpaaGreatDoorB9
set_option linter.unusedSimpArgs false
set_option linter.unusedVariables false
set_option maxRecDepth 1000000
set_option maxHeartbeats 8000000
namespace Go.Proofs.YtjhenjhcbcalpaaGreatDoor
open Go Go.lH
noncomputable section
variable {l:List Int}{qs:List (List Int)}{k:Nat}
abbrev vW:Sh:=.pair (.sl (.int .i64)) (.pair (.sl (.int .i64)) (.pair (.sl (.sl (.int .i64))) (.pair (.sl (.int .i64)) .unit)))
abbrev MD:=List Int×List Int×List (List Int)×List Int×Unit
def Ld:MD->Prop
 | (vs,os,qs,sg,_)=>vs.length<=8/\os.length<=4/\qs.length<=4/\SS sg/\(∀v∈vs,dK v=true)/\(∀o∈os,-1<=o)/\(∀x∈sg++qs.flatten,0<=x)/\(sg++qs.flatten).Nodup
open Classical in
def eG(m:MD):Bool:=decide (Ld m)
open Classical in
theorem fD{m:MD}:eG m=true↔Ld m:=by unfold eG;rw[UE]
theorem Le{m:MD} (h:¬Ld m):eG m=false:=UG.2 λq=>h (fD.1 q)
def bI(m:MD):Prop:=m.1.length<=1000/\m.2.1.length<=1000/\m.2.2.1.length<=1000/\m.2.2.2.1.length<=1000/\(∀q∈m.2.2.1,q.length<=1000)/\m.2.2.1.flatten.length<=100000
theorem uq{n:Int}:dK n=true↔-2147483648<=n/\n<=2147483647:=by
 unfold dK;simp
theorem Eh:pF l=true↔SS l:=by unfold pF;rw[UE]
theorem Ug(qs:List (List Int)) (k:Nat):(qs.take k).flatten.length<=qs.flatten.length:=by
 have:qs.flatten=(qs.take k).flatten++(qs.drop k).flatten:=by rw[<-List.flatten_append,Ur]
 rw[this,jR];omega
theorem Uh{d:List Int} (h:qs[k]?=some d):(qs.take (k+1)).flatten=(qs.take k).flatten++d:=by
 rw[OW,h];simp
theorem Zh(h:l.Nodup){d:Int} (hd:l[k]?=some d):d∉l.take k:=by
 intro hm;obtain⟨j,hj⟩:=LK hm;rw[uH]at hj;split at hj
 .rename_i jh;obtain⟨h1,e1⟩:=fH.1 hj;obtain⟨h2,e2⟩:=fH.1 hd;have:=afv.1 h j k h1 h2 jh;exact this (e1.trans e2.symm)
 .cases hj
theorem OE(h:(l.take k).Nodup){d:Int} (hd:l[k]?=some d) (hn:d∉l.take k):(l.take (k+1)).Nodup:=by
 rw[OW,hd,afD,List.nodup_append];refine⟨h,by simp,λa ha b hb=>?_⟩
 simp at hb;subst hb;rintro rfl;exact hn ha
theorem BA:∀(l o:List Int),(l.foldl (λo x=>if gQ o x then o else zK o x) o).length<=o.length+l.length
 | [],o=>by simp
 | x :: l,o=>by
   simp only[Ji,y9];split
   .have:=BA l o;omega
   .have:=BA l (zK o x);rw[KD]at this;omega
abbrev Gq:CT:={ ps:=[.sl (.int .i64)],pre:=λd=>d.1.length<=1000000,res:=λd=>([.row 3 (.int .i64) (d.1)],.one (.c (.row 0))) }
theorem adE(l:List Int) (aF:Gq.pre (l,())):
 let z1:=List.replicate (l.length:Int).toNat (0:Int);((0:Int)<=(l.length:Int)/\(l.length:Int)<=(l.length:Int)/\mY (l.length:Int).toNat (8:Nat))/\[ak.row (3:TypeId) uh l]=[ak.row (3:TypeId) uh (List.take (List.length z1) (l)++List.drop (List.length (l)) z1)]/\bF.one qC=bF.one qC:=by
 conv=>zeta
 delta uh qC;have hp:l.length<=1000000:=aF;refine⟨⟨by omega,by omega,dJ.2 (by omega)⟩,?_,rfl⟩
 simp
theorem yX:aY aV.gd 107 Gq:=
 dO (cx:=aV) (n:=11) (cl:=[]) (rc:=[]) aB trivial Tryz.func107 λd hd=>by
  obtain⟨l,⟨⟩⟩:=d;exact aT (λ_=>none) (adE l hd) (by kernel_rfl)
abbrev Zi:CT:={ ps:=[.sl (.int .i64)],pre:=λd=>d.1.length<=1000000,res:=λd=>([.row 3 (.int .i64) (d.1)],.one (.c (.row 0))) }
theorem adF(l:List Int) (aF:Zi.pre (l,())):
 mY (List.length (l)) (8:Nat)/\[ak.row (3:TypeId) uh l]=[ak.row (3:TypeId) uh (l)]/\bF.one qC=bF.one qC:=by
 delta uh qC;have hp:l.length<=1000000:=aF;exact⟨dJ.2 (by omega),rfl,rfl⟩
theorem Zj:aY aV.gd 131 Zi:=
 dO (cx:=aV) (n:=7) (cl:=[]) (rc:=[.row 3 (.int .i64)]) aB trivial Tryz.func131 λd hd=>by
  obtain⟨l,⟨⟩⟩:=d;exact aT (λ_=>none) (adF l hd) (by kernel_rfl)
abbrev Zk:CT:={ ps:=[vW],pre:=λd=>bI d.1,res:=λd=>([],vB (eG d.1)) }
abbrev aii(vs os:List Int) (qs:List (List Int)) (sg:List Int):Nat->Option (St->kD):=λk=>match k with
 | 4=>some λ_=>.inv { α:=Nat,slots:=λk=>[(37,.c (.v (.int .i64 k)))],res:=λ_=>[],inv:=λk=>k<=vs.length/\∀j < k,∀v,vs[j]?=some v->dK v=true,meas:=λk=>vs.length - k }
 | 10=>some λ_=>.inv { α:=Nat,slots:=λk=>[(51,.c (.v (.int .i64 k)))],res:=λ_=>[],inv:=λk=>k<=os.length/\∀j < k,∀v,os[j]?=some v->-1<=v,meas:=λk=>os.length - k }
 | 17=>some λ_=>.inv { α:=Nat,drop:=[60],slots:=λk=>[(64,.c (.v (.int .i64 k))),(7,.c (.row 1))],res:=λk=>[(1,.row 3 (.int .i64) (sg++(qs.take k).flatten))],inv:=λk=>k<=qs.length,meas:=λk=>qs.length - k }
 | 22=>some λ_=>.inv { α:=Nat,tJ:=[1],slots:=λk=>[(74,.c (.v (.int .i64 k)))],res:=λ_=>[],inv:=λk=>k<=(sg++qs.flatten).length/\(∀j < k,∀v,(sg++qs.flatten)[j]?=some v->0<=v)/\((sg++qs.flatten).take k).Nodup,meas:=λk=>(sg++qs.flatten).length - k }
 | _=>none
theorem adG(vs os:List Int) (qs:List (List Int)) (sg:List Int) (aF:Zk.pre ((vs,os,qs,sg,()),())):
 let z13:=eG (vs,os,qs,sg,());let z10:=qB z13 false;let z3:=λ(x:Nat)=>(x<=vs.length/\∀(j:Nat),j < x->∀(v:Int),vs[j]?=some v->dK v=true);let z12:=λ(x:Nat)=>cI 0=cI (x:Int)/\True;let z8:=[SC.sl I6 vs,SC.sl I6 os,SC.sl I6.sl qs,SC.sl I6 sg];let z7:=[g0 (ak.blk 34 z8)];let Ef:=λ(x:Nat)=>(x:Int)+(1:Int);let z9:=λ(x x':Nat)=>cI (Ef x)=cI (x':Int)/\True;let z5:=λ(x:Nat)=>(x<=os.length/\∀(j:Nat),j < x->∀(v:Int),os[j]?=some v->(-1)<=v);let z11:=λ(x:Nat)=>sg++(List.take x qs).flatten;let z2:=λ(x:Nat)=>[g0 (ak.blk 34 z8),g0 (ak.row 3 I6 (z11 x))];let pJ:=sg++qs.flatten;let z6:=λ(x_1:Nat)=>(∀(j:Nat),j < x_1->∀(v:Int),pJ[j]?=some v->0<=v);let z1:=λ(x:Nat)=>x<=pJ.length/\(z6 x)/\(List.take x pJ).Nodup;let z4:=[g0 (ak.blk 34 z8),g0 ak.gone];((!(decide (8 < (vs.length:Int)) || decide (4 < (os.length:Int)) || decide (4 < (qs.length:Int))))=true->sg.length<=1000000)/\br (decide (8 < (vs.length:Int)) || decide (4 < (os.length:Int)) || decide (4 < (qs.length:Int)) || !pF sg) z10 ((∃x,(z3 x)/\(z12 x)/\sm z7)/\∀(x:Nat),(z3 x)->br (decide ((x:Int) < (vs.length:Int))) ((0<=(x:Int)/\(x:Int) < (vs.length:Int))/\∀(d:Int),vs[(x:Int).toNat]?=some d->br (decide (d < (-2147483648)) || decide (2147483647 < d)) z10 (iR (Ef x)/\∃x',(z3 x')/\(z9 x x')/\sm z7/\vs.length - x' < vs.length - x)) ((∃x,(z5 x)/\(z12 x)/\sm z7)/\∀(x:Nat),(z5 x)->br (decide ((x:Int) < (os.length:Int))) ((0<=(x:Int)/\(x:Int) < (os.length:Int))/\∀(d:Int),os[(x:Int).toNat]?=some d->br (decide (d < (-1))) z10 (iR (Ef x)/\∃x',(z5 x')/\(z9 x x')/\sm z7/\os.length - x' < os.length - x)) (sg.length<=1000000/\(∃x,x<=qs.length/\(cI 0=cI (x:Int)/\SV.c (SC.row 1)=SV.c (SC.row 1)/\True)/\[g0 (ak.blk 34 z8),g0 (ak.row 3 I6 sg)]=(z2 x))/\∀(x:Nat),x<=qs.length->br (decide ((x:Int) < (qs.length:Int))) ((0<=(x:Int)/\(x:Int) < (qs.length:Int))/\∀(d:List Int),qs[(x:Int).toNat]?=some d->mY (List.length ((z11 x))+List.length (d)) 8/\iR (Ef x)/\∃x',x'<=qs.length/\(cI (Ef x)=cI (x':Int)/\SV.c (SC.row 1)=SV.c (SC.row 1)/\True)/\[g0 (ak.blk 34 z8),g0 (ak.row 3 I6 ((z11 x)++d))]=(z2 x')/\qs.length - x' < qs.length - x) ((∃x,(z1 x)/\(z12 x)/\sm z4)/\∀(x_1:Nat),x_1<=pJ.length/\(z6 x_1)/\(List.take x_1 pJ).Nodup->br (decide ((x_1:Int) < (↑(z11 x).length:Int))) ((0<=(x_1:Int)/\(x_1:Int) < (↑(z11 x).length:Int))/\∀(d:Int),(z11 x)[(x_1:Int).toNat]?=some d->((!decide (d < 0))=true->(0:Int)<=(0:Int)/\0<=(x_1:Int)/\(x_1:Int)<=(↑(z11 x).length:Int))/\((!decide (d < 0))=true->(List.drop 0 (List.take (x_1:Int).toNat (z11 x))).length<=4611686018427387904)/\br (decide (d < 0) || gQ (List.drop 0 (List.take (x_1:Int).toNat (z11 x))) d) z10 (iR (Ef x_1)/\∃x',(z1 x')/\(z9 x_1 x')/\sm z4/\pJ.length - x' < pJ.length - x_1)) (qB z13 true))))):=by
 conv=>zeta
 delta cI g0 qB sm I6 iR;obtain⟨b1,b2,b3,b4,b5,b6⟩:vs.length<=1000/\os.length<=1000/\qs.length<=1000/\sg.length<=1000/\(∀q∈qs,q.length<=1000)/\qs.flatten.length<=100000:=aF;have fF:¬Ld (vs,os,qs,sg,())->([]:List Go.lH.ak)=[]/\bF.one (SV.c (SC.v (Value.bool (eG (vs,os,qs,sg,())))))=bF.one (SV.c (SC.v (Value.bool false))):=λq=>⟨rfl,by rw[Le q]⟩
 refine⟨λ_=>by omega,ah.2 ⟨λh=>fF λq=>?_,λh=>?_⟩⟩
 .obtain⟨q1,q2,q3,q4,_⟩:=q;rw[Eh.2 q4]at h;simp at h;omega
 simp only[rM,BJ,iH]at h;obtain⟨⟨⟨h1,h2⟩,h3⟩,h4⟩:=h;have h4:SS sg:=Eh.1 h4;refine⟨⟨0,⟨by omega,λj hj=>by omega⟩,⟨rfl,trivial⟩,rfl⟩,λk hk=>ah.2 ⟨λg=>?_,λg=>?_⟩⟩
 .simp only[eH]at g;refine⟨⟨by omega,by omega⟩,λd hd=>ah.2 ⟨λg2=>fF λq=>?_,λg2=>⟨aC.2 (by omega),k+1,⟨by omega,λj hj v hv=>?_⟩,⟨rfl,trivial⟩,rfl,by omega⟩⟩⟩
  .have:=uq.1 (q.2.2.2.2.1 d (iJ hd));simp at g2;omega
  .by_cases jh:j=k
   .subst jh;have hd:vs[j]?=some d:=hd;rw[hd]at hv;cases hv;rw[uq];simp at g2;omega
   .exact hk.2 j (by omega) v hv
 simp only[iH]at g;have v1:∀v∈vs,dK v=true:=λv hv=>by
  obtain⟨j,hj⟩:=LK hv;exact hk.2 j (by have:=(fH.1 hj).1;omega) v hj
 refine⟨⟨0,⟨by omega,λj hj=>by omega⟩,⟨rfl,trivial⟩,rfl⟩,λk2 hk2=>ah.2 ⟨λg=>?_,λg=>?_⟩⟩
 .simp only[eH]at g;refine⟨⟨by omega,by omega⟩,λd hd=>ah.2 ⟨λg2=>fF λq=>?_,λg2=>⟨aC.2 (by omega),k2+1,⟨by omega,λj hj v hv=>?_⟩,⟨rfl,trivial⟩,rfl,by omega⟩⟩⟩
  .have:=q.2.2.2.2.2.1 d (iJ hd);simp at g2;omega
  .by_cases jh:j=k2
   .subst jh;have hd:os[j]?=some d:=hd;rw[hd]at hv;cases hv;simp at g2;omega
   .exact hk2.2 j (by omega) v hv
 simp only[iH]at g;have v2:∀v∈os,-1<=v:=λv hv=>by
  obtain⟨j,hj⟩:=LK hv;exact hk2.2 j (by have:=(fH.1 hj).1;omega) v hj
 refine⟨by omega,⟨0,by omega,⟨rfl,rfl,trivial⟩,by simp⟩,λk3 hk3=>ah.2 ⟨λg=>?_,λg=>?_⟩⟩
 .simp only[eH]at g;refine⟨⟨by omega,by omega⟩,λd hd=>⟨dJ.2 ?_,aC.2 (by omega),k3+1,by omega,⟨rfl,rfl,trivial⟩,?_,by omega⟩⟩
  .have:=Ug qs k3;have:=b5 d (iJ hd);rw[jR];omega
  .have hd:qs[k3]?=some d:=hd;rw[Uh hd,zY]
 simp only[iH]at g;have ek:qs.take k3=qs:=wo (by omega)
 rw[ek];have bl:(sg++qs.flatten).length<=101000:=by rw[jR];omega
 refine⟨⟨0,⟨by omega,λj hj=>by omega,by simp⟩,⟨rfl,trivial⟩,rfl⟩,λk4 hk4=>ah.2 ⟨λg=>?_,λg=>?_⟩⟩
 .simp only[eH]at g;refine⟨⟨by omega,by omega⟩,λd hd=>⟨λ_=>⟨by omega,by omega,by omega⟩,λ_=>by simp only[OY,jY];omega,ah.2 ⟨λg2=>fF λq=>?_,λg2=>⟨aC.2 (by omega),k4+1,⟨by omega,λj hj v hv=>?_,?_⟩,⟨rfl,trivial⟩,rfl,by omega⟩⟩⟩⟩
  .have hd:(sg++qs.flatten)[k4]?=some d:=hd;have n0:=q.2.2.2.2.2.2.1 d (iJ hd);have n1:=Zh q.2.2.2.2.2.2.2 hd;have n2:gQ ((sg++qs.flatten).take k4) d=false:=nU.2 n1;rw[OY,show((k4:Int)).toNat=k4 from rfl,n2]at g2
   simp at g2;omega
  all_goals
   rw[OY,show((k4:Int)).toNat=k4 from rfl,rM,iH]at g2
   have hd:(sg++qs.flatten)[k4]?=some d:=hd
  .by_cases jh:j=k4
   .subst jh;rw[hd]at hv;cases hv;omega
   .exact hk4.2.1 j (by omega) v hv
  .exact OE hk4.2.2 hd (nU.1 g2.2)
 simp only[iH]at g;refine⟨rfl,?_⟩;rw[fD.2];refine⟨by omega,by omega,by omega,h4,v1,v2,λx hx=>?_,?_⟩
 .obtain⟨j,hj⟩:=LK hx;exact hk4.2.1 j (by have:=(fH.1 hj).1;omega) x hj
 .have:=hk4.2.2
  rwa [wo (by omega)]at this
theorem Ei:aY aV.gd 157 Zk:=
 dO (cx:=aV) (n:=89) (cl:=[(107,Gq),(192,ctV),(98,DR)]) (rc:=[]) aB ⟨yX,KT,yO,trivial⟩ Tryz.func157 λd hd=>by
  obtain⟨⟨vs,os,qs,sg,⟨⟩⟩,⟨⟩⟩:=d;exact aT (aii vs os qs sg) (adG vs os qs sg hd) (by kernel_rfl)
abbrev nY:CT:={ ps:=[.sl (.int .i64),.sl (.int .i64)],pre:=λd=>d.1.length<=1000000,res:=λd=>([],vB (decide (d.1=d.2.1))) }
abbrev akX(l m:List Int):Nat->Option (St->kD):=λk=>match k with
 | 4=>some λ_=>.inv { α:=Nat,slots:=λk=>[(5,.c (.v (.int .i64 k)))],res:=λk=>[],inv:=λk=>k<=(l).length/\∀j < k,l[j]?=m[j]?,meas:=λk=>(l).length - k }
 | _=>none
theorem aij(l m:List Int) (aF:nY.pre (l,m,())):
 let z2:=qB (decide (l=m)) false;let z1:=λ(x:Nat)=>(x<=l.length/\∀(j:Nat),j < x->l[j]?=m[j]?);br (!decide ((l.length:Int)=(m.length:Int))) z2 ((∃x,(z1 x)/\(cI 0=cI (x:Int)/\True)/\([]:List fV)=[])/\∀(x:Nat),(z1 x)->br (decide ((x:Int) < (l.length:Int))) ((0<=(x:Int)/\(x:Int) < (l.length:Int))/\∀(d:Int),l[(x:Int).toNat]?=some d->(0<=(x:Int)/\(x:Int) < (m.length:Int))/\∀(dR:Int),m[(x:Int).toNat]?=some dR->br (!decide (d=dR)) z2 (iR ((x:Int)+(1:Int))/\∃x',(z1 x')/\(cI ((x:Int)+(1:Int))=cI (x':Int)/\True)/\([]:List fV)=[]/\l.length - x' < l.length - x)) (qB (decide (l=m)) true)):=by
 conv=>zeta
 delta fV cI qB iR;have hp:l.length<=1000000:=aF;have fF:l≠m->([]:List Go.lH.ak)=[]/\bF.one (SV.c (SC.v (Value.bool (decide (l=m)))))=bF.one (SV.c (SC.v (Value.bool false))):=λq=>⟨rfl,by rw[UJ q]⟩
 refine ah.2 ⟨λh=>fF λq=>?_,λh=>?_⟩
 .subst q;simp at h
 simp only[BJ,eH]at h;refine⟨⟨0,⟨by omega,λj hj=>by omega⟩,⟨rfl,trivial⟩,rfl⟩,λk hk=>ah.2 ⟨λg=>?_,λg=>?_⟩⟩
 .simp only[eH]at g;refine⟨⟨by omega,by omega⟩,λd hd=>⟨⟨by omega,by omega⟩,λd1 hd1=>ah.2 ⟨λg2=>fF λq=>?_,λg2=>⟨aC.2 (by omega),k+1,⟨by omega,λj hj=>?_⟩,⟨rfl,trivial⟩,rfl,by omega⟩⟩⟩⟩
  .subst q;rw[hd]at hd1;cases hd1;simp at g2
  .by_cases jh:j=k
   .subst jh;have hd:l[j]?=some d:=hd;have hd1:m[j]?=some d1:=hd1;simp at g2;rw[hd,hd1,g2]
   .exact hk.2 j (by omega)
 simp only[iH]at g;have e:l=m:=by
  apply Ar;intro j
  by_cases hj:j < k
  .exact hk.2 j hj
  .rw[uG (by omega),uG (by omega)]
 exact⟨rfl,by rw[Jg e]⟩
theorem adH:aY aV.gd 83 nY:=
 dO (cx:=aV) (n:=26) (cl:=[]) (rc:=[]) aB trivial Tryz.func83 λd hd=>by
  obtain⟨l,m,⟨⟩⟩:=d;exact aT (akX l m) (aij l m hd) (by kernel_rfl)
abbrev zO:CT:={ ps:=[vW,vW],pre:=λd=>bI d.1,res:=λd=>([],vB (decide (d.1=d.2.1))) }
abbrev akY(vs os:List Int) (qs:List (List Int)) (sg vs2 os2:List Int) (BF:List (List Int)) (sg2:List Int):Nat->Option (St->kD):=λk=>match k with
 | 4=>some λ_=>.inv { α:=Nat,slots:=λk=>[(5,.c (.v (.int .i64 k)))],res:=λ_=>[],inv:=λk=>k<=qs.length/\∀j < k,qs[j]?=BF[j]?,meas:=λk=>qs.length - k }
 | _=>none
theorem aik(vs os:List Int) (qs:List (List Int)) (sg vs2 os2:List Int) (BF:List (List Int)) (sg2:List Int) (aF:zO.pre ((vs,os,qs,sg,()),(vs2,os2,BF,sg2,()),())):
 let z4:=decide ((vs,os,qs,sg,())=(vs2,os2,BF,sg2,()));let z2:=qB z4 false;let z3:=λ(x:Nat)=>(x<=qs.length/\∀(j:Nat),j < x->qs[j]?=BF[j]?);let z1:=[g0 (ak.blk 34 [SC.sl I6 vs,SC.sl I6 os,SC.sl I6.sl qs,SC.sl I6 sg]),g0 (ak.blk 34 [SC.sl I6 vs2,SC.sl I6 os2,SC.sl I6.sl BF,SC.sl I6 sg2])];vs.length<=1000000/\((!!decide (vs=vs2))=true->os.length<=1000000)/\((!(!decide (vs=vs2) || !decide (os=os2)))=true->sg.length<=1000000)/\br (!decide (vs=vs2) || !decide (os=os2) || !decide (sg=sg2) || !decide ((qs.length:Int)=(BF.length:Int))) z2 ((∃x,(z3 x)/\(cI 0=cI (x:Int)/\True)/\sm z1)/\∀(x:Nat),(z3 x)->br (decide ((x:Int) < (qs.length:Int))) ((0<=(x:Int)/\(x:Int) < (qs.length:Int))/\∀(d:List Int),qs[(x:Int).toNat]?=some d->(0<=(x:Int)/\(x:Int) < (BF.length:Int))/\∀(dR:List Int),BF[(x:Int).toNat]?=some dR->d.length<=1000000/\br (!decide (d=dR)) z2 (iR ((x:Int)+(1:Int))/\∃x',(z3 x')/\(cI ((x:Int)+(1:Int))=cI (x':Int)/\True)/\sm z1/\qs.length - x' < qs.length - x)) (qB z4 true)):=by
 conv=>zeta
 delta cI g0 qB sm I6 iR;obtain⟨b1,b2,b3,b4,b5,b6⟩:vs.length<=1000/\os.length<=1000/\qs.length<=1000/\sg.length<=1000/\(∀q∈qs,q.length<=1000)/\qs.flatten.length<=100000:=aF;have fF:(vs,os,qs,sg,())≠(vs2,os2,BF,sg2,())->([]:List Go.lH.ak)=[]/\bF.one (SV.c (SC.v (Value.bool (decide ((vs,os,qs,sg,())=(vs2,os2,BF,sg2,()))))))=bF.one (SV.c (SC.v (Value.bool false))):=λq=>⟨rfl,by rw[UJ q]⟩
 refine⟨by omega,λ_=>by omega,λ_=>by omega,ah.2 ⟨λh=>fF λq=>?_,λh=>?_⟩⟩
 .cases q;simp at h
 simp only[rM,BJ,eH]at h;obtain⟨⟨⟨rfl,rfl⟩,rfl⟩,h⟩:=h;refine⟨⟨0,⟨by omega,λj hj=>by omega⟩,⟨rfl,trivial⟩,rfl⟩,λk hk=>ah.2 ⟨λg=>?_,λg=>?_⟩⟩
 .simp only[eH]at g;refine⟨⟨by omega,by omega⟩,λd hd=>⟨⟨by omega,by omega⟩,λd1 hd1=>⟨?_,ah.2 ⟨λg2=>fF λq=>?_,λg2=>⟨aC.2 (by omega),k+1,⟨by omega,λj hj=>?_⟩,⟨rfl,trivial⟩,rfl,by omega⟩⟩⟩⟩⟩
  .have:=b5 d (iJ hd);omega
  .cases q;rw[hd]at hd1;cases hd1;simp at g2
  .by_cases jh:j=k
   .subst jh;have hd:qs[j]?=some d:=hd;have hd1:BF[j]?=some d1:=hd1;simp at g2;rw[hd,hd1,g2]
   .exact hk.2 j (by omega)
 simp only[iH]at g;have e:qs=BF:=by
  apply Ar;intro j
  by_cases hj:j < k
  .exact hk.2 j hj
  .rw[uG (by omega),uG (by omega)]
 subst e;exact⟨rfl,by rw[Jg rfl]⟩
theorem adI:aY aV.gd 37 zO:=
 dO (cx:=aV) (n:=56) (cl:=[(83,nY)]) (rc:=[]) aB ⟨adH,trivial⟩ Tryz.func37 λd hd=>by
  obtain⟨⟨vs,os,qs,sg,⟨⟩⟩,⟨vs2,os2,BF,sg2,⟨⟩⟩,⟨⟩⟩:=d;exact aT (akY vs os qs sg vs2 os2 BF sg2) (aik vs os qs sg vs2 os2 BF sg2 hd) (by kernel_rfl)
theorem wX(k:Nat):nS (λj=>decide (j < k)) k=λj=>decide (j < k+1):=by
 funext j;unfold nS
 by_cases h:j=k
 .subst h;simp
 .simp[h];omega
theorem Lh{d:List Int} (h:qs[k]?=some d):(qs.take k++List.replicate (qs.length - k) []).set k d=qs.take (k+1)++List.replicate (qs.length - (k+1)) []:=by
 obtain⟨hk,_⟩:=fH.1 h;rw[aaJ _ _ (by rw[jY];omega),jY,show k - min k qs.length=0 by omega,show qs.length - k=(qs.length - (k+1))+1 by omega,UN,UO,OW,h]
 simp
theorem yY(h:k<=qs.length):(qs.take k++List.replicate (qs.length - k) []).length=qs.length:=by simp;omega
theorem Lj(h:¬k < qs.length) (h':k<=qs.length):qs.take k++List.replicate (qs.length - k) []=qs:=by
 have:k=qs.length:=by omega
 subst this;simp
theorem OG:vN=λj=>decide (j < 0):=by funext j;simp
abbrev QF:CT:={ ps:=[vW],pre:=λd=>bI d.1,res:=λd=>([.row 3 (.int .i64) (d.1.1),.row 3 (.int .i64) (d.1.2.1),.deep 31 (.sl (.int .i64)) (d.1.2.2.1) 3 (.int .i64) 0 (λj=>decide (j < d.1.2.2.1.length)) [],.row 3 (.int .i64) (d.1.2.2.2.1)],.one (.agg [(.row 0),(.row 1),(.row 2),(.row 3)])) }
abbrev akZ(vs os:List Int) (qs:List (List Int)) (sg:List Int):Nat->Option (St->kD):=λk=>match k with
 | 2=>some λ_=>.cut { α:=Nat,pad:=5,can:=[(2,.slot 3),(3,.cell 2 0),(4,.cell 2 1),(5,.cell 2 2),(6,.cell 2 3)],slots:=λ_=>[(3,.c (.own 2 0))],res:=λ_=>[(2,.blk 34 [.row 3,.row 4,.row 5,.row 6]),(3,.row 3 (.int .i64) (vs)),(4,.row 3 (.int .i64) (os)),(5,.row 31 (.sl (.int .i64)) (List.replicate qs.length [])),(6,.row 3 (.int .i64) (sg))],inv:=λu=>u=0,meas:=λ_=>0 }
 | 3=>some λ_=>.inv { α:=Nat,deep:=[(5,3,.int .i64,0)],slots:=λk=>[(23,.c (.v (.int .i64 k)))],res:=λk=>[(5,.deep 31 (.sl (.int .i64)) (qs.take k++List.replicate (qs.length - k) []) 3 (.int .i64) 0 (λj=>decide (j < k)) [])],inv:=λk=>k<=qs.length,meas:=λk=>qs.length - k }
 | _=>none
abbrev jQ:=[iN,iN,iN,iN]
abbrev Ej:=[SC.row 3,SC.row 4,SC.row 5,SC.row 6]
abbrev qP:Prop:=SV.c (SC.own 2 0)=SV.c (SC.own 2 0)/\True
abbrev kq5:=[SC.row 0,SC.row (Nat.succ 0),SC.row (Nat.succ 0).succ,SC.row (Nat.succ 0).succ.succ]
theorem ail(vs os:List Int) (qs:List (List Int)) (sg:List Int) (aF:QF.pre ((vs,os,qs,sg,()),())):
 let z9:=0<=(qs.length:Int)/\(qs.length:Int)<=(qs.length:Int)/\mY (qs.length:Int).toNat 24;let z10:=[SC.sl I6 vs,SC.sl I6 os,SC.sl I6.sl qs,SC.sl I6 sg];let z7:=[g0 (ak.blk 34 z10),g0 (ak.blk 34 jQ),g0 (ak.blk 34 Ej),g0 (ak.row 3 I6 vs),g0 (ak.row 3 I6 os),g0 (ak.row 31 I6.sl (List.replicate (qs.length:Int).toNat [])),g0 (ak.row 3 I6 sg)];let z12:=List.replicate qs.length [];let z8:=[g0 (ak.blk 34 z10),g0 (ak.blk 34 jQ),g0 (ak.blk 34 Ej),g0 (ak.row 3 I6 vs),g0 (ak.row 3 I6 os),g0 (ak.row 31 I6.sl z12),g0 (ak.row 3 I6 sg)];let z5:=(∃v,v=0/\qP/\z7=z8);let z3:=(sg.length<=1000000/\z5/\∃v,v=0/\qP/\z7=z8);let z4:=(z9/\sg.length<=1000000/\∃v,v=0/\qP/\z7=z8);let z1:=(os.length<=1000000/\z3/\sg.length<=1000000/\∃v,v=0/\qP/\z7=z8);let z2:=(os.length<=1000000/\z4/\sg.length<=1000000/\z9/\∃v,v=0/\qP/\z7=z8);let z11:=λ(x:Nat)=>List.take x qs++List.replicate (qs.length - x) [];let z6:=λ(x:Nat)=>[g0 (ak.blk 34 z10),g0 (ak.blk 34 jQ),g0 (ak.blk 34 Ej),g0 (ak.row 3 I6 vs),g0 (ak.row 3 I6 os),g0 (ak.deep 31 I6.sl (z11 x) 3 I6 0 (λj=>decide (j < x)) []),g0 (ak.row 3 I6 sg)];((vs.length<=1000000/\(os.length<=1000000/\(z9/\z3/\sg.length<=1000000/\∃v,v=0/\qP/\z7=z8)/\(sg.length<=1000000/\(z9/\z5/\∃v,v=0/\qP/\z7=z8)/\z9/\∃v,v=0/\qP/\z7=z8)/\z4/\sg.length<=1000000/\z9/\∃v,v=0/\qP/\z7=z8)/\(z9/\z1/\os.length<=1000000/\sg.length<=1000000/\∃v,v=0/\qP/\z7=z8)/\z2/\z9/\os.length<=1000000/\sg.length<=1000000/\∃v,v=0/\qP/\z7=z8)/\(z9/\(vs.length<=1000000/\z1/\os.length<=1000000/\sg.length<=1000000/\∃v,v=0/\qP/\z7=z8)/\vs.length<=1000000/\os.length<=1000000/\sg.length<=1000000/\∃v,v=0/\qP/\z7=z8)/\(vs.length<=1000000/\z2/\z9/\os.length<=1000000/\sg.length<=1000000/\∃v,v=0/\qP/\z7=z8)/\z9/\vs.length<=1000000/\os.length<=1000000/\sg.length<=1000000/\∃v,v=0/\qP/\z7=z8)/\∀(v:Nat),v=0->(∃x,x<=qs.length/\(cI 0=cI (x:Int)/\True)/\[g0 (ak.blk 34 z10),g0 (ak.blk 34 jQ),g0 (ak.blk 34 Ej),g0 (ak.row 3 I6 vs),g0 (ak.row 3 I6 os),g0 (ak.deep 31 I6.sl z12 3 I6 0 vN []),g0 (ak.row 3 I6 sg)]=(z6 x))/\∀(x:Nat),x<=qs.length->br (decide ((x:Int) < (qs.length:Int))) ((0<=(x:Int)/\(x:Int) < (qs.length:Int))/\∀(d:List Int),qs[(x:Int).toNat]?=some d->d.length<=1000000/\(0<=(x:Int)/\(x:Int) < (↑(z11 x).length:Int))/\(x:Int).toNat < (z11 x).length/\∀(e0:List Int),(z11 x)[(x:Int).toNat]?=some e0->iR ((x:Int)+(1:Int))/\∃x',x'<=qs.length/\(cI ((x:Int)+(1:Int))=cI (x':Int)/\True)/\[g0 (ak.blk 34 z10),g0 (ak.blk 34 jQ),g0 (ak.blk 34 Ej),g0 (ak.row 3 I6 vs),g0 (ak.row 3 I6 os),g0 (ak.deep 31 I6.sl ((z11 x).set (x:Int).toNat (d)) 3 I6 0 (nS (λj=>decide (j < x)) (x:Int).toNat) []),g0 (ak.row 3 I6 sg)]=(z6 x')/\qs.length - x' < qs.length - x) ([ak.row 3 I6 vs,ak.row 3 I6 os,ak.deep 31 I6.sl qs 3 I6 0 (λj=>decide (j < List.length (vs,os,qs,sg,()).snd.snd.fst)) [],ak.row 3 I6 sg]=[ak.row 3 I6 vs,ak.row 3 I6 os,ak.deep 31 I6.sl (z11 x) 3 I6 0 (λj=>decide (j < x)) [],ak.row 3 I6 sg]/\bF.one (SV.agg [SC.row 0,SC.row 1,SC.row 2,SC.row 3])=bF.one (SV.agg kq5)):=by
 conv=>zeta
 delta jQ Ej qP kq5 cI g0 I6 iR iN;obtain⟨b1,b2,b3,b4,b5,b6⟩:vs.length<=1000/\os.length<=1000/\qs.length<=1000/\sg.length<=1000/\(∀q∈qs,q.length<=1000)/\qs.flatten.length<=100000:=aF;refine⟨?_,λu hu=>⟨⟨0,by omega,⟨rfl,trivial⟩,?_⟩,λk hk=>ah.2 ⟨λg=>?_,λg=>?_⟩⟩⟩
 .have hA:mY (qs.length:Int).toNat 24:=dJ.2 (by omega)
  repeat' first | exact⟨0,rfl,⟨rfl,trivial⟩,rfl⟩ | (refine And.intro ?_ ?_) | omega | exact hA
 .rw[OG];simp
 .simp only[eH]at g;refine⟨⟨by omega,by omega⟩,λd hd=>⟨?_,⟨by omega,?_⟩,?_,λe0 he=>⟨aC.2 (by omega),k+1,by omega,⟨rfl,trivial⟩,?_,by omega⟩⟩⟩
  .have:=b5 d (iJ hd);omega
  .rw[yY hk];omega
  .rw[yY hk];show k < _;omega
  .have hd:qs[k]?=some d:=hd;have e1:(qs.take k++List.replicate (qs.length - k) []).set (k:Int).toNat d=qs.take (k+1)++List.replicate (qs.length - (k+1)) []:=Lh hd;have e2:nS (λj=>decide (j < k)) (k:Int).toNat=λj=>decide (j < k+1):=wX k
   rw[e2];exact oh (λz=>_ :: _ :: _ :: _ :: _ :: (([]:Go.lH.Gd),ak.deep 31 (Sh.int IntKind.i64).sl z 3 (Sh.int IntKind.i64) 0 (λj=>decide (j < k+1)) []) :: _) e1
 simp only[iH]at g;have ek:k=qs.length:=by omega
 subst ek;exact⟨by rw[Lj (by omega) hk],rfl⟩
theorem QG:aY aV.gd 49 QF:=
 dO (cx:=aV) (n:=36) (cl:=[(107,Gq)]) (rc:=[]) aB ⟨yX,trivial⟩ Tryz.func49 λd hd=>by
  obtain⟨⟨vs,os,qs,sg,⟨⟩⟩,⟨⟩⟩:=d;exact aT (akZ vs os qs sg) (ail vs os qs sg hd) (by kernel_rfl)
abbrev uw:CT:={ ps:=[vW],pre:=λd=>bI d.1,res:=λd=>([.row 3 (.int .i64) (d.1.1),.row 3 (.int .i64) (d.1.2.1),.row 31 (.sl (.int .i64)) (d.1.2.2.1),.row 3 (.int .i64) (d.1.2.2.2.1)],.one (.agg [(.row 0),(.row 1),(.row 2),(.row 3)])) }
abbrev ain(vs os:List Int) (qs:List (List Int)) (sg:List Int):Nat->Option (St->kD):=λk=>match k with
 | 2=>some λ_=>.cut { α:=Nat,pad:=5,can:=[(2,.slot 3),(3,.cell 2 0),(4,.cell 2 1),(5,.cell 2 2),(6,.cell 2 3)],slots:=λ_=>[(3,.c (.own 2 0))],res:=λ_=>[(2,.blk 34 [.row 3,.row 4,.row 5,.row 6]),(3,.row 3 (.int .i64) (vs)),(4,.row 3 (.int .i64) (os)),(5,.row 31 (.sl (.int .i64)) (List.replicate qs.length [])),(6,.row 3 (.int .i64) (sg))],inv:=λu=>u=0,meas:=λ_=>0 }
 | 3=>some λ_=>.inv { α:=Nat,slots:=λk=>[(23,.c (.v (.int .i64 k)))],res:=λk=>[(5,.row 31 (.sl (.int .i64)) (qs.take k++List.replicate (qs.length - k) []))],inv:=λk=>k<=qs.length,meas:=λk=>qs.length - k }
 | _=>none
theorem adJ(vs os:List Int) (qs:List (List Int)) (sg:List Int) (aF:uw.pre ((vs,os,qs,sg,()),())):
 let z9:=0<=(qs.length:Int)/\(qs.length:Int)<=(qs.length:Int)/\mY (qs.length:Int).toNat 24;let z10:=[SC.sl I6 vs,SC.sl I6 os,SC.sl I6.sl qs,SC.sl I6 sg];let z7:=[g0 (ak.blk 34 z10),g0 (ak.blk 34 jQ),g0 (ak.blk 34 Ej),g0 (ak.row 3 I6 vs),g0 (ak.row 3 I6 os),g0 (ak.row 31 I6.sl (List.replicate (qs.length:Int).toNat [])),g0 (ak.row 3 I6 sg)];let z8:=[g0 (ak.blk 34 z10),g0 (ak.blk 34 jQ),g0 (ak.blk 34 Ej),g0 (ak.row 3 I6 vs),g0 (ak.row 3 I6 os),g0 (ak.row 31 I6.sl (List.replicate qs.length [])),g0 (ak.row 3 I6 sg)];let z5:=(∃v,v=0/\qP/\z7=z8);let z3:=(sg.length<=1000000/\z5/\∃v,v=0/\qP/\z7=z8);let z4:=(z9/\sg.length<=1000000/\∃v,v=0/\qP/\z7=z8);let z1:=(os.length<=1000000/\z3/\sg.length<=1000000/\∃v,v=0/\qP/\z7=z8);let z2:=(os.length<=1000000/\z4/\sg.length<=1000000/\z9/\∃v,v=0/\qP/\z7=z8);let z11:=λ(x:Nat)=>List.take x qs++List.replicate (qs.length - x) [];let z6:=λ(x:Nat)=>[g0 (ak.blk 34 z10),g0 (ak.blk 34 jQ),g0 (ak.blk 34 Ej),g0 (ak.row 3 I6 vs),g0 (ak.row 3 I6 os),g0 (ak.row 31 I6.sl (z11 x)),g0 (ak.row 3 I6 sg)];((vs.length<=1000000/\(os.length<=1000000/\(z9/\z3/\sg.length<=1000000/\∃v,v=0/\qP/\z7=z8)/\(sg.length<=1000000/\(z9/\z5/\∃v,v=0/\qP/\z7=z8)/\z9/\∃v,v=0/\qP/\z7=z8)/\z4/\sg.length<=1000000/\z9/\∃v,v=0/\qP/\z7=z8)/\(z9/\z1/\os.length<=1000000/\sg.length<=1000000/\∃v,v=0/\qP/\z7=z8)/\z2/\z9/\os.length<=1000000/\sg.length<=1000000/\∃v,v=0/\qP/\z7=z8)/\(z9/\(vs.length<=1000000/\z1/\os.length<=1000000/\sg.length<=1000000/\∃v,v=0/\qP/\z7=z8)/\vs.length<=1000000/\os.length<=1000000/\sg.length<=1000000/\∃v,v=0/\qP/\z7=z8)/\(vs.length<=1000000/\z2/\z9/\os.length<=1000000/\sg.length<=1000000/\∃v,v=0/\qP/\z7=z8)/\z9/\vs.length<=1000000/\os.length<=1000000/\sg.length<=1000000/\∃v,v=0/\qP/\z7=z8)/\∀(v:Nat),v=0->(∃x,x<=qs.length/\(cI 0=cI (x:Int)/\True)/\z8=(z6 x))/\∀(x:Nat),x<=qs.length->br (decide ((x:Int) < (qs.length:Int))) ((0<=(x:Int)/\(x:Int) < (qs.length:Int))/\∀(d:List Int),qs[(x:Int).toNat]?=some d->d.length<=1000000/\(0<=(x:Int)/\(x:Int) < (↑(z11 x).length:Int))/\(x:Int).toNat < (z11 x).length/\iR ((x:Int)+(1:Int))/\∃x',x'<=qs.length/\(cI ((x:Int)+(1:Int))=cI (x':Int)/\True)/\[g0 (ak.blk 34 z10),g0 (ak.blk 34 jQ),g0 (ak.blk 34 Ej),g0 (ak.row 3 I6 vs),g0 (ak.row 3 I6 os),g0 (ak.row 31 I6.sl ((z11 x).set (x:Int).toNat (d))),g0 (ak.row 3 I6 sg)]=(z6 x')/\qs.length - x' < qs.length - x) ([ak.row 3 I6 vs,ak.row 3 I6 os,ak.row 31 I6.sl qs,ak.row 3 I6 sg]=[ak.row 3 I6 vs,ak.row 3 I6 os,ak.row 31 I6.sl (z11 x),ak.row 3 I6 sg]/\bF.one (SV.agg [SC.row 0,SC.row 1,SC.row 2,SC.row 3])=bF.one (SV.agg kq5)):=by
 conv=>zeta
 delta jQ Ej qP kq5 cI g0 I6 iR iN;obtain⟨b1,b2,b3,b4,b5,b6⟩:vs.length<=1000/\os.length<=1000/\qs.length<=1000/\sg.length<=1000/\(∀q∈qs,q.length<=1000)/\qs.flatten.length<=100000:=aF;refine⟨?_,λu hu=>⟨⟨0,by omega,⟨rfl,trivial⟩,?_⟩,λk hk=>ah.2 ⟨λg=>?_,λg=>?_⟩⟩⟩
 .have hA:mY (qs.length:Int).toNat 24:=dJ.2 (by omega)
  repeat' first | exact⟨0,rfl,⟨rfl,trivial⟩,rfl⟩ | (refine And.intro ?_ ?_) | omega | exact hA
 .simp
 .simp only[eH]at g;refine⟨⟨by omega,by omega⟩,λd hd=>⟨?_,⟨by omega,?_⟩,?_,⟨aC.2 (by omega),k+1,by omega,⟨rfl,trivial⟩,?_,by omega⟩⟩⟩
  .have:=b5 d (iJ hd);omega
  .rw[yY hk];omega
  .rw[yY hk];show k < _;omega
  .have hd:qs[k]?=some d:=hd;have e1:(qs.take k++List.replicate (qs.length - k) []).set (k:Int).toNat d=qs.take (k+1)++List.replicate (qs.length - (k+1)) []:=Lh hd;exact oh (λz=>_ :: _ :: _ :: _ :: _ :: (([]:Go.lH.Gd),ak.row 31 (Sh.int IntKind.i64).sl z) :: _) e1
 simp only[iH]at g;have ek:k=qs.length:=by omega
 subst ek;exact⟨by rw[Lj (by omega) hk],rfl⟩
theorem qJ:aY aV.gd 49 uw:=
 dO (cx:=aV) (n:=36) (cl:=[(107,Gq)]) (rc:=[]) aB ⟨yX,trivial⟩ Tryz.func49 λd hd=>by
  obtain⟨⟨vs,os,qs,sg,⟨⟩⟩,⟨⟩⟩:=d;exact⟨ain vs os qs sg,cast (by kernel_rfl) (adJ vs os qs sg hd)⟩
def zM:MD:=([],[],[],[],())
def jF(m:MD) (i n:Int):Int:=if eG m=false then 1 else if i < 0\/n<=i then 11 else 0
def vX(m:MD) (x:Int):Int×Int:=if jF m x m.1.length=0 then(m.1[x.toNat]?.getD 0,0) else(0,jF m x m.1.length)
def writeM(m:MD) (x v:Int):MD×Int:=if jF m x m.1.length=0 then(if dK v=true then((m.1.set x.toNat v,m.2),0) else(zM,2)) else(zM,jF m x m.1.length)
def jv(m:MD) (i id frm to:Int):MD×Int:=if jF m i m.2.1.length=0 then(if id < 0 then(zM,2) else if m.2.1[i.toNat]?.getD 0=frm then((m.1,m.2.1.set i.toNat to,m.2.2),0) else(zM,30)) else(zM,jF m i m.2.1.length)
def vY(m:MD) (i:Int):Bool:=decide (jF m i m.2.1.length=0) && decide (m.2.1[i.toNat]?.getD 0 = -1)
def nZ(m:MD) (id:Int):Bool:=m.2.2.1.any (λq=>gQ q id) || gQ m.2.2.2.1 id
theorem iY{m:MD}{i n:Int}:jF m i n=0↔eG m=true/\0<=i/\i < n:=by
 unfold jF
 by_cases h:eG m=true
 .rw[if_neg (by simp[h])]
  split
  .simp[h];omega
  .simp[h];omega
 .rw[Bool.not_eq_true]at h;rw[if_pos h,h];simp
abbrev Aq:CT:={ ps:=[vW,.int .i64,.int .i64],pre:=λd=>bI d.1,res:=λd=>([],.one (.c (.v (.int .i64 (jF d.1 d.2.1 d.2.2.1))))) }
theorem adK(vs os:List Int) (qs:List (List Int)) (sg:List Int) (i n:Int) (aF:Aq.pre ((vs,os,qs,sg,()),i,n,())):
 let z2:=(vs,os,qs,sg,());let z1:=jF z2 i n;bI z2/\br (!eG z2) (qI z1 (1:Int)) (br (decide (i < 0) || decide (n<=i)) (qI z1 (11:Int)) (qI z1 (0:Int))):=by
 conv=>zeta
 delta qI;unfold jF;refine⟨aF,ah.2 ⟨λh=>⟨rfl,?_⟩,λh=>ah.2 ⟨λg=>⟨rfl,?_⟩,λg=>⟨rfl,?_⟩⟩⟩⟩
 .rw[if_pos (by simpa using h)]
 .rw[if_neg (by simpa using h),if_pos (by simpa using g)]
 .rw[if_neg (by simpa using h),if_neg (by simpa using g)]
theorem qK:aY aV.gd 158 Aq:=
 dO (cx:=aV) (n:=17) (cl:=[(157,Zk)]) (rc:=[]) aB ⟨Ei,trivial⟩ Tryz.func158 λd hd=>by
  obtain⟨⟨vs,os,qs,sg,⟨⟩⟩,i,n,⟨⟩⟩:=d;exact aT (λ_=>none) (adK vs os qs sg i n hd) (by kernel_rfl)
abbrev adL:CT:={ ps:=[vW,.int .i64],pre:=λd=>bI d.1,res:=λd=>([],.iO [.c (.v (.int .i64 ((vX d.1 d.2.1).1))),.c (.v (.int .i64 ((vX d.1 d.2.1).2)))]) }
theorem aip(vs os:List Int) (qs:List (List Int)) (sg:List Int) (x:Int) (aF:adL.pre ((vs,os,qs,sg,()),x,())):
 let z3:=(vs,os,qs,sg,());let z2:=vX z3 x;let z1:=[cI (z2.fst),cI (z2.snd)];bI z3/\br (!decide (jF z3 x (vs.length:Int)=(0:Int))) (rT z1 [cI 0,cI (jF z3 x (vs.length:Int))]) ((0<=x/\x < (vs.length:Int))/\∀(d:Int),vs[x.toNat]?=some d->rT z1 [cI d,cI 0]):=by
 conv=>zeta
 delta cI rT;unfold vX;refine⟨aF,ah.2 ⟨λh=>⟨rfl,?_⟩,λh=>?_⟩⟩
 .rw[if_neg (by simpa using h)]
 .have h:jF (vs,os,qs,sg,()) x vs.length=0:=by simpa using h
  have hx:=iY.1 h;refine⟨hx.2,λd hd=>⟨rfl,?_⟩⟩
  rw[if_pos h];simp[hd]
theorem QH:aY aV.gd 96 adL:=
 dO (cx:=aV) (n:=21) (cl:=[(158,Aq)]) (rc:=[]) aB ⟨qK,trivial⟩ Tryz.func96 λd hd=>by
  obtain⟨⟨vs,os,qs,sg,⟨⟩⟩,x,⟨⟩⟩:=d;exact aT (λ_=>none) (aip vs os qs sg x hd) (by kernel_rfl)
abbrev aiq:CT:={ ps:=[vW,.int .i64,.int .i64],pre:=λd=>bI d.1,res:=λd=>([],.iO [.agg [.sl (.int .i64) ((writeM d.1 d.2.1 d.2.2.1).1).1,.sl (.int .i64) ((writeM d.1 d.2.1 d.2.2.1).1).2.1,.sl (.sl (.int .i64)) ((writeM d.1 d.2.1 d.2.2.1).1).2.2.1,.sl (.int .i64) ((writeM d.1 d.2.1 d.2.2.1).1).2.2.2.1],.c (.v (.int .i64 ((writeM d.1 d.2.1 d.2.2.1).2)))]) }
abbrev UA:=[SC.sl I6 [],SC.sl I6 [],SC.sl I6.sl [],SC.sl I6 []]
abbrev kq7:=[SV.agg [SC.sl I6 [],SC.sl I6 [],SC.sl I6.sl [],SC.sl I6 []],cI 2]
theorem adM(vs os:List Int) (qs:List (List Int)) (sg:List Int) (x v:Int) (aF:aiq.pre ((vs,os,qs,sg,()),x,v,())):
 let z3:=(vs,os,qs,sg,());let z2:=writeM z3 x v;let z1:=[SV.agg [SC.sl I6 z2.fst.fst,SC.sl I6 z2.fst.snd.fst,SC.sl I6.sl z2.fst.snd.snd.fst,SC.sl I6 z2.fst.snd.snd.snd.fst],cI (z2.snd)];bI z3/\br (!decide (jF z3 x (vs.length:Int)=(0:Int))) (rT z1 [SV.agg UA,cI (jF z3 x (vs.length:Int))]) (br (decide (v < (-2147483648)) || decide (2147483647 < v)) (rT z1 kq7) (bI z3/\(0<=x/\x < (vs.length:Int))/\x.toNat < vs.length/\rT z1 [SV.agg [SC.sl I6 (vs.set x.toNat v),SC.sl I6 os,SC.sl I6.sl qs,SC.sl I6 sg],cI 0])):=by
 conv=>zeta
 delta UA kq7 cI rT I6;unfold writeM;refine⟨aF,ah.2 ⟨λh=>⟨rfl,?_⟩,λh=>?_⟩⟩
 .rw[if_neg (by simpa using h)];rfl
 .have h:jF (vs,os,qs,sg,()) x vs.length=0:=by simpa using h
  have hx:=iY.1 h;rw[if_pos h];refine ah.2 ⟨λg=>⟨rfl,?_⟩,λg=>⟨aF,hx.2,by omega,rfl,?_⟩⟩
  .rw[if_neg (by rw[uq];simp at g;omega)];rfl
  .rw[if_pos (by rw[uq];simp at g;omega)]
theorem Zl:aY aV.gd 100 aiq:=
 dO (cx:=aV) (n:=35) (cl:=[(158,Aq),(49,uw)]) (rc:=[.data vW,.keep]) aB ⟨qK,qJ,trivial⟩ Tryz.func100 λd hd=>by
  obtain⟨⟨vs,os,qs,sg,⟨⟩⟩,x,v,⟨⟩⟩:=d;exact aT (λ_=>none) (adM vs os qs sg x v hd) (by kernel_rfl)
abbrev adN:CT:={ ps:=[vW,.int .i64],pre:=λd=>bI d.1,res:=λd=>([],vB (vY d.1 d.2.1)) }
theorem air(vs os:List Int) (qs:List (List Int)) (sg:List Int) (i:Int) (aF:adN.pre ((vs,os,qs,sg,()),i,())):
 let z2:=(vs,os,qs,sg,());let z1:=jF z2 i (os.length:Int)=(0:Int);bI z2/\(decide z1=true->0<=i/\i < (os.length:Int))/\∀(d:Int),(decide z1=true->os[i.toNat]?=some d)->qB (vY z2 i) (decide z1 && decide (d=(-1))):=by
 conv=>zeta
 delta qB;unfold vY;refine⟨aF,λh=>(iY.1 (by simpa using h)).2,λd hd=>⟨rfl,?_⟩⟩
 by_cases h:jF (vs,os,qs,sg,()) i os.length=0
 .have:=hd (by simpa using h)
  simp[this]
 .simp[h]
theorem QI:aY aV.gd 87 adN:=
 dO (cx:=aV) (n:=20) (cl:=[(158,Aq)]) (rc:=[]) aB ⟨qK,trivial⟩ Tryz.func87 λd hd=>by
  obtain⟨⟨vs,os,qs,sg,⟨⟩⟩,i,⟨⟩⟩:=d;exact aT (λ_=>none) (air vs os qs sg i hd) (by kernel_rfl)
abbrev QJ:CT:={ ps:=[vW,.int .i64,.int .i64,.int .i64,.int .i64],pre:=λd=>bI d.1,res:=λd=>([],.iO [.agg [.sl (.int .i64) ((jv d.1 d.2.1 d.2.2.1 d.2.2.2.1 d.2.2.2.2.1).1).1,.sl (.int .i64) ((jv d.1 d.2.1 d.2.2.1 d.2.2.2.1 d.2.2.2.2.1).1).2.1,.sl (.sl (.int .i64)) ((jv d.1 d.2.1 d.2.2.1 d.2.2.2.1 d.2.2.2.2.1).1).2.2.1,.sl (.int .i64) ((jv d.1 d.2.1 d.2.2.1 d.2.2.2.1 d.2.2.2.2.1).1).2.2.2.1],.c (.v (.int .i64 ((jv d.1 d.2.1 d.2.2.1 d.2.2.2.1 d.2.2.2.2.1).2)))]) }
abbrev kq6:=[SV.agg [SC.sl I6 [],SC.sl I6 [],SC.sl I6.sl [],SC.sl I6 []],cI 30]
theorem adO(vs os:List Int) (qs:List (List Int)) (sg:List Int) (i id frm to:Int) (aF:QJ.pre ((vs,os,qs,sg,()),i,id,frm,to,())):
 let z4:=(vs,os,qs,sg,());let z2:=jv z4 i id frm to;let z1:=[SV.agg [SC.sl I6 z2.fst.fst,SC.sl I6 z2.fst.snd.fst,SC.sl I6.sl z2.fst.snd.snd.fst,SC.sl I6 z2.fst.snd.snd.snd.fst],cI (z2.snd)];let z3:=0<=i/\i < (os.length:Int);bI z4/\br (!decide (jF z4 i (os.length:Int)=(0:Int))) (rT z1 [SV.agg UA,cI (jF z4 i (os.length:Int))]) (br (decide (id < 0)) (rT z1 kq7) (z3/\∀(d:Int),os[i.toNat]?=some d->br (!decide (d=frm)) (rT z1 kq6) (bI z4/\z3/\i.toNat < os.length/\rT z1 [SV.agg [SC.sl I6 vs,SC.sl I6 (os.set i.toNat to),SC.sl I6.sl qs,SC.sl I6 sg],cI 0]))):=by
 conv=>zeta
 delta UA kq7 kq6 cI rT I6;unfold jv;refine⟨aF,ah.2 ⟨λh=>⟨rfl,?_⟩,λh=>?_⟩⟩
 .rw[if_neg (by simpa using h)];rfl
 .have h:jF (vs,os,qs,sg,()) i os.length=0:=by simpa using h
  have hx:=iY.1 h;rw[if_pos h];refine ah.2 ⟨λg=>⟨rfl,?_⟩,λg=>⟨hx.2,λd hd=>?_⟩⟩
  .rw[if_pos (by simpa using g)];rfl
  .rw[if_neg (by simpa using g)]
   have e:(vs,os,qs,sg,()).2.1[i.toNat]?.getD 0=d:=by simp[hd]
   rw[e];refine ah.2 ⟨λg2=>⟨rfl,?_⟩,λg2=>⟨aF,hx.2,by omega,rfl,?_⟩⟩
   .rw[if_neg (by simpa using g2)];rfl
   .rw[if_pos (by simpa using g2)]
theorem Ll:aY aV.gd 163 QJ:=
 dO (cx:=aV) (n:=43) (cl:=[(158,Aq),(49,uw)]) (rc:=[.data vW,.keep]) aB ⟨qK,qJ,trivial⟩ Tryz.func163 λd hd=>by
  obtain⟨⟨vs,os,qs,sg,⟨⟩⟩,i,id,frm,to,⟨⟩⟩:=d;exact aT (λ_=>none) (adO vs os qs sg i id frm to hd) (by kernel_rfl)
abbrev Zm:CT:={ ps:=[vW,.int .i64,.int .i64],pre:=λd=>bI d.1,res:=λd=>([],.iO [.agg [.sl (.int .i64) ((jv d.1 d.2.1 d.2.2.1 (-1) d.2.2.1).1).1,.sl (.int .i64) ((jv d.1 d.2.1 d.2.2.1 (-1) d.2.2.1).1).2.1,.sl (.sl (.int .i64)) ((jv d.1 d.2.1 d.2.2.1 (-1) d.2.2.1).1).2.2.1,.sl (.int .i64) ((jv d.1 d.2.1 d.2.2.1 (-1) d.2.2.1).1).2.2.2.1],.c (.v (.int .i64 ((jv d.1 d.2.1 d.2.2.1 (-1) d.2.2.1).2)))]) }
theorem adP(vs os:List Int) (qs:List (List Int)) (sg:List Int) (i id:Int) (aF:Zm.pre ((vs,os,qs,sg,()),i,id,())):
 let z2:=jv (vs,os,qs,sg,()) i id (-1:Int) id;let z1:=z2.snd;bI (vs,os,qs,sg,())/\rT [SV.agg [SC.sl I6 z2.fst.fst,SC.sl I6 z2.fst.snd.fst,SC.sl I6.sl z2.fst.snd.snd.fst,SC.sl I6 z2.fst.snd.snd.snd.fst],cI z1] [SV.agg [SC.sl I6 (z2.fst.fst,z2.fst.snd.fst,z2.fst.snd.snd.fst,z2.fst.snd.snd.snd.fst,()).fst,SC.sl I6 (z2.fst.snd.fst,z2.fst.snd.snd.fst,z2.fst.snd.snd.snd.fst,()).fst,SC.sl I6.sl (z2.fst.snd.snd.fst,z2.fst.snd.snd.snd.fst,()).fst,SC.sl I6 z2.fst.snd.snd.snd.fst],cI z1]:=by
 conv=>zeta
 delta cI rT I6;exact⟨aF,rfl,rfl⟩
theorem Zn:aY aV.gd 101 Zm:=
 dO (cx:=aV) (n:=15) (cl:=[(163,QJ)]) (rc:=[.data vW,.keep]) aB ⟨Ll,trivial⟩ Tryz.func101 λd hd=>by
  obtain⟨⟨vs,os,qs,sg,⟨⟩⟩,i,id,⟨⟩⟩:=d;exact aT (λ_=>none) (adP vs os qs sg i id hd) (by kernel_rfl)
abbrev Zo:CT:={ ps:=[vW,.int .i64,.int .i64],pre:=λd=>bI d.1,res:=λd=>([],.iO [.agg [.sl (.int .i64) ((jv d.1 d.2.1 d.2.2.1 d.2.2.1 (-1)).1).1,.sl (.int .i64) ((jv d.1 d.2.1 d.2.2.1 d.2.2.1 (-1)).1).2.1,.sl (.sl (.int .i64)) ((jv d.1 d.2.1 d.2.2.1 d.2.2.1 (-1)).1).2.2.1,.sl (.int .i64) ((jv d.1 d.2.1 d.2.2.1 d.2.2.1 (-1)).1).2.2.2.1],.c (.v (.int .i64 ((jv d.1 d.2.1 d.2.2.1 d.2.2.1 (-1)).2)))]) }
theorem adQ(vs os:List Int) (qs:List (List Int)) (sg:List Int) (i id:Int) (aF:Zo.pre ((vs,os,qs,sg,()),i,id,())):
 let z2:=jv (vs,os,qs,sg,()) i id id (-1:Int);let z1:=z2.snd;bI (vs,os,qs,sg,())/\rT [SV.agg [SC.sl I6 z2.fst.fst,SC.sl I6 z2.fst.snd.fst,SC.sl I6.sl z2.fst.snd.snd.fst,SC.sl I6 z2.fst.snd.snd.snd.fst],cI z1] [SV.agg [SC.sl I6 (z2.fst.fst,z2.fst.snd.fst,z2.fst.snd.snd.fst,z2.fst.snd.snd.snd.fst,()).fst,SC.sl I6 (z2.fst.snd.fst,z2.fst.snd.snd.fst,z2.fst.snd.snd.snd.fst,()).fst,SC.sl I6.sl (z2.fst.snd.snd.fst,z2.fst.snd.snd.snd.fst,()).fst,SC.sl I6 z2.fst.snd.snd.snd.fst],cI z1]:=by
 conv=>zeta
 delta cI rT I6;exact⟨aF,rfl,rfl⟩
theorem Zp:aY aV.gd 102 Zo:=
 dO (cx:=aV) (n:=15) (cl:=[(163,QJ)]) (rc:=[.data vW,.keep]) aB ⟨Ll,trivial⟩ Tryz.func102 λd hd=>by
  obtain⟨⟨vs,os,qs,sg,⟨⟩⟩,i,id,⟨⟩⟩:=d;exact aT (λ_=>none) (adQ vs os qs sg i id hd) (by kernel_rfl)
abbrev Zq:CT:={ ps:=[vW,.int .i64],pre:=λd=>bI d.1,res:=λd=>([],vB (nZ d.1 d.2.1)) }
abbrev ais(vs os:List Int) (qs:List (List Int)) (sg:List Int) (id:Int):Nat->Option (St->kD):=λk=>match k with
 | 2=>some λ_=>.inv { α:=Nat,slots:=λk=>[(10,.c (.v (.int .i64 k)))],res:=λk=>[],inv:=λk=>k<=(qs).length/\∀j < k,∀q,qs[j]?=some q->gQ q id=false,meas:=λk=>(qs).length - k }
 | _=>none
theorem adR(vs os:List Int) (qs:List (List Int)) (sg:List Int) (id:Int) (aF:Zq.pre ((vs,os,qs,sg,()),id,())):
 let z1:=λ(x:Nat)=>(x<=qs.length/\∀(j:Nat),j < x->∀(q:List Int),qs[j]?=some q->gQ q id=false);let z2:=[g0 (ak.blk 34 [SC.sl I6 vs,SC.sl I6 os,SC.sl I6.sl qs,SC.sl I6 sg])];let z3:=nZ (vs,os,qs,sg,()) id;(∃x,(z1 x)/\(cI 0=cI (x:Int)/\True)/\sm z2)/\∀(x:Nat),(z1 x)->br (decide ((x:Int) < (qs.length:Int))) ((0<=(x:Int)/\(x:Int) < (qs.length:Int))/\∀(d:List Int),qs[(x:Int).toNat]?=some d->d.length<=4611686018427387904/\br (gQ d id) (qB z3 true) (iR ((x:Int)+(1:Int))/\∃x',(z1 x')/\(cI ((x:Int)+(1:Int))=cI (x':Int)/\True)/\sm z2/\qs.length - x' < qs.length - x)) (sg.length<=1000000/\qB z3 (gQ sg id)):=by
 conv=>zeta
 delta cI g0 qB sm I6 iR;obtain⟨b1,b2,b3,b4,b5,b6⟩:vs.length<=1000/\os.length<=1000/\qs.length<=1000/\sg.length<=1000/\(∀q∈qs,q.length<=1000)/\qs.flatten.length<=100000:=aF;refine⟨⟨0,⟨by omega,λj hj=>by omega⟩,⟨rfl,trivial⟩,rfl⟩,λk hk=>ah.2 ⟨λg=>?_,λg=>?_⟩⟩
 .simp only[eH]at g;refine⟨⟨by omega,by omega⟩,λd hd=>⟨?_,ah.2 ⟨λg2=>⟨rfl,?_⟩,λg2=>⟨aC.2 (by omega),k+1,⟨by omega,λj hj q hq=>?_⟩,⟨rfl,trivial⟩,rfl,by omega⟩⟩⟩⟩
  .have:=b5 d (iJ hd);omega
  .have:nZ (vs,os,qs,sg,()) id=true:=by
    unfold nZ;rw[Fb];exact .inl (List.any_eq_true.2 ⟨d,iJ hd,g2⟩)
   rw[this]
  .by_cases jh:j=k
   .subst jh;have hd:qs[j]?=some d:=hd;rw[hd]at hq;cases hq;exact g2
   .exact hk.2 j (by omega) q hq
 simp only[iH]at g;have:nZ (vs,os,qs,sg,()) id=gQ sg id:=by
  unfold nZ;have:(qs.any λq=>gQ q id)=false:=by
   rw[List.any_eq_false];intro q hq;obtain⟨j,hj⟩:=LK hq;rw[hk.2 j (by have:=(fH.1 hj).1;omega) q hj];simp
  simp[this]
 exact⟨by omega,rfl,by rw[this]⟩
theorem Zr:aY aV.gd 164 Zq:=
 dO (cx:=aV) (n:=22) (cl:=[(98,DR),(165,F9)]) (rc:=[]) aB ⟨yO,yQ,trivial⟩ Tryz.func164 λd hd=>by
  obtain⟨⟨vs,os,qs,sg,⟨⟩⟩,id,⟨⟩⟩:=d;exact aT (ais vs os qs sg id) (adR vs os qs sg id hd) (by kernel_rfl)
def wY(m:MD) (c id:Int):MD×Int:=if jF m c m.2.2.1.length=0 then(if id < 0 then(zM,2) else if nZ m id=true then(zM,30) else((m.1,m.2.1,m.2.2.1.set c.toNat (m.2.2.1[c.toNat]?.getD []++[id]),m.2.2.2),0)) else(zM,jF m c m.2.2.1.length)
def kS(sg l:List Int):List Int:=l.foldl (λs x=>bY (s++[x])) sg
theorem OH{sg:List Int}{d:Int} (h:l[k]?=some d):kS sg (l.take (k+1))=bY (kS sg (l.take k)++[d]):=by
 unfold kS;rw[OW,h];simp
theorem zQ:∀(l sg:List Int),(kS sg l).length<=sg.length+l.length
 | [],sg=>by simp[kS]
 | x :: l,sg=>by
   have:=zQ l (bY (sg++[x]));have h2:=BA (sg++[x]) [];have e:kS sg (x :: l)=kS (bY (sg++[x])) l:=rfl;rw[e];unfold bY at *;simp only[jR,y9,LP]at *;omega
def uy(m:MD) (c n:Int):MD×Int×Int:=if jF m c m.2.2.1.length=0 then((m.1,m.2.1,m.2.2.1.set c.toNat ((m.2.2.1[c.toNat]?.getD []).drop (nT n ((m.2.2.1[c.toNat]?.getD []).length:Int)).toNat),kS m.2.2.2.1 ((m.2.2.1[c.toNat]?.getD []).take (nT n ((m.2.2.1[c.toNat]?.getD []).length:Int)).toNat),()),nT n ((m.2.2.1[c.toNat]?.getD []).length:Int),0) else(zM,0,jF m c m.2.2.1.length)
def og(m:MD) (id:Int):MD×Int:=if eG m=false then(zM,1) else if gQ m.2.2.2.1 id=false then(zM,30) else((m.1,m.2.1,m.2.2.1,oC (bY m.2.2.2.1) [id] false,()),0)
def wZ(vs:List VD) (ms cs:List ByteArray) (fs:List FD) (ts:List SD):MD×Int:=if(aG vs ms cs fs ts).1=0 then((vs.map (·.2.1),List.replicate ms.length (-1),List.replicate cs.length [],[],()),0) else(zM,(aG vs ms cs fs ts).1)
abbrev Zt:CT:={ ps:=[vW,.int .i64,.int .i64],pre:=λd=>bI d.1,res:=λd=>([],.iO [.agg [.sl (.int .i64) ((wY d.1 d.2.1 d.2.2.1).1).1,.sl (.int .i64) ((wY d.1 d.2.1 d.2.2.1).1).2.1,.sl (.sl (.int .i64)) ((wY d.1 d.2.1 d.2.2.1).1).2.2.1,.sl (.int .i64) ((wY d.1 d.2.1 d.2.2.1).1).2.2.2.1],.c (.v (.int .i64 ((wY d.1 d.2.1 d.2.2.1).2)))]) }
theorem adS(vs os:List Int) (qs:List (List Int)) (sg:List Int) (c id:Int) (aF:Zt.pre ((vs,os,qs,sg,()),c,id,())):
 let z8:=(vs,os,qs,sg,());let z6:=wY z8 c id;let z1:=[SV.agg [SC.sl I6 z6.fst.fst,SC.sl I6 z6.fst.snd.fst,SC.sl I6.sl z6.fst.snd.snd.fst,SC.sl I6 z6.fst.snd.snd.snd.fst],cI (z6.snd)];let z5:=0<=c/\c < (qs.length:Int);let z7:=c.toNat < qs.length;let z3:=decide z7=true/\c.toNat < qs.length;let z4:=λ(d:List Int)=>List.length (d)+List.length ([id]);let z2:=λ(d:List Int)=>[SV.agg [SC.sl I6 vs,SC.sl I6 os,SC.sl I6.sl (qs.set c.toNat ((d++[id]))),SC.sl I6 sg],cI 0];bI z8/\br (!decide (jF z8 c (qs.length:Int)=(0:Int))) (rT z1 [SV.agg UA,cI (jF z8 c (qs.length:Int))]) (br (decide (id < 0)) (rT z1 kq7) (bI z8/\br (nZ z8 id) (rT z1 kq6) (bI z8/\z5/\c.toNat < qs.length/\∀(d:List Int),qs[c.toNat]?=some d->false=false/\(decide z7=true->(z3/\∀(d:List Int),qs[c.toNat]?=some d->mY (z4 d) 8/\z5/\c.toNat < qs.length/\c.toNat=c.toNat/\∀(e0:List Int),qs[c.toNat]?=some e0->rT z1 (z2 d))/\(z3/\∀(d:List Int),qs[c.toNat]?=some d->mY (z4 d) 8/\z5/\c.toNat < qs.length/\c.toNat=c.toNat/\∀(e0:List Int),qs[c.toNat]?=some e0->rT z1 (z2 d))/\z3/\∀(d:List Int),qs[c.toNat]?=some d->mY (z4 d) 8/\z5/\c.toNat < qs.length/\c.toNat=c.toNat/\∀(e0:List Int),qs[c.toNat]?=some e0->rT z1 (z2 d))/\(decide z7=false->False/\False/\False)))):=by
 conv=>zeta
 delta UA kq7 kq6 cI rT I6;unfold wY;have hb:=aF;obtain⟨b1,b2,b3,b4,b5,b6⟩:vs.length<=1000/\os.length<=1000/\qs.length<=1000/\sg.length<=1000/\(∀q∈qs,q.length<=1000)/\qs.flatten.length<=100000:=aF;refine⟨hb,ah.2 ⟨λh=>⟨rfl,?_⟩,λh=>?_⟩⟩
 .rw[if_neg (by simpa using h)];rfl
 have h:jF (vs,os,qs,sg,()) c qs.length=0:=by simpa using h
 have hx:=iY.1 h;rw[if_pos h];refine ah.2 ⟨λg=>⟨rfl,?_⟩,λg=>⟨hb,ah.2 ⟨λw=>⟨rfl,?_⟩,λw=>⟨hb,hx.2,by omega,λd hd=>⟨rfl,?_⟩⟩⟩⟩⟩
 .rw[if_pos (by simpa using g)];rfl
 .rw[if_neg (by simpa using g),if_pos w];rfl
 rw[if_neg (by simpa using g),if_neg (by simpa using w)]
 have hc:decide (c.toNat < qs.length)=true:=by rw[eH];omega
 have hl:=b5 d (iJ hd);have e:(vs,os,qs,sg,()).2.2.1[c.toNat]?.getD []=d:=by simp[hd]
 rw[e];have key:∀d':List Int,qs[c.toNat]?=some d'->d'=d:=λd' h'=>by rw[hd]at h';cases h';rfl
 have hI:mY (d.length+1) 8:=dJ.2 (by omega)
 have hz:¬decide (c.toNat < qs.length)=false:=by rw[hc];simp
 refine⟨λ_=>?_,λq=>absurd q hz⟩
 have F:(decide (c.toNat < qs.length)=true/\c.toNat < qs.length):=⟨hc,by omega⟩
 repeat' first | exact F | (refine And.intro ?_ ?_)
 all_goals
  intro d' h';cases key d' h';exact⟨hI,hx.2,by omega,rfl,λ_ _=>⟨rfl,rfl⟩⟩
theorem Zu:aY aV.gd 103 Zt:=
 dO (cx:=aV) (n:=42) (cl:=[(158,Aq),(164,Zq),(49,QF)]) (rc:=[.data vW,.keep]) aB ⟨qK,Zr,QG,trivial⟩ Tryz.func103 λd hd=>by
  obtain⟨⟨vs,os,qs,sg,⟨⟩⟩,c,id,⟨⟩⟩:=d;exact aT (λ_=>none) (adS vs os qs sg c id hd) (by kernel_rfl)
abbrev QK:CT:={ ps:=[vW,.int .i64,.int .i64],pre:=λd=>bI d.1/\0<=d.2.2.1,res:=λd=>([],.iO [.agg [.sl (.int .i64) ((uy d.1 d.2.1 d.2.2.1).1).1,.sl (.int .i64) ((uy d.1 d.2.1 d.2.2.1).1).2.1,.sl (.sl (.int .i64)) ((uy d.1 d.2.1 d.2.2.1).1).2.2.1,.sl (.int .i64) ((uy d.1 d.2.1 d.2.2.1).1).2.2.2.1],.c (.v (.int .i64 ((uy d.1 d.2.1 d.2.2.1).2.1))),.c (.v (.int .i64 ((uy d.1 d.2.1 d.2.2.1).2.2)))]) }
abbrev ait(vs os:List Int) (qs:List (List Int)) (sg:List Int) (c n:Int):Nat->Option (St->kD):=λk=>match k with
 | 7=>some λs=>.inv { α:=Nat,can:=[(5,.cell 6 3)],slots:=λk=>[(41,.c (.v (.int .i64 k)))],res:=λk=>[(5,.row 3 (.int .i64) (kS sg ((slotL (.int .i64) s 39).take k)))],inv:=λk=>k<=(slotL (.int .i64) s 39).length,meas:=λk=>(slotL (.int .i64) s 39).length - k }
 | _=>none
theorem adT(vs os:List Int) (qs:List (List Int)) (sg:List Int) (c n:Int) (aF:QK.pre ((vs,os,qs,sg,()),c,n,())):
 let z10:=(vs,os,qs,sg,());let z9:=uy z10 c n;let z2:=[SV.agg [SC.sl I6 z9.fst.fst,SC.sl I6 z9.fst.snd.fst,SC.sl I6.sl z9.fst.snd.snd.fst,SC.sl I6 z9.fst.snd.snd.snd.fst],cI (z9.snd.fst),cI (z9.snd.snd)];let z8:=0<=c/\c < (qs.length:Int);let z6:=λ(d dR:List Int)=>List.take (nT n (d.length:Int)).toNat dR;let z5:=[SC.sl I6 vs,SC.sl I6 os,SC.sl I6.sl qs,SC.sl I6 sg];let z7:=[SC.row 2,SC.row 3,SC.row 4,SC.row 5];let z3:=λ(x:Nat) (d dR:List Int)=>kS sg (List.take x (List.drop 0 (z6 d dR)));let z1:=λ(x:Nat) (d dR:List Int)=>[g0 (ak.blk 34 z5),g0 (ak.blk 34 jQ),g0 (ak.row 3 I6 vs),g0 (ak.row 3 I6 os),g0 (ak.row 31 I6.sl qs),g0 (ak.row 3 I6 (z3 x d dR)),g0 (ak.blk 34 z7)];let z4:=λ(d F8:List Int)=>List.drop (nT n (d.length:Int)).toNat (List.take (F8.length:Int).toNat F8);bI z10/\br (!decide (jF z10 c (qs.length:Int)=(0:Int))) (rT z2 [SV.agg UA,cI 0,cI (jF z10 c (qs.length:Int))]) (bI z10/\z8/\c.toNat < qs.length/\∀(d:List Int),qs[c.toNat]?=some d->z8/\c.toNat < qs.length/\∀(dR:List Int),qs[c.toNat]?=some dR->((0:Int)<=(0:Int)/\0<=nT n (d.length:Int)/\nT n (d.length:Int)<=(dR.length:Int))/\(∃x,x<=List.length (List.drop 0 (z6 d dR))/\(cI 0=cI (x:Int)/\True)/\[g0 (ak.blk 34 z5),g0 (ak.blk 34 jQ),g0 (ak.row 3 I6 vs),g0 (ak.row 3 I6 os),g0 (ak.row 31 I6.sl qs),g0 (ak.row 3 I6 sg),g0 (ak.blk 34 z7)]=(z1 x d dR))/\∀(x:Nat),x<=List.length (List.drop 0 (z6 d dR))->br (decide ((x:Int) < (↑(List.drop 0 (z6 d dR)).length:Int))) ((0<=(x:Int)/\(x:Int) < (↑(List.drop 0 (z6 d dR)).length:Int))/\∀(F8:Int),(List.drop 0 (z6 d dR))[(x:Int).toNat]?=some F8->(z3 x d dR).length<=999999/\iR ((x:Int)+(1:Int))/\∃x',x'<=List.length (List.drop 0 (z6 d dR))/\(cI ((x:Int)+(1:Int))=cI (x':Int)/\True)/\[g0 (ak.blk 34 z5),g0 (ak.blk 34 jQ),g0 (ak.row 3 I6 vs),g0 (ak.row 3 I6 os),g0 (ak.row 31 I6.sl qs),g0 (ak.row 3 I6 (bY (kS sg (List.take x (List.drop 0 (z6 d dR)))++[F8]))),g0 (ak.blk 34 z7)]=(z1 x' d dR)/\List.length (List.drop 0 (z6 d dR)) - x' < List.length (List.drop 0 (z6 d dR)) - x) (z8/\c.toNat < qs.length/\∀(F8:List Int),qs[c.toNat]?=some F8->(0<=nT n (d.length:Int)/\nT n (d.length:Int)<=(F8.length:Int)/\(F8.length:Int)<=(F8.length:Int))/\(z4 d F8).length<=1000000/\z8/\c.toNat < qs.length/\rT z2 [SV.agg [SC.sl I6 vs,SC.sl I6 os,SC.sl I6.sl (qs.set c.toNat (z4 d F8)),SC.sl I6 (z3 x d dR)],cI (nT n (d.length:Int)),cI 0])):=by
 conv=>zeta
 delta jQ UA cI g0 rT I6 iR iN;obtain⟨hb,hn⟩:bI (vs,os,qs,sg,())/\0<=n:=aF;unfold uy;obtain⟨b1,b2,b3,b4,b5,b6⟩:vs.length<=1000/\os.length<=1000/\qs.length<=1000/\sg.length<=1000/\(∀q∈qs,q.length<=1000)/\qs.flatten.length<=100000:=id hb;refine⟨hb,ah.2 ⟨λh=>⟨rfl,?_⟩,λh=>?_⟩⟩
 .rw[if_neg (by simpa using h)];rfl
 have h:jF (vs,os,qs,sg,()) c qs.length=0:=by simpa using h
 have hx:=iY.1 h;rw[if_pos h];refine⟨hb,hx.2,by omega,λd hd=>⟨hx.2,by omega,λd1 hd1=>?_⟩⟩
 rw[hd]at hd1;cases hd1;have hl:=b5 d (iJ hd);have e:(vs,os,qs,sg,()).2.2.1[c.toNat]?.getD []=d:=by simp[hd]
 rw[e];have hm:0<=nT n (d.length:Int)/\nT n (d.length:Int)<=d.length:=by unfold nT;split<;>omega
 generalize nT n (d.length:Int)=k at hm;rw[OY];have h2:(d.take k.toNat).length<=1000:=by rw[jY];omega
 refine⟨⟨by omega,hm⟩,⟨0,by omega,⟨rfl,trivial⟩,rfl⟩,λj hj=>ah.2 ⟨λg=>?_,λg=>?_⟩⟩
 .simp only[eH]at g;refine⟨⟨by omega,by omega⟩,λx hx2=>⟨?_,aC.2 (by omega),j+1,by omega,⟨rfl,trivial⟩,?_,by omega⟩⟩
  .have:=zQ ((d.take k.toNat).take j) sg;rw[jY]at this;omega
  .have hx2:(d.take k.toNat)[j]?=some x:=hx2;rw[OH hx2]
 simp only[iH]at g;refine⟨hx.2,by omega,λd2 hd2=>?_⟩
 rw[hd]at hd2;cases hd2;have e2:List.take (d.length:Int).toNat d=d:=wo (by omega)
 rw[e2];refine⟨⟨by omega,by omega,by omega⟩,by rw[xw];omega,hx.2,by omega,rfl,?_⟩
 rw[wo (i:=j) (by omega)]
theorem Lm:aY aV.gd 166 QK:=
 dO (cx:=aV) (n:=65) (cl:=[(158,Aq),(111,KJ),(107,Gq),(49,uw)]) (rc:=[.data vW,.keep,.keep]) aB ⟨qK,DU,yX,qJ,trivial⟩ Tryz.func166 λd hd=>by
  obtain⟨⟨vs,os,qs,sg,⟨⟩⟩,c,n,⟨⟩⟩:=d;exact aT (ait vs os qs sg c n) (adT vs os qs sg c n hd) (by kernel_rfl)
abbrev Zv:CT:={ ps:=[vW,.int .i64],pre:=λd=>bI d.1,res:=λd=>([],.iO [.agg [.sl (.int .i64) ((uy d.1 d.2.1 1).1).1,.sl (.int .i64) ((uy d.1 d.2.1 1).1).2.1,.sl (.sl (.int .i64)) ((uy d.1 d.2.1 1).1).2.2.1,.sl (.int .i64) ((uy d.1 d.2.1 1).1).2.2.2.1],.c (.v (.int .i64 ((uy d.1 d.2.1 1).2.1))),.c (.v (.int .i64 ((uy d.1 d.2.1 1).2.2)))]) }
theorem adU(vs os:List Int) (qs:List (List Int)) (sg:List Int) (c:Int) (aF:Zv.pre ((vs,os,qs,sg,()),c,())):
 let z3:=uy (vs,os,qs,sg,()) c (1:Int);let z1:=z3.snd.fst;let z2:=z3.snd.snd;(bI (vs,os,qs,sg,())/\(0:Int)<=(1:Int))/\rT [SV.agg [SC.sl I6 z3.fst.fst,SC.sl I6 z3.fst.snd.fst,SC.sl I6.sl z3.fst.snd.snd.fst,SC.sl I6 z3.fst.snd.snd.snd.fst],cI z1,cI z2] [SV.agg [SC.sl I6 (z3.fst.fst,z3.fst.snd.fst,z3.fst.snd.snd.fst,z3.fst.snd.snd.snd.fst,()).fst,SC.sl I6 (z3.fst.snd.fst,z3.fst.snd.snd.fst,z3.fst.snd.snd.snd.fst,()).fst,SC.sl I6.sl (z3.fst.snd.snd.fst,z3.fst.snd.snd.snd.fst,()).fst,SC.sl I6 z3.fst.snd.snd.snd.fst],cI z1,cI z2]:=by
 conv=>zeta
 delta cI rT I6;exact⟨⟨aF,by decide⟩,rfl,rfl⟩
theorem Zw:aY aV.gd 105 Zv:=
 dO (cx:=aV) (n:=13) (cl:=[(166,QK)]) (rc:=[.data vW,.keep,.keep]) aB ⟨Lm,trivial⟩ Tryz.func105 λd hd=>by
  obtain⟨⟨vs,os,qs,sg,⟨⟩⟩,c,⟨⟩⟩:=d;exact aT (λ_=>none) (adU vs os qs sg c hd) (by kernel_rfl)
abbrev Zx:CT:={ ps:=[vW,.int .i64],pre:=λd=>bI d.1,res:=λd=>([],.iO [.agg [.sl (.int .i64) ((og d.1 d.2.1).1).1,.sl (.int .i64) ((og d.1 d.2.1).1).2.1,.sl (.sl (.int .i64)) ((og d.1 d.2.1).1).2.2.1,.sl (.int .i64) ((og d.1 d.2.1).1).2.2.2.1],.c (.v (.int .i64 ((og d.1 d.2.1).2)))]) }
theorem adV(vs os:List Int) (qs:List (List Int)) (sg:List Int) (id:Int) (aF:Zx.pre ((vs,os,qs,sg,()),id,())):
 let z3:=(vs,os,qs,sg,());let z2:=og z3 id;let z1:=[SV.agg [SC.sl I6 z2.fst.fst,SC.sl I6 z2.fst.snd.fst,SC.sl I6.sl z2.fst.snd.snd.fst,SC.sl I6 z2.fst.snd.snd.snd.fst],cI (z2.snd)];bI z3/\br (!eG z3) (rT z1 [SV.agg UA,cI 1]) (sg.length<=1000000/\br (!gQ sg id) (rT z1 kq6) (bI z3/\sg.length<=1000000/\rT z1 [SV.agg [SC.sl I6 vs,SC.sl I6 os,SC.sl I6.sl qs,SC.sl I6 (oC (bY sg) [id] false)],cI 0])):=by
 conv=>zeta
 delta UA kq6 cI rT I6;have hb:=aF;obtain⟨b1,b2,b3,b4,b5,b6⟩:vs.length<=1000/\os.length<=1000/\qs.length<=1000/\sg.length<=1000/\(∀q∈qs,q.length<=1000)/\qs.flatten.length<=100000:=aF;unfold og;refine⟨hb,ah.2 ⟨λh=>⟨rfl,?_⟩,λh=>⟨by omega,ah.2 ⟨λg=>⟨rfl,?_⟩,λg=>⟨hb,by omega,rfl,?_⟩⟩⟩⟩⟩
 .rw[if_pos (by simpa using h)];rfl
 .rw[if_neg (by simpa using h),if_pos (by simpa using g)];rfl
 .rw[if_neg (by simpa using h),if_neg (by simpa using g)]
theorem Zy:aY aV.gd 104 Zx:=
 dO (cx:=aV) (n:=25) (cl:=[(157,Zk),(165,F9),(112,KU),(49,uw)]) (rc:=[.data vW,.keep]) aB ⟨Ei,yQ,Ed,qJ,trivial⟩ Tryz.func104 λd hd=>by
  obtain⟨⟨vs,os,qs,sg,⟨⟩⟩,id,⟨⟩⟩:=d;exact aT (λ_=>none) (adV vs os qs sg id hd) (by kernel_rfl)
abbrev OI:CT:={ ps:=[vF],pre:=λd=>bnd d,res:=λd=>([],.iO [.agg [.sl (.int .i64) ((wZ d.1.1 d.1.2.1 d.1.2.2.1 d.1.2.2.2.1 d.1.2.2.2.2.1).1).1,.sl (.int .i64) ((wZ d.1.1 d.1.2.1 d.1.2.2.1 d.1.2.2.2.1 d.1.2.2.2.2.1).1).2.1,.sl (.sl (.int .i64)) ((wZ d.1.1 d.1.2.1 d.1.2.2.1 d.1.2.2.2.1 d.1.2.2.2.2.1).1).2.2.1,.sl (.int .i64) ((wZ d.1.1 d.1.2.1 d.1.2.2.1 d.1.2.2.2.1 d.1.2.2.2.2.1).1).2.2.2.1],.c (.v (.int .i64 ((wZ d.1.1 d.1.2.1 d.1.2.2.1 d.1.2.2.2.1 d.1.2.2.2.2.1).2)))]) }
abbrev ak0(vs:List VD) (ms cs:List ByteArray) (fs:List FD) (ts:List SD):Nat->Option (St->kD):=λk=>match k with
 | 6=>some λs=>.inv { α:=Nat,oz:=[(3,0,3,.int .i64)],slots:=λk=>[(28,.c (.v (.int .i64 k)))],res:=λk=>[(4,.row 3 (.int .i64) ((vs.take k).map (·.2.1)))],inv:=λk=>k<=vs.length,meas:=λk=>vs.length - k }
 | 11=>some λs=>.inv { α:=Nat,oz:=[(3,1,3,.int .i64)],slots:=λk=>[(43,.c (.v (.int .i64 k)))],res:=λk=>[(5,.row 3 (.int .i64) (List.replicate k (-1)))],inv:=λk=>k<=ms.length,meas:=λk=>ms.length - k }
 | _=>none
theorem aiu(vs:List VD) (ms cs:List ByteArray) (fs:List FD) (ts:List SD) (aF:OI.pre ((vs,ms,cs,fs,ts,()),())):
 let z8:=wZ vs ms cs fs ts;let z1:=[SV.agg [SC.sl I6 z8.fst.fst,SC.sl I6 z8.fst.snd.fst,SC.sl I6.sl z8.fst.snd.snd.fst,SC.sl I6 z8.fst.snd.snd.snd.fst],cI (z8.snd)];let z3:=[SC.sl Qk vs,SC.sl Sh.str ms,SC.sl Sh.str cs,SC.sl LU fs,SC.sl ji ts];let z5:=List.replicate (cs.length:Int).toNat [];let z4:=[SC.row (Nat.succ 0).succ.succ.succ,iN,SC.row (Nat.succ 0).succ,iN];let z9:=λ(x:Nat)=>List.take x vs;let z7:=λ(x:Nat)=>(x:Int)+(1:Int);let z2:=[SC.row (Nat.succ 0).succ.succ.succ,SC.row (Nat.succ 0).succ.succ.succ.succ,SC.row (Nat.succ 0).succ,iN];let z6:=λ(x_1:Nat)=>List.replicate x_1 (-1:Int);(vs.length<=1000000/\ms.length<=1000000/\cs.length<=1000000/\fs.length<=1000000/\ts.length<=1000000/\(∀(x:ByteArray×(oV.sl.pair Sh.unit).den),x∈fs->List.length x.snd.fst<=1000000)/\(dL fs).length<=1000000)/\br (!decide ((aG vs ms cs fs ts).fst=0)) (rT z1 [SV.agg UA,cI ((aG vs ms cs fs ts).fst)]) ((0<=(cs.length:Int)/\(cs.length:Int)<=(cs.length:Int)/\mY (cs.length:Int).toNat 24)/\(∃x,x<=vs.length/\(cI 0=cI (x:Int)/\True)/\[g0 (ak.blk 27 z3),g0 (ak.blk 34 jQ),g0 (ak.row 31 I6.sl z5),g0 (ak.blk 34 z4),g0 (ak.row 3 I6 [])]=[g0 (ak.blk 27 z3),g0 (ak.blk 34 jQ),g0 (ak.row 31 I6.sl z5),g0 (ak.blk 34 z4),g0 (ak.row 3 I6 (List.map (λx=>x.snd.fst) (List.take x vs)))])/\∀(x:Nat),x<=vs.length->br (decide ((x:Int) < (vs.length:Int))) ((0<=(x:Int)/\(x:Int) < (vs.length:Int))/\∀(d:ByteArray×(I6.pair Sh.unit).den),vs[(x:Int).toNat]?=some d->mY (List.length (List.map (λx=>x.snd.fst) (z9 x))+List.length ([d.snd.fst])) 8/\iR (z7 x)/\∃x',x'<=vs.length/\(cI (z7 x)=cI (x':Int)/\True)/\[g0 (ak.blk 27 z3),g0 (ak.blk 34 jQ),g0 (ak.row 31 I6.sl z5),g0 (ak.blk 34 z4),g0 (ak.row 3 I6 (List.map (λx=>x.snd.fst) (z9 x)++[d.snd.fst]))]=[g0 (ak.blk 27 z3),g0 (ak.blk 34 jQ),g0 (ak.row 31 I6.sl z5),g0 (ak.blk 34 z4),g0 (ak.row 3 I6 (List.map (λx=>x.snd.fst) (List.take x' vs)))]/\vs.length - x' < vs.length - x) ((∃x_1,x_1<=ms.length/\(cI 0=cI (x_1:Int)/\True)/\[g0 (ak.blk 27 z3),g0 (ak.blk 34 jQ),g0 (ak.row 31 I6.sl z5),g0 (ak.blk 34 z2),g0 (ak.row 3 I6 (List.map (λx=>x.snd.fst) (z9 x))),g0 (ak.row 3 I6 [])]=[g0 (ak.blk 27 z3),g0 (ak.blk 34 jQ),g0 (ak.row 31 I6.sl z5),g0 (ak.blk 34 z2),g0 (ak.row 3 I6 (List.map (λx=>x.snd.fst) (z9 x))),g0 (ak.row 3 I6 (z6 x_1))])/\∀(x_1:Nat),x_1<=ms.length->br (decide ((x_1:Int) < (ms.length:Int))) (mY (List.length (z6 x_1)+1) 8/\iR (z7 x_1)/\∃x',x'<=ms.length/\(cI (z7 x_1)=cI (x':Int)/\True)/\[g0 (ak.blk 27 z3),g0 (ak.blk 34 jQ),g0 (ak.row 31 I6.sl z5),g0 (ak.blk 34 z2),g0 (ak.row 3 I6 (List.map (λx=>x.snd.fst) (z9 x))),g0 (ak.row 3 I6 (List.replicate x_1 (-1:Int)++[(-1:Int)]))]=[g0 (ak.blk 27 z3),g0 (ak.blk 34 jQ),g0 (ak.row 31 I6.sl z5),g0 (ak.blk 34 z2),g0 (ak.row 3 I6 (List.map (λx=>x.snd.fst) (z9 x))),g0 (ak.row 3 I6 (List.replicate x' (-1:Int)))]/\ms.length - x' < ms.length - x_1) (rT z1 [SV.agg [SC.sl I6 (List.map (λx=>x.snd.fst) (z9 x)),SC.sl I6 (z6 x_1),SC.sl I6.sl z5,SC.sl I6 []],cI 0]))):=by
 conv=>zeta
 delta UA jQ cI g0 rT I6 iR iN;have hb:vs.length<=1000000/\ms.length<=1000000/\cs.length<=1000000:=⟨aF.1,aF.2.1,aF.2.2.1⟩;obtain⟨b1,b2,b3⟩:=hb;unfold wZ;refine⟨aF,ah.2 ⟨λh=>⟨rfl,?_⟩,λh=>?_⟩⟩
 .rw[if_neg (by simpa using h)];rfl
 rw[if_pos (by simpa using h)]
 refine⟨⟨by omega,by omega,dJ.2 (by omega)⟩,⟨0,by omega,⟨rfl,trivial⟩,rfl⟩,λk hk=>ah.2 ⟨λg=>?_,λg=>?_⟩⟩
 .simp only[eH]at g;refine⟨⟨by omega,by omega⟩,λd hd=>⟨dJ.2 ?_,aC.2 (by omega),k+1,by omega,⟨rfl,trivial⟩,?_,by omega⟩⟩
  .simp only[A99,jY,y9,LP];omega
  .have hd:vs[k]?=some d:=hd;have e:List.map (λx:VD=>x.snd.fst) (List.take (k+1) vs)=List.map (λx:VD=>x.snd.fst) (List.take k vs)++[d.2.1]:=by rw[OW,hd];simp
   rw[e]
 simp only[iH]at g;rw[wo (i:=k) (by omega)]
 refine⟨⟨0,by omega,⟨rfl,trivial⟩,rfl⟩,λj hj=>ah.2 ⟨λg2=>?_,λg2=>?_⟩⟩
 .simp only[eH]at g2;refine⟨dJ.2 ?_,aC.2 (by omega),j+1,by omega,⟨rfl,trivial⟩,?_,by omega⟩
  .simp only[Fa];omega
  .have e:List.replicate (j+1) (-1:Int)=List.replicate j (-1)++[-1]:=List.replicate_succ';rw[show List.replicate (j+1) (-1:(Sh.int IntKind.i64).den)=List.replicate j (-1)++[-1] from e]
 simp only[iH]at g2;have ej:j=ms.length:=by omega
 subst ej;exact⟨rfl,rfl⟩
theorem adW:aY aV.gd 33 OI:=
 dO (cx:=aV) (n:=52) (cl:=[(74,Gj)]) (rc:=[.data vW,.keep]) aB ⟨Bv,trivial⟩ Tryz.func33 λd hd=>by
  obtain⟨⟨vs,ms,cs,fs,ts,⟨⟩⟩,⟨⟩⟩:=d;exact aT (ak0 vs ms cs fs ts) (aiu vs ms cs fs ts hd) (by kernel_rfl)
abbrev ak1(vs os:List Int) (qs:List (List Int)) (sg:List Int):Nat->Option (St->kD):=λk=>match k with
 | 2=>some λ_=>.cut { α:=Nat,pad:=4,can:=[(2,.slot 3),(3,.cell 2 0),(4,.cell 2 1),(5,.cell 2 3)],slots:=λ_=>[(3,.c (.own 2 0))],res:=λ_=>[(2,.blk 34 [.row 3,.row 4,.v (.slice none 0 0),.row 5]),(3,.row 3 (.int .i64) (vs)),(4,.row 3 (.int .i64) (os)),(5,.row 3 (.int .i64) (sg))],inv:=λu=>u=0,meas:=λ_=>0 }
 | 3=>some λ_=>.inv { α:=Nat,oz:=[(2,2,31,.sl (.int .i64))],slots:=λk=>[(4,.c (.v (.int .i64 k)))],res:=λk=>[(6,.row 31 (.sl (.int .i64)) (qs.take k))],inv:=λk=>k<=qs.length,meas:=λk=>qs.length - k }
 | _=>none
theorem aiv(vs os:List Int) (qs:List (List Int)) (sg:List Int) (aF:uw.pre ((vs,os,qs,sg,()),())):
 let z4:=[SC.sl I6 vs,SC.sl I6 os,SC.sl I6.sl qs,SC.sl I6 sg];let z2:=[g0 (ak.blk 34 z4),g0 (ak.blk 34 jQ),g0 (ak.blk 34 [SC.row 3,SC.row 4,iN,SC.row 5]),g0 (ak.row 3 I6 vs),g0 (ak.row 3 I6 os),g0 (ak.row 3 I6 sg)];let z3:=[SC.row 3,SC.row 4,SC.row (Nat.succ 0).succ.succ.succ.succ.succ,SC.row 5];let z1:=λ(x:Nat)=>[g0 (ak.blk 34 z4),g0 (ak.blk 34 jQ),g0 (ak.blk 34 z3),g0 (ak.row 3 I6 vs),g0 (ak.row 3 I6 os),g0 (ak.row 3 I6 sg),g0 (ak.row 31 I6.sl (List.take x qs))];((vs.length<=1000000/\(os.length<=1000000/\(sg.length<=1000000/\(∃v,v=0/\qP/\sm z2)/\∃v,v=0/\qP/\sm z2)/\sg.length<=1000000/\∃v,v=0/\qP/\sm z2)/\os.length<=1000000/\sg.length<=1000000/\∃v,v=0/\qP/\sm z2)/\vs.length<=1000000/\os.length<=1000000/\sg.length<=1000000/\∃v,v=0/\qP/\sm z2)/\∀(v:Nat),v=0->(∃x,x<=qs.length/\(cI 0=cI (x:Int)/\True)/\[g0 (ak.blk 34 z4),g0 (ak.blk 34 jQ),g0 (ak.blk 34 z3),g0 (ak.row 3 I6 vs),g0 (ak.row 3 I6 os),g0 (ak.row 3 I6 sg),g0 (ak.row 31 I6.sl [])]=(z1 x))/\∀(x:Nat),x<=qs.length->br (decide ((x:Int) < (qs.length:Int))) ((0<=(x:Int)/\(x:Int) < (qs.length:Int))/\∀(d:List Int),qs[(x:Int).toNat]?=some d->d.length<=1000000/\mY (List.length (List.take x qs)+List.length ([d])) 24/\iR ((x:Int)+(1:Int))/\∃x',x'<=qs.length/\(cI ((x:Int)+(1:Int))=cI (x':Int)/\True)/\[g0 (ak.blk 34 z4),g0 (ak.blk 34 jQ),g0 (ak.blk 34 z3),g0 (ak.row 3 I6 vs),g0 (ak.row 3 I6 os),g0 (ak.row 3 I6 sg),g0 (ak.row 31 I6.sl (List.take x qs++[d]))]=(z1 x')/\qs.length - x' < qs.length - x) ([ak.row 3 I6 vs,ak.row 3 I6 os,ak.row 31 I6.sl qs,ak.row 3 I6 sg]=[ak.row 3 I6 vs,ak.row 3 I6 os,ak.row 31 I6.sl (List.take x qs),ak.row 3 I6 sg]/\bF.one (SV.agg [SC.row 0,SC.row 1,SC.row 2,SC.row 3])=bF.one (SV.agg kq5)):=by
 conv=>zeta
 delta jQ qP kq5 cI g0 sm I6 iR iN;obtain⟨b1,b2,b3,b4,b5,b6⟩:vs.length<=1000/\os.length<=1000/\qs.length<=1000/\sg.length<=1000/\(∀q∈qs,q.length<=1000)/\qs.flatten.length<=100000:=aF;refine⟨?_,λu hu=>⟨⟨0,by omega,⟨rfl,trivial⟩,rfl⟩,λk hk=>ah.2 ⟨λg=>?_,λg=>?_⟩⟩⟩
 .repeat' first | exact⟨0,rfl,⟨rfl,trivial⟩,rfl⟩ | (refine And.intro ?_ ?_) | omega
 .simp only[eH]at g;refine⟨⟨by omega,by omega⟩,λd hd=>⟨?_,dJ.2 ?_,aC.2 (by omega),k+1,by omega,⟨rfl,trivial⟩,?_,by omega⟩⟩
  .have:=b5 d (iJ hd);omega
  .simp only[jY,y9,LP];omega
  .have hd:qs[k]?=some d:=hd;have e:qs.take (k+1)=qs.take k++[d]:=by rw[OW,hd];simp
   rw[e]
 simp only[iH]at g;rw[wo (i:=k) (by omega)]
 exact⟨rfl,rfl⟩
theorem adX:aY aV.gd 65 uw:=
 dO (cx:=aV) (n:=34) (cl:=[(131,Zi)]) (rc:=[]) aB ⟨Zj,trivial⟩ Tryz.func65 λd hd=>by
  obtain⟨⟨vs,os,qs,sg,⟨⟩⟩,⟨⟩⟩:=d;exact aT (ak1 vs os qs sg) (aiv vs os qs sg hd) (by kernel_rfl)
end
end Go.Proofs.YtjhenjhcbcalpaaGreatDoor
