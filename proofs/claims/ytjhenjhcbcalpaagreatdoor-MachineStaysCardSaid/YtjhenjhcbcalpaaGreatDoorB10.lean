/- Part 10 of the proof. Conditions: the rows'. -/
import Derived.Test.YtjhenjhcbcalpaaGreatDoorB9
set_option linter.unusedSimpArgs false
set_option linter.unusedVariables false
set_option maxRecDepth 1000000
set_option maxHeartbeats 8000000
namespace Go.Proofs.YtjhenjhcbcalpaaGreatDoor
open Go Go.ni
noncomputable section
variable {l:List Int}{qs:List (List Int)}{k:Nat}
abbrev yB:Sh:=.pair (.sl (.int .i64)) (.pair (.sl (.int .i64)) (.pair (.sl (.sl (.int .i64))) (.pair (.sl (.int .i64)) .unit)))
abbrev MD:=List Int×List Int×List (List Int)×List Int×Unit
def OB:MD->Prop
 | (vs,os,qs,sg,_)=>vs.length<=8/\os.length<=4/\qs.length<=4/\SS sg/\(∀v∈vs,cO v=true)/\(∀o∈os,-1<=o)/\(∀x∈sg++qs.flatten,0<=x)/\(sg++qs.flatten).Nodup
open Classical in
def dM(m:MD):Bool:=decide (OB m)
open Classical in
theorem dQ{m:MD}:dM m=true↔OB m:=by unfold dM;rw[A82]
theorem OC{m:MD} (h:¬OB m):dM m=false:=A96.2 λq=>h (dQ.1 q)
def bI(m:MD):Prop:=m.1.length<=1000/\m.2.1.length<=1000/\m.2.2.1.length<=1000/\m.2.2.2.1.length<=1000/\(∀q∈m.2.2.1,q.length<=1000)/\m.2.2.1.flatten.length<=100000
theorem nK{n:Int}:cO n=true↔-2147483648<=n/\n<=2147483647:=by
 unfold cO;simp
theorem GZ:qY l=true↔SS l:=by unfold qY;rw[A82]
theorem WU(qs:List (List Int)) (k:Nat):(qs.take k).flatten.length<=qs.flatten.length:=by
 have:qs.flatten=(qs.take k).flatten++(qs.drop k).flatten:=by rw[<-List.flatten_append,Xf]
 rw[this,kT];omega
theorem WV{d:List Int} (h:qs[k]?=some d):(qs.take (k+1)).flatten=(qs.take k).flatten++d:=by
 rw[RD,h];simp
theorem abC(h:l.Nodup){d:Int} (hd:l[k]?=some d):d∉l.take k:=by
 intro hm;obtain⟨j,hj⟩:=Hu hm;rw[wP]at hj;split at hj
 .rename_i jY;obtain⟨h1,e1⟩:=eG.1 hj;obtain⟨h2,e2⟩:=eG.1 hd;have:=aiR.1 h j k h1 h2 jY;exact this (e1.trans e2.symm)
 .cases hj
theorem Rk(h:(l.take k).Nodup){d:Int} (hd:l[k]?=some d) (hn:d∉l.take k):(l.take (k+1)).Nodup:=by
 rw[RD,hd,ai0,List.nodup_append];refine⟨h,by simp,λa ha b hb=>?_⟩
 simp at hb;subst hb;rintro rfl;exact hn ha
theorem Es:∀(l o:List Int),(l.foldl (λo x=>if dU o x then o else CO o x) o).length<=o.length+l.length
 | [],o=>by simp
 | x :: l,o=>by
   simp only[L6,yE];split
   .have:=Es l o;omega
   .have:=Es l (CO o x);rw[N8]at this;omega
abbrev Jz:CT:={ ps:=[.sl (.int .i64)],pre:=λd=>d.1.length<=1000000,res:=λd=>([.row 3 (.int .i64) (d.1)],.one (.c (.row 0))) }
theorem agB(l:List Int) (aH:Jz.pre (l,())):
 let z1:=List.replicate (l.length:Int).toNat (0:Int);((0:Int)<=(l.length:Int)/\(l.length:Int)<=(l.length:Int)/\oH (l.length:Int).toNat (8:Nat))/\[au.row (3:TypeId) Au l]=[au.row (3:TypeId) Au (List.take (List.length z1) (l)++List.drop (List.length (l)) z1)]/\bg.one Jl=bg.one Jl:=by
 conv=>zeta
 delta Au Jl;have hp:l.length<=1000000:=aH;refine⟨⟨by omega,by omega,fO.2 (by omega)⟩,?_,rfl⟩
 simp
theorem Ba:aW aT.gd 107 Jz:=
 fG (cx:=aT) (n:=11) (cl:=[]) (rc:=[]) aB trivial Tryz.func107 λd hd=>by
  obtain⟨l,⟨⟩⟩:=d;exact aQ (λ_=>none) (agB l hd) (by kernel_rfl)
abbrev abD:CT:={ ps:=[yB],pre:=λd=>bI d.1,res:=λd=>([],vB (dM d.1)) }
abbrev alI(vs os:List Int) (qs:List (List Int)) (sg:List Int):Nat->Option (St->kS):=λk=>match k with
 | 4=>some λ_=>.inv { α:=Nat,slots:=λk=>[(37,.c (.v (.int .i64 k)))],res:=λ_=>[],inv:=λk=>k<=vs.length/\∀j < k,∀v,vs[j]?=some v->cO v=true,meas:=λk=>vs.length - k }
 | 10=>some λ_=>.inv { α:=Nat,slots:=λk=>[(51,.c (.v (.int .i64 k)))],res:=λ_=>[],inv:=λk=>k<=os.length/\∀j < k,∀v,os[j]?=some v->-1<=v,meas:=λk=>os.length - k }
 | 17=>some λ_=>.inv { α:=Nat,drop:=[60],slots:=λk=>[(64,.c (.v (.int .i64 k))),(7,.c (.row 1))],res:=λk=>[(1,.row 3 (.int .i64) (sg++(qs.take k).flatten))],inv:=λk=>k<=qs.length,meas:=λk=>qs.length - k }
 | 22=>some λ_=>.inv { α:=Nat,wu:=[1],slots:=λk=>[(74,.c (.v (.int .i64 k)))],res:=λ_=>[],inv:=λk=>k<=(sg++qs.flatten).length/\(∀j < k,∀v,(sg++qs.flatten)[j]?=some v->0<=v)/\((sg++qs.flatten).take k).Nodup,meas:=λk=>(sg++qs.flatten).length - k }
 | _=>none
theorem agC(vs os:List Int) (qs:List (List Int)) (sg:List Int) (aH:abD.pre ((vs,os,qs,sg,()),())):
 let z13:=dM (vs,os,qs,sg,());let z10:=qB z13 false;let z3:=λ(x:Nat)=>(x<=vs.length/\∀(j:Nat),j < x->∀(v:Int),vs[j]?=some v->cO v=true);let z12:=λ(x:Nat)=>cI 0=cI (x:Int)/\True;let z8:=[SC.sl I6 vs,SC.sl I6 os,SC.sl I6.sl qs,SC.sl I6 sg];let z7:=[g0 (au.blk 34 z8)];let y7:=λ(x:Nat)=>(x:Int)+(1:Int);let z9:=λ(x x':Nat)=>cI (y7 x)=cI (x':Int)/\True;let z5:=λ(x:Nat)=>(x<=os.length/\∀(j:Nat),j < x->∀(v:Int),os[j]?=some v->(-1)<=v);let z11:=λ(x:Nat)=>sg++(List.take x qs).flatten;let z2:=λ(x:Nat)=>[g0 (au.blk 34 z8),g0 (au.row 3 I6 (z11 x))];let mQ:=sg++qs.flatten;let z6:=λ(x_1:Nat)=>(∀(j:Nat),j < x_1->∀(v:Int),mQ[j]?=some v->0<=v);let z1:=λ(x:Nat)=>x<=mQ.length/\(z6 x)/\(List.take x mQ).Nodup;let z4:=[g0 (au.blk 34 z8),g0 au.gone];((!(decide (8 < (vs.length:Int)) || decide (4 < (os.length:Int)) || decide (4 < (qs.length:Int))))=true->sg.length<=1000000)/\br (decide (8 < (vs.length:Int)) || decide (4 < (os.length:Int)) || decide (4 < (qs.length:Int)) || !qY sg) z10 ((∃x,(z3 x)/\(z12 x)/\sm z7)/\∀(x:Nat),(z3 x)->br (decide ((x:Int) < (vs.length:Int))) ((0<=(x:Int)/\(x:Int) < (vs.length:Int))/\∀(d:Int),vs[(x:Int).toNat]?=some d->br (decide (d < (-2147483648)) || decide (2147483647 < d)) z10 (iR (y7 x)/\∃x',(z3 x')/\(z9 x x')/\sm z7/\vs.length - x' < vs.length - x)) ((∃x,(z5 x)/\(z12 x)/\sm z7)/\∀(x:Nat),(z5 x)->br (decide ((x:Int) < (os.length:Int))) ((0<=(x:Int)/\(x:Int) < (os.length:Int))/\∀(d:Int),os[(x:Int).toNat]?=some d->br (decide (d < (-1))) z10 (iR (y7 x)/\∃x',(z5 x')/\(z9 x x')/\sm z7/\os.length - x' < os.length - x)) (sg.length<=1000000/\(∃x,x<=qs.length/\(cI 0=cI (x:Int)/\SV.c (SC.row 1)=SV.c (SC.row 1)/\True)/\[g0 (au.blk 34 z8),g0 (au.row 3 I6 sg)]=(z2 x))/\∀(x:Nat),x<=qs.length->br (decide ((x:Int) < (qs.length:Int))) ((0<=(x:Int)/\(x:Int) < (qs.length:Int))/\∀(d:List Int),qs[(x:Int).toNat]?=some d->oH (List.length ((z11 x))+List.length (d)) 8/\iR (y7 x)/\∃x',x'<=qs.length/\(cI (y7 x)=cI (x':Int)/\SV.c (SC.row 1)=SV.c (SC.row 1)/\True)/\[g0 (au.blk 34 z8),g0 (au.row 3 I6 ((z11 x)++d))]=(z2 x')/\qs.length - x' < qs.length - x) ((∃x,(z1 x)/\(z12 x)/\sm z4)/\∀(x_1:Nat),x_1<=mQ.length/\(z6 x_1)/\(List.take x_1 mQ).Nodup->br (decide ((x_1:Int) < (↑(z11 x).length:Int))) ((0<=(x_1:Int)/\(x_1:Int) < (↑(z11 x).length:Int))/\∀(d:Int),(z11 x)[(x_1:Int).toNat]?=some d->((!decide (d < 0))=true->(0:Int)<=(0:Int)/\0<=(x_1:Int)/\(x_1:Int)<=(↑(z11 x).length:Int))/\((!decide (d < 0))=true->(List.drop 0 (List.take (x_1:Int).toNat (z11 x))).length<=4611686018427387904)/\br (decide (d < 0) || dU (List.drop 0 (List.take (x_1:Int).toNat (z11 x))) d) z10 (iR (y7 x_1)/\∃x',(z1 x')/\(z9 x_1 x')/\sm z4/\mQ.length - x' < mQ.length - x_1)) (qB z13 true))))):=by
 conv=>zeta
 delta cI g0 qB sm I6 iR;obtain⟨b1,b2,b3,b4,b5,b6⟩:vs.length<=1000/\os.length<=1000/\qs.length<=1000/\sg.length<=1000/\(∀q∈qs,q.length<=1000)/\qs.flatten.length<=100000:=aH;have fF:¬OB (vs,os,qs,sg,())->([]:List Go.ni.au)=[]/\bg.one (SV.c (SC.v (Value.bool (dM (vs,os,qs,sg,())))))=bg.one (SV.c (SC.v (Value.bool false))):=λq=>⟨rfl,by rw[OC q]⟩
 refine⟨λ_=>by omega,ah.2 ⟨λh=>fF λq=>?_,λh=>?_⟩⟩
 .obtain⟨q1,q2,q3,q4,_⟩:=q;rw[GZ.2 q4]at h;simp at h;omega
 simp only[oV,Di,gW]at h;obtain⟨⟨⟨h1,h2⟩,h3⟩,h4⟩:=h;have h4:SS sg:=GZ.1 h4;refine⟨⟨0,⟨by omega,λj hj=>by omega⟩,⟨rfl,trivial⟩,rfl⟩,λk hk=>ah.2 ⟨λg=>?_,λg=>?_⟩⟩
 .simp only[dW]at g;refine⟨⟨by omega,by omega⟩,λd hd=>ah.2 ⟨λg2=>fF λq=>?_,λg2=>⟨ay.2 (by omega),k+1,⟨by omega,λj hj v hv=>?_⟩,⟨rfl,trivial⟩,rfl,by omega⟩⟩⟩
  .have:=nK.1 (q.2.2.2.2.1 d (iM hd));simp at g2;omega
  .by_cases jY:j=k
   .subst jY;have hd:vs[j]?=some d:=hd;rw[hd]at hv;cases hv;rw[nK];simp at g2;omega
   .exact hk.2 j (by omega) v hv
 simp only[gW]at g;have v1:∀v∈vs,cO v=true:=λv hv=>by
  obtain⟨j,hj⟩:=Hu hv;exact hk.2 j (by have:=(eG.1 hj).1;omega) v hj
 refine⟨⟨0,⟨by omega,λj hj=>by omega⟩,⟨rfl,trivial⟩,rfl⟩,λk2 hk2=>ah.2 ⟨λg=>?_,λg=>?_⟩⟩
 .simp only[dW]at g;refine⟨⟨by omega,by omega⟩,λd hd=>ah.2 ⟨λg2=>fF λq=>?_,λg2=>⟨ay.2 (by omega),k2+1,⟨by omega,λj hj v hv=>?_⟩,⟨rfl,trivial⟩,rfl,by omega⟩⟩⟩
  .have:=q.2.2.2.2.2.1 d (iM hd);simp at g2;omega
  .by_cases jY:j=k2
   .subst jY;have hd:os[j]?=some d:=hd;rw[hd]at hv;cases hv;simp at g2;omega
   .exact hk2.2 j (by omega) v hv
 simp only[gW]at g;have v2:∀v∈os,-1<=v:=λv hv=>by
  obtain⟨j,hj⟩:=Hu hv;exact hk2.2 j (by have:=(eG.1 hj).1;omega) v hj
 refine⟨by omega,⟨0,by omega,⟨rfl,rfl,trivial⟩,by simp⟩,λk3 hk3=>ah.2 ⟨λg=>?_,λg=>?_⟩⟩
 .simp only[dW]at g;refine⟨⟨by omega,by omega⟩,λd hd=>⟨fO.2 ?_,ay.2 (by omega),k3+1,by omega,⟨rfl,rfl,trivial⟩,?_,by omega⟩⟩
  .have:=WU qs k3;have:=b5 d (iM hd);rw[kT];omega
  .have hd:qs[k3]?=some d:=hd;rw[WV hd,Dj]
 simp only[gW]at g;have ek:qs.take k3=qs:=zi (by omega)
 rw[ek];have bl:(sg++qs.flatten).length<=101000:=by rw[kT];omega
 refine⟨⟨0,⟨by omega,λj hj=>by omega,by simp⟩,⟨rfl,trivial⟩,rfl⟩,λk4 hk4=>ah.2 ⟨λg=>?_,λg=>?_⟩⟩
 .simp only[dW]at g;refine⟨⟨by omega,by omega⟩,λd hd=>⟨λ_=>⟨by omega,by omega,by omega⟩,λ_=>by simp only[RI,lZ];omega,ah.2 ⟨λg2=>fF λq=>?_,λg2=>⟨ay.2 (by omega),k4+1,⟨by omega,λj hj v hv=>?_,?_⟩,⟨rfl,trivial⟩,rfl,by omega⟩⟩⟩⟩
  .have hd:(sg++qs.flatten)[k4]?=some d:=hd;have n0:=q.2.2.2.2.2.2.1 d (iM hd);have n1:=abC q.2.2.2.2.2.2.2 hd;have n2:dU ((sg++qs.flatten).take k4) d=false:=pO.2 n1;rw[RI,show((k4:Int)).toNat=k4 from rfl,n2]at g2
   simp at g2;omega
  all_goals
   rw[RI,show((k4:Int)).toNat=k4 from rfl,oV,gW]at g2
   have hd:(sg++qs.flatten)[k4]?=some d:=hd
  .by_cases jY:j=k4
   .subst jY;rw[hd]at hv;cases hv;omega
   .exact hk4.2.1 j (by omega) v hv
  .exact Rk hk4.2.2 hd (pO.1 g2.2)
 simp only[gW]at g;refine⟨rfl,?_⟩;rw[dQ.2];refine⟨by omega,by omega,by omega,h4,v1,v2,λx hx=>?_,?_⟩
 .obtain⟨j,hj⟩:=Hu hx;exact hk4.2.1 j (by have:=(eG.1 hj).1;omega) x hj
 .have:=hk4.2.2
  rwa [zi (by omega)]at this
theorem G5:aW aT.gd 157 abD:=
 fG (cx:=aT) (n:=89) (cl:=[(107,Jz),(192,ctV),(98,Gu)]) (rc:=[]) aB ⟨Ba,Oq,Aw,trivial⟩ Tryz.func157 λd hd=>by
  obtain⟨⟨vs,os,qs,sg,⟨⟩⟩,⟨⟩⟩:=d;exact aQ (alI vs os qs sg) (agC vs os qs sg hd) (by kernel_rfl)
abbrev wK:CT:={ ps:=[.sl (.int .i64),.sl (.int .i64)],pre:=λd=>d.1.length<=1000000,res:=λd=>([],vB (decide (d.1=d.2.1))) }
abbrev Rl:CT:={ ps:=[yB,yB],pre:=λd=>bI d.1,res:=λd=>([],vB (decide (d.1=d.2.1))) }
theorem Rn(k:Nat):uX (λj=>decide (j < k)) k=λj=>decide (j < k+1):=by
 funext j;unfold uX
 by_cases h:j=k
 .subst h;simp
 .simp[h];omega
theorem OD{d:List Int} (h:qs[k]?=some d):(qs.take k++List.replicate (qs.length - k) []).set k d=qs.take (k+1)++List.replicate (qs.length - (k+1)) []:=by
 obtain⟨hk,_⟩:=eG.1 h;rw[adH _ _ (by rw[lZ];omega),lZ,show k - min k qs.length=0 by omega,show qs.length - k=(qs.length - (k+1))+1 by omega,Xw,Xx,RD,h]
 simp
theorem Bc(h:k<=qs.length):(qs.take k++List.replicate (qs.length - k) []).length=qs.length:=by simp;omega
theorem OE(h:¬k < qs.length) (h':k<=qs.length):qs.take k++List.replicate (qs.length - k) []=qs:=by
 have:k=qs.length:=by omega
 subst this;simp
theorem Ro:I5=λj=>decide (j < 0):=by funext j;simp
abbrev abE:CT:={ ps:=[yB],pre:=λd=>bI d.1,res:=λd=>([.row 3 (.int .i64) (d.1.1),.row 3 (.int .i64) (d.1.2.1),.deep 31 (.sl (.int .i64)) (d.1.2.2.1) 3 (.int .i64) 0 (λj=>decide (j < d.1.2.2.1.length)) [],.row 3 (.int .i64) (d.1.2.2.2.1)],.one (.agg [(.row 0),(.row 1),(.row 2),(.row 3)])) }
abbrev aoS(vs os:List Int) (qs:List (List Int)) (sg:List Int):Nat->Option (St->kS):=λk=>match k with
 | 2=>some λ_=>.cut { α:=Nat,pad:=5,can:=[(2,.slot 3),(3,.cell 2 0),(4,.cell 2 1),(5,.cell 2 2),(6,.cell 2 3)],slots:=λ_=>[(3,.c (.own 2 0))],res:=λ_=>[(2,.blk 34 [.row 3,.row 4,.row 5,.row 6]),(3,.row 3 (.int .i64) (vs)),(4,.row 3 (.int .i64) (os)),(5,.row 31 (.sl (.int .i64)) (List.replicate qs.length [])),(6,.row 3 (.int .i64) (sg))],inv:=λu=>u=0,meas:=λ_=>0 }
 | 3=>some λ_=>.inv { α:=Nat,deep:=[(5,3,.int .i64,0)],slots:=λk=>[(23,.c (.v (.int .i64 k)))],res:=λk=>[(5,.deep 31 (.sl (.int .i64)) (qs.take k++List.replicate (qs.length - k) []) 3 (.int .i64) 0 (λj=>decide (j < k)) [])],inv:=λk=>k<=qs.length,meas:=λk=>qs.length - k }
 | _=>none
abbrev nM:=[iN,iN,iN,iN]
abbrev kq7:=[SC.row 3,SC.row 4,SC.row 5,SC.row 6]
abbrev yC:Prop:=SV.c (SC.own 2 0)=SV.c (SC.own 2 0)/\True
theorem alJ(vs os:List Int) (qs:List (List Int)) (sg:List Int) (aH:abE.pre ((vs,os,qs,sg,()),())):
 let z9:=0<=(qs.length:Int)/\(qs.length:Int)<=(qs.length:Int)/\oH (qs.length:Int).toNat 24;let z10:=[SC.sl I6 vs,SC.sl I6 os,SC.sl I6.sl qs,SC.sl I6 sg];let z7:=[g0 (au.blk 34 z10),g0 (au.blk 34 nM),g0 (au.blk 34 kq7),g0 (au.row 3 I6 vs),g0 (au.row 3 I6 os),g0 (au.row 31 I6.sl (List.replicate (qs.length:Int).toNat [])),g0 (au.row 3 I6 sg)];let z12:=List.replicate qs.length [];let z8:=[g0 (au.blk 34 z10),g0 (au.blk 34 nM),g0 (au.blk 34 kq7),g0 (au.row 3 I6 vs),g0 (au.row 3 I6 os),g0 (au.row 31 I6.sl z12),g0 (au.row 3 I6 sg)];let z5:=(∃v,v=0/\yC/\z7=z8);let z3:=(sg.length<=1000000/\z5/\∃v,v=0/\yC/\z7=z8);let z4:=(z9/\sg.length<=1000000/\∃v,v=0/\yC/\z7=z8);let z1:=(os.length<=1000000/\z3/\sg.length<=1000000/\∃v,v=0/\yC/\z7=z8);let z2:=(os.length<=1000000/\z4/\sg.length<=1000000/\z9/\∃v,v=0/\yC/\z7=z8);let z11:=λ(x:Nat)=>List.take x qs++List.replicate (qs.length - x) [];let z6:=λ(x:Nat)=>[g0 (au.blk 34 z10),g0 (au.blk 34 nM),g0 (au.blk 34 kq7),g0 (au.row 3 I6 vs),g0 (au.row 3 I6 os),g0 (au.deep 31 I6.sl (z11 x) 3 I6 0 (λj=>decide (j < x)) []),g0 (au.row 3 I6 sg)];((vs.length<=1000000/\(os.length<=1000000/\(z9/\z3/\sg.length<=1000000/\∃v,v=0/\yC/\z7=z8)/\(sg.length<=1000000/\(z9/\z5/\∃v,v=0/\yC/\z7=z8)/\z9/\∃v,v=0/\yC/\z7=z8)/\z4/\sg.length<=1000000/\z9/\∃v,v=0/\yC/\z7=z8)/\(z9/\z1/\os.length<=1000000/\sg.length<=1000000/\∃v,v=0/\yC/\z7=z8)/\z2/\z9/\os.length<=1000000/\sg.length<=1000000/\∃v,v=0/\yC/\z7=z8)/\(z9/\(vs.length<=1000000/\z1/\os.length<=1000000/\sg.length<=1000000/\∃v,v=0/\yC/\z7=z8)/\vs.length<=1000000/\os.length<=1000000/\sg.length<=1000000/\∃v,v=0/\yC/\z7=z8)/\(vs.length<=1000000/\z2/\z9/\os.length<=1000000/\sg.length<=1000000/\∃v,v=0/\yC/\z7=z8)/\z9/\vs.length<=1000000/\os.length<=1000000/\sg.length<=1000000/\∃v,v=0/\yC/\z7=z8)/\∀(v:Nat),v=0->(∃x,x<=qs.length/\(cI 0=cI (x:Int)/\True)/\[g0 (au.blk 34 z10),g0 (au.blk 34 nM),g0 (au.blk 34 kq7),g0 (au.row 3 I6 vs),g0 (au.row 3 I6 os),g0 (au.deep 31 I6.sl z12 3 I6 0 I5 []),g0 (au.row 3 I6 sg)]=(z6 x))/\∀(x:Nat),x<=qs.length->br (decide ((x:Int) < (qs.length:Int))) ((0<=(x:Int)/\(x:Int) < (qs.length:Int))/\∀(d:List Int),qs[(x:Int).toNat]?=some d->d.length<=1000000/\(0<=(x:Int)/\(x:Int) < (↑(z11 x).length:Int))/\(x:Int).toNat < (z11 x).length/\∀(e0:List Int),(z11 x)[(x:Int).toNat]?=some e0->iR ((x:Int)+(1:Int))/\∃x',x'<=qs.length/\(cI ((x:Int)+(1:Int))=cI (x':Int)/\True)/\[g0 (au.blk 34 z10),g0 (au.blk 34 nM),g0 (au.blk 34 kq7),g0 (au.row 3 I6 vs),g0 (au.row 3 I6 os),g0 (au.deep 31 I6.sl ((z11 x).set (x:Int).toNat (d)) 3 I6 0 (uX (λj=>decide (j < x)) (x:Int).toNat) []),g0 (au.row 3 I6 sg)]=(z6 x')/\qs.length - x' < qs.length - x) ([au.row 3 I6 vs,au.row 3 I6 os,au.deep 31 I6.sl qs 3 I6 0 (λj=>decide (j < List.length (vs,os,qs,sg,()).snd.snd.fst)) [],au.row 3 I6 sg]=[au.row 3 I6 vs,au.row 3 I6 os,au.deep 31 I6.sl (z11 x) 3 I6 0 (λj=>decide (j < x)) [],au.row 3 I6 sg]/\bg.one (SV.agg [SC.row 0,SC.row 1,SC.row 2,SC.row 3])=bg.one (SV.agg [SC.row 0,SC.row (Nat.succ 0),SC.row (Nat.succ 0).succ,SC.row (Nat.succ 0).succ.succ])):=by
 conv=>zeta
 delta nM kq7 yC cI g0 I6 iR iN;obtain⟨b1,b2,b3,b4,b5,b6⟩:vs.length<=1000/\os.length<=1000/\qs.length<=1000/\sg.length<=1000/\(∀q∈qs,q.length<=1000)/\qs.flatten.length<=100000:=aH;refine⟨?_,λu hu=>⟨⟨0,by omega,⟨rfl,trivial⟩,?_⟩,λk hk=>ah.2 ⟨λg=>?_,λg=>?_⟩⟩⟩
 .have hA:oH (qs.length:Int).toNat 24:=fO.2 (by omega)
  repeat' first | exact⟨0,rfl,⟨rfl,trivial⟩,rfl⟩ | (refine And.intro ?_ ?_) | omega | exact hA
 .rw[Ro];simp
 .simp only[dW]at g;refine⟨⟨by omega,by omega⟩,λd hd=>⟨?_,⟨by omega,?_⟩,?_,λe0 he=>⟨ay.2 (by omega),k+1,by omega,⟨rfl,trivial⟩,?_,by omega⟩⟩⟩
  .have:=b5 d (iM hd);omega
  .rw[Bc hk];omega
  .rw[Bc hk];show k < _;omega
  .have hd:qs[k]?=some d:=hd;have e1:(qs.take k++List.replicate (qs.length - k) []).set (k:Int).toNat d=qs.take (k+1)++List.replicate (qs.length - (k+1)) []:=OD hd;have e2:uX (λj=>decide (j < k)) (k:Int).toNat=λj=>decide (j < k+1):=Rn k
   rw[e2];exact tK (λz=>_ :: _ :: _ :: _ :: _ :: (([]:Go.ni.Gd),au.deep 31 (Sh.int IntKind.i64).sl z 3 (Sh.int IntKind.i64) 0 (λj=>decide (j < k+1)) []) :: _) e1
 simp only[gW]at g;have ek:k=qs.length:=by omega
 subst ek;exact⟨by rw[OE (by omega) hk],rfl⟩
theorem agD:aW aT.gd 49 abE:=
 fG (cx:=aT) (n:=36) (cl:=[(107,Jz)]) (rc:=[]) aB ⟨Ba,trivial⟩ Tryz.func49 λd hd=>by
  obtain⟨⟨vs,os,qs,sg,⟨⟩⟩,⟨⟩⟩:=d;exact aQ (aoS vs os qs sg) (alJ vs os qs sg hd) (by kernel_rfl)
abbrev Dz:CT:={ ps:=[yB],pre:=λd=>bI d.1,res:=λd=>([.row 3 (.int .i64) (d.1.1),.row 3 (.int .i64) (d.1.2.1),.row 31 (.sl (.int .i64)) (d.1.2.2.1),.row 3 (.int .i64) (d.1.2.2.2.1)],.one (.agg [(.row 0),(.row 1),(.row 2),(.row 3)])) }
abbrev alK(vs os:List Int) (qs:List (List Int)) (sg:List Int):Nat->Option (St->kS):=λk=>match k with
 | 2=>some λ_=>.cut { α:=Nat,pad:=5,can:=[(2,.slot 3),(3,.cell 2 0),(4,.cell 2 1),(5,.cell 2 2),(6,.cell 2 3)],slots:=λ_=>[(3,.c (.own 2 0))],res:=λ_=>[(2,.blk 34 [.row 3,.row 4,.row 5,.row 6]),(3,.row 3 (.int .i64) (vs)),(4,.row 3 (.int .i64) (os)),(5,.row 31 (.sl (.int .i64)) (List.replicate qs.length [])),(6,.row 3 (.int .i64) (sg))],inv:=λu=>u=0,meas:=λ_=>0 }
 | 3=>some λ_=>.inv { α:=Nat,slots:=λk=>[(23,.c (.v (.int .i64 k)))],res:=λk=>[(5,.row 31 (.sl (.int .i64)) (qs.take k++List.replicate (qs.length - k) []))],inv:=λk=>k<=qs.length,meas:=λk=>qs.length - k }
 | _=>none
theorem agF(vs os:List Int) (qs:List (List Int)) (sg:List Int) (aH:Dz.pre ((vs,os,qs,sg,()),())):
 let z9:=0<=(qs.length:Int)/\(qs.length:Int)<=(qs.length:Int)/\oH (qs.length:Int).toNat 24;let z10:=[SC.sl I6 vs,SC.sl I6 os,SC.sl I6.sl qs,SC.sl I6 sg];let z7:=[g0 (au.blk 34 z10),g0 (au.blk 34 nM),g0 (au.blk 34 kq7),g0 (au.row 3 I6 vs),g0 (au.row 3 I6 os),g0 (au.row 31 I6.sl (List.replicate (qs.length:Int).toNat [])),g0 (au.row 3 I6 sg)];let z8:=[g0 (au.blk 34 z10),g0 (au.blk 34 nM),g0 (au.blk 34 kq7),g0 (au.row 3 I6 vs),g0 (au.row 3 I6 os),g0 (au.row 31 I6.sl (List.replicate qs.length [])),g0 (au.row 3 I6 sg)];let z5:=(∃v,v=0/\yC/\z7=z8);let z3:=(sg.length<=1000000/\z5/\∃v,v=0/\yC/\z7=z8);let z4:=(z9/\sg.length<=1000000/\∃v,v=0/\yC/\z7=z8);let z1:=(os.length<=1000000/\z3/\sg.length<=1000000/\∃v,v=0/\yC/\z7=z8);let z2:=(os.length<=1000000/\z4/\sg.length<=1000000/\z9/\∃v,v=0/\yC/\z7=z8);let z11:=λ(x:Nat)=>List.take x qs++List.replicate (qs.length - x) [];let z6:=λ(x:Nat)=>[g0 (au.blk 34 z10),g0 (au.blk 34 nM),g0 (au.blk 34 kq7),g0 (au.row 3 I6 vs),g0 (au.row 3 I6 os),g0 (au.row 31 I6.sl (z11 x)),g0 (au.row 3 I6 sg)];((vs.length<=1000000/\(os.length<=1000000/\(z9/\z3/\sg.length<=1000000/\∃v,v=0/\yC/\z7=z8)/\(sg.length<=1000000/\(z9/\z5/\∃v,v=0/\yC/\z7=z8)/\z9/\∃v,v=0/\yC/\z7=z8)/\z4/\sg.length<=1000000/\z9/\∃v,v=0/\yC/\z7=z8)/\(z9/\z1/\os.length<=1000000/\sg.length<=1000000/\∃v,v=0/\yC/\z7=z8)/\z2/\z9/\os.length<=1000000/\sg.length<=1000000/\∃v,v=0/\yC/\z7=z8)/\(z9/\(vs.length<=1000000/\z1/\os.length<=1000000/\sg.length<=1000000/\∃v,v=0/\yC/\z7=z8)/\vs.length<=1000000/\os.length<=1000000/\sg.length<=1000000/\∃v,v=0/\yC/\z7=z8)/\(vs.length<=1000000/\z2/\z9/\os.length<=1000000/\sg.length<=1000000/\∃v,v=0/\yC/\z7=z8)/\z9/\vs.length<=1000000/\os.length<=1000000/\sg.length<=1000000/\∃v,v=0/\yC/\z7=z8)/\∀(v:Nat),v=0->(∃x,x<=qs.length/\(cI 0=cI (x:Int)/\True)/\z8=(z6 x))/\∀(x:Nat),x<=qs.length->br (decide ((x:Int) < (qs.length:Int))) ((0<=(x:Int)/\(x:Int) < (qs.length:Int))/\∀(d:List Int),qs[(x:Int).toNat]?=some d->d.length<=1000000/\(0<=(x:Int)/\(x:Int) < (↑(z11 x).length:Int))/\(x:Int).toNat < (z11 x).length/\iR ((x:Int)+(1:Int))/\∃x',x'<=qs.length/\(cI ((x:Int)+(1:Int))=cI (x':Int)/\True)/\[g0 (au.blk 34 z10),g0 (au.blk 34 nM),g0 (au.blk 34 kq7),g0 (au.row 3 I6 vs),g0 (au.row 3 I6 os),g0 (au.row 31 I6.sl ((z11 x).set (x:Int).toNat (d))),g0 (au.row 3 I6 sg)]=(z6 x')/\qs.length - x' < qs.length - x) ([au.row 3 I6 vs,au.row 3 I6 os,au.row 31 I6.sl qs,au.row 3 I6 sg]=[au.row 3 I6 vs,au.row 3 I6 os,au.row 31 I6.sl (z11 x),au.row 3 I6 sg]/\bg.one (SV.agg [SC.row 0,SC.row 1,SC.row 2,SC.row 3])=bg.one (SV.agg [SC.row 0,SC.row (Nat.succ 0),SC.row (Nat.succ 0).succ,SC.row (Nat.succ 0).succ.succ])):=by
 conv=>zeta
 delta nM kq7 yC cI g0 I6 iR iN;obtain⟨b1,b2,b3,b4,b5,b6⟩:vs.length<=1000/\os.length<=1000/\qs.length<=1000/\sg.length<=1000/\(∀q∈qs,q.length<=1000)/\qs.flatten.length<=100000:=aH;refine⟨?_,λu hu=>⟨⟨0,by omega,⟨rfl,trivial⟩,?_⟩,λk hk=>ah.2 ⟨λg=>?_,λg=>?_⟩⟩⟩
 .have hA:oH (qs.length:Int).toNat 24:=fO.2 (by omega)
  repeat' first | exact⟨0,rfl,⟨rfl,trivial⟩,rfl⟩ | (refine And.intro ?_ ?_) | omega | exact hA
 .simp
 .simp only[dW]at g;refine⟨⟨by omega,by omega⟩,λd hd=>⟨?_,⟨by omega,?_⟩,?_,⟨ay.2 (by omega),k+1,by omega,⟨rfl,trivial⟩,?_,by omega⟩⟩⟩
  .have:=b5 d (iM hd);omega
  .rw[Bc hk];omega
  .rw[Bc hk];show k < _;omega
  .have hd:qs[k]?=some d:=hd;have e1:(qs.take k++List.replicate (qs.length - k) []).set (k:Int).toNat d=qs.take (k+1)++List.replicate (qs.length - (k+1)) []:=OD hd;exact tK (λz=>_ :: _ :: _ :: _ :: _ :: (([]:Go.ni.Gd),au.row 31 (Sh.int IntKind.i64).sl z) :: _) e1
 simp only[gW]at g;have ek:k=qs.length:=by omega
 subst ek;exact⟨by rw[OE (by omega) hk],rfl⟩
theorem sW:aW aT.gd 49 Dz:=
 fG (cx:=aT) (n:=36) (cl:=[(107,Jz)]) (rc:=[]) aB ⟨Ba,trivial⟩ Tryz.func49 λd hd=>by
  obtain⟨⟨vs,os,qs,sg,⟨⟩⟩,⟨⟩⟩:=d;exact⟨alK vs os qs sg,cast (by kernel_rfl) (agF vs os qs sg hd)⟩
def zM:MD:=([],[],[],[],())
def jd(m:MD) (i n:Int):Int:=if dM m=false then 1 else if i < 0\/n<=i then 11 else 0
def yD(m:MD) (x:Int):Int×Int:=if jd m x m.1.length=0 then(m.1[x.toNat]?.getD 0,0) else(0,jd m x m.1.length)
def writeM(m:MD) (x v:Int):MD×Int:=if jd m x m.1.length=0 then(if cO v=true then((m.1.set x.toNat v,m.2),0) else(zM,2)) else(zM,jd m x m.1.length)
def iK(m:MD) (i id frm to:Int):MD×Int:=if jd m i m.2.1.length=0 then(if id < 0 then(zM,2) else if m.2.1[i.toNat]?.getD 0=frm then((m.1,m.2.1.set i.toNat to,m.2.2),0) else(zM,30)) else(zM,jd m i m.2.1.length)
def lT(m:MD) (i:Int):Bool:=decide (jd m i m.2.1.length=0) && decide (m.2.1[i.toNat]?.getD 0 = -1)
def kH(m:MD) (id:Int):Bool:=m.2.2.1.any (λq=>dU q id) || dU m.2.2.2.1 id
theorem dD{m:MD}{i n:Int}:jd m i n=0↔dM m=true/\0<=i/\i < n:=by
 unfold jd
 by_cases h:dM m=true
 .rw[if_neg (by simp[h])]
  split
  .simp[h];omega
  .simp[h];omega
 .rw[Bool.not_eq_true]at h;rw[if_pos h,h];simp
abbrev DC:CT:={ ps:=[yB,.int .i64,.int .i64],pre:=λd=>bI d.1,res:=λd=>([],.one (.c (.v (.int .i64 (jd d.1 d.2.1 d.2.2.1))))) }
theorem agG(vs os:List Int) (qs:List (List Int)) (sg:List Int) (i n:Int) (aH:DC.pre ((vs,os,qs,sg,()),i,n,())):
 let z2:=(vs,os,qs,sg,());let z1:=jd z2 i n;bI z2/\br (!dM z2) (qI z1 (1:Int)) (br (decide (i < 0) || decide (n<=i)) (qI z1 (11:Int)) (qI z1 (0:Int))):=by
 conv=>zeta
 delta qI;unfold jd;refine⟨aH,ah.2 ⟨λh=>⟨rfl,?_⟩,λh=>ah.2 ⟨λg=>⟨rfl,?_⟩,λg=>⟨rfl,?_⟩⟩⟩⟩
 .rw[if_pos (by simpa using h)]
 .rw[if_neg (by simpa using h),if_pos (by simpa using g)]
 .rw[if_neg (by simpa using h),if_neg (by simpa using g)]
theorem sZ:aW aT.gd 158 DC:=
 fG (cx:=aT) (n:=17) (cl:=[(157,abD)]) (rc:=[]) aB ⟨G5,trivial⟩ Tryz.func158 λd hd=>by
  obtain⟨⟨vs,os,qs,sg,⟨⟩⟩,i,n,⟨⟩⟩:=d;exact aQ (λ_=>none) (agG vs os qs sg i n hd) (by kernel_rfl)
abbrev agH:CT:={ ps:=[yB,.int .i64],pre:=λd=>bI d.1,res:=λd=>([],.iO [.c (.v (.int .i64 ((yD d.1 d.2.1).1))),.c (.v (.int .i64 ((yD d.1 d.2.1).2)))]) }
theorem alM(vs os:List Int) (qs:List (List Int)) (sg:List Int) (x:Int) (aH:agH.pre ((vs,os,qs,sg,()),x,())):
 let z3:=(vs,os,qs,sg,());let z2:=yD z3 x;let z1:=[cI (z2.fst),cI (z2.snd)];bI z3/\br (!decide (jd z3 x (vs.length:Int)=(0:Int))) (rT z1 [cI 0,cI (jd z3 x (vs.length:Int))]) ((0<=x/\x < (vs.length:Int))/\∀(d:Int),vs[x.toNat]?=some d->rT z1 [cI d,cI 0]):=by
 conv=>zeta
 delta cI rT;unfold yD;refine⟨aH,ah.2 ⟨λh=>⟨rfl,?_⟩,λh=>?_⟩⟩
 .rw[if_neg (by simpa using h)]
 .have h:jd (vs,os,qs,sg,()) x vs.length=0:=by simpa using h
  have hx:=dD.1 h;refine⟨hx.2,λd hd=>⟨rfl,?_⟩⟩
  rw[if_pos h];simp[hd]
theorem Ur:aW aT.gd 96 agH:=
 fG (cx:=aT) (n:=21) (cl:=[(158,DC)]) (rc:=[]) aB ⟨sZ,trivial⟩ Tryz.func96 λd hd=>by
  obtain⟨⟨vs,os,qs,sg,⟨⟩⟩,x,⟨⟩⟩:=d;exact aQ (λ_=>none) (alM vs os qs sg x hd) (by kernel_rfl)
abbrev alN:CT:={ ps:=[yB,.int .i64,.int .i64],pre:=λd=>bI d.1,res:=λd=>([],.iO [.agg [.sl (.int .i64) ((writeM d.1 d.2.1 d.2.2.1).1).1,.sl (.int .i64) ((writeM d.1 d.2.1 d.2.2.1).1).2.1,.sl (.sl (.int .i64)) ((writeM d.1 d.2.1 d.2.2.1).1).2.2.1,.sl (.int .i64) ((writeM d.1 d.2.1 d.2.2.1).1).2.2.2.1],.c (.v (.int .i64 ((writeM d.1 d.2.1 d.2.2.1).2)))]) }
abbrev Xm:=[SC.sl I6 [],SC.sl I6 [],SC.sl I6.sl [],SC.sl I6 []]
abbrev kq4:=[SV.agg [SC.sl I6 [],SC.sl I6 [],SC.sl I6.sl [],SC.sl I6 []],cI 2]
theorem agJ(vs os:List Int) (qs:List (List Int)) (sg:List Int) (x v:Int) (aH:alN.pre ((vs,os,qs,sg,()),x,v,())):
 let z3:=(vs,os,qs,sg,());let z2:=writeM z3 x v;let z1:=[SV.agg [SC.sl I6 z2.fst.fst,SC.sl I6 z2.fst.snd.fst,SC.sl I6.sl z2.fst.snd.snd.fst,SC.sl I6 z2.fst.snd.snd.snd.fst],cI (z2.snd)];bI z3/\br (!decide (jd z3 x (vs.length:Int)=(0:Int))) (rT z1 [SV.agg Xm,cI (jd z3 x (vs.length:Int))]) (br (decide (v < (-2147483648)) || decide (2147483647 < v)) (rT z1 kq4) (bI z3/\(0<=x/\x < (vs.length:Int))/\x.toNat < vs.length/\rT z1 [SV.agg [SC.sl I6 (vs.set x.toNat v),SC.sl I6 os,SC.sl I6.sl qs,SC.sl I6 sg],cI 0])):=by
 conv=>zeta
 delta Xm kq4 cI rT I6;unfold writeM;refine⟨aH,ah.2 ⟨λh=>⟨rfl,?_⟩,λh=>?_⟩⟩
 .rw[if_neg (by simpa using h)];rfl
 .have h:jd (vs,os,qs,sg,()) x vs.length=0:=by simpa using h
  have hx:=dD.1 h;rw[if_pos h];refine ah.2 ⟨λg=>⟨rfl,?_⟩,λg=>⟨aH,hx.2,by omega,rfl,?_⟩⟩
  .rw[if_neg (by rw[nK];simp at g;omega)];rfl
  .rw[if_pos (by rw[nK];simp at g;omega)]
theorem abH:aW aT.gd 100 alN:=
 fG (cx:=aT) (n:=35) (cl:=[(158,DC),(49,Dz)]) (rc:=[.data yB,.keep]) aB ⟨sZ,sW,trivial⟩ Tryz.func100 λd hd=>by
  obtain⟨⟨vs,os,qs,sg,⟨⟩⟩,x,v,⟨⟩⟩:=d;exact aQ (λ_=>none) (agJ vs os qs sg x v hd) (by kernel_rfl)
abbrev agK:CT:={ ps:=[yB,.int .i64],pre:=λd=>bI d.1,res:=λd=>([],vB (lT d.1 d.2.1)) }
theorem alO(vs os:List Int) (qs:List (List Int)) (sg:List Int) (i:Int) (aH:agK.pre ((vs,os,qs,sg,()),i,())):
 let z2:=(vs,os,qs,sg,());let z1:=jd z2 i (os.length:Int)=(0:Int);bI z2/\(decide z1=true->0<=i/\i < (os.length:Int))/\∀(d:Int),(decide z1=true->os[i.toNat]?=some d)->qB (lT z2 i) (decide z1 && decide (d=(-1))):=by
 conv=>zeta
 delta qB;unfold lT;refine⟨aH,λh=>(dD.1 (by simpa using h)).2,λd hd=>⟨rfl,?_⟩⟩
 by_cases h:jd (vs,os,qs,sg,()) i os.length=0
 .have:=hd (by simpa using h)
  simp[this]
 .simp[h]
theorem Us:aW aT.gd 87 agK:=
 fG (cx:=aT) (n:=20) (cl:=[(158,DC)]) (rc:=[]) aB ⟨sZ,trivial⟩ Tryz.func87 λd hd=>by
  obtain⟨⟨vs,os,qs,sg,⟨⟩⟩,i,⟨⟩⟩:=d;exact aQ (λ_=>none) (alO vs os qs sg i hd) (by kernel_rfl)
abbrev Ut:CT:={ ps:=[yB,.int .i64,.int .i64,.int .i64,.int .i64],pre:=λd=>bI d.1,res:=λd=>([],.iO [.agg [.sl (.int .i64) ((iK d.1 d.2.1 d.2.2.1 d.2.2.2.1 d.2.2.2.2.1).1).1,.sl (.int .i64) ((iK d.1 d.2.1 d.2.2.1 d.2.2.2.1 d.2.2.2.2.1).1).2.1,.sl (.sl (.int .i64)) ((iK d.1 d.2.1 d.2.2.1 d.2.2.2.1 d.2.2.2.2.1).1).2.2.1,.sl (.int .i64) ((iK d.1 d.2.1 d.2.2.1 d.2.2.2.1 d.2.2.2.2.1).1).2.2.2.1],.c (.v (.int .i64 ((iK d.1 d.2.1 d.2.2.1 d.2.2.2.1 d.2.2.2.2.1).2)))]) }
abbrev kq3:=[SV.agg [SC.sl I6 [],SC.sl I6 [],SC.sl I6.sl [],SC.sl I6 []],cI 30]
theorem agL(vs os:List Int) (qs:List (List Int)) (sg:List Int) (i id frm to:Int) (aH:Ut.pre ((vs,os,qs,sg,()),i,id,frm,to,())):
 let z4:=(vs,os,qs,sg,());let z2:=iK z4 i id frm to;let z1:=[SV.agg [SC.sl I6 z2.fst.fst,SC.sl I6 z2.fst.snd.fst,SC.sl I6.sl z2.fst.snd.snd.fst,SC.sl I6 z2.fst.snd.snd.snd.fst],cI (z2.snd)];let z3:=0<=i/\i < (os.length:Int);bI z4/\br (!decide (jd z4 i (os.length:Int)=(0:Int))) (rT z1 [SV.agg Xm,cI (jd z4 i (os.length:Int))]) (br (decide (id < 0)) (rT z1 kq4) (z3/\∀(d:Int),os[i.toNat]?=some d->br (!decide (d=frm)) (rT z1 kq3) (bI z4/\z3/\i.toNat < os.length/\rT z1 [SV.agg [SC.sl I6 vs,SC.sl I6 (os.set i.toNat to),SC.sl I6.sl qs,SC.sl I6 sg],cI 0]))):=by
 conv=>zeta
 delta Xm kq4 kq3 cI rT I6;unfold iK;refine⟨aH,ah.2 ⟨λh=>⟨rfl,?_⟩,λh=>?_⟩⟩
 .rw[if_neg (by simpa using h)];rfl
 .have h:jd (vs,os,qs,sg,()) i os.length=0:=by simpa using h
  have hx:=dD.1 h;rw[if_pos h];refine ah.2 ⟨λg=>⟨rfl,?_⟩,λg=>⟨hx.2,λd hd=>?_⟩⟩
  .rw[if_pos (by simpa using g)];rfl
  .rw[if_neg (by simpa using g)]
   have e:(vs,os,qs,sg,()).2.1[i.toNat]?.getD 0=d:=by simp[hd]
   rw[e];refine ah.2 ⟨λg2=>⟨rfl,?_⟩,λg2=>⟨aH,hx.2,by omega,rfl,?_⟩⟩
   .rw[if_neg (by simpa using g2)];rfl
   .rw[if_pos (by simpa using g2)]
theorem OG:aW aT.gd 163 Ut:=
 fG (cx:=aT) (n:=43) (cl:=[(158,DC),(49,Dz)]) (rc:=[.data yB,.keep]) aB ⟨sZ,sW,trivial⟩ Tryz.func163 λd hd=>by
  obtain⟨⟨vs,os,qs,sg,⟨⟩⟩,i,id,frm,to,⟨⟩⟩:=d;exact aQ (λ_=>none) (agL vs os qs sg i id frm to hd) (by kernel_rfl)
abbrev abI:CT:={ ps:=[yB,.int .i64,.int .i64],pre:=λd=>bI d.1,res:=λd=>([],.iO [.agg [.sl (.int .i64) ((iK d.1 d.2.1 d.2.2.1 (-1) d.2.2.1).1).1,.sl (.int .i64) ((iK d.1 d.2.1 d.2.2.1 (-1) d.2.2.1).1).2.1,.sl (.sl (.int .i64)) ((iK d.1 d.2.1 d.2.2.1 (-1) d.2.2.1).1).2.2.1,.sl (.int .i64) ((iK d.1 d.2.1 d.2.2.1 (-1) d.2.2.1).1).2.2.2.1],.c (.v (.int .i64 ((iK d.1 d.2.1 d.2.2.1 (-1) d.2.2.1).2)))]) }
theorem agN(vs os:List Int) (qs:List (List Int)) (sg:List Int) (i id:Int) (aH:abI.pre ((vs,os,qs,sg,()),i,id,())):
 let z2:=iK (vs,os,qs,sg,()) i id (-1:Int) id;let z1:=z2.snd;bI (vs,os,qs,sg,())/\rT [SV.agg [SC.sl I6 z2.fst.fst,SC.sl I6 z2.fst.snd.fst,SC.sl I6.sl z2.fst.snd.snd.fst,SC.sl I6 z2.fst.snd.snd.snd.fst],cI z1] [SV.agg [SC.sl I6 (z2.fst.fst,z2.fst.snd.fst,z2.fst.snd.snd.fst,z2.fst.snd.snd.snd.fst,()).fst,SC.sl I6 (z2.fst.snd.fst,z2.fst.snd.snd.fst,z2.fst.snd.snd.snd.fst,()).fst,SC.sl I6.sl (z2.fst.snd.snd.fst,z2.fst.snd.snd.snd.fst,()).fst,SC.sl I6 z2.fst.snd.snd.snd.fst],cI z1]:=by
 conv=>zeta
 delta cI rT I6;exact⟨aH,rfl,rfl⟩
theorem abJ:aW aT.gd 101 abI:=
 fG (cx:=aT) (n:=15) (cl:=[(163,Ut)]) (rc:=[.data yB,.keep]) aB ⟨OG,trivial⟩ Tryz.func101 λd hd=>by
  obtain⟨⟨vs,os,qs,sg,⟨⟩⟩,i,id,⟨⟩⟩:=d;exact aQ (λ_=>none) (agN vs os qs sg i id hd) (by kernel_rfl)
abbrev abK:CT:={ ps:=[yB,.int .i64,.int .i64],pre:=λd=>bI d.1,res:=λd=>([],.iO [.agg [.sl (.int .i64) ((iK d.1 d.2.1 d.2.2.1 d.2.2.1 (-1)).1).1,.sl (.int .i64) ((iK d.1 d.2.1 d.2.2.1 d.2.2.1 (-1)).1).2.1,.sl (.sl (.int .i64)) ((iK d.1 d.2.1 d.2.2.1 d.2.2.1 (-1)).1).2.2.1,.sl (.int .i64) ((iK d.1 d.2.1 d.2.2.1 d.2.2.1 (-1)).1).2.2.2.1],.c (.v (.int .i64 ((iK d.1 d.2.1 d.2.2.1 d.2.2.1 (-1)).2)))]) }
theorem agO(vs os:List Int) (qs:List (List Int)) (sg:List Int) (i id:Int) (aH:abK.pre ((vs,os,qs,sg,()),i,id,())):
 let z2:=iK (vs,os,qs,sg,()) i id id (-1:Int);let z1:=z2.snd;bI (vs,os,qs,sg,())/\rT [SV.agg [SC.sl I6 z2.fst.fst,SC.sl I6 z2.fst.snd.fst,SC.sl I6.sl z2.fst.snd.snd.fst,SC.sl I6 z2.fst.snd.snd.snd.fst],cI z1] [SV.agg [SC.sl I6 (z2.fst.fst,z2.fst.snd.fst,z2.fst.snd.snd.fst,z2.fst.snd.snd.snd.fst,()).fst,SC.sl I6 (z2.fst.snd.fst,z2.fst.snd.snd.fst,z2.fst.snd.snd.snd.fst,()).fst,SC.sl I6.sl (z2.fst.snd.snd.fst,z2.fst.snd.snd.snd.fst,()).fst,SC.sl I6 z2.fst.snd.snd.snd.fst],cI z1]:=by
 conv=>zeta
 delta cI rT I6;exact⟨aH,rfl,rfl⟩
theorem abL:aW aT.gd 102 abK:=
 fG (cx:=aT) (n:=15) (cl:=[(163,Ut)]) (rc:=[.data yB,.keep]) aB ⟨OG,trivial⟩ Tryz.func102 λd hd=>by
  obtain⟨⟨vs,os,qs,sg,⟨⟩⟩,i,id,⟨⟩⟩:=d;exact aQ (λ_=>none) (agO vs os qs sg i id hd) (by kernel_rfl)
abbrev abM:CT:={ ps:=[yB,.int .i64],pre:=λd=>bI d.1,res:=λd=>([],vB (kH d.1 d.2.1)) }
abbrev alP(vs os:List Int) (qs:List (List Int)) (sg:List Int) (id:Int):Nat->Option (St->kS):=λk=>match k with
 | 2=>some λ_=>.inv { α:=Nat,slots:=λk=>[(10,.c (.v (.int .i64 k)))],res:=λk=>[],inv:=λk=>k<=(qs).length/\∀j < k,∀q,qs[j]?=some q->dU q id=false,meas:=λk=>(qs).length - k }
 | _=>none
theorem agP(vs os:List Int) (qs:List (List Int)) (sg:List Int) (id:Int) (aH:abM.pre ((vs,os,qs,sg,()),id,())):
 let z1:=λ(x:Nat)=>(x<=qs.length/\∀(j:Nat),j < x->∀(q:List Int),qs[j]?=some q->dU q id=false);let z2:=[g0 (au.blk 34 [SC.sl I6 vs,SC.sl I6 os,SC.sl I6.sl qs,SC.sl I6 sg])];let z3:=kH (vs,os,qs,sg,()) id;(∃x,(z1 x)/\(cI 0=cI (x:Int)/\True)/\sm z2)/\∀(x:Nat),(z1 x)->br (decide ((x:Int) < (qs.length:Int))) ((0<=(x:Int)/\(x:Int) < (qs.length:Int))/\∀(d:List Int),qs[(x:Int).toNat]?=some d->d.length<=4611686018427387904/\br (dU d id) (qB z3 true) (iR ((x:Int)+(1:Int))/\∃x',(z1 x')/\(cI ((x:Int)+(1:Int))=cI (x':Int)/\True)/\sm z2/\qs.length - x' < qs.length - x)) (sg.length<=1000000/\qB z3 (dU sg id)):=by
 conv=>zeta
 delta cI g0 qB sm I6 iR;obtain⟨b1,b2,b3,b4,b5,b6⟩:vs.length<=1000/\os.length<=1000/\qs.length<=1000/\sg.length<=1000/\(∀q∈qs,q.length<=1000)/\qs.flatten.length<=100000:=aH;refine⟨⟨0,⟨by omega,λj hj=>by omega⟩,⟨rfl,trivial⟩,rfl⟩,λk hk=>ah.2 ⟨λg=>?_,λg=>?_⟩⟩
 .simp only[dW]at g;refine⟨⟨by omega,by omega⟩,λd hd=>⟨?_,ah.2 ⟨λg2=>⟨rfl,?_⟩,λg2=>⟨ay.2 (by omega),k+1,⟨by omega,λj hj q hq=>?_⟩,⟨rfl,trivial⟩,rfl,by omega⟩⟩⟩⟩
  .have:=b5 d (iM hd);omega
  .have:kH (vs,os,qs,sg,()) id=true:=by
    unfold kH;rw[DJ];exact .inl (Xq.2 ⟨d,iM hd,g2⟩)
   rw[this]
  .by_cases jY:j=k
   .subst jY;have hd:qs[j]?=some d:=hd;rw[hd]at hq;cases hq;exact g2
   .exact hk.2 j (by omega) q hq
 simp only[gW]at g;have:kH (vs,os,qs,sg,()) id=dU sg id:=by
  unfold kH;have:(qs.any λq=>dU q id)=false:=by
   rw[Vg];intro q hq;obtain⟨j,hj⟩:=Hu hq;rw[hk.2 j (by have:=(eG.1 hj).1;omega) q hj];simp
  simp[this]
 exact⟨by omega,rfl,by rw[this]⟩
theorem abN:aW aT.gd 164 abM:=
 fG (cx:=aT) (n:=22) (cl:=[(98,Gu),(165,Jm)]) (rc:=[]) aB ⟨Aw,AA,trivial⟩ Tryz.func164 λd hd=>by
  obtain⟨⟨vs,os,qs,sg,⟨⟩⟩,id,⟨⟩⟩:=d;exact aQ (alP vs os qs sg id) (agP vs os qs sg id hd) (by kernel_rfl)
def tu(m:MD) (c id:Int):MD×Int:=if jd m c m.2.2.1.length=0 then(if id < 0 then(zM,2) else if kH m id=true then(zM,30) else((m.1,m.2.1,m.2.2.1.set c.toNat (m.2.2.1[c.toNat]?.getD []++[id]),m.2.2.2),0)) else(zM,jd m c m.2.2.1.length)
def jV(sg l:List Int):List Int:=l.foldl (λs x=>bM (s++[x])) sg
theorem Rq{sg:List Int}{d:Int} (h:l[k]?=some d):jV sg (l.take (k+1))=bM (jV sg (l.take k)++[d]):=by
 unfold jV;rw[RD,h];simp
theorem CX:∀(l sg:List Int),(jV sg l).length<=sg.length+l.length
 | [],sg=>by simp[jV]
 | x :: l,sg=>by
   have:=CX l (bM (sg++[x]));have h2:=Es (sg++[x]) [];have e:jV sg (x :: l)=jV (bM (sg++[x])) l:=rfl;rw[e];unfold bM at *;simp only[kT,yE,Pg]at *;omega
def tN(m:MD) (c n:Int):MD×Int×Int:=if jd m c m.2.2.1.length=0 then((m.1,m.2.1,m.2.2.1.set c.toNat ((m.2.2.1[c.toNat]?.getD []).drop (jD n ((m.2.2.1[c.toNat]?.getD []).length:Int)).toNat),jV m.2.2.2.1 ((m.2.2.1[c.toNat]?.getD []).take (jD n ((m.2.2.1[c.toNat]?.getD []).length:Int)).toNat),()),jD n ((m.2.2.1[c.toNat]?.getD []).length:Int),0) else(zM,0,jd m c m.2.2.1.length)
def lg(m:MD) (id:Int):MD×Int:=if dM m=false then(zM,1) else if dU m.2.2.2.1 id=false then(zM,30) else((m.1,m.2.1,m.2.2.1,nZ (bM m.2.2.2.1) [id] false,()),0)
def qj(vs:List VD) (ms cs:List ByteArray) (fs:List FD) (ts:List SD):MD×Int:=if(aG vs ms cs fs ts).1=0 then((vs.map (·.2.1),List.replicate ms.length (-1),List.replicate cs.length [],[],()),0) else(zM,(aG vs ms cs fs ts).1)
abbrev abO:CT:={ ps:=[yB,.int .i64,.int .i64],pre:=λd=>bI d.1,res:=λd=>([],.iO [.agg [.sl (.int .i64) ((tu d.1 d.2.1 d.2.2.1).1).1,.sl (.int .i64) ((tu d.1 d.2.1 d.2.2.1).1).2.1,.sl (.sl (.int .i64)) ((tu d.1 d.2.1 d.2.2.1).1).2.2.1,.sl (.int .i64) ((tu d.1 d.2.1 d.2.2.1).1).2.2.2.1],.c (.v (.int .i64 ((tu d.1 d.2.1 d.2.2.1).2)))]) }
theorem agQ(vs os:List Int) (qs:List (List Int)) (sg:List Int) (c id:Int) (aH:abO.pre ((vs,os,qs,sg,()),c,id,())):
 let z8:=(vs,os,qs,sg,());let z6:=tu z8 c id;let z1:=[SV.agg [SC.sl I6 z6.fst.fst,SC.sl I6 z6.fst.snd.fst,SC.sl I6.sl z6.fst.snd.snd.fst,SC.sl I6 z6.fst.snd.snd.snd.fst],cI (z6.snd)];let z5:=0<=c/\c < (qs.length:Int);let z7:=c.toNat < qs.length;let z3:=decide z7=true/\c.toNat < qs.length;let z4:=λ(d:List Int)=>List.length (d)+List.length ([id]);let z2:=λ(d:List Int)=>[SV.agg [SC.sl I6 vs,SC.sl I6 os,SC.sl I6.sl (qs.set c.toNat ((d++[id]))),SC.sl I6 sg],cI 0];bI z8/\br (!decide (jd z8 c (qs.length:Int)=(0:Int))) (rT z1 [SV.agg Xm,cI (jd z8 c (qs.length:Int))]) (br (decide (id < 0)) (rT z1 kq4) (bI z8/\br (kH z8 id) (rT z1 kq3) (bI z8/\z5/\c.toNat < qs.length/\∀(d:List Int),qs[c.toNat]?=some d->false=false/\(decide z7=true->(z3/\∀(d:List Int),qs[c.toNat]?=some d->oH (z4 d) 8/\z5/\c.toNat < qs.length/\c.toNat=c.toNat/\∀(e0:List Int),qs[c.toNat]?=some e0->rT z1 (z2 d))/\(z3/\∀(d:List Int),qs[c.toNat]?=some d->oH (z4 d) 8/\z5/\c.toNat < qs.length/\c.toNat=c.toNat/\∀(e0:List Int),qs[c.toNat]?=some e0->rT z1 (z2 d))/\z3/\∀(d:List Int),qs[c.toNat]?=some d->oH (z4 d) 8/\z5/\c.toNat < qs.length/\c.toNat=c.toNat/\∀(e0:List Int),qs[c.toNat]?=some e0->rT z1 (z2 d))/\(decide z7=false->False/\False/\False)))):=by
 conv=>zeta
 delta Xm kq4 kq3 cI rT I6;unfold tu;have hb:=aH;obtain⟨b1,b2,b3,b4,b5,b6⟩:vs.length<=1000/\os.length<=1000/\qs.length<=1000/\sg.length<=1000/\(∀q∈qs,q.length<=1000)/\qs.flatten.length<=100000:=aH;refine⟨hb,ah.2 ⟨λh=>⟨rfl,?_⟩,λh=>?_⟩⟩
 .rw[if_neg (by simpa using h)];rfl
 have h:jd (vs,os,qs,sg,()) c qs.length=0:=by simpa using h
 have hx:=dD.1 h;rw[if_pos h];refine ah.2 ⟨λg=>⟨rfl,?_⟩,λg=>⟨hb,ah.2 ⟨λw=>⟨rfl,?_⟩,λw=>⟨hb,hx.2,by omega,λd hd=>⟨rfl,?_⟩⟩⟩⟩⟩
 .rw[if_pos (by simpa using g)];rfl
 .rw[if_neg (by simpa using g),if_pos w];rfl
 rw[if_neg (by simpa using g),if_neg (by simpa using w)]
 have hc:decide (c.toNat < qs.length)=true:=by rw[dW];omega
 have hl:=b5 d (iM hd);have e:(vs,os,qs,sg,()).2.2.1[c.toNat]?.getD []=d:=by simp[hd]
 rw[e];have key:∀d':List Int,qs[c.toNat]?=some d'->d'=d:=λd' h'=>by rw[hd]at h';cases h';rfl
 have hI:oH (d.length+1) 8:=fO.2 (by omega)
 have hz:¬decide (c.toNat < qs.length)=false:=by rw[hc];simp
 refine⟨λ_=>?_,λq=>absurd q hz⟩
 have F:(decide (c.toNat < qs.length)=true/\c.toNat < qs.length):=⟨hc,by omega⟩
 repeat' first | exact F | (refine And.intro ?_ ?_)
 all_goals
  intro d' h';cases key d' h';exact⟨hI,hx.2,by omega,rfl,λ_ _=>⟨rfl,rfl⟩⟩
theorem abP:aW aT.gd 103 abO:=
 fG (cx:=aT) (n:=42) (cl:=[(158,DC),(164,abM),(49,abE)]) (rc:=[.data yB,.keep]) aB ⟨sZ,abN,agD,trivial⟩ Tryz.func103 λd hd=>by
  obtain⟨⟨vs,os,qs,sg,⟨⟩⟩,c,id,⟨⟩⟩:=d;exact aQ (λ_=>none) (agQ vs os qs sg c id hd) (by kernel_rfl)
abbrev Uu:CT:={ ps:=[yB,.int .i64,.int .i64],pre:=λd=>bI d.1/\0<=d.2.2.1,res:=λd=>([],.iO [.agg [.sl (.int .i64) ((tN d.1 d.2.1 d.2.2.1).1).1,.sl (.int .i64) ((tN d.1 d.2.1 d.2.2.1).1).2.1,.sl (.sl (.int .i64)) ((tN d.1 d.2.1 d.2.2.1).1).2.2.1,.sl (.int .i64) ((tN d.1 d.2.1 d.2.2.1).1).2.2.2.1],.c (.v (.int .i64 ((tN d.1 d.2.1 d.2.2.1).2.1))),.c (.v (.int .i64 ((tN d.1 d.2.1 d.2.2.1).2.2)))]) }
abbrev alQ(vs os:List Int) (qs:List (List Int)) (sg:List Int) (c n:Int):Nat->Option (St->kS):=λk=>match k with
 | 7=>some λs=>.inv { α:=Nat,can:=[(5,.cell 6 3)],slots:=λk=>[(41,.c (.v (.int .i64 k)))],res:=λk=>[(5,.row 3 (.int .i64) (jV sg ((slotL (.int .i64) s 39).take k)))],inv:=λk=>k<=(slotL (.int .i64) s 39).length,meas:=λk=>(slotL (.int .i64) s 39).length - k }
 | _=>none
theorem agR(vs os:List Int) (qs:List (List Int)) (sg:List Int) (c n:Int) (aH:Uu.pre ((vs,os,qs,sg,()),c,n,())):
 let z10:=(vs,os,qs,sg,());let z9:=tN z10 c n;let z2:=[SV.agg [SC.sl I6 z9.fst.fst,SC.sl I6 z9.fst.snd.fst,SC.sl I6.sl z9.fst.snd.snd.fst,SC.sl I6 z9.fst.snd.snd.snd.fst],cI (z9.snd.fst),cI (z9.snd.snd)];let z8:=0<=c/\c < (qs.length:Int);let z6:=λ(d dL:List Int)=>List.take (jD n (d.length:Int)).toNat dL;let z5:=[SC.sl I6 vs,SC.sl I6 os,SC.sl I6.sl qs,SC.sl I6 sg];let z7:=[SC.row 2,SC.row 3,SC.row 4,SC.row 5];let z3:=λ(x:Nat) (d dL:List Int)=>jV sg (List.take x (List.drop 0 (z6 d dL)));let z1:=λ(x:Nat) (d dL:List Int)=>[g0 (au.blk 34 z5),g0 (au.blk 34 nM),g0 (au.row 3 I6 vs),g0 (au.row 3 I6 os),g0 (au.row 31 I6.sl qs),g0 (au.row 3 I6 (z3 x d dL)),g0 (au.blk 34 z7)];let z4:=λ(d Gq:List Int)=>List.drop (jD n (d.length:Int)).toNat (List.take (Gq.length:Int).toNat Gq);bI z10/\br (!decide (jd z10 c (qs.length:Int)=(0:Int))) (rT z2 [SV.agg Xm,cI 0,cI (jd z10 c (qs.length:Int))]) (bI z10/\z8/\c.toNat < qs.length/\∀(d:List Int),qs[c.toNat]?=some d->z8/\c.toNat < qs.length/\∀(dL:List Int),qs[c.toNat]?=some dL->((0:Int)<=(0:Int)/\0<=jD n (d.length:Int)/\jD n (d.length:Int)<=(dL.length:Int))/\(∃x,x<=List.length (List.drop 0 (z6 d dL))/\(cI 0=cI (x:Int)/\True)/\[g0 (au.blk 34 z5),g0 (au.blk 34 nM),g0 (au.row 3 I6 vs),g0 (au.row 3 I6 os),g0 (au.row 31 I6.sl qs),g0 (au.row 3 I6 sg),g0 (au.blk 34 z7)]=(z1 x d dL))/\∀(x:Nat),x<=List.length (List.drop 0 (z6 d dL))->br (decide ((x:Int) < (↑(List.drop 0 (z6 d dL)).length:Int))) ((0<=(x:Int)/\(x:Int) < (↑(List.drop 0 (z6 d dL)).length:Int))/\∀(Gq:Int),(List.drop 0 (z6 d dL))[(x:Int).toNat]?=some Gq->(z3 x d dL).length<=999999/\iR ((x:Int)+(1:Int))/\∃x',x'<=List.length (List.drop 0 (z6 d dL))/\(cI ((x:Int)+(1:Int))=cI (x':Int)/\True)/\[g0 (au.blk 34 z5),g0 (au.blk 34 nM),g0 (au.row 3 I6 vs),g0 (au.row 3 I6 os),g0 (au.row 31 I6.sl qs),g0 (au.row 3 I6 (bM (jV sg (List.take x (List.drop 0 (z6 d dL)))++[Gq]))),g0 (au.blk 34 z7)]=(z1 x' d dL)/\List.length (List.drop 0 (z6 d dL)) - x' < List.length (List.drop 0 (z6 d dL)) - x) (z8/\c.toNat < qs.length/\∀(Gq:List Int),qs[c.toNat]?=some Gq->(0<=jD n (d.length:Int)/\jD n (d.length:Int)<=(Gq.length:Int)/\(Gq.length:Int)<=(Gq.length:Int))/\(z4 d Gq).length<=1000000/\z8/\c.toNat < qs.length/\rT z2 [SV.agg [SC.sl I6 vs,SC.sl I6 os,SC.sl I6.sl (qs.set c.toNat (z4 d Gq)),SC.sl I6 (z3 x d dL)],cI (jD n (d.length:Int)),cI 0])):=by
 conv=>zeta
 delta nM Xm cI g0 rT I6 iR iN;obtain⟨hb,hn⟩:bI (vs,os,qs,sg,())/\0<=n:=aH;unfold tN;obtain⟨b1,b2,b3,b4,b5,b6⟩:vs.length<=1000/\os.length<=1000/\qs.length<=1000/\sg.length<=1000/\(∀q∈qs,q.length<=1000)/\qs.flatten.length<=100000:=id hb;refine⟨hb,ah.2 ⟨λh=>⟨rfl,?_⟩,λh=>?_⟩⟩
 .rw[if_neg (by simpa using h)];rfl
 have h:jd (vs,os,qs,sg,()) c qs.length=0:=by simpa using h
 have hx:=dD.1 h;rw[if_pos h];refine⟨hb,hx.2,by omega,λd hd=>⟨hx.2,by omega,λd1 hd1=>?_⟩⟩
 rw[hd]at hd1;cases hd1;have hl:=b5 d (iM hd);have e:(vs,os,qs,sg,()).2.2.1[c.toNat]?.getD []=d:=by simp[hd]
 rw[e];have hm:0<=jD n (d.length:Int)/\jD n (d.length:Int)<=d.length:=by unfold jD;split<;>omega
 generalize jD n (d.length:Int)=k at hm;rw[RI];have h2:(d.take k.toNat).length<=1000:=by rw[lZ];omega
 refine⟨⟨by omega,hm⟩,⟨0,by omega,⟨rfl,trivial⟩,rfl⟩,λj hj=>ah.2 ⟨λg=>?_,λg=>?_⟩⟩
 .simp only[dW]at g;refine⟨⟨by omega,by omega⟩,λx hx2=>⟨?_,ay.2 (by omega),j+1,by omega,⟨rfl,trivial⟩,?_,by omega⟩⟩
  .have:=CX ((d.take k.toNat).take j) sg;rw[lZ]at this;omega
  .have hx2:(d.take k.toNat)[j]?=some x:=hx2;rw[Rq hx2]
 simp only[gW]at g;refine⟨hx.2,by omega,λd2 hd2=>?_⟩
 rw[hd]at hd2;cases hd2;have e2:List.take (d.length:Int).toNat d=d:=zi (by omega)
 rw[e2];refine⟨⟨by omega,by omega,by omega⟩,by rw[zk];omega,hx.2,by omega,rfl,?_⟩
 rw[zi (i:=j) (by omega)]
theorem OH:aW aT.gd 166 Uu:=
 fG (cx:=aT) (n:=65) (cl:=[(158,DC),(111,Og),(107,Jz),(49,Dz)]) (rc:=[.data yB,.keep,.keep]) aB ⟨sZ,Gv,Ba,sW,trivial⟩ Tryz.func166 λd hd=>by
  obtain⟨⟨vs,os,qs,sg,⟨⟩⟩,c,n,⟨⟩⟩:=d;exact aQ (alQ vs os qs sg c n) (agR vs os qs sg c n hd) (by kernel_rfl)
abbrev abQ:CT:={ ps:=[yB,.int .i64],pre:=λd=>bI d.1,res:=λd=>([],.iO [.agg [.sl (.int .i64) ((tN d.1 d.2.1 1).1).1,.sl (.int .i64) ((tN d.1 d.2.1 1).1).2.1,.sl (.sl (.int .i64)) ((tN d.1 d.2.1 1).1).2.2.1,.sl (.int .i64) ((tN d.1 d.2.1 1).1).2.2.2.1],.c (.v (.int .i64 ((tN d.1 d.2.1 1).2.1))),.c (.v (.int .i64 ((tN d.1 d.2.1 1).2.2)))]) }
theorem agS(vs os:List Int) (qs:List (List Int)) (sg:List Int) (c:Int) (aH:abQ.pre ((vs,os,qs,sg,()),c,())):
 let z3:=tN (vs,os,qs,sg,()) c (1:Int);let z1:=z3.snd.fst;let z2:=z3.snd.snd;(bI (vs,os,qs,sg,())/\(0:Int)<=(1:Int))/\rT [SV.agg [SC.sl I6 z3.fst.fst,SC.sl I6 z3.fst.snd.fst,SC.sl I6.sl z3.fst.snd.snd.fst,SC.sl I6 z3.fst.snd.snd.snd.fst],cI z1,cI z2] [SV.agg [SC.sl I6 (z3.fst.fst,z3.fst.snd.fst,z3.fst.snd.snd.fst,z3.fst.snd.snd.snd.fst,()).fst,SC.sl I6 (z3.fst.snd.fst,z3.fst.snd.snd.fst,z3.fst.snd.snd.snd.fst,()).fst,SC.sl I6.sl (z3.fst.snd.snd.fst,z3.fst.snd.snd.snd.fst,()).fst,SC.sl I6 z3.fst.snd.snd.snd.fst],cI z1,cI z2]:=by
 conv=>zeta
 delta cI rT I6;exact⟨⟨aH,by decide⟩,rfl,rfl⟩
theorem abR:aW aT.gd 105 abQ:=
 fG (cx:=aT) (n:=13) (cl:=[(166,Uu)]) (rc:=[.data yB,.keep,.keep]) aB ⟨OH,trivial⟩ Tryz.func105 λd hd=>by
  obtain⟨⟨vs,os,qs,sg,⟨⟩⟩,c,⟨⟩⟩:=d;exact aQ (λ_=>none) (agS vs os qs sg c hd) (by kernel_rfl)
abbrev abS:CT:={ ps:=[yB,.int .i64],pre:=λd=>bI d.1,res:=λd=>([],.iO [.agg [.sl (.int .i64) ((lg d.1 d.2.1).1).1,.sl (.int .i64) ((lg d.1 d.2.1).1).2.1,.sl (.sl (.int .i64)) ((lg d.1 d.2.1).1).2.2.1,.sl (.int .i64) ((lg d.1 d.2.1).1).2.2.2.1],.c (.v (.int .i64 ((lg d.1 d.2.1).2)))]) }
theorem agT(vs os:List Int) (qs:List (List Int)) (sg:List Int) (id:Int) (aH:abS.pre ((vs,os,qs,sg,()),id,())):
 let z3:=(vs,os,qs,sg,());let z2:=lg z3 id;let z1:=[SV.agg [SC.sl I6 z2.fst.fst,SC.sl I6 z2.fst.snd.fst,SC.sl I6.sl z2.fst.snd.snd.fst,SC.sl I6 z2.fst.snd.snd.snd.fst],cI (z2.snd)];bI z3/\br (!dM z3) (rT z1 [SV.agg Xm,cI 1]) (sg.length<=1000000/\br (!dU sg id) (rT z1 kq3) (bI z3/\sg.length<=1000000/\rT z1 [SV.agg [SC.sl I6 vs,SC.sl I6 os,SC.sl I6.sl qs,SC.sl I6 (nZ (bM sg) [id] false)],cI 0])):=by
 conv=>zeta
 delta Xm kq3 cI rT I6;have hb:=aH;obtain⟨b1,b2,b3,b4,b5,b6⟩:vs.length<=1000/\os.length<=1000/\qs.length<=1000/\sg.length<=1000/\(∀q∈qs,q.length<=1000)/\qs.flatten.length<=100000:=aH;unfold lg;refine⟨hb,ah.2 ⟨λh=>⟨rfl,?_⟩,λh=>⟨by omega,ah.2 ⟨λg=>⟨rfl,?_⟩,λg=>⟨hb,by omega,rfl,?_⟩⟩⟩⟩⟩
 .rw[if_pos (by simpa using h)];rfl
 .rw[if_neg (by simpa using h),if_pos (by simpa using g)];rfl
 .rw[if_neg (by simpa using h),if_neg (by simpa using g)]
theorem abT:aW aT.gd 104 abS:=
 fG (cx:=aT) (n:=25) (cl:=[(157,abD),(165,Jm),(112,Ot),(49,Dz)]) (rc:=[.data yB,.keep]) aB ⟨G5,AA,GX,sW,trivial⟩ Tryz.func104 λd hd=>by
  obtain⟨⟨vs,os,qs,sg,⟨⟩⟩,id,⟨⟩⟩:=d;exact aQ (λ_=>none) (agT vs os qs sg id hd) (by kernel_rfl)
abbrev Rt:CT:={ ps:=[sS],pre:=λd=>bnd d,res:=λd=>([],.iO [.agg [.sl (.int .i64) ((qj d.1.1 d.1.2.1 d.1.2.2.1 d.1.2.2.2.1 d.1.2.2.2.2.1).1).1,.sl (.int .i64) ((qj d.1.1 d.1.2.1 d.1.2.2.1 d.1.2.2.2.1 d.1.2.2.2.2.1).1).2.1,.sl (.sl (.int .i64)) ((qj d.1.1 d.1.2.1 d.1.2.2.1 d.1.2.2.2.1 d.1.2.2.2.2.1).1).2.2.1,.sl (.int .i64) ((qj d.1.1 d.1.2.1 d.1.2.2.1 d.1.2.2.2.1 d.1.2.2.2.2.1).1).2.2.2.1],.c (.v (.int .i64 ((qj d.1.1 d.1.2.1 d.1.2.2.1 d.1.2.2.2.1 d.1.2.2.2.2.1).2)))]) }
abbrev aoT(vs:List VD) (ms cs:List ByteArray) (fs:List FD) (ts:List SD):Nat->Option (St->kS):=λk=>match k with
 | 6=>some λs=>.inv { α:=Nat,uy:=[(3,0,3,.int .i64)],slots:=λk=>[(28,.c (.v (.int .i64 k)))],res:=λk=>[(4,.row 3 (.int .i64) ((vs.take k).map (·.2.1)))],inv:=λk=>k<=vs.length,meas:=λk=>vs.length - k }
 | 11=>some λs=>.inv { α:=Nat,uy:=[(3,1,3,.int .i64)],slots:=λk=>[(43,.c (.v (.int .i64 k)))],res:=λk=>[(5,.row 3 (.int .i64) (List.replicate k (-1)))],inv:=λk=>k<=ms.length,meas:=λk=>ms.length - k }
 | _=>none
theorem alR(vs:List VD) (ms cs:List ByteArray) (fs:List FD) (ts:List SD) (aH:Rt.pre ((vs,ms,cs,fs,ts,()),())):
 let z8:=qj vs ms cs fs ts;let z1:=[SV.agg [SC.sl I6 z8.fst.fst,SC.sl I6 z8.fst.snd.fst,SC.sl I6.sl z8.fst.snd.snd.fst,SC.sl I6 z8.fst.snd.snd.snd.fst],cI (z8.snd)];let z3:=[SC.sl KW vs,SC.sl Sh.str ms,SC.sl Sh.str cs,SC.sl H8 fs,SC.sl nS ts];let z5:=List.replicate (cs.length:Int).toNat [];let z4:=[SC.row (Nat.succ 0).succ.succ.succ,iN,SC.row (Nat.succ 0).succ,iN];let z9:=λ(x:Nat)=>List.take x vs;let z7:=λ(x:Nat)=>(x:Int)+(1:Int);let z2:=[SC.row (Nat.succ 0).succ.succ.succ,SC.row (Nat.succ 0).succ.succ.succ.succ,SC.row (Nat.succ 0).succ,iN];let z6:=λ(x_1:Nat)=>List.replicate x_1 (-1:Int);(vs.length<=1000000/\ms.length<=1000000/\cs.length<=1000000/\fs.length<=1000000/\ts.length<=1000000/\(∀(x:ByteArray×(oP.sl.pair Sh.unit).den),x∈fs->List.length x.snd.fst<=1000000)/\(dO fs).length<=1000000)/\br (!decide ((aG vs ms cs fs ts).fst=0)) (rT z1 [SV.agg Xm,cI ((aG vs ms cs fs ts).fst)]) ((0<=(cs.length:Int)/\(cs.length:Int)<=(cs.length:Int)/\oH (cs.length:Int).toNat 24)/\(∃x,x<=vs.length/\(cI 0=cI (x:Int)/\True)/\[g0 (au.blk 27 z3),g0 (au.blk 34 nM),g0 (au.row 31 I6.sl z5),g0 (au.blk 34 z4),g0 (au.row 3 I6 [])]=[g0 (au.blk 27 z3),g0 (au.blk 34 nM),g0 (au.row 31 I6.sl z5),g0 (au.blk 34 z4),g0 (au.row 3 I6 (List.map (λx=>x.snd.fst) (List.take x vs)))])/\∀(x:Nat),x<=vs.length->br (decide ((x:Int) < (vs.length:Int))) ((0<=(x:Int)/\(x:Int) < (vs.length:Int))/\∀(d:ByteArray×(I6.pair Sh.unit).den),vs[(x:Int).toNat]?=some d->oH (List.length (List.map (λx=>x.snd.fst) (z9 x))+List.length ([d.snd.fst])) 8/\iR (z7 x)/\∃x',x'<=vs.length/\(cI (z7 x)=cI (x':Int)/\True)/\[g0 (au.blk 27 z3),g0 (au.blk 34 nM),g0 (au.row 31 I6.sl z5),g0 (au.blk 34 z4),g0 (au.row 3 I6 (List.map (λx=>x.snd.fst) (z9 x)++[d.snd.fst]))]=[g0 (au.blk 27 z3),g0 (au.blk 34 nM),g0 (au.row 31 I6.sl z5),g0 (au.blk 34 z4),g0 (au.row 3 I6 (List.map (λx=>x.snd.fst) (List.take x' vs)))]/\vs.length - x' < vs.length - x) ((∃x_1,x_1<=ms.length/\(cI 0=cI (x_1:Int)/\True)/\[g0 (au.blk 27 z3),g0 (au.blk 34 nM),g0 (au.row 31 I6.sl z5),g0 (au.blk 34 z2),g0 (au.row 3 I6 (List.map (λx=>x.snd.fst) (z9 x))),g0 (au.row 3 I6 [])]=[g0 (au.blk 27 z3),g0 (au.blk 34 nM),g0 (au.row 31 I6.sl z5),g0 (au.blk 34 z2),g0 (au.row 3 I6 (List.map (λx=>x.snd.fst) (z9 x))),g0 (au.row 3 I6 (z6 x_1))])/\∀(x_1:Nat),x_1<=ms.length->br (decide ((x_1:Int) < (ms.length:Int))) (oH (List.length (z6 x_1)+1) 8/\iR (z7 x_1)/\∃x',x'<=ms.length/\(cI (z7 x_1)=cI (x':Int)/\True)/\[g0 (au.blk 27 z3),g0 (au.blk 34 nM),g0 (au.row 31 I6.sl z5),g0 (au.blk 34 z2),g0 (au.row 3 I6 (List.map (λx=>x.snd.fst) (z9 x))),g0 (au.row 3 I6 (List.replicate x_1 (-1:Int)++[(-1:Int)]))]=[g0 (au.blk 27 z3),g0 (au.blk 34 nM),g0 (au.row 31 I6.sl z5),g0 (au.blk 34 z2),g0 (au.row 3 I6 (List.map (λx=>x.snd.fst) (z9 x))),g0 (au.row 3 I6 (List.replicate x' (-1:Int)))]/\ms.length - x' < ms.length - x_1) (rT z1 [SV.agg [SC.sl I6 (List.map (λx=>x.snd.fst) (z9 x)),SC.sl I6 (z6 x_1),SC.sl I6.sl z5,SC.sl I6 []],cI 0]))):=by
 conv=>zeta
 delta Xm nM cI g0 rT I6 iR iN;have hb:vs.length<=1000000/\ms.length<=1000000/\cs.length<=1000000:=⟨aH.1,aH.2.1,aH.2.2.1⟩;obtain⟨b1,b2,b3⟩:=hb;unfold qj;refine⟨aH,ah.2 ⟨λh=>⟨rfl,?_⟩,λh=>?_⟩⟩
 .rw[if_neg (by simpa using h)];rfl
 rw[if_pos (by simpa using h)]
 refine⟨⟨by omega,by omega,fO.2 (by omega)⟩,⟨0,by omega,⟨rfl,trivial⟩,rfl⟩,λk hk=>ah.2 ⟨λg=>?_,λg=>?_⟩⟩
 .simp only[dW]at g;refine⟨⟨by omega,by omega⟩,λd hd=>⟨fO.2 ?_,ay.2 (by omega),k+1,by omega,⟨rfl,trivial⟩,?_,by omega⟩⟩
  .simp only[Xr,lZ,yE,Pg];omega
  .have hd:vs[k]?=some d:=hd;have e:List.map (λx:VD=>x.snd.fst) (List.take (k+1) vs)=List.map (λx:VD=>x.snd.fst) (List.take k vs)++[d.2.1]:=by rw[RD,hd];simp
   rw[e]
 simp only[gW]at g;rw[zi (i:=k) (by omega)]
 refine⟨⟨0,by omega,⟨rfl,trivial⟩,rfl⟩,λj hj=>ah.2 ⟨λg2=>?_,λg2=>?_⟩⟩
 .simp only[dW]at g2;refine⟨fO.2 ?_,ay.2 (by omega),j+1,by omega,⟨rfl,trivial⟩,?_,by omega⟩
  .simp only[LU];omega
  .have e:List.replicate (j+1) (-1:Int)=List.replicate j (-1)++[-1]:=List.replicate_succ';rw[show List.replicate (j+1) (-1:(Sh.int IntKind.i64).den)=List.replicate j (-1)++[-1] from e]
 simp only[gW]at g2;have ej:j=ms.length:=by omega
 subst ej;exact⟨rfl,rfl⟩
theorem agU:aW aT.gd 33 Rt:=
 fG (cx:=aT) (n:=52) (cl:=[(74,Jr)]) (rc:=[.data yB,.keep]) aB ⟨En,trivial⟩ Tryz.func33 λd hd=>by
  obtain⟨⟨vs,ms,cs,fs,ts,⟨⟩⟩,⟨⟩⟩:=d;exact aQ (aoT vs ms cs fs ts) (alR vs ms cs fs ts hd) (by kernel_rfl)
end
end Go.Proofs.YtjhenjhcbcalpaaGreatDoor
