/- Part 10 of the proof. Conditions: the rows'. -/
import Derived.Test.YtjhenjhcbcalpaaGreatDoorB9
set_option linter.unusedSimpArgs false
set_option linter.unusedVariables false
set_option maxRecDepth 1000000
set_option maxHeartbeats 8000000
namespace Go.Proofs.YtjhenjhcbcalpaaGreatDoor
open Go Go.jw
noncomputable section
variable {n i:Int}{l:List Int}{qs:List (List Int)}{k:Nat}
abbrev qx:Sh:=.pair (.sl (.int .i64)) (.pair (.sl (.int .i64)) (.pair (.sl (.sl (.int .i64))) (.pair (.sl (.int .i64)) .unit)))
abbrev MD:=List Int×List Int×List (List Int)×List Int×Unit
variable {m:MD}
def Jl:MD->Prop
 | (vs,os,qs,sg,_)=>vs.length<=8/\os.length<=4/\qs.length<=4/\SS sg/\(∀v∈vs,bY v=true)/\(∀o∈os,-1<=o)/\(∀x∈sg++qs.flatten,0<=x)/\(sg++qs.flatten).Nodup
open Classical in
def dI(m:MD):Bool:=decide (Jl m)
open Classical in
theorem fA:dI m=true↔Jl m:=by unfold dI;rw[X8]
theorem Dc(h:¬Jl m):dI m=false:=TJ.2 λq=>h (fA.1 q)
def aZ(m:MD):Prop:=m.1.length<=1000/\m.2.1.length<=1000/\m.2.2.1.length<=1000/\m.2.2.2.1.length<=1000/\(∀q∈m.2.2.1,q.length<=1000)/\m.2.2.1.flatten.length<=100000
theorem mG:bY n=true↔-2147483648<=n/\n<=2147483647:=by
 unfold bY;simp
theorem uw:kU l=true↔SS l:=by unfold kU;rw[X8]
theorem Jm(qs:List (List Int)) (k:Nat):(qs.take k).flatten.length<=qs.flatten.length:=by
 have:qs.flatten=(qs.take k).flatten++(qs.drop k).flatten:=by rw[<-List.flatten_append,X5]
 rw[this,kK];omega
theorem Jo{d:List Int} (h:qs[k]?=some d):(qs.take (k+1)).flatten=(qs.take k).flatten++d:=by
 rw[Hf,h];simp
theorem acX(h:l.Nodup){d:Int} (hd:l[k]?=some d):d∉l.take k:=by
 intro hm;obtain⟨j,hj⟩:=yT hm;rw[wu]at hj;split at hj
 .rename_i gu;obtain⟨h1,e1⟩:=eX.1 hj;obtain⟨h2,e2⟩:=eX.1 hd;have:=akg.1 h j k h1 h2 gu;exact this (e1.trans e2.symm)
 .cases hj
theorem S9(h:(l.take k).Nodup){d:Int} (hd:l[k]?=some d) (hn:d∉l.take k):(l.take (k+1)).Nodup:=by
 rw[Hf,hd,Qh,List.nodup_append];refine⟨h,by simp,λa ha b hb=>?_⟩
 simp at hb;subst hb;rintro rfl;exact hn ha
theorem Au:∀(l o:List Int),(l.foldl (λo x=>if dM o x then o else wY o x) o).length<=o.length+l.length
 | [],o=>by simp
 | x :: l,o=>by
   simp only[JG,sZ];split
   .have:=Au l o;omega
   .have:=Au l (wY o x);rw[F9]at this;omega
theorem Jp:∀(l o:List Int),(l.foldl (λo x=>if dM o x then o else wY o x) o).length=o.length+l.length↔(l.Nodup/\∀x∈l,x∉o)
 | [],o=>by simp
 | x :: l,o=>by
   simp only[JG,sZ];split
   .rename_i hx;have:=Au l o;constructor
    .intro h;omega
    .rintro⟨_,h⟩;exact absurd (nT.1 hx) (h x (by simp))
   .rename_i hx;have hx:x∉o:=λhh=>hx (nT.2 hh)
    have ih:=Jp l (wY o x);rw[F9]at ih;rw[show o.length+(l.length+1)=o.length+1+l.length by omega,ih,Wn]
    constructor
    .rintro⟨h1,h2⟩;refine⟨⟨λhm=>h2 x hm (DN.2 (.inl rfl)),h1⟩,λy hy=>?_⟩
     rcases nG.1 hy with rfl | hy
     .exact hx
     .exact λhh=>h2 y hy (DN.2 (.inr hh))
    .rintro⟨⟨h1,h2⟩,h3⟩;refine⟨h2,λy hy hh=>?_⟩
     rcases DN.1 hh with rfl | hh
     .exact h1 hy
     .exact h3 y (by simp[hy]) hh
theorem Tc:(aX l).length=l.length↔l.Nodup:=by
 have:=Jp l [];simp only[AY,Eu]at this;unfold aX;rw[this];simp
abbrev Jq:CT:={ ps:=[.sl (.int .i64)],pre:=λd=>d.1.length<=1000000,res:=λd=>([.row 3 (.int .i64) (d.1)],.one (.c (.row 0))) }
theorem ahL(l:List Int) (aA:Jq.pre (l,())):
 let z1:=List.replicate (l.length:Int).toNat (0:Int);((0:Int)<=(l.length:Int)/\(l.length:Int)<=(l.length:Int)/\jY (l.length:Int).toNat (8:Nat))/\[aj.row (3:TypeId) gZ l]=[aj.row (3:TypeId) gZ (List.take (List.length z1) (l)++List.drop (List.length (l)) z1)]/\aW.one mD=aW.one mD:=by
 conv=>zeta
 delta gZ mD;have hp:l.length<=1000000:=aA;refine⟨⟨by omega,by omega,bJ.2 (by omega)⟩,?_,rfl⟩
 simp
theorem Aw:aN aK.gd 107 Jq:=
 bV (cx:=aK) (n:=11) (cl:=[]) (rc:=[]) ay trivial Tryz.func107 λd hd=>by
  obtain⟨l,⟨⟩⟩:=d;exact aI (λ_=>none) (ahL l hd) (by kernel_rfl)
abbrev Pn:CT:={ ps:=[.sl (.int .i64)],pre:=λd=>d.1.length<=1000000,res:=λd=>([.row 3 (.int .i64) (d.1)],.one (.c (.row 0))) }
theorem ahM(l:List Int) (aA:Pn.pre (l,())):
 jY (List.length (l)) (8:Nat)/\[aj.row (3:TypeId) gZ l]=[aj.row (3:TypeId) gZ (l)]/\aW.one mD=aW.one mD:=by
 delta gZ mD;have hp:l.length<=1000000:=aA;exact⟨bJ.2 (by omega),rfl,rfl⟩
theorem GR:aN aK.gd 131 Pn:=
 bV (cx:=aK) (n:=7) (cl:=[]) (rc:=[.row 3 (.int .i64)]) ay trivial Tryz.func131 λd hd=>by
  obtain⟨l,⟨⟩⟩:=d;exact aI (λ_=>none) (ahM l hd) (by kernel_rfl)
abbrev acY:CT:={ ps:=[qx],pre:=λd=>aZ d.1,res:=λd=>([],vB (dI d.1)) }
abbrev anA(vs os:List Int) (qs:List (List Int)) (sg:List Int):Nat->Option (St->iE):=λk=>match k with
 | 4=>some λ_=>.inv { α:=Nat,slots:=λk=>[(37,.c (.v (.int .i64 k)))],res:=λ_=>[],inv:=λk=>k<=vs.length/\∀j < k,∀v,vs[j]?=some v->bY v=true,meas:=λk=>vs.length - k }
 | 10=>some λ_=>.inv { α:=Nat,slots:=λk=>[(51,.c (.v (.int .i64 k)))],res:=λ_=>[],inv:=λk=>k<=os.length/\∀j < k,∀v,os[j]?=some v->-1<=v,meas:=λk=>os.length - k }
 | 17=>some λ_=>.inv { α:=Nat,drop:=[60],slots:=λk=>[(64,.c (.v (.int .i64 k))),(7,.c (.row 1))],res:=λk=>[(1,.row 3 (.int .i64) (sg++(qs.take k).flatten))],inv:=λk=>k<=qs.length,meas:=λk=>qs.length - k }
 | 22=>some λ_=>.inv { α:=Nat,uT:=[1],slots:=λk=>[(74,.c (.v (.int .i64 k)))],res:=λ_=>[],inv:=λk=>k<=(sg++qs.flatten).length/\(∀j < k,∀v,(sg++qs.flatten)[j]?=some v->0<=v)/\((sg++qs.flatten).take k).Nodup,meas:=λk=>(sg++qs.flatten).length - k }
 | _=>none
theorem ahN(vs os:List Int) (qs:List (List Int)) (sg:List Int) (aA:acY.pre ((vs,os,qs,sg,()),())):
 let z13:=dI (vs,os,qs,sg,());let z10:=qB z13 false;let z3:=λ(x:Nat)=>(x<=vs.length/\∀(j:Nat),j < x->∀(v:Int),vs[j]?=some v->bY v=true);let z12:=λ(x:Nat)=>cI 0=cI (x:Int)/\True;let z8:=[SC.sl I6 vs,SC.sl I6 os,SC.sl I6.sl qs,SC.sl I6 sg];let z7:=[g0 (aj.blk 34 z8)];let qR:=λ(x:Nat)=>(x:Int)+(1:Int);let z9:=λ(x x':Nat)=>cI (qR x)=cI (x':Int)/\True;let z5:=λ(x:Nat)=>(x<=os.length/\∀(j:Nat),j < x->∀(v:Int),os[j]?=some v->(-1)<=v);let z11:=λ(x:Nat)=>sg++(List.take x qs).flatten;let z2:=λ(x:Nat)=>[g0 (aj.blk 34 z8),g0 (aj.row 3 I6 (z11 x))];let kV:=sg++qs.flatten;let z6:=λ(x_1:Nat)=>(∀(j:Nat),j < x_1->∀(v:Int),kV[j]?=some v->0<=v);let z1:=λ(x:Nat)=>x<=kV.length/\(z6 x)/\(List.take x kV).Nodup;let z4:=[g0 (aj.blk 34 z8),g0 aj.gone];((!(decide (8 < (vs.length:Int)) || decide (4 < (os.length:Int)) || decide (4 < (qs.length:Int))))=true->sg.length<=1000000)/\br (decide (8 < (vs.length:Int)) || decide (4 < (os.length:Int)) || decide (4 < (qs.length:Int)) || !kU sg) z10 ((∃x,(z3 x)/\(z12 x)/\sm z7)/\∀(x:Nat),(z3 x)->br (decide ((x:Int) < (vs.length:Int))) ((0<=(x:Int)/\(x:Int) < (vs.length:Int))/\∀(d:Int),vs[(x:Int).toNat]?=some d->br (decide (d < (-2147483648)) || decide (2147483647 < d)) z10 (iR (qR x)/\∃x',(z3 x')/\(z9 x x')/\sm z7/\vs.length - x' < vs.length - x)) ((∃x,(z5 x)/\(z12 x)/\sm z7)/\∀(x:Nat),(z5 x)->br (decide ((x:Int) < (os.length:Int))) ((0<=(x:Int)/\(x:Int) < (os.length:Int))/\∀(d:Int),os[(x:Int).toNat]?=some d->br (decide (d < (-1))) z10 (iR (qR x)/\∃x',(z5 x')/\(z9 x x')/\sm z7/\os.length - x' < os.length - x)) (sg.length<=1000000/\(∃x,x<=qs.length/\(cI 0=cI (x:Int)/\SV.c (SC.row 1)=SV.c (SC.row 1)/\True)/\[g0 (aj.blk 34 z8),g0 (aj.row 3 I6 sg)]=(z2 x))/\∀(x:Nat),x<=qs.length->br (decide ((x:Int) < (qs.length:Int))) ((0<=(x:Int)/\(x:Int) < (qs.length:Int))/\∀(d:List Int),qs[(x:Int).toNat]?=some d->jY (List.length ((z11 x))+List.length (d)) 8/\iR (qR x)/\∃x',x'<=qs.length/\(cI (qR x)=cI (x':Int)/\SV.c (SC.row 1)=SV.c (SC.row 1)/\True)/\[g0 (aj.blk 34 z8),g0 (aj.row 3 I6 ((z11 x)++d))]=(z2 x')/\qs.length - x' < qs.length - x) ((∃x,(z1 x)/\(z12 x)/\sm z4)/\∀(x_1:Nat),x_1<=kV.length/\(z6 x_1)/\(List.take x_1 kV).Nodup->br (decide ((x_1:Int) < (↑(z11 x).length:Int))) ((0<=(x_1:Int)/\(x_1:Int) < (↑(z11 x).length:Int))/\∀(d:Int),(z11 x)[(x_1:Int).toNat]?=some d->((!decide (d < 0))=true->(0:Int)<=(0:Int)/\0<=(x_1:Int)/\(x_1:Int)<=(↑(z11 x).length:Int))/\((!decide (d < 0))=true->(List.drop 0 (List.take (x_1:Int).toNat (z11 x))).length<=4611686018427387904)/\br (decide (d < 0) || dM (List.drop 0 (List.take (x_1:Int).toNat (z11 x))) d) z10 (iR (qR x_1)/\∃x',(z1 x')/\(z9 x_1 x')/\sm z4/\kV.length - x' < kV.length - x_1)) (qB z13 true))))):=by
 conv=>zeta
 delta cI g0 qB sm I6 iR;obtain⟨b1,b2,b3,b4,b5,b6⟩:vs.length<=1000/\os.length<=1000/\qs.length<=1000/\sg.length<=1000/\(∀q∈qs,q.length<=1000)/\qs.flatten.length<=100000:=aA;have fF:¬Jl (vs,os,qs,sg,())->([]:List Go.jw.aj)=[]/\aW.one (SV.c (SC.v (Value.bool (dI (vs,os,qs,sg,())))))=aW.one (SV.c (SC.v (Value.bool false))):=λq=>⟨rfl,by rw[Dc q]⟩
 refine⟨λ_=>by omega,ah.2 ⟨λh=>fF λq=>?_,λh=>?_⟩⟩
 .obtain⟨q1,q2,q3,q4,_⟩:=q;rw[uw.2 q4]at h;simp at h;omega
 simp only[lM,uP,A8]at h;obtain⟨⟨⟨h1,h2⟩,h3⟩,h4⟩:=h;have h4:SS sg:=uw.1 h4;refine⟨⟨0,⟨by omega,λj hj=>by omega⟩,⟨rfl,trivial⟩,rfl⟩,λk hk=>ah.2 ⟨λg=>?_,λg=>?_⟩⟩
 .simp only[dG]at g;refine⟨⟨by omega,by omega⟩,λd hd=>ah.2 ⟨λg2=>fF λq=>?_,λg2=>⟨au.2 (by omega),k+1,⟨by omega,λj hj v hv=>?_⟩,⟨rfl,trivial⟩,rfl,by omega⟩⟩⟩
  .have:=mG.1 (q.2.2.2.2.1 d (gQ hd));simp at g2;omega
  .by_cases gu:j=k
   .subst gu;have hd:vs[j]?=some d:=hd;rw[hd]at hv;cases hv;rw[mG];simp at g2;omega
   .exact hk.2 j (by omega) v hv
 simp only[A8]at g;have v1:∀v∈vs,bY v=true:=λv hv=>by
  obtain⟨j,hj⟩:=yT hv;exact hk.2 j (by have:=(eX.1 hj).1;omega) v hj
 refine⟨⟨0,⟨by omega,λj hj=>by omega⟩,⟨rfl,trivial⟩,rfl⟩,λk2 hk2=>ah.2 ⟨λg=>?_,λg=>?_⟩⟩
 .simp only[dG]at g;refine⟨⟨by omega,by omega⟩,λd hd=>ah.2 ⟨λg2=>fF λq=>?_,λg2=>⟨au.2 (by omega),k2+1,⟨by omega,λj hj v hv=>?_⟩,⟨rfl,trivial⟩,rfl,by omega⟩⟩⟩
  .have:=q.2.2.2.2.2.1 d (gQ hd);simp at g2;omega
  .by_cases gu:j=k2
   .subst gu;have hd:os[j]?=some d:=hd;rw[hd]at hv;cases hv;simp at g2;omega
   .exact hk2.2 j (by omega) v hv
 simp only[A8]at g;have v2:∀v∈os,-1<=v:=λv hv=>by
  obtain⟨j,hj⟩:=yT hv;exact hk2.2 j (by have:=(eX.1 hj).1;omega) v hj
 refine⟨by omega,⟨0,by omega,⟨rfl,rfl,trivial⟩,by simp⟩,λk3 hk3=>ah.2 ⟨λg=>?_,λg=>?_⟩⟩
 .simp only[dG]at g;refine⟨⟨by omega,by omega⟩,λd hd=>⟨bJ.2 ?_,au.2 (by omega),k3+1,by omega,⟨rfl,rfl,trivial⟩,?_,by omega⟩⟩
  .have:=Jm qs k3;have:=b5 d (gQ hd);rw[kK];omega
  .have hd:qs[k3]?=some d:=hd;rw[Jo hd,yU]
 simp only[A8]at g;have ek:qs.take k3=qs:=qV (by omega)
 rw[ek];have bl:(sg++qs.flatten).length<=101000:=by rw[kK];omega
 refine⟨⟨0,⟨by omega,λj hj=>by omega,by simp⟩,⟨rfl,trivial⟩,rfl⟩,λk4 hk4=>ah.2 ⟨λg=>?_,λg=>?_⟩⟩
 .simp only[dG]at g;refine⟨⟨by omega,by omega⟩,λd hd=>⟨λ_=>⟨by omega,by omega,by omega⟩,λ_=>by simp only[MP,kH];omega,ah.2 ⟨λg2=>fF λq=>?_,λg2=>⟨au.2 (by omega),k4+1,⟨by omega,λj hj v hv=>?_,?_⟩,⟨rfl,trivial⟩,rfl,by omega⟩⟩⟩⟩
  .have hd:(sg++qs.flatten)[k4]?=some d:=hd;have n0:=q.2.2.2.2.2.2.1 d (gQ hd);have n1:=acX q.2.2.2.2.2.2.2 hd;have n2:dM ((sg++qs.flatten).take k4) d=false:=qc.2 n1;rw[MP,show((k4:Int)).toNat=k4 from rfl,n2]at g2
   simp at g2;omega
  all_goals
   rw[MP,show((k4:Int)).toNat=k4 from rfl,lM,A8]at g2
   have hd:(sg++qs.flatten)[k4]?=some d:=hd
  .by_cases gu:j=k4
   .subst gu;rw[hd]at hv;cases hv;omega
   .exact hk4.2.1 j (by omega) v hv
  .exact S9 hk4.2.2 hd (qc.1 g2.2)
 simp only[A8]at g;refine⟨rfl,?_⟩;rw[fA.2];refine⟨by omega,by omega,by omega,h4,v1,v2,λx hx=>?_,?_⟩
 .obtain⟨j,hj⟩:=yT hx;exact hk4.2.1 j (by have:=(eX.1 hj).1;omega) x hj
 .have:=hk4.2.2
  rwa [qV (by omega)]at this
theorem GU:aN aK.gd 157 acY:=
 bV (cx:=aK) (n:=89) (cl:=[(107,Jq),(192,ctV),(98,Gh)]) (rc:=[]) ay ⟨Aw,OQ,Aa,trivial⟩ Tryz.func157 λd hd=>by
  obtain⟨⟨vs,os,qs,sg,⟨⟩⟩,⟨⟩⟩:=d;exact aI (anA vs os qs sg) (ahN vs os qs sg hd) (by kernel_rfl)
abbrev Ih:CT:={ ps:=[qx],pre:=λd=>aZ d.1,res:=λd=>([],vB (dI d.1)) }
abbrev anB(vs os:List Int) (qs:List (List Int)) (sg:List Int):Nat->Option (St->iE):=λk=>match k with
 | 4=>some λ_=>.inv { α:=Nat,slots:=λk=>[(3,.c (.v (.int .i64 k)))],res:=λ_=>[],inv:=λk=>k<=vs.length/\∀j < k,∀v,vs[j]?=some v->bY v=true,meas:=λk=>vs.length - k }
 | 9=>some λ_=>.inv { α:=Nat,slots:=λk=>[(4,.c (.v (.int .i64 k)))],res:=λ_=>[],inv:=λk=>k<=os.length/\∀j < k,∀v,os[j]?=some v->-1<=v,meas:=λk=>os.length - k }
 | 18=>some λ_=>.inv { α:=Nat,drop:=[65],slots:=λk=>[(6,.c (.v (.int .i64 k))),(5,.c (.row 1))],res:=λk=>[(1,.row 3 (.int .i64) (sg++(qs.take k).flatten))],inv:=λk=>k<=qs.length,meas:=λk=>qs.length - k }
 | 22=>some λ_=>.inv { α:=Nat,uT:=[1],slots:=λk=>[(7,.c (.v (.int .i64 k)))],res:=λ_=>[],inv:=λk=>k<=(sg++qs.flatten).length/\(∀j < k,∀v,(sg++qs.flatten)[j]?=some v->0<=v),meas:=λk=>(sg++qs.flatten).length - k }
 | _=>none
theorem ahO(vs os:List Int) (qs:List (List Int)) (sg:List Int) (aA:Ih.pre ((vs,os,qs,sg,()),())):
 let z12:=dI (vs,os,qs,sg,());let z9:=qB z12 false;let z3:=λ(x:Nat)=>(x<=vs.length/\∀(j:Nat),j < x->∀(v:Int),vs[j]?=some v->bY v=true);let z11:=λ(x:Nat)=>cI 0=cI (x:Int)/\True;let z7:=[SC.sl I6 vs,SC.sl I6 os,SC.sl I6.sl qs,SC.sl I6 sg];let z6:=[g0 (aj.blk 34 z7)];let z13:=λ(x:Nat)=>(x:Int)+(1:Int);let z8:=λ(x x':Nat)=>cI (z13 x)=cI (x':Int)/\True;let z5:=λ(x:Nat)=>(x<=os.length/\∀(j:Nat),j < x->∀(v:Int),os[j]?=some v->(-1)<=v);let z10:=λ(x:Nat)=>sg++(List.take x qs).flatten;let z1:=λ(x:Nat)=>[g0 (aj.blk 34 z7),g0 (aj.row 3 I6 (z10 x))];let qR:=sg++qs.flatten;let z2:=λ(x:Nat)=>(x<=qR.length/\∀(j:Nat),j < x->∀(v:Int),qR[j]?=some v->0<=v);let z4:=[g0 (aj.blk 34 z7),g0 aj.gone];br (decide (8 < (vs.length:Int)) || decide (4 < (os.length:Int)) || decide (4 < (qs.length:Int))) z9 ((∃x,(z3 x)/\(z11 x)/\sm z6)/\∀(x:Nat),(z3 x)->br (decide ((x:Int) < (vs.length:Int))) ((0<=(x:Int)/\(x:Int) < (vs.length:Int))/\∀(d:Int),vs[(x:Int).toNat]?=some d->((!decide (d < (-2147483648)))=true->0<=(x:Int)/\(x:Int) < (vs.length:Int))/\∀(dH:Int),((!decide (d < (-2147483648)))=true->vs[(x:Int).toNat]?=some dH)->br (decide (d < (-2147483648)) || decide (2147483647 < dH)) z9 (iR (z13 x)/\∃x',(z3 x')/\(z8 x x')/\sm z6/\vs.length - x' < vs.length - x)) ((∃x,(z5 x)/\(z11 x)/\sm z6)/\∀(x:Nat),(z5 x)->br (decide ((x:Int) < (os.length:Int))) ((0<=(x:Int)/\(x:Int) < (os.length:Int))/\∀(d:Int),os[(x:Int).toNat]?=some d->br (decide (d < (-1))) z9 (iR (z13 x)/\∃x',(z5 x')/\(z8 x x')/\sm z6/\os.length - x' < os.length - x)) (sg.length<=1000000/\br (!kU sg) z9 (jY (List.length (sg)) 8/\(∃x,x<=qs.length/\(cI 0=cI (x:Int)/\SV.c (SC.row (Nat.succ 0))=SV.c (SC.row 1)/\True)/\[g0 (aj.blk 34 z7),g0 (aj.row 3 I6 (sg))]=(z1 x))/\∀(x:Nat),x<=qs.length->br (decide ((x:Int) < (qs.length:Int))) ((0<=(x:Int)/\(x:Int) < (qs.length:Int))/\∀(d:List Int),qs[(x:Int).toNat]?=some d->jY (List.length ((z10 x))+List.length (d)) 8/\iR (z13 x)/\∃x',x'<=qs.length/\(cI (z13 x)=cI (x':Int)/\SV.c (SC.row 1)=SV.c (SC.row 1)/\True)/\[g0 (aj.blk 34 z7),g0 (aj.row 3 I6 ((z10 x)++d))]=(z1 x')/\qs.length - x' < qs.length - x) ((∃x,(z2 x)/\(z11 x)/\sm z4)/\∀(x_1:Nat),(z2 x_1)->br (decide ((x_1:Int) < (↑(z10 x).length:Int))) ((0<=(x_1:Int)/\(x_1:Int) < (↑(z10 x).length:Int))/\∀(d:Int),(z10 x)[(x_1:Int).toNat]?=some d->br (decide (d < 0)) z9 (iR (z13 x_1)/\∃x',(z2 x')/\(z8 x_1 x')/\sm z4/\qR.length - x' < qR.length - x_1)) ((z10 x).length<=1000000/\qB z12 (decide ((↑(aX (z10 x)).length:Int)=(↑(z10 x).length:Int))))))))):=by
 conv=>zeta
 delta cI g0 qB sm I6 iR;obtain⟨b1,b2,b3,b4,b5,b6⟩:vs.length<=1000/\os.length<=1000/\qs.length<=1000/\sg.length<=1000/\(∀q∈qs,q.length<=1000)/\qs.flatten.length<=100000:=aA;have fF:¬Jl (vs,os,qs,sg,())->([]:List Go.jw.aj)=[]/\aW.one (SV.c (SC.v (Value.bool (dI (vs,os,qs,sg,())))))=aW.one (SV.c (SC.v (Value.bool false))):=λq=>⟨rfl,by rw[Dc q]⟩
 refine ah.2 ⟨λh=>fF λq=>?_,λh=>?_⟩
 .obtain⟨q1,q2,q3,q4,_⟩:=q;simp at h;omega
 simp only[lM,A8]at h;obtain⟨⟨h1,h2⟩,h3⟩:=h;refine⟨⟨0,⟨by omega,λj hj=>by omega⟩,⟨rfl,trivial⟩,rfl⟩,λk hk=>ah.2 ⟨λg=>?_,λg=>?_⟩⟩
 .simp only[dG]at g;refine⟨⟨by omega,by omega⟩,λd hd=>⟨λ_=>⟨by omega,by omega⟩,λd1 hd1=>ah.2 ⟨λg2=>fF λq=>?_,λg2=>⟨au.2 (by omega),k+1,⟨by omega,λj hj v hv=>?_⟩,⟨rfl,trivial⟩,rfl,by omega⟩⟩⟩⟩
  .have:=mG.1 (q.2.2.2.2.1 d (gQ hd))
   by_cases g3:d < -2147483648
   .omega
   .have e1:=hd1 (by simp[g3])
    rw[hd]at e1;cases e1;simp at g2;omega
  .by_cases gu:j=k
   .subst gu;have hd:vs[j]?=some d:=hd;rw[hd]at hv;cases hv;rw[lM,A8,A8]at g2;have e1:vs[j]?=some d1:=hd1 (by simp[g2.1])
    rw[hd]at e1;cases e1;rw[mG];omega
   .exact hk.2 j (by omega) v hv
 simp only[A8]at g;have v1:∀v∈vs,bY v=true:=λv hv=>by
  obtain⟨j,hj⟩:=yT hv;exact hk.2 j (by have:=(eX.1 hj).1;omega) v hj
 refine⟨⟨0,⟨by omega,λj hj=>by omega⟩,⟨rfl,trivial⟩,rfl⟩,λk2 hk2=>ah.2 ⟨λg=>?_,λg=>?_⟩⟩
 .simp only[dG]at g;refine⟨⟨by omega,by omega⟩,λd hd=>ah.2 ⟨λg2=>fF λq=>?_,λg2=>⟨au.2 (by omega),k2+1,⟨by omega,λj hj v hv=>?_⟩,⟨rfl,trivial⟩,rfl,by omega⟩⟩⟩
  .have:=q.2.2.2.2.2.1 d (gQ hd);simp at g2;omega
  .by_cases gu:j=k2
   .subst gu;have hd:os[j]?=some d:=hd;rw[hd]at hv;cases hv;simp at g2;omega
   .exact hk2.2 j (by omega) v hv
 simp only[A8]at g;have v2:∀v∈os,-1<=v:=λv hv=>by
  obtain⟨j,hj⟩:=yT hv;exact hk2.2 j (by have:=(eX.1 hj).1;omega) v hj
 refine⟨by omega,ah.2 ⟨λh4=>fF λq=>?_,λh4=>?_⟩⟩
 .rw[uw.2 q.2.2.2.1]at h4;cases h4
 have h4:SS sg:=uw.1 (by simpa using h4)
 refine⟨bJ.2 (by omega),⟨0,by omega,⟨rfl,rfl,trivial⟩,by simp⟩,λk3 hk3=>ah.2 ⟨λg=>?_,λg=>?_⟩⟩
 .simp only[dG]at g;refine⟨⟨by omega,by omega⟩,λd hd=>⟨bJ.2 ?_,au.2 (by omega),k3+1,by omega,⟨rfl,rfl,trivial⟩,?_,by omega⟩⟩
  .have:=Jm qs k3;have:=b5 d (gQ hd);rw[kK];omega
  .have hd:qs[k3]?=some d:=hd;rw[Jo hd,yU]
 simp only[A8]at g;have ek:qs.take k3=qs:=qV (by omega)
 rw[ek];have bl:(sg++qs.flatten).length<=101000:=by rw[kK];omega
 refine⟨⟨0,⟨by omega,λj hj=>by omega⟩,⟨rfl,trivial⟩,rfl⟩,λk4 hk4=>ah.2 ⟨λg=>?_,λg=>?_⟩⟩
 .simp only[dG]at g;refine⟨⟨by omega,by omega⟩,λd hd=>ah.2 ⟨λg2=>fF λq=>?_,λg2=>⟨au.2 (by omega),k4+1,⟨by omega,λj hj v hv=>?_⟩,⟨rfl,trivial⟩,rfl,by omega⟩⟩⟩
  .have hd:(sg++qs.flatten)[k4]?=some d:=hd;have n0:=q.2.2.2.2.2.2.1 d (gQ hd);simp at g2;omega
  .by_cases gu:j=k4
   .subst gu;have hd:(sg++qs.flatten)[j]?=some d:=hd;rw[hd]at hv;cases hv;simp at g2;omega
   .exact hk4.2 j (by omega) v hv
 simp only[A8]at g;refine⟨by omega,rfl,?_⟩
 have e:dI (vs,os,qs,sg,())=decide ((↑(aX (sg++qs.flatten)).length:Int)=(↑(sg++qs.flatten).length:Int)):=by
  rw[Et,fA,dG,Int.ofNat_inj,Tc];constructor
  .exact λq=>q.2.2.2.2.2.2.2
  .refine λq=>⟨by omega,by omega,by omega,h4,v1,v2,λx hx=>?_,q⟩
   obtain⟨j,hj⟩:=yT hx;exact hk4.2 j (by have:=(eX.1 hj).1;omega) x hj
 rw[e]
theorem nV:aN aK.gd 137 Ih:=
 bV (cx:=aK) (n:=97) (cl:=[(180,anw),(181,ab3)]) (rc:=[]) ay ⟨acS,Gq,trivial⟩ Tryz.func137 λd hd=>by
  obtain⟨⟨vs,os,qs,sg,⟨⟩⟩,⟨⟩⟩:=d;exact aI (anB vs os qs sg) (ahO vs os qs sg hd) (by kernel_rfl)
abbrev ql:CT:={ ps:=[.sl (.int .i64),.sl (.int .i64)],pre:=λd=>d.1.length<=1000000,res:=λd=>([],vB (decide (d.1=d.2.1))) }
abbrev aqF(l m:List Int):Nat->Option (St->iE):=λk=>match k with
 | 4=>some λ_=>.inv { α:=Nat,slots:=λk=>[(5,.c (.v (.int .i64 k)))],res:=λk=>[],inv:=λk=>k<=(l).length/\∀j < k,l[j]?=m[j]?,meas:=λk=>(l).length - k }
 | _=>none
theorem anC(l m:List Int) (aA:ql.pre (l,m,())):
 let z2:=qB (decide (l=m)) false;let z1:=λ(x:Nat)=>(x<=l.length/\∀(j:Nat),j < x->l[j]?=m[j]?);br (!decide ((l.length:Int)=(m.length:Int))) z2 ((∃x,(z1 x)/\(cI 0=cI (x:Int)/\True)/\([]:List dP)=[])/\∀(x:Nat),(z1 x)->br (decide ((x:Int) < (l.length:Int))) ((0<=(x:Int)/\(x:Int) < (l.length:Int))/\∀(d:Int),l[(x:Int).toNat]?=some d->(0<=(x:Int)/\(x:Int) < (m.length:Int))/\∀(dH:Int),m[(x:Int).toNat]?=some dH->br (!decide (d=dH)) z2 (iR ((x:Int)+(1:Int))/\∃x',(z1 x')/\(cI ((x:Int)+(1:Int))=cI (x':Int)/\True)/\([]:List dP)=[]/\l.length - x' < l.length - x)) (qB (decide (l=m)) true)):=by
 conv=>zeta
 delta dP cI qB iR;have hp:l.length<=1000000:=aA;have fF:l≠m->([]:List Go.jw.aj)=[]/\aW.one (SV.c (SC.v (Value.bool (decide (l=m)))))=aW.one (SV.c (SC.v (Value.bool false))):=λq=>⟨rfl,by rw[yS q]⟩
 refine ah.2 ⟨λh=>fF λq=>?_,λh=>?_⟩
 .subst q;simp at h
 simp only[uP,dG]at h;refine⟨⟨0,⟨by omega,λj hj=>by omega⟩,⟨rfl,trivial⟩,rfl⟩,λk hk=>ah.2 ⟨λg=>?_,λg=>?_⟩⟩
 .simp only[dG]at g;refine⟨⟨by omega,by omega⟩,λd hd=>⟨⟨by omega,by omega⟩,λd1 hd1=>ah.2 ⟨λg2=>fF λq=>?_,λg2=>⟨au.2 (by omega),k+1,⟨by omega,λj hj=>?_⟩,⟨rfl,trivial⟩,rfl,by omega⟩⟩⟩⟩
  .subst q;rw[hd]at hd1;cases hd1;simp at g2
  .by_cases gu:j=k
   .subst gu;have hd:l[j]?=some d:=hd;have hd1:m[j]?=some d1:=hd1;simp at g2;rw[hd,hd1,g2]
   .exact hk.2 j (by omega)
 simp only[A8]at g;have e:l=m:=by
  apply Dh;intro j
  by_cases hj:j < k
  .exact hk.2 j hj
  .rw[uD (by omega),uD (by omega)]
 exact⟨rfl,by rw[vg e]⟩
theorem ahP:aN aK.gd 83 ql:=
 bV (cx:=aK) (n:=26) (cl:=[]) (rc:=[]) ay trivial Tryz.func83 λd hd=>by
  obtain⟨l,m,⟨⟩⟩:=d;exact aI (aqF l m) (anC l m hd) (by kernel_rfl)
abbrev BX:CT:={ ps:=[qx,qx],pre:=λd=>aZ d.1,res:=λd=>([],vB (decide (d.1=d.2.1))) }
abbrev aqG(vs os:List Int) (qs:List (List Int)) (sg vs2 os2:List Int) (Eb:List (List Int)) (sg2:List Int):Nat->Option (St->iE):=λk=>match k with
 | 4=>some λ_=>.inv { α:=Nat,slots:=λk=>[(5,.c (.v (.int .i64 k)))],res:=λ_=>[],inv:=λk=>k<=qs.length/\∀j < k,qs[j]?=Eb[j]?,meas:=λk=>qs.length - k }
 | _=>none
theorem anD(vs os:List Int) (qs:List (List Int)) (sg vs2 os2:List Int) (Eb:List (List Int)) (sg2:List Int) (aA:BX.pre ((vs,os,qs,sg,()),(vs2,os2,Eb,sg2,()),())):
 let z4:=decide ((vs,os,qs,sg,())=(vs2,os2,Eb,sg2,()));let z2:=qB z4 false;let z3:=λ(x:Nat)=>(x<=qs.length/\∀(j:Nat),j < x->qs[j]?=Eb[j]?);let z1:=[g0 (aj.blk 34 [SC.sl I6 vs,SC.sl I6 os,SC.sl I6.sl qs,SC.sl I6 sg]),g0 (aj.blk 34 [SC.sl I6 vs2,SC.sl I6 os2,SC.sl I6.sl Eb,SC.sl I6 sg2])];vs.length<=1000000/\((!!decide (vs=vs2))=true->os.length<=1000000)/\((!(!decide (vs=vs2) || !decide (os=os2)))=true->sg.length<=1000000)/\br (!decide (vs=vs2) || !decide (os=os2) || !decide (sg=sg2) || !decide ((qs.length:Int)=(Eb.length:Int))) z2 ((∃x,(z3 x)/\(cI 0=cI (x:Int)/\True)/\sm z1)/\∀(x:Nat),(z3 x)->br (decide ((x:Int) < (qs.length:Int))) ((0<=(x:Int)/\(x:Int) < (qs.length:Int))/\∀(d:List Int),qs[(x:Int).toNat]?=some d->(0<=(x:Int)/\(x:Int) < (Eb.length:Int))/\∀(dH:List Int),Eb[(x:Int).toNat]?=some dH->d.length<=1000000/\br (!decide (d=dH)) z2 (iR ((x:Int)+(1:Int))/\∃x',(z3 x')/\(cI ((x:Int)+(1:Int))=cI (x':Int)/\True)/\sm z1/\qs.length - x' < qs.length - x)) (qB z4 true)):=by
 conv=>zeta
 delta cI g0 qB sm I6 iR;obtain⟨b1,b2,b3,b4,b5,b6⟩:vs.length<=1000/\os.length<=1000/\qs.length<=1000/\sg.length<=1000/\(∀q∈qs,q.length<=1000)/\qs.flatten.length<=100000:=aA;have fF:(vs,os,qs,sg,())≠(vs2,os2,Eb,sg2,())->([]:List Go.jw.aj)=[]/\aW.one (SV.c (SC.v (Value.bool (decide ((vs,os,qs,sg,())=(vs2,os2,Eb,sg2,()))))))=aW.one (SV.c (SC.v (Value.bool false))):=λq=>⟨rfl,by rw[yS q]⟩
 refine⟨by omega,λ_=>by omega,λ_=>by omega,ah.2 ⟨λh=>fF λq=>?_,λh=>?_⟩⟩
 .cases q;simp at h
 simp only[lM,uP,dG]at h;obtain⟨⟨⟨rfl,rfl⟩,rfl⟩,h⟩:=h;refine⟨⟨0,⟨by omega,λj hj=>by omega⟩,⟨rfl,trivial⟩,rfl⟩,λk hk=>ah.2 ⟨λg=>?_,λg=>?_⟩⟩
 .simp only[dG]at g;refine⟨⟨by omega,by omega⟩,λd hd=>⟨⟨by omega,by omega⟩,λd1 hd1=>⟨?_,ah.2 ⟨λg2=>fF λq=>?_,λg2=>⟨au.2 (by omega),k+1,⟨by omega,λj hj=>?_⟩,⟨rfl,trivial⟩,rfl,by omega⟩⟩⟩⟩⟩
  .have:=b5 d (gQ hd);omega
  .cases q;rw[hd]at hd1;cases hd1;simp at g2
  .by_cases gu:j=k
   .subst gu;have hd:qs[j]?=some d:=hd;have hd1:Eb[j]?=some d1:=hd1;simp at g2;rw[hd,hd1,g2]
   .exact hk.2 j (by omega)
 simp only[A8]at g;have e:qs=Eb:=by
  apply Dh;intro j
  by_cases hj:j < k
  .exact hk.2 j hj
  .rw[uD (by omega),uD (by omega)]
 subst e;exact⟨rfl,by rw[vg rfl]⟩
theorem ahQ:aN aK.gd 37 BX:=
 bV (cx:=aK) (n:=56) (cl:=[(83,ql)]) (rc:=[]) ay ⟨ahP,trivial⟩ Tryz.func37 λd hd=>by
  obtain⟨⟨vs,os,qs,sg,⟨⟩⟩,⟨vs2,os2,Eb,sg2,⟨⟩⟩,⟨⟩⟩:=d;exact aI (aqG vs os qs sg vs2 os2 Eb sg2) (anD vs os qs sg vs2 os2 Eb sg2 hd) (by kernel_rfl)
theorem Td(k:Nat):uJ (λj=>decide (j < k)) k=λj=>decide (j < k+1):=by
 funext j;unfold uJ
 by_cases h:j=k
 .subst h;simp
 .simp[h];omega
theorem Po{d:List Int} (h:qs[k]?=some d):(qs.take k++List.replicate (qs.length - k) []).set k d=qs.take (k+1)++List.replicate (qs.length - (k+1)) []:=by
 obtain⟨hk,_⟩:=eX.1 h;rw[ael _ _ (by rw[kH];omega),kH,show k - min k qs.length=0 by omega,show qs.length - k=(qs.length - (k+1))+1 by omega,Ym,Yn,Hf,h]
 simp
theorem Az(h:k<=qs.length):(qs.take k++List.replicate (qs.length - k) []).length=qs.length:=by simp;omega
theorem Pq(h:¬k < qs.length) (h':k<=qs.length):qs.take k++List.replicate (qs.length - k) []=qs:=by
 have:k=qs.length:=by omega
 subst this;simp
theorem Tf:CQ=λj=>decide (j < 0):=by funext j;simp
abbrev Jr:CT:={ ps:=[qx],pre:=λd=>aZ d.1,res:=λd=>([.row 3 (.int .i64) (d.1.1),.row 3 (.int .i64) (d.1.2.1),.deep 31 (.sl (.int .i64)) (d.1.2.2.1) 3 (.int .i64) 0 (λj=>decide (j < d.1.2.2.1.length)) [],.row 3 (.int .i64) (d.1.2.2.2.1)],.one (.agg [(.row 0),(.row 1),(.row 2),(.row 3)])) }
abbrev aqH(vs os:List Int) (qs:List (List Int)) (sg:List Int):Nat->Option (St->iE):=λk=>match k with
 | 2=>some λ_=>.cut { α:=Nat,pad:=5,can:=[(2,.slot 3),(3,.cell 2 0),(4,.cell 2 1),(5,.cell 2 2),(6,.cell 2 3)],slots:=λ_=>[(3,.c (.own 2 0))],res:=λ_=>[(2,.blk 34 [.row 3,.row 4,.row 5,.row 6]),(3,.row 3 (.int .i64) (vs)),(4,.row 3 (.int .i64) (os)),(5,.row 31 (.sl (.int .i64)) (List.replicate qs.length [])),(6,.row 3 (.int .i64) (sg))],inv:=λu=>u=0,meas:=λ_=>0 }
 | 3=>some λ_=>.inv { α:=Nat,deep:=[(5,3,.int .i64,0)],slots:=λk=>[(23,.c (.v (.int .i64 k)))],res:=λk=>[(5,.deep 31 (.sl (.int .i64)) (qs.take k++List.replicate (qs.length - k) []) 3 (.int .i64) 0 (λj=>decide (j < k)) [])],inv:=λk=>k<=qs.length,meas:=λk=>qs.length - k }
 | _=>none
abbrev jV:=[iN,iN,iN,iN]
abbrev GV:=[SC.row 3,SC.row 4,SC.row 5,SC.row 6]
abbrev iG:Prop:=SV.c (SC.own 2 0)=SV.c (SC.own 2 0)/\True
abbrev Pv:=[SC.row 0,SC.row 1,SC.row 2,SC.row 3]
abbrev kq8:=[SC.row 0,SC.row (Nat.succ 0),SC.row (Nat.succ 0).succ,SC.row (Nat.succ 0).succ.succ]
theorem anE(vs os:List Int) (qs:List (List Int)) (sg:List Int) (aA:Jr.pre ((vs,os,qs,sg,()),())):
 let z9:=0<=(qs.length:Int)/\(qs.length:Int)<=(qs.length:Int)/\jY (qs.length:Int).toNat 24;let z10:=[SC.sl I6 vs,SC.sl I6 os,SC.sl I6.sl qs,SC.sl I6 sg];let z7:=[g0 (aj.blk 34 z10),g0 (aj.blk 34 jV),g0 (aj.blk 34 GV),g0 (aj.row 3 I6 vs),g0 (aj.row 3 I6 os),g0 (aj.row 31 I6.sl (List.replicate (qs.length:Int).toNat [])),g0 (aj.row 3 I6 sg)];let z12:=List.replicate qs.length [];let z8:=[g0 (aj.blk 34 z10),g0 (aj.blk 34 jV),g0 (aj.blk 34 GV),g0 (aj.row 3 I6 vs),g0 (aj.row 3 I6 os),g0 (aj.row 31 I6.sl z12),g0 (aj.row 3 I6 sg)];let z5:=(∃v,v=0/\iG/\z7=z8);let z3:=(sg.length<=1000000/\z5/\∃v,v=0/\iG/\z7=z8);let z4:=(z9/\sg.length<=1000000/\∃v,v=0/\iG/\z7=z8);let z1:=(os.length<=1000000/\z3/\sg.length<=1000000/\∃v,v=0/\iG/\z7=z8);let z2:=(os.length<=1000000/\z4/\sg.length<=1000000/\z9/\∃v,v=0/\iG/\z7=z8);let z11:=λ(x:Nat)=>List.take x qs++List.replicate (qs.length - x) [];let z6:=λ(x:Nat)=>[g0 (aj.blk 34 z10),g0 (aj.blk 34 jV),g0 (aj.blk 34 GV),g0 (aj.row 3 I6 vs),g0 (aj.row 3 I6 os),g0 (aj.deep 31 I6.sl (z11 x) 3 I6 0 (λj=>decide (j < x)) []),g0 (aj.row 3 I6 sg)];((vs.length<=1000000/\(os.length<=1000000/\(z9/\z3/\sg.length<=1000000/\∃v,v=0/\iG/\z7=z8)/\(sg.length<=1000000/\(z9/\z5/\∃v,v=0/\iG/\z7=z8)/\z9/\∃v,v=0/\iG/\z7=z8)/\z4/\sg.length<=1000000/\z9/\∃v,v=0/\iG/\z7=z8)/\(z9/\z1/\os.length<=1000000/\sg.length<=1000000/\∃v,v=0/\iG/\z7=z8)/\z2/\z9/\os.length<=1000000/\sg.length<=1000000/\∃v,v=0/\iG/\z7=z8)/\(z9/\(vs.length<=1000000/\z1/\os.length<=1000000/\sg.length<=1000000/\∃v,v=0/\iG/\z7=z8)/\vs.length<=1000000/\os.length<=1000000/\sg.length<=1000000/\∃v,v=0/\iG/\z7=z8)/\(vs.length<=1000000/\z2/\z9/\os.length<=1000000/\sg.length<=1000000/\∃v,v=0/\iG/\z7=z8)/\z9/\vs.length<=1000000/\os.length<=1000000/\sg.length<=1000000/\∃v,v=0/\iG/\z7=z8)/\∀(v:Nat),v=0->(∃x,x<=qs.length/\(cI 0=cI (x:Int)/\True)/\[g0 (aj.blk 34 z10),g0 (aj.blk 34 jV),g0 (aj.blk 34 GV),g0 (aj.row 3 I6 vs),g0 (aj.row 3 I6 os),g0 (aj.deep 31 I6.sl z12 3 I6 0 CQ []),g0 (aj.row 3 I6 sg)]=(z6 x))/\∀(x:Nat),x<=qs.length->br (decide ((x:Int) < (qs.length:Int))) ((0<=(x:Int)/\(x:Int) < (qs.length:Int))/\∀(d:List Int),qs[(x:Int).toNat]?=some d->d.length<=1000000/\(0<=(x:Int)/\(x:Int) < (↑(z11 x).length:Int))/\(x:Int).toNat < (z11 x).length/\∀(e0:List Int),(z11 x)[(x:Int).toNat]?=some e0->iR ((x:Int)+(1:Int))/\∃x',x'<=qs.length/\(cI ((x:Int)+(1:Int))=cI (x':Int)/\True)/\[g0 (aj.blk 34 z10),g0 (aj.blk 34 jV),g0 (aj.blk 34 GV),g0 (aj.row 3 I6 vs),g0 (aj.row 3 I6 os),g0 (aj.deep 31 I6.sl ((z11 x).set (x:Int).toNat (d)) 3 I6 0 (uJ (λj=>decide (j < x)) (x:Int).toNat) []),g0 (aj.row 3 I6 sg)]=(z6 x')/\qs.length - x' < qs.length - x) ([aj.row 3 I6 vs,aj.row 3 I6 os,aj.deep 31 I6.sl qs 3 I6 0 (λj=>decide (j < List.length (vs,os,qs,sg,()).snd.snd.fst)) [],aj.row 3 I6 sg]=[aj.row 3 I6 vs,aj.row 3 I6 os,aj.deep 31 I6.sl (z11 x) 3 I6 0 (λj=>decide (j < x)) [],aj.row 3 I6 sg]/\aW.one (SV.agg Pv)=aW.one (SV.agg kq8)):=by
 conv=>zeta
 delta jV GV iG Pv kq8 cI g0 I6 iR iN;obtain⟨b1,b2,b3,b4,b5,b6⟩:vs.length<=1000/\os.length<=1000/\qs.length<=1000/\sg.length<=1000/\(∀q∈qs,q.length<=1000)/\qs.flatten.length<=100000:=aA;refine⟨?_,λu hu=>⟨⟨0,by omega,⟨rfl,trivial⟩,?_⟩,λk hk=>ah.2 ⟨λg=>?_,λg=>?_⟩⟩⟩
 .have hA:jY (qs.length:Int).toNat 24:=bJ.2 (by omega)
  repeat' first | exact⟨0,rfl,⟨rfl,trivial⟩,rfl⟩ | (refine And.intro ?_ ?_) | omega | exact hA
 .rw[Tf];simp
 .simp only[dG]at g;refine⟨⟨by omega,by omega⟩,λd hd=>⟨?_,⟨by omega,?_⟩,?_,λe0 he=>⟨au.2 (by omega),k+1,by omega,⟨rfl,trivial⟩,?_,by omega⟩⟩⟩
  .have:=b5 d (gQ hd);omega
  .rw[Az hk];omega
  .rw[Az hk];show k < _;omega
  .have hd:qs[k]?=some d:=hd;have e1:(qs.take k++List.replicate (qs.length - k) []).set (k:Int).toNat d=qs.take (k+1)++List.replicate (qs.length - (k+1)) []:=Po hd;have e2:uJ (λj=>decide (j < k)) (k:Int).toNat=λj=>decide (j < k+1):=Td k
   rw[e2];exact oW (λz=>_ :: _ :: _ :: _ :: _ :: (([]:Go.jw.Gd),aj.deep 31 (Sh.int IntKind.i64).sl z 3 (Sh.int IntKind.i64) 0 (λj=>decide (j < k+1)) []) :: _) e1
 simp only[A8]at g;have ek:k=qs.length:=by omega
 subst ek;exact⟨by rw[Pq (by omega) hk],rfl⟩
theorem ahR:aN aK.gd 49 Jr:=
 bV (cx:=aK) (n:=36) (cl:=[(107,Jq)]) (rc:=[]) ay ⟨Aw,trivial⟩ Tryz.func49 λd hd=>by
  obtain⟨⟨vs,os,qs,sg,⟨⟩⟩,⟨⟩⟩:=d;exact aI (aqH vs os qs sg) (anE vs os qs sg hd) (by kernel_rfl)
abbrev nX:CT:={ ps:=[qx],pre:=λd=>aZ d.1,res:=λd=>([.row 3 (.int .i64) (d.1.1),.row 3 (.int .i64) (d.1.2.1),.row 31 (.sl (.int .i64)) (d.1.2.2.1),.row 3 (.int .i64) (d.1.2.2.2.1)],.one (.agg [(.row 0),(.row 1),(.row 2),(.row 3)])) }
abbrev anF(vs os:List Int) (qs:List (List Int)) (sg:List Int):Nat->Option (St->iE):=λk=>match k with
 | 2=>some λ_=>.cut { α:=Nat,pad:=5,can:=[(2,.slot 3),(3,.cell 2 0),(4,.cell 2 1),(5,.cell 2 2),(6,.cell 2 3)],slots:=λ_=>[(3,.c (.own 2 0))],res:=λ_=>[(2,.blk 34 [.row 3,.row 4,.row 5,.row 6]),(3,.row 3 (.int .i64) (vs)),(4,.row 3 (.int .i64) (os)),(5,.row 31 (.sl (.int .i64)) (List.replicate qs.length [])),(6,.row 3 (.int .i64) (sg))],inv:=λu=>u=0,meas:=λ_=>0 }
 | 3=>some λ_=>.inv { α:=Nat,slots:=λk=>[(23,.c (.v (.int .i64 k)))],res:=λk=>[(5,.row 31 (.sl (.int .i64)) (qs.take k++List.replicate (qs.length - k) []))],inv:=λk=>k<=qs.length,meas:=λk=>qs.length - k }
 | _=>none
theorem ahS(vs os:List Int) (qs:List (List Int)) (sg:List Int) (aA:nX.pre ((vs,os,qs,sg,()),())):
 let z9:=0<=(qs.length:Int)/\(qs.length:Int)<=(qs.length:Int)/\jY (qs.length:Int).toNat 24;let z10:=[SC.sl I6 vs,SC.sl I6 os,SC.sl I6.sl qs,SC.sl I6 sg];let z7:=[g0 (aj.blk 34 z10),g0 (aj.blk 34 jV),g0 (aj.blk 34 GV),g0 (aj.row 3 I6 vs),g0 (aj.row 3 I6 os),g0 (aj.row 31 I6.sl (List.replicate (qs.length:Int).toNat [])),g0 (aj.row 3 I6 sg)];let z8:=[g0 (aj.blk 34 z10),g0 (aj.blk 34 jV),g0 (aj.blk 34 GV),g0 (aj.row 3 I6 vs),g0 (aj.row 3 I6 os),g0 (aj.row 31 I6.sl (List.replicate qs.length [])),g0 (aj.row 3 I6 sg)];let z5:=(∃v,v=0/\iG/\z7=z8);let z3:=(sg.length<=1000000/\z5/\∃v,v=0/\iG/\z7=z8);let z4:=(z9/\sg.length<=1000000/\∃v,v=0/\iG/\z7=z8);let z1:=(os.length<=1000000/\z3/\sg.length<=1000000/\∃v,v=0/\iG/\z7=z8);let z2:=(os.length<=1000000/\z4/\sg.length<=1000000/\z9/\∃v,v=0/\iG/\z7=z8);let z11:=λ(x:Nat)=>List.take x qs++List.replicate (qs.length - x) [];let z6:=λ(x:Nat)=>[g0 (aj.blk 34 z10),g0 (aj.blk 34 jV),g0 (aj.blk 34 GV),g0 (aj.row 3 I6 vs),g0 (aj.row 3 I6 os),g0 (aj.row 31 I6.sl (z11 x)),g0 (aj.row 3 I6 sg)];((vs.length<=1000000/\(os.length<=1000000/\(z9/\z3/\sg.length<=1000000/\∃v,v=0/\iG/\z7=z8)/\(sg.length<=1000000/\(z9/\z5/\∃v,v=0/\iG/\z7=z8)/\z9/\∃v,v=0/\iG/\z7=z8)/\z4/\sg.length<=1000000/\z9/\∃v,v=0/\iG/\z7=z8)/\(z9/\z1/\os.length<=1000000/\sg.length<=1000000/\∃v,v=0/\iG/\z7=z8)/\z2/\z9/\os.length<=1000000/\sg.length<=1000000/\∃v,v=0/\iG/\z7=z8)/\(z9/\(vs.length<=1000000/\z1/\os.length<=1000000/\sg.length<=1000000/\∃v,v=0/\iG/\z7=z8)/\vs.length<=1000000/\os.length<=1000000/\sg.length<=1000000/\∃v,v=0/\iG/\z7=z8)/\(vs.length<=1000000/\z2/\z9/\os.length<=1000000/\sg.length<=1000000/\∃v,v=0/\iG/\z7=z8)/\z9/\vs.length<=1000000/\os.length<=1000000/\sg.length<=1000000/\∃v,v=0/\iG/\z7=z8)/\∀(v:Nat),v=0->(∃x,x<=qs.length/\(cI 0=cI (x:Int)/\True)/\z8=(z6 x))/\∀(x:Nat),x<=qs.length->br (decide ((x:Int) < (qs.length:Int))) ((0<=(x:Int)/\(x:Int) < (qs.length:Int))/\∀(d:List Int),qs[(x:Int).toNat]?=some d->d.length<=1000000/\(0<=(x:Int)/\(x:Int) < (↑(z11 x).length:Int))/\(x:Int).toNat < (z11 x).length/\iR ((x:Int)+(1:Int))/\∃x',x'<=qs.length/\(cI ((x:Int)+(1:Int))=cI (x':Int)/\True)/\[g0 (aj.blk 34 z10),g0 (aj.blk 34 jV),g0 (aj.blk 34 GV),g0 (aj.row 3 I6 vs),g0 (aj.row 3 I6 os),g0 (aj.row 31 I6.sl ((z11 x).set (x:Int).toNat (d))),g0 (aj.row 3 I6 sg)]=(z6 x')/\qs.length - x' < qs.length - x) ([aj.row 3 I6 vs,aj.row 3 I6 os,aj.row 31 I6.sl qs,aj.row 3 I6 sg]=[aj.row 3 I6 vs,aj.row 3 I6 os,aj.row 31 I6.sl (z11 x),aj.row 3 I6 sg]/\aW.one (SV.agg Pv)=aW.one (SV.agg kq8)):=by
 conv=>zeta
 delta jV GV iG Pv kq8 cI g0 I6 iR iN;obtain⟨b1,b2,b3,b4,b5,b6⟩:vs.length<=1000/\os.length<=1000/\qs.length<=1000/\sg.length<=1000/\(∀q∈qs,q.length<=1000)/\qs.flatten.length<=100000:=aA;refine⟨?_,λu hu=>⟨⟨0,by omega,⟨rfl,trivial⟩,?_⟩,λk hk=>ah.2 ⟨λg=>?_,λg=>?_⟩⟩⟩
 .have hA:jY (qs.length:Int).toNat 24:=bJ.2 (by omega)
  repeat' first | exact⟨0,rfl,⟨rfl,trivial⟩,rfl⟩ | (refine And.intro ?_ ?_) | omega | exact hA
 .simp
 .simp only[dG]at g;refine⟨⟨by omega,by omega⟩,λd hd=>⟨?_,⟨by omega,?_⟩,?_,⟨au.2 (by omega),k+1,by omega,⟨rfl,trivial⟩,?_,by omega⟩⟩⟩
  .have:=b5 d (gQ hd);omega
  .rw[Az hk];omega
  .rw[Az hk];show k < _;omega
  .have hd:qs[k]?=some d:=hd;have e1:(qs.take k++List.replicate (qs.length - k) []).set (k:Int).toNat d=qs.take (k+1)++List.replicate (qs.length - (k+1)) []:=Po hd;exact oW (λz=>_ :: _ :: _ :: _ :: _ :: (([]:Go.jw.Gd),aj.row 31 (Sh.int IntKind.i64).sl z) :: _) e1
 simp only[A8]at g;have ek:k=qs.length:=by omega
 subst ek;exact⟨by rw[Pq (by omega) hk],rfl⟩
theorem sS:aN aK.gd 49 nX:=
 bV (cx:=aK) (n:=36) (cl:=[(107,Jq)]) (rc:=[]) ay ⟨Aw,trivial⟩ Tryz.func49 λd hd=>by
  obtain⟨⟨vs,os,qs,sg,⟨⟩⟩,⟨⟩⟩:=d;exact⟨anF vs os qs sg,cast (by kernel_rfl) (ahS vs os qs sg hd)⟩
def zM:MD:=([],[],[],[],())
def iq(m:MD) (i n:Int):Int:=if dI m=false then 1 else if i < 0\/n<=i then 11 else 0
def xK(m:MD) (x:Int):Int×Int:=if iq m x m.1.length=0 then(m.1[x.toNat]?.getD 0,0) else(0,iq m x m.1.length)
def writeM(m:MD) (x v:Int):MD×Int:=if iq m x m.1.length=0 then(if bY v=true then((m.1.set x.toNat v,m.2),0) else(zM,2)) else(zM,iq m x m.1.length)
def iw(m:MD) (i id Vp to:Int):MD×Int:=if iq m i m.2.1.length=0 then(if id < 0 then(zM,2) else if m.2.1[i.toNat]?.getD 0=Vp then((m.1,m.2.1.set i.toNat to,m.2.2),0) else(zM,30)) else(zM,iq m i m.2.1.length)
def mX(m:MD) (i:Int):Bool:=decide (iq m i m.2.1.length=0) && decide (m.2.1[i.toNat]?.getD 0 = -1)
def qm(m:MD) (id:Int):Bool:=m.2.2.1.any (λq=>dM q id) || dM m.2.2.2.1 id
theorem fP:iq m i n=0↔dI m=true/\0<=i/\i < n:=by
 unfold iq
 by_cases h:dI m=true
 .rw[if_neg (by simp[h])]
  split
  .simp[h];omega
  .simp[h];omega
 .rw[Bool.not_eq_true]at h;rw[if_pos h,h];simp
abbrev Df:CT:={ ps:=[qx,.int .i64,.int .i64],pre:=λd=>aZ d.1,res:=λd=>([],.one (.c (.v (.int .i64 (iq d.1 d.2.1 d.2.2.1))))) }
theorem ahT(vs os:List Int) (qs:List (List Int)) (sg:List Int) (i n:Int) (aA:Df.pre ((vs,os,qs,sg,()),i,n,())):
 let z2:=(vs,os,qs,sg,());let z1:=iq z2 i n;aZ z2/\br (!dI z2) (qI z1 (1:Int)) (br (decide (i < 0) || decide (n<=i)) (qI z1 (11:Int)) (qI z1 (0:Int))):=by
 conv=>zeta
 delta qI;unfold iq;refine⟨aA,ah.2 ⟨λh=>⟨rfl,?_⟩,λh=>ah.2 ⟨λg=>⟨rfl,?_⟩,λg=>⟨rfl,?_⟩⟩⟩⟩
 .rw[if_pos (by simpa using h)]
 .rw[if_neg (by simpa using h),if_pos (by simpa using g)]
 .rw[if_neg (by simpa using h),if_neg (by simpa using g)]
theorem sU:aN aK.gd 158 Df:=
 bV (cx:=aK) (n:=17) (cl:=[(157,acY)]) (rc:=[]) ay ⟨GU,trivial⟩ Tryz.func158 λd hd=>by
  obtain⟨⟨vs,os,qs,sg,⟨⟩⟩,i,n,⟨⟩⟩:=d;exact aI (λ_=>none) (ahT vs os qs sg i n hd) (by kernel_rfl)
abbrev ahU:CT:={ ps:=[qx,.int .i64],pre:=λd=>aZ d.1,res:=λd=>([],.gY [.c (.v (.int .i64 ((xK d.1 d.2.1).1))),.c (.v (.int .i64 ((xK d.1 d.2.1).2)))]) }
theorem anG(vs os:List Int) (qs:List (List Int)) (sg:List Int) (x:Int) (aA:ahU.pre ((vs,os,qs,sg,()),x,())):
 let z3:=(vs,os,qs,sg,());let z2:=xK z3 x;let z1:=[cI (z2.fst),cI (z2.snd)];aZ z3/\br (!decide (iq z3 x (vs.length:Int)=(0:Int))) (rT z1 [cI 0,cI (iq z3 x (vs.length:Int))]) ((0<=x/\x < (vs.length:Int))/\∀(d:Int),vs[x.toNat]?=some d->rT z1 [cI d,cI 0]):=by
 conv=>zeta
 delta cI rT;unfold xK;refine⟨aA,ah.2 ⟨λh=>⟨rfl,?_⟩,λh=>?_⟩⟩
 .rw[if_neg (by simpa using h)]
 .have h:iq (vs,os,qs,sg,()) x vs.length=0:=by simpa using h
  have hx:=fP.1 h;refine⟨hx.2,λd hd=>⟨rfl,?_⟩⟩
  rw[if_pos h];simp[hd]
theorem Vq:aN aK.gd 96 ahU:=
 bV (cx:=aK) (n:=21) (cl:=[(158,Df)]) (rc:=[]) ay ⟨sU,trivial⟩ Tryz.func96 λd hd=>by
  obtain⟨⟨vs,os,qs,sg,⟨⟩⟩,x,⟨⟩⟩:=d;exact aI (λ_=>none) (anG vs os qs sg x hd) (by kernel_rfl)
abbrev XN:CT:={ ps:=[qx,.int .i64,.int .i64],pre:=λd=>aZ d.1,res:=λd=>([],.gY [.agg [.sl (.int .i64) ((writeM d.1 d.2.1 d.2.2.1).1).1,.sl (.int .i64) ((writeM d.1 d.2.1 d.2.2.1).1).2.1,.sl (.sl (.int .i64)) ((writeM d.1 d.2.1 d.2.2.1).1).2.2.1,.sl (.int .i64) ((writeM d.1 d.2.1 d.2.2.1).1).2.2.2.1],.c (.v (.int .i64 ((writeM d.1 d.2.1 d.2.2.1).2)))]) }
abbrev oU:=[SC.sl I6 [],SC.sl I6 [],SC.sl I6.sl [],SC.sl I6 []]
abbrev Ii:=[SV.agg [SC.sl I6 [],SC.sl I6 [],SC.sl I6.sl [],SC.sl I6 []],cI 2]
theorem ahV(vs os:List Int) (qs:List (List Int)) (sg:List Int) (x v:Int) (aA:XN.pre ((vs,os,qs,sg,()),x,v,())):
 let z3:=(vs,os,qs,sg,());let z2:=writeM z3 x v;let z1:=[SV.agg [SC.sl I6 z2.fst.fst,SC.sl I6 z2.fst.snd.fst,SC.sl I6.sl z2.fst.snd.snd.fst,SC.sl I6 z2.fst.snd.snd.snd.fst],cI (z2.snd)];aZ z3/\br (!decide (iq z3 x (vs.length:Int)=(0:Int))) (rT z1 [SV.agg oU,cI (iq z3 x (vs.length:Int))]) (br (decide (v < (-2147483648)) || decide (2147483647 < v)) (rT z1 Ii) (aZ z3/\(0<=x/\x < (vs.length:Int))/\x.toNat < vs.length/\rT z1 [SV.agg [SC.sl I6 (vs.set x.toNat v),SC.sl I6 os,SC.sl I6.sl qs,SC.sl I6 sg],cI 0])):=by
 conv=>zeta
 delta oU Ii cI rT I6;unfold writeM;refine⟨aA,ah.2 ⟨λh=>⟨rfl,?_⟩,λh=>?_⟩⟩
 .rw[if_neg (by simpa using h)];rfl
 .have h:iq (vs,os,qs,sg,()) x vs.length=0:=by simpa using h
  have hx:=fP.1 h;rw[if_pos h];refine ah.2 ⟨λg=>⟨rfl,?_⟩,λg=>⟨aA,hx.2,by omega,rfl,?_⟩⟩
  .rw[if_neg (by rw[mG];simp at g;omega)];rfl
  .rw[if_pos (by rw[mG];simp at g;omega)]
theorem acZ:aN aK.gd 100 XN:=
 bV (cx:=aK) (n:=35) (cl:=[(158,Df),(49,nX)]) (rc:=[.data qx,.keep]) ay ⟨sU,sS,trivial⟩ Tryz.func100 λd hd=>by
  obtain⟨⟨vs,os,qs,sg,⟨⟩⟩,x,v,⟨⟩⟩:=d;exact aI (λ_=>none) (ahV vs os qs sg x v hd) (by kernel_rfl)
abbrev Px:CT:={ ps:=[qx,.int .i64],pre:=λd=>aZ d.1,res:=λd=>([],vB (mX d.1 d.2.1)) }
theorem anH(vs os:List Int) (qs:List (List Int)) (sg:List Int) (i:Int) (aA:Px.pre ((vs,os,qs,sg,()),i,())):
 let z2:=(vs,os,qs,sg,());let z1:=iq z2 i (os.length:Int)=(0:Int);aZ z2/\(decide z1=true->0<=i/\i < (os.length:Int))/\∀(d:Int),(decide z1=true->os[i.toNat]?=some d)->qB (mX z2 i) (decide z1 && decide (d=(-1))):=by
 conv=>zeta
 delta qB;unfold mX;refine⟨aA,λh=>(fP.1 (by simpa using h)).2,λd hd=>⟨rfl,?_⟩⟩
 by_cases h:iq (vs,os,qs,sg,()) i os.length=0
 .have:=hd (by simpa using h)
  simp[this]
 .simp[h]
theorem Vr:aN aK.gd 87 Px:=
 bV (cx:=aK) (n:=20) (cl:=[(158,Df)]) (rc:=[]) ay ⟨sU,trivial⟩ Tryz.func87 λd hd=>by
  obtain⟨⟨vs,os,qs,sg,⟨⟩⟩,i,⟨⟩⟩:=d;exact aI (λ_=>none) (anH vs os qs sg i hd) (by kernel_rfl)
abbrev Vs:CT:={ ps:=[qx,.int .i64,.int .i64,.int .i64,.int .i64],pre:=λd=>aZ d.1,res:=λd=>([],.gY [.agg [.sl (.int .i64) ((iw d.1 d.2.1 d.2.2.1 d.2.2.2.1 d.2.2.2.2.1).1).1,.sl (.int .i64) ((iw d.1 d.2.1 d.2.2.1 d.2.2.2.1 d.2.2.2.2.1).1).2.1,.sl (.sl (.int .i64)) ((iw d.1 d.2.1 d.2.2.1 d.2.2.2.1 d.2.2.2.2.1).1).2.2.1,.sl (.int .i64) ((iw d.1 d.2.1 d.2.2.1 d.2.2.2.1 d.2.2.2.2.1).1).2.2.2.1],.c (.v (.int .i64 ((iw d.1 d.2.1 d.2.2.1 d.2.2.2.1 d.2.2.2.2.1).2)))]) }
abbrev LP:=[SV.agg [SC.sl I6 [],SC.sl I6 [],SC.sl I6.sl [],SC.sl I6 []],cI 30]
theorem ahW(vs os:List Int) (qs:List (List Int)) (sg:List Int) (i id Vp to:Int) (aA:Vs.pre ((vs,os,qs,sg,()),i,id,Vp,to,())):
 let z4:=(vs,os,qs,sg,());let z2:=iw z4 i id Vp to;let z1:=[SV.agg [SC.sl I6 z2.fst.fst,SC.sl I6 z2.fst.snd.fst,SC.sl I6.sl z2.fst.snd.snd.fst,SC.sl I6 z2.fst.snd.snd.snd.fst],cI (z2.snd)];let z3:=0<=i/\i < (os.length:Int);aZ z4/\br (!decide (iq z4 i (os.length:Int)=(0:Int))) (rT z1 [SV.agg oU,cI (iq z4 i (os.length:Int))]) (br (decide (id < 0)) (rT z1 Ii) (z3/\∀(d:Int),os[i.toNat]?=some d->br (!decide (d=Vp)) (rT z1 LP) (aZ z4/\z3/\i.toNat < os.length/\rT z1 [SV.agg [SC.sl I6 vs,SC.sl I6 (os.set i.toNat to),SC.sl I6.sl qs,SC.sl I6 sg],cI 0]))):=by
 conv=>zeta
 delta oU Ii LP cI rT I6;unfold iw;refine⟨aA,ah.2 ⟨λh=>⟨rfl,?_⟩,λh=>?_⟩⟩
 .rw[if_neg (by simpa using h)];rfl
 .have h:iq (vs,os,qs,sg,()) i os.length=0:=by simpa using h
  have hx:=fP.1 h;rw[if_pos h];refine ah.2 ⟨λg=>⟨rfl,?_⟩,λg=>⟨hx.2,λd hd=>?_⟩⟩
  .rw[if_pos (by simpa using g)];rfl
  .rw[if_neg (by simpa using g)]
   have e:(vs,os,qs,sg,()).2.1[i.toNat]?.getD 0=d:=by simp[hd]
   rw[e];refine ah.2 ⟨λg2=>⟨rfl,?_⟩,λg2=>⟨aA,hx.2,by omega,rfl,?_⟩⟩
   .rw[if_neg (by simpa using g2)];rfl
   .rw[if_pos (by simpa using g2)]
theorem Py:aN aK.gd 163 Vs:=
 bV (cx:=aK) (n:=43) (cl:=[(158,Df),(49,nX)]) (rc:=[.data qx,.keep]) ay ⟨sU,sS,trivial⟩ Tryz.func163 λd hd=>by
  obtain⟨⟨vs,os,qs,sg,⟨⟩⟩,i,id,Vp,to,⟨⟩⟩:=d;exact aI (λ_=>none) (ahW vs os qs sg i id Vp to hd) (by kernel_rfl)
abbrev Js:CT:={ ps:=[qx,.int .i64,.int .i64],pre:=λd=>aZ d.1,res:=λd=>([],.gY [.agg [.sl (.int .i64) ((iw d.1 d.2.1 d.2.2.1 (-1) d.2.2.1).1).1,.sl (.int .i64) ((iw d.1 d.2.1 d.2.2.1 (-1) d.2.2.1).1).2.1,.sl (.sl (.int .i64)) ((iw d.1 d.2.1 d.2.2.1 (-1) d.2.2.1).1).2.2.1,.sl (.int .i64) ((iw d.1 d.2.1 d.2.2.1 (-1) d.2.2.1).1).2.2.2.1],.c (.v (.int .i64 ((iw d.1 d.2.1 d.2.2.1 (-1) d.2.2.1).2)))]) }
theorem ahX(vs os:List Int) (qs:List (List Int)) (sg:List Int) (i id:Int) (aA:Js.pre ((vs,os,qs,sg,()),i,id,())):
 let z2:=iw (vs,os,qs,sg,()) i id (-1:Int) id;let z1:=z2.snd;aZ (vs,os,qs,sg,())/\rT [SV.agg [SC.sl I6 z2.fst.fst,SC.sl I6 z2.fst.snd.fst,SC.sl I6.sl z2.fst.snd.snd.fst,SC.sl I6 z2.fst.snd.snd.snd.fst],cI z1] [SV.agg [SC.sl I6 (z2.fst.fst,z2.fst.snd.fst,z2.fst.snd.snd.fst,z2.fst.snd.snd.snd.fst,()).fst,SC.sl I6 (z2.fst.snd.fst,z2.fst.snd.snd.fst,z2.fst.snd.snd.snd.fst,()).fst,SC.sl I6.sl (z2.fst.snd.snd.fst,z2.fst.snd.snd.snd.fst,()).fst,SC.sl I6 z2.fst.snd.snd.snd.fst],cI z1]:=by
 conv=>zeta
 delta cI rT I6;exact⟨aA,rfl,rfl⟩
theorem ac0:aN aK.gd 101 Js:=
 bV (cx:=aK) (n:=15) (cl:=[(163,Vs)]) (rc:=[.data qx,.keep]) ay ⟨Py,trivial⟩ Tryz.func101 λd hd=>by
  obtain⟨⟨vs,os,qs,sg,⟨⟩⟩,i,id,⟨⟩⟩:=d;exact aI (λ_=>none) (ahX vs os qs sg i id hd) (by kernel_rfl)
abbrev Jt:CT:={ ps:=[qx,.int .i64,.int .i64],pre:=λd=>aZ d.1,res:=λd=>([],.gY [.agg [.sl (.int .i64) ((iw d.1 d.2.1 d.2.2.1 d.2.2.1 (-1)).1).1,.sl (.int .i64) ((iw d.1 d.2.1 d.2.2.1 d.2.2.1 (-1)).1).2.1,.sl (.sl (.int .i64)) ((iw d.1 d.2.1 d.2.2.1 d.2.2.1 (-1)).1).2.2.1,.sl (.int .i64) ((iw d.1 d.2.1 d.2.2.1 d.2.2.1 (-1)).1).2.2.2.1],.c (.v (.int .i64 ((iw d.1 d.2.1 d.2.2.1 d.2.2.1 (-1)).2)))]) }
theorem ahY(vs os:List Int) (qs:List (List Int)) (sg:List Int) (i id:Int) (aA:Jt.pre ((vs,os,qs,sg,()),i,id,())):
 let z2:=iw (vs,os,qs,sg,()) i id id (-1:Int);let z1:=z2.snd;aZ (vs,os,qs,sg,())/\rT [SV.agg [SC.sl I6 z2.fst.fst,SC.sl I6 z2.fst.snd.fst,SC.sl I6.sl z2.fst.snd.snd.fst,SC.sl I6 z2.fst.snd.snd.snd.fst],cI z1] [SV.agg [SC.sl I6 (z2.fst.fst,z2.fst.snd.fst,z2.fst.snd.snd.fst,z2.fst.snd.snd.snd.fst,()).fst,SC.sl I6 (z2.fst.snd.fst,z2.fst.snd.snd.fst,z2.fst.snd.snd.snd.fst,()).fst,SC.sl I6.sl (z2.fst.snd.snd.fst,z2.fst.snd.snd.snd.fst,()).fst,SC.sl I6 z2.fst.snd.snd.snd.fst],cI z1]:=by
 conv=>zeta
 delta cI rT I6;exact⟨aA,rfl,rfl⟩
theorem ac1:aN aK.gd 102 Jt:=
 bV (cx:=aK) (n:=15) (cl:=[(163,Vs)]) (rc:=[.data qx,.keep]) ay ⟨Py,trivial⟩ Tryz.func102 λd hd=>by
  obtain⟨⟨vs,os,qs,sg,⟨⟩⟩,i,id,⟨⟩⟩:=d;exact aI (λ_=>none) (ahY vs os qs sg i id hd) (by kernel_rfl)
abbrev ac2:CT:={ ps:=[qx,.int .i64],pre:=λd=>aZ d.1,res:=λd=>([],vB (qm d.1 d.2.1)) }
abbrev anI(vs os:List Int) (qs:List (List Int)) (sg:List Int) (id:Int):Nat->Option (St->iE):=λk=>match k with
 | 2=>some λ_=>.inv { α:=Nat,slots:=λk=>[(10,.c (.v (.int .i64 k)))],res:=λk=>[],inv:=λk=>k<=(qs).length/\∀j < k,∀q,qs[j]?=some q->dM q id=false,meas:=λk=>(qs).length - k }
 | _=>none
theorem ahZ(vs os:List Int) (qs:List (List Int)) (sg:List Int) (id:Int) (aA:ac2.pre ((vs,os,qs,sg,()),id,())):
 let z1:=λ(x:Nat)=>(x<=qs.length/\∀(j:Nat),j < x->∀(q:List Int),qs[j]?=some q->dM q id=false);let z2:=[g0 (aj.blk 34 [SC.sl I6 vs,SC.sl I6 os,SC.sl I6.sl qs,SC.sl I6 sg])];let z3:=qm (vs,os,qs,sg,()) id;(∃x,(z1 x)/\(cI 0=cI (x:Int)/\True)/\sm z2)/\∀(x:Nat),(z1 x)->br (decide ((x:Int) < (qs.length:Int))) ((0<=(x:Int)/\(x:Int) < (qs.length:Int))/\∀(d:List Int),qs[(x:Int).toNat]?=some d->d.length<=4611686018427387904/\br (dM d id) (qB z3 true) (iR ((x:Int)+(1:Int))/\∃x',(z1 x')/\(cI ((x:Int)+(1:Int))=cI (x':Int)/\True)/\sm z2/\qs.length - x' < qs.length - x)) (sg.length<=1000000/\qB z3 (dM sg id)):=by
 conv=>zeta
 delta cI g0 qB sm I6 iR;obtain⟨b1,b2,b3,b4,b5,b6⟩:vs.length<=1000/\os.length<=1000/\qs.length<=1000/\sg.length<=1000/\(∀q∈qs,q.length<=1000)/\qs.flatten.length<=100000:=aA;refine⟨⟨0,⟨by omega,λj hj=>by omega⟩,⟨rfl,trivial⟩,rfl⟩,λk hk=>ah.2 ⟨λg=>?_,λg=>?_⟩⟩
 .simp only[dG]at g;refine⟨⟨by omega,by omega⟩,λd hd=>⟨?_,ah.2 ⟨λg2=>⟨rfl,?_⟩,λg2=>⟨au.2 (by omega),k+1,⟨by omega,λj hj q hq=>?_⟩,⟨rfl,trivial⟩,rfl,by omega⟩⟩⟩⟩
  .have:=b5 d (gQ hd);omega
  .have:qm (vs,os,qs,sg,()) id=true:=by
    unfold qm;rw[wX];exact .inl (MR.2 ⟨d,gQ hd,g2⟩)
   rw[this]
  .by_cases gu:j=k
   .subst gu;have hd:qs[j]?=some d:=hd;rw[hd]at hq;cases hq;exact g2
   .exact hk.2 j (by omega) q hq
 simp only[A8]at g;have:qm (vs,os,qs,sg,()) id=dM sg id:=by
  unfold qm;have:(qs.any λq=>dM q id)=false:=by
   rw[Wi];intro q hq;obtain⟨j,hj⟩:=yT hq;rw[hk.2 j (by have:=(eX.1 hj).1;omega) q hj];simp
  simp[this]
 exact⟨by omega,rfl,by rw[this]⟩
theorem ac3:aN aK.gd 164 ac2:=
 bV (cx:=aK) (n:=22) (cl:=[(98,Gh),(165,I9)]) (rc:=[]) ay ⟨Aa,Ad,trivial⟩ Tryz.func164 λd hd=>by
  obtain⟨⟨vs,os,qs,sg,⟨⟩⟩,id,⟨⟩⟩:=d;exact aI (anI vs os qs sg id) (ahZ vs os qs sg id hd) (by kernel_rfl)
def qo(m:MD) (c id:Int):MD×Int:=if iq m c m.2.2.1.length=0 then(if id < 0 then(zM,2) else if qm m id=true then(zM,30) else((m.1,m.2.1,m.2.2.1.set c.toNat (m.2.2.1[c.toNat]?.getD []++[id]),m.2.2.2),0)) else(zM,iq m c m.2.2.1.length)
def lJ(sg l:List Int):List Int:=l.foldl (λs x=>aX (s++[x])) sg
theorem Ti{sg:List Int}{d:Int} (h:l[k]?=some d):lJ sg (l.take (k+1))=aX (lJ sg (l.take k)++[d]):=by
 unfold lJ;rw[Hf,h];simp
theorem BZ:∀(l sg:List Int),(lJ sg l).length<=sg.length+l.length
 | [],sg=>by simp[lJ]
 | x :: l,sg=>by
   have:=BZ l (aX (sg++[x]));have h2:=Au (sg++[x]) [];have e:lJ sg (x :: l)=lJ (aX (sg++[x])) l:=rfl;rw[e];unfold aX at *;simp only[kK,sZ,AY]at *;omega
def oG(m:MD) (c n:Int):MD×Int×Int:=if iq m c m.2.2.1.length=0 then((m.1,m.2.1,m.2.2.1.set c.toNat ((m.2.2.1[c.toNat]?.getD []).drop (fV n ((m.2.2.1[c.toNat]?.getD []).length:Int)).toNat),lJ m.2.2.2.1 ((m.2.2.1[c.toNat]?.getD []).take (fV n ((m.2.2.1[c.toNat]?.getD []).length:Int)).toNat),()),fV n ((m.2.2.1[c.toNat]?.getD []).length:Int),0) else(zM,0,iq m c m.2.2.1.length)
def mY(m:MD) (id:Int):MD×Int:=if dI m=false then(zM,1) else if dM m.2.2.2.1 id=false then(zM,30) else((m.1,m.2.1,m.2.2.1,jr (aX m.2.2.2.1) [id] false,()),0)
def yO(vs:List VD) (ms cs:List ByteArray) (fs:List FD) (ts:List SD):MD×Int:=if(aB vs ms cs fs ts).1=0 then((vs.map (·.2.1),List.replicate ms.length (-1),List.replicate cs.length [],[],()),0) else(zM,(aB vs ms cs fs ts).1)
abbrev ac4:CT:={ ps:=[qx,.int .i64,.int .i64],pre:=λd=>aZ d.1,res:=λd=>([],.gY [.agg [.sl (.int .i64) ((qo d.1 d.2.1 d.2.2.1).1).1,.sl (.int .i64) ((qo d.1 d.2.1 d.2.2.1).1).2.1,.sl (.sl (.int .i64)) ((qo d.1 d.2.1 d.2.2.1).1).2.2.1,.sl (.int .i64) ((qo d.1 d.2.1 d.2.2.1).1).2.2.2.1],.c (.v (.int .i64 ((qo d.1 d.2.1 d.2.2.1).2)))]) }
theorem ah0(vs os:List Int) (qs:List (List Int)) (sg:List Int) (c id:Int) (aA:ac4.pre ((vs,os,qs,sg,()),c,id,())):
 let z8:=(vs,os,qs,sg,());let z6:=qo z8 c id;let z1:=[SV.agg [SC.sl I6 z6.fst.fst,SC.sl I6 z6.fst.snd.fst,SC.sl I6.sl z6.fst.snd.snd.fst,SC.sl I6 z6.fst.snd.snd.snd.fst],cI (z6.snd)];let z5:=0<=c/\c < (qs.length:Int);let z7:=c.toNat < qs.length;let z3:=decide z7=true/\c.toNat < qs.length;let z4:=λ(d:List Int)=>List.length (d)+List.length ([id]);let z2:=λ(d:List Int)=>[SV.agg [SC.sl I6 vs,SC.sl I6 os,SC.sl I6.sl (qs.set c.toNat ((d++[id]))),SC.sl I6 sg],cI 0];aZ z8/\br (!decide (iq z8 c (qs.length:Int)=(0:Int))) (rT z1 [SV.agg oU,cI (iq z8 c (qs.length:Int))]) (br (decide (id < 0)) (rT z1 Ii) (aZ z8/\br (qm z8 id) (rT z1 LP) (aZ z8/\z5/\c.toNat < qs.length/\∀(d:List Int),qs[c.toNat]?=some d->false=false/\(decide z7=true->(z3/\∀(d:List Int),qs[c.toNat]?=some d->jY (z4 d) 8/\z5/\c.toNat < qs.length/\c.toNat=c.toNat/\∀(e0:List Int),qs[c.toNat]?=some e0->rT z1 (z2 d))/\(z3/\∀(d:List Int),qs[c.toNat]?=some d->jY (z4 d) 8/\z5/\c.toNat < qs.length/\c.toNat=c.toNat/\∀(e0:List Int),qs[c.toNat]?=some e0->rT z1 (z2 d))/\z3/\∀(d:List Int),qs[c.toNat]?=some d->jY (z4 d) 8/\z5/\c.toNat < qs.length/\c.toNat=c.toNat/\∀(e0:List Int),qs[c.toNat]?=some e0->rT z1 (z2 d))/\(decide z7=false->False/\False/\False)))):=by
 conv=>zeta
 delta oU Ii LP cI rT I6;unfold qo;have hb:=aA;obtain⟨b1,b2,b3,b4,b5,b6⟩:vs.length<=1000/\os.length<=1000/\qs.length<=1000/\sg.length<=1000/\(∀q∈qs,q.length<=1000)/\qs.flatten.length<=100000:=aA;refine⟨hb,ah.2 ⟨λh=>⟨rfl,?_⟩,λh=>?_⟩⟩
 .rw[if_neg (by simpa using h)];rfl
 have h:iq (vs,os,qs,sg,()) c qs.length=0:=by simpa using h
 have hx:=fP.1 h;rw[if_pos h];refine ah.2 ⟨λg=>⟨rfl,?_⟩,λg=>⟨hb,ah.2 ⟨λw=>⟨rfl,?_⟩,λw=>⟨hb,hx.2,by omega,λd hd=>⟨rfl,?_⟩⟩⟩⟩⟩
 .rw[if_pos (by simpa using g)];rfl
 .rw[if_neg (by simpa using g),if_pos w];rfl
 rw[if_neg (by simpa using g),if_neg (by simpa using w)]
 have hc:decide (c.toNat < qs.length)=true:=by rw[dG];omega
 have hl:=b5 d (gQ hd);have e:(vs,os,qs,sg,()).2.2.1[c.toNat]?.getD []=d:=by simp[hd]
 rw[e];have key:∀d':List Int,qs[c.toNat]?=some d'->d'=d:=λd' h'=>by rw[hd]at h';cases h';rfl
 have hI:jY (d.length+1) 8:=bJ.2 (by omega)
 have hz:¬decide (c.toNat < qs.length)=false:=by rw[hc];simp
 refine⟨λ_=>?_,λq=>absurd q hz⟩
 have F:(decide (c.toNat < qs.length)=true/\c.toNat < qs.length):=⟨hc,by omega⟩
 repeat' first | exact F | (refine And.intro ?_ ?_)
 all_goals
  intro d' h';cases key d' h';exact⟨hI,hx.2,by omega,rfl,λ_ _=>⟨rfl,rfl⟩⟩
theorem ac5:aN aK.gd 103 ac4:=
 bV (cx:=aK) (n:=42) (cl:=[(158,Df),(164,ac2),(49,Jr)]) (rc:=[.data qx,.keep]) ay ⟨sU,ac3,ahR,trivial⟩ Tryz.func103 λd hd=>by
  obtain⟨⟨vs,os,qs,sg,⟨⟩⟩,c,id,⟨⟩⟩:=d;exact aI (λ_=>none) (ah0 vs os qs sg c id hd) (by kernel_rfl)
abbrev Vt:CT:={ ps:=[qx,.int .i64,.int .i64],pre:=λd=>aZ d.1/\0<=d.2.2.1,res:=λd=>([],.gY [.agg [.sl (.int .i64) ((oG d.1 d.2.1 d.2.2.1).1).1,.sl (.int .i64) ((oG d.1 d.2.1 d.2.2.1).1).2.1,.sl (.sl (.int .i64)) ((oG d.1 d.2.1 d.2.2.1).1).2.2.1,.sl (.int .i64) ((oG d.1 d.2.1 d.2.2.1).1).2.2.2.1],.c (.v (.int .i64 ((oG d.1 d.2.1 d.2.2.1).2.1))),.c (.v (.int .i64 ((oG d.1 d.2.1 d.2.2.1).2.2)))]) }
abbrev anJ(vs os:List Int) (qs:List (List Int)) (sg:List Int) (c n:Int):Nat->Option (St->iE):=λk=>match k with
 | 7=>some λs=>.inv { α:=Nat,can:=[(5,.cell 6 3)],slots:=λk=>[(41,.c (.v (.int .i64 k)))],res:=λk=>[(5,.row 3 (.int .i64) (lJ sg ((slotL (.int .i64) s 39).take k)))],inv:=λk=>k<=(slotL (.int .i64) s 39).length,meas:=λk=>(slotL (.int .i64) s 39).length - k }
 | _=>none
theorem ah1(vs os:List Int) (qs:List (List Int)) (sg:List Int) (c n:Int) (aA:Vt.pre ((vs,os,qs,sg,()),c,n,())):
 let z10:=(vs,os,qs,sg,());let z9:=oG z10 c n;let z2:=[SV.agg [SC.sl I6 z9.fst.fst,SC.sl I6 z9.fst.snd.fst,SC.sl I6.sl z9.fst.snd.snd.fst,SC.sl I6 z9.fst.snd.snd.snd.fst],cI (z9.snd.fst),cI (z9.snd.snd)];let z8:=0<=c/\c < (qs.length:Int);let z6:=λ(d dH:List Int)=>List.take (fV n (d.length:Int)).toNat dH;let z5:=[SC.sl I6 vs,SC.sl I6 os,SC.sl I6.sl qs,SC.sl I6 sg];let z7:=[SC.row 2,SC.row 3,SC.row 4,SC.row 5];let z3:=λ(x:Nat) (d dH:List Int)=>lJ sg (List.take x (List.drop 0 (z6 d dH)));let z1:=λ(x:Nat) (d dH:List Int)=>[g0 (aj.blk 34 z5),g0 (aj.blk 34 jV),g0 (aj.row 3 I6 vs),g0 (aj.row 3 I6 os),g0 (aj.row 31 I6.sl qs),g0 (aj.row 3 I6 (z3 x d dH)),g0 (aj.blk 34 z7)];let z4:=λ(d dN:List Int)=>List.drop (fV n (d.length:Int)).toNat (List.take (dN.length:Int).toNat dN);aZ z10/\br (!decide (iq z10 c (qs.length:Int)=(0:Int))) (rT z2 [SV.agg oU,cI 0,cI (iq z10 c (qs.length:Int))]) (aZ z10/\z8/\c.toNat < qs.length/\∀(d:List Int),qs[c.toNat]?=some d->z8/\c.toNat < qs.length/\∀(dH:List Int),qs[c.toNat]?=some dH->((0:Int)<=(0:Int)/\0<=fV n (d.length:Int)/\fV n (d.length:Int)<=(dH.length:Int))/\(∃x,x<=List.length (List.drop 0 (z6 d dH))/\(cI 0=cI (x:Int)/\True)/\[g0 (aj.blk 34 z5),g0 (aj.blk 34 jV),g0 (aj.row 3 I6 vs),g0 (aj.row 3 I6 os),g0 (aj.row 31 I6.sl qs),g0 (aj.row 3 I6 sg),g0 (aj.blk 34 z7)]=(z1 x d dH))/\∀(x:Nat),x<=List.length (List.drop 0 (z6 d dH))->br (decide ((x:Int) < (↑(List.drop 0 (z6 d dH)).length:Int))) ((0<=(x:Int)/\(x:Int) < (↑(List.drop 0 (z6 d dH)).length:Int))/\∀(dN:Int),(List.drop 0 (z6 d dH))[(x:Int).toNat]?=some dN->(z3 x d dH).length<=999999/\iR ((x:Int)+(1:Int))/\∃x',x'<=List.length (List.drop 0 (z6 d dH))/\(cI ((x:Int)+(1:Int))=cI (x':Int)/\True)/\[g0 (aj.blk 34 z5),g0 (aj.blk 34 jV),g0 (aj.row 3 I6 vs),g0 (aj.row 3 I6 os),g0 (aj.row 31 I6.sl qs),g0 (aj.row 3 I6 (aX (lJ sg (List.take x (List.drop 0 (z6 d dH)))++[dN]))),g0 (aj.blk 34 z7)]=(z1 x' d dH)/\List.length (List.drop 0 (z6 d dH)) - x' < List.length (List.drop 0 (z6 d dH)) - x) (z8/\c.toNat < qs.length/\∀(dN:List Int),qs[c.toNat]?=some dN->(0<=fV n (d.length:Int)/\fV n (d.length:Int)<=(dN.length:Int)/\(dN.length:Int)<=(dN.length:Int))/\(z4 d dN).length<=1000000/\z8/\c.toNat < qs.length/\rT z2 [SV.agg [SC.sl I6 vs,SC.sl I6 os,SC.sl I6.sl (qs.set c.toNat (z4 d dN)),SC.sl I6 (z3 x d dH)],cI (fV n (d.length:Int)),cI 0])):=by
 conv=>zeta
 delta jV oU cI g0 rT I6 iR iN;obtain⟨hb,hn⟩:aZ (vs,os,qs,sg,())/\0<=n:=aA;unfold oG;obtain⟨b1,b2,b3,b4,b5,b6⟩:vs.length<=1000/\os.length<=1000/\qs.length<=1000/\sg.length<=1000/\(∀q∈qs,q.length<=1000)/\qs.flatten.length<=100000:=id hb;refine⟨hb,ah.2 ⟨λh=>⟨rfl,?_⟩,λh=>?_⟩⟩
 .rw[if_neg (by simpa using h)];rfl
 have h:iq (vs,os,qs,sg,()) c qs.length=0:=by simpa using h
 have hx:=fP.1 h;rw[if_pos h];refine⟨hb,hx.2,by omega,λd hd=>⟨hx.2,by omega,λd1 hd1=>?_⟩⟩
 rw[hd]at hd1;cases hd1;have hl:=b5 d (gQ hd);have e:(vs,os,qs,sg,()).2.2.1[c.toNat]?.getD []=d:=by simp[hd]
 rw[e];have hm:0<=fV n (d.length:Int)/\fV n (d.length:Int)<=d.length:=by unfold fV;split<;>omega
 generalize fV n (d.length:Int)=k at hm;rw[MP];have h2:(d.take k.toNat).length<=1000:=by rw[kH];omega
 refine⟨⟨by omega,hm⟩,⟨0,by omega,⟨rfl,trivial⟩,rfl⟩,λj hj=>ah.2 ⟨λg=>?_,λg=>?_⟩⟩
 .simp only[dG]at g;refine⟨⟨by omega,by omega⟩,λx hx2=>⟨?_,au.2 (by omega),j+1,by omega,⟨rfl,trivial⟩,?_,by omega⟩⟩
  .have:=BZ ((d.take k.toNat).take j) sg;rw[kH]at this;omega
  .have hx2:(d.take k.toNat)[j]?=some x:=hx2;rw[Ti hx2]
 simp only[A8]at g;refine⟨hx.2,by omega,λd2 hd2=>?_⟩
 rw[hd]at hd2;cases hd2;have e2:List.take (d.length:Int).toNat d=d:=qV (by omega)
 rw[e2];refine⟨⟨by omega,by omega,by omega⟩,by rw[xO];omega,hx.2,by omega,rfl,?_⟩
 rw[qV (i:=j) (by omega)]
theorem Pz:aN aK.gd 166 Vt:=
 bV (cx:=aK) (n:=65) (cl:=[(158,Df),(111,OE),(107,Jq),(49,nX)]) (rc:=[.data qx,.keep,.keep]) ay ⟨sU,Gi,Aw,sS,trivial⟩ Tryz.func166 λd hd=>by
  obtain⟨⟨vs,os,qs,sg,⟨⟩⟩,c,n,⟨⟩⟩:=d;exact aI (anJ vs os qs sg c n) (ah1 vs os qs sg c n hd) (by kernel_rfl)
abbrev Ju:CT:={ ps:=[qx,.int .i64],pre:=λd=>aZ d.1,res:=λd=>([],.gY [.agg [.sl (.int .i64) ((oG d.1 d.2.1 1).1).1,.sl (.int .i64) ((oG d.1 d.2.1 1).1).2.1,.sl (.sl (.int .i64)) ((oG d.1 d.2.1 1).1).2.2.1,.sl (.int .i64) ((oG d.1 d.2.1 1).1).2.2.2.1],.c (.v (.int .i64 ((oG d.1 d.2.1 1).2.1))),.c (.v (.int .i64 ((oG d.1 d.2.1 1).2.2)))]) }
theorem ah2(vs os:List Int) (qs:List (List Int)) (sg:List Int) (c:Int) (aA:Ju.pre ((vs,os,qs,sg,()),c,())):
 let z3:=oG (vs,os,qs,sg,()) c (1:Int);let z1:=z3.snd.fst;let z2:=z3.snd.snd;(aZ (vs,os,qs,sg,())/\(0:Int)<=(1:Int))/\rT [SV.agg [SC.sl I6 z3.fst.fst,SC.sl I6 z3.fst.snd.fst,SC.sl I6.sl z3.fst.snd.snd.fst,SC.sl I6 z3.fst.snd.snd.snd.fst],cI z1,cI z2] [SV.agg [SC.sl I6 (z3.fst.fst,z3.fst.snd.fst,z3.fst.snd.snd.fst,z3.fst.snd.snd.snd.fst,()).fst,SC.sl I6 (z3.fst.snd.fst,z3.fst.snd.snd.fst,z3.fst.snd.snd.snd.fst,()).fst,SC.sl I6.sl (z3.fst.snd.snd.fst,z3.fst.snd.snd.snd.fst,()).fst,SC.sl I6 z3.fst.snd.snd.snd.fst],cI z1,cI z2]:=by
 conv=>zeta
 delta cI rT I6;exact⟨⟨aA,by decide⟩,rfl,rfl⟩
theorem ac6:aN aK.gd 105 Ju:=
 bV (cx:=aK) (n:=13) (cl:=[(166,Vt)]) (rc:=[.data qx,.keep,.keep]) ay ⟨Pz,trivial⟩ Tryz.func105 λd hd=>by
  obtain⟨⟨vs,os,qs,sg,⟨⟩⟩,c,⟨⟩⟩:=d;exact aI (λ_=>none) (ah2 vs os qs sg c hd) (by kernel_rfl)
abbrev Jv:CT:={ ps:=[qx,.int .i64],pre:=λd=>aZ d.1,res:=λd=>([],.gY [.agg [.sl (.int .i64) ((mY d.1 d.2.1).1).1,.sl (.int .i64) ((mY d.1 d.2.1).1).2.1,.sl (.sl (.int .i64)) ((mY d.1 d.2.1).1).2.2.1,.sl (.int .i64) ((mY d.1 d.2.1).1).2.2.2.1],.c (.v (.int .i64 ((mY d.1 d.2.1).2)))]) }
abbrev PE:=[SV.agg [SC.sl I6 [],SC.sl I6 [],SC.sl I6.sl [],SC.sl I6 []],cI 1]
theorem ah3(vs os:List Int) (qs:List (List Int)) (sg:List Int) (id:Int) (aA:Jv.pre ((vs,os,qs,sg,()),id,())):
 let z3:=(vs,os,qs,sg,());let z2:=mY z3 id;let z1:=[SV.agg [SC.sl I6 z2.fst.fst,SC.sl I6 z2.fst.snd.fst,SC.sl I6.sl z2.fst.snd.snd.fst,SC.sl I6 z2.fst.snd.snd.snd.fst],cI (z2.snd)];aZ z3/\br (!dI z3) (rT z1 PE) (sg.length<=1000000/\br (!dM sg id) (rT z1 LP) (aZ z3/\sg.length<=1000000/\rT z1 [SV.agg [SC.sl I6 vs,SC.sl I6 os,SC.sl I6.sl qs,SC.sl I6 (jr (aX sg) [id] false)],cI 0])):=by
 conv=>zeta
 delta PE LP cI rT I6;have hb:=aA;obtain⟨b1,b2,b3,b4,b5,b6⟩:vs.length<=1000/\os.length<=1000/\qs.length<=1000/\sg.length<=1000/\(∀q∈qs,q.length<=1000)/\qs.flatten.length<=100000:=aA;unfold mY;refine⟨hb,ah.2 ⟨λh=>⟨rfl,?_⟩,λh=>⟨by omega,ah.2 ⟨λg=>⟨rfl,?_⟩,λg=>⟨hb,by omega,rfl,?_⟩⟩⟩⟩⟩
 .rw[if_pos (by simpa using h)];rfl
 .rw[if_neg (by simpa using h),if_pos (by simpa using g)];rfl
 .rw[if_neg (by simpa using h),if_neg (by simpa using g)]
theorem ac7:aN aK.gd 104 Jv:=
 bV (cx:=aK) (n:=25) (cl:=[(157,acY),(165,I9),(112,OU),(49,nX)]) (rc:=[.data qx,.keep]) ay ⟨GU,Ad,GH,sS,trivial⟩ Tryz.func104 λd hd=>by
  obtain⟨⟨vs,os,qs,sg,⟨⟩⟩,id,⟨⟩⟩:=d;exact aI (λ_=>none) (ah3 vs os qs sg id hd) (by kernel_rfl)
abbrev Tj:CT:={ ps:=[oQ],pre:=λd=>bnd d,res:=λd=>([],.gY [.agg [.sl (.int .i64) ((yO d.1.1 d.1.2.1 d.1.2.2.1 d.1.2.2.2.1 d.1.2.2.2.2.1).1).1,.sl (.int .i64) ((yO d.1.1 d.1.2.1 d.1.2.2.1 d.1.2.2.2.1 d.1.2.2.2.2.1).1).2.1,.sl (.sl (.int .i64)) ((yO d.1.1 d.1.2.1 d.1.2.2.1 d.1.2.2.2.1 d.1.2.2.2.2.1).1).2.2.1,.sl (.int .i64) ((yO d.1.1 d.1.2.1 d.1.2.2.1 d.1.2.2.2.1 d.1.2.2.2.2.1).1).2.2.2.1],.c (.v (.int .i64 ((yO d.1.1 d.1.2.1 d.1.2.2.1 d.1.2.2.2.1 d.1.2.2.2.2.1).2)))]) }
abbrev aqI(vs:List VD) (ms cs:List ByteArray) (fs:List FD) (ts:List SD):Nat->Option (St->iE):=λk=>match k with
 | 6=>some λs=>.inv { α:=Nat,pX:=[(3,0,3,.int .i64)],slots:=λk=>[(28,.c (.v (.int .i64 k)))],res:=λk=>[(4,.row 3 (.int .i64) ((vs.take k).map (·.2.1)))],inv:=λk=>k<=vs.length,meas:=λk=>vs.length - k }
 | 11=>some λs=>.inv { α:=Nat,pX:=[(3,1,3,.int .i64)],slots:=λk=>[(43,.c (.v (.int .i64 k)))],res:=λk=>[(5,.row 3 (.int .i64) (List.replicate k (-1)))],inv:=λk=>k<=ms.length,meas:=λk=>ms.length - k }
 | _=>none
theorem anK(vs:List VD) (ms cs:List ByteArray) (fs:List FD) (ts:List SD) (aA:Tj.pre ((vs,ms,cs,fs,ts,()),())):
 let z8:=yO vs ms cs fs ts;let z1:=[SV.agg [SC.sl I6 z8.fst.fst,SC.sl I6 z8.fst.snd.fst,SC.sl I6.sl z8.fst.snd.snd.fst,SC.sl I6 z8.fst.snd.snd.snd.fst],cI (z8.snd)];let z3:=[SC.sl Gj vs,SC.sl Sh.str ms,SC.sl Sh.str cs,SC.sl CY fs,SC.sl mO ts];let z5:=List.replicate (cs.length:Int).toNat [];let z4:=[SC.row (Nat.succ 0).succ.succ.succ,iN,SC.row (Nat.succ 0).succ,iN];let z9:=λ(x:Nat)=>List.take x vs;let z7:=λ(x:Nat)=>(x:Int)+(1:Int);let z2:=[SC.row (Nat.succ 0).succ.succ.succ,SC.row (Nat.succ 0).succ.succ.succ.succ,SC.row (Nat.succ 0).succ,iN];let z6:=λ(x_1:Nat)=>List.replicate x_1 (-1:Int);(vs.length<=1000000/\ms.length<=1000000/\cs.length<=1000000/\fs.length<=1000000/\ts.length<=1000000/\(∀(x:ByteArray×(jT.sl.pair Sh.unit).den),x∈fs->List.length x.snd.fst<=1000000)/\(dR fs).length<=1000000)/\br (!decide ((aB vs ms cs fs ts).fst=0)) (rT z1 [SV.agg oU,cI ((aB vs ms cs fs ts).fst)]) ((0<=(cs.length:Int)/\(cs.length:Int)<=(cs.length:Int)/\jY (cs.length:Int).toNat 24)/\(∃x,x<=vs.length/\(cI 0=cI (x:Int)/\True)/\[g0 (aj.blk 27 z3),g0 (aj.blk 34 jV),g0 (aj.row 31 I6.sl z5),g0 (aj.blk 34 z4),g0 (aj.row 3 I6 [])]=[g0 (aj.blk 27 z3),g0 (aj.blk 34 jV),g0 (aj.row 31 I6.sl z5),g0 (aj.blk 34 z4),g0 (aj.row 3 I6 (List.map (λx=>x.snd.fst) (List.take x vs)))])/\∀(x:Nat),x<=vs.length->br (decide ((x:Int) < (vs.length:Int))) ((0<=(x:Int)/\(x:Int) < (vs.length:Int))/\∀(d:ByteArray×(I6.pair Sh.unit).den),vs[(x:Int).toNat]?=some d->jY (List.length (List.map (λx=>x.snd.fst) (z9 x))+List.length ([d.snd.fst])) 8/\iR (z7 x)/\∃x',x'<=vs.length/\(cI (z7 x)=cI (x':Int)/\True)/\[g0 (aj.blk 27 z3),g0 (aj.blk 34 jV),g0 (aj.row 31 I6.sl z5),g0 (aj.blk 34 z4),g0 (aj.row 3 I6 (List.map (λx=>x.snd.fst) (z9 x)++[d.snd.fst]))]=[g0 (aj.blk 27 z3),g0 (aj.blk 34 jV),g0 (aj.row 31 I6.sl z5),g0 (aj.blk 34 z4),g0 (aj.row 3 I6 (List.map (λx=>x.snd.fst) (List.take x' vs)))]/\vs.length - x' < vs.length - x) ((∃x_1,x_1<=ms.length/\(cI 0=cI (x_1:Int)/\True)/\[g0 (aj.blk 27 z3),g0 (aj.blk 34 jV),g0 (aj.row 31 I6.sl z5),g0 (aj.blk 34 z2),g0 (aj.row 3 I6 (List.map (λx=>x.snd.fst) (z9 x))),g0 (aj.row 3 I6 [])]=[g0 (aj.blk 27 z3),g0 (aj.blk 34 jV),g0 (aj.row 31 I6.sl z5),g0 (aj.blk 34 z2),g0 (aj.row 3 I6 (List.map (λx=>x.snd.fst) (z9 x))),g0 (aj.row 3 I6 (z6 x_1))])/\∀(x_1:Nat),x_1<=ms.length->br (decide ((x_1:Int) < (ms.length:Int))) (jY (List.length (z6 x_1)+1) 8/\iR (z7 x_1)/\∃x',x'<=ms.length/\(cI (z7 x_1)=cI (x':Int)/\True)/\[g0 (aj.blk 27 z3),g0 (aj.blk 34 jV),g0 (aj.row 31 I6.sl z5),g0 (aj.blk 34 z2),g0 (aj.row 3 I6 (List.map (λx=>x.snd.fst) (z9 x))),g0 (aj.row 3 I6 (List.replicate x_1 (-1:Int)++[(-1:Int)]))]=[g0 (aj.blk 27 z3),g0 (aj.blk 34 jV),g0 (aj.row 31 I6.sl z5),g0 (aj.blk 34 z2),g0 (aj.row 3 I6 (List.map (λx=>x.snd.fst) (z9 x))),g0 (aj.row 3 I6 (List.replicate x' (-1:Int)))]/\ms.length - x' < ms.length - x_1) (rT z1 [SV.agg [SC.sl I6 (List.map (λx=>x.snd.fst) (z9 x)),SC.sl I6 (z6 x_1),SC.sl I6.sl z5,SC.sl I6 []],cI 0]))):=by
 conv=>zeta
 delta oU jV cI g0 rT I6 iR iN;have hb:vs.length<=1000000/\ms.length<=1000000/\cs.length<=1000000:=⟨aA.1,aA.2.1,aA.2.2.1⟩;obtain⟨b1,b2,b3⟩:=hb;unfold yO;refine⟨aA,ah.2 ⟨λh=>⟨rfl,?_⟩,λh=>?_⟩⟩
 .rw[if_neg (by simpa using h)];rfl
 rw[if_pos (by simpa using h)]
 refine⟨⟨by omega,by omega,bJ.2 (by omega)⟩,⟨0,by omega,⟨rfl,trivial⟩,rfl⟩,λk hk=>ah.2 ⟨λg=>?_,λg=>?_⟩⟩
 .simp only[dG]at g;refine⟨⟨by omega,by omega⟩,λd hd=>⟨bJ.2 ?_,au.2 (by omega),k+1,by omega,⟨rfl,trivial⟩,?_,by omega⟩⟩
  .simp only[Yf,kH,sZ,AY];omega
  .have hd:vs[k]?=some d:=hd;have e:List.map (λx:VD=>x.snd.fst) (List.take (k+1) vs)=List.map (λx:VD=>x.snd.fst) (List.take k vs)++[d.2.1]:=by rw[Hf,hd];simp
   rw[e]
 simp only[A8]at g;rw[qV (i:=k) (by omega)]
 refine⟨⟨0,by omega,⟨rfl,trivial⟩,rfl⟩,λj hj=>ah.2 ⟨λg2=>?_,λg2=>?_⟩⟩
 .simp only[dG]at g2;refine⟨bJ.2 ?_,au.2 (by omega),j+1,by omega,⟨rfl,trivial⟩,?_,by omega⟩
  .simp only[MG];omega
  .have e:List.replicate (j+1) (-1:Int)=List.replicate j (-1)++[-1]:=List.replicate_succ';rw[show List.replicate (j+1) (-1:(Sh.int IntKind.i64).den)=List.replicate j (-1)++[-1] from e]
 simp only[A8]at g2;have ej:j=ms.length:=by omega
 subst ej;exact⟨rfl,rfl⟩
theorem ah4:aN aK.gd 33 Tj:=
 bV (cx:=aK) (n:=52) (cl:=[(74,Jd)]) (rc:=[.data qx,.keep]) ay ⟨DZ,trivial⟩ Tryz.func33 λd hd=>by
  obtain⟨⟨vs,ms,cs,fs,ts,⟨⟩⟩,⟨⟩⟩:=d;exact aI (aqI vs ms cs fs ts) (anK vs ms cs fs ts hd) (by kernel_rfl)
theorem AA(h:dI m=false):iq m i n=1:=by unfold iq;rw[if_pos h]
theorem AB(h:dI m=true) (g:i < 0\/n<=i):iq m i n=11:=by unfold iq;rw[if_neg (by simp[h]),if_pos g]
theorem Cb(h:dI m=true) (g:¬(i < 0\/n<=i)):iq m i n=0:=by unfold iq;rw[if_neg (by simp[h]),if_neg g]
def yP(m:MD) (i id now:Int):Int:=if iq m i m.2.1.length=0 then(if id < 0 then 2 else if m.2.1[i.toNat]?.getD 0=now then 0 else 30) else iq m i m.2.1.length
theorem Cc{id now:Int} (h:yP m i id now=0):iq m i m.2.1.length=0/\¬id < 0/\m.2.1[i.toNat]?.getD 0=now:=by
 unfold yP at h;split at h
 .rename_i h0;split at h
  .cases h
  .rename_i h1;split at h
   .rename_i h2;exact⟨h0,h1,h2⟩
   .cases h
 .rename_i h0;exact absurd h h0
theorem PG{id Vp to:Int} (h:yP m i id Vp≠0):iw m i id Vp to=(zM,yP m i id Vp):=by
 unfold yP at h ⊢
 unfold iw;split
 .rename_i h0;rw[if_pos h0]at h;split
  .rfl
  .rename_i h1;rw[if_neg h1]at h;split
   .rename_i h2;rw[if_pos h2]at h;exact absurd rfl h
   .rfl
 .rfl
theorem Vu{id Vp to:Int} (h:yP m i id Vp=0):iw m i id Vp to=((m.1,m.2.1.set i.toNat to,m.2.2),0):=by
 obtain⟨h0,h1,h2⟩:=Cc h;unfold iw;rw[if_pos h0,if_neg h1,if_pos h2]
abbrev aqJ(vs os:List Int) (qs:List (List Int)) (sg:List Int):Nat->Option (St->iE):=λk=>match k with
 | 2=>some λ_=>.cut { α:=Nat,pad:=4,can:=[(2,.slot 3),(3,.cell 2 0),(4,.cell 2 1),(5,.cell 2 3)],slots:=λ_=>[(3,.c (.own 2 0))],res:=λ_=>[(2,.blk 34 [.row 3,.row 4,.v (.slice none 0 0),.row 5]),(3,.row 3 (.int .i64) (vs)),(4,.row 3 (.int .i64) (os)),(5,.row 3 (.int .i64) (sg))],inv:=λu=>u=0,meas:=λ_=>0 }
 | 3=>some λ_=>.inv { α:=Nat,pX:=[(2,2,31,.sl (.int .i64))],slots:=λk=>[(4,.c (.v (.int .i64 k)))],res:=λk=>[(6,.row 31 (.sl (.int .i64)) (qs.take k))],inv:=λk=>k<=qs.length,meas:=λk=>qs.length - k }
 | _=>none
abbrev ah5:=[SC.row 3,SC.row 4,iN,SC.row 5]
abbrev PI:=[SC.row 3,SC.row 4,SC.row (Nat.succ 0).succ.succ.succ.succ.succ,SC.row 5]
theorem anL(vs os:List Int) (qs:List (List Int)) (sg:List Int) (aA:nX.pre ((vs,os,qs,sg,()),())):
 let z3:=[SC.sl I6 vs,SC.sl I6 os,SC.sl I6.sl qs,SC.sl I6 sg];let z2:=[g0 (aj.blk 34 z3),g0 (aj.blk 34 jV),g0 (aj.blk 34 ah5),g0 (aj.row 3 I6 vs),g0 (aj.row 3 I6 os),g0 (aj.row 3 I6 sg)];let z1:=λ(x:Nat)=>[g0 (aj.blk 34 z3),g0 (aj.blk 34 jV),g0 (aj.blk 34 PI),g0 (aj.row 3 I6 vs),g0 (aj.row 3 I6 os),g0 (aj.row 3 I6 sg),g0 (aj.row 31 I6.sl (List.take x qs))];((vs.length<=1000000/\(os.length<=1000000/\(sg.length<=1000000/\(∃v,v=0/\iG/\sm z2)/\∃v,v=0/\iG/\sm z2)/\sg.length<=1000000/\∃v,v=0/\iG/\sm z2)/\os.length<=1000000/\sg.length<=1000000/\∃v,v=0/\iG/\sm z2)/\vs.length<=1000000/\os.length<=1000000/\sg.length<=1000000/\∃v,v=0/\iG/\sm z2)/\∀(v:Nat),v=0->(∃x,x<=qs.length/\(cI 0=cI (x:Int)/\True)/\[g0 (aj.blk 34 z3),g0 (aj.blk 34 jV),g0 (aj.blk 34 PI),g0 (aj.row 3 I6 vs),g0 (aj.row 3 I6 os),g0 (aj.row 3 I6 sg),g0 (aj.row 31 I6.sl [])]=(z1 x))/\∀(x:Nat),x<=qs.length->br (decide ((x:Int) < (qs.length:Int))) ((0<=(x:Int)/\(x:Int) < (qs.length:Int))/\∀(d:List Int),qs[(x:Int).toNat]?=some d->d.length<=1000000/\jY (List.length (List.take x qs)+List.length ([d])) 24/\iR ((x:Int)+(1:Int))/\∃x',x'<=qs.length/\(cI ((x:Int)+(1:Int))=cI (x':Int)/\True)/\[g0 (aj.blk 34 z3),g0 (aj.blk 34 jV),g0 (aj.blk 34 PI),g0 (aj.row 3 I6 vs),g0 (aj.row 3 I6 os),g0 (aj.row 3 I6 sg),g0 (aj.row 31 I6.sl (List.take x qs++[d]))]=(z1 x')/\qs.length - x' < qs.length - x) ([aj.row 3 I6 vs,aj.row 3 I6 os,aj.row 31 I6.sl qs,aj.row 3 I6 sg]=[aj.row 3 I6 vs,aj.row 3 I6 os,aj.row 31 I6.sl (List.take x qs),aj.row 3 I6 sg]/\aW.one (SV.agg Pv)=aW.one (SV.agg kq8)):=by
 conv=>zeta
 delta jV ah5 PI iG Pv kq8 cI g0 sm I6 iR iN;obtain⟨b1,b2,b3,b4,b5,b6⟩:vs.length<=1000/\os.length<=1000/\qs.length<=1000/\sg.length<=1000/\(∀q∈qs,q.length<=1000)/\qs.flatten.length<=100000:=aA;refine⟨?_,λu hu=>⟨⟨0,by omega,⟨rfl,trivial⟩,rfl⟩,λk hk=>ah.2 ⟨λg=>?_,λg=>?_⟩⟩⟩
 .repeat' first | exact⟨0,rfl,⟨rfl,trivial⟩,rfl⟩ | (refine And.intro ?_ ?_) | omega
 .simp only[dG]at g;refine⟨⟨by omega,by omega⟩,λd hd=>⟨?_,bJ.2 ?_,au.2 (by omega),k+1,by omega,⟨rfl,trivial⟩,?_,by omega⟩⟩
  .have:=b5 d (gQ hd);omega
  .simp only[kH,sZ,AY];omega
  .have hd:qs[k]?=some d:=hd;have e:qs.take (k+1)=qs.take k++[d]:=by rw[Hf,hd];simp
   rw[e]
 simp only[A8]at g;rw[qV (i:=k) (by omega)]
 exact⟨rfl,rfl⟩
theorem uy:aN aK.gd 65 nX:=
 bV (cx:=aK) (n:=34) (cl:=[(131,Pn)]) (rc:=[]) ay ⟨GR,trivial⟩ Tryz.func65 λd hd=>by
  obtain⟨⟨vs,os,qs,sg,⟨⟩⟩,⟨⟩⟩:=d;exact aI (aqJ vs os qs sg) (anL vs os qs sg hd) (by kernel_rfl)
theorem ah6(vs os:List Int) (qs:List (List Int)) (sg:List Int) (x v:Int) (aA:XN.pre ((vs,os,qs,sg,()),x,v,())):
 let z3:=(vs,os,qs,sg,());let z2:=writeM z3 x v;let z1:=[SV.agg [SC.sl I6 z2.fst.fst,SC.sl I6 z2.fst.snd.fst,SC.sl I6.sl z2.fst.snd.snd.fst,SC.sl I6 z2.fst.snd.snd.snd.fst],cI (z2.snd)];aZ z3/\br (!dI z3) (rT z1 PE) (br (decide (x < 0) || decide ((vs.length:Int)<=x)) (rT z1 [SV.agg oU,cI 11]) (br (decide (v < (-2147483648)) || decide (2147483647 < v)) (rT z1 Ii) (aZ z3/\(0<=x/\x < (vs.length:Int))/\x.toNat < vs.length/\rT z1 [SV.agg [SC.sl I6 (vs.set x.toNat v),SC.sl I6 os,SC.sl I6.sl qs,SC.sl I6 sg],cI 0]))):=by
 conv=>zeta
 delta PE oU Ii cI rT I6;unfold writeM;have hb:=aA;refine⟨aA,ah.2 ⟨λh=>⟨rfl,?_⟩,λh=>ah.2 ⟨λg=>⟨rfl,?_⟩,λg=>?_⟩⟩⟩
 .rw[AA (by simpa using h)];rfl
 .rw[AB (by simpa using h) (by simpa using g)];rfl
 .have g:¬(x < 0\/(vs.length:Int)<=x):=by simpa using g
  rw[Cb (by simpa using h) g,if_pos rfl]
  refine ah.2 ⟨λg2=>⟨rfl,?_⟩,λg2=>⟨hb,⟨by omega,by omega⟩,by omega,rfl,?_⟩⟩
  .rw[if_neg (by rw[mG];simp at g2;omega)];rfl
  .rw[if_pos (by rw[mG];simp at g2;omega)]
theorem ac8:aN aK.gd 115 XN:=
 bV (cx:=aK) (n:=38) (cl:=[(137,Ih),(65,nX)]) (rc:=[.data qx,.keep]) ay ⟨nV,uy,trivial⟩ Tryz.func115 λd hd=>by
  obtain⟨⟨vs,os,qs,sg,⟨⟩⟩,x,v,⟨⟩⟩:=d;exact aI (λ_=>none) (ah6 vs os qs sg x v hd) (by kernel_rfl)
theorem anM(vs os:List Int) (qs:List (List Int)) (sg:List Int) (i:Int) (aA:Px.pre ((vs,os,qs,sg,()),i,())):
 let z2:=(vs,os,qs,sg,());let z1:=dI z2 && decide (0<=i) && decide (i < (os.length:Int));aZ z2/\(z1=true->0<=i/\i < (os.length:Int))/\∀(d:Int),(z1=true->os[i.toNat]?=some d)->qB (mX z2 i) (dI z2 && decide (0<=i) && decide (i < (os.length:Int)) && decide (d=(-1))):=by
 conv=>zeta
 delta qB;unfold mX;refine⟨aA,λh=>?_,λd hd=>⟨rfl,?_⟩⟩
 .simp at h;omega
 .by_cases h:iq (vs,os,qs,sg,()) i os.length=0
  .have hx:=fP.1 h;have:=hd (by simp[hx])
   have e:(vs,os,qs,sg,()).2.1[i.toNat]?.getD 0=d:=by show os[i.toNat]?.getD 0=d;rw[this];rfl
   rw[e];simp only[hx,h,decide_true,Hl]
  .have hx:¬(dI (vs,os,qs,sg,())=true/\0<=i/\i < os.length):=λq=>h (fP.2 q)
   have e:(dI (vs,os,qs,sg,()) && decide (0<=i) && decide (i < (os.length:Int)))=false:=by
    rw[TJ];intro q;simp at q;exact hx ⟨q.1.1,q.1.2,q.2⟩
   rw[e];simp[h]
theorem Vw:aN aK.gd 93 Px:=
 bV (cx:=aK) (n:=26) (cl:=[(137,Ih)]) (rc:=[]) ay ⟨nV,trivial⟩ Tryz.func93 λd hd=>by
  obtain⟨⟨vs,os,qs,sg,⟨⟩⟩,i,⟨⟩⟩:=d;exact aI (λ_=>none) (anM vs os qs sg i hd) (by kernel_rfl)
abbrev Vx:CT:={ ps:=[qx,.int .i64,.int .i64,.int .i64],pre:=λd=>aZ d.1,res:=λd=>([],.one (.c (.v (.int .i64 (yP d.1 d.2.1 d.2.2.1 d.2.2.2.1))))) }
theorem ah7(vs os:List Int) (qs:List (List Int)) (sg:List Int) (i id now:Int) (aA:Vx.pre ((vs,os,qs,sg,()),i,id,now,())):
 let z2:=(vs,os,qs,sg,());let z1:=yP z2 i id now;aZ z2/\br (!dI z2) (qI z1 (1:Int)) (br (decide (i < 0) || decide ((os.length:Int)<=i)) (qI z1 (11:Int)) (br (decide (id < 0)) (qI z1 (2:Int)) ((0<=i/\i < (os.length:Int))/\∀(d:Int),os[i.toNat]?=some d->br (!decide (d=now)) (qI z1 (30:Int)) (qI z1 (0:Int))))):=by
 conv=>zeta
 delta qI;unfold yP;refine⟨aA,ah.2 ⟨λh=>⟨rfl,?_⟩,λh=>ah.2 ⟨λg=>⟨rfl,?_⟩,λg=>?_⟩⟩⟩
 .rw[AA (by simpa using h)];rfl
 .rw[AB (by simpa using h) (by simpa using g)];rfl
 .have g:¬(i < 0\/(os.length:Int)<=i):=by simpa using g
  rw[Cb (by simpa using h) g,if_pos rfl]
  refine ah.2 ⟨λg2=>⟨rfl,?_⟩,λg2=>⟨⟨by omega,by omega⟩,λd hd=>ah.2 ⟨λg3=>⟨rfl,?_⟩,λg3=>⟨rfl,?_⟩⟩⟩⟩
  .rw[if_pos (by simpa using g2)]
  all_goals
   rw[if_neg (by simpa using g2)]
   have e:(vs,os,qs,sg,()).2.1[i.toNat]?.getD 0=d:=by simp[hd]
   rw[e]
  .rw[if_neg (by simpa using g3)]
  .rw[if_pos (by simpa using g3)]
theorem PK:aN aK.gd 171 Vx:=
 bV (cx:=aK) (n:=30) (cl:=[(137,Ih)]) (rc:=[]) ay ⟨nV,trivial⟩ Tryz.func171 λd hd=>by
  obtain⟨⟨vs,os,qs,sg,⟨⟩⟩,i,id,now,⟨⟩⟩:=d;exact aI (λ_=>none) (ah7 vs os qs sg i id now hd) (by kernel_rfl)
theorem ah8(vs os:List Int) (qs:List (List Int)) (sg:List Int) (i id:Int) (aA:Js.pre ((vs,os,qs,sg,()),i,id,())):
 let z3:=(vs,os,qs,sg,());let z2:=iw z3 i id (-1:Int) id;let z1:=[SV.agg [SC.sl I6 z2.fst.fst,SC.sl I6 z2.fst.snd.fst,SC.sl I6.sl z2.fst.snd.snd.fst,SC.sl I6 z2.fst.snd.snd.snd.fst],cI (z2.snd)];aZ z3/\br (!decide (yP z3 i id (-1:Int)=(0:Int))) (rT z1 [SV.agg oU,cI (yP z3 i id (-1:Int))]) (aZ z3/\(0<=i/\i < (os.length:Int))/\i.toNat < os.length/\rT z1 [SV.agg [SC.sl I6 vs,SC.sl I6 (os.set i.toNat id),SC.sl I6.sl qs,SC.sl I6 sg],cI 0]):=by
 conv=>zeta
 delta oU cI rT I6;refine⟨aA,ah.2 ⟨λh=>⟨rfl,?_⟩,λh=>?_⟩⟩
 .rw[PG (by simpa using h)];rfl
 .have h:yP (vs,os,qs,sg,()) i id (-1)=0:=by simpa using h
  have hx:=fP.1 (Cc h).1;exact⟨aA,hx.2,by have:=hx.2;simp at this;omega,rfl,by rw[Vu h]⟩
theorem ac9:aN aK.gd 116 Js:=
 bV (cx:=aK) (n:=26) (cl:=[(171,Vx),(65,nX)]) (rc:=[.data qx,.keep]) ay ⟨PK,uy,trivial⟩ Tryz.func116 λd hd=>by
  obtain⟨⟨vs,os,qs,sg,⟨⟩⟩,i,id,⟨⟩⟩:=d;exact aI (λ_=>none) (ah8 vs os qs sg i id hd) (by kernel_rfl)
theorem ah9(vs os:List Int) (qs:List (List Int)) (sg:List Int) (i id:Int) (aA:Jt.pre ((vs,os,qs,sg,()),i,id,())):
 let z3:=(vs,os,qs,sg,());let z2:=iw z3 i id id (-1:Int);let z1:=[SV.agg [SC.sl I6 z2.fst.fst,SC.sl I6 z2.fst.snd.fst,SC.sl I6.sl z2.fst.snd.snd.fst,SC.sl I6 z2.fst.snd.snd.snd.fst],cI (z2.snd)];aZ z3/\br (!decide (yP z3 i id id=0)) (rT z1 [SV.agg oU,cI (yP z3 i id id)]) (aZ z3/\(0<=i/\i < (os.length:Int))/\i.toNat < os.length/\rT z1 [SV.agg [SC.sl I6 vs,SC.sl I6 (os.set i.toNat (-1:Int)),SC.sl I6.sl qs,SC.sl I6 sg],cI 0]):=by
 conv=>zeta
 delta oU cI rT I6;refine⟨aA,ah.2 ⟨λh=>⟨rfl,?_⟩,λh=>?_⟩⟩
 .rw[PG (by simpa using h)];rfl
 .have h:yP (vs,os,qs,sg,()) i id id=0:=by simpa using h
  have hx:=fP.1 (Cc h).1;exact⟨aA,hx.2,by have:=hx.2;simp at this;omega,rfl,by rw[Vu h]⟩
theorem ada:aN aK.gd 117 Jt:=
 bV (cx:=aK) (n:=26) (cl:=[(171,Vx),(65,nX)]) (rc:=[.data qx,.keep]) ay ⟨PK,uy,trivial⟩ Tryz.func117 λd hd=>by
  obtain⟨⟨vs,os,qs,sg,⟨⟩⟩,i,id,⟨⟩⟩:=d;exact aI (λ_=>none) (ah9 vs os qs sg i id hd) (by kernel_rfl)
end
end Go.Proofs.YtjhenjhcbcalpaaGreatDoor
