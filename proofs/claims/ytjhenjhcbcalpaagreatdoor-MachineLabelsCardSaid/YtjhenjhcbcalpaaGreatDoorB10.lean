/- Part 10 of the proof. Conditions: the rows'. -/
import Derived.Test.YtjhenjhcbcalpaaGreatDoorB9
set_option linter.unusedSimpArgs false
set_option linter.unusedVariables false
set_option maxRecDepth 1000000
set_option maxHeartbeats 8000000
namespace Go.Proofs.YtjhenjhcbcalpaaGreatDoor
open Go Go.jf
noncomputable section
variable {l:List Int}{qs:List (List Int)}{k:Nat}
abbrev wu:Sh:=.pair (.sl (.int .i64)) (.pair (.sl (.int .i64)) (.pair (.sl (.sl (.int .i64))) (.pair (.sl (.int .i64)) .unit)))
abbrev MD:=List Int×List Int×List (List Int)×List Int×Unit
def HY:MD->Prop
 | (vs,os,qs,sg,_)=>vs.length<=8/\os.length<=4/\qs.length<=4/\SS sg/\(∀v∈vs,bW v=true)/\(∀o∈os,-1<=o)/\(∀x∈sg++qs.flatten,0<=x)/\(sg++qs.flatten).Nodup
open Classical in
def dW(m:MD):Bool:=decide (HY m)
open Classical in
theorem fK{m:MD}:dW m=true↔HY m:=by unfold dW;rw[VU]
theorem BH{m:MD} (h:¬HY m):dW m=false:=VN.2 λq=>h (fK.1 q)
def bI(m:MD):Prop:=m.1.length<=1000/\m.2.1.length<=1000/\m.2.2.1.length<=1000/\m.2.2.2.1.length<=1000/\(∀q∈m.2.2.1,q.length<=1000)/\m.2.2.1.flatten.length<=100000
theorem oW{n:Int}:bW n=true↔-2147483648<=n/\n<=2147483647:=by
 unfold bW;simp
theorem sQ:ku l=true↔SS l:=by unfold ku;rw[VU]
theorem H6(qs:List (List Int)) (k:Nat):(qs.take k).flatten.length<=qs.flatten.length:=by
 have:qs.flatten=(qs.take k).flatten++(qs.drop k).flatten:=by rw[<-List.flatten_append,VL]
 rw[this,kC];omega
theorem H7{d:List Int} (h:qs[k]?=some d):(qs.take (k+1)).flatten=(qs.take k).flatten++d:=by
 rw[NQ,h];simp
theorem aaW(h:l.Nodup){d:Int} (hd:l[k]?=some d):d∉l.take k:=by
 intro hm;obtain⟨j,hj⟩:=yu hm;rw[uY]at hj;split at hj
 .rename_i gU;obtain⟨h1,e1⟩:=A8.1 hj;obtain⟨h2,e2⟩:=A8.1 hd;have:=ahO.1 h j k h1 h2 gU;exact this (e1.trans e2.symm)
 .cases hj
theorem P6(h:(l.take k).Nodup){d:Int} (hd:l[k]?=some d) (hn:d∉l.take k):(l.take (k+1)).Nodup:=by
 rw[NQ,hd,acC,List.nodup_append];refine⟨h,by simp,λa ha b hb=>?_⟩
 simp at hb;subst hb;rintro rfl;exact hn ha
theorem zK:∀(l o:List Int),(l.foldl (λo x=>if dP o x then o else vZ o x) o).length<=o.length+l.length
 | [],o=>by simp
 | x :: l,o=>by
   simp only[Ii,wV];split
   .have:=zK l o;omega
   .have:=zK l (vZ o x);rw[EM]at this;omega
theorem H8:∀(l o:List Int),(l.foldl (λo x=>if dP o x then o else vZ o x) o).length=o.length+l.length↔(l.Nodup/\∀x∈l,x∉o)
 | [],o=>by simp
 | x :: l,o=>by
   simp only[Ii,wV];split
   .rename_i hx;have:=zK l o;constructor
    .intro h;omega
    .rintro⟨_,h⟩;exact absurd (oO.1 hx) (h x (by simp))
   .rename_i hx;have hx:x∉o:=λhh=>hx (oO.2 hh)
    have ih:=H8 l (vZ o x);rw[EM]at ih;rw[show o.length+(l.length+1)=o.length+1+l.length by omega,ih,Uc]
    constructor
    .rintro⟨h1,h2⟩;refine⟨⟨λhm=>h2 x hm (CO.2 (.inl rfl)),h1⟩,λy hy=>?_⟩
     rcases ni.1 hy with rfl | hy
     .exact hx
     .exact λhh=>h2 y hy (CO.2 (.inr hh))
    .rintro⟨⟨h1,h2⟩,h3⟩;refine⟨h2,λy hy hh=>?_⟩
     rcases CO.1 hh with rfl | hh
     .exact h1 hy
     .exact h3 y (by simp[hy]) hh
theorem P7:(bD l).length=l.length↔l.Nodup:=by
 have:=H8 l [];simp only[J9,Dk]at this;unfold bD;rw[this];simp
abbrev H9:CT:={ ps:=[.sl (.int .i64)],pre:=λd=>d.1.length<=1000000,res:=λd=>([.row 3 (.int .i64) (d.1)],.one (.c (.row 0))) }
theorem afN(l:List Int) (aF:H9.pre (l,())):
 let z1:=List.replicate (l.length:Int).toNat (0:Int);((0:Int)<=(l.length:Int)/\(l.length:Int)<=(l.length:Int)/\nR (l.length:Int).toNat (8:Nat))/\[ay.row (3:TypeId) je l]=[ay.row (3:TypeId) je (List.take (List.length z1) (l)++List.drop (List.length (l)) z1)]/\aZ.one rC=aZ.one rC:=by
 conv=>zeta
 delta je rC;have hp:l.length<=1000000:=aF;refine⟨⟨by omega,by omega,eH.2 (by omega)⟩,?_,rfl⟩
 simp
theorem zL:aU aT.gd 107 H9:=
 dQ (cx:=aT) (n:=11) (cl:=[]) (rc:=[]) au trivial Tryz.func107 λd hd=>by
  obtain⟨l,⟨⟩⟩:=d;exact aJ (λ_=>none) (afN l hd) (by kernel_rfl)
abbrev aaX:CT:={ ps:=[wu],pre:=λd=>bI d.1,res:=λd=>([],vB (dW d.1)) }
abbrev akZ(vs os:List Int) (qs:List (List Int)) (sg:List Int):Nat->Option (St->jv):=λk=>match k with
 | 4=>some λ_=>.inv { α:=Nat,slots:=λk=>[(37,.c (.v (.int .i64 k)))],res:=λ_=>[],inv:=λk=>k<=vs.length/\∀j < k,∀v,vs[j]?=some v->bW v=true,meas:=λk=>vs.length - k }
 | 10=>some λ_=>.inv { α:=Nat,slots:=λk=>[(51,.c (.v (.int .i64 k)))],res:=λ_=>[],inv:=λk=>k<=os.length/\∀j < k,∀v,os[j]?=some v->-1<=v,meas:=λk=>os.length - k }
 | 17=>some λ_=>.inv { α:=Nat,drop:=[60],slots:=λk=>[(64,.c (.v (.int .i64 k))),(7,.c (.row 1))],res:=λk=>[(1,.row 3 (.int .i64) (sg++(qs.take k).flatten))],inv:=λk=>k<=qs.length,meas:=λk=>qs.length - k }
 | 22=>some λ_=>.inv { α:=Nat,tY:=[1],slots:=λk=>[(74,.c (.v (.int .i64 k)))],res:=λ_=>[],inv:=λk=>k<=(sg++qs.flatten).length/\(∀j < k,∀v,(sg++qs.flatten)[j]?=some v->0<=v)/\((sg++qs.flatten).take k).Nodup,meas:=λk=>(sg++qs.flatten).length - k }
 | _=>none
theorem afO(vs os:List Int) (qs:List (List Int)) (sg:List Int) (aF:aaX.pre ((vs,os,qs,sg,()),())):
 let z13:=dW (vs,os,qs,sg,());let z10:=qB z13 false;let z3:=λ(x:Nat)=>(x<=vs.length/\∀(j:Nat),j < x->∀(v:Int),vs[j]?=some v->bW v=true);let z12:=λ(x:Nat)=>cI 0=cI (x:Int)/\True;let z8:=[SC.sl I6 vs,SC.sl I6 os,SC.sl I6.sl qs,SC.sl I6 sg];let z7:=[g0 (ay.blk 34 z8)];let wo:=λ(x:Nat)=>(x:Int)+(1:Int);let z9:=λ(x x':Nat)=>cI (wo x)=cI (x':Int)/\True;let z5:=λ(x:Nat)=>(x<=os.length/\∀(j:Nat),j < x->∀(v:Int),os[j]?=some v->(-1)<=v);let z11:=λ(x:Nat)=>sg++(List.take x qs).flatten;let z2:=λ(x:Nat)=>[g0 (ay.blk 34 z8),g0 (ay.row 3 I6 (z11 x))];let sO:=sg++qs.flatten;let z6:=λ(x_1:Nat)=>(∀(j:Nat),j < x_1->∀(v:Int),sO[j]?=some v->0<=v);let z1:=λ(x:Nat)=>x<=sO.length/\(z6 x)/\(List.take x sO).Nodup;let z4:=[g0 (ay.blk 34 z8),g0 ay.gone];((!(decide (8 < (vs.length:Int)) || decide (4 < (os.length:Int)) || decide (4 < (qs.length:Int))))=true->sg.length<=1000000)/\br (decide (8 < (vs.length:Int)) || decide (4 < (os.length:Int)) || decide (4 < (qs.length:Int)) || !ku sg) z10 ((∃x,(z3 x)/\(z12 x)/\sm z7)/\∀(x:Nat),(z3 x)->br (decide ((x:Int) < (vs.length:Int))) ((0<=(x:Int)/\(x:Int) < (vs.length:Int))/\∀(d:Int),vs[(x:Int).toNat]?=some d->br (decide (d < (-2147483648)) || decide (2147483647 < d)) z10 (iR (wo x)/\∃x',(z3 x')/\(z9 x x')/\sm z7/\vs.length - x' < vs.length - x)) ((∃x,(z5 x)/\(z12 x)/\sm z7)/\∀(x:Nat),(z5 x)->br (decide ((x:Int) < (os.length:Int))) ((0<=(x:Int)/\(x:Int) < (os.length:Int))/\∀(d:Int),os[(x:Int).toNat]?=some d->br (decide (d < (-1))) z10 (iR (wo x)/\∃x',(z5 x')/\(z9 x x')/\sm z7/\os.length - x' < os.length - x)) (sg.length<=1000000/\(∃x,x<=qs.length/\(cI 0=cI (x:Int)/\SV.c (SC.row 1)=SV.c (SC.row 1)/\True)/\[g0 (ay.blk 34 z8),g0 (ay.row 3 I6 sg)]=(z2 x))/\∀(x:Nat),x<=qs.length->br (decide ((x:Int) < (qs.length:Int))) ((0<=(x:Int)/\(x:Int) < (qs.length:Int))/\∀(d:List Int),qs[(x:Int).toNat]?=some d->nR (List.length ((z11 x))+List.length (d)) 8/\iR (wo x)/\∃x',x'<=qs.length/\(cI (wo x)=cI (x':Int)/\SV.c (SC.row 1)=SV.c (SC.row 1)/\True)/\[g0 (ay.blk 34 z8),g0 (ay.row 3 I6 ((z11 x)++d))]=(z2 x')/\qs.length - x' < qs.length - x) ((∃x,(z1 x)/\(z12 x)/\sm z4)/\∀(x_1:Nat),x_1<=sO.length/\(z6 x_1)/\(List.take x_1 sO).Nodup->br (decide ((x_1:Int) < (↑(z11 x).length:Int))) ((0<=(x_1:Int)/\(x_1:Int) < (↑(z11 x).length:Int))/\∀(d:Int),(z11 x)[(x_1:Int).toNat]?=some d->((!decide (d < 0))=true->(0:Int)<=(0:Int)/\0<=(x_1:Int)/\(x_1:Int)<=(↑(z11 x).length:Int))/\((!decide (d < 0))=true->(List.drop 0 (List.take (x_1:Int).toNat (z11 x))).length<=4611686018427387904)/\br (decide (d < 0) || dP (List.drop 0 (List.take (x_1:Int).toNat (z11 x))) d) z10 (iR (wo x_1)/\∃x',(z1 x')/\(z9 x_1 x')/\sm z4/\sO.length - x' < sO.length - x_1)) (qB z13 true))))):=by
 conv=>zeta
 delta cI g0 qB sm I6 iR;obtain⟨b1,b2,b3,b4,b5,b6⟩:vs.length<=1000/\os.length<=1000/\qs.length<=1000/\sg.length<=1000/\(∀q∈qs,q.length<=1000)/\qs.flatten.length<=100000:=aF;have fF:¬HY (vs,os,qs,sg,())->([]:List Go.jf.ay)=[]/\aZ.one (SV.c (SC.v (Value.bool (dW (vs,os,qs,sg,())))))=aZ.one (SV.c (SC.v (Value.bool false))):=λq=>⟨rfl,by rw[BH q]⟩
 refine⟨λ_=>by omega,ah.2 ⟨λh=>fF λq=>?_,λh=>?_⟩⟩
 .obtain⟨q1,q2,q3,q4,_⟩:=q;rw[sQ.2 q4]at h;simp at h;omega
 simp only[l7,wU,eX]at h;obtain⟨⟨⟨h1,h2⟩,h3⟩,h4⟩:=h;have h4:SS sg:=sQ.1 h4;refine⟨⟨0,⟨by omega,λj hj=>by omega⟩,⟨rfl,trivial⟩,rfl⟩,λk hk=>ah.2 ⟨λg=>?_,λg=>?_⟩⟩
 .simp only[dH]at g;refine⟨⟨by omega,by omega⟩,λd hd=>ah.2 ⟨λg2=>fF λq=>?_,λg2=>⟨ak.2 (by omega),k+1,⟨by omega,λj hj v hv=>?_⟩,⟨rfl,trivial⟩,rfl,by omega⟩⟩⟩
  .have:=oW.1 (q.2.2.2.2.1 d (iy hd));simp at g2;omega
  .by_cases gU:j=k
   .subst gU;have hd:vs[j]?=some d:=hd;rw[hd]at hv;cases hv;rw[oW];simp at g2;omega
   .exact hk.2 j (by omega) v hv
 simp only[eX]at g;have v1:∀v∈vs,bW v=true:=λv hv=>by
  obtain⟨j,hj⟩:=yu hv;exact hk.2 j (by have:=(A8.1 hj).1;omega) v hj
 refine⟨⟨0,⟨by omega,λj hj=>by omega⟩,⟨rfl,trivial⟩,rfl⟩,λk2 hk2=>ah.2 ⟨λg=>?_,λg=>?_⟩⟩
 .simp only[dH]at g;refine⟨⟨by omega,by omega⟩,λd hd=>ah.2 ⟨λg2=>fF λq=>?_,λg2=>⟨ak.2 (by omega),k2+1,⟨by omega,λj hj v hv=>?_⟩,⟨rfl,trivial⟩,rfl,by omega⟩⟩⟩
  .have:=q.2.2.2.2.2.1 d (iy hd);simp at g2;omega
  .by_cases gU:j=k2
   .subst gU;have hd:os[j]?=some d:=hd;rw[hd]at hv;cases hv;simp at g2;omega
   .exact hk2.2 j (by omega) v hv
 simp only[eX]at g;have v2:∀v∈os,-1<=v:=λv hv=>by
  obtain⟨j,hj⟩:=yu hv;exact hk2.2 j (by have:=(A8.1 hj).1;omega) v hj
 refine⟨by omega,⟨0,by omega,⟨rfl,rfl,trivial⟩,by simp⟩,λk3 hk3=>ah.2 ⟨λg=>?_,λg=>?_⟩⟩
 .simp only[dH]at g;refine⟨⟨by omega,by omega⟩,λd hd=>⟨eH.2 ?_,ak.2 (by omega),k3+1,by omega,⟨rfl,rfl,trivial⟩,?_,by omega⟩⟩
  .have:=H6 qs k3;have:=b5 d (iy hd);rw[kC];omega
  .have hd:qs[k3]?=some d:=hd;rw[H7 hd,zX]
 simp only[eX]at g;have ek:qs.take k3=qs:=wB (by omega)
 rw[ek];have bl:(sg++qs.flatten).length<=101000:=by rw[kC];omega
 refine⟨⟨0,⟨by omega,λj hj=>by omega,by simp⟩,⟨rfl,trivial⟩,rfl⟩,λk4 hk4=>ah.2 ⟨λg=>?_,λg=>?_⟩⟩
 .simp only[dH]at g;refine⟨⟨by omega,by omega⟩,λd hd=>⟨λ_=>⟨by omega,by omega,by omega⟩,λ_=>by simp only[NR,kX];omega,ah.2 ⟨λg2=>fF λq=>?_,λg2=>⟨ak.2 (by omega),k4+1,⟨by omega,λj hj v hv=>?_,?_⟩,⟨rfl,trivial⟩,rfl,by omega⟩⟩⟩⟩
  .have hd:(sg++qs.flatten)[k4]?=some d:=hd;have n0:=q.2.2.2.2.2.2.1 d (iy hd);have n1:=aaW q.2.2.2.2.2.2.2 hd;have n2:dP ((sg++qs.flatten).take k4) d=false:=oP.2 n1;rw[NR,show((k4:Int)).toNat=k4 from rfl,n2]at g2
   simp at g2;omega
  all_goals
   rw[NR,show((k4:Int)).toNat=k4 from rfl,l7,eX]at g2
   have hd:(sg++qs.flatten)[k4]?=some d:=hd
  .by_cases gU:j=k4
   .subst gU;rw[hd]at hv;cases hv;omega
   .exact hk4.2.1 j (by omega) v hv
  .exact P6 hk4.2.2 hd (oP.1 g2.2)
 simp only[eX]at g;refine⟨rfl,?_⟩;rw[fK.2];refine⟨by omega,by omega,by omega,h4,v1,v2,λx hx=>?_,?_⟩
 .obtain⟨j,hj⟩:=yu hx;exact hk4.2.1 j (by have:=(A8.1 hj).1;omega) x hj
 .have:=hk4.2.2
  rwa [wB (by omega)]at this
theorem Fp:aU aT.gd 157 aaX:=
 dQ (cx:=aT) (n:=89) (cl:=[(107,H9),(192,ctV),(98,EO)]) (rc:=[]) au ⟨zL,MN,zu,trivial⟩ Tryz.func157 λd hd=>by
  obtain⟨⟨vs,os,qs,sg,⟨⟩⟩,⟨⟩⟩:=d;exact aJ (akZ vs os qs sg) (afO vs os qs sg hd) (by kernel_rfl)
abbrev afP:CT:={ ps:=[wu],pre:=λd=>bI d.1,res:=λd=>([],vB (dW d.1)) }
abbrev ak0(vs os:List Int) (qs:List (List Int)) (sg:List Int):Nat->Option (St->jv):=λk=>match k with
 | 4=>some λ_=>.inv { α:=Nat,slots:=λk=>[(3,.c (.v (.int .i64 k)))],res:=λ_=>[],inv:=λk=>k<=vs.length/\∀j < k,∀v,vs[j]?=some v->bW v=true,meas:=λk=>vs.length - k }
 | 9=>some λ_=>.inv { α:=Nat,slots:=λk=>[(4,.c (.v (.int .i64 k)))],res:=λ_=>[],inv:=λk=>k<=os.length/\∀j < k,∀v,os[j]?=some v->-1<=v,meas:=λk=>os.length - k }
 | 18=>some λ_=>.inv { α:=Nat,drop:=[65],slots:=λk=>[(6,.c (.v (.int .i64 k))),(5,.c (.row 1))],res:=λk=>[(1,.row 3 (.int .i64) (sg++(qs.take k).flatten))],inv:=λk=>k<=qs.length,meas:=λk=>qs.length - k }
 | 22=>some λ_=>.inv { α:=Nat,tY:=[1],slots:=λk=>[(7,.c (.v (.int .i64 k)))],res:=λ_=>[],inv:=λk=>k<=(sg++qs.flatten).length/\(∀j < k,∀v,(sg++qs.flatten)[j]?=some v->0<=v),meas:=λk=>(sg++qs.flatten).length - k }
 | _=>none
theorem afQ(vs os:List Int) (qs:List (List Int)) (sg:List Int) (aF:afP.pre ((vs,os,qs,sg,()),())):
 let z12:=dW (vs,os,qs,sg,());let z9:=qB z12 false;let z3:=λ(x:Nat)=>(x<=vs.length/\∀(j:Nat),j < x->∀(v:Int),vs[j]?=some v->bW v=true);let z11:=λ(x:Nat)=>cI 0=cI (x:Int)/\True;let z7:=[SC.sl I6 vs,SC.sl I6 os,SC.sl I6.sl qs,SC.sl I6 sg];let z6:=[g0 (ay.blk 34 z7)];let z13:=λ(x:Nat)=>(x:Int)+(1:Int);let z8:=λ(x x':Nat)=>cI (z13 x)=cI (x':Int)/\True;let z5:=λ(x:Nat)=>(x<=os.length/\∀(j:Nat),j < x->∀(v:Int),os[j]?=some v->(-1)<=v);let z10:=λ(x:Nat)=>sg++(List.take x qs).flatten;let z1:=λ(x:Nat)=>[g0 (ay.blk 34 z7),g0 (ay.row 3 I6 (z10 x))];let wo:=sg++qs.flatten;let z2:=λ(x:Nat)=>(x<=wo.length/\∀(j:Nat),j < x->∀(v:Int),wo[j]?=some v->0<=v);let z4:=[g0 (ay.blk 34 z7),g0 ay.gone];br (decide (8 < (vs.length:Int)) || decide (4 < (os.length:Int)) || decide (4 < (qs.length:Int))) z9 ((∃x,(z3 x)/\(z11 x)/\sm z6)/\∀(x:Nat),(z3 x)->br (decide ((x:Int) < (vs.length:Int))) ((0<=(x:Int)/\(x:Int) < (vs.length:Int))/\∀(d:Int),vs[(x:Int).toNat]?=some d->((!decide (d < (-2147483648)))=true->0<=(x:Int)/\(x:Int) < (vs.length:Int))/\∀(dI:Int),((!decide (d < (-2147483648)))=true->vs[(x:Int).toNat]?=some dI)->br (decide (d < (-2147483648)) || decide (2147483647 < dI)) z9 (iR (z13 x)/\∃x',(z3 x')/\(z8 x x')/\sm z6/\vs.length - x' < vs.length - x)) ((∃x,(z5 x)/\(z11 x)/\sm z6)/\∀(x:Nat),(z5 x)->br (decide ((x:Int) < (os.length:Int))) ((0<=(x:Int)/\(x:Int) < (os.length:Int))/\∀(d:Int),os[(x:Int).toNat]?=some d->br (decide (d < (-1))) z9 (iR (z13 x)/\∃x',(z5 x')/\(z8 x x')/\sm z6/\os.length - x' < os.length - x)) (sg.length<=1000000/\br (!ku sg) z9 (nR (List.length (sg)) 8/\(∃x,x<=qs.length/\(cI 0=cI (x:Int)/\SV.c (SC.row (Nat.succ 0))=SV.c (SC.row 1)/\True)/\[g0 (ay.blk 34 z7),g0 (ay.row 3 I6 (sg))]=(z1 x))/\∀(x:Nat),x<=qs.length->br (decide ((x:Int) < (qs.length:Int))) ((0<=(x:Int)/\(x:Int) < (qs.length:Int))/\∀(d:List Int),qs[(x:Int).toNat]?=some d->nR (List.length ((z10 x))+List.length (d)) 8/\iR (z13 x)/\∃x',x'<=qs.length/\(cI (z13 x)=cI (x':Int)/\SV.c (SC.row 1)=SV.c (SC.row 1)/\True)/\[g0 (ay.blk 34 z7),g0 (ay.row 3 I6 ((z10 x)++d))]=(z1 x')/\qs.length - x' < qs.length - x) ((∃x,(z2 x)/\(z11 x)/\sm z4)/\∀(x_1:Nat),(z2 x_1)->br (decide ((x_1:Int) < (↑(z10 x).length:Int))) ((0<=(x_1:Int)/\(x_1:Int) < (↑(z10 x).length:Int))/\∀(d:Int),(z10 x)[(x_1:Int).toNat]?=some d->br (decide (d < 0)) z9 (iR (z13 x_1)/\∃x',(z2 x')/\(z8 x_1 x')/\sm z4/\wo.length - x' < wo.length - x_1)) ((z10 x).length<=1000000/\qB z12 (decide ((↑(bD (z10 x)).length:Int)=(↑(z10 x).length:Int))))))))):=by
 conv=>zeta
 delta cI g0 qB sm I6 iR;obtain⟨b1,b2,b3,b4,b5,b6⟩:vs.length<=1000/\os.length<=1000/\qs.length<=1000/\sg.length<=1000/\(∀q∈qs,q.length<=1000)/\qs.flatten.length<=100000:=aF;have fF:¬HY (vs,os,qs,sg,())->([]:List Go.jf.ay)=[]/\aZ.one (SV.c (SC.v (Value.bool (dW (vs,os,qs,sg,())))))=aZ.one (SV.c (SC.v (Value.bool false))):=λq=>⟨rfl,by rw[BH q]⟩
 refine ah.2 ⟨λh=>fF λq=>?_,λh=>?_⟩
 .obtain⟨q1,q2,q3,q4,_⟩:=q;simp at h;omega
 simp only[l7,eX]at h;obtain⟨⟨h1,h2⟩,h3⟩:=h;refine⟨⟨0,⟨by omega,λj hj=>by omega⟩,⟨rfl,trivial⟩,rfl⟩,λk hk=>ah.2 ⟨λg=>?_,λg=>?_⟩⟩
 .simp only[dH]at g;refine⟨⟨by omega,by omega⟩,λd hd=>⟨λ_=>⟨by omega,by omega⟩,λd1 hd1=>ah.2 ⟨λg2=>fF λq=>?_,λg2=>⟨ak.2 (by omega),k+1,⟨by omega,λj hj v hv=>?_⟩,⟨rfl,trivial⟩,rfl,by omega⟩⟩⟩⟩
  .have:=oW.1 (q.2.2.2.2.1 d (iy hd))
   by_cases g3:d < -2147483648
   .omega
   .have e1:=hd1 (by simp[g3])
    rw[hd]at e1;cases e1;simp at g2;omega
  .by_cases gU:j=k
   .subst gU;have hd:vs[j]?=some d:=hd;rw[hd]at hv;cases hv;rw[l7,eX,eX]at g2;have e1:vs[j]?=some d1:=hd1 (by simp[g2.1])
    rw[hd]at e1;cases e1;rw[oW];omega
   .exact hk.2 j (by omega) v hv
 simp only[eX]at g;have v1:∀v∈vs,bW v=true:=λv hv=>by
  obtain⟨j,hj⟩:=yu hv;exact hk.2 j (by have:=(A8.1 hj).1;omega) v hj
 refine⟨⟨0,⟨by omega,λj hj=>by omega⟩,⟨rfl,trivial⟩,rfl⟩,λk2 hk2=>ah.2 ⟨λg=>?_,λg=>?_⟩⟩
 .simp only[dH]at g;refine⟨⟨by omega,by omega⟩,λd hd=>ah.2 ⟨λg2=>fF λq=>?_,λg2=>⟨ak.2 (by omega),k2+1,⟨by omega,λj hj v hv=>?_⟩,⟨rfl,trivial⟩,rfl,by omega⟩⟩⟩
  .have:=q.2.2.2.2.2.1 d (iy hd);simp at g2;omega
  .by_cases gU:j=k2
   .subst gU;have hd:os[j]?=some d:=hd;rw[hd]at hv;cases hv;simp at g2;omega
   .exact hk2.2 j (by omega) v hv
 simp only[eX]at g;have v2:∀v∈os,-1<=v:=λv hv=>by
  obtain⟨j,hj⟩:=yu hv;exact hk2.2 j (by have:=(A8.1 hj).1;omega) v hj
 refine⟨by omega,ah.2 ⟨λh4=>fF λq=>?_,λh4=>?_⟩⟩
 .rw[sQ.2 q.2.2.2.1]at h4;cases h4
 have h4:SS sg:=sQ.1 (by simpa using h4)
 refine⟨eH.2 (by omega),⟨0,by omega,⟨rfl,rfl,trivial⟩,by simp⟩,λk3 hk3=>ah.2 ⟨λg=>?_,λg=>?_⟩⟩
 .simp only[dH]at g;refine⟨⟨by omega,by omega⟩,λd hd=>⟨eH.2 ?_,ak.2 (by omega),k3+1,by omega,⟨rfl,rfl,trivial⟩,?_,by omega⟩⟩
  .have:=H6 qs k3;have:=b5 d (iy hd);rw[kC];omega
  .have hd:qs[k3]?=some d:=hd;rw[H7 hd,zX]
 simp only[eX]at g;have ek:qs.take k3=qs:=wB (by omega)
 rw[ek];have bl:(sg++qs.flatten).length<=101000:=by rw[kC];omega
 refine⟨⟨0,⟨by omega,λj hj=>by omega⟩,⟨rfl,trivial⟩,rfl⟩,λk4 hk4=>ah.2 ⟨λg=>?_,λg=>?_⟩⟩
 .simp only[dH]at g;refine⟨⟨by omega,by omega⟩,λd hd=>ah.2 ⟨λg2=>fF λq=>?_,λg2=>⟨ak.2 (by omega),k4+1,⟨by omega,λj hj v hv=>?_⟩,⟨rfl,trivial⟩,rfl,by omega⟩⟩⟩
  .have hd:(sg++qs.flatten)[k4]?=some d:=hd;have n0:=q.2.2.2.2.2.2.1 d (iy hd);simp at g2;omega
  .by_cases gU:j=k4
   .subst gU;have hd:(sg++qs.flatten)[j]?=some d:=hd;rw[hd]at hv;cases hv;simp at g2;omega
   .exact hk4.2 j (by omega) v hv
 simp only[eX]at g;refine⟨by omega,rfl,?_⟩
 have e:dW (vs,os,qs,sg,())=decide ((↑(bD (sg++qs.flatten)).length:Int)=(↑(sg++qs.flatten).length:Int)):=by
  rw[FK,fK,dH,Int.ofNat_inj,P7];constructor
  .exact λq=>q.2.2.2.2.2.2.2
  .refine λq=>⟨by omega,by omega,by omega,h4,v1,v2,λx hx=>?_,q⟩
   obtain⟨j,hj⟩:=yu hx;exact hk4.2 j (by have:=(A8.1 hj).1;omega) x hj
 rw[e]
theorem Nj:aU aT.gd 137 afP:=
 dQ (cx:=aT) (n:=97) (cl:=[(180,akX),(181,akx)]) (rc:=[]) au ⟨aaV,aae,trivial⟩ Tryz.func137 λd hd=>by
  obtain⟨⟨vs,os,qs,sg,⟨⟩⟩,⟨⟩⟩:=d;exact aJ (ak0 vs os qs sg) (afQ vs os qs sg hd) (by kernel_rfl)
abbrev uQ:CT:={ ps:=[.sl (.int .i64),.sl (.int .i64)],pre:=λd=>d.1.length<=1000000,res:=λd=>([],vB (decide (d.1=d.2.1))) }
abbrev P8:CT:={ ps:=[wu,wu],pre:=λd=>bI d.1,res:=λd=>([],vB (decide (d.1=d.2.1))) }
theorem P9(k:Nat):tH (λj=>decide (j < k)) k=λj=>decide (j < k+1):=by
 funext j;unfold tH
 by_cases h:j=k
 .subst h;simp
 .simp[h];omega
theorem Nk{d:List Int} (h:qs[k]?=some d):(qs.take k++List.replicate (qs.length - k) []).set k d=qs.take (k+1)++List.replicate (qs.length - (k+1)) []:=by
 obtain⟨hk,_⟩:=A8.1 h;rw[acy _ _ (by rw[kX];omega),kX,show k - min k qs.length=0 by omega,show qs.length - k=(qs.length - (k+1))+1 by omega,V3,V4,NQ,h]
 simp
theorem zN(h:k<=qs.length):(qs.take k++List.replicate (qs.length - k) []).length=qs.length:=by simp;omega
theorem Nl(h:¬k < qs.length) (h':k<=qs.length):qs.take k++List.replicate (qs.length - k) []=qs:=by
 have:k=qs.length:=by omega
 subst this;simp
theorem Qa:GK=λj=>decide (j < 0):=by funext j;simp
abbrev aaY:CT:={ ps:=[wu],pre:=λd=>bI d.1,res:=λd=>([.row 3 (.int .i64) (d.1.1),.row 3 (.int .i64) (d.1.2.1),.deep 31 (.sl (.int .i64)) (d.1.2.2.1) 3 (.int .i64) 0 (λj=>decide (j < d.1.2.2.1.length)) [],.row 3 (.int .i64) (d.1.2.2.2.1)],.one (.agg [(.row 0),(.row 1),(.row 2),(.row 3)])) }
abbrev an3(vs os:List Int) (qs:List (List Int)) (sg:List Int):Nat->Option (St->jv):=λk=>match k with
 | 2=>some λ_=>.cut { α:=Nat,pad:=5,can:=[(2,.slot 3),(3,.cell 2 0),(4,.cell 2 1),(5,.cell 2 2),(6,.cell 2 3)],slots:=λ_=>[(3,.c (.own 2 0))],res:=λ_=>[(2,.blk 34 [.row 3,.row 4,.row 5,.row 6]),(3,.row 3 (.int .i64) (vs)),(4,.row 3 (.int .i64) (os)),(5,.row 31 (.sl (.int .i64)) (List.replicate qs.length [])),(6,.row 3 (.int .i64) (sg))],inv:=λu=>u=0,meas:=λ_=>0 }
 | 3=>some λ_=>.inv { α:=Nat,deep:=[(5,3,.int .i64,0)],slots:=λk=>[(23,.c (.v (.int .i64 k)))],res:=λk=>[(5,.deep 31 (.sl (.int .i64)) (qs.take k++List.replicate (qs.length - k) []) 3 (.int .i64) 0 (λj=>decide (j < k)) [])],inv:=λk=>k<=qs.length,meas:=λk=>qs.length - k }
 | _=>none
abbrev mW:=[iN,iN,iN,iN]
abbrev kq8:=[SC.row 3,SC.row 4,SC.row 5,SC.row 6]
abbrev wQ:Prop:=SV.c (SC.own 2 0)=SV.c (SC.own 2 0)/\True
theorem ak1(vs os:List Int) (qs:List (List Int)) (sg:List Int) (aF:aaY.pre ((vs,os,qs,sg,()),())):
 let z9:=0<=(qs.length:Int)/\(qs.length:Int)<=(qs.length:Int)/\nR (qs.length:Int).toNat 24;let z10:=[SC.sl I6 vs,SC.sl I6 os,SC.sl I6.sl qs,SC.sl I6 sg];let z7:=[g0 (ay.blk 34 z10),g0 (ay.blk 34 mW),g0 (ay.blk 34 kq8),g0 (ay.row 3 I6 vs),g0 (ay.row 3 I6 os),g0 (ay.row 31 I6.sl (List.replicate (qs.length:Int).toNat [])),g0 (ay.row 3 I6 sg)];let z12:=List.replicate qs.length [];let z8:=[g0 (ay.blk 34 z10),g0 (ay.blk 34 mW),g0 (ay.blk 34 kq8),g0 (ay.row 3 I6 vs),g0 (ay.row 3 I6 os),g0 (ay.row 31 I6.sl z12),g0 (ay.row 3 I6 sg)];let z5:=(∃v,v=0/\wQ/\z7=z8);let z3:=(sg.length<=1000000/\z5/\∃v,v=0/\wQ/\z7=z8);let z4:=(z9/\sg.length<=1000000/\∃v,v=0/\wQ/\z7=z8);let z1:=(os.length<=1000000/\z3/\sg.length<=1000000/\∃v,v=0/\wQ/\z7=z8);let z2:=(os.length<=1000000/\z4/\sg.length<=1000000/\z9/\∃v,v=0/\wQ/\z7=z8);let z11:=λ(x:Nat)=>List.take x qs++List.replicate (qs.length - x) [];let z6:=λ(x:Nat)=>[g0 (ay.blk 34 z10),g0 (ay.blk 34 mW),g0 (ay.blk 34 kq8),g0 (ay.row 3 I6 vs),g0 (ay.row 3 I6 os),g0 (ay.deep 31 I6.sl (z11 x) 3 I6 0 (λj=>decide (j < x)) []),g0 (ay.row 3 I6 sg)];((vs.length<=1000000/\(os.length<=1000000/\(z9/\z3/\sg.length<=1000000/\∃v,v=0/\wQ/\z7=z8)/\(sg.length<=1000000/\(z9/\z5/\∃v,v=0/\wQ/\z7=z8)/\z9/\∃v,v=0/\wQ/\z7=z8)/\z4/\sg.length<=1000000/\z9/\∃v,v=0/\wQ/\z7=z8)/\(z9/\z1/\os.length<=1000000/\sg.length<=1000000/\∃v,v=0/\wQ/\z7=z8)/\z2/\z9/\os.length<=1000000/\sg.length<=1000000/\∃v,v=0/\wQ/\z7=z8)/\(z9/\(vs.length<=1000000/\z1/\os.length<=1000000/\sg.length<=1000000/\∃v,v=0/\wQ/\z7=z8)/\vs.length<=1000000/\os.length<=1000000/\sg.length<=1000000/\∃v,v=0/\wQ/\z7=z8)/\(vs.length<=1000000/\z2/\z9/\os.length<=1000000/\sg.length<=1000000/\∃v,v=0/\wQ/\z7=z8)/\z9/\vs.length<=1000000/\os.length<=1000000/\sg.length<=1000000/\∃v,v=0/\wQ/\z7=z8)/\∀(v:Nat),v=0->(∃x,x<=qs.length/\(cI 0=cI (x:Int)/\True)/\[g0 (ay.blk 34 z10),g0 (ay.blk 34 mW),g0 (ay.blk 34 kq8),g0 (ay.row 3 I6 vs),g0 (ay.row 3 I6 os),g0 (ay.deep 31 I6.sl z12 3 I6 0 GK []),g0 (ay.row 3 I6 sg)]=(z6 x))/\∀(x:Nat),x<=qs.length->br (decide ((x:Int) < (qs.length:Int))) ((0<=(x:Int)/\(x:Int) < (qs.length:Int))/\∀(d:List Int),qs[(x:Int).toNat]?=some d->d.length<=1000000/\(0<=(x:Int)/\(x:Int) < (↑(z11 x).length:Int))/\(x:Int).toNat < (z11 x).length/\∀(e0:List Int),(z11 x)[(x:Int).toNat]?=some e0->iR ((x:Int)+(1:Int))/\∃x',x'<=qs.length/\(cI ((x:Int)+(1:Int))=cI (x':Int)/\True)/\[g0 (ay.blk 34 z10),g0 (ay.blk 34 mW),g0 (ay.blk 34 kq8),g0 (ay.row 3 I6 vs),g0 (ay.row 3 I6 os),g0 (ay.deep 31 I6.sl ((z11 x).set (x:Int).toNat (d)) 3 I6 0 (tH (λj=>decide (j < x)) (x:Int).toNat) []),g0 (ay.row 3 I6 sg)]=(z6 x')/\qs.length - x' < qs.length - x) ([ay.row 3 I6 vs,ay.row 3 I6 os,ay.deep 31 I6.sl qs 3 I6 0 (λj=>decide (j < List.length (vs,os,qs,sg,()).snd.snd.fst)) [],ay.row 3 I6 sg]=[ay.row 3 I6 vs,ay.row 3 I6 os,ay.deep 31 I6.sl (z11 x) 3 I6 0 (λj=>decide (j < x)) [],ay.row 3 I6 sg]/\aZ.one (SV.agg [SC.row 0,SC.row 1,SC.row 2,SC.row 3])=aZ.one (SV.agg [SC.row 0,SC.row (Nat.succ 0),SC.row (Nat.succ 0).succ,SC.row (Nat.succ 0).succ.succ])):=by
 conv=>zeta
 delta mW kq8 wQ cI g0 I6 iR iN;obtain⟨b1,b2,b3,b4,b5,b6⟩:vs.length<=1000/\os.length<=1000/\qs.length<=1000/\sg.length<=1000/\(∀q∈qs,q.length<=1000)/\qs.flatten.length<=100000:=aF;refine⟨?_,λu hu=>⟨⟨0,by omega,⟨rfl,trivial⟩,?_⟩,λk hk=>ah.2 ⟨λg=>?_,λg=>?_⟩⟩⟩
 .have hA:nR (qs.length:Int).toNat 24:=eH.2 (by omega)
  repeat' first | exact⟨0,rfl,⟨rfl,trivial⟩,rfl⟩ | (refine And.intro ?_ ?_) | omega | exact hA
 .rw[Qa];simp
 .simp only[dH]at g;refine⟨⟨by omega,by omega⟩,λd hd=>⟨?_,⟨by omega,?_⟩,?_,λe0 he=>⟨ak.2 (by omega),k+1,by omega,⟨rfl,trivial⟩,?_,by omega⟩⟩⟩
  .have:=b5 d (iy hd);omega
  .rw[zN hk];omega
  .rw[zN hk];show k < _;omega
  .have hd:qs[k]?=some d:=hd;have e1:(qs.take k++List.replicate (qs.length - k) []).set (k:Int).toNat d=qs.take (k+1)++List.replicate (qs.length - (k+1)) []:=Nk hd;have e2:tH (λj=>decide (j < k)) (k:Int).toNat=λj=>decide (j < k+1):=P9 k
   rw[e2];exact rJ (λz=>_ :: _ :: _ :: _ :: _ :: (([]:Go.jf.Gd),ay.deep 31 (Sh.int IntKind.i64).sl z 3 (Sh.int IntKind.i64) 0 (λj=>decide (j < k+1)) []) :: _) e1
 simp only[eX]at g;have ek:k=qs.length:=by omega
 subst ek;exact⟨by rw[Nl (by omega) hk],rfl⟩
theorem afR:aU aT.gd 49 aaY:=
 dQ (cx:=aT) (n:=36) (cl:=[(107,H9)]) (rc:=[]) au ⟨zL,trivial⟩ Tryz.func49 λd hd=>by
  obtain⟨⟨vs,os,qs,sg,⟨⟩⟩,⟨⟩⟩:=d;exact aJ (an3 vs os qs sg) (ak1 vs os qs sg hd) (by kernel_rfl)
abbrev BI:CT:={ ps:=[wu],pre:=λd=>bI d.1,res:=λd=>([.row 3 (.int .i64) (d.1.1),.row 3 (.int .i64) (d.1.2.1),.row 31 (.sl (.int .i64)) (d.1.2.2.1),.row 3 (.int .i64) (d.1.2.2.2.1)],.one (.agg [(.row 0),(.row 1),(.row 2),(.row 3)])) }
abbrev ak2(vs os:List Int) (qs:List (List Int)) (sg:List Int):Nat->Option (St->jv):=λk=>match k with
 | 2=>some λ_=>.cut { α:=Nat,pad:=5,can:=[(2,.slot 3),(3,.cell 2 0),(4,.cell 2 1),(5,.cell 2 2),(6,.cell 2 3)],slots:=λ_=>[(3,.c (.own 2 0))],res:=λ_=>[(2,.blk 34 [.row 3,.row 4,.row 5,.row 6]),(3,.row 3 (.int .i64) (vs)),(4,.row 3 (.int .i64) (os)),(5,.row 31 (.sl (.int .i64)) (List.replicate qs.length [])),(6,.row 3 (.int .i64) (sg))],inv:=λu=>u=0,meas:=λ_=>0 }
 | 3=>some λ_=>.inv { α:=Nat,slots:=λk=>[(23,.c (.v (.int .i64 k)))],res:=λk=>[(5,.row 31 (.sl (.int .i64)) (qs.take k++List.replicate (qs.length - k) []))],inv:=λk=>k<=qs.length,meas:=λk=>qs.length - k }
 | _=>none
theorem afS(vs os:List Int) (qs:List (List Int)) (sg:List Int) (aF:BI.pre ((vs,os,qs,sg,()),())):
 let z9:=0<=(qs.length:Int)/\(qs.length:Int)<=(qs.length:Int)/\nR (qs.length:Int).toNat 24;let z10:=[SC.sl I6 vs,SC.sl I6 os,SC.sl I6.sl qs,SC.sl I6 sg];let z7:=[g0 (ay.blk 34 z10),g0 (ay.blk 34 mW),g0 (ay.blk 34 kq8),g0 (ay.row 3 I6 vs),g0 (ay.row 3 I6 os),g0 (ay.row 31 I6.sl (List.replicate (qs.length:Int).toNat [])),g0 (ay.row 3 I6 sg)];let z8:=[g0 (ay.blk 34 z10),g0 (ay.blk 34 mW),g0 (ay.blk 34 kq8),g0 (ay.row 3 I6 vs),g0 (ay.row 3 I6 os),g0 (ay.row 31 I6.sl (List.replicate qs.length [])),g0 (ay.row 3 I6 sg)];let z5:=(∃v,v=0/\wQ/\z7=z8);let z3:=(sg.length<=1000000/\z5/\∃v,v=0/\wQ/\z7=z8);let z4:=(z9/\sg.length<=1000000/\∃v,v=0/\wQ/\z7=z8);let z1:=(os.length<=1000000/\z3/\sg.length<=1000000/\∃v,v=0/\wQ/\z7=z8);let z2:=(os.length<=1000000/\z4/\sg.length<=1000000/\z9/\∃v,v=0/\wQ/\z7=z8);let z11:=λ(x:Nat)=>List.take x qs++List.replicate (qs.length - x) [];let z6:=λ(x:Nat)=>[g0 (ay.blk 34 z10),g0 (ay.blk 34 mW),g0 (ay.blk 34 kq8),g0 (ay.row 3 I6 vs),g0 (ay.row 3 I6 os),g0 (ay.row 31 I6.sl (z11 x)),g0 (ay.row 3 I6 sg)];((vs.length<=1000000/\(os.length<=1000000/\(z9/\z3/\sg.length<=1000000/\∃v,v=0/\wQ/\z7=z8)/\(sg.length<=1000000/\(z9/\z5/\∃v,v=0/\wQ/\z7=z8)/\z9/\∃v,v=0/\wQ/\z7=z8)/\z4/\sg.length<=1000000/\z9/\∃v,v=0/\wQ/\z7=z8)/\(z9/\z1/\os.length<=1000000/\sg.length<=1000000/\∃v,v=0/\wQ/\z7=z8)/\z2/\z9/\os.length<=1000000/\sg.length<=1000000/\∃v,v=0/\wQ/\z7=z8)/\(z9/\(vs.length<=1000000/\z1/\os.length<=1000000/\sg.length<=1000000/\∃v,v=0/\wQ/\z7=z8)/\vs.length<=1000000/\os.length<=1000000/\sg.length<=1000000/\∃v,v=0/\wQ/\z7=z8)/\(vs.length<=1000000/\z2/\z9/\os.length<=1000000/\sg.length<=1000000/\∃v,v=0/\wQ/\z7=z8)/\z9/\vs.length<=1000000/\os.length<=1000000/\sg.length<=1000000/\∃v,v=0/\wQ/\z7=z8)/\∀(v:Nat),v=0->(∃x,x<=qs.length/\(cI 0=cI (x:Int)/\True)/\z8=(z6 x))/\∀(x:Nat),x<=qs.length->br (decide ((x:Int) < (qs.length:Int))) ((0<=(x:Int)/\(x:Int) < (qs.length:Int))/\∀(d:List Int),qs[(x:Int).toNat]?=some d->d.length<=1000000/\(0<=(x:Int)/\(x:Int) < (↑(z11 x).length:Int))/\(x:Int).toNat < (z11 x).length/\iR ((x:Int)+(1:Int))/\∃x',x'<=qs.length/\(cI ((x:Int)+(1:Int))=cI (x':Int)/\True)/\[g0 (ay.blk 34 z10),g0 (ay.blk 34 mW),g0 (ay.blk 34 kq8),g0 (ay.row 3 I6 vs),g0 (ay.row 3 I6 os),g0 (ay.row 31 I6.sl ((z11 x).set (x:Int).toNat (d))),g0 (ay.row 3 I6 sg)]=(z6 x')/\qs.length - x' < qs.length - x) ([ay.row 3 I6 vs,ay.row 3 I6 os,ay.row 31 I6.sl qs,ay.row 3 I6 sg]=[ay.row 3 I6 vs,ay.row 3 I6 os,ay.row 31 I6.sl (z11 x),ay.row 3 I6 sg]/\aZ.one (SV.agg [SC.row 0,SC.row 1,SC.row 2,SC.row 3])=aZ.one (SV.agg [SC.row 0,SC.row (Nat.succ 0),SC.row (Nat.succ 0).succ,SC.row (Nat.succ 0).succ.succ])):=by
 conv=>zeta
 delta mW kq8 wQ cI g0 I6 iR iN;obtain⟨b1,b2,b3,b4,b5,b6⟩:vs.length<=1000/\os.length<=1000/\qs.length<=1000/\sg.length<=1000/\(∀q∈qs,q.length<=1000)/\qs.flatten.length<=100000:=aF;refine⟨?_,λu hu=>⟨⟨0,by omega,⟨rfl,trivial⟩,?_⟩,λk hk=>ah.2 ⟨λg=>?_,λg=>?_⟩⟩⟩
 .have hA:nR (qs.length:Int).toNat 24:=eH.2 (by omega)
  repeat' first | exact⟨0,rfl,⟨rfl,trivial⟩,rfl⟩ | (refine And.intro ?_ ?_) | omega | exact hA
 .simp
 .simp only[dH]at g;refine⟨⟨by omega,by omega⟩,λd hd=>⟨?_,⟨by omega,?_⟩,?_,⟨ak.2 (by omega),k+1,by omega,⟨rfl,trivial⟩,?_,by omega⟩⟩⟩
  .have:=b5 d (iy hd);omega
  .rw[zN hk];omega
  .rw[zN hk];show k < _;omega
  .have hd:qs[k]?=some d:=hd;have e1:(qs.take k++List.replicate (qs.length - k) []).set (k:Int).toNat d=qs.take (k+1)++List.replicate (qs.length - (k+1)) []:=Nk hd;exact rJ (λz=>_ :: _ :: _ :: _ :: _ :: (([]:Go.jf.Gd),ay.row 31 (Sh.int IntKind.i64).sl z) :: _) e1
 simp only[eX]at g;have ek:k=qs.length:=by omega
 subst ek;exact⟨by rw[Nl (by omega) hk],rfl⟩
theorem rD:aU aT.gd 49 BI:=
 dQ (cx:=aT) (n:=36) (cl:=[(107,H9)]) (rc:=[]) au ⟨zL,trivial⟩ Tryz.func49 λd hd=>by
  obtain⟨⟨vs,os,qs,sg,⟨⟩⟩,⟨⟩⟩:=d;exact⟨ak2 vs os qs sg,cast (by kernel_rfl) (afS vs os qs sg hd)⟩
def zM:MD:=([],[],[],[],())
def jV(m:MD) (i n:Int):Int:=if dW m=false then 1 else if i < 0\/n<=i then 11 else 0
def wR(m:MD) (x:Int):Int×Int:=if jV m x m.1.length=0 then(m.1[x.toNat]?.getD 0,0) else(0,jV m x m.1.length)
def writeM(m:MD) (x v:Int):MD×Int:=if jV m x m.1.length=0 then(if bW v=true then((m.1.set x.toNat v,m.2),0) else(zM,2)) else(zM,jV m x m.1.length)
def jP(m:MD) (i id frm to:Int):MD×Int:=if jV m i m.2.1.length=0 then(if id < 0 then(zM,2) else if m.2.1[i.toNat]?.getD 0=frm then((m.1,m.2.1.set i.toNat to,m.2.2),0) else(zM,30)) else(zM,jV m i m.2.1.length)
def nJ(m:MD) (i:Int):Bool:=decide (jV m i m.2.1.length=0) && decide (m.2.1[i.toNat]?.getD 0 = -1)
def oZ(m:MD) (id:Int):Bool:=m.2.2.1.any (λq=>dP q id) || dP m.2.2.2.1 id
theorem gW{m:MD}{i n:Int}:jV m i n=0↔dW m=true/\0<=i/\i < n:=by
 unfold jV
 by_cases h:dW m=true
 .rw[if_neg (by simp[h])]
  split
  .simp[h];omega
  .simp[h];omega
 .rw[Bool.not_eq_true]at h;rw[if_pos h,h];simp
abbrev BJ:CT:={ ps:=[wu,.int .i64,.int .i64],pre:=λd=>bI d.1,res:=λd=>([],.one (.c (.v (.int .i64 (jV d.1 d.2.1 d.2.2.1))))) }
theorem afT(vs os:List Int) (qs:List (List Int)) (sg:List Int) (i n:Int) (aF:BJ.pre ((vs,os,qs,sg,()),i,n,())):
 let z2:=(vs,os,qs,sg,());let z1:=jV z2 i n;bI z2/\br (!dW z2) (qI z1 (1:Int)) (br (decide (i < 0) || decide (n<=i)) (qI z1 (11:Int)) (qI z1 (0:Int))):=by
 conv=>zeta
 delta qI;unfold jV;refine⟨aF,ah.2 ⟨λh=>⟨rfl,?_⟩,λh=>ah.2 ⟨λg=>⟨rfl,?_⟩,λg=>⟨rfl,?_⟩⟩⟩⟩
 .rw[if_pos (by simpa using h)]
 .rw[if_neg (by simpa using h),if_pos (by simpa using g)]
 .rw[if_neg (by simpa using h),if_neg (by simpa using g)]
theorem rF:aU aT.gd 158 BJ:=
 dQ (cx:=aT) (n:=17) (cl:=[(157,aaX)]) (rc:=[]) au ⟨Fp,trivial⟩ Tryz.func158 λd hd=>by
  obtain⟨⟨vs,os,qs,sg,⟨⟩⟩,i,n,⟨⟩⟩:=d;exact aJ (λ_=>none) (afT vs os qs sg i n hd) (by kernel_rfl)
abbrev afU:CT:={ ps:=[wu,.int .i64],pre:=λd=>bI d.1,res:=λd=>([],.gV [.c (.v (.int .i64 ((wR d.1 d.2.1).1))),.c (.v (.int .i64 ((wR d.1 d.2.1).2)))]) }
theorem ak4(vs os:List Int) (qs:List (List Int)) (sg:List Int) (x:Int) (aF:afU.pre ((vs,os,qs,sg,()),x,())):
 let z3:=(vs,os,qs,sg,());let z2:=wR z3 x;let z1:=[cI (z2.fst),cI (z2.snd)];bI z3/\br (!decide (jV z3 x (vs.length:Int)=(0:Int))) (rT z1 [cI 0,cI (jV z3 x (vs.length:Int))]) ((0<=x/\x < (vs.length:Int))/\∀(d:Int),vs[x.toNat]?=some d->rT z1 [cI d,cI 0]):=by
 conv=>zeta
 delta cI rT;unfold wR;refine⟨aF,ah.2 ⟨λh=>⟨rfl,?_⟩,λh=>?_⟩⟩
 .rw[if_neg (by simpa using h)]
 .have h:jV (vs,os,qs,sg,()) x vs.length=0:=by simpa using h
  have hx:=gW.1 h;refine⟨hx.2,λd hd=>⟨rfl,?_⟩⟩
  rw[if_pos h];simp[hd]
theorem Sz:aU aT.gd 96 afU:=
 dQ (cx:=aT) (n:=21) (cl:=[(158,BJ)]) (rc:=[]) au ⟨rF,trivial⟩ Tryz.func96 λd hd=>by
  obtain⟨⟨vs,os,qs,sg,⟨⟩⟩,x,⟨⟩⟩:=d;exact aJ (λ_=>none) (ak4 vs os qs sg x hd) (by kernel_rfl)
abbrev ak5:CT:={ ps:=[wu,.int .i64,.int .i64],pre:=λd=>bI d.1,res:=λd=>([],.gV [.agg [.sl (.int .i64) ((writeM d.1 d.2.1 d.2.2.1).1).1,.sl (.int .i64) ((writeM d.1 d.2.1 d.2.2.1).1).2.1,.sl (.sl (.int .i64)) ((writeM d.1 d.2.1 d.2.2.1).1).2.2.1,.sl (.int .i64) ((writeM d.1 d.2.1 d.2.2.1).1).2.2.2.1],.c (.v (.int .i64 ((writeM d.1 d.2.1 d.2.2.1).2)))]) }
abbrev VT:=[SC.sl I6 [],SC.sl I6 [],SC.sl I6.sl [],SC.sl I6 []]
abbrev kq4:=[SV.agg [SC.sl I6 [],SC.sl I6 [],SC.sl I6.sl [],SC.sl I6 []],cI 2]
theorem afV(vs os:List Int) (qs:List (List Int)) (sg:List Int) (x v:Int) (aF:ak5.pre ((vs,os,qs,sg,()),x,v,())):
 let z3:=(vs,os,qs,sg,());let z2:=writeM z3 x v;let z1:=[SV.agg [SC.sl I6 z2.fst.fst,SC.sl I6 z2.fst.snd.fst,SC.sl I6.sl z2.fst.snd.snd.fst,SC.sl I6 z2.fst.snd.snd.snd.fst],cI (z2.snd)];bI z3/\br (!decide (jV z3 x (vs.length:Int)=(0:Int))) (rT z1 [SV.agg VT,cI (jV z3 x (vs.length:Int))]) (br (decide (v < (-2147483648)) || decide (2147483647 < v)) (rT z1 kq4) (bI z3/\(0<=x/\x < (vs.length:Int))/\x.toNat < vs.length/\rT z1 [SV.agg [SC.sl I6 (vs.set x.toNat v),SC.sl I6 os,SC.sl I6.sl qs,SC.sl I6 sg],cI 0])):=by
 conv=>zeta
 delta VT kq4 cI rT I6;unfold writeM;refine⟨aF,ah.2 ⟨λh=>⟨rfl,?_⟩,λh=>?_⟩⟩
 .rw[if_neg (by simpa using h)];rfl
 .have h:jV (vs,os,qs,sg,()) x vs.length=0:=by simpa using h
  have hx:=gW.1 h;rw[if_pos h];refine ah.2 ⟨λg=>⟨rfl,?_⟩,λg=>⟨aF,hx.2,by omega,rfl,?_⟩⟩
  .rw[if_neg (by rw[oW];simp at g;omega)];rfl
  .rw[if_pos (by rw[oW];simp at g;omega)]
theorem aa0:aU aT.gd 100 ak5:=
 dQ (cx:=aT) (n:=35) (cl:=[(158,BJ),(49,BI)]) (rc:=[.data wu,.keep]) au ⟨rF,rD,trivial⟩ Tryz.func100 λd hd=>by
  obtain⟨⟨vs,os,qs,sg,⟨⟩⟩,x,v,⟨⟩⟩:=d;exact aJ (λ_=>none) (afV vs os qs sg x v hd) (by kernel_rfl)
abbrev Np:CT:={ ps:=[wu,.int .i64],pre:=λd=>bI d.1,res:=λd=>([],vB (nJ d.1 d.2.1)) }
theorem ak6(vs os:List Int) (qs:List (List Int)) (sg:List Int) (i:Int) (aF:Np.pre ((vs,os,qs,sg,()),i,())):
 let z2:=(vs,os,qs,sg,());let z1:=jV z2 i (os.length:Int)=(0:Int);bI z2/\(decide z1=true->0<=i/\i < (os.length:Int))/\∀(d:Int),(decide z1=true->os[i.toNat]?=some d)->qB (nJ z2 i) (decide z1 && decide (d=(-1))):=by
 conv=>zeta
 delta qB;unfold nJ;refine⟨aF,λh=>(gW.1 (by simpa using h)).2,λd hd=>⟨rfl,?_⟩⟩
 by_cases h:jV (vs,os,qs,sg,()) i os.length=0
 .have:=hd (by simpa using h)
  simp[this]
 .simp[h]
theorem SA:aU aT.gd 87 Np:=
 dQ (cx:=aT) (n:=20) (cl:=[(158,BJ)]) (rc:=[]) au ⟨rF,trivial⟩ Tryz.func87 λd hd=>by
  obtain⟨⟨vs,os,qs,sg,⟨⟩⟩,i,⟨⟩⟩:=d;exact aJ (λ_=>none) (ak6 vs os qs sg i hd) (by kernel_rfl)
abbrev SB:CT:={ ps:=[wu,.int .i64,.int .i64,.int .i64,.int .i64],pre:=λd=>bI d.1,res:=λd=>([],.gV [.agg [.sl (.int .i64) ((jP d.1 d.2.1 d.2.2.1 d.2.2.2.1 d.2.2.2.2.1).1).1,.sl (.int .i64) ((jP d.1 d.2.1 d.2.2.1 d.2.2.2.1 d.2.2.2.2.1).1).2.1,.sl (.sl (.int .i64)) ((jP d.1 d.2.1 d.2.2.1 d.2.2.2.1 d.2.2.2.2.1).1).2.2.1,.sl (.int .i64) ((jP d.1 d.2.1 d.2.2.1 d.2.2.2.1 d.2.2.2.2.1).1).2.2.2.1],.c (.v (.int .i64 ((jP d.1 d.2.1 d.2.2.1 d.2.2.2.1 d.2.2.2.2.1).2)))]) }
abbrev kq3:=[SV.agg [SC.sl I6 [],SC.sl I6 [],SC.sl I6.sl [],SC.sl I6 []],cI 30]
theorem afW(vs os:List Int) (qs:List (List Int)) (sg:List Int) (i id frm to:Int) (aF:SB.pre ((vs,os,qs,sg,()),i,id,frm,to,())):
 let z4:=(vs,os,qs,sg,());let z2:=jP z4 i id frm to;let z1:=[SV.agg [SC.sl I6 z2.fst.fst,SC.sl I6 z2.fst.snd.fst,SC.sl I6.sl z2.fst.snd.snd.fst,SC.sl I6 z2.fst.snd.snd.snd.fst],cI (z2.snd)];let z3:=0<=i/\i < (os.length:Int);bI z4/\br (!decide (jV z4 i (os.length:Int)=(0:Int))) (rT z1 [SV.agg VT,cI (jV z4 i (os.length:Int))]) (br (decide (id < 0)) (rT z1 kq4) (z3/\∀(d:Int),os[i.toNat]?=some d->br (!decide (d=frm)) (rT z1 kq3) (bI z4/\z3/\i.toNat < os.length/\rT z1 [SV.agg [SC.sl I6 vs,SC.sl I6 (os.set i.toNat to),SC.sl I6.sl qs,SC.sl I6 sg],cI 0]))):=by
 conv=>zeta
 delta VT kq4 kq3 cI rT I6;unfold jP;refine⟨aF,ah.2 ⟨λh=>⟨rfl,?_⟩,λh=>?_⟩⟩
 .rw[if_neg (by simpa using h)];rfl
 .have h:jV (vs,os,qs,sg,()) i os.length=0:=by simpa using h
  have hx:=gW.1 h;rw[if_pos h];refine ah.2 ⟨λg=>⟨rfl,?_⟩,λg=>⟨hx.2,λd hd=>?_⟩⟩
  .rw[if_pos (by simpa using g)];rfl
  .rw[if_neg (by simpa using g)]
   have e:(vs,os,qs,sg,()).2.1[i.toNat]?.getD 0=d:=by simp[hd]
   rw[e];refine ah.2 ⟨λg2=>⟨rfl,?_⟩,λg2=>⟨aF,hx.2,by omega,rfl,?_⟩⟩
   .rw[if_neg (by simpa using g2)];rfl
   .rw[if_pos (by simpa using g2)]
theorem Nq:aU aT.gd 163 SB:=
 dQ (cx:=aT) (n:=43) (cl:=[(158,BJ),(49,BI)]) (rc:=[.data wu,.keep]) au ⟨rF,rD,trivial⟩ Tryz.func163 λd hd=>by
  obtain⟨⟨vs,os,qs,sg,⟨⟩⟩,i,id,frm,to,⟨⟩⟩:=d;exact aJ (λ_=>none) (afW vs os qs sg i id frm to hd) (by kernel_rfl)
abbrev aa1:CT:={ ps:=[wu,.int .i64,.int .i64],pre:=λd=>bI d.1,res:=λd=>([],.gV [.agg [.sl (.int .i64) ((jP d.1 d.2.1 d.2.2.1 (-1) d.2.2.1).1).1,.sl (.int .i64) ((jP d.1 d.2.1 d.2.2.1 (-1) d.2.2.1).1).2.1,.sl (.sl (.int .i64)) ((jP d.1 d.2.1 d.2.2.1 (-1) d.2.2.1).1).2.2.1,.sl (.int .i64) ((jP d.1 d.2.1 d.2.2.1 (-1) d.2.2.1).1).2.2.2.1],.c (.v (.int .i64 ((jP d.1 d.2.1 d.2.2.1 (-1) d.2.2.1).2)))]) }
theorem afX(vs os:List Int) (qs:List (List Int)) (sg:List Int) (i id:Int) (aF:aa1.pre ((vs,os,qs,sg,()),i,id,())):
 let z2:=jP (vs,os,qs,sg,()) i id (-1:Int) id;let z1:=z2.snd;bI (vs,os,qs,sg,())/\rT [SV.agg [SC.sl I6 z2.fst.fst,SC.sl I6 z2.fst.snd.fst,SC.sl I6.sl z2.fst.snd.snd.fst,SC.sl I6 z2.fst.snd.snd.snd.fst],cI z1] [SV.agg [SC.sl I6 (z2.fst.fst,z2.fst.snd.fst,z2.fst.snd.snd.fst,z2.fst.snd.snd.snd.fst,()).fst,SC.sl I6 (z2.fst.snd.fst,z2.fst.snd.snd.fst,z2.fst.snd.snd.snd.fst,()).fst,SC.sl I6.sl (z2.fst.snd.snd.fst,z2.fst.snd.snd.snd.fst,()).fst,SC.sl I6 z2.fst.snd.snd.snd.fst],cI z1]:=by
 conv=>zeta
 delta cI rT I6;exact⟨aF,rfl,rfl⟩
theorem aa2:aU aT.gd 101 aa1:=
 dQ (cx:=aT) (n:=15) (cl:=[(163,SB)]) (rc:=[.data wu,.keep]) au ⟨Nq,trivial⟩ Tryz.func101 λd hd=>by
  obtain⟨⟨vs,os,qs,sg,⟨⟩⟩,i,id,⟨⟩⟩:=d;exact aJ (λ_=>none) (afX vs os qs sg i id hd) (by kernel_rfl)
abbrev aa3:CT:={ ps:=[wu,.int .i64,.int .i64],pre:=λd=>bI d.1,res:=λd=>([],.gV [.agg [.sl (.int .i64) ((jP d.1 d.2.1 d.2.2.1 d.2.2.1 (-1)).1).1,.sl (.int .i64) ((jP d.1 d.2.1 d.2.2.1 d.2.2.1 (-1)).1).2.1,.sl (.sl (.int .i64)) ((jP d.1 d.2.1 d.2.2.1 d.2.2.1 (-1)).1).2.2.1,.sl (.int .i64) ((jP d.1 d.2.1 d.2.2.1 d.2.2.1 (-1)).1).2.2.2.1],.c (.v (.int .i64 ((jP d.1 d.2.1 d.2.2.1 d.2.2.1 (-1)).2)))]) }
theorem afY(vs os:List Int) (qs:List (List Int)) (sg:List Int) (i id:Int) (aF:aa3.pre ((vs,os,qs,sg,()),i,id,())):
 let z2:=jP (vs,os,qs,sg,()) i id id (-1:Int);let z1:=z2.snd;bI (vs,os,qs,sg,())/\rT [SV.agg [SC.sl I6 z2.fst.fst,SC.sl I6 z2.fst.snd.fst,SC.sl I6.sl z2.fst.snd.snd.fst,SC.sl I6 z2.fst.snd.snd.snd.fst],cI z1] [SV.agg [SC.sl I6 (z2.fst.fst,z2.fst.snd.fst,z2.fst.snd.snd.fst,z2.fst.snd.snd.snd.fst,()).fst,SC.sl I6 (z2.fst.snd.fst,z2.fst.snd.snd.fst,z2.fst.snd.snd.snd.fst,()).fst,SC.sl I6.sl (z2.fst.snd.snd.fst,z2.fst.snd.snd.snd.fst,()).fst,SC.sl I6 z2.fst.snd.snd.snd.fst],cI z1]:=by
 conv=>zeta
 delta cI rT I6;exact⟨aF,rfl,rfl⟩
theorem aa4:aU aT.gd 102 aa3:=
 dQ (cx:=aT) (n:=15) (cl:=[(163,SB)]) (rc:=[.data wu,.keep]) au ⟨Nq,trivial⟩ Tryz.func102 λd hd=>by
  obtain⟨⟨vs,os,qs,sg,⟨⟩⟩,i,id,⟨⟩⟩:=d;exact aJ (λ_=>none) (afY vs os qs sg i id hd) (by kernel_rfl)
abbrev aa5:CT:={ ps:=[wu,.int .i64],pre:=λd=>bI d.1,res:=λd=>([],vB (oZ d.1 d.2.1)) }
abbrev ak7(vs os:List Int) (qs:List (List Int)) (sg:List Int) (id:Int):Nat->Option (St->jv):=λk=>match k with
 | 2=>some λ_=>.inv { α:=Nat,slots:=λk=>[(10,.c (.v (.int .i64 k)))],res:=λk=>[],inv:=λk=>k<=(qs).length/\∀j < k,∀q,qs[j]?=some q->dP q id=false,meas:=λk=>(qs).length - k }
 | _=>none
theorem afZ(vs os:List Int) (qs:List (List Int)) (sg:List Int) (id:Int) (aF:aa5.pre ((vs,os,qs,sg,()),id,())):
 let z1:=λ(x:Nat)=>(x<=qs.length/\∀(j:Nat),j < x->∀(q:List Int),qs[j]?=some q->dP q id=false);let z2:=[g0 (ay.blk 34 [SC.sl I6 vs,SC.sl I6 os,SC.sl I6.sl qs,SC.sl I6 sg])];let z3:=oZ (vs,os,qs,sg,()) id;(∃x,(z1 x)/\(cI 0=cI (x:Int)/\True)/\sm z2)/\∀(x:Nat),(z1 x)->br (decide ((x:Int) < (qs.length:Int))) ((0<=(x:Int)/\(x:Int) < (qs.length:Int))/\∀(d:List Int),qs[(x:Int).toNat]?=some d->d.length<=4611686018427387904/\br (dP d id) (qB z3 true) (iR ((x:Int)+(1:Int))/\∃x',(z1 x')/\(cI ((x:Int)+(1:Int))=cI (x':Int)/\True)/\sm z2/\qs.length - x' < qs.length - x)) (sg.length<=1000000/\qB z3 (dP sg id)):=by
 conv=>zeta
 delta cI g0 qB sm I6 iR;obtain⟨b1,b2,b3,b4,b5,b6⟩:vs.length<=1000/\os.length<=1000/\qs.length<=1000/\sg.length<=1000/\(∀q∈qs,q.length<=1000)/\qs.flatten.length<=100000:=aF;refine⟨⟨0,⟨by omega,λj hj=>by omega⟩,⟨rfl,trivial⟩,rfl⟩,λk hk=>ah.2 ⟨λg=>?_,λg=>?_⟩⟩
 .simp only[dH]at g;refine⟨⟨by omega,by omega⟩,λd hd=>⟨?_,ah.2 ⟨λg2=>⟨rfl,?_⟩,λg2=>⟨ak.2 (by omega),k+1,⟨by omega,λj hj q hq=>?_⟩,⟨rfl,trivial⟩,rfl,by omega⟩⟩⟩⟩
  .have:=b5 d (iy hd);omega
  .have:oZ (vs,os,qs,sg,()) id=true:=by
    unfold oZ;rw[wC];exact .inl (Ku.2 ⟨d,iy hd,g2⟩)
   rw[this]
  .by_cases gU:j=k
   .subst gU;have hd:qs[j]?=some d:=hd;rw[hd]at hq;cases hq;exact g2
   .exact hk.2 j (by omega) q hq
 simp only[eX]at g;have:oZ (vs,os,qs,sg,()) id=dP sg id:=by
  unfold oZ;have:(qs.any λq=>dP q id)=false:=by
   rw[Ub];intro q hq;obtain⟨j,hj⟩:=yu hq;rw[hk.2 j (by have:=(A8.1 hj).1;omega) q hj];simp
  simp[this]
 exact⟨by omega,rfl,by rw[this]⟩
theorem aa6:aU aT.gd 164 aa5:=
 dQ (cx:=aT) (n:=22) (cl:=[(98,EO),(165,Hg)]) (rc:=[]) au ⟨zu,zy,trivial⟩ Tryz.func164 λd hd=>by
  obtain⟨⟨vs,os,qs,sg,⟨⟩⟩,id,⟨⟩⟩:=d;exact aJ (ak7 vs os qs sg id) (afZ vs os qs sg id hd) (by kernel_rfl)
def xZ(m:MD) (c id:Int):MD×Int:=if jV m c m.2.2.1.length=0 then(if id < 0 then(zM,2) else if oZ m id=true then(zM,30) else((m.1,m.2.1,m.2.2.1.set c.toNat (m.2.2.1[c.toNat]?.getD []++[id]),m.2.2.2),0)) else(zM,jV m c m.2.2.1.length)
def lM(sg l:List Int):List Int:=l.foldl (λs x=>bD (s++[x])) sg
theorem Qb{sg:List Int}{d:Int} (h:l[k]?=some d):lM sg (l.take (k+1))=bD (lM sg (l.take k)++[d]):=by
 unfold lM;rw[NQ,h];simp
theorem AZ:∀(l sg:List Int),(lM sg l).length<=sg.length+l.length
 | [],sg=>by simp[lM]
 | x :: l,sg=>by
   have:=AZ l (bD (sg++[x]));have h2:=zK (sg++[x]) [];have e:lM sg (x :: l)=lM (bD (sg++[x])) l:=rfl;rw[e];unfold bD at *;simp only[kC,wV,J9]at *;omega
def uS(m:MD) (c n:Int):MD×Int×Int:=if jV m c m.2.2.1.length=0 then((m.1,m.2.1,m.2.2.1.set c.toNat ((m.2.2.1[c.toNat]?.getD []).drop (jU n ((m.2.2.1[c.toNat]?.getD []).length:Int)).toNat),lM m.2.2.2.1 ((m.2.2.1[c.toNat]?.getD []).take (jU n ((m.2.2.1[c.toNat]?.getD []).length:Int)).toNat),()),jU n ((m.2.2.1[c.toNat]?.getD []).length:Int),0) else(zM,0,jV m c m.2.2.1.length)
def o7(m:MD) (id:Int):MD×Int:=if dW m=false then(zM,1) else if dP m.2.2.2.1 id=false then(zM,30) else((m.1,m.2.1,m.2.2.1,pG (bD m.2.2.2.1) [id] false,()),0)
def x9(vs:List VD) (ms cs:List ByteArray) (fs:List FD) (ts:List SD):MD×Int:=if(aG vs ms cs fs ts).1=0 then((vs.map (·.2.1),List.replicate ms.length (-1),List.replicate cs.length [],[],()),0) else(zM,(aG vs ms cs fs ts).1)
abbrev aa7:CT:={ ps:=[wu,.int .i64,.int .i64],pre:=λd=>bI d.1,res:=λd=>([],.gV [.agg [.sl (.int .i64) ((xZ d.1 d.2.1 d.2.2.1).1).1,.sl (.int .i64) ((xZ d.1 d.2.1 d.2.2.1).1).2.1,.sl (.sl (.int .i64)) ((xZ d.1 d.2.1 d.2.2.1).1).2.2.1,.sl (.int .i64) ((xZ d.1 d.2.1 d.2.2.1).1).2.2.2.1],.c (.v (.int .i64 ((xZ d.1 d.2.1 d.2.2.1).2)))]) }
theorem af0(vs os:List Int) (qs:List (List Int)) (sg:List Int) (c id:Int) (aF:aa7.pre ((vs,os,qs,sg,()),c,id,())):
 let z8:=(vs,os,qs,sg,());let z6:=xZ z8 c id;let z1:=[SV.agg [SC.sl I6 z6.fst.fst,SC.sl I6 z6.fst.snd.fst,SC.sl I6.sl z6.fst.snd.snd.fst,SC.sl I6 z6.fst.snd.snd.snd.fst],cI (z6.snd)];let z5:=0<=c/\c < (qs.length:Int);let z7:=c.toNat < qs.length;let z3:=decide z7=true/\c.toNat < qs.length;let z4:=λ(d:List Int)=>List.length (d)+List.length ([id]);let z2:=λ(d:List Int)=>[SV.agg [SC.sl I6 vs,SC.sl I6 os,SC.sl I6.sl (qs.set c.toNat ((d++[id]))),SC.sl I6 sg],cI 0];bI z8/\br (!decide (jV z8 c (qs.length:Int)=(0:Int))) (rT z1 [SV.agg VT,cI (jV z8 c (qs.length:Int))]) (br (decide (id < 0)) (rT z1 kq4) (bI z8/\br (oZ z8 id) (rT z1 kq3) (bI z8/\z5/\c.toNat < qs.length/\∀(d:List Int),qs[c.toNat]?=some d->false=false/\(decide z7=true->(z3/\∀(d:List Int),qs[c.toNat]?=some d->nR (z4 d) 8/\z5/\c.toNat < qs.length/\c.toNat=c.toNat/\∀(e0:List Int),qs[c.toNat]?=some e0->rT z1 (z2 d))/\(z3/\∀(d:List Int),qs[c.toNat]?=some d->nR (z4 d) 8/\z5/\c.toNat < qs.length/\c.toNat=c.toNat/\∀(e0:List Int),qs[c.toNat]?=some e0->rT z1 (z2 d))/\z3/\∀(d:List Int),qs[c.toNat]?=some d->nR (z4 d) 8/\z5/\c.toNat < qs.length/\c.toNat=c.toNat/\∀(e0:List Int),qs[c.toNat]?=some e0->rT z1 (z2 d))/\(decide z7=false->False/\False/\False)))):=by
 conv=>zeta
 delta VT kq4 kq3 cI rT I6;unfold xZ;have hb:=aF;obtain⟨b1,b2,b3,b4,b5,b6⟩:vs.length<=1000/\os.length<=1000/\qs.length<=1000/\sg.length<=1000/\(∀q∈qs,q.length<=1000)/\qs.flatten.length<=100000:=aF;refine⟨hb,ah.2 ⟨λh=>⟨rfl,?_⟩,λh=>?_⟩⟩
 .rw[if_neg (by simpa using h)];rfl
 have h:jV (vs,os,qs,sg,()) c qs.length=0:=by simpa using h
 have hx:=gW.1 h;rw[if_pos h];refine ah.2 ⟨λg=>⟨rfl,?_⟩,λg=>⟨hb,ah.2 ⟨λw=>⟨rfl,?_⟩,λw=>⟨hb,hx.2,by omega,λd hd=>⟨rfl,?_⟩⟩⟩⟩⟩
 .rw[if_pos (by simpa using g)];rfl
 .rw[if_neg (by simpa using g),if_pos w];rfl
 rw[if_neg (by simpa using g),if_neg (by simpa using w)]
 have hc:decide (c.toNat < qs.length)=true:=by rw[dH];omega
 have hl:=b5 d (iy hd);have e:(vs,os,qs,sg,()).2.2.1[c.toNat]?.getD []=d:=by simp[hd]
 rw[e];have key:∀d':List Int,qs[c.toNat]?=some d'->d'=d:=λd' h'=>by rw[hd]at h';cases h';rfl
 have hI:nR (d.length+1) 8:=eH.2 (by omega)
 have hz:¬decide (c.toNat < qs.length)=false:=by rw[hc];simp
 refine⟨λ_=>?_,λq=>absurd q hz⟩
 have F:(decide (c.toNat < qs.length)=true/\c.toNat < qs.length):=⟨hc,by omega⟩
 repeat' first | exact F | (refine And.intro ?_ ?_)
 all_goals
  intro d' h';cases key d' h';exact⟨hI,hx.2,by omega,rfl,λ_ _=>⟨rfl,rfl⟩⟩
theorem aa8:aU aT.gd 103 aa7:=
 dQ (cx:=aT) (n:=42) (cl:=[(158,BJ),(164,aa5),(49,aaY)]) (rc:=[.data wu,.keep]) au ⟨rF,aa6,afR,trivial⟩ Tryz.func103 λd hd=>by
  obtain⟨⟨vs,os,qs,sg,⟨⟩⟩,c,id,⟨⟩⟩:=d;exact aJ (λ_=>none) (af0 vs os qs sg c id hd) (by kernel_rfl)
abbrev SE:CT:={ ps:=[wu,.int .i64,.int .i64],pre:=λd=>bI d.1/\0<=d.2.2.1,res:=λd=>([],.gV [.agg [.sl (.int .i64) ((uS d.1 d.2.1 d.2.2.1).1).1,.sl (.int .i64) ((uS d.1 d.2.1 d.2.2.1).1).2.1,.sl (.sl (.int .i64)) ((uS d.1 d.2.1 d.2.2.1).1).2.2.1,.sl (.int .i64) ((uS d.1 d.2.1 d.2.2.1).1).2.2.2.1],.c (.v (.int .i64 ((uS d.1 d.2.1 d.2.2.1).2.1))),.c (.v (.int .i64 ((uS d.1 d.2.1 d.2.2.1).2.2)))]) }
abbrev ak8(vs os:List Int) (qs:List (List Int)) (sg:List Int) (c n:Int):Nat->Option (St->jv):=λk=>match k with
 | 7=>some λs=>.inv { α:=Nat,can:=[(5,.cell 6 3)],slots:=λk=>[(41,.c (.v (.int .i64 k)))],res:=λk=>[(5,.row 3 (.int .i64) (lM sg ((slotL (.int .i64) s 39).take k)))],inv:=λk=>k<=(slotL (.int .i64) s 39).length,meas:=λk=>(slotL (.int .i64) s 39).length - k }
 | _=>none
theorem af2(vs os:List Int) (qs:List (List Int)) (sg:List Int) (c n:Int) (aF:SE.pre ((vs,os,qs,sg,()),c,n,())):
 let z10:=(vs,os,qs,sg,());let z9:=uS z10 c n;let z2:=[SV.agg [SC.sl I6 z9.fst.fst,SC.sl I6 z9.fst.snd.fst,SC.sl I6.sl z9.fst.snd.snd.fst,SC.sl I6 z9.fst.snd.snd.snd.fst],cI (z9.snd.fst),cI (z9.snd.snd)];let z8:=0<=c/\c < (qs.length:Int);let z6:=λ(d dI:List Int)=>List.take (jU n (d.length:Int)).toNat dI;let z5:=[SC.sl I6 vs,SC.sl I6 os,SC.sl I6.sl qs,SC.sl I6 sg];let z7:=[SC.row 2,SC.row 3,SC.row 4,SC.row 5];let z3:=λ(x:Nat) (d dI:List Int)=>lM sg (List.take x (List.drop 0 (z6 d dI)));let z1:=λ(x:Nat) (d dI:List Int)=>[g0 (ay.blk 34 z5),g0 (ay.blk 34 mW),g0 (ay.row 3 I6 vs),g0 (ay.row 3 I6 os),g0 (ay.row 31 I6.sl qs),g0 (ay.row 3 I6 (z3 x d dI)),g0 (ay.blk 34 z7)];let z4:=λ(d nU:List Int)=>List.drop (jU n (d.length:Int)).toNat (List.take (nU.length:Int).toNat nU);bI z10/\br (!decide (jV z10 c (qs.length:Int)=(0:Int))) (rT z2 [SV.agg VT,cI 0,cI (jV z10 c (qs.length:Int))]) (bI z10/\z8/\c.toNat < qs.length/\∀(d:List Int),qs[c.toNat]?=some d->z8/\c.toNat < qs.length/\∀(dI:List Int),qs[c.toNat]?=some dI->((0:Int)<=(0:Int)/\0<=jU n (d.length:Int)/\jU n (d.length:Int)<=(dI.length:Int))/\(∃x,x<=List.length (List.drop 0 (z6 d dI))/\(cI 0=cI (x:Int)/\True)/\[g0 (ay.blk 34 z5),g0 (ay.blk 34 mW),g0 (ay.row 3 I6 vs),g0 (ay.row 3 I6 os),g0 (ay.row 31 I6.sl qs),g0 (ay.row 3 I6 sg),g0 (ay.blk 34 z7)]=(z1 x d dI))/\∀(x:Nat),x<=List.length (List.drop 0 (z6 d dI))->br (decide ((x:Int) < (↑(List.drop 0 (z6 d dI)).length:Int))) ((0<=(x:Int)/\(x:Int) < (↑(List.drop 0 (z6 d dI)).length:Int))/\∀(nU:Int),(List.drop 0 (z6 d dI))[(x:Int).toNat]?=some nU->(z3 x d dI).length<=999999/\iR ((x:Int)+(1:Int))/\∃x',x'<=List.length (List.drop 0 (z6 d dI))/\(cI ((x:Int)+(1:Int))=cI (x':Int)/\True)/\[g0 (ay.blk 34 z5),g0 (ay.blk 34 mW),g0 (ay.row 3 I6 vs),g0 (ay.row 3 I6 os),g0 (ay.row 31 I6.sl qs),g0 (ay.row 3 I6 (bD (lM sg (List.take x (List.drop 0 (z6 d dI)))++[nU]))),g0 (ay.blk 34 z7)]=(z1 x' d dI)/\List.length (List.drop 0 (z6 d dI)) - x' < List.length (List.drop 0 (z6 d dI)) - x) (z8/\c.toNat < qs.length/\∀(nU:List Int),qs[c.toNat]?=some nU->(0<=jU n (d.length:Int)/\jU n (d.length:Int)<=(nU.length:Int)/\(nU.length:Int)<=(nU.length:Int))/\(z4 d nU).length<=1000000/\z8/\c.toNat < qs.length/\rT z2 [SV.agg [SC.sl I6 vs,SC.sl I6 os,SC.sl I6.sl (qs.set c.toNat (z4 d nU)),SC.sl I6 (z3 x d dI)],cI (jU n (d.length:Int)),cI 0])):=by
 conv=>zeta
 delta mW VT cI g0 rT I6 iR iN;obtain⟨hb,hn⟩:bI (vs,os,qs,sg,())/\0<=n:=aF;unfold uS;obtain⟨b1,b2,b3,b4,b5,b6⟩:vs.length<=1000/\os.length<=1000/\qs.length<=1000/\sg.length<=1000/\(∀q∈qs,q.length<=1000)/\qs.flatten.length<=100000:=id hb;refine⟨hb,ah.2 ⟨λh=>⟨rfl,?_⟩,λh=>?_⟩⟩
 .rw[if_neg (by simpa using h)];rfl
 have h:jV (vs,os,qs,sg,()) c qs.length=0:=by simpa using h
 have hx:=gW.1 h;rw[if_pos h];refine⟨hb,hx.2,by omega,λd hd=>⟨hx.2,by omega,λd1 hd1=>?_⟩⟩
 rw[hd]at hd1;cases hd1;have hl:=b5 d (iy hd);have e:(vs,os,qs,sg,()).2.2.1[c.toNat]?.getD []=d:=by simp[hd]
 rw[e];have hm:0<=jU n (d.length:Int)/\jU n (d.length:Int)<=d.length:=by unfold jU;split<;>omega
 generalize jU n (d.length:Int)=k at hm;rw[NR];have h2:(d.take k.toNat).length<=1000:=by rw[kX];omega
 refine⟨⟨by omega,hm⟩,⟨0,by omega,⟨rfl,trivial⟩,rfl⟩,λj hj=>ah.2 ⟨λg=>?_,λg=>?_⟩⟩
 .simp only[dH]at g;refine⟨⟨by omega,by omega⟩,λx hx2=>⟨?_,ak.2 (by omega),j+1,by omega,⟨rfl,trivial⟩,?_,by omega⟩⟩
  .have:=AZ ((d.take k.toNat).take j) sg;rw[kX]at this;omega
  .have hx2:(d.take k.toNat)[j]?=some x:=hx2;rw[Qb hx2]
 simp only[eX]at g;refine⟨hx.2,by omega,λd2 hd2=>?_⟩
 rw[hd]at hd2;cases hd2;have e2:List.take (d.length:Int).toNat d=d:=wB (by omega)
 rw[e2];refine⟨⟨by omega,by omega,by omega⟩,by rw[yj];omega,hx.2,by omega,rfl,?_⟩
 rw[wB (i:=j) (by omega)]
theorem Nr:aU aT.gd 166 SE:=
 dQ (cx:=aT) (n:=65) (cl:=[(158,BJ),(111,MC),(107,H9),(49,BI)]) (rc:=[.data wu,.keep,.keep]) au ⟨rF,EP,zL,rD,trivial⟩ Tryz.func166 λd hd=>by
  obtain⟨⟨vs,os,qs,sg,⟨⟩⟩,c,n,⟨⟩⟩:=d;exact aJ (ak8 vs os qs sg c n) (af2 vs os qs sg c n hd) (by kernel_rfl)
abbrev aa9:CT:={ ps:=[wu,.int .i64],pre:=λd=>bI d.1,res:=λd=>([],.gV [.agg [.sl (.int .i64) ((uS d.1 d.2.1 1).1).1,.sl (.int .i64) ((uS d.1 d.2.1 1).1).2.1,.sl (.sl (.int .i64)) ((uS d.1 d.2.1 1).1).2.2.1,.sl (.int .i64) ((uS d.1 d.2.1 1).1).2.2.2.1],.c (.v (.int .i64 ((uS d.1 d.2.1 1).2.1))),.c (.v (.int .i64 ((uS d.1 d.2.1 1).2.2)))]) }
theorem af4(vs os:List Int) (qs:List (List Int)) (sg:List Int) (c:Int) (aF:aa9.pre ((vs,os,qs,sg,()),c,())):
 let z3:=uS (vs,os,qs,sg,()) c (1:Int);let z1:=z3.snd.fst;let z2:=z3.snd.snd;(bI (vs,os,qs,sg,())/\(0:Int)<=(1:Int))/\rT [SV.agg [SC.sl I6 z3.fst.fst,SC.sl I6 z3.fst.snd.fst,SC.sl I6.sl z3.fst.snd.snd.fst,SC.sl I6 z3.fst.snd.snd.snd.fst],cI z1,cI z2] [SV.agg [SC.sl I6 (z3.fst.fst,z3.fst.snd.fst,z3.fst.snd.snd.fst,z3.fst.snd.snd.snd.fst,()).fst,SC.sl I6 (z3.fst.snd.fst,z3.fst.snd.snd.fst,z3.fst.snd.snd.snd.fst,()).fst,SC.sl I6.sl (z3.fst.snd.snd.fst,z3.fst.snd.snd.snd.fst,()).fst,SC.sl I6 z3.fst.snd.snd.snd.fst],cI z1,cI z2]:=by
 conv=>zeta
 delta cI rT I6;exact⟨⟨aF,by decide⟩,rfl,rfl⟩
theorem abb:aU aT.gd 105 aa9:=
 dQ (cx:=aT) (n:=13) (cl:=[(166,SE)]) (rc:=[.data wu,.keep,.keep]) au ⟨Nr,trivial⟩ Tryz.func105 λd hd=>by
  obtain⟨⟨vs,os,qs,sg,⟨⟩⟩,c,⟨⟩⟩:=d;exact aJ (λ_=>none) (af4 vs os qs sg c hd) (by kernel_rfl)
abbrev abd:CT:={ ps:=[wu,.int .i64],pre:=λd=>bI d.1,res:=λd=>([],.gV [.agg [.sl (.int .i64) ((o7 d.1 d.2.1).1).1,.sl (.int .i64) ((o7 d.1 d.2.1).1).2.1,.sl (.sl (.int .i64)) ((o7 d.1 d.2.1).1).2.2.1,.sl (.int .i64) ((o7 d.1 d.2.1).1).2.2.2.1],.c (.v (.int .i64 ((o7 d.1 d.2.1).2)))]) }
theorem af5(vs os:List Int) (qs:List (List Int)) (sg:List Int) (id:Int) (aF:abd.pre ((vs,os,qs,sg,()),id,())):
 let z3:=(vs,os,qs,sg,());let z2:=o7 z3 id;let z1:=[SV.agg [SC.sl I6 z2.fst.fst,SC.sl I6 z2.fst.snd.fst,SC.sl I6.sl z2.fst.snd.snd.fst,SC.sl I6 z2.fst.snd.snd.snd.fst],cI (z2.snd)];bI z3/\br (!dW z3) (rT z1 [SV.agg VT,cI 1]) (sg.length<=1000000/\br (!dP sg id) (rT z1 kq3) (bI z3/\sg.length<=1000000/\rT z1 [SV.agg [SC.sl I6 vs,SC.sl I6 os,SC.sl I6.sl qs,SC.sl I6 (pG (bD sg) [id] false)],cI 0])):=by
 conv=>zeta
 delta VT kq3 cI rT I6;have hb:=aF;obtain⟨b1,b2,b3,b4,b5,b6⟩:vs.length<=1000/\os.length<=1000/\qs.length<=1000/\sg.length<=1000/\(∀q∈qs,q.length<=1000)/\qs.flatten.length<=100000:=aF;unfold o7;refine⟨hb,ah.2 ⟨λh=>⟨rfl,?_⟩,λh=>⟨by omega,ah.2 ⟨λg=>⟨rfl,?_⟩,λg=>⟨hb,by omega,rfl,?_⟩⟩⟩⟩⟩
 .rw[if_pos (by simpa using h)];rfl
 .rw[if_neg (by simpa using h),if_pos (by simpa using g)];rfl
 .rw[if_neg (by simpa using h),if_neg (by simpa using g)]
theorem abe:aU aT.gd 104 abd:=
 dQ (cx:=aT) (n:=25) (cl:=[(157,aaX),(165,Hg),(112,MO),(49,BI)]) (rc:=[.data wu,.keep]) au ⟨Fp,zy,Fg,rD,trivial⟩ Tryz.func104 λd hd=>by
  obtain⟨⟨vs,os,qs,sg,⟨⟩⟩,id,⟨⟩⟩:=d;exact aJ (λ_=>none) (af5 vs os qs sg id hd) (by kernel_rfl)
abbrev Qc:CT:={ ps:=[o9],pre:=λd=>bnd d,res:=λd=>([],.gV [.agg [.sl (.int .i64) ((x9 d.1.1 d.1.2.1 d.1.2.2.1 d.1.2.2.2.1 d.1.2.2.2.2.1).1).1,.sl (.int .i64) ((x9 d.1.1 d.1.2.1 d.1.2.2.1 d.1.2.2.2.1 d.1.2.2.2.2.1).1).2.1,.sl (.sl (.int .i64)) ((x9 d.1.1 d.1.2.1 d.1.2.2.1 d.1.2.2.2.1 d.1.2.2.2.2.1).1).2.2.1,.sl (.int .i64) ((x9 d.1.1 d.1.2.1 d.1.2.2.1 d.1.2.2.2.1 d.1.2.2.2.2.1).1).2.2.2.1],.c (.v (.int .i64 ((x9 d.1.1 d.1.2.1 d.1.2.2.1 d.1.2.2.2.1 d.1.2.2.2.2.1).2)))]) }
abbrev an4(vs:List VD) (ms cs:List ByteArray) (fs:List FD) (ts:List SD):Nat->Option (St->jv):=λk=>match k with
 | 6=>some λs=>.inv { α:=Nat,rX:=[(3,0,3,.int .i64)],slots:=λk=>[(28,.c (.v (.int .i64 k)))],res:=λk=>[(4,.row 3 (.int .i64) ((vs.take k).map (·.2.1)))],inv:=λk=>k<=vs.length,meas:=λk=>vs.length - k }
 | 11=>some λs=>.inv { α:=Nat,rX:=[(3,1,3,.int .i64)],slots:=λk=>[(43,.c (.v (.int .i64 k)))],res:=λk=>[(5,.row 3 (.int .i64) (List.replicate k (-1)))],inv:=λk=>k<=ms.length,meas:=λk=>ms.length - k }
 | _=>none
theorem ak9(vs:List VD) (ms cs:List ByteArray) (fs:List FD) (ts:List SD) (aF:Qc.pre ((vs,ms,cs,fs,ts,()),())):
 let z8:=x9 vs ms cs fs ts;let z1:=[SV.agg [SC.sl I6 z8.fst.fst,SC.sl I6 z8.fst.snd.fst,SC.sl I6.sl z8.fst.snd.snd.fst,SC.sl I6 z8.fst.snd.snd.snd.fst],cI (z8.snd)];let z3:=[SC.sl ER vs,SC.sl Sh.str ms,SC.sl Sh.str cs,SC.sl BA fs,SC.sl lU ts];let z5:=List.replicate (cs.length:Int).toNat [];let z4:=[SC.row (Nat.succ 0).succ.succ.succ,iN,SC.row (Nat.succ 0).succ,iN];let z9:=λ(x:Nat)=>List.take x vs;let z7:=λ(x:Nat)=>(x:Int)+(1:Int);let z2:=[SC.row (Nat.succ 0).succ.succ.succ,SC.row (Nat.succ 0).succ.succ.succ.succ,SC.row (Nat.succ 0).succ,iN];let z6:=λ(x_1:Nat)=>List.replicate x_1 (-1:Int);(vs.length<=1000000/\ms.length<=1000000/\cs.length<=1000000/\fs.length<=1000000/\ts.length<=1000000/\(∀(x:ByteArray×(lJ.sl.pair Sh.unit).den),x∈fs->List.length x.snd.fst<=1000000)/\(dN fs).length<=1000000)/\br (!decide ((aG vs ms cs fs ts).fst=0)) (rT z1 [SV.agg VT,cI ((aG vs ms cs fs ts).fst)]) ((0<=(cs.length:Int)/\(cs.length:Int)<=(cs.length:Int)/\nR (cs.length:Int).toNat 24)/\(∃x,x<=vs.length/\(cI 0=cI (x:Int)/\True)/\[g0 (ay.blk 27 z3),g0 (ay.blk 34 mW),g0 (ay.row 31 I6.sl z5),g0 (ay.blk 34 z4),g0 (ay.row 3 I6 [])]=[g0 (ay.blk 27 z3),g0 (ay.blk 34 mW),g0 (ay.row 31 I6.sl z5),g0 (ay.blk 34 z4),g0 (ay.row 3 I6 (List.map (λx=>x.snd.fst) (List.take x vs)))])/\∀(x:Nat),x<=vs.length->br (decide ((x:Int) < (vs.length:Int))) ((0<=(x:Int)/\(x:Int) < (vs.length:Int))/\∀(d:ByteArray×(I6.pair Sh.unit).den),vs[(x:Int).toNat]?=some d->nR (List.length (List.map (λx=>x.snd.fst) (z9 x))+List.length ([d.snd.fst])) 8/\iR (z7 x)/\∃x',x'<=vs.length/\(cI (z7 x)=cI (x':Int)/\True)/\[g0 (ay.blk 27 z3),g0 (ay.blk 34 mW),g0 (ay.row 31 I6.sl z5),g0 (ay.blk 34 z4),g0 (ay.row 3 I6 (List.map (λx=>x.snd.fst) (z9 x)++[d.snd.fst]))]=[g0 (ay.blk 27 z3),g0 (ay.blk 34 mW),g0 (ay.row 31 I6.sl z5),g0 (ay.blk 34 z4),g0 (ay.row 3 I6 (List.map (λx=>x.snd.fst) (List.take x' vs)))]/\vs.length - x' < vs.length - x) ((∃x_1,x_1<=ms.length/\(cI 0=cI (x_1:Int)/\True)/\[g0 (ay.blk 27 z3),g0 (ay.blk 34 mW),g0 (ay.row 31 I6.sl z5),g0 (ay.blk 34 z2),g0 (ay.row 3 I6 (List.map (λx=>x.snd.fst) (z9 x))),g0 (ay.row 3 I6 [])]=[g0 (ay.blk 27 z3),g0 (ay.blk 34 mW),g0 (ay.row 31 I6.sl z5),g0 (ay.blk 34 z2),g0 (ay.row 3 I6 (List.map (λx=>x.snd.fst) (z9 x))),g0 (ay.row 3 I6 (z6 x_1))])/\∀(x_1:Nat),x_1<=ms.length->br (decide ((x_1:Int) < (ms.length:Int))) (nR (List.length (z6 x_1)+1) 8/\iR (z7 x_1)/\∃x',x'<=ms.length/\(cI (z7 x_1)=cI (x':Int)/\True)/\[g0 (ay.blk 27 z3),g0 (ay.blk 34 mW),g0 (ay.row 31 I6.sl z5),g0 (ay.blk 34 z2),g0 (ay.row 3 I6 (List.map (λx=>x.snd.fst) (z9 x))),g0 (ay.row 3 I6 (List.replicate x_1 (-1:Int)++[(-1:Int)]))]=[g0 (ay.blk 27 z3),g0 (ay.blk 34 mW),g0 (ay.row 31 I6.sl z5),g0 (ay.blk 34 z2),g0 (ay.row 3 I6 (List.map (λx=>x.snd.fst) (z9 x))),g0 (ay.row 3 I6 (List.replicate x' (-1:Int)))]/\ms.length - x' < ms.length - x_1) (rT z1 [SV.agg [SC.sl I6 (List.map (λx=>x.snd.fst) (z9 x)),SC.sl I6 (z6 x_1),SC.sl I6.sl z5,SC.sl I6 []],cI 0]))):=by
 conv=>zeta
 delta VT mW cI g0 rT I6 iR iN;have hb:vs.length<=1000000/\ms.length<=1000000/\cs.length<=1000000:=⟨aF.1,aF.2.1,aF.2.2.1⟩;obtain⟨b1,b2,b3⟩:=hb;unfold x9;refine⟨aF,ah.2 ⟨λh=>⟨rfl,?_⟩,λh=>?_⟩⟩
 .rw[if_neg (by simpa using h)];rfl
 rw[if_pos (by simpa using h)]
 refine⟨⟨by omega,by omega,eH.2 (by omega)⟩,⟨0,by omega,⟨rfl,trivial⟩,rfl⟩,λk hk=>ah.2 ⟨λg=>?_,λg=>?_⟩⟩
 .simp only[dH]at g;refine⟨⟨by omega,by omega⟩,λd hd=>⟨eH.2 ?_,ak.2 (by omega),k+1,by omega,⟨rfl,trivial⟩,?_,by omega⟩⟩
  .simp only[VW,kX,wV,J9];omega
  .have hd:vs[k]?=some d:=hd;have e:List.map (λx:VD=>x.snd.fst) (List.take (k+1) vs)=List.map (λx:VD=>x.snd.fst) (List.take k vs)++[d.2.1]:=by rw[NQ,hd];simp
   rw[e]
 simp only[eX]at g;rw[wB (i:=k) (by omega)]
 refine⟨⟨0,by omega,⟨rfl,trivial⟩,rfl⟩,λj hj=>ah.2 ⟨λg2=>?_,λg2=>?_⟩⟩
 .simp only[dH]at g2;refine⟨eH.2 ?_,ak.2 (by omega),j+1,by omega,⟨rfl,trivial⟩,?_,by omega⟩
  .simp only[J6];omega
  .have e:List.replicate (j+1) (-1:Int)=List.replicate j (-1)++[-1]:=List.replicate_succ';rw[show List.replicate (j+1) (-1:(Sh.int IntKind.i64).den)=List.replicate j (-1)++[-1] from e]
 simp only[eX]at g2;have ej:j=ms.length:=by omega
 subst ej;exact⟨rfl,rfl⟩
theorem af6:aU aT.gd 33 Qc:=
 dQ (cx:=aT) (n:=52) (cl:=[(74,Hr)]) (rc:=[.data wu,.keep]) au ⟨CW,trivial⟩ Tryz.func33 λd hd=>by
  obtain⟨⟨vs,ms,cs,fs,ts,⟨⟩⟩,⟨⟩⟩:=d;exact aJ (an4 vs ms cs fs ts) (ak9 vs ms cs fs ts hd) (by kernel_rfl)
theorem ala(vs os:List Int) (qs:List (List Int)) (sg:List Int) (i:Int) (aF:Np.pre ((vs,os,qs,sg,()),i,())):
 let z2:=(vs,os,qs,sg,());let z1:=dW z2 && decide (0<=i) && decide (i < (os.length:Int));bI z2/\(z1=true->0<=i/\i < (os.length:Int))/\∀(d:Int),(z1=true->os[i.toNat]?=some d)->qB (nJ z2 i) (dW z2 && decide (0<=i) && decide (i < (os.length:Int)) && decide (d=(-1))):=by
 conv=>zeta
 delta qB;unfold nJ;refine⟨aF,λh=>?_,λd hd=>⟨rfl,?_⟩⟩
 .simp at h;omega
 .by_cases h:jV (vs,os,qs,sg,()) i os.length=0
  .have hx:=gW.1 h;have:=hd (by simp[hx])
   have e:(vs,os,qs,sg,()).2.1[i.toNat]?.getD 0=d:=by show os[i.toNat]?.getD 0=d;rw[this];rfl
   rw[e];simp only[hx,h,decide_true,FM]
  .have hx:¬(dW (vs,os,qs,sg,())=true/\0<=i/\i < os.length):=λq=>h (gW.2 q)
   have e:(dW (vs,os,qs,sg,()) && decide (0<=i) && decide (i < (os.length:Int)))=false:=by
    rw[VN];intro q;simp at q;exact hx ⟨q.1.1,q.1.2,q.2⟩
   rw[e];simp[h]
theorem SG:aU aT.gd 93 Np:=
 dQ (cx:=aT) (n:=26) (cl:=[(137,afP)]) (rc:=[]) au ⟨Nj,trivial⟩ Tryz.func93 λd hd=>by
  obtain⟨⟨vs,os,qs,sg,⟨⟩⟩,i,⟨⟩⟩:=d;exact aJ (λ_=>none) (ala vs os qs sg i hd) (by kernel_rfl)
end
end Go.Proofs.YtjhenjhcbcalpaaGreatDoor
