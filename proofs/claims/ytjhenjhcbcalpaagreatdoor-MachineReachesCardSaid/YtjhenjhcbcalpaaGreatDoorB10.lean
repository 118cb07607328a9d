/- Part 10 of the proof. Conditions: the rows'. -/
import Derived.Test.YtjhenjhcbcalpaaGreatDoorB9
set_option linter.unusedSimpArgs false
set_option linter.unusedVariables false
set_option maxRecDepth 1000000
set_option maxHeartbeats 8000000
namespace Go.Proofs.YtjhenjhcbcalpaaGreatDoor
open Go Go.l9
noncomputable section
variable {l:List Int}{qs:List (List Int)}{k:Nat}
abbrev wF:Sh:=.pair (.sl (.int .i64)) (.pair (.sl (.int .i64)) (.pair (.sl (.sl (.int .i64))) (.pair (.sl (.int .i64)) .unit)))
abbrev MD:=List Int×List Int×List (List Int)×List Int×Unit
def I5:MD->Prop
 | (vs,os,qs,sg,_)=>vs.length<=8/\os.length<=4/\qs.length<=4/\SS sg/\(∀v∈vs,bU v=true)/\(∀o∈os,-1<=o)/\(∀x∈sg++qs.flatten,0<=x)/\(sg++qs.flatten).Nodup
open Classical in
def dK(m:MD):Bool:=decide (I5 m)
open Classical in
theorem dW{m:MD}:dK m=true↔I5 m:=by unfold dK;rw[WZ]
theorem Cj{m:MD} (h:¬I5 m):dK m=false:=A97.2 λq=>h (dW.1 q)
def bK(m:MD):Prop:=m.1.length<=1000/\m.2.1.length<=1000/\m.2.2.1.length<=1000/\m.2.2.2.1.length<=1000/\(∀q∈m.2.2.1,q.length<=1000)/\m.2.2.1.flatten.length<=100000
theorem o7{n:Int}:bU n=true↔-2147483648<=n/\n<=2147483647:=by
 unfold bU;simp
theorem sQ:kF l=true↔SS l:=by unfold kF;rw[WZ]
theorem I7(qs:List (List Int)) (k:Nat):(qs.take k).flatten.length<=qs.flatten.length:=by
 have:qs.flatten=(qs.take k).flatten++(qs.drop k).flatten:=by rw[<-List.flatten_append,WJ]
 rw[this,kH];omega
theorem I8{d:List Int} (h:qs[k]?=some d):(qs.take (k+1)).flatten=(qs.take k).flatten++d:=by
 rw[OJ,h];simp
theorem abB(h:l.Nodup){d:Int} (hd:l[k]?=some d):d∉l.take k:=by
 intro hm;obtain⟨j,hj⟩:=Ai hm;rw[vk]at hj;split at hj
 .rename_i iY;obtain⟨h1,e1⟩:=A8.1 hj;obtain⟨h2,e2⟩:=A8.1 hd;have:=Xb.1 h j k h1 h2 iY;exact this (e1.trans e2.symm)
 .cases hj
theorem QL(h:(l.take k).Nodup){d:Int} (hd:l[k]?=some d) (hn:d∉l.take k):(l.take (k+1)).Nodup:=by
 rw[OJ,hd,adu,List.nodup_append];refine⟨h,by simp,λa ha b hb=>?_⟩
 simp at hb;subst hb;rintro rfl;exact hn ha
theorem zQ:∀(l o:List Int),(l.foldl (λo x=>if dO o x then o else wE o x) o).length<=o.length+l.length
 | [],o=>by simp
 | x :: l,o=>by
   simp only[Jk,sV];split
   .have:=zQ l o;omega
   .have:=zQ l (wE o x);rw[FC]at this;omega
theorem I9:∀(l o:List Int),(l.foldl (λo x=>if dO o x then o else wE o x) o).length=o.length+l.length↔(l.Nodup/\∀x∈l,x∉o)
 | [],o=>by simp
 | x :: l,o=>by
   simp only[Jk,sV];split
   .rename_i hx;have:=zQ l o;constructor
    .intro h;omega
    .rintro⟨_,h⟩;exact absurd (jO.1 hx) (h x (by simp))
   .rename_i hx;have hx:x∉o:=λhh=>hx (jO.2 hh)
    have ih:=I9 l (wE o x);rw[FC]at ih;rw[show o.length+(l.length+1)=o.length+1+l.length by omega,ih,OU]
    constructor
    .rintro⟨h1,h2⟩;refine⟨⟨λhm=>h2 x hm (Dt.2 (.inl rfl)),h1⟩,λy hy=>?_⟩
     rcases lU.1 hy with rfl | hy
     .exact hx
     .exact λhh=>h2 y hy (Dt.2 (.inr hh))
    .rintro⟨⟨h1,h2⟩,h3⟩;refine⟨h2,λy hy hh=>?_⟩
     rcases Dt.1 hh with rfl | hh
     .exact h1 hy
     .exact h3 y (by simp[hy]) hh
theorem QM:(aY l).length=l.length↔l.Nodup:=by
 have:=I9 l [];simp only[Lp,D6]at this;unfold aY;rw[this];simp
abbrev Jb:CT:={ ps:=[.sl (.int .i64)],pre:=λd=>d.1.length<=1000000,res:=λd=>([.row 3 (.int .i64) (d.1)],.one (.c (.row 0))) }
theorem agv(l:List Int) (aG:Jb.pre (l,())):
 let z1:=List.replicate (l.length:Int).toNat (0:Int);((0:Int)<=(l.length:Int)/\(l.length:Int)<=(l.length:Int)/\oz (l.length:Int).toNat (8:Nat))/\[ak.row (3:TypeId) zu l]=[ak.row (3:TypeId) zu (List.take (List.length z1) (l)++List.drop (List.length (l)) z1)]/\bg.one IE=bg.one IE:=by
 conv=>zeta
 delta zu IE;have hp:l.length<=1000000:=aG;refine⟨⟨by omega,by omega,dZ.2 (by omega)⟩,?_,rfl⟩
 simp
theorem zS:aU aS.gd 107 Jb:=
 dY (cx:=aS) (n:=11) (cl:=[]) (rc:=[]) au trivial Tryz.func107 λd hd=>by
  obtain⟨l,⟨⟩⟩:=d;exact aP (λ_=>none) (agv l hd) (by kernel_rfl)
abbrev abC:CT:={ ps:=[wF],pre:=λd=>bK d.1,res:=λd=>([],vB (dK d.1)) }
abbrev alv(vs os:List Int) (qs:List (List Int)) (sg:List Int):Nat->Option (St->jK):=λk=>match k with
 | 4=>some λ_=>.inv { α:=Nat,slots:=λk=>[(37,.c (.v (.int .i64 k)))],res:=λ_=>[],inv:=λk=>k<=vs.length/\∀j < k,∀v,vs[j]?=some v->bU v=true,meas:=λk=>vs.length - k }
 | 10=>some λ_=>.inv { α:=Nat,slots:=λk=>[(51,.c (.v (.int .i64 k)))],res:=λ_=>[],inv:=λk=>k<=os.length/\∀j < k,∀v,os[j]?=some v->-1<=v,meas:=λk=>os.length - k }
 | 17=>some λ_=>.inv { α:=Nat,drop:=[60],slots:=λk=>[(64,.c (.v (.int .i64 k))),(7,.c (.row 1))],res:=λk=>[(1,.row 3 (.int .i64) (sg++(qs.take k).flatten))],inv:=λk=>k<=qs.length,meas:=λk=>qs.length - k }
 | 22=>some λ_=>.inv { α:=Nat,ug:=[1],slots:=λk=>[(74,.c (.v (.int .i64 k)))],res:=λ_=>[],inv:=λk=>k<=(sg++qs.flatten).length/\(∀j < k,∀v,(sg++qs.flatten)[j]?=some v->0<=v)/\((sg++qs.flatten).take k).Nodup,meas:=λk=>(sg++qs.flatten).length - k }
 | _=>none
theorem agw(vs os:List Int) (qs:List (List Int)) (sg:List Int) (aG:abC.pre ((vs,os,qs,sg,()),())):
 let z13:=dK (vs,os,qs,sg,());let z10:=qB z13 false;let z3:=λ(x:Nat)=>(x<=vs.length/\∀(j:Nat),j < x->∀(v:Int),vs[j]?=some v->bU v=true);let z12:=λ(x:Nat)=>cI 0=cI (x:Int)/\True;let z8:=[SC.sl I6 vs,SC.sl I6 os,SC.sl I6.sl qs,SC.sl I6 sg];let z7:=[g0 (ak.blk 34 z8)];let yg:=λ(x:Nat)=>(x:Int)+(1:Int);let z9:=λ(x x':Nat)=>cI (yg x)=cI (x':Int)/\True;let z5:=λ(x:Nat)=>(x<=os.length/\∀(j:Nat),j < x->∀(v:Int),os[j]?=some v->(-1)<=v);let z11:=λ(x:Nat)=>sg++(List.take x qs).flatten;let z2:=λ(x:Nat)=>[g0 (ak.blk 34 z8),g0 (ak.row 3 I6 (z11 x))];let nS:=sg++qs.flatten;let z6:=λ(x_1:Nat)=>(∀(j:Nat),j < x_1->∀(v:Int),nS[j]?=some v->0<=v);let z1:=λ(x:Nat)=>x<=nS.length/\(z6 x)/\(List.take x nS).Nodup;let z4:=[g0 (ak.blk 34 z8),g0 ak.gone];((!(decide (8 < (vs.length:Int)) || decide (4 < (os.length:Int)) || decide (4 < (qs.length:Int))))=true->sg.length<=1000000)/\br (decide (8 < (vs.length:Int)) || decide (4 < (os.length:Int)) || decide (4 < (qs.length:Int)) || !kF sg) z10 ((∃x,(z3 x)/\(z12 x)/\sm z7)/\∀(x:Nat),(z3 x)->br (decide ((x:Int) < (vs.length:Int))) ((0<=(x:Int)/\(x:Int) < (vs.length:Int))/\∀(d:Int),vs[(x:Int).toNat]?=some d->br (decide (d < (-2147483648)) || decide (2147483647 < d)) z10 (iR (yg x)/\∃x',(z3 x')/\(z9 x x')/\sm z7/\vs.length - x' < vs.length - x)) ((∃x,(z5 x)/\(z12 x)/\sm z7)/\∀(x:Nat),(z5 x)->br (decide ((x:Int) < (os.length:Int))) ((0<=(x:Int)/\(x:Int) < (os.length:Int))/\∀(d:Int),os[(x:Int).toNat]?=some d->br (decide (d < (-1))) z10 (iR (yg x)/\∃x',(z5 x')/\(z9 x x')/\sm z7/\os.length - x' < os.length - x)) (sg.length<=1000000/\(∃x,x<=qs.length/\(cI 0=cI (x:Int)/\SV.c (SC.row 1)=SV.c (SC.row 1)/\True)/\[g0 (ak.blk 34 z8),g0 (ak.row 3 I6 sg)]=(z2 x))/\∀(x:Nat),x<=qs.length->br (decide ((x:Int) < (qs.length:Int))) ((0<=(x:Int)/\(x:Int) < (qs.length:Int))/\∀(d:List Int),qs[(x:Int).toNat]?=some d->oz (List.length ((z11 x))+List.length (d)) 8/\iR (yg x)/\∃x',x'<=qs.length/\(cI (yg x)=cI (x':Int)/\SV.c (SC.row 1)=SV.c (SC.row 1)/\True)/\[g0 (ak.blk 34 z8),g0 (ak.row 3 I6 ((z11 x)++d))]=(z2 x')/\qs.length - x' < qs.length - x) ((∃x,(z1 x)/\(z12 x)/\sm z4)/\∀(x_1:Nat),x_1<=nS.length/\(z6 x_1)/\(List.take x_1 nS).Nodup->br (decide ((x_1:Int) < (↑(z11 x).length:Int))) ((0<=(x_1:Int)/\(x_1:Int) < (↑(z11 x).length:Int))/\∀(d:Int),(z11 x)[(x_1:Int).toNat]?=some d->((!decide (d < 0))=true->(0:Int)<=(0:Int)/\0<=(x_1:Int)/\(x_1:Int)<=(↑(z11 x).length:Int))/\((!decide (d < 0))=true->(List.drop 0 (List.take (x_1:Int).toNat (z11 x))).length<=4611686018427387904)/\br (decide (d < 0) || dO (List.drop 0 (List.take (x_1:Int).toNat (z11 x))) d) z10 (iR (yg x_1)/\∃x',(z1 x')/\(z9 x_1 x')/\sm z4/\nS.length - x' < nS.length - x_1)) (qB z13 true))))):=by
 conv=>zeta
 delta cI g0 qB sm I6 iR;obtain⟨b1,b2,b3,b4,b5,b6⟩:vs.length<=1000/\os.length<=1000/\qs.length<=1000/\sg.length<=1000/\(∀q∈qs,q.length<=1000)/\qs.flatten.length<=100000:=aG;have fF:¬I5 (vs,os,qs,sg,())->([]:List Go.l9.ak)=[]/\bg.one (SV.c (SC.v (Value.bool (dK (vs,os,qs,sg,())))))=bg.one (SV.c (SC.v (Value.bool false))):=λq=>⟨rfl,by rw[Cj q]⟩
 refine⟨λ_=>by omega,ah.2 ⟨λh=>fF λq=>?_,λh=>?_⟩⟩
 .obtain⟨q1,q2,q3,q4,_⟩:=q;rw[sQ.2 q4]at h;simp at h;omega
 simp only[l7,wI,eH]at h;obtain⟨⟨⟨h1,h2⟩,h3⟩,h4⟩:=h;have h4:SS sg:=sQ.1 h4;refine⟨⟨0,⟨by omega,λj hj=>by omega⟩,⟨rfl,trivial⟩,rfl⟩,λk hk=>ah.2 ⟨λg=>?_,λg=>?_⟩⟩
 .simp only[dN]at g;refine⟨⟨by omega,by omega⟩,λd hd=>ah.2 ⟨λg2=>fF λq=>?_,λg2=>⟨ay.2 (by omega),k+1,⟨by omega,λj hj v hv=>?_⟩,⟨rfl,trivial⟩,rfl,by omega⟩⟩⟩
  .have:=o7.1 (q.2.2.2.2.1 d (gZ hd));simp at g2;omega
  .by_cases iY:j=k
   .subst iY;have hd:vs[j]?=some d:=hd;rw[hd]at hv;cases hv;rw[o7];simp at g2;omega
   .exact hk.2 j (by omega) v hv
 simp only[eH]at g;have v1:∀v∈vs,bU v=true:=λv hv=>by
  obtain⟨j,hj⟩:=Ai hv;exact hk.2 j (by have:=(A8.1 hj).1;omega) v hj
 refine⟨⟨0,⟨by omega,λj hj=>by omega⟩,⟨rfl,trivial⟩,rfl⟩,λk2 hk2=>ah.2 ⟨λg=>?_,λg=>?_⟩⟩
 .simp only[dN]at g;refine⟨⟨by omega,by omega⟩,λd hd=>ah.2 ⟨λg2=>fF λq=>?_,λg2=>⟨ay.2 (by omega),k2+1,⟨by omega,λj hj v hv=>?_⟩,⟨rfl,trivial⟩,rfl,by omega⟩⟩⟩
  .have:=q.2.2.2.2.2.1 d (gZ hd);simp at g2;omega
  .by_cases iY:j=k2
   .subst iY;have hd:os[j]?=some d:=hd;rw[hd]at hv;cases hv;simp at g2;omega
   .exact hk2.2 j (by omega) v hv
 simp only[eH]at g;have v2:∀v∈os,-1<=v:=λv hv=>by
  obtain⟨j,hj⟩:=Ai hv;exact hk2.2 j (by have:=(A8.1 hj).1;omega) v hj
 refine⟨by omega,⟨0,by omega,⟨rfl,rfl,trivial⟩,by simp⟩,λk3 hk3=>ah.2 ⟨λg=>?_,λg=>?_⟩⟩
 .simp only[dN]at g;refine⟨⟨by omega,by omega⟩,λd hd=>⟨dZ.2 ?_,ay.2 (by omega),k3+1,by omega,⟨rfl,rfl,trivial⟩,?_,by omega⟩⟩
  .have:=I7 qs k3;have:=b5 d (gZ hd);rw[kH];omega
  .have hd:qs[k3]?=some d:=hd;rw[I8 hd,Au]
 simp only[eH]at g;have ek:qs.take k3=qs:=xg (by omega)
 rw[ek];have bl:(sg++qs.flatten).length<=101000:=by rw[kH];omega
 refine⟨⟨0,⟨by omega,λj hj=>by omega,by simp⟩,⟨rfl,trivial⟩,rfl⟩,λk4 hk4=>ah.2 ⟨λg=>?_,λg=>?_⟩⟩
 .simp only[dN]at g;refine⟨⟨by omega,by omega⟩,λd hd=>⟨λ_=>⟨by omega,by omega,by omega⟩,λ_=>by simp only[OM,lu];omega,ah.2 ⟨λg2=>fF λq=>?_,λg2=>⟨ay.2 (by omega),k4+1,⟨by omega,λj hj v hv=>?_,?_⟩,⟨rfl,trivial⟩,rfl,by omega⟩⟩⟩⟩
  .have hd:(sg++qs.flatten)[k4]?=some d:=hd;have n0:=q.2.2.2.2.2.2.1 d (gZ hd);have n1:=abB q.2.2.2.2.2.2.2 hd;have n2:dO ((sg++qs.flatten).take k4) d=false:=oV.2 n1;rw[OM,show((k4:Int)).toNat=k4 from rfl,n2]at g2
   simp at g2;omega
  all_goals
   rw[OM,show((k4:Int)).toNat=k4 from rfl,l7,eH]at g2
   have hd:(sg++qs.flatten)[k4]?=some d:=hd
  .by_cases iY:j=k4
   .subst iY;rw[hd]at hv;cases hv;omega
   .exact hk4.2.1 j (by omega) v hv
  .exact QL hk4.2.2 hd (oV.1 g2.2)
 simp only[eH]at g;refine⟨rfl,?_⟩;rw[dW.2];refine⟨by omega,by omega,by omega,h4,v1,v2,λx hx=>?_,?_⟩
 .obtain⟨j,hj⟩:=Ai hx;exact hk4.2.1 j (by have:=(A8.1 hj).1;omega) x hj
 .have:=hk4.2.2
  rwa [xg (by omega)]at this
theorem Gi:aU aS.gd 157 abC:=
 dY (cx:=aS) (n:=89) (cl:=[(107,Jb),(192,ctV),(98,FK)]) (rc:=[]) au ⟨zS,NW,zx,trivial⟩ Tryz.func157 λd hd=>by
  obtain⟨⟨vs,os,qs,sg,⟨⟩⟩,⟨⟩⟩:=d;exact aP (alv vs os qs sg) (agw vs os qs sg hd) (by kernel_rfl)
abbrev alx:CT:={ ps:=[wF],pre:=λd=>bK d.1,res:=λd=>([],vB (dK d.1)) }
abbrev aly(vs os:List Int) (qs:List (List Int)) (sg:List Int):Nat->Option (St->jK):=λk=>match k with
 | 4=>some λ_=>.inv { α:=Nat,slots:=λk=>[(3,.c (.v (.int .i64 k)))],res:=λ_=>[],inv:=λk=>k<=vs.length/\∀j < k,∀v,vs[j]?=some v->bU v=true,meas:=λk=>vs.length - k }
 | 9=>some λ_=>.inv { α:=Nat,slots:=λk=>[(4,.c (.v (.int .i64 k)))],res:=λ_=>[],inv:=λk=>k<=os.length/\∀j < k,∀v,os[j]?=some v->-1<=v,meas:=λk=>os.length - k }
 | 18=>some λ_=>.inv { α:=Nat,drop:=[65],slots:=λk=>[(6,.c (.v (.int .i64 k))),(5,.c (.row 1))],res:=λk=>[(1,.row 3 (.int .i64) (sg++(qs.take k).flatten))],inv:=λk=>k<=qs.length,meas:=λk=>qs.length - k }
 | 22=>some λ_=>.inv { α:=Nat,ug:=[1],slots:=λk=>[(7,.c (.v (.int .i64 k)))],res:=λ_=>[],inv:=λk=>k<=(sg++qs.flatten).length/\(∀j < k,∀v,(sg++qs.flatten)[j]?=some v->0<=v),meas:=λk=>(sg++qs.flatten).length - k }
 | _=>none
theorem agx(vs os:List Int) (qs:List (List Int)) (sg:List Int) (aG:alx.pre ((vs,os,qs,sg,()),())):
 let z12:=dK (vs,os,qs,sg,());let z9:=qB z12 false;let z3:=λ(x:Nat)=>(x<=vs.length/\∀(j:Nat),j < x->∀(v:Int),vs[j]?=some v->bU v=true);let z11:=λ(x:Nat)=>cI 0=cI (x:Int)/\True;let z7:=[SC.sl I6 vs,SC.sl I6 os,SC.sl I6.sl qs,SC.sl I6 sg];let z6:=[g0 (ak.blk 34 z7)];let z13:=λ(x:Nat)=>(x:Int)+(1:Int);let z8:=λ(x x':Nat)=>cI (z13 x)=cI (x':Int)/\True;let z5:=λ(x:Nat)=>(x<=os.length/\∀(j:Nat),j < x->∀(v:Int),os[j]?=some v->(-1)<=v);let z10:=λ(x:Nat)=>sg++(List.take x qs).flatten;let z1:=λ(x:Nat)=>[g0 (ak.blk 34 z7),g0 (ak.row 3 I6 (z10 x))];let yg:=sg++qs.flatten;let z2:=λ(x:Nat)=>(x<=yg.length/\∀(j:Nat),j < x->∀(v:Int),yg[j]?=some v->0<=v);let z4:=[g0 (ak.blk 34 z7),g0 ak.gone];br (decide (8 < (vs.length:Int)) || decide (4 < (os.length:Int)) || decide (4 < (qs.length:Int))) z9 ((∃x,(z3 x)/\(z11 x)/\sm z6)/\∀(x:Nat),(z3 x)->br (decide ((x:Int) < (vs.length:Int))) ((0<=(x:Int)/\(x:Int) < (vs.length:Int))/\∀(d:Int),vs[(x:Int).toNat]?=some d->((!decide (d < (-2147483648)))=true->0<=(x:Int)/\(x:Int) < (vs.length:Int))/\∀(bJ:Int),((!decide (d < (-2147483648)))=true->vs[(x:Int).toNat]?=some bJ)->br (decide (d < (-2147483648)) || decide (2147483647 < bJ)) z9 (iR (z13 x)/\∃x',(z3 x')/\(z8 x x')/\sm z6/\vs.length - x' < vs.length - x)) ((∃x,(z5 x)/\(z11 x)/\sm z6)/\∀(x:Nat),(z5 x)->br (decide ((x:Int) < (os.length:Int))) ((0<=(x:Int)/\(x:Int) < (os.length:Int))/\∀(d:Int),os[(x:Int).toNat]?=some d->br (decide (d < (-1))) z9 (iR (z13 x)/\∃x',(z5 x')/\(z8 x x')/\sm z6/\os.length - x' < os.length - x)) (sg.length<=1000000/\br (!kF sg) z9 (oz (List.length (sg)) 8/\(∃x,x<=qs.length/\(cI 0=cI (x:Int)/\SV.c (SC.row (Nat.succ 0))=SV.c (SC.row 1)/\True)/\[g0 (ak.blk 34 z7),g0 (ak.row 3 I6 (sg))]=(z1 x))/\∀(x:Nat),x<=qs.length->br (decide ((x:Int) < (qs.length:Int))) ((0<=(x:Int)/\(x:Int) < (qs.length:Int))/\∀(d:List Int),qs[(x:Int).toNat]?=some d->oz (List.length ((z10 x))+List.length (d)) 8/\iR (z13 x)/\∃x',x'<=qs.length/\(cI (z13 x)=cI (x':Int)/\SV.c (SC.row 1)=SV.c (SC.row 1)/\True)/\[g0 (ak.blk 34 z7),g0 (ak.row 3 I6 ((z10 x)++d))]=(z1 x')/\qs.length - x' < qs.length - x) ((∃x,(z2 x)/\(z11 x)/\sm z4)/\∀(x_1:Nat),(z2 x_1)->br (decide ((x_1:Int) < (↑(z10 x).length:Int))) ((0<=(x_1:Int)/\(x_1:Int) < (↑(z10 x).length:Int))/\∀(d:Int),(z10 x)[(x_1:Int).toNat]?=some d->br (decide (d < 0)) z9 (iR (z13 x_1)/\∃x',(z2 x')/\(z8 x_1 x')/\sm z4/\yg.length - x' < yg.length - x_1)) ((z10 x).length<=1000000/\qB z12 (decide ((↑(aY (z10 x)).length:Int)=(↑(z10 x).length:Int))))))))):=by
 conv=>zeta
 delta cI g0 qB sm I6 iR;obtain⟨b1,b2,b3,b4,b5,b6⟩:vs.length<=1000/\os.length<=1000/\qs.length<=1000/\sg.length<=1000/\(∀q∈qs,q.length<=1000)/\qs.flatten.length<=100000:=aG;have fF:¬I5 (vs,os,qs,sg,())->([]:List Go.l9.ak)=[]/\bg.one (SV.c (SC.v (Value.bool (dK (vs,os,qs,sg,())))))=bg.one (SV.c (SC.v (Value.bool false))):=λq=>⟨rfl,by rw[Cj q]⟩
 refine ah.2 ⟨λh=>fF λq=>?_,λh=>?_⟩
 .obtain⟨q1,q2,q3,q4,_⟩:=q;simp at h;omega
 simp only[l7,eH]at h;obtain⟨⟨h1,h2⟩,h3⟩:=h;refine⟨⟨0,⟨by omega,λj hj=>by omega⟩,⟨rfl,trivial⟩,rfl⟩,λk hk=>ah.2 ⟨λg=>?_,λg=>?_⟩⟩
 .simp only[dN]at g;refine⟨⟨by omega,by omega⟩,λd hd=>⟨λ_=>⟨by omega,by omega⟩,λd1 hd1=>ah.2 ⟨λg2=>fF λq=>?_,λg2=>⟨ay.2 (by omega),k+1,⟨by omega,λj hj v hv=>?_⟩,⟨rfl,trivial⟩,rfl,by omega⟩⟩⟩⟩
  .have:=o7.1 (q.2.2.2.2.1 d (gZ hd))
   by_cases g3:d < -2147483648
   .omega
   .have e1:=hd1 (by simp[g3])
    rw[hd]at e1;cases e1;simp at g2;omega
  .by_cases iY:j=k
   .subst iY;have hd:vs[j]?=some d:=hd;rw[hd]at hv;cases hv;rw[l7,eH,eH]at g2;have e1:vs[j]?=some d1:=hd1 (by simp[g2.1])
    rw[hd]at e1;cases e1;rw[o7];omega
   .exact hk.2 j (by omega) v hv
 simp only[eH]at g;have v1:∀v∈vs,bU v=true:=λv hv=>by
  obtain⟨j,hj⟩:=Ai hv;exact hk.2 j (by have:=(A8.1 hj).1;omega) v hj
 refine⟨⟨0,⟨by omega,λj hj=>by omega⟩,⟨rfl,trivial⟩,rfl⟩,λk2 hk2=>ah.2 ⟨λg=>?_,λg=>?_⟩⟩
 .simp only[dN]at g;refine⟨⟨by omega,by omega⟩,λd hd=>ah.2 ⟨λg2=>fF λq=>?_,λg2=>⟨ay.2 (by omega),k2+1,⟨by omega,λj hj v hv=>?_⟩,⟨rfl,trivial⟩,rfl,by omega⟩⟩⟩
  .have:=q.2.2.2.2.2.1 d (gZ hd);simp at g2;omega
  .by_cases iY:j=k2
   .subst iY;have hd:os[j]?=some d:=hd;rw[hd]at hv;cases hv;simp at g2;omega
   .exact hk2.2 j (by omega) v hv
 simp only[eH]at g;have v2:∀v∈os,-1<=v:=λv hv=>by
  obtain⟨j,hj⟩:=Ai hv;exact hk2.2 j (by have:=(A8.1 hj).1;omega) v hj
 refine⟨by omega,ah.2 ⟨λh4=>fF λq=>?_,λh4=>?_⟩⟩
 .rw[sQ.2 q.2.2.2.1]at h4;cases h4
 have h4:SS sg:=sQ.1 (by simpa using h4)
 refine⟨dZ.2 (by omega),⟨0,by omega,⟨rfl,rfl,trivial⟩,by simp⟩,λk3 hk3=>ah.2 ⟨λg=>?_,λg=>?_⟩⟩
 .simp only[dN]at g;refine⟨⟨by omega,by omega⟩,λd hd=>⟨dZ.2 ?_,ay.2 (by omega),k3+1,by omega,⟨rfl,rfl,trivial⟩,?_,by omega⟩⟩
  .have:=I7 qs k3;have:=b5 d (gZ hd);rw[kH];omega
  .have hd:qs[k3]?=some d:=hd;rw[I8 hd,Au]
 simp only[eH]at g;have ek:qs.take k3=qs:=xg (by omega)
 rw[ek];have bl:(sg++qs.flatten).length<=101000:=by rw[kH];omega
 refine⟨⟨0,⟨by omega,λj hj=>by omega⟩,⟨rfl,trivial⟩,rfl⟩,λk4 hk4=>ah.2 ⟨λg=>?_,λg=>?_⟩⟩
 .simp only[dN]at g;refine⟨⟨by omega,by omega⟩,λd hd=>ah.2 ⟨λg2=>fF λq=>?_,λg2=>⟨ay.2 (by omega),k4+1,⟨by omega,λj hj v hv=>?_⟩,⟨rfl,trivial⟩,rfl,by omega⟩⟩⟩
  .have hd:(sg++qs.flatten)[k4]?=some d:=hd;have n0:=q.2.2.2.2.2.2.1 d (gZ hd);simp at g2;omega
  .by_cases iY:j=k4
   .subst iY;have hd:(sg++qs.flatten)[j]?=some d:=hd;rw[hd]at hv;cases hv;simp at g2;omega
   .exact hk4.2 j (by omega) v hv
 simp only[eH]at g;refine⟨by omega,rfl,?_⟩
 have e:dK (vs,os,qs,sg,())=decide ((↑(aY (sg++qs.flatten)).length:Int)=(↑(sg++qs.flatten).length:Int)):=by
  rw[Gy,dW,dN,Int.ofNat_inj,QM];constructor
  .exact λq=>q.2.2.2.2.2.2.2
  .refine λq=>⟨by omega,by omega,by omega,h4,v1,v2,λx hx=>?_,q⟩
   obtain⟨j,hj⟩:=Ai hx;exact hk4.2 j (by have:=(A8.1 hj).1;omega) x hj
 rw[e]
theorem abD:aU aS.gd 137 alx:=
 dY (cx:=aS) (n:=97) (cl:=[(180,als),(181,ak3)]) (rc:=[]) au ⟨abA,aaY,trivial⟩ Tryz.func137 λd hd=>by
  obtain⟨⟨vs,os,qs,sg,⟨⟩⟩,⟨⟩⟩:=d;exact aP (aly vs os qs sg) (agx vs os qs sg hd) (by kernel_rfl)
abbrev uV:CT:={ ps:=[.sl (.int .i64),.sl (.int .i64)],pre:=λd=>d.1.length<=1000000,res:=λd=>([],vB (decide (d.1=d.2.1))) }
abbrev QN:CT:={ ps:=[wF,wF],pre:=λd=>bK d.1,res:=λd=>([],vB (decide (d.1=d.2.1))) }
theorem QO(k:Nat):tH (λj=>decide (j < k)) k=λj=>decide (j < k+1):=by
 funext j;unfold tH
 by_cases h:j=k
 .subst h;simp
 .simp[h];omega
theorem Oh{d:List Int} (h:qs[k]?=some d):(qs.take k++List.replicate (qs.length - k) []).set k d=qs.take (k+1)++List.replicate (qs.length - (k+1)) []:=by
 obtain⟨hk,_⟩:=A8.1 h;rw[adq _ _ (by rw[lu];omega),lu,show k - min k qs.length=0 by omega,show qs.length - k=(qs.length - (k+1))+1 by omega,Xe,Xf,OJ,h]
 simp
theorem zU(h:k<=qs.length):(qs.take k++List.replicate (qs.length - k) []).length=qs.length:=by simp;omega
theorem Oi(h:¬k < qs.length) (h':k<=qs.length):qs.take k++List.replicate (qs.length - k) []=qs:=by
 have:k=qs.length:=by omega
 subst this;simp
theorem QS:Ih=λj=>decide (j < 0):=by funext j;simp
abbrev abE:CT:={ ps:=[wF],pre:=λd=>bK d.1,res:=λd=>([.row 3 (.int .i64) (d.1.1),.row 3 (.int .i64) (d.1.2.1),.deep 31 (.sl (.int .i64)) (d.1.2.2.1) 3 (.int .i64) 0 (λj=>decide (j < d.1.2.2.1.length)) [],.row 3 (.int .i64) (d.1.2.2.2.1)],.one (.agg [(.row 0),(.row 1),(.row 2),(.row 3)])) }
abbrev aos(vs os:List Int) (qs:List (List Int)) (sg:List Int):Nat->Option (St->jK):=λk=>match k with
 | 2=>some λ_=>.cut { α:=Nat,pad:=5,can:=[(2,.slot 3),(3,.cell 2 0),(4,.cell 2 1),(5,.cell 2 2),(6,.cell 2 3)],slots:=λ_=>[(3,.c (.own 2 0))],res:=λ_=>[(2,.blk 34 [.row 3,.row 4,.row 5,.row 6]),(3,.row 3 (.int .i64) (vs)),(4,.row 3 (.int .i64) (os)),(5,.row 31 (.sl (.int .i64)) (List.replicate qs.length [])),(6,.row 3 (.int .i64) (sg))],inv:=λu=>u=0,meas:=λ_=>0 }
 | 3=>some λ_=>.inv { α:=Nat,deep:=[(5,3,.int .i64,0)],slots:=λk=>[(23,.c (.v (.int .i64 k)))],res:=λk=>[(5,.deep 31 (.sl (.int .i64)) (qs.take k++List.replicate (qs.length - k) []) 3 (.int .i64) 0 (λj=>decide (j < k)) [])],inv:=λk=>k<=qs.length,meas:=λk=>qs.length - k }
 | _=>none
abbrev nC:=[iN,iN,iN,iN]
abbrev kq7:=[SC.row 3,SC.row 4,SC.row 5,SC.row 6]
abbrev wY:Prop:=SV.c (SC.own 2 0)=SV.c (SC.own 2 0)/\True
theorem alz(vs os:List Int) (qs:List (List Int)) (sg:List Int) (aG:abE.pre ((vs,os,qs,sg,()),())):
 let z9:=0<=(qs.length:Int)/\(qs.length:Int)<=(qs.length:Int)/\oz (qs.length:Int).toNat 24;let z10:=[SC.sl I6 vs,SC.sl I6 os,SC.sl I6.sl qs,SC.sl I6 sg];let z7:=[g0 (ak.blk 34 z10),g0 (ak.blk 34 nC),g0 (ak.blk 34 kq7),g0 (ak.row 3 I6 vs),g0 (ak.row 3 I6 os),g0 (ak.row 31 I6.sl (List.replicate (qs.length:Int).toNat [])),g0 (ak.row 3 I6 sg)];let z12:=List.replicate qs.length [];let z8:=[g0 (ak.blk 34 z10),g0 (ak.blk 34 nC),g0 (ak.blk 34 kq7),g0 (ak.row 3 I6 vs),g0 (ak.row 3 I6 os),g0 (ak.row 31 I6.sl z12),g0 (ak.row 3 I6 sg)];let z5:=(∃v,v=0/\wY/\z7=z8);let z3:=(sg.length<=1000000/\z5/\∃v,v=0/\wY/\z7=z8);let z4:=(z9/\sg.length<=1000000/\∃v,v=0/\wY/\z7=z8);let z1:=(os.length<=1000000/\z3/\sg.length<=1000000/\∃v,v=0/\wY/\z7=z8);let z2:=(os.length<=1000000/\z4/\sg.length<=1000000/\z9/\∃v,v=0/\wY/\z7=z8);let z11:=λ(x:Nat)=>List.take x qs++List.replicate (qs.length - x) [];let z6:=λ(x:Nat)=>[g0 (ak.blk 34 z10),g0 (ak.blk 34 nC),g0 (ak.blk 34 kq7),g0 (ak.row 3 I6 vs),g0 (ak.row 3 I6 os),g0 (ak.deep 31 I6.sl (z11 x) 3 I6 0 (λj=>decide (j < x)) []),g0 (ak.row 3 I6 sg)];((vs.length<=1000000/\(os.length<=1000000/\(z9/\z3/\sg.length<=1000000/\∃v,v=0/\wY/\z7=z8)/\(sg.length<=1000000/\(z9/\z5/\∃v,v=0/\wY/\z7=z8)/\z9/\∃v,v=0/\wY/\z7=z8)/\z4/\sg.length<=1000000/\z9/\∃v,v=0/\wY/\z7=z8)/\(z9/\z1/\os.length<=1000000/\sg.length<=1000000/\∃v,v=0/\wY/\z7=z8)/\z2/\z9/\os.length<=1000000/\sg.length<=1000000/\∃v,v=0/\wY/\z7=z8)/\(z9/\(vs.length<=1000000/\z1/\os.length<=1000000/\sg.length<=1000000/\∃v,v=0/\wY/\z7=z8)/\vs.length<=1000000/\os.length<=1000000/\sg.length<=1000000/\∃v,v=0/\wY/\z7=z8)/\(vs.length<=1000000/\z2/\z9/\os.length<=1000000/\sg.length<=1000000/\∃v,v=0/\wY/\z7=z8)/\z9/\vs.length<=1000000/\os.length<=1000000/\sg.length<=1000000/\∃v,v=0/\wY/\z7=z8)/\∀(v:Nat),v=0->(∃x,x<=qs.length/\(cI 0=cI (x:Int)/\True)/\[g0 (ak.blk 34 z10),g0 (ak.blk 34 nC),g0 (ak.blk 34 kq7),g0 (ak.row 3 I6 vs),g0 (ak.row 3 I6 os),g0 (ak.deep 31 I6.sl z12 3 I6 0 Ih []),g0 (ak.row 3 I6 sg)]=(z6 x))/\∀(x:Nat),x<=qs.length->br (decide ((x:Int) < (qs.length:Int))) ((0<=(x:Int)/\(x:Int) < (qs.length:Int))/\∀(d:List Int),qs[(x:Int).toNat]?=some d->d.length<=1000000/\(0<=(x:Int)/\(x:Int) < (↑(z11 x).length:Int))/\(x:Int).toNat < (z11 x).length/\∀(e0:List Int),(z11 x)[(x:Int).toNat]?=some e0->iR ((x:Int)+(1:Int))/\∃x',x'<=qs.length/\(cI ((x:Int)+(1:Int))=cI (x':Int)/\True)/\[g0 (ak.blk 34 z10),g0 (ak.blk 34 nC),g0 (ak.blk 34 kq7),g0 (ak.row 3 I6 vs),g0 (ak.row 3 I6 os),g0 (ak.deep 31 I6.sl ((z11 x).set (x:Int).toNat (d)) 3 I6 0 (tH (λj=>decide (j < x)) (x:Int).toNat) []),g0 (ak.row 3 I6 sg)]=(z6 x')/\qs.length - x' < qs.length - x) ([ak.row 3 I6 vs,ak.row 3 I6 os,ak.deep 31 I6.sl qs 3 I6 0 (λj=>decide (j < List.length (vs,os,qs,sg,()).snd.snd.fst)) [],ak.row 3 I6 sg]=[ak.row 3 I6 vs,ak.row 3 I6 os,ak.deep 31 I6.sl (z11 x) 3 I6 0 (λj=>decide (j < x)) [],ak.row 3 I6 sg]/\bg.one (SV.agg [SC.row 0,SC.row 1,SC.row 2,SC.row 3])=bg.one (SV.agg [SC.row 0,SC.row (Nat.succ 0),SC.row (Nat.succ 0).succ,SC.row (Nat.succ 0).succ.succ])):=by
 conv=>zeta
 delta nC kq7 wY cI g0 I6 iR iN;obtain⟨b1,b2,b3,b4,b5,b6⟩:vs.length<=1000/\os.length<=1000/\qs.length<=1000/\sg.length<=1000/\(∀q∈qs,q.length<=1000)/\qs.flatten.length<=100000:=aG;refine⟨?_,λu hu=>⟨⟨0,by omega,⟨rfl,trivial⟩,?_⟩,λk hk=>ah.2 ⟨λg=>?_,λg=>?_⟩⟩⟩
 .have hA:oz (qs.length:Int).toNat 24:=dZ.2 (by omega)
  repeat' first | exact⟨0,rfl,⟨rfl,trivial⟩,rfl⟩ | (refine And.intro ?_ ?_) | omega | exact hA
 .rw[QS];simp
 .simp only[dN]at g;refine⟨⟨by omega,by omega⟩,λd hd=>⟨?_,⟨by omega,?_⟩,?_,λe0 he=>⟨ay.2 (by omega),k+1,by omega,⟨rfl,trivial⟩,?_,by omega⟩⟩⟩
  .have:=b5 d (gZ hd);omega
  .rw[zU hk];omega
  .rw[zU hk];show k < _;omega
  .have hd:qs[k]?=some d:=hd;have e1:(qs.take k++List.replicate (qs.length - k) []).set (k:Int).toNat d=qs.take (k+1)++List.replicate (qs.length - (k+1)) []:=Oh hd;have e2:tH (λj=>decide (j < k)) (k:Int).toNat=λj=>decide (j < k+1):=QO k
   rw[e2];exact tX (λz=>_ :: _ :: _ :: _ :: _ :: (([]:Go.l9.Gd),ak.deep 31 (Sh.int IntKind.i64).sl z 3 (Sh.int IntKind.i64) 0 (λj=>decide (j < k+1)) []) :: _) e1
 simp only[eH]at g;have ek:k=qs.length:=by omega
 subst ek;exact⟨by rw[Oi (by omega) hk],rfl⟩
theorem agy:aU aS.gd 49 abE:=
 dY (cx:=aS) (n:=36) (cl:=[(107,Jb)]) (rc:=[]) au ⟨zS,trivial⟩ Tryz.func49 λd hd=>by
  obtain⟨⟨vs,os,qs,sg,⟨⟩⟩,⟨⟩⟩:=d;exact aP (aos vs os qs sg) (alz vs os qs sg hd) (by kernel_rfl)
abbrev Cm:CT:={ ps:=[wF],pre:=λd=>bK d.1,res:=λd=>([.row 3 (.int .i64) (d.1.1),.row 3 (.int .i64) (d.1.2.1),.row 31 (.sl (.int .i64)) (d.1.2.2.1),.row 3 (.int .i64) (d.1.2.2.2.1)],.one (.agg [(.row 0),(.row 1),(.row 2),(.row 3)])) }
abbrev alA(vs os:List Int) (qs:List (List Int)) (sg:List Int):Nat->Option (St->jK):=λk=>match k with
 | 2=>some λ_=>.cut { α:=Nat,pad:=5,can:=[(2,.slot 3),(3,.cell 2 0),(4,.cell 2 1),(5,.cell 2 2),(6,.cell 2 3)],slots:=λ_=>[(3,.c (.own 2 0))],res:=λ_=>[(2,.blk 34 [.row 3,.row 4,.row 5,.row 6]),(3,.row 3 (.int .i64) (vs)),(4,.row 3 (.int .i64) (os)),(5,.row 31 (.sl (.int .i64)) (List.replicate qs.length [])),(6,.row 3 (.int .i64) (sg))],inv:=λu=>u=0,meas:=λ_=>0 }
 | 3=>some λ_=>.inv { α:=Nat,slots:=λk=>[(23,.c (.v (.int .i64 k)))],res:=λk=>[(5,.row 31 (.sl (.int .i64)) (qs.take k++List.replicate (qs.length - k) []))],inv:=λk=>k<=qs.length,meas:=λk=>qs.length - k }
 | _=>none
theorem agz(vs os:List Int) (qs:List (List Int)) (sg:List Int) (aG:Cm.pre ((vs,os,qs,sg,()),())):
 let z9:=0<=(qs.length:Int)/\(qs.length:Int)<=(qs.length:Int)/\oz (qs.length:Int).toNat 24;let z10:=[SC.sl I6 vs,SC.sl I6 os,SC.sl I6.sl qs,SC.sl I6 sg];let z7:=[g0 (ak.blk 34 z10),g0 (ak.blk 34 nC),g0 (ak.blk 34 kq7),g0 (ak.row 3 I6 vs),g0 (ak.row 3 I6 os),g0 (ak.row 31 I6.sl (List.replicate (qs.length:Int).toNat [])),g0 (ak.row 3 I6 sg)];let z8:=[g0 (ak.blk 34 z10),g0 (ak.blk 34 nC),g0 (ak.blk 34 kq7),g0 (ak.row 3 I6 vs),g0 (ak.row 3 I6 os),g0 (ak.row 31 I6.sl (List.replicate qs.length [])),g0 (ak.row 3 I6 sg)];let z5:=(∃v,v=0/\wY/\z7=z8);let z3:=(sg.length<=1000000/\z5/\∃v,v=0/\wY/\z7=z8);let z4:=(z9/\sg.length<=1000000/\∃v,v=0/\wY/\z7=z8);let z1:=(os.length<=1000000/\z3/\sg.length<=1000000/\∃v,v=0/\wY/\z7=z8);let z2:=(os.length<=1000000/\z4/\sg.length<=1000000/\z9/\∃v,v=0/\wY/\z7=z8);let z11:=λ(x:Nat)=>List.take x qs++List.replicate (qs.length - x) [];let z6:=λ(x:Nat)=>[g0 (ak.blk 34 z10),g0 (ak.blk 34 nC),g0 (ak.blk 34 kq7),g0 (ak.row 3 I6 vs),g0 (ak.row 3 I6 os),g0 (ak.row 31 I6.sl (z11 x)),g0 (ak.row 3 I6 sg)];((vs.length<=1000000/\(os.length<=1000000/\(z9/\z3/\sg.length<=1000000/\∃v,v=0/\wY/\z7=z8)/\(sg.length<=1000000/\(z9/\z5/\∃v,v=0/\wY/\z7=z8)/\z9/\∃v,v=0/\wY/\z7=z8)/\z4/\sg.length<=1000000/\z9/\∃v,v=0/\wY/\z7=z8)/\(z9/\z1/\os.length<=1000000/\sg.length<=1000000/\∃v,v=0/\wY/\z7=z8)/\z2/\z9/\os.length<=1000000/\sg.length<=1000000/\∃v,v=0/\wY/\z7=z8)/\(z9/\(vs.length<=1000000/\z1/\os.length<=1000000/\sg.length<=1000000/\∃v,v=0/\wY/\z7=z8)/\vs.length<=1000000/\os.length<=1000000/\sg.length<=1000000/\∃v,v=0/\wY/\z7=z8)/\(vs.length<=1000000/\z2/\z9/\os.length<=1000000/\sg.length<=1000000/\∃v,v=0/\wY/\z7=z8)/\z9/\vs.length<=1000000/\os.length<=1000000/\sg.length<=1000000/\∃v,v=0/\wY/\z7=z8)/\∀(v:Nat),v=0->(∃x,x<=qs.length/\(cI 0=cI (x:Int)/\True)/\z8=(z6 x))/\∀(x:Nat),x<=qs.length->br (decide ((x:Int) < (qs.length:Int))) ((0<=(x:Int)/\(x:Int) < (qs.length:Int))/\∀(d:List Int),qs[(x:Int).toNat]?=some d->d.length<=1000000/\(0<=(x:Int)/\(x:Int) < (↑(z11 x).length:Int))/\(x:Int).toNat < (z11 x).length/\iR ((x:Int)+(1:Int))/\∃x',x'<=qs.length/\(cI ((x:Int)+(1:Int))=cI (x':Int)/\True)/\[g0 (ak.blk 34 z10),g0 (ak.blk 34 nC),g0 (ak.blk 34 kq7),g0 (ak.row 3 I6 vs),g0 (ak.row 3 I6 os),g0 (ak.row 31 I6.sl ((z11 x).set (x:Int).toNat (d))),g0 (ak.row 3 I6 sg)]=(z6 x')/\qs.length - x' < qs.length - x) ([ak.row 3 I6 vs,ak.row 3 I6 os,ak.row 31 I6.sl qs,ak.row 3 I6 sg]=[ak.row 3 I6 vs,ak.row 3 I6 os,ak.row 31 I6.sl (z11 x),ak.row 3 I6 sg]/\bg.one (SV.agg [SC.row 0,SC.row 1,SC.row 2,SC.row 3])=bg.one (SV.agg [SC.row 0,SC.row (Nat.succ 0),SC.row (Nat.succ 0).succ,SC.row (Nat.succ 0).succ.succ])):=by
 conv=>zeta
 delta nC kq7 wY cI g0 I6 iR iN;obtain⟨b1,b2,b3,b4,b5,b6⟩:vs.length<=1000/\os.length<=1000/\qs.length<=1000/\sg.length<=1000/\(∀q∈qs,q.length<=1000)/\qs.flatten.length<=100000:=aG;refine⟨?_,λu hu=>⟨⟨0,by omega,⟨rfl,trivial⟩,?_⟩,λk hk=>ah.2 ⟨λg=>?_,λg=>?_⟩⟩⟩
 .have hA:oz (qs.length:Int).toNat 24:=dZ.2 (by omega)
  repeat' first | exact⟨0,rfl,⟨rfl,trivial⟩,rfl⟩ | (refine And.intro ?_ ?_) | omega | exact hA
 .simp
 .simp only[dN]at g;refine⟨⟨by omega,by omega⟩,λd hd=>⟨?_,⟨by omega,?_⟩,?_,⟨ay.2 (by omega),k+1,by omega,⟨rfl,trivial⟩,?_,by omega⟩⟩⟩
  .have:=b5 d (gZ hd);omega
  .rw[zU hk];omega
  .rw[zU hk];show k < _;omega
  .have hd:qs[k]?=some d:=hd;have e1:(qs.take k++List.replicate (qs.length - k) []).set (k:Int).toNat d=qs.take (k+1)++List.replicate (qs.length - (k+1)) []:=Oh hd;exact tX (λz=>_ :: _ :: _ :: _ :: _ :: (([]:Go.l9.Gd),ak.row 31 (Sh.int IntKind.i64).sl z) :: _) e1
 simp only[eH]at g;have ek:k=qs.length:=by omega
 subst ek;exact⟨by rw[Oi (by omega) hk],rfl⟩
theorem rG:aU aS.gd 49 Cm:=
 dY (cx:=aS) (n:=36) (cl:=[(107,Jb)]) (rc:=[]) au ⟨zS,trivial⟩ Tryz.func49 λd hd=>by
  obtain⟨⟨vs,os,qs,sg,⟨⟩⟩,⟨⟩⟩:=d;exact⟨alA vs os qs sg,cast (by kernel_rfl) (agz vs os qs sg hd)⟩
def zM:MD:=([],[],[],[],())
def jB(m:MD) (i n:Int):Int:=if dK m=false then 1 else if i < 0\/n<=i then 11 else 0
def wZ(m:MD) (x:Int):Int×Int:=if jB m x m.1.length=0 then(m.1[x.toNat]?.getD 0,0) else(0,jB m x m.1.length)
def writeM(m:MD) (x v:Int):MD×Int:=if jB m x m.1.length=0 then(if bU v=true then((m.1.set x.toNat v,m.2),0) else(zM,2)) else(zM,jB m x m.1.length)
def iL(m:MD) (i id frm to:Int):MD×Int:=if jB m i m.2.1.length=0 then(if id < 0 then(zM,2) else if m.2.1[i.toNat]?.getD 0=frm then((m.1,m.2.1.set i.toNat to,m.2.2),0) else(zM,30)) else(zM,jB m i m.2.1.length)
def qm(m:MD) (i:Int):Bool:=decide (jB m i m.2.1.length=0) && decide (m.2.1[i.toNat]?.getD 0 = -1)
def kG(m:MD) (id:Int):Bool:=m.2.2.1.any (λq=>dO q id) || dO m.2.2.2.1 id
theorem dV{m:MD}{i n:Int}:jB m i n=0↔dK m=true/\0<=i/\i < n:=by
 unfold jB
 by_cases h:dK m=true
 .rw[if_neg (by simp[h])]
  split
  .simp[h];omega
  .simp[h];omega
 .rw[Bool.not_eq_true]at h;rw[if_pos h,h];simp
abbrev CB:CT:={ ps:=[wF,.int .i64,.int .i64],pre:=λd=>bK d.1,res:=λd=>([],.one (.c (.v (.int .i64 (jB d.1 d.2.1 d.2.2.1))))) }
theorem agA(vs os:List Int) (qs:List (List Int)) (sg:List Int) (i n:Int) (aG:CB.pre ((vs,os,qs,sg,()),i,n,())):
 let z2:=(vs,os,qs,sg,());let z1:=jB z2 i n;bK z2/\br (!dK z2) (qI z1 (1:Int)) (br (decide (i < 0) || decide (n<=i)) (qI z1 (11:Int)) (qI z1 (0:Int))):=by
 conv=>zeta
 delta qI;unfold jB;refine⟨aG,ah.2 ⟨λh=>⟨rfl,?_⟩,λh=>ah.2 ⟨λg=>⟨rfl,?_⟩,λg=>⟨rfl,?_⟩⟩⟩⟩
 .rw[if_pos (by simpa using h)]
 .rw[if_neg (by simpa using h),if_pos (by simpa using g)]
 .rw[if_neg (by simpa using h),if_neg (by simpa using g)]
theorem rH:aU aS.gd 158 CB:=
 dY (cx:=aS) (n:=17) (cl:=[(157,abC)]) (rc:=[]) au ⟨Gi,trivial⟩ Tryz.func158 λd hd=>by
  obtain⟨⟨vs,os,qs,sg,⟨⟩⟩,i,n,⟨⟩⟩:=d;exact aP (λ_=>none) (agA vs os qs sg i n hd) (by kernel_rfl)
abbrev agB:CT:={ ps:=[wF,.int .i64],pre:=λd=>bK d.1,res:=λd=>([],.iJ [.c (.v (.int .i64 ((wZ d.1 d.2.1).1))),.c (.v (.int .i64 ((wZ d.1 d.2.1).2)))]) }
theorem alC(vs os:List Int) (qs:List (List Int)) (sg:List Int) (x:Int) (aG:agB.pre ((vs,os,qs,sg,()),x,())):
 let z3:=(vs,os,qs,sg,());let z2:=wZ z3 x;let z1:=[cI (z2.fst),cI (z2.snd)];bK z3/\br (!decide (jB z3 x (vs.length:Int)=(0:Int))) (rT z1 [cI 0,cI (jB z3 x (vs.length:Int))]) ((0<=x/\x < (vs.length:Int))/\∀(d:Int),vs[x.toNat]?=some d->rT z1 [cI d,cI 0]):=by
 conv=>zeta
 delta cI rT;unfold wZ;refine⟨aG,ah.2 ⟨λh=>⟨rfl,?_⟩,λh=>?_⟩⟩
 .rw[if_neg (by simpa using h)]
 .have h:jB (vs,os,qs,sg,()) x vs.length=0:=by simpa using h
  have hx:=dV.1 h;refine⟨hx.2,λd hd=>⟨rfl,?_⟩⟩
  rw[if_pos h];simp[hd]
theorem TW:aU aS.gd 96 agB:=
 dY (cx:=aS) (n:=21) (cl:=[(158,CB)]) (rc:=[]) au ⟨rH,trivial⟩ Tryz.func96 λd hd=>by
  obtain⟨⟨vs,os,qs,sg,⟨⟩⟩,x,⟨⟩⟩:=d;exact aP (λ_=>none) (alC vs os qs sg x hd) (by kernel_rfl)
abbrev alD:CT:={ ps:=[wF,.int .i64,.int .i64],pre:=λd=>bK d.1,res:=λd=>([],.iJ [.agg [.sl (.int .i64) ((writeM d.1 d.2.1 d.2.2.1).1).1,.sl (.int .i64) ((writeM d.1 d.2.1 d.2.2.1).1).2.1,.sl (.sl (.int .i64)) ((writeM d.1 d.2.1 d.2.2.1).1).2.2.1,.sl (.int .i64) ((writeM d.1 d.2.1 d.2.2.1).1).2.2.2.1],.c (.v (.int .i64 ((writeM d.1 d.2.1 d.2.2.1).2)))]) }
abbrev WW:=[SC.sl I6 [],SC.sl I6 [],SC.sl I6.sl [],SC.sl I6 []]
abbrev kq4:=[SV.agg [SC.sl I6 [],SC.sl I6 [],SC.sl I6.sl [],SC.sl I6 []],cI 2]
theorem agC(vs os:List Int) (qs:List (List Int)) (sg:List Int) (x v:Int) (aG:alD.pre ((vs,os,qs,sg,()),x,v,())):
 let z3:=(vs,os,qs,sg,());let z2:=writeM z3 x v;let z1:=[SV.agg [SC.sl I6 z2.fst.fst,SC.sl I6 z2.fst.snd.fst,SC.sl I6.sl z2.fst.snd.snd.fst,SC.sl I6 z2.fst.snd.snd.snd.fst],cI (z2.snd)];bK z3/\br (!decide (jB z3 x (vs.length:Int)=(0:Int))) (rT z1 [SV.agg WW,cI (jB z3 x (vs.length:Int))]) (br (decide (v < (-2147483648)) || decide (2147483647 < v)) (rT z1 kq4) (bK z3/\(0<=x/\x < (vs.length:Int))/\x.toNat < vs.length/\rT z1 [SV.agg [SC.sl I6 (vs.set x.toNat v),SC.sl I6 os,SC.sl I6.sl qs,SC.sl I6 sg],cI 0])):=by
 conv=>zeta
 delta WW kq4 cI rT I6;unfold writeM;refine⟨aG,ah.2 ⟨λh=>⟨rfl,?_⟩,λh=>?_⟩⟩
 .rw[if_neg (by simpa using h)];rfl
 .have h:jB (vs,os,qs,sg,()) x vs.length=0:=by simpa using h
  have hx:=dV.1 h;rw[if_pos h];refine ah.2 ⟨λg=>⟨rfl,?_⟩,λg=>⟨aG,hx.2,by omega,rfl,?_⟩⟩
  .rw[if_neg (by rw[o7];simp at g;omega)];rfl
  .rw[if_pos (by rw[o7];simp at g;omega)]
theorem abH:aU aS.gd 100 alD:=
 dY (cx:=aS) (n:=35) (cl:=[(158,CB),(49,Cm)]) (rc:=[.data wF,.keep]) au ⟨rH,rG,trivial⟩ Tryz.func100 λd hd=>by
  obtain⟨⟨vs,os,qs,sg,⟨⟩⟩,x,v,⟨⟩⟩:=d;exact aP (λ_=>none) (agC vs os qs sg x v hd) (by kernel_rfl)
abbrev agD:CT:={ ps:=[wF,.int .i64],pre:=λd=>bK d.1,res:=λd=>([],vB (qm d.1 d.2.1)) }
theorem alE(vs os:List Int) (qs:List (List Int)) (sg:List Int) (i:Int) (aG:agD.pre ((vs,os,qs,sg,()),i,())):
 let z2:=(vs,os,qs,sg,());let z1:=jB z2 i (os.length:Int)=(0:Int);bK z2/\(decide z1=true->0<=i/\i < (os.length:Int))/\∀(d:Int),(decide z1=true->os[i.toNat]?=some d)->qB (qm z2 i) (decide z1 && decide (d=(-1))):=by
 conv=>zeta
 delta qB;unfold qm;refine⟨aG,λh=>(dV.1 (by simpa using h)).2,λd hd=>⟨rfl,?_⟩⟩
 by_cases h:jB (vs,os,qs,sg,()) i os.length=0
 .have:=hd (by simpa using h)
  simp[this]
 .simp[h]
theorem TY:aU aS.gd 87 agD:=
 dY (cx:=aS) (n:=20) (cl:=[(158,CB)]) (rc:=[]) au ⟨rH,trivial⟩ Tryz.func87 λd hd=>by
  obtain⟨⟨vs,os,qs,sg,⟨⟩⟩,i,⟨⟩⟩:=d;exact aP (λ_=>none) (alE vs os qs sg i hd) (by kernel_rfl)
abbrev Ua:CT:={ ps:=[wF,.int .i64,.int .i64,.int .i64,.int .i64],pre:=λd=>bK d.1,res:=λd=>([],.iJ [.agg [.sl (.int .i64) ((iL d.1 d.2.1 d.2.2.1 d.2.2.2.1 d.2.2.2.2.1).1).1,.sl (.int .i64) ((iL d.1 d.2.1 d.2.2.1 d.2.2.2.1 d.2.2.2.2.1).1).2.1,.sl (.sl (.int .i64)) ((iL d.1 d.2.1 d.2.2.1 d.2.2.2.1 d.2.2.2.2.1).1).2.2.1,.sl (.int .i64) ((iL d.1 d.2.1 d.2.2.1 d.2.2.2.1 d.2.2.2.2.1).1).2.2.2.1],.c (.v (.int .i64 ((iL d.1 d.2.1 d.2.2.1 d.2.2.2.1 d.2.2.2.2.1).2)))]) }
abbrev kq3:=[SV.agg [SC.sl I6 [],SC.sl I6 [],SC.sl I6.sl [],SC.sl I6 []],cI 30]
theorem agF(vs os:List Int) (qs:List (List Int)) (sg:List Int) (i id frm to:Int) (aG:Ua.pre ((vs,os,qs,sg,()),i,id,frm,to,())):
 let z4:=(vs,os,qs,sg,());let z2:=iL z4 i id frm to;let z1:=[SV.agg [SC.sl I6 z2.fst.fst,SC.sl I6 z2.fst.snd.fst,SC.sl I6.sl z2.fst.snd.snd.fst,SC.sl I6 z2.fst.snd.snd.snd.fst],cI (z2.snd)];let z3:=0<=i/\i < (os.length:Int);bK z4/\br (!decide (jB z4 i (os.length:Int)=(0:Int))) (rT z1 [SV.agg WW,cI (jB z4 i (os.length:Int))]) (br (decide (id < 0)) (rT z1 kq4) (z3/\∀(d:Int),os[i.toNat]?=some d->br (!decide (d=frm)) (rT z1 kq3) (bK z4/\z3/\i.toNat < os.length/\rT z1 [SV.agg [SC.sl I6 vs,SC.sl I6 (os.set i.toNat to),SC.sl I6.sl qs,SC.sl I6 sg],cI 0]))):=by
 conv=>zeta
 delta WW kq4 kq3 cI rT I6;unfold iL;refine⟨aG,ah.2 ⟨λh=>⟨rfl,?_⟩,λh=>?_⟩⟩
 .rw[if_neg (by simpa using h)];rfl
 .have h:jB (vs,os,qs,sg,()) i os.length=0:=by simpa using h
  have hx:=dV.1 h;rw[if_pos h];refine ah.2 ⟨λg=>⟨rfl,?_⟩,λg=>⟨hx.2,λd hd=>?_⟩⟩
  .rw[if_pos (by simpa using g)];rfl
  .rw[if_neg (by simpa using g)]
   have e:(vs,os,qs,sg,()).2.1[i.toNat]?.getD 0=d:=by simp[hd]
   rw[e];refine ah.2 ⟨λg2=>⟨rfl,?_⟩,λg2=>⟨aG,hx.2,by omega,rfl,?_⟩⟩
   .rw[if_neg (by simpa using g2)];rfl
   .rw[if_pos (by simpa using g2)]
theorem Oj:aU aS.gd 163 Ua:=
 dY (cx:=aS) (n:=43) (cl:=[(158,CB),(49,Cm)]) (rc:=[.data wF,.keep]) au ⟨rH,rG,trivial⟩ Tryz.func163 λd hd=>by
  obtain⟨⟨vs,os,qs,sg,⟨⟩⟩,i,id,frm,to,⟨⟩⟩:=d;exact aP (λ_=>none) (agF vs os qs sg i id frm to hd) (by kernel_rfl)
abbrev abI:CT:={ ps:=[wF,.int .i64,.int .i64],pre:=λd=>bK d.1,res:=λd=>([],.iJ [.agg [.sl (.int .i64) ((iL d.1 d.2.1 d.2.2.1 (-1) d.2.2.1).1).1,.sl (.int .i64) ((iL d.1 d.2.1 d.2.2.1 (-1) d.2.2.1).1).2.1,.sl (.sl (.int .i64)) ((iL d.1 d.2.1 d.2.2.1 (-1) d.2.2.1).1).2.2.1,.sl (.int .i64) ((iL d.1 d.2.1 d.2.2.1 (-1) d.2.2.1).1).2.2.2.1],.c (.v (.int .i64 ((iL d.1 d.2.1 d.2.2.1 (-1) d.2.2.1).2)))]) }
theorem agG(vs os:List Int) (qs:List (List Int)) (sg:List Int) (i id:Int) (aG:abI.pre ((vs,os,qs,sg,()),i,id,())):
 let z2:=iL (vs,os,qs,sg,()) i id (-1:Int) id;let z1:=z2.snd;bK (vs,os,qs,sg,())/\rT [SV.agg [SC.sl I6 z2.fst.fst,SC.sl I6 z2.fst.snd.fst,SC.sl I6.sl z2.fst.snd.snd.fst,SC.sl I6 z2.fst.snd.snd.snd.fst],cI z1] [SV.agg [SC.sl I6 (z2.fst.fst,z2.fst.snd.fst,z2.fst.snd.snd.fst,z2.fst.snd.snd.snd.fst,()).fst,SC.sl I6 (z2.fst.snd.fst,z2.fst.snd.snd.fst,z2.fst.snd.snd.snd.fst,()).fst,SC.sl I6.sl (z2.fst.snd.snd.fst,z2.fst.snd.snd.snd.fst,()).fst,SC.sl I6 z2.fst.snd.snd.snd.fst],cI z1]:=by
 conv=>zeta
 delta cI rT I6;exact⟨aG,rfl,rfl⟩
theorem abJ:aU aS.gd 101 abI:=
 dY (cx:=aS) (n:=15) (cl:=[(163,Ua)]) (rc:=[.data wF,.keep]) au ⟨Oj,trivial⟩ Tryz.func101 λd hd=>by
  obtain⟨⟨vs,os,qs,sg,⟨⟩⟩,i,id,⟨⟩⟩:=d;exact aP (λ_=>none) (agG vs os qs sg i id hd) (by kernel_rfl)
abbrev abK:CT:={ ps:=[wF,.int .i64,.int .i64],pre:=λd=>bK d.1,res:=λd=>([],.iJ [.agg [.sl (.int .i64) ((iL d.1 d.2.1 d.2.2.1 d.2.2.1 (-1)).1).1,.sl (.int .i64) ((iL d.1 d.2.1 d.2.2.1 d.2.2.1 (-1)).1).2.1,.sl (.sl (.int .i64)) ((iL d.1 d.2.1 d.2.2.1 d.2.2.1 (-1)).1).2.2.1,.sl (.int .i64) ((iL d.1 d.2.1 d.2.2.1 d.2.2.1 (-1)).1).2.2.2.1],.c (.v (.int .i64 ((iL d.1 d.2.1 d.2.2.1 d.2.2.1 (-1)).2)))]) }
theorem agH(vs os:List Int) (qs:List (List Int)) (sg:List Int) (i id:Int) (aG:abK.pre ((vs,os,qs,sg,()),i,id,())):
 let z2:=iL (vs,os,qs,sg,()) i id id (-1:Int);let z1:=z2.snd;bK (vs,os,qs,sg,())/\rT [SV.agg [SC.sl I6 z2.fst.fst,SC.sl I6 z2.fst.snd.fst,SC.sl I6.sl z2.fst.snd.snd.fst,SC.sl I6 z2.fst.snd.snd.snd.fst],cI z1] [SV.agg [SC.sl I6 (z2.fst.fst,z2.fst.snd.fst,z2.fst.snd.snd.fst,z2.fst.snd.snd.snd.fst,()).fst,SC.sl I6 (z2.fst.snd.fst,z2.fst.snd.snd.fst,z2.fst.snd.snd.snd.fst,()).fst,SC.sl I6.sl (z2.fst.snd.snd.fst,z2.fst.snd.snd.snd.fst,()).fst,SC.sl I6 z2.fst.snd.snd.snd.fst],cI z1]:=by
 conv=>zeta
 delta cI rT I6;exact⟨aG,rfl,rfl⟩
theorem abL:aU aS.gd 102 abK:=
 dY (cx:=aS) (n:=15) (cl:=[(163,Ua)]) (rc:=[.data wF,.keep]) au ⟨Oj,trivial⟩ Tryz.func102 λd hd=>by
  obtain⟨⟨vs,os,qs,sg,⟨⟩⟩,i,id,⟨⟩⟩:=d;exact aP (λ_=>none) (agH vs os qs sg i id hd) (by kernel_rfl)
abbrev abM:CT:={ ps:=[wF,.int .i64],pre:=λd=>bK d.1,res:=λd=>([],vB (kG d.1 d.2.1)) }
abbrev alF(vs os:List Int) (qs:List (List Int)) (sg:List Int) (id:Int):Nat->Option (St->jK):=λk=>match k with
 | 2=>some λ_=>.inv { α:=Nat,slots:=λk=>[(10,.c (.v (.int .i64 k)))],res:=λk=>[],inv:=λk=>k<=(qs).length/\∀j < k,∀q,qs[j]?=some q->dO q id=false,meas:=λk=>(qs).length - k }
 | _=>none
theorem agJ(vs os:List Int) (qs:List (List Int)) (sg:List Int) (id:Int) (aG:abM.pre ((vs,os,qs,sg,()),id,())):
 let z1:=λ(x:Nat)=>(x<=qs.length/\∀(j:Nat),j < x->∀(q:List Int),qs[j]?=some q->dO q id=false);let z2:=[g0 (ak.blk 34 [SC.sl I6 vs,SC.sl I6 os,SC.sl I6.sl qs,SC.sl I6 sg])];let z3:=kG (vs,os,qs,sg,()) id;(∃x,(z1 x)/\(cI 0=cI (x:Int)/\True)/\sm z2)/\∀(x:Nat),(z1 x)->br (decide ((x:Int) < (qs.length:Int))) ((0<=(x:Int)/\(x:Int) < (qs.length:Int))/\∀(d:List Int),qs[(x:Int).toNat]?=some d->d.length<=4611686018427387904/\br (dO d id) (qB z3 true) (iR ((x:Int)+(1:Int))/\∃x',(z1 x')/\(cI ((x:Int)+(1:Int))=cI (x':Int)/\True)/\sm z2/\qs.length - x' < qs.length - x)) (sg.length<=1000000/\qB z3 (dO sg id)):=by
 conv=>zeta
 delta cI g0 qB sm I6 iR;obtain⟨b1,b2,b3,b4,b5,b6⟩:vs.length<=1000/\os.length<=1000/\qs.length<=1000/\sg.length<=1000/\(∀q∈qs,q.length<=1000)/\qs.flatten.length<=100000:=aG;refine⟨⟨0,⟨by omega,λj hj=>by omega⟩,⟨rfl,trivial⟩,rfl⟩,λk hk=>ah.2 ⟨λg=>?_,λg=>?_⟩⟩
 .simp only[dN]at g;refine⟨⟨by omega,by omega⟩,λd hd=>⟨?_,ah.2 ⟨λg2=>⟨rfl,?_⟩,λg2=>⟨ay.2 (by omega),k+1,⟨by omega,λj hj q hq=>?_⟩,⟨rfl,trivial⟩,rfl,by omega⟩⟩⟩⟩
  .have:=b5 d (gZ hd);omega
  .have:kG (vs,os,qs,sg,()) id=true:=by
    unfold kG;rw[xk];exact .inl (Ls.2 ⟨d,gZ hd,g2⟩)
   rw[this]
  .by_cases iY:j=k
   .subst iY;have hd:qs[j]?=some d:=hd;rw[hd]at hq;cases hq;exact g2
   .exact hk.2 j (by omega) q hq
 simp only[eH]at g;have:kG (vs,os,qs,sg,()) id=dO sg id:=by
  unfold kG;have:(qs.any λq=>dO q id)=false:=by
   rw[Xh];intro q hq;obtain⟨j,hj⟩:=Ai hq;rw[hk.2 j (by have:=(A8.1 hj).1;omega) q hj];simp
  simp[this]
 exact⟨by omega,rfl,by rw[this]⟩
theorem abN:aU aS.gd 164 abM:=
 dY (cx:=aS) (n:=22) (cl:=[(98,FK),(165,IJ)]) (rc:=[]) au ⟨zx,zA,trivial⟩ Tryz.func164 λd hd=>by
  obtain⟨⟨vs,os,qs,sg,⟨⟩⟩,id,⟨⟩⟩:=d;exact aP (alF vs os qs sg id) (agJ vs os qs sg id hd) (by kernel_rfl)
def rJ(m:MD) (c id:Int):MD×Int:=if jB m c m.2.2.1.length=0 then(if id < 0 then(zM,2) else if kG m id=true then(zM,30) else((m.1,m.2.1,m.2.2.1.set c.toNat (m.2.2.1[c.toNat]?.getD []++[id]),m.2.2.2),0)) else(zM,jB m c m.2.2.1.length)
def jR(sg l:List Int):List Int:=l.foldl (λs x=>aY (s++[x])) sg
theorem QT{sg:List Int}{d:Int} (h:l[k]?=some d):jR sg (l.take (k+1))=aY (jR sg (l.take k)++[d]):=by
 unfold jR;rw[OJ,h];simp
theorem BH:∀(l sg:List Int),(jR sg l).length<=sg.length+l.length
 | [],sg=>by simp[jR]
 | x :: l,sg=>by
   have:=BH l (aY (sg++[x]));have h2:=zQ (sg++[x]) [];have e:jR sg (x :: l)=jR (aY (sg++[x])) l:=rfl;rw[e];unfold aY at *;simp only[kH,sV,Lp]at *;omega
def rP(m:MD) (c n:Int):MD×Int×Int:=if jB m c m.2.2.1.length=0 then((m.1,m.2.1,m.2.2.1.set c.toNat ((m.2.2.1[c.toNat]?.getD []).drop (kC n ((m.2.2.1[c.toNat]?.getD []).length:Int)).toNat),jR m.2.2.2.1 ((m.2.2.1[c.toNat]?.getD []).take (kC n ((m.2.2.1[c.toNat]?.getD []).length:Int)).toNat),()),kC n ((m.2.2.1[c.toNat]?.getD []).length:Int),0) else(zM,0,jB m c m.2.2.1.length)
def kY(m:MD) (id:Int):MD×Int:=if dK m=false then(zM,1) else if dO m.2.2.2.1 id=false then(zM,30) else((m.1,m.2.1,m.2.2.1,nM (aY m.2.2.2.1) [id] false,()),0)
def pF(vs:List VD) (ms cs:List ByteArray) (fs:List FD) (ts:List SD):MD×Int:=if(aC vs ms cs fs ts).1=0 then((vs.map (·.2.1),List.replicate ms.length (-1),List.replicate cs.length [],[],()),0) else(zM,(aC vs ms cs fs ts).1)
abbrev abO:CT:={ ps:=[wF,.int .i64,.int .i64],pre:=λd=>bK d.1,res:=λd=>([],.iJ [.agg [.sl (.int .i64) ((rJ d.1 d.2.1 d.2.2.1).1).1,.sl (.int .i64) ((rJ d.1 d.2.1 d.2.2.1).1).2.1,.sl (.sl (.int .i64)) ((rJ d.1 d.2.1 d.2.2.1).1).2.2.1,.sl (.int .i64) ((rJ d.1 d.2.1 d.2.2.1).1).2.2.2.1],.c (.v (.int .i64 ((rJ d.1 d.2.1 d.2.2.1).2)))]) }
theorem agK(vs os:List Int) (qs:List (List Int)) (sg:List Int) (c id:Int) (aG:abO.pre ((vs,os,qs,sg,()),c,id,())):
 let z8:=(vs,os,qs,sg,());let z6:=rJ z8 c id;let z1:=[SV.agg [SC.sl I6 z6.fst.fst,SC.sl I6 z6.fst.snd.fst,SC.sl I6.sl z6.fst.snd.snd.fst,SC.sl I6 z6.fst.snd.snd.snd.fst],cI (z6.snd)];let z5:=0<=c/\c < (qs.length:Int);let z7:=c.toNat < qs.length;let z3:=decide z7=true/\c.toNat < qs.length;let z4:=λ(d:List Int)=>List.length (d)+List.length ([id]);let z2:=λ(d:List Int)=>[SV.agg [SC.sl I6 vs,SC.sl I6 os,SC.sl I6.sl (qs.set c.toNat ((d++[id]))),SC.sl I6 sg],cI 0];bK z8/\br (!decide (jB z8 c (qs.length:Int)=(0:Int))) (rT z1 [SV.agg WW,cI (jB z8 c (qs.length:Int))]) (br (decide (id < 0)) (rT z1 kq4) (bK z8/\br (kG z8 id) (rT z1 kq3) (bK z8/\z5/\c.toNat < qs.length/\∀(d:List Int),qs[c.toNat]?=some d->false=false/\(decide z7=true->(z3/\∀(d:List Int),qs[c.toNat]?=some d->oz (z4 d) 8/\z5/\c.toNat < qs.length/\c.toNat=c.toNat/\∀(e0:List Int),qs[c.toNat]?=some e0->rT z1 (z2 d))/\(z3/\∀(d:List Int),qs[c.toNat]?=some d->oz (z4 d) 8/\z5/\c.toNat < qs.length/\c.toNat=c.toNat/\∀(e0:List Int),qs[c.toNat]?=some e0->rT z1 (z2 d))/\z3/\∀(d:List Int),qs[c.toNat]?=some d->oz (z4 d) 8/\z5/\c.toNat < qs.length/\c.toNat=c.toNat/\∀(e0:List Int),qs[c.toNat]?=some e0->rT z1 (z2 d))/\(decide z7=false->False/\False/\False)))):=by
 conv=>zeta
 delta WW kq4 kq3 cI rT I6;unfold rJ;have hb:=aG;obtain⟨b1,b2,b3,b4,b5,b6⟩:vs.length<=1000/\os.length<=1000/\qs.length<=1000/\sg.length<=1000/\(∀q∈qs,q.length<=1000)/\qs.flatten.length<=100000:=aG;refine⟨hb,ah.2 ⟨λh=>⟨rfl,?_⟩,λh=>?_⟩⟩
 .rw[if_neg (by simpa using h)];rfl
 have h:jB (vs,os,qs,sg,()) c qs.length=0:=by simpa using h
 have hx:=dV.1 h;rw[if_pos h];refine ah.2 ⟨λg=>⟨rfl,?_⟩,λg=>⟨hb,ah.2 ⟨λw=>⟨rfl,?_⟩,λw=>⟨hb,hx.2,by omega,λd hd=>⟨rfl,?_⟩⟩⟩⟩⟩
 .rw[if_pos (by simpa using g)];rfl
 .rw[if_neg (by simpa using g),if_pos w];rfl
 rw[if_neg (by simpa using g),if_neg (by simpa using w)]
 have hc:decide (c.toNat < qs.length)=true:=by rw[dN];omega
 have hl:=b5 d (gZ hd);have e:(vs,os,qs,sg,()).2.2.1[c.toNat]?.getD []=d:=by simp[hd]
 rw[e];have key:∀d':List Int,qs[c.toNat]?=some d'->d'=d:=λd' h'=>by rw[hd]at h';cases h';rfl
 have hI:oz (d.length+1) 8:=dZ.2 (by omega)
 have hz:¬decide (c.toNat < qs.length)=false:=by rw[hc];simp
 refine⟨λ_=>?_,λq=>absurd q hz⟩
 have F:(decide (c.toNat < qs.length)=true/\c.toNat < qs.length):=⟨hc,by omega⟩
 repeat' first | exact F | (refine And.intro ?_ ?_)
 all_goals
  intro d' h';cases key d' h';exact⟨hI,hx.2,by omega,rfl,λ_ _=>⟨rfl,rfl⟩⟩
theorem abP:aU aS.gd 103 abO:=
 dY (cx:=aS) (n:=42) (cl:=[(158,CB),(164,abM),(49,abE)]) (rc:=[.data wF,.keep]) au ⟨rH,abN,agy,trivial⟩ Tryz.func103 λd hd=>by
  obtain⟨⟨vs,os,qs,sg,⟨⟩⟩,c,id,⟨⟩⟩:=d;exact aP (λ_=>none) (agK vs os qs sg c id hd) (by kernel_rfl)
abbrev Ub:CT:={ ps:=[wF,.int .i64,.int .i64],pre:=λd=>bK d.1/\0<=d.2.2.1,res:=λd=>([],.iJ [.agg [.sl (.int .i64) ((rP d.1 d.2.1 d.2.2.1).1).1,.sl (.int .i64) ((rP d.1 d.2.1 d.2.2.1).1).2.1,.sl (.sl (.int .i64)) ((rP d.1 d.2.1 d.2.2.1).1).2.2.1,.sl (.int .i64) ((rP d.1 d.2.1 d.2.2.1).1).2.2.2.1],.c (.v (.int .i64 ((rP d.1 d.2.1 d.2.2.1).2.1))),.c (.v (.int .i64 ((rP d.1 d.2.1 d.2.2.1).2.2)))]) }
abbrev alG(vs os:List Int) (qs:List (List Int)) (sg:List Int) (c n:Int):Nat->Option (St->jK):=λk=>match k with
 | 7=>some λs=>.inv { α:=Nat,can:=[(5,.cell 6 3)],slots:=λk=>[(41,.c (.v (.int .i64 k)))],res:=λk=>[(5,.row 3 (.int .i64) (jR sg ((slotL (.int .i64) s 39).take k)))],inv:=λk=>k<=(slotL (.int .i64) s 39).length,meas:=λk=>(slotL (.int .i64) s 39).length - k }
 | _=>none
theorem agL(vs os:List Int) (qs:List (List Int)) (sg:List Int) (c n:Int) (aG:Ub.pre ((vs,os,qs,sg,()),c,n,())):
 let z10:=(vs,os,qs,sg,());let z9:=rP z10 c n;let z2:=[SV.agg [SC.sl I6 z9.fst.fst,SC.sl I6 z9.fst.snd.fst,SC.sl I6.sl z9.fst.snd.snd.fst,SC.sl I6 z9.fst.snd.snd.snd.fst],cI (z9.snd.fst),cI (z9.snd.snd)];let z8:=0<=c/\c < (qs.length:Int);let z6:=λ(d bJ:List Int)=>List.take (kC n (d.length:Int)).toNat bJ;let z5:=[SC.sl I6 vs,SC.sl I6 os,SC.sl I6.sl qs,SC.sl I6 sg];let z7:=[SC.row 2,SC.row 3,SC.row 4,SC.row 5];let z3:=λ(x:Nat) (d bJ:List Int)=>jR sg (List.take x (List.drop 0 (z6 d bJ)));let z1:=λ(x:Nat) (d bJ:List Int)=>[g0 (ak.blk 34 z5),g0 (ak.blk 34 nC),g0 (ak.row 3 I6 vs),g0 (ak.row 3 I6 os),g0 (ak.row 31 I6.sl qs),g0 (ak.row 3 I6 (z3 x d bJ)),g0 (ak.blk 34 z7)];let z4:=λ(d kW:List Int)=>List.drop (kC n (d.length:Int)).toNat (List.take (kW.length:Int).toNat kW);bK z10/\br (!decide (jB z10 c (qs.length:Int)=(0:Int))) (rT z2 [SV.agg WW,cI 0,cI (jB z10 c (qs.length:Int))]) (bK z10/\z8/\c.toNat < qs.length/\∀(d:List Int),qs[c.toNat]?=some d->z8/\c.toNat < qs.length/\∀(bJ:List Int),qs[c.toNat]?=some bJ->((0:Int)<=(0:Int)/\0<=kC n (d.length:Int)/\kC n (d.length:Int)<=(bJ.length:Int))/\(∃x,x<=List.length (List.drop 0 (z6 d bJ))/\(cI 0=cI (x:Int)/\True)/\[g0 (ak.blk 34 z5),g0 (ak.blk 34 nC),g0 (ak.row 3 I6 vs),g0 (ak.row 3 I6 os),g0 (ak.row 31 I6.sl qs),g0 (ak.row 3 I6 sg),g0 (ak.blk 34 z7)]=(z1 x d bJ))/\∀(x:Nat),x<=List.length (List.drop 0 (z6 d bJ))->br (decide ((x:Int) < (↑(List.drop 0 (z6 d bJ)).length:Int))) ((0<=(x:Int)/\(x:Int) < (↑(List.drop 0 (z6 d bJ)).length:Int))/\∀(kW:Int),(List.drop 0 (z6 d bJ))[(x:Int).toNat]?=some kW->(z3 x d bJ).length<=999999/\iR ((x:Int)+(1:Int))/\∃x',x'<=List.length (List.drop 0 (z6 d bJ))/\(cI ((x:Int)+(1:Int))=cI (x':Int)/\True)/\[g0 (ak.blk 34 z5),g0 (ak.blk 34 nC),g0 (ak.row 3 I6 vs),g0 (ak.row 3 I6 os),g0 (ak.row 31 I6.sl qs),g0 (ak.row 3 I6 (aY (jR sg (List.take x (List.drop 0 (z6 d bJ)))++[kW]))),g0 (ak.blk 34 z7)]=(z1 x' d bJ)/\List.length (List.drop 0 (z6 d bJ)) - x' < List.length (List.drop 0 (z6 d bJ)) - x) (z8/\c.toNat < qs.length/\∀(kW:List Int),qs[c.toNat]?=some kW->(0<=kC n (d.length:Int)/\kC n (d.length:Int)<=(kW.length:Int)/\(kW.length:Int)<=(kW.length:Int))/\(z4 d kW).length<=1000000/\z8/\c.toNat < qs.length/\rT z2 [SV.agg [SC.sl I6 vs,SC.sl I6 os,SC.sl I6.sl (qs.set c.toNat (z4 d kW)),SC.sl I6 (z3 x d bJ)],cI (kC n (d.length:Int)),cI 0])):=by
 conv=>zeta
 delta nC WW cI g0 rT I6 iR iN;obtain⟨hb,hn⟩:bK (vs,os,qs,sg,())/\0<=n:=aG;unfold rP;obtain⟨b1,b2,b3,b4,b5,b6⟩:vs.length<=1000/\os.length<=1000/\qs.length<=1000/\sg.length<=1000/\(∀q∈qs,q.length<=1000)/\qs.flatten.length<=100000:=id hb;refine⟨hb,ah.2 ⟨λh=>⟨rfl,?_⟩,λh=>?_⟩⟩
 .rw[if_neg (by simpa using h)];rfl
 have h:jB (vs,os,qs,sg,()) c qs.length=0:=by simpa using h
 have hx:=dV.1 h;rw[if_pos h];refine⟨hb,hx.2,by omega,λd hd=>⟨hx.2,by omega,λd1 hd1=>?_⟩⟩
 rw[hd]at hd1;cases hd1;have hl:=b5 d (gZ hd);have e:(vs,os,qs,sg,()).2.2.1[c.toNat]?.getD []=d:=by simp[hd]
 rw[e];have hm:0<=kC n (d.length:Int)/\kC n (d.length:Int)<=d.length:=by unfold kC;split<;>omega
 generalize kC n (d.length:Int)=k at hm;rw[OM];have h2:(d.take k.toNat).length<=1000:=by rw[lu];omega
 refine⟨⟨by omega,hm⟩,⟨0,by omega,⟨rfl,trivial⟩,rfl⟩,λj hj=>ah.2 ⟨λg=>?_,λg=>?_⟩⟩
 .simp only[dN]at g;refine⟨⟨by omega,by omega⟩,λx hx2=>⟨?_,ay.2 (by omega),j+1,by omega,⟨rfl,trivial⟩,?_,by omega⟩⟩
  .have:=BH ((d.take k.toNat).take j) sg;rw[lu]at this;omega
  .have hx2:(d.take k.toNat)[j]?=some x:=hx2;rw[QT hx2]
 simp only[eH]at g;refine⟨hx.2,by omega,λd2 hd2=>?_⟩
 rw[hd]at hd2;cases hd2;have e2:List.take (d.length:Int).toNat d=d:=xg (by omega)
 rw[e2];refine⟨⟨by omega,by omega,by omega⟩,by rw[yj];omega,hx.2,by omega,rfl,?_⟩
 rw[xg (i:=j) (by omega)]
theorem Ol:aU aS.gd 166 Ub:=
 dY (cx:=aS) (n:=65) (cl:=[(158,CB),(111,NM),(107,Jb),(49,Cm)]) (rc:=[.data wF,.keep,.keep]) au ⟨rH,FM,zS,rG,trivial⟩ Tryz.func166 λd hd=>by
  obtain⟨⟨vs,os,qs,sg,⟨⟩⟩,c,n,⟨⟩⟩:=d;exact aP (alG vs os qs sg c n) (agL vs os qs sg c n hd) (by kernel_rfl)
abbrev abQ:CT:={ ps:=[wF,.int .i64],pre:=λd=>bK d.1,res:=λd=>([],.iJ [.agg [.sl (.int .i64) ((rP d.1 d.2.1 1).1).1,.sl (.int .i64) ((rP d.1 d.2.1 1).1).2.1,.sl (.sl (.int .i64)) ((rP d.1 d.2.1 1).1).2.2.1,.sl (.int .i64) ((rP d.1 d.2.1 1).1).2.2.2.1],.c (.v (.int .i64 ((rP d.1 d.2.1 1).2.1))),.c (.v (.int .i64 ((rP d.1 d.2.1 1).2.2)))]) }
theorem agN(vs os:List Int) (qs:List (List Int)) (sg:List Int) (c:Int) (aG:abQ.pre ((vs,os,qs,sg,()),c,())):
 let z3:=rP (vs,os,qs,sg,()) c (1:Int);let z1:=z3.snd.fst;let z2:=z3.snd.snd;(bK (vs,os,qs,sg,())/\(0:Int)<=(1:Int))/\rT [SV.agg [SC.sl I6 z3.fst.fst,SC.sl I6 z3.fst.snd.fst,SC.sl I6.sl z3.fst.snd.snd.fst,SC.sl I6 z3.fst.snd.snd.snd.fst],cI z1,cI z2] [SV.agg [SC.sl I6 (z3.fst.fst,z3.fst.snd.fst,z3.fst.snd.snd.fst,z3.fst.snd.snd.snd.fst,()).fst,SC.sl I6 (z3.fst.snd.fst,z3.fst.snd.snd.fst,z3.fst.snd.snd.snd.fst,()).fst,SC.sl I6.sl (z3.fst.snd.snd.fst,z3.fst.snd.snd.snd.fst,()).fst,SC.sl I6 z3.fst.snd.snd.snd.fst],cI z1,cI z2]:=by
 conv=>zeta
 delta cI rT I6;exact⟨⟨aG,by decide⟩,rfl,rfl⟩
theorem abR:aU aS.gd 105 abQ:=
 dY (cx:=aS) (n:=13) (cl:=[(166,Ub)]) (rc:=[.data wF,.keep,.keep]) au ⟨Ol,trivial⟩ Tryz.func105 λd hd=>by
  obtain⟨⟨vs,os,qs,sg,⟨⟩⟩,c,⟨⟩⟩:=d;exact aP (λ_=>none) (agN vs os qs sg c hd) (by kernel_rfl)
abbrev abS:CT:={ ps:=[wF,.int .i64],pre:=λd=>bK d.1,res:=λd=>([],.iJ [.agg [.sl (.int .i64) ((kY d.1 d.2.1).1).1,.sl (.int .i64) ((kY d.1 d.2.1).1).2.1,.sl (.sl (.int .i64)) ((kY d.1 d.2.1).1).2.2.1,.sl (.int .i64) ((kY d.1 d.2.1).1).2.2.2.1],.c (.v (.int .i64 ((kY d.1 d.2.1).2)))]) }
theorem agO(vs os:List Int) (qs:List (List Int)) (sg:List Int) (id:Int) (aG:abS.pre ((vs,os,qs,sg,()),id,())):
 let z3:=(vs,os,qs,sg,());let z2:=kY z3 id;let z1:=[SV.agg [SC.sl I6 z2.fst.fst,SC.sl I6 z2.fst.snd.fst,SC.sl I6.sl z2.fst.snd.snd.fst,SC.sl I6 z2.fst.snd.snd.snd.fst],cI (z2.snd)];bK z3/\br (!dK z3) (rT z1 [SV.agg WW,cI 1]) (sg.length<=1000000/\br (!dO sg id) (rT z1 kq3) (bK z3/\sg.length<=1000000/\rT z1 [SV.agg [SC.sl I6 vs,SC.sl I6 os,SC.sl I6.sl qs,SC.sl I6 (nM (aY sg) [id] false)],cI 0])):=by
 conv=>zeta
 delta WW kq3 cI rT I6;have hb:=aG;obtain⟨b1,b2,b3,b4,b5,b6⟩:vs.length<=1000/\os.length<=1000/\qs.length<=1000/\sg.length<=1000/\(∀q∈qs,q.length<=1000)/\qs.flatten.length<=100000:=aG;unfold kY;refine⟨hb,ah.2 ⟨λh=>⟨rfl,?_⟩,λh=>⟨by omega,ah.2 ⟨λg=>⟨rfl,?_⟩,λg=>⟨hb,by omega,rfl,?_⟩⟩⟩⟩⟩
 .rw[if_pos (by simpa using h)];rfl
 .rw[if_neg (by simpa using h),if_pos (by simpa using g)];rfl
 .rw[if_neg (by simpa using h),if_neg (by simpa using g)]
theorem abT:aU aS.gd 104 abS:=
 dY (cx:=aS) (n:=25) (cl:=[(157,abC),(165,IJ),(112,NY),(49,Cm)]) (rc:=[.data wF,.keep]) au ⟨Gi,zA,F7,rG,trivial⟩ Tryz.func104 λd hd=>by
  obtain⟨⟨vs,os,qs,sg,⟨⟩⟩,id,⟨⟩⟩:=d;exact aP (λ_=>none) (agO vs os qs sg id hd) (by kernel_rfl)
abbrev QU:CT:={ ps:=[oW],pre:=λd=>bnd d,res:=λd=>([],.iJ [.agg [.sl (.int .i64) ((pF d.1.1 d.1.2.1 d.1.2.2.1 d.1.2.2.2.1 d.1.2.2.2.2.1).1).1,.sl (.int .i64) ((pF d.1.1 d.1.2.1 d.1.2.2.1 d.1.2.2.2.1 d.1.2.2.2.2.1).1).2.1,.sl (.sl (.int .i64)) ((pF d.1.1 d.1.2.1 d.1.2.2.1 d.1.2.2.2.1 d.1.2.2.2.2.1).1).2.2.1,.sl (.int .i64) ((pF d.1.1 d.1.2.1 d.1.2.2.1 d.1.2.2.2.1 d.1.2.2.2.2.1).1).2.2.2.1],.c (.v (.int .i64 ((pF d.1.1 d.1.2.1 d.1.2.2.1 d.1.2.2.2.1 d.1.2.2.2.2.1).2)))]) }
abbrev aot(vs:List VD) (ms cs:List ByteArray) (fs:List FD) (ts:List SD):Nat->Option (St->jK):=λk=>match k with
 | 6=>some λs=>.inv { α:=Nat,sD:=[(3,0,3,.int .i64)],slots:=λk=>[(28,.c (.v (.int .i64 k)))],res:=λk=>[(4,.row 3 (.int .i64) ((vs.take k).map (·.2.1)))],inv:=λk=>k<=vs.length,meas:=λk=>vs.length - k }
 | 11=>some λs=>.inv { α:=Nat,sD:=[(3,1,3,.int .i64)],slots:=λk=>[(43,.c (.v (.int .i64 k)))],res:=λk=>[(5,.row 3 (.int .i64) (List.replicate k (-1)))],inv:=λk=>k<=ms.length,meas:=λk=>ms.length - k }
 | _=>none
theorem alH(vs:List VD) (ms cs:List ByteArray) (fs:List FD) (ts:List SD) (aG:QU.pre ((vs,ms,cs,fs,ts,()),())):
 let z8:=pF vs ms cs fs ts;let z1:=[SV.agg [SC.sl I6 z8.fst.fst,SC.sl I6 z8.fst.snd.fst,SC.sl I6.sl z8.fst.snd.snd.fst,SC.sl I6 z8.fst.snd.snd.snd.fst],cI (z8.snd)];let z3:=[SC.sl Hg vs,SC.sl Sh.str ms,SC.sl Sh.str cs,SC.sl Dw fs,SC.sl mO ts];let z5:=List.replicate (cs.length:Int).toNat [];let z4:=[SC.row (Nat.succ 0).succ.succ.succ,iN,SC.row (Nat.succ 0).succ,iN];let z9:=λ(x:Nat)=>List.take x vs;let z7:=λ(x:Nat)=>(x:Int)+(1:Int);let z2:=[SC.row (Nat.succ 0).succ.succ.succ,SC.row (Nat.succ 0).succ.succ.succ.succ,SC.row (Nat.succ 0).succ,iN];let z6:=λ(x_1:Nat)=>List.replicate x_1 (-1:Int);(vs.length<=1000000/\ms.length<=1000000/\cs.length<=1000000/\fs.length<=1000000/\ts.length<=1000000/\(∀(x:ByteArray×(lY.sl.pair Sh.unit).den),x∈fs->List.length x.snd.fst<=1000000)/\(dM fs).length<=1000000)/\br (!decide ((aC vs ms cs fs ts).fst=0)) (rT z1 [SV.agg WW,cI ((aC vs ms cs fs ts).fst)]) ((0<=(cs.length:Int)/\(cs.length:Int)<=(cs.length:Int)/\oz (cs.length:Int).toNat 24)/\(∃x,x<=vs.length/\(cI 0=cI (x:Int)/\True)/\[g0 (ak.blk 27 z3),g0 (ak.blk 34 nC),g0 (ak.row 31 I6.sl z5),g0 (ak.blk 34 z4),g0 (ak.row 3 I6 [])]=[g0 (ak.blk 27 z3),g0 (ak.blk 34 nC),g0 (ak.row 31 I6.sl z5),g0 (ak.blk 34 z4),g0 (ak.row 3 I6 (List.map (λx=>x.snd.fst) (List.take x vs)))])/\∀(x:Nat),x<=vs.length->br (decide ((x:Int) < (vs.length:Int))) ((0<=(x:Int)/\(x:Int) < (vs.length:Int))/\∀(d:ByteArray×(I6.pair Sh.unit).den),vs[(x:Int).toNat]?=some d->oz (List.length (List.map (λx=>x.snd.fst) (z9 x))+List.length ([d.snd.fst])) 8/\iR (z7 x)/\∃x',x'<=vs.length/\(cI (z7 x)=cI (x':Int)/\True)/\[g0 (ak.blk 27 z3),g0 (ak.blk 34 nC),g0 (ak.row 31 I6.sl z5),g0 (ak.blk 34 z4),g0 (ak.row 3 I6 (List.map (λx=>x.snd.fst) (z9 x)++[d.snd.fst]))]=[g0 (ak.blk 27 z3),g0 (ak.blk 34 nC),g0 (ak.row 31 I6.sl z5),g0 (ak.blk 34 z4),g0 (ak.row 3 I6 (List.map (λx=>x.snd.fst) (List.take x' vs)))]/\vs.length - x' < vs.length - x) ((∃x_1,x_1<=ms.length/\(cI 0=cI (x_1:Int)/\True)/\[g0 (ak.blk 27 z3),g0 (ak.blk 34 nC),g0 (ak.row 31 I6.sl z5),g0 (ak.blk 34 z2),g0 (ak.row 3 I6 (List.map (λx=>x.snd.fst) (z9 x))),g0 (ak.row 3 I6 [])]=[g0 (ak.blk 27 z3),g0 (ak.blk 34 nC),g0 (ak.row 31 I6.sl z5),g0 (ak.blk 34 z2),g0 (ak.row 3 I6 (List.map (λx=>x.snd.fst) (z9 x))),g0 (ak.row 3 I6 (z6 x_1))])/\∀(x_1:Nat),x_1<=ms.length->br (decide ((x_1:Int) < (ms.length:Int))) (oz (List.length (z6 x_1)+1) 8/\iR (z7 x_1)/\∃x',x'<=ms.length/\(cI (z7 x_1)=cI (x':Int)/\True)/\[g0 (ak.blk 27 z3),g0 (ak.blk 34 nC),g0 (ak.row 31 I6.sl z5),g0 (ak.blk 34 z2),g0 (ak.row 3 I6 (List.map (λx=>x.snd.fst) (z9 x))),g0 (ak.row 3 I6 (List.replicate x_1 (-1:Int)++[(-1:Int)]))]=[g0 (ak.blk 27 z3),g0 (ak.blk 34 nC),g0 (ak.row 31 I6.sl z5),g0 (ak.blk 34 z2),g0 (ak.row 3 I6 (List.map (λx=>x.snd.fst) (z9 x))),g0 (ak.row 3 I6 (List.replicate x' (-1:Int)))]/\ms.length - x' < ms.length - x_1) (rT z1 [SV.agg [SC.sl I6 (List.map (λx=>x.snd.fst) (z9 x)),SC.sl I6 (z6 x_1),SC.sl I6.sl z5,SC.sl I6 []],cI 0]))):=by
 conv=>zeta
 delta WW nC cI g0 rT I6 iR iN;have hb:vs.length<=1000000/\ms.length<=1000000/\cs.length<=1000000:=⟨aG.1,aG.2.1,aG.2.2.1⟩;obtain⟨b1,b2,b3⟩:=hb;unfold pF;refine⟨aG,ah.2 ⟨λh=>⟨rfl,?_⟩,λh=>?_⟩⟩
 .rw[if_neg (by simpa using h)];rfl
 rw[if_pos (by simpa using h)]
 refine⟨⟨by omega,by omega,dZ.2 (by omega)⟩,⟨0,by omega,⟨rfl,trivial⟩,rfl⟩,λk hk=>ah.2 ⟨λg=>?_,λg=>?_⟩⟩
 .simp only[dN]at g;refine⟨⟨by omega,by omega⟩,λd hd=>⟨dZ.2 ?_,ay.2 (by omega),k+1,by omega,⟨rfl,trivial⟩,?_,by omega⟩⟩
  .simp only[WR,lu,sV,Lp];omega
  .have hd:vs[k]?=some d:=hd;have e:List.map (λx:VD=>x.snd.fst) (List.take (k+1) vs)=List.map (λx:VD=>x.snd.fst) (List.take k vs)++[d.2.1]:=by rw[OJ,hd];simp
   rw[e]
 simp only[eH]at g;rw[xg (i:=k) (by omega)]
 refine⟨⟨0,by omega,⟨rfl,trivial⟩,rfl⟩,λj hj=>ah.2 ⟨λg2=>?_,λg2=>?_⟩⟩
 .simp only[dN]at g2;refine⟨dZ.2 ?_,ay.2 (by omega),j+1,by omega,⟨rfl,trivial⟩,?_,by omega⟩
  .simp only[Lj];omega
  .have e:List.replicate (j+1) (-1:Int)=List.replicate j (-1)++[-1]:=List.replicate_succ';rw[show List.replicate (j+1) (-1:(Sh.int IntKind.i64).den)=List.replicate j (-1)++[-1] from e]
 simp only[eH]at g2;have ej:j=ms.length:=by omega
 subst ej;exact⟨rfl,rfl⟩
theorem agP:aU aS.gd 33 QU:=
 dY (cx:=aS) (n:=52) (cl:=[(74,IU)]) (rc:=[.data wF,.keep]) au ⟨Dz,trivial⟩ Tryz.func33 λd hd=>by
  obtain⟨⟨vs,ms,cs,fs,ts,⟨⟩⟩,⟨⟩⟩:=d;exact aP (aot vs ms cs fs ts) (alH vs ms cs fs ts hd) (by kernel_rfl)
end
end Go.Proofs.YtjhenjhcbcalpaaGreatDoor
