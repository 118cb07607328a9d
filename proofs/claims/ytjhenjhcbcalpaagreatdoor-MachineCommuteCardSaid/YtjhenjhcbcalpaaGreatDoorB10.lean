/- Texts of this claim, part 10: M1, M2, M2D, M3, M4, M5. Conditions: those of the given rows. -/
import Derived.Test.YtjhenjhcbcalpaaGreatDoorB9
set_option linter.unusedSimpArgs false
set_option linter.unusedVariables false
set_option maxRecDepth 1000000
set_option maxHeartbeats 8000000
namespace Go.Proofs.YtjhenjhcbcalpaaGreatDoor
open Go Go.mQ
noncomputable section
variable {l:List Int}{qs:List (List Int)}{k:Nat}
abbrev yM:Sh:=.pair (.sl (.int .i64)) (.pair (.sl (.int .i64)) (.pair (.sl (.sl (.int .i64))) (.pair (.sl (.int .i64)) .unit)))
abbrev MD:=List Int×List Int×List (List Int)×List Int×Unit
def Ph:MD->Prop
 | (vs,os,qs,sg,_)=>vs.length<=8/\os.length<=4/\qs.length<=4/\SS sg/\(∀v∈vs,dh v=true)/\(∀o∈os,-1<=o)/\(∀x∈sg++qs.flatten,0<=x)/\(sg++qs.flatten).Nodup
open Classical in
def dO(m:MD):Bool:=decide (Ph m)
open Classical in
theorem dU{m:MD}:dO m=true↔Ph m:=by unfold dO;rw[Ym]
theorem Pj{m:MD} (h:¬Ph m):dO m=false:=A87.2 λq=>h (dU.1 q)
def bK(m:MD):Prop:=m.1.length<=1000/\m.2.1.length<=1000/\m.2.2.1.length<=1000/\m.2.2.2.1.length<=1000/\(∀q∈m.2.2.1,q.length<=1000)/\m.2.2.1.flatten.length<=100000
theorem nR{n:Int}:dh n=true↔-2147483648<=n/\n<=2147483647:=by
 unfold dh;simp
theorem Ic:rH l=true↔SS l:=by unfold rH;rw[Ym]
theorem XL(qs:List (List Int)) (k:Nat):(qs.take k).flatten.length<=qs.flatten.length:=by
 have:qs.flatten=(qs.take k).flatten++(qs.drop k).flatten:=by rw[<-List.flatten_append,X0]
 rw[this,kZ];omega
theorem XM{d:List Int} (h:qs[k]?=some d):(qs.take (k+1)).flatten=(qs.take k).flatten++d:=by
 rw[Tf,h];simp
theorem acQ(h:l.Nodup){d:Int} (hd:l[k]?=some d):d∉l.take k:=by
 intro hm;obtain⟨j,hj⟩:=II hm;rw[wZ]at hj;split at hj
 .rename_i ji;obtain⟨h1,e1⟩:=eU.1 hj;obtain⟨h2,e2⟩:=eU.1 hd;have:=aeL.1 h j k h1 h2 ji;exact this (e1.trans e2.symm)
 .cases hj
theorem SG(h:(l.take k).Nodup){d:Int} (hd:l[k]?=some d) (hn:d∉l.take k):(l.take (k+1)).Nodup:=by
 rw[Tf,hd,aj6,List.nodup_append];refine⟨h,by simp,λa ha b hb=>?_⟩
 simp at hb;subst hb;rintro rfl;exact hn ha
theorem EU:∀(l o:List Int),(l.foldl (λo x=>if gq o x then o else Dh o x) o).length<=o.length+l.length
 | [],o=>by simp
 | x :: l,o=>by
   simp only[Nj,yP];split
   .have:=EU l o;omega
   .have:=EU l (Dh o x);rw[OJ]at this;omega
abbrev J4:CT:={ ps:=[.sl (.int .i64)],pre:=λd=>d.1.length<=1000000,res:=λd=>([.row 3 (.int .i64) (d.1)],.one (.c (.row 0))) }
theorem ahM(l:List Int) (aH:J4.pre (l,())):
 let z1:=List.replicate (l.length:Int).toNat (0:Int);((0:Int)<=(l.length:Int)/\(l.length:Int)<=(l.length:Int)/\oN (l.length:Int).toNat (8:Nat))/\[au.row (3:TypeId) Ba l]=[au.row (3:TypeId) Ba (List.take (List.length z1) (l)++List.drop (List.length (l)) z1)]/\bg.one tJ=bg.one tJ:=by
 conv=>zeta
 delta Ba tJ;have hp:l.length<=1000000:=aH;refine⟨⟨by omega,by omega,fQ.2 (by omega)⟩,?_,rfl⟩
 simp
theorem BG:aW aU.gd 107 J4:=
 eG (cx:=aU) (n:=11) (cl:=[]) (rc:=[]) aA trivial Tryz.func107 λd hd=>by
  obtain⟨l,⟨⟩⟩:=d;exact aS (λ_=>none) (ahM l hd) (by kernel_rfl)
abbrev acR:CT:={ ps:=[yM],pre:=λd=>bK d.1,res:=λd=>([],vB (dO d.1)) }
abbrev amQ(vs os:List Int) (qs:List (List Int)) (sg:List Int):Nat->Option (St->kH):=λk=>match k with
 | 4=>some λ_=>.inv { α:=Nat,slots:=λk=>[(37,.c (.v (.int .i64 k)))],res:=λ_=>[],inv:=λk=>k<=vs.length/\∀j < k,∀v,vs[j]?=some v->dh v=true,meas:=λk=>vs.length - k }
 | 10=>some λ_=>.inv { α:=Nat,slots:=λk=>[(51,.c (.v (.int .i64 k)))],res:=λ_=>[],inv:=λk=>k<=os.length/\∀j < k,∀v,os[j]?=some v->-1<=v,meas:=λk=>os.length - k }
 | 17=>some λ_=>.inv { α:=Nat,drop:=[60],slots:=λk=>[(64,.c (.v (.int .i64 k))),(7,.c (.row 1))],res:=λk=>[(1,.row 3 (.int .i64) (sg++(qs.take k).flatten))],inv:=λk=>k<=qs.length,meas:=λk=>qs.length - k }
 | 22=>some λ_=>.inv { α:=Nat,wH:=[1],slots:=λk=>[(74,.c (.v (.int .i64 k)))],res:=λ_=>[],inv:=λk=>k<=(sg++qs.flatten).length/\(∀j < k,∀v,(sg++qs.flatten)[j]?=some v->0<=v)/\((sg++qs.flatten).take k).Nodup,meas:=λk=>(sg++qs.flatten).length - k }
 | _=>none
theorem ahN(vs os:List Int) (qs:List (List Int)) (sg:List Int) (aH:acR.pre ((vs,os,qs,sg,()),())):
 let z13:=dO (vs,os,qs,sg,());let z10:=qB z13 false;let z3:=λ(x:Nat)=>(x<=vs.length/\∀(j:Nat),j < x->∀(v:Int),vs[j]?=some v->dh v=true);let z12:=λ(x:Nat)=>cI 0=cI (x:Int)/\True;let z8:=[SC.sl I6 vs,SC.sl I6 os,SC.sl I6.sl qs,SC.sl I6 sg];let z7:=[g0 (au.blk 34 z8)];let zx:=λ(x:Nat)=>(x:Int)+(1:Int);let z9:=λ(x x':Nat)=>cI (zx x)=cI (x':Int)/\True;let z5:=λ(x:Nat)=>(x<=os.length/\∀(j:Nat),j < x->∀(v:Int),os[j]?=some v->(-1)<=v);let z11:=λ(x:Nat)=>sg++(List.take x qs).flatten;let z2:=λ(x:Nat)=>[g0 (au.blk 34 z8),g0 (au.row 3 I6 (z11 x))];let oH:=sg++qs.flatten;let z6:=λ(x_1:Nat)=>(∀(j:Nat),j < x_1->∀(v:Int),oH[j]?=some v->0<=v);let z1:=λ(x:Nat)=>x<=oH.length/\(z6 x)/\(List.take x oH).Nodup;let z4:=[g0 (au.blk 34 z8),g0 au.gone];((!(decide (8 < (vs.length:Int)) || decide (4 < (os.length:Int)) || decide (4 < (qs.length:Int))))=true->sg.length<=1000000)/\br (decide (8 < (vs.length:Int)) || decide (4 < (os.length:Int)) || decide (4 < (qs.length:Int)) || !rH sg) z10 ((∃x,(z3 x)/\(z12 x)/\sm z7)/\∀(x:Nat),(z3 x)->br (decide ((x:Int) < (vs.length:Int))) ((0<=(x:Int)/\(x:Int) < (vs.length:Int))/\∀(d:Int),vs[(x:Int).toNat]?=some d->br (decide (d < (-2147483648)) || decide (2147483647 < d)) z10 (dX IntKind.i64 (zx x)/\∃x',(z3 x')/\(z9 x x')/\sm z7/\vs.length - x' < vs.length - x)) ((∃x,(z5 x)/\(z12 x)/\sm z7)/\∀(x:Nat),(z5 x)->br (decide ((x:Int) < (os.length:Int))) ((0<=(x:Int)/\(x:Int) < (os.length:Int))/\∀(d:Int),os[(x:Int).toNat]?=some d->br (decide (d < (-1))) z10 (dX IntKind.i64 (zx x)/\∃x',(z5 x')/\(z9 x x')/\sm z7/\os.length - x' < os.length - x)) (sg.length<=1000000/\(∃x,x<=qs.length/\(cI 0=cI (x:Int)/\SV.c (SC.row 1)=SV.c (SC.row 1)/\True)/\[g0 (au.blk 34 z8),g0 (au.row 3 I6 sg)]=(z2 x))/\∀(x:Nat),x<=qs.length->br (decide ((x:Int) < (qs.length:Int))) ((0<=(x:Int)/\(x:Int) < (qs.length:Int))/\∀(d:List Int),qs[(x:Int).toNat]?=some d->oN (List.length ((z11 x))+List.length (d)) 8/\dX IntKind.i64 (zx x)/\∃x',x'<=qs.length/\(cI (zx x)=cI (x':Int)/\SV.c (SC.row 1)=SV.c (SC.row 1)/\True)/\[g0 (au.blk 34 z8),g0 (au.row 3 I6 ((z11 x)++d))]=(z2 x')/\qs.length - x' < qs.length - x) ((∃x,(z1 x)/\(z12 x)/\sm z4)/\∀(x_1:Nat),x_1<=oH.length/\(z6 x_1)/\(List.take x_1 oH).Nodup->br (decide ((x_1:Int) < (↑(z11 x).length:Int))) ((0<=(x_1:Int)/\(x_1:Int) < (↑(z11 x).length:Int))/\∀(d:Int),(z11 x)[(x_1:Int).toNat]?=some d->((!decide (d < 0))=true->(0:Int)<=(0:Int)/\0<=(x_1:Int)/\(x_1:Int)<=(↑(z11 x).length:Int))/\((!decide (d < 0))=true->(List.drop 0 (List.take (x_1:Int).toNat (z11 x))).length<=4611686018427387904)/\br (decide (d < 0) || gq (List.drop 0 (List.take (x_1:Int).toNat (z11 x))) d) z10 (dX IntKind.i64 (zx x_1)/\∃x',(z1 x')/\(z9 x_1 x')/\sm z4/\oH.length - x' < oH.length - x_1)) (qB z13 true))))):=by
 conv=>zeta
 delta cI g0 qB sm I6;obtain⟨b1,b2,b3,b4,b5,b6⟩:vs.length<=1000/\os.length<=1000/\qs.length<=1000/\sg.length<=1000/\(∀q∈qs,q.length<=1000)/\qs.flatten.length<=100000:=aH;have fF:¬Ph (vs,os,qs,sg,())->([]:List Go.mQ.au)=[]/\bg.one (SV.c (SC.v (Value.bool (dO (vs,os,qs,sg,())))))=bg.one (SV.c (SC.v (Value.bool false))):=λq=>⟨rfl,by rw[Pj q]⟩
 refine⟨λ_=>by omega,ah.2 ⟨λh=>fF λq=>?_,λh=>?_⟩⟩
 .obtain⟨q1,q2,q3,q4,_⟩:=q;rw[Ic.2 q4]at h;simp at h;omega
 simp only[oI,zG,gG]at h;obtain⟨⟨⟨h1,h2⟩,h3⟩,h4⟩:=h;have h4:SS sg:=Ic.1 h4;refine⟨⟨0,⟨by omega,λj hj=>by omega⟩,⟨rfl,trivial⟩,rfl⟩,λk hk=>ah.2 ⟨λg=>?_,λg=>?_⟩⟩
 .simp only[dV]at g;refine⟨⟨by omega,by omega⟩,λd hd=>ah.2 ⟨λg2=>fF λq=>?_,λg2=>⟨ay.2 (by omega),k+1,⟨by omega,λj hj v hv=>?_⟩,⟨rfl,trivial⟩,rfl,by omega⟩⟩⟩
  .have:=nR.1 (q.2.2.2.2.1 d (iJ hd));simp at g2;omega
  .by_cases ji:j=k
   .subst ji;have hd:vs[j]?=some d:=hd;rw[hd]at hv;cases hv;rw[nR];simp at g2;omega
   .exact hk.2 j (by omega) v hv
 simp only[gG]at g;have v1:∀v∈vs,dh v=true:=λv hv=>by
  obtain⟨j,hj⟩:=II hv;exact hk.2 j (by have:=(eU.1 hj).1;omega) v hj
 refine⟨⟨0,⟨by omega,λj hj=>by omega⟩,⟨rfl,trivial⟩,rfl⟩,λk2 hk2=>ah.2 ⟨λg=>?_,λg=>?_⟩⟩
 .simp only[dV]at g;refine⟨⟨by omega,by omega⟩,λd hd=>ah.2 ⟨λg2=>fF λq=>?_,λg2=>⟨ay.2 (by omega),k2+1,⟨by omega,λj hj v hv=>?_⟩,⟨rfl,trivial⟩,rfl,by omega⟩⟩⟩
  .have:=q.2.2.2.2.2.1 d (iJ hd);simp at g2;omega
  .by_cases ji:j=k2
   .subst ji;have hd:os[j]?=some d:=hd;rw[hd]at hv;cases hv;simp at g2;omega
   .exact hk2.2 j (by omega) v hv
 simp only[gG]at g;have v2:∀v∈os,-1<=v:=λv hv=>by
  obtain⟨j,hj⟩:=II hv;exact hk2.2 j (by have:=(eU.1 hj).1;omega) v hj
 refine⟨by omega,⟨0,by omega,⟨rfl,rfl,trivial⟩,by simp⟩,λk3 hk3=>ah.2 ⟨λg=>?_,λg=>?_⟩⟩
 .simp only[dV]at g;refine⟨⟨by omega,by omega⟩,λd hd=>⟨fQ.2 ?_,ay.2 (by omega),k3+1,by omega,⟨rfl,rfl,trivial⟩,?_,by omega⟩⟩
  .have:=XL qs k3;have:=b5 d (iJ hd);rw[kZ];omega
  .have hd:qs[k3]?=some d:=hd;rw[XM hd,DJ]
 simp only[gG]at g;have ek:qs.take k3=qs:=zF (by omega)
 rw[ek];have bl:(sg++qs.flatten).length<=101000:=by rw[kZ];omega
 refine⟨⟨0,⟨by omega,λj hj=>by omega,by simp⟩,⟨rfl,trivial⟩,rfl⟩,λk4 hk4=>ah.2 ⟨λg=>?_,λg=>?_⟩⟩
 .simp only[dV]at g;refine⟨⟨by omega,by omega⟩,λd hd=>⟨λ_=>⟨by omega,by omega,by omega⟩,λ_=>by simp only[Tn,mD];omega,ah.2 ⟨λg2=>fF λq=>?_,λg2=>⟨ay.2 (by omega),k4+1,⟨by omega,λj hj v hv=>?_,?_⟩,⟨rfl,trivial⟩,rfl,by omega⟩⟩⟩⟩
  .have hd:(sg++qs.flatten)[k4]?=some d:=hd;have n0:=q.2.2.2.2.2.2.1 d (iJ hd);have n1:=acQ q.2.2.2.2.2.2.2 hd;have n2:gq ((sg++qs.flatten).take k4) d=false:=pW.2 n1;rw[Tn,show((k4:Int)).toNat=k4 from rfl,n2]at g2
   simp at g2;omega
  all_goals
   rw[Tn,show((k4:Int)).toNat=k4 from rfl,oI,gG]at g2
   have hd:(sg++qs.flatten)[k4]?=some d:=hd
  .by_cases ji:j=k4
   .subst ji;rw[hd]at hv;cases hv;omega
   .exact hk4.2.1 j (by omega) v hv
  .exact SG hk4.2.2 hd (pW.1 g2.2)
 simp only[gG]at g;refine⟨rfl,?_⟩;rw[dU.2];refine⟨by omega,by omega,by omega,h4,v1,v2,λx hx=>?_,?_⟩
 .obtain⟨j,hj⟩:=II hx;exact hk4.2.1 j (by have:=(eU.1 hj).1;omega) x hj
 .have:=hk4.2.2
  rwa [zF (by omega)]at this
theorem Ie:aW aU.gd 157 acR:=
 eG (cx:=aU) (n:=89) (cl:=[(107,J4),(192,ctV),(98,Ho)]) (rc:=[]) aA ⟨BG,O5,Bc,trivial⟩ Tryz.func157 λd hd=>by
  obtain⟨⟨vs,os,qs,sg,⟨⟩⟩,⟨⟩⟩:=d;exact aS (amQ vs os qs sg) (ahN vs os qs sg hd) (by kernel_rfl)
abbrev qg:CT:={ ps:=[.sl (.int .i64),.sl (.int .i64)],pre:=λd=>d.1.length<=1000000,res:=λd=>([],vB (decide (d.1=d.2.1))) }
abbrev apW(l m:List Int):Nat->Option (St->kH):=λk=>match k with
 | 4=>some λ_=>.inv { α:=Nat,slots:=λk=>[(5,.c (.v (.int .i64 k)))],res:=λk=>[],inv:=λk=>k<=(l).length/\∀j < k,l[j]?=m[j]?,meas:=λk=>(l).length - k }
 | _=>none
theorem amR(l m:List Int) (aH:qg.pre (l,m,())):
 let z2:=qB (decide (l=m)) false;let z1:=λ(x:Nat)=>(x<=l.length/\∀(j:Nat),j < x->l[j]?=m[j]?);br (!decide ((l.length:Int)=(m.length:Int))) z2 ((∃x,(z1 x)/\(cI 0=cI (x:Int)/\True)/\([]:List fH)=[])/\∀(x:Nat),(z1 x)->br (decide ((x:Int) < (l.length:Int))) ((0<=(x:Int)/\(x:Int) < (l.length:Int))/\∀(d:Int),l[(x:Int).toNat]?=some d->(0<=(x:Int)/\(x:Int) < (m.length:Int))/\∀(dJ:Int),m[(x:Int).toNat]?=some dJ->br (!decide (d=dJ)) z2 (dX IntKind.i64 ((x:Int)+(1:Int))/\∃x',(z1 x')/\(cI ((x:Int)+(1:Int))=cI (x':Int)/\True)/\([]:List fH)=[]/\l.length - x' < l.length - x)) (qB (decide (l=m)) true)):=by
 conv=>zeta
 delta fH cI qB;have hp:l.length<=1000000:=aH;have fF:l≠m->([]:List Go.mQ.au)=[]/\bg.one (SV.c (SC.v (Value.bool (decide (l=m)))))=bg.one (SV.c (SC.v (Value.bool false))):=λq=>⟨rfl,by rw[BP q]⟩
 refine ah.2 ⟨λh=>fF λq=>?_,λh=>?_⟩
 .subst q;simp at h
 simp only[zG,dV]at h;refine⟨⟨0,⟨by omega,λj hj=>by omega⟩,⟨rfl,trivial⟩,rfl⟩,λk hk=>ah.2 ⟨λg=>?_,λg=>?_⟩⟩
 .simp only[dV]at g;refine⟨⟨by omega,by omega⟩,λd hd=>⟨⟨by omega,by omega⟩,λd1 hd1=>ah.2 ⟨λg2=>fF λq=>?_,λg2=>⟨ay.2 (by omega),k+1,⟨by omega,λj hj=>?_⟩,⟨rfl,trivial⟩,rfl,by omega⟩⟩⟩⟩
  .subst q;rw[hd]at hd1;cases hd1;simp at g2
  .by_cases ji:j=k
   .subst ji;have hd:l[j]?=some d:=hd;have hd1:m[j]?=some d1:=hd1;simp at g2;rw[hd,hd1,g2]
   .exact hk.2 j (by omega)
 simp only[gG]at g;have e:l=m:=by
  apply Ed;intro j
  by_cases hj:j < k
  .exact hk.2 j hj
  .rw[wY (by omega),wY (by omega)]
 exact⟨rfl,by rw[Na e]⟩
theorem ahO:aW aU.gd 83 qg:=
 eG (cx:=aU) (n:=26) (cl:=[]) (rc:=[]) aA trivial Tryz.func83 λd hd=>by
  obtain⟨l,m,⟨⟩⟩:=d;exact aS (apW l m) (amR l m hd) (by kernel_rfl)
abbrev Dq:CT:={ ps:=[yM,yM],pre:=λd=>bK d.1,res:=λd=>([],vB (decide (d.1=d.2.1))) }
abbrev apX(vs os:List Int) (qs:List (List Int)) (sg vs2 os2:List Int) (EW:List (List Int)) (sg2:List Int):Nat->Option (St->kH):=λk=>match k with
 | 4=>some λ_=>.inv { α:=Nat,slots:=λk=>[(5,.c (.v (.int .i64 k)))],res:=λ_=>[],inv:=λk=>k<=qs.length/\∀j < k,qs[j]?=EW[j]?,meas:=λk=>qs.length - k }
 | _=>none
theorem amS(vs os:List Int) (qs:List (List Int)) (sg vs2 os2:List Int) (EW:List (List Int)) (sg2:List Int) (aH:Dq.pre ((vs,os,qs,sg,()),(vs2,os2,EW,sg2,()),())):
 let z4:=decide ((vs,os,qs,sg,())=(vs2,os2,EW,sg2,()));let z2:=qB z4 false;let z3:=λ(x:Nat)=>(x<=qs.length/\∀(j:Nat),j < x->qs[j]?=EW[j]?);let z1:=[g0 (au.blk 34 [SC.sl I6 vs,SC.sl I6 os,SC.sl I6.sl qs,SC.sl I6 sg]),g0 (au.blk 34 [SC.sl I6 vs2,SC.sl I6 os2,SC.sl I6.sl EW,SC.sl I6 sg2])];vs.length<=1000000/\((!!decide (vs=vs2))=true->os.length<=1000000)/\((!(!decide (vs=vs2) || !decide (os=os2)))=true->sg.length<=1000000)/\br (!decide (vs=vs2) || !decide (os=os2) || !decide (sg=sg2) || !decide ((qs.length:Int)=(EW.length:Int))) z2 ((∃x,(z3 x)/\(cI 0=cI (x:Int)/\True)/\sm z1)/\∀(x:Nat),(z3 x)->br (decide ((x:Int) < (qs.length:Int))) ((0<=(x:Int)/\(x:Int) < (qs.length:Int))/\∀(d:List Int),qs[(x:Int).toNat]?=some d->(0<=(x:Int)/\(x:Int) < (EW.length:Int))/\∀(dJ:List Int),EW[(x:Int).toNat]?=some dJ->d.length<=1000000/\br (!decide (d=dJ)) z2 (dX IntKind.i64 ((x:Int)+(1:Int))/\∃x',(z3 x')/\(cI ((x:Int)+(1:Int))=cI (x':Int)/\True)/\sm z1/\qs.length - x' < qs.length - x)) (qB z4 true)):=by
 conv=>zeta
 delta cI g0 qB sm I6;obtain⟨b1,b2,b3,b4,b5,b6⟩:vs.length<=1000/\os.length<=1000/\qs.length<=1000/\sg.length<=1000/\(∀q∈qs,q.length<=1000)/\qs.flatten.length<=100000:=aH;have fF:(vs,os,qs,sg,())≠(vs2,os2,EW,sg2,())->([]:List Go.mQ.au)=[]/\bg.one (SV.c (SC.v (Value.bool (decide ((vs,os,qs,sg,())=(vs2,os2,EW,sg2,()))))))=bg.one (SV.c (SC.v (Value.bool false))):=λq=>⟨rfl,by rw[BP q]⟩
 refine⟨by omega,λ_=>by omega,λ_=>by omega,ah.2 ⟨λh=>fF λq=>?_,λh=>?_⟩⟩
 .cases q;simp at h
 simp only[oI,zG,dV]at h;obtain⟨⟨⟨rfl,rfl⟩,rfl⟩,h⟩:=h;refine⟨⟨0,⟨by omega,λj hj=>by omega⟩,⟨rfl,trivial⟩,rfl⟩,λk hk=>ah.2 ⟨λg=>?_,λg=>?_⟩⟩
 .simp only[dV]at g;refine⟨⟨by omega,by omega⟩,λd hd=>⟨⟨by omega,by omega⟩,λd1 hd1=>⟨?_,ah.2 ⟨λg2=>fF λq=>?_,λg2=>⟨ay.2 (by omega),k+1,⟨by omega,λj hj=>?_⟩,⟨rfl,trivial⟩,rfl,by omega⟩⟩⟩⟩⟩
  .have:=b5 d (iJ hd);omega
  .cases q;rw[hd]at hd1;cases hd1;simp at g2
  .by_cases ji:j=k
   .subst ji;have hd:qs[j]?=some d:=hd;have hd1:EW[j]?=some d1:=hd1;simp at g2;rw[hd,hd1,g2]
   .exact hk.2 j (by omega)
 simp only[gG]at g;have e:qs=EW:=by
  apply Ed;intro j
  by_cases hj:j < k
  .exact hk.2 j hj
  .rw[wY (by omega),wY (by omega)]
 subst e;exact⟨rfl,by rw[Na rfl]⟩
theorem ahP:aW aU.gd 37 Dq:=
 eG (cx:=aU) (n:=56) (cl:=[(83,qg)]) (rc:=[]) aA ⟨ahO,trivial⟩ Tryz.func37 λd hd=>by
  obtain⟨⟨vs,os,qs,sg,⟨⟩⟩,⟨vs2,os2,EW,sg2,⟨⟩⟩,⟨⟩⟩:=d;exact aS (apX vs os qs sg vs2 os2 EW sg2) (amS vs os qs sg vs2 os2 EW sg2 hd) (by kernel_rfl)
theorem SI(k:Nat):vF (λj=>decide (j < k)) k=λj=>decide (j < k+1):=by
 funext j;unfold vF
 by_cases h:j=k
 .subst h;simp
 .simp[h];omega
theorem Pm{d:List Int} (h:qs[k]?=some d):(qs.take k++List.replicate (qs.length - k) []).set k d=qs.take (k+1)++List.replicate (qs.length - (k+1)) []:=by
 obtain⟨hk,_⟩:=eU.1 h;rw[aeO _ _ (by rw[mD];omega),mD,show k - min k qs.length=0 by omega,show qs.length - k=(qs.length - (k+1))+1 by omega,Yv,Yw,Tf,h]
 simp
theorem BH(h:k<=qs.length):(qs.take k++List.replicate (qs.length - k) []).length=qs.length:=by simp;omega
theorem Pn(h:¬k < qs.length) (h':k<=qs.length):qs.take k++List.replicate (qs.length - k) []=qs:=by
 have:k=qs.length:=by omega
 subst this;simp
theorem SK:Jy=λj=>decide (j < 0):=by funext j;simp
abbrev acS:CT:={ ps:=[yM],pre:=λd=>bK d.1,res:=λd=>([.row 3 (.int .i64) (d.1.1),.row 3 (.int .i64) (d.1.2.1),.deep 31 (.sl (.int .i64)) (d.1.2.2.1) 3 (.int .i64) 0 (λj=>decide (j < d.1.2.2.1.length)) [],.row 3 (.int .i64) (d.1.2.2.2.1)],.one (.agg [(.row 0),(.row 1),(.row 2),(.row 3)])) }
abbrev apY(vs os:List Int) (qs:List (List Int)) (sg:List Int):Nat->Option (St->kH):=λk=>match k with
 | 2=>some λ_=>.cut { α:=Nat,pad:=5,can:=[(2,.slot 3),(3,.cell 2 0),(4,.cell 2 1),(5,.cell 2 2),(6,.cell 2 3)],slots:=λ_=>[(3,.c (.own 2 0))],res:=λ_=>[(2,.blk 34 [.row 3,.row 4,.row 5,.row 6]),(3,.row 3 (.int .i64) (vs)),(4,.row 3 (.int .i64) (os)),(5,.row 31 (.sl (.int .i64)) (List.replicate qs.length [])),(6,.row 3 (.int .i64) (sg))],inv:=λu=>u=0,meas:=λ_=>0 }
 | 3=>some λ_=>.inv { α:=Nat,deep:=[(5,3,.int .i64,0)],slots:=λk=>[(23,.c (.v (.int .i64 k)))],res:=λk=>[(5,.deep 31 (.sl (.int .i64)) (qs.take k++List.replicate (qs.length - k) []) 3 (.int .i64) 0 (λj=>decide (j < k)) [])],inv:=λk=>k<=qs.length,meas:=λk=>qs.length - k }
 | _=>none
abbrev D8:=[SC.v (Value.slice none 0 0),SC.v (Value.slice none 0 0),SC.v (Value.slice none 0 0),SC.v (Value.slice none 0 0)]
abbrev kq9:=[SC.row 3,SC.row 4,SC.row 5,SC.row 6]
abbrev wS:Prop:=SV.c (SC.own 2 0)=SV.c (SC.own 2 0)/\True
theorem amT(vs os:List Int) (qs:List (List Int)) (sg:List Int) (aH:acS.pre ((vs,os,qs,sg,()),())):
 let z9:=0<=(qs.length:Int)/\(qs.length:Int)<=(qs.length:Int)/\oN (qs.length:Int).toNat 24;let z10:=[SC.sl I6 vs,SC.sl I6 os,SC.sl I6.sl qs,SC.sl I6 sg];let z7:=[g0 (au.blk 34 z10),g0 (au.blk 34 D8),g0 (au.blk 34 kq9),g0 (au.row 3 I6 vs),g0 (au.row 3 I6 os),g0 (au.row 31 I6.sl (List.replicate (qs.length:Int).toNat [])),g0 (au.row 3 I6 sg)];let z12:=List.replicate qs.length [];let z8:=[g0 (au.blk 34 z10),g0 (au.blk 34 D8),g0 (au.blk 34 kq9),g0 (au.row 3 I6 vs),g0 (au.row 3 I6 os),g0 (au.row 31 I6.sl z12),g0 (au.row 3 I6 sg)];let z5:=(∃v,v=0/\wS/\z7=z8);let z3:=(sg.length<=1000000/\z5/\∃v,v=0/\wS/\z7=z8);let z4:=(z9/\sg.length<=1000000/\∃v,v=0/\wS/\z7=z8);let z1:=(os.length<=1000000/\z3/\sg.length<=1000000/\∃v,v=0/\wS/\z7=z8);let z2:=(os.length<=1000000/\z4/\sg.length<=1000000/\z9/\∃v,v=0/\wS/\z7=z8);let z11:=λ(x:Nat)=>List.take x qs++List.replicate (qs.length - x) [];let z6:=λ(x:Nat)=>[g0 (au.blk 34 z10),g0 (au.blk 34 D8),g0 (au.blk 34 kq9),g0 (au.row 3 I6 vs),g0 (au.row 3 I6 os),g0 (au.deep 31 I6.sl (z11 x) 3 I6 0 (λj=>decide (j < x)) []),g0 (au.row 3 I6 sg)];((vs.length<=1000000/\(os.length<=1000000/\(z9/\z3/\sg.length<=1000000/\∃v,v=0/\wS/\z7=z8)/\(sg.length<=1000000/\(z9/\z5/\∃v,v=0/\wS/\z7=z8)/\z9/\∃v,v=0/\wS/\z7=z8)/\z4/\sg.length<=1000000/\z9/\∃v,v=0/\wS/\z7=z8)/\(z9/\z1/\os.length<=1000000/\sg.length<=1000000/\∃v,v=0/\wS/\z7=z8)/\z2/\z9/\os.length<=1000000/\sg.length<=1000000/\∃v,v=0/\wS/\z7=z8)/\(z9/\(vs.length<=1000000/\z1/\os.length<=1000000/\sg.length<=1000000/\∃v,v=0/\wS/\z7=z8)/\vs.length<=1000000/\os.length<=1000000/\sg.length<=1000000/\∃v,v=0/\wS/\z7=z8)/\(vs.length<=1000000/\z2/\z9/\os.length<=1000000/\sg.length<=1000000/\∃v,v=0/\wS/\z7=z8)/\z9/\vs.length<=1000000/\os.length<=1000000/\sg.length<=1000000/\∃v,v=0/\wS/\z7=z8)/\∀(v:Nat),v=0->(∃x,x<=qs.length/\(cI 0=cI (x:Int)/\True)/\[g0 (au.blk 34 z10),g0 (au.blk 34 D8),g0 (au.blk 34 kq9),g0 (au.row 3 I6 vs),g0 (au.row 3 I6 os),g0 (au.deep 31 I6.sl z12 3 I6 0 Jy []),g0 (au.row 3 I6 sg)]=(z6 x))/\∀(x:Nat),x<=qs.length->br (decide ((x:Int) < (qs.length:Int))) ((0<=(x:Int)/\(x:Int) < (qs.length:Int))/\∀(d:List Int),qs[(x:Int).toNat]?=some d->d.length<=1000000/\(0<=(x:Int)/\(x:Int) < (↑(z11 x).length:Int))/\(x:Int).toNat < (z11 x).length/\∀(e0:List Int),(z11 x)[(x:Int).toNat]?=some e0->dX IntKind.i64 ((x:Int)+(1:Int))/\∃x',x'<=qs.length/\(cI ((x:Int)+(1:Int))=cI (x':Int)/\True)/\[g0 (au.blk 34 z10),g0 (au.blk 34 D8),g0 (au.blk 34 kq9),g0 (au.row 3 I6 vs),g0 (au.row 3 I6 os),g0 (au.deep 31 I6.sl ((z11 x).set (x:Int).toNat (d)) 3 I6 0 (vF (λj=>decide (j < x)) (x:Int).toNat) []),g0 (au.row 3 I6 sg)]=(z6 x')/\qs.length - x' < qs.length - x) ([au.row 3 I6 vs,au.row 3 I6 os,au.deep 31 I6.sl qs 3 I6 0 (λj=>decide (j < List.length (vs,os,qs,sg,()).snd.snd.fst)) [],au.row 3 I6 sg]=[au.row 3 I6 vs,au.row 3 I6 os,au.deep 31 I6.sl (z11 x) 3 I6 0 (λj=>decide (j < x)) [],au.row 3 I6 sg]/\bg.one (SV.agg [SC.row 0,SC.row 1,SC.row 2,SC.row 3])=bg.one (SV.agg [SC.row 0,SC.row (Nat.succ 0),SC.row (Nat.succ 0).succ,SC.row (Nat.succ 0).succ.succ])):=by
 conv=>zeta
 delta D8 kq9 wS cI g0 I6;obtain⟨b1,b2,b3,b4,b5,b6⟩:vs.length<=1000/\os.length<=1000/\qs.length<=1000/\sg.length<=1000/\(∀q∈qs,q.length<=1000)/\qs.flatten.length<=100000:=aH;refine⟨?_,λu hu=>⟨⟨0,by omega,⟨rfl,trivial⟩,?_⟩,λk hk=>ah.2 ⟨λg=>?_,λg=>?_⟩⟩⟩
 .have hA:oN (qs.length:Int).toNat 24:=fQ.2 (by omega)
  repeat' first | exact⟨0,rfl,⟨rfl,trivial⟩,rfl⟩ | (refine And.intro ?_ ?_) | omega | exact hA
 .rw[SK];simp
 .simp only[dV]at g;refine⟨⟨by omega,by omega⟩,λd hd=>⟨?_,⟨by omega,?_⟩,?_,λe0 he=>⟨ay.2 (by omega),k+1,by omega,⟨rfl,trivial⟩,?_,by omega⟩⟩⟩
  .have:=b5 d (iJ hd);omega
  .rw[BH hk];omega
  .rw[BH hk];show k < _;omega
  .have hd:qs[k]?=some d:=hd;have e1:(qs.take k++List.replicate (qs.length - k) []).set (k:Int).toNat d=qs.take (k+1)++List.replicate (qs.length - (k+1)) []:=Pm hd;have e2:vF (λj=>decide (j < k)) (k:Int).toNat=λj=>decide (j < k+1):=SI k
   rw[e2];exact oV (λz=>_ :: _ :: _ :: _ :: _ :: (([]:Go.mQ.Gd),au.deep 31 (Sh.int IntKind.i64).sl z 3 (Sh.int IntKind.i64) 0 (λj=>decide (j < k+1)) []) :: _) e1
 simp only[gG]at g;have ek:k=qs.length:=by omega
 subst ek;exact⟨by rw[Pn (by omega) hk],rfl⟩
theorem ahQ:aW aU.gd 49 acS:=
 eG (cx:=aU) (n:=36) (cl:=[(107,J4)]) (rc:=[]) aA ⟨BG,trivial⟩ Tryz.func49 λd hd=>by
  obtain⟨⟨vs,os,qs,sg,⟨⟩⟩,⟨⟩⟩:=d;exact aS (apY vs os qs sg) (amT vs os qs sg hd) (by kernel_rfl)
abbrev D9:CT:={ ps:=[yM],pre:=λd=>bK d.1,res:=λd=>([.row 3 (.int .i64) (d.1.1),.row 3 (.int .i64) (d.1.2.1),.row 31 (.sl (.int .i64)) (d.1.2.2.1),.row 3 (.int .i64) (d.1.2.2.2.1)],.one (.agg [(.row 0),(.row 1),(.row 2),(.row 3)])) }
abbrev amU(vs os:List Int) (qs:List (List Int)) (sg:List Int):Nat->Option (St->kH):=λk=>match k with
 | 2=>some λ_=>.cut { α:=Nat,pad:=5,can:=[(2,.slot 3),(3,.cell 2 0),(4,.cell 2 1),(5,.cell 2 2),(6,.cell 2 3)],slots:=λ_=>[(3,.c (.own 2 0))],res:=λ_=>[(2,.blk 34 [.row 3,.row 4,.row 5,.row 6]),(3,.row 3 (.int .i64) (vs)),(4,.row 3 (.int .i64) (os)),(5,.row 31 (.sl (.int .i64)) (List.replicate qs.length [])),(6,.row 3 (.int .i64) (sg))],inv:=λu=>u=0,meas:=λ_=>0 }
 | 3=>some λ_=>.inv { α:=Nat,slots:=λk=>[(23,.c (.v (.int .i64 k)))],res:=λk=>[(5,.row 31 (.sl (.int .i64)) (qs.take k++List.replicate (qs.length - k) []))],inv:=λk=>k<=qs.length,meas:=λk=>qs.length - k }
 | _=>none
theorem ahR(vs os:List Int) (qs:List (List Int)) (sg:List Int) (aH:D9.pre ((vs,os,qs,sg,()),())):
 let z9:=0<=(qs.length:Int)/\(qs.length:Int)<=(qs.length:Int)/\oN (qs.length:Int).toNat 24;let z10:=[SC.sl I6 vs,SC.sl I6 os,SC.sl I6.sl qs,SC.sl I6 sg];let z7:=[g0 (au.blk 34 z10),g0 (au.blk 34 D8),g0 (au.blk 34 kq9),g0 (au.row 3 I6 vs),g0 (au.row 3 I6 os),g0 (au.row 31 I6.sl (List.replicate (qs.length:Int).toNat [])),g0 (au.row 3 I6 sg)];let z8:=[g0 (au.blk 34 z10),g0 (au.blk 34 D8),g0 (au.blk 34 kq9),g0 (au.row 3 I6 vs),g0 (au.row 3 I6 os),g0 (au.row 31 I6.sl (List.replicate qs.length [])),g0 (au.row 3 I6 sg)];let z5:=(∃v,v=0/\wS/\z7=z8);let z3:=(sg.length<=1000000/\z5/\∃v,v=0/\wS/\z7=z8);let z4:=(z9/\sg.length<=1000000/\∃v,v=0/\wS/\z7=z8);let z1:=(os.length<=1000000/\z3/\sg.length<=1000000/\∃v,v=0/\wS/\z7=z8);let z2:=(os.length<=1000000/\z4/\sg.length<=1000000/\z9/\∃v,v=0/\wS/\z7=z8);let z11:=λ(x:Nat)=>List.take x qs++List.replicate (qs.length - x) [];let z6:=λ(x:Nat)=>[g0 (au.blk 34 z10),g0 (au.blk 34 D8),g0 (au.blk 34 kq9),g0 (au.row 3 I6 vs),g0 (au.row 3 I6 os),g0 (au.row 31 I6.sl (z11 x)),g0 (au.row 3 I6 sg)];((vs.length<=1000000/\(os.length<=1000000/\(z9/\z3/\sg.length<=1000000/\∃v,v=0/\wS/\z7=z8)/\(sg.length<=1000000/\(z9/\z5/\∃v,v=0/\wS/\z7=z8)/\z9/\∃v,v=0/\wS/\z7=z8)/\z4/\sg.length<=1000000/\z9/\∃v,v=0/\wS/\z7=z8)/\(z9/\z1/\os.length<=1000000/\sg.length<=1000000/\∃v,v=0/\wS/\z7=z8)/\z2/\z9/\os.length<=1000000/\sg.length<=1000000/\∃v,v=0/\wS/\z7=z8)/\(z9/\(vs.length<=1000000/\z1/\os.length<=1000000/\sg.length<=1000000/\∃v,v=0/\wS/\z7=z8)/\vs.length<=1000000/\os.length<=1000000/\sg.length<=1000000/\∃v,v=0/\wS/\z7=z8)/\(vs.length<=1000000/\z2/\z9/\os.length<=1000000/\sg.length<=1000000/\∃v,v=0/\wS/\z7=z8)/\z9/\vs.length<=1000000/\os.length<=1000000/\sg.length<=1000000/\∃v,v=0/\wS/\z7=z8)/\∀(v:Nat),v=0->(∃x,x<=qs.length/\(cI 0=cI (x:Int)/\True)/\z8=(z6 x))/\∀(x:Nat),x<=qs.length->br (decide ((x:Int) < (qs.length:Int))) ((0<=(x:Int)/\(x:Int) < (qs.length:Int))/\∀(d:List Int),qs[(x:Int).toNat]?=some d->d.length<=1000000/\(0<=(x:Int)/\(x:Int) < (↑(z11 x).length:Int))/\(x:Int).toNat < (z11 x).length/\dX IntKind.i64 ((x:Int)+(1:Int))/\∃x',x'<=qs.length/\(cI ((x:Int)+(1:Int))=cI (x':Int)/\True)/\[g0 (au.blk 34 z10),g0 (au.blk 34 D8),g0 (au.blk 34 kq9),g0 (au.row 3 I6 vs),g0 (au.row 3 I6 os),g0 (au.row 31 I6.sl ((z11 x).set (x:Int).toNat (d))),g0 (au.row 3 I6 sg)]=(z6 x')/\qs.length - x' < qs.length - x) ([au.row 3 I6 vs,au.row 3 I6 os,au.row 31 I6.sl qs,au.row 3 I6 sg]=[au.row 3 I6 vs,au.row 3 I6 os,au.row 31 I6.sl (z11 x),au.row 3 I6 sg]/\bg.one (SV.agg [SC.row 0,SC.row 1,SC.row 2,SC.row 3])=bg.one (SV.agg [SC.row 0,SC.row (Nat.succ 0),SC.row (Nat.succ 0).succ,SC.row (Nat.succ 0).succ.succ])):=by
 conv=>zeta
 delta D8 kq9 wS cI g0 I6;obtain⟨b1,b2,b3,b4,b5,b6⟩:vs.length<=1000/\os.length<=1000/\qs.length<=1000/\sg.length<=1000/\(∀q∈qs,q.length<=1000)/\qs.flatten.length<=100000:=aH;refine⟨?_,λu hu=>⟨⟨0,by omega,⟨rfl,trivial⟩,?_⟩,λk hk=>ah.2 ⟨λg=>?_,λg=>?_⟩⟩⟩
 .have hA:oN (qs.length:Int).toNat 24:=fQ.2 (by omega)
  repeat' first | exact⟨0,rfl,⟨rfl,trivial⟩,rfl⟩ | (refine And.intro ?_ ?_) | omega | exact hA
 .simp
 .simp only[dV]at g;refine⟨⟨by omega,by omega⟩,λd hd=>⟨?_,⟨by omega,?_⟩,?_,⟨ay.2 (by omega),k+1,by omega,⟨rfl,trivial⟩,?_,by omega⟩⟩⟩
  .have:=b5 d (iJ hd);omega
  .rw[BH hk];omega
  .rw[BH hk];show k < _;omega
  .have hd:qs[k]?=some d:=hd;have e1:(qs.take k++List.replicate (qs.length - k) []).set (k:Int).toNat d=qs.take (k+1)++List.replicate (qs.length - (k+1)) []:=Pm hd;exact oV (λz=>_ :: _ :: _ :: _ :: _ :: (([]:Go.mQ.Gd),au.row 31 (Sh.int IntKind.i64).sl z) :: _) e1
 simp only[gG]at g;have ek:k=qs.length:=by omega
 subst ek;exact⟨by rw[Pn (by omega) hk],rfl⟩
theorem tV:aW aU.gd 49 D9:=
 eG (cx:=aU) (n:=36) (cl:=[(107,J4)]) (rc:=[]) aA ⟨BG,trivial⟩ Tryz.func49 λd hd=>by
  obtain⟨⟨vs,os,qs,sg,⟨⟩⟩,⟨⟩⟩:=d;exact⟨amU vs os qs sg,cast (by kernel_rfl) (ahR vs os qs sg hd)⟩
def zM:MD:=([],[],[],[],())
def je(m:MD) (i n:Int):Int:=if dO m=false then 1 else if i < 0\/n<=i then 11 else 0
def yN(m:MD) (x:Int):Int×Int:=if je m x m.1.length=0 then(m.1[x.toNat]?.getD 0,0) else(0,je m x m.1.length)
def writeM(m:MD) (x v:Int):MD×Int:=if je m x m.1.length=0 then(if dh v=true then((m.1.set x.toNat v,m.2),0) else(zM,2)) else(zM,je m x m.1.length)
def iP(m:MD) (i id frm to:Int):MD×Int:=if je m i m.2.1.length=0 then(if id < 0 then(zM,2) else if m.2.1[i.toNat]?.getD 0=frm then((m.1,m.2.1.set i.toNat to,m.2.2),0) else(zM,30)) else(zM,je m i m.2.1.length)
def l9(m:MD) (i:Int):Bool:=decide (je m i m.2.1.length=0) && decide (m.2.1[i.toNat]?.getD 0 = -1)
def kM(m:MD) (id:Int):Bool:=m.2.2.1.any (λq=>gq q id) || gq m.2.2.2.1 id
theorem dG{m:MD}{i n:Int}:je m i n=0↔dO m=true/\0<=i/\i < n:=by
 unfold je
 by_cases h:dO m=true
 .rw[if_neg (by simp[h])]
  split
  .simp[h];omega
  .simp[h];omega
 .rw[Bool.not_eq_true]at h;rw[if_pos h,h];simp
abbrev Ea:CT:={ ps:=[yM,.int .i64,.int .i64],pre:=λd=>bK d.1,res:=λd=>([],.one (.c (.v (.int .i64 (je d.1 d.2.1 d.2.2.1))))) }
theorem ahS(vs os:List Int) (qs:List (List Int)) (sg:List Int) (i n:Int) (aH:Ea.pre ((vs,os,qs,sg,()),i,n,())):
 let z2:=(vs,os,qs,sg,());let z1:=je z2 i n;bK z2/\br (!dO z2) (qI z1 (1:Int)) (br (decide (i < 0) || decide (n<=i)) (qI z1 (11:Int)) (qI z1 (0:Int))):=by
 conv=>zeta
 delta qI;unfold je;refine⟨aH,ah.2 ⟨λh=>⟨rfl,?_⟩,λh=>ah.2 ⟨λg=>⟨rfl,?_⟩,λg=>⟨rfl,?_⟩⟩⟩⟩
 .rw[if_pos (by simpa using h)]
 .rw[if_neg (by simpa using h),if_pos (by simpa using g)]
 .rw[if_neg (by simpa using h),if_neg (by simpa using g)]
theorem tX:aW aU.gd 158 Ea:=
 eG (cx:=aU) (n:=17) (cl:=[(157,acR)]) (rc:=[]) aA ⟨Ie,trivial⟩ Tryz.func158 λd hd=>by
  obtain⟨⟨vs,os,qs,sg,⟨⟩⟩,i,n,⟨⟩⟩:=d;exact aS (λ_=>none) (ahS vs os qs sg i n hd) (by kernel_rfl)
abbrev ahT:CT:={ ps:=[yM,.int .i64],pre:=λd=>bK d.1,res:=λd=>([],.iR [.c (.v (.int .i64 ((yN d.1 d.2.1).1))),.c (.v (.int .i64 ((yN d.1 d.2.1).2)))]) }
theorem amW(vs os:List Int) (qs:List (List Int)) (sg:List Int) (x:Int) (aH:ahT.pre ((vs,os,qs,sg,()),x,())):
 let z3:=(vs,os,qs,sg,());let z2:=yN z3 x;let z1:=[cI (z2.fst),cI (z2.snd)];bK z3/\br (!decide (je z3 x (vs.length:Int)=(0:Int))) (rT z1 [cI 0,cI (je z3 x (vs.length:Int))]) ((0<=x/\x < (vs.length:Int))/\∀(d:Int),vs[x.toNat]?=some d->rT z1 [cI d,cI 0]):=by
 conv=>zeta
 delta cI rT;unfold yN;refine⟨aH,ah.2 ⟨λh=>⟨rfl,?_⟩,λh=>?_⟩⟩
 .rw[if_neg (by simpa using h)]
 .have h:je (vs,os,qs,sg,()) x vs.length=0:=by simpa using h
  have hx:=dG.1 h;refine⟨hx.2,λd hd=>⟨rfl,?_⟩⟩
  rw[if_pos h];simp[hd]
theorem U7:aW aU.gd 96 ahT:=
 eG (cx:=aU) (n:=21) (cl:=[(158,Ea)]) (rc:=[]) aA ⟨tX,trivial⟩ Tryz.func96 λd hd=>by
  obtain⟨⟨vs,os,qs,sg,⟨⟩⟩,x,⟨⟩⟩:=d;exact aS (λ_=>none) (amW vs os qs sg x hd) (by kernel_rfl)
abbrev amX:CT:={ ps:=[yM,.int .i64,.int .i64],pre:=λd=>bK d.1,res:=λd=>([],.iR [.agg [.sl (.int .i64) ((writeM d.1 d.2.1 d.2.2.1).1).1,.sl (.int .i64) ((writeM d.1 d.2.1 d.2.2.1).1).2.1,.sl (.sl (.int .i64)) ((writeM d.1 d.2.1 d.2.2.1).1).2.2.1,.sl (.int .i64) ((writeM d.1 d.2.1 d.2.2.1).1).2.2.2.1],.c (.v (.int .i64 ((writeM d.1 d.2.1 d.2.2.1).2)))]) }
abbrev Yg:=[SC.sl I6 [],SC.sl I6 [],SC.sl I6.sl [],SC.sl I6 []]
abbrev kq6:=[SV.agg [SC.sl I6 [],SC.sl I6 [],SC.sl I6.sl [],SC.sl I6 []],cI 2]
theorem ahU(vs os:List Int) (qs:List (List Int)) (sg:List Int) (x v:Int) (aH:amX.pre ((vs,os,qs,sg,()),x,v,())):
 let z3:=(vs,os,qs,sg,());let z2:=writeM z3 x v;let z1:=[SV.agg [SC.sl I6 z2.fst.fst,SC.sl I6 z2.fst.snd.fst,SC.sl I6.sl z2.fst.snd.snd.fst,SC.sl I6 z2.fst.snd.snd.snd.fst],cI (z2.snd)];bK z3/\br (!decide (je z3 x (vs.length:Int)=(0:Int))) (rT z1 [SV.agg Yg,cI (je z3 x (vs.length:Int))]) (br (decide (v < (-2147483648)) || decide (2147483647 < v)) (rT z1 kq6) (bK z3/\(0<=x/\x < (vs.length:Int))/\x.toNat < vs.length/\rT z1 [SV.agg [SC.sl I6 (vs.set x.toNat v),SC.sl I6 os,SC.sl I6.sl qs,SC.sl I6 sg],cI 0])):=by
 conv=>zeta
 delta Yg kq6 cI rT I6;unfold writeM;refine⟨aH,ah.2 ⟨λh=>⟨rfl,?_⟩,λh=>?_⟩⟩
 .rw[if_neg (by simpa using h)];rfl
 .have h:je (vs,os,qs,sg,()) x vs.length=0:=by simpa using h
  have hx:=dG.1 h;rw[if_pos h];refine ah.2 ⟨λg=>⟨rfl,?_⟩,λg=>⟨aH,hx.2,by omega,rfl,?_⟩⟩
  .rw[if_neg (by rw[nR];simp at g;omega)];rfl
  .rw[if_pos (by rw[nR];simp at g;omega)]
theorem acU:aW aU.gd 100 amX:=
 eG (cx:=aU) (n:=35) (cl:=[(158,Ea),(49,D9)]) (rc:=[.data yM,.keep]) aA ⟨tX,tV,trivial⟩ Tryz.func100 λd hd=>by
  obtain⟨⟨vs,os,qs,sg,⟨⟩⟩,x,v,⟨⟩⟩:=d;exact aS (λ_=>none) (ahU vs os qs sg x v hd) (by kernel_rfl)
abbrev ahV:CT:={ ps:=[yM,.int .i64],pre:=λd=>bK d.1,res:=λd=>([],vB (l9 d.1 d.2.1)) }
theorem amY(vs os:List Int) (qs:List (List Int)) (sg:List Int) (i:Int) (aH:ahV.pre ((vs,os,qs,sg,()),i,())):
 let z2:=(vs,os,qs,sg,());let z1:=je z2 i (os.length:Int)=(0:Int);bK z2/\(decide z1=true->0<=i/\i < (os.length:Int))/\∀(d:Int),(decide z1=true->os[i.toNat]?=some d)->qB (l9 z2 i) (decide z1 && decide (d=(-1))):=by
 conv=>zeta
 delta qB;unfold l9;refine⟨aH,λh=>(dG.1 (by simpa using h)).2,λd hd=>⟨rfl,?_⟩⟩
 by_cases h:je (vs,os,qs,sg,()) i os.length=0
 .have:=hd (by simpa using h)
  simp[this]
 .simp[h]
theorem U8:aW aU.gd 87 ahV:=
 eG (cx:=aU) (n:=20) (cl:=[(158,Ea)]) (rc:=[]) aA ⟨tX,trivial⟩ Tryz.func87 λd hd=>by
  obtain⟨⟨vs,os,qs,sg,⟨⟩⟩,i,⟨⟩⟩:=d;exact aS (λ_=>none) (amY vs os qs sg i hd) (by kernel_rfl)
abbrev U9:CT:={ ps:=[yM,.int .i64,.int .i64,.int .i64,.int .i64],pre:=λd=>bK d.1,res:=λd=>([],.iR [.agg [.sl (.int .i64) ((iP d.1 d.2.1 d.2.2.1 d.2.2.2.1 d.2.2.2.2.1).1).1,.sl (.int .i64) ((iP d.1 d.2.1 d.2.2.1 d.2.2.2.1 d.2.2.2.2.1).1).2.1,.sl (.sl (.int .i64)) ((iP d.1 d.2.1 d.2.2.1 d.2.2.2.1 d.2.2.2.2.1).1).2.2.1,.sl (.int .i64) ((iP d.1 d.2.1 d.2.2.1 d.2.2.2.1 d.2.2.2.2.1).1).2.2.2.1],.c (.v (.int .i64 ((iP d.1 d.2.1 d.2.2.1 d.2.2.2.1 d.2.2.2.2.1).2)))]) }
abbrev kq5:=[SV.agg [SC.sl I6 [],SC.sl I6 [],SC.sl I6.sl [],SC.sl I6 []],cI 30]
theorem ahW(vs os:List Int) (qs:List (List Int)) (sg:List Int) (i id frm to:Int) (aH:U9.pre ((vs,os,qs,sg,()),i,id,frm,to,())):
 let z4:=(vs,os,qs,sg,());let z2:=iP z4 i id frm to;let z1:=[SV.agg [SC.sl I6 z2.fst.fst,SC.sl I6 z2.fst.snd.fst,SC.sl I6.sl z2.fst.snd.snd.fst,SC.sl I6 z2.fst.snd.snd.snd.fst],cI (z2.snd)];let z3:=0<=i/\i < (os.length:Int);bK z4/\br (!decide (je z4 i (os.length:Int)=(0:Int))) (rT z1 [SV.agg Yg,cI (je z4 i (os.length:Int))]) (br (decide (id < 0)) (rT z1 kq6) (z3/\∀(d:Int),os[i.toNat]?=some d->br (!decide (d=frm)) (rT z1 kq5) (bK z4/\z3/\i.toNat < os.length/\rT z1 [SV.agg [SC.sl I6 vs,SC.sl I6 (os.set i.toNat to),SC.sl I6.sl qs,SC.sl I6 sg],cI 0]))):=by
 conv=>zeta
 delta Yg kq6 kq5 cI rT I6;unfold iP;refine⟨aH,ah.2 ⟨λh=>⟨rfl,?_⟩,λh=>?_⟩⟩
 .rw[if_neg (by simpa using h)];rfl
 .have h:je (vs,os,qs,sg,()) i os.length=0:=by simpa using h
  have hx:=dG.1 h;rw[if_pos h];refine ah.2 ⟨λg=>⟨rfl,?_⟩,λg=>⟨hx.2,λd hd=>?_⟩⟩
  .rw[if_pos (by simpa using g)];rfl
  .rw[if_neg (by simpa using g)]
   have e:(vs,os,qs,sg,()).2.1[i.toNat]?.getD 0=d:=by simp[hd]
   rw[e];refine ah.2 ⟨λg2=>⟨rfl,?_⟩,λg2=>⟨aH,hx.2,by omega,rfl,?_⟩⟩
   .rw[if_neg (by simpa using g2)];rfl
   .rw[if_pos (by simpa using g2)]
theorem Po:aW aU.gd 163 U9:=
 eG (cx:=aU) (n:=43) (cl:=[(158,Ea),(49,D9)]) (rc:=[.data yM,.keep]) aA ⟨tX,tV,trivial⟩ Tryz.func163 λd hd=>by
  obtain⟨⟨vs,os,qs,sg,⟨⟩⟩,i,id,frm,to,⟨⟩⟩:=d;exact aS (λ_=>none) (ahW vs os qs sg i id frm to hd) (by kernel_rfl)
abbrev acV:CT:={ ps:=[yM,.int .i64,.int .i64],pre:=λd=>bK d.1,res:=λd=>([],.iR [.agg [.sl (.int .i64) ((iP d.1 d.2.1 d.2.2.1 (-1) d.2.2.1).1).1,.sl (.int .i64) ((iP d.1 d.2.1 d.2.2.1 (-1) d.2.2.1).1).2.1,.sl (.sl (.int .i64)) ((iP d.1 d.2.1 d.2.2.1 (-1) d.2.2.1).1).2.2.1,.sl (.int .i64) ((iP d.1 d.2.1 d.2.2.1 (-1) d.2.2.1).1).2.2.2.1],.c (.v (.int .i64 ((iP d.1 d.2.1 d.2.2.1 (-1) d.2.2.1).2)))]) }
theorem ahX(vs os:List Int) (qs:List (List Int)) (sg:List Int) (i id:Int) (aH:acV.pre ((vs,os,qs,sg,()),i,id,())):
 let z2:=iP (vs,os,qs,sg,()) i id (-1:Int) id;let z1:=z2.snd;bK (vs,os,qs,sg,())/\rT [SV.agg [SC.sl I6 z2.fst.fst,SC.sl I6 z2.fst.snd.fst,SC.sl I6.sl z2.fst.snd.snd.fst,SC.sl I6 z2.fst.snd.snd.snd.fst],cI z1] [SV.agg [SC.sl I6 (z2.fst.fst,z2.fst.snd.fst,z2.fst.snd.snd.fst,z2.fst.snd.snd.snd.fst,()).fst,SC.sl I6 (z2.fst.snd.fst,z2.fst.snd.snd.fst,z2.fst.snd.snd.snd.fst,()).fst,SC.sl I6.sl (z2.fst.snd.snd.fst,z2.fst.snd.snd.snd.fst,()).fst,SC.sl I6 z2.fst.snd.snd.snd.fst],cI z1]:=by
 conv=>zeta
 delta cI rT I6;exact⟨aH,rfl,rfl⟩
theorem acW:aW aU.gd 101 acV:=
 eG (cx:=aU) (n:=15) (cl:=[(163,U9)]) (rc:=[.data yM,.keep]) aA ⟨Po,trivial⟩ Tryz.func101 λd hd=>by
  obtain⟨⟨vs,os,qs,sg,⟨⟩⟩,i,id,⟨⟩⟩:=d;exact aS (λ_=>none) (ahX vs os qs sg i id hd) (by kernel_rfl)
abbrev acX:CT:={ ps:=[yM,.int .i64,.int .i64],pre:=λd=>bK d.1,res:=λd=>([],.iR [.agg [.sl (.int .i64) ((iP d.1 d.2.1 d.2.2.1 d.2.2.1 (-1)).1).1,.sl (.int .i64) ((iP d.1 d.2.1 d.2.2.1 d.2.2.1 (-1)).1).2.1,.sl (.sl (.int .i64)) ((iP d.1 d.2.1 d.2.2.1 d.2.2.1 (-1)).1).2.2.1,.sl (.int .i64) ((iP d.1 d.2.1 d.2.2.1 d.2.2.1 (-1)).1).2.2.2.1],.c (.v (.int .i64 ((iP d.1 d.2.1 d.2.2.1 d.2.2.1 (-1)).2)))]) }
theorem ahY(vs os:List Int) (qs:List (List Int)) (sg:List Int) (i id:Int) (aH:acX.pre ((vs,os,qs,sg,()),i,id,())):
 let z2:=iP (vs,os,qs,sg,()) i id id (-1:Int);let z1:=z2.snd;bK (vs,os,qs,sg,())/\rT [SV.agg [SC.sl I6 z2.fst.fst,SC.sl I6 z2.fst.snd.fst,SC.sl I6.sl z2.fst.snd.snd.fst,SC.sl I6 z2.fst.snd.snd.snd.fst],cI z1] [SV.agg [SC.sl I6 (z2.fst.fst,z2.fst.snd.fst,z2.fst.snd.snd.fst,z2.fst.snd.snd.snd.fst,()).fst,SC.sl I6 (z2.fst.snd.fst,z2.fst.snd.snd.fst,z2.fst.snd.snd.snd.fst,()).fst,SC.sl I6.sl (z2.fst.snd.snd.fst,z2.fst.snd.snd.snd.fst,()).fst,SC.sl I6 z2.fst.snd.snd.snd.fst],cI z1]:=by
 conv=>zeta
 delta cI rT I6;exact⟨aH,rfl,rfl⟩
theorem acY:aW aU.gd 102 acX:=
 eG (cx:=aU) (n:=15) (cl:=[(163,U9)]) (rc:=[.data yM,.keep]) aA ⟨Po,trivial⟩ Tryz.func102 λd hd=>by
  obtain⟨⟨vs,os,qs,sg,⟨⟩⟩,i,id,⟨⟩⟩:=d;exact aS (λ_=>none) (ahY vs os qs sg i id hd) (by kernel_rfl)
abbrev acZ:CT:={ ps:=[yM,.int .i64],pre:=λd=>bK d.1,res:=λd=>([],vB (kM d.1 d.2.1)) }
abbrev amZ(vs os:List Int) (qs:List (List Int)) (sg:List Int) (id:Int):Nat->Option (St->kH):=λk=>match k with
 | 2=>some λ_=>.inv { α:=Nat,slots:=λk=>[(10,.c (.v (.int .i64 k)))],res:=λk=>[],inv:=λk=>k<=(qs).length/\∀j < k,∀q,qs[j]?=some q->gq q id=false,meas:=λk=>(qs).length - k }
 | _=>none
theorem ahZ(vs os:List Int) (qs:List (List Int)) (sg:List Int) (id:Int) (aH:acZ.pre ((vs,os,qs,sg,()),id,())):
 let z1:=λ(x:Nat)=>(x<=qs.length/\∀(j:Nat),j < x->∀(q:List Int),qs[j]?=some q->gq q id=false);let z2:=[g0 (au.blk 34 [SC.sl I6 vs,SC.sl I6 os,SC.sl I6.sl qs,SC.sl I6 sg])];let z3:=kM (vs,os,qs,sg,()) id;(∃x,(z1 x)/\(cI 0=cI (x:Int)/\True)/\sm z2)/\∀(x:Nat),(z1 x)->br (decide ((x:Int) < (qs.length:Int))) ((0<=(x:Int)/\(x:Int) < (qs.length:Int))/\∀(d:List Int),qs[(x:Int).toNat]?=some d->d.length<=4611686018427387904/\br (gq d id) (qB z3 true) (dX IntKind.i64 ((x:Int)+(1:Int))/\∃x',(z1 x')/\(cI ((x:Int)+(1:Int))=cI (x':Int)/\True)/\sm z2/\qs.length - x' < qs.length - x)) (sg.length<=1000000/\qB z3 (gq sg id)):=by
 conv=>zeta
 delta cI g0 qB sm I6;obtain⟨b1,b2,b3,b4,b5,b6⟩:vs.length<=1000/\os.length<=1000/\qs.length<=1000/\sg.length<=1000/\(∀q∈qs,q.length<=1000)/\qs.flatten.length<=100000:=aH;refine⟨⟨0,⟨by omega,λj hj=>by omega⟩,⟨rfl,trivial⟩,rfl⟩,λk hk=>ah.2 ⟨λg=>?_,λg=>?_⟩⟩
 .simp only[dV]at g;refine⟨⟨by omega,by omega⟩,λd hd=>⟨?_,ah.2 ⟨λg2=>⟨rfl,?_⟩,λg2=>⟨ay.2 (by omega),k+1,⟨by omega,λj hj q hq=>?_⟩,⟨rfl,trivial⟩,rfl,by omega⟩⟩⟩⟩
  .have:=b5 d (iJ hd);omega
  .have:kM (vs,os,qs,sg,()) id=true:=by
    unfold kM;rw[Ee];exact .inl (A95.2 ⟨d,iJ hd,g2⟩)
   rw[this]
  .by_cases ji:j=k
   .subst ji;have hd:qs[j]?=some d:=hd;rw[hd]at hq;cases hq;exact g2
   .exact hk.2 j (by omega) q hq
 simp only[gG]at g;have:kM (vs,os,qs,sg,()) id=gq sg id:=by
  unfold kM;have:(qs.any λq=>gq q id)=false:=by
   rw[Yx];intro q hq;obtain⟨j,hj⟩:=II hq;rw[hk.2 j (by have:=(eU.1 hj).1;omega) q hj];simp
  simp[this]
 exact⟨by omega,rfl,by rw[this]⟩
theorem ac0:aW aU.gd 164 acZ:=
 eG (cx:=aU) (n:=22) (cl:=[(98,Ho),(165,JM)]) (rc:=[]) aA ⟨Bc,Bf,trivial⟩ Tryz.func164 λd hd=>by
  obtain⟨⟨vs,os,qs,sg,⟨⟩⟩,id,⟨⟩⟩:=d;exact aS (amZ vs os qs sg id) (ahZ vs os qs sg id hd) (by kernel_rfl)
def tY(m:MD) (c id:Int):MD×Int:=if je m c m.2.2.1.length=0 then(if id < 0 then(zM,2) else if kM m id=true then(zM,30) else((m.1,m.2.1,m.2.2.1.set c.toNat (m.2.2.1[c.toNat]?.getD []++[id]),m.2.2.2),0)) else(zM,je m c m.2.2.1.length)
def jZ(sg l:List Int):List Int:=l.foldl (λs x=>bT (s++[x])) sg
theorem SL{sg:List Int}{d:Int} (h:l[k]?=some d):jZ sg (l.take (k+1))=bT (jZ sg (l.take k)++[d]):=by
 unfold jZ;rw[Tf,h];simp
theorem Dt:∀(l sg:List Int),(jZ sg l).length<=sg.length+l.length
 | [],sg=>by simp[jZ]
 | x :: l,sg=>by
   have:=Dt l (bT (sg++[x]));have h2:=EU (sg++[x]) [];have e:jZ sg (x :: l)=jZ (bT (sg++[x])) l:=rfl;rw[e];unfold bT at *;simp only[kZ,yP,Qh]at *;omega
def uh(m:MD) (c n:Int):MD×Int×Int:=if je m c m.2.2.1.length=0 then((m.1,m.2.1,m.2.2.1.set c.toNat ((m.2.2.1[c.toNat]?.getD []).drop (jH n ((m.2.2.1[c.toNat]?.getD []).length:Int)).toNat),jZ m.2.2.2.1 ((m.2.2.1[c.toNat]?.getD []).take (jH n ((m.2.2.1[c.toNat]?.getD []).length:Int)).toNat),()),jH n ((m.2.2.1[c.toNat]?.getD []).length:Int),0) else(zM,0,je m c m.2.2.1.length)
def lH(m:MD) (id:Int):MD×Int:=if dO m=false then(zM,1) else if gq m.2.2.2.1 id=false then(zM,30) else((m.1,m.2.1,m.2.2.1,oh (bT m.2.2.2.1) [id] false,()),0)
def qw(vs:List VD) (ms cs:List ByteArray) (fs:List FD) (ts:List SD):MD×Int:=if(aF vs ms cs fs ts).1=0 then((vs.map (·.2.1),List.replicate ms.length (-1),List.replicate cs.length [],[],()),0) else(zM,(aF vs ms cs fs ts).1)
abbrev ac1:CT:={ ps:=[yM,.int .i64,.int .i64],pre:=λd=>bK d.1,res:=λd=>([],.iR [.agg [.sl (.int .i64) ((tY d.1 d.2.1 d.2.2.1).1).1,.sl (.int .i64) ((tY d.1 d.2.1 d.2.2.1).1).2.1,.sl (.sl (.int .i64)) ((tY d.1 d.2.1 d.2.2.1).1).2.2.1,.sl (.int .i64) ((tY d.1 d.2.1 d.2.2.1).1).2.2.2.1],.c (.v (.int .i64 ((tY d.1 d.2.1 d.2.2.1).2)))]) }
theorem ah0(vs os:List Int) (qs:List (List Int)) (sg:List Int) (c id:Int) (aH:ac1.pre ((vs,os,qs,sg,()),c,id,())):
 let z8:=(vs,os,qs,sg,());let z6:=tY z8 c id;let z1:=[SV.agg [SC.sl I6 z6.fst.fst,SC.sl I6 z6.fst.snd.fst,SC.sl I6.sl z6.fst.snd.snd.fst,SC.sl I6 z6.fst.snd.snd.snd.fst],cI (z6.snd)];let z5:=0<=c/\c < (qs.length:Int);let z7:=c.toNat < qs.length;let z3:=decide z7=true/\c.toNat < qs.length;let z4:=λ(d:List Int)=>List.length (d)+List.length ([id]);let z2:=λ(d:List Int)=>[SV.agg [SC.sl I6 vs,SC.sl I6 os,SC.sl I6.sl (qs.set c.toNat ((d++[id]))),SC.sl I6 sg],cI 0];bK z8/\br (!decide (je z8 c (qs.length:Int)=(0:Int))) (rT z1 [SV.agg Yg,cI (je z8 c (qs.length:Int))]) (br (decide (id < 0)) (rT z1 kq6) (bK z8/\br (kM z8 id) (rT z1 kq5) (bK z8/\z5/\c.toNat < qs.length/\∀(d:List Int),qs[c.toNat]?=some d->false=false/\(decide z7=true->(z3/\∀(d:List Int),qs[c.toNat]?=some d->oN (z4 d) 8/\z5/\c.toNat < qs.length/\c.toNat=c.toNat/\∀(e0:List Int),qs[c.toNat]?=some e0->rT z1 (z2 d))/\(z3/\∀(d:List Int),qs[c.toNat]?=some d->oN (z4 d) 8/\z5/\c.toNat < qs.length/\c.toNat=c.toNat/\∀(e0:List Int),qs[c.toNat]?=some e0->rT z1 (z2 d))/\z3/\∀(d:List Int),qs[c.toNat]?=some d->oN (z4 d) 8/\z5/\c.toNat < qs.length/\c.toNat=c.toNat/\∀(e0:List Int),qs[c.toNat]?=some e0->rT z1 (z2 d))/\(decide z7=false->False/\False/\False)))):=by
 conv=>zeta
 delta Yg kq6 kq5 cI rT I6;unfold tY;have hb:=aH;obtain⟨b1,b2,b3,b4,b5,b6⟩:vs.length<=1000/\os.length<=1000/\qs.length<=1000/\sg.length<=1000/\(∀q∈qs,q.length<=1000)/\qs.flatten.length<=100000:=aH;refine⟨hb,ah.2 ⟨λh=>⟨rfl,?_⟩,λh=>?_⟩⟩
 .rw[if_neg (by simpa using h)];rfl
 have h:je (vs,os,qs,sg,()) c qs.length=0:=by simpa using h
 have hx:=dG.1 h;rw[if_pos h];refine ah.2 ⟨λg=>⟨rfl,?_⟩,λg=>⟨hb,ah.2 ⟨λw=>⟨rfl,?_⟩,λw=>⟨hb,hx.2,by omega,λd hd=>⟨rfl,?_⟩⟩⟩⟩⟩
 .rw[if_pos (by simpa using g)];rfl
 .rw[if_neg (by simpa using g),if_pos w];rfl
 rw[if_neg (by simpa using g),if_neg (by simpa using w)]
 have hc:decide (c.toNat < qs.length)=true:=by rw[dV];omega
 have hl:=b5 d (iJ hd);have e:(vs,os,qs,sg,()).2.2.1[c.toNat]?.getD []=d:=by simp[hd]
 rw[e];have key:∀d':List Int,qs[c.toNat]?=some d'->d'=d:=λd' h'=>by rw[hd]at h';cases h';rfl
 have hI:oN (d.length+1) 8:=fQ.2 (by omega)
 have hz:¬decide (c.toNat < qs.length)=false:=by rw[hc];simp
 refine⟨λ_=>?_,λq=>absurd q hz⟩
 have F:(decide (c.toNat < qs.length)=true/\c.toNat < qs.length):=⟨hc,by omega⟩
 repeat' first | exact F | (refine And.intro ?_ ?_)
 all_goals
  intro d' h';cases key d' h';exact⟨hI,hx.2,by omega,rfl,λ_ _=>⟨rfl,rfl⟩⟩
theorem ac2:aW aU.gd 103 ac1:=
 eG (cx:=aU) (n:=42) (cl:=[(158,Ea),(164,acZ),(49,acS)]) (rc:=[.data yM,.keep]) aA ⟨tX,ac0,ahQ,trivial⟩ Tryz.func103 λd hd=>by
  obtain⟨⟨vs,os,qs,sg,⟨⟩⟩,c,id,⟨⟩⟩:=d;exact aS (λ_=>none) (ah0 vs os qs sg c id hd) (by kernel_rfl)
abbrev Va:CT:={ ps:=[yM,.int .i64,.int .i64],pre:=λd=>bK d.1/\0<=d.2.2.1,res:=λd=>([],.iR [.agg [.sl (.int .i64) ((uh d.1 d.2.1 d.2.2.1).1).1,.sl (.int .i64) ((uh d.1 d.2.1 d.2.2.1).1).2.1,.sl (.sl (.int .i64)) ((uh d.1 d.2.1 d.2.2.1).1).2.2.1,.sl (.int .i64) ((uh d.1 d.2.1 d.2.2.1).1).2.2.2.1],.c (.v (.int .i64 ((uh d.1 d.2.1 d.2.2.1).2.1))),.c (.v (.int .i64 ((uh d.1 d.2.1 d.2.2.1).2.2)))]) }
abbrev am0(vs os:List Int) (qs:List (List Int)) (sg:List Int) (c n:Int):Nat->Option (St->kH):=λk=>match k with
 | 7=>some λs=>.inv { α:=Nat,can:=[(5,.cell 6 3)],slots:=λk=>[(41,.c (.v (.int .i64 k)))],res:=λk=>[(5,.row 3 (.int .i64) (jZ sg ((slotL (.int .i64) s 39).take k)))],inv:=λk=>k<=(slotL (.int .i64) s 39).length,meas:=λk=>(slotL (.int .i64) s 39).length - k }
 | _=>none
theorem ah1(vs os:List Int) (qs:List (List Int)) (sg:List Int) (c n:Int) (aH:Va.pre ((vs,os,qs,sg,()),c,n,())):
 let z10:=(vs,os,qs,sg,());let z9:=uh z10 c n;let z2:=[SV.agg [SC.sl I6 z9.fst.fst,SC.sl I6 z9.fst.snd.fst,SC.sl I6.sl z9.fst.snd.snd.fst,SC.sl I6 z9.fst.snd.snd.snd.fst],cI (z9.snd.fst),cI (z9.snd.snd)];let z8:=0<=c/\c < (qs.length:Int);let z6:=λ(d dJ:List Int)=>List.take (jH n (d.length:Int)).toNat dJ;let z5:=[SC.sl I6 vs,SC.sl I6 os,SC.sl I6.sl qs,SC.sl I6 sg];let z7:=[SC.row 2,SC.row 3,SC.row 4,SC.row 5];let z3:=λ(x:Nat) (d dJ:List Int)=>jZ sg (List.take x (List.drop 0 (z6 d dJ)));let z1:=λ(x:Nat) (d dJ:List Int)=>[g0 (au.blk 34 z5),g0 (au.blk 34 D8),g0 (au.row 3 I6 vs),g0 (au.row 3 I6 os),g0 (au.row 31 I6.sl qs),g0 (au.row 3 I6 (z3 x d dJ)),g0 (au.blk 34 z7)];let z4:=λ(d Hl:List Int)=>List.drop (jH n (d.length:Int)).toNat (List.take (Hl.length:Int).toNat Hl);bK z10/\br (!decide (je z10 c (qs.length:Int)=(0:Int))) (rT z2 [SV.agg Yg,cI 0,cI (je z10 c (qs.length:Int))]) (bK z10/\z8/\c.toNat < qs.length/\∀(d:List Int),qs[c.toNat]?=some d->z8/\c.toNat < qs.length/\∀(dJ:List Int),qs[c.toNat]?=some dJ->((0:Int)<=(0:Int)/\0<=jH n (d.length:Int)/\jH n (d.length:Int)<=(dJ.length:Int))/\(∃x,x<=List.length (List.drop 0 (z6 d dJ))/\(cI 0=cI (x:Int)/\True)/\[g0 (au.blk 34 z5),g0 (au.blk 34 D8),g0 (au.row 3 I6 vs),g0 (au.row 3 I6 os),g0 (au.row 31 I6.sl qs),g0 (au.row 3 I6 sg),g0 (au.blk 34 z7)]=(z1 x d dJ))/\∀(x:Nat),x<=List.length (List.drop 0 (z6 d dJ))->br (decide ((x:Int) < (↑(List.drop 0 (z6 d dJ)).length:Int))) ((0<=(x:Int)/\(x:Int) < (↑(List.drop 0 (z6 d dJ)).length:Int))/\∀(Hl:Int),(List.drop 0 (z6 d dJ))[(x:Int).toNat]?=some Hl->(z3 x d dJ).length<=999999/\dX IntKind.i64 ((x:Int)+(1:Int))/\∃x',x'<=List.length (List.drop 0 (z6 d dJ))/\(cI ((x:Int)+(1:Int))=cI (x':Int)/\True)/\[g0 (au.blk 34 z5),g0 (au.blk 34 D8),g0 (au.row 3 I6 vs),g0 (au.row 3 I6 os),g0 (au.row 31 I6.sl qs),g0 (au.row 3 I6 (bT (jZ sg (List.take x (List.drop 0 (z6 d dJ)))++[Hl]))),g0 (au.blk 34 z7)]=(z1 x' d dJ)/\List.length (List.drop 0 (z6 d dJ)) - x' < List.length (List.drop 0 (z6 d dJ)) - x) (z8/\c.toNat < qs.length/\∀(Hl:List Int),qs[c.toNat]?=some Hl->(0<=jH n (d.length:Int)/\jH n (d.length:Int)<=(Hl.length:Int)/\(Hl.length:Int)<=(Hl.length:Int))/\(z4 d Hl).length<=1000000/\z8/\c.toNat < qs.length/\rT z2 [SV.agg [SC.sl I6 vs,SC.sl I6 os,SC.sl I6.sl (qs.set c.toNat (z4 d Hl)),SC.sl I6 (z3 x d dJ)],cI (jH n (d.length:Int)),cI 0])):=by
 conv=>zeta
 delta D8 Yg cI g0 rT I6;obtain⟨hb,hn⟩:bK (vs,os,qs,sg,())/\0<=n:=aH;unfold uh;obtain⟨b1,b2,b3,b4,b5,b6⟩:vs.length<=1000/\os.length<=1000/\qs.length<=1000/\sg.length<=1000/\(∀q∈qs,q.length<=1000)/\qs.flatten.length<=100000:=id hb;refine⟨hb,ah.2 ⟨λh=>⟨rfl,?_⟩,λh=>?_⟩⟩
 .rw[if_neg (by simpa using h)];rfl
 have h:je (vs,os,qs,sg,()) c qs.length=0:=by simpa using h
 have hx:=dG.1 h;rw[if_pos h];refine⟨hb,hx.2,by omega,λd hd=>⟨hx.2,by omega,λd1 hd1=>?_⟩⟩
 rw[hd]at hd1;cases hd1;have hl:=b5 d (iJ hd);have e:(vs,os,qs,sg,()).2.2.1[c.toNat]?.getD []=d:=by simp[hd]
 rw[e];have hm:0<=jH n (d.length:Int)/\jH n (d.length:Int)<=d.length:=by unfold jH;split<;>omega
 generalize jH n (d.length:Int)=k at hm;rw[Tn];have h2:(d.take k.toNat).length<=1000:=by rw[mD];omega
 refine⟨⟨by omega,hm⟩,⟨0,by omega,⟨rfl,trivial⟩,rfl⟩,λj hj=>ah.2 ⟨λg=>?_,λg=>?_⟩⟩
 .simp only[dV]at g;refine⟨⟨by omega,by omega⟩,λx hx2=>⟨?_,ay.2 (by omega),j+1,by omega,⟨rfl,trivial⟩,?_,by omega⟩⟩
  .have:=Dt ((d.take k.toNat).take j) sg;rw[mD]at this;omega
  .have hx2:(d.take k.toNat)[j]?=some x:=hx2;rw[SL hx2]
 simp only[gG]at g;refine⟨hx.2,by omega,λd2 hd2=>?_⟩
 rw[hd]at hd2;cases hd2;have e2:List.take (d.length:Int).toNat d=d:=zF (by omega)
 rw[e2];refine⟨⟨by omega,by omega,by omega⟩,by rw[zH];omega,hx.2,by omega,rfl,?_⟩
 rw[zF (i:=j) (by omega)]
theorem Pq:aW aU.gd 166 Va:=
 eG (cx:=aU) (n:=65) (cl:=[(158,Ea),(111,OV),(107,J4),(49,D9)]) (rc:=[.data yM,.keep,.keep]) aA ⟨tX,Hq,BG,tV,trivial⟩ Tryz.func166 λd hd=>by
  obtain⟨⟨vs,os,qs,sg,⟨⟩⟩,c,n,⟨⟩⟩:=d;exact aS (am0 vs os qs sg c n) (ah1 vs os qs sg c n hd) (by kernel_rfl)
abbrev ac3:CT:={ ps:=[yM,.int .i64],pre:=λd=>bK d.1,res:=λd=>([],.iR [.agg [.sl (.int .i64) ((uh d.1 d.2.1 1).1).1,.sl (.int .i64) ((uh d.1 d.2.1 1).1).2.1,.sl (.sl (.int .i64)) ((uh d.1 d.2.1 1).1).2.2.1,.sl (.int .i64) ((uh d.1 d.2.1 1).1).2.2.2.1],.c (.v (.int .i64 ((uh d.1 d.2.1 1).2.1))),.c (.v (.int .i64 ((uh d.1 d.2.1 1).2.2)))]) }
theorem ah2(vs os:List Int) (qs:List (List Int)) (sg:List Int) (c:Int) (aH:ac3.pre ((vs,os,qs,sg,()),c,())):
 let z3:=uh (vs,os,qs,sg,()) c (1:Int);let z1:=z3.snd.fst;let z2:=z3.snd.snd;(bK (vs,os,qs,sg,())/\(0:Int)<=(1:Int))/\rT [SV.agg [SC.sl I6 z3.fst.fst,SC.sl I6 z3.fst.snd.fst,SC.sl I6.sl z3.fst.snd.snd.fst,SC.sl I6 z3.fst.snd.snd.snd.fst],cI z1,cI z2] [SV.agg [SC.sl I6 (z3.fst.fst,z3.fst.snd.fst,z3.fst.snd.snd.fst,z3.fst.snd.snd.snd.fst,()).fst,SC.sl I6 (z3.fst.snd.fst,z3.fst.snd.snd.fst,z3.fst.snd.snd.snd.fst,()).fst,SC.sl I6.sl (z3.fst.snd.snd.fst,z3.fst.snd.snd.snd.fst,()).fst,SC.sl I6 z3.fst.snd.snd.snd.fst],cI z1,cI z2]:=by
 conv=>zeta
 delta cI rT I6;exact⟨⟨aH,by decide⟩,rfl,rfl⟩
theorem ac4:aW aU.gd 105 ac3:=
 eG (cx:=aU) (n:=13) (cl:=[(166,Va)]) (rc:=[.data yM,.keep,.keep]) aA ⟨Pq,trivial⟩ Tryz.func105 λd hd=>by
  obtain⟨⟨vs,os,qs,sg,⟨⟩⟩,c,⟨⟩⟩:=d;exact aS (λ_=>none) (ah2 vs os qs sg c hd) (by kernel_rfl)
abbrev ac5:CT:={ ps:=[yM,.int .i64],pre:=λd=>bK d.1,res:=λd=>([],.iR [.agg [.sl (.int .i64) ((lH d.1 d.2.1).1).1,.sl (.int .i64) ((lH d.1 d.2.1).1).2.1,.sl (.sl (.int .i64)) ((lH d.1 d.2.1).1).2.2.1,.sl (.int .i64) ((lH d.1 d.2.1).1).2.2.2.1],.c (.v (.int .i64 ((lH d.1 d.2.1).2)))]) }
theorem ah3(vs os:List Int) (qs:List (List Int)) (sg:List Int) (id:Int) (aH:ac5.pre ((vs,os,qs,sg,()),id,())):
 let z3:=(vs,os,qs,sg,());let z2:=lH z3 id;let z1:=[SV.agg [SC.sl I6 z2.fst.fst,SC.sl I6 z2.fst.snd.fst,SC.sl I6.sl z2.fst.snd.snd.fst,SC.sl I6 z2.fst.snd.snd.snd.fst],cI (z2.snd)];bK z3/\br (!dO z3) (rT z1 [SV.agg Yg,cI 1]) (sg.length<=1000000/\br (!gq sg id) (rT z1 kq5) (bK z3/\sg.length<=1000000/\rT z1 [SV.agg [SC.sl I6 vs,SC.sl I6 os,SC.sl I6.sl qs,SC.sl I6 (oh (bT sg) [id] false)],cI 0])):=by
 conv=>zeta
 delta Yg kq5 cI rT I6;have hb:=aH;obtain⟨b1,b2,b3,b4,b5,b6⟩:vs.length<=1000/\os.length<=1000/\qs.length<=1000/\sg.length<=1000/\(∀q∈qs,q.length<=1000)/\qs.flatten.length<=100000:=aH;unfold lH;refine⟨hb,ah.2 ⟨λh=>⟨rfl,?_⟩,λh=>⟨by omega,ah.2 ⟨λg=>⟨rfl,?_⟩,λg=>⟨hb,by omega,rfl,?_⟩⟩⟩⟩⟩
 .rw[if_pos (by simpa using h)];rfl
 .rw[if_neg (by simpa using h),if_pos (by simpa using g)];rfl
 .rw[if_neg (by simpa using h),if_neg (by simpa using g)]
theorem ac6:aW aU.gd 104 ac5:=
 eG (cx:=aU) (n:=25) (cl:=[(157,acR),(165,JM),(112,O6),(49,D9)]) (rc:=[.data yM,.keep]) aA ⟨Ie,Bf,Ia,tV,trivial⟩ Tryz.func104 λd hd=>by
  obtain⟨⟨vs,os,qs,sg,⟨⟩⟩,id,⟨⟩⟩:=d;exact aS (λ_=>none) (ah3 vs os qs sg id hd) (by kernel_rfl)
abbrev SN:CT:={ ps:=[tK],pre:=λd=>bnd d,res:=λd=>([],.iR [.agg [.sl (.int .i64) ((qw d.1.1 d.1.2.1 d.1.2.2.1 d.1.2.2.2.1 d.1.2.2.2.2.1).1).1,.sl (.int .i64) ((qw d.1.1 d.1.2.1 d.1.2.2.1 d.1.2.2.2.1 d.1.2.2.2.2.1).1).2.1,.sl (.sl (.int .i64)) ((qw d.1.1 d.1.2.1 d.1.2.2.1 d.1.2.2.2.1 d.1.2.2.2.2.1).1).2.2.1,.sl (.int .i64) ((qw d.1.1 d.1.2.1 d.1.2.2.1 d.1.2.2.2.1 d.1.2.2.2.2.1).1).2.2.2.1],.c (.v (.int .i64 ((qw d.1.1 d.1.2.1 d.1.2.2.1 d.1.2.2.2.1 d.1.2.2.2.2.1).2)))]) }
abbrev apZ(vs:List VD) (ms cs:List ByteArray) (fs:List FD) (ts:List SD):Nat->Option (St->kH):=λk=>match k with
 | 6=>some λs=>.inv { α:=Nat,uJ:=[(3,0,3,.int .i64)],slots:=λk=>[(28,.c (.v (.int .i64 k)))],res:=λk=>[(4,.row 3 (.int .i64) ((vs.take k).map (·.2.1)))],inv:=λk=>k<=vs.length,meas:=λk=>vs.length - k }
 | 11=>some λs=>.inv { α:=Nat,uJ:=[(3,1,3,.int .i64)],slots:=λk=>[(43,.c (.v (.int .i64 k)))],res:=λk=>[(5,.row 3 (.int .i64) (List.replicate k (-1)))],inv:=λk=>k<=ms.length,meas:=λk=>ms.length - k }
 | _=>none
theorem am1(vs:List VD) (ms cs:List ByteArray) (fs:List FD) (ts:List SD) (aH:SN.pre ((vs,ms,cs,fs,ts,()),())):
 let z8:=qw vs ms cs fs ts;let z1:=[SV.agg [SC.sl I6 z8.fst.fst,SC.sl I6 z8.fst.snd.fst,SC.sl I6.sl z8.fst.snd.snd.fst,SC.sl I6 z8.fst.snd.snd.snd.fst],cI (z8.snd)];let z4:=[SC.sl LU vs,SC.sl Sh.str ms,SC.sl Sh.str cs,SC.sl IG fs,SC.sl nD ts];let z5:=List.replicate (cs.length:Int).toNat [];let z3:=[SC.row (Nat.succ 0).succ.succ.succ,SC.v (Value.slice none 0 0),SC.row (Nat.succ 0).succ,SC.v (Value.slice none 0 0)];let z9:=λ(x:Nat)=>List.take x vs;let z7:=λ(x:Nat)=>(x:Int)+(1:Int);let z2:=[SC.row (Nat.succ 0).succ.succ.succ,SC.row (Nat.succ 0).succ.succ.succ.succ,SC.row (Nat.succ 0).succ,SC.v (Value.slice none 0 0)];let z6:=λ(x_1:Nat)=>List.replicate x_1 (-1:Int);(vs.length<=1000000/\ms.length<=1000000/\cs.length<=1000000/\fs.length<=1000000/\ts.length<=1000000/\(∀(x:ByteArray×(o7.sl.pair Sh.unit).den),x∈fs->List.length x.snd.fst<=1000000)/\(dR fs).length<=1000000)/\br (!decide ((aF vs ms cs fs ts).fst=0)) (rT z1 [SV.agg Yg,cI ((aF vs ms cs fs ts).fst)]) ((0<=(cs.length:Int)/\(cs.length:Int)<=(cs.length:Int)/\oN (cs.length:Int).toNat 24)/\(∃x,x<=vs.length/\(cI 0=cI (x:Int)/\True)/\[g0 (au.blk 27 z4),g0 (au.blk 34 D8),g0 (au.row 31 I6.sl z5),g0 (au.blk 34 z3),g0 (au.row 3 I6 [])]=[g0 (au.blk 27 z4),g0 (au.blk 34 D8),g0 (au.row 31 I6.sl z5),g0 (au.blk 34 z3),g0 (au.row 3 I6 (List.map (λx=>x.snd.fst) (List.take x vs)))])/\∀(x:Nat),x<=vs.length->br (decide ((x:Int) < (vs.length:Int))) ((0<=(x:Int)/\(x:Int) < (vs.length:Int))/\∀(d:ByteArray×(I6.pair Sh.unit).den),vs[(x:Int).toNat]?=some d->oN (List.length (List.map (λx=>x.snd.fst) (z9 x))+List.length ([d.snd.fst])) 8/\dX IntKind.i64 (z7 x)/\∃x',x'<=vs.length/\(cI (z7 x)=cI (x':Int)/\True)/\[g0 (au.blk 27 z4),g0 (au.blk 34 D8),g0 (au.row 31 I6.sl z5),g0 (au.blk 34 z3),g0 (au.row 3 I6 (List.map (λx=>x.snd.fst) (z9 x)++[d.snd.fst]))]=[g0 (au.blk 27 z4),g0 (au.blk 34 D8),g0 (au.row 31 I6.sl z5),g0 (au.blk 34 z3),g0 (au.row 3 I6 (List.map (λx=>x.snd.fst) (List.take x' vs)))]/\vs.length - x' < vs.length - x) ((∃x_1,x_1<=ms.length/\(cI 0=cI (x_1:Int)/\True)/\[g0 (au.blk 27 z4),g0 (au.blk 34 D8),g0 (au.row 31 I6.sl z5),g0 (au.blk 34 z2),g0 (au.row 3 I6 (List.map (λx=>x.snd.fst) (z9 x))),g0 (au.row 3 I6 [])]=[g0 (au.blk 27 z4),g0 (au.blk 34 D8),g0 (au.row 31 I6.sl z5),g0 (au.blk 34 z2),g0 (au.row 3 I6 (List.map (λx=>x.snd.fst) (z9 x))),g0 (au.row 3 I6 (z6 x_1))])/\∀(x_1:Nat),x_1<=ms.length->br (decide ((x_1:Int) < (ms.length:Int))) (oN (List.length (z6 x_1)+1) 8/\dX IntKind.i64 (z7 x_1)/\∃x',x'<=ms.length/\(cI (z7 x_1)=cI (x':Int)/\True)/\[g0 (au.blk 27 z4),g0 (au.blk 34 D8),g0 (au.row 31 I6.sl z5),g0 (au.blk 34 z2),g0 (au.row 3 I6 (List.map (λx=>x.snd.fst) (z9 x))),g0 (au.row 3 I6 (List.replicate x_1 (-1:Int)++[(-1:Int)]))]=[g0 (au.blk 27 z4),g0 (au.blk 34 D8),g0 (au.row 31 I6.sl z5),g0 (au.blk 34 z2),g0 (au.row 3 I6 (List.map (λx=>x.snd.fst) (z9 x))),g0 (au.row 3 I6 (List.replicate x' (-1:Int)))]/\ms.length - x' < ms.length - x_1) (rT z1 [SV.agg [SC.sl I6 (List.map (λx=>x.snd.fst) (z9 x)),SC.sl I6 (z6 x_1),SC.sl I6.sl z5,SC.sl I6 []],cI 0]))):=by
 conv=>zeta
 delta Yg D8 cI g0 rT I6;have hb:vs.length<=1000000/\ms.length<=1000000/\cs.length<=1000000:=⟨aH.1,aH.2.1,aH.2.2.1⟩;obtain⟨b1,b2,b3⟩:=hb;unfold qw;refine⟨aH,ah.2 ⟨λh=>⟨rfl,?_⟩,λh=>?_⟩⟩
 .rw[if_neg (by simpa using h)];rfl
 rw[if_pos (by simpa using h)]
 refine⟨⟨by omega,by omega,fQ.2 (by omega)⟩,⟨0,by omega,⟨rfl,trivial⟩,rfl⟩,λk hk=>ah.2 ⟨λg=>?_,λg=>?_⟩⟩
 .simp only[dV]at g;refine⟨⟨by omega,by omega⟩,λd hd=>⟨fQ.2 ?_,ay.2 (by omega),k+1,by omega,⟨rfl,trivial⟩,?_,by omega⟩⟩
  .simp only[Yp,mD,yP,Qh];omega
  .have hd:vs[k]?=some d:=hd;have e:List.map (λx:VD=>x.snd.fst) (List.take (k+1) vs)=List.map (λx:VD=>x.snd.fst) (List.take k vs)++[d.2.1]:=by rw[Tf,hd];simp
   rw[e]
 simp only[gG]at g;rw[zF (i:=k) (by omega)]
 refine⟨⟨0,by omega,⟨rfl,trivial⟩,rfl⟩,λj hj=>ah.2 ⟨λg2=>?_,λg2=>?_⟩⟩
 .simp only[dV]at g2;refine⟨fQ.2 ?_,ay.2 (by omega),j+1,by omega,⟨rfl,trivial⟩,?_,by omega⟩
  .simp only[MV];omega
  .have e:List.replicate (j+1) (-1:Int)=List.replicate j (-1)++[-1]:=List.replicate_succ';rw[show List.replicate (j+1) (-1:(Sh.int IntKind.i64).den)=List.replicate j (-1)++[-1] from e]
 simp only[gG]at g2;have ej:j=ms.length:=by omega
 subst ej;exact⟨rfl,rfl⟩
theorem ah4:aW aU.gd 33 SN:=
 eG (cx:=aU) (n:=52) (cl:=[(74,JU)]) (rc:=[.data yM,.keep]) aA ⟨ER,trivial⟩ Tryz.func33 λd hd=>by
  obtain⟨⟨vs,ms,cs,fs,ts,⟨⟩⟩,⟨⟩⟩:=d;exact aS (apZ vs ms cs fs ts) (am1 vs ms cs fs ts hd) (by kernel_rfl)
end
end Go.Proofs.YtjhenjhcbcalpaaGreatDoor
