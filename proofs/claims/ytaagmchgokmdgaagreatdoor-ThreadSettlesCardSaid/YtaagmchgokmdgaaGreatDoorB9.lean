/- Part 9 of the proof. Conditions: the rows'. -/
import Derived.Test.YtaagmchgokmdgaaGreatDoorB8
import Derived.Test.YtaagmchgokmdgaaGreatDoorCards
import Derived.Test.YtaagmchgokmdgaaGreatDoorTie
import Derived.WalkKit
import Derived.ProofKit
import Derived.OpenShut
import Derived.Deep.DeepHandedRow
import Derived.Lib.LaidTab
set_option linter.unusedSimpArgs false
set_option linter.unusedVariables false
set_option maxRecDepth 1000000
set_option maxHeartbeats 8000000
namespace Go.Proofs.YtaagmchgokmdgaaGreatDoor
open Go Go.lM
abbrev Ll:CT:={ ps:=[qN,.int .i64],pre:=λd=>bnd (d.1,()),res:=λd=>([],.one (.c (.v (.int .i64 (gU (bG d.1.1 d.1.2.1 d.1.2.2.1 d.1.2.2.2.1 d.1.2.2.2.2.1).1 d.2.1))))) }
theorem aeL(vs:List VD) (ms cs:List ByteArray) (fs:List FD) (ts:List SD) (bound:Int) (aS:Ll.pre ((vs,ms,cs,fs,ts,()),bound,())):
 let z2:=bG vs ms cs fs ts;let z1:=gU z2.fst bound;(vs.length<=1000000/\ms.length<=1000000/\cs.length<=1000000/\fs.length<=1000000/\ts.length<=1000000/\(∀(x:ByteArray×(kC.sl.pair Sh.unit).den),x∈fs->List.length x.snd.fst<=1000000)/\(dF fs).length<=1000000)/\br (!decide (z2.fst=0)) (qI z1 (z2.fst)) (br (decide (bound < 1) || decide (32 < bound)) (qI z1 (2:Int)) (qI z1 (0:Int))):=by
 conv=>zeta
 delta qI I6;have hb:bnd ((vs,ms,cs,fs,ts,()),()):=aS;refine⟨hb,ak.2 ⟨λh=>?_,λh=>ak.2 ⟨λh2=>?_,λh2=>?_⟩⟩⟩
 .have h:(bG vs ms cs fs ts).1≠0:=by simpa using h
  unfold gU;rw[if_pos h];exact⟨rfl,rfl⟩
 .have h:¬(bG vs ms cs fs ts).1≠0:=by simpa using h
  have h2:bound < 1\/32 < bound:=by simpa using h2
  unfold gU;rw[if_neg h,if_pos h2];exact⟨rfl,rfl⟩
 .have h:¬(bG vs ms cs fs ts).1≠0:=by simpa using h
  have h2:¬(bound < 1\/32 < bound):=by simp only[pz,iZ]at h2;omega
  unfold gU;rw[if_neg h,if_neg h2];exact⟨rfl,rfl⟩
theorem ZG:bJ bM.gd 18 Ll:=
 jA (cx:=bM) (n:=23) (cl:=[(37,KX)]) aF ⟨Zd,trivial⟩ Tryz.func18 λd hd=>by
  obtain⟨⟨vs,ms,cs,fs,ts,⟨⟩⟩,bound,⟨⟩⟩:=d;exact cO (λ_=>none) (aeL vs ms cs fs ts bound hd) (by kernel_rfl)
noncomputable abbrev Lm:CT:={ ps:=[qN,.int .i64,dK],pre:=λd=>True/\d.2.2.1.2.2.2.2.2.2.2.2.2.1.length<=1000000/\d.2.2.1.1<=9223372036854775807/\d.2.2.1.2.2.2.1.length=8,res:=λd=>([],vB (gy d.1.2.1 d.1.2.2.2.1 d.2.1 d.2.2.1)) }
abbrev ag1(vs:List VD) (ms cs:List ByteArray) (fs:List FD) (ts:List SD) (bound id fn pc:Int) (rg:List Int) (st ch ph su fa:Int) (he:List Int):Nat->Option (St->mO):=λk=>match k with
 | 4=>some λ_=>.inv { α:=Nat,slots:=λk=>[(7,.c (.v (.int .i64 k)))],res:=λ_=>[],inv:=λk=>k<=8/\∀j < k,∀r,rg[j]?=some r->dJ r=true,meas:=λk=>8 - k }
 | 11=>some λ_=>.inv { α:=Nat,slots:=λk=>[(8,.c (.v (.int .i64 k)))],res:=λ_=>[],inv:=λk=>k<=he.length/\(∀j < k,∀m,he[j]?=some m->0<=m/\m < ms.length)/\∀j,j+1 < k->∀x y,he[j]?=some x->he[j+1]?=some y->x < y,meas:=λk=>he.length - k }
 | _=>none
theorem aeM(vs:List VD) (ms cs:List ByteArray) (fs:List FD) (ts:List SD) (bound id fn pc:Int) (rg:List Int) (st ch ph su fa:Int) (he:List Int) (aS:Lm.pre ((vs,ms,cs,fs,ts,()),bound,(id,fn,pc,rg,st,ch,ph,su,fa,he,()),())):
 let z8:=(id,fn,pc,rg,st,ch,ph,su,fa,he,());let z4:=gy ms fs bound z8;let z3:=qB z4 false;let z1:=[g0 (aC.blk 27 [SC.sl Ea vs,SC.sl Sh.str ms,SC.sl Sh.str cs,SC.sl BM fs,SC.sl kV ts]),g0 (aC.obj 34 dK z8)];let z10:=λ(x:Nat)=>(x:Int)+(1:Int);let z2:=λ(x:Nat) (d iC:Int)=>decide (0 < (x:Int)) && !(decide (d < 0) || decide ((ms.length:Int)<=iC));let z9:=0<=fn/\fn < (fs.length:Int);let z7:=0<=pc/\pc < (↑(codeF fs fn).length:Int);let z6:=λ(d:ID)=>decide (d.fst=18)=true->he.length<=1000000;let z5:=λ(d:ID)=>decide (d.fst=18) && !gZ he d.snd.snd.snd.snd.snd.fst;id<=9223372036854775807/\((!(!decide (0<=bC id) || decide (fn < 0) || decide ((fs.length:Int)<=fn) || decide (pc < 0)))=true->0<=fn/\fn < (fs.length:Int))/\br (!decide (0<=bC id) || decide (fn < 0) || decide ((fs.length:Int)<=fn) || decide (pc < 0) || decide ((↑(codeF fs fn).length:Int) < pc)) z3 ((∃x,(x<=8/\∀(j:Nat),j < x->∀(r:Int),rg[j]?=some r->dJ r=true)/\(cI 0=cI (x:Int)/\True)/\sm z1)/\∀(x:Nat),(x<=8/\∀(j:Nat),j < x->∀(r:Int),rg[j]?=some r->dJ r=true)->br (decide ((x:Int) < (8:Int))) ((0<=(x:Int)/\(x:Int) < (8:Int))/\(x:Int).toNat < 8/\∀(d:Int),rg[(x:Int).toNat]?=some d->True/\br (!dJ d) z3 (iR (z10 x)/\∃x',(x'<=8/\∀(j:Nat),j < x'->∀(r:Int),rg[j]?=some r->dJ r=true)/\(cI (z10 x)=cI (x':Int)/\True)/\sm z1/\8 - x' < 8 - x)) (((decide (0 < ch) && !(decide (st < 0) || decide (bound < st) || decide (ch < 0) || decide (7 < ch)))=true->id<=9223372036854775807)/\br (decide (st < 0) || decide (bound < st) || decide (ch < 0) || decide (7 < ch) || decide (0 < ch) && decide (kJ id=4)) z3 ((∃x,(x<=he.length/\(∀(j:Nat),j < x->∀(m:Int),he[j]?=some m->0<=m/\m < (ms.length:Int))/\∀(j:Nat),j+1 < x->∀(x y:Int),he[j]?=some x->he[j+1]?=some y->x < y)/\(cI 0=cI (x:Int)/\True)/\sm z1)/\∀(x:Nat),(x<=he.length/\(∀(j:Nat),j < x->∀(m:Int),he[j]?=some m->0<=m/\m < (ms.length:Int))/\∀(j:Nat),j+1 < x->∀(x y:Int),he[j]?=some x->he[j+1]?=some y->x < y)->br (decide ((x:Int) < (he.length:Int))) ((0<=(x:Int)/\(x:Int) < (he.length:Int))/\∀(d:Int),he[(x:Int).toNat]?=some d->((!decide (d < 0))=true->0<=(x:Int)/\(x:Int) < (he.length:Int))/\∀(iC:Int),((!decide (d < 0))=true->he[(x:Int).toNat]?=some iC)->((z2 x d iC)=true->iR ((x:Int) - (1:Int)))/\((z2 x d iC)=true->0<=(x:Int) - (1:Int)/\(x:Int) - 1 < (he.length:Int))/\∀(V9:Int),((z2 x d iC)=true->he[((x:Int) - (1:Int)).toNat]?=some V9)->((z2 x d iC)=true->0<=(x:Int)/\(x:Int) < (he.length:Int))/\∀(d_3:Int),((z2 x d iC)=true->he[(x:Int).toNat]?=some d_3)->br (decide (d < 0) || decide ((ms.length:Int)<=iC) || decide (0 < (x:Int)) && decide (d_3<=V9)) z3 (iR (z10 x)/\∃x',(x'<=he.length/\(∀(j:Nat),j < x'->∀(m:Int),he[j]?=some m->0<=m/\m < (ms.length:Int))/\∀(j:Nat),j+1 < x'->∀(x y:Int),he[j]?=some x->he[j+1]?=some y->x < y)/\(cI (z10 x)=cI (x':Int)/\True)/\sm z1/\he.length - x' < he.length - x)) (br (decide (ph=0)) (qB z4 true) (((!(!decide (ph=1) && !decide (ph=2)))=true->0<=fn/\fn < (fs.length:Int))/\br (!decide (ph=1) && !decide (ph=2) || decide (pc=(↑(codeF fs fn).length:Int))) z3 ((z9/\z7/\∀(d:ID),(codeF fs fn)[pc.toNat]?=some d->(z6 d)/\qB z4 (z5 d))/\z9/\z7/\∀(d:ID),(codeF fs fn)[pc.toNat]?=some d->(z6 d)/\qB z4 (z5 d))))))):=by
 conv=>zeta
 delta cI g0 qB sm I6 iR;obtain⟨_,uK,hid,hrg⟩:True/\he.length<=1000000/\id<=9223372036854775807/\rg.length=8:=aS;have both:∀{A:Prop},A->A/\A:=λq=>⟨q,q⟩
 have fF:¬aQ ms fs bound (id,fn,pc,rg,st,ch,ph,su,fa,he,())->([]:List Go.lM.aC)=[]/\aW.one (SV.c (SC.v (Value.bool (gy ms fs bound (id,fn,pc,rg,st,ch,ph,su,fa,he,())))))=aW.one (SV.c (SC.v (Value.bool false))):=λq=>⟨rfl,by rw[uJ q]⟩
 refine⟨hid,λg=>by
  simp only[yS,pz,iZ,QN,iE]at g;show(0:Int)<=fn/\fn < (fs.length:Int);omega,ak.2 ⟨λh=>?_,λh=>?_⟩⟩
 .refine fF λq=>?_
  obtain⟨q1,q2,q3,_⟩:=q;simp only[uM,yS,iE,iZ]at h;omega
 simp only[pz,QN,iE,iZ]at h;obtain⟨⟨⟨⟨h1,h2⟩,h3⟩,h4⟩,h5⟩:=h;have hfn:0<=fn/\fn < (fs.length:Int):=by omega
 have hpc:0<=pc/\pc<=((codeF fs fn).length:Int):=by omega
 refine⟨⟨0,⟨by omega,λj hj=>by omega⟩,⟨rfl,trivial⟩,rfl⟩,λk hk=>ak.2 ⟨λh=>?_,λh=>?_⟩⟩
 .simp only[iE]at h;refine⟨by omega,by omega,λd hd=>⟨trivial,ak.2 ⟨λh6=>?_,λh6=>⟨aA.2 (by omega),k+1,⟨by omega,λj hj r hr=>?_⟩,⟨rfl,trivial⟩,rfl,by omega⟩⟩⟩⟩
  .refine fF λq=>?_
   have:=q.2.2.2.1 k (by omega) d hd
   rw[this]at h6;cases h6
  .by_cases ku:j=k
   .subst ku;have hd:rg[j]?=some d:=hd;rw[hd]at hr;cases hr;simpa using h6
   .exact hk.2 j (by omega) r hr
 simp only[iZ]at h;have hr:∀k < 8,∀r,rg[k]?=some r->dJ r=true:=λj hj r hr=>hk.2 j (by omega) r hr
 have hdm:kJ id=bC id:=by unfold kJ;rw[if_neg (by omega)]
 rw[hdm];refine⟨λ_=>hid,ak.2 ⟨λh7=>?_,λh7=>?_⟩⟩
 .refine fF λq=>?_
  obtain⟨_,_,_,_,q5,q6,q7,_⟩:=q;simp at h7;omega
 simp only[pz,A94,iZ]at h7;obtain⟨⟨⟨⟨a1,a2⟩,a3⟩,a4⟩,a5⟩:=h7;refine⟨⟨0,⟨by omega,λj hj=>by omega,λj hj=>by omega⟩,⟨rfl,trivial⟩,rfl⟩,λm hm=>ak.2 ⟨λh8=>?_,λh8=>?_⟩⟩
 .simp only[iE]at h8;refine⟨by omega,λd hd=>⟨λ_=>by omega,λd1 hd1=>⟨λ_=>aA.2 (by omega),λg=>by simp at g;omega,λd2 hd2=>⟨λ_=>by omega,λd3 hd3=>ak.2 ⟨λh9=>?_,λh9=>⟨aA.2 (by omega),m+1,⟨by omega,λj hj r hr=>?_,λj hj x y hx hy=>?_⟩,⟨rfl,trivial⟩,rfl,by omega⟩⟩⟩⟩⟩⟩
  .refine fF λq=>?_
   have hd:he[m]?=some d:=hd;have hq:=q.2.2.2.2.2.2.2.1 d (kT hd);have hd1:=hd1 (by simp;omega)
   have hd1:he[m]?=some d1:=hd1;rw[hd]at hd1;cases hd1
   by_cases m0:m=0
   .subst m0;simp at h9;omega
   have g:(decide (0 < (m:Int)) && !(decide (d < 0) || decide ((ms.length:Int)<=d)))=true:=by simp;omega
   have hd2:=hd2 g;have hd3:=hd3 g;rw[show((m:Int) - 1).toNat=m - 1 by omega]at hd2
   have hd2:he[m - 1]?=some d2:=hd2;have hd3:he[m - 1+1]?=some d3:=by rw[show m - 1+1=m by omega];exact hd3
   have:=Vs q.2.2.2.2.2.2.1 hd2 hd3;simp at h9;omega
  all_goals
   have hd:he[m]?=some d:=hd;have q0:0<=d:=by simp at h9;omega
   have hd1:=hd1 (by simp;omega)
   have hd1:he[m]?=some d1:=hd1;rw[hd]at hd1;cases hd1
  .by_cases ku:j=m
   .subst ku;rw[hd]at hr;cases hr;simp at h9;omega
   .exact hm.2.1 j (by omega) r hr
  .by_cases ku:j+1=m
   .have g:(decide (0 < (m:Int)) && !(decide (d < 0) || decide ((ms.length:Int)<=d)))=true:=by simp at h9 ⊢;omega
    have hd2:=hd2 g;have hd3:=hd3 g;rw[show((m:Int) - 1).toNat=j by omega]at hd2
    have hd2:he[j]?=some d2:=hd2;have hd3:he[m]?=some d3:=hd3;rw[ku,hd]at hy;cases hy;rw[hd]at hd3;cases hd3;rw[hd2]at hx;cases hx;simp at h9;omega
   .exact hm.2.2 j (by omega) x y hx hy
 simp only[iZ]at h8;have hmm:∀m∈he,0<=m/\m < (ms.length:Int):=λy hy=>by
  obtain⟨j,hj⟩:=Ja hy;exact hm.2.1 j (by have:=(eU.1 hj).1;omega) y hj
 have hss:SS he:=Lc λj x y hx hy=>hm.2.2 j (by have:=(eU.1 hy).1;omega) x y hx hy
 have base:(ph=0\/((ph=1\/ph=2)/\∃i,qm fs fn pc=some i/\i.1=18/\gZ he i.2.2.2.2.2.1=false))↔aQ ms fs bound (id,fn,pc,rg,st,ch,ph,su,fa,he,()):=
  ⟨λq=>⟨by omega,hfn,hpc,hr,by omega,⟨by omega,by omega,λe=>by omega⟩,hss,hmm,q⟩,λq=>q.2.2.2.2.2.2.2.2⟩
 have fB:∀b:Bool,(b=true↔(ph=0\/((ph=1\/ph=2)/\∃i,qm fs fn pc=some i/\i.1=18/\gZ he i.2.2.2.2.2.1=false)))->aW.one (SV.c (SC.v (Value.bool (gy ms fs bound (id,fn,pc,rg,st,ch,ph,su,fa,he,())))))=aW.one (SV.c (SC.v (Value.bool b))):=λb hb=>by
  have:gy ms fs bound (id,fn,pc,rg,st,ch,ph,su,fa,he,())=b:=by
   rw[Jb,hb,base,gG]
  rw[this]
 refine aP.2 ⟨λh9=>⟨rfl,fB _ (by simp[h9])⟩,λh9=>⟨λ_=>hfn,ak.2 ⟨λg=>⟨rfl,fB _ ?_⟩,λg=>both ⟨hfn,?_,λd hd=>⟨λ_=>uK,rfl,fB _ ?_⟩⟩⟩⟩⟩
 .by_cases g2:pc=((codeF fs fn).length:Int)
  .have ha:qm fs fn pc=none:=LJ (by omega)
   simp[h9,ha]
  .simp[g2]at g;simp[h9,g]
 .simp at g;omega
 .have ha:qm fs fn pc=some d:=hd;simp at g;have:ph=1\/ph=2:=by omega
  simp[h9,ha,this]
theorem ZH:bJ bM.gd 19 Lm:=
 jY (cx:=bM) (n:=161) (cl:=[(38,I8),(39,Gq),(40,VN),(41,OG),(42,Gp)]) (rc:=[]) aF ⟨Gn,OJ,ZB,OH,OI,trivial⟩ Tryz.func19 λd hd=>by
  obtain⟨⟨vs,ms,cs,fs,ts,⟨⟩⟩,bound,⟨id,fn,pc,rg,st,ch,ph,su,fa,he,⟨⟩⟩,⟨⟩⟩:=d;exact cO (ag1 vs ms cs fs ts bound id fn pc rg st ch ph su fa he) (aeM vs ms cs fs ts bound id fn pc rg st ch ph su fa he hd) (by kernel_rfl)
theorem VP{id fn pc st ch ph su fa:Int}{rg he:List Int}{u:Unit}{i:ID} (h:i.1=7):bF (id,fn,pc,rg,st,ch,ph,su,fa,he,u) i=((id,fn,pc,rg,st,ch,ph,2,0,he,()),false):=by
 obtain⟨op,a,b,c,obj,n,f,ord,u2⟩:=i;have h:op=7:=h;subst h;simp[bF]
theorem Lp{id fn pc st ch ph su fa:Int}{rg he:List Int}{u:Unit}{i:ID} (h:i.1=6) (h0:rg.getD i.2.2.1.toNat 0=0):bF (id,fn,pc,rg,st,ch,ph,su,fa,he,u) i=((id,fn,pc,rg,st,ch,ph,3,26,he,()),false):=by
 obtain⟨op,a,b,c,obj,n,f,ord,u2⟩:=i;have h:op=6:=h;have h0:rg.getD b.toNat 0=0:=h0;subst h;simp only[bF];rw[if_neg (by decide),if_neg (by decide),if_neg (by decide),if_neg (by decide),if_neg (by decide),if_pos ⟨trivial,h0⟩]
theorem VQ{id fn pc st ch ph su fa:Int}{rg he:List Int}{u:Unit}{i:ID} (h7:i.1≠7) (h6:¬(i.1=6/\rg.getD i.2.2.1.toNat 0=0)):(bF (id,fn,pc,rg,st,ch,ph,su,fa,he,u) i).2=true:=by
 obtain⟨op,a,b,c,obj,n,f,ord,u2⟩:=i;have h7:op≠7:=h7;have h6:¬(op=6/\rg.getD b.toNat 0=0):=h6;simp only[bF];rw[if_neg h6,if_neg h7]
 repeat' split
 all_goals rfl
theorem VR{f a b:Int} (h:1<=f/\f<=10):(dP f a b).2=0:=by
 unfold dP
 repeat' split
 all_goals first | rfl | omega
abbrev Lr:CT:={ ps:=[qN,.int .i64,dK],pre:=λd=>(bG d.1.1 d.1.2.1 d.1.2.2.1 d.1.2.2.2.1 d.1.2.2.2.2.1).1=0/\aQ d.1.2.1 d.1.2.2.2.1 d.2.1 d.2.2.1/\d.2.2.1.2.2.2.2.2.2.2.2.1=0/\d.2.2.1.2.2.2.2.2.2.2.2.2.1.length<=1000000/\d.2.2.1.1<=9223372036854775807/\d.2.2.1.2.2.2.1.length=8,res:=λd=>([],.one (.dat dK (dB d.1.2.2.2.1 d.2.1 256 d.2.2.1))) }
abbrev ag2(vs:List VD) (ms cs:List ByteArray) (fs:List FD) (ts:List SD) (bound id fn pc:Int) (rg:List Int) (st ch ph su fa:Int) (he:List Int):Nat->Option (St->mO):=λk=>match k with
 | 4=>some λ_=>.inv { α:=Nat×TD,slots:=λx=>[(7,.c (.v (.int .i64 x.1)))],res:=λx=>[(1,.obj 34 dK x.2)],inv:=λx=>x.1<=256/\aQ ms fs bound x.2/\x.2.2.2.2.2.2.2.2.2.2.1=he/\x.2.1=id/\x.2.2.2.2.1.length=8/\x.2.2.2.2.2.2.2.2.2.1=0/\dB fs bound (256 - x.1) x.2=dB fs bound 256 (id,fn,pc,rg,st,ch,ph,su,fa,he,()),meas:=λx=>257 - x.1 }
 | _=>none
theorem aeN(vs:List VD) (ms cs:List ByteArray) (fs:List FD) (ts:List SD) (bound id fn pc:Int) (rg:List Int) (st ch ph su fa:Int) (he:List Int) (aS:Lr.pre ((vs,ms,cs,fs,ts,()),bound,(id,fn,pc,rg,st,ch,ph,su,fa,he,()),())):
 let z10:=(id,fn,pc,rg,st,ch,ph,su,fa,he,());let z3:=λ(x:Nat×TD)=>x.fst<=256/\aQ ms fs bound x.snd/\x.snd.snd.snd.snd.snd.snd.snd.snd.snd.snd.fst=he/\x.snd.fst=id/\x.snd.snd.snd.snd.fst.length=8/\x.snd.snd.snd.snd.snd.snd.snd.snd.snd.fst=0/\dB fs bound (256 - x.fst) x.snd=dB fs bound 256 z10;let z7:=[SC.sl Ea vs,SC.sl Sh.str ms,SC.sl Sh.str cs,SC.sl BM fs,SC.sl kV ts];let z4:=λ(x:Nat×TD)=>[g0 (aC.blk 27 z7),g0 (aC.obj 34 dK x.snd),g0 (aC.obj 34 dK ((0:Int),(0:Int),(0:Int),List.replicate 8 (0:Int),(0:Int),(0:Int),(0:Int),(0:Int),(0:Int),[],())),g0 aC.gone];let z9:=λ(x:Nat×TD)=>0<=x.snd.snd.fst/\x.snd.snd.fst < (fs.length:Int);let z11:=λ(x:Nat×TD)=>codeF fs x.snd.snd.fst;let z8:=dB fs bound 256 z10;let z12:=aW.one (SV.dat dK z8);let z5:=λ(x:Nat×TD)=>rE z12 (aW.one (SV.dat dK ((x.2.fst,x.2.2.fst,x.2.2.2.fst,x.2.2.2.2.fst,x.2.2.2.2.2.fst,x.2.2.2.2.2.2.fst,x.2.2.2.2.2.2.2.fst,(2:Int),x.2.2.2.2.2.2.2.2.snd))));let z6:=λ(x:Nat×TD)=>0<=x.snd.snd.snd.fst/\x.snd.snd.snd.fst < (↑(z11 x).length:Int);let z2:=λ(x:Nat×TD) (d:ID)=>(List.length x.snd.snd.snd.snd.snd.snd.snd.snd.snd.snd.fst<=1000000/\x.snd.fst<=9223372036854775807)/\br (!decide (iD x.snd.fst x.snd.snd.snd.snd.snd.snd.fst x.snd.snd.snd.snd.snd.snd.snd.fst x.snd.snd.snd.snd.snd.snd.snd.snd.snd.snd.fst d=0)) (True/\rE z12 (aW.one (SV.dat dK (mW x.snd (3:Int) (iD x.snd.fst x.snd.snd.snd.snd.snd.snd.fst x.snd.snd.snd.snd.snd.snd.snd.fst x.snd.snd.snd.snd.snd.snd.snd.snd.snd.snd.fst d))))) (br (decide (x.snd.snd.snd.snd.snd.fst=bound)) (rE z12 (aW.one (SV.dat dK ((x.2.fst,x.2.2.fst,x.2.2.2.fst,x.2.2.2.2.fst,x.2.2.2.2.2.fst,x.2.2.2.2.2.2.fst,x.2.2.2.2.2.2.2.fst,(4:Int),x.2.2.2.2.2.2.2.2.snd))))) (rE z12 (aW.one (SV.dat dK (x.snd)))));let z1:=λ(x:Nat×TD) (d:ID)=>br (decide ((x.fst:Int)=(256:Int))) (True/\rE z12 (aW.one (SV.dat dK (mW x.snd (3:Int) (29:Int))))) (br (decide (d.fst=7)) (z5 x) ((decide (d.fst=6)=true->0<=d.snd.snd.fst/\d.snd.snd.fst < 8)/\(decide (d.fst=6)=true->Int.toNat d.snd.snd.fst < 8)/\∀(iC:Int),(decide (d.fst=6)=true->(x.2.2.2.2.fst,8,0).fst[Int.toNat d.snd.snd.fst]?=some iC)->br (decide (d.fst=6) && decide (iC=(0:Int))) (True/\rE z12 (aW.one (SV.dat dK (mW x.snd (3:Int) (26:Int))))) (((0<=d.snd.fst/\d.snd.fst < 8)/\(0<=d.snd.snd.fst/\d.snd.snd.fst < 8)/\(0<=d.snd.snd.snd.fst/\d.snd.snd.snd.fst < 8)/\(0<=x.snd.snd.snd.fst/\x.snd.snd.snd.fst<=1000000)/\(d.fst=3->(dP (d.snd.snd.snd.snd.snd.snd.fst,d.snd.snd.snd.snd.snd.snd.snd.fst,()).fst (List.getD x.snd.snd.snd.snd.fst (Int.toNat d.snd.snd.fst) (0:Int)) (List.getD x.snd.snd.snd.snd.fst (Int.toNat d.snd.snd.snd.fst) (0:Int))).snd=0)/\¬(d.fst=6/\List.getD x.snd.snd.snd.snd.fst (Int.toNat d.snd.snd.fst) (0:Int)=(0:Int))/\d.fst≠7)/\iR ((x.fst:Int)+(1:Int))/\∃(x':Nat×TD),(z3 x')/\(cI ((x.fst:Int)+(1:Int))=cI (x'.fst:Int)/\True)/\[g0 (aC.blk 27 z7),g0 (aC.obj 34 dK ((bF x.snd d).fst)),g0 (aC.obj 34 dK ((0:Int),(0:Int),(0:Int),List.replicate 8 (0:Int),(0:Int),(0:Int),(0:Int),(0:Int),(0:Int),[],())),g0 aC.gone]=(z4 x')/\257 - x'.fst < 257 - x.fst)));wE (0+List.length (he)) 8/\(∃(x:Nat×TD),(z3 x)/\(cI 0=cI (x.fst:Int)/\True)/\[g0 (aC.blk 27 z7),g0 (aC.obj 34 dK (id,fn,pc,rg,st,ch,ph,su,fa,([]++he),())),g0 (aC.obj 34 dK ((0:Int),(0:Int),(0:Int),List.replicate 8 (0:Int),(0:Int),(0:Int),(0:Int),(0:Int),(0:Int),[],())),g0 aC.gone]=(z4 x))/\∀(x:Nat×TD),x.fst<=256/\aQ ms fs bound x.snd/\x.snd.snd.snd.snd.snd.snd.snd.snd.snd.snd.fst=he/\x.snd.fst=id/\x.snd.snd.snd.snd.fst.length=8/\x.snd.snd.snd.snd.snd.snd.snd.snd.snd.fst=0/\dB fs bound (256 - x.fst) x.snd=dB fs bound 256 z10->(z9 x)/\br (decide (x.snd.snd.snd.fst=(↑(z11 x).length:Int))) (z5 x) (((z9 x)/\(z6 x)/\∀(d:ID),(z11 x)[Int.toNat x.snd.snd.snd.fst]?=some d->True/\br (jm d.fst) (z2 x d) (z1 x d))/\(z9 x)/\(z6 x)/\∀(d:ID),(z11 x)[Int.toNat x.snd.snd.snd.fst]?=some d->True/\br (jm d.fst) (z2 x d) (z1 x d)):=by
 conv=>zeta
 delta cI g0 rE I6 iR;obtain⟨hc,hF,hf0,uK,hid,hrg⟩:(bG vs ms cs fs ts).1=0/\aQ ms fs bound (id,fn,pc,rg,st,ch,ph,su,fa,he,())/\fa=0/\he.length<=1000000/\id<=9223372036854775807/\rg.length=8:=aS;have both:∀{A:Prop},A->A/\A:=λq=>⟨q,q⟩
 refine⟨lJ.2 (by omega),⟨(0,(id,fn,pc,rg,st,ch,ph,su,fa,he,())),⟨by omega,hF,rfl,rfl,hrg,hf0,rfl⟩,⟨rfl,trivial⟩,rfl⟩,λx hx=>?_⟩
 obtain⟨k,id',fn',pc',nV,st',ch',ug,xJ,y9,he',⟨⟩⟩:=x;obtain⟨x1,x2,x3,x4,x5,x7,x6⟩:=hx;have x1:k<=256:=x1;have x3:he'=he:=x3;have x4:id'=id:=x4;have x5:nV.length=8:=x5;have x7:y9=0:=x7;have x6:dB fs bound (256 - k) (id',fn',pc',nV,st',ch',ug,xJ,y9,he',())=dB fs bound 256 (id,fn,pc,rg,st,ch,ph,su,fa,he,()):=x6;have x2:aQ ms fs bound (id',fn',pc',nV,st',ch',ug,xJ,y9,he',()):=x2;subst x3;subst x4;subst x7;rw[<-x6];have hfn:=x2.2.1;have hpc:=x2.2.2.1;refine⟨hfn,aP.2 ⟨λh=>?_,λh=>both ⟨hfn,⟨hpc.1,?_⟩,λi ha=>?_⟩⟩⟩
 .have ha:qm fs fn' pc'=none:=by
   have h:pc'=((codeF fs fn').length:Int):=h;exact LJ (by omega)
  rw[Cc ha];exact⟨rfl,rfl⟩
 .have h:¬pc'=((codeF fs fn').length:Int):=h;show pc' < ((codeF fs fn').length:Int);omega
 have ha:qm fs fn' pc'=some i:=ha;have hci:=(qo (BR hc hfn ha)).1;obtain⟨r1,r2,r3,r4⟩:=kK hci;have h64:=qw hc hfn;refine⟨trivial,ak.2 ⟨λhv=>?_,λhv=>?_⟩⟩
 .have hv:jm i.1=true:=hv;rw[Gl ha hv];refine⟨⟨uK,hid⟩,ak.2 ⟨λh1=>?_,λh1=>aP.2 ⟨λh2=>?_,λh2=>?_⟩⟩⟩
  .have h1:iD id' ch' ug he' i≠0:=by simpa using h1
   rw[if_pos h1];exact⟨trivial,rfl,rfl⟩
  .have h1:¬iD id' ch' ug he' i≠0:=by simpa using h1
   have h2:st'=bound:=h2;rw[if_neg h1,if_pos h2];exact⟨rfl,rfl⟩
  .have h1:¬iD id' ch' ug he' i≠0:=by simpa using h1
   have h2:¬st'=bound:=h2;rw[if_neg h1,if_neg h2];exact⟨rfl,rfl⟩
 .have hv:jm i.1=false:=hv;refine aP.2 ⟨λh1=>?_,λh1=>?_⟩
  .have h1:k=256:=by
    have:(k:Int)=256:=h1;omega
   rw[h1,show 256 - 256=0 from rfl,Ce ha hv]
   exact⟨trivial,rfl,rfl⟩
  .have h1:¬k=256:=by
    have:¬(k:Int)=256:=h1;omega
   obtain⟨m,hm⟩:∃m,256 - k=m+1:=⟨255 - k,by omega⟩
   rw[hm,Ci ha hv];have hk:=o8 (id',fn',pc',nV,st',ch',ug,xJ,0,he',()) i;have hlen:=xG (id',fn',pc',nV,st',ch',ug,xJ,0,he',()) i;have hfo:=qp hc x2 ha hv;refine aP.2 ⟨λh7=>?_,λh7=>⟨λ_=>r2,λ_=>by omega,λd1 hd1=>ak.2 ⟨λg=>?_,λg=>?_⟩⟩⟩
   .rw[VP h7];exact⟨rfl,rfl⟩
   .rw[A8]at g;have h6:i.1=6:=ZX g.1;have h0:d1=0:=ZX g.2;have hd1:nV[i.2.2.1.toNat]?=some d1:=hd1 (Wx h6);have e0:nV.getD i.2.2.1.toNat 0=0:=by rw[Gu,hd1];exact h0
    rw[Lp h6 e0];exact⟨trivial,rfl,rfl⟩
   .have h6:¬(i.1=6/\nV.getD i.2.2.1.toNat 0=0):=λq=>by
     have hd1:nV[i.2.2.1.toNat]?=some d1:=hd1 (Wx q.1);have e0:nV.getD i.2.2.1.toNat 0=d1:=by rw[Gu,hd1];rfl
     have:=q.2;rw[e0]at this;rw[A94]at g;rcases g with g | g
     .exact absurd q.1 (QY g)
     .exact absurd this (QY g)
    have hmo:=VQ (id:=id') (fn:=fn') (pc:=pc') (st:=st') (ch:=ch') (ph:=ug) (su:=xJ) (fa:=0) (he:=he') (u:=()) h7 h6;refine⟨⟨r1,r2,r3,⟨hpc.1,show pc'<=1000000 by omega⟩,λh3=>VR (Zf hci h3),h6,h7⟩,aA.2 (show(-9223372036854775808:Int)<=(k:Int)+1/\(k:Int)+1<=9223372036854775807 by omega),(k+1,(bF (id',fn',pc',nV,st',ch',ug,xJ,0,he',()) i).1),⟨show k+1<=256 by omega,hfo,hk.2.2.2.2.2.1,hk.1,hlen.trans x5,(hk.2.2.2.2.2.2 hmo).2,?_⟩,⟨rfl,trivial⟩,rfl,show 257 - (k+1) < 257 - k by omega⟩
    show dB fs bound (256 - (k+1)) _=_;rw[if_pos hmo,show 256 - (k+1)=m by omega]
theorem ZI:bJ bM.gd 20 Lr:=
 jY (cx:=bM) (n:=75) (cl:=[(39,Gq),(43,VK),(44,VO),(45,aaK),(46,Lj)]) (rc:=[.data dK]) aF ⟨OJ,Zz,ZC,ZE,ZF,trivial⟩ Tryz.func20 λd hd=>by
  obtain⟨⟨vs,ms,cs,fs,ts,⟨⟩⟩,bound,⟨id,fn,pc,rg,st,ch,ph,su,fa,he,⟨⟩⟩,⟨⟩⟩:=d;exact cO (ag2 vs ms cs fs ts bound id fn pc rg st ch ph su fa he) (aeN vs ms cs fs ts bound id fn pc rg st ch ph su fa he hd) (by kernel_rfl)
theorem aeO(l:List ID):
 let z1:=aW.one (SV.agg [SC.sl Ea [({ data:=#[(120:UInt8)]:ByteArray },(0:Int),())],SC.sl Sh.str [],SC.sl Sh.str [],SC.sl BM [({ data:=#[(102:UInt8)]:ByteArray },l,())],SC.sl kV [((0:Int),(0:Int),())]]);rE z1 z1:=by
 conv=>zeta
 delta rE I6;exact⟨rfl,rfl⟩
theorem ZJ:bJ bM.gd 10 agV:=
 jY (cx:=bM) (n:=11) (cl:=[]) (rc:=[.data qN]) aF trivial Tryz.func10 λd hd=>by
  obtain⟨l,⟨⟩⟩:=d;exact cO (λ_=>none) (aeO l) (by kernel_rfl)
noncomputable abbrev aiD  : Nat->Option (St->mO):=λ_=>none
theorem ag3 :
 let z1:=1<=1000000/\0<=1000000/\0<=1000000/\1<=1000000/\1<=1000000/\(∀(x:ByteArray×(kC.sl.pair Sh.unit).den),x∈exF->List.length x.snd.fst<=1000000)/\2<=1000000;let z2:=[(3:Int),(0:Int),(0:Int),(0:Int),(0:Int),(0:Int),(0:Int),(0:Int)];let z4:=λ(d:Int)=>!(false || !decide (d=3));let z3:=qR (0:Int) [] exF (1:Int) exT (0:Int);True/\(z1/\(0:Int)<=(9223372036854775807:Int))/\(true=true->(0:Int)<=(0:Int)/\(0:Int) < (8:Int))/\(true=true->0 < 8)/\∀(d:Int),(true=true->(z2.set 1 (5:Int))[0]?=some d)->((z4 d)=true->(0:Int)<=(1:Int)/\(1:Int) < (8:Int))/\((z4 d)=true->1 < 8)/\∀(iC:Int),((z4 d)=true->(z2.set 1 (5:Int))[1]?=some iC)->((!(false || !decide (d=3) || !decide (iC=(5:Int)) || false))=true->z1/\0<=1000000/\(0:Int)<=(9223372036854775807:Int)/\8=8)/\br (false || !decide (d=3) || !decide (iC=(5:Int)) || false || !(true && y8 [] exF (1:Int) exT)) (qB true false) ((z1/\0<=1000000/\(0:Int)<=(9223372036854775807:Int)/\8=8)/\True/\((1<=1000000/\0<=1000000/\0<=1000000/\1<=1000000/\1<=1000000/\(∀(x:ByteArray×(kC.sl.pair Sh.unit).den),x∈[({ data:=#[(102:UInt8)]:ByteArray },[((4:Int),(0:Int),(0:Int),(0:Int),(0:Int),(0:Int),(0:Int),(0:Int),())],())]->List.length x.snd.fst<=1000000)/\1<=1000000)/\(0:Int)<=(9223372036854775807:Int))/\(1:Int)<=(9223372036854775807:Int)/\qB true (decide (z3.snd=0) && decide (z3.fst.snd.snd.fst=2) && decide (z3.fst.snd.snd.snd.snd.fst=1) && decide (z3.fst.snd.snd.snd.snd.snd.snd.snd.fst=2) && true && true && true && true && true)):=by
 conv=>zeta
 delta qB I6;have hc:(bG [(⟨#[120]⟩,0,())] [] [] exF [(0,0,())]).1=0:=by decide
 have hT:exT=(0,0,1,[3,5,0,0,0,0,0,0],0,0,0,1,0,[],()):=by kernel_rfl
 have hV:Jg [] exF 1 exT:=Oi hc (by omega) _ _ (BX [] (by omega) (by decide) (by decide) (by decide)) rfl rfl
 have hC:qR 0 [] exF 1 exT 0=((0,0,2,[3,5,0,0,0,0,0,0],1,0,0,2,0,[],()),0):=by
  rw[qR,if_neg (by decide),if_neg (λq=>q hV),if_neg (by rw[hT];simp),if_neg (by decide)]
  kernel_rfl
 have B:∀x∈exF,List.length x.2.1<=1000000:=by decide
 have B2:∀x∈([(⟨#[102]⟩,[(4,0,0,0,0,0,0,0,())],())]:List FD),List.length x.2.1<=1000000:=by decide
 refine⟨trivial,⟨⟨by omega,by omega,by omega,by omega,by omega,B,by omega⟩,by omega⟩,λ_=>by omega,λ_=>by omega,λd hd=>?_⟩
 have hd:=hd rfl;have e1:(3:Int)=d:=VZ hd;subst e1;refine⟨λ_=>by omega,λ_=>by omega,λd1 hd1=>?_⟩
 have hd1:=hd1 (by decide)
 have e2:(5:Int)=d1:=VZ hd1;subst e2;rw[hC,sK.2 hV];refine⟨λ_=>⟨⟨by omega,by omega,by omega,by omega,by omega,B,by omega⟩,by omega,by omega,rfl⟩,ak.2 ⟨λh=>?_,λ_=>⟨⟨⟨by omega,by omega,by omega,by omega,by omega,B,by omega⟩,by omega,by omega,rfl⟩,trivial,⟨⟨by omega,by omega,by omega,by omega,by omega,B2,by omega⟩,by omega⟩,by omega,rfl,?_⟩⟩⟩
 .simp at h
 .simp
theorem aeP:bJ bM.gd 5 aaI:=
 jY (cx:=bM) (n:=105) (cl:=[(10,agV),(11,VB),(12,aep),(13,VF),(14,Ot)]) (rc:=[]) aF ⟨ZJ,Zr,Zt,Zv,Ou,trivial⟩ Tryz.func5 λd hd=>by
  obtain⟨⟩:=d;exact cO (aiD ) (ag3 ) (by kernel_rfl)
theorem ag4(vs:List VD) (ms cs:List ByteArray) (fs:List FD) (ts:List SD) (bound r id fn pc:Int) (rg:List Int) (st ch ph su fa:Int) (he:List Int):
 True/\qB (Jf vs ms cs fs ts && decide (he.length<=20)) (Jf vs ms cs fs ts && decide ((he.length:Int)<=(20:Int))):=by
 delta qB;refine⟨trivial,rfl,?_⟩;rw[show decide (he.length<=20)=decide ((he.length:Int)<=20) by rw[Jb];simp;omega]
theorem aeQ:bJ bM.gd 4 aaJ:=
 jY (cx:=bM) (n:=13) (cl:=[(9,agF)]) (rc:=[]) aF ⟨adS,trivial⟩ Tryz.func4 λd hd=>by
  obtain⟨⟨⟨vs,ms,cs,fs,ts,⟨⟩⟩,bound,r,⟨id,fn,pc,rg,st,ch,ph,su,fa,he,⟨⟩⟩,⟨⟩⟩,⟨⟩⟩:=d;exact cO (λ_=>none) (ag4 vs ms cs fs ts bound r id fn pc rg st ch ph su fa he) (by kernel_rfl)
abbrev bP(vs:List VD) (ms cs:List ByteArray) (fs:List FD) (ts:List SD):aC:=.blk 27 [.sl Ea vs,.sl .str ms,.sl .str cs,.sl BM fs,.sl kV ts]
abbrev Wn:Cx:={ ti:=tis,gd:=gd0,cz:=true }
abbrev ag5:Sh:=.pair (.int .i64) (.pair (.int .i64) (.pair (.int .i64) (.pair (.arr 8 (.int .i64)) (.pair (.int .i64) (.pair (.int .i64) (.pair (.int .i64) (.pair (.int .i64) (.pair (.int .i64) (.pair .any .unit)))))))))
abbrev TDa:=Int×Int×Int×List Int×Int×Int×Int×Int×Int×Value×Unit
def ZK(t:TDa):TD:=(t.1,t.2.1,t.2.2.1,t.2.2.2.1,t.2.2.2.2.1,t.2.2.2.2.2.1,t.2.2.2.2.2.2.1,t.2.2.2.2.2.2.2.1,t.2.2.2.2.2.2.2.2.1,[],())
abbrev clT(t:TD) (x:SC):SV:=.agg [v6 (t).1,v6 (t).2.1,v6 (t).2.2.1,v6 ((t).2.2.2.1.getD 0 0),v6 ((t).2.2.2.1.getD 1 0),v6 ((t).2.2.2.1.getD 2 0),v6 ((t).2.2.2.1.getD 3 0),v6 ((t).2.2.2.1.getD 4 0),v6 ((t).2.2.2.1.getD 5 0),v6 ((t).2.2.2.1.getD 6 0),v6 ((t).2.2.2.1.getD 7 0),v6 (t).2.2.2.2.1,v6 (t).2.2.2.2.2.1,v6 (t).2.2.2.2.2.2.1,v6 (t).2.2.2.2.2.2.2.1,v6 (t).2.2.2.2.2.2.2.2.1,x]
abbrev Ls:CT:={ ps:=[ag5,.int .i64,.int .i64],pre:=λd=>True,res:=λd=>([],.one (clT (mW (ZK d.1) d.2.1 d.2.2.1) (.v d.1.2.2.2.2.2.2.2.2.2.1))) }
theorem ZL(id fn pc:Int) (rg:List Int) (st ch ph su fa:Int) (hx:Value) (s f:Int):
 rE (aW.one (SV.agg [v6 ((mW (ZK (id,fn,pc,rg,st,ch,ph,su,fa,hx,())) s f).fst),v6 fn,v6 pc,v6 (rg.getD 0 (0:Int)),v6 (rg.getD 1 (0:Int)),v6 (rg.getD 2 (0:Int)),v6 (rg.getD 3 (0:Int)),v6 (rg.getD 4 (0:Int)),v6 (rg.getD 5 (0:Int)),v6 (rg.getD 6 (0:Int)),v6 (rg.getD 7 (0:Int)),v6 st,v6 ch,v6 ph,v6 s,v6 f,SC.v hx])) (aW.one (SV.agg [v6 id,v6 fn,v6 pc,v6 (rg.getD 0 (0:Int)),v6 (rg.getD 1 (0:Int)),v6 (rg.getD 2 (0:Int)),v6 (rg.getD 3 (0:Int)),v6 (rg.getD 4 (0:Int)),v6 (rg.getD 5 (0:Int)),v6 (rg.getD 6 (0:Int)),v6 (rg.getD 7 (0:Int)),v6 st,v6 ch,v6 ph,v6 s,v6 f,SC.v hx])):=by
 exact⟨rfl,rfl⟩
theorem I9:bJ Wn.gd 33 Ls:=
 jY (cx:=Wn) (n:=12) (cl:=[]) (rc:=[.cel none]) aF trivial Tryz.func33 λd hd=>by
  obtain⟨⟨id,fn,pc,rg,st,ch,ph,su,fa,hx,⟨⟩⟩,s,f,⟨⟩⟩:=d;exact⟨λ_=>none,cast (by kernel_rfl) (ZL id fn pc rg st ch ph su fa hx s f)⟩
abbrev Lu:CT:={ ps:=[ag5,kC],pre:=λd=>(0<=d.2.1.2.1/\d.2.1.2.1 < 8)/\(0<=d.2.1.2.2.1/\d.2.1.2.2.1 < 8)/\(0<=d.2.1.2.2.2.1/\d.2.1.2.2.2.1 < 8)/\0<=d.1.2.2.1/\d.1.2.2.1<=1000000,res:=λd=>([],.iQ [clT (bF (ZK d.1) d.2.1).1 (.v d.1.2.2.2.2.2.2.2.2.2.1),.c (.v (.bool (bF (ZK d.1) d.2.1).2))]) }
theorem ZM(id fn pc:Int) (rg:List Int) (st ch ph su fa:Int) (hx:Value) (op a b c obj n fo ord:Int) (aS:Lu.pre ((id,fn,pc,rg,st,ch,ph,su,fa,hx,()),(op,a,b,c,obj,n,fo,ord,()),())):
 let z5:=ZK (id,fn,pc,rg,st,ch,ph,su,fa,hx,());let z4:=bF z5 (op,a,b,c,obj,n,fo,ord,());let z3:=[SV.agg [v6 (z4.fst.fst),v6 (z4.fst.snd.fst),v6 (z4.fst.snd.snd.fst),v6 (z4.fst.snd.snd.snd.fst.getD 0 (0:Int)),v6 (z4.fst.snd.snd.snd.fst.getD 1 (0:Int)),v6 (z4.fst.snd.snd.snd.fst.getD 2 (0:Int)),v6 (z4.fst.snd.snd.snd.fst.getD 3 (0:Int)),v6 (z4.fst.snd.snd.snd.fst.getD 4 (0:Int)),v6 (z4.fst.snd.snd.snd.fst.getD 5 (0:Int)),v6 (z4.fst.snd.snd.snd.fst.getD 6 (0:Int)),v6 (z4.fst.snd.snd.snd.fst.getD 7 (0:Int)),v6 (z4.fst.snd.snd.snd.snd.fst),v6 (z4.fst.snd.snd.snd.snd.snd.fst),v6 (z4.fst.snd.snd.snd.snd.snd.snd.fst),v6 (z4.fst.snd.snd.snd.snd.snd.snd.snd.fst),v6 (z4.fst.snd.snd.snd.snd.snd.snd.snd.snd.fst),SC.v hx],cB (z4.snd)];let z8:=rg.set a.toNat n;let z7:=λ(d:Int)=>rg.set a.toNat d;let z6:=λ(d iC:Int)=>rg.set a.toNat (dP fo d iC).fst;let z1:=rT z3 [SV.agg [v6 id,v6 fn,v6 (pc+1),v6 (rg.getD 0 (0:Int)),v6 (rg.getD 1 (0:Int)),v6 (rg.getD 2 (0:Int)),v6 (rg.getD 3 (0:Int)),v6 (rg.getD 4 (0:Int)),v6 (rg.getD 5 (0:Int)),v6 (rg.getD 6 (0:Int)),v6 (rg.getD 7 (0:Int)),v6 st,v6 ch,v6 ph,v6 su,v6 fa,SC.v hx],cB true];let z2:=rT z3 [SV.agg [v6 id,v6 fn,v6 n,v6 (rg.getD 0 (0:Int)),v6 (rg.getD 1 (0:Int)),v6 (rg.getD 2 (0:Int)),v6 (rg.getD 3 (0:Int)),v6 (rg.getD 4 (0:Int)),v6 (rg.getD 5 (0:Int)),v6 (rg.getD 6 (0:Int)),v6 (rg.getD 7 (0:Int)),v6 st,v6 ch,v6 ph,v6 su,v6 fa,SC.v hx],cB true];iR (pc+1)/\br (decide (op=1)) ((0<=a/\a < 8)/\a.toNat < 8/\rT z3 [SV.agg [v6 id,v6 fn,v6 (pc+1),v6 (z8.getD 0 (0:Int)),v6 (z8.getD 1 (0:Int)),v6 (z8.getD 2 (0:Int)),v6 (z8.getD 3 (0:Int)),v6 (z8.getD 4 (0:Int)),v6 (z8.getD 5 (0:Int)),v6 (z8.getD 6 (0:Int)),v6 (z8.getD 7 (0:Int)),v6 st,v6 ch,v6 ph,v6 su,v6 fa,SC.v hx],cB true]) (br (decide (op=2)) ((0<=b/\b < 8)/\b.toNat < 8/\∀(d:Int),rg[b.toNat]?=some d->(0<=a/\a < 8)/\a.toNat < 8/\rT z3 [SV.agg [v6 id,v6 fn,v6 (pc+1),v6 ((z7 d).getD 0 (0:Int)),v6 ((z7 d).getD 1 (0:Int)),v6 ((z7 d).getD 2 (0:Int)),v6 ((z7 d).getD 3 (0:Int)),v6 ((z7 d).getD 4 (0:Int)),v6 ((z7 d).getD 5 (0:Int)),v6 ((z7 d).getD 6 (0:Int)),v6 ((z7 d).getD 7 (0:Int)),v6 st,v6 ch,v6 ph,v6 su,v6 fa,SC.v hx],cB true]) (br (decide (op=3)) ((0<=b/\b < 8)/\b.toNat < 8/\∀(d:Int),rg[b.toNat]?=some d->(0<=c/\c < 8)/\c.toNat < 8/\∀(iC:Int),rg[c.toNat]?=some iC->True/\br (decide ((dP fo d iC).snd=0)) ((0<=a/\a < 8)/\a.toNat < 8/\rT z3 [SV.agg [v6 id,v6 fn,v6 (pc+1),v6 ((z6 d iC).getD 0 (0:Int)),v6 ((z6 d iC).getD 1 (0:Int)),v6 ((z6 d iC).getD 2 (0:Int)),v6 ((z6 d iC).getD 3 (0:Int)),v6 ((z6 d iC).getD 4 (0:Int)),v6 ((z6 d iC).getD 5 (0:Int)),v6 ((z6 d iC).getD 6 (0:Int)),v6 ((z6 d iC).getD 7 (0:Int)),v6 st,v6 ch,v6 ph,v6 su,v6 fa,SC.v hx],cB true]) z1) (br (decide (op=5)) ((0<=b/\b < 8)/\b.toNat < 8/\∀(d:Int),rg[b.toNat]?=some d->br (decide (d=0)) z1 z2) (br (decide (op=4)) z2 (br (decide (op=6)) ((0<=b/\b < 8)/\b.toNat < 8/\∀(d:Int),rg[b.toNat]?=some d->br (decide (d=0)) (True/\rT z3 [SV.agg [v6 ((mW z5 (3:Int) (26:Int)).fst),v6 fn,v6 pc,v6 (rg.getD 0 (0:Int)),v6 (rg.getD 1 (0:Int)),v6 (rg.getD 2 (0:Int)),v6 (rg.getD 3 (0:Int)),v6 (rg.getD 4 (0:Int)),v6 (rg.getD 5 (0:Int)),v6 (rg.getD 6 (0:Int)),v6 (rg.getD 7 (0:Int)),v6 st,v6 ch,v6 ph,v6 3,v6 26,SC.v hx],cB false]) z1) (br (decide (op=7)) (True/\rT z3 [SV.agg [v6 ((mW z5 (2:Int) (0:Int)).fst),v6 fn,v6 pc,v6 (rg.getD 0 (0:Int)),v6 (rg.getD 1 (0:Int)),v6 (rg.getD 2 (0:Int)),v6 (rg.getD 3 (0:Int)),v6 (rg.getD 4 (0:Int)),v6 (rg.getD 5 (0:Int)),v6 (rg.getD 6 (0:Int)),v6 (rg.getD 7 (0:Int)),v6 st,v6 ch,v6 ph,v6 2,v6 0,SC.v hx],cB false]) z1)))))):=by
 conv=>zeta
 delta iR;obtain⟨hA,hB,hC,hp0,hp1⟩:(0<=a/\a < 8)/\(0<=b/\b < 8)/\(0<=c/\c < 8)/\0<=pc/\pc<=1000000:=aS;have Vx:a.toNat < 8:=by omega
 have QK:b.toNat < 8:=by omega
 have hC8:c.toNat < 8:=by omega
 have gd:∀{x d:Int},rg[x.toNat]?=some d->rg.getD x.toNat 0=d:=λhd=>by rw[Gu,hd];rfl
 rw[show ZK (id,fn,pc,rg,st,ch,ph,su,fa,hx,())=(id,fn,pc,rg,st,ch,ph,su,fa,[],()) from rfl]
 refine⟨aA.2 (by omega),aP.2 ⟨λh=>?_,λh=>aP.2 ⟨λh2=>?_,λh2=>aP.2 ⟨λh3=>?_,λh3=>aP.2 ⟨λh4=>?_,λh4=>aP.2 ⟨λh5=>?_,λh5=>aP.2 ⟨λh6=>?_,λh6=>aP.2 ⟨λh7=>?_,λh7=>?_⟩⟩⟩⟩⟩⟩⟩⟩
 .have e:bF (id,fn,pc,rg,st,ch,ph,su,fa,[],()) (op,a,b,c,obj,n,fo,ord,())=((id,fn,pc+1,rg.set a.toNat n,st,ch,ph,su,fa,[],()),true):=by simp only[bF,if_pos h]
  rw[e];exact⟨hA,Vx,rfl,rfl⟩
 .refine⟨hB,QK,λd hd=>?_⟩
  have e:bF (id,fn,pc,rg,st,ch,ph,su,fa,[],()) (op,a,b,c,obj,n,fo,ord,())=((id,fn,pc+1,rg.set a.toNat d,st,ch,ph,su,fa,[],()),true):=by simp only[bF,if_neg h,if_pos h2,gd hd]
  rw[e];exact⟨hA,Vx,rfl,rfl⟩
 .refine⟨hB,QK,λd hd=>⟨hC,hC8,λd1 hd1=>⟨trivial,aP.2 ⟨λh8=>?_,λh8=>?_⟩⟩⟩⟩
  .have e:bF (id,fn,pc,rg,st,ch,ph,su,fa,[],()) (op,a,b,c,obj,n,fo,ord,())=((id,fn,pc+1,rg.set a.toNat (dP fo d d1).1,st,ch,ph,su,fa,[],()),true):=by simp only[bF,if_neg h,if_neg h2,if_pos h3,gd hd,gd hd1,if_pos h8]
   rw[e];exact⟨hA,Vx,rfl,rfl⟩
  .have e:bF (id,fn,pc,rg,st,ch,ph,su,fa,[],()) (op,a,b,c,obj,n,fo,ord,())=((id,fn,pc+1,rg,st,ch,ph,su,fa,[],()),true):=by simp only[bF,if_neg h,if_neg h2,if_pos h3,gd hd,gd hd1,if_neg h8]
   rw[e];exact⟨rfl,rfl⟩
 .have h45:¬op=4:=by omega
  refine⟨hB,QK,λd hd=>aP.2 ⟨λh8=>?_,λh8=>?_⟩⟩
  .have e:bF (id,fn,pc,rg,st,ch,ph,su,fa,[],()) (op,a,b,c,obj,n,fo,ord,())=((id,fn,pc+1,rg,st,ch,ph,su,fa,[],()),true):=by simp only[bF,if_neg h,if_neg h2,if_neg h3,if_neg h45,if_pos h4,gd hd,if_pos h8]
   rw[e];exact⟨rfl,rfl⟩
  .have e:bF (id,fn,pc,rg,st,ch,ph,su,fa,[],()) (op,a,b,c,obj,n,fo,ord,())=((id,fn,n,rg,st,ch,ph,su,fa,[],()),true):=by simp only[bF,if_neg h,if_neg h2,if_neg h3,if_neg h45,if_pos h4,gd hd,if_neg h8]
   rw[e];exact⟨rfl,rfl⟩
 .have e:bF (id,fn,pc,rg,st,ch,ph,su,fa,[],()) (op,a,b,c,obj,n,fo,ord,())=((id,fn,n,rg,st,ch,ph,su,fa,[],()),true):=by simp only[bF,if_neg h,if_neg h2,if_neg h3,if_pos h5]
  rw[e];exact⟨rfl,rfl⟩
 .refine⟨hB,QK,λd hd=>aP.2 ⟨λh8=>?_,λh8=>?_⟩⟩
  .have e:bF (id,fn,pc,rg,st,ch,ph,su,fa,[],()) (op,a,b,c,obj,n,fo,ord,())=((id,fn,pc,rg,st,ch,ph,3,26,[],()),false):=by simp only[bF,if_neg h,if_neg h2,if_neg h3,if_neg h5,if_neg h4,gd hd];rw[if_pos ⟨h6,h8⟩]
   rw[e];exact⟨trivial,rfl,rfl⟩
  .have h67:¬op=7:=by omega
   have e:bF (id,fn,pc,rg,st,ch,ph,su,fa,[],()) (op,a,b,c,obj,n,fo,ord,())=((id,fn,pc+1,rg,st,ch,ph,su,fa,[],()),true):=by simp only[bF,if_neg h,if_neg h2,if_neg h3,if_neg h5,if_neg h4,gd hd,if_neg h67];rw[if_neg λq=>h8 q.2]
   rw[e];exact⟨rfl,rfl⟩
 .have e:bF (id,fn,pc,rg,st,ch,ph,su,fa,[],()) (op,a,b,c,obj,n,fo,ord,())=((id,fn,pc,rg,st,ch,ph,2,0,[],()),false):=by simp only[bF,if_neg h,if_neg h2,if_neg h3,if_neg h5,if_neg h4,if_pos h7];rw[if_neg λq=>h6 q.1]
  rw[e];exact⟨trivial,rfl,rfl⟩
 .have e:bF (id,fn,pc,rg,st,ch,ph,su,fa,[],()) (op,a,b,c,obj,n,fo,ord,())=((id,fn,pc+1,rg,st,ch,ph,su,fa,[],()),true):=by simp only[bF,if_neg h,if_neg h2,if_neg h3,if_neg h5,if_neg h4,if_neg h7];rw[if_neg λq=>h6 q.1]
  rw[e];exact⟨rfl,rfl⟩
theorem VT:bJ Wn.gd 36 Lu:=
 jY (cx:=Wn) (n:=87) (cl:=[(56,Vr),(33,Ls)]) (rc:=[.cel none,.keep]) aF ⟨Ol,I9,trivial⟩ Tryz.func36 λd hd=>by
  obtain⟨⟨id,fn,pc,rg,st,ch,ph,su,fa,hx,⟨⟩⟩,⟨op,a,b,c,obj,n,fo,ord,⟨⟩⟩,⟨⟩⟩:=d;exact⟨λ_=>none,cast (by kernel_rfl) (ZM id fn pc rg st ch ph su fa hx op a b c obj n fo ord hd)⟩
def noH(t:TD):TD:=(t.1,t.2.1,t.2.2.1,t.2.2.2.1,t.2.2.2.2.1,t.2.2.2.2.2.1,t.2.2.2.2.2.2.1,t.2.2.2.2.2.2.2.1,t.2.2.2.2.2.2.2.2.1,[],())
theorem ZN(id fn pc:Int) (rg:List Int) (st ch ph su fa:Int) (he:List Int) (i:ID):bF (id,fn,pc,rg,st,ch,ph,su,fa,[],()) i=(noH (bF (id,fn,pc,rg,st,ch,ph,su,fa,he,()) i).1,(bF (id,fn,pc,rg,st,ch,ph,su,fa,he,()) i).2):=by
 unfold bF;simp only
 repeat' split
 all_goals rfl
theorem ag6{l:List Int} (h:l.length=8):[l.getD 0 0,l.getD 1 0,l.getD 2 0,l.getD 3 0,l.getD 4 0,l.getD 5 0,l.getD 6 0,l.getD 7 0]=l:=by
 match l,h with
 | [a,b,c,d,e,f,g,i],_=>rfl
noncomputable abbrev LC:CT:={ ps:=[qN,.int .i64,dK],pre:=λd=>(bG d.1.1 d.1.2.1 d.1.2.2.1 d.1.2.2.2.1 d.1.2.2.2.2.1).1=0/\aQ d.1.2.1 d.1.2.2.2.1 d.2.1 d.2.2.1/\d.2.2.1.2.2.2.2.2.2.2.2.2.1.length<=1000000/\d.2.2.1.1<=9223372036854775807/\d.2.2.1.2.2.2.1.length=8,res:=λd=>([.row 3 (.int .i64) d.2.2.1.2.2.2.2.2.2.2.2.2.1],.one (clT (dB d.1.2.2.2.1 d.2.1 256 d.2.2.1) (.row 0))) }
noncomputable abbrev aeR (vs:List VD) (ms cs:List ByteArray) (fs:List FD) (ts:List SD) (bound id fn pc:Int) (rg:List Int) (st ch ph su fa:Int) (he:List Int):Nat->Option (St->mO):=λk=>match k with
 | 1=>some λ_=>.cut { α:=Nat,pad:=3,can:=[(0,.slot 3),(1,.slot 5),(2,.slot 6)],rV:=[3004],slots:=λ_=>[(3,.c (.own 0 0)),(5,.c (.own 1 0)),(6,.c (.own 2 0))],res:=λ_=>[(0,.blk 27 [.sl Ea vs,.sl .str ms,.sl .str cs,.sl BM fs,.sl kV ts]),(1,.blk 34 [v6 ((id,fn,pc,rg,st,ch,ph,su,fa,he,())).1,v6 ((id,fn,pc,rg,st,ch,ph,su,fa,he,())).2.1,v6 ((id,fn,pc,rg,st,ch,ph,su,fa,he,())).2.2.1,v6 (((id,fn,pc,rg,st,ch,ph,su,fa,he,())).2.2.2.1.getD 0 0),v6 (((id,fn,pc,rg,st,ch,ph,su,fa,he,())).2.2.2.1.getD 1 0),v6 (((id,fn,pc,rg,st,ch,ph,su,fa,he,())).2.2.2.1.getD 2 0),v6 (((id,fn,pc,rg,st,ch,ph,su,fa,he,())).2.2.2.1.getD 3 0),v6 (((id,fn,pc,rg,st,ch,ph,su,fa,he,())).2.2.2.1.getD 4 0),v6 (((id,fn,pc,rg,st,ch,ph,su,fa,he,())).2.2.2.1.getD 5 0),v6 (((id,fn,pc,rg,st,ch,ph,su,fa,he,())).2.2.2.1.getD 6 0),v6 (((id,fn,pc,rg,st,ch,ph,su,fa,he,())).2.2.2.1.getD 7 0),v6 ((id,fn,pc,rg,st,ch,ph,su,fa,he,())).2.2.2.2.1,v6 ((id,fn,pc,rg,st,ch,ph,su,fa,he,())).2.2.2.2.2.1,v6 ((id,fn,pc,rg,st,ch,ph,su,fa,he,())).2.2.2.2.2.2.1,v6 ((id,fn,pc,rg,st,ch,ph,su,fa,he,())).2.2.2.2.2.2.2.1,v6 ((id,fn,pc,rg,st,ch,ph,su,fa,he,())).2.2.2.2.2.2.2.2.1,.sl (.int .i64) he]),(2,.blk 34 [v6 0,v6 0,v6 0,v6 0,v6 0,v6 0,v6 0,v6 0,v6 0,v6 0,v6 0,v6 0,v6 0,v6 0,v6 0,v6 0,.v (.slice none 0 0)])],inv:=λu=>u=0,meas:=λ_=>0 }
 | 4=>some λ_=>.inv { α:=Nat×TD,slots:=λx=>[(7,.c (.v (.int .i64 x.1)))],res:=λx=>[(1,.blk 34 [v6 (x.2).1,v6 (x.2).2.1,v6 (x.2).2.2.1,v6 ((x.2).2.2.2.1.getD 0 0),v6 ((x.2).2.2.2.1.getD 1 0),v6 ((x.2).2.2.2.1.getD 2 0),v6 ((x.2).2.2.2.1.getD 3 0),v6 ((x.2).2.2.2.1.getD 4 0),v6 ((x.2).2.2.2.1.getD 5 0),v6 ((x.2).2.2.2.1.getD 6 0),v6 ((x.2).2.2.2.1.getD 7 0),v6 (x.2).2.2.2.2.1,v6 (x.2).2.2.2.2.2.1,v6 (x.2).2.2.2.2.2.2.1,v6 (x.2).2.2.2.2.2.2.2.1,v6 (x.2).2.2.2.2.2.2.2.2.1,.row 3])],inv:=λx=>x.1<=256/\aQ ms fs bound x.2/\x.2.2.2.2.2.2.2.2.2.2.1=he/\x.2.1=id/\x.2.2.2.2.1.length=8/\dB fs bound (256 - x.1) x.2=dB fs bound 256 (id,fn,pc,rg,st,ch,ph,su,fa,he,()),meas:=λx=>257 - x.1 }
 | _=>none
theorem ZO(vs:List VD) (ms cs:List ByteArray) (fs:List FD) (ts:List SD) (bound id fn pc:Int) (rg:List Int) (st ch ph su fa:Int) (he:List Int) (aS:LC.pre ((vs,ms,cs,fs,ts,()),bound,(id,fn,pc,rg,st,ch,ph,su,fa,he,()),())):
 let z12:=bP vs ms cs fs ts;let z8:=[v6 0,v6 0,v6 0,v6 0,v6 0,v6 0,v6 0,v6 0,v6 0,v6 0,v6 0,v6 0,v6 0,v6 0,v6 0,v6 0,iN];let z10:=(id,fn,pc,rg,st,ch,ph,su,fa,he,());let z6:=λ(x:Nat×TD)=>x.fst<=256/\aQ ms fs bound x.snd/\x.snd.snd.snd.snd.snd.snd.snd.snd.snd.snd.fst=he/\x.snd.fst=id/\x.snd.snd.snd.snd.fst.length=8/\dB fs bound (256 - x.fst) x.snd=dB fs bound 256 z10;let z2:=λ(x:Nat×TD)=>[g0 z12,g0 (aC.blk 34 [v6 x.snd.fst,v6 x.snd.snd.fst,v6 x.snd.snd.snd.fst,v6 (x.snd.snd.snd.snd.fst.getD 0 (0:Int)),v6 (x.snd.snd.snd.snd.fst.getD 1 (0:Int)),v6 (x.snd.snd.snd.snd.fst.getD 2 (0:Int)),v6 (x.snd.snd.snd.snd.fst.getD 3 (0:Int)),v6 (x.snd.snd.snd.snd.fst.getD 4 (0:Int)),v6 (x.snd.snd.snd.snd.fst.getD 5 (0:Int)),v6 (x.snd.snd.snd.snd.fst.getD 6 (0:Int)),v6 (x.snd.snd.snd.snd.fst.getD 7 (0:Int)),v6 x.snd.snd.snd.snd.snd.fst,v6 x.snd.snd.snd.snd.snd.snd.fst,v6 x.snd.snd.snd.snd.snd.snd.snd.fst,v6 x.snd.snd.snd.snd.snd.snd.snd.snd.fst,v6 x.snd.snd.snd.snd.snd.snd.snd.snd.snd.fst,SC.row 3]),g0 (aC.blk 34 z8),g0 (aC.row 3 I6 he)];let z11:=λ(x:Nat×TD)=>atR fs x.snd.snd.fst x.snd.snd.snd.fst;let z13:=[aC.row 3 I6 he];let z9:=dB fs bound 256 z10;let z1:=[v6 (z9.fst),v6 (z9.snd.fst),v6 (z9.snd.snd.fst),v6 (z9.snd.snd.snd.fst.getD 0 (0:Int)),v6 (z9.snd.snd.snd.fst.getD 1 (0:Int)),v6 (z9.snd.snd.snd.fst.getD 2 (0:Int)),v6 (z9.snd.snd.snd.fst.getD 3 (0:Int)),v6 (z9.snd.snd.snd.fst.getD 4 (0:Int)),v6 (z9.snd.snd.snd.fst.getD 5 (0:Int)),v6 (z9.snd.snd.snd.fst.getD 6 (0:Int)),v6 (z9.snd.snd.snd.fst.getD 7 (0:Int)),v6 (z9.snd.snd.snd.snd.fst),v6 (z9.snd.snd.snd.snd.snd.fst),v6 (z9.snd.snd.snd.snd.snd.snd.fst),v6 (z9.snd.snd.snd.snd.snd.snd.snd.fst),v6 (z9.snd.snd.snd.snd.snd.snd.snd.snd.fst),SC.row 0];let z5:=λ(x:Nat×TD)=>[x.snd.snd.snd.snd.fst.getD 0 (0:Int),x.snd.snd.snd.snd.fst.getD 1 (0:Int),x.snd.snd.snd.snd.fst.getD 2 (0:Int),x.snd.snd.snd.snd.fst.getD 3 (0:Int),x.snd.snd.snd.snd.fst.getD 4 (0:Int),x.snd.snd.snd.snd.fst.getD 5 (0:Int),x.snd.snd.snd.snd.fst.getD 6 (0:Int),x.snd.snd.snd.snd.fst.getD 7 (0:Int)];let z4:=λ(x:Nat×TD) (x_1:Value)=>ZK (x.snd.fst,x.snd.snd.fst,x.snd.snd.snd.fst,(z5 x),x.snd.snd.snd.snd.snd.fst,x.snd.snd.snd.snd.snd.snd.fst,x.snd.snd.snd.snd.snd.snd.snd.fst,x.snd.snd.snd.snd.snd.snd.snd.snd.fst,x.snd.snd.snd.snd.snd.snd.snd.snd.snd.fst,x_1,());let z7:=λ(x:Nat×TD)=>iD x.snd.fst x.snd.snd.snd.snd.snd.snd.fst x.snd.snd.snd.snd.snd.snd.snd.fst he (z11 x).fst;let z3:=λ(x:Nat×TD) (x_1:Value)=>bF (z4 x x_1) (z11 x).fst;(∃v,v=0/\(SV.c (SC.own 0 0)=SV.c (SC.own 0 0)/\SV.c (SC.own 1 0)=SV.c (SC.own 1 0)/\SV.c (SC.own 2 0)=SV.c (SC.own 2 0)/\True)/\sm [g0 z12,g0 (aC.blk 34 [v6 id,v6 fn,v6 pc,v6 (rg.getD 0 (0:Int)),v6 (rg.getD 1 (0:Int)),v6 (rg.getD 2 (0:Int)),v6 (rg.getD 3 (0:Int)),v6 (rg.getD 4 (0:Int)),v6 (rg.getD 5 (0:Int)),v6 (rg.getD 6 (0:Int)),v6 (rg.getD 7 (0:Int)),v6 st,v6 ch,v6 ph,v6 su,v6 fa,SC.sl I6 he]),g0 (aC.blk 34 z8)])/\∀(v:Nat),v=0->he.length<=1000000/\(∃(x:Nat×TD),(z6 x)/\(cI 0=cI (x.fst:Int)/\True)/\[g0 z12,g0 (aC.blk 34 [v6 id,v6 fn,v6 pc,v6 (rg.getD 0 (0:Int)),v6 (rg.getD 1 (0:Int)),v6 (rg.getD 2 (0:Int)),v6 (rg.getD 3 (0:Int)),v6 (rg.getD 4 (0:Int)),v6 (rg.getD 5 (0:Int)),v6 (rg.getD 6 (0:Int)),v6 (rg.getD 7 (0:Int)),v6 st,v6 ch,v6 ph,v6 su,v6 fa,SC.row 3]),g0 (aC.blk 34 z8),g0 (aC.row 3 I6 he)]=(z2 x))/\∀(x:Nat×TD),x.fst<=256/\aQ ms fs bound x.snd/\x.snd.snd.snd.snd.snd.snd.snd.snd.snd.snd.fst=he/\x.snd.fst=id/\x.snd.snd.snd.snd.fst.length=8/\dB fs bound (256 - x.fst) x.snd=dB fs bound 256 z10->(0<=x.snd.snd.fst/\x.snd.snd.fst < (fs.length:Int)/\0<=x.snd.snd.snd.fst)/\br (!(z11 x).snd) (∀(x_1:Value),True/\x_1=x_1/\z13=z13/\aW.one (SV.agg z1)=aW.one (SV.agg [v6 ((mW (z4 x x_1) (2:Int) (0:Int)).fst),v6 x.snd.snd.fst,v6 x.snd.snd.snd.fst,v6 ((z5 x).getD 0 (0:Int)),v6 ((z5 x).getD 1 (0:Int)),v6 ((z5 x).getD 2 (0:Int)),v6 ((z5 x).getD 3 (0:Int)),v6 ((z5 x).getD 4 (0:Int)),v6 ((z5 x).getD 5 (0:Int)),v6 ((z5 x).getD 6 (0:Int)),v6 ((z5 x).getD 7 (0:Int)),v6 x.snd.snd.snd.snd.snd.fst,v6 x.snd.snd.snd.snd.snd.snd.fst,v6 x.snd.snd.snd.snd.snd.snd.snd.fst,v6 2,v6 0,SC.row 0])) (True/\br (jm (z11 x).fst.fst) ((he.length<=1000000/\x.snd.fst<=9223372036854775807)/\br (!decide (iD x.snd.fst x.snd.snd.snd.snd.snd.snd.fst x.snd.snd.snd.snd.snd.snd.snd.fst he (z11 x).fst=0)) (∀(x_1:Value),True/\x_1=x_1/\z13=z13/\aW.one (SV.agg z1)=aW.one (SV.agg [v6 ((mW (z4 x x_1) (3:Int) (z7 x)).fst),v6 x.snd.snd.fst,v6 x.snd.snd.snd.fst,v6 ((z5 x).getD 0 (0:Int)),v6 ((z5 x).getD 1 (0:Int)),v6 ((z5 x).getD 2 (0:Int)),v6 ((z5 x).getD 3 (0:Int)),v6 ((z5 x).getD 4 (0:Int)),v6 ((z5 x).getD 5 (0:Int)),v6 ((z5 x).getD 6 (0:Int)),v6 ((z5 x).getD 7 (0:Int)),v6 x.snd.snd.snd.snd.snd.fst,v6 x.snd.snd.snd.snd.snd.snd.fst,v6 x.snd.snd.snd.snd.snd.snd.snd.fst,v6 3,v6 (z7 x),SC.row 0])) (br (decide (x.snd.snd.snd.snd.snd.fst=bound)) (∀(x_1:Value),True/\x_1=x_1/\z13=z13/\aW.one (SV.agg z1)=aW.one (SV.agg [v6 ((mW (z4 x x_1) (4:Int) (0:Int)).fst),v6 x.snd.snd.fst,v6 x.snd.snd.snd.fst,v6 ((z5 x).getD 0 (0:Int)),v6 ((z5 x).getD 1 (0:Int)),v6 ((z5 x).getD 2 (0:Int)),v6 ((z5 x).getD 3 (0:Int)),v6 ((z5 x).getD 4 (0:Int)),v6 ((z5 x).getD 5 (0:Int)),v6 ((z5 x).getD 6 (0:Int)),v6 ((z5 x).getD 7 (0:Int)),v6 x.snd.snd.snd.snd.snd.fst,v6 x.snd.snd.snd.snd.snd.snd.fst,v6 x.snd.snd.snd.snd.snd.snd.snd.fst,v6 4,v6 0,SC.row 0])) (z13=z13/\aW.one (SV.agg z1)=aW.one (SV.agg [v6 x.snd.fst,v6 x.snd.snd.fst,v6 x.snd.snd.snd.fst,v6 (x.snd.snd.snd.snd.fst.getD 0 (0:Int)),v6 (x.snd.snd.snd.snd.fst.getD 1 (0:Int)),v6 (x.snd.snd.snd.snd.fst.getD 2 (0:Int)),v6 (x.snd.snd.snd.snd.fst.getD 3 (0:Int)),v6 (x.snd.snd.snd.snd.fst.getD 4 (0:Int)),v6 (x.snd.snd.snd.snd.fst.getD 5 (0:Int)),v6 (x.snd.snd.snd.snd.fst.getD 6 (0:Int)),v6 (x.snd.snd.snd.snd.fst.getD 7 (0:Int)),v6 x.snd.snd.snd.snd.snd.fst,v6 x.snd.snd.snd.snd.snd.snd.fst,v6 x.snd.snd.snd.snd.snd.snd.snd.fst,v6 x.snd.snd.snd.snd.snd.snd.snd.snd.fst,v6 x.snd.snd.snd.snd.snd.snd.snd.snd.snd.fst,SC.row 0])))) (br (decide ((x.fst:Int)=(256:Int))) (∀(x_1:Value),True/\x_1=x_1/\z13=z13/\aW.one (SV.agg z1)=aW.one (SV.agg [v6 ((mW (z4 x x_1) (3:Int) (29:Int)).fst),v6 x.snd.snd.fst,v6 x.snd.snd.snd.fst,v6 ((z5 x).getD 0 (0:Int)),v6 ((z5 x).getD 1 (0:Int)),v6 ((z5 x).getD 2 (0:Int)),v6 ((z5 x).getD 3 (0:Int)),v6 ((z5 x).getD 4 (0:Int)),v6 ((z5 x).getD 5 (0:Int)),v6 ((z5 x).getD 6 (0:Int)),v6 ((z5 x).getD 7 (0:Int)),v6 x.snd.snd.snd.snd.snd.fst,v6 x.snd.snd.snd.snd.snd.snd.fst,v6 x.snd.snd.snd.snd.snd.snd.snd.fst,v6 3,v6 29,SC.row 0])) (∀(x_1:Value),((0<=(z11 x).fst.snd.fst/\(z11 x).fst.snd.fst < 8)/\(0<=(z11 x).fst.snd.snd.fst/\(z11 x).fst.snd.snd.fst < 8)/\(0<=(z11 x).fst.snd.snd.snd.fst/\(z11 x).fst.snd.snd.snd.fst < 8)/\0<=x.snd.snd.snd.fst/\x.snd.snd.snd.fst<=1000000)/\x_1=x_1/\br (!(z3 x x_1).snd) (z13=z13/\aW.one (SV.agg z1)=aW.one (SV.agg [v6 ((z3 x x_1).fst.fst),v6 ((z3 x x_1).fst.snd.fst),v6 ((z3 x x_1).fst.snd.snd.fst),v6 ((z3 x x_1).fst.snd.snd.snd.fst.getD 0 (0:Int)),v6 ((z3 x x_1).fst.snd.snd.snd.fst.getD 1 (0:Int)),v6 ((z3 x x_1).fst.snd.snd.snd.fst.getD 2 (0:Int)),v6 ((z3 x x_1).fst.snd.snd.snd.fst.getD 3 (0:Int)),v6 ((z3 x x_1).fst.snd.snd.snd.fst.getD 4 (0:Int)),v6 ((z3 x x_1).fst.snd.snd.snd.fst.getD 5 (0:Int)),v6 ((z3 x x_1).fst.snd.snd.snd.fst.getD 6 (0:Int)),v6 ((z3 x x_1).fst.snd.snd.snd.fst.getD 7 (0:Int)),v6 ((z3 x x_1).fst.snd.snd.snd.snd.fst),v6 ((z3 x x_1).fst.snd.snd.snd.snd.snd.fst),v6 ((z3 x x_1).fst.snd.snd.snd.snd.snd.snd.fst),v6 ((z3 x x_1).fst.snd.snd.snd.snd.snd.snd.snd.fst),v6 ((z3 x x_1).fst.snd.snd.snd.snd.snd.snd.snd.snd.fst),SC.row 0])) (iR ((x.fst:Int)+(1:Int))/\∃(x':Nat×TD),(z6 x')/\(cI ((x.fst:Int)+(1:Int))=cI (x'.fst:Int)/\True)/\[g0 z12,g0 (aC.blk 34 [v6 ((z3 x x_1).fst.fst),v6 ((z3 x x_1).fst.snd.fst),v6 ((z3 x x_1).fst.snd.snd.fst),v6 ((z3 x x_1).fst.snd.snd.snd.fst.getD 0 (0:Int)),v6 ((z3 x x_1).fst.snd.snd.snd.fst.getD 1 (0:Int)),v6 ((z3 x x_1).fst.snd.snd.snd.fst.getD 2 (0:Int)),v6 ((z3 x x_1).fst.snd.snd.snd.fst.getD 3 (0:Int)),v6 ((z3 x x_1).fst.snd.snd.snd.fst.getD 4 (0:Int)),v6 ((z3 x x_1).fst.snd.snd.snd.fst.getD 5 (0:Int)),v6 ((z3 x x_1).fst.snd.snd.snd.fst.getD 6 (0:Int)),v6 ((z3 x x_1).fst.snd.snd.snd.fst.getD 7 (0:Int)),v6 ((z3 x x_1).fst.snd.snd.snd.snd.fst),v6 ((z3 x x_1).fst.snd.snd.snd.snd.snd.fst),v6 ((z3 x x_1).fst.snd.snd.snd.snd.snd.snd.fst),v6 ((z3 x x_1).fst.snd.snd.snd.snd.snd.snd.snd.fst),v6 ((z3 x x_1).fst.snd.snd.snd.snd.snd.snd.snd.snd.fst),SC.row 3]),g0 (aC.blk 34 z8),g0 (aC.row 3 I6 he)]=(z2 x')/\257 - x'.fst < 257 - x.fst)))):=by
 conv=>zeta
 delta iR iN;obtain⟨hc,hF,uK,hid,hrg⟩:(bG vs ms cs fs ts).1=0/\aQ ms fs bound (id,fn,pc,rg,st,ch,ph,su,fa,he,())/\he.length<=1000000/\id<=9223372036854775807/\rg.length=8:=aS;refine⟨⟨0,rfl,⟨rfl,rfl,rfl,trivial⟩,rfl⟩,λv _=>⟨uK,⟨(0,(id,fn,pc,rg,st,ch,ph,su,fa,he,())),⟨by omega,hF,rfl,rfl,hrg,rfl⟩,⟨rfl,trivial⟩,rfl⟩,λx hx=>?_⟩⟩
 obtain⟨k,id',fn',pc',nV,st',ch',ug,xJ,y9,he',⟨⟩⟩:=x;obtain⟨x1,x2,x3,x4,x5,x6⟩:=hx;have x1:k<=256:=x1;have x3:he'=he:=x3;have x4:id'=id:=x4;have x5:nV.length=8:=x5;have x6:dB fs bound (256 - k) (id',fn',pc',nV,st',ch',ug,xJ,y9,he',())=dB fs bound 256 (id,fn,pc,rg,st,ch,ph,su,fa,he,()):=x6;have x2:aQ ms fs bound (id',fn',pc',nV,st',ch',ug,xJ,y9,he',()):=x2;subst x3;subst x4;rw[<-x6];have hfn:=x2.2.1;have hpc:=x2.2.2.1;refine⟨⟨hfn.1,hfn.2,hpc.1⟩,?_⟩;show br (!(atR fs fn' pc').2) _ _;cases ha:qm fs fn' pc' with
 | none=>
   rw[show atR fs fn' pc'=((0,0,0,0,0,0,0,0,()),false) by unfold atR;rw[ha]]
   refine ak.2 ⟨λ_ y=>⟨trivial,rfl,rfl,?_⟩,λq=>by simp at q⟩
   rw[Cc ha];rfl
 | some i=>
   rw[show atR fs fn' pc'=(i,true) by unfold atR;rw[ha]]
   obtain⟨r1,r2,r3,r4⟩:=kK (qo (BR hc hfn ha)).1;have h64:=qw hc hfn;refine ak.2 ⟨λq=>by simp at q,λ_=>⟨trivial,ak.2 ⟨λhv=>?_,λhv=>?_⟩⟩⟩
   .have hv:jm i.1=true:=hv;rw[Gl ha hv];refine⟨⟨uK,hid⟩,ak.2 ⟨λh1=>?_,λh1=>ak.2 ⟨λh2=>?_,λh2=>?_⟩⟩⟩
    .have h1:iD id' ch' ug he' i≠0:=by simpa using h1
     rw[if_pos h1];exact λy=>⟨trivial,rfl,rfl,rfl⟩
    .have h1:¬iD id' ch' ug he' i≠0:=by simpa using h1
     have h2:st'=bound:=by simpa using h2
     rw[if_neg h1,if_pos h2];exact λy=>⟨trivial,rfl,rfl,rfl⟩
    .have h1:¬iD id' ch' ug he' i≠0:=by simpa using h1
     have h2:¬st'=bound:=by simpa using h2
     rw[if_neg h1,if_neg h2];exact⟨rfl,rfl⟩
   .have hv:jm i.1=false:=hv;refine ak.2 ⟨λh1=>?_,λh1=>?_⟩
    .have h1:k=256:=by
      have:(k:Int)=256:=by simpa using h1
      omega
     rw[h1,show 256 - 256=0 from rfl,Ce ha hv]
     exact λy=>⟨trivial,rfl,rfl,rfl⟩
    .have h1:¬k=256:=by
      have:¬(k:Int)=256:=by simpa using h1
      omega
     obtain⟨m,hm⟩:∃m,256 - k=m+1:=⟨255 - k,by omega⟩
     rw[hm,Ci ha hv];have hk:=o8 (id',fn',pc',nV,st',ch',ug,xJ,y9,he',()) i;have hlen:=xG (id',fn',pc',nV,st',ch',ug,xJ,y9,he',()) i;have hfo:=qp hc x2 ha hv;intro y;rw[show ZK (id',fn',pc',[nV.getD 0 0,nV.getD 1 0,nV.getD 2 0,nV.getD 3 0,nV.getD 4 0,nV.getD 5 0,nV.getD 6 0,nV.getD 7 0],st',ch',ug,xJ,y9,y,())=(id',fn',pc',nV,st',ch',ug,xJ,y9,[],()) by unfold ZK;rw[ag6 x5],ZN id' fn' pc' nV st' ch' ug xJ y9 he' i]
     refine⟨⟨r1,r2,r3,hpc.1,show pc'<=1000000 by omega⟩,rfl,ak.2 ⟨λh2=>?_,λh2=>⟨aA.2 (show(-9223372036854775808:Int)<=(k:Int)+1/\(k:Int)+1<=9223372036854775807 by omega),(k+1,(bF (id',fn',pc',nV,st',ch',ug,xJ,y9,he',()) i).1),⟨show k+1<=256 by omega,hfo,hk.2.2.2.2.2.1,hk.1,hlen.trans x5,?_⟩,⟨rfl,trivial⟩,rfl,show 257 - (k+1) < 257 - k by omega⟩⟩⟩
     .have h2:¬(bF (id',fn',pc',nV,st',ch',ug,xJ,y9,he',()) i).2=true:=by simpa using h2
      rw[if_neg h2];exact⟨rfl,rfl⟩
     .have h2:(bF (id',fn',pc',nV,st',ch',ug,xJ,y9,he',()) i).2=true:=by simpa using h2
      show dB fs bound (256 - (k+1)) _=_;rw[if_pos h2,show 256 - (k+1)=m by omega]
theorem VU:bJ Wn.gd 17 LC:=
 jY (cx:=Wn) (n:=59) (cl:=[(32,tV),(24,Ld),(34,Om),(35,I7),(33,Ls),(36,Lu)]) (rc:=[]) aF ⟨zD,xE,Gg,Gi,I9,VT,trivial⟩ Tryz.func17 λd hd=>by
  obtain⟨⟨vs,ms,cs,fs,ts,⟨⟩⟩,bound,⟨id,fn,pc,rg,st,ch,ph,su,fa,he,⟨⟩⟩,⟨⟩⟩:=d;exact⟨aeR vs ms cs fs ts bound id fn pc rg st ch ph su fa he,cast (by kernel_rfl) (ZO vs ms cs fs ts bound id fn pc rg st ch ph su fa he hd)⟩
theorem top_he{fs:List FD}{bound:Int}{t:TD}{rest:ID->TD} (hr:∀i,(rest i).2.2.2.2.2.2.2.2.2.1=t.2.2.2.2.2.2.2.2.2.1):(topS fs bound t rest).2.2.2.2.2.2.2.2.2.1=t.2.2.2.2.2.2.2.2.2.1:=by
 obtain⟨id,fn,pc,rg,st,ch,ph,su,fa,hd,u⟩:=t;unfold topS;simp only;split
 .rfl
 split
 .repeat' split
  all_goals rfl
 .exact hr _
theorem aeS(fs:List FD) (bound:Int):∀(k:Nat) (t:TD),(dB fs bound k t).2.2.2.2.2.2.2.2.2.1=t.2.2.2.2.2.2.2.2.2.1:=by
 intro k
 induction k with
 | zero=>
   intro t;rw[dB];exact top_he λi=>rfl
 | succ k ih=>
   intro t;rw[dB];refine top_he λi=>?_
   split
   .exact(ih _).trans (o8 t i).2.2.2.2.2.1
   .exact(o8 t i).2.2.2.2.2.1
noncomputable abbrev LD:CT:={ ps:=[qN,.int .i64,dK],pre:=λd=>bnd (d.1,())/\d.2.2.1.2.2.2.2.2.2.2.2.2.1.length<=1000000/\d.2.2.1.1<=9223372036854775807/\d.2.2.1.2.2.2.1.length=8,res:=λd=>([.row 3 (.int .i64) (iL (bG d.1.1 d.1.2.1 d.1.2.2.1 d.1.2.2.2.1 d.1.2.2.2.2.1).1 d.1.2.1 d.1.2.2.2.1 d.2.1 d.2.2.1).1.2.2.2.2.2.2.2.2.2.1],.iQ [clT (iL (bG d.1.1 d.1.2.1 d.1.2.2.1 d.1.2.2.2.1 d.1.2.2.2.2.1).1 d.1.2.1 d.1.2.2.2.1 d.2.1 d.2.2.1).1 (.row 0),.c (.v (.int .i64 (iL (bG d.1.1 d.1.2.1 d.1.2.2.1 d.1.2.2.2.1 d.1.2.2.2.2.1).1 d.1.2.1 d.1.2.2.2.1 d.2.1 d.2.2.1).2))]) }
theorem aeT(vs:List VD) (ms cs:List ByteArray) (fs:List FD) (ts:List SD) (bound id fn pc:Int) (rg:List Int) (st ch ph su fa:Int) (he:List Int) (aS:LD.pre ((vs,ms,cs,fs,ts,()),bound,(id,fn,pc,rg,st,ch,ph,su,fa,he,()),())):
 let z7:=bG vs ms cs fs ts;let z6:=(id,fn,pc,rg,st,ch,ph,su,fa,he,());let z4:=iL z7.fst ms fs bound z6;let z2:=[aC.row 3 I6 z4.fst.snd.snd.snd.snd.snd.snd.snd.snd.snd.fst];let z8:=[aC.row 3 I6 []];let z1:=[SV.agg [v6 (z4.fst.fst),v6 (z4.fst.snd.fst),v6 (z4.fst.snd.snd.fst),v6 (z4.fst.snd.snd.snd.fst.getD 0 (0:Int)),v6 (z4.fst.snd.snd.snd.fst.getD 1 (0:Int)),v6 (z4.fst.snd.snd.snd.fst.getD 2 (0:Int)),v6 (z4.fst.snd.snd.snd.fst.getD 3 (0:Int)),v6 (z4.fst.snd.snd.snd.fst.getD 4 (0:Int)),v6 (z4.fst.snd.snd.snd.fst.getD 5 (0:Int)),v6 (z4.fst.snd.snd.snd.fst.getD 6 (0:Int)),v6 (z4.fst.snd.snd.snd.fst.getD 7 (0:Int)),v6 (z4.fst.snd.snd.snd.snd.fst),v6 (z4.fst.snd.snd.snd.snd.snd.fst),v6 (z4.fst.snd.snd.snd.snd.snd.snd.fst),v6 (z4.fst.snd.snd.snd.snd.snd.snd.snd.fst),v6 (z4.fst.snd.snd.snd.snd.snd.snd.snd.snd.fst),SC.row 0],cI (z4.snd)];let z3:=[v6 0,v6 0,v6 0,v6 0,v6 0,v6 0,v6 0,v6 0,v6 0,v6 0,v6 0,v6 0,v6 0,v6 0,v6 0,v6 0,SC.row 0];let z5:=dB fs bound 256 z6;(vs.length<=1000000/\ms.length<=1000000/\cs.length<=1000000/\fs.length<=1000000/\ts.length<=1000000/\(∀(x:ByteArray×(kC.sl.pair Sh.unit).den),x∈fs->List.length x.snd.fst<=1000000)/\(dF fs).length<=1000000)/\br (!decide (gU z7.fst bound=0)) (z2=z8/\aW.iQ z1=aW.iQ [SV.agg z3,cI (gU z7.fst bound)]) ((True/\he.length<=1000000/\id<=9223372036854775807/\rg.length=8)/\br (!gy ms fs bound z6 || !decide (fa=0)) (z2=z8/\aW.iQ z1=aW.iQ [SV.agg z3,cI 1]) (br (!decide (su=1)) (z2=z8/\aW.iQ z1=aW.iQ [SV.agg z3,cI 30]) ((z7.fst=0/\aQ ms fs bound z6/\he.length<=1000000/\id<=9223372036854775807/\rg.length=8)/\z2=[aC.row 3 I6 he]/\aW.iQ z1=aW.iQ [SV.agg [v6 (z5.fst),v6 (z5.snd.fst),v6 (z5.snd.snd.fst),v6 (z5.snd.snd.snd.fst.getD 0 (0:Int)),v6 (z5.snd.snd.snd.fst.getD 1 (0:Int)),v6 (z5.snd.snd.snd.fst.getD 2 (0:Int)),v6 (z5.snd.snd.snd.fst.getD 3 (0:Int)),v6 (z5.snd.snd.snd.fst.getD 4 (0:Int)),v6 (z5.snd.snd.snd.fst.getD 5 (0:Int)),v6 (z5.snd.snd.snd.fst.getD 6 (0:Int)),v6 (z5.snd.snd.snd.fst.getD 7 (0:Int)),v6 (z5.snd.snd.snd.snd.fst),v6 (z5.snd.snd.snd.snd.snd.fst),v6 (z5.snd.snd.snd.snd.snd.snd.fst),v6 (z5.snd.snd.snd.snd.snd.snd.snd.fst),v6 (z5.snd.snd.snd.snd.snd.snd.snd.snd.fst),SC.row 0],cI 0]))):=by
 conv=>zeta
 delta v6 cI I6;obtain⟨hb,uK,hid,hrg⟩:bnd ((vs,ms,cs,fs,ts,()),())/\he.length<=1000000/\id<=9223372036854775807/\rg.length=8:=aS;refine⟨hb,ak.2 ⟨λh=>?_,λh=>⟨⟨trivial,uK,hid,hrg⟩,ak.2 ⟨λh2=>?_,λh2=>ak.2 ⟨λh3=>?_,λh3=>?_⟩⟩⟩⟩⟩
 .have h:gU (bG vs ms cs fs ts).1 bound≠0:=by simpa using h
  have e:iL (bG vs ms cs fs ts).1 ms fs bound (id,fn,pc,rg,st,ch,ph,su,fa,he,())=(zT,gU (bG vs ms cs fs ts).1 bound):=by unfold iL;rw[if_pos h]
  rw[e];exact⟨rfl,rfl⟩
 all_goals have h:¬gU (bG vs ms cs fs ts).1 bound≠0:=by simpa using h
 .have h2:¬aQ ms fs bound (id,fn,pc,rg,st,ch,ph,su,fa,he,())\/fa≠0:=by
   rw[uM]at h2;rcases h2 with q | q
   .left;intro q2;rw[gG.2 q2]at q;cases q
   .right;simpa using q
  have e:iL (bG vs ms cs fs ts).1 ms fs bound (id,fn,pc,rg,st,ch,ph,su,fa,he,())=(zT,1):=by unfold iL;rw[if_neg h,if_pos h2]
  rw[e];exact⟨rfl,rfl⟩
 all_goals
  have hF:aQ ms fs bound (id,fn,pc,rg,st,ch,ph,su,fa,he,()):=gG.1 (by simpa using(pz.1 h2).1)
  have hf0:fa=0:=by simpa using(pz.1 h2).2
  have h2:¬(¬aQ ms fs bound (id,fn,pc,rg,st,ch,ph,su,fa,he,())\/fa≠0):=λq=>q.elim (λq=>q hF) (λq=>q hf0)
 .have h3:su≠1:=by simpa using h3
  have e:iL (bG vs ms cs fs ts).1 ms fs bound (id,fn,pc,rg,st,ch,ph,su,fa,he,())=(zT,30):=by unfold iL;rw[if_neg h,if_neg h2,if_pos h3]
  rw[e];exact⟨rfl,rfl⟩
 .have h3:¬su≠1:=by simpa using h3
  have e:iL (bG vs ms cs fs ts).1 ms fs bound (id,fn,pc,rg,st,ch,ph,su,fa,he,())=(dB fs bound 256 (id,fn,pc,rg,st,ch,ph,su,fa,he,()),0):=by unfold iL;rw[if_neg h,if_neg h2,if_neg h3]
  have hs:=mM.1 (OM.1 h);rw[e];exact⟨⟨hs.1,hF,uK,hid,hrg⟩,qy (λz=>[aC.row 3 (.int .i64) z]) (aeS fs bound 256 (id,fn,pc,rg,st,ch,ph,su,fa,he,())),rfl⟩
theorem ZP:bJ Wn.gd 6 LD:=
 jY (cx:=Wn) (n:=35) (cl:=[(15,Em),(16,Ox),(17,LC)]) (rc:=[.cel (some (3,.int .i64,16)),.keep]) aF ⟨zH,Oy,VU,trivial⟩ Tryz.func6 λd hd=>by
  obtain⟨⟨vs,ms,cs,fs,ts,⟨⟩⟩,bound,⟨id,fn,pc,rg,st,ch,ph,su,fa,he,⟨⟩⟩,⟨⟩⟩:=d;exact⟨λ_=>none,cast (by kernel_rfl) (aeT vs ms cs fs ts bound id fn pc rg st ch ph su fa he hd)⟩
noncomputable abbrev LG:CT:={ ps:=[qN,.int .i64,dK],pre:=λd=>bnd (d.1,())/\d.2.2.1.2.2.2.2.2.2.2.2.2.1.length<=1000000/\d.2.2.1.1<=9223372036854775807/\d.2.2.1.2.2.2.1.length=8,res:=λd=>([],.iQ [.dat dK (iL (bG d.1.1 d.1.2.1 d.1.2.2.1 d.1.2.2.2.1 d.1.2.2.2.2.1).1 d.1.2.1 d.1.2.2.2.1 d.2.1 d.2.2.1).1,.c (.v (.int .i64 (iL (bG d.1.1 d.1.2.1 d.1.2.2.1 d.1.2.2.2.1 d.1.2.2.2.2.1).1 d.1.2.1 d.1.2.2.2.1 d.2.1 d.2.2.1).2))]) }
theorem ag7(vs:List VD) (ms cs:List ByteArray) (fs:List FD) (ts:List SD) (bound id fn pc:Int) (rg:List Int) (st ch ph su fa:Int) (he:List Int) (aS:LG.pre ((vs,ms,cs,fs,ts,()),bound,(id,fn,pc,rg,st,ch,ph,su,fa,he,()),())):
 let z4:=bG vs ms cs fs ts;let z3:=(id,fn,pc,rg,st,ch,ph,su,fa,he,());let z2:=iL z4.fst ms fs bound z3;let z1:=[SV.dat dK z2.fst,cI (z2.snd)];(vs.length<=1000000/\ms.length<=1000000/\cs.length<=1000000/\fs.length<=1000000/\ts.length<=1000000/\(∀(x:ByteArray×(kC.sl.pair Sh.unit).den),x∈fs->List.length x.snd.fst<=1000000)/\(dF fs).length<=1000000)/\br (!decide (gU z4.fst bound=0)) (rT z1 [SV.dat dK ((0:Int),(0:Int),(0:Int),OC,(0:Int),(0:Int),(0:Int),(0:Int),(0:Int),[],()),cI (gU z4.fst bound)]) ((True/\he.length<=1000000/\id<=9223372036854775807/\rg.length=8)/\br (!gy ms fs bound z3 || !decide (fa=0)) (rT z1 [SV.dat dK ((0:Int),(0:Int),(0:Int),OC,(0:Int),(0:Int),(0:Int),(0:Int),(0:Int),[],()),cI 1]) (br (!decide (su=1)) (rT z1 [SV.dat dK ((0:Int),(0:Int),(0:Int),OC,(0:Int),(0:Int),(0:Int),(0:Int),(0:Int),[],()),cI 30]) ((z4.fst=0/\aQ ms fs bound z3/\fa=0/\he.length<=1000000/\id<=9223372036854775807/\rg.length=8)/\rT z1 [SV.dat dK (dB fs bound 256 z3),cI 0]))):=by
 conv=>zeta
 delta OC cI rT I6;obtain⟨hb,uK,hid,hrg⟩:bnd ((vs,ms,cs,fs,ts,()),())/\he.length<=1000000/\id<=9223372036854775807/\rg.length=8:=aS;refine⟨hb,ak.2 ⟨λh=>?_,λh=>⟨⟨trivial,uK,hid,hrg⟩,ak.2 ⟨λh2=>?_,λh2=>ak.2 ⟨λh3=>?_,λh3=>?_⟩⟩⟩⟩⟩
 .have h:gU (bG vs ms cs fs ts).1 bound≠0:=by simpa using h
  have e:iL (bG vs ms cs fs ts).1 ms fs bound (id,fn,pc,rg,st,ch,ph,su,fa,he,())=(zT,gU (bG vs ms cs fs ts).1 bound):=by unfold iL;rw[if_pos h]
  rw[e];exact⟨rfl,rfl⟩
 all_goals have h:¬gU (bG vs ms cs fs ts).1 bound≠0:=by simpa using h
 .have h2:¬aQ ms fs bound (id,fn,pc,rg,st,ch,ph,su,fa,he,())\/fa≠0:=by
   rw[uM]at h2;rcases h2 with q | q
   .left;intro q2;rw[gG.2 q2]at q;cases q
   .right;simpa using q
  have e:iL (bG vs ms cs fs ts).1 ms fs bound (id,fn,pc,rg,st,ch,ph,su,fa,he,())=(zT,1):=by unfold iL;rw[if_neg h,if_pos h2]
  rw[e];exact⟨rfl,rfl⟩
 all_goals
  have hF:aQ ms fs bound (id,fn,pc,rg,st,ch,ph,su,fa,he,()):=gG.1 (by simpa using(pz.1 h2).1)
  have hf0:fa=0:=by simpa using(pz.1 h2).2
  have h2:¬(¬aQ ms fs bound (id,fn,pc,rg,st,ch,ph,su,fa,he,())\/fa≠0):=λq=>q.elim (λq=>q hF) (λq=>q hf0)
 .have h3:su≠1:=by simpa using h3
  have e:iL (bG vs ms cs fs ts).1 ms fs bound (id,fn,pc,rg,st,ch,ph,su,fa,he,())=(zT,30):=by unfold iL;rw[if_neg h,if_neg h2,if_pos h3]
  rw[e];exact⟨rfl,rfl⟩
 .have h3:¬su≠1:=by simpa using h3
  have e:iL (bG vs ms cs fs ts).1 ms fs bound (id,fn,pc,rg,st,ch,ph,su,fa,he,())=(dB fs bound 256 (id,fn,pc,rg,st,ch,ph,su,fa,he,()),0):=by unfold iL;rw[if_neg h,if_neg h2,if_neg h3]
  have hs:=mM.1 (OM.1 h);rw[e];exact⟨⟨hs.1,hF,hf0,uK,hid,hrg⟩,rfl,rfl⟩
theorem aeU:bJ bM.gd 7 LG:=
 jY (cx:=bM) (n:=35) (cl:=[(18,Ll),(19,Lm),(20,Lr)]) (rc:=[.data dK,.keep]) aF ⟨ZG,ZH,ZI,trivial⟩ Tryz.func7 λd hd=>by
  obtain⟨⟨vs,ms,cs,fs,ts,⟨⟩⟩,bound,⟨id,fn,pc,rg,st,ch,ph,su,fa,he,⟨⟩⟩,⟨⟩⟩:=d;exact cO (λ_=>none) (ag7 vs ms cs fs ts bound id fn pc rg st ch ph su fa he hd) (by kernel_rfl)
abbrev ag8:CT:={ ps:=[.pair qN (.pair (.int .i64) (.pair (.int .i64) (.pair dK .unit)))],pre:=λd=>d.1.2.2.2.1.1<=9223372036854775807/\d.1.2.2.2.1.2.2.2.1.length=8,res:=λd=>([],vB (true)) }
noncomputable abbrev aiE (vs:List VD) (ms cs:List ByteArray) (fs:List FD) (ts:List SD) (bound r id fn pc:Int) (rg:List Int) (st ch ph su fa:Int) (he:List Int):Nat->Option (St->mO):=λk=>match k with
 | 9=>some λ_=>.inv { α:=Nat×List Int,slots:=λx=>[(8,.c (.v (.int .i64 x.1)))],res:=λx=>[(2,.row 3 (.int .i64) x.2)],inv:=λx=>x.1<=((iL (bG vs ms cs fs ts).1 ms fs bound (id,fn,pc,rg,st,ch,ph,su,fa,he,())).1.2.2.2.2.2.2.2.2.2.1).length/\x.2.length=((iL (bG vs ms cs fs ts).1 ms fs bound (id,fn,pc,rg,st,ch,ph,su,fa,he,())).1.2.2.2.2.2.2.2.2.2.1).length,meas:=λx=>((iL (bG vs ms cs fs ts).1 ms fs bound (id,fn,pc,rg,st,ch,ph,su,fa,he,())).1.2.2.2.2.2.2.2.2.2.1).length - x.1 }
 | 13=>some λ_=>.inv { α:=Nat,slots:=λk=>[(9,.c (.v (.int .i64 k)))],res:=λk=>[],inv:=λk=>k<=he.length,meas:=λk=>he.length - k }
 | _=>none
theorem ag9(vs:List VD) (ms cs:List ByteArray) (fs:List FD) (ts:List SD) (bound r id fn pc:Int) (rg:List Int) (st ch ph su fa:Int) (he:List Int) (aS:ag8.pre (((vs,ms,cs,fs,ts,()),bound,r,(id,fn,pc,rg,st,ch,ph,su,fa,he,()),()),())):
 let z4:=(vs.length<=1000000/\ms.length<=1000000/\cs.length<=1000000/\fs.length<=1000000/\ts.length<=1000000/\(∀(x:ByteArray×(kC.sl.pair Sh.unit).den),x∈fs->List.length x.snd.fst<=1000000)/\(dF fs).length<=1000000)/\he.length<=1000000/\id<=9223372036854775807/\rg.length=8;let z9:=(id,fn,pc,rg,st,ch,ph,su,fa,he,());let z7:=iL (bG vs ms cs fs ts).fst ms fs bound z9;let z5:=z7.snd=z7.snd;let z3:=λ(x:Nat×List Int)=>x.fst<=z7.fst.snd.snd.snd.snd.snd.snd.snd.snd.snd.fst.length/\x.snd.length=z7.fst.snd.snd.snd.snd.snd.snd.snd.snd.snd.fst.length;let z6:=(Ea.sl.pair (Sh.str.sl.pair (Sh.str.sl.pair (BM.sl.pair (kV.sl.pair Sh.unit))))).pair (I6.pair (I6.pair (dK.pair Sh.unit)));let z8:=((vs,ms,cs,fs,ts,()),bound,r,z9,());let z2:=[v6 (z7.fst.fst),v6 (z7.fst.snd.fst),v6 (z7.fst.snd.snd.fst),v6 (z7.fst.snd.snd.snd.fst.getD 0 (0:Int)),v6 (z7.fst.snd.snd.snd.fst.getD 1 (0:Int)),v6 (z7.fst.snd.snd.snd.fst.getD 2 (0:Int)),v6 (z7.fst.snd.snd.snd.fst.getD 3 (0:Int)),v6 (z7.fst.snd.snd.snd.fst.getD 4 (0:Int)),v6 (z7.fst.snd.snd.snd.fst.getD 5 (0:Int)),v6 (z7.fst.snd.snd.snd.fst.getD 6 (0:Int)),v6 (z7.fst.snd.snd.snd.fst.getD 7 (0:Int)),v6 (z7.fst.snd.snd.snd.snd.fst),v6 (z7.fst.snd.snd.snd.snd.snd.fst),v6 (z7.fst.snd.snd.snd.snd.snd.snd.fst),v6 (z7.fst.snd.snd.snd.snd.snd.snd.snd.fst),v6 (z7.fst.snd.snd.snd.snd.snd.snd.snd.snd.fst),SC.row 2];let z1:=λ(x:Nat×List Int)=>[g0 (aC.obj 36 z6 z8),g0 (aC.row 3 I6 ([]++he)),g0 (aC.row 3 I6 x.snd),g0 (aC.blk 34 z2),g0 (aC.obj 34 dK z7.fst)];True/\br (!(Jf vs ms cs fs ts && decide (he.length<=20))) (True/\qB true true) (wE (0+he.length) 8/\z4/\z4/\((!!decide z5)=true->List.length z7.fst.snd.snd.snd.snd.snd.snd.snd.snd.snd.fst<=1000000)/\br (!decide z5 || !xH (z7.fst.fst,z7.fst.snd.fst,z7.fst.snd.snd.fst,[z7.fst.snd.snd.snd.fst.getD 0 (0:Int),z7.fst.snd.snd.snd.fst.getD 1 (0:Int),z7.fst.snd.snd.snd.fst.getD 2 (0:Int),z7.fst.snd.snd.snd.fst.getD 3 (0:Int),z7.fst.snd.snd.snd.fst.getD 4 (0:Int),z7.fst.snd.snd.snd.fst.getD 5 (0:Int),z7.fst.snd.snd.snd.fst.getD 6 (0:Int),z7.fst.snd.snd.snd.fst.getD 7 (0:Int)],z7.fst.snd.snd.snd.snd) z7.fst) (qB true false) ((∃(x:Nat×List Int),(z3 x)/\(cI 0=cI (x.fst:Int)/\True)/\[g0 (aC.obj 36 z6 z8),g0 (aC.row 3 I6 ([]++he)),g0 (aC.row 3 I6 z7.fst.snd.snd.snd.snd.snd.snd.snd.snd.snd.fst),g0 (aC.blk 34 z2),g0 (aC.obj 34 dK z7.fst)]=(z1 x))/\∀(x:Nat×List Int),x.fst<=z7.fst.snd.snd.snd.snd.snd.snd.snd.snd.snd.fst.length/\x.snd.length=z7.fst.snd.snd.snd.snd.snd.snd.snd.snd.snd.fst.length->br (decide ((x.fst:Int) < (x.snd.length:Int))) ((0<=(x.fst:Int)/\(x.fst:Int) < (x.snd.length:Int))/\(x.fst:Int).toNat < x.snd.length/\iR ((x.fst:Int)+(1:Int))/\∃(x':Nat×List Int),(z3 x')/\(cI ((x.fst:Int)+(1:Int))=cI (x'.fst:Int)/\True)/\[g0 (aC.obj 36 z6 z8),g0 (aC.row 3 I6 ([]++he)),g0 (aC.row 3 I6 (x.snd.set (x.fst:Int).toNat (77:Int))),g0 (aC.blk 34 z2),g0 (aC.obj 34 dK z7.fst)]=(z1 x')/\z7.fst.snd.snd.snd.snd.snd.snd.snd.snd.snd.fst.length - x'.fst < z7.fst.snd.snd.snd.snd.snd.snd.snd.snd.snd.fst.length - x.fst) ((∃x_1,x_1<=he.length/\(cI 0=cI (x_1:Int)/\True)/\sm (z1 x))/\∀(x_1:Nat),x_1<=he.length->br (decide ((x_1:Int) < ((List.length ([]++he)):Int))) ((0<=(x_1:Int)/\(x_1:Int) < (he.length:Int))/\∀(d:Int),he[(x_1:Int).toNat]?=some d->(0<=(x_1:Int)/\(x_1:Int) < ((List.length ([]++he)):Int))/\(x_1:Int).toNat < List.length ([]++he)/\∀(iC:Int),([]++he)[(x_1:Int).toNat]?=some iC->br (!decide (d=iC)) (qB true false) (iR ((x_1:Int)+(1:Int))/\∃x',x'<=he.length/\(cI ((x_1:Int)+(1:Int))=cI (x':Int)/\True)/\sm (z1 x)/\he.length - x' < he.length - x_1)) (True/\qB true true)))):=by
 conv=>zeta
 delta v6 cI g0 qB sm I6 iR;obtain⟨hid,hrg⟩:id<=9223372036854775807/\rg.length=8:=aS;refine⟨trivial,ak.2 ⟨λ_=>⟨trivial,rfl,rfl⟩,λh=>?_⟩⟩
 have h:Jf vs ms cs fs ts=true/\he.length<=20:=by simpa using h
 have hb:bnd ((vs,ms,cs,fs,ts,()),()):=QH h.1;have he6:he.length<=1000000:=by omega
 have sok:=λq=>aew (vs:=vs) (ms:=ms) (cs:=cs) (fs:=fs) (ts:=ts) (bound:=bound) (t:=(id,fn,pc,rg,st,ch,ph,su,fa,he,())) hrg q
 have slen:(iL (bG vs ms cs fs ts).1 ms fs bound (id,fn,pc,rg,st,ch,ph,su,fa,he,())).1.2.2.2.2.2.2.2.2.2.1.length<=1000000:=by
  by_cases q:(iL (bG vs ms cs fs ts).1 ms fs bound (id,fn,pc,rg,st,ch,ph,su,fa,he,())).2=0
  .exact(VG (sok q).1 (sok q).2.2.2.2.2.1).1
  .unfold iL at q ⊢;split at q
   .rename_i q1;rw[if_pos q1];exact zJ _
   split at q
   .rename_i q1 q2;rw[if_neg q1,if_pos q2];exact zJ _
   split at q
   .rename_i q1 q2 q3;rw[if_neg q1,if_neg q2,if_pos q3];exact zJ _
   .exact absurd rfl q
 have s8:(iL (bG vs ms cs fs ts).1 ms fs bound (id,fn,pc,rg,st,ch,ph,su,fa,he,())).1.2.2.2.1.length=8:=by
  unfold iL;split
  .rfl
  split
  .rfl
  split
  .rfl
  .exact(OD _ _ _ _).trans hrg
 generalize iL (bG vs ms cs fs ts).1 ms fs bound (id,fn,pc,rg,st,ch,ph,su,fa,he,())=S at *;have hs:xH (S.1.1,S.1.2.1,S.1.2.2.1,[S.1.2.2.2.1.getD 0 0,S.1.2.2.2.1.getD 1 0,S.1.2.2.2.1.getD 2 0,S.1.2.2.2.1.getD 3 0,S.1.2.2.2.1.getD 4 0,S.1.2.2.2.1.getD 5 0,S.1.2.2.2.1.getD 6 0,S.1.2.2.2.1.getD 7 0],S.1.2.2.2.2) S.1=true:=by
  rw[ag6 s8];exact yE.2 rfl
 refine⟨lJ.2 (by omega),⟨hb,he6,hid,hrg⟩,⟨hb,he6,hid,hrg⟩,λ_=>slen,ak.2 ⟨λq=>?_,λ_=>⟨⟨(0,S.1.2.2.2.2.2.2.2.2.2.1),⟨zJ _,rfl⟩,⟨rfl,trivial⟩,rfl⟩,λx hx=>ak.2 ⟨λg=>?_,λg=>⟨⟨0,zJ _,⟨rfl,trivial⟩,rfl⟩,λk hk=>ak.2 ⟨λg2=>?_,λg2=>?_⟩⟩⟩⟩⟩⟩
 .rw[hs]at q;simp at q
 .obtain⟨k,l⟩:=x;obtain⟨h1,h2⟩:=hx;have h1:k<=S.1.2.2.2.2.2.2.2.2.2.1.length:=h1;have h2:l.length=S.1.2.2.2.2.2.2.2.2.2.1.length:=h2;have g:(k:Int) < (l.length:Int):=ZX g;exact⟨⟨by omega,g⟩,by show(k:Int).toNat < l.length;omega,aA.2 (by omega),(k+1,_),⟨by show k+1<=_;omega,by rw[Eo];exact h2⟩,⟨rfl,trivial⟩,rfl,by show S.1.2.2.2.2.2.2.2.2.2.1.length - (k+1) < S.1.2.2.2.2.2.2.2.2.2.1.length - k;omega⟩
 .have g2:(k:Int) < (he.length:Int):=ZX g2;refine⟨⟨by omega,g2⟩,λd hd=>⟨⟨by omega,g2⟩,by show(k:Int).toNat < he.length;omega,λd1 hd1=>ak.2 ⟨λq=>?_,λ_=>⟨aA.2 (by omega),k+1,by omega,⟨rfl,trivial⟩,rfl,by omega⟩⟩⟩⟩
  have hd1:he[(k:Int).toNat]?=some d1:=hd1;rw[hd]at hd1;cases hd1;simp at q
 .exact⟨trivial,rfl,rfl⟩
theorem aeV:bJ Wn.gd 3 ag8:=
 jY (cx:=Wn) (n:=77) (cl:=[(4,aaJ),(5,aaI),(6,LD),(7,LG),(8,Lh)]) (rc:=[]) aF ⟨aeQ,aeP,ZP,aeU,aev,trivial⟩ Tryz.func3 λd hd=>by
  obtain⟨⟨⟨vs,ms,cs,fs,ts,⟨⟩⟩,bound,r,⟨id,fn,pc,rg,st,ch,ph,su,fa,he,⟨⟩⟩,⟨⟩⟩,⟨⟩⟩:=d;exact cO (aiE vs ms cs fs ts bound r id fn pc rg st ch ph su fa he) (ag9 vs ms cs fs ts bound r id fn pc rg st ch ph su fa he hd) (by kernel_rfl)
open Go Go.lM Go.ChangeShapes Go.WideShapes Go.ChangeAt Go.RowKit
theorem own:ownKnob Tryz.prog.godebug=none:=by kernel_rfl
theorem laidOut:laidOutB Tryz.prog=true:=by kernel_rfl
theorem rowed:mapsRowed Tryz.prog=true:=by kernel_rfl
theorem full:∀t e,t < Tryz.prog.types.size->Tryz.prog.underlying t=some (.slice e)->0 < Tryz.prog.cellsOf e:=slices_full_of _ (by kernel_rfl)
theorem aeW:Tryz.prog.globalNamed "modelcheck/inst.rows"=some 0:=by kernel_rfl
theorem aeX:(Tryz.prog.globals[0]?).map (·.type)=some 90:=by kernel_rfl
theorem aha:(pq Tryz.prog (.arr 22 (.pair .str (.pair (.arr 7 .bool) .unit)))).1 90=true:=by kernel_rfl
theorem aeY:Tryz.prog.globalNamed "modelcheck/value.names"=some 1:=by kernel_rfl
theorem aeZ:(Tryz.prog.globals[1]?).map (·.type)=some 125:=by kernel_rfl
theorem ahb:(pq Tryz.prog (.arr 10 .str)).1 125=true:=by kernel_rfl
noncomputable def laidWorld (os:Os):World:=
 { World.holding Tryz.prog os ⟨#[],#[],[]⟩with heap:=(((World.holding Tryz.prog os ⟨#[],#[],[]⟩).heap).modify 0 (lay #[.string ⟨#[99,111,110,115,116]⟩,.bool true,.bool false,.bool false,.bool false,.bool true,.bool false,.bool false,.string ⟨#[99,111,112,121]⟩,.bool true,.bool true,.bool false,.bool false,.bool false,.bool false,.bool false,.string ⟨#[99,97,108,99]⟩,.bool true,.bool true,.bool true,.bool false,.bool false,.bool true,.bool false,.string ⟨#[106,117,109,112]⟩,.bool false,.bool false,.bool false,.bool false,.bool true,.bool false,.bool false,.string ⟨#[98,114,97,110,99,104]⟩,.bool false,.bool true,.bool false,.bool false,.bool true,.bool false,.bool false,.string ⟨#[97,115,115,101,114,116]⟩,.bool false,.bool true,.bool false,.bool false,.bool false,.bool false,.bool false,.string ⟨#[115,116,111,112]⟩,.bool false,.bool false,.bool false,.bool false,.bool false,.bool false,.bool false,.string ⟨#[108,111,97,100]⟩,.bool true,.bool false,.bool false,.bool true,.bool false,.bool false,.bool true,.string ⟨#[115,116,111,114,101]⟩,.bool false,.bool true,.bool false,.bool true,.bool false,.bool false,.bool true,.string ⟨#[115,119,97,112]⟩,.bool true,.bool true,.bool false,.bool true,.bool false,.bool false,.bool true,.string ⟨#[102,101,116,99,104,97,100,100]⟩,.bool true,.bool true,.bool false,.bool true,.bool false,.bool false,.bool true,.string ⟨#[99,97,115]⟩,.bool true,.bool true,.bool true,.bool true,.bool false,.bool false,.bool true,.string ⟨#[102,101,110,99,101]⟩,.bool false,.bool false,.bool false,.bool false,.bool false,.bool false,.bool false,.string ⟨#[97,119,97,105,116]⟩,.bool true,.bool true,.bool false,.bool true,.bool false,.bool true,.bool true,.string ⟨#[108,111,99,107]⟩,.bool false,.bool false,.bool false,.bool true,.bool false,.bool false,.bool false,.string ⟨#[117,110,108,111,99,107]⟩,.bool false,.bool false,.bool false,.bool true,.bool false,.bool false,.bool false,.string ⟨#[116,114,121,108,111,99,107]⟩,.bool true,.bool false,.bool false,.bool true,.bool false,.bool false,.bool false,.string ⟨#[119,97,105,116]⟩,.bool false,.bool false,.bool false,.bool true,.bool true,.bool false,.bool false,.string ⟨#[115,105,103,110,97,108]⟩,.bool false,.bool false,.bool false,.bool true,.bool false,.bool false,.bool false,.string ⟨#[98,114,111,97,100,99,97,115,116]⟩,.bool false,.bool false,.bool false,.bool true,.bool false,.bool false,.bool false,.string ⟨#[115,112,97,119,110]⟩,.bool true,.bool true,.bool false,.bool true,.bool false,.bool false,.bool false,.string ⟨#[106,111,105,110]⟩,.bool false,.bool true,.bool false,.bool false,.bool false,.bool false,.bool false])).modify 1 (lay #[.string ⟨#[97,100,100]⟩,.string ⟨#[115,117,98]⟩,.string ⟨#[109,117,108]⟩,.string ⟨#[97,110,100]⟩,.string ⟨#[111,114]⟩,.string ⟨#[120,111,114]⟩,.string ⟨#[101,113]⟩,.string ⟨#[110,101]⟩,.string ⟨#[108,116]⟩,.string ⟨#[108,101]⟩]) }
theorem ae0{n:Int} (h:(Lit.int .i64 n).wf=true):-9223372036854775808<=n/\n<=9223372036854775807:=by
 simp[Lit.wf,IntKind.min,IntKind.max,IntKind.signed,IntKind.bits]at h;omega
namespace threadSettlesL
theorem globs{W:World} (hL:laidMetH Tryz.prog Rows.threadSettlesRow.laid W):aG gd0 (FH.all W):=by
 intro g p hp;unfold gd0 at hp;split at hp
 .cases hp;exact D9 hL (by kernel_rfl) (n:= "modelcheck/inst.rows") (D:=Rows.laid_modelcheck_inst_rows) (by simp[Rows.threadSettlesRow]) aeW aeX aha (by kernel_rfl)
 .cases hp;exact D9 hL (by kernel_rfl) (n:= "modelcheck/value.names") (D:=Rows.laid_modelcheck_value_names) (by simp[Rows.threadSettlesRow]) aeY aeZ ahb (by kernel_rfl)
 .cases hp
theorem laid_met(os:Os):laidMet Tryz.prog Rows.threadSettlesRow.laid ((laidWorld os).forCall (λ_ _=>0) ⟨#[],#[.agg #[.slice none 0 0,.slice none 0 0,.slice none 0 0,.slice none 0 0,.slice none 0 0,.int .i64 0,.int .i64 0,.int .i64 0,.int .i64 0,.int .i64 0,.int .i64 0,.int .i64 0,.int .i64 0,.int .i64 0,.int .i64 0,.int .i64 0,.int .i64 0,.int .i64 0,.int .i64 0,.int .i64 0,.int .i64 0,.int .i64 0,.int .i64 0,.slice none 0 0]],[]⟩).memory:=
 laidMet_of_run' 20 (by kernel_rfl) (by kernel_rfl)
theorem reads(os:Os){H:Type} (enc:TypeId×Value->H):∃places,DataW.whole enc Tryz.prog ((laidWorld os).forCall (λ_ _=>0) ⟨#[],#[.agg #[.slice none 0 0,.slice none 0 0,.slice none 0 0,.slice none 0 0,.slice none 0 0,.int .i64 0,.int .i64 0,.int .i64 0,.int .i64 0,.int .i64 0,.int .i64 0,.int .i64 0,.int .i64 0,.int .i64 0,.int .i64 0,.int .i64 0,.int .i64 0,.int .i64 0,.int .i64 0,.int .i64 0,.int .i64 0,.int .i64 0,.int .i64 0,.slice none 0 0]],[]⟩).memory Tryz.f3.params.toList Rows.threadSettlesSpec.vars false (#[.agg #[.slice none 0 0,.slice none 0 0,.slice none 0 0,.slice none 0 0,.slice none 0 0,.int .i64 0,.int .i64 0,.int .i64 0,.int .i64 0,.int .i64 0,.int .i64 0,.int .i64 0,.int .i64 0,.int .i64 0,.int .i64 0,.int .i64 0,.int .i64 0,.int .i64 0,.int .i64 0,.int .i64 0,.int .i64 0,.int .i64 0,.int .i64 0,.slice none 0 0]]:Array Value).toList 20=some ([.agg [.agg [.nil,.nil,.nil,.nil,.nil],.lit (.int .i64 0),.lit (.int .i64 0),.agg [.lit (.int .i64 0),.lit (.int .i64 0),.lit (.int .i64 0),.agg [.lit (.int .i64 0),.lit (.int .i64 0),.lit (.int .i64 0),.lit (.int .i64 0),.lit (.int .i64 0),.lit (.int .i64 0),.lit (.int .i64 0),.lit (.int .i64 0)],.lit (.int .i64 0),.lit (.int .i64 0),.lit (.int .i64 0),.lit (.int .i64 0),.lit (.int .i64 0),.nil]]],[],places):=
 ⟨[],by kernel_rfl⟩
theorem lifted(os:Os) (started:os.Started) (H:Type) (enc:TypeId×Value->H) (F:Stop.Interp):
 ReturnsInHanded {} Tryz.checked os 3 .any ((OpenSpec.ofChange Rows.threadSettlesSpec).preRow enc Tryz.prog Tryz.f3 Rows.threadSettlesRow.domain false Rows.threadSettlesRow.laid) (((OpenSpec.ofChange Rows.threadSettlesSpec).at F).post enc Tryz.prog Tryz.f3 false true false false):=by
 obtain⟨places,hx⟩:=reads os enc;refine returnsInHanded_of_row (C:=Tryz.checked) (s:=OpenSpec.ofChange Rows.threadSettlesSpec) own started (by kernel_rfl) Tryz.func3
  (witness_row_at (enc:=enc) (C:=Tryz.checked) false (laidWorld os) #[.agg #[.slice none 0 0,.slice none 0 0,.slice none 0 0,.slice none 0 0,.slice none 0 0,.int .i64 0,.int .i64 0,.int .i64 0,.int .i64 0,.int .i64 0,.int .i64 0,.int .i64 0,.int .i64 0,.int .i64 0,.int .i64 0,.int .i64 0,.int .i64 0,.int .i64 0,.int .i64 0,.int .i64 0,.int .i64 0,.int .i64 0,.int .i64 0,.slice none 0 0]] rfl (by kernel_rfl) (by kernel_rfl) (by kernel_rfl)
   (OpenSpec.preRow_of_cond 20 hx (by kernel_rfl) (λk hk=>by cases hk) (by kernel_rfl) (laid_met os))) ?_
 intro W base args ds gs before hval hW _ hcond hwt hL _ _;refine Qy (fn:=Tryz.f3) aeV laidOut rowed full (by decide +kernel) (t:=4) (by kernel_rfl) (by kernel_rfl) rfl (by kernel_rfl) (λ_=>rfl) (λd hd hwf=>?_) hval hW (globs hL)
 match ds,D7 hd with
 | [d0],_=>exact⟨rfl,by exact⟨(ae0 hwf.1.2.2.2.1.1).2,hwf.1.2.2.2.1.2.2.2.1.1⟩⟩
theorem said:Rows.ThreadSettlesSaid:=
 OpenClaim.holds_of_cond 3 Tryz.f3 rfl rfl rfl rfl rfl rfl rfl ⟨rfl,rfl,rfl,rfl,rfl⟩ rfl rfl rfl rfl rfl (by kernel_rfl) Tryz.func3 (by kernel_rfl)
  (ZX (by kernel_rfl)) (by unfold Func.isWrapper;first | (rw[if_pos (by decide +kernel)];kernel_rfl) | (rw[if_neg (by decide +kernel)];exact⟨rfl,rfl⟩))
  (λos started H enc _ F=>by rw[OpenClaim.pre_eq_preRow];exact lifted os started H enc F)
theorem plain(f:FuncId) (fn:Func) (hf:Tryz.pinned.checked.prog.funcNamed "modelcheck/modelchecklaw20.ThreadSettles"=some f) (hfn:Tryz.pinned.checked.prog.funcs[f]?=some fn):
 false=Tryz.pinned.checked.prog.looks []/\∀(j:Nat) t,fn.params[j]?=some t->Tryz.pinned.checked.prog.wantsStandIn t=false:=by
 obtain rfl:f=3:=VZ ((show Tryz.prog.funcNamed "modelcheck/modelchecklaw20.ThreadSettles"=some 3 by kernel_rfl).symm.trans hf) |>.symm
 obtain rfl:fn=Tryz.f3:=(VZ (Tryz.func3.symm.trans hfn)).symm;refine⟨by kernel_rfl,λj t ht=>?_⟩
 have hm:t∈Tryz.f3.params.toList:=kT (by simpa using ht)
 have key:∀t∈Tryz.f3.params.toList,Tryz.prog.wantsStandIn t=false:=by decide +kernel
 exact key t hm
theorem card:Rows.ThreadSettlesCardSaid:=
 Claim7.holds_tied_plain_at .later [] _ _ _ _ said (λ_ h=>by cases h) (by kernel_rfl) (λ_ h=>by cases h) threadSettles_row_tie rfl ⟨rfl,rfl⟩ (by kernel_rfl) rfl plain (by kernel_rfl)
end threadSettlesL
end Go.Proofs.YtaagmchgokmdgaaGreatDoor
