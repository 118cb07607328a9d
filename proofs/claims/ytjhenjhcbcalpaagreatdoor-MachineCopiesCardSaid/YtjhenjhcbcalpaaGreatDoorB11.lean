/- Part 11 of the proof. Conditions: the rows'. -/
import Derived.Test.YtjhenjhcbcalpaaGreatDoorB10
set_option linter.unusedSimpArgs false
set_option linter.unusedVariables false
set_option maxRecDepth 1000000
set_option maxHeartbeats 8000000
namespace Go.Proofs.YtjhenjhcbcalpaaGreatDoor
open Go Go.lH
noncomputable section
variable {qs:List (List Int)}{k:Nat}{vs os sg:List Int}{ms:List ByteArray}{fs:List FD}{l:List TD}{m:MD}{p:TD->Bool}{id:Int}
def lF(p:PD) (m:MD):Bool:=decide ((aG p.1 p.2.1 p.2.2.1 p.2.2.2.1 p.2.2.2.2.1).1=0) && eG m && decide (m.1.length=p.1.length) && decide (m.2.1.length=p.2.1.length) && decide (m.2.2.1.length=p.2.2.1.length)
theorem adY(vs:List VD) (ms cs:List ByteArray) (fs:List FD) (ts:List SD) (aF:YN.pre ((vs,ms,cs,fs,ts,()),())):
 let z1:=decide ((aG vs ms cs fs ts).fst=0);(vs.length<=1000000/\ms.length<=1000000/\cs.length<=1000000/\fs.length<=1000000/\ts.length<=1000000/\(∀(x:ByteArray×(oV.sl.pair Sh.unit).den),x∈fs->List.length x.snd.fst<=1000000)/\(dL fs).length<=1000000)/\qB z1 z1:=by
 conv=>zeta
 delta qB I6;exact⟨aF,rfl,rfl⟩
theorem Zz:aY aV.gd 156 YN:=
 pz (cx:=aV) (n:=14) (cl:=[(74,Gj)]) aB ⟨Bv,trivial⟩ Tryz.func156 λd hd=>by
  obtain⟨⟨vs,ms,cs,fs,ts,⟨⟩⟩,⟨⟩⟩:=d;exact aT (λ_=>none) (adY vs ms cs fs ts hd) (by kernel_rfl)
abbrev aiw:CT:={ ps:=[vF,vW],pre:=λd=>bnd (d.1,())/\bI d.2.1,res:=λd=>([],vB (lF d.1 d.2.1)) }
theorem aix(vs:List VD) (ms cs:List ByteArray) (fs:List FD) (ts:List SD) (ws os:List Int) (qs:List (List Int)) (sg:List Int) (aF:aiw.pre ((vs,ms,cs,fs,ts,()),(ws,os,qs,sg,()),())):
 let z1:=(aG vs ms cs fs ts).fst=0;let z2:=(ws,os,qs,sg,());(vs.length<=1000000/\ms.length<=1000000/\cs.length<=1000000/\fs.length<=1000000/\ts.length<=1000000/\(∀(x:ByteArray×(oV.sl.pair Sh.unit).den),x∈fs->List.length x.snd.fst<=1000000)/\(dL fs).length<=1000000)/\(decide z1=true->bI z2)/\qB (lF (vs,ms,cs,fs,ts,()) z2) (decide z1 && eG z2 && decide ((ws.length:Int)=(vs.length:Int)) && decide ((os.length:Int)=(ms.length:Int)) && decide ((qs.length:Int)=(cs.length:Int))):=by
 conv=>zeta
 delta qB I6;obtain⟨h1,h2⟩:=aF;refine⟨h1,λ_=>h2,rfl,?_⟩
 unfold lF;simp only[Int.ofNat_inj]
theorem adZ:aY aV.gd 84 aiw:=
 dO (cx:=aV) (n:=38) (cl:=[(156,YN),(157,Zk)]) (rc:=[]) aB ⟨Zz,Ei,trivial⟩ Tryz.func84 λd hd=>by
  obtain⟨⟨vs,ms,cs,fs,ts,⟨⟩⟩,⟨ws,os,qs,sg,⟨⟩⟩,⟨⟩⟩:=d;exact aT (λ_=>none) (aix vs ms cs fs ts ws os qs sg hd) (by kernel_rfl)
abbrev aiy(l m:List Int):Nat->Option (St->kD):=λk=>match k with
 | 4=>some λ_=>.inv { α:=Nat,slots:=λk=>[(13,.c (.v (.int .i64 k)))],res:=λk=>[],inv:=λk=>k<=(l).length/\∀j < k,l[j]?=m[j]?,meas:=λk=>(l).length - k }
 | _=>none
theorem ad1(l m:List Int) (aF:nY.pre (l,m,())):
 let z2:=qB (decide (l=m)) false;let z1:=λ(x:Nat)=>(x<=l.length/\∀(j:Nat),j < x->l[j]?=m[j]?);br (!decide ((l.length:Int)=(m.length:Int))) z2 ((∃x,(z1 x)/\(cI 0=cI (x:Int)/\True)/\([]:List fV)=[])/\∀(x:Nat),(z1 x)->br (decide ((x:Int) < (l.length:Int))) ((0<=(x:Int)/\(x:Int) < (l.length:Int))/\∀(d:Int),l[(x:Int).toNat]?=some d->(0<=(x:Int)/\(x:Int) < (m.length:Int))/\∀(dR:Int),m[(x:Int).toNat]?=some dR->br (!decide (d=dR)) z2 (iR ((x:Int)+(1:Int))/\∃x',(z1 x')/\(cI ((x:Int)+(1:Int))=cI (x':Int)/\True)/\([]:List fV)=[]/\l.length - x' < l.length - x)) (qB (decide (l=m)) true)):=by
 conv=>zeta
 delta fV cI qB iR;have hp:l.length<=1000000:=aF;have fF:l≠m->([]:List Go.lH.ak)=[]/\bF.one (SV.c (SC.v (Value.bool (decide (l=m)))))=bF.one (SV.c (SC.v (Value.bool false))):=λq=>⟨rfl,by rw[UJ q]⟩
 refine ah.2 ⟨λh=>fF λq=>?_,λh=>?_⟩
 .subst q;simp at h
 simp only[BJ,eH]at h;refine⟨⟨0,⟨by omega,λj hj=>by omega⟩,⟨rfl,trivial⟩,rfl⟩,λk hk=>ah.2 ⟨λg=>?_,λg=>?_⟩⟩
 .simp only[eH]at g;refine⟨⟨by omega,by omega⟩,λd hd=>⟨⟨by omega,by omega⟩,λd1 hd1=>ah.2 ⟨λg2=>fF λq=>?_,λg2=>⟨aC.2 (by omega),k+1,⟨by omega,λj hj=>?_⟩,⟨rfl,trivial⟩,rfl,by omega⟩⟩⟩⟩
  .subst q;rw[hd]at hd1;cases hd1;simp at g2
  .by_cases jh:j=k
   .subst jh;have hd:l[j]?=some d:=hd;have hd1:m[j]?=some d1:=hd1;simp at g2;rw[hd,hd1,g2]
   .exact hk.2 j (by omega)
 simp only[iH]at g;have e:l=m:=by
  apply Ar;intro j
  by_cases hj:j < k
  .exact hk.2 j hj
  .rw[uG (by omega),uG (by omega)]
 exact⟨rfl,by rw[Jg e]⟩
theorem Em:aY aV.gd 127 nY:=
 dO (cx:=aV) (n:=26) (cl:=[]) (rc:=[]) aB trivial Tryz.func127 λd hd=>by
  obtain⟨l,m,⟨⟩⟩:=d;exact aT (aiy l m) (ad1 l m hd) (by kernel_rfl)
theorem ad2(l m:List Int) (aF:nY.pre (l,m,())):
 l.length<=1000000/\qB (decide (l=m)) (decide (l=m)):=by
 delta qB;exact⟨aF,rfl,rfl⟩
theorem ZA:aY aV.gd 129 nY:=
 dO (cx:=aV) (n:=8) (cl:=[(127,nY)]) (rc:=[]) aB ⟨Em,trivial⟩ Tryz.func129 λd hd=>by
  obtain⟨l,m,⟨⟩⟩:=d;exact aT (λ_=>none) (ad2 l m hd) (by kernel_rfl)
abbrev ZB:CT:={ ps:=[.sl (.sl (.int .i64)),.sl (.sl (.int .i64))],pre:=λd=>d.1.length<=1000000/\∀q∈d.1,q.length<=1000000,res:=λd=>([],vB (decide (d.1=d.2.1))) }
abbrev aiz(l m:List (List Int)):Nat->Option (St->kD):=λk=>match k with
 | 4=>some λ_=>.inv { α:=Nat,slots:=λk=>[(17,.c (.v (.int .i64 k)))],res:=λk=>[],inv:=λk=>k<=(l).length/\∀j < k,l[j]?=m[j]?,meas:=λk=>(l).length - k }
 | _=>none
theorem ad3(l m:List (List Int)) (aF:ZB.pre (l,m,())):
 let z2:=qB (decide (l=m)) false;let z1:=λ(x:Nat)=>(x<=l.length/\∀(j:Nat),j < x->l[j]?=m[j]?);br (!decide ((l.length:Int)=(m.length:Int))) z2 ((∃x,(z1 x)/\(cI 0=cI (x:Int)/\True)/\([]:List fV)=[])/\∀(x:Nat),(z1 x)->br (decide ((x:Int) < (l.length:Int))) ((0<=(x:Int)/\(x:Int) < (l.length:Int))/\∀(d:List Int),l[(x:Int).toNat]?=some d->(0<=(x:Int)/\(x:Int) < (m.length:Int))/\∀(dR:List Int),m[(x:Int).toNat]?=some dR->d.length<=1000000/\br (!decide (d=dR)) z2 (iR ((x:Int)+(1:Int))/\∃x',(z1 x')/\(cI ((x:Int)+(1:Int))=cI (x':Int)/\True)/\([]:List fV)=[]/\l.length - x' < l.length - x)) (qB (decide (l=m)) true)):=by
 conv=>zeta
 delta fV cI qB iR;obtain⟨hp,h6⟩:l.length<=1000000/\∀q∈l,q.length<=1000000:=aF;have fF:l≠m->([]:List Go.lH.ak)=[]/\bF.one (SV.c (SC.v (Value.bool (decide (l=m)))))=bF.one (SV.c (SC.v (Value.bool false))):=λq=>⟨rfl,by rw[UJ q]⟩
 refine ah.2 ⟨λh=>fF λq=>?_,λh=>?_⟩
 .subst q;simp at h
 simp only[BJ,eH]at h;refine⟨⟨0,⟨by omega,λj hj=>by omega⟩,⟨rfl,trivial⟩,rfl⟩,λk hk=>ah.2 ⟨λg=>?_,λg=>?_⟩⟩
 .simp only[eH]at g;refine⟨⟨by omega,by omega⟩,λd hd=>⟨⟨by omega,by omega⟩,λd1 hd1=>⟨h6 d (iJ hd),ah.2 ⟨λg2=>fF λq=>?_,λg2=>⟨aC.2 (by omega),k+1,⟨by omega,λj hj=>?_⟩,⟨rfl,trivial⟩,rfl,by omega⟩⟩⟩⟩⟩
  .subst q;rw[hd]at hd1;cases hd1;simp at g2
  .by_cases jh:j=k
   .subst jh;have hd:l[j]?=some d:=hd;have hd1:m[j]?=some d1:=hd1;simp at g2;rw[hd,hd1,g2]
   .exact hk.2 j (by omega)
 simp only[iH]at g;have e:l=m:=by
  apply Ar;intro j
  by_cases hj:j < k
  .exact hk.2 j hj
  .rw[uG (by omega),uG (by omega)]
 exact⟨rfl,by rw[Jg e]⟩
theorem Ui:Ik Tryz.prog aV.gd 128 [.func (.func 129) #[] #[]] ZB:=
 (ng (cx:=aV) (n:=32) (cl:=[(129,nY)]) (il:=Yh) (hl:=hlN) (ml:=mlN) (rc:=[]) (lits:=[]) (suf:=[.func (.func 129) #[] #[]]) (by kernel_rfl) aB ⟨ZA,trivial⟩ trivial trivial trivial Tryz.func128 (by kernel_rfl) (by kernel_rfl) rfl (by kernel_rfl) (by kernel_rfl) (by simp) λd hd=>by
  obtain⟨l,m,⟨⟩⟩:=d;exact aT (aiz l m) (ad3 l m hd) (by kernel_rfl))
abbrev amD:List (Nat×Nat×CT):=[(128,129,ZB)]
theorem aiA(vs os:List Int) (qs:List (List Int)) (sg vs2 os2:List Int) (BF:List (List Int)) (sg2:List Int) (aF:zO.pre ((vs,os,qs,sg,()),(vs2,os2,BF,sg2,()),())):
 vs.length<=1000000/\(decide (vs=vs2)=true->os.length<=1000000)/\((decide (vs=vs2) && decide (os=os2))=true->sg.length<=1000000)/\((decide (vs=vs2) && decide (os=os2) && decide (sg=sg2))=true->qs.length<=1000000/\∀(q:List Int),q∈qs->q.length<=1000000)/\qB (decide ((vs,os,qs,sg,())=(vs2,os2,BF,sg2,()))) (decide (vs=vs2) && decide (os=os2) && decide (sg=sg2) && decide (qs=BF)):=by
 delta qB;obtain⟨b1,b2,b3,b4,b5,b6⟩:vs.length<=1000/\os.length<=1000/\qs.length<=1000/\sg.length<=1000/\(∀q∈qs,q.length<=1000)/\qs.flatten.length<=100000:=aF;have e:decide ((vs,os,qs,sg,())=(vs2,os2,BF,sg2,()))=(decide (vs=vs2) && decide (os=os2) && decide (sg=sg2) && decide (qs=BF)):=by
  rw[OX];simp only[eH,A8,Uw,and_true];constructor
  .rintro⟨h1,h2,h3,h4⟩;exact⟨⟨⟨h1,h2⟩,h4⟩,h3⟩
  .rintro⟨⟨⟨h1,h2⟩,h4⟩,h3⟩;exact⟨h1,h2,h3,h4⟩
 refine⟨by omega,λ_=>by omega,λ_=>by omega,λ_=>⟨by omega,λq hq=>by have:=b5 q hq;omega⟩,rfl,?_⟩
 rw[e]
theorem ad4:aY aV.gd 60 zO:=
 (ng (cx:=aV) (n:=31) (cl:=[(127,nY)]) (il:=Yh) (hl:=amD) (ml:=mlN) (rc:=[]) (lits:=[]) (suf:=[]) (by kernel_rfl) aB ⟨Em,trivial⟩ trivial ⟨Ui,trivial⟩ trivial Tryz.func60 (by kernel_rfl) (by kernel_rfl) rfl (by kernel_rfl) (by kernel_rfl) (by simp) λd hd=>by
  obtain⟨⟨vs,os,qs,sg,⟨⟩⟩,⟨vs2,os2,BF,sg2,⟨⟩⟩,⟨⟩⟩:=d;exact aT (λ_=>none) (aiA vs os qs sg vs2 os2 BF sg2 hd) (by kernel_rfl)).met
theorem QL:∀(l sg:List Int),SS sg->SS (kS sg l)/\∀y,y∈kS sg l↔y∈sg\/y∈l
 | [],sg,h=>⟨h,λy=>by simp[kS]⟩
 | x :: l,sg,h=>by
   have ih:=QL l (bY (sg++[x])) (yL _);have e:kS sg (x :: l)=kS (bY (sg++[x])) l:=rfl;rw[e];refine⟨ih.1,λy=>?_⟩
   rw[ih.2 y,yM];simp[or_assoc]
def mM(qs:List (List Int)):Int:=qs.foldl (λa q=>eY a q.length) 0
theorem Uj{d:List Int} (h:qs[k]?=some d):mM (qs.take (k+1))=eY (mM (qs.take k)) d.length:=by
 unfold mM;rw[OW,h];simp
theorem QM:∀(qs:List (List Int)) (a:Int),a<=qs.foldl (λa q=>eY a (q.length:Int)) a/\∀q∈qs,(q.length:Int)<=qs.foldl (λa q=>eY a (q.length:Int)) a
 | [],a=>⟨Int.le_refl _,λq hq=>by cases hq⟩
 | x :: qs,a=>by
   have ih:=QM qs (eY a x.length);have h:a<=eY a x.length/\(x.length:Int)<=eY a x.length:=by unfold eY;split<;>omega
   refine⟨Int.le_trans h.1 ih.1,λq hq=>?_⟩
   rcases mF.1 hq with rfl | hq
   .exact Int.le_trans h.2 ih.1
   .exact ih.2 q hq
abbrev ZC:CT:={ ps:=[vW,.int .i64],pre:=λd=>bI d.1,res:=λd=>([],.iO [.agg [.sl (.int .i64) ((uy d.1 d.2.1 (mM d.1.2.2.1)).1).1,.sl (.int .i64) ((uy d.1 d.2.1 (mM d.1.2.2.1)).1).2.1,.sl (.sl (.int .i64)) ((uy d.1 d.2.1 (mM d.1.2.2.1)).1).2.2.1,.sl (.int .i64) ((uy d.1 d.2.1 (mM d.1.2.2.1)).1).2.2.2.1],.c (.v (.int .i64 ((uy d.1 d.2.1 (mM d.1.2.2.1)).2.1))),.c (.v (.int .i64 ((uy d.1 d.2.1 (mM d.1.2.2.1)).2.2)))]) }
abbrev aiB(vs os:List Int) (qs:List (List Int)) (sg:List Int) (c:Int):Nat->Option (St->kD):=λk=>match k with
 | 3=>some λ_=>.inv { α:=Nat,slots:=λk=>[(13,.c (.v (.int .i64 k))),(7,.c (.v (.int .i64 (mM (qs.take k)))))],res:=λk=>[],inv:=λk=>k<=(qs).length,meas:=λk=>(qs).length - k }
 | _=>none
theorem ad5(vs os:List Int) (qs:List (List Int)) (sg:List Int) (c:Int) (aF:ZC.pre ((vs,os,qs,sg,()),c,())):
 let z4:=λ(x:Nat)=>mM (List.take x qs);let z1:=[g0 (ak.blk 34 [SC.sl I6 vs,SC.sl I6 os,SC.sl I6.sl qs,SC.sl I6 sg]),g0 (ak.blk 34 jQ)];let z5:=(vs,os,qs,sg,());let z3:=uy z5 c (mM qs);let z2:=λ(x:Nat)=>uy z5 c (z4 x);(∃x,x<=qs.length/\(cI 0=cI (x:Int)/\cI 0=cI (z4 x)/\True)/\sm z1)/\∀(x:Nat),x<=qs.length->br (decide ((x:Int) < (qs.length:Int))) ((0<=(x:Int)/\(x:Int) < (qs.length:Int))/\∀(d:List Int),qs[(x:Int).toNat]?=some d->iR ((x:Int)+(1:Int))/\∃x',x'<=qs.length/\(cI ((x:Int)+(1:Int))=cI (x':Int)/\cI (eY (z4 x) (d.length:Int))=cI (z4 x')/\True)/\sm z1/\qs.length - x' < qs.length - x) ((bI z5/\0<=mM (List.take x qs))/\rT [SV.agg [SC.sl I6 z3.fst.fst,SC.sl I6 z3.fst.snd.fst,SC.sl I6.sl z3.fst.snd.snd.fst,SC.sl I6 z3.fst.snd.snd.snd.fst],cI (z3.snd.fst),cI (z3.snd.snd)] [SV.agg [SC.sl I6 ((z2 x).fst.fst,(z2 x).fst.snd.fst,(z2 x).fst.snd.snd.fst,(z2 x).fst.snd.snd.snd.fst,()).fst,SC.sl I6 ((z2 x).fst.snd.fst,(z2 x).fst.snd.snd.fst,(z2 x).fst.snd.snd.snd.fst,()).fst,SC.sl I6.sl ((z2 x).fst.snd.snd.fst,(z2 x).fst.snd.snd.snd.fst,()).fst,SC.sl I6 (z2 x).fst.snd.snd.snd.fst],cI ((z2 x).snd.fst),cI ((z2 x).snd.snd)]):=by
 conv=>zeta
 delta jQ cI g0 rT sm I6 iR iN;have hb:=aF;obtain⟨b1,b2,b3,b4,b5,b6⟩:vs.length<=1000/\os.length<=1000/\qs.length<=1000/\sg.length<=1000/\(∀q∈qs,q.length<=1000)/\qs.flatten.length<=100000:=aF;refine⟨⟨0,by omega,⟨rfl,rfl,trivial⟩,rfl⟩,λk hk=>ah.2 ⟨λg=>?_,λg=>?_⟩⟩
 .simp only[eH]at g;refine⟨⟨by omega,by omega⟩,λd hd=>⟨aC.2 (by omega),k+1,by omega,⟨rfl,?_,trivial⟩,rfl,by omega⟩⟩
  have hd:qs[k]?=some d:=hd;rw[Uj hd]
 simp only[iH]at g;rw[wo (i:=k) (by omega)]
 exact⟨⟨hb,(QM qs 0).1⟩,rfl,rfl⟩
theorem ZE:aY aV.gd 106 ZC:=
 dO (cx:=aV) (n:=29) (cl:=[(166,QK)]) (rc:=[.data vW,.keep,.keep]) aB ⟨Lm,trivial⟩ Tryz.func106 λd hd=>by
  obtain⟨⟨vs,os,qs,sg,⟨⟩⟩,c,⟨⟩⟩:=d;exact aT (aiB vs os qs sg c) (ad5 vs os qs sg c hd) (by kernel_rfl)
abbrev zS:Sh:=.pair (.int .i64) (.pair (.int .i64) .unit)
abbrev kT:Sh:=.pair (.int .i64) (.pair (.int .i64) (.pair (.sl zS) .unit))
abbrev Jf:Sh:=.pair (.sl bQ) (.pair vW (.pair (.sl kT) .unit))
abbrev shE:Sh:=.pair (.int .i64) (.pair (.int .i64) (.pair (.int .i64) (.pair (.int .i64) (.pair (.int .i64) (.pair (.int .i64) (.pair (.int .i64) (.pair (.int .i64) (.pair (.int .i64) .unit))))))))
abbrev BD:=Int×Int×List (Int×Int×Unit)×Unit
abbrev ZD:=List TD×MD×List BD×Unit
abbrev ED:=Int×Int×Int×Int×Int×Int×Int×Int×Int×Unit
abbrev EX(e:ED):SV:=.agg [v6 e.1,v6 e.2.1,v6 e.2.2.1,v6 e.2.2.2.1,v6 e.2.2.2.2.1,v6 e.2.2.2.2.2.1,v6 e.2.2.2.2.2.2.1,v6 e.2.2.2.2.2.2.2.1,v6 e.2.2.2.2.2.2.2.2.1]
abbrev agI(i:ID):SV:=.agg [v6 i.1,v6 i.2.1,v6 i.2.2.1,v6 i.2.2.2.1,v6 i.2.2.2.2.1,v6 i.2.2.2.2.2.1,v6 i.2.2.2.2.2.2.1,v6 i.2.2.2.2.2.2.2.1]
abbrev LZ(m:MD):SV:=.agg [.sl I6 m.1,.sl I6 m.2.1,.sl I6.sl m.2.2.1,.sl I6 m.2.2.2.1]
abbrev Gu(z:ZD):SV:=.agg [.sl bQ z.1,.sl I6 z.2.1.1,.sl I6 z.2.1.2.1,.sl I6.sl z.2.1.2.2.1,.sl I6 z.2.1.2.2.2.1,.sl kT z.2.2.1]
abbrev qE(a b:ED):Prop:=([]:List ak)=[]/\bF.one (EX a)=bF.one (EX b)
abbrev bP(vs:List VD) (ms cs:List ByteArray) (fs:List FD) (ts:List SD):ak:=.blk 27 [.sl Qk vs,.sl .str ms,.sl .str cs,.sl LU fs,.sl ji ts]
abbrev bZ(th:List TD) (mv mo:List Int) (mq:List (List Int)) (mg:List Int) (bf:List BD):ak:=.blk 37 [.sl bQ th,.sl I6 mv,.sl I6 mo,.sl I6.sl mq,.sl I6 mg,.sl kT bf]
def tB(t:TD):Prop:=t.2.2.2.2.2.2.2.2.2.1.length<=1000000/\t.1<=9223372036854775807/\t.2.2.2.1.length=8
def jC(l:List TD):Prop:=l.length<=1000000/\∀t∈l,tB t
def yZ(l:List TD):Prop:=SS (l.map (·.1))
def VS(vs:List VD) (ms cs:List ByteArray) (fs:List FD) (ts:List SD) (bound:Int) (l:List TD) (m:MD) (bf:List BD):Prop:=
 lF (vs,ms,cs,fs,ts,()) m=true/\bf=[]/\(∀t∈l,dM (aG vs ms cs fs ts).1 bound=0/\xq ms fs bound t)/\yZ l
open Classical in
def vsB(vs:List VD) (ms cs:List ByteArray) (fs:List FD) (ts:List SD) (bound:Int) (l:List TD) (m:MD) (bf:List BD):Bool:=decide (VS vs ms cs fs ts bound l m bf)
theorem lJ{vs:List VD}{cs:List ByteArray}{ts:List SD}{bound:Int}{bf:List BD}:vsB vs ms cs fs ts bound l m bf=true↔VS vs ms cs fs ts bound l m bf:=by
 unfold vsB;exact @UE _ (Classical.propDecidable _)
theorem Uk{vs:List VD}{cs:List ByteArray}{ts:List SD}{bound:Int}{bf:List BD} (h:¬VS vs ms cs fs ts bound l m bf):vsB vs ms cs fs ts bound l m bf=false:=UG.2 λq=>h (lJ.1 q)
theorem ZF(h:∀(j:Nat) a b,l[j]?=some a->l[j+1]?=some b->a.1 < b.1):yZ l:=by
 refine OA λj x y hx hy=>?_
 rw[Es]at hx hy;cases ha:l[j]? with
 | none=>rw[ha]at hx;cases hx
 | some a=>
   cases hb:l[j+1]? with
   | none=>rw[hb]at hy;cases hy
   | some b=>
     rw[ha]at hx;rw[hb]at hy;cases hx;cases hy;exact h j a b ha hb
theorem aiC(h:yZ l){j:Nat}{a b:TD} (ha:l[j]?=some a) (hb:l[j+1]?=some b):a.1 < b.1:=
 YX h (j:=j) (by rw[Es,ha];rfl) (by rw[Es,hb];rfl)
def En(l:List TD) (id:Int):Option TD:=l.find? λt=>decide (t.1=id)
def OJ(b:Bool):Int:=if b=true then 1 else 0
def labS(m:MD) (t:TD) (i:ID):ED:=
 if i.1=8 then(t.1,t.2.2.2.2.1,1,i.2.2.2.2.1,-1,-1,i.2.2.2.2.2.2.2.1,m.1[i.2.2.2.2.1.toNat]?.getD 0,0,())
 else if i.1=14 then(t.1,t.2.2.2.2.1,8,i.2.2.2.2.1,-1,-1,i.2.2.2.2.2.2.2.1,m.1[i.2.2.2.2.1.toNat]?.getD 0,0,())
 else if i.1=9 then(t.1,t.2.2.2.2.1,2,i.2.2.2.2.1,-1,-1,i.2.2.2.2.2.2.2.1,0,t.2.2.2.1.getD i.2.2.1.toNat 0,())
 else if i.1=10 then(t.1,t.2.2.2.2.1,5,i.2.2.2.2.1,-1,-1,i.2.2.2.2.2.2.2.1,m.1[i.2.2.2.2.1.toNat]?.getD 0,t.2.2.2.1.getD i.2.2.1.toNat 0,())
 else if i.1=11 then(t.1,t.2.2.2.2.1,5,i.2.2.2.2.1,-1,-1,i.2.2.2.2.2.2.2.1,m.1[i.2.2.2.2.1.toNat]?.getD 0,(iF 1 (m.1[i.2.2.2.2.1.toNat]?.getD 0) (t.2.2.2.1.getD i.2.2.1.toNat 0)).1,())
 else if i.1=12 then
  (if m.1[i.2.2.2.2.1.toNat]?.getD 0=t.2.2.2.1.getD i.2.2.1.toNat 0 then(t.1,t.2.2.2.2.1,5,i.2.2.2.2.1,-1,-1,i.2.2.2.2.2.2.2.1,m.1[i.2.2.2.2.1.toNat]?.getD 0,t.2.2.2.1.getD i.2.2.2.1.toNat 0,())
   else(t.1,t.2.2.2.2.1,6,i.2.2.2.2.1,-1,-1,i.2.2.2.2.2.2.2.1,m.1[i.2.2.2.2.1.toNat]?.getD 0,0,()))
 else if i.1=13 then(t.1,t.2.2.2.2.1,7,i.2.2.2.2.1,-1,-1,0,0,0,())
 else if i.1=15 then(t.1,t.2.2.2.2.1,9,i.2.2.2.2.1,-1,-1,0,0,0,())
 else if i.1=16 then(t.1,t.2.2.2.2.1,10,i.2.2.2.2.1,-1,-1,0,0,0,())
 else if i.1=17 then(t.1,t.2.2.2.2.1,11,i.2.2.2.2.1,-1,-1,0,OJ (vY m i.2.2.2.2.1),0,())
 else if i.1=18 then
  (if t.2.2.2.2.2.2.1=0 then(t.1,t.2.2.2.2.1,12,i.2.2.2.2.1,i.2.2.2.2.2.1,-1,0,0,0,())
   else if t.2.2.2.2.2.2.1=1 then(t.1,t.2.2.2.2.1,13,i.2.2.2.2.1,-1,-1,0,0,0,())
   else(t.1,t.2.2.2.2.1,9,i.2.2.2.2.2.1,-1,-1,0,0,0,()))
 else if i.1=19 then(t.1,t.2.2.2.2.1,14,i.2.2.2.2.1,-1,-1,0,nT 1 (m.2.2.1[i.2.2.2.2.1.toNat]?.getD []).length,0,())
 else if i.1=20 then(t.1,t.2.2.2.2.1,15,i.2.2.2.2.1,-1,-1,0,(m.2.2.1[i.2.2.2.2.1.toNat]?.getD []).length,0,())
 else if i.1=21 then(t.1,t.2.2.2.2.1,16,(dG t.1 t.2.2.2.2.2.1).1,-1,-1,0,0,0,())
 else(t.1,t.2.2.2.2.1,17,t.2.2.2.1.getD i.2.2.1.toNat 0,-1,-1,0,0,0,())
def OL(l:List TD) (m:MD) (t:TD) (i:ID):Bool:=
 if i.1=14 then decide ((iF i.2.2.2.2.2.2.1 (m.1[i.2.2.2.2.1.toNat]?.getD 0) (t.2.2.2.1.getD i.2.2.1.toNat 0)).1≠0)
 else if i.1=15 then vY m i.2.2.2.2.1
 else if i.1=18 then(if t.2.2.2.2.2.2.1=1 then gQ m.2.2.2.1 t.1 else if t.2.2.2.2.2.2.1=2 then vY m i.2.2.2.2.2.1 else true)
 else if i.1=22 then(match En l (t.2.2.2.1.getD i.2.2.1.toNat 0) with
  | some u=>decide (u.2.2.2.2.2.2.2.1=2) || decide (u.2.2.2.2.2.2.2.1=3)
  | none=>false)
 else true
def kY(m:MD) (e:ED):MD×Int:=
 if e.2.2.1=5\/e.2.2.1=2 then writeM m e.2.2.2.1 e.2.2.2.2.2.2.2.2.1
 else if e.2.2.1=9\/(e.2.2.1=11/\e.2.2.2.2.2.2.2.1≠0) then jv m e.2.2.2.1 e.1 (-1) e.1
 else if e.2.2.1=10 then jv m e.2.2.2.1 e.1 e.1 (-1)
 else if e.2.2.1=12 then(if(jv m e.2.2.2.2.1 e.1 e.1 (-1)).2=0 then wY (jv m e.2.2.2.2.1 e.1 e.1 (-1)).1 e.2.2.2.1 e.1 else jv m e.2.2.2.2.1 e.1 e.1 (-1))
 else if e.2.2.1=13 then og m e.1
 else if e.2.2.1=14 then((uy m e.2.2.2.1 1).1,(uy m e.2.2.2.1 1).2.2)
 else if e.2.2.1=15 then((uy m e.2.2.2.1 (mM m.2.2.1)).1,(uy m e.2.2.2.1 (mM m.2.2.1)).2.2)
 else(m,0)
def zU(i:ID) (e:ED):Int:=
 if e.2.2.1=5 then(if i.1=12 then 1 else e.2.2.2.2.2.2.2.1) else if e.2.2.1=1\/e.2.2.1=8 then e.2.2.2.2.2.2.2.1
 else if e.2.2.1=11 then(if e.2.2.2.2.2.2.2.1=0 then 0 else 1) else if e.2.2.1=16 then e.2.2.2.1 else 0
def zE:ED:=(0,0,0,0,0,0,0,0,0,())
def zZ:ZD:=([],zM,[],())
def gu(p:TD->Bool) (l:List TD):Int:=match l.findIdx? p with
 | some i=>i
 | none=>-1
theorem ad6{d:TD} (hk:l[k]?=some d) (hd:p d=true) (h:∀j < k,∀t,l[j]?=some t->p t=false):gu p l=k:=by
 obtain⟨h1,h2⟩:=fH.1 hk;have:l.findIdx? p=some k:=by
  rw[A84];refine⟨h1,by rw[h2];exact hd,λj hj=>?_⟩
  rw[h j hj _ (lY (by omega))];simp
 unfold gu;rw[this]
theorem ad7(h:∀j < l.length,∀t,l[j]?=some t->p t=false):gu p l = -1:=by
 have:l.findIdx? p=none:=by
  rw[A92];intro x hx;obtain⟨j,hj⟩:=LK hx;exact h j (fH.1 hj).1 x hj
 unfold gu;rw[this]
abbrev aiD:SF:={ ss:=[bQ],r:=.bool,ct:=λpr fn=>{ ps:=[.sl bQ],pre:=λd=>d.1.length<=1000000/\∀t∈d.1,pr (t,()),res:=λd=>([],.one (.c (.v (.int .i64 (gu (λt=>fn (t,())) d.1))))) } }
abbrev ak2:MK:={ ss:=[.int .i64],f:=λds=>.clo Tryz.prog [bQ] .bool (λ_=>True) (λd=>decide (d.1.1=ds.1)) }
abbrev aiE(pr:bK [bQ]->Prop) (fn:bK [bQ]->Bool) (l:List TD):Nat->Option (St->kD):=λk=>match k with
 | 2=>some λ_=>.inv { α:=Nat,slots:=λk=>[(8,.c (.v (.int .i64 k)))],res:=λ_=>[],inv:=λk=>k<=l.length/\∀j < k,∀t,l[j]?=some t->fn (t,())=false,meas:=λk=>l.length - k }
 | _=>none
abbrev ak3:List (Nat×SF):=[]
theorem ad8(pr:bK [bQ]->Prop) (fn:bK [bQ]->Bool) (l:List TD) (aF:(aiD.ct pr fn).pre (l,())):
 let z1:=λ(x:Nat)=>(x<=l.length/\∀(j:Nat),j < x->∀(t:TD),l[j]?=some t->fn (t,())=false);let z2:=gu (λt=>fn (t,())) l;(∃x,(z1 x)/\(cI 0=cI (x:Int)/\True)/\([]:List fV)=[])/\∀(x:Nat),(z1 x)->br (decide ((x:Int) < (l.length:Int))) ((0<=(x:Int)/\(x:Int) < (l.length:Int))/\∀(d:TD),l[(x:Int).toNat]?=some d->some Tryz.prog=some Tryz.prog/\pr (d,())/\br (fn (d,())) (qI z2 (x:Int)) (iR ((x:Int)+(1:Int))/\∃x',(z1 x')/\(cI ((x:Int)+(1:Int))=cI (x':Int)/\True)/\([]:List fV)=[]/\l.length - x' < l.length - x)) (qI z2 (-1:Int)):=by
 conv=>zeta
 delta fV iR;obtain⟨hl,hp⟩:l.length<=1000000/\∀t∈l,pr (t,()):=aF;refine⟨⟨0,⟨by omega,λj hj=>by omega⟩,⟨rfl,trivial⟩,rfl⟩,λk hk=>ah.2 ⟨λg=>?_,λg=>?_⟩⟩
 .simp only[eH]at g;refine⟨⟨by omega,by omega⟩,λd hd=>⟨rfl,hp d (iJ hd),ah.2 ⟨λg2=>⟨rfl,?_⟩,λg2=>⟨aC.2 (by omega),k+1,⟨by omega,λj hj t ht=>?_⟩,⟨rfl,trivial⟩,rfl,by omega⟩⟩⟩⟩
  .have hd:l[k]?=some d:=hd;rw[ad6 (p:=λt=>fn (t,())) hd g2 hk.2]
  .by_cases e:j=k
   .subst e;have hd:l[j]?=some d:=hd;rw[hd]at ht;cases ht;exact g2
   .exact hk.2 j (by omega) t ht
 .simp only[iH]at g;refine⟨rfl,?_⟩;rw[ad7 (p:=λt=>fn (t,())) λj hj t ht=>hk.2 j (by omega) t ht]
theorem ad9:abK Tryz.prog aV.gd 113 aiD:=
 agA (cx:=aV) (n:=19) (cl:=[]) (ml:=mlN) (fl:=ak3) (rc:=[]) (by kernel_rfl) aB trivial trivial trivial Tryz.func113 (by kernel_rfl) (by kernel_rfl) (λ_ _=>rfl) (by kernel_rfl) (by kernel_rfl) λpr fn d hd=>by
  obtain⟨l,⟨⟩⟩:=d;exact aT (aiE pr fn l) (ad8 pr fn l hd) (by kernel_rfl)
theorem aea(c0 id fn pc:Int) (rg:List Int) (st ch ph su fa:Int) (he:List Int):
 qB (decide (id=c0)) (decide (id=c0)):=by
 exact⟨rfl,rfl⟩
theorem aeb:W9 Tryz.prog aV.gd 114 ak2:=
 agC (cx:=aV) (n:=8) (cl:=[]) (rc:=[]) (by kernel_rfl) aB trivial Tryz.func114 (by kernel_rfl) (by kernel_rfl) rfl rfl (by kernel_rfl) (by kernel_rfl) λds d _ _=>by
  obtain⟨c0,⟨⟩⟩:=ds;obtain⟨⟨id,fn,pc,rg,st,ch,ph,su,fa,he,⟨⟩⟩,⟨⟩⟩:=d;exact aT (λ_=>none) (aea c0 id fn pc rg st ch ph su fa he) (by kernel_rfl)
abbrev Gv:CT:={ ps:=[.sl bQ,.int .i64],pre:=λd=>d.1.length<=1000000,res:=λd=>([],.iO [.c (.v (.int .i64 (eY (gu (λt=>decide (t.1=d.2.1)) d.1) 0))),.c (.v (.bool (decide (0<=gu (λt=>decide (t.1=d.2.1)) d.1))))]) }
abbrev amF:List (Nat×SF):=[(113,aiD)]
abbrev amG:List (Nat×MK):=[(114,ak2)]
theorem aiF(l:List TD) (id:Int) (aF:Gv.pre (l,id,())):
 let z1:=[I6.pair (I6.pair (I6.pair ((Sh.arr 8 I6).pair (I6.pair (I6.pair (I6.pair (I6.pair (I6.pair (I6.sl.pair Sh.unit)))))))))];True/\some Tryz.prog=some Tryz.prog/\∃pre' g',(Ew.clo Tryz.prog z1 Sh.bool (λx=>True) λd=>decide (d.fst.fst=id))=Ew.clo Tryz.prog z1 Sh.bool pre' g'/\(l.length<=1000000/\∀(t:TD),t∈l->pre' (t,()))/\rT [cI (eY (gu (λt=>decide (t.fst=(l,id,()).snd.fst)) l) (0:Int)),cB (decide (0<=gu (λt=>decide (t.fst=(l,id,()).snd.fst)) l))] [cI (eY (gu (λt=>g' (t,())) l) (0:Int)),cB (decide (0<=gu (λt=>g' (t,())) l))]:=by
 conv=>zeta
 exact⟨trivial,rfl,λ_=>True,λd=>decide (d.1.1=id),rfl,⟨aF,λ_ _=>trivial⟩,rfl,rfl⟩
theorem BG:aY aV.gd 52 Gv:=
 abL (cx:=aV) (n:=14) (cl:=[]) (ml:=amG) (fl:=amF) (rc:=[]) (by kernel_rfl) aB trivial ⟨aeb,trivial⟩ ⟨ad9,trivial⟩ Tryz.func52 (by kernel_rfl) (by kernel_rfl) rfl (by kernel_rfl) (by kernel_rfl) λd hd=>by
  obtain⟨l,id,⟨⟩⟩:=d;exact aT (λ_=>none) (aiF l id hd) (by kernel_rfl)
theorem aiG(vs:List VD) (ms cs:List ByteArray) (fs:List FD) (ts:List SD) (bound:Int) (aF:yV.pre ((vs,ms,cs,fs,ts,()),bound,())):
 let z2:=aG vs ms cs fs ts;let z1:=dM z2.fst bound;(bnd ((vs,ms,cs,fs,ts,()),()))/\br (!decide (z2.fst=0)) (qI z1 (z2.fst)) (br (decide (bound < 1) || decide (32 < bound)) (qI z1 (2:Int)) (qI z1 (0:Int))):=by
 conv=>zeta
 have hb:bnd ((vs,ms,cs,fs,ts,()),()):=aF;refine⟨hb,ah.2 ⟨λh=>?_,λh=>ah.2 ⟨λh2=>?_,λh2=>?_⟩⟩⟩
 .have h:(aG vs ms cs fs ts).1≠0:=by simpa using h
  have e:dM (aG vs ms cs fs ts).1 bound=(aG vs ms cs fs ts).1:=by unfold dM;rw[if_pos h]
  rw[e];exact⟨rfl,rfl⟩
 all_goals have h:¬(aG vs ms cs fs ts).1≠0:=by simpa using h
 .have h2:bound < 1\/32 < bound:=by simpa using h2
  have e:dM (aG vs ms cs fs ts).1 bound=2:=by unfold dM;rw[if_neg h,if_pos h2]
  rw[e];exact⟨rfl,rfl⟩
 .have h2:¬(bound < 1\/32 < bound):=by simp only[rM,iH]at h2;omega
  have e:dM (aG vs ms cs fs ts).1 bound=0:=by unfold dM;rw[if_neg h,if_neg h2]
  rw[e];exact⟨rfl,rfl⟩
theorem QN:aY aV.gd 32 yV:=
 dO (cx:=aV) (n:=23) (cl:=[(74,Gj)]) (rc:=[]) aB ⟨Bv,trivial⟩ Tryz.func32 λd hd=>by
  obtain⟨⟨vs,ms,cs,fs,ts,⟨⟩⟩,bound,⟨⟩⟩:=d;exact aT (λ_=>none) (aiG vs ms cs fs ts bound hd) (by kernel_rfl)
abbrev ZG:CT:={ ps:=[vF,.int .i64,Jf],pre:=λd=>bnd (d.1,())/\jC d.2.2.1.1/\bI d.2.2.1.2.1,res:=λd=>([],vB (vsB d.1.1 d.1.2.1 d.1.2.2.1 d.1.2.2.2.1 d.1.2.2.2.2.1 d.2.1 d.2.2.1.1 d.2.2.1.2.1 d.2.2.1.2.2.1)) }
abbrev ak4(vs:List VD) (ms cs:List ByteArray) (fs:List FD) (ts:List SD) (bound:Int) (th:List TD) (mv mo:List Int) (mq:List (List Int)) (mg:List Int) (bf:List BD):Nat->Option (St->kD):=λk=>match k with
 | 4=>some λ_=>.inv { α:=Nat,slots:=λk=>[(23,.c (.v (.int .i64 k)))],res:=λk=>[],inv:=λk=>k<=(th).length/\(∀j < k,∀t,th[j]?=some t->dM (aG vs ms cs fs ts).1 bound=0/\xq ms fs bound t)/\∀j,j+1 < k->∀a b,th[j]?=some a->th[j+1]?=some b->a.1 < b.1,meas:=λk=>(th).length - k }
 | _=>none
theorem aiH(vs:List VD) (ms cs:List ByteArray) (fs:List FD) (ts:List SD) (bound:Int) (th:List TD) (mv mo:List Int) (mq:List (List Int)) (mg:List Int) (bf:List BD) (aF:ZG.pre ((vs,ms,cs,fs,ts,()),bound,(th,(mv,mo,mq,mg,()),bf,()),())):
 let z7:=bnd ((vs,ms,cs,fs,ts,()),());let z8:=(mv,mo,mq,mg,());let z6:=vsB vs ms cs fs ts bound th z8 bf;let z5:=qB z6 false;let z1:=λ(x:Nat)=>(x<=th.length/\(∀(j:Nat),j < x->∀(t:TD),th[j]?=some t->dM (aG vs ms cs fs ts).fst bound=0/\xq ms fs bound t)/\∀(j:Nat),j+1 < x->∀(a b:TD),th[j]?=some a->th[j+1]?=some b->a.fst < b.fst);let z2:=[g0 (ak.blk 27 [SC.sl Qk vs,SC.sl Sh.str ms,SC.sl Sh.str cs,SC.sl LU fs,SC.sl ji ts]),g0 (ak.blk 37 [SC.sl bQ th,SC.sl I6 mv,SC.sl I6 mo,SC.sl I6.sl mq,SC.sl I6 mg,SC.sl kT bf])];let z4:=λ(d:TD)=>decide (dM (aG vs ms cs fs ts).fst bound=0) && uo ms fs bound d;let z3:=λ(x:Nat) (d:TD)=>decide (0 < (x:Int)) && !!(z4 d);(z7/\bI z8)/\br (!lF (vs,ms,cs,fs,ts,()) z8 || decide (0 < (bf.length:Int))) z5 ((∃x,(z1 x)/\(cI 0=cI (x:Int)/\True)/\sm z2)/\∀(x:Nat),(z1 x)->br (decide ((x:Int) < (th.length:Int))) ((0<=(x:Int)/\(x:Int) < (th.length:Int))/\∀(d:TD),th[(x:Int).toNat]?=some d->(z7/\List.length d.snd.snd.snd.snd.snd.snd.snd.snd.snd.fst<=1000000/\d.fst<=9223372036854775807/\List.length d.snd.snd.snd.fst=8)/\((z3 x d)=true->iR ((x:Int) - (1:Int)))/\((z3 x d)=true->0<=(x:Int) - (1:Int)/\(x:Int) - 1 < (th.length:Int))/\∀(dR:TD),((z3 x d)=true->th[((x:Int) - (1:Int)).toNat]?=some dR)->br (!(z4 d) || decide (0 < (x:Int)) && decide ((d).fst<=dR.fst)) z5 (iR ((x:Int)+(1:Int))/\∃x',(z1 x')/\(cI ((x:Int)+(1:Int))=cI (x':Int)/\True)/\sm z2/\th.length - x' < th.length - x)) (qB z6 true)):=by
 conv=>zeta
 delta iR;obtain⟨hb,hT,hM⟩:bnd ((vs,ms,cs,fs,ts,()),())/\jC th/\bI (mv,mo,mq,mg,()):=aF;obtain⟨hl,hT⟩:=hT;have fF:¬VS vs ms cs fs ts bound th (mv,mo,mq,mg,()) bf->qB (vsB vs ms cs fs ts bound th (mv,mo,mq,mg,()) bf) false:=λq=>⟨rfl,by rw[Uk q]⟩
 refine⟨⟨hb,hM⟩,ah.2 ⟨λh=>fF λq=>?_,λh=>⟨⟨0,⟨by omega,λj hj=>by omega,λj hj=>by omega⟩,⟨rfl,trivial⟩,rfl⟩,λk hk=>ah.2 ⟨λg=>?_,λg=>?_⟩⟩⟩⟩
 .obtain⟨q1,q2,q3,q4⟩:=q;rw[q1,q2]at h;simp at h
 .obtain⟨k1,k2,k3⟩:=hk;simp only[eH]at g;refine⟨⟨by omega,by omega⟩,λd hd=>⟨⟨hb,hT d (iJ hd)⟩,λ_=>aC.2 (by omega),λq=>?_,λd1 hd1=>ah.2 ⟨λg2=>fF λq=>?_,λg2=>⟨aC.2 (by omega),k+1,⟨by omega,λj hj t ht=>?_,λj hj a b ha hb=>?_⟩,⟨rfl,trivial⟩,rfl,by omega⟩⟩⟩⟩
  .rw[A8,eH]at q;omega
  .have hd:th[k]?=some d:=hd;have q3:=q.2.2.1 d (iJ hd);rw[Fb,UF,A8,eH,eH]at g2;have hv:(decide (dM (aG vs ms cs fs ts).1 bound=0) && uo ms fs bound d)=true:=by rw[A8,eH,nX];exact q3
   rcases g2 with g2 | ⟨g2,g3⟩
   .rw[hv]at g2;cases g2
   .have gg:(decide ((0:Int) < (k:Int)) && !!(decide (dM (aG vs ms cs fs ts).1 bound=0) && uo ms fs bound d))=true:=by rw[hv,Jg g2];rfl
    have h1:=hd1 gg;rw[show((k:Int) - 1).toNat=k - 1 by omega]at h1
    have:=aiC q.2.2.2 h1 (by rw[show k - 1+1=k by omega];exact hd)
    omega
  .rw[rM,BJ,A8,eH,nX]at g2
   by_cases e:j=k
   .subst e;have hd:th[j]?=some d:=hd;rw[hd]at ht;cases ht;exact g2.1
   .exact k2 j (by omega) t ht
  .by_cases e:j+1=k
   .have hd:th[k]?=some d:=hd;rw[rM,BJ]at g2;have hk0:(0:Int) < (k:Int):=by omega
    have gg:(decide ((0:Int) < (k:Int)) && !!(decide (dM (aG vs ms cs fs ts).1 bound=0) && uo ms fs bound d))=true:=by rw[g2.1,Jg hk0];rfl
    have h1:=hd1 gg;rw[show((k:Int) - 1).toNat=j by omega,ha]at h1
    cases h1;rw[e,hd]at hb;cases hb;have g3:=g2.2;rw[Rt,iH,iH]at g3;omega
   .exact k3 j (by omega) a b ha hb
 .obtain⟨k1,k2,k3⟩:=hk;simp only[iH]at g;have all:∀t∈th,dM (aG vs ms cs fs ts).1 bound=0/\xq ms fs bound t:=λt ht=>by
   obtain⟨j,hj⟩:=LK ht;have:=(fH.1 hj).1;exact k2 j (by omega) t hj
  have up:yZ th:=ZF λj a b ha hb=>by
   have:=(fH.1 hb).1;exact k3 j (by omega) a b ha hb
  rw[rM,BJ,iH]at h;have e:bf=[]:=List.length_eq_zero_iff.1 (by omega)
  exact⟨rfl,by rw[lJ.2 ⟨h.1,e,all,up⟩]⟩
theorem IV:aY aV.gd 40 ZG:=
 dO (cx:=aV) (n:=50) (cl:=[(84,aiw),(85,adA)]) (rc:=[]) aB ⟨adZ,QB,trivial⟩ Tryz.func40 λd hd=>by
  obtain⟨⟨vs,ms,cs,fs,ts,⟨⟩⟩,bound,⟨th,⟨mv,mo,mq,mg,⟨⟩⟩,bf,⟨⟩⟩,⟨⟩⟩:=d;exact aT (ak4 vs ms cs fs ts bound th mv mo mq mg bf) (aiH vs ms cs fs ts bound th mv mo mq mg bf hd) (by kernel_rfl)
theorem jW{a b:ED} (h:a=b):qE a b:=⟨rfl,by rw[h]⟩
theorem mO{a b:Bool} (h:a=b):qB a b:=⟨rfl,by rw[h]⟩
theorem rgd{rg:List Int}{b d:Int} (h:rg[b.toNat]?=some d):rg.getD b.toNat 0=d:=by rw[A63,h];rfl
theorem qL(h:0<=gu p l):∃(k:Nat) (t:TD),gu p l=k/\l[k]?=some t/\l.find? p=some t/\k < l.length:=by
 unfold gu at h ⊢
 cases e:l.findIdx? p with
 | none=>rw[e]at h;exact absurd h (by decide)
 | some k=>
   obtain⟨h1,h2,h3⟩:=A84.1 e;refine⟨k,l[k],rfl,lY h1,?_,h1⟩;rw[List.find?_eq_some_iff_getElem];exact⟨h2,k,h1,rfl,λj hj=>by have:=h3 j hj;simpa using this⟩
theorem uz(h:¬0<=gu p l):l.find? p=none:=by
 unfold gu at h;cases e:l.findIdx? p with
 | some k=>rw[e]at h;exact absurd (Int.natCast_nonneg k) h
 | none=>
   rw[A92]at e;rw[A94];intro x hx;rw[e x hx];simp
def aiI(v rb rc op o:Int):ED->ED
 | (ag,ix,_,eo,mx,en,_,_,wr,_)=>if op=8 then(ag,ix,1,eo,mx,en,o,v,wr,()) else if op=14 then(ag,ix,8,eo,mx,en,o,v,wr,()) else if op=9 then(ag,ix,2,eo,mx,en,o,0,rb,())
   else if op=10 then(ag,ix,5,eo,mx,en,o,v,rb,()) else if op=11 then(ag,ix,5,eo,mx,en,o,v,(iF 1 v rb).1,()) else if v=rb then(ag,ix,5,eo,mx,en,o,v,rc,()) else(ag,ix,6,eo,mx,en,o,v,wr,())
def wtS(ph n:Int):ED->ED
 | (ag,ix,_,eo,mx,en,Gw,rd,wr,_)=>if ph=0 then(ag,ix,12,eo,n,en,Gw,rd,wr,()) else if ph=1 then(ag,ix,13,eo,mx,en,Gw,rd,wr,()) else(ag,ix,9,n,mx,en,Gw,rd,wr,())
def EY(m:MD) (t:TD) (i:ID):Prop:=
 (bI m/\eG m=true/\tB t)/\(0<=i.2.2.1/\i.2.2.1 < 8)/\(0<=i.2.2.2.1/\i.2.2.2.1 < 8)/\(8<=i.1/\i.1<=22) /\
 (i.1<=14/\i.1≠13->0<=i.2.2.2.2.1/\i.2.2.2.2.1 < (m.1.length:Int))/\(18<=i.1/\i.1<=20->0<=i.2.2.2.2.1/\i.2.2.2.2.1 < (m.2.2.1.length:Int)) /\
 (i.1=13\/15<=i.1->i.2.2.2.2.2.2.2.1=0)
theorem QO{x:Int} (h:eG m=true) (h1:0<=x/\x < (m.1.length:Int)):(vX m x).1=m.1[x.toNat]?.getD 0:=by
 unfold vX;rw[if_pos (iY.2 ⟨h,h1⟩)]
abbrev ZH:CT:={ ps:=[.bool],pre:=λd=>True,res:=λd=>([],.one (.c (.v (.int .i64 (OJ d.1))))) }
theorem aiJ(b:Bool):
 br b (qI (OJ b) (1:Int)) (qI (OJ b) (0:Int)):=by
 unfold OJ;cases b<;>exact ah.2 ⟨λh=>⟨rfl,by simp_all⟩,λh=>⟨rfl,by simp_all⟩⟩
theorem aec:aY aV.gd 86 ZH:=
 pz (cx:=aV) (n:=4) (cl:=[]) aB trivial Tryz.func86 λd hd=>by
  obtain⟨b,⟨⟩⟩:=d;exact aT (λ_=>none) (aiJ b) (by kernel_rfl)
abbrev ZI:CT:={ ps:=[Jf,bQ,oV,shE],pre:=λd=>bI d.1.2.1/\d.2.1.2.2.2.1.length=8/\(0<=d.2.2.1.2.2.1/\d.2.2.1.2.2.1 < 8)/\(0<=d.2.2.1.2.2.2.1/\d.2.2.1.2.2.2.1 < 8),res:=λd=>([],.one (EX (aiI (vX d.1.2.1 d.2.2.1.2.2.2.2.1).1 (d.2.1.2.2.2.1.getD d.2.2.1.2.2.1.toNat 0) (d.2.1.2.2.2.1.getD d.2.2.1.2.2.2.1.toNat 0) d.2.2.1.1 d.2.2.1.2.2.2.2.2.2.2.1 d.2.2.2.1))) }
theorem aiK(th:List TD) (mv mo:List Int) (mq:List (List Int)) (mg:List Int) (bf:List BD) (id fn pc:Int) (rg:List Int) (st ch ph su fa:Int) (he:List Int) (op a b c obj n fo ord ag ix kd eo mx en Gw rd wr:Int) (aF:ZI.pre ((th,(mv,mo,mq,mg,()),bf,()),(id,fn,pc,rg,st,ch,ph,su,fa,he,()),(op,a,b,c,obj,n,fo,ord,()),(ag,ix,kd,eo,mx,en,Gw,rd,wr,()),())):
 let z2:=vX (mv,mo,mq,mg,()) obj;let z1:=aiI z2.fst (rg.getD b.toNat (0:Int)) (rg.getD c.toNat (0:Int)) op ord (ag,ix,kd,eo,mx,en,Gw,rd,wr,());bI (mv,mo,mq,mg,())/\br (decide (op=8)) (qE z1 (ag,ix,1,eo,mx,en,ord,z2.fst,wr,())) (br (decide (op=14)) (qE z1 (ag,ix,8,eo,mx,en,ord,z2.fst,wr,())) (br (decide (op=9)) ((0<=b/\b < 8)/\b.toNat < 8/\∀(d:Int),rg[b.toNat]?=some d->qE z1 (ag,ix,2,eo,mx,en,ord,0,d,())) (br (decide (op=10)) ((0<=b/\b < 8)/\b.toNat < 8/\∀(d:Int),rg[b.toNat]?=some d->qE z1 (ag,ix,5,eo,mx,en,ord,z2.fst,d,())) (br (decide (op=11)) ((0<=b/\b < 8)/\b.toNat < 8/\∀(d:Int),rg[b.toNat]?=some d->True/\qE z1 (ag,ix,5,eo,mx,en,ord,z2.fst,aX (aX (z2.fst,d,()).fst+aX d),())) ((0<=b/\b < 8)/\b.toNat < 8/\∀(d:Int),rg[b.toNat]?=some d->br (decide (z2.fst=d)) ((0<=c/\c < 8)/\c.toNat < 8/\∀(d:Int),rg[c.toNat]?=some d->qE z1 (ag,ix,5,eo,mx,en,ord,z2.fst,d,())) (qE z1 (ag,ix,6,eo,mx,en,ord,z2.fst,wr,()))))))):=by
 conv=>zeta
 obtain⟨hM,h8,hb,hc⟩:bI (mv,mo,mq,mg,())/\rg.length=8/\(0<=b/\b < 8)/\(0<=c/\c < 8):=aF;have hb8:b.toNat < 8:=by omega
 have hc8:c.toNat < 8:=by omega
 refine⟨hM,bV.2 ⟨λe=>jW ?_,λn1=>bV.2 ⟨λe=>jW ?_,λn2=>bV.2 ⟨λe=>⟨hb,hb8,λd hd=>jW ?_⟩,λn3=>bV.2 ⟨λe=>⟨hb,hb8,λd hd=>jW ?_⟩,λn4=>bV.2 ⟨λe=>⟨hb,hb8,λd hd=>⟨trivial,jW ?_⟩⟩,λn5=>⟨hb,hb8,λd hd=>bV.2 ⟨λe=>⟨hc,hc8,λd2 hd2=>jW ?_⟩,λe=>jW ?_⟩⟩⟩⟩⟩⟩⟩⟩
 .subst e;rfl
 .subst e;rfl
 .subst e;rw[rgd hd];rfl
 .subst e;rw[rgd hd];rfl
 .subst e;rw[rgd hd];rfl
 .rw[rgd hd,rgd hd2];show(if op=8 then _ else _)=_
  rw[if_neg n1,if_neg n2,if_neg n3,if_neg n4,if_neg n5,if_pos e]
 .rw[rgd hd];show(if op=8 then _ else _)=_
  rw[if_neg n1,if_neg n2,if_neg n3,if_neg n4,if_neg n5,if_neg e]
theorem aed:aY aV.gd 90 ZI:=
 dO (cx:=aV) (n:=73) (cl:=[(96,adL),(97,Qr)]) (rc:=[]) aB ⟨QH,IE,trivial⟩ Tryz.func90 λd hd=>by
  obtain⟨⟨th,⟨mv,mo,mq,mg,⟨⟩⟩,bf,⟨⟩⟩,⟨id,fn,pc,rg,st,ch,ph,su,fa,he,⟨⟩⟩,⟨op,a,b,c,obj,n,fo,ord,⟨⟩⟩,⟨ag,ix,kd,eo,mx,en,Gw,rd,wr,⟨⟩⟩,⟨⟩⟩:=d;exact aT (λ_=>none) (aiK th mv mo mq mg bf id fn pc rg st ch ph su fa he op a b c obj n fo ord ag ix kd eo mx en Gw rd wr hd) (by kernel_rfl)
abbrev afn:CT:={ ps:=[bQ,oV,shE],pre:=λd=>True,res:=λd=>([],.one (EX (wtS d.1.2.2.2.2.2.2.1 d.2.1.2.2.2.2.2.1 d.2.2.1))) }
theorem aiL(id fn pc:Int) (rg:List Int) (st ch ph su fa:Int) (he:List Int) (op a b c obj n fo ord ag ix kd eo mx en Gw rd wr:Int):
 let z1:=wtS ph n (ag,ix,kd,eo,mx,en,Gw,rd,wr,());br (decide (ph=0)) (qE z1 (ag,ix,12,eo,n,en,Gw,rd,wr,())) (br (decide (ph=1)) (qE z1 (ag,ix,13,eo,mx,en,Gw,rd,wr,())) (qE z1 (ag,ix,9,n,mx,en,Gw,rd,wr,()))):=by
 conv=>zeta
 refine bV.2 ⟨λe=>jW ?_,λn1=>bV.2 ⟨λe=>jW ?_,λn2=>jW ?_⟩⟩
 .subst e;rfl
 .subst e;rfl
 .show(if ph=0 then _ else _)=_
  rw[if_neg n1,if_neg n2]
theorem aee:aY aV.gd 88 afn:=
 dO (cx:=aV) (n:=23) (cl:=[]) (rc:=[]) aB trivial Tryz.func88 λd hd=>by
  obtain⟨⟨id,fn,pc,rg,st,ch,ph,su,fa,he,⟨⟩⟩,⟨op,a,b,c,obj,n,fo,ord,⟨⟩⟩,⟨ag,ix,kd,eo,mx,en,Gw,rd,wr,⟨⟩⟩,⟨⟩⟩:=d;exact aT (λ_=>none) (aiL id fn pc rg st ch ph su fa he op a b c obj n fo ord ag ix kd eo mx en Gw rd wr) (by kernel_rfl)
abbrev QS:CT:={ ps:=[Jf,bQ,oV],pre:=λd=>EY d.1.2.1 d.2.1 d.2.2.1,res:=λd=>([],.one (EX (labS d.1.2.1 d.2.1 d.2.2.1))) }
theorem aiM(th:List TD) (mv mo:List Int) (mq:List (List Int)) (mg:List Int) (bf:List BD) (id fn pc:Int) (rg:List Int) (st ch ph su fa:Int) (he:List Int) (op a b c obj n fo ord:Int) (aF:QS.pre ((th,(mv,mo,mq,mg,()),bf,()),(id,fn,pc,rg,st,ch,ph,su,fa,he,()),(op,a,b,c,obj,n,fo,ord,()),())):
 let z4:=(mv,mo,mq,mg,());let z1:=labS z4 (id,fn,pc,rg,st,ch,ph,su,fa,he,()) (op,a,b,c,obj,n,fo,ord,());let z2:=(id,st,(0:Int),obj,(-1:Int),(-1:Int),(0:Int),(0:Int),(0:Int),());let z3:=0<=obj/\obj < (mq.length:Int);br (decide (op=13)) (qE z1 (id,st,7,obj,-1,-1,0,0,0,())) (br (decide (op=15)) (qE z1 (id,st,9,obj,-1,-1,0,0,0,())) (br (decide (op=16)) (qE z1 (id,st,10,obj,-1,-1,0,0,0,())) (br (decide (op=17)) (bI z4/\True/\qE z1 (id,st,11,obj,-1,-1,0,OJ (vY z4 obj),0,())) (br (decide (op=18)) (True/\qE z1 (wtS ph n z2)) (br (decide (op=19)) (z3/\∀(d:List Int),mq[obj.toNat]?=some d->qE z1 (id,st,14,obj,-1,-1,0,nT (1:Int) (d.length:Int),0,())) (br (decide (op=20)) (z3/\∀(d:List Int),mq[obj.toNat]?=some d->qE z1 (id,st,15,obj,-1,-1,0,(d.length:Int),0,())) (br (decide (op=21)) (id<=9223372036854775807/\qE z1 (id,st,16,(dG id ch).fst,-1,-1,0,0,0,())) (br (decide (op=22)) ((0<=b/\b < 8)/\b.toNat < 8/\∀(d:Int),rg[b.toNat]?=some d->qE z1 (id,st,17,d,-1,-1,0,0,0,())) ((bI z4/\rg.length=8/\(0<=b/\b < 8)/\0<=c/\c < 8)/\qE z1 (aiI (vX z4 obj).fst (rg.getD b.toNat (0:Int)) (rg.getD c.toNat (0:Int)) op ord z2)))))))))):=by
 conv=>zeta
 obtain⟨⟨hM,hf,hT⟩,hb,hc,hv,ho1,ho2,ho3⟩:EY (mv,mo,mq,mg,()) (id,fn,pc,rg,st,ch,ph,su,fa,he,()) (op,a,b,c,obj,n,fo,ord,()):=aF;obtain⟨t1,t2,t3⟩:he.length<=1000000/\id<=9223372036854775807/\rg.length=8:=hT;have hb:0<=b/\b < 8:=hb;have hc:0<=c/\c < 8:=hc;have hv:8<=op/\op<=22:=hv;have ho1:op<=14/\op≠13->0<=obj/\obj < (mv.length:Int):=ho1;have ho2:18<=op/\op<=20->0<=obj/\obj < (mq.length:Int):=ho2;have hb8:b.toNat < 8:=by omega
 refine bV.2 ⟨λe=>jW ?_,λn1=>bV.2 ⟨λe=>jW ?_,λn2=>bV.2 ⟨λe=>jW ?_,λn3=>bV.2 ⟨λe=>⟨hM,trivial,jW ?_⟩,λn4=>bV.2 ⟨λe=>⟨trivial,jW ?_⟩,λn5=>bV.2 ⟨λe=>⟨ho2 (by omega),λd hd=>jW ?_⟩,λn6=>bV.2 ⟨λe=>⟨ho2 (by omega),λd hd=>jW ?_⟩,λn7=>bV.2 ⟨λe=>⟨t2,jW ?_⟩,λn8=>bV.2 ⟨λe=>⟨hb,hb8,λd hd=>jW ?_⟩,λn9=>⟨⟨hM,t3,hb,hc⟩,jW ?_⟩⟩⟩⟩⟩⟩⟩⟩⟩⟩
 .subst e;rfl
 .subst e;rfl
 .subst e;rfl
 .subst e;rfl
 .subst e;have e1:∀m t,labS m t (18,a,b,c,obj,n,fo,ord,())=if t.2.2.2.2.2.2.1=0 then(t.1,t.2.2.2.2.1,12,obj,n,-1,0,0,0,()) else if t.2.2.2.2.2.2.1=1 then(t.1,t.2.2.2.2.1,13,obj,-1,-1,0,0,0,()) else(t.1,t.2.2.2.2.1,9,n,-1,-1,0,0,0,()):=λ_ _=>rfl
  rw[e1];rfl
 .subst e;have e1:∀m t,labS m t (19,a,b,c,obj,n,fo,ord,())=(t.1,t.2.2.2.2.1,14,obj,-1,-1,0,nT 1 (m.2.2.1[obj.toNat]?.getD []).length,0,()):=λ_ _=>rfl
  rw[e1];show(_,_,_,_,_,_,_,nT 1 (mq[obj.toNat]?.getD []).length,_,_)=_;rw[hd];rfl
 .subst e;have e1:∀m t,labS m t (20,a,b,c,obj,n,fo,ord,())=(t.1,t.2.2.2.2.1,15,obj,-1,-1,0,((m.2.2.1[obj.toNat]?.getD []).length:Int),0,()):=λ_ _=>rfl
  rw[e1];show(_,_,_,_,_,_,_,(((mq[obj.toNat]?.getD []).length:Nat):Int),_,_)=_;rw[hd];rfl
 .subst e;rfl
 .subst e;have e1:∀m t,labS m t (22,a,b,c,obj,n,fo,ord,())=(t.1,t.2.2.2.2.1,17,t.2.2.2.1.getD b.toNat 0,-1,-1,0,0,0,()):=λ_ _=>rfl
  rw[e1];show(_,_,_,rg.getD b.toNat 0,_,_,_,_,_,_)=_;rw[rgd hd]
 .rw[QO hf (ho1 (by omega))]
  have:op=8\/op=9\/op=10\/op=11\/op=12\/op=14:=by omega
  rcases this with e | e | e | e | e | e<;>subst e<;>rfl
theorem QT:aY aV.gd 42 QS:=
 dO (cx:=aV) (n:=91) (cl:=[(86,ZH),(87,adN),(88,afn),(89,Qs),(90,ZI)]) (rc:=[]) aB ⟨aec,QI,aee,Qu,aed,trivial⟩ Tryz.func42 λd hd=>by
  obtain⟨⟨th,⟨mv,mo,mq,mg,⟨⟩⟩,bf,⟨⟩⟩,⟨id,fn,pc,rg,st,ch,ph,su,fa,he,⟨⟩⟩,⟨op,a,b,c,obj,n,fo,ord,⟨⟩⟩,⟨⟩⟩:=d;exact aT (λ_=>none) (aiM th mv mo mq mg bf id fn pc rg st ch ph su fa he op a b c obj n fo ord hd) (by kernel_rfl)
abbrev QU:CT:={ ps:=[Jf,bQ,oV],pre:=λd=>EY d.1.2.1 d.2.1 d.2.2.1/\d.1.1.length<=1000000,res:=λd=>([],vB (OL d.1.1 d.1.2.1 d.2.1 d.2.2.1)) }
theorem aiN(th:List TD) (mv mo:List Int) (mq:List (List Int)) (mg:List Int) (bf:List BD) (id fn pc:Int) (rg:List Int) (st ch ph su fa:Int) (he:List Int) (op a b c obj n fo ord:Int) (aF:QU.pre ((th,(mv,mo,mq,mg,()),bf,()),(id,fn,pc,rg,st,ch,ph,su,fa,he,()),(op,a,b,c,obj,n,fo,ord,()),())):
 let z7:=(mv,mo,mq,mg,());let z3:=OL th z7 (id,fn,pc,rg,st,ch,ph,su,fa,he,()) (op,a,b,c,obj,n,fo,ord,());let z2:=qB z3 true;let z5:=λ(d:Int)=>0<=gu (λt=>decide (t.fst=(th,d,()).snd.fst)) th;let z6:=λ(d:Int)=>gu (λt=>decide (t.fst=(th,d,()).snd.fst)) th;let z4:=λ(d:Int)=>eY (z6 d) (0:Int);let z1:=λ(dR:TD) (d:Int)=>!decide (dR.snd.snd.snd.snd.snd.snd.snd.fst=2) && decide (z5 d);br (decide (op=14)) (bI z7/\(0<=b/\b < 8)/\b.toNat < 8/\∀(d:Int),rg[b.toNat]?=some d->True/\qB z3 (!decide ((iF fo ((vX z7 obj).fst,d,()).fst d).fst=0))) (br (decide (op=15)) (bI z7/\qB z3 (vY z7 obj)) (br (decide (op=18)) (br (decide (ph=1)) (mg.length<=4611686018427387904/\qB z3 (gQ mg id)) (br (decide (ph=2)) (bI z7/\qB z3 (vY z7 n)) z2)) (br (decide (op=22)) ((0<=b/\b < 8)/\b.toNat < 8/\∀(d:Int),rg[b.toNat]?=some d->th.length<=1000000/\(decide (z5 d)=true->0<=eY (z6 d) (0:Int)/\eY (z6 d) 0 < (th.length:Int))/\∀(dR:TD),(decide (z5 d)=true->th[(z4 d).toNat]?=some dR)->((z1 dR d)=true->0<=eY (z6 d) (0:Int)/\eY (z6 d) 0 < (th.length:Int))/\∀(F8:TD),((z1 dR d)=true->th[(z4 d).toNat]?=some F8)->qB z3 (decide (z5 d) && (decide (dR.snd.snd.snd.snd.snd.snd.snd.fst=2) || decide (F8.snd.snd.snd.snd.snd.snd.snd.fst=3)))) z2))):=by
 conv=>zeta
 obtain⟨⟨⟨hM,hf,hT⟩,hb,hc,hv,ho1,ho2,ho3⟩,hl⟩:EY (mv,mo,mq,mg,()) (id,fn,pc,rg,st,ch,ph,su,fa,he,()) (op,a,b,c,obj,n,fo,ord,())/\th.length<=1000000:=aF;have hb:0<=b/\b < 8:=hb;have ho1:op<=14/\op≠13->0<=obj/\obj < (mv.length:Int):=ho1;have hb8:b.toNat < 8:=by omega
 have hg:mg.length<=4611686018427387904:=by have:mg.length<=1000:=hM.2.2.2.1;omega
 refine bV.2 ⟨λe=>⟨hM,hb,hb8,λd hd=>⟨trivial,mO ?_⟩⟩,λn1=>bV.2 ⟨λe=>⟨hM,mO ?_⟩,λn2=>bV.2 ⟨λe=>bV.2 ⟨λe2=>⟨hg,mO ?_⟩,λm1=>bV.2 ⟨λe2=>⟨hM,mO ?_⟩,λm2=>mO ?_⟩⟩,λn3=>bV.2 ⟨λe=>⟨hb,hb8,λd hd=>⟨hl,λq=>?_,λd1 h1=>⟨λq=>?_,λd2 h2=>mO ?_⟩⟩⟩,λn4=>mO ?_⟩⟩⟩⟩
 .subst e;have e1:∀l m t,OL l m t (14,a,b,c,obj,n,fo,ord,())=decide ((iF fo (m.1[obj.toNat]?.getD 0) (t.2.2.2.1.getD b.toNat 0)).1≠0):=λ_ _ _=>rfl
  rw[e1,<-decide_not];show decide ((iF fo (mv[obj.toNat]?.getD 0) (rg.getD b.toNat 0)).1≠0)=_;rw[rgd hd,QO hf (ho1 (by omega))]
 .subst e;rfl
 .subst e;subst e2;rfl
 .subst e;subst e2;rfl
 .subst e;have e1:∀l m t,OL l m t (18,a,b,c,obj,n,fo,ord,())=if t.2.2.2.2.2.2.1=1 then gQ m.2.2.2.1 t.1 else if t.2.2.2.2.2.2.1=2 then vY m n else true:=λ_ _ _=>rfl
  rw[e1];show(if ph=1 then _ else _)=_
  rw[if_neg m1,if_neg m2]
 .obtain⟨k,t,q1,q2,q3,q4⟩:=qL (GI q);rw[q1];unfold eY;split<;>omega
 .rw[A8]at q;obtain⟨k,t,q1,q2,q3,q4⟩:=qL (GI q.2);rw[q1];unfold eY;split<;>omega
 .subst e;have e1:∀l m t,OL l m t (22,a,b,c,obj,n,fo,ord,())=(match En l (t.2.2.2.1.getD b.toNat 0) with
   | some u=>decide (u.2.2.2.2.2.2.2.1=2) || decide (u.2.2.2.2.2.2.2.1=3)
   | none=>false):=λ_ _ _=>rfl
  rw[e1];show(match En th (rg.getD b.toNat 0) with
   | some u=>decide (u.2.2.2.2.2.2.2.1=2) || decide (u.2.2.2.2.2.2.2.1=3)
   | none=>false)=_
  rw[rgd hd];unfold En
  by_cases q:0<=gu (λt=>decide (t.1=d)) th
  .obtain⟨k,t,q1,q2,q3,q4⟩:=qL q;have h1:=h1 (Jg q);have ek:(eY (gu (λt=>decide (t.1=d)) th) 0).toNat=k:=by rw[q1];unfold eY;split<;>omega
   rw[ek,q2]at h1;have eq1:t=d1:=LM h1;subst eq1;rw[q3,Jg q,OZ]
   by_cases s2:t.2.2.2.2.2.2.2.1=2
   .simp[s2]
   .have h2:=h2 (by rw[UJ s2,Jg q];rfl)
    rw[ek,q2]at h2;have eq2:t=d2:=LM h2;subst eq2;simp[s2]
  .rw[uz q,UJ q];rfl
 .show OL th _ _ _=_;unfold OL;rw[if_neg n1,if_neg n2,if_neg n3,if_neg n4]
theorem QV:aY aV.gd 46 QU:=
 dO (cx:=aV) (n:=97) (cl:=[(96,adL),(87,adN),(97,Qr),(52,Gv),(98,DR)]) (rc:=[]) aB ⟨QH,QI,IE,BG,yO,trivial⟩ Tryz.func46 λd hd=>by
  obtain⟨⟨th,⟨mv,mo,mq,mg,⟨⟩⟩,bf,⟨⟩⟩,⟨id,fn,pc,rg,st,ch,ph,su,fa,he,⟨⟩⟩,⟨op,a,b,c,obj,n,fo,ord,⟨⟩⟩,⟨⟩⟩:=d;exact aT (λ_=>none) (aiN th mv mo mq mg bf id fn pc rg st ch ph su fa he op a b c obj n fo ord hd) (by kernel_rfl)
def zI:ID:=(0,0,0,0,0,0,0,0,())
def jM(e:Int) (ms:List ByteArray) (fs:List FD) (l:List TD) (id:Int):TD×ID×Bool:=match En l id with
 | some t=>(t,(iU e ms fs t).1,(iU e ms fs t).2)
 | none=>(zT,zI,false)
def ZJ(e:Int) (ms:List ByteArray) (fs:List FD) (l:List TD) (m:MD) (t:TD):Bool:=(iU e ms fs t).2 && OL l m t (iU e ms fs t).1
def AP(e:Int) (ms:List ByteArray) (fs:List FD) (l:List TD) (m:MD):List TD->List Int:=λl'=>(l'.filter (ZJ e ms fs l m)).map (·.1)
def EZ(vs:List VD) (ms cs:List ByteArray) (fs:List FD) (ts:List SD) (l:List TD) (m:MD) (bf:List BD):List Int:=if vsB vs ms cs fs ts 32 l m bf=true then AP (aG vs ms cs fs ts).1 ms fs l m l else[]
theorem Lp{e:Int}{l0:List TD}{d:TD} (h:l[k]?=some d):AP e ms fs l0 m (l.take (k+1))=AP e ms fs l0 m (l.take k)++if ZJ e ms fs l0 m d=true then[d.1] else[]:=by
 unfold AP;rw[OW,h,List.filter_append,Me]
 congr 1
 by_cases q:ZJ e ms fs l0 m d=true
 .simp[q]
 .simp[q]
theorem ZK{i:ID} (h:AB i=0) (hu:use i.1 6=false):i.2.2.2.2.2.2.2.1=0:=by
 unfold AB wU at h
 repeat' split at h
 all_goals first | (simp at h;done) | skip
 rename_i h1 h2 h3 h4 h5 h6;rw[hu]at h2;simp only[Fb,A8,Jh]at h2
 by_cases q:i.2.2.2.2.2.2.2.1=0
 .exact q
 .exact absurd (.inr ⟨rfl,q⟩) h2
theorem Lr{e:Int}{t:TD} (h:(iU e ms fs t).2=true):e=0/\t.2.2.2.2.2.2.2.1=1/\xq ms fs 32 t/\sH fs t.2.1 t.2.2.1=some (iU e ms fs t).1:=by
 unfold iU at h ⊢
 split at h
 .rename_i q;rw[if_pos q];refine⟨q.1,q.2.1,q.2.2,?_⟩;unfold atR at h ⊢
  cases ha:sH fs t.2.1 t.2.2.1 with
  | none=>rw[ha]at h;cases h
  | some i=>rfl
 .cases h
theorem zV{p:PD} (h:lF p m=true):(aG p.1 p.2.1 p.2.2.1 p.2.2.2.1 p.2.2.2.2.1).1=0/\eG m=true/\m.1.length=p.1.length/\m.2.1.length=p.2.1.length/\m.2.2.1.length=p.2.2.1.length:=by
 unfold lF at h;simp only[A8,eH]at h;exact⟨h.1.1.1.1,h.1.1.1.2,h.1.1.2,h.1.2,h.2⟩
theorem IW{vs:List VD}{cs:List ByteArray}{ts:List SD}{t:TD} (hv:lF (vs,ms,cs,fs,ts,()) m=true) (hM:bI m) (hT:tB t) (h:(iU (aG vs ms cs fs ts).1 ms fs t).2=true):
 EY m t (iU (aG vs ms cs fs ts).1 ms fs t).1:=by
 obtain⟨e0,h1,h2,h3⟩:=Lr h;obtain⟨_,f,l1,l2,l3⟩:=zV hv;have l1:m.1.length=vs.length:=l1;have l3:m.2.2.1.length=cs.length:=l3;generalize (iU (aG vs ms cs fs ts).1 ms fs t).1=i at h3;obtain⟨_,_,j,hj,vj,_⟩:=D8 h2 h1;rw[h3]at hj;cases hj;have hf:=(Gp (wW h2)).1;obtain⟨k1,k2,k3,k4⟩:=rF (D5 e0 hf h3);obtain⟨r1,r2,r3,r4⟩:=lD k1;have vj:8<=i.1/\i.1<=22:=by unfold ni at vj;simpa using vj
 refine⟨⟨hM,f,hT⟩,r2,r3,vj,λq=>?_,λq=>?_,λq=>?_⟩
 .have e1:sG vs ms cs fs i.1=vs.length:=by unfold sG;rw[if_pos (by omega)]
  rw[e1]at k2;rw[l1];exact k2 (by omega)
 .have e1:sG vs ms cs fs i.1=cs.length:=by unfold sG;rw[if_neg (by omega),if_neg (by omega),if_pos (by omega)]
  rw[e1]at k2;rw[l3];exact k2 (by omega)
 .refine ZK k1 ?_;have:i.1=13\/i.1=15\/i.1=16\/i.1=17\/i.1=18\/i.1=19\/i.1=20\/i.1=21\/i.1=22:=by omega
  rcases this with e | e | e | e | e | e | e | e | e<;>rw[e]<;>rfl
abbrev QW:CT:={ ps:=[vF,Jf,.int .i64],pre:=λd=>bnd (d.1,())/\jC d.2.1.1,res:=λd=>([],.iO [.dat bQ (jM (aG d.1.1 d.1.2.1 d.1.2.2.1 d.1.2.2.2.1 d.1.2.2.2.2.1).1 d.1.2.1 d.1.2.2.2.1 d.2.1.1 d.2.2.1).1,agI ((jM (aG d.1.1 d.1.2.1 d.1.2.2.1 d.1.2.2.2.1 d.1.2.2.2.2.1).1 d.1.2.1 d.1.2.2.2.1 d.2.1.1 d.2.2.1).2.1),.c (.v (.bool ((jM (aG d.1.1 d.1.2.1 d.1.2.2.1 d.1.2.2.2.1 d.1.2.2.2.2.1).1 d.1.2.1 d.1.2.2.2.1 d.2.1.1 d.2.2.1).2.2)))]) }
theorem aiO(vs:List VD) (ms cs:List ByteArray) (fs:List FD) (ts:List SD) (th:List TD) (mv mo:List Int) (mq:List (List Int)) (mg:List Int) (bf:List BD) (id:Int) (aF:QW.pre ((vs,ms,cs,fs,ts,()),(th,(mv,mo,mq,mg,()),bf,()),id,())):
 let z9:=aG vs ms cs fs ts;let z7:=jM z9.fst ms fs th id;let z2:=[SV.dat bQ z7.fst,agI (z7.snd.fst),cB (z7.snd.snd)];let z8:=gu (λt=>decide (t.fst=id)) th;let z4:=0<=eY z8 (0:Int)/\eY z8 0 < (th.length:Int);let z6:=eY z8 (0:Int);let z3:=λ(d:TD)=>(bnd ((vs,ms,cs,fs,ts,()),()))/\List.length d.snd.snd.snd.snd.snd.snd.snd.snd.snd.fst<=1000000/\d.fst<=9223372036854775807/\List.length d.snd.snd.snd.fst=8;let z5:=λ(dR d:TD)=>[SV.dat bQ (dR),agI ((iU z9.fst ms fs d).fst),cB ((iU z9.fst ms fs d).snd)];let z1:=λ(dR d:TD)=>rT z2 (z5 dR d);th.length<=1000000/\br (!decide (0<=gu (λt=>decide (t.fst=id)) th)) (rT z2 [SV.dat bQ (((0:Int),(0:Int),(0:Int),Uy,(0:Int),(0:Int),(0:Int),(0:Int),(0:Int),[],())),agI (0,0,0,0,0,0,0,0,()),cB false]) (z4/\∀(d:TD),th[z6.toNat]?=some d->((z3 d)/\z4/\∀(dR:TD),th[z6.toNat]?=some dR->(z1 dR d)/\rT z2 (z5 dR d))/\(z3 d)/\z4/\∀(dR:TD),th[z6.toNat]?=some dR->(z1 dR d)/\rT z2 (z5 dR d)):=by
 conv=>zeta
 delta Uy;obtain⟨hb,hl,hT⟩:bnd ((vs,ms,cs,fs,ts,()),())/\jC th:=aF;refine⟨hl,ah.2 ⟨λh=>?_,λh=>?_⟩⟩
 .have q:¬0<=gu (λt=>decide (t.1=id)) th:=by simpa using h
  have e:jM (aG vs ms cs fs ts).1 ms fs th id=(zT,zI,false):=by unfold jM En;rw[uz q]
  rw[e];exact⟨rfl,rfl⟩
 .have q:0<=gu (λt=>decide (t.1=id)) th:=by simpa using h
  obtain⟨k,t,q1,q2,q3,q4⟩:=qL q;have ek:(eY (gu (λt=>decide (t.1=id)) th) 0).toNat=k:=by rw[q1];unfold eY;split<;>omega
  have hx:0<=eY (gu (λt=>decide (t.1=id)) th) 0/\eY (gu (λt=>decide (t.1=id)) th) 0 < (th.length:Int):=by rw[q1];unfold eY;split<;>omega
  have e:jM (aG vs ms cs fs ts).1 ms fs th id=(t,(iU (aG vs ms cs fs ts).1 ms fs t).1,(iU (aG vs ms cs fs ts).1 ms fs t).2):=by unfold jM En;rw[q3]
  have key:∀d d1:TD,th[(eY (gu (λt=>decide (t.1=id)) th) 0).toNat]?=some d->th[(eY (gu (λt=>decide (t.1=id)) th) 0).toNat]?=some d1->rT [SV.dat bQ (jM (aG vs ms cs fs ts).1 ms fs th id).1,agI (jM (aG vs ms cs fs ts).1 ms fs th id).2.1,cB (jM (aG vs ms cs fs ts).1 ms fs th id).2.2] [SV.dat bQ d1,agI (iU (aG vs ms cs fs ts).1 ms fs d).1,cB (iU (aG vs ms cs fs ts).1 ms fs d).2]:=by
   intro d d1 h1 h2;rw[ek,q2]at h1 h2;have e1:t=d:=LM h1;have e2:t=d1:=LM h2;subst e1;subst e2;rw[e];exact⟨rfl,rfl⟩
  exact⟨hx,λd hd=>⟨⟨⟨hb,hT d (iJ hd)⟩,hx,λd1 h1=>⟨key d d1 hd h1,key d d1 hd h1⟩⟩,⟨hb,hT d (iJ hd)⟩,hx,λd1 h1=>⟨key d d1 hd h1,key d d1 hd h1⟩⟩⟩
theorem QX:aY aV.gd 41 QW:=
 dO (cx:=aV) (n:=40) (cl:=[(52,Gv),(45,QC)]) (rc:=[.data bQ,.keep,.keep]) aB ⟨BG,QD,trivial⟩ Tryz.func41 λd hd=>by
  obtain⟨⟨vs,ms,cs,fs,ts,⟨⟩⟩,⟨th,⟨mv,mo,mq,mg,⟨⟩⟩,bf,⟨⟩⟩,id,⟨⟩⟩:=d;exact aT (λ_=>none) (aiO vs ms cs fs ts th mv mo mq mg bf id hd) (by kernel_rfl)
abbrev OM:CT:={ ps:=[vF,Jf],pre:=λd=>bnd (d.1,())/\jC d.2.1.1/\bI d.2.1.2.1,res:=λd=>([],.one (.c (.sl (.int .i64) (EZ d.1.1 d.1.2.1 d.1.2.2.1 d.1.2.2.2.1 d.1.2.2.2.2.1 d.2.1.1 d.2.1.2.1 d.2.1.2.2.1)))) }
abbrev ak5(vs:List VD) (ms cs:List ByteArray) (fs:List FD) (ts:List SD) (th:List TD) (mv mo:List Int) (mq:List (List Int)) (mg:List Int) (bf:List BD):Nat->Option (St->kD):=λk=>match k with
 | 5=>some λ_=>.inv { α:=Nat,nil:=[(5,3,.int .i64)],slots:=λk=>[(17,.c (.v (.int .i64 k))),(5,.c (.row 2))],res:=λk=>[(2,.row 3 (.int .i64) (AP (aG vs ms cs fs ts).1 ms fs th (mv,mo,mq,mg,()) (th.take k)))],inv:=λk=>k<=th.length,meas:=λk=>th.length - k }
 | _=>none
theorem aiP(vs:List VD) (ms cs:List ByteArray) (fs:List FD) (ts:List SD) (th:List TD) (mv mo:List Int) (mq:List (List Int)) (mg:List Int) (bf:List BD) (aF:OM.pre ((vs,ms,cs,fs,ts,()),(th,(mv,mo,mq,mg,()),bf,()),())):
 let z7:=bnd ((vs,ms,cs,fs,ts,()),());let z10:=(mv,mo,mq,mg,());let z4:=bF.one (SV.c (SC.sl I6 (EZ vs ms cs fs ts th z10 bf)));let z11:=bP vs ms cs fs ts;let z8:=bZ th mv mo mq mg bf;let z9:=aG vs ms cs fs ts;let z2:=λ(x:Nat)=>AP z9.fst ms fs th z10 (List.take x th);let z1:=λ(x:Nat)=>[g0 z11,g0 z8,g0 (ak.row 3 I6 (z2 x))];let z6:=λ(d:TD)=>iU z9.fst ms fs d;let z5:=λ(d:TD)=>(z6 d).fst;let z3:=λ(x x':Nat)=>cI ((x:Int)+(1:Int))=cI (x':Int)/\sm (SV.c (SC.row 2))/\True;(z7/\jC th/\bI z10)/\br (!vsB vs ms cs fs ts (32:Int) th z10 bf) (rE z4 (bF.one (SV.c (SC.sl I6 [])))) ((∃x,x<=th.length/\(cI 0=cI (x:Int)/\sm (SV.c (SC.row 2))/\True)/\[g0 z11,g0 z8,g0 (ak.row 3 I6 [])]=(z1 x))/\∀(x:Nat),x<=th.length->br (decide ((x:Int) < (th.length:Int))) ((0<=(x:Int)/\(x:Int) < (th.length:Int))/\∀(d:TD),th[(x:Int).toNat]?=some d->(z7/\List.length d.snd.snd.snd.snd.snd.snd.snd.snd.snd.fst<=1000000/\d.fst<=9223372036854775807/\List.length d.snd.snd.snd.fst=8)/\((z6 d).snd=true->EY z10 d (z5 d)/\th.length<=1000000)/\br ((z6 d).snd && OL th z10 d (z5 d)) (mY (List.length (z2 x)+List.length ([(d).fst])) 8/\iR ((x:Int)+(1:Int))/\∃x',x'<=th.length/\(z3 x x')/\[g0 z11,g0 z8,g0 (ak.row 3 I6 (AP z9.fst ms fs th z10 (List.take x th)++[(d).fst]))]=(z1 x')/\th.length - x' < th.length - x) (iR ((x:Int)+(1:Int))/\∃x',x'<=th.length/\(z3 x x')/\(z1 x)=(z1 x')/\th.length - x' < th.length - x)) (rE z4 (bF.one (SV.c (SC.sl I6 (z2 x)))))):=by
 conv=>zeta
 delta iR;obtain⟨hb,⟨hl,hT⟩,hM⟩:bnd ((vs,ms,cs,fs,ts,()),())/\jC th/\bI (mv,mo,mq,mg,()):=aF;refine⟨⟨hb,⟨hl,hT⟩,hM⟩,ah.2 ⟨λh=>?_,λh=>⟨⟨0,by omega,⟨rfl,rfl,trivial⟩,by simp[AP]⟩,λk hk=>ah.2 ⟨λg=>?_,λg=>?_⟩⟩⟩⟩
 .have h:vsB vs ms cs fs ts 32 th (mv,mo,mq,mg,()) bf=false:=by simpa using h
  exact⟨rfl,by unfold EZ;rw[h];rfl⟩
 .simp only[eH]at g;have hv:vsB vs ms cs fs ts 32 th (mv,mo,mq,mg,()) bf=true:=by simpa using h
  have hV:=lJ.1 hv;have hle:(AP (aG vs ms cs fs ts).1 ms fs th (mv,mo,mq,mg,()) (th.take k)).length<=k:=by
   unfold AP;rw[A99];exact pI (aaL _ _) (by rw[jY];omega)
  refine⟨⟨by omega,by omega⟩,λd hd=>⟨⟨hb,hT d (iJ hd)⟩,λq=>⟨IW hV.1 hM (hT d (iJ hd)) q,hl⟩,ah.2 ⟨λg2=>⟨dJ.2 (by simp only[y9,LP];omega),aC.2 (by omega),k+1,by omega,⟨rfl,rfl,trivial⟩,?_,by omega⟩,λg2=>⟨aC.2 (by omega),k+1,by omega,⟨rfl,rfl,trivial⟩,?_,by omega⟩⟩⟩⟩
  .have hd:th[k]?=some d:=hd;rw[Lp hd,if_pos (show ZJ _ _ _ _ _ _=true from g2)]
  .have hd:th[k]?=some d:=hd;have g2:ZJ (aG vs ms cs fs ts).1 ms fs th (mv,mo,mq,mg,()) d=false:=g2;rw[Lp hd,g2];simp
 .simp only[iH]at g;have hv:vsB vs ms cs fs ts 32 th (mv,mo,mq,mg,()) bf=true:=by simpa using h
  have ek:k=th.length:=by omega
  subst ek;rw[wo (oq _)];exact⟨rfl,by unfold EZ;rw[if_pos hv]⟩
theorem aef:aY aV.gd 19 OM:=
 dO (cx:=aV) (n:=41) (cl:=[(40,ZG),(45,QC),(46,QU)]) (rc:=[.data (.sl (.int .i64))]) aB ⟨IV,QD,QV,trivial⟩ Tryz.func19 λd hd=>by
  obtain⟨⟨vs,ms,cs,fs,ts,⟨⟩⟩,⟨th,⟨mv,mo,mq,mg,⟨⟩⟩,bf,⟨⟩⟩,⟨⟩⟩:=d;exact aT (ak5 vs ms cs fs ts th mv mo mq mg bf) (aiP vs ms cs fs ts th mv mo mq mg bf hd) (by kernel_rfl)
def AQ(vs:List VD) (ms cs:List ByteArray) (fs:List FD) (ts:List SD) (l:List TD) (m:MD) (bf:List BD) (id:Int):ED×Bool:=
 if vsB vs ms cs fs ts 32 l m bf=true then(if(jM (aG vs ms cs fs ts).1 ms fs l id).2.2=true then(labS m (jM (aG vs ms cs fs ts).1 ms fs l id).1 (jM (aG vs ms cs fs ts).1 ms fs l id).2.1,true) else(zE,false)) else(zE,false)
abbrev ZL:CT:={ ps:=[vF,Jf,.int .i64],pre:=λd=>bnd (d.1,())/\jC d.2.1.1/\bI d.2.1.2.1,res:=λd=>([],.iO [EX ((AQ d.1.1 d.1.2.1 d.1.2.2.1 d.1.2.2.2.1 d.1.2.2.2.2.1 d.2.1.1 d.2.1.2.1 d.2.1.2.2.1 d.2.2.1).1),.c (.v (.bool ((AQ d.1.1 d.1.2.1 d.1.2.2.1 d.1.2.2.2.1 d.1.2.2.2.2.1 d.2.1.1 d.2.1.2.1 d.2.1.2.2.1 d.2.2.1).2)))]) }
theorem aiQ(vs:List VD) (ms cs:List ByteArray) (fs:List FD) (ts:List SD) (th:List TD) (mv mo:List Int) (mq:List (List Int)) (mg:List Int) (bf:List BD) (id:Int) (aF:ZL.pre ((vs,ms,cs,fs,ts,()),(th,(mv,mo,mq,mg,()),bf,()),id,())):
 let z7:=bnd ((vs,ms,cs,fs,ts,()),());let z8:=(mv,mo,mq,mg,());let z4:=AQ vs ms cs fs ts th z8 bf id;let z2:=[EX (z4.fst),cB (z4.snd)];let z1:=rT z2 [EX (0,0,0,0,0,0,0,0,0,()),cB false];let z6:=jM (aG vs ms cs fs ts).fst ms fs th id;let z5:=z6.fst;let z3:=z6.snd.fst;(z7/\jC th/\bI z8)/\br (!vsB vs ms cs fs ts (32:Int) th z8 bf) z1 ((z7/\jC th)/\br (!z6.snd.snd) z1 (EY z8 z5 z3/\rT z2 [EX (labS z8 z5 z3),cB true])):=by
 conv=>zeta
 obtain⟨hb,hT,hM⟩:bnd ((vs,ms,cs,fs,ts,()),())/\jC th/\bI (mv,mo,mq,mg,()):=aF;refine⟨⟨hb,hT,hM⟩,ah.2 ⟨λh=>?_,λh=>⟨⟨hb,hT⟩,ah.2 ⟨λh2=>?_,λh2=>⟨?_,?_⟩⟩⟩⟩⟩
 .have h:vsB vs ms cs fs ts 32 th (mv,mo,mq,mg,()) bf=false:=by simpa using h
  have e:AQ vs ms cs fs ts th (mv,mo,mq,mg,()) bf id=(zE,false):=by unfold AQ;rw[h];rfl
  rw[e];exact⟨rfl,rfl⟩
 all_goals have hv:vsB vs ms cs fs ts 32 th (mv,mo,mq,mg,()) bf=true:=by simpa using h
 .have h2:(jM (aG vs ms cs fs ts).1 ms fs th id).2.2=false:=by simpa using h2
  have e:AQ vs ms cs fs ts th (mv,mo,mq,mg,()) bf id=(zE,false):=by unfold AQ;rw[if_pos hv,h2];rfl
  rw[e];exact⟨rfl,rfl⟩
 all_goals have h2:(jM (aG vs ms cs fs ts).1 ms fs th id).2.2=true:=by simpa using h2
 .have h3:=h2;unfold jM at h3 ⊢;cases ef:En th id with
  | none=>rw[ef]at h3;cases h3
  | some t=>
    rw[ef]at h3;exact IW (lJ.1 hv).1 hM (hT.2 t (List.mem_of_find?_eq_some ef)) h3
 .have e:AQ vs ms cs fs ts th (mv,mo,mq,mg,()) bf id=(labS (mv,mo,mq,mg,()) (jM (aG vs ms cs fs ts).1 ms fs th id).1 (jM (aG vs ms cs fs ts).1 ms fs th id).2.1,true):=by unfold AQ;rw[if_pos hv,if_pos h2]
  rw[e];exact⟨rfl,rfl⟩
theorem aeg:aY aV.gd 16 ZL:=
 dO (cx:=aV) (n:=31) (cl:=[(40,ZG),(41,QW),(42,QS)]) (rc:=[.keep,.keep]) aB ⟨IV,QX,QT,trivial⟩ Tryz.func16 λd hd=>by
  obtain⟨⟨vs,ms,cs,fs,ts,⟨⟩⟩,⟨th,⟨mv,mo,mq,mg,⟨⟩⟩,bf,⟨⟩⟩,id,⟨⟩⟩:=d;exact aT (λ_=>none) (aiQ vs ms cs fs ts th mv mo mq mg bf id hd) (by kernel_rfl)
abbrev shR:Sh:=.pair (.sl (.int .i64)) (.pair (.sl (.int .i64)) (.pair (.sl (.sl (.int .i64))) (.pair (.sl (.int .i64)) (.pair (.sl kT) .unit))))
def zR:TD:=(0,0,0,List.replicate 8 0,0,0,0,0,0,[],())
open Classical in
def jO{α:Type} (a b:α):Bool:=decide (a=b)
theorem lK{α:Type}{a b:α}:jO a b=true↔a=b:=by unfold jO;exact @UE _ (Classical.propDecidable _)
theorem jX{α:Type}{a b:α} (h:a≠b):jO a b=false:=UG.2 λq=>h (lK.1 q)
theorem gI{α:Type}{a b:α} (h:a=b):jO a b=true:=lK.2 h
theorem IX{i f t:Int} (h:bI m):bI (jv m i id f t).1:=by
 have z:bI zM:=⟨by decide,by decide,by decide,by decide,by decide,by decide⟩
 unfold jv;split
 .split
  .exact z
  .split
   .obtain⟨h1,h2,h3⟩:=h;exact⟨h1,by rw[qN];exact h2,h3⟩
   .exact z
 .exact z
theorem ak6{a b:List SV} (h:a=b):rT a b:=⟨rfl,by rw[h]⟩
def zW(l:List BD):Prop:=l.length<=1000000/\∀b∈l,b.2.2.1.length<=1000000
def zX(z:ZD):Prop:=jC z.1/\bI z.2.1/\zW z.2.2.1
abbrev ZM:CT:={ ps:=[vW,bQ,oV,shE],pre:=λd=>bI d.1/\d.2.1.1=d.2.2.2.1.1,res:=λd=>([],.iO [LZ ((kY d.1 d.2.2.2.1).1),.c (.v (.int .i64 (zU d.2.2.1 d.2.2.2.1))),.c (.v (.int .i64 ((kY d.1 d.2.2.2.1).2)))]) }
theorem aiR(mv mo:List Int) (mq:List (List Int)) (mg:List Int) (id fn pc:Int) (rg:List Int) (st ch ph su fa:Int) (he:List Int) (op a b c obj n fo ord ag ix kd eo mx en Gw rd wr:Int) (aF:ZM.pre ((mv,mo,mq,mg,()),(id,fn,pc,rg,st,ch,ph,su,fa,he,()),(op,a,b,c,obj,n,fo,ord,()),(ag,ix,kd,eo,mx,en,Gw,rd,wr,()),())):
 let z20:=(mv,mo,mq,mg,());let pJ:=(ag,ix,kd,eo,mx,en,Gw,rd,wr,());let z5:=kY z20 pJ;let z4:=[LZ (z5.fst),cI (zU (op,a,b,c,obj,n,fo,ord,()) pJ),cI (z5.snd)];let Jd:=writeM z20 eo wr;let z13:=Jd.fst;let Ef:=Jd.snd;let z2:=rT z4 [LZ z20,cI rd,cI 0];let z3:=rT z4 [LZ z20,cI 0,cI 0];let z12:=jv z20 eo id (-1:Int) id;let z7:=z12.fst;let z8:=z12.snd;let z10:=jv z20 eo id id (-1:Int);let z11:=jv z20 mx id id (-1:Int);let z9:=z11.fst;let z6:=wY z9 eo id;let Uz:=og z20 id;let z17:=uy z20 eo (1:Int);let IL:=uy z20 eo (mM mq);let z1:=br (decide (kd=11)) (br (decide (rd=0)) z3 (bI z20/\rT z4 [LZ z7,cI 1,cI z8])) (br (decide (kd=9)) (bI z20/\rT z4 [LZ z7,cI 0,cI z8]) (br (decide (kd=10)) (bI z20/\rT z4 [LZ (z10.fst),cI 0,cI (z10.snd)]) (br (decide (kd=12)) (bI z20/\br (decide (z11.snd=0)) (bI z9/\rT z4 [LZ (z6.fst),cI 0,cI (z6.snd)]) (rT z4 [LZ z9,cI 0,cI (z11.snd)])) (br (decide (kd=13)) (bI z20/\rT z4 [LZ (Uz.fst),cI 0,cI (Uz.snd)]) (br (decide (kd=14)) (bI z20/\rT z4 [LZ (z17.fst),cI 0,cI (z17.snd.snd)]) (br (decide (kd=15)) (bI z20/\rT z4 [LZ (IL.fst),cI 0,cI (IL.snd.snd)]) (br (decide (kd=16)) (rT z4 [LZ z20,cI eo,cI 0]) z3)))))));br (decide (kd=5)) (bI z20/\br (decide (op=12)) (rT z4 [LZ z13,cI 1,cI Ef]) (rT z4 [LZ z13,cI rd,cI Ef]))
 (br (decide (kd=2)) (bI z20/\rT z4 [LZ z13,cI 0,cI Ef]) (br (decide (kd=1)) (br (decide (kd=1)) z2 z1) (br (decide (kd=8)) z2 z1))):=by
 conv=>zeta
 obtain⟨hM,hid⟩:bI (mv,mo,mq,mg,())/\id=ag:=aF;subst hid;simp only[bV]
 repeat' (first | exact hM | exact IX hM | (refine ak6 ?_) | (refine And.intro ?_ ?_) | (intro _))
 all_goals first | exact hM | exact IX hM | trivial | (exfalso;omega) | (simp_all[kY,zU];done) | skip
theorem aeh:aY aV.gd 48 ZM:=
 dO (cx:=aV) (n:=132) (cl:=[(100,aiq),(101,Zm),(102,Zo),(103,Zt),(104,Zx),(105,Zv),(106,ZC)]) (rc:=[.data vW,.keep,.keep]) aB ⟨Zl,Zn,Zp,Zu,Zy,Zw,ZE,trivial⟩ Tryz.func48 λd hd=>by
  obtain⟨⟨mv,mo,mq,mg,⟨⟩⟩,⟨id,fn,pc,rg,st,ch,ph,su,fa,he,⟨⟩⟩,⟨op,a,b,c,obj,n,fo,ord,⟨⟩⟩,⟨ag,ix,kd,eo,mx,en,Gw,rd,wr,⟨⟩⟩,⟨⟩⟩:=d;exact aT (λ_=>none) (aiR mv mo mq mg id fn pc rg st ch ph su fa he op a b c obj n fo ord ag ix kd eo mx en Gw rd wr hd) (by kernel_rfl)
abbrev QY:CT:={ ps:=[.sl zS],pre:=λd=>d.1.length<=1000000,res:=λd=>([.row 67 zS d.1],.one (.c (.row 0))) }
theorem aiS(l:List (Int×Int×Unit)) (aF:QY.pre (l,())):
 ∀(b:Bool),(b=true->l=[])->br b ([ak.row 67 ji l]=[ak.row 67 ji []]/\bF.one (SV.c (SC.row 0))=bF.one (SV.c (SC.row 0))) (mY (0+List.length (l)) 16/\[ak.row 67 ji l]=[ak.row 67 ji ([]++l)]/\bF.one (SV.c (SC.row 0))=bF.one (SV.c (SC.row 0))):=by
 have hp:l.length<=1000000:=aF;intro b hb;refine ah.2 ⟨λh=>by rw[hb h];exact⟨rfl,rfl⟩,λh=>⟨?_,by simp,rfl⟩⟩
 rw[dJ];omega
theorem QZ:aY aV.gd 59 QY:=
 NZ (il:=Yh) (rc:=[.row 67 zS]) (cx:=aV) (n:=8) (cl:=[]) (by kernel_rfl) aB trivial trivial Tryz.func59 (by kernel_rfl) (by kernel_rfl) rfl (by kernel_rfl) (by kernel_rfl) λd hd=>by
  obtain⟨l,⟨⟩⟩:=d;exact aT (λ_=>none) (aiS l hd) (by kernel_rfl)
abbrev Gx:CT:={ ps:=[Jf],pre:=λd=>zX d.1,res:=λd=>([.row 56 bQ d.1.1],.one (.agg [.row 0,.sl (.int .i64) d.1.2.1.1,.sl (.int .i64) d.1.2.1.2.1,.sl (.sl (.int .i64)) d.1.2.1.2.2.1,.sl (.int .i64) d.1.2.1.2.2.2.1,.sl kT d.1.2.2.1])) }
abbrev ak7(th:List TD) (mv mo:List Int) (mq:List (List Int)) (mg:List Int) (bf:List BD):Nat->Option (St->kD):=λk=>match k with
 | 5=>some λ_=>.inv { α:=Nat,slots:=λk=>[(23,.c (.v (.int .i64 k)))],res:=λk=>[(7,.row 56 bQ th)],inv:=λk=>k<=th.length,meas:=λk=>th.length - k }
 | 12=>some λ_=>.inv { α:=Nat,slots:=λk=>[(52,.c (.v (.int .i64 k)))],res:=λk=>[(8,.row 65 kT bf)],inv:=λk=>k<=bf.length,meas:=λk=>bf.length - k }
 | _=>none
abbrev lG:=[iN,iN,iN,iN,iN,iN]
abbrev UC:=[SC.row (Nat.succ 0).succ.succ.succ.succ.succ.succ,SC.row 2,SC.row 3,SC.row 4,SC.row 5,iN]
abbrev UD:=[SC.row (Nat.succ 0).succ.succ.succ.succ.succ.succ,SC.row 2,SC.row 3,SC.row 4,SC.row 5,SC.row (Nat.succ 0).succ.succ.succ.succ.succ.succ.succ]
theorem aiT(th:List TD) (mv mo:List Int) (mq:List (List Int)) (mg:List Int) (bf:List BD) (aF:Gx.pre ((th,(mv,mo,mq,mg,()),bf,()),())):
 let z11:=bZ th mv mo mq mg bf;let z9:=List.replicate (th.length:Int).toNat (zR:TD);let z4:=List.take (List.length z9) (th)++List.drop (List.length (th)) z9;let z3:=[g0 z11,g0 (ak.blk 37 lG),g0 (ak.row 3 I6 mv),g0 (ak.row 3 I6 mo),g0 (ak.row 31 I6.sl mq),g0 (ak.row 3 I6 mg),g0 (ak.blk 37 UC),g0 (ak.row 56 bQ th)];let z7:=λ(x:Nat)=>0<=(x:Int)/\(x:Int) < (th.length:Int);let z10:=λ(x:Nat)=>(x:Int)+(1:Int);let z6:=List.replicate (bf.length:Int).toNat (((0:Int),(0:Int),[],()):BD);let z1:=List.take (List.length z6) (bf)++List.drop (List.length (bf)) z6;let z2:=[g0 z11,g0 (ak.blk 37 lG),g0 (ak.row 3 I6 mv),g0 (ak.row 3 I6 mo),g0 (ak.row 31 I6.sl mq),g0 (ak.row 3 I6 mg),g0 (ak.blk 37 UD),g0 (ak.row 56 bQ th),g0 (ak.row 65 kT bf)];let z8:=λ(x:Nat)=>0<=(x:Int)/\(x:Int) < (bf.length:Int);let z5:=[SC.row 0,SC.sl I6 mv,SC.sl I6 mo,SC.sl I6.sl mq,SC.sl I6 mg,SC.sl kT bf];bI (mv,mo,mq,mg,())/\(0<=(th.length:Int)/\(th.length:Int)<=(th.length:Int)/\mY (th.length:Int).toNat 152)/\(∃x,x<=th.length/\(cI 0=cI (x:Int)/\True)/\[g0 z11,g0 (ak.blk 37 lG),g0 (ak.row 3 I6 mv),g0 (ak.row 3 I6 mo),g0 (ak.row 31 I6.sl mq),g0 (ak.row 3 I6 mg),g0 (ak.blk 37 UC),g0 (ak.row 56 bQ z4)]=z3)/\∀(x:Nat),x<=th.length->br (decide ((x:Int) < (z4.length:Int))) ((z7 x)/\∀(d:TD),th[(x:Int).toNat]?=some d->List.length d.snd.snd.snd.snd.snd.snd.snd.snd.snd.fst<=1000000/\(z7 x)/\(x:Int).toNat < th.length/\∀(e:TD),th[(x:Int).toNat]?=some e->iR (z10 x)/\∃x',x'<=th.length/\(cI (z10 x)=cI (x':Int)/\True)/\[g0 z11,g0 (ak.blk 37 lG),g0 (ak.row 3 I6 mv),g0 (ak.row 3 I6 mo),g0 (ak.row 31 I6.sl mq),g0 (ak.row 3 I6 mg),g0 (ak.blk 37 UC),g0 (ak.row 56 bQ (th.set (x:Int).toNat (e.fst,e.2.fst,e.2.2.fst,e.2.2.2.fst,e.2.2.2.2.fst,e.2.2.2.2.2.fst,e.2.2.2.2.2.2.fst,e.2.2.2.2.2.2.2.fst,e.2.2.2.2.2.2.2.2.fst,d.snd.snd.snd.snd.snd.snd.snd.snd.snd.fst,e.2.2.2.2.2.2.2.2.2.snd)))]=z3/\th.length - x' < th.length - x) ((0<=(bf.length:Int)/\(bf.length:Int)<=(bf.length:Int)/\mY (bf.length:Int).toNat 40)/\(∃x,x<=bf.length/\(cI 0=cI (x:Int)/\True)/\[g0 z11,g0 (ak.blk 37 lG),g0 (ak.row 3 I6 mv),g0 (ak.row 3 I6 mo),g0 (ak.row 31 I6.sl mq),g0 (ak.row 3 I6 mg),g0 (ak.blk 37 UD),g0 (ak.row 56 bQ th),g0 (ak.row 65 kT z1)]=z2)/\∀(x:Nat),x<=bf.length->br (decide ((x:Int) < (z1.length:Int))) ((z8 x)/\∀(d:BD),bf[(x:Int).toNat]?=some d->List.length d.snd.snd.fst<=1000000/\(z8 x)/\(x:Int).toNat < bf.length/\∀(e:BD),bf[(x:Int).toNat]?=some e->iR (z10 x)/\∃x',x'<=bf.length/\(cI (z10 x)=cI (x':Int)/\True)/\[g0 z11,g0 (ak.blk 37 lG),g0 (ak.row 3 I6 mv),g0 (ak.row 3 I6 mo),g0 (ak.row 31 I6.sl mq),g0 (ak.row 3 I6 mg),g0 (ak.blk 37 UD),g0 (ak.row 56 bQ th),g0 (ak.row 65 kT (bf.set (x:Int).toNat (e.fst,e.2.fst,d.snd.snd.fst,e.2.2.snd)))]=z2/\bf.length - x' < bf.length - x) ([ak.row 56 bQ th]=[ak.row 56 bQ th]/\bF.one (SV.agg z5)=bF.one (SV.agg z5))):=by
 conv=>zeta
 delta lG UC UD iR iN;obtain⟨⟨hl,hT⟩,hM,hB,hb⟩:jC th/\bI (mv,mo,mq,mg,())/\zW bf:=aF;have tk:∀{α:Type} (l:List α) (z:α),List.take (List.length (List.replicate (l.length:Int).toNat z)) l++List.drop (List.length l) (List.replicate (l.length:Int).toNat z)=l:=by
  intro α l z;rw[Fa,A81,wo (oq _),Rn (by rw[Fa];omega),Mc]
 have st:∀{α:Type}{l:List α}{k:Nat}{d:α},l[k]?=some d->l.set k d=l:=λh=>fZ h
 rw[tk th,tk bf];refine⟨hM,⟨by omega,by omega,dJ.2 (by omega)⟩,⟨0,by omega,⟨rfl,trivial⟩,rfl⟩,λk hk=>ah.2 ⟨λg=>?_,λg=>⟨⟨by omega,by omega,dJ.2 (by omega)⟩,⟨0,by omega,⟨rfl,trivial⟩,rfl⟩,λk hk=>ah.2 ⟨λg=>?_,λg=>?_⟩⟩⟩⟩
 .simp only[eH]at g;refine⟨⟨by omega,by omega⟩,λd hd=>⟨(hT d (iJ hd)).1,⟨by omega,by omega⟩,by omega,λe he=>⟨aC.2 (by omega),k+1,by omega,⟨rfl,trivial⟩,?_,by omega⟩⟩⟩
  have hd:th[(k:Int).toNat]?=some d:=hd;rw[hd]at he;have e1:d=e:=LM he;subst e1;have:th.set (k:Int).toNat d=th:=st hd;exact oh (λz=>[_,_,_,_,_,_,_,g0 (ak.row 56 bQ z)]) this
 .simp only[eH]at g;refine⟨⟨by omega,by omega⟩,λd hd=>⟨hb d (iJ hd),⟨by omega,by omega⟩,by omega,λe he=>⟨aC.2 (by omega),k+1,by omega,⟨rfl,trivial⟩,?_,by omega⟩⟩⟩
  have hd:bf[(k:Int).toNat]?=some d:=hd;rw[hd]at he;have e1:d=e:=LM he;subst e1;have:bf.set (k:Int).toNat d=bf:=st hd;exact oh (λz=>[_,_,_,_,_,_,_,_,g0 (ak.row 65 kT z)]) this
 .exact⟨rfl,rfl⟩
theorem aei:aY aV.gd 23 Gx:=
 dO (cx:=aV) (n:=69) (cl:=[(49,uw),(58,rC),(59,QY)]) (rc:=[.hd 56 bQ shR]) aB ⟨qJ,yN,QZ,trivial⟩ Tryz.func23 λd hd=>by
  obtain⟨⟨th,⟨mv,mo,mq,mg,⟨⟩⟩,bf,⟨⟩⟩,⟨⟩⟩:=d;exact aT (ak7 th mv mo mq mg bf) (aiT th mv mo mq mg bf hd) (by kernel_rfl)
abbrev ZN:CT:={ ps:=[bQ,bQ],pre:=λd=>d.1.2.2.2.2.2.2.2.2.2.1.length<=1000000,res:=λd=>([],vB (jO d.1 d.2.1)) }
theorem aiU(id fn pc:Int) (rg:List Int) (st ch ph su fa:Int) (he:List Int) (id2 LX pc2:Int) (LY:List Int) (st2 Je IQ IU fa2:Int) (he2:List Int) (aF:ZN.pre ((id,fn,pc,rg,st,ch,ph,su,fa,he,()),(id2,LX,pc2,LY,st2,Je,IQ,IU,fa2,he2,()),())):
 let z1:=jO (id,fn,pc,rg,st,ch,ph,su,fa,he,()) (id2,LX,pc2,LY,st2,Je,IQ,IU,fa2,he2,());br (!decide (id=id2) || !decide (fn=LX) || !decide (pc=pc2) || !decide (rg=LY) || !decide (st=st2) || !decide (ch=Je)) (qB z1 false) (((decide (ph=IQ) && decide (su=IU) && decide (fa=fa2))=true->he.length<=1000000)/\qB z1 (decide (ph=IQ) && decide (su=IU) && decide (fa=fa2) && decide (he=he2))):=by
 conv=>zeta
 have hp:he.length<=1000000:=aF;refine ah.2 ⟨λh=>⟨rfl,?_⟩,λh=>⟨λ_=>hp,mO ?_⟩⟩
 .rw[jX];intro q;simp only[Uw]at q;simp[q]at h
 .rw[OX,lK];simp only[rM,BJ,eH]at h;simp only[Uw,A8,eH,h,true_and];constructor
  .rintro⟨h1,h2,h3,h4,_⟩;exact⟨⟨⟨h1,h2⟩,h3⟩,h4⟩
  .rintro⟨⟨⟨h1,h2⟩,h3⟩,h4⟩;exact⟨h1,h2,h3,h4,trivial⟩
theorem aej:aY aV.gd 62 ZN:=
 dO (cx:=aV) (n:=71) (cl:=[(127,nY)]) (rc:=[]) aB ⟨Em,trivial⟩ Tryz.func62 λd hd=>by
  obtain⟨⟨id,fn,pc,rg,st,ch,ph,su,fa,he,⟨⟩⟩,⟨id2,LX,pc2,LY,st2,Je,IQ,IU,fa2,he2,⟨⟩⟩,⟨⟩⟩:=d;exact aT (λ_=>none) (aiU id fn pc rg st ch ph su fa he id2 LX pc2 LY st2 Je IQ IU fa2 he2 hd) (by kernel_rfl)
abbrev ZO:CT:={ ps:=[.sl bQ,.sl bQ],pre:=λd=>d.1.length<=1000000/\∀q∈d.1,q.2.2.2.2.2.2.2.2.2.1.length<=1000000,res:=λd=>([],vB (jO d.1 d.2.1)) }
abbrev ak8(l m:List TD):Nat->Option (St->kD):=λk=>match k with
 | 4=>some λ_=>.inv { α:=Nat,slots:=λk=>[(17,.c (.v (.int .i64 k)))],res:=λk=>[],inv:=λk=>k<=(l).length/\∀j < k,l[j]?=m[j]?,meas:=λk=>(l).length - k }
 | _=>none
theorem aiV(l m:List TD) (aF:ZO.pre (l,m,())):
 let z1:=λ(x:Nat)=>(x<=l.length/\∀(j:Nat),j < x->l[j]?=m[j]?);br (!decide ((l.length:Int)=(m.length:Int))) (qB (jO l m) false) ((∃x,(z1 x)/\(cI 0=cI (x:Int)/\True)/\([]:List fV)=[])/\∀(x:Nat),(z1 x)->br (decide ((x:Int) < (l.length:Int))) ((0<=(x:Int)/\(x:Int) < (l.length:Int))/\∀(d:TD),l[(x:Int).toNat]?=some d->(0<=(x:Int)/\(x:Int) < (m.length:Int))/\∀(dR:TD),m[(x:Int).toNat]?=some dR->List.length d.snd.snd.snd.snd.snd.snd.snd.snd.snd.fst<=1000000/\br (!jO d dR) (qB (jO l m) false) (iR ((x:Int)+(1:Int))/\∃x',(z1 x')/\(cI ((x:Int)+(1:Int))=cI (x':Int)/\True)/\([]:List fV)=[]/\l.length - x' < l.length - x)) (qB (jO l m) true)):=by
 conv=>zeta
 delta fV iR;obtain⟨hp,h6⟩:l.length<=1000000/\∀q∈l,q.2.2.2.2.2.2.2.2.2.1.length<=1000000:=aF;have fF:l≠m->qB (jO l m) false:=λq=>⟨rfl,by rw[jX q]⟩
 refine ah.2 ⟨λh=>fF λq=>?_,λh=>?_⟩
 .subst q;simp at h
 simp only[BJ,eH]at h;refine⟨⟨0,⟨by omega,λj hj=>by omega⟩,⟨rfl,trivial⟩,rfl⟩,λk hk=>ah.2 ⟨λg=>?_,λg=>?_⟩⟩
 .simp only[eH]at g;refine⟨⟨by omega,by omega⟩,λd hd=>⟨⟨by omega,by omega⟩,λd1 hd1=>⟨h6 d (iJ hd),ah.2 ⟨λg2=>fF λq=>?_,λg2=>⟨aC.2 (by omega),k+1,⟨by omega,λj hj=>?_⟩,⟨rfl,trivial⟩,rfl,by omega⟩⟩⟩⟩⟩
  .subst q;rw[hd]at hd1;cases hd1;rw[gI rfl]at g2;cases g2
  .by_cases jh:j=k
   .subst jh;have hd:l[j]?=some d:=hd;have hd1:m[j]?=some d1:=hd1;have g2:=lK.1 (show jO d d1=true by simpa using g2)
    rw[hd,hd1,g2]
   .exact hk.2 j (by omega)
 simp only[iH]at g;have e:l=m:=by
  apply Ar;intro j
  by_cases hj:j < k
  .exact hk.2 j hj
  .rw[uG (by omega),uG (by omega)]
 exact⟨rfl,by rw[gI e]⟩
theorem ZP:Ik Tryz.prog aV.gd 61 [.func (.func 62) #[] #[]] ZO:=
 (ng (cx:=aV) (n:=32) (cl:=[(62,ZN)]) (il:=Yh) (hl:=hlN) (ml:=mlN) (rc:=[]) (lits:=[]) (suf:=[.func (.func 62) #[] #[]]) (by kernel_rfl) aB ⟨aej,trivial⟩ trivial trivial trivial Tryz.func61 (by kernel_rfl) (by kernel_rfl) rfl (by kernel_rfl) (by kernel_rfl) (by simp) λd hd=>by
  obtain⟨l,m,⟨⟩⟩:=d;exact aT (ak8 l m) (aiV l m hd) (by kernel_rfl))
abbrev ZQ:CT:={ ps:=[.sl zS,.sl zS],pre:=λd=>d.1.length<=1000000,res:=λd=>([],vB (jO d.1 d.2.1)) }
abbrev aiW(l m:List (Int×Int×Unit)):Nat->Option (St->kD):=λk=>match k with
 | 4=>some λ_=>.inv { α:=Nat,slots:=λk=>[(13,.c (.v (.int .i64 k)))],res:=λk=>[],inv:=λk=>k<=(l).length/\∀j < k,l[j]?=m[j]?,meas:=λk=>(l).length - k }
 | _=>none
theorem aek(l m:List (Int×Int×Unit)) (aF:ZQ.pre (l,m,())):
 let z1:=λ(x:Nat)=>(x<=l.length/\∀(j:Nat),j < x->l[j]?=m[j]?);br (!decide ((l.length:Int)=(m.length:Int))) (qB (jO l m) false) ((∃x,(z1 x)/\(cI 0=cI (x:Int)/\True)/\([]:List fV)=[])/\∀(x:Nat),(z1 x)->br (decide ((x:Int) < (l.length:Int))) ((0<=(x:Int)/\(x:Int) < (l.length:Int))/\∀(d:Int×(I6.pair Sh.unit).den),l[(x:Int).toNat]?=some d->(0<=(x:Int)/\(x:Int) < (m.length:Int))/\∀(dR:Int×(I6.pair Sh.unit).den),m[(x:Int).toNat]?=some dR->br (!(true && d.fst == dR.fst && d.snd.fst == dR.snd.fst)) (qB (jO l m) false) (iR ((x:Int)+(1:Int))/\∃x',(z1 x')/\(cI ((x:Int)+(1:Int))=cI (x':Int)/\True)/\([]:List fV)=[]/\l.length - x' < l.length - x)) (qB (jO l m) true)):=by
 conv=>zeta
 delta fV iR;have hp:l.length<=1000000:=aF;have fF:l≠m->qB (jO l m) false:=λq=>⟨rfl,by rw[jX q]⟩
 refine ah.2 ⟨λh=>fF λq=>?_,λh=>?_⟩
 .subst q;simp at h
 simp only[BJ,eH]at h;refine⟨⟨0,⟨by omega,λj hj=>by omega⟩,⟨rfl,trivial⟩,rfl⟩,λk hk=>ah.2 ⟨λg=>?_,λg=>?_⟩⟩
 .simp only[eH]at g;refine⟨⟨by omega,by omega⟩,λd hd=>⟨⟨by omega,by omega⟩,λd1 hd1=>ah.2 ⟨λg2=>fF λq=>?_,λg2=>⟨aC.2 (by omega),k+1,⟨by omega,λj hj=>?_⟩,⟨rfl,trivial⟩,rfl,by omega⟩⟩⟩⟩
  .subst q;rw[hd]at hd1;cases hd1;simp at g2
  .by_cases jh:j=k
   .subst jh;have hd:l[j]?=some d:=hd;have hd1:m[j]?=some d1:=hd1;have g2:d=d1:=by
     obtain⟨x,y,⟨⟩⟩:=d;obtain⟨x1,y1,⟨⟩⟩:=d1;simpa using g2
    rw[hd,hd1,g2]
   .exact hk.2 j (by omega)
 simp only[iH]at g;have e:l=m:=by
  apply Ar;intro j
  by_cases hj:j < k
  .exact hk.2 j hj
  .rw[uG (by omega),uG (by omega)]
 exact⟨rfl,by rw[gI e]⟩
theorem ZR:aY aV.gd 130 ZQ:=
 dO (cx:=aV) (n:=26) (cl:=[]) (rc:=[]) aB trivial Tryz.func130 λd hd=>by
  obtain⟨l,m,⟨⟩⟩:=d;exact aT (aiW l m) (aek l m hd) (by kernel_rfl)
abbrev Gy:CT:={ ps:=[kT,kT],pre:=λd=>d.1.2.2.1.length<=1000000,res:=λd=>([],vB (jO d.1 d.2.1)) }
theorem aiX(b1 b2:Int) (bl:List (Int×Int×Unit)) (c1 c2:Int) (cl:List (Int×Int×Unit)) (aF:Gy.pre ((b1,b2,bl,()),(c1,c2,cl,()),())):
 ((decide (b1=c1) && decide (b2=c2))=true->bl.length<=1000000)/\qB (jO (b1,b2,bl,()) (c1,c2,cl,())) (decide (b1=c1) && decide (b2=c2) && jO bl cl):=by
 have hp:bl.length<=1000000:=aF;refine⟨λ_=>hp,mO ?_⟩
 rw[OX,lK];simp only[Uw,A8,eH,lK];constructor
 .rintro⟨h1,h2,h3,_⟩;exact⟨⟨h1,h2⟩,h3⟩
 .rintro⟨⟨h1,h2⟩,h3⟩;exact⟨h1,h2,h3,trivial⟩
theorem ael:aY aV.gd 64 Gy:=
 dO (cx:=aV) (n:=24) (cl:=[(130,ZQ)]) (rc:=[]) aB ⟨ZR,trivial⟩ Tryz.func64 λd hd=>by
  obtain⟨⟨b1,b2,bl,⟨⟩⟩,⟨c1,c2,cl,⟨⟩⟩,⟨⟩⟩:=d;exact aT (λ_=>none) (aiX b1 b2 bl c1 c2 cl hd) (by kernel_rfl)
abbrev ZT:CT:={ ps:=[.sl kT,.sl kT],pre:=λd=>zW d.1,res:=λd=>([],vB (jO d.1 d.2.1)) }
abbrev ak9(l m:List BD):Nat->Option (St->kD):=λk=>match k with
 | 4=>some λ_=>.inv { α:=Nat,slots:=λk=>[(17,.c (.v (.int .i64 k)))],res:=λk=>[],inv:=λk=>k<=(l).length/\∀j < k,l[j]?=m[j]?,meas:=λk=>(l).length - k }
 | _=>none
theorem aiY(l m:List BD) (aF:ZT.pre (l,m,())):
 let z1:=λ(x:Nat)=>(x<=l.length/\∀(j:Nat),j < x->l[j]?=m[j]?);br (!decide ((l.length:Int)=(m.length:Int))) (qB (jO l m) false) ((∃x,(z1 x)/\(cI 0=cI (x:Int)/\True)/\([]:List fV)=[])/\∀(x:Nat),(z1 x)->br (decide ((x:Int) < (l.length:Int))) ((0<=(x:Int)/\(x:Int) < (l.length:Int))/\∀(d:BD),l[(x:Int).toNat]?=some d->(0<=(x:Int)/\(x:Int) < (m.length:Int))/\∀(dR:BD),m[(x:Int).toNat]?=some dR->List.length d.snd.snd.fst<=1000000/\br (!jO d dR) (qB (jO l m) false) (iR ((x:Int)+(1:Int))/\∃x',(z1 x')/\(cI ((x:Int)+(1:Int))=cI (x':Int)/\True)/\([]:List fV)=[]/\l.length - x' < l.length - x)) (qB (jO l m) true)):=by
 conv=>zeta
 delta fV iR;obtain⟨hp,h6⟩:l.length<=1000000/\∀q∈l,q.2.2.1.length<=1000000:=aF;have fF:l≠m->qB (jO l m) false:=λq=>⟨rfl,by rw[jX q]⟩
 refine ah.2 ⟨λh=>fF λq=>?_,λh=>?_⟩
 .subst q;simp at h
 simp only[BJ,eH]at h;refine⟨⟨0,⟨by omega,λj hj=>by omega⟩,⟨rfl,trivial⟩,rfl⟩,λk hk=>ah.2 ⟨λg=>?_,λg=>?_⟩⟩
 .simp only[eH]at g;refine⟨⟨by omega,by omega⟩,λd hd=>⟨⟨by omega,by omega⟩,λd1 hd1=>⟨h6 d (iJ hd),ah.2 ⟨λg2=>fF λq=>?_,λg2=>⟨aC.2 (by omega),k+1,⟨by omega,λj hj=>?_⟩,⟨rfl,trivial⟩,rfl,by omega⟩⟩⟩⟩⟩
  .subst q;rw[hd]at hd1;cases hd1;rw[gI rfl]at g2;cases g2
  .by_cases jh:j=k
   .subst jh;have hd:l[j]?=some d:=hd;have hd1:m[j]?=some d1:=hd1;have g2:=lK.1 (show jO d d1=true by simpa using g2)
    rw[hd,hd1,g2]
   .exact hk.2 j (by omega)
 simp only[iH]at g;have e:l=m:=by
  apply Ar;intro j
  by_cases hj:j < k
  .exact hk.2 j hj
  .rw[uG (by omega),uG (by omega)]
 exact⟨rfl,by rw[gI e]⟩
theorem ZU:Ik Tryz.prog aV.gd 63 [.func (.func 64) #[] #[]] ZT:=
 (ng (cx:=aV) (n:=32) (cl:=[(64,Gy)]) (il:=Yh) (hl:=hlN) (ml:=mlN) (rc:=[]) (lits:=[]) (suf:=[.func (.func 64) #[] #[]]) (by kernel_rfl) aB ⟨ael,trivial⟩ trivial trivial trivial Tryz.func63 (by kernel_rfl) (by kernel_rfl) rfl (by kernel_rfl) (by kernel_rfl) (by simp) λd hd=>by
  obtain⟨l,m,⟨⟩⟩:=d;exact aT (ak9 l m) (aiY l m hd) (by kernel_rfl))
abbrev Eo:CT:={ ps:=[Jf,Jf],pre:=λd=>zX d.1,res:=λd=>([],vB (jO d.1 d.2.1)) }
abbrev amJ:List (Nat×Nat×CT):=[(61,62,ZO),(63,64,ZT)]
theorem aiZ(th:List TD) (mv mo:List Int) (mq:List (List Int)) (mg:List Int) (bf:List BD) (vk:List TD) (mv2 AU:List Int) (AV:List (List Int)) (AX:List Int) (vZ:List BD) (aF:Eo.pre ((th,(mv,mo,mq,mg,()),bf,()),(vk,(mv2,AU,AV,AX,()),vZ,()),())):
 let z2:=(mv,mo,mq,mg,());let z1:=z2=(mv2,AU,AV,AX,());bI z2/\(decide z1=true->th.length<=1000000/\∀(q:TD),q∈th->List.length q.snd.snd.snd.snd.snd.snd.snd.snd.snd.fst<=1000000)/\((decide z1 && jO th vk)=true->zW bf)/\qB (jO (th,z2,bf,()) (vk,(mv2,AU,AV,AX,()),vZ,())) (decide z1 && jO th vk && jO bf vZ):=by
 conv=>zeta
 obtain⟨⟨hl,hT⟩,hM,hB⟩:jC th/\bI (mv,mo,mq,mg,())/\zW bf:=aF;refine⟨hM,λ_=>⟨hl,λq hq=>(hT q hq).1⟩,λ_=>hB,mO ?_⟩
 rw[OX,lK];simp only[A8,eH,lK];constructor
 .intro h;have h:=Prod.mk.inj h;have h2:=Prod.mk.inj h.2;have h3:=Prod.mk.inj h2.2;exact⟨⟨h2.1,h.1⟩,h3.1⟩
 .rintro⟨⟨h1,h2⟩,h3⟩;rw[h1,h2,h3]
theorem Q5:aY aV.gd 24 Eo:=
 (ng (cx:=aV) (n:=24) (cl:=[(60,zO)]) (il:=Yh) (hl:=amJ) (ml:=mlN) (rc:=[]) (lits:=[]) (suf:=[]) (by kernel_rfl) aB ⟨ad4,trivial⟩ trivial ⟨ZP,ZU,trivial⟩ trivial Tryz.func24 (by kernel_rfl) (by kernel_rfl) rfl (by kernel_rfl) (by kernel_rfl) (by simp) λd hd=>by
  obtain⟨⟨th,⟨mv,mo,mq,mg,⟨⟩⟩,bf,⟨⟩⟩,⟨vk,⟨mv2,AU,AV,AX,⟨⟩⟩,vZ,⟨⟩⟩,⟨⟩⟩:=d;exact aT (λ_=>none) (aiZ th mv mo mq mg bf vk mv2 AU AV AX vZ hd) (by kernel_rfl)).met
def uD(m:MD):Bool:=decide (m.1.length<=20) && decide (m.2.1.length<=20) && decide (m.2.2.1.length<=20) && decide (m.2.2.2.1.length<=60) && m.2.2.1.all (λq=>decide (q.length<=60))
theorem vw(h:uD m=true):bI m:=by
 obtain⟨vs,os,qs,sg,⟨⟩⟩:=m;unfold uD at h;simp only[A8,UH,eH]at h;obtain⟨⟨⟨⟨h1,h2⟩,h3⟩,h4⟩,h5⟩:=h;refine⟨by show vs.length<=1000;omega,by show os.length<=1000;omega,by show qs.length<=1000;omega,by show sg.length<=1000;omega,λq hq=>by have:=h5 q hq;omega,?_⟩
 have key:∀l:List (List Int),(∀q∈l,q.length<=60)->l.flatten.length<=60 * l.length:=by
  intro l
  induction l with
  | nil=>intro _;simp
  | cons a l ih=>
    intro hl;have:=ih λq hq=>hl q (by simp[hq])
    have:=hl a (by simp)
    simp only[Md,jR,y9];omega
 have:=key qs h5;show qs.flatten.length<=100000;omega
theorem Ls:∀(qs:List (List Int)) (k:Nat) (d:List Int) (x:Int),qs[k]?=some d->((qs.set k (d++[x])).flatten).Perm (x :: qs.flatten)
 | [],k,d,x,h=>by simp at h
 | q :: qs,0,d,x,h=>by
   simp only[A96,A97]at h;subst h;simp only[UO,Md,zY,afx];exact List.perm_middle
 | q :: qs,k+1,d,x,h=>by
   rw[aaH]at h;have ih:=Ls qs k d x h;simp only[afB,Md];exact(ih.append_left q).trans List.perm_middle
theorem Gz:nZ m id=true↔id∈m.2.2.2.1++m.2.2.1.flatten:=by
 unfold nZ;rw[Fb,List.any_eq_true,ug,Et,List.mem_flatten];constructor
 .rintro(⟨q,h1,h2⟩ | h)
  .exact .inr ⟨q,h1,ug.1 h2⟩
  .exact .inl h
 .rintro(h | ⟨q,h1,h2⟩)
  .exact .inr h
  .exact .inl ⟨q,h1,ug.2 h2⟩
theorem ZV(hB:eG (vs,os,qs,sg,())=true){d:List Int} (hk:qs[k]?=some d) (h0:0<=id):
 eG (vs,os,qs.set k (d++[id]),sg,()) = !nZ (vs,os,qs,sg,()) id:=by
 obtain⟨q1,q2,q3,q4,q5,q6,q7,q8⟩:vs.length<=8/\os.length<=4/\qs.length<=4/\SS sg/\(∀v∈vs,dK v=true)/\(∀o∈os,-1<=o)/\(∀x∈sg++qs.flatten,0<=x)/\(sg++qs.flatten).Nodup:=fD.1 hB;have hp:(sg++(qs.set k (d++[id])).flatten).Perm (id :: (sg++qs.flatten)):=((Ls qs k d id hk).append_left sg).trans List.perm_middle;rw[OX,fD,UF,UG];constructor
 .intro h w;obtain⟨_,_,_,_,_,_,_,p8⟩:vs.length<=8/\os.length<=4/\(qs.set k (d++[id])).length<=4/\SS sg/\(∀v∈vs,dK v=true)/\(∀o∈os,-1<=o)/\(∀x∈sg++(qs.set k (d++[id])).flatten,0<=x)/\(sg++(qs.set k (d++[id])).flatten).Nodup:=h;exact(UQ.1 (hp.nodup_iff.1 p8)).1 (Gz.1 w)
 .intro w;refine(⟨q1,q2,by rw[qN];exact q3,q4,q5,q6,λx hx=>?_,hp.nodup_iff.2 (UQ.2 ⟨λhm=>w (Gz.2 hm),q8⟩)⟩:Ld (vs,os,qs.set k (d++[id]),sg,()))
  rcases mF.1 (hp.mem_iff.1 hx) with rfl | hx
  .exact h0
  .exact q7 x hx
theorem uF(h:uD (vs,os,qs,sg,())=true):vs.length<=20/\os.length<=20/\qs.length<=20/\sg.length<=60/\∀q∈qs,q.length<=60:=by
 unfold uD at h;simp only[A8,UH,eH]at h;obtain⟨⟨⟨⟨h1,h2⟩,h3⟩,h4⟩,h5⟩:=h;exact⟨h1,h2,h3,h4,h5⟩
theorem ZW(h1:vs.length<=20) (h2:os.length<=20) (h3:qs.length<=20) (h4:sg.length<=200) (h5:∀q∈qs,q.length<=61):bI (vs,os,qs,sg,()):=by
 have key:∀l:List (List Int),(∀q∈l,q.length<=61)->l.flatten.length<=61 * l.length:=by
  intro l
  induction l with
  | nil=>intro _;simp
  | cons a l ih=>
    intro hl;have:=ih λq hq=>hl q (by simp[hq])
    have:=hl a (by simp)
    simp only[Md,jR,y9];omega
 have h6:=key qs h5;exact⟨by show vs.length<=1000;omega,by show os.length<=1000;omega,by show qs.length<=1000;omega,by show sg.length<=1000;omega,λq hq=>by have:=h5 q hq;omega,by show qs.flatten.length<=100000;omega⟩
theorem Q7{s:List Int} (h:uD (vs,os,qs,sg,())=true){q:List Int} (hq:q.length<=61) (hs:s.length<=200):bI (vs,os,qs.set k q,s,()):=by
 obtain⟨h1,h2,h3,h4,h5⟩:=uF h;refine ZW h1 h2 (by rw[qN];exact h3) hs λx hx=>?_
 rcases GH hx with hx | rfl
 .have:=h5 x hx;omega
 .exact hq
theorem ZX(h:uD (vs,os,qs,sg,())=true) (k:Nat):(qs[k]?.getD []).length<=60:=by
 cases hk:qs[k]? with
 | none=>simp
 | some d=>exact(uF h).2.2.2.2 d (iJ hk)
theorem Ep:bI zM:=⟨by decide,by decide,by decide,by decide,by decide,by decide⟩
theorem aem{c:Int} (h:uD m=true):bI (wY m c id).1:=by
 obtain⟨vs,os,qs,sg,⟨⟩⟩:=m;have h4:=(uF h).2.2.2.1;have ha:=ZX h c.toNat;unfold wY;split
 .split
  .exact Ep
  .split
   .exact Ep
   .exact Q7 h (by simp only[jR,y9,LP];omega) (by omega)
 .exact Ep
theorem ai0{c n:Int} (h:uD m=true):bI (uy m c n).1:=by
 obtain⟨vs,os,qs,sg,⟨⟩⟩:=m;have h4:=(uF h).2.2.2.1;have ha:=ZX h c.toNat;unfold uy;split
 .refine Q7 h (by dsimp only;rw[xw];omega) ?_
  refine pI (zQ _ _) ?_;dsimp only;rw[jY];omega
 .exact Ep
theorem ZY(h:uD m=true):bI (og m id).1:=by
 obtain⟨vs,os,qs,sg,⟨⟩⟩:=m;obtain⟨h1,h2,h3,h4,h5⟩:=uF h;unfold og;split
 .exact Ep
 .split
  .exact Ep
  .refine ZW h1 h2 h3 ?_ λq hq=>by have:=h5 q hq;omega
   refine pI (aaL _ _) (pI (BA sg []) ?_);simp;omega
end
end Go.Proofs.YtjhenjhcbcalpaaGreatDoor
