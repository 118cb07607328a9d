/- Part 11 of the proof. Conditions: the rows'. -/
import Derived.Test.YtjhenjhcbcalpaaGreatDoorB10
set_option linter.unusedSimpArgs false
set_option linter.unusedVariables false
set_option maxRecDepth 1000000
set_option maxHeartbeats 8000000
namespace Go.Proofs.YtjhenjhcbcalpaaGreatDoor
open Go Go.jw
noncomputable section
variable {sg vs os:List Int}{qs:List (List Int)}{k:Nat}{m:MD}{ms cs:List ByteArray}{fs:List FD}{ts:List SD}{bound id:Int}{l:List TD}{p:TD->Bool}
def jM(p:PD) (m:MD):Bool:=decide ((aB p.1 p.2.1 p.2.2.1 p.2.2.2.1 p.2.2.2.2.1).1=0) && dI m && decide (m.1.length=p.1.length) && decide (m.2.1.length=p.2.1.length) && decide (m.2.2.1.length=p.2.2.1.length)
theorem aia(vs:List VD) (ms cs:List ByteArray) (fs:List FD) (ts:List SD) (aA:abN.pre ((vs,ms,cs,fs,ts,()),())):
 let z1:=decide ((aB vs ms cs fs ts).fst=0);(vs.length<=1000000/\ms.length<=1000000/\cs.length<=1000000/\fs.length<=1000000/\ts.length<=1000000/\(∀(x:ByteArray×(jT.sl.pair Sh.unit).den),x∈fs->List.length x.snd.fst<=1000000)/\(dR fs).length<=1000000)/\qB z1 z1:=by
 conv=>zeta
 delta qB I6;exact⟨aA,rfl,rfl⟩
theorem adb:aN aK.gd 156 abN:=
 jG (cx:=aK) (n:=14) (cl:=[(74,Jd)]) ay ⟨DZ,trivial⟩ Tryz.func156 λd hd=>by
  obtain⟨⟨vs,ms,cs,fs,ts,⟨⟩⟩,⟨⟩⟩:=d;exact aI (λ_=>none) (aia vs ms cs fs ts hd) (by kernel_rfl)
theorem anN(vs:List VD) (ms cs:List ByteArray) (fs:List FD) (ts:List SD) (aA:Ld.pre ((vs,ms,cs,fs,ts,()),())):
 let z1:=decide ((aB vs ms cs fs ts).fst=0);(vs.length<=1000000/\ms.length<=1000000/\cs.length<=1000000/\fs.length<=1000000/\ts.length<=1000000/\(∀(x:ByteArray×(jT.sl.pair Sh.unit).den),x∈fs->List.length x.snd.fst<=1000000)/\(dR fs).length<=1000000)/\qB z1 z1:=by
 conv=>zeta
 delta qB I6;exact⟨aA,rfl,rfl⟩
theorem Vy:aN aK.gd 67 Ld:=
 jG (cx:=aK) (n:=14) (cl:=[(66,Gn)]) ay ⟨Lc,trivial⟩ Tryz.func67 λd hd=>by
  obtain⟨⟨vs,ms,cs,fs,ts,⟨⟩⟩,⟨⟩⟩:=d;exact aI (λ_=>none) (anN vs ms cs fs ts hd) (by kernel_rfl)
abbrev XO:CT:={ ps:=[oQ,qx],pre:=λd=>bnd (d.1,())/\aZ d.2.1,res:=λd=>([],vB (jM d.1 d.2.1)) }
theorem anO(vs:List VD) (ms cs:List ByteArray) (fs:List FD) (ts:List SD) (ws os:List Int) (qs:List (List Int)) (sg:List Int) (aA:XO.pre ((vs,ms,cs,fs,ts,()),(ws,os,qs,sg,()),())):
 let z1:=(aB vs ms cs fs ts).fst=0;let z2:=(ws,os,qs,sg,());(vs.length<=1000000/\ms.length<=1000000/\cs.length<=1000000/\fs.length<=1000000/\ts.length<=1000000/\(∀(x:ByteArray×(jT.sl.pair Sh.unit).den),x∈fs->List.length x.snd.fst<=1000000)/\(dR fs).length<=1000000)/\(decide z1=true->aZ z2)/\qB (jM (vs,ms,cs,fs,ts,()) z2) (decide z1 && dI z2 && decide ((ws.length:Int)=(vs.length:Int)) && decide ((os.length:Int)=(ms.length:Int)) && decide ((qs.length:Int)=(cs.length:Int))):=by
 conv=>zeta
 delta qB I6;obtain⟨h1,h2⟩:=aA;refine⟨h1,λ_=>h2,rfl,?_⟩
 unfold jM;simp only[Int.ofNat_inj]
theorem aib:aN aK.gd 84 XO:=
 bV (cx:=aK) (n:=38) (cl:=[(156,abN),(157,acY)]) (rc:=[]) ay ⟨adb,GU,trivial⟩ Tryz.func84 λd hd=>by
  obtain⟨⟨vs,ms,cs,fs,ts,⟨⟩⟩,⟨ws,os,qs,sg,⟨⟩⟩,⟨⟩⟩:=d;exact aI (λ_=>none) (anO vs ms cs fs ts ws os qs sg hd) (by kernel_rfl)
theorem anP(vs:List VD) (ms cs:List ByteArray) (fs:List FD) (ts:List SD) (ws os:List Int) (qs:List (List Int)) (sg:List Int) (aA:XO.pre ((vs,ms,cs,fs,ts,()),(ws,os,qs,sg,()),())):
 let z1:=(aB vs ms cs fs ts).fst=0;let z2:=(ws,os,qs,sg,());(vs.length<=1000000/\ms.length<=1000000/\cs.length<=1000000/\fs.length<=1000000/\ts.length<=1000000/\(∀(x:ByteArray×(jT.sl.pair Sh.unit).den),x∈fs->List.length x.snd.fst<=1000000)/\(dR fs).length<=1000000)/\(decide z1=true->aZ z2)/\qB (jM (vs,ms,cs,fs,ts,()) z2) (decide z1 && dI z2 && decide ((ws.length:Int)=(vs.length:Int)) && decide ((os.length:Int)=(ms.length:Int)) && decide ((qs.length:Int)=(cs.length:Int))):=by
 conv=>zeta
 delta qB I6;obtain⟨h1,h2⟩:=aA;refine⟨h1,λ_=>h2,rfl,?_⟩
 unfold jM;simp only[Int.ofNat_inj]
theorem aic:aN aK.gd 69 XO:=
 bV (cx:=aK) (n:=38) (cl:=[(67,Ld),(137,Ih)]) (rc:=[]) ay ⟨Vy,nV,trivial⟩ Tryz.func69 λd hd=>by
  obtain⟨⟨vs,ms,cs,fs,ts,⟨⟩⟩,⟨ws,os,qs,sg,⟨⟩⟩,⟨⟩⟩:=d;exact aI (λ_=>none) (anP vs ms cs fs ts ws os qs sg hd) (by kernel_rfl)
abbrev anQ(l m:List Int):Nat->Option (St->iE):=λk=>match k with
 | 4=>some λ_=>.inv { α:=Nat,slots:=λk=>[(13,.c (.v (.int .i64 k)))],res:=λk=>[],inv:=λk=>k<=(l).length/\∀j < k,l[j]?=m[j]?,meas:=λk=>(l).length - k }
 | _=>none
theorem aie(l m:List Int) (aA:ql.pre (l,m,())):
 let z2:=qB (decide (l=m)) false;let z1:=λ(x:Nat)=>(x<=l.length/\∀(j:Nat),j < x->l[j]?=m[j]?);br (!decide ((l.length:Int)=(m.length:Int))) z2 ((∃x,(z1 x)/\(cI 0=cI (x:Int)/\True)/\([]:List dP)=[])/\∀(x:Nat),(z1 x)->br (decide ((x:Int) < (l.length:Int))) ((0<=(x:Int)/\(x:Int) < (l.length:Int))/\∀(d:Int),l[(x:Int).toNat]?=some d->(0<=(x:Int)/\(x:Int) < (m.length:Int))/\∀(dH:Int),m[(x:Int).toNat]?=some dH->br (!decide (d=dH)) z2 (iR ((x:Int)+(1:Int))/\∃x',(z1 x')/\(cI ((x:Int)+(1:Int))=cI (x':Int)/\True)/\([]:List dP)=[]/\l.length - x' < l.length - x)) (qB (decide (l=m)) true)):=by
 conv=>zeta
 delta dP cI qB iR;have hp:l.length<=1000000:=aA;have fF:l≠m->([]:List Go.jw.aj)=[]/\aW.one (SV.c (SC.v (Value.bool (decide (l=m)))))=aW.one (SV.c (SC.v (Value.bool false))):=λq=>⟨rfl,by rw[yS q]⟩
 refine ah.2 ⟨λh=>fF λq=>?_,λh=>?_⟩
 .subst q;simp at h
 simp only[uP,dG]at h;refine⟨⟨0,⟨by omega,λj hj=>by omega⟩,⟨rfl,trivial⟩,rfl⟩,λk hk=>ah.2 ⟨λg=>?_,λg=>?_⟩⟩
 .simp only[dG]at g;refine⟨⟨by omega,by omega⟩,λd hd=>⟨⟨by omega,by omega⟩,λd1 hd1=>ah.2 ⟨λg2=>fF λq=>?_,λg2=>⟨au.2 (by omega),k+1,⟨by omega,λj hj=>?_⟩,⟨rfl,trivial⟩,rfl,by omega⟩⟩⟩⟩
  .subst q;rw[hd]at hd1;cases hd1;simp at g2
  .by_cases gu:j=k
   .subst gu;have hd:l[j]?=some d:=hd;have hd1:m[j]?=some d1:=hd1;simp at g2;rw[hd,hd1,g2]
   .exact hk.2 j (by omega)
 simp only[A8]at g;have e:l=m:=by
  apply Dh;intro j
  by_cases hj:j < k
  .exact hk.2 j hj
  .rw[uD (by omega),uD (by omega)]
 exact⟨rfl,by rw[vg e]⟩
theorem GX:aN aK.gd 127 ql:=
 bV (cx:=aK) (n:=26) (cl:=[]) (rc:=[]) ay trivial Tryz.func127 λd hd=>by
  obtain⟨l,m,⟨⟩⟩:=d;exact aI (anQ l m) (aie l m hd) (by kernel_rfl)
theorem aif(l m:List Int) (aA:ql.pre (l,m,())):
 l.length<=1000000/\qB (decide (l=m)) (decide (l=m)):=by
 delta qB;exact⟨aA,rfl,rfl⟩
theorem ade:aN aK.gd 129 ql:=
 bV (cx:=aK) (n:=8) (cl:=[(127,ql)]) (rc:=[]) ay ⟨GX,trivial⟩ Tryz.func129 λd hd=>by
  obtain⟨l,m,⟨⟩⟩:=d;exact aI (λ_=>none) (aif l m hd) (by kernel_rfl)
abbrev adf:CT:={ ps:=[.sl (.sl (.int .i64)),.sl (.sl (.int .i64))],pre:=λd=>d.1.length<=1000000/\∀q∈d.1,q.length<=1000000,res:=λd=>([],vB (decide (d.1=d.2.1))) }
abbrev anR(l m:List (List Int)):Nat->Option (St->iE):=λk=>match k with
 | 4=>some λ_=>.inv { α:=Nat,slots:=λk=>[(17,.c (.v (.int .i64 k)))],res:=λk=>[],inv:=λk=>k<=(l).length/\∀j < k,l[j]?=m[j]?,meas:=λk=>(l).length - k }
 | _=>none
theorem aii(l m:List (List Int)) (aA:adf.pre (l,m,())):
 let z2:=qB (decide (l=m)) false;let z1:=λ(x:Nat)=>(x<=l.length/\∀(j:Nat),j < x->l[j]?=m[j]?);br (!decide ((l.length:Int)=(m.length:Int))) z2 ((∃x,(z1 x)/\(cI 0=cI (x:Int)/\True)/\([]:List dP)=[])/\∀(x:Nat),(z1 x)->br (decide ((x:Int) < (l.length:Int))) ((0<=(x:Int)/\(x:Int) < (l.length:Int))/\∀(d:List Int),l[(x:Int).toNat]?=some d->(0<=(x:Int)/\(x:Int) < (m.length:Int))/\∀(dH:List Int),m[(x:Int).toNat]?=some dH->d.length<=1000000/\br (!decide (d=dH)) z2 (iR ((x:Int)+(1:Int))/\∃x',(z1 x')/\(cI ((x:Int)+(1:Int))=cI (x':Int)/\True)/\([]:List dP)=[]/\l.length - x' < l.length - x)) (qB (decide (l=m)) true)):=by
 conv=>zeta
 delta dP cI qB iR;obtain⟨hp,h6⟩:l.length<=1000000/\∀q∈l,q.length<=1000000:=aA;have fF:l≠m->([]:List Go.jw.aj)=[]/\aW.one (SV.c (SC.v (Value.bool (decide (l=m)))))=aW.one (SV.c (SC.v (Value.bool false))):=λq=>⟨rfl,by rw[yS q]⟩
 refine ah.2 ⟨λh=>fF λq=>?_,λh=>?_⟩
 .subst q;simp at h
 simp only[uP,dG]at h;refine⟨⟨0,⟨by omega,λj hj=>by omega⟩,⟨rfl,trivial⟩,rfl⟩,λk hk=>ah.2 ⟨λg=>?_,λg=>?_⟩⟩
 .simp only[dG]at g;refine⟨⟨by omega,by omega⟩,λd hd=>⟨⟨by omega,by omega⟩,λd1 hd1=>⟨h6 d (gQ hd),ah.2 ⟨λg2=>fF λq=>?_,λg2=>⟨au.2 (by omega),k+1,⟨by omega,λj hj=>?_⟩,⟨rfl,trivial⟩,rfl,by omega⟩⟩⟩⟩⟩
  .subst q;rw[hd]at hd1;cases hd1;simp at g2
  .by_cases gu:j=k
   .subst gu;have hd:l[j]?=some d:=hd;have hd1:m[j]?=some d1:=hd1;simp at g2;rw[hd,hd1,g2]
   .exact hk.2 j (by omega)
 simp only[A8]at g;have e:l=m:=by
  apply Dh;intro j
  by_cases hj:j < k
  .exact hk.2 j hj
  .rw[uD (by omega),uD (by omega)]
 exact⟨rfl,by rw[vg e]⟩
theorem XP:KL Tryz.prog aK.gd 128 [.func (.func 129) #[] #[]] adf:=
 (oO (cx:=aK) (n:=32) (cl:=[(129,ql)]) (il:=ilN) (hl:=hlN) (ml:=mlN) (rc:=[]) (lits:=[]) (suf:=[.func (.func 129) #[] #[]]) (by kernel_rfl) ay ⟨ade,trivial⟩ trivial trivial trivial Tryz.func128 (by kernel_rfl) (by kernel_rfl) rfl (by kernel_rfl) (by kernel_rfl) (by simp) λd hd=>by
  obtain⟨l,m,⟨⟩⟩:=d;exact aI (anR l m) (aii l m hd) (by kernel_rfl))
abbrev asz:List (Nat×Nat×CT):=[(128,129,adf)]
theorem anS(vs os:List Int) (qs:List (List Int)) (sg vs2 os2:List Int) (Eb:List (List Int)) (sg2:List Int) (aA:BX.pre ((vs,os,qs,sg,()),(vs2,os2,Eb,sg2,()),())):
 vs.length<=1000000/\(decide (vs=vs2)=true->os.length<=1000000)/\((decide (vs=vs2) && decide (os=os2))=true->sg.length<=1000000)/\((decide (vs=vs2) && decide (os=os2) && decide (sg=sg2))=true->qs.length<=1000000/\∀(q:List Int),q∈qs->q.length<=1000000)/\qB (decide ((vs,os,qs,sg,())=(vs2,os2,Eb,sg2,()))) (decide (vs=vs2) && decide (os=os2) && decide (sg=sg2) && decide (qs=Eb)):=by
 delta qB;obtain⟨b1,b2,b3,b4,b5,b6⟩:vs.length<=1000/\os.length<=1000/\qs.length<=1000/\sg.length<=1000/\(∀q∈qs,q.length<=1000)/\qs.flatten.length<=100000:=aA;have e:decide ((vs,os,qs,sg,())=(vs2,os2,Eb,sg2,()))=(decide (vs=vs2) && decide (os=os2) && decide (sg=sg2) && decide (qs=Eb)):=by
  rw[Et];simp only[dG,cZ,Ya,and_true];constructor
  .rintro⟨h1,h2,h3,h4⟩;exact⟨⟨⟨h1,h2⟩,h4⟩,h3⟩
  .rintro⟨⟨⟨h1,h2⟩,h4⟩,h3⟩;exact⟨h1,h2,h3,h4⟩
 refine⟨by omega,λ_=>by omega,λ_=>by omega,λ_=>⟨by omega,λq hq=>by have:=b5 q hq;omega⟩,rfl,?_⟩
 rw[e]
theorem aij:aN aK.gd 60 BX:=
 (oO (cx:=aK) (n:=31) (cl:=[(127,ql)]) (il:=ilN) (hl:=asz) (ml:=mlN) (rc:=[]) (lits:=[]) (suf:=[]) (by kernel_rfl) ay ⟨GX,trivial⟩ trivial ⟨XP,trivial⟩ trivial Tryz.func60 (by kernel_rfl) (by kernel_rfl) rfl (by kernel_rfl) (by kernel_rfl) (by simp) λd hd=>by
  obtain⟨⟨vs,os,qs,sg,⟨⟩⟩,⟨vs2,os2,Eb,sg2,⟨⟩⟩,⟨⟩⟩:=d;exact aI (λ_=>none) (anS vs os qs sg vs2 os2 Eb sg2 hd) (by kernel_rfl)).met
theorem Ec:∀(l sg:List Int),SS sg->SS (lJ sg l)/\∀y,y∈lJ sg l↔y∈sg\/y∈l
 | [],sg,h=>⟨h,λy=>by simp[lJ]⟩
 | x :: l,sg,h=>by
   have ih:=Ec l (aX (sg++[x])) (oP _);have e:lJ sg (x :: l)=lJ (aX (sg++[x])) l:=rfl;rw[e];refine⟨ih.1,λy=>?_⟩
   rw[ih.2 y,qg];simp[or_assoc]
theorem XQ(h:SS sg) (l:List Int):lJ sg l=aX (sg++l):=
 yE (Ec l sg h).1 (oP _) λy=>by rw[(Ec l sg h).2 y,qg,Du]
def iH(qs:List (List Int)):Int:=qs.foldl (λa q=>dX a q.length) 0
theorem XR{d:List Int} (h:qs[k]?=some d):iH (qs.take (k+1))=dX (iH (qs.take k)) d.length:=by
 unfold iH;rw[Hf,h];simp
theorem Ed:∀(qs:List (List Int)) (a:Int),a<=qs.foldl (λa q=>dX a (q.length:Int)) a/\∀q∈qs,(q.length:Int)<=qs.foldl (λa q=>dX a (q.length:Int)) a
 | [],a=>⟨Int.le_refl _,λq hq=>by cases hq⟩
 | x :: qs,a=>by
   have ih:=Ed qs (dX a x.length);have h:a<=dX a x.length/\(x.length:Int)<=dX a x.length:=by unfold dX;split<;>omega
   refine⟨Int.le_trans h.1 ih.1,λq hq=>?_⟩
   rcases nG.1 hq with rfl | hq
   .exact Int.le_trans h.2 ih.1
   .exact ih.2 q hq
def GY(m:MD) (c n:Int):MD:=(m.1,m.2.1,m.2.2.1.set c.toNat ((m.2.2.1[c.toNat]?.getD []).drop n.toNat),aX (m.2.2.2.1++(m.2.2.1[c.toNat]?.getD []).take n.toNat),())
theorem adg{c n:Int} (h:iq m c m.2.2.1.length=0):oG m c n=(GY m c (fV n ((m.2.2.1[c.toNat]?.getD []).length:Int)),fV n ((m.2.2.1[c.toNat]?.getD []).length:Int),0):=by
 have hs:SS m.2.2.2.1:=(fA.1 (fP.1 h).1).2.2.2.1;unfold oG GY;rw[if_pos h,XQ hs]
abbrev Jw:CT:={ ps:=[qx,.int .i64],pre:=λd=>aZ d.1,res:=λd=>([],.gY [.agg [.sl (.int .i64) ((oG d.1 d.2.1 (iH d.1.2.2.1)).1).1,.sl (.int .i64) ((oG d.1 d.2.1 (iH d.1.2.2.1)).1).2.1,.sl (.sl (.int .i64)) ((oG d.1 d.2.1 (iH d.1.2.2.1)).1).2.2.1,.sl (.int .i64) ((oG d.1 d.2.1 (iH d.1.2.2.1)).1).2.2.2.1],.c (.v (.int .i64 ((oG d.1 d.2.1 (iH d.1.2.2.1)).2.1))),.c (.v (.int .i64 ((oG d.1 d.2.1 (iH d.1.2.2.1)).2.2)))]) }
abbrev anT(vs os:List Int) (qs:List (List Int)) (sg:List Int) (c:Int):Nat->Option (St->iE):=λk=>match k with
 | 3=>some λ_=>.inv { α:=Nat,slots:=λk=>[(13,.c (.v (.int .i64 k))),(7,.c (.v (.int .i64 (iH (qs.take k)))))],res:=λk=>[],inv:=λk=>k<=(qs).length,meas:=λk=>(qs).length - k }
 | _=>none
theorem aik(vs os:List Int) (qs:List (List Int)) (sg:List Int) (c:Int) (aA:Jw.pre ((vs,os,qs,sg,()),c,())):
 let z4:=λ(x:Nat)=>iH (List.take x qs);let z1:=[g0 (aj.blk 34 [SC.sl I6 vs,SC.sl I6 os,SC.sl I6.sl qs,SC.sl I6 sg]),g0 (aj.blk 34 jV)];let z5:=(vs,os,qs,sg,());let z3:=oG z5 c (iH qs);let z2:=λ(x:Nat)=>oG z5 c (z4 x);(∃x,x<=qs.length/\(cI 0=cI (x:Int)/\cI 0=cI (z4 x)/\True)/\sm z1)/\∀(x:Nat),x<=qs.length->br (decide ((x:Int) < (qs.length:Int))) ((0<=(x:Int)/\(x:Int) < (qs.length:Int))/\∀(d:List Int),qs[(x:Int).toNat]?=some d->iR ((x:Int)+(1:Int))/\∃x',x'<=qs.length/\(cI ((x:Int)+(1:Int))=cI (x':Int)/\cI (dX (z4 x) (d.length:Int))=cI (z4 x')/\True)/\sm z1/\qs.length - x' < qs.length - x) ((aZ z5/\0<=iH (List.take x qs))/\rT [SV.agg [SC.sl I6 z3.fst.fst,SC.sl I6 z3.fst.snd.fst,SC.sl I6.sl z3.fst.snd.snd.fst,SC.sl I6 z3.fst.snd.snd.snd.fst],cI (z3.snd.fst),cI (z3.snd.snd)] [SV.agg [SC.sl I6 ((z2 x).fst.fst,(z2 x).fst.snd.fst,(z2 x).fst.snd.snd.fst,(z2 x).fst.snd.snd.snd.fst,()).fst,SC.sl I6 ((z2 x).fst.snd.fst,(z2 x).fst.snd.snd.fst,(z2 x).fst.snd.snd.snd.fst,()).fst,SC.sl I6.sl ((z2 x).fst.snd.snd.fst,(z2 x).fst.snd.snd.snd.fst,()).fst,SC.sl I6 (z2 x).fst.snd.snd.snd.fst],cI ((z2 x).snd.fst),cI ((z2 x).snd.snd)]):=by
 conv=>zeta
 delta jV cI g0 rT sm I6 iR iN;have hb:=aA;obtain⟨b1,b2,b3,b4,b5,b6⟩:vs.length<=1000/\os.length<=1000/\qs.length<=1000/\sg.length<=1000/\(∀q∈qs,q.length<=1000)/\qs.flatten.length<=100000:=aA;refine⟨⟨0,by omega,⟨rfl,rfl,trivial⟩,rfl⟩,λk hk=>ah.2 ⟨λg=>?_,λg=>?_⟩⟩
 .simp only[dG]at g;refine⟨⟨by omega,by omega⟩,λd hd=>⟨au.2 (by omega),k+1,by omega,⟨rfl,?_,trivial⟩,rfl,by omega⟩⟩
  have hd:qs[k]?=some d:=hd;rw[XR hd]
 simp only[A8]at g;rw[qV (i:=k) (by omega)]
 exact⟨⟨hb,(Ed qs 0).1⟩,rfl,rfl⟩
theorem adh:aN aK.gd 106 Jw:=
 bV (cx:=aK) (n:=29) (cl:=[(166,Vt)]) (rc:=[.data qx,.keep,.keep]) ay ⟨Pz,trivial⟩ Tryz.func106 λd hd=>by
  obtain⟨⟨vs,os,qs,sg,⟨⟩⟩,c,⟨⟩⟩:=d;exact aI (anT vs os qs sg c) (aik vs os qs sg c hd) (by kernel_rfl)
abbrev Vz:CT:={ ps:=[qx,.int .i64,.int .i64],pre:=λd=>aZ d.1/\0<=d.2.1/\d.2.1 < d.1.2.2.1.length/\0<=d.2.2.1/\d.2.2.1<=((d.1.2.2.1[d.2.1.toNat]?.getD []).length:Int),res:=λd=>([],.one (.agg [.sl (.int .i64) ((GY d.1 d.2.1 d.2.2.1)).1,.sl (.int .i64) ((GY d.1 d.2.1 d.2.2.1)).2.1,.sl (.sl (.int .i64)) ((GY d.1 d.2.1 d.2.2.1)).2.2.1,.sl (.int .i64) ((GY d.1 d.2.1 d.2.2.1)).2.2.2.1])) }
theorem ail(vs os:List Int) (qs:List (List Int)) (sg:List Int) (c n:Int) (aA:Vz.pre ((vs,os,qs,sg,()),c,n,())):
 let z2:=0<=c/\c < (qs.length:Int);let z1:=λ(dH:List Int)=>List.drop n.toNat (List.take (dH.length:Int).toNat dH);aZ (vs,os,qs,sg,())/\z2/\c.toNat < qs.length/\∀(d:List Int),qs[c.toNat]?=some d->((0:Int)<=(0:Int)/\0<=n/\n<=(d.length:Int))/\(sg.length<=500000/\(List.drop 0 (List.take n.toNat d)).length<=500000)/\z2/\c.toNat < qs.length/\∀(dH:List Int),qs[c.toNat]?=some dH->(0<=n/\n<=(dH.length:Int)/\(dH.length:Int)<=(dH.length:Int))/\(z1 dH).length<=1000000/\z2/\c.toNat < qs.length/\rE (aW.one (SV.agg [SC.sl I6 (GY (vs,os,qs,sg,()) c n).fst,SC.sl I6 os,SC.sl I6.sl (qs.set c.toNat (List.drop n.toNat (qs[c.toNat]?.getD []))),SC.sl I6 (aX (sg++List.take n.toNat (qs[c.toNat]?.getD [])))])) (aW.one (SV.agg [SC.sl I6 vs,SC.sl I6 os,SC.sl I6.sl (qs.set c.toNat (z1 dH)),SC.sl I6 (aX (sg++List.drop 0 (List.take n.toNat d)))])):=by
 conv=>zeta
 delta rE I6;obtain⟨hb,c0,c1,n0,n1⟩:aZ (vs,os,qs,sg,())/\0<=c/\c < qs.length/\0<=n/\n<=((qs[c.toNat]?.getD []).length:Int):=aA;obtain⟨b1,b2,b3,b4,b5,b6⟩:vs.length<=1000/\os.length<=1000/\qs.length<=1000/\sg.length<=1000/\(∀q∈qs,q.length<=1000)/\qs.flatten.length<=100000:=id hb;have hc:c.toNat < qs.length:=by omega
 refine⟨hb,⟨c0,c1⟩,hc,λd hd=>?_⟩
 have e:qs[c.toNat]?.getD []=d:=by rw[hd];rfl
 rw[e]at n1;have hl:=b5 d (gQ hd);refine⟨⟨by omega,n0,n1⟩,⟨by omega,by rw[MP,kH];omega⟩,⟨c0,c1⟩,hc,λd1 hd1=>?_⟩
 rw[hd]at hd1;cases hd1;have e2:List.take (d.length:Int).toNat d=d:=qV (by omega)
 rw[e2,MP];refine⟨⟨n0,n1,by omega⟩,by rw[xO];omega,⟨c0,c1⟩,hc,rfl,?_⟩
 rw[e];rfl
theorem PL:aN aK.gd 174 Vz:=
 bV (cx:=aK) (n:=34) (cl:=[(65,nX),(203,acT),(131,Pn)]) (rc:=[.data qx]) ay ⟨uy,acU,GR,trivial⟩ Tryz.func174 λd hd=>by
  obtain⟨⟨vs,os,qs,sg,⟨⟩⟩,c,n,⟨⟩⟩:=d;exact aI (λ_=>none) (ail vs os qs sg c n hd) (by kernel_rfl)
theorem ain(vs os:List Int) (qs:List (List Int)) (sg:List Int) (c:Int) (aA:Ju.pre ((vs,os,qs,sg,()),c,())):
 let z7:=(vs,os,qs,sg,());let z4:=oG z7 c (1:Int);let z1:=[SV.agg [SC.sl I6 z4.fst.fst,SC.sl I6 z4.fst.snd.fst,SC.sl I6.sl z4.fst.snd.snd.fst,SC.sl I6 z4.fst.snd.snd.snd.fst],cI (z4.snd.fst),cI (z4.snd.snd)];let z6:=qs[c.toNat]?.getD [];let z5:=λ(d:List Int)=>fV (1:Int) (d.length:Int);let z3:=λ(d:List Int)=>List.drop (z5 d).toNat z6;let z2:=λ(d:List Int)=>sg++List.take (z5 d).toNat z6;aZ z7/\br (!dI z7) (rT z1 [SV.agg oU,cI 0,cI 1]) (br (decide (c < 0) || decide ((qs.length:Int)<=c)) (rT z1 [SV.agg oU,cI 0,cI 11]) ((0<=c/\c < (qs.length:Int))/\∀(d:List Int),qs[c.toNat]?=some d->(aZ z7/\0<=c/\c < (qs.length:Int)/\0<=fV (1:Int) (d.length:Int)/\fV (1:Int) (d.length:Int)<=((List.length z6):Int))/\rT z1 [SV.agg [SC.sl I6 ((GY z7 c (z5 d)).fst,os,qs.set c.toNat (z3 d),aX (z2 d),()).fst,SC.sl I6 os,SC.sl I6.sl (qs.set c.toNat (z3 d)),SC.sl I6 (aX (z2 d))],cI (z5 d),cI 0])):=by
 conv=>zeta
 delta oU cI rT I6;have hb:=aA;obtain⟨b1,b2,b3,b4,b5,b6⟩:vs.length<=1000/\os.length<=1000/\qs.length<=1000/\sg.length<=1000/\(∀q∈qs,q.length<=1000)/\qs.flatten.length<=100000:=aA;have hw:oG (vs,os,qs,sg,()) c 1=oG (vs,os,qs,sg,()) c 1:=rfl;refine⟨hb,ah.2 ⟨λh=>⟨rfl,?_⟩,λh=>ah.2 ⟨λg=>⟨rfl,?_⟩,λg=>?_⟩⟩⟩
 .unfold oG;rw[AA (by simpa using h)];rfl
 .unfold oG;rw[AB (by simpa using h) (by simpa using g)];rfl
 .have g:¬(c < 0\/(qs.length:Int)<=c):=by simpa using g
  have h0:iq (vs,os,qs,sg,()) c qs.length=0:=Cb (by simpa using h) g
  refine⟨⟨by omega,by omega⟩,λd hd=>?_⟩
  have e:qs[c.toNat]?.getD []=d:=by rw[hd];rfl
  have hm:fV 1 (d.length:Int)=fV 1 (d.length:Int):=rfl;have hm2:0<=fV 1 (d.length:Int)/\fV 1 (d.length:Int)<=d.length:=by unfold fV;split<;>omega
  have ew:oG (vs,os,qs,sg,()) c 1=(GY (vs,os,qs,sg,()) c (fV 1 (d.length:Int)),fV 1 (d.length:Int),0):=by
   have:=adg (n:=1) h0;rw[show(vs,os,qs,sg,()).2.2.1[c.toNat]?.getD []=d from e]at this
   exact this
  rw[ew];exact⟨⟨hb,(by omega:0<=c),(by omega:c < (qs.length:Int)),hm2.1,by rw[e];exact hm2.2⟩,rfl,rfl⟩
theorem adi:aN aK.gd 120 Ju:=
 bV (cx:=aK) (n:=34) (cl:=[(137,Ih),(174,Vz)]) (rc:=[.data qx,.keep,.keep]) ay ⟨nV,PL,trivial⟩ Tryz.func120 λd hd=>by
  obtain⟨⟨vs,os,qs,sg,⟨⟩⟩,c,⟨⟩⟩:=d;exact aI (λ_=>none) (ain vs os qs sg c hd) (by kernel_rfl)
theorem aio(vs os:List Int) (qs:List (List Int)) (sg:List Int) (c:Int) (aA:Jw.pre ((vs,os,qs,sg,()),c,())):
 let z6:=(vs,os,qs,sg,());let z4:=oG z6 c (iH qs);let z1:=[SV.agg [SC.sl I6 z4.fst.fst,SC.sl I6 z4.fst.snd.fst,SC.sl I6.sl z4.fst.snd.snd.fst,SC.sl I6 z4.fst.snd.snd.snd.fst],cI (z4.snd.fst),cI (z4.snd.snd)];let z5:=qs[c.toNat]?.getD [];let z3:=λ(d:List Int)=>List.drop (d.length:Int).toNat z5;let z2:=λ(d:List Int)=>sg++List.take (d.length:Int).toNat z5;aZ z6/\br (!dI z6) (rT z1 [SV.agg oU,cI 0,cI 1]) (br (decide (c < 0) || decide ((qs.length:Int)<=c)) (rT z1 [SV.agg oU,cI 0,cI 11]) ((0<=c/\c < (qs.length:Int))/\∀(d:List Int),qs[c.toNat]?=some d->(aZ z6/\0<=c/\c < (qs.length:Int)/\0<=(d.length:Int)/\(d.length:Int)<=((List.length z5):Int))/\rT z1 [SV.agg [SC.sl I6 ((GY z6 c (d.length:Int)).fst,os,qs.set c.toNat (z3 d),aX (z2 d),()).fst,SC.sl I6 os,SC.sl I6.sl (qs.set c.toNat (z3 d)),SC.sl I6 (aX (z2 d))],cI (d.length:Int),cI 0])):=by
 conv=>zeta
 delta oU cI rT I6;have hb:=aA;obtain⟨b1,b2,b3,b4,b5,b6⟩:vs.length<=1000/\os.length<=1000/\qs.length<=1000/\sg.length<=1000/\(∀q∈qs,q.length<=1000)/\qs.flatten.length<=100000:=aA;have hw:oG (vs,os,qs,sg,()) c (iH qs)=oG (vs,os,qs,sg,()) c (iH qs):=rfl;refine⟨hb,ah.2 ⟨λh=>⟨rfl,?_⟩,λh=>ah.2 ⟨λg=>⟨rfl,?_⟩,λg=>?_⟩⟩⟩
 .unfold oG;rw[AA (by simpa using h)];rfl
 .unfold oG;rw[AB (by simpa using h) (by simpa using g)];rfl
 .have g:¬(c < 0\/(qs.length:Int)<=c):=by simpa using g
  have h0:iq (vs,os,qs,sg,()) c qs.length=0:=Cb (by simpa using h) g
  refine⟨⟨by omega,by omega⟩,λd hd=>?_⟩
  have e:qs[c.toNat]?.getD []=d:=by rw[hd];rfl
  have hm:fV (iH qs) (d.length:Int)=(d.length:Int):=(by have:=(Ed qs 0).2 d (gQ hd);unfold fV;split<;>(unfold iH at *;omega))
  have hm2:0<=fV (iH qs) (d.length:Int)/\fV (iH qs) (d.length:Int)<=d.length:=by unfold fV;split<;>(have:=(Ed qs 0).1;unfold iH at *;first | omega | skip)<;>omega
  have ew:oG (vs,os,qs,sg,()) c (iH qs)=(GY (vs,os,qs,sg,()) c (fV (iH qs) (d.length:Int)),fV (iH qs) (d.length:Int),0):=by
   have:=adg (n:=(iH qs)) h0;rw[show(vs,os,qs,sg,()).2.2.1[c.toNat]?.getD []=d from e]at this
   exact this
  rw[ew];exact⟨⟨hb,(by omega:0<=c),(by omega:c < (qs.length:Int)),(by omega:(0:Int)<=(d.length:Int)),by rw[e];exact Int.le_refl _⟩,rfl,by rw[hm];rfl⟩
theorem adk:aN aK.gd 121 Jw:=
 bV (cx:=aK) (n:=33) (cl:=[(137,Ih),(174,Vz)]) (rc:=[.data qx,.keep,.keep]) ay ⟨nV,PL,trivial⟩ Tryz.func121 λd hd=>by
  obtain⟨⟨vs,os,qs,sg,⟨⟩⟩,c,⟨⟩⟩:=d;exact aI (λ_=>none) (aio vs os qs sg c hd) (by kernel_rfl)
theorem aip(vs os:List Int) (qs:List (List Int)) (sg:List Int) (id:Int) (aA:Jv.pre ((vs,os,qs,sg,()),id,())):
 let z3:=(vs,os,qs,sg,());let z2:=mY z3 id;let z1:=[SV.agg [SC.sl I6 z2.fst.fst,SC.sl I6 z2.fst.snd.fst,SC.sl I6.sl z2.fst.snd.snd.fst,SC.sl I6 z2.fst.snd.snd.snd.fst],cI (z2.snd)];aZ z3/\br (!dI z3) (rT z1 PE) (sg.length<=4611686018427387904/\br (!dM sg id) (rT z1 LP) (aZ z3/\sg.length<=1000000/\rT z1 [SV.agg [SC.sl I6 vs,SC.sl I6 os,SC.sl I6.sl qs,SC.sl I6 (aX (jr sg [id] false))],cI 0])):=by
 conv=>zeta
 delta PE LP cI rT I6;have hb:=aA;obtain⟨b1,b2,b3,b4,b5,b6⟩:vs.length<=1000/\os.length<=1000/\qs.length<=1000/\sg.length<=1000/\(∀q∈qs,q.length<=1000)/\qs.flatten.length<=100000:=aA;unfold mY;refine⟨hb,ah.2 ⟨λh=>⟨rfl,?_⟩,λh=>⟨by omega,ah.2 ⟨λg=>⟨rfl,?_⟩,λg=>⟨hb,by omega,rfl,?_⟩⟩⟩⟩⟩
 .rw[if_pos (by simpa using h)];rfl
 .rw[if_neg (by simpa using h),if_pos (by simpa using g)];rfl
 .rw[if_neg (by simpa using h),if_neg (by simpa using g)]
  have hs:SS sg:=(fA.1 (show dI (vs,os,qs,sg,())=true by simpa using h)).2.2.2.1
  have e1:aX sg=sg:=yE (oP _) hs λy=>qg
  have e2:aX (jr sg [id] false)=jr sg [id] false:=yE (oP _) (by unfold jr;exact Yk _ hs) λy=>qg
  rw[e2];have e3:jr (aX sg) [id] false=jr sg [id] false:=by rw[e1]
  exact oW (λz=>aW.gY [SV.agg [SC.sl (Sh.int .i64) vs,SC.sl (Sh.int .i64) os,SC.sl (Sh.sl (Sh.int .i64)) qs,SC.sl (Sh.int .i64) z],SV.c (SC.v (Value.int .i64 0))]) e3
theorem adl:aN aK.gd 119 Jv:=
 bV (cx:=aK) (n:=25) (cl:=[(137,Ih),(172,abZ),(173,SY),(65,nX)]) (rc:=[.data qx,.keep]) ay ⟨nV,Gp,acW,uy,trivial⟩ Tryz.func119 λd hd=>by
  obtain⟨⟨vs,os,qs,sg,⟨⟩⟩,id,⟨⟩⟩:=d;exact aI (λ_=>none) (aip vs os qs sg id hd) (by kernel_rfl)
abbrev XT:Sh:=.pair (.int .i64) (.pair (.int .i64) .unit)
abbrev yQ:Sh:=.pair (.int .i64) (.pair (.int .i64) (.pair (.sl XT) .unit))
abbrev LQ:Sh:=.pair (.sl bD) (.pair qx (.pair (.sl yQ) .unit))
abbrev shE:Sh:=.pair (.int .i64) (.pair (.int .i64) (.pair (.int .i64) (.pair (.int .i64) (.pair (.int .i64) (.pair (.int .i64) (.pair (.int .i64) (.pair (.int .i64) (.pair (.int .i64) .unit))))))))
abbrev BD:=Int×Int×List (Int×Int×Unit)×Unit
abbrev ZD:=List TD×MD×List BD×Unit
abbrev ED:=Int×Int×Int×Int×Int×Int×Int×Int×Int×Unit
abbrev Ce(e:ED):SV:=.agg [v6 e.1,v6 e.2.1,v6 e.2.2.1,v6 e.2.2.2.1,v6 e.2.2.2.2.1,v6 e.2.2.2.2.2.1,v6 e.2.2.2.2.2.2.1,v6 e.2.2.2.2.2.2.2.1,v6 e.2.2.2.2.2.2.2.2.1]
abbrev agI(i:ID):SV:=.agg [v6 i.1,v6 i.2.1,v6 i.2.2.1,v6 i.2.2.2.1,v6 i.2.2.2.2.1,v6 i.2.2.2.2.2.1,v6 i.2.2.2.2.2.2.1,v6 i.2.2.2.2.2.2.2.1]
abbrev Ci(m:MD):SV:=.agg [.sl I6 m.1,.sl I6 m.2.1,.sl I6.sl m.2.2.1,.sl I6 m.2.2.2.1]
abbrev Dn(z:ZD):SV:=.agg [.sl bD z.1,.sl I6 z.2.1.1,.sl I6 z.2.1.2.1,.sl I6.sl z.2.1.2.2.1,.sl I6 z.2.1.2.2.2.1,.sl yQ z.2.2.1]
abbrev qE(a b:ED):Prop:=([]:List aj)=[]/\aW.one (Ce a)=aW.one (Ce b)
abbrev bP(vs:List VD) (ms cs:List ByteArray) (fs:List FD) (ts:List SD):aj:=.blk 27 [.sl Gj vs,.sl .str ms,.sl .str cs,.sl CY fs,.sl mO ts]
abbrev bZ(th:List TD) (mv mo:List Int) (mq:List (List Int)) (mg:List Int) (bf:List BD):aj:=.blk 37 [.sl bD th,.sl I6 mv,.sl I6 mo,.sl I6.sl mq,.sl I6 mg,.sl yQ bf]
def tB(t:TD):Prop:=t.2.2.2.2.2.2.2.2.2.1.length<=1000000/\t.1<=9223372036854775807/\t.2.2.2.1.length=8
def iO(l:List TD):Prop:=l.length<=1000000/\∀t∈l,tB t
def qU(l:List TD):Prop:=SS (l.map (·.1))
def VS(vs:List VD) (ms cs:List ByteArray) (fs:List FD) (ts:List SD) (bound:Int) (l:List TD) (m:MD) (bf:List BD):Prop:=
 jM (vs,ms,cs,fs,ts,()) m=true/\bf=[]/\(∀t∈l,bQ (aB vs ms cs fs ts).1 bound=0/\rD ms fs bound t)/\qU l
open Classical in
def vsB(vs:List VD) (ms cs:List ByteArray) (fs:List FD) (ts:List SD) (bound:Int) (l:List TD) (m:MD) (bf:List BD):Bool:=decide (VS vs ms cs fs ts bound l m bf)
theorem jR{vs:List VD}{bf:List BD}:vsB vs ms cs fs ts bound l m bf=true↔VS vs ms cs fs ts bound l m bf:=by
 unfold vsB;exact @X8 _ (Classical.propDecidable _)
theorem XU{vs:List VD}{bf:List BD} (h:¬VS vs ms cs fs ts bound l m bf):vsB vs ms cs fs ts bound l m bf=false:=TJ.2 λq=>h (jR.1 q)
theorem Tn(h:∀(j:Nat) a b,l[j]?=some a->l[j+1]?=some b->a.1 < b.1):qU l:=by
 refine Gy λj x y hx hy=>?_
 rw[Es]at hx hy;cases ha:l[j]? with
 | none=>rw[ha]at hx;cases hx
 | some a=>
   cases hb:l[j+1]? with
   | none=>rw[hb]at hy;cases hy
   | some b=>
     rw[ha]at hx;rw[hb]at hy;cases hx;cases hy;exact h j a b ha hb
theorem adn(h:qU l){j:Nat}{a b:TD} (ha:l[j]?=some a) (hb:l[j+1]?=some b):a.1 < b.1:=
 Lm h (j:=j) (by rw[Es,ha];rfl) (by rw[Es,hb];rfl)
def wZ(l:List TD) (id:Int):Option TD:=l.find? λt=>decide (t.1=id)
def AL(b:Bool):Int:=if b=true then 1 else 0
def labS(m:MD) (t:TD) (i:ID):ED:=
 if i.1=8 then(t.1,t.2.2.2.2.1,1,i.2.2.2.2.1,-1,-1,i.2.2.2.2.2.2.2.1,m.1[i.2.2.2.2.1.toNat]?.getD 0,0,())
 else if i.1=14 then(t.1,t.2.2.2.2.1,8,i.2.2.2.2.1,-1,-1,i.2.2.2.2.2.2.2.1,m.1[i.2.2.2.2.1.toNat]?.getD 0,0,())
 else if i.1=9 then(t.1,t.2.2.2.2.1,2,i.2.2.2.2.1,-1,-1,i.2.2.2.2.2.2.2.1,0,t.2.2.2.1.getD i.2.2.1.toNat 0,())
 else if i.1=10 then(t.1,t.2.2.2.2.1,5,i.2.2.2.2.1,-1,-1,i.2.2.2.2.2.2.2.1,m.1[i.2.2.2.2.1.toNat]?.getD 0,t.2.2.2.1.getD i.2.2.1.toNat 0,())
 else if i.1=11 then(t.1,t.2.2.2.2.1,5,i.2.2.2.2.1,-1,-1,i.2.2.2.2.2.2.2.1,m.1[i.2.2.2.2.1.toNat]?.getD 0,(dQ 1 (m.1[i.2.2.2.2.1.toNat]?.getD 0) (t.2.2.2.1.getD i.2.2.1.toNat 0)).1,())
 else if i.1=12 then
  (if m.1[i.2.2.2.2.1.toNat]?.getD 0=t.2.2.2.1.getD i.2.2.1.toNat 0 then(t.1,t.2.2.2.2.1,5,i.2.2.2.2.1,-1,-1,i.2.2.2.2.2.2.2.1,m.1[i.2.2.2.2.1.toNat]?.getD 0,t.2.2.2.1.getD i.2.2.2.1.toNat 0,())
   else(t.1,t.2.2.2.2.1,6,i.2.2.2.2.1,-1,-1,i.2.2.2.2.2.2.2.1,m.1[i.2.2.2.2.1.toNat]?.getD 0,0,()))
 else if i.1=13 then(t.1,t.2.2.2.2.1,7,i.2.2.2.2.1,-1,-1,0,0,0,())
 else if i.1=15 then(t.1,t.2.2.2.2.1,9,i.2.2.2.2.1,-1,-1,0,0,0,())
 else if i.1=16 then(t.1,t.2.2.2.2.1,10,i.2.2.2.2.1,-1,-1,0,0,0,())
 else if i.1=17 then(t.1,t.2.2.2.2.1,11,i.2.2.2.2.1,-1,-1,0,AL (mX m i.2.2.2.2.1),0,())
 else if i.1=18 then
  (if t.2.2.2.2.2.2.1=0 then(t.1,t.2.2.2.2.1,12,i.2.2.2.2.1,i.2.2.2.2.2.1,-1,0,0,0,())
   else if t.2.2.2.2.2.2.1=1 then(t.1,t.2.2.2.2.1,13,i.2.2.2.2.1,-1,-1,0,0,0,())
   else(t.1,t.2.2.2.2.1,9,i.2.2.2.2.2.1,-1,-1,0,0,0,()))
 else if i.1=19 then(t.1,t.2.2.2.2.1,14,i.2.2.2.2.1,-1,-1,0,fV 1 (m.2.2.1[i.2.2.2.2.1.toNat]?.getD []).length,0,())
 else if i.1=20 then(t.1,t.2.2.2.2.1,15,i.2.2.2.2.1,-1,-1,0,(m.2.2.1[i.2.2.2.2.1.toNat]?.getD []).length,0,())
 else if i.1=21 then(t.1,t.2.2.2.2.1,16,(dB t.1 t.2.2.2.2.2.1).1,-1,-1,0,0,0,())
 else(t.1,t.2.2.2.2.1,17,t.2.2.2.1.getD i.2.2.1.toNat 0,-1,-1,0,0,0,())
def Dp(l:List TD) (m:MD) (t:TD) (i:ID):Bool:=
 if i.1=14 then decide ((dQ i.2.2.2.2.2.2.1 (m.1[i.2.2.2.2.1.toNat]?.getD 0) (t.2.2.2.1.getD i.2.2.1.toNat 0)).1≠0)
 else if i.1=15 then mX m i.2.2.2.2.1
 else if i.1=18 then(if t.2.2.2.2.2.2.1=1 then dM m.2.2.2.1 t.1 else if t.2.2.2.2.2.2.1=2 then mX m i.2.2.2.2.2.1 else true)
 else if i.1=22 then(match wZ l (t.2.2.2.1.getD i.2.2.1.toNat 0) with
  | some u=>decide (u.2.2.2.2.2.2.2.1=2) || decide (u.2.2.2.2.2.2.2.1=3)
  | none=>false)
 else true
def jJ(m:MD) (e:ED):MD×Int:=
 if e.2.2.1=5\/e.2.2.1=2 then writeM m e.2.2.2.1 e.2.2.2.2.2.2.2.2.1
 else if e.2.2.1=9\/(e.2.2.1=11/\e.2.2.2.2.2.2.2.1≠0) then iw m e.2.2.2.1 e.1 (-1) e.1
 else if e.2.2.1=10 then iw m e.2.2.2.1 e.1 e.1 (-1)
 else if e.2.2.1=12 then(if(iw m e.2.2.2.2.1 e.1 e.1 (-1)).2=0 then qo (iw m e.2.2.2.2.1 e.1 e.1 (-1)).1 e.2.2.2.1 e.1 else iw m e.2.2.2.2.1 e.1 e.1 (-1))
 else if e.2.2.1=13 then mY m e.1
 else if e.2.2.1=14 then((oG m e.2.2.2.1 1).1,(oG m e.2.2.2.1 1).2.2)
 else if e.2.2.1=15 then((oG m e.2.2.2.1 (iH m.2.2.1)).1,(oG m e.2.2.2.1 (iH m.2.2.1)).2.2)
 else(m,0)
def uY(i:ID) (e:ED):Int:=
 if e.2.2.1=5 then(if i.1=12 then 1 else e.2.2.2.2.2.2.2.1) else if e.2.2.1=1\/e.2.2.1=8 then e.2.2.2.2.2.2.2.1
 else if e.2.2.1=11 then(if e.2.2.2.2.2.2.2.1=0 then 0 else 1) else if e.2.2.1=16 then e.2.2.2.1 else 0
def Tq(l:List TD) (u:TD):List TD:=l.filter (λt=>decide (t.1 < u.1))++[u]++l.filter (λt=>decide (u.1 < t.1))
def zE:ED:=(0,0,0,0,0,0,0,0,0,())
def zZ:ZD:=([],zM,[],())
def eY(p:TD->Bool) (l:List TD):Int:=match l.findIdx? p with
 | some i=>i
 | none=>-1
theorem VA{d:TD} (hk:l[k]?=some d) (hd:p d=true) (h:∀j < k,∀t,l[j]?=some t->p t=false):eY p l=k:=by
 obtain⟨h1,h2⟩:=eX.1 hk;have:l.findIdx? p=some k:=by
  rw[A55];refine⟨h1,by rw[h2];exact hd,λj hj=>?_⟩
  rw[h j hj _ (mP (by omega))];simp
 unfold eY;rw[this]
theorem VB(h:∀j < l.length,∀t,l[j]?=some t->p t=false):eY p l = -1:=by
 have:l.findIdx? p=none:=by
  rw[A76];intro x hx;obtain⟨j,hj⟩:=yT hx;exact h j (eX.1 hj).1 x hj
 unfold eY;rw[this]
abbrev anU:SF:={ ss:=[bD],r:=.bool,ct:=λpr fn=>{ ps:=[.sl bD],pre:=λd=>d.1.length<=1000000/\∀t∈d.1,pr (t,()),res:=λd=>([],.one (.c (.v (.int .i64 (eY (λt=>fn (t,())) d.1))))) } }
abbrev aqK:MK:={ ss:=[.int .i64],f:=λds=>.clo Tryz.prog [bD] .bool (λ_=>True) (λd=>decide (d.1.1=ds.1)) }
abbrev anV(pr:dh [bD]->Prop) (fn:dh [bD]->Bool) (l:List TD):Nat->Option (St->iE):=λk=>match k with
 | 2=>some λ_=>.inv { α:=Nat,slots:=λk=>[(8,.c (.v (.int .i64 k)))],res:=λ_=>[],inv:=λk=>k<=l.length/\∀j < k,∀t,l[j]?=some t->fn (t,())=false,meas:=λk=>l.length - k }
 | _=>none
abbrev aqL:List (Nat×SF):=[]
theorem air(pr:dh [bD]->Prop) (fn:dh [bD]->Bool) (l:List TD) (aA:(anU.ct pr fn).pre (l,())):
 let z1:=λ(x:Nat)=>(x<=l.length/\∀(j:Nat),j < x->∀(t:TD),l[j]?=some t->fn (t,())=false);let z2:=eY (λt=>fn (t,())) l;(∃x,(z1 x)/\(cI 0=cI (x:Int)/\True)/\([]:List dP)=[])/\∀(x:Nat),(z1 x)->br (decide ((x:Int) < (l.length:Int))) ((0<=(x:Int)/\(x:Int) < (l.length:Int))/\∀(d:TD),l[(x:Int).toNat]?=some d->some Tryz.prog=some Tryz.prog/\pr (d,())/\br (fn (d,())) (qI z2 (x:Int)) (iR ((x:Int)+(1:Int))/\∃x',(z1 x')/\(cI ((x:Int)+(1:Int))=cI (x':Int)/\True)/\([]:List dP)=[]/\l.length - x' < l.length - x)) (qI z2 (-1:Int)):=by
 conv=>zeta
 delta dP iR;obtain⟨hl,hp⟩:l.length<=1000000/\∀t∈l,pr (t,()):=aA;refine⟨⟨0,⟨by omega,λj hj=>by omega⟩,⟨rfl,trivial⟩,rfl⟩,λk hk=>ah.2 ⟨λg=>?_,λg=>?_⟩⟩
 .simp only[dG]at g;refine⟨⟨by omega,by omega⟩,λd hd=>⟨rfl,hp d (gQ hd),ah.2 ⟨λg2=>⟨rfl,?_⟩,λg2=>⟨au.2 (by omega),k+1,⟨by omega,λj hj t ht=>?_⟩,⟨rfl,trivial⟩,rfl,by omega⟩⟩⟩⟩
  .have hd:l[k]?=some d:=hd;rw[VA (p:=λt=>fn (t,())) hd g2 hk.2]
  .by_cases e:j=k
   .subst e;have hd:l[j]?=some d:=hd;rw[hd]at ht;cases ht;exact g2
   .exact hk.2 j (by omega) t ht
 .simp only[A8]at g;refine⟨rfl,?_⟩;rw[VB (p:=λt=>fn (t,())) λj hj t ht=>hk.2 j (by omega) t ht]
theorem ais:afi Tryz.prog aK.gd 113 anU:=
 ale (cx:=aK) (n:=19) (cl:=[]) (ml:=mlN) (fl:=aqL) (rc:=[]) (by kernel_rfl) ay trivial trivial trivial Tryz.func113 (by kernel_rfl) (by kernel_rfl) (λ_ _=>rfl) (by kernel_rfl) (by kernel_rfl) λpr fn d hd=>by
  obtain⟨l,⟨⟩⟩:=d;exact aI (anV pr fn l) (air pr fn l hd) (by kernel_rfl)
theorem ait(c0 id fn pc:Int) (rg:List Int) (st ch ph su fa:Int) (he:List Int):
 qB (decide (id=c0)) (decide (id=c0)):=by
 exact⟨rfl,rfl⟩
theorem aiu:aad Tryz.prog aK.gd 114 aqK:=
 alg (cx:=aK) (n:=8) (cl:=[]) (rc:=[]) (by kernel_rfl) ay trivial Tryz.func114 (by kernel_rfl) (by kernel_rfl) rfl rfl (by kernel_rfl) (by kernel_rfl) λds d _ _=>by
  obtain⟨c0,⟨⟩⟩:=ds;obtain⟨⟨id,fn,pc,rg,st,ch,ph,su,fa,he,⟨⟩⟩,⟨⟩⟩:=d;exact aI (λ_=>none) (ait c0 id fn pc rg st ch ph su fa he) (by kernel_rfl)
abbrev xM:CT:={ ps:=[.sl bD,.int .i64],pre:=λd=>d.1.length<=1000000,res:=λd=>([],.gY [.c (.v (.int .i64 (dX (eY (λt=>decide (t.1=d.2.1)) d.1) 0))),.c (.v (.bool (decide (0<=eY (λt=>decide (t.1=d.2.1)) d.1))))]) }
abbrev asA:List (Nat×SF):=[(113,anU)]
abbrev asC:List (Nat×MK):=[(114,aqK)]
theorem anW(l:List TD) (id:Int) (aA:xM.pre (l,id,())):
 let z1:=[I6.pair (I6.pair (I6.pair ((Sh.arr 8 I6).pair (I6.pair (I6.pair (I6.pair (I6.pair (I6.pair (I6.sl.pair Sh.unit)))))))))];True/\some Tryz.prog=some Tryz.prog/\∃pre' g',(Ho.clo Tryz.prog z1 Sh.bool (λx=>True) λd=>decide (d.fst.fst=id))=Ho.clo Tryz.prog z1 Sh.bool pre' g'/\(l.length<=1000000/\∀(t:TD),t∈l->pre' (t,()))/\rT [cI (dX (eY (λt=>decide (t.fst=(l,id,()).snd.fst)) l) (0:Int)),cB (decide (0<=eY (λt=>decide (t.fst=(l,id,()).snd.fst)) l))] [cI (dX (eY (λt=>g' (t,())) l) (0:Int)),cB (decide (0<=eY (λt=>g' (t,())) l))]:=by
 conv=>zeta
 exact⟨trivial,rfl,λ_=>True,λd=>decide (d.1.1=id),rfl,⟨aA,λ_ _=>trivial⟩,rfl,rfl⟩
theorem Ee:aN aK.gd 52 xM:=
 afj (cx:=aK) (n:=14) (cl:=[]) (ml:=asC) (fl:=asA) (rc:=[]) (by kernel_rfl) ay trivial ⟨aiu,trivial⟩ ⟨ais,trivial⟩ Tryz.func52 (by kernel_rfl) (by kernel_rfl) rfl (by kernel_rfl) (by kernel_rfl) λd hd=>by
  obtain⟨l,id,⟨⟩⟩:=d;exact aI (λ_=>none) (anW l id hd) (by kernel_rfl)
abbrev aqM(l:List TD) (id:Int):Nat->Option (St->iE):=λk=>match k with
 | 2=>some λ_=>.inv { α:=Nat,slots:=λk=>[(6,.c (.v (.int .i64 k)))],res:=λ_=>[],inv:=λk=>k<=l.length/\∀j < k,∀t,l[j]?=some t->decide (t.1=id)=false,meas:=λk=>l.length - k }
 | _=>none
theorem anX(l:List TD) (id:Int) (aA:xM.pre (l,id,())):
 let z2:=λ(x:Nat)=>(x<=l.length/\∀(j:Nat),j < x->∀(t:TD),l[j]?=some t->decide (t.fst=id)=false);let z1:=[cI (dX (eY (λt=>decide (t.fst=(l,id,()).snd.fst)) l) (0:Int)),cB (decide (0<=eY (λt=>decide (t.fst=(l,id,()).snd.fst)) l))];(∃x,(z2 x)/\(cI 0=cI (x:Int)/\True)/\([]:List dP)=[])/\∀(x:Nat),(z2 x)->br (decide ((x:Int) < (l.length:Int))) ((0<=(x:Int)/\(x:Int) < (l.length:Int))/\∀(d:TD),l[(x:Int).toNat]?=some d->br (decide (d.fst=id)) (rT z1 [cI (x:Int),cB true]) (iR ((x:Int)+(1:Int))/\∃x',(z2 x')/\(cI ((x:Int)+(1:Int))=cI (x':Int)/\True)/\([]:List dP)=[]/\l.length - x' < l.length - x)) (rT z1 [cI 0,cB false]):=by
 conv=>zeta
 delta dP iR;have hl:l.length<=1000000:=aA;refine⟨⟨0,⟨by omega,λj hj=>by omega⟩,⟨rfl,trivial⟩,rfl⟩,λk hk=>ah.2 ⟨λg=>?_,λg=>?_⟩⟩
 .simp only[dG]at g;refine⟨⟨by omega,by omega⟩,λd hd=>ah.2 ⟨λg2=>⟨rfl,?_⟩,λg2=>⟨au.2 (by omega),k+1,⟨by omega,λj hj t ht=>?_⟩,⟨rfl,trivial⟩,rfl,by omega⟩⟩⟩
  .have hd:l[k]?=some d:=hd;rw[VA (p:=λt=>decide (t.1=id)) hd g2 hk.2,vg (by omega),show dX (k:Int) 0=k by unfold dX;split<;>omega]
  .by_cases e:j=k
   .subst e;have hd:l[j]?=some d:=hd;rw[hd]at ht;cases ht;exact g2
   .exact hk.2 j (by omega) t ht
 .simp only[A8]at g;refine⟨rfl,?_⟩;rw[VB (p:=λt=>decide (t.1=id)) λj hj t ht=>hk.2 j (by omega) t ht]
  rfl
theorem VE:aN aK.gd 43 xM:=
 jG (cx:=aK) (n:=21) (cl:=[]) ay trivial Tryz.func43 λd hd=>by
  obtain⟨l,id,⟨⟩⟩:=d;exact aI (aqM l id) (anX l id hd) (by kernel_rfl)
def VF(vs:List VD) (ms cs:List ByteArray) (fs:List FD) (ts:List SD) (bound:Int) (l:List TD):Prop:=(∀t∈l,bQ (aB vs ms cs fs ts).1 bound=0/\rD ms fs bound t)/\qU l
open Classical in
def LU(vs:List VD) (ms cs:List ByteArray) (fs:List FD) (ts:List SD) (bound:Int) (l:List TD):Bool:=decide (VF vs ms cs fs ts bound l)
theorem GZ{vs:List VD}:LU vs ms cs fs ts bound l=true↔VF vs ms cs fs ts bound l:=by
 unfold LU;exact @X8 _ (Classical.propDecidable _)
theorem Tt{vs:List VD} (h:¬VF vs ms cs fs ts bound l):LU vs ms cs fs ts bound l=false:=TJ.2 λq=>h (GZ.1 q)
theorem anY(vs:List VD) (ms cs:List ByteArray) (fs:List FD) (ts:List SD) (bound:Int) (aA:uN.pre ((vs,ms,cs,fs,ts,()),bound,())):
 let z2:=aB vs ms cs fs ts;let z1:=bQ z2.fst bound;(bnd ((vs,ms,cs,fs,ts,()),()))/\br (!decide (z2.fst=0)) (qI z1 (z2.fst)) (br (decide (bound < 1) || decide (32 < bound)) (qI z1 (2:Int)) (qI z1 (0:Int))):=by
 conv=>zeta
 have hb:bnd ((vs,ms,cs,fs,ts,()),()):=aA;refine⟨hb,ah.2 ⟨λh=>?_,λh=>ah.2 ⟨λh2=>?_,λh2=>?_⟩⟩⟩
 .have h:(aB vs ms cs fs ts).1≠0:=by simpa using h
  have e:bQ (aB vs ms cs fs ts).1 bound=(aB vs ms cs fs ts).1:=by unfold bQ;rw[if_pos h]
  rw[e];exact⟨rfl,rfl⟩
 all_goals have h:¬(aB vs ms cs fs ts).1≠0:=by simpa using h
 .have h2:bound < 1\/32 < bound:=by simpa using h2
  have e:bQ (aB vs ms cs fs ts).1 bound=2:=by unfold bQ;rw[if_neg h,if_pos h2]
  rw[e];exact⟨rfl,rfl⟩
 .have h2:¬(bound < 1\/32 < bound):=by simp only[lM,A8]at h2;omega
  have e:bQ (aB vs ms cs fs ts).1 bound=0:=by unfold bQ;rw[if_neg h,if_neg h2]
  rw[e];exact⟨rfl,rfl⟩
theorem VG:aN aK.gd 32 uN:=
 bV (cx:=aK) (n:=23) (cl:=[(74,Jd)]) (rc:=[]) ay ⟨DZ,trivial⟩ Tryz.func32 λd hd=>by
  obtain⟨⟨vs,ms,cs,fs,ts,⟨⟩⟩,bound,⟨⟩⟩:=d;exact aI (λ_=>none) (anY vs ms cs fs ts bound hd) (by kernel_rfl)
theorem anZ(vs:List VD) (ms cs:List ByteArray) (fs:List FD) (ts:List SD) (bound:Int) (aA:uN.pre ((vs,ms,cs,fs,ts,()),bound,())):
 let z2:=aB vs ms cs fs ts;let z1:=bQ z2.fst bound;(bnd ((vs,ms,cs,fs,ts,()),()))/\br (!decide (z2.fst=0)) (qI z1 (z2.fst)) (br (decide (bound < 1) || decide (32 < bound)) (qI z1 (2:Int)) (qI z1 (0:Int))):=by
 conv=>zeta
 have hb:bnd ((vs,ms,cs,fs,ts,()),()):=aA;refine⟨hb,ah.2 ⟨λh=>?_,λh=>ah.2 ⟨λh2=>?_,λh2=>?_⟩⟩⟩
 .have h:(aB vs ms cs fs ts).1≠0:=by simpa using h
  have e:bQ (aB vs ms cs fs ts).1 bound=(aB vs ms cs fs ts).1:=by unfold bQ;rw[if_pos h]
  rw[e];exact⟨rfl,rfl⟩
 all_goals have h:¬(aB vs ms cs fs ts).1≠0:=by simpa using h
 .have h2:bound < 1\/32 < bound:=by simpa using h2
  have e:bQ (aB vs ms cs fs ts).1 bound=2:=by unfold bQ;rw[if_neg h,if_pos h2]
  rw[e];exact⟨rfl,rfl⟩
 .have h2:¬(bound < 1\/32 < bound):=by simp only[lM,A8]at h2;omega
  have e:bQ (aB vs ms cs fs ts).1 bound=0:=by unfold bQ;rw[if_neg h,if_neg h2]
  rw[e];exact⟨rfl,rfl⟩
theorem aiv:aN aK.gd 26 uN:=
 bV (cx:=aK) (n:=23) (cl:=[(66,Gn)]) (rc:=[]) ay ⟨Lc,trivial⟩ Tryz.func26 λd hd=>by
  obtain⟨⟨vs,ms,cs,fs,ts,⟨⟩⟩,bound,⟨⟩⟩:=d;exact aI (λ_=>none) (anZ vs ms cs fs ts bound hd) (by kernel_rfl)
abbrev LV:CT:={ ps:=[oQ,.int .i64,LQ],pre:=λd=>bnd (d.1,())/\iO d.2.2.1.1/\aZ d.2.2.1.2.1,res:=λd=>([],vB (vsB d.1.1 d.1.2.1 d.1.2.2.1 d.1.2.2.2.1 d.1.2.2.2.2.1 d.2.1 d.2.2.1.1 d.2.2.1.2.1 d.2.2.1.2.2.1)) }
abbrev aqN(vs:List VD) (ms cs:List ByteArray) (fs:List FD) (ts:List SD) (bound:Int) (th:List TD) (mv mo:List Int) (mq:List (List Int)) (mg:List Int) (bf:List BD):Nat->Option (St->iE):=λk=>match k with
 | 4=>some λ_=>.inv { α:=Nat,slots:=λk=>[(23,.c (.v (.int .i64 k)))],res:=λk=>[],inv:=λk=>k<=(th).length/\(∀j < k,∀t,th[j]?=some t->bQ (aB vs ms cs fs ts).1 bound=0/\rD ms fs bound t)/\∀j,j+1 < k->∀a b,th[j]?=some a->th[j+1]?=some b->a.1 < b.1,meas:=λk=>(th).length - k }
 | _=>none
theorem an0(vs:List VD) (ms cs:List ByteArray) (fs:List FD) (ts:List SD) (bound:Int) (th:List TD) (mv mo:List Int) (mq:List (List Int)) (mg:List Int) (bf:List BD) (aA:LV.pre ((vs,ms,cs,fs,ts,()),bound,(th,(mv,mo,mq,mg,()),bf,()),())):
 let z7:=bnd ((vs,ms,cs,fs,ts,()),());let z8:=(mv,mo,mq,mg,());let z6:=vsB vs ms cs fs ts bound th z8 bf;let z5:=qB z6 false;let z1:=λ(x:Nat)=>(x<=th.length/\(∀(j:Nat),j < x->∀(t:TD),th[j]?=some t->bQ (aB vs ms cs fs ts).fst bound=0/\rD ms fs bound t)/\∀(j:Nat),j+1 < x->∀(a b:TD),th[j]?=some a->th[j+1]?=some b->a.fst < b.fst);let z2:=[g0 (aj.blk 27 [SC.sl Gj vs,SC.sl Sh.str ms,SC.sl Sh.str cs,SC.sl CY fs,SC.sl mO ts]),g0 (aj.blk 37 [SC.sl bD th,SC.sl I6 mv,SC.sl I6 mo,SC.sl I6.sl mq,SC.sl I6 mg,SC.sl yQ bf])];let z4:=λ(d:TD)=>decide (bQ (aB vs ms cs fs ts).fst bound=0) && nD ms fs bound d;let z3:=λ(x:Nat) (d:TD)=>decide (0 < (x:Int)) && !!(z4 d);(z7/\aZ z8)/\br (!jM (vs,ms,cs,fs,ts,()) z8 || decide (0 < (bf.length:Int))) z5 ((∃x,(z1 x)/\(cI 0=cI (x:Int)/\True)/\sm z2)/\∀(x:Nat),(z1 x)->br (decide ((x:Int) < (th.length:Int))) ((0<=(x:Int)/\(x:Int) < (th.length:Int))/\∀(d:TD),th[(x:Int).toNat]?=some d->(z7/\List.length d.snd.snd.snd.snd.snd.snd.snd.snd.snd.fst<=1000000/\d.fst<=9223372036854775807/\List.length d.snd.snd.snd.fst=8)/\((z3 x d)=true->iR ((x:Int) - (1:Int)))/\((z3 x d)=true->0<=(x:Int) - (1:Int)/\(x:Int) - 1 < (th.length:Int))/\∀(dH:TD),((z3 x d)=true->th[((x:Int) - (1:Int)).toNat]?=some dH)->br (!(z4 d) || decide (0 < (x:Int)) && decide ((d).fst<=dH.fst)) z5 (iR ((x:Int)+(1:Int))/\∃x',(z1 x')/\(cI ((x:Int)+(1:Int))=cI (x':Int)/\True)/\sm z2/\th.length - x' < th.length - x)) (qB z6 true)):=by
 conv=>zeta
 delta iR;obtain⟨hb,hT,hM⟩:bnd ((vs,ms,cs,fs,ts,()),())/\iO th/\aZ (mv,mo,mq,mg,()):=aA;obtain⟨hl,hT⟩:=hT;have fF:¬VS vs ms cs fs ts bound th (mv,mo,mq,mg,()) bf->qB (vsB vs ms cs fs ts bound th (mv,mo,mq,mg,()) bf) false:=λq=>⟨rfl,by rw[XU q]⟩
 refine⟨⟨hb,hM⟩,ah.2 ⟨λh=>fF λq=>?_,λh=>⟨⟨0,⟨by omega,λj hj=>by omega,λj hj=>by omega⟩,⟨rfl,trivial⟩,rfl⟩,λk hk=>ah.2 ⟨λg=>?_,λg=>?_⟩⟩⟩⟩
 .obtain⟨q1,q2,q3,q4⟩:=q;rw[q1,q2]at h;simp at h
 .obtain⟨k1,k2,k3⟩:=hk;simp only[dG]at g;refine⟨⟨by omega,by omega⟩,λd hd=>⟨⟨hb,hT d (gQ hd)⟩,λ_=>au.2 (by omega),λq=>?_,λd1 hd1=>ah.2 ⟨λg2=>fF λq=>?_,λg2=>⟨au.2 (by omega),k+1,⟨by omega,λj hj t ht=>?_,λj hj a b ha hb=>?_⟩,⟨rfl,trivial⟩,rfl,by omega⟩⟩⟩⟩
  .rw[cZ,dG]at q;omega
  .have hd:th[k]?=some d:=hd;have q3:=q.2.2.1 d (gQ hd);rw[wX,Ep,cZ,dG,dG]at g2;have hv:(decide (bQ (aB vs ms cs fs ts).1 bound=0) && nD ms fs bound d)=true:=by rw[cZ,dG,jI];exact q3
   rcases g2 with g2 | ⟨g2,g3⟩
   .rw[hv]at g2;cases g2
   .have gg:(decide ((0:Int) < (k:Int)) && !!(decide (bQ (aB vs ms cs fs ts).1 bound=0) && nD ms fs bound d))=true:=by rw[hv,vg g2];rfl
    have h1:=hd1 gg;rw[show((k:Int) - 1).toNat=k - 1 by omega]at h1
    have:=adn q.2.2.2 h1 (by rw[show k - 1+1=k by omega];exact hd)
    omega
  .rw[lM,uP,cZ,dG,jI]at g2
   by_cases e:j=k
   .subst e;have hd:th[j]?=some d:=hd;rw[hd]at ht;cases ht;exact g2.1
   .exact k2 j (by omega) t ht
  .by_cases e:j+1=k
   .have hd:th[k]?=some d:=hd;rw[lM,uP]at g2;have hk0:(0:Int) < (k:Int):=by omega
    have gg:(decide ((0:Int) < (k:Int)) && !!(decide (bQ (aB vs ms cs fs ts).1 bound=0) && nD ms fs bound d))=true:=by rw[g2.1,vg hk0];rfl
    have h1:=hd1 gg;rw[show((k:Int) - 1).toNat=j by omega,ha]at h1
    cases h1;rw[e,hd]at hb;cases hb;have g3:=g2.2;rw[Yd,A8,A8]at g3;omega
   .exact k3 j (by omega) a b ha hb
 .obtain⟨k1,k2,k3⟩:=hk;simp only[A8]at g;have all:∀t∈th,bQ (aB vs ms cs fs ts).1 bound=0/\rD ms fs bound t:=λt ht=>by
   obtain⟨j,hj⟩:=yT ht;have:=(eX.1 hj).1;exact k2 j (by omega) t hj
  have up:qU th:=Tn λj a b ha hb=>by
   have:=(eX.1 hb).1;exact k3 j (by omega) a b ha hb
  rw[lM,uP,A8]at h;have e:bf=[]:=List.length_eq_zero_iff.1 (by omega)
  exact⟨rfl,by rw[jR.2 ⟨h.1,e,all,up⟩]⟩
theorem LW:aN aK.gd 40 LV:=
 bV (cx:=aK) (n:=50) (cl:=[(84,XO),(85,ahk)]) (rc:=[]) ay ⟨aib,Ve,trivial⟩ Tryz.func40 λd hd=>by
  obtain⟨⟨vs,ms,cs,fs,ts,⟨⟩⟩,bound,⟨th,⟨mv,mo,mq,mg,⟨⟩⟩,bf,⟨⟩⟩,⟨⟩⟩:=d;exact aI (aqN vs ms cs fs ts bound th mv mo mq mg bf) (an0 vs ms cs fs ts bound th mv mo mq mg bf hd) (by kernel_rfl)
abbrev ado:CT:={ ps:=[oQ,.int .i64,.sl bD],pre:=λd=>bnd (d.1,())/\iO d.2.2.1,res:=λd=>([],vB (LU d.1.1 d.1.2.1 d.1.2.2.1 d.1.2.2.2.1 d.1.2.2.2.2.1 d.2.1 d.2.2.1)) }
abbrev aqO(vs:List VD) (ms cs:List ByteArray) (fs:List FD) (ts:List SD) (bound:Int) (th:List TD):Nat->Option (St->iE):=λk=>match k with
 | 2=>some λ_=>.inv { α:=Nat,slots:=λk=>[(7,.c (.v (.int .i64 k)))],res:=λk=>[],inv:=λk=>k<=(th).length/\(∀j < k,∀t,th[j]?=some t->bQ (aB vs ms cs fs ts).1 bound=0/\rD ms fs bound t)/\∀j,j+1 < k->∀a b,th[j]?=some a->th[j+1]?=some b->a.1 < b.1,meas:=λk=>(th).length - k }
 | _=>none
theorem an1(vs:List VD) (ms cs:List ByteArray) (fs:List FD) (ts:List SD) (bound:Int) (th:List TD) (aA:ado.pre ((vs,ms,cs,fs,ts,()),bound,th,())):
 let z1:=λ(x:Nat)=>(x<=th.length/\(∀(j:Nat),j < x->∀(t:TD),th[j]?=some t->bQ (aB vs ms cs fs ts).fst bound=0/\rD ms fs bound t)/\∀(j:Nat),j+1 < x->∀(a b:TD),th[j]?=some a->th[j+1]?=some b->a.fst < b.fst);let z3:=[g0 (aj.blk 27 [SC.sl Gj vs,SC.sl Sh.str ms,SC.sl Sh.str cs,SC.sl CY fs,SC.sl mO ts])];let z4:=λ(d:TD)=>decide (bQ (aB vs ms cs fs ts).fst bound=0) && nD ms fs bound d;let z2:=λ(x:Nat) (d:TD)=>decide (0 < (x:Int)) && !!(z4 d);let z5:=LU vs ms cs fs ts bound th;(∃x,(z1 x)/\(cI 0=cI (x:Int)/\True)/\sm z3)/\∀(x:Nat),(z1 x)->br (decide ((x:Int) < (th.length:Int))) ((0<=(x:Int)/\(x:Int) < (th.length:Int))/\∀(d:TD),th[(x:Int).toNat]?=some d->((bnd ((vs,ms,cs,fs,ts,()),()))/\List.length d.snd.snd.snd.snd.snd.snd.snd.snd.snd.fst<=1000000/\d.fst<=9223372036854775807/\List.length d.snd.snd.snd.fst=8)/\((z2 x d)=true->iR ((x:Int) - (1:Int)))/\((z2 x d)=true->0<=(x:Int) - (1:Int)/\(x:Int) - 1 < (th.length:Int))/\∀(dH:TD),((z2 x d)=true->th[((x:Int) - (1:Int)).toNat]?=some dH)->((z2 x d)=true->0<=(x:Int)/\(x:Int) < (th.length:Int))/\∀(dN:TD),((z2 x d)=true->th[(x:Int).toNat]?=some dN)->br (!(z4 d) || decide (0 < (x:Int)) && decide (dN.fst<=dH.fst)) (qB z5 false) (iR ((x:Int)+(1:Int))/\∃x',(z1 x')/\(cI ((x:Int)+(1:Int))=cI (x':Int)/\True)/\sm z3/\th.length - x' < th.length - x)) (qB z5 true):=by
 conv=>zeta
 delta iR;obtain⟨hb,hl,hT⟩:bnd ((vs,ms,cs,fs,ts,()),())/\iO th:=aA;have fF:¬VF vs ms cs fs ts bound th->qB (LU vs ms cs fs ts bound th) false:=λq=>⟨rfl,by rw[Tt q]⟩
 refine⟨⟨0,⟨by omega,λj hj=>by omega,λj hj=>by omega⟩,⟨rfl,trivial⟩,rfl⟩,λk hk=>ah.2 ⟨λg=>?_,λg=>?_⟩⟩
 .obtain⟨k1,k2,k3⟩:=hk;simp only[dG]at g;refine⟨⟨by omega,by omega⟩,λd hd=>⟨⟨hb,hT d (gQ hd)⟩,λ_=>au.2 (by omega),λq=>?_,λd1 hd1=>⟨λ_=>⟨by omega,by omega⟩,λd2 hd2=>ah.2 ⟨λg2=>fF λq=>?_,λg2=>⟨au.2 (by omega),k+1,⟨by omega,λj hj t ht=>?_,λj hj a b ha hb=>?_⟩,⟨rfl,trivial⟩,rfl,by omega⟩⟩⟩⟩⟩
  .rw[cZ,dG]at q;omega
  .have hd:th[k]?=some d:=hd;have q3:=q.1 d (gQ hd);rw[wX,Ep,cZ,dG,dG]at g2;have hv:(decide (bQ (aB vs ms cs fs ts).1 bound=0) && nD ms fs bound d)=true:=by rw[cZ,dG,jI];exact q3
   rcases g2 with g2 | ⟨g2,g3⟩
   .rw[hv]at g2;cases g2
   .have gg:(decide ((0:Int) < (k:Int)) && !!(decide (bQ (aB vs ms cs fs ts).1 bound=0) && nD ms fs bound d))=true:=by rw[hv,vg g2];rfl
    have h1:=hd1 gg;have h2:th[k]?=some d2:=hd2 gg;rw[hd]at h2;cases h2;rw[show((k:Int) - 1).toNat=k - 1 by omega]at h1
    have:=adn q.2 h1 (by rw[show k - 1+1=k by omega];exact hd)
    omega
  .rw[lM,uP,cZ,dG,jI]at g2
   by_cases e:j=k
   .subst e;have hd:th[j]?=some d:=hd;rw[hd]at ht;cases ht;exact g2.1
   .exact k2 j (by omega) t ht
  .by_cases e:j+1=k
   .have hd:th[k]?=some d:=hd;rw[lM,uP]at g2;have hk0:(0:Int) < (k:Int):=by omega
    have gg:(decide ((0:Int) < (k:Int)) && !!(decide (bQ (aB vs ms cs fs ts).1 bound=0) && nD ms fs bound d))=true:=by rw[g2.1,vg hk0];rfl
    have h1:=hd1 gg;have h2:th[k]?=some d2:=hd2 gg;rw[hd]at h2;cases h2;rw[show((k:Int) - 1).toNat=j by omega,ha]at h1
    cases h1;rw[e,hd]at hb;cases hb;have g3:=g2.2;rw[Yd,A8,A8]at g3;omega
   .exact k3 j (by omega) a b ha hb
 .obtain⟨k1,k2,k3⟩:=hk;simp only[A8]at g;have all:∀t∈th,bQ (aB vs ms cs fs ts).1 bound=0/\rD ms fs bound t:=λt ht=>by
   obtain⟨j,hj⟩:=yT ht;have:=(eX.1 hj).1;exact k2 j (by omega) t hj
  have up:qU th:=Tn λj a b ha hb=>by
   have:=(eX.1 hb).1;exact k3 j (by omega) a b ha hb
  exact⟨rfl,by rw[GZ.2 ⟨all,up⟩]⟩
theorem aiw:aN aK.gd 68 ado:=
 bV (cx:=aK) (n:=40) (cl:=[(122,Vo)]) (rc:=[]) ay ⟨Pm,trivial⟩ Tryz.func68 λd hd=>by
  obtain⟨⟨vs,ms,cs,fs,ts,⟨⟩⟩,bound,th,⟨⟩⟩:=d;exact aI (aqO vs ms cs fs ts bound th) (an1 vs ms cs fs ts bound th hd) (by kernel_rfl)
theorem an2(vs:List VD) (ms cs:List ByteArray) (fs:List FD) (ts:List SD) (bound:Int) (th:List TD) (mv mo:List Int) (mq:List (List Int)) (mg:List Int) (bf:List BD) (aA:LV.pre ((vs,ms,cs,fs,ts,()),bound,(th,(mv,mo,mq,mg,()),bf,()),())):
 let z1:=bnd ((vs,ms,cs,fs,ts,()),());let z2:=(aB vs ms cs fs ts).fst=0;let z3:=(mv,mo,mq,mg,());z1/\(decide z2=true->z1/\iO th)/\((decide z2 && LU vs ms cs fs ts bound th)=true->z1/\aZ z3)/\qB (vsB vs ms cs fs ts bound th z3 bf) (decide z2 && LU vs ms cs fs ts bound th && jM (vs,ms,cs,fs,ts,()) z3 && decide ((bf.length:Int)=(0:Int))):=by
 conv=>zeta
 obtain⟨hb,hT,hM⟩:bnd ((vs,ms,cs,fs,ts,()),())/\iO th/\aZ (mv,mo,mq,mg,()):=aA;refine⟨hb,λ_=>⟨hb,hT⟩,λ_=>⟨hb,hM⟩,rfl,?_⟩
 have e:vsB vs ms cs fs ts bound th (mv,mo,mq,mg,()) bf=(decide ((aB vs ms cs fs ts).1=0) && LU vs ms cs fs ts bound th && jM (vs,ms,cs,fs,ts,()) (mv,mo,mq,mg,()) && decide ((bf.length:Int)=0)):=by
  rw[Et,jR];simp only[cZ,dG,GZ];have e0:(bf.length:Int)=0↔bf=[]:=by rw[<-List.length_eq_zero_iff];omega
  rw[e0];constructor
  .rintro⟨h1,h2,h3,h4⟩;refine⟨⟨⟨?_,h3,h4⟩,h1⟩,h2⟩;unfold jM at h1;simp only[cZ,dG]at h1;exact h1.1.1.1.1
  .rintro⟨⟨⟨_,h3⟩,h1⟩,h2⟩;exact⟨h1,h2,h3.1,h3.2⟩
 rw[e]
theorem VH:aN aK.gd 28 LV:=
 bV (cx:=aK) (n:=28) (cl:=[(67,Ld),(68,ado),(69,XO)]) (rc:=[]) ay ⟨Vy,aiw,aic,trivial⟩ Tryz.func28 λd hd=>by
  obtain⟨⟨vs,ms,cs,fs,ts,⟨⟩⟩,bound,⟨th,⟨mv,mo,mq,mg,⟨⟩⟩,bf,⟨⟩⟩,⟨⟩⟩:=d;exact aI (λ_=>none) (an2 vs ms cs fs ts bound th mv mo mq mg bf hd) (by kernel_rfl)
theorem kG{a b:ED} (h:a=b):qE a b:=⟨rfl,by rw[h]⟩
theorem aqP{a b:Int} (h:a=b):qI a b:=⟨rfl,by rw[h]⟩
theorem jS{a b:Bool} (h:a=b):qB a b:=⟨rfl,by rw[h]⟩
theorem Tv{rg:List Int}{b d:Int} (h:rg[b.toNat]?=some d):rg.getD b.toNat 0=d:=by rw[Il,h];rfl
theorem mJ(h:0<=eY p l):∃(k:Nat) (t:TD),eY p l=k/\l[k]?=some t/\l.find? p=some t/\k < l.length:=by
 unfold eY at h ⊢
 cases e:l.findIdx? p with
 | none=>rw[e]at h;exact absurd h (by decide)
 | some k=>
   obtain⟨h1,h2,h3⟩:=A55.1 e;refine⟨k,l[k],rfl,mP h1,?_,h1⟩;rw[List.find?_eq_some_iff_getElem];exact⟨h2,k,h1,rfl,λj hj=>by have:=h3 j hj;simpa using this⟩
theorem nY(h:¬0<=eY p l):l.find? p=none:=by
 unfold eY at h;cases e:l.findIdx? p with
 | some k=>rw[e]at h;exact absurd (Int.natCast_nonneg k) h
 | none=>
   rw[A76]at e;rw[Ye];intro x hx;rw[e x hx];simp
def an3(v rb rc op o:Int):ED->ED
 | (ag,ix,_,eo,mx,en,_,_,wr,_)=>if op=8 then(ag,ix,1,eo,mx,en,o,v,wr,()) else if op=14 then(ag,ix,8,eo,mx,en,o,v,wr,()) else if op=9 then(ag,ix,2,eo,mx,en,o,0,rb,())
   else if op=10 then(ag,ix,5,eo,mx,en,o,v,rb,()) else if op=11 then(ag,ix,5,eo,mx,en,o,v,(dQ 1 v rb).1,()) else if v=rb then(ag,ix,5,eo,mx,en,o,v,rc,()) else(ag,ix,6,eo,mx,en,o,v,wr,())
def wtS(ph n:Int):ED->ED
 | (ag,ix,_,eo,mx,en,lQ,rd,wr,_)=>if ph=0 then(ag,ix,12,eo,n,en,lQ,rd,wr,()) else if ph=1 then(ag,ix,13,eo,mx,en,lQ,rd,wr,()) else(ag,ix,9,n,mx,en,lQ,rd,wr,())
def kQ(m:MD) (t:TD) (i:ID):Prop:=
 (aZ m/\dI m=true/\tB t)/\(0<=i.2.2.1/\i.2.2.1 < 8)/\(0<=i.2.2.2.1/\i.2.2.2.1 < 8)/\(8<=i.1/\i.1<=22) /\
 (i.1<=14/\i.1≠13->0<=i.2.2.2.2.1/\i.2.2.2.2.1 < (m.1.length:Int))/\(18<=i.1/\i.1<=20->0<=i.2.2.2.2.1/\i.2.2.2.2.1 < (m.2.2.1.length:Int)) /\
 (i.1=13\/15<=i.1->i.2.2.2.2.2.2.2.1=0)
theorem VI{x:Int} (h:dI m=true) (h1:0<=x/\x < (m.1.length:Int)):(xK m x).1=m.1[x.toNat]?.getD 0:=by
 unfold xK;rw[if_pos (fP.2 ⟨h,h1⟩)]
abbrev G5:CT:={ ps:=[.bool],pre:=λd=>True,res:=λd=>([],.one (.c (.v (.int .i64 (AL d.1))))) }
theorem an4(b:Bool):
 br b (qI (AL b) (1:Int)) (qI (AL b) (0:Int)):=by
 unfold AL;cases b<;>exact ah.2 ⟨λh=>⟨rfl,by simp_all⟩,λh=>⟨rfl,by simp_all⟩⟩
theorem aix:aN aK.gd 86 G5:=
 jG (cx:=aK) (n:=4) (cl:=[]) ay trivial Tryz.func86 λd hd=>by
  obtain⟨b,⟨⟩⟩:=d;exact aI (λ_=>none) (an4 b) (by kernel_rfl)
abbrev adp:CT:={ ps:=[LQ,bD,jT,shE],pre:=λd=>aZ d.1.2.1/\d.2.1.2.2.2.1.length=8/\(0<=d.2.2.1.2.2.1/\d.2.2.1.2.2.1 < 8)/\(0<=d.2.2.1.2.2.2.1/\d.2.2.1.2.2.2.1 < 8),res:=λd=>([],.one (Ce (an3 (xK d.1.2.1 d.2.2.1.2.2.2.2.1).1 (d.2.1.2.2.2.1.getD d.2.2.1.2.2.1.toNat 0) (d.2.1.2.2.2.1.getD d.2.2.1.2.2.2.1.toNat 0) d.2.2.1.1 d.2.2.1.2.2.2.2.2.2.2.1 d.2.2.2.1))) }
theorem an5(th:List TD) (mv mo:List Int) (mq:List (List Int)) (mg:List Int) (bf:List BD) (id fn pc:Int) (rg:List Int) (st ch ph su fa:Int) (he:List Int) (op a b c obj n fo ord ag ix kd eo mx en lQ rd wr:Int) (aA:adp.pre ((th,(mv,mo,mq,mg,()),bf,()),(id,fn,pc,rg,st,ch,ph,su,fa,he,()),(op,a,b,c,obj,n,fo,ord,()),(ag,ix,kd,eo,mx,en,lQ,rd,wr,()),())):
 let z2:=xK (mv,mo,mq,mg,()) obj;let z1:=an3 z2.fst (rg.getD b.toNat (0:Int)) (rg.getD c.toNat (0:Int)) op ord (ag,ix,kd,eo,mx,en,lQ,rd,wr,());aZ (mv,mo,mq,mg,())/\br (decide (op=8)) (qE z1 (ag,ix,1,eo,mx,en,ord,z2.fst,wr,())) (br (decide (op=14)) (qE z1 (ag,ix,8,eo,mx,en,ord,z2.fst,wr,())) (br (decide (op=9)) ((0<=b/\b < 8)/\b.toNat < 8/\∀(d:Int),rg[b.toNat]?=some d->qE z1 (ag,ix,2,eo,mx,en,ord,0,d,())) (br (decide (op=10)) ((0<=b/\b < 8)/\b.toNat < 8/\∀(d:Int),rg[b.toNat]?=some d->qE z1 (ag,ix,5,eo,mx,en,ord,z2.fst,d,())) (br (decide (op=11)) ((0<=b/\b < 8)/\b.toNat < 8/\∀(d:Int),rg[b.toNat]?=some d->True/\qE z1 (ag,ix,5,eo,mx,en,ord,z2.fst,aH (aH (z2.fst,d,()).fst+aH d),())) ((0<=b/\b < 8)/\b.toNat < 8/\∀(d:Int),rg[b.toNat]?=some d->br (decide (z2.fst=d)) ((0<=c/\c < 8)/\c.toNat < 8/\∀(d:Int),rg[c.toNat]?=some d->qE z1 (ag,ix,5,eo,mx,en,ord,z2.fst,d,())) (qE z1 (ag,ix,6,eo,mx,en,ord,z2.fst,wr,()))))))):=by
 conv=>zeta
 obtain⟨hM,h8,hb,hc⟩:aZ (mv,mo,mq,mg,())/\rg.length=8/\(0<=b/\b < 8)/\(0<=c/\c < 8):=aA;have hb8:b.toNat < 8:=by omega
 have hc8:c.toNat < 8:=by omega
 refine⟨hM,aJ.2 ⟨λe=>kG ?_,λn1=>aJ.2 ⟨λe=>kG ?_,λn2=>aJ.2 ⟨λe=>⟨hb,hb8,λd hd=>kG ?_⟩,λn3=>aJ.2 ⟨λe=>⟨hb,hb8,λd hd=>kG ?_⟩,λn4=>aJ.2 ⟨λe=>⟨hb,hb8,λd hd=>⟨trivial,kG ?_⟩⟩,λn5=>⟨hb,hb8,λd hd=>aJ.2 ⟨λe=>⟨hc,hc8,λd2 hd2=>kG ?_⟩,λe=>kG ?_⟩⟩⟩⟩⟩⟩⟩⟩
 .subst e;rfl
 .subst e;rfl
 .subst e;rw[Tv hd];rfl
 .subst e;rw[Tv hd];rfl
 .subst e;rw[Tv hd];rfl
 .rw[Tv hd,Tv hd2];show(if op=8 then _ else _)=_
  rw[if_neg n1,if_neg n2,if_neg n3,if_neg n4,if_neg n5,if_pos e]
 .rw[Tv hd];show(if op=8 then _ else _)=_
  rw[if_neg n1,if_neg n2,if_neg n3,if_neg n4,if_neg n5,if_neg e]
theorem aiy:aN aK.gd 90 adp:=
 bV (cx:=aK) (n:=73) (cl:=[(96,ahU),(97,U4)]) (rc:=[]) ay ⟨Vq,Ll,trivial⟩ Tryz.func90 λd hd=>by
  obtain⟨⟨th,⟨mv,mo,mq,mg,⟨⟩⟩,bf,⟨⟩⟩,⟨id,fn,pc,rg,st,ch,ph,su,fa,he,⟨⟩⟩,⟨op,a,b,c,obj,n,fo,ord,⟨⟩⟩,⟨ag,ix,kd,eo,mx,en,lQ,rd,wr,⟨⟩⟩,⟨⟩⟩:=d;exact aI (λ_=>none) (an5 th mv mo mq mg bf id fn pc rg st ch ph su fa he op a b c obj n fo ord ag ix kd eo mx en lQ rd wr hd) (by kernel_rfl)
abbrev aj0:CT:={ ps:=[bD,jT,shE],pre:=λd=>True,res:=λd=>([],.one (Ce (wtS d.1.2.2.2.2.2.2.1 d.2.1.2.2.2.2.2.1 d.2.2.1))) }
theorem an6(id fn pc:Int) (rg:List Int) (st ch ph su fa:Int) (he:List Int) (op a b c obj n fo ord ag ix kd eo mx en lQ rd wr:Int):
 let z1:=wtS ph n (ag,ix,kd,eo,mx,en,lQ,rd,wr,());br (decide (ph=0)) (qE z1 (ag,ix,12,eo,n,en,lQ,rd,wr,())) (br (decide (ph=1)) (qE z1 (ag,ix,13,eo,mx,en,lQ,rd,wr,())) (qE z1 (ag,ix,9,n,mx,en,lQ,rd,wr,()))):=by
 conv=>zeta
 refine aJ.2 ⟨λe=>kG ?_,λn1=>aJ.2 ⟨λe=>kG ?_,λn2=>kG ?_⟩⟩
 .subst e;rfl
 .subst e;rfl
 .show(if ph=0 then _ else _)=_
  rw[if_neg n1,if_neg n2]
theorem aiz:aN aK.gd 88 aj0:=
 bV (cx:=aK) (n:=23) (cl:=[]) (rc:=[]) ay trivial Tryz.func88 λd hd=>by
  obtain⟨⟨id,fn,pc,rg,st,ch,ph,su,fa,he,⟨⟩⟩,⟨op,a,b,c,obj,n,fo,ord,⟨⟩⟩,⟨ag,ix,kd,eo,mx,en,lQ,rd,wr,⟨⟩⟩,⟨⟩⟩:=d;exact aI (λ_=>none) (an6 id fn pc rg st ch ph su fa he op a b c obj n fo ord ag ix kd eo mx en lQ rd wr) (by kernel_rfl)
abbrev G6:CT:={ ps:=[LQ,bD,jT],pre:=λd=>kQ d.1.2.1 d.2.1 d.2.2.1,res:=λd=>([],.one (Ce (labS d.1.2.1 d.2.1 d.2.2.1))) }
theorem an7(th:List TD) (mv mo:List Int) (mq:List (List Int)) (mg:List Int) (bf:List BD) (id fn pc:Int) (rg:List Int) (st ch ph su fa:Int) (he:List Int) (op a b c obj n fo ord:Int) (aA:G6.pre ((th,(mv,mo,mq,mg,()),bf,()),(id,fn,pc,rg,st,ch,ph,su,fa,he,()),(op,a,b,c,obj,n,fo,ord,()),())):
 let z4:=(mv,mo,mq,mg,());let z1:=labS z4 (id,fn,pc,rg,st,ch,ph,su,fa,he,()) (op,a,b,c,obj,n,fo,ord,());let z2:=(id,st,(0:Int),obj,(-1:Int),(-1:Int),(0:Int),(0:Int),(0:Int),());let z3:=0<=obj/\obj < (mq.length:Int);br (decide (op=13)) (qE z1 (id,st,7,obj,-1,-1,0,0,0,())) (br (decide (op=15)) (qE z1 (id,st,9,obj,-1,-1,0,0,0,())) (br (decide (op=16)) (qE z1 (id,st,10,obj,-1,-1,0,0,0,())) (br (decide (op=17)) (aZ z4/\True/\qE z1 (id,st,11,obj,-1,-1,0,AL (mX z4 obj),0,())) (br (decide (op=18)) (True/\qE z1 (wtS ph n z2)) (br (decide (op=19)) (z3/\∀(d:List Int),mq[obj.toNat]?=some d->qE z1 (id,st,14,obj,-1,-1,0,fV (1:Int) (d.length:Int),0,())) (br (decide (op=20)) (z3/\∀(d:List Int),mq[obj.toNat]?=some d->qE z1 (id,st,15,obj,-1,-1,0,(d.length:Int),0,())) (br (decide (op=21)) (id<=9223372036854775807/\qE z1 (id,st,16,(dB id ch).fst,-1,-1,0,0,0,())) (br (decide (op=22)) ((0<=b/\b < 8)/\b.toNat < 8/\∀(d:Int),rg[b.toNat]?=some d->qE z1 (id,st,17,d,-1,-1,0,0,0,())) ((aZ z4/\rg.length=8/\(0<=b/\b < 8)/\0<=c/\c < 8)/\qE z1 (an3 (xK z4 obj).fst (rg.getD b.toNat (0:Int)) (rg.getD c.toNat (0:Int)) op ord z2)))))))))):=by
 conv=>zeta
 obtain⟨⟨hM,hf,hT⟩,hb,hc,hv,ho1,ho2,ho3⟩:kQ (mv,mo,mq,mg,()) (id,fn,pc,rg,st,ch,ph,su,fa,he,()) (op,a,b,c,obj,n,fo,ord,()):=aA;obtain⟨t1,t2,t3⟩:he.length<=1000000/\id<=9223372036854775807/\rg.length=8:=hT;have hb:0<=b/\b < 8:=hb;have hc:0<=c/\c < 8:=hc;have hv:8<=op/\op<=22:=hv;have ho1:op<=14/\op≠13->0<=obj/\obj < (mv.length:Int):=ho1;have ho2:18<=op/\op<=20->0<=obj/\obj < (mq.length:Int):=ho2;have hb8:b.toNat < 8:=by omega
 refine aJ.2 ⟨λe=>kG ?_,λn1=>aJ.2 ⟨λe=>kG ?_,λn2=>aJ.2 ⟨λe=>kG ?_,λn3=>aJ.2 ⟨λe=>⟨hM,trivial,kG ?_⟩,λn4=>aJ.2 ⟨λe=>⟨trivial,kG ?_⟩,λn5=>aJ.2 ⟨λe=>⟨ho2 (by omega),λd hd=>kG ?_⟩,λn6=>aJ.2 ⟨λe=>⟨ho2 (by omega),λd hd=>kG ?_⟩,λn7=>aJ.2 ⟨λe=>⟨t2,kG ?_⟩,λn8=>aJ.2 ⟨λe=>⟨hb,hb8,λd hd=>kG ?_⟩,λn9=>⟨⟨hM,t3,hb,hc⟩,kG ?_⟩⟩⟩⟩⟩⟩⟩⟩⟩⟩
 .subst e;rfl
 .subst e;rfl
 .subst e;rfl
 .subst e;rfl
 .subst e;have e1:∀m t,labS m t (18,a,b,c,obj,n,fo,ord,())=if t.2.2.2.2.2.2.1=0 then(t.1,t.2.2.2.2.1,12,obj,n,-1,0,0,0,()) else if t.2.2.2.2.2.2.1=1 then(t.1,t.2.2.2.2.1,13,obj,-1,-1,0,0,0,()) else(t.1,t.2.2.2.2.1,9,n,-1,-1,0,0,0,()):=λ_ _=>rfl
  rw[e1];rfl
 .subst e;have e1:∀m t,labS m t (19,a,b,c,obj,n,fo,ord,())=(t.1,t.2.2.2.2.1,14,obj,-1,-1,0,fV 1 (m.2.2.1[obj.toNat]?.getD []).length,0,()):=λ_ _=>rfl
  rw[e1];show(_,_,_,_,_,_,_,fV 1 (mq[obj.toNat]?.getD []).length,_,_)=_;rw[hd];rfl
 .subst e;have e1:∀m t,labS m t (20,a,b,c,obj,n,fo,ord,())=(t.1,t.2.2.2.2.1,15,obj,-1,-1,0,((m.2.2.1[obj.toNat]?.getD []).length:Int),0,()):=λ_ _=>rfl
  rw[e1];show(_,_,_,_,_,_,_,(((mq[obj.toNat]?.getD []).length:Nat):Int),_,_)=_;rw[hd];rfl
 .subst e;rfl
 .subst e;have e1:∀m t,labS m t (22,a,b,c,obj,n,fo,ord,())=(t.1,t.2.2.2.2.1,17,t.2.2.2.1.getD b.toNat 0,-1,-1,0,0,0,()):=λ_ _=>rfl
  rw[e1];show(_,_,_,rg.getD b.toNat 0,_,_,_,_,_,_)=_;rw[Tv hd]
 .rw[VI hf (ho1 (by omega))]
  have:op=8\/op=9\/op=10\/op=11\/op=12\/op=14:=by omega
  rcases this with e | e | e | e | e | e<;>subst e<;>rfl
theorem VJ:aN aK.gd 42 G6:=
 bV (cx:=aK) (n:=91) (cl:=[(86,G5),(87,Px),(88,aj0),(89,U5),(90,adp)]) (rc:=[]) ay ⟨aix,Vr,aiz,U6,aiy,trivial⟩ Tryz.func42 λd hd=>by
  obtain⟨⟨th,⟨mv,mo,mq,mg,⟨⟩⟩,bf,⟨⟩⟩,⟨id,fn,pc,rg,st,ch,ph,su,fa,he,⟨⟩⟩,⟨op,a,b,c,obj,n,fo,ord,⟨⟩⟩,⟨⟩⟩:=d;exact aI (λ_=>none) (an7 th mv mo mq mg bf id fn pc rg st ch ph su fa he op a b c obj n fo ord hd) (by kernel_rfl)
abbrev VK:CT:={ ps:=[LQ,bD,jT],pre:=λd=>kQ d.1.2.1 d.2.1 d.2.2.1/\d.1.1.length<=1000000,res:=λd=>([],vB (Dp d.1.1 d.1.2.1 d.2.1 d.2.2.1)) }
theorem an8(th:List TD) (mv mo:List Int) (mq:List (List Int)) (mg:List Int) (bf:List BD) (id fn pc:Int) (rg:List Int) (st ch ph su fa:Int) (he:List Int) (op a b c obj n fo ord:Int) (aA:VK.pre ((th,(mv,mo,mq,mg,()),bf,()),(id,fn,pc,rg,st,ch,ph,su,fa,he,()),(op,a,b,c,obj,n,fo,ord,()),())):
 let z7:=(mv,mo,mq,mg,());let z3:=Dp th z7 (id,fn,pc,rg,st,ch,ph,su,fa,he,()) (op,a,b,c,obj,n,fo,ord,());let z2:=qB z3 true;let z5:=λ(d:Int)=>0<=eY (λt=>decide (t.fst=(th,d,()).snd.fst)) th;let z6:=λ(d:Int)=>eY (λt=>decide (t.fst=(th,d,()).snd.fst)) th;let z4:=λ(d:Int)=>dX (z6 d) (0:Int);let z1:=λ(dH:TD) (d:Int)=>!decide (dH.snd.snd.snd.snd.snd.snd.snd.fst=2) && decide (z5 d);br (decide (op=14)) (aZ z7/\(0<=b/\b < 8)/\b.toNat < 8/\∀(d:Int),rg[b.toNat]?=some d->True/\qB z3 (!decide ((dQ fo ((xK z7 obj).fst,d,()).fst d).fst=0))) (br (decide (op=15)) (aZ z7/\qB z3 (mX z7 obj)) (br (decide (op=18)) (br (decide (ph=1)) (mg.length<=4611686018427387904/\qB z3 (dM mg id)) (br (decide (ph=2)) (aZ z7/\qB z3 (mX z7 n)) z2)) (br (decide (op=22)) ((0<=b/\b < 8)/\b.toNat < 8/\∀(d:Int),rg[b.toNat]?=some d->th.length<=1000000/\(decide (z5 d)=true->0<=dX (z6 d) (0:Int)/\dX (z6 d) 0 < (th.length:Int))/\∀(dH:TD),(decide (z5 d)=true->th[(z4 d).toNat]?=some dH)->((z1 dH d)=true->0<=dX (z6 d) (0:Int)/\dX (z6 d) 0 < (th.length:Int))/\∀(dN:TD),((z1 dH d)=true->th[(z4 d).toNat]?=some dN)->qB z3 (decide (z5 d) && (decide (dH.snd.snd.snd.snd.snd.snd.snd.fst=2) || decide (dN.snd.snd.snd.snd.snd.snd.snd.fst=3)))) z2))):=by
 conv=>zeta
 obtain⟨⟨⟨hM,hf,hT⟩,hb,hc,hv,ho1,ho2,ho3⟩,hl⟩:kQ (mv,mo,mq,mg,()) (id,fn,pc,rg,st,ch,ph,su,fa,he,()) (op,a,b,c,obj,n,fo,ord,())/\th.length<=1000000:=aA;have hb:0<=b/\b < 8:=hb;have ho1:op<=14/\op≠13->0<=obj/\obj < (mv.length:Int):=ho1;have hb8:b.toNat < 8:=by omega
 have hg:mg.length<=4611686018427387904:=by have:mg.length<=1000:=hM.2.2.2.1;omega
 refine aJ.2 ⟨λe=>⟨hM,hb,hb8,λd hd=>⟨trivial,jS ?_⟩⟩,λn1=>aJ.2 ⟨λe=>⟨hM,jS ?_⟩,λn2=>aJ.2 ⟨λe=>aJ.2 ⟨λe2=>⟨hg,jS ?_⟩,λm1=>aJ.2 ⟨λe2=>⟨hM,jS ?_⟩,λm2=>jS ?_⟩⟩,λn3=>aJ.2 ⟨λe=>⟨hb,hb8,λd hd=>⟨hl,λq=>?_,λd1 h1=>⟨λq=>?_,λd2 h2=>jS ?_⟩⟩⟩,λn4=>jS ?_⟩⟩⟩⟩
 .subst e;have e1:∀l m t,Dp l m t (14,a,b,c,obj,n,fo,ord,())=decide ((dQ fo (m.1[obj.toNat]?.getD 0) (t.2.2.2.1.getD b.toNat 0)).1≠0):=λ_ _ _=>rfl
  rw[e1,<-decide_not];show decide ((dQ fo (mv[obj.toNat]?.getD 0) (rg.getD b.toNat 0)).1≠0)=_;rw[Tv hd,VI hf (ho1 (by omega))]
 .subst e;rfl
 .subst e;subst e2;rfl
 .subst e;subst e2;rfl
 .subst e;have e1:∀l m t,Dp l m t (18,a,b,c,obj,n,fo,ord,())=if t.2.2.2.2.2.2.1=1 then dM m.2.2.2.1 t.1 else if t.2.2.2.2.2.2.1=2 then mX m n else true:=λ_ _ _=>rfl
  rw[e1];show(if ph=1 then _ else _)=_
  rw[if_neg m1,if_neg m2]
 .obtain⟨k,t,q1,q2,q3,q4⟩:=mJ (MI q);rw[q1];unfold dX;split<;>omega
 .rw[cZ]at q;obtain⟨k,t,q1,q2,q3,q4⟩:=mJ (MI q.2);rw[q1];unfold dX;split<;>omega
 .subst e;have e1:∀l m t,Dp l m t (22,a,b,c,obj,n,fo,ord,())=(match wZ l (t.2.2.2.1.getD b.toNat 0) with
   | some u=>decide (u.2.2.2.2.2.2.2.1=2) || decide (u.2.2.2.2.2.2.2.1=3)
   | none=>false):=λ_ _ _=>rfl
  rw[e1];show(match wZ th (rg.getD b.toNat 0) with
   | some u=>decide (u.2.2.2.2.2.2.2.1=2) || decide (u.2.2.2.2.2.2.2.1=3)
   | none=>false)=_
  rw[Tv hd];unfold wZ
  by_cases q:0<=eY (λt=>decide (t.1=d)) th
  .obtain⟨k,t,q1,q2,q3,q4⟩:=mJ q;have h1:=h1 (vg q);have ek:(dX (eY (λt=>decide (t.1=d)) th) 0).toNat=k:=by rw[q1];unfold dX;split<;>omega
   rw[ek,q2]at h1;have eq1:t=d1:=Io h1;subst eq1;rw[q3,vg q,Hl]
   by_cases s2:t.2.2.2.2.2.2.2.1=2
   .simp[s2]
   .have h2:=h2 (by rw[yS s2,vg q];rfl)
    rw[ek,q2]at h2;have eq2:t=d2:=Io h2;subst eq2;simp[s2]
  .rw[nY q,yS q];rfl
 .show Dp th _ _ _=_;unfold Dp;rw[if_neg n1,if_neg n2,if_neg n3,if_neg n4]
theorem VL:aN aK.gd 46 VK:=
 bV (cx:=aK) (n:=97) (cl:=[(96,ahU),(87,Px),(97,U4),(52,xM),(98,Gh)]) (rc:=[]) ay ⟨Vq,Vr,Ll,Ee,Aa,trivial⟩ Tryz.func46 λd hd=>by
  obtain⟨⟨th,⟨mv,mo,mq,mg,⟨⟩⟩,bf,⟨⟩⟩,⟨id,fn,pc,rg,st,ch,ph,su,fa,he,⟨⟩⟩,⟨op,a,b,c,obj,n,fo,ord,⟨⟩⟩,⟨⟩⟩:=d;exact aI (λ_=>none) (an8 th mv mo mq mg bf id fn pc rg st ch ph su fa he op a b c obj n fo ord hd) (by kernel_rfl)
def zI:ID:=(0,0,0,0,0,0,0,0,())
def jv(e:Int) (ms:List ByteArray) (fs:List FD) (l:List TD) (id:Int):TD×ID×Bool:=match wZ l id with
 | some t=>(t,(iM e ms fs t).1,(iM e ms fs t).2)
 | none=>(zT,zI,false)
def Tz(e:Int) (ms:List ByteArray) (fs:List FD) (l:List TD) (m:MD) (t:TD):Bool:=(iM e ms fs t).2 && Dp l m t (iM e ms fs t).1
def sV(e:Int) (ms:List ByteArray) (fs:List FD) (l:List TD) (m:MD):List TD->List Int:=λl'=>(l'.filter (Tz e ms fs l m)).map (·.1)
def sW(vs:List VD) (ms cs:List ByteArray) (fs:List FD) (ts:List SD) (l:List TD) (m:MD) (bf:List BD):List Int:=if vsB vs ms cs fs ts 32 l m bf=true then sV (aB vs ms cs fs ts).1 ms fs l m l else[]
theorem wo{e:Int}{l0:List TD}{d:TD} (h:l[k]?=some d):sV e ms fs l0 m (l.take (k+1))=sV e ms fs l0 m (l.take k)++if Tz e ms fs l0 m d=true then[d.1] else[]:=by
 unfold sV;rw[Hf,h,Wh,Qj]
 congr 1
 by_cases q:Tz e ms fs l0 m d=true
 .simp[q]
 .simp[q]
theorem adq{i:ID} (h:sQ i=0) (hu:use i.1 6=false):i.2.2.2.2.2.2.2.1=0:=by
 unfold sQ pY at h
 repeat' split at h
 all_goals first | (simp at h;done) | skip
 rename_i h1 h2 h3 h4 h5 h6;rw[hu]at h2;simp only[wX,cZ,MQ]at h2
 by_cases q:i.2.2.2.2.2.2.2.1=0
 .exact q
 .exact absurd (.inr ⟨rfl,q⟩) h2
theorem PN{e:Int}{t:TD} (h:(iM e ms fs t).2=true):e=0/\t.2.2.2.2.2.2.2.1=1/\rD ms fs 32 t/\lS fs t.2.1 t.2.2.1=some (iM e ms fs t).1:=by
 unfold iM at h ⊢
 split at h
 .rename_i q;rw[if_pos q];refine⟨q.1,q.2.1,q.2.2,?_⟩;unfold atR at h ⊢
  cases ha:lS fs t.2.1 t.2.2.1 with
  | none=>rw[ha]at h;cases h
  | some i=>rfl
 .cases h
theorem wW{p:PD} (h:jM p m=true):(aB p.1 p.2.1 p.2.2.1 p.2.2.2.1 p.2.2.2.2.1).1=0/\dI m=true/\m.1.length=p.1.length/\m.2.1.length=p.2.1.length/\m.2.2.1.length=p.2.2.1.length:=by
 unfold jM at h;simp only[cZ,dG]at h;exact⟨h.1.1.1.1,h.1.1.1.2,h.1.1.2,h.1.2,h.2⟩
theorem Ef{vs:List VD}{t:TD} (hv:jM (vs,ms,cs,fs,ts,()) m=true) (hM:aZ m) (hT:tB t) (h:(iM (aB vs ms cs fs ts).1 ms fs t).2=true):
 kQ m t (iM (aB vs ms cs fs ts).1 ms fs t).1:=by
 obtain⟨e0,h1,h2,h3⟩:=PN h;obtain⟨_,f,l1,l2,l3⟩:=wW hv;have l1:m.1.length=vs.length:=l1;have l3:m.2.2.1.length=cs.length:=l3;generalize (iM (aB vs ms cs fs ts).1 ms fs t).1=i at h3;obtain⟨_,_,j,hj,vj,_⟩:=yK h2 h1;rw[h3]at hj;cases hj;have hf:=(BR (qj h2)).1;obtain⟨k1,k2,k3,k4⟩:=nH (xI e0 hf h3);obtain⟨r1,r2,r3,r4⟩:=kP k1;have vj:8<=i.1/\i.1<=22:=by unfold jm at vj;simpa using vj
 refine⟨⟨hM,f,hT⟩,r2,r3,vj,λq=>?_,λq=>?_,λq=>?_⟩
 .have e1:qh vs ms cs fs i.1=vs.length:=by unfold qh;rw[if_pos (by omega)]
  rw[e1]at k2;rw[l1];exact k2 (by omega)
 .have e1:qh vs ms cs fs i.1=cs.length:=by unfold qh;rw[if_neg (by omega),if_neg (by omega),if_pos (by omega)]
  rw[e1]at k2;rw[l3];exact k2 (by omega)
 .refine adq k1 ?_;have:i.1=13\/i.1=15\/i.1=16\/i.1=17\/i.1=18\/i.1=19\/i.1=20\/i.1=21\/i.1=22:=by omega
  rcases this with e | e | e | e | e | e | e | e | e<;>rw[e]<;>rfl
abbrev VN:CT:={ ps:=[oQ,LQ,.int .i64],pre:=λd=>bnd (d.1,())/\iO d.2.1.1,res:=λd=>([],.gY [.dat bD (jv (aB d.1.1 d.1.2.1 d.1.2.2.1 d.1.2.2.2.1 d.1.2.2.2.2.1).1 d.1.2.1 d.1.2.2.2.1 d.2.1.1 d.2.2.1).1,agI ((jv (aB d.1.1 d.1.2.1 d.1.2.2.1 d.1.2.2.2.1 d.1.2.2.2.2.1).1 d.1.2.1 d.1.2.2.2.1 d.2.1.1 d.2.2.1).2.1),.c (.v (.bool ((jv (aB d.1.1 d.1.2.1 d.1.2.2.1 d.1.2.2.2.1 d.1.2.2.2.2.1).1 d.1.2.1 d.1.2.2.2.1 d.2.1.1 d.2.2.1).2.2)))]) }
theorem an9(vs:List VD) (ms cs:List ByteArray) (fs:List FD) (ts:List SD) (th:List TD) (mv mo:List Int) (mq:List (List Int)) (mg:List Int) (bf:List BD) (id:Int) (aA:VN.pre ((vs,ms,cs,fs,ts,()),(th,(mv,mo,mq,mg,()),bf,()),id,())):
 let z9:=aB vs ms cs fs ts;let z7:=jv z9.fst ms fs th id;let z2:=[SV.dat bD z7.fst,agI (z7.snd.fst),cB (z7.snd.snd)];let z8:=eY (λt=>decide (t.fst=id)) th;let z4:=0<=dX z8 (0:Int)/\dX z8 0 < (th.length:Int);let z6:=dX z8 (0:Int);let z3:=λ(d:TD)=>(bnd ((vs,ms,cs,fs,ts,()),()))/\List.length d.snd.snd.snd.snd.snd.snd.snd.snd.snd.fst<=1000000/\d.fst<=9223372036854775807/\List.length d.snd.snd.snd.fst=8;let z5:=λ(dH d:TD)=>[SV.dat bD (dH),agI ((iM z9.fst ms fs d).fst),cB ((iM z9.fst ms fs d).snd)];let z1:=λ(dH d:TD)=>rT z2 (z5 dH d);th.length<=1000000/\br (!decide (0<=eY (λt=>decide (t.fst=id)) th)) (rT z2 [SV.dat bD (((0:Int),(0:Int),(0:Int),P9,(0:Int),(0:Int),(0:Int),(0:Int),(0:Int),[],())),agI (0,0,0,0,0,0,0,0,()),cB false]) (z4/\∀(d:TD),th[z6.toNat]?=some d->((z3 d)/\z4/\∀(dH:TD),th[z6.toNat]?=some dH->(z1 dH d)/\rT z2 (z5 dH d))/\(z3 d)/\z4/\∀(dH:TD),th[z6.toNat]?=some dH->(z1 dH d)/\rT z2 (z5 dH d)):=by
 conv=>zeta
 delta P9;obtain⟨hb,hl,hT⟩:bnd ((vs,ms,cs,fs,ts,()),())/\iO th:=aA;refine⟨hl,ah.2 ⟨λh=>?_,λh=>?_⟩⟩
 .have q:¬0<=eY (λt=>decide (t.1=id)) th:=by simpa using h
  have e:jv (aB vs ms cs fs ts).1 ms fs th id=(zT,zI,false):=by unfold jv wZ;rw[nY q]
  rw[e];exact⟨rfl,rfl⟩
 .have q:0<=eY (λt=>decide (t.1=id)) th:=by simpa using h
  obtain⟨k,t,q1,q2,q3,q4⟩:=mJ q;have ek:(dX (eY (λt=>decide (t.1=id)) th) 0).toNat=k:=by rw[q1];unfold dX;split<;>omega
  have hx:0<=dX (eY (λt=>decide (t.1=id)) th) 0/\dX (eY (λt=>decide (t.1=id)) th) 0 < (th.length:Int):=by rw[q1];unfold dX;split<;>omega
  have e:jv (aB vs ms cs fs ts).1 ms fs th id=(t,(iM (aB vs ms cs fs ts).1 ms fs t).1,(iM (aB vs ms cs fs ts).1 ms fs t).2):=by unfold jv wZ;rw[q3]
  have key:∀d d1:TD,th[(dX (eY (λt=>decide (t.1=id)) th) 0).toNat]?=some d->th[(dX (eY (λt=>decide (t.1=id)) th) 0).toNat]?=some d1->rT [SV.dat bD (jv (aB vs ms cs fs ts).1 ms fs th id).1,agI (jv (aB vs ms cs fs ts).1 ms fs th id).2.1,cB (jv (aB vs ms cs fs ts).1 ms fs th id).2.2] [SV.dat bD d1,agI (iM (aB vs ms cs fs ts).1 ms fs d).1,cB (iM (aB vs ms cs fs ts).1 ms fs d).2]:=by
   intro d d1 h1 h2;rw[ek,q2]at h1 h2;have e1:t=d:=Io h1;have e2:t=d1:=Io h2;subst e1;subst e2;rw[e];exact⟨rfl,rfl⟩
  exact⟨hx,λd hd=>⟨⟨⟨hb,hT d (gQ hd)⟩,hx,λd1 h1=>⟨key d d1 hd h1,key d d1 hd h1⟩⟩,⟨hb,hT d (gQ hd)⟩,hx,λd1 h1=>⟨key d d1 hd h1,key d d1 hd h1⟩⟩⟩
theorem VO:aN aK.gd 41 VN:=
 bV (cx:=aK) (n:=40) (cl:=[(52,xM),(45,Vf)]) (rc:=[.data bD,.keep,.keep]) ay ⟨Ee,Vg,trivial⟩ Tryz.func41 λd hd=>by
  obtain⟨⟨vs,ms,cs,fs,ts,⟨⟩⟩,⟨th,⟨mv,mo,mq,mg,⟨⟩⟩,bf,⟨⟩⟩,id,⟨⟩⟩:=d;exact aI (λ_=>none) (an9 vs ms cs fs ts th mv mo mq mg bf id hd) (by kernel_rfl)
abbrev Cj:CT:={ ps:=[oQ,LQ],pre:=λd=>bnd (d.1,())/\iO d.2.1.1/\aZ d.2.1.2.1,res:=λd=>([],.one (.c (.sl (.int .i64) (sW d.1.1 d.1.2.1 d.1.2.2.1 d.1.2.2.2.1 d.1.2.2.2.2.1 d.2.1.1 d.2.1.2.1 d.2.1.2.2.1)))) }
abbrev aqQ(vs:List VD) (ms cs:List ByteArray) (fs:List FD) (ts:List SD) (th:List TD) (mv mo:List Int) (mq:List (List Int)) (mg:List Int) (bf:List BD):Nat->Option (St->iE):=λk=>match k with
 | 5=>some λ_=>.inv { α:=Nat,nil:=[(5,3,.int .i64)],slots:=λk=>[(17,.c (.v (.int .i64 k))),(5,.c (.row 2))],res:=λk=>[(2,.row 3 (.int .i64) (sV (aB vs ms cs fs ts).1 ms fs th (mv,mo,mq,mg,()) (th.take k)))],inv:=λk=>k<=th.length,meas:=λk=>th.length - k }
 | _=>none
theorem aoa(vs:List VD) (ms cs:List ByteArray) (fs:List FD) (ts:List SD) (th:List TD) (mv mo:List Int) (mq:List (List Int)) (mg:List Int) (bf:List BD) (aA:Cj.pre ((vs,ms,cs,fs,ts,()),(th,(mv,mo,mq,mg,()),bf,()),())):
 let z7:=bnd ((vs,ms,cs,fs,ts,()),());let z10:=(mv,mo,mq,mg,());let z4:=aW.one (SV.c (SC.sl I6 (sW vs ms cs fs ts th z10 bf)));let z11:=bP vs ms cs fs ts;let z8:=bZ th mv mo mq mg bf;let z9:=aB vs ms cs fs ts;let z2:=λ(x:Nat)=>sV z9.fst ms fs th z10 (List.take x th);let z1:=λ(x:Nat)=>[g0 z11,g0 z8,g0 (aj.row 3 I6 (z2 x))];let z6:=λ(d:TD)=>iM z9.fst ms fs d;let z5:=λ(d:TD)=>(z6 d).fst;let z3:=λ(x x':Nat)=>cI ((x:Int)+(1:Int))=cI (x':Int)/\sm (SV.c (SC.row 2))/\True;(z7/\iO th/\aZ z10)/\br (!vsB vs ms cs fs ts (32:Int) th z10 bf) (rE z4 (aW.one (SV.c (SC.sl I6 [])))) ((∃x,x<=th.length/\(cI 0=cI (x:Int)/\sm (SV.c (SC.row 2))/\True)/\[g0 z11,g0 z8,g0 (aj.row 3 I6 [])]=(z1 x))/\∀(x:Nat),x<=th.length->br (decide ((x:Int) < (th.length:Int))) ((0<=(x:Int)/\(x:Int) < (th.length:Int))/\∀(d:TD),th[(x:Int).toNat]?=some d->(z7/\List.length d.snd.snd.snd.snd.snd.snd.snd.snd.snd.fst<=1000000/\d.fst<=9223372036854775807/\List.length d.snd.snd.snd.fst=8)/\((z6 d).snd=true->kQ z10 d (z5 d)/\th.length<=1000000)/\br ((z6 d).snd && Dp th z10 d (z5 d)) (jY (List.length (z2 x)+List.length ([(d).fst])) 8/\iR ((x:Int)+(1:Int))/\∃x',x'<=th.length/\(z3 x x')/\[g0 z11,g0 z8,g0 (aj.row 3 I6 (sV z9.fst ms fs th z10 (List.take x th)++[(d).fst]))]=(z1 x')/\th.length - x' < th.length - x) (iR ((x:Int)+(1:Int))/\∃x',x'<=th.length/\(z3 x x')/\(z1 x)=(z1 x')/\th.length - x' < th.length - x)) (rE z4 (aW.one (SV.c (SC.sl I6 (z2 x)))))):=by
 conv=>zeta
 delta iR;obtain⟨hb,⟨hl,hT⟩,hM⟩:bnd ((vs,ms,cs,fs,ts,()),())/\iO th/\aZ (mv,mo,mq,mg,()):=aA;refine⟨⟨hb,⟨hl,hT⟩,hM⟩,ah.2 ⟨λh=>?_,λh=>⟨⟨0,by omega,⟨rfl,rfl,trivial⟩,by simp[sV]⟩,λk hk=>ah.2 ⟨λg=>?_,λg=>?_⟩⟩⟩⟩
 .have h:vsB vs ms cs fs ts 32 th (mv,mo,mq,mg,()) bf=false:=by simpa using h
  exact⟨rfl,by unfold sW;rw[h];rfl⟩
 .simp only[dG]at g;have hv:vsB vs ms cs fs ts 32 th (mv,mo,mq,mg,()) bf=true:=by simpa using h
  have hV:=jR.1 hv;have hle:(sV (aB vs ms cs fs ts).1 ms fs th (mv,mo,mq,mg,()) (th.take k)).length<=k:=by
   unfold sV;rw[Yf];exact oh (X6 _ _) (by rw[kH];omega)
  refine⟨⟨by omega,by omega⟩,λd hd=>⟨⟨hb,hT d (gQ hd)⟩,λq=>⟨Ef hV.1 hM (hT d (gQ hd)) q,hl⟩,ah.2 ⟨λg2=>⟨bJ.2 (by simp only[sZ,AY];omega),au.2 (by omega),k+1,by omega,⟨rfl,rfl,trivial⟩,?_,by omega⟩,λg2=>⟨au.2 (by omega),k+1,by omega,⟨rfl,rfl,trivial⟩,?_,by omega⟩⟩⟩⟩
  .have hd:th[k]?=some d:=hd;rw[wo hd,if_pos (show Tz _ _ _ _ _ _=true from g2)]
  .have hd:th[k]?=some d:=hd;have g2:Tz (aB vs ms cs fs ts).1 ms fs th (mv,mo,mq,mg,()) d=false:=g2;rw[wo hd,g2];simp
 .simp only[A8]at g;have hv:vsB vs ms cs fs ts 32 th (mv,mo,mq,mg,()) bf=true:=by simpa using h
  have ek:k=th.length:=by omega
  subst ek;rw[qV (qw _)];exact⟨rfl,by unfold sW;rw[if_pos hv]⟩
theorem aiA:aN aK.gd 19 Cj:=
 bV (cx:=aK) (n:=41) (cl:=[(40,LV),(45,Vf),(46,VK)]) (rc:=[.data (.sl (.int .i64))]) ay ⟨LW,Vg,VL,trivial⟩ Tryz.func19 λd hd=>by
  obtain⟨⟨vs,ms,cs,fs,ts,⟨⟩⟩,⟨th,⟨mv,mo,mq,mg,⟨⟩⟩,bf,⟨⟩⟩,⟨⟩⟩:=d;exact aI (aqQ vs ms cs fs ts th mv mo mq mg bf) (aoa vs ms cs fs ts th mv mo mq mg bf hd) (by kernel_rfl)
def Dq(vs:List VD) (ms cs:List ByteArray) (fs:List FD) (ts:List SD) (l:List TD) (m:MD) (bf:List BD) (id:Int):ED×Bool:=
 if vsB vs ms cs fs ts 32 l m bf=true then(if(jv (aB vs ms cs fs ts).1 ms fs l id).2.2=true then(labS m (jv (aB vs ms cs fs ts).1 ms fs l id).1 (jv (aB vs ms cs fs ts).1 ms fs l id).2.1,true) else(zE,false)) else(zE,false)
abbrev adr:CT:={ ps:=[oQ,LQ,.int .i64],pre:=λd=>bnd (d.1,())/\iO d.2.1.1/\aZ d.2.1.2.1,res:=λd=>([],.gY [Ce ((Dq d.1.1 d.1.2.1 d.1.2.2.1 d.1.2.2.2.1 d.1.2.2.2.2.1 d.2.1.1 d.2.1.2.1 d.2.1.2.2.1 d.2.2.1).1),.c (.v (.bool ((Dq d.1.1 d.1.2.1 d.1.2.2.1 d.1.2.2.2.1 d.1.2.2.2.2.1 d.2.1.1 d.2.1.2.1 d.2.1.2.2.1 d.2.2.1).2)))]) }
theorem aob(vs:List VD) (ms cs:List ByteArray) (fs:List FD) (ts:List SD) (th:List TD) (mv mo:List Int) (mq:List (List Int)) (mg:List Int) (bf:List BD) (id:Int) (aA:adr.pre ((vs,ms,cs,fs,ts,()),(th,(mv,mo,mq,mg,()),bf,()),id,())):
 let z7:=bnd ((vs,ms,cs,fs,ts,()),());let z8:=(mv,mo,mq,mg,());let z4:=Dq vs ms cs fs ts th z8 bf id;let z2:=[Ce (z4.fst),cB (z4.snd)];let z1:=rT z2 [Ce (0,0,0,0,0,0,0,0,0,()),cB false];let z6:=jv (aB vs ms cs fs ts).fst ms fs th id;let z5:=z6.fst;let z3:=z6.snd.fst;(z7/\iO th/\aZ z8)/\br (!vsB vs ms cs fs ts (32:Int) th z8 bf) z1 ((z7/\iO th)/\br (!z6.snd.snd) z1 (kQ z8 z5 z3/\rT z2 [Ce (labS z8 z5 z3),cB true])):=by
 conv=>zeta
 obtain⟨hb,hT,hM⟩:bnd ((vs,ms,cs,fs,ts,()),())/\iO th/\aZ (mv,mo,mq,mg,()):=aA;refine⟨⟨hb,hT,hM⟩,ah.2 ⟨λh=>?_,λh=>⟨⟨hb,hT⟩,ah.2 ⟨λh2=>?_,λh2=>⟨?_,?_⟩⟩⟩⟩⟩
 .have h:vsB vs ms cs fs ts 32 th (mv,mo,mq,mg,()) bf=false:=by simpa using h
  have e:Dq vs ms cs fs ts th (mv,mo,mq,mg,()) bf id=(zE,false):=by unfold Dq;rw[h];rfl
  rw[e];exact⟨rfl,rfl⟩
 all_goals have hv:vsB vs ms cs fs ts 32 th (mv,mo,mq,mg,()) bf=true:=by simpa using h
 .have h2:(jv (aB vs ms cs fs ts).1 ms fs th id).2.2=false:=by simpa using h2
  have e:Dq vs ms cs fs ts th (mv,mo,mq,mg,()) bf id=(zE,false):=by unfold Dq;rw[if_pos hv,h2];rfl
  rw[e];exact⟨rfl,rfl⟩
 all_goals have h2:(jv (aB vs ms cs fs ts).1 ms fs th id).2.2=true:=by simpa using h2
 .have h3:=h2;unfold jv at h3 ⊢;cases ef:wZ th id with
  | none=>rw[ef]at h3;cases h3
  | some t=>
    rw[ef]at h3;exact Ef (jR.1 hv).1 hM (hT.2 t (akh ef)) h3
 .have e:Dq vs ms cs fs ts th (mv,mo,mq,mg,()) bf id=(labS (mv,mo,mq,mg,()) (jv (aB vs ms cs fs ts).1 ms fs th id).1 (jv (aB vs ms cs fs ts).1 ms fs th id).2.1,true):=by unfold Dq;rw[if_pos hv,if_pos h2]
  rw[e];exact⟨rfl,rfl⟩
theorem aiB:aN aK.gd 16 adr:=
 bV (cx:=aK) (n:=31) (cl:=[(40,LV),(41,VN),(42,G6)]) (rc:=[.keep,.keep]) ay ⟨LW,VO,VJ,trivial⟩ Tryz.func16 λd hd=>by
  obtain⟨⟨vs,ms,cs,fs,ts,⟨⟩⟩,⟨th,⟨mv,mo,mq,mg,⟨⟩⟩,bf,⟨⟩⟩,id,⟨⟩⟩:=d;exact aI (λ_=>none) (aob vs ms cs fs ts th mv mo mq mg bf id hd) (by kernel_rfl)
abbrev shR:Sh:=.pair (.sl (.int .i64)) (.pair (.sl (.int .i64)) (.pair (.sl (.sl (.int .i64))) (.pair (.sl (.int .i64)) (.pair (.sl yQ) .unit))))
def zR:TD:=(0,0,0,List.replicate 8 0,0,0,0,0,0,[],())
open Classical in
def mZ{α:Type} (a b:α):Bool:=decide (a=b)
theorem nI{α:Type}{a b:α}:mZ a b=true↔a=b:=by unfold mZ;exact @X8 _ (Classical.propDecidable _)
theorem lK{α:Type}{a b:α} (h:a≠b):mZ a b=false:=TJ.2 λq=>h (nI.1 q)
theorem jq{α:Type}{a b:α} (h:a=b):mZ a b=true:=nI.2 h
theorem LX{i f t:Int} (h:aZ m):aZ (iw m i id f t).1:=by
 have z:aZ zM:=⟨by decide,by decide,by decide,by decide,by decide,by decide⟩
 unfold iw;split
 .split
  .exact z
  .split
   .obtain⟨h1,h2,h3⟩:=h;exact⟨h1,by rw[xg];exact h2,h3⟩
   .exact z
 .exact z
theorem aj1{a b:List SV} (h:a=b):rT a b:=⟨rfl,by rw[h]⟩
def AO(l:List BD):Prop:=l.length<=1000000/\∀b∈l,b.2.2.1.length<=1000000
def LY(z:ZD):Prop:=iO z.1/\aZ z.2.1/\AO z.2.2.1
abbrev ads:CT:={ ps:=[qx,bD,jT,shE],pre:=λd=>aZ d.1/\d.2.1.1=d.2.2.2.1.1,res:=λd=>([],.gY [Ci ((jJ d.1 d.2.2.2.1).1),.c (.v (.int .i64 (uY d.2.2.1 d.2.2.2.1))),.c (.v (.int .i64 ((jJ d.1 d.2.2.2.1).2)))]) }
theorem aoc(mv mo:List Int) (mq:List (List Int)) (mg:List Int) (id fn pc:Int) (rg:List Int) (st ch ph su fa:Int) (he:List Int) (op a b c obj n fo ord ag ix kd eo mx en lQ rd wr:Int) (aA:ads.pre ((mv,mo,mq,mg,()),(id,fn,pc,rg,st,ch,ph,su,fa,he,()),(op,a,b,c,obj,n,fo,ord,()),(ag,ix,kd,eo,mx,en,lQ,rd,wr,()),())):
 let z20:=(mv,mo,mq,mg,());let kV:=(ag,ix,kd,eo,mx,en,lQ,rd,wr,());let z5:=jJ z20 kV;let z4:=[Ci (z5.fst),cI (uY (op,a,b,c,obj,n,fo,ord,()) kV),cI (z5.snd)];let MN:=writeM z20 eo wr;let z13:=MN.fst;let qR:=MN.snd;let z2:=rT z4 [Ci z20,cI rd,cI 0];let z3:=rT z4 [Ci z20,cI 0,cI 0];let z12:=iw z20 eo id (-1:Int) id;let z7:=z12.fst;let z8:=z12.snd;let z10:=iw z20 eo id id (-1:Int);let z11:=iw z20 mx id id (-1:Int);let z9:=z11.fst;let z6:=qo z9 eo id;let Qa:=mY z20 id;let z17:=oG z20 eo (1:Int);let BQ:=oG z20 eo (iH mq);let z1:=br (decide (kd=11)) (br (decide (rd=0)) z3 (aZ z20/\rT z4 [Ci z7,cI 1,cI z8])) (br (decide (kd=9)) (aZ z20/\rT z4 [Ci z7,cI 0,cI z8]) (br (decide (kd=10)) (aZ z20/\rT z4 [Ci (z10.fst),cI 0,cI (z10.snd)]) (br (decide (kd=12)) (aZ z20/\br (decide (z11.snd=0)) (aZ z9/\rT z4 [Ci (z6.fst),cI 0,cI (z6.snd)]) (rT z4 [Ci z9,cI 0,cI (z11.snd)])) (br (decide (kd=13)) (aZ z20/\rT z4 [Ci (Qa.fst),cI 0,cI (Qa.snd)]) (br (decide (kd=14)) (aZ z20/\rT z4 [Ci (z17.fst),cI 0,cI (z17.snd.snd)]) (br (decide (kd=15)) (aZ z20/\rT z4 [Ci (BQ.fst),cI 0,cI (BQ.snd.snd)]) (br (decide (kd=16)) (rT z4 [Ci z20,cI eo,cI 0]) z3)))))));br (decide (kd=5)) (aZ z20/\br (decide (op=12)) (rT z4 [Ci z13,cI 1,cI qR]) (rT z4 [Ci z13,cI rd,cI qR]))
 (br (decide (kd=2)) (aZ z20/\rT z4 [Ci z13,cI 0,cI qR]) (br (decide (kd=1)) (br (decide (kd=1)) z2 z1) (br (decide (kd=8)) z2 z1))):=by
 conv=>zeta
 obtain⟨hM,hid⟩:aZ (mv,mo,mq,mg,())/\id=ag:=aA;subst hid;simp only[aJ]
 repeat' (first | exact hM | exact LX hM | (refine aj1 ?_) | (refine And.intro ?_ ?_) | (intro _))
 all_goals first | exact hM | exact LX hM | trivial | (exfalso;omega) | (simp_all[jJ,uY];done) | skip
theorem aiC:aN aK.gd 48 ads:=
 bV (cx:=aK) (n:=132) (cl:=[(100,XN),(101,Js),(102,Jt),(103,ac4),(104,Jv),(105,Ju),(106,Jw)]) (rc:=[.data qx,.keep,.keep]) ay ⟨acZ,ac0,ac1,ac5,ac7,ac6,adh,trivial⟩ Tryz.func48 λd hd=>by
  obtain⟨⟨mv,mo,mq,mg,⟨⟩⟩,⟨id,fn,pc,rg,st,ch,ph,su,fa,he,⟨⟩⟩,⟨op,a,b,c,obj,n,fo,ord,⟨⟩⟩,⟨ag,ix,kd,eo,mx,en,lQ,rd,wr,⟨⟩⟩,⟨⟩⟩:=d;exact aI (λ_=>none) (aoc mv mo mq mg id fn pc rg st ch ph su fa he op a b c obj n fo ord ag ix kd eo mx en lQ rd wr hd) (by kernel_rfl)
abbrev adt:CT:={ ps:=[.sl XT],pre:=λd=>d.1.length<=1000000,res:=λd=>([.row 67 XT d.1],.one (.c (.row 0))) }
theorem aod(l:List (Int×Int×Unit)) (aA:adt.pre (l,())):
 ∀(b:Bool),(b=true->l=[])->br b ([aj.row 67 mO l]=[aj.row 67 mO []]/\aW.one (SV.c (SC.row 0))=aW.one (SV.c (SC.row 0))) (jY (0+List.length (l)) 16/\[aj.row 67 mO l]=[aj.row 67 mO ([]++l)]/\aW.one (SV.c (SC.row 0))=aW.one (SV.c (SC.row 0))):=by
 have hp:l.length<=1000000:=aA;intro b hb;refine ah.2 ⟨λh=>by rw[hb h];exact⟨rfl,rfl⟩,λh=>⟨?_,by simp,rfl⟩⟩
 rw[bJ];omega
theorem aiD:aN aK.gd 59 adt:=
 Ry (il:=ilN) (rc:=[.row 67 XT]) (cx:=aK) (n:=8) (cl:=[]) (by kernel_rfl) ay trivial trivial Tryz.func59 (by kernel_rfl) (by kernel_rfl) rfl (by kernel_rfl) (by kernel_rfl) λd hd=>by
  obtain⟨l,⟨⟩⟩:=d;exact aI (λ_=>none) (aod l hd) (by kernel_rfl)
abbrev Jy:CT:={ ps:=[LQ],pre:=λd=>LY d.1,res:=λd=>([.row 56 bD d.1.1],.one (.agg [.row 0,.sl (.int .i64) d.1.2.1.1,.sl (.int .i64) d.1.2.1.2.1,.sl (.sl (.int .i64)) d.1.2.1.2.2.1,.sl (.int .i64) d.1.2.1.2.2.2.1,.sl yQ d.1.2.2.1])) }
abbrev aqR(th:List TD) (mv mo:List Int) (mq:List (List Int)) (mg:List Int) (bf:List BD):Nat->Option (St->iE):=λk=>match k with
 | 5=>some λ_=>.inv { α:=Nat,slots:=λk=>[(23,.c (.v (.int .i64 k)))],res:=λk=>[(7,.row 56 bD th)],inv:=λk=>k<=th.length,meas:=λk=>th.length - k }
 | 12=>some λ_=>.inv { α:=Nat,slots:=λk=>[(52,.c (.v (.int .i64 k)))],res:=λk=>[(8,.row 65 yQ bf)],inv:=λk=>k<=bf.length,meas:=λk=>bf.length - k }
 | _=>none
abbrev oV:=[iN,iN,iN,iN,iN,iN]
abbrev kq6:=[SC.row (Nat.succ 0).succ.succ.succ.succ.succ.succ,SC.row 2,SC.row 3,SC.row 4,SC.row 5,iN]
abbrev kq5:=[SC.row (Nat.succ 0).succ.succ.succ.succ.succ.succ,SC.row 2,SC.row 3,SC.row 4,SC.row 5,SC.row (Nat.succ 0).succ.succ.succ.succ.succ.succ.succ]
theorem aoe(th:List TD) (mv mo:List Int) (mq:List (List Int)) (mg:List Int) (bf:List BD) (aA:Jy.pre ((th,(mv,mo,mq,mg,()),bf,()),())):
 let z11:=bZ th mv mo mq mg bf;let z9:=List.replicate (th.length:Int).toNat (zR:TD);let z4:=List.take (List.length z9) (th)++List.drop (List.length (th)) z9;let z3:=[g0 z11,g0 (aj.blk 37 oV),g0 (aj.row 3 I6 mv),g0 (aj.row 3 I6 mo),g0 (aj.row 31 I6.sl mq),g0 (aj.row 3 I6 mg),g0 (aj.blk 37 kq6),g0 (aj.row 56 bD th)];let z7:=λ(x:Nat)=>0<=(x:Int)/\(x:Int) < (th.length:Int);let z10:=λ(x:Nat)=>(x:Int)+(1:Int);let z6:=List.replicate (bf.length:Int).toNat (((0:Int),(0:Int),[],()):BD);let z1:=List.take (List.length z6) (bf)++List.drop (List.length (bf)) z6;let z2:=[g0 z11,g0 (aj.blk 37 oV),g0 (aj.row 3 I6 mv),g0 (aj.row 3 I6 mo),g0 (aj.row 31 I6.sl mq),g0 (aj.row 3 I6 mg),g0 (aj.blk 37 kq5),g0 (aj.row 56 bD th),g0 (aj.row 65 yQ bf)];let z8:=λ(x:Nat)=>0<=(x:Int)/\(x:Int) < (bf.length:Int);let z5:=[SC.row 0,SC.sl I6 mv,SC.sl I6 mo,SC.sl I6.sl mq,SC.sl I6 mg,SC.sl yQ bf];aZ (mv,mo,mq,mg,())/\(0<=(th.length:Int)/\(th.length:Int)<=(th.length:Int)/\jY (th.length:Int).toNat 152)/\(∃x,x<=th.length/\(cI 0=cI (x:Int)/\True)/\[g0 z11,g0 (aj.blk 37 oV),g0 (aj.row 3 I6 mv),g0 (aj.row 3 I6 mo),g0 (aj.row 31 I6.sl mq),g0 (aj.row 3 I6 mg),g0 (aj.blk 37 kq6),g0 (aj.row 56 bD z4)]=z3)/\∀(x:Nat),x<=th.length->br (decide ((x:Int) < (z4.length:Int))) ((z7 x)/\∀(d:TD),th[(x:Int).toNat]?=some d->List.length d.snd.snd.snd.snd.snd.snd.snd.snd.snd.fst<=1000000/\(z7 x)/\(x:Int).toNat < th.length/\∀(e:TD),th[(x:Int).toNat]?=some e->iR (z10 x)/\∃x',x'<=th.length/\(cI (z10 x)=cI (x':Int)/\True)/\[g0 z11,g0 (aj.blk 37 oV),g0 (aj.row 3 I6 mv),g0 (aj.row 3 I6 mo),g0 (aj.row 31 I6.sl mq),g0 (aj.row 3 I6 mg),g0 (aj.blk 37 kq6),g0 (aj.row 56 bD (th.set (x:Int).toNat (e.fst,e.2.fst,e.2.2.fst,e.2.2.2.fst,e.2.2.2.2.fst,e.2.2.2.2.2.fst,e.2.2.2.2.2.2.fst,e.2.2.2.2.2.2.2.fst,e.2.2.2.2.2.2.2.2.fst,d.snd.snd.snd.snd.snd.snd.snd.snd.snd.fst,e.2.2.2.2.2.2.2.2.2.snd)))]=z3/\th.length - x' < th.length - x) ((0<=(bf.length:Int)/\(bf.length:Int)<=(bf.length:Int)/\jY (bf.length:Int).toNat 40)/\(∃x,x<=bf.length/\(cI 0=cI (x:Int)/\True)/\[g0 z11,g0 (aj.blk 37 oV),g0 (aj.row 3 I6 mv),g0 (aj.row 3 I6 mo),g0 (aj.row 31 I6.sl mq),g0 (aj.row 3 I6 mg),g0 (aj.blk 37 kq5),g0 (aj.row 56 bD th),g0 (aj.row 65 yQ z1)]=z2)/\∀(x:Nat),x<=bf.length->br (decide ((x:Int) < (z1.length:Int))) ((z8 x)/\∀(d:BD),bf[(x:Int).toNat]?=some d->List.length d.snd.snd.fst<=1000000/\(z8 x)/\(x:Int).toNat < bf.length/\∀(e:BD),bf[(x:Int).toNat]?=some e->iR (z10 x)/\∃x',x'<=bf.length/\(cI (z10 x)=cI (x':Int)/\True)/\[g0 z11,g0 (aj.blk 37 oV),g0 (aj.row 3 I6 mv),g0 (aj.row 3 I6 mo),g0 (aj.row 31 I6.sl mq),g0 (aj.row 3 I6 mg),g0 (aj.blk 37 kq5),g0 (aj.row 56 bD th),g0 (aj.row 65 yQ (bf.set (x:Int).toNat (e.fst,e.2.fst,d.snd.snd.fst,e.2.2.snd)))]=z2/\bf.length - x' < bf.length - x) ([aj.row 56 bD th]=[aj.row 56 bD th]/\aW.one (SV.agg z5)=aW.one (SV.agg z5))):=by
 conv=>zeta
 delta oV kq6 kq5 iR iN;obtain⟨⟨hl,hT⟩,hM,hB,hb⟩:iO th/\aZ (mv,mo,mq,mg,())/\AO bf:=aA;have tk:∀{α:Type} (l:List α) (z:α),List.take (List.length (List.replicate (l.length:Int).toNat z)) l++List.drop (List.length l) (List.replicate (l.length:Int).toNat z)=l:=by
  intro α l z;rw[MG,A98,qV (qw _),X4 (by rw[MG];omega),JE]
 have st:∀{α:Type}{l:List α}{k:Nat}{d:α},l[k]?=some d->l.set k d=l:=λh=>iy h
 rw[tk th,tk bf];refine⟨hM,⟨by omega,by omega,bJ.2 (by omega)⟩,⟨0,by omega,⟨rfl,trivial⟩,rfl⟩,λk hk=>ah.2 ⟨λg=>?_,λg=>⟨⟨by omega,by omega,bJ.2 (by omega)⟩,⟨0,by omega,⟨rfl,trivial⟩,rfl⟩,λk hk=>ah.2 ⟨λg=>?_,λg=>?_⟩⟩⟩⟩
 .simp only[dG]at g;refine⟨⟨by omega,by omega⟩,λd hd=>⟨(hT d (gQ hd)).1,⟨by omega,by omega⟩,by omega,λe he=>⟨au.2 (by omega),k+1,by omega,⟨rfl,trivial⟩,?_,by omega⟩⟩⟩
  have hd:th[(k:Int).toNat]?=some d:=hd;rw[hd]at he;have e1:d=e:=Io he;subst e1;have:th.set (k:Int).toNat d=th:=st hd;exact oW (λz=>[_,_,_,_,_,_,_,g0 (aj.row 56 bD z)]) this
 .simp only[dG]at g;refine⟨⟨by omega,by omega⟩,λd hd=>⟨hb d (gQ hd),⟨by omega,by omega⟩,by omega,λe he=>⟨au.2 (by omega),k+1,by omega,⟨rfl,trivial⟩,?_,by omega⟩⟩⟩
  have hd:bf[(k:Int).toNat]?=some d:=hd;rw[hd]at he;have e1:d=e:=Io he;subst e1;have:bf.set (k:Int).toNat d=bf:=st hd;exact oW (λz=>[_,_,_,_,_,_,_,_,g0 (aj.row 65 yQ z)]) this
 .exact⟨rfl,rfl⟩
theorem aiE:aN aK.gd 23 Jy:=
 bV (cx:=aK) (n:=69) (cl:=[(49,nX),(58,wQ),(59,adt)]) (rc:=[.hd 56 bD shR]) ay ⟨sS,DU,aiD,trivial⟩ Tryz.func23 λd hd=>by
  obtain⟨⟨th,⟨mv,mo,mq,mg,⟨⟩⟩,bf,⟨⟩⟩,⟨⟩⟩:=d;exact aI (aqR th mv mo mq mg bf) (aoe th mv mo mq mg bf hd) (by kernel_rfl)
abbrev adu:CT:={ ps:=[bD,bD],pre:=λd=>d.1.2.2.2.2.2.2.2.2.2.1.length<=1000000,res:=λd=>([],vB (mZ d.1 d.2.1)) }
theorem aof(id fn pc:Int) (rg:List Int) (st ch ph su fa:Int) (he:List Int) (id2 Qb pc2:Int) (Qc:List Int) (st2 MO LC LD fa2:Int) (he2:List Int) (aA:adu.pre ((id,fn,pc,rg,st,ch,ph,su,fa,he,()),(id2,Qb,pc2,Qc,st2,MO,LC,LD,fa2,he2,()),())):
 let z1:=mZ (id,fn,pc,rg,st,ch,ph,su,fa,he,()) (id2,Qb,pc2,Qc,st2,MO,LC,LD,fa2,he2,());br (!decide (id=id2) || !decide (fn=Qb) || !decide (pc=pc2) || !decide (rg=Qc) || !decide (st=st2) || !decide (ch=MO)) (qB z1 false) (((decide (ph=LC) && decide (su=LD) && decide (fa=fa2))=true->he.length<=1000000)/\qB z1 (decide (ph=LC) && decide (su=LD) && decide (fa=fa2) && decide (he=he2))):=by
 conv=>zeta
 have hp:he.length<=1000000:=aA;refine ah.2 ⟨λh=>⟨rfl,?_⟩,λh=>⟨λ_=>hp,jS ?_⟩⟩
 .rw[lK];intro q;simp only[Ya]at q;simp[q]at h
 .rw[Et,nI];simp only[lM,uP,dG]at h;simp only[Ya,cZ,dG,h,true_and];constructor
  .rintro⟨h1,h2,h3,h4,_⟩;exact⟨⟨⟨h1,h2⟩,h3⟩,h4⟩
  .rintro⟨⟨⟨h1,h2⟩,h3⟩,h4⟩;exact⟨h1,h2,h3,h4,trivial⟩
theorem aiF:aN aK.gd 62 adu:=
 bV (cx:=aK) (n:=71) (cl:=[(127,ql)]) (rc:=[]) ay ⟨GX,trivial⟩ Tryz.func62 λd hd=>by
  obtain⟨⟨id,fn,pc,rg,st,ch,ph,su,fa,he,⟨⟩⟩,⟨id2,Qb,pc2,Qc,st2,MO,LC,LD,fa2,he2,⟨⟩⟩,⟨⟩⟩:=d;exact aI (λ_=>none) (aof id fn pc rg st ch ph su fa he id2 Qb pc2 Qc st2 MO LC LD fa2 he2 hd) (by kernel_rfl)
abbrev adv:CT:={ ps:=[.sl bD,.sl bD],pre:=λd=>d.1.length<=1000000/\∀q∈d.1,q.2.2.2.2.2.2.2.2.2.1.length<=1000000,res:=λd=>([],vB (mZ d.1 d.2.1)) }
abbrev aqS(l m:List TD):Nat->Option (St->iE):=λk=>match k with
 | 4=>some λ_=>.inv { α:=Nat,slots:=λk=>[(17,.c (.v (.int .i64 k)))],res:=λk=>[],inv:=λk=>k<=(l).length/\∀j < k,l[j]?=m[j]?,meas:=λk=>(l).length - k }
 | _=>none
theorem aog(l m:List TD) (aA:adv.pre (l,m,())):
 let z1:=λ(x:Nat)=>(x<=l.length/\∀(j:Nat),j < x->l[j]?=m[j]?);br (!decide ((l.length:Int)=(m.length:Int))) (qB (mZ l m) false) ((∃x,(z1 x)/\(cI 0=cI (x:Int)/\True)/\([]:List dP)=[])/\∀(x:Nat),(z1 x)->br (decide ((x:Int) < (l.length:Int))) ((0<=(x:Int)/\(x:Int) < (l.length:Int))/\∀(d:TD),l[(x:Int).toNat]?=some d->(0<=(x:Int)/\(x:Int) < (m.length:Int))/\∀(dH:TD),m[(x:Int).toNat]?=some dH->List.length d.snd.snd.snd.snd.snd.snd.snd.snd.snd.fst<=1000000/\br (!mZ d dH) (qB (mZ l m) false) (iR ((x:Int)+(1:Int))/\∃x',(z1 x')/\(cI ((x:Int)+(1:Int))=cI (x':Int)/\True)/\([]:List dP)=[]/\l.length - x' < l.length - x)) (qB (mZ l m) true)):=by
 conv=>zeta
 delta dP iR;obtain⟨hp,h6⟩:l.length<=1000000/\∀q∈l,q.2.2.2.2.2.2.2.2.2.1.length<=1000000:=aA;have fF:l≠m->qB (mZ l m) false:=λq=>⟨rfl,by rw[lK q]⟩
 refine ah.2 ⟨λh=>fF λq=>?_,λh=>?_⟩
 .subst q;simp at h
 simp only[uP,dG]at h;refine⟨⟨0,⟨by omega,λj hj=>by omega⟩,⟨rfl,trivial⟩,rfl⟩,λk hk=>ah.2 ⟨λg=>?_,λg=>?_⟩⟩
 .simp only[dG]at g;refine⟨⟨by omega,by omega⟩,λd hd=>⟨⟨by omega,by omega⟩,λd1 hd1=>⟨h6 d (gQ hd),ah.2 ⟨λg2=>fF λq=>?_,λg2=>⟨au.2 (by omega),k+1,⟨by omega,λj hj=>?_⟩,⟨rfl,trivial⟩,rfl,by omega⟩⟩⟩⟩⟩
  .subst q;rw[hd]at hd1;cases hd1;rw[jq rfl]at g2;cases g2
  .by_cases gu:j=k
   .subst gu;have hd:l[j]?=some d:=hd;have hd1:m[j]?=some d1:=hd1;have g2:=nI.1 (show mZ d d1=true by simpa using g2)
    rw[hd,hd1,g2]
   .exact hk.2 j (by omega)
 simp only[A8]at g;have e:l=m:=by
  apply Dh;intro j
  by_cases hj:j < k
  .exact hk.2 j hj
  .rw[uD (by omega),uD (by omega)]
 exact⟨rfl,by rw[jq e]⟩
theorem adw:KL Tryz.prog aK.gd 61 [.func (.func 62) #[] #[]] adv:=
 (oO (cx:=aK) (n:=32) (cl:=[(62,adu)]) (il:=ilN) (hl:=hlN) (ml:=mlN) (rc:=[]) (lits:=[]) (suf:=[.func (.func 62) #[] #[]]) (by kernel_rfl) ay ⟨aiF,trivial⟩ trivial trivial trivial Tryz.func61 (by kernel_rfl) (by kernel_rfl) rfl (by kernel_rfl) (by kernel_rfl) (by simp) λd hd=>by
  obtain⟨l,m,⟨⟩⟩:=d;exact aI (aqS l m) (aog l m hd) (by kernel_rfl))
abbrev adx:CT:={ ps:=[.sl XT,.sl XT],pre:=λd=>d.1.length<=1000000,res:=λd=>([],vB (mZ d.1 d.2.1)) }
abbrev aoh(l m:List (Int×Int×Unit)):Nat->Option (St->iE):=λk=>match k with
 | 4=>some λ_=>.inv { α:=Nat,slots:=λk=>[(13,.c (.v (.int .i64 k)))],res:=λk=>[],inv:=λk=>k<=(l).length/\∀j < k,l[j]?=m[j]?,meas:=λk=>(l).length - k }
 | _=>none
theorem aiG(l m:List (Int×Int×Unit)) (aA:adx.pre (l,m,())):
 let z1:=λ(x:Nat)=>(x<=l.length/\∀(j:Nat),j < x->l[j]?=m[j]?);br (!decide ((l.length:Int)=(m.length:Int))) (qB (mZ l m) false) ((∃x,(z1 x)/\(cI 0=cI (x:Int)/\True)/\([]:List dP)=[])/\∀(x:Nat),(z1 x)->br (decide ((x:Int) < (l.length:Int))) ((0<=(x:Int)/\(x:Int) < (l.length:Int))/\∀(d:Int×(I6.pair Sh.unit).den),l[(x:Int).toNat]?=some d->(0<=(x:Int)/\(x:Int) < (m.length:Int))/\∀(dH:Int×(I6.pair Sh.unit).den),m[(x:Int).toNat]?=some dH->br (!(true && d.fst == dH.fst && d.snd.fst == dH.snd.fst)) (qB (mZ l m) false) (iR ((x:Int)+(1:Int))/\∃x',(z1 x')/\(cI ((x:Int)+(1:Int))=cI (x':Int)/\True)/\([]:List dP)=[]/\l.length - x' < l.length - x)) (qB (mZ l m) true)):=by
 conv=>zeta
 delta dP iR;have hp:l.length<=1000000:=aA;have fF:l≠m->qB (mZ l m) false:=λq=>⟨rfl,by rw[lK q]⟩
 refine ah.2 ⟨λh=>fF λq=>?_,λh=>?_⟩
 .subst q;simp at h
 simp only[uP,dG]at h;refine⟨⟨0,⟨by omega,λj hj=>by omega⟩,⟨rfl,trivial⟩,rfl⟩,λk hk=>ah.2 ⟨λg=>?_,λg=>?_⟩⟩
 .simp only[dG]at g;refine⟨⟨by omega,by omega⟩,λd hd=>⟨⟨by omega,by omega⟩,λd1 hd1=>ah.2 ⟨λg2=>fF λq=>?_,λg2=>⟨au.2 (by omega),k+1,⟨by omega,λj hj=>?_⟩,⟨rfl,trivial⟩,rfl,by omega⟩⟩⟩⟩
  .subst q;rw[hd]at hd1;cases hd1;simp at g2
  .by_cases gu:j=k
   .subst gu;have hd:l[j]?=some d:=hd;have hd1:m[j]?=some d1:=hd1;have g2:d=d1:=by
     obtain⟨x,y,⟨⟩⟩:=d;obtain⟨x1,y1,⟨⟩⟩:=d1;simpa using g2
    rw[hd,hd1,g2]
   .exact hk.2 j (by omega)
 simp only[A8]at g;have e:l=m:=by
  apply Dh;intro j
  by_cases hj:j < k
  .exact hk.2 j hj
  .rw[uD (by omega),uD (by omega)]
 exact⟨rfl,by rw[jq e]⟩
theorem ady:aN aK.gd 130 adx:=
 bV (cx:=aK) (n:=26) (cl:=[]) (rc:=[]) ay trivial Tryz.func130 λd hd=>by
  obtain⟨l,m,⟨⟩⟩:=d;exact aI (aoh l m) (aiG l m hd) (by kernel_rfl)
abbrev Jz:CT:={ ps:=[yQ,yQ],pre:=λd=>d.1.2.2.1.length<=1000000,res:=λd=>([],vB (mZ d.1 d.2.1)) }
theorem aoi(b1 b2:Int) (bl:List (Int×Int×Unit)) (c1 c2:Int) (cl:List (Int×Int×Unit)) (aA:Jz.pre ((b1,b2,bl,()),(c1,c2,cl,()),())):
 ((decide (b1=c1) && decide (b2=c2))=true->bl.length<=1000000)/\qB (mZ (b1,b2,bl,()) (c1,c2,cl,())) (decide (b1=c1) && decide (b2=c2) && mZ bl cl):=by
 have hp:bl.length<=1000000:=aA;refine⟨λ_=>hp,jS ?_⟩
 rw[Et,nI];simp only[Ya,cZ,dG,nI];constructor
 .rintro⟨h1,h2,h3,_⟩;exact⟨⟨h1,h2⟩,h3⟩
 .rintro⟨⟨h1,h2⟩,h3⟩;exact⟨h1,h2,h3,trivial⟩
theorem aiH:aN aK.gd 64 Jz:=
 bV (cx:=aK) (n:=24) (cl:=[(130,adx)]) (rc:=[]) ay ⟨ady,trivial⟩ Tryz.func64 λd hd=>by
  obtain⟨⟨b1,b2,bl,⟨⟩⟩,⟨c1,c2,cl,⟨⟩⟩,⟨⟩⟩:=d;exact aI (λ_=>none) (aoi b1 b2 bl c1 c2 cl hd) (by kernel_rfl)
abbrev adz:CT:={ ps:=[.sl yQ,.sl yQ],pre:=λd=>AO d.1,res:=λd=>([],vB (mZ d.1 d.2.1)) }
abbrev aqT(l m:List BD):Nat->Option (St->iE):=λk=>match k with
 | 4=>some λ_=>.inv { α:=Nat,slots:=λk=>[(17,.c (.v (.int .i64 k)))],res:=λk=>[],inv:=λk=>k<=(l).length/\∀j < k,l[j]?=m[j]?,meas:=λk=>(l).length - k }
 | _=>none
theorem aoj(l m:List BD) (aA:adz.pre (l,m,())):
 let z1:=λ(x:Nat)=>(x<=l.length/\∀(j:Nat),j < x->l[j]?=m[j]?);br (!decide ((l.length:Int)=(m.length:Int))) (qB (mZ l m) false) ((∃x,(z1 x)/\(cI 0=cI (x:Int)/\True)/\([]:List dP)=[])/\∀(x:Nat),(z1 x)->br (decide ((x:Int) < (l.length:Int))) ((0<=(x:Int)/\(x:Int) < (l.length:Int))/\∀(d:BD),l[(x:Int).toNat]?=some d->(0<=(x:Int)/\(x:Int) < (m.length:Int))/\∀(dH:BD),m[(x:Int).toNat]?=some dH->List.length d.snd.snd.fst<=1000000/\br (!mZ d dH) (qB (mZ l m) false) (iR ((x:Int)+(1:Int))/\∃x',(z1 x')/\(cI ((x:Int)+(1:Int))=cI (x':Int)/\True)/\([]:List dP)=[]/\l.length - x' < l.length - x)) (qB (mZ l m) true)):=by
 conv=>zeta
 delta dP iR;obtain⟨hp,h6⟩:l.length<=1000000/\∀q∈l,q.2.2.1.length<=1000000:=aA;have fF:l≠m->qB (mZ l m) false:=λq=>⟨rfl,by rw[lK q]⟩
 refine ah.2 ⟨λh=>fF λq=>?_,λh=>?_⟩
 .subst q;simp at h
 simp only[uP,dG]at h;refine⟨⟨0,⟨by omega,λj hj=>by omega⟩,⟨rfl,trivial⟩,rfl⟩,λk hk=>ah.2 ⟨λg=>?_,λg=>?_⟩⟩
 .simp only[dG]at g;refine⟨⟨by omega,by omega⟩,λd hd=>⟨⟨by omega,by omega⟩,λd1 hd1=>⟨h6 d (gQ hd),ah.2 ⟨λg2=>fF λq=>?_,λg2=>⟨au.2 (by omega),k+1,⟨by omega,λj hj=>?_⟩,⟨rfl,trivial⟩,rfl,by omega⟩⟩⟩⟩⟩
  .subst q;rw[hd]at hd1;cases hd1;rw[jq rfl]at g2;cases g2
  .by_cases gu:j=k
   .subst gu;have hd:l[j]?=some d:=hd;have hd1:m[j]?=some d1:=hd1;have g2:=nI.1 (show mZ d d1=true by simpa using g2)
    rw[hd,hd1,g2]
   .exact hk.2 j (by omega)
 simp only[A8]at g;have e:l=m:=by
  apply Dh;intro j
  by_cases hj:j < k
  .exact hk.2 j hj
  .rw[uD (by omega),uD (by omega)]
 exact⟨rfl,by rw[jq e]⟩
theorem adA:KL Tryz.prog aK.gd 63 [.func (.func 64) #[] #[]] adz:=
 (oO (cx:=aK) (n:=32) (cl:=[(64,Jz)]) (il:=ilN) (hl:=hlN) (ml:=mlN) (rc:=[]) (lits:=[]) (suf:=[.func (.func 64) #[] #[]]) (by kernel_rfl) ay ⟨aiH,trivial⟩ trivial trivial trivial Tryz.func63 (by kernel_rfl) (by kernel_rfl) rfl (by kernel_rfl) (by kernel_rfl) (by simp) λd hd=>by
  obtain⟨l,m,⟨⟩⟩:=d;exact aI (aqT l m) (aoj l m hd) (by kernel_rfl))
abbrev JA:CT:={ ps:=[LQ,LQ],pre:=λd=>LY d.1,res:=λd=>([],vB (mZ d.1 d.2.1)) }
abbrev asG:List (Nat×Nat×CT):=[(61,62,adv),(63,64,adz)]
theorem aok(th:List TD) (mv mo:List Int) (mq:List (List Int)) (mg:List Int) (bf:List BD) (Dt:List TD) (mv2 PO:List Int) (PS:List (List Int)) (PU:List Int) (Eh:List BD) (aA:JA.pre ((th,(mv,mo,mq,mg,()),bf,()),(Dt,(mv2,PO,PS,PU,()),Eh,()),())):
 let z2:=(mv,mo,mq,mg,());let z1:=z2=(mv2,PO,PS,PU,());aZ z2/\(decide z1=true->th.length<=1000000/\∀(q:TD),q∈th->List.length q.snd.snd.snd.snd.snd.snd.snd.snd.snd.fst<=1000000)/\((decide z1 && mZ th Dt)=true->AO bf)/\qB (mZ (th,z2,bf,()) (Dt,(mv2,PO,PS,PU,()),Eh,())) (decide z1 && mZ th Dt && mZ bf Eh):=by
 conv=>zeta
 obtain⟨⟨hl,hT⟩,hM,hB⟩:iO th/\aZ (mv,mo,mq,mg,())/\AO bf:=aA;refine⟨hM,λ_=>⟨hl,λq hq=>(hT q hq).1⟩,λ_=>hB,jS ?_⟩
 rw[Et,nI];simp only[cZ,dG,nI];constructor
 .intro h;have h:=Prod.mk.inj h;have h2:=Prod.mk.inj h.2;have h3:=Prod.mk.inj h2.2;exact⟨⟨h2.1,h.1⟩,h3.1⟩
 .rintro⟨⟨h1,h2⟩,h3⟩;rw[h1,h2,h3]
theorem aiI:aN aK.gd 24 JA:=
 (oO (cx:=aK) (n:=24) (cl:=[(60,BX)]) (il:=ilN) (hl:=asG) (ml:=mlN) (rc:=[]) (lits:=[]) (suf:=[]) (by kernel_rfl) ay ⟨aij,trivial⟩ trivial ⟨adw,adA,trivial⟩ trivial Tryz.func24 (by kernel_rfl) (by kernel_rfl) rfl (by kernel_rfl) (by kernel_rfl) (by simp) λd hd=>by
  obtain⟨⟨th,⟨mv,mo,mq,mg,⟨⟩⟩,bf,⟨⟩⟩,⟨Dt,⟨mv2,PO,PS,PU,⟨⟩⟩,Eh,⟨⟩⟩,⟨⟩⟩:=d;exact aI (λ_=>none) (aok th mv mo mq mg bf Dt mv2 PO PS PU Eh hd) (by kernel_rfl)).met
def nZ(m:MD):Bool:=decide (m.1.length<=20) && decide (m.2.1.length<=20) && decide (m.2.2.1.length<=20) && decide (m.2.2.2.1.length<=60) && m.2.2.1.all (λq=>decide (q.length<=60))
theorem nJ(h:nZ m=true):aZ m:=by
 obtain⟨vs,os,qs,sg,⟨⟩⟩:=m;unfold nZ at h;simp only[cZ,P7,dG]at h;obtain⟨⟨⟨⟨h1,h2⟩,h3⟩,h4⟩,h5⟩:=h;refine⟨by show vs.length<=1000;omega,by show os.length<=1000;omega,by show qs.length<=1000;omega,by show sg.length<=1000;omega,λq hq=>by have:=h5 q hq;omega,?_⟩
 have key:∀l:List (List Int),(∀q∈l,q.length<=60)->l.flatten.length<=60 * l.length:=by
  intro l
  induction l with
  | nil=>intro _;simp
  | cons a l ih=>
    intro hl;have:=ih λq hq=>hl q (by simp[hq])
    have:=hl a (by simp)
    simp only[Qi,kK,sZ];omega
 have:=key qs h5;show qs.flatten.length<=100000;omega
theorem PV:∀(qs:List (List Int)) (k:Nat) (d:List Int) (x:Int),qs[k]?=some d->((qs.set k (d++[x])).flatten).Perm (x :: qs.flatten)
 | [],k,d,x,h=>by simp at h
 | q :: qs,0,d,x,h=>by
   simp only[V7,A97]at h;subst h;simp only[Yn,Qi,yU,V8];exact List.perm_middle
 | q :: qs,k+1,d,x,h=>by
   rw[aei]at h;have ih:=PV qs k d x h;simp only[akl,Qi];exact(ih.append_left q).trans List.perm_middle
theorem JB:qm m id=true↔id∈m.2.2.2.1++m.2.2.1.flatten:=by
 unfold qm;rw[wX,MR,nT,Du,List.mem_flatten];constructor
 .rintro(⟨q,h1,h2⟩ | h)
  .exact .inr ⟨q,h1,nT.1 h2⟩
  .exact .inl h
 .rintro(h | ⟨q,h1,h2⟩)
  .exact .inr h
  .exact .inl ⟨q,h1,nT.2 h2⟩
theorem PW(hB:dI (vs,os,qs,sg,())=true){d:List Int} (hk:qs[k]?=some d) (h0:0<=id):
 dI (vs,os,qs.set k (d++[id]),sg,()) = !qm (vs,os,qs,sg,()) id:=by
 obtain⟨q1,q2,q3,q4,q5,q6,q7,q8⟩:vs.length<=8/\os.length<=4/\qs.length<=4/\SS sg/\(∀v∈vs,bY v=true)/\(∀o∈os,-1<=o)/\(∀x∈sg++qs.flatten,0<=x)/\(sg++qs.flatten).Nodup:=fA.1 hB;have hp:(sg++(qs.set k (d++[id])).flatten).Perm (id :: (sg++qs.flatten)):=((PV qs k d id hk).append_left sg).trans List.perm_middle;rw[Et,fA,Ep,TJ];constructor
 .intro h w;obtain⟨_,_,_,_,_,_,_,p8⟩:vs.length<=8/\os.length<=4/\(qs.set k (d++[id])).length<=4/\SS sg/\(∀v∈vs,bY v=true)/\(∀o∈os,-1<=o)/\(∀x∈sg++(qs.set k (d++[id])).flatten,0<=x)/\(sg++(qs.set k (d++[id])).flatten).Nodup:=h;exact(Wn.1 (hp.nodup_iff.1 p8)).1 (JB.1 w)
 .intro w;refine(⟨q1,q2,by rw[xg];exact q3,q4,q5,q6,λx hx=>?_,hp.nodup_iff.2 (Wn.2 ⟨λhm=>w (JB.2 hm),q8⟩)⟩:Jl (vs,os,qs.set k (d++[id]),sg,()))
  rcases nG.1 (hp.mem_iff.1 hx) with rfl | hx
  .exact h0
  .exact q7 x hx
theorem qp(h:nZ (vs,os,qs,sg,())=true):vs.length<=20/\os.length<=20/\qs.length<=20/\sg.length<=60/\∀q∈qs,q.length<=60:=by
 unfold nZ at h;simp only[cZ,P7,dG]at h;obtain⟨⟨⟨⟨h1,h2⟩,h3⟩,h4⟩,h5⟩:=h;exact⟨h1,h2,h3,h4,h5⟩
theorem adB(h1:vs.length<=20) (h2:os.length<=20) (h3:qs.length<=20) (h4:sg.length<=200) (h5:∀q∈qs,q.length<=61):aZ (vs,os,qs,sg,()):=by
 have key:∀l:List (List Int),(∀q∈l,q.length<=61)->l.flatten.length<=61 * l.length:=by
  intro l
  induction l with
  | nil=>intro _;simp
  | cons a l ih=>
    intro hl;have:=ih λq hq=>hl q (by simp[hq])
    have:=hl a (by simp)
    simp only[Qi,kK,sZ];omega
 have h6:=key qs h5;exact⟨by show vs.length<=1000;omega,by show os.length<=1000;omega,by show qs.length<=1000;omega,by show sg.length<=1000;omega,λq hq=>by have:=h5 q hq;omega,by show qs.flatten.length<=100000;omega⟩
theorem LZ{s:List Int} (h:nZ (vs,os,qs,sg,())=true){q:List Int} (hq:q.length<=61) (hs:s.length<=200):aZ (vs,os,qs.set k q,s,()):=by
 obtain⟨h1,h2,h3,h4,h5⟩:=qp h;refine adB h1 h2 (by rw[xg];exact h3) hs λx hx=>?_
 rcases MF hx with hx | rfl
 .have:=h5 x hx;omega
 .exact hq
theorem adC(h:nZ (vs,os,qs,sg,())=true) (k:Nat):(qs[k]?.getD []).length<=60:=by
 cases hk:qs[k]? with
 | none=>simp
 | some d=>exact(qp h).2.2.2.2 d (gQ hk)
theorem G7:aZ zM:=⟨by decide,by decide,by decide,by decide,by decide,by decide⟩
theorem aiJ{c:Int} (h:nZ m=true):aZ (qo m c id).1:=by
 obtain⟨vs,os,qs,sg,⟨⟩⟩:=m;have h4:=(qp h).2.2.2.1;have ha:=adC h c.toNat;unfold qo;split
 .split
  .exact G7
  .split
   .exact G7
   .exact LZ h (by simp only[kK,sZ,AY];omega) (by omega)
 .exact G7
theorem aol{c n:Int} (h:nZ m=true):aZ (oG m c n).1:=by
 obtain⟨vs,os,qs,sg,⟨⟩⟩:=m;have h4:=(qp h).2.2.2.1;have ha:=adC h c.toNat;unfold oG;split
 .refine LZ h (by dsimp only;rw[xO];omega) ?_
  refine oh (BZ _ _) ?_;dsimp only;rw[kH];omega
 .exact G7
theorem adD(h:nZ m=true):aZ (mY m id).1:=by
 obtain⟨vs,os,qs,sg,⟨⟩⟩:=m;obtain⟨h1,h2,h3,h4,h5⟩:=qp h;unfold mY;split
 .exact G7
 .split
  .exact G7
  .refine adB h1 h2 h3 ?_ λq hq=>by have:=h5 q hq;omega
   refine oh (X6 _ _) (oh (Au sg []) ?_);simp;omega
end
end Go.Proofs.YtjhenjhcbcalpaaGreatDoor
