/- Part 11 of the proof. Conditions: the rows'. -/
import Derived.Test.YtjhenjhcbcalpaaGreatDoorB10
set_option linter.unusedSimpArgs false
set_option linter.unusedVariables false
set_option maxRecDepth 1000000
set_option maxHeartbeats 8000000
namespace Go.Proofs.YtjhenjhcbcalpaaGreatDoor
open Go Go.l9
noncomputable section
variable {qs:List (List Int)}{k:Nat}{vs os sg:List Int}{ms cs:List ByteArray}{fs:List FD}{ts:List SD}{bound id:Int}{l:List TD}{m:MD}{p:TD->Bool}
def jC(p:PD) (m:MD):Bool:=decide ((aC p.1 p.2.1 p.2.2.1 p.2.2.2.1 p.2.2.2.2.1).1=0) && dK m && decide (m.1.length=p.1.length) && decide (m.2.1.length=p.2.1.length) && decide (m.2.2.1.length=p.2.2.1.length)
theorem agQ(vs:List VD) (ms cs:List ByteArray) (fs:List FD) (ts:List SD) (aG:aaJ.pre ((vs,ms,cs,fs,ts,()),())):
 let z1:=decide ((aC vs ms cs fs ts).fst=0);(vs.length<=1000000/\ms.length<=1000000/\cs.length<=1000000/\fs.length<=1000000/\ts.length<=1000000/\(∀(x:ByteArray×(lY.sl.pair Sh.unit).den),x∈fs->List.length x.snd.fst<=1000000)/\(dM fs).length<=1000000)/\qB z1 z1:=by
 conv=>zeta
 delta qB I6;exact⟨aG,rfl,rfl⟩
theorem abU:aU aS.gd 156 aaJ:=
 jW (cx:=aS) (n:=14) (cl:=[(74,IU)]) au ⟨Dz,trivial⟩ Tryz.func156 λd hd=>by
  obtain⟨⟨vs,ms,cs,fs,ts,⟨⟩⟩,⟨⟩⟩:=d;exact aP (λ_=>none) (agQ vs ms cs fs ts hd) (by kernel_rfl)
theorem alI(vs:List VD) (ms cs:List ByteArray) (fs:List FD) (ts:List SD) (aG:KD.pre ((vs,ms,cs,fs,ts,()),())):
 let z1:=decide ((aC vs ms cs fs ts).fst=0);(vs.length<=1000000/\ms.length<=1000000/\cs.length<=1000000/\fs.length<=1000000/\ts.length<=1000000/\(∀(x:ByteArray×(lY.sl.pair Sh.unit).den),x∈fs->List.length x.snd.fst<=1000000)/\(dM fs).length<=1000000)/\qB z1 z1:=by
 conv=>zeta
 delta qB I6;exact⟨aG,rfl,rfl⟩
theorem Uc:aU aS.gd 67 KD:=
 jW (cx:=aS) (n:=14) (cl:=[(66,FQ)]) au ⟨KC,trivial⟩ Tryz.func67 λd hd=>by
  obtain⟨⟨vs,ms,cs,fs,ts,⟨⟩⟩,⟨⟩⟩:=d;exact aP (λ_=>none) (alI vs ms cs fs ts hd) (by kernel_rfl)
abbrev Ws:CT:={ ps:=[oW,wF],pre:=λd=>bnd (d.1,())/\bK d.2.1,res:=λd=>([],vB (jC d.1 d.2.1)) }
theorem alJ(vs:List VD) (ms cs:List ByteArray) (fs:List FD) (ts:List SD) (ws os:List Int) (qs:List (List Int)) (sg:List Int) (aG:Ws.pre ((vs,ms,cs,fs,ts,()),(ws,os,qs,sg,()),())):
 let z1:=(aC vs ms cs fs ts).fst=0;let z2:=(ws,os,qs,sg,());(vs.length<=1000000/\ms.length<=1000000/\cs.length<=1000000/\fs.length<=1000000/\ts.length<=1000000/\(∀(x:ByteArray×(lY.sl.pair Sh.unit).den),x∈fs->List.length x.snd.fst<=1000000)/\(dM fs).length<=1000000)/\(decide z1=true->bK z2)/\qB (jC (vs,ms,cs,fs,ts,()) z2) (decide z1 && dK z2 && decide ((ws.length:Int)=(vs.length:Int)) && decide ((os.length:Int)=(ms.length:Int)) && decide ((qs.length:Int)=(cs.length:Int))):=by
 conv=>zeta
 delta qB I6;obtain⟨h1,h2⟩:=aG;refine⟨h1,λ_=>h2,rfl,?_⟩
 unfold jC;simp only[Int.ofNat_inj]
theorem agR:aU aS.gd 84 Ws:=
 dY (cx:=aS) (n:=38) (cl:=[(156,aaJ),(157,abC)]) (rc:=[]) au ⟨abU,Gi,trivial⟩ Tryz.func84 λd hd=>by
  obtain⟨⟨vs,ms,cs,fs,ts,⟨⟩⟩,⟨ws,os,qs,sg,⟨⟩⟩,⟨⟩⟩:=d;exact aP (λ_=>none) (alJ vs ms cs fs ts ws os qs sg hd) (by kernel_rfl)
theorem alK(vs:List VD) (ms cs:List ByteArray) (fs:List FD) (ts:List SD) (ws os:List Int) (qs:List (List Int)) (sg:List Int) (aG:Ws.pre ((vs,ms,cs,fs,ts,()),(ws,os,qs,sg,()),())):
 let z1:=(aC vs ms cs fs ts).fst=0;let z2:=(ws,os,qs,sg,());(vs.length<=1000000/\ms.length<=1000000/\cs.length<=1000000/\fs.length<=1000000/\ts.length<=1000000/\(∀(x:ByteArray×(lY.sl.pair Sh.unit).den),x∈fs->List.length x.snd.fst<=1000000)/\(dM fs).length<=1000000)/\(decide z1=true->bK z2)/\qB (jC (vs,ms,cs,fs,ts,()) z2) (decide z1 && dK z2 && decide ((ws.length:Int)=(vs.length:Int)) && decide ((os.length:Int)=(ms.length:Int)) && decide ((qs.length:Int)=(cs.length:Int))):=by
 conv=>zeta
 delta qB I6;obtain⟨h1,h2⟩:=aG;refine⟨h1,λ_=>h2,rfl,?_⟩
 unfold jC;simp only[Int.ofNat_inj]
theorem agS:aU aS.gd 69 Ws:=
 dY (cx:=aS) (n:=38) (cl:=[(67,KD),(137,alx)]) (rc:=[]) au ⟨Uc,abD,trivial⟩ Tryz.func69 λd hd=>by
  obtain⟨⟨vs,ms,cs,fs,ts,⟨⟩⟩,⟨ws,os,qs,sg,⟨⟩⟩,⟨⟩⟩:=d;exact aP (λ_=>none) (alK vs ms cs fs ts ws os qs sg hd) (by kernel_rfl)
abbrev alL(l m:List Int):Nat->Option (St->jK):=λk=>match k with
 | 4=>some λ_=>.inv { α:=Nat,slots:=λk=>[(13,.c (.v (.int .i64 k)))],res:=λk=>[],inv:=λk=>k<=(l).length/\∀j < k,l[j]?=m[j]?,meas:=λk=>(l).length - k }
 | _=>none
theorem agT(l m:List Int) (aG:uV.pre (l,m,())):
 let z2:=qB (decide (l=m)) false;let z1:=λ(x:Nat)=>(x<=l.length/\∀(j:Nat),j < x->l[j]?=m[j]?);br (!decide ((l.length:Int)=(m.length:Int))) z2 ((∃x,(z1 x)/\(cI 0=cI (x:Int)/\True)/\([]:List dP)=[])/\∀(x:Nat),(z1 x)->br (decide ((x:Int) < (l.length:Int))) ((0<=(x:Int)/\(x:Int) < (l.length:Int))/\∀(d:Int),l[(x:Int).toNat]?=some d->(0<=(x:Int)/\(x:Int) < (m.length:Int))/\∀(bJ:Int),m[(x:Int).toNat]?=some bJ->br (!decide (d=bJ)) z2 (iR ((x:Int)+(1:Int))/\∃x',(z1 x')/\(cI ((x:Int)+(1:Int))=cI (x':Int)/\True)/\([]:List dP)=[]/\l.length - x' < l.length - x)) (qB (decide (l=m)) true)):=by
 conv=>zeta
 delta dP cI qB iR;have hp:l.length<=1000000:=aG;have fF:l≠m->([]:List Go.l9.ak)=[]/\bg.one (SV.c (SC.v (Value.bool (decide (l=m)))))=bg.one (SV.c (SC.v (Value.bool false))):=λq=>⟨rfl,by rw[Aw q]⟩
 refine ah.2 ⟨λh=>fF λq=>?_,λh=>?_⟩
 .subst q;simp at h
 simp only[wI,dN]at h;refine⟨⟨0,⟨by omega,λj hj=>by omega⟩,⟨rfl,trivial⟩,rfl⟩,λk hk=>ah.2 ⟨λg=>?_,λg=>?_⟩⟩
 .simp only[dN]at g;refine⟨⟨by omega,by omega⟩,λd hd=>⟨⟨by omega,by omega⟩,λd1 hd1=>ah.2 ⟨λg2=>fF λq=>?_,λg2=>⟨ay.2 (by omega),k+1,⟨by omega,λj hj=>?_⟩,⟨rfl,trivial⟩,rfl,by omega⟩⟩⟩⟩
  .subst q;rw[hd]at hd1;cases hd1;simp at g2
  .by_cases iY:j=k
   .subst iY;have hd:l[j]?=some d:=hd;have hd1:m[j]?=some d1:=hd1;simp at g2;rw[hd,hd1,g2]
   .exact hk.2 j (by omega)
 simp only[eH]at g;have e:l=m:=by
  apply Jh;intro j
  by_cases hj:j < k
  .exact hk.2 j hj
  .rw[CJ (by omega),CJ (by omega)]
 exact⟨rfl,by rw[xq e]⟩
theorem Gj:aU aS.gd 127 uV:=
 dY (cx:=aS) (n:=26) (cl:=[]) (rc:=[]) au trivial Tryz.func127 λd hd=>by
  obtain⟨l,m,⟨⟩⟩:=d;exact aP (alL l m) (agT l m hd) (by kernel_rfl)
theorem agU(l m:List Int) (aG:uV.pre (l,m,())):
 l.length<=1000000/\qB (decide (l=m)) (decide (l=m)):=by
 delta qB;exact⟨aG,rfl,rfl⟩
theorem abV:aU aS.gd 129 uV:=
 dY (cx:=aS) (n:=8) (cl:=[(127,uV)]) (rc:=[]) au ⟨Gj,trivial⟩ Tryz.func129 λd hd=>by
  obtain⟨l,m,⟨⟩⟩:=d;exact aP (λ_=>none) (agU l m hd) (by kernel_rfl)
abbrev abW:CT:={ ps:=[.sl (.sl (.int .i64)),.sl (.sl (.int .i64))],pre:=λd=>d.1.length<=1000000/\∀q∈d.1,q.length<=1000000,res:=λd=>([],vB (decide (d.1=d.2.1))) }
abbrev alM(l m:List (List Int)):Nat->Option (St->jK):=λk=>match k with
 | 4=>some λ_=>.inv { α:=Nat,slots:=λk=>[(17,.c (.v (.int .i64 k)))],res:=λk=>[],inv:=λk=>k<=(l).length/\∀j < k,l[j]?=m[j]?,meas:=λk=>(l).length - k }
 | _=>none
theorem agV(l m:List (List Int)) (aG:abW.pre (l,m,())):
 let z2:=qB (decide (l=m)) false;let z1:=λ(x:Nat)=>(x<=l.length/\∀(j:Nat),j < x->l[j]?=m[j]?);br (!decide ((l.length:Int)=(m.length:Int))) z2 ((∃x,(z1 x)/\(cI 0=cI (x:Int)/\True)/\([]:List dP)=[])/\∀(x:Nat),(z1 x)->br (decide ((x:Int) < (l.length:Int))) ((0<=(x:Int)/\(x:Int) < (l.length:Int))/\∀(d:List Int),l[(x:Int).toNat]?=some d->(0<=(x:Int)/\(x:Int) < (m.length:Int))/\∀(bJ:List Int),m[(x:Int).toNat]?=some bJ->d.length<=1000000/\br (!decide (d=bJ)) z2 (iR ((x:Int)+(1:Int))/\∃x',(z1 x')/\(cI ((x:Int)+(1:Int))=cI (x':Int)/\True)/\([]:List dP)=[]/\l.length - x' < l.length - x)) (qB (decide (l=m)) true)):=by
 conv=>zeta
 delta dP cI qB iR;obtain⟨hp,h6⟩:l.length<=1000000/\∀q∈l,q.length<=1000000:=aG;have fF:l≠m->([]:List Go.l9.ak)=[]/\bg.one (SV.c (SC.v (Value.bool (decide (l=m)))))=bg.one (SV.c (SC.v (Value.bool false))):=λq=>⟨rfl,by rw[Aw q]⟩
 refine ah.2 ⟨λh=>fF λq=>?_,λh=>?_⟩
 .subst q;simp at h
 simp only[wI,dN]at h;refine⟨⟨0,⟨by omega,λj hj=>by omega⟩,⟨rfl,trivial⟩,rfl⟩,λk hk=>ah.2 ⟨λg=>?_,λg=>?_⟩⟩
 .simp only[dN]at g;refine⟨⟨by omega,by omega⟩,λd hd=>⟨⟨by omega,by omega⟩,λd1 hd1=>⟨h6 d (gZ hd),ah.2 ⟨λg2=>fF λq=>?_,λg2=>⟨ay.2 (by omega),k+1,⟨by omega,λj hj=>?_⟩,⟨rfl,trivial⟩,rfl,by omega⟩⟩⟩⟩⟩
  .subst q;rw[hd]at hd1;cases hd1;simp at g2
  .by_cases iY:j=k
   .subst iY;have hd:l[j]?=some d:=hd;have hd1:m[j]?=some d1:=hd1;simp at g2;rw[hd,hd1,g2]
   .exact hk.2 j (by omega)
 simp only[eH]at g;have e:l=m:=by
  apply Jh;intro j
  by_cases hj:j < k
  .exact hk.2 j hj
  .rw[CJ (by omega),CJ (by omega)]
 exact⟨rfl,by rw[xq e]⟩
theorem Wu:J7 Tryz.prog aS.gd 128 [.func (.func 129) #[] #[]] abW:=
 (nZ (cx:=aS) (n:=32) (cl:=[(129,uV)]) (il:=ilN) (hl:=hlN) (ml:=mlN) (rc:=[]) (lits:=[]) (suf:=[.func (.func 129) #[] #[]]) (by kernel_rfl) au ⟨abV,trivial⟩ trivial trivial trivial Tryz.func128 (by kernel_rfl) (by kernel_rfl) rfl (by kernel_rfl) (by kernel_rfl) (by simp) λd hd=>by
  obtain⟨l,m,⟨⟩⟩:=d;exact aP (alM l m) (agV l m hd) (by kernel_rfl))
abbrev QV:List (Nat×Nat×CT):=[(128,129,abW)]
theorem alN(vs os:List Int) (qs:List (List Int)) (sg vs2 os2:List Int) (qs2:List (List Int)) (sg2:List Int) (aG:QN.pre ((vs,os,qs,sg,()),(vs2,os2,qs2,sg2,()),())):
 vs.length<=1000000/\(decide (vs=vs2)=true->os.length<=1000000)/\((decide (vs=vs2) && decide (os=os2))=true->sg.length<=1000000)/\((decide (vs=vs2) && decide (os=os2) && decide (sg=sg2))=true->qs.length<=1000000/\∀(q:List Int),q∈qs->q.length<=1000000)/\qB (decide ((vs,os,qs,sg,())=(vs2,os2,qs2,sg2,()))) (decide (vs=vs2) && decide (os=os2) && decide (sg=sg2) && decide (qs=qs2)):=by
 delta qB;obtain⟨b1,b2,b3,b4,b5,b6⟩:vs.length<=1000/\os.length<=1000/\qs.length<=1000/\sg.length<=1000/\(∀q∈qs,q.length<=1000)/\qs.flatten.length<=100000:=aG;have e:decide ((vs,os,qs,sg,())=(vs2,os2,qs2,sg2,()))=(decide (vs=vs2) && decide (os=os2) && decide (sg=sg2) && decide (qs=qs2)):=by
  rw[Gy];simp only[dN,bY,GR,and_true];constructor
  .rintro⟨h1,h2,h3,h4⟩;exact⟨⟨⟨h1,h2⟩,h4⟩,h3⟩
  .rintro⟨⟨⟨h1,h2⟩,h4⟩,h3⟩;exact⟨h1,h2,h3,h4⟩
 refine⟨by omega,λ_=>by omega,λ_=>by omega,λ_=>⟨by omega,λq hq=>by have:=b5 q hq;omega⟩,rfl,?_⟩
 rw[e]
theorem agW:aU aS.gd 60 QN:=
 (nZ (cx:=aS) (n:=31) (cl:=[(127,uV)]) (il:=ilN) (hl:=QV) (ml:=mlN) (rc:=[]) (lits:=[]) (suf:=[]) (by kernel_rfl) au ⟨Gj,trivial⟩ trivial ⟨Wu,trivial⟩ trivial Tryz.func60 (by kernel_rfl) (by kernel_rfl) rfl (by kernel_rfl) (by kernel_rfl) (by simp) λd hd=>by
  obtain⟨⟨vs,os,qs,sg,⟨⟩⟩,⟨vs2,os2,qs2,sg2,⟨⟩⟩,⟨⟩⟩:=d;exact aP (λ_=>none) (alN vs os qs sg vs2 os2 qs2 sg2 hd) (by kernel_rfl)).met
theorem DI:∀(l sg:List Int),SS sg->SS (jR sg l)/\∀y,y∈jR sg l↔y∈sg\/y∈l
 | [],sg,h=>⟨h,λy=>by simp[jR]⟩
 | x :: l,sg,h=>by
   have ih:=DI l (aY (sg++[x])) (zo _);have e:jR sg (x :: l)=jR (aY (sg++[x])) l:=rfl;rw[e];refine⟨ih.1,λy=>?_⟩
   rw[ih.2 y,zq];simp[or_assoc]
def kZ(qs:List (List Int)):Int:=qs.foldl (λa q=>fM a q.length) 0
theorem Wv{d:List Int} (h:qs[k]?=some d):kZ (qs.take (k+1))=fM (kZ (qs.take k)) d.length:=by
 unfold kZ;rw[OJ,h];simp
theorem DJ:∀(qs:List (List Int)) (a:Int),a<=qs.foldl (λa q=>fM a (q.length:Int)) a/\∀q∈qs,(q.length:Int)<=qs.foldl (λa q=>fM a (q.length:Int)) a
 | [],a=>⟨Int.le_refl _,λq hq=>by cases hq⟩
 | x :: qs,a=>by
   have ih:=DJ qs (fM a x.length);have h:a<=fM a x.length/\(x.length:Int)<=fM a x.length:=by unfold fM;split<;>omega
   refine⟨Int.le_trans h.1 ih.1,λq hq=>?_⟩
   rcases lU.1 hq with rfl | hq
   .exact Int.le_trans h.2 ih.1
   .exact ih.2 q hq
abbrev abX:CT:={ ps:=[wF,.int .i64],pre:=λd=>bK d.1,res:=λd=>([],.iJ [.agg [.sl (.int .i64) ((rP d.1 d.2.1 (kZ d.1.2.2.1)).1).1,.sl (.int .i64) ((rP d.1 d.2.1 (kZ d.1.2.2.1)).1).2.1,.sl (.sl (.int .i64)) ((rP d.1 d.2.1 (kZ d.1.2.2.1)).1).2.2.1,.sl (.int .i64) ((rP d.1 d.2.1 (kZ d.1.2.2.1)).1).2.2.2.1],.c (.v (.int .i64 ((rP d.1 d.2.1 (kZ d.1.2.2.1)).2.1))),.c (.v (.int .i64 ((rP d.1 d.2.1 (kZ d.1.2.2.1)).2.2)))]) }
abbrev alP(vs os:List Int) (qs:List (List Int)) (sg:List Int) (c:Int):Nat->Option (St->jK):=λk=>match k with
 | 3=>some λ_=>.inv { α:=Nat,slots:=λk=>[(13,.c (.v (.int .i64 k))),(7,.c (.v (.int .i64 (kZ (qs.take k)))))],res:=λk=>[],inv:=λk=>k<=(qs).length,meas:=λk=>(qs).length - k }
 | _=>none
theorem agX(vs os:List Int) (qs:List (List Int)) (sg:List Int) (c:Int) (aG:abX.pre ((vs,os,qs,sg,()),c,())):
 let z4:=λ(x:Nat)=>kZ (List.take x qs);let z1:=[g0 (ak.blk 34 [SC.sl I6 vs,SC.sl I6 os,SC.sl I6.sl qs,SC.sl I6 sg]),g0 (ak.blk 34 nC)];let z5:=(vs,os,qs,sg,());let z3:=rP z5 c (kZ qs);let z2:=λ(x:Nat)=>rP z5 c (z4 x);(∃x,x<=qs.length/\(cI 0=cI (x:Int)/\cI 0=cI (z4 x)/\True)/\sm z1)/\∀(x:Nat),x<=qs.length->br (decide ((x:Int) < (qs.length:Int))) ((0<=(x:Int)/\(x:Int) < (qs.length:Int))/\∀(d:List Int),qs[(x:Int).toNat]?=some d->iR ((x:Int)+(1:Int))/\∃x',x'<=qs.length/\(cI ((x:Int)+(1:Int))=cI (x':Int)/\cI (fM (z4 x) (d.length:Int))=cI (z4 x')/\True)/\sm z1/\qs.length - x' < qs.length - x) ((bK z5/\0<=kZ (List.take x qs))/\rT [SV.agg [SC.sl I6 z3.fst.fst,SC.sl I6 z3.fst.snd.fst,SC.sl I6.sl z3.fst.snd.snd.fst,SC.sl I6 z3.fst.snd.snd.snd.fst],cI (z3.snd.fst),cI (z3.snd.snd)] [SV.agg [SC.sl I6 ((z2 x).fst.fst,(z2 x).fst.snd.fst,(z2 x).fst.snd.snd.fst,(z2 x).fst.snd.snd.snd.fst,()).fst,SC.sl I6 ((z2 x).fst.snd.fst,(z2 x).fst.snd.snd.fst,(z2 x).fst.snd.snd.snd.fst,()).fst,SC.sl I6.sl ((z2 x).fst.snd.snd.fst,(z2 x).fst.snd.snd.snd.fst,()).fst,SC.sl I6 (z2 x).fst.snd.snd.snd.fst],cI ((z2 x).snd.fst),cI ((z2 x).snd.snd)]):=by
 conv=>zeta
 delta nC cI g0 rT sm I6 iR iN;have hb:=aG;obtain⟨b1,b2,b3,b4,b5,b6⟩:vs.length<=1000/\os.length<=1000/\qs.length<=1000/\sg.length<=1000/\(∀q∈qs,q.length<=1000)/\qs.flatten.length<=100000:=aG;refine⟨⟨0,by omega,⟨rfl,rfl,trivial⟩,rfl⟩,λk hk=>ah.2 ⟨λg=>?_,λg=>?_⟩⟩
 .simp only[dN]at g;refine⟨⟨by omega,by omega⟩,λd hd=>⟨ay.2 (by omega),k+1,by omega,⟨rfl,?_,trivial⟩,rfl,by omega⟩⟩
  have hd:qs[k]?=some d:=hd;rw[Wv hd]
 simp only[eH]at g;rw[xg (i:=k) (by omega)]
 exact⟨⟨hb,(DJ qs 0).1⟩,rfl,rfl⟩
theorem abY:aU aS.gd 106 abX:=
 dY (cx:=aS) (n:=29) (cl:=[(166,Ub)]) (rc:=[.data wF,.keep,.keep]) au ⟨Ol,trivial⟩ Tryz.func106 λd hd=>by
  obtain⟨⟨vs,os,qs,sg,⟨⟩⟩,c,⟨⟩⟩:=d;exact aP (alP vs os qs sg c) (agX vs os qs sg c hd) (by kernel_rfl)
abbrev Wx:Sh:=.pair (.int .i64) (.pair (.int .i64) .unit)
abbrev zV:Sh:=.pair (.int .i64) (.pair (.int .i64) (.pair (.sl Wx) .unit))
abbrev Ud:Sh:=.pair (.sl dS) (.pair wF (.pair (.sl zV) .unit))
abbrev shE:Sh:=.pair (.int .i64) (.pair (.int .i64) (.pair (.int .i64) (.pair (.int .i64) (.pair (.int .i64) (.pair (.int .i64) (.pair (.int .i64) (.pair (.int .i64) (.pair (.int .i64) .unit))))))))
abbrev BD:=Int×Int×List (Int×Int×Unit)×Unit
abbrev ZD:=List TD×MD×List BD×Unit
abbrev ED:=Int×Int×Int×Int×Int×Int×Int×Int×Int×Unit
abbrev Ho(e:ED):SV:=.agg [v6 e.1,v6 e.2.1,v6 e.2.2.1,v6 e.2.2.2.1,v6 e.2.2.2.2.1,v6 e.2.2.2.2.2.1,v6 e.2.2.2.2.2.2.1,v6 e.2.2.2.2.2.2.2.1,v6 e.2.2.2.2.2.2.2.2.1]
abbrev agI(i:ID):SV:=.agg [v6 i.1,v6 i.2.1,v6 i.2.2.1,v6 i.2.2.2.1,v6 i.2.2.2.2.1,v6 i.2.2.2.2.2.1,v6 i.2.2.2.2.2.2.1,v6 i.2.2.2.2.2.2.2.1]
abbrev OG(m:MD):SV:=.agg [.sl I6 m.1,.sl I6 m.2.1,.sl I6.sl m.2.2.1,.sl I6 m.2.2.2.1]
abbrev BI(z:ZD):SV:=.agg [.sl dS z.1,.sl I6 z.2.1.1,.sl I6 z.2.1.2.1,.sl I6.sl z.2.1.2.2.1,.sl I6 z.2.1.2.2.2.1,.sl zV z.2.2.1]
abbrev qE(a b:ED):Prop:=([]:List ak)=[]/\bg.one (Ho a)=bg.one (Ho b)
abbrev bP(vs:List VD) (ms cs:List ByteArray) (fs:List FD) (ts:List SD):ak:=.blk 27 [.sl Hg vs,.sl .str ms,.sl .str cs,.sl Dw fs,.sl mO ts]
abbrev bZ(th:List TD) (mv mo:List Int) (mq:List (List Int)) (mg:List Int) (bf:List BD):ak:=.blk 37 [.sl dS th,.sl I6 mv,.sl I6 mo,.sl I6.sl mq,.sl I6 mg,.sl zV bf]
def tB(t:TD):Prop:=t.2.2.2.2.2.2.2.2.2.1.length<=1000000/\t.1<=9223372036854775807/\t.2.2.2.1.length=8
def iF(l:List TD):Prop:=l.length<=1000000/\∀t∈l,tB t
def jZ(l:List TD):Prop:=SS (l.map (·.1))
def VS(vs:List VD) (ms cs:List ByteArray) (fs:List FD) (ts:List SD) (bound:Int) (l:List TD) (m:MD) (bf:List BD):Prop:=
 jC (vs,ms,cs,fs,ts,()) m=true/\bf=[]/\(∀t∈l,bQ (aC vs ms cs fs ts).1 bound=0/\rO ms fs bound t)/\jZ l
open Classical in
def vsB(vs:List VD) (ms cs:List ByteArray) (fs:List FD) (ts:List SD) (bound:Int) (l:List TD) (m:MD) (bf:List BD):Bool:=decide (VS vs ms cs fs ts bound l m bf)
theorem iT{vs:List VD}{bf:List BD}:vsB vs ms cs fs ts bound l m bf=true↔VS vs ms cs fs ts bound l m bf:=by
 unfold vsB;exact @WZ _ (Classical.propDecidable _)
theorem Wy{vs:List VD}{bf:List BD} (h:¬VS vs ms cs fs ts bound l m bf):vsB vs ms cs fs ts bound l m bf=false:=A97.2 λq=>h (iT.1 q)
theorem QW(h:∀(j:Nat) a b,l[j]?=some a->l[j+1]?=some b->a.1 < b.1):jZ l:=by
 refine F5 λj x y hx hy=>?_
 rw[wJ]at hx hy;cases ha:l[j]? with
 | none=>rw[ha]at hx;cases hx
 | some a=>
   cases hb:l[j+1]? with
   | none=>rw[hb]at hy;cases hy
   | some b=>
     rw[ha]at hx;rw[hb]at hy;cases hx;cases hy;exact h j a b ha hb
theorem QX(h:jZ l){j:Nat}{a b:TD} (ha:l[j]?=some a) (hb:l[j+1]?=some b):a.1 < b.1:=
 KG h (j:=j) (by rw[wJ,ha];rfl) (by rw[wJ,hb];rfl)
def nN(l:List TD) (id:Int):Option TD:=l.find? λt=>decide (t.1=id)
def wG(b:Bool):Int:=if b=true then 1 else 0
def labS(m:MD) (t:TD) (i:ID):ED:=
 if i.1=8 then(t.1,t.2.2.2.2.1,1,i.2.2.2.2.1,-1,-1,i.2.2.2.2.2.2.2.1,m.1[i.2.2.2.2.1.toNat]?.getD 0,0,())
 else if i.1=14 then(t.1,t.2.2.2.2.1,8,i.2.2.2.2.1,-1,-1,i.2.2.2.2.2.2.2.1,m.1[i.2.2.2.2.1.toNat]?.getD 0,0,())
 else if i.1=9 then(t.1,t.2.2.2.2.1,2,i.2.2.2.2.1,-1,-1,i.2.2.2.2.2.2.2.1,0,t.2.2.2.1.getD i.2.2.1.toNat 0,())
 else if i.1=10 then(t.1,t.2.2.2.2.1,5,i.2.2.2.2.1,-1,-1,i.2.2.2.2.2.2.2.1,m.1[i.2.2.2.2.1.toNat]?.getD 0,t.2.2.2.1.getD i.2.2.1.toNat 0,())
 else if i.1=11 then(t.1,t.2.2.2.2.1,5,i.2.2.2.2.1,-1,-1,i.2.2.2.2.2.2.2.1,m.1[i.2.2.2.2.1.toNat]?.getD 0,(jd 1 (m.1[i.2.2.2.2.1.toNat]?.getD 0) (t.2.2.2.1.getD i.2.2.1.toNat 0)).1,())
 else if i.1=12 then
  (if m.1[i.2.2.2.2.1.toNat]?.getD 0=t.2.2.2.1.getD i.2.2.1.toNat 0 then(t.1,t.2.2.2.2.1,5,i.2.2.2.2.1,-1,-1,i.2.2.2.2.2.2.2.1,m.1[i.2.2.2.2.1.toNat]?.getD 0,t.2.2.2.1.getD i.2.2.2.1.toNat 0,())
   else(t.1,t.2.2.2.2.1,6,i.2.2.2.2.1,-1,-1,i.2.2.2.2.2.2.2.1,m.1[i.2.2.2.2.1.toNat]?.getD 0,0,()))
 else if i.1=13 then(t.1,t.2.2.2.2.1,7,i.2.2.2.2.1,-1,-1,0,0,0,())
 else if i.1=15 then(t.1,t.2.2.2.2.1,9,i.2.2.2.2.1,-1,-1,0,0,0,())
 else if i.1=16 then(t.1,t.2.2.2.2.1,10,i.2.2.2.2.1,-1,-1,0,0,0,())
 else if i.1=17 then(t.1,t.2.2.2.2.1,11,i.2.2.2.2.1,-1,-1,0,wG (qm m i.2.2.2.2.1),0,())
 else if i.1=18 then
  (if t.2.2.2.2.2.2.1=0 then(t.1,t.2.2.2.2.1,12,i.2.2.2.2.1,i.2.2.2.2.2.1,-1,0,0,0,())
   else if t.2.2.2.2.2.2.1=1 then(t.1,t.2.2.2.2.1,13,i.2.2.2.2.1,-1,-1,0,0,0,())
   else(t.1,t.2.2.2.2.1,9,i.2.2.2.2.2.1,-1,-1,0,0,0,()))
 else if i.1=19 then(t.1,t.2.2.2.2.1,14,i.2.2.2.2.1,-1,-1,0,kC 1 (m.2.2.1[i.2.2.2.2.1.toNat]?.getD []).length,0,())
 else if i.1=20 then(t.1,t.2.2.2.2.1,15,i.2.2.2.2.1,-1,-1,0,(m.2.2.1[i.2.2.2.2.1.toNat]?.getD []).length,0,())
 else if i.1=21 then(t.1,t.2.2.2.2.1,16,(bW t.1 t.2.2.2.2.2.1).1,-1,-1,0,0,0,())
 else(t.1,t.2.2.2.2.1,17,t.2.2.2.1.getD i.2.2.1.toNat 0,-1,-1,0,0,0,())
def CG(l:List TD) (m:MD) (t:TD) (i:ID):Bool:=
 if i.1=14 then decide ((jd i.2.2.2.2.2.2.1 (m.1[i.2.2.2.2.1.toNat]?.getD 0) (t.2.2.2.1.getD i.2.2.1.toNat 0)).1≠0)
 else if i.1=15 then qm m i.2.2.2.2.1
 else if i.1=18 then(if t.2.2.2.2.2.2.1=1 then dO m.2.2.2.1 t.1 else if t.2.2.2.2.2.2.1=2 then qm m i.2.2.2.2.2.1 else true)
 else if i.1=22 then(match nN l (t.2.2.2.1.getD i.2.2.1.toNat 0) with
  | some u=>decide (u.2.2.2.2.2.2.2.1=2) || decide (u.2.2.2.2.2.2.2.1=3)
  | none=>false)
 else true
def jG(m:MD) (e:ED):MD×Int:=
 if e.2.2.1=5\/e.2.2.1=2 then writeM m e.2.2.2.1 e.2.2.2.2.2.2.2.2.1
 else if e.2.2.1=9\/(e.2.2.1=11/\e.2.2.2.2.2.2.2.1≠0) then iL m e.2.2.2.1 e.1 (-1) e.1
 else if e.2.2.1=10 then iL m e.2.2.2.1 e.1 e.1 (-1)
 else if e.2.2.1=12 then(if(iL m e.2.2.2.2.1 e.1 e.1 (-1)).2=0 then rJ (iL m e.2.2.2.2.1 e.1 e.1 (-1)).1 e.2.2.2.1 e.1 else iL m e.2.2.2.2.1 e.1 e.1 (-1))
 else if e.2.2.1=13 then kY m e.1
 else if e.2.2.1=14 then((rP m e.2.2.2.1 1).1,(rP m e.2.2.2.1 1).2.2)
 else if e.2.2.1=15 then((rP m e.2.2.2.1 (kZ m.2.2.1)).1,(rP m e.2.2.2.1 (kZ m.2.2.1)).2.2)
 else(m,0)
def lS(i:ID) (e:ED):Int:=
 if e.2.2.1=5 then(if i.1=12 then 1 else e.2.2.2.2.2.2.2.1) else if e.2.2.1=1\/e.2.2.1=8 then e.2.2.2.2.2.2.2.1
 else if e.2.2.1=11 then(if e.2.2.2.2.2.2.2.1=0 then 0 else 1) else if e.2.2.1=16 then e.2.2.2.1 else 0
def zE:ED:=(0,0,0,0,0,0,0,0,0,())
def zZ:ZD:=([],zM,[],())
def gy(p:TD->Bool) (l:List TD):Int:=match l.findIdx? p with
 | some i=>i
 | none=>-1
theorem agY{d:TD} (hk:l[k]?=some d) (hd:p d=true) (h:∀j < k,∀t,l[j]?=some t->p t=false):gy p l=k:=by
 obtain⟨h1,h2⟩:=A8.1 hk;have:l.findIdx? p=some k:=by
  rw[A52];refine⟨h1,by rw[h2];exact hd,λj hj=>?_⟩
  rw[h j hj _ (kQ (by omega))];simp
 unfold gy;rw[this]
theorem ag0(h:∀j < l.length,∀t,l[j]?=some t->p t=false):gy p l = -1:=by
 have:l.findIdx? p=none:=by
  rw[A75];intro x hx;obtain⟨j,hj⟩:=Ai hx;exact h j (A8.1 hj).1 x hj
 unfold gy;rw[this]
abbrev alQ:SF:={ ss:=[dS],r:=.bool,ct:=λpr fn=>{ ps:=[.sl dS],pre:=λd=>d.1.length<=1000000/\∀t∈d.1,pr (t,()),res:=λd=>([],.one (.c (.v (.int .i64 (gy (λt=>fn (t,())) d.1))))) } }
abbrev aou:MK:={ ss:=[.int .i64],f:=λds=>.clo Tryz.prog [dS] .bool (λ_=>True) (λd=>decide (d.1.1=ds.1)) }
abbrev alR(pr:cO [dS]->Prop) (fn:cO [dS]->Bool) (l:List TD):Nat->Option (St->jK):=λk=>match k with
 | 2=>some λ_=>.inv { α:=Nat,slots:=λk=>[(8,.c (.v (.int .i64 k)))],res:=λ_=>[],inv:=λk=>k<=l.length/\∀j < k,∀t,l[j]?=some t->fn (t,())=false,meas:=λk=>l.length - k }
 | _=>none
abbrev aov:List (Nat×SF):=[]
theorem ag1(pr:cO [dS]->Prop) (fn:cO [dS]->Bool) (l:List TD) (aG:(alQ.ct pr fn).pre (l,())):
 let z1:=λ(x:Nat)=>(x<=l.length/\∀(j:Nat),j < x->∀(t:TD),l[j]?=some t->fn (t,())=false);let z2:=gy (λt=>fn (t,())) l;(∃x,(z1 x)/\(cI 0=cI (x:Int)/\True)/\([]:List dP)=[])/\∀(x:Nat),(z1 x)->br (decide ((x:Int) < (l.length:Int))) ((0<=(x:Int)/\(x:Int) < (l.length:Int))/\∀(d:TD),l[(x:Int).toNat]?=some d->some Tryz.prog=some Tryz.prog/\pr (d,())/\br (fn (d,())) (qI z2 (x:Int)) (iR ((x:Int)+(1:Int))/\∃x',(z1 x')/\(cI ((x:Int)+(1:Int))=cI (x':Int)/\True)/\([]:List dP)=[]/\l.length - x' < l.length - x)) (qI z2 (-1:Int)):=by
 conv=>zeta
 delta dP iR;obtain⟨hl,hp⟩:l.length<=1000000/\∀t∈l,pr (t,()):=aG;refine⟨⟨0,⟨by omega,λj hj=>by omega⟩,⟨rfl,trivial⟩,rfl⟩,λk hk=>ah.2 ⟨λg=>?_,λg=>?_⟩⟩
 .simp only[dN]at g;refine⟨⟨by omega,by omega⟩,λd hd=>⟨rfl,hp d (gZ hd),ah.2 ⟨λg2=>⟨rfl,?_⟩,λg2=>⟨ay.2 (by omega),k+1,⟨by omega,λj hj t ht=>?_⟩,⟨rfl,trivial⟩,rfl,by omega⟩⟩⟩⟩
  .have hd:l[k]?=some d:=hd;rw[agY (p:=λt=>fn (t,())) hd g2 hk.2]
  .by_cases e:j=k
   .subst e;have hd:l[j]?=some d:=hd;rw[hd]at ht;cases ht;exact g2
   .exact hk.2 j (by omega) t ht
 .simp only[eH]at g;refine⟨rfl,?_⟩;rw[ag0 (p:=λt=>fn (t,())) λj hj t ht=>hk.2 j (by omega) t ht]
theorem ag2:aej Tryz.prog aS.gd 113 alQ:=
 ajr (cx:=aS) (n:=19) (cl:=[]) (ml:=mlN) (fl:=aov) (rc:=[]) (by kernel_rfl) au trivial trivial trivial Tryz.func113 (by kernel_rfl) (by kernel_rfl) (λ_ _=>rfl) (by kernel_rfl) (by kernel_rfl) λpr fn d hd=>by
  obtain⟨l,⟨⟩⟩:=d;exact aP (alR pr fn l) (ag1 pr fn l hd) (by kernel_rfl)
theorem ag3(c0 id fn pc:Int) (rg:List Int) (st ch ph su fa:Int) (he:List Int):
 qB (decide (id=c0)) (decide (id=c0)):=by
 exact⟨rfl,rfl⟩
theorem ag4:Y3 Tryz.prog aS.gd 114 aou:=
 ajt (cx:=aS) (n:=8) (cl:=[]) (rc:=[]) (by kernel_rfl) au trivial Tryz.func114 (by kernel_rfl) (by kernel_rfl) rfl rfl (by kernel_rfl) (by kernel_rfl) λds d _ _=>by
  obtain⟨c0,⟨⟩⟩:=ds;obtain⟨⟨id,fn,pc,rg,st,ch,ph,su,fa,he,⟨⟩⟩,⟨⟩⟩:=d;exact aP (λ_=>none) (ag3 c0 id fn pc rg st ch ph su fa he) (by kernel_rfl)
abbrev Jc:CT:={ ps:=[.sl dS,.int .i64],pre:=λd=>d.1.length<=1000000,res:=λd=>([],.iJ [.c (.v (.int .i64 (fM (gy (λt=>decide (t.1=d.2.1)) d.1) 0))),.c (.v (.bool (decide (0<=gy (λt=>decide (t.1=d.2.1)) d.1))))]) }
abbrev aqg:List (Nat×SF):=[(113,alQ)]
abbrev aqh:List (Nat×MK):=[(114,aou)]
theorem alS(l:List TD) (id:Int) (aG:Jc.pre (l,id,())):
 let z1:=[I6.pair (I6.pair (I6.pair ((Sh.arr 8 I6).pair (I6.pair (I6.pair (I6.pair (I6.pair (I6.pair (I6.sl.pair Sh.unit)))))))))];True/\some Tryz.prog=some Tryz.prog/\∃pre' g',(Gz.clo Tryz.prog z1 Sh.bool (λx=>True) λd=>decide (d.fst.fst=id))=Gz.clo Tryz.prog z1 Sh.bool pre' g'/\(l.length<=1000000/\∀(t:TD),t∈l->pre' (t,()))/\rT [cI (fM (gy (λt=>decide (t.fst=(l,id,()).snd.fst)) l) (0:Int)),cB (decide (0<=gy (λt=>decide (t.fst=(l,id,()).snd.fst)) l))] [cI (fM (gy (λt=>g' (t,())) l) (0:Int)),cB (decide (0<=gy (λt=>g' (t,())) l))]:=by
 conv=>zeta
 exact⟨trivial,rfl,λ_=>True,λd=>decide (d.1.1=id),rfl,⟨aG,λ_ _=>trivial⟩,rfl,rfl⟩
theorem DK:aU aS.gd 52 Jc:=
 aek (cx:=aS) (n:=14) (cl:=[]) (ml:=aqh) (fl:=aqg) (rc:=[]) (by kernel_rfl) au trivial ⟨ag4,trivial⟩ ⟨ag2,trivial⟩ Tryz.func52 (by kernel_rfl) (by kernel_rfl) rfl (by kernel_rfl) (by kernel_rfl) λd hd=>by
  obtain⟨l,id,⟨⟩⟩:=d;exact aP (λ_=>none) (alS l id hd) (by kernel_rfl)
def Ue(vs:List VD) (ms cs:List ByteArray) (fs:List FD) (ts:List SD) (bound:Int) (l:List TD):Prop:=(∀t∈l,bQ (aC vs ms cs fs ts).1 bound=0/\rO ms fs bound t)/\jZ l
open Classical in
def KQ(vs:List VD) (ms cs:List ByteArray) (fs:List FD) (ts:List SD) (bound:Int) (l:List TD):Bool:=decide (Ue vs ms cs fs ts bound l)
theorem Gl{vs:List VD}:KQ vs ms cs fs ts bound l=true↔Ue vs ms cs fs ts bound l:=by
 unfold KQ;exact @WZ _ (Classical.propDecidable _)
theorem QY{vs:List VD} (h:¬Ue vs ms cs fs ts bound l):KQ vs ms cs fs ts bound l=false:=A97.2 λq=>h (Gl.1 q)
theorem alT(vs:List VD) (ms cs:List ByteArray) (fs:List FD) (ts:List SD) (bound:Int) (aG:tN.pre ((vs,ms,cs,fs,ts,()),bound,())):
 let z2:=aC vs ms cs fs ts;let z1:=bQ z2.fst bound;(bnd ((vs,ms,cs,fs,ts,()),()))/\br (!decide (z2.fst=0)) (qI z1 (z2.fst)) (br (decide (bound < 1) || decide (32 < bound)) (qI z1 (2:Int)) (qI z1 (0:Int))):=by
 conv=>zeta
 have hb:bnd ((vs,ms,cs,fs,ts,()),()):=aG;refine⟨hb,ah.2 ⟨λh=>?_,λh=>ah.2 ⟨λh2=>?_,λh2=>?_⟩⟩⟩
 .have h:(aC vs ms cs fs ts).1≠0:=by simpa using h
  have e:bQ (aC vs ms cs fs ts).1 bound=(aC vs ms cs fs ts).1:=by unfold bQ;rw[if_pos h]
  rw[e];exact⟨rfl,rfl⟩
 all_goals have h:¬(aC vs ms cs fs ts).1≠0:=by simpa using h
 .have h2:bound < 1\/32 < bound:=by simpa using h2
  have e:bQ (aC vs ms cs fs ts).1 bound=2:=by unfold bQ;rw[if_neg h,if_pos h2]
  rw[e];exact⟨rfl,rfl⟩
 .have h2:¬(bound < 1\/32 < bound):=by simp only[l7,eH]at h2;omega
  have e:bQ (aC vs ms cs fs ts).1 bound=0:=by unfold bQ;rw[if_neg h,if_neg h2]
  rw[e];exact⟨rfl,rfl⟩
theorem Uf:aU aS.gd 32 tN:=
 dY (cx:=aS) (n:=23) (cl:=[(74,IU)]) (rc:=[]) au ⟨Dz,trivial⟩ Tryz.func32 λd hd=>by
  obtain⟨⟨vs,ms,cs,fs,ts,⟨⟩⟩,bound,⟨⟩⟩:=d;exact aP (λ_=>none) (alT vs ms cs fs ts bound hd) (by kernel_rfl)
theorem alU(vs:List VD) (ms cs:List ByteArray) (fs:List FD) (ts:List SD) (bound:Int) (aG:tN.pre ((vs,ms,cs,fs,ts,()),bound,())):
 let z2:=aC vs ms cs fs ts;let z1:=bQ z2.fst bound;(bnd ((vs,ms,cs,fs,ts,()),()))/\br (!decide (z2.fst=0)) (qI z1 (z2.fst)) (br (decide (bound < 1) || decide (32 < bound)) (qI z1 (2:Int)) (qI z1 (0:Int))):=by
 conv=>zeta
 have hb:bnd ((vs,ms,cs,fs,ts,()),()):=aG;refine⟨hb,ah.2 ⟨λh=>?_,λh=>ah.2 ⟨λh2=>?_,λh2=>?_⟩⟩⟩
 .have h:(aC vs ms cs fs ts).1≠0:=by simpa using h
  have e:bQ (aC vs ms cs fs ts).1 bound=(aC vs ms cs fs ts).1:=by unfold bQ;rw[if_pos h]
  rw[e];exact⟨rfl,rfl⟩
 all_goals have h:¬(aC vs ms cs fs ts).1≠0:=by simpa using h
 .have h2:bound < 1\/32 < bound:=by simpa using h2
  have e:bQ (aC vs ms cs fs ts).1 bound=2:=by unfold bQ;rw[if_neg h,if_pos h2]
  rw[e];exact⟨rfl,rfl⟩
 .have h2:¬(bound < 1\/32 < bound):=by simp only[l7,eH]at h2;omega
  have e:bQ (aC vs ms cs fs ts).1 bound=0:=by unfold bQ;rw[if_neg h,if_neg h2]
  rw[e];exact⟨rfl,rfl⟩
theorem ag5:aU aS.gd 26 tN:=
 dY (cx:=aS) (n:=23) (cl:=[(66,FQ)]) (rc:=[]) au ⟨KC,trivial⟩ Tryz.func26 λd hd=>by
  obtain⟨⟨vs,ms,cs,fs,ts,⟨⟩⟩,bound,⟨⟩⟩:=d;exact aP (λ_=>none) (alU vs ms cs fs ts bound hd) (by kernel_rfl)
abbrev Om:CT:={ ps:=[oW,.int .i64,Ud],pre:=λd=>bnd (d.1,())/\iF d.2.2.1.1/\bK d.2.2.1.2.1,res:=λd=>([],vB (vsB d.1.1 d.1.2.1 d.1.2.2.1 d.1.2.2.2.1 d.1.2.2.2.2.1 d.2.1 d.2.2.1.1 d.2.2.1.2.1 d.2.2.1.2.2.1)) }
abbrev aow(vs:List VD) (ms cs:List ByteArray) (fs:List FD) (ts:List SD) (bound:Int) (th:List TD) (mv mo:List Int) (mq:List (List Int)) (mg:List Int) (bf:List BD):Nat->Option (St->jK):=λk=>match k with
 | 4=>some λ_=>.inv { α:=Nat,slots:=λk=>[(23,.c (.v (.int .i64 k)))],res:=λk=>[],inv:=λk=>k<=(th).length/\(∀j < k,∀t,th[j]?=some t->bQ (aC vs ms cs fs ts).1 bound=0/\rO ms fs bound t)/\∀j,j+1 < k->∀a b,th[j]?=some a->th[j+1]?=some b->a.1 < b.1,meas:=λk=>(th).length - k }
 | _=>none
theorem alV(vs:List VD) (ms cs:List ByteArray) (fs:List FD) (ts:List SD) (bound:Int) (th:List TD) (mv mo:List Int) (mq:List (List Int)) (mg:List Int) (bf:List BD) (aG:Om.pre ((vs,ms,cs,fs,ts,()),bound,(th,(mv,mo,mq,mg,()),bf,()),())):
 let z7:=bnd ((vs,ms,cs,fs,ts,()),());let z8:=(mv,mo,mq,mg,());let z6:=vsB vs ms cs fs ts bound th z8 bf;let z5:=qB z6 false;let z1:=λ(x:Nat)=>(x<=th.length/\(∀(j:Nat),j < x->∀(t:TD),th[j]?=some t->bQ (aC vs ms cs fs ts).fst bound=0/\rO ms fs bound t)/\∀(j:Nat),j+1 < x->∀(a b:TD),th[j]?=some a->th[j+1]?=some b->a.fst < b.fst);let z2:=[g0 (ak.blk 27 [SC.sl Hg vs,SC.sl Sh.str ms,SC.sl Sh.str cs,SC.sl Dw fs,SC.sl mO ts]),g0 (ak.blk 37 [SC.sl dS th,SC.sl I6 mv,SC.sl I6 mo,SC.sl I6.sl mq,SC.sl I6 mg,SC.sl zV bf])];let z4:=λ(d:TD)=>decide (bQ (aC vs ms cs fs ts).fst bound=0) && ny ms fs bound d;let z3:=λ(x:Nat) (d:TD)=>decide (0 < (x:Int)) && !!(z4 d);(z7/\bK z8)/\br (!jC (vs,ms,cs,fs,ts,()) z8 || decide (0 < (bf.length:Int))) z5 ((∃x,(z1 x)/\(cI 0=cI (x:Int)/\True)/\sm z2)/\∀(x:Nat),(z1 x)->br (decide ((x:Int) < (th.length:Int))) ((0<=(x:Int)/\(x:Int) < (th.length:Int))/\∀(d:TD),th[(x:Int).toNat]?=some d->(z7/\List.length d.snd.snd.snd.snd.snd.snd.snd.snd.snd.fst<=1000000/\d.fst<=9223372036854775807/\List.length d.snd.snd.snd.fst=8)/\((z3 x d)=true->iR ((x:Int) - (1:Int)))/\((z3 x d)=true->0<=(x:Int) - (1:Int)/\(x:Int) - 1 < (th.length:Int))/\∀(bJ:TD),((z3 x d)=true->th[((x:Int) - (1:Int)).toNat]?=some bJ)->br (!(z4 d) || decide (0 < (x:Int)) && decide ((d).fst<=bJ.fst)) z5 (iR ((x:Int)+(1:Int))/\∃x',(z1 x')/\(cI ((x:Int)+(1:Int))=cI (x':Int)/\True)/\sm z2/\th.length - x' < th.length - x)) (qB z6 true)):=by
 conv=>zeta
 delta iR;obtain⟨hb,hT,hM⟩:bnd ((vs,ms,cs,fs,ts,()),())/\iF th/\bK (mv,mo,mq,mg,()):=aG;obtain⟨hl,hT⟩:=hT;have fF:¬VS vs ms cs fs ts bound th (mv,mo,mq,mg,()) bf->qB (vsB vs ms cs fs ts bound th (mv,mo,mq,mg,()) bf) false:=λq=>⟨rfl,by rw[Wy q]⟩
 refine⟨⟨hb,hM⟩,ah.2 ⟨λh=>fF λq=>?_,λh=>⟨⟨0,⟨by omega,λj hj=>by omega,λj hj=>by omega⟩,⟨rfl,trivial⟩,rfl⟩,λk hk=>ah.2 ⟨λg=>?_,λg=>?_⟩⟩⟩⟩
 .obtain⟨q1,q2,q3,q4⟩:=q;rw[q1,q2]at h;simp at h
 .obtain⟨k1,k2,k3⟩:=hk;simp only[dN]at g;refine⟨⟨by omega,by omega⟩,λd hd=>⟨⟨hb,hT d (gZ hd)⟩,λ_=>ay.2 (by omega),λq=>?_,λd1 hd1=>ah.2 ⟨λg2=>fF λq=>?_,λg2=>⟨ay.2 (by omega),k+1,⟨by omega,λj hj t ht=>?_,λj hj a b ha hb=>?_⟩,⟨rfl,trivial⟩,rfl,by omega⟩⟩⟩⟩
  .rw[bY,dN]at q;omega
  .have hd:th[k]?=some d:=hd;have q3:=q.2.2.1 d (gZ hd);rw[xk,CO,bY,dN,dN]at g2;have hv:(decide (bQ (aC vs ms cs fs ts).1 bound=0) && ny ms fs bound d)=true:=by rw[bY,dN,kP];exact q3
   rcases g2 with g2 | ⟨g2,g3⟩
   .rw[hv]at g2;cases g2
   .have gg:(decide ((0:Int) < (k:Int)) && !!(decide (bQ (aC vs ms cs fs ts).1 bound=0) && ny ms fs bound d))=true:=by rw[hv,xq g2];rfl
    have h1:=hd1 gg;rw[show((k:Int) - 1).toNat=k - 1 by omega]at h1
    have:=QX q.2.2.2 h1 (by rw[show k - 1+1=k by omega];exact hd)
    omega
  .rw[l7,wI,bY,dN,kP]at g2
   by_cases e:j=k
   .subst e;have hd:th[j]?=some d:=hd;rw[hd]at ht;cases ht;exact g2.1
   .exact k2 j (by omega) t ht
  .by_cases e:j+1=k
   .have hd:th[k]?=some d:=hd;rw[l7,wI]at g2;have hk0:(0:Int) < (k:Int):=by omega
    have gg:(decide ((0:Int) < (k:Int)) && !!(decide (bQ (aC vs ms cs fs ts).1 bound=0) && ny ms fs bound d))=true:=by rw[g2.1,xq hk0];rfl
    have h1:=hd1 gg;rw[show((k:Int) - 1).toNat=j by omega,ha]at h1
    cases h1;rw[e,hd]at hb;cases hb;have g3:=g2.2;rw[A72,eH,eH]at g3;omega
   .exact k3 j (by omega) a b ha hb
 .obtain⟨k1,k2,k3⟩:=hk;simp only[eH]at g;have all:∀t∈th,bQ (aC vs ms cs fs ts).1 bound=0/\rO ms fs bound t:=λt ht=>by
   obtain⟨j,hj⟩:=Ai ht;have:=(A8.1 hj).1;exact k2 j (by omega) t hj
  have up:jZ th:=QW λj a b ha hb=>by
   have:=(A8.1 hb).1;exact k3 j (by omega) a b ha hb
  rw[l7,wI,eH]at h;have e:bf=[]:=List.length_eq_zero_iff.1 (by omega)
  exact⟨rfl,by rw[iT.2 ⟨h.1,e,all,up⟩]⟩
theorem KR:aU aS.gd 40 Om:=
 dY (cx:=aS) (n:=50) (cl:=[(84,Ws),(85,agf)]) (rc:=[]) au ⟨agR,TR,trivial⟩ Tryz.func40 λd hd=>by
  obtain⟨⟨vs,ms,cs,fs,ts,⟨⟩⟩,bound,⟨th,⟨mv,mo,mq,mg,⟨⟩⟩,bf,⟨⟩⟩,⟨⟩⟩:=d;exact aP (aow vs ms cs fs ts bound th mv mo mq mg bf) (alV vs ms cs fs ts bound th mv mo mq mg bf hd) (by kernel_rfl)
abbrev abZ:CT:={ ps:=[oW,.int .i64,.sl dS],pre:=λd=>bnd (d.1,())/\iF d.2.2.1,res:=λd=>([],vB (KQ d.1.1 d.1.2.1 d.1.2.2.1 d.1.2.2.2.1 d.1.2.2.2.2.1 d.2.1 d.2.2.1)) }
abbrev aox(vs:List VD) (ms cs:List ByteArray) (fs:List FD) (ts:List SD) (bound:Int) (th:List TD):Nat->Option (St->jK):=λk=>match k with
 | 2=>some λ_=>.inv { α:=Nat,slots:=λk=>[(7,.c (.v (.int .i64 k)))],res:=λk=>[],inv:=λk=>k<=(th).length/\(∀j < k,∀t,th[j]?=some t->bQ (aC vs ms cs fs ts).1 bound=0/\rO ms fs bound t)/\∀j,j+1 < k->∀a b,th[j]?=some a->th[j+1]?=some b->a.1 < b.1,meas:=λk=>(th).length - k }
 | _=>none
theorem alW(vs:List VD) (ms cs:List ByteArray) (fs:List FD) (ts:List SD) (bound:Int) (th:List TD) (aG:abZ.pre ((vs,ms,cs,fs,ts,()),bound,th,())):
 let z1:=λ(x:Nat)=>(x<=th.length/\(∀(j:Nat),j < x->∀(t:TD),th[j]?=some t->bQ (aC vs ms cs fs ts).fst bound=0/\rO ms fs bound t)/\∀(j:Nat),j+1 < x->∀(a b:TD),th[j]?=some a->th[j+1]?=some b->a.fst < b.fst);let z3:=[g0 (ak.blk 27 [SC.sl Hg vs,SC.sl Sh.str ms,SC.sl Sh.str cs,SC.sl Dw fs,SC.sl mO ts])];let z4:=λ(d:TD)=>decide (bQ (aC vs ms cs fs ts).fst bound=0) && ny ms fs bound d;let z2:=λ(x:Nat) (d:TD)=>decide (0 < (x:Int)) && !!(z4 d);let z5:=KQ vs ms cs fs ts bound th;(∃x,(z1 x)/\(cI 0=cI (x:Int)/\True)/\sm z3)/\∀(x:Nat),(z1 x)->br (decide ((x:Int) < (th.length:Int))) ((0<=(x:Int)/\(x:Int) < (th.length:Int))/\∀(d:TD),th[(x:Int).toNat]?=some d->((bnd ((vs,ms,cs,fs,ts,()),()))/\List.length d.snd.snd.snd.snd.snd.snd.snd.snd.snd.fst<=1000000/\d.fst<=9223372036854775807/\List.length d.snd.snd.snd.fst=8)/\((z2 x d)=true->iR ((x:Int) - (1:Int)))/\((z2 x d)=true->0<=(x:Int) - (1:Int)/\(x:Int) - 1 < (th.length:Int))/\∀(bJ:TD),((z2 x d)=true->th[((x:Int) - (1:Int)).toNat]?=some bJ)->((z2 x d)=true->0<=(x:Int)/\(x:Int) < (th.length:Int))/\∀(kW:TD),((z2 x d)=true->th[(x:Int).toNat]?=some kW)->br (!(z4 d) || decide (0 < (x:Int)) && decide (kW.fst<=bJ.fst)) (qB z5 false) (iR ((x:Int)+(1:Int))/\∃x',(z1 x')/\(cI ((x:Int)+(1:Int))=cI (x':Int)/\True)/\sm z3/\th.length - x' < th.length - x)) (qB z5 true):=by
 conv=>zeta
 delta iR;obtain⟨hb,hl,hT⟩:bnd ((vs,ms,cs,fs,ts,()),())/\iF th:=aG;have fF:¬Ue vs ms cs fs ts bound th->qB (KQ vs ms cs fs ts bound th) false:=λq=>⟨rfl,by rw[QY q]⟩
 refine⟨⟨0,⟨by omega,λj hj=>by omega,λj hj=>by omega⟩,⟨rfl,trivial⟩,rfl⟩,λk hk=>ah.2 ⟨λg=>?_,λg=>?_⟩⟩
 .obtain⟨k1,k2,k3⟩:=hk;simp only[dN]at g;refine⟨⟨by omega,by omega⟩,λd hd=>⟨⟨hb,hT d (gZ hd)⟩,λ_=>ay.2 (by omega),λq=>?_,λd1 hd1=>⟨λ_=>⟨by omega,by omega⟩,λd2 hd2=>ah.2 ⟨λg2=>fF λq=>?_,λg2=>⟨ay.2 (by omega),k+1,⟨by omega,λj hj t ht=>?_,λj hj a b ha hb=>?_⟩,⟨rfl,trivial⟩,rfl,by omega⟩⟩⟩⟩⟩
  .rw[bY,dN]at q;omega
  .have hd:th[k]?=some d:=hd;have q3:=q.1 d (gZ hd);rw[xk,CO,bY,dN,dN]at g2;have hv:(decide (bQ (aC vs ms cs fs ts).1 bound=0) && ny ms fs bound d)=true:=by rw[bY,dN,kP];exact q3
   rcases g2 with g2 | ⟨g2,g3⟩
   .rw[hv]at g2;cases g2
   .have gg:(decide ((0:Int) < (k:Int)) && !!(decide (bQ (aC vs ms cs fs ts).1 bound=0) && ny ms fs bound d))=true:=by rw[hv,xq g2];rfl
    have h1:=hd1 gg;have h2:th[k]?=some d2:=hd2 gg;rw[hd]at h2;cases h2;rw[show((k:Int) - 1).toNat=k - 1 by omega]at h1
    have:=QX q.2 h1 (by rw[show k - 1+1=k by omega];exact hd)
    omega
  .rw[l7,wI,bY,dN,kP]at g2
   by_cases e:j=k
   .subst e;have hd:th[j]?=some d:=hd;rw[hd]at ht;cases ht;exact g2.1
   .exact k2 j (by omega) t ht
  .by_cases e:j+1=k
   .have hd:th[k]?=some d:=hd;rw[l7,wI]at g2;have hk0:(0:Int) < (k:Int):=by omega
    have gg:(decide ((0:Int) < (k:Int)) && !!(decide (bQ (aC vs ms cs fs ts).1 bound=0) && ny ms fs bound d))=true:=by rw[g2.1,xq hk0];rfl
    have h1:=hd1 gg;have h2:th[k]?=some d2:=hd2 gg;rw[hd]at h2;cases h2;rw[show((k:Int) - 1).toNat=j by omega,ha]at h1
    cases h1;rw[e,hd]at hb;cases hb;have g3:=g2.2;rw[A72,eH,eH]at g3;omega
   .exact k3 j (by omega) a b ha hb
 .obtain⟨k1,k2,k3⟩:=hk;simp only[eH]at g;have all:∀t∈th,bQ (aC vs ms cs fs ts).1 bound=0/\rO ms fs bound t:=λt ht=>by
   obtain⟨j,hj⟩:=Ai ht;have:=(A8.1 hj).1;exact k2 j (by omega) t hj
  have up:jZ th:=QW λj a b ha hb=>by
   have:=(A8.1 hb).1;exact k3 j (by omega) a b ha hb
  exact⟨rfl,by rw[Gl.2 ⟨all,up⟩]⟩
theorem ag6:aU aS.gd 68 abZ:=
 dY (cx:=aS) (n:=40) (cl:=[(122,aby)]) (rc:=[]) au ⟨abz,trivial⟩ Tryz.func68 λd hd=>by
  obtain⟨⟨vs,ms,cs,fs,ts,⟨⟩⟩,bound,th,⟨⟩⟩:=d;exact aP (aox vs ms cs fs ts bound th) (alW vs ms cs fs ts bound th hd) (by kernel_rfl)
theorem alX(vs:List VD) (ms cs:List ByteArray) (fs:List FD) (ts:List SD) (bound:Int) (th:List TD) (mv mo:List Int) (mq:List (List Int)) (mg:List Int) (bf:List BD) (aG:Om.pre ((vs,ms,cs,fs,ts,()),bound,(th,(mv,mo,mq,mg,()),bf,()),())):
 let z1:=bnd ((vs,ms,cs,fs,ts,()),());let z2:=(aC vs ms cs fs ts).fst=0;let z3:=(mv,mo,mq,mg,());z1/\(decide z2=true->z1/\iF th)/\((decide z2 && KQ vs ms cs fs ts bound th)=true->z1/\bK z3)/\qB (vsB vs ms cs fs ts bound th z3 bf) (decide z2 && KQ vs ms cs fs ts bound th && jC (vs,ms,cs,fs,ts,()) z3 && decide ((bf.length:Int)=(0:Int))):=by
 conv=>zeta
 obtain⟨hb,hT,hM⟩:bnd ((vs,ms,cs,fs,ts,()),())/\iF th/\bK (mv,mo,mq,mg,()):=aG;refine⟨hb,λ_=>⟨hb,hT⟩,λ_=>⟨hb,hM⟩,rfl,?_⟩
 have e:vsB vs ms cs fs ts bound th (mv,mo,mq,mg,()) bf=(decide ((aC vs ms cs fs ts).1=0) && KQ vs ms cs fs ts bound th && jC (vs,ms,cs,fs,ts,()) (mv,mo,mq,mg,()) && decide ((bf.length:Int)=0)):=by
  rw[Gy,iT];simp only[bY,dN,Gl];have e0:(bf.length:Int)=0↔bf=[]:=by rw[<-List.length_eq_zero_iff];omega
  rw[e0];constructor
  .rintro⟨h1,h2,h3,h4⟩;refine⟨⟨⟨?_,h3,h4⟩,h1⟩,h2⟩;unfold jC at h1;simp only[bY,dN]at h1;exact h1.1.1.1.1
  .rintro⟨⟨⟨_,h3⟩,h1⟩,h2⟩;exact⟨h1,h2,h3.1,h3.2⟩
 rw[e]
theorem ag7:aU aS.gd 28 Om:=
 dY (cx:=aS) (n:=28) (cl:=[(67,KD),(68,abZ),(69,Ws)]) (rc:=[]) au ⟨Uc,ag6,agS,trivial⟩ Tryz.func28 λd hd=>by
  obtain⟨⟨vs,ms,cs,fs,ts,⟨⟩⟩,bound,⟨th,⟨mv,mo,mq,mg,⟨⟩⟩,bf,⟨⟩⟩,⟨⟩⟩:=d;exact aP (λ_=>none) (alX vs ms cs fs ts bound th mv mo mq mg bf hd) (by kernel_rfl)
theorem lg{a b:ED} (h:a=b):qE a b:=⟨rfl,by rw[h]⟩
theorem uX{a b:Bool} (h:a=b):qB a b:=⟨rfl,by rw[h]⟩
theorem rgd{rg:List Int}{b d:Int} (h:rg[b.toNat]?=some d):rg.getD b.toNat 0=d:=by rw[Jf,h];rfl
theorem nD(h:0<=gy p l):∃(k:Nat) (t:TD),gy p l=k/\l[k]?=some t/\l.find? p=some t/\k < l.length:=by
 unfold gy at h ⊢
 cases e:l.findIdx? p with
 | none=>rw[e]at h;exact absurd h (by decide)
 | some k=>
   obtain⟨h1,h2,h3⟩:=A52.1 e;refine⟨k,l[k],rfl,kQ h1,?_,h1⟩;rw[List.find?_eq_some_iff_getElem];exact⟨h2,k,h1,rfl,λj hj=>by have:=h3 j hj;simpa using this⟩
theorem o8(h:¬0<=gy p l):l.find? p=none:=by
 unfold gy at h;cases e:l.findIdx? p with
 | some k=>rw[e]at h;exact absurd (Int.natCast_nonneg k) h
 | none=>
   rw[A75]at e;rw[WY];intro x hx;rw[e x hx];simp
def alY(v rb rc op o:Int):ED->ED
 | (ag,ix,_,eo,mx,en,_,_,wr,_)=>if op=8 then(ag,ix,1,eo,mx,en,o,v,wr,()) else if op=14 then(ag,ix,8,eo,mx,en,o,v,wr,()) else if op=9 then(ag,ix,2,eo,mx,en,o,0,rb,())
   else if op=10 then(ag,ix,5,eo,mx,en,o,v,rb,()) else if op=11 then(ag,ix,5,eo,mx,en,o,v,(jd 1 v rb).1,()) else if v=rb then(ag,ix,5,eo,mx,en,o,v,rc,()) else(ag,ix,6,eo,mx,en,o,v,wr,())
def wtS(ph n:Int):ED->ED
 | (ag,ix,_,eo,mx,en,Jd,rd,wr,_)=>if ph=0 then(ag,ix,12,eo,n,en,Jd,rd,wr,()) else if ph=1 then(ag,ix,13,eo,mx,en,Jd,rd,wr,()) else(ag,ix,9,n,mx,en,Jd,rd,wr,())
def Gm(m:MD) (t:TD) (i:ID):Prop:=
 (bK m/\dK m=true/\tB t)/\(0<=i.2.2.1/\i.2.2.1 < 8)/\(0<=i.2.2.2.1/\i.2.2.2.1 < 8)/\(8<=i.1/\i.1<=22) /\
 (i.1<=14/\i.1≠13->0<=i.2.2.2.2.1/\i.2.2.2.2.1 < (m.1.length:Int))/\(18<=i.1/\i.1<=20->0<=i.2.2.2.2.1/\i.2.2.2.2.1 < (m.2.2.1.length:Int)) /\
 (i.1=13\/15<=i.1->i.2.2.2.2.2.2.2.1=0)
theorem Ug{x:Int} (h:dK m=true) (h1:0<=x/\x < (m.1.length:Int)):(wZ m x).1=m.1[x.toNat]?.getD 0:=by
 unfold wZ;rw[if_pos (dV.2 ⟨h,h1⟩)]
abbrev ab1:CT:={ ps:=[.bool],pre:=λd=>True,res:=λd=>([],.one (.c (.v (.int .i64 (wG d.1))))) }
theorem alZ(b:Bool):
 br b (qI (wG b) (1:Int)) (qI (wG b) (0:Int)):=by
 unfold wG;cases b<;>exact ah.2 ⟨λh=>⟨rfl,by simp_all⟩,λh=>⟨rfl,by simp_all⟩⟩
theorem ag8:aU aS.gd 86 ab1:=
 jW (cx:=aS) (n:=4) (cl:=[]) au trivial Tryz.func86 λd hd=>by
  obtain⟨b,⟨⟩⟩:=d;exact aP (λ_=>none) (alZ b) (by kernel_rfl)
abbrev ab2:CT:={ ps:=[Ud,dS,lY,shE],pre:=λd=>bK d.1.2.1/\d.2.1.2.2.2.1.length=8/\(0<=d.2.2.1.2.2.1/\d.2.2.1.2.2.1 < 8)/\(0<=d.2.2.1.2.2.2.1/\d.2.2.1.2.2.2.1 < 8),res:=λd=>([],.one (Ho (alY (wZ d.1.2.1 d.2.2.1.2.2.2.2.1).1 (d.2.1.2.2.2.1.getD d.2.2.1.2.2.1.toNat 0) (d.2.1.2.2.2.1.getD d.2.2.1.2.2.2.1.toNat 0) d.2.2.1.1 d.2.2.1.2.2.2.2.2.2.2.1 d.2.2.2.1))) }
theorem al0(th:List TD) (mv mo:List Int) (mq:List (List Int)) (mg:List Int) (bf:List BD) (id fn pc:Int) (rg:List Int) (st ch ph su fa:Int) (he:List Int) (op a b c obj n fo ord ag ix kd eo mx en Jd rd wr:Int) (aG:ab2.pre ((th,(mv,mo,mq,mg,()),bf,()),(id,fn,pc,rg,st,ch,ph,su,fa,he,()),(op,a,b,c,obj,n,fo,ord,()),(ag,ix,kd,eo,mx,en,Jd,rd,wr,()),())):
 let z2:=wZ (mv,mo,mq,mg,()) obj;let z1:=alY z2.fst (rg.getD b.toNat (0:Int)) (rg.getD c.toNat (0:Int)) op ord (ag,ix,kd,eo,mx,en,Jd,rd,wr,());bK (mv,mo,mq,mg,())/\br (decide (op=8)) (qE z1 (ag,ix,1,eo,mx,en,ord,z2.fst,wr,())) (br (decide (op=14)) (qE z1 (ag,ix,8,eo,mx,en,ord,z2.fst,wr,())) (br (decide (op=9)) ((0<=b/\b < 8)/\b.toNat < 8/\∀(d:Int),rg[b.toNat]?=some d->qE z1 (ag,ix,2,eo,mx,en,ord,0,d,())) (br (decide (op=10)) ((0<=b/\b < 8)/\b.toNat < 8/\∀(d:Int),rg[b.toNat]?=some d->qE z1 (ag,ix,5,eo,mx,en,ord,z2.fst,d,())) (br (decide (op=11)) ((0<=b/\b < 8)/\b.toNat < 8/\∀(d:Int),rg[b.toNat]?=some d->True/\qE z1 (ag,ix,5,eo,mx,en,ord,z2.fst,bD (bD (z2.fst,d,()).fst+bD d),())) ((0<=b/\b < 8)/\b.toNat < 8/\∀(d:Int),rg[b.toNat]?=some d->br (decide (z2.fst=d)) ((0<=c/\c < 8)/\c.toNat < 8/\∀(d:Int),rg[c.toNat]?=some d->qE z1 (ag,ix,5,eo,mx,en,ord,z2.fst,d,())) (qE z1 (ag,ix,6,eo,mx,en,ord,z2.fst,wr,()))))))):=by
 conv=>zeta
 obtain⟨hM,h8,hb,hc⟩:bK (mv,mo,mq,mg,())/\rg.length=8/\(0<=b/\b < 8)/\(0<=c/\c < 8):=aG;have hb8:b.toNat < 8:=by omega
 have hc8:c.toNat < 8:=by omega
 refine⟨hM,bC.2 ⟨λe=>lg ?_,λn1=>bC.2 ⟨λe=>lg ?_,λn2=>bC.2 ⟨λe=>⟨hb,hb8,λd hd=>lg ?_⟩,λn3=>bC.2 ⟨λe=>⟨hb,hb8,λd hd=>lg ?_⟩,λn4=>bC.2 ⟨λe=>⟨hb,hb8,λd hd=>⟨trivial,lg ?_⟩⟩,λn5=>⟨hb,hb8,λd hd=>bC.2 ⟨λe=>⟨hc,hc8,λd2 hd2=>lg ?_⟩,λe=>lg ?_⟩⟩⟩⟩⟩⟩⟩⟩
 .subst e;rfl
 .subst e;rfl
 .subst e;rw[rgd hd];rfl
 .subst e;rw[rgd hd];rfl
 .subst e;rw[rgd hd];rfl
 .rw[rgd hd,rgd hd2];show(if op=8 then _ else _)=_
  rw[if_neg n1,if_neg n2,if_neg n3,if_neg n4,if_neg n5,if_pos e]
 .rw[rgd hd];show(if op=8 then _ else _)=_
  rw[if_neg n1,if_neg n2,if_neg n3,if_neg n4,if_neg n5,if_neg e]
theorem ag9:aU aS.gd 90 ab2:=
 dY (cx:=aS) (n:=73) (cl:=[(96,agB),(97,TB)]) (rc:=[]) au ⟨TW,KF,trivial⟩ Tryz.func90 λd hd=>by
  obtain⟨⟨th,⟨mv,mo,mq,mg,⟨⟩⟩,bf,⟨⟩⟩,⟨id,fn,pc,rg,st,ch,ph,su,fa,he,⟨⟩⟩,⟨op,a,b,c,obj,n,fo,ord,⟨⟩⟩,⟨ag,ix,kd,eo,mx,en,Jd,rd,wr,⟨⟩⟩,⟨⟩⟩:=d;exact aP (λ_=>none) (al0 th mv mo mq mg bf id fn pc rg st ch ph su fa he op a b c obj n fo ord ag ix kd eo mx en Jd rd wr hd) (by kernel_rfl)
abbrev aii:CT:={ ps:=[dS,lY,shE],pre:=λd=>True,res:=λd=>([],.one (Ho (wtS d.1.2.2.2.2.2.2.1 d.2.1.2.2.2.2.2.1 d.2.2.1))) }
theorem al1(id fn pc:Int) (rg:List Int) (st ch ph su fa:Int) (he:List Int) (op a b c obj n fo ord ag ix kd eo mx en Jd rd wr:Int):
 let z1:=wtS ph n (ag,ix,kd,eo,mx,en,Jd,rd,wr,());br (decide (ph=0)) (qE z1 (ag,ix,12,eo,n,en,Jd,rd,wr,())) (br (decide (ph=1)) (qE z1 (ag,ix,13,eo,mx,en,Jd,rd,wr,())) (qE z1 (ag,ix,9,n,mx,en,Jd,rd,wr,()))):=by
 conv=>zeta
 refine bC.2 ⟨λe=>lg ?_,λn1=>bC.2 ⟨λe=>lg ?_,λn2=>lg ?_⟩⟩
 .subst e;rfl
 .subst e;rfl
 .show(if ph=0 then _ else _)=_
  rw[if_neg n1,if_neg n2]
theorem aha:aU aS.gd 88 aii:=
 dY (cx:=aS) (n:=23) (cl:=[]) (rc:=[]) au trivial Tryz.func88 λd hd=>by
  obtain⟨⟨id,fn,pc,rg,st,ch,ph,su,fa,he,⟨⟩⟩,⟨op,a,b,c,obj,n,fo,ord,⟨⟩⟩,⟨ag,ix,kd,eo,mx,en,Jd,rd,wr,⟨⟩⟩,⟨⟩⟩:=d;exact aP (λ_=>none) (al1 id fn pc rg st ch ph su fa he op a b c obj n fo ord ag ix kd eo mx en Jd rd wr) (by kernel_rfl)
abbrev Uh:CT:={ ps:=[Ud,dS,lY],pre:=λd=>Gm d.1.2.1 d.2.1 d.2.2.1,res:=λd=>([],.one (Ho (labS d.1.2.1 d.2.1 d.2.2.1))) }
theorem al2(th:List TD) (mv mo:List Int) (mq:List (List Int)) (mg:List Int) (bf:List BD) (id fn pc:Int) (rg:List Int) (st ch ph su fa:Int) (he:List Int) (op a b c obj n fo ord:Int) (aG:Uh.pre ((th,(mv,mo,mq,mg,()),bf,()),(id,fn,pc,rg,st,ch,ph,su,fa,he,()),(op,a,b,c,obj,n,fo,ord,()),())):
 let z4:=(mv,mo,mq,mg,());let z1:=labS z4 (id,fn,pc,rg,st,ch,ph,su,fa,he,()) (op,a,b,c,obj,n,fo,ord,());let z2:=(id,st,(0:Int),obj,(-1:Int),(-1:Int),(0:Int),(0:Int),(0:Int),());let z3:=0<=obj/\obj < (mq.length:Int);br (decide (op=13)) (qE z1 (id,st,7,obj,-1,-1,0,0,0,())) (br (decide (op=15)) (qE z1 (id,st,9,obj,-1,-1,0,0,0,())) (br (decide (op=16)) (qE z1 (id,st,10,obj,-1,-1,0,0,0,())) (br (decide (op=17)) (bK z4/\True/\qE z1 (id,st,11,obj,-1,-1,0,wG (qm z4 obj),0,())) (br (decide (op=18)) (True/\qE z1 (wtS ph n z2)) (br (decide (op=19)) (z3/\∀(d:List Int),mq[obj.toNat]?=some d->qE z1 (id,st,14,obj,-1,-1,0,kC (1:Int) (d.length:Int),0,())) (br (decide (op=20)) (z3/\∀(d:List Int),mq[obj.toNat]?=some d->qE z1 (id,st,15,obj,-1,-1,0,(d.length:Int),0,())) (br (decide (op=21)) (id<=9223372036854775807/\qE z1 (id,st,16,(bW id ch).fst,-1,-1,0,0,0,())) (br (decide (op=22)) ((0<=b/\b < 8)/\b.toNat < 8/\∀(d:Int),rg[b.toNat]?=some d->qE z1 (id,st,17,d,-1,-1,0,0,0,())) ((bK z4/\rg.length=8/\(0<=b/\b < 8)/\0<=c/\c < 8)/\qE z1 (alY (wZ z4 obj).fst (rg.getD b.toNat (0:Int)) (rg.getD c.toNat (0:Int)) op ord z2)))))))))):=by
 conv=>zeta
 obtain⟨⟨hM,hf,hT⟩,hb,hc,hv,ho1,ho2,ho3⟩:Gm (mv,mo,mq,mg,()) (id,fn,pc,rg,st,ch,ph,su,fa,he,()) (op,a,b,c,obj,n,fo,ord,()):=aG;obtain⟨t1,t2,t3⟩:he.length<=1000000/\id<=9223372036854775807/\rg.length=8:=hT;have hb:0<=b/\b < 8:=hb;have hc:0<=c/\c < 8:=hc;have hv:8<=op/\op<=22:=hv;have ho1:op<=14/\op≠13->0<=obj/\obj < (mv.length:Int):=ho1;have ho2:18<=op/\op<=20->0<=obj/\obj < (mq.length:Int):=ho2;have hb8:b.toNat < 8:=by omega
 refine bC.2 ⟨λe=>lg ?_,λn1=>bC.2 ⟨λe=>lg ?_,λn2=>bC.2 ⟨λe=>lg ?_,λn3=>bC.2 ⟨λe=>⟨hM,trivial,lg ?_⟩,λn4=>bC.2 ⟨λe=>⟨trivial,lg ?_⟩,λn5=>bC.2 ⟨λe=>⟨ho2 (by omega),λd hd=>lg ?_⟩,λn6=>bC.2 ⟨λe=>⟨ho2 (by omega),λd hd=>lg ?_⟩,λn7=>bC.2 ⟨λe=>⟨t2,lg ?_⟩,λn8=>bC.2 ⟨λe=>⟨hb,hb8,λd hd=>lg ?_⟩,λn9=>⟨⟨hM,t3,hb,hc⟩,lg ?_⟩⟩⟩⟩⟩⟩⟩⟩⟩⟩
 .subst e;rfl
 .subst e;rfl
 .subst e;rfl
 .subst e;rfl
 .subst e;have e1:∀m t,labS m t (18,a,b,c,obj,n,fo,ord,())=if t.2.2.2.2.2.2.1=0 then(t.1,t.2.2.2.2.1,12,obj,n,-1,0,0,0,()) else if t.2.2.2.2.2.2.1=1 then(t.1,t.2.2.2.2.1,13,obj,-1,-1,0,0,0,()) else(t.1,t.2.2.2.2.1,9,n,-1,-1,0,0,0,()):=λ_ _=>rfl
  rw[e1];rfl
 .subst e;have e1:∀m t,labS m t (19,a,b,c,obj,n,fo,ord,())=(t.1,t.2.2.2.2.1,14,obj,-1,-1,0,kC 1 (m.2.2.1[obj.toNat]?.getD []).length,0,()):=λ_ _=>rfl
  rw[e1];show(_,_,_,_,_,_,_,kC 1 (mq[obj.toNat]?.getD []).length,_,_)=_;rw[hd];rfl
 .subst e;have e1:∀m t,labS m t (20,a,b,c,obj,n,fo,ord,())=(t.1,t.2.2.2.2.1,15,obj,-1,-1,0,((m.2.2.1[obj.toNat]?.getD []).length:Int),0,()):=λ_ _=>rfl
  rw[e1];show(_,_,_,_,_,_,_,(((mq[obj.toNat]?.getD []).length:Nat):Int),_,_)=_;rw[hd];rfl
 .subst e;rfl
 .subst e;have e1:∀m t,labS m t (22,a,b,c,obj,n,fo,ord,())=(t.1,t.2.2.2.2.1,17,t.2.2.2.1.getD b.toNat 0,-1,-1,0,0,0,()):=λ_ _=>rfl
  rw[e1];show(_,_,_,rg.getD b.toNat 0,_,_,_,_,_,_)=_;rw[rgd hd]
 .rw[Ug hf (ho1 (by omega))]
  have:op=8\/op=9\/op=10\/op=11\/op=12\/op=14:=by omega
  rcases this with e | e | e | e | e | e<;>subst e<;>rfl
theorem Ui:aU aS.gd 42 Uh:=
 dY (cx:=aS) (n:=91) (cl:=[(86,ab1),(87,agD),(88,aii),(89,TF),(90,ab2)]) (rc:=[]) au ⟨ag8,TY,aha,TG,ag9,trivial⟩ Tryz.func42 λd hd=>by
  obtain⟨⟨th,⟨mv,mo,mq,mg,⟨⟩⟩,bf,⟨⟩⟩,⟨id,fn,pc,rg,st,ch,ph,su,fa,he,⟨⟩⟩,⟨op,a,b,c,obj,n,fo,ord,⟨⟩⟩,⟨⟩⟩:=d;exact aP (λ_=>none) (al2 th mv mo mq mg bf id fn pc rg st ch ph su fa he op a b c obj n fo ord hd) (by kernel_rfl)
abbrev Uj:CT:={ ps:=[Ud,dS,lY],pre:=λd=>Gm d.1.2.1 d.2.1 d.2.2.1/\d.1.1.length<=1000000,res:=λd=>([],vB (CG d.1.1 d.1.2.1 d.2.1 d.2.2.1)) }
theorem al3(th:List TD) (mv mo:List Int) (mq:List (List Int)) (mg:List Int) (bf:List BD) (id fn pc:Int) (rg:List Int) (st ch ph su fa:Int) (he:List Int) (op a b c obj n fo ord:Int) (aG:Uj.pre ((th,(mv,mo,mq,mg,()),bf,()),(id,fn,pc,rg,st,ch,ph,su,fa,he,()),(op,a,b,c,obj,n,fo,ord,()),())):
 let z7:=(mv,mo,mq,mg,());let z3:=CG th z7 (id,fn,pc,rg,st,ch,ph,su,fa,he,()) (op,a,b,c,obj,n,fo,ord,());let z2:=qB z3 true;let z5:=λ(d:Int)=>0<=gy (λt=>decide (t.fst=(th,d,()).snd.fst)) th;let z6:=λ(d:Int)=>gy (λt=>decide (t.fst=(th,d,()).snd.fst)) th;let z4:=λ(d:Int)=>fM (z6 d) (0:Int);let z1:=λ(bJ:TD) (d:Int)=>!decide (bJ.snd.snd.snd.snd.snd.snd.snd.fst=2) && decide (z5 d);br (decide (op=14)) (bK z7/\(0<=b/\b < 8)/\b.toNat < 8/\∀(d:Int),rg[b.toNat]?=some d->True/\qB z3 (!decide ((jd fo ((wZ z7 obj).fst,d,()).fst d).fst=0))) (br (decide (op=15)) (bK z7/\qB z3 (qm z7 obj)) (br (decide (op=18)) (br (decide (ph=1)) (mg.length<=4611686018427387904/\qB z3 (dO mg id)) (br (decide (ph=2)) (bK z7/\qB z3 (qm z7 n)) z2)) (br (decide (op=22)) ((0<=b/\b < 8)/\b.toNat < 8/\∀(d:Int),rg[b.toNat]?=some d->th.length<=1000000/\(decide (z5 d)=true->0<=fM (z6 d) (0:Int)/\fM (z6 d) 0 < (th.length:Int))/\∀(bJ:TD),(decide (z5 d)=true->th[(z4 d).toNat]?=some bJ)->((z1 bJ d)=true->0<=fM (z6 d) (0:Int)/\fM (z6 d) 0 < (th.length:Int))/\∀(kW:TD),((z1 bJ d)=true->th[(z4 d).toNat]?=some kW)->qB z3 (decide (z5 d) && (decide (bJ.snd.snd.snd.snd.snd.snd.snd.fst=2) || decide (kW.snd.snd.snd.snd.snd.snd.snd.fst=3)))) z2))):=by
 conv=>zeta
 obtain⟨⟨⟨hM,hf,hT⟩,hb,hc,hv,ho1,ho2,ho3⟩,hl⟩:Gm (mv,mo,mq,mg,()) (id,fn,pc,rg,st,ch,ph,su,fa,he,()) (op,a,b,c,obj,n,fo,ord,())/\th.length<=1000000:=aG;have hb:0<=b/\b < 8:=hb;have ho1:op<=14/\op≠13->0<=obj/\obj < (mv.length:Int):=ho1;have hb8:b.toNat < 8:=by omega
 have hg:mg.length<=4611686018427387904:=by have:mg.length<=1000:=hM.2.2.2.1;omega
 refine bC.2 ⟨λe=>⟨hM,hb,hb8,λd hd=>⟨trivial,uX ?_⟩⟩,λn1=>bC.2 ⟨λe=>⟨hM,uX ?_⟩,λn2=>bC.2 ⟨λe=>bC.2 ⟨λe2=>⟨hg,uX ?_⟩,λm1=>bC.2 ⟨λe2=>⟨hM,uX ?_⟩,λm2=>uX ?_⟩⟩,λn3=>bC.2 ⟨λe=>⟨hb,hb8,λd hd=>⟨hl,λq=>?_,λd1 h1=>⟨λq=>?_,λd2 h2=>uX ?_⟩⟩⟩,λn4=>uX ?_⟩⟩⟩⟩
 .subst e;have e1:∀l m t,CG l m t (14,a,b,c,obj,n,fo,ord,())=decide ((jd fo (m.1[obj.toNat]?.getD 0) (t.2.2.2.1.getD b.toNat 0)).1≠0):=λ_ _ _=>rfl
  rw[e1,<-decide_not];show decide ((jd fo (mv[obj.toNat]?.getD 0) (rg.getD b.toNat 0)).1≠0)=_;rw[rgd hd,Ug hf (ho1 (by omega))]
 .subst e;rfl
 .subst e;subst e2;rfl
 .subst e;subst e2;rfl
 .subst e;have e1:∀l m t,CG l m t (18,a,b,c,obj,n,fo,ord,())=if t.2.2.2.2.2.2.1=1 then dO m.2.2.2.1 t.1 else if t.2.2.2.2.2.2.1=2 then qm m n else true:=λ_ _ _=>rfl
  rw[e1];show(if ph=1 then _ else _)=_
  rw[if_neg m1,if_neg m2]
 .obtain⟨k,t,q1,q2,q3,q4⟩:=nD (OL q);rw[q1];unfold fM;split<;>omega
 .rw[bY]at q;obtain⟨k,t,q1,q2,q3,q4⟩:=nD (OL q.2);rw[q1];unfold fM;split<;>omega
 .subst e;have e1:∀l m t,CG l m t (22,a,b,c,obj,n,fo,ord,())=(match nN l (t.2.2.2.1.getD b.toNat 0) with
   | some u=>decide (u.2.2.2.2.2.2.2.1=2) || decide (u.2.2.2.2.2.2.2.1=3)
   | none=>false):=λ_ _ _=>rfl
  rw[e1];show(match nN th (rg.getD b.toNat 0) with
   | some u=>decide (u.2.2.2.2.2.2.2.1=2) || decide (u.2.2.2.2.2.2.2.1=3)
   | none=>false)=_
  rw[rgd hd];unfold nN
  by_cases q:0<=gy (λt=>decide (t.1=d)) th
  .obtain⟨k,t,q1,q2,q3,q4⟩:=nD q;have h1:=h1 (xq q);have ek:(fM (gy (λt=>decide (t.1=d)) th) 0).toNat=k:=by rw[q1];unfold fM;split<;>omega
   rw[ek,q2]at h1;have eq1:t=d1:=D5 h1;subst eq1;rw[q3,xq q,Hy]
   by_cases s2:t.2.2.2.2.2.2.2.1=2
   .simp[s2]
   .have h2:=h2 (by rw[Aw s2,xq q];rfl)
    rw[ek,q2]at h2;have eq2:t=d2:=D5 h2;subst eq2;simp[s2]
  .rw[o8 q,Aw q];rfl
 .show CG th _ _ _=_;unfold CG;rw[if_neg n1,if_neg n2,if_neg n3,if_neg n4]
theorem Uk:aU aS.gd 46 Uj:=
 dY (cx:=aS) (n:=97) (cl:=[(96,agB),(87,agD),(97,TB),(52,Jc),(98,FK)]) (rc:=[]) au ⟨TW,TY,KF,DK,zx,trivial⟩ Tryz.func46 λd hd=>by
  obtain⟨⟨th,⟨mv,mo,mq,mg,⟨⟩⟩,bf,⟨⟩⟩,⟨id,fn,pc,rg,st,ch,ph,su,fa,he,⟨⟩⟩,⟨op,a,b,c,obj,n,fo,ord,⟨⟩⟩,⟨⟩⟩:=d;exact aP (λ_=>none) (al3 th mv mo mq mg bf id fn pc rg st ch ph su fa he op a b c obj n fo ord hd) (by kernel_rfl)
def zI:ID:=(0,0,0,0,0,0,0,0,())
def jo(e:Int) (ms:List ByteArray) (fs:List FD) (l:List TD) (id:Int):TD×ID×Bool:=match nN l id with
 | some t=>(t,(fO e ms fs t).1,(fO e ms fs t).2)
 | none=>(zT,zI,false)
def WA(e:Int) (ms:List ByteArray) (fs:List FD) (l:List TD) (m:MD) (t:TD):Bool:=(fO e ms fs t).2 && CG l m t (fO e ms fs t).1
def zW(e:Int) (ms:List ByteArray) (fs:List FD) (l:List TD) (m:MD):List TD->List Int:=λl'=>(l'.filter (WA e ms fs l m)).map (·.1)
def fZ(vs:List VD) (ms cs:List ByteArray) (fs:List FD) (ts:List SD) (l:List TD) (m:MD) (bf:List BD):List Int:=if vsB vs ms cs fs ts 32 l m bf=true then zW (aC vs ms cs fs ts).1 ms fs l m l else[]
theorem Oo{e:Int}{l0:List TD}{d:TD} (h:l[k]?=some d):zW e ms fs l0 m (l.take (k+1))=zW e ms fs l0 m (l.take k)++if WA e ms fs l0 m d=true then[d.1] else[]:=by
 unfold zW;rw[OJ,h,List.filter_append,OQ]
 congr 1
 by_cases q:WA e ms fs l0 m d=true
 .simp[q]
 .simp[q]
theorem ab3{i:ID} (h:uo i=0) (hu:use i.1 6=false):i.2.2.2.2.2.2.2.1=0:=by
 unfold uo qC at h
 repeat' split at h
 all_goals first | (simp at h;done) | skip
 rename_i h1 h2 h3 h4 h5 h6;rw[hu]at h2;simp only[xk,bY,Lr]at h2
 by_cases q:i.2.2.2.2.2.2.2.1=0
 .exact q
 .exact absurd (.inr ⟨rfl,q⟩) h2
theorem Oq{e:Int}{t:TD} (h:(fO e ms fs t).2=true):e=0/\t.2.2.2.2.2.2.2.1=1/\rO ms fs 32 t/\lZ fs t.2.1 t.2.2.1=some (fO e ms fs t).1:=by
 unfold fO at h ⊢
 split at h
 .rename_i q;rw[if_pos q];refine⟨q.1,q.2.1,q.2.2,?_⟩;unfold atR at h ⊢
  cases ha:lZ fs t.2.1 t.2.2.1 with
  | none=>rw[ha]at h;cases h
  | some i=>rfl
 .cases h
theorem wu{p:PD} (h:jC p m=true):(aC p.1 p.2.1 p.2.2.1 p.2.2.2.1 p.2.2.2.2.1).1=0/\dK m=true/\m.1.length=p.1.length/\m.2.1.length=p.2.1.length/\m.2.2.1.length=p.2.2.1.length:=by
 unfold jC at h;simp only[bY,dN]at h;exact⟨h.1.1.1.1,h.1.1.1.2,h.1.1.2,h.1.2,h.2⟩
theorem KT{vs:List VD}{t:TD} (hv:jC (vs,ms,cs,fs,ts,()) m=true) (hM:bK m) (hT:tB t) (h:(fO (aC vs ms cs fs ts).1 ms fs t).2=true):
 Gm m t (fO (aC vs ms cs fs ts).1 ms fs t).1:=by
 obtain⟨e0,h1,h2,h3⟩:=Oq h;obtain⟨_,f,l1,l2,l3⟩:=wu hv;have l1:m.1.length=vs.length:=l1;have l3:m.2.2.1.length=cs.length:=l3;generalize (fO (aC vs ms cs fs ts).1 ms fs t).1=i at h3;obtain⟨_,_,j,hj,vj,_⟩:=BF h2 h1;rw[h3]at hj;cases hj;have hf:=(I4 (gY h2)).1;obtain⟨k1,k2,k3,k4⟩:=ql (Ci e0 hf h3);obtain⟨r1,r2,r3,r4⟩:=kX k1;have vj:8<=i.1/\i.1<=22:=by unfold je at vj;simpa using vj
 refine⟨⟨hM,f,hT⟩,r2,r3,vj,λq=>?_,λq=>?_,λq=>?_⟩
 .have e1:oZ vs ms cs fs i.1=vs.length:=by unfold oZ;rw[if_pos (by omega)]
  rw[e1]at k2;rw[l1];exact k2 (by omega)
 .have e1:oZ vs ms cs fs i.1=cs.length:=by unfold oZ;rw[if_neg (by omega),if_neg (by omega),if_pos (by omega)]
  rw[e1]at k2;rw[l3];exact k2 (by omega)
 .refine ab3 k1 ?_;have:i.1=13\/i.1=15\/i.1=16\/i.1=17\/i.1=18\/i.1=19\/i.1=20\/i.1=21\/i.1=22:=by omega
  rcases this with e | e | e | e | e | e | e | e | e<;>rw[e]<;>rfl
abbrev Ul:CT:={ ps:=[oW,Ud,.int .i64],pre:=λd=>bnd (d.1,())/\iF d.2.1.1,res:=λd=>([],.iJ [.dat dS (jo (aC d.1.1 d.1.2.1 d.1.2.2.1 d.1.2.2.2.1 d.1.2.2.2.2.1).1 d.1.2.1 d.1.2.2.2.1 d.2.1.1 d.2.2.1).1,agI ((jo (aC d.1.1 d.1.2.1 d.1.2.2.1 d.1.2.2.2.1 d.1.2.2.2.2.1).1 d.1.2.1 d.1.2.2.2.1 d.2.1.1 d.2.2.1).2.1),.c (.v (.bool ((jo (aC d.1.1 d.1.2.1 d.1.2.2.1 d.1.2.2.2.1 d.1.2.2.2.2.1).1 d.1.2.1 d.1.2.2.2.1 d.2.1.1 d.2.2.1).2.2)))]) }
theorem al4(vs:List VD) (ms cs:List ByteArray) (fs:List FD) (ts:List SD) (th:List TD) (mv mo:List Int) (mq:List (List Int)) (mg:List Int) (bf:List BD) (id:Int) (aG:Ul.pre ((vs,ms,cs,fs,ts,()),(th,(mv,mo,mq,mg,()),bf,()),id,())):
 let z9:=aC vs ms cs fs ts;let z7:=jo z9.fst ms fs th id;let z2:=[SV.dat dS z7.fst,agI (z7.snd.fst),cB (z7.snd.snd)];let z8:=gy (λt=>decide (t.fst=id)) th;let z4:=0<=fM z8 (0:Int)/\fM z8 0 < (th.length:Int);let z6:=fM z8 (0:Int);let z3:=λ(d:TD)=>(bnd ((vs,ms,cs,fs,ts,()),()))/\List.length d.snd.snd.snd.snd.snd.snd.snd.snd.snd.fst<=1000000/\d.fst<=9223372036854775807/\List.length d.snd.snd.snd.fst=8;let z5:=λ(bJ d:TD)=>[SV.dat dS (bJ),agI ((fO z9.fst ms fs d).fst),cB ((fO z9.fst ms fs d).snd)];let z1:=λ(bJ d:TD)=>rT z2 (z5 bJ d);th.length<=1000000/\br (!decide (0<=gy (λt=>decide (t.fst=id)) th)) (rT z2 [SV.dat dS (((0:Int),(0:Int),(0:Int),WV,(0:Int),(0:Int),(0:Int),(0:Int),(0:Int),[],())),agI (0,0,0,0,0,0,0,0,()),cB false]) (z4/\∀(d:TD),th[z6.toNat]?=some d->((z3 d)/\z4/\∀(bJ:TD),th[z6.toNat]?=some bJ->(z1 bJ d)/\rT z2 (z5 bJ d))/\(z3 d)/\z4/\∀(bJ:TD),th[z6.toNat]?=some bJ->(z1 bJ d)/\rT z2 (z5 bJ d)):=by
 conv=>zeta
 delta WV;obtain⟨hb,hl,hT⟩:bnd ((vs,ms,cs,fs,ts,()),())/\iF th:=aG;refine⟨hl,ah.2 ⟨λh=>?_,λh=>?_⟩⟩
 .have q:¬0<=gy (λt=>decide (t.1=id)) th:=by simpa using h
  have e:jo (aC vs ms cs fs ts).1 ms fs th id=(zT,zI,false):=by unfold jo nN;rw[o8 q]
  rw[e];exact⟨rfl,rfl⟩
 .have q:0<=gy (λt=>decide (t.1=id)) th:=by simpa using h
  obtain⟨k,t,q1,q2,q3,q4⟩:=nD q;have ek:(fM (gy (λt=>decide (t.1=id)) th) 0).toNat=k:=by rw[q1];unfold fM;split<;>omega
  have hx:0<=fM (gy (λt=>decide (t.1=id)) th) 0/\fM (gy (λt=>decide (t.1=id)) th) 0 < (th.length:Int):=by rw[q1];unfold fM;split<;>omega
  have e:jo (aC vs ms cs fs ts).1 ms fs th id=(t,(fO (aC vs ms cs fs ts).1 ms fs t).1,(fO (aC vs ms cs fs ts).1 ms fs t).2):=by unfold jo nN;rw[q3]
  have key:∀d d1:TD,th[(fM (gy (λt=>decide (t.1=id)) th) 0).toNat]?=some d->th[(fM (gy (λt=>decide (t.1=id)) th) 0).toNat]?=some d1->rT [SV.dat dS (jo (aC vs ms cs fs ts).1 ms fs th id).1,agI (jo (aC vs ms cs fs ts).1 ms fs th id).2.1,cB (jo (aC vs ms cs fs ts).1 ms fs th id).2.2] [SV.dat dS d1,agI (fO (aC vs ms cs fs ts).1 ms fs d).1,cB (fO (aC vs ms cs fs ts).1 ms fs d).2]:=by
   intro d d1 h1 h2;rw[ek,q2]at h1 h2;have e1:t=d:=D5 h1;have e2:t=d1:=D5 h2;subst e1;subst e2;rw[e];exact⟨rfl,rfl⟩
  exact⟨hx,λd hd=>⟨⟨⟨hb,hT d (gZ hd)⟩,hx,λd1 h1=>⟨key d d1 hd h1,key d d1 hd h1⟩⟩,⟨hb,hT d (gZ hd)⟩,hx,λd1 h1=>⟨key d d1 hd h1,key d d1 hd h1⟩⟩⟩
theorem Um:aU aS.gd 41 Ul:=
 dY (cx:=aS) (n:=40) (cl:=[(52,Jc),(45,TS)]) (rc:=[.data dS,.keep,.keep]) au ⟨DK,TT,trivial⟩ Tryz.func41 λd hd=>by
  obtain⟨⟨vs,ms,cs,fs,ts,⟨⟩⟩,⟨th,⟨mv,mo,mq,mg,⟨⟩⟩,bf,⟨⟩⟩,id,⟨⟩⟩:=d;exact aP (λ_=>none) (al4 vs ms cs fs ts th mv mo mq mg bf id hd) (by kernel_rfl)
abbrev Gn:CT:={ ps:=[oW,Ud],pre:=λd=>bnd (d.1,())/\iF d.2.1.1/\bK d.2.1.2.1,res:=λd=>([],.one (.c (.sl (.int .i64) (fZ d.1.1 d.1.2.1 d.1.2.2.1 d.1.2.2.2.1 d.1.2.2.2.2.1 d.2.1.1 d.2.1.2.1 d.2.1.2.2.1)))) }
abbrev aoy(vs:List VD) (ms cs:List ByteArray) (fs:List FD) (ts:List SD) (th:List TD) (mv mo:List Int) (mq:List (List Int)) (mg:List Int) (bf:List BD):Nat->Option (St->jK):=λk=>match k with
 | 5=>some λ_=>.inv { α:=Nat,nil:=[(5,3,.int .i64)],slots:=λk=>[(17,.c (.v (.int .i64 k))),(5,.c (.row 2))],res:=λk=>[(2,.row 3 (.int .i64) (zW (aC vs ms cs fs ts).1 ms fs th (mv,mo,mq,mg,()) (th.take k)))],inv:=λk=>k<=th.length,meas:=λk=>th.length - k }
 | _=>none
theorem al5(vs:List VD) (ms cs:List ByteArray) (fs:List FD) (ts:List SD) (th:List TD) (mv mo:List Int) (mq:List (List Int)) (mg:List Int) (bf:List BD) (aG:Gn.pre ((vs,ms,cs,fs,ts,()),(th,(mv,mo,mq,mg,()),bf,()),())):
 let z7:=bnd ((vs,ms,cs,fs,ts,()),());let z10:=(mv,mo,mq,mg,());let z4:=bg.one (SV.c (SC.sl I6 (fZ vs ms cs fs ts th z10 bf)));let z11:=bP vs ms cs fs ts;let z8:=bZ th mv mo mq mg bf;let z9:=aC vs ms cs fs ts;let z2:=λ(x:Nat)=>zW z9.fst ms fs th z10 (List.take x th);let z1:=λ(x:Nat)=>[g0 z11,g0 z8,g0 (ak.row 3 I6 (z2 x))];let z6:=λ(d:TD)=>fO z9.fst ms fs d;let z5:=λ(d:TD)=>(z6 d).fst;let z3:=λ(x x':Nat)=>cI ((x:Int)+(1:Int))=cI (x':Int)/\sm (SV.c (SC.row 2))/\True;(z7/\iF th/\bK z10)/\br (!vsB vs ms cs fs ts (32:Int) th z10 bf) (rE z4 (bg.one (SV.c (SC.sl I6 [])))) ((∃x,x<=th.length/\(cI 0=cI (x:Int)/\sm (SV.c (SC.row 2))/\True)/\[g0 z11,g0 z8,g0 (ak.row 3 I6 [])]=(z1 x))/\∀(x:Nat),x<=th.length->br (decide ((x:Int) < (th.length:Int))) ((0<=(x:Int)/\(x:Int) < (th.length:Int))/\∀(d:TD),th[(x:Int).toNat]?=some d->(z7/\List.length d.snd.snd.snd.snd.snd.snd.snd.snd.snd.fst<=1000000/\d.fst<=9223372036854775807/\List.length d.snd.snd.snd.fst=8)/\((z6 d).snd=true->Gm z10 d (z5 d)/\th.length<=1000000)/\br ((z6 d).snd && CG th z10 d (z5 d)) (oz (List.length (z2 x)+List.length ([(d).fst])) 8/\iR ((x:Int)+(1:Int))/\∃x',x'<=th.length/\(z3 x x')/\[g0 z11,g0 z8,g0 (ak.row 3 I6 (zW z9.fst ms fs th z10 (List.take x th)++[(d).fst]))]=(z1 x')/\th.length - x' < th.length - x) (iR ((x:Int)+(1:Int))/\∃x',x'<=th.length/\(z3 x x')/\(z1 x)=(z1 x')/\th.length - x' < th.length - x)) (rE z4 (bg.one (SV.c (SC.sl I6 (z2 x)))))):=by
 conv=>zeta
 delta iR;obtain⟨hb,⟨hl,hT⟩,hM⟩:bnd ((vs,ms,cs,fs,ts,()),())/\iF th/\bK (mv,mo,mq,mg,()):=aG;refine⟨⟨hb,⟨hl,hT⟩,hM⟩,ah.2 ⟨λh=>?_,λh=>⟨⟨0,by omega,⟨rfl,rfl,trivial⟩,by simp[zW]⟩,λk hk=>ah.2 ⟨λg=>?_,λg=>?_⟩⟩⟩⟩
 .have h:vsB vs ms cs fs ts 32 th (mv,mo,mq,mg,()) bf=false:=by simpa using h
  exact⟨rfl,by unfold fZ;rw[h];rfl⟩
 .simp only[dN]at g;have hv:vsB vs ms cs fs ts 32 th (mv,mo,mq,mg,()) bf=true:=by simpa using h
  have hV:=iT.1 hv;have hle:(zW (aC vs ms cs fs ts).1 ms fs th (mv,mo,mq,mg,()) (th.take k)).length<=k:=by
   unfold zW;rw[WR];exact pI (Xd _ _) (by rw[lu];omega)
  refine⟨⟨by omega,by omega⟩,λd hd=>⟨⟨hb,hT d (gZ hd)⟩,λq=>⟨KT hV.1 hM (hT d (gZ hd)) q,hl⟩,ah.2 ⟨λg2=>⟨dZ.2 (by simp only[sV,Lp];omega),ay.2 (by omega),k+1,by omega,⟨rfl,rfl,trivial⟩,?_,by omega⟩,λg2=>⟨ay.2 (by omega),k+1,by omega,⟨rfl,rfl,trivial⟩,?_,by omega⟩⟩⟩⟩
  .have hd:th[k]?=some d:=hd;rw[Oo hd,if_pos (show WA _ _ _ _ _ _=true from g2)]
  .have hd:th[k]?=some d:=hd;have g2:WA (aC vs ms cs fs ts).1 ms fs th (mv,mo,mq,mg,()) d=false:=g2;rw[Oo hd,g2];simp
 .simp only[eH]at g;have hv:vsB vs ms cs fs ts 32 th (mv,mo,mq,mg,()) bf=true:=by simpa using h
  have ek:k=th.length:=by omega
  subst ek;rw[xg (o9 _)];exact⟨rfl,by unfold fZ;rw[if_pos hv]⟩
theorem KU:aU aS.gd 19 Gn:=
 dY (cx:=aS) (n:=41) (cl:=[(40,Om),(45,TS),(46,Uj)]) (rc:=[.data (.sl (.int .i64))]) au ⟨KR,TT,Uk,trivial⟩ Tryz.func19 λd hd=>by
  obtain⟨⟨vs,ms,cs,fs,ts,⟨⟩⟩,⟨th,⟨mv,mo,mq,mg,⟨⟩⟩,bf,⟨⟩⟩,⟨⟩⟩:=d;exact aP (aoy vs ms cs fs ts th mv mo mq mg bf) (al5 vs ms cs fs ts th mv mo mq mg bf hd) (by kernel_rfl)
def uY(vs:List VD) (ms cs:List ByteArray) (fs:List FD) (ts:List SD) (l:List TD) (m:MD) (bf:List BD) (id:Int):ED×Bool:=
 if vsB vs ms cs fs ts 32 l m bf=true then(if(jo (aC vs ms cs fs ts).1 ms fs l id).2.2=true then(labS m (jo (aC vs ms cs fs ts).1 ms fs l id).1 (jo (aC vs ms cs fs ts).1 ms fs l id).2.1,true) else(zE,false)) else(zE,false)
abbrev Un:CT:={ ps:=[oW,Ud,.int .i64],pre:=λd=>bnd (d.1,())/\iF d.2.1.1/\bK d.2.1.2.1,res:=λd=>([],.iJ [Ho ((uY d.1.1 d.1.2.1 d.1.2.2.1 d.1.2.2.2.1 d.1.2.2.2.2.1 d.2.1.1 d.2.1.2.1 d.2.1.2.2.1 d.2.2.1).1),.c (.v (.bool ((uY d.1.1 d.1.2.1 d.1.2.2.1 d.1.2.2.2.1 d.1.2.2.2.2.1 d.2.1.1 d.2.1.2.1 d.2.1.2.2.1 d.2.2.1).2)))]) }
theorem al6(vs:List VD) (ms cs:List ByteArray) (fs:List FD) (ts:List SD) (th:List TD) (mv mo:List Int) (mq:List (List Int)) (mg:List Int) (bf:List BD) (id:Int) (aG:Un.pre ((vs,ms,cs,fs,ts,()),(th,(mv,mo,mq,mg,()),bf,()),id,())):
 let z7:=bnd ((vs,ms,cs,fs,ts,()),());let z8:=(mv,mo,mq,mg,());let z4:=uY vs ms cs fs ts th z8 bf id;let z2:=[Ho (z4.fst),cB (z4.snd)];let z1:=rT z2 [Ho (0,0,0,0,0,0,0,0,0,()),cB false];let z6:=jo (aC vs ms cs fs ts).fst ms fs th id;let z5:=z6.fst;let z3:=z6.snd.fst;(z7/\iF th/\bK z8)/\br (!vsB vs ms cs fs ts (32:Int) th z8 bf) z1 ((z7/\iF th)/\br (!z6.snd.snd) z1 (Gm z8 z5 z3/\rT z2 [Ho (labS z8 z5 z3),cB true])):=by
 conv=>zeta
 obtain⟨hb,hT,hM⟩:bnd ((vs,ms,cs,fs,ts,()),())/\iF th/\bK (mv,mo,mq,mg,()):=aG;refine⟨⟨hb,hT,hM⟩,ah.2 ⟨λh=>?_,λh=>⟨⟨hb,hT⟩,ah.2 ⟨λh2=>?_,λh2=>⟨?_,?_⟩⟩⟩⟩⟩
 .have h:vsB vs ms cs fs ts 32 th (mv,mo,mq,mg,()) bf=false:=by simpa using h
  have e:uY vs ms cs fs ts th (mv,mo,mq,mg,()) bf id=(zE,false):=by unfold uY;rw[h];rfl
  rw[e];exact⟨rfl,rfl⟩
 all_goals have hv:vsB vs ms cs fs ts 32 th (mv,mo,mq,mg,()) bf=true:=by simpa using h
 .have h2:(jo (aC vs ms cs fs ts).1 ms fs th id).2.2=false:=by simpa using h2
  have e:uY vs ms cs fs ts th (mv,mo,mq,mg,()) bf id=(zE,false):=by unfold uY;rw[if_pos hv,h2];rfl
  rw[e];exact⟨rfl,rfl⟩
 all_goals have h2:(jo (aC vs ms cs fs ts).1 ms fs th id).2.2=true:=by simpa using h2
 .have h3:=h2;unfold jo at h3 ⊢;cases ef:nN th id with
  | none=>rw[ef]at h3;cases h3
  | some t=>
    rw[ef]at h3;exact KT (iT.1 hv).1 hM (hT.2 t (ais ef)) h3
 .have e:uY vs ms cs fs ts th (mv,mo,mq,mg,()) bf id=(labS (mv,mo,mq,mg,()) (jo (aC vs ms cs fs ts).1 ms fs th id).1 (jo (aC vs ms cs fs ts).1 ms fs th id).2.1,true):=by unfold uY;rw[if_pos hv,if_pos h2]
  rw[e];exact⟨rfl,rfl⟩
theorem Uo:aU aS.gd 16 Un:=
 dY (cx:=aS) (n:=31) (cl:=[(40,Om),(41,Ul),(42,Uh)]) (rc:=[.keep,.keep]) au ⟨KR,Um,Ui,trivial⟩ Tryz.func16 λd hd=>by
  obtain⟨⟨vs,ms,cs,fs,ts,⟨⟩⟩,⟨th,⟨mv,mo,mq,mg,⟨⟩⟩,bf,⟨⟩⟩,id,⟨⟩⟩:=d;exact aP (λ_=>none) (al6 vs ms cs fs ts th mv mo mq mg bf id hd) (by kernel_rfl)
abbrev shR:Sh:=.pair (.sl (.int .i64)) (.pair (.sl (.int .i64)) (.pair (.sl (.sl (.int .i64))) (.pair (.sl (.int .i64)) (.pair (.sl zV) .unit))))
def zR:TD:=(0,0,0,List.replicate 8 0,0,0,0,0,0,[],())
open Classical in
def og{α:Type} (a b:α):Bool:=decide (a=b)
theorem oh{α:Type}{a b:α}:og a b=true↔a=b:=by unfold og;exact @WZ _ (Classical.propDecidable _)
theorem oG{α:Type}{a b:α} (h:a≠b):og a b=false:=A97.2 λq=>h (oh.1 q)
theorem lT{α:Type}{a b:α} (h:a=b):og a b=true:=oh.2 h
theorem KW{i f t:Int} (h:bK m):bK (iL m i id f t).1:=by
 have z:bK zM:=⟨by decide,by decide,by decide,by decide,by decide,by decide⟩
 unfold iL;split
 .split
  .exact z
  .split
   .obtain⟨h1,h2,h3⟩:=h;exact⟨h1,by rw[wK];exact h2,h3⟩
   .exact z
 .exact z
theorem aoz{a b:List SV} (h:a=b):rT a b:=⟨rfl,by rw[h]⟩
def zX(l:List BD):Prop:=l.length<=1000000/\∀b∈l,b.2.2.1.length<=1000000
def ab4(z:ZD):Prop:=iF z.1/\bK z.2.1/\zX z.2.2.1
abbrev ab5:CT:={ ps:=[wF,dS,lY,shE],pre:=λd=>bK d.1/\d.2.1.1=d.2.2.2.1.1,res:=λd=>([],.iJ [OG ((jG d.1 d.2.2.2.1).1),.c (.v (.int .i64 (lS d.2.2.1 d.2.2.2.1))),.c (.v (.int .i64 ((jG d.1 d.2.2.2.1).2)))]) }
theorem al7(mv mo:List Int) (mq:List (List Int)) (mg:List Int) (id fn pc:Int) (rg:List Int) (st ch ph su fa:Int) (he:List Int) (op a b c obj n fo ord ag ix kd eo mx en Jd rd wr:Int) (aG:ab5.pre ((mv,mo,mq,mg,()),(id,fn,pc,rg,st,ch,ph,su,fa,he,()),(op,a,b,c,obj,n,fo,ord,()),(ag,ix,kd,eo,mx,en,Jd,rd,wr,()),())):
 let z20:=(mv,mo,mq,mg,());let nS:=(ag,ix,kd,eo,mx,en,Jd,rd,wr,());let z5:=jG z20 nS;let z4:=[OG (z5.fst),cI (lS (op,a,b,c,obj,n,fo,ord,()) nS),cI (z5.snd)];let OE:=writeM z20 eo wr;let z13:=OE.fst;let yg:=OE.snd;let z2:=rT z4 [OG z20,cI rd,cI 0];let z3:=rT z4 [OG z20,cI 0,cI 0];let z12:=iL z20 eo id (-1:Int) id;let z7:=z12.fst;let z8:=z12.snd;let z10:=iL z20 eo id id (-1:Int);let z11:=iL z20 mx id id (-1:Int);let z9:=z11.fst;let z6:=rJ z9 eo id;let Gg:=kY z20 id;let z17:=rP z20 eo (1:Int);let Gh:=rP z20 eo (kZ mq);let z1:=br (decide (kd=11)) (br (decide (rd=0)) z3 (bK z20/\rT z4 [OG z7,cI 1,cI z8])) (br (decide (kd=9)) (bK z20/\rT z4 [OG z7,cI 0,cI z8]) (br (decide (kd=10)) (bK z20/\rT z4 [OG (z10.fst),cI 0,cI (z10.snd)]) (br (decide (kd=12)) (bK z20/\br (decide (z11.snd=0)) (bK z9/\rT z4 [OG (z6.fst),cI 0,cI (z6.snd)]) (rT z4 [OG z9,cI 0,cI (z11.snd)])) (br (decide (kd=13)) (bK z20/\rT z4 [OG (Gg.fst),cI 0,cI (Gg.snd)]) (br (decide (kd=14)) (bK z20/\rT z4 [OG (z17.fst),cI 0,cI (z17.snd.snd)]) (br (decide (kd=15)) (bK z20/\rT z4 [OG (Gh.fst),cI 0,cI (Gh.snd.snd)]) (br (decide (kd=16)) (rT z4 [OG z20,cI eo,cI 0]) z3)))))));br (decide (kd=5)) (bK z20/\br (decide (op=12)) (rT z4 [OG z13,cI 1,cI yg]) (rT z4 [OG z13,cI rd,cI yg]))
 (br (decide (kd=2)) (bK z20/\rT z4 [OG z13,cI 0,cI yg]) (br (decide (kd=1)) (br (decide (kd=1)) z2 z1) (br (decide (kd=8)) z2 z1))):=by
 conv=>zeta
 obtain⟨hM,hid⟩:bK (mv,mo,mq,mg,())/\id=ag:=aG;subst hid;simp only[bC]
 repeat' (first | exact hM | exact KW hM | (refine aoz ?_) | (refine And.intro ?_ ?_) | (intro _))
 all_goals first | exact hM | exact KW hM | trivial | (exfalso;omega) | (simp_all[jG,lS];done) | skip
theorem ahb:aU aS.gd 48 ab5:=
 dY (cx:=aS) (n:=132) (cl:=[(100,alD),(101,abI),(102,abK),(103,abO),(104,abS),(105,abQ),(106,abX)]) (rc:=[.data wF,.keep,.keep]) au ⟨abH,abJ,abL,abP,abT,abR,abY,trivial⟩ Tryz.func48 λd hd=>by
  obtain⟨⟨mv,mo,mq,mg,⟨⟩⟩,⟨id,fn,pc,rg,st,ch,ph,su,fa,he,⟨⟩⟩,⟨op,a,b,c,obj,n,fo,ord,⟨⟩⟩,⟨ag,ix,kd,eo,mx,en,Jd,rd,wr,⟨⟩⟩,⟨⟩⟩:=d;exact aP (λ_=>none) (al7 mv mo mq mg id fn pc rg st ch ph su fa he op a b c obj n fo ord ag ix kd eo mx en Jd rd wr hd) (by kernel_rfl)
abbrev ab6:CT:={ ps:=[.sl Wx],pre:=λd=>d.1.length<=1000000,res:=λd=>([.row 67 Wx d.1],.one (.c (.row 0))) }
theorem al8(l:List (Int×Int×Unit)) (aG:ab6.pre (l,())):
 ∀(b:Bool),(b=true->l=[])->br b ([ak.row 67 mO l]=[ak.row 67 mO []]/\bg.one (SV.c (SC.row 0))=bg.one (SV.c (SC.row 0))) (oz (0+List.length (l)) 16/\[ak.row 67 mO l]=[ak.row 67 mO ([]++l)]/\bg.one (SV.c (SC.row 0))=bg.one (SV.c (SC.row 0))):=by
 have hp:l.length<=1000000:=aG;intro b hb;refine ah.2 ⟨λh=>by rw[hb h];exact⟨rfl,rfl⟩,λh=>⟨?_,by simp,rfl⟩⟩
 rw[dZ];omega
theorem ahc:aU aS.gd 59 ab6:=
 Qk (il:=ilN) (rc:=[.row 67 Wx]) (cx:=aS) (n:=8) (cl:=[]) (by kernel_rfl) au trivial trivial Tryz.func59 (by kernel_rfl) (by kernel_rfl) rfl (by kernel_rfl) (by kernel_rfl) λd hd=>by
  obtain⟨l,⟨⟩⟩:=d;exact aP (λ_=>none) (al8 l hd) (by kernel_rfl)
abbrev ab7:CT:={ ps:=[Ud],pre:=λd=>ab4 d.1,res:=λd=>([.row 56 dS d.1.1],.one (.agg [.row 0,.sl (.int .i64) d.1.2.1.1,.sl (.int .i64) d.1.2.1.2.1,.sl (.sl (.int .i64)) d.1.2.1.2.2.1,.sl (.int .i64) d.1.2.1.2.2.2.1,.sl zV d.1.2.2.1])) }
abbrev aoA(th:List TD) (mv mo:List Int) (mq:List (List Int)) (mg:List Int) (bf:List BD):Nat->Option (St->jK):=λk=>match k with
 | 5=>some λ_=>.inv { α:=Nat,slots:=λk=>[(23,.c (.v (.int .i64 k)))],res:=λk=>[(7,.row 56 dS th)],inv:=λk=>k<=th.length,meas:=λk=>th.length - k }
 | 12=>some λ_=>.inv { α:=Nat,slots:=λk=>[(52,.c (.v (.int .i64 k)))],res:=λk=>[(8,.row 65 zV bf)],inv:=λk=>k<=bf.length,meas:=λk=>bf.length - k }
 | _=>none
abbrev uZ:=[iN,iN,iN,iN,iN,iN]
theorem al9(th:List TD) (mv mo:List Int) (mq:List (List Int)) (mg:List Int) (bf:List BD) (aG:ab7.pre ((th,(mv,mo,mq,mg,()),bf,()),())):
 let z13:=bZ th mv mo mq mg bf;let z6:=[SC.row (Nat.succ 0).succ.succ.succ.succ.succ.succ,SC.row 2,SC.row 3,SC.row 4,SC.row 5,iN];let z11:=List.replicate (th.length:Int).toNat (zR:TD);let z4:=List.take (List.length z11) (th)++List.drop (List.length (th)) z11;let z2:=[g0 z13,g0 (ak.blk 37 uZ),g0 (ak.row 3 I6 mv),g0 (ak.row 3 I6 mo),g0 (ak.row 31 I6.sl mq),g0 (ak.row 3 I6 mg),g0 (ak.blk 37 z6),g0 (ak.row 56 dS th)];let z9:=λ(x:Nat)=>0<=(x:Int)/\(x:Int) < (th.length:Int);let z12:=λ(x:Nat)=>(x:Int)+(1:Int);let z5:=[SC.row (Nat.succ 0).succ.succ.succ.succ.succ.succ,SC.row 2,SC.row 3,SC.row 4,SC.row 5,SC.row (Nat.succ 0).succ.succ.succ.succ.succ.succ.succ];let z8:=List.replicate (bf.length:Int).toNat (((0:Int),(0:Int),[],()):BD);let z3:=List.take (List.length z8) (bf)++List.drop (List.length (bf)) z8;let z1:=[g0 z13,g0 (ak.blk 37 uZ),g0 (ak.row 3 I6 mv),g0 (ak.row 3 I6 mo),g0 (ak.row 31 I6.sl mq),g0 (ak.row 3 I6 mg),g0 (ak.blk 37 z5),g0 (ak.row 56 dS th),g0 (ak.row 65 zV bf)];let z10:=λ(x:Nat)=>0<=(x:Int)/\(x:Int) < (bf.length:Int);let z7:=[SC.row 0,SC.sl I6 mv,SC.sl I6 mo,SC.sl I6.sl mq,SC.sl I6 mg,SC.sl zV bf];bK (mv,mo,mq,mg,())/\(0<=(th.length:Int)/\(th.length:Int)<=(th.length:Int)/\oz (th.length:Int).toNat 152)/\(∃x,x<=th.length/\(cI 0=cI (x:Int)/\True)/\[g0 z13,g0 (ak.blk 37 uZ),g0 (ak.row 3 I6 mv),g0 (ak.row 3 I6 mo),g0 (ak.row 31 I6.sl mq),g0 (ak.row 3 I6 mg),g0 (ak.blk 37 z6),g0 (ak.row 56 dS z4)]=z2)/\∀(x:Nat),x<=th.length->br (decide ((x:Int) < (z4.length:Int))) ((z9 x)/\∀(d:TD),th[(x:Int).toNat]?=some d->List.length d.snd.snd.snd.snd.snd.snd.snd.snd.snd.fst<=1000000/\(z9 x)/\(x:Int).toNat < th.length/\∀(e:TD),th[(x:Int).toNat]?=some e->iR (z12 x)/\∃x',x'<=th.length/\(cI (z12 x)=cI (x':Int)/\True)/\[g0 z13,g0 (ak.blk 37 uZ),g0 (ak.row 3 I6 mv),g0 (ak.row 3 I6 mo),g0 (ak.row 31 I6.sl mq),g0 (ak.row 3 I6 mg),g0 (ak.blk 37 z6),g0 (ak.row 56 dS (th.set (x:Int).toNat (e.fst,e.2.fst,e.2.2.fst,e.2.2.2.fst,e.2.2.2.2.fst,e.2.2.2.2.2.fst,e.2.2.2.2.2.2.fst,e.2.2.2.2.2.2.2.fst,e.2.2.2.2.2.2.2.2.fst,d.snd.snd.snd.snd.snd.snd.snd.snd.snd.fst,e.2.2.2.2.2.2.2.2.2.snd)))]=z2/\th.length - x' < th.length - x) ((0<=(bf.length:Int)/\(bf.length:Int)<=(bf.length:Int)/\oz (bf.length:Int).toNat 40)/\(∃x,x<=bf.length/\(cI 0=cI (x:Int)/\True)/\[g0 z13,g0 (ak.blk 37 uZ),g0 (ak.row 3 I6 mv),g0 (ak.row 3 I6 mo),g0 (ak.row 31 I6.sl mq),g0 (ak.row 3 I6 mg),g0 (ak.blk 37 z5),g0 (ak.row 56 dS th),g0 (ak.row 65 zV z3)]=z1)/\∀(x:Nat),x<=bf.length->br (decide ((x:Int) < (z3.length:Int))) ((z10 x)/\∀(d:BD),bf[(x:Int).toNat]?=some d->List.length d.snd.snd.fst<=1000000/\(z10 x)/\(x:Int).toNat < bf.length/\∀(e:BD),bf[(x:Int).toNat]?=some e->iR (z12 x)/\∃x',x'<=bf.length/\(cI (z12 x)=cI (x':Int)/\True)/\[g0 z13,g0 (ak.blk 37 uZ),g0 (ak.row 3 I6 mv),g0 (ak.row 3 I6 mo),g0 (ak.row 31 I6.sl mq),g0 (ak.row 3 I6 mg),g0 (ak.blk 37 z5),g0 (ak.row 56 dS th),g0 (ak.row 65 zV (bf.set (x:Int).toNat (e.fst,e.2.fst,d.snd.snd.fst,e.2.2.snd)))]=z1/\bf.length - x' < bf.length - x) ([ak.row 56 dS th]=[ak.row 56 dS th]/\bg.one (SV.agg z7)=bg.one (SV.agg z7))):=by
 conv=>zeta
 delta uZ iR iN;obtain⟨⟨hl,hT⟩,hM,hB,hb⟩:iF th/\bK (mv,mo,mq,mg,())/\zX bf:=aG;have tk:∀{α:Type} (l:List α) (z:α),List.take (List.length (List.replicate (l.length:Int).toNat z)) l++List.drop (List.length l) (List.replicate (l.length:Int).toNat z)=l:=by
  intro α l z;rw[Lj,W9,xg (o9 _),UL (by rw[Lj];omega),Rf]
 have st:∀{α:Type}{l:List α}{k:Nat}{d:α},l[k]?=some d->l.set k d=l:=λh=>ig h
 rw[tk th,tk bf];refine⟨hM,⟨by omega,by omega,dZ.2 (by omega)⟩,⟨0,by omega,⟨rfl,trivial⟩,rfl⟩,λk hk=>ah.2 ⟨λg=>?_,λg=>⟨⟨by omega,by omega,dZ.2 (by omega)⟩,⟨0,by omega,⟨rfl,trivial⟩,rfl⟩,λk hk=>ah.2 ⟨λg=>?_,λg=>?_⟩⟩⟩⟩
 .simp only[dN]at g;refine⟨⟨by omega,by omega⟩,λd hd=>⟨(hT d (gZ hd)).1,⟨by omega,by omega⟩,by omega,λe he=>⟨ay.2 (by omega),k+1,by omega,⟨rfl,trivial⟩,?_,by omega⟩⟩⟩
  have hd:th[(k:Int).toNat]?=some d:=hd;rw[hd]at he;have e1:d=e:=D5 he;subst e1;have:th.set (k:Int).toNat d=th:=st hd;exact tX (λz=>[_,_,_,_,_,_,_,g0 (ak.row 56 dS z)]) this
 .simp only[dN]at g;refine⟨⟨by omega,by omega⟩,λd hd=>⟨hb d (gZ hd),⟨by omega,by omega⟩,by omega,λe he=>⟨ay.2 (by omega),k+1,by omega,⟨rfl,trivial⟩,?_,by omega⟩⟩⟩
  have hd:bf[(k:Int).toNat]?=some d:=hd;rw[hd]at he;have e1:d=e:=D5 he;subst e1;have:bf.set (k:Int).toNat d=bf:=st hd;exact tX (λz=>[_,_,_,_,_,_,_,_,g0 (ak.row 65 zV z)]) this
 .exact⟨rfl,rfl⟩
theorem ahd:aU aS.gd 23 ab7:=
 dY (cx:=aS) (n:=69) (cl:=[(49,Cm),(58,vW),(59,ab6)]) (rc:=[.hd 56 dS shR]) au ⟨rG,Dv,ahc,trivial⟩ Tryz.func23 λd hd=>by
  obtain⟨⟨th,⟨mv,mo,mq,mg,⟨⟩⟩,bf,⟨⟩⟩,⟨⟩⟩:=d;exact aP (aoA th mv mo mq mg bf) (al9 th mv mo mq mg bf hd) (by kernel_rfl)
abbrev ab8:CT:={ ps:=[dS,dS],pre:=λd=>d.1.2.2.2.2.2.2.2.2.2.1.length<=1000000,res:=λd=>([],vB (og d.1 d.2.1)) }
theorem ama(id fn pc:Int) (rg:List Int) (st ch ph su fa:Int) (he:List Int) (id2 fn2 pc2:Int) (rg2:List Int) (st2 ch2 ph2 su2 fa2:Int) (he2:List Int) (aG:ab8.pre ((id,fn,pc,rg,st,ch,ph,su,fa,he,()),(id2,fn2,pc2,rg2,st2,ch2,ph2,su2,fa2,he2,()),())):
 let z1:=og (id,fn,pc,rg,st,ch,ph,su,fa,he,()) (id2,fn2,pc2,rg2,st2,ch2,ph2,su2,fa2,he2,());br (!decide (id=id2) || !decide (fn=fn2) || !decide (pc=pc2) || !decide (rg=rg2) || !decide (st=st2) || !decide (ch=ch2)) (qB z1 false) (((decide (ph=ph2) && decide (su=su2) && decide (fa=fa2))=true->he.length<=1000000)/\qB z1 (decide (ph=ph2) && decide (su=su2) && decide (fa=fa2) && decide (he=he2))):=by
 conv=>zeta
 have hp:he.length<=1000000:=aG;refine ah.2 ⟨λh=>⟨rfl,?_⟩,λh=>⟨λ_=>hp,uX ?_⟩⟩
 .rw[oG];intro q;simp only[GR]at q;simp[q]at h
 .rw[Gy,oh];simp only[l7,wI,dN]at h;simp only[GR,bY,dN,h,true_and];constructor
  .rintro⟨h1,h2,h3,h4,_⟩;exact⟨⟨⟨h1,h2⟩,h3⟩,h4⟩
  .rintro⟨⟨⟨h1,h2⟩,h3⟩,h4⟩;exact⟨h1,h2,h3,h4,trivial⟩
theorem ahe:aU aS.gd 62 ab8:=
 dY (cx:=aS) (n:=71) (cl:=[(127,uV)]) (rc:=[]) au ⟨Gj,trivial⟩ Tryz.func62 λd hd=>by
  obtain⟨⟨id,fn,pc,rg,st,ch,ph,su,fa,he,⟨⟩⟩,⟨id2,fn2,pc2,rg2,st2,ch2,ph2,su2,fa2,he2,⟨⟩⟩,⟨⟩⟩:=d;exact aP (λ_=>none) (ama id fn pc rg st ch ph su fa he id2 fn2 pc2 rg2 st2 ch2 ph2 su2 fa2 he2 hd) (by kernel_rfl)
abbrev ab9:CT:={ ps:=[.sl dS,.sl dS],pre:=λd=>d.1.length<=1000000/\∀q∈d.1,q.2.2.2.2.2.2.2.2.2.1.length<=1000000,res:=λd=>([],vB (og d.1 d.2.1)) }
abbrev aoE(l m:List TD):Nat->Option (St->jK):=λk=>match k with
 | 4=>some λ_=>.inv { α:=Nat,slots:=λk=>[(17,.c (.v (.int .i64 k)))],res:=λk=>[],inv:=λk=>k<=(l).length/\∀j < k,l[j]?=m[j]?,meas:=λk=>(l).length - k }
 | _=>none
theorem amb(l m:List TD) (aG:ab9.pre (l,m,())):
 let z1:=λ(x:Nat)=>(x<=l.length/\∀(j:Nat),j < x->l[j]?=m[j]?);br (!decide ((l.length:Int)=(m.length:Int))) (qB (og l m) false) ((∃x,(z1 x)/\(cI 0=cI (x:Int)/\True)/\([]:List dP)=[])/\∀(x:Nat),(z1 x)->br (decide ((x:Int) < (l.length:Int))) ((0<=(x:Int)/\(x:Int) < (l.length:Int))/\∀(d:TD),l[(x:Int).toNat]?=some d->(0<=(x:Int)/\(x:Int) < (m.length:Int))/\∀(bJ:TD),m[(x:Int).toNat]?=some bJ->List.length d.snd.snd.snd.snd.snd.snd.snd.snd.snd.fst<=1000000/\br (!og d bJ) (qB (og l m) false) (iR ((x:Int)+(1:Int))/\∃x',(z1 x')/\(cI ((x:Int)+(1:Int))=cI (x':Int)/\True)/\([]:List dP)=[]/\l.length - x' < l.length - x)) (qB (og l m) true)):=by
 conv=>zeta
 delta dP iR;obtain⟨hp,h6⟩:l.length<=1000000/\∀q∈l,q.2.2.2.2.2.2.2.2.2.1.length<=1000000:=aG;have fF:l≠m->qB (og l m) false:=λq=>⟨rfl,by rw[oG q]⟩
 refine ah.2 ⟨λh=>fF λq=>?_,λh=>?_⟩
 .subst q;simp at h
 simp only[wI,dN]at h;refine⟨⟨0,⟨by omega,λj hj=>by omega⟩,⟨rfl,trivial⟩,rfl⟩,λk hk=>ah.2 ⟨λg=>?_,λg=>?_⟩⟩
 .simp only[dN]at g;refine⟨⟨by omega,by omega⟩,λd hd=>⟨⟨by omega,by omega⟩,λd1 hd1=>⟨h6 d (gZ hd),ah.2 ⟨λg2=>fF λq=>?_,λg2=>⟨ay.2 (by omega),k+1,⟨by omega,λj hj=>?_⟩,⟨rfl,trivial⟩,rfl,by omega⟩⟩⟩⟩⟩
  .subst q;rw[hd]at hd1;cases hd1;rw[lT rfl]at g2;cases g2
  .by_cases iY:j=k
   .subst iY;have hd:l[j]?=some d:=hd;have hd1:m[j]?=some d1:=hd1;have g2:=oh.1 (show og d d1=true by simpa using g2)
    rw[hd,hd1,g2]
   .exact hk.2 j (by omega)
 simp only[eH]at g;have e:l=m:=by
  apply Jh;intro j
  by_cases hj:j < k
  .exact hk.2 j hj
  .rw[CJ (by omega),CJ (by omega)]
 exact⟨rfl,by rw[lT e]⟩
theorem acd:J7 Tryz.prog aS.gd 61 [.func (.func 62) #[] #[]] ab9:=
 (nZ (cx:=aS) (n:=32) (cl:=[(62,ab8)]) (il:=ilN) (hl:=hlN) (ml:=mlN) (rc:=[]) (lits:=[]) (suf:=[.func (.func 62) #[] #[]]) (by kernel_rfl) au ⟨ahe,trivial⟩ trivial trivial trivial Tryz.func61 (by kernel_rfl) (by kernel_rfl) rfl (by kernel_rfl) (by kernel_rfl) (by simp) λd hd=>by
  obtain⟨l,m,⟨⟩⟩:=d;exact aP (aoE l m) (amb l m hd) (by kernel_rfl))
abbrev ace:CT:={ ps:=[.sl Wx,.sl Wx],pre:=λd=>d.1.length<=1000000,res:=λd=>([],vB (og d.1 d.2.1)) }
abbrev amc(l m:List (Int×Int×Unit)):Nat->Option (St->jK):=λk=>match k with
 | 4=>some λ_=>.inv { α:=Nat,slots:=λk=>[(13,.c (.v (.int .i64 k)))],res:=λk=>[],inv:=λk=>k<=(l).length/\∀j < k,l[j]?=m[j]?,meas:=λk=>(l).length - k }
 | _=>none
theorem ahf(l m:List (Int×Int×Unit)) (aG:ace.pre (l,m,())):
 let z1:=λ(x:Nat)=>(x<=l.length/\∀(j:Nat),j < x->l[j]?=m[j]?);br (!decide ((l.length:Int)=(m.length:Int))) (qB (og l m) false) ((∃x,(z1 x)/\(cI 0=cI (x:Int)/\True)/\([]:List dP)=[])/\∀(x:Nat),(z1 x)->br (decide ((x:Int) < (l.length:Int))) ((0<=(x:Int)/\(x:Int) < (l.length:Int))/\∀(d:Int×(I6.pair Sh.unit).den),l[(x:Int).toNat]?=some d->(0<=(x:Int)/\(x:Int) < (m.length:Int))/\∀(bJ:Int×(I6.pair Sh.unit).den),m[(x:Int).toNat]?=some bJ->br (!(true && d.fst == bJ.fst && d.snd.fst == bJ.snd.fst)) (qB (og l m) false) (iR ((x:Int)+(1:Int))/\∃x',(z1 x')/\(cI ((x:Int)+(1:Int))=cI (x':Int)/\True)/\([]:List dP)=[]/\l.length - x' < l.length - x)) (qB (og l m) true)):=by
 conv=>zeta
 delta dP iR;have hp:l.length<=1000000:=aG;have fF:l≠m->qB (og l m) false:=λq=>⟨rfl,by rw[oG q]⟩
 refine ah.2 ⟨λh=>fF λq=>?_,λh=>?_⟩
 .subst q;simp at h
 simp only[wI,dN]at h;refine⟨⟨0,⟨by omega,λj hj=>by omega⟩,⟨rfl,trivial⟩,rfl⟩,λk hk=>ah.2 ⟨λg=>?_,λg=>?_⟩⟩
 .simp only[dN]at g;refine⟨⟨by omega,by omega⟩,λd hd=>⟨⟨by omega,by omega⟩,λd1 hd1=>ah.2 ⟨λg2=>fF λq=>?_,λg2=>⟨ay.2 (by omega),k+1,⟨by omega,λj hj=>?_⟩,⟨rfl,trivial⟩,rfl,by omega⟩⟩⟩⟩
  .subst q;rw[hd]at hd1;cases hd1;simp at g2
  .by_cases iY:j=k
   .subst iY;have hd:l[j]?=some d:=hd;have hd1:m[j]?=some d1:=hd1;have g2:d=d1:=by
     obtain⟨x,y,⟨⟩⟩:=d;obtain⟨x1,y1,⟨⟩⟩:=d1;simpa using g2
    rw[hd,hd1,g2]
   .exact hk.2 j (by omega)
 simp only[eH]at g;have e:l=m:=by
  apply Jh;intro j
  by_cases hj:j < k
  .exact hk.2 j hj
  .rw[CJ (by omega),CJ (by omega)]
 exact⟨rfl,by rw[lT e]⟩
theorem acf:aU aS.gd 130 ace:=
 dY (cx:=aS) (n:=26) (cl:=[]) (rc:=[]) au trivial Tryz.func130 λd hd=>by
  obtain⟨l,m,⟨⟩⟩:=d;exact aP (amc l m) (ahf l m hd) (by kernel_rfl)
abbrev acg:CT:={ ps:=[zV,zV],pre:=λd=>d.1.2.2.1.length<=1000000,res:=λd=>([],vB (og d.1 d.2.1)) }
theorem amd(b1 b2:Int) (bl:List (Int×Int×Unit)) (c1 c2:Int) (cl:List (Int×Int×Unit)) (aG:acg.pre ((b1,b2,bl,()),(c1,c2,cl,()),())):
 ((decide (b1=c1) && decide (b2=c2))=true->bl.length<=1000000)/\qB (og (b1,b2,bl,()) (c1,c2,cl,())) (decide (b1=c1) && decide (b2=c2) && og bl cl):=by
 have hp:bl.length<=1000000:=aG;refine⟨λ_=>hp,uX ?_⟩
 rw[Gy,oh];simp only[GR,bY,dN,oh];constructor
 .rintro⟨h1,h2,h3,_⟩;exact⟨⟨h1,h2⟩,h3⟩
 .rintro⟨⟨h1,h2⟩,h3⟩;exact⟨h1,h2,h3,trivial⟩
theorem ahg:aU aS.gd 64 acg:=
 dY (cx:=aS) (n:=24) (cl:=[(130,ace)]) (rc:=[]) au ⟨acf,trivial⟩ Tryz.func64 λd hd=>by
  obtain⟨⟨b1,b2,bl,⟨⟩⟩,⟨c1,c2,cl,⟨⟩⟩,⟨⟩⟩:=d;exact aP (λ_=>none) (amd b1 b2 bl c1 c2 cl hd) (by kernel_rfl)
abbrev ach:CT:={ ps:=[.sl zV,.sl zV],pre:=λd=>zX d.1,res:=λd=>([],vB (og d.1 d.2.1)) }
abbrev aoF(l m:List BD):Nat->Option (St->jK):=λk=>match k with
 | 4=>some λ_=>.inv { α:=Nat,slots:=λk=>[(17,.c (.v (.int .i64 k)))],res:=λk=>[],inv:=λk=>k<=(l).length/\∀j < k,l[j]?=m[j]?,meas:=λk=>(l).length - k }
 | _=>none
theorem ame(l m:List BD) (aG:ach.pre (l,m,())):
 let z1:=λ(x:Nat)=>(x<=l.length/\∀(j:Nat),j < x->l[j]?=m[j]?);br (!decide ((l.length:Int)=(m.length:Int))) (qB (og l m) false) ((∃x,(z1 x)/\(cI 0=cI (x:Int)/\True)/\([]:List dP)=[])/\∀(x:Nat),(z1 x)->br (decide ((x:Int) < (l.length:Int))) ((0<=(x:Int)/\(x:Int) < (l.length:Int))/\∀(d:BD),l[(x:Int).toNat]?=some d->(0<=(x:Int)/\(x:Int) < (m.length:Int))/\∀(bJ:BD),m[(x:Int).toNat]?=some bJ->List.length d.snd.snd.fst<=1000000/\br (!og d bJ) (qB (og l m) false) (iR ((x:Int)+(1:Int))/\∃x',(z1 x')/\(cI ((x:Int)+(1:Int))=cI (x':Int)/\True)/\([]:List dP)=[]/\l.length - x' < l.length - x)) (qB (og l m) true)):=by
 conv=>zeta
 delta dP iR;obtain⟨hp,h6⟩:l.length<=1000000/\∀q∈l,q.2.2.1.length<=1000000:=aG;have fF:l≠m->qB (og l m) false:=λq=>⟨rfl,by rw[oG q]⟩
 refine ah.2 ⟨λh=>fF λq=>?_,λh=>?_⟩
 .subst q;simp at h
 simp only[wI,dN]at h;refine⟨⟨0,⟨by omega,λj hj=>by omega⟩,⟨rfl,trivial⟩,rfl⟩,λk hk=>ah.2 ⟨λg=>?_,λg=>?_⟩⟩
 .simp only[dN]at g;refine⟨⟨by omega,by omega⟩,λd hd=>⟨⟨by omega,by omega⟩,λd1 hd1=>⟨h6 d (gZ hd),ah.2 ⟨λg2=>fF λq=>?_,λg2=>⟨ay.2 (by omega),k+1,⟨by omega,λj hj=>?_⟩,⟨rfl,trivial⟩,rfl,by omega⟩⟩⟩⟩⟩
  .subst q;rw[hd]at hd1;cases hd1;rw[lT rfl]at g2;cases g2
  .by_cases iY:j=k
   .subst iY;have hd:l[j]?=some d:=hd;have hd1:m[j]?=some d1:=hd1;have g2:=oh.1 (show og d d1=true by simpa using g2)
    rw[hd,hd1,g2]
   .exact hk.2 j (by omega)
 simp only[eH]at g;have e:l=m:=by
  apply Jh;intro j
  by_cases hj:j < k
  .exact hk.2 j hj
  .rw[CJ (by omega),CJ (by omega)]
 exact⟨rfl,by rw[lT e]⟩
theorem aci:J7 Tryz.prog aS.gd 63 [.func (.func 64) #[] #[]] ach:=
 (nZ (cx:=aS) (n:=32) (cl:=[(64,acg)]) (il:=ilN) (hl:=hlN) (ml:=mlN) (rc:=[]) (lits:=[]) (suf:=[.func (.func 64) #[] #[]]) (by kernel_rfl) au ⟨ahg,trivial⟩ trivial trivial trivial Tryz.func63 (by kernel_rfl) (by kernel_rfl) rfl (by kernel_rfl) (by kernel_rfl) (by simp) λd hd=>by
  obtain⟨l,m,⟨⟩⟩:=d;exact aP (aoF l m) (ame l m hd) (by kernel_rfl))
abbrev acj:CT:={ ps:=[Ud,Ud],pre:=λd=>ab4 d.1,res:=λd=>([],vB (og d.1 d.2.1)) }
abbrev aqj:List (Nat×Nat×CT):=[(61,62,ab9),(63,64,ach)]
theorem amf(th:List TD) (mv mo:List Int) (mq:List (List Int)) (mg:List Int) (bf:List BD) (th2:List TD) (mv2 mo2:List Int) (mq2:List (List Int)) (mg2:List Int) (bf2:List BD) (aG:acj.pre ((th,(mv,mo,mq,mg,()),bf,()),(th2,(mv2,mo2,mq2,mg2,()),bf2,()),())):
 let z2:=(mv,mo,mq,mg,());let z1:=z2=(mv2,mo2,mq2,mg2,());bK z2/\(decide z1=true->th.length<=1000000/\∀(q:TD),q∈th->List.length q.snd.snd.snd.snd.snd.snd.snd.snd.snd.fst<=1000000)/\((decide z1 && og th th2)=true->zX bf)/\qB (og (th,z2,bf,()) (th2,(mv2,mo2,mq2,mg2,()),bf2,())) (decide z1 && og th th2 && og bf bf2):=by
 conv=>zeta
 obtain⟨⟨hl,hT⟩,hM,hB⟩:iF th/\bK (mv,mo,mq,mg,())/\zX bf:=aG;refine⟨hM,λ_=>⟨hl,λq hq=>(hT q hq).1⟩,λ_=>hB,uX ?_⟩
 rw[Gy,oh];simp only[bY,dN,oh];constructor
 .intro h;have h:=Prod.mk.inj h;have h2:=Prod.mk.inj h.2;have h3:=Prod.mk.inj h2.2;exact⟨⟨h2.1,h.1⟩,h3.1⟩
 .rintro⟨⟨h1,h2⟩,h3⟩;rw[h1,h2,h3]
theorem ahh:aU aS.gd 24 acj:=
 (nZ (cx:=aS) (n:=24) (cl:=[(60,QN)]) (il:=ilN) (hl:=aqj) (ml:=mlN) (rc:=[]) (lits:=[]) (suf:=[]) (by kernel_rfl) au ⟨agW,trivial⟩ trivial ⟨acd,aci,trivial⟩ trivial Tryz.func24 (by kernel_rfl) (by kernel_rfl) rfl (by kernel_rfl) (by kernel_rfl) (by simp) λd hd=>by
  obtain⟨⟨th,⟨mv,mo,mq,mg,⟨⟩⟩,bf,⟨⟩⟩,⟨th2,⟨mv2,mo2,mq2,mg2,⟨⟩⟩,bf2,⟨⟩⟩,⟨⟩⟩:=d;exact aP (λ_=>none) (amf th mv mo mq mg bf th2 mv2 mo2 mq2 mg2 bf2 hd) (by kernel_rfl)).met
def qF(m:MD):Bool:=decide (m.1.length<=20) && decide (m.2.1.length<=20) && decide (m.2.2.1.length<=20) && decide (m.2.2.2.1.length<=60) && m.2.2.1.all (λq=>decide (q.length<=60))
theorem wz(h:qF m=true):bK m:=by
 obtain⟨vs,os,qs,sg,⟨⟩⟩:=m;unfold qF at h;simp only[bY,Q9,dN]at h;obtain⟨⟨⟨⟨h1,h2⟩,h3⟩,h4⟩,h5⟩:=h;refine⟨by show vs.length<=1000;omega,by show os.length<=1000;omega,by show qs.length<=1000;omega,by show sg.length<=1000;omega,λq hq=>by have:=h5 q hq;omega,?_⟩
 have key:∀l:List (List Int),(∀q∈l,q.length<=60)->l.flatten.length<=60 * l.length:=by
  intro l
  induction l with
  | nil=>intro _;simp
  | cons a l ih=>
    intro hl;have:=ih λq hq=>hl q (by simp[hq])
    have:=hl a (by simp)
    simp only[OO,kH,sV];omega
 have:=key qs h5;show qs.flatten.length<=100000;omega
theorem Ot:∀(qs:List (List Int)) (k:Nat) (d:List Int) (x:Int),qs[k]?=some d->((qs.set k (d++[x])).flatten).Perm (x :: qs.flatten)
 | [],k,d,x,h=>by simp at h
 | q :: qs,0,d,x,h=>by
   simp only[UQ,WO]at h;subst h;simp only[Xf,OO,Au,aiv];exact List.perm_middle
 | q :: qs,k+1,d,x,h=>by
   rw[ado]at h;have ih:=Ot qs k d x h;simp only[aiy,OO];exact(ih.append_left q).trans List.perm_middle
theorem Je:kG m id=true↔id∈m.2.2.2.1++m.2.2.1.flatten:=by
 unfold kG;rw[xk,Ls,jO,CX,List.mem_flatten];constructor
 .rintro(⟨q,h1,h2⟩ | h)
  .exact .inr ⟨q,h1,jO.1 h2⟩
  .exact .inl h
 .rintro(h | ⟨q,h1,h2⟩)
  .exact .inr h
  .exact .inl ⟨q,h1,jO.2 h2⟩
theorem acn(hB:dK (vs,os,qs,sg,())=true){d:List Int} (hk:qs[k]?=some d) (h0:0<=id):
 dK (vs,os,qs.set k (d++[id]),sg,()) = !kG (vs,os,qs,sg,()) id:=by
 obtain⟨q1,q2,q3,q4,q5,q6,q7,q8⟩:vs.length<=8/\os.length<=4/\qs.length<=4/\SS sg/\(∀v∈vs,bU v=true)/\(∀o∈os,-1<=o)/\(∀x∈sg++qs.flatten,0<=x)/\(sg++qs.flatten).Nodup:=dW.1 hB;have hp:(sg++(qs.set k (d++[id])).flatten).Perm (id :: (sg++qs.flatten)):=((Ot qs k d id hk).append_left sg).trans List.perm_middle;rw[Gy,dW,CO,A97];constructor
 .intro h w;obtain⟨_,_,_,_,_,_,_,p8⟩:vs.length<=8/\os.length<=4/\(qs.set k (d++[id])).length<=4/\SS sg/\(∀v∈vs,bU v=true)/\(∀o∈os,-1<=o)/\(∀x∈sg++(qs.set k (d++[id])).flatten,0<=x)/\(sg++(qs.set k (d++[id])).flatten).Nodup:=h;exact(OU.1 (hp.nodup_iff.1 p8)).1 (Je.1 w)
 .intro w;refine(⟨q1,q2,by rw[wK];exact q3,q4,q5,q6,λx hx=>?_,hp.nodup_iff.2 (OU.2 ⟨λhm=>w (Je.2 hm),q8⟩)⟩:I5 (vs,os,qs.set k (d++[id]),sg,()))
  rcases lU.1 (hp.mem_iff.1 hx) with rfl | hx
  .exact h0
  .exact q7 x hx
theorem vg(h:qF (vs,os,qs,sg,())=true):vs.length<=20/\os.length<=20/\qs.length<=20/\sg.length<=60/\∀q∈qs,q.length<=60:=by
 unfold qF at h;simp only[bY,Q9,dN]at h;obtain⟨⟨⟨⟨h1,h2⟩,h3⟩,h4⟩,h5⟩:=h;exact⟨h1,h2,h3,h4,h5⟩
theorem aco(h1:vs.length<=20) (h2:os.length<=20) (h3:qs.length<=20) (h4:sg.length<=200) (h5:∀q∈qs,q.length<=61):bK (vs,os,qs,sg,()):=by
 have key:∀l:List (List Int),(∀q∈l,q.length<=61)->l.flatten.length<=61 * l.length:=by
  intro l
  induction l with
  | nil=>intro _;simp
  | cons a l ih=>
    intro hl;have:=ih λq hq=>hl q (by simp[hq])
    have:=hl a (by simp)
    simp only[OO,kH,sV];omega
 have h6:=key qs h5;exact⟨by show vs.length<=1000;omega,by show os.length<=1000;omega,by show qs.length<=1000;omega,by show sg.length<=1000;omega,λq hq=>by have:=h5 q hq;omega,by show qs.flatten.length<=100000;omega⟩
theorem Ur{s:List Int} (h:qF (vs,os,qs,sg,())=true){q:List Int} (hq:q.length<=61) (hs:s.length<=200):bK (vs,os,qs.set k q,s,()):=by
 obtain⟨h1,h2,h3,h4,h5⟩:=vg h;refine aco h1 h2 (by rw[wK];exact h3) hs λx hx=>?_
 rcases Jg hx with hx | rfl
 .have:=h5 x hx;omega
 .exact hq
theorem acp(h:qF (vs,os,qs,sg,())=true) (k:Nat):(qs[k]?.getD []).length<=60:=by
 cases hk:qs[k]? with
 | none=>simp
 | some d=>exact(vg h).2.2.2.2 d (gZ hk)
theorem Gp:bK zM:=⟨by decide,by decide,by decide,by decide,by decide,by decide⟩
theorem ahi{c:Int} (h:qF m=true):bK (rJ m c id).1:=by
 obtain⟨vs,os,qs,sg,⟨⟩⟩:=m;have h4:=(vg h).2.2.2.1;have ha:=acp h c.toNat;unfold rJ;split
 .split
  .exact Gp
  .split
   .exact Gp
   .exact Ur h (by simp only[kH,sV,Lp];omega) (by omega)
 .exact Gp
theorem amg{c n:Int} (h:qF m=true):bK (rP m c n).1:=by
 obtain⟨vs,os,qs,sg,⟨⟩⟩:=m;have h4:=(vg h).2.2.2.1;have ha:=acp h c.toNat;unfold rP;split
 .refine Ur h (by dsimp only;rw[yj];omega) ?_
  refine pI (BH _ _) ?_;dsimp only;rw[lu];omega
 .exact Gp
theorem acr(h:qF m=true):bK (kY m id).1:=by
 obtain⟨vs,os,qs,sg,⟨⟩⟩:=m;obtain⟨h1,h2,h3,h4,h5⟩:=vg h;unfold kY;split
 .exact Gp
 .split
  .exact Gp
  .refine aco h1 h2 h3 ?_ λq hq=>by have:=h5 q hq;omega
   refine pI (Xd _ _) (pI (zQ sg []) ?_);simp;omega
end
end Go.Proofs.YtjhenjhcbcalpaaGreatDoor
