/- Part 11 of the proof. Conditions: the rows'. -/
import Derived.Test.YtjhenjhcbcalpaaGreatDoorB10
set_option linter.unusedSimpArgs false
set_option linter.unusedVariables false
set_option maxRecDepth 1000000
set_option maxHeartbeats 8000000
namespace Go.Proofs.YtjhenjhcbcalpaaGreatDoor
open Go Go.jl
noncomputable section
variable {qs:List (List Int)}{k:Nat}{vs os sg:List Int}{ms cs:List ByteArray}{fs:List FD}{ts:List SD}{bound id:Int}{l:List TD}{m:MD}{p:TD->Bool}
def jw(p:PD) (m:MD):Bool:=decide ((aG p.1 p.2.1 p.2.2.1 p.2.2.2.1 p.2.2.2.2.1).1=0) && dV m && decide (m.1.length=p.1.length) && decide (m.2.1.length=p.2.1.length) && decide (m.2.2.1.length=p.2.2.1.length)
theorem afY(vs:List VD) (ms cs:List ByteArray) (fs:List FD) (ts:List SD) (aF:ZL.pre ((vs,ms,cs,fs,ts,()),())):
 let z1:=decide ((aG vs ms cs fs ts).fst=0);(vs.length<=1000000/\ms.length<=1000000/\cs.length<=1000000/\fs.length<=1000000/\ts.length<=1000000/\(∀(x:ByteArray×(lG.sl.pair Sh.unit).den),x∈fs->List.length x.snd.fst<=1000000)/\(dN fs).length<=1000000)/\qB z1 z1:=by
 conv=>zeta
 delta qB I6;exact⟨aF,rfl,rfl⟩
theorem aa8:aT aS.gd 156 ZL:=
 jD (cx:=aS) (n:=14) (cl:=[(74,Hl)]) au ⟨CQ,trivial⟩ Tryz.func156 λd hd=>by
  obtain⟨⟨vs,ms,cs,fs,ts,⟨⟩⟩,⟨⟩⟩:=d;exact aI (λ_=>none) (afY vs ms cs fs ts hd) (by kernel_rfl)
theorem ak0(vs:List VD) (ms cs:List ByteArray) (fs:List FD) (ts:List SD) (aF:Ju.pre ((vs,ms,cs,fs,ts,()),())):
 let z1:=decide ((aG vs ms cs fs ts).fst=0);(vs.length<=1000000/\ms.length<=1000000/\cs.length<=1000000/\fs.length<=1000000/\ts.length<=1000000/\(∀(x:ByteArray×(lG.sl.pair Sh.unit).den),x∈fs->List.length x.snd.fst<=1000000)/\(dN fs).length<=1000000)/\qB z1 z1:=by
 conv=>zeta
 delta qB I6;exact⟨aF,rfl,rfl⟩
theorem SA:aT aS.gd 67 Ju:=
 jD (cx:=aS) (n:=14) (cl:=[(66,Jt)]) au ⟨Rx,trivial⟩ Tryz.func67 λd hd=>by
  obtain⟨⟨vs,ms,cs,fs,ts,⟨⟩⟩,⟨⟩⟩:=d;exact aI (λ_=>none) (ak0 vs ms cs fs ts hd) (by kernel_rfl)
abbrev Vs:CT:={ ps:=[o7,vZ],pre:=λd=>bnd (d.1,())/\bG d.2.1,res:=λd=>([],vB (jw d.1 d.2.1)) }
theorem ak1(vs:List VD) (ms cs:List ByteArray) (fs:List FD) (ts:List SD) (ws os:List Int) (qs:List (List Int)) (sg:List Int) (aF:Vs.pre ((vs,ms,cs,fs,ts,()),(ws,os,qs,sg,()),())):
 let z1:=(aG vs ms cs fs ts).fst=0;let z2:=(ws,os,qs,sg,());(vs.length<=1000000/\ms.length<=1000000/\cs.length<=1000000/\fs.length<=1000000/\ts.length<=1000000/\(∀(x:ByteArray×(lG.sl.pair Sh.unit).den),x∈fs->List.length x.snd.fst<=1000000)/\(dN fs).length<=1000000)/\(decide z1=true->bG z2)/\qB (jw (vs,ms,cs,fs,ts,()) z2) (decide z1 && dV z2 && decide ((ws.length:Int)=(vs.length:Int)) && decide ((os.length:Int)=(ms.length:Int)) && decide ((qs.length:Int)=(cs.length:Int))):=by
 conv=>zeta
 delta qB I6;obtain⟨h1,h2⟩:=aF;refine⟨h1,λ_=>h2,rfl,?_⟩
 unfold jw;simp only[Int.ofNat_inj]
theorem afZ:aT aS.gd 84 Vs:=
 dQ (cx:=aS) (n:=38) (cl:=[(156,ZL),(157,aaS)]) (rc:=[]) au ⟨aa8,Fe,trivial⟩ Tryz.func84 λd hd=>by
  obtain⟨⟨vs,ms,cs,fs,ts,⟨⟩⟩,⟨ws,os,qs,sg,⟨⟩⟩,⟨⟩⟩:=d;exact aI (λ_=>none) (ak1 vs ms cs fs ts ws os qs sg hd) (by kernel_rfl)
theorem ak2(vs:List VD) (ms cs:List ByteArray) (fs:List FD) (ts:List SD) (ws os:List Int) (qs:List (List Int)) (sg:List Int) (aF:Vs.pre ((vs,ms,cs,fs,ts,()),(ws,os,qs,sg,()),())):
 let z1:=(aG vs ms cs fs ts).fst=0;let z2:=(ws,os,qs,sg,());(vs.length<=1000000/\ms.length<=1000000/\cs.length<=1000000/\fs.length<=1000000/\ts.length<=1000000/\(∀(x:ByteArray×(lG.sl.pair Sh.unit).den),x∈fs->List.length x.snd.fst<=1000000)/\(dN fs).length<=1000000)/\(decide z1=true->bG z2)/\qB (jw (vs,ms,cs,fs,ts,()) z2) (decide z1 && dV z2 && decide ((ws.length:Int)=(vs.length:Int)) && decide ((os.length:Int)=(ms.length:Int)) && decide ((qs.length:Int)=(cs.length:Int))):=by
 conv=>zeta
 delta qB I6;obtain⟨h1,h2⟩:=aF;refine⟨h1,λ_=>h2,rfl,?_⟩
 unfold jw;simp only[Int.ofNat_inj]
theorem af0:aT aS.gd 69 Vs:=
 dQ (cx:=aS) (n:=38) (cl:=[(67,Ju),(137,afI)]) (rc:=[]) au ⟨SA,Na,trivial⟩ Tryz.func69 λd hd=>by
  obtain⟨⟨vs,ms,cs,fs,ts,⟨⟩⟩,⟨ws,os,qs,sg,⟨⟩⟩,⟨⟩⟩:=d;exact aI (λ_=>none) (ak2 vs ms cs fs ts ws os qs sg hd) (by kernel_rfl)
abbrev ak3(l m:List Int):Nat->Option (St->jq):=λk=>match k with
 | 4=>some λ_=>.inv { α:=Nat,slots:=λk=>[(13,.c (.v (.int .i64 k)))],res:=λk=>[],inv:=λk=>k<=(l).length/\∀j < k,l[j]?=m[j]?,meas:=λk=>(l).length - k }
 | _=>none
theorem af2(l m:List Int) (aF:uP.pre (l,m,())):
 let z2:=qB (decide (l=m)) false;let z1:=λ(x:Nat)=>(x<=l.length/\∀(j:Nat),j < x->l[j]?=m[j]?);br (!decide ((l.length:Int)=(m.length:Int))) z2 ((∃x,(z1 x)/\(cI 0=cI (x:Int)/\True)/\([]:List dJ)=[])/\∀(x:Nat),(z1 x)->br (decide ((x:Int) < (l.length:Int))) ((0<=(x:Int)/\(x:Int) < (l.length:Int))/\∀(d:Int),l[(x:Int).toNat]?=some d->(0<=(x:Int)/\(x:Int) < (m.length:Int))/\∀(dI:Int),m[(x:Int).toNat]?=some dI->br (!decide (d=dI)) z2 (iR ((x:Int)+(1:Int))/\∃x',(z1 x')/\(cI ((x:Int)+(1:Int))=cI (x':Int)/\True)/\([]:List dJ)=[]/\l.length - x' < l.length - x)) (qB (decide (l=m)) true)):=by
 conv=>zeta
 delta dJ cI qB iR;have hp:l.length<=1000000:=aF;have fF:l≠m->([]:List Go.jl.ay)=[]/\aZ.one (SV.c (SC.v (Value.bool (decide (l=m)))))=aZ.one (SV.c (SC.v (Value.bool false))):=λq=>⟨rfl,by rw[yh q]⟩
 refine ah.2 ⟨λh=>fF λq=>?_,λh=>?_⟩
 .subst q;simp at h
 simp only[wR,dH]at h;refine⟨⟨0,⟨by omega,λj hj=>by omega⟩,⟨rfl,trivial⟩,rfl⟩,λk hk=>ah.2 ⟨λg=>?_,λg=>?_⟩⟩
 .simp only[dH]at g;refine⟨⟨by omega,by omega⟩,λd hd=>⟨⟨by omega,by omega⟩,λd1 hd1=>ah.2 ⟨λg2=>fF λq=>?_,λg2=>⟨ak.2 (by omega),k+1,⟨by omega,λj hj=>?_⟩,⟨rfl,trivial⟩,rfl,by omega⟩⟩⟩⟩
  .subst q;rw[hd]at hd1;cases hd1;simp at g2
  .by_cases gQ:j=k
   .subst gQ;have hd:l[j]?=some d:=hd;have hd1:m[j]?=some d1:=hd1;simp at g2;rw[hd,hd1,g2]
   .exact hk.2 j (by omega)
 simp only[eH]at g;have e:l=m:=by
  apply H9;intro j
  by_cases hj:j < k
  .exact hk.2 j hj
  .rw[BH (by omega),BH (by omega)]
 exact⟨rfl,by rw[wV e]⟩
theorem Fg:aT aS.gd 127 uP:=
 dQ (cx:=aS) (n:=26) (cl:=[]) (rc:=[]) au trivial Tryz.func127 λd hd=>by
  obtain⟨l,m,⟨⟩⟩:=d;exact aI (ak3 l m) (af2 l m hd) (by kernel_rfl)
theorem af4(l m:List Int) (aF:uP.pre (l,m,())):
 l.length<=1000000/\qB (decide (l=m)) (decide (l=m)):=by
 delta qB;exact⟨aF,rfl,rfl⟩
theorem aa9:aT aS.gd 129 uP:=
 dQ (cx:=aS) (n:=8) (cl:=[(127,uP)]) (rc:=[]) au ⟨Fg,trivial⟩ Tryz.func129 λd hd=>by
  obtain⟨l,m,⟨⟩⟩:=d;exact aI (λ_=>none) (af4 l m hd) (by kernel_rfl)
abbrev abb:CT:={ ps:=[.sl (.sl (.int .i64)),.sl (.sl (.int .i64))],pre:=λd=>d.1.length<=1000000/\∀q∈d.1,q.length<=1000000,res:=λd=>([],vB (decide (d.1=d.2.1))) }
abbrev ak4(l m:List (List Int)):Nat->Option (St->jq):=λk=>match k with
 | 4=>some λ_=>.inv { α:=Nat,slots:=λk=>[(17,.c (.v (.int .i64 k)))],res:=λk=>[],inv:=λk=>k<=(l).length/\∀j < k,l[j]?=m[j]?,meas:=λk=>(l).length - k }
 | _=>none
theorem af5(l m:List (List Int)) (aF:abb.pre (l,m,())):
 let z2:=qB (decide (l=m)) false;let z1:=λ(x:Nat)=>(x<=l.length/\∀(j:Nat),j < x->l[j]?=m[j]?);br (!decide ((l.length:Int)=(m.length:Int))) z2 ((∃x,(z1 x)/\(cI 0=cI (x:Int)/\True)/\([]:List dJ)=[])/\∀(x:Nat),(z1 x)->br (decide ((x:Int) < (l.length:Int))) ((0<=(x:Int)/\(x:Int) < (l.length:Int))/\∀(d:List Int),l[(x:Int).toNat]?=some d->(0<=(x:Int)/\(x:Int) < (m.length:Int))/\∀(dI:List Int),m[(x:Int).toNat]?=some dI->d.length<=1000000/\br (!decide (d=dI)) z2 (iR ((x:Int)+(1:Int))/\∃x',(z1 x')/\(cI ((x:Int)+(1:Int))=cI (x':Int)/\True)/\([]:List dJ)=[]/\l.length - x' < l.length - x)) (qB (decide (l=m)) true)):=by
 conv=>zeta
 delta dJ cI qB iR;obtain⟨hp,h6⟩:l.length<=1000000/\∀q∈l,q.length<=1000000:=aF;have fF:l≠m->([]:List Go.jl.ay)=[]/\aZ.one (SV.c (SC.v (Value.bool (decide (l=m)))))=aZ.one (SV.c (SC.v (Value.bool false))):=λq=>⟨rfl,by rw[yh q]⟩
 refine ah.2 ⟨λh=>fF λq=>?_,λh=>?_⟩
 .subst q;simp at h
 simp only[wR,dH]at h;refine⟨⟨0,⟨by omega,λj hj=>by omega⟩,⟨rfl,trivial⟩,rfl⟩,λk hk=>ah.2 ⟨λg=>?_,λg=>?_⟩⟩
 .simp only[dH]at g;refine⟨⟨by omega,by omega⟩,λd hd=>⟨⟨by omega,by omega⟩,λd1 hd1=>⟨h6 d (ig hd),ah.2 ⟨λg2=>fF λq=>?_,λg2=>⟨ak.2 (by omega),k+1,⟨by omega,λj hj=>?_⟩,⟨rfl,trivial⟩,rfl,by omega⟩⟩⟩⟩⟩
  .subst q;rw[hd]at hd1;cases hd1;simp at g2
  .by_cases gQ:j=k
   .subst gQ;have hd:l[j]?=some d:=hd;have hd1:m[j]?=some d1:=hd1;simp at g2;rw[hd,hd1,g2]
   .exact hk.2 j (by omega)
 simp only[eH]at g;have e:l=m:=by
  apply H9;intro j
  by_cases hj:j < k
  .exact hk.2 j hj
  .rw[BH (by omega),BH (by omega)]
 exact⟨rfl,by rw[wV e]⟩
theorem Vt:Jf Tryz.prog aS.gd 128 [.func (.func 129) #[] #[]] abb:=
 (nR (cx:=aS) (n:=32) (cl:=[(129,uP)]) (il:=Zl) (hl:=hlN) (ml:=mlN) (rc:=[]) (lits:=[]) (suf:=[.func (.func 129) #[] #[]]) (by kernel_rfl) au ⟨aa9,trivial⟩ trivial trivial trivial Tryz.func128 (by kernel_rfl) (by kernel_rfl) rfl (by kernel_rfl) (by kernel_rfl) (by simp) λd hd=>by
  obtain⟨l,m,⟨⟩⟩:=d;exact aI (ak4 l m) (af5 l m hd) (by kernel_rfl))
abbrev apA:List (Nat×Nat×CT):=[(128,129,abb)]
theorem ak5(vs os:List Int) (qs:List (List Int)) (sg vs2 os2:List Int) (qs2:List (List Int)) (sg2:List Int) (aF:P5.pre ((vs,os,qs,sg,()),(vs2,os2,qs2,sg2,()),())):
 vs.length<=1000000/\(decide (vs=vs2)=true->os.length<=1000000)/\((decide (vs=vs2) && decide (os=os2))=true->sg.length<=1000000)/\((decide (vs=vs2) && decide (os=os2) && decide (sg=sg2))=true->qs.length<=1000000/\∀(q:List Int),q∈qs->q.length<=1000000)/\qB (decide ((vs,os,qs,sg,())=(vs2,os2,qs2,sg2,()))) (decide (vs=vs2) && decide (os=os2) && decide (sg=sg2) && decide (qs=qs2)):=by
 delta qB;obtain⟨b1,b2,b3,b4,b5,b6⟩:vs.length<=1000/\os.length<=1000/\qs.length<=1000/\sg.length<=1000/\(∀q∈qs,q.length<=1000)/\qs.flatten.length<=100000:=aF;have e:decide ((vs,os,qs,sg,())=(vs2,os2,qs2,sg2,()))=(decide (vs=vs2) && decide (os=os2) && decide (sg=sg2) && decide (qs=qs2)):=by
  rw[Fz];simp only[dH,bV,Ie,and_true];constructor
  .rintro⟨h1,h2,h3,h4⟩;exact⟨⟨⟨h1,h2⟩,h4⟩,h3⟩
  .rintro⟨⟨⟨h1,h2⟩,h4⟩,h3⟩;exact⟨h1,h2,h3,h4⟩
 refine⟨by omega,λ_=>by omega,λ_=>by omega,λ_=>⟨by omega,λq hq=>by have:=b5 q hq;omega⟩,rfl,?_⟩
 rw[e]
theorem af6:aT aS.gd 60 P5:=
 (nR (cx:=aS) (n:=31) (cl:=[(127,uP)]) (il:=Zl) (hl:=apA) (ml:=mlN) (rc:=[]) (lits:=[]) (suf:=[]) (by kernel_rfl) au ⟨Fg,trivial⟩ trivial ⟨Vt,trivial⟩ trivial Tryz.func60 (by kernel_rfl) (by kernel_rfl) rfl (by kernel_rfl) (by kernel_rfl) (by simp) λd hd=>by
  obtain⟨⟨vs,os,qs,sg,⟨⟩⟩,⟨vs2,os2,qs2,sg2,⟨⟩⟩,⟨⟩⟩:=d;exact aI (λ_=>none) (ak5 vs os qs sg vs2 os2 qs2 sg2 hd) (by kernel_rfl)).met
theorem SB:∀(l sg:List Int),SS sg->SS (lI sg l)/\∀y,y∈lI sg l↔y∈sg\/y∈l
 | [],sg,h=>⟨h,λy=>by simp[lI]⟩
 | x :: l,sg,h=>by
   have ih:=SB l (bD (sg++[x])) (zn _);have e:lI sg (x :: l)=lI (bD (sg++[x])) l:=rfl;rw[e];refine⟨ih.1,λy=>?_⟩
   rw[ih.2 y,zo];simp[or_assoc]
def nI(qs:List (List Int)):Int:=qs.foldl (λa q=>dO a q.length) 0
theorem Vu{d:List Int} (h:qs[k]?=some d):nI (qs.take (k+1))=dO (nI (qs.take k)) d.length:=by
 unfold nI;rw[NJ,h];simp
theorem SE:∀(qs:List (List Int)) (a:Int),a<=qs.foldl (λa q=>dO a (q.length:Int)) a/\∀q∈qs,(q.length:Int)<=qs.foldl (λa q=>dO a (q.length:Int)) a
 | [],a=>⟨Int.le_refl _,λq hq=>by cases hq⟩
 | x :: qs,a=>by
   have ih:=SE qs (dO a x.length);have h:a<=dO a x.length/\(x.length:Int)<=dO a x.length:=by unfold dO;split<;>omega
   refine⟨Int.le_trans h.1 ih.1,λq hq=>?_⟩
   rcases mY.1 hq with rfl | hq
   .exact Int.le_trans h.2 ih.1
   .exact ih.2 q hq
abbrev abd:CT:={ ps:=[vZ,.int .i64],pre:=λd=>bG d.1,res:=λd=>([],.iq [.agg [.sl (.int .i64) ((uQ d.1 d.2.1 (nI d.1.2.2.1)).1).1,.sl (.int .i64) ((uQ d.1 d.2.1 (nI d.1.2.2.1)).1).2.1,.sl (.sl (.int .i64)) ((uQ d.1 d.2.1 (nI d.1.2.2.1)).1).2.2.1,.sl (.int .i64) ((uQ d.1 d.2.1 (nI d.1.2.2.1)).1).2.2.2.1],.c (.v (.int .i64 ((uQ d.1 d.2.1 (nI d.1.2.2.1)).2.1))),.c (.v (.int .i64 ((uQ d.1 d.2.1 (nI d.1.2.2.1)).2.2)))]) }
abbrev ak7(vs os:List Int) (qs:List (List Int)) (sg:List Int) (c:Int):Nat->Option (St->jq):=λk=>match k with
 | 3=>some λ_=>.inv { α:=Nat,slots:=λk=>[(13,.c (.v (.int .i64 k))),(7,.c (.v (.int .i64 (nI (qs.take k)))))],res:=λk=>[],inv:=λk=>k<=(qs).length,meas:=λk=>(qs).length - k }
 | _=>none
theorem af7(vs os:List Int) (qs:List (List Int)) (sg:List Int) (c:Int) (aF:abd.pre ((vs,os,qs,sg,()),c,())):
 let z4:=λ(x:Nat)=>nI (List.take x qs);let z1:=[g0 (ay.blk 34 [SC.sl I6 vs,SC.sl I6 os,SC.sl I6.sl qs,SC.sl I6 sg]),g0 (ay.blk 34 mM)];let z5:=(vs,os,qs,sg,());let z3:=uQ z5 c (nI qs);let z2:=λ(x:Nat)=>uQ z5 c (z4 x);(∃x,x<=qs.length/\(cI 0=cI (x:Int)/\cI 0=cI (z4 x)/\True)/\sm z1)/\∀(x:Nat),x<=qs.length->br (decide ((x:Int) < (qs.length:Int))) ((0<=(x:Int)/\(x:Int) < (qs.length:Int))/\∀(d:List Int),qs[(x:Int).toNat]?=some d->iR ((x:Int)+(1:Int))/\∃x',x'<=qs.length/\(cI ((x:Int)+(1:Int))=cI (x':Int)/\cI (dO (z4 x) (d.length:Int))=cI (z4 x')/\True)/\sm z1/\qs.length - x' < qs.length - x) ((bG z5/\0<=nI (List.take x qs))/\rT [SV.agg [SC.sl I6 z3.fst.fst,SC.sl I6 z3.fst.snd.fst,SC.sl I6.sl z3.fst.snd.snd.fst,SC.sl I6 z3.fst.snd.snd.snd.fst],cI (z3.snd.fst),cI (z3.snd.snd)] [SV.agg [SC.sl I6 ((z2 x).fst.fst,(z2 x).fst.snd.fst,(z2 x).fst.snd.snd.fst,(z2 x).fst.snd.snd.snd.fst,()).fst,SC.sl I6 ((z2 x).fst.snd.fst,(z2 x).fst.snd.snd.fst,(z2 x).fst.snd.snd.snd.fst,()).fst,SC.sl I6.sl ((z2 x).fst.snd.snd.fst,(z2 x).fst.snd.snd.snd.fst,()).fst,SC.sl I6 (z2 x).fst.snd.snd.snd.fst],cI ((z2 x).snd.fst),cI ((z2 x).snd.snd)]):=by
 conv=>zeta
 delta mM cI g0 rT sm I6 iR iN;have hb:=aF;obtain⟨b1,b2,b3,b4,b5,b6⟩:vs.length<=1000/\os.length<=1000/\qs.length<=1000/\sg.length<=1000/\(∀q∈qs,q.length<=1000)/\qs.flatten.length<=100000:=aF;refine⟨⟨0,by omega,⟨rfl,rfl,trivial⟩,rfl⟩,λk hk=>ah.2 ⟨λg=>?_,λg=>?_⟩⟩
 .simp only[dH]at g;refine⟨⟨by omega,by omega⟩,λd hd=>⟨ak.2 (by omega),k+1,by omega,⟨rfl,?_,trivial⟩,rfl,by omega⟩⟩
  have hd:qs[k]?=some d:=hd;rw[Vu hd]
 simp only[eH]at g;rw[wu (i:=k) (by omega)]
 exact⟨⟨hb,(SE qs 0).1⟩,rfl,rfl⟩
theorem abe:aT aS.gd 106 abd:=
 dQ (cx:=aS) (n:=29) (cl:=[(166,Sv)]) (rc:=[.data vZ,.keep,.keep]) au ⟨Nk,trivial⟩ Tryz.func106 λd hd=>by
  obtain⟨⟨vs,os,qs,sg,⟨⟩⟩,c,⟨⟩⟩:=d;exact aI (ak7 vs os qs sg c) (af7 vs os qs sg c hd) (by kernel_rfl)
abbrev Vw:Sh:=.pair (.int .i64) (.pair (.int .i64) .unit)
abbrev CW:Sh:=.pair (.int .i64) (.pair (.int .i64) (.pair (.sl Vw) .unit))
abbrev J6:Sh:=.pair (.sl dX) (.pair vZ (.pair (.sl CW) .unit))
abbrev shE:Sh:=.pair (.int .i64) (.pair (.int .i64) (.pair (.int .i64) (.pair (.int .i64) (.pair (.int .i64) (.pair (.int .i64) (.pair (.int .i64) (.pair (.int .i64) (.pair (.int .i64) .unit))))))))
abbrev BD:=Int×Int×List (Int×Int×Unit)×Unit
abbrev ZD:=List TD×MD×List BD×Unit
abbrev ED:=Int×Int×Int×Int×Int×Int×Int×Int×Int×Unit
abbrev BP(e:ED):SV:=.agg [v6 e.1,v6 e.2.1,v6 e.2.2.1,v6 e.2.2.2.1,v6 e.2.2.2.2.1,v6 e.2.2.2.2.2.1,v6 e.2.2.2.2.2.2.1,v6 e.2.2.2.2.2.2.2.1,v6 e.2.2.2.2.2.2.2.2.1]
abbrev agI(i:ID):SV:=.agg [v6 i.1,v6 i.2.1,v6 i.2.2.1,v6 i.2.2.2.1,v6 i.2.2.2.2.1,v6 i.2.2.2.2.2.1,v6 i.2.2.2.2.2.2.1,v6 i.2.2.2.2.2.2.2.1]
abbrev NG(m:MD):SV:=.agg [.sl I6 m.1,.sl I6 m.2.1,.sl I6.sl m.2.2.1,.sl I6 m.2.2.2.1]
abbrev H7(z:ZD):SV:=.agg [.sl dX z.1,.sl I6 z.2.1.1,.sl I6 z.2.1.2.1,.sl I6.sl z.2.1.2.2.1,.sl I6 z.2.1.2.2.2.1,.sl CW z.2.2.1]
abbrev qE(a b:ED):Prop:=([]:List ay)=[]/\aZ.one (BP a)=aZ.one (BP b)
abbrev bP(vs:List VD) (ms cs:List ByteArray) (fs:List FD) (ts:List SD):ay:=.blk 27 [.sl EM vs,.sl .str ms,.sl .str cs,.sl Bq fs,.sl lS ts]
abbrev bZ(th:List TD) (mv mo:List Int) (mq:List (List Int)) (mg:List Int) (bf:List BD):ay:=.blk 37 [.sl dX th,.sl I6 mv,.sl I6 mo,.sl I6.sl mq,.sl I6 mg,.sl CW bf]
def tB(t:TD):Prop:=t.2.2.2.2.2.2.2.2.2.1.length<=1000000/\t.1<=9223372036854775807/\t.2.2.2.1.length=8
def iH(l:List TD):Prop:=l.length<=1000000/\∀t∈l,tB t
def uS(l:List TD):Prop:=SS (l.map (·.1))
def VS(vs:List VD) (ms cs:List ByteArray) (fs:List FD) (ts:List SD) (bound:Int) (l:List TD) (m:MD) (bf:List BD):Prop:=
 jw (vs,ms,cs,fs,ts,()) m=true/\bf=[]/\(∀t∈l,dF (aG vs ms cs fs ts).1 bound=0/\uf ms fs bound t)/\uS l
open Classical in
def vsB(vs:List VD) (ms cs:List ByteArray) (fs:List FD) (ts:List SD) (bound:Int) (l:List TD) (m:MD) (bf:List BD):Bool:=decide (VS vs ms cs fs ts bound l m bf)
theorem jV{vs:List VD}{bf:List BD}:vsB vs ms cs fs ts bound l m bf=true↔VS vs ms cs fs ts bound l m bf:=by
 unfold vsB;exact @VO _ (Classical.propDecidable _)
theorem Vx{vs:List VD}{bf:List BD} (h:¬VS vs ms cs fs ts bound l m bf):vsB vs ms cs fs ts bound l m bf=false:=VH.2 λq=>h (jV.1 q)
theorem Qa(h:∀(j:Nat) a b,l[j]?=some a->l[j+1]?=some b->a.1 < b.1):uS l:=by
 refine EZ λj x y hx hy=>?_
 rw[Df]at hx hy;cases ha:l[j]? with
 | none=>rw[ha]at hx;cases hx
 | some a=>
   cases hb:l[j+1]? with
   | none=>rw[hb]at hy;cases hy
   | some b=>
     rw[ha]at hx;rw[hb]at hy;cases hx;cases hy;exact h j a b ha hb
theorem abg(h:uS l){j:Nat}{a b:TD} (ha:l[j]?=some a) (hb:l[j+1]?=some b):a.1 < b.1:=
 JB h (j:=j) (by rw[Df,ha];rfl) (by rw[Df,hb];rfl)
def xY(l:List TD) (id:Int):Option TD:=l.find? λt=>decide (t.1=id)
def F9(b:Bool):Int:=if b=true then 1 else 0
def labS(m:MD) (t:TD) (i:ID):ED:=
 if i.1=8 then(t.1,t.2.2.2.2.1,1,i.2.2.2.2.1,-1,-1,i.2.2.2.2.2.2.2.1,m.1[i.2.2.2.2.1.toNat]?.getD 0,0,())
 else if i.1=14 then(t.1,t.2.2.2.2.1,8,i.2.2.2.2.1,-1,-1,i.2.2.2.2.2.2.2.1,m.1[i.2.2.2.2.1.toNat]?.getD 0,0,())
 else if i.1=9 then(t.1,t.2.2.2.2.1,2,i.2.2.2.2.1,-1,-1,i.2.2.2.2.2.2.2.1,0,t.2.2.2.1.getD i.2.2.1.toNat 0,())
 else if i.1=10 then(t.1,t.2.2.2.2.1,5,i.2.2.2.2.1,-1,-1,i.2.2.2.2.2.2.2.1,m.1[i.2.2.2.2.1.toNat]?.getD 0,t.2.2.2.1.getD i.2.2.1.toNat 0,())
 else if i.1=11 then(t.1,t.2.2.2.2.1,5,i.2.2.2.2.1,-1,-1,i.2.2.2.2.2.2.2.1,m.1[i.2.2.2.2.1.toNat]?.getD 0,(dY 1 (m.1[i.2.2.2.2.1.toNat]?.getD 0) (t.2.2.2.1.getD i.2.2.1.toNat 0)).1,())
 else if i.1=12 then
  (if m.1[i.2.2.2.2.1.toNat]?.getD 0=t.2.2.2.1.getD i.2.2.1.toNat 0 then(t.1,t.2.2.2.2.1,5,i.2.2.2.2.1,-1,-1,i.2.2.2.2.2.2.2.1,m.1[i.2.2.2.2.1.toNat]?.getD 0,t.2.2.2.1.getD i.2.2.2.1.toNat 0,())
   else(t.1,t.2.2.2.2.1,6,i.2.2.2.2.1,-1,-1,i.2.2.2.2.2.2.2.1,m.1[i.2.2.2.2.1.toNat]?.getD 0,0,()))
 else if i.1=13 then(t.1,t.2.2.2.2.1,7,i.2.2.2.2.1,-1,-1,0,0,0,())
 else if i.1=15 then(t.1,t.2.2.2.2.1,9,i.2.2.2.2.1,-1,-1,0,0,0,())
 else if i.1=16 then(t.1,t.2.2.2.2.1,10,i.2.2.2.2.1,-1,-1,0,0,0,())
 else if i.1=17 then(t.1,t.2.2.2.2.1,11,i.2.2.2.2.1,-1,-1,0,F9 (nH m i.2.2.2.2.1),0,())
 else if i.1=18 then
  (if t.2.2.2.2.2.2.1=0 then(t.1,t.2.2.2.2.1,12,i.2.2.2.2.1,i.2.2.2.2.2.1,-1,0,0,0,())
   else if t.2.2.2.2.2.2.1=1 then(t.1,t.2.2.2.2.1,13,i.2.2.2.2.1,-1,-1,0,0,0,())
   else(t.1,t.2.2.2.2.1,9,i.2.2.2.2.2.1,-1,-1,0,0,0,()))
 else if i.1=19 then(t.1,t.2.2.2.2.1,14,i.2.2.2.2.1,-1,-1,0,jT 1 (m.2.2.1[i.2.2.2.2.1.toNat]?.getD []).length,0,())
 else if i.1=20 then(t.1,t.2.2.2.2.1,15,i.2.2.2.2.1,-1,-1,0,(m.2.2.1[i.2.2.2.2.1.toNat]?.getD []).length,0,())
 else if i.1=21 then(t.1,t.2.2.2.2.1,16,(bY t.1 t.2.2.2.2.2.1).1,-1,-1,0,0,0,())
 else(t.1,t.2.2.2.2.1,17,t.2.2.2.1.getD i.2.2.1.toNat 0,-1,-1,0,0,0,())
def CX(l:List TD) (m:MD) (t:TD) (i:ID):Bool:=
 if i.1=14 then decide ((dY i.2.2.2.2.2.2.1 (m.1[i.2.2.2.2.1.toNat]?.getD 0) (t.2.2.2.1.getD i.2.2.1.toNat 0)).1≠0)
 else if i.1=15 then nH m i.2.2.2.2.1
 else if i.1=18 then(if t.2.2.2.2.2.2.1=1 then dP m.2.2.2.1 t.1 else if t.2.2.2.2.2.2.1=2 then nH m i.2.2.2.2.2.1 else true)
 else if i.1=22 then(match xY l (t.2.2.2.1.getD i.2.2.1.toNat 0) with
  | some u=>decide (u.2.2.2.2.2.2.2.1=2) || decide (u.2.2.2.2.2.2.2.1=3)
  | none=>false)
 else true
def lN(m:MD) (e:ED):MD×Int:=
 if e.2.2.1=5\/e.2.2.1=2 then writeM m e.2.2.2.1 e.2.2.2.2.2.2.2.2.1
 else if e.2.2.1=9\/(e.2.2.1=11/\e.2.2.2.2.2.2.2.1≠0) then jM m e.2.2.2.1 e.1 (-1) e.1
 else if e.2.2.1=10 then jM m e.2.2.2.1 e.1 e.1 (-1)
 else if e.2.2.1=12 then(if(jM m e.2.2.2.2.1 e.1 e.1 (-1)).2=0 then xW (jM m e.2.2.2.2.1 e.1 e.1 (-1)).1 e.2.2.2.1 e.1 else jM m e.2.2.2.2.1 e.1 e.1 (-1))
 else if e.2.2.1=13 then oW m e.1
 else if e.2.2.1=14 then((uQ m e.2.2.2.1 1).1,(uQ m e.2.2.2.1 1).2.2)
 else if e.2.2.1=15 then((uQ m e.2.2.2.1 (nI m.2.2.1)).1,(uQ m e.2.2.2.1 (nI m.2.2.1)).2.2)
 else(m,0)
def AY(i:ID) (e:ED):Int:=
 if e.2.2.1=5 then(if i.1=12 then 1 else e.2.2.2.2.2.2.2.1) else if e.2.2.1=1\/e.2.2.1=8 then e.2.2.2.2.2.2.2.1
 else if e.2.2.1=11 then(if e.2.2.2.2.2.2.2.1=0 then 0 else 1) else if e.2.2.1=16 then e.2.2.2.1 else 0
def zE:ED:=(0,0,0,0,0,0,0,0,0,())
def zZ:ZD:=([],zM,[],())
def eG(p:TD->Bool) (l:List TD):Int:=match l.findIdx? p with
 | some i=>i
 | none=>-1
theorem SG{d:TD} (hk:l[k]?=some d) (hd:p d=true) (h:∀j < k,∀t,l[j]?=some t->p t=false):eG p l=k:=by
 obtain⟨h1,h2⟩:=A8.1 hk;have:l.findIdx? p=some k:=by
  rw[A50];refine⟨h1,by rw[h2];exact hd,λj hj=>?_⟩
  rw[h j hj _ (lK (by omega))];simp
 unfold eG;rw[this]
theorem SH(h:∀j < l.length,∀t,l[j]?=some t->p t=false):eG p l = -1:=by
 have:l.findIdx? p=none:=by
  rw[A73];intro x hx;obtain⟨j,hj⟩:=yg hx;exact h j (A8.1 hj).1 x hj
 unfold eG;rw[this]
abbrev ak8:SF:={ ss:=[dX],r:=.bool,ct:=λpr fn=>{ ps:=[.sl dX],pre:=λd=>d.1.length<=1000000/\∀t∈d.1,pr (t,()),res:=λd=>([],.one (.c (.v (.int .i64 (eG (λt=>fn (t,())) d.1))))) } }
abbrev anS:MK:={ ss:=[.int .i64],f:=λds=>.clo Tryz.prog [dX] .bool (λ_=>True) (λd=>decide (d.1.1=ds.1)) }
abbrev ak9(pr:bT [dX]->Prop) (fn:bT [dX]->Bool) (l:List TD):Nat->Option (St->jq):=λk=>match k with
 | 2=>some λ_=>.inv { α:=Nat,slots:=λk=>[(8,.c (.v (.int .i64 k)))],res:=λ_=>[],inv:=λk=>k<=l.length/\∀j < k,∀t,l[j]?=some t->fn (t,())=false,meas:=λk=>l.length - k }
 | _=>none
abbrev anT:List (Nat×SF):=[]
theorem af8(pr:bT [dX]->Prop) (fn:bT [dX]->Bool) (l:List TD) (aF:(ak8.ct pr fn).pre (l,())):
 let z1:=λ(x:Nat)=>(x<=l.length/\∀(j:Nat),j < x->∀(t:TD),l[j]?=some t->fn (t,())=false);let z2:=eG (λt=>fn (t,())) l;(∃x,(z1 x)/\(cI 0=cI (x:Int)/\True)/\([]:List dJ)=[])/\∀(x:Nat),(z1 x)->br (decide ((x:Int) < (l.length:Int))) ((0<=(x:Int)/\(x:Int) < (l.length:Int))/\∀(d:TD),l[(x:Int).toNat]?=some d->some Tryz.prog=some Tryz.prog/\pr (d,())/\br (fn (d,())) (qI z2 (x:Int)) (iR ((x:Int)+(1:Int))/\∃x',(z1 x')/\(cI ((x:Int)+(1:Int))=cI (x':Int)/\True)/\([]:List dJ)=[]/\l.length - x' < l.length - x)) (qI z2 (-1:Int)):=by
 conv=>zeta
 delta dJ iR;obtain⟨hl,hp⟩:l.length<=1000000/\∀t∈l,pr (t,()):=aF;refine⟨⟨0,⟨by omega,λj hj=>by omega⟩,⟨rfl,trivial⟩,rfl⟩,λk hk=>ah.2 ⟨λg=>?_,λg=>?_⟩⟩
 .simp only[dH]at g;refine⟨⟨by omega,by omega⟩,λd hd=>⟨rfl,hp d (ig hd),ah.2 ⟨λg2=>⟨rfl,?_⟩,λg2=>⟨ak.2 (by omega),k+1,⟨by omega,λj hj t ht=>?_⟩,⟨rfl,trivial⟩,rfl,by omega⟩⟩⟩⟩
  .have hd:l[k]?=some d:=hd;rw[SG (p:=λt=>fn (t,())) hd g2 hk.2]
  .by_cases e:j=k
   .subst e;have hd:l[j]?=some d:=hd;rw[hd]at ht;cases ht;exact g2
   .exact hk.2 j (by omega) t ht
 .simp only[eH]at g;refine⟨rfl,?_⟩;rw[SH (p:=λt=>fn (t,())) λj hj t ht=>hk.2 j (by omega) t ht]
theorem af9:adq Tryz.prog aS.gd 113 ak8:=
 aiK (cx:=aS) (n:=19) (cl:=[]) (ml:=mlN) (fl:=anT) (rc:=[]) (by kernel_rfl) au trivial trivial trivial Tryz.func113 (by kernel_rfl) (by kernel_rfl) (λ_ _=>rfl) (by kernel_rfl) (by kernel_rfl) λpr fn d hd=>by
  obtain⟨l,⟨⟩⟩:=d;exact aI (ak9 pr fn l) (af8 pr fn l hd) (by kernel_rfl)
theorem aga(c0 id fn pc:Int) (rg:List Int) (st ch ph su fa:Int) (he:List Int):
 qB (decide (id=c0)) (decide (id=c0)):=by
 exact⟨rfl,rfl⟩
theorem agb:X9 Tryz.prog aS.gd 114 anS:=
 aiM (cx:=aS) (n:=8) (cl:=[]) (rc:=[]) (by kernel_rfl) au trivial Tryz.func114 (by kernel_rfl) (by kernel_rfl) rfl rfl (by kernel_rfl) (by kernel_rfl) λds d _ _=>by
  obtain⟨c0,⟨⟩⟩:=ds;obtain⟨⟨id,fn,pc,rg,st,ch,ph,su,fa,he,⟨⟩⟩,⟨⟩⟩:=d;exact aI (λ_=>none) (aga c0 id fn pc rg st ch ph su fa he) (by kernel_rfl)
abbrev wQ:CT:={ ps:=[.sl dX,.int .i64],pre:=λd=>d.1.length<=1000000,res:=λd=>([],.iq [.c (.v (.int .i64 (dO (eG (λt=>decide (t.1=d.2.1)) d.1) 0))),.c (.v (.bool (decide (0<=eG (λt=>decide (t.1=d.2.1)) d.1))))]) }
abbrev apB:List (Nat×SF):=[(113,ak8)]
abbrev apC:List (Nat×MK):=[(114,anS)]
theorem ala(l:List TD) (id:Int) (aF:wQ.pre (l,id,())):
 let z1:=[I6.pair (I6.pair (I6.pair ((Sh.arr 8 I6).pair (I6.pair (I6.pair (I6.pair (I6.pair (I6.pair (I6.sl.pair Sh.unit)))))))))];True/\some Tryz.prog=some Tryz.prog/\∃pre' g',(FC.clo Tryz.prog z1 Sh.bool (λx=>True) λd=>decide (d.fst.fst=id))=FC.clo Tryz.prog z1 Sh.bool pre' g'/\(l.length<=1000000/\∀(t:TD),t∈l->pre' (t,()))/\rT [cI (dO (eG (λt=>decide (t.fst=(l,id,()).snd.fst)) l) (0:Int)),cB (decide (0<=eG (λt=>decide (t.fst=(l,id,()).snd.fst)) l))] [cI (dO (eG (λt=>g' (t,())) l) (0:Int)),cB (decide (0<=eG (λt=>g' (t,())) l))]:=by
 conv=>zeta
 exact⟨trivial,rfl,λ_=>True,λd=>decide (d.1.1=id),rfl,⟨aF,λ_ _=>trivial⟩,rfl,rfl⟩
theorem CY:aT aS.gd 52 wQ:=
 adr (cx:=aS) (n:=14) (cl:=[]) (ml:=apC) (fl:=apB) (rc:=[]) (by kernel_rfl) au trivial ⟨agb,trivial⟩ ⟨af9,trivial⟩ Tryz.func52 (by kernel_rfl) (by kernel_rfl) rfl (by kernel_rfl) (by kernel_rfl) λd hd=>by
  obtain⟨l,id,⟨⟩⟩:=d;exact aI (λ_=>none) (ala l id hd) (by kernel_rfl)
abbrev anU(l:List TD) (id:Int):Nat->Option (St->jq):=λk=>match k with
 | 2=>some λ_=>.inv { α:=Nat,slots:=λk=>[(6,.c (.v (.int .i64 k)))],res:=λ_=>[],inv:=λk=>k<=l.length/\∀j < k,∀t,l[j]?=some t->decide (t.1=id)=false,meas:=λk=>l.length - k }
 | _=>none
theorem alb(l:List TD) (id:Int) (aF:wQ.pre (l,id,())):
 let z2:=λ(x:Nat)=>(x<=l.length/\∀(j:Nat),j < x->∀(t:TD),l[j]?=some t->decide (t.fst=id)=false);let z1:=[cI (dO (eG (λt=>decide (t.fst=(l,id,()).snd.fst)) l) (0:Int)),cB (decide (0<=eG (λt=>decide (t.fst=(l,id,()).snd.fst)) l))];(∃x,(z2 x)/\(cI 0=cI (x:Int)/\True)/\([]:List dJ)=[])/\∀(x:Nat),(z2 x)->br (decide ((x:Int) < (l.length:Int))) ((0<=(x:Int)/\(x:Int) < (l.length:Int))/\∀(d:TD),l[(x:Int).toNat]?=some d->br (decide (d.fst=id)) (rT z1 [cI (x:Int),cB true]) (iR ((x:Int)+(1:Int))/\∃x',(z2 x')/\(cI ((x:Int)+(1:Int))=cI (x':Int)/\True)/\([]:List dJ)=[]/\l.length - x' < l.length - x)) (rT z1 [cI 0,cB false]):=by
 conv=>zeta
 delta dJ iR;have hl:l.length<=1000000:=aF;refine⟨⟨0,⟨by omega,λj hj=>by omega⟩,⟨rfl,trivial⟩,rfl⟩,λk hk=>ah.2 ⟨λg=>?_,λg=>?_⟩⟩
 .simp only[dH]at g;refine⟨⟨by omega,by omega⟩,λd hd=>ah.2 ⟨λg2=>⟨rfl,?_⟩,λg2=>⟨ak.2 (by omega),k+1,⟨by omega,λj hj t ht=>?_⟩,⟨rfl,trivial⟩,rfl,by omega⟩⟩⟩
  .have hd:l[k]?=some d:=hd;rw[SG (p:=λt=>decide (t.1=id)) hd g2 hk.2,wV (by omega),show dO (k:Int) 0=k by unfold dO;split<;>omega]
  .by_cases e:j=k
   .subst e;have hd:l[j]?=some d:=hd;rw[hd]at ht;cases ht;exact g2
   .exact hk.2 j (by omega) t ht
 .simp only[eH]at g;refine⟨rfl,?_⟩;rw[SH (p:=λt=>decide (t.1=id)) λj hj t ht=>hk.2 j (by omega) t ht]
  rfl
theorem SI:aT aS.gd 43 wQ:=
 jD (cx:=aS) (n:=21) (cl:=[]) au trivial Tryz.func43 λd hd=>by
  obtain⟨l,id,⟨⟩⟩:=d;exact aI (anU l id) (alb l id hd) (by kernel_rfl)
def SK(vs:List VD) (ms cs:List ByteArray) (fs:List FD) (ts:List SD) (bound:Int) (l:List TD):Prop:=(∀t∈l,dF (aG vs ms cs fs ts).1 bound=0/\uf ms fs bound t)/\uS l
open Classical in
def JJ(vs:List VD) (ms cs:List ByteArray) (fs:List FD) (ts:List SD) (bound:Int) (l:List TD):Bool:=decide (SK vs ms cs fs ts bound l)
theorem Fh{vs:List VD}:JJ vs ms cs fs ts bound l=true↔SK vs ms cs fs ts bound l:=by
 unfold JJ;exact @VO _ (Classical.propDecidable _)
theorem Qb{vs:List VD} (h:¬SK vs ms cs fs ts bound l):JJ vs ms cs fs ts bound l=false:=VH.2 λq=>h (Fh.1 q)
theorem alc(vs:List VD) (ms cs:List ByteArray) (fs:List FD) (ts:List SD) (bound:Int) (aF:zH.pre ((vs,ms,cs,fs,ts,()),bound,())):
 let z2:=aG vs ms cs fs ts;let z1:=dF z2.fst bound;(bnd ((vs,ms,cs,fs,ts,()),()))/\br (!decide (z2.fst=0)) (qI z1 (z2.fst)) (br (decide (bound < 1) || decide (32 < bound)) (qI z1 (2:Int)) (qI z1 (0:Int))):=by
 conv=>zeta
 have hb:bnd ((vs,ms,cs,fs,ts,()),()):=aF;refine⟨hb,ah.2 ⟨λh=>?_,λh=>ah.2 ⟨λh2=>?_,λh2=>?_⟩⟩⟩
 .have h:(aG vs ms cs fs ts).1≠0:=by simpa using h
  have e:dF (aG vs ms cs fs ts).1 bound=(aG vs ms cs fs ts).1:=by unfold dF;rw[if_pos h]
  rw[e];exact⟨rfl,rfl⟩
 all_goals have h:¬(aG vs ms cs fs ts).1≠0:=by simpa using h
 .have h2:bound < 1\/32 < bound:=by simpa using h2
  have e:dF (aG vs ms cs fs ts).1 bound=2:=by unfold dF;rw[if_neg h,if_pos h2]
  rw[e];exact⟨rfl,rfl⟩
 .have h2:¬(bound < 1\/32 < bound):=by simp only[lX,eH]at h2;omega
  have e:dF (aG vs ms cs fs ts).1 bound=0:=by unfold dF;rw[if_neg h,if_neg h2]
  rw[e];exact⟨rfl,rfl⟩
theorem SL:aT aS.gd 32 zH:=
 dQ (cx:=aS) (n:=23) (cl:=[(74,Hl)]) (rc:=[]) au ⟨CQ,trivial⟩ Tryz.func32 λd hd=>by
  obtain⟨⟨vs,ms,cs,fs,ts,⟨⟩⟩,bound,⟨⟩⟩:=d;exact aI (λ_=>none) (alc vs ms cs fs ts bound hd) (by kernel_rfl)
abbrev JK:CT:={ ps:=[o7,.int .i64,J6],pre:=λd=>bnd (d.1,())/\iH d.2.2.1.1/\bG d.2.2.1.2.1,res:=λd=>([],vB (vsB d.1.1 d.1.2.1 d.1.2.2.1 d.1.2.2.2.1 d.1.2.2.2.2.1 d.2.1 d.2.2.1.1 d.2.2.1.2.1 d.2.2.1.2.2.1)) }
abbrev anV(vs:List VD) (ms cs:List ByteArray) (fs:List FD) (ts:List SD) (bound:Int) (th:List TD) (mv mo:List Int) (mq:List (List Int)) (mg:List Int) (bf:List BD):Nat->Option (St->jq):=λk=>match k with
 | 4=>some λ_=>.inv { α:=Nat,slots:=λk=>[(23,.c (.v (.int .i64 k)))],res:=λk=>[],inv:=λk=>k<=(th).length/\(∀j < k,∀t,th[j]?=some t->dF (aG vs ms cs fs ts).1 bound=0/\uf ms fs bound t)/\∀j,j+1 < k->∀a b,th[j]?=some a->th[j+1]?=some b->a.1 < b.1,meas:=λk=>(th).length - k }
 | _=>none
theorem ald(vs:List VD) (ms cs:List ByteArray) (fs:List FD) (ts:List SD) (bound:Int) (th:List TD) (mv mo:List Int) (mq:List (List Int)) (mg:List Int) (bf:List BD) (aF:JK.pre ((vs,ms,cs,fs,ts,()),bound,(th,(mv,mo,mq,mg,()),bf,()),())):
 let z7:=bnd ((vs,ms,cs,fs,ts,()),());let z8:=(mv,mo,mq,mg,());let z6:=vsB vs ms cs fs ts bound th z8 bf;let z5:=qB z6 false;let z1:=λ(x:Nat)=>(x<=th.length/\(∀(j:Nat),j < x->∀(t:TD),th[j]?=some t->dF (aG vs ms cs fs ts).fst bound=0/\uf ms fs bound t)/\∀(j:Nat),j+1 < x->∀(a b:TD),th[j]?=some a->th[j+1]?=some b->a.fst < b.fst);let z2:=[g0 (ay.blk 27 [SC.sl EM vs,SC.sl Sh.str ms,SC.sl Sh.str cs,SC.sl Bq fs,SC.sl lS ts]),g0 (ay.blk 37 [SC.sl dX th,SC.sl I6 mv,SC.sl I6 mo,SC.sl I6.sl mq,SC.sl I6 mg,SC.sl CW bf])];let z4:=λ(d:TD)=>decide (dF (aG vs ms cs fs ts).fst bound=0) && mJ ms fs bound d;let z3:=λ(x:Nat) (d:TD)=>decide (0 < (x:Int)) && !!(z4 d);(z7/\bG z8)/\br (!jw (vs,ms,cs,fs,ts,()) z8 || decide (0 < (bf.length:Int))) z5 ((∃x,(z1 x)/\(cI 0=cI (x:Int)/\True)/\sm z2)/\∀(x:Nat),(z1 x)->br (decide ((x:Int) < (th.length:Int))) ((0<=(x:Int)/\(x:Int) < (th.length:Int))/\∀(d:TD),th[(x:Int).toNat]?=some d->(z7/\List.length d.snd.snd.snd.snd.snd.snd.snd.snd.snd.fst<=1000000/\d.fst<=9223372036854775807/\List.length d.snd.snd.snd.fst=8)/\((z3 x d)=true->iR ((x:Int) - (1:Int)))/\((z3 x d)=true->0<=(x:Int) - (1:Int)/\(x:Int) - 1 < (th.length:Int))/\∀(dI:TD),((z3 x d)=true->th[((x:Int) - (1:Int)).toNat]?=some dI)->br (!(z4 d) || decide (0 < (x:Int)) && decide ((d).fst<=dI.fst)) z5 (iR ((x:Int)+(1:Int))/\∃x',(z1 x')/\(cI ((x:Int)+(1:Int))=cI (x':Int)/\True)/\sm z2/\th.length - x' < th.length - x)) (qB z6 true)):=by
 conv=>zeta
 delta iR;obtain⟨hb,hT,hM⟩:bnd ((vs,ms,cs,fs,ts,()),())/\iH th/\bG (mv,mo,mq,mg,()):=aF;obtain⟨hl,hT⟩:=hT;have fF:¬VS vs ms cs fs ts bound th (mv,mo,mq,mg,()) bf->qB (vsB vs ms cs fs ts bound th (mv,mo,mq,mg,()) bf) false:=λq=>⟨rfl,by rw[Vx q]⟩
 refine⟨⟨hb,hM⟩,ah.2 ⟨λh=>fF λq=>?_,λh=>⟨⟨0,⟨by omega,λj hj=>by omega,λj hj=>by omega⟩,⟨rfl,trivial⟩,rfl⟩,λk hk=>ah.2 ⟨λg=>?_,λg=>?_⟩⟩⟩⟩
 .obtain⟨q1,q2,q3,q4⟩:=q;rw[q1,q2]at h;simp at h
 .obtain⟨k1,k2,k3⟩:=hk;simp only[dH]at g;refine⟨⟨by omega,by omega⟩,λd hd=>⟨⟨hb,hT d (ig hd)⟩,λ_=>ak.2 (by omega),λq=>?_,λd1 hd1=>ah.2 ⟨λg2=>fF λq=>?_,λg2=>⟨ak.2 (by omega),k+1,⟨by omega,λj hj t ht=>?_,λj hj a b ha hb=>?_⟩,⟨rfl,trivial⟩,rfl,by omega⟩⟩⟩⟩
  .rw[bV,dH]at q;omega
  .have hd:th[k]?=some d:=hd;have q3:=q.2.2.1 d (ig hd);rw[wz,Dc,bV,dH,dH]at g2;have hv:(decide (dF (aG vs ms cs fs ts).1 bound=0) && mJ ms fs bound d)=true:=by rw[bV,dH,kH];exact q3
   rcases g2 with g2 | ⟨g2,g3⟩
   .rw[hv]at g2;cases g2
   .have gg:(decide ((0:Int) < (k:Int)) && !!(decide (dF (aG vs ms cs fs ts).1 bound=0) && mJ ms fs bound d))=true:=by rw[hv,wV g2];rfl
    have h1:=hd1 gg;rw[show((k:Int) - 1).toNat=k - 1 by omega]at h1
    have:=abg q.2.2.2 h1 (by rw[show k - 1+1=k by omega];exact hd)
    omega
  .rw[lX,wR,bV,dH,kH]at g2
   by_cases e:j=k
   .subst e;have hd:th[j]?=some d:=hd;rw[hd]at ht;cases ht;exact g2.1
   .exact k2 j (by omega) t ht
  .by_cases e:j+1=k
   .have hd:th[k]?=some d:=hd;rw[lX,wR]at g2;have hk0:(0:Int) < (k:Int):=by omega
    have gg:(decide ((0:Int) < (k:Int)) && !!(decide (dF (aG vs ms cs fs ts).1 bound=0) && mJ ms fs bound d))=true:=by rw[g2.1,wV hk0];rfl
    have h1:=hd1 gg;rw[show((k:Int) - 1).toNat=j by omega,ha]at h1
    cases h1;rw[e,hd]at hb;cases hb;have g3:=g2.2;rw[A70,eH,eH]at g3;omega
   .exact k3 j (by omega) a b ha hb
 .obtain⟨k1,k2,k3⟩:=hk;simp only[eH]at g;have all:∀t∈th,dF (aG vs ms cs fs ts).1 bound=0/\uf ms fs bound t:=λt ht=>by
   obtain⟨j,hj⟩:=yg ht;have:=(A8.1 hj).1;exact k2 j (by omega) t hj
  have up:uS th:=Qa λj a b ha hb=>by
   have:=(A8.1 hb).1;exact k3 j (by omega) a b ha hb
  rw[lX,wR,eH]at h;have e:bf=[]:=List.length_eq_zero_iff.1 (by omega)
  exact⟨rfl,by rw[jV.2 ⟨h.1,e,all,up⟩]⟩
theorem JL:aT aS.gd 40 JK:=
 dQ (cx:=aS) (n:=50) (cl:=[(84,Vs),(85,afo)]) (rc:=[]) au ⟨afZ,RU,trivial⟩ Tryz.func40 λd hd=>by
  obtain⟨⟨vs,ms,cs,fs,ts,⟨⟩⟩,bound,⟨th,⟨mv,mo,mq,mg,⟨⟩⟩,bf,⟨⟩⟩,⟨⟩⟩:=d;exact aI (anV vs ms cs fs ts bound th mv mo mq mg bf) (ald vs ms cs fs ts bound th mv mo mq mg bf hd) (by kernel_rfl)
abbrev abh:CT:={ ps:=[o7,.int .i64,.sl dX],pre:=λd=>bnd (d.1,())/\iH d.2.2.1,res:=λd=>([],vB (JJ d.1.1 d.1.2.1 d.1.2.2.1 d.1.2.2.2.1 d.1.2.2.2.2.1 d.2.1 d.2.2.1)) }
abbrev anW(vs:List VD) (ms cs:List ByteArray) (fs:List FD) (ts:List SD) (bound:Int) (th:List TD):Nat->Option (St->jq):=λk=>match k with
 | 2=>some λ_=>.inv { α:=Nat,slots:=λk=>[(7,.c (.v (.int .i64 k)))],res:=λk=>[],inv:=λk=>k<=(th).length/\(∀j < k,∀t,th[j]?=some t->dF (aG vs ms cs fs ts).1 bound=0/\uf ms fs bound t)/\∀j,j+1 < k->∀a b,th[j]?=some a->th[j+1]?=some b->a.1 < b.1,meas:=λk=>(th).length - k }
 | _=>none
theorem ale(vs:List VD) (ms cs:List ByteArray) (fs:List FD) (ts:List SD) (bound:Int) (th:List TD) (aF:abh.pre ((vs,ms,cs,fs,ts,()),bound,th,())):
 let z1:=λ(x:Nat)=>(x<=th.length/\(∀(j:Nat),j < x->∀(t:TD),th[j]?=some t->dF (aG vs ms cs fs ts).fst bound=0/\uf ms fs bound t)/\∀(j:Nat),j+1 < x->∀(a b:TD),th[j]?=some a->th[j+1]?=some b->a.fst < b.fst);let z3:=[g0 (ay.blk 27 [SC.sl EM vs,SC.sl Sh.str ms,SC.sl Sh.str cs,SC.sl Bq fs,SC.sl lS ts])];let z4:=λ(d:TD)=>decide (dF (aG vs ms cs fs ts).fst bound=0) && mJ ms fs bound d;let z2:=λ(x:Nat) (d:TD)=>decide (0 < (x:Int)) && !!(z4 d);let z5:=JJ vs ms cs fs ts bound th;(∃x,(z1 x)/\(cI 0=cI (x:Int)/\True)/\sm z3)/\∀(x:Nat),(z1 x)->br (decide ((x:Int) < (th.length:Int))) ((0<=(x:Int)/\(x:Int) < (th.length:Int))/\∀(d:TD),th[(x:Int).toNat]?=some d->((bnd ((vs,ms,cs,fs,ts,()),()))/\List.length d.snd.snd.snd.snd.snd.snd.snd.snd.snd.fst<=1000000/\d.fst<=9223372036854775807/\List.length d.snd.snd.snd.fst=8)/\((z2 x d)=true->iR ((x:Int) - (1:Int)))/\((z2 x d)=true->0<=(x:Int) - (1:Int)/\(x:Int) - 1 < (th.length:Int))/\∀(dI:TD),((z2 x d)=true->th[((x:Int) - (1:Int)).toNat]?=some dI)->((z2 x d)=true->0<=(x:Int)/\(x:Int) < (th.length:Int))/\∀(nS:TD),((z2 x d)=true->th[(x:Int).toNat]?=some nS)->br (!(z4 d) || decide (0 < (x:Int)) && decide (nS.fst<=dI.fst)) (qB z5 false) (iR ((x:Int)+(1:Int))/\∃x',(z1 x')/\(cI ((x:Int)+(1:Int))=cI (x':Int)/\True)/\sm z3/\th.length - x' < th.length - x)) (qB z5 true):=by
 conv=>zeta
 delta iR;obtain⟨hb,hl,hT⟩:bnd ((vs,ms,cs,fs,ts,()),())/\iH th:=aF;have fF:¬SK vs ms cs fs ts bound th->qB (JJ vs ms cs fs ts bound th) false:=λq=>⟨rfl,by rw[Qb q]⟩
 refine⟨⟨0,⟨by omega,λj hj=>by omega,λj hj=>by omega⟩,⟨rfl,trivial⟩,rfl⟩,λk hk=>ah.2 ⟨λg=>?_,λg=>?_⟩⟩
 .obtain⟨k1,k2,k3⟩:=hk;simp only[dH]at g;refine⟨⟨by omega,by omega⟩,λd hd=>⟨⟨hb,hT d (ig hd)⟩,λ_=>ak.2 (by omega),λq=>?_,λd1 hd1=>⟨λ_=>⟨by omega,by omega⟩,λd2 hd2=>ah.2 ⟨λg2=>fF λq=>?_,λg2=>⟨ak.2 (by omega),k+1,⟨by omega,λj hj t ht=>?_,λj hj a b ha hb=>?_⟩,⟨rfl,trivial⟩,rfl,by omega⟩⟩⟩⟩⟩
  .rw[bV,dH]at q;omega
  .have hd:th[k]?=some d:=hd;have q3:=q.1 d (ig hd);rw[wz,Dc,bV,dH,dH]at g2;have hv:(decide (dF (aG vs ms cs fs ts).1 bound=0) && mJ ms fs bound d)=true:=by rw[bV,dH,kH];exact q3
   rcases g2 with g2 | ⟨g2,g3⟩
   .rw[hv]at g2;cases g2
   .have gg:(decide ((0:Int) < (k:Int)) && !!(decide (dF (aG vs ms cs fs ts).1 bound=0) && mJ ms fs bound d))=true:=by rw[hv,wV g2];rfl
    have h1:=hd1 gg;have h2:th[k]?=some d2:=hd2 gg;rw[hd]at h2;cases h2;rw[show((k:Int) - 1).toNat=k - 1 by omega]at h1
    have:=abg q.2 h1 (by rw[show k - 1+1=k by omega];exact hd)
    omega
  .rw[lX,wR,bV,dH,kH]at g2
   by_cases e:j=k
   .subst e;have hd:th[j]?=some d:=hd;rw[hd]at ht;cases ht;exact g2.1
   .exact k2 j (by omega) t ht
  .by_cases e:j+1=k
   .have hd:th[k]?=some d:=hd;rw[lX,wR]at g2;have hk0:(0:Int) < (k:Int):=by omega
    have gg:(decide ((0:Int) < (k:Int)) && !!(decide (dF (aG vs ms cs fs ts).1 bound=0) && mJ ms fs bound d))=true:=by rw[g2.1,wV hk0];rfl
    have h1:=hd1 gg;have h2:th[k]?=some d2:=hd2 gg;rw[hd]at h2;cases h2;rw[show((k:Int) - 1).toNat=j by omega,ha]at h1
    cases h1;rw[e,hd]at hb;cases hb;have g3:=g2.2;rw[A70,eH,eH]at g3;omega
   .exact k3 j (by omega) a b ha hb
 .obtain⟨k1,k2,k3⟩:=hk;simp only[eH]at g;have all:∀t∈th,dF (aG vs ms cs fs ts).1 bound=0/\uf ms fs bound t:=λt ht=>by
   obtain⟨j,hj⟩:=yg ht;have:=(A8.1 hj).1;exact k2 j (by omega) t hj
  have up:uS th:=Qa λj a b ha hb=>by
   have:=(A8.1 hb).1;exact k3 j (by omega) a b ha hb
  exact⟨rfl,by rw[Fh.2 ⟨all,up⟩]⟩
theorem agc:aT aS.gd 68 abh:=
 dQ (cx:=aS) (n:=40) (cl:=[(122,aaO)]) (rc:=[]) au ⟨aaP,trivial⟩ Tryz.func68 λd hd=>by
  obtain⟨⟨vs,ms,cs,fs,ts,⟨⟩⟩,bound,th,⟨⟩⟩:=d;exact aI (anW vs ms cs fs ts bound th) (ale vs ms cs fs ts bound th hd) (by kernel_rfl)
theorem alf(vs:List VD) (ms cs:List ByteArray) (fs:List FD) (ts:List SD) (bound:Int) (th:List TD) (mv mo:List Int) (mq:List (List Int)) (mg:List Int) (bf:List BD) (aF:JK.pre ((vs,ms,cs,fs,ts,()),bound,(th,(mv,mo,mq,mg,()),bf,()),())):
 let z1:=bnd ((vs,ms,cs,fs,ts,()),());let z2:=(aG vs ms cs fs ts).fst=0;let z3:=(mv,mo,mq,mg,());z1/\(decide z2=true->z1/\iH th)/\((decide z2 && JJ vs ms cs fs ts bound th)=true->z1/\bG z3)/\qB (vsB vs ms cs fs ts bound th z3 bf) (decide z2 && JJ vs ms cs fs ts bound th && jw (vs,ms,cs,fs,ts,()) z3 && decide ((bf.length:Int)=(0:Int))):=by
 conv=>zeta
 obtain⟨hb,hT,hM⟩:bnd ((vs,ms,cs,fs,ts,()),())/\iH th/\bG (mv,mo,mq,mg,()):=aF;refine⟨hb,λ_=>⟨hb,hT⟩,λ_=>⟨hb,hM⟩,rfl,?_⟩
 have e:vsB vs ms cs fs ts bound th (mv,mo,mq,mg,()) bf=(decide ((aG vs ms cs fs ts).1=0) && JJ vs ms cs fs ts bound th && jw (vs,ms,cs,fs,ts,()) (mv,mo,mq,mg,()) && decide ((bf.length:Int)=0)):=by
  rw[Fz,jV];simp only[bV,dH,Fh];have e0:(bf.length:Int)=0↔bf=[]:=by rw[<-List.length_eq_zero_iff];omega
  rw[e0];constructor
  .rintro⟨h1,h2,h3,h4⟩;refine⟨⟨⟨?_,h3,h4⟩,h1⟩,h2⟩;unfold jw at h1;simp only[bV,dH]at h1;exact h1.1.1.1.1
  .rintro⟨⟨⟨_,h3⟩,h1⟩,h2⟩;exact⟨h1,h2,h3.1,h3.2⟩
 rw[e]
theorem SN:aT aS.gd 28 JK:=
 dQ (cx:=aS) (n:=28) (cl:=[(67,Ju),(68,abh),(69,Vs)]) (rc:=[]) au ⟨SA,agc,af0,trivial⟩ Tryz.func28 λd hd=>by
  obtain⟨⟨vs,ms,cs,fs,ts,⟨⟩⟩,bound,⟨th,⟨mv,mo,mq,mg,⟨⟩⟩,bf,⟨⟩⟩,⟨⟩⟩:=d;exact aI (λ_=>none) (alf vs ms cs fs ts bound th mv mo mq mg bf hd) (by kernel_rfl)
theorem jO{a b:ED} (h:a=b):qE a b:=⟨rfl,by rw[h]⟩
theorem jC{a b:Bool} (h:a=b):qB a b:=⟨rfl,by rw[h]⟩
theorem SX{rg:List Int}{b d:Int} (h:rg[b.toNat]?=some d):rg.getD b.toNat 0=d:=by rw[J7,h];rfl
theorem kJ(h:0<=eG p l):∃(k:Nat) (t:TD),eG p l=k/\l[k]?=some t/\l.find? p=some t/\k < l.length:=by
 unfold eG at h ⊢
 cases e:l.findIdx? p with
 | none=>rw[e]at h;exact absurd h (by decide)
 | some k=>
   obtain⟨h1,h2,h3⟩:=A50.1 e;refine⟨k,l[k],rfl,lK h1,?_,h1⟩;rw[List.find?_eq_some_iff_getElem];exact⟨h2,k,h1,rfl,λj hj=>by have:=h3 j hj;simpa using this⟩
theorem oZ(h:¬0<=eG p l):l.find? p=none:=by
 unfold eG at h;cases e:l.findIdx? p with
 | some k=>rw[e]at h;exact absurd (Int.natCast_nonneg k) h
 | none=>
   rw[A73]at e;rw[A90];intro x hx;rw[e x hx];simp
def alg(v rb rc op o:Int):ED->ED
 | (ag,ix,_,eo,mx,en,_,_,wr,_)=>if op=8 then(ag,ix,1,eo,mx,en,o,v,wr,()) else if op=14 then(ag,ix,8,eo,mx,en,o,v,wr,()) else if op=9 then(ag,ix,2,eo,mx,en,o,0,rb,())
   else if op=10 then(ag,ix,5,eo,mx,en,o,v,rb,()) else if op=11 then(ag,ix,5,eo,mx,en,o,v,(dY 1 v rb).1,()) else if v=rb then(ag,ix,5,eo,mx,en,o,v,rc,()) else(ag,ix,6,eo,mx,en,o,v,wr,())
def wtS(ph n:Int):ED->ED
 | (ag,ix,_,eo,mx,en,mX,rd,wr,_)=>if ph=0 then(ag,ix,12,eo,n,en,mX,rd,wr,()) else if ph=1 then(ag,ix,13,eo,mx,en,mX,rd,wr,()) else(ag,ix,9,n,mx,en,mX,rd,wr,())
def jW(m:MD) (t:TD) (i:ID):Prop:=
 (bG m/\dV m=true/\tB t)/\(0<=i.2.2.1/\i.2.2.1 < 8)/\(0<=i.2.2.2.1/\i.2.2.2.1 < 8)/\(8<=i.1/\i.1<=22) /\
 (i.1<=14/\i.1≠13->0<=i.2.2.2.2.1/\i.2.2.2.2.1 < (m.1.length:Int))/\(18<=i.1/\i.1<=20->0<=i.2.2.2.2.1/\i.2.2.2.2.1 < (m.2.2.1.length:Int)) /\
 (i.1=13\/15<=i.1->i.2.2.2.2.2.2.2.1=0)
theorem SY{x:Int} (h:dV m=true) (h1:0<=x/\x < (m.1.length:Int)):(wP m x).1=m.1[x.toNat]?.getD 0:=by
 unfold wP;rw[if_pos (gU.2 ⟨h,h1⟩)]
abbrev JM:CT:={ ps:=[.bool],pre:=λd=>True,res:=λd=>([],.one (.c (.v (.int .i64 (F9 d.1))))) }
theorem alh(b:Bool):
 br b (qI (F9 b) (1:Int)) (qI (F9 b) (0:Int)):=by
 unfold F9;cases b<;>exact ah.2 ⟨λh=>⟨rfl,by simp_all⟩,λh=>⟨rfl,by simp_all⟩⟩
theorem agd:aT aS.gd 86 JM:=
 jD (cx:=aS) (n:=4) (cl:=[]) au trivial Tryz.func86 λd hd=>by
  obtain⟨b,⟨⟩⟩:=d;exact aI (λ_=>none) (alh b) (by kernel_rfl)
abbrev abj:CT:={ ps:=[J6,dX,lG,shE],pre:=λd=>bG d.1.2.1/\d.2.1.2.2.2.1.length=8/\(0<=d.2.2.1.2.2.1/\d.2.2.1.2.2.1 < 8)/\(0<=d.2.2.1.2.2.2.1/\d.2.2.1.2.2.2.1 < 8),res:=λd=>([],.one (BP (alg (wP d.1.2.1 d.2.2.1.2.2.2.2.1).1 (d.2.1.2.2.2.1.getD d.2.2.1.2.2.1.toNat 0) (d.2.1.2.2.2.1.getD d.2.2.1.2.2.2.1.toNat 0) d.2.2.1.1 d.2.2.1.2.2.2.2.2.2.2.1 d.2.2.2.1))) }
theorem ali(th:List TD) (mv mo:List Int) (mq:List (List Int)) (mg:List Int) (bf:List BD) (id fn pc:Int) (rg:List Int) (st ch ph su fa:Int) (he:List Int) (op a b c obj n fo ord ag ix kd eo mx en mX rd wr:Int) (aF:abj.pre ((th,(mv,mo,mq,mg,()),bf,()),(id,fn,pc,rg,st,ch,ph,su,fa,he,()),(op,a,b,c,obj,n,fo,ord,()),(ag,ix,kd,eo,mx,en,mX,rd,wr,()),())):
 let z2:=wP (mv,mo,mq,mg,()) obj;let z1:=alg z2.fst (rg.getD b.toNat (0:Int)) (rg.getD c.toNat (0:Int)) op ord (ag,ix,kd,eo,mx,en,mX,rd,wr,());bG (mv,mo,mq,mg,())/\br (decide (op=8)) (qE z1 (ag,ix,1,eo,mx,en,ord,z2.fst,wr,())) (br (decide (op=14)) (qE z1 (ag,ix,8,eo,mx,en,ord,z2.fst,wr,())) (br (decide (op=9)) ((0<=b/\b < 8)/\b.toNat < 8/\∀(d:Int),rg[b.toNat]?=some d->qE z1 (ag,ix,2,eo,mx,en,ord,0,d,())) (br (decide (op=10)) ((0<=b/\b < 8)/\b.toNat < 8/\∀(d:Int),rg[b.toNat]?=some d->qE z1 (ag,ix,5,eo,mx,en,ord,z2.fst,d,())) (br (decide (op=11)) ((0<=b/\b < 8)/\b.toNat < 8/\∀(d:Int),rg[b.toNat]?=some d->True/\qE z1 (ag,ix,5,eo,mx,en,ord,z2.fst,aH (aH (z2.fst,d,()).fst+aH d),())) ((0<=b/\b < 8)/\b.toNat < 8/\∀(d:Int),rg[b.toNat]?=some d->br (decide (z2.fst=d)) ((0<=c/\c < 8)/\c.toNat < 8/\∀(d:Int),rg[c.toNat]?=some d->qE z1 (ag,ix,5,eo,mx,en,ord,z2.fst,d,())) (qE z1 (ag,ix,6,eo,mx,en,ord,z2.fst,wr,()))))))):=by
 conv=>zeta
 obtain⟨hM,h8,hb,hc⟩:bG (mv,mo,mq,mg,())/\rg.length=8/\(0<=b/\b < 8)/\(0<=c/\c < 8):=aF;have hb8:b.toNat < 8:=by omega
 have hc8:c.toNat < 8:=by omega
 refine⟨hM,aO.2 ⟨λe=>jO ?_,λn1=>aO.2 ⟨λe=>jO ?_,λn2=>aO.2 ⟨λe=>⟨hb,hb8,λd hd=>jO ?_⟩,λn3=>aO.2 ⟨λe=>⟨hb,hb8,λd hd=>jO ?_⟩,λn4=>aO.2 ⟨λe=>⟨hb,hb8,λd hd=>⟨trivial,jO ?_⟩⟩,λn5=>⟨hb,hb8,λd hd=>aO.2 ⟨λe=>⟨hc,hc8,λd2 hd2=>jO ?_⟩,λe=>jO ?_⟩⟩⟩⟩⟩⟩⟩⟩
 .subst e;rfl
 .subst e;rfl
 .subst e;rw[SX hd];rfl
 .subst e;rw[SX hd];rfl
 .subst e;rw[SX hd];rfl
 .rw[SX hd,SX hd2];show(if op=8 then _ else _)=_
  rw[if_neg n1,if_neg n2,if_neg n3,if_neg n4,if_neg n5,if_pos e]
 .rw[SX hd];show(if op=8 then _ else _)=_
  rw[if_neg n1,if_neg n2,if_neg n3,if_neg n4,if_neg n5,if_neg e]
theorem agf:aT aS.gd 90 abj:=
 dQ (cx:=aS) (n:=73) (cl:=[(96,afN),(97,RF)]) (rc:=[]) au ⟨Sl,JA,trivial⟩ Tryz.func90 λd hd=>by
  obtain⟨⟨th,⟨mv,mo,mq,mg,⟨⟩⟩,bf,⟨⟩⟩,⟨id,fn,pc,rg,st,ch,ph,su,fa,he,⟨⟩⟩,⟨op,a,b,c,obj,n,fo,ord,⟨⟩⟩,⟨ag,ix,kd,eo,mx,en,mX,rd,wr,⟨⟩⟩,⟨⟩⟩:=d;exact aI (λ_=>none) (ali th mv mo mq mg bf id fn pc rg st ch ph su fa he op a b c obj n fo ord ag ix kd eo mx en mX rd wr hd) (by kernel_rfl)
abbrev ahy:CT:={ ps:=[dX,lG,shE],pre:=λd=>True,res:=λd=>([],.one (BP (wtS d.1.2.2.2.2.2.2.1 d.2.1.2.2.2.2.2.1 d.2.2.1))) }
theorem alj(id fn pc:Int) (rg:List Int) (st ch ph su fa:Int) (he:List Int) (op a b c obj n fo ord ag ix kd eo mx en mX rd wr:Int):
 let z1:=wtS ph n (ag,ix,kd,eo,mx,en,mX,rd,wr,());br (decide (ph=0)) (qE z1 (ag,ix,12,eo,n,en,mX,rd,wr,())) (br (decide (ph=1)) (qE z1 (ag,ix,13,eo,mx,en,mX,rd,wr,())) (qE z1 (ag,ix,9,n,mx,en,mX,rd,wr,()))):=by
 conv=>zeta
 refine aO.2 ⟨λe=>jO ?_,λn1=>aO.2 ⟨λe=>jO ?_,λn2=>jO ?_⟩⟩
 .subst e;rfl
 .subst e;rfl
 .show(if ph=0 then _ else _)=_
  rw[if_neg n1,if_neg n2]
theorem agh:aT aS.gd 88 ahy:=
 dQ (cx:=aS) (n:=23) (cl:=[]) (rc:=[]) au trivial Tryz.func88 λd hd=>by
  obtain⟨⟨id,fn,pc,rg,st,ch,ph,su,fa,he,⟨⟩⟩,⟨op,a,b,c,obj,n,fo,ord,⟨⟩⟩,⟨ag,ix,kd,eo,mx,en,mX,rd,wr,⟨⟩⟩,⟨⟩⟩:=d;exact aI (λ_=>none) (alj id fn pc rg st ch ph su fa he op a b c obj n fo ord ag ix kd eo mx en mX rd wr) (by kernel_rfl)
abbrev Fj:CT:={ ps:=[J6,dX,lG],pre:=λd=>jW d.1.2.1 d.2.1 d.2.2.1,res:=λd=>([],.one (BP (labS d.1.2.1 d.2.1 d.2.2.1))) }
theorem alk(th:List TD) (mv mo:List Int) (mq:List (List Int)) (mg:List Int) (bf:List BD) (id fn pc:Int) (rg:List Int) (st ch ph su fa:Int) (he:List Int) (op a b c obj n fo ord:Int) (aF:Fj.pre ((th,(mv,mo,mq,mg,()),bf,()),(id,fn,pc,rg,st,ch,ph,su,fa,he,()),(op,a,b,c,obj,n,fo,ord,()),())):
 let z4:=(mv,mo,mq,mg,());let z1:=labS z4 (id,fn,pc,rg,st,ch,ph,su,fa,he,()) (op,a,b,c,obj,n,fo,ord,());let z2:=(id,st,(0:Int),obj,(-1:Int),(-1:Int),(0:Int),(0:Int),(0:Int),());let z3:=0<=obj/\obj < (mq.length:Int);br (decide (op=13)) (qE z1 (id,st,7,obj,-1,-1,0,0,0,())) (br (decide (op=15)) (qE z1 (id,st,9,obj,-1,-1,0,0,0,())) (br (decide (op=16)) (qE z1 (id,st,10,obj,-1,-1,0,0,0,())) (br (decide (op=17)) (bG z4/\True/\qE z1 (id,st,11,obj,-1,-1,0,F9 (nH z4 obj),0,())) (br (decide (op=18)) (True/\qE z1 (wtS ph n z2)) (br (decide (op=19)) (z3/\∀(d:List Int),mq[obj.toNat]?=some d->qE z1 (id,st,14,obj,-1,-1,0,jT (1:Int) (d.length:Int),0,())) (br (decide (op=20)) (z3/\∀(d:List Int),mq[obj.toNat]?=some d->qE z1 (id,st,15,obj,-1,-1,0,(d.length:Int),0,())) (br (decide (op=21)) (id<=9223372036854775807/\qE z1 (id,st,16,(bY id ch).fst,-1,-1,0,0,0,())) (br (decide (op=22)) ((0<=b/\b < 8)/\b.toNat < 8/\∀(d:Int),rg[b.toNat]?=some d->qE z1 (id,st,17,d,-1,-1,0,0,0,())) ((bG z4/\rg.length=8/\(0<=b/\b < 8)/\0<=c/\c < 8)/\qE z1 (alg (wP z4 obj).fst (rg.getD b.toNat (0:Int)) (rg.getD c.toNat (0:Int)) op ord z2)))))))))):=by
 conv=>zeta
 obtain⟨⟨hM,hf,hT⟩,hb,hc,hv,ho1,ho2,ho3⟩:jW (mv,mo,mq,mg,()) (id,fn,pc,rg,st,ch,ph,su,fa,he,()) (op,a,b,c,obj,n,fo,ord,()):=aF;obtain⟨t1,t2,t3⟩:he.length<=1000000/\id<=9223372036854775807/\rg.length=8:=hT;have hb:0<=b/\b < 8:=hb;have hc:0<=c/\c < 8:=hc;have hv:8<=op/\op<=22:=hv;have ho1:op<=14/\op≠13->0<=obj/\obj < (mv.length:Int):=ho1;have ho2:18<=op/\op<=20->0<=obj/\obj < (mq.length:Int):=ho2;have hb8:b.toNat < 8:=by omega
 refine aO.2 ⟨λe=>jO ?_,λn1=>aO.2 ⟨λe=>jO ?_,λn2=>aO.2 ⟨λe=>jO ?_,λn3=>aO.2 ⟨λe=>⟨hM,trivial,jO ?_⟩,λn4=>aO.2 ⟨λe=>⟨trivial,jO ?_⟩,λn5=>aO.2 ⟨λe=>⟨ho2 (by omega),λd hd=>jO ?_⟩,λn6=>aO.2 ⟨λe=>⟨ho2 (by omega),λd hd=>jO ?_⟩,λn7=>aO.2 ⟨λe=>⟨t2,jO ?_⟩,λn8=>aO.2 ⟨λe=>⟨hb,hb8,λd hd=>jO ?_⟩,λn9=>⟨⟨hM,t3,hb,hc⟩,jO ?_⟩⟩⟩⟩⟩⟩⟩⟩⟩⟩
 .subst e;rfl
 .subst e;rfl
 .subst e;rfl
 .subst e;rfl
 .subst e;have e1:∀m t,labS m t (18,a,b,c,obj,n,fo,ord,())=if t.2.2.2.2.2.2.1=0 then(t.1,t.2.2.2.2.1,12,obj,n,-1,0,0,0,()) else if t.2.2.2.2.2.2.1=1 then(t.1,t.2.2.2.2.1,13,obj,-1,-1,0,0,0,()) else(t.1,t.2.2.2.2.1,9,n,-1,-1,0,0,0,()):=λ_ _=>rfl
  rw[e1];rfl
 .subst e;have e1:∀m t,labS m t (19,a,b,c,obj,n,fo,ord,())=(t.1,t.2.2.2.2.1,14,obj,-1,-1,0,jT 1 (m.2.2.1[obj.toNat]?.getD []).length,0,()):=λ_ _=>rfl
  rw[e1];show(_,_,_,_,_,_,_,jT 1 (mq[obj.toNat]?.getD []).length,_,_)=_;rw[hd];rfl
 .subst e;have e1:∀m t,labS m t (20,a,b,c,obj,n,fo,ord,())=(t.1,t.2.2.2.2.1,15,obj,-1,-1,0,((m.2.2.1[obj.toNat]?.getD []).length:Int),0,()):=λ_ _=>rfl
  rw[e1];show(_,_,_,_,_,_,_,(((mq[obj.toNat]?.getD []).length:Nat):Int),_,_)=_;rw[hd];rfl
 .subst e;rfl
 .subst e;have e1:∀m t,labS m t (22,a,b,c,obj,n,fo,ord,())=(t.1,t.2.2.2.2.1,17,t.2.2.2.1.getD b.toNat 0,-1,-1,0,0,0,()):=λ_ _=>rfl
  rw[e1];show(_,_,_,rg.getD b.toNat 0,_,_,_,_,_,_)=_;rw[SX hd]
 .rw[SY hf (ho1 (by omega))]
  have:op=8\/op=9\/op=10\/op=11\/op=12\/op=14:=by omega
  rcases this with e | e | e | e | e | e<;>subst e<;>rfl
theorem S9:aT aS.gd 42 Fj:=
 dQ (cx:=aS) (n:=91) (cl:=[(86,JM),(87,Nh),(88,ahy),(89,RG),(90,abj)]) (rc:=[]) au ⟨agd,Sm,agh,RH,agf,trivial⟩ Tryz.func42 λd hd=>by
  obtain⟨⟨th,⟨mv,mo,mq,mg,⟨⟩⟩,bf,⟨⟩⟩,⟨id,fn,pc,rg,st,ch,ph,su,fa,he,⟨⟩⟩,⟨op,a,b,c,obj,n,fo,ord,⟨⟩⟩,⟨⟩⟩:=d;exact aI (λ_=>none) (alk th mv mo mq mg bf id fn pc rg st ch ph su fa he op a b c obj n fo ord hd) (by kernel_rfl)
abbrev Tc:CT:={ ps:=[J6,dX,lG],pre:=λd=>jW d.1.2.1 d.2.1 d.2.2.1/\d.1.1.length<=1000000,res:=λd=>([],vB (CX d.1.1 d.1.2.1 d.2.1 d.2.2.1)) }
theorem alm(th:List TD) (mv mo:List Int) (mq:List (List Int)) (mg:List Int) (bf:List BD) (id fn pc:Int) (rg:List Int) (st ch ph su fa:Int) (he:List Int) (op a b c obj n fo ord:Int) (aF:Tc.pre ((th,(mv,mo,mq,mg,()),bf,()),(id,fn,pc,rg,st,ch,ph,su,fa,he,()),(op,a,b,c,obj,n,fo,ord,()),())):
 let z7:=(mv,mo,mq,mg,());let z3:=CX th z7 (id,fn,pc,rg,st,ch,ph,su,fa,he,()) (op,a,b,c,obj,n,fo,ord,());let z2:=qB z3 true;let z5:=λ(d:Int)=>0<=eG (λt=>decide (t.fst=(th,d,()).snd.fst)) th;let z6:=λ(d:Int)=>eG (λt=>decide (t.fst=(th,d,()).snd.fst)) th;let z4:=λ(d:Int)=>dO (z6 d) (0:Int);let z1:=λ(dI:TD) (d:Int)=>!decide (dI.snd.snd.snd.snd.snd.snd.snd.fst=2) && decide (z5 d);br (decide (op=14)) (bG z7/\(0<=b/\b < 8)/\b.toNat < 8/\∀(d:Int),rg[b.toNat]?=some d->True/\qB z3 (!decide ((dY fo ((wP z7 obj).fst,d,()).fst d).fst=0))) (br (decide (op=15)) (bG z7/\qB z3 (nH z7 obj)) (br (decide (op=18)) (br (decide (ph=1)) (mg.length<=4611686018427387904/\qB z3 (dP mg id)) (br (decide (ph=2)) (bG z7/\qB z3 (nH z7 n)) z2)) (br (decide (op=22)) ((0<=b/\b < 8)/\b.toNat < 8/\∀(d:Int),rg[b.toNat]?=some d->th.length<=1000000/\(decide (z5 d)=true->0<=dO (z6 d) (0:Int)/\dO (z6 d) 0 < (th.length:Int))/\∀(dI:TD),(decide (z5 d)=true->th[(z4 d).toNat]?=some dI)->((z1 dI d)=true->0<=dO (z6 d) (0:Int)/\dO (z6 d) 0 < (th.length:Int))/\∀(nS:TD),((z1 dI d)=true->th[(z4 d).toNat]?=some nS)->qB z3 (decide (z5 d) && (decide (dI.snd.snd.snd.snd.snd.snd.snd.fst=2) || decide (nS.snd.snd.snd.snd.snd.snd.snd.fst=3)))) z2))):=by
 conv=>zeta
 obtain⟨⟨⟨hM,hf,hT⟩,hb,hc,hv,ho1,ho2,ho3⟩,hl⟩:jW (mv,mo,mq,mg,()) (id,fn,pc,rg,st,ch,ph,su,fa,he,()) (op,a,b,c,obj,n,fo,ord,())/\th.length<=1000000:=aF;have hb:0<=b/\b < 8:=hb;have ho1:op<=14/\op≠13->0<=obj/\obj < (mv.length:Int):=ho1;have hb8:b.toNat < 8:=by omega
 have hg:mg.length<=4611686018427387904:=by have:mg.length<=1000:=hM.2.2.2.1;omega
 refine aO.2 ⟨λe=>⟨hM,hb,hb8,λd hd=>⟨trivial,jC ?_⟩⟩,λn1=>aO.2 ⟨λe=>⟨hM,jC ?_⟩,λn2=>aO.2 ⟨λe=>aO.2 ⟨λe2=>⟨hg,jC ?_⟩,λm1=>aO.2 ⟨λe2=>⟨hM,jC ?_⟩,λm2=>jC ?_⟩⟩,λn3=>aO.2 ⟨λe=>⟨hb,hb8,λd hd=>⟨hl,λq=>?_,λd1 h1=>⟨λq=>?_,λd2 h2=>jC ?_⟩⟩⟩,λn4=>jC ?_⟩⟩⟩⟩
 .subst e;have e1:∀l m t,CX l m t (14,a,b,c,obj,n,fo,ord,())=decide ((dY fo (m.1[obj.toNat]?.getD 0) (t.2.2.2.1.getD b.toNat 0)).1≠0):=λ_ _ _=>rfl
  rw[e1,<-decide_not];show decide ((dY fo (mv[obj.toNat]?.getD 0) (rg.getD b.toNat 0)).1≠0)=_;rw[SX hd,SY hf (ho1 (by omega))]
 .subst e;rfl
 .subst e;subst e2;rfl
 .subst e;subst e2;rfl
 .subst e;have e1:∀l m t,CX l m t (18,a,b,c,obj,n,fo,ord,())=if t.2.2.2.2.2.2.1=1 then dP m.2.2.2.1 t.1 else if t.2.2.2.2.2.2.1=2 then nH m n else true:=λ_ _ _=>rfl
  rw[e1];show(if ph=1 then _ else _)=_
  rw[if_neg m1,if_neg m2]
 .obtain⟨k,t,q1,q2,q3,q4⟩:=kJ (Qk q);rw[q1];unfold dO;split<;>omega
 .rw[bV]at q;obtain⟨k,t,q1,q2,q3,q4⟩:=kJ (Qk q.2);rw[q1];unfold dO;split<;>omega
 .subst e;have e1:∀l m t,CX l m t (22,a,b,c,obj,n,fo,ord,())=(match xY l (t.2.2.2.1.getD b.toNat 0) with
   | some u=>decide (u.2.2.2.2.2.2.2.1=2) || decide (u.2.2.2.2.2.2.2.1=3)
   | none=>false):=λ_ _ _=>rfl
  rw[e1];show(match xY th (rg.getD b.toNat 0) with
   | some u=>decide (u.2.2.2.2.2.2.2.1=2) || decide (u.2.2.2.2.2.2.2.1=3)
   | none=>false)=_
  rw[SX hd];unfold xY
  by_cases q:0<=eG (λt=>decide (t.1=d)) th
  .obtain⟨k,t,q1,q2,q3,q4⟩:=kJ q;have h1:=h1 (wV q);have ek:(dO (eG (λt=>decide (t.1=d)) th) 0).toNat=k:=by rw[q1];unfold dO;split<;>omega
   rw[ek,q2]at h1;have eq1:t=d1:=Ia h1;subst eq1;rw[q3,wV q,FB]
   by_cases s2:t.2.2.2.2.2.2.2.1=2
   .simp[s2]
   .have h2:=h2 (by rw[yh s2,wV q];rfl)
    rw[ek,q2]at h2;have eq2:t=d2:=Ia h2;subst eq2;simp[s2]
  .rw[oZ q,yh q];rfl
 .show CX th _ _ _=_;unfold CX;rw[if_neg n1,if_neg n2,if_neg n3,if_neg n4]
theorem Td:aT aS.gd 46 Tc:=
 dQ (cx:=aS) (n:=97) (cl:=[(96,afN),(87,Nh),(97,RF),(52,wQ),(98,EK)]) (rc:=[]) au ⟨Sl,Sm,JA,CY,zq,trivial⟩ Tryz.func46 λd hd=>by
  obtain⟨⟨th,⟨mv,mo,mq,mg,⟨⟩⟩,bf,⟨⟩⟩,⟨id,fn,pc,rg,st,ch,ph,su,fa,he,⟨⟩⟩,⟨op,a,b,c,obj,n,fo,ord,⟨⟩⟩,⟨⟩⟩:=d;exact aI (λ_=>none) (alm th mv mo mq mg bf id fn pc rg st ch ph su fa he op a b c obj n fo ord hd) (by kernel_rfl)
def zI:ID:=(0,0,0,0,0,0,0,0,())
def jE(e:Int) (ms:List ByteArray) (fs:List FD) (l:List TD) (id:Int):TD×ID×Bool:=match xY l id with
 | some t=>(t,(gK e ms fs t).1,(gK e ms fs t).2)
 | none=>(zT,zI,false)
def Qc(e:Int) (ms:List ByteArray) (fs:List FD) (l:List TD) (m:MD) (t:TD):Bool:=(gK e ms fs t).2 && CX l m t (gK e ms fs t).1
def sO(e:Int) (ms:List ByteArray) (fs:List FD) (l:List TD) (m:MD):List TD->List Int:=λl'=>(l'.filter (Qc e ms fs l m)).map (·.1)
def wo(vs:List VD) (ms cs:List ByteArray) (fs:List FD) (ts:List SD) (l:List TD) (m:MD) (bf:List BD):List Int:=if vsB vs ms cs fs ts 32 l m bf=true then sO (aG vs ms cs fs ts).1 ms fs l m l else[]
theorem uT{e:Int}{l0:List TD}{d:TD} (h:l[k]?=some d):sO e ms fs l0 m (l.take (k+1))=sO e ms fs l0 m (l.take k)++if Qc e ms fs l0 m d=true then[d.1] else[]:=by
 unfold sO;rw[NJ,h,List.filter_append,NP]
 congr 1
 by_cases q:Qc e ms fs l0 m d=true
 .simp[q]
 .simp[q]
theorem abk{i:ID} (h:tZ i=0) (hu:use i.1 6=false):i.2.2.2.2.2.2.2.1=0:=by
 unfold tZ qw at h
 repeat' split at h
 all_goals first | (simp at h;done) | skip
 rename_i h1 h2 h3 h4 h5 h6;rw[hu]at h2;simp only[wz,bV,J8]at h2
 by_cases q:i.2.2.2.2.2.2.2.1=0
 .exact q
 .exact absurd (.inr ⟨rfl,q⟩) h2
theorem Nl{e:Int}{t:TD} (h:(gK e ms fs t).2=true):e=0/\t.2.2.2.2.2.2.2.1=1/\uf ms fs 32 t/\mW fs t.2.1 t.2.2.1=some (gK e ms fs t).1:=by
 unfold gK at h ⊢
 split at h
 .rename_i q;rw[if_pos q];refine⟨q.1,q.2.1,q.2.2,?_⟩;unfold atR at h ⊢
  cases ha:mW fs t.2.1 t.2.2.1 with
  | none=>rw[ha]at h;cases h
  | some i=>rfl
 .cases h
theorem rD{p:PD} (h:jw p m=true):(aG p.1 p.2.1 p.2.2.1 p.2.2.2.1 p.2.2.2.2.1).1=0/\dV m=true/\m.1.length=p.1.length/\m.2.1.length=p.2.1.length/\m.2.2.1.length=p.2.2.1.length:=by
 unfold jw at h;simp only[bV,dH]at h;exact⟨h.1.1.1.1,h.1.1.1.2,h.1.1.2,h.1.2,h.2⟩
theorem zN{vs:List VD}{t:TD} (hv:jw (vs,ms,cs,fs,ts,()) m=true) (hM:bG m) (hT:tB t) (h:(gK (aG vs ms cs fs ts).1 ms fs t).2=true):
 jW m t (gK (aG vs ms cs fs ts).1 ms fs t).1:=by
 obtain⟨e0,h1,h2,h3⟩:=Nl h;obtain⟨_,f,l1,l2,l3⟩:=rD hv;have l1:m.1.length=vs.length:=l1;have l3:m.2.2.1.length=cs.length:=l3;generalize (gK (aG vs ms cs fs ts).1 ms fs t).1=i at h3;obtain⟨_,_,j,hj,vj,_⟩:=AQ h2 h1;rw[h3]at hj;cases hj;have hf:=(AV (oQ h2)).1;obtain⟨k1,k2,k3,k4⟩:=qh (Bz e0 hf h3);obtain⟨r1,r2,r3,r4⟩:=kS k1;have vj:8<=i.1/\i.1<=22:=by unfold jr at vj;simpa using vj
 refine⟨⟨hM,f,hT⟩,r2,r3,vj,λq=>?_,λq=>?_,λq=>?_⟩
 .have e1:oO vs ms cs fs i.1=vs.length:=by unfold oO;rw[if_pos (by omega)]
  rw[e1]at k2;rw[l1];exact k2 (by omega)
 .have e1:oO vs ms cs fs i.1=cs.length:=by unfold oO;rw[if_neg (by omega),if_neg (by omega),if_pos (by omega)]
  rw[e1]at k2;rw[l3];exact k2 (by omega)
 .refine abk k1 ?_;have:i.1=13\/i.1=15\/i.1=16\/i.1=17\/i.1=18\/i.1=19\/i.1=20\/i.1=21\/i.1=22:=by omega
  rcases this with e | e | e | e | e | e | e | e | e<;>rw[e]<;>rfl
abbrev Tf:CT:={ ps:=[o7,J6,.int .i64],pre:=λd=>bnd (d.1,())/\iH d.2.1.1,res:=λd=>([],.iq [.dat dX (jE (aG d.1.1 d.1.2.1 d.1.2.2.1 d.1.2.2.2.1 d.1.2.2.2.2.1).1 d.1.2.1 d.1.2.2.2.1 d.2.1.1 d.2.2.1).1,agI ((jE (aG d.1.1 d.1.2.1 d.1.2.2.1 d.1.2.2.2.1 d.1.2.2.2.2.1).1 d.1.2.1 d.1.2.2.2.1 d.2.1.1 d.2.2.1).2.1),.c (.v (.bool ((jE (aG d.1.1 d.1.2.1 d.1.2.2.1 d.1.2.2.2.1 d.1.2.2.2.2.1).1 d.1.2.1 d.1.2.2.2.1 d.2.1.1 d.2.2.1).2.2)))]) }
theorem aln(vs:List VD) (ms cs:List ByteArray) (fs:List FD) (ts:List SD) (th:List TD) (mv mo:List Int) (mq:List (List Int)) (mg:List Int) (bf:List BD) (id:Int) (aF:Tf.pre ((vs,ms,cs,fs,ts,()),(th,(mv,mo,mq,mg,()),bf,()),id,())):
 let z9:=aG vs ms cs fs ts;let z7:=jE z9.fst ms fs th id;let z2:=[SV.dat dX z7.fst,agI (z7.snd.fst),cB (z7.snd.snd)];let z8:=eG (λt=>decide (t.fst=id)) th;let z4:=0<=dO z8 (0:Int)/\dO z8 0 < (th.length:Int);let z6:=dO z8 (0:Int);let z3:=λ(d:TD)=>(bnd ((vs,ms,cs,fs,ts,()),()))/\List.length d.snd.snd.snd.snd.snd.snd.snd.snd.snd.fst<=1000000/\d.fst<=9223372036854775807/\List.length d.snd.snd.snd.fst=8;let z5:=λ(dI d:TD)=>[SV.dat dX (dI),agI ((gK z9.fst ms fs d).fst),cB ((gK z9.fst ms fs d).snd)];let z1:=λ(dI d:TD)=>rT z2 (z5 dI d);th.length<=1000000/\br (!decide (0<=eG (λt=>decide (t.fst=id)) th)) (rT z2 [SV.dat dX (((0:Int),(0:Int),(0:Int),VK,(0:Int),(0:Int),(0:Int),(0:Int),(0:Int),[],())),agI (0,0,0,0,0,0,0,0,()),cB false]) (z4/\∀(d:TD),th[z6.toNat]?=some d->((z3 d)/\z4/\∀(dI:TD),th[z6.toNat]?=some dI->(z1 dI d)/\rT z2 (z5 dI d))/\(z3 d)/\z4/\∀(dI:TD),th[z6.toNat]?=some dI->(z1 dI d)/\rT z2 (z5 dI d)):=by
 conv=>zeta
 delta VK;obtain⟨hb,hl,hT⟩:bnd ((vs,ms,cs,fs,ts,()),())/\iH th:=aF;refine⟨hl,ah.2 ⟨λh=>?_,λh=>?_⟩⟩
 .have q:¬0<=eG (λt=>decide (t.1=id)) th:=by simpa using h
  have e:jE (aG vs ms cs fs ts).1 ms fs th id=(zT,zI,false):=by unfold jE xY;rw[oZ q]
  rw[e];exact⟨rfl,rfl⟩
 .have q:0<=eG (λt=>decide (t.1=id)) th:=by simpa using h
  obtain⟨k,t,q1,q2,q3,q4⟩:=kJ q;have ek:(dO (eG (λt=>decide (t.1=id)) th) 0).toNat=k:=by rw[q1];unfold dO;split<;>omega
  have hx:0<=dO (eG (λt=>decide (t.1=id)) th) 0/\dO (eG (λt=>decide (t.1=id)) th) 0 < (th.length:Int):=by rw[q1];unfold dO;split<;>omega
  have e:jE (aG vs ms cs fs ts).1 ms fs th id=(t,(gK (aG vs ms cs fs ts).1 ms fs t).1,(gK (aG vs ms cs fs ts).1 ms fs t).2):=by unfold jE xY;rw[q3]
  have key:∀d d1:TD,th[(dO (eG (λt=>decide (t.1=id)) th) 0).toNat]?=some d->th[(dO (eG (λt=>decide (t.1=id)) th) 0).toNat]?=some d1->rT [SV.dat dX (jE (aG vs ms cs fs ts).1 ms fs th id).1,agI (jE (aG vs ms cs fs ts).1 ms fs th id).2.1,cB (jE (aG vs ms cs fs ts).1 ms fs th id).2.2] [SV.dat dX d1,agI (gK (aG vs ms cs fs ts).1 ms fs d).1,cB (gK (aG vs ms cs fs ts).1 ms fs d).2]:=by
   intro d d1 h1 h2;rw[ek,q2]at h1 h2;have e1:t=d:=Ia h1;have e2:t=d1:=Ia h2;subst e1;subst e2;rw[e];exact⟨rfl,rfl⟩
  exact⟨hx,λd hd=>⟨⟨⟨hb,hT d (ig hd)⟩,hx,λd1 h1=>⟨key d d1 hd h1,key d d1 hd h1⟩⟩,⟨hb,hT d (ig hd)⟩,hx,λd1 h1=>⟨key d d1 hd h1,key d d1 hd h1⟩⟩⟩
theorem Ti:aT aS.gd 41 Tf:=
 dQ (cx:=aS) (n:=40) (cl:=[(52,wQ),(45,RX)]) (rc:=[.data dX,.keep,.keep]) au ⟨CY,RY,trivial⟩ Tryz.func41 λd hd=>by
  obtain⟨⟨vs,ms,cs,fs,ts,⟨⟩⟩,⟨th,⟨mv,mo,mq,mg,⟨⟩⟩,bf,⟨⟩⟩,id,⟨⟩⟩:=d;exact aI (λ_=>none) (aln vs ms cs fs ts th mv mo mq mg bf id hd) (by kernel_rfl)
abbrev xZ:CT:={ ps:=[o7,J6],pre:=λd=>bnd (d.1,())/\iH d.2.1.1/\bG d.2.1.2.1,res:=λd=>([],.one (.c (.sl (.int .i64) (wo d.1.1 d.1.2.1 d.1.2.2.1 d.1.2.2.2.1 d.1.2.2.2.2.1 d.2.1.1 d.2.1.2.1 d.2.1.2.2.1)))) }
abbrev anX(vs:List VD) (ms cs:List ByteArray) (fs:List FD) (ts:List SD) (th:List TD) (mv mo:List Int) (mq:List (List Int)) (mg:List Int) (bf:List BD):Nat->Option (St->jq):=λk=>match k with
 | 5=>some λ_=>.inv { α:=Nat,nil:=[(5,3,.int .i64)],slots:=λk=>[(17,.c (.v (.int .i64 k))),(5,.c (.row 2))],res:=λk=>[(2,.row 3 (.int .i64) (sO (aG vs ms cs fs ts).1 ms fs th (mv,mo,mq,mg,()) (th.take k)))],inv:=λk=>k<=th.length,meas:=λk=>th.length - k }
 | _=>none
theorem alo(vs:List VD) (ms cs:List ByteArray) (fs:List FD) (ts:List SD) (th:List TD) (mv mo:List Int) (mq:List (List Int)) (mg:List Int) (bf:List BD) (aF:xZ.pre ((vs,ms,cs,fs,ts,()),(th,(mv,mo,mq,mg,()),bf,()),())):
 let z7:=bnd ((vs,ms,cs,fs,ts,()),());let z10:=(mv,mo,mq,mg,());let z4:=aZ.one (SV.c (SC.sl I6 (wo vs ms cs fs ts th z10 bf)));let z11:=bP vs ms cs fs ts;let z8:=bZ th mv mo mq mg bf;let z9:=aG vs ms cs fs ts;let z2:=λ(x:Nat)=>sO z9.fst ms fs th z10 (List.take x th);let z1:=λ(x:Nat)=>[g0 z11,g0 z8,g0 (ay.row 3 I6 (z2 x))];let z6:=λ(d:TD)=>gK z9.fst ms fs d;let z5:=λ(d:TD)=>(z6 d).fst;let z3:=λ(x x':Nat)=>cI ((x:Int)+(1:Int))=cI (x':Int)/\sm (SV.c (SC.row 2))/\True;(z7/\iH th/\bG z10)/\br (!vsB vs ms cs fs ts (32:Int) th z10 bf) (rE z4 (aZ.one (SV.c (SC.sl I6 [])))) ((∃x,x<=th.length/\(cI 0=cI (x:Int)/\sm (SV.c (SC.row 2))/\True)/\[g0 z11,g0 z8,g0 (ay.row 3 I6 [])]=(z1 x))/\∀(x:Nat),x<=th.length->br (decide ((x:Int) < (th.length:Int))) ((0<=(x:Int)/\(x:Int) < (th.length:Int))/\∀(d:TD),th[(x:Int).toNat]?=some d->(z7/\List.length d.snd.snd.snd.snd.snd.snd.snd.snd.snd.fst<=1000000/\d.fst<=9223372036854775807/\List.length d.snd.snd.snd.fst=8)/\((z6 d).snd=true->jW z10 d (z5 d)/\th.length<=1000000)/\br ((z6 d).snd && CX th z10 d (z5 d)) (nO (List.length (z2 x)+List.length ([(d).fst])) 8/\iR ((x:Int)+(1:Int))/\∃x',x'<=th.length/\(z3 x x')/\[g0 z11,g0 z8,g0 (ay.row 3 I6 (sO z9.fst ms fs th z10 (List.take x th)++[(d).fst]))]=(z1 x')/\th.length - x' < th.length - x) (iR ((x:Int)+(1:Int))/\∃x',x'<=th.length/\(z3 x x')/\(z1 x)=(z1 x')/\th.length - x' < th.length - x)) (rE z4 (aZ.one (SV.c (SC.sl I6 (z2 x)))))):=by
 conv=>zeta
 delta iR;obtain⟨hb,⟨hl,hT⟩,hM⟩:bnd ((vs,ms,cs,fs,ts,()),())/\iH th/\bG (mv,mo,mq,mg,()):=aF;refine⟨⟨hb,⟨hl,hT⟩,hM⟩,ah.2 ⟨λh=>?_,λh=>⟨⟨0,by omega,⟨rfl,rfl,trivial⟩,by simp[sO]⟩,λk hk=>ah.2 ⟨λg=>?_,λg=>?_⟩⟩⟩⟩
 .have h:vsB vs ms cs fs ts 32 th (mv,mo,mq,mg,()) bf=false:=by simpa using h
  exact⟨rfl,by unfold wo;rw[h];rfl⟩
 .simp only[dH]at g;have hv:vsB vs ms cs fs ts 32 th (mv,mo,mq,mg,()) bf=true:=by simpa using h
  have hV:=jV.1 hv;have hle:(sO (aG vs ms cs fs ts).1 ms fs th (mv,mo,mq,mg,()) (th.take k)).length<=k:=by
   unfold sO;rw[VP];exact o8 (TR _ _) (by rw[kV];omega)
  refine⟨⟨by omega,by omega⟩,λd hd=>⟨⟨hb,hT d (ig hd)⟩,λq=>⟨zN hV.1 hM (hT d (ig hd)) q,hl⟩,ah.2 ⟨λg2=>⟨eF.2 (by simp only[wS,J3];omega),ak.2 (by omega),k+1,by omega,⟨rfl,rfl,trivial⟩,?_,by omega⟩,λg2=>⟨ak.2 (by omega),k+1,by omega,⟨rfl,rfl,trivial⟩,?_,by omega⟩⟩⟩⟩
  .have hd:th[k]?=some d:=hd;rw[uT hd,if_pos (show Qc _ _ _ _ _ _=true from g2)]
  .have hd:th[k]?=some d:=hd;have g2:Qc (aG vs ms cs fs ts).1 ms fs th (mv,mo,mq,mg,()) d=false:=g2;rw[uT hd,g2];simp
 .simp only[eH]at g;have hv:vsB vs ms cs fs ts 32 th (mv,mo,mq,mg,()) bf=true:=by simpa using h
  have ek:k=th.length:=by omega
  subst ek;rw[wu (o9 _)];exact⟨rfl,by unfold wo;rw[if_pos hv]⟩
theorem Tj:aT aS.gd 19 xZ:=
 dQ (cx:=aS) (n:=41) (cl:=[(40,JK),(45,RX),(46,Tc)]) (rc:=[.data (.sl (.int .i64))]) au ⟨JL,RY,Td,trivial⟩ Tryz.func19 λd hd=>by
  obtain⟨⟨vs,ms,cs,fs,ts,⟨⟩⟩,⟨th,⟨mv,mo,mq,mg,⟨⟩⟩,bf,⟨⟩⟩,⟨⟩⟩:=d;exact aI (anX vs ms cs fs ts th mv mo mq mg bf) (alo vs ms cs fs ts th mv mo mq mg bf hd) (by kernel_rfl)
def nT(vs:List VD) (ms cs:List ByteArray) (fs:List FD) (ts:List SD) (l:List TD) (m:MD) (bf:List BD) (id:Int):ED×Bool:=
 if vsB vs ms cs fs ts 32 l m bf=true then(if(jE (aG vs ms cs fs ts).1 ms fs l id).2.2=true then(labS m (jE (aG vs ms cs fs ts).1 ms fs l id).1 (jE (aG vs ms cs fs ts).1 ms fs l id).2.1,true) else(zE,false)) else(zE,false)
abbrev Fp:CT:={ ps:=[o7,J6,.int .i64],pre:=λd=>bnd (d.1,())/\iH d.2.1.1/\bG d.2.1.2.1,res:=λd=>([],.iq [BP ((nT d.1.1 d.1.2.1 d.1.2.2.1 d.1.2.2.2.1 d.1.2.2.2.2.1 d.2.1.1 d.2.1.2.1 d.2.1.2.2.1 d.2.2.1).1),.c (.v (.bool ((nT d.1.1 d.1.2.1 d.1.2.2.1 d.1.2.2.2.1 d.1.2.2.2.2.1 d.2.1.1 d.2.1.2.1 d.2.1.2.2.1 d.2.2.1).2)))]) }
theorem alp(vs:List VD) (ms cs:List ByteArray) (fs:List FD) (ts:List SD) (th:List TD) (mv mo:List Int) (mq:List (List Int)) (mg:List Int) (bf:List BD) (id:Int) (aF:Fp.pre ((vs,ms,cs,fs,ts,()),(th,(mv,mo,mq,mg,()),bf,()),id,())):
 let z7:=bnd ((vs,ms,cs,fs,ts,()),());let z8:=(mv,mo,mq,mg,());let z4:=nT vs ms cs fs ts th z8 bf id;let z2:=[BP (z4.fst),cB (z4.snd)];let z1:=rT z2 kq6;let z6:=jE (aG vs ms cs fs ts).fst ms fs th id;let z5:=z6.fst;let z3:=z6.snd.fst;(z7/\iH th/\bG z8)/\br (!vsB vs ms cs fs ts (32:Int) th z8 bf) z1 ((z7/\iH th)/\br (!z6.snd.snd) z1 (jW z8 z5 z3/\rT z2 [BP (labS z8 z5 z3),cB true])):=by
 conv=>zeta
 obtain⟨hb,hT,hM⟩:bnd ((vs,ms,cs,fs,ts,()),())/\iH th/\bG (mv,mo,mq,mg,()):=aF;refine⟨⟨hb,hT,hM⟩,ah.2 ⟨λh=>?_,λh=>⟨⟨hb,hT⟩,ah.2 ⟨λh2=>?_,λh2=>⟨?_,?_⟩⟩⟩⟩⟩
 .have h:vsB vs ms cs fs ts 32 th (mv,mo,mq,mg,()) bf=false:=by simpa using h
  have e:nT vs ms cs fs ts th (mv,mo,mq,mg,()) bf id=(zE,false):=by unfold nT;rw[h];rfl
  rw[e];exact⟨rfl,rfl⟩
 all_goals have hv:vsB vs ms cs fs ts 32 th (mv,mo,mq,mg,()) bf=true:=by simpa using h
 .have h2:(jE (aG vs ms cs fs ts).1 ms fs th id).2.2=false:=by simpa using h2
  have e:nT vs ms cs fs ts th (mv,mo,mq,mg,()) bf id=(zE,false):=by unfold nT;rw[if_pos hv,h2];rfl
  rw[e];exact⟨rfl,rfl⟩
 all_goals have h2:(jE (aG vs ms cs fs ts).1 ms fs th id).2.2=true:=by simpa using h2
 .have h3:=h2;unfold jE at h3 ⊢;cases ef:xY th id with
  | none=>rw[ef]at h3;cases h3
  | some t=>
    rw[ef]at h3;exact zN (jV.1 hv).1 hM (hT.2 t (List.mem_of_find?_eq_some ef)) h3
 .have e:nT vs ms cs fs ts th (mv,mo,mq,mg,()) bf id=(labS (mv,mo,mq,mg,()) (jE (aG vs ms cs fs ts).1 ms fs th id).1 (jE (aG vs ms cs fs ts).1 ms fs th id).2.1,true):=by unfold nT;rw[if_pos hv,if_pos h2]
  rw[e];exact⟨rfl,rfl⟩
theorem Tn:aT aS.gd 16 Fp:=
 dQ (cx:=aS) (n:=31) (cl:=[(40,JK),(41,Tf),(42,Fj)]) (rc:=[.keep,.keep]) au ⟨JL,Ti,S9,trivial⟩ Tryz.func16 λd hd=>by
  obtain⟨⟨vs,ms,cs,fs,ts,⟨⟩⟩,⟨th,⟨mv,mo,mq,mg,⟨⟩⟩,bf,⟨⟩⟩,id,⟨⟩⟩:=d;exact aI (λ_=>none) (alp vs ms cs fs ts th mv mo mq mg bf id hd) (by kernel_rfl)
abbrev shR:Sh:=.pair (.sl (.int .i64)) (.pair (.sl (.int .i64)) (.pair (.sl (.sl (.int .i64))) (.pair (.sl (.int .i64)) (.pair (.sl CW) .unit))))
def zR:TD:=(0,0,0,List.replicate 8 0,0,0,0,0,0,[],())
open Classical in
def nC{α:Type} (a b:α):Bool:=decide (a=b)
theorem nU{α:Type}{a b:α}:nC a b=true↔a=b:=by unfold nC;exact @VO _ (Classical.propDecidable _)
theorem oh{α:Type}{a b:α} (h:a≠b):nC a b=false:=VH.2 λq=>h (nU.1 q)
theorem kK{α:Type}{a b:α} (h:a=b):nC a b=true:=nU.2 h
theorem JO{i f t:Int} (h:bG m):bG (jM m i id f t).1:=by
 have z:bG zM:=⟨by decide,by decide,by decide,by decide,by decide,by decide⟩
 unfold jM;split
 .split
  .exact z
  .split
   .obtain⟨h1,h2,h3⟩:=h;exact⟨h1,by rw[wU];exact h2,h3⟩
   .exact z
 .exact z
theorem anY{a b:List SV} (h:a=b):rT a b:=⟨rfl,by rw[h]⟩
def Gg(l:List BD):Prop:=l.length<=1000000/\∀b∈l,b.2.2.1.length<=1000000
def abl(z:ZD):Prop:=iH z.1/\bG z.2.1/\Gg z.2.2.1
abbrev abm:CT:={ ps:=[vZ,dX,lG,shE],pre:=λd=>bG d.1/\d.2.1.1=d.2.2.2.1.1,res:=λd=>([],.iq [NG ((lN d.1 d.2.2.2.1).1),.c (.v (.int .i64 (AY d.2.2.1 d.2.2.2.1))),.c (.v (.int .i64 ((lN d.1 d.2.2.2.1).2)))]) }
theorem alq(mv mo:List Int) (mq:List (List Int)) (mg:List Int) (id fn pc:Int) (rg:List Int) (st ch ph su fa:Int) (he:List Int) (op a b c obj n fo ord ag ix kd eo mx en mX rd wr:Int) (aF:abm.pre ((mv,mo,mq,mg,()),(id,fn,pc,rg,st,ch,ph,su,fa,he,()),(op,a,b,c,obj,n,fo,ord,()),(ag,ix,kd,eo,mx,en,mX,rd,wr,()),())):
 let z20:=(mv,mo,mq,mg,());let sK:=(ag,ix,kd,eo,mx,en,mX,rd,wr,());let z5:=lN z20 sK;let z4:=[NG (z5.fst),cI (AY (op,a,b,c,obj,n,fo,ord,()) sK),cI (z5.snd)];let VL:=writeM z20 eo wr;let z13:=VL.fst;let vY:=VL.snd;let z2:=rT z4 [NG z20,cI rd,cI 0];let z3:=rT z4 [NG z20,cI 0,cI 0];let z12:=jM z20 eo id (-1:Int) id;let z7:=z12.fst;let z8:=z12.snd;let z10:=jM z20 eo id id (-1:Int);let z11:=jM z20 mx id id (-1:Int);let z9:=z11.fst;let z6:=xW z9 eo id;let z18:=oW z20 id;let z17:=uQ z20 eo (1:Int);let ND:=uQ z20 eo (nI mq);let z1:=br (decide (kd=11)) (br (decide (rd=0)) z3 (bG z20/\rT z4 [NG z7,cI 1,cI z8])) (br (decide (kd=9)) (bG z20/\rT z4 [NG z7,cI 0,cI z8]) (br (decide (kd=10)) (bG z20/\rT z4 [NG (z10.fst),cI 0,cI (z10.snd)]) (br (decide (kd=12)) (bG z20/\br (decide (z11.snd=0)) (bG z9/\rT z4 [NG (z6.fst),cI 0,cI (z6.snd)]) (rT z4 [NG z9,cI 0,cI (z11.snd)])) (br (decide (kd=13)) (bG z20/\rT z4 [NG (z18.fst),cI 0,cI (z18.snd)]) (br (decide (kd=14)) (bG z20/\rT z4 [NG (z17.fst),cI 0,cI (z17.snd.snd)]) (br (decide (kd=15)) (bG z20/\rT z4 [NG (ND.fst),cI 0,cI (ND.snd.snd)]) (br (decide (kd=16)) (rT z4 [NG z20,cI eo,cI 0]) z3)))))));br (decide (kd=5)) (bG z20/\br (decide (op=12)) (rT z4 [NG z13,cI 1,cI vY]) (rT z4 [NG z13,cI rd,cI vY]))
 (br (decide (kd=2)) (bG z20/\rT z4 [NG z13,cI 0,cI vY]) (br (decide (kd=1)) (br (decide (kd=1)) z2 z1) (br (decide (kd=8)) z2 z1))):=by
 conv=>zeta
 obtain⟨hM,hid⟩:bG (mv,mo,mq,mg,())/\id=ag:=aF;subst hid;simp only[aO]
 repeat' (first | exact hM | exact JO hM | (refine anY ?_) | (refine And.intro ?_ ?_) | (intro _))
 all_goals first | exact hM | exact JO hM | trivial | (exfalso;omega) | (simp_all[lN,AY];done) | skip
theorem agi:aT aS.gd 48 abm:=
 dQ (cx:=aS) (n:=132) (cl:=[(100,akU),(101,aaW),(102,aaY),(103,aa2),(104,aa6),(105,aa4),(106,abd)]) (rc:=[.data vZ,.keep,.keep]) au ⟨aaV,aaX,aaZ,aa3,aa7,aa5,abe,trivial⟩ Tryz.func48 λd hd=>by
  obtain⟨⟨mv,mo,mq,mg,⟨⟩⟩,⟨id,fn,pc,rg,st,ch,ph,su,fa,he,⟨⟩⟩,⟨op,a,b,c,obj,n,fo,ord,⟨⟩⟩,⟨ag,ix,kd,eo,mx,en,mX,rd,wr,⟨⟩⟩,⟨⟩⟩:=d;exact aI (λ_=>none) (alq mv mo mq mg id fn pc rg st ch ph su fa he op a b c obj n fo ord ag ix kd eo mx en mX rd wr hd) (by kernel_rfl)
abbrev abn:CT:={ ps:=[.sl Vw],pre:=λd=>d.1.length<=1000000,res:=λd=>([.row 67 Vw d.1],.one (.c (.row 0))) }
theorem alr(l:List (Int×Int×Unit)) (aF:abn.pre (l,())):
 ∀(b:Bool),(b=true->l=[])->br b ([ay.row 67 lS l]=[ay.row 67 lS []]/\aZ.one (SV.c (SC.row 0))=aZ.one (SV.c (SC.row 0))) (nO (0+List.length (l)) 16/\[ay.row 67 lS l]=[ay.row 67 lS ([]++l)]/\aZ.one (SV.c (SC.row 0))=aZ.one (SV.c (SC.row 0))):=by
 have hp:l.length<=1000000:=aF;intro b hb;refine ah.2 ⟨λh=>by rw[hb h];exact⟨rfl,rfl⟩,λh=>⟨?_,by simp,rfl⟩⟩
 rw[eF];omega
theorem agj:aT aS.gd 59 abn:=
 O8 (il:=Zl) (rc:=[.row 67 Vw]) (cx:=aS) (n:=8) (cl:=[]) (by kernel_rfl) au trivial trivial Tryz.func59 (by kernel_rfl) (by kernel_rfl) rfl (by kernel_rfl) (by kernel_rfl) λd hd=>by
  obtain⟨l,⟨⟩⟩:=d;exact aI (λ_=>none) (alr l hd) (by kernel_rfl)
abbrev abo:CT:={ ps:=[J6],pre:=λd=>abl d.1,res:=λd=>([.row 56 dX d.1.1],.one (.agg [.row 0,.sl (.int .i64) d.1.2.1.1,.sl (.int .i64) d.1.2.1.2.1,.sl (.sl (.int .i64)) d.1.2.1.2.2.1,.sl (.int .i64) d.1.2.1.2.2.2.1,.sl CW d.1.2.2.1])) }
abbrev anZ(th:List TD) (mv mo:List Int) (mq:List (List Int)) (mg:List Int) (bf:List BD):Nat->Option (St->jq):=λk=>match k with
 | 5=>some λ_=>.inv { α:=Nat,slots:=λk=>[(23,.c (.v (.int .i64 k)))],res:=λk=>[(7,.row 56 dX th)],inv:=λk=>k<=th.length,meas:=λk=>th.length - k }
 | 12=>some λ_=>.inv { α:=Nat,slots:=λk=>[(52,.c (.v (.int .i64 k)))],res:=λk=>[(8,.row 65 CW bf)],inv:=λk=>k<=bf.length,meas:=λk=>bf.length - k }
 | _=>none
abbrev AZ:=[iN,iN,iN,iN,iN,iN]
theorem als(th:List TD) (mv mo:List Int) (mq:List (List Int)) (mg:List Int) (bf:List BD) (aF:abo.pre ((th,(mv,mo,mq,mg,()),bf,()),())):
 let z13:=bZ th mv mo mq mg bf;let z6:=[SC.row (Nat.succ 0).succ.succ.succ.succ.succ.succ,SC.row 2,SC.row 3,SC.row 4,SC.row 5,iN];let z11:=List.replicate (th.length:Int).toNat (zR:TD);let z4:=List.take (List.length z11) (th)++List.drop (List.length (th)) z11;let z2:=[g0 z13,g0 (ay.blk 37 AZ),g0 (ay.row 3 I6 mv),g0 (ay.row 3 I6 mo),g0 (ay.row 31 I6.sl mq),g0 (ay.row 3 I6 mg),g0 (ay.blk 37 z6),g0 (ay.row 56 dX th)];let z9:=λ(x:Nat)=>0<=(x:Int)/\(x:Int) < (th.length:Int);let z12:=λ(x:Nat)=>(x:Int)+(1:Int);let z5:=[SC.row (Nat.succ 0).succ.succ.succ.succ.succ.succ,SC.row 2,SC.row 3,SC.row 4,SC.row 5,SC.row (Nat.succ 0).succ.succ.succ.succ.succ.succ.succ];let z8:=List.replicate (bf.length:Int).toNat (((0:Int),(0:Int),[],()):BD);let z3:=List.take (List.length z8) (bf)++List.drop (List.length (bf)) z8;let z1:=[g0 z13,g0 (ay.blk 37 AZ),g0 (ay.row 3 I6 mv),g0 (ay.row 3 I6 mo),g0 (ay.row 31 I6.sl mq),g0 (ay.row 3 I6 mg),g0 (ay.blk 37 z5),g0 (ay.row 56 dX th),g0 (ay.row 65 CW bf)];let z10:=λ(x:Nat)=>0<=(x:Int)/\(x:Int) < (bf.length:Int);let z7:=[SC.row 0,SC.sl I6 mv,SC.sl I6 mo,SC.sl I6.sl mq,SC.sl I6 mg,SC.sl CW bf];bG (mv,mo,mq,mg,())/\(0<=(th.length:Int)/\(th.length:Int)<=(th.length:Int)/\nO (th.length:Int).toNat 152)/\(∃x,x<=th.length/\(cI 0=cI (x:Int)/\True)/\[g0 z13,g0 (ay.blk 37 AZ),g0 (ay.row 3 I6 mv),g0 (ay.row 3 I6 mo),g0 (ay.row 31 I6.sl mq),g0 (ay.row 3 I6 mg),g0 (ay.blk 37 z6),g0 (ay.row 56 dX z4)]=z2)/\∀(x:Nat),x<=th.length->br (decide ((x:Int) < (z4.length:Int))) ((z9 x)/\∀(d:TD),th[(x:Int).toNat]?=some d->List.length d.snd.snd.snd.snd.snd.snd.snd.snd.snd.fst<=1000000/\(z9 x)/\(x:Int).toNat < th.length/\∀(e:TD),th[(x:Int).toNat]?=some e->iR (z12 x)/\∃x',x'<=th.length/\(cI (z12 x)=cI (x':Int)/\True)/\[g0 z13,g0 (ay.blk 37 AZ),g0 (ay.row 3 I6 mv),g0 (ay.row 3 I6 mo),g0 (ay.row 31 I6.sl mq),g0 (ay.row 3 I6 mg),g0 (ay.blk 37 z6),g0 (ay.row 56 dX (th.set (x:Int).toNat (e.fst,e.2.fst,e.2.2.fst,e.2.2.2.fst,e.2.2.2.2.fst,e.2.2.2.2.2.fst,e.2.2.2.2.2.2.fst,e.2.2.2.2.2.2.2.fst,e.2.2.2.2.2.2.2.2.fst,d.snd.snd.snd.snd.snd.snd.snd.snd.snd.fst,e.2.2.2.2.2.2.2.2.2.snd)))]=z2/\th.length - x' < th.length - x) ((0<=(bf.length:Int)/\(bf.length:Int)<=(bf.length:Int)/\nO (bf.length:Int).toNat 40)/\(∃x,x<=bf.length/\(cI 0=cI (x:Int)/\True)/\[g0 z13,g0 (ay.blk 37 AZ),g0 (ay.row 3 I6 mv),g0 (ay.row 3 I6 mo),g0 (ay.row 31 I6.sl mq),g0 (ay.row 3 I6 mg),g0 (ay.blk 37 z5),g0 (ay.row 56 dX th),g0 (ay.row 65 CW z3)]=z1)/\∀(x:Nat),x<=bf.length->br (decide ((x:Int) < (z3.length:Int))) ((z10 x)/\∀(d:BD),bf[(x:Int).toNat]?=some d->List.length d.snd.snd.fst<=1000000/\(z10 x)/\(x:Int).toNat < bf.length/\∀(e:BD),bf[(x:Int).toNat]?=some e->iR (z12 x)/\∃x',x'<=bf.length/\(cI (z12 x)=cI (x':Int)/\True)/\[g0 z13,g0 (ay.blk 37 AZ),g0 (ay.row 3 I6 mv),g0 (ay.row 3 I6 mo),g0 (ay.row 31 I6.sl mq),g0 (ay.row 3 I6 mg),g0 (ay.blk 37 z5),g0 (ay.row 56 dX th),g0 (ay.row 65 CW (bf.set (x:Int).toNat (e.fst,e.2.fst,d.snd.snd.fst,e.2.2.snd)))]=z1/\bf.length - x' < bf.length - x) ([ay.row 56 dX th]=[ay.row 56 dX th]/\aZ.one (SV.agg z7)=aZ.one (SV.agg z7))):=by
 conv=>zeta
 delta AZ iR iN;obtain⟨⟨hl,hT⟩,hM,hB,hb⟩:iH th/\bG (mv,mo,mq,mg,())/\Gg bf:=aF;have tk:∀{α:Type} (l:List α) (z:α),List.take (List.length (List.replicate (l.length:Int).toNat z)) l++List.drop (List.length l) (List.replicate (l.length:Int).toNat z)=l:=by
  intro α l z;rw[JX,A95,wu (o9 _),VF (by rw[JX];omega),Ql]
 have st:∀{α:Type}{l:List α}{k:Nat}{d:α},l[k]?=some d->l.set k d=l:=λh=>gV h
 rw[tk th,tk bf];refine⟨hM,⟨by omega,by omega,eF.2 (by omega)⟩,⟨0,by omega,⟨rfl,trivial⟩,rfl⟩,λk hk=>ah.2 ⟨λg=>?_,λg=>⟨⟨by omega,by omega,eF.2 (by omega)⟩,⟨0,by omega,⟨rfl,trivial⟩,rfl⟩,λk hk=>ah.2 ⟨λg=>?_,λg=>?_⟩⟩⟩⟩
 .simp only[dH]at g;refine⟨⟨by omega,by omega⟩,λd hd=>⟨(hT d (ig hd)).1,⟨by omega,by omega⟩,by omega,λe he=>⟨ak.2 (by omega),k+1,by omega,⟨rfl,trivial⟩,?_,by omega⟩⟩⟩
  have hd:th[(k:Int).toNat]?=some d:=hd;rw[hd]at he;have e1:d=e:=Ia he;subst e1;have:th.set (k:Int).toNat d=th:=st hd;exact rG (λz=>[_,_,_,_,_,_,_,g0 (ay.row 56 dX z)]) this
 .simp only[dH]at g;refine⟨⟨by omega,by omega⟩,λd hd=>⟨hb d (ig hd),⟨by omega,by omega⟩,by omega,λe he=>⟨ak.2 (by omega),k+1,by omega,⟨rfl,trivial⟩,?_,by omega⟩⟩⟩
  have hd:bf[(k:Int).toNat]?=some d:=hd;rw[hd]at he;have e1:d=e:=Ia he;subst e1;have:bf.set (k:Int).toNat d=bf:=st hd;exact rG (λz=>[_,_,_,_,_,_,_,_,g0 (ay.row 65 CW z)]) this
 .exact⟨rfl,rfl⟩
theorem agk:aT aS.gd 23 abo:=
 dQ (cx:=aS) (n:=69) (cl:=[(49,BF),(58,vP),(59,abn)]) (rc:=[.hd 56 dX shR]) au ⟨ru,CJ,agj,trivial⟩ Tryz.func23 λd hd=>by
  obtain⟨⟨th,⟨mv,mo,mq,mg,⟨⟩⟩,bf,⟨⟩⟩,⟨⟩⟩:=d;exact aI (anZ th mv mo mq mg bf) (als th mv mo mq mg bf hd) (by kernel_rfl)
abbrev abp:CT:={ ps:=[dX,dX],pre:=λd=>d.1.2.2.2.2.2.2.2.2.2.1.length<=1000000,res:=λd=>([],vB (nC d.1 d.2.1)) }
theorem alu(id fn pc:Int) (rg:List Int) (st ch ph su fa:Int) (he:List Int) (id2 fn2 pc2:Int) (rg2:List Int) (st2 ch2 ph2 su2 fa2:Int) (he2:List Int) (aF:abp.pre ((id,fn,pc,rg,st,ch,ph,su,fa,he,()),(id2,fn2,pc2,rg2,st2,ch2,ph2,su2,fa2,he2,()),())):
 let z1:=nC (id,fn,pc,rg,st,ch,ph,su,fa,he,()) (id2,fn2,pc2,rg2,st2,ch2,ph2,su2,fa2,he2,());br (!decide (id=id2) || !decide (fn=fn2) || !decide (pc=pc2) || !decide (rg=rg2) || !decide (st=st2) || !decide (ch=ch2)) (qB z1 false) (((decide (ph=ph2) && decide (su=su2) && decide (fa=fa2))=true->he.length<=1000000)/\qB z1 (decide (ph=ph2) && decide (su=su2) && decide (fa=fa2) && decide (he=he2))):=by
 conv=>zeta
 have hp:he.length<=1000000:=aF;refine ah.2 ⟨λh=>⟨rfl,?_⟩,λh=>⟨λ_=>hp,jC ?_⟩⟩
 .rw[oh];intro q;simp only[Ie]at q;simp[q]at h
 .rw[Fz,nU];simp only[lX,wR,dH]at h;simp only[Ie,bV,dH,h,true_and];constructor
  .rintro⟨h1,h2,h3,h4,_⟩;exact⟨⟨⟨h1,h2⟩,h3⟩,h4⟩
  .rintro⟨⟨⟨h1,h2⟩,h3⟩,h4⟩;exact⟨h1,h2,h3,h4,trivial⟩
theorem agl:aT aS.gd 62 abp:=
 dQ (cx:=aS) (n:=71) (cl:=[(127,uP)]) (rc:=[]) au ⟨Fg,trivial⟩ Tryz.func62 λd hd=>by
  obtain⟨⟨id,fn,pc,rg,st,ch,ph,su,fa,he,⟨⟩⟩,⟨id2,fn2,pc2,rg2,st2,ch2,ph2,su2,fa2,he2,⟨⟩⟩,⟨⟩⟩:=d;exact aI (λ_=>none) (alu id fn pc rg st ch ph su fa he id2 fn2 pc2 rg2 st2 ch2 ph2 su2 fa2 he2 hd) (by kernel_rfl)
abbrev abq:CT:={ ps:=[.sl dX,.sl dX],pre:=λd=>d.1.length<=1000000/\∀q∈d.1,q.2.2.2.2.2.2.2.2.2.1.length<=1000000,res:=λd=>([],vB (nC d.1 d.2.1)) }
abbrev an3(l m:List TD):Nat->Option (St->jq):=λk=>match k with
 | 4=>some λ_=>.inv { α:=Nat,slots:=λk=>[(17,.c (.v (.int .i64 k)))],res:=λk=>[],inv:=λk=>k<=(l).length/\∀j < k,l[j]?=m[j]?,meas:=λk=>(l).length - k }
 | _=>none
theorem alv(l m:List TD) (aF:abq.pre (l,m,())):
 let z1:=λ(x:Nat)=>(x<=l.length/\∀(j:Nat),j < x->l[j]?=m[j]?);br (!decide ((l.length:Int)=(m.length:Int))) (qB (nC l m) false) ((∃x,(z1 x)/\(cI 0=cI (x:Int)/\True)/\([]:List dJ)=[])/\∀(x:Nat),(z1 x)->br (decide ((x:Int) < (l.length:Int))) ((0<=(x:Int)/\(x:Int) < (l.length:Int))/\∀(d:TD),l[(x:Int).toNat]?=some d->(0<=(x:Int)/\(x:Int) < (m.length:Int))/\∀(dI:TD),m[(x:Int).toNat]?=some dI->List.length d.snd.snd.snd.snd.snd.snd.snd.snd.snd.fst<=1000000/\br (!nC d dI) (qB (nC l m) false) (iR ((x:Int)+(1:Int))/\∃x',(z1 x')/\(cI ((x:Int)+(1:Int))=cI (x':Int)/\True)/\([]:List dJ)=[]/\l.length - x' < l.length - x)) (qB (nC l m) true)):=by
 conv=>zeta
 delta dJ iR;obtain⟨hp,h6⟩:l.length<=1000000/\∀q∈l,q.2.2.2.2.2.2.2.2.2.1.length<=1000000:=aF;have fF:l≠m->qB (nC l m) false:=λq=>⟨rfl,by rw[oh q]⟩
 refine ah.2 ⟨λh=>fF λq=>?_,λh=>?_⟩
 .subst q;simp at h
 simp only[wR,dH]at h;refine⟨⟨0,⟨by omega,λj hj=>by omega⟩,⟨rfl,trivial⟩,rfl⟩,λk hk=>ah.2 ⟨λg=>?_,λg=>?_⟩⟩
 .simp only[dH]at g;refine⟨⟨by omega,by omega⟩,λd hd=>⟨⟨by omega,by omega⟩,λd1 hd1=>⟨h6 d (ig hd),ah.2 ⟨λg2=>fF λq=>?_,λg2=>⟨ak.2 (by omega),k+1,⟨by omega,λj hj=>?_⟩,⟨rfl,trivial⟩,rfl,by omega⟩⟩⟩⟩⟩
  .subst q;rw[hd]at hd1;cases hd1;rw[kK rfl]at g2;cases g2
  .by_cases gQ:j=k
   .subst gQ;have hd:l[j]?=some d:=hd;have hd1:m[j]?=some d1:=hd1;have g2:=nU.1 (show nC d d1=true by simpa using g2)
    rw[hd,hd1,g2]
   .exact hk.2 j (by omega)
 simp only[eH]at g;have e:l=m:=by
  apply H9;intro j
  by_cases hj:j < k
  .exact hk.2 j hj
  .rw[BH (by omega),BH (by omega)]
 exact⟨rfl,by rw[kK e]⟩
theorem abr:Jf Tryz.prog aS.gd 61 [.func (.func 62) #[] #[]] abq:=
 (nR (cx:=aS) (n:=32) (cl:=[(62,abp)]) (il:=Zl) (hl:=hlN) (ml:=mlN) (rc:=[]) (lits:=[]) (suf:=[.func (.func 62) #[] #[]]) (by kernel_rfl) au ⟨agl,trivial⟩ trivial trivial trivial Tryz.func61 (by kernel_rfl) (by kernel_rfl) rfl (by kernel_rfl) (by kernel_rfl) (by simp) λd hd=>by
  obtain⟨l,m,⟨⟩⟩:=d;exact aI (an3 l m) (alv l m hd) (by kernel_rfl))
abbrev abt:CT:={ ps:=[.sl Vw,.sl Vw],pre:=λd=>d.1.length<=1000000,res:=λd=>([],vB (nC d.1 d.2.1)) }
abbrev alx(l m:List (Int×Int×Unit)):Nat->Option (St->jq):=λk=>match k with
 | 4=>some λ_=>.inv { α:=Nat,slots:=λk=>[(13,.c (.v (.int .i64 k)))],res:=λk=>[],inv:=λk=>k<=(l).length/\∀j < k,l[j]?=m[j]?,meas:=λk=>(l).length - k }
 | _=>none
theorem agm(l m:List (Int×Int×Unit)) (aF:abt.pre (l,m,())):
 let z1:=λ(x:Nat)=>(x<=l.length/\∀(j:Nat),j < x->l[j]?=m[j]?);br (!decide ((l.length:Int)=(m.length:Int))) (qB (nC l m) false) ((∃x,(z1 x)/\(cI 0=cI (x:Int)/\True)/\([]:List dJ)=[])/\∀(x:Nat),(z1 x)->br (decide ((x:Int) < (l.length:Int))) ((0<=(x:Int)/\(x:Int) < (l.length:Int))/\∀(d:Int×(I6.pair Sh.unit).den),l[(x:Int).toNat]?=some d->(0<=(x:Int)/\(x:Int) < (m.length:Int))/\∀(dI:Int×(I6.pair Sh.unit).den),m[(x:Int).toNat]?=some dI->br (!(true && d.fst == dI.fst && d.snd.fst == dI.snd.fst)) (qB (nC l m) false) (iR ((x:Int)+(1:Int))/\∃x',(z1 x')/\(cI ((x:Int)+(1:Int))=cI (x':Int)/\True)/\([]:List dJ)=[]/\l.length - x' < l.length - x)) (qB (nC l m) true)):=by
 conv=>zeta
 delta dJ iR;have hp:l.length<=1000000:=aF;have fF:l≠m->qB (nC l m) false:=λq=>⟨rfl,by rw[oh q]⟩
 refine ah.2 ⟨λh=>fF λq=>?_,λh=>?_⟩
 .subst q;simp at h
 simp only[wR,dH]at h;refine⟨⟨0,⟨by omega,λj hj=>by omega⟩,⟨rfl,trivial⟩,rfl⟩,λk hk=>ah.2 ⟨λg=>?_,λg=>?_⟩⟩
 .simp only[dH]at g;refine⟨⟨by omega,by omega⟩,λd hd=>⟨⟨by omega,by omega⟩,λd1 hd1=>ah.2 ⟨λg2=>fF λq=>?_,λg2=>⟨ak.2 (by omega),k+1,⟨by omega,λj hj=>?_⟩,⟨rfl,trivial⟩,rfl,by omega⟩⟩⟩⟩
  .subst q;rw[hd]at hd1;cases hd1;simp at g2
  .by_cases gQ:j=k
   .subst gQ;have hd:l[j]?=some d:=hd;have hd1:m[j]?=some d1:=hd1;have g2:d=d1:=by
     obtain⟨x,y,⟨⟩⟩:=d;obtain⟨x1,y1,⟨⟩⟩:=d1;simpa using g2
    rw[hd,hd1,g2]
   .exact hk.2 j (by omega)
 simp only[eH]at g;have e:l=m:=by
  apply H9;intro j
  by_cases hj:j < k
  .exact hk.2 j hj
  .rw[BH (by omega),BH (by omega)]
 exact⟨rfl,by rw[kK e]⟩
theorem abu:aT aS.gd 130 abt:=
 dQ (cx:=aS) (n:=26) (cl:=[]) (rc:=[]) au trivial Tryz.func130 λd hd=>by
  obtain⟨l,m,⟨⟩⟩:=d;exact aI (alx l m) (agm l m hd) (by kernel_rfl)
abbrev abv:CT:={ ps:=[CW,CW],pre:=λd=>d.1.2.2.1.length<=1000000,res:=λd=>([],vB (nC d.1 d.2.1)) }
theorem aly(b1 b2:Int) (bl:List (Int×Int×Unit)) (c1 c2:Int) (cl:List (Int×Int×Unit)) (aF:abv.pre ((b1,b2,bl,()),(c1,c2,cl,()),())):
 ((decide (b1=c1) && decide (b2=c2))=true->bl.length<=1000000)/\qB (nC (b1,b2,bl,()) (c1,c2,cl,())) (decide (b1=c1) && decide (b2=c2) && nC bl cl):=by
 have hp:bl.length<=1000000:=aF;refine⟨λ_=>hp,jC ?_⟩
 rw[Fz,nU];simp only[Ie,bV,dH,nU];constructor
 .rintro⟨h1,h2,h3,_⟩;exact⟨⟨h1,h2⟩,h3⟩
 .rintro⟨⟨h1,h2⟩,h3⟩;exact⟨h1,h2,h3,trivial⟩
theorem agn:aT aS.gd 64 abv:=
 dQ (cx:=aS) (n:=24) (cl:=[(130,abt)]) (rc:=[]) au ⟨abu,trivial⟩ Tryz.func64 λd hd=>by
  obtain⟨⟨b1,b2,bl,⟨⟩⟩,⟨c1,c2,cl,⟨⟩⟩,⟨⟩⟩:=d;exact aI (λ_=>none) (aly b1 b2 bl c1 c2 cl hd) (by kernel_rfl)
abbrev abw:CT:={ ps:=[.sl CW,.sl CW],pre:=λd=>Gg d.1,res:=λd=>([],vB (nC d.1 d.2.1)) }
abbrev an4(l m:List BD):Nat->Option (St->jq):=λk=>match k with
 | 4=>some λ_=>.inv { α:=Nat,slots:=λk=>[(17,.c (.v (.int .i64 k)))],res:=λk=>[],inv:=λk=>k<=(l).length/\∀j < k,l[j]?=m[j]?,meas:=λk=>(l).length - k }
 | _=>none
theorem alz(l m:List BD) (aF:abw.pre (l,m,())):
 let z1:=λ(x:Nat)=>(x<=l.length/\∀(j:Nat),j < x->l[j]?=m[j]?);br (!decide ((l.length:Int)=(m.length:Int))) (qB (nC l m) false) ((∃x,(z1 x)/\(cI 0=cI (x:Int)/\True)/\([]:List dJ)=[])/\∀(x:Nat),(z1 x)->br (decide ((x:Int) < (l.length:Int))) ((0<=(x:Int)/\(x:Int) < (l.length:Int))/\∀(d:BD),l[(x:Int).toNat]?=some d->(0<=(x:Int)/\(x:Int) < (m.length:Int))/\∀(dI:BD),m[(x:Int).toNat]?=some dI->List.length d.snd.snd.fst<=1000000/\br (!nC d dI) (qB (nC l m) false) (iR ((x:Int)+(1:Int))/\∃x',(z1 x')/\(cI ((x:Int)+(1:Int))=cI (x':Int)/\True)/\([]:List dJ)=[]/\l.length - x' < l.length - x)) (qB (nC l m) true)):=by
 conv=>zeta
 delta dJ iR;obtain⟨hp,h6⟩:l.length<=1000000/\∀q∈l,q.2.2.1.length<=1000000:=aF;have fF:l≠m->qB (nC l m) false:=λq=>⟨rfl,by rw[oh q]⟩
 refine ah.2 ⟨λh=>fF λq=>?_,λh=>?_⟩
 .subst q;simp at h
 simp only[wR,dH]at h;refine⟨⟨0,⟨by omega,λj hj=>by omega⟩,⟨rfl,trivial⟩,rfl⟩,λk hk=>ah.2 ⟨λg=>?_,λg=>?_⟩⟩
 .simp only[dH]at g;refine⟨⟨by omega,by omega⟩,λd hd=>⟨⟨by omega,by omega⟩,λd1 hd1=>⟨h6 d (ig hd),ah.2 ⟨λg2=>fF λq=>?_,λg2=>⟨ak.2 (by omega),k+1,⟨by omega,λj hj=>?_⟩,⟨rfl,trivial⟩,rfl,by omega⟩⟩⟩⟩⟩
  .subst q;rw[hd]at hd1;cases hd1;rw[kK rfl]at g2;cases g2
  .by_cases gQ:j=k
   .subst gQ;have hd:l[j]?=some d:=hd;have hd1:m[j]?=some d1:=hd1;have g2:=nU.1 (show nC d d1=true by simpa using g2)
    rw[hd,hd1,g2]
   .exact hk.2 j (by omega)
 simp only[eH]at g;have e:l=m:=by
  apply H9;intro j
  by_cases hj:j < k
  .exact hk.2 j hj
  .rw[BH (by omega),BH (by omega)]
 exact⟨rfl,by rw[kK e]⟩
theorem abx:Jf Tryz.prog aS.gd 63 [.func (.func 64) #[] #[]] abw:=
 (nR (cx:=aS) (n:=32) (cl:=[(64,abv)]) (il:=Zl) (hl:=hlN) (ml:=mlN) (rc:=[]) (lits:=[]) (suf:=[.func (.func 64) #[] #[]]) (by kernel_rfl) au ⟨agn,trivial⟩ trivial trivial trivial Tryz.func63 (by kernel_rfl) (by kernel_rfl) rfl (by kernel_rfl) (by kernel_rfl) (by simp) λd hd=>by
  obtain⟨l,m,⟨⟩⟩:=d;exact aI (an4 l m) (alz l m hd) (by kernel_rfl))
abbrev aby:CT:={ ps:=[J6,J6],pre:=λd=>abl d.1,res:=λd=>([],vB (nC d.1 d.2.1)) }
abbrev apF:List (Nat×Nat×CT):=[(61,62,abq),(63,64,abw)]
theorem alA(th:List TD) (mv mo:List Int) (mq:List (List Int)) (mg:List Int) (bf:List BD) (th2:List TD) (mv2 mo2:List Int) (mq2:List (List Int)) (mg2:List Int) (bf2:List BD) (aF:aby.pre ((th,(mv,mo,mq,mg,()),bf,()),(th2,(mv2,mo2,mq2,mg2,()),bf2,()),())):
 let z2:=(mv,mo,mq,mg,());let z1:=z2=(mv2,mo2,mq2,mg2,());bG z2/\(decide z1=true->th.length<=1000000/\∀(q:TD),q∈th->List.length q.snd.snd.snd.snd.snd.snd.snd.snd.snd.fst<=1000000)/\((decide z1 && nC th th2)=true->Gg bf)/\qB (nC (th,z2,bf,()) (th2,(mv2,mo2,mq2,mg2,()),bf2,())) (decide z1 && nC th th2 && nC bf bf2):=by
 conv=>zeta
 obtain⟨⟨hl,hT⟩,hM,hB⟩:iH th/\bG (mv,mo,mq,mg,())/\Gg bf:=aF;refine⟨hM,λ_=>⟨hl,λq hq=>(hT q hq).1⟩,λ_=>hB,jC ?_⟩
 rw[Fz,nU];simp only[bV,dH,nU];constructor
 .intro h;have h:=Prod.mk.inj h;have h2:=Prod.mk.inj h.2;have h3:=Prod.mk.inj h2.2;exact⟨⟨h2.1,h.1⟩,h3.1⟩
 .rintro⟨⟨h1,h2⟩,h3⟩;rw[h1,h2,h3]
theorem agp:aT aS.gd 24 aby:=
 (nR (cx:=aS) (n:=24) (cl:=[(60,P5)]) (il:=Zl) (hl:=apF) (ml:=mlN) (rc:=[]) (lits:=[]) (suf:=[]) (by kernel_rfl) au ⟨af6,trivial⟩ trivial ⟨abr,abx,trivial⟩ trivial Tryz.func24 (by kernel_rfl) (by kernel_rfl) rfl (by kernel_rfl) (by kernel_rfl) (by simp) λd hd=>by
  obtain⟨⟨th,⟨mv,mo,mq,mg,⟨⟩⟩,bf,⟨⟩⟩,⟨th2,⟨mv2,mo2,mq2,mg2,⟨⟩⟩,bf2,⟨⟩⟩,⟨⟩⟩:=d;exact aI (λ_=>none) (alA th mv mo mq mg bf th2 mv2 mo2 mq2 mg2 bf2 hd) (by kernel_rfl)).met
def uU(m:MD):Bool:=decide (m.1.length<=20) && decide (m.2.1.length<=20) && decide (m.2.2.1.length<=20) && decide (m.2.2.2.1.length<=60) && m.2.2.1.all (λq=>decide (q.length<=60))
theorem vW(h:uU m=true):bG m:=by
 obtain⟨vs,os,qs,sg,⟨⟩⟩:=m;unfold uU at h;simp only[bV,Nz,dH]at h;obtain⟨⟨⟨⟨h1,h2⟩,h3⟩,h4⟩,h5⟩:=h;refine⟨by show vs.length<=1000;omega,by show os.length<=1000;omega,by show qs.length<=1000;omega,by show sg.length<=1000;omega,λq hq=>by have:=h5 q hq;omega,?_⟩
 have key:∀l:List (List Int),(∀q∈l,q.length<=60)->l.flatten.length<=60 * l.length:=by
  intro l
  induction l with
  | nil=>intro _;simp
  | cons a l ih=>
    intro hl;have:=ih λq hq=>hl q (by simp[hq])
    have:=hl a (by simp)
    simp only[NM,ku,wS];omega
 have:=key qs h5;show qs.flatten.length<=100000;omega
theorem Np:∀(qs:List (List Int)) (k:Nat) (d:List Int) (x:Int),qs[k]?=some d->((qs.set k (d++[x])).flatten).Perm (x :: qs.flatten)
 | [],k,d,x,h=>by simp at h
 | q :: qs,0,d,x,h=>by
   simp only[A99,A94]at h;subst h;simp only[VW,NM,zW,ahK];exact List.perm_middle
 | q :: qs,k+1,d,x,h=>by
   rw[aco]at h;have ih:=Np qs k d x h;simp only[ahN,NM];exact(ih.append_left q).trans List.perm_middle
theorem H8:oV m id=true↔id∈m.2.2.2.1++m.2.2.1.flatten:=by
 unfold oV;rw[wz,J9,oM,Fv,List.mem_flatten];constructor
 .rintro(⟨q,h1,h2⟩ | h)
  .exact .inr ⟨q,h1,oM.1 h2⟩
  .exact .inl h
 .rintro(h | ⟨q,h1,h2⟩)
  .exact .inr h
  .exact .inl ⟨q,h1,oM.2 h2⟩
theorem abz(hB:dV (vs,os,qs,sg,())=true){d:List Int} (hk:qs[k]?=some d) (h0:0<=id):
 dV (vs,os,qs.set k (d++[id]),sg,()) = !oV (vs,os,qs,sg,()) id:=by
 obtain⟨q1,q2,q3,q4,q5,q6,q7,q8⟩:vs.length<=8/\os.length<=4/\qs.length<=4/\SS sg/\(∀v∈vs,bU v=true)/\(∀o∈os,-1<=o)/\(∀x∈sg++qs.flatten,0<=x)/\(sg++qs.flatten).Nodup:=fH.1 hB;have hp:(sg++(qs.set k (d++[id])).flatten).Perm (id :: (sg++qs.flatten)):=((Np qs k d id hk).append_left sg).trans List.perm_middle;rw[Fz,fH,Dc,VH];constructor
 .intro h w;obtain⟨_,_,_,_,_,_,_,p8⟩:vs.length<=8/\os.length<=4/\(qs.set k (d++[id])).length<=4/\SS sg/\(∀v∈vs,bU v=true)/\(∀o∈os,-1<=o)/\(∀x∈sg++(qs.set k (d++[id])).flatten,0<=x)/\(sg++(qs.set k (d++[id])).flatten).Nodup:=h;exact(TW.1 (hp.nodup_iff.1 p8)).1 (H8.1 w)
 .intro w;refine(⟨q1,q2,by rw[wU];exact q3,q4,q5,q6,λx hx=>?_,hp.nodup_iff.2 (TW.2 ⟨λhm=>w (H8.2 hm),q8⟩)⟩:Hw (vs,os,qs.set k (d++[id]),sg,()))
  rcases mY.1 (hp.mem_iff.1 hx) with rfl | hx
  .exact h0
  .exact q7 x hx
theorem uV(h:uU (vs,os,qs,sg,())=true):vs.length<=20/\os.length<=20/\qs.length<=20/\sg.length<=60/\∀q∈qs,q.length<=60:=by
 unfold uU at h;simp only[bV,Nz,dH]at h;obtain⟨⟨⟨⟨h1,h2⟩,h3⟩,h4⟩,h5⟩:=h;exact⟨h1,h2,h3,h4,h5⟩
theorem abA(h1:vs.length<=20) (h2:os.length<=20) (h3:qs.length<=20) (h4:sg.length<=200) (h5:∀q∈qs,q.length<=61):bG (vs,os,qs,sg,()):=by
 have key:∀l:List (List Int),(∀q∈l,q.length<=61)->l.flatten.length<=61 * l.length:=by
  intro l
  induction l with
  | nil=>intro _;simp
  | cons a l ih=>
    intro hl;have:=ih λq hq=>hl q (by simp[hq])
    have:=hl a (by simp)
    simp only[NM,ku,wS];omega
 have h6:=key qs h5;exact⟨by show vs.length<=1000;omega,by show os.length<=1000;omega,by show qs.length<=1000;omega,by show sg.length<=1000;omega,λq hq=>by have:=h5 q hq;omega,by show qs.flatten.length<=100000;omega⟩
theorem Tq{s:List Int} (h:uU (vs,os,qs,sg,())=true){q:List Int} (hq:q.length<=61) (hs:s.length<=200):bG (vs,os,qs.set k q,s,()):=by
 obtain⟨h1,h2,h3,h4,h5⟩:=uV h;refine abA h1 h2 (by rw[wU];exact h3) hs λx hx=>?_
 rcases JW hx with hx | rfl
 .have:=h5 x hx;omega
 .exact hq
theorem abB(h:uU (vs,os,qs,sg,())=true) (k:Nat):(qs[k]?.getD []).length<=60:=by
 cases hk:qs[k]? with
 | none=>simp
 | some d=>exact(uV h).2.2.2.2 d (ig hk)
theorem Fq:bG zM:=⟨by decide,by decide,by decide,by decide,by decide,by decide⟩
theorem agq{c:Int} (h:uU m=true):bG (xW m c id).1:=by
 obtain⟨vs,os,qs,sg,⟨⟩⟩:=m;have h4:=(uV h).2.2.2.1;have ha:=abB h c.toNat;unfold xW;split
 .split
  .exact Fq
  .split
   .exact Fq
   .exact Tq h (by simp only[ku,wS,J3];omega) (by omega)
 .exact Fq
theorem alB{c n:Int} (h:uU m=true):bG (uQ m c n).1:=by
 obtain⟨vs,os,qs,sg,⟨⟩⟩:=m;have h4:=(uV h).2.2.2.1;have ha:=abB h c.toNat;unfold uQ;split
 .refine Tq h (by dsimp only;rw[yc];omega) ?_
  refine o8 (AX _ _) ?_;dsimp only;rw[kV];omega
 .exact Fq
theorem abC(h:uU m=true):bG (oW m id).1:=by
 obtain⟨vs,os,qs,sg,⟨⟩⟩:=m;obtain⟨h1,h2,h3,h4,h5⟩:=uV h;unfold oW;split
 .exact Fq
 .split
  .exact Fq
  .refine abA h1 h2 h3 ?_ λq hq=>by have:=h5 q hq;omega
   refine o8 (TR _ _) (o8 (zJ sg []) ?_);simp;omega
end
end Go.Proofs.YtjhenjhcbcalpaaGreatDoor
