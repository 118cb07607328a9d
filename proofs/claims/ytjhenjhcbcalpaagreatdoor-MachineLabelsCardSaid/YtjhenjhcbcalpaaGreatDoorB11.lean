/- Part 11 of the proof. Conditions: the rows'. -/
import Derived.Test.YtjhenjhcbcalpaaGreatDoorB10
set_option linter.unusedSimpArgs false
set_option linter.unusedVariables false
set_option maxRecDepth 1000000
set_option maxHeartbeats 8000000
namespace Go.Proofs.YtjhenjhcbcalpaaGreatDoor
open Go Go.jf
noncomputable section
variable {qs:List (List Int)}{k:Nat}{vs os sg:List Int}{ms cs:List ByteArray}{fs:List FD}{ts:List SD}{bound id:Int}{l:List TD}{m:MD}{p:TD->Bool}
def jA(p:PD) (m:MD):Bool:=decide ((aG p.1 p.2.1 p.2.2.1 p.2.2.2.1 p.2.2.2.2.1).1=0) && dW m && decide (m.1.length=p.1.length) && decide (m.2.1.length=p.2.1.length) && decide (m.2.2.1.length=p.2.2.1.length)
theorem af7(vs:List VD) (ms cs:List ByteArray) (fs:List FD) (ts:List SD) (aF:ZQ.pre ((vs,ms,cs,fs,ts,()),())):
 let z1:=decide ((aG vs ms cs fs ts).fst=0);(vs.length<=1000000/\ms.length<=1000000/\cs.length<=1000000/\fs.length<=1000000/\ts.length<=1000000/\(∀(x:ByteArray×(lJ.sl.pair Sh.unit).den),x∈fs->List.length x.snd.fst<=1000000)/\(dN fs).length<=1000000)/\qB z1 z1:=by
 conv=>zeta
 delta qB I6;exact⟨aF,rfl,rfl⟩
theorem abg:aU aT.gd 156 ZQ:=
 jG (cx:=aT) (n:=14) (cl:=[(74,Hr)]) au ⟨CW,trivial⟩ Tryz.func156 λd hd=>by
  obtain⟨⟨vs,ms,cs,fs,ts,⟨⟩⟩,⟨⟩⟩:=d;exact aJ (λ_=>none) (af7 vs ms cs fs ts hd) (by kernel_rfl)
theorem alb(vs:List VD) (ms cs:List ByteArray) (fs:List FD) (ts:List SD) (aF:JB.pre ((vs,ms,cs,fs,ts,()),())):
 let z1:=decide ((aG vs ms cs fs ts).fst=0);(vs.length<=1000000/\ms.length<=1000000/\cs.length<=1000000/\fs.length<=1000000/\ts.length<=1000000/\(∀(x:ByteArray×(lJ.sl.pair Sh.unit).den),x∈fs->List.length x.snd.fst<=1000000)/\(dN fs).length<=1000000)/\qB z1 z1:=by
 conv=>zeta
 delta qB I6;exact⟨aF,rfl,rfl⟩
theorem SH:aU aT.gd 67 JB:=
 jG (cx:=aT) (n:=14) (cl:=[(66,JA)]) au ⟨RF,trivial⟩ Tryz.func67 λd hd=>by
  obtain⟨⟨vs,ms,cs,fs,ts,⟨⟩⟩,⟨⟩⟩:=d;exact aJ (λ_=>none) (alb vs ms cs fs ts hd) (by kernel_rfl)
abbrev Vy:CT:={ ps:=[o9,wu],pre:=λd=>bnd (d.1,())/\bI d.2.1,res:=λd=>([],vB (jA d.1 d.2.1)) }
theorem alc(vs:List VD) (ms cs:List ByteArray) (fs:List FD) (ts:List SD) (ws os:List Int) (qs:List (List Int)) (sg:List Int) (aF:Vy.pre ((vs,ms,cs,fs,ts,()),(ws,os,qs,sg,()),())):
 let z1:=(aG vs ms cs fs ts).fst=0;let z2:=(ws,os,qs,sg,());(vs.length<=1000000/\ms.length<=1000000/\cs.length<=1000000/\fs.length<=1000000/\ts.length<=1000000/\(∀(x:ByteArray×(lJ.sl.pair Sh.unit).den),x∈fs->List.length x.snd.fst<=1000000)/\(dN fs).length<=1000000)/\(decide z1=true->bI z2)/\qB (jA (vs,ms,cs,fs,ts,()) z2) (decide z1 && dW z2 && decide ((ws.length:Int)=(vs.length:Int)) && decide ((os.length:Int)=(ms.length:Int)) && decide ((qs.length:Int)=(cs.length:Int))):=by
 conv=>zeta
 delta qB I6;obtain⟨h1,h2⟩:=aF;refine⟨h1,λ_=>h2,rfl,?_⟩
 unfold jA;simp only[Int.ofNat_inj]
theorem af8:aU aT.gd 84 Vy:=
 dQ (cx:=aT) (n:=38) (cl:=[(156,ZQ),(157,aaX)]) (rc:=[]) au ⟨abg,Fp,trivial⟩ Tryz.func84 λd hd=>by
  obtain⟨⟨vs,ms,cs,fs,ts,⟨⟩⟩,⟨ws,os,qs,sg,⟨⟩⟩,⟨⟩⟩:=d;exact aJ (λ_=>none) (alc vs ms cs fs ts ws os qs sg hd) (by kernel_rfl)
theorem ald(vs:List VD) (ms cs:List ByteArray) (fs:List FD) (ts:List SD) (ws os:List Int) (qs:List (List Int)) (sg:List Int) (aF:Vy.pre ((vs,ms,cs,fs,ts,()),(ws,os,qs,sg,()),())):
 let z1:=(aG vs ms cs fs ts).fst=0;let z2:=(ws,os,qs,sg,());(vs.length<=1000000/\ms.length<=1000000/\cs.length<=1000000/\fs.length<=1000000/\ts.length<=1000000/\(∀(x:ByteArray×(lJ.sl.pair Sh.unit).den),x∈fs->List.length x.snd.fst<=1000000)/\(dN fs).length<=1000000)/\(decide z1=true->bI z2)/\qB (jA (vs,ms,cs,fs,ts,()) z2) (decide z1 && dW z2 && decide ((ws.length:Int)=(vs.length:Int)) && decide ((os.length:Int)=(ms.length:Int)) && decide ((qs.length:Int)=(cs.length:Int))):=by
 conv=>zeta
 delta qB I6;obtain⟨h1,h2⟩:=aF;refine⟨h1,λ_=>h2,rfl,?_⟩
 unfold jA;simp only[Int.ofNat_inj]
theorem af9:aU aT.gd 69 Vy:=
 dQ (cx:=aT) (n:=38) (cl:=[(67,JB),(137,afP)]) (rc:=[]) au ⟨SH,Nj,trivial⟩ Tryz.func69 λd hd=>by
  obtain⟨⟨vs,ms,cs,fs,ts,⟨⟩⟩,⟨ws,os,qs,sg,⟨⟩⟩,⟨⟩⟩:=d;exact aJ (λ_=>none) (ald vs ms cs fs ts ws os qs sg hd) (by kernel_rfl)
abbrev ale(l m:List Int):Nat->Option (St->jv):=λk=>match k with
 | 4=>some λ_=>.inv { α:=Nat,slots:=λk=>[(13,.c (.v (.int .i64 k)))],res:=λk=>[],inv:=λk=>k<=(l).length/\∀j < k,l[j]?=m[j]?,meas:=λk=>(l).length - k }
 | _=>none
theorem aga(l m:List Int) (aF:uQ.pre (l,m,())):
 let z2:=qB (decide (l=m)) false;let z1:=λ(x:Nat)=>(x<=l.length/\∀(j:Nat),j < x->l[j]?=m[j]?);br (!decide ((l.length:Int)=(m.length:Int))) z2 ((∃x,(z1 x)/\(cI 0=cI (x:Int)/\True)/\([]:List dJ)=[])/\∀(x:Nat),(z1 x)->br (decide ((x:Int) < (l.length:Int))) ((0<=(x:Int)/\(x:Int) < (l.length:Int))/\∀(d:Int),l[(x:Int).toNat]?=some d->(0<=(x:Int)/\(x:Int) < (m.length:Int))/\∀(dI:Int),m[(x:Int).toNat]?=some dI->br (!decide (d=dI)) z2 (iR ((x:Int)+(1:Int))/\∃x',(z1 x')/\(cI ((x:Int)+(1:Int))=cI (x':Int)/\True)/\([]:List dJ)=[]/\l.length - x' < l.length - x)) (qB (decide (l=m)) true)):=by
 conv=>zeta
 delta dJ cI qB iR;have hp:l.length<=1000000:=aF;have fF:l≠m->([]:List Go.jf.ay)=[]/\aZ.one (SV.c (SC.v (Value.bool (decide (l=m)))))=aZ.one (SV.c (SC.v (Value.bool false))):=λq=>⟨rfl,by rw[yw q]⟩
 refine ah.2 ⟨λh=>fF λq=>?_,λh=>?_⟩
 .subst q;simp at h
 simp only[wU,dH]at h;refine⟨⟨0,⟨by omega,λj hj=>by omega⟩,⟨rfl,trivial⟩,rfl⟩,λk hk=>ah.2 ⟨λg=>?_,λg=>?_⟩⟩
 .simp only[dH]at g;refine⟨⟨by omega,by omega⟩,λd hd=>⟨⟨by omega,by omega⟩,λd1 hd1=>ah.2 ⟨λg2=>fF λq=>?_,λg2=>⟨ak.2 (by omega),k+1,⟨by omega,λj hj=>?_⟩,⟨rfl,trivial⟩,rfl,by omega⟩⟩⟩⟩
  .subst q;rw[hd]at hd1;cases hd1;simp at g2
  .by_cases gU:j=k
   .subst gU;have hd:l[j]?=some d:=hd;have hd1:m[j]?=some d1:=hd1;simp at g2;rw[hd,hd1,g2]
   .exact hk.2 j (by omega)
 simp only[eX]at g;have e:l=m:=by
  apply Ie;intro j
  by_cases hj:j < k
  .exact hk.2 j hj
  .rw[BL (by omega),BL (by omega)]
 exact⟨rfl,by rw[wX e]⟩
theorem Fq:aU aT.gd 127 uQ:=
 dQ (cx:=aT) (n:=26) (cl:=[]) (rc:=[]) au trivial Tryz.func127 λd hd=>by
  obtain⟨l,m,⟨⟩⟩:=d;exact aJ (ale l m) (aga l m hd) (by kernel_rfl)
theorem agb(l m:List Int) (aF:uQ.pre (l,m,())):
 l.length<=1000000/\qB (decide (l=m)) (decide (l=m)):=by
 delta qB;exact⟨aF,rfl,rfl⟩
theorem abh:aU aT.gd 129 uQ:=
 dQ (cx:=aT) (n:=8) (cl:=[(127,uQ)]) (rc:=[]) au ⟨Fq,trivial⟩ Tryz.func129 λd hd=>by
  obtain⟨l,m,⟨⟩⟩:=d;exact aJ (λ_=>none) (agb l m hd) (by kernel_rfl)
abbrev abj:CT:={ ps:=[.sl (.sl (.int .i64)),.sl (.sl (.int .i64))],pre:=λd=>d.1.length<=1000000/\∀q∈d.1,q.length<=1000000,res:=λd=>([],vB (decide (d.1=d.2.1))) }
abbrev alf(l m:List (List Int)):Nat->Option (St->jv):=λk=>match k with
 | 4=>some λ_=>.inv { α:=Nat,slots:=λk=>[(17,.c (.v (.int .i64 k)))],res:=λk=>[],inv:=λk=>k<=(l).length/\∀j < k,l[j]?=m[j]?,meas:=λk=>(l).length - k }
 | _=>none
theorem agc(l m:List (List Int)) (aF:abj.pre (l,m,())):
 let z2:=qB (decide (l=m)) false;let z1:=λ(x:Nat)=>(x<=l.length/\∀(j:Nat),j < x->l[j]?=m[j]?);br (!decide ((l.length:Int)=(m.length:Int))) z2 ((∃x,(z1 x)/\(cI 0=cI (x:Int)/\True)/\([]:List dJ)=[])/\∀(x:Nat),(z1 x)->br (decide ((x:Int) < (l.length:Int))) ((0<=(x:Int)/\(x:Int) < (l.length:Int))/\∀(d:List Int),l[(x:Int).toNat]?=some d->(0<=(x:Int)/\(x:Int) < (m.length:Int))/\∀(dI:List Int),m[(x:Int).toNat]?=some dI->d.length<=1000000/\br (!decide (d=dI)) z2 (iR ((x:Int)+(1:Int))/\∃x',(z1 x')/\(cI ((x:Int)+(1:Int))=cI (x':Int)/\True)/\([]:List dJ)=[]/\l.length - x' < l.length - x)) (qB (decide (l=m)) true)):=by
 conv=>zeta
 delta dJ cI qB iR;obtain⟨hp,h6⟩:l.length<=1000000/\∀q∈l,q.length<=1000000:=aF;have fF:l≠m->([]:List Go.jf.ay)=[]/\aZ.one (SV.c (SC.v (Value.bool (decide (l=m)))))=aZ.one (SV.c (SC.v (Value.bool false))):=λq=>⟨rfl,by rw[yw q]⟩
 refine ah.2 ⟨λh=>fF λq=>?_,λh=>?_⟩
 .subst q;simp at h
 simp only[wU,dH]at h;refine⟨⟨0,⟨by omega,λj hj=>by omega⟩,⟨rfl,trivial⟩,rfl⟩,λk hk=>ah.2 ⟨λg=>?_,λg=>?_⟩⟩
 .simp only[dH]at g;refine⟨⟨by omega,by omega⟩,λd hd=>⟨⟨by omega,by omega⟩,λd1 hd1=>⟨h6 d (iy hd),ah.2 ⟨λg2=>fF λq=>?_,λg2=>⟨ak.2 (by omega),k+1,⟨by omega,λj hj=>?_⟩,⟨rfl,trivial⟩,rfl,by omega⟩⟩⟩⟩⟩
  .subst q;rw[hd]at hd1;cases hd1;simp at g2
  .by_cases gU:j=k
   .subst gU;have hd:l[j]?=some d:=hd;have hd1:m[j]?=some d1:=hd1;simp at g2;rw[hd,hd1,g2]
   .exact hk.2 j (by omega)
 simp only[eX]at g;have e:l=m:=by
  apply Ie;intro j
  by_cases hj:j < k
  .exact hk.2 j hj
  .rw[BL (by omega),BL (by omega)]
 exact⟨rfl,by rw[wX e]⟩
theorem Vz:Jl Tryz.prog aT.gd 128 [.func (.func 129) #[] #[]] abj:=
 (nT (cx:=aT) (n:=32) (cl:=[(129,uQ)]) (il:=Zq) (hl:=hlN) (ml:=mlN) (rc:=[]) (lits:=[]) (suf:=[.func (.func 129) #[] #[]]) (by kernel_rfl) au ⟨abh,trivial⟩ trivial trivial trivial Tryz.func128 (by kernel_rfl) (by kernel_rfl) rfl (by kernel_rfl) (by kernel_rfl) (by simp) λd hd=>by
  obtain⟨l,m,⟨⟩⟩:=d;exact aJ (alf l m) (agc l m hd) (by kernel_rfl))
abbrev apV:List (Nat×Nat×CT):=[(128,129,abj)]
theorem alg(vs os:List Int) (qs:List (List Int)) (sg vs2 os2:List Int) (qs2:List (List Int)) (sg2:List Int) (aF:P8.pre ((vs,os,qs,sg,()),(vs2,os2,qs2,sg2,()),())):
 vs.length<=1000000/\(decide (vs=vs2)=true->os.length<=1000000)/\((decide (vs=vs2) && decide (os=os2))=true->sg.length<=1000000)/\((decide (vs=vs2) && decide (os=os2) && decide (sg=sg2))=true->qs.length<=1000000/\∀(q:List Int),q∈qs->q.length<=1000000)/\qB (decide ((vs,os,qs,sg,())=(vs2,os2,qs2,sg2,()))) (decide (vs=vs2) && decide (os=os2) && decide (sg=sg2) && decide (qs=qs2)):=by
 delta qB;obtain⟨b1,b2,b3,b4,b5,b6⟩:vs.length<=1000/\os.length<=1000/\qs.length<=1000/\sg.length<=1000/\(∀q∈qs,q.length<=1000)/\qs.flatten.length<=100000:=aF;have e:decide ((vs,os,qs,sg,())=(vs2,os2,qs2,sg2,()))=(decide (vs=vs2) && decide (os=os2) && decide (sg=sg2) && decide (qs=qs2)):=by
  rw[FK];simp only[dH,bY,Ij,and_true];constructor
  .rintro⟨h1,h2,h3,h4⟩;exact⟨⟨⟨h1,h2⟩,h4⟩,h3⟩
  .rintro⟨⟨⟨h1,h2⟩,h4⟩,h3⟩;exact⟨h1,h2,h3,h4⟩
 refine⟨by omega,λ_=>by omega,λ_=>by omega,λ_=>⟨by omega,λq hq=>by have:=b5 q hq;omega⟩,rfl,?_⟩
 rw[e]
theorem agd:aU aT.gd 60 P8:=
 (nT (cx:=aT) (n:=31) (cl:=[(127,uQ)]) (il:=Zq) (hl:=apV) (ml:=mlN) (rc:=[]) (lits:=[]) (suf:=[]) (by kernel_rfl) au ⟨Fq,trivial⟩ trivial ⟨Vz,trivial⟩ trivial Tryz.func60 (by kernel_rfl) (by kernel_rfl) rfl (by kernel_rfl) (by kernel_rfl) (by simp) λd hd=>by
  obtain⟨⟨vs,os,qs,sg,⟨⟩⟩,⟨vs2,os2,qs2,sg2,⟨⟩⟩,⟨⟩⟩:=d;exact aJ (λ_=>none) (alg vs os qs sg vs2 os2 qs2 sg2 hd) (by kernel_rfl)).met
theorem SI:∀(l sg:List Int),SS sg->SS (lM sg l)/\∀y,y∈lM sg l↔y∈sg\/y∈l
 | [],sg,h=>⟨h,λy=>by simp[lM]⟩
 | x :: l,sg,h=>by
   have ih:=SI l (bD (sg++[x])) (zo _);have e:lM sg (x :: l)=lM (bD (sg++[x])) l:=rfl;rw[e];refine⟨ih.1,λy=>?_⟩
   rw[ih.2 y,zq];simp[or_assoc]
def nK(qs:List (List Int)):Int:=qs.foldl (λa q=>dO a q.length) 0
theorem VA{d:List Int} (h:qs[k]?=some d):nK (qs.take (k+1))=dO (nK (qs.take k)) d.length:=by
 unfold nK;rw[NQ,h];simp
theorem SK:∀(qs:List (List Int)) (a:Int),a<=qs.foldl (λa q=>dO a (q.length:Int)) a/\∀q∈qs,(q.length:Int)<=qs.foldl (λa q=>dO a (q.length:Int)) a
 | [],a=>⟨Int.le_refl _,λq hq=>by cases hq⟩
 | x :: qs,a=>by
   have ih:=SK qs (dO a x.length);have h:a<=dO a x.length/\(x.length:Int)<=dO a x.length:=by unfold dO;split<;>omega
   refine⟨Int.le_trans h.1 ih.1,λq hq=>?_⟩
   rcases ni.1 hq with rfl | hq
   .exact Int.le_trans h.2 ih.1
   .exact ih.2 q hq
abbrev abk:CT:={ ps:=[wu,.int .i64],pre:=λd=>bI d.1,res:=λd=>([],.gV [.agg [.sl (.int .i64) ((uS d.1 d.2.1 (nK d.1.2.2.1)).1).1,.sl (.int .i64) ((uS d.1 d.2.1 (nK d.1.2.2.1)).1).2.1,.sl (.sl (.int .i64)) ((uS d.1 d.2.1 (nK d.1.2.2.1)).1).2.2.1,.sl (.int .i64) ((uS d.1 d.2.1 (nK d.1.2.2.1)).1).2.2.2.1],.c (.v (.int .i64 ((uS d.1 d.2.1 (nK d.1.2.2.1)).2.1))),.c (.v (.int .i64 ((uS d.1 d.2.1 (nK d.1.2.2.1)).2.2)))]) }
abbrev ali(vs os:List Int) (qs:List (List Int)) (sg:List Int) (c:Int):Nat->Option (St->jv):=λk=>match k with
 | 3=>some λ_=>.inv { α:=Nat,slots:=λk=>[(13,.c (.v (.int .i64 k))),(7,.c (.v (.int .i64 (nK (qs.take k)))))],res:=λk=>[],inv:=λk=>k<=(qs).length,meas:=λk=>(qs).length - k }
 | _=>none
theorem agf(vs os:List Int) (qs:List (List Int)) (sg:List Int) (c:Int) (aF:abk.pre ((vs,os,qs,sg,()),c,())):
 let z4:=λ(x:Nat)=>nK (List.take x qs);let z1:=[g0 (ay.blk 34 [SC.sl I6 vs,SC.sl I6 os,SC.sl I6.sl qs,SC.sl I6 sg]),g0 (ay.blk 34 mW)];let z5:=(vs,os,qs,sg,());let z3:=uS z5 c (nK qs);let z2:=λ(x:Nat)=>uS z5 c (z4 x);(∃x,x<=qs.length/\(cI 0=cI (x:Int)/\cI 0=cI (z4 x)/\True)/\sm z1)/\∀(x:Nat),x<=qs.length->br (decide ((x:Int) < (qs.length:Int))) ((0<=(x:Int)/\(x:Int) < (qs.length:Int))/\∀(d:List Int),qs[(x:Int).toNat]?=some d->iR ((x:Int)+(1:Int))/\∃x',x'<=qs.length/\(cI ((x:Int)+(1:Int))=cI (x':Int)/\cI (dO (z4 x) (d.length:Int))=cI (z4 x')/\True)/\sm z1/\qs.length - x' < qs.length - x) ((bI z5/\0<=nK (List.take x qs))/\rT [SV.agg [SC.sl I6 z3.fst.fst,SC.sl I6 z3.fst.snd.fst,SC.sl I6.sl z3.fst.snd.snd.fst,SC.sl I6 z3.fst.snd.snd.snd.fst],cI (z3.snd.fst),cI (z3.snd.snd)] [SV.agg [SC.sl I6 ((z2 x).fst.fst,(z2 x).fst.snd.fst,(z2 x).fst.snd.snd.fst,(z2 x).fst.snd.snd.snd.fst,()).fst,SC.sl I6 ((z2 x).fst.snd.fst,(z2 x).fst.snd.snd.fst,(z2 x).fst.snd.snd.snd.fst,()).fst,SC.sl I6.sl ((z2 x).fst.snd.snd.fst,(z2 x).fst.snd.snd.snd.fst,()).fst,SC.sl I6 (z2 x).fst.snd.snd.snd.fst],cI ((z2 x).snd.fst),cI ((z2 x).snd.snd)]):=by
 conv=>zeta
 delta mW cI g0 rT sm I6 iR iN;have hb:=aF;obtain⟨b1,b2,b3,b4,b5,b6⟩:vs.length<=1000/\os.length<=1000/\qs.length<=1000/\sg.length<=1000/\(∀q∈qs,q.length<=1000)/\qs.flatten.length<=100000:=aF;refine⟨⟨0,by omega,⟨rfl,rfl,trivial⟩,rfl⟩,λk hk=>ah.2 ⟨λg=>?_,λg=>?_⟩⟩
 .simp only[dH]at g;refine⟨⟨by omega,by omega⟩,λd hd=>⟨ak.2 (by omega),k+1,by omega,⟨rfl,?_,trivial⟩,rfl,by omega⟩⟩
  have hd:qs[k]?=some d:=hd;rw[VA hd]
 simp only[eX]at g;rw[wB (i:=k) (by omega)]
 exact⟨⟨hb,(SK qs 0).1⟩,rfl,rfl⟩
theorem abl:aU aT.gd 106 abk:=
 dQ (cx:=aT) (n:=29) (cl:=[(166,SE)]) (rc:=[.data wu,.keep,.keep]) au ⟨Nr,trivial⟩ Tryz.func106 λd hd=>by
  obtain⟨⟨vs,os,qs,sg,⟨⟩⟩,c,⟨⟩⟩:=d;exact aJ (ali vs os qs sg c) (agf vs os qs sg c hd) (by kernel_rfl)
abbrev VB:Sh:=.pair (.int .i64) (.pair (.int .i64) .unit)
abbrev CZ:Sh:=.pair (.int .i64) (.pair (.int .i64) (.pair (.sl VB) .unit))
abbrev Kr:Sh:=.pair (.sl dX) (.pair wu (.pair (.sl CZ) .unit))
abbrev shE:Sh:=.pair (.int .i64) (.pair (.int .i64) (.pair (.int .i64) (.pair (.int .i64) (.pair (.int .i64) (.pair (.int .i64) (.pair (.int .i64) (.pair (.int .i64) (.pair (.int .i64) .unit))))))))
abbrev BD:=Int×Int×List (Int×Int×Unit)×Unit
abbrev ZD:=List TD×MD×List BD×Unit
abbrev ED:=Int×Int×Int×Int×Int×Int×Int×Int×Int×Unit
abbrev BK(e:ED):SV:=.agg [v6 e.1,v6 e.2.1,v6 e.2.2.1,v6 e.2.2.2.1,v6 e.2.2.2.2.1,v6 e.2.2.2.2.2.1,v6 e.2.2.2.2.2.2.1,v6 e.2.2.2.2.2.2.2.1,v6 e.2.2.2.2.2.2.2.2.1]
abbrev agI(i:ID):SV:=.agg [v6 i.1,v6 i.2.1,v6 i.2.2.1,v6 i.2.2.2.1,v6 i.2.2.2.2.1,v6 i.2.2.2.2.2.1,v6 i.2.2.2.2.2.2.1,v6 i.2.2.2.2.2.2.2.1]
abbrev NK(m:MD):SV:=.agg [.sl I6 m.1,.sl I6 m.2.1,.sl I6.sl m.2.2.1,.sl I6 m.2.2.2.1]
abbrev Ia(z:ZD):SV:=.agg [.sl dX z.1,.sl I6 z.2.1.1,.sl I6 z.2.1.2.1,.sl I6.sl z.2.1.2.2.1,.sl I6 z.2.1.2.2.2.1,.sl CZ z.2.2.1]
abbrev qE(a b:ED):Prop:=([]:List ay)=[]/\aZ.one (BK a)=aZ.one (BK b)
abbrev bP(vs:List VD) (ms cs:List ByteArray) (fs:List FD) (ts:List SD):ay:=.blk 27 [.sl ER vs,.sl .str ms,.sl .str cs,.sl BA fs,.sl lU ts]
abbrev bZ(th:List TD) (mv mo:List Int) (mq:List (List Int)) (mg:List Int) (bf:List BD):ay:=.blk 37 [.sl dX th,.sl I6 mv,.sl I6 mo,.sl I6.sl mq,.sl I6 mg,.sl CZ bf]
def tB(t:TD):Prop:=t.2.2.2.2.2.2.2.2.2.1.length<=1000000/\t.1<=9223372036854775807/\t.2.2.2.1.length=8
def iJ(l:List TD):Prop:=l.length<=1000000/\∀t∈l,tB t
def uT(l:List TD):Prop:=SS (l.map (·.1))
def VS(vs:List VD) (ms cs:List ByteArray) (fs:List FD) (ts:List SD) (bound:Int) (l:List TD) (m:MD) (bf:List BD):Prop:=
 jA (vs,ms,cs,fs,ts,()) m=true/\bf=[]/\(∀t∈l,dG (aG vs ms cs fs ts).1 bound=0/\uh ms fs bound t)/\uT l
open Classical in
def vsB(vs:List VD) (ms cs:List ByteArray) (fs:List FD) (ts:List SD) (bound:Int) (l:List TD) (m:MD) (bf:List BD):Bool:=decide (VS vs ms cs fs ts bound l m bf)
theorem jW{vs:List VD}{bf:List BD}:vsB vs ms cs fs ts bound l m bf=true↔VS vs ms cs fs ts bound l m bf:=by
 unfold vsB;exact @VU _ (Classical.propDecidable _)
theorem VE{vs:List VD}{bf:List BD} (h:¬VS vs ms cs fs ts bound l m bf):vsB vs ms cs fs ts bound l m bf=false:=VN.2 λq=>h (jW.1 q)
theorem Qd(h:∀(j:Nat) a b,l[j]?=some a->l[j+1]?=some b->a.1 < b.1):uT l:=by
 refine Fb λj x y hx hy=>?_
 rw[Dj]at hx hy;cases ha:l[j]? with
 | none=>rw[ha]at hx;cases hx
 | some a=>
   cases hb:l[j+1]? with
   | none=>rw[hb]at hy;cases hy
   | some b=>
     rw[ha]at hx;rw[hb]at hy;cases hx;cases hy;exact h j a b ha hb
theorem abm(h:uT l){j:Nat}{a b:TD} (ha:l[j]?=some a) (hb:l[j+1]?=some b):a.1 < b.1:=
 JH h (j:=j) (by rw[Dj,ha];rfl) (by rw[Dj,hb];rfl)
def yc(l:List TD) (id:Int):Option TD:=l.find? λt=>decide (t.1=id)
def Gj(b:Bool):Int:=if b=true then 1 else 0
def labS(m:MD) (t:TD) (i:ID):ED:=
 if i.1=8 then(t.1,t.2.2.2.2.1,1,i.2.2.2.2.1,-1,-1,i.2.2.2.2.2.2.2.1,m.1[i.2.2.2.2.1.toNat]?.getD 0,0,())
 else if i.1=14 then(t.1,t.2.2.2.2.1,8,i.2.2.2.2.1,-1,-1,i.2.2.2.2.2.2.2.1,m.1[i.2.2.2.2.1.toNat]?.getD 0,0,())
 else if i.1=9 then(t.1,t.2.2.2.2.1,2,i.2.2.2.2.1,-1,-1,i.2.2.2.2.2.2.2.1,0,t.2.2.2.1.getD i.2.2.1.toNat 0,())
 else if i.1=10 then(t.1,t.2.2.2.2.1,5,i.2.2.2.2.1,-1,-1,i.2.2.2.2.2.2.2.1,m.1[i.2.2.2.2.1.toNat]?.getD 0,t.2.2.2.1.getD i.2.2.1.toNat 0,())
 else if i.1=11 then(t.1,t.2.2.2.2.1,5,i.2.2.2.2.1,-1,-1,i.2.2.2.2.2.2.2.1,m.1[i.2.2.2.2.1.toNat]?.getD 0,(dZ 1 (m.1[i.2.2.2.2.1.toNat]?.getD 0) (t.2.2.2.1.getD i.2.2.1.toNat 0)).1,())
 else if i.1=12 then
  (if m.1[i.2.2.2.2.1.toNat]?.getD 0=t.2.2.2.1.getD i.2.2.1.toNat 0 then(t.1,t.2.2.2.2.1,5,i.2.2.2.2.1,-1,-1,i.2.2.2.2.2.2.2.1,m.1[i.2.2.2.2.1.toNat]?.getD 0,t.2.2.2.1.getD i.2.2.2.1.toNat 0,())
   else(t.1,t.2.2.2.2.1,6,i.2.2.2.2.1,-1,-1,i.2.2.2.2.2.2.2.1,m.1[i.2.2.2.2.1.toNat]?.getD 0,0,()))
 else if i.1=13 then(t.1,t.2.2.2.2.1,7,i.2.2.2.2.1,-1,-1,0,0,0,())
 else if i.1=15 then(t.1,t.2.2.2.2.1,9,i.2.2.2.2.1,-1,-1,0,0,0,())
 else if i.1=16 then(t.1,t.2.2.2.2.1,10,i.2.2.2.2.1,-1,-1,0,0,0,())
 else if i.1=17 then(t.1,t.2.2.2.2.1,11,i.2.2.2.2.1,-1,-1,0,Gj (nJ m i.2.2.2.2.1),0,())
 else if i.1=18 then
  (if t.2.2.2.2.2.2.1=0 then(t.1,t.2.2.2.2.1,12,i.2.2.2.2.1,i.2.2.2.2.2.1,-1,0,0,0,())
   else if t.2.2.2.2.2.2.1=1 then(t.1,t.2.2.2.2.1,13,i.2.2.2.2.1,-1,-1,0,0,0,())
   else(t.1,t.2.2.2.2.1,9,i.2.2.2.2.2.1,-1,-1,0,0,0,()))
 else if i.1=19 then(t.1,t.2.2.2.2.1,14,i.2.2.2.2.1,-1,-1,0,jU 1 (m.2.2.1[i.2.2.2.2.1.toNat]?.getD []).length,0,())
 else if i.1=20 then(t.1,t.2.2.2.2.1,15,i.2.2.2.2.1,-1,-1,0,(m.2.2.1[i.2.2.2.2.1.toNat]?.getD []).length,0,())
 else if i.1=21 then(t.1,t.2.2.2.2.1,16,(cO t.1 t.2.2.2.2.2.1).1,-1,-1,0,0,0,())
 else(t.1,t.2.2.2.2.1,17,t.2.2.2.1.getD i.2.2.1.toNat 0,-1,-1,0,0,0,())
def C9(l:List TD) (m:MD) (t:TD) (i:ID):Bool:=
 if i.1=14 then decide ((dZ i.2.2.2.2.2.2.1 (m.1[i.2.2.2.2.1.toNat]?.getD 0) (t.2.2.2.1.getD i.2.2.1.toNat 0)).1≠0)
 else if i.1=15 then nJ m i.2.2.2.2.1
 else if i.1=18 then(if t.2.2.2.2.2.2.1=1 then dP m.2.2.2.1 t.1 else if t.2.2.2.2.2.2.1=2 then nJ m i.2.2.2.2.2.1 else true)
 else if i.1=22 then(match yc l (t.2.2.2.1.getD i.2.2.1.toNat 0) with
  | some u=>decide (u.2.2.2.2.2.2.2.1=2) || decide (u.2.2.2.2.2.2.2.1=3)
  | none=>false)
 else true
def lS(m:MD) (e:ED):MD×Int:=
 if e.2.2.1=5\/e.2.2.1=2 then writeM m e.2.2.2.1 e.2.2.2.2.2.2.2.2.1
 else if e.2.2.1=9\/(e.2.2.1=11/\e.2.2.2.2.2.2.2.1≠0) then jP m e.2.2.2.1 e.1 (-1) e.1
 else if e.2.2.1=10 then jP m e.2.2.2.1 e.1 e.1 (-1)
 else if e.2.2.1=12 then(if(jP m e.2.2.2.2.1 e.1 e.1 (-1)).2=0 then xZ (jP m e.2.2.2.2.1 e.1 e.1 (-1)).1 e.2.2.2.1 e.1 else jP m e.2.2.2.2.1 e.1 e.1 (-1))
 else if e.2.2.1=13 then o7 m e.1
 else if e.2.2.1=14 then((uS m e.2.2.2.1 1).1,(uS m e.2.2.2.1 1).2.2)
 else if e.2.2.1=15 then((uS m e.2.2.2.1 (nK m.2.2.1)).1,(uS m e.2.2.2.1 (nK m.2.2.1)).2.2)
 else(m,0)
def Ba(i:ID) (e:ED):Int:=
 if e.2.2.1=5 then(if i.1=12 then 1 else e.2.2.2.2.2.2.2.1) else if e.2.2.1=1\/e.2.2.1=8 then e.2.2.2.2.2.2.2.1
 else if e.2.2.1=11 then(if e.2.2.2.2.2.2.2.1=0 then 0 else 1) else if e.2.2.1=16 then e.2.2.2.1 else 0
def zE:ED:=(0,0,0,0,0,0,0,0,0,())
def zZ:ZD:=([],zM,[],())
def eU(p:TD->Bool) (l:List TD):Int:=match l.findIdx? p with
 | some i=>i
 | none=>-1
theorem SL{d:TD} (hk:l[k]?=some d) (hd:p d=true) (h:∀j < k,∀t,l[j]?=some t->p t=false):eU p l=k:=by
 obtain⟨h1,h2⟩:=A8.1 hk;have:l.findIdx? p=some k:=by
  rw[A50];refine⟨h1,by rw[h2];exact hd,λj hj=>?_⟩
  rw[h j hj _ (lN (by omega))];simp
 unfold eU;rw[this]
theorem SN(h:∀j < l.length,∀t,l[j]?=some t->p t=false):eU p l = -1:=by
 have:l.findIdx? p=none:=by
  rw[A73];intro x hx;obtain⟨j,hj⟩:=yu hx;exact h j (A8.1 hj).1 x hj
 unfold eU;rw[this]
abbrev alj:SF:={ ss:=[dX],r:=.bool,ct:=λpr fn=>{ ps:=[.sl dX],pre:=λd=>d.1.length<=1000000/\∀t∈d.1,pr (t,()),res:=λd=>([],.one (.c (.v (.int .i64 (eU (λt=>fn (t,())) d.1))))) } }
abbrev an5:MK:={ ss:=[.int .i64],f:=λds=>.clo Tryz.prog [dX] .bool (λ_=>True) (λd=>decide (d.1.1=ds.1)) }
abbrev alk(pr:bU [dX]->Prop) (fn:bU [dX]->Bool) (l:List TD):Nat->Option (St->jv):=λk=>match k with
 | 2=>some λ_=>.inv { α:=Nat,slots:=λk=>[(8,.c (.v (.int .i64 k)))],res:=λ_=>[],inv:=λk=>k<=l.length/\∀j < k,∀t,l[j]?=some t->fn (t,())=false,meas:=λk=>l.length - k }
 | _=>none
abbrev an6:List (Nat×SF):=[]
theorem agh(pr:bU [dX]->Prop) (fn:bU [dX]->Bool) (l:List TD) (aF:(alj.ct pr fn).pre (l,())):
 let z1:=λ(x:Nat)=>(x<=l.length/\∀(j:Nat),j < x->∀(t:TD),l[j]?=some t->fn (t,())=false);let z2:=eU (λt=>fn (t,())) l;(∃x,(z1 x)/\(cI 0=cI (x:Int)/\True)/\([]:List dJ)=[])/\∀(x:Nat),(z1 x)->br (decide ((x:Int) < (l.length:Int))) ((0<=(x:Int)/\(x:Int) < (l.length:Int))/\∀(d:TD),l[(x:Int).toNat]?=some d->some Tryz.prog=some Tryz.prog/\pr (d,())/\br (fn (d,())) (qI z2 (x:Int)) (iR ((x:Int)+(1:Int))/\∃x',(z1 x')/\(cI ((x:Int)+(1:Int))=cI (x':Int)/\True)/\([]:List dJ)=[]/\l.length - x' < l.length - x)) (qI z2 (-1:Int)):=by
 conv=>zeta
 delta dJ iR;obtain⟨hl,hp⟩:l.length<=1000000/\∀t∈l,pr (t,()):=aF;refine⟨⟨0,⟨by omega,λj hj=>by omega⟩,⟨rfl,trivial⟩,rfl⟩,λk hk=>ah.2 ⟨λg=>?_,λg=>?_⟩⟩
 .simp only[dH]at g;refine⟨⟨by omega,by omega⟩,λd hd=>⟨rfl,hp d (iy hd),ah.2 ⟨λg2=>⟨rfl,?_⟩,λg2=>⟨ak.2 (by omega),k+1,⟨by omega,λj hj t ht=>?_⟩,⟨rfl,trivial⟩,rfl,by omega⟩⟩⟩⟩
  .have hd:l[k]?=some d:=hd;rw[SL (p:=λt=>fn (t,())) hd g2 hk.2]
  .by_cases e:j=k
   .subst e;have hd:l[j]?=some d:=hd;rw[hd]at ht;cases ht;exact g2
   .exact hk.2 j (by omega) t ht
 .simp only[eX]at g;refine⟨rfl,?_⟩;rw[SN (p:=λt=>fn (t,())) λj hj t ht=>hk.2 j (by omega) t ht]
theorem agi:adx Tryz.prog aT.gd 113 alj:=
 aiV (cx:=aT) (n:=19) (cl:=[]) (ml:=mlN) (fl:=an6) (rc:=[]) (by kernel_rfl) au trivial trivial trivial Tryz.func113 (by kernel_rfl) (by kernel_rfl) (λ_ _=>rfl) (by kernel_rfl) (by kernel_rfl) λpr fn d hd=>by
  obtain⟨l,⟨⟩⟩:=d;exact aJ (alk pr fn l) (agh pr fn l hd) (by kernel_rfl)
theorem agj(c0 id fn pc:Int) (rg:List Int) (st ch ph su fa:Int) (he:List Int):
 qB (decide (id=c0)) (decide (id=c0)):=by
 exact⟨rfl,rfl⟩
theorem agk:Ye Tryz.prog aT.gd 114 an5:=
 aiX (cx:=aT) (n:=8) (cl:=[]) (rc:=[]) (by kernel_rfl) au trivial Tryz.func114 (by kernel_rfl) (by kernel_rfl) rfl rfl (by kernel_rfl) (by kernel_rfl) λds d _ _=>by
  obtain⟨c0,⟨⟩⟩:=ds;obtain⟨⟨id,fn,pc,rg,st,ch,ph,su,fa,he,⟨⟩⟩,⟨⟩⟩:=d;exact aJ (λ_=>none) (agj c0 id fn pc rg st ch ph su fa he) (by kernel_rfl)
abbrev wS:CT:={ ps:=[.sl dX,.int .i64],pre:=λd=>d.1.length<=1000000,res:=λd=>([],.gV [.c (.v (.int .i64 (dO (eU (λt=>decide (t.1=d.2.1)) d.1) 0))),.c (.v (.bool (decide (0<=eU (λt=>decide (t.1=d.2.1)) d.1))))]) }
abbrev apW:List (Nat×SF):=[(113,alj)]
abbrev apX:List (Nat×MK):=[(114,an5)]
theorem alm(l:List TD) (id:Int) (aF:wS.pre (l,id,())):
 let z1:=[I6.pair (I6.pair (I6.pair ((Sh.arr 8 I6).pair (I6.pair (I6.pair (I6.pair (I6.pair (I6.pair (I6.sl.pair Sh.unit)))))))))];True/\some Tryz.prog=some Tryz.prog/\∃pre' g',(FN.clo Tryz.prog z1 Sh.bool (λx=>True) λd=>decide (d.fst.fst=id))=FN.clo Tryz.prog z1 Sh.bool pre' g'/\(l.length<=1000000/\∀(t:TD),t∈l->pre' (t,()))/\rT [cI (dO (eU (λt=>decide (t.fst=(l,id,()).snd.fst)) l) (0:Int)),cB (decide (0<=eU (λt=>decide (t.fst=(l,id,()).snd.fst)) l))] [cI (dO (eU (λt=>g' (t,())) l) (0:Int)),cB (decide (0<=eU (λt=>g' (t,())) l))]:=by
 conv=>zeta
 exact⟨trivial,rfl,λ_=>True,λd=>decide (d.1.1=id),rfl,⟨aF,λ_ _=>trivial⟩,rfl,rfl⟩
theorem Dc:aU aT.gd 52 wS:=
 ady (cx:=aT) (n:=14) (cl:=[]) (ml:=apX) (fl:=apW) (rc:=[]) (by kernel_rfl) au trivial ⟨agk,trivial⟩ ⟨agi,trivial⟩ Tryz.func52 (by kernel_rfl) (by kernel_rfl) rfl (by kernel_rfl) (by kernel_rfl) λd hd=>by
  obtain⟨l,id,⟨⟩⟩:=d;exact aJ (λ_=>none) (alm l id hd) (by kernel_rfl)
abbrev an7(l:List TD) (id:Int):Nat->Option (St->jv):=λk=>match k with
 | 2=>some λ_=>.inv { α:=Nat,slots:=λk=>[(6,.c (.v (.int .i64 k)))],res:=λ_=>[],inv:=λk=>k<=l.length/\∀j < k,∀t,l[j]?=some t->decide (t.1=id)=false,meas:=λk=>l.length - k }
 | _=>none
theorem aln(l:List TD) (id:Int) (aF:wS.pre (l,id,())):
 let z2:=λ(x:Nat)=>(x<=l.length/\∀(j:Nat),j < x->∀(t:TD),l[j]?=some t->decide (t.fst=id)=false);let z1:=[cI (dO (eU (λt=>decide (t.fst=(l,id,()).snd.fst)) l) (0:Int)),cB (decide (0<=eU (λt=>decide (t.fst=(l,id,()).snd.fst)) l))];(∃x,(z2 x)/\(cI 0=cI (x:Int)/\True)/\([]:List dJ)=[])/\∀(x:Nat),(z2 x)->br (decide ((x:Int) < (l.length:Int))) ((0<=(x:Int)/\(x:Int) < (l.length:Int))/\∀(d:TD),l[(x:Int).toNat]?=some d->br (decide (d.fst=id)) (rT z1 [cI (x:Int),cB true]) (iR ((x:Int)+(1:Int))/\∃x',(z2 x')/\(cI ((x:Int)+(1:Int))=cI (x':Int)/\True)/\([]:List dJ)=[]/\l.length - x' < l.length - x)) (rT z1 [cI 0,cB false]):=by
 conv=>zeta
 delta dJ iR;have hl:l.length<=1000000:=aF;refine⟨⟨0,⟨by omega,λj hj=>by omega⟩,⟨rfl,trivial⟩,rfl⟩,λk hk=>ah.2 ⟨λg=>?_,λg=>?_⟩⟩
 .simp only[dH]at g;refine⟨⟨by omega,by omega⟩,λd hd=>ah.2 ⟨λg2=>⟨rfl,?_⟩,λg2=>⟨ak.2 (by omega),k+1,⟨by omega,λj hj t ht=>?_⟩,⟨rfl,trivial⟩,rfl,by omega⟩⟩⟩
  .have hd:l[k]?=some d:=hd;rw[SL (p:=λt=>decide (t.1=id)) hd g2 hk.2,wX (by omega),show dO (k:Int) 0=k by unfold dO;split<;>omega]
  .by_cases e:j=k
   .subst e;have hd:l[j]?=some d:=hd;rw[hd]at ht;cases ht;exact g2
   .exact hk.2 j (by omega) t ht
 .simp only[eX]at g;refine⟨rfl,?_⟩;rw[SN (p:=λt=>decide (t.1=id)) λj hj t ht=>hk.2 j (by omega) t ht]
  rfl
theorem SX:aU aT.gd 43 wS:=
 jG (cx:=aT) (n:=21) (cl:=[]) au trivial Tryz.func43 λd hd=>by
  obtain⟨l,id,⟨⟩⟩:=d;exact aJ (an7 l id) (aln l id hd) (by kernel_rfl)
def SY(vs:List VD) (ms cs:List ByteArray) (fs:List FD) (ts:List SD) (bound:Int) (l:List TD):Prop:=(∀t∈l,dG (aG vs ms cs fs ts).1 bound=0/\uh ms fs bound t)/\uT l
open Classical in
def JR(vs:List VD) (ms cs:List ByteArray) (fs:List FD) (ts:List SD) (bound:Int) (l:List TD):Bool:=decide (SY vs ms cs fs ts bound l)
theorem Fv{vs:List VD}:JR vs ms cs fs ts bound l=true↔SY vs ms cs fs ts bound l:=by
 unfold JR;exact @VU _ (Classical.propDecidable _)
theorem Qe{vs:List VD} (h:¬SY vs ms cs fs ts bound l):JR vs ms cs fs ts bound l=false:=VN.2 λq=>h (Fv.1 q)
theorem alo(vs:List VD) (ms cs:List ByteArray) (fs:List FD) (ts:List SD) (bound:Int) (aF:zJ.pre ((vs,ms,cs,fs,ts,()),bound,())):
 let z2:=aG vs ms cs fs ts;let z1:=dG z2.fst bound;(bnd ((vs,ms,cs,fs,ts,()),()))/\br (!decide (z2.fst=0)) (qI z1 (z2.fst)) (br (decide (bound < 1) || decide (32 < bound)) (qI z1 (2:Int)) (qI z1 (0:Int))):=by
 conv=>zeta
 have hb:bnd ((vs,ms,cs,fs,ts,()),()):=aF;refine⟨hb,ah.2 ⟨λh=>?_,λh=>ah.2 ⟨λh2=>?_,λh2=>?_⟩⟩⟩
 .have h:(aG vs ms cs fs ts).1≠0:=by simpa using h
  have e:dG (aG vs ms cs fs ts).1 bound=(aG vs ms cs fs ts).1:=by unfold dG;rw[if_pos h]
  rw[e];exact⟨rfl,rfl⟩
 all_goals have h:¬(aG vs ms cs fs ts).1≠0:=by simpa using h
 .have h2:bound < 1\/32 < bound:=by simpa using h2
  have e:dG (aG vs ms cs fs ts).1 bound=2:=by unfold dG;rw[if_neg h,if_pos h2]
  rw[e];exact⟨rfl,rfl⟩
 .have h2:¬(bound < 1\/32 < bound):=by simp only[l7,eX]at h2;omega
  have e:dG (aG vs ms cs fs ts).1 bound=0:=by unfold dG;rw[if_neg h,if_neg h2]
  rw[e];exact⟨rfl,rfl⟩
theorem S9:aU aT.gd 32 zJ:=
 dQ (cx:=aT) (n:=23) (cl:=[(74,Hr)]) (rc:=[]) au ⟨CW,trivial⟩ Tryz.func32 λd hd=>by
  obtain⟨⟨vs,ms,cs,fs,ts,⟨⟩⟩,bound,⟨⟩⟩:=d;exact aJ (λ_=>none) (alo vs ms cs fs ts bound hd) (by kernel_rfl)
abbrev JU:CT:={ ps:=[o9,.int .i64,Kr],pre:=λd=>bnd (d.1,())/\iJ d.2.2.1.1/\bI d.2.2.1.2.1,res:=λd=>([],vB (vsB d.1.1 d.1.2.1 d.1.2.2.1 d.1.2.2.2.1 d.1.2.2.2.2.1 d.2.1 d.2.2.1.1 d.2.2.1.2.1 d.2.2.1.2.2.1)) }
abbrev an8(vs:List VD) (ms cs:List ByteArray) (fs:List FD) (ts:List SD) (bound:Int) (th:List TD) (mv mo:List Int) (mq:List (List Int)) (mg:List Int) (bf:List BD):Nat->Option (St->jv):=λk=>match k with
 | 4=>some λ_=>.inv { α:=Nat,slots:=λk=>[(23,.c (.v (.int .i64 k)))],res:=λk=>[],inv:=λk=>k<=(th).length/\(∀j < k,∀t,th[j]?=some t->dG (aG vs ms cs fs ts).1 bound=0/\uh ms fs bound t)/\∀j,j+1 < k->∀a b,th[j]?=some a->th[j+1]?=some b->a.1 < b.1,meas:=λk=>(th).length - k }
 | _=>none
theorem alp(vs:List VD) (ms cs:List ByteArray) (fs:List FD) (ts:List SD) (bound:Int) (th:List TD) (mv mo:List Int) (mq:List (List Int)) (mg:List Int) (bf:List BD) (aF:JU.pre ((vs,ms,cs,fs,ts,()),bound,(th,(mv,mo,mq,mg,()),bf,()),())):
 let z7:=bnd ((vs,ms,cs,fs,ts,()),());let z8:=(mv,mo,mq,mg,());let z6:=vsB vs ms cs fs ts bound th z8 bf;let z5:=qB z6 false;let z1:=λ(x:Nat)=>(x<=th.length/\(∀(j:Nat),j < x->∀(t:TD),th[j]?=some t->dG (aG vs ms cs fs ts).fst bound=0/\uh ms fs bound t)/\∀(j:Nat),j+1 < x->∀(a b:TD),th[j]?=some a->th[j+1]?=some b->a.fst < b.fst);let z2:=[g0 (ay.blk 27 [SC.sl ER vs,SC.sl Sh.str ms,SC.sl Sh.str cs,SC.sl BA fs,SC.sl lU ts]),g0 (ay.blk 37 [SC.sl dX th,SC.sl I6 mv,SC.sl I6 mo,SC.sl I6.sl mq,SC.sl I6 mg,SC.sl CZ bf])];let z4:=λ(d:TD)=>decide (dG (aG vs ms cs fs ts).fst bound=0) && mQ ms fs bound d;let z3:=λ(x:Nat) (d:TD)=>decide (0 < (x:Int)) && !!(z4 d);(z7/\bI z8)/\br (!jA (vs,ms,cs,fs,ts,()) z8 || decide (0 < (bf.length:Int))) z5 ((∃x,(z1 x)/\(cI 0=cI (x:Int)/\True)/\sm z2)/\∀(x:Nat),(z1 x)->br (decide ((x:Int) < (th.length:Int))) ((0<=(x:Int)/\(x:Int) < (th.length:Int))/\∀(d:TD),th[(x:Int).toNat]?=some d->(z7/\List.length d.snd.snd.snd.snd.snd.snd.snd.snd.snd.fst<=1000000/\d.fst<=9223372036854775807/\List.length d.snd.snd.snd.fst=8)/\((z3 x d)=true->iR ((x:Int) - (1:Int)))/\((z3 x d)=true->0<=(x:Int) - (1:Int)/\(x:Int) - 1 < (th.length:Int))/\∀(dI:TD),((z3 x d)=true->th[((x:Int) - (1:Int)).toNat]?=some dI)->br (!(z4 d) || decide (0 < (x:Int)) && decide ((d).fst<=dI.fst)) z5 (iR ((x:Int)+(1:Int))/\∃x',(z1 x')/\(cI ((x:Int)+(1:Int))=cI (x':Int)/\True)/\sm z2/\th.length - x' < th.length - x)) (qB z6 true)):=by
 conv=>zeta
 delta iR;obtain⟨hb,hT,hM⟩:bnd ((vs,ms,cs,fs,ts,()),())/\iJ th/\bI (mv,mo,mq,mg,()):=aF;obtain⟨hl,hT⟩:=hT;have fF:¬VS vs ms cs fs ts bound th (mv,mo,mq,mg,()) bf->qB (vsB vs ms cs fs ts bound th (mv,mo,mq,mg,()) bf) false:=λq=>⟨rfl,by rw[VE q]⟩
 refine⟨⟨hb,hM⟩,ah.2 ⟨λh=>fF λq=>?_,λh=>⟨⟨0,⟨by omega,λj hj=>by omega,λj hj=>by omega⟩,⟨rfl,trivial⟩,rfl⟩,λk hk=>ah.2 ⟨λg=>?_,λg=>?_⟩⟩⟩⟩
 .obtain⟨q1,q2,q3,q4⟩:=q;rw[q1,q2]at h;simp at h
 .obtain⟨k1,k2,k3⟩:=hk;simp only[dH]at g;refine⟨⟨by omega,by omega⟩,λd hd=>⟨⟨hb,hT d (iy hd)⟩,λ_=>ak.2 (by omega),λq=>?_,λd1 hd1=>ah.2 ⟨λg2=>fF λq=>?_,λg2=>⟨ak.2 (by omega),k+1,⟨by omega,λj hj t ht=>?_,λj hj a b ha hb=>?_⟩,⟨rfl,trivial⟩,rfl,by omega⟩⟩⟩⟩
  .rw[bY,dH]at q;omega
  .have hd:th[k]?=some d:=hd;have q3:=q.2.2.1 d (iy hd);rw[wC,Di,bY,dH,dH]at g2;have hv:(decide (dG (aG vs ms cs fs ts).1 bound=0) && mQ ms fs bound d)=true:=by rw[bY,dH,kK];exact q3
   rcases g2 with g2 | ⟨g2,g3⟩
   .rw[hv]at g2;cases g2
   .have gg:(decide ((0:Int) < (k:Int)) && !!(decide (dG (aG vs ms cs fs ts).1 bound=0) && mQ ms fs bound d))=true:=by rw[hv,wX g2];rfl
    have h1:=hd1 gg;rw[show((k:Int) - 1).toNat=k - 1 by omega]at h1
    have:=abm q.2.2.2 h1 (by rw[show k - 1+1=k by omega];exact hd)
    omega
  .rw[l7,wU,bY,dH,kK]at g2
   by_cases e:j=k
   .subst e;have hd:th[j]?=some d:=hd;rw[hd]at ht;cases ht;exact g2.1
   .exact k2 j (by omega) t ht
  .by_cases e:j+1=k
   .have hd:th[k]?=some d:=hd;rw[l7,wU]at g2;have hk0:(0:Int) < (k:Int):=by omega
    have gg:(decide ((0:Int) < (k:Int)) && !!(decide (dG (aG vs ms cs fs ts).1 bound=0) && mQ ms fs bound d))=true:=by rw[g2.1,wX hk0];rfl
    have h1:=hd1 gg;rw[show((k:Int) - 1).toNat=j by omega,ha]at h1
    cases h1;rw[e,hd]at hb;cases hb;have g3:=g2.2;rw[A70,eX,eX]at g3;omega
   .exact k3 j (by omega) a b ha hb
 .obtain⟨k1,k2,k3⟩:=hk;simp only[eX]at g;have all:∀t∈th,dG (aG vs ms cs fs ts).1 bound=0/\uh ms fs bound t:=λt ht=>by
   obtain⟨j,hj⟩:=yu ht;have:=(A8.1 hj).1;exact k2 j (by omega) t hj
  have up:uT th:=Qd λj a b ha hb=>by
   have:=(A8.1 hb).1;exact k3 j (by omega) a b ha hb
  rw[l7,wU,eX]at h;have e:bf=[]:=List.length_eq_zero_iff.1 (by omega)
  exact⟨rfl,by rw[jW.2 ⟨h.1,e,all,up⟩]⟩
theorem JV:aU aT.gd 40 JU:=
 dQ (cx:=aT) (n:=50) (cl:=[(84,Vy),(85,afv)]) (rc:=[]) au ⟨af8,Si,trivial⟩ Tryz.func40 λd hd=>by
  obtain⟨⟨vs,ms,cs,fs,ts,⟨⟩⟩,bound,⟨th,⟨mv,mo,mq,mg,⟨⟩⟩,bf,⟨⟩⟩,⟨⟩⟩:=d;exact aJ (an8 vs ms cs fs ts bound th mv mo mq mg bf) (alp vs ms cs fs ts bound th mv mo mq mg bf hd) (by kernel_rfl)
abbrev abn:CT:={ ps:=[o9,.int .i64,.sl dX],pre:=λd=>bnd (d.1,())/\iJ d.2.2.1,res:=λd=>([],vB (JR d.1.1 d.1.2.1 d.1.2.2.1 d.1.2.2.2.1 d.1.2.2.2.2.1 d.2.1 d.2.2.1)) }
abbrev an9(vs:List VD) (ms cs:List ByteArray) (fs:List FD) (ts:List SD) (bound:Int) (th:List TD):Nat->Option (St->jv):=λk=>match k with
 | 2=>some λ_=>.inv { α:=Nat,slots:=λk=>[(7,.c (.v (.int .i64 k)))],res:=λk=>[],inv:=λk=>k<=(th).length/\(∀j < k,∀t,th[j]?=some t->dG (aG vs ms cs fs ts).1 bound=0/\uh ms fs bound t)/\∀j,j+1 < k->∀a b,th[j]?=some a->th[j+1]?=some b->a.1 < b.1,meas:=λk=>(th).length - k }
 | _=>none
theorem alq(vs:List VD) (ms cs:List ByteArray) (fs:List FD) (ts:List SD) (bound:Int) (th:List TD) (aF:abn.pre ((vs,ms,cs,fs,ts,()),bound,th,())):
 let z1:=λ(x:Nat)=>(x<=th.length/\(∀(j:Nat),j < x->∀(t:TD),th[j]?=some t->dG (aG vs ms cs fs ts).fst bound=0/\uh ms fs bound t)/\∀(j:Nat),j+1 < x->∀(a b:TD),th[j]?=some a->th[j+1]?=some b->a.fst < b.fst);let z3:=[g0 (ay.blk 27 [SC.sl ER vs,SC.sl Sh.str ms,SC.sl Sh.str cs,SC.sl BA fs,SC.sl lU ts])];let z4:=λ(d:TD)=>decide (dG (aG vs ms cs fs ts).fst bound=0) && mQ ms fs bound d;let z2:=λ(x:Nat) (d:TD)=>decide (0 < (x:Int)) && !!(z4 d);let z5:=JR vs ms cs fs ts bound th;(∃x,(z1 x)/\(cI 0=cI (x:Int)/\True)/\sm z3)/\∀(x:Nat),(z1 x)->br (decide ((x:Int) < (th.length:Int))) ((0<=(x:Int)/\(x:Int) < (th.length:Int))/\∀(d:TD),th[(x:Int).toNat]?=some d->((bnd ((vs,ms,cs,fs,ts,()),()))/\List.length d.snd.snd.snd.snd.snd.snd.snd.snd.snd.fst<=1000000/\d.fst<=9223372036854775807/\List.length d.snd.snd.snd.fst=8)/\((z2 x d)=true->iR ((x:Int) - (1:Int)))/\((z2 x d)=true->0<=(x:Int) - (1:Int)/\(x:Int) - 1 < (th.length:Int))/\∀(dI:TD),((z2 x d)=true->th[((x:Int) - (1:Int)).toNat]?=some dI)->((z2 x d)=true->0<=(x:Int)/\(x:Int) < (th.length:Int))/\∀(nU:TD),((z2 x d)=true->th[(x:Int).toNat]?=some nU)->br (!(z4 d) || decide (0 < (x:Int)) && decide (nU.fst<=dI.fst)) (qB z5 false) (iR ((x:Int)+(1:Int))/\∃x',(z1 x')/\(cI ((x:Int)+(1:Int))=cI (x':Int)/\True)/\sm z3/\th.length - x' < th.length - x)) (qB z5 true):=by
 conv=>zeta
 delta iR;obtain⟨hb,hl,hT⟩:bnd ((vs,ms,cs,fs,ts,()),())/\iJ th:=aF;have fF:¬SY vs ms cs fs ts bound th->qB (JR vs ms cs fs ts bound th) false:=λq=>⟨rfl,by rw[Qe q]⟩
 refine⟨⟨0,⟨by omega,λj hj=>by omega,λj hj=>by omega⟩,⟨rfl,trivial⟩,rfl⟩,λk hk=>ah.2 ⟨λg=>?_,λg=>?_⟩⟩
 .obtain⟨k1,k2,k3⟩:=hk;simp only[dH]at g;refine⟨⟨by omega,by omega⟩,λd hd=>⟨⟨hb,hT d (iy hd)⟩,λ_=>ak.2 (by omega),λq=>?_,λd1 hd1=>⟨λ_=>⟨by omega,by omega⟩,λd2 hd2=>ah.2 ⟨λg2=>fF λq=>?_,λg2=>⟨ak.2 (by omega),k+1,⟨by omega,λj hj t ht=>?_,λj hj a b ha hb=>?_⟩,⟨rfl,trivial⟩,rfl,by omega⟩⟩⟩⟩⟩
  .rw[bY,dH]at q;omega
  .have hd:th[k]?=some d:=hd;have q3:=q.1 d (iy hd);rw[wC,Di,bY,dH,dH]at g2;have hv:(decide (dG (aG vs ms cs fs ts).1 bound=0) && mQ ms fs bound d)=true:=by rw[bY,dH,kK];exact q3
   rcases g2 with g2 | ⟨g2,g3⟩
   .rw[hv]at g2;cases g2
   .have gg:(decide ((0:Int) < (k:Int)) && !!(decide (dG (aG vs ms cs fs ts).1 bound=0) && mQ ms fs bound d))=true:=by rw[hv,wX g2];rfl
    have h1:=hd1 gg;have h2:th[k]?=some d2:=hd2 gg;rw[hd]at h2;cases h2;rw[show((k:Int) - 1).toNat=k - 1 by omega]at h1
    have:=abm q.2 h1 (by rw[show k - 1+1=k by omega];exact hd)
    omega
  .rw[l7,wU,bY,dH,kK]at g2
   by_cases e:j=k
   .subst e;have hd:th[j]?=some d:=hd;rw[hd]at ht;cases ht;exact g2.1
   .exact k2 j (by omega) t ht
  .by_cases e:j+1=k
   .have hd:th[k]?=some d:=hd;rw[l7,wU]at g2;have hk0:(0:Int) < (k:Int):=by omega
    have gg:(decide ((0:Int) < (k:Int)) && !!(decide (dG (aG vs ms cs fs ts).1 bound=0) && mQ ms fs bound d))=true:=by rw[g2.1,wX hk0];rfl
    have h1:=hd1 gg;have h2:th[k]?=some d2:=hd2 gg;rw[hd]at h2;cases h2;rw[show((k:Int) - 1).toNat=j by omega,ha]at h1
    cases h1;rw[e,hd]at hb;cases hb;have g3:=g2.2;rw[A70,eX,eX]at g3;omega
   .exact k3 j (by omega) a b ha hb
 .obtain⟨k1,k2,k3⟩:=hk;simp only[eX]at g;have all:∀t∈th,dG (aG vs ms cs fs ts).1 bound=0/\uh ms fs bound t:=λt ht=>by
   obtain⟨j,hj⟩:=yu ht;have:=(A8.1 hj).1;exact k2 j (by omega) t hj
  have up:uT th:=Qd λj a b ha hb=>by
   have:=(A8.1 hb).1;exact k3 j (by omega) a b ha hb
  exact⟨rfl,by rw[Fv.2 ⟨all,up⟩]⟩
theorem agl:aU aT.gd 68 abn:=
 dQ (cx:=aT) (n:=40) (cl:=[(122,aaT)]) (rc:=[]) au ⟨aaU,trivial⟩ Tryz.func68 λd hd=>by
  obtain⟨⟨vs,ms,cs,fs,ts,⟨⟩⟩,bound,th,⟨⟩⟩:=d;exact aJ (an9 vs ms cs fs ts bound th) (alq vs ms cs fs ts bound th hd) (by kernel_rfl)
theorem alr(vs:List VD) (ms cs:List ByteArray) (fs:List FD) (ts:List SD) (bound:Int) (th:List TD) (mv mo:List Int) (mq:List (List Int)) (mg:List Int) (bf:List BD) (aF:JU.pre ((vs,ms,cs,fs,ts,()),bound,(th,(mv,mo,mq,mg,()),bf,()),())):
 let z1:=bnd ((vs,ms,cs,fs,ts,()),());let z2:=(aG vs ms cs fs ts).fst=0;let z3:=(mv,mo,mq,mg,());z1/\(decide z2=true->z1/\iJ th)/\((decide z2 && JR vs ms cs fs ts bound th)=true->z1/\bI z3)/\qB (vsB vs ms cs fs ts bound th z3 bf) (decide z2 && JR vs ms cs fs ts bound th && jA (vs,ms,cs,fs,ts,()) z3 && decide ((bf.length:Int)=(0:Int))):=by
 conv=>zeta
 obtain⟨hb,hT,hM⟩:bnd ((vs,ms,cs,fs,ts,()),())/\iJ th/\bI (mv,mo,mq,mg,()):=aF;refine⟨hb,λ_=>⟨hb,hT⟩,λ_=>⟨hb,hM⟩,rfl,?_⟩
 have e:vsB vs ms cs fs ts bound th (mv,mo,mq,mg,()) bf=(decide ((aG vs ms cs fs ts).1=0) && JR vs ms cs fs ts bound th && jA (vs,ms,cs,fs,ts,()) (mv,mo,mq,mg,()) && decide ((bf.length:Int)=0)):=by
  rw[FK,jW];simp only[bY,dH,Fv];have e0:(bf.length:Int)=0↔bf=[]:=by rw[<-List.length_eq_zero_iff];omega
  rw[e0];constructor
  .rintro⟨h1,h2,h3,h4⟩;refine⟨⟨⟨?_,h3,h4⟩,h1⟩,h2⟩;unfold jA at h1;simp only[bY,dH]at h1;exact h1.1.1.1.1
  .rintro⟨⟨⟨_,h3⟩,h1⟩,h2⟩;exact⟨h1,h2,h3.1,h3.2⟩
 rw[e]
theorem Tc:aU aT.gd 28 JU:=
 dQ (cx:=aT) (n:=28) (cl:=[(67,JB),(68,abn),(69,Vy)]) (rc:=[]) au ⟨SH,agl,af9,trivial⟩ Tryz.func28 λd hd=>by
  obtain⟨⟨vs,ms,cs,fs,ts,⟨⟩⟩,bound,⟨th,⟨mv,mo,mq,mg,⟨⟩⟩,bf,⟨⟩⟩,⟨⟩⟩:=d;exact aJ (λ_=>none) (alr vs ms cs fs ts bound th mv mo mq mg bf hd) (by kernel_rfl)
theorem jQ{a b:ED} (h:a=b):qE a b:=⟨rfl,by rw[h]⟩
theorem jE{a b:Bool} (h:a=b):qB a b:=⟨rfl,by rw[h]⟩
theorem Td{rg:List Int}{b d:Int} (h:rg[b.toNat]?=some d):rg.getD b.toNat 0=d:=by rw[J5,h];rfl
theorem kL(h:0<=eU p l):∃(k:Nat) (t:TD),eU p l=k/\l[k]?=some t/\l.find? p=some t/\k < l.length:=by
 unfold eU at h ⊢
 cases e:l.findIdx? p with
 | none=>rw[e]at h;exact absurd h (by decide)
 | some k=>
   obtain⟨h1,h2,h3⟩:=A50.1 e;refine⟨k,l[k],rfl,lN h1,?_,h1⟩;rw[List.find?_eq_some_iff_getElem];exact⟨h2,k,h1,rfl,λj hj=>by have:=h3 j hj;simpa using this⟩
theorem o8(h:¬0<=eU p l):l.find? p=none:=by
 unfold eU at h;cases e:l.findIdx? p with
 | some k=>rw[e]at h;exact absurd (Int.natCast_nonneg k) h
 | none=>
   rw[A73]at e;rw[A90];intro x hx;rw[e x hx];simp
def als(v rb rc op o:Int):ED->ED
 | (ag,ix,_,eo,mx,en,_,_,wr,_)=>if op=8 then(ag,ix,1,eo,mx,en,o,v,wr,()) else if op=14 then(ag,ix,8,eo,mx,en,o,v,wr,()) else if op=9 then(ag,ix,2,eo,mx,en,o,0,rb,())
   else if op=10 then(ag,ix,5,eo,mx,en,o,v,rb,()) else if op=11 then(ag,ix,5,eo,mx,en,o,v,(dZ 1 v rb).1,()) else if v=rb then(ag,ix,5,eo,mx,en,o,v,rc,()) else(ag,ix,6,eo,mx,en,o,v,wr,())
def wtS(ph n:Int):ED->ED
 | (ag,ix,_,eo,mx,en,ng,rd,wr,_)=>if ph=0 then(ag,ix,12,eo,n,en,ng,rd,wr,()) else if ph=1 then(ag,ix,13,eo,mx,en,ng,rd,wr,()) else(ag,ix,9,n,mx,en,ng,rd,wr,())
def jX(m:MD) (t:TD) (i:ID):Prop:=
 (bI m/\dW m=true/\tB t)/\(0<=i.2.2.1/\i.2.2.1 < 8)/\(0<=i.2.2.2.1/\i.2.2.2.1 < 8)/\(8<=i.1/\i.1<=22) /\
 (i.1<=14/\i.1≠13->0<=i.2.2.2.2.1/\i.2.2.2.2.1 < (m.1.length:Int))/\(18<=i.1/\i.1<=20->0<=i.2.2.2.2.1/\i.2.2.2.2.1 < (m.2.2.1.length:Int)) /\
 (i.1=13\/15<=i.1->i.2.2.2.2.2.2.2.1=0)
theorem Tf{x:Int} (h:dW m=true) (h1:0<=x/\x < (m.1.length:Int)):(wR m x).1=m.1[x.toNat]?.getD 0:=by
 unfold wR;rw[if_pos (gW.2 ⟨h,h1⟩)]
abbrev JW:CT:={ ps:=[.bool],pre:=λd=>True,res:=λd=>([],.one (.c (.v (.int .i64 (Gj d.1))))) }
theorem alu(b:Bool):
 br b (qI (Gj b) (1:Int)) (qI (Gj b) (0:Int)):=by
 unfold Gj;cases b<;>exact ah.2 ⟨λh=>⟨rfl,by simp_all⟩,λh=>⟨rfl,by simp_all⟩⟩
theorem agm:aU aT.gd 86 JW:=
 jG (cx:=aT) (n:=4) (cl:=[]) au trivial Tryz.func86 λd hd=>by
  obtain⟨b,⟨⟩⟩:=d;exact aJ (λ_=>none) (alu b) (by kernel_rfl)
abbrev abo:CT:={ ps:=[Kr,dX,lJ,shE],pre:=λd=>bI d.1.2.1/\d.2.1.2.2.2.1.length=8/\(0<=d.2.2.1.2.2.1/\d.2.2.1.2.2.1 < 8)/\(0<=d.2.2.1.2.2.2.1/\d.2.2.1.2.2.2.1 < 8),res:=λd=>([],.one (BK (als (wR d.1.2.1 d.2.2.1.2.2.2.2.1).1 (d.2.1.2.2.2.1.getD d.2.2.1.2.2.1.toNat 0) (d.2.1.2.2.2.1.getD d.2.2.1.2.2.2.1.toNat 0) d.2.2.1.1 d.2.2.1.2.2.2.2.2.2.2.1 d.2.2.2.1))) }
theorem alv(th:List TD) (mv mo:List Int) (mq:List (List Int)) (mg:List Int) (bf:List BD) (id fn pc:Int) (rg:List Int) (st ch ph su fa:Int) (he:List Int) (op a b c obj n fo ord ag ix kd eo mx en ng rd wr:Int) (aF:abo.pre ((th,(mv,mo,mq,mg,()),bf,()),(id,fn,pc,rg,st,ch,ph,su,fa,he,()),(op,a,b,c,obj,n,fo,ord,()),(ag,ix,kd,eo,mx,en,ng,rd,wr,()),())):
 let z2:=wR (mv,mo,mq,mg,()) obj;let z1:=als z2.fst (rg.getD b.toNat (0:Int)) (rg.getD c.toNat (0:Int)) op ord (ag,ix,kd,eo,mx,en,ng,rd,wr,());bI (mv,mo,mq,mg,())/\br (decide (op=8)) (qE z1 (ag,ix,1,eo,mx,en,ord,z2.fst,wr,())) (br (decide (op=14)) (qE z1 (ag,ix,8,eo,mx,en,ord,z2.fst,wr,())) (br (decide (op=9)) ((0<=b/\b < 8)/\b.toNat < 8/\∀(d:Int),rg[b.toNat]?=some d->qE z1 (ag,ix,2,eo,mx,en,ord,0,d,())) (br (decide (op=10)) ((0<=b/\b < 8)/\b.toNat < 8/\∀(d:Int),rg[b.toNat]?=some d->qE z1 (ag,ix,5,eo,mx,en,ord,z2.fst,d,())) (br (decide (op=11)) ((0<=b/\b < 8)/\b.toNat < 8/\∀(d:Int),rg[b.toNat]?=some d->True/\qE z1 (ag,ix,5,eo,mx,en,ord,z2.fst,aH (aH (z2.fst,d,()).fst+aH d),())) ((0<=b/\b < 8)/\b.toNat < 8/\∀(d:Int),rg[b.toNat]?=some d->br (decide (z2.fst=d)) ((0<=c/\c < 8)/\c.toNat < 8/\∀(d:Int),rg[c.toNat]?=some d->qE z1 (ag,ix,5,eo,mx,en,ord,z2.fst,d,())) (qE z1 (ag,ix,6,eo,mx,en,ord,z2.fst,wr,()))))))):=by
 conv=>zeta
 obtain⟨hM,h8,hb,hc⟩:bI (mv,mo,mq,mg,())/\rg.length=8/\(0<=b/\b < 8)/\(0<=c/\c < 8):=aF;have hb8:b.toNat < 8:=by omega
 have hc8:c.toNat < 8:=by omega
 refine⟨hM,aO.2 ⟨λe=>jQ ?_,λn1=>aO.2 ⟨λe=>jQ ?_,λn2=>aO.2 ⟨λe=>⟨hb,hb8,λd hd=>jQ ?_⟩,λn3=>aO.2 ⟨λe=>⟨hb,hb8,λd hd=>jQ ?_⟩,λn4=>aO.2 ⟨λe=>⟨hb,hb8,λd hd=>⟨trivial,jQ ?_⟩⟩,λn5=>⟨hb,hb8,λd hd=>aO.2 ⟨λe=>⟨hc,hc8,λd2 hd2=>jQ ?_⟩,λe=>jQ ?_⟩⟩⟩⟩⟩⟩⟩⟩
 .subst e;rfl
 .subst e;rfl
 .subst e;rw[Td hd];rfl
 .subst e;rw[Td hd];rfl
 .subst e;rw[Td hd];rfl
 .rw[Td hd,Td hd2];show(if op=8 then _ else _)=_
  rw[if_neg n1,if_neg n2,if_neg n3,if_neg n4,if_neg n5,if_pos e]
 .rw[Td hd];show(if op=8 then _ else _)=_
  rw[if_neg n1,if_neg n2,if_neg n3,if_neg n4,if_neg n5,if_neg e]
theorem agn:aU aT.gd 90 abo:=
 dQ (cx:=aT) (n:=73) (cl:=[(96,afU),(97,RJ)]) (rc:=[]) au ⟨Sz,JG,trivial⟩ Tryz.func90 λd hd=>by
  obtain⟨⟨th,⟨mv,mo,mq,mg,⟨⟩⟩,bf,⟨⟩⟩,⟨id,fn,pc,rg,st,ch,ph,su,fa,he,⟨⟩⟩,⟨op,a,b,c,obj,n,fo,ord,⟨⟩⟩,⟨ag,ix,kd,eo,mx,en,ng,rd,wr,⟨⟩⟩,⟨⟩⟩:=d;exact aJ (λ_=>none) (alv th mv mo mq mg bf id fn pc rg st ch ph su fa he op a b c obj n fo ord ag ix kd eo mx en ng rd wr hd) (by kernel_rfl)
abbrev ahF:CT:={ ps:=[dX,lJ,shE],pre:=λd=>True,res:=λd=>([],.one (BK (wtS d.1.2.2.2.2.2.2.1 d.2.1.2.2.2.2.2.1 d.2.2.1))) }
theorem alx(id fn pc:Int) (rg:List Int) (st ch ph su fa:Int) (he:List Int) (op a b c obj n fo ord ag ix kd eo mx en ng rd wr:Int):
 let z1:=wtS ph n (ag,ix,kd,eo,mx,en,ng,rd,wr,());br (decide (ph=0)) (qE z1 (ag,ix,12,eo,n,en,ng,rd,wr,())) (br (decide (ph=1)) (qE z1 (ag,ix,13,eo,mx,en,ng,rd,wr,())) (qE z1 (ag,ix,9,n,mx,en,ng,rd,wr,()))):=by
 conv=>zeta
 refine aO.2 ⟨λe=>jQ ?_,λn1=>aO.2 ⟨λe=>jQ ?_,λn2=>jQ ?_⟩⟩
 .subst e;rfl
 .subst e;rfl
 .show(if ph=0 then _ else _)=_
  rw[if_neg n1,if_neg n2]
theorem agp:aU aT.gd 88 ahF:=
 dQ (cx:=aT) (n:=23) (cl:=[]) (rc:=[]) au trivial Tryz.func88 λd hd=>by
  obtain⟨⟨id,fn,pc,rg,st,ch,ph,su,fa,he,⟨⟩⟩,⟨op,a,b,c,obj,n,fo,ord,⟨⟩⟩,⟨ag,ix,kd,eo,mx,en,ng,rd,wr,⟨⟩⟩,⟨⟩⟩:=d;exact aJ (λ_=>none) (alx id fn pc rg st ch ph su fa he op a b c obj n fo ord ag ix kd eo mx en ng rd wr) (by kernel_rfl)
abbrev Fz:CT:={ ps:=[Kr,dX,lJ],pre:=λd=>jX d.1.2.1 d.2.1 d.2.2.1,res:=λd=>([],.one (BK (labS d.1.2.1 d.2.1 d.2.2.1))) }
theorem aly(th:List TD) (mv mo:List Int) (mq:List (List Int)) (mg:List Int) (bf:List BD) (id fn pc:Int) (rg:List Int) (st ch ph su fa:Int) (he:List Int) (op a b c obj n fo ord:Int) (aF:Fz.pre ((th,(mv,mo,mq,mg,()),bf,()),(id,fn,pc,rg,st,ch,ph,su,fa,he,()),(op,a,b,c,obj,n,fo,ord,()),())):
 let z4:=(mv,mo,mq,mg,());let z1:=labS z4 (id,fn,pc,rg,st,ch,ph,su,fa,he,()) (op,a,b,c,obj,n,fo,ord,());let z2:=(id,st,(0:Int),obj,(-1:Int),(-1:Int),(0:Int),(0:Int),(0:Int),());let z3:=0<=obj/\obj < (mq.length:Int);br (decide (op=13)) (qE z1 (id,st,7,obj,-1,-1,0,0,0,())) (br (decide (op=15)) (qE z1 (id,st,9,obj,-1,-1,0,0,0,())) (br (decide (op=16)) (qE z1 (id,st,10,obj,-1,-1,0,0,0,())) (br (decide (op=17)) (bI z4/\True/\qE z1 (id,st,11,obj,-1,-1,0,Gj (nJ z4 obj),0,())) (br (decide (op=18)) (True/\qE z1 (wtS ph n z2)) (br (decide (op=19)) (z3/\∀(d:List Int),mq[obj.toNat]?=some d->qE z1 (id,st,14,obj,-1,-1,0,jU (1:Int) (d.length:Int),0,())) (br (decide (op=20)) (z3/\∀(d:List Int),mq[obj.toNat]?=some d->qE z1 (id,st,15,obj,-1,-1,0,(d.length:Int),0,())) (br (decide (op=21)) (id<=9223372036854775807/\qE z1 (id,st,16,(cO id ch).fst,-1,-1,0,0,0,())) (br (decide (op=22)) ((0<=b/\b < 8)/\b.toNat < 8/\∀(d:Int),rg[b.toNat]?=some d->qE z1 (id,st,17,d,-1,-1,0,0,0,())) ((bI z4/\rg.length=8/\(0<=b/\b < 8)/\0<=c/\c < 8)/\qE z1 (als (wR z4 obj).fst (rg.getD b.toNat (0:Int)) (rg.getD c.toNat (0:Int)) op ord z2)))))))))):=by
 conv=>zeta
 obtain⟨⟨hM,hf,hT⟩,hb,hc,hv,ho1,ho2,ho3⟩:jX (mv,mo,mq,mg,()) (id,fn,pc,rg,st,ch,ph,su,fa,he,()) (op,a,b,c,obj,n,fo,ord,()):=aF;obtain⟨t1,t2,t3⟩:he.length<=1000000/\id<=9223372036854775807/\rg.length=8:=hT;have hb:0<=b/\b < 8:=hb;have hc:0<=c/\c < 8:=hc;have hv:8<=op/\op<=22:=hv;have ho1:op<=14/\op≠13->0<=obj/\obj < (mv.length:Int):=ho1;have ho2:18<=op/\op<=20->0<=obj/\obj < (mq.length:Int):=ho2;have hb8:b.toNat < 8:=by omega
 refine aO.2 ⟨λe=>jQ ?_,λn1=>aO.2 ⟨λe=>jQ ?_,λn2=>aO.2 ⟨λe=>jQ ?_,λn3=>aO.2 ⟨λe=>⟨hM,trivial,jQ ?_⟩,λn4=>aO.2 ⟨λe=>⟨trivial,jQ ?_⟩,λn5=>aO.2 ⟨λe=>⟨ho2 (by omega),λd hd=>jQ ?_⟩,λn6=>aO.2 ⟨λe=>⟨ho2 (by omega),λd hd=>jQ ?_⟩,λn7=>aO.2 ⟨λe=>⟨t2,jQ ?_⟩,λn8=>aO.2 ⟨λe=>⟨hb,hb8,λd hd=>jQ ?_⟩,λn9=>⟨⟨hM,t3,hb,hc⟩,jQ ?_⟩⟩⟩⟩⟩⟩⟩⟩⟩⟩
 .subst e;rfl
 .subst e;rfl
 .subst e;rfl
 .subst e;rfl
 .subst e;have e1:∀m t,labS m t (18,a,b,c,obj,n,fo,ord,())=if t.2.2.2.2.2.2.1=0 then(t.1,t.2.2.2.2.1,12,obj,n,-1,0,0,0,()) else if t.2.2.2.2.2.2.1=1 then(t.1,t.2.2.2.2.1,13,obj,-1,-1,0,0,0,()) else(t.1,t.2.2.2.2.1,9,n,-1,-1,0,0,0,()):=λ_ _=>rfl
  rw[e1];rfl
 .subst e;have e1:∀m t,labS m t (19,a,b,c,obj,n,fo,ord,())=(t.1,t.2.2.2.2.1,14,obj,-1,-1,0,jU 1 (m.2.2.1[obj.toNat]?.getD []).length,0,()):=λ_ _=>rfl
  rw[e1];show(_,_,_,_,_,_,_,jU 1 (mq[obj.toNat]?.getD []).length,_,_)=_;rw[hd];rfl
 .subst e;have e1:∀m t,labS m t (20,a,b,c,obj,n,fo,ord,())=(t.1,t.2.2.2.2.1,15,obj,-1,-1,0,((m.2.2.1[obj.toNat]?.getD []).length:Int),0,()):=λ_ _=>rfl
  rw[e1];show(_,_,_,_,_,_,_,(((mq[obj.toNat]?.getD []).length:Nat):Int),_,_)=_;rw[hd];rfl
 .subst e;rfl
 .subst e;have e1:∀m t,labS m t (22,a,b,c,obj,n,fo,ord,())=(t.1,t.2.2.2.2.1,17,t.2.2.2.1.getD b.toNat 0,-1,-1,0,0,0,()):=λ_ _=>rfl
  rw[e1];show(_,_,_,rg.getD b.toNat 0,_,_,_,_,_,_)=_;rw[Td hd]
 .rw[Tf hf (ho1 (by omega))]
  have:op=8\/op=9\/op=10\/op=11\/op=12\/op=14:=by omega
  rcases this with e | e | e | e | e | e<;>subst e<;>rfl
theorem Ti:aU aT.gd 42 Fz:=
 dQ (cx:=aT) (n:=91) (cl:=[(86,JW),(87,Np),(88,ahF),(89,RN),(90,abo)]) (rc:=[]) au ⟨agm,SA,agp,RP,agn,trivial⟩ Tryz.func42 λd hd=>by
  obtain⟨⟨th,⟨mv,mo,mq,mg,⟨⟩⟩,bf,⟨⟩⟩,⟨id,fn,pc,rg,st,ch,ph,su,fa,he,⟨⟩⟩,⟨op,a,b,c,obj,n,fo,ord,⟨⟩⟩,⟨⟩⟩:=d;exact aJ (λ_=>none) (aly th mv mo mq mg bf id fn pc rg st ch ph su fa he op a b c obj n fo ord hd) (by kernel_rfl)
abbrev Tj:CT:={ ps:=[Kr,dX,lJ],pre:=λd=>jX d.1.2.1 d.2.1 d.2.2.1/\d.1.1.length<=1000000,res:=λd=>([],vB (C9 d.1.1 d.1.2.1 d.2.1 d.2.2.1)) }
theorem alz(th:List TD) (mv mo:List Int) (mq:List (List Int)) (mg:List Int) (bf:List BD) (id fn pc:Int) (rg:List Int) (st ch ph su fa:Int) (he:List Int) (op a b c obj n fo ord:Int) (aF:Tj.pre ((th,(mv,mo,mq,mg,()),bf,()),(id,fn,pc,rg,st,ch,ph,su,fa,he,()),(op,a,b,c,obj,n,fo,ord,()),())):
 let z7:=(mv,mo,mq,mg,());let z3:=C9 th z7 (id,fn,pc,rg,st,ch,ph,su,fa,he,()) (op,a,b,c,obj,n,fo,ord,());let z2:=qB z3 true;let z5:=λ(d:Int)=>0<=eU (λt=>decide (t.fst=(th,d,()).snd.fst)) th;let z6:=λ(d:Int)=>eU (λt=>decide (t.fst=(th,d,()).snd.fst)) th;let z4:=λ(d:Int)=>dO (z6 d) (0:Int);let z1:=λ(dI:TD) (d:Int)=>!decide (dI.snd.snd.snd.snd.snd.snd.snd.fst=2) && decide (z5 d);br (decide (op=14)) (bI z7/\(0<=b/\b < 8)/\b.toNat < 8/\∀(d:Int),rg[b.toNat]?=some d->True/\qB z3 (!decide ((dZ fo ((wR z7 obj).fst,d,()).fst d).fst=0))) (br (decide (op=15)) (bI z7/\qB z3 (nJ z7 obj)) (br (decide (op=18)) (br (decide (ph=1)) (mg.length<=4611686018427387904/\qB z3 (dP mg id)) (br (decide (ph=2)) (bI z7/\qB z3 (nJ z7 n)) z2)) (br (decide (op=22)) ((0<=b/\b < 8)/\b.toNat < 8/\∀(d:Int),rg[b.toNat]?=some d->th.length<=1000000/\(decide (z5 d)=true->0<=dO (z6 d) (0:Int)/\dO (z6 d) 0 < (th.length:Int))/\∀(dI:TD),(decide (z5 d)=true->th[(z4 d).toNat]?=some dI)->((z1 dI d)=true->0<=dO (z6 d) (0:Int)/\dO (z6 d) 0 < (th.length:Int))/\∀(nU:TD),((z1 dI d)=true->th[(z4 d).toNat]?=some nU)->qB z3 (decide (z5 d) && (decide (dI.snd.snd.snd.snd.snd.snd.snd.fst=2) || decide (nU.snd.snd.snd.snd.snd.snd.snd.fst=3)))) z2))):=by
 conv=>zeta
 obtain⟨⟨⟨hM,hf,hT⟩,hb,hc,hv,ho1,ho2,ho3⟩,hl⟩:jX (mv,mo,mq,mg,()) (id,fn,pc,rg,st,ch,ph,su,fa,he,()) (op,a,b,c,obj,n,fo,ord,())/\th.length<=1000000:=aF;have hb:0<=b/\b < 8:=hb;have ho1:op<=14/\op≠13->0<=obj/\obj < (mv.length:Int):=ho1;have hb8:b.toNat < 8:=by omega
 have hg:mg.length<=4611686018427387904:=by have:mg.length<=1000:=hM.2.2.2.1;omega
 refine aO.2 ⟨λe=>⟨hM,hb,hb8,λd hd=>⟨trivial,jE ?_⟩⟩,λn1=>aO.2 ⟨λe=>⟨hM,jE ?_⟩,λn2=>aO.2 ⟨λe=>aO.2 ⟨λe2=>⟨hg,jE ?_⟩,λm1=>aO.2 ⟨λe2=>⟨hM,jE ?_⟩,λm2=>jE ?_⟩⟩,λn3=>aO.2 ⟨λe=>⟨hb,hb8,λd hd=>⟨hl,λq=>?_,λd1 h1=>⟨λq=>?_,λd2 h2=>jE ?_⟩⟩⟩,λn4=>jE ?_⟩⟩⟩⟩
 .subst e;have e1:∀l m t,C9 l m t (14,a,b,c,obj,n,fo,ord,())=decide ((dZ fo (m.1[obj.toNat]?.getD 0) (t.2.2.2.1.getD b.toNat 0)).1≠0):=λ_ _ _=>rfl
  rw[e1,<-decide_not];show decide ((dZ fo (mv[obj.toNat]?.getD 0) (rg.getD b.toNat 0)).1≠0)=_;rw[Td hd,Tf hf (ho1 (by omega))]
 .subst e;rfl
 .subst e;subst e2;rfl
 .subst e;subst e2;rfl
 .subst e;have e1:∀l m t,C9 l m t (18,a,b,c,obj,n,fo,ord,())=if t.2.2.2.2.2.2.1=1 then dP m.2.2.2.1 t.1 else if t.2.2.2.2.2.2.1=2 then nJ m n else true:=λ_ _ _=>rfl
  rw[e1];show(if ph=1 then _ else _)=_
  rw[if_neg m1,if_neg m2]
 .obtain⟨k,t,q1,q2,q3,q4⟩:=kL (Qn q);rw[q1];unfold dO;split<;>omega
 .rw[bY]at q;obtain⟨k,t,q1,q2,q3,q4⟩:=kL (Qn q.2);rw[q1];unfold dO;split<;>omega
 .subst e;have e1:∀l m t,C9 l m t (22,a,b,c,obj,n,fo,ord,())=(match yc l (t.2.2.2.1.getD b.toNat 0) with
   | some u=>decide (u.2.2.2.2.2.2.2.1=2) || decide (u.2.2.2.2.2.2.2.1=3)
   | none=>false):=λ_ _ _=>rfl
  rw[e1];show(match yc th (rg.getD b.toNat 0) with
   | some u=>decide (u.2.2.2.2.2.2.2.1=2) || decide (u.2.2.2.2.2.2.2.1=3)
   | none=>false)=_
  rw[Td hd];unfold yc
  by_cases q:0<=eU (λt=>decide (t.1=d)) th
  .obtain⟨k,t,q1,q2,q3,q4⟩:=kL q;have h1:=h1 (wX q);have ek:(dO (eU (λt=>decide (t.1=d)) th) 0).toNat=k:=by rw[q1];unfold dO;split<;>omega
   rw[ek,q2]at h1;have eq1:t=d1:=Ig h1;subst eq1;rw[q3,wX q,FM]
   by_cases s2:t.2.2.2.2.2.2.2.1=2
   .simp[s2]
   .have h2:=h2 (by rw[yw s2,wX q];rfl)
    rw[ek,q2]at h2;have eq2:t=d2:=Ig h2;subst eq2;simp[s2]
  .rw[o8 q,yw q];rfl
 .show C9 th _ _ _=_;unfold C9;rw[if_neg n1,if_neg n2,if_neg n3,if_neg n4]
theorem Tn:aU aT.gd 46 Tj:=
 dQ (cx:=aT) (n:=97) (cl:=[(96,afU),(87,Np),(97,RJ),(52,wS),(98,EO)]) (rc:=[]) au ⟨Sz,SA,JG,Dc,zu,trivial⟩ Tryz.func46 λd hd=>by
  obtain⟨⟨th,⟨mv,mo,mq,mg,⟨⟩⟩,bf,⟨⟩⟩,⟨id,fn,pc,rg,st,ch,ph,su,fa,he,⟨⟩⟩,⟨op,a,b,c,obj,n,fo,ord,⟨⟩⟩,⟨⟩⟩:=d;exact aJ (λ_=>none) (alz th mv mo mq mg bf id fn pc rg st ch ph su fa he op a b c obj n fo ord hd) (by kernel_rfl)
def zI:ID:=(0,0,0,0,0,0,0,0,())
def jH(e:Int) (ms:List ByteArray) (fs:List FD) (l:List TD) (id:Int):TD×ID×Bool:=match yc l id with
 | some t=>(t,(gQ e ms fs t).1,(gQ e ms fs t).2)
 | none=>(zT,zI,false)
def Qg(e:Int) (ms:List ByteArray) (fs:List FD) (l:List TD) (m:MD) (t:TD):Bool:=(gQ e ms fs t).2 && C9 l m t (gQ e ms fs t).1
def sS(e:Int) (ms:List ByteArray) (fs:List FD) (l:List TD) (m:MD):List TD->List Int:=λl'=>(l'.filter (Qg e ms fs l m)).map (·.1)
def wz(vs:List VD) (ms cs:List ByteArray) (fs:List FD) (ts:List SD) (l:List TD) (m:MD) (bf:List BD):List Int:=if vsB vs ms cs fs ts 32 l m bf=true then sS (aG vs ms cs fs ts).1 ms fs l m l else[]
theorem uU{e:Int}{l0:List TD}{d:TD} (h:l[k]?=some d):sS e ms fs l0 m (l.take (k+1))=sS e ms fs l0 m (l.take k)++if Qg e ms fs l0 m d=true then[d.1] else[]:=by
 unfold sS;rw[NQ,h,List.filter_append,NT]
 congr 1
 by_cases q:Qg e ms fs l0 m d=true
 .simp[q]
 .simp[q]
theorem abp{i:ID} (h:ug i=0) (hu:use i.1 6=false):i.2.2.2.2.2.2.2.1=0:=by
 unfold ug qy at h
 repeat' split at h
 all_goals first | (simp at h;done) | skip
 rename_i h1 h2 h3 h4 h5 h6;rw[hu]at h2;simp only[wC,bY,Kt]at h2
 by_cases q:i.2.2.2.2.2.2.2.1=0
 .exact q
 .exact absurd (.inr ⟨rfl,q⟩) h2
theorem Ns{e:Int}{t:TD} (h:(gQ e ms fs t).2=true):e=0/\t.2.2.2.2.2.2.2.1=1/\uh ms fs 32 t/\mZ fs t.2.1 t.2.2.1=some (gQ e ms fs t).1:=by
 unfold gQ at h ⊢
 split at h
 .rename_i q;rw[if_pos q];refine⟨q.1,q.2.1,q.2.2,?_⟩;unfold atR at h ⊢
  cases ha:mZ fs t.2.1 t.2.2.1 with
  | none=>rw[ha]at h;cases h
  | some i=>rfl
 .cases h
theorem rG{p:PD} (h:jA p m=true):(aG p.1 p.2.1 p.2.2.1 p.2.2.2.1 p.2.2.2.2.1).1=0/\dW m=true/\m.1.length=p.1.length/\m.2.1.length=p.2.1.length/\m.2.2.1.length=p.2.2.1.length:=by
 unfold jA at h;simp only[bY,dH]at h;exact⟨h.1.1.1.1,h.1.1.1.2,h.1.1.2,h.1.2,h.2⟩
theorem zO{vs:List VD}{t:TD} (hv:jA (vs,ms,cs,fs,ts,()) m=true) (hM:bI m) (hT:tB t) (h:(gQ (aG vs ms cs fs ts).1 ms fs t).2=true):
 jX m t (gQ (aG vs ms cs fs ts).1 ms fs t).1:=by
 obtain⟨e0,h1,h2,h3⟩:=Ns h;obtain⟨_,f,l1,l2,l3⟩:=rG hv;have l1:m.1.length=vs.length:=l1;have l3:m.2.2.1.length=cs.length:=l3;generalize (gQ (aG vs ms cs fs ts).1 ms fs t).1=i at h3;obtain⟨_,_,j,hj,vj,_⟩:=AV h2 h1;rw[h3]at hj;cases hj;have hf:=(AY (oV h2)).1;obtain⟨k1,k2,k3,k4⟩:=ql (BG e0 hf h3);obtain⟨r1,r2,r3,r4⟩:=kV k1;have vj:8<=i.1/\i.1<=22:=by unfold jw at vj;simpa using vj
 refine⟨⟨hM,f,hT⟩,r2,r3,vj,λq=>?_,λq=>?_,λq=>?_⟩
 .have e1:oQ vs ms cs fs i.1=vs.length:=by unfold oQ;rw[if_pos (by omega)]
  rw[e1]at k2;rw[l1];exact k2 (by omega)
 .have e1:oQ vs ms cs fs i.1=cs.length:=by unfold oQ;rw[if_neg (by omega),if_neg (by omega),if_pos (by omega)]
  rw[e1]at k2;rw[l3];exact k2 (by omega)
 .refine abp k1 ?_;have:i.1=13\/i.1=15\/i.1=16\/i.1=17\/i.1=18\/i.1=19\/i.1=20\/i.1=21\/i.1=22:=by omega
  rcases this with e | e | e | e | e | e | e | e | e<;>rw[e]<;>rfl
abbrev Tq:CT:={ ps:=[o9,Kr,.int .i64],pre:=λd=>bnd (d.1,())/\iJ d.2.1.1,res:=λd=>([],.gV [.dat dX (jH (aG d.1.1 d.1.2.1 d.1.2.2.1 d.1.2.2.2.1 d.1.2.2.2.2.1).1 d.1.2.1 d.1.2.2.2.1 d.2.1.1 d.2.2.1).1,agI ((jH (aG d.1.1 d.1.2.1 d.1.2.2.1 d.1.2.2.2.1 d.1.2.2.2.2.1).1 d.1.2.1 d.1.2.2.2.1 d.2.1.1 d.2.2.1).2.1),.c (.v (.bool ((jH (aG d.1.1 d.1.2.1 d.1.2.2.1 d.1.2.2.2.1 d.1.2.2.2.2.1).1 d.1.2.1 d.1.2.2.2.1 d.2.1.1 d.2.2.1).2.2)))]) }
theorem alA(vs:List VD) (ms cs:List ByteArray) (fs:List FD) (ts:List SD) (th:List TD) (mv mo:List Int) (mq:List (List Int)) (mg:List Int) (bf:List BD) (id:Int) (aF:Tq.pre ((vs,ms,cs,fs,ts,()),(th,(mv,mo,mq,mg,()),bf,()),id,())):
 let z9:=aG vs ms cs fs ts;let z7:=jH z9.fst ms fs th id;let z2:=[SV.dat dX z7.fst,agI (z7.snd.fst),cB (z7.snd.snd)];let z8:=eU (λt=>decide (t.fst=id)) th;let z4:=0<=dO z8 (0:Int)/\dO z8 0 < (th.length:Int);let z6:=dO z8 (0:Int);let z3:=λ(d:TD)=>(bnd ((vs,ms,cs,fs,ts,()),()))/\List.length d.snd.snd.snd.snd.snd.snd.snd.snd.snd.fst<=1000000/\d.fst<=9223372036854775807/\List.length d.snd.snd.snd.fst=8;let z5:=λ(dI d:TD)=>[SV.dat dX (dI),agI ((gQ z9.fst ms fs d).fst),cB ((gQ z9.fst ms fs d).snd)];let z1:=λ(dI d:TD)=>rT z2 (z5 dI d);th.length<=1000000/\br (!decide (0<=eU (λt=>decide (t.fst=id)) th)) (rT z2 [SV.dat dX (((0:Int),(0:Int),(0:Int),VQ,(0:Int),(0:Int),(0:Int),(0:Int),(0:Int),[],())),agI (0,0,0,0,0,0,0,0,()),cB false]) (z4/\∀(d:TD),th[z6.toNat]?=some d->((z3 d)/\z4/\∀(dI:TD),th[z6.toNat]?=some dI->(z1 dI d)/\rT z2 (z5 dI d))/\(z3 d)/\z4/\∀(dI:TD),th[z6.toNat]?=some dI->(z1 dI d)/\rT z2 (z5 dI d)):=by
 conv=>zeta
 delta VQ;obtain⟨hb,hl,hT⟩:bnd ((vs,ms,cs,fs,ts,()),())/\iJ th:=aF;refine⟨hl,ah.2 ⟨λh=>?_,λh=>?_⟩⟩
 .have q:¬0<=eU (λt=>decide (t.1=id)) th:=by simpa using h
  have e:jH (aG vs ms cs fs ts).1 ms fs th id=(zT,zI,false):=by unfold jH yc;rw[o8 q]
  rw[e];exact⟨rfl,rfl⟩
 .have q:0<=eU (λt=>decide (t.1=id)) th:=by simpa using h
  obtain⟨k,t,q1,q2,q3,q4⟩:=kL q;have ek:(dO (eU (λt=>decide (t.1=id)) th) 0).toNat=k:=by rw[q1];unfold dO;split<;>omega
  have hx:0<=dO (eU (λt=>decide (t.1=id)) th) 0/\dO (eU (λt=>decide (t.1=id)) th) 0 < (th.length:Int):=by rw[q1];unfold dO;split<;>omega
  have e:jH (aG vs ms cs fs ts).1 ms fs th id=(t,(gQ (aG vs ms cs fs ts).1 ms fs t).1,(gQ (aG vs ms cs fs ts).1 ms fs t).2):=by unfold jH yc;rw[q3]
  have key:∀d d1:TD,th[(dO (eU (λt=>decide (t.1=id)) th) 0).toNat]?=some d->th[(dO (eU (λt=>decide (t.1=id)) th) 0).toNat]?=some d1->rT [SV.dat dX (jH (aG vs ms cs fs ts).1 ms fs th id).1,agI (jH (aG vs ms cs fs ts).1 ms fs th id).2.1,cB (jH (aG vs ms cs fs ts).1 ms fs th id).2.2] [SV.dat dX d1,agI (gQ (aG vs ms cs fs ts).1 ms fs d).1,cB (gQ (aG vs ms cs fs ts).1 ms fs d).2]:=by
   intro d d1 h1 h2;rw[ek,q2]at h1 h2;have e1:t=d:=Ig h1;have e2:t=d1:=Ig h2;subst e1;subst e2;rw[e];exact⟨rfl,rfl⟩
  exact⟨hx,λd hd=>⟨⟨⟨hb,hT d (iy hd)⟩,hx,λd1 h1=>⟨key d d1 hd h1,key d d1 hd h1⟩⟩,⟨hb,hT d (iy hd)⟩,hx,λd1 h1=>⟨key d d1 hd h1,key d d1 hd h1⟩⟩⟩
theorem Tt:aU aT.gd 41 Tq:=
 dQ (cx:=aT) (n:=40) (cl:=[(52,wS),(45,Sj)]) (rc:=[.data dX,.keep,.keep]) au ⟨Dc,Sl,trivial⟩ Tryz.func41 λd hd=>by
  obtain⟨⟨vs,ms,cs,fs,ts,⟨⟩⟩,⟨th,⟨mv,mo,mq,mg,⟨⟩⟩,bf,⟨⟩⟩,id,⟨⟩⟩:=d;exact aJ (λ_=>none) (alA vs ms cs fs ts th mv mo mq mg bf id hd) (by kernel_rfl)
abbrev yg:CT:={ ps:=[o9,Kr],pre:=λd=>bnd (d.1,())/\iJ d.2.1.1/\bI d.2.1.2.1,res:=λd=>([],.one (.c (.sl (.int .i64) (wz d.1.1 d.1.2.1 d.1.2.2.1 d.1.2.2.2.1 d.1.2.2.2.2.1 d.2.1.1 d.2.1.2.1 d.2.1.2.2.1)))) }
abbrev aoa(vs:List VD) (ms cs:List ByteArray) (fs:List FD) (ts:List SD) (th:List TD) (mv mo:List Int) (mq:List (List Int)) (mg:List Int) (bf:List BD):Nat->Option (St->jv):=λk=>match k with
 | 5=>some λ_=>.inv { α:=Nat,nil:=[(5,3,.int .i64)],slots:=λk=>[(17,.c (.v (.int .i64 k))),(5,.c (.row 2))],res:=λk=>[(2,.row 3 (.int .i64) (sS (aG vs ms cs fs ts).1 ms fs th (mv,mo,mq,mg,()) (th.take k)))],inv:=λk=>k<=th.length,meas:=λk=>th.length - k }
 | _=>none
theorem alB(vs:List VD) (ms cs:List ByteArray) (fs:List FD) (ts:List SD) (th:List TD) (mv mo:List Int) (mq:List (List Int)) (mg:List Int) (bf:List BD) (aF:yg.pre ((vs,ms,cs,fs,ts,()),(th,(mv,mo,mq,mg,()),bf,()),())):
 let z7:=bnd ((vs,ms,cs,fs,ts,()),());let z10:=(mv,mo,mq,mg,());let z4:=aZ.one (SV.c (SC.sl I6 (wz vs ms cs fs ts th z10 bf)));let z11:=bP vs ms cs fs ts;let z8:=bZ th mv mo mq mg bf;let z9:=aG vs ms cs fs ts;let z2:=λ(x:Nat)=>sS z9.fst ms fs th z10 (List.take x th);let z1:=λ(x:Nat)=>[g0 z11,g0 z8,g0 (ay.row 3 I6 (z2 x))];let z6:=λ(d:TD)=>gQ z9.fst ms fs d;let z5:=λ(d:TD)=>(z6 d).fst;let z3:=λ(x x':Nat)=>cI ((x:Int)+(1:Int))=cI (x':Int)/\sm (SV.c (SC.row 2))/\True;(z7/\iJ th/\bI z10)/\br (!vsB vs ms cs fs ts (32:Int) th z10 bf) (rE z4 (aZ.one (SV.c (SC.sl I6 [])))) ((∃x,x<=th.length/\(cI 0=cI (x:Int)/\sm (SV.c (SC.row 2))/\True)/\[g0 z11,g0 z8,g0 (ay.row 3 I6 [])]=(z1 x))/\∀(x:Nat),x<=th.length->br (decide ((x:Int) < (th.length:Int))) ((0<=(x:Int)/\(x:Int) < (th.length:Int))/\∀(d:TD),th[(x:Int).toNat]?=some d->(z7/\List.length d.snd.snd.snd.snd.snd.snd.snd.snd.snd.fst<=1000000/\d.fst<=9223372036854775807/\List.length d.snd.snd.snd.fst=8)/\((z6 d).snd=true->jX z10 d (z5 d)/\th.length<=1000000)/\br ((z6 d).snd && C9 th z10 d (z5 d)) (nR (List.length (z2 x)+List.length ([(d).fst])) 8/\iR ((x:Int)+(1:Int))/\∃x',x'<=th.length/\(z3 x x')/\[g0 z11,g0 z8,g0 (ay.row 3 I6 (sS z9.fst ms fs th z10 (List.take x th)++[(d).fst]))]=(z1 x')/\th.length - x' < th.length - x) (iR ((x:Int)+(1:Int))/\∃x',x'<=th.length/\(z3 x x')/\(z1 x)=(z1 x')/\th.length - x' < th.length - x)) (rE z4 (aZ.one (SV.c (SC.sl I6 (z2 x)))))):=by
 conv=>zeta
 delta iR;obtain⟨hb,⟨hl,hT⟩,hM⟩:bnd ((vs,ms,cs,fs,ts,()),())/\iJ th/\bI (mv,mo,mq,mg,()):=aF;refine⟨⟨hb,⟨hl,hT⟩,hM⟩,ah.2 ⟨λh=>?_,λh=>⟨⟨0,by omega,⟨rfl,rfl,trivial⟩,by simp[sS]⟩,λk hk=>ah.2 ⟨λg=>?_,λg=>?_⟩⟩⟩⟩
 .have h:vsB vs ms cs fs ts 32 th (mv,mo,mq,mg,()) bf=false:=by simpa using h
  exact⟨rfl,by unfold wz;rw[h];rfl⟩
 .simp only[dH]at g;have hv:vsB vs ms cs fs ts 32 th (mv,mo,mq,mg,()) bf=true:=by simpa using h
  have hV:=jW.1 hv;have hle:(sS (aG vs ms cs fs ts).1 ms fs th (mv,mo,mq,mg,()) (th.take k)).length<=k:=by
   unfold sS;rw[VW];exact pq (TV _ _) (by rw[kX];omega)
  refine⟨⟨by omega,by omega⟩,λd hd=>⟨⟨hb,hT d (iy hd)⟩,λq=>⟨zO hV.1 hM (hT d (iy hd)) q,hl⟩,ah.2 ⟨λg2=>⟨eH.2 (by simp only[wV,J9];omega),ak.2 (by omega),k+1,by omega,⟨rfl,rfl,trivial⟩,?_,by omega⟩,λg2=>⟨ak.2 (by omega),k+1,by omega,⟨rfl,rfl,trivial⟩,?_,by omega⟩⟩⟩⟩
  .have hd:th[k]?=some d:=hd;rw[uU hd,if_pos (show Qg _ _ _ _ _ _=true from g2)]
  .have hd:th[k]?=some d:=hd;have g2:Qg (aG vs ms cs fs ts).1 ms fs th (mv,mo,mq,mg,()) d=false:=g2;rw[uU hd,g2];simp
 .simp only[eX]at g;have hv:vsB vs ms cs fs ts 32 th (mv,mo,mq,mg,()) bf=true:=by simpa using h
  have ek:k=th.length:=by omega
  subst ek;rw[wB (pz _)];exact⟨rfl,by unfold wz;rw[if_pos hv]⟩
theorem Tv:aU aT.gd 19 yg:=
 dQ (cx:=aT) (n:=41) (cl:=[(40,JU),(45,Sj),(46,Tj)]) (rc:=[.data (.sl (.int .i64))]) au ⟨JV,Sl,Tn,trivial⟩ Tryz.func19 λd hd=>by
  obtain⟨⟨vs,ms,cs,fs,ts,⟨⟩⟩,⟨th,⟨mv,mo,mq,mg,⟨⟩⟩,bf,⟨⟩⟩,⟨⟩⟩:=d;exact aJ (aoa vs ms cs fs ts th mv mo mq mg bf) (alB vs ms cs fs ts th mv mo mq mg bf hd) (by kernel_rfl)
def nV(vs:List VD) (ms cs:List ByteArray) (fs:List FD) (ts:List SD) (l:List TD) (m:MD) (bf:List BD) (id:Int):ED×Bool:=
 if vsB vs ms cs fs ts 32 l m bf=true then(if(jH (aG vs ms cs fs ts).1 ms fs l id).2.2=true then(labS m (jH (aG vs ms cs fs ts).1 ms fs l id).1 (jH (aG vs ms cs fs ts).1 ms fs l id).2.1,true) else(zE,false)) else(zE,false)
abbrev FB:CT:={ ps:=[o9,Kr,.int .i64],pre:=λd=>bnd (d.1,())/\iJ d.2.1.1/\bI d.2.1.2.1,res:=λd=>([],.gV [BK ((nV d.1.1 d.1.2.1 d.1.2.2.1 d.1.2.2.2.1 d.1.2.2.2.2.1 d.2.1.1 d.2.1.2.1 d.2.1.2.2.1 d.2.2.1).1),.c (.v (.bool ((nV d.1.1 d.1.2.1 d.1.2.2.1 d.1.2.2.2.1 d.1.2.2.2.2.1 d.2.1.1 d.2.1.2.1 d.2.1.2.2.1 d.2.2.1).2)))]) }
abbrev kq6:=[BK (0,0,0,0,0,0,0,0,0,()),cB false]
theorem alC(vs:List VD) (ms cs:List ByteArray) (fs:List FD) (ts:List SD) (th:List TD) (mv mo:List Int) (mq:List (List Int)) (mg:List Int) (bf:List BD) (id:Int) (aF:FB.pre ((vs,ms,cs,fs,ts,()),(th,(mv,mo,mq,mg,()),bf,()),id,())):
 let z7:=bnd ((vs,ms,cs,fs,ts,()),());let z8:=(mv,mo,mq,mg,());let z4:=nV vs ms cs fs ts th z8 bf id;let z2:=[BK (z4.fst),cB (z4.snd)];let z1:=rT z2 kq6;let z6:=jH (aG vs ms cs fs ts).fst ms fs th id;let z5:=z6.fst;let z3:=z6.snd.fst;(z7/\iJ th/\bI z8)/\br (!vsB vs ms cs fs ts (32:Int) th z8 bf) z1 ((z7/\iJ th)/\br (!z6.snd.snd) z1 (jX z8 z5 z3/\rT z2 [BK (labS z8 z5 z3),cB true])):=by
 conv=>zeta
 delta kq6;obtain⟨hb,hT,hM⟩:bnd ((vs,ms,cs,fs,ts,()),())/\iJ th/\bI (mv,mo,mq,mg,()):=aF;refine⟨⟨hb,hT,hM⟩,ah.2 ⟨λh=>?_,λh=>⟨⟨hb,hT⟩,ah.2 ⟨λh2=>?_,λh2=>⟨?_,?_⟩⟩⟩⟩⟩
 .have h:vsB vs ms cs fs ts 32 th (mv,mo,mq,mg,()) bf=false:=by simpa using h
  have e:nV vs ms cs fs ts th (mv,mo,mq,mg,()) bf id=(zE,false):=by unfold nV;rw[h];rfl
  rw[e];exact⟨rfl,rfl⟩
 all_goals have hv:vsB vs ms cs fs ts 32 th (mv,mo,mq,mg,()) bf=true:=by simpa using h
 .have h2:(jH (aG vs ms cs fs ts).1 ms fs th id).2.2=false:=by simpa using h2
  have e:nV vs ms cs fs ts th (mv,mo,mq,mg,()) bf id=(zE,false):=by unfold nV;rw[if_pos hv,h2];rfl
  rw[e];exact⟨rfl,rfl⟩
 all_goals have h2:(jH (aG vs ms cs fs ts).1 ms fs th id).2.2=true:=by simpa using h2
 .have h3:=h2;unfold jH at h3 ⊢;cases ef:yc th id with
  | none=>rw[ef]at h3;cases h3
  | some t=>
    rw[ef]at h3;exact zO (jW.1 hv).1 hM (hT.2 t (List.mem_of_find?_eq_some ef)) h3
 .have e:nV vs ms cs fs ts th (mv,mo,mq,mg,()) bf id=(labS (mv,mo,mq,mg,()) (jH (aG vs ms cs fs ts).1 ms fs th id).1 (jH (aG vs ms cs fs ts).1 ms fs th id).2.1,true):=by unfold nV;rw[if_pos hv,if_pos h2]
  rw[e];exact⟨rfl,rfl⟩
theorem Tz:aU aT.gd 16 FB:=
 dQ (cx:=aT) (n:=31) (cl:=[(40,JU),(41,Tq),(42,Fz)]) (rc:=[.keep,.keep]) au ⟨JV,Tt,Ti,trivial⟩ Tryz.func16 λd hd=>by
  obtain⟨⟨vs,ms,cs,fs,ts,⟨⟩⟩,⟨th,⟨mv,mo,mq,mg,⟨⟩⟩,bf,⟨⟩⟩,id,⟨⟩⟩:=d;exact aJ (λ_=>none) (alC vs ms cs fs ts th mv mo mq mg bf id hd) (by kernel_rfl)
abbrev shR:Sh:=.pair (.sl (.int .i64)) (.pair (.sl (.int .i64)) (.pair (.sl (.sl (.int .i64))) (.pair (.sl (.int .i64)) (.pair (.sl CZ) .unit))))
def zR:TD:=(0,0,0,List.replicate 8 0,0,0,0,0,0,[],())
open Classical in
def nG{α:Type} (a b:α):Bool:=decide (a=b)
theorem nX{α:Type}{a b:α}:nG a b=true↔a=b:=by unfold nG;exact @VU _ (Classical.propDecidable _)
theorem ou{α:Type}{a b:α} (h:a≠b):nG a b=false:=VN.2 λq=>h (nX.1 q)
theorem kM{α:Type}{a b:α} (h:a=b):nG a b=true:=nX.2 h
theorem JX{i f t:Int} (h:bI m):bI (jP m i id f t).1:=by
 have z:bI zM:=⟨by decide,by decide,by decide,by decide,by decide,by decide⟩
 unfold jP;split
 .split
  .exact z
  .split
   .obtain⟨h1,h2,h3⟩:=h;exact⟨h1,by rw[wW];exact h2,h3⟩
   .exact z
 .exact z
theorem aob{a b:List SV} (h:a=b):rT a b:=⟨rfl,by rw[h]⟩
def Gl(l:List BD):Prop:=l.length<=1000000/\∀b∈l,b.2.2.1.length<=1000000
def abq(z:ZD):Prop:=iJ z.1/\bI z.2.1/\Gl z.2.2.1
abbrev abr:CT:={ ps:=[wu,dX,lJ,shE],pre:=λd=>bI d.1/\d.2.1.1=d.2.2.2.1.1,res:=λd=>([],.gV [NK ((lS d.1 d.2.2.2.1).1),.c (.v (.int .i64 (Ba d.2.2.1 d.2.2.2.1))),.c (.v (.int .i64 ((lS d.1 d.2.2.2.1).2)))]) }
theorem alD(mv mo:List Int) (mq:List (List Int)) (mg:List Int) (id fn pc:Int) (rg:List Int) (st ch ph su fa:Int) (he:List Int) (op a b c obj n fo ord ag ix kd eo mx en ng rd wr:Int) (aF:abr.pre ((mv,mo,mq,mg,()),(id,fn,pc,rg,st,ch,ph,su,fa,he,()),(op,a,b,c,obj,n,fo,ord,()),(ag,ix,kd,eo,mx,en,ng,rd,wr,()),())):
 let z20:=(mv,mo,mq,mg,());let sO:=(ag,ix,kd,eo,mx,en,ng,rd,wr,());let z5:=lS z20 sO;let z4:=[NK (z5.fst),cI (Ba (op,a,b,c,obj,n,fo,ord,()) sO),cI (z5.snd)];let VR:=writeM z20 eo wr;let z13:=VR.fst;let wo:=VR.snd;let z2:=rT z4 [NK z20,cI rd,cI 0];let z3:=rT z4 [NK z20,cI 0,cI 0];let z12:=jP z20 eo id (-1:Int) id;let z7:=z12.fst;let z8:=z12.snd;let z10:=jP z20 eo id id (-1:Int);let z11:=jP z20 mx id id (-1:Int);let z9:=z11.fst;let z6:=xZ z9 eo id;let z18:=o7 z20 id;let z17:=uS z20 eo (1:Int);let NJ:=uS z20 eo (nK mq);let z1:=br (decide (kd=11)) (br (decide (rd=0)) z3 (bI z20/\rT z4 [NK z7,cI 1,cI z8])) (br (decide (kd=9)) (bI z20/\rT z4 [NK z7,cI 0,cI z8]) (br (decide (kd=10)) (bI z20/\rT z4 [NK (z10.fst),cI 0,cI (z10.snd)]) (br (decide (kd=12)) (bI z20/\br (decide (z11.snd=0)) (bI z9/\rT z4 [NK (z6.fst),cI 0,cI (z6.snd)]) (rT z4 [NK z9,cI 0,cI (z11.snd)])) (br (decide (kd=13)) (bI z20/\rT z4 [NK (z18.fst),cI 0,cI (z18.snd)]) (br (decide (kd=14)) (bI z20/\rT z4 [NK (z17.fst),cI 0,cI (z17.snd.snd)]) (br (decide (kd=15)) (bI z20/\rT z4 [NK (NJ.fst),cI 0,cI (NJ.snd.snd)]) (br (decide (kd=16)) (rT z4 [NK z20,cI eo,cI 0]) z3)))))));br (decide (kd=5)) (bI z20/\br (decide (op=12)) (rT z4 [NK z13,cI 1,cI wo]) (rT z4 [NK z13,cI rd,cI wo]))
 (br (decide (kd=2)) (bI z20/\rT z4 [NK z13,cI 0,cI wo]) (br (decide (kd=1)) (br (decide (kd=1)) z2 z1) (br (decide (kd=8)) z2 z1))):=by
 conv=>zeta
 obtain⟨hM,hid⟩:bI (mv,mo,mq,mg,())/\id=ag:=aF;subst hid;simp only[aO]
 repeat' (first | exact hM | exact JX hM | (refine aob ?_) | (refine And.intro ?_ ?_) | (intro _))
 all_goals first | exact hM | exact JX hM | trivial | (exfalso;omega) | (simp_all[lS,Ba];done) | skip
theorem agq:aU aT.gd 48 abr:=
 dQ (cx:=aT) (n:=132) (cl:=[(100,ak5),(101,aa1),(102,aa3),(103,aa7),(104,abd),(105,aa9),(106,abk)]) (rc:=[.data wu,.keep,.keep]) au ⟨aa0,aa2,aa4,aa8,abe,abb,abl,trivial⟩ Tryz.func48 λd hd=>by
  obtain⟨⟨mv,mo,mq,mg,⟨⟩⟩,⟨id,fn,pc,rg,st,ch,ph,su,fa,he,⟨⟩⟩,⟨op,a,b,c,obj,n,fo,ord,⟨⟩⟩,⟨ag,ix,kd,eo,mx,en,ng,rd,wr,⟨⟩⟩,⟨⟩⟩:=d;exact aJ (λ_=>none) (alD mv mo mq mg id fn pc rg st ch ph su fa he op a b c obj n fo ord ag ix kd eo mx en ng rd wr hd) (by kernel_rfl)
abbrev abt:CT:={ ps:=[.sl VB],pre:=λd=>d.1.length<=1000000,res:=λd=>([.row 67 VB d.1],.one (.c (.row 0))) }
theorem alE(l:List (Int×Int×Unit)) (aF:abt.pre (l,())):
 ∀(b:Bool),(b=true->l=[])->br b ([ay.row 67 lU l]=[ay.row 67 lU []]/\aZ.one (SV.c (SC.row 0))=aZ.one (SV.c (SC.row 0))) (nR (0+List.length (l)) 16/\[ay.row 67 lU l]=[ay.row 67 lU ([]++l)]/\aZ.one (SV.c (SC.row 0))=aZ.one (SV.c (SC.row 0))):=by
 have hp:l.length<=1000000:=aF;intro b hb;refine ah.2 ⟨λh=>by rw[hb h];exact⟨rfl,rfl⟩,λh=>⟨?_,by simp,rfl⟩⟩
 rw[eH];omega
theorem agr:aU aT.gd 59 abt:=
 Pg (il:=Zq) (rc:=[.row 67 VB]) (cx:=aT) (n:=8) (cl:=[]) (by kernel_rfl) au trivial trivial Tryz.func59 (by kernel_rfl) (by kernel_rfl) rfl (by kernel_rfl) (by kernel_rfl) λd hd=>by
  obtain⟨l,⟨⟩⟩:=d;exact aJ (λ_=>none) (alE l hd) (by kernel_rfl)
abbrev abu:CT:={ ps:=[Kr],pre:=λd=>abq d.1,res:=λd=>([.row 56 dX d.1.1],.one (.agg [.row 0,.sl (.int .i64) d.1.2.1.1,.sl (.int .i64) d.1.2.1.2.1,.sl (.sl (.int .i64)) d.1.2.1.2.2.1,.sl (.int .i64) d.1.2.1.2.2.2.1,.sl CZ d.1.2.2.1])) }
abbrev aoc(th:List TD) (mv mo:List Int) (mq:List (List Int)) (mg:List Int) (bf:List BD):Nat->Option (St->jv):=λk=>match k with
 | 5=>some λ_=>.inv { α:=Nat,slots:=λk=>[(23,.c (.v (.int .i64 k)))],res:=λk=>[(7,.row 56 dX th)],inv:=λk=>k<=th.length,meas:=λk=>th.length - k }
 | 12=>some λ_=>.inv { α:=Nat,slots:=λk=>[(52,.c (.v (.int .i64 k)))],res:=λk=>[(8,.row 65 CZ bf)],inv:=λk=>k<=bf.length,meas:=λk=>bf.length - k }
 | _=>none
abbrev Bc:=[iN,iN,iN,iN,iN,iN]
theorem alF(th:List TD) (mv mo:List Int) (mq:List (List Int)) (mg:List Int) (bf:List BD) (aF:abu.pre ((th,(mv,mo,mq,mg,()),bf,()),())):
 let z13:=bZ th mv mo mq mg bf;let z6:=[SC.row (Nat.succ 0).succ.succ.succ.succ.succ.succ,SC.row 2,SC.row 3,SC.row 4,SC.row 5,iN];let z11:=List.replicate (th.length:Int).toNat (zR:TD);let z4:=List.take (List.length z11) (th)++List.drop (List.length (th)) z11;let z2:=[g0 z13,g0 (ay.blk 37 Bc),g0 (ay.row 3 I6 mv),g0 (ay.row 3 I6 mo),g0 (ay.row 31 I6.sl mq),g0 (ay.row 3 I6 mg),g0 (ay.blk 37 z6),g0 (ay.row 56 dX th)];let z9:=λ(x:Nat)=>0<=(x:Int)/\(x:Int) < (th.length:Int);let z12:=λ(x:Nat)=>(x:Int)+(1:Int);let z5:=[SC.row (Nat.succ 0).succ.succ.succ.succ.succ.succ,SC.row 2,SC.row 3,SC.row 4,SC.row 5,SC.row (Nat.succ 0).succ.succ.succ.succ.succ.succ.succ];let z8:=List.replicate (bf.length:Int).toNat (((0:Int),(0:Int),[],()):BD);let z3:=List.take (List.length z8) (bf)++List.drop (List.length (bf)) z8;let z1:=[g0 z13,g0 (ay.blk 37 Bc),g0 (ay.row 3 I6 mv),g0 (ay.row 3 I6 mo),g0 (ay.row 31 I6.sl mq),g0 (ay.row 3 I6 mg),g0 (ay.blk 37 z5),g0 (ay.row 56 dX th),g0 (ay.row 65 CZ bf)];let z10:=λ(x:Nat)=>0<=(x:Int)/\(x:Int) < (bf.length:Int);let z7:=[SC.row 0,SC.sl I6 mv,SC.sl I6 mo,SC.sl I6.sl mq,SC.sl I6 mg,SC.sl CZ bf];bI (mv,mo,mq,mg,())/\(0<=(th.length:Int)/\(th.length:Int)<=(th.length:Int)/\nR (th.length:Int).toNat 152)/\(∃x,x<=th.length/\(cI 0=cI (x:Int)/\True)/\[g0 z13,g0 (ay.blk 37 Bc),g0 (ay.row 3 I6 mv),g0 (ay.row 3 I6 mo),g0 (ay.row 31 I6.sl mq),g0 (ay.row 3 I6 mg),g0 (ay.blk 37 z6),g0 (ay.row 56 dX z4)]=z2)/\∀(x:Nat),x<=th.length->br (decide ((x:Int) < (z4.length:Int))) ((z9 x)/\∀(d:TD),th[(x:Int).toNat]?=some d->List.length d.snd.snd.snd.snd.snd.snd.snd.snd.snd.fst<=1000000/\(z9 x)/\(x:Int).toNat < th.length/\∀(e:TD),th[(x:Int).toNat]?=some e->iR (z12 x)/\∃x',x'<=th.length/\(cI (z12 x)=cI (x':Int)/\True)/\[g0 z13,g0 (ay.blk 37 Bc),g0 (ay.row 3 I6 mv),g0 (ay.row 3 I6 mo),g0 (ay.row 31 I6.sl mq),g0 (ay.row 3 I6 mg),g0 (ay.blk 37 z6),g0 (ay.row 56 dX (th.set (x:Int).toNat (e.fst,e.2.fst,e.2.2.fst,e.2.2.2.fst,e.2.2.2.2.fst,e.2.2.2.2.2.fst,e.2.2.2.2.2.2.fst,e.2.2.2.2.2.2.2.fst,e.2.2.2.2.2.2.2.2.fst,d.snd.snd.snd.snd.snd.snd.snd.snd.snd.fst,e.2.2.2.2.2.2.2.2.2.snd)))]=z2/\th.length - x' < th.length - x) ((0<=(bf.length:Int)/\(bf.length:Int)<=(bf.length:Int)/\nR (bf.length:Int).toNat 40)/\(∃x,x<=bf.length/\(cI 0=cI (x:Int)/\True)/\[g0 z13,g0 (ay.blk 37 Bc),g0 (ay.row 3 I6 mv),g0 (ay.row 3 I6 mo),g0 (ay.row 31 I6.sl mq),g0 (ay.row 3 I6 mg),g0 (ay.blk 37 z5),g0 (ay.row 56 dX th),g0 (ay.row 65 CZ z3)]=z1)/\∀(x:Nat),x<=bf.length->br (decide ((x:Int) < (z3.length:Int))) ((z10 x)/\∀(d:BD),bf[(x:Int).toNat]?=some d->List.length d.snd.snd.fst<=1000000/\(z10 x)/\(x:Int).toNat < bf.length/\∀(e:BD),bf[(x:Int).toNat]?=some e->iR (z12 x)/\∃x',x'<=bf.length/\(cI (z12 x)=cI (x':Int)/\True)/\[g0 z13,g0 (ay.blk 37 Bc),g0 (ay.row 3 I6 mv),g0 (ay.row 3 I6 mo),g0 (ay.row 31 I6.sl mq),g0 (ay.row 3 I6 mg),g0 (ay.blk 37 z5),g0 (ay.row 56 dX th),g0 (ay.row 65 CZ (bf.set (x:Int).toNat (e.fst,e.2.fst,d.snd.snd.fst,e.2.2.snd)))]=z1/\bf.length - x' < bf.length - x) ([ay.row 56 dX th]=[ay.row 56 dX th]/\aZ.one (SV.agg z7)=aZ.one (SV.agg z7))):=by
 conv=>zeta
 delta Bc iR iN;obtain⟨⟨hl,hT⟩,hM,hB,hb⟩:iJ th/\bI (mv,mo,mq,mg,())/\Gl bf:=aF;have tk:∀{α:Type} (l:List α) (z:α),List.take (List.length (List.replicate (l.length:Int).toNat z)) l++List.drop (List.length l) (List.replicate (l.length:Int).toNat z)=l:=by
  intro α l z;rw[J6,A95,wB (pz _),VK (by rw[J6];omega),Qo]
 have st:∀{α:Type}{l:List α}{k:Nat}{d:α},l[k]?=some d->l.set k d=l:=λh=>gX h
 rw[tk th,tk bf];refine⟨hM,⟨by omega,by omega,eH.2 (by omega)⟩,⟨0,by omega,⟨rfl,trivial⟩,rfl⟩,λk hk=>ah.2 ⟨λg=>?_,λg=>⟨⟨by omega,by omega,eH.2 (by omega)⟩,⟨0,by omega,⟨rfl,trivial⟩,rfl⟩,λk hk=>ah.2 ⟨λg=>?_,λg=>?_⟩⟩⟩⟩
 .simp only[dH]at g;refine⟨⟨by omega,by omega⟩,λd hd=>⟨(hT d (iy hd)).1,⟨by omega,by omega⟩,by omega,λe he=>⟨ak.2 (by omega),k+1,by omega,⟨rfl,trivial⟩,?_,by omega⟩⟩⟩
  have hd:th[(k:Int).toNat]?=some d:=hd;rw[hd]at he;have e1:d=e:=Ig he;subst e1;have:th.set (k:Int).toNat d=th:=st hd;exact rJ (λz=>[_,_,_,_,_,_,_,g0 (ay.row 56 dX z)]) this
 .simp only[dH]at g;refine⟨⟨by omega,by omega⟩,λd hd=>⟨hb d (iy hd),⟨by omega,by omega⟩,by omega,λe he=>⟨ak.2 (by omega),k+1,by omega,⟨rfl,trivial⟩,?_,by omega⟩⟩⟩
  have hd:bf[(k:Int).toNat]?=some d:=hd;rw[hd]at he;have e1:d=e:=Ig he;subst e1;have:bf.set (k:Int).toNat d=bf:=st hd;exact rJ (λz=>[_,_,_,_,_,_,_,_,g0 (ay.row 65 CZ z)]) this
 .exact⟨rfl,rfl⟩
theorem ags:aU aT.gd 23 abu:=
 dQ (cx:=aT) (n:=69) (cl:=[(49,BI),(58,vU),(59,abt)]) (rc:=[.hd 56 dX shR]) au ⟨rD,CQ,agr,trivial⟩ Tryz.func23 λd hd=>by
  obtain⟨⟨th,⟨mv,mo,mq,mg,⟨⟩⟩,bf,⟨⟩⟩,⟨⟩⟩:=d;exact aJ (aoc th mv mo mq mg bf) (alF th mv mo mq mg bf hd) (by kernel_rfl)
abbrev abv:CT:={ ps:=[dX,dX],pre:=λd=>d.1.2.2.2.2.2.2.2.2.2.1.length<=1000000,res:=λd=>([],vB (nG d.1 d.2.1)) }
theorem alG(id fn pc:Int) (rg:List Int) (st ch ph su fa:Int) (he:List Int) (id2 fn2 pc2:Int) (rg2:List Int) (st2 ch2 ph2 su2 fa2:Int) (he2:List Int) (aF:abv.pre ((id,fn,pc,rg,st,ch,ph,su,fa,he,()),(id2,fn2,pc2,rg2,st2,ch2,ph2,su2,fa2,he2,()),())):
 let z1:=nG (id,fn,pc,rg,st,ch,ph,su,fa,he,()) (id2,fn2,pc2,rg2,st2,ch2,ph2,su2,fa2,he2,());br (!decide (id=id2) || !decide (fn=fn2) || !decide (pc=pc2) || !decide (rg=rg2) || !decide (st=st2) || !decide (ch=ch2)) (qB z1 false) (((decide (ph=ph2) && decide (su=su2) && decide (fa=fa2))=true->he.length<=1000000)/\qB z1 (decide (ph=ph2) && decide (su=su2) && decide (fa=fa2) && decide (he=he2))):=by
 conv=>zeta
 have hp:he.length<=1000000:=aF;refine ah.2 ⟨λh=>⟨rfl,?_⟩,λh=>⟨λ_=>hp,jE ?_⟩⟩
 .rw[ou];intro q;simp only[Ij]at q;simp[q]at h
 .rw[FK,nX];simp only[l7,wU,dH]at h;simp only[Ij,bY,dH,h,true_and];constructor
  .rintro⟨h1,h2,h3,h4,_⟩;exact⟨⟨⟨h1,h2⟩,h3⟩,h4⟩
  .rintro⟨⟨⟨h1,h2⟩,h3⟩,h4⟩;exact⟨h1,h2,h3,h4,trivial⟩
theorem agt:aU aT.gd 62 abv:=
 dQ (cx:=aT) (n:=71) (cl:=[(127,uQ)]) (rc:=[]) au ⟨Fq,trivial⟩ Tryz.func62 λd hd=>by
  obtain⟨⟨id,fn,pc,rg,st,ch,ph,su,fa,he,⟨⟩⟩,⟨id2,fn2,pc2,rg2,st2,ch2,ph2,su2,fa2,he2,⟨⟩⟩,⟨⟩⟩:=d;exact aJ (λ_=>none) (alG id fn pc rg st ch ph su fa he id2 fn2 pc2 rg2 st2 ch2 ph2 su2 fa2 he2 hd) (by kernel_rfl)
abbrev abw:CT:={ ps:=[.sl dX,.sl dX],pre:=λd=>d.1.length<=1000000/\∀q∈d.1,q.2.2.2.2.2.2.2.2.2.1.length<=1000000,res:=λd=>([],vB (nG d.1 d.2.1)) }
abbrev aog(l m:List TD):Nat->Option (St->jv):=λk=>match k with
 | 4=>some λ_=>.inv { α:=Nat,slots:=λk=>[(17,.c (.v (.int .i64 k)))],res:=λk=>[],inv:=λk=>k<=(l).length/\∀j < k,l[j]?=m[j]?,meas:=λk=>(l).length - k }
 | _=>none
theorem alH(l m:List TD) (aF:abw.pre (l,m,())):
 let z1:=λ(x:Nat)=>(x<=l.length/\∀(j:Nat),j < x->l[j]?=m[j]?);br (!decide ((l.length:Int)=(m.length:Int))) (qB (nG l m) false) ((∃x,(z1 x)/\(cI 0=cI (x:Int)/\True)/\([]:List dJ)=[])/\∀(x:Nat),(z1 x)->br (decide ((x:Int) < (l.length:Int))) ((0<=(x:Int)/\(x:Int) < (l.length:Int))/\∀(d:TD),l[(x:Int).toNat]?=some d->(0<=(x:Int)/\(x:Int) < (m.length:Int))/\∀(dI:TD),m[(x:Int).toNat]?=some dI->List.length d.snd.snd.snd.snd.snd.snd.snd.snd.snd.fst<=1000000/\br (!nG d dI) (qB (nG l m) false) (iR ((x:Int)+(1:Int))/\∃x',(z1 x')/\(cI ((x:Int)+(1:Int))=cI (x':Int)/\True)/\([]:List dJ)=[]/\l.length - x' < l.length - x)) (qB (nG l m) true)):=by
 conv=>zeta
 delta dJ iR;obtain⟨hp,h6⟩:l.length<=1000000/\∀q∈l,q.2.2.2.2.2.2.2.2.2.1.length<=1000000:=aF;have fF:l≠m->qB (nG l m) false:=λq=>⟨rfl,by rw[ou q]⟩
 refine ah.2 ⟨λh=>fF λq=>?_,λh=>?_⟩
 .subst q;simp at h
 simp only[wU,dH]at h;refine⟨⟨0,⟨by omega,λj hj=>by omega⟩,⟨rfl,trivial⟩,rfl⟩,λk hk=>ah.2 ⟨λg=>?_,λg=>?_⟩⟩
 .simp only[dH]at g;refine⟨⟨by omega,by omega⟩,λd hd=>⟨⟨by omega,by omega⟩,λd1 hd1=>⟨h6 d (iy hd),ah.2 ⟨λg2=>fF λq=>?_,λg2=>⟨ak.2 (by omega),k+1,⟨by omega,λj hj=>?_⟩,⟨rfl,trivial⟩,rfl,by omega⟩⟩⟩⟩⟩
  .subst q;rw[hd]at hd1;cases hd1;rw[kM rfl]at g2;cases g2
  .by_cases gU:j=k
   .subst gU;have hd:l[j]?=some d:=hd;have hd1:m[j]?=some d1:=hd1;have g2:=nX.1 (show nG d d1=true by simpa using g2)
    rw[hd,hd1,g2]
   .exact hk.2 j (by omega)
 simp only[eX]at g;have e:l=m:=by
  apply Ie;intro j
  by_cases hj:j < k
  .exact hk.2 j hj
  .rw[BL (by omega),BL (by omega)]
 exact⟨rfl,by rw[kM e]⟩
theorem abx:Jl Tryz.prog aT.gd 61 [.func (.func 62) #[] #[]] abw:=
 (nT (cx:=aT) (n:=32) (cl:=[(62,abv)]) (il:=Zq) (hl:=hlN) (ml:=mlN) (rc:=[]) (lits:=[]) (suf:=[.func (.func 62) #[] #[]]) (by kernel_rfl) au ⟨agt,trivial⟩ trivial trivial trivial Tryz.func61 (by kernel_rfl) (by kernel_rfl) rfl (by kernel_rfl) (by kernel_rfl) (by simp) λd hd=>by
  obtain⟨l,m,⟨⟩⟩:=d;exact aJ (aog l m) (alH l m hd) (by kernel_rfl))
abbrev aby:CT:={ ps:=[.sl VB,.sl VB],pre:=λd=>d.1.length<=1000000,res:=λd=>([],vB (nG d.1 d.2.1)) }
abbrev alI(l m:List (Int×Int×Unit)):Nat->Option (St->jv):=λk=>match k with
 | 4=>some λ_=>.inv { α:=Nat,slots:=λk=>[(13,.c (.v (.int .i64 k)))],res:=λk=>[],inv:=λk=>k<=(l).length/\∀j < k,l[j]?=m[j]?,meas:=λk=>(l).length - k }
 | _=>none
theorem agu(l m:List (Int×Int×Unit)) (aF:aby.pre (l,m,())):
 let z1:=λ(x:Nat)=>(x<=l.length/\∀(j:Nat),j < x->l[j]?=m[j]?);br (!decide ((l.length:Int)=(m.length:Int))) (qB (nG l m) false) ((∃x,(z1 x)/\(cI 0=cI (x:Int)/\True)/\([]:List dJ)=[])/\∀(x:Nat),(z1 x)->br (decide ((x:Int) < (l.length:Int))) ((0<=(x:Int)/\(x:Int) < (l.length:Int))/\∀(d:Int×(I6.pair Sh.unit).den),l[(x:Int).toNat]?=some d->(0<=(x:Int)/\(x:Int) < (m.length:Int))/\∀(dI:Int×(I6.pair Sh.unit).den),m[(x:Int).toNat]?=some dI->br (!(true && d.fst == dI.fst && d.snd.fst == dI.snd.fst)) (qB (nG l m) false) (iR ((x:Int)+(1:Int))/\∃x',(z1 x')/\(cI ((x:Int)+(1:Int))=cI (x':Int)/\True)/\([]:List dJ)=[]/\l.length - x' < l.length - x)) (qB (nG l m) true)):=by
 conv=>zeta
 delta dJ iR;have hp:l.length<=1000000:=aF;have fF:l≠m->qB (nG l m) false:=λq=>⟨rfl,by rw[ou q]⟩
 refine ah.2 ⟨λh=>fF λq=>?_,λh=>?_⟩
 .subst q;simp at h
 simp only[wU,dH]at h;refine⟨⟨0,⟨by omega,λj hj=>by omega⟩,⟨rfl,trivial⟩,rfl⟩,λk hk=>ah.2 ⟨λg=>?_,λg=>?_⟩⟩
 .simp only[dH]at g;refine⟨⟨by omega,by omega⟩,λd hd=>⟨⟨by omega,by omega⟩,λd1 hd1=>ah.2 ⟨λg2=>fF λq=>?_,λg2=>⟨ak.2 (by omega),k+1,⟨by omega,λj hj=>?_⟩,⟨rfl,trivial⟩,rfl,by omega⟩⟩⟩⟩
  .subst q;rw[hd]at hd1;cases hd1;simp at g2
  .by_cases gU:j=k
   .subst gU;have hd:l[j]?=some d:=hd;have hd1:m[j]?=some d1:=hd1;have g2:d=d1:=by
     obtain⟨x,y,⟨⟩⟩:=d;obtain⟨x1,y1,⟨⟩⟩:=d1;simpa using g2
    rw[hd,hd1,g2]
   .exact hk.2 j (by omega)
 simp only[eX]at g;have e:l=m:=by
  apply Ie;intro j
  by_cases hj:j < k
  .exact hk.2 j hj
  .rw[BL (by omega),BL (by omega)]
 exact⟨rfl,by rw[kM e]⟩
theorem abz:aU aT.gd 130 aby:=
 dQ (cx:=aT) (n:=26) (cl:=[]) (rc:=[]) au trivial Tryz.func130 λd hd=>by
  obtain⟨l,m,⟨⟩⟩:=d;exact aJ (alI l m) (agu l m hd) (by kernel_rfl)
abbrev abA:CT:={ ps:=[CZ,CZ],pre:=λd=>d.1.2.2.1.length<=1000000,res:=λd=>([],vB (nG d.1 d.2.1)) }
theorem alJ(b1 b2:Int) (bl:List (Int×Int×Unit)) (c1 c2:Int) (cl:List (Int×Int×Unit)) (aF:abA.pre ((b1,b2,bl,()),(c1,c2,cl,()),())):
 ((decide (b1=c1) && decide (b2=c2))=true->bl.length<=1000000)/\qB (nG (b1,b2,bl,()) (c1,c2,cl,())) (decide (b1=c1) && decide (b2=c2) && nG bl cl):=by
 have hp:bl.length<=1000000:=aF;refine⟨λ_=>hp,jE ?_⟩
 rw[FK,nX];simp only[Ij,bY,dH,nX];constructor
 .rintro⟨h1,h2,h3,_⟩;exact⟨⟨h1,h2⟩,h3⟩
 .rintro⟨⟨h1,h2⟩,h3⟩;exact⟨h1,h2,h3,trivial⟩
theorem agv:aU aT.gd 64 abA:=
 dQ (cx:=aT) (n:=24) (cl:=[(130,aby)]) (rc:=[]) au ⟨abz,trivial⟩ Tryz.func64 λd hd=>by
  obtain⟨⟨b1,b2,bl,⟨⟩⟩,⟨c1,c2,cl,⟨⟩⟩,⟨⟩⟩:=d;exact aJ (λ_=>none) (alJ b1 b2 bl c1 c2 cl hd) (by kernel_rfl)
abbrev abB:CT:={ ps:=[.sl CZ,.sl CZ],pre:=λd=>Gl d.1,res:=λd=>([],vB (nG d.1 d.2.1)) }
abbrev aoh(l m:List BD):Nat->Option (St->jv):=λk=>match k with
 | 4=>some λ_=>.inv { α:=Nat,slots:=λk=>[(17,.c (.v (.int .i64 k)))],res:=λk=>[],inv:=λk=>k<=(l).length/\∀j < k,l[j]?=m[j]?,meas:=λk=>(l).length - k }
 | _=>none
theorem alK(l m:List BD) (aF:abB.pre (l,m,())):
 let z1:=λ(x:Nat)=>(x<=l.length/\∀(j:Nat),j < x->l[j]?=m[j]?);br (!decide ((l.length:Int)=(m.length:Int))) (qB (nG l m) false) ((∃x,(z1 x)/\(cI 0=cI (x:Int)/\True)/\([]:List dJ)=[])/\∀(x:Nat),(z1 x)->br (decide ((x:Int) < (l.length:Int))) ((0<=(x:Int)/\(x:Int) < (l.length:Int))/\∀(d:BD),l[(x:Int).toNat]?=some d->(0<=(x:Int)/\(x:Int) < (m.length:Int))/\∀(dI:BD),m[(x:Int).toNat]?=some dI->List.length d.snd.snd.fst<=1000000/\br (!nG d dI) (qB (nG l m) false) (iR ((x:Int)+(1:Int))/\∃x',(z1 x')/\(cI ((x:Int)+(1:Int))=cI (x':Int)/\True)/\([]:List dJ)=[]/\l.length - x' < l.length - x)) (qB (nG l m) true)):=by
 conv=>zeta
 delta dJ iR;obtain⟨hp,h6⟩:l.length<=1000000/\∀q∈l,q.2.2.1.length<=1000000:=aF;have fF:l≠m->qB (nG l m) false:=λq=>⟨rfl,by rw[ou q]⟩
 refine ah.2 ⟨λh=>fF λq=>?_,λh=>?_⟩
 .subst q;simp at h
 simp only[wU,dH]at h;refine⟨⟨0,⟨by omega,λj hj=>by omega⟩,⟨rfl,trivial⟩,rfl⟩,λk hk=>ah.2 ⟨λg=>?_,λg=>?_⟩⟩
 .simp only[dH]at g;refine⟨⟨by omega,by omega⟩,λd hd=>⟨⟨by omega,by omega⟩,λd1 hd1=>⟨h6 d (iy hd),ah.2 ⟨λg2=>fF λq=>?_,λg2=>⟨ak.2 (by omega),k+1,⟨by omega,λj hj=>?_⟩,⟨rfl,trivial⟩,rfl,by omega⟩⟩⟩⟩⟩
  .subst q;rw[hd]at hd1;cases hd1;rw[kM rfl]at g2;cases g2
  .by_cases gU:j=k
   .subst gU;have hd:l[j]?=some d:=hd;have hd1:m[j]?=some d1:=hd1;have g2:=nX.1 (show nG d d1=true by simpa using g2)
    rw[hd,hd1,g2]
   .exact hk.2 j (by omega)
 simp only[eX]at g;have e:l=m:=by
  apply Ie;intro j
  by_cases hj:j < k
  .exact hk.2 j hj
  .rw[BL (by omega),BL (by omega)]
 exact⟨rfl,by rw[kM e]⟩
theorem abC:Jl Tryz.prog aT.gd 63 [.func (.func 64) #[] #[]] abB:=
 (nT (cx:=aT) (n:=32) (cl:=[(64,abA)]) (il:=Zq) (hl:=hlN) (ml:=mlN) (rc:=[]) (lits:=[]) (suf:=[.func (.func 64) #[] #[]]) (by kernel_rfl) au ⟨agv,trivial⟩ trivial trivial trivial Tryz.func63 (by kernel_rfl) (by kernel_rfl) rfl (by kernel_rfl) (by kernel_rfl) (by simp) λd hd=>by
  obtain⟨l,m,⟨⟩⟩:=d;exact aJ (aoh l m) (alK l m hd) (by kernel_rfl))
abbrev abD:CT:={ ps:=[Kr,Kr],pre:=λd=>abq d.1,res:=λd=>([],vB (nG d.1 d.2.1)) }
abbrev ap0:List (Nat×Nat×CT):=[(61,62,abw),(63,64,abB)]
theorem alL(th:List TD) (mv mo:List Int) (mq:List (List Int)) (mg:List Int) (bf:List BD) (th2:List TD) (mv2 mo2:List Int) (mq2:List (List Int)) (mg2:List Int) (bf2:List BD) (aF:abD.pre ((th,(mv,mo,mq,mg,()),bf,()),(th2,(mv2,mo2,mq2,mg2,()),bf2,()),())):
 let z2:=(mv,mo,mq,mg,());let z1:=z2=(mv2,mo2,mq2,mg2,());bI z2/\(decide z1=true->th.length<=1000000/\∀(q:TD),q∈th->List.length q.snd.snd.snd.snd.snd.snd.snd.snd.snd.fst<=1000000)/\((decide z1 && nG th th2)=true->Gl bf)/\qB (nG (th,z2,bf,()) (th2,(mv2,mo2,mq2,mg2,()),bf2,())) (decide z1 && nG th th2 && nG bf bf2):=by
 conv=>zeta
 obtain⟨⟨hl,hT⟩,hM,hB⟩:iJ th/\bI (mv,mo,mq,mg,())/\Gl bf:=aF;refine⟨hM,λ_=>⟨hl,λq hq=>(hT q hq).1⟩,λ_=>hB,jE ?_⟩
 rw[FK,nX];simp only[bY,dH,nX];constructor
 .intro h;have h:=Prod.mk.inj h;have h2:=Prod.mk.inj h.2;have h3:=Prod.mk.inj h2.2;exact⟨⟨h2.1,h.1⟩,h3.1⟩
 .rintro⟨⟨h1,h2⟩,h3⟩;rw[h1,h2,h3]
theorem agw:aU aT.gd 24 abD:=
 (nT (cx:=aT) (n:=24) (cl:=[(60,P8)]) (il:=Zq) (hl:=ap0) (ml:=mlN) (rc:=[]) (lits:=[]) (suf:=[]) (by kernel_rfl) au ⟨agd,trivial⟩ trivial ⟨abx,abC,trivial⟩ trivial Tryz.func24 (by kernel_rfl) (by kernel_rfl) rfl (by kernel_rfl) (by kernel_rfl) (by simp) λd hd=>by
  obtain⟨⟨th,⟨mv,mo,mq,mg,⟨⟩⟩,bf,⟨⟩⟩,⟨th2,⟨mv2,mo2,mq2,mg2,⟨⟩⟩,bf2,⟨⟩⟩,⟨⟩⟩:=d;exact aJ (λ_=>none) (alL th mv mo mq mg bf th2 mv2 mo2 mq2 mg2 bf2 hd) (by kernel_rfl)).met
def uV(m:MD):Bool:=decide (m.1.length<=20) && decide (m.2.1.length<=20) && decide (m.2.2.1.length<=20) && decide (m.2.2.2.1.length<=60) && m.2.2.1.all (λq=>decide (q.length<=60))
theorem vY(h:uV m=true):bI m:=by
 obtain⟨vs,os,qs,sg,⟨⟩⟩:=m;unfold uV at h;simp only[bY,NH,dH]at h;obtain⟨⟨⟨⟨h1,h2⟩,h3⟩,h4⟩,h5⟩:=h;refine⟨by show vs.length<=1000;omega,by show os.length<=1000;omega,by show qs.length<=1000;omega,by show sg.length<=1000;omega,λq hq=>by have:=h5 q hq;omega,?_⟩
 have key:∀l:List (List Int),(∀q∈l,q.length<=60)->l.flatten.length<=60 * l.length:=by
  intro l
  induction l with
  | nil=>intro _;simp
  | cons a l ih=>
    intro hl;have:=ih λq hq=>hl q (by simp[hq])
    have:=hl a (by simp)
    simp only[NS,kC,wV];omega
 have:=key qs h5;show qs.flatten.length<=100000;omega
theorem Nu:∀(qs:List (List Int)) (k:Nat) (d:List Int) (x:Int),qs[k]?=some d->((qs.set k (d++[x])).flatten).Perm (x :: qs.flatten)
 | [],k,d,x,h=>by simp at h
 | q :: qs,0,d,x,h=>by
   simp only[A99,A94]at h;subst h;simp only[V4,NS,zX,ahR];exact List.perm_middle
 | q :: qs,k+1,d,x,h=>by
   rw[acv]at h;have ih:=Nu qs k d x h;simp only[ahU,NS];exact(ih.append_left q).trans List.perm_middle
theorem Ib:oZ m id=true↔id∈m.2.2.2.1++m.2.2.1.flatten:=by
 unfold oZ;rw[wC,Ku,oO,FI,List.mem_flatten];constructor
 .rintro(⟨q,h1,h2⟩ | h)
  .exact .inr ⟨q,h1,oO.1 h2⟩
  .exact .inl h
 .rintro(h | ⟨q,h1,h2⟩)
  .exact .inr h
  .exact .inl ⟨q,h1,oO.2 h2⟩
theorem abE(hB:dW (vs,os,qs,sg,())=true){d:List Int} (hk:qs[k]?=some d) (h0:0<=id):
 dW (vs,os,qs.set k (d++[id]),sg,()) = !oZ (vs,os,qs,sg,()) id:=by
 obtain⟨q1,q2,q3,q4,q5,q6,q7,q8⟩:vs.length<=8/\os.length<=4/\qs.length<=4/\SS sg/\(∀v∈vs,bW v=true)/\(∀o∈os,-1<=o)/\(∀x∈sg++qs.flatten,0<=x)/\(sg++qs.flatten).Nodup:=fK.1 hB;have hp:(sg++(qs.set k (d++[id])).flatten).Perm (id :: (sg++qs.flatten)):=((Nu qs k d id hk).append_left sg).trans List.perm_middle;rw[FK,fK,Di,VN];constructor
 .intro h w;obtain⟨_,_,_,_,_,_,_,p8⟩:vs.length<=8/\os.length<=4/\(qs.set k (d++[id])).length<=4/\SS sg/\(∀v∈vs,bW v=true)/\(∀o∈os,-1<=o)/\(∀x∈sg++(qs.set k (d++[id])).flatten,0<=x)/\(sg++(qs.set k (d++[id])).flatten).Nodup:=h;exact(Uc.1 (hp.nodup_iff.1 p8)).1 (Ib.1 w)
 .intro w;refine(⟨q1,q2,by rw[wW];exact q3,q4,q5,q6,λx hx=>?_,hp.nodup_iff.2 (Uc.2 ⟨λhm=>w (Ib.2 hm),q8⟩)⟩:HY (vs,os,qs.set k (d++[id]),sg,()))
  rcases ni.1 (hp.mem_iff.1 hx) with rfl | hx
  .exact h0
  .exact q7 x hx
theorem uX(h:uV (vs,os,qs,sg,())=true):vs.length<=20/\os.length<=20/\qs.length<=20/\sg.length<=60/\∀q∈qs,q.length<=60:=by
 unfold uV at h;simp only[bY,NH,dH]at h;obtain⟨⟨⟨⟨h1,h2⟩,h3⟩,h4⟩,h5⟩:=h;exact⟨h1,h2,h3,h4,h5⟩
theorem abG(h1:vs.length<=20) (h2:os.length<=20) (h3:qs.length<=20) (h4:sg.length<=200) (h5:∀q∈qs,q.length<=61):bI (vs,os,qs,sg,()):=by
 have key:∀l:List (List Int),(∀q∈l,q.length<=61)->l.flatten.length<=61 * l.length:=by
  intro l
  induction l with
  | nil=>intro _;simp
  | cons a l ih=>
    intro hl;have:=ih λq hq=>hl q (by simp[hq])
    have:=hl a (by simp)
    simp only[NS,kC,wV];omega
 have h6:=key qs h5;exact⟨by show vs.length<=1000;omega,by show os.length<=1000;omega,by show qs.length<=1000;omega,by show sg.length<=1000;omega,λq hq=>by have:=h5 q hq;omega,by show qs.flatten.length<=100000;omega⟩
theorem TA{s:List Int} (h:uV (vs,os,qs,sg,())=true){q:List Int} (hq:q.length<=61) (hs:s.length<=200):bI (vs,os,qs.set k q,s,()):=by
 obtain⟨h1,h2,h3,h4,h5⟩:=uX h;refine abG h1 h2 (by rw[wW];exact h3) hs λx hx=>?_
 rcases Ic hx with hx | rfl
 .have:=h5 x hx;omega
 .exact hq
theorem abH(h:uV (vs,os,qs,sg,())=true) (k:Nat):(qs[k]?.getD []).length<=60:=by
 cases hk:qs[k]? with
 | none=>simp
 | some d=>exact(uX h).2.2.2.2 d (iy hk)
theorem FC:bI zM:=⟨by decide,by decide,by decide,by decide,by decide,by decide⟩
theorem agx{c:Int} (h:uV m=true):bI (xZ m c id).1:=by
 obtain⟨vs,os,qs,sg,⟨⟩⟩:=m;have h4:=(uX h).2.2.2.1;have ha:=abH h c.toNat;unfold xZ;split
 .split
  .exact FC
  .split
   .exact FC
   .exact TA h (by simp only[kC,wV,J9];omega) (by omega)
 .exact FC
theorem alM{c n:Int} (h:uV m=true):bI (uS m c n).1:=by
 obtain⟨vs,os,qs,sg,⟨⟩⟩:=m;have h4:=(uX h).2.2.2.1;have ha:=abH h c.toNat;unfold uS;split
 .refine TA h (by dsimp only;rw[yj];omega) ?_
  refine pq (AZ _ _) ?_;dsimp only;rw[kX];omega
 .exact FC
theorem abI(h:uV m=true):bI (o7 m id).1:=by
 obtain⟨vs,os,qs,sg,⟨⟩⟩:=m;obtain⟨h1,h2,h3,h4,h5⟩:=uX h;unfold o7;split
 .exact FC
 .split
  .exact FC
  .refine abG h1 h2 h3 ?_ λq hq=>by have:=h5 q hq;omega
   refine pq (TV _ _) (pq (zK sg []) ?_);simp;omega
end
end Go.Proofs.YtjhenjhcbcalpaaGreatDoor
