/- Part 11 of the proof. Conditions: the rows'. -/
import Derived.Test.YtjhenjhcbcalpaaGreatDoorB10
set_option linter.unusedSimpArgs false
set_option linter.unusedVariables false
set_option maxRecDepth 1000000
set_option maxHeartbeats 8000000
namespace Go.Proofs.YtjhenjhcbcalpaaGreatDoor
open Go Go.ni
noncomputable section
variable {qs:List (List Int)}{k:Nat}{vs os sg:List Int}{ms:List ByteArray}{fs:List FD}{l:List TD}{m:MD}{p:TD->Bool}{id:Int}
def mW(p:PD) (m:MD):Bool:=decide ((aG p.1 p.2.1 p.2.2.1 p.2.2.2.1 p.2.2.2.2.1).1=0) && dM m && decide (m.1.length=p.1.length) && decide (m.2.1.length=p.2.1.length) && decide (m.2.2.1.length=p.2.2.1.length)
theorem agV(vs:List VD) (ms cs:List ByteArray) (fs:List FD) (ts:List SD) (aH:aaX.pre ((vs,ms,cs,fs,ts,()),())):
 let z1:=decide ((aG vs ms cs fs ts).fst=0);(vs.length<=1000000/\ms.length<=1000000/\cs.length<=1000000/\fs.length<=1000000/\ts.length<=1000000/\(∀(x:ByteArray×(oP.sl.pair Sh.unit).den),x∈fs->List.length x.snd.fst<=1000000)/\(dO fs).length<=1000000)/\qB z1 z1:=by
 conv=>zeta
 delta qB I6;exact⟨aH,rfl,rfl⟩
theorem abU:aW aT.gd 156 aaX:=
 kD (cx:=aT) (n:=14) (cl:=[(74,Jr)]) aB ⟨En,trivial⟩ Tryz.func156 λd hd=>by
  obtain⟨⟨vs,ms,cs,fs,ts,⟨⟩⟩,⟨⟩⟩:=d;exact aQ (λ_=>none) (agV vs ms cs fs ts hd) (by kernel_rfl)
abbrev alS:CT:={ ps:=[sS,yB],pre:=λd=>bnd (d.1,())/\bI d.2.1,res:=λd=>([],vB (mW d.1 d.2.1)) }
theorem alT(vs:List VD) (ms cs:List ByteArray) (fs:List FD) (ts:List SD) (ws os:List Int) (qs:List (List Int)) (sg:List Int) (aH:alS.pre ((vs,ms,cs,fs,ts,()),(ws,os,qs,sg,()),())):
 let z1:=(aG vs ms cs fs ts).fst=0;let z2:=(ws,os,qs,sg,());(vs.length<=1000000/\ms.length<=1000000/\cs.length<=1000000/\fs.length<=1000000/\ts.length<=1000000/\(∀(x:ByteArray×(oP.sl.pair Sh.unit).den),x∈fs->List.length x.snd.fst<=1000000)/\(dO fs).length<=1000000)/\(decide z1=true->bI z2)/\qB (mW (vs,ms,cs,fs,ts,()) z2) (decide z1 && dM z2 && decide ((ws.length:Int)=(vs.length:Int)) && decide ((os.length:Int)=(ms.length:Int)) && decide ((qs.length:Int)=(cs.length:Int))):=by
 conv=>zeta
 delta qB I6;obtain⟨h1,h2⟩:=aH;refine⟨h1,λ_=>h2,rfl,?_⟩
 unfold mW;simp only[Int.ofNat_inj]
theorem agW:aW aT.gd 84 alS:=
 fG (cx:=aT) (n:=38) (cl:=[(156,aaX),(157,abD)]) (rc:=[]) aB ⟨abU,G5,trivial⟩ Tryz.func84 λd hd=>by
  obtain⟨⟨vs,ms,cs,fs,ts,⟨⟩⟩,⟨ws,os,qs,sg,⟨⟩⟩,⟨⟩⟩:=d;exact aQ (λ_=>none) (alT vs ms cs fs ts ws os qs sg hd) (by kernel_rfl)
abbrev alU(l m:List Int):Nat->Option (St->kS):=λk=>match k with
 | 4=>some λ_=>.inv { α:=Nat,slots:=λk=>[(13,.c (.v (.int .i64 k)))],res:=λk=>[],inv:=λk=>k<=(l).length/\∀j < k,l[j]?=m[j]?,meas:=λk=>(l).length - k }
 | _=>none
theorem agX(l m:List Int) (aH:wK.pre (l,m,())):
 let z2:=qB (decide (l=m)) false;let z1:=λ(x:Nat)=>(x<=l.length/\∀(j:Nat),j < x->l[j]?=m[j]?);br (!decide ((l.length:Int)=(m.length:Int))) z2 ((∃x,(z1 x)/\(cI 0=cI (x:Int)/\True)/\([]:List fD)=[])/\∀(x:Nat),(z1 x)->br (decide ((x:Int) < (l.length:Int))) ((0<=(x:Int)/\(x:Int) < (l.length:Int))/\∀(d:Int),l[(x:Int).toNat]?=some d->(0<=(x:Int)/\(x:Int) < (m.length:Int))/\∀(dL:Int),m[(x:Int).toNat]?=some dL->br (!decide (d=dL)) z2 (iR ((x:Int)+(1:Int))/\∃x',(z1 x')/\(cI ((x:Int)+(1:Int))=cI (x':Int)/\True)/\([]:List fD)=[]/\l.length - x' < l.length - x)) (qB (decide (l=m)) true)):=by
 conv=>zeta
 delta fD cI qB iR;have hp:l.length<=1000000:=aH;have fF:l≠m->([]:List Go.ni.au)=[]/\bg.one (SV.c (SC.v (Value.bool (decide (l=m)))))=bg.one (SV.c (SC.v (Value.bool false))):=λq=>⟨rfl,by rw[Dk q]⟩
 refine ah.2 ⟨λh=>fF λq=>?_,λh=>?_⟩
 .subst q;simp at h
 simp only[Di,dW]at h;refine⟨⟨0,⟨by omega,λj hj=>by omega⟩,⟨rfl,trivial⟩,rfl⟩,λk hk=>ah.2 ⟨λg=>?_,λg=>?_⟩⟩
 .simp only[dW]at g;refine⟨⟨by omega,by omega⟩,λd hd=>⟨⟨by omega,by omega⟩,λd1 hd1=>ah.2 ⟨λg2=>fF λq=>?_,λg2=>⟨ay.2 (by omega),k+1,⟨by omega,λj hj=>?_⟩,⟨rfl,trivial⟩,rfl,by omega⟩⟩⟩⟩
  .subst q;rw[hd]at hd1;cases hd1;simp at g2
  .by_cases jY:j=k
   .subst jY;have hd:l[j]?=some d:=hd;have hd1:m[j]?=some d1:=hd1;simp at g2;rw[hd,hd1,g2]
   .exact hk.2 j (by omega)
 simp only[gW]at g;have e:l=m:=by
  apply JG;intro j
  by_cases hj:j < k
  .exact hk.2 j hj
  .rw[Ht (by omega),Ht (by omega)]
 exact⟨rfl,by rw[Ph e]⟩
theorem G6:aW aT.gd 127 wK:=
 fG (cx:=aT) (n:=26) (cl:=[]) (rc:=[]) aB trivial Tryz.func127 λd hd=>by
  obtain⟨l,m,⟨⟩⟩:=d;exact aQ (alU l m) (agX l m hd) (by kernel_rfl)
theorem agY(l m:List Int) (aH:wK.pre (l,m,())):
 l.length<=1000000/\qB (decide (l=m)) (decide (l=m)):=by
 delta qB;exact⟨aH,rfl,rfl⟩
theorem abV:aW aT.gd 129 wK:=
 fG (cx:=aT) (n:=8) (cl:=[(127,wK)]) (rc:=[]) aB ⟨G6,trivial⟩ Tryz.func129 λd hd=>by
  obtain⟨l,m,⟨⟩⟩:=d;exact aQ (λ_=>none) (agY l m hd) (by kernel_rfl)
abbrev abW:CT:={ ps:=[.sl (.sl (.int .i64)),.sl (.sl (.int .i64))],pre:=λd=>d.1.length<=1000000/\∀q∈d.1,q.length<=1000000,res:=λd=>([],vB (decide (d.1=d.2.1))) }
abbrev alV(l m:List (List Int)):Nat->Option (St->kS):=λk=>match k with
 | 4=>some λ_=>.inv { α:=Nat,slots:=λk=>[(17,.c (.v (.int .i64 k)))],res:=λk=>[],inv:=λk=>k<=(l).length/\∀j < k,l[j]?=m[j]?,meas:=λk=>(l).length - k }
 | _=>none
theorem ag0(l m:List (List Int)) (aH:abW.pre (l,m,())):
 let z2:=qB (decide (l=m)) false;let z1:=λ(x:Nat)=>(x<=l.length/\∀(j:Nat),j < x->l[j]?=m[j]?);br (!decide ((l.length:Int)=(m.length:Int))) z2 ((∃x,(z1 x)/\(cI 0=cI (x:Int)/\True)/\([]:List fD)=[])/\∀(x:Nat),(z1 x)->br (decide ((x:Int) < (l.length:Int))) ((0<=(x:Int)/\(x:Int) < (l.length:Int))/\∀(d:List Int),l[(x:Int).toNat]?=some d->(0<=(x:Int)/\(x:Int) < (m.length:Int))/\∀(dL:List Int),m[(x:Int).toNat]?=some dL->d.length<=1000000/\br (!decide (d=dL)) z2 (iR ((x:Int)+(1:Int))/\∃x',(z1 x')/\(cI ((x:Int)+(1:Int))=cI (x':Int)/\True)/\([]:List fD)=[]/\l.length - x' < l.length - x)) (qB (decide (l=m)) true)):=by
 conv=>zeta
 delta fD cI qB iR;obtain⟨hp,h6⟩:l.length<=1000000/\∀q∈l,q.length<=1000000:=aH;have fF:l≠m->([]:List Go.ni.au)=[]/\bg.one (SV.c (SC.v (Value.bool (decide (l=m)))))=bg.one (SV.c (SC.v (Value.bool false))):=λq=>⟨rfl,by rw[Dk q]⟩
 refine ah.2 ⟨λh=>fF λq=>?_,λh=>?_⟩
 .subst q;simp at h
 simp only[Di,dW]at h;refine⟨⟨0,⟨by omega,λj hj=>by omega⟩,⟨rfl,trivial⟩,rfl⟩,λk hk=>ah.2 ⟨λg=>?_,λg=>?_⟩⟩
 .simp only[dW]at g;refine⟨⟨by omega,by omega⟩,λd hd=>⟨⟨by omega,by omega⟩,λd1 hd1=>⟨h6 d (iM hd),ah.2 ⟨λg2=>fF λq=>?_,λg2=>⟨ay.2 (by omega),k+1,⟨by omega,λj hj=>?_⟩,⟨rfl,trivial⟩,rfl,by omega⟩⟩⟩⟩⟩
  .subst q;rw[hd]at hd1;cases hd1;simp at g2
  .by_cases jY:j=k
   .subst jY;have hd:l[j]?=some d:=hd;have hd1:m[j]?=some d1:=hd1;simp at g2;rw[hd,hd1,g2]
   .exact hk.2 j (by omega)
 simp only[gW]at g;have e:l=m:=by
  apply JG;intro j
  by_cases hj:j < k
  .exact hk.2 j hj
  .rw[Ht (by omega),Ht (by omega)]
 exact⟨rfl,by rw[Ph e]⟩
theorem WW:KL Tryz.prog aT.gd 128 [.func (.func 129) #[] #[]] abW:=
 (oJ (cx:=aT) (n:=32) (cl:=[(129,wK)]) (il:=Xj) (hl:=hlN) (ml:=mlN) (rc:=[]) (lits:=[]) (suf:=[.func (.func 129) #[] #[]]) (by kernel_rfl) aB ⟨abV,trivial⟩ trivial trivial trivial Tryz.func128 (by kernel_rfl) (by kernel_rfl) rfl (by kernel_rfl) (by kernel_rfl) (by simp) λd hd=>by
  obtain⟨l,m,⟨⟩⟩:=d;exact aQ (alV l m) (ag0 l m hd) (by kernel_rfl))
abbrev Ru:List (Nat×Nat×CT):=[(128,129,abW)]
theorem alW(vs os:List Int) (qs:List (List Int)) (sg vs2 os2:List Int) (qs2:List (List Int)) (sg2:List Int) (aH:Rl.pre ((vs,os,qs,sg,()),(vs2,os2,qs2,sg2,()),())):
 vs.length<=1000000/\(decide (vs=vs2)=true->os.length<=1000000)/\((decide (vs=vs2) && decide (os=os2))=true->sg.length<=1000000)/\((decide (vs=vs2) && decide (os=os2) && decide (sg=sg2))=true->qs.length<=1000000/\∀(q:List Int),q∈qs->q.length<=1000000)/\qB (decide ((vs,os,qs,sg,())=(vs2,os2,qs2,sg2,()))) (decide (vs=vs2) && decide (os=os2) && decide (sg=sg2) && decide (qs=qs2)):=by
 delta qB;obtain⟨b1,b2,b3,b4,b5,b6⟩:vs.length<=1000/\os.length<=1000/\qs.length<=1000/\sg.length<=1000/\(∀q∈qs,q.length<=1000)/\qs.flatten.length<=100000:=aH;have e:decide ((vs,os,qs,sg,())=(vs2,os2,qs2,sg2,()))=(decide (vs=vs2) && decide (os=os2) && decide (sg=sg2) && decide (qs=qs2)):=by
  rw[LX];simp only[dW,A8,Ic,and_true];constructor
  .rintro⟨h1,h2,h3,h4⟩;exact⟨⟨⟨h1,h2⟩,h4⟩,h3⟩
  .rintro⟨⟨⟨h1,h2⟩,h4⟩,h3⟩;exact⟨h1,h2,h3,h4⟩
 refine⟨by omega,λ_=>by omega,λ_=>by omega,λ_=>⟨by omega,λq hq=>by have:=b5 q hq;omega⟩,rfl,?_⟩
 rw[e]
theorem ag3:aW aT.gd 60 Rl:=
 (oJ (cx:=aT) (n:=31) (cl:=[(127,wK)]) (il:=Xj) (hl:=Ru) (ml:=mlN) (rc:=[]) (lits:=[]) (suf:=[]) (by kernel_rfl) aB ⟨G6,trivial⟩ trivial ⟨WW,trivial⟩ trivial Tryz.func60 (by kernel_rfl) (by kernel_rfl) rfl (by kernel_rfl) (by kernel_rfl) (by simp) λd hd=>by
  obtain⟨⟨vs,os,qs,sg,⟨⟩⟩,⟨vs2,os2,qs2,sg2,⟨⟩⟩,⟨⟩⟩:=d;exact aQ (λ_=>none) (alW vs os qs sg vs2 os2 qs2 sg2 hd) (by kernel_rfl)).met
theorem xI:∀(l sg:List Int),SS sg->SS (jV sg l)/\∀y,y∈jV sg l↔y∈sg\/y∈l
 | [],sg,h=>⟨h,λy=>by simp[jV]⟩
 | x :: l,sg,h=>by
   have ih:=xI l (bM (sg++[x])) (Aq _);have e:jV sg (x :: l)=jV (bM (sg++[x])) l:=rfl;rw[e];refine⟨ih.1,λy=>?_⟩
   rw[ih.2 y,Ar];simp[or_assoc]
def lq(qs:List (List Int)):Int:=qs.foldl (λa q=>fM a q.length) 0
theorem WX{d:List Int} (h:qs[k]?=some d):lq (qs.take (k+1))=fM (lq (qs.take k)) d.length:=by
 unfold lq;rw[RD,h];simp
theorem Et:∀(qs:List (List Int)) (a:Int),a<=qs.foldl (λa q=>fM a (q.length:Int)) a/\∀q∈qs,(q.length:Int)<=qs.foldl (λa q=>fM a (q.length:Int)) a
 | [],a=>⟨Int.le_refl _,λq hq=>by cases hq⟩
 | x :: qs,a=>by
   have ih:=Et qs (fM a x.length);have h:a<=fM a x.length/\(x.length:Int)<=fM a x.length:=by unfold fM;split<;>omega
   refine⟨Int.le_trans h.1 ih.1,λq hq=>?_⟩
   rcases ng.1 hq with rfl | hq
   .exact Int.le_trans h.2 ih.1
   .exact ih.2 q hq
abbrev abX:CT:={ ps:=[yB,.int .i64],pre:=λd=>bI d.1,res:=λd=>([],.iO [.agg [.sl (.int .i64) ((tN d.1 d.2.1 (lq d.1.2.2.1)).1).1,.sl (.int .i64) ((tN d.1 d.2.1 (lq d.1.2.2.1)).1).2.1,.sl (.sl (.int .i64)) ((tN d.1 d.2.1 (lq d.1.2.2.1)).1).2.2.1,.sl (.int .i64) ((tN d.1 d.2.1 (lq d.1.2.2.1)).1).2.2.2.1],.c (.v (.int .i64 ((tN d.1 d.2.1 (lq d.1.2.2.1)).2.1))),.c (.v (.int .i64 ((tN d.1 d.2.1 (lq d.1.2.2.1)).2.2)))]) }
abbrev alY(vs os:List Int) (qs:List (List Int)) (sg:List Int) (c:Int):Nat->Option (St->kS):=λk=>match k with
 | 3=>some λ_=>.inv { α:=Nat,slots:=λk=>[(13,.c (.v (.int .i64 k))),(7,.c (.v (.int .i64 (lq (qs.take k)))))],res:=λk=>[],inv:=λk=>k<=(qs).length,meas:=λk=>(qs).length - k }
 | _=>none
theorem ag4(vs os:List Int) (qs:List (List Int)) (sg:List Int) (c:Int) (aH:abX.pre ((vs,os,qs,sg,()),c,())):
 let z4:=λ(x:Nat)=>lq (List.take x qs);let z1:=[g0 (au.blk 34 [SC.sl I6 vs,SC.sl I6 os,SC.sl I6.sl qs,SC.sl I6 sg]),g0 (au.blk 34 nM)];let z5:=(vs,os,qs,sg,());let z3:=tN z5 c (lq qs);let z2:=λ(x:Nat)=>tN z5 c (z4 x);(∃x,x<=qs.length/\(cI 0=cI (x:Int)/\cI 0=cI (z4 x)/\True)/\sm z1)/\∀(x:Nat),x<=qs.length->br (decide ((x:Int) < (qs.length:Int))) ((0<=(x:Int)/\(x:Int) < (qs.length:Int))/\∀(d:List Int),qs[(x:Int).toNat]?=some d->iR ((x:Int)+(1:Int))/\∃x',x'<=qs.length/\(cI ((x:Int)+(1:Int))=cI (x':Int)/\cI (fM (z4 x) (d.length:Int))=cI (z4 x')/\True)/\sm z1/\qs.length - x' < qs.length - x) ((bI z5/\0<=lq (List.take x qs))/\rT [SV.agg [SC.sl I6 z3.fst.fst,SC.sl I6 z3.fst.snd.fst,SC.sl I6.sl z3.fst.snd.snd.fst,SC.sl I6 z3.fst.snd.snd.snd.fst],cI (z3.snd.fst),cI (z3.snd.snd)] [SV.agg [SC.sl I6 ((z2 x).fst.fst,(z2 x).fst.snd.fst,(z2 x).fst.snd.snd.fst,(z2 x).fst.snd.snd.snd.fst,()).fst,SC.sl I6 ((z2 x).fst.snd.fst,(z2 x).fst.snd.snd.fst,(z2 x).fst.snd.snd.snd.fst,()).fst,SC.sl I6.sl ((z2 x).fst.snd.snd.fst,(z2 x).fst.snd.snd.snd.fst,()).fst,SC.sl I6 (z2 x).fst.snd.snd.snd.fst],cI ((z2 x).snd.fst),cI ((z2 x).snd.snd)]):=by
 conv=>zeta
 delta nM cI g0 rT sm I6 iR iN;have hb:=aH;obtain⟨b1,b2,b3,b4,b5,b6⟩:vs.length<=1000/\os.length<=1000/\qs.length<=1000/\sg.length<=1000/\(∀q∈qs,q.length<=1000)/\qs.flatten.length<=100000:=aH;refine⟨⟨0,by omega,⟨rfl,rfl,trivial⟩,rfl⟩,λk hk=>ah.2 ⟨λg=>?_,λg=>?_⟩⟩
 .simp only[dW]at g;refine⟨⟨by omega,by omega⟩,λd hd=>⟨ay.2 (by omega),k+1,by omega,⟨rfl,?_,trivial⟩,rfl,by omega⟩⟩
  have hd:qs[k]?=some d:=hd;rw[WX hd]
 simp only[gW]at g;rw[zi (i:=k) (by omega)]
 exact⟨⟨hb,(Et qs 0).1⟩,rfl,rfl⟩
theorem abY:aW aT.gd 106 abX:=
 fG (cx:=aT) (n:=29) (cl:=[(166,Uu)]) (rc:=[.data yB,.keep,.keep]) aB ⟨OH,trivial⟩ Tryz.func106 λd hd=>by
  obtain⟨⟨vs,os,qs,sg,⟨⟩⟩,c,⟨⟩⟩:=d;exact aQ (alY vs os qs sg c) (ag4 vs os qs sg c hd) (by kernel_rfl)
abbrev WY:Sh:=.pair (.int .i64) (.pair (.int .i64) .unit)
abbrev Bd:Sh:=.pair (.int .i64) (.pair (.int .i64) (.pair (.sl WY) .unit))
abbrev Uw:Sh:=.pair (.sl dR) (.pair yB (.pair (.sl Bd) .unit))
abbrev WZ:Sh:=.pair (.int .i64) (.pair (.int .i64) (.pair (.int .i64) (.pair (.int .i64) (.pair (.int .i64) (.pair (.int .i64) (.pair (.int .i64) (.pair (.int .i64) (.pair (.int .i64) .unit))))))))
abbrev BD:=Int×Int×List (Int×Int×Unit)×Unit
abbrev ZD:=List TD×MD×List BD×Unit
abbrev ED:=Int×Int×Int×Int×Int×Int×Int×Int×Int×Unit
abbrev IB(e:ED):SV:=.agg [v6 e.1,v6 e.2.1,v6 e.2.2.1,v6 e.2.2.2.1,v6 e.2.2.2.2.1,v6 e.2.2.2.2.2.1,v6 e.2.2.2.2.2.2.1,v6 e.2.2.2.2.2.2.2.1,v6 e.2.2.2.2.2.2.2.2.1]
abbrev agI(i:ID):SV:=.agg [v6 i.1,v6 i.2.1,v6 i.2.2.1,v6 i.2.2.2.1,v6 i.2.2.2.2.1,v6 i.2.2.2.2.2.1,v6 i.2.2.2.2.2.2.1,v6 i.2.2.2.2.2.2.2.1]
abbrev O7(m:MD):SV:=.agg [.sl I6 m.1,.sl I6 m.2.1,.sl I6.sl m.2.2.1,.sl I6 m.2.2.2.1]
abbrev CY(z:ZD):SV:=.agg [.sl dR z.1,.sl I6 z.2.1.1,.sl I6 z.2.1.2.1,.sl I6.sl z.2.1.2.2.1,.sl I6 z.2.1.2.2.2.1,.sl Bd z.2.2.1]
abbrev qE(a b:ED):Prop:=([]:List au)=[]/\bg.one (IB a)=bg.one (IB b)
abbrev bP(vs:List VD) (ms cs:List ByteArray) (fs:List FD) (ts:List SD):au:=.blk 27 [.sl KW vs,.sl .str ms,.sl .str cs,.sl H8 fs,.sl nS ts]
abbrev bZ(th:List TD) (mv mo:List Int) (mq:List (List Int)) (mg:List Int) (bf:List BD):au:=.blk 37 [.sl dR th,.sl I6 mv,.sl I6 mo,.sl I6.sl mq,.sl I6 mg,.sl Bd bf]
def tB(t:TD):Prop:=t.2.2.2.2.2.2.2.2.2.1.length<=1000000/\t.1<=9223372036854775807/\t.2.2.2.1.length=8
def je(l:List TD):Prop:=l.length<=1000000/\∀t∈l,tB t
def nN(l:List TD):Prop:=SS (l.map (·.1))
def VS(vs:List VD) (ms cs:List ByteArray) (fs:List FD) (ts:List SD) (bound:Int) (l:List TD) (m:MD) (bf:List BD):Prop:=
 mW (vs,ms,cs,fs,ts,()) m=true/\bf=[]/\(∀t∈l,dG (aG vs ms cs fs ts).1 bound=0/\vM ms fs bound t)/\nN l
open Classical in
def vsB(vs:List VD) (ms cs:List ByteArray) (fs:List FD) (ts:List SD) (bound:Int) (l:List TD) (m:MD) (bf:List BD):Bool:=decide (VS vs ms cs fs ts bound l m bf)
theorem jo{vs:List VD}{cs:List ByteArray}{ts:List SD}{bound:Int}{bf:List BD}:vsB vs ms cs fs ts bound l m bf=true↔VS vs ms cs fs ts bound l m bf:=by
 unfold vsB;exact @A82 _ (Classical.propDecidable _)
theorem W9{vs:List VD}{cs:List ByteArray}{ts:List SD}{bound:Int}{bf:List BD} (h:¬VS vs ms cs fs ts bound l m bf):vsB vs ms cs fs ts bound l m bf=false:=A96.2 λq=>h (jo.1 q)
theorem abZ(h:∀(j:Nat) a b,l[j]?=some a->l[j+1]?=some b->a.1 < b.1):nN l:=by
 refine Rf λj x y hx hy=>?_
 rw[DI]at hx hy;cases ha:l[j]? with
 | none=>rw[ha]at hx;cases hx
 | some a=>
   cases hb:l[j+1]? with
   | none=>rw[hb]at hy;cases hy
   | some b=>
     rw[ha]at hx;rw[hb]at hy;cases hx;cases hy;exact h j a b ha hb
theorem alZ(h:nN l){j:Nat}{a b:TD} (ha:l[j]?=some a) (hb:l[j+1]?=some b):a.1 < b.1:=
 abf h (j:=j) (by rw[DI,ha];rfl) (by rw[DI,hb];rfl)
def lU(l:List TD) (id:Int):Option TD:=l.find? λt=>decide (t.1=id)
def tC(b:Bool):Int:=if b=true then 1 else 0
def labS(m:MD) (t:TD) (i:ID):ED:=
 if i.1=8 then(t.1,t.2.2.2.2.1,1,i.2.2.2.2.1,-1,-1,i.2.2.2.2.2.2.2.1,m.1[i.2.2.2.2.1.toNat]?.getD 0,0,())
 else if i.1=14 then(t.1,t.2.2.2.2.1,8,i.2.2.2.2.1,-1,-1,i.2.2.2.2.2.2.2.1,m.1[i.2.2.2.2.1.toNat]?.getD 0,0,())
 else if i.1=9 then(t.1,t.2.2.2.2.1,2,i.2.2.2.2.1,-1,-1,i.2.2.2.2.2.2.2.1,0,t.2.2.2.1.getD i.2.2.1.toNat 0,())
 else if i.1=10 then(t.1,t.2.2.2.2.1,5,i.2.2.2.2.1,-1,-1,i.2.2.2.2.2.2.2.1,m.1[i.2.2.2.2.1.toNat]?.getD 0,t.2.2.2.1.getD i.2.2.1.toNat 0,())
 else if i.1=11 then(t.1,t.2.2.2.2.1,5,i.2.2.2.2.1,-1,-1,i.2.2.2.2.2.2.2.1,m.1[i.2.2.2.2.1.toNat]?.getD 0,(iE 1 (m.1[i.2.2.2.2.1.toNat]?.getD 0) (t.2.2.2.1.getD i.2.2.1.toNat 0)).1,())
 else if i.1=12 then
  (if m.1[i.2.2.2.2.1.toNat]?.getD 0=t.2.2.2.1.getD i.2.2.1.toNat 0 then(t.1,t.2.2.2.2.1,5,i.2.2.2.2.1,-1,-1,i.2.2.2.2.2.2.2.1,m.1[i.2.2.2.2.1.toNat]?.getD 0,t.2.2.2.1.getD i.2.2.2.1.toNat 0,())
   else(t.1,t.2.2.2.2.1,6,i.2.2.2.2.1,-1,-1,i.2.2.2.2.2.2.2.1,m.1[i.2.2.2.2.1.toNat]?.getD 0,0,()))
 else if i.1=13 then(t.1,t.2.2.2.2.1,7,i.2.2.2.2.1,-1,-1,0,0,0,())
 else if i.1=15 then(t.1,t.2.2.2.2.1,9,i.2.2.2.2.1,-1,-1,0,0,0,())
 else if i.1=16 then(t.1,t.2.2.2.2.1,10,i.2.2.2.2.1,-1,-1,0,0,0,())
 else if i.1=17 then(t.1,t.2.2.2.2.1,11,i.2.2.2.2.1,-1,-1,0,tC (lT m i.2.2.2.2.1),0,())
 else if i.1=18 then
  (if t.2.2.2.2.2.2.1=0 then(t.1,t.2.2.2.2.1,12,i.2.2.2.2.1,i.2.2.2.2.2.1,-1,0,0,0,())
   else if t.2.2.2.2.2.2.1=1 then(t.1,t.2.2.2.2.1,13,i.2.2.2.2.1,-1,-1,0,0,0,())
   else(t.1,t.2.2.2.2.1,9,i.2.2.2.2.2.1,-1,-1,0,0,0,()))
 else if i.1=19 then(t.1,t.2.2.2.2.1,14,i.2.2.2.2.1,-1,-1,0,jD 1 (m.2.2.1[i.2.2.2.2.1.toNat]?.getD []).length,0,())
 else if i.1=20 then(t.1,t.2.2.2.2.1,15,i.2.2.2.2.1,-1,-1,0,(m.2.2.1[i.2.2.2.2.1.toNat]?.getD []).length,0,())
 else if i.1=21 then(t.1,t.2.2.2.2.1,16,(dJ t.1 t.2.2.2.2.2.1).1,-1,-1,0,0,0,())
 else(t.1,t.2.2.2.2.1,17,t.2.2.2.1.getD i.2.2.1.toNat 0,-1,-1,0,0,0,())
def uK(l:List TD) (m:MD) (t:TD) (i:ID):Bool:=
 if i.1=14 then decide ((iE i.2.2.2.2.2.2.1 (m.1[i.2.2.2.2.1.toNat]?.getD 0) (t.2.2.2.1.getD i.2.2.1.toNat 0)).1≠0)
 else if i.1=15 then lT m i.2.2.2.2.1
 else if i.1=18 then(if t.2.2.2.2.2.2.1=1 then dU m.2.2.2.1 t.1 else if t.2.2.2.2.2.2.1=2 then lT m i.2.2.2.2.2.1 else true)
 else if i.1=22 then(match lU l (t.2.2.2.1.getD i.2.2.1.toNat 0) with
  | some u=>decide (u.2.2.2.2.2.2.2.1=2) || decide (u.2.2.2.2.2.2.2.1=3)
  | none=>false)
 else true
def jM(m:MD) (e:ED):MD×Int:=
 if e.2.2.1=5\/e.2.2.1=2 then writeM m e.2.2.2.1 e.2.2.2.2.2.2.2.2.1
 else if e.2.2.1=9\/(e.2.2.1=11/\e.2.2.2.2.2.2.2.1≠0) then iK m e.2.2.2.1 e.1 (-1) e.1
 else if e.2.2.1=10 then iK m e.2.2.2.1 e.1 e.1 (-1)
 else if e.2.2.1=12 then(if(iK m e.2.2.2.2.1 e.1 e.1 (-1)).2=0 then tu (iK m e.2.2.2.2.1 e.1 e.1 (-1)).1 e.2.2.2.1 e.1 else iK m e.2.2.2.2.1 e.1 e.1 (-1))
 else if e.2.2.1=13 then lg m e.1
 else if e.2.2.1=14 then((tN m e.2.2.2.1 1).1,(tN m e.2.2.2.1 1).2.2)
 else if e.2.2.1=15 then((tN m e.2.2.2.1 (lq m.2.2.1)).1,(tN m e.2.2.2.1 (lq m.2.2.1)).2.2)
 else(m,0)
def lV(i:ID) (e:ED):Int:=
 if e.2.2.1=5 then(if i.1=12 then 1 else e.2.2.2.2.2.2.2.1) else if e.2.2.1=1\/e.2.2.1=8 then e.2.2.2.2.2.2.2.1
 else if e.2.2.1=11 then(if e.2.2.2.2.2.2.2.1=0 then 0 else 1) else if e.2.2.1=16 then e.2.2.2.1 else 0
def zE:ED:=(0,0,0,0,0,0,0,0,0,())
def zZ:ZD:=([],zM,[],())
def gu(p:TD->Bool) (l:List TD):Int:=match l.findIdx? p with
 | some i=>i
 | none=>-1
theorem ag5{d:TD} (hk:l[k]?=some d) (hd:p d=true) (h:∀j < k,∀t,l[j]?=some t->p t=false):gu p l=k:=by
 obtain⟨h1,h2⟩:=eG.1 hk;have:l.findIdx? p=some k:=by
  rw[A49];refine⟨h1,by rw[h2];exact hd,λj hj=>?_⟩
  rw[h j hj _ (kR (by omega))];simp
 unfold gu;rw[this]
theorem ag6(h:∀j < l.length,∀t,l[j]?=some t->p t=false):gu p l = -1:=by
 have:l.findIdx? p=none:=by
  rw[A71];intro x hx;obtain⟨j,hj⟩:=Hu hx;exact h j (eG.1 hj).1 x hj
 unfold gu;rw[this]
abbrev al0:SF:={ ss:=[dR],r:=.bool,ct:=λpr fn=>{ ps:=[.sl dR],pre:=λd=>d.1.length<=1000000/\∀t∈d.1,pr (t,()),res:=λd=>([],.one (.c (.v (.int .i64 (gu (λt=>fn (t,())) d.1))))) } }
abbrev aoU:MK:={ ss:=[.int .i64],f:=λds=>.clo Tryz.prog [dR] .bool (λ_=>True) (λd=>decide (d.1.1=ds.1)) }
abbrev al1(pr:bT [dR]->Prop) (fn:bT [dR]->Bool) (l:List TD):Nat->Option (St->kS):=λk=>match k with
 | 2=>some λ_=>.inv { α:=Nat,slots:=λk=>[(8,.c (.v (.int .i64 k)))],res:=λ_=>[],inv:=λk=>k<=l.length/\∀j < k,∀t,l[j]?=some t->fn (t,())=false,meas:=λk=>l.length - k }
 | _=>none
abbrev aoV:List (Nat×SF):=[]
theorem ag7(pr:bT [dR]->Prop) (fn:bT [dR]->Bool) (l:List TD) (aH:(al0.ct pr fn).pre (l,())):
 let z1:=λ(x:Nat)=>(x<=l.length/\∀(j:Nat),j < x->∀(t:TD),l[j]?=some t->fn (t,())=false);let z2:=gu (λt=>fn (t,())) l;(∃x,(z1 x)/\(cI 0=cI (x:Int)/\True)/\([]:List fD)=[])/\∀(x:Nat),(z1 x)->br (decide ((x:Int) < (l.length:Int))) ((0<=(x:Int)/\(x:Int) < (l.length:Int))/\∀(d:TD),l[(x:Int).toNat]?=some d->some Tryz.prog=some Tryz.prog/\pr (d,())/\br (fn (d,())) (qI z2 (x:Int)) (iR ((x:Int)+(1:Int))/\∃x',(z1 x')/\(cI ((x:Int)+(1:Int))=cI (x':Int)/\True)/\([]:List fD)=[]/\l.length - x' < l.length - x)) (qI z2 (-1:Int)):=by
 conv=>zeta
 delta fD iR;obtain⟨hl,hp⟩:l.length<=1000000/\∀t∈l,pr (t,()):=aH;refine⟨⟨0,⟨by omega,λj hj=>by omega⟩,⟨rfl,trivial⟩,rfl⟩,λk hk=>ah.2 ⟨λg=>?_,λg=>?_⟩⟩
 .simp only[dW]at g;refine⟨⟨by omega,by omega⟩,λd hd=>⟨rfl,hp d (iM hd),ah.2 ⟨λg2=>⟨rfl,?_⟩,λg2=>⟨ay.2 (by omega),k+1,⟨by omega,λj hj t ht=>?_⟩,⟨rfl,trivial⟩,rfl,by omega⟩⟩⟩⟩
  .have hd:l[k]?=some d:=hd;rw[ag5 (p:=λt=>fn (t,())) hd g2 hk.2]
  .by_cases e:j=k
   .subst e;have hd:l[j]?=some d:=hd;rw[hd]at ht;cases ht;exact g2
   .exact hk.2 j (by omega) t ht
 .simp only[gW]at g;refine⟨rfl,?_⟩;rw[ag6 (p:=λt=>fn (t,())) λj hj t ht=>hk.2 j (by omega) t ht]
theorem ag8:aeC Tryz.prog aT.gd 113 al0:=
 ajS (cx:=aT) (n:=19) (cl:=[]) (ml:=mlN) (fl:=aoV) (rc:=[]) (by kernel_rfl) aB trivial trivial trivial Tryz.func113 (by kernel_rfl) (by kernel_rfl) (λ_ _=>rfl) (by kernel_rfl) (by kernel_rfl) λpr fn d hd=>by
  obtain⟨l,⟨⟩⟩:=d;exact aQ (al1 pr fn l) (ag7 pr fn l hd) (by kernel_rfl)
theorem ag9(c0 id fn pc:Int) (rg:List Int) (st ch ph su fa:Int) (he:List Int):
 qB (decide (id=c0)) (decide (id=c0)):=by
 exact⟨rfl,rfl⟩
theorem aha:Zi Tryz.prog aT.gd 114 aoU:=
 ajU (cx:=aT) (n:=8) (cl:=[]) (rc:=[]) (by kernel_rfl) aB trivial Tryz.func114 (by kernel_rfl) (by kernel_rfl) rfl rfl (by kernel_rfl) (by kernel_rfl) λds d _ _=>by
  obtain⟨c0,⟨⟩⟩:=ds;obtain⟨⟨id,fn,pc,rg,st,ch,ph,su,fa,he,⟨⟩⟩,⟨⟩⟩:=d;exact aQ (λ_=>none) (ag9 c0 id fn pc rg st ch ph su fa he) (by kernel_rfl)
abbrev JA:CT:={ ps:=[.sl dR,.int .i64],pre:=λd=>d.1.length<=1000000,res:=λd=>([],.iO [.c (.v (.int .i64 (fM (gu (λt=>decide (t.1=d.2.1)) d.1) 0))),.c (.v (.bool (decide (0<=gu (λt=>decide (t.1=d.2.1)) d.1))))]) }
abbrev aqL:List (Nat×SF):=[(113,al0)]
abbrev aqM:List (Nat×MK):=[(114,aoU)]
theorem al2(l:List TD) (id:Int) (aH:JA.pre (l,id,())):
 let z1:=[I6.pair (I6.pair (I6.pair ((Sh.arr 8 I6).pair (I6.pair (I6.pair (I6.pair (I6.pair (I6.pair (I6.sl.pair Sh.unit)))))))))];True/\some Tryz.prog=some Tryz.prog/\∃pre' g',(HY.clo Tryz.prog z1 Sh.bool (λx=>True) λd=>decide (d.fst.fst=id))=HY.clo Tryz.prog z1 Sh.bool pre' g'/\(l.length<=1000000/\∀(t:TD),t∈l->pre' (t,()))/\rT [cI (fM (gu (λt=>decide (t.fst=(l,id,()).snd.fst)) l) (0:Int)),cB (decide (0<=gu (λt=>decide (t.fst=(l,id,()).snd.fst)) l))] [cI (fM (gu (λt=>g' (t,())) l) (0:Int)),cB (decide (0<=gu (λt=>g' (t,())) l))]:=by
 conv=>zeta
 exact⟨trivial,rfl,λ_=>True,λd=>decide (d.1.1=id),rfl,⟨aH,λ_ _=>trivial⟩,rfl,rfl⟩
theorem Eu:aW aT.gd 52 JA:=
 aeD (cx:=aT) (n:=14) (cl:=[]) (ml:=aqM) (fl:=aqL) (rc:=[]) (by kernel_rfl) aB trivial ⟨aha,trivial⟩ ⟨ag8,trivial⟩ Tryz.func52 (by kernel_rfl) (by kernel_rfl) rfl (by kernel_rfl) (by kernel_rfl) λd hd=>by
  obtain⟨l,id,⟨⟩⟩:=d;exact aQ (λ_=>none) (al2 l id hd) (by kernel_rfl)
theorem al3(vs:List VD) (ms cs:List ByteArray) (fs:List FD) (ts:List SD) (bound:Int) (aH:vg.pre ((vs,ms,cs,fs,ts,()),bound,())):
 let z2:=aG vs ms cs fs ts;let z1:=dG z2.fst bound;(bnd ((vs,ms,cs,fs,ts,()),()))/\br (!decide (z2.fst=0)) (qI z1 (z2.fst)) (br (decide (bound < 1) || decide (32 < bound)) (qI z1 (2:Int)) (qI z1 (0:Int))):=by
 conv=>zeta
 have hb:bnd ((vs,ms,cs,fs,ts,()),()):=aH;refine⟨hb,ah.2 ⟨λh=>?_,λh=>ah.2 ⟨λh2=>?_,λh2=>?_⟩⟩⟩
 .have h:(aG vs ms cs fs ts).1≠0:=by simpa using h
  have e:dG (aG vs ms cs fs ts).1 bound=(aG vs ms cs fs ts).1:=by unfold dG;rw[if_pos h]
  rw[e];exact⟨rfl,rfl⟩
 all_goals have h:¬(aG vs ms cs fs ts).1≠0:=by simpa using h
 .have h2:bound < 1\/32 < bound:=by simpa using h2
  have e:dG (aG vs ms cs fs ts).1 bound=2:=by unfold dG;rw[if_neg h,if_pos h2]
  rw[e];exact⟨rfl,rfl⟩
 .have h2:¬(bound < 1\/32 < bound):=by simp only[oV,gW]at h2;omega
  have e:dG (aG vs ms cs fs ts).1 bound=0:=by unfold dG;rw[if_neg h,if_neg h2]
  rw[e];exact⟨rfl,rfl⟩
theorem Ux:aW aT.gd 32 vg:=
 fG (cx:=aT) (n:=23) (cl:=[(74,Jr)]) (rc:=[]) aB ⟨En,trivial⟩ Tryz.func32 λd hd=>by
  obtain⟨⟨vs,ms,cs,fs,ts,⟨⟩⟩,bound,⟨⟩⟩:=d;exact aQ (λ_=>none) (al3 vs ms cs fs ts bound hd) (by kernel_rfl)
theorem al4(vs:List VD) (ms cs:List ByteArray) (fs:List FD) (ts:List SD) (bound:Int) (aH:vg.pre ((vs,ms,cs,fs,ts,()),bound,())):
 let z2:=aG vs ms cs fs ts;let z1:=dG z2.fst bound;(bnd ((vs,ms,cs,fs,ts,()),()))/\br (!decide (z2.fst=0)) (qI z1 (z2.fst)) (br (decide (bound < 1) || decide (32 < bound)) (qI z1 (2:Int)) (qI z1 (0:Int))):=by
 conv=>zeta
 have hb:bnd ((vs,ms,cs,fs,ts,()),()):=aH;refine⟨hb,ah.2 ⟨λh=>?_,λh=>ah.2 ⟨λh2=>?_,λh2=>?_⟩⟩⟩
 .have h:(aG vs ms cs fs ts).1≠0:=by simpa using h
  have e:dG (aG vs ms cs fs ts).1 bound=(aG vs ms cs fs ts).1:=by unfold dG;rw[if_pos h]
  rw[e];exact⟨rfl,rfl⟩
 all_goals have h:¬(aG vs ms cs fs ts).1≠0:=by simpa using h
 .have h2:bound < 1\/32 < bound:=by simpa using h2
  have e:dG (aG vs ms cs fs ts).1 bound=2:=by unfold dG;rw[if_neg h,if_pos h2]
  rw[e];exact⟨rfl,rfl⟩
 .have h2:¬(bound < 1\/32 < bound):=by simp only[oV,gW]at h2;omega
  have e:dG (aG vs ms cs fs ts).1 bound=0:=by unfold dG;rw[if_neg h,if_neg h2]
  rw[e];exact⟨rfl,rfl⟩
theorem ahb:aW aT.gd 26 vg:=
 fG (cx:=aT) (n:=23) (cl:=[(66,Q5)]) (rc:=[]) aB ⟨agi,trivial⟩ Tryz.func26 λd hd=>by
  obtain⟨⟨vs,ms,cs,fs,ts,⟨⟩⟩,bound,⟨⟩⟩:=d;exact aQ (λ_=>none) (al4 vs ms cs fs ts bound hd) (by kernel_rfl)
abbrev ab1:CT:={ ps:=[sS,.int .i64,Uw],pre:=λd=>bnd (d.1,())/\je d.2.2.1.1/\bI d.2.2.1.2.1,res:=λd=>([],vB (vsB d.1.1 d.1.2.1 d.1.2.2.1 d.1.2.2.2.1 d.1.2.2.2.2.1 d.2.1 d.2.2.1.1 d.2.2.1.2.1 d.2.2.1.2.2.1)) }
abbrev aoW(vs:List VD) (ms cs:List ByteArray) (fs:List FD) (ts:List SD) (bound:Int) (th:List TD) (mv mo:List Int) (mq:List (List Int)) (mg:List Int) (bf:List BD):Nat->Option (St->kS):=λk=>match k with
 | 4=>some λ_=>.inv { α:=Nat,slots:=λk=>[(23,.c (.v (.int .i64 k)))],res:=λk=>[],inv:=λk=>k<=(th).length/\(∀j < k,∀t,th[j]?=some t->dG (aG vs ms cs fs ts).1 bound=0/\vM ms fs bound t)/\∀j,j+1 < k->∀a b,th[j]?=some a->th[j+1]?=some b->a.1 < b.1,meas:=λk=>(th).length - k }
 | _=>none
theorem al5(vs:List VD) (ms cs:List ByteArray) (fs:List FD) (ts:List SD) (bound:Int) (th:List TD) (mv mo:List Int) (mq:List (List Int)) (mg:List Int) (bf:List BD) (aH:ab1.pre ((vs,ms,cs,fs,ts,()),bound,(th,(mv,mo,mq,mg,()),bf,()),())):
 let z7:=bnd ((vs,ms,cs,fs,ts,()),());let z8:=(mv,mo,mq,mg,());let z6:=vsB vs ms cs fs ts bound th z8 bf;let z5:=qB z6 false;let z1:=λ(x:Nat)=>(x<=th.length/\(∀(j:Nat),j < x->∀(t:TD),th[j]?=some t->dG (aG vs ms cs fs ts).fst bound=0/\vM ms fs bound t)/\∀(j:Nat),j+1 < x->∀(a b:TD),th[j]?=some a->th[j+1]?=some b->a.fst < b.fst);let z2:=[g0 (au.blk 27 [SC.sl KW vs,SC.sl Sh.str ms,SC.sl Sh.str cs,SC.sl H8 fs,SC.sl nS ts]),g0 (au.blk 37 [SC.sl dR th,SC.sl I6 mv,SC.sl I6 mo,SC.sl I6.sl mq,SC.sl I6 mg,SC.sl Bd bf])];let z4:=λ(d:TD)=>decide (dG (aG vs ms cs fs ts).fst bound=0) && wI ms fs bound d;let z3:=λ(x:Nat) (d:TD)=>decide (0 < (x:Int)) && !!(z4 d);(z7/\bI z8)/\br (!mW (vs,ms,cs,fs,ts,()) z8 || decide (0 < (bf.length:Int))) z5 ((∃x,(z1 x)/\(cI 0=cI (x:Int)/\True)/\sm z2)/\∀(x:Nat),(z1 x)->br (decide ((x:Int) < (th.length:Int))) ((0<=(x:Int)/\(x:Int) < (th.length:Int))/\∀(d:TD),th[(x:Int).toNat]?=some d->(z7/\List.length d.snd.snd.snd.snd.snd.snd.snd.snd.snd.fst<=1000000/\d.fst<=9223372036854775807/\List.length d.snd.snd.snd.fst=8)/\((z3 x d)=true->iR ((x:Int) - (1:Int)))/\((z3 x d)=true->0<=(x:Int) - (1:Int)/\(x:Int) - 1 < (th.length:Int))/\∀(dL:TD),((z3 x d)=true->th[((x:Int) - (1:Int)).toNat]?=some dL)->br (!(z4 d) || decide (0 < (x:Int)) && decide ((d).fst<=dL.fst)) z5 (iR ((x:Int)+(1:Int))/\∃x',(z1 x')/\(cI ((x:Int)+(1:Int))=cI (x':Int)/\True)/\sm z2/\th.length - x' < th.length - x)) (qB z6 true)):=by
 conv=>zeta
 delta iR;obtain⟨hb,hT,hM⟩:bnd ((vs,ms,cs,fs,ts,()),())/\je th/\bI (mv,mo,mq,mg,()):=aH;obtain⟨hl,hT⟩:=hT;have fF:¬VS vs ms cs fs ts bound th (mv,mo,mq,mg,()) bf->qB (vsB vs ms cs fs ts bound th (mv,mo,mq,mg,()) bf) false:=λq=>⟨rfl,by rw[W9 q]⟩
 refine⟨⟨hb,hM⟩,ah.2 ⟨λh=>fF λq=>?_,λh=>⟨⟨0,⟨by omega,λj hj=>by omega,λj hj=>by omega⟩,⟨rfl,trivial⟩,rfl⟩,λk hk=>ah.2 ⟨λg=>?_,λg=>?_⟩⟩⟩⟩
 .obtain⟨q1,q2,q3,q4⟩:=q;rw[q1,q2]at h;simp at h
 .obtain⟨k1,k2,k3⟩:=hk;simp only[dW]at g;refine⟨⟨by omega,by omega⟩,λd hd=>⟨⟨hb,hT d (iM hd)⟩,λ_=>ay.2 (by omega),λq=>?_,λd1 hd1=>ah.2 ⟨λg2=>fF λq=>?_,λg2=>⟨ay.2 (by omega),k+1,⟨by omega,λj hj t ht=>?_,λj hj a b ha hb=>?_⟩,⟨rfl,trivial⟩,rfl,by omega⟩⟩⟩⟩
  .rw[A8,dW]at q;omega
  .have hd:th[k]?=some d:=hd;have q3:=q.2.2.1 d (iM hd);rw[DJ,II,A8,dW,dW]at g2;have hv:(decide (dG (aG vs ms cs fs ts).1 bound=0) && wI ms fs bound d)=true:=by rw[A8,dW,pU];exact q3
   rcases g2 with g2 | ⟨g2,g3⟩
   .rw[hv]at g2;cases g2
   .have gg:(decide ((0:Int) < (k:Int)) && !!(decide (dG (aG vs ms cs fs ts).1 bound=0) && wI ms fs bound d))=true:=by rw[hv,Ph g2];rfl
    have h1:=hd1 gg;rw[show((k:Int) - 1).toNat=k - 1 by omega]at h1
    have:=alZ q.2.2.2 h1 (by rw[show k - 1+1=k by omega];exact hd)
    omega
  .rw[oV,Di,A8,dW,pU]at g2
   by_cases e:j=k
   .subst e;have hd:th[j]?=some d:=hd;rw[hd]at ht;cases ht;exact g2.1
   .exact k2 j (by omega) t ht
  .by_cases e:j+1=k
   .have hd:th[k]?=some d:=hd;rw[oV,Di]at g2;have hk0:(0:Int) < (k:Int):=by omega
    have gg:(decide ((0:Int) < (k:Int)) && !!(decide (dG (aG vs ms cs fs ts).1 bound=0) && wI ms fs bound d))=true:=by rw[g2.1,Ph hk0];rfl
    have h1:=hd1 gg;rw[show((k:Int) - 1).toNat=j by omega,ha]at h1
    cases h1;rw[e,hd]at hb;cases hb;have g3:=g2.2;rw[A98,gW,gW]at g3;omega
   .exact k3 j (by omega) a b ha hb
 .obtain⟨k1,k2,k3⟩:=hk;simp only[gW]at g;have all:∀t∈th,dG (aG vs ms cs fs ts).1 bound=0/\vM ms fs bound t:=λt ht=>by
   obtain⟨j,hj⟩:=Hu ht;have:=(eG.1 hj).1;exact k2 j (by omega) t hj
  have up:nN th:=abZ λj a b ha hb=>by
   have:=(eG.1 hb).1;exact k3 j (by omega) a b ha hb
  rw[oV,Di,gW]at h;have e:bf=[]:=List.length_eq_zero_iff.1 (by omega)
  exact⟨rfl,by rw[jo.2 ⟨h.1,e,all,up⟩]⟩
theorem Lr:aW aT.gd 40 ab1:=
 fG (cx:=aT) (n:=50) (cl:=[(84,alS),(85,agy)]) (rc:=[]) aB ⟨agW,Ul,trivial⟩ Tryz.func40 λd hd=>by
  obtain⟨⟨vs,ms,cs,fs,ts,⟨⟩⟩,bound,⟨th,⟨mv,mo,mq,mg,⟨⟩⟩,bf,⟨⟩⟩,⟨⟩⟩:=d;exact aQ (aoW vs ms cs fs ts bound th mv mo mq mg bf) (al5 vs ms cs fs ts bound th mv mo mq mg bf hd) (by kernel_rfl)
theorem lu{a b:ED} (h:a=b):qE a b:=⟨rfl,by rw[h]⟩
theorem wL{a b:Bool} (h:a=b):qB a b:=⟨rfl,by rw[h]⟩
theorem rgd{rg:List Int}{b d:Int} (h:rg[b.toNat]?=some d):rg.getD b.toNat 0=d:=by rw[LQ,h];rfl
theorem nO(h:0<=gu p l):∃(k:Nat) (t:TD),gu p l=k/\l[k]?=some t/\l.find? p=some t/\k < l.length:=by
 unfold gu at h ⊢
 cases e:l.findIdx? p with
 | none=>rw[e]at h;exact absurd h (by decide)
 | some k=>
   obtain⟨h1,h2,h3⟩:=A49.1 e;refine⟨k,l[k],rfl,kR h1,?_,h1⟩;rw[List.find?_eq_some_iff_getElem];exact⟨h2,k,h1,rfl,λj hj=>by have:=h3 j hj;simpa using this⟩
theorem pV(h:¬0<=gu p l):l.find? p=none:=by
 unfold gu at h;cases e:l.findIdx? p with
 | some k=>rw[e]at h;exact absurd (Int.natCast_nonneg k) h
 | none=>
   rw[A71]at e;rw[Xo];intro x hx;rw[e x hx];simp
def al6(v rb rc op o:Int):ED->ED
 | (ag,ix,_,eo,mx,en,_,_,wr,_)=>if op=8 then(ag,ix,1,eo,mx,en,o,v,wr,()) else if op=14 then(ag,ix,8,eo,mx,en,o,v,wr,()) else if op=9 then(ag,ix,2,eo,mx,en,o,0,rb,())
   else if op=10 then(ag,ix,5,eo,mx,en,o,v,rb,()) else if op=11 then(ag,ix,5,eo,mx,en,o,v,(iE 1 v rb).1,()) else if v=rb then(ag,ix,5,eo,mx,en,o,v,rc,()) else(ag,ix,6,eo,mx,en,o,v,wr,())
def wtS(ph n:Int):ED->ED
 | (ag,ix,_,eo,mx,en,JB,rd,wr,_)=>if ph=0 then(ag,ix,12,eo,n,en,JB,rd,wr,()) else if ph=1 then(ag,ix,13,eo,mx,en,JB,rd,wr,()) else(ag,ix,9,n,mx,en,JB,rd,wr,())
def G7(m:MD) (t:TD) (i:ID):Prop:=
 (bI m/\dM m=true/\tB t)/\(0<=i.2.2.1/\i.2.2.1 < 8)/\(0<=i.2.2.2.1/\i.2.2.2.1 < 8)/\(8<=i.1/\i.1<=22) /\
 (i.1<=14/\i.1≠13->0<=i.2.2.2.2.1/\i.2.2.2.2.1 < (m.1.length:Int))/\(18<=i.1/\i.1<=20->0<=i.2.2.2.2.1/\i.2.2.2.2.1 < (m.2.2.1.length:Int)) /\
 (i.1=13\/15<=i.1->i.2.2.2.2.2.2.2.1=0)
theorem Uy{x:Int} (h:dM m=true) (h1:0<=x/\x < (m.1.length:Int)):(yD m x).1=m.1[x.toNat]?.getD 0:=by
 unfold yD;rw[if_pos (dD.2 ⟨h,h1⟩)]
abbrev ab2:CT:={ ps:=[.bool],pre:=λd=>True,res:=λd=>([],.one (.c (.v (.int .i64 (tC d.1))))) }
theorem al7(b:Bool):
 br b (qI (tC b) (1:Int)) (qI (tC b) (0:Int)):=by
 unfold tC;cases b<;>exact ah.2 ⟨λh=>⟨rfl,by simp_all⟩,λh=>⟨rfl,by simp_all⟩⟩
theorem ahc:aW aT.gd 86 ab2:=
 kD (cx:=aT) (n:=4) (cl:=[]) aB trivial Tryz.func86 λd hd=>by
  obtain⟨b,⟨⟩⟩:=d;exact aQ (λ_=>none) (al7 b) (by kernel_rfl)
abbrev ab3:CT:={ ps:=[Uw,dR,oP,WZ],pre:=λd=>bI d.1.2.1/\d.2.1.2.2.2.1.length=8/\(0<=d.2.2.1.2.2.1/\d.2.2.1.2.2.1 < 8)/\(0<=d.2.2.1.2.2.2.1/\d.2.2.1.2.2.2.1 < 8),res:=λd=>([],.one (IB (al6 (yD d.1.2.1 d.2.2.1.2.2.2.2.1).1 (d.2.1.2.2.2.1.getD d.2.2.1.2.2.1.toNat 0) (d.2.1.2.2.2.1.getD d.2.2.1.2.2.2.1.toNat 0) d.2.2.1.1 d.2.2.1.2.2.2.2.2.2.2.1 d.2.2.2.1))) }
theorem al8(th:List TD) (mv mo:List Int) (mq:List (List Int)) (mg:List Int) (bf:List BD) (id fn pc:Int) (rg:List Int) (st ch ph su fa:Int) (he:List Int) (op a b c obj n fo ord ag ix kd eo mx en JB rd wr:Int) (aH:ab3.pre ((th,(mv,mo,mq,mg,()),bf,()),(id,fn,pc,rg,st,ch,ph,su,fa,he,()),(op,a,b,c,obj,n,fo,ord,()),(ag,ix,kd,eo,mx,en,JB,rd,wr,()),())):
 let z2:=yD (mv,mo,mq,mg,()) obj;let z1:=al6 z2.fst (rg.getD b.toNat (0:Int)) (rg.getD c.toNat (0:Int)) op ord (ag,ix,kd,eo,mx,en,JB,rd,wr,());bI (mv,mo,mq,mg,())/\br (decide (op=8)) (qE z1 (ag,ix,1,eo,mx,en,ord,z2.fst,wr,())) (br (decide (op=14)) (qE z1 (ag,ix,8,eo,mx,en,ord,z2.fst,wr,())) (br (decide (op=9)) ((0<=b/\b < 8)/\b.toNat < 8/\∀(d:Int),rg[b.toNat]?=some d->qE z1 (ag,ix,2,eo,mx,en,ord,0,d,())) (br (decide (op=10)) ((0<=b/\b < 8)/\b.toNat < 8/\∀(d:Int),rg[b.toNat]?=some d->qE z1 (ag,ix,5,eo,mx,en,ord,z2.fst,d,())) (br (decide (op=11)) ((0<=b/\b < 8)/\b.toNat < 8/\∀(d:Int),rg[b.toNat]?=some d->True/\qE z1 (ag,ix,5,eo,mx,en,ord,z2.fst,aZ (aZ (z2.fst,d,()).fst+aZ d),())) ((0<=b/\b < 8)/\b.toNat < 8/\∀(d:Int),rg[b.toNat]?=some d->br (decide (z2.fst=d)) ((0<=c/\c < 8)/\c.toNat < 8/\∀(d:Int),rg[c.toNat]?=some d->qE z1 (ag,ix,5,eo,mx,en,ord,z2.fst,d,())) (qE z1 (ag,ix,6,eo,mx,en,ord,z2.fst,wr,()))))))):=by
 conv=>zeta
 obtain⟨hM,h8,hb,hc⟩:bI (mv,mo,mq,mg,())/\rg.length=8/\(0<=b/\b < 8)/\(0<=c/\c < 8):=aH;have hb8:b.toNat < 8:=by omega
 have hc8:c.toNat < 8:=by omega
 refine⟨hM,bV.2 ⟨λe=>lu ?_,λn1=>bV.2 ⟨λe=>lu ?_,λn2=>bV.2 ⟨λe=>⟨hb,hb8,λd hd=>lu ?_⟩,λn3=>bV.2 ⟨λe=>⟨hb,hb8,λd hd=>lu ?_⟩,λn4=>bV.2 ⟨λe=>⟨hb,hb8,λd hd=>⟨trivial,lu ?_⟩⟩,λn5=>⟨hb,hb8,λd hd=>bV.2 ⟨λe=>⟨hc,hc8,λd2 hd2=>lu ?_⟩,λe=>lu ?_⟩⟩⟩⟩⟩⟩⟩⟩
 .subst e;rfl
 .subst e;rfl
 .subst e;rw[rgd hd];rfl
 .subst e;rw[rgd hd];rfl
 .subst e;rw[rgd hd];rfl
 .rw[rgd hd,rgd hd2];show(if op=8 then _ else _)=_
  rw[if_neg n1,if_neg n2,if_neg n3,if_neg n4,if_neg n5,if_pos e]
 .rw[rgd hd];show(if op=8 then _ else _)=_
  rw[if_neg n1,if_neg n2,if_neg n3,if_neg n4,if_neg n5,if_neg e]
theorem ahd:aW aT.gd 90 ab3:=
 fG (cx:=aT) (n:=73) (cl:=[(96,agH),(97,Ub)]) (rc:=[]) aB ⟨Ur,Lh,trivial⟩ Tryz.func90 λd hd=>by
  obtain⟨⟨th,⟨mv,mo,mq,mg,⟨⟩⟩,bf,⟨⟩⟩,⟨id,fn,pc,rg,st,ch,ph,su,fa,he,⟨⟩⟩,⟨op,a,b,c,obj,n,fo,ord,⟨⟩⟩,⟨ag,ix,kd,eo,mx,en,JB,rd,wr,⟨⟩⟩,⟨⟩⟩:=d;exact aQ (λ_=>none) (al8 th mv mo mq mg bf id fn pc rg st ch ph su fa he op a b c obj n fo ord ag ix kd eo mx en JB rd wr hd) (by kernel_rfl)
abbrev aiG:CT:={ ps:=[dR,oP,WZ],pre:=λd=>True,res:=λd=>([],.one (IB (wtS d.1.2.2.2.2.2.2.1 d.2.1.2.2.2.2.2.1 d.2.2.1))) }
theorem al9(id fn pc:Int) (rg:List Int) (st ch ph su fa:Int) (he:List Int) (op a b c obj n fo ord ag ix kd eo mx en JB rd wr:Int):
 let z1:=wtS ph n (ag,ix,kd,eo,mx,en,JB,rd,wr,());br (decide (ph=0)) (qE z1 (ag,ix,12,eo,n,en,JB,rd,wr,())) (br (decide (ph=1)) (qE z1 (ag,ix,13,eo,mx,en,JB,rd,wr,())) (qE z1 (ag,ix,9,n,mx,en,JB,rd,wr,()))):=by
 conv=>zeta
 refine bV.2 ⟨λe=>lu ?_,λn1=>bV.2 ⟨λe=>lu ?_,λn2=>lu ?_⟩⟩
 .subst e;rfl
 .subst e;rfl
 .show(if ph=0 then _ else _)=_
  rw[if_neg n1,if_neg n2]
theorem ahe:aW aT.gd 88 aiG:=
 fG (cx:=aT) (n:=23) (cl:=[]) (rc:=[]) aB trivial Tryz.func88 λd hd=>by
  obtain⟨⟨id,fn,pc,rg,st,ch,ph,su,fa,he,⟨⟩⟩,⟨op,a,b,c,obj,n,fo,ord,⟨⟩⟩,⟨ag,ix,kd,eo,mx,en,JB,rd,wr,⟨⟩⟩,⟨⟩⟩:=d;exact aQ (λ_=>none) (al9 id fn pc rg st ch ph su fa he op a b c obj n fo ord ag ix kd eo mx en JB rd wr) (by kernel_rfl)
abbrev Uz:CT:={ ps:=[Uw,dR,oP],pre:=λd=>G7 d.1.2.1 d.2.1 d.2.2.1,res:=λd=>([],.one (IB (labS d.1.2.1 d.2.1 d.2.2.1))) }
theorem ama(th:List TD) (mv mo:List Int) (mq:List (List Int)) (mg:List Int) (bf:List BD) (id fn pc:Int) (rg:List Int) (st ch ph su fa:Int) (he:List Int) (op a b c obj n fo ord:Int) (aH:Uz.pre ((th,(mv,mo,mq,mg,()),bf,()),(id,fn,pc,rg,st,ch,ph,su,fa,he,()),(op,a,b,c,obj,n,fo,ord,()),())):
 let z4:=(mv,mo,mq,mg,());let z1:=labS z4 (id,fn,pc,rg,st,ch,ph,su,fa,he,()) (op,a,b,c,obj,n,fo,ord,());let z2:=(id,st,(0:Int),obj,(-1:Int),(-1:Int),(0:Int),(0:Int),(0:Int),());let z3:=0<=obj/\obj < (mq.length:Int);br (decide (op=13)) (qE z1 (id,st,7,obj,-1,-1,0,0,0,())) (br (decide (op=15)) (qE z1 (id,st,9,obj,-1,-1,0,0,0,())) (br (decide (op=16)) (qE z1 (id,st,10,obj,-1,-1,0,0,0,())) (br (decide (op=17)) (bI z4/\True/\qE z1 (id,st,11,obj,-1,-1,0,tC (lT z4 obj),0,())) (br (decide (op=18)) (True/\qE z1 (wtS ph n z2)) (br (decide (op=19)) (z3/\∀(d:List Int),mq[obj.toNat]?=some d->qE z1 (id,st,14,obj,-1,-1,0,jD (1:Int) (d.length:Int),0,())) (br (decide (op=20)) (z3/\∀(d:List Int),mq[obj.toNat]?=some d->qE z1 (id,st,15,obj,-1,-1,0,(d.length:Int),0,())) (br (decide (op=21)) (id<=9223372036854775807/\qE z1 (id,st,16,(dJ id ch).fst,-1,-1,0,0,0,())) (br (decide (op=22)) ((0<=b/\b < 8)/\b.toNat < 8/\∀(d:Int),rg[b.toNat]?=some d->qE z1 (id,st,17,d,-1,-1,0,0,0,())) ((bI z4/\rg.length=8/\(0<=b/\b < 8)/\0<=c/\c < 8)/\qE z1 (al6 (yD z4 obj).fst (rg.getD b.toNat (0:Int)) (rg.getD c.toNat (0:Int)) op ord z2)))))))))):=by
 conv=>zeta
 obtain⟨⟨hM,hf,hT⟩,hb,hc,hv,ho1,ho2,ho3⟩:G7 (mv,mo,mq,mg,()) (id,fn,pc,rg,st,ch,ph,su,fa,he,()) (op,a,b,c,obj,n,fo,ord,()):=aH;obtain⟨t1,t2,t3⟩:he.length<=1000000/\id<=9223372036854775807/\rg.length=8:=hT;have hb:0<=b/\b < 8:=hb;have hc:0<=c/\c < 8:=hc;have hv:8<=op/\op<=22:=hv;have ho1:op<=14/\op≠13->0<=obj/\obj < (mv.length:Int):=ho1;have ho2:18<=op/\op<=20->0<=obj/\obj < (mq.length:Int):=ho2;have hb8:b.toNat < 8:=by omega
 refine bV.2 ⟨λe=>lu ?_,λn1=>bV.2 ⟨λe=>lu ?_,λn2=>bV.2 ⟨λe=>lu ?_,λn3=>bV.2 ⟨λe=>⟨hM,trivial,lu ?_⟩,λn4=>bV.2 ⟨λe=>⟨trivial,lu ?_⟩,λn5=>bV.2 ⟨λe=>⟨ho2 (by omega),λd hd=>lu ?_⟩,λn6=>bV.2 ⟨λe=>⟨ho2 (by omega),λd hd=>lu ?_⟩,λn7=>bV.2 ⟨λe=>⟨t2,lu ?_⟩,λn8=>bV.2 ⟨λe=>⟨hb,hb8,λd hd=>lu ?_⟩,λn9=>⟨⟨hM,t3,hb,hc⟩,lu ?_⟩⟩⟩⟩⟩⟩⟩⟩⟩⟩
 .subst e;rfl
 .subst e;rfl
 .subst e;rfl
 .subst e;rfl
 .subst e;have e1:∀m t,labS m t (18,a,b,c,obj,n,fo,ord,())=if t.2.2.2.2.2.2.1=0 then(t.1,t.2.2.2.2.1,12,obj,n,-1,0,0,0,()) else if t.2.2.2.2.2.2.1=1 then(t.1,t.2.2.2.2.1,13,obj,-1,-1,0,0,0,()) else(t.1,t.2.2.2.2.1,9,n,-1,-1,0,0,0,()):=λ_ _=>rfl
  rw[e1];rfl
 .subst e;have e1:∀m t,labS m t (19,a,b,c,obj,n,fo,ord,())=(t.1,t.2.2.2.2.1,14,obj,-1,-1,0,jD 1 (m.2.2.1[obj.toNat]?.getD []).length,0,()):=λ_ _=>rfl
  rw[e1];show(_,_,_,_,_,_,_,jD 1 (mq[obj.toNat]?.getD []).length,_,_)=_;rw[hd];rfl
 .subst e;have e1:∀m t,labS m t (20,a,b,c,obj,n,fo,ord,())=(t.1,t.2.2.2.2.1,15,obj,-1,-1,0,((m.2.2.1[obj.toNat]?.getD []).length:Int),0,()):=λ_ _=>rfl
  rw[e1];show(_,_,_,_,_,_,_,(((mq[obj.toNat]?.getD []).length:Nat):Int),_,_)=_;rw[hd];rfl
 .subst e;rfl
 .subst e;have e1:∀m t,labS m t (22,a,b,c,obj,n,fo,ord,())=(t.1,t.2.2.2.2.1,17,t.2.2.2.1.getD b.toNat 0,-1,-1,0,0,0,()):=λ_ _=>rfl
  rw[e1];show(_,_,_,rg.getD b.toNat 0,_,_,_,_,_,_)=_;rw[rgd hd]
 .rw[Uy hf (ho1 (by omega))]
  have:op=8\/op=9\/op=10\/op=11\/op=12\/op=14:=by omega
  rcases this with e | e | e | e | e | e<;>subst e<;>rfl
theorem UA:aW aT.gd 42 Uz:=
 fG (cx:=aT) (n:=91) (cl:=[(86,ab2),(87,agK),(88,aiG),(89,Uc),(90,ab3)]) (rc:=[]) aB ⟨ahc,Us,ahe,Ud,ahd,trivial⟩ Tryz.func42 λd hd=>by
  obtain⟨⟨th,⟨mv,mo,mq,mg,⟨⟩⟩,bf,⟨⟩⟩,⟨id,fn,pc,rg,st,ch,ph,su,fa,he,⟨⟩⟩,⟨op,a,b,c,obj,n,fo,ord,⟨⟩⟩,⟨⟩⟩:=d;exact aQ (λ_=>none) (ama th mv mo mq mg bf id fn pc rg st ch ph su fa he op a b c obj n fo ord hd) (by kernel_rfl)
abbrev UC:CT:={ ps:=[Uw,dR,oP],pre:=λd=>G7 d.1.2.1 d.2.1 d.2.2.1/\d.1.1.length<=1000000,res:=λd=>([],vB (uK d.1.1 d.1.2.1 d.2.1 d.2.2.1)) }
theorem amb(th:List TD) (mv mo:List Int) (mq:List (List Int)) (mg:List Int) (bf:List BD) (id fn pc:Int) (rg:List Int) (st ch ph su fa:Int) (he:List Int) (op a b c obj n fo ord:Int) (aH:UC.pre ((th,(mv,mo,mq,mg,()),bf,()),(id,fn,pc,rg,st,ch,ph,su,fa,he,()),(op,a,b,c,obj,n,fo,ord,()),())):
 let z7:=(mv,mo,mq,mg,());let z3:=uK th z7 (id,fn,pc,rg,st,ch,ph,su,fa,he,()) (op,a,b,c,obj,n,fo,ord,());let z2:=qB z3 true;let z5:=λ(d:Int)=>0<=gu (λt=>decide (t.fst=(th,d,()).snd.fst)) th;let z6:=λ(d:Int)=>gu (λt=>decide (t.fst=(th,d,()).snd.fst)) th;let z4:=λ(d:Int)=>fM (z6 d) (0:Int);let z1:=λ(dL:TD) (d:Int)=>!decide (dL.snd.snd.snd.snd.snd.snd.snd.fst=2) && decide (z5 d);br (decide (op=14)) (bI z7/\(0<=b/\b < 8)/\b.toNat < 8/\∀(d:Int),rg[b.toNat]?=some d->True/\qB z3 (!decide ((iE fo ((yD z7 obj).fst,d,()).fst d).fst=0))) (br (decide (op=15)) (bI z7/\qB z3 (lT z7 obj)) (br (decide (op=18)) (br (decide (ph=1)) (mg.length<=4611686018427387904/\qB z3 (dU mg id)) (br (decide (ph=2)) (bI z7/\qB z3 (lT z7 n)) z2)) (br (decide (op=22)) ((0<=b/\b < 8)/\b.toNat < 8/\∀(d:Int),rg[b.toNat]?=some d->th.length<=1000000/\(decide (z5 d)=true->0<=fM (z6 d) (0:Int)/\fM (z6 d) 0 < (th.length:Int))/\∀(dL:TD),(decide (z5 d)=true->th[(z4 d).toNat]?=some dL)->((z1 dL d)=true->0<=fM (z6 d) (0:Int)/\fM (z6 d) 0 < (th.length:Int))/\∀(Gq:TD),((z1 dL d)=true->th[(z4 d).toNat]?=some Gq)->qB z3 (decide (z5 d) && (decide (dL.snd.snd.snd.snd.snd.snd.snd.fst=2) || decide (Gq.snd.snd.snd.snd.snd.snd.snd.fst=3)))) z2))):=by
 conv=>zeta
 obtain⟨⟨⟨hM,hf,hT⟩,hb,hc,hv,ho1,ho2,ho3⟩,hl⟩:G7 (mv,mo,mq,mg,()) (id,fn,pc,rg,st,ch,ph,su,fa,he,()) (op,a,b,c,obj,n,fo,ord,())/\th.length<=1000000:=aH;have hb:0<=b/\b < 8:=hb;have ho1:op<=14/\op≠13->0<=obj/\obj < (mv.length:Int):=ho1;have hb8:b.toNat < 8:=by omega
 have hg:mg.length<=4611686018427387904:=by have:mg.length<=1000:=hM.2.2.2.1;omega
 refine bV.2 ⟨λe=>⟨hM,hb,hb8,λd hd=>⟨trivial,wL ?_⟩⟩,λn1=>bV.2 ⟨λe=>⟨hM,wL ?_⟩,λn2=>bV.2 ⟨λe=>bV.2 ⟨λe2=>⟨hg,wL ?_⟩,λm1=>bV.2 ⟨λe2=>⟨hM,wL ?_⟩,λm2=>wL ?_⟩⟩,λn3=>bV.2 ⟨λe=>⟨hb,hb8,λd hd=>⟨hl,λq=>?_,λd1 h1=>⟨λq=>?_,λd2 h2=>wL ?_⟩⟩⟩,λn4=>wL ?_⟩⟩⟩⟩
 .subst e;have e1:∀l m t,uK l m t (14,a,b,c,obj,n,fo,ord,())=decide ((iE fo (m.1[obj.toNat]?.getD 0) (t.2.2.2.1.getD b.toNat 0)).1≠0):=λ_ _ _=>rfl
  rw[e1,<-decide_not];show decide ((iE fo (mv[obj.toNat]?.getD 0) (rg.getD b.toNat 0)).1≠0)=_;rw[rgd hd,Uy hf (ho1 (by omega))]
 .subst e;rfl
 .subst e;subst e2;rfl
 .subst e;subst e2;rfl
 .subst e;have e1:∀l m t,uK l m t (18,a,b,c,obj,n,fo,ord,())=if t.2.2.2.2.2.2.1=1 then dU m.2.2.2.1 t.1 else if t.2.2.2.2.2.2.1=2 then lT m n else true:=λ_ _ _=>rfl
  rw[e1];show(if ph=1 then _ else _)=_
  rw[if_neg m1,if_neg m2]
 .obtain⟨k,t,q1,q2,q3,q4⟩:=nO (RF q);rw[q1];unfold fM;split<;>omega
 .rw[A8]at q;obtain⟨k,t,q1,q2,q3,q4⟩:=nO (RF q.2);rw[q1];unfold fM;split<;>omega
 .subst e;have e1:∀l m t,uK l m t (22,a,b,c,obj,n,fo,ord,())=(match lU l (t.2.2.2.1.getD b.toNat 0) with
   | some u=>decide (u.2.2.2.2.2.2.2.1=2) || decide (u.2.2.2.2.2.2.2.1=3)
   | none=>false):=λ_ _ _=>rfl
  rw[e1];show(match lU th (rg.getD b.toNat 0) with
   | some u=>decide (u.2.2.2.2.2.2.2.1=2) || decide (u.2.2.2.2.2.2.2.1=3)
   | none=>false)=_
  rw[rgd hd];unfold lU
  by_cases q:0<=gu (λt=>decide (t.1=d)) th
  .obtain⟨k,t,q1,q2,q3,q4⟩:=nO q;have h1:=h1 (Ph q);have ek:(fM (gu (λt=>decide (t.1=d)) th) 0).toNat=k:=by rw[q1];unfold fM;split<;>omega
   rw[ek,q2]at h1;have eq1:t=d1:=LW h1;subst eq1;rw[q3,Ph q,Ia]
   by_cases s2:t.2.2.2.2.2.2.2.1=2
   .simp[s2]
   .have h2:=h2 (by rw[Dk s2,Ph q];rfl)
    rw[ek,q2]at h2;have eq2:t=d2:=LW h2;subst eq2;simp[s2]
  .rw[pV q,Dk q];rfl
 .show uK th _ _ _=_;unfold uK;rw[if_neg n1,if_neg n2,if_neg n3,if_neg n4]
theorem UD:aW aT.gd 46 UC:=
 fG (cx:=aT) (n:=97) (cl:=[(96,agH),(87,agK),(97,Ub),(52,JA),(98,Gu)]) (rc:=[]) aB ⟨Ur,Us,Lh,Eu,Aw,trivial⟩ Tryz.func46 λd hd=>by
  obtain⟨⟨th,⟨mv,mo,mq,mg,⟨⟩⟩,bf,⟨⟩⟩,⟨id,fn,pc,rg,st,ch,ph,su,fa,he,⟨⟩⟩,⟨op,a,b,c,obj,n,fo,ord,⟨⟩⟩,⟨⟩⟩:=d;exact aQ (λ_=>none) (amb th mv mo mq mg bf id fn pc rg st ch ph su fa he op a b c obj n fo ord hd) (by kernel_rfl)
def zI:ID:=(0,0,0,0,0,0,0,0,())
def jq(e:Int) (ms:List ByteArray) (fs:List FD) (l:List TD) (id:Int):TD×ID×Bool:=match lU l id with
 | some t=>(t,(dZ e ms fs t).1,(dZ e ms fs t).2)
 | none=>(zT,zI,false)
def Xa(e:Int) (ms:List ByteArray) (fs:List FD) (l:List TD) (m:MD) (t:TD):Bool:=(dZ e ms fs t).2 && uK l m t (dZ e ms fs t).1
def Bf(e:Int) (ms:List ByteArray) (fs:List FD) (l:List TD) (m:MD):List TD->List Int:=λl'=>(l'.filter (Xa e ms fs l m)).map (·.1)
def fP(vs:List VD) (ms cs:List ByteArray) (fs:List FD) (ts:List SD) (l:List TD) (m:MD) (bf:List BD):List Int:=if vsB vs ms cs fs ts 32 l m bf=true then Bf (aG vs ms cs fs ts).1 ms fs l m l else[]
theorem OI{e:Int}{l0:List TD}{d:TD} (h:l[k]?=some d):Bf e ms fs l0 m (l.take (k+1))=Bf e ms fs l0 m (l.take k)++if Xa e ms fs l0 m d=true then[d.1] else[]:=by
 unfold Bf;rw[RD,h,List.filter_append,Pm]
 congr 1
 by_cases q:Xa e ms fs l0 m d=true
 .simp[q]
 .simp[q]
theorem ab4{i:ID} (h:qX i=0) (hu:use i.1 6=false):i.2.2.2.2.2.2.2.1=0:=by
 unfold qX pK at h
 repeat' split at h
 all_goals first | (simp at h;done) | skip
 rename_i h1 h2 h3 h4 h5 h6;rw[hu]at h2;simp only[DJ,A8,LZ]at h2
 by_cases q:i.2.2.2.2.2.2.2.1=0
 .exact q
 .exact absurd (.inr ⟨rfl,q⟩) h2
theorem OJ{e:Int}{t:TD} (h:(dZ e ms fs t).2=true):e=0/\t.2.2.2.2.2.2.2.1=1/\vM ms fs 32 t/\qh fs t.2.1 t.2.2.1=some (dZ e ms fs t).1:=by
 unfold dZ at h ⊢
 split at h
 .rename_i q;rw[if_pos q];refine⟨q.1,q.2.1,q.2.2,?_⟩;unfold atR at h ⊢
  cases ha:qh fs t.2.1 t.2.2.1 with
  | none=>rw[ha]at h;cases h
  | some i=>rfl
 .cases h
theorem tH{p:PD} (h:mW p m=true):(aG p.1 p.2.1 p.2.2.1 p.2.2.2.1 p.2.2.2.2.1).1=0/\dM m=true/\m.1.length=p.1.length/\m.2.1.length=p.2.1.length/\m.2.2.1.length=p.2.2.1.length:=by
 unfold mW at h;simp only[A8,dW]at h;exact⟨h.1.1.1.1,h.1.1.1.2,h.1.1.2,h.1.2,h.2⟩
theorem Ls{vs:List VD}{cs:List ByteArray}{ts:List SD}{t:TD} (hv:mW (vs,ms,cs,fs,ts,()) m=true) (hM:bI m) (hT:tB t) (h:(dZ (aG vs ms cs fs ts).1 ms fs t).2=true):
 G7 m t (dZ (aG vs ms cs fs ts).1 ms fs t).1:=by
 obtain⟨e0,h1,h2,h3⟩:=OJ h;obtain⟨_,f,l1,l2,l3⟩:=tH hv;have l1:m.1.length=vs.length:=l1;have l3:m.2.2.1.length=cs.length:=l3;generalize (dZ (aG vs ms cs fs ts).1 ms fs t).1=i at h3;obtain⟨_,_,j,hj,vj,_⟩:=CV h2 h1;rw[h3]at hj;cases hj;have hf:=(CW (fH h2)).1;obtain⟨k1,k2,k3,k4⟩:=qM (Dy e0 hf h3);obtain⟨r1,r2,r3,r4⟩:=mP k1;have vj:8<=i.1/\i.1<=22:=by unfold mO at vj;simpa using vj
 refine⟨⟨hM,f,hT⟩,r2,r3,vj,λq=>?_,λq=>?_,λq=>?_⟩
 .have e1:pR vs ms cs fs i.1=vs.length:=by unfold pR;rw[if_pos (by omega)]
  rw[e1]at k2;rw[l1];exact k2 (by omega)
 .have e1:pR vs ms cs fs i.1=cs.length:=by unfold pR;rw[if_neg (by omega),if_neg (by omega),if_pos (by omega)]
  rw[e1]at k2;rw[l3];exact k2 (by omega)
 .refine ab4 k1 ?_;have:i.1=13\/i.1=15\/i.1=16\/i.1=17\/i.1=18\/i.1=19\/i.1=20\/i.1=21\/i.1=22:=by omega
  rcases this with e | e | e | e | e | e | e | e | e<;>rw[e]<;>rfl
abbrev UE:CT:={ ps:=[sS,Uw,.int .i64],pre:=λd=>bnd (d.1,())/\je d.2.1.1,res:=λd=>([],.iO [.dat dR (jq (aG d.1.1 d.1.2.1 d.1.2.2.1 d.1.2.2.2.1 d.1.2.2.2.2.1).1 d.1.2.1 d.1.2.2.2.1 d.2.1.1 d.2.2.1).1,agI ((jq (aG d.1.1 d.1.2.1 d.1.2.2.1 d.1.2.2.2.1 d.1.2.2.2.2.1).1 d.1.2.1 d.1.2.2.2.1 d.2.1.1 d.2.2.1).2.1),.c (.v (.bool ((jq (aG d.1.1 d.1.2.1 d.1.2.2.1 d.1.2.2.2.1 d.1.2.2.2.2.1).1 d.1.2.1 d.1.2.2.2.1 d.2.1.1 d.2.2.1).2.2)))]) }
theorem amc(vs:List VD) (ms cs:List ByteArray) (fs:List FD) (ts:List SD) (th:List TD) (mv mo:List Int) (mq:List (List Int)) (mg:List Int) (bf:List BD) (id:Int) (aH:UE.pre ((vs,ms,cs,fs,ts,()),(th,(mv,mo,mq,mg,()),bf,()),id,())):
 let z9:=aG vs ms cs fs ts;let z7:=jq z9.fst ms fs th id;let z2:=[SV.dat dR z7.fst,agI (z7.snd.fst),cB (z7.snd.snd)];let z8:=gu (λt=>decide (t.fst=id)) th;let z4:=0<=fM z8 (0:Int)/\fM z8 0 < (th.length:Int);let z6:=fM z8 (0:Int);let z3:=λ(d:TD)=>(bnd ((vs,ms,cs,fs,ts,()),()))/\List.length d.snd.snd.snd.snd.snd.snd.snd.snd.snd.fst<=1000000/\d.fst<=9223372036854775807/\List.length d.snd.snd.snd.fst=8;let z5:=λ(dL d:TD)=>[SV.dat dR (dL),agI ((dZ z9.fst ms fs d).fst),cB ((dZ z9.fst ms fs d).snd)];let z1:=λ(dL d:TD)=>rT z2 (z5 dL d);th.length<=1000000/\br (!decide (0<=gu (λt=>decide (t.fst=id)) th)) (rT z2 [SV.dat dR (((0:Int),(0:Int),(0:Int),Xl,(0:Int),(0:Int),(0:Int),(0:Int),(0:Int),[],())),agI (0,0,0,0,0,0,0,0,()),cB false]) (z4/\∀(d:TD),th[z6.toNat]?=some d->((z3 d)/\z4/\∀(dL:TD),th[z6.toNat]?=some dL->(z1 dL d)/\rT z2 (z5 dL d))/\(z3 d)/\z4/\∀(dL:TD),th[z6.toNat]?=some dL->(z1 dL d)/\rT z2 (z5 dL d)):=by
 conv=>zeta
 delta Xl;obtain⟨hb,hl,hT⟩:bnd ((vs,ms,cs,fs,ts,()),())/\je th:=aH;refine⟨hl,ah.2 ⟨λh=>?_,λh=>?_⟩⟩
 .have q:¬0<=gu (λt=>decide (t.1=id)) th:=by simpa using h
  have e:jq (aG vs ms cs fs ts).1 ms fs th id=(zT,zI,false):=by unfold jq lU;rw[pV q]
  rw[e];exact⟨rfl,rfl⟩
 .have q:0<=gu (λt=>decide (t.1=id)) th:=by simpa using h
  obtain⟨k,t,q1,q2,q3,q4⟩:=nO q;have ek:(fM (gu (λt=>decide (t.1=id)) th) 0).toNat=k:=by rw[q1];unfold fM;split<;>omega
  have hx:0<=fM (gu (λt=>decide (t.1=id)) th) 0/\fM (gu (λt=>decide (t.1=id)) th) 0 < (th.length:Int):=by rw[q1];unfold fM;split<;>omega
  have e:jq (aG vs ms cs fs ts).1 ms fs th id=(t,(dZ (aG vs ms cs fs ts).1 ms fs t).1,(dZ (aG vs ms cs fs ts).1 ms fs t).2):=by unfold jq lU;rw[q3]
  have key:∀d d1:TD,th[(fM (gu (λt=>decide (t.1=id)) th) 0).toNat]?=some d->th[(fM (gu (λt=>decide (t.1=id)) th) 0).toNat]?=some d1->rT [SV.dat dR (jq (aG vs ms cs fs ts).1 ms fs th id).1,agI (jq (aG vs ms cs fs ts).1 ms fs th id).2.1,cB (jq (aG vs ms cs fs ts).1 ms fs th id).2.2] [SV.dat dR d1,agI (dZ (aG vs ms cs fs ts).1 ms fs d).1,cB (dZ (aG vs ms cs fs ts).1 ms fs d).2]:=by
   intro d d1 h1 h2;rw[ek,q2]at h1 h2;have e1:t=d:=LW h1;have e2:t=d1:=LW h2;subst e1;subst e2;rw[e];exact⟨rfl,rfl⟩
  exact⟨hx,λd hd=>⟨⟨⟨hb,hT d (iM hd)⟩,hx,λd1 h1=>⟨key d d1 hd h1,key d d1 hd h1⟩⟩,⟨hb,hT d (iM hd)⟩,hx,λd1 h1=>⟨key d d1 hd h1,key d d1 hd h1⟩⟩⟩
theorem UF:aW aT.gd 41 UE:=
 fG (cx:=aT) (n:=40) (cl:=[(52,JA),(45,Um)]) (rc:=[.data dR,.keep,.keep]) aB ⟨Eu,Un,trivial⟩ Tryz.func41 λd hd=>by
  obtain⟨⟨vs,ms,cs,fs,ts,⟨⟩⟩,⟨th,⟨mv,mo,mq,mg,⟨⟩⟩,bf,⟨⟩⟩,id,⟨⟩⟩:=d;exact aQ (λ_=>none) (amc vs ms cs fs ts th mv mo mq mg bf id hd) (by kernel_rfl)
abbrev G8:CT:={ ps:=[sS,Uw],pre:=λd=>bnd (d.1,())/\je d.2.1.1/\bI d.2.1.2.1,res:=λd=>([],.one (.c (.sl (.int .i64) (fP d.1.1 d.1.2.1 d.1.2.2.1 d.1.2.2.2.1 d.1.2.2.2.2.1 d.2.1.1 d.2.1.2.1 d.2.1.2.2.1)))) }
abbrev aoX(vs:List VD) (ms cs:List ByteArray) (fs:List FD) (ts:List SD) (th:List TD) (mv mo:List Int) (mq:List (List Int)) (mg:List Int) (bf:List BD):Nat->Option (St->kS):=λk=>match k with
 | 5=>some λ_=>.inv { α:=Nat,nil:=[(5,3,.int .i64)],slots:=λk=>[(17,.c (.v (.int .i64 k))),(5,.c (.row 2))],res:=λk=>[(2,.row 3 (.int .i64) (Bf (aG vs ms cs fs ts).1 ms fs th (mv,mo,mq,mg,()) (th.take k)))],inv:=λk=>k<=th.length,meas:=λk=>th.length - k }
 | _=>none
theorem amd(vs:List VD) (ms cs:List ByteArray) (fs:List FD) (ts:List SD) (th:List TD) (mv mo:List Int) (mq:List (List Int)) (mg:List Int) (bf:List BD) (aH:G8.pre ((vs,ms,cs,fs,ts,()),(th,(mv,mo,mq,mg,()),bf,()),())):
 let z7:=bnd ((vs,ms,cs,fs,ts,()),());let z10:=(mv,mo,mq,mg,());let z4:=bg.one (SV.c (SC.sl I6 (fP vs ms cs fs ts th z10 bf)));let z11:=bP vs ms cs fs ts;let z8:=bZ th mv mo mq mg bf;let z9:=aG vs ms cs fs ts;let z2:=λ(x:Nat)=>Bf z9.fst ms fs th z10 (List.take x th);let z1:=λ(x:Nat)=>[g0 z11,g0 z8,g0 (au.row 3 I6 (z2 x))];let z6:=λ(d:TD)=>dZ z9.fst ms fs d;let z5:=λ(d:TD)=>(z6 d).fst;let z3:=λ(x x':Nat)=>cI ((x:Int)+(1:Int))=cI (x':Int)/\sm (SV.c (SC.row 2))/\True;(z7/\je th/\bI z10)/\br (!vsB vs ms cs fs ts (32:Int) th z10 bf) (rE z4 (bg.one (SV.c (SC.sl I6 [])))) ((∃x,x<=th.length/\(cI 0=cI (x:Int)/\sm (SV.c (SC.row 2))/\True)/\[g0 z11,g0 z8,g0 (au.row 3 I6 [])]=(z1 x))/\∀(x:Nat),x<=th.length->br (decide ((x:Int) < (th.length:Int))) ((0<=(x:Int)/\(x:Int) < (th.length:Int))/\∀(d:TD),th[(x:Int).toNat]?=some d->(z7/\List.length d.snd.snd.snd.snd.snd.snd.snd.snd.snd.fst<=1000000/\d.fst<=9223372036854775807/\List.length d.snd.snd.snd.fst=8)/\((z6 d).snd=true->G7 z10 d (z5 d)/\th.length<=1000000)/\br ((z6 d).snd && uK th z10 d (z5 d)) (oH (List.length (z2 x)+List.length ([(d).fst])) 8/\iR ((x:Int)+(1:Int))/\∃x',x'<=th.length/\(z3 x x')/\[g0 z11,g0 z8,g0 (au.row 3 I6 (Bf z9.fst ms fs th z10 (List.take x th)++[(d).fst]))]=(z1 x')/\th.length - x' < th.length - x) (iR ((x:Int)+(1:Int))/\∃x',x'<=th.length/\(z3 x x')/\(z1 x)=(z1 x')/\th.length - x' < th.length - x)) (rE z4 (bg.one (SV.c (SC.sl I6 (z2 x)))))):=by
 conv=>zeta
 delta iR;obtain⟨hb,⟨hl,hT⟩,hM⟩:bnd ((vs,ms,cs,fs,ts,()),())/\je th/\bI (mv,mo,mq,mg,()):=aH;refine⟨⟨hb,⟨hl,hT⟩,hM⟩,ah.2 ⟨λh=>?_,λh=>⟨⟨0,by omega,⟨rfl,rfl,trivial⟩,by simp[Bf]⟩,λk hk=>ah.2 ⟨λg=>?_,λg=>?_⟩⟩⟩⟩
 .have h:vsB vs ms cs fs ts 32 th (mv,mo,mq,mg,()) bf=false:=by simpa using h
  exact⟨rfl,by unfold fP;rw[h];rfl⟩
 .simp only[dW]at g;have hv:vsB vs ms cs fs ts 32 th (mv,mo,mq,mg,()) bf=true:=by simpa using h
  have hV:=jo.1 hv;have hle:(Bf (aG vs ms cs fs ts).1 ms fs th (mv,mo,mq,mg,()) (th.take k)).length<=k:=by
   unfold Bf;rw[Xr];exact qP (Xv _ _) (by rw[lZ];omega)
  refine⟨⟨by omega,by omega⟩,λd hd=>⟨⟨hb,hT d (iM hd)⟩,λq=>⟨Ls hV.1 hM (hT d (iM hd)) q,hl⟩,ah.2 ⟨λg2=>⟨fO.2 (by simp only[yE,Pg];omega),ay.2 (by omega),k+1,by omega,⟨rfl,rfl,trivial⟩,?_,by omega⟩,λg2=>⟨ay.2 (by omega),k+1,by omega,⟨rfl,rfl,trivial⟩,?_,by omega⟩⟩⟩⟩
  .have hd:th[k]?=some d:=hd;rw[OI hd,if_pos (show Xa _ _ _ _ _ _=true from g2)]
  .have hd:th[k]?=some d:=hd;have g2:Xa (aG vs ms cs fs ts).1 ms fs th (mv,mo,mq,mg,()) d=false:=g2;rw[OI hd,g2];simp
 .simp only[gW]at g;have hv:vsB vs ms cs fs ts 32 th (mv,mo,mq,mg,()) bf=true:=by simpa using h
  have ek:k=th.length:=by omega
  subst ek;rw[zi (qm _)];exact⟨rfl,by unfold fP;rw[if_pos hv]⟩
theorem Lu:aW aT.gd 19 G8:=
 fG (cx:=aT) (n:=41) (cl:=[(40,ab1),(45,Um),(46,UC)]) (rc:=[.data (.sl (.int .i64))]) aB ⟨Lr,Un,UD,trivial⟩ Tryz.func19 λd hd=>by
  obtain⟨⟨vs,ms,cs,fs,ts,⟨⟩⟩,⟨th,⟨mv,mo,mq,mg,⟨⟩⟩,bf,⟨⟩⟩,⟨⟩⟩:=d;exact aQ (aoX vs ms cs fs ts th mv mo mq mg bf) (amd vs ms cs fs ts th mv mo mq mg bf hd) (by kernel_rfl)
def nP(vs:List VD) (ms cs:List ByteArray) (fs:List FD) (ts:List SD) (l:List TD) (m:MD) (bf:List BD) (id:Int):ED×Bool:=
 if vsB vs ms cs fs ts 32 l m bf=true then(if(jq (aG vs ms cs fs ts).1 ms fs l id).2.2=true then(labS m (jq (aG vs ms cs fs ts).1 ms fs l id).1 (jq (aG vs ms cs fs ts).1 ms fs l id).2.1,true) else(zE,false)) else(zE,false)
abbrev UG:CT:={ ps:=[sS,Uw,.int .i64],pre:=λd=>bnd (d.1,())/\je d.2.1.1/\bI d.2.1.2.1,res:=λd=>([],.iO [IB ((nP d.1.1 d.1.2.1 d.1.2.2.1 d.1.2.2.2.1 d.1.2.2.2.2.1 d.2.1.1 d.2.1.2.1 d.2.1.2.2.1 d.2.2.1).1),.c (.v (.bool ((nP d.1.1 d.1.2.1 d.1.2.2.1 d.1.2.2.2.1 d.1.2.2.2.2.1 d.2.1.1 d.2.1.2.1 d.2.1.2.2.1 d.2.2.1).2)))]) }
theorem ame(vs:List VD) (ms cs:List ByteArray) (fs:List FD) (ts:List SD) (th:List TD) (mv mo:List Int) (mq:List (List Int)) (mg:List Int) (bf:List BD) (id:Int) (aH:UG.pre ((vs,ms,cs,fs,ts,()),(th,(mv,mo,mq,mg,()),bf,()),id,())):
 let z7:=bnd ((vs,ms,cs,fs,ts,()),());let z8:=(mv,mo,mq,mg,());let z4:=nP vs ms cs fs ts th z8 bf id;let z2:=[IB (z4.fst),cB (z4.snd)];let z1:=rT z2 [IB (0,0,0,0,0,0,0,0,0,()),cB false];let z6:=jq (aG vs ms cs fs ts).fst ms fs th id;let z5:=z6.fst;let z3:=z6.snd.fst;(z7/\je th/\bI z8)/\br (!vsB vs ms cs fs ts (32:Int) th z8 bf) z1 ((z7/\je th)/\br (!z6.snd.snd) z1 (G7 z8 z5 z3/\rT z2 [IB (labS z8 z5 z3),cB true])):=by
 conv=>zeta
 obtain⟨hb,hT,hM⟩:bnd ((vs,ms,cs,fs,ts,()),())/\je th/\bI (mv,mo,mq,mg,()):=aH;refine⟨⟨hb,hT,hM⟩,ah.2 ⟨λh=>?_,λh=>⟨⟨hb,hT⟩,ah.2 ⟨λh2=>?_,λh2=>⟨?_,?_⟩⟩⟩⟩⟩
 .have h:vsB vs ms cs fs ts 32 th (mv,mo,mq,mg,()) bf=false:=by simpa using h
  have e:nP vs ms cs fs ts th (mv,mo,mq,mg,()) bf id=(zE,false):=by unfold nP;rw[h];rfl
  rw[e];exact⟨rfl,rfl⟩
 all_goals have hv:vsB vs ms cs fs ts 32 th (mv,mo,mq,mg,()) bf=true:=by simpa using h
 .have h2:(jq (aG vs ms cs fs ts).1 ms fs th id).2.2=false:=by simpa using h2
  have e:nP vs ms cs fs ts th (mv,mo,mq,mg,()) bf id=(zE,false):=by unfold nP;rw[if_pos hv,h2];rfl
  rw[e];exact⟨rfl,rfl⟩
 all_goals have h2:(jq (aG vs ms cs fs ts).1 ms fs th id).2.2=true:=by simpa using h2
 .have h3:=h2;unfold jq at h3 ⊢;cases ef:lU th id with
  | none=>rw[ef]at h3;cases h3
  | some t=>
    rw[ef]at h3;exact Ls (jo.1 hv).1 hM (hT.2 t (aiS ef)) h3
 .have e:nP vs ms cs fs ts th (mv,mo,mq,mg,()) bf id=(labS (mv,mo,mq,mg,()) (jq (aG vs ms cs fs ts).1 ms fs th id).1 (jq (aG vs ms cs fs ts).1 ms fs th id).2.1,true):=by unfold nP;rw[if_pos hv,if_pos h2]
  rw[e];exact⟨rfl,rfl⟩
theorem UH:aW aT.gd 16 UG:=
 fG (cx:=aT) (n:=31) (cl:=[(40,ab1),(41,UE),(42,Uz)]) (rc:=[.keep,.keep]) aB ⟨Lr,UF,UA,trivial⟩ Tryz.func16 λd hd=>by
  obtain⟨⟨vs,ms,cs,fs,ts,⟨⟩⟩,⟨th,⟨mv,mo,mq,mg,⟨⟩⟩,bf,⟨⟩⟩,id,⟨⟩⟩:=d;exact aQ (λ_=>none) (ame vs ms cs fs ts th mv mo mq mg bf id hd) (by kernel_rfl)
abbrev shR:Sh:=.pair (.sl (.int .i64)) (.pair (.sl (.int .i64)) (.pair (.sl (.sl (.int .i64))) (.pair (.sl (.int .i64)) (.pair (.sl Bd) .unit))))
def zR:TD:=(0,0,0,List.replicate 8 0,0,0,0,0,0,[],())
open Classical in
def oK{α:Type} (a b:α):Bool:=decide (a=b)
theorem oL{α:Type}{a b:α}:oK a b=true↔a=b:=by unfold oK;exact @A82 _ (Classical.propDecidable _)
theorem oQ{α:Type}{a b:α} (h:a≠b):oK a b=false:=A96.2 λq=>h (oL.1 q)
theorem lW{α:Type}{a b:α} (h:a=b):oK a b=true:=oL.2 h
theorem LC{i f t:Int} (h:bI m):bI (iK m i id f t).1:=by
 have z:bI zM:=⟨by decide,by decide,by decide,by decide,by decide,by decide⟩
 unfold iK;split
 .split
  .exact z
  .split
   .obtain⟨h1,h2,h3⟩:=h;exact⟨h1,by rw[xY];exact h2,h3⟩
   .exact z
 .exact z
theorem aoY{a b:List SV} (h:a=b):rT a b:=⟨rfl,by rw[h]⟩
def Bg(l:List BD):Prop:=l.length<=1000000/\∀b∈l,b.2.2.1.length<=1000000
def ab5(z:ZD):Prop:=je z.1/\bI z.2.1/\Bg z.2.2.1
abbrev ab6:CT:={ ps:=[yB,dR,oP,WZ],pre:=λd=>bI d.1/\d.2.1.1=d.2.2.2.1.1,res:=λd=>([],.iO [O7 ((jM d.1 d.2.2.2.1).1),.c (.v (.int .i64 (lV d.2.2.1 d.2.2.2.1))),.c (.v (.int .i64 ((jM d.1 d.2.2.2.1).2)))]) }
theorem amf(mv mo:List Int) (mq:List (List Int)) (mg:List Int) (id fn pc:Int) (rg:List Int) (st ch ph su fa:Int) (he:List Int) (op a b c obj n fo ord ag ix kd eo mx en JB rd wr:Int) (aH:ab6.pre ((mv,mo,mq,mg,()),(id,fn,pc,rg,st,ch,ph,su,fa,he,()),(op,a,b,c,obj,n,fo,ord,()),(ag,ix,kd,eo,mx,en,JB,rd,wr,()),())):
 let z20:=(mv,mo,mq,mg,());let mQ:=(ag,ix,kd,eo,mx,en,JB,rd,wr,());let z5:=jM z20 mQ;let z4:=[O7 (z5.fst),cI (lV (op,a,b,c,obj,n,fo,ord,()) mQ),cI (z5.snd)];let Oz:=writeM z20 eo wr;let z13:=Oz.fst;let y7:=Oz.snd;let z2:=rT z4 [O7 z20,cI rd,cI 0];let z3:=rT z4 [O7 z20,cI 0,cI 0];let z12:=iK z20 eo id (-1:Int) id;let z7:=z12.fst;let z8:=z12.snd;let z10:=iK z20 eo id id (-1:Int);let z11:=iK z20 mx id id (-1:Int);let z9:=z11.fst;let z6:=tu z9 eo id;let O6:=lg z20 id;let z17:=tN z20 eo (1:Int);let vJ:=tN z20 eo (lq mq);let z1:=br (decide (kd=11)) (br (decide (rd=0)) z3 (bI z20/\rT z4 [O7 z7,cI 1,cI z8])) (br (decide (kd=9)) (bI z20/\rT z4 [O7 z7,cI 0,cI z8]) (br (decide (kd=10)) (bI z20/\rT z4 [O7 (z10.fst),cI 0,cI (z10.snd)]) (br (decide (kd=12)) (bI z20/\br (decide (z11.snd=0)) (bI z9/\rT z4 [O7 (z6.fst),cI 0,cI (z6.snd)]) (rT z4 [O7 z9,cI 0,cI (z11.snd)])) (br (decide (kd=13)) (bI z20/\rT z4 [O7 (O6.fst),cI 0,cI (O6.snd)]) (br (decide (kd=14)) (bI z20/\rT z4 [O7 (z17.fst),cI 0,cI (z17.snd.snd)]) (br (decide (kd=15)) (bI z20/\rT z4 [O7 (vJ.fst),cI 0,cI (vJ.snd.snd)]) (br (decide (kd=16)) (rT z4 [O7 z20,cI eo,cI 0]) z3)))))));br (decide (kd=5)) (bI z20/\br (decide (op=12)) (rT z4 [O7 z13,cI 1,cI y7]) (rT z4 [O7 z13,cI rd,cI y7]))
 (br (decide (kd=2)) (bI z20/\rT z4 [O7 z13,cI 0,cI y7]) (br (decide (kd=1)) (br (decide (kd=1)) z2 z1) (br (decide (kd=8)) z2 z1))):=by
 conv=>zeta
 obtain⟨hM,hid⟩:bI (mv,mo,mq,mg,())/\id=ag:=aH;subst hid;simp only[bV]
 repeat' (first | exact hM | exact LC hM | (refine aoY ?_) | (refine And.intro ?_ ?_) | (intro _))
 all_goals first | exact hM | exact LC hM | trivial | (exfalso;omega) | (simp_all[jM,lV];done) | skip
theorem ahf:aW aT.gd 48 ab6:=
 fG (cx:=aT) (n:=132) (cl:=[(100,alN),(101,abI),(102,abK),(103,abO),(104,abS),(105,abQ),(106,abX)]) (rc:=[.data yB,.keep,.keep]) aB ⟨abH,abJ,abL,abP,abT,abR,abY,trivial⟩ Tryz.func48 λd hd=>by
  obtain⟨⟨mv,mo,mq,mg,⟨⟩⟩,⟨id,fn,pc,rg,st,ch,ph,su,fa,he,⟨⟩⟩,⟨op,a,b,c,obj,n,fo,ord,⟨⟩⟩,⟨ag,ix,kd,eo,mx,en,JB,rd,wr,⟨⟩⟩,⟨⟩⟩:=d;exact aQ (λ_=>none) (amf mv mo mq mg id fn pc rg st ch ph su fa he op a b c obj n fo ord ag ix kd eo mx en JB rd wr hd) (by kernel_rfl)
abbrev ab7:CT:={ ps:=[.sl WY],pre:=λd=>d.1.length<=1000000,res:=λd=>([.row 67 WY d.1],.one (.c (.row 0))) }
theorem amg(l:List (Int×Int×Unit)) (aH:ab7.pre (l,())):
 ∀(b:Bool),(b=true->l=[])->br b ([au.row 67 nS l]=[au.row 67 nS []]/\bg.one (SV.c (SC.row 0))=bg.one (SV.c (SC.row 0))) (oH (0+List.length (l)) 16/\[au.row 67 nS l]=[au.row 67 nS ([]++l)]/\bg.one (SV.c (SC.row 0))=bg.one (SV.c (SC.row 0))):=by
 have hp:l.length<=1000000:=aH;intro b hb;refine ah.2 ⟨λh=>by rw[hb h];exact⟨rfl,rfl⟩,λh=>⟨?_,by simp,rfl⟩⟩
 rw[fO];omega
theorem ahg:aW aT.gd 59 ab7:=
 KJ (il:=Xj) (rc:=[.row 67 WY]) (cx:=aT) (n:=8) (cl:=[]) (by kernel_rfl) aB trivial trivial Tryz.func59 (by kernel_rfl) (by kernel_rfl) rfl (by kernel_rfl) (by kernel_rfl) λd hd=>by
  obtain⟨l,⟨⟩⟩:=d;exact aQ (λ_=>none) (amg l hd) (by kernel_rfl)
abbrev ab8:CT:={ ps:=[Uw],pre:=λd=>ab5 d.1,res:=λd=>([.row 56 dR d.1.1],.one (.agg [.row 0,.sl (.int .i64) d.1.2.1.1,.sl (.int .i64) d.1.2.1.2.1,.sl (.sl (.int .i64)) d.1.2.1.2.2.1,.sl (.int .i64) d.1.2.1.2.2.2.1,.sl Bd d.1.2.2.1])) }
abbrev aoZ(th:List TD) (mv mo:List Int) (mq:List (List Int)) (mg:List Int) (bf:List BD):Nat->Option (St->kS):=λk=>match k with
 | 5=>some λ_=>.inv { α:=Nat,slots:=λk=>[(23,.c (.v (.int .i64 k)))],res:=λk=>[(7,.row 56 dR th)],inv:=λk=>k<=th.length,meas:=λk=>th.length - k }
 | 12=>some λ_=>.inv { α:=Nat,slots:=λk=>[(52,.c (.v (.int .i64 k)))],res:=λk=>[(8,.row 65 Bd bf)],inv:=λk=>k<=bf.length,meas:=λk=>bf.length - k }
 | _=>none
abbrev wM:=[iN,iN,iN,iN,iN,iN]
theorem amh(th:List TD) (mv mo:List Int) (mq:List (List Int)) (mg:List Int) (bf:List BD) (aH:ab8.pre ((th,(mv,mo,mq,mg,()),bf,()),())):
 let z13:=bZ th mv mo mq mg bf;let z6:=[SC.row (Nat.succ 0).succ.succ.succ.succ.succ.succ,SC.row 2,SC.row 3,SC.row 4,SC.row 5,iN];let z11:=List.replicate (th.length:Int).toNat (zR:TD);let z4:=List.take (List.length z11) (th)++List.drop (List.length (th)) z11;let z2:=[g0 z13,g0 (au.blk 37 wM),g0 (au.row 3 I6 mv),g0 (au.row 3 I6 mo),g0 (au.row 31 I6.sl mq),g0 (au.row 3 I6 mg),g0 (au.blk 37 z6),g0 (au.row 56 dR th)];let z9:=λ(x:Nat)=>0<=(x:Int)/\(x:Int) < (th.length:Int);let z12:=λ(x:Nat)=>(x:Int)+(1:Int);let z5:=[SC.row (Nat.succ 0).succ.succ.succ.succ.succ.succ,SC.row 2,SC.row 3,SC.row 4,SC.row 5,SC.row (Nat.succ 0).succ.succ.succ.succ.succ.succ.succ];let z8:=List.replicate (bf.length:Int).toNat (((0:Int),(0:Int),[],()):BD);let z3:=List.take (List.length z8) (bf)++List.drop (List.length (bf)) z8;let z1:=[g0 z13,g0 (au.blk 37 wM),g0 (au.row 3 I6 mv),g0 (au.row 3 I6 mo),g0 (au.row 31 I6.sl mq),g0 (au.row 3 I6 mg),g0 (au.blk 37 z5),g0 (au.row 56 dR th),g0 (au.row 65 Bd bf)];let z10:=λ(x:Nat)=>0<=(x:Int)/\(x:Int) < (bf.length:Int);let z7:=[SC.row 0,SC.sl I6 mv,SC.sl I6 mo,SC.sl I6.sl mq,SC.sl I6 mg,SC.sl Bd bf];bI (mv,mo,mq,mg,())/\(0<=(th.length:Int)/\(th.length:Int)<=(th.length:Int)/\oH (th.length:Int).toNat 152)/\(∃x,x<=th.length/\(cI 0=cI (x:Int)/\True)/\[g0 z13,g0 (au.blk 37 wM),g0 (au.row 3 I6 mv),g0 (au.row 3 I6 mo),g0 (au.row 31 I6.sl mq),g0 (au.row 3 I6 mg),g0 (au.blk 37 z6),g0 (au.row 56 dR z4)]=z2)/\∀(x:Nat),x<=th.length->br (decide ((x:Int) < (z4.length:Int))) ((z9 x)/\∀(d:TD),th[(x:Int).toNat]?=some d->List.length d.snd.snd.snd.snd.snd.snd.snd.snd.snd.fst<=1000000/\(z9 x)/\(x:Int).toNat < th.length/\∀(e:TD),th[(x:Int).toNat]?=some e->iR (z12 x)/\∃x',x'<=th.length/\(cI (z12 x)=cI (x':Int)/\True)/\[g0 z13,g0 (au.blk 37 wM),g0 (au.row 3 I6 mv),g0 (au.row 3 I6 mo),g0 (au.row 31 I6.sl mq),g0 (au.row 3 I6 mg),g0 (au.blk 37 z6),g0 (au.row 56 dR (th.set (x:Int).toNat (e.fst,e.2.fst,e.2.2.fst,e.2.2.2.fst,e.2.2.2.2.fst,e.2.2.2.2.2.fst,e.2.2.2.2.2.2.fst,e.2.2.2.2.2.2.2.fst,e.2.2.2.2.2.2.2.2.fst,d.snd.snd.snd.snd.snd.snd.snd.snd.snd.fst,e.2.2.2.2.2.2.2.2.2.snd)))]=z2/\th.length - x' < th.length - x) ((0<=(bf.length:Int)/\(bf.length:Int)<=(bf.length:Int)/\oH (bf.length:Int).toNat 40)/\(∃x,x<=bf.length/\(cI 0=cI (x:Int)/\True)/\[g0 z13,g0 (au.blk 37 wM),g0 (au.row 3 I6 mv),g0 (au.row 3 I6 mo),g0 (au.row 31 I6.sl mq),g0 (au.row 3 I6 mg),g0 (au.blk 37 z5),g0 (au.row 56 dR th),g0 (au.row 65 Bd z3)]=z1)/\∀(x:Nat),x<=bf.length->br (decide ((x:Int) < (z3.length:Int))) ((z10 x)/\∀(d:BD),bf[(x:Int).toNat]?=some d->List.length d.snd.snd.fst<=1000000/\(z10 x)/\(x:Int).toNat < bf.length/\∀(e:BD),bf[(x:Int).toNat]?=some e->iR (z12 x)/\∃x',x'<=bf.length/\(cI (z12 x)=cI (x':Int)/\True)/\[g0 z13,g0 (au.blk 37 wM),g0 (au.row 3 I6 mv),g0 (au.row 3 I6 mo),g0 (au.row 31 I6.sl mq),g0 (au.row 3 I6 mg),g0 (au.blk 37 z5),g0 (au.row 56 dR th),g0 (au.row 65 Bd (bf.set (x:Int).toNat (e.fst,e.2.fst,d.snd.snd.fst,e.2.2.snd)))]=z1/\bf.length - x' < bf.length - x) ([au.row 56 dR th]=[au.row 56 dR th]/\bg.one (SV.agg z7)=bg.one (SV.agg z7))):=by
 conv=>zeta
 delta wM iR iN;obtain⟨⟨hl,hT⟩,hM,hB,hb⟩:je th/\bI (mv,mo,mq,mg,())/\Bg bf:=aH;have tk:∀{α:Type} (l:List α) (z:α),List.take (List.length (List.replicate (l.length:Int).toNat z)) l++List.drop (List.length l) (List.replicate (l.length:Int).toNat z)=l:=by
  intro α l z;rw[LU,A95,zi (qm _),Va (by rw[LU];omega),RH]
 have st:∀{α:Type}{l:List α}{k:Nat}{d:α},l[k]?=some d->l.set k d=l:=λh=>ig h
 rw[tk th,tk bf];refine⟨hM,⟨by omega,by omega,fO.2 (by omega)⟩,⟨0,by omega,⟨rfl,trivial⟩,rfl⟩,λk hk=>ah.2 ⟨λg=>?_,λg=>⟨⟨by omega,by omega,fO.2 (by omega)⟩,⟨0,by omega,⟨rfl,trivial⟩,rfl⟩,λk hk=>ah.2 ⟨λg=>?_,λg=>?_⟩⟩⟩⟩
 .simp only[dW]at g;refine⟨⟨by omega,by omega⟩,λd hd=>⟨(hT d (iM hd)).1,⟨by omega,by omega⟩,by omega,λe he=>⟨ay.2 (by omega),k+1,by omega,⟨rfl,trivial⟩,?_,by omega⟩⟩⟩
  have hd:th[(k:Int).toNat]?=some d:=hd;rw[hd]at he;have e1:d=e:=LW he;subst e1;have:th.set (k:Int).toNat d=th:=st hd;exact tK (λz=>[_,_,_,_,_,_,_,g0 (au.row 56 dR z)]) this
 .simp only[dW]at g;refine⟨⟨by omega,by omega⟩,λd hd=>⟨hb d (iM hd),⟨by omega,by omega⟩,by omega,λe he=>⟨ay.2 (by omega),k+1,by omega,⟨rfl,trivial⟩,?_,by omega⟩⟩⟩
  have hd:bf[(k:Int).toNat]?=some d:=hd;rw[hd]at he;have e1:d=e:=LW he;subst e1;have:bf.set (k:Int).toNat d=bf:=st hd;exact tK (λz=>[_,_,_,_,_,_,_,_,g0 (au.row 65 Bd z)]) this
 .exact⟨rfl,rfl⟩
theorem ahh:aW aT.gd 23 ab8:=
 fG (cx:=aT) (n:=69) (cl:=[(49,Dz),(58,xB),(59,ab7)]) (rc:=[.hd 56 dR shR]) aB ⟨sW,Ei,ahg,trivial⟩ Tryz.func23 λd hd=>by
  obtain⟨⟨th,⟨mv,mo,mq,mg,⟨⟩⟩,bf,⟨⟩⟩,⟨⟩⟩:=d;exact aQ (aoZ th mv mo mq mg bf) (amh th mv mo mq mg bf hd) (by kernel_rfl)
abbrev ab9:CT:={ ps:=[dR,dR],pre:=λd=>d.1.2.2.2.2.2.2.2.2.2.1.length<=1000000,res:=λd=>([],vB (oK d.1 d.2.1)) }
theorem ami(id fn pc:Int) (rg:List Int) (st ch ph su fa:Int) (he:List Int) (id2 fn2 pc2:Int) (rg2:List Int) (st2 ch2 ph2 su2 fa2:Int) (he2:List Int) (aH:ab9.pre ((id,fn,pc,rg,st,ch,ph,su,fa,he,()),(id2,fn2,pc2,rg2,st2,ch2,ph2,su2,fa2,he2,()),())):
 let z1:=oK (id,fn,pc,rg,st,ch,ph,su,fa,he,()) (id2,fn2,pc2,rg2,st2,ch2,ph2,su2,fa2,he2,());br (!decide (id=id2) || !decide (fn=fn2) || !decide (pc=pc2) || !decide (rg=rg2) || !decide (st=st2) || !decide (ch=ch2)) (qB z1 false) (((decide (ph=ph2) && decide (su=su2) && decide (fa=fa2))=true->he.length<=1000000)/\qB z1 (decide (ph=ph2) && decide (su=su2) && decide (fa=fa2) && decide (he=he2))):=by
 conv=>zeta
 have hp:he.length<=1000000:=aH;refine ah.2 ⟨λh=>⟨rfl,?_⟩,λh=>⟨λ_=>hp,wL ?_⟩⟩
 .rw[oQ];intro q;simp only[Ic]at q;simp[q]at h
 .rw[LX,oL];simp only[oV,Di,dW]at h;simp only[Ic,A8,dW,h,true_and];constructor
  .rintro⟨h1,h2,h3,h4,_⟩;exact⟨⟨⟨h1,h2⟩,h3⟩,h4⟩
  .rintro⟨⟨⟨h1,h2⟩,h3⟩,h4⟩;exact⟨h1,h2,h3,h4,trivial⟩
theorem ahi:aW aT.gd 62 ab9:=
 fG (cx:=aT) (n:=71) (cl:=[(127,wK)]) (rc:=[]) aB ⟨G6,trivial⟩ Tryz.func62 λd hd=>by
  obtain⟨⟨id,fn,pc,rg,st,ch,ph,su,fa,he,⟨⟩⟩,⟨id2,fn2,pc2,rg2,st2,ch2,ph2,su2,fa2,he2,⟨⟩⟩,⟨⟩⟩:=d;exact aQ (λ_=>none) (ami id fn pc rg st ch ph su fa he id2 fn2 pc2 rg2 st2 ch2 ph2 su2 fa2 he2 hd) (by kernel_rfl)
abbrev acd:CT:={ ps:=[.sl dR,.sl dR],pre:=λd=>d.1.length<=1000000/\∀q∈d.1,q.2.2.2.2.2.2.2.2.2.1.length<=1000000,res:=λd=>([],vB (oK d.1 d.2.1)) }
abbrev ao3(l m:List TD):Nat->Option (St->kS):=λk=>match k with
 | 4=>some λ_=>.inv { α:=Nat,slots:=λk=>[(17,.c (.v (.int .i64 k)))],res:=λk=>[],inv:=λk=>k<=(l).length/\∀j < k,l[j]?=m[j]?,meas:=λk=>(l).length - k }
 | _=>none
theorem amj(l m:List TD) (aH:acd.pre (l,m,())):
 let z1:=λ(x:Nat)=>(x<=l.length/\∀(j:Nat),j < x->l[j]?=m[j]?);br (!decide ((l.length:Int)=(m.length:Int))) (qB (oK l m) false) ((∃x,(z1 x)/\(cI 0=cI (x:Int)/\True)/\([]:List fD)=[])/\∀(x:Nat),(z1 x)->br (decide ((x:Int) < (l.length:Int))) ((0<=(x:Int)/\(x:Int) < (l.length:Int))/\∀(d:TD),l[(x:Int).toNat]?=some d->(0<=(x:Int)/\(x:Int) < (m.length:Int))/\∀(dL:TD),m[(x:Int).toNat]?=some dL->List.length d.snd.snd.snd.snd.snd.snd.snd.snd.snd.fst<=1000000/\br (!oK d dL) (qB (oK l m) false) (iR ((x:Int)+(1:Int))/\∃x',(z1 x')/\(cI ((x:Int)+(1:Int))=cI (x':Int)/\True)/\([]:List fD)=[]/\l.length - x' < l.length - x)) (qB (oK l m) true)):=by
 conv=>zeta
 delta fD iR;obtain⟨hp,h6⟩:l.length<=1000000/\∀q∈l,q.2.2.2.2.2.2.2.2.2.1.length<=1000000:=aH;have fF:l≠m->qB (oK l m) false:=λq=>⟨rfl,by rw[oQ q]⟩
 refine ah.2 ⟨λh=>fF λq=>?_,λh=>?_⟩
 .subst q;simp at h
 simp only[Di,dW]at h;refine⟨⟨0,⟨by omega,λj hj=>by omega⟩,⟨rfl,trivial⟩,rfl⟩,λk hk=>ah.2 ⟨λg=>?_,λg=>?_⟩⟩
 .simp only[dW]at g;refine⟨⟨by omega,by omega⟩,λd hd=>⟨⟨by omega,by omega⟩,λd1 hd1=>⟨h6 d (iM hd),ah.2 ⟨λg2=>fF λq=>?_,λg2=>⟨ay.2 (by omega),k+1,⟨by omega,λj hj=>?_⟩,⟨rfl,trivial⟩,rfl,by omega⟩⟩⟩⟩⟩
  .subst q;rw[hd]at hd1;cases hd1;rw[lW rfl]at g2;cases g2
  .by_cases jY:j=k
   .subst jY;have hd:l[j]?=some d:=hd;have hd1:m[j]?=some d1:=hd1;have g2:=oL.1 (show oK d d1=true by simpa using g2)
    rw[hd,hd1,g2]
   .exact hk.2 j (by omega)
 simp only[gW]at g;have e:l=m:=by
  apply JG;intro j
  by_cases hj:j < k
  .exact hk.2 j hj
  .rw[Ht (by omega),Ht (by omega)]
 exact⟨rfl,by rw[lW e]⟩
theorem ace:KL Tryz.prog aT.gd 61 [.func (.func 62) #[] #[]] acd:=
 (oJ (cx:=aT) (n:=32) (cl:=[(62,ab9)]) (il:=Xj) (hl:=hlN) (ml:=mlN) (rc:=[]) (lits:=[]) (suf:=[.func (.func 62) #[] #[]]) (by kernel_rfl) aB ⟨ahi,trivial⟩ trivial trivial trivial Tryz.func61 (by kernel_rfl) (by kernel_rfl) rfl (by kernel_rfl) (by kernel_rfl) (by simp) λd hd=>by
  obtain⟨l,m,⟨⟩⟩:=d;exact aQ (ao3 l m) (amj l m hd) (by kernel_rfl))
abbrev acf:CT:={ ps:=[.sl WY,.sl WY],pre:=λd=>d.1.length<=1000000,res:=λd=>([],vB (oK d.1 d.2.1)) }
abbrev amk(l m:List (Int×Int×Unit)):Nat->Option (St->kS):=λk=>match k with
 | 4=>some λ_=>.inv { α:=Nat,slots:=λk=>[(13,.c (.v (.int .i64 k)))],res:=λk=>[],inv:=λk=>k<=(l).length/\∀j < k,l[j]?=m[j]?,meas:=λk=>(l).length - k }
 | _=>none
theorem ahj(l m:List (Int×Int×Unit)) (aH:acf.pre (l,m,())):
 let z1:=λ(x:Nat)=>(x<=l.length/\∀(j:Nat),j < x->l[j]?=m[j]?);br (!decide ((l.length:Int)=(m.length:Int))) (qB (oK l m) false) ((∃x,(z1 x)/\(cI 0=cI (x:Int)/\True)/\([]:List fD)=[])/\∀(x:Nat),(z1 x)->br (decide ((x:Int) < (l.length:Int))) ((0<=(x:Int)/\(x:Int) < (l.length:Int))/\∀(d:Int×(I6.pair Sh.unit).den),l[(x:Int).toNat]?=some d->(0<=(x:Int)/\(x:Int) < (m.length:Int))/\∀(dL:Int×(I6.pair Sh.unit).den),m[(x:Int).toNat]?=some dL->br (!(true && d.fst == dL.fst && d.snd.fst == dL.snd.fst)) (qB (oK l m) false) (iR ((x:Int)+(1:Int))/\∃x',(z1 x')/\(cI ((x:Int)+(1:Int))=cI (x':Int)/\True)/\([]:List fD)=[]/\l.length - x' < l.length - x)) (qB (oK l m) true)):=by
 conv=>zeta
 delta fD iR;have hp:l.length<=1000000:=aH;have fF:l≠m->qB (oK l m) false:=λq=>⟨rfl,by rw[oQ q]⟩
 refine ah.2 ⟨λh=>fF λq=>?_,λh=>?_⟩
 .subst q;simp at h
 simp only[Di,dW]at h;refine⟨⟨0,⟨by omega,λj hj=>by omega⟩,⟨rfl,trivial⟩,rfl⟩,λk hk=>ah.2 ⟨λg=>?_,λg=>?_⟩⟩
 .simp only[dW]at g;refine⟨⟨by omega,by omega⟩,λd hd=>⟨⟨by omega,by omega⟩,λd1 hd1=>ah.2 ⟨λg2=>fF λq=>?_,λg2=>⟨ay.2 (by omega),k+1,⟨by omega,λj hj=>?_⟩,⟨rfl,trivial⟩,rfl,by omega⟩⟩⟩⟩
  .subst q;rw[hd]at hd1;cases hd1;simp at g2
  .by_cases jY:j=k
   .subst jY;have hd:l[j]?=some d:=hd;have hd1:m[j]?=some d1:=hd1;have g2:d=d1:=by
     obtain⟨x,y,⟨⟩⟩:=d;obtain⟨x1,y1,⟨⟩⟩:=d1;simpa using g2
    rw[hd,hd1,g2]
   .exact hk.2 j (by omega)
 simp only[gW]at g;have e:l=m:=by
  apply JG;intro j
  by_cases hj:j < k
  .exact hk.2 j hj
  .rw[Ht (by omega),Ht (by omega)]
 exact⟨rfl,by rw[lW e]⟩
theorem acg:aW aT.gd 130 acf:=
 fG (cx:=aT) (n:=26) (cl:=[]) (rc:=[]) aB trivial Tryz.func130 λd hd=>by
  obtain⟨l,m,⟨⟩⟩:=d;exact aQ (amk l m) (ahj l m hd) (by kernel_rfl)
abbrev ach:CT:={ ps:=[Bd,Bd],pre:=λd=>d.1.2.2.1.length<=1000000,res:=λd=>([],vB (oK d.1 d.2.1)) }
theorem aml(b1 b2:Int) (bl:List (Int×Int×Unit)) (c1 c2:Int) (cl:List (Int×Int×Unit)) (aH:ach.pre ((b1,b2,bl,()),(c1,c2,cl,()),())):
 ((decide (b1=c1) && decide (b2=c2))=true->bl.length<=1000000)/\qB (oK (b1,b2,bl,()) (c1,c2,cl,())) (decide (b1=c1) && decide (b2=c2) && oK bl cl):=by
 have hp:bl.length<=1000000:=aH;refine⟨λ_=>hp,wL ?_⟩
 rw[LX,oL];simp only[Ic,A8,dW,oL];constructor
 .rintro⟨h1,h2,h3,_⟩;exact⟨⟨h1,h2⟩,h3⟩
 .rintro⟨⟨h1,h2⟩,h3⟩;exact⟨h1,h2,h3,trivial⟩
theorem ahk:aW aT.gd 64 ach:=
 fG (cx:=aT) (n:=24) (cl:=[(130,acf)]) (rc:=[]) aB ⟨acg,trivial⟩ Tryz.func64 λd hd=>by
  obtain⟨⟨b1,b2,bl,⟨⟩⟩,⟨c1,c2,cl,⟨⟩⟩,⟨⟩⟩:=d;exact aQ (λ_=>none) (aml b1 b2 bl c1 c2 cl hd) (by kernel_rfl)
abbrev aci:CT:={ ps:=[.sl Bd,.sl Bd],pre:=λd=>Bg d.1,res:=λd=>([],vB (oK d.1 d.2.1)) }
abbrev ao4(l m:List BD):Nat->Option (St->kS):=λk=>match k with
 | 4=>some λ_=>.inv { α:=Nat,slots:=λk=>[(17,.c (.v (.int .i64 k)))],res:=λk=>[],inv:=λk=>k<=(l).length/\∀j < k,l[j]?=m[j]?,meas:=λk=>(l).length - k }
 | _=>none
theorem amm(l m:List BD) (aH:aci.pre (l,m,())):
 let z1:=λ(x:Nat)=>(x<=l.length/\∀(j:Nat),j < x->l[j]?=m[j]?);br (!decide ((l.length:Int)=(m.length:Int))) (qB (oK l m) false) ((∃x,(z1 x)/\(cI 0=cI (x:Int)/\True)/\([]:List fD)=[])/\∀(x:Nat),(z1 x)->br (decide ((x:Int) < (l.length:Int))) ((0<=(x:Int)/\(x:Int) < (l.length:Int))/\∀(d:BD),l[(x:Int).toNat]?=some d->(0<=(x:Int)/\(x:Int) < (m.length:Int))/\∀(dL:BD),m[(x:Int).toNat]?=some dL->List.length d.snd.snd.fst<=1000000/\br (!oK d dL) (qB (oK l m) false) (iR ((x:Int)+(1:Int))/\∃x',(z1 x')/\(cI ((x:Int)+(1:Int))=cI (x':Int)/\True)/\([]:List fD)=[]/\l.length - x' < l.length - x)) (qB (oK l m) true)):=by
 conv=>zeta
 delta fD iR;obtain⟨hp,h6⟩:l.length<=1000000/\∀q∈l,q.2.2.1.length<=1000000:=aH;have fF:l≠m->qB (oK l m) false:=λq=>⟨rfl,by rw[oQ q]⟩
 refine ah.2 ⟨λh=>fF λq=>?_,λh=>?_⟩
 .subst q;simp at h
 simp only[Di,dW]at h;refine⟨⟨0,⟨by omega,λj hj=>by omega⟩,⟨rfl,trivial⟩,rfl⟩,λk hk=>ah.2 ⟨λg=>?_,λg=>?_⟩⟩
 .simp only[dW]at g;refine⟨⟨by omega,by omega⟩,λd hd=>⟨⟨by omega,by omega⟩,λd1 hd1=>⟨h6 d (iM hd),ah.2 ⟨λg2=>fF λq=>?_,λg2=>⟨ay.2 (by omega),k+1,⟨by omega,λj hj=>?_⟩,⟨rfl,trivial⟩,rfl,by omega⟩⟩⟩⟩⟩
  .subst q;rw[hd]at hd1;cases hd1;rw[lW rfl]at g2;cases g2
  .by_cases jY:j=k
   .subst jY;have hd:l[j]?=some d:=hd;have hd1:m[j]?=some d1:=hd1;have g2:=oL.1 (show oK d d1=true by simpa using g2)
    rw[hd,hd1,g2]
   .exact hk.2 j (by omega)
 simp only[gW]at g;have e:l=m:=by
  apply JG;intro j
  by_cases hj:j < k
  .exact hk.2 j hj
  .rw[Ht (by omega),Ht (by omega)]
 exact⟨rfl,by rw[lW e]⟩
theorem acj:KL Tryz.prog aT.gd 63 [.func (.func 64) #[] #[]] aci:=
 (oJ (cx:=aT) (n:=32) (cl:=[(64,ach)]) (il:=Xj) (hl:=hlN) (ml:=mlN) (rc:=[]) (lits:=[]) (suf:=[.func (.func 64) #[] #[]]) (by kernel_rfl) aB ⟨ahk,trivial⟩ trivial trivial trivial Tryz.func63 (by kernel_rfl) (by kernel_rfl) rfl (by kernel_rfl) (by kernel_rfl) (by simp) λd hd=>by
  obtain⟨l,m,⟨⟩⟩:=d;exact aQ (ao4 l m) (amm l m hd) (by kernel_rfl))
abbrev acn:CT:={ ps:=[Uw,Uw],pre:=λd=>ab5 d.1,res:=λd=>([],vB (oK d.1 d.2.1)) }
abbrev aqO:List (Nat×Nat×CT):=[(61,62,acd),(63,64,aci)]
theorem amn(th:List TD) (mv mo:List Int) (mq:List (List Int)) (mg:List Int) (bf:List BD) (th2:List TD) (mv2 mo2:List Int) (mq2:List (List Int)) (mg2:List Int) (bf2:List BD) (aH:acn.pre ((th,(mv,mo,mq,mg,()),bf,()),(th2,(mv2,mo2,mq2,mg2,()),bf2,()),())):
 let z2:=(mv,mo,mq,mg,());let z1:=z2=(mv2,mo2,mq2,mg2,());bI z2/\(decide z1=true->th.length<=1000000/\∀(q:TD),q∈th->List.length q.snd.snd.snd.snd.snd.snd.snd.snd.snd.fst<=1000000)/\((decide z1 && oK th th2)=true->Bg bf)/\qB (oK (th,z2,bf,()) (th2,(mv2,mo2,mq2,mg2,()),bf2,())) (decide z1 && oK th th2 && oK bf bf2):=by
 conv=>zeta
 obtain⟨⟨hl,hT⟩,hM,hB⟩:je th/\bI (mv,mo,mq,mg,())/\Bg bf:=aH;refine⟨hM,λ_=>⟨hl,λq hq=>(hT q hq).1⟩,λ_=>hB,wL ?_⟩
 rw[LX,oL];simp only[A8,dW,oL];constructor
 .intro h;have h:=Prod.mk.inj h;have h2:=Prod.mk.inj h.2;have h3:=Prod.mk.inj h2.2;exact⟨⟨h2.1,h.1⟩,h3.1⟩
 .rintro⟨⟨h1,h2⟩,h3⟩;rw[h1,h2,h3]
theorem ahl:aW aT.gd 24 acn:=
 (oJ (cx:=aT) (n:=24) (cl:=[(60,Rl)]) (il:=Xj) (hl:=aqO) (ml:=mlN) (rc:=[]) (lits:=[]) (suf:=[]) (by kernel_rfl) aB ⟨ag3,trivial⟩ trivial ⟨ace,acj,trivial⟩ trivial Tryz.func24 (by kernel_rfl) (by kernel_rfl) rfl (by kernel_rfl) (by kernel_rfl) (by simp) λd hd=>by
  obtain⟨⟨th,⟨mv,mo,mq,mg,⟨⟩⟩,bf,⟨⟩⟩,⟨th2,⟨mv2,mo2,mq2,mg2,⟨⟩⟩,bf2,⟨⟩⟩,⟨⟩⟩:=d;exact aQ (λ_=>none) (amn th mv mo mq mg bf th2 mv2 mo2 mq2 mg2 bf2 hd) (by kernel_rfl)).met
def qZ(m:MD):Bool:=decide (m.1.length<=20) && decide (m.2.1.length<=20) && decide (m.2.2.1.length<=20) && decide (m.2.2.2.1.length<=60) && m.2.2.1.all (λq=>decide (q.length<=60))
theorem xJ(h:qZ m=true):bI m:=by
 obtain⟨vs,os,qs,sg,⟨⟩⟩:=m;unfold qZ at h;simp only[A8,RG,dW]at h;obtain⟨⟨⟨⟨h1,h2⟩,h3⟩,h4⟩,h5⟩:=h;refine⟨by show vs.length<=1000;omega,by show os.length<=1000;omega,by show qs.length<=1000;omega,by show sg.length<=1000;omega,λq hq=>by have:=h5 q hq;omega,?_⟩
 have key:∀l:List (List Int),(∀q∈l,q.length<=60)->l.flatten.length<=60 * l.length:=by
  intro l
  induction l with
  | nil=>intro _;simp
  | cons a l ih=>
    intro hl;have:=ih λq hq=>hl q (by simp[hq])
    have:=hl a (by simp)
    simp only[Pj,kT,yE];omega
 have:=key qs h5;show qs.flatten.length<=100000;omega
theorem OL:∀(qs:List (List Int)) (k:Nat) (d:List Int) (x:Int),qs[k]?=some d->((qs.set k (d++[x])).flatten).Perm (x :: qs.flatten)
 | [],k,d,x,h=>by simp at h
 | q :: qs,0,d,x,h=>by
   simp only[Ve,Xp]at h;subst h;simp only[Xx,Pj,Dj,aiV];exact List.perm_middle
 | q :: qs,k+1,d,x,h=>by
   rw[adF]at h;have ih:=OL qs k d x h;simp only[aiY,Pj];exact(ih.append_left q).trans List.perm_middle
theorem JC:kH m id=true↔id∈m.2.2.2.1++m.2.2.1.flatten:=by
 unfold kH;rw[DJ,Xq,jc,DY,List.mem_flatten];constructor
 .rintro(⟨q,h1,h2⟩ | h)
  .exact .inr ⟨q,h1,jc.1 h2⟩
  .exact .inl h
 .rintro(h | ⟨q,h1,h2⟩)
  .exact .inr h
  .exact .inl ⟨q,h1,jc.2 h2⟩
theorem aco(hB:dM (vs,os,qs,sg,())=true){d:List Int} (hk:qs[k]?=some d) (h0:0<=id):
 dM (vs,os,qs.set k (d++[id]),sg,()) = !kH (vs,os,qs,sg,()) id:=by
 obtain⟨q1,q2,q3,q4,q5,q6,q7,q8⟩:vs.length<=8/\os.length<=4/\qs.length<=4/\SS sg/\(∀v∈vs,cO v=true)/\(∀o∈os,-1<=o)/\(∀x∈sg++qs.flatten,0<=x)/\(sg++qs.flatten).Nodup:=dQ.1 hB;have hp:(sg++(qs.set k (d++[id])).flatten).Perm (id :: (sg++qs.flatten)):=((OL qs k d id hk).append_left sg).trans List.perm_middle;rw[LX,dQ,II,A96];constructor
 .intro h w;obtain⟨_,_,_,_,_,_,_,p8⟩:vs.length<=8/\os.length<=4/\(qs.set k (d++[id])).length<=4/\SS sg/\(∀v∈vs,cO v=true)/\(∀o∈os,-1<=o)/\(∀x∈sg++(qs.set k (d++[id])).flatten,0<=x)/\(sg++(qs.set k (d++[id])).flatten).Nodup:=h;exact(Vh.1 (hp.nodup_iff.1 p8)).1 (JC.1 w)
 .intro w;refine(⟨q1,q2,by rw[xY];exact q3,q4,q5,q6,λx hx=>?_,hp.nodup_iff.2 (Vh.2 ⟨λhm=>w (JC.2 hm),q8⟩)⟩:OB (vs,os,qs.set k (d++[id]),sg,()))
  rcases ng.1 (hp.mem_iff.1 hx) with rfl | hx
  .exact h0
  .exact q7 x hx
theorem wO(h:qZ (vs,os,qs,sg,())=true):vs.length<=20/\os.length<=20/\qs.length<=20/\sg.length<=60/\∀q∈qs,q.length<=60:=by
 unfold qZ at h;simp only[A8,RG,dW]at h;obtain⟨⟨⟨⟨h1,h2⟩,h3⟩,h4⟩,h5⟩:=h;exact⟨h1,h2,h3,h4,h5⟩
theorem acp(h1:vs.length<=20) (h2:os.length<=20) (h3:qs.length<=20) (h4:sg.length<=200) (h5:∀q∈qs,q.length<=61):bI (vs,os,qs,sg,()):=by
 have key:∀l:List (List Int),(∀q∈l,q.length<=61)->l.flatten.length<=61 * l.length:=by
  intro l
  induction l with
  | nil=>intro _;simp
  | cons a l ih=>
    intro hl;have:=ih λq hq=>hl q (by simp[hq])
    have:=hl a (by simp)
    simp only[Pj,kT,yE];omega
 have h6:=key qs h5;exact⟨by show vs.length<=1000;omega,by show os.length<=1000;omega,by show qs.length<=1000;omega,by show sg.length<=1000;omega,λq hq=>by have:=h5 q hq;omega,by show qs.flatten.length<=100000;omega⟩
theorem UJ{s:List Int} (h:qZ (vs,os,qs,sg,())=true){q:List Int} (hq:q.length<=61) (hs:s.length<=200):bI (vs,os,qs.set k q,s,()):=by
 obtain⟨h1,h2,h3,h4,h5⟩:=wO h;refine acp h1 h2 (by rw[xY];exact h3) hs λx hx=>?_
 rcases JF hx with hx | rfl
 .have:=h5 x hx;omega
 .exact hq
theorem acr(h:qZ (vs,os,qs,sg,())=true) (k:Nat):(qs[k]?.getD []).length<=60:=by
 cases hk:qs[k]? with
 | none=>simp
 | some d=>exact(wO h).2.2.2.2 d (iM hk)
theorem G9:bI zM:=⟨by decide,by decide,by decide,by decide,by decide,by decide⟩
theorem ahm{c:Int} (h:qZ m=true):bI (tu m c id).1:=by
 obtain⟨vs,os,qs,sg,⟨⟩⟩:=m;have h4:=(wO h).2.2.2.1;have ha:=acr h c.toNat;unfold tu;split
 .split
  .exact G9
  .split
   .exact G9
   .exact UJ h (by simp only[kT,yE,Pg];omega) (by omega)
 .exact G9
theorem amo{c n:Int} (h:qZ m=true):bI (tN m c n).1:=by
 obtain⟨vs,os,qs,sg,⟨⟩⟩:=m;have h4:=(wO h).2.2.2.1;have ha:=acr h c.toNat;unfold tN;split
 .refine UJ h (by dsimp only;rw[zk];omega) ?_
  refine qP (CX _ _) ?_;dsimp only;rw[lZ];omega
 .exact G9
theorem acs(h:qZ m=true):bI (lg m id).1:=by
 obtain⟨vs,os,qs,sg,⟨⟩⟩:=m;obtain⟨h1,h2,h3,h4,h5⟩:=wO h;unfold lg;split
 .exact G9
 .split
  .exact G9
  .refine acp h1 h2 h3 ?_ λq hq=>by have:=h5 q hq;omega
   refine qP (Xv _ _) (qP (Es sg []) ?_);simp;omega
end
end Go.Proofs.YtjhenjhcbcalpaaGreatDoor
