/- Texts of this claim, part 11: M8, M9, M10, X1, Y1, Y2, Y3, Y4, Y5, M6. Conditions: those of the given rows. -/
import Derived.Test.YtjhenjhcbcalpaaGreatDoorB10
set_option linter.unusedSimpArgs false
set_option linter.unusedVariables false
set_option maxRecDepth 1000000
set_option maxHeartbeats 8000000
namespace Go.Proofs.YtjhenjhcbcalpaaGreatDoor
open Go Go.mQ
noncomputable section
variable {qs:List (List Int)}{k:Nat}{vs os sg:List Int}{ms:List ByteArray}{fs:List FD}{l:List TD}{m:MD}{p:TD->Bool}{id:Int}
def ny(p:PD) (m:MD):Bool:=decide ((aF p.1 p.2.1 p.2.2.1 p.2.2.2.1 p.2.2.2.2.1).1=0) && dO m && decide (m.1.length=p.1.length) && decide (m.2.1.length=p.2.1.length) && decide (m.2.2.1.length=p.2.2.1.length)
theorem ah5(vs:List VD) (ms cs:List ByteArray) (fs:List FD) (ts:List SD) (aH:ab6.pre ((vs,ms,cs,fs,ts,()),())):
 let z1:=decide ((aF vs ms cs fs ts).fst=0);(vs.length<=1000000/\ms.length<=1000000/\cs.length<=1000000/\fs.length<=1000000/\ts.length<=1000000/\(∀(x:ByteArray×(o7.sl.pair Sh.unit).den),x∈fs->List.length x.snd.fst<=1000000)/\(dR fs).length<=1000000)/\qB z1 z1:=by
 conv=>zeta
 delta qB I6;exact⟨aH,rfl,rfl⟩
theorem ac7:aW aU.gd 156 ab6:=
 kL (cx:=aU) (n:=14) (cl:=[(74,JU)]) aA ⟨ER,trivial⟩ Tryz.func156 λd hd=>by
  obtain⟨⟨vs,ms,cs,fs,ts,⟨⟩⟩,⟨⟩⟩:=d;exact aS (λ_=>none) (ah5 vs ms cs fs ts hd) (by kernel_rfl)
abbrev am2:CT:={ ps:=[tK,yM],pre:=λd=>bnd (d.1,())/\bK d.2.1,res:=λd=>([],vB (ny d.1 d.2.1)) }
theorem am3(vs:List VD) (ms cs:List ByteArray) (fs:List FD) (ts:List SD) (ws os:List Int) (qs:List (List Int)) (sg:List Int) (aH:am2.pre ((vs,ms,cs,fs,ts,()),(ws,os,qs,sg,()),())):
 let z1:=(aF vs ms cs fs ts).fst=0;let z2:=(ws,os,qs,sg,());(vs.length<=1000000/\ms.length<=1000000/\cs.length<=1000000/\fs.length<=1000000/\ts.length<=1000000/\(∀(x:ByteArray×(o7.sl.pair Sh.unit).den),x∈fs->List.length x.snd.fst<=1000000)/\(dR fs).length<=1000000)/\(decide z1=true->bK z2)/\qB (ny (vs,ms,cs,fs,ts,()) z2) (decide z1 && dO z2 && decide ((ws.length:Int)=(vs.length:Int)) && decide ((os.length:Int)=(ms.length:Int)) && decide ((qs.length:Int)=(cs.length:Int))):=by
 conv=>zeta
 delta qB I6;obtain⟨h1,h2⟩:=aH;refine⟨h1,λ_=>h2,rfl,?_⟩
 unfold ny;simp only[Int.ofNat_inj]
theorem ah6:aW aU.gd 84 am2:=
 eG (cx:=aU) (n:=38) (cl:=[(156,ab6),(157,acR)]) (rc:=[]) aA ⟨ac7,Ie,trivial⟩ Tryz.func84 λd hd=>by
  obtain⟨⟨vs,ms,cs,fs,ts,⟨⟩⟩,⟨ws,os,qs,sg,⟨⟩⟩,⟨⟩⟩:=d;exact aS (λ_=>none) (am3 vs ms cs fs ts ws os qs sg hd) (by kernel_rfl)
abbrev am4(l m:List Int):Nat->Option (St->kH):=λk=>match k with
 | 4=>some λ_=>.inv { α:=Nat,slots:=λk=>[(13,.c (.v (.int .i64 k)))],res:=λk=>[],inv:=λk=>k<=(l).length/\∀j < k,l[j]?=m[j]?,meas:=λk=>(l).length - k }
 | _=>none
theorem ah7(l m:List Int) (aH:qg.pre (l,m,())):
 let z2:=qB (decide (l=m)) false;let z1:=λ(x:Nat)=>(x<=l.length/\∀(j:Nat),j < x->l[j]?=m[j]?);br (!decide ((l.length:Int)=(m.length:Int))) z2 ((∃x,(z1 x)/\(cI 0=cI (x:Int)/\True)/\([]:List fH)=[])/\∀(x:Nat),(z1 x)->br (decide ((x:Int) < (l.length:Int))) ((0<=(x:Int)/\(x:Int) < (l.length:Int))/\∀(d:Int),l[(x:Int).toNat]?=some d->(0<=(x:Int)/\(x:Int) < (m.length:Int))/\∀(dJ:Int),m[(x:Int).toNat]?=some dJ->br (!decide (d=dJ)) z2 (dX IntKind.i64 ((x:Int)+(1:Int))/\∃x',(z1 x')/\(cI ((x:Int)+(1:Int))=cI (x':Int)/\True)/\([]:List fH)=[]/\l.length - x' < l.length - x)) (qB (decide (l=m)) true)):=by
 conv=>zeta
 delta fH cI qB;have hp:l.length<=1000000:=aH;have fF:l≠m->([]:List Go.mQ.au)=[]/\bg.one (SV.c (SC.v (Value.bool (decide (l=m)))))=bg.one (SV.c (SC.v (Value.bool false))):=λq=>⟨rfl,by rw[BP q]⟩
 refine ah.2 ⟨λh=>fF λq=>?_,λh=>?_⟩
 .subst q;simp at h
 simp only[zG,dV]at h;refine⟨⟨0,⟨by omega,λj hj=>by omega⟩,⟨rfl,trivial⟩,rfl⟩,λk hk=>ah.2 ⟨λg=>?_,λg=>?_⟩⟩
 .simp only[dV]at g;refine⟨⟨by omega,by omega⟩,λd hd=>⟨⟨by omega,by omega⟩,λd1 hd1=>ah.2 ⟨λg2=>fF λq=>?_,λg2=>⟨ay.2 (by omega),k+1,⟨by omega,λj hj=>?_⟩,⟨rfl,trivial⟩,rfl,by omega⟩⟩⟩⟩
  .subst q;rw[hd]at hd1;cases hd1;simp at g2
  .by_cases ji:j=k
   .subst ji;have hd:l[j]?=some d:=hd;have hd1:m[j]?=some d1:=hd1;simp at g2;rw[hd,hd1,g2]
   .exact hk.2 j (by omega)
 simp only[gG]at g;have e:l=m:=by
  apply Ed;intro j
  by_cases hj:j < k
  .exact hk.2 j hj
  .rw[wY (by omega),wY (by omega)]
 exact⟨rfl,by rw[Na e]⟩
theorem Ig:aW aU.gd 127 qg:=
 eG (cx:=aU) (n:=26) (cl:=[]) (rc:=[]) aA trivial Tryz.func127 λd hd=>by
  obtain⟨l,m,⟨⟩⟩:=d;exact aS (am4 l m) (ah7 l m hd) (by kernel_rfl)
theorem ah8(l m:List Int) (aH:qg.pre (l,m,())):
 l.length<=1000000/\qB (decide (l=m)) (decide (l=m)):=by
 delta qB;exact⟨aH,rfl,rfl⟩
theorem ac8:aW aU.gd 129 qg:=
 eG (cx:=aU) (n:=8) (cl:=[(127,qg)]) (rc:=[]) aA ⟨Ig,trivial⟩ Tryz.func129 λd hd=>by
  obtain⟨l,m,⟨⟩⟩:=d;exact aS (λ_=>none) (ah8 l m hd) (by kernel_rfl)
abbrev ac9:CT:={ ps:=[.sl (.sl (.int .i64)),.sl (.sl (.int .i64))],pre:=λd=>d.1.length<=1000000/\∀q∈d.1,q.length<=1000000,res:=λd=>([],vB (decide (d.1=d.2.1))) }
abbrev am5(l m:List (List Int)):Nat->Option (St->kH):=λk=>match k with
 | 4=>some λ_=>.inv { α:=Nat,slots:=λk=>[(17,.c (.v (.int .i64 k)))],res:=λk=>[],inv:=λk=>k<=(l).length/\∀j < k,l[j]?=m[j]?,meas:=λk=>(l).length - k }
 | _=>none
theorem ah9(l m:List (List Int)) (aH:ac9.pre (l,m,())):
 let z2:=qB (decide (l=m)) false;let z1:=λ(x:Nat)=>(x<=l.length/\∀(j:Nat),j < x->l[j]?=m[j]?);br (!decide ((l.length:Int)=(m.length:Int))) z2 ((∃x,(z1 x)/\(cI 0=cI (x:Int)/\True)/\([]:List fH)=[])/\∀(x:Nat),(z1 x)->br (decide ((x:Int) < (l.length:Int))) ((0<=(x:Int)/\(x:Int) < (l.length:Int))/\∀(d:List Int),l[(x:Int).toNat]?=some d->(0<=(x:Int)/\(x:Int) < (m.length:Int))/\∀(dJ:List Int),m[(x:Int).toNat]?=some dJ->d.length<=1000000/\br (!decide (d=dJ)) z2 (dX IntKind.i64 ((x:Int)+(1:Int))/\∃x',(z1 x')/\(cI ((x:Int)+(1:Int))=cI (x':Int)/\True)/\([]:List fH)=[]/\l.length - x' < l.length - x)) (qB (decide (l=m)) true)):=by
 conv=>zeta
 delta fH cI qB;obtain⟨hp,h6⟩:l.length<=1000000/\∀q∈l,q.length<=1000000:=aH;have fF:l≠m->([]:List Go.mQ.au)=[]/\bg.one (SV.c (SC.v (Value.bool (decide (l=m)))))=bg.one (SV.c (SC.v (Value.bool false))):=λq=>⟨rfl,by rw[BP q]⟩
 refine ah.2 ⟨λh=>fF λq=>?_,λh=>?_⟩
 .subst q;simp at h
 simp only[zG,dV]at h;refine⟨⟨0,⟨by omega,λj hj=>by omega⟩,⟨rfl,trivial⟩,rfl⟩,λk hk=>ah.2 ⟨λg=>?_,λg=>?_⟩⟩
 .simp only[dV]at g;refine⟨⟨by omega,by omega⟩,λd hd=>⟨⟨by omega,by omega⟩,λd1 hd1=>⟨h6 d (iJ hd),ah.2 ⟨λg2=>fF λq=>?_,λg2=>⟨ay.2 (by omega),k+1,⟨by omega,λj hj=>?_⟩,⟨rfl,trivial⟩,rfl,by omega⟩⟩⟩⟩⟩
  .subst q;rw[hd]at hd1;cases hd1;simp at g2
  .by_cases ji:j=k
   .subst ji;have hd:l[j]?=some d:=hd;have hd1:m[j]?=some d1:=hd1;simp at g2;rw[hd,hd1,g2]
   .exact hk.2 j (by omega)
 simp only[gG]at g;have e:l=m:=by
  apply Ed;intro j
  by_cases hj:j < k
  .exact hk.2 j hj
  .rw[wY (by omega),wY (by omega)]
 exact⟨rfl,by rw[Na e]⟩
theorem XN:LC Tryz.prog aU.gd 128 [.func (.func 129) #[] #[]] ac9:=
 (oP (cx:=aU) (n:=32) (cl:=[(129,qg)]) (il:=Yd) (hl:=hlN) (ml:=mlN) (rc:=[]) (lits:=[]) (suf:=[.func (.func 129) #[] #[]]) (by kernel_rfl) aA ⟨ac8,trivial⟩ trivial trivial trivial Tryz.func128 (by kernel_rfl) (by kernel_rfl) rfl (by kernel_rfl) (by kernel_rfl) (by simp) λd hd=>by
  obtain⟨l,m,⟨⟩⟩:=d;exact aS (am5 l m) (ah9 l m hd) (by kernel_rfl))
abbrev SX:List (Nat×Nat×CT):=[(128,129,ac9)]
theorem am6(vs os:List Int) (qs:List (List Int)) (sg vs2 os2:List Int) (EW:List (List Int)) (sg2:List Int) (aH:Dq.pre ((vs,os,qs,sg,()),(vs2,os2,EW,sg2,()),())):
 vs.length<=1000000/\(decide (vs=vs2)=true->os.length<=1000000)/\((decide (vs=vs2) && decide (os=os2))=true->sg.length<=1000000)/\((decide (vs=vs2) && decide (os=os2) && decide (sg=sg2))=true->qs.length<=1000000/\∀(q:List Int),q∈qs->q.length<=1000000)/\qB (decide ((vs,os,qs,sg,())=(vs2,os2,EW,sg2,()))) (decide (vs=vs2) && decide (os=os2) && decide (sg=sg2) && decide (qs=EW)):=by
 delta qB;obtain⟨b1,b2,b3,b4,b5,b6⟩:vs.length<=1000/\os.length<=1000/\qs.length<=1000/\sg.length<=1000/\(∀q∈qs,q.length<=1000)/\qs.flatten.length<=100000:=aH;have e:decide ((vs,os,qs,sg,())=(vs2,os2,EW,sg2,()))=(decide (vs=vs2) && decide (os=os2) && decide (sg=sg2) && decide (qs=EW)):=by
  rw[MZ];simp only[dV,A8,VU,and_true];constructor
  .rintro⟨h1,h2,h3,h4⟩;exact⟨⟨⟨h1,h2⟩,h4⟩,h3⟩
  .rintro⟨⟨⟨h1,h2⟩,h4⟩,h3⟩;exact⟨h1,h2,h3,h4⟩
 refine⟨by omega,λ_=>by omega,λ_=>by omega,λ_=>⟨by omega,λq hq=>by have:=b5 q hq;omega⟩,rfl,?_⟩
 rw[e]
theorem aia:aW aU.gd 60 Dq:=
 (oP (cx:=aU) (n:=31) (cl:=[(127,qg)]) (il:=Yd) (hl:=SX) (ml:=mlN) (rc:=[]) (lits:=[]) (suf:=[]) (by kernel_rfl) aA ⟨Ig,trivial⟩ trivial ⟨XN,trivial⟩ trivial Tryz.func60 (by kernel_rfl) (by kernel_rfl) rfl (by kernel_rfl) (by kernel_rfl) (by simp) λd hd=>by
  obtain⟨⟨vs,os,qs,sg,⟨⟩⟩,⟨vs2,os2,EW,sg2,⟨⟩⟩,⟨⟩⟩:=d;exact aS (λ_=>none) (am6 vs os qs sg vs2 os2 EW sg2 hd) (by kernel_rfl)).met
theorem qV:∀(l sg:List Int),SS sg->SS (jZ sg l)/\∀y,y∈jZ sg l↔y∈sg\/y∈l
 | [],sg,h=>⟨h,λy=>by simp[jZ]⟩
 | x :: l,sg,h=>by
   have ih:=qV l (bT (sg++[x])) (AY _);have e:jZ sg (x :: l)=jZ (bT (sg++[x])) l:=rfl;rw[e];refine⟨ih.1,λy=>?_⟩
   rw[ih.2 y,AZ];simp[or_assoc]
def lI(qs:List (List Int)):Int:=qs.foldl (λa q=>fP a q.length) 0
theorem XO{d:List Int} (h:qs[k]?=some d):lI (qs.take (k+1))=fP (lI (qs.take k)) d.length:=by
 unfold lI;rw[Tf,h];simp
theorem EX:∀(qs:List (List Int)) (a:Int),a<=qs.foldl (λa q=>fP a (q.length:Int)) a/\∀q∈qs,(q.length:Int)<=qs.foldl (λa q=>fP a (q.length:Int)) a
 | [],a=>⟨Int.le_refl _,λq hq=>by cases hq⟩
 | x :: qs,a=>by
   have ih:=EX qs (fP a x.length);have h:a<=fP a x.length/\(x.length:Int)<=fP a x.length:=by unfold fP;split<;>omega
   refine⟨Int.le_trans h.1 ih.1,λq hq=>?_⟩
   rcases mM.1 hq with rfl | hq
   .exact Int.le_trans h.2 ih.1
   .exact ih.2 q hq
abbrev ada:CT:={ ps:=[yM,.int .i64],pre:=λd=>bK d.1,res:=λd=>([],.iR [.agg [.sl (.int .i64) ((uh d.1 d.2.1 (lI d.1.2.2.1)).1).1,.sl (.int .i64) ((uh d.1 d.2.1 (lI d.1.2.2.1)).1).2.1,.sl (.sl (.int .i64)) ((uh d.1 d.2.1 (lI d.1.2.2.1)).1).2.2.1,.sl (.int .i64) ((uh d.1 d.2.1 (lI d.1.2.2.1)).1).2.2.2.1],.c (.v (.int .i64 ((uh d.1 d.2.1 (lI d.1.2.2.1)).2.1))),.c (.v (.int .i64 ((uh d.1 d.2.1 (lI d.1.2.2.1)).2.2)))]) }
abbrev am7(vs os:List Int) (qs:List (List Int)) (sg:List Int) (c:Int):Nat->Option (St->kH):=λk=>match k with
 | 3=>some λ_=>.inv { α:=Nat,slots:=λk=>[(13,.c (.v (.int .i64 k))),(7,.c (.v (.int .i64 (lI (qs.take k)))))],res:=λk=>[],inv:=λk=>k<=(qs).length,meas:=λk=>(qs).length - k }
 | _=>none
theorem aib(vs os:List Int) (qs:List (List Int)) (sg:List Int) (c:Int) (aH:ada.pre ((vs,os,qs,sg,()),c,())):
 let z4:=λ(x:Nat)=>lI (List.take x qs);let z1:=[g0 (au.blk 34 [SC.sl I6 vs,SC.sl I6 os,SC.sl I6.sl qs,SC.sl I6 sg]),g0 (au.blk 34 D8)];let z5:=(vs,os,qs,sg,());let z3:=uh z5 c (lI qs);let z2:=λ(x:Nat)=>uh z5 c (z4 x);(∃x,x<=qs.length/\(cI 0=cI (x:Int)/\cI 0=cI (z4 x)/\True)/\sm z1)/\∀(x:Nat),x<=qs.length->br (decide ((x:Int) < (qs.length:Int))) ((0<=(x:Int)/\(x:Int) < (qs.length:Int))/\∀(d:List Int),qs[(x:Int).toNat]?=some d->dX IntKind.i64 ((x:Int)+(1:Int))/\∃x',x'<=qs.length/\(cI ((x:Int)+(1:Int))=cI (x':Int)/\cI (fP (z4 x) (d.length:Int))=cI (z4 x')/\True)/\sm z1/\qs.length - x' < qs.length - x) ((bK z5/\0<=lI (List.take x qs))/\rT [SV.agg [SC.sl I6 z3.fst.fst,SC.sl I6 z3.fst.snd.fst,SC.sl I6.sl z3.fst.snd.snd.fst,SC.sl I6 z3.fst.snd.snd.snd.fst],cI (z3.snd.fst),cI (z3.snd.snd)] [SV.agg [SC.sl I6 ((z2 x).fst.fst,(z2 x).fst.snd.fst,(z2 x).fst.snd.snd.fst,(z2 x).fst.snd.snd.snd.fst,()).fst,SC.sl I6 ((z2 x).fst.snd.fst,(z2 x).fst.snd.snd.fst,(z2 x).fst.snd.snd.snd.fst,()).fst,SC.sl I6.sl ((z2 x).fst.snd.snd.fst,(z2 x).fst.snd.snd.snd.fst,()).fst,SC.sl I6 (z2 x).fst.snd.snd.snd.fst],cI ((z2 x).snd.fst),cI ((z2 x).snd.snd)]):=by
 conv=>zeta
 delta D8 cI g0 rT sm I6;have hb:=aH;obtain⟨b1,b2,b3,b4,b5,b6⟩:vs.length<=1000/\os.length<=1000/\qs.length<=1000/\sg.length<=1000/\(∀q∈qs,q.length<=1000)/\qs.flatten.length<=100000:=aH;refine⟨⟨0,by omega,⟨rfl,rfl,trivial⟩,rfl⟩,λk hk=>ah.2 ⟨λg=>?_,λg=>?_⟩⟩
 .simp only[dV]at g;refine⟨⟨by omega,by omega⟩,λd hd=>⟨ay.2 (by omega),k+1,by omega,⟨rfl,?_,trivial⟩,rfl,by omega⟩⟩
  have hd:qs[k]?=some d:=hd;rw[XO hd]
 simp only[gG]at g;rw[zF (i:=k) (by omega)]
 exact⟨⟨hb,(EX qs 0).1⟩,rfl,rfl⟩
theorem adb:aW aU.gd 106 ada:=
 eG (cx:=aU) (n:=29) (cl:=[(166,Va)]) (rc:=[.data yM,.keep,.keep]) aA ⟨Pq,trivial⟩ Tryz.func106 λd hd=>by
  obtain⟨⟨vs,os,qs,sg,⟨⟩⟩,c,⟨⟩⟩:=d;exact aS (am7 vs os qs sg c) (aib vs os qs sg c hd) (by kernel_rfl)
abbrev XP:Sh:=.pair (.int .i64) (.pair (.int .i64) .unit)
abbrev yO:Sh:=.pair (.int .i64) (.pair (.int .i64) (.pair (.sl XP) .unit))
abbrev Vb:Sh:=.pair (.sl dQ) (.pair yM (.pair (.sl yO) .unit))
abbrev XQ:Sh:=.pair (.int .i64) (.pair (.int .i64) (.pair (.int .i64) (.pair (.int .i64) (.pair (.int .i64) (.pair (.int .i64) (.pair (.int .i64) (.pair (.int .i64) (.pair (.int .i64) .unit))))))))
abbrev BD:=Int×Int×List (Int×Int×Unit)×Unit
abbrev ZD:=List TD×MD×List BD×Unit
abbrev ED:=Int×Int×Int×Int×Int×Int×Int×Int×Int×Unit
abbrev Jf(e:ED):SV:=.agg [v6 e.1,v6 e.2.1,v6 e.2.2.1,v6 e.2.2.2.1,v6 e.2.2.2.2.1,v6 e.2.2.2.2.2.1,v6 e.2.2.2.2.2.2.1,v6 e.2.2.2.2.2.2.2.1,v6 e.2.2.2.2.2.2.2.2.1]
abbrev agI(i:ID):SV:=.agg [v6 i.1,v6 i.2.1,v6 i.2.2.1,v6 i.2.2.2.1,v6 i.2.2.2.2.1,v6 i.2.2.2.2.2.1,v6 i.2.2.2.2.2.2.1,v6 i.2.2.2.2.2.2.2.1]
abbrev P8(m:MD):SV:=.agg [.sl I6 m.1,.sl I6 m.2.1,.sl I6.sl m.2.2.1,.sl I6 m.2.2.2.1]
abbrev Du(z:ZD):SV:=.agg [.sl dQ z.1,.sl I6 z.2.1.1,.sl I6 z.2.1.2.1,.sl I6.sl z.2.1.2.2.1,.sl I6 z.2.1.2.2.2.1,.sl yO z.2.2.1]
abbrev qE(a b:ED):Prop:=([]:List au)=[]/\bg.one (Jf a)=bg.one (Jf b)
abbrev bP(vs:List VD) (ms cs:List ByteArray) (fs:List FD) (ts:List SD):au:=.blk 27 [.sl LU vs,.sl .str ms,.sl .str cs,.sl IG fs,.sl nD ts]
abbrev bZ(th:List TD) (mv mo:List Int) (mq:List (List Int)) (mg:List Int) (bf:List BD):au:=.blk 37 [.sl dQ th,.sl I6 mv,.sl I6 mo,.sl I6.sl mq,.sl I6 mg,.sl yO bf]
def tB(t:TD):Prop:=t.2.2.2.2.2.2.2.2.2.1.length<=1000000/\t.1<=9223372036854775807/\t.2.2.2.1.length=8
def iI(l:List TD):Prop:=l.length<=1000000/\∀t∈l,tB t
def kW(l:List TD):Prop:=SS (l.map (·.1))
def VS(vs:List VD) (ms cs:List ByteArray) (fs:List FD) (ts:List SD) (bound:Int) (l:List TD) (m:MD) (bf:List BD):Prop:=
 ny (vs,ms,cs,fs,ts,()) m=true/\bf=[]/\(∀t∈l,dI (aF vs ms cs fs ts).1 bound=0/\vW ms fs bound t)/\kW l
open Classical in
def vsB(vs:List VD) (ms cs:List ByteArray) (fs:List FD) (ts:List SD) (bound:Int) (l:List TD) (m:MD) (bf:List BD):Bool:=decide (VS vs ms cs fs ts bound l m bf)
theorem jr{vs:List VD}{cs:List ByteArray}{ts:List SD}{bound:Int}{bf:List BD}:vsB vs ms cs fs ts bound l m bf=true↔VS vs ms cs fs ts bound l m bf:=by
 unfold vsB;exact @Ym _ (Classical.propDecidable _)
theorem XR{vs:List VD}{cs:List ByteArray}{ts:List SD}{bound:Int}{bf:List BD} (h:¬VS vs ms cs fs ts bound l m bf):vsB vs ms cs fs ts bound l m bf=false:=A87.2 λq=>h (jr.1 q)
theorem ade(h:∀(j:Nat) a b,l[j]?=some a->l[j+1]?=some b->a.1 < b.1):kW l:=by
 refine Sv λj x y hx hy=>?_
 rw[Ec]at hx hy;cases ha:l[j]? with
 | none=>rw[ha]at hx;cases hx
 | some a=>
   cases hb:l[j+1]? with
   | none=>rw[hb]at hy;cases hy
   | some b=>
     rw[ha]at hx;rw[hb]at hy;cases hx;cases hy;exact h j a b ha hb
theorem am8(h:kW l){j:Nat}{a b:TD} (ha:l[j]?=some a) (hb:l[j+1]?=some b):a.1 < b.1:=
 acu h (j:=j) (by rw[Ec,ha];rfl) (by rw[Ec,hb];rfl)
def kX(l:List TD) (id:Int):Option TD:=l.find? λt=>decide (t.1=id)
def tZ(b:Bool):Int:=if b=true then 1 else 0
def labS(m:MD) (t:TD) (i:ID):ED:=
 if i.1=8 then(t.1,t.2.2.2.2.1,1,i.2.2.2.2.1,-1,-1,i.2.2.2.2.2.2.2.1,m.1[i.2.2.2.2.1.toNat]?.getD 0,0,())
 else if i.1=14 then(t.1,t.2.2.2.2.1,8,i.2.2.2.2.1,-1,-1,i.2.2.2.2.2.2.2.1,m.1[i.2.2.2.2.1.toNat]?.getD 0,0,())
 else if i.1=9 then(t.1,t.2.2.2.2.1,2,i.2.2.2.2.1,-1,-1,i.2.2.2.2.2.2.2.1,0,t.2.2.2.1.getD i.2.2.1.toNat 0,())
 else if i.1=10 then(t.1,t.2.2.2.2.1,5,i.2.2.2.2.1,-1,-1,i.2.2.2.2.2.2.2.1,m.1[i.2.2.2.2.1.toNat]?.getD 0,t.2.2.2.1.getD i.2.2.1.toNat 0,())
 else if i.1=11 then(t.1,t.2.2.2.2.1,5,i.2.2.2.2.1,-1,-1,i.2.2.2.2.2.2.2.1,m.1[i.2.2.2.2.1.toNat]?.getD 0,(iG 1 (m.1[i.2.2.2.2.1.toNat]?.getD 0) (t.2.2.2.1.getD i.2.2.1.toNat 0)).1,())
 else if i.1=12 then
  (if m.1[i.2.2.2.2.1.toNat]?.getD 0=t.2.2.2.1.getD i.2.2.1.toNat 0 then(t.1,t.2.2.2.2.1,5,i.2.2.2.2.1,-1,-1,i.2.2.2.2.2.2.2.1,m.1[i.2.2.2.2.1.toNat]?.getD 0,t.2.2.2.1.getD i.2.2.2.1.toNat 0,())
   else(t.1,t.2.2.2.2.1,6,i.2.2.2.2.1,-1,-1,i.2.2.2.2.2.2.2.1,m.1[i.2.2.2.2.1.toNat]?.getD 0,0,()))
 else if i.1=13 then(t.1,t.2.2.2.2.1,7,i.2.2.2.2.1,-1,-1,0,0,0,())
 else if i.1=15 then(t.1,t.2.2.2.2.1,9,i.2.2.2.2.1,-1,-1,0,0,0,())
 else if i.1=16 then(t.1,t.2.2.2.2.1,10,i.2.2.2.2.1,-1,-1,0,0,0,())
 else if i.1=17 then(t.1,t.2.2.2.2.1,11,i.2.2.2.2.1,-1,-1,0,tZ (l9 m i.2.2.2.2.1),0,())
 else if i.1=18 then
  (if t.2.2.2.2.2.2.1=0 then(t.1,t.2.2.2.2.1,12,i.2.2.2.2.1,i.2.2.2.2.2.1,-1,0,0,0,())
   else if t.2.2.2.2.2.2.1=1 then(t.1,t.2.2.2.2.1,13,i.2.2.2.2.1,-1,-1,0,0,0,())
   else(t.1,t.2.2.2.2.1,9,i.2.2.2.2.2.1,-1,-1,0,0,0,()))
 else if i.1=19 then(t.1,t.2.2.2.2.1,14,i.2.2.2.2.1,-1,-1,0,jH 1 (m.2.2.1[i.2.2.2.2.1.toNat]?.getD []).length,0,())
 else if i.1=20 then(t.1,t.2.2.2.2.1,15,i.2.2.2.2.1,-1,-1,0,(m.2.2.1[i.2.2.2.2.1.toNat]?.getD []).length,0,())
 else if i.1=21 then(t.1,t.2.2.2.2.1,16,(dM t.1 t.2.2.2.2.2.1).1,-1,-1,0,0,0,())
 else(t.1,t.2.2.2.2.1,17,t.2.2.2.1.getD i.2.2.1.toNat 0,-1,-1,0,0,0,())
def rO(l:List TD) (m:MD) (t:TD) (i:ID):Bool:=
 if i.1=14 then decide ((iG i.2.2.2.2.2.2.1 (m.1[i.2.2.2.2.1.toNat]?.getD 0) (t.2.2.2.1.getD i.2.2.1.toNat 0)).1≠0)
 else if i.1=15 then l9 m i.2.2.2.2.1
 else if i.1=18 then(if t.2.2.2.2.2.2.1=1 then gq m.2.2.2.1 t.1 else if t.2.2.2.2.2.2.1=2 then l9 m i.2.2.2.2.2.1 else true)
 else if i.1=22 then(match kX l (t.2.2.2.1.getD i.2.2.1.toNat 0) with
  | some u=>decide (u.2.2.2.2.2.2.2.1=2) || decide (u.2.2.2.2.2.2.2.1=3)
  | none=>false)
 else true
def jI(m:MD) (e:ED):MD×Int:=
 if e.2.2.1=5\/e.2.2.1=2 then writeM m e.2.2.2.1 e.2.2.2.2.2.2.2.2.1
 else if e.2.2.1=9\/(e.2.2.1=11/\e.2.2.2.2.2.2.2.1≠0) then iP m e.2.2.2.1 e.1 (-1) e.1
 else if e.2.2.1=10 then iP m e.2.2.2.1 e.1 e.1 (-1)
 else if e.2.2.1=12 then(if(iP m e.2.2.2.2.1 e.1 e.1 (-1)).2=0 then tY (iP m e.2.2.2.2.1 e.1 e.1 (-1)).1 e.2.2.2.1 e.1 else iP m e.2.2.2.2.1 e.1 e.1 (-1))
 else if e.2.2.1=13 then lH m e.1
 else if e.2.2.1=14 then((uh m e.2.2.2.1 1).1,(uh m e.2.2.2.1 1).2.2)
 else if e.2.2.1=15 then((uh m e.2.2.2.1 (lI m.2.2.1)).1,(uh m e.2.2.2.1 (lI m.2.2.1)).2.2)
 else(m,0)
def lq(i:ID) (e:ED):Int:=
 if e.2.2.1=5 then(if i.1=12 then 1 else e.2.2.2.2.2.2.2.1) else if e.2.2.1=1\/e.2.2.1=8 then e.2.2.2.2.2.2.2.1
 else if e.2.2.1=11 then(if e.2.2.2.2.2.2.2.1=0 then 0 else 1) else if e.2.2.1=16 then e.2.2.2.1 else 0
def zE:ED:=(0,0,0,0,0,0,0,0,0,())
def zZ:ZD:=([],zM,[],())
def gJ(p:TD->Bool) (l:List TD):Int:=match l.findIdx? p with
 | some i=>i
 | none=>-1
theorem aic{d:TD} (hk:l[k]?=some d) (hd:p d=true) (h:∀j < k,∀t,l[j]?=some t->p t=false):gJ p l=k:=by
 obtain⟨h1,h2⟩:=eU.1 hk;have:l.findIdx? p=some k:=by
  rw[A50];refine⟨h1,by rw[h2];exact hd,λj hj=>?_⟩
  rw[h j hj _ (kP (by omega))];simp
 unfold gJ;rw[this]
theorem aie(h:∀j < l.length,∀t,l[j]?=some t->p t=false):gJ p l = -1:=by
 have:l.findIdx? p=none:=by
  rw[A71];intro x hx;obtain⟨j,hj⟩:=II hx;exact h j (eU.1 hj).1 x hj
 unfold gJ;rw[this]
abbrev am9:SF:={ ss:=[dQ],r:=.bool,ct:=λpr fn=>{ ps:=[.sl dQ],pre:=λd=>d.1.length<=1000000/\∀t∈d.1,pr (t,()),res:=λd=>([],.one (.c (.v (.int .i64 (gJ (λt=>fn (t,())) d.1))))) } }
abbrev ap0:MK:={ ss:=[.int .i64],f:=λds=>.clo Tryz.prog [dQ] .bool (λ_=>True) (λd=>decide (d.1.1=ds.1)) }
abbrev ana(pr:bV [dQ]->Prop) (fn:bV [dQ]->Bool) (l:List TD):Nat->Option (St->kH):=λk=>match k with
 | 2=>some λ_=>.inv { α:=Nat,slots:=λk=>[(8,.c (.v (.int .i64 k)))],res:=λ_=>[],inv:=λk=>k<=l.length/\∀j < k,∀t,l[j]?=some t->fn (t,())=false,meas:=λk=>l.length - k }
 | _=>none
abbrev ap1:List (Nat×SF):=[]
theorem aif(pr:bV [dQ]->Prop) (fn:bV [dQ]->Bool) (l:List TD) (aH:(am9.ct pr fn).pre (l,())):
 let z1:=λ(x:Nat)=>(x<=l.length/\∀(j:Nat),j < x->∀(t:TD),l[j]?=some t->fn (t,())=false);let z2:=gJ (λt=>fn (t,())) l;(∃x,(z1 x)/\(cI 0=cI (x:Int)/\True)/\([]:List fH)=[])/\∀(x:Nat),(z1 x)->br (decide ((x:Int) < (l.length:Int))) ((0<=(x:Int)/\(x:Int) < (l.length:Int))/\∀(d:TD),l[(x:Int).toNat]?=some d->some Tryz.prog=some Tryz.prog/\pr (d,())/\br (fn (d,())) (qI z2 (x:Int)) (dX IntKind.i64 ((x:Int)+(1:Int))/\∃x',(z1 x')/\(cI ((x:Int)+(1:Int))=cI (x':Int)/\True)/\([]:List fH)=[]/\l.length - x' < l.length - x)) (qI z2 (-1:Int)):=by
 conv=>zeta
 delta fH;obtain⟨hl,hp⟩:l.length<=1000000/\∀t∈l,pr (t,()):=aH;refine⟨⟨0,⟨by omega,λj hj=>by omega⟩,⟨rfl,trivial⟩,rfl⟩,λk hk=>ah.2 ⟨λg=>?_,λg=>?_⟩⟩
 .simp only[dV]at g;refine⟨⟨by omega,by omega⟩,λd hd=>⟨rfl,hp d (iJ hd),ah.2 ⟨λg2=>⟨rfl,?_⟩,λg2=>⟨ay.2 (by omega),k+1,⟨by omega,λj hj t ht=>?_⟩,⟨rfl,trivial⟩,rfl,by omega⟩⟩⟩⟩
  .have hd:l[k]?=some d:=hd;rw[aic (p:=λt=>fn (t,())) hd g2 hk.2]
  .by_cases e:j=k
   .subst e;have hd:l[j]?=some d:=hd;rw[hd]at ht;cases ht;exact g2
   .exact hk.2 j (by omega) t ht
 .simp only[gG]at g;refine⟨rfl,?_⟩;rw[aie (p:=λt=>fn (t,())) λj hj t ht=>hk.2 j (by omega) t ht]
theorem aii:afG Tryz.prog aU.gd 113 am9:=
 akZ (cx:=aU) (n:=19) (cl:=[]) (ml:=mlN) (fl:=ap1) (rc:=[]) (by kernel_rfl) aA trivial trivial trivial Tryz.func113 (by kernel_rfl) (by kernel_rfl) (λ_ _=>rfl) (by kernel_rfl) (by kernel_rfl) λpr fn d hd=>by
  obtain⟨l,⟨⟩⟩:=d;exact aS (ana pr fn l) (aif pr fn l hd) (by kernel_rfl)
theorem aij(c0 id fn pc:Int) (rg:List Int) (st ch ph su fa:Int) (he:List Int):
 qB (decide (id=c0)) (decide (id=c0)):=by
 exact⟨rfl,rfl⟩
theorem aik:aav Tryz.prog aU.gd 114 ap0:=
 ak1 (cx:=aU) (n:=8) (cl:=[]) (rc:=[]) (by kernel_rfl) aA trivial Tryz.func114 (by kernel_rfl) (by kernel_rfl) rfl rfl (by kernel_rfl) (by kernel_rfl) λds d _ _=>by
  obtain⟨c0,⟨⟩⟩:=ds;obtain⟨⟨id,fn,pc,rg,st,ch,ph,su,fa,he,⟨⟩⟩,⟨⟩⟩:=d;exact aS (λ_=>none) (aij c0 id fn pc rg st ch ph su fa he) (by kernel_rfl)
abbrev J5:CT:={ ps:=[.sl dQ,.int .i64],pre:=λd=>d.1.length<=1000000,res:=λd=>([],.iR [.c (.v (.int .i64 (fP (gJ (λt=>decide (t.1=d.2.1)) d.1) 0))),.c (.v (.bool (decide (0<=gJ (λt=>decide (t.1=d.2.1)) d.1))))]) }
abbrev arO:List (Nat×SF):=[(113,am9)]
abbrev arP:List (Nat×MK):=[(114,ap0)]
theorem anb(l:List TD) (id:Int) (aH:J5.pre (l,id,())):
 let z1:=[I6.pair (I6.pair (I6.pair ((Sh.arr 8 I6).pair (I6.pair (I6.pair (I6.pair (I6.pair (I6.pair (I6.sl.pair Sh.unit)))))))))];True/\some Tryz.prog=some Tryz.prog/\∃pre' g',(IB.clo Tryz.prog z1 Sh.bool (λx=>True) λd=>decide (d.fst.fst=id))=IB.clo Tryz.prog z1 Sh.bool pre' g'/\(l.length<=1000000/\∀(t:TD),t∈l->pre' (t,()))/\rT [cI (fP (gJ (λt=>decide (t.fst=(l,id,()).snd.fst)) l) (0:Int)),cB (decide (0<=gJ (λt=>decide (t.fst=(l,id,()).snd.fst)) l))] [cI (fP (gJ (λt=>g' (t,())) l) (0:Int)),cB (decide (0<=gJ (λt=>g' (t,())) l))]:=by
 conv=>zeta
 exact⟨trivial,rfl,λ_=>True,λd=>decide (d.1.1=id),rfl,⟨aH,λ_ _=>trivial⟩,rfl,rfl⟩
theorem EY:aW aU.gd 52 J5:=
 afH (cx:=aU) (n:=14) (cl:=[]) (ml:=arP) (fl:=arO) (rc:=[]) (by kernel_rfl) aA trivial ⟨aik,trivial⟩ ⟨aii,trivial⟩ Tryz.func52 (by kernel_rfl) (by kernel_rfl) rfl (by kernel_rfl) (by kernel_rfl) λd hd=>by
  obtain⟨l,id,⟨⟩⟩:=d;exact aS (λ_=>none) (anb l id hd) (by kernel_rfl)
theorem anc(vs:List VD) (ms cs:List ByteArray) (fs:List FD) (ts:List SD) (bound:Int) (aH:vJ.pre ((vs,ms,cs,fs,ts,()),bound,())):
 let z2:=aF vs ms cs fs ts;let z1:=dI z2.fst bound;(bnd ((vs,ms,cs,fs,ts,()),()))/\br (!decide (z2.fst=0)) (qI z1 (z2.fst)) (br (decide (bound < 1) || decide (32 < bound)) (qI z1 (2:Int)) (qI z1 (0:Int))):=by
 conv=>zeta
 have hb:bnd ((vs,ms,cs,fs,ts,()),()):=aH;refine⟨hb,ah.2 ⟨λh=>?_,λh=>ah.2 ⟨λh2=>?_,λh2=>?_⟩⟩⟩
 .have h:(aF vs ms cs fs ts).1≠0:=by simpa using h
  have e:dI (aF vs ms cs fs ts).1 bound=(aF vs ms cs fs ts).1:=by unfold dI;rw[if_pos h]
  rw[e];exact⟨rfl,rfl⟩
 all_goals have h:¬(aF vs ms cs fs ts).1≠0:=by simpa using h
 .have h2:bound < 1\/32 < bound:=by simpa using h2
  have e:dI (aF vs ms cs fs ts).1 bound=2:=by unfold dI;rw[if_neg h,if_pos h2]
  rw[e];exact⟨rfl,rfl⟩
 .have h2:¬(bound < 1\/32 < bound):=by simp only[oI,gG]at h2;omega
  have e:dI (aF vs ms cs fs ts).1 bound=0:=by unfold dI;rw[if_neg h,if_neg h2]
  rw[e];exact⟨rfl,rfl⟩
theorem Vd:aW aU.gd 32 vJ:=
 eG (cx:=aU) (n:=23) (cl:=[(74,JU)]) (rc:=[]) aA ⟨ER,trivial⟩ Tryz.func32 λd hd=>by
  obtain⟨⟨vs,ms,cs,fs,ts,⟨⟩⟩,bound,⟨⟩⟩:=d;exact aS (λ_=>none) (anc vs ms cs fs ts bound hd) (by kernel_rfl)
theorem ane(vs:List VD) (ms cs:List ByteArray) (fs:List FD) (ts:List SD) (bound:Int) (aH:vJ.pre ((vs,ms,cs,fs,ts,()),bound,())):
 let z2:=aF vs ms cs fs ts;let z1:=dI z2.fst bound;(bnd ((vs,ms,cs,fs,ts,()),()))/\br (!decide (z2.fst=0)) (qI z1 (z2.fst)) (br (decide (bound < 1) || decide (32 < bound)) (qI z1 (2:Int)) (qI z1 (0:Int))):=by
 conv=>zeta
 have hb:bnd ((vs,ms,cs,fs,ts,()),()):=aH;refine⟨hb,ah.2 ⟨λh=>?_,λh=>ah.2 ⟨λh2=>?_,λh2=>?_⟩⟩⟩
 .have h:(aF vs ms cs fs ts).1≠0:=by simpa using h
  have e:dI (aF vs ms cs fs ts).1 bound=(aF vs ms cs fs ts).1:=by unfold dI;rw[if_pos h]
  rw[e];exact⟨rfl,rfl⟩
 all_goals have h:¬(aF vs ms cs fs ts).1≠0:=by simpa using h
 .have h2:bound < 1\/32 < bound:=by simpa using h2
  have e:dI (aF vs ms cs fs ts).1 bound=2:=by unfold dI;rw[if_neg h,if_pos h2]
  rw[e];exact⟨rfl,rfl⟩
 .have h2:¬(bound < 1\/32 < bound):=by simp only[oI,gG]at h2;omega
  have e:dI (aF vs ms cs fs ts).1 bound=0:=by unfold dI;rw[if_neg h,if_neg h2]
  rw[e];exact⟨rfl,rfl⟩
theorem ail:aW aU.gd 26 vJ:=
 eG (cx:=aU) (n:=23) (cl:=[(66,Sj)]) (rc:=[]) aA ⟨aht,trivial⟩ Tryz.func26 λd hd=>by
  obtain⟨⟨vs,ms,cs,fs,ts,⟨⟩⟩,bound,⟨⟩⟩:=d;exact aS (λ_=>none) (ane vs ms cs fs ts bound hd) (by kernel_rfl)
abbrev adf:CT:={ ps:=[tK,.int .i64,Vb],pre:=λd=>bnd (d.1,())/\iI d.2.2.1.1/\bK d.2.2.1.2.1,res:=λd=>([],vB (vsB d.1.1 d.1.2.1 d.1.2.2.1 d.1.2.2.2.1 d.1.2.2.2.2.1 d.2.1 d.2.2.1.1 d.2.2.1.2.1 d.2.2.1.2.2.1)) }
abbrev ap3(vs:List VD) (ms cs:List ByteArray) (fs:List FD) (ts:List SD) (bound:Int) (th:List TD) (mv mo:List Int) (mq:List (List Int)) (mg:List Int) (bf:List BD):Nat->Option (St->kH):=λk=>match k with
 | 4=>some λ_=>.inv { α:=Nat,slots:=λk=>[(23,.c (.v (.int .i64 k)))],res:=λk=>[],inv:=λk=>k<=(th).length/\(∀j < k,∀t,th[j]?=some t->dI (aF vs ms cs fs ts).1 bound=0/\vW ms fs bound t)/\∀j,j+1 < k->∀a b,th[j]?=some a->th[j+1]?=some b->a.1 < b.1,meas:=λk=>(th).length - k }
 | _=>none
theorem anf(vs:List VD) (ms cs:List ByteArray) (fs:List FD) (ts:List SD) (bound:Int) (th:List TD) (mv mo:List Int) (mq:List (List Int)) (mg:List Int) (bf:List BD) (aH:adf.pre ((vs,ms,cs,fs,ts,()),bound,(th,(mv,mo,mq,mg,()),bf,()),())):
 let z7:=bnd ((vs,ms,cs,fs,ts,()),());let z8:=(mv,mo,mq,mg,());let z6:=vsB vs ms cs fs ts bound th z8 bf;let z5:=qB z6 false;let z1:=λ(x:Nat)=>(x<=th.length/\(∀(j:Nat),j < x->∀(t:TD),th[j]?=some t->dI (aF vs ms cs fs ts).fst bound=0/\vW ms fs bound t)/\∀(j:Nat),j+1 < x->∀(a b:TD),th[j]?=some a->th[j+1]?=some b->a.fst < b.fst);let z2:=[g0 (au.blk 27 [SC.sl LU vs,SC.sl Sh.str ms,SC.sl Sh.str cs,SC.sl IG fs,SC.sl nD ts]),g0 (au.blk 37 [SC.sl dQ th,SC.sl I6 mv,SC.sl I6 mo,SC.sl I6.sl mq,SC.sl I6 mg,SC.sl yO bf])];let z4:=λ(d:TD)=>decide (dI (aF vs ms cs fs ts).fst bound=0) && wQ ms fs bound d;let z3:=λ(x:Nat) (d:TD)=>decide (0 < (x:Int)) && !!(z4 d);(z7/\bK z8)/\br (!ny (vs,ms,cs,fs,ts,()) z8 || decide (0 < (bf.length:Int))) z5 ((∃x,(z1 x)/\(cI 0=cI (x:Int)/\True)/\sm z2)/\∀(x:Nat),(z1 x)->br (decide ((x:Int) < (th.length:Int))) ((0<=(x:Int)/\(x:Int) < (th.length:Int))/\∀(d:TD),th[(x:Int).toNat]?=some d->(z7/\List.length d.snd.snd.snd.snd.snd.snd.snd.snd.snd.fst<=1000000/\d.fst<=9223372036854775807/\List.length d.snd.snd.snd.fst=8)/\((z3 x d)=true->dX IntKind.i64 ((x:Int) - (1:Int)))/\((z3 x d)=true->0<=(x:Int) - (1:Int)/\(x:Int) - 1 < (th.length:Int))/\∀(dJ:TD),((z3 x d)=true->th[((x:Int) - (1:Int)).toNat]?=some dJ)->br (!(z4 d) || decide (0 < (x:Int)) && decide ((d).fst<=dJ.fst)) z5 (dX IntKind.i64 ((x:Int)+(1:Int))/\∃x',(z1 x')/\(cI ((x:Int)+(1:Int))=cI (x':Int)/\True)/\sm z2/\th.length - x' < th.length - x)) (qB z6 true)):=by
 conv=>zeta
 obtain⟨hb,hT,hM⟩:bnd ((vs,ms,cs,fs,ts,()),())/\iI th/\bK (mv,mo,mq,mg,()):=aH;obtain⟨hl,hT⟩:=hT;have fF:¬VS vs ms cs fs ts bound th (mv,mo,mq,mg,()) bf->qB (vsB vs ms cs fs ts bound th (mv,mo,mq,mg,()) bf) false:=λq=>⟨rfl,by rw[XR q]⟩
 refine⟨⟨hb,hM⟩,ah.2 ⟨λh=>fF λq=>?_,λh=>⟨⟨0,⟨by omega,λj hj=>by omega,λj hj=>by omega⟩,⟨rfl,trivial⟩,rfl⟩,λk hk=>ah.2 ⟨λg=>?_,λg=>?_⟩⟩⟩⟩
 .obtain⟨q1,q2,q3,q4⟩:=q;rw[q1,q2]at h;simp at h
 .obtain⟨k1,k2,k3⟩:=hk;simp only[dV]at g;refine⟨⟨by omega,by omega⟩,λd hd=>⟨⟨hb,hT d (iJ hd)⟩,λ_=>ay.2 (by omega),λq=>?_,λd1 hd1=>ah.2 ⟨λg2=>fF λq=>?_,λg2=>⟨ay.2 (by omega),k+1,⟨by omega,λj hj t ht=>?_,λj hj a b ha hb=>?_⟩,⟨rfl,trivial⟩,rfl,by omega⟩⟩⟩⟩
  .rw[A8,dV]at q;omega
  .have hd:th[k]?=some d:=hd;have q3:=q.2.2.1 d (iJ hd);rw[Ee,Kq,A8,dV,dV]at g2;have hv:(decide (dI (aF vs ms cs fs ts).1 bound=0) && wQ ms fs bound d)=true:=by rw[A8,dV,pY];exact q3
   rcases g2 with g2 | ⟨g2,g3⟩
   .rw[hv]at g2;cases g2
   .have gg:(decide ((0:Int) < (k:Int)) && !!(decide (dI (aF vs ms cs fs ts).1 bound=0) && wQ ms fs bound d))=true:=by rw[hv,Na g2];rfl
    have h1:=hd1 gg;rw[show((k:Int) - 1).toNat=k - 1 by omega]at h1
    have:=am8 q.2.2.2 h1 (by rw[show k - 1+1=k by omega];exact hd)
    omega
  .rw[oI,zG,A8,dV,pY]at g2
   by_cases e:j=k
   .subst e;have hd:th[j]?=some d:=hd;rw[hd]at ht;cases ht;exact g2.1
   .exact k2 j (by omega) t ht
  .by_cases e:j+1=k
   .have hd:th[k]?=some d:=hd;rw[oI,zG]at g2;have hk0:(0:Int) < (k:Int):=by omega
    have gg:(decide ((0:Int) < (k:Int)) && !!(decide (dI (aF vs ms cs fs ts).1 bound=0) && wQ ms fs bound d))=true:=by rw[g2.1,Na hk0];rfl
    have h1:=hd1 gg;rw[show((k:Int) - 1).toNat=j by omega,ha]at h1
    cases h1;rw[e,hd]at hb;cases hb;have g3:=g2.2;rw[Qi,gG,gG]at g3;omega
   .exact k3 j (by omega) a b ha hb
 .obtain⟨k1,k2,k3⟩:=hk;simp only[gG]at g;have all:∀t∈th,dI (aF vs ms cs fs ts).1 bound=0/\vW ms fs bound t:=λt ht=>by
   obtain⟨j,hj⟩:=II ht;have:=(eU.1 hj).1;exact k2 j (by omega) t hj
  have up:kW th:=ade λj a b ha hb=>by
   have:=(eU.1 hb).1;exact k3 j (by omega) a b ha hb
  rw[oI,zG,gG]at h;have e:bf=[]:=List.length_eq_zero_iff.1 (by omega)
  exact⟨rfl,by rw[jr.2 ⟨h.1,e,all,up⟩]⟩
theorem MG:aW aU.gd 40 adf:=
 eG (cx:=aU) (n:=50) (cl:=[(84,am2),(85,ahI)]) (rc:=[]) aA ⟨ah6,U3,trivial⟩ Tryz.func40 λd hd=>by
  obtain⟨⟨vs,ms,cs,fs,ts,⟨⟩⟩,bound,⟨th,⟨mv,mo,mq,mg,⟨⟩⟩,bf,⟨⟩⟩,⟨⟩⟩:=d;exact aS (ap3 vs ms cs fs ts bound th mv mo mq mg bf) (anf vs ms cs fs ts bound th mv mo mq mg bf hd) (by kernel_rfl)
theorem lJ{a b:ED} (h:a=b):qE a b:=⟨rfl,by rw[h]⟩
theorem wU{a b:Bool} (h:a=b):qB a b:=⟨rfl,by rw[h]⟩
theorem rgd{rg:List Int}{b d:Int} (h:rg[b.toNat]?=some d):rg.getD b.toNat 0=d:=by rw[Jk,h];rfl
theorem nS(h:0<=gJ p l):∃(k:Nat) (t:TD),gJ p l=k/\l[k]?=some t/\l.find? p=some t/\k < l.length:=by
 unfold gJ at h ⊢
 cases e:l.findIdx? p with
 | none=>rw[e]at h;exact absurd h (by decide)
 | some k=>
   obtain⟨h1,h2,h3⟩:=A50.1 e;refine⟨k,l[k],rfl,kP h1,?_,h1⟩;rw[List.find?_eq_some_iff_getElem];exact⟨h2,k,h1,rfl,λj hj=>by have:=h3 j hj;simpa using this⟩
theorem qh(h:¬0<=gJ p l):l.find? p=none:=by
 unfold gJ at h;cases e:l.findIdx? p with
 | some k=>rw[e]at h;exact absurd (Int.natCast_nonneg k) h
 | none=>
   rw[A71]at e;rw[Yk];intro x hx;rw[e x hx];simp
def ang(v rb rc op o:Int):ED->ED
 | (ag,ix,_,eo,mx,en,_,_,wr,_)=>if op=8 then(ag,ix,1,eo,mx,en,o,v,wr,()) else if op=14 then(ag,ix,8,eo,mx,en,o,v,wr,()) else if op=9 then(ag,ix,2,eo,mx,en,o,0,rb,())
   else if op=10 then(ag,ix,5,eo,mx,en,o,v,rb,()) else if op=11 then(ag,ix,5,eo,mx,en,o,v,(iG 1 v rb).1,()) else if v=rb then(ag,ix,5,eo,mx,en,o,v,rc,()) else(ag,ix,6,eo,mx,en,o,v,wr,())
def wtS(ph n:Int):ED->ED
 | (ag,ix,_,eo,mx,en,J6,rd,wr,_)=>if ph=0 then(ag,ix,12,eo,n,en,J6,rd,wr,()) else if ph=1 then(ag,ix,13,eo,mx,en,J6,rd,wr,()) else(ag,ix,9,n,mx,en,J6,rd,wr,())
def Ih(m:MD) (t:TD) (i:ID):Prop:=
 (bK m/\dO m=true/\tB t)/\(0<=i.2.2.1/\i.2.2.1 < 8)/\(0<=i.2.2.2.1/\i.2.2.2.1 < 8)/\(8<=i.1/\i.1<=22) /\
 (i.1<=14/\i.1≠13->0<=i.2.2.2.2.1/\i.2.2.2.2.1 < (m.1.length:Int))/\(18<=i.1/\i.1<=20->0<=i.2.2.2.2.1/\i.2.2.2.2.1 < (m.2.2.1.length:Int)) /\
 (i.1=13\/15<=i.1->i.2.2.2.2.2.2.2.1=0)
theorem Ve{x:Int} (h:dO m=true) (h1:0<=x/\x < (m.1.length:Int)):(yN m x).1=m.1[x.toNat]?.getD 0:=by
 unfold yN;rw[if_pos (dG.2 ⟨h,h1⟩)]
abbrev adg:CT:={ ps:=[.bool],pre:=λd=>True,res:=λd=>([],.one (.c (.v (.int .i64 (tZ d.1))))) }
theorem anh(b:Bool):
 br b (qI (tZ b) (1:Int)) (qI (tZ b) (0:Int)):=by
 unfold tZ;cases b<;>exact ah.2 ⟨λh=>⟨rfl,by simp_all⟩,λh=>⟨rfl,by simp_all⟩⟩
theorem ain:aW aU.gd 86 adg:=
 kL (cx:=aU) (n:=4) (cl:=[]) aA trivial Tryz.func86 λd hd=>by
  obtain⟨b,⟨⟩⟩:=d;exact aS (λ_=>none) (anh b) (by kernel_rfl)
abbrev adh:CT:={ ps:=[Vb,dQ,o7,XQ],pre:=λd=>bK d.1.2.1/\d.2.1.2.2.2.1.length=8/\(0<=d.2.2.1.2.2.1/\d.2.2.1.2.2.1 < 8)/\(0<=d.2.2.1.2.2.2.1/\d.2.2.1.2.2.2.1 < 8),res:=λd=>([],.one (Jf (ang (yN d.1.2.1 d.2.2.1.2.2.2.2.1).1 (d.2.1.2.2.2.1.getD d.2.2.1.2.2.1.toNat 0) (d.2.1.2.2.2.1.getD d.2.2.1.2.2.2.1.toNat 0) d.2.2.1.1 d.2.2.1.2.2.2.2.2.2.2.1 d.2.2.2.1))) }
theorem ani(th:List TD) (mv mo:List Int) (mq:List (List Int)) (mg:List Int) (bf:List BD) (id fn pc:Int) (rg:List Int) (st ch ph su fa:Int) (he:List Int) (op a b c obj n fo ord ag ix kd eo mx en J6 rd wr:Int) (aH:adh.pre ((th,(mv,mo,mq,mg,()),bf,()),(id,fn,pc,rg,st,ch,ph,su,fa,he,()),(op,a,b,c,obj,n,fo,ord,()),(ag,ix,kd,eo,mx,en,J6,rd,wr,()),())):
 let z2:=yN (mv,mo,mq,mg,()) obj;let z1:=ang z2.fst (rg.getD b.toNat (0:Int)) (rg.getD c.toNat (0:Int)) op ord (ag,ix,kd,eo,mx,en,J6,rd,wr,());bK (mv,mo,mq,mg,())/\br (decide (op=8)) (qE z1 (ag,ix,1,eo,mx,en,ord,z2.fst,wr,())) (br (decide (op=14)) (qE z1 (ag,ix,8,eo,mx,en,ord,z2.fst,wr,())) (br (decide (op=9)) ((0<=b/\b < 8)/\b.toNat < 8/\∀(d:Int),rg[b.toNat]?=some d->qE z1 (ag,ix,2,eo,mx,en,ord,0,d,())) (br (decide (op=10)) ((0<=b/\b < 8)/\b.toNat < 8/\∀(d:Int),rg[b.toNat]?=some d->qE z1 (ag,ix,5,eo,mx,en,ord,z2.fst,d,())) (br (decide (op=11)) ((0<=b/\b < 8)/\b.toNat < 8/\∀(d:Int),rg[b.toNat]?=some d->True/\qE z1 (ag,ix,5,eo,mx,en,ord,z2.fst,bC (bC (z2.fst,d,()).fst+bC d),())) ((0<=b/\b < 8)/\b.toNat < 8/\∀(d:Int),rg[b.toNat]?=some d->br (decide (z2.fst=d)) ((0<=c/\c < 8)/\c.toNat < 8/\∀(d:Int),rg[c.toNat]?=some d->qE z1 (ag,ix,5,eo,mx,en,ord,z2.fst,d,())) (qE z1 (ag,ix,6,eo,mx,en,ord,z2.fst,wr,()))))))):=by
 conv=>zeta
 obtain⟨hM,h8,hb,hc⟩:bK (mv,mo,mq,mg,())/\rg.length=8/\(0<=b/\b < 8)/\(0<=c/\c < 8):=aH;have hb8:b.toNat < 8:=by omega
 have hc8:c.toNat < 8:=by omega
 refine⟨hM,bY.2 ⟨λe=>lJ ?_,λn1=>bY.2 ⟨λe=>lJ ?_,λn2=>bY.2 ⟨λe=>⟨hb,hb8,λd hd=>lJ ?_⟩,λn3=>bY.2 ⟨λe=>⟨hb,hb8,λd hd=>lJ ?_⟩,λn4=>bY.2 ⟨λe=>⟨hb,hb8,λd hd=>⟨trivial,lJ ?_⟩⟩,λn5=>⟨hb,hb8,λd hd=>bY.2 ⟨λe=>⟨hc,hc8,λd2 hd2=>lJ ?_⟩,λe=>lJ ?_⟩⟩⟩⟩⟩⟩⟩⟩
 .subst e;rfl
 .subst e;rfl
 .subst e;rw[rgd hd];rfl
 .subst e;rw[rgd hd];rfl
 .subst e;rw[rgd hd];rfl
 .rw[rgd hd,rgd hd2];show(if op=8 then _ else _)=_
  rw[if_neg n1,if_neg n2,if_neg n3,if_neg n4,if_neg n5,if_pos e]
 .rw[rgd hd];show(if op=8 then _ else _)=_
  rw[if_neg n1,if_neg n2,if_neg n3,if_neg n4,if_neg n5,if_neg e]
theorem aio:aW aU.gd 90 adh:=
 eG (cx:=aU) (n:=73) (cl:=[(96,ahT),(97,UO)]) (rc:=[]) aA ⟨U7,L9,trivial⟩ Tryz.func90 λd hd=>by
  obtain⟨⟨th,⟨mv,mo,mq,mg,⟨⟩⟩,bf,⟨⟩⟩,⟨id,fn,pc,rg,st,ch,ph,su,fa,he,⟨⟩⟩,⟨op,a,b,c,obj,n,fo,ord,⟨⟩⟩,⟨ag,ix,kd,eo,mx,en,J6,rd,wr,⟨⟩⟩,⟨⟩⟩:=d;exact aS (λ_=>none) (ani th mv mo mq mg bf id fn pc rg st ch ph su fa he op a b c obj n fo ord ag ix kd eo mx en J6 rd wr hd) (by kernel_rfl)
abbrev ajM:CT:={ ps:=[dQ,o7,XQ],pre:=λd=>True,res:=λd=>([],.one (Jf (wtS d.1.2.2.2.2.2.2.1 d.2.1.2.2.2.2.2.1 d.2.2.1))) }
theorem anj(id fn pc:Int) (rg:List Int) (st ch ph su fa:Int) (he:List Int) (op a b c obj n fo ord ag ix kd eo mx en J6 rd wr:Int):
 let z1:=wtS ph n (ag,ix,kd,eo,mx,en,J6,rd,wr,());br (decide (ph=0)) (qE z1 (ag,ix,12,eo,n,en,J6,rd,wr,())) (br (decide (ph=1)) (qE z1 (ag,ix,13,eo,mx,en,J6,rd,wr,())) (qE z1 (ag,ix,9,n,mx,en,J6,rd,wr,()))):=by
 conv=>zeta
 refine bY.2 ⟨λe=>lJ ?_,λn1=>bY.2 ⟨λe=>lJ ?_,λn2=>lJ ?_⟩⟩
 .subst e;rfl
 .subst e;rfl
 .show(if ph=0 then _ else _)=_
  rw[if_neg n1,if_neg n2]
theorem aip:aW aU.gd 88 ajM:=
 eG (cx:=aU) (n:=23) (cl:=[]) (rc:=[]) aA trivial Tryz.func88 λd hd=>by
  obtain⟨⟨id,fn,pc,rg,st,ch,ph,su,fa,he,⟨⟩⟩,⟨op,a,b,c,obj,n,fo,ord,⟨⟩⟩,⟨ag,ix,kd,eo,mx,en,J6,rd,wr,⟨⟩⟩,⟨⟩⟩:=d;exact aS (λ_=>none) (anj id fn pc rg st ch ph su fa he op a b c obj n fo ord ag ix kd eo mx en J6 rd wr) (by kernel_rfl)
abbrev Vf:CT:={ ps:=[Vb,dQ,o7],pre:=λd=>Ih d.1.2.1 d.2.1 d.2.2.1,res:=λd=>([],.one (Jf (labS d.1.2.1 d.2.1 d.2.2.1))) }
theorem ank(th:List TD) (mv mo:List Int) (mq:List (List Int)) (mg:List Int) (bf:List BD) (id fn pc:Int) (rg:List Int) (st ch ph su fa:Int) (he:List Int) (op a b c obj n fo ord:Int) (aH:Vf.pre ((th,(mv,mo,mq,mg,()),bf,()),(id,fn,pc,rg,st,ch,ph,su,fa,he,()),(op,a,b,c,obj,n,fo,ord,()),())):
 let z4:=(mv,mo,mq,mg,());let z1:=labS z4 (id,fn,pc,rg,st,ch,ph,su,fa,he,()) (op,a,b,c,obj,n,fo,ord,());let z2:=(id,st,(0:Int),obj,(-1:Int),(-1:Int),(0:Int),(0:Int),(0:Int),());let z3:=0<=obj/\obj < (mq.length:Int);br (decide (op=13)) (qE z1 (id,st,7,obj,-1,-1,0,0,0,())) (br (decide (op=15)) (qE z1 (id,st,9,obj,-1,-1,0,0,0,())) (br (decide (op=16)) (qE z1 (id,st,10,obj,-1,-1,0,0,0,())) (br (decide (op=17)) (bK z4/\True/\qE z1 (id,st,11,obj,-1,-1,0,tZ (l9 z4 obj),0,())) (br (decide (op=18)) (True/\qE z1 (wtS ph n z2)) (br (decide (op=19)) (z3/\∀(d:List Int),mq[obj.toNat]?=some d->qE z1 (id,st,14,obj,-1,-1,0,jH (1:Int) (d.length:Int),0,())) (br (decide (op=20)) (z3/\∀(d:List Int),mq[obj.toNat]?=some d->qE z1 (id,st,15,obj,-1,-1,0,(d.length:Int),0,())) (br (decide (op=21)) (id<=9223372036854775807/\qE z1 (id,st,16,(dM id ch).fst,-1,-1,0,0,0,())) (br (decide (op=22)) ((0<=b/\b < 8)/\b.toNat < 8/\∀(d:Int),rg[b.toNat]?=some d->qE z1 (id,st,17,d,-1,-1,0,0,0,())) ((bK z4/\rg.length=8/\(0<=b/\b < 8)/\0<=c/\c < 8)/\qE z1 (ang (yN z4 obj).fst (rg.getD b.toNat (0:Int)) (rg.getD c.toNat (0:Int)) op ord z2)))))))))):=by
 conv=>zeta
 obtain⟨⟨hM,hf,hT⟩,hb,hc,hv,ho1,ho2,ho3⟩:Ih (mv,mo,mq,mg,()) (id,fn,pc,rg,st,ch,ph,su,fa,he,()) (op,a,b,c,obj,n,fo,ord,()):=aH;obtain⟨t1,t2,t3⟩:he.length<=1000000/\id<=9223372036854775807/\rg.length=8:=hT;have hb:0<=b/\b < 8:=hb;have hc:0<=c/\c < 8:=hc;have hv:8<=op/\op<=22:=hv;have ho1:op<=14/\op≠13->0<=obj/\obj < (mv.length:Int):=ho1;have ho2:18<=op/\op<=20->0<=obj/\obj < (mq.length:Int):=ho2;have hb8:b.toNat < 8:=by omega
 refine bY.2 ⟨λe=>lJ ?_,λn1=>bY.2 ⟨λe=>lJ ?_,λn2=>bY.2 ⟨λe=>lJ ?_,λn3=>bY.2 ⟨λe=>⟨hM,trivial,lJ ?_⟩,λn4=>bY.2 ⟨λe=>⟨trivial,lJ ?_⟩,λn5=>bY.2 ⟨λe=>⟨ho2 (by omega),λd hd=>lJ ?_⟩,λn6=>bY.2 ⟨λe=>⟨ho2 (by omega),λd hd=>lJ ?_⟩,λn7=>bY.2 ⟨λe=>⟨t2,lJ ?_⟩,λn8=>bY.2 ⟨λe=>⟨hb,hb8,λd hd=>lJ ?_⟩,λn9=>⟨⟨hM,t3,hb,hc⟩,lJ ?_⟩⟩⟩⟩⟩⟩⟩⟩⟩⟩
 .subst e;rfl
 .subst e;rfl
 .subst e;rfl
 .subst e;rfl
 .subst e;have e1:∀m t,labS m t (18,a,b,c,obj,n,fo,ord,())=if t.2.2.2.2.2.2.1=0 then(t.1,t.2.2.2.2.1,12,obj,n,-1,0,0,0,()) else if t.2.2.2.2.2.2.1=1 then(t.1,t.2.2.2.2.1,13,obj,-1,-1,0,0,0,()) else(t.1,t.2.2.2.2.1,9,n,-1,-1,0,0,0,()):=λ_ _=>rfl
  rw[e1];rfl
 .subst e;have e1:∀m t,labS m t (19,a,b,c,obj,n,fo,ord,())=(t.1,t.2.2.2.2.1,14,obj,-1,-1,0,jH 1 (m.2.2.1[obj.toNat]?.getD []).length,0,()):=λ_ _=>rfl
  rw[e1];show(_,_,_,_,_,_,_,jH 1 (mq[obj.toNat]?.getD []).length,_,_)=_;rw[hd];rfl
 .subst e;have e1:∀m t,labS m t (20,a,b,c,obj,n,fo,ord,())=(t.1,t.2.2.2.2.1,15,obj,-1,-1,0,((m.2.2.1[obj.toNat]?.getD []).length:Int),0,()):=λ_ _=>rfl
  rw[e1];show(_,_,_,_,_,_,_,(((mq[obj.toNat]?.getD []).length:Nat):Int),_,_)=_;rw[hd];rfl
 .subst e;rfl
 .subst e;have e1:∀m t,labS m t (22,a,b,c,obj,n,fo,ord,())=(t.1,t.2.2.2.2.1,17,t.2.2.2.1.getD b.toNat 0,-1,-1,0,0,0,()):=λ_ _=>rfl
  rw[e1];show(_,_,_,rg.getD b.toNat 0,_,_,_,_,_,_)=_;rw[rgd hd]
 .rw[Ve hf (ho1 (by omega))]
  have:op=8\/op=9\/op=10\/op=11\/op=12\/op=14:=by omega
  rcases this with e | e | e | e | e | e<;>subst e<;>rfl
theorem Vg:aW aU.gd 42 Vf:=
 eG (cx:=aU) (n:=91) (cl:=[(86,adg),(87,ahV),(88,ajM),(89,UQ),(90,adh)]) (rc:=[]) aA ⟨ain,U8,aip,UR,aio,trivial⟩ Tryz.func42 λd hd=>by
  obtain⟨⟨th,⟨mv,mo,mq,mg,⟨⟩⟩,bf,⟨⟩⟩,⟨id,fn,pc,rg,st,ch,ph,su,fa,he,⟨⟩⟩,⟨op,a,b,c,obj,n,fo,ord,⟨⟩⟩,⟨⟩⟩:=d;exact aS (λ_=>none) (ank th mv mo mq mg bf id fn pc rg st ch ph su fa he op a b c obj n fo ord hd) (by kernel_rfl)
abbrev Vh:CT:={ ps:=[Vb,dQ,o7],pre:=λd=>Ih d.1.2.1 d.2.1 d.2.2.1/\d.1.1.length<=1000000,res:=λd=>([],vB (rO d.1.1 d.1.2.1 d.2.1 d.2.2.1)) }
theorem anl(th:List TD) (mv mo:List Int) (mq:List (List Int)) (mg:List Int) (bf:List BD) (id fn pc:Int) (rg:List Int) (st ch ph su fa:Int) (he:List Int) (op a b c obj n fo ord:Int) (aH:Vh.pre ((th,(mv,mo,mq,mg,()),bf,()),(id,fn,pc,rg,st,ch,ph,su,fa,he,()),(op,a,b,c,obj,n,fo,ord,()),())):
 let z7:=(mv,mo,mq,mg,());let z3:=rO th z7 (id,fn,pc,rg,st,ch,ph,su,fa,he,()) (op,a,b,c,obj,n,fo,ord,());let z2:=qB z3 true;let z5:=λ(d:Int)=>0<=gJ (λt=>decide (t.fst=(th,d,()).snd.fst)) th;let z6:=λ(d:Int)=>gJ (λt=>decide (t.fst=(th,d,()).snd.fst)) th;let z4:=λ(d:Int)=>fP (z6 d) (0:Int);let z1:=λ(dJ:TD) (d:Int)=>!decide (dJ.snd.snd.snd.snd.snd.snd.snd.fst=2) && decide (z5 d);br (decide (op=14)) (bK z7/\(0<=b/\b < 8)/\b.toNat < 8/\∀(d:Int),rg[b.toNat]?=some d->True/\qB z3 (!decide ((iG fo ((yN z7 obj).fst,d,()).fst d).fst=0))) (br (decide (op=15)) (bK z7/\qB z3 (l9 z7 obj)) (br (decide (op=18)) (br (decide (ph=1)) (mg.length<=4611686018427387904/\qB z3 (gq mg id)) (br (decide (ph=2)) (bK z7/\qB z3 (l9 z7 n)) z2)) (br (decide (op=22)) ((0<=b/\b < 8)/\b.toNat < 8/\∀(d:Int),rg[b.toNat]?=some d->th.length<=1000000/\(decide (z5 d)=true->0<=fP (z6 d) (0:Int)/\fP (z6 d) 0 < (th.length:Int))/\∀(dJ:TD),(decide (z5 d)=true->th[(z4 d).toNat]?=some dJ)->((z1 dJ d)=true->0<=fP (z6 d) (0:Int)/\fP (z6 d) 0 < (th.length:Int))/\∀(Hl:TD),((z1 dJ d)=true->th[(z4 d).toNat]?=some Hl)->qB z3 (decide (z5 d) && (decide (dJ.snd.snd.snd.snd.snd.snd.snd.fst=2) || decide (Hl.snd.snd.snd.snd.snd.snd.snd.fst=3)))) z2))):=by
 conv=>zeta
 obtain⟨⟨⟨hM,hf,hT⟩,hb,hc,hv,ho1,ho2,ho3⟩,hl⟩:Ih (mv,mo,mq,mg,()) (id,fn,pc,rg,st,ch,ph,su,fa,he,()) (op,a,b,c,obj,n,fo,ord,())/\th.length<=1000000:=aH;have hb:0<=b/\b < 8:=hb;have ho1:op<=14/\op≠13->0<=obj/\obj < (mv.length:Int):=ho1;have hb8:b.toNat < 8:=by omega
 have hg:mg.length<=4611686018427387904:=by have:mg.length<=1000:=hM.2.2.2.1;omega
 refine bY.2 ⟨λe=>⟨hM,hb,hb8,λd hd=>⟨trivial,wU ?_⟩⟩,λn1=>bY.2 ⟨λe=>⟨hM,wU ?_⟩,λn2=>bY.2 ⟨λe=>bY.2 ⟨λe2=>⟨hg,wU ?_⟩,λm1=>bY.2 ⟨λe2=>⟨hM,wU ?_⟩,λm2=>wU ?_⟩⟩,λn3=>bY.2 ⟨λe=>⟨hb,hb8,λd hd=>⟨hl,λq=>?_,λd1 h1=>⟨λq=>?_,λd2 h2=>wU ?_⟩⟩⟩,λn4=>wU ?_⟩⟩⟩⟩
 .subst e;have e1:∀l m t,rO l m t (14,a,b,c,obj,n,fo,ord,())=decide ((iG fo (m.1[obj.toNat]?.getD 0) (t.2.2.2.1.getD b.toNat 0)).1≠0):=λ_ _ _=>rfl
  rw[e1,<-decide_not];show decide ((iG fo (mv[obj.toNat]?.getD 0) (rg.getD b.toNat 0)).1≠0)=_;rw[rgd hd,Ve hf (ho1 (by omega))]
 .subst e;rfl
 .subst e;subst e2;rfl
 .subst e;subst e2;rfl
 .subst e;have e1:∀l m t,rO l m t (18,a,b,c,obj,n,fo,ord,())=if t.2.2.2.2.2.2.1=1 then gq m.2.2.2.1 t.1 else if t.2.2.2.2.2.2.1=2 then l9 m n else true:=λ_ _ _=>rfl
  rw[e1];show(if ph=1 then _ else _)=_
  rw[if_neg m1,if_neg m2]
 .obtain⟨k,t,q1,q2,q3,q4⟩:=nS (Qg q);rw[q1];unfold fP;split<;>omega
 .rw[A8]at q;obtain⟨k,t,q1,q2,q3,q4⟩:=nS (Qg q.2);rw[q1];unfold fP;split<;>omega
 .subst e;have e1:∀l m t,rO l m t (22,a,b,c,obj,n,fo,ord,())=(match kX l (t.2.2.2.1.getD b.toNat 0) with
   | some u=>decide (u.2.2.2.2.2.2.2.1=2) || decide (u.2.2.2.2.2.2.2.1=3)
   | none=>false):=λ_ _ _=>rfl
  rw[e1];show(match kX th (rg.getD b.toNat 0) with
   | some u=>decide (u.2.2.2.2.2.2.2.1=2) || decide (u.2.2.2.2.2.2.2.1=3)
   | none=>false)=_
  rw[rgd hd];unfold kX
  by_cases q:0<=gJ (λt=>decide (t.1=d)) th
  .obtain⟨k,t,q1,q2,q3,q4⟩:=nS q;have h1:=h1 (Na q);have ek:(fP (gJ (λt=>decide (t.1=d)) th) 0).toNat=k:=by rw[q1];unfold fP;split<;>omega
   rw[ek,q2]at h1;have eq1:t=d1:=MX h1;subst eq1;rw[q3,Na q,Iw]
   by_cases s2:t.2.2.2.2.2.2.2.1=2
   .simp[s2]
   .have h2:=h2 (by rw[BP s2,Na q];rfl)
    rw[ek,q2]at h2;have eq2:t=d2:=MX h2;subst eq2;simp[s2]
  .rw[qh q,BP q];rfl
 .show rO th _ _ _=_;unfold rO;rw[if_neg n1,if_neg n2,if_neg n3,if_neg n4]
theorem Vj:aW aU.gd 46 Vh:=
 eG (cx:=aU) (n:=97) (cl:=[(96,ahT),(87,ahV),(97,UO),(52,J5),(98,Ho)]) (rc:=[]) aA ⟨U7,U8,L9,EY,Bc,trivial⟩ Tryz.func46 λd hd=>by
  obtain⟨⟨th,⟨mv,mo,mq,mg,⟨⟩⟩,bf,⟨⟩⟩,⟨id,fn,pc,rg,st,ch,ph,su,fa,he,⟨⟩⟩,⟨op,a,b,c,obj,n,fo,ord,⟨⟩⟩,⟨⟩⟩:=d;exact aS (λ_=>none) (anl th mv mo mq mg bf id fn pc rg st ch ph su fa he op a b c obj n fo ord hd) (by kernel_rfl)
def zI:ID:=(0,0,0,0,0,0,0,0,())
def jE(e:Int) (ms:List ByteArray) (fs:List FD) (l:List TD) (id:Int):TD×ID×Bool:=match kX l id with
 | some t=>(t,(dY e ms fs t).1,(dY e ms fs t).2)
 | none=>(zT,zI,false)
def XT(e:Int) (ms:List ByteArray) (fs:List FD) (l:List TD) (m:MD) (t:TD):Bool:=(dY e ms fs t).2 && rO l m t (dY e ms fs t).1
def zy(e:Int) (ms:List ByteArray) (fs:List FD) (l:List TD) (m:MD):List TD->List Int:=λl'=>(l'.filter (XT e ms fs l m)).map (·.1)
def fC(vs:List VD) (ms cs:List ByteArray) (fs:List FD) (ts:List SD) (l:List TD) (m:MD) (bf:List BD):List Int:=if vsB vs ms cs fs ts 32 l m bf=true then zy (aF vs ms cs fs ts).1 ms fs l m l else[]
theorem Pv{e:Int}{l0:List TD}{d:TD} (h:l[k]?=some d):zy e ms fs l0 m (l.take (k+1))=zy e ms fs l0 m (l.take k)++if XT e ms fs l0 m d=true then[d.1] else[]:=by
 unfold zy;rw[Tf,h,List.filter_append,Qk]
 congr 1
 by_cases q:XT e ms fs l0 m d=true
 .simp[q]
 .simp[q]
theorem adi{i:ID} (h:rG i=0) (hu:use i.1 6=false):i.2.2.2.2.2.2.2.1=0:=by
 unfold rG pV at h
 repeat' split at h
 all_goals first | (simp at h;done) | skip
 rename_i h1 h2 h3 h4 h5 h6;rw[hu]at h2;simp only[Ee,A8,Nh]at h2
 by_cases q:i.2.2.2.2.2.2.2.1=0
 .exact q
 .exact absurd (.inr ⟨rfl,q⟩) h2
theorem Px{e:Int}{t:TD} (h:(dY e ms fs t).2=true):e=0/\t.2.2.2.2.2.2.2.1=1/\vW ms fs 32 t/\qp fs t.2.1 t.2.2.1=some (dY e ms fs t).1:=by
 unfold dY at h ⊢
 split at h
 .rename_i q;rw[if_pos q];refine⟨q.1,q.2.1,q.2.2,?_⟩;unfold atR at h ⊢
  cases ha:qp fs t.2.1 t.2.2.1 with
  | none=>rw[ha]at h;cases h
  | some i=>rfl
 .cases h
theorem uf{p:PD} (h:ny p m=true):(aF p.1 p.2.1 p.2.2.1 p.2.2.2.1 p.2.2.2.2.1).1=0/\dO m=true/\m.1.length=p.1.length/\m.2.1.length=p.2.1.length/\m.2.2.1.length=p.2.2.1.length:=by
 unfold ny at h;simp only[A8,dV]at h;exact⟨h.1.1.1.1,h.1.1.1.2,h.1.1.2,h.1.2,h.2⟩
theorem MH{vs:List VD}{cs:List ByteArray}{ts:List SD}{t:TD} (hv:ny (vs,ms,cs,fs,ts,()) m=true) (hM:bK m) (hT:tB t) (h:(dY (aF vs ms cs fs ts).1 ms fs t).2=true):
 Ih m t (dY (aF vs ms cs fs ts).1 ms fs t).1:=by
 obtain⟨e0,h1,h2,h3⟩:=Px h;obtain⟨_,f,l1,l2,l3⟩:=uf hv;have l1:m.1.length=vs.length:=l1;have l3:m.2.2.1.length=cs.length:=l3;generalize (dY (aF vs ms cs fs ts).1 ms fs t).1=i at h3;obtain⟨_,_,j,hj,vj,_⟩:=Dl h2 h1;rw[h3]at hj;cases hj;have hf:=(Dp (fK h2)).1;obtain⟨k1,k2,k3,k4⟩:=qR (D6 e0 hf h3);obtain⟨r1,r2,r3,r4⟩:=ni k1;have vj:8<=i.1/\i.1<=22:=by unfold ng at vj;simpa using vj
 refine⟨⟨hM,f,hT⟩,r2,r3,vj,λq=>?_,λq=>?_,λq=>?_⟩
 .have e1:pX vs ms cs fs i.1=vs.length:=by unfold pX;rw[if_pos (by omega)]
  rw[e1]at k2;rw[l1];exact k2 (by omega)
 .have e1:pX vs ms cs fs i.1=cs.length:=by unfold pX;rw[if_neg (by omega),if_neg (by omega),if_pos (by omega)]
  rw[e1]at k2;rw[l3];exact k2 (by omega)
 .refine adi k1 ?_;have:i.1=13\/i.1=15\/i.1=16\/i.1=17\/i.1=18\/i.1=19\/i.1=20\/i.1=21\/i.1=22:=by omega
  rcases this with e | e | e | e | e | e | e | e | e<;>rw[e]<;>rfl
abbrev Vk:CT:={ ps:=[tK,Vb,.int .i64],pre:=λd=>bnd (d.1,())/\iI d.2.1.1,res:=λd=>([],.iR [.dat dQ (jE (aF d.1.1 d.1.2.1 d.1.2.2.1 d.1.2.2.2.1 d.1.2.2.2.2.1).1 d.1.2.1 d.1.2.2.2.1 d.2.1.1 d.2.2.1).1,agI ((jE (aF d.1.1 d.1.2.1 d.1.2.2.1 d.1.2.2.2.1 d.1.2.2.2.2.1).1 d.1.2.1 d.1.2.2.2.1 d.2.1.1 d.2.2.1).2.1),.c (.v (.bool ((jE (aF d.1.1 d.1.2.1 d.1.2.2.1 d.1.2.2.2.1 d.1.2.2.2.2.1).1 d.1.2.1 d.1.2.2.2.1 d.2.1.1 d.2.2.1).2.2)))]) }
theorem anm(vs:List VD) (ms cs:List ByteArray) (fs:List FD) (ts:List SD) (th:List TD) (mv mo:List Int) (mq:List (List Int)) (mg:List Int) (bf:List BD) (id:Int) (aH:Vk.pre ((vs,ms,cs,fs,ts,()),(th,(mv,mo,mq,mg,()),bf,()),id,())):
 let z9:=aF vs ms cs fs ts;let z7:=jE z9.fst ms fs th id;let z2:=[SV.dat dQ z7.fst,agI (z7.snd.fst),cB (z7.snd.snd)];let z8:=gJ (λt=>decide (t.fst=id)) th;let z4:=0<=fP z8 (0:Int)/\fP z8 0 < (th.length:Int);let z6:=fP z8 (0:Int);let z3:=λ(d:TD)=>(bnd ((vs,ms,cs,fs,ts,()),()))/\List.length d.snd.snd.snd.snd.snd.snd.snd.snd.snd.fst<=1000000/\d.fst<=9223372036854775807/\List.length d.snd.snd.snd.fst=8;let z5:=λ(dJ d:TD)=>[SV.dat dQ (dJ),agI ((dY z9.fst ms fs d).fst),cB ((dY z9.fst ms fs d).snd)];let z1:=λ(dJ d:TD)=>rT z2 (z5 dJ d);th.length<=1000000/\br (!decide (0<=gJ (λt=>decide (t.fst=id)) th)) (rT z2 [SV.dat dQ (((0:Int),(0:Int),(0:Int),Yf,(0:Int),(0:Int),(0:Int),(0:Int),(0:Int),[],())),agI (0,0,0,0,0,0,0,0,()),cB false]) (z4/\∀(d:TD),th[z6.toNat]?=some d->((z3 d)/\z4/\∀(dJ:TD),th[z6.toNat]?=some dJ->(z1 dJ d)/\rT z2 (z5 dJ d))/\(z3 d)/\z4/\∀(dJ:TD),th[z6.toNat]?=some dJ->(z1 dJ d)/\rT z2 (z5 dJ d)):=by
 conv=>zeta
 delta Yf;obtain⟨hb,hl,hT⟩:bnd ((vs,ms,cs,fs,ts,()),())/\iI th:=aH;refine⟨hl,ah.2 ⟨λh=>?_,λh=>?_⟩⟩
 .have q:¬0<=gJ (λt=>decide (t.1=id)) th:=by simpa using h
  have e:jE (aF vs ms cs fs ts).1 ms fs th id=(zT,zI,false):=by unfold jE kX;rw[qh q]
  rw[e];exact⟨rfl,rfl⟩
 .have q:0<=gJ (λt=>decide (t.1=id)) th:=by simpa using h
  obtain⟨k,t,q1,q2,q3,q4⟩:=nS q;have ek:(fP (gJ (λt=>decide (t.1=id)) th) 0).toNat=k:=by rw[q1];unfold fP;split<;>omega
  have hx:0<=fP (gJ (λt=>decide (t.1=id)) th) 0/\fP (gJ (λt=>decide (t.1=id)) th) 0 < (th.length:Int):=by rw[q1];unfold fP;split<;>omega
  have e:jE (aF vs ms cs fs ts).1 ms fs th id=(t,(dY (aF vs ms cs fs ts).1 ms fs t).1,(dY (aF vs ms cs fs ts).1 ms fs t).2):=by unfold jE kX;rw[q3]
  have key:∀d d1:TD,th[(fP (gJ (λt=>decide (t.1=id)) th) 0).toNat]?=some d->th[(fP (gJ (λt=>decide (t.1=id)) th) 0).toNat]?=some d1->rT [SV.dat dQ (jE (aF vs ms cs fs ts).1 ms fs th id).1,agI (jE (aF vs ms cs fs ts).1 ms fs th id).2.1,cB (jE (aF vs ms cs fs ts).1 ms fs th id).2.2] [SV.dat dQ d1,agI (dY (aF vs ms cs fs ts).1 ms fs d).1,cB (dY (aF vs ms cs fs ts).1 ms fs d).2]:=by
   intro d d1 h1 h2;rw[ek,q2]at h1 h2;have e1:t=d:=MX h1;have e2:t=d1:=MX h2;subst e1;subst e2;rw[e];exact⟨rfl,rfl⟩
  exact⟨hx,λd hd=>⟨⟨⟨hb,hT d (iJ hd)⟩,hx,λd1 h1=>⟨key d d1 hd h1,key d d1 hd h1⟩⟩,⟨hb,hT d (iJ hd)⟩,hx,λd1 h1=>⟨key d d1 hd h1,key d d1 hd h1⟩⟩⟩
theorem Vl:aW aU.gd 41 Vk:=
 eG (cx:=aU) (n:=40) (cl:=[(52,J5),(45,U4)]) (rc:=[.data dQ,.keep,.keep]) aA ⟨EY,U5,trivial⟩ Tryz.func41 λd hd=>by
  obtain⟨⟨vs,ms,cs,fs,ts,⟨⟩⟩,⟨th,⟨mv,mo,mq,mg,⟨⟩⟩,bf,⟨⟩⟩,id,⟨⟩⟩:=d;exact aS (λ_=>none) (anm vs ms cs fs ts th mv mo mq mg bf id hd) (by kernel_rfl)
abbrev Ii:CT:={ ps:=[tK,Vb],pre:=λd=>bnd (d.1,())/\iI d.2.1.1/\bK d.2.1.2.1,res:=λd=>([],.one (.c (.sl (.int .i64) (fC d.1.1 d.1.2.1 d.1.2.2.1 d.1.2.2.2.1 d.1.2.2.2.2.1 d.2.1.1 d.2.1.2.1 d.2.1.2.2.1)))) }
abbrev ap4(vs:List VD) (ms cs:List ByteArray) (fs:List FD) (ts:List SD) (th:List TD) (mv mo:List Int) (mq:List (List Int)) (mg:List Int) (bf:List BD):Nat->Option (St->kH):=λk=>match k with
 | 5=>some λ_=>.inv { α:=Nat,nil:=[(5,3,.int .i64)],slots:=λk=>[(17,.c (.v (.int .i64 k))),(5,.c (.row 2))],res:=λk=>[(2,.row 3 (.int .i64) (zy (aF vs ms cs fs ts).1 ms fs th (mv,mo,mq,mg,()) (th.take k)))],inv:=λk=>k<=th.length,meas:=λk=>th.length - k }
 | _=>none
theorem ano(vs:List VD) (ms cs:List ByteArray) (fs:List FD) (ts:List SD) (th:List TD) (mv mo:List Int) (mq:List (List Int)) (mg:List Int) (bf:List BD) (aH:Ii.pre ((vs,ms,cs,fs,ts,()),(th,(mv,mo,mq,mg,()),bf,()),())):
 let z7:=bnd ((vs,ms,cs,fs,ts,()),());let z10:=(mv,mo,mq,mg,());let z4:=bg.one (SV.c (SC.sl I6 (fC vs ms cs fs ts th z10 bf)));let z11:=bP vs ms cs fs ts;let z8:=bZ th mv mo mq mg bf;let z9:=aF vs ms cs fs ts;let z2:=λ(x:Nat)=>zy z9.fst ms fs th z10 (List.take x th);let z1:=λ(x:Nat)=>[g0 z11,g0 z8,g0 (au.row 3 I6 (z2 x))];let z6:=λ(d:TD)=>dY z9.fst ms fs d;let z5:=λ(d:TD)=>(z6 d).fst;let z3:=λ(x x':Nat)=>cI ((x:Int)+(1:Int))=cI (x':Int)/\sm (SV.c (SC.row 2))/\True;(z7/\iI th/\bK z10)/\br (!vsB vs ms cs fs ts (32:Int) th z10 bf) (rE z4 (bg.one (SV.c (SC.sl I6 [])))) ((∃x,x<=th.length/\(cI 0=cI (x:Int)/\sm (SV.c (SC.row 2))/\True)/\[g0 z11,g0 z8,g0 (au.row 3 I6 [])]=(z1 x))/\∀(x:Nat),x<=th.length->br (decide ((x:Int) < (th.length:Int))) ((0<=(x:Int)/\(x:Int) < (th.length:Int))/\∀(d:TD),th[(x:Int).toNat]?=some d->(z7/\List.length d.snd.snd.snd.snd.snd.snd.snd.snd.snd.fst<=1000000/\d.fst<=9223372036854775807/\List.length d.snd.snd.snd.fst=8)/\((z6 d).snd=true->Ih z10 d (z5 d)/\th.length<=1000000)/\br ((z6 d).snd && rO th z10 d (z5 d)) (oN (List.length (z2 x)+List.length ([(d).fst])) 8/\dX IntKind.i64 ((x:Int)+(1:Int))/\∃x',x'<=th.length/\(z3 x x')/\[g0 z11,g0 z8,g0 (au.row 3 I6 (zy z9.fst ms fs th z10 (List.take x th)++[(d).fst]))]=(z1 x')/\th.length - x' < th.length - x) (dX IntKind.i64 ((x:Int)+(1:Int))/\∃x',x'<=th.length/\(z3 x x')/\(z1 x)=(z1 x')/\th.length - x' < th.length - x)) (rE z4 (bg.one (SV.c (SC.sl I6 (z2 x)))))):=by
 conv=>zeta
 obtain⟨hb,⟨hl,hT⟩,hM⟩:bnd ((vs,ms,cs,fs,ts,()),())/\iI th/\bK (mv,mo,mq,mg,()):=aH;refine⟨⟨hb,⟨hl,hT⟩,hM⟩,ah.2 ⟨λh=>?_,λh=>⟨⟨0,by omega,⟨rfl,rfl,trivial⟩,by simp[zy]⟩,λk hk=>ah.2 ⟨λg=>?_,λg=>?_⟩⟩⟩⟩
 .have h:vsB vs ms cs fs ts 32 th (mv,mo,mq,mg,()) bf=false:=by simpa using h
  exact⟨rfl,by unfold fC;rw[h];rfl⟩
 .simp only[dV]at g;have hv:vsB vs ms cs fs ts 32 th (mv,mo,mq,mg,()) bf=true:=by simpa using h
  have hV:=jr.1 hv;have hle:(zy (aF vs ms cs fs ts).1 ms fs th (mv,mo,mq,mg,()) (th.take k)).length<=k:=by
   unfold zy;rw[Yp];exact qY (Yu _ _) (by rw[mD];omega)
  refine⟨⟨by omega,by omega⟩,λd hd=>⟨⟨hb,hT d (iJ hd)⟩,λq=>⟨MH hV.1 hM (hT d (iJ hd)) q,hl⟩,ah.2 ⟨λg2=>⟨fQ.2 (by simp only[yP,Qh];omega),ay.2 (by omega),k+1,by omega,⟨rfl,rfl,trivial⟩,?_,by omega⟩,λg2=>⟨ay.2 (by omega),k+1,by omega,⟨rfl,rfl,trivial⟩,?_,by omega⟩⟩⟩⟩
  .have hd:th[k]?=some d:=hd;rw[Pv hd,if_pos (show XT _ _ _ _ _ _=true from g2)]
  .have hd:th[k]?=some d:=hd;have g2:XT (aF vs ms cs fs ts).1 ms fs th (mv,mo,mq,mg,()) d=false:=g2;rw[Pv hd,g2];simp
 .simp only[gG]at g;have hv:vsB vs ms cs fs ts 32 th (mv,mo,mq,mg,()) bf=true:=by simpa using h
  have ek:k=th.length:=by omega
  subst ek;rw[zF (qy _)];exact⟨rfl,by unfold fC;rw[if_pos hv]⟩
theorem MI:aW aU.gd 19 Ii:=
 eG (cx:=aU) (n:=41) (cl:=[(40,adf),(45,U4),(46,Vh)]) (rc:=[.data (.sl (.int .i64))]) aA ⟨MG,U5,Vj,trivial⟩ Tryz.func19 λd hd=>by
  obtain⟨⟨vs,ms,cs,fs,ts,⟨⟩⟩,⟨th,⟨mv,mo,mq,mg,⟨⟩⟩,bf,⟨⟩⟩,⟨⟩⟩:=d;exact aS (ap4 vs ms cs fs ts th mv mo mq mg bf) (ano vs ms cs fs ts th mv mo mq mg bf hd) (by kernel_rfl)
def yj(vs:List VD) (ms cs:List ByteArray) (fs:List FD) (ts:List SD) (l:List TD) (m:MD) (bf:List BD) (id:Int):ED×Bool:=
 if vsB vs ms cs fs ts 32 l m bf=true then(if(jE (aF vs ms cs fs ts).1 ms fs l id).2.2=true then(labS m (jE (aF vs ms cs fs ts).1 ms fs l id).1 (jE (aF vs ms cs fs ts).1 ms fs l id).2.1,true) else(zE,false)) else(zE,false)
abbrev Vm:CT:={ ps:=[tK,Vb,.int .i64],pre:=λd=>bnd (d.1,())/\iI d.2.1.1/\bK d.2.1.2.1,res:=λd=>([],.iR [Jf ((yj d.1.1 d.1.2.1 d.1.2.2.1 d.1.2.2.2.1 d.1.2.2.2.2.1 d.2.1.1 d.2.1.2.1 d.2.1.2.2.1 d.2.2.1).1),.c (.v (.bool ((yj d.1.1 d.1.2.1 d.1.2.2.1 d.1.2.2.2.1 d.1.2.2.2.2.1 d.2.1.1 d.2.1.2.1 d.2.1.2.2.1 d.2.2.1).2)))]) }
theorem anp(vs:List VD) (ms cs:List ByteArray) (fs:List FD) (ts:List SD) (th:List TD) (mv mo:List Int) (mq:List (List Int)) (mg:List Int) (bf:List BD) (id:Int) (aH:Vm.pre ((vs,ms,cs,fs,ts,()),(th,(mv,mo,mq,mg,()),bf,()),id,())):
 let z7:=bnd ((vs,ms,cs,fs,ts,()),());let z8:=(mv,mo,mq,mg,());let z4:=yj vs ms cs fs ts th z8 bf id;let z2:=[Jf (z4.fst),cB (z4.snd)];let z1:=rT z2 [Jf (0,0,0,0,0,0,0,0,0,()),cB false];let z6:=jE (aF vs ms cs fs ts).fst ms fs th id;let z5:=z6.fst;let z3:=z6.snd.fst;(z7/\iI th/\bK z8)/\br (!vsB vs ms cs fs ts (32:Int) th z8 bf) z1 ((z7/\iI th)/\br (!z6.snd.snd) z1 (Ih z8 z5 z3/\rT z2 [Jf (labS z8 z5 z3),cB true])):=by
 conv=>zeta
 obtain⟨hb,hT,hM⟩:bnd ((vs,ms,cs,fs,ts,()),())/\iI th/\bK (mv,mo,mq,mg,()):=aH;refine⟨⟨hb,hT,hM⟩,ah.2 ⟨λh=>?_,λh=>⟨⟨hb,hT⟩,ah.2 ⟨λh2=>?_,λh2=>⟨?_,?_⟩⟩⟩⟩⟩
 .have h:vsB vs ms cs fs ts 32 th (mv,mo,mq,mg,()) bf=false:=by simpa using h
  have e:yj vs ms cs fs ts th (mv,mo,mq,mg,()) bf id=(zE,false):=by unfold yj;rw[h];rfl
  rw[e];exact⟨rfl,rfl⟩
 all_goals have hv:vsB vs ms cs fs ts 32 th (mv,mo,mq,mg,()) bf=true:=by simpa using h
 .have h2:(jE (aF vs ms cs fs ts).1 ms fs th id).2.2=false:=by simpa using h2
  have e:yj vs ms cs fs ts th (mv,mo,mq,mg,()) bf id=(zE,false):=by unfold yj;rw[if_pos hv,h2];rfl
  rw[e];exact⟨rfl,rfl⟩
 all_goals have h2:(jE (aF vs ms cs fs ts).1 ms fs th id).2.2=true:=by simpa using h2
 .have h3:=h2;unfold jE at h3 ⊢;cases ef:kX th id with
  | none=>rw[ef]at h3;cases h3
  | some t=>
    rw[ef]at h3;exact MH (jr.1 hv).1 hM (hT.2 t (ajW ef)) h3
 .have e:yj vs ms cs fs ts th (mv,mo,mq,mg,()) bf id=(labS (mv,mo,mq,mg,()) (jE (aF vs ms cs fs ts).1 ms fs th id).1 (jE (aF vs ms cs fs ts).1 ms fs th id).2.1,true):=by unfold yj;rw[if_pos hv,if_pos h2]
  rw[e];exact⟨rfl,rfl⟩
theorem Vo:aW aU.gd 16 Vm:=
 eG (cx:=aU) (n:=31) (cl:=[(40,adf),(41,Vk),(42,Vf)]) (rc:=[.keep,.keep]) aA ⟨MG,Vl,Vg,trivial⟩ Tryz.func16 λd hd=>by
  obtain⟨⟨vs,ms,cs,fs,ts,⟨⟩⟩,⟨th,⟨mv,mo,mq,mg,⟨⟩⟩,bf,⟨⟩⟩,id,⟨⟩⟩:=d;exact aS (λ_=>none) (anp vs ms cs fs ts th mv mo mq mg bf id hd) (by kernel_rfl)
abbrev shR:Sh:=.pair (.sl (.int .i64)) (.pair (.sl (.int .i64)) (.pair (.sl (.sl (.int .i64))) (.pair (.sl (.int .i64)) (.pair (.sl yO) .unit))))
def zR:TD:=(0,0,0,List.replicate 8 0,0,0,0,0,0,[],())
open Classical in
def mP{α:Type} (a b:α):Bool:=decide (a=b)
theorem nH{α:Type}{a b:α}:mP a b=true↔a=b:=by unfold mP;exact @Ym _ (Classical.propDecidable _)
theorem lK{α:Type}{a b:α} (h:a≠b):mP a b=false:=A87.2 λq=>h (nH.1 q)
theorem jh{α:Type}{a b:α} (h:a=b):mP a b=true:=nH.2 h
theorem MJ{i f t:Int} (h:bK m):bK (iP m i id f t).1:=by
 have z:bK zM:=⟨by decide,by decide,by decide,by decide,by decide,by decide⟩
 unfold iP;split
 .split
  .exact z
  .split
   .obtain⟨h1,h2,h3⟩:=h;exact⟨h1,by rw[yg];exact h2,h3⟩
   .exact z
 .exact z
theorem ap5{a b:List SV} (h:a=b):rT a b:=⟨rfl,by rw[h]⟩
def uT(l:List BD):Prop:=l.length<=1000000/\∀b∈l,b.2.2.1.length<=1000000
def Py(z:ZD):Prop:=iI z.1/\bK z.2.1/\uT z.2.2.1
abbrev adk:CT:={ ps:=[yM,dQ,o7,XQ],pre:=λd=>bK d.1/\d.2.1.1=d.2.2.2.1.1,res:=λd=>([],.iR [P8 ((jI d.1 d.2.2.2.1).1),.c (.v (.int .i64 (lq d.2.2.1 d.2.2.2.1))),.c (.v (.int .i64 ((jI d.1 d.2.2.2.1).2)))]) }
theorem anq(mv mo:List Int) (mq:List (List Int)) (mg:List Int) (id fn pc:Int) (rg:List Int) (st ch ph su fa:Int) (he:List Int) (op a b c obj n fo ord ag ix kd eo mx en J6 rd wr:Int) (aH:adk.pre ((mv,mo,mq,mg,()),(id,fn,pc,rg,st,ch,ph,su,fa,he,()),(op,a,b,c,obj,n,fo,ord,()),(ag,ix,kd,eo,mx,en,J6,rd,wr,()),())):
 let z20:=(mv,mo,mq,mg,());let oH:=(ag,ix,kd,eo,mx,en,J6,rd,wr,());let z5:=jI z20 oH;let z4:=[P8 (z5.fst),cI (lq (op,a,b,c,obj,n,fo,ord,()) oH),cI (z5.snd)];let yh:=writeM z20 eo wr;let z13:=yh.fst;let zx:=yh.snd;let z2:=rT z4 [P8 z20,cI rd,cI 0];let z3:=rT z4 [P8 z20,cI 0,cI 0];let z12:=iP z20 eo id (-1:Int) id;let z7:=z12.fst;let z8:=z12.snd;let z10:=iP z20 eo id id (-1:Int);let z11:=iP z20 mx id id (-1:Int);let z9:=z11.fst;let z6:=tY z9 eo id;let SB:=lH z20 id;let z17:=uh z20 eo (1:Int);let Dn:=uh z20 eo (lI mq);let z1:=br (decide (kd=11)) (br (decide (rd=0)) z3 (bK z20/\rT z4 [P8 z7,cI 1,cI z8])) (br (decide (kd=9)) (bK z20/\rT z4 [P8 z7,cI 0,cI z8]) (br (decide (kd=10)) (bK z20/\rT z4 [P8 (z10.fst),cI 0,cI (z10.snd)]) (br (decide (kd=12)) (bK z20/\br (decide (z11.snd=0)) (bK z9/\rT z4 [P8 (z6.fst),cI 0,cI (z6.snd)]) (rT z4 [P8 z9,cI 0,cI (z11.snd)])) (br (decide (kd=13)) (bK z20/\rT z4 [P8 (SB.fst),cI 0,cI (SB.snd)]) (br (decide (kd=14)) (bK z20/\rT z4 [P8 (z17.fst),cI 0,cI (z17.snd.snd)]) (br (decide (kd=15)) (bK z20/\rT z4 [P8 (Dn.fst),cI 0,cI (Dn.snd.snd)]) (br (decide (kd=16)) (rT z4 [P8 z20,cI eo,cI 0]) z3)))))));br (decide (kd=5)) (bK z20/\br (decide (op=12)) (rT z4 [P8 z13,cI 1,cI zx]) (rT z4 [P8 z13,cI rd,cI zx]))
 (br (decide (kd=2)) (bK z20/\rT z4 [P8 z13,cI 0,cI zx]) (br (decide (kd=1)) (br (decide (kd=1)) z2 z1) (br (decide (kd=8)) z2 z1))):=by
 conv=>zeta
 obtain⟨hM,hid⟩:bK (mv,mo,mq,mg,())/\id=ag:=aH;subst hid;simp only[bY]
 repeat' (first | exact hM | exact MJ hM | (refine ap5 ?_) | (refine And.intro ?_ ?_) | (intro _))
 all_goals first | exact hM | exact MJ hM | trivial | (exfalso;omega) | (simp_all[jI,lq];done) | skip
theorem aiq:aW aU.gd 48 adk:=
 eG (cx:=aU) (n:=132) (cl:=[(100,amX),(101,acV),(102,acX),(103,ac1),(104,ac5),(105,ac3),(106,ada)]) (rc:=[.data yM,.keep,.keep]) aA ⟨acU,acW,acY,ac2,ac6,ac4,adb,trivial⟩ Tryz.func48 λd hd=>by
  obtain⟨⟨mv,mo,mq,mg,⟨⟩⟩,⟨id,fn,pc,rg,st,ch,ph,su,fa,he,⟨⟩⟩,⟨op,a,b,c,obj,n,fo,ord,⟨⟩⟩,⟨ag,ix,kd,eo,mx,en,J6,rd,wr,⟨⟩⟩,⟨⟩⟩:=d;exact aS (λ_=>none) (anq mv mo mq mg id fn pc rg st ch ph su fa he op a b c obj n fo ord ag ix kd eo mx en J6 rd wr hd) (by kernel_rfl)
abbrev adl:CT:={ ps:=[.sl XP],pre:=λd=>d.1.length<=1000000,res:=λd=>([.row 67 XP d.1],.one (.c (.row 0))) }
theorem anr(l:List (Int×Int×Unit)) (aH:adl.pre (l,())):
 ∀(b:Bool),(b=true->l=[])->br b ([au.row 67 nD l]=[au.row 67 nD []]/\bg.one (SV.c (SC.row 0))=bg.one (SV.c (SC.row 0))) (oN (0+List.length (l)) 16/\[au.row 67 nD l]=[au.row 67 nD ([]++l)]/\bg.one (SV.c (SC.row 0))=bg.one (SV.c (SC.row 0))):=by
 have hp:l.length<=1000000:=aH;intro b hb;refine ah.2 ⟨λh=>by rw[hb h];exact⟨rfl,rfl⟩,λh=>⟨?_,by simp,rfl⟩⟩
 rw[fQ];omega
theorem air:aW aU.gd 59 adl:=
 Lu (il:=Yd) (rc:=[.row 67 XP]) (cx:=aU) (n:=8) (cl:=[]) (by kernel_rfl) aA trivial trivial Tryz.func59 (by kernel_rfl) (by kernel_rfl) rfl (by kernel_rfl) (by kernel_rfl) λd hd=>by
  obtain⟨l,⟨⟩⟩:=d;exact aS (λ_=>none) (anr l hd) (by kernel_rfl)
abbrev adn:CT:={ ps:=[Vb],pre:=λd=>Py d.1,res:=λd=>([.row 56 dQ d.1.1],.one (.agg [.row 0,.sl (.int .i64) d.1.2.1.1,.sl (.int .i64) d.1.2.1.2.1,.sl (.sl (.int .i64)) d.1.2.1.2.2.1,.sl (.int .i64) d.1.2.1.2.2.2.1,.sl yO d.1.2.2.1])) }
abbrev ap6(th:List TD) (mv mo:List Int) (mq:List (List Int)) (mg:List Int) (bf:List BD):Nat->Option (St->kH):=λk=>match k with
 | 5=>some λ_=>.inv { α:=Nat,slots:=λk=>[(23,.c (.v (.int .i64 k)))],res:=λk=>[(7,.row 56 dQ th)],inv:=λk=>k<=th.length,meas:=λk=>th.length - k }
 | 12=>some λ_=>.inv { α:=Nat,slots:=λk=>[(52,.c (.v (.int .i64 k)))],res:=λk=>[(8,.row 65 yO bf)],inv:=λk=>k<=bf.length,meas:=λk=>bf.length - k }
 | _=>none
abbrev Pz:=[SC.v (Value.slice none 0 0),SC.v (Value.slice none 0 0),SC.v (Value.slice none 0 0),SC.v (Value.slice none 0 0),SC.v (Value.slice none 0 0),SC.v (Value.slice none 0 0)]
theorem ant(th:List TD) (mv mo:List Int) (mq:List (List Int)) (mg:List Int) (bf:List BD) (aH:adn.pre ((th,(mv,mo,mq,mg,()),bf,()),())):
 let z13:=bZ th mv mo mq mg bf;let z6:=[SC.row (Nat.succ 0).succ.succ.succ.succ.succ.succ,SC.row 2,SC.row 3,SC.row 4,SC.row 5,SC.v (Value.slice none 0 0)];let z11:=List.replicate (th.length:Int).toNat (zR:TD);let z4:=List.take (List.length z11) (th)++List.drop (List.length (th)) z11;let z2:=[g0 z13,g0 (au.blk 37 Pz),g0 (au.row 3 I6 mv),g0 (au.row 3 I6 mo),g0 (au.row 31 I6.sl mq),g0 (au.row 3 I6 mg),g0 (au.blk 37 z6),g0 (au.row 56 dQ th)];let z9:=λ(x:Nat)=>0<=(x:Int)/\(x:Int) < (th.length:Int);let z12:=λ(x:Nat)=>(x:Int)+(1:Int);let z5:=[SC.row (Nat.succ 0).succ.succ.succ.succ.succ.succ,SC.row 2,SC.row 3,SC.row 4,SC.row 5,SC.row (Nat.succ 0).succ.succ.succ.succ.succ.succ.succ];let z8:=List.replicate (bf.length:Int).toNat (((0:Int),(0:Int),[],()):BD);let z3:=List.take (List.length z8) (bf)++List.drop (List.length (bf)) z8;let z1:=[g0 z13,g0 (au.blk 37 Pz),g0 (au.row 3 I6 mv),g0 (au.row 3 I6 mo),g0 (au.row 31 I6.sl mq),g0 (au.row 3 I6 mg),g0 (au.blk 37 z5),g0 (au.row 56 dQ th),g0 (au.row 65 yO bf)];let z10:=λ(x:Nat)=>0<=(x:Int)/\(x:Int) < (bf.length:Int);let z7:=[SC.row 0,SC.sl I6 mv,SC.sl I6 mo,SC.sl I6.sl mq,SC.sl I6 mg,SC.sl yO bf];bK (mv,mo,mq,mg,())/\(0<=(th.length:Int)/\(th.length:Int)<=(th.length:Int)/\oN (th.length:Int).toNat 152)/\(∃x,x<=th.length/\(cI 0=cI (x:Int)/\True)/\[g0 z13,g0 (au.blk 37 Pz),g0 (au.row 3 I6 mv),g0 (au.row 3 I6 mo),g0 (au.row 31 I6.sl mq),g0 (au.row 3 I6 mg),g0 (au.blk 37 z6),g0 (au.row 56 dQ z4)]=z2)/\∀(x:Nat),x<=th.length->br (decide ((x:Int) < (z4.length:Int))) ((z9 x)/\∀(d:TD),th[(x:Int).toNat]?=some d->List.length d.snd.snd.snd.snd.snd.snd.snd.snd.snd.fst<=1000000/\(z9 x)/\(x:Int).toNat < th.length/\∀(e:TD),th[(x:Int).toNat]?=some e->dX IntKind.i64 (z12 x)/\∃x',x'<=th.length/\(cI (z12 x)=cI (x':Int)/\True)/\[g0 z13,g0 (au.blk 37 Pz),g0 (au.row 3 I6 mv),g0 (au.row 3 I6 mo),g0 (au.row 31 I6.sl mq),g0 (au.row 3 I6 mg),g0 (au.blk 37 z6),g0 (au.row 56 dQ (th.set (x:Int).toNat (e.fst,e.2.fst,e.2.2.fst,e.2.2.2.fst,e.2.2.2.2.fst,e.2.2.2.2.2.fst,e.2.2.2.2.2.2.fst,e.2.2.2.2.2.2.2.fst,e.2.2.2.2.2.2.2.2.fst,d.snd.snd.snd.snd.snd.snd.snd.snd.snd.fst,e.2.2.2.2.2.2.2.2.2.snd)))]=z2/\th.length - x' < th.length - x) ((0<=(bf.length:Int)/\(bf.length:Int)<=(bf.length:Int)/\oN (bf.length:Int).toNat 40)/\(∃x,x<=bf.length/\(cI 0=cI (x:Int)/\True)/\[g0 z13,g0 (au.blk 37 Pz),g0 (au.row 3 I6 mv),g0 (au.row 3 I6 mo),g0 (au.row 31 I6.sl mq),g0 (au.row 3 I6 mg),g0 (au.blk 37 z5),g0 (au.row 56 dQ th),g0 (au.row 65 yO z3)]=z1)/\∀(x:Nat),x<=bf.length->br (decide ((x:Int) < (z3.length:Int))) ((z10 x)/\∀(d:BD),bf[(x:Int).toNat]?=some d->List.length d.snd.snd.fst<=1000000/\(z10 x)/\(x:Int).toNat < bf.length/\∀(e:BD),bf[(x:Int).toNat]?=some e->dX IntKind.i64 (z12 x)/\∃x',x'<=bf.length/\(cI (z12 x)=cI (x':Int)/\True)/\[g0 z13,g0 (au.blk 37 Pz),g0 (au.row 3 I6 mv),g0 (au.row 3 I6 mo),g0 (au.row 31 I6.sl mq),g0 (au.row 3 I6 mg),g0 (au.blk 37 z5),g0 (au.row 56 dQ th),g0 (au.row 65 yO (bf.set (x:Int).toNat (e.fst,e.2.fst,d.snd.snd.fst,e.2.2.snd)))]=z1/\bf.length - x' < bf.length - x) ([au.row 56 dQ th]=[au.row 56 dQ th]/\bg.one (SV.agg z7)=bg.one (SV.agg z7))):=by
 conv=>zeta
 delta Pz;obtain⟨⟨hl,hT⟩,hM,hB,hb⟩:iI th/\bK (mv,mo,mq,mg,())/\uT bf:=aH;have tk:∀{α:Type} (l:List α) (z:α),List.take (List.length (List.replicate (l.length:Int).toNat z)) l++List.drop (List.length l) (List.replicate (l.length:Int).toNat z)=l:=by
  intro α l z;rw[MV,A98,zF (qy _),VQ (by rw[MV];omega),Tj]
 have st:∀{α:Type}{l:List α}{k:Nat}{d:α},l[k]?=some d->l.set k d=l:=λh=>iw h
 rw[tk th,tk bf];refine⟨hM,⟨by omega,by omega,fQ.2 (by omega)⟩,⟨0,by omega,⟨rfl,trivial⟩,rfl⟩,λk hk=>ah.2 ⟨λg=>?_,λg=>⟨⟨by omega,by omega,fQ.2 (by omega)⟩,⟨0,by omega,⟨rfl,trivial⟩,rfl⟩,λk hk=>ah.2 ⟨λg=>?_,λg=>?_⟩⟩⟩⟩
 .simp only[dV]at g;refine⟨⟨by omega,by omega⟩,λd hd=>⟨(hT d (iJ hd)).1,⟨by omega,by omega⟩,by omega,λe he=>⟨ay.2 (by omega),k+1,by omega,⟨rfl,trivial⟩,?_,by omega⟩⟩⟩
  have hd:th[(k:Int).toNat]?=some d:=hd;rw[hd]at he;have e1:d=e:=MX he;subst e1;have:th.set (k:Int).toNat d=th:=st hd;exact oV (λz=>[_,_,_,_,_,_,_,g0 (au.row 56 dQ z)]) this
 .simp only[dV]at g;refine⟨⟨by omega,by omega⟩,λd hd=>⟨hb d (iJ hd),⟨by omega,by omega⟩,by omega,λe he=>⟨ay.2 (by omega),k+1,by omega,⟨rfl,trivial⟩,?_,by omega⟩⟩⟩
  have hd:bf[(k:Int).toNat]?=some d:=hd;rw[hd]at he;have e1:d=e:=MX he;subst e1;have:bf.set (k:Int).toNat d=bf:=st hd;exact oV (λz=>[_,_,_,_,_,_,_,_,g0 (au.row 65 yO z)]) this
 .exact⟨rfl,rfl⟩
theorem ais:aW aU.gd 23 adn:=
 eG (cx:=aU) (n:=69) (cl:=[(49,D9),(58,xO),(59,adl)]) (rc:=[.hd 56 dQ shR]) aA ⟨tV,EN,air,trivial⟩ Tryz.func23 λd hd=>by
  obtain⟨⟨th,⟨mv,mo,mq,mg,⟨⟩⟩,bf,⟨⟩⟩,⟨⟩⟩:=d;exact aS (ap6 th mv mo mq mg bf) (ant th mv mo mq mg bf hd) (by kernel_rfl)
abbrev ado:CT:={ ps:=[dQ,dQ],pre:=λd=>d.1.2.2.2.2.2.2.2.2.2.1.length<=1000000,res:=λd=>([],vB (mP d.1 d.2.1)) }
theorem anu(id fn pc:Int) (rg:List Int) (st ch ph su fa:Int) (he:List Int) (id2 P6 pc2:Int) (P7:List Int) (st2 Nc MC MF fa2:Int) (he2:List Int) (aH:ado.pre ((id,fn,pc,rg,st,ch,ph,su,fa,he,()),(id2,P6,pc2,P7,st2,Nc,MC,MF,fa2,he2,()),())):
 let z1:=mP (id,fn,pc,rg,st,ch,ph,su,fa,he,()) (id2,P6,pc2,P7,st2,Nc,MC,MF,fa2,he2,());br (!decide (id=id2) || !decide (fn=P6) || !decide (pc=pc2) || !decide (rg=P7) || !decide (st=st2) || !decide (ch=Nc)) (qB z1 false) (((decide (ph=MC) && decide (su=MF) && decide (fa=fa2))=true->he.length<=1000000)/\qB z1 (decide (ph=MC) && decide (su=MF) && decide (fa=fa2) && decide (he=he2))):=by
 conv=>zeta
 have hp:he.length<=1000000:=aH;refine ah.2 ⟨λh=>⟨rfl,?_⟩,λh=>⟨λ_=>hp,wU ?_⟩⟩
 .rw[lK];intro q;simp only[VU]at q;simp[q]at h
 .rw[MZ,nH];simp only[oI,zG,dV]at h;simp only[VU,A8,dV,h,true_and];constructor
  .rintro⟨h1,h2,h3,h4,_⟩;exact⟨⟨⟨h1,h2⟩,h3⟩,h4⟩
  .rintro⟨⟨⟨h1,h2⟩,h3⟩,h4⟩;exact⟨h1,h2,h3,h4,trivial⟩
theorem ait:aW aU.gd 62 ado:=
 eG (cx:=aU) (n:=71) (cl:=[(127,qg)]) (rc:=[]) aA ⟨Ig,trivial⟩ Tryz.func62 λd hd=>by
  obtain⟨⟨id,fn,pc,rg,st,ch,ph,su,fa,he,⟨⟩⟩,⟨id2,P6,pc2,P7,st2,Nc,MC,MF,fa2,he2,⟨⟩⟩,⟨⟩⟩:=d;exact aS (λ_=>none) (anu id fn pc rg st ch ph su fa he id2 P6 pc2 P7 st2 Nc MC MF fa2 he2 hd) (by kernel_rfl)
abbrev adp:CT:={ ps:=[.sl dQ,.sl dQ],pre:=λd=>d.1.length<=1000000/\∀q∈d.1,q.2.2.2.2.2.2.2.2.2.1.length<=1000000,res:=λd=>([],vB (mP d.1 d.2.1)) }
abbrev ap7(l m:List TD):Nat->Option (St->kH):=λk=>match k with
 | 4=>some λ_=>.inv { α:=Nat,slots:=λk=>[(17,.c (.v (.int .i64 k)))],res:=λk=>[],inv:=λk=>k<=(l).length/\∀j < k,l[j]?=m[j]?,meas:=λk=>(l).length - k }
 | _=>none
theorem anv(l m:List TD) (aH:adp.pre (l,m,())):
 let z1:=λ(x:Nat)=>(x<=l.length/\∀(j:Nat),j < x->l[j]?=m[j]?);br (!decide ((l.length:Int)=(m.length:Int))) (qB (mP l m) false) ((∃x,(z1 x)/\(cI 0=cI (x:Int)/\True)/\([]:List fH)=[])/\∀(x:Nat),(z1 x)->br (decide ((x:Int) < (l.length:Int))) ((0<=(x:Int)/\(x:Int) < (l.length:Int))/\∀(d:TD),l[(x:Int).toNat]?=some d->(0<=(x:Int)/\(x:Int) < (m.length:Int))/\∀(dJ:TD),m[(x:Int).toNat]?=some dJ->List.length d.snd.snd.snd.snd.snd.snd.snd.snd.snd.fst<=1000000/\br (!mP d dJ) (qB (mP l m) false) (dX IntKind.i64 ((x:Int)+(1:Int))/\∃x',(z1 x')/\(cI ((x:Int)+(1:Int))=cI (x':Int)/\True)/\([]:List fH)=[]/\l.length - x' < l.length - x)) (qB (mP l m) true)):=by
 conv=>zeta
 delta fH;obtain⟨hp,h6⟩:l.length<=1000000/\∀q∈l,q.2.2.2.2.2.2.2.2.2.1.length<=1000000:=aH;have fF:l≠m->qB (mP l m) false:=λq=>⟨rfl,by rw[lK q]⟩
 refine ah.2 ⟨λh=>fF λq=>?_,λh=>?_⟩
 .subst q;simp at h
 simp only[zG,dV]at h;refine⟨⟨0,⟨by omega,λj hj=>by omega⟩,⟨rfl,trivial⟩,rfl⟩,λk hk=>ah.2 ⟨λg=>?_,λg=>?_⟩⟩
 .simp only[dV]at g;refine⟨⟨by omega,by omega⟩,λd hd=>⟨⟨by omega,by omega⟩,λd1 hd1=>⟨h6 d (iJ hd),ah.2 ⟨λg2=>fF λq=>?_,λg2=>⟨ay.2 (by omega),k+1,⟨by omega,λj hj=>?_⟩,⟨rfl,trivial⟩,rfl,by omega⟩⟩⟩⟩⟩
  .subst q;rw[hd]at hd1;cases hd1;rw[jh rfl]at g2;cases g2
  .by_cases ji:j=k
   .subst ji;have hd:l[j]?=some d:=hd;have hd1:m[j]?=some d1:=hd1;have g2:=nH.1 (show mP d d1=true by simpa using g2)
    rw[hd,hd1,g2]
   .exact hk.2 j (by omega)
 simp only[gG]at g;have e:l=m:=by
  apply Ed;intro j
  by_cases hj:j < k
  .exact hk.2 j hj
  .rw[wY (by omega),wY (by omega)]
 exact⟨rfl,by rw[jh e]⟩
theorem adq:LC Tryz.prog aU.gd 61 [.func (.func 62) #[] #[]] adp:=
 (oP (cx:=aU) (n:=32) (cl:=[(62,ado)]) (il:=Yd) (hl:=hlN) (ml:=mlN) (rc:=[]) (lits:=[]) (suf:=[.func (.func 62) #[] #[]]) (by kernel_rfl) aA ⟨ait,trivial⟩ trivial trivial trivial Tryz.func61 (by kernel_rfl) (by kernel_rfl) rfl (by kernel_rfl) (by kernel_rfl) (by simp) λd hd=>by
  obtain⟨l,m,⟨⟩⟩:=d;exact aS (ap7 l m) (anv l m hd) (by kernel_rfl))
abbrev adr:CT:={ ps:=[.sl XP,.sl XP],pre:=λd=>d.1.length<=1000000,res:=λd=>([],vB (mP d.1 d.2.1)) }
abbrev anw(l m:List (Int×Int×Unit)):Nat->Option (St->kH):=λk=>match k with
 | 4=>some λ_=>.inv { α:=Nat,slots:=λk=>[(13,.c (.v (.int .i64 k)))],res:=λk=>[],inv:=λk=>k<=(l).length/\∀j < k,l[j]?=m[j]?,meas:=λk=>(l).length - k }
 | _=>none
theorem aiu(l m:List (Int×Int×Unit)) (aH:adr.pre (l,m,())):
 let z1:=λ(x:Nat)=>(x<=l.length/\∀(j:Nat),j < x->l[j]?=m[j]?);br (!decide ((l.length:Int)=(m.length:Int))) (qB (mP l m) false) ((∃x,(z1 x)/\(cI 0=cI (x:Int)/\True)/\([]:List fH)=[])/\∀(x:Nat),(z1 x)->br (decide ((x:Int) < (l.length:Int))) ((0<=(x:Int)/\(x:Int) < (l.length:Int))/\∀(d:Int×(I6.pair Sh.unit).den),l[(x:Int).toNat]?=some d->(0<=(x:Int)/\(x:Int) < (m.length:Int))/\∀(dJ:Int×(I6.pair Sh.unit).den),m[(x:Int).toNat]?=some dJ->br (!(true && d.fst == dJ.fst && d.snd.fst == dJ.snd.fst)) (qB (mP l m) false) (dX IntKind.i64 ((x:Int)+(1:Int))/\∃x',(z1 x')/\(cI ((x:Int)+(1:Int))=cI (x':Int)/\True)/\([]:List fH)=[]/\l.length - x' < l.length - x)) (qB (mP l m) true)):=by
 conv=>zeta
 delta fH;have hp:l.length<=1000000:=aH;have fF:l≠m->qB (mP l m) false:=λq=>⟨rfl,by rw[lK q]⟩
 refine ah.2 ⟨λh=>fF λq=>?_,λh=>?_⟩
 .subst q;simp at h
 simp only[zG,dV]at h;refine⟨⟨0,⟨by omega,λj hj=>by omega⟩,⟨rfl,trivial⟩,rfl⟩,λk hk=>ah.2 ⟨λg=>?_,λg=>?_⟩⟩
 .simp only[dV]at g;refine⟨⟨by omega,by omega⟩,λd hd=>⟨⟨by omega,by omega⟩,λd1 hd1=>ah.2 ⟨λg2=>fF λq=>?_,λg2=>⟨ay.2 (by omega),k+1,⟨by omega,λj hj=>?_⟩,⟨rfl,trivial⟩,rfl,by omega⟩⟩⟩⟩
  .subst q;rw[hd]at hd1;cases hd1;simp at g2
  .by_cases ji:j=k
   .subst ji;have hd:l[j]?=some d:=hd;have hd1:m[j]?=some d1:=hd1;have g2:d=d1:=by
     obtain⟨x,y,⟨⟩⟩:=d;obtain⟨x1,y1,⟨⟩⟩:=d1;simpa using g2
    rw[hd,hd1,g2]
   .exact hk.2 j (by omega)
 simp only[gG]at g;have e:l=m:=by
  apply Ed;intro j
  by_cases hj:j < k
  .exact hk.2 j hj
  .rw[wY (by omega),wY (by omega)]
 exact⟨rfl,by rw[jh e]⟩
theorem ads:aW aU.gd 130 adr:=
 eG (cx:=aU) (n:=26) (cl:=[]) (rc:=[]) aA trivial Tryz.func130 λd hd=>by
  obtain⟨l,m,⟨⟩⟩:=d;exact aS (anw l m) (aiu l m hd) (by kernel_rfl)
abbrev J7:CT:={ ps:=[yO,yO],pre:=λd=>d.1.2.2.1.length<=1000000,res:=λd=>([],vB (mP d.1 d.2.1)) }
theorem anx(b1 b2:Int) (bl:List (Int×Int×Unit)) (c1 c2:Int) (cl:List (Int×Int×Unit)) (aH:J7.pre ((b1,b2,bl,()),(c1,c2,cl,()),())):
 ((decide (b1=c1) && decide (b2=c2))=true->bl.length<=1000000)/\qB (mP (b1,b2,bl,()) (c1,c2,cl,())) (decide (b1=c1) && decide (b2=c2) && mP bl cl):=by
 have hp:bl.length<=1000000:=aH;refine⟨λ_=>hp,wU ?_⟩
 rw[MZ,nH];simp only[VU,A8,dV,nH];constructor
 .rintro⟨h1,h2,h3,_⟩;exact⟨⟨h1,h2⟩,h3⟩
 .rintro⟨⟨h1,h2⟩,h3⟩;exact⟨h1,h2,h3,trivial⟩
theorem aiv:aW aU.gd 64 J7:=
 eG (cx:=aU) (n:=24) (cl:=[(130,adr)]) (rc:=[]) aA ⟨ads,trivial⟩ Tryz.func64 λd hd=>by
  obtain⟨⟨b1,b2,bl,⟨⟩⟩,⟨c1,c2,cl,⟨⟩⟩,⟨⟩⟩:=d;exact aS (λ_=>none) (anx b1 b2 bl c1 c2 cl hd) (by kernel_rfl)
abbrev adt:CT:={ ps:=[.sl yO,.sl yO],pre:=λd=>uT d.1,res:=λd=>([],vB (mP d.1 d.2.1)) }
abbrev ap8(l m:List BD):Nat->Option (St->kH):=λk=>match k with
 | 4=>some λ_=>.inv { α:=Nat,slots:=λk=>[(17,.c (.v (.int .i64 k)))],res:=λk=>[],inv:=λk=>k<=(l).length/\∀j < k,l[j]?=m[j]?,meas:=λk=>(l).length - k }
 | _=>none
theorem anz(l m:List BD) (aH:adt.pre (l,m,())):
 let z1:=λ(x:Nat)=>(x<=l.length/\∀(j:Nat),j < x->l[j]?=m[j]?);br (!decide ((l.length:Int)=(m.length:Int))) (qB (mP l m) false) ((∃x,(z1 x)/\(cI 0=cI (x:Int)/\True)/\([]:List fH)=[])/\∀(x:Nat),(z1 x)->br (decide ((x:Int) < (l.length:Int))) ((0<=(x:Int)/\(x:Int) < (l.length:Int))/\∀(d:BD),l[(x:Int).toNat]?=some d->(0<=(x:Int)/\(x:Int) < (m.length:Int))/\∀(dJ:BD),m[(x:Int).toNat]?=some dJ->List.length d.snd.snd.fst<=1000000/\br (!mP d dJ) (qB (mP l m) false) (dX IntKind.i64 ((x:Int)+(1:Int))/\∃x',(z1 x')/\(cI ((x:Int)+(1:Int))=cI (x':Int)/\True)/\([]:List fH)=[]/\l.length - x' < l.length - x)) (qB (mP l m) true)):=by
 conv=>zeta
 delta fH;obtain⟨hp,h6⟩:l.length<=1000000/\∀q∈l,q.2.2.1.length<=1000000:=aH;have fF:l≠m->qB (mP l m) false:=λq=>⟨rfl,by rw[lK q]⟩
 refine ah.2 ⟨λh=>fF λq=>?_,λh=>?_⟩
 .subst q;simp at h
 simp only[zG,dV]at h;refine⟨⟨0,⟨by omega,λj hj=>by omega⟩,⟨rfl,trivial⟩,rfl⟩,λk hk=>ah.2 ⟨λg=>?_,λg=>?_⟩⟩
 .simp only[dV]at g;refine⟨⟨by omega,by omega⟩,λd hd=>⟨⟨by omega,by omega⟩,λd1 hd1=>⟨h6 d (iJ hd),ah.2 ⟨λg2=>fF λq=>?_,λg2=>⟨ay.2 (by omega),k+1,⟨by omega,λj hj=>?_⟩,⟨rfl,trivial⟩,rfl,by omega⟩⟩⟩⟩⟩
  .subst q;rw[hd]at hd1;cases hd1;rw[jh rfl]at g2;cases g2
  .by_cases ji:j=k
   .subst ji;have hd:l[j]?=some d:=hd;have hd1:m[j]?=some d1:=hd1;have g2:=nH.1 (show mP d d1=true by simpa using g2)
    rw[hd,hd1,g2]
   .exact hk.2 j (by omega)
 simp only[gG]at g;have e:l=m:=by
  apply Ed;intro j
  by_cases hj:j < k
  .exact hk.2 j hj
  .rw[wY (by omega),wY (by omega)]
 exact⟨rfl,by rw[jh e]⟩
theorem adu:LC Tryz.prog aU.gd 63 [.func (.func 64) #[] #[]] adt:=
 (oP (cx:=aU) (n:=32) (cl:=[(64,J7)]) (il:=Yd) (hl:=hlN) (ml:=mlN) (rc:=[]) (lits:=[]) (suf:=[.func (.func 64) #[] #[]]) (by kernel_rfl) aA ⟨aiv,trivial⟩ trivial trivial trivial Tryz.func63 (by kernel_rfl) (by kernel_rfl) rfl (by kernel_rfl) (by kernel_rfl) (by simp) λd hd=>by
  obtain⟨l,m,⟨⟩⟩:=d;exact aS (ap8 l m) (anz l m hd) (by kernel_rfl))
abbrev J8:CT:={ ps:=[Vb,Vb],pre:=λd=>Py d.1,res:=λd=>([],vB (mP d.1 d.2.1)) }
abbrev arR:List (Nat×Nat×CT):=[(61,62,adp),(63,64,adt)]
theorem anA(th:List TD) (mv mo:List Int) (mq:List (List Int)) (mg:List Int) (bf:List BD) (Eo:List TD) (mv2 PE:List Int) (PG:List (List Int)) (PI:List Int) (EZ:List BD) (aH:J8.pre ((th,(mv,mo,mq,mg,()),bf,()),(Eo,(mv2,PE,PG,PI,()),EZ,()),())):
 let z2:=(mv,mo,mq,mg,());let z1:=z2=(mv2,PE,PG,PI,());bK z2/\(decide z1=true->th.length<=1000000/\∀(q:TD),q∈th->List.length q.snd.snd.snd.snd.snd.snd.snd.snd.snd.fst<=1000000)/\((decide z1 && mP th Eo)=true->uT bf)/\qB (mP (th,z2,bf,()) (Eo,(mv2,PE,PG,PI,()),EZ,())) (decide z1 && mP th Eo && mP bf EZ):=by
 conv=>zeta
 obtain⟨⟨hl,hT⟩,hM,hB⟩:iI th/\bK (mv,mo,mq,mg,())/\uT bf:=aH;refine⟨hM,λ_=>⟨hl,λq hq=>(hT q hq).1⟩,λ_=>hB,wU ?_⟩
 rw[MZ,nH];simp only[A8,dV,nH];constructor
 .intro h;have h:=Prod.mk.inj h;have h2:=Prod.mk.inj h.2;have h3:=Prod.mk.inj h2.2;exact⟨⟨h2.1,h.1⟩,h3.1⟩
 .rintro⟨⟨h1,h2⟩,h3⟩;rw[h1,h2,h3]
theorem aiw:aW aU.gd 24 J8:=
 (oP (cx:=aU) (n:=24) (cl:=[(60,Dq)]) (il:=Yd) (hl:=arR) (ml:=mlN) (rc:=[]) (lits:=[]) (suf:=[]) (by kernel_rfl) aA ⟨aia,trivial⟩ trivial ⟨adq,adu,trivial⟩ trivial Tryz.func24 (by kernel_rfl) (by kernel_rfl) rfl (by kernel_rfl) (by kernel_rfl) (by simp) λd hd=>by
  obtain⟨⟨th,⟨mv,mo,mq,mg,⟨⟩⟩,bf,⟨⟩⟩,⟨Eo,⟨mv2,PE,PG,PI,⟨⟩⟩,EZ,⟨⟩⟩,⟨⟩⟩:=d;exact aS (λ_=>none) (anA th mv mo mq mg bf Eo mv2 PE PG PI EZ hd) (by kernel_rfl)).met
def oq(m:MD):Bool:=decide (m.1.length<=20) && decide (m.2.1.length<=20) && decide (m.2.2.1.length<=20) && decide (m.2.2.2.1.length<=60) && m.2.2.1.all (λq=>decide (q.length<=60))
theorem xY(h:oq m=true):bK m:=by
 obtain⟨vs,os,qs,sg,⟨⟩⟩:=m;unfold oq at h;simp only[A8,Ti,dV]at h;obtain⟨⟨⟨⟨h1,h2⟩,h3⟩,h4⟩,h5⟩:=h;refine⟨by show vs.length<=1000;omega,by show os.length<=1000;omega,by show qs.length<=1000;omega,by show sg.length<=1000;omega,λq hq=>by have:=h5 q hq;omega,?_⟩
 have key:∀l:List (List Int),(∀q∈l,q.length<=60)->l.flatten.length<=60 * l.length:=by
  intro l
  induction l with
  | nil=>intro _;simp
  | cons a l ih=>
    intro hl;have:=ih λq hq=>hl q (by simp[hq])
    have:=hl a (by simp)
    simp only[Qj,kZ,yP];omega
 have:=key qs h5;show qs.flatten.length<=100000;omega
theorem PK:∀(qs:List (List Int)) (k:Nat) (d:List Int) (x:Int),qs[k]?=some d->((qs.set k (d++[x])).flatten).Perm (x :: qs.flatten)
 | [],k,d,x,h=>by simp at h
 | q :: qs,0,d,x,h=>by
   simp only[VW,Yo]at h;subst h;simp only[Yw,Qj,DJ,ajZ];exact List.perm_middle
 | q :: qs,k+1,d,x,h=>by
   rw[aeM]at h;have ih:=PK qs k d x h;simp only[aj2,Qj];exact(ih.append_left q).trans List.perm_middle
theorem J9:kM m id=true↔id∈m.2.2.2.1++m.2.2.1.flatten:=by
 unfold kM;rw[Ee,A95,jC,Et,List.mem_flatten];constructor
 .rintro(⟨q,h1,h2⟩ | h)
  .exact .inr ⟨q,h1,jC.1 h2⟩
  .exact .inl h
 .rintro(h | ⟨q,h1,h2⟩)
  .exact .inr h
  .exact .inl ⟨q,h1,jC.2 h2⟩
theorem adv(hB:dO (vs,os,qs,sg,())=true){d:List Int} (hk:qs[k]?=some d) (h0:0<=id):
 dO (vs,os,qs.set k (d++[id]),sg,()) = !kM (vs,os,qs,sg,()) id:=by
 obtain⟨q1,q2,q3,q4,q5,q6,q7,q8⟩:vs.length<=8/\os.length<=4/\qs.length<=4/\SS sg/\(∀v∈vs,dh v=true)/\(∀o∈os,-1<=o)/\(∀x∈sg++qs.flatten,0<=x)/\(sg++qs.flatten).Nodup:=dU.1 hB;have hp:(sg++(qs.set k (d++[id])).flatten).Perm (id :: (sg++qs.flatten)):=((PK qs k d id hk).append_left sg).trans List.perm_middle;rw[MZ,dU,Kq,A87];constructor
 .intro h w;obtain⟨_,_,_,_,_,_,_,p8⟩:vs.length<=8/\os.length<=4/\(qs.set k (d++[id])).length<=4/\SS sg/\(∀v∈vs,dh v=true)/\(∀o∈os,-1<=o)/\(∀x∈sg++(qs.set k (d++[id])).flatten,0<=x)/\(sg++(qs.set k (d++[id])).flatten).Nodup:=h;exact(VY.1 (hp.nodup_iff.1 p8)).1 (J9.1 w)
 .intro w;refine(⟨q1,q2,by rw[yg];exact q3,q4,q5,q6,λx hx=>?_,hp.nodup_iff.2 (VY.2 ⟨λhm=>w (J9.2 hm),q8⟩)⟩:Ph (vs,os,qs.set k (d++[id]),sg,()))
  rcases mM.1 (hp.mem_iff.1 hx) with rfl | hx
  .exact h0
  .exact q7 x hx
theorem wV(h:oq (vs,os,qs,sg,())=true):vs.length<=20/\os.length<=20/\qs.length<=20/\sg.length<=60/\∀q∈qs,q.length<=60:=by
 unfold oq at h;simp only[A8,Ti,dV]at h;obtain⟨⟨⟨⟨h1,h2⟩,h3⟩,h4⟩,h5⟩:=h;exact⟨h1,h2,h3,h4,h5⟩
theorem adw(h1:vs.length<=20) (h2:os.length<=20) (h3:qs.length<=20) (h4:sg.length<=200) (h5:∀q∈qs,q.length<=61):bK (vs,os,qs,sg,()):=by
 have key:∀l:List (List Int),(∀q∈l,q.length<=61)->l.flatten.length<=61 * l.length:=by
  intro l
  induction l with
  | nil=>intro _;simp
  | cons a l ih=>
    intro hl;have:=ih λq hq=>hl q (by simp[hq])
    have:=hl a (by simp)
    simp only[Qj,kZ,yP];omega
 have h6:=key qs h5;exact⟨by show vs.length<=1000;omega,by show os.length<=1000;omega,by show qs.length<=1000;omega,by show sg.length<=1000;omega,λq hq=>by have:=h5 q hq;omega,by show qs.flatten.length<=100000;omega⟩
theorem Vp{s:List Int} (h:oq (vs,os,qs,sg,())=true){q:List Int} (hq:q.length<=61) (hs:s.length<=200):bK (vs,os,qs.set k q,s,()):=by
 obtain⟨h1,h2,h3,h4,h5⟩:=wV h;refine adw h1 h2 (by rw[yg];exact h3) hs λx hx=>?_
 rcases Ko hx with hx | rfl
 .have:=h5 x hx;omega
 .exact hq
theorem adx(h:oq (vs,os,qs,sg,())=true) (k:Nat):(qs[k]?.getD []).length<=60:=by
 cases hk:qs[k]? with
 | none=>simp
 | some d=>exact(wV h).2.2.2.2 d (iJ hk)
theorem Ij:bK zM:=⟨by decide,by decide,by decide,by decide,by decide,by decide⟩
theorem aix{c:Int} (h:oq m=true):bK (tY m c id).1:=by
 obtain⟨vs,os,qs,sg,⟨⟩⟩:=m;have h4:=(wV h).2.2.2.1;have ha:=adx h c.toNat;unfold tY;split
 .split
  .exact Ij
  .split
   .exact Ij
   .exact Vp h (by simp only[kZ,yP,Qh];omega) (by omega)
 .exact Ij
theorem anB{c n:Int} (h:oq m=true):bK (uh m c n).1:=by
 obtain⟨vs,os,qs,sg,⟨⟩⟩:=m;have h4:=(wV h).2.2.2.1;have ha:=adx h c.toNat;unfold uh;split
 .refine Vp h (by dsimp only;rw[zH];omega) ?_
  refine qY (Dt _ _) ?_;dsimp only;rw[mD];omega
 .exact Ij
theorem ady(h:oq m=true):bK (lH m id).1:=by
 obtain⟨vs,os,qs,sg,⟨⟩⟩:=m;obtain⟨h1,h2,h3,h4,h5⟩:=wV h;unfold lH;split
 .exact Ij
 .split
  .exact Ij
  .refine adw h1 h2 h3 ?_ λq hq=>by have:=h5 q hq;omega
   refine qY (Yu _ _) (qY (EU sg []) ?_);simp;omega
end
end Go.Proofs.YtjhenjhcbcalpaaGreatDoor
