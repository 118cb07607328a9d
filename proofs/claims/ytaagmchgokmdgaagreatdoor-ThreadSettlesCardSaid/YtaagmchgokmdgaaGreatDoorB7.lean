/- Part 7 of the proof. Conditions: the rows'. -/
import Derived.Test.YtaagmchgokmdgaaGreatDoorB6
set_option linter.unusedSimpArgs false
set_option linter.unusedVariables false
set_option maxRecDepth 1000000
set_option maxHeartbeats 8000000
namespace Go.Proofs.YtaagmchgokmdgaaGreatDoor
open Go Go.lM
noncomputable section
variable {l rg:List Int}{vs:List VD}{ms cs:List ByteArray}{fs:List FD}{ts:List SD}{k:Nat}{m y id pc bound:Int}{i:ID}
abbrev bnd(d:bW [qN]):Prop:=d.1.1.length<=1000000/\d.1.2.1.length<=1000000/\d.1.2.2.1.length<=1000000/\d.1.2.2.2.1.length<=1000000/\d.1.2.2.2.2.1.length<=1000000/\(∀x∈d.1.2.2.2.1,x.2.1.length<=1000000)/\(dF d.1.2.2.2.1).length<=1000000
def bG(vs:List VD) (ms cs:List ByteArray) (fs:List FD) (ts:List SD):Int×Int×Int:=
 if(y7 vs ms cs fs).1≠0 then y7 vs ms cs fs else if yR vs ms cs fs≠0 then(yR vs ms cs fs,-1,-1) else if(BO vs ms cs fs).1≠0 then BO vs ms cs fs else if CG fs ts≠0 then(CG fs ts,-1,-1) else(0,-1,-1)
abbrev Va:CT:={ ps:=[qN],pre:=λd=>bnd d,res:=λd=>([],.iQ [.c (.v (.int .i64 (bG d.1.1 d.1.2.1 d.1.2.2.1 d.1.2.2.2.1 d.1.2.2.2.2.1).1)),.c (.v (.int .i64 (bG d.1.1 d.1.2.1 d.1.2.2.1 d.1.2.2.2.1 d.1.2.2.2.2.1).2.1)),.c (.v (.int .i64 (bG d.1.1 d.1.2.1 d.1.2.2.1 d.1.2.2.2.1 d.1.2.2.2.2.1).2.2))]) }
theorem adQ(vs:List VD) (ms cs:List ByteArray) (fs:List FD) (ts:List SD) (aS:Va.pre ((vs,ms,cs,fs,ts,()),())):
 let z10:=y7 vs ms cs fs;let z7:=z10.fst=0;let z5:=decide z7;let z6:=decide (yR vs ms cs fs=0);let z11:=BO vs ms cs fs;let z8:=z11.fst=0;let z9:=bG vs ms cs fs ts;let z4:=[cI (z9.fst),cI (z9.snd.fst),cI (z9.snd.snd)];let z3:=rT z4 [cI 0,cI (-1),cI (-1)];let z2:=True/\br (!decide (CG fs ts=0)) (rT z4 [cI (CG fs ts),cI (-1),cI (-1)]) z3;let z1:=(fs.length<=1000000/\∀(x:ByteArray×(kC.sl.pair Sh.unit).den),x∈fs->List.length x.snd.fst<=1000000)/\br (decide z8) z2 (br (!decide z8) (rT z4 [cI (z11.fst),cI (z11.snd.fst),cI (z11.snd.snd)]) z3);(vs.length<=1000000/\ms.length<=1000000/\cs.length<=1000000/\fs.length<=1000000)/\br z5 (True/\br z6 z1 (br z6 z2 (br (!decide (yR vs ms cs fs=0)) (rT z4 [cI (yR vs ms cs fs),cI (-1),cI (-1)]) z3))) (br z5 z1 (br z5 z2 (br (!decide z7) (rT z4 [cI (z10.fst),cI (z10.snd.fst),cI (z10.snd.snd)]) z3))):=by
 conv=>zeta
 delta cI rT I6;obtain⟨h1,h2,h3,h4,h5,h6,h7⟩:bnd ((vs,ms,cs,fs,ts,()),()):=aS;have hA:∀x∈fs,x.2.1.length<=1000000:=h6;have hB:fs.length<=1000000/\∀x∈fs,x.2.1.length<=1000000:=⟨h4,h6⟩;have hC:vs.length<=1000000/\ms.length<=1000000/\cs.length<=1000000/\fs.length<=1000000:=⟨h1,h2,h3,h4⟩;clear h1 h2 h3 h4 h5 h6 h7 hA;unfold bG;simp only[ak]
 repeat' (first | exact hB | exact hC | (refine And.intro ?_ ?_) | (intro _))
 all_goals first | trivial | rfl | (clear hB hC;simp_all;done)
theorem Y3:bJ bM.gd 29 Va:=
 jA (cx:=bM) (n:=40) (cl:=[(51,adI),(52,agz),(53,adO),(54,agB)]) aF ⟨YX,YZ,Y2,Y0,trivial⟩ Tryz.func29 λd hd=>by
  obtain⟨⟨vs,ms,cs,fs,ts,⟨⟩⟩,⟨⟩⟩:=d;exact⟨λ_=>none,cast (by kernel_rfl) (adQ vs ms cs fs ts hd)⟩
theorem Vb{hi:Int}:∀(l:List Int) (lo:Int),SS l->(∀x∈l,lo<=x/\x < hi)->lo<=hi->(l.length:Int)<=hi - lo
 | [],lo,_,_,h=>by simp;omega
 | x :: l,lo,hs,hb,h=>by
   obtain⟨h1,h2⟩:=ZW.1 hs;obtain⟨b1,b2⟩:=hb x (by simp)
   have:=Vb l (x+1) h2 (λy hy=>⟨by have:=h1 y hy;omega,(hb y (by simp[hy])).2⟩) (by omega)
   simp only[zI];omega
theorem Vd{n:Nat} (hs:SS l) (hb:∀x∈l,0<=x/\x < (n:Int)):l.length<=n:=by
 have:=Vb l 0 hs hb (by omega)
 omega
theorem xu(h:(bG vs ms cs fs ts).1=0):yR vs ms cs fs=0/\(BO vs ms cs fs).1=0/\CG fs ts=0:=by
 unfold bG at h;split at h
 .rename_i h1;exact absurd h h1
 .split at h
  .rename_i h1;exact absurd h h1
  .split at h
   .rename_i h1;exact absurd h h1
   .split at h
    .rename_i h1;exact absurd h h1
    .rename_i h1 h2 h3 h4;exact⟨by omega,by omega,by omega⟩
theorem adR(h:(BO vs ms cs fs).1=0):∀d∈dF fs,F6 vs ms cs fs d=0:=by
 unfold BO at h;split at h
 .rename_i d hd;have hp:=List.find?_some hd;split at h
  .cases h
  .rename_i h1;simp only[uM,iE]at hp;rcases hp with hp | hp
   .exact absurd hp h1
   .exact absurd h hp
 .rename_i hd;intro d hm;have:=WB.1 hd d hm;simp only[uM,iE,not_or]at this;omega
theorem cO{α:Type 1}{Q:α->Prop}{V:Prop} (a:α) (v:V) (h:V=Q a):∃a,Q a:=⟨a,cast h v⟩
def Jf(vs:List VD) (ms cs:List ByteArray) (fs:List FD) (ts:List SD):Bool:=decide (vs.length<=20/\ms.length<=20/\cs.length<=20/\fs.length<=20/\ts.length<=20) && fs.all λf=>decide (f.2.1.length<=100)
abbrev agF:CT:={ ps:=[qN],pre:=λd=>True,res:=λd=>([],vB (Jf d.1.1 d.1.2.1 d.1.2.2.1 d.1.2.2.2.1 d.1.2.2.2.2.1)) }
abbrev aiw(vs:List VD) (ms cs:List ByteArray) (fs:List FD) (ts:List SD):Nat->Option (St->mO):=λk=>match k with
 | 4=>some λ_=>.inv { α:=Nat,slots:=λk=>[(3,.c (.v (.int .i64 k)))],res:=λk=>[],inv:=λk=>k<=(fs).length/\∀j < k,∀f,fs[j]?=some f->f.2.1.length<=100,meas:=λk=>(fs).length - k }
 | _=>none
theorem agG(vs:List VD) (ms cs:List ByteArray) (fs:List FD) (ts:List SD):
 let z3:=qB (Jf vs ms cs fs ts) false;let z1:=λ(x:Nat)=>(x<=fs.length/\∀(j:Nat),j < x->∀(f:ByteArray×List ID×Unit),fs[j]?=some f->f.snd.fst.length<=100);let z2:=[g0 (aC.blk 27 [SC.sl Ea vs,SC.sl Sh.str ms,SC.sl Sh.str cs,SC.sl BM fs,SC.sl kV ts])];br (decide (20 < (vs.length:Int)) || decide (20 < (ms.length:Int)) || decide (20 < (cs.length:Int)) || decide (20 < (fs.length:Int)) || decide (20 < (ts.length:Int))) z3 ((∃x,(z1 x)/\(cI 0=cI (x:Int)/\True)/\sm z2)/\∀(x:Nat),(z1 x)->br (decide ((x:Int) < (fs.length:Int))) ((0<=(x:Int)/\(x:Int) < (fs.length:Int))/\∀(d:ByteArray×(kC.sl.pair Sh.unit).den),fs[(x:Int).toNat]?=some d->br (decide (100 < ((List.length d.snd.fst):Int))) z3 (iR ((x:Int)+(1:Int))/\∃x',(z1 x')/\(cI ((x:Int)+(1:Int))=cI (x':Int)/\True)/\sm z2/\fs.length - x' < fs.length - x)) (qB (Jf vs ms cs fs ts) true)):=by
 conv=>zeta
 delta cI g0 qB sm I6 iR
 by_cases hc:¬(vs.length<=20/\ms.length<=20/\cs.length<=20/\fs.length<=20/\ts.length<=20)
 .have e:Jf vs ms cs fs ts=false:=by unfold Jf;rw[Ep hc];rfl
  rw[e];refine ak.2 ⟨λ_=>⟨rfl,rfl⟩,λh=>?_⟩
  simp only[pz,iZ]at h;omega
 have hc:=OM.1 hc;refine ak.2 ⟨λh=>?_,λ_=>?_⟩
 .simp only[uM,iE]at h;omega
 refine⟨⟨0,⟨by omega,λj hj=>by omega⟩,⟨rfl,trivial⟩,rfl⟩,λk hk=>ak.2 ⟨λh=>?_,λh=>?_⟩⟩
 .simp only[iE]at h;have hN:(k:Int).toNat=k:=by omega
  rw[hN];refine⟨by omega,λd hd=>ak.2 ⟨λh2=>⟨rfl,?_⟩,λh2=>⟨aA.2 (by omega),k+1,⟨by omega,λj hj f hf=>?_⟩,⟨rfl,trivial⟩,rfl,by omega⟩⟩⟩
  .have h2:¬d.2.1.length<=100:=by simp only[iE]at h2;omega
   have e:Jf vs ms cs fs ts=false:=by
    unfold Jf;rw[show(fs.all λf=>decide (f.2.1.length<=100))=false from List.all_eq_false.2 ⟨d,kT hd,by simpa using h2⟩,Bool.and_false]
   rw[e]
  .by_cases ku:j=k
   .subst ku;rw[hd]at hf;cases hf;simp only[iZ]at h2;omega
   .exact hk.2 j (by omega) f hf
 .simp only[iZ]at h;have e:Jf vs ms cs fs ts=true:=by
   unfold Jf;rw[Wx hc,GH,LM];intro f hf;obtain⟨j,hj⟩:=Ja hf;simpa using hk.2 j (by have:=(eU.1 hj).1;omega) f hj
  rw[e];exact⟨rfl,rfl⟩
theorem adS:bJ bM.gd 9 agF:=
 jA (cx:=bM) (n:=47) (cl:=[]) aF trivial Tryz.func9 λd hd=>by
  obtain⟨⟨vs,ms,cs,fs,ts,⟨⟩⟩,⟨⟩⟩:=d;exact cO (aiw vs ms cs fs ts) (agG vs ms cs fs ts) (by kernel_rfl)
abbrev aay:CT:={ ps:=[qN],pre:=λd=>True,res:=λd=>([],.one (.c (.v (.int .i64 (CG d.1.2.2.2.1 d.1.2.2.2.2.1))))) }
abbrev agH(vs:List VD) (ms cs:List ByteArray) (fs:List FD) (ts:List SD):Nat->Option (St->mO):=λk=>match k with
 | 4=>some λ_=>.inv { α:=Nat,slots:=λk=>[(3,.c (.v (.int .i64 k)))],res:=λk=>[],inv:=λk=>k<=(ts).length/\∀j < k,∀t,ts[j]?=some t->Ee fs.length t=0,meas:=λk=>(ts).length - k }
 | _=>none
theorem adT(vs:List VD) (ms cs:List ByteArray) (fs:List FD) (ts:List SD):
 let z1:=λ(x:Nat)=>(x<=ts.length/\∀(j:Nat),j < x->∀(t:Int×Int×Unit),ts[j]?=some t->Ee fs.length t=0);let z2:=[g0 (aC.blk 27 [SC.sl Ea vs,SC.sl Sh.str ms,SC.sl Sh.str cs,SC.sl BM fs,SC.sl kV ts])];let z3:=λ(x:Nat)=>0<=(x:Int)/\(x:Int) < (ts.length:Int);br (decide ((ts.length:Int) < (1:Int)) || decide (8 < (ts.length:Int))) (qI (CG fs ts) (4:Int)) ((∃x,(z1 x)/\(cI 0=cI (x:Int)/\True)/\sm z2)/\∀(x:Nat),(z1 x)->br (decide ((x:Int) < (ts.length:Int))) ((z3 x)/\∀(d:Int×(I6.pair Sh.unit).den),ts[(x:Int).toNat]?=some d->((!decide (d.fst < 0))=true->0<=(x:Int)/\(x:Int) < (ts.length:Int))/\∀(iC:Int×(I6.pair Sh.unit).den),((!decide (d.fst < 0))=true->ts[(x:Int).toNat]?=some iC)->br (decide (d.fst < 0) || decide ((fs.length:Int)<=iC.fst)) (qI (CG fs ts) (11:Int)) ((z3 x)/\∀(d:Int×(I6.pair Sh.unit).den),ts[(x:Int).toNat]?=some d->True/\br (!dJ (d.snd.fst,()).fst) (qI (CG fs ts) (2:Int)) (iR ((x:Int)+(1:Int))/\∃x',(z1 x')/\(cI ((x:Int)+(1:Int))=cI (x':Int)/\True)/\sm z2/\ts.length - x' < ts.length - x))) (qI (CG fs ts) (0:Int))):=by
 conv=>zeta
 delta cI g0 qI sm I6 iR
 by_cases hc:ts.length < 1\/8 < ts.length
 .have e:CG fs ts=4:=by unfold CG;rw[if_pos hc]
  rw[e];refine ak.2 ⟨λ_=>⟨rfl,rfl⟩,λh=>?_⟩
  simp only[pz,iZ]at h;omega
 refine ak.2 ⟨λh=>?_,λh=>⟨⟨0,⟨by omega,λj hj=>by omega⟩,⟨rfl,trivial⟩,rfl⟩,λk hk=>ak.2 ⟨λh2=>?_,λh2=>?_⟩⟩⟩
 .simp only[uM,iE]at h;omega
 .simp only[iE]at h2;have hN:(k:Int).toNat=k:=by omega
  rw[hN];refine⟨by omega,λd hd=>⟨λ_=>by omega,λd1 hd1=>ak.2 ⟨λh3=>⟨rfl,?_⟩,λh3=>⟨by omega,λd2 hd2=>⟨trivial,ak.2 ⟨λh4=>⟨rfl,?_⟩,λh4=>⟨aA.2 (by omega),k+1,⟨by omega,λj hj v hv=>?_⟩,⟨rfl,trivial⟩,rfl,by omega⟩⟩⟩⟩⟩⟩⟩
  .have h3:d.1 < 0\/(fs.length:Int)<=d.1:=by
    by_cases hn:d.1 < 0
    .exact .inl hn
    .have:=hd1 (by simp[hn])
     rw[hd]at this;cases this;exact by simpa using h3
   have e:Ee fs.length d=11:=by unfold Ee;rw[if_pos h3]
   rw[xq hc hd (by rw[e];simp) hk.2,e]
  all_goals
   rw[hd]at hd2;cases hd2;have h3:¬(d.1 < 0\/(fs.length:Int)<=d.1):=by
    simp only[pz,iZ]at h3;have:=hd1 (by rw[Ep h3.1];rfl)
    rw[hd]at this;cases this;exact λq=>q.elim (λq=>h3.1 q) (λq=>h3.2 q)
  .have h4:dJ d.2.1=false:=by simpa using h4
   have e:Ee fs.length d=2:=by unfold Ee;rw[if_neg h3,if_neg (by rw[h4];simp)]
   rw[xq hc hd (by rw[e];simp) hk.2,e]
  .have h4:dJ d.2.1=true:=by simpa using h4
   by_cases ku:j=k
   .subst ku;rw[hd]at hv;cases hv;unfold Ee;rw[if_neg h3,if_pos h4]
   .exact hk.2 j (by omega) v hv
 .simp only[iZ]at h2;rw[Oc hc λj t hj=>hk.2 j (by have:=(eU.1 hj).1;omega) t hj];exact⟨rfl,rfl⟩
theorem Y4:bJ bM.gd 61 aay:=
 jA (cx:=bM) (n:=48) (cl:=[(59,KJ)]) aF ⟨Oa,trivial⟩ Tryz.func61 λd hd=>by
  obtain⟨⟨vs,ms,cs,fs,ts,⟨⟩⟩,⟨⟩⟩:=d;exact cO (agH vs ms cs fs ts) (adT vs ms cs fs ts) (by kernel_rfl)
def exS(vs:List VD) (ms cs:List ByteArray) (fs:List FD) (op obj n:Int):Bool:=!decide (0<=sJ vs ms cs fs op/\(obj < 0\/sJ vs ms cs fs op<=obj)) && !decide (op=18/\(n < 0\/(ms.length:Int)<=n))
abbrev aaz:CT:={ ps:=[qN,kC],pre:=λd=>True,res:=λd=>([],vB (exS d.1.1 d.1.2.1 d.1.2.2.1 d.1.2.2.2.1 d.2.1.1 d.2.1.2.2.2.2.1 d.2.1.2.2.2.2.2.1)) }
theorem adU(vs:List VD) (ms cs:List ByteArray) (fs:List FD) (ts:List SD) (op a b c obj n fn ord:Int):
 let z7:=exS vs ms cs fs op obj n;let z4:=qB z7 (decide (0<=obj) && decide (obj < (vs.length:Int)));let z5:=qB z7 (decide (0<=obj) && decide (obj < (ms.length:Int)));let z6:=qB z7 (decide (0<=obj) && decide (obj < (cs.length:Int)));let z3:=br (decide (op=21)) (qB z7 (decide (0<=obj) && decide (obj < (fs.length:Int)))) (qB z7 true);let z2:=br (decide (op=18)) (br (decide (n < 0) || decide ((ms.length:Int)<=n)) (qB z7 false) z6) (br (decide (op=19)) (br (decide (op=19)) z6 z3) (br (decide (op=20)) z6 z3));let z1:=br (decide (op=15)) (br (decide (op=15)) z5 z2) (br (decide (op=16)) (br (decide (op=16)) z5 z2) (br (decide (op=17)) z5 z2));br (decide (op=8)) (br (decide (op=8)) z4 z1) (br (decide (op=9)) (br (decide (op=9)) z4 z1) (br (decide (op=10)) (br (decide (op=10)) z4 z1) (br (decide (op=11)) (br (decide (op=11)) z4 z1) (br (decide (op=12)) (br (decide (op=12)) z4 z1) (br (decide (op=14)) z4 z1))))):=by
 conv=>zeta
 delta qB;simp only[ak]
 repeat' (first | (refine And.intro ?_ ?_) | (intro _))
 all_goals first | rfl | (simp_all[exS,sJ];done) | (simp_all[exS,sJ];omega) | (simp_all[exS,sJ];rw[Jb];simp<;>omega)
theorem Y5:bJ bM.gd 81 aaz:=
 jA (cx:=bM) (n:=61) (cl:=[]) aF trivial Tryz.func81 λd hd=>by
  obtain⟨⟨vs,ms,cs,fs,ts,⟨⟩⟩,⟨op,a,b,c,obj,n,fn,ord,⟨⟩⟩,⟨⟩⟩:=d;exact cO (λ_=>none) (adU vs ms cs fs ts op a b c obj n fn ord) (by kernel_rfl)
abbrev aaA:CT:={ ps:=[.str],pre:=λd=>True,res:=λd=>([],vB (dh d.1)) }
abbrev agI(s:ByteArray):Nat->Option (St->mO):=λk=>match k with
 | 4=>some λ_=>.inv { α:=Nat,slots:=λk=>[(3,.c (.v (.int .i64 k)))],res:=λk=>[],inv:=λk=>k<=((List.range s.size)).length/\∀j < k,(qh (Ed s j)=true\/(j≠0/\okB (Ed s j)=true)),meas:=λk=>((List.range s.size)).length - k }
 | _=>none
theorem adV(s:ByteArray):
 let z2:=List.range s.size;let z1:=λ(x:Nat)=>(x<=z2.length/\∀(j:Nat),j < x->qh (Ed s j)=true\/j≠0/\okB (Ed s j)=true);br (decide ((s.size:Int) < (1:Int)) || decide (16 < (s.size:Int))) (qB (dh s) false) ((∃x,(z1 x)/\(cI 0=cI (x:Int)/\True)/\([]:List o7)=[])/\∀(x:Nat),(z1 x)->br (decide ((x:Int) < (s.size:Int))) ((0<=(x:Int)/\(x:Int) < (s.size:Int))/\∀(u:UInt8),s[(x:Int).toNat]?=some u->br (!(decide (97<=(u.toNat:Int)) && decide ((u.toNat:Int)<=(122:Int)) || decide (65<=(u.toNat:Int)) && decide ((u.toNat:Int)<=(90:Int))) && (decide ((x:Int)=(0:Int)) || !decide ((u.toNat:Int)=(95:Int)) && (decide ((u.toNat:Int) < (48:Int)) || decide (57 < (u.toNat:Int))))) (qB (dh s) false) (iR ((x:Int)+(1:Int))/\∃x',(z1 x')/\(cI ((x:Int)+(1:Int))=cI (x':Int)/\True)/\([]:List o7)=[]/\z2.length - x' < z2.length - x)) (qB (dh s) true)):=by
 conv=>zeta
 delta o7 cI qB iR;have hl:(List.range s.size).length=s.size:=List.length_range;rw[hl]
 by_cases hs:¬(1<=s.size/\s.size<=16)
 .have:dh s=false:=by unfold dh;rw[Ep hs];rfl
  rw[this];refine ak.2 ⟨λ_=>⟨rfl,rfl⟩,λh=>?_⟩
  simp only[pz,iZ]at h;omega
 have hs:=OM.1 hs;refine ak.2 ⟨λh=>?_,λ_=>⟨⟨0,⟨by omega,λj hj=>by omega⟩,⟨rfl,trivial⟩,rfl⟩,λk hk=>ak.2 ⟨λh=>?_,λh=>?_⟩⟩⟩
 .simp only[uM,iE]at h;omega
 .simp only[iE]at h;have hN:(k:Int).toNat=k:=by omega
  rw[hN];refine⟨by omega,λu hu=>?_⟩
  have eu:=FZ hu;have eL:qh (Ed s k)=(decide (97<=(u.toNat:Int)) && decide ((u.toNat:Int)<=122) || decide (65<=(u.toNat:Int)) && decide ((u.toNat:Int)<=90)):=by
   rw[eu];unfold qh;rw[Jb];simp
  rw[<-eL];refine ak.2 ⟨λh2=>⟨rfl,?_⟩,λh2=>⟨aA.2 (by omega),k+1,⟨by omega,λj hj=>?_⟩,⟨rfl,trivial⟩,rfl,by omega⟩⟩
  .have:dh s=false:=by
    simp only[A8,uM,yS,iE,iZ]at h2;obtain⟨a,b⟩:=h2;unfold dh;rcases b with b | b
    .have:k=0:=by omega
     subst this;rw[a];simp
    .have hb:okB (Ed s k)=false:=by
      unfold okB;rw[a,eu];simp;omega
     rw[show((List.range s.size).all λi=>okB (Ed s i))=false from List.all_eq_false.2 ⟨k,by simp;omega,by rw[hb];simp⟩,Bool.and_false]
   rw[this]
  .by_cases ku:j=k
   .subst ku;cases hA:qh (Ed s j) with
    | true=>exact .inl rfl
    | false=>
      rw[hA]at h2;refine .inr ?_;simp at h2;refine⟨by omega,?_⟩
      unfold okB;rw[eu];simp;omega
   .exact hk.2 j (by omega)
 .simp only[iZ]at h;have:dh s=true:=by
   unfold dh;have h0:qh (Ed s 0)=true:=(hk.2 0 (by omega)).elim id λq=>absurd rfl q.1
   rw[Wx hs,h0];simp only[GH];rw[LM];intro i hi;simp at hi;rcases hk.2 i (by omega) with q | q
   .unfold okB;rw[q];rfl
   .exact q.2
  rw[this];exact⟨rfl,rfl⟩
theorem Y6:bJ bM.gd 79 aaA:=
 jA (cx:=bM) (n:=55) (cl:=[]) aF trivial Tryz.func79 λd hd=>by
  obtain⟨s,⟨⟩⟩:=d;exact cO (agI s) (adV s) (by kernel_rfl)
abbrev KT:CT:={ ps:=[.sl .str],pre:=λd=>d.1.length<=1000000,res:=λd=>([],.iQ [.c (.v (.int .i64 (if(fG d.1).1=0 then 0 else(fG d.1).2))),.c (.v (.int .i64 (fG d.1).1))]) }
abbrev agJ(l:List ByteArray):Nat->Option (St->mO):=λk=>match k with
 | 2=>some λ_=>.inv { α:=Nat,slots:=λk=>[(4,.c (.v (.int .i64 k)))],res:=λ_=>[],inv:=λk=>k<=l.length/\∀j < k,dh (l.getD j ⟨#[]⟩)=true/\qO (l.take j) (l.getD j ⟨#[]⟩)=false,meas:=λk=>l.length - k }
 | 7=>some λs=>.inv { α:=Nat,slots:=λk=>[(5,.c (.v (.int .i64 k)))],res:=λ_=>[],inv:=λk=>k<=(NC s 4).toNat/\∀j < k,¬l.getD j ⟨#[]⟩=l.getD ((NC s 4).toNat) ⟨#[]⟩,meas:=λk=>(NC s 4).toNat - k }
 | _=>none
theorem adW(l:List ByteArray) (aS:KT.pre (l,())):
 let z1:=λ(x:Nat)=>(x<=l.length/\∀(j:Nat),j < x->dh (l.getD j { data:=#[]:ByteArray })=true/\qO (List.take j l) (l.getD j { data:=#[]:ByteArray })=false);let z4:=λ(x:Nat)=>0<=(x:Int)/\(x:Int) < (l.length:Int);let z3:=[cI (if(fG l).fst=0 then(0:Int) else(fG l).snd),cI ((fG l).fst)];let z2:=λ(x_1 x:Nat)=>(x_1<=(x:Int).toNat/\∀(j:Nat),j < x_1->¬l.getD j { data:=#[]:ByteArray }=l.getD (x:Int).toNat { data:=#[]:ByteArray });let z5:=λ(x_1:Nat)=>(x_1:Int)+(1:Int);(∃x,(z1 x)/\(cI 0=cI (x:Int)/\True)/\([]:List o7)=[])/\∀(x:Nat),(z1 x)->br (decide ((x:Int) < (l.length:Int))) ((z4 x)/\∀(d:ByteArray),l[(x:Int).toNat]?=some d->True/\br (!dh d) (rT z3 [cI (x:Int),cI 6]) ((∃x_1,(z2 x_1 x)/\(cI 0=cI (x_1:Int)/\True)/\([]:List o7)=[])/\∀(x_1:Nat),(z2 x_1 x)->br (decide ((x_1:Int) < (x:Int))) ((z4 x_1)/\∀(iC:ByteArray),l[(x_1:Int).toNat]?=some iC->(z4 x)/\∀(V9:ByteArray),l[(x:Int).toNat]?=some V9->br (decide (iC=V9)) (rT z3 [cI (x:Int),cI 7]) (iR (z5 x_1)/\∃x',(x'<=(x:Int).toNat/\∀(j:Nat),j < x'->¬l.getD j { data:=#[]:ByteArray }=l.getD (x:Int).toNat { data:=#[]:ByteArray })/\(cI (z5 x_1)=cI (x':Int)/\True)/\([]:List o7)=[]/\(x:Int).toNat - x' < (x:Int).toNat - x_1)) (iR (z5 x)/\∃x',(z1 x')/\(cI (z5 x)=cI (x':Int)/\True)/\([]:List o7)=[]/\l.length - x' < l.length - x))) (rT z3 [cI 0,cI 0]):=by
 conv=>zeta
 delta o7 cI rT iR;have hp:l.length<=1000000:=aS;refine⟨⟨0,⟨by omega,λj hj=>by omega⟩,⟨rfl,trivial⟩,rfl⟩,λk hk=>ak.2 ⟨λh=>?_,λh=>?_⟩⟩
 .simp only[iE]at h;have hN:(k:Int).toNat=k:=by omega
  rw[hN];refine⟨by omega,λd hd=>?_⟩
  have hg:l.getD k ⟨#[]⟩=d:=by rw[Gu,hd];rfl
  refine⟨trivial,ak.2 ⟨λh2=>⟨rfl,?_⟩,λh2=>⟨⟨0,⟨by omega,λj hj=>by omega⟩,⟨rfl,trivial⟩,rfl⟩,λm hm=>ak.2 ⟨λh3=>?_,λh3=>⟨aA.2 (by omega),k+1,⟨by omega,λj hj=>?_⟩,⟨rfl,trivial⟩,rfl,by omega⟩⟩⟩⟩⟩
  .have h2:dh d=false:=by simpa using h2
   rw[tX (by omega) hk.2 (.inl (by rw[hg];exact h2)),hg,h2];rfl
  .simp only[iE]at h3;have hM:(m:Int).toNat=m:=by omega
   rw[hM];refine⟨by omega,λd1 hd1=>⟨by omega,λd2 hd2=>?_⟩⟩
   rw[hd]at hd2;cases hd2;have hg1:l.getD m ⟨#[]⟩=d1:=by rw[Gu,hd1];rfl
   refine ak.2 ⟨λh4=>⟨rfl,?_⟩,λh4=>⟨aA.2 (by omega),m+1,⟨by omega,λj hj=>?_⟩,⟨rfl,trivial⟩,rfl,by omega⟩⟩
   .have h3':qO (l.take k) d=true:=Q5.2 ⟨d1,kT (i:=m) (by rw[aaO (by omega)];exact hd1),h4⟩
    have h2v:dh d=true:=by simpa using h2
    rw[tX (by omega) hk.2 (.inr (by rw[hg];exact h3')),hg,h2v];rfl
   .by_cases hjm:j=m
    .subst hjm;rw[hg1,hg];simpa using h4
    .exact hm.2 j (by omega)
  .simp only[iZ]at h3
   by_cases ku:j=k
   .subst ku;rw[hg];refine⟨by simpa using h2,?_⟩
    unfold qO;rw[List.any_eq_false];intro y hy;obtain⟨i,hi⟩:=Ja hy;have hij:i < j:=by
     have:=(eU.1 hi).1;simp at this;omega
    rw[aaO hij]at hi;have:=hm.2 i (by omega)
    rw[hg,Gu,hi]at this;simpa using this
   .exact hk.2 j (by omega)
 .simp only[iZ]at h;rw[IZ λj hj=>hk.2 j (by omega)];exact⟨rfl,rfl⟩
theorem Y7:bJ bM.gd 58 KT:=
 jA (cx:=bM) (n:=34) (cl:=[(79,aaA)]) aF ⟨Y6,trivial⟩ Tryz.func58 λd hd=>by
  obtain⟨l,⟨⟩⟩:=d;exact cO (agJ l) (adW l hd) (by kernel_rfl)
abbrev Ve:CT:={ ps:=[qN],pre:=λd=>d.1.1.length<=1000000/\d.1.2.2.2.1.length<=1000000,res:=λd=>([.row 9 .str (gu d.1.1),.row 9 .str (iK d.1.2.2.2.1)],.iQ [.c (.row 0),.c (.row 1)]) }
abbrev agK(vs:List VD) (ms cs:List ByteArray) (fs:List FD) (ts:List SD):Nat->Option (St->mO):=λk=>match k with
 | 3=>some λ_=>.inv { α:=Nat,slots:=λk=>[(6,.c (.v (.int .i64 k))),(4,.c (.row 1))],res:=λk=>[(1,.row 9 .str (gu (vs.take k)))],inv:=λk=>k<=vs.length,meas:=λk=>vs.length - k,nil:=[(4,9,.str)] }
 | 7=>some λ_=>.inv { α:=Nat,slots:=λk=>[(7,.c (.v (.int .i64 k))),(5,.c (.row 2))],res:=λk=>[(2,.row 9 .str (iK (fs.take k)))],inv:=λk=>k<=fs.length,meas:=λk=>fs.length - k,nil:=[(5,9,.str)] }
 | _=>none
theorem adX(vs:List VD) (ms cs:List ByteArray) (fs:List FD) (ts:List SD) (aS:Ve.pre ((vs,ms,cs,fs,ts,()),())):
 let z3:=[SC.sl Ea vs,SC.sl Sh.str ms,SC.sl Sh.str cs,SC.sl BM fs,SC.sl kV ts];let z5:=λ(x:Nat)=>gu (List.take x vs);let z2:=λ(x:Nat)=>[g0 (aC.blk 27 z3),g0 (aC.row 9 Sh.str (z5 x))];let z4:=λ(x:Nat)=>(x:Int)+(1:Int);let z1:=λ(x x_1:Nat)=>[g0 (aC.blk 27 z3),g0 (aC.row 9 Sh.str (z5 x)),g0 (aC.row 9 Sh.str (iK (List.take x_1 fs)))];(∃x,x<=vs.length/\(cI 0=cI (x:Int)/\SV.c (SC.row (Nat.succ 0))=SV.c (SC.row 1)/\True)/\[g0 (aC.blk 27 z3),g0 (aC.row 9 Sh.str [])]=(z2 x))/\∀(x:Nat),x<=vs.length->br (decide ((x:Int) < (vs.length:Int))) ((0<=(x:Int)/\(x:Int) < (vs.length:Int))/\∀(d:ByteArray×(I6.pair Sh.unit).den),vs[(x:Int).toNat]?=some d->wE (List.length (z5 x)+List.length ([d.fst])) 16/\iR (z4 x)/\∃x',x'<=vs.length/\(cI (z4 x)=cI (x':Int)/\SV.c (SC.row 1)=SV.c (SC.row 1)/\True)/\[g0 (aC.blk 27 z3),g0 (aC.row 9 Sh.str (gu (List.take x vs)++[d.fst]))]=(z2 x')/\vs.length - x' < vs.length - x) ((∃x_1,x_1<=fs.length/\(cI 0=cI (x_1:Int)/\SV.c (SC.row (Nat.succ 0).succ)=SV.c (SC.row 2)/\True)/\[g0 (aC.blk 27 z3),g0 (aC.row 9 Sh.str (z5 x)),g0 (aC.row 9 Sh.str [])]=(z1 x x_1))/\∀(x_1:Nat),x_1<=fs.length->br (decide ((x_1:Int) < (fs.length:Int))) ((0<=(x_1:Int)/\(x_1:Int) < (fs.length:Int))/\∀(d:ByteArray×(kC.sl.pair Sh.unit).den),fs[(x_1:Int).toNat]?=some d->wE (List.length (iK (List.take x_1 fs))+List.length ([d.fst])) 16/\iR (z4 x_1)/\∃x',x'<=fs.length/\(cI (z4 x_1)=cI (x':Int)/\SV.c (SC.row 2)=SV.c (SC.row 2)/\True)/\[g0 (aC.blk 27 z3),g0 (aC.row 9 Sh.str (z5 x)),g0 (aC.row 9 Sh.str (iK (List.take x_1 fs)++[d.fst]))]=(z1 x x')/\fs.length - x' < fs.length - x_1) ([aC.row 9 Sh.str (gu vs),aC.row 9 Sh.str (iK fs)]=[aC.row 9 Sh.str (z5 x),aC.row 9 Sh.str (iK (List.take x_1 fs))]/\aW.iQ [SV.c (SC.row 0),SV.c (SC.row 1)]=aW.iQ [SV.c (SC.row 0),SV.c (SC.row (Nat.succ 0))])):=by
 conv=>zeta
 delta cI g0 I6 iR;obtain⟨hp1,hp2⟩:vs.length<=1000000/\fs.length<=1000000:=aS;refine⟨⟨0,by omega,⟨rfl,rfl,trivial⟩,rfl⟩,λk hk=>ak.2 ⟨λh=>?_,λh=>⟨⟨0,by omega,⟨rfl,rfl,trivial⟩,rfl⟩,λm hm=>ak.2 ⟨λh2=>?_,λh2=>?_⟩⟩⟩⟩
 .simp only[iE]at h;refine⟨by omega,λd hd=>?_⟩
  have hd:vs[k]?=some d:=by simpa using hd
  have e:gu (vs.take (k+1))=gu (vs.take k)++[d.1]:=by
   unfold gu;rw[OV,hd];simp
  refine⟨?_,aA.2 (by omega),k+1,by omega,⟨rfl,rfl,trivial⟩,?_,by omega⟩
  .have:(gu (vs.take k)).length<=1000000:=by simp[gu];omega
   exact lJ.2 (by simp only[zI,OQ];omega)
  .rw[e]
 .simp only[iE]at h2;refine⟨by omega,λd hd=>?_⟩
  have hd:fs[m]?=some d:=by simpa using hd
  have e:iK (fs.take (m+1))=iK (fs.take m)++[d.1]:=by
   unfold iK;rw[OV,hd];simp
  refine⟨?_,aA.2 (by omega),m+1,by omega,⟨rfl,rfl,trivial⟩,?_,by omega⟩
  .have:(iK (fs.take m)).length<=1000000:=by simp[iK];omega
   exact lJ.2 (by simp only[zI,OQ];omega)
  .rw[e]
 .simp only[iZ]at h h2;rw[Gy (by omega),Gy (by omega)];exact⟨rfl,rfl⟩
theorem Y8:bJ bM.gd 57 Ve:=
 jA (cx:=bM) (n:=42) (cl:=[]) aF trivial Tryz.func57 λd hd=>by
  obtain⟨⟨vs,ms,cs,fs,ts,⟨⟩⟩,⟨⟩⟩:=d;exact cO (agK vs ms cs fs ts) (adX vs ms cs fs ts hd) (by kernel_rfl)
def xw(vs:List VD) (ms cs:List ByteArray) (fs:List FD) (l:List ID):Int×Int:=if 64 < l.length then(4,-1) else match l.findIdx? (λi=>decide (tY vs ms cs fs i l.length≠0)) with
 | some k=>(tY vs ms cs fs (l.getD k (0,0,0,0,0,0,0,0,())) l.length,k)
 | none=>(0,-1)
theorem xA{l:List ID}{d:ID} (hl:¬64 < l.length) (hd:l[k]?=some d) (hb:tY vs ms cs fs d l.length≠0) (hn:∀j < k,∀i,l[j]?=some i->tY vs ms cs fs i l.length=0):xw vs ms cs fs l=(tY vs ms cs fs d l.length,(k:Int)):=by
 have gY:k < l.length:=(eU.1 hd).1;have:l.findIdx? (λi=>decide (tY vs ms cs fs i l.length≠0))=some k:=by
  rw[ZQ];refine⟨gY,by rw[(eU.1 hd).2];simpa using hb,λj hj=>?_⟩
  have:=hn j hj l[j] (kW (by omega))
  simpa using this
 unfold xw;rw[if_neg hl,this];show(tY vs ms cs fs (l.getD k _) l.length,(k:Int))=_;rw[Gu,hd];rfl
theorem Y9{l:List ID} (hl:¬64 < l.length) (hn:∀(j:Nat) i,l[j]?=some i->tY vs ms cs fs i l.length=0):xw vs ms cs fs l=(0,-1):=by
 have:l.findIdx? (λi=>decide (tY vs ms cs fs i l.length≠0))=none:=by
  rw[A86];intro y hy;obtain⟨j,hj⟩:=Ja hy;simpa using hn j y hj
 unfold xw;rw[if_neg hl,this]
theorem agL{d:ID} (h:qP d≠0):tY vs ms cs fs d m=qP d:=by unfold tY Wh;rw[if_pos h]
theorem aix{d:ID} (h:qP d=0) (h2:exS vs ms cs fs d.1 d.2.2.2.2.1 d.2.2.2.2.2.1=false):tY vs ms cs fs d m=11:=by
 unfold exS at h2;unfold tY Wh;rw[if_neg (by simpa using h)]
 split
 .rfl
 .rename_i h3;rw[Ep h3]at h2;rw[Jl,GH,QN]at h2;rw[if_pos (ZX h2)]
theorem aiy{d:ID} (h:qP d=0) (h2:exS vs ms cs fs d.1 d.2.2.2.2.1 d.2.2.2.2.2.1=true):tY vs ms cs fs d m=if(d.1=4\/d.1=5)/\(d.2.2.2.2.2.1 < 0\/m < d.2.2.2.2.2.1) then 12 else 0:=by
 unfold exS at h2;rw[A8,yS,yS]at h2;unfold tY Wh;rw[if_neg (by simpa using h),if_neg (QY h2.1),if_neg (QY h2.2)]
abbrev aaB:CT:={ ps:=[qN,BM],pre:=λd=>True,res:=λd=>([],.iQ [.c (.v (.int .i64 (xw d.1.1 d.1.2.1 d.1.2.2.1 d.1.2.2.2.1 d.2.1.2.1).1)),.c (.v (.int .i64 (xw d.1.1 d.1.2.1 d.1.2.2.1 d.1.2.2.2.1 d.2.1.2.1).2))]) }
abbrev agM(vs:List VD) (ms cs:List ByteArray) (fs:List FD) (ts:List SD) (nm:ByteArray) (l:List ID):Nat->Option (St->mO):=λk=>match k with
 | 4=>some λ_=>.inv { α:=Nat,slots:=λk=>[(6,.c (.v (.int .i64 k)))],res:=λk=>[],inv:=λk=>k<=(l).length/\∀j < k,∀i,l[j]?=some i->tY vs ms cs fs i l.length=0,meas:=λk=>(l).length - k }
 | _=>none
theorem adY(vs:List VD) (ms cs:List ByteArray) (fs:List FD) (ts:List SD) (nm:ByteArray) (l:List ID):
 let z10:=[cI ((xw vs ms cs fs l).fst),cI ((xw vs ms cs fs l).snd)];let z1:=λ(x:Nat)=>(x<=l.length/\∀(j:Nat),j < x->∀(i:Int×Int×Int×Int×Int×Int×Int×Int×Unit),l[j]?=some i->Wh vs ms cs fs (nU i.fst i.snd.fst i.snd.snd.fst i.snd.snd.snd.fst i.snd.snd.snd.snd.fst i.snd.snd.snd.snd.snd.fst i.snd.snd.snd.snd.snd.snd.fst i.snd.snd.snd.snd.snd.snd.snd.fst) i.fst i.snd.snd.snd.snd.fst i.snd.snd.snd.snd.snd.fst (l.length:Int)=(0:Int));let z5:=[g0 (aC.blk 27 [SC.sl Ea vs,SC.sl Sh.str ms,SC.sl Sh.str cs,SC.sl BM fs,SC.sl kV ts]),g0 (aC.blk 58 [SC.v (Value.string nm),SC.sl kC l])];let z2:=λ(d:ID)=>(d.fst,d.snd.fst,d.snd.snd.fst,d.snd.snd.snd.fst,d.snd.snd.snd.snd.fst,d.snd.snd.snd.snd.snd.fst,d.snd.snd.snd.snd.snd.snd.fst,d.snd.snd.snd.snd.snd.snd.snd.fst,());let z3:=λ(d:ID)=>(d.snd.fst,d.snd.snd.fst,d.snd.snd.snd.fst,d.snd.snd.snd.snd.fst,d.snd.snd.snd.snd.snd.fst,d.snd.snd.snd.snd.snd.snd.fst,d.snd.snd.snd.snd.snd.snd.snd.fst,());let z4:=λ(d:ID)=>(d.snd.snd.fst,d.snd.snd.snd.fst,d.snd.snd.snd.snd.fst,d.snd.snd.snd.snd.snd.fst,d.snd.snd.snd.snd.snd.snd.fst,d.snd.snd.snd.snd.snd.snd.snd.fst,());let z6:=λ(d:ID)=>(d.snd.snd.snd.fst,d.snd.snd.snd.snd.fst,d.snd.snd.snd.snd.snd.fst,d.snd.snd.snd.snd.snd.snd.fst,d.snd.snd.snd.snd.snd.snd.snd.fst,());let z7:=λ(d:ID)=>(d.snd.snd.snd.snd.fst,d.snd.snd.snd.snd.snd.fst,d.snd.snd.snd.snd.snd.snd.fst,d.snd.snd.snd.snd.snd.snd.snd.fst,());let z8:=λ(d:ID)=>(d.snd.snd.snd.snd.snd.fst,d.snd.snd.snd.snd.snd.snd.fst,d.snd.snd.snd.snd.snd.snd.snd.fst,());let z9:=λ(d:ID)=>(d.snd.snd.snd.snd.snd.snd.fst,d.snd.snd.snd.snd.snd.snd.snd.fst,());br (decide (64 < (l.length:Int))) (rT z10 [cI 4,cI (-1)]) ((∃x,(z1 x)/\(cI 0=cI (x:Int)/\True)/\sm z5)/\∀(x:Nat),(z1 x)->br (decide ((x:Int) < (l.length:Int))) ((0<=(x:Int)/\(x:Int) < (l.length:Int))/\∀(d:ID),l[(x:Int).toNat]?=some d->True/\br (!decide (nU (z2 d).fst (z3 d).fst (z4 d).fst (z6 d).fst (z7 d).fst (z8 d).fst (z9 d).fst (d.snd.snd.snd.snd.snd.snd.snd.fst,()).fst=0)) (rT z10 [cI (nU (z2 d).fst (z3 d).fst (z4 d).fst (z6 d).fst (z7 d).fst (z8 d).fst (z9 d).fst (d.snd.snd.snd.snd.snd.snd.snd.fst,()).fst),cI (x:Int)]) (True/\br (!exS vs ms cs fs (z2 d).fst (z7 d).fst (z8 d).fst) (rT z10 [cI 11,cI (x:Int)]) (br ((decide (d.fst=4) || decide (d.fst=5)) && (decide (d.snd.snd.snd.snd.snd.fst < 0) || decide ((l.length:Int) < d.snd.snd.snd.snd.snd.fst))) (rT z10 [cI 12,cI (x:Int)]) (iR ((x:Int)+(1:Int))/\∃x',(z1 x')/\(cI ((x:Int)+(1:Int))=cI (x':Int)/\True)/\sm z5/\l.length - x' < l.length - x)))) (rT z10 [cI 0,cI (-1)])):=by
 conv=>zeta
 delta cI g0 rT sm I6 iR
 by_cases hc:64 < l.length
 .have e:xw vs ms cs fs l=(4,-1):=by unfold xw;rw[if_pos hc]
  rw[e];refine ak.2 ⟨λ_=>⟨rfl,rfl⟩,λh=>?_⟩
  simp only[iZ]at h;omega
 refine ak.2 ⟨λh=>?_,λ_=>⟨⟨0,⟨by omega,λj hj=>by omega⟩,⟨rfl,trivial⟩,rfl⟩,λk hk=>ak.2 ⟨λh=>?_,λh=>?_⟩⟩⟩
 .simp only[iE]at h;omega
 .simp only[iE]at h;have hN:(k:Int).toNat=k:=by omega
  rw[hN];refine⟨by omega,λd hd=>⟨trivial,ak.2 ⟨λh2=>⟨rfl,?_⟩,λh2=>⟨trivial,ak.2 ⟨λh3=>⟨rfl,?_⟩,λh3=>ak.2 ⟨λh4=>⟨rfl,?_⟩,λh4=>⟨aA.2 (by omega),k+1,⟨by omega,λj hj i hi=>?_⟩,⟨rfl,trivial⟩,rfl,by omega⟩⟩⟩⟩⟩⟩⟩
  .have h2:qP d≠0:=by simpa using h2
   rw[xA hc hd (by rw[agL h2];exact h2) hk.2,agL h2]
  all_goals have h2:qP d=0:=by simpa using h2
  .have h3:exS vs ms cs fs d.1 d.2.2.2.2.1 d.2.2.2.2.2.1=false:=by simpa using h3
   have e:=aix (m:=(l.length:Int)) h2 h3;rw[xA hc hd (by rw[e];simp) hk.2,e]
  all_goals have h3:exS vs ms cs fs d.1 d.2.2.2.2.1 d.2.2.2.2.2.1=true:=by simpa using h3
  all_goals have e:=aiy (m:=(l.length:Int)) h2 h3
  .rw[if_pos (by simpa using h4)]at e
   rw[xA hc hd (by rw[e];simp) hk.2,e]
  .by_cases ku:j=k
   .subst ku;rw[hd]at hi;cases hi;rw[if_neg (λq=>by
     have:((decide (d.1=4) || decide (d.1=5)) && (decide (d.2.2.2.2.2.1 < 0) || decide ((l.length:Int) < d.2.2.2.2.2.1)))=true:=by simpa using q
     rw[h4]at this;cases this)]at e
    exact e
   .exact hk.2 j (by omega) i hi
 .simp only[iZ]at h;rw[Y9 hc λj i hj=>hk.2 j (by have:=(eU.1 hj).1;omega) i hj];exact⟨rfl,rfl⟩
theorem Za:bJ bM.gd 60 aaB:=
 jA (cx:=bM) (n:=58) (cl:=[(80,agh),(81,aaz)]) aF ⟨YD,Y5,trivial⟩ Tryz.func60 λd hd=>by
  obtain⟨⟨vs,ms,cs,fs,ts,⟨⟩⟩,⟨nm,l,⟨⟩⟩,⟨⟩⟩:=d;exact cO (agM vs ms cs fs ts nm l) (adY vs ms cs fs ts nm l) (by kernel_rfl)
theorem yC:∀(i:Nat) (l:List FD) (n:Nat){x:FD},l[i]?=some x->je n l=je n (l.take i)++(nN (n+i) x++je (n+i+1) (l.drop (i+1)))
 | 0,[],n,x,h=>by simp at h
 | 0,y :: l,n,x,h=>by
   simp at h;subst h;simp[je]
 | i+1,[],n,x,h=>by simp at h
 | i+1,y :: l,n,x,h=>by
   have:=yC i l (n+1) (x:=x) (by simpa using h)
   simp only[aaS,List.drop_succ_cons,je];rw[this,CJ,show n+1+i=n+(i+1) by omega]
theorem KU{n:Nat}{x:FD}{d:bW [kV,kC]} (h:(nN n x)[k]?=some d):∃e,x.2.1[k]?=some e/\d=(((n:Int),(k:Int),()),e,()):=by
 unfold nN at h;rw[Gw,aaQ]at h;cases he:x.2.1[k]? with
 | none=>rw[he]at h;simp at h
 | some e=>rw[he]at h;simp at h;exact⟨e,rfl,h.symm⟩
theorem xB{l:List ID} (h:(xw vs ms cs fs l).1=0):l.length<=64/\∀(j:Nat) i,l[j]?=some i->tY vs ms cs fs i l.length=0:=by
 by_cases hl:64 < l.length
 .unfold xw at h;rw[if_pos hl]at h;simp at h
 refine⟨by omega,?_⟩
 cases hf:l.findIdx? (λi=>decide (tY vs ms cs fs i l.length≠0)) with
 | none=>
   rw[A86]at hf;intro j i hj;simpa using hf i (kT hj)
 | some k=>
   unfold xw at h;rw[if_neg hl,hf]at h;rw[ZQ]at hf;obtain⟨hk,h1,_⟩:=hf;have e:l.getD k (0,0,0,0,0,0,0,0,())=l[k]:=by rw[Gu,kW hk];rfl
   have h:tY vs ms cs fs (l.getD k (0,0,0,0,0,0,0,0,())) l.length=0:=h;rw[e]at h;simp[h]at h1
theorem Zb{l:List ID} (hl:¬64 < l.length) (h:(xw vs ms cs fs l).1≠0):∃(k:Nat) (e:ID),l[k]?=some e/\tY vs ms cs fs e l.length≠0/\(∀j < k,∀i,l[j]?=some i->tY vs ms cs fs i l.length=0)/\xw vs ms cs fs l=(tY vs ms cs fs e l.length,(k:Int)):=by
 cases hf:l.findIdx? (λi=>decide (tY vs ms cs fs i l.length≠0)) with
 | none=>
   unfold xw at h;rw[if_neg hl,hf]at h;exact absurd rfl h
 | some k=>
   rw[ZQ]at hf;obtain⟨hk,h1,h2⟩:=hf;have hn:∀j < k,∀i,l[j]?=some i->tY vs ms cs fs i l.length=0:=λj hj i hi=>by
    have:=h2 j hj;rw[(eU.1 hi).2]at this;simpa using this
   have h1:tY vs ms cs fs l[k] l.length≠0:=by simpa using h1
   exact⟨k,l[k],kW hk,h1,hn,xA hl (kW hk) h1 hn⟩
theorem Ef{x:FD} (hx:fs[k]?=some x) (j:Int) (e:ID):F6 vs ms cs fs (((k:Int),j,()),e,())=tY vs ms cs fs e x.2.1.length:=Oe (d:=(((k:Int),j,()),e,())) (by simpa using hx)
theorem KW{i:Nat} (hn:∀j < i,∀f,fs[j]?=some f->f.2.1.length<=64):dw fs = -1\/(i:Int)<=dw fs:=by
 unfold dw;cases hf:fs.findIdx? (λf=>decide (64 < f.2.1.length)) with
 | none=>exact .inl rfl
 | some k=>
   refine .inr ?_;rw[ZQ]at hf;obtain⟨hk,h1,_⟩:=hf;show(i:Int)<=(k:Int)
   by_cases hki:k < i
   .have:=hn k hki _ (kW hk);simp at h1;omega
   .omega
theorem Vf{i:Nat}{f:FD} (hf:fs[i]?=some f) (h:(xw vs ms cs fs f.2.1).1≠0) (hn:∀j < i,∀g,fs[j]?=some g->(xw vs ms cs fs g.2.1).1=0):
 BO vs ms cs fs=((xw vs ms cs fs f.2.1).1,(i:Int),(xw vs ms cs fs f.2.1).2):=by
 have hb:=KW (fs:=fs) (i:=i) λj hj g hg=>(xB (hn j hj g hg)).1
 have aS:(je 0 (fs.take i)).find? (λd=>decide (d.1.1=dw fs) || decide (F6 vs ms cs fs d≠0))=none:=by
  rw[WB];intro d hd;obtain⟨k,x,j,e,h1,h2,rfl⟩:=tZ _ _ hd;have hk:k < i:=by have:=(eU.1 h1).1;simp at this;omega
  rw[aaO hk]at h1;have hz:=(xB (hn k hk x h1)).2 j e h2;rw[show(0+k:Nat)=k by omega,Ef h1,hz]
  have:¬((k:Int)=dw fs):=by omega
  simp[this]
 have hcut:=yC i fs 0 hf;have key:∀{k:Nat}{e:ID},f.2.1[k]?=some e->((i:Int)=dw fs\/tY vs ms cs fs e f.2.1.length≠0)->(∀j < k,∀u,f.2.1[j]?=some u->(i:Int)≠dw fs/\tY vs ms cs fs u f.2.1.length=0) ->
  (dF fs).find? (λd=>decide (d.1.1=dw fs) || decide (F6 vs ms cs fs d≠0))=some (((i:Int),(k:Int),()),e,()):=by
  intro k e he hbad hok;unfold dF;rw[hcut,List.find?_append,aS,Option.none_or,List.find?_append,show(0+i:Nat)=i by omega]
  rw[vM (k:=k) (Ec he) (by rw[Ef hf];simpa using hbad) λj hj t ht=>by
   obtain⟨u,hu,rfl⟩:=KU ht;obtain⟨a,b⟩:=hok j hj u hu;rw[Ef hf,b];simp[a]]
  rfl
 by_cases hl:64 < f.2.1.length
 .have e1:dw fs=i:=BN hf hl λj hj g hg=>(xB (hn j hj g hg)).1
  have gY:0 < f.2.1.length:=by omega
  have:=key (k:=0) (kW gY) (.inl e1.symm) (λj hj=>by omega)
  unfold BO;rw[this];show(if(i:Int)=dw fs then _ else _)=_
  rw[if_pos e1.symm,e1];unfold xw;rw[if_pos hl]
 .obtain⟨k,e,h1,h2,h3,h4⟩:=Zb hl h;have hne:(i:Int)≠dw fs:=by
   intro q;have:=yB (fs:=fs);unfold dw at q;cases hfi:fs.findIdx? (λf=>decide (64 < f.2.1.length)) with
   | none=>rw[hfi]at q;simp at q
   | some m=>
     rw[hfi]at q;rw[ZQ]at hfi;obtain⟨hm,a,_⟩:=hfi;have q:i=m:=by have q:(i:Int)=(m:Int):=q;omega
     subst q;rw[(eU.1 hf).2]at a;simp at a;omega
  have:=key h1 (.inr h2) (λj hj u hu=>⟨hne,h3 j hj u hu⟩)
  unfold BO;rw[this];show(if(i:Int)=dw fs then _ else(F6 vs ms cs fs _,(i:Int),(k:Int)))=_
  rw[if_neg hne,Ef hf,h4]
theorem Zc(hn:∀(j:Nat) g,fs[j]?=some g->(xw vs ms cs fs g.2.1).1=0):BO vs ms cs fs=(0,-1,-1):=by
 have hl:dw fs = -1:=yB λj g hg=>(xB (hn j g hg)).1
 rw[KR λj d hd=>?_,if_neg (by rw[hl];simp)]
 obtain⟨k,x,m,e,h1,h2,rfl⟩:=tZ _ _ (kT hd);rw[show(0+k:Nat)=k by omega,Ef h1,hl]
 exact⟨by show¬((k:Int) = -1);omega,(xB (hn k x h1)).2 m e h2⟩
theorem Eh:∀(l:List FD) (n m:Nat),(∀x∈l,x.2.1.length<=m)->(je n l).length<=l.length * m
 | [],n,m,h=>by simp[je]
 | x :: l,n,m,h=>by
   have:=Eh l (n+1) m λy hy=>h y (by simp[hy])
   have:=h x (by simp)
   have e:(nN n x).length=x.2.1.length:=by simp[nN]
   simp only[je,kD,zI,uN];omega
theorem QH(h:Jf vs ms cs fs ts=true):bnd ((vs,ms,cs,fs,ts,()),()):=by
 unfold Jf at h;rw[A8,iE,LM]at h;obtain⟨⟨h1,h2,h3,h4,h5⟩,h6⟩:=h;have h6:∀x∈fs,x.2.1.length<=100:=λx hx=>by simpa using h6 x hx
 have:=Eh fs 0 100 h6;refine⟨?_,?_,?_,?_,?_,λx hx=>?_,?_⟩
 .show vs.length<=_;omega
 .show ms.length<=_;omega
 .show cs.length<=_;omega
 .show fs.length<=_;omega
 .show ts.length<=_;omega
 .have:=h6 x hx;omega
 .show(je 0 fs).length<=_;omega
theorem F7(h:(y7 vs ms cs fs).1≠0):bG vs ms cs fs ts=y7 vs ms cs fs:=by unfold bG;rw[if_pos h]
theorem Vg(z:(y7 vs ms cs fs).1=0) (h:yR vs ms cs fs≠0):bG vs ms cs fs ts=(yR vs ms cs fs,-1,-1):=by unfold bG;rw[if_neg (λq=>q z),if_pos h]
theorem adZ(z:(y7 vs ms cs fs).1=0) (z2:yR vs ms cs fs=0) (h:(BO vs ms cs fs).1≠0):bG vs ms cs fs ts=BO vs ms cs fs:=by unfold bG;rw[if_neg (λq=>q z),if_neg (λq=>q z2),if_pos h]
theorem ad1(z:(y7 vs ms cs fs).1=0) (z2:yR vs ms cs fs=0) (z3:(BO vs ms cs fs).1=0):bG vs ms cs fs ts=(CG fs ts,-1,-1):=by
 unfold bG;rw[if_neg (λq=>q z),if_neg (λq=>q z2),if_neg (λq=>q z3)]
 split
 .rfl
 .rename_i h;rw[OM.1 h]
abbrev KX:CT:={ ps:=[qN],pre:=λd=>bnd d,res:=λd=>([],.iQ [.c (.v (.int .i64 (bG d.1.1 d.1.2.1 d.1.2.2.1 d.1.2.2.2.1 d.1.2.2.2.2.1).1)),.c (.v (.int .i64 (bG d.1.1 d.1.2.1 d.1.2.2.1 d.1.2.2.2.1 d.1.2.2.2.2.1).2.1)),.c (.v (.int .i64 (bG d.1.1 d.1.2.1 d.1.2.2.1 d.1.2.2.2.1 d.1.2.2.2.2.1).2.2))]) }
abbrev agN(vs:List VD) (ms cs:List ByteArray) (fs:List FD) (ts:List SD):Nat->Option (St->mO):=λk=>match k with
 | 17=>some λ_=>.inv { α:=Nat,slots:=λk=>[(15,.c (.v (.int .i64 k)))],res:=λ_=>[],inv:=λk=>k<=vs.length/\∀j < k,∀v,vs[j]?=some v->dJ v.2.1=true,meas:=λk=>vs.length - k }
 | 22=>some λ_=>.inv { α:=Nat,slots:=λk=>[(16,.c (.v (.int .i64 k)))],res:=λ_=>[],inv:=λk=>k<=fs.length/\∀j < k,∀g,fs[j]?=some g->(xw vs ms cs fs g.2.1).1=0,meas:=λk=>fs.length - k }
 | _=>none
theorem ad2(vs:List VD) (ms cs:List ByteArray) (fs:List FD) (ts:List SD) (aS:KX.pre ((vs,ms,cs,fs,ts,()),())):
 let z6:=bG vs ms cs fs ts;let z4:=[cI (z6.fst),cI (z6.snd.fst),cI (z6.snd.snd)];let z7:=fG (iK fs);let z3:=λ(x:Nat)=>(x<=vs.length/\∀(j:Nat),j < x->∀(v:ByteArray×Int×Unit),vs[j]?=some v->dJ v.snd.fst=true);let z1:=[g0 (aC.blk 27 [SC.sl Ea vs,SC.sl Sh.str ms,SC.sl Sh.str cs,SC.sl BM fs,SC.sl kV ts]),g0 (aC.row 9 Sh.str (gu vs)),g0 (aC.row 9 Sh.str (iK fs))];let z5:=λ(x:Nat)=>(x:Int)+(1:Int);let z2:=λ(x:Nat)=>(x<=fs.length/\∀(j:Nat),j < x->∀(g:ByteArray×List ID×Unit),fs[j]?=some g->(xw vs ms cs fs g.snd.fst).fst=0);(vs.length<=1000000/\fs.length<=1000000)/\(gu vs).length<=1000000/\br (!decide ((fG (gu vs)).fst=0)) (rT z4 [cI ((fG (gu vs)).fst),cI (-1),cI (-1)]) (ms.length<=1000000/\br (!decide ((fG ms).fst=0)) (rT z4 [cI ((fG ms).fst),cI (-1),cI (-1)]) (cs.length<=1000000/\br (!decide ((fG cs).fst=0)) (rT z4 [cI ((fG cs).fst),cI (-1),cI (-1)]) ((iK fs).length<=1000000/\br (!decide (z7.fst=0)) (rT z4 [cI (z7.fst),cI (if z7.fst=0 then(0:Int) else z7.snd),cI (-1)]) (br (decide (8 < (vs.length:Int)) || decide (4 < (ms.length:Int)) || decide (4 < (cs.length:Int)) || decide (8 < (fs.length:Int))) (rT z4 [cI 4,cI (-1),cI (-1)]) ((∃x,(z3 x)/\(cI 0=cI (x:Int)/\True)/\sm z1)/\∀(x:Nat),(z3 x)->br (decide ((x:Int) < (vs.length:Int))) ((0<=(x:Int)/\(x:Int) < (vs.length:Int))/\∀(d:ByteArray×(I6.pair Sh.unit).den),vs[(x:Int).toNat]?=some d->True/\br (!dJ (d.snd.fst,()).fst) (rT z4 [cI 2,cI (-1),cI (-1)]) (iR (z5 x)/\∃x',(z3 x')/\(cI (z5 x)=cI (x':Int)/\True)/\sm z1/\vs.length - x' < vs.length - x)) ((∃x,(z2 x)/\(cI 0=cI (x:Int)/\True)/\sm z1)/\∀(x:Nat),(z2 x)->br (decide ((x:Int) < (fs.length:Int))) ((0<=(x:Int)/\(x:Int) < (fs.length:Int))/\∀(d:ByteArray×(kC.sl.pair Sh.unit).den),fs[(x:Int).toNat]?=some d->True/\br (!decide ((xw vs ms cs fs (d.snd.fst,()).fst).fst=0)) (rT z4 [cI ((xw vs ms cs fs (d.snd.fst,()).fst).fst),cI (x:Int),cI ((xw vs ms cs fs (d.snd.fst,()).fst).snd)]) (iR (z5 x)/\∃x',(z2 x')/\(cI (z5 x)=cI (x':Int)/\True)/\sm z1/\fs.length - x' < fs.length - x)) (True/\rT z4 [cI (CG fs ts),cI (-1),cI (-1)]))))))):=by
 conv=>zeta
 delta cI g0 rT sm I6 iR;obtain⟨h1,h2,h3,h4,h5,h6,h7⟩:bnd ((vs,ms,cs,fs,ts,()),()):=aS;have h1:vs.length<=1000000:=h1;have h4:fs.length<=1000000:=h4;refine⟨⟨h1,h4⟩,by simpa[gu]using h1,ak.2 ⟨λa=>⟨rfl,?_⟩,λa=>⟨h2,ak.2 ⟨λb=>⟨rfl,?_⟩,λb=>⟨h3,ak.2 ⟨λc=>⟨rfl,?_⟩,λc=>⟨by simpa[iK]using h4,ak.2 ⟨λd=>⟨rfl,?_⟩,λd=>?_⟩⟩⟩⟩⟩⟩⟩⟩
 all_goals try simp only[yS,QN,iE,iZ]at a
 all_goals try simp only[yS,QN,iE,iZ]at b
 all_goals try simp only[yS,QN,iE,iZ]at c
 all_goals try simp only[yS,QN,iE,iZ]at d
 .have e:y7 vs ms cs fs=((fG (gu vs)).1,-1,-1):=by unfold y7;rw[if_pos a]
  rw[F7 (by rw[e];exact a),e]
 .have e:y7 vs ms cs fs=((fG ms).1,-1,-1):=by unfold y7;rw[if_neg (λq=>q a),if_pos b]
  rw[F7 (by rw[e];exact b),e]
 .have e:y7 vs ms cs fs=((fG cs).1,-1,-1):=by unfold y7;rw[if_neg (λq=>q a),if_neg (λq=>q b),if_pos c]
  rw[F7 (by rw[e];exact c),e]
 all_goals have e:y7 vs ms cs fs=((fG (iK fs)).1,(fG (iK fs)).2,-1):=by unfold y7;rw[if_neg (λq=>q a),if_neg (λq=>q b),if_neg (λq=>q c)]
 .rw[F7 (by rw[e];exact d),e,if_neg d]
 have z:(y7 vs ms cs fs).1=0:=by rw[e];exact d
 clear e a b c d
 by_cases hc:8 < vs.length\/4 < ms.length\/4 < cs.length\/8 < fs.length
 .have e:yR vs ms cs fs=4:=by unfold yR;rw[if_pos hc]
  rw[Vg z (by rw[e];simp),e]
  refine ak.2 ⟨λ_=>⟨rfl,rfl⟩,λh=>?_⟩
  simp only[pz,iZ]at h;omega
 refine ak.2 ⟨λh=>?_,λ_=>⟨⟨0,⟨by omega,λj hj=>by omega⟩,⟨rfl,trivial⟩,rfl⟩,λk hk=>ak.2 ⟨λh=>?_,λh=>⟨⟨0,⟨by omega,λj hj=>by omega⟩,⟨rfl,trivial⟩,rfl⟩,λm hm=>ak.2 ⟨λh8=>?_,λh8=>⟨trivial,rfl,?_⟩⟩⟩⟩⟩⟩
 .simp only[uM,iE]at h;omega
 .simp only[iE]at h;have hN:(k:Int).toNat=k:=by omega
  rw[hN];refine⟨by omega,λd hd=>⟨trivial,ak.2 ⟨λh9=>⟨rfl,?_⟩,λh9=>⟨aA.2 (by omega),k+1,⟨by omega,λj hj v hv=>?_⟩,⟨rfl,trivial⟩,rfl,by omega⟩⟩⟩⟩
  .have h9:dJ d.2.1=false:=by simpa using h9
   have e:yR vs ms cs fs=2:=by
    unfold yR;rw[if_neg hc,if_neg];intro hh;rw[LM]at hh;have:=hh d (kT hd);rw[h9]at this;cases this
   rw[Vg z (by rw[e];simp),e]
  .have h9:dJ d.2.1=true:=by simpa using h9
   by_cases ku:j=k
   .subst ku;rw[hd]at hv;cases hv;exact h9
   .exact hk.2 j (by omega) v hv
 all_goals
  simp only[iZ]at h;have z2:yR vs ms cs fs=0:=by
   unfold yR;rw[if_neg hc,if_pos];rw[LM];intro v hv;obtain⟨j,hj⟩:=Ja hv;exact hk.2 j (by have:=(eU.1 hj).1;omega) v hj
 .simp only[iE]at h8;have hN:(m:Int).toNat=m:=by omega
  rw[hN];refine⟨by omega,λd hd=>⟨trivial,ak.2 ⟨λh9=>⟨rfl,?_⟩,λh9=>⟨aA.2 (by omega),m+1,⟨by omega,λj hj v hv=>?_⟩,⟨rfl,trivial⟩,rfl,by omega⟩⟩⟩⟩
  .have h9:(xw vs ms cs fs d.2.1).1≠0:=by simpa using h9
   have e:=Vf hd h9 hm.2;rw[adZ z z2 (by rw[e];exact h9),e]
  .have h9:(xw vs ms cs fs d.2.1).1=0:=by simpa using h9
   by_cases ku:j=m
   .subst ku;rw[hd]at hv;cases hv;exact h9
   .exact hm.2 j (by omega) v hv
 .simp only[iZ]at h8;have e:=Zc (vs:=vs) (ms:=ms) (cs:=cs) λj g hj=>hm.2 j (by have:=(eU.1 hj).1;omega) g hj
  rw[ad1 z z2 (by rw[e])]
theorem Zd:bJ bM.gd 37 KX:=
 jA (cx:=bM) (n:=120) (cl:=[(57,Ve),(58,KT),(59,KJ),(60,aaB),(61,aay)]) aF ⟨Y8,Y7,Oa,Za,Y4,trivial⟩ Tryz.func37 λd hd=>by
  obtain⟨⟨vs,ms,cs,fs,ts,⟨⟩⟩,⟨⟩⟩:=d;exact cO (agN vs ms cs fs ts) (ad2 vs ms cs fs ts hd) (by kernel_rfl)
def aB(n:Int):Int:=if n % 4294967296<=2147483647 then n % 4294967296 else n % 4294967296 - 4294967296
theorem lT(n:Int):-2147483648<=aB n/\aB n<=2147483647:=by
 unfold aB;split<;>omega
theorem BP{n:Int}:aB n=n↔-2147483648<=n/\n<=2147483647:=by
 unfold aB;constructor
 .intro h;split at h<;>omega
 .intro h;split<;>omega
theorem yD{n:Int} (h:n % 4294967296=m % 4294967296):aB n=aB m:=by
 unfold aB;rw[h]
def Vh(n:Int):Int:=
 if(if n.tmod 4294967296 < 0 then n.tmod 4294967296+4294967296 else n.tmod 4294967296) > 2147483647 then
  (if n.tmod 4294967296 < 0 then n.tmod 4294967296+4294967296 else n.tmod 4294967296) - 4294967296
 else(if n.tmod 4294967296 < 0 then n.tmod 4294967296+4294967296 else n.tmod 4294967296)
theorem BQ(n:Int) (hm:0 < m):n.tmod m=if 0<=n\/n % m=0 then n % m else n % m - m:=by
 rw[Int.tmod_eq_emod];have h1:(m ∣ n)↔n % m=0:=Int.dvd_iff_emod_eq_zero;simp only[h1];split
 .simp
 .have:(m.natAbs:Int)=m:=by omega
  simp[this]
theorem Vj(n:Int):Vh n=aB n:=by
 unfold Vh aB;rw[BQ n (by omega)]
 split<;>split<;>split<;>first | omega | (split<;>omega)
def gX(X Y:Nat) (r:List Int):Nat->Int
 | 0=>0
 | i+1=>gX X Y r i+2 ^ i * r.getD (2 * (X / 2 ^ i % 2)+Y / 2 ^ i % 2) 0
theorem Ei{X Y:Nat}{r:List Int} (h:∀v∈r,v=0\/v=1):∀i,0<=gX X Y r i/\gX X Y r i < 2 ^ i
 | 0=>by simp[gX]
 | i+1=>by
   have ih:=Ei (X:=X) (Y:=Y) h i;have hv:r.getD (2 * (X / 2 ^ i % 2)+Y / 2 ^ i % 2) 0=0\/r.getD (2 * (X / 2 ^ i % 2)+Y / 2 ^ i % 2) 0=1:=by
    rw[Gu];cases hq:r[2 * (X / 2 ^ i % 2)+Y / 2 ^ i % 2]? with
    | none=>exact .inl rfl
    | some v=>exact h v (kT hq)
   unfold gX;rw[Int.pow_succ];rcases hv with e | e<;>rw[e]<;>omega
theorem F8(n i:Nat):n % 2 ^ (i+1)=n % 2 ^ i+2 ^ i * (n / 2 ^ i % 2):=by
 rw[Nat.pow_succ,Nat.mod_mul]
theorem F9(n i:Nat):n / 2 ^ i % 2=(n.testBit i).toNat:=by
 rw[Nat.testBit_eq_decide_div_mod_eq];rcases Nat.mod_two_eq_zero_or_one (n / 2 ^ i) with h | h<;>simp[h]
theorem zF{X Y Z:Nat}{r:List Int} (h:∀i,r.getD (2 * (X.testBit i).toNat+(Y.testBit i).toNat) 0=((Z.testBit i).toNat:Int)):∀i,gX X Y r i=((Z % 2 ^ i:Nat):Int)
 | 0=>by simp[gX,Nat.mod_one]
 | i+1=>by
   unfold gX;rw[zF h i,F8,F9,F9,h,F9]
   push_cast
   rfl
theorem lU(x:Int):((BitVec.ofInt 64 x).toNat % 4294967296:Nat)=(x % 4294967296).toNat:=by
 rw[BitVec.toNat_ofInt];omega
theorem qj(n:Int):IntKind.i64.wrap n % 4294967296=n % 4294967296:=by
 simp only[IntKind.wrap,IntKind.bits,IntKind.signed];simp;split<;>omega
theorem ql(n:Nat):((n % 2 ^ 32 % 2 ^ 32:Nat):Int) % 4294967296=(n:Int) % 4294967296:=by omega
theorem Vk{x:Int}:aB (gX (x % 4294967296).toNat (y % 4294967296).toNat [0,0,0,1] 32)=aB (jF .and .i64 x y):=by
 apply yD;rw[zF (Z:=(x % 4294967296).toNat &&& (y % 4294967296).toNat) λi=>by
  rw[Nat.testBit_and];cases ((x % 4294967296).toNat.testBit i)<;>cases ((y % 4294967296).toNat.testBit i)<;>rfl]
 simp only[jF];rw[qj,BitVec.toNat_and,<-lU,<-lU];rw[show(4294967296:Nat)=2 ^ 32 from rfl,<-Nat.and_mod_two_pow]
 exact ql _
theorem Ze{x:Int}:aB (gX (x % 4294967296).toNat (y % 4294967296).toNat [0,1,1,1] 32)=aB (jF .or .i64 x y):=by
 apply yD;rw[zF (Z:=(x % 4294967296).toNat ||| (y % 4294967296).toNat) λi=>by
  rw[Nat.testBit_or];cases ((x % 4294967296).toNat.testBit i)<;>cases ((y % 4294967296).toNat.testBit i)<;>rfl]
 simp only[jF];rw[qj,BitVec.toNat_or,<-lU,<-lU];rw[show(4294967296:Nat)=2 ^ 32 from rfl,<-Nat.or_mod_two_pow]
 exact ql _
theorem Vl{x:Int}:aB (gX (x % 4294967296).toNat (y % 4294967296).toNat [0,1,1,0] 32)=aB (jF .xor .i64 x y):=by
 apply yD;rw[zF (Z:=(x % 4294967296).toNat ^^^ (y % 4294967296).toNat) λi=>by
  rw[Nat.testBit_xor];cases ((x % 4294967296).toNat.testBit i)<;>cases ((y % 4294967296).toNat.testBit i)<;>rfl]
 simp only[jF];rw[qj,BitVec.toNat_xor,<-lU,<-lU];rw[show(4294967296:Nat)=2 ^ 32 from rfl,<-Nat.xor_mod_two_pow]
 exact ql _
def dP(f a b:Int):Int×Int:=
 if f=1 then(aB (aB a+aB b),0) else if f=2 then(aB (aB a - aB b),0) else if f=3 then(aB (aB a * aB b),0)
 else if f=4 then(aB (jF .and .i64 (aB a) (aB b)),0) else if f=5 then(aB (jF .or .i64 (aB a) (aB b)),0) else if f=6 then(aB (jF .xor .i64 (aB a) (aB b)),0)
 else if f=7 then(if aB a=aB b then 1 else 0,0) else if f=8 then(if aB a=aB b then 0 else 1,0) else if f=9 then(if aB a < aB b then 1 else 0,0)
 else if f=10 then(if aB a<=aB b then 1 else 0,0) else(0,8)
theorem KY(f a b:Int):-2147483648<=(dP f a b).1/\(dP f a b).1<=2147483647:=by
 unfold dP
 repeat' split
 all_goals first | exact lT _ | (constructor<;>omega)
def fK:Nat->Int->Int->Int
 | 0,_,_=>-1
 | n+1,d,id=>if id < 8 then d else if 7<=id.tmod 8 then -1 else fK n (d+1) (id.tdiv 8 - 1)
def bC(id:Int):Int:=if id < 0 then -1 else fK 5 0 id
def KZ:Nat->Int
 | 0=>0
 | n+1=>8 * (KZ n+1)
theorem Ej:∀(n:Nat) (d id:Int),0<=d->0<=id->0<=fK n d id->id < KZ n
 | 0,d,id,h0,h1,h2=>by simp[fK]at h2
 | n+1,d,id,h0,h1,h2=>by
   have hp:0<=KZ n:=by
    clear h2
    induction n with
    | zero=>simp[KZ]
    | succ n ih=>unfold KZ;omega
   unfold fK at h2;unfold KZ;split at h2
   .omega
   .split at h2
    .omega
    .have e:id.tdiv 8=id / 8:=A74 h1;rw[e]at h2;have:=Ej n (d+1) (id / 8 - 1) (by omega) (by omega) h2
     omega
theorem uf(h:0<=bC id):0<=id/\id < 37448:=by
 unfold bC at h;split at h
 .omega
 .have:=Ej 5 0 id (by omega) (by omega) h
  simp only[KZ]at this;omega
def fV(id ch:Int):Int×Bool:=if bC id < 0\/bC id=4\/ch < 0\/7<=ch then(0,false) else(8 * (id+1)+ch,true)
def kJ(id:Int):Int:=if bC id < 0 then 0 else bC id
abbrev dK:Sh:=.pair (.int .i64) (.pair (.int .i64) (.pair (.int .i64) (.pair (.arr 8 (.int .i64)) (.pair (.int .i64) (.pair (.int .i64) (.pair (.int .i64) (.pair (.int .i64) (.pair (.int .i64) (.pair (.sl (.int .i64)) .unit)))))))))
abbrev TD:=Int×Int×Int×List Int×Int×Int×Int×Int×Int×List Int×Unit
def jm(op:Int):Bool:=decide (8<=op/\op<=22)
def kS(i:ID):Int×Bool:=if qP i≠0\/use i.1 0=false then(0,false) else(i.2.1,true)
def codeF(fs:List FD) (fn:Int):List ID:=(fs.getD fn.toNat (⟨#[]⟩,[],())).2.1
def qm(fs:List FD) (fn pc:Int):Option ID:=(codeF fs fn)[pc.toNat]?
def atR(fs:List FD) (fn pc:Int):ID×Bool:=match qm fs fn pc with
 | some i=>(i,true)
 | none=>((0,0,0,0,0,0,0,0,()),false)
def iD(id ch ph:Int) (hd:List Int) (i:ID):Int:=
 if ph≠0 then 0 else if i.1=18 then(if gZ hd i.2.2.2.2.2.1=true then 0 else 27) else if i.1=16 then(if gZ hd i.2.2.2.2.1=true then 0 else 27)
 else if i.1=21 then(if(fV id ch).2=true then 0 else 28) else 0
def aQ(ms:List ByteArray) (fs:List FD) (bound:Int):TD->Prop
 | (id,fn,pc,rg,st,ch,ph,su,fa,hd,_)=>0<=bC id/\(0<=fn/\fn < fs.length)/\(0<=pc/\pc<=(codeF fs fn).length)/\(∀k < 8,∀r,rg[k]?=some r->dJ r=true) /\
   (0<=st/\st<=bound)/\(0<=ch/\ch<=7/\(bC id=4->ch=0))/\SS hd/\(∀m∈hd,0<=m/\m < ms.length) /\
   (ph=0\/((ph=1\/ph=2)/\∃i,qm fs fn pc=some i/\i.1=18/\gZ hd i.2.2.2.2.2.1=false))
open Classical in
def gy(ms:List ByteArray) (fs:List FD) (bound:Int) (t:TD):Bool:=decide (aQ ms fs bound t)
def bF:TD->ID->TD×Bool
 | (id,fn,pc,rg,st,ch,ph,su,fa,hd,_),(op,a,b,c,obj,n,f,_,_)=>
   if op=1 then((id,fn,pc+1,rg.set a.toNat n,st,ch,ph,su,fa,hd,()),true)
   else if op=2 then((id,fn,pc+1,rg.set a.toNat (rg.getD b.toNat 0),st,ch,ph,su,fa,hd,()),true)
   else if op=3 then((id,fn,pc+1,if(dP f (rg.getD b.toNat 0) (rg.getD c.toNat 0)).2=0 then rg.set a.toNat (dP f (rg.getD b.toNat 0) (rg.getD c.toNat 0)).1 else rg,st,ch,ph,su,fa,hd,()),true)
   else if op=4 then((id,fn,n,rg,st,ch,ph,su,fa,hd,()),true)
   else if op=5 then((id,fn,if rg.getD b.toNat 0=0 then pc+1 else n,rg,st,ch,ph,su,fa,hd,()),true)
   else if op=6/\rg.getD b.toNat 0=0 then((id,fn,pc,rg,st,ch,ph,3,26,hd,()),false)
   else if op=7 then((id,fn,pc,rg,st,ch,ph,2,0,hd,()),false)
   else((id,fn,pc+1,rg,st,ch,ph,su,fa,hd,()),true)
def mW:TD->Int->Int->TD
 | (id,fn,pc,rg,st,ch,ph,_,_,hd,_),s,f=>(id,fn,pc,rg,st,ch,ph,s,f,hd,())
def topS(fs:List FD) (bound:Int) (t:TD) (rest:ID->TD):TD:=match t with
 | (id,fn,pc,rg,st,ch,ph,su,fa,hd,_)=>match qm fs fn pc with
   | none=>(id,fn,pc,rg,st,ch,ph,2,0,hd,())
   | some i=>if jm i.1=true then
    (if iD id ch ph hd i≠0 then(id,fn,pc,rg,st,ch,ph,3,iD id ch ph hd i,hd,()) else if st=bound then(id,fn,pc,rg,st,ch,ph,4,0,hd,()) else(id,fn,pc,rg,st,ch,ph,su,fa,hd,()))
     else rest i
def dB(fs:List FD) (bound:Int):Nat->TD->TD
 | 0,t=>topS fs bound t λ_=>mW t 3 29
 | k+1,t=>topS fs bound t λi=>if(bF t i).2=true then dB fs bound k (bF t i).1 else(bF t i).1
def Jg(ms:List ByteArray) (fs:List FD) (bound:Int):TD->Prop
 | (id,fn,pc,rg,st,ch,ph,su,fa,hd,u)=>aQ ms fs bound (id,fn,pc,rg,st,ch,ph,su,fa,hd,u) /\
   (((su=1/\st < bound\/su=4/\1<=st)/\fa=0/\∃i,qm fs fn pc=some i/\jm i.1=true/\iD id ch ph hd i=0) \/
    (su=2/\fa=0/\ph=0/\∀i,qm fs fn pc=some i->i.1=7) \/
    (su=3/\ph=0/\∃i,qm fs fn pc=some i/\(fa=26/\i.1=6/\rg.getD i.2.2.1.toNat 0=0\/fa=29/\jm i.1=false\/fa≠26/\fa≠29/\fa≠0/\iD id ch ph hd i=fa)))
open Classical in
def y8(ms:List ByteArray) (fs:List FD) (bound:Int) (t:TD):Bool:=decide (Jg ms fs bound t)
theorem kK(h:qP i=0):(0<=i.2.1/\i.2.1 < 8)/\(0<=i.2.2.1/\i.2.2.1 < 8)/\(0<=i.2.2.2.1/\i.2.2.2.1 < 8)/\(1<=i.1/\i.1<=22):=by
 unfold qP nU at h;split at h
 .simp at h
 split at h
 .simp at h
 split at h
 .simp at h
 .rename_i h1 h2 h3;simp only[Qz,qc]at h1 h3;simp only[uM,yS,A94,iZ]at h1 h3;refine⟨?_,?_,?_,?_⟩<;>omega
theorem Zf(h:qP i=0) (h3:i.1=3):1<=i.2.2.2.2.2.2.1/\i.2.2.2.2.2.2.1<=10:=by
 unfold qP nU at h
 repeat' split at h
 all_goals first | (simp at h;done) | skip
 rename_i h1 h2 h4 h5 h6 h7;have hu:use i.1 5=true:=by rw[h3];rfl
 rw[hu]at h6
 by_cases hc:1<=i.2.2.2.2.2.2.1/\i.2.2.2.2.2.2.1<=10
 .exact hc
 .exfalso;apply h6;unfold sH;rw[if_neg hc];rfl
theorem ad3(h:qP i=0) (h1:i.1=1):dJ i.2.2.2.2.2.1=true:=by
 unfold qP nU at h
 repeat' split at h
 all_goals first | (simp at h;done) | skip
 rename_i q1 q2 q3 q4 q5 q6;simp[h1]at q6;unfold dJ;simp;omega
theorem Zg{x:FD} (hx:fs[k]?=some x){j:Nat} (hj:x.2.1[j]?=some i):(((k:Int),(j:Int),()),i,())∈dF fs:=by
 unfold dF;rw[yC k fs 0 hx];refine List.mem_append_right _ (List.mem_append_left _ ?_);unfold nN;rw[QS];refine⟨(i,j),?_,by simp⟩
 rw[List.mem_iff_getElem?];exact⟨j,by rw[aaQ,hj];simp⟩
theorem lV{fn:Int} (h:0<=fn/\fn < fs.length):∃x,fs[fn.toNat]?=some x/\codeF fs fn=x.2.1:=by
 have hl:fn.toNat < fs.length:=by omega
 refine⟨fs[fn.toNat],kW hl,?_⟩;unfold codeF;rw[Gu,kW hl];rfl
theorem BR(h:(bG vs ms cs fs ts).1=0){fn:Int} (hf:0<=fn/\fn < fs.length) (hi:qm fs fn pc=some i):tY vs ms cs fs i (codeF fs fn).length=0:=by
 obtain⟨c1,c2,c3⟩:=xu h;obtain⟨x,hx,ex⟩:=lV hf;unfold qm at hi;rw[ex]at hi ⊢;have:=adR c2 _ (Zg hx hi)
 rwa [Ef hx]at this
theorem qo(h:tY vs ms cs fs i m=0):qP i=0/\(0<=sJ vs ms cs fs i.1->0<=i.2.2.2.2.1/\i.2.2.2.2.1 < sJ vs ms cs fs i.1)/\(i.1=18->0<=i.2.2.2.2.2.1/\i.2.2.2.2.2.1 < ms.length)/\(i.1=4\/i.1=5->0<=i.2.2.2.2.2.1/\i.2.2.2.2.2.1<=m):=by
 unfold tY Wh at h;split at h
 .rename_i q;exact absurd h q
 split at h
 .cases h
 split at h
 .cases h
 split at h
 .cases h
 .rename_i q1 q2 q3 q4;refine⟨OM.1 q1,λh0=>?_,λh0=>?_,λh0=>?_⟩
  .omega
  .omega
  .omega
theorem xC{a:Nat}{v:Int} (h:∀k < 8,∀r,rg[k]?=some r->dJ r=true) (hv:dJ v=true):∀k < 8,∀r,(rg.set a v)[k]?=some r->dJ r=true:=by
 intro k hk r hr;rw[List.getElem?_set]at hr;split at hr
 .split at hr
  .cases hr;exact hv
  .cases hr
 .exact h k hk r hr
theorem Vm{b:Int} (h:∀k < 8,∀r,rg[k]?=some r->dJ r=true) (hb:0<=b/\b < 8):dJ (rg.getD b.toNat 0)=true:=by
 rw[Gu];cases hq:rg[b.toNat]? with
 | none=>rfl
 | some r=>exact h _ (by omega) r hq
theorem Zh(f a b:Int):dJ (dP f a b).1=true:=by
 have:=KY f a b;unfold dJ;simpa using this
theorem Oh{n:Nat} (h:0<=pc) (h2:pc.toNat < n):0<=pc+1/\pc+1<=(n:Int):=by omega
theorem aaC{fn:Int} (h:qm fs fn pc=some i):pc.toNat < (codeF fs fn).length:=(eU.1 h).1
theorem Vo{fn st ch ph su fa:Int}{hd:List Int}{u:Unit} (h:aQ ms fs bound (id,fn,pc,rg,st,ch,ph,su,fa,hd,u)) (hi:qm fs fn pc=some i) (hv:jm i.1=false):ph=0:=by
 rcases h.2.2.2.2.2.2.2.2 with e | ⟨_,j,hj,h18,_⟩
 .exact e
 .rw[hi]at hj;cases hj;rw[h18]at hv;cases hv
theorem Zi{fn st ch ph su fa:Int}{hd:List Int}{u:Unit} (h:aQ ms fs bound (id,fn,pc,rg,st,ch,ph,su,fa,hd,u)) (hi:qm fs fn pc=none):ph=0:=by
 rcases h.2.2.2.2.2.2.2.2 with e | ⟨_,j,hj,h18,_⟩
 .exact e
 .rw[hi]at hj;cases hj
theorem qp(hc:(bG vs ms cs fs ts).1=0){t:TD} (h:aQ ms fs bound t) (hi:qm fs t.2.1 t.2.2.1=some i) (hv:jm i.1=false):aQ ms fs bound (bF t i).1:=by
 obtain⟨id,fn,pc,rg,st,ch,ph,su,fa,hd,u⟩:=t;obtain⟨op,a,b,c,obj,n,f,ord,u2⟩:=i;have hi:qm fs fn pc=some (op,a,b,c,obj,n,f,ord,u2):=hi;have hp:=Vo h hi hv;have gY:=aaC hi;obtain⟨h1,h2,h3,h4,h5,h6,h7,h8,h9⟩:=h;have ok:=BR hc h2 hi;obtain⟨k1,k2,k3,k4⟩:=qo ok;obtain⟨r1,r2,r3,r4⟩:=kK k1;have k4:op=4\/op=5->0<=n/\n<=((codeF fs fn).length:Int):=k4;have hpc:=Oh h3.1 gY;have key:∀(pc':Int) (nV:List Int) (xJ y9:Int),(0<=pc'/\pc'<=((codeF fs fn).length:Int))->(∀k < 8,∀r,nV[k]?=some r->dJ r=true)->aQ ms fs bound (id,fn,pc',nV,st,ch,ph,xJ,y9,hd,()):=
  λpc' nV xJ y9 q1 q2=>⟨h1,h2,q1,q2,h5,h6,h7,h8,.inl hp⟩
 unfold bF;simp only;split
 .rename_i e;exact key _ _ _ _ hpc (xC h4 (ad3 k1 e))
 split
 .exact key _ _ _ _ hpc (xC h4 (Vm h4 r2))
 split
 .split
  .exact key _ _ _ _ hpc (xC h4 (Zh _ _ _))
  .exact key _ _ _ _ hpc h4
 split
 .rename_i e;exact key _ _ _ _ (k4 (.inl e)) h4
 split
 .rename_i e;split
  .exact key _ _ _ _ hpc h4
  .exact key _ _ _ _ (k4 (.inr e)) h4
 split
 .exact key _ _ _ _ h3 h4
 split
 .exact key _ _ _ _ h3 h4
 .exact key _ _ _ _ hpc h4
theorem o8(t:TD) (i:ID):(bF t i).1.1=t.1/\(bF t i).1.2.1=t.2.1/\(bF t i).1.2.2.2.2.1=t.2.2.2.2.1/\(bF t i).1.2.2.2.2.2.1=t.2.2.2.2.2.1/\(bF t i).1.2.2.2.2.2.2.1=t.2.2.2.2.2.2.1/\(bF t i).1.2.2.2.2.2.2.2.2.2.1=t.2.2.2.2.2.2.2.2.2.1/\((bF t i).2=true->(bF t i).1.2.2.2.2.2.2.2.1=t.2.2.2.2.2.2.2.1/\(bF t i).1.2.2.2.2.2.2.2.2.1=t.2.2.2.2.2.2.2.2.1):=by
 obtain⟨id,fn,pc,rg,st,ch,ph,su,fa,hd,u⟩:=t;obtain⟨op,a,b,c,obj,n,f,ord,u2⟩:=i;unfold bF;simp only
 repeat' split
 all_goals simp
theorem QI(id ch ph:Int) (hd:List Int) (i:ID):iD id ch ph hd i=0\/(ph=0/\(iD id ch ph hd i=27\/iD id ch ph hd i=28)):=by
 unfold iD
 repeat' split
 all_goals first | exact .inl rfl | (right;constructor<;>first | omega | simp)
theorem top_vld(hb:1<=bound){rest:ID->TD}{fn st ch ph:Int}{hd:List Int}{u:Unit} (h:aQ ms fs bound (id,fn,pc,rg,st,ch,ph,1,0,hd,u))
 (hr:∀i,qm fs fn pc=some i->jm i.1=false->ph=0->Jg ms fs bound (rest i)):Jg ms fs bound (topS fs bound (id,fn,pc,rg,st,ch,ph,1,0,hd,u) rest):=by
 unfold topS;simp only;split
 .rename_i hi;exact⟨h,.inr (.inl ⟨rfl,rfl,Zi h hi,λi q=>by rw[hi]at q;cases q⟩)⟩
 rename_i i hi;split
 .rename_i hv;have ho:=QI id ch ph hd i;split
  .rename_i e;refine⟨h,.inr (.inr ⟨rfl,by omega,i,hi,.inr (.inr ⟨by omega,by omega,by omega,rfl⟩)⟩)⟩
  .rename_i e;have e:iD id ch ph hd i=0:=by omega
   have hst:=h.2.2.2.2.1;split
   .exact⟨h,.inl ⟨.inr ⟨rfl,by omega⟩,rfl,i,hi,hv,e⟩⟩
   .exact⟨h,.inl ⟨.inl ⟨rfl,by omega⟩,rfl,i,hi,hv,e⟩⟩
 .rename_i hv;have hv:jm i.1=false:=by simpa using hv
  exact hr i hi hv (Vo h hi hv)
theorem Oi(hc:(bG vs ms cs fs ts).1=0) (hb:1<=bound):∀(k:Nat) (t:TD),aQ ms fs bound t->t.2.2.2.2.2.2.2.1=1->t.2.2.2.2.2.2.2.2.1=0->Jg ms fs bound (dB fs bound k t):=by
 intro k
 induction k with
 | zero=>
   rintro⟨id,fn,pc,rg,st,ch,ph,su,fa,hd,u⟩ h h1 h2;have h1:su=1:=h1;have h2:fa=0:=h2;subst h1;subst h2;rw[dB];refine top_vld hb h λi hi hv hp=>?_
   show Jg ms fs bound (id,fn,pc,rg,st,ch,ph,3,29,hd,());exact⟨h,.inr (.inr ⟨rfl,hp,i,hi,.inr (.inl ⟨rfl,hv⟩)⟩)⟩
 | succ k ih=>
   rintro⟨id,fn,pc,rg,st,ch,ph,su,fa,hd,u⟩ h h1 h2;have h1:su=1:=h1;have h2:fa=0:=h2;subst h1;subst h2;rw[dB];refine top_vld hb h λi hi hv hp=>?_
   have hf:=qp hc (t:=(id,fn,pc,rg,st,ch,ph,1,0,hd,u)) h hi hv;have hk:=o8 (id,fn,pc,rg,st,ch,ph,1,0,hd,u) i;split
   .rename_i e;exact ih _ hf (hk.2.2.2.2.2.2 e).1 (hk.2.2.2.2.2.2 e).2
   .rename_i e;obtain⟨op,a,b,c,obj,n,f,ord,u2⟩:=i;unfold bF at e ⊢;simp only at e ⊢
    by_cases n1:op=1
    .rw[if_pos n1]at e;exact absurd rfl e
    rw[if_neg n1]at e ⊢
    by_cases n2:op=2
    .rw[if_pos n2]at e;exact absurd rfl e
    rw[if_neg n2]at e ⊢
    by_cases n3:op=3
    .rw[if_pos n3]at e;exact absurd rfl e
    rw[if_neg n3]at e ⊢
    by_cases n4:op=4
    .rw[if_pos n4]at e;exact absurd rfl e
    rw[if_neg n4]at e ⊢
    by_cases n5:op=5
    .rw[if_pos n5]at e;exact absurd rfl e
    rw[if_neg n5]at e ⊢
    by_cases n6:op=6/\rg.getD b.toNat 0=0
    .rw[if_pos n6];exact⟨h,.inr (.inr ⟨rfl,hp,_,hi,.inl ⟨rfl,n6.1,n6.2⟩⟩)⟩
    rw[if_neg n6]at e ⊢
    by_cases n7:op=7
    .rw[if_pos n7];exact⟨h,.inr (.inl ⟨rfl,rfl,hp,λj hj=>by rw[hi]at hj;cases hj;exact n7⟩)⟩
    rw[if_neg n7]at e;exact absurd rfl e
def qQ(l o:List Int) (b:Bool):List Int:=l.filter λx=>gZ o x == b
def BU(l:List Int) (x:Int):List Int:=qQ (dD l) [x] false
def zf(l:List Int) (x:Int):List Int:=dD (l++[x])
theorem Vp(l:List Int) (x:Int):SS (BU l x):=List.Pairwise.filter _ (zC l)
theorem Oj{x:Int}:y∈BU l x↔y∈l/\y≠x:=by
 unfold BU qQ;rw[List.mem_filter,BL];have:(gZ [x] y == false)=true↔y≠x:=by
  rw[uo,vK,Wu]
 rw[this]
theorem Zj{x:Int}:y∈zf l x↔y∈l\/y=x:=by
 unfold zf;rw[BL];simp
def zT:TD:=(0,0,0,[0,0,0,0,0,0,0,0],0,0,0,0,0,[],())
def mX:TD->ID->Int->TD
 | (id,fn,pc,rg,st,ch,ph,su,fa,hd,_),i,result=>
   if i.1=18 then
    (if ph=0 then(id,fn,pc,if(kS i).2=true then rg.set (kS i).1.toNat result else rg,st+1,ch,1,su,fa,BU hd i.2.2.2.2.2.1,())
     else if ph=1 then(id,fn,pc,if(kS i).2=true then rg.set (kS i).1.toNat result else rg,st+1,ch,2,su,fa,hd,())
     else(id,fn,pc+1,if(kS i).2=true then rg.set (kS i).1.toNat result else rg,st+1,ch,0,su,fa,zf hd i.2.2.2.2.2.1,()))
   else(id,fn,pc+1,if(kS i).2=true then rg.set (kS i).1.toNat result else rg,st+1,if i.1=21 then ch+1 else ch,ph,su,fa,
    if i.1=15\/(i.1=17/\result≠0) then zf hd i.2.2.2.2.1 else if i.1=16 then BU hd i.2.2.2.2.1 else hd,())
theorem QJ{op:Int} (h:op=15\/op=16\/op=17):sJ vs ms cs fs op=ms.length:=by
 unfold sJ;rw[if_neg (by omega),if_pos h]
theorem Vq{t:TD} (h:Jg ms fs bound t) (h1:t.2.2.2.2.2.2.2.1=1):t.2.2.2.2.2.2.2.2.1=0/\t.2.2.2.2.1 < bound/\∃i,qm fs t.2.1 t.2.2.1=some i/\jm i.1=true/\iD t.1 t.2.2.2.2.2.1 t.2.2.2.2.2.2.1 t.2.2.2.2.2.2.2.2.2.1 i=0:=by
 obtain⟨id,fn,pc,rg,st,ch,ph,su,fa,hd,u⟩:=t;have h1:su=1:=h1;subst h1;obtain⟨hf,q | q | q⟩:=h
 .obtain⟨q1,q2,i,hi,hv,ho⟩:=q;rcases q1 with⟨_,q1⟩ | ⟨q1,_⟩
  .exact⟨q2,q1,i,hi,hv,ho⟩
  .exact absurd q1 (by decide)
 .exact absurd q.1 (by decide)
 .exact absurd q.1 (by decide)
theorem La(hc:(bG vs ms cs fs ts).1=0){t:TD} (h:Jg ms fs bound t) (h1:t.2.2.2.2.2.2.2.1=1) (hi:qm fs t.2.1 t.2.2.1=some i){result:Int} (hv:dJ result=true):aQ ms fs bound (mX t i result):=by
 obtain⟨f0,s0,j,hj,vj,oj⟩:=Vq h h1;rw[hi]at hj;cases hj;obtain⟨id,fn,pc,rg,st,ch,ph,su,fa,hd,u⟩:=t;have hf:aQ ms fs bound (id,fn,pc,rg,st,ch,ph,su,fa,hd,u):=h.1;have hi:qm fs fn pc=some i:=hi;have s0:st < bound:=s0;have oj:iD id ch ph hd i=0:=oj;have gY:=aaC hi;obtain⟨a1,a2,a3,a4,a5,a6,a7,a8,a9⟩:=hf;obtain⟨k1,k2,k3,k4⟩:=qo (BR hc a2 hi);have hpc:=Oh a3.1 gY;have hst:0<=st+1/\st+1<=bound:=⟨Int.add_nonneg a5.1 (by decide),s0⟩
 have hrg:∀k < 8,∀r,(if(kS i).2=true then rg.set (kS i).1.toNat result else rg)[k]?=some r->dJ r=true:=by
  split
  .exact xC a4 hv
  .exact a4
 have ad4:∀x,SS (BU hd x)/\∀m∈BU hd x,0<=m/\m < (ms.length:Int):=λx=>⟨Vp _ _,λm hm=>a8 m (Oj.1 hm).1⟩
 have hadd:∀x,0<=x/\x < (ms.length:Int)->SS (zf hd x)/\∀m∈zf hd x,0<=m/\m < (ms.length:Int):=λx hx=>⟨zC _,λm hm=>by
  rcases Zj.1 hm with q | q
  .exact a8 m q
  .subst q;exact hx⟩
 unfold mX;simp only;split
 .rename_i e;split
  .rename_i e0;subst e0;refine⟨a1,a2,a3,hrg,hst,a6,(ad4 _).1,(ad4 _).2,.inr ⟨.inl rfl,i,hi,e,?_⟩⟩;rw[vK];exact λq=>(Oj.1 q).2 rfl
  rename_i n0;have a10:=a9.resolve_left n0;split
  .exact⟨a1,a2,a3,hrg,hst,a6,a7,a8,.inr ⟨.inr rfl,a10.2⟩⟩
  .exact⟨a1,a2,hpc,hrg,hst,a6,(hadd _ (k3 e)).1,(hadd _ (k3 e)).2,.inl rfl⟩
 .rename_i e;have e0:ph=0:=by
   rcases a9 with q | ⟨_,j,hj,q,_⟩
   .exact q
   .rw[hi]at hj;cases hj;exact absurd q e
  subst e0;have hch:0<=(if i.1=21 then ch+1 else ch)/\(if i.1=21 then ch+1 else ch)<=7/\(bC id=4->(if i.1=21 then ch+1 else ch)=0):=by
   split
   .rename_i e21;have:(fV id ch).2=true:=by
     unfold iD at oj;rw[if_neg (by simp),if_neg e,if_neg (by omega),if_pos e21]at oj
     by_cases q:(fV id ch).2=true
     .exact q
     .rw[if_neg q]at oj;cases oj
    unfold fV at this;split at this
    .cases this
    .rename_i q;omega
   .exact a6
  refine⟨a1,a2,hpc,hrg,hst,hch,?_,?_,.inl rfl⟩
  .split
   .exact zC _
   split
   .exact Vp _ _
   .exact a7
  .split
   .rename_i q;have ho:=QJ (vs:=vs) (ms:=ms) (cs:=cs) (fs:=fs) (op:=i.1) (by omega)
    rw[ho]at k2;exact(hadd _ (k2 (by omega))).2
   split
   .exact(ad4 _).2
   .exact a8
def gU(e bound:Int):Int:=if e≠0 then e else if bound < 1\/32 < bound then 2 else 0
theorem mM{e:Int}:gU e bound=0↔e=0/\1<=bound/\bound<=32:=by
 unfold gU;constructor
 .intro h;split at h
  .rename_i q;exact absurd h q
  .rename_i q;split at h
   .cases h
   .omega
 .rintro⟨h1,h2,h3⟩;rw[if_neg (by omega),if_neg (by omega)]
def newS(e:Int) (fs:List FD) (bound id fn arg:Int):TD×Int:=
 if gU e bound≠0 then(zT,gU e bound) else if bC id < 0 then(zT,2) else if fn < 0\/(fs.length:Int)<=fn then(zT,11) else if dJ arg=false then(zT,2)
 else(dB fs bound 256 (id,fn,0,[arg,0,0,0,0,0,0,0],0,0,0,1,0,[],()),0)
theorem BX(ms:List ByteArray){fn arg:Int} (hb:1<=bound) (h1:¬bC id < 0) (h2:¬(fn < 0\/(fs.length:Int)<=fn)) (h3:¬dJ arg=false):aQ ms fs bound (id,fn,0,[arg,0,0,0,0,0,0,0],0,0,0,1,0,[],()):=by
 refine⟨by omega,by omega,by omega,λk hk r hr=>?_,by omega,⟨by omega,by omega,λ_=>rfl⟩,List.Pairwise.nil,λm hm=>(nomatch hm),.inl rfl⟩
 match k,hr with
 | 0,hr=>cases hr;simpa using h3
 | k+1,hr=>
   have:r=0:=by
    have:=kT (show[(0:Int),0,0,0,0,0,0][k]?=some r by simpa using hr)
    simpa using this
   rw[this];rfl
open Classical in
def iL(e:Int) (ms:List ByteArray) (fs:List FD) (bound:Int) (t:TD):TD×Int:=
 if gU e bound≠0 then(zT,gU e bound) else if¬aQ ms fs bound t\/t.2.2.2.2.2.2.2.2.1≠0 then(zT,1) else if t.2.2.2.2.2.2.2.1≠1 then(zT,30) else(dB fs bound 256 t,0)
open Classical in
def qR(e:Int) (ms:List ByteArray) (fs:List FD) (bound:Int) (t:TD) (result:Int):TD×Int:=
 if gU e bound≠0 then(zT,gU e bound) else if¬Jg ms fs bound t then(zT,1) else if t.2.2.2.2.2.2.2.1≠1 then(zT,30) else if dJ result=false then(zT,2)
 else(dB fs bound 256 (mX t (atR fs t.2.1 t.2.2.1).1 result),0)
theorem wrap32(n:Int):IntKind.i32.wrap (IntKind.u32.wrap n)=aB n:=by
 simp only[IntKind.wrap,IntKind.bits,IntKind.signed,aB];simp;split<;>omega
theorem aaD{x:Int} (hx:-2147483648<=x/\x<=2147483647) (hy:-2147483648<=y/\y<=2147483647):-9223372036854775808<=x * y/\x * y<=9223372036854775807:=by
 have h1:x.natAbs<=2147483648:=by omega
 have h2:y.natAbs<=2147483648:=by omega
 have h3:(x * y).natAbs<=2147483648 * 2147483648:=by rw[Int.natAbs_mul];exact Nat.mul_le_mul h1 h2
 omega
abbrev BZ:CT:={ ps:=[.int .i64],pre:=λd=>True,res:=λd=>([],.one (.c (.v (.int .i64 (aB d.1))))) }
theorem ad5(n:Int):
 let z1:=IntKind.i32.wrap (IntKind.u32.wrap n);iR z1/\qI (aB n) z1:=by
 conv=>zeta
 delta qI iR;have:=lT n;rw[wrap32];exact⟨aA.2 (by omega),rfl,rfl⟩
theorem zG:bJ bM.gd 22 BZ:=
 jA (cx:=bM) (n:=7) (cl:=[]) aF trivial Tryz.func22 λd hd=>by
  obtain⟨n,⟨⟩⟩:=d;exact cO (λ_=>none) (ad5 n) (by kernel_rfl)
abbrev aaE:CT:={ ps:=[.bool],pre:=λd=>True,res:=λd=>([],.one (.c (.v (.int .i64 (if d.1=true then 1 else 0))))) }
theorem ad6(b:Bool):
 let z1:=if b=true then(1:Int) else(0:Int);br b (qI z1 (1:Int)) (qI z1 (0:Int)):=by
 conv=>zeta
 delta qI;rw[ak];cases b<;>simp
theorem Zk:bJ bM.gd 78 aaE:=
 jA (cx:=bM) (n:=4) (cl:=[]) aF trivial Tryz.func78 λd hd=>by
  obtain⟨b,⟨⟩⟩:=d;exact cO (λ_=>none) (ad6 b) (by kernel_rfl)
abbrev Vr:CT:={ ps:=[.int .i64,.int .i64,.int .i64],pre:=λd=>True,res:=λd=>([],.iQ [.c (.v (.int .i64 (dP d.1 d.2.1 d.2.2.1).1)),.c (.v (.int .i64 (dP d.1 d.2.1 d.2.2.1).2))]) }
theorem ad7(f a b:Int):
 let z1:=[cI ((dP f a b).fst),cI ((dP f a b).snd)];True/\True/\br (decide (f=1)) (iR (aB a+aB b)/\True/\rT z1 [cI (aB (aB a+aB b)),cI 0]) (br (decide (f=2)) (iR (aB a - aB b)/\True/\rT z1 [cI (aB (aB a - aB b)),cI 0]) (br (decide (f=3)) (iR (aB a * aB b)/\True/\rT z1 [cI (aB (aB a * aB b)),cI 0]) (br (decide (f=4)) (True/\rT z1 [cI (aB (jF BinOp.and IntKind.i64 (aB a) (aB b))),cI 0]) (br (decide (f=5)) (True/\rT z1 [cI (aB (jF BinOp.or IntKind.i64 (aB a) (aB b))),cI 0]) (br (decide (f=6)) (True/\rT z1 [cI (aB (jF BinOp.xor IntKind.i64 (aB a) (aB b))),cI 0]) (br (decide (f=7)) (True/\rT z1 [cI (if decide (aB a=aB b)=true then(1:Int) else(0:Int)),cI 0]) (br (decide (f=8)) (True/\rT z1 [cI (if(!decide (aB a=aB b))=true then(1:Int) else(0:Int)),cI 0]) (br (decide (f=9)) (True/\rT z1 [cI (if decide (aB a < aB b)=true then(1:Int) else(0:Int)),cI 0]) (br (decide (f=10)) (True/\rT z1 [cI (if decide (aB a<=aB b)=true then(1:Int) else(0:Int)),cI 0]) (rT z1 [cI 0,cI 8])))))))))):=by
 conv=>zeta
 delta cI rT iR;have ha:=lT a;have hb:=lT b;have hm:=aaD ha hb;unfold dP;simp only[ak,iE,iZ]
 repeat' (first | (refine And.intro ?_ ?_) | (intro _))
 all_goals first | rfl | trivial | exact aA.2 (by omega) | (simp[*];done) | skip
theorem Ol:bJ bM.gd 56 Vr:=
 jA (cx:=bM) (n:=75) (cl:=[(22,BZ),(78,aaE)]) aF ⟨zG,Zk,trivial⟩ Tryz.func56 λd hd=>by
  obtain⟨f,a,b,⟨⟩⟩:=d;exact cO (λ_=>none) (ad7 f a b) (by kernel_rfl)
abbrev Om:CT:={ ps:=[.int .i64],pre:=λd=>True,res:=λd=>([],vB (jm d.1)) }
theorem ad8(op:Int):
 qB (jm op) (decide (8<=op) && decide (op<=22)):=by
 delta qB;refine⟨rfl,?_⟩;rw[show jm op=(decide (8<=op) && decide (op<=22)) by unfold jm;rw[Jb];simp]
theorem Gg:bJ bM.gd 34 Om:=
 jA (cx:=bM) (n:=9) (cl:=[]) aF trivial Tryz.func34 λd hd=>by
  obtain⟨op,⟨⟩⟩:=d;exact cO (λ_=>none) (ad8 op) (by kernel_rfl)
abbrev aaF:CT:={ ps:=[kC],pre:=λd=>True,res:=λd=>([],.iQ [.c (.v (.int .i64 (kS d.1).1)),.c (.v (.bool (kS d.1).2))]) }
theorem ad9(op a b c obj n fo ord:Int):
 let z4:=nU op a b c obj n fo ord=0;let z2:=!!decide z4;let z3:=kS (op,a,b,c,obj,n,fo,ord,());let z1:=[cI (z3.fst),cB (z3.snd)];True/\(z2=true->iR (op - 1))/\(z2=true->0<=op - 1/\op - 1 < (22:Int))/\∀(d:ByteArray×((Sh.arr 7 Sh.bool).pair Sh.unit).den),(z2=true->IL[(op - 1).toNat]?=some d)->(z2=true->(0:Int)<=(0:Int)/\0 < ((List.length d.snd.fst):Int))/\∀(iC:Bool),(z2=true->d.snd.fst[0]?=some iC)->br (!decide z4 || !iC) (rT z1 [cI 0,cB false]) (rT z1 [cI a,cB true]):=by
 conv=>zeta
 delta cI cB rT iR
 by_cases h:nU op a b c obj n fo ord=0
 .obtain⟨r1,r2,r3,r4⟩:=kK (i:=(op,a,b,c,obj,n,fo,ord,())) h;have r4:1<=op/\op<=22:=r4;refine⟨trivial,λ_=>aA.2 (by omega),λ_=>by omega,λd hd=>?_⟩
  have hd:=hd (by simp[h])
  obtain⟨nm,us,u⟩:=d;have hu:=IU r4 hd;subst hu;refine⟨λ_=>by simp,λd1 hd1=>?_⟩
  have hd1:use op 0=d1:=by simpa[h]using hd1
  subst hd1;rw[ak];have hc:qP (op,a,b,c,obj,n,fo,ord,())=0:=h;refine⟨λq=>?_,λq=>?_⟩
  .have q:use op 0=false:=by simpa[h]using q
   have e:kS (op,a,b,c,obj,n,fo,ord,())=(0,false):=by unfold kS;rw[if_pos (.inr q)]
   rw[e];exact⟨rfl,rfl⟩
  .have q:use op 0=true:=by simpa[h]using q
   have e:kS (op,a,b,c,obj,n,fo,ord,())=(a,true):=by unfold kS;rw[if_neg (by rw[hc];simp[q])]
   rw[e];exact⟨rfl,rfl⟩
 .have hc:¬qP (op,a,b,c,obj,n,fo,ord,())=0:=h;have e:kS (op,a,b,c,obj,n,fo,ord,())=(0,false):=by unfold kS;rw[if_pos (.inl hc)]
  rw[e];refine⟨trivial,λq=>by simp[h]at q,λq=>by simp[h]at q,λd hd=>⟨λq=>by simp[h]at q,λd1 hd1=>?_⟩⟩
  rw[ak];exact⟨λ_=>⟨rfl,rfl⟩,λq=>by simp[h]at q⟩
theorem Zl:bJ bM.gd 25 aaF:=
 jA (cx:=bM) (n:=19) (cl:=[(48,ac5)]) aF ⟨NR,trivial⟩ Tryz.func25 λd hd=>by
  obtain⟨⟨op,a,b,c,obj,n,fo,ord,⟨⟩⟩,⟨⟩⟩:=d;exact cO (λ_=>none) (ad9 op a b c obj n fo ord) (by kernel_rfl)
instance (l:List Int):Decidable (SS l):=inferInstanceAs (Decidable (l.Pairwise (· < ·)))
def vN(l:List Int):Bool:=decide (SS l)
theorem Lc:∀{l:List Int},(∀j x y,l[j]?=some x->l[j+1]?=some y->x < y)->SS l
 | [],_=>List.Pairwise.nil
 | [a],_=>by simp[SS]
 | a :: b :: l,h=>by
   have ih:SS (b :: l):=Lc λj x y h1 h2=>h (j+1) x y (by simpa using h1) (by simpa using h2)
   refine ZW.2 ⟨λz hz=>?_,ih⟩
   have hab:=h 0 a b rfl rfl;rcases jM.1 hz with rfl | hz
   .exact hab
   .have:=(ZW.1 ih).1 z hz;omega
theorem Vs(h:SS l){j:Nat}{x:Int} (h1:l[j]?=some x) (h2:l[j+1]?=some y):x < y:=by
 obtain⟨a1,a2⟩:=eU.1 h1;obtain⟨b1,b2⟩:=eU.1 h2;have:=List.pairwise_iff_getElem.1 h j (j+1) a1 b1 (by omega)
 omega
abbrev ctV:CT:={ ps:=[.sl (.int .i64)],pre:=λd=>d.1.length<=1000000,res:=λd=>([],vB (vN d.1)) }
abbrev agO(l:List Int):Nat->Option (St->mO):=λk=>match k with
 | 2=>some λ_=>.inv { α:=Nat,slots:=λk=>[(3,.c (.v (.int .i64 k)))],res:=λ_=>[],inv:=λk=>(1<=k/\(k<=l.length\/k=1))/\∀j,j+1 < k->∀x y,l[j]?=some x->l[j+1]?=some y->x < y,meas:=λk=>l.length - k }
 | _=>none
theorem aea(l:List Int) (aS:ctV.pre (l,())):
 (∃x,((1<=x/\(x<=l.length\/x=1))/\∀(j:Nat),j+1 < x->∀(x y:Int),l[j]?=some x->l[j+1]?=some y->x < y)/\(cI 1=cI (x:Int)/\True)/\([]:List o7)=[])/\∀(x:Nat),((1<=x/\(x<=l.length\/x=1))/\∀(j:Nat),j+1 < x->∀(x y:Int),l[j]?=some x->l[j+1]?=some y->x < y)->br (decide ((x:Int) < (l.length:Int))) (iR ((x:Int) - (1:Int))/\(0<=(x:Int) - (1:Int)/\(x:Int) - 1 < (l.length:Int))/\∀(d:Int),l[((x:Int) - (1:Int)).toNat]?=some d->(0<=(x:Int)/\(x:Int) < (l.length:Int))/\∀(iC:Int),l[(x:Int).toNat]?=some iC->br (decide (iC<=d)) (qB (vN l) false) (iR ((x:Int)+(1:Int))/\∃x',((1<=x'/\(x'<=l.length\/x'=1))/\∀(j:Nat),j+1 < x'->∀(x y:Int),l[j]?=some x->l[j+1]?=some y->x < y)/\(cI ((x:Int)+(1:Int))=cI (x':Int)/\True)/\([]:List o7)=[]/\l.length - x' < l.length - x)) (qB (vN l) true):=by
 delta o7 cI qB iR;have hp:l.length<=1000000:=aS;refine⟨⟨1,⟨⟨by omega,.inr rfl⟩,λj hj=>by omega⟩,⟨rfl,trivial⟩,rfl⟩,λk hk=>ak.2 ⟨λh=>?_,λh=>?_⟩⟩
 .simp only[iE]at h;have hk1:=hk.1.1;refine⟨aA.2 (by omega),by omega,λd hd=>⟨by omega,λe he=>?_⟩⟩
  have hd:l[k - 1]?=some d:=by rw[<-hd];congr 1;omega
  have he:l[k]?=some e:=by simpa using he
  have he':l[k - 1+1]?=some e:=by rw[show k - 1+1=k by omega];exact he
  refine ak.2 ⟨λh2=>?_,λh2=>⟨aA.2 (by omega),k+1,⟨⟨by omega,.inl (by omega)⟩,λj hj x y hx hy=>?_⟩,⟨by simp,trivial⟩,rfl,by omega⟩⟩
  .simp only[iE]at h2;have:vN l=false:=Ep λhs=>by have:=Vs hs hd he';omega
   rw[this];exact⟨rfl,rfl⟩
  .simp only[iZ]at h2
   by_cases ku:j+1=k
   .have hj':j=k - 1:=by omega
    subst hj';rw[hd]at hx;rw[he']at hy;cases hx;cases hy;omega
   .exact hk.2 j (by omega) x y hx hy
 .simp only[iZ]at h;have:vN l=true:=Wx (Lc λj x y hx hy=>hk.2 j (by have:=(eU.1 hy).1;omega) x y hx hy)
  rw[this];exact⟨rfl,rfl⟩
theorem Zm:bJ bM.gd 30 ctV:=
 jA (cx:=bM) (n:=20) (cl:=[]) aF trivial Tryz.func30 λd hd=>by
  obtain⟨l,⟨⟩⟩:=d;exact cO (agO l) (aea l hd) (by kernel_rfl)
abbrev Cb:CT:={ ps:=[.sl (.int .i64),.sl (.int .i64),.bool],pre:=λd=>d.1.length<=1000000/\d.2.1.length<=1000000,res:=λd=>([.row 3 (.int .i64) (qQ (dD d.1) d.2.1 d.2.2.1)],.one (.c (.row 0))) }
abbrev agP(l o:List Int) (b:Bool):Nat->Option (St->mO):=λk=>match k with
 | 3=>some λ_=>.inv { α:=Nat,slots:=λk=>[(13,.c (.v (.int .i64 k))),(7,.c (.row 1))],res:=λk=>[(1,.row 3 (.int .i64) (qQ ((dD l).take k) o b))],inv:=λk=>k<=(dD l).length,meas:=λk=>(dD l).length - k,nil:=[(7,3,.int .i64)] }
 | _=>none
theorem aeb(l o:List Int) (b:Bool) (aS:Cb.pre (l,o,b,())):
 let z3:=λ(x:Nat)=>qQ (List.take x (dD l)) o b;let z2:=λ(x:Nat)=>[g0 (aC.row 3 I6 (dD l)),g0 (aC.row 3 I6 (z3 x))];let z1:=λ(x x':Nat)=>cI ((x:Int)+(1:Int))=cI (x':Int)/\SV.c (SC.row 1)=SV.c (SC.row 1)/\True;l.length<=1000000/\(∃x,x<=(dD l).length/\(cI 0=cI (x:Int)/\SV.c (SC.row (Nat.succ 0))=SV.c (SC.row 1)/\True)/\[g0 (aC.row 3 I6 (dD l)),g0 (aC.row 3 I6 [])]=(z2 x))/\∀(x:Nat),x<=(dD l).length->br (decide ((x:Int) < (↑(dD l).length:Int))) ((0<=(x:Int)/\(x:Int) < (↑(dD l).length:Int))/\(x:Int).toNat < (dD l).length/\∀(d:Int),(dD l)[(x:Int).toNat]?=some d->o.length<=4611686018427387904/\br (gZ o d == b) (wE (List.length (z3 x)+List.length ([d])) 8/\iR ((x:Int)+(1:Int))/\∃x',x'<=(dD l).length/\(z1 x x')/\[g0 (aC.row 3 I6 (dD l)),g0 (aC.row 3 I6 (qQ (List.take x (dD l)) o b++[d]))]=(z2 x')/\(dD l).length - x' < (dD l).length - x) (iR ((x:Int)+(1:Int))/\∃x',x'<=(dD l).length/\(z1 x x')/\(z2 x)=(z2 x')/\(dD l).length - x' < (dD l).length - x)) ([aC.row 3 I6 (qQ (dD l) o b)]=[aC.row 3 I6 (z3 x)]/\aW.one (SV.c (SC.row 0))=aW.one (SV.c (SC.row 0))):=by
 conv=>zeta
 delta cI g0 I6 iR;have hp:l.length<=1000000/\o.length<=1000000:=aS;have hm:=U2 l;have hf:∀k,(qQ ((dD l).take k) o b).length<=1000000:=λk=>by
  refine o9 (List.length_filter_le _ _) ?_;rw[mY];omega
 refine⟨hp.1,⟨0,by omega,⟨rfl,rfl,trivial⟩,by simp[qQ]⟩,λk hk=>ak.2 ⟨λh=>?_,λh=>?_⟩⟩
 .simp only[iE]at h;refine⟨⟨by omega,h⟩,by omega,λd hd=>?_⟩
  have hd:(dD l)[k]?=some d:=by simpa using hd
  have e:qQ ((dD l).take (k+1)) o b=qQ ((dD l).take k) o b++(if gZ o d == b then[d] else[]):=by
   unfold qQ;rw[OV,hd,Option.toList_some,List.filter_append]
   congr 1
   simp only[List.filter_cons,List.filter_nil]
  refine⟨by omega,ak.2 ⟨λh2=>⟨?_,aA.2 (by omega),k+1,by omega,⟨by simp,rfl,trivial⟩,?_,by omega⟩,λh2=>⟨aA.2 (by omega),k+1,by omega,⟨by simp,rfl,trivial⟩,?_,by omega⟩⟩⟩
  .have:=hf k;rw[lJ];simp;omega
  .rw[e,h2];rfl
  .rw[e,h2];simp
 .simp only[iZ]at h;rw[Gy (by omega)];exact⟨rfl,rfl⟩
theorem Zn:bJ bM.gd 50 Cb:=
 jA (cx:=bM) (n:=28) (cl:=[(49,xk),(55,NU)]) aF ⟨NW,NV,trivial⟩ Tryz.func50 λd hd=>by
  obtain⟨l,o,b,⟨⟩⟩:=d;exact cO (agP l o b) (aeb l o b hd) (by kernel_rfl)
abbrev Oo:CT:={ ps:=[.sl (.int .i64),.int .i64],pre:=λd=>d.1.length<=1000000,res:=λd=>([.row 3 (.int .i64) (qQ (dD d.1) [d.2.1] false)],.one (.c (.row 0))) }
theorem aec(l:List Int) (x:Int) (aS:Oo.pre (l,x,())):
 let z1:=[aC.row (3:TypeId) UZ (qQ (dD l) [x] false)];(l.length<=(1000000:Nat)/\[x].length<=(1000000:Nat))/\z1=z1/\aW.one IQ=aW.one IQ:=by
 conv=>zeta
 delta UZ IQ;have hp:l.length<=1000000:=aS;exact⟨⟨hp,by simp⟩,rfl,rfl⟩
theorem Oq:bJ bM.gd 28 Oo:=
 jA (cx:=bM) (n:=9) (cl:=[(50,Cb)]) aF ⟨Zn,trivial⟩ Tryz.func28 λd hd=>by
  obtain⟨l,x,⟨⟩⟩:=d;exact cO (λ_=>none) (aec l x hd) (by kernel_rfl)
abbrev Vt:CT:={ ps:=[.int .i64],pre:=λd=>0<=d.1/\d.1<=9223372036854775807,res:=λd=>([],.iQ [.c (.v (.int .i64 (d.1.tdiv 8 - 1))),.c (.v (.int .i64 (d.1.tmod 8)))]) }
theorem aed(id:Int) (aS:Vt.pre (id,())):
 let z2:=id.tdiv (8:Int) - (1:Int);let z1:=[cI z2,cI (id.tmod (8:Int))];(8:Int)≠(0:Int)/\iR (id.tdiv (8:Int))/\iR z2/\(8:Int)≠(0:Int)/\rT z1 z1:=by
 conv=>zeta
 delta cI rT iR;have hp:0<=id/\id<=9223372036854775807:=aS;have e:id.tdiv 8=id / 8:=A74 hp.1;exact⟨by decide,aA.2 (by omega),aA.2 (by omega),by decide,rfl,rfl⟩
theorem Zo:bJ bM.gd 47 Vt:=
 jA (cx:=bM) (n:=9) (cl:=[]) aF trivial Tryz.func47 λd hd=>by
  obtain⟨id,⟨⟩⟩:=d;exact cO (λ_=>none) (aed id hd) (by kernel_rfl)
abbrev I5:CT:={ ps:=[.int .i64],pre:=λd=>d.1<=9223372036854775807,res:=λd=>([],.one (.c (.v (.int .i64 (bC d.1))))) }
abbrev agQ(id:Int):Nat->Option (St->mO):=λk=>match k with
 | 4=>some λ_=>.inv { α:=Nat×Int,slots:=λx=>[(8,.c (.v (.int .i64 x.1))),(0,.c (.v (.int .i64 x.2)))],res:=λ_=>[],inv:=λx=>x.1<=5/\0<=x.2/\x.2<=9223372036854775807/\fK (5 - x.1) x.1 x.2=bC id,meas:=λx=>5 - x.1 }
 | _=>none
theorem aee(id:Int) (aS:I5.pre (id,())):
 let z2:=qI (bC id) (-1:Int);let z1:=λ(x:Nat×Int)=>x.fst<=5/\0<=x.snd/\x.snd<=9223372036854775807/\fK (5 - x.fst) (x.fst:Int) x.snd=bC id;br (decide (id < 0)) z2 ((∃(x:Nat×Int),(z1 x)/\(cI 0=cI (x.fst:Int)/\cI id=cI x.snd/\True)/\([]:List o7)=[])/\∀(x:Nat×Int),x.fst<=5/\0<=x.snd/\x.snd<=9223372036854775807/\fK (5 - x.fst) (x.fst:Int) x.snd=bC id->br (decide ((x.fst:Int) < (5:Int))) (br (decide (x.snd < 8)) (qI (bC id) (x.fst:Int)) ((0<=x.snd/\x.snd<=9223372036854775807)/\br (decide (7<=x.snd.tmod (8:Int))) z2 (iR ((x.fst:Int)+(1:Int))/\∃(x':Nat×Int),(z1 x')/\(cI ((x.fst:Int)+(1:Int))=cI (x'.fst:Int)/\cI (x.snd.tdiv (8:Int) - (1:Int))=cI x'.snd/\True)/\([]:List o7)=[]/\5 - x'.fst < 5 - x.fst))) z2):=by
 conv=>zeta
 delta o7 cI qI iR;have hp:id<=9223372036854775807:=aS;refine ak.2 ⟨λh=>?_,λh=>?_⟩
 .simp only[iE]at h;have e:bC id = -1:=by unfold bC;rw[if_pos h]
  rw[e];exact⟨rfl,rfl⟩
 simp only[iZ]at h;refine⟨⟨(0,id),⟨by omega,by simp only;omega,hp,by unfold bC;rw[if_neg h];rfl⟩,⟨rfl,rfl,trivial⟩,rfl⟩,λx hx=>ak.2 ⟨λh2=>?_,λh2=>?_⟩⟩
 .obtain⟨x1,x2,x3,x4⟩:=hx;simp only[iE]at h2;obtain⟨m,hm⟩:∃m,5 - x.1=m+1:=⟨4 - x.1,by omega⟩
  rw[hm,fK]at x4;refine ak.2 ⟨λh3=>?_,λh3=>⟨⟨x2,x3⟩,ak.2 ⟨λh4=>?_,λh4=>?_⟩⟩⟩
  .simp only[iE]at h3;rw[if_pos h3]at x4;rw[<-x4];exact⟨rfl,rfl⟩
  .simp only[iE,iZ]at h3 h4;rw[if_neg h3,if_pos h4]at x4;rw[<-x4];exact⟨rfl,rfl⟩
  .simp only[iZ]at h3 h4;rw[if_neg h3,if_neg h4]at x4;have e:x.2.tdiv 8=x.2 / 8:=A74 x2;refine⟨aA.2 (by omega),(x.1+1,x.2.tdiv 8 - 1),⟨by simp only;omega,by simp only;omega,by simp only;omega,?_⟩,⟨rfl,rfl,trivial⟩,rfl,by simp only;omega⟩
   rw[<-x4,show 5 - (x.1+1)=m by omega];rfl
 .obtain⟨x1,x2,x3,x4⟩:=hx;simp only[iZ]at h2;rw[show 5 - x.1=0 by omega]at x4
  rw[<-x4];exact⟨rfl,rfl⟩
theorem Gh:bJ bM.gd 21 I5:=
 jA (cx:=bM) (n:=23) (cl:=[(47,Vt)]) aF ⟨Zo,trivial⟩ Tryz.func21 λd hd=>by
  obtain⟨id,⟨⟩⟩:=d;exact cO (agQ id) (aee id hd) (by kernel_rfl)
abbrev Ot:CT:={ ps:=[dK],pre:=λd=>d.1.1<=9223372036854775807,res:=λd=>([],.iQ [.c (.v (.int .i64 (fV d.1.1 d.1.2.2.2.2.2.1).1)),.c (.v (.bool (fV d.1.1 d.1.2.2.2.2.2.1).2))]) }
theorem aef(id fn pc:Int) (rg:List Int) (st ch ph su fa:Int) (he:List Int) (aS:Ot.pre ((id,fn,pc,rg,st,ch,ph,su,fa,he,()),())):
 let z1:=[cI ((fV id ch).fst),cB ((fV id ch).snd)];id<=9223372036854775807/\br (decide (bC id < 0) || decide (bC id=4) || decide (ch < 0) || decide (7<=ch)) (rT z1 [cI 0,cB false]) (iR (id+1)/\iR ((8:Int) * (id+1))/\iR ((8:Int) * (id+1)+ch)/\rT z1 [cI ((8:Int) * (id+1)+ch),cB true]):=by
 conv=>zeta
 delta cI cB rT iR;refine⟨aS,ak.2 ⟨λh=>?_,λh=>?_⟩⟩
 .have e:fV id ch=(0,false):=by
   unfold fV;rw[if_pos (by simpa[or_assoc]using h)]
  rw[e];exact⟨rfl,rfl⟩
 .simp only[pz,iZ]at h;have e:fV id ch=(8 * (id+1)+ch,true):=by
   unfold fV;rw[if_neg (by omega)]
  have:=uf (id:=id) (by omega)
  rw[e];exact⟨aA.2 (by omega),aA.2 (by omega),aA.2 (by omega),rfl,rfl⟩
theorem Ou:bJ bM.gd 14 Ot:=
 jA (cx:=bM) (n:=31) (cl:=[(21,I5)]) aF ⟨Gh,trivial⟩ Tryz.func14 λd hd=>by
  obtain⟨⟨id,fn,pc,rg,st,ch,ph,su,fa,he,⟨⟩⟩,⟨⟩⟩:=d;exact cO (λ_=>none) (aef id fn pc rg st ch ph su fa he hd) (by kernel_rfl)
abbrev Ld:CT:={ ps:=[qN,dK],pre:=λd=>0<=d.2.1.2.1/\d.2.1.2.1 < d.1.2.2.2.1.length/\0<=d.2.1.2.2.1,res:=λd=>([],.iQ [.agg [.v (.int .i64 ((atR d.1.2.2.2.1 d.2.1.2.1 d.2.1.2.2.1).1).1),.v (.int .i64 ((atR d.1.2.2.2.1 d.2.1.2.1 d.2.1.2.2.1).1).2.1),.v (.int .i64 ((atR d.1.2.2.2.1 d.2.1.2.1 d.2.1.2.2.1).1).2.2.1),.v (.int .i64 ((atR d.1.2.2.2.1 d.2.1.2.1 d.2.1.2.2.1).1).2.2.2.1),.v (.int .i64 ((atR d.1.2.2.2.1 d.2.1.2.1 d.2.1.2.2.1).1).2.2.2.2.1),.v (.int .i64 ((atR d.1.2.2.2.1 d.2.1.2.1 d.2.1.2.2.1).1).2.2.2.2.2.1),.v (.int .i64 ((atR d.1.2.2.2.1 d.2.1.2.1 d.2.1.2.2.1).1).2.2.2.2.2.2.1),.v (.int .i64 ((atR d.1.2.2.2.1 d.2.1.2.1 d.2.1.2.2.1).1).2.2.2.2.2.2.2.1)],.c (.v (.bool (atR d.1.2.2.2.1 d.2.1.2.1 d.2.1.2.2.1).2))]) }
theorem aeg(vs:List VD) (ms cs:List ByteArray) (fs:List FD) (ts:List SD) (id fn pc:Int) (rg:List Int) (st ch ph su fa:Int) (he:List Int) (aS:Ld.pre ((vs,ms,cs,fs,ts,()),(id,fn,pc,rg,st,ch,ph,su,fa,he,()),())):
 let z1:=[SV.agg [v6 ((atR fs fn pc).fst.fst),v6 ((atR fs fn pc).fst.snd.fst),v6 ((atR fs fn pc).fst.snd.snd.fst),v6 ((atR fs fn pc).fst.snd.snd.snd.fst),v6 ((atR fs fn pc).fst.snd.snd.snd.snd.fst),v6 ((atR fs fn pc).fst.snd.snd.snd.snd.snd.fst),v6 ((atR fs fn pc).fst.snd.snd.snd.snd.snd.snd.fst),v6 ((atR fs fn pc).fst.snd.snd.snd.snd.snd.snd.snd.fst)],cB ((atR fs fn pc).snd)];(0<=fn/\fn < (fs.length:Int))/\∀(d:ByteArray×(kC.sl.pair Sh.unit).den),fs[fn.toNat]?=some d->br (decide (((List.length d.snd.fst):Int)<=pc)) (rT z1 [SV.agg [v6 0,v6 0,v6 0,v6 0,v6 0,v6 0,v6 0,v6 0],cB false]) ((0<=pc/\pc < ((List.length d.snd.fst):Int))/\∀(iC:ID),d.snd.fst[pc.toNat]?=some iC->rT z1 [SV.agg [v6 iC.fst,v6 iC.snd.fst,v6 iC.snd.snd.fst,v6 iC.snd.snd.snd.fst,v6 iC.snd.snd.snd.snd.fst,v6 iC.snd.snd.snd.snd.snd.fst,v6 iC.snd.snd.snd.snd.snd.snd.fst,v6 iC.snd.snd.snd.snd.snd.snd.snd.fst],cB true]):=by
 conv=>zeta
 delta v6 cB rT I6;obtain⟨h1,h2,h3⟩:0<=fn/\fn < (fs.length:Int)/\0<=pc:=aS;refine⟨⟨h1,h2⟩,λx hx=>?_⟩
 obtain⟨y,hy,ey⟩:=lV ⟨h1,h2⟩;rw[hx]at hy;cases hy;refine ak.2 ⟨λh=>?_,λh=>?_⟩
 .simp only[iE]at h;have e:atR fs fn pc=((0,0,0,0,0,0,0,0,()),false):=by
   unfold atR qm;rw[ey,LJ (by omega)]
  rw[e];exact⟨rfl,rfl⟩
 .simp only[iZ]at h;refine⟨⟨h3,by omega⟩,λi hi=>?_⟩
  have e:atR fs fn pc=(i,true):=by
   unfold atR qm;rw[ey,hi]
  rw[e];exact⟨rfl,rfl⟩
theorem xE:bJ bM.gd 24 Ld:=
 jY (cx:=bM) (n:=25) (cl:=[]) (rc:=[]) aF trivial Tryz.func24 λd hd=>by
  obtain⟨⟨vs,ms,cs,fs,ts,⟨⟩⟩,⟨id,fn,pc,rg,st,ch,ph,su,fa,he,⟨⟩⟩,⟨⟩⟩:=d;exact cO (λ_=>none) (aeg vs ms cs fs ts id fn pc rg st ch ph su fa he hd) (by kernel_rfl)
abbrev Vu:CT:={ ps:=[dK,.int .i64,.int .i64],pre:=λd=>True,res:=λd=>([],.one (.dat dK (mW d.1 d.2.1 d.2.2.1))) }
theorem aeh(id fn pc:Int) (rg:List Int) (st ch ph su fa:Int) (he:List Int) (s f:Int):
 rE (aW.one (SV.dat dK (mW (id,fn,pc,rg,st,ch,ph,su,fa,he,()) s f))) (aW.one (SV.dat dK ((id,fn,pc,rg,st,ch,ph,s,f,he,())))):=by
 delta rE I6;exact⟨rfl,rfl⟩
theorem Ov:bJ bM.gd 33 Vu:=
 jY (cx:=bM) (n:=12) (cl:=[]) (rc:=[.data dK]) aF trivial Tryz.func33 λd hd=>by
  obtain⟨⟨id,fn,pc,rg,st,ch,ph,su,fa,he,⟨⟩⟩,s,f,⟨⟩⟩:=d;exact cO (λ_=>none) (aeh id fn pc rg st ch ph su fa he s f) (by kernel_rfl)
abbrev I7:CT:={ ps:=[dK,kC],pre:=λd=>d.1.2.2.2.2.2.2.2.2.2.1.length<=1000000/\d.1.1<=9223372036854775807,res:=λd=>([],.one (.c (.v (.int .i64 (iD d.1.1 d.1.2.2.2.2.2.1 d.1.2.2.2.2.2.2.1 d.1.2.2.2.2.2.2.2.2.2.1 d.2.1))))) }
theorem aei(id fn pc:Int) (rg:List Int) (st ch ph su fa:Int) (he:List Int) (op a b c obj n fo ord:Int) (aS:I7.pre ((id,fn,pc,rg,st,ch,ph,su,fa,he,()),(op,a,b,c,obj,n,fo,ord,()),())):
 let z3:=iD id ch ph he (op,a,b,c,obj,n,fo,ord,());let z2:=qI z3 (0:Int);let z1:=qI z3 (27:Int);br (!decide (ph=0)) z2 (br (decide (op=18)) (he.length<=1000000/\br (!gZ he n) z1 z2) (br (decide (op=16)) (he.length<=1000000/\br (!gZ he obj) z1 z2) (br (decide (op=21)) (id<=9223372036854775807/\br (!(fV id ch).snd) (qI z3 (28:Int)) z2) z2))):=by
 conv=>zeta
 delta qI;obtain⟨h1,h2⟩:he.length<=1000000/\id<=9223372036854775807:=aS;unfold iD;simp only[ak]
 repeat' (first | exact h1 | exact h2 | (refine And.intro ?_ ?_) | (intro _))
 all_goals first | rfl | (simp_all;done)
theorem Gi:bJ bM.gd 35 I7:=
 jA (cx:=bM) (n:=35) (cl:=[(31,NY),(14,Ot)]) aF ⟨NZ,Ou,trivial⟩ Tryz.func35 λd hd=>by
  obtain⟨⟨id,fn,pc,rg,st,ch,ph,su,fa,he,⟨⟩⟩,⟨op,a,b,c,obj,n,fo,ord,⟨⟩⟩,⟨⟩⟩:=d;exact cO (λ_=>none) (aei id fn pc rg st ch ph su fa he op a b c obj n fo ord hd) (by kernel_rfl)
theorem aP{c:Prop} [Decidable c] {A B:Prop}:br (decide c) A B↔(c->A)/\(¬c->B):=by
 rw[ak,iE,iZ]
abbrev Vw:CT:={ ps:=[dK,kC],pre:=λd=>(0<=d.2.1.2.1/\d.2.1.2.1 < 8)/\(0<=d.2.1.2.2.1/\d.2.1.2.2.1 < 8)/\(0<=d.2.1.2.2.2.1/\d.2.1.2.2.2.1 < 8)/\0<=d.1.2.2.1/\d.1.2.2.1<=1000000,res:=λd=>([],.iQ [.dat dK (bF d.1 d.2.1).1,.c (.v (.bool (bF d.1 d.2.1).2))]) }
theorem aej(id fn pc:Int) (rg:List Int) (st ch ph su fa:Int) (he:List Int) (op a b c obj n fo ord:Int) (aS:Vw.pre ((id,fn,pc,rg,st,ch,ph,su,fa,he,()),(op,a,b,c,obj,n,fo,ord,()),())):
 let z5:=(id,fn,pc,rg,st,ch,ph,su,fa,he,());let z4:=bF z5 (op,a,b,c,obj,n,fo,ord,());let z3:=[SV.dat dK z4.fst,cB (z4.snd)];let z1:=rT z3 [SV.dat dK ((id,fn,pc+1,rg,st,ch,ph,su,fa,he,())),cB true];let z2:=rT z3 [SV.dat dK ((id,fn,n,rg,st,ch,ph,su,fa,he,())),cB true];iR (pc+1)/\br (decide (op=1)) ((0<=a/\a < 8)/\a.toNat < 8/\rT z3 [SV.dat dK ((id,fn,pc+1,rg.set a.toNat n,st,ch,ph,su,fa,he,())),cB true]) (br (decide (op=2)) ((0<=b/\b < 8)/\b.toNat < 8/\∀(d:Int),rg[b.toNat]?=some d->(0<=a/\a < 8)/\a.toNat < 8/\rT z3 [SV.dat dK ((id,fn,pc+1,rg.set a.toNat d,st,ch,ph,su,fa,he,())),cB true]) (br (decide (op=3)) ((0<=b/\b < 8)/\b.toNat < 8/\∀(d:Int),rg[b.toNat]?=some d->(0<=c/\c < 8)/\c.toNat < 8/\∀(iC:Int),rg[c.toNat]?=some iC->True/\br (decide ((dP fo d iC).snd=0)) ((0<=a/\a < 8)/\a.toNat < 8/\rT z3 [SV.dat dK ((id,fn,pc+1,rg.set a.toNat (dP fo d iC).fst,st,ch,ph,su,fa,he,())),cB true]) z1) (br (decide (op=5)) ((0<=b/\b < 8)/\b.toNat < 8/\∀(d:Int),rg[b.toNat]?=some d->br (decide (d=0)) z1 z2) (br (decide (op=4)) z2 (br (decide (op=6)) ((0<=b/\b < 8)/\b.toNat < 8/\∀(d:Int),rg[b.toNat]?=some d->br (decide (d=0)) (True/\rT z3 [SV.dat dK (mW z5 (3:Int) (26:Int)),cB false]) z1) (br (decide (op=7)) (True/\rT z3 [SV.dat dK (mW z5 (2:Int) (0:Int)),cB false]) z1)))))):=by
 conv=>zeta
 delta cB rT I6 iR;obtain⟨hA,hB,hC,hp0,hp1⟩:(0<=a/\a < 8)/\(0<=b/\b < 8)/\(0<=c/\c < 8)/\0<=pc/\pc<=1000000:=aS;have Vx:a.toNat < 8:=by omega
 have QK:b.toNat < 8:=by omega
 have hC8:c.toNat < 8:=by omega
 have gd:∀{x d:Int},rg[x.toNat]?=some d->rg.getD x.toNat 0=d:=λhd=>by rw[Gu,hd];rfl
 refine⟨aA.2 (by omega),aP.2 ⟨λh=>?_,λh=>aP.2 ⟨λh2=>?_,λh2=>aP.2 ⟨λh3=>?_,λh3=>aP.2 ⟨λh4=>?_,λh4=>aP.2 ⟨λh5=>?_,λh5=>aP.2 ⟨λh6=>?_,λh6=>aP.2 ⟨λh7=>?_,λh7=>?_⟩⟩⟩⟩⟩⟩⟩⟩
 .have e:bF (id,fn,pc,rg,st,ch,ph,su,fa,he,()) (op,a,b,c,obj,n,fo,ord,())=((id,fn,pc+1,rg.set a.toNat n,st,ch,ph,su,fa,he,()),true):=by simp only[bF,if_pos h]
  rw[e];exact⟨hA,Vx,rfl,rfl⟩
 .refine⟨hB,QK,λd hd=>?_⟩
  have e:bF (id,fn,pc,rg,st,ch,ph,su,fa,he,()) (op,a,b,c,obj,n,fo,ord,())=((id,fn,pc+1,rg.set a.toNat d,st,ch,ph,su,fa,he,()),true):=by simp only[bF,if_neg h,if_pos h2,gd hd]
  rw[e];exact⟨hA,Vx,rfl,rfl⟩
 .refine⟨hB,QK,λd hd=>⟨hC,hC8,λd1 hd1=>⟨trivial,aP.2 ⟨λh8=>?_,λh8=>?_⟩⟩⟩⟩
  .have e:bF (id,fn,pc,rg,st,ch,ph,su,fa,he,()) (op,a,b,c,obj,n,fo,ord,())=((id,fn,pc+1,rg.set a.toNat (dP fo d d1).1,st,ch,ph,su,fa,he,()),true):=by simp only[bF,if_neg h,if_neg h2,if_pos h3,gd hd,gd hd1,if_pos h8]
   rw[e];exact⟨hA,Vx,rfl,rfl⟩
  .have e:bF (id,fn,pc,rg,st,ch,ph,su,fa,he,()) (op,a,b,c,obj,n,fo,ord,())=((id,fn,pc+1,rg,st,ch,ph,su,fa,he,()),true):=by simp only[bF,if_neg h,if_neg h2,if_pos h3,gd hd,gd hd1,if_neg h8]
   rw[e];exact⟨rfl,rfl⟩
 .have h45:¬op=4:=by omega
  refine⟨hB,QK,λd hd=>aP.2 ⟨λh8=>?_,λh8=>?_⟩⟩
  .have e:bF (id,fn,pc,rg,st,ch,ph,su,fa,he,()) (op,a,b,c,obj,n,fo,ord,())=((id,fn,pc+1,rg,st,ch,ph,su,fa,he,()),true):=by simp only[bF,if_neg h,if_neg h2,if_neg h3,if_neg h45,if_pos h4,gd hd,if_pos h8]
   rw[e];exact⟨rfl,rfl⟩
  .have e:bF (id,fn,pc,rg,st,ch,ph,su,fa,he,()) (op,a,b,c,obj,n,fo,ord,())=((id,fn,n,rg,st,ch,ph,su,fa,he,()),true):=by simp only[bF,if_neg h,if_neg h2,if_neg h3,if_neg h45,if_pos h4,gd hd,if_neg h8]
   rw[e];exact⟨rfl,rfl⟩
 .have e:bF (id,fn,pc,rg,st,ch,ph,su,fa,he,()) (op,a,b,c,obj,n,fo,ord,())=((id,fn,n,rg,st,ch,ph,su,fa,he,()),true):=by simp only[bF,if_neg h,if_neg h2,if_neg h3,if_pos h5]
  rw[e];exact⟨rfl,rfl⟩
 .refine⟨hB,QK,λd hd=>aP.2 ⟨λh8=>?_,λh8=>?_⟩⟩
  .have e:bF (id,fn,pc,rg,st,ch,ph,su,fa,he,()) (op,a,b,c,obj,n,fo,ord,())=((id,fn,pc,rg,st,ch,ph,3,26,he,()),false):=by simp only[bF,if_neg h,if_neg h2,if_neg h3,if_neg h5,if_neg h4,gd hd];rw[if_pos ⟨h6,h8⟩]
   rw[e];exact⟨trivial,rfl,rfl⟩
  .have h67:¬op=7:=by omega
   have e:bF (id,fn,pc,rg,st,ch,ph,su,fa,he,()) (op,a,b,c,obj,n,fo,ord,())=((id,fn,pc+1,rg,st,ch,ph,su,fa,he,()),true):=by simp only[bF,if_neg h,if_neg h2,if_neg h3,if_neg h5,if_neg h4,gd hd,if_neg h67];rw[if_neg λq=>h8 q.2]
   rw[e];exact⟨rfl,rfl⟩
 .have e:bF (id,fn,pc,rg,st,ch,ph,su,fa,he,()) (op,a,b,c,obj,n,fo,ord,())=((id,fn,pc,rg,st,ch,ph,2,0,he,()),false):=by simp only[bF,if_neg h,if_neg h2,if_neg h3,if_neg h5,if_neg h4,if_pos h7];rw[if_neg λq=>h6 q.1]
  rw[e];exact⟨trivial,rfl,rfl⟩
 .have e:bF (id,fn,pc,rg,st,ch,ph,su,fa,he,()) (op,a,b,c,obj,n,fo,ord,())=((id,fn,pc+1,rg,st,ch,ph,su,fa,he,()),true):=by simp only[bF,if_neg h,if_neg h2,if_neg h3,if_neg h5,if_neg h4,if_neg h7];rw[if_neg λq=>h6 q.1]
  rw[e];exact⟨rfl,rfl⟩
theorem Zp:bJ bM.gd 36 Vw:=
 jY (cx:=bM) (n:=87) (cl:=[(56,Vr),(33,Vu)]) (rc:=[.data dK,.keep]) aF ⟨Ol,Ov,trivial⟩ Tryz.func36 λd hd=>by
  obtain⟨⟨id,fn,pc,rg,st,ch,ph,su,fa,he,⟨⟩⟩,⟨op,a,b,c,obj,n,fo,ord,⟨⟩⟩,⟨⟩⟩:=d;exact cO (λ_=>none) (aej id fn pc rg st ch ph su fa he op a b c obj n fo ord hd) (by kernel_rfl)
end
end Go.Proofs.YtaagmchgokmdgaaGreatDoor
