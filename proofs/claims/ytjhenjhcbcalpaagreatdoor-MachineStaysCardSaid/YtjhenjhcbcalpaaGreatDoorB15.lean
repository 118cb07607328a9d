/- Part 15 of the proof. Conditions: the rows'. -/
import Derived.Test.YtjhenjhcbcalpaaGreatDoorB14
import Derived.Test.YtjhenjhcbcalpaaGreatDoorCards
import Derived.Test.YtjhenjhcbcalpaaGreatDoorTie
import Derived.WalkKit
import Derived.ProofKit
import Derived.OpenShut
import Derived.Deep.DeepHandedRow
import Derived.Lib.LaidTab
import Derived.Test.YtjhenjhcbcalpaaGreatDoorJ5
set_option linter.unusedSimpArgs false
set_option linter.unusedVariables false
set_option maxRecDepth 1000000
set_option maxHeartbeats 8000000
namespace Go.Proofs.YtjhenjhcbcalpaaGreatDoor
open Go Go.ni
variable {pk:List Int}
noncomputable def rZ (vs:List VD) (ms cs:List ByteArray) (fs:List FD) (ts:List SD) (bound:Int) (pk:List Int):ZD:=(oh vs ms cs fs ts bound pk (ql vs ms cs fs ts bound).1).1
noncomputable def Xn (vs:List VD) (ms cs:List ByteArray) (fs:List FD) (ts:List SD) (bound:Int) (pk:List Int):List Int:=fP vs ms cs fs ts (rZ vs ms cs fs ts bound pk).1 (rZ vs ms cs fs ts bound pk).2.1 (rZ vs ms cs fs ts bound pk).2.2.1
noncomputable def rId (vs:List VD) (ms cs:List ByteArray) (fs:List FD) (ts:List SD) (bound:Int) (pk:List Int) (i:Int):Int:=(Xn vs ms cs fs ts bound pk).getD i.toNat 0
noncomputable def rLb (vs:List VD) (ms cs:List ByteArray) (fs:List FD) (ts:List SD) (bound:Int) (pk:List Int) (i:Int):ED:=(nP vs ms cs fs ts (rZ vs ms cs fs ts bound pk).1 (rZ vs ms cs fs ts bound pk).2.1 (rZ vs ms cs fs ts bound pk).2.2.1 (rId vs ms cs fs ts bound pk i)).1
noncomputable def uQ (vs:List VD) (ms cs:List ByteArray) (fs:List FD) (ts:List SD) (bound:Int) (pk:List Int) (i:Int):ZD×ED×Int:=dV vs ms cs fs ts bound (rZ vs ms cs fs ts bound pk) (rId vs ms cs fs ts bound pk i)
section
variable {vs:List VD}{ms cs:List ByteArray}{fs:List FD}{ts:List SD}{bound:Int}{z:ZD}
theorem apy(I:Inv vs ms cs fs ts bound z){i:Int} (h0:0<=i) (hi:i < ((fP vs ms cs fs ts z.1 z.2.1 z.2.2.1).length:Int)):
 ∃t j,t∈z.1/\t.1=(fP vs ms cs fs ts z.1 z.2.1 z.2.2.1).getD i.toNat 0/\dZ (aG vs ms cs fs ts).1 ms fs t=(j,true)/\uK z.1 z.2.1 t j=true:=by
 have gZ:i.toNat < (fP vs ms cs fs ts z.1 z.2.1 z.2.2.1).length:=by omega
 exact(EG I).1 (by rw[LQ,kR gZ];exact List.getElem_mem gZ)
theorem apz(hs:dG (aG vs ms cs fs ts).1 bound=0) (hp:pk.length<=40):(oh vs ms cs fs ts bound pk (ql vs ms cs fs ts bound).1).2=true/\Inv vs ms cs fs ts bound (rZ vs ms cs fs ts bound pk)/\(rZ vs ms cs fs ts bound pk).1.length<=48:=by
 have hS:ql vs ms cs fs ts bound=((mX (aG vs ms cs fs ts).1 fs bound ts,(qj vs ms cs fs ts).1,[],()),0):=by unfold ql;rw[if_neg (by omega)]
 have I0:Inv vs ms cs fs ts bound (ql vs ms cs fs ts bound).1:=by rw[hS];exact UW hs
 have hl0:(ql vs ms cs fs ts bound).1.1.length<=8:=by
  rw[hS];show(mX _ _ _ _).length<=8;rw[LG];exact(EC (kP (fE.1 hs).1).2.2).1.2
 obtain⟨a,b,c⟩:=U8 pk I0 (by omega)
 exact⟨a,b,by unfold rZ;omega⟩
theorem aiM{x d:Int} (h:(Xn vs ms cs fs ts bound pk)[x.toNat]?=some d):d=rId vs ms cs fs ts bound pk x:=by
 unfold rId;rw[LQ,h];rfl
theorem adg{x:Int}{C:Int->Prop} (h:C (rId vs ms cs fs ts bound pk x)):∀d,(Xn vs ms cs fs ts bound pk)[x.toNat]?=some d->C d:=λd hd=>by rw[aiM hd];exact h
theorem r_at(I:Inv vs ms cs fs ts bound (rZ vs ms cs fs ts bound pk)) (hl:(rZ vs ms cs fs ts bound pk).1.length<=48){x:Int} (h0:0<=x) (hx:x < ((Xn vs ms cs fs ts bound pk).length:Int)):
 ∃t j,t∈(rZ vs ms cs fs ts bound pk).1/\rId vs ms cs fs ts bound pk x=t.1/\dZ (aG vs ms cs fs ts).1 ms fs t=(j,true)/\uK (rZ vs ms cs fs ts bound pk).1 (rZ vs ms cs fs ts bound pk).2.1 t j=true/\rLb vs ms cs fs ts bound pk x=labS (rZ vs ms cs fs ts bound pk).2.1 t j /\
   uQ vs ms cs fs ts bound pk x=dV vs ms cs fs ts bound (rZ vs ms cs fs ts bound pk) t.1/\bE (rLb vs ms cs fs ts bound pk x)/\Inv vs ms cs fs ts bound (uQ vs ms cs fs ts bound pk x).1/\(uQ vs ms cs fs ts bound pk x).1.1.length<=49/\(uQ vs ms cs fs ts bound pk x).2=(rLb vs ms cs fs ts bound pk x,0):=by
 obtain⟨t,j,m,e,p,n⟩:=apy I h0 hx;have e:rId vs ms cs fs ts bound pk x=t.1:=e.symm;have l:rLb vs ms cs fs ts bound pk x=labS (rZ vs ms cs fs ts bound pk).2.1 t j:=by unfold rLb;rw[e,Bv I m p]
 have s:uQ vs ms cs fs ts bound pk x=dV vs ms cs fs ts bound (rZ vs ms cs fs ts bound pk) t.1:=by unfold uQ;rw[e]
 obtain⟨a,b,c⟩:=U6 I (by omega) m p n
 have hb:=((I.bt (by omega)).2 t m).2.1
 have h0:=(lY I (by omega) m p).2.2.2.2
 refine⟨t,j,m,e,p,n,l,s,?_,by rw[s];exact b,by rw[s,c];split<;>omega,by rw[s,a,l]⟩
 rw[l];unfold bE eA;rw[og];omega
end
noncomputable def rE2 (vs:List VD) (ms cs:List ByteArray) (fs:List FD) (ts:List SD) (bound:Int) (pk:List Int) (i:Int):List Int:=fP vs ms cs fs ts (uQ vs ms cs fs ts bound pk i).1.1 (uQ vs ms cs fs ts bound pk i).1.2.1 (uQ vs ms cs fs ts bound pk i).1.2.2.1
section
variable {vs:List VD}{ms cs:List ByteArray}{fs:List FD}{ts:List SD}{bound:Int}{pk:List Int}
theorem am2(I:Inv vs ms cs fs ts bound (rZ vs ms cs fs ts bound pk)) (hl:(rZ vs ms cs fs ts bound pk).1.length<=48){x:Int} (h:(nP vs ms cs fs ts (rZ vs ms cs fs ts bound pk).1 (rZ vs ms cs fs ts bound pk).2.1 (rZ vs ms cs fs ts bound pk).2.2.1 x).2=true):
 bE (nP vs ms cs fs ts (rZ vs ms cs fs ts bound pk).1 (rZ vs ms cs fs ts bound pk).2.1 (rZ vs ms cs fs ts bound pk).2.2.1 x).1:=by
 obtain⟨t,j,m,e,p⟩:=U7 I h;rw[<-e,Bv I m p];have hb:=((I.bt (by omega)).2 t m).2.1
 have h0:=(lY I (by omega) m p).2.2.2.2
 unfold bE eA;rw[show(labS (rZ vs ms cs fs ts bound pk).2.1 t j,true).1=labS (rZ vs ms cs fs ts bound pk).2.1 t j from rfl,og];omega
theorem am3(I:Inv vs ms cs fs ts bound (rZ vs ms cs fs ts bound pk)) (hl:(rZ vs ms cs fs ts bound pk).1.length<=48){x id:Int} (Ja:Inv vs ms cs fs ts bound (uQ vs ms cs fs ts bound pk x).1){ta:TD}{ja:ID} (ma:ta∈(rZ vs ms cs fs ts bound pk).1) (ia:rId vs ms cs fs ts bound pk x=ta.1)
 (pa:dZ (aG vs ms cs fs ts).1 ms fs ta=(ja,true)) (na:uK (rZ vs ms cs fs ts bound pk).1 (rZ vs ms cs fs ts bound pk).2.1 ta ja=true) (la:rLb vs ms cs fs ts bound pk x=labS (rZ vs ms cs fs ts bound pk).2.1 ta ja)
 (sa:uQ vs ms cs fs ts bound pk x=dV vs ms cs fs ts bound (rZ vs ms cs fs ts bound pk) ta.1) (ra:(uQ vs ms cs fs ts bound pk x).2=(rLb vs ms cs fs ts bound pk x,0))
 (h1:(nP vs ms cs fs ts (rZ vs ms cs fs ts bound pk).1 (rZ vs ms cs fs ts bound pk).2.1 (rZ vs ms cs fs ts bound pk).2.2.1 id).2=true) (h2:¬id=ta.1) (h3:Hr (uQ vs ms cs fs ts bound pk x).2.1 (nP vs ms cs fs ts (rZ vs ms cs fs ts bound pk).1 (rZ vs ms cs fs ts bound pk).2.1 (rZ vs ms cs fs ts bound pk).2.2.1 id).1=false):
 (nP vs ms cs fs ts (uQ vs ms cs fs ts bound pk x).1.1 (uQ vs ms cs fs ts bound pk x).1.2.1 (uQ vs ms cs fs ts bound pk x).1.2.2.1 id).2=true /\
  ahA (nP vs ms cs fs ts (uQ vs ms cs fs ts bound pk x).1.1 (uQ vs ms cs fs ts bound pk x).1.2.1 (uQ vs ms cs fs ts bound pk x).1.2.2.1 id).1 (nP vs ms cs fs ts (rZ vs ms cs fs ts bound pk).1 (rZ vs ms cs fs ts bound pk).2.1 (rZ vs ms cs fs ts bound pk).2.2.1 id).1=true /\
  dU (Xn vs ms cs fs ts bound pk) id=dU (rE2 vs ms cs fs ts bound pk x) id:=by
 obtain⟨tb,jb,mb,eb,pb⟩:=U7 I h1;subst eb;have lb:=Bv I mb pb;rw[lb]at h3 ⊢;have h3:Hr (labS (rZ vs ms cs fs ts bound pk).2.1 ta ja) (labS (rZ vs ms cs fs ts bound pk).2.1 tb jb)=false:=by rw[ra,la]at h3;exact h3
 have hI:=ahM I (by omega) ma mb pa pb na (λq=>h2 q.symm) h3
 obtain⟨l1,e1,_,mtb⟩:=ahJ I (by omega) ma mb pa pb na hI
 rw[<-sa]at l1 e1 mtb;rw[Bv Ja mtb pb,l1];refine⟨rfl,acI _,?_⟩;rw[LX,jc,jc];unfold Xn rE2;rw[EG I,EG Ja];constructor
 .rintro⟨t,i,m,e,p,n⟩;have:=lX I.va.2.2.2 m mb e;subst this;rw[pb]at p;cases p;exact⟨t,jb,mtb,rfl,pb,by rw[e1];exact n⟩
 .rintro⟨t,i,m,e,p,n⟩;have:=lX Ja.va.2.2.2 m mtb e;subst this;rw[pb]at p;cases p;exact⟨t,jb,mb,rfl,pb,by rw[e1]at n;exact n⟩
end
abbrev aqU:CT:={ ps:=[sS,.int .i64,.sl (.int .i64)],pre:=λd=>True,res:=λd=>([],vB (true)) }
noncomputable abbrev aqV (vs:List VD) (ms cs:List ByteArray) (fs:List FD) (ts:List SD) (bound:Int) (pk:List Int):Nat->Option (St->kS):=λn=>match n with
 | 8=>some λ_=>.inv { α:=Nat,slots:=λk=>[(10,.c (.v (.int .i64 k)))],res:=λ_=>[],inv:=λk=>k<=(Xn vs ms cs fs ts bound pk).length,meas:=λk=>(Xn vs ms cs fs ts bound pk).length - k,drop:=[15,16] }
 | 15=>some λs=>.inv { α:=Nat,slots:=λk=>[(15,.c (.v (.int .i64 k)))],res:=λ_=>[],inv:=λk=>k<=(rZ vs ms cs fs ts bound pk).1.length,meas:=λk=>(rZ vs ms cs fs ts bound pk).1.length - k,drop:=[16] }
 | 4=>some λ_=>.cut { α:=Nat,pad:=1,can:=[(1,.slot 7)],slots:=λ_=>[(7,.c (.own 1 0)),(8,.c (.v (.bool true)))],res:=λ_=>[(1,bZ (rZ vs ms cs fs ts bound pk).1 (rZ vs ms cs fs ts bound pk).2.1.1 (rZ vs ms cs fs ts bound pk).2.1.2.1 (rZ vs ms cs fs ts bound pk).2.1.2.2.1 (rZ vs ms cs fs ts bound pk).2.1.2.2.2.1 (rZ vs ms cs fs ts bound pk).2.2.1)],inv:=λu=>u=0,meas:=λ_=>0 }
 | 7=>some λ_=>.cut { α:=Nat,slots:=λ_=>[(9,.c (.sl (.int .i64) (Xn vs ms cs fs ts bound pk)))],res:=λ_=>[],inv:=λu=>u=0,meas:=λ_=>0 }
 | 11=>some λs=>.cut { α:=Nat,pad:=2,can:=[(2,.slot 11),(3,.slot 12)],slots:=λ_=>[(11,.c (.own 2 0)),(12,.c (.own 3 0)),(13,.c (.v (.int .i64 ((uQ vs ms cs fs ts bound pk (jw s 10)).2.2))))],res:=λ_=>[(2,bZ ((uQ vs ms cs fs ts bound pk (jw s 10)).1).1 ((uQ vs ms cs fs ts bound pk (jw s 10)).1).2.1.1 ((uQ vs ms cs fs ts bound pk (jw s 10)).1).2.1.2.1 ((uQ vs ms cs fs ts bound pk (jw s 10)).1).2.1.2.2.1 ((uQ vs ms cs fs ts bound pk (jw s 10)).1).2.1.2.2.2.1 ((uQ vs ms cs fs ts bound pk (jw s 10)).1).2.2.1),(3,.blk 49 [v6 ((uQ vs ms cs fs ts bound pk (jw s 10)).2.1).1,v6 ((uQ vs ms cs fs ts bound pk (jw s 10)).2.1).2.1,v6 ((uQ vs ms cs fs ts bound pk (jw s 10)).2.1).2.2.1,v6 ((uQ vs ms cs fs ts bound pk (jw s 10)).2.1).2.2.2.1,v6 ((uQ vs ms cs fs ts bound pk (jw s 10)).2.1).2.2.2.2.1,v6 ((uQ vs ms cs fs ts bound pk (jw s 10)).2.1).2.2.2.2.2.1,v6 ((uQ vs ms cs fs ts bound pk (jw s 10)).2.1).2.2.2.2.2.2.1,v6 ((uQ vs ms cs fs ts bound pk (jw s 10)).2.1).2.2.2.2.2.2.2.1,v6 ((uQ vs ms cs fs ts bound pk (jw s 10)).2.1).2.2.2.2.2.2.2.2.1])],inv:=λu=>u=0,meas:=λ_=>0 }
 | 14=>some λs=>.cut { α:=Nat,slots:=λ_=>[(14,.c (.sl (.int .i64) (rE2 vs ms cs fs ts bound pk (jw s 10))))],res:=λ_=>[],inv:=λu=>u=0,meas:=λ_=>0 }
 | _=>none
theorem apA(vs:List VD) (ms cs:List ByteArray) (fs:List FD) (ts:List SD) (bound:Int) (pk:List Int):
 let z20:=((vs,ms,cs,fs,ts,()),());let Oz:=bnd z20;let mQ:=oh vs ms cs fs ts bound pk (ql vs ms cs fs ts bound).fst;let z24:=bP vs ms cs fs ts;let z22:=rZ vs ms cs fs ts bound pk;let z6:=[SC.sl dR z22.fst,SC.sl I6 z22.snd.fst.fst,SC.sl I6 z22.snd.fst.snd.fst,SC.sl I6.sl z22.snd.fst.snd.snd.fst,SC.sl I6 z22.snd.fst.snd.snd.snd.fst,SC.sl Bd z22.snd.snd.fst];let z5:=[g0 z24,g0 (au.blk 37 z6)];let y7:=Oz/\je z22.fst/\bI z22.snd.fst;let z21:=Xn vs ms cs fs ts bound pk;let z8:=Oz/\je z22.fst/\List.length z22.fst<=999999/\qZ z22.snd.fst=true/\Bg z22.snd.snd.fst;let vJ:=λ(d:Int)=>dV vs ms cs fs ts bound z22 d;let z17:=λ(x:Nat)=>uQ vs ms cs fs ts bound pk (x:Int);let z9:=λ(d:Int) (x:Nat)=>SV.c (SC.own 2 0)=SV.c (SC.own 2 0)/\SV.c (SC.own 3 0)=SV.c (SC.own 3 0)/\cI ((vJ d).snd.snd)=cI ((z17 x).snd.snd)/\True;let z1:=λ(d:Int)=>[g0 z24,g0 (au.blk 37 z6),g0 (au.blk 37 [SC.sl dR (vJ d).fst.fst,SC.sl I6 (vJ d).fst.snd.fst.fst,SC.sl I6 (vJ d).fst.snd.fst.snd.fst,SC.sl I6.sl (vJ d).fst.snd.fst.snd.snd.fst,SC.sl I6 (vJ d).fst.snd.fst.snd.snd.snd.fst,SC.sl Bd (vJ d).fst.snd.snd.fst]),g0 (au.blk 49 [v6 ((vJ d).snd.fst.fst),v6 ((vJ d).snd.fst.snd.fst),v6 ((vJ d).snd.fst.snd.snd.fst),v6 ((vJ d).snd.fst.snd.snd.snd.fst),v6 ((vJ d).snd.fst.snd.snd.snd.snd.fst),v6 ((vJ d).snd.fst.snd.snd.snd.snd.snd.fst),v6 ((vJ d).snd.fst.snd.snd.snd.snd.snd.snd.fst),v6 ((vJ d).snd.fst.snd.snd.snd.snd.snd.snd.snd.fst),v6 ((vJ d).snd.fst.snd.snd.snd.snd.snd.snd.snd.snd.fst)])];let z3:=λ(x:Nat)=>[g0 z24,g0 (au.blk 37 z6),g0 (au.blk 37 [SC.sl dR (z17 x).fst.fst,SC.sl I6 (z17 x).fst.snd.fst.fst,SC.sl I6 (z17 x).fst.snd.fst.snd.fst,SC.sl I6.sl (z17 x).fst.snd.fst.snd.snd.fst,SC.sl I6 (z17 x).fst.snd.fst.snd.snd.snd.fst,SC.sl Bd (z17 x).fst.snd.snd.fst]),g0 (au.blk 49 [v6 ((z17 x).snd.fst.fst),v6 ((z17 x).snd.fst.snd.fst),v6 ((z17 x).snd.fst.snd.snd.fst),v6 ((z17 x).snd.fst.snd.snd.snd.fst),v6 ((z17 x).snd.fst.snd.snd.snd.snd.fst),v6 ((z17 x).snd.fst.snd.snd.snd.snd.snd.fst),v6 ((z17 x).snd.fst.snd.snd.snd.snd.snd.snd.fst),v6 ((z17 x).snd.fst.snd.snd.snd.snd.snd.snd.snd.fst),v6 ((z17 x).snd.fst.snd.snd.snd.snd.snd.snd.snd.snd.fst)])];let z11:=λ(x:Nat)=>Oz/\je (z17 x).fst.fst/\bI (z17 x).fst.snd.fst;let O6:=λ(x:Nat)=>rE2 vs ms cs fs ts bound pk (x:Int);let z13:=λ(d:TD)=>nP vs ms cs fs ts z22.fst z22.snd.fst z22.snd.snd.fst d.fst;let z12:=λ(d:TD)=>!!(z13 d).snd;let z23:=λ(x:Nat)=>(x:Int)+(1:Int);let z2:=λ(x_1 x:Nat)=>(iR (z23 x_1)/\∃(x':Nat),x'<=z22.fst.length/\(cI (z23 x_1)=cI (x':Int)/\True)/\sm (z3 x)/\z22.fst.length - x' < z22.fst.length - x_1);let z10:=λ(x:Nat) (d:TD)=>nP vs ms cs fs ts (z17 x).fst.fst (z17 x).fst.snd.fst (z17 x).fst.snd.snd.fst d.fst;let z7:=λ(x:Nat) (d:TD)=>ahA (z10 x d).fst (z13 d).fst;let z4:=λ(x:Nat) (d:TD)=>!(!(z10 x d).snd || !(z7 x d));True /\
 ((!(!TV vs ms cs fs ts || decide (40 < (pk.length:Int))))=true->bnd z20) /\
   br (!TV vs ms cs fs ts || decide (40 < (pk.length:Int)) || !decide (dG (aG vs ms cs fs ts).fst bound=0)) (True/\qB true true)
    (((Oz/\dG (aG vs ms cs fs ts).fst bound=0/\ts.length<=20/\pk.length<=40)/\∃(v:Nat),v=0/\(SV.c (SC.own 1 0)=SV.c (SC.own 1 0)/\cB (mQ.snd)=cB true/\True)/\[g0 z24,g0 (au.blk 37 [SC.sl dR mQ.fst.fst,SC.sl I6 mQ.fst.snd.fst.fst,SC.sl I6 mQ.fst.snd.fst.snd.fst,SC.sl I6.sl mQ.fst.snd.fst.snd.snd.fst,SC.sl I6 mQ.fst.snd.fst.snd.snd.snd.fst,SC.sl Bd mQ.fst.snd.snd.fst])]=z5) /\
      ∀(v:Nat),v=0->(y7/\∃(v:Nat),v=0/\(SV.c (SC.sl I6 (fP vs ms cs fs ts z22.fst z22.snd.fst z22.snd.snd.fst))=SV.c (SC.sl I6 z21)/\True)/\sm z5)/\∀(v:Nat),v=0->(∃(x:Nat),x<=z21.length/\(cI 0=cI (x:Int)/\True)/\sm z5)/\∀(x:Nat),x<=z21.length->br (decide ((x:Int) < (z21.length:Int))) (((0<=(x:Int)/\(x:Int) < (z21.length:Int))/\∀(d:Int),z21[(x:Int).toNat]?=some d->(z8/\(∃(v:Nat),v=0/\(z9 d x)/\(z1 d)=(z3 x))/\∃(v:Nat),v=0/\(z9 d x)/\(z1 d)=(z3 x))/\((z8/\∃(v:Nat),v=0/\(z9 d x)/\(z1 d)=(z3 x))/\z8/\∃(v:Nat),v=0/\(z9 d x)/\(z1 d)=(z3 x))/\(z8/\∃(v:Nat),v=0/\(z9 d x)/\(z1 d)=(z3 x))/\z8/\∃(v:Nat),v=0/\(z9 d x)/\(z1 d)=(z3 x))/\∀(v:Nat),v=0->br (!decide ((z17 x).snd.snd=0)) (qB true false) (((z11 x)/\∃(v:Nat),v=0/\(SV.c (SC.sl I6 (fP vs ms cs fs ts (z17 x).fst.fst (z17 x).fst.snd.fst (z17 x).fst.snd.snd.fst))=SV.c (SC.sl I6 (O6 x))/\True)/\sm (z3 x))/\∀(v:Nat),v=0->(∃(x_1:Nat),x_1<=z22.fst.length/\(cI 0=cI (x_1:Int)/\True)/\sm (z3 x))/\∀(x_1:Nat),x_1<=z22.fst.length->br (decide ((x_1:Int) < (z22.fst.length:Int))) ((0<=(x_1:Int)/\(x_1:Int) < (z22.fst.length:Int))/\∀(d:TD),z22.fst[(x_1:Int).toNat]?=some d->y7/\((z12 d)=true->0<=(x:Int)/\(x:Int) < (z21.length:Int))/\∀(dL:Int),((z12 d)=true->z21[(x:Int).toNat]?=some dL)->((!(!(z13 d).snd || decide (d.fst=dL)))=true->bE (z17 x).snd.fst/\bE (z13 d).fst)/\br (!(z13 d).snd || decide (d.fst=dL) || Hr (z17 x).snd.fst (z13 d).fst) (z2 x_1 x) ((z11 x)/\((z4 x d)=true->z21.length<=1000000)/\((z4 x d)=true->(O6 x).length<=1000000)/\br (!(z10 x d).snd || !(z7 x d) || !dU z21 d.fst == dU (O6 x) d.fst) (qB true false) (z2 x_1 x))) (iR (z23 x)/\∃(x':Nat),x'<=z21.length/\(cI (z23 x)=cI (x':Int)/\True)/\sm z5/\z21.length - x' < z21.length - x))) (True/\qB true true)):=by
 conv=>zeta
 delta iR;refine⟨trivial,λh=>?_,ah.2 ⟨λ_=>⟨trivial,rfl,rfl⟩,λh=>?_⟩⟩
 .simp only[II,oV,Di]at h;exact Ju h.1
 simp only[oV,Di,gW,dW]at h;obtain⟨⟨hsm,hpk⟩,hs⟩:=h;have hb:=Ju hsm;have hts:ts.length<=20:=by
  unfold TV at hsm;rw[A8,dW]at hsm;omega
 obtain⟨hrt,I,hl⟩:=apz hs (by omega:pk.length<=40)
 have P:bnd ((vs,ms,cs,fs,ts,()),())/\je (rZ vs ms cs fs ts bound pk).1/\bI (rZ vs ms cs fs ts bound pk).2.1:=⟨hb,I.bt (by omega),I.bm (by omega)⟩
 have Q:bnd ((vs,ms,cs,fs,ts,()),())/\je (rZ vs ms cs fs ts bound pk).1/\(rZ vs ms cs fs ts bound pk).1.length<=999999/\qZ (rZ vs ms cs fs ts bound pk).2.1=true/\Bg (rZ vs ms cs fs ts bound pk).2.2.1:=⟨hb,I.bt (by omega),by omega,I.few (by omega),I.bb⟩
 have hle:(Xn vs ms cs fs ts bound pk).length<=48:=qP (LP I) hl;refine⟨⟨⟨hb,hs,hts,by omega⟩,0,rfl,⟨rfl,by rw[hrt],trivial⟩,rfl⟩,λv _=>⟨⟨P,0,rfl,⟨rfl,trivial⟩,rfl⟩,λv _=>⟨⟨0,by omega,⟨rfl,trivial⟩,rfl⟩,λx hx=>ah.2 ⟨λg=>?_,λg=>⟨trivial,rfl,rfl⟩⟩⟩⟩⟩
 have g:=RF g;have Gx:0<=(x:Int)/\(x:Int) < ((Xn vs ms cs fs ts bound pk).length:Int):=⟨by omega,g⟩
 obtain⟨ta,ja,ma,ia,pa,na,la,sa,ba,Ja,ka,ra⟩:=r_at I hl Gx.1 Gx.2;have n1:(uQ vs ms cs fs ts bound pk x).2.2=0:=by rw[ra]
 have Pa:bnd ((vs,ms,cs,fs,ts,()),())/\je (uQ vs ms cs fs ts bound pk x).1.1/\bI (uQ vs ms cs fs ts bound pk x).1.2.1:=⟨hb,Ja.bt (by omega),Ja.bm (by omega)⟩
 have he2:(rE2 vs ms cs fs ts bound pk x).length<=1000000:=by have:=LP Ja;unfold rE2;omega
 have j1:InR IntKind.i64 ((x:Int)+1):=ay.2 (by omega)
 refine⟨⟨Gx,adg ?_⟩,λv _=>ah.2 ⟨λh=>(by rw[n1]at h;simp at h),λ_=>⟨⟨Pa,0,rfl,⟨rfl,trivial⟩,rfl⟩,λv _=>⟨⟨0,by omega,⟨rfl,trivial⟩,rfl⟩,λy hy=>ah.2 ⟨λg2=>⟨⟨by omega,RF g2⟩,λd hd=>⟨P,λ_=>Gx,λd1 hd1=>?_⟩⟩,λg2=>⟨j1,x+1,by omega,⟨rfl,trivial⟩,rfl,by omega⟩⟩⟩⟩⟩⟩
 .repeat' (first | exact P | exact Q | exact⟨0,rfl,⟨rfl,rfl,rfl,trivial⟩,rfl⟩ | (refine adg ?_) | (refine And.intro ?_ ?_))
 have g2:=RF g2;have i1:InR IntKind.i64 ((y:Int)+1):=ay.2 (by omega)
 refine⟨λh=>?_,ah.2 ⟨λh=>⟨i1,y+1,by omega,⟨rfl,trivial⟩,rfl,by omega⟩,λh=>?_⟩⟩
 .simp only[II,oV,Di]at h;exact⟨by rw[ra];exact ba,am2 I hl h.1⟩
 simp only[oV,Di,gW]at h;obtain⟨⟨h1,h2⟩,h3⟩:=h;obtain⟨q1,q2,q3⟩:=am3 I hl Ja ma ia pa na la sa ra h1 (by
  have:=aiM (hd1 (by rw[h1];rfl))
  rw[<-ia,<-this];exact h2) h3
 refine⟨Pa,λ_=>by omega,λ_=>he2,ah.2 ⟨λh=>?_,λ_=>⟨i1,y+1,by omega,⟨rfl,trivial⟩,rfl,by omega⟩⟩⟩
 rw[q1,q2,q3]at h;simp at h
theorem am4:aW aT.gd 9 aqU:=
 fG (cx:=aT) (n:=130) (cl:=[(10,aoL),(26,vg),(11,acH),(27,adf),(19,G8),(16,UG),(29,amX),(21,OQ),(30,Rj)]) (rc:=[]) aB ⟨af6,ahb,ahy,ahZ,Lu,UH,ahX,LD,ahY,trivial⟩ Tryz.func9 λd hd=>by
  obtain⟨⟨vs,ms,cs,fs,ts,⟨⟩⟩,bound,pk,⟨⟩⟩:=d;exact aQ (aqV vs ms cs fs ts bound pk) (apA vs ms cs fs ts bound pk) (by kernel_rfl)
open Go Go.ni Go.ChangeShapes Go.WideShapes Go.ChangeAt Go.RowKit
theorem own:ownKnob Tryz.prog.godebug=none:=by kernel_rfl
theorem laidOut:laidOutB Tryz.prog=true:=by kernel_rfl
theorem rowed:mapsRowed Tryz.prog=true:=by kernel_rfl
theorem full:∀t e,t < Tryz.prog.types.size->Tryz.prog.underlying t=some (.slice e)->0 < Tryz.prog.cellsOf e:=slices_full_of _ (by kernel_rfl)
theorem am5:Tryz.prog.globalNamed "modelcheck/event.rows"=some 0:=by kernel_rfl
theorem am6:(Tryz.prog.globals[0]?).map (·.type)=some 154:=by kernel_rfl
theorem apB:(sO Tryz.prog (.arr 17 (.pair (.int .i64) (.pair .bool (.pair (.int .i64) (.pair (.int .i64) (.pair .bool (.pair (.int .i64) (.pair (.int .i64) (.pair .bool .unit)))))))))).1 154=true:=by kernel_rfl
theorem am7:Tryz.prog.globalNamed "modelcheck/inst.rows"=some 1:=by kernel_rfl
theorem am8:(Tryz.prog.globals[1]?).map (·.type)=some 183:=by kernel_rfl
theorem apC:(sO Tryz.prog (.arr 22 (.pair .str (.pair (.arr 7 .bool) .unit)))).1 183=true:=by kernel_rfl
theorem am9:Tryz.prog.globalNamed "modelcheck/value.names"=some 2:=by kernel_rfl
theorem ana:(Tryz.prog.globals[2]?).map (·.type)=some 214:=by kernel_rfl
theorem apD:(sO Tryz.prog (.arr 10 .str)).1 214=true:=by kernel_rfl
noncomputable def laidWorld (os:Os):World:=
 { World.holding Tryz.prog os ⟨#[],#[],[]⟩with heap:=((((World.holding Tryz.prog os ⟨#[],#[],[]⟩).heap).modify 0 (lay #[.int .i64 7,.bool true,.int .i64 (-2147483648),.int .i64 2147483647,.bool false,.int .i64 (-1),.int .i64 1,.bool false,.int .i64 7,.bool true,.int .i64 0,.int .i64 0,.bool true,.int .i64 (-2),.int .i64 1,.bool true,.int .i64 7,.bool true,.int .i64 0,.int .i64 0,.bool true,.int .i64 0,.int .i64 4,.bool true,.int .i64 7,.bool false,.int .i64 0,.int .i64 0,.bool true,.int .i64 0,.int .i64 1,.bool true,.int .i64 7,.bool true,.int .i64 (-2147483648),.int .i64 2147483647,.bool true,.int .i64 (-2),.int .i64 1,.bool true,.int .i64 7,.bool true,.int .i64 (-2147483648),.int .i64 2147483647,.bool false,.int .i64 (-2),.int .i64 1,.bool false,.int .i64 0,.bool false,.int .i64 0,.int .i64 0,.bool false,.int .i64 (-2),.int .i64 0,.bool false,.int .i64 7,.bool true,.int .i64 (-2147483648),.int .i64 2147483647,.bool false,.int .i64 (-1),.int .i64 1,.bool false,.int .i64 3,.bool false,.int .i64 0,.int .i64 0,.bool false,.int .i64 (-2),.int .i64 2,.bool true,.int .i64 3,.bool false,.int .i64 0,.int .i64 0,.bool false,.int .i64 (-2),.int .i64 2,.bool true,.int .i64 3,.bool false,.int .i64 0,.int .i64 1,.bool false,.int .i64 (-2),.int .i64 2,.bool true,.int .i64 3,.bool false,.int .i64 0,.int .i64 0,.bool false,.int .i64 (-2),.int .i64 3,.bool true,.int .i64 3,.bool false,.int .i64 0,.int .i64 0,.bool false,.int .i64 (-2),.int .i64 3,.bool true,.int .i64 3,.bool false,.int .i64 0,.int .i64 1,.bool false,.int .i64 (-2),.int .i64 3,.bool true,.int .i64 3,.bool false,.int .i64 0,.int .i64 (-1),.bool false,.int .i64 (-2),.int .i64 3,.bool true,.int .i64 (-1),.bool false,.int .i64 0,.int .i64 0,.bool false,.int .i64 (-2),.int .i64 0,.bool false,.int .i64 (-1),.bool false,.int .i64 0,.int .i64 0,.bool false,.int .i64 (-2),.int .i64 0,.bool false])).modify 1 (lay #[.string ⟨#[99,111,110,115,116]⟩,.bool true,.bool false,.bool false,.bool false,.bool true,.bool false,.bool false,.string ⟨#[99,111,112,121]⟩,.bool true,.bool true,.bool false,.bool false,.bool false,.bool false,.bool false,.string ⟨#[99,97,108,99]⟩,.bool true,.bool true,.bool true,.bool false,.bool false,.bool true,.bool false,.string ⟨#[106,117,109,112]⟩,.bool false,.bool false,.bool false,.bool false,.bool true,.bool false,.bool false,.string ⟨#[98,114,97,110,99,104]⟩,.bool false,.bool true,.bool false,.bool false,.bool true,.bool false,.bool false,.string ⟨#[97,115,115,101,114,116]⟩,.bool false,.bool true,.bool false,.bool false,.bool false,.bool false,.bool false,.string ⟨#[115,116,111,112]⟩,.bool false,.bool false,.bool false,.bool false,.bool false,.bool false,.bool false,.string ⟨#[108,111,97,100]⟩,.bool true,.bool false,.bool false,.bool true,.bool false,.bool false,.bool true,.string ⟨#[115,116,111,114,101]⟩,.bool false,.bool true,.bool false,.bool true,.bool false,.bool false,.bool true,.string ⟨#[115,119,97,112]⟩,.bool true,.bool true,.bool false,.bool true,.bool false,.bool false,.bool true,.string ⟨#[102,101,116,99,104,97,100,100]⟩,.bool true,.bool true,.bool false,.bool true,.bool false,.bool false,.bool true,.string ⟨#[99,97,115]⟩,.bool true,.bool true,.bool true,.bool true,.bool false,.bool false,.bool true,.string ⟨#[102,101,110,99,101]⟩,.bool false,.bool false,.bool false,.bool false,.bool false,.bool false,.bool false,.string ⟨#[97,119,97,105,116]⟩,.bool true,.bool true,.bool false,.bool true,.bool false,.bool true,.bool true,.string ⟨#[108,111,99,107]⟩,.bool false,.bool false,.bool false,.bool true,.bool false,.bool false,.bool false,.string ⟨#[117,110,108,111,99,107]⟩,.bool false,.bool false,.bool false,.bool true,.bool false,.bool false,.bool false,.string ⟨#[116,114,121,108,111,99,107]⟩,.bool true,.bool false,.bool false,.bool true,.bool false,.bool false,.bool false,.string ⟨#[119,97,105,116]⟩,.bool false,.bool false,.bool false,.bool true,.bool true,.bool false,.bool false,.string ⟨#[115,105,103,110,97,108]⟩,.bool false,.bool false,.bool false,.bool true,.bool false,.bool false,.bool false,.string ⟨#[98,114,111,97,100,99,97,115,116]⟩,.bool false,.bool false,.bool false,.bool true,.bool false,.bool false,.bool false,.string ⟨#[115,112,97,119,110]⟩,.bool true,.bool true,.bool false,.bool true,.bool false,.bool false,.bool false,.string ⟨#[106,111,105,110]⟩,.bool false,.bool true,.bool false,.bool false,.bool false,.bool false,.bool false])).modify 2 (lay #[.string ⟨#[97,100,100]⟩,.string ⟨#[115,117,98]⟩,.string ⟨#[109,117,108]⟩,.string ⟨#[97,110,100]⟩,.string ⟨#[111,114]⟩,.string ⟨#[120,111,114]⟩,.string ⟨#[101,113]⟩,.string ⟨#[110,101]⟩,.string ⟨#[108,116]⟩,.string ⟨#[108,101]⟩]) }
namespace machineStaysL
theorem globs{W:World} (hL:laidMetH Tryz.prog Rows.machineStaysRow.laid W):aJ gd0 (FH.all W):=by
 intro g p hp;unfold gd0 at hp;split at hp
 .cases hp;exact CJ hL (by kernel_rfl) (n:= "modelcheck/event.rows") (D:=Rows.laid_modelcheck_event_rows) (by simp[Rows.machineStaysRow]) am5 am6 apB (by kernel_rfl)
 .cases hp;exact CJ hL (by kernel_rfl) (n:= "modelcheck/inst.rows") (D:=Rows.laid_modelcheck_inst_rows) (by simp[Rows.machineStaysRow]) am7 am8 apC (by kernel_rfl)
 .cases hp;exact CJ hL (by kernel_rfl) (n:= "modelcheck/value.names") (D:=Rows.laid_modelcheck_value_names) (by simp[Rows.machineStaysRow]) am9 ana apD (by kernel_rfl)
 .cases hp
theorem laid_met(os:Os):laidMet Tryz.prog Rows.machineStaysRow.laid ((laidWorld os).forCall (λ_ _=>0) ⟨#[],#[.agg #[.slice none 0 0,.slice none 0 0,.slice none 0 0,.slice none 0 0,.slice none 0 0],.int .i64 0,.slice none 0 0],[]⟩).memory:=
 laidMet_of_run' 20 (by kernel_rfl) (by kernel_rfl)
theorem reads(os:Os){H:Type} (enc:TypeId×Value->H):∃places,DataW.whole enc Tryz.prog ((laidWorld os).forCall (λ_ _=>0) ⟨#[],#[.agg #[.slice none 0 0,.slice none 0 0,.slice none 0 0,.slice none 0 0,.slice none 0 0],.int .i64 0,.slice none 0 0],[]⟩).memory Tryz.f9.params.toList Rows.machineStaysSpec.vars false (#[.agg #[.slice none 0 0,.slice none 0 0,.slice none 0 0,.slice none 0 0,.slice none 0 0],.int .i64 0,.slice none 0 0]:Array Value).toList 20=some ([.agg [.nil,.nil,.nil,.nil,.nil],.lit (.int .i64 0),.nil],[],places):=
 ⟨[],by kernel_rfl⟩
theorem lifted(os:Os) (started:os.Started) (H:Type) (enc:TypeId×Value->H) (F:Stop.Interp):
 ReturnsInHanded {} Tryz.checked os 9 .any ((OpenSpec.ofChange Rows.machineStaysSpec).preRow enc Tryz.prog Tryz.f9 Rows.machineStaysRow.domain false Rows.machineStaysRow.laid) (((OpenSpec.ofChange Rows.machineStaysSpec).at F).post enc Tryz.prog Tryz.f9 false true false false):=by
 obtain⟨places,hx⟩:=reads os enc;refine returnsInHanded_of_row (C:=Tryz.checked) (s:=OpenSpec.ofChange Rows.machineStaysSpec) own started (by kernel_rfl) Tryz.func9
  (witness_row_at (enc:=enc) (C:=Tryz.checked) false (laidWorld os) #[.agg #[.slice none 0 0,.slice none 0 0,.slice none 0 0,.slice none 0 0,.slice none 0 0],.int .i64 0,.slice none 0 0] rfl (by kernel_rfl) (by kernel_rfl) (by kernel_rfl)
   (OpenSpec.preRow_of_cond 20 hx (by kernel_rfl) (λk hk=>by cases hk) (by kernel_rfl) (laid_met os))) ?_
 intro W base args ds gs before hval hW _ hcond hwt hL _ _;refine WH (fn:=Tryz.f9) am4 laidOut rowed full (by decide +kernel) (t:=4) (by kernel_rfl) (by kernel_rfl) rfl (by kernel_rfl) (λ_=>rfl) (λd hd hwf=>?_) hval hW (globs hL)
 match ds,Jj hd with
 | [d0,d1,d2],_=>exact⟨rfl,by trivial⟩
theorem said:Rows.MachineStaysSaid:=
 OpenClaim.holds_of_cond 9 Tryz.f9 rfl rfl rfl rfl rfl rfl rfl ⟨rfl,rfl,rfl,rfl,rfl⟩ rfl rfl rfl rfl rfl (by kernel_rfl) Tryz.func9 jf9
  (RF (by kernel_rfl)) (by unfold Func.isWrapper;first | (rw[if_pos (by decide +kernel)];kernel_rfl) | (rw[if_neg (by decide +kernel)];exact⟨rfl,rfl⟩))
  (λos started H enc _ F=>by rw[OpenClaim.pre_eq_preRow];exact lifted os started H enc F)
theorem plain(f:FuncId) (fn:Func) (hf:Tryz.pinned.checked.prog.funcNamed "modelcheck/modelchecklaw23.MachineStays"=some f) (hfn:Tryz.pinned.checked.prog.funcs[f]?=some fn):
 false=Tryz.pinned.checked.prog.looks []/\∀(j:Nat) t,fn.params[j]?=some t->Tryz.pinned.checked.prog.wantsStandIn t=false:=by
 obtain rfl:f=9:=LW ((show Tryz.prog.funcNamed "modelcheck/modelchecklaw23.MachineStays"=some 9 by kernel_rfl).symm.trans hf) |>.symm
 obtain rfl:fn=Tryz.f9:=(LW (Tryz.func9.symm.trans hfn)).symm;refine⟨by kernel_rfl,λj t ht=>?_⟩
 have hm:t∈Tryz.f9.params.toList:=iM (by simpa using ht)
 have key:∀t∈Tryz.f9.params.toList,Tryz.prog.wantsStandIn t=false:=by decide +kernel
 exact key t hm
theorem card:Rows.MachineStaysCardSaid:=
 Claim7.holds_tied_plain_at .later [] _ _ _ _ said (λ_ h=>by cases h) (by kernel_rfl) (λ_ h=>by cases h) machineStays_row_tie rfl ⟨rfl,rfl⟩ (by kernel_rfl) rfl plain (by kernel_rfl)
end machineStaysL
end Go.Proofs.YtjhenjhcbcalpaaGreatDoor
