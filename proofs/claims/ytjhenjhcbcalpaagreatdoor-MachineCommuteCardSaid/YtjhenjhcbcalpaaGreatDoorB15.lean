/- Texts of this claim, part 15: Y15, L4. Conditions: those of the given rows. -/
import Derived.Test.YtjhenjhcbcalpaaGreatDoorB14
import Derived.Test.YtjhenjhcbcalpaaGreatDoorCards
import Derived.Test.YtjhenjhcbcalpaaGreatDoorTie
import Derived.WalkKit
import Derived.ProofKit
import Derived.OpenShut
import Derived.Deep.DeepHandedRow
import Derived.Lib.LaidTab
import Derived.Test.YtjhenjhcbcalpaaGreatDoorJ4
set_option linter.unusedSimpArgs false
set_option linter.unusedVariables false
set_option maxRecDepth 1000000
set_option maxHeartbeats 8000000
namespace Go.Proofs.YtjhenjhcbcalpaaGreatDoor
open Go Go.mQ
variable {pk:List Int}
theorem or9{a b c d:Int}{e f g i j:Bool} (h1:a=0) (h2:b=0) (h3:c=0) (h4:d=0) (h5:e=true) (h6:f=true) (h7:g=true) (h8:i=true) (h9:j=true) (h:(!decide (a=0) || !decide (b=0) || !decide (c=0) || !decide (d=0) || !e || !f || !g || !i || !j)=true):False:=by
 subst h1 h2 h3 h4 h5 h6 h7 h8 h9;simp at h
noncomputable def rZ (vs:List VD) (ms cs:List ByteArray) (fs:List FD) (ts:List SD) (bound:Int) (pk:List Int):ZD:=(oz vs ms cs fs ts bound pk (qx vs ms cs fs ts bound).1).1
noncomputable def Qc (vs:List VD) (ms cs:List ByteArray) (fs:List FD) (ts:List SD) (bound:Int) (pk:List Int):List Int:=fC vs ms cs fs ts (rZ vs ms cs fs ts bound pk).1 (rZ vs ms cs fs ts bound pk).2.1 (rZ vs ms cs fs ts bound pk).2.2.1
noncomputable def rId (vs:List VD) (ms cs:List ByteArray) (fs:List FD) (ts:List SD) (bound:Int) (pk:List Int) (i:Int):Int:=(Qc vs ms cs fs ts bound pk).getD i.toNat 0
noncomputable def wX (vs:List VD) (ms cs:List ByteArray) (fs:List FD) (ts:List SD) (bound:Int) (pk:List Int) (i:Int):ED:=(yj vs ms cs fs ts (rZ vs ms cs fs ts bound pk).1 (rZ vs ms cs fs ts bound pk).2.1 (rZ vs ms cs fs ts bound pk).2.2.1 (rId vs ms cs fs ts bound pk i)).1
noncomputable def mG (vs:List VD) (ms cs:List ByteArray) (fs:List FD) (ts:List SD) (bound:Int) (pk:List Int) (i:Int):ZD×ED×Int:=bJ vs ms cs fs ts bound (rZ vs ms cs fs ts bound pk) (rId vs ms cs fs ts bound pk i)
noncomputable def nT (vs:List VD) (ms cs:List ByteArray) (fs:List FD) (ts:List SD) (bound:Int) (pk:List Int) (i k:Int):ZD×ED×Int:=bJ vs ms cs fs ts bound (mG vs ms cs fs ts bound pk i).1 (rId vs ms cs fs ts bound pk k)
section
variable {vs:List VD}{ms cs:List ByteArray}{fs:List FD}{ts:List SD}{bound:Int}{z:ZD}
theorem aqv(I:Inv vs ms cs fs ts bound z){i:Int} (h0:0<=i) (hi:i < ((fC vs ms cs fs ts z.1 z.2.1 z.2.2.1).length:Int)):
 ∃t j,t∈z.1/\t.1=(fC vs ms cs fs ts z.1 z.2.1 z.2.2.1).getD i.toNat 0/\dY (aF vs ms cs fs ts).1 ms fs t=(j,true)/\rO z.1 z.2.1 t j=true:=by
 have iq:i.toNat < (fC vs ms cs fs ts z.1 z.2.1 z.2.2.1).length:=by omega
 exact(VK I).1 (by rw[Jk,kP iq];exact List.getElem_mem iq)
theorem aqw(I:Inv vs ms cs fs ts bound z):SS (fC vs ms cs fs ts z.1 z.2.1 z.2.2.1):=by
 unfold fC;rw[if_pos (jr.2 I.v32)];unfold zy;have h:z.1.Pairwise λa b=>a.1 < b.1:=Yn.1 I.va.2.2.2
 exact Yn.2 (h.filter _)
theorem ajS(I:Inv vs ms cs fs ts bound z){i k:Int} (h0:0<=k) (hk:k < i) (hi:i < ((fC vs ms cs fs ts z.1 z.2.1 z.2.2.1).length:Int)):(fC vs ms cs fs ts z.1 z.2.1 z.2.2.1).getD k.toNat 0 < (fC vs ms cs fs ts z.1 z.2.1 z.2.2.1).getD i.toNat 0:=by
 have a:k.toNat < (fC vs ms cs fs ts z.1 z.2.1 z.2.2.1).length:=by omega
 have b:i.toNat < (fC vs ms cs fs ts z.1 z.2.1 z.2.2.1).length:=by omega
 rw[Jk,Jk,kP a,kP b];exact aeL.1 (aqw I) _ _ a b (by omega)
theorem aqx(hs:dI (aF vs ms cs fs ts).1 bound=0) (hp:pk.length<=40):(oz vs ms cs fs ts bound pk (qx vs ms cs fs ts bound).1).2=true/\Inv vs ms cs fs ts bound (rZ vs ms cs fs ts bound pk)/\(rZ vs ms cs fs ts bound pk).1.length<=48:=by
 have hS:qx vs ms cs fs ts bound=((nC (aF vs ms cs fs ts).1 fs bound ts,(qw vs ms cs fs ts).1,[],()),0):=by unfold qx;rw[if_neg (by omega)]
 have I0:Inv vs ms cs fs ts bound (qx vs ms cs fs ts bound).1:=by rw[hS];exact Vz hs
 have hl0:(qx vs ms cs fs ts bound).1.1.length<=8:=by
  rw[hS];show(nC _ _ _ _).length<=8;rw[MN];exact(Fb (kV (fJ.1 hs).1).2.2).1.2
 obtain⟨a,b,c⟩:=VO pk I0 (by omega)
 exact⟨a,b,by unfold rZ;omega⟩
theorem aqy{x d:Int} (h:(Qc vs ms cs fs ts bound pk)[x.toNat]?=some d):d=rId vs ms cs fs ts bound pk x:=by
 unfold rId;rw[Jk,h];rfl
theorem oC{x:Int}{C:Int->Prop} (h:C (rId vs ms cs fs ts bound pk x)):∀d,(Qc vs ms cs fs ts bound pk)[x.toNat]?=some d->C d:=λd hd=>by rw[aqy hd];exact h
theorem r_at(I:Inv vs ms cs fs ts bound (rZ vs ms cs fs ts bound pk)) (hl:(rZ vs ms cs fs ts bound pk).1.length<=48){x:Int} (h0:0<=x) (hx:x < ((Qc vs ms cs fs ts bound pk).length:Int)):
 ∃t j,t∈(rZ vs ms cs fs ts bound pk).1/\rId vs ms cs fs ts bound pk x=t.1/\dY (aF vs ms cs fs ts).1 ms fs t=(j,true)/\rO (rZ vs ms cs fs ts bound pk).1 (rZ vs ms cs fs ts bound pk).2.1 t j=true/\wX vs ms cs fs ts bound pk x=labS (rZ vs ms cs fs ts bound pk).2.1 t j /\
   mG vs ms cs fs ts bound pk x=bJ vs ms cs fs ts bound (rZ vs ms cs fs ts bound pk) t.1/\bE (wX vs ms cs fs ts bound pk x)/\Inv vs ms cs fs ts bound (mG vs ms cs fs ts bound pk x).1/\(mG vs ms cs fs ts bound pk x).1.1.length<=49/\(mG vs ms cs fs ts bound pk x).2=(wX vs ms cs fs ts bound pk x,0):=by
 obtain⟨t,j,m,e,p,n⟩:=aqv I h0 hx;have e:rId vs ms cs fs ts bound pk x=t.1:=e.symm;have l:wX vs ms cs fs ts bound pk x=labS (rZ vs ms cs fs ts bound pk).2.1 t j:=by unfold wX;rw[e,aek I m p]
 have s:mG vs ms cs fs ts bound pk x=bJ vs ms cs fs ts bound (rZ vs ms cs fs ts bound pk) t.1:=by unfold mG;rw[e]
 obtain⟨a,b,c⟩:=VN I (by omega) m p n
 have hb:=((I.bt (by omega)).2 t m).2.1
 have h0:=(kG I (by omega) m p).2.2.2.2
 refine⟨t,j,m,e,p,n,l,s,?_,by rw[s];exact b,by rw[s,c];split<;>omega,by rw[s,a,l]⟩
 rw[l];unfold bE eA;rw[kN];omega
theorem aob(I:Inv vs ms cs fs ts bound (rZ vs ms cs fs ts bound pk)) (hl:(rZ vs ms cs fs ts bound pk).1.length<=48){x y:Nat} (g:(x:Int) < ((Qc vs ms cs fs ts bound pk).length:Int)) (g2:(y:Int) < (x:Int)) (hd:Jj (wX vs ms cs fs ts bound pk x) (wX vs ms cs fs ts bound pk y)=false):
 Py (nT vs ms cs fs ts bound pk x y).1/\(mG vs ms cs fs ts bound pk x).2.2=0/\(nT vs ms cs fs ts bound pk x y).2.2=0/\(mG vs ms cs fs ts bound pk y).2.2=0/\(nT vs ms cs fs ts bound pk y x).2.2=0/\zA (mG vs ms cs fs ts bound pk x).2.1 (wX vs ms cs fs ts bound pk x)=true/\zA (nT vs ms cs fs ts bound pk x y).2.1 (wX vs ms cs fs ts bound pk y)=true /\
  zA (mG vs ms cs fs ts bound pk y).2.1 (wX vs ms cs fs ts bound pk y)=true/\zA (nT vs ms cs fs ts bound pk y x).2.1 (wX vs ms cs fs ts bound pk x)=true/\mP (nT vs ms cs fs ts bound pk x y).1 (nT vs ms cs fs ts bound pk y x).1=true:=by
 have Gx:0<=(x:Int)/\(x:Int) < ((Qc vs ms cs fs ts bound pk).length:Int):=⟨by omega,g⟩
 have Gy:0<=(y:Int)/\(y:Int) < ((Qc vs ms cs fs ts bound pk).length:Int):=⟨by omega,by omega⟩
 obtain⟨ta,ja,ma,ia,pa,na,la,sa,ba,Ja,ka,ra⟩:=r_at I hl Gx.1 Gx.2;obtain⟨tb,jb,mb,ib,pb,nb,lb,sb,bb,Jb,kb,rb⟩:=r_at I hl Gy.1 Gy.2;have hne:ta.1≠tb.1:=by
  have:=ajS I Gy.1 g2 g;rw[<-ia,<-ib];unfold rId Qc;omega
 have hI:=aiX I (by omega) ma mb pa pb na hne (by rw[<-la,<-lb];exact hd)
 obtain⟨c1,c2,c3,c4,c5⟩:=ad4 I (by omega) ma mb pa pb na nb hI
 have K:=(DF I (by omega) ma mb pa pb na nb hI).2.2.1
 have e2:nT vs ms cs fs ts bound pk x y=bJ vs ms cs fs ts bound (bJ vs ms cs fs ts bound (rZ vs ms cs fs ts bound pk) ta.1).1 tb.1:=by unfold nT;rw[sa,ib]
 have e4:nT vs ms cs fs ts bound pk y x=bJ vs ms cs fs ts bound (bJ vs ms cs fs ts bound (rZ vs ms cs fs ts bound pk) tb.1).1 ta.1:=by unfold nT;rw[sb,ia]
 rw[<-e2]at c2 c5 K;rw[<-e4]at c4 c5;rw[<-lb]at c2;rw[<-la]at c4;have kl:(nT vs ms cs fs ts bound pk x y).1.1.length<=50:=by
  have h2:(nT vs ms cs fs ts bound pk x y).2.2=0:=by rw[c2]
  have:=(aiN (z:=(mG vs ms cs fs ts bound pk x).1) (id:=rId vs ms cs fs ts bound pk y) h2).1;show(bJ _ _ _ _ _ _ _ _).1.1.length<=50;omega
 have bS:Py (nT vs ms cs fs ts bound pk x y).1:=⟨K.bt (by omega),K.bm (by omega),K.bb⟩
 have n1:(mG vs ms cs fs ts bound pk x).2.2=0:=by rw[ra]
 have n2:(nT vs ms cs fs ts bound pk x y).2.2=0:=by rw[c2]
 have n3:(mG vs ms cs fs ts bound pk y).2.2=0:=by rw[rb]
 have n4:(nT vs ms cs fs ts bound pk y x).2.2=0:=by rw[c4]
 have m1:zA (mG vs ms cs fs ts bound pk x).2.1 (wX vs ms cs fs ts bound pk x)=true:=BK.2 (by rw[ra])
 have m2:zA (nT vs ms cs fs ts bound pk x y).2.1 (wX vs ms cs fs ts bound pk y)=true:=BK.2 (by rw[c2])
 have m3:zA (mG vs ms cs fs ts bound pk y).2.1 (wX vs ms cs fs ts bound pk y)=true:=BK.2 (by rw[rb])
 have m4:zA (nT vs ms cs fs ts bound pk y x).2.1 (wX vs ms cs fs ts bound pk x)=true:=BK.2 (by rw[c4])
 have m5:mP (nT vs ms cs fs ts bound pk x y).1 (nT vs ms cs fs ts bound pk y x).1=true:=jh c5;exact⟨bS,n1,n2,n3,n4,m1,m2,m3,m4,m5⟩
end
abbrev arY:CT:={ ps:=[tK,.int .i64,.sl (.int .i64)],pre:=λd=>True,res:=λd=>([],vB (true)) }
noncomputable abbrev arZ (vs:List VD) (ms cs:List ByteArray) (fs:List FD) (ts:List SD) (bound:Int) (pk:List Int):Nat->Option (St->kH):=λn=>match n with
 | 8=>some λ_=>.inv { α:=Nat,slots:=λk=>[(10,.c (.v (.int .i64 k)))],res:=λ_=>[],inv:=λk=>k<=(Qc vs ms cs fs ts bound pk).length,meas:=λk=>(Qc vs ms cs fs ts bound pk).length - k,drop:=[11] }
 | 11=>some λs=>.inv { α:=Nat,slots:=λk=>[(11,.c (.v (.int .i64 k)))],res:=λ_=>[],inv:=λk=>(k:Int)<=aI s 10,meas:=λk=>(aI s 10).toNat - k }
 | 4=>some λ_=>.cut { α:=Nat,pad:=1,can:=[(1,.slot 7)],slots:=λ_=>[(7,.c (.own 1 0)),(8,.c (.v (.bool true)))],res:=λ_=>[(1,bZ (rZ vs ms cs fs ts bound pk).1 (rZ vs ms cs fs ts bound pk).2.1.1 (rZ vs ms cs fs ts bound pk).2.1.2.1 (rZ vs ms cs fs ts bound pk).2.1.2.2.1 (rZ vs ms cs fs ts bound pk).2.1.2.2.2.1 (rZ vs ms cs fs ts bound pk).2.2.1)],inv:=λu=>u=0,meas:=λ_=>0 }
 | 7=>some λ_=>.cut { α:=Nat,slots:=λ_=>[(9,.c (.sl (.int .i64) (Qc vs ms cs fs ts bound pk)))],res:=λ_=>[],inv:=λu=>u=0,meas:=λ_=>0 }
 | 14=>some λs=>.cut { α:=Nat,pad:=1,can:=[(2,.slot 12)],slots:=λ_=>[(12,.c (.own 2 0))],res:=λ_=>[(2,.blk 49 [v6 (wX vs ms cs fs ts bound pk (aI s 10)).1,v6 (wX vs ms cs fs ts bound pk (aI s 10)).2.1,v6 (wX vs ms cs fs ts bound pk (aI s 10)).2.2.1,v6 (wX vs ms cs fs ts bound pk (aI s 10)).2.2.2.1,v6 (wX vs ms cs fs ts bound pk (aI s 10)).2.2.2.2.1,v6 (wX vs ms cs fs ts bound pk (aI s 10)).2.2.2.2.2.1,v6 (wX vs ms cs fs ts bound pk (aI s 10)).2.2.2.2.2.2.1,v6 (wX vs ms cs fs ts bound pk (aI s 10)).2.2.2.2.2.2.2.1,v6 (wX vs ms cs fs ts bound pk (aI s 10)).2.2.2.2.2.2.2.2.1])],inv:=λu=>u=0,meas:=λ_=>0,drop:=[13] }
 | 15=>some λs=>.cut { α:=Nat,pad:=1,can:=[(3,.slot 14)],slots:=λ_=>[(14,.c (.own 3 0))],res:=λ_=>[(3,.blk 49 [v6 (wX vs ms cs fs ts bound pk (aI s 11)).1,v6 (wX vs ms cs fs ts bound pk (aI s 11)).2.1,v6 (wX vs ms cs fs ts bound pk (aI s 11)).2.2.1,v6 (wX vs ms cs fs ts bound pk (aI s 11)).2.2.2.1,v6 (wX vs ms cs fs ts bound pk (aI s 11)).2.2.2.2.1,v6 (wX vs ms cs fs ts bound pk (aI s 11)).2.2.2.2.2.1,v6 (wX vs ms cs fs ts bound pk (aI s 11)).2.2.2.2.2.2.1,v6 (wX vs ms cs fs ts bound pk (aI s 11)).2.2.2.2.2.2.2.1,v6 (wX vs ms cs fs ts bound pk (aI s 11)).2.2.2.2.2.2.2.2.1])],inv:=λu=>u=0,meas:=λ_=>0,drop:=[15] }
 | 17=>some λs=>.cut { α:=Nat,pad:=2,can:=[(4,.slot 16),(5,.slot 17)],slots:=λ_=>[(16,.c (.own 4 0)),(17,.c (.own 5 0)),(18,.c (.v (.int .i64 ((mG vs ms cs fs ts bound pk (aI s 10)).2.2))))],res:=λ_=>[(4,bZ ((mG vs ms cs fs ts bound pk (aI s 10)).1).1 ((mG vs ms cs fs ts bound pk (aI s 10)).1).2.1.1 ((mG vs ms cs fs ts bound pk (aI s 10)).1).2.1.2.1 ((mG vs ms cs fs ts bound pk (aI s 10)).1).2.1.2.2.1 ((mG vs ms cs fs ts bound pk (aI s 10)).1).2.1.2.2.2.1 ((mG vs ms cs fs ts bound pk (aI s 10)).1).2.2.1),(5,.blk 49 [v6 ((mG vs ms cs fs ts bound pk (aI s 10)).2.1).1,v6 ((mG vs ms cs fs ts bound pk (aI s 10)).2.1).2.1,v6 ((mG vs ms cs fs ts bound pk (aI s 10)).2.1).2.2.1,v6 ((mG vs ms cs fs ts bound pk (aI s 10)).2.1).2.2.2.1,v6 ((mG vs ms cs fs ts bound pk (aI s 10)).2.1).2.2.2.2.1,v6 ((mG vs ms cs fs ts bound pk (aI s 10)).2.1).2.2.2.2.2.1,v6 ((mG vs ms cs fs ts bound pk (aI s 10)).2.1).2.2.2.2.2.2.1,v6 ((mG vs ms cs fs ts bound pk (aI s 10)).2.1).2.2.2.2.2.2.2.1,v6 ((mG vs ms cs fs ts bound pk (aI s 10)).2.1).2.2.2.2.2.2.2.2.1])],inv:=λu=>u=0,meas:=λ_=>0 }
 | 18=>some λs=>.cut { α:=Nat,pad:=1,can:=[(6,.slot 19)],slots:=λ_=>[(19,.c (.own 6 0)),(20,.c (.v (.int .i64 ((nT vs ms cs fs ts bound pk (aI s 10) (aI s 11)).2.2))))],res:=λ_=>[(4,bZ ((nT vs ms cs fs ts bound pk (aI s 10) (aI s 11)).1).1 ((nT vs ms cs fs ts bound pk (aI s 10) (aI s 11)).1).2.1.1 ((nT vs ms cs fs ts bound pk (aI s 10) (aI s 11)).1).2.1.2.1 ((nT vs ms cs fs ts bound pk (aI s 10) (aI s 11)).1).2.1.2.2.1 ((nT vs ms cs fs ts bound pk (aI s 10) (aI s 11)).1).2.1.2.2.2.1 ((nT vs ms cs fs ts bound pk (aI s 10) (aI s 11)).1).2.2.1),(6,.blk 49 [v6 ((nT vs ms cs fs ts bound pk (aI s 10) (aI s 11)).2.1).1,v6 ((nT vs ms cs fs ts bound pk (aI s 10) (aI s 11)).2.1).2.1,v6 ((nT vs ms cs fs ts bound pk (aI s 10) (aI s 11)).2.1).2.2.1,v6 ((nT vs ms cs fs ts bound pk (aI s 10) (aI s 11)).2.1).2.2.2.1,v6 ((nT vs ms cs fs ts bound pk (aI s 10) (aI s 11)).2.1).2.2.2.2.1,v6 ((nT vs ms cs fs ts bound pk (aI s 10) (aI s 11)).2.1).2.2.2.2.2.1,v6 ((nT vs ms cs fs ts bound pk (aI s 10) (aI s 11)).2.1).2.2.2.2.2.2.1,v6 ((nT vs ms cs fs ts bound pk (aI s 10) (aI s 11)).2.1).2.2.2.2.2.2.2.1,v6 ((nT vs ms cs fs ts bound pk (aI s 10) (aI s 11)).2.1).2.2.2.2.2.2.2.2.1])],inv:=λu=>u=0,meas:=λ_=>0 }
 | 19=>some λs=>.cut { α:=Nat,pad:=2,can:=[(7,.slot 21),(8,.slot 22)],slots:=λ_=>[(21,.c (.own 7 0)),(22,.c (.own 8 0)),(23,.c (.v (.int .i64 ((mG vs ms cs fs ts bound pk (aI s 11)).2.2))))],res:=λ_=>[(7,bZ ((mG vs ms cs fs ts bound pk (aI s 11)).1).1 ((mG vs ms cs fs ts bound pk (aI s 11)).1).2.1.1 ((mG vs ms cs fs ts bound pk (aI s 11)).1).2.1.2.1 ((mG vs ms cs fs ts bound pk (aI s 11)).1).2.1.2.2.1 ((mG vs ms cs fs ts bound pk (aI s 11)).1).2.1.2.2.2.1 ((mG vs ms cs fs ts bound pk (aI s 11)).1).2.2.1),(8,.blk 49 [v6 ((mG vs ms cs fs ts bound pk (aI s 11)).2.1).1,v6 ((mG vs ms cs fs ts bound pk (aI s 11)).2.1).2.1,v6 ((mG vs ms cs fs ts bound pk (aI s 11)).2.1).2.2.1,v6 ((mG vs ms cs fs ts bound pk (aI s 11)).2.1).2.2.2.1,v6 ((mG vs ms cs fs ts bound pk (aI s 11)).2.1).2.2.2.2.1,v6 ((mG vs ms cs fs ts bound pk (aI s 11)).2.1).2.2.2.2.2.1,v6 ((mG vs ms cs fs ts bound pk (aI s 11)).2.1).2.2.2.2.2.2.1,v6 ((mG vs ms cs fs ts bound pk (aI s 11)).2.1).2.2.2.2.2.2.2.1,v6 ((mG vs ms cs fs ts bound pk (aI s 11)).2.1).2.2.2.2.2.2.2.2.1])],inv:=λu=>u=0,meas:=λ_=>0 }
 | 20=>some λs=>.cut { α:=Nat,pad:=1,can:=[(9,.slot 24)],slots:=λ_=>[(24,.c (.own 9 0)),(25,.c (.v (.int .i64 ((nT vs ms cs fs ts bound pk (aI s 11) (aI s 10)).2.2))))],res:=λ_=>[(7,bZ ((nT vs ms cs fs ts bound pk (aI s 11) (aI s 10)).1).1 ((nT vs ms cs fs ts bound pk (aI s 11) (aI s 10)).1).2.1.1 ((nT vs ms cs fs ts bound pk (aI s 11) (aI s 10)).1).2.1.2.1 ((nT vs ms cs fs ts bound pk (aI s 11) (aI s 10)).1).2.1.2.2.1 ((nT vs ms cs fs ts bound pk (aI s 11) (aI s 10)).1).2.1.2.2.2.1 ((nT vs ms cs fs ts bound pk (aI s 11) (aI s 10)).1).2.2.1),(9,.blk 49 [v6 ((nT vs ms cs fs ts bound pk (aI s 11) (aI s 10)).2.1).1,v6 ((nT vs ms cs fs ts bound pk (aI s 11) (aI s 10)).2.1).2.1,v6 ((nT vs ms cs fs ts bound pk (aI s 11) (aI s 10)).2.1).2.2.1,v6 ((nT vs ms cs fs ts bound pk (aI s 11) (aI s 10)).2.1).2.2.2.1,v6 ((nT vs ms cs fs ts bound pk (aI s 11) (aI s 10)).2.1).2.2.2.2.1,v6 ((nT vs ms cs fs ts bound pk (aI s 11) (aI s 10)).2.1).2.2.2.2.2.1,v6 ((nT vs ms cs fs ts bound pk (aI s 11) (aI s 10)).2.1).2.2.2.2.2.2.1,v6 ((nT vs ms cs fs ts bound pk (aI s 11) (aI s 10)).2.1).2.2.2.2.2.2.2.1,v6 ((nT vs ms cs fs ts bound pk (aI s 11) (aI s 10)).2.1).2.2.2.2.2.2.2.2.1])],inv:=λu=>u=0,meas:=λ_=>0 }
 | _=>none
theorem aqz(vs:List VD) (ms cs:List ByteArray) (fs:List FD) (ts:List SD) (bound:Int) (pk:List Int):
 let z55:=((vs,ms,cs,fs,ts,()),());let z54:=bnd z55;let z43:=oz vs ms cs fs ts bound pk (qx vs ms cs fs ts bound).fst;let z59:=bP vs ms cs fs ts;let z57:=rZ vs ms cs fs ts bound pk;let z25:=[SC.sl dQ z57.fst,SC.sl I6 z57.snd.fst.fst,SC.sl I6 z57.snd.fst.snd.fst,SC.sl I6.sl z57.snd.fst.snd.snd.fst,SC.sl I6 z57.snd.fst.snd.snd.snd.fst,SC.sl yO z57.snd.snd.fst];let z24:=[g0 z59,g0 (au.blk 37 z25)];let z34:=z54/\iI z57.fst/\bK z57.snd.fst;let z56:=Qc vs ms cs fs ts bound pk;let z39:=λ(x:Nat)=>0<=(x:Int)/\(x:Int) < (z56.length:Int);let z33:=λ(d:Int)=>yj vs ms cs fs ts z57.fst z57.snd.fst z57.snd.snd.fst d;let z12:=λ(d:Int)=>[v6 ((z33 d).fst.fst),v6 ((z33 d).fst.snd.fst),v6 ((z33 d).fst.snd.snd.fst),v6 ((z33 d).fst.snd.snd.snd.fst),v6 ((z33 d).fst.snd.snd.snd.snd.fst),v6 ((z33 d).fst.snd.snd.snd.snd.snd.fst),v6 ((z33 d).fst.snd.snd.snd.snd.snd.snd.fst),v6 ((z33 d).fst.snd.snd.snd.snd.snd.snd.snd.fst),v6 ((z33 d).fst.snd.snd.snd.snd.snd.snd.snd.snd.fst)];let z10:=λ(d:Int)=>[g0 z59,g0 (au.blk 37 z25),g0 (au.blk 49 (z12 d))];let z52:=λ(x:Nat)=>wX vs ms cs fs ts bound pk (x:Int);let yh:=λ(x:Nat)=>[v6 ((z52 x).fst),v6 ((z52 x).snd.fst),v6 ((z52 x).snd.snd.fst),v6 ((z52 x).snd.snd.snd.fst),v6 ((z52 x).snd.snd.snd.snd.fst),v6 ((z52 x).snd.snd.snd.snd.snd.fst),v6 ((z52 x).snd.snd.snd.snd.snd.snd.fst),v6 ((z52 x).snd.snd.snd.snd.snd.snd.snd.fst),v6 ((z52 x).snd.snd.snd.snd.snd.snd.snd.snd.fst)];let zx:=λ(x:Nat)=>[g0 z59,g0 (au.blk 37 z25),g0 (au.blk 49 (yh x))];let z49:=SV.c (SC.own 3 0)=SV.c (SC.own 3 0)/\True;let z9:=λ(x:Nat) (d:Int)=>[g0 z59,g0 (au.blk 37 z25),g0 (au.blk 49 (yh x)),g0 (au.blk 49 (z12 d))];let z11:=λ(x x_1:Nat)=>[g0 z59,g0 (au.blk 37 z25),g0 (au.blk 49 (yh x)),g0 (au.blk 49 (yh x_1))];let z50:=λ(x_1:Nat)=>wX vs ms cs fs ts bound pk (x_1:Int);let z58:=λ(x:Nat)=>(x:Int)+(1:Int);let z20:=λ(x_1 x:Nat)=>(dX IntKind.i64 (z58 x_1)/\∃(x':Nat),(x':Int)<=(x:Int)/\(cI (z58 x_1)=cI (x':Int)/\True)/\sm z24/\(x:Int).toNat - x' < (x:Int).toNat - x_1);let z28:=z54/\iI z57.fst/\List.length z57.fst<=999999/\oq z57.snd.fst=true/\uT z57.snd.snd.fst;let z44:=λ(d:Int)=>bJ vs ms cs fs ts bound z57 d;let z41:=λ(d:Int)=>(z44 d).snd.snd;let z53:=λ(x:Nat)=>mG vs ms cs fs ts bound pk (x:Int);let z48:=λ(x:Nat)=>(z53 x).snd.snd;let z29:=λ(d:Int) (x:Nat)=>SV.c (SC.own 4 0)=SV.c (SC.own 4 0)/\SV.c (SC.own 5 0)=SV.c (SC.own 5 0)/\cI (z41 d)=cI (z48 x)/\True;let z21:=λ(d:Int)=>[SC.sl dQ (z44 d).fst.fst,SC.sl I6 (z44 d).fst.snd.fst.fst,SC.sl I6 (z44 d).fst.snd.fst.snd.fst,SC.sl I6.sl (z44 d).fst.snd.fst.snd.snd.fst,SC.sl I6 (z44 d).fst.snd.fst.snd.snd.snd.fst,SC.sl yO (z44 d).fst.snd.snd.fst];let oH:=λ(d:Int)=>[v6 ((z44 d).snd.fst.fst),v6 ((z44 d).snd.fst.snd.fst),v6 ((z44 d).snd.fst.snd.snd.fst),v6 ((z44 d).snd.fst.snd.snd.snd.fst),v6 ((z44 d).snd.fst.snd.snd.snd.snd.fst),v6 ((z44 d).snd.fst.snd.snd.snd.snd.snd.fst),v6 ((z44 d).snd.fst.snd.snd.snd.snd.snd.snd.fst),v6 ((z44 d).snd.fst.snd.snd.snd.snd.snd.snd.snd.fst),v6 ((z44 d).snd.fst.snd.snd.snd.snd.snd.snd.snd.snd.fst)];let z7:=λ(x x_1:Nat) (d:Int)=>[g0 z59,g0 (au.blk 37 z25),g0 (au.blk 49 (yh x)),g0 (au.blk 49 (yh x_1)),g0 (au.blk 37 (z21 d)),g0 (au.blk 49 (oH d))];let z51:=λ(x_1:Nat)=>mG vs ms cs fs ts bound pk (x_1:Int);let z23:=λ(x_1:Nat)=>[SC.sl dQ (z51 x_1).fst.fst,SC.sl I6 (z51 x_1).fst.snd.fst.fst,SC.sl I6 (z51 x_1).fst.snd.fst.snd.fst,SC.sl I6.sl (z51 x_1).fst.snd.fst.snd.snd.fst,SC.sl I6 (z51 x_1).fst.snd.fst.snd.snd.snd.fst,SC.sl yO (z51 x_1).fst.snd.snd.fst];let z17:=λ(x:Nat)=>[v6 ((z53 x).snd.fst.fst),v6 ((z53 x).snd.fst.snd.fst),v6 ((z53 x).snd.fst.snd.snd.fst),v6 ((z53 x).snd.fst.snd.snd.snd.fst),v6 ((z53 x).snd.fst.snd.snd.snd.snd.fst),v6 ((z53 x).snd.fst.snd.snd.snd.snd.snd.fst),v6 ((z53 x).snd.fst.snd.snd.snd.snd.snd.snd.fst),v6 ((z53 x).snd.fst.snd.snd.snd.snd.snd.snd.snd.fst),v6 ((z53 x).snd.fst.snd.snd.snd.snd.snd.snd.snd.snd.fst)];let z8:=λ(x x_1:Nat)=>[g0 z59,g0 (au.blk 37 z25),g0 (au.blk 49 (yh x)),g0 (au.blk 49 (yh x_1)),g0 (au.blk 37 (z23 x)),g0 (au.blk 49 (z17 x))];let z27:=λ(x:Nat)=>z54/\iI (z53 x).fst.fst/\List.length (z53 x).fst.fst<=999999/\oq (z53 x).fst.snd.fst=true/\uT (z53 x).fst.snd.snd.fst;let z40:=λ(x:Nat) (d:Int)=>bJ vs ms cs fs ts bound (z53 x).fst d;let z38:=λ(x:Nat) (d:Int)=>(z40 x d).snd.snd;let z47:=λ(x x_1:Nat)=>nT vs ms cs fs ts bound pk (x:Int) (x_1:Int);let z31:=λ(x:Nat) (d:Int) (x_1:Nat)=>SV.c (SC.own 6 0)=SV.c (SC.own 6 0)/\cI (z38 x d)=cI ((z47 x x_1).snd.snd)/\True;let SB:=λ(x:Nat) (d:Int)=>[SC.sl dQ (z40 x d).fst.fst,SC.sl I6 (z40 x d).fst.snd.fst.fst,SC.sl I6 (z40 x d).fst.snd.fst.snd.fst,SC.sl I6.sl (z40 x d).fst.snd.fst.snd.snd.fst,SC.sl I6 (z40 x d).fst.snd.fst.snd.snd.snd.fst,SC.sl yO (z40 x d).fst.snd.snd.fst];let z13:=λ(x:Nat) (d:Int)=>[v6 ((z40 x d).snd.fst.fst),v6 ((z40 x d).snd.fst.snd.fst),v6 ((z40 x d).snd.fst.snd.snd.fst),v6 ((z40 x d).snd.fst.snd.snd.snd.fst),v6 ((z40 x d).snd.fst.snd.snd.snd.snd.fst),v6 ((z40 x d).snd.fst.snd.snd.snd.snd.snd.fst),v6 ((z40 x d).snd.fst.snd.snd.snd.snd.snd.snd.fst),v6 ((z40 x d).snd.fst.snd.snd.snd.snd.snd.snd.snd.fst),v6 ((z40 x d).snd.fst.snd.snd.snd.snd.snd.snd.snd.snd.fst)];let z5:=λ(x x_1:Nat) (d:Int)=>[g0 z59,g0 (au.blk 37 z25),g0 (au.blk 49 (yh x)),g0 (au.blk 49 (yh x_1)),g0 (au.blk 37 (SB x d)),g0 (au.blk 49 (z17 x)),g0 (au.blk 49 (z13 x d))];let z22:=λ(x x_1:Nat)=>[SC.sl dQ (z47 x x_1).fst.fst,SC.sl I6 (z47 x x_1).fst.snd.fst.fst,SC.sl I6 (z47 x x_1).fst.snd.fst.snd.fst,SC.sl I6.sl (z47 x x_1).fst.snd.fst.snd.snd.fst,SC.sl I6 (z47 x x_1).fst.snd.fst.snd.snd.snd.fst,SC.sl yO (z47 x x_1).fst.snd.snd.fst];let Dn:=λ(x x_1:Nat)=>[v6 ((z47 x x_1).snd.fst.fst),v6 ((z47 x x_1).snd.fst.snd.fst),v6 ((z47 x x_1).snd.fst.snd.snd.fst),v6 ((z47 x x_1).snd.fst.snd.snd.snd.fst),v6 ((z47 x x_1).snd.fst.snd.snd.snd.snd.fst),v6 ((z47 x x_1).snd.fst.snd.snd.snd.snd.snd.fst),v6 ((z47 x x_1).snd.fst.snd.snd.snd.snd.snd.snd.fst),v6 ((z47 x x_1).snd.fst.snd.snd.snd.snd.snd.snd.snd.fst),v6 ((z47 x x_1).snd.fst.snd.snd.snd.snd.snd.snd.snd.snd.fst)];let z6:=λ(x x_1:Nat)=>[g0 z59,g0 (au.blk 37 z25),g0 (au.blk 49 (yh x)),g0 (au.blk 49 (yh x_1)),g0 (au.blk 37 (z22 x x_1)),g0 (au.blk 49 (z17 x)),g0 (au.blk 49 (Dn x x_1))];let z30:=λ(d:Int) (x_1:Nat)=>SV.c (SC.own 7 0)=SV.c (SC.own 7 0)/\SV.c (SC.own 8 0)=SV.c (SC.own 8 0)/\cI (z41 d)=cI (z48 x_1)/\True;let z3:=λ(x x_1:Nat) (d:Int)=>[g0 z59,g0 (au.blk 37 z25),g0 (au.blk 49 (yh x)),g0 (au.blk 49 (yh x_1)),g0 (au.blk 37 (z22 x x_1)),g0 (au.blk 49 (z17 x)),g0 (au.blk 49 (Dn x x_1)),g0 (au.blk 37 (z21 d)),g0 (au.blk 49 (oH d))];let z4:=λ(x x_1:Nat)=>[g0 z59,g0 (au.blk 37 z25),g0 (au.blk 49 (yh x)),g0 (au.blk 49 (yh x_1)),g0 (au.blk 37 (z22 x x_1)),g0 (au.blk 49 (z17 x)),g0 (au.blk 49 (Dn x x_1)),g0 (au.blk 37 (z23 x_1)),g0 (au.blk 49 (z17 x_1))];let z26:=λ(x_1:Nat)=>z54/\iI (z51 x_1).fst.fst/\List.length (z51 x_1).fst.fst<=999999/\oq (z51 x_1).fst.snd.fst=true/\uT (z51 x_1).fst.snd.snd.fst;let z32:=λ(x_1:Nat) (d:Int) (x:Nat)=>SV.c (SC.own 9 0)=SV.c (SC.own 9 0)/\cI (z38 x_1 d)=cI ((z47 x_1 x).snd.snd)/\True;let z1:=λ(x x_1:Nat) (d:Int)=>[g0 z59,g0 (au.blk 37 z25),g0 (au.blk 49 (yh x)),g0 (au.blk 49 (yh x_1)),g0 (au.blk 37 (z22 x x_1)),g0 (au.blk 49 (z17 x)),g0 (au.blk 49 (Dn x x_1)),g0 (au.blk 37 (SB x_1 d)),g0 (au.blk 49 (z17 x_1)),g0 (au.blk 49 (z13 x_1 d))];let z2:=λ(x x_1:Nat)=>[g0 z59,g0 (au.blk 37 z25),g0 (au.blk 49 (yh x)),g0 (au.blk 49 (yh x_1)),g0 (au.blk 37 (z22 x x_1)),g0 (au.blk 49 (z17 x)),g0 (au.blk 49 (Dn x x_1)),g0 (au.blk 37 (z22 x_1 x)),g0 (au.blk 49 (z17 x_1)),g0 (au.blk 49 (Dn x_1 x))];let z46:=λ(x:Nat)=>(z53 x).snd.snd=0;let z42:=λ(x x_1:Nat)=>(z47 x x_1).snd.snd=0;let z45:=λ(x_1:Nat)=>(z51 x_1).snd.snd=0;let z37:=λ(x:Nat)=>zA (z53 x).snd.fst (z52 x);let z35:=λ(x x_1:Nat)=>zA (z47 x x_1).snd.fst (z50 x_1);let z36:=λ(x_1:Nat)=>zA (z51 x_1).snd.fst (z50 x_1);True /\
 ((!(!UK vs ms cs fs ts || decide (40 < (pk.length:Int))))=true->bnd z55) /\
   br (!UK vs ms cs fs ts || decide (40 < (pk.length:Int)) || !decide (dI (aF vs ms cs fs ts).fst bound=0)) (True/\qB true true)
    (((z54/\dI (aF vs ms cs fs ts).fst bound=0/\ts.length<=20/\pk.length<=40)/\∃(v:Nat),v=0/\(SV.c (SC.own 1 0)=SV.c (SC.own 1 0)/\cB (z43.snd)=cB true/\True)/\[g0 z59,g0 (au.blk 37 [SC.sl dQ z43.fst.fst,SC.sl I6 z43.fst.snd.fst.fst,SC.sl I6 z43.fst.snd.fst.snd.fst,SC.sl I6.sl z43.fst.snd.fst.snd.snd.fst,SC.sl I6 z43.fst.snd.fst.snd.snd.snd.fst,SC.sl yO z43.fst.snd.snd.fst])]=z24) /\
      ∀(v:Nat),
        v=0 ->
          (z34/\∃(v:Nat),v=0/\(SV.c (SC.sl I6 (fC vs ms cs fs ts z57.fst z57.snd.fst z57.snd.snd.fst))=SV.c (SC.sl I6 z56)/\True)/\sm z24) /\
           ∀(v:Nat),
             v=0 ->
               (∃(x:Nat),x<=z56.length/\(cI 0=cI (x:Int)/\True)/\sm z24) /\
                ∀(x:Nat),
                  x<=z56.length ->
                    br (decide ((x:Int) < (z56.length:Int)))
                     ((∃(x_1:Nat),(x_1:Int)<=(x:Int)/\(cI 0=cI (x_1:Int)/\True)/\sm z24) /\
                       ∀(x_1:Nat),
                         (x_1:Int)<=(x:Int) ->
                          br (decide ((x_1:Int) < (x:Int)))
                           (((z39 x)/\∀(d:Int),z56[(x:Int).toNat]?=some d->(z34/\∃(v:Nat),v=0/\wS/\(z10 d)=(zx x))/\z34/\∃(v:Nat),v=0/\wS/\(z10 d)=(zx x)) /\
                             ∀(v:Nat),
                               v=0 ->
                                 ((z39 x_1)/\∀(d:Int),z56[(x_1:Int).toNat]?=some d->(z34/\∃(v:Nat),v=0/\z49/\(z9 x d)=(z11 x x_1))/\z34/\∃(v:Nat),v=0/\z49/\(z9 x d)=(z11 x x_1)) /\
                                   ∀(v:Nat),
                                     v=0 ->
                                       (bE (z52 x)/\bE (z50 x_1)) /\
                                        br (Jj (z52 x) (z50 x_1)) (z20 x_1 x)
                                         (((z39 x)/\∀(d:Int),z56[(x:Int).toNat]?=some d->(z28/\(∃(v:Nat),v=0/\(z29 d x)/\(z7 x x_1 d)=(z8 x x_1))/\∃(v:Nat),v=0/\(z29 d x)/\(z7 x x_1 d)=(z8 x x_1))/\((z28/\∃(v:Nat),v=0/\(z29 d x)/\(z7 x x_1 d)=(z8 x x_1))/\z28/\∃(v:Nat),v=0/\(z29 d x)/\(z7 x x_1 d)=(z8 x x_1))/\(z28/\∃(v:Nat),v=0/\(z29 d x)/\(z7 x x_1 d)=(z8 x x_1))/\z28/\∃(v:Nat),v=0/\(z29 d x)/\(z7 x x_1 d)=(z8 x x_1)) /\
                                           ∀(v:Nat),
                                             v=0 ->
                                               ((z39 x_1)/\∀(d:Int),z56[(x_1:Int).toNat]?=some d->((z27 x)/\∃(v:Nat),v=0/\(z31 x d x_1)/\(z5 x x_1 d)=(z6 x x_1))/\(z27 x)/\∃(v:Nat),v=0/\(z31 x d x_1)/\(z5 x x_1 d)=(z6 x x_1)) /\
                                                 ∀(v:Nat),
                                                   v=0 ->
                                                     ((z39 x_1) /\
                                                      ∀(d:Int),
                                                        z56[(x_1:Int).toNat]?=some d ->
                                                         (z28/\(∃(v:Nat),v=0/\(z30 d x_1)/\(z3 x x_1 d)=(z4 x x_1))/\∃(v:Nat),v=0/\(z30 d x_1)/\(z3 x x_1 d)=(z4 x x_1)) /\
                                                          ((z28/\∃(v:Nat),v=0/\(z30 d x_1)/\(z3 x x_1 d)=(z4 x x_1))/\z28/\∃(v:Nat),v=0/\(z30 d x_1)/\(z3 x x_1 d)=(z4 x x_1))/\(z28/\∃(v:Nat),v=0/\(z30 d x_1)/\(z3 x x_1 d)=(z4 x x_1))/\z28/\∃(v:Nat),v=0/\(z30 d x_1)/\(z3 x x_1 d)=(z4 x x_1)) /\
                                                       ∀(v:Nat),v=0->((z39 x)/\∀(d:Int),z56[(x:Int).toNat]?=some d->((z26 x_1)/\∃(v:Nat),v=0/\(z32 x_1 d x)/\(z1 x x_1 d)=(z2 x x_1))/\(z26 x_1)/\∃(v:Nat),v=0/\(z32 x_1 d x)/\(z1 x x_1 d)=(z2 x x_1))/\∀(v:Nat),v=0->((!(!decide (z46 x) || !decide (z42 x x_1) || !decide (z45 x_1) || !decide (z42 x_1 x) || !(z37 x) || !(z35 x x_1) || !(z36 x_1) || !(z35 x_1 x)))=true->Py (z47 x x_1).fst)/\br (!decide (z46 x) || !decide (z42 x x_1) || !decide (z45 x_1) || !decide (z42 x_1 x) || !(z37 x) || !(z35 x x_1) || !(z36 x_1) || !(z35 x_1 x) || !mP (z47 x x_1).fst (z47 x_1 x).fst) (qB true false) (z20 x_1 x)))
                           (dX IntKind.i64 (z58 x)/\∃(x':Nat),x'<=z56.length/\(cI (z58 x)=cI (x':Int)/\True)/\sm z24/\z56.length - x' < z56.length - x))
                     (True/\qB true true)):=by
 conv=>zeta
 delta wS;refine⟨trivial,λh=>?_,ah.2 ⟨λ_=>⟨trivial,rfl,rfl⟩,λh=>?_⟩⟩
 .simp only[Kq,oI,zG]at h;exact JX h.1
 simp only[oI,zG,gG,dV]at h;obtain⟨⟨hsm,hpk⟩,hs⟩:=h;have hb:=JX hsm;have hts:ts.length<=20:=by
  unfold UK at hsm;rw[A8,dV]at hsm;omega
 obtain⟨hrt,I,hl⟩:=aqx hs (by omega:pk.length<=40)
 have P:bnd ((vs,ms,cs,fs,ts,()),())/\iI (rZ vs ms cs fs ts bound pk).1/\bK (rZ vs ms cs fs ts bound pk).2.1:=⟨hb,I.bt (by omega),I.bm (by omega)⟩
 have Q:bnd ((vs,ms,cs,fs,ts,()),())/\iI (rZ vs ms cs fs ts bound pk).1/\(rZ vs ms cs fs ts bound pk).1.length<=999999/\oq (rZ vs ms cs fs ts bound pk).2.1=true/\uT (rZ vs ms cs fs ts bound pk).2.2.1:=⟨hb,I.bt (by omega),by omega,I.few (by omega),I.bb⟩
 have hle:(Qc vs ms cs fs ts bound pk).length<=48:=qY (VL I) hl;refine⟨⟨⟨hb,hs,hts,by omega⟩,0,rfl,⟨rfl,by rw[hrt],trivial⟩,rfl⟩,λv _=>⟨⟨P,0,rfl,⟨rfl,trivial⟩,rfl⟩,λv _=>⟨⟨0,by omega,⟨rfl,trivial⟩,rfl⟩,λx hx=>ah.2 ⟨λg=>⟨⟨0,by omega,⟨rfl,trivial⟩,rfl⟩,λy hy=>ah.2 ⟨λg2=>?_,λg2=>⟨ay.2 (by omega),x+1,by have:=Qg g;omega,⟨rfl,trivial⟩,rfl,by have:=Qg g;omega⟩⟩⟩,λg=>⟨trivial,rfl,rfl⟩⟩⟩⟩⟩
 have g:=Qg g;have g2:=Qg g2;have Gx:0<=(x:Int)/\(x:Int) < ((Qc vs ms cs fs ts bound pk).length:Int):=⟨by omega,g⟩
 have Gy:0<=(y:Int)/\(y:Int) < ((Qc vs ms cs fs ts bound pk).length:Int):=⟨by omega,by omega⟩
 obtain⟨ta,ja,ma,ia,pa,na,la,sa,ba,Ja,ka,ra⟩:=r_at I hl Gx.1 Gx.2;obtain⟨tb,jb,mb,ib,pb,nb,lb,sb,bb,Jb,kb,rb⟩:=r_at I hl Gy.1 Gy.2;have hne:ta.1≠tb.1:=by
  have:=ajS I Gy.1 g2 g;rw[<-ia,<-ib];unfold rId Qc;omega
 have Qa:bnd ((vs,ms,cs,fs,ts,()),())/\iI (mG vs ms cs fs ts bound pk x).1.1/\(mG vs ms cs fs ts bound pk x).1.1.length<=999999/\oq (mG vs ms cs fs ts bound pk x).1.2.1=true/\uT (mG vs ms cs fs ts bound pk x).1.2.2.1:=⟨hb,Ja.bt (by omega),by omega,Ja.few (by omega),Ja.bb⟩
 have Qb:bnd ((vs,ms,cs,fs,ts,()),())/\iI (mG vs ms cs fs ts bound pk y).1.1/\(mG vs ms cs fs ts bound pk y).1.1.length<=999999/\oq (mG vs ms cs fs ts bound pk y).1.2.1=true/\uT (mG vs ms cs fs ts bound pk y).1.2.2.1:=⟨hb,Jb.bt (by omega),by omega,Jb.few (by omega),Jb.bb⟩
 have i1:dX IntKind.i64 ((y:Int)+1):=ay.2 (by omega)
 have i2:((y+1:Nat):Int)<=(x:Int):=by omega
 have i3:(x:Int).toNat - (y+1) < (x:Int).toNat - y:=by omega
 refine⟨⟨Gx,oC ?_⟩,λv _=>⟨⟨Gy,oC ?_⟩,λv _=>⟨⟨ba,bb⟩,ah.2 ⟨λhd=>⟨i1,y+1,i2,⟨rfl,trivial⟩,rfl,i3⟩,λhd=>⟨⟨Gx,oC ?_⟩,λv _=>⟨⟨Gy,oC ?_⟩,λv _=>⟨⟨Gy,oC ?_⟩,λv _=>⟨⟨Gx,oC ?_⟩,λv _=>?_⟩⟩⟩⟩⟩⟩⟩⟩
 .repeat' (first | exact P | exact Q | exact Qa | exact Qb | exact⟨0,rfl,⟨rfl,trivial⟩,rfl⟩ | exact⟨0,rfl,⟨rfl,rfl,trivial⟩,rfl⟩ | exact⟨0,rfl,⟨rfl,rfl,rfl,trivial⟩,rfl⟩ | (refine oC ?_) | (refine And.intro ?_ ?_))
 .repeat' (first | exact P | exact Q | exact Qa | exact Qb | exact⟨0,rfl,⟨rfl,trivial⟩,rfl⟩ | exact⟨0,rfl,⟨rfl,rfl,trivial⟩,rfl⟩ | exact⟨0,rfl,⟨rfl,rfl,rfl,trivial⟩,rfl⟩ | (refine oC ?_) | (refine And.intro ?_ ?_))
 .repeat' (first | exact P | exact Q | exact Qa | exact Qb | exact⟨0,rfl,⟨rfl,trivial⟩,rfl⟩ | exact⟨0,rfl,⟨rfl,rfl,trivial⟩,rfl⟩ | exact⟨0,rfl,⟨rfl,rfl,rfl,trivial⟩,rfl⟩ | (refine oC ?_) | (refine And.intro ?_ ?_))
 .repeat' (first | exact P | exact Q | exact Qa | exact Qb | exact⟨0,rfl,⟨rfl,trivial⟩,rfl⟩ | exact⟨0,rfl,⟨rfl,rfl,trivial⟩,rfl⟩ | exact⟨0,rfl,⟨rfl,rfl,rfl,trivial⟩,rfl⟩ | (refine oC ?_) | (refine And.intro ?_ ?_))
 .repeat' (first | exact P | exact Q | exact Qa | exact Qb | exact⟨0,rfl,⟨rfl,trivial⟩,rfl⟩ | exact⟨0,rfl,⟨rfl,rfl,trivial⟩,rfl⟩ | exact⟨0,rfl,⟨rfl,rfl,rfl,trivial⟩,rfl⟩ | (refine oC ?_) | (refine And.intro ?_ ?_))
 .repeat' (first | exact P | exact Q | exact Qa | exact Qb | exact⟨0,rfl,⟨rfl,trivial⟩,rfl⟩ | exact⟨0,rfl,⟨rfl,rfl,trivial⟩,rfl⟩ | exact⟨0,rfl,⟨rfl,rfl,rfl,trivial⟩,rfl⟩ | (refine oC ?_) | (refine And.intro ?_ ?_))
 obtain⟨bS,n1,n2,n3,n4,m1,m2,m3,m4,m5⟩:=aob I hl g g2 hd
 repeat' (first | exact λ_=>bS | exact λ_=>trivial | exact ah.2 ⟨λh=>(or9 n1 n2 n3 n4 m1 m2 m3 m4 m5 h).elim,λ_=>⟨i1,y+1,i2,⟨rfl,trivial⟩,rfl,i3⟩⟩ | (refine And.intro ?_ ?_))
theorem aoc:aW aU.gd 8 arY:=
 eG (cx:=aU) (n:=176) (cl:=[(10,apN),(26,vJ),(11,adK),(27,aen),(19,Ii),(16,Vm),(29,an8),(21,PN),(14,J8)]) (rc:=[]) aA ⟨ahj,ail,aiJ,ai9,MI,Vo,ai8,ML,aiM,trivial⟩ Tryz.func8 λd hd=>by
  obtain⟨⟨vs,ms,cs,fs,ts,⟨⟩⟩,bound,pk,⟨⟩⟩:=d;exact aS (arZ vs ms cs fs ts bound pk) (aqz vs ms cs fs ts bound pk) (by kernel_rfl)
open Go Go.mQ Go.ChangeShapes Go.WideShapes Go.ChangeAt Go.RowKit
theorem own:ownKnob Tryz.prog.godebug=none:=by kernel_rfl
theorem laidOut:laidOutB Tryz.prog=true:=by kernel_rfl
theorem rowed:mapsRowed Tryz.prog=true:=by kernel_rfl
theorem full:∀t e,t < Tryz.prog.types.size->Tryz.prog.underlying t=some (.slice e)->0 < Tryz.prog.cellsOf e:=slices_full_of _ (by kernel_rfl)
theorem aod:Tryz.prog.globalNamed "modelcheck/event.rows"=some 0:=by kernel_rfl
theorem aoe:(Tryz.prog.globals[0]?).map (·.type)=some 154:=by kernel_rfl
theorem aqA:(tC Tryz.prog (.arr 17 (.pair (.int .i64) (.pair .bool (.pair (.int .i64) (.pair (.int .i64) (.pair .bool (.pair (.int .i64) (.pair (.int .i64) (.pair .bool .unit)))))))))).1 154=true:=by kernel_rfl
theorem aof:Tryz.prog.globalNamed "modelcheck/inst.rows"=some 1:=by kernel_rfl
theorem aog:(Tryz.prog.globals[1]?).map (·.type)=some 183:=by kernel_rfl
theorem aqB:(tC Tryz.prog (.arr 22 (.pair .str (.pair (.arr 7 .bool) .unit)))).1 183=true:=by kernel_rfl
theorem aoh:Tryz.prog.globalNamed "modelcheck/value.names"=some 2:=by kernel_rfl
theorem aoi:(Tryz.prog.globals[2]?).map (·.type)=some 214:=by kernel_rfl
theorem aqC:(tC Tryz.prog (.arr 10 .str)).1 214=true:=by kernel_rfl
noncomputable def laidWorld (os:Os):World:=
 { World.holding Tryz.prog os ⟨#[],#[],[]⟩with heap:=((((World.holding Tryz.prog os ⟨#[],#[],[]⟩).heap).modify 0 (lay #[.int .i64 7,.bool true,.int .i64 (-2147483648),.int .i64 2147483647,.bool false,.int .i64 (-1),.int .i64 1,.bool false,.int .i64 7,.bool true,.int .i64 0,.int .i64 0,.bool true,.int .i64 (-2),.int .i64 1,.bool true,.int .i64 7,.bool true,.int .i64 0,.int .i64 0,.bool true,.int .i64 0,.int .i64 4,.bool true,.int .i64 7,.bool false,.int .i64 0,.int .i64 0,.bool true,.int .i64 0,.int .i64 1,.bool true,.int .i64 7,.bool true,.int .i64 (-2147483648),.int .i64 2147483647,.bool true,.int .i64 (-2),.int .i64 1,.bool true,.int .i64 7,.bool true,.int .i64 (-2147483648),.int .i64 2147483647,.bool false,.int .i64 (-2),.int .i64 1,.bool false,.int .i64 0,.bool false,.int .i64 0,.int .i64 0,.bool false,.int .i64 (-2),.int .i64 0,.bool false,.int .i64 7,.bool true,.int .i64 (-2147483648),.int .i64 2147483647,.bool false,.int .i64 (-1),.int .i64 1,.bool false,.int .i64 3,.bool false,.int .i64 0,.int .i64 0,.bool false,.int .i64 (-2),.int .i64 2,.bool true,.int .i64 3,.bool false,.int .i64 0,.int .i64 0,.bool false,.int .i64 (-2),.int .i64 2,.bool true,.int .i64 3,.bool false,.int .i64 0,.int .i64 1,.bool false,.int .i64 (-2),.int .i64 2,.bool true,.int .i64 3,.bool false,.int .i64 0,.int .i64 0,.bool false,.int .i64 (-2),.int .i64 3,.bool true,.int .i64 3,.bool false,.int .i64 0,.int .i64 0,.bool false,.int .i64 (-2),.int .i64 3,.bool true,.int .i64 3,.bool false,.int .i64 0,.int .i64 1,.bool false,.int .i64 (-2),.int .i64 3,.bool true,.int .i64 3,.bool false,.int .i64 0,.int .i64 (-1),.bool false,.int .i64 (-2),.int .i64 3,.bool true,.int .i64 (-1),.bool false,.int .i64 0,.int .i64 0,.bool false,.int .i64 (-2),.int .i64 0,.bool false,.int .i64 (-1),.bool false,.int .i64 0,.int .i64 0,.bool false,.int .i64 (-2),.int .i64 0,.bool false])).modify 1 (lay #[.string ⟨#[99,111,110,115,116]⟩,.bool true,.bool false,.bool false,.bool false,.bool true,.bool false,.bool false,.string ⟨#[99,111,112,121]⟩,.bool true,.bool true,.bool false,.bool false,.bool false,.bool false,.bool false,.string ⟨#[99,97,108,99]⟩,.bool true,.bool true,.bool true,.bool false,.bool false,.bool true,.bool false,.string ⟨#[106,117,109,112]⟩,.bool false,.bool false,.bool false,.bool false,.bool true,.bool false,.bool false,.string ⟨#[98,114,97,110,99,104]⟩,.bool false,.bool true,.bool false,.bool false,.bool true,.bool false,.bool false,.string ⟨#[97,115,115,101,114,116]⟩,.bool false,.bool true,.bool false,.bool false,.bool false,.bool false,.bool false,.string ⟨#[115,116,111,112]⟩,.bool false,.bool false,.bool false,.bool false,.bool false,.bool false,.bool false,.string ⟨#[108,111,97,100]⟩,.bool true,.bool false,.bool false,.bool true,.bool false,.bool false,.bool true,.string ⟨#[115,116,111,114,101]⟩,.bool false,.bool true,.bool false,.bool true,.bool false,.bool false,.bool true,.string ⟨#[115,119,97,112]⟩,.bool true,.bool true,.bool false,.bool true,.bool false,.bool false,.bool true,.string ⟨#[102,101,116,99,104,97,100,100]⟩,.bool true,.bool true,.bool false,.bool true,.bool false,.bool false,.bool true,.string ⟨#[99,97,115]⟩,.bool true,.bool true,.bool true,.bool true,.bool false,.bool false,.bool true,.string ⟨#[102,101,110,99,101]⟩,.bool false,.bool false,.bool false,.bool false,.bool false,.bool false,.bool false,.string ⟨#[97,119,97,105,116]⟩,.bool true,.bool true,.bool false,.bool true,.bool false,.bool true,.bool true,.string ⟨#[108,111,99,107]⟩,.bool false,.bool false,.bool false,.bool true,.bool false,.bool false,.bool false,.string ⟨#[117,110,108,111,99,107]⟩,.bool false,.bool false,.bool false,.bool true,.bool false,.bool false,.bool false,.string ⟨#[116,114,121,108,111,99,107]⟩,.bool true,.bool false,.bool false,.bool true,.bool false,.bool false,.bool false,.string ⟨#[119,97,105,116]⟩,.bool false,.bool false,.bool false,.bool true,.bool true,.bool false,.bool false,.string ⟨#[115,105,103,110,97,108]⟩,.bool false,.bool false,.bool false,.bool true,.bool false,.bool false,.bool false,.string ⟨#[98,114,111,97,100,99,97,115,116]⟩,.bool false,.bool false,.bool false,.bool true,.bool false,.bool false,.bool false,.string ⟨#[115,112,97,119,110]⟩,.bool true,.bool true,.bool false,.bool true,.bool false,.bool false,.bool false,.string ⟨#[106,111,105,110]⟩,.bool false,.bool true,.bool false,.bool false,.bool false,.bool false,.bool false])).modify 2 (lay #[.string ⟨#[97,100,100]⟩,.string ⟨#[115,117,98]⟩,.string ⟨#[109,117,108]⟩,.string ⟨#[97,110,100]⟩,.string ⟨#[111,114]⟩,.string ⟨#[120,111,114]⟩,.string ⟨#[101,113]⟩,.string ⟨#[110,101]⟩,.string ⟨#[108,116]⟩,.string ⟨#[108,101]⟩]) }
namespace machineCommuteL
theorem globs{W:World} (hL:laidMetH Tryz.prog Rows.machineCommuteRow.laid W):aK gd0 (FH.all W):=by
 intro g p hp;unfold gd0 at hp;split at hp
 .cases hp;exact Df hL (by kernel_rfl) (n:= "modelcheck/event.rows") (D:=Rows.laid_modelcheck_event_rows) (by simp[Rows.machineCommuteRow]) aod aoe aqA (by kernel_rfl)
 .cases hp;exact Df hL (by kernel_rfl) (n:= "modelcheck/inst.rows") (D:=Rows.laid_modelcheck_inst_rows) (by simp[Rows.machineCommuteRow]) aof aog aqB (by kernel_rfl)
 .cases hp;exact Df hL (by kernel_rfl) (n:= "modelcheck/value.names") (D:=Rows.laid_modelcheck_value_names) (by simp[Rows.machineCommuteRow]) aoh aoi aqC (by kernel_rfl)
 .cases hp
theorem laid_met(os:Os):laidMet Tryz.prog Rows.machineCommuteRow.laid ((laidWorld os).forCall (λ_ _=>0) ⟨#[],#[.agg #[.slice none 0 0,.slice none 0 0,.slice none 0 0,.slice none 0 0,.slice none 0 0],.int .i64 0,.slice none 0 0],[]⟩).memory:=
 laidMet_of_run' 20 (by kernel_rfl) (by kernel_rfl)
theorem reads(os:Os){H:Type} (enc:TypeId×Value->H):∃places,DataW.whole enc Tryz.prog ((laidWorld os).forCall (λ_ _=>0) ⟨#[],#[.agg #[.slice none 0 0,.slice none 0 0,.slice none 0 0,.slice none 0 0,.slice none 0 0],.int .i64 0,.slice none 0 0],[]⟩).memory Tryz.f8.params.toList Rows.machineCommuteSpec.vars false (#[.agg #[.slice none 0 0,.slice none 0 0,.slice none 0 0,.slice none 0 0,.slice none 0 0],.int .i64 0,.slice none 0 0]:Array Value).toList 20=some ([.agg [.nil,.nil,.nil,.nil,.nil],.lit (.int .i64 0),.nil],[],places):=
 ⟨[],by kernel_rfl⟩
theorem lifted(os:Os) (started:os.Started) (H:Type) (enc:TypeId×Value->H) (F:Stop.Interp):
 ReturnsInHanded {} Tryz.checked os 8 .any ((OpenSpec.ofChange Rows.machineCommuteSpec).preRow enc Tryz.prog Tryz.f8 Rows.machineCommuteRow.domain false Rows.machineCommuteRow.laid) (((OpenSpec.ofChange Rows.machineCommuteSpec).at F).post enc Tryz.prog Tryz.f8 false true false false):=by
 obtain⟨places,hx⟩:=reads os enc;refine returnsInHanded_of_row (C:=Tryz.checked) (s:=OpenSpec.ofChange Rows.machineCommuteSpec) own started (by kernel_rfl) Tryz.func8
  (witness_row_at (enc:=enc) (C:=Tryz.checked) false (laidWorld os) #[.agg #[.slice none 0 0,.slice none 0 0,.slice none 0 0,.slice none 0 0,.slice none 0 0],.int .i64 0,.slice none 0 0] rfl (by kernel_rfl) (by kernel_rfl) (by kernel_rfl)
   (OpenSpec.preRow_of_cond 20 hx (by kernel_rfl) (λk hk=>by cases hk) (by kernel_rfl) (laid_met os))) ?_
 intro W base args ds gs before hval hW _ hcond hwt hL _ _;refine XB (fn:=Tryz.f8) aoc laidOut rowed full (by decide +kernel) (t:=4) (by kernel_rfl) (by kernel_rfl) rfl (by kernel_rfl) (λ_=>rfl) (λd hd hwf=>?_) hval hW (globs hL)
 match ds,JK hd with
 | [d0,d1,d2],_=>exact⟨rfl,by trivial⟩
theorem said:Rows.MachineCommuteSaid:=
 OpenClaim.holds_of_cond 8 Tryz.f8 rfl rfl rfl rfl rfl rfl rfl ⟨rfl,rfl,rfl,rfl,rfl⟩ rfl rfl rfl rfl rfl (by kernel_rfl) Tryz.func8 jf8
  (Qg (by kernel_rfl)) (by unfold Func.isWrapper;first | (rw[if_pos (by decide +kernel)];kernel_rfl) | (rw[if_neg (by decide +kernel)];exact⟨rfl,rfl⟩))
  (λos started H enc _ F=>by rw[OpenClaim.pre_eq_preRow];exact lifted os started H enc F)
theorem plain(f:FuncId) (fn:Func) (hf:Tryz.pinned.checked.prog.funcNamed "modelcheck/modelchecklaw23.MachineCommute"=some f) (hfn:Tryz.pinned.checked.prog.funcs[f]?=some fn):
 false=Tryz.pinned.checked.prog.looks []/\∀(j:Nat) t,fn.params[j]?=some t->Tryz.pinned.checked.prog.wantsStandIn t=false:=by
 obtain rfl:f=8:=MX ((show Tryz.prog.funcNamed "modelcheck/modelchecklaw23.MachineCommute"=some 8 by kernel_rfl).symm.trans hf) |>.symm
 obtain rfl:fn=Tryz.f8:=(MX (Tryz.func8.symm.trans hfn)).symm;refine⟨by kernel_rfl,λj t ht=>?_⟩
 have hm:t∈Tryz.f8.params.toList:=iJ (by simpa using ht)
 have key:∀t∈Tryz.f8.params.toList,Tryz.prog.wantsStandIn t=false:=by decide +kernel
 exact key t hm
theorem card:Rows.MachineCommuteCardSaid:=
 Claim7.holds_tied_plain_at .later [] _ _ _ _ said (λ_ h=>by cases h) (by kernel_rfl) (λ_ h=>by cases h) machineCommute_row_tie rfl ⟨rfl,rfl⟩ (by kernel_rfl) rfl plain (by kernel_rfl)
end machineCommuteL
end Go.Proofs.YtjhenjhcbcalpaaGreatDoor
