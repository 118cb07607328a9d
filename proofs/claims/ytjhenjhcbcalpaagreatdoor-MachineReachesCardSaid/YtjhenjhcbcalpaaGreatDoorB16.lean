/- Part 16 of the proof. Conditions: the rows'. -/
import Derived.Test.YtjhenjhcbcalpaaGreatDoorB15
import Derived.Test.YtjhenjhcbcalpaaGreatDoorCards
import Derived.Test.YtjhenjhcbcalpaaGreatDoorTie
import Derived.WalkKit
import Derived.ProofKit
import Derived.OpenShut
import Derived.Deep.DeepHandedRow
import Derived.Lib.LaidTab
import Derived.Test.YtjhenjhcbcalpaaGreatDoorJ6
set_option linter.unusedSimpArgs false
set_option linter.unusedVariables false
set_option maxRecDepth 1000000
set_option maxHeartbeats 8000000
namespace Go.Proofs.YtjhenjhcbcalpaaGreatDoor
open Go Go.l9
noncomputable def rTh (vs:List VD) (ms cs:List ByteArray) (fs:List FD) (ts:List SD) (bound:Int) (pk:List Int) (i:Int):List TD:=(wH vs ms cs fs ts bound pk i).1.1
noncomputable def rHs (vs:List VD) (ms cs:List ByteArray) (fs:List FD) (ts:List SD) (bound:Int) (pk:List Int) (i:Int):Bool:=(uY vs ms cs fs ts (rZ vs ms cs fs ts bound pk).1 (rZ vs ms cs fs ts bound pk).2.1 (rZ vs ms cs fs ts bound pk).2.2.1 (rId vs ms cs fs ts bound pk i)).2
noncomputable def rAt (vs:List VD) (ms cs:List ByteArray) (fs:List FD) (ts:List SD) (bound:Int) (pk:List Int) (i:Int) (k:Nat):Int:=(atT (rZ vs ms cs fs ts bound pk).1 (rTh vs ms cs fs ts bound pk i) k:Nat)
noncomputable def rPl (vs:List VD) (ms cs:List ByteArray) (fs:List FD) (ts:List SD) (bound:Int) (pk:List Int) (i k:Int):Int:=(Hw (rTh vs ms cs fs ts bound pk i) (fid (rZ vs ms cs fs ts bound pk).1 k.toNat):Nat)
abbrev aqo:CT:={ ps:=[oW,.int .i64,.sl (.int .i64)],pre:=λd=>True,res:=λd=>([],vB (true)) }
noncomputable abbrev aqp (vs:List VD) (ms cs:List ByteArray) (fs:List FD) (ts:List SD) (bound:Int) (pk:List Int):Nat->Option (St->jK):=λn=>match n with
 | 8=>some λ_=>.inv { α:=Nat,slots:=λk=>[(10,.c (.v (.int .i64 k)))],res:=λ_=>[],inv:=λk=>k<=(rEn vs ms cs fs ts bound pk).length,meas:=λk=>(rEn vs ms cs fs ts bound pk).length - k,drop:=[16,17] }
 | 16=>some λs=>.inv { α:=Nat,slots:=λk=>[(16,.c (.v (.int .i64 (rAt vs ms cs fs ts bound pk (gq s 10) k)))),(17,.c (.v (.int .i64 k)))],res:=λ_=>[],inv:=λk=>k<=(rZ vs ms cs fs ts bound pk).1.length,meas:=λk=>(rZ vs ms cs fs ts bound pk).1.length - k,drop:=[18] }
 | 4=>some λ_=>.cut { α:=Nat,pad:=1,can:=[(1,.slot 7)],slots:=λ_=>[(7,.c (.own 1 0)),(8,.c (.v (.bool true)))],res:=λ_=>[(1,bZ (rZ vs ms cs fs ts bound pk).1 (rZ vs ms cs fs ts bound pk).2.1.1 (rZ vs ms cs fs ts bound pk).2.1.2.1 (rZ vs ms cs fs ts bound pk).2.1.2.2.1 (rZ vs ms cs fs ts bound pk).2.1.2.2.2.1 (rZ vs ms cs fs ts bound pk).2.2.1)],inv:=λu=>u=0,meas:=λ_=>0 }
 | 7=>some λ_=>.cut { α:=Nat,slots:=λ_=>[(9,.c (.sl (.int .i64) (rEn vs ms cs fs ts bound pk)))],res:=λ_=>[],inv:=λu=>u=0,meas:=λ_=>0 }
 | 11=>some λs=>.cut { α:=Nat,pad:=1,can:=[(2,.slot 11)],slots:=λ_=>[(11,.c (.own 2 0)),(12,.c (.v (.bool (rHs vs ms cs fs ts bound pk (gq s 10)))))],res:=λ_=>[(2,.blk 49 [v6 (Hu vs ms cs fs ts bound pk (gq s 10)).1,v6 (Hu vs ms cs fs ts bound pk (gq s 10)).2.1,v6 (Hu vs ms cs fs ts bound pk (gq s 10)).2.2.1,v6 (Hu vs ms cs fs ts bound pk (gq s 10)).2.2.2.1,v6 (Hu vs ms cs fs ts bound pk (gq s 10)).2.2.2.2.1,v6 (Hu vs ms cs fs ts bound pk (gq s 10)).2.2.2.2.2.1,v6 (Hu vs ms cs fs ts bound pk (gq s 10)).2.2.2.2.2.2.1,v6 (Hu vs ms cs fs ts bound pk (gq s 10)).2.2.2.2.2.2.2.1,v6 (Hu vs ms cs fs ts bound pk (gq s 10)).2.2.2.2.2.2.2.2.1])],inv:=λu=>u=0,meas:=λ_=>0 }
 | 12=>some λs=>.cut { α:=Nat,pad:=2,can:=[(3,.slot 13),(4,.slot 14)],slots:=λ_=>[(13,.c (.own 3 0)),(14,.c (.own 4 0)),(15,.c (.v (.int .i64 ((wH vs ms cs fs ts bound pk (gq s 10)).2.2))))],res:=λ_=>[(3,bZ ((wH vs ms cs fs ts bound pk (gq s 10)).1).1 ((wH vs ms cs fs ts bound pk (gq s 10)).1).2.1.1 ((wH vs ms cs fs ts bound pk (gq s 10)).1).2.1.2.1 ((wH vs ms cs fs ts bound pk (gq s 10)).1).2.1.2.2.1 ((wH vs ms cs fs ts bound pk (gq s 10)).1).2.1.2.2.2.1 ((wH vs ms cs fs ts bound pk (gq s 10)).1).2.2.1),(4,.blk 49 [v6 ((wH vs ms cs fs ts bound pk (gq s 10)).2.1).1,v6 ((wH vs ms cs fs ts bound pk (gq s 10)).2.1).2.1,v6 ((wH vs ms cs fs ts bound pk (gq s 10)).2.1).2.2.1,v6 ((wH vs ms cs fs ts bound pk (gq s 10)).2.1).2.2.2.1,v6 ((wH vs ms cs fs ts bound pk (gq s 10)).2.1).2.2.2.2.1,v6 ((wH vs ms cs fs ts bound pk (gq s 10)).2.1).2.2.2.2.2.1,v6 ((wH vs ms cs fs ts bound pk (gq s 10)).2.1).2.2.2.2.2.2.1,v6 ((wH vs ms cs fs ts bound pk (gq s 10)).2.1).2.2.2.2.2.2.2.1,v6 ((wH vs ms cs fs ts bound pk (gq s 10)).2.1).2.2.2.2.2.2.2.2.1])],inv:=λu=>u=0,meas:=λ_=>0 }
 | 20=>some λs=>.cut { α:=Nat,pad:=0,can:=[],slots:=λ_=>[(16,.c (.v (.int .i64 (rPl vs ms cs fs ts bound pk (gq s 10) (gq s 17)))))],res:=λ_=>[],inv:=λu=>u=0,meas:=λ_=>0 }
 | _=>none
theorem ao3(vs:List VD) (ms cs:List ByteArray) (fs:List FD) (ts:List SD) (bound:Int) (pk:List Int):
 let z36:=((vs,ms,cs,fs,ts,()),());let z35:=bnd z36;let z27:=nO vs ms cs fs ts bound pk (pG vs ms cs fs ts bound).fst;let z40:=bP vs ms cs fs ts;let z38:=rZ vs ms cs fs ts bound pk;let z8:=[SC.sl dS z38.fst,SC.sl I6 z38.snd.fst.fst,SC.sl I6 z38.snd.fst.snd.fst,SC.sl I6.sl z38.snd.fst.snd.snd.fst,SC.sl I6 z38.snd.fst.snd.snd.snd.fst,SC.sl zV z38.snd.snd.fst];let z6:=[g0 z40,g0 (ak.blk 37 z8)];let OE:=z35/\iF z38.fst/\bK z38.snd.fst;let z37:=rEn vs ms cs fs ts bound pk;let z25:=λ(x:Nat)=>0<=(x:Int)/\(x:Int) < (z37.length:Int);let Gg:=λ(d:Int)=>uY vs ms cs fs ts z38.fst z38.snd.fst z38.snd.snd.fst d;let z10:=λ(d:Int) (x:Nat)=>SV.c (SC.own 2 0)=SV.c (SC.own 2 0)/\cB ((Gg d).snd)=cB (rHs vs ms cs fs ts bound pk (x:Int))/\True;let z3:=λ(d:Int)=>[g0 z40,g0 (ak.blk 37 z8),g0 (ak.blk 49 [v6 ((Gg d).fst.fst),v6 ((Gg d).fst.snd.fst),v6 ((Gg d).fst.snd.snd.fst),v6 ((Gg d).fst.snd.snd.snd.fst),v6 ((Gg d).fst.snd.snd.snd.snd.fst),v6 ((Gg d).fst.snd.snd.snd.snd.snd.fst),v6 ((Gg d).fst.snd.snd.snd.snd.snd.snd.fst),v6 ((Gg d).fst.snd.snd.snd.snd.snd.snd.snd.fst),v6 ((Gg d).fst.snd.snd.snd.snd.snd.snd.snd.snd.fst)])];let z33:=λ(x:Nat)=>Hu vs ms cs fs ts bound pk (x:Int);let z5:=λ(x:Nat)=>[v6 ((z33 x).fst),v6 ((z33 x).snd.fst),v6 ((z33 x).snd.snd.fst),v6 ((z33 x).snd.snd.snd.fst),v6 ((z33 x).snd.snd.snd.snd.fst),v6 ((z33 x).snd.snd.snd.snd.snd.fst),v6 ((z33 x).snd.snd.snd.snd.snd.snd.fst),v6 ((z33 x).snd.snd.snd.snd.snd.snd.snd.fst),v6 ((z33 x).snd.snd.snd.snd.snd.snd.snd.snd.fst)];let z4:=λ(x:Nat)=>[g0 z40,g0 (ak.blk 37 z8),g0 (ak.blk 49 (z5 x))];let z11:=z35/\iF z38.fst/\List.length z38.fst<=999999/\qF z38.snd.fst=true/\zX z38.snd.snd.fst;let z28:=λ(d:Int)=>fH vs ms cs fs ts bound z38 d;let z34:=λ(x:Nat)=>wH vs ms cs fs ts bound pk (x:Int);let z13:=λ(d:Int) (x:Nat)=>SV.c (SC.own 3 0)=SV.c (SC.own 3 0)/\SV.c (SC.own 4 0)=SV.c (SC.own 4 0)/\cI ((z28 d).snd.snd)=cI ((z34 x).snd.snd)/\True;let z1:=λ(x:Nat) (d:Int)=>[g0 z40,g0 (ak.blk 37 z8),g0 (ak.blk 49 (z5 x)),g0 (ak.blk 37 [SC.sl dS (z28 d).fst.fst,SC.sl I6 (z28 d).fst.snd.fst.fst,SC.sl I6 (z28 d).fst.snd.fst.snd.fst,SC.sl I6.sl (z28 d).fst.snd.fst.snd.snd.fst,SC.sl I6 (z28 d).fst.snd.fst.snd.snd.snd.fst,SC.sl zV (z28 d).fst.snd.snd.fst]),g0 (ak.blk 49 [v6 ((z28 d).snd.fst.fst),v6 ((z28 d).snd.fst.snd.fst),v6 ((z28 d).snd.fst.snd.snd.fst),v6 ((z28 d).snd.fst.snd.snd.snd.fst),v6 ((z28 d).snd.fst.snd.snd.snd.snd.fst),v6 ((z28 d).snd.fst.snd.snd.snd.snd.snd.fst),v6 ((z28 d).snd.fst.snd.snd.snd.snd.snd.snd.fst),v6 ((z28 d).snd.fst.snd.snd.snd.snd.snd.snd.snd.fst),v6 ((z28 d).snd.fst.snd.snd.snd.snd.snd.snd.snd.snd.fst)])];let z2:=λ(x:Nat)=>[g0 z40,g0 (ak.blk 37 z8),g0 (ak.blk 49 (z5 x)),g0 (ak.blk 37 [SC.sl dS (z34 x).fst.fst,SC.sl I6 (z34 x).fst.snd.fst.fst,SC.sl I6 (z34 x).fst.snd.fst.snd.fst,SC.sl I6.sl (z34 x).fst.snd.fst.snd.snd.fst,SC.sl I6 (z34 x).fst.snd.fst.snd.snd.snd.fst,SC.sl zV (z34 x).fst.snd.snd.fst]),g0 (ak.blk 49 [v6 ((z34 x).snd.fst.fst),v6 ((z34 x).snd.fst.snd.fst),v6 ((z34 x).snd.fst.snd.snd.fst),v6 ((z34 x).snd.fst.snd.snd.snd.fst),v6 ((z34 x).snd.fst.snd.snd.snd.snd.fst),v6 ((z34 x).snd.fst.snd.snd.snd.snd.snd.fst),v6 ((z34 x).snd.fst.snd.snd.snd.snd.snd.snd.fst),v6 ((z34 x).snd.fst.snd.snd.snd.snd.snd.snd.snd.fst),v6 ((z34 x).snd.fst.snd.snd.snd.snd.snd.snd.snd.snd.fst)])];let z30:=λ(x:Nat)=>(z34 x).snd.snd=0;let z23:=λ(x:Nat)=>WC (z33 x) (z34 x).snd.fst;let yg:=λ(x:Nat)=>!(!rHs vs ms cs fs ts bound pk (x:Int) || !decide (z30 x) || !(z23 x));let z20:=λ(x:Nat)=>(↑(z34 x).fst.fst.length:Int) < (z38.fst.length:Int);let z32:=λ(x x_1:Nat)=>rAt vs ms cs fs ts bound pk (x:Int) x_1;let z21:=λ(x x_1:Nat)=>rAt vs ms cs fs ts bound pk (x:Int) x_1 < (↑(z34 x).fst.fst.length:Int);let z31:=λ(x x_1:Nat)=>rPl vs ms cs fs ts bound pk (x:Int) (x_1:Int);let z29:=λ(bJ:TD) (wC:Int) (kW:TD)=>!decide (bJ.fst=wC) && !!decide (bJ.fst=kW.fst);let z22:=λ(bJ Aq:TD) (wC:Int) (kW:TD)=>!!decide (bJ.snd.snd.fst=Aq.snd.snd.fst) && (z29 bJ wC kW);let Gh:=λ(bJ Aq Dq:TD) (wC:Int) (kW:TD)=>!(!decide (bJ.snd.snd.fst=Aq.snd.snd.fst) || !decide (bJ.snd.snd.snd.fst=Dq.snd.snd.snd.fst)) && (z29 bJ wC kW);let z17:=λ(bJ Aq Dq IG:TD)=>!decide (bJ.snd.snd.fst=Aq.snd.snd.fst) || !decide (bJ.snd.snd.snd.fst=Dq.snd.snd.snd.fst) || !decide (bJ.snd.snd.snd.snd.fst=IG.snd.snd.snd.snd.fst);let nS:=λ(bJ kW:TD) (wC:Int) (Aq Dq IG:TD)=>!decide (bJ.fst=kW.fst) || !decide (bJ.fst=wC) && (z17 bJ Aq Dq IG);let z12:=λ(bJ kW:TD) (wC:Int) (Aq Dq IG:TD)=>!(nS bJ kW wC Aq Dq IG);let z9:=λ(bJ:TD) (WT:Int) (kW:TD) (wC:Int) (Aq Dq IG:TD)=>decide (bJ.fst=WT) && !(nS bJ kW wC Aq Dq IG);let z24:=λ(bJ:TD) (x:Nat)=>bJ.snd.snd.snd.snd.fst=(z33 x).snd.fst+1;let z7:=λ(bJ:TD) (x:Nat) (WT:Int) (kW:TD) (wC:Int) (Aq Dq IG:TD)=>!!decide (z24 bJ x) && (z9 bJ WT kW wC Aq Dq IG);let z26:=λ(x x_1:Nat)=>rPl vs ms cs fs ts bound pk (x:Int) (x_1:Int)+(1:Int);let z39:=λ(x_1:Nat)=>(x_1:Int)+(1:Int);True /\
 ((!(!Tq vs ms cs fs ts || decide (40 < (pk.length:Int))))=true->bnd z36) /\
   br (!Tq vs ms cs fs ts || decide (40 < (pk.length:Int)) || !decide (bQ (aC vs ms cs fs ts).fst bound=0)) (True/\qB true true)
    (((z35/\bQ (aC vs ms cs fs ts).fst bound=0/\ts.length<=20/\pk.length<=40)/\∃(v:Nat),v=0/\(SV.c (SC.own 1 0)=SV.c (SC.own 1 0)/\cB (z27.snd)=cB true/\True)/\[g0 z40,g0 (ak.blk 37 [SC.sl dS z27.fst.fst,SC.sl I6 z27.fst.snd.fst.fst,SC.sl I6 z27.fst.snd.fst.snd.fst,SC.sl I6.sl z27.fst.snd.fst.snd.snd.fst,SC.sl I6 z27.fst.snd.fst.snd.snd.snd.fst,SC.sl zV z27.fst.snd.snd.fst])]=z6) /\
      ∀(v:Nat),
        v=0 ->
          (true=true->z35/\iF z38.fst/\bK z38.snd.fst) /\
           br (false || !vsB vs ms cs fs ts bound z38.fst z38.snd.fst z38.snd.snd.fst) (qB true false)
            ((OE/\∃(v:Nat),v=0/\(SV.c (SC.sl I6 (fZ vs ms cs fs ts z38.fst z38.snd.fst z38.snd.snd.fst))=SV.c (SC.sl I6 z37)/\True)/\sm z6) /\
              ∀(v:Nat),
                v=0 ->
                  (∃(x:Nat),x<=z37.length/\(cI 0=cI (x:Int)/\True)/\sm z6) /\
                   ∀(x:Nat),
                     x<=z37.length ->
                       br (decide ((x:Int) < (z37.length:Int)))
                        (((z25 x)/\∀(d:Int),z37[(x:Int).toNat]?=some d->(OE/\∃(v:Nat),v=0/\(z10 d x)/\(z3 d)=(z4 x))/\OE/\∃(v:Nat),v=0/\(z10 d x)/\(z3 d)=(z4 x)) /\
                          ∀(v:Nat),
                            v=0 ->
                              ((z25 x)/\∀(d:Int),z37[(x:Int).toNat]?=some d->(z11/\(∃(v:Nat),v=0/\(z13 d x)/\(z1 x d)=(z2 x))/\∃(v:Nat),v=0/\(z13 d x)/\(z1 x d)=(z2 x))/\((z11/\∃(v:Nat),v=0/\(z13 d x)/\(z1 x d)=(z2 x))/\z11/\∃(v:Nat),v=0/\(z13 d x)/\(z1 x d)=(z2 x))/\(z11/\∃(v:Nat),v=0/\(z13 d x)/\(z1 x d)=(z2 x))/\z11/\∃(v:Nat),v=0/\(z13 d x)/\(z1 x d)=(z2 x)) /\
                                ∀(v:Nat),v=0->((yg x)=true->0<=(x:Int)/\(x:Int) < (z37.length:Int))/\∀(d:Int),((yg x)=true->z37[(x:Int).toNat]?=some d)->((!(!rHs vs ms cs fs ts bound pk (x:Int) || !decide (z30 x) || !(z23 x) || !decide ((z33 x).fst=d) || decide (z20 x)))=true->iR ((z38.fst.length:Int)+(1:Int)))/\br (!rHs vs ms cs fs ts bound pk (x:Int) || !decide (z30 x) || !(z23 x) || !decide ((z33 x).fst=d) || decide (z20 x) || decide ((z38.fst.length:Int)+1 < (↑(z34 x).fst.fst.length:Int))) (qB true false) ((∃(x_1:Nat),x_1<=z38.fst.length/\(cI 0=cI (z32 x x_1)/\cI 0=cI (x_1:Int)/\True)/\sm (z2 x))/\∀(x_1:Nat),x_1<=z38.fst.length->br (decide ((x_1:Int) < (z38.fst.length:Int))) (((decide (z21 x x_1)=true->0<=rAt vs ms cs fs ts bound pk (x:Int) x_1/\rAt vs ms cs fs ts bound pk (x:Int) x_1 < (↑(z34 x).fst.fst.length:Int))/\∀(bJ:TD),(decide (z21 x x_1)=true->(z34 x).fst.fst[(z32 x x_1).toNat]?=some bJ)->(decide (z21 x x_1)=true->0<=(x_1:Int)/\(x_1:Int) < (z38.fst.length:Int))/\∀(kW:TD),(decide (z21 x x_1)=true->z38.fst[(x_1:Int).toNat]?=some kW)->br (decide (z21 x x_1) && !decide (bJ.fst=kW.fst)) (iR (rAt vs ms cs fs ts bound pk (x:Int) x_1+(1:Int))/\∃(v:Nat),v=0/\(cI (rAt vs ms cs fs ts bound pk (x:Int) x_1+(1:Int))=cI (z31 x x_1)/\True)/\sm (z2 x)) (∃(v:Nat),v=0/\(cI (z32 x x_1)=cI (z31 x x_1)/\True)/\sm (z2 x)))/\∀(v:Nat),v=0->br (decide ((↑(z34 x).fst.fst.length:Int)<=rPl vs ms cs fs ts bound pk (x:Int) (x_1:Int))) (qB true false) ((0<=rPl vs ms cs fs ts bound pk (x:Int) (x_1:Int)/\rPl vs ms cs fs ts bound pk (x:Int) (x_1:Int) < (↑(z34 x).fst.fst.length:Int))/\∀(bJ:TD),(z34 x).fst.fst[(z31 x x_1).toNat]?=some bJ->(0<=(x_1:Int)/\(x_1:Int) < (z38.fst.length:Int))/\∀(kW:TD),z38.fst[(x_1:Int).toNat]?=some kW->((!!decide (bJ.fst=kW.fst))=true->0<=(x:Int)/\(x:Int) < (z37.length:Int))/\∀(wC:Int),((!!decide (bJ.fst=kW.fst))=true->z37[(x:Int).toNat]?=some wC)->((z29 bJ wC kW)=true->0<=(x_1:Int)/\(x_1:Int) < (z38.fst.length:Int))/\∀(Aq:TD),((z29 bJ wC kW)=true->z38.fst[(x_1:Int).toNat]?=some Aq)->((z22 bJ Aq wC kW)=true->0<=(x_1:Int)/\(x_1:Int) < (z38.fst.length:Int))/\∀(Dq:TD),((z22 bJ Aq wC kW)=true->z38.fst[(x_1:Int).toNat]?=some Dq)->((Gh bJ Aq Dq wC kW)=true->0<=(x_1:Int)/\(x_1:Int) < (z38.fst.length:Int))/\∀(IG:TD),((Gh bJ Aq Dq wC kW)=true->z38.fst[(x_1:Int).toNat]?=some IG)->((z12 bJ kW wC Aq Dq IG)=true->0<=(x:Int)/\(x:Int) < (z37.length:Int))/\∀(WT:Int),((z12 bJ kW wC Aq Dq IG)=true->z37[(x:Int).toNat]?=some WT)->((z9 bJ WT kW wC Aq Dq IG)=true->iR ((z33 x).snd.fst+1))/\((z7 bJ x WT kW wC Aq Dq IG)=true->0<=(x_1:Int)/\(x_1:Int) < (z38.fst.length:Int))/\∀(d_8:TD),((z7 bJ x WT kW wC Aq Dq IG)=true->z38.fst[(x_1:Int).toNat]?=some d_8)->br (!decide (bJ.fst=kW.fst) || !decide (bJ.fst=wC) && (z17 bJ Aq Dq IG) || decide (bJ.fst=WT) && (!decide (z24 bJ x) || !decide (d_8.snd.snd.snd.snd.fst=(z33 x).snd.fst))) (qB true false) (iR (z26 x x_1)/\iR (z39 x_1)/\∃(x':Nat),x'<=z38.fst.length/\(cI (z26 x x_1)=cI (z32 x x')/\cI (z39 x_1)=cI (x':Int)/\True)/\sm (z2 x)/\z38.fst.length - x' < z38.fst.length - x_1))) (iR (z39 x)/\∃(x':Nat),x'<=z37.length/\(cI (z39 x)=cI (x':Int)/\True)/\sm z6/\z37.length - x' < z37.length - x)))
                        (True/\qB true true))):=by
 conv=>zeta
 delta iR;refine⟨trivial,λh=>?_,ah.2 ⟨λ_=>⟨trivial,rfl,rfl⟩,λh=>?_⟩⟩
 .simp only[CO,l7,wI]at h;exact IX h.1
 simp only[l7,wI,eH,dN]at h;obtain⟨⟨hsm,hpk⟩,hs⟩:=h;have hb:=IX hsm;have hts:ts.length<=20:=by
  unfold Tq at hsm;rw[bY,dN]at hsm;omega
 obtain⟨hrt,I,hl⟩:=ao2 hs (by omega:pk.length<=40)
 have P:bnd ((vs,ms,cs,fs,ts,()),())/\iF (rZ vs ms cs fs ts bound pk).1/\bK (rZ vs ms cs fs ts bound pk).2.1:=⟨hb,I.bt (by omega),I.bm (by omega)⟩
 have Q:bnd ((vs,ms,cs,fs,ts,()),())/\iF (rZ vs ms cs fs ts bound pk).1/\(rZ vs ms cs fs ts bound pk).1.length<=999999/\qF (rZ vs ms cs fs ts bound pk).2.1=true/\zX (rZ vs ms cs fs ts bound pk).2.2.1:=⟨hb,I.bt (by omega),by omega,I.few (by omega),I.bb⟩
 have hle:(rEn vs ms cs fs ts bound pk).length<=48:=pI (UH I) hl;refine⟨⟨⟨hb,hs,hts,by omega⟩,0,rfl,⟨rfl,by rw[hrt],trivial⟩,rfl⟩,λv _=>⟨λ_=>P,ah.2 ⟨λg=>(by rw[iT.2 I.va]at g;cases g),λ_=>⟨⟨P,0,rfl,⟨rfl,trivial⟩,rfl⟩,λv _=>⟨⟨0,by omega,⟨rfl,trivial⟩,rfl⟩,λx hx=>ah.2 ⟨λg=>?_,λg=>⟨trivial,rfl,rfl⟩⟩⟩⟩⟩⟩⟩
 have g:=OL g;have Gx:0<=(x:Int)/\(x:Int) < ((rEn vs ms cs fs ts bound pk).length:Int):=⟨by omega,g⟩
 obtain⟨ta,ja,ma,ia,pa,na,la,sa,ba,Ja,ka,ra⟩:=r_at I hl Gx.1 Gx.2;have j1:WS IntKind.i64 ((x:Int)+1):=ay.2 (by omega)
 obtain⟨L,c32,W⟩:=ac0 I (by omega) ma pa na
 rw[<-sa]at L W;have hlen:=(DY I (by omega) ma pa na).2.2
 rw[<-sa]at hlen;have hge:(rZ vs ms cs fs ts bound pk).1.length<=(wH vs ms cs fs ts bound pk x).1.1.length:=by rw[hlen];omega
 have hhs:rHs vs ms cs fs ts bound pk x=true:=by unfold rHs;rw[ia,OA I ma pa]
 have n1:(wH vs ms cs fs ts bound pk x).2.2=0:=by rw[ra]
 have n2:WC (Hu vs ms cs fs ts bound pk x) (wH vs ms cs fs ts bound pk x).2.1=true:=acH.2 (by rw[ra])
 have lf:(Hu vs ms cs fs ts bound pk x).1=rId vs ms cs fs ts bound pk x:=by rw[la,BJ,ia]
 have li:(Hu vs ms cs fs ts bound pk x).2.1=ta.2.2.2.2.1:=by rw[la,amF]
 refine⟨⟨Gx,acX ?_⟩,λv _=>⟨⟨Gx,acX ?_⟩,λv _=>⟨λ_=>Gx,λd hd=>⟨λ_=>ay.2 (by omega),ah.2 ⟨λh=>?_,λ_=>⟨⟨0,by omega,⟨rfl,rfl,trivial⟩,rfl⟩,λk hk=>ah.2 ⟨λgk=>?_,λ_=>⟨j1,x+1,by omega,⟨rfl,trivial⟩,rfl,by omega⟩⟩⟩⟩⟩⟩⟩⟩
 .repeat' (first | exact P | exact Q | exact⟨0,rfl,⟨rfl,rfl,trivial⟩,rfl⟩ | exact⟨0,rfl,⟨rfl,rfl,rfl,trivial⟩,rfl⟩ | (refine And.intro ?_ ?_))
 .repeat' (first | exact P | exact Q | exact⟨0,rfl,⟨rfl,rfl,trivial⟩,rfl⟩ | exact⟨0,rfl,⟨rfl,rfl,rfl,trivial⟩,rfl⟩ | (refine And.intro ?_ ?_))
 .have ed:=OC (hd (by rw[hhs,n1,n2];rfl))
  rw[hhs,n1,n2,lf,ed]at h;have h1:¬(((wH vs ms cs fs ts bound pk x).1.1.length:Int) < ((rZ vs ms cs fs ts bound pk).1.length:Int)):=by omega
  have h2:¬(((rZ vs ms cs fs ts bound pk).1.length:Int)+1 < ((wH vs ms cs fs ts bound pk x).1.1.length:Int)):=by have:=L.le;omega
  simp[h1,h2]at h
 have gk:(k:Int) < ((rZ vs ms cs fs ts bound pk).1.length:Int):=OL gk;have hkl:k < (rZ vs ms cs fs ts bound pk).1.length:=by omega
 have Gk:0<=(k:Int)/\(k:Int) < ((rZ vs ms cs fs ts bound pk).1.length:Int):=⟨by omega,gk⟩
 have hsk:=kQ hkl;generalize (rZ vs ms cs fs ts bound pk).1[k]=s at hsk;obtain⟨u,hu,huid,p1,p2,p3⟩:=L.pos hsk;obtain⟨a1,a2,a3⟩:=L.at hsk;have eA:rAt vs ms cs fs ts bound pk x k=((atT (rZ vs ms cs fs ts bound pk).1 (wH vs ms cs fs ts bound pk x).1.1 k:Nat):Int):=rfl;have hN:(k:Int).toNat=k:=by omega
 have eP:rPl vs ms cs fs ts bound pk x k=((Hw (wH vs ms cs fs ts bound pk x).1.1 s.1:Nat):Int):=by
  unfold rPl;rw[hN,Q8 hsk];rfl
 have lt:rAt vs ms cs fs ts bound pk x k < ((wH vs ms cs fs ts bound pk x).1.1.length:Int):=by omega
 refine⟨⟨λ_=>⟨by omega,lt⟩,λd1 h1=>⟨λ_=>Gk,λd2 h2=>?_⟩⟩,λv _=>ah.2 ⟨λh=>?_,λ_=>?_⟩⟩
 .have h1:=h1 (xq lt);have h2:=h2 (xq lt);rw[hN,hsk]at h2;cases h2;rw[eA,W9]at h1;have nx:=L.next hsk h1;refine ah.2 ⟨λg=>?_,λg=>?_⟩
  .simp only[bY,CO,eH]at g;rw[if_neg g.2]at nx;exact⟨ay.2 (by omega),0,rfl,⟨by rw[eP,eA,nx];rfl,trivial⟩,rfl⟩
  .have g2:d1.1=s.1:=by
    refine Gw.1 λq=>?_
    have:decide (d1.1=s.1)=false:=Aw q;rw[xq lt,this]at g;cases g
   rw[if_pos g2]at nx;exact⟨0,rfl,⟨by rw[eP,eA,nx],trivial⟩,rfl⟩
 .have:=OL h;omega
 have i1:WS IntKind.i64 ((k:Int)+1):=ay.2 (by omega)
 have i2:WS IntKind.i64 (rPl vs ms cs fs ts bound pk x k+1):=ay.2 (by omega)
 have i3:WS IntKind.i64 ((Hu vs ms cs fs ts bound pk x).2.1+1):=ay.2 (by rw[li];omega)
 refine⟨⟨by omega,by omega⟩,λd1 h1=>⟨Gk,λd2 h2=>⟨λ_=>Gx,λd3 h3=>⟨λ_=>Gk,λd4 h4=>⟨λ_=>Gk,λd5 h5=>⟨λ_=>Gk,λd6 h6=>⟨λ_=>Gx,λd7 h7=>⟨λ_=>i3,λ_=>Gk,λd8 h8=>ah.2 ⟨λh=>?_,λ_=>⟨i2,i1,k+1,by omega,⟨?_,rfl,trivial⟩,rfl,by omega⟩⟩⟩⟩⟩⟩⟩⟩⟩⟩
 .exfalso;rw[eP,W9,hu]at h1;cases h1;rw[hN,hsk]at h2 h4 h5 h6 h8;cases h2;obtain⟨w1,w2,w3⟩:=W k s u hsk hu;have b12:decide (u.1=s.1)=true:=xq w1;have e3:=OC (h3 (by rw[b12];rfl))
  rw[ia]at e3
  by_cases hc:u.1=ta.1
  .have b3:decide (u.1=d3)=true:=by rw[e3];exact xq hc
   have e7:=OC (h7 (by rw[b12,b3];rfl))
   rw[ia]at e7;have b7:decide (u.1=d7)=true:=by rw[e7];exact xq hc
   obtain⟨x1,x2⟩:=w3 hc;have b8:decide (u.2.2.2.2.1=(Hu vs ms cs fs ts bound pk x).2.1+1)=true:=by rw[li];exact xq x1
   have e8:=D5 (h8 (by rw[b12,b3,b7,b8];rfl))
   have b9:decide (d8.2.2.2.2.1=(Hu vs ms cs fs ts bound pk x).2.1)=true:=by rw[li,<-e8,x2];exact xq rfl
   rw[b12,b3,b7,b8,b9]at h;cases h
  .have b3:decide (u.1=d3)=false:=by rw[e3];exact Aw hc
   have e0:=w2 hc;subst e0;have e4:=D5 (h4 (by rw[b12,b3];rfl));subst e4
   have b4:decide (u.2.2.1=u.2.2.1)=true:=xq rfl;have e5:=D5 (h5 (by rw[b12,b3,b4];rfl));subst e5
   have b5:decide (u.2.2.2.1=u.2.2.2.1)=true:=xq rfl;have e6:=D5 (h6 (by rw[b12,b3,b4,b5];rfl));subst e6
   have b6:decide (u.2.2.2.2.1=u.2.2.2.2.1)=true:=xq rfl;have e7:=OC (h7 (by rw[b12,b3,b4,b5,b6];rfl))
   rw[ia]at e7;have b7:decide (u.1=d7)=false:=by rw[e7];exact Aw hc
   rw[b12,b3,b4,b5,b6,b7]at h;cases h
 .have e1:fid (rZ vs ms cs fs ts bound pk).1 k=s.1:=Q8 hsk;show cI (rPl vs ms cs fs ts bound pk x k+1)=cI ((Hw (wH vs ms cs fs ts bound pk x).1.1 (fid (rZ vs ms cs fs ts bound pk).1 k)+1:Nat):Int);rw[eP,e1];rfl
theorem amH:aU aS.gd 7 aqo:=
 dY (cx:=aS) (n:=241) (cl:=[(10,aok),(26,tN),(28,Om),(11,acF),(27,acW),(19,Gn),(16,Un),(21,Ox)]) (rc:=[]) au ⟨afL,ag5,ag7,ahu,ahz,KU,Uo,KX,trivial⟩ Tryz.func7 λd hd=>by
  obtain⟨⟨vs,ms,cs,fs,ts,⟨⟩⟩,bound,pk,⟨⟩⟩:=d;exact aP (aqp vs ms cs fs ts bound pk) (ao3 vs ms cs fs ts bound pk) (by kernel_rfl)
open Go Go.l9 Go.ChangeShapes Go.WideShapes Go.ChangeAt Go.RowKit
theorem own:ownKnob Tryz.prog.godebug=none:=by kernel_rfl
theorem laidOut:laidOutB Tryz.prog=true:=by kernel_rfl
theorem rowed:mapsRowed Tryz.prog=true:=by kernel_rfl
theorem full:∀t e,t < Tryz.prog.types.size->Tryz.prog.underlying t=some (.slice e)->0 < Tryz.prog.cellsOf e:=slices_full_of _ (by kernel_rfl)
theorem amI:Tryz.prog.globalNamed "modelcheck/inst.rows"=some 1:=by kernel_rfl
theorem amJ:(Tryz.prog.globals[1]?).map (·.type)=some 183:=by kernel_rfl
theorem ao4:(rM Tryz.prog (.arr 22 (.pair .str (.pair (.arr 7 .bool) .unit)))).1 183=true:=by kernel_rfl
theorem amK:Tryz.prog.globalNamed "modelcheck/value.names"=some 2:=by kernel_rfl
theorem amL:(Tryz.prog.globals[2]?).map (·.type)=some 214:=by kernel_rfl
theorem ao5:(rM Tryz.prog (.arr 10 .str)).1 214=true:=by kernel_rfl
noncomputable def laidWorld (os:Os):World:=
 { World.holding Tryz.prog os ⟨#[],#[],[]⟩with heap:=(((World.holding Tryz.prog os ⟨#[],#[],[]⟩).heap).modify 1 (lay #[.string ⟨#[99,111,110,115,116]⟩,.bool true,.bool false,.bool false,.bool false,.bool true,.bool false,.bool false,.string ⟨#[99,111,112,121]⟩,.bool true,.bool true,.bool false,.bool false,.bool false,.bool false,.bool false,.string ⟨#[99,97,108,99]⟩,.bool true,.bool true,.bool true,.bool false,.bool false,.bool true,.bool false,.string ⟨#[106,117,109,112]⟩,.bool false,.bool false,.bool false,.bool false,.bool true,.bool false,.bool false,.string ⟨#[98,114,97,110,99,104]⟩,.bool false,.bool true,.bool false,.bool false,.bool true,.bool false,.bool false,.string ⟨#[97,115,115,101,114,116]⟩,.bool false,.bool true,.bool false,.bool false,.bool false,.bool false,.bool false,.string ⟨#[115,116,111,112]⟩,.bool false,.bool false,.bool false,.bool false,.bool false,.bool false,.bool false,.string ⟨#[108,111,97,100]⟩,.bool true,.bool false,.bool false,.bool true,.bool false,.bool false,.bool true,.string ⟨#[115,116,111,114,101]⟩,.bool false,.bool true,.bool false,.bool true,.bool false,.bool false,.bool true,.string ⟨#[115,119,97,112]⟩,.bool true,.bool true,.bool false,.bool true,.bool false,.bool false,.bool true,.string ⟨#[102,101,116,99,104,97,100,100]⟩,.bool true,.bool true,.bool false,.bool true,.bool false,.bool false,.bool true,.string ⟨#[99,97,115]⟩,.bool true,.bool true,.bool true,.bool true,.bool false,.bool false,.bool true,.string ⟨#[102,101,110,99,101]⟩,.bool false,.bool false,.bool false,.bool false,.bool false,.bool false,.bool false,.string ⟨#[97,119,97,105,116]⟩,.bool true,.bool true,.bool false,.bool true,.bool false,.bool true,.bool true,.string ⟨#[108,111,99,107]⟩,.bool false,.bool false,.bool false,.bool true,.bool false,.bool false,.bool false,.string ⟨#[117,110,108,111,99,107]⟩,.bool false,.bool false,.bool false,.bool true,.bool false,.bool false,.bool false,.string ⟨#[116,114,121,108,111,99,107]⟩,.bool true,.bool false,.bool false,.bool true,.bool false,.bool false,.bool false,.string ⟨#[119,97,105,116]⟩,.bool false,.bool false,.bool false,.bool true,.bool true,.bool false,.bool false,.string ⟨#[115,105,103,110,97,108]⟩,.bool false,.bool false,.bool false,.bool true,.bool false,.bool false,.bool false,.string ⟨#[98,114,111,97,100,99,97,115,116]⟩,.bool false,.bool false,.bool false,.bool true,.bool false,.bool false,.bool false,.string ⟨#[115,112,97,119,110]⟩,.bool true,.bool true,.bool false,.bool true,.bool false,.bool false,.bool false,.string ⟨#[106,111,105,110]⟩,.bool false,.bool true,.bool false,.bool false,.bool false,.bool false,.bool false])).modify 2 (lay #[.string ⟨#[97,100,100]⟩,.string ⟨#[115,117,98]⟩,.string ⟨#[109,117,108]⟩,.string ⟨#[97,110,100]⟩,.string ⟨#[111,114]⟩,.string ⟨#[120,111,114]⟩,.string ⟨#[101,113]⟩,.string ⟨#[110,101]⟩,.string ⟨#[108,116]⟩,.string ⟨#[108,101]⟩]) }
namespace machineReachesL
theorem globs{W:World} (hL:laidMetH Tryz.prog Rows.machineReachesRow.laid W):aI gd0 (FH.all W):=by
 intro g p hp;unfold gd0 at hp;split at hp
 .cases hp;exact IC hL (by kernel_rfl) (n:= "modelcheck/inst.rows") (D:=Rows.laid_modelcheck_inst_rows) (by simp[Rows.machineReachesRow]) amI amJ ao4 (by kernel_rfl)
 .cases hp;exact IC hL (by kernel_rfl) (n:= "modelcheck/value.names") (D:=Rows.laid_modelcheck_value_names) (by simp[Rows.machineReachesRow]) amK amL ao5 (by kernel_rfl)
 .cases hp
theorem laid_met(os:Os):laidMet Tryz.prog Rows.machineReachesRow.laid ((laidWorld os).forCall (λ_ _=>0) ⟨#[],#[.agg #[.slice none 0 0,.slice none 0 0,.slice none 0 0,.slice none 0 0,.slice none 0 0],.int .i64 0,.slice none 0 0],[]⟩).memory:=
 laidMet_of_run' 20 (by kernel_rfl) (by kernel_rfl)
theorem reads(os:Os){H:Type} (enc:TypeId×Value->H):∃places,DataW.whole enc Tryz.prog ((laidWorld os).forCall (λ_ _=>0) ⟨#[],#[.agg #[.slice none 0 0,.slice none 0 0,.slice none 0 0,.slice none 0 0,.slice none 0 0],.int .i64 0,.slice none 0 0],[]⟩).memory Tryz.f7.params.toList Rows.machineReachesSpec.vars false (#[.agg #[.slice none 0 0,.slice none 0 0,.slice none 0 0,.slice none 0 0,.slice none 0 0],.int .i64 0,.slice none 0 0]:Array Value).toList 20=some ([.agg [.nil,.nil,.nil,.nil,.nil],.lit (.int .i64 0),.nil],[],places):=
 ⟨[],by kernel_rfl⟩
theorem lifted(os:Os) (started:os.Started) (H:Type) (enc:TypeId×Value->H) (F:Stop.Interp):
 ReturnsInHanded {} Tryz.checked os 7 .any ((OpenSpec.ofChange Rows.machineReachesSpec).preRow enc Tryz.prog Tryz.f7 Rows.machineReachesRow.domain false Rows.machineReachesRow.laid) (((OpenSpec.ofChange Rows.machineReachesSpec).at F).post enc Tryz.prog Tryz.f7 false true false false):=by
 obtain⟨places,hx⟩:=reads os enc;refine returnsInHanded_of_row (C:=Tryz.checked) (s:=OpenSpec.ofChange Rows.machineReachesSpec) own started (by kernel_rfl) Tryz.func7
  (witness_row_at (enc:=enc) (C:=Tryz.checked) false (laidWorld os) #[.agg #[.slice none 0 0,.slice none 0 0,.slice none 0 0,.slice none 0 0,.slice none 0 0],.int .i64 0,.slice none 0 0] rfl (by kernel_rfl) (by kernel_rfl) (by kernel_rfl)
   (OpenSpec.preRow_of_cond 20 hx (by kernel_rfl) (λk hk=>by cases hk) (by kernel_rfl) (laid_met os))) ?_
 intro W base args ds gs before hval hW _ hcond hwt hL _ _;refine V6 (fn:=Tryz.f7) amH laidOut rowed full (by decide +kernel) (t:=4) (by kernel_rfl) (by kernel_rfl) rfl (by kernel_rfl) (λ_=>rfl) (λd hd hwf=>?_) hval hW (globs hL)
 match ds,Iz hd with
 | [d0,d1,d2],_=>exact⟨rfl,by trivial⟩
theorem said:Rows.MachineReachesSaid:=
 OpenClaim.holds_of_cond 7 Tryz.f7 rfl rfl rfl rfl rfl rfl rfl ⟨rfl,rfl,rfl,rfl,rfl⟩ rfl rfl rfl rfl rfl (by kernel_rfl) Tryz.func7 jf7
  (OL (by kernel_rfl)) (by unfold Func.isWrapper;first | (rw[if_pos (by decide +kernel)];kernel_rfl) | (rw[if_neg (by decide +kernel)];exact⟨rfl,rfl⟩))
  (λos started H enc _ F=>by rw[OpenClaim.pre_eq_preRow];exact lifted os started H enc F)
theorem plain(f:FuncId) (fn:Func) (hf:Tryz.pinned.checked.prog.funcNamed "modelcheck/modelchecklaw23.MachineReaches"=some f) (hfn:Tryz.pinned.checked.prog.funcs[f]?=some fn):
 false=Tryz.pinned.checked.prog.looks []/\∀(j:Nat) t,fn.params[j]?=some t->Tryz.pinned.checked.prog.wantsStandIn t=false:=by
 obtain rfl:f=7:=D5 ((show Tryz.prog.funcNamed "modelcheck/modelchecklaw23.MachineReaches"=some 7 by kernel_rfl).symm.trans hf) |>.symm
 obtain rfl:fn=Tryz.f7:=(D5 (Tryz.func7.symm.trans hfn)).symm;refine⟨by kernel_rfl,λj t ht=>?_⟩
 have hm:t∈Tryz.f7.params.toList:=gZ (by simpa using ht)
 have key:∀t∈Tryz.f7.params.toList,Tryz.prog.wantsStandIn t=false:=by decide +kernel
 exact key t hm
theorem card:Rows.MachineReachesCardSaid:=
 Claim7.holds_tied_plain_at .later [] _ _ _ _ said (λ_ h=>by cases h) (by kernel_rfl) (λ_ h=>by cases h) machineReaches_row_tie rfl ⟨rfl,rfl⟩ (by kernel_rfl) rfl plain (by kernel_rfl)
end machineReachesL
end Go.Proofs.YtjhenjhcbcalpaaGreatDoor
