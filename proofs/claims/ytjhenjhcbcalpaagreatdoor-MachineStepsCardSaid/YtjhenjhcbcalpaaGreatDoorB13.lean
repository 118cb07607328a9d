/- Part 13 of the proof. Conditions: the rows'. -/
import Derived.Test.YtjhenjhcbcalpaaGreatDoorB12
import Derived.Test.YtjhenjhcbcalpaaGreatDoorCards
import Derived.Test.YtjhenjhcbcalpaaGreatDoorTie
import Derived.WalkKit
import Derived.ProofKit
import Derived.OpenShut
import Derived.Deep.DeepHandedRow
import Derived.Lib.LaidTab
import Derived.Test.YtjhenjhcbcalpaaGreatDoorJ3
set_option linter.unusedSimpArgs false
set_option linter.unusedVariables false
set_option maxRecDepth 1000000
set_option maxHeartbeats 8000000
namespace Go.Proofs.YtjhenjhcbcalpaaGreatDoor
open Go Go.jw
variable {l:List TD}{vs:List VD}{ms cs:List ByteArray}{fs:List FD}{ts:List SD}{m:MD}{id:Int}
theorem MC(h:qU l){t:TD} (ht:t∈l):wZ l t.1=some t:=by
 have hp:l.Pairwise λa b=>a.1 < b.1:=aep.1 h
 clear h;unfold wZ
 induction l with
 | nil=>cases ht
 | cons a l ih=>
   rw[X7]at hp;rcases nG.1 ht with rfl | ht
   .simp
   .have:=hp.1 t ht;rw[List.find?_cons_of_neg (by simp;omega)]
    exact ih ht hp.2
theorem ai9{b:Int}{bf:List BD} (hs:bQ (aB vs ms cs fs ts).1 b=0) (h:VS vs ms cs fs ts b l m bf):VS vs ms cs fs ts 32 l m bf:=by
 have hz:=fO.1 hs;exact⟨h.1,h.2.1,λt ht=>⟨fO.2 ⟨hz.1,by omega,by omega⟩,acC hz.2.2 (h.2.2.1 t ht).2⟩,h.2.2.2⟩
theorem aja{bf:List BD} (h:VS vs ms cs fs ts 32 l m bf):
 dM (sW vs ms cs fs ts l m bf) id=true↔((jv (aB vs ms cs fs ts).1 ms fs l id).2.2 && Dp l m (jv (aB vs ms cs fs ts).1 ms fs l id).1 (jv (aB vs ms cs fs ts).1 ms fs l id).2.1)=true:=by
 rw[nT];unfold sW;rw[if_pos (jR.2 h)];unfold sV;rw[Yr];constructor
 .rintro⟨t,ht,rfl⟩;obtain⟨h1,h2⟩:=MS.1 ht;unfold jv;rw[MC h.2.2.2 h1];exact h2
 .intro q;unfold jv at q;cases ef:wZ l id with
  | none=>rw[ef]at q;cases q
  | some t=>
    rw[ef]at q;exact⟨t,MS.2 ⟨akh ef,q⟩,by simpa using Qk ef⟩
noncomputable abbrev arf (th:List TD) (mv mo:List Int) (mq:List (List Int)) (mg:List Int) (bf:List BD):Nat->Option (St->iE):=λk=>match k with
 | 3=>some λ_=>.inv { α:=Nat,pX:=[(6,0,56,bD)],slots:=λk=>[(4,.c (.v (.int .i64 k)))],res:=λk=>[(7,.row 56 bD (th.take k))],inv:=λk=>k<=th.length,meas:=λk=>th.length - k }
 | 9=>some λ_=>.inv { α:=Nat,pX:=[(6,5,65,yQ)],slots:=λk=>[(6,.c (.v (.int .i64 k)))],res:=λk=>[(8,.row 65 yQ (bf.take k))],inv:=λk=>k<=bf.length,meas:=λk=>bf.length - k }
 | _=>none
theorem aoT(th:List TD) (mv mo:List Int) (mq:List (List Int)) (mg:List Int) (bf:List BD) (aA:Jy.pre ((th,(mv,mo,mq,mg,()),bf,()),())):
 let z5:=bZ th mv mo mq mg bf;let z6:=λ(x:Nat)=>List.take x th;let z3:=λ(x:Nat)=>[g0 z5,g0 (aj.blk 37 oV),g0 (aj.row 3 I6 mv),g0 (aj.row 3 I6 mo),g0 (aj.row 31 I6.sl mq),g0 (aj.row 3 I6 mg),g0 (aj.blk 37 kq6),g0 (aj.row 56 bD (z6 x))];let z2:=λ(d:TD)=>[(d.fst,d.2.fst,d.2.2.fst,d.2.2.2.fst,d.2.2.2.2.fst,d.2.2.2.2.2.fst,d.2.2.2.2.2.2.fst,d.2.2.2.2.2.2.2.fst,d.2.2.2.2.2.2.2.2.fst,[]++d.snd.snd.snd.snd.snd.snd.snd.snd.snd.fst,d.2.2.2.2.2.2.2.2.2.snd)];let z4:=λ(x:Nat)=>(x:Int)+(1:Int);let z1:=λ(x x_1:Nat)=>[g0 z5,g0 (aj.blk 37 oV),g0 (aj.row 3 I6 mv),g0 (aj.row 3 I6 mo),g0 (aj.row 31 I6.sl mq),g0 (aj.row 3 I6 mg),g0 (aj.blk 37 kq5),g0 (aj.row 56 bD (z6 x)),g0 (aj.row 65 yQ (List.take x_1 bf))];aZ (mv,mo,mq,mg,())/\(∃x,x<=th.length/\(cI 0=cI (x:Int)/\True)/\[g0 z5,g0 (aj.blk 37 oV),g0 (aj.row 3 I6 mv),g0 (aj.row 3 I6 mo),g0 (aj.row 31 I6.sl mq),g0 (aj.row 3 I6 mg),g0 (aj.blk 37 kq6),g0 (aj.row 56 bD [])]=(z3 x))/\∀(x:Nat),x<=th.length->br (decide ((x:Int) < (th.length:Int))) ((0<=(x:Int)/\(x:Int) < (th.length:Int))/\∀(d:TD),th[(x:Int).toNat]?=some d->jY (0+List.length d.snd.snd.snd.snd.snd.snd.snd.snd.snd.fst) 8/\jY ((z6 x).length+(z2 d).length) 152/\iR (z4 x)/\∃x',x'<=th.length/\(cI (z4 x)=cI (x':Int)/\True)/\[g0 z5,g0 (aj.blk 37 oV),g0 (aj.row 3 I6 mv),g0 (aj.row 3 I6 mo),g0 (aj.row 31 I6.sl mq),g0 (aj.row 3 I6 mg),g0 (aj.blk 37 kq6),g0 (aj.row 56 bD (List.take x th++(z2 d)))]=(z3 x')/\th.length - x' < th.length - x) ((∃x_1,x_1<=bf.length/\(cI 0=cI (x_1:Int)/\True)/\[g0 z5,g0 (aj.blk 37 oV),g0 (aj.row 3 I6 mv),g0 (aj.row 3 I6 mo),g0 (aj.row 31 I6.sl mq),g0 (aj.row 3 I6 mg),g0 (aj.blk 37 kq5),g0 (aj.row 56 bD (z6 x)),g0 (aj.row 65 yQ [])]=(z1 x x_1))/\∀(x_1:Nat),x_1<=bf.length->br (decide ((x_1:Int) < (bf.length:Int))) ((0<=(x_1:Int)/\(x_1:Int) < (bf.length:Int))/\∀(d:BD),bf[(x_1:Int).toNat]?=some d->jY (0+List.length d.snd.snd.fst) 16/\jY ((List.take x_1 bf).length+[(d.fst,d.snd.fst,[]++d.snd.snd.fst,())].length) 40/\iR (z4 x_1)/\∃x',x'<=bf.length/\(cI (z4 x_1)=cI (x':Int)/\True)/\[g0 z5,g0 (aj.blk 37 oV),g0 (aj.row 3 I6 mv),g0 (aj.row 3 I6 mo),g0 (aj.row 31 I6.sl mq),g0 (aj.row 3 I6 mg),g0 (aj.blk 37 kq5),g0 (aj.row 56 bD (z6 x)),g0 (aj.row 65 yQ (List.take x_1 bf++[(d.fst,d.snd.fst,[]++d.snd.snd.fst,())]))]=(z1 x x')/\bf.length - x' < bf.length - x_1) ([aj.row 56 bD th]=[aj.row 56 bD (z6 x)]/\aW.one (SV.agg [SC.row 0,SC.sl I6 mv,SC.sl I6 mo,SC.sl I6.sl mq,SC.sl I6 mg,SC.sl yQ bf])=aW.one (SV.agg [SC.row 0,SC.sl I6 mv,SC.sl I6 mo,SC.sl I6.sl mq,SC.sl I6 mg,SC.sl yQ (List.take x_1 bf)]))):=by
 conv=>zeta
 delta oV kq6 kq5 iR iN;obtain⟨⟨hl,hT⟩,hM,hB,hb⟩:iO th/\aZ (mv,mo,mq,mg,())/\AO bf:=aA;have tk:∀{α:Type}{l:List α}{k:Nat}{d:α},l[k]?=some d->l.take (k+1)=l.take k++[d]:=by
  intro α l k d h;rw[Hf,h];rfl
 refine⟨hM,⟨0,by omega,⟨rfl,trivial⟩,rfl⟩,λk hk=>ah.2 ⟨λg=>?_,λg=>?_⟩⟩
 .simp only[dG]at g;refine⟨⟨by omega,by omega⟩,λd hd=>⟨bJ.2 ?_,bJ.2 (by rw[kH];simp only[sZ,AY];omega),au.2 (by omega),k+1,by omega,⟨rfl,trivial⟩,?_,by omega⟩⟩
  .have:=(hT d (gQ hd)).1;omega
  .have hd:th[k]?=some d:=hd;rw[tk hd];rfl
 simp only[A8]at g;rw[qV (i:=k) (by omega)]
 refine⟨⟨0,by omega,⟨rfl,trivial⟩,rfl⟩,λk hk=>ah.2 ⟨λg=>?_,λg=>?_⟩⟩
 .simp only[dG]at g;refine⟨⟨by omega,by omega⟩,λd hd=>⟨bJ.2 ?_,bJ.2 (by rw[kH];simp only[sZ,AY];omega),au.2 (by omega),k+1,by omega,⟨rfl,trivial⟩,?_,by omega⟩⟩
  .have:=hb d (gQ hd);omega
  .have hd:bf[k]?=some d:=hd;rw[tk hd];rfl
 .simp only[A8]at g;rw[qV (i:=k) (by omega)]
  exact⟨rfl,rfl⟩
theorem ajb:aN cxR.gd 25 Jy:=
 bV (cx:=cxR) (n:=59) (cl:=[(65,nX)]) (rc:=[.hd 56 bD shR]) ay ⟨uy,trivial⟩ Tryz.func25 λd hd=>by
  obtain⟨⟨th,⟨mv,mo,mq,mg,⟨⟩⟩,bf,⟨⟩⟩,⟨⟩⟩:=d;exact aI (arf th mv mo mq mg bf) (aoT th mv mo mq mg bf hd) (by kernel_rfl)
noncomputable abbrev arh (th:List TD) (mv mo:List Int) (mq:List (List Int)) (mg:List Int) (bf:List BD) (Dt:List TD) (mv2 PO:List Int) (PS:List (List Int)) (PU:List Int) (Eh:List BD):Nat->Option (St->iE):=λk=>match k with
 | 4=>some λ_=>.inv { α:=Nat,slots:=λk=>[(5,.c (.v (.int .i64 k)))],res:=λ_=>[],inv:=λk=>k<=th.length/\∀j < k,th[j]?=Dt[j]?,meas:=λk=>th.length - k }
 | 9=>some λ_=>.inv { α:=Nat,slots:=λk=>[(6,.c (.v (.int .i64 k)))],res:=λ_=>[],inv:=λk=>k<=bf.length/\∀j < k,bf[j]?=Eh[j]?,meas:=λk=>bf.length - k }
 | _=>none
theorem aoU(th:List TD) (mv mo:List Int) (mq:List (List Int)) (mg:List Int) (bf:List BD) (Dt:List TD) (mv2 PO:List Int) (PS:List (List Int)) (PU:List Int) (Eh:List BD) (aA:JA.pre ((th,(mv,mo,mq,mg,()),bf,()),(Dt,(mv2,PO,PS,PU,()),Eh,()),())):
 let z6:=(th.length:Int)=(Dt.length:Int);let z7:=(bf.length:Int)=(Eh.length:Int);let z9:=(mv,mo,mq,mg,());let z3:=mZ (th,z9,bf,()) (Dt,(mv2,PO,PS,PU,()),Eh,());let z2:=qB z3 false;let z4:=λ(x:Nat)=>(x<=th.length/\∀(j:Nat),j < x->th[j]?=Dt[j]?);let z1:=[g0 (bZ th mv mo mq mg bf),g0 (aj.blk 37 [SC.sl bD Dt,SC.sl I6 mv2,SC.sl I6 PO,SC.sl I6.sl PS,SC.sl I6 PU,SC.sl yQ Eh])];let z8:=λ(x:Nat)=>(x:Int)+(1:Int);let z5:=λ(x:Nat)=>(x<=bf.length/\∀(j:Nat),j < x->bf[j]?=Eh[j]?);((!(!decide z6 || !decide z7))=true->aZ z9)/\br (!decide z6 || !decide z7 || !decide (z9=(mv2,PO,PS,PU,()))) z2 ((∃x,(z4 x)/\(cI 0=cI (x:Int)/\True)/\sm z1)/\∀(x:Nat),(z4 x)->br (decide ((x:Int) < (th.length:Int))) ((0<=(x:Int)/\(x:Int) < (th.length:Int))/\∀(d:TD),th[(x:Int).toNat]?=some d->(0<=(x:Int)/\(x:Int) < (Dt.length:Int))/\∀(dH:TD),Dt[(x:Int).toNat]?=some dH->List.length d.snd.snd.snd.snd.snd.snd.snd.snd.snd.fst<=1000000/\br (!C9 d dH) z2 (iR (z8 x)/\∃x',(z4 x')/\(cI (z8 x)=cI (x':Int)/\True)/\sm z1/\th.length - x' < th.length - x)) ((∃x,(z5 x)/\(cI 0=cI (x:Int)/\True)/\sm z1)/\∀(x:Nat),(z5 x)->br (decide ((x:Int) < (bf.length:Int))) ((0<=(x:Int)/\(x:Int) < (bf.length:Int))/\∀(d:BD),bf[(x:Int).toNat]?=some d->(0<=(x:Int)/\(x:Int) < (Eh.length:Int))/\∀(dH:BD),Eh[(x:Int).toNat]?=some dH->List.length d.snd.snd.fst<=1000000/\br (!mZ d dH) z2 (iR (z8 x)/\∃x',(z5 x')/\(cI (z8 x)=cI (x':Int)/\True)/\sm z1/\bf.length - x' < bf.length - x)) (qB z3 true))):=by
 conv=>zeta
 delta iR;obtain⟨⟨hl,hT⟩,hM,hB,hb⟩:iO th/\aZ (mv,mo,mq,mg,())/\AO bf:=aA;have fF:((th,(mv,mo,mq,mg,()),bf,()):ZD)≠(Dt,(mv2,PO,PS,PU,()),Eh,())->qB (mZ ((th,(mv,mo,mq,mg,()),bf,()):ZD) (Dt,(mv2,PO,PS,PU,()),Eh,())) false:=λq=>⟨rfl,by rw[lK q]⟩
 refine⟨λ_=>hM,ah.2 ⟨λh=>fF λq=>?_,λh=>?_⟩⟩
 .have q1:th=Dt:=oW (λz:ZD=>z.1) q
  have q2:((mv,mo,mq,mg,()):MD)=(mv2,PO,PS,PU,()):=oW (λz:ZD=>z.2.1) q
  have q3:bf=Eh:=oW (λz:ZD=>z.2.2.1) q
  subst q1;subst q3;rw[vg q2]at h;simp at h
 simp only[lM,uP,dG]at h;obtain⟨⟨h1,h2⟩,h3⟩:=h;refine⟨⟨0,⟨by omega,λj hj=>by omega⟩,⟨rfl,trivial⟩,rfl⟩,λk hk=>ah.2 ⟨λg=>?_,λg=>?_⟩⟩
 .simp only[dG]at g;refine⟨⟨by omega,by omega⟩,λd hd=>⟨⟨by omega,by omega⟩,λd1 hd1=>⟨(λd hd=>(hT d hd).1) d (gQ hd),ah.2 ⟨λg2=>fF λq=>?_,λg2=>⟨au.2 (by omega),k+1,⟨by omega,λj hj=>?_⟩,⟨rfl,trivial⟩,rfl,by omega⟩⟩⟩⟩⟩
  .have q:th=Dt:=oW (λz:ZD=>z.1) q
   subst q;rw[hd]at hd1;cases hd1;rw[wV.2 rfl]at g2;cases g2
  .by_cases gu:j=k
   .subst gu;have hd:th[j]?=some d:=hd;have hd1:Dt[j]?=some d1:=hd1;have g2:d=d1:=wV.1 (by simpa using g2)
    rw[hd,hd1,g2]
   .exact hk.2 j (by omega)
 simp only[A8]at g;have eth:th=Dt:=by
  apply Dh;intro j
  by_cases hj:j < k
  .exact hk.2 j hj
  .rw[uD (by omega),uD (by omega)]
 clear g hk;refine⟨⟨0,⟨by omega,λj hj=>by omega⟩,⟨rfl,trivial⟩,rfl⟩,λk hk=>ah.2 ⟨λg=>?_,λg=>?_⟩⟩
 .simp only[dG]at g;refine⟨⟨by omega,by omega⟩,λd hd=>⟨⟨by omega,by omega⟩,λd1 hd1=>⟨(λd hd=>hb d hd) d (gQ hd),ah.2 ⟨λg2=>fF λq=>?_,λg2=>⟨au.2 (by omega),k+1,⟨by omega,λj hj=>?_⟩,⟨rfl,trivial⟩,rfl,by omega⟩⟩⟩⟩⟩
  .have q:bf=Eh:=oW (λz:ZD=>z.2.2.1) q
   subst q;rw[hd]at hd1;cases hd1;rw[jq rfl]at g2;cases g2
  .by_cases gu:j=k
   .subst gu;have hd:bf[j]?=some d:=hd;have hd1:Eh[j]?=some d1:=hd1;have g2:d=d1:=nI.1 (by simpa using g2)
    rw[hd,hd1,g2]
   .exact hk.2 j (by omega)
 simp only[A8]at g;have ebf:bf=Eh:=by
  apply Dh;intro j
  by_cases hj:j < k
  .exact hk.2 j hj
  .rw[uD (by omega),uD (by omega)]
 clear g hk;exact⟨rfl,by rw[jq (by rw[eth,ebf,h3])]⟩
theorem ajc:aN aK.gd 14 JA:=
 bV (cx:=aK) (n:=69) (cl:=[(38,Sz),(37,BX),(39,Jz)]) (rc:=[]) ay ⟨ahn,ahQ,ai6,trivial⟩ Tryz.func14 λd hd=>by
  obtain⟨⟨th,⟨mv,mo,mq,mg,⟨⟩⟩,bf,⟨⟩⟩,⟨Dt,⟨mv2,PO,PS,PU,⟨⟩⟩,Eh,⟨⟩⟩,⟨⟩⟩:=d;exact aI (arh th mv mo mq mg bf Dt mv2 PO PS PU Eh) (aoU th mv mo mq mg bf Dt mv2 PO PS PU Eh hd) (by kernel_rfl)
def noT(th:List TD) (c:Int):Prop:=¬0<=eY (λt=>decide (t.1=c)) th
theorem ajd(h:qU l){t:TD} (ht:t∈l):l[(dX (eY (λx=>decide (x.1=t.1)) l) 0).toNat]?=some t:=by
 have q:0<=eY (λx=>decide (x.1=t.1)) l:=by
  refine Hg.1 λq=>?_
  have:=Ye.1 (nY q) t ht;simp at this
 obtain⟨k,v,q1,q2,q3,q4⟩:=mJ q;have ek:(dX (eY (λx=>decide (x.1=t.1)) l) 0).toNat=k:=by rw[q1];unfold dX;split<;>omega
 have hv:v.1=t.1:=by simpa using Qk q3
 have h1:=MC h ht;have h2:=MC h (gQ q2);rw[hv,h1]at h2;rw[ek,q2,Io h2]
theorem aje{t:TD}{i:ID} (hv:8<=i.1/\i.1<=22):(labS m t i).2.2.1=11->(labS m t i).2.2.2.2.2.2.2.1=0\/(labS m t i).2.2.2.2.2.2.2.1=1:=by
 have key:∀(c:Prop) [Decidable c] (a b:ED),(a.2.2.1=11->a.2.2.2.2.2.2.2.1=0\/a.2.2.2.2.2.2.2.1=1)->(b.2.2.1=11->b.2.2.2.2.2.2.2.1=0\/b.2.2.2.2.2.2.2.1=1)->((if c then a else b).2.2.1=11->(if c then a else b).2.2.2.2.2.2.2.1=0\/(if c then a else b).2.2.2.2.2.2.2.1=1):=by
  intro c _ a b ha hb;split
  .exact ha
  .exact hb
 unfold labS
 repeat' (refine key _ _ _ ?_ ?_)
 all_goals first | (intro h;exfalso;simp at h;done) | (intro _;cases mX m i.2.2.2.2.1<;>simp[AL]) | skip
noncomputable def Yc (e:Int) (fs:List FD) (bound:Int) (th:List TD) (a:ED) (i:ID) (t:TD):List TD:=if a.2.2.1=16 then Tq th (newS e fs bound a.2.2.2.1 i.2.2.2.2.1 (t.2.2.2.1.getD i.2.2.1.toNat 0)).1 else th
noncomputable abbrev ari (vs:List VD) (ms cs:List ByteArray) (fs:List FD) (ts:List SD) (bound:Int) (th:List TD) (mv mo:List Int) (mq:List (List Int)) (mg:List Int) (bf:List BD) (id:Int):Nat->Option (St->iE):=λk=>match k with
 | 23=>some λs=>.cut { α:=List TD,slots:=λ_=>[],can:=[(8,.cell 9 0)],res:=λL=>[(8,.row 56 bD L)],inv:=λL=>L=Yc (aB vs ms cs fs ts).1 fs bound th (sJ shE s 16) (sJ jT s 15) (sJ bD s 14)/\((sJ shE s 16).2.2.1=16->noT th (sJ shE s 16).2.2.2.1),meas:=λ_=>0 }
 | _=>none
theorem aoV(vs:List VD) (ms cs:List ByteArray) (fs:List FD) (ts:List SD) (bound:Int) (th:List TD) (mv mo:List Int) (mq:List (List Int)) (mg:List Int) (bf:List BD) (id:Int) (aA:He.pre ((vs,ms,cs,fs,ts,()),bound,(th,(mv,mo,mq,mg,()),bf,()),id,())):
 let z28:=bnd ((vs,ms,cs,fs,ts,()),());let z32:=aB vs ms cs fs ts;let z33:=(mv,mo,mq,mg,());let z30:=(th,z33,bf,());let z21:=lq vs ms cs fs ts bound z30 id;let z13:=[Dn (z21.fst),Ce (z21.snd.fst),cI (z21.snd.snd)];let z20:=z28/\iO th/\aZ z33;let z25:=sW vs ms cs fs ts th z33 bf;let z27:=eY (λt=>decide (t.fst=id)) th;let z29:=λ(d:TD) (dN:ID)=>labS z33 d dN;let z22:=λ(d:TD) (dN:ID)=>MB z33 (z29 d dN);let z12:=rT z13 kq9;let MN:=λ(d:TD) (dN:ID)=>z28/\(z29 d dN).snd.snd.snd.fst<=9223372036854775807;let Qa:=λ(d:TD) (dN:ID)=>(z29 d dN).snd.snd.fst=16->noT th (z29 d dN).snd.snd.snd.fst;let qR:=λ(v:List TD) (d:TD) (dN:ID)=>v=Yc z32.fst fs bound th (z29 d dN) dN d/\(Qa d dN);let z34:=bP vs ms cs fs ts;let z31:=bZ th mv mo mq mg bf;let z24:=[v6 0,v6 0,v6 0,v6 0,v6 0,v6 0,v6 0,v6 0,v6 0];let kV:=λ(dN:ID)=>[v6 dN.fst,v6 dN.snd.fst,v6 dN.snd.snd.fst,v6 dN.snd.snd.snd.fst,v6 dN.snd.snd.snd.snd.fst,v6 dN.snd.snd.snd.snd.snd.fst,v6 dN.snd.snd.snd.snd.snd.snd.fst,v6 dN.snd.snd.snd.snd.snd.snd.snd.fst];let z8:=λ(d:TD) (dN:ID)=>[v6 ((z29 d dN).fst),v6 ((z29 d dN).snd.fst),v6 ((z29 d dN).snd.snd.fst),v6 ((z29 d dN).snd.snd.snd.fst),v6 ((z29 d dN).snd.snd.snd.snd.fst),v6 ((z29 d dN).snd.snd.snd.snd.snd.fst),v6 ((z29 d dN).snd.snd.snd.snd.snd.snd.fst),v6 ((z29 d dN).snd.snd.snd.snd.snd.snd.snd.fst),v6 ((z29 d dN).snd.snd.snd.snd.snd.snd.snd.snd.fst)];let z11:=λ(d:TD) (dN:ID)=>[SC.sl I6 (z22 d dN).fst.fst,SC.sl I6 (z22 d dN).fst.snd.fst,SC.sl I6.sl (z22 d dN).fst.snd.snd.fst,SC.sl I6 (z22 d dN).fst.snd.snd.snd.fst];let z10:=λ(d:TD) (dN:ID)=>[SC.row 8,SC.sl I6 (z22 d dN).fst.fst,SC.sl I6 (z22 d dN).fst.snd.fst,SC.sl I6.sl (z22 d dN).fst.snd.snd.fst,SC.sl I6 (z22 d dN).fst.snd.snd.snd.fst,SC.sl yQ bf];let z5:=λ(d:TD) (dN:ID) (d_3:Int)=>[g0 z34,g0 z31,g0 (aj.blk 37 oV),g0 (aj.blk 49 z24),g0 (aj.obj 56 bD d),g0 (aj.blk 91 (kV dN)),g0 (aj.blk 49 (z8 d dN)),g0 (aj.blk 34 (z11 d dN)),g0 (aj.row 56 bD (Tq th (newS z32.fst fs bound (z29 d dN).snd.snd.snd.fst dN.snd.snd.snd.snd.fst d_3).fst)),g0 (aj.blk 37 (z10 d dN))];let z6:=λ(d:TD) (dN:ID) (v:List TD)=>[g0 z34,g0 z31,g0 (aj.blk 37 oV),g0 (aj.blk 49 z24),g0 (aj.obj 56 bD d),g0 (aj.blk 91 (kV dN)),g0 (aj.blk 49 (z8 d dN)),g0 (aj.blk 34 (z11 d dN)),g0 (aj.row 56 bD v),g0 (aj.blk 37 (z10 d dN))];let BQ:=λ(d:TD)=>z28/\List.length d.snd.snd.snd.snd.snd.snd.snd.snd.snd.fst<=1000000/\d.fst<=9223372036854775807/\List.length d.snd.snd.snd.fst=8;let z26:=λ(v:List TD)=>eY (λt=>decide (t.fst=id)) v;let z17:=λ(v:List TD)=>0<=dX (z26 v) (0:Int)/\dX (z26 v) 0 < (v.length:Int);let z23:=λ(v:List TD)=>dX (z26 v) (0:Int);let z9:=λ(v:List TD) (d:TD) (dN:ID)=>[Dn (v.set (z23 v).toNat (ig z32.fst ms fs bound d (Me dN (z29 d dN))).fst,((z22 d dN).fst.fst,(z22 d dN).fst.snd.fst,(z22 d dN).fst.snd.snd.fst,(z22 d dN).fst.snd.snd.snd.fst,()),bf,()),Ce (z29 d dN),cI 0];let z7:=λ(v:List TD) (d:TD) (dN:ID)=>rT z13 (z9 v d dN);let z3:=λ(d:TD) (v:List TD) (dN:ID)=>True/\((BQ d)/\v.length<=1000000/\(z17 v)/\(z23 v).toNat < v.length/\(z7 v d dN)/\rT z13 (z9 v d dN))/\(BQ d)/\v.length<=1000000/\(z17 v)/\(z23 v).toNat < v.length/\(z7 v d dN)/\rT z13 (z9 v d dN);let z4:=λ(d:TD) (v:List TD) (dN:ID)=>True/\(BQ d)/\v.length<=1000000/\(z17 v)/\(z23 v).toNat < v.length/\(z7 v d dN)/\rT z13 (z9 v d dN);let z1:=λ(d:TD) (v:List TD) (dN:ID)=>((z3 d v dN)/\True/\(BQ d)/\v.length<=1000000/\(z17 v)/\(z23 v).toNat < v.length/\(z7 v d dN)/\rT z13 (z9 v d dN))/\(z3 d v dN)/\(z4 d v dN)/\True/\(BQ d)/\v.length<=1000000/\(z17 v)/\(z23 v).toNat < v.length/\(z7 v d dN)/\rT z13 (z9 v d dN);let z2:=λ(d:TD) (v:List TD) (dN:ID)=>(z4 d v dN)/\True/\(BQ d)/\v.length<=1000000/\(z17 v)/\(z23 v).toNat < v.length/\(z7 v d dN)/\rT z13 (z9 v d dN);z28 /\
 br (!decide (bQ z32.fst bound=0)) (rT z13 [Dn ([],([],[],[],[],()),[],()),Ce (0,0,0,0,0,0,0,0,0,()),cI (bQ z32.fst bound)])
  (z20 /\
   br (!vsB vs ms cs fs ts bound th z33 bf) (rT z13 [Dn ([],([],[],[],[],()),[],()),Ce (0,0,0,0,0,0,0,0,0,()),cI 1])
    (z20 /\
     z25.length<=1000000 /\
      br (!dM z25 id) (rT z13 [Dn ([],([],[],[],[],()),[],()),Ce (0,0,0,0,0,0,0,0,0,()),cI 19])
       (th.length<=1000000 /\
        (0<=dX z27 (0:Int)/\dX z27 0 < (th.length:Int)) /\
         ∀(d:TD),
           th[(dX z27 (0:Int)).toNat]?=some d ->
             (0<=d.snd.fst/\d.snd.fst < (fs.length:Int)) /\
              ∀(dH:FD),
                fs[Int.toNat d.snd.fst]?=some dH ->
                  (0<=d.snd.snd.fst/\d.snd.snd.fst < ((List.length dH.snd.fst):Int)) /\
                   ∀(dN:ID),
                     dH.snd.fst[Int.toNat d.snd.snd.fst]?=some dN ->
                      kQ z33 d dN /\
                       (nZ z33=true/\((z29 d dN).snd.snd.fst=11->(z29 d dN).snd.snd.snd.snd.snd.snd.snd.fst=0\/(z29 d dN).snd.snd.snd.snd.snd.snd.snd.fst=1)) /\
                        br (!decide ((z22 d dN).snd=0)) z12
                         (LY z30 /\
                          br (decide ((z29 d dN).snd.snd.fst=16)) (th.length<=1000000/\br (decide (0<=eY (λt=>decide (t.fst=((z29 d dN).snd.snd.snd.fst))) th)) z12 ((0<=dN.snd.snd.fst/\dN.snd.snd.fst < 8)/\Int.toNat dN.snd.snd.fst < 8/\∀(d_3:Int),d.2.2.2.fst[Int.toNat dN.snd.snd.fst]?=some d_3->((MN d dN)/\th.length<=999999/\∃v,(qR v d dN)/\True/\(z5 d dN d_3)=(z6 d dN v))/\(MN d dN)/\th.length<=999999/\∃v,(qR v d dN)/\True/\(z5 d dN d_3)=(z6 d dN v))) (∃v,(qR v d dN)/\True/\[g0 z34,g0 z31,g0 (aj.blk 37 oV),g0 (aj.blk 49 z24),g0 (aj.obj 56 bD d),g0 (aj.blk 91 (kV dN)),g0 (aj.blk 49 (z8 d dN)),g0 (aj.blk 34 (z11 d dN)),g0 (aj.row 56 bD th),g0 (aj.blk 37 (z10 d dN))]=(z6 d dN v)) /\
                           ∀(v:List TD),
                             v=Yc z32.fst fs bound th (z29 d dN) dN d/\(Qa d dN) ->
                               (z1 d v dN) /\
                                (z1 d v dN) /\
                                 (z3 d v dN)/\(z2 d v dN)/\(z2 d v dN)/\True/\(BQ d)/\v.length<=1000000/\(z17 v)/\(z23 v).toNat < v.length/\(z7 v d dN)/\rT z13 (z9 v d dN))))):=by
 conv=>zeta
 delta oV iN;obtain⟨hb,hT,hn,hm,hB⟩:bnd ((vs,ms,cs,fs,ts,()),())/\iO th/\th.length<=999999/\nZ (mv,mo,mq,mg,())=true/\AO bf:=aA;have hM:=nJ hm;have hS:=@En vs ms cs fs ts bound id (th,(mv,mo,mq,mg,()),bf,());have hle:(sW vs ms cs fs ts th (mv,mo,mq,mg,()) bf).length<=1000000:=by
  unfold sW;split
  .unfold sV;rw[Yf];exact oh (X6 _ _) hT.1
  .simp
 refine⟨hb,ah.2 ⟨λh=>kR ?_,λh=>⟨⟨hb,hT,hM⟩,ah.2 ⟨λh1=>kR ?_,λh1=>⟨⟨hb,hT,hM⟩,hle,ah.2 ⟨λh2=>kR ?_,λh2=>?_⟩⟩⟩⟩⟩⟩
 .have h:bQ (aB vs ms cs fs ts).1 bound≠0:=by simpa using h
  unfold lq;rw[if_pos h];rfl
 .have h:bQ (aB vs ms cs fs ts).1 bound=0:=by simpa using h
  have h1:vsB vs ms cs fs ts bound th (mv,mo,mq,mg,()) bf=false:=by simpa using h1
  unfold lq;rw[if_neg (by omega),if_pos h1];rfl
 all_goals have h:bQ (aB vs ms cs fs ts).1 bound=0:=by simpa using h
 all_goals have h1:vsB vs ms cs fs ts bound th (mv,mo,mq,mg,()) bf=true:=by simpa using h1
 all_goals have hV:=jR.1 h1
 all_goals have hE:=aja (id:=id) (ai9 h hV)
 .have h2:dM (sW vs ms cs fs ts th (mv,mo,mq,mg,()) bf) id=false:=by simpa using h2
  cases hr:jv (aB vs ms cs fs ts).1 ms fs th id with | mk T x=>?_
  obtain⟨I,ok⟩:=x;rw[hr]at hE;rw[hS h h1 hr,if_pos (by rw[TJ];intro q;rw[hE.2 q]at h2;cases h2)];rfl
 have h2:dM (sW vs ms cs fs ts th (mv,mo,mq,mg,()) bf) id=true:=by simpa using h2
 cases hr:jv (aB vs ms cs fs ts).1 ms fs th id with | mk T x=>?_
 obtain⟨I,ok⟩:=x;rw[hr]at hE;have hE:=hE.1 h2;have hS:=hS h h1 hr;dsimp only at hS;rw[if_neg (by intro q;rw[q]at hE;cases hE)]at hS
 simp only[cZ]at hE;obtain⟨ok1,en1⟩:=hE;have ok1:ok=true:=ok1;subst ok1;obtain⟨jZ,hid,hlab,hat,hsu,hvl⟩:=L8 hV hM hT hr;have htB:=hT.2 T jZ;have hbf:bf=[]:=hV.2.1;subst hbf;have hpos:=ajd hV.2.2.2 jZ;have hpr:=XV (l:=th) ⟨T,jZ,rfl⟩;rw[hid]at hpos hpr;refine⟨hT.1,hpr.1,λd hd=>?_⟩
 rw[hpos]at hd;cases hd;obtain⟨g1,g2⟩:=adQ hvl hat;refine⟨g1,λd1 hd1=>?_⟩
 obtain⟨g3,g4⟩:=g2 d1 hd1;refine⟨g3,λd2 hd2=>?_⟩
 obtain rfl:=g4 d2 hd2;refine⟨hlab,⟨hm,aje hlab.2.2.2.1⟩,ah.2 ⟨λh3=>kR ?_,λh3=>⟨⟨hT,hM,hB⟩,?_⟩⟩⟩
 .have h3:(jJ (mv,mo,mq,mg,()) (labS (mv,mo,mq,mg,()) T d2)).2≠0:=by
   intro q;rw[<-JD]at q;rw[q]at h3;cases h3
  rw[hS,if_pos h3];rfl
 have h3:(jJ (mv,mo,mq,mg,()) (labS (mv,mo,mq,mg,()) T d2)).2=0:=JD.1 (by simpa using h3)
 rw[if_neg (by omega)]at hS
 have hun:(labS (mv,mo,mq,mg,()) T d2).2.2.1=16->(labS (mv,mo,mq,mg,()) T d2).2.2.2.1<=9223372036854775807:=by
  intro g;have hi:=(Ej hlab.2.2.2.1).1 g;obtain⟨_,_,_,_,c5,_,c6,_⟩:=GK (Cm h hvl hsu hat hi htB.2.2).1;rw[Em hi];omega
 refine⟨ah.2 ⟨λh4=>⟨hT.1,ah.2 ⟨λh5=>kR ?_,λh5=>⟨hlab.2.1,by have:=hlab.2.1;omega,λd3 hd3=>?_⟩⟩⟩,λh4=>?_⟩,λv hv=>?_⟩
 .rw[hS,if_pos ⟨MI h4,MI h5⟩];rfl
 .have h4:=MI h4;have h5:=A86 h5;have es:Yc (aB vs ms cs fs ts).1 fs bound th (labS (mv,mo,mq,mg,()) T d2) d2 T=Tq th (newS (aB vs ms cs fs ts).1 fs bound (labS (mv,mo,mq,mg,()) T d2).2.2.2.1 d2.2.2.2.2.1 d3).1:=by
   unfold Yc;rw[if_pos h4,Tv hd3]
  have hb2:=hun h4
  repeat' (first | exact hb | exact hb2 | exact hn | exact⟨_,⟨rfl,λ_=>h5⟩,trivial,by rw[es]⟩ | (refine And.intro ?_ ?_))
 .have h4:=A86 h4;have es:Yc (aB vs ms cs fs ts).1 fs bound th (labS (mv,mo,mq,mg,()) T d2) d2 T=th:=by
   unfold Yc;rw[if_neg h4]
  exact⟨_,⟨rfl,λq=>absurd q h4⟩,trivial,by rw[es]⟩
 obtain⟨rfl,h5⟩:=hv;have ev:Yc (aB vs ms cs fs ts).1 fs bound th (labS (mv,mo,mq,mg,()) T d2) d2 T=if(labS (mv,mo,mq,mg,()) T d2).2.2.1=16 then insL th (labS (mv,mo,mq,mg,()) T d2).2.2.2.1 (newS (aB vs ms cs fs ts).1 fs bound (labS (mv,mo,mq,mg,()) T d2).2.2.2.1 d2.2.2.2.2.1 (T.2.2.2.1.getD d2.2.2.1.toNat 0)).1 else th:=by
  unfold Yc;split
  .rename_i g;have hi:=(Ej hlab.2.2.2.1).1 g;have s2:=(Cm h hvl hsu hat hi htB.2.2).2;rw[<-Em (m:=(mv,mo,mq,mg,())) hi]at s2;refine ins_eq (Md s2) hV.2.2.2 λt ht q=>h5 g ?_
   have:=(XV (l:=th) ⟨t,ht,q⟩);refine Hg.1 λq2=>?_
   have:=Ye.1 (nY q2) t ht;simp[q]at this
  .rfl
 rw[if_neg (λp=>h5 p.1 p.2),<-ev]at hS
 have hlen:(Yc (aB vs ms cs fs ts).1 fs bound th (labS (mv,mo,mq,mg,()) T d2) d2 T).length<=1000000:=by
  rw[ev];split
  .rw[G9];omega
  .omega
 have hin:T∈Yc (aB vs ms cs fs ts).1 fs bound th (labS (mv,mo,mq,mg,()) T d2) d2 T:=by
  rw[ev];split
  .exact G8 jZ
  .exact jZ
 generalize Yc (aB vs ms cs fs ts).1 fs bound th (labS (mv,mo,mq,mg,()) T d2) d2 T=v at hS hlen hin;have hp:=XV (l:=v) (id:=id) ⟨T,hin,hid⟩;have fin:=kR hS;rw[<-aoS hlab.2.2.2.1,<-ai8 h3]at fin
 repeat' (first | exact hb | exact htB.1 | exact htB.2.1 | exact htB.2.2 | exact hlen | exact hp.1 | exact hp.2 | exact trivial | exact fin | (refine And.intro ?_ ?_))
theorem ajf:aN cxR.gd 22 He:=
 bV (cx:=cxR) (n:=149) (cl:=[(26,uN),(28,LV),(20,Cj),(53,vZ),(43,xM),(44,G6),(54,adZ),(25,Jy),(36,SL),(55,ad1),(57,aj9),(56,SN)]) (rc:=[.data LQ,.keep,.keep]) ay ⟨aiv,VH,ai1,V3,VE,aiY,ai4,ajb,ahF,ai5,ai0,ahG,trivial⟩ Tryz.func22 λd hd=>by
  obtain⟨⟨vs,ms,cs,fs,ts,⟨⟩⟩,bound,⟨th,⟨mv,mo,mq,mg,⟨⟩⟩,bf,⟨⟩⟩,id,⟨⟩⟩:=d;exact aI (ari vs ms cs fs ts bound th mv mo mq mg bf id) (aoV vs ms cs fs ts bound th mv mo mq mg bf id hd) (by kernel_rfl)
abbrev asI(a b:ED):Bool:=true && a.1 == b.1 && a.2.1 == b.2.1 && a.2.2.1 == b.2.2.1 && a.2.2.2.1 == b.2.2.2.1 && a.2.2.2.2.1 == b.2.2.2.2.1 && a.2.2.2.2.2.1 == b.2.2.2.2.2.1 && a.2.2.2.2.2.2.1 == b.2.2.2.2.2.2.1 && a.2.2.2.2.2.2.2.1 == b.2.2.2.2.2.2.2.1 && a.2.2.2.2.2.2.2.2.1 == b.2.2.2.2.2.2.2.2.1
def tyT(l:List TD):Prop:=∀t∈l,t.1<=9223372036854775807/\t.2.2.2.1.length=8
theorem ajg{th:List TD}{bf:List BD} (h:TG (th,m,bf,())=true) (ht:tyT th):iO th/\th.length<=20/\nZ m=true/\AO bf:=by
 unfold TG at h;simp only[cZ,dG,P7]at h;obtain⟨⟨⟨⟨⟨⟨⟨⟨h1,h2⟩,h3⟩,h4⟩,h5⟩,h6⟩,h7⟩,h8⟩,h9⟩:=h;refine⟨⟨by omega,λt q=>⟨by have:=h7 t q;omega,(ht t q).1,(ht t q).2⟩⟩,h1,?_,by omega,λb q=>by have:=h8 b q;omega⟩
 unfold nZ;simp only[cZ,dG,P7];exact⟨⟨⟨⟨h3,h4⟩,h5⟩,by omega⟩,λq hq=>by have:=h9 q hq;omega⟩
theorem aoW:LY zZ:=⟨⟨by decide,λt ht=>nomatch ht⟩,nJ (m:=zM) rfl,by decide,λb hb=>nomatch hb⟩
theorem ajh{bound:Int}{z:ZD} (h:(lq vs ms cs fs ts bound z id).2.2≠0):(lq vs ms cs fs ts bound z id).1=zZ:=by
 unfold lq at h ⊢
 split at h
 .rename_i q;rw[if_pos q]
 .rename_i q;rw[if_neg q];split at h
  .rename_i q;rw[if_pos q]
  .rename_i q;rw[if_neg q];generalize jv (aB vs ms cs fs ts).1 ms fs z.1 id=R at h ⊢
   obtain⟨t,i,ok⟩:=R;simp only at h ⊢
   split at h
   .rename_i q;rw[if_pos q]
   .rename_i q;rw[if_neg q];split at h
    .rename_i q;rw[if_pos q]
    .rename_i q;rw[if_neg q];split at h
     .rename_i q;rw[if_pos q]
     .exact absurd rfl h
theorem aji{bound:Int}{z:ZD} (h:(lq vs ms cs fs ts bound z id).2.2=0):(lq vs ms cs fs ts bound z id).1.1.length<=z.1.length+1/\∃e,(lq vs ms cs fs ts bound z id).1.2.1=(jJ z.2.1 e).1:=by
 obtain⟨hs,hV,t,i,hr,he,hf,hd,e⟩:=JC h;rw[e];refine⟨?_,_,rfl⟩;show(stT _ _ _).length<=_;unfold stT;rw[xg];split
 .rw[G9];omega
 .omega
theorem ajj{bound:Int}{z:ZD} (ht:iO z.1) (hl:z.1.length<=999999) (hm:nZ z.2.1=true):LY (lq vs ms cs fs ts bound z id).1:=by
 by_cases q:(lq vs ms cs fs ts bound z id).2.2=0
 .obtain⟨hV,h8⟩:=adL q (λt h=>(ht.2 t h).2.2) hl (nJ hm)
  obtain⟨h1,e,h2⟩:=aji q;refine⟨TF hV h8 (by omega),by rw[h2];exact VQ hm e,?_⟩
  rw[hV.2.1];exact⟨by decide,λb hb=>nomatch hb⟩
 .rw[ajh q];exact aoW
abbrev arj:CT:={ ps:=[.pair oQ (.pair (.int .i64) (.pair (.int .i64) (.pair LQ .unit)))],pre:=λd=>tyT d.1.2.2.2.1.1,res:=λd=>([],vB (true)) }
theorem ark(vs:List VD) (ms cs:List ByteArray) (fs:List FD) (ts:List SD) (bound ag:Int) (th:List TD) (mv mo:List Int) (mq:List (List Int)) (mg:List Int) (bf:List BD) (aA:arj.pre (((vs,ms,cs,fs,ts,()),bound,ag,(th,(mv,mo,mq,mg,()),bf,()),()),())):
 let z5:=(th,(mv,mo,mq,mg,()),bf,());let z3:=(bnd ((vs,ms,cs,fs,ts,()),()))/\iO th/\th.length<=999999/\nZ (mv,mo,mq,mg,())=true/\AO bf;let z4:=lq vs ms cs fs ts bound z5 ag;let z2:=z4.snd.snd=z4.snd.snd;let z1:=asI z4.snd.fst z4.snd.fst;True/\((!!XJ vs ms cs fs ts)=true->True)/\br (!XJ vs ms cs fs ts || !TG z5) (True/\qB true true) (z3/\z3/\((decide z2 && z1)=true->LY z4.fst)/\((decide z2 && z1 && mZ z4.fst z4.fst)=true->True)/\qB true (decide z2 && z1 && mZ z4.fst z4.fst && true)):=by
 conv=>zeta
 refine⟨trivial,λ_=>trivial,ah.2 ⟨λ_=>⟨trivial,rfl,rfl⟩,λh=>?_⟩⟩
 simp only[lM,uP]at h;obtain⟨h,h2⟩:=h;have hb:=XK h;obtain⟨b1,b2,b3,b4⟩:=ajg h2 aA;have b2:th.length<=999999:=by omega
 refine⟨⟨hb,b1,b2,b3,b4⟩,⟨hb,b1,b2,b3,b4⟩,λ_=>ajj b1 b2 b3,λ_=>trivial,jS ?_⟩
 rw[jq rfl];simp
theorem aoX:aN aK.gd 5 arj:=
 bV (cx:=aK) (n:=62) (cl:=[(10,aqr),(15,akb),(11,adP),(21,He),(22,He),(14,JA)]) (rc:=[]) ay ⟨agP,ai7,aiV,VT,ajf,ajc,trivial⟩ Tryz.func5 λd hd=>by
  obtain⟨⟨⟨vs,ms,cs,fs,ts,⟨⟩⟩,bound,ag,⟨th,⟨mv,mo,mq,mg,⟨⟩⟩,bf,⟨⟩⟩,⟨⟩⟩,⟨⟩⟩:=d;exact aI (λ_=>none) (ark vs ms cs fs ts bound ag th mv mo mq mg bf hd) (by kernel_rfl)
open Go Go.jw Go.ChangeShapes Go.WideShapes Go.ChangeAt Go.RowKit
theorem own:ownKnob Tryz.prog.godebug=none:=by kernel_rfl
theorem laidOut:laidOutB Tryz.prog=true:=by kernel_rfl
theorem rowed:mapsRowed Tryz.prog=true:=by kernel_rfl
theorem full:∀t e,t < Tryz.prog.types.size->Tryz.prog.underlying t=some (.slice e)->0 < Tryz.prog.cellsOf e:=slices_full_of _ (by kernel_rfl)
theorem aoY:Tryz.prog.globalNamed "modelcheck/inst.rows"=some 1:=by kernel_rfl
theorem aoZ:(Tryz.prog.globals[1]?).map (·.type)=some 183:=by kernel_rfl
theorem arl:(tu Tryz.prog (.arr 22 (.pair .str (.pair (.arr 7 .bool) .unit)))).1 183=true:=by kernel_rfl
theorem ao0:Tryz.prog.globalNamed "modelcheck/value.names"=some 2:=by kernel_rfl
theorem ao1:(Tryz.prog.globals[2]?).map (·.type)=some 214:=by kernel_rfl
theorem arn:(tu Tryz.prog (.arr 10 .str)).1 214=true:=by kernel_rfl
noncomputable def laidWorld (os:Os):World:=
 { World.holding Tryz.prog os ⟨#[],#[],[]⟩with heap:=(((World.holding Tryz.prog os ⟨#[],#[],[]⟩).heap).modify 1 (lay #[.string ⟨#[99,111,110,115,116]⟩,.bool true,.bool false,.bool false,.bool false,.bool true,.bool false,.bool false,.string ⟨#[99,111,112,121]⟩,.bool true,.bool true,.bool false,.bool false,.bool false,.bool false,.bool false,.string ⟨#[99,97,108,99]⟩,.bool true,.bool true,.bool true,.bool false,.bool false,.bool true,.bool false,.string ⟨#[106,117,109,112]⟩,.bool false,.bool false,.bool false,.bool false,.bool true,.bool false,.bool false,.string ⟨#[98,114,97,110,99,104]⟩,.bool false,.bool true,.bool false,.bool false,.bool true,.bool false,.bool false,.string ⟨#[97,115,115,101,114,116]⟩,.bool false,.bool true,.bool false,.bool false,.bool false,.bool false,.bool false,.string ⟨#[115,116,111,112]⟩,.bool false,.bool false,.bool false,.bool false,.bool false,.bool false,.bool false,.string ⟨#[108,111,97,100]⟩,.bool true,.bool false,.bool false,.bool true,.bool false,.bool false,.bool true,.string ⟨#[115,116,111,114,101]⟩,.bool false,.bool true,.bool false,.bool true,.bool false,.bool false,.bool true,.string ⟨#[115,119,97,112]⟩,.bool true,.bool true,.bool false,.bool true,.bool false,.bool false,.bool true,.string ⟨#[102,101,116,99,104,97,100,100]⟩,.bool true,.bool true,.bool false,.bool true,.bool false,.bool false,.bool true,.string ⟨#[99,97,115]⟩,.bool true,.bool true,.bool true,.bool true,.bool false,.bool false,.bool true,.string ⟨#[102,101,110,99,101]⟩,.bool false,.bool false,.bool false,.bool false,.bool false,.bool false,.bool false,.string ⟨#[97,119,97,105,116]⟩,.bool true,.bool true,.bool false,.bool true,.bool false,.bool true,.bool true,.string ⟨#[108,111,99,107]⟩,.bool false,.bool false,.bool false,.bool true,.bool false,.bool false,.bool false,.string ⟨#[117,110,108,111,99,107]⟩,.bool false,.bool false,.bool false,.bool true,.bool false,.bool false,.bool false,.string ⟨#[116,114,121,108,111,99,107]⟩,.bool true,.bool false,.bool false,.bool true,.bool false,.bool false,.bool false,.string ⟨#[119,97,105,116]⟩,.bool false,.bool false,.bool false,.bool true,.bool true,.bool false,.bool false,.string ⟨#[115,105,103,110,97,108]⟩,.bool false,.bool false,.bool false,.bool true,.bool false,.bool false,.bool false,.string ⟨#[98,114,111,97,100,99,97,115,116]⟩,.bool false,.bool false,.bool false,.bool true,.bool false,.bool false,.bool false,.string ⟨#[115,112,97,119,110]⟩,.bool true,.bool true,.bool false,.bool true,.bool false,.bool false,.bool false,.string ⟨#[106,111,105,110]⟩,.bool false,.bool true,.bool false,.bool false,.bool false,.bool false,.bool false])).modify 2 (lay #[.string ⟨#[97,100,100]⟩,.string ⟨#[115,117,98]⟩,.string ⟨#[109,117,108]⟩,.string ⟨#[97,110,100]⟩,.string ⟨#[111,114]⟩,.string ⟨#[120,111,114]⟩,.string ⟨#[101,113]⟩,.string ⟨#[110,101]⟩,.string ⟨#[108,116]⟩,.string ⟨#[108,101]⟩]) }
theorem ao2{n:Int} (h:(Lit.int .i64 n).wf=true):-9223372036854775808<=n/\n<=9223372036854775807:=by
 simp[Lit.wf,IntKind.min,IntKind.max,IntKind.signed,IntKind.bits]at h;omega
namespace machineStepsL
theorem globs{W:World} (hL:laidMetH Tryz.prog Rows.machineStepsRow.laid W):aP gd0 (FH.all W):=by
 intro g p hp;unfold gd0 at hp;split at hp
 .cases hp;exact I7 hL (by kernel_rfl) (n:= "modelcheck/inst.rows") (D:=Rows.laid_modelcheck_inst_rows) (by simp[Rows.machineStepsRow]) aoY aoZ arl (by kernel_rfl)
 .cases hp;exact I7 hL (by kernel_rfl) (n:= "modelcheck/value.names") (D:=Rows.laid_modelcheck_value_names) (by simp[Rows.machineStepsRow]) ao0 ao1 arn (by kernel_rfl)
 .cases hp
theorem laid_met(os:Os):laidMet Tryz.prog Rows.machineStepsRow.laid ((laidWorld os).forCall (λ_ _=>0) ⟨#[],#[.agg #[.slice none 0 0,.slice none 0 0,.slice none 0 0,.slice none 0 0,.slice none 0 0,.int .i64 0,.int .i64 0,.slice none 0 0,.slice none 0 0,.slice none 0 0,.slice none 0 0,.slice none 0 0,.slice none 0 0]],[]⟩).memory:=
 laidMet_of_run' 20 (by kernel_rfl) (by kernel_rfl)
theorem reads(os:Os){H:Type} (enc:TypeId×Value->H):∃places,DataW.whole enc Tryz.prog ((laidWorld os).forCall (λ_ _=>0) ⟨#[],#[.agg #[.slice none 0 0,.slice none 0 0,.slice none 0 0,.slice none 0 0,.slice none 0 0,.int .i64 0,.int .i64 0,.slice none 0 0,.slice none 0 0,.slice none 0 0,.slice none 0 0,.slice none 0 0,.slice none 0 0]],[]⟩).memory Tryz.f5.params.toList Rows.machineStepsSpec.vars false (#[.agg #[.slice none 0 0,.slice none 0 0,.slice none 0 0,.slice none 0 0,.slice none 0 0,.int .i64 0,.int .i64 0,.slice none 0 0,.slice none 0 0,.slice none 0 0,.slice none 0 0,.slice none 0 0,.slice none 0 0]]:Array Value).toList 20=some ([.agg [.agg [.nil,.nil,.nil,.nil,.nil],.lit (.int .i64 0),.lit (.int .i64 0),.agg [.nil,.agg [.nil,.nil,.nil,.nil],.nil]]],[],places):=
 ⟨[],by kernel_rfl⟩
theorem lifted(os:Os) (started:os.Started) (H:Type) (enc:TypeId×Value->H) (F:Stop.Interp):
 ReturnsInHanded {} Tryz.checked os 5 .any ((OpenSpec.ofChange Rows.machineStepsSpec).preRow enc Tryz.prog Tryz.f5 Rows.machineStepsRow.domain false Rows.machineStepsRow.laid) (((OpenSpec.ofChange Rows.machineStepsSpec).at F).post enc Tryz.prog Tryz.f5 false true false false):=by
 obtain⟨places,hx⟩:=reads os enc;refine returnsInHanded_of_row (C:=Tryz.checked) (s:=OpenSpec.ofChange Rows.machineStepsSpec) own started (by kernel_rfl) Tryz.func5
  (witness_row_at (enc:=enc) (C:=Tryz.checked) false (laidWorld os) #[.agg #[.slice none 0 0,.slice none 0 0,.slice none 0 0,.slice none 0 0,.slice none 0 0,.int .i64 0,.int .i64 0,.slice none 0 0,.slice none 0 0,.slice none 0 0,.slice none 0 0,.slice none 0 0,.slice none 0 0]] rfl (by kernel_rfl) (by kernel_rfl) (by kernel_rfl)
   (OpenSpec.preRow_of_cond 20 hx (by kernel_rfl) (λk hk=>by cases hk) (by kernel_rfl) (laid_met os))) ?_
 intro W base args ds gs before hval hW _ hcond hwt hL _ _;refine XB (fn:=Tryz.f5) aoX laidOut rowed full (by decide +kernel) (t:=4) (by kernel_rfl) (by kernel_rfl) rfl (by kernel_rfl) (λ_=>rfl) (λd hd hwf=>?_) hval hW (globs hL)
 match ds,I4 hd with
 | [d0],_=>exact⟨rfl,by exact λt ht=>⟨(ao2 (hwf.1.2.2.2.1.1.2 t ht).1).2,(hwf.1.2.2.2.1.1.2 t ht).2.2.2.1.1⟩⟩
theorem said:Rows.MachineStepsSaid:=
 OpenClaim.holds_of_cond 5 Tryz.f5 rfl rfl rfl rfl rfl rfl rfl ⟨rfl,rfl,rfl,rfl,rfl⟩ rfl rfl rfl rfl rfl (by kernel_rfl) Tryz.func5 jf5
  (MI (by kernel_rfl)) (by unfold Func.isWrapper;first | (rw[if_pos (by decide +kernel)];kernel_rfl) | (rw[if_neg (by decide +kernel)];exact⟨rfl,rfl⟩))
  (λos started H enc _ F=>by rw[OpenClaim.pre_eq_preRow];exact lifted os started H enc F)
theorem plain(f:FuncId) (fn:Func) (hf:Tryz.pinned.checked.prog.funcNamed "modelcheck/modelchecklaw23.MachineSteps"=some f) (hfn:Tryz.pinned.checked.prog.funcs[f]?=some fn):
 false=Tryz.pinned.checked.prog.looks []/\∀(j:Nat) t,fn.params[j]?=some t->Tryz.pinned.checked.prog.wantsStandIn t=false:=by
 obtain rfl:f=5:=Io ((show Tryz.prog.funcNamed "modelcheck/modelchecklaw23.MachineSteps"=some 5 by kernel_rfl).symm.trans hf) |>.symm
 obtain rfl:fn=Tryz.f5:=(Io (Tryz.func5.symm.trans hfn)).symm;refine⟨by kernel_rfl,λj t ht=>?_⟩
 have hm:t∈Tryz.f5.params.toList:=gQ (by simpa using ht)
 have key:∀t∈Tryz.f5.params.toList,Tryz.prog.wantsStandIn t=false:=by decide +kernel
 exact key t hm
theorem card:Rows.MachineStepsCardSaid:=
 Claim7.holds_tied_plain_at .later [] _ _ _ _ said (λ_ h=>by cases h) (by kernel_rfl) (λ_ h=>by cases h) machineSteps_row_tie rfl ⟨rfl,rfl⟩ (by kernel_rfl) rfl plain (by kernel_rfl)
end machineStepsL
end Go.Proofs.YtjhenjhcbcalpaaGreatDoor
