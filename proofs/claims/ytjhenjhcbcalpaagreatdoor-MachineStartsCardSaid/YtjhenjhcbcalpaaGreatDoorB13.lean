/- Texts of this claim, part 13: X6, Y11, Y12, L1. Conditions: those of the given rows. -/
import Derived.Test.YtjhenjhcbcalpaaGreatDoorB12
import Derived.Test.YtjhenjhcbcalpaaGreatDoorCards
import Derived.Test.YtjhenjhcbcalpaaGreatDoorTie
import Derived.WalkKit
import Derived.ProofKit
import Derived.OpenShut
import Derived.Deep.DeepHandedRow
import Derived.Lib.LaidTab
set_option linter.unusedSimpArgs false
set_option linter.unusedVariables false
set_option maxRecDepth 1000000
set_option maxHeartbeats 8000000
namespace Go.Proofs.YtjhenjhcbcalpaaGreatDoor
open Go Go.aV
@[reducible] noncomputable def ar2 (th:List TD) (mv mo:List Int) (mq:List (List Int)) (mg:List Int) (bf:List BD) (C9:List TD) (mv2 Po:List Int) (Pq:List (List Int)) (Pv:List Int) (D6:List BD):Nat→Option (St→iC):=λk=>match k with
  | 4=>some λ_=>.inv { α:=Nat,slots:=λk=>[(5,.c (.v (.int .i64 k)))],res:=λ_=>[],inv:=λk=>k≤th.length∧∀j < k,th[j]?=C9[j]?,meas:=λk=>th.length - k }
  | 9=>some λ_=>.inv { α:=Nat,slots:=λk=>[(6,.c (.v (.int .i64 k)))],res:=λ_=>[],inv:=λk=>k≤bf.length∧∀j < k,bf[j]?=D6[j]?,meas:=λk=>bf.length - k }
  | _=>none
theorem apj(th:List TD) (mv mo:List Int) (mq:List (List Int)) (mg:List Int) (bf:List BD) (C9:List TD) (mv2 Po:List Int) (Pq:List (List Int)) (Pv:List Int) (D6:List BD) (aA:Jp.pre ((th,(mv,mo,mq,mg,()),bf,()),(C9,(mv2,Po,Pq,Pv,()),D6,()),())):
 let z6:=(↑th.length:Int)=(↑C9.length:Int);let z7:=(↑bf.length:Int)=(↑D6.length:Int);let z9:=(mv,mo,mq,mg,());let z3:=mJ (th,z9,bf,()) (C9,(mv2,Po,Pq,Pv,()),D6,());let z2:=qB z3 false;let z4:=λ(x:Nat)=>(x≤th.length∧∀(j:Nat),j < x→th[j]?=C9[j]?);let z1:=[g0 (bZ th mv mo mq mg bf),g0 (aj.blk 37 [SC.sl dQ C9,SC.sl I6 mv2,SC.sl I6 Po,SC.sl I6.sl Pq,SC.sl I6 Pv,SC.sl yH D6])];let z8:=λ(x:Nat)=>(↑x:Int)+(1:Int);let z5:=λ(x:Nat)=>(x≤bf.length∧∀(j:Nat),j < x→bf[j]?=D6[j]?);((!(!decide z6 || !decide z7))=true→aZ z9)∧br (!decide z6 || !decide z7 || !decide (z9=(mv2,Po,Pq,Pv,()))) z2 ((∃x,(z4 x)∧(cI 0=cI (↑x:Int)∧True)∧sm z1)∧∀(x:Nat),(z4 x)→br (decide ((↑x:Int) < (↑th.length:Int))) ((0≤(↑x:Int)∧(↑x:Int) < (↑th.length:Int))∧∀(d:TD),th[(↑x:Int).toNat]?=some d→(0≤(↑x:Int)∧(↑x:Int) < (↑C9.length:Int))∧∀(dH:TD),C9[(↑x:Int).toNat]?=some dH→List.length d.snd.snd.snd.snd.snd.snd.snd.snd.snd.fst≤1000000∧br (!CG d dH) z2 (cZ IntKind.i64 (z8 x)∧∃x',(z4 x')∧(cI (z8 x)=cI (↑x':Int)∧True)∧sm z1∧th.length - x' < th.length - x)) ((∃x,(z5 x)∧(cI 0=cI (↑x:Int)∧True)∧sm z1)∧∀(x:Nat),(z5 x)→br (decide ((↑x:Int) < (↑bf.length:Int))) ((0≤(↑x:Int)∧(↑x:Int) < (↑bf.length:Int))∧∀(d:BD),bf[(↑x:Int).toNat]?=some d→(0≤(↑x:Int)∧(↑x:Int) < (↑D6.length:Int))∧∀(dH:BD),D6[(↑x:Int).toNat]?=some dH→List.length d.snd.snd.fst≤1000000∧br (!mJ d dH) z2 (cZ IntKind.i64 (z8 x)∧∃x',(z5 x')∧(cI (z8 x)=cI (↑x':Int)∧True)∧sm z1∧bf.length - x' < bf.length - x)) (qB z3 true))):=by
 conv=>zeta
 obtain⟨⟨hl,hT⟩,hM,hB,hb⟩:iK th∧aZ (mv,mo,mq,mg,())∧Am bf:=aA;have fF:((th,(mv,mo,mq,mg,()),bf,()):ZD)≠(C9,(mv2,Po,Pq,Pv,()),D6,())→qB (mJ ((th,(mv,mo,mq,mg,()),bf,()):ZD) (C9,(mv2,Po,Pq,Pv,()),D6,())) false:=λq=>⟨rfl,by rw[lC q]⟩
 refine⟨λ_=>hM,ah.2 ⟨λh=>fF λq=>?_,λh=>?_⟩⟩
 ·have q1:th=C9:=Ec (λz:ZD=>z.1) q
  have q2:((mv,mo,mq,mg,()):MD)=(mv2,Po,Pq,Pv,()):=Ec (λz:ZD=>z.2.1) q
  have q3:bf=D6:=Ec (λz:ZD=>z.2.2.1) q
  subst q1;subst q3;rw[L6 q2]at h;simp at h
 simp only[qH,yI,dG]at h;obtain⟨⟨h1,h2⟩,h3⟩:=h;refine⟨⟨0,⟨by omega,λj hj=>by omega⟩,⟨rfl,trivial⟩,rfl⟩,λk hk=>ah.2 ⟨λg=>?_,λg=>?_⟩⟩
 ·simp only[dG]at g;refine⟨⟨by omega,by omega⟩,λd hd=>⟨⟨by omega,by omega⟩,λd1 hd1=>⟨(λd hd=>(hT d hd).1) d (iF hd),ah.2 ⟨λg2=>fF λq=>?_,λg2=>⟨au.2 (by omega),k+1,⟨by omega,λj hj=>?_⟩,⟨rfl,trivial⟩,rfl,by omega⟩⟩⟩⟩⟩
  ·have q:th=C9:=Ec (λz:ZD=>z.1) q
   subst q;rw[hd]at hd1;cases hd1;rw[wK.2 rfl]at g2;cases g2
  ·by_cases gq:j=k
   ·subst gq;have hd:th[j]?=some d:=hd;have hd1:C9[j]?=some d1:=hd1;have g2:d=d1:=wK.1 (by simpa using g2)
    rw[hd,hd1,g2]
   ·exact hk.2 j (by omega)
 simp only[dh]at g;have eth:th=C9:=by
  apply yJ;intro j
  by_cases hj:j < k
  ·exact hk.2 j hj
  ·rw[qJ (by omega),qJ (by omega)]
 clear g hk;refine⟨⟨0,⟨by omega,λj hj=>by omega⟩,⟨rfl,trivial⟩,rfl⟩,λk hk=>ah.2 ⟨λg=>?_,λg=>?_⟩⟩
 ·simp only[dG]at g;refine⟨⟨by omega,by omega⟩,λd hd=>⟨⟨by omega,by omega⟩,λd1 hd1=>⟨(λd hd=>hb d hd) d (iF hd),ah.2 ⟨λg2=>fF λq=>?_,λg2=>⟨au.2 (by omega),k+1,⟨by omega,λj hj=>?_⟩,⟨rfl,trivial⟩,rfl,by omega⟩⟩⟩⟩⟩
  ·have q:bf=D6:=Ec (λz:ZD=>z.2.2.1) q
   subst q;rw[hd]at hd1;cases hd1;rw[ji rfl]at g2;cases g2
  ·by_cases gq:j=k
   ·subst gq;have hd:bf[j]?=some d:=hd;have hd1:D6[j]?=some d1:=hd1;have g2:d=d1:=mZ.1 (by simpa using g2)
    rw[hd,hd1,g2]
   ·exact hk.2 j (by omega)
 simp only[dh]at g;have ebf:bf=D6:=by
  apply yJ;intro j
  by_cases hj:j < k
  ·exact hk.2 j hj
  ·rw[qJ (by omega),qJ (by omega)]
 clear g hk;exact⟨rfl,by rw[ji (by rw[eth,ebf,h3])]⟩
theorem ajD:Go.aV.Met Tryz.prog aK.gd 14 Jp:=
 bW (cx:=aK) (n:=69) (cl:=[(38,RN),(37,BI),(39,Jo)]) (rc:=[]) ay ⟨ahP,ail,ajx,trivial⟩ Tryz.func14 λd hd=>by
  obtain⟨⟨th,⟨mv,mo,mq,mg,⟨⟩⟩,bf,⟨⟩⟩,⟨C9,⟨mv2,Po,Pq,Pv,⟨⟩⟩,D6,⟨⟩⟩,⟨⟩⟩:=d;exact aH (ar2 th mv mo mq mg bf C9 mv2 Po Pq Pv D6) (apj th mv mo mq mg bf C9 mv2 Po Pq Pv D6 hd) (by kernel_rfl)
theorem apl:LG zZ:=⟨⟨by decide,λt ht=>nomatch ht⟩,ng (m:=zM) rfl,by decide,λb hb=>nomatch hb⟩
theorem akU{vs:List VD}{ms cs:List ByteArray}{fs:List FD}{ts:List SD}{bound:Int} (h:XF vs ms cs fs ts=true):LG (adO vs ms cs fs ts bound).1:=by
 unfold adO;split
 ·exact apl
 ·rename_i q;have hs:=GU.1 q;have hV:=aoQ hs;have hl:ts.length≤1000000:=(XG h).2.2.2.2.1;exact⟨S9 hV.1 hV.2 (by rw[aje];exact hl),akA (aev h),XY _,λb hb=>nomatch hb⟩
abbrev atF:CT:={ ps:=[oH,.int .i64],pre:=λd=>True,res:=λd=>([],vB (true)) }
theorem asn(vs:List VD) (ms cs:List ByteArray) (fs:List FD) (ts:List SD) (bound:Int):
 let z2:=bnd ((vs,ms,cs,fs,ts,()),());let z3:=adO vs ms cs fs ts bound;let z1:=z3.snd=z3.snd;True∧br (!XF vs ms cs fs ts) (True∧qB true true) (z2∧z2∧(decide z1=true→LG z3.fst)∧((decide z1 && mJ z3.fst z3.fst)=true→True)∧qB true (decide z1 && mJ z3.fst z3.fst && true)):=by
 conv=>zeta
 refine⟨trivial,ah.2 ⟨λ_=>⟨trivial,rfl,rfl⟩,λh=>?_⟩⟩
 have h:XF vs ms cs fs ts=true:=by simpa using h
 have hb:=XG h;refine⟨hb,hb,λ_=>akU h,λ_=>trivial,jO ?_⟩
 rw[ji rfl];simp
theorem ap5:Go.aV.Met Tryz.prog aK.gd 3 atF:=
 bW (cx:=aK) (n:=36) (cl:=[(10,aq8),(11,adX),(12,adR),(13,adR),(14,Jp)]) (rc:=[]) ay ⟨ahi,ajm,ajf,akL,ajD,trivial⟩ Tryz.func3 λd hd=>by
  obtain⟨⟨vs,ms,cs,fs,ts,⟨⟩⟩,bound,⟨⟩⟩:=d;exact aH (λ_=>none) (asn vs ms cs fs ts bound) (by kernel_rfl)
open Go Go.aV Go.ChangeShapes Go.WideShapes Go.ChangeAt Go.RowKit
theorem own:ownKnob Tryz.prog.godebug=none:=by kernel_rfl
theorem laidOut:laidOutB Tryz.prog=true:=by kernel_rfl
theorem rowed:mapsRowed Tryz.prog=true:=by kernel_rfl
theorem full:∀t e,t < Tryz.prog.types.size→Tryz.prog.underlying t=some (.slice e)→0 < Tryz.prog.cellsOf e:=slices_full_of _ (by kernel_rfl)
theorem apn:Tryz.prog.globalNamed "modelcheck/inst.rows"=some 1:=by kernel_rfl
theorem apo:(Tryz.prog.globals[1]?).map (·.type)=some 183:=by kernel_rfl
theorem ar7:(sJ Tryz.prog (.arr 22 (.pair .str (.pair (.arr 7 .bool) .unit)))).1 183=true:=by kernel_rfl
theorem apq:Tryz.prog.globalNamed "modelcheck/value.names"=some 2:=by kernel_rfl
theorem apr:(Tryz.prog.globals[2]?).map (·.type)=some 214:=by kernel_rfl
theorem ar8:(sJ Tryz.prog (.arr 10 .str)).1 214=true:=by kernel_rfl
noncomputable def laidWorld (os:Os):World:=
 { World.holding Tryz.prog os ⟨#[],#[],[]⟩with heap:=(((World.holding Tryz.prog os ⟨#[],#[],[]⟩).heap).modify 1 (lay #[.string ⟨#[99,111,110,115,116]⟩,.bool true,.bool false,.bool false,.bool false,.bool true,.bool false,.bool false,.string ⟨#[99,111,112,121]⟩,.bool true,.bool true,.bool false,.bool false,.bool false,.bool false,.bool false,.string ⟨#[99,97,108,99]⟩,.bool true,.bool true,.bool true,.bool false,.bool false,.bool true,.bool false,.string ⟨#[106,117,109,112]⟩,.bool false,.bool false,.bool false,.bool false,.bool true,.bool false,.bool false,.string ⟨#[98,114,97,110,99,104]⟩,.bool false,.bool true,.bool false,.bool false,.bool true,.bool false,.bool false,.string ⟨#[97,115,115,101,114,116]⟩,.bool false,.bool true,.bool false,.bool false,.bool false,.bool false,.bool false,.string ⟨#[115,116,111,112]⟩,.bool false,.bool false,.bool false,.bool false,.bool false,.bool false,.bool false,.string ⟨#[108,111,97,100]⟩,.bool true,.bool false,.bool false,.bool true,.bool false,.bool false,.bool true,.string ⟨#[115,116,111,114,101]⟩,.bool false,.bool true,.bool false,.bool true,.bool false,.bool false,.bool true,.string ⟨#[115,119,97,112]⟩,.bool true,.bool true,.bool false,.bool true,.bool false,.bool false,.bool true,.string ⟨#[102,101,116,99,104,97,100,100]⟩,.bool true,.bool true,.bool false,.bool true,.bool false,.bool false,.bool true,.string ⟨#[99,97,115]⟩,.bool true,.bool true,.bool true,.bool true,.bool false,.bool false,.bool true,.string ⟨#[102,101,110,99,101]⟩,.bool false,.bool false,.bool false,.bool false,.bool false,.bool false,.bool false,.string ⟨#[97,119,97,105,116]⟩,.bool true,.bool true,.bool false,.bool true,.bool false,.bool true,.bool true,.string ⟨#[108,111,99,107]⟩,.bool false,.bool false,.bool false,.bool true,.bool false,.bool false,.bool false,.string ⟨#[117,110,108,111,99,107]⟩,.bool false,.bool false,.bool false,.bool true,.bool false,.bool false,.bool false,.string ⟨#[116,114,121,108,111,99,107]⟩,.bool true,.bool false,.bool false,.bool true,.bool false,.bool false,.bool false,.string ⟨#[119,97,105,116]⟩,.bool false,.bool false,.bool false,.bool true,.bool true,.bool false,.bool false,.string ⟨#[115,105,103,110,97,108]⟩,.bool false,.bool false,.bool false,.bool true,.bool false,.bool false,.bool false,.string ⟨#[98,114,111,97,100,99,97,115,116]⟩,.bool false,.bool false,.bool false,.bool true,.bool false,.bool false,.bool false,.string ⟨#[115,112,97,119,110]⟩,.bool true,.bool true,.bool false,.bool true,.bool false,.bool false,.bool false,.string ⟨#[106,111,105,110]⟩,.bool false,.bool true,.bool false,.bool false,.bool false,.bool false,.bool false])).modify 2 (lay #[.string ⟨#[97,100,100]⟩,.string ⟨#[115,117,98]⟩,.string ⟨#[109,117,108]⟩,.string ⟨#[97,110,100]⟩,.string ⟨#[111,114]⟩,.string ⟨#[120,111,114]⟩,.string ⟨#[101,113]⟩,.string ⟨#[110,101]⟩,.string ⟨#[108,116]⟩,.string ⟨#[108,101]⟩]) }
namespace machineStartsL
theorem globs{W:World} (hL:laidMetH Tryz.prog Rows.machineStartsRow.laid W):aO gd0 (FH.all W):=by
 intro g p hp;unfold gd0 at hp;split at hp
 ·cases hp;exact IK hL (by kernel_rfl) (n:= "modelcheck/inst.rows") (D:=Rows.laid_modelcheck_inst_rows) (by simp[Rows.machineStartsRow]) apn apo ar7 (by kernel_rfl)
 ·cases hp;exact IK hL (by kernel_rfl) (n:= "modelcheck/value.names") (D:=Rows.laid_modelcheck_value_names) (by simp[Rows.machineStartsRow]) apq apr ar8 (by kernel_rfl)
 ·cases hp
theorem laid_met(os:Os):laidMet Tryz.prog Rows.machineStartsRow.laid ((laidWorld os).forCall (λ_ _=>0) ⟨#[],#[.agg #[.slice none 0 0,.slice none 0 0,.slice none 0 0,.slice none 0 0,.slice none 0 0],.int .i64 0],[]⟩).memory:=
 laidMet_of_run' 20 (by kernel_rfl) (by kernel_rfl)
theorem reads(os:Os){H:Type} (enc:TypeId×Value→H):∃places,DataW.whole enc Tryz.prog ((laidWorld os).forCall (λ_ _=>0) ⟨#[],#[.agg #[.slice none 0 0,.slice none 0 0,.slice none 0 0,.slice none 0 0,.slice none 0 0],.int .i64 0],[]⟩).memory Tryz.f3.params.toList Rows.machineStartsSpec.vars false (#[.agg #[.slice none 0 0,.slice none 0 0,.slice none 0 0,.slice none 0 0,.slice none 0 0],.int .i64 0]:Array Value).toList 20=some ([.agg [.nil,.nil,.nil,.nil,.nil],.lit (.int .i64 0)],[],places):=
 ⟨[],by kernel_rfl⟩
theorem lifted(os:Os) (started:os.Started) (H:Type) (enc:TypeId×Value→H) (F:Stop.Interp):
 ReturnsInHanded {} Tryz.checked os 3 .any ((OpenSpec.ofChange Rows.machineStartsSpec).preRow enc Tryz.prog Tryz.f3 Rows.machineStartsRow.domain false Rows.machineStartsRow.laid) (((OpenSpec.ofChange Rows.machineStartsSpec).at F).post enc Tryz.prog Tryz.f3 false true false false):=by
 obtain⟨places,hx⟩:=reads os enc;refine returnsInHanded_of_row (C:=Tryz.checked) (s:=OpenSpec.ofChange Rows.machineStartsSpec) own started (by kernel_rfl) Tryz.func3
  (witness_row_at (enc:=enc) (C:=Tryz.checked) false (laidWorld os) #[.agg #[.slice none 0 0,.slice none 0 0,.slice none 0 0,.slice none 0 0,.slice none 0 0],.int .i64 0] rfl (by kernel_rfl) (by kernel_rfl) (by kernel_rfl)
   (OpenSpec.preRow_of_cond 20 hx (by kernel_rfl) (λk hk=>by cases hk) (by kernel_rfl) (laid_met os))) ?_
 intro W base args ds gs before hval hW _ hcond hwt hL _ _;refine Xw (fn:=Tryz.f3) ap5 laidOut rowed full (by decide +kernel) (t:=4) (by kernel_rfl) (by kernel_rfl) rfl (by kernel_rfl) (λ_=>rfl) (λd hd hwf=>?_) hval hW (globs hL)
 match ds,II hd with
 | [d0,d1],_=>exact⟨rfl,by trivial⟩
theorem said:Rows.MachineStartsSaid:=
 OpenClaim.holds_of_cond 3 Tryz.f3 rfl rfl rfl rfl rfl rfl rfl ⟨rfl,rfl,rfl,rfl,rfl⟩ rfl rfl rfl rfl rfl (by kernel_rfl) Tryz.func3 (by kernel_rfl)
  (A83 (by kernel_rfl)) (by unfold Func.isWrapper;first | (rw[if_pos (by decide +kernel)];kernel_rfl) | (rw[if_neg (by decide +kernel)];exact⟨rfl,rfl⟩))
  (λos started H enc _ F=>by rw[OpenClaim.pre_eq_preRow];exact lifted os started H enc F)
theorem plain(f:FuncId) (fn:Func) (hf:Tryz.pinned.checked.prog.funcNamed "modelcheck/modelchecklaw23.MachineStarts"=some f) (hfn:Tryz.pinned.checked.prog.funcs[f]?=some fn):
 false=Tryz.pinned.checked.prog.looks []∧∀(j:Nat) t,fn.params[j]?=some t→Tryz.pinned.checked.prog.wantsStandIn t=false:=by
 obtain rfl:f=3:=PL ((show Tryz.prog.funcNamed "modelcheck/modelchecklaw23.MachineStarts"=some 3 by kernel_rfl).symm.trans hf) |>.symm
 obtain rfl:fn=Tryz.f3:=(PL (Tryz.func3.symm.trans hfn)).symm;refine⟨by kernel_rfl,λj t ht=>?_⟩
 have hm:t∈Tryz.f3.params.toList:=iF (by simpa using ht)
 have key:∀t∈Tryz.f3.params.toList,Tryz.prog.wantsStandIn t=false:=by decide +kernel
 exact key t hm
theorem card:Rows.MachineStartsCardSaid:=
 Claim7.holds_tied_plain_at .later [] _ _ _ _ said (λ_ h=>by cases h) (by kernel_rfl) (λ_ h=>by cases h) machineStarts_row_tie rfl ⟨rfl,rfl⟩ (by kernel_rfl) rfl plain (by kernel_rfl)
end machineStartsL
end Go.Proofs.YtjhenjhcbcalpaaGreatDoor
