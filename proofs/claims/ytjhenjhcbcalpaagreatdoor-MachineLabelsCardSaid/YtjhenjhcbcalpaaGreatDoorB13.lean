/- Part 13 of the proof. Conditions: the rows'. -/
import Derived.Test.YtjhenjhcbcalpaaGreatDoorB12
import Derived.Test.YtjhenjhcbcalpaaGreatDoorCards
import Derived.Test.YtjhenjhcbcalpaaGreatDoorTie
import Derived.WalkKit
import Derived.ProofKit
import Derived.OpenShut
import Derived.Deep.DeepHandedRow
import Derived.Lib.LaidTab
import Derived.Test.YtjhenjhcbcalpaaGreatDoorJ2
set_option linter.unusedSimpArgs false
set_option linter.unusedVariables false
set_option maxRecDepth 1000000
set_option maxHeartbeats 8000000
namespace Go.Proofs.YtjhenjhcbcalpaaGreatDoor
open Go Go.jf
abbrev Qm(a b:ED):Bool:=true && a.1 == b.1 && a.2.1 == b.2.1 && a.2.2.1 == b.2.2.1 && a.2.2.2.1 == b.2.2.2.1 && a.2.2.2.2.1 == b.2.2.2.2.1 && a.2.2.2.2.2.1 == b.2.2.2.2.2.1 && a.2.2.2.2.2.2.1 == b.2.2.2.2.2.2.1 && a.2.2.2.2.2.2.2.1 == b.2.2.2.2.2.2.2.1 && a.2.2.2.2.2.2.2.2.1 == b.2.2.2.2.2.2.2.2.1
theorem NG(a:ED):Qm a a=true:=by unfold Qm;simp
def tyT(l:List TD):Prop:=∀t∈l,t.1<=9223372036854775807/\t.2.2.2.1.length=8
theorem ag0{th:List TD}{m:MD}{bf:List BD} (h:Ql (th,m,bf,())=true) (ht:tyT th):iJ th/\th.length<=20/\uV m=true/\Gl bf:=by
 unfold Ql at h;simp only[bY,dH,NH]at h;obtain⟨⟨⟨⟨⟨⟨⟨⟨h1,h2⟩,h3⟩,h4⟩,h5⟩,h6⟩,h7⟩,h8⟩,h9⟩:=h;refine⟨⟨by omega,λt q=>⟨by have:=h7 t q;omega,(ht t q).1,(ht t q).2⟩⟩,h1,?_,by omega,λb q=>by have:=h8 b q;omega⟩
 unfold uV;simp only[bY,dH,NH];exact⟨⟨⟨⟨h3,h4⟩,h5⟩,by omega⟩,λq hq=>by have:=h9 q hq;omega⟩
abbrev aoC:CT:={ ps:=[.pair o9 (.pair (.int .i64) (.pair (.int .i64) (.pair Kr .unit)))],pre:=λd=>tyT d.1.2.2.2.1.1,res:=λd=>([],vB (true)) }
noncomputable abbrev ap1 (vs:List VD) (ms cs:List ByteArray) (fs:List FD) (ts:List SD) (bound ag:Int) (th:List TD) (mv mo:List Int) (mq:List (List Int)) (mg:List Int) (bf:List BD):Nat->Option (St->jv):=λk=>match k with
 | 4=>some λ_=>.inv { α:=Nat,slots:=λk=>[(3,.c (.v (.int .i64 k)))],res:=λk=>[],inv:=λk=>k<=(th).length,meas:=λk=>(th).length - k }
 | _=>none
theorem aoD(vs:List VD) (ms cs:List ByteArray) (fs:List FD) (ts:List SD) (bound ag:Int) (th:List TD) (mv mo:List Int) (mq:List (List Int)) (mg:List Int) (bf:List BD) (aF:aoC.pre (((vs,ms,cs,fs,ts,()),bound,ag,(th,(mv,mo,mq,mg,()),bf,()),()),())):
 let wo:=(mv,mo,mq,mg,());let z6:=[g0 (ay.blk 44 [SC.sl ER vs,SC.sl Sh.str ms,SC.sl Sh.str cs,SC.sl BA fs,SC.sl lU ts,v6 bound,v6 ag,SC.sl dX th,SC.sl I6 mv,SC.sl I6 mo,SC.sl I6.sl mq,SC.sl I6 mg,SC.sl CZ bf])];let z10:=λ(x:Nat)=>0<=(x:Int)/\(x:Int) < (th.length:Int);let z13:=bnd ((vs,ms,cs,fs,ts,()),());let z7:=z13/\iJ th/\bI wo;let z9:=λ(d:TD)=>nV vs ms cs fs ts th wo bf d.fst;let z8:=λ(dI:TD)=>nV vs ms cs fs ts th wo bf dI.fst;let z4:=λ(d dI:TD)=>!(Qm (z9 d).fst (z8 dI).fst) || !(z9 d).snd == (z8 dI).snd;let z2:=λ(x:Nat)=>(iR ((x:Int)+(1:Int))/\∃x',x'<=th.length/\(cI ((x:Int)+(1:Int))=cI (x':Int)/\True)/\sm z6/\th.length - x' < th.length - x);let z1:=λ(d dI:TD) (x:Nat)=>z7/\br (z4 d dI) (qB true false) (z2 x);let z11:=nV vs ms cs fs ts th wo bf ag;let z5:=Qm z11.fst z11.fst && z11.snd == z11.snd;let z3:=z5=true->z13/\iJ th/\bI wo;let z12:=wz vs ms cs fs ts th wo bf;True/\((!!Vt vs ms cs fs ts)=true->True)/\br (!Vt vs ms cs fs ts || !Ql (th,wo,bf,())) (True/\qB true true) ((∃x,x<=th.length/\(cI 0=cI (x:Int)/\True)/\sm z6)/\∀(x:Nat),x<=th.length->br (decide ((x:Int) < (th.length:Int))) ((z10 x)/\∀(d:TD),th[(x:Int).toNat]?=some d->(z7/\(z10 x)/\∀(dI:TD),th[(x:Int).toNat]?=some dI->(z1 d dI x)/\z7/\br (z4 d dI) (qB true false) (z2 x))/\z7/\(z10 x)/\∀(dI:TD),th[(x:Int).toNat]?=some dI->(z1 d dI x)/\z7/\br (z4 d dI) (qB true false) (z2 x)) (z7/\z7/\z3/\z3/\(z5=true->z12.length<=1000000)/\((Qm z11.fst z11.fst && z11.snd == z11.snd && nG z12 z12)=true->True)/\qB true (Qm z11.fst z11.fst && z11.snd == z11.snd && nG z12 z12 && true))):=by
 conv=>zeta
 delta iR;refine⟨trivial,λ_=>trivial,ah.2 ⟨λ_=>⟨trivial,rfl,rfl⟩,λh=>?_⟩⟩
 simp only[l7,wU]at h;obtain⟨h,h2⟩:=h;have hb:=Vu h;obtain⟨b1,b2,b3,b4⟩:=ag0 h2 aF;have P:bnd ((vs,ms,cs,fs,ts,()),())/\iJ th/\bI (mv,mo,mq,mg,()):=⟨hb,b1,vY b3⟩;have hle:(wz vs ms cs fs ts th (mv,mo,mq,mg,()) bf).length<=1000000:=by
  unfold wz;split
  .unfold sS;rw[VW];exact pq (TV _ _) b1.1
  .simp
 refine⟨⟨0,by omega,⟨rfl,trivial⟩,rfl⟩,λx hx=>ah.2 ⟨λg=>⟨⟨by omega,by simpa using g⟩,λd hd=>?_⟩,λg=>⟨P,P,λ_=>P,λ_=>P,λ_=>hle,λ_=>trivial,jE ?_⟩⟩⟩
 .have g:(x:Int) < (th.length:Int):=Qn g;have G:0<=(x:Int)/\(x:Int) < (th.length:Int):=⟨by omega,g⟩
  have F:br (!(Qm (nV vs ms cs fs ts th (mv,mo,mq,mg,()) bf d.1).1 (nV vs ms cs fs ts th (mv,mo,mq,mg,()) bf d.1).1) || !((nV vs ms cs fs ts th (mv,mo,mq,mg,()) bf d.1).2 == (nV vs ms cs fs ts th (mv,mo,mq,mg,()) bf d.1).2)) (qB true false) (mY IntKind.i64 ((x:Int)+(1:Int))/\∃x',x'<=th.length/\(cI ((x:Int)+(1:Int))=cI (x':Int)/\True)/\sm [g0 (ay.blk 44 [SC.sl ER vs,SC.sl Sh.str ms,SC.sl Sh.str cs,SC.sl BA fs,SC.sl lU ts,v6 bound,v6 ag,SC.sl dX th,SC.sl I6 mv,SC.sl I6 mo,SC.sl I6.sl mq,SC.sl I6 mg,SC.sl CZ bf])]/\th.length - x' < th.length - x):=by
   refine ah.2 ⟨λg2=>?_,λ_=>⟨ak.2 (by omega),x+1,by omega,⟨rfl,trivial⟩,rfl,by omega⟩⟩
   rw[NG]at g2;simp at g2
  repeat' (first | exact P | exact G | exact F | (intro d1 hd1;rw[hd]at hd1;cases hd1) | (refine And.intro ?_ ?_))
 .rw[NG,kM rfl];simp
theorem amh:aU aT.gd 4 aoC:=
 dQ (cx:=aT) (n:=113) (cl:=[(10,anW),(15,ahJ),(11,abV),(16,FB),(17,FB),(18,TN),(19,yg),(20,yg)]) (rc:=[]) au ⟨ae0,agY,agO,Tz,agW,TP,Tv,agX,trivial⟩ Tryz.func4 λd hd=>by
  obtain⟨⟨⟨vs,ms,cs,fs,ts,⟨⟩⟩,bound,ag,⟨th,⟨mv,mo,mq,mg,⟨⟩⟩,bf,⟨⟩⟩,⟨⟩⟩,⟨⟩⟩:=d;exact aJ (ap1 vs ms cs fs ts bound ag th mv mo mq mg bf) (aoD vs ms cs fs ts bound ag th mv mo mq mg bf hd) (by kernel_rfl)
open Go Go.jf Go.ChangeShapes Go.WideShapes Go.ChangeAt Go.RowKit
theorem own:ownKnob Tryz.prog.godebug=none:=by kernel_rfl
theorem laidOut:laidOutB Tryz.prog=true:=by kernel_rfl
theorem rowed:mapsRowed Tryz.prog=true:=by kernel_rfl
theorem full:∀t e,t < Tryz.prog.types.size->Tryz.prog.underlying t=some (.slice e)->0 < Tryz.prog.cellsOf e:=slices_full_of _ (by kernel_rfl)
theorem ami:Tryz.prog.globalNamed "modelcheck/inst.rows"=some 1:=by kernel_rfl
theorem amj:(Tryz.prog.globals[1]?).map (·.type)=some 183:=by kernel_rfl
theorem aoE:(rM Tryz.prog (.arr 22 (.pair .str (.pair (.arr 7 .bool) .unit)))).1 183=true:=by kernel_rfl
theorem amk:Tryz.prog.globalNamed "modelcheck/value.names"=some 2:=by kernel_rfl
theorem aml:(Tryz.prog.globals[2]?).map (·.type)=some 214:=by kernel_rfl
theorem aoF:(rM Tryz.prog (.arr 10 .str)).1 214=true:=by kernel_rfl
noncomputable def laidWorld (os:Os):World:=
 { World.holding Tryz.prog os ⟨#[],#[],[]⟩with heap:=(((World.holding Tryz.prog os ⟨#[],#[],[]⟩).heap).modify 1 (lay #[.string ⟨#[99,111,110,115,116]⟩,.bool true,.bool false,.bool false,.bool false,.bool true,.bool false,.bool false,.string ⟨#[99,111,112,121]⟩,.bool true,.bool true,.bool false,.bool false,.bool false,.bool false,.bool false,.string ⟨#[99,97,108,99]⟩,.bool true,.bool true,.bool true,.bool false,.bool false,.bool true,.bool false,.string ⟨#[106,117,109,112]⟩,.bool false,.bool false,.bool false,.bool false,.bool true,.bool false,.bool false,.string ⟨#[98,114,97,110,99,104]⟩,.bool false,.bool true,.bool false,.bool false,.bool true,.bool false,.bool false,.string ⟨#[97,115,115,101,114,116]⟩,.bool false,.bool true,.bool false,.bool false,.bool false,.bool false,.bool false,.string ⟨#[115,116,111,112]⟩,.bool false,.bool false,.bool false,.bool false,.bool false,.bool false,.bool false,.string ⟨#[108,111,97,100]⟩,.bool true,.bool false,.bool false,.bool true,.bool false,.bool false,.bool true,.string ⟨#[115,116,111,114,101]⟩,.bool false,.bool true,.bool false,.bool true,.bool false,.bool false,.bool true,.string ⟨#[115,119,97,112]⟩,.bool true,.bool true,.bool false,.bool true,.bool false,.bool false,.bool true,.string ⟨#[102,101,116,99,104,97,100,100]⟩,.bool true,.bool true,.bool false,.bool true,.bool false,.bool false,.bool true,.string ⟨#[99,97,115]⟩,.bool true,.bool true,.bool true,.bool true,.bool false,.bool false,.bool true,.string ⟨#[102,101,110,99,101]⟩,.bool false,.bool false,.bool false,.bool false,.bool false,.bool false,.bool false,.string ⟨#[97,119,97,105,116]⟩,.bool true,.bool true,.bool false,.bool true,.bool false,.bool true,.bool true,.string ⟨#[108,111,99,107]⟩,.bool false,.bool false,.bool false,.bool true,.bool false,.bool false,.bool false,.string ⟨#[117,110,108,111,99,107]⟩,.bool false,.bool false,.bool false,.bool true,.bool false,.bool false,.bool false,.string ⟨#[116,114,121,108,111,99,107]⟩,.bool true,.bool false,.bool false,.bool true,.bool false,.bool false,.bool false,.string ⟨#[119,97,105,116]⟩,.bool false,.bool false,.bool false,.bool true,.bool true,.bool false,.bool false,.string ⟨#[115,105,103,110,97,108]⟩,.bool false,.bool false,.bool false,.bool true,.bool false,.bool false,.bool false,.string ⟨#[98,114,111,97,100,99,97,115,116]⟩,.bool false,.bool false,.bool false,.bool true,.bool false,.bool false,.bool false,.string ⟨#[115,112,97,119,110]⟩,.bool true,.bool true,.bool false,.bool true,.bool false,.bool false,.bool false,.string ⟨#[106,111,105,110]⟩,.bool false,.bool true,.bool false,.bool false,.bool false,.bool false,.bool false])).modify 2 (lay #[.string ⟨#[97,100,100]⟩,.string ⟨#[115,117,98]⟩,.string ⟨#[109,117,108]⟩,.string ⟨#[97,110,100]⟩,.string ⟨#[111,114]⟩,.string ⟨#[120,111,114]⟩,.string ⟨#[101,113]⟩,.string ⟨#[110,101]⟩,.string ⟨#[108,116]⟩,.string ⟨#[108,101]⟩]) }
theorem amm{n:Int} (h:(Lit.int .i64 n).wf=true):-9223372036854775808<=n/\n<=9223372036854775807:=by
 simp[Lit.wf,IntKind.min,IntKind.max,IntKind.signed,IntKind.bits]at h;omega
namespace machineLabelsL
theorem globs{W:World} (hL:laidMetH Tryz.prog Rows.machineLabelsRow.laid W):aI gd0 (FH.all W):=by
 intro g p hp;unfold gd0 at hp;split at hp
 .cases hp;exact He hL (by kernel_rfl) (n:= "modelcheck/inst.rows") (D:=Rows.laid_modelcheck_inst_rows) (by simp[Rows.machineLabelsRow]) ami amj aoE (by kernel_rfl)
 .cases hp;exact He hL (by kernel_rfl) (n:= "modelcheck/value.names") (D:=Rows.laid_modelcheck_value_names) (by simp[Rows.machineLabelsRow]) amk aml aoF (by kernel_rfl)
 .cases hp
theorem laid_met(os:Os):laidMet Tryz.prog Rows.machineLabelsRow.laid ((laidWorld os).forCall (λ_ _=>0) ⟨#[],#[.agg #[.slice none 0 0,.slice none 0 0,.slice none 0 0,.slice none 0 0,.slice none 0 0,.int .i64 0,.int .i64 0,.slice none 0 0,.slice none 0 0,.slice none 0 0,.slice none 0 0,.slice none 0 0,.slice none 0 0]],[]⟩).memory:=
 laidMet_of_run' 20 (by kernel_rfl) (by kernel_rfl)
theorem reads(os:Os){H:Type} (enc:TypeId×Value->H):∃places,DataW.whole enc Tryz.prog ((laidWorld os).forCall (λ_ _=>0) ⟨#[],#[.agg #[.slice none 0 0,.slice none 0 0,.slice none 0 0,.slice none 0 0,.slice none 0 0,.int .i64 0,.int .i64 0,.slice none 0 0,.slice none 0 0,.slice none 0 0,.slice none 0 0,.slice none 0 0,.slice none 0 0]],[]⟩).memory Tryz.f4.params.toList Rows.machineLabelsSpec.vars false (#[.agg #[.slice none 0 0,.slice none 0 0,.slice none 0 0,.slice none 0 0,.slice none 0 0,.int .i64 0,.int .i64 0,.slice none 0 0,.slice none 0 0,.slice none 0 0,.slice none 0 0,.slice none 0 0,.slice none 0 0]]:Array Value).toList 20=some ([.agg [.agg [.nil,.nil,.nil,.nil,.nil],.lit (.int .i64 0),.lit (.int .i64 0),.agg [.nil,.agg [.nil,.nil,.nil,.nil],.nil]]],[],places):=
 ⟨[],by kernel_rfl⟩
theorem lifted(os:Os) (started:os.Started) (H:Type) (enc:TypeId×Value->H) (F:Stop.Interp):
 ReturnsInHanded {} Tryz.checked os 4 .any ((OpenSpec.ofChange Rows.machineLabelsSpec).preRow enc Tryz.prog Tryz.f4 Rows.machineLabelsRow.domain false Rows.machineLabelsRow.laid) (((OpenSpec.ofChange Rows.machineLabelsSpec).at F).post enc Tryz.prog Tryz.f4 false true false false):=by
 obtain⟨places,hx⟩:=reads os enc;refine returnsInHanded_of_row (C:=Tryz.checked) (s:=OpenSpec.ofChange Rows.machineLabelsSpec) own started (by kernel_rfl) Tryz.func4
  (witness_row_at (enc:=enc) (C:=Tryz.checked) false (laidWorld os) #[.agg #[.slice none 0 0,.slice none 0 0,.slice none 0 0,.slice none 0 0,.slice none 0 0,.int .i64 0,.int .i64 0,.slice none 0 0,.slice none 0 0,.slice none 0 0,.slice none 0 0,.slice none 0 0,.slice none 0 0]] rfl (by kernel_rfl) (by kernel_rfl) (by kernel_rfl)
   (OpenSpec.preRow_of_cond 20 hx (by kernel_rfl) (λk hk=>by cases hk) (by kernel_rfl) (laid_met os))) ?_
 intro W base args ds gs before hval hW _ hcond hwt hL _ _;refine Vk (fn:=Tryz.f4) amh laidOut rowed full (by decide +kernel) (t:=4) (by kernel_rfl) (by kernel_rfl) rfl (by kernel_rfl) (λ_=>rfl) (λd hd hwf=>?_) hval hW (globs hL)
 match ds,G8 hd with
 | [d0],_=>exact⟨rfl,by exact λt ht=>⟨(amm (hwf.1.2.2.2.1.1.2 t ht).1).2,(hwf.1.2.2.2.1.1.2 t ht).2.2.2.1.1⟩⟩
theorem said:Rows.MachineLabelsSaid:=
 OpenClaim.holds_of_cond 4 Tryz.f4 rfl rfl rfl rfl rfl rfl rfl ⟨rfl,rfl,rfl,rfl,rfl⟩ rfl rfl rfl rfl rfl (by kernel_rfl) Tryz.func4 jf4
  (Qn (by kernel_rfl)) (by unfold Func.isWrapper;first | (rw[if_pos (by decide +kernel)];kernel_rfl) | (rw[if_neg (by decide +kernel)];exact⟨rfl,rfl⟩))
  (λos started H enc _ F=>by rw[OpenClaim.pre_eq_preRow];exact lifted os started H enc F)
theorem plain(f:FuncId) (fn:Func) (hf:Tryz.pinned.checked.prog.funcNamed "modelcheck/modelchecklaw23.MachineLabels"=some f) (hfn:Tryz.pinned.checked.prog.funcs[f]?=some fn):
 false=Tryz.pinned.checked.prog.looks []/\∀(j:Nat) t,fn.params[j]?=some t->Tryz.pinned.checked.prog.wantsStandIn t=false:=by
 obtain rfl:f=4:=Ig ((show Tryz.prog.funcNamed "modelcheck/modelchecklaw23.MachineLabels"=some 4 by kernel_rfl).symm.trans hf) |>.symm
 obtain rfl:fn=Tryz.f4:=(Ig (Tryz.func4.symm.trans hfn)).symm;refine⟨by kernel_rfl,λj t ht=>?_⟩
 have hm:t∈Tryz.f4.params.toList:=iy (by simpa using ht)
 have key:∀t∈Tryz.f4.params.toList,Tryz.prog.wantsStandIn t=false:=by decide +kernel
 exact key t hm
theorem card:Rows.MachineLabelsCardSaid:=
 Claim7.holds_tied_plain_at .later [] _ _ _ _ said (λ_ h=>by cases h) (by kernel_rfl) (λ_ h=>by cases h) machineLabels_row_tie rfl ⟨rfl,rfl⟩ (by kernel_rfl) rfl plain (by kernel_rfl)
end machineLabelsL
end Go.Proofs.YtjhenjhcbcalpaaGreatDoor
