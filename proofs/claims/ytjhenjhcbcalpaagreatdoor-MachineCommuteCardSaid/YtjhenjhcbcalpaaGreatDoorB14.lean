/- Texts of this claim, part 14: Y13, X12, Y14. Conditions: those of the given rows. -/
import Derived.Test.YtjhenjhcbcalpaaGreatDoorB13
set_option linter.unusedSimpArgs false
set_option linter.unusedVariables false
set_option maxRecDepth 1000000
set_option maxHeartbeats 8000000
namespace Go.Proofs.YtjhenjhcbcalpaaGreatDoor
open Go Go.mQ
noncomputable section
abbrev ad9:CT:={ ps:=[.int .i64],pre:=λd=>True,res:=λd=>([],vB (decide (d.1 < 0))) }
theorem aiY(a:Int):
 qB (decide (a < 0)) (decide (a < 0)):=by
 delta qB;simp only[ah,ay]
 repeat' (first | (refine And.intro ?_ ?_) | (intro _))
 all_goals first | rfl | (simp_all[eA,eI,eK,eO,eM,eN,eR,eD,eW,jJ,kY,jK,iQ,jR,jL,jM,qj,ql,ug,ay];done) | (simp_all[eA,eI,eK,eO,eM,eN,eR,eD,eW,jJ,kY,jK,iQ,jR,jL,jM,qj,ql,ug,ay];omega) | grind[eA,eI,eK,eO,eM,eN,eR,eD,eW,jJ,kY,jK,iQ,jR,jL,jM,qj,ql,ug,ay]
theorem PW:aW aU.gd 138 ad9:=
 kL (cx:=aU) (n:=5) (cl:=[]) aA trivial Tryz.func138 λd hd=>by
  obtain⟨a,⟨⟩⟩:=d;exact aS (λ_=>none) (aiY a) (by kernel_rfl)
abbrev VH:CT:={ ps:=[.int .i64],pre:=λd=>-9223372036854775808<=d.1,res:=λd=>([],.one (.c (.v (.int .i64 (ql d.1))))) }
theorem aiZ(a:Int) (aH:VH.pre (a,())):
 br (decide (a < 0)) (dX IntKind.i64 (a+1)/\dX IntKind.i64 (0 - (a+1))/\qI (ql a) (0 - (a+1))) (qI (ql a) a):=by
 delta qI;have hp:-9223372036854775808<=a:=aH;simp only[ah,ay]
 repeat' (first | (refine And.intro ?_ ?_) | (intro _))
 all_goals first | rfl | (simp_all[eA,eI,eK,eO,eM,eN,eR,eD,eW,jJ,kY,jK,iQ,jR,jL,jM,qj,ql,ug,ay];done) | (simp_all[eA,eI,eK,eO,eM,eN,eR,eD,eW,jJ,kY,jK,iQ,jR,jL,jM,qj,ql,ug,ay];omega) | grind[eA,eI,eK,eO,eM,eN,eR,eD,eW,jJ,kY,jK,iQ,jR,jL,jM,qj,ql,ug,ay]
theorem PX:aW aU.gd 139 VH:=
 kL (cx:=aU) (n:=9) (cl:=[]) aA trivial Tryz.func139 λd hd=>by
  obtain⟨a,⟨⟩⟩:=d;exact aS (λ_=>none) (aiZ a hd) (by kernel_rfl)
abbrev aea:CT:={ ps:=[.int .i64],pre:=λd=>d.1<=9223372036854775807,res:=λd=>([],.one (.c (.v (.int .i64 (ug d.1))))) }
theorem ai0(a:Int) (aH:aea.pre (a,())):
 br (decide (a < 0)) (qI (ug a) (0:Int)) (dX IntKind.i64 (0 - a)/\dX IntKind.i64 (0 - a - 1)/\qI (ug a) (0 - a - 1)):=by
 delta qI;have hp:a<=9223372036854775807:=aH;simp only[ah,ay]
 repeat' (first | (refine And.intro ?_ ?_) | (intro _))
 all_goals first | rfl | (simp_all[eA,eI,eK,eO,eM,eN,eR,eD,eW,jJ,kY,jK,iQ,jR,jL,jM,qj,ql,ug,ay];done) | (simp_all[eA,eI,eK,eO,eM,eN,eR,eD,eW,jJ,kY,jK,iQ,jR,jL,jM,qj,ql,ug,ay];omega) | grind[eA,eI,eK,eO,eM,eN,eR,eD,eW,jJ,kY,jK,iQ,jR,jL,jM,qj,ql,ug,ay]
theorem aeb:aW aU.gd 140 aea:=
 kL (cx:=aU) (n:=8) (cl:=[]) aA trivial Tryz.func140 λd hd=>by
  obtain⟨a,⟨⟩⟩:=d;exact aS (λ_=>none) (ai0 a hd) (by kernel_rfl)
theorem aec{e:ED} (h:ku e=true):1<=eK e/\eK e<=17:=by
 simp only[ku,A8,dV]at h;omega
theorem PY{e:ED} (h:ku e=true):eA e < 0↔eK e=4:=by
 simp only[ku,A8,dV,yR]at h;have:=h.1.1.1.1.1.1.1.1.1.1.2;constructor
 .intro h1;simpa[h1]using this
 .intro h1;simpa[h1]using this
theorem aed{e:ED} (h:ku e=true):qj (eK e) (eN e)=true:=by
 simp only[ku,A8,dV,yR]at h;exact h.1.1.1.1.1.1.2
abbrev aqs:CT:={ ps:=[XQ],pre:=λd=>True,res:=λd=>([],vB (ku d.1)) }
theorem anV(ag ix kd ob mu en od rd wr:Int):
 let z2:=ku (ag,ix,kd,ob,mu,en,od,rd,wr,());let z1:=qB z2 false;((!(decide (kd < 1) || decide (17 < kd) || decide (ix < 0)))=true->True)/\br (decide (kd < 1) || decide (17 < kd) || decide (ix < 0) || !decide (ag < 0) == decide (kd=4)) z1 (dX IntKind.i64 (kd - 1)/\(0<=kd - 1/\kd - 1 < (17:Int))/\∀(d:Int×(Sh.bool.pair (I6.pair (I6.pair (Sh.bool.pair (I6.pair (I6.pair (Sh.bool.pair Sh.unit))))))).den),Hg[(kd - 1).toNat]?=some d->br (decide (ob < 0) || !decide (d.fst=(-1)) && decide (d.fst < ob) || decide (rd < d.snd.snd.fst) || !decide (d.snd.snd.snd.fst=(-1)) && decide (d.snd.snd.snd.fst < rd)) z1 (br (d.snd.fst && (decide (od < 0) || decide (2 < od)) || !d.snd.fst && !decide (od=0)) z1 (br (d.snd.snd.snd.snd.fst && (decide (wr < (-2147483648)) || decide (2147483647 < wr)) || !d.snd.snd.snd.snd.fst && !decide (wr=0)) z1 (br (decide (d.snd.snd.snd.snd.snd.fst=(-2)) && !decide (en=(-1)) || decide (en < d.snd.snd.snd.snd.snd.fst)) z1 (br (decide (kd=12)) (qB z2 (decide (0<=mu) && decide (mu < 4))) (qB z2 (decide (mu=(-1))))))))):=by
 conv=>zeta
 delta qB I6;refine⟨λ_=>trivial,ah.2 ⟨λh=>⟨rfl,?_⟩,λh=>?_⟩⟩
 .simp only[ku,eA,eI,eK,eO,eM,eN,eR,eD,eW]at *;grind
 .simp only[oI,gG]at h;obtain⟨⟨⟨h1,h2⟩,h3⟩,h4⟩:=h;refine⟨ay.2 (by omega),⟨by omega,by omega⟩,λd hd=>?_⟩
  rcases(show kd=1\/kd=2\/kd=3\/kd=4\/kd=5\/kd=6\/kd=7\/kd=8\/kd=9\/kd=10\/kd=11\/kd=12\/kd=13\/kd=14\/kd=15\/kd=16\/kd=17 by omega) with rfl | rfl | rfl | rfl | rfl | rfl | rfl | rfl | rfl | rfl | rfl | rfl | rfl | rfl | rfl | rfl | rfl
  all_goals
   simp[Hg]at hd;subst hd;simp only[ah]
   repeat' (first | (refine And.intro ?_ ?_) | (intro _))
   all_goals first | rfl | trivial | skip
  all_goals
   refine oV (λz=>bg.one (SV.c (SC.v (Value.bool z)))) ?_
   simp only[ku,eA,eI,eK,eO,eM,eN,eR,eD,eW,jL,jM,qj,jJ,kY,jK,iQ,jR]at *
   first | (simp at *;done) | (simp at *;omega) | (simp at *;intros;omega) | (simp_all;done) | (simp_all;omega) | (simp_all;intros;omega) | grind
theorem ai1:aW aU.gd 70 aqs:=
 kL (cx:=aU) (n:=138) (cl:=[(138,ad9)]) aA ⟨PW,trivial⟩ Tryz.func70 λd hd=>by
  obtain⟨⟨ag,ix,kd,ob,mu,en,od,rd,wr,⟨⟩⟩,⟨⟩⟩:=d;exact aS (λ_=>none) (anV ag ix kd ob mu en od rd wr) (by kernel_rfl)
abbrev anW:CT:={ ps:=[XQ,XQ],pre:=λd=>-9223372036854775808<=eA d.2.1,res:=λd=>([],vB (rJ d.1 d.2.1)) }
theorem anX(nV uj o8 rQ uo rP uq uw uy rM yu x9 yc yw yx yA yB wr2:Int) (aH:anW.pre ((nV,uj,o8,rQ,uo,rP,uq,uw,uy,()),(rM,yu,x9,yc,yw,yx,yA,yB,wr2,()),())):
 let z1:=rJ (nV,uj,o8,rQ,uo,rP,uq,uw,uy,()) (rM,yu,x9,yc,yw,yx,yA,yB,wr2,());br (!decide (o8=(16:Int)) && !decide (o8=(17:Int))) (qB z1 false) ((-9223372036854775808)<=rM/\qB z1 (decide (rQ=ql rM) || decide (o8=(16:Int)) && decide (x9=(17:Int)) && decide (rQ=yc))):=by
 conv=>zeta
 delta qB;have hp:-9223372036854775808<=rM:=aH;simp only[ah,ay]
 repeat' (first | (refine And.intro ?_ ?_) | (intro _))
 all_goals first | rfl | (simp_all[eA,eI,eK,eO,eM,eN,eR,eD,eW,jJ,kY,jK,iQ,jR,jL,jM,qj,ql,ug,ay,rJ,zC,gK,Es,zB];done) | (simp_all[eA,eI,eK,eO,eM,eN,eR,eD,eW,jJ,kY,jK,iQ,jR,jL,jM,qj,ql,ug,ay,rJ,zC,gK,Es,zB];omega) | grind[eA,eI,eK,eO,eM,eN,eR,eD,eW,jJ,kY,jK,iQ,jR,jL,jM,qj,ql,ug,ay,rJ,zC,gK,Es,zB]
theorem ai2:aW aU.gd 71 anW:=
 kL (cx:=aU) (n:=36) (cl:=[(139,VH)]) aA ⟨PX,trivial⟩ Tryz.func71 λd hd=>by
  obtain⟨⟨nV,uj,o8,rQ,uo,rP,uq,uw,uy,⟨⟩⟩,⟨rM,yu,x9,yc,yw,yx,yA,yB,wr2,⟨⟩⟩,⟨⟩⟩:=d;exact aS (λ_=>none) (anX nV uj o8 rQ uo rP uq uw uy rM yu x9 yc yw yx yA yB wr2 hd) (by kernel_rfl)
abbrev aee:CT:={ ps:=[XQ,XQ],pre:=λd=>eA d.1<=9223372036854775807/\(eK d.1=4->eA d.1 < 0),res:=λd=>([],vB (zC d.1 d.2.1)) }
theorem anY(nV uj o8 rQ uo rP uq uw uy rM yu x9 yc yw yx yA yB wr2:Int) (aH:aee.pre ((nV,uj,o8,rQ,uo,rP,uq,uw,uy,()),(rM,yu,x9,yc,yw,yx,yA,yB,wr2,()),())):
 let z3:=zC (nV,uj,o8,rQ,uo,rP,uq,uw,uy,()) (rM,yu,x9,yc,yw,yx,yA,yB,wr2,());let z1:=qB z3 false;let z4:=decide (o8=(1:Int));let z2:=qB z3 true;let z5:=decide (o8=(2:Int));let z6:=decide (o8=(3:Int));True/\((!decide (nV < (0:Int)))=true->nV<=(9223372036854775807:Int))/\br (decide (nV < (0:Int)) || !decide (rM=ug nV)) z1 (br z4 (br z4 z1 z2) (br z5 (br z5 z1 z2) (br z6 (br z6 z1 z2) (br (decide (o8=(8:Int))) z1 z2)))):=by
 conv=>zeta
 delta qB;have hp:nV<=9223372036854775807:=aH.1;have hp2:o8=4->nV < 0:=aH.2;simp only[ah,ay]
 repeat' (first | (refine And.intro ?_ ?_) | (intro _))
 all_goals first | rfl | (simp_all[eA,eI,eK,eO,eM,eN,eR,eD,eW,jJ,kY,jK,iQ,jR,jL,jM,qj,ql,ug,ay,rJ,zC,gK,Es,zB];done) | (simp_all[eA,eI,eK,eO,eM,eN,eR,eD,eW,jJ,kY,jK,iQ,jR,jL,jM,qj,ql,ug,ay,rJ,zC,gK,Es,zB];omega) | grind[eA,eI,eK,eO,eM,eN,eR,eD,eW,jJ,kY,jK,iQ,jR,jL,jM,qj,ql,ug,ay,rJ,zC,gK,Es,zB]
theorem ai3:aW aU.gd 72 aee:=
 kL (cx:=aU) (n:=23) (cl:=[(140,aea),(138,ad9)]) aA ⟨aeb,PW,trivial⟩ Tryz.func72 λd hd=>by
  obtain⟨⟨nV,uj,o8,rQ,uo,rP,uq,uw,uy,⟨⟩⟩,⟨rM,yu,x9,yc,yw,yx,yA,yB,wr2,⟨⟩⟩,⟨⟩⟩:=d;exact aS (λ_=>none) (anY nV uj o8 rQ uo rP uq uw uy rM yu x9 yc yw yx yA yB wr2 hd) (by kernel_rfl)
abbrev anZ:CT:={ ps:=[XQ],pre:=λd=>ku d.1=true/\-9223372036854775808<=eA d.1,res:=λd=>([],.one (.c (.sl shA (gK d.1)))) }
theorem ai4(ag ix kd ob mu en od rd wr:Int) (aH:anZ.pre ((ag,ix,kd,ob,mu,en,od,rd,wr,()),())):
 let z3:=λ(d:Int×(Sh.bool.pair (I6.pair (I6.pair (Sh.bool.pair (I6.pair (I6.pair (Sh.bool.pair Sh.unit))))))).den)=>decide (d.snd.snd.snd.snd.snd.snd.fst=4) || !d.snd.snd.snd.snd.snd.snd.snd.fst && decide (d.snd.snd.snd.snd.snd.snd.fst=1) && decide (0<=en);let z7:=I6.pair (I6.pair (I6.pair (Sh.bool.pair Sh.unit)));let z4:=bg.one (SV.c (SC.sl z7 (gK (ag,ix,kd,ob,mu,en,od,rd,wr,()))));let z6:=λ(d:Int×(Sh.bool.pair (I6.pair (I6.pair (Sh.bool.pair (I6.pair (I6.pair (Sh.bool.pair Sh.unit))))))).den)=>[((4:Int),ql ag,en,d.snd.snd.snd.snd.snd.snd.snd)];let z2:=λ(d:Int×(Sh.bool.pair (I6.pair (I6.pair (Sh.bool.pair (I6.pair (I6.pair (Sh.bool.pair Sh.unit))))))).den)=>rE z4 (bg.one (SV.c (SC.sl z7 (z6 d))));let z8:=[((2:Int),mu,(0:Int),true,())];let z5:=λ(d:Int×(Sh.bool.pair (I6.pair (I6.pair (Sh.bool.pair (I6.pair (I6.pair (Sh.bool.pair Sh.unit))))))).den)=>[(d.snd.snd.snd.snd.snd.snd.fst,ob,(0:Int),d.snd.snd.snd.snd.snd.snd.snd)];let z1:=λ(d:Int×(Sh.bool.pair (I6.pair (I6.pair (Sh.bool.pair (I6.pair (I6.pair (Sh.bool.pair Sh.unit))))))).den)=>br (decide (d.snd.snd.snd.snd.snd.snd.fst=0)) (rE z4 (bg.one (SV.c (SC.sl z7 [])))) (br (decide (kd=12)) (oN z8.length 32/\oN (z8.length+(z5 d).length) 32/\br (decide (kd=4)) (oN (List.length (z8++(z5 d))+(z6 d).length) 32/\rE z4 (bg.one (SV.c (SC.sl z7 (z8++(z5 d)++(z6 d)))))) (rE z4 (bg.one (SV.c (SC.sl z7 (z8++(z5 d))))))) (oN (z5 d).length 32/\br (decide (kd=4)) (oN ((z5 d).length+(z6 d).length) 32/\rE z4 (bg.one (SV.c (SC.sl z7 ((z5 d)++(z6 d)))))) (rE z4 (bg.one (SV.c (SC.sl z7 (z5 d)))))));dX IntKind.i64 (kd - 1)/\(0<=kd - 1/\kd - 1 < (17:Int))/\∀(d:Int×(Sh.bool.pair (I6.pair (I6.pair (Sh.bool.pair (I6.pair (I6.pair (Sh.bool.pair Sh.unit))))))).den),Hg[(kd - 1).toNat]?=some d->((-9223372036854775808)<=ag/\br (z3 d) (z2 d) (z1 d)/\br (z3 d) (z2 d) (z1 d))/\(-9223372036854775808)<=ag/\br (z3 d) (z2 d) (z1 d):=by
 conv=>zeta
 delta rE I6;obtain⟨hv,hp⟩:=aH;have rng:1<=kd/\kd<=17:=aec hv;have hen:qj kd en=true:=aed hv;have hp:-9223372036854775808<=ag:=hp;clear hv;refine⟨ay.2 (by omega),⟨by omega,by omega⟩,λd hd=>?_⟩
 repeat' (first | exact hp | (refine And.intro ?_ ?_))
 all_goals (rcases(show kd=1\/kd=2\/kd=3\/kd=4\/kd=5\/kd=6\/kd=7\/kd=8\/kd=9\/kd=10\/kd=11\/kd=12\/kd=13\/kd=14\/kd=15\/kd=16\/kd=17 by omega) with rfl | rfl | rfl | rfl | rfl | rfl | rfl | rfl | rfl | rfl | rfl | rfl | rfl | rfl | rfl | rfl | rfl)
 all_goals
  simp[Hg]at hd;subst hd;simp only[qj]at hen;simp only[ah]
  repeat' (first | (refine And.intro ?_ ?_) | (intro _))
  all_goals first | rfl | trivial | (simp[oN];done) | (simp at *;done) | skip
  all_goals (simp at *;try omega)
  all_goals first | (simp_all[gK,eK,eN,eM,Es,zB,eA,eO];done) | (simp_all[gK,eK,eN,eM,Es,zB,eA,eO];omega) | grind[gK,eK,eN,eM,Es,zB,eA,eO]
theorem aef:aW aU.gd 141 anZ:=
 Lu (il:=Yd) (rc:=[.data (.sl shA)]) (cx:=aU) (n:=69) (cl:=[(139,VH)]) (by kernel_rfl) aA ⟨PX,trivial⟩ trivial Tryz.func141 (by kernel_rfl) (by kernel_rfl) rfl (by kernel_rfl) (by kernel_rfl) λd hd=>by
  obtain⟨⟨ag,ix,kd,ob,mu,en,od,rd,wr,⟨⟩⟩,⟨⟩⟩:=d;exact aS (λ_=>none) (ai4 ag ix kd ob mu en od rd wr hd) (by kernel_rfl)
def MS(l:List AD) (x:AD):Int:=if x∈l then(l.findIdx (λy=>decide (y=x)):Int) else -1
theorem VI(e:ED):(gK e).length<=2:=by
 unfold gK
 repeat' split
 all_goals simp
theorem an0{l:List AD}{a:AD}{x:Nat} (h:∀j,j < x->∀y,l[j]?=some y->¬y=a) (hx:l[x]?=some a):MS l a=x:=by
 obtain⟨hl,he⟩:=eU.1 hx;unfold MS;rw[if_pos (iJ hx)];have:l.findIdx (λy=>decide (y=a))=x:=(List.findIdx_eq hl).2 ⟨by simp[he],λj hj=>by
  have:=h j hj _ (kP (by omega))
  simpa using this⟩
 rw[this]
theorem an1{l:List AD}{a:AD} (h:∀j,j < l.length->∀y,l[j]?=some y->¬y=a):MS l a = -1:=by
 unfold MS;rw[if_neg];intro hm;obtain⟨j,hj,e⟩:=List.getElem_of_mem hm;exact h j hj _ (kP hj) e
theorem an2{l:List AD}{a:AD}:decide (0<=MS l a)=decide (a∈l):=by
 apply decide_eq_decide.2;unfold MS;split<;>rename_i h
 .simp[h]
 .simp[h]
theorem an3{a b:ED}{x y:AD}{i j:Nat} (hx:(gK a)[i]?=some x) (hy:(gK b)[j]?=some y) (h:DI x y=true):Eb a b=true:=
 A95.2 ⟨x,iJ hx,A95.2 ⟨y,iJ hy,h⟩⟩
theorem an4{a b:ED}{k:Nat} (hk:¬k < (gK a).length) (h:∀j,j < k->∀x,(gK a)[j]?=some x->(gK b).any (DI x)=false):Eb a b=false:=by
 unfold Eb;rw[Yx];intro x hx;obtain⟨j,hj,e⟩:=List.getElem_of_mem hx;have:=h j (by omega) x (by rw[kP hj,e])
 rw[show(λy=>DI x y)=DI x from rfl,this];simp
abbrev aeg:CT:={ ps:=[.sl shA,shA],pre:=λd=>d.1.length<=1000,res:=λd=>([],.one (.c (.v (.int .i64 (MS d.1 d.2.1))))) }
abbrev an5(l:List AD) (ak ai P9:Int) (aw:Bool):Nat->Option (St->kH):=λn=>match n with
 | 2=>some λ_=>.inv { α:=Nat,slots:=λk=>[(8,.c (.v (.int .i64 k)))],res:=λk=>[],inv:=λk=>k<=l.length/\∀j < k,∀y,l[j]?=some y->¬y=(ak,ai,P9,aw,()),meas:=λk=>l.length - k }
 | _=>none
theorem ai5(l:List AD) (ak ai P9:Int) (aw:Bool) (aH:aeg.pre (l,((ak,ai,P9,aw,()),()))):
 let z1:=λ(x:Nat)=>(x<=l.length/\∀(j:Nat),j < x->∀(y:Int×Int×Int×Bool×Unit),l[j]?=some y->¬y=(ak,ai,P9,aw,()));let z2:=[g0 (au.blk 158 [v6 ak,v6 ai,v6 P9,vb aw])];let z3:=MS l (ak,ai,P9,aw,());(∃x,(z1 x)/\(cI 0=cI (x:Int)/\True)/\sm z2)/\∀(x:Nat),(z1 x)->br (decide ((x:Int) < (l.length:Int))) ((0<=(x:Int)/\(x:Int) < (l.length:Int))/\∀(d:Int×(I6.pair (I6.pair (Sh.bool.pair Sh.unit))).den),l[(x:Int).toNat]?=some d->br (true && ak == d.fst && ai == d.snd.fst && P9 == d.snd.snd.fst && aw == d.snd.snd.snd.fst) (qI z3 (x:Int)) (dX IntKind.i64 ((x:Int)+(1:Int))/\∃x',(z1 x')/\(cI ((x:Int)+(1:Int))=cI (x':Int)/\True)/\sm z2/\l.length - x' < l.length - x)) (qI z3 (-1:Int)):=by
 conv=>zeta
 delta v6 vb cI g0 qI sm I6;have hl:l.length<=1000:=aH;refine⟨⟨0,⟨Iz _,λj hj=>by omega⟩,⟨rfl,trivial⟩,rfl⟩,λx hx=>ah.2 ⟨λg=>?_,λg=>?_⟩⟩
 .simp only[dV]at g;refine⟨⟨by omega,by omega⟩,λd hd=>ah.2 ⟨λg2=>⟨rfl,?_⟩,λg2=>⟨ay.2 (by omega),x+1,⟨by omega,λj hj y hy=>?_⟩,⟨rfl,trivial⟩,rfl,by omega⟩⟩⟩
  .obtain⟨d1,d2,d3,d4,⟨⟩⟩:=d;have hd:l[x]?=some (d1,d2,d3,d4,()):=hd;simp only[Iw,A8,yR]at g2;obtain⟨⟨⟨q1,q2⟩,q3⟩,q4⟩:=g2;rw[an0 hx.2 (by rw[hd,q1,q2,q3,q4])]
  .by_cases hjx:j=x
   .subst hjx;have hd:l[j]?=some d:=hd;rw[hd]at hy;cases hy;intro e;subst e;simp at g2
   .exact hx.2 j (by omega) y hy
 simp only[gG]at g;refine⟨rfl,?_⟩;rw[an1 λj hj=>hx.2 j (by omega)]
theorem aeh:aW aU.gd 182 aeg:=
 kL (cx:=aU) (n:=19) (cl:=[]) aA trivial Tryz.func182 λd hd=>by
  obtain⟨l,⟨⟨ak,ai,P9,aw,⟨⟩⟩,⟨⟩⟩⟩:=d;exact aS (an5 l ak ai P9 aw) (ai5 l ak ai P9 aw hd) (by kernel_rfl)
abbrev aei:CT:={ ps:=[.sl shA,shA],pre:=λd=>d.1.length<=1000,res:=λd=>([],vB (decide (d.2.1∈d.1))) }
theorem ai6(l:List AD) (ak ai P9:Int) (aw:Bool) (aH:aei.pre (l,((ak,ai,P9,aw,()),()))):
 l.length<=1000/\qB (decide ((ak,ai,P9,aw,())∈l)) (decide (0<=MS l (ak,ai,P9,aw,()))):=by
 delta qB;exact⟨aH,rfl,oV (λb=>bg.one (SV.c (SC.v (Value.bool b)))) an2.symm⟩
theorem aej:aW aU.gd 142 aei:=
 kL (cx:=aU) (n:=9) (cl:=[(182,aeg)]) aA ⟨aeh,trivial⟩ Tryz.func142 λd hd=>by
  obtain⟨l,⟨⟨ak,ai,P9,aw,⟨⟩⟩,⟨⟩⟩⟩:=d;exact aS (λ_=>none) (ai6 l ak ai P9 aw hd) (by kernel_rfl)
abbrev an6:CT:={ ps:=[XQ,XQ],pre:=λd=>ku d.1=true/\ku d.2.1=true/\-9223372036854775808<=eA d.1/\-9223372036854775808<=eA d.2.1,res:=λd=>([],vB (Eb d.1 d.2.1)) }
abbrev aqt(nV uj o8 rQ uo rP uq uw uy rM yu x9 yc yw yx yA yB wr2:Int):Nat->Option (St->kH):=λn=>match n with
 | 3=>some λ_=>.inv { α:=Nat,slots:=λk=>[(16,.c (.v (.int .i64 k)))],res:=λk=>[],inv:=λk=>k<=(gK (nV,uj,o8,rQ,uo,rP,uq,uw,uy,())).length/\∀j < k,∀x,(gK (nV,uj,o8,rQ,uo,rP,uq,uw,uy,()))[j]?=some x->((gK (rM,yu,x9,yc,yw,yx,yA,yB,wr2,()))).any (DI x)=false,meas:=λk=>(gK (nV,uj,o8,rQ,uo,rP,uq,uw,uy,())).length - k }
 | 6=>some λs=>.inv { α:=Nat,slots:=λk=>[(22,.c (.v (.int .i64 k)))],res:=λk=>[],inv:=λk=>k<=2/\∀j < k,(((gK (nV,uj,o8,rQ,uo,rP,uq,uw,uy,())).getD (aI s 16).toNat default).2.2.2.1 || decide (j=1))=true->(((gK (nV,uj,o8,rQ,uo,rP,uq,uw,uy,())).getD (aI s 16).toNat default).1,((gK (nV,uj,o8,rQ,uo,rP,uq,uw,uy,())).getD (aI s 16).toNat default).2.1,((gK (nV,uj,o8,rQ,uo,rP,uq,uw,uy,())).getD (aI s 16).toNat default).2.2.1,decide (j=1),())∉(gK (rM,yu,x9,yc,yw,yx,yA,yB,wr2,())),meas:=λk=>2 - k }
 | _=>none
theorem an7(nV uj o8 rQ uo rP uq uw uy rM yu x9 yc yw yx yA yB wr2:Int) (aH:an6.pre ((nV,uj,o8,rQ,uo,rP,uq,uw,uy,()),(rM,yu,x9,yc,yw,yx,yA,yB,wr2,()),())):
 let z12:=(rM,yu,x9,yc,yw,yx,yA,yB,wr2,());let z13:=(nV,uj,o8,rQ,uo,rP,uq,uw,uy,());let z10:=gK z13;let z11:=gK z12;let z8:=[v6 nV,v6 uj,v6 o8,v6 rQ,v6 uo,v6 rP,v6 uq,v6 uw,v6 uy];let z9:=[v6 rM,v6 yu,v6 x9,v6 yc,v6 yw,v6 yx,v6 yA,v6 yB,v6 wr2];let z4:=[g0 (au.blk 49 z8),g0 (au.blk 49 z9)];let z7:=λ(x:Nat)=>z10.getD (x:Int).toNat default;let z5:=λ(x j:Nat)=>(z7 x).snd.snd.snd.fst || decide (j=1);let z3:=λ(x j:Nat)=>((z7 x).fst,(z7 x).snd.fst,(z7 x).snd.snd.fst,decide (j=1),());let z1:=λ(x_1 x:Nat)=>(x_1<=2/\∀(j:Nat),j < x_1->(z5 x j)=true->¬(z3 x j)∈gK z12);let z2:=λ(d:Int×(I6.pair (I6.pair (Sh.bool.pair Sh.unit))).den)=>[g0 (au.blk 49 z8),g0 (au.blk 49 z9),g0 (au.blk 158 [v6 d.fst,v6 d.snd.fst,v6 d.snd.snd.fst,vb d.snd.snd.snd.fst]),g0 (au.row 4 Sh.bool [false,true])];let z6:=Eb z13 z12;let zx:=λ(x_1:Nat)=>(x_1:Int)+(1:Int);(ku z12=true/\(-9223372036854775808)<=eA z12)/\(ku z13=true/\(-9223372036854775808)<=eA z13)/\(∃x,(x<=z10.length/\∀(j:Nat),j < x->∀(x:Int×Int×Int×Bool×Unit),z10[j]?=some x->z11.any (DI x)=false)/\(cI 0=cI (x:Int)/\True)/\sm z4)/\∀(x:Nat),(x<=z10.length/\∀(j:Nat),j < x->∀(x:Int×Int×Int×Bool×Unit),z10[j]?=some x->z11.any (DI x)=false)->br (decide ((x:Int) < (z10.length:Int))) ((0<=(x:Int)/\(x:Int) < (z10.length:Int))/\∀(d:Int×(I6.pair (I6.pair (Sh.bool.pair Sh.unit))).den),z10[(x:Int).toNat]?=some d->(∃x_1,(z1 x_1 x)/\(cI 0=cI (x_1:Int)/\True)/\sm (z2 d))/\∀(x_1:Nat),(z1 x_1 x)->br (decide ((x_1:Int) < (2:Int))) ((0<=(x_1:Int)/\(x_1:Int) < (2:Int))/\(x_1:Int).toNat < 2/\∀(dJ:Bool),[false,true][(x_1:Int).toNat]?=some dJ->((d.snd.snd.snd.fst || dJ)=true->z11.length<=1000)/\br ((d.snd.snd.snd.fst || dJ) && decide ((d.fst,d.snd.fst,d.snd.snd.fst,dJ,())∈gK z12)) (qB z6 true) (dX IntKind.i64 (zx x_1)/\∃x',(x'<=2/\∀(j:Nat),j < x'->(z5 x j)=true->¬(z3 x j)∈gK z12)/\(cI (zx x_1)=cI (x':Int)/\True)/\sm (z2 d)/\2 - x' < 2 - x_1)) (dX IntKind.i64 (zx x)/\∃x',(x'<=z10.length/\∀(j:Nat),j < x'->∀(x:Int×Int×Int×Bool×Unit),z10[j]?=some x->z11.any (DI x)=false)/\(cI (zx x)=cI (x':Int)/\True)/\sm z4/\z10.length - x' < z10.length - x)) (qB z6 false):=by
 conv=>zeta
 delta v6 vb cI g0 qB sm I6;obtain⟨hv1,hv2,ha,hb⟩:ku (nV,uj,o8,rQ,uo,rP,uq,uw,uy,())=true/\ku (rM,yu,x9,yc,yw,yx,yA,yB,wr2,())=true/\-9223372036854775808<=eA (nV,uj,o8,rQ,uo,rP,uq,uw,uy,())/\-9223372036854775808<=eA (rM,yu,x9,yc,yw,yx,yA,yB,wr2,()):=aH;have l1:=VI (nV,uj,o8,rQ,uo,rP,uq,uw,uy,());have l2:=VI (rM,yu,x9,yc,yw,yx,yA,yB,wr2,());refine⟨⟨hv2,hb⟩,⟨hv1,ha⟩,⟨0,⟨Iz _,λj hj=>by omega⟩,⟨rfl,trivial⟩,rfl⟩,λx hx=>ah.2 ⟨λg=>?_,λg=>?_⟩⟩
 .simp only[dV]at g;have gx:x < (gK (nV,uj,o8,rQ,uo,rP,uq,uw,uy,())).length:=by omega
  refine⟨⟨by omega,by omega⟩,λd hd=>?_⟩
  have hd:(gK (nV,uj,o8,rQ,uo,rP,uq,uw,uy,()))[x]?=some d:=hd;rw[show(gK (nV,uj,o8,rQ,uo,rP,uq,uw,uy,())).getD (x:Int).toNat default=d by rw[show((x:Int)).toNat=x from rfl,Jk,hd];rfl]
  refine⟨⟨0,⟨Iz _,λj hj=>by omega⟩,⟨rfl,trivial⟩,rfl⟩,λy hy=>ah.2 ⟨λg2=>?_,λg2=>?_⟩⟩
  .simp only[dV]at g2;have gy:y < 2:=by omega
   refine⟨⟨by omega,by omega⟩,by omega,λd1 hd1=>⟨λ_=>by omega,?_⟩⟩
   have e1:d1=decide (y=1):=by
    have hd1:[false,true][y]?=some d1:=hd1;rcases(by omega:y=0\/y=1) with h | h<;>subst h<;>cases hd1<;>rfl
   refine ah.2 ⟨λg3=>⟨rfl,?_⟩,λg3=>⟨ay.2 (by omega),y+1,⟨by omega,λj hj hz hm=>?_⟩,⟨rfl,trivial⟩,rfl,by omega⟩⟩
   .simp only[A8,dV]at g3;obtain⟨j,hj,e⟩:=List.getElem_of_mem g3.2;rw[an3 hd (by rw[kP hj,e]) (by simpa[DI]using g3.1)]
   .by_cases hjy:j=y
    .subst hjy;rw[<-e1]at hz hm;have g3:((d.2.2.2.1 || d1) && decide ((d.1,d.2.1,d.2.2.1,d1,())∈gK (rM,yu,x9,yc,yw,yx,yA,yB,wr2,())))=false:=g3
     rw[hz,Iw,gG]at g3;exact g3 hm
    .exact hy.2 j (by omega) hz hm
  .simp only[gG]at g2;refine⟨ay.2 (by omega),x+1,⟨by omega,λj hj z hz=>?_⟩,⟨rfl,trivial⟩,rfl,by omega⟩
   by_cases hjx:j=x
   .subst hjx;rw[hd]at hz;cases hz;rw[Yx];intro w hw hh;obtain⟨w1,w2,w3,w4,⟨⟩⟩:=w;simp only[DI,A8,yR]at hh;obtain⟨⟨⟨q1,q2⟩,q3⟩,q4⟩:=hh;subst q1 q2 q3;cases w4
    .exact hy.2 0 (by omega) (by simpa using q4) hw
    .exact hy.2 1 (by omega) (by simp) hw
   .exact hx.2 j (by omega) z hz
 simp only[gG]at g;exact⟨rfl,by rw[an4 (k:=x) (by omega) hx.2]⟩
theorem ai7:aW aU.gd 73 an6:=
 kL (cx:=aU) (n:=41) (cl:=[(141,anZ),(142,aei)]) aA ⟨aef,aej,trivial⟩ Tryz.func73 λd hd=>by
  obtain⟨⟨nV,uj,o8,rQ,uo,rP,uq,uw,uy,⟨⟩⟩,⟨rM,yu,x9,yc,yw,yx,yA,yB,wr2,⟨⟩⟩,⟨⟩⟩:=d;exact aS (aqt nV uj o8 rQ uo rP uq uw uy rM yu x9 yc yw yx yA yB wr2) (an7 nV uj o8 rQ uo rP uq uw uy rM yu x9 yc yw yx yA yB wr2 hd) (by kernel_rfl)
abbrev an8:CT:={ ps:=[XQ,XQ],pre:=λd=>bE d.1/\bE d.2.1,res:=λd=>([],vB (Jj d.1 d.2.1)) }
theorem an9(nV uj o8 rQ uo rP uq uw uy rM yu x9 yc yw yx yA yB wr2:Int) (aH:an8.pre ((nV,uj,o8,rQ,uo,rP,uq,uw,uy,()),(rM,yu,x9,yc,yw,yx,yA,yB,wr2,()),())):
 let z2:=(nV,uj,o8,rQ,uo,rP,uq,uw,uy,());let z3:=(rM,yu,x9,yc,yw,yx,yA,yB,wr2,());let z1:=Jj z2 z3;True/\((!!ku z2)=true->True)/\br (!ku z2 || !ku z3) (qB z1 false) (((!decide (nV=rM))=true->(-9223372036854775808)<=eA z3)/\((!(decide (nV=rM) || rJ z2 z3))=true->(-9223372036854775808)<=eA z2)/\((!(decide (nV=rM) || rJ z2 z3 || rJ z3 z2))=true->eA z2<=9223372036854775807/\(eK z2=4->eA z2 < 0))/\((!(decide (nV=rM) || rJ z2 z3 || rJ z3 z2 || zC z2 z3))=true->eA z3<=9223372036854775807/\(eK z3=4->eA z3 < 0))/\((!(decide (nV=rM) || rJ z2 z3 || rJ z3 z2 || zC z2 z3 || zC z3 z2))=true->ku z2=true/\ku z3=true/\(-9223372036854775808)<=eA z2/\(-9223372036854775808)<=eA z3)/\qB z1 (decide (nV=rM) || rJ z2 z3 || rJ z3 z2 || zC z2 z3 || zC z3 z2 || Eb z2 z3)):=by
 conv=>zeta
 delta qB;obtain⟨⟨p1,p2⟩,p3,p4⟩:bE (nV,uj,o8,rQ,uo,rP,uq,uw,uy,())/\bE (rM,yu,x9,yc,yw,yx,yA,yB,wr2,()):=aH;refine⟨trivial,λ_=>trivial,ah.2 ⟨λh=>⟨rfl,?_⟩,λh=>?_⟩⟩
 .have e:Jj (nV,uj,o8,rQ,uo,rP,uq,uw,uy,()) (rM,yu,x9,yc,yw,yx,yA,yB,wr2,())=false:=by
   unfold Jj;revert h;cases ku (nV,uj,o8,rQ,uo,rP,uq,uw,uy,())<;>cases ku (rM,yu,x9,yc,yw,yx,yA,yB,wr2,())<;>simp
  rw[e]
 have h1:ku (nV,uj,o8,rQ,uo,rP,uq,uw,uy,())=true:=by
  revert h;cases ku (nV,uj,o8,rQ,uo,rP,uq,uw,uy,())<;>simp
 have h2:ku (rM,yu,x9,yc,yw,yx,yA,yB,wr2,())=true:=by
  revert h;cases ku (rM,yu,x9,yc,yw,yx,yA,yB,wr2,())<;>simp
 refine⟨λ_=>p3,λ_=>p1,λ_=>⟨p2,(PY h1).2⟩,λ_=>⟨p4,(PY h2).2⟩,λ_=>⟨h1,h2,p1,p3⟩,rfl,?_⟩
 refine oV (λb=>bg.one (SV.c (SC.v (Value.bool b)))) ?_
 unfold Jj;rw[h1,h2];rfl
theorem ai8:aW aU.gd 29 an8:=
 kL (cx:=aU) (n:=43) (cl:=[(70,aqs),(71,anW),(72,aee),(73,an6)]) aA ⟨ai1,ai2,ai3,ai7,trivial⟩ Tryz.func29 λd hd=>by
  obtain⟨⟨nV,uj,o8,rQ,uo,rP,uq,uw,uy,⟨⟩⟩,⟨rM,yu,x9,yc,yw,yx,yA,yB,wr2,⟨⟩⟩,⟨⟩⟩:=d;exact aS (λ_=>none) (an9 nV uj o8 rQ uo rP uq uw uy rM yu x9 yc yw yx yA yB wr2 hd) (by kernel_rfl)
def BO(n:Nat) (x:Int):Int:=if x.tmod (n:Int) < 0 then x.tmod (n:Int)+n else x.tmod (n:Int)
theorem VJ{n:Nat} (h:n≠0) (x:Int):0<=BO n x/\BO n x < n:=by
 unfold BO;have h1:=Int.tmod_lt_of_pos x (show(0:Int) < n by omega)
 have h2:=Int.lt_tmod_of_pos x (show(0:Int) < n by omega)
 split<;>omega
def oz(vs:List VD) (ms cs:List ByteArray) (fs:List FD) (ts:List SD) (bound:Int):List Int->ZD->ZD×Bool
 | [],z=>(z,true)
 | x :: l,z=>if fC vs ms cs fs ts z.1 z.2.1 z.2.2.1=[] then(z,true)
   else if(bJ vs ms cs fs ts bound z ((fC vs ms cs fs ts z.1 z.2.1 z.2.2.1).getD (BO (fC vs ms cs fs ts z.1 z.2.1 z.2.2.1).length x).toNat 0)).2.2≠0 then(z,false)
   else oz vs ms cs fs ts bound l (bJ vs ms cs fs ts bound z ((fC vs ms cs fs ts z.1 z.2.1 z.2.2.1).getD (BO (fC vs ms cs fs ts z.1 z.2.1 z.2.2.1).length x).toNat 0)).1
section
variable {vs:List VD}{ms cs:List ByteArray}{fs:List FD}{ts:List SD}{bound:Int}{z:ZD}
theorem Inv.v32(I:Inv vs ms cs fs ts bound z):VS vs ms cs fs ts 32 z.1 z.2.1 z.2.2.1:=aiL I.ok I.va
theorem VK(I:Inv vs ms cs fs ts bound z){x:Int}:x∈fC vs ms cs fs ts z.1 z.2.1 z.2.2.1↔∃t i,t∈z.1/\t.1=x/\dY (aF vs ms cs fs ts).1 ms fs t=(i,true)/\rO z.1 z.2.1 t i=true:=by
 unfold fC;rw[if_pos (jr.2 I.v32)];unfold zy;rw[Qn];constructor
 .rintro⟨t,ht,rfl⟩;obtain⟨h1,h2⟩:=VZ.1 ht;unfold XT at h2;rw[A8]at h2;exact⟨t,_,h1,rfl,Prod.ext rfl h2.1,h2.2⟩
 .rintro⟨t,i,h1,rfl,h2,h3⟩;exact⟨t,VZ.2 ⟨h1,by unfold XT;rw[h2];simpa using h3⟩,rfl⟩
theorem VL(I:Inv vs ms cs fs ts bound z):(fC vs ms cs fs ts z.1 z.2.1 z.2.2.1).length<=z.1.length:=by
 unfold fC;rw[if_pos (jr.2 I.v32)];unfold zy;rw[Yp];exact Yu _ _
theorem VN(I:Inv vs ms cs fs ts bound z) (hl:z.1.length<=60){t:TD}{i:ID} (hm:t∈z.1) (hp:dY (aF vs ms cs fs ts).1 ms fs t=(i,true)) (he:rO z.1 z.2.1 t i=true):
 (bJ vs ms cs fs ts bound z t.1).2=(labS z.2.1 t i,0)/\Inv vs ms cs fs ts bound (bJ vs ms cs fs ts bound z t.1).1/\(bJ vs ms cs fs ts bound z t.1).1.1.length=z.1.length+(if(labS z.2.1 t i).2.2.1=16 then 1 else 0):=by
 have hft:=jv I.va.2.2.2 hm;obtain⟨ok0,nw0⟩:=Dy I hl hm hp he;have h0:=(kG I hl hm hp).2.2.2.2;have h:=Tc I.ok I.va hft hp he ((Fg I.fm (by rw[kN];exact h0)).2 ok0) nw0
 obtain⟨t',i',adY,hp',_,_,_,ee,_,hlen,_⟩:=wW I.r8 (by omega) (I.bm hl) h
 rw[hft]at adY;cases adY;rw[hp]at hp';cases hp';exact⟨Prod.ext ee h,BM I hl h,hlen⟩
theorem aek(I:Inv vs ms cs fs ts bound z){t:TD}{i:ID} (hm:t∈z.1) (hp:dY (aF vs ms cs fs ts).1 ms fs t=(i,true)):yj vs ms cs fs ts z.1 z.2.1 z.2.2.1 t.1=(labS z.2.1 t i,true):=by
 unfold yj;rw[if_pos (jr.2 I.v32)];unfold jE;rw[jv I.va.2.2.2 hm];simp only[hp];rfl
theorem PZ(I:Inv vs ms cs fs ts bound z) (hl:z.1.length<=60) (hne:fC vs ms cs fs ts z.1 z.2.1 z.2.2.1≠[]){k:Nat} (hk:k < (fC vs ms cs fs ts z.1 z.2.1 z.2.2.1).length):
 (bJ vs ms cs fs ts bound z ((fC vs ms cs fs ts z.1 z.2.1 z.2.2.1).getD k 0)).2.2=0/\Inv vs ms cs fs ts bound (bJ vs ms cs fs ts bound z ((fC vs ms cs fs ts z.1 z.2.1 z.2.2.1).getD k 0)).1/\(bJ vs ms cs fs ts bound z ((fC vs ms cs fs ts z.1 z.2.1 z.2.2.1).getD k 0)).1.1.length<=z.1.length+1:=by
 have hm:(fC vs ms cs fs ts z.1 z.2.1 z.2.2.1).getD k 0∈fC vs ms cs fs ts z.1 z.2.1 z.2.2.1:=by
  rw[Jk,kP hk];exact List.getElem_mem hk
 obtain⟨t,i,h1,h2,h3,h4⟩:=(VK I).1 hm;rw[<-h2];obtain⟨a,b,c⟩:=VN I hl h1 h3 h4;exact⟨by rw[a],b,by rw[c];split<;>omega⟩
theorem VO:∀(l:List Int){z:ZD},Inv vs ms cs fs ts bound z->z.1.length+l.length<=60->(oz vs ms cs fs ts bound l z).2=true/\Inv vs ms cs fs ts bound (oz vs ms cs fs ts bound l z).1/\(oz vs ms cs fs ts bound l z).1.1.length<=z.1.length+l.length
 | [],z,I,h=>⟨rfl,I,by simp[oz]⟩
 | x :: l,z,I,h=>by
   simp only[yP]at h;rw[oz];split
   .exact⟨rfl,I,by simp⟩
   .rename_i hne;have hn:(fC vs ms cs fs ts z.1 z.2.1 z.2.2.1).length≠0:=λq=>hne (List.length_eq_zero_iff.1 q)
    have hp:=VJ hn x;obtain⟨a,b,c⟩:=PZ I (by omega) hne (k:=(BO (fC vs ms cs fs ts z.1 z.2.1 z.2.2.1).length x).toNat) (by omega)
    rw[if_neg (by omega)]
    obtain⟨p,q,r⟩:=VO l b (by omega)
    exact⟨p,q,by simp only[yP];omega⟩
end
theorem ael{vs:List VD}{ms cs:List ByteArray}{fs:List FD}{ts:List SD}{bound:Int}{z:ZD} (h:fC vs ms cs fs ts z.1 z.2.1 z.2.2.1=[]) (l:List Int):oz vs ms cs fs ts bound l z=(z,true):=by
 cases l with
 | nil=>rfl
 | cons x l=>rw[oz,if_pos h]
theorem aem{vs:List VD}{ms cs:List ByteArray}{fs:List FD}{ts:List SD}{bound:Int}{z:ZD}{x y:Int}{l:List Int} (h:fC vs ms cs fs ts z.1 z.2.1 z.2.2.1≠[]) (hy:y=(fC vs ms cs fs ts z.1 z.2.1 z.2.2.1).getD (BO (fC vs ms cs fs ts z.1 z.2.1 z.2.2.1).length x).toNat 0)
 (h2:(bJ vs ms cs fs ts bound z y).2.2=0):oz vs ms cs fs ts bound (x :: l) z=oz vs ms cs fs ts bound l (bJ vs ms cs fs ts bound z y).1:=by
 subst hy;rw[oz,if_neg h,if_neg (by omega)]
theorem VP{S:ZD×Bool}{a:ZD}{b:Bool} (h:S=(a,b)):rT [Du S.1,cB S.2] [Du a,cB b]:=by subst h;exact⟨rfl,rfl⟩
theorem Inv.bb{vs:List VD}{ms cs:List ByteArray}{fs:List FD}{ts:List SD}{bound:Int}{z:ZD} (I:Inv vs ms cs fs ts bound z):uT z.2.2.1:=by rw[I.va.2.1];exact⟨by decide,λb hb=>nomatch hb⟩
abbrev aen:CT:={ ps:=[tK,.int .i64,.sl (.int .i64)],pre:=λd=>bnd (d.1,())/\dI (aF d.1.1 d.1.2.1 d.1.2.2.1 d.1.2.2.2.1 d.1.2.2.2.2.1).1 d.2.1=0/\d.1.2.2.2.2.1.length<=20/\d.2.2.1.length<=40,res:=λd=>([],.iR [Du ((oz d.1.1 d.1.2.1 d.1.2.2.1 d.1.2.2.2.1 d.1.2.2.2.2.1 d.2.1 d.2.2.1 (qx d.1.1 d.1.2.1 d.1.2.2.1 d.1.2.2.2.1 d.1.2.2.2.2.1 d.2.1).1).1),.c (.v (.bool ((oz d.1.1 d.1.2.1 d.1.2.2.1 d.1.2.2.2.1 d.1.2.2.2.2.1 d.2.1 d.2.2.1 (qx d.1.1 d.1.2.1 d.1.2.2.1 d.1.2.2.2.1 d.1.2.2.2.2.1 d.2.1).1).2)))]) }
abbrev aqu(vs:List VD) (ms cs:List ByteArray) (fs:List FD) (ts:List SD) (bound:Int) (pk:List Int):Nat->Option (St->kH):=λk=>match k with
 | 5=>some λ_=>.inv { α:=Nat×ZD,slots:=λa=>[(10,.c (.v (.int .i64 a.1)))],res:=λa=>[(2,bZ (a.2).1 (a.2).2.1.1 (a.2).2.1.2.1 (a.2).2.1.2.2.1 (a.2).2.1.2.2.2.1 (a.2).2.2.1)],inv:=λa=>a.1<=pk.length/\oz vs ms cs fs ts bound pk (qx vs ms cs fs ts bound).1=oz vs ms cs fs ts bound (pk.drop a.1) a.2/\Inv vs ms cs fs ts bound a.2/\a.2.1.length<=20+a.1,meas:=λa=>pk.length - a.1 }
 | _=>none
theorem aoa(vs:List VD) (ms cs:List ByteArray) (fs:List FD) (ts:List SD) (bound:Int) (pk:List Int) (aH:aen.pre ((vs,ms,cs,fs,ts,()),bound,pk,())):
 let Dn:=bnd ((vs,ms,cs,fs,ts,()),());let z17:=qx vs ms cs fs ts bound;let zx:=oz vs ms cs fs ts bound pk z17.fst;let z11:=[Du (zx.fst),cB (zx.snd)];let z6:=λ(x:Nat×ZD)=>x.fst<=pk.length/\oz vs ms cs fs ts bound pk z17.fst=oz vs ms cs fs ts bound (List.drop x.fst pk) x.snd/\Inv vs ms cs fs ts bound x.snd/\x.snd.fst.length<=20+x.fst;let SB:=bP vs ms cs fs ts;let z5:=λ(x:Nat×ZD)=>[g0 SB,g0 (au.blk 37 Pz),g0 (au.blk 37 [SC.sl dQ x.snd.fst,SC.sl I6 x.snd.snd.fst.fst,SC.sl I6 x.snd.snd.fst.snd.fst,SC.sl I6.sl x.snd.snd.fst.snd.snd.fst,SC.sl I6 x.snd.snd.fst.snd.snd.snd.fst,SC.sl yO x.snd.snd.snd.fst])];let z12:=λ(x:Nat×ZD)=>fC vs ms cs fs ts x.snd.fst x.snd.snd.fst x.snd.snd.snd.fst;let z9:=λ(x:Nat×ZD)=>rT z11 [Du x.snd,cB true];let z7:=λ(d:Int) (x:Nat×ZD)=>d.tmod (↑(z12 x).length:Int)+(↑(z12 x).length:Int);let z10:=λ(x:Nat×ZD)=>Dn/\iI x.snd.fst/\List.length x.snd.fst<=999999/\oq x.snd.snd.fst=true/\uT x.snd.snd.snd.fst;let oH:=λ(x:Nat×ZD) (dJ:Int)=>bJ vs ms cs fs ts bound x.snd dJ;let z13:=λ(x:Nat×ZD) (dJ:Int)=>!decide ((oH x dJ).snd.snd=0);let z8:=λ(x:Nat×ZD)=>rT z11 [Du x.snd,cB false];let z4:=λ(x:Nat×ZD) (dJ:Int)=>(dX IntKind.i64 ((x.fst:Int)+(1:Int))/\∃(x':Nat×ZD),(z6 x')/\(cI ((x.fst:Int)+(1:Int))=cI (x'.fst:Int)/\True)/\[g0 SB,g0 (au.blk 37 Pz),g0 (au.blk 37 [SC.sl dQ (oH x dJ).fst.fst,SC.sl I6 (oH x dJ).fst.snd.fst.fst,SC.sl I6 (oH x dJ).fst.snd.fst.snd.fst,SC.sl I6.sl (oH x dJ).fst.snd.fst.snd.snd.fst,SC.sl I6 (oH x dJ).fst.snd.fst.snd.snd.snd.fst,SC.sl yO (oH x dJ).fst.snd.snd.fst])]=(z5 x')/\pk.length - x'.fst < pk.length - x.fst);let z2:=λ(x:Nat×ZD) (dJ:Int)=>(z10 x)/\br (z13 x dJ) (z8 x) (z4 x dJ)/\br (z13 x dJ) (z8 x) (z4 x dJ);let z3:=λ(x:Nat×ZD) (dJ:Int)=>(z10 x)/\br (z13 x dJ) (z8 x) (z4 x dJ);let z1:=λ(x:Nat×ZD) (dJ:Int)=>(z3 x dJ)/\(z10 x)/\br (z13 x dJ) (z8 x) (z4 x dJ);Dn/\br (!decide (z17.snd=0)) (rT z11 [Du (z17.fst),cB false]) ((∃(x:Nat×ZD),(z6 x)/\(cI 0=cI (x.fst:Int)/\True)/\[g0 SB,g0 (au.blk 37 Pz),g0 (au.blk 37 [SC.sl dQ z17.fst.fst,SC.sl I6 z17.fst.snd.fst.fst,SC.sl I6 z17.fst.snd.fst.snd.fst,SC.sl I6.sl z17.fst.snd.fst.snd.snd.fst,SC.sl I6 z17.fst.snd.fst.snd.snd.snd.fst,SC.sl yO z17.fst.snd.snd.fst])]=(z5 x))/\∀(x:Nat×ZD),x.fst<=pk.length/\oz vs ms cs fs ts bound pk z17.fst=oz vs ms cs fs ts bound (List.drop x.fst pk) x.snd/\Inv vs ms cs fs ts bound x.snd/\x.snd.fst.length<=20+x.fst->br (decide ((x.fst:Int) < (pk.length:Int))) ((Dn/\iI x.snd.fst/\bK x.snd.snd.fst)/\br (decide ((↑(z12 x).length:Int)=(0:Int))) (z9 x) ((0<=(x.fst:Int)/\(x.fst:Int) < (pk.length:Int))/\∀(d:Int),pk[(x.fst:Int).toNat]?=some d->(↑(z12 x).length:Int)≠(0:Int)/\br (decide (d.tmod (↑(z12 x).length:Int) < (0:Int))) (dX IntKind.i64 (z7 d x)/\(0<=d.tmod (↑(z12 x).length:Int)+(↑(z12 x).length:Int)/\d.tmod (↑(z12 x).length:Int)+(↑(z12 x).length:Int) < (↑(z12 x).length:Int))/\∀(dJ:Int),(z12 x)[(z7 d x).toNat]?=some dJ->(z2 x dJ)/\(z1 x dJ)/\(z3 x dJ)/\(z10 x)/\br (z13 x dJ) (z8 x) (z4 x dJ)) ((0<=d.tmod (↑(z12 x).length:Int)/\d.tmod (↑(z12 x).length:Int) < (↑(z12 x).length:Int))/\∀(dJ:Int),(z12 x)[(d.tmod (↑(z12 x).length:Int)).toNat]?=some dJ->(z2 x dJ)/\(z1 x dJ)/\(z3 x dJ)/\(z10 x)/\br (z13 x dJ) (z8 x) (z4 x dJ)))) (z9 x)):=by
 conv=>zeta
 delta Pz;obtain⟨hb,hs,hts,hpk⟩:bnd ((vs,ms,cs,fs,ts,()),())/\dI (aF vs ms cs fs ts).1 bound=0/\ts.length<=20/\pk.length<=40:=aH;have hS:qx vs ms cs fs ts bound=((nC (aF vs ms cs fs ts).1 fs bound ts,(qw vs ms cs fs ts).1,[],()),0):=by unfold qx;rw[if_neg (by omega)]
 have I0:Inv vs ms cs fs ts bound (qx vs ms cs fs ts bound).1:=by rw[hS];exact Vz hs
 have hl0:(qx vs ms cs fs ts bound).1.1.length<=20:=by rw[hS];show(nC _ _ _ _).length<=20;rw[MN];exact hts
 have h0:(qx vs ms cs fs ts bound).2=0:=by rw[hS]
 generalize qx vs ms cs fs ts bound=S at I0 hl0 h0 ⊢;obtain⟨z0,e0⟩:=S;dsimp only at I0 hl0 h0 ⊢;refine⟨hb,ah.2 ⟨λh=>by rw[h0]at h;simp at h,λ_=>⟨⟨(0,z0),⟨by simp,rfl,I0,by simpa using hl0⟩,⟨rfl,trivial⟩,rfl⟩,λx hx=>?_⟩⟩⟩
 obtain⟨k,z⟩:=x;obtain⟨hk,hr,I,hl⟩:=hx;dsimp only at hk hr I hl ⊢;have SX:z.1.length<=60:=by omega
 refine ah.2 ⟨λg=>⟨⟨hb,I.bt SX,I.bm SX⟩,ah.2 ⟨λg2=>VP ?_,λg2=>?_⟩⟩,λg=>VP ?_⟩
 .rw[hr];exact ael (List.length_eq_zero_iff.1 (by have:=Qg g2;omega)) _
 .have g:(k:Int) < (pk.length:Int):=Qg g;have g2:¬((fC vs ms cs fs ts z.1 z.2.1 z.2.2.1).length:Int)=0:=A93 g2;have hne:fC vs ms cs fs ts z.1 z.2.1 z.2.2.1≠[]:=λq=>g2 (by rw[q];rfl)
  have hn:(fC vs ms cs fs ts z.1 z.2.1 z.2.2.1).length≠0:=by omega
  refine⟨⟨by omega,g⟩,λd hd=>⟨g2,?_⟩⟩
  have hpr:=VJ hn d;have hd:pk[k]?=some d:=hd;have hdr:pk.drop k=d :: pk.drop (k+1):=by
   have iq:k < pk.length:=by omega
   rw[List.drop_eq_getElem_cons iq];rw[kP iq]at hd;rw[MX hd]
  have P:bnd ((vs,ms,cs,fs,ts,()),())/\iI z.1/\z.1.length<=999999/\oq z.2.1=true/\uT z.2.2.1:=⟨hb,I.bt SX,by omega,I.few SX,I.bb⟩
  have key:∀d1,(fC vs ms cs fs ts z.1 z.2.1 z.2.2.1)[(BO (fC vs ms cs fs ts z.1 z.2.1 z.2.2.1).length d).toNat]?=some d1->(bJ vs ms cs fs ts bound z d1).2.2=0/\Inv vs ms cs fs ts bound (bJ vs ms cs fs ts bound z d1).1/\(bJ vs ms cs fs ts bound z d1).1.1.length<=20+(k+1)/\oz vs ms cs fs ts bound pk z0=oz vs ms cs fs ts bound (pk.drop (k+1)) (bJ vs ms cs fs ts bound z d1).1:=by
   intro d1 hd1;have e:d1=(fC vs ms cs fs ts z.1 z.2.1 z.2.2.1).getD (BO (fC vs ms cs fs ts z.1 z.2.1 z.2.2.1).length d).toNat 0:=by rw[Jk,hd1];rfl
   obtain⟨p1,p2,p3⟩:=PZ I SX hne (k:=(BO (fC vs ms cs fs ts z.1 z.2.1 z.2.2.1).length d).toNat) (by omega)
   rw[<-e]at p1 p2 p3;exact⟨p1,p2,by omega,by rw[hr,hdr];exact aem hne e p1⟩
  refine ah.2 ⟨λg3=>?_,λg3=>?_⟩
  .have g3:=Qg g3;have ep:d.tmod ((fC vs ms cs fs ts z.1 z.2.1 z.2.2.1).length:Int)+((fC vs ms cs fs ts z.1 z.2.1 z.2.2.1).length:Int)=BO (fC vs ms cs fs ts z.1 z.2.1 z.2.2.1).length d:=by unfold BO;rw[if_pos g3]
   have hle:=VL I;rw[ep];refine⟨ay.2 (by omega),hpr,λd1 hd1=>?_⟩
   obtain⟨p1,p2,p3,p4⟩:=key d1 hd1
   repeat' (first | exact P | exact ah.2 ⟨λh=>by rw[p1]at h;simp at h,λ_=>⟨ay.2 (by omega),(k+1,(bJ vs ms cs fs ts bound z d1).1),⟨by show k+1<=_;omega,p4,p2,p3⟩,⟨rfl,trivial⟩,rfl,by show pk.length - (k+1) < pk.length - k;omega⟩⟩ | (refine And.intro ?_ ?_))
  .have g3:=A93 g3;have ep:d.tmod ((fC vs ms cs fs ts z.1 z.2.1 z.2.2.1).length:Int)=BO (fC vs ms cs fs ts z.1 z.2.1 z.2.2.1).length d:=by unfold BO;rw[if_neg g3]
   rw[ep];refine⟨hpr,λd1 hd1=>?_⟩
   obtain⟨p1,p2,p3,p4⟩:=key d1 hd1
   repeat' (first | exact P | exact ah.2 ⟨λh=>by rw[p1]at h;simp at h,λ_=>⟨ay.2 (by omega),(k+1,(bJ vs ms cs fs ts bound z d1).1),⟨by show k+1<=_;omega,p4,p2,p3⟩,⟨rfl,trivial⟩,rfl,by show pk.length - (k+1) < pk.length - k;omega⟩⟩ | (refine And.intro ?_ ?_))
 .rw[hr];have g:¬(k:Int) < (pk.length:Int):=A93 g;rw[VQ (by omega)];rfl
theorem ai9:aW aU.gd 27 aen:=
 eG (cx:=aU) (n:=68) (cl:=[(12,Vs),(19,Ii),(21,PN)]) (rc:=[]) aA ⟨Vt,MI,ML,trivial⟩ Tryz.func27 λd hd=>by
  obtain⟨⟨vs,ms,cs,fs,ts,⟨⟩⟩,bound,pk,⟨⟩⟩:=d;exact aS (aqu vs ms cs fs ts bound pk) (aoa vs ms cs fs ts bound pk hd) (by kernel_rfl)
end
end Go.Proofs.YtjhenjhcbcalpaaGreatDoor
