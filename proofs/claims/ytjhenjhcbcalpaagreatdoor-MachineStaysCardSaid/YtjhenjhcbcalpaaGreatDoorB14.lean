/- Part 14 of the proof. Conditions: the rows'. -/
import Derived.Test.YtjhenjhcbcalpaaGreatDoorB13
set_option linter.unusedSimpArgs false
set_option linter.unusedVariables false
set_option maxRecDepth 1000000
set_option maxHeartbeats 8000000
namespace Go.Proofs.YtjhenjhcbcalpaaGreatDoor
open Go Go.ni
noncomputable section
abbrev ac0:CT:={ ps:=[.int .i64],pre:=λd=>True,res:=λd=>([],vB (decide (d.1 < 0))) }
theorem ahN(a:Int):
 qB (decide (a < 0)) (decide (a < 0)):=by
 delta qB;simp only[ah,ay]
 repeat' (first | (refine And.intro ?_ ?_) | (intro _))
 all_goals first | rfl | (simp_all[eA,eI,eK,eO,eM,eN,eR,eD,eW,jE,kQ,jF,iL,jO,jG,jH,pX,pY,tJ,ay];done) | (simp_all[eA,eI,eK,eO,eM,eN,eR,eD,eW,jE,kQ,jF,iL,jO,jG,jH,pX,pY,tJ,ay];omega) | grind[eA,eI,eK,eO,eM,eN,eR,eD,eW,jE,kQ,jF,iL,jO,jG,jH,pX,pY,tJ,ay]
theorem OY:aW aT.gd 138 ac0:=
 kD (cx:=aT) (n:=5) (cl:=[]) aB trivial Tryz.func138 λd hd=>by
  obtain⟨a,⟨⟩⟩:=d;exact aQ (λ_=>none) (ahN a) (by kernel_rfl)
abbrev U3:CT:={ ps:=[.int .i64],pre:=λd=>-9223372036854775808<=d.1,res:=λd=>([],.one (.c (.v (.int .i64 (pY d.1))))) }
theorem ahO(a:Int) (aH:U3.pre (a,())):
 br (decide (a < 0)) (iR (a+1)/\iR (0 - (a+1))/\qI (pY a) (0 - (a+1))) (qI (pY a) a):=by
 delta qI iR;have hp:-9223372036854775808<=a:=aH;simp only[ah,ay]
 repeat' (first | (refine And.intro ?_ ?_) | (intro _))
 all_goals first | rfl | (simp_all[eA,eI,eK,eO,eM,eN,eR,eD,eW,jE,kQ,jF,iL,jO,jG,jH,pX,pY,tJ,ay];done) | (simp_all[eA,eI,eK,eO,eM,eN,eR,eD,eW,jE,kQ,jF,iL,jO,jG,jH,pX,pY,tJ,ay];omega) | grind[eA,eI,eK,eO,eM,eN,eR,eD,eW,jE,kQ,jF,iL,jO,jG,jH,pX,pY,tJ,ay]
theorem OZ:aW aT.gd 139 U3:=
 kD (cx:=aT) (n:=9) (cl:=[]) aB trivial Tryz.func139 λd hd=>by
  obtain⟨a,⟨⟩⟩:=d;exact aQ (λ_=>none) (ahO a hd) (by kernel_rfl)
abbrev ac1:CT:={ ps:=[.int .i64],pre:=λd=>d.1<=9223372036854775807,res:=λd=>([],.one (.c (.v (.int .i64 (tJ d.1))))) }
theorem ahP(a:Int) (aH:ac1.pre (a,())):
 br (decide (a < 0)) (qI (tJ a) (0:Int)) (iR (0 - a)/\iR (0 - a - 1)/\qI (tJ a) (0 - a - 1)):=by
 delta qI iR;have hp:a<=9223372036854775807:=aH;simp only[ah,ay]
 repeat' (first | (refine And.intro ?_ ?_) | (intro _))
 all_goals first | rfl | (simp_all[eA,eI,eK,eO,eM,eN,eR,eD,eW,jE,kQ,jF,iL,jO,jG,jH,pX,pY,tJ,ay];done) | (simp_all[eA,eI,eK,eO,eM,eN,eR,eD,eW,jE,kQ,jF,iL,jO,jG,jH,pX,pY,tJ,ay];omega) | grind[eA,eI,eK,eO,eM,eN,eR,eD,eW,jE,kQ,jF,iL,jO,jG,jH,pX,pY,tJ,ay]
theorem ac2:aW aT.gd 140 ac1:=
 kD (cx:=aT) (n:=8) (cl:=[]) aB trivial Tryz.func140 λd hd=>by
  obtain⟨a,⟨⟩⟩:=d;exact aQ (λ_=>none) (ahP a hd) (by kernel_rfl)
theorem ac3{e:ED} (h:jW e=true):1<=eK e/\eK e<=17:=by
 simp only[jW,A8,dW]at h;omega
theorem O1{e:ED} (h:jW e=true):eA e < 0↔eK e=4:=by
 simp only[jW,A8,dW,zh]at h;have:=h.1.1.1.1.1.1.1.1.1.1.2;constructor
 .intro h1;simpa[h1]using this
 .intro h1;simpa[h1]using this
theorem ac4{e:ED} (h:jW e=true):pX (eK e) (eN e)=true:=by
 simp only[jW,A8,dW,zh]at h;exact h.1.1.1.1.1.1.2
abbrev apu:CT:={ ps:=[WZ],pre:=λd=>True,res:=λd=>([],vB (jW d.1)) }
theorem amK(ag ix kd ob mu en od rd wr:Int):
 let z2:=jW (ag,ix,kd,ob,mu,en,od,rd,wr,());let z1:=qB z2 false;((!(decide (kd < 1) || decide (17 < kd) || decide (ix < 0)))=true->True)/\br (decide (kd < 1) || decide (17 < kd) || decide (ix < 0) || !decide (ag < 0) == decide (kd=4)) z1 (iR (kd - 1)/\(0<=kd - 1/\kd - 1 < (17:Int))/\∀(d:Int×(Sh.bool.pair (I6.pair (I6.pair (Sh.bool.pair (I6.pair (I6.pair (Sh.bool.pair Sh.unit))))))).den),Gp[(kd - 1).toNat]?=some d->br (decide (ob < 0) || !decide (d.fst=(-1)) && decide (d.fst < ob) || decide (rd < d.snd.snd.fst) || !decide (d.snd.snd.snd.fst=(-1)) && decide (d.snd.snd.snd.fst < rd)) z1 (br (d.snd.fst && (decide (od < 0) || decide (2 < od)) || !d.snd.fst && !decide (od=0)) z1 (br (d.snd.snd.snd.snd.fst && (decide (wr < (-2147483648)) || decide (2147483647 < wr)) || !d.snd.snd.snd.snd.fst && !decide (wr=0)) z1 (br (decide (d.snd.snd.snd.snd.snd.fst=(-2)) && !decide (en=(-1)) || decide (en < d.snd.snd.snd.snd.snd.fst)) z1 (br (decide (kd=12)) (qB z2 (decide (0<=mu) && decide (mu < 4))) (qB z2 (decide (mu=(-1))))))))):=by
 conv=>zeta
 delta qB I6 iR;refine⟨λ_=>trivial,ah.2 ⟨λh=>⟨rfl,?_⟩,λh=>?_⟩⟩
 .simp only[jW,eA,eI,eK,eO,eM,eN,eR,eD,eW]at *;grind
 .simp only[oV,gW]at h;obtain⟨⟨⟨h1,h2⟩,h3⟩,h4⟩:=h;refine⟨ay.2 (by omega),⟨by omega,by omega⟩,λd hd=>?_⟩
  rcases(show kd=1\/kd=2\/kd=3\/kd=4\/kd=5\/kd=6\/kd=7\/kd=8\/kd=9\/kd=10\/kd=11\/kd=12\/kd=13\/kd=14\/kd=15\/kd=16\/kd=17 by omega) with rfl | rfl | rfl | rfl | rfl | rfl | rfl | rfl | rfl | rfl | rfl | rfl | rfl | rfl | rfl | rfl | rfl
  all_goals
   simp[Gp]at hd;subst hd;simp only[ah]
   repeat' (first | (refine And.intro ?_ ?_) | (intro _))
   all_goals first | rfl | trivial | skip
  all_goals
   refine tK (λz=>bg.one (SV.c (SC.v (Value.bool z)))) ?_
   simp only[jW,eA,eI,eK,eO,eM,eN,eR,eD,eW,jG,jH,pX,jE,kQ,jF,iL,jO]at *
   first | (simp at *;done) | (simp at *;omega) | (simp at *;intros;omega) | (simp_all;done) | (simp_all;omega) | (simp_all;intros;omega) | grind
theorem ahQ:aW aT.gd 70 apu:=
 kD (cx:=aT) (n:=138) (cl:=[(138,ac0)]) aB ⟨OY,trivial⟩ Tryz.func70 λd hd=>by
  obtain⟨⟨ag,ix,kd,ob,mu,en,od,rd,wr,⟨⟩⟩,⟨⟩⟩:=d;exact aQ (λ_=>none) (amK ag ix kd ob mu en od rd wr) (by kernel_rfl)
abbrev amL:CT:={ ps:=[WZ,WZ],pre:=λd=>-9223372036854775808<=eA d.2.1,res:=λd=>([],vB (ru d.1 d.2.1)) }
theorem amM(nT tV oU rF tX rD tY tZ uf rC xQ xM xO xR xU xW xX wr2:Int) (aH:amL.pre ((nT,tV,oU,rF,tX,rD,tY,tZ,uf,()),(rC,xQ,xM,xO,xR,xU,xW,xX,wr2,()),())):
 let z1:=ru (nT,tV,oU,rF,tX,rD,tY,tZ,uf,()) (rC,xQ,xM,xO,xR,xU,xW,xX,wr2,());br (!decide (oU=(16:Int)) && !decide (oU=(17:Int))) (qB z1 false) ((-9223372036854775808)<=rC/\qB z1 (decide (rF=pY rC) || decide (oU=(16:Int)) && decide (xM=(17:Int)) && decide (rF=xO))):=by
 conv=>zeta
 delta qB;have hp:-9223372036854775808<=rC:=aH;simp only[ah,ay]
 repeat' (first | (refine And.intro ?_ ?_) | (intro _))
 all_goals first | rfl | (simp_all[eA,eI,eK,eO,eM,eN,eR,eD,eW,jE,kQ,jF,iL,jO,jG,jH,pX,pY,tJ,ay,ru,y9,gG,DX,y8];done) | (simp_all[eA,eI,eK,eO,eM,eN,eR,eD,eW,jE,kQ,jF,iL,jO,jG,jH,pX,pY,tJ,ay,ru,y9,gG,DX,y8];omega) | grind[eA,eI,eK,eO,eM,eN,eR,eD,eW,jE,kQ,jF,iL,jO,jG,jH,pX,pY,tJ,ay,ru,y9,gG,DX,y8]
theorem ahR:aW aT.gd 71 amL:=
 kD (cx:=aT) (n:=36) (cl:=[(139,U3)]) aB ⟨OZ,trivial⟩ Tryz.func71 λd hd=>by
  obtain⟨⟨nT,tV,oU,rF,tX,rD,tY,tZ,uf,⟨⟩⟩,⟨rC,xQ,xM,xO,xR,xU,xW,xX,wr2,⟨⟩⟩,⟨⟩⟩:=d;exact aQ (λ_=>none) (amM nT tV oU rF tX rD tY tZ uf rC xQ xM xO xR xU xW xX wr2 hd) (by kernel_rfl)
abbrev ac5:CT:={ ps:=[WZ,WZ],pre:=λd=>eA d.1<=9223372036854775807/\(eK d.1=4->eA d.1 < 0),res:=λd=>([],vB (y9 d.1 d.2.1)) }
theorem amN(nT tV oU rF tX rD tY tZ uf rC xQ xM xO xR xU xW xX wr2:Int) (aH:ac5.pre ((nT,tV,oU,rF,tX,rD,tY,tZ,uf,()),(rC,xQ,xM,xO,xR,xU,xW,xX,wr2,()),())):
 let z3:=y9 (nT,tV,oU,rF,tX,rD,tY,tZ,uf,()) (rC,xQ,xM,xO,xR,xU,xW,xX,wr2,());let z1:=qB z3 false;let z4:=decide (oU=(1:Int));let z2:=qB z3 true;let z5:=decide (oU=(2:Int));let z6:=decide (oU=(3:Int));True/\((!decide (nT < (0:Int)))=true->nT<=(9223372036854775807:Int))/\br (decide (nT < (0:Int)) || !decide (rC=tJ nT)) z1 (br z4 (br z4 z1 z2) (br z5 (br z5 z1 z2) (br z6 (br z6 z1 z2) (br (decide (oU=(8:Int))) z1 z2)))):=by
 conv=>zeta
 delta qB;have hp:nT<=9223372036854775807:=aH.1;have hp2:oU=4->nT < 0:=aH.2;simp only[ah,ay]
 repeat' (first | (refine And.intro ?_ ?_) | (intro _))
 all_goals first | rfl | (simp_all[eA,eI,eK,eO,eM,eN,eR,eD,eW,jE,kQ,jF,iL,jO,jG,jH,pX,pY,tJ,ay,ru,y9,gG,DX,y8];done) | (simp_all[eA,eI,eK,eO,eM,eN,eR,eD,eW,jE,kQ,jF,iL,jO,jG,jH,pX,pY,tJ,ay,ru,y9,gG,DX,y8];omega) | grind[eA,eI,eK,eO,eM,eN,eR,eD,eW,jE,kQ,jF,iL,jO,jG,jH,pX,pY,tJ,ay,ru,y9,gG,DX,y8]
theorem ahS:aW aT.gd 72 ac5:=
 kD (cx:=aT) (n:=23) (cl:=[(140,ac1),(138,ac0)]) aB ⟨ac2,OY,trivial⟩ Tryz.func72 λd hd=>by
  obtain⟨⟨nT,tV,oU,rF,tX,rD,tY,tZ,uf,⟨⟩⟩,⟨rC,xQ,xM,xO,xR,xU,xW,xX,wr2,⟨⟩⟩,⟨⟩⟩:=d;exact aQ (λ_=>none) (amN nT tV oU rF tX rD tY tZ uf rC xQ xM xO xR xU xW xX wr2 hd) (by kernel_rfl)
abbrev amO:CT:={ ps:=[WZ],pre:=λd=>jW d.1=true/\-9223372036854775808<=eA d.1,res:=λd=>([],.one (.c (.sl shA (gG d.1)))) }
theorem ahT(ag ix kd ob mu en od rd wr:Int) (aH:amO.pre ((ag,ix,kd,ob,mu,en,od,rd,wr,()),())):
 let z3:=λ(d:Int×(Sh.bool.pair (I6.pair (I6.pair (Sh.bool.pair (I6.pair (I6.pair (Sh.bool.pair Sh.unit))))))).den)=>decide (d.snd.snd.snd.snd.snd.snd.fst=4) || !d.snd.snd.snd.snd.snd.snd.snd.fst && decide (d.snd.snd.snd.snd.snd.snd.fst=1) && decide (0<=en);let z7:=I6.pair (I6.pair (I6.pair (Sh.bool.pair Sh.unit)));let z4:=bg.one (SV.c (SC.sl z7 (gG (ag,ix,kd,ob,mu,en,od,rd,wr,()))));let z6:=λ(d:Int×(Sh.bool.pair (I6.pair (I6.pair (Sh.bool.pair (I6.pair (I6.pair (Sh.bool.pair Sh.unit))))))).den)=>[((4:Int),pY ag,en,d.snd.snd.snd.snd.snd.snd.snd)];let z2:=λ(d:Int×(Sh.bool.pair (I6.pair (I6.pair (Sh.bool.pair (I6.pair (I6.pair (Sh.bool.pair Sh.unit))))))).den)=>rE z4 (bg.one (SV.c (SC.sl z7 (z6 d))));let z8:=[((2:Int),mu,(0:Int),true,())];let z5:=λ(d:Int×(Sh.bool.pair (I6.pair (I6.pair (Sh.bool.pair (I6.pair (I6.pair (Sh.bool.pair Sh.unit))))))).den)=>[(d.snd.snd.snd.snd.snd.snd.fst,ob,(0:Int),d.snd.snd.snd.snd.snd.snd.snd)];let z1:=λ(d:Int×(Sh.bool.pair (I6.pair (I6.pair (Sh.bool.pair (I6.pair (I6.pair (Sh.bool.pair Sh.unit))))))).den)=>br (decide (d.snd.snd.snd.snd.snd.snd.fst=0)) (rE z4 (bg.one (SV.c (SC.sl z7 [])))) (br (decide (kd=12)) (oH z8.length 32/\oH (z8.length+(z5 d).length) 32/\br (decide (kd=4)) (oH (List.length (z8++(z5 d))+(z6 d).length) 32/\rE z4 (bg.one (SV.c (SC.sl z7 (z8++(z5 d)++(z6 d)))))) (rE z4 (bg.one (SV.c (SC.sl z7 (z8++(z5 d))))))) (oH (z5 d).length 32/\br (decide (kd=4)) (oH ((z5 d).length+(z6 d).length) 32/\rE z4 (bg.one (SV.c (SC.sl z7 ((z5 d)++(z6 d)))))) (rE z4 (bg.one (SV.c (SC.sl z7 (z5 d)))))));iR (kd - 1)/\(0<=kd - 1/\kd - 1 < (17:Int))/\∀(d:Int×(Sh.bool.pair (I6.pair (I6.pair (Sh.bool.pair (I6.pair (I6.pair (Sh.bool.pair Sh.unit))))))).den),Gp[(kd - 1).toNat]?=some d->((-9223372036854775808)<=ag/\br (z3 d) (z2 d) (z1 d)/\br (z3 d) (z2 d) (z1 d))/\(-9223372036854775808)<=ag/\br (z3 d) (z2 d) (z1 d):=by
 conv=>zeta
 delta rE I6 iR;obtain⟨hv,hp⟩:=aH;have rng:1<=kd/\kd<=17:=ac3 hv;have hen:pX kd en=true:=ac4 hv;have hp:-9223372036854775808<=ag:=hp;clear hv;refine⟨ay.2 (by omega),⟨by omega,by omega⟩,λd hd=>?_⟩
 repeat' (first | exact hp | (refine And.intro ?_ ?_))
 all_goals (rcases(show kd=1\/kd=2\/kd=3\/kd=4\/kd=5\/kd=6\/kd=7\/kd=8\/kd=9\/kd=10\/kd=11\/kd=12\/kd=13\/kd=14\/kd=15\/kd=16\/kd=17 by omega) with rfl | rfl | rfl | rfl | rfl | rfl | rfl | rfl | rfl | rfl | rfl | rfl | rfl | rfl | rfl | rfl | rfl)
 all_goals
  simp[Gp]at hd;subst hd;simp only[pX]at hen;simp only[ah]
  repeat' (first | (refine And.intro ?_ ?_) | (intro _))
  all_goals first | rfl | trivial | (simp[oH];done) | (simp at *;done) | skip
  all_goals (simp at *;try omega)
  all_goals first | (simp_all[gG,eK,eN,eM,DX,y8,eA,eO];done) | (simp_all[gG,eK,eN,eM,DX,y8,eA,eO];omega) | grind[gG,eK,eN,eM,DX,y8,eA,eO]
theorem ac6:aW aT.gd 141 amO:=
 KJ (il:=Xj) (rc:=[.data (.sl shA)]) (cx:=aT) (n:=69) (cl:=[(139,U3)]) (by kernel_rfl) aB ⟨OZ,trivial⟩ trivial Tryz.func141 (by kernel_rfl) (by kernel_rfl) rfl (by kernel_rfl) (by kernel_rfl) λd hd=>by
  obtain⟨⟨ag,ix,kd,ob,mu,en,od,rd,wr,⟨⟩⟩,⟨⟩⟩:=d;exact aQ (λ_=>none) (ahT ag ix kd ob mu en od rd wr hd) (by kernel_rfl)
def LM(l:List AD) (x:AD):Int:=if x∈l then(l.findIdx (λy=>decide (y=x)):Int) else -1
theorem U4(e:ED):(gG e).length<=2:=by
 unfold gG
 repeat' split
 all_goals simp
theorem amP{l:List AD}{a:AD}{x:Nat} (h:∀j,j < x->∀y,l[j]?=some y->¬y=a) (hx:l[x]?=some a):LM l a=x:=by
 obtain⟨hl,he⟩:=eG.1 hx;unfold LM;rw[if_pos (iM hx)];have:l.findIdx (λy=>decide (y=a))=x:=(List.findIdx_eq hl).2 ⟨by simp[he],λj hj=>by
  have:=h j hj _ (kR (by omega))
  simpa using this⟩
 rw[this]
theorem amQ{l:List AD}{a:AD} (h:∀j,j < l.length->∀y,l[j]?=some y->¬y=a):LM l a = -1:=by
 unfold LM;rw[if_neg];intro hm;obtain⟨j,hj,e⟩:=List.getElem_of_mem hm;exact h j hj _ (kR hj) e
theorem amR{l:List AD}{a:AD}:decide (0<=LM l a)=decide (a∈l):=by
 apply decide_eq_decide.2;unfold LM;split<;>rename_i h
 .simp[h]
 .simp[h]
theorem amS{a b:ED}{x y:AD}{i j:Nat} (hx:(gG a)[i]?=some x) (hy:(gG b)[j]?=some y) (h:Dh x y=true):DF a b=true:=
 Xq.2 ⟨x,iM hx,Xq.2 ⟨y,iM hy,h⟩⟩
theorem amT{a b:ED}{k:Nat} (hk:¬k < (gG a).length) (h:∀j,j < k->∀x,(gG a)[j]?=some x->(gG b).any (Dh x)=false):DF a b=false:=by
 unfold DF;rw[Vg];intro x hx;obtain⟨j,hj,e⟩:=List.getElem_of_mem hx;have:=h j (by omega) x (by rw[kR hj,e])
 rw[show(λy=>Dh x y)=Dh x from rfl,this];simp
abbrev ac7:CT:={ ps:=[.sl shA,shA],pre:=λd=>d.1.length<=1000,res:=λd=>([],.one (.c (.v (.int .i64 (LM d.1 d.2.1))))) }
abbrev amU(l:List AD) (ak ai O8:Int) (aw:Bool):Nat->Option (St->kS):=λn=>match n with
 | 2=>some λ_=>.inv { α:=Nat,slots:=λk=>[(8,.c (.v (.int .i64 k)))],res:=λk=>[],inv:=λk=>k<=l.length/\∀j < k,∀y,l[j]?=some y->¬y=(ak,ai,O8,aw,()),meas:=λk=>l.length - k }
 | _=>none
theorem ahU(l:List AD) (ak ai O8:Int) (aw:Bool) (aH:ac7.pre (l,((ak,ai,O8,aw,()),()))):
 let z1:=λ(x:Nat)=>(x<=l.length/\∀(j:Nat),j < x->∀(y:Int×Int×Int×Bool×Unit),l[j]?=some y->¬y=(ak,ai,O8,aw,()));let z2:=[g0 (au.blk 158 [v6 ak,v6 ai,v6 O8,vb aw])];let z3:=LM l (ak,ai,O8,aw,());(∃x,(z1 x)/\(cI 0=cI (x:Int)/\True)/\sm z2)/\∀(x:Nat),(z1 x)->br (decide ((x:Int) < (l.length:Int))) ((0<=(x:Int)/\(x:Int) < (l.length:Int))/\∀(d:Int×(I6.pair (I6.pair (Sh.bool.pair Sh.unit))).den),l[(x:Int).toNat]?=some d->br (true && ak == d.fst && ai == d.snd.fst && O8 == d.snd.snd.fst && aw == d.snd.snd.snd.fst) (qI z3 (x:Int)) (iR ((x:Int)+(1:Int))/\∃x',(z1 x')/\(cI ((x:Int)+(1:Int))=cI (x':Int)/\True)/\sm z2/\l.length - x' < l.length - x)) (qI z3 (-1:Int)):=by
 conv=>zeta
 delta v6 vb cI g0 qI sm I6 iR;have hl:l.length<=1000:=aH;refine⟨⟨0,⟨Hz _,λj hj=>by omega⟩,⟨rfl,trivial⟩,rfl⟩,λx hx=>ah.2 ⟨λg=>?_,λg=>?_⟩⟩
 .simp only[dW]at g;refine⟨⟨by omega,by omega⟩,λd hd=>ah.2 ⟨λg2=>⟨rfl,?_⟩,λg2=>⟨ay.2 (by omega),x+1,⟨by omega,λj hj y hy=>?_⟩,⟨rfl,trivial⟩,rfl,by omega⟩⟩⟩
  .obtain⟨d1,d2,d3,d4,⟨⟩⟩:=d;have hd:l[x]?=some (d1,d2,d3,d4,()):=hd;simp only[Ia,A8,zh]at g2;obtain⟨⟨⟨q1,q2⟩,q3⟩,q4⟩:=g2;rw[amP hx.2 (by rw[hd,q1,q2,q3,q4])]
  .by_cases hjx:j=x
   .subst hjx;have hd:l[j]?=some d:=hd;rw[hd]at hy;cases hy;intro e;subst e;simp at g2
   .exact hx.2 j (by omega) y hy
 simp only[gW]at g;refine⟨rfl,?_⟩;rw[amQ λj hj=>hx.2 j (by omega)]
theorem ac8:aW aT.gd 182 ac7:=
 kD (cx:=aT) (n:=19) (cl:=[]) aB trivial Tryz.func182 λd hd=>by
  obtain⟨l,⟨⟨ak,ai,O8,aw,⟨⟩⟩,⟨⟩⟩⟩:=d;exact aQ (amU l ak ai O8 aw) (ahU l ak ai O8 aw hd) (by kernel_rfl)
abbrev ac9:CT:={ ps:=[.sl shA,shA],pre:=λd=>d.1.length<=1000,res:=λd=>([],vB (decide (d.2.1∈d.1))) }
theorem ahV(l:List AD) (ak ai O8:Int) (aw:Bool) (aH:ac9.pre (l,((ak,ai,O8,aw,()),()))):
 l.length<=1000/\qB (decide ((ak,ai,O8,aw,())∈l)) (decide (0<=LM l (ak,ai,O8,aw,()))):=by
 delta qB;exact⟨aH,rfl,tK (λb=>bg.one (SV.c (SC.v (Value.bool b)))) amR.symm⟩
theorem ada:aW aT.gd 142 ac9:=
 kD (cx:=aT) (n:=9) (cl:=[(182,ac7)]) aB ⟨ac8,trivial⟩ Tryz.func142 λd hd=>by
  obtain⟨l,⟨⟨ak,ai,O8,aw,⟨⟩⟩,⟨⟩⟩⟩:=d;exact aQ (λ_=>none) (ahV l ak ai O8 aw hd) (by kernel_rfl)
abbrev amV:CT:={ ps:=[WZ,WZ],pre:=λd=>jW d.1=true/\jW d.2.1=true/\-9223372036854775808<=eA d.1/\-9223372036854775808<=eA d.2.1,res:=λd=>([],vB (DF d.1 d.2.1)) }
abbrev apv(nT tV oU rF tX rD tY tZ uf rC xQ xM xO xR xU xW xX wr2:Int):Nat->Option (St->kS):=λn=>match n with
 | 3=>some λ_=>.inv { α:=Nat,slots:=λk=>[(16,.c (.v (.int .i64 k)))],res:=λk=>[],inv:=λk=>k<=(gG (nT,tV,oU,rF,tX,rD,tY,tZ,uf,())).length/\∀j < k,∀x,(gG (nT,tV,oU,rF,tX,rD,tY,tZ,uf,()))[j]?=some x->((gG (rC,xQ,xM,xO,xR,xU,xW,xX,wr2,()))).any (Dh x)=false,meas:=λk=>(gG (nT,tV,oU,rF,tX,rD,tY,tZ,uf,())).length - k }
 | 6=>some λs=>.inv { α:=Nat,slots:=λk=>[(22,.c (.v (.int .i64 k)))],res:=λk=>[],inv:=λk=>k<=2/\∀j < k,(((gG (nT,tV,oU,rF,tX,rD,tY,tZ,uf,())).getD (jw s 16).toNat default).2.2.2.1 || decide (j=1))=true->(((gG (nT,tV,oU,rF,tX,rD,tY,tZ,uf,())).getD (jw s 16).toNat default).1,((gG (nT,tV,oU,rF,tX,rD,tY,tZ,uf,())).getD (jw s 16).toNat default).2.1,((gG (nT,tV,oU,rF,tX,rD,tY,tZ,uf,())).getD (jw s 16).toNat default).2.2.1,decide (j=1),())∉(gG (rC,xQ,xM,xO,xR,xU,xW,xX,wr2,())),meas:=λk=>2 - k }
 | _=>none
theorem amW(nT tV oU rF tX rD tY tZ uf rC xQ xM xO xR xU xW xX wr2:Int) (aH:amV.pre ((nT,tV,oU,rF,tX,rD,tY,tZ,uf,()),(rC,xQ,xM,xO,xR,xU,xW,xX,wr2,()),())):
 let z12:=(rC,xQ,xM,xO,xR,xU,xW,xX,wr2,());let z13:=(nT,tV,oU,rF,tX,rD,tY,tZ,uf,());let z10:=gG z13;let z11:=gG z12;let z8:=[v6 nT,v6 tV,v6 oU,v6 rF,v6 tX,v6 rD,v6 tY,v6 tZ,v6 uf];let z9:=[v6 rC,v6 xQ,v6 xM,v6 xO,v6 xR,v6 xU,v6 xW,v6 xX,v6 wr2];let z4:=[g0 (au.blk 49 z8),g0 (au.blk 49 z9)];let z7:=λ(x:Nat)=>z10.getD (x:Int).toNat default;let z5:=λ(x j:Nat)=>(z7 x).snd.snd.snd.fst || decide (j=1);let z3:=λ(x j:Nat)=>((z7 x).fst,(z7 x).snd.fst,(z7 x).snd.snd.fst,decide (j=1),());let z1:=λ(x_1 x:Nat)=>(x_1<=2/\∀(j:Nat),j < x_1->(z5 x j)=true->¬(z3 x j)∈gG z12);let z2:=λ(d:Int×(I6.pair (I6.pair (Sh.bool.pair Sh.unit))).den)=>[g0 (au.blk 49 z8),g0 (au.blk 49 z9),g0 (au.blk 158 [v6 d.fst,v6 d.snd.fst,v6 d.snd.snd.fst,vb d.snd.snd.snd.fst]),g0 (au.row 4 Sh.bool [false,true])];let z6:=DF z13 z12;let y7:=λ(x_1:Nat)=>(x_1:Int)+(1:Int);(jW z12=true/\(-9223372036854775808)<=eA z12)/\(jW z13=true/\(-9223372036854775808)<=eA z13)/\(∃x,(x<=z10.length/\∀(j:Nat),j < x->∀(x:Int×Int×Int×Bool×Unit),z10[j]?=some x->z11.any (Dh x)=false)/\(cI 0=cI (x:Int)/\True)/\sm z4)/\∀(x:Nat),(x<=z10.length/\∀(j:Nat),j < x->∀(x:Int×Int×Int×Bool×Unit),z10[j]?=some x->z11.any (Dh x)=false)->br (decide ((x:Int) < (z10.length:Int))) ((0<=(x:Int)/\(x:Int) < (z10.length:Int))/\∀(d:Int×(I6.pair (I6.pair (Sh.bool.pair Sh.unit))).den),z10[(x:Int).toNat]?=some d->(∃x_1,(z1 x_1 x)/\(cI 0=cI (x_1:Int)/\True)/\sm (z2 d))/\∀(x_1:Nat),(z1 x_1 x)->br (decide ((x_1:Int) < (2:Int))) ((0<=(x_1:Int)/\(x_1:Int) < (2:Int))/\(x_1:Int).toNat < 2/\∀(dL:Bool),[false,true][(x_1:Int).toNat]?=some dL->((d.snd.snd.snd.fst || dL)=true->z11.length<=1000)/\br ((d.snd.snd.snd.fst || dL) && decide ((d.fst,d.snd.fst,d.snd.snd.fst,dL,())∈gG z12)) (qB z6 true) (iR (y7 x_1)/\∃x',(x'<=2/\∀(j:Nat),j < x'->(z5 x j)=true->¬(z3 x j)∈gG z12)/\(cI (y7 x_1)=cI (x':Int)/\True)/\sm (z2 d)/\2 - x' < 2 - x_1)) (iR (y7 x)/\∃x',(x'<=z10.length/\∀(j:Nat),j < x'->∀(x:Int×Int×Int×Bool×Unit),z10[j]?=some x->z11.any (Dh x)=false)/\(cI (y7 x)=cI (x':Int)/\True)/\sm z4/\z10.length - x' < z10.length - x)) (qB z6 false):=by
 conv=>zeta
 delta v6 vb cI g0 qB sm I6 iR;obtain⟨hv1,hv2,ha,hb⟩:jW (nT,tV,oU,rF,tX,rD,tY,tZ,uf,())=true/\jW (rC,xQ,xM,xO,xR,xU,xW,xX,wr2,())=true/\-9223372036854775808<=eA (nT,tV,oU,rF,tX,rD,tY,tZ,uf,())/\-9223372036854775808<=eA (rC,xQ,xM,xO,xR,xU,xW,xX,wr2,()):=aH;have l1:=U4 (nT,tV,oU,rF,tX,rD,tY,tZ,uf,());have l2:=U4 (rC,xQ,xM,xO,xR,xU,xW,xX,wr2,());refine⟨⟨hv2,hb⟩,⟨hv1,ha⟩,⟨0,⟨Hz _,λj hj=>by omega⟩,⟨rfl,trivial⟩,rfl⟩,λx hx=>ah.2 ⟨λg=>?_,λg=>?_⟩⟩
 .simp only[dW]at g;have gx:x < (gG (nT,tV,oU,rF,tX,rD,tY,tZ,uf,())).length:=by omega
  refine⟨⟨by omega,by omega⟩,λd hd=>?_⟩
  have hd:(gG (nT,tV,oU,rF,tX,rD,tY,tZ,uf,()))[x]?=some d:=hd;rw[show(gG (nT,tV,oU,rF,tX,rD,tY,tZ,uf,())).getD (x:Int).toNat default=d by rw[show((x:Int)).toNat=x from rfl,LQ,hd];rfl]
  refine⟨⟨0,⟨Hz _,λj hj=>by omega⟩,⟨rfl,trivial⟩,rfl⟩,λy hy=>ah.2 ⟨λg2=>?_,λg2=>?_⟩⟩
  .simp only[dW]at g2;have gy:y < 2:=by omega
   refine⟨⟨by omega,by omega⟩,by omega,λd1 hd1=>⟨λ_=>by omega,?_⟩⟩
   have e1:d1=decide (y=1):=by
    have hd1:[false,true][y]?=some d1:=hd1;rcases(by omega:y=0\/y=1) with h | h<;>subst h<;>cases hd1<;>rfl
   refine ah.2 ⟨λg3=>⟨rfl,?_⟩,λg3=>⟨ay.2 (by omega),y+1,⟨by omega,λj hj hz hm=>?_⟩,⟨rfl,trivial⟩,rfl,by omega⟩⟩
   .simp only[A8,dW]at g3;obtain⟨j,hj,e⟩:=List.getElem_of_mem g3.2;rw[amS hd (by rw[kR hj,e]) (by simpa[Dh]using g3.1)]
   .by_cases hjy:j=y
    .subst hjy;rw[<-e1]at hz hm;have g3:((d.2.2.2.1 || d1) && decide ((d.1,d.2.1,d.2.2.1,d1,())∈gG (rC,xQ,xM,xO,xR,xU,xW,xX,wr2,())))=false:=g3
     rw[hz,Ia,gW]at g3;exact g3 hm
    .exact hy.2 j (by omega) hz hm
  .simp only[gW]at g2;refine⟨ay.2 (by omega),x+1,⟨by omega,λj hj z hz=>?_⟩,⟨rfl,trivial⟩,rfl,by omega⟩
   by_cases hjx:j=x
   .subst hjx;rw[hd]at hz;cases hz;rw[Vg];intro w hw hh;obtain⟨w1,w2,w3,w4,⟨⟩⟩:=w;simp only[Dh,A8,zh]at hh;obtain⟨⟨⟨q1,q2⟩,q3⟩,q4⟩:=hh;subst q1 q2 q3;cases w4
    .exact hy.2 0 (by omega) (by simpa using q4) hw
    .exact hy.2 1 (by omega) (by simp) hw
   .exact hx.2 j (by omega) z hz
 simp only[gW]at g;exact⟨rfl,by rw[amT (k:=x) (by omega) hx.2]⟩
theorem ahW:aW aT.gd 73 amV:=
 kD (cx:=aT) (n:=41) (cl:=[(141,amO),(142,ac9)]) aB ⟨ac6,ada,trivial⟩ Tryz.func73 λd hd=>by
  obtain⟨⟨nT,tV,oU,rF,tX,rD,tY,tZ,uf,⟨⟩⟩,⟨rC,xQ,xM,xO,xR,xU,xW,xX,wr2,⟨⟩⟩,⟨⟩⟩:=d;exact aQ (apv nT tV oU rF tX rD tY tZ uf rC xQ xM xO xR xU xW xX wr2) (amW nT tV oU rF tX rD tY tZ uf rC xQ xM xO xR xU xW xX wr2 hd) (by kernel_rfl)
abbrev amX:CT:={ ps:=[WZ,WZ],pre:=λd=>bE d.1/\bE d.2.1,res:=λd=>([],vB (Hr d.1 d.2.1)) }
theorem amY(nT tV oU rF tX rD tY tZ uf rC xQ xM xO xR xU xW xX wr2:Int) (aH:amX.pre ((nT,tV,oU,rF,tX,rD,tY,tZ,uf,()),(rC,xQ,xM,xO,xR,xU,xW,xX,wr2,()),())):
 let z2:=(nT,tV,oU,rF,tX,rD,tY,tZ,uf,());let z3:=(rC,xQ,xM,xO,xR,xU,xW,xX,wr2,());let z1:=Hr z2 z3;True/\((!!jW z2)=true->True)/\br (!jW z2 || !jW z3) (qB z1 false) (((!decide (nT=rC))=true->(-9223372036854775808)<=eA z3)/\((!(decide (nT=rC) || ru z2 z3))=true->(-9223372036854775808)<=eA z2)/\((!(decide (nT=rC) || ru z2 z3 || ru z3 z2))=true->eA z2<=9223372036854775807/\(eK z2=4->eA z2 < 0))/\((!(decide (nT=rC) || ru z2 z3 || ru z3 z2 || y9 z2 z3))=true->eA z3<=9223372036854775807/\(eK z3=4->eA z3 < 0))/\((!(decide (nT=rC) || ru z2 z3 || ru z3 z2 || y9 z2 z3 || y9 z3 z2))=true->jW z2=true/\jW z3=true/\(-9223372036854775808)<=eA z2/\(-9223372036854775808)<=eA z3)/\qB z1 (decide (nT=rC) || ru z2 z3 || ru z3 z2 || y9 z2 z3 || y9 z3 z2 || DF z2 z3)):=by
 conv=>zeta
 delta qB;obtain⟨⟨p1,p2⟩,p3,p4⟩:bE (nT,tV,oU,rF,tX,rD,tY,tZ,uf,())/\bE (rC,xQ,xM,xO,xR,xU,xW,xX,wr2,()):=aH;refine⟨trivial,λ_=>trivial,ah.2 ⟨λh=>⟨rfl,?_⟩,λh=>?_⟩⟩
 .have e:Hr (nT,tV,oU,rF,tX,rD,tY,tZ,uf,()) (rC,xQ,xM,xO,xR,xU,xW,xX,wr2,())=false:=by
   unfold Hr;revert h;cases jW (nT,tV,oU,rF,tX,rD,tY,tZ,uf,())<;>cases jW (rC,xQ,xM,xO,xR,xU,xW,xX,wr2,())<;>simp
  rw[e]
 have h1:jW (nT,tV,oU,rF,tX,rD,tY,tZ,uf,())=true:=by
  revert h;cases jW (nT,tV,oU,rF,tX,rD,tY,tZ,uf,())<;>simp
 have h2:jW (rC,xQ,xM,xO,xR,xU,xW,xX,wr2,())=true:=by
  revert h;cases jW (rC,xQ,xM,xO,xR,xU,xW,xX,wr2,())<;>simp
 refine⟨λ_=>p3,λ_=>p1,λ_=>⟨p2,(O1 h1).2⟩,λ_=>⟨p4,(O1 h2).2⟩,λ_=>⟨h1,h2,p1,p3⟩,rfl,?_⟩
 refine tK (λb=>bg.one (SV.c (SC.v (Value.bool b)))) ?_
 unfold Hr;rw[h1,h2];rfl
theorem ahX:aW aT.gd 29 amX:=
 kD (cx:=aT) (n:=43) (cl:=[(70,apu),(71,amL),(72,ac5),(73,amV)]) aB ⟨ahQ,ahR,ahS,ahW,trivial⟩ Tryz.func29 λd hd=>by
  obtain⟨⟨nT,tV,oU,rF,tX,rD,tY,tZ,uf,⟨⟩⟩,⟨rC,xQ,xM,xO,xR,xU,xW,xX,wr2,⟨⟩⟩,⟨⟩⟩:=d;exact aQ (λ_=>none) (amY nT tV oU rF tX rD tY tZ uf rC xQ xM xO xR xU xW xX wr2 hd) (by kernel_rfl)
def Bq(n:Nat) (x:Int):Int:=if x.tmod (n:Int) < 0 then x.tmod (n:Int)+n else x.tmod (n:Int)
theorem U5{n:Nat} (h:n≠0) (x:Int):0<=Bq n x/\Bq n x < n:=by
 unfold Bq;have h1:=Int.tmod_lt_of_pos x (show(0:Int) < n by omega)
 have h2:=Int.lt_tmod_of_pos x (show(0:Int) < n by omega)
 split<;>omega
def oh(vs:List VD) (ms cs:List ByteArray) (fs:List FD) (ts:List SD) (bound:Int):List Int->ZD->ZD×Bool
 | [],z=>(z,true)
 | x :: l,z=>if fP vs ms cs fs ts z.1 z.2.1 z.2.2.1=[] then(z,true)
   else if(dV vs ms cs fs ts bound z ((fP vs ms cs fs ts z.1 z.2.1 z.2.2.1).getD (Bq (fP vs ms cs fs ts z.1 z.2.1 z.2.2.1).length x).toNat 0)).2.2≠0 then(z,false)
   else oh vs ms cs fs ts bound l (dV vs ms cs fs ts bound z ((fP vs ms cs fs ts z.1 z.2.1 z.2.2.1).getD (Bq (fP vs ms cs fs ts z.1 z.2.1 z.2.2.1).length x).toNat 0)).1
section
variable {vs:List VD}{ms cs:List ByteArray}{fs:List FD}{ts:List SD}{bound:Int}{z:ZD}
theorem Inv.v32(I:Inv vs ms cs fs ts bound z):VS vs ms cs fs ts 32 z.1 z.2.1 z.2.2.1:=ahz I.ok I.va
theorem EG(I:Inv vs ms cs fs ts bound z){x:Int}:x∈fP vs ms cs fs ts z.1 z.2.1 z.2.2.1↔∃t i,t∈z.1/\t.1=x/\dZ (aG vs ms cs fs ts).1 ms fs t=(i,true)/\uK z.1 z.2.1 t i=true:=by
 unfold fP;rw[if_pos (jo.2 I.v32)];unfold Bf;rw[Pq];constructor
 .rintro⟨t,ht,rfl⟩;obtain⟨h1,h2⟩:=Vj.1 ht;unfold Xa at h2;rw[A8]at h2;exact⟨t,_,h1,rfl,Prod.ext rfl h2.1,h2.2⟩
 .rintro⟨t,i,h1,rfl,h2,h3⟩;exact⟨t,Vj.2 ⟨h1,by unfold Xa;rw[h2];simpa using h3⟩,rfl⟩
theorem LP(I:Inv vs ms cs fs ts bound z):(fP vs ms cs fs ts z.1 z.2.1 z.2.2.1).length<=z.1.length:=by
 unfold fP;rw[if_pos (jo.2 I.v32)];unfold Bf;rw[Xr];exact Xv _ _
theorem U6(I:Inv vs ms cs fs ts bound z) (hl:z.1.length<=60){t:TD}{i:ID} (hm:t∈z.1) (hp:dZ (aG vs ms cs fs ts).1 ms fs t=(i,true)) (he:uK z.1 z.2.1 t i=true):
 (dV vs ms cs fs ts bound z t.1).2=(labS z.2.1 t i,0)/\Inv vs ms cs fs ts bound (dV vs ms cs fs ts bound z t.1).1/\(dV vs ms cs fs ts bound z t.1).1.1.length=z.1.length+(if(labS z.2.1 t i).2.2.1=16 then 1 else 0):=by
 have hft:=mZ I.va.2.2.2 hm;obtain⟨ok0,nw0⟩:=Ry I hl hm hp he;have h0:=(lY I hl hm hp).2.2.2.2;have h:=acL I.ok I.va hft hp he ((LK I.fm (by rw[og];exact h0)).2 ok0) nw0
 obtain⟨t',i',acV,hp',_,_,_,ee,_,hlen,_⟩:=Hl I.r8 (by omega) (I.bm hl) h
 rw[hft]at acV;cases acV;rw[hp]at hp';cases hp';exact⟨Prod.ext ee h,OW I hl h,hlen⟩
theorem Bv(I:Inv vs ms cs fs ts bound z){t:TD}{i:ID} (hm:t∈z.1) (hp:dZ (aG vs ms cs fs ts).1 ms fs t=(i,true)):nP vs ms cs fs ts z.1 z.2.1 z.2.2.1 t.1=(labS z.2.1 t i,true):=by
 unfold nP;rw[if_pos (jo.2 I.v32)];unfold jq;rw[mZ I.va.2.2.2 hm];simp only[hp];rfl
theorem U7(I:Inv vs ms cs fs ts bound z){x:Int} (h:(nP vs ms cs fs ts z.1 z.2.1 z.2.2.1 x).2=true):∃t i,t∈z.1/\t.1=x/\dZ (aG vs ms cs fs ts).1 ms fs t=(i,true):=by
 unfold nP at h;rw[if_pos (jo.2 I.v32)]at h;unfold jq at h;cases hf:lU z.1 x with
 | none=>rw[hf]at h;cases h
 | some t=>
   rw[hf]at h;obtain⟨h1,h2⟩:=(jL I.va.2.2.2).1 hf;refine⟨t,(dZ (aG vs ms cs fs ts).1 ms fs t).1,h1,h2,Prod.ext rfl ?_⟩;refine Hw.1 λq=>?_
   rw[if_neg q]at h;cases h
theorem O4(I:Inv vs ms cs fs ts bound z) (hl:z.1.length<=60) (hne:fP vs ms cs fs ts z.1 z.2.1 z.2.2.1≠[]){k:Nat} (hk:k < (fP vs ms cs fs ts z.1 z.2.1 z.2.2.1).length):
 (dV vs ms cs fs ts bound z ((fP vs ms cs fs ts z.1 z.2.1 z.2.2.1).getD k 0)).2.2=0/\Inv vs ms cs fs ts bound (dV vs ms cs fs ts bound z ((fP vs ms cs fs ts z.1 z.2.1 z.2.2.1).getD k 0)).1/\(dV vs ms cs fs ts bound z ((fP vs ms cs fs ts z.1 z.2.1 z.2.2.1).getD k 0)).1.1.length<=z.1.length+1:=by
 have hm:(fP vs ms cs fs ts z.1 z.2.1 z.2.2.1).getD k 0∈fP vs ms cs fs ts z.1 z.2.1 z.2.2.1:=by
  rw[LQ,kR hk];exact List.getElem_mem hk
 obtain⟨t,i,h1,h2,h3,h4⟩:=(EG I).1 hm;rw[<-h2];obtain⟨a,b,c⟩:=U6 I hl h1 h3 h4;exact⟨by rw[a],b,by rw[c];split<;>omega⟩
theorem U8:∀(l:List Int){z:ZD},Inv vs ms cs fs ts bound z->z.1.length+l.length<=60->(oh vs ms cs fs ts bound l z).2=true/\Inv vs ms cs fs ts bound (oh vs ms cs fs ts bound l z).1/\(oh vs ms cs fs ts bound l z).1.1.length<=z.1.length+l.length
 | [],z,I,h=>⟨rfl,I,by simp[oh]⟩
 | x :: l,z,I,h=>by
   simp only[yE]at h;rw[oh];split
   .exact⟨rfl,I,by simp⟩
   .rename_i hne;have hn:(fP vs ms cs fs ts z.1 z.2.1 z.2.2.1).length≠0:=λq=>hne (List.length_eq_zero_iff.1 q)
    have hp:=U5 hn x;obtain⟨a,b,c⟩:=O4 I (by omega) hne (k:=(Bq (fP vs ms cs fs ts z.1 z.2.1 z.2.2.1).length x).toNat) (by omega)
    rw[if_neg (by omega)]
    obtain⟨p,q,r⟩:=U8 l b (by omega)
    exact⟨p,q,by simp only[yE];omega⟩
end
abbrev apw(l:List Int) (x:Int):Nat->Option (St->kS):=λk=>match k with
 | 2=>some λ_=>.inv { α:=Nat,slots:=λk=>[(5,.c (.v (.int .i64 k)))],res:=λk=>[],inv:=λk=>k<=(l).length/\∀j < k,∀y,l[j]?=some y->¬y=x,meas:=λk=>(l).length - k }
 | _=>none
theorem amZ(l:List Int) (x:Int) (aH:Rj.pre (l,x,())):
 let z1:=λ(x_1:Nat)=>(x_1<=l.length/\∀(j:Nat),j < x_1->∀(y:Int),l[j]?=some y->¬y=x);(∃x_1,(z1 x_1)/\(cI 0=cI (x_1:Int)/\True)/\([]:List fD)=[])/\∀(x_1:Nat),(z1 x_1)->br (decide ((x_1:Int) < (l.length:Int))) ((0<=(x_1:Int)/\(x_1:Int) < (l.length:Int))/\∀(d:Int),l[(x_1:Int).toNat]?=some d->br (decide (d=x)) (qB (dU l x) true) (iR ((x_1:Int)+(1:Int))/\∃x',(x'<=l.length/\∀(j:Nat),j < x'->∀(y:Int),l[j]?=some y->¬y=x)/\(cI ((x_1:Int)+(1:Int))=cI (x':Int)/\True)/\([]:List fD)=[]/\l.length - x' < l.length - x_1)) (qB (dU l x) false):=by
 conv=>zeta
 delta fD iR;have hp:l.length<=1000000:=aH;refine⟨⟨0,⟨by omega,λj hj=>by omega⟩,⟨rfl,trivial⟩,rfl⟩,λk hk=>ah.2 ⟨λh=>?_,λh=>?_⟩⟩
 .simp only[dW]at h;have hN:(k:Int).toNat=k:=by omega
  rw[hN];refine⟨by omega,λd hd=>ah.2 ⟨λh2=>⟨rfl,?_⟩,λh2=>⟨ay.2 (by omega),k+1,⟨by omega,λj hj y hy=>?_⟩,⟨rfl,trivial⟩,rfl,by omega⟩⟩⟩
  .have e:dU l x=true:=by
    unfold dU;exact Xq.2 ⟨d,iM hd,h2⟩
   rw[e]
  .by_cases jY:j=k
   .subst jY;rw[hd]at hy;cases hy;simpa using h2
   .exact hk.2 j (by omega) y hy
 .simp only[gW]at h;have e:dU l x=false:=by
   unfold dU;rw[Vg];intro i hi;obtain⟨j,hj⟩:=Hu hi;simpa using hk.2 j (by have:=(eG.1 hj).1;omega) i hj
  rw[e];exact⟨rfl,rfl⟩
theorem ahY:aW aT.gd 30 Rj:=
 kD (cx:=aT) (n:=18) (cl:=[]) aB trivial Tryz.func30 λd hd=>by
  obtain⟨l,x,⟨⟩⟩:=d;exact aQ (apw l x) (amZ l x hd) (by kernel_rfl)
theorem adb{vs:List VD}{ms cs:List ByteArray}{fs:List FD}{ts:List SD}{bound:Int}{z:ZD} (h:fP vs ms cs fs ts z.1 z.2.1 z.2.2.1=[]) (l:List Int):oh vs ms cs fs ts bound l z=(z,true):=by
 cases l with
 | nil=>rfl
 | cons x l=>rw[oh,if_pos h]
theorem ade{vs:List VD}{ms cs:List ByteArray}{fs:List FD}{ts:List SD}{bound:Int}{z:ZD}{x y:Int}{l:List Int} (h:fP vs ms cs fs ts z.1 z.2.1 z.2.2.1≠[]) (hy:y=(fP vs ms cs fs ts z.1 z.2.1 z.2.2.1).getD (Bq (fP vs ms cs fs ts z.1 z.2.1 z.2.2.1).length x).toNat 0)
 (h2:(dV vs ms cs fs ts bound z y).2.2=0):oh vs ms cs fs ts bound (x :: l) z=oh vs ms cs fs ts bound l (dV vs ms cs fs ts bound z y).1:=by
 subst hy;rw[oh,if_neg h,if_neg (by omega)]
theorem U9{S:ZD×Bool}{a:ZD}{b:Bool} (h:S=(a,b)):rT [CY S.1,cB S.2] [CY a,cB b]:=by subst h;exact⟨rfl,rfl⟩
theorem Inv.bb{vs:List VD}{ms cs:List ByteArray}{fs:List FD}{ts:List SD}{bound:Int}{z:ZD} (I:Inv vs ms cs fs ts bound z):Bg z.2.2.1:=by rw[I.va.2.1];exact⟨by decide,λb hb=>nomatch hb⟩
abbrev adf:CT:={ ps:=[sS,.int .i64,.sl (.int .i64)],pre:=λd=>bnd (d.1,())/\dG (aG d.1.1 d.1.2.1 d.1.2.2.1 d.1.2.2.2.1 d.1.2.2.2.2.1).1 d.2.1=0/\d.1.2.2.2.2.1.length<=20/\d.2.2.1.length<=40,res:=λd=>([],.iO [CY ((oh d.1.1 d.1.2.1 d.1.2.2.1 d.1.2.2.2.1 d.1.2.2.2.2.1 d.2.1 d.2.2.1 (ql d.1.1 d.1.2.1 d.1.2.2.1 d.1.2.2.2.1 d.1.2.2.2.2.1 d.2.1).1).1),.c (.v (.bool ((oh d.1.1 d.1.2.1 d.1.2.2.1 d.1.2.2.2.1 d.1.2.2.2.2.1 d.2.1 d.2.2.1 (ql d.1.1 d.1.2.1 d.1.2.2.1 d.1.2.2.2.1 d.1.2.2.2.2.1 d.2.1).1).2)))]) }
abbrev apx(vs:List VD) (ms cs:List ByteArray) (fs:List FD) (ts:List SD) (bound:Int) (pk:List Int):Nat->Option (St->kS):=λk=>match k with
 | 5=>some λ_=>.inv { α:=Nat×ZD,slots:=λa=>[(10,.c (.v (.int .i64 a.1)))],res:=λa=>[(2,bZ (a.2).1 (a.2).2.1.1 (a.2).2.1.2.1 (a.2).2.1.2.2.1 (a.2).2.1.2.2.2.1 (a.2).2.2.1)],inv:=λa=>a.1<=pk.length/\oh vs ms cs fs ts bound pk (ql vs ms cs fs ts bound).1=oh vs ms cs fs ts bound (pk.drop a.1) a.2/\Inv vs ms cs fs ts bound a.2/\a.2.1.length<=20+a.1,meas:=λa=>pk.length - a.1 }
 | _=>none
theorem am0(vs:List VD) (ms cs:List ByteArray) (fs:List FD) (ts:List SD) (bound:Int) (pk:List Int) (aH:adf.pre ((vs,ms,cs,fs,ts,()),bound,pk,())):
 let vJ:=bnd ((vs,ms,cs,fs,ts,()),());let z17:=ql vs ms cs fs ts bound;let y7:=oh vs ms cs fs ts bound pk z17.fst;let z11:=[CY (y7.fst),cB (y7.snd)];let z6:=λ(x:Nat×ZD)=>x.fst<=pk.length/\oh vs ms cs fs ts bound pk z17.fst=oh vs ms cs fs ts bound (List.drop x.fst pk) x.snd/\Inv vs ms cs fs ts bound x.snd/\x.snd.fst.length<=20+x.fst;let O6:=bP vs ms cs fs ts;let z5:=λ(x:Nat×ZD)=>[g0 O6,g0 (au.blk 37 wM),g0 (au.blk 37 [SC.sl dR x.snd.fst,SC.sl I6 x.snd.snd.fst.fst,SC.sl I6 x.snd.snd.fst.snd.fst,SC.sl I6.sl x.snd.snd.fst.snd.snd.fst,SC.sl I6 x.snd.snd.fst.snd.snd.snd.fst,SC.sl Bd x.snd.snd.snd.fst])];let z12:=λ(x:Nat×ZD)=>fP vs ms cs fs ts x.snd.fst x.snd.snd.fst x.snd.snd.snd.fst;let z9:=λ(x:Nat×ZD)=>rT z11 [CY x.snd,cB true];let z7:=λ(d:Int) (x:Nat×ZD)=>d.tmod (↑(z12 x).length:Int)+(↑(z12 x).length:Int);let z10:=λ(x:Nat×ZD)=>vJ/\je x.snd.fst/\List.length x.snd.fst<=999999/\qZ x.snd.snd.fst=true/\Bg x.snd.snd.snd.fst;let mQ:=λ(x:Nat×ZD) (dL:Int)=>dV vs ms cs fs ts bound x.snd dL;let z13:=λ(x:Nat×ZD) (dL:Int)=>!decide ((mQ x dL).snd.snd=0);let z8:=λ(x:Nat×ZD)=>rT z11 [CY x.snd,cB false];let z4:=λ(x:Nat×ZD) (dL:Int)=>(iR ((x.fst:Int)+(1:Int))/\∃(x':Nat×ZD),(z6 x')/\(cI ((x.fst:Int)+(1:Int))=cI (x'.fst:Int)/\True)/\[g0 O6,g0 (au.blk 37 wM),g0 (au.blk 37 [SC.sl dR (mQ x dL).fst.fst,SC.sl I6 (mQ x dL).fst.snd.fst.fst,SC.sl I6 (mQ x dL).fst.snd.fst.snd.fst,SC.sl I6.sl (mQ x dL).fst.snd.fst.snd.snd.fst,SC.sl I6 (mQ x dL).fst.snd.fst.snd.snd.snd.fst,SC.sl Bd (mQ x dL).fst.snd.snd.fst])]=(z5 x')/\pk.length - x'.fst < pk.length - x.fst);let z2:=λ(x:Nat×ZD) (dL:Int)=>(z10 x)/\br (z13 x dL) (z8 x) (z4 x dL)/\br (z13 x dL) (z8 x) (z4 x dL);let z3:=λ(x:Nat×ZD) (dL:Int)=>(z10 x)/\br (z13 x dL) (z8 x) (z4 x dL);let z1:=λ(x:Nat×ZD) (dL:Int)=>(z3 x dL)/\(z10 x)/\br (z13 x dL) (z8 x) (z4 x dL);vJ/\br (!decide (z17.snd=0)) (rT z11 [CY (z17.fst),cB false]) ((∃(x:Nat×ZD),(z6 x)/\(cI 0=cI (x.fst:Int)/\True)/\[g0 O6,g0 (au.blk 37 wM),g0 (au.blk 37 [SC.sl dR z17.fst.fst,SC.sl I6 z17.fst.snd.fst.fst,SC.sl I6 z17.fst.snd.fst.snd.fst,SC.sl I6.sl z17.fst.snd.fst.snd.snd.fst,SC.sl I6 z17.fst.snd.fst.snd.snd.snd.fst,SC.sl Bd z17.fst.snd.snd.fst])]=(z5 x))/\∀(x:Nat×ZD),x.fst<=pk.length/\oh vs ms cs fs ts bound pk z17.fst=oh vs ms cs fs ts bound (List.drop x.fst pk) x.snd/\Inv vs ms cs fs ts bound x.snd/\x.snd.fst.length<=20+x.fst->br (decide ((x.fst:Int) < (pk.length:Int))) ((vJ/\je x.snd.fst/\bI x.snd.snd.fst)/\br (decide ((↑(z12 x).length:Int)=(0:Int))) (z9 x) ((0<=(x.fst:Int)/\(x.fst:Int) < (pk.length:Int))/\∀(d:Int),pk[(x.fst:Int).toNat]?=some d->(↑(z12 x).length:Int)≠(0:Int)/\br (decide (d.tmod (↑(z12 x).length:Int) < (0:Int))) (iR (z7 d x)/\(0<=d.tmod (↑(z12 x).length:Int)+(↑(z12 x).length:Int)/\d.tmod (↑(z12 x).length:Int)+(↑(z12 x).length:Int) < (↑(z12 x).length:Int))/\∀(dL:Int),(z12 x)[(z7 d x).toNat]?=some dL->(z2 x dL)/\(z1 x dL)/\(z3 x dL)/\(z10 x)/\br (z13 x dL) (z8 x) (z4 x dL)) ((0<=d.tmod (↑(z12 x).length:Int)/\d.tmod (↑(z12 x).length:Int) < (↑(z12 x).length:Int))/\∀(dL:Int),(z12 x)[(d.tmod (↑(z12 x).length:Int)).toNat]?=some dL->(z2 x dL)/\(z1 x dL)/\(z3 x dL)/\(z10 x)/\br (z13 x dL) (z8 x) (z4 x dL)))) (z9 x)):=by
 conv=>zeta
 delta wM iR iN;obtain⟨hb,hs,hts,hpk⟩:bnd ((vs,ms,cs,fs,ts,()),())/\dG (aG vs ms cs fs ts).1 bound=0/\ts.length<=20/\pk.length<=40:=aH;have hS:ql vs ms cs fs ts bound=((mX (aG vs ms cs fs ts).1 fs bound ts,(qj vs ms cs fs ts).1,[],()),0):=by unfold ql;rw[if_neg (by omega)]
 have I0:Inv vs ms cs fs ts bound (ql vs ms cs fs ts bound).1:=by rw[hS];exact UW hs
 have hl0:(ql vs ms cs fs ts bound).1.1.length<=20:=by rw[hS];show(mX _ _ _ _).length<=20;rw[LG];exact hts
 have h0:(ql vs ms cs fs ts bound).2=0:=by rw[hS]
 generalize ql vs ms cs fs ts bound=S at I0 hl0 h0 ⊢;obtain⟨z0,e0⟩:=S;dsimp only at I0 hl0 h0 ⊢;refine⟨hb,ah.2 ⟨λh=>by rw[h0]at h;simp at h,λ_=>⟨⟨(0,z0),⟨by simp,rfl,I0,by simpa using hl0⟩,⟨rfl,trivial⟩,rfl⟩,λx hx=>?_⟩⟩⟩
 obtain⟨k,z⟩:=x;obtain⟨hk,hr,I,hl⟩:=hx;dsimp only at hk hr I hl ⊢;have Ru:z.1.length<=60:=by omega
 refine ah.2 ⟨λg=>⟨⟨hb,I.bt Ru,I.bm Ru⟩,ah.2 ⟨λg2=>U9 ?_,λg2=>?_⟩⟩,λg=>U9 ?_⟩
 .rw[hr];exact adb (List.length_eq_zero_iff.1 (by have:=RF g2;omega)) _
 .have g:(k:Int) < (pk.length:Int):=RF g;have g2:¬((fP vs ms cs fs ts z.1 z.2.1 z.2.2.1).length:Int)=0:=A91 g2;have hne:fP vs ms cs fs ts z.1 z.2.1 z.2.2.1≠[]:=λq=>g2 (by rw[q];rfl)
  have hn:(fP vs ms cs fs ts z.1 z.2.1 z.2.2.1).length≠0:=by omega
  refine⟨⟨by omega,g⟩,λd hd=>⟨g2,?_⟩⟩
  have hpr:=U5 hn d;have hd:pk[k]?=some d:=hd;have hdr:pk.drop k=d :: pk.drop (k+1):=by
   have gZ:k < pk.length:=by omega
   rw[List.drop_eq_getElem_cons gZ];rw[kR gZ]at hd;rw[LW hd]
  have P:bnd ((vs,ms,cs,fs,ts,()),())/\je z.1/\z.1.length<=999999/\qZ z.2.1=true/\Bg z.2.2.1:=⟨hb,I.bt Ru,by omega,I.few Ru,I.bb⟩
  have key:∀d1,(fP vs ms cs fs ts z.1 z.2.1 z.2.2.1)[(Bq (fP vs ms cs fs ts z.1 z.2.1 z.2.2.1).length d).toNat]?=some d1->(dV vs ms cs fs ts bound z d1).2.2=0/\Inv vs ms cs fs ts bound (dV vs ms cs fs ts bound z d1).1/\(dV vs ms cs fs ts bound z d1).1.1.length<=20+(k+1)/\oh vs ms cs fs ts bound pk z0=oh vs ms cs fs ts bound (pk.drop (k+1)) (dV vs ms cs fs ts bound z d1).1:=by
   intro d1 hd1;have e:d1=(fP vs ms cs fs ts z.1 z.2.1 z.2.2.1).getD (Bq (fP vs ms cs fs ts z.1 z.2.1 z.2.2.1).length d).toNat 0:=by rw[LQ,hd1];rfl
   obtain⟨p1,p2,p3⟩:=O4 I Ru hne (k:=(Bq (fP vs ms cs fs ts z.1 z.2.1 z.2.2.1).length d).toNat) (by omega)
   rw[<-e]at p1 p2 p3;exact⟨p1,p2,by omega,by rw[hr,hdr];exact ade hne e p1⟩
  refine ah.2 ⟨λg3=>?_,λg3=>?_⟩
  .have g3:=RF g3;have ep:d.tmod ((fP vs ms cs fs ts z.1 z.2.1 z.2.2.1).length:Int)+((fP vs ms cs fs ts z.1 z.2.1 z.2.2.1).length:Int)=Bq (fP vs ms cs fs ts z.1 z.2.1 z.2.2.1).length d:=by unfold Bq;rw[if_pos g3]
   have hle:=LP I;rw[ep];refine⟨ay.2 (by omega),hpr,λd1 hd1=>?_⟩
   obtain⟨p1,p2,p3,p4⟩:=key d1 hd1
   repeat' (first | exact P | exact ah.2 ⟨λh=>by rw[p1]at h;simp at h,λ_=>⟨ay.2 (by omega),(k+1,(dV vs ms cs fs ts bound z d1).1),⟨by show k+1<=_;omega,p4,p2,p3⟩,⟨rfl,trivial⟩,rfl,by show pk.length - (k+1) < pk.length - k;omega⟩⟩ | (refine And.intro ?_ ?_))
  .have g3:=A91 g3;have ep:d.tmod ((fP vs ms cs fs ts z.1 z.2.1 z.2.2.1).length:Int)=Bq (fP vs ms cs fs ts z.1 z.2.1 z.2.2.1).length d:=by unfold Bq;rw[if_neg g3]
   rw[ep];refine⟨hpr,λd1 hd1=>?_⟩
   obtain⟨p1,p2,p3,p4⟩:=key d1 hd1
   repeat' (first | exact P | exact ah.2 ⟨λh=>by rw[p1]at h;simp at h,λ_=>⟨ay.2 (by omega),(k+1,(dV vs ms cs fs ts bound z d1).1),⟨by show k+1<=_;omega,p4,p2,p3⟩,⟨rfl,trivial⟩,rfl,by show pk.length - (k+1) < pk.length - k;omega⟩⟩ | (refine And.intro ?_ ?_))
 .rw[hr];have g:¬(k:Int) < (pk.length:Int):=A91 g;rw[Va (by omega)];rfl
theorem ahZ:aW aT.gd 27 adf:=
 fG (cx:=aT) (n:=68) (cl:=[(12,UM),(19,G8),(21,OQ)]) (rc:=[]) aB ⟨UN,Lu,LD,trivial⟩ Tryz.func27 λd hd=>by
  obtain⟨⟨vs,ms,cs,fs,ts,⟨⟩⟩,bound,pk,⟨⟩⟩:=d;exact aQ (apx vs ms cs fs ts bound pk) (am0 vs ms cs fs ts bound pk hd) (by kernel_rfl)
end
end Go.Proofs.YtjhenjhcbcalpaaGreatDoor
