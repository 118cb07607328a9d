/- Part 8 of the proof. Conditions: the rows'. -/
import Derived.Test.YtaagmchgokmdgaaGreatDoorB7
set_option linter.unusedSimpArgs false
set_option linter.unusedVariables false
set_option maxRecDepth 1000000
set_option maxHeartbeats 8000000
namespace Go.Proofs.YtaagmchgokmdgaaGreatDoor
open Go Go.lM
noncomputable section
variable {ms cs:List ByteArray}{fs:List FD}{bound id pc st ch ph su fa:Int}{t:TD}{vs:List VD}{rg he:List Int}{u:Unit}{i:ID}
abbrev Em:CT:={ ps:=[qN,.int .i64],pre:=λd=>bnd (d.1,()),res:=λd=>([],.one (.c (.v (.int .i64 (gU (bG d.1.1 d.1.2.1 d.1.2.2.1 d.1.2.2.2.1 d.1.2.2.2.2.1).1 d.2.1))))) }
theorem aek(vs:List VD) (ms cs:List ByteArray) (fs:List FD) (ts:List SD) (bound:Int) (aS:Em.pre ((vs,ms,cs,fs,ts,()),bound,())):
 let z2:=bG vs ms cs fs ts;let z1:=gU z2.fst bound;(vs.length<=1000000/\ms.length<=1000000/\cs.length<=1000000/\fs.length<=1000000/\ts.length<=1000000/\(∀(x:ByteArray×(kC.sl.pair Sh.unit).den),x∈fs->List.length x.snd.fst<=1000000)/\(dF fs).length<=1000000)/\br (!decide (z2.fst=0)) (qI z1 (z2.fst)) (br (decide (bound < 1) || decide (32 < bound)) (qI z1 (2:Int)) (qI z1 (0:Int))):=by
 conv=>zeta
 delta qI I6;have hb:bnd ((vs,ms,cs,fs,ts,()),()):=aS;refine⟨hb,ak.2 ⟨λh=>?_,λh=>ak.2 ⟨λh2=>?_,λh2=>?_⟩⟩⟩
 .have h:(bG vs ms cs fs ts).1≠0:=by simpa using h
  unfold gU;rw[if_pos h];exact⟨rfl,rfl⟩
 .have h:¬(bG vs ms cs fs ts).1≠0:=by simpa using h
  have h2:bound < 1\/32 < bound:=by simpa using h2
  unfold gU;rw[if_neg h,if_pos h2];exact⟨rfl,rfl⟩
 .have h:¬(bG vs ms cs fs ts).1≠0:=by simpa using h
  have h2:¬(bound < 1\/32 < bound):=by simp only[pz,iZ]at h2;omega
  unfold gU;rw[if_neg h,if_neg h2];exact⟨rfl,rfl⟩
theorem zH:bJ bM.gd 15 Em:=
 jA (cx:=bM) (n:=23) (cl:=[(29,Va)]) aF ⟨Y3,trivial⟩ Tryz.func15 λd hd=>by
  obtain⟨⟨vs,ms,cs,fs,ts,⟨⟩⟩,bound,⟨⟩⟩:=d;exact cO (λ_=>none) (aek vs ms cs fs ts bound hd) (by kernel_rfl)
open Classical in
theorem gG:gy ms fs bound t=true↔aQ ms fs bound t:=by
 unfold gy;rw[QZ]
theorem uJ(h:¬aQ ms fs bound t):gy ms fs bound t=false:=Bool.eq_false_iff.2 λq=>h (gG.1 q)
open Classical in
theorem sK:y8 ms fs bound t=true↔Jg ms fs bound t:=by
 unfold y8;rw[QZ]
theorem Le(h:¬Jg ms fs bound t):y8 ms fs bound t=false:=Bool.eq_false_iff.2 λq=>h (sK.1 q)
abbrev Ox:CT:={ ps:=[qN,.int .i64,dK],pre:=λd=>True/\d.2.2.1.2.2.2.2.2.2.2.2.2.1.length<=1000000/\d.2.2.1.1<=9223372036854775807/\d.2.2.1.2.2.2.1.length=8,res:=λd=>([],vB (gy d.1.2.1 d.1.2.2.2.1 d.2.1 d.2.2.1)) }
abbrev agS(vs:List VD) (ms cs:List ByteArray) (fs:List FD) (ts:List SD) (bound id fn pc:Int) (rg:List Int) (st ch ph su fa:Int) (he:List Int):Nat->Option (St->mO):=λk=>match k with
 | 5=>some λ_=>.inv { α:=Nat,slots:=λk=>[(52,.c (.v (.int .i64 k)))],res:=λ_=>[],inv:=λk=>k<=8/\∀j < k,∀r,rg[j]?=some r->dJ r=true,meas:=λk=>8 - k }
 | 13=>some λ_=>.inv { α:=Nat,slots:=λk=>[(97,.c (.v (.int .i64 k)))],res:=λ_=>[],inv:=λk=>k<=he.length/\∀j < k,∀m,he[j]?=some m->0<=m/\m < ms.length,meas:=λk=>he.length - k }
 | _=>none
theorem ael(vs:List VD) (ms cs:List ByteArray) (fs:List FD) (ts:List SD) (bound id fn pc:Int) (rg:List Int) (st ch ph su fa:Int) (he:List Int) (aS:Ox.pre ((vs,ms,cs,fs,ts,()),bound,(id,fn,pc,rg,st,ch,ph,su,fa,he,()),())):
 let z3:=!(decide (bC id < 0) || decide (fn < 0) || decide ((fs.length:Int)<=fn) || decide (pc < 0));let z7:=(id,fn,pc,rg,st,ch,ph,su,fa,he,());let z6:=gy ms fs bound z7;let z5:=qB z6 false;let z4:=λ(x:Nat)=>(x<=8/\∀(j:Nat),j < x->∀(r:Int),rg[j]?=some r->dJ r=true);let z1:=[g0 (aC.blk 27 [SC.sl Ea vs,SC.sl Sh.str ms,SC.sl Sh.str cs,SC.sl BM fs,SC.sl kV ts]),g0 (aC.obj 34 dK z7)];let z10:=λ(x:Nat)=>(x:Int)+(1:Int);let z2:=λ(x:Nat)=>(x<=he.length/\∀(j:Nat),j < x->∀(m:Int),he[j]?=some m->0<=m/\m < (ms.length:Int));let z8:=decide (ph=1) || decide (ph=2);let z9:=(atR fs fn pc).fst.fst=18;id<=9223372036854775807/\(z3=true->0<=fn/\fn < (fs.length:Int))/\∀(d:ByteArray×(kC.sl.pair Sh.unit).den),(z3=true->fs[fn.toNat]?=some d)->br (decide (bC id < 0) || decide (fn < 0) || decide ((fs.length:Int)<=fn) || decide (pc < 0) || decide (((List.length d.snd.fst):Int) < pc)) z5 ((∃x,(z4 x)/\(cI 0=cI (x:Int)/\True)/\sm z1)/\∀(x:Nat),(z4 x)->br (decide ((x:Int) < (8:Int))) ((0<=(x:Int)/\(x:Int) < (rg.length:Int))/\∀(d:Int),rg[(x:Int).toNat]?=some d->True/\br (!decide (aB d=d)) z5 (iR (z10 x)/\∃x',(z4 x')/\(cI (z10 x)=cI (x':Int)/\True)/\sm z1/\8 - x' < 8 - x)) (((!(decide (st < 0) || decide (bound < st) || decide (ch < 0) || decide (7 < ch) || decide (bC id=4) && !decide (ch=0)))=true->he.length<=1000000)/\br (decide (st < 0) || decide (bound < st) || decide (ch < 0) || decide (7 < ch) || decide (bC id=4) && !decide (ch=0) || !vN he) z5 ((∃x,(z2 x)/\(cI 0=cI (x:Int)/\True)/\sm z1)/\∀(x:Nat),(z2 x)->br (decide ((x:Int) < (he.length:Int))) ((0<=(x:Int)/\(x:Int) < (he.length:Int))/\∀(d:Int),he[(x:Int).toNat]?=some d->br (decide (d < 0) || decide ((ms.length:Int)<=d)) z5 (iR (z10 x)/\∃x',(z2 x')/\(cI (z10 x)=cI (x':Int)/\True)/\sm z1/\he.length - x' < he.length - x)) (br (decide (ph=0)) (qB z6 true) ((0<=fn/\fn < (fs.length:Int)/\0<=pc)/\((z8 && (atR fs fn pc).snd && decide z9)=true->he.length<=1000000)/\qB z6 (z8 && (atR fs fn pc).snd && decide z9 && !gZ he (atR fs fn pc).fst.snd.snd.snd.snd.snd.fst)))))):=by
 conv=>zeta
 delta cI g0 qB sm I6 iR;obtain⟨_,uK,hid,hrg⟩:True/\he.length<=1000000/\id<=9223372036854775807/\rg.length=8:=aS;have fF:¬aQ ms fs bound (id,fn,pc,rg,st,ch,ph,su,fa,he,())->([]:List Go.lM.aC)=[]/\aW.one (SV.c (SC.v (Value.bool (gy ms fs bound (id,fn,pc,rg,st,ch,ph,su,fa,he,())))))=aW.one (SV.c (SC.v (Value.bool false))):=λq=>⟨rfl,by rw[uJ q]⟩
 refine⟨hid,λg=>by simp at g;omega,λx hx=>ak.2 ⟨λh=>?_,λh=>?_⟩⟩
 .refine fF λq=>?_
  obtain⟨q1,q2,q3,_⟩:=q;obtain⟨y,hy,ey⟩:=lV q2;have hx:=hx (by simp;omega)
  rw[hx]at hy;cases hy;rw[ey]at q3;simp at h;omega
 simp only[pz,iZ]at h;obtain⟨⟨⟨⟨h1,h2⟩,h3⟩,h4⟩,h5⟩:=h;have hx:=hx (by simp;omega)
 have hfn:0<=fn/\fn < (fs.length:Int):=by omega
 obtain⟨y,hy,ey⟩:=lV hfn;rw[hx]at hy;cases hy;have hpc:0<=pc/\pc<=((codeF fs fn).length:Int):=by rw[ey];omega
 refine⟨⟨0,⟨by omega,λj hj=>by omega⟩,⟨rfl,trivial⟩,rfl⟩,λk hk=>ak.2 ⟨λh=>?_,λh=>?_⟩⟩
 .simp only[iE]at h;refine⟨by omega,λd hd=>⟨trivial,ak.2 ⟨λh6=>?_,λh6=>⟨aA.2 (by omega),k+1,⟨by omega,λj hj r hr=>?_⟩,⟨rfl,trivial⟩,rfl,by omega⟩⟩⟩⟩
  .refine fF λq=>?_
   have:=q.2.2.2.1 k (by omega) d hd
   unfold dJ at this;have h6:¬aB d=d:=by simpa using h6
   exact h6 (BP.2 (by simpa using this))
  .have h6:aB d=d:=by simpa using h6
   by_cases ku:j=k
   .subst ku;have hd:rg[j]?=some d:=hd;rw[hd]at hr;cases hr;unfold dJ;exact Wx (BP.1 h6)
   .exact hk.2 j (by omega) r hr
 simp only[iZ]at h;have hr:∀k < 8,∀r,rg[k]?=some r->dJ r=true:=λj hj r hr=>hk.2 j (by omega) r hr
 refine⟨λ_=>uK,ak.2 ⟨λh7=>?_,λh7=>?_⟩⟩
 .refine fF λq=>?_
  obtain⟨_,_,_,_,q5,q6,q7,_⟩:=q;have e:vN he=true:=Wx q7;rw[e]at h7;simp at h7;omega
 simp only[pz,A94,QN,iZ,iE]at h7;obtain⟨⟨⟨⟨⟨a1,a2⟩,a3⟩,a4⟩,a5⟩,a6⟩:=h7;have hss:SS he:=ZX a6;refine⟨⟨0,⟨by omega,λj hj=>by omega⟩,⟨rfl,trivial⟩,rfl⟩,λm hm=>ak.2 ⟨λh8=>?_,λh8=>?_⟩⟩
 .simp only[iE]at h8;refine⟨by omega,λd hd=>ak.2 ⟨λh9=>?_,λh9=>⟨aA.2 (by omega),m+1,⟨by omega,λj hj r hr=>?_⟩,⟨rfl,trivial⟩,rfl,by omega⟩⟩⟩
  .refine fF λq=>?_
   have:=q.2.2.2.2.2.2.2.1 d (kT hd);simp at h9;omega
  .by_cases ku:j=m
   .subst ku;have hd:he[j]?=some d:=hd;rw[hd]at hr;cases hr;simp at h9;omega
   .exact hm.2 j (by omega) r hr
 simp only[iZ]at h8;have hmm:∀m∈he,0<=m/\m < (ms.length:Int):=λy hy=>by
  obtain⟨j,hj⟩:=Ja hy;exact hm.2 j (by have:=(eU.1 hj).1;omega) y hj
 have base:(ph=0\/((ph=1\/ph=2)/\∃i,qm fs fn pc=some i/\i.1=18/\gZ he i.2.2.2.2.2.1=false))↔aQ ms fs bound (id,fn,pc,rg,st,ch,ph,su,fa,he,()):=
  ⟨λq=>⟨by omega,hfn,hpc,hr,by omega,⟨by omega,by omega,λe=>by omega⟩,hss,hmm,q⟩,λq=>q.2.2.2.2.2.2.2.2⟩
 have fB:∀b:Bool,(b=true↔(ph=0\/((ph=1\/ph=2)/\∃i,qm fs fn pc=some i/\i.1=18/\gZ he i.2.2.2.2.2.1=false)))->aW.one (SV.c (SC.v (Value.bool (gy ms fs bound (id,fn,pc,rg,st,ch,ph,su,fa,he,())))))=aW.one (SV.c (SC.v (Value.bool b))):=λb hb=>by
  have:gy ms fs bound (id,fn,pc,rg,st,ch,ph,su,fa,he,())=b:=by
   rw[Jb,hb,base,gG]
  rw[this]
 refine ak.2 ⟨λh9=>⟨rfl,fB _ ?_⟩,λh9=>⟨⟨hfn.1,hfn.2,hpc.1⟩,λ_=>uK,rfl,fB _ ?_⟩⟩
 .simp at h9;simp[h9]
 .simp at h9;cases ha:qm fs fn pc with
  | none=>rw[show atR fs fn pc=((0,0,0,0,0,0,0,0,()),false) by unfold atR;rw[ha]];simp[h9]
  | some i=>rw[show atR fs fn pc=(i,true) by unfold atR;rw[ha]];simp[h9,and_assoc]
theorem Oy:bJ bM.gd 16 Ox:=
 jY (cx:=bM) (n:=144) (cl:=[(21,I5),(22,BZ),(30,ctV),(24,Ld),(31,NY)]) (rc:=[]) aF ⟨Gh,zG,Zm,xE,NZ,trivial⟩ Tryz.func16 λd hd=>by
  obtain⟨⟨vs,ms,cs,fs,ts,⟨⟩⟩,bound,⟨id,fn,pc,rg,st,ch,ph,su,fa,he,⟨⟩⟩,⟨⟩⟩:=d;exact cO (agS vs ms cs fs ts bound id fn pc rg st ch ph su fa he) (ael vs ms cs fs ts bound id fn pc rg st ch ph su fa he hd) (by kernel_rfl)
abbrev Gj:CT:={ ps:=[qN,.int .i64,dK],pre:=λd=>(bG d.1.1 d.1.2.1 d.1.2.2.1 d.1.2.2.2.1 d.1.2.2.2.2.1).1=0/\d.2.2.1.2.2.2.2.2.2.2.2.2.1.length<=1000000/\d.2.2.1.1<=9223372036854775807/\d.2.2.1.2.2.2.1.length=8,res:=λd=>([],vB (y8 d.1.2.1 d.1.2.2.2.1 d.2.1 d.2.2.1)) }
theorem aem(vs:List VD) (ms cs:List ByteArray) (fs:List FD) (ts:List SD) (bound id fn pc:Int) (rg:List Int) (st ch ph su fa:Int) (he:List Int) (aS:Gj.pre ((vs,ms,cs,fs,ts,()),bound,(id,fn,pc,rg,st,ch,ph,su,fa,he,()),())):
 let z5:=(id,fn,pc,rg,st,ch,ph,su,fa,he,());let z4:=y8 ms fs bound z5;let z3:=qB z4 false;let z2:=((!(!decide (fa=0) || !(atR fs fn pc).snd))=true->True)/\((!(!decide (fa=0) || !(atR fs fn pc).snd || !jm (atR fs fn pc).fst.fst))=true->he.length<=1000000/\id<=9223372036854775807)/\br (!decide (fa=0) || !(atR fs fn pc).snd || !jm (atR fs fn pc).fst.fst || !decide (iD id ch ph he (atR fs fn pc).fst=0)) z3 (qB z4 (decide (su=1) && decide (st < bound) || decide (su=4) && decide (1<=st)));let z6:=(atR fs fn pc).fst.fst=6;let z1:=br (decide (su=2)) (qB z4 (decide (fa=0) && decide (ph=0) && (!(atR fs fn pc).snd || decide ((atR fs fn pc).fst.fst=7)))) (br (decide (su=3)) (br (!decide (ph=0) || !(atR fs fn pc).snd) z3 (br (decide (fa=26)) ((decide z6=true->0<=(atR fs fn pc).fst.snd.snd.fst/\(atR fs fn pc).fst.snd.snd.fst < 8)/\(decide z6=true->(atR fs fn pc).fst.snd.snd.fst.toNat < 8)/\∀(d:Int),(decide z6=true->rg[(atR fs fn pc).fst.snd.snd.fst.toNat]?=some d)->qB z4 (decide z6 && decide (d=0))) (br (decide (fa=29)) (True/\qB z4 (!jm (atR fs fn pc).fst.fst)) (((!decide (fa=0))=true->he.length<=1000000/\id<=9223372036854775807)/\qB z4 (!decide (fa=0) && decide (iD id ch ph he (atR fs fn pc).fst=fa)))))) z3);(True/\he.length<=1000000/\id<=9223372036854775807/\rg.length=8)/\br (!gy ms fs bound z5) z3 ((0<=fn/\fn < (fs.length:Int)/\0<=pc)/\br (decide (su=1)) (br (decide (su=1)) z2 z1) (br (decide (su=4)) z2 z1)):=by
 conv=>zeta
 delta qB;obtain⟨hc,uK,hid,hrg⟩:(bG vs ms cs fs ts).1=0/\he.length<=1000000/\id<=9223372036854775807/\rg.length=8:=aS;refine⟨⟨trivial,uK,hid,hrg⟩,ak.2 ⟨λh=>⟨rfl,?_⟩,λh=>?_⟩⟩
 .have:y8 ms fs bound (id,fn,pc,rg,st,ch,ph,su,fa,he,())=false:=Le λq=>by
   have e:=gG.2 q.1;rw[e]at h;cases h
  rw[this]
 have hF:aQ ms fs bound (id,fn,pc,rg,st,ch,ph,su,fa,he,()):=by
  have e:gy ms fs bound (id,fn,pc,rg,st,ch,ph,su,fa,he,())=true:=by simpa using h
  exact gG.1 e
 have hfn:=hF.2.1;refine⟨⟨hfn.1,hfn.2,hF.2.2.1.1⟩,?_⟩;have W:∀b:Bool,(b=true↔(((su=1/\st < bound\/su=4/\1<=st)/\fa=0/\∃i,qm fs fn pc=some i/\jm i.1=true/\iD id ch ph he i=0) \/
  (su=2/\fa=0/\ph=0/\∀i,qm fs fn pc=some i->i.1=7) \/
  (su=3/\ph=0/\∃i,qm fs fn pc=some i/\(fa=26/\i.1=6/\rg.getD i.2.2.1.toNat 0=0\/fa=29/\jm i.1=false\/fa≠26/\fa≠29/\fa≠0/\iD id ch ph he i=fa)))) ->
   aW.one (SV.c (SC.v (Value.bool (y8 ms fs bound (id,fn,pc,rg,st,ch,ph,su,fa,he,())))))=aW.one (SV.c (SC.v (Value.bool b))):=λb hb=>by
  have:y8 ms fs bound (id,fn,pc,rg,st,ch,ph,su,fa,he,())=b:=by
   rw[Jb,hb,sK];exact⟨λq=>q.2,λq=>⟨hF,q⟩⟩
  rw[this]
 cases ha:qm fs fn pc with
 | none=>
   rw[show atR fs fn pc=((0,0,0,0,0,0,0,0,()),false) by unfold atR;rw[ha]]
   simp only[ak,ha]at W ⊢
   repeat' (first | exact uK | exact hid | (refine And.intro ?_ ?_) | (intro _))
   all_goals first | rfl | trivial | exact uK | exact hid | (refine W _ ?_;simp_all;done) | (simp_all;done)
 | some i=>
   rw[show atR fs fn pc=(i,true) by unfold atR;rw[ha]]
   obtain⟨r1,r2,r3,r4⟩:=kK (qo (BR hc hfn ha)).1;have rb8:i.2.2.1.toNat < 8:=by omega
   have gd:∀{x d:Int},rg[x.toNat]?=some d->rg.getD x.toNat 0=d:=λhd=>by rw[Gu,hd];rfl
   simp only[ak,ha]at W ⊢
   repeat' (first | exact uK | exact hid | exact r2.1 | exact r2.2 | exact rb8 | (refine And.intro ?_ ?_) | (intro _))
   all_goals first | rfl | trivial | exact uK | exact hid | exact r2.1 | exact r2.2 | exact rb8 | (refine W _ ?_;simp_all;done) | (refine W _ ?_;clear W;simp_all;grind) | skip
theorem Oz:bJ bM.gd 23 Gj:=
 jY (cx:=bM) (n:=123) (cl:=[(16,Ox),(24,Ld),(34,Om),(35,I7)]) (rc:=[]) aF ⟨Oy,xE,Gg,Gi,trivial⟩ Tryz.func23 λd hd=>by
  obtain⟨⟨vs,ms,cs,fs,ts,⟨⟩⟩,bound,⟨id,fn,pc,rg,st,ch,ph,su,fa,he,⟨⟩⟩,⟨⟩⟩:=d;exact cO (λ_=>none) (aem vs ms cs fs ts bound id fn pc rg st ch ph su fa he hd) (by kernel_rfl)
theorem Vy(h:(BO vs ms cs fs).1=0):dw fs < 0:=by
 unfold BO at h;split at h
 .rename_i d hd;have hp:=List.find?_some hd;split at h
  .cases h
  .rename_i h1;simp only[uM,iE]at hp;rcases hp with hp | hp
   .exact absurd hp h1
   .exact absurd h hp
 .split at h
  .cases h
  .omega
theorem Vz(h:dw fs < 0):∀f∈fs,f.2.1.length<=64:=by
 unfold dw at h;split at h
 .omega
 .rename_i hn;rw[A86]at hn;intro f hf;simpa using hn f hf
theorem qw{ts:List SD} (h:(bG vs ms cs fs ts).1=0){fn:Int} (hf:0<=fn/\fn < fs.length):(codeF fs fn).length<=64:=by
 obtain⟨x,hx,ex⟩:=lV hf;rw[ex];exact Vz (Vy (xu h).2.1) x (kT hx)
theorem Cc{fn:Int} (h:qm fs fn pc=none) (k:Nat):dB fs bound k (id,fn,pc,rg,st,ch,ph,su,fa,he,u)=(id,fn,pc,rg,st,ch,ph,2,0,he,()):=by
 cases k<;>(rw[dB];unfold topS;simp only[h])
theorem Gl{fn:Int} (h:qm fs fn pc=some i) (hv:jm i.1=true) (k:Nat):dB fs bound k (id,fn,pc,rg,st,ch,ph,su,fa,he,u) =
 if iD id ch ph he i≠0 then(id,fn,pc,rg,st,ch,ph,3,iD id ch ph he i,he,()) else if st=bound then(id,fn,pc,rg,st,ch,ph,4,0,he,()) else(id,fn,pc,rg,st,ch,ph,su,fa,he,()):=by
 cases k<;>(rw[dB];unfold topS;simp only[h];rw[if_pos hv])
theorem Ce{fn:Int} (h:qm fs fn pc=some i) (hv:jm i.1=false):dB fs bound 0 (id,fn,pc,rg,st,ch,ph,su,fa,he,u)=(id,fn,pc,rg,st,ch,ph,3,29,he,()):=by
 rw[dB];unfold topS;simp only[h];rw[if_neg (by rw[hv];simp)];rfl
theorem Ci{fn:Int} (h:qm fs fn pc=some i) (hv:jm i.1=false) (k:Nat):dB fs bound (k+1) (id,fn,pc,rg,st,ch,ph,su,fa,he,u) =
 if(bF (id,fn,pc,rg,st,ch,ph,su,fa,he,u) i).2=true then dB fs bound k (bF (id,fn,pc,rg,st,ch,ph,su,fa,he,u) i).1 else(bF (id,fn,pc,rg,st,ch,ph,su,fa,he,u) i).1:=by
 rw[dB];unfold topS;simp only[h];rw[if_neg (by rw[hv];simp)]
theorem xG(t:TD) (i:ID):(bF t i).1.2.2.2.1.length=t.2.2.2.1.length:=by
 obtain⟨id,fn,pc,rg,st,ch,ph,su,fa,hd,u⟩:=t;obtain⟨op,a,b,c,obj,n,f,ord,u2⟩:=i;unfold bF;simp only
 repeat' split
 all_goals simp
abbrev OA:CT:={ ps:=[qN,.int .i64,dK],pre:=λd=>(bG d.1.1 d.1.2.1 d.1.2.2.1 d.1.2.2.2.1 d.1.2.2.2.2.1).1=0/\aQ d.1.2.1 d.1.2.2.2.1 d.2.1 d.2.2.1/\d.2.2.1.2.2.2.2.2.2.2.2.2.1.length<=1000000/\d.2.2.1.1<=9223372036854775807/\d.2.2.1.2.2.2.1.length=8,res:=λd=>([],.one (.dat dK (dB d.1.2.2.2.1 d.2.1 256 d.2.2.1))) }
abbrev agT(vs:List VD) (ms cs:List ByteArray) (fs:List FD) (ts:List SD) (bound id fn pc:Int) (rg:List Int) (st ch ph su fa:Int) (he:List Int):Nat->Option (St->mO):=λk=>match k with
 | 4=>some λ_=>.inv { α:=Nat×TD,slots:=λx=>[(7,.c (.v (.int .i64 x.1)))],res:=λx=>[(1,.obj 34 dK x.2)],inv:=λx=>x.1<=256/\aQ ms fs bound x.2/\x.2.2.2.2.2.2.2.2.2.2.1=he/\x.2.1=id/\x.2.2.2.2.1.length=8/\dB fs bound (256 - x.1) x.2=dB fs bound 256 (id,fn,pc,rg,st,ch,ph,su,fa,he,()),meas:=λx=>257 - x.1 }
 | _=>none
theorem aen(vs:List VD) (ms cs:List ByteArray) (fs:List FD) (ts:List SD) (bound id fn pc:Int) (rg:List Int) (st ch ph su fa:Int) (he:List Int) (aS:OA.pre ((vs,ms,cs,fs,ts,()),bound,(id,fn,pc,rg,st,ch,ph,su,fa,he,()),())):
 let z7:=(id,fn,pc,rg,st,ch,ph,su,fa,he,());let z2:=λ(x:Nat×TD)=>x.fst<=256/\aQ ms fs bound x.snd/\x.snd.snd.snd.snd.snd.snd.snd.snd.snd.snd.fst=he/\x.snd.fst=id/\x.snd.snd.snd.snd.fst.length=8/\dB fs bound (256 - x.fst) x.snd=dB fs bound 256 z7;let z3:=[SC.sl Ea vs,SC.sl Sh.str ms,SC.sl Sh.str cs,SC.sl BM fs,SC.sl kV ts];let z1:=λ(x:Nat×TD)=>[g0 (aC.blk 27 z3),g0 (aC.obj 34 dK x.snd),g0 (aC.obj 34 dK ((0:Int),(0:Int),(0:Int),List.replicate 8 (0:Int),(0:Int),(0:Int),(0:Int),(0:Int),(0:Int),[],())),g0 aC.gone];let z8:=λ(x:Nat×TD)=>atR fs x.snd.snd.fst x.snd.snd.snd.fst;let z5:=dB fs bound 256 z7;let z9:=aW.one (SV.dat dK z5);let z6:=λ(x:Nat×TD)=>bF x.snd (z8 x).fst;let z4:=λ(x:Nat×TD)=>(z6 x).fst;he.length<=1000000/\(∃(x:Nat×TD),(z2 x)/\(cI 0=cI (x.fst:Int)/\True)/\[g0 (aC.blk 27 z3),g0 (aC.obj 34 dK z7),g0 (aC.obj 34 dK ((0:Int),(0:Int),(0:Int),List.replicate 8 (0:Int),(0:Int),(0:Int),(0:Int),(0:Int),(0:Int),[],())),g0 aC.gone]=(z1 x))/\∀(x:Nat×TD),x.fst<=256/\aQ ms fs bound x.snd/\x.snd.snd.snd.snd.snd.snd.snd.snd.snd.snd.fst=he/\x.snd.fst=id/\x.snd.snd.snd.snd.fst.length=8/\dB fs bound (256 - x.fst) x.snd=dB fs bound 256 z7->(0<=x.snd.snd.fst/\x.snd.snd.fst < (fs.length:Int)/\0<=x.snd.snd.snd.fst)/\br (!(z8 x).snd) (True/\rE z9 (aW.one (SV.dat dK (mW x.snd (2:Int) (0:Int))))) (True/\br (jm (z8 x).fst.fst) ((List.length x.snd.snd.snd.snd.snd.snd.snd.snd.snd.snd.fst<=1000000/\x.snd.fst<=9223372036854775807)/\br (!decide (iD x.snd.fst x.snd.snd.snd.snd.snd.snd.fst x.snd.snd.snd.snd.snd.snd.snd.fst x.snd.snd.snd.snd.snd.snd.snd.snd.snd.snd.fst (z8 x).fst=0)) (True/\rE z9 (aW.one (SV.dat dK (mW x.snd (3:Int) (iD x.snd.fst x.snd.snd.snd.snd.snd.snd.fst x.snd.snd.snd.snd.snd.snd.snd.fst x.snd.snd.snd.snd.snd.snd.snd.snd.snd.snd.fst (z8 x).fst))))) (br (decide (x.snd.snd.snd.snd.snd.fst=bound)) (True/\rE z9 (aW.one (SV.dat dK (mW x.snd (4:Int) (0:Int))))) (rE z9 (aW.one (SV.dat dK (x.snd)))))) (br (decide ((x.fst:Int)=(256:Int))) (True/\rE z9 (aW.one (SV.dat dK (mW x.snd (3:Int) (29:Int))))) (((0<=(z8 x).fst.snd.fst/\(z8 x).fst.snd.fst < 8)/\(0<=(z8 x).fst.snd.snd.fst/\(z8 x).fst.snd.snd.fst < 8)/\(0<=(z8 x).fst.snd.snd.snd.fst/\(z8 x).fst.snd.snd.snd.fst < 8)/\0<=x.snd.snd.snd.fst/\x.snd.snd.snd.fst<=1000000)/\br (!(z6 x).snd) (rE z9 (aW.one (SV.dat dK (z4 x)))) (iR ((x.fst:Int)+(1:Int))/\∃(x':Nat×TD),(z2 x')/\(cI ((x.fst:Int)+(1:Int))=cI (x'.fst:Int)/\True)/\[g0 (aC.blk 27 z3),g0 (aC.obj 34 dK (z4 x)),g0 (aC.obj 34 dK ((0:Int),(0:Int),(0:Int),List.replicate 8 (0:Int),(0:Int),(0:Int),(0:Int),(0:Int),(0:Int),[],())),g0 aC.gone]=(z1 x')/\257 - x'.fst < 257 - x.fst)))):=by
 conv=>zeta
 delta cI g0 rE I6 iR;obtain⟨hc,hF,uK,hid,hrg⟩:(bG vs ms cs fs ts).1=0/\aQ ms fs bound (id,fn,pc,rg,st,ch,ph,su,fa,he,())/\he.length<=1000000/\id<=9223372036854775807/\rg.length=8:=aS;refine⟨uK,⟨(0,(id,fn,pc,rg,st,ch,ph,su,fa,he,())),⟨by omega,hF,rfl,rfl,hrg,rfl⟩,⟨rfl,trivial⟩,rfl⟩,λx hx=>?_⟩
 obtain⟨k,id',fn',pc',nV,st',ch',ug,xJ,y9,he',⟨⟩⟩:=x;obtain⟨x1,x2,x3,x4,x5,x6⟩:=hx;have x1:k<=256:=x1;have x3:he'=he:=x3;have x4:id'=id:=x4;have x5:nV.length=8:=x5;have x6:dB fs bound (256 - k) (id',fn',pc',nV,st',ch',ug,xJ,y9,he',())=dB fs bound 256 (id,fn,pc,rg,st,ch,ph,su,fa,he,()):=x6;have x2:aQ ms fs bound (id',fn',pc',nV,st',ch',ug,xJ,y9,he',()):=x2;subst x3;subst x4;rw[<-x6];have hfn:=x2.2.1;have hpc:=x2.2.2.1;refine⟨⟨hfn.1,hfn.2,hpc.1⟩,?_⟩;show br (!(atR fs fn' pc').2) _ _;cases ha:qm fs fn' pc' with
 | none=>
   rw[show atR fs fn' pc'=((0,0,0,0,0,0,0,0,()),false) by unfold atR;rw[ha]]
   refine ak.2 ⟨λ_=>⟨trivial,rfl,?_⟩,λq=>by simp at q⟩
   rw[Cc ha];rfl
 | some i=>
   rw[show atR fs fn' pc'=(i,true) by unfold atR;rw[ha]]
   obtain⟨r1,r2,r3,r4⟩:=kK (qo (BR hc hfn ha)).1;have h64:=qw hc hfn;refine ak.2 ⟨λq=>by simp at q,λ_=>⟨trivial,ak.2 ⟨λhv=>?_,λhv=>?_⟩⟩⟩
   .have hv:jm i.1=true:=hv;rw[Gl ha hv];refine⟨⟨uK,hid⟩,ak.2 ⟨λh1=>?_,λh1=>ak.2 ⟨λh2=>?_,λh2=>?_⟩⟩⟩
    .have h1:iD id' ch' ug he' i≠0:=by simpa using h1
     rw[if_pos h1];exact⟨trivial,rfl,rfl⟩
    .have h1:¬iD id' ch' ug he' i≠0:=by simpa using h1
     have h2:st'=bound:=by simpa using h2
     rw[if_neg h1,if_pos h2];exact⟨trivial,rfl,rfl⟩
    .have h1:¬iD id' ch' ug he' i≠0:=by simpa using h1
     have h2:¬st'=bound:=by simpa using h2
     rw[if_neg h1,if_neg h2];exact⟨rfl,rfl⟩
   .have hv:jm i.1=false:=hv;refine ak.2 ⟨λh1=>?_,λh1=>?_⟩
    .have h1:k=256:=by
      have:(k:Int)=256:=by simpa using h1
      omega
     rw[h1,show 256 - 256=0 from rfl,Ce ha hv]
     exact⟨trivial,rfl,rfl⟩
    .have h1:¬k=256:=by
      have:¬(k:Int)=256:=by simpa using h1
      omega
     obtain⟨m,hm⟩:∃m,256 - k=m+1:=⟨255 - k,by omega⟩
     rw[hm,Ci ha hv];have hk:=o8 (id',fn',pc',nV,st',ch',ug,xJ,y9,he',()) i;have hlen:=xG (id',fn',pc',nV,st',ch',ug,xJ,y9,he',()) i;have hfo:=qp hc x2 ha hv;refine⟨⟨r1,r2,r3,hpc.1,show pc'<=1000000 by omega⟩,ak.2 ⟨λh2=>?_,λh2=>⟨aA.2 (show(-9223372036854775808:Int)<=(k:Int)+1/\(k:Int)+1<=9223372036854775807 by omega),(k+1,(bF (id',fn',pc',nV,st',ch',ug,xJ,y9,he',()) i).1),⟨show k+1<=256 by omega,hfo,hk.2.2.2.2.2.1,hk.1,hlen.trans x5,?_⟩,⟨rfl,trivial⟩,rfl,show 257 - (k+1) < 257 - k by omega⟩⟩⟩
     .have h2:¬(bF (id',fn',pc',nV,st',ch',ug,xJ,y9,he',()) i).2=true:=by simpa using h2
      rw[if_neg h2];exact⟨rfl,rfl⟩
     .have h2:(bF (id',fn',pc',nV,st',ch',ug,xJ,y9,he',()) i).2=true:=by simpa using h2
      show dB fs bound (256 - (k+1)) _=_;rw[if_pos h2,show 256 - (k+1)=m by omega]
theorem OB:bJ bM.gd 17 OA:=
 jY (cx:=bM) (n:=59) (cl:=[(32,tV),(24,Ld),(33,Vu),(34,Om),(35,I7),(36,Vw)]) (rc:=[.data dK]) aF ⟨zD,xE,Ov,Gg,Gi,Zp,trivial⟩ Tryz.func17 λd hd=>by
  obtain⟨⟨vs,ms,cs,fs,ts,⟨⟩⟩,bound,⟨id,fn,pc,rg,st,ch,ph,su,fa,he,⟨⟩⟩,⟨⟩⟩:=d;exact cO (agT vs ms cs fs ts bound id fn pc rg st ch ph su fa he) (aen vs ms cs fs ts bound id fn pc rg st ch ph su fa he hd) (by kernel_rfl)
theorem val_wrap(n:Int):dJ n=decide (aB n=n):=by
 unfold dJ;rw[Jb,QZ,QZ,BP]
theorem aaG(h:yR vs ms cs fs=0):ms.length<=4:=by
 unfold yR at h;split at h
 .cases h
 .omega
theorem qx(h:aQ ms fs bound t) (hm:ms.length<=4):t.2.2.2.2.2.2.2.2.2.1.length<=4:=by
 obtain⟨id,fn,pc,rg,st,ch,ph,su,fa,he,u⟩:=t;exact o9 (Vd h.2.2.2.2.2.2.1 h.2.2.2.2.2.2.2.1) hm
theorem En(h:aQ ms fs bound t):t.1<=9223372036854775807:=by
 obtain⟨id,fn,pc,rg,st,ch,ph,su,fa,he,u⟩:=t;have:=uf h.1;show id<=9223372036854775807;omega
theorem Zq(t:TD) (i:ID) (r:Int):(mX t i r).2.2.2.1.length=t.2.2.2.1.length:=by
 obtain⟨id,fn,pc,rg,st,ch,ph,su,fa,hd,u⟩:=t;have e:(if(kS i).2=true then rg.set (kS i).1.toNat r else rg).length=rg.length:=by split<;>simp
 unfold mX;simp only;split
 .split
  .exact e
  split
  .exact e
  .exact e
 .exact e
theorem VA(h:qP i=0) (hd:(kS i).2=true):0<=(kS i).1/\(kS i).1 < 8:=by
 obtain⟨r1,_⟩:=kK h;unfold kS at hd ⊢;split at hd
 .cases hd
 .rename_i q;rw[if_neg q];exact r1
abbrev VB:CT:={ ps:=[qN,.int .i64,.int .i64,.int .i64,.int .i64],pre:=λd=>bnd (d.1,())/\d.2.2.1<=9223372036854775807,res:=λd=>([],.iQ [.dat dK (newS (bG d.1.1 d.1.2.1 d.1.2.2.1 d.1.2.2.2.1 d.1.2.2.2.2.1).1 d.1.2.2.2.1 d.2.1 d.2.2.1 d.2.2.2.1 d.2.2.2.2.1).1,.c (.v (.int .i64 (newS (bG d.1.1 d.1.2.1 d.1.2.2.1 d.1.2.2.2.1 d.1.2.2.2.2.1).1 d.1.2.2.2.1 d.2.1 d.2.2.1 d.2.2.2.1 d.2.2.2.2.1).2))]) }
abbrev kq1:=[SV.dat dK (((0:Int),(0:Int),(0:Int),[(0:Int),(0:Int),(0:Int),(0:Int),(0:Int),(0:Int),(0:Int),(0:Int)],(0:Int),(0:Int),(0:Int),(0:Int),(0:Int),[],())),cI 2]
abbrev OC:=[(0:Int),(0:Int),(0:Int),(0:Int),(0:Int),(0:Int),(0:Int),(0:Int)]
theorem aeo(vs:List VD) (ms cs:List ByteArray) (fs:List FD) (ts:List SD) (bound id fn arg:Int) (aS:VB.pre ((vs,ms,cs,fs,ts,()),bound,id,fn,arg,())):
 let z4:=bG vs ms cs fs ts;let z3:=newS z4.fst fs bound id fn arg;let z2:=[SV.dat dK z3.fst,cI (z3.snd)];let z1:=rT z2 kq1;(vs.length<=1000000/\ms.length<=1000000/\cs.length<=1000000/\fs.length<=1000000/\ts.length<=1000000/\(∀(x:ByteArray×(kC.sl.pair Sh.unit).den),x∈fs->List.length x.snd.fst<=1000000)/\(dF fs).length<=1000000)/\br (!decide (gU z4.fst bound=0)) (rT z2 [SV.dat dK (((0:Int),(0:Int),(0:Int),OC,(0:Int),(0:Int),(0:Int),(0:Int),(0:Int),[],())),cI (gU z4.fst bound)]) (id<=9223372036854775807/\br (decide (bC id < 0)) z1 (br (decide (fn < 0) || decide ((fs.length:Int)<=fn)) (rT z2 [SV.dat dK (((0:Int),(0:Int),(0:Int),OC,(0:Int),(0:Int),(0:Int),(0:Int),(0:Int),[],())),cI 11]) (True/\br (!decide (aB arg=arg)) z1 (((0:Int)<=(0:Int)/\(0:Int) < (8:Int))/\0 < 8/\(z4.fst=0/\aQ ms fs bound (id,fn,(0:Int),OC.set 0 arg,(0:Int),(0:Int),(0:Int),(1:Int),(0:Int),[],())/\0<=1000000/\id<=9223372036854775807/\(OC.set 0 arg).length=8)/\rT z2 [SV.dat dK (dB fs bound 256 (id,fn,(0:Int),OC.set 0 arg,(0:Int),(0:Int),(0:Int),(1:Int),(0:Int),[],())),cI 0])))):=by
 conv=>zeta
 delta kq1 OC cI rT I6;obtain⟨hb,hid⟩:bnd ((vs,ms,cs,fs,ts,()),())/\id<=9223372036854775807:=aS;refine⟨hb,ak.2 ⟨λh=>?_,λh=>⟨hid,ak.2 ⟨λh2=>?_,λh2=>ak.2 ⟨λh3=>?_,λh3=>⟨trivial,ak.2 ⟨λh4=>?_,λh4=>?_⟩⟩⟩⟩⟩⟩⟩
 .have h:gU (bG vs ms cs fs ts).1 bound≠0:=by simpa using h
  have e:newS (bG vs ms cs fs ts).1 fs bound id fn arg=(zT,gU (bG vs ms cs fs ts).1 bound):=by unfold newS;rw[if_pos h]
  rw[e];exact⟨rfl,rfl⟩
 all_goals have h:¬gU (bG vs ms cs fs ts).1 bound≠0:=by simpa using h
 .have h2:bC id < 0:=by simpa using h2
  have e:newS (bG vs ms cs fs ts).1 fs bound id fn arg=(zT,2):=by unfold newS;rw[if_neg h,if_pos h2]
  rw[e];exact⟨rfl,rfl⟩
 all_goals have h2:¬bC id < 0:=by simpa using h2
 .have h3:fn < 0\/(fs.length:Int)<=fn:=by simpa using h3
  have e:newS (bG vs ms cs fs ts).1 fs bound id fn arg=(zT,11):=by unfold newS;rw[if_neg h,if_neg h2,if_pos h3]
  rw[e];exact⟨rfl,rfl⟩
 all_goals have h3:¬(fn < 0\/(fs.length:Int)<=fn):=by simp only[pz,iZ]at h3;omega
 .have h4:dJ arg=false:=by rw[val_wrap];simpa using h4
  have e:newS (bG vs ms cs fs ts).1 fs bound id fn arg=(zT,2):=by unfold newS;rw[if_neg h,if_neg h2,if_neg h3,if_pos h4]
  rw[e];exact⟨rfl,rfl⟩
 .have h4:¬dJ arg=false:=by rw[val_wrap];simpa using h4
  have e:newS (bG vs ms cs fs ts).1 fs bound id fn arg=(dB fs bound 256 (id,fn,0,[arg,0,0,0,0,0,0,0],0,0,0,1,0,[],()),0):=by unfold newS;rw[if_neg h,if_neg h2,if_neg h3,if_neg h4]
  have hs:=mM.1 (OM.1 h);rw[e];exact⟨⟨by omega,by omega⟩,by omega,⟨hs.1,BX ms hs.2.1 h2 h3 h4,by omega,hid,rfl⟩,rfl,rfl⟩
theorem Zr:bJ bM.gd 11 VB:=
 jY (cx:=bM) (n:=50) (cl:=[(15,Em),(21,I5),(22,BZ),(17,OA)]) (rc:=[.data dK,.keep]) aF ⟨zH,Gh,zG,OB,trivial⟩ Tryz.func11 λd hd=>by
  obtain⟨⟨vs,ms,cs,fs,ts,⟨⟩⟩,bound,id,fn,arg,⟨⟩⟩:=d;exact cO (λ_=>none) (aeo vs ms cs fs ts bound id fn arg hd) (by kernel_rfl)
abbrev aep:CT:={ ps:=[qN,.int .i64,dK],pre:=λd=>bnd (d.1,())/\d.2.2.1.2.2.2.2.2.2.2.2.2.1.length<=1000000/\d.2.2.1.1<=9223372036854775807/\d.2.2.1.2.2.2.1.length=8,res:=λd=>([],vB (decide (gU (bG d.1.1 d.1.2.1 d.1.2.2.1 d.1.2.2.2.1 d.1.2.2.2.2.1).1 d.2.1=0) && y8 d.1.2.1 d.1.2.2.2.1 d.2.1 d.2.2.1)) }
theorem aer(vs:List VD) (ms cs:List ByteArray) (fs:List FD) (ts:List SD) (bound id fn pc:Int) (rg:List Int) (st ch ph su fa:Int) (he:List Int) (aS:aep.pre ((vs,ms,cs,fs,ts,()),bound,(id,fn,pc,rg,st,ch,ph,su,fa,he,()),())):
 let z2:=gU (bG vs ms cs fs ts).fst bound=0;let z1:=decide z2 && y8 ms fs bound (id,fn,pc,rg,st,ch,ph,su,fa,he,());(vs.length<=1000000/\ms.length<=1000000/\cs.length<=1000000/\fs.length<=1000000/\ts.length<=1000000/\(∀(x:ByteArray×(kC.sl.pair Sh.unit).den),x∈fs->List.length x.snd.fst<=1000000)/\(dF fs).length<=1000000)/\(decide z2=true->(bG vs ms cs fs ts).fst=0/\he.length<=1000000/\id<=9223372036854775807/\rg.length=8)/\qB z1 z1:=by
 conv=>zeta
 delta qB I6;obtain⟨hb,uK,hid,hrg⟩:bnd ((vs,ms,cs,fs,ts,()),())/\he.length<=1000000/\id<=9223372036854775807/\rg.length=8:=aS;exact⟨hb,λh=>⟨(mM.1 (ZX h)).1,uK,hid,hrg⟩,rfl,rfl⟩
theorem Zt:bJ bM.gd 12 aep:=
 jY (cx:=bM) (n:=17) (cl:=[(15,Em),(23,Gj)]) (rc:=[]) aF ⟨zH,Oz,trivial⟩ Tryz.func12 λd hd=>by
  obtain⟨⟨vs,ms,cs,fs,ts,⟨⟩⟩,bound,⟨id,fn,pc,rg,st,ch,ph,su,fa,he,⟨⟩⟩,⟨⟩⟩:=d;exact cO (λ_=>none) (aer vs ms cs fs ts bound id fn pc rg st ch ph su fa he hd) (by kernel_rfl)
def qJ:TD->Int->TD
 | (id,fn,pc,rg,st,ch,ph,su,fa,he,_),m=>if ph=0 then(id,fn,pc,rg,st,ch,1,su,fa,BU he m,()) else if ph=1 then(id,fn,pc,rg,st,ch,2,su,fa,he,()) else(id,fn,pc+1,rg,st,ch,0,su,fa,zf he m,())
abbrev VE:CT:={ ps:=[dK,.int .i64],pre:=λd=>d.1.2.2.2.2.2.2.2.2.2.1.length<=999999/\0<=d.1.2.2.1/\d.1.2.2.1<=1000000,res:=λd=>([],.one (.dat dK (qJ d.1 d.2.1))) }
theorem aes(id fn pc:Int) (rg:List Int) (st ch ph su fa:Int) (he:List Int) (m:Int) (aS:VE.pre ((id,fn,pc,rg,st,ch,ph,su,fa,he,()),m,())):
 let z1:=aW.one (SV.dat dK (qJ (id,fn,pc,rg,st,ch,ph,su,fa,he,()) m));br (decide (ph=0)) (he.length<=1000000/\rE z1 (aW.one (SV.dat dK ((id,fn,pc,rg,st,ch,(1:Int),su,fa,qQ (dD he) [m] false,()))))) (br (decide (ph=1)) (rE z1 (aW.one (SV.dat dK ((id,fn,pc,rg,st,ch,(2:Int),su,fa,he,()))))) (he.length<=999999/\iR (pc+1)/\rE z1 (aW.one (SV.dat dK ((id,fn,pc+1,rg,st,ch,(0:Int),su,fa,dD (he++[m]),())))))):=by
 conv=>zeta
 delta rE I6 iR;obtain⟨uK,hp0,hp1⟩:he.length<=999999/\0<=pc/\pc<=1000000:=aS;refine ak.2 ⟨λh=>?_,λh=>ak.2 ⟨λh2=>?_,λh2=>?_⟩⟩
 .have h:ph=0:=by simpa using h
  have e:qJ (id,fn,pc,rg,st,ch,ph,su,fa,he,()) m=(id,fn,pc,rg,st,ch,1,su,fa,BU he m,()):=by simp only[qJ];rw[if_pos h]
  rw[e];exact⟨by omega,rfl,rfl⟩
 .have h:¬ph=0:=by simpa using h
  have h2:ph=1:=by simpa using h2
  have e:qJ (id,fn,pc,rg,st,ch,ph,su,fa,he,()) m=(id,fn,pc,rg,st,ch,2,su,fa,he,()):=by simp only[qJ];rw[if_neg h,if_pos h2]
  rw[e];exact⟨rfl,rfl⟩
 .have h:¬ph=0:=by simpa using h
  have h2:¬ph=1:=by simpa using h2
  have e:qJ (id,fn,pc,rg,st,ch,ph,su,fa,he,()) m=(id,fn,pc+1,rg,st,ch,0,su,fa,zf he m,()):=by simp only[qJ];rw[if_neg h,if_neg h2]
  rw[e];exact⟨uK,aA.2 (by omega),rfl,rfl⟩
theorem Zu:bJ bM.gd 26 VE:=
 jY (cx:=bM) (n:=29) (cl:=[(28,Oo),(27,N7)]) (rc:=[.data dK]) aF ⟨Oq,N8,trivial⟩ Tryz.func26 λd hd=>by
  obtain⟨⟨id,fn,pc,rg,st,ch,ph,su,fa,he,⟨⟩⟩,m,⟨⟩⟩:=d;exact cO (λ_=>none) (aes id fn pc rg st ch ph su fa he m hd) (by kernel_rfl)
abbrev VF:CT:={ ps:=[qN,.int .i64,dK,.int .i64],pre:=λd=>bnd (d.1,())/\d.2.2.1.2.2.2.2.2.2.2.2.2.1.length<=1000000/\d.2.2.1.1<=9223372036854775807/\d.2.2.1.2.2.2.1.length=8,res:=λd=>([],.iQ [.dat dK (qR (bG d.1.1 d.1.2.1 d.1.2.2.1 d.1.2.2.2.1 d.1.2.2.2.2.1).1 d.1.2.1 d.1.2.2.2.1 d.2.1 d.2.2.1 d.2.2.2.1).1,.c (.v (.int .i64 (qR (bG d.1.1 d.1.2.1 d.1.2.2.1 d.1.2.2.2.1 d.1.2.2.2.2.1).1 d.1.2.1 d.1.2.2.2.1 d.2.1 d.2.2.1 d.2.2.2.1).2))]) }
theorem aeu(vs:List VD) (ms cs:List ByteArray) (fs:List FD) (ts:List SD) (bound id fn pc:Int) (rg:List Int) (st ch ph su fa:Int) (he:List Int) (r:Int) (aS:VF.pre ((vs,ms,cs,fs,ts,()),bound,(id,fn,pc,rg,st,ch,ph,su,fa,he,()),r,())):
 let z30:=bG vs ms cs fs ts;let z21:=(id,fn,pc,rg,st,ch,ph,su,fa,he,());let z14:=qR z30.fst ms fs bound z21 r;let z5:=[SV.dat dK z14.fst,cI (z14.snd)];let z29:=kS (atR fs fn pc).fst;let z24:=decide ((atR fs fn pc).fst.fst=18);let z22:=he.length<=999999/\0<=pc/\pc<=1000000;let z8:=qJ (id,fn,pc,rg.set z29.fst.toNat r,st+1,ch,ph,su,fa,he,()) (atR fs fn pc).fst.snd.snd.snd.snd.snd.fst;let z25:=decide ((atR fs fn pc).fst.fst=17);let z13:=(id,fn,pc+1,rg.set z29.fst.toNat r,st+1,ch,ph,su,fa,he,());let z20:=rg.set z29.fst.toNat r;let z3:=iR (pc+1)/\(z30.fst=0/\aQ ms fs bound z13/\he.length<=1000000/\id<=9223372036854775807/\z20.length=8)/\rT z5 [SV.dat dK (dB fs bound 256 z13),cI 0];let z23:=[(atR fs fn pc).fst.snd.snd.snd.snd.fst];let z19:=he++z23;let z7:=(id,fn,pc+1,rg.set z29.fst.toNat r,st+1,ch,ph,su,fa,dD z19,());let z17:=dD z19;let z1:=he.length<=999999/\iR (pc+1)/\(z30.fst=0/\aQ ms fs bound z7/\z17.length<=1000000/\id<=9223372036854775807/\z20.length=8)/\rT z5 [SV.dat dK (dB fs bound 256 z7),cI 0];let z26:=decide ((atR fs fn pc).fst.fst=15);let z27:=decide ((atR fs fn pc).fst.fst=16);let z6:=(id,fn,pc+1,rg.set z29.fst.toNat r,st+1,ch,ph,su,fa,qQ (dD he) z23 false,());let z15:=qQ (dD he) z23 false;let z28:=decide ((atR fs fn pc).fst.fst=21);let z12:=(id,fn,pc+1,rg.set z29.fst.toNat r,st+1,ch+1,ph,su,fa,he,());let z11:=qJ (id,fn,pc,rg,st+1,ch,ph,su,fa,he,()) (atR fs fn pc).fst.snd.snd.snd.snd.snd.fst;let z18:=(id,fn,pc+1,rg,st+1,ch,ph,su,fa,he,());let z4:=iR (pc+1)/\(z30.fst=0/\aQ ms fs bound z18/\he.length<=1000000/\id<=9223372036854775807/\rg.length=8)/\rT z5 [SV.dat dK (dB fs bound 256 z18),cI 0];let z10:=(id,fn,pc+1,rg,st+1,ch,ph,su,fa,dD z19,());let z2:=he.length<=999999/\iR (pc+1)/\(z30.fst=0/\aQ ms fs bound z10/\z17.length<=1000000/\id<=9223372036854775807/\rg.length=8)/\rT z5 [SV.dat dK (dB fs bound 256 z10),cI 0];let z9:=(id,fn,pc+1,rg,st+1,ch,ph,su,fa,qQ (dD he) z23 false,());let z16:=(id,fn,pc+1,rg,st+1,ch+1,ph,su,fa,he,());(vs.length<=1000000/\ms.length<=1000000/\cs.length<=1000000/\fs.length<=1000000/\ts.length<=1000000/\(∀(x:ByteArray×(kC.sl.pair Sh.unit).den),x∈fs->List.length x.snd.fst<=1000000)/\(dF fs).length<=1000000)/\br (!decide (gU z30.fst bound=0)) (rT z5 [SV.dat dK (((0:Int),(0:Int),(0:Int),OC,(0:Int),(0:Int),(0:Int),(0:Int),(0:Int),[],())),cI (gU z30.fst bound)]) ((z30.fst=0/\he.length<=1000000/\id<=9223372036854775807/\rg.length=8)/\br (!y8 ms fs bound z21) (rT z5 [SV.dat dK (((0:Int),(0:Int),(0:Int),OC,(0:Int),(0:Int),(0:Int),(0:Int),(0:Int),[],())),cI 1]) (br (!decide (su=1)) (rT z5 [SV.dat dK (((0:Int),(0:Int),(0:Int),OC,(0:Int),(0:Int),(0:Int),(0:Int),(0:Int),[],())),cI 30]) (True/\br (!decide (aB r=r)) (rT z5 kq1) ((0<=fn/\fn < (fs.length:Int)/\0<=pc)/\iR (st+1)/\True/\br z29.snd ((0<=z29.fst/\z29.fst < 8)/\z29.fst.toNat < 8/\br z24 (z22/\(z30.fst=0/\aQ ms fs bound z8/\List.length z8.snd.snd.snd.snd.snd.snd.snd.snd.snd.fst<=1000000/\z8.fst<=9223372036854775807/\List.length z8.snd.snd.snd.fst=8)/\rT z5 [SV.dat dK (dB fs bound 256 z8),cI 0]) (br z25 (br (decide (r=0)) z3 z1) (br z26 z1 (br z27 (he.length<=1000000/\iR (pc+1)/\(z30.fst=0/\aQ ms fs bound z6/\z15.length<=1000000/\id<=9223372036854775807/\z20.length=8)/\rT z5 [SV.dat dK (dB fs bound 256 z6),cI 0]) (br z28 (iR (ch+1)/\iR (pc+1)/\(z30.fst=0/\aQ ms fs bound z12/\he.length<=1000000/\id<=9223372036854775807/\z20.length=8)/\rT z5 [SV.dat dK (dB fs bound 256 z12),cI 0]) z3))))) (br z24 (z22/\(z30.fst=0/\aQ ms fs bound z11/\List.length z11.snd.snd.snd.snd.snd.snd.snd.snd.snd.fst<=1000000/\z11.fst<=9223372036854775807/\List.length z11.snd.snd.snd.fst=8)/\rT z5 [SV.dat dK (dB fs bound 256 z11),cI 0]) (br z25 (br (decide (r=0)) z4 z2) (br z26 z2 (br z27 (he.length<=1000000/\iR (pc+1)/\(z30.fst=0/\aQ ms fs bound z9/\z15.length<=1000000/\id<=9223372036854775807/\rg.length=8)/\rT z5 [SV.dat dK (dB fs bound 256 z9),cI 0]) (br z28 (iR (ch+1)/\iR (pc+1)/\(z30.fst=0/\aQ ms fs bound z16/\he.length<=1000000/\id<=9223372036854775807/\rg.length=8)/\rT z5 [SV.dat dK (dB fs bound 256 z16),cI 0]) z4))))))))):=by
 conv=>zeta
 delta OC kq1 cI rT I6 iR;obtain⟨hb,uK,hid,hrg⟩:bnd ((vs,ms,cs,fs,ts,()),())/\he.length<=1000000/\id<=9223372036854775807/\rg.length=8:=aS;refine⟨hb,ak.2 ⟨λh=>?_,λh=>?_⟩⟩
 .have h:gU (bG vs ms cs fs ts).1 bound≠0:=by simpa using h
  have e:qR (bG vs ms cs fs ts).1 ms fs bound (id,fn,pc,rg,st,ch,ph,su,fa,he,()) r=(zT,gU (bG vs ms cs fs ts).1 bound):=by unfold qR;rw[if_pos h]
  rw[e];exact⟨rfl,rfl⟩
 have h:¬gU (bG vs ms cs fs ts).1 bound≠0:=by simpa using h
 have hs:=mM.1 (OM.1 h);refine⟨⟨hs.1,uK,hid,hrg⟩,ak.2 ⟨λh2=>?_,λh2=>?_⟩⟩
 .have h2:¬Jg ms fs bound (id,fn,pc,rg,st,ch,ph,su,fa,he,()):=λq=>by rw[sK.2 q]at h2;cases h2
  have e:qR (bG vs ms cs fs ts).1 ms fs bound (id,fn,pc,rg,st,ch,ph,su,fa,he,()) r=(zT,1):=by unfold qR;rw[if_neg h,if_pos h2]
  rw[e];exact⟨rfl,rfl⟩
 have hV:Jg ms fs bound (id,fn,pc,rg,st,ch,ph,su,fa,he,()):=sK.1 (by simpa using h2)
 have h2:¬¬Jg ms fs bound (id,fn,pc,rg,st,ch,ph,su,fa,he,()):=λq=>q hV
 refine ak.2 ⟨λh3=>?_,λh3=>⟨trivial,ak.2 ⟨λh4=>?_,λh4=>?_⟩⟩⟩
 .have h3:su≠1:=by simpa using h3
  have e:qR (bG vs ms cs fs ts).1 ms fs bound (id,fn,pc,rg,st,ch,ph,su,fa,he,()) r=(zT,30):=by unfold qR;rw[if_neg h,if_neg h2,if_pos h3]
  rw[e];exact⟨rfl,rfl⟩
 all_goals
  have h1:su=1:=by simpa using h3
  have h3:¬su≠1:=λq=>q h1
 .have h4:dJ r=false:=by rw[val_wrap];simpa using h4
  have e:qR (bG vs ms cs fs ts).1 ms fs bound (id,fn,pc,rg,st,ch,ph,su,fa,he,()) r=(zT,2):=by unfold qR;rw[if_neg h,if_neg h2,if_neg h3,if_pos h4]
  rw[e];exact⟨rfl,rfl⟩
 have hvr:dJ r=true:=by rw[val_wrap];simpa using h4
 have h4:¬dJ r=false:=by rw[hvr];simp
 obtain⟨f0,s0,i,ha,vi,oi⟩:=Vq hV h1;have ha:qm fs fn pc=some i:=ha;have s0:st < bound:=s0;have hF:aQ ms fs bound (id,fn,pc,rg,st,ch,ph,su,fa,he,()):=hV.1;have hfn:=hF.2.1;have hpc:=hF.2.2.1;have hst:=hF.2.2.2.2.1;have hch:=hF.2.2.2.2.2.1;have h64:=qw hs.1 hfn;have hci:=(qo (BR hs.1 hfn ha)).1;have hm4:=aaG (xu hs.1).1;have h4e:he.length<=4:=qx hF hm4;have leaf:∀t':TD,t'=mX (id,fn,pc,rg,st,ch,ph,su,fa,he,()) i r->(((bG vs ms cs fs ts).1=0/\aQ ms fs bound t'/\t'.2.2.2.2.2.2.2.2.2.1.length<=1000000/\t'.1<=9223372036854775807/\t'.2.2.2.1.length=8)/\([]:List Go.lM.aC)=[] /\
  aW.iQ [SV.dat dK (qR (bG vs ms cs fs ts).1 ms fs bound (id,fn,pc,rg,st,ch,ph,su,fa,he,()) r).1,SV.c (SC.v (Value.int .i64 (qR (bG vs ms cs fs ts).1 ms fs bound (id,fn,pc,rg,st,ch,ph,su,fa,he,()) r).2))]=aW.iQ [SV.dat dK (dB fs bound 256 t'),SV.c (SC.v (Value.int .i64 0))]):=by
  intro t' et;subst et;have hf:=La hs.1 hV h1 ha hvr;have e:qR (bG vs ms cs fs ts).1 ms fs bound (id,fn,pc,rg,st,ch,ph,su,fa,he,()) r=(dB fs bound 256 (mX (id,fn,pc,rg,st,ch,ph,su,fa,he,()) i r),0):=by
   unfold qR;rw[if_neg h,if_neg h2,if_neg h3,if_neg h4];show(dB fs bound 256 (mX (id,fn,pc,rg,st,ch,ph,su,fa,he,()) (atR fs fn pc).1 r),(0:Int))=_;rw[show atR fs fn pc=(i,true) by unfold atR;rw[ha]]
  rw[e];exact⟨⟨hs.1,hf,o9 (qx hf hm4) (by omega),En hf,(Zq _ _ _).trans hrg⟩,rfl,rfl⟩
 rw[show atR fs fn pc=(i,true) by unfold atR;rw[ha]]
 dsimp only;have e9:he.length<=999999:=by omega
 have ep:Je .i64 (pc+1):=aA.2 (by omega)
 have ec:Je .i64 (ch+1):=aA.2 (by omega)
 refine⟨⟨hfn.1,hfn.2,hpc.1⟩,aA.2 (by omega),trivial,ak.2 ⟨λhd=>?_,λhd=>?_⟩⟩
 .have hr:=VA hci hd;refine⟨hr,by omega,?_⟩
  refine aP.2 ⟨λq=>⟨⟨e9,hpc.1,show pc<=1000000 by omega⟩,leaf _ (by simp only[qJ,mX,if_pos q,if_pos hd])⟩,λn18=>aP.2 ⟨λn17=>aP.2 ⟨λq=>⟨ep,leaf _ (by simp[mX,n17,hd,q])⟩,λq=>⟨e9,ep,leaf _ (by simp[mX,n17,hd,q,zf])⟩⟩,
   λn17=>aP.2 ⟨λq=>⟨e9,ep,leaf _ (by simp[mX,q,hd,zf])⟩,λn15=>aP.2 ⟨λq=>⟨uK,ep,leaf _ (by simp[mX,q,hd,BU])⟩,λn16=>aP.2 ⟨λq=>⟨ec,ep,leaf _ (by simp[mX,q,hd])⟩,λn21=>⟨ep,leaf _ (by simp[mX,n18,n17,n15,n16,n21,hd])⟩⟩⟩⟩⟩⟩
 .refine aP.2 ⟨λq=>⟨⟨e9,hpc.1,show pc<=1000000 by omega⟩,leaf _ (by simp only[qJ,mX,if_pos q,hd];simp)⟩,λn18=>aP.2 ⟨λn17=>aP.2 ⟨λq=>⟨ep,leaf _ (by simp[mX,n17,hd,q])⟩,λq=>⟨e9,ep,leaf _ (by simp[mX,n17,hd,q,zf])⟩⟩,
   λn17=>aP.2 ⟨λq=>⟨e9,ep,leaf _ (by simp[mX,q,hd,zf])⟩,λn15=>aP.2 ⟨λq=>⟨uK,ep,leaf _ (by simp[mX,q,hd,BU])⟩,λn16=>aP.2 ⟨λq=>⟨ec,ep,leaf _ (by simp[mX,q,hd])⟩,λn21=>⟨ep,leaf _ (by simp[mX,n18,n17,n15,n16,n21,hd])⟩⟩⟩⟩⟩⟩
theorem Zv:bJ bM.gd 13 VF:=
 jY (cx:=bM) (n:=103) (cl:=[(15,Em),(23,Gj),(22,BZ),(24,Ld),(25,aaF),(17,OA),(26,VE),(27,N7),(28,Oo)]) (rc:=[.data dK,.keep]) aF ⟨zH,Oz,zG,xE,Zl,OB,Zu,N8,Oq,trivial⟩ Tryz.func13 λd hd=>by
  obtain⟨⟨vs,ms,cs,fs,ts,⟨⟩⟩,bound,⟨id,fn,pc,rg,st,ch,ph,su,fa,he,⟨⟩⟩,r,⟨⟩⟩:=d;exact cO (λ_=>none) (aeu vs ms cs fs ts bound id fn pc rg st ch ph su fa he r hd) (by kernel_rfl)
open Classical in
def xH(a b:TD):Bool:=decide (a=b)
open Classical in
theorem yE{a b:TD}:xH a b=true↔a=b:=by
 unfold xH;rw[QZ]
abbrev Lh:CT:={ ps:=[dK,dK],pre:=λd=>d.1.2.2.2.2.2.2.2.2.2.1.length<=1000000,res:=λd=>([],vB (xH d.1 d.2.1)) }
abbrev aiC(id fn pc:Int) (rg:List Int) (st ch ph su fa:Int) (he:List Int) (id2 Wi pc2:Int) (Wj:List Int) (st2 QT QU QV fa2:Int) (he2:List Int):Nat->Option (St->mO):=λk=>match k with
 | 4=>some λ_=>.inv { α:=Nat,slots:=λk=>[(5,.c (.v (.int .i64 k)))],res:=λ_=>[],inv:=λk=>k<=he.length/\∀j < k,he[j]?=he2[j]?,meas:=λk=>he.length - k }
 | _=>none
theorem agU(id fn pc:Int) (rg:List Int) (st ch ph su fa:Int) (he:List Int) (id2 Wi pc2:Int) (Wj:List Int) (st2 QT QU QV fa2:Int) (he2:List Int) (aS:Lh.pre ((id,fn,pc,rg,st,ch,ph,su,fa,he,()),(id2,Wi,pc2,Wj,st2,QT,QU,QV,fa2,he2,()),())):
 let z6:=(id,fn,pc,rg,st,ch,ph,su,fa,he,());let z5:=(id2,Wi,pc2,Wj,st2,QT,QU,QV,fa2,he2,());let z3:=xH z6 z5;let z2:=qB z3 false;let z4:=λ(x:Nat)=>(x<=he.length/\∀(j:Nat),j < x->he[j]?=he2[j]?);let z1:=[g0 (aC.obj 34 dK z6),g0 (aC.obj 34 dK z5)];br (!decide ((he.length:Int)=(he2.length:Int))) z2 ((∃x,(z4 x)/\(cI 0=cI (x:Int)/\True)/\sm z1)/\∀(x:Nat),(z4 x)->br (decide ((x:Int) < (he.length:Int))) ((0<=(x:Int)/\(x:Int) < (he.length:Int))/\∀(d:Int),he[(x:Int).toNat]?=some d->(0<=(x:Int)/\(x:Int) < (he2.length:Int))/\∀(iC:Int),he2[(x:Int).toNat]?=some iC->br (!decide (d=iC)) z2 (iR ((x:Int)+(1:Int))/\∃x',(z4 x')/\(cI ((x:Int)+(1:Int))=cI (x':Int)/\True)/\sm z1/\he.length - x' < he.length - x)) (br (!decide (id=id2) || !decide (fn=Wi) || !decide (pc=pc2) || !decide (rg=Wj) || !decide (st=st2)) z2 (qB z3 (decide (ch=QT) && decide (ph=QU) && decide (su=QV) && decide (fa=fa2))))):=by
 conv=>zeta
 delta cI g0 qB sm I6 iR;have hp:he.length<=1000000:=aS;have sF:¬(id,fn,pc,rg,st,ch,ph,su,fa,he,())=(id2,Wi,pc2,Wj,st2,QT,QU,QV,fa2,he2,())->([]:List Go.lM.aC)=[]/\aW.one (SV.c (SC.v (Value.bool (xH (id,fn,pc,rg,st,ch,ph,su,fa,he,()) (id2,Wi,pc2,Wj,st2,QT,QU,QV,fa2,he2,())))))=aW.one (SV.c (SC.v (Value.bool false))):=λq=>⟨rfl,by rw[show xH (id,fn,pc,rg,st,ch,ph,su,fa,he,()) (id2,Wi,pc2,Wj,st2,QT,QU,QV,fa2,he2,())=false from Bool.eq_false_iff.2 λh=>q (yE.1 h)]⟩
 refine ak.2 ⟨λh=>sF λq=>?_,λh=>?_⟩
 .have:=qy (λt:TD=>t.2.2.2.2.2.2.2.2.2.1.length) q
  simp at h;simp at this;omega
 have h:he.length=he2.length:=by simp at h;omega
 refine⟨⟨0,⟨by omega,λj hj=>by omega⟩,⟨rfl,trivial⟩,rfl⟩,λk hk=>ak.2 ⟨λh2=>?_,λh2=>?_⟩⟩
 .simp only[iE]at h2;refine⟨by omega,λd hd=>⟨by omega,λd1 hd1=>ak.2 ⟨λh3=>sF λq=>?_,λh3=>⟨aA.2 (by omega),k+1,⟨by omega,λj hj=>?_⟩,⟨rfl,trivial⟩,rfl,by omega⟩⟩⟩⟩
  .have:he=he2:=qy (λt:TD=>t.2.2.2.2.2.2.2.2.2.1) q
   rw[this,hd1]at hd;cases hd;simp at h3
  .have h3:d=d1:=by simpa using h3
   by_cases ku:j=k
   .subst ku;have a:he[j]?=some d:=hd;have b:he2[j]?=some d1:=hd1;rw[a,b,h3]
   .exact hk.2 j (by omega)
 simp only[iZ]at h2;have hh:he=he2:=LK λj=>by
  by_cases hj:j < k
  .exact hk.2 j hj
  .rw[LJ (by omega),LJ (by omega)]
 subst hh;refine ak.2 ⟨λh3=>sF λq=>?_,λh3=>⟨rfl,?_⟩⟩
 .simp only[Q8]at q;obtain⟨q1,q2,q3,q4,q5,_⟩:=q;subst q1;subst q2;subst q3;subst q4;subst q5;simp at h3
 .simp only[pz,QN,iE]at h3;obtain⟨⟨⟨⟨e1,e2⟩,e3⟩,e4⟩,e5⟩:=h3;subst e1;subst e2;subst e3;subst e4;subst e5;have:xH (id,fn,pc,rg,st,ch,ph,su,fa,he,()) (id,fn,pc,rg,st,QT,QU,QV,fa2,he,())=(decide (ch=QT) && decide (ph=QU) && decide (su=QV) && decide (fa=fa2)):=by
   rw[Jb,yE];simp[and_assoc]
  rw[this]
theorem aev:bJ bM.gd 8 Lh:=
 jY (cx:=bM) (n:=90) (cl:=[]) (rc:=[]) aF trivial Tryz.func8 λd hd=>by
  obtain⟨⟨id,fn,pc,rg,st,ch,ph,su,fa,he,⟨⟩⟩,⟨id2,Wi,pc2,Wj,st2,QT,QU,QV,fa2,he2,⟨⟩⟩,⟨⟩⟩:=d;exact cO (aiC id fn pc rg st ch ph su fa he id2 Wi pc2 Wj st2 QT QU QV fa2 he2) (agU id fn pc rg st ch ph su fa he id2 Wi pc2 Wj st2 QT QU QV fa2 he2 hd) (by kernel_rfl)
def exP(l:List ID):PD:=([(⟨#[120]⟩,0,())],[],[],[(⟨#[102]⟩,l,())],[(0,0,())],())
abbrev agV:CT:={ ps:=[.sl kC],pre:=λd=>True,res:=λd=>([],.one (iG qN (exP d.1))) }
def exF:List FD:=[(⟨#[102]⟩,[(1,1,0,0,0,5,0,0,()),(9,0,1,0,0,0,0,0,())],())]
def exT:TD:=dB exF 1 256 (0,0,0,[3,0,0,0,0,0,0,0],0,0,0,1,0,[],())
abbrev aaI:CT:={ ps:=[],pre:=λ_=>True,res:=λ_=>([],vB true) }
abbrev aaJ:CT:={ ps:=[.pair qN (.pair (.int .i64) (.pair (.int .i64) (.pair dK .unit)))],pre:=λd=>True,res:=λd=>([],vB (Jf d.1.1.1 d.1.1.2.1 d.1.1.2.2.1 d.1.1.2.2.2.1 d.1.1.2.2.2.2.1 && decide (d.1.2.2.2.1.2.2.2.2.2.2.2.2.2.1.length<=20))) }
theorem top_len{rest:ID->TD} (hr:∀i,(rest i).2.2.2.1.length=t.2.2.2.1.length):(topS fs bound t rest).2.2.2.1.length=t.2.2.2.1.length:=by
 obtain⟨id,fn,pc,rg,st,ch,ph,su,fa,hd,u⟩:=t;unfold topS;simp only;split
 .rfl
 split
 .repeat' split
  all_goals rfl
 .exact hr _
theorem OD(fs:List FD) (bound:Int):∀(k:Nat) (t:TD),(dB fs bound k t).2.2.2.1.length=t.2.2.2.1.length:=by
 intro k
 induction k with
 | zero=>
   intro t;rw[dB];exact top_len λi=>rfl
 | succ k ih=>
   intro t;rw[dB];refine top_len λi=>?_
   split
   .exact(ih _).trans (xG t i)
   .exact xG t i
theorem aew{ts:List SD} (hl:t.2.2.2.1.length=8) (h:(iL (bG vs ms cs fs ts).1 ms fs bound t).2=0):gU (bG vs ms cs fs ts).1 bound=0/\aQ ms fs bound t/\t.2.2.2.2.2.2.2.2.1=0/\t.2.2.2.2.2.2.2.1=1/\(iL (bG vs ms cs fs ts).1 ms fs bound t).1=dB fs bound 256 t/\Jg ms fs bound (iL (bG vs ms cs fs ts).1 ms fs bound t).1/\(iL (bG vs ms cs fs ts).1 ms fs bound t).1.2.2.2.1.length=8:=by
 unfold iL at h ⊢
 split at h
 .rename_i q;exact absurd h q
 split at h
 .cases h
 split at h
 .cases h
 rename_i q1 q2 q3;rw[if_neg q1,if_neg q2,if_neg q3];have hs:=mM.1 (OM.1 q1);have q4:aQ ms fs bound t:=OM.1 λq=>q2 (.inl q)
 have q5:t.2.2.2.2.2.2.2.2.1=0:=OM.1 λq=>q2 (.inr q)
 have q6:t.2.2.2.2.2.2.2.1=1:=OM.1 q3;exact⟨OM.1 q1,q4,q5,q6,rfl,Oi hs.1 hs.2.1 _ _ q4 q6 q5,(OD _ _ _ _).trans hl⟩
theorem VG{ts:List SD} (hs:gU (bG vs ms cs fs ts).1 bound=0) (h:Jg ms fs bound t):t.2.2.2.2.2.2.2.2.2.1.length<=1000000/\t.1<=9223372036854775807:=by
 have hf:aQ ms fs bound t:=by
  obtain⟨id,fn,pc,rg,st,ch,ph,su,fa,he,u⟩:=t;exact h.1
 exact⟨o9 (qx hf (aaG (xu (mM.1 hs).1).1)) (by omega),En hf⟩
abbrev Gm:CT:={ ps:=[.int .i64],pre:=λd=>True,res:=λd=>([],.one (.c (.v (.int .i64 (aB d.1))))) }
theorem aex(n:Int):
 iU≠(0:Int)/\br (decide (n.tmod iU < (0:Int))) (iR (n.tmod iU+iU)/\br (decide (2147483647 < n.tmod iU+iU)) (iR (n.tmod iU+iU - iU)/\qI (aB n) (n.tmod iU+iU - iU)) (qI (aB n) (n.tmod iU+iU))) (br (decide (2147483647 < n.tmod iU)) (iR (n.tmod iU - iU)/\qI (aB n) (n.tmod iU - iU)) (qI (aB n) (n.tmod iU))):=by
 delta qI iR iU;have hw:=Vj n;unfold Vh at hw;have hr:-4294967296 < n.tmod 4294967296/\n.tmod 4294967296 < 4294967296:=by
  rw[BQ n (by omega)];split<;>omega
 refine⟨by decide,aP.2 ⟨λh=>⟨aA.2 (by omega),aP.2 ⟨λh2=>⟨aA.2 (by omega),rfl,?_⟩,λh2=>⟨rfl,?_⟩⟩⟩,λh=>aP.2 ⟨λh2=>⟨aA.2 (by omega),rfl,?_⟩,λh2=>⟨rfl,?_⟩⟩⟩⟩
 .rw[if_pos h,if_pos h2]at hw;rw[<-hw]
 .rw[if_pos h,if_neg h2]at hw;rw[<-hw]
 .rw[if_neg h,if_pos h2]at hw;rw[<-hw]
 .rw[if_neg h,if_neg h2]at hw;rw[<-hw]
theorem OE:bJ bM.gd 82 Gm:=
 jA (cx:=bM) (n:=15) (cl:=[]) aF trivial Tryz.func82 λd hd=>by
  obtain⟨n,⟨⟩⟩:=d;exact cO (λ_=>none) (aex n) (by kernel_rfl)
abbrev VH:CT:={ ps:=[.bool],pre:=λd=>True,res:=λd=>([],.one (.c (.v (.int .i64 (if d.1=true then 1 else 0))))) }
theorem aey(b:Bool):
 let z1:=if b=true then(1:Int) else(0:Int);br b (qI z1 (1:Int)) (qI z1 (0:Int)):=by
 conv=>zeta
 delta qI;rw[ak];cases b<;>simp
theorem Zw:bJ bM.gd 84 VH:=
 jA (cx:=bM) (n:=4) (cl:=[]) aF trivial Tryz.func84 λd hd=>by
  obtain⟨b,⟨⟩⟩:=d;exact cO (λ_=>none) (aey b) (by kernel_rfl)
abbrev VI:CT:={ ps:=[.int .i64,.int .i64,.arr 4 (.int .i64)],pre:=λd=>(-2147483648<=d.1/\d.1<=2147483647)/\(-2147483648<=d.2.1/\d.2.1<=2147483647)/\(∀v∈d.2.2.1,v=0\/v=1),res:=λd=>([],.one (.c (.v (.int .i64 (aB (gX (d.1 % 4294967296).toNat (d.2.1 % 4294967296).toNat d.2.2.1 32)))))) }
abbrev agX(x y:Int) (rs:List Int):Nat->Option (St->mO):=λk=>match k with
 | 8=>some λ_=>.inv { α:=Nat,slots:=λi=>[(9,.c (.v (.int .i64 i))),(7,.c (.v (.int .i64 (gX (x % 4294967296).toNat (y % 4294967296).toNat rs i)))),(8,.c (.v (.int .i64 ((2 ^ i:Nat):Int)))),(0,.c (.v (.int .i64 (((x % 4294967296).toNat / 2 ^ i:Nat):Int)))),(1,.c (.v (.int .i64 (((y % 4294967296).toNat / 2 ^ i:Nat):Int))))],res:=λ_=>[],inv:=λi=>i<=32,meas:=λi=>32 - i }
 | _=>none
theorem aez(x y:Int) (rs:List Int) (aS:VI.pre (x,y,rs,())):
 let z7:=x+4294967296;let z8:=y+4294967296;let z4:=λ(x_1:Nat)=>gX (x % iU).toNat (y % iU).toNat rs x_1;let z6:=[g0 (aC.obj 124 (Sh.arr 4 I6) rs)];let z5:=λ(x_1:Nat)=>decide ((x_1:Int) < (32:Int));let z3:=λ(x_1:Nat) (d:Int)=>gX (x % iU).toNat (y % iU).toNat rs x_1+(↑(2 ^ x_1):Int) * d;let z1:=λ(x_1:Nat)=>((2:Int)≠(0:Int)/\iR ((2:Int) * (↑((x % iU).toNat / 2 ^ x_1):Int).tmod (2:Int))/\(2:Int)≠(0:Int)/\iR ((2:Int) * (↑((x % iU).toNat / 2 ^ x_1):Int).tmod 2+(↑((y % iU).toNat / 2 ^ x_1):Int).tmod (2:Int))/\((0:Int)<=(2:Int) * (↑((x % iU).toNat / 2 ^ x_1):Int).tmod 2+(↑((y % iU).toNat / 2 ^ x_1):Int).tmod (2:Int)/\(2:Int) * (↑((x % iU).toNat / 2 ^ x_1):Int).tmod 2+(↑((y % iU).toNat / 2 ^ x_1):Int).tmod (2:Int) < (4:Int))/\((2:Int) * (↑((x % iU).toNat / 2 ^ x_1):Int).tmod 2+(↑((y % iU).toNat / 2 ^ x_1):Int).tmod (2:Int)).toNat < 4/\∀(d:Int),rs[((2:Int) * (↑((x % iU).toNat / 2 ^ x_1):Int).tmod 2+(↑((y % iU).toNat / 2 ^ x_1):Int).tmod (2:Int)).toNat]?=some d->iR ((↑(2 ^ x_1):Int) * d)/\iR (z3 x_1 d)/\(2:Int)≠(0:Int)/\iR ((↑((x % iU).toNat / 2 ^ x_1):Int).tdiv (2:Int))/\(2:Int)≠(0:Int)/\iR ((↑((y % iU).toNat / 2 ^ x_1):Int).tdiv (2:Int))/\iR ((2:Int) * (↑(2 ^ x_1):Int))/\iR ((x_1:Int)+(1:Int))/\∃x':Nat,x'<=32/\(cI ((x_1:Int)+(1:Int))=cI (x':Int)/\cI (z3 x_1 d)=cI (gX (x % iU).toNat (y % iU).toNat rs x')/\cI ((2:Int) * (↑(2 ^ x_1):Int))=cI (↑(2 ^ x'):Int)/\cI ((↑((x % iU).toNat / 2 ^ x_1):Int).tdiv (2:Int))=cI (↑((x % iU).toNat / 2 ^ x'):Int)/\cI ((↑((y % iU).toNat / 2 ^ x_1):Int).tdiv (2:Int))=cI (↑((y % iU).toNat / 2 ^ x'):Int)/\True)/\sm z6/\32 - x' < 32 - x_1);let z2:=λ(x_1:Nat)=>True/\qI (aB (gX (Int.toNat (x % iU)) (Int.toNat (y % iU)) rs 32)) (aB (z4 x_1));br (decide (x < 0)) (iR z7/\br (decide (y < 0)) (iR z8/\(∃x_1:Nat,x_1<=32/\(cI 0=cI (x_1:Int)/\cI 0=cI (z4 x_1)/\cI 1=cI (↑(2 ^ x_1):Int)/\cI z7=cI (↑((x % iU).toNat / 2 ^ x_1):Int)/\cI z8=cI (↑((y % iU).toNat / 2 ^ x_1):Int)/\True)/\sm z6)/\∀(x_1:Nat),x_1<=32->br (z5 x_1) (z1 x_1) (z2 x_1)) ((∃x_1:Nat,x_1<=32/\(cI 0=cI (x_1:Int)/\cI 0=cI (z4 x_1)/\cI 1=cI (↑(2 ^ x_1):Int)/\cI z7=cI (↑((x % iU).toNat / 2 ^ x_1):Int)/\cI y=cI (↑((y % iU).toNat / 2 ^ x_1):Int)/\True)/\sm z6)/\∀(x_1:Nat),x_1<=32->br (z5 x_1) (z1 x_1) (z2 x_1))) (br (decide (y < 0)) (iR z8/\(∃x_1:Nat,x_1<=32/\(cI 0=cI (x_1:Int)/\cI 0=cI (z4 x_1)/\cI 1=cI (↑(2 ^ x_1):Int)/\cI x=cI (↑((x % iU).toNat / 2 ^ x_1):Int)/\cI z8=cI (↑((y % iU).toNat / 2 ^ x_1):Int)/\True)/\sm z6)/\∀(x_1:Nat),x_1<=32->br (z5 x_1) (z1 x_1) (z2 x_1)) ((∃x_1:Nat,x_1<=32/\(cI 0=cI (x_1:Int)/\cI 0=cI (z4 x_1)/\cI 1=cI (↑(2 ^ x_1):Int)/\cI x=cI (↑((x % iU).toNat / 2 ^ x_1):Int)/\cI y=cI (↑((y % iU).toNat / 2 ^ x_1):Int)/\True)/\sm z6)/\∀(x_1:Nat),x_1<=32->br (z5 x_1) (z1 x_1) (z2 x_1))):=by
 conv=>zeta
 delta cI g0 qI sm I6 iR iU;obtain⟨hx,hy,hv⟩:(-2147483648<=x/\x<=2147483647)/\(-2147483648<=y/\y<=2147483647)/\(∀v∈rs,v=0\/v=1):=aS;have vi:∀{a b:Int},a=b->SV.c (SC.v (Value.int .i64 a))=SV.c (SC.v (Value.int .i64 b)):=λh=>by rw[h]
 have x0:∀(z:Int),((z % 4294967296).toNat / 2 ^ 0:Nat)=(z % 4294967296).toNat:=λz=>by simp
 have step:∀i:Nat,i<=32->br (decide ((i:Int) < 32)) ((2:Int)≠0/\Je .i64 (2 * ((((x % 4294967296).toNat / 2 ^ i:Nat):Int)).tmod 2)/\(2:Int)≠0/\Je .i64 (2 * ((((x % 4294967296).toNat / 2 ^ i:Nat):Int)).tmod 2+((((y % 4294967296).toNat / 2 ^ i:Nat):Int)).tmod 2)/\(0<=2 * ((((x % 4294967296).toNat / 2 ^ i:Nat):Int)).tmod 2+((((y % 4294967296).toNat / 2 ^ i:Nat):Int)).tmod 2/\2 * ((((x % 4294967296).toNat / 2 ^ i:Nat):Int)).tmod 2+((((y % 4294967296).toNat / 2 ^ i:Nat):Int)).tmod 2 < 4)/\(2 * ((((x % 4294967296).toNat / 2 ^ i:Nat):Int)).tmod 2+((((y % 4294967296).toNat / 2 ^ i:Nat):Int)).tmod 2).toNat < 4 /\
  ∀(d:Int),rs[(2 * ((((x % 4294967296).toNat / 2 ^ i:Nat):Int)).tmod 2+((((y % 4294967296).toNat / 2 ^ i:Nat):Int)).tmod 2).toNat]?=some d->Je .i64 (((2 ^ i:Nat):Int) * d)/\Je .i64 (gX (x % 4294967296).toNat (y % 4294967296).toNat rs i+((2 ^ i:Nat):Int) * d)/\(2:Int)≠0/\Je .i64 ((((x % 4294967296).toNat / 2 ^ i:Nat):Int).tdiv 2)/\(2:Int)≠0/\Je .i64 ((((y % 4294967296).toNat / 2 ^ i:Nat):Int).tdiv 2)/\Je .i64 (2 * ((2 ^ i:Nat):Int))/\Je .i64 ((i:Int)+1) /\
    ∃x':Nat,x'<=32/\(SV.c (SC.v (Value.int .i64 ((i:Int)+1)))=SV.c (SC.v (Value.int .i64 (x':Int)))/\SV.c (SC.v (Value.int .i64 (gX (x % 4294967296).toNat (y % 4294967296).toNat rs i+((2 ^ i:Nat):Int) * d)))=SV.c (SC.v (Value.int .i64 (gX (x % 4294967296).toNat (y % 4294967296).toNat rs x')))/\SV.c (SC.v (Value.int .i64 (2 * ((2 ^ i:Nat):Int))))=SV.c (SC.v (Value.int .i64 ((2 ^ x':Nat):Int)))/\SV.c (SC.v (Value.int .i64 ((((x % 4294967296).toNat / 2 ^ i:Nat):Int).tdiv 2)))=SV.c (SC.v (Value.int .i64 (((x % 4294967296).toNat / 2 ^ x':Nat):Int)))/\SV.c (SC.v (Value.int .i64 ((((y % 4294967296).toNat / 2 ^ i:Nat):Int).tdiv 2)))=SV.c (SC.v (Value.int .i64 (((y % 4294967296).toNat / 2 ^ x':Nat):Int)))/\True)/\[(([]:Go.lM.Gd),aC.obj 124 (.arr 4 (.int .i64)) rs)]=[(([]:Go.lM.Gd),aC.obj 124 (.arr 4 (.int .i64)) rs)]/\32 - x' < 32 - i) (True/\([]:List Go.lM.aC)=[]/\aW.one (SV.c (SC.v (Value.int .i64 (aB (gX (x % 4294967296).toNat (y % 4294967296).toNat rs 32)))))=aW.one (SV.c (SC.v (Value.int .i64 (aB (gX (x % 4294967296).toNat (y % 4294967296).toNat rs i)))))):=by
  intro i hi;have hr:=Ei (X:=(x % 4294967296).toNat) (Y:=(y % 4294967296).toNat) hv i;have hX:(x % 4294967296).toNat < 4294967296:=by omega
  have hY:(y % 4294967296).toNat < 4294967296:=by omega
  have hb:gX (x % 4294967296).toNat (y % 4294967296).toNat rs (i+1)=gX (x % 4294967296).toNat (y % 4294967296).toNat rs i+2 ^ i * rs.getD (2 * ((x % 4294967296).toNat / 2 ^ i % 2)+(y % 4294967296).toNat / 2 ^ i % 2) 0:=rfl;generalize (x % 4294967296).toNat=X at *;generalize (y % 4294967296).toNat=Y at *;have hc:(2:Int) ^ i=((2 ^ i:Nat):Int):=by push_cast;rfl
  rw[hc]at hr hb;have hu:X / 2 ^ (i+1)=X / 2 ^ i / 2:=by rw[Nat.pow_succ,Nat.div_div_eq_div_mul]
  have hw:Y / 2 ^ (i+1)=Y / 2 ^ i / 2:=by rw[Nat.pow_succ,Nat.div_div_eq_div_mul]
  have lx:X / 2 ^ i<=X:=Nat.div_le_self _ _;have ly:Y / 2 ^ i<=Y:=Nat.div_le_self _ _;have hp1:2 ^ (i+1)=2 * 2 ^ i:=by rw[Nat.pow_succ];omega
  refine aP.2 ⟨λh=>?_,λh=>⟨trivial,rfl,?_⟩⟩
  .have hp:2 ^ i<=2147483648:=by
    have:=Nat.pow_le_pow_right (n:=2) (by omega) (show i<=31 by omega)
    simpa using this
   generalize X / 2 ^ i=u at *;generalize Y / 2 ^ i=w at *;have t1:((u:Int)).tmod 2=((u % 2:Nat):Int):=by rw[Int.tmod_eq_emod_of_nonneg (by omega)];omega
   have t2:((w:Int)).tmod 2=((w % 2:Nat):Int):=by rw[Int.tmod_eq_emod_of_nonneg (by omega)];omega
   have t3:((u:Int)).tdiv 2=((u / 2:Nat):Int):=by rw[A74 (by omega)];omega
   have t4:((w:Int)).tdiv 2=((w / 2:Nat):Int):=by rw[A74 (by omega)];omega
   rw[t1,t2,t3,t4];have ei:(2 * ((u % 2:Nat):Int)+((w % 2:Nat):Int)).toNat=2 * (u % 2)+w % 2:=by omega
   rw[ei];refine⟨by decide,aA.2 (by omega),by decide,aA.2 (by omega),by omega,by omega,λd hd=>?_⟩
   have hd1:=hv d (kT hd);have hg:rs.getD (2 * (u % 2)+w % 2) 0=d:=by rw[Gu,hd];rfl
   rw[hg]at hb;have hm:((2 ^ i:Nat):Int) * d=0\/((2 ^ i:Nat):Int) * d=((2 ^ i:Nat):Int):=by
    rcases hd1 with e | e
    .left;rw[e];simp
    .right;rw[e];simp
   refine⟨aA.2 (by omega),aA.2 (by omega),by decide,aA.2 (by omega),by decide,aA.2 (by omega),aA.2 (by omega),aA.2 (by omega),i+1,by omega,⟨rfl,vi hb.symm,vi (by rw[hp1];omega),vi (by rw[hu]),vi (by rw[hw]),trivial⟩,rfl,by omega⟩
  .have:i=32:=by omega
   rw[this]
 refine aP.2 ⟨λh=>⟨aA.2 (by omega),aP.2 ⟨λh2=>⟨aA.2 (by omega),⟨0,by omega,⟨rfl,rfl,rfl,vi (by rw[x0];omega),vi (by rw[x0];omega),trivial⟩,rfl⟩,step⟩,λh2=>⟨⟨0,by omega,⟨rfl,rfl,rfl,vi (by rw[x0];omega),vi (by rw[x0];omega),trivial⟩,rfl⟩,step⟩⟩⟩,
  λh=>aP.2 ⟨λh2=>⟨aA.2 (by omega),⟨0,by omega,⟨rfl,rfl,rfl,vi (by rw[x0];omega),vi (by rw[x0];omega),trivial⟩,rfl⟩,step⟩,λh2=>⟨⟨0,by omega,⟨rfl,rfl,rfl,vi (by rw[x0];omega),vi (by rw[x0];omega),trivial⟩,rfl⟩,step⟩⟩⟩
theorem Zx:bJ bM.gd 83 VI:=
 jY (cx:=bM) (n:=42) (cl:=[(82,Gm)]) (rc:=[]) aF ⟨OE,trivial⟩ Tryz.func83 λd hd=>by
  obtain⟨x,y,rs,⟨⟩⟩:=d;exact cO (agX x y rs) (aez x y rs hd) (by kernel_rfl)
abbrev VJ:CT:={ ps:=[.int .i64,.int .i64,.int .i64],pre:=λd=>True,res:=λd=>([],.iQ [.c (.v (.int .i64 (dP d.1 d.2.1 d.2.2.1).1)),.c (.v (.int .i64 (dP d.1 d.2.1 d.2.2.1).2))]) }
theorem aeA(f a b:Int):
 let z1:=[cI ((dP f a b).fst),cI ((dP f a b).snd)];let z2:=(-2147483648)<=aB a/\aB a<=2147483647;let z3:=(-2147483648)<=aB b/\aB b<=2147483647;let z4:=[(0:Int),(0:Int),(0:Int),(1:Int)];let z7:=Int.toNat (aB a % iU);let z8:=Int.toNat (aB b % iU);let z5:=[(0:Int),(1:Int),(1:Int),(1:Int)];let z6:=[(0:Int),(1:Int),(1:Int),(0:Int)];True/\True/\br (decide (f=1)) (iR (aB a+aB b)/\True/\rT z1 [cI (aB (aB a+aB b)),cI 0]) (br (decide (f=2)) (iR (aB a - aB b)/\True/\rT z1 [cI (aB (aB a - aB b)),cI 0]) (br (decide (f=3)) (iR (aB a * aB b)/\True/\rT z1 [cI (aB (aB a * aB b)),cI 0]) (br (decide (f=4)) ((z2/\z3/\∀(v:Int),v∈z4->v=0\/v=1)/\rT z1 [cI (aB (gX z7 z8 z4 32)),cI 0]) (br (decide (f=5)) ((z2/\z3/\∀(v:Int),v∈z5->v=0\/v=1)/\rT z1 [cI (aB (gX z7 z8 z5 32)),cI 0]) (br (decide (f=6)) ((z2/\z3/\∀(v:Int),v∈z6->v=0\/v=1)/\rT z1 [cI (aB (gX z7 z8 z6 32)),cI 0]) (br (decide (f=7)) (True/\rT z1 [cI (if decide (aB a=aB b)=true then(1:Int) else(0:Int)),cI 0]) (br (decide (f=8)) (True/\rT z1 [cI (if(!decide (aB a=aB b))=true then(1:Int) else(0:Int)),cI 0]) (br (decide (f=9)) (True/\rT z1 [cI (if decide (aB a < aB b)=true then(1:Int) else(0:Int)),cI 0]) (br (decide (f=10)) (True/\rT z1 [cI (if decide (aB a<=aB b)=true then(1:Int) else(0:Int)),cI 0]) (rT z1 [cI 0,cI 8])))))))))):=by
 conv=>zeta
 delta cI rT iR iU;have ha:=lT a;have hb:=lT b;have hm:=aaD ha hb;have b1:=Vk (x:=aB a) (y:=aB b);have b2:=Ze (x:=aB a) (y:=aB b);have b3:=Vl (x:=aB a) (y:=aB b);unfold dP
 refine⟨trivial,trivial,aP.2 ⟨λh=>⟨aA.2 (by omega),trivial,rfl,by rw[if_pos h]⟩,λn1=>aP.2 ⟨λh=>⟨aA.2 (by omega),trivial,rfl,by rw[if_neg n1,if_pos h]⟩,λn2=>aP.2 ⟨λh=>⟨aA.2 (by omega),trivial,rfl,by rw[if_neg n1,if_neg n2,if_pos h]⟩,λn3=>aP.2 ⟨λh=>⟨⟨ha,hb,λv hv=>by simp at hv;omega⟩,rfl,by rw[if_neg n1,if_neg n2,if_neg n3,if_pos h];exact qy (λz=>aW.iQ [SV.c (SC.v (Value.int .i64 z)),SV.c (SC.v (Value.int .i64 0))]) b1.symm⟩,λn4=>aP.2 ⟨λh=>⟨⟨ha,hb,λv hv=>by simp at hv;omega⟩,rfl,by rw[if_neg n1,if_neg n2,if_neg n3,if_neg n4,if_pos h];exact qy (λz=>aW.iQ [SV.c (SC.v (Value.int .i64 z)),SV.c (SC.v (Value.int .i64 0))]) b2.symm⟩,λn5=>aP.2 ⟨λh=>⟨⟨ha,hb,λv hv=>by simp at hv;omega⟩,rfl,by rw[if_neg n1,if_neg n2,if_neg n3,if_neg n4,if_neg n5,if_pos h];exact qy (λz=>aW.iQ [SV.c (SC.v (Value.int .i64 z)),SV.c (SC.v (Value.int .i64 0))]) b3.symm⟩,λn6=>aP.2 ⟨λh=>⟨trivial,rfl,by simp[h]⟩,λn7=>aP.2 ⟨λh=>⟨trivial,rfl,by simp[h]⟩,λn8=>aP.2 ⟨λh=>⟨trivial,rfl,by simp[h]⟩,λn9=>aP.2 ⟨λh=>⟨trivial,rfl,by simp[h]⟩,λn10=>⟨rfl,by simp[n1,n2,n3,n4,n5,n6,n7,n8,n9,n10]⟩⟩⟩⟩⟩⟩⟩⟩⟩⟩⟩⟩
theorem Zy:bJ bM.gd 63 VJ:=
 jY (cx:=bM) (n:=75) (cl:=[(82,Gm),(84,VH),(83,VI)]) (rc:=[]) aF ⟨OE,Zw,Zx,trivial⟩ Tryz.func63 λd hd=>by
  obtain⟨f,a,b,⟨⟩⟩:=d;exact cO (λ_=>none) (aeA f a b) (by kernel_rfl)
abbrev VK:CT:={ ps:=[.int .i64],pre:=λd=>True,res:=λd=>([],vB (jm d.1)) }
theorem aeB(op:Int):
 qB (jm op) (decide (8<=op) && decide (op<=22)):=by
 delta qB;refine⟨rfl,?_⟩;rw[show jm op=(decide (8<=op) && decide (op<=22)) by unfold jm;rw[Jb];simp]
theorem Zz:bJ bM.gd 43 VK:=
 jA (cx:=bM) (n:=9) (cl:=[]) aF trivial Tryz.func43 λd hd=>by
  obtain⟨op,⟨⟩⟩:=d;exact cO (λ_=>none) (aeB op) (by kernel_rfl)
abbrev I8:CT:={ ps:=[.int .i64],pre:=λd=>d.1<=9223372036854775807,res:=λd=>([],vB (decide (0<=bC d.1))) }
abbrev agY(id:Int):Nat->Option (St->mO):=λk=>match k with
 | 2=>some λ_=>.inv { α:=Nat×Int,slots:=λx=>[(3,.c (.v (.int .i64 x.1))),(0,.c (.v (.int .i64 x.2)))],res:=λ_=>[],inv:=λx=>x.1<=5/\x.2<=9223372036854775807/\bC id=if x.2 < 0 then -1 else fK (5 - x.1) x.1 x.2,meas:=λx=>5 - x.1 }
 | _=>none
theorem aeC(id:Int) (aS:I8.pre (id,())):
 let z1:=λ(x:Nat×Int)=>x.fst<=5/\x.snd<=9223372036854775807/\bC id=if x.snd < 0 then(-1:Int) else fK (5 - x.fst) (x.fst:Int) x.snd;let z2:=qB (decide (0<=bC id)) false;(∃(x:Nat×Int),(z1 x)/\(cI 0=cI (x.fst:Int)/\cI id=cI x.snd/\True)/\([]:List o7)=[])/\∀(x:Nat×Int),(z1 x)->br (decide ((x.fst:Int)<=(4:Int))) (br (decide (x.snd < 0)) z2 (br (decide (x.snd < 8)) (qB (decide (0<=bC id)) true) ((8:Int)≠(0:Int)/\br (decide (7<=x.snd.tmod (8:Int))) z2 ((8:Int)≠(0:Int)/\iR (x.snd.tdiv (8:Int))/\iR (x.snd.tdiv (8:Int) - (1:Int))/\iR ((x.fst:Int)+(1:Int))/\∃(x':Nat×Int),(z1 x')/\(cI ((x.fst:Int)+(1:Int))=cI (x'.fst:Int)/\cI (x.snd.tdiv (8:Int) - (1:Int))=cI x'.snd/\True)/\([]:List o7)=[]/\5 - x'.fst < 5 - x.fst)))) z2:=by
 conv=>zeta
 delta o7 cI qB iR;have hp:id<=9223372036854775807:=aS;refine⟨⟨(0,id),⟨by omega,hp,rfl⟩,⟨rfl,rfl,trivial⟩,rfl⟩,λx hx=>?_⟩
 obtain⟨k,v⟩:=x;obtain⟨x1,x2,x3⟩:=hx;have x1:k<=5:=x1;have x2:v<=9223372036854775807:=x2;have x3:bC id=if v < 0 then -1 else fK (5 - k) k v:=x3
 refine aP.2 ⟨λh=>aP.2 ⟨λh2=>?_,λh2=>aP.2 ⟨λh3=>?_,λh3=>⟨by decide,aP.2 ⟨λh4=>?_,λh4=>?_⟩⟩⟩⟩,λh=>?_⟩
 .have h2:v < 0:=h2;rw[if_pos h2]at x3;rw[x3];exact⟨rfl,rfl⟩
 all_goals first | (have h:k<=4:=by(have:(k:Int)<=4:=h);omega) | skip
 all_goals first | (have h2:¬v < 0:=h2) | skip
 .have h3:v < 8:=h3;rw[if_neg h2]at x3;obtain⟨m,hm⟩:∃m,5 - k=m+1:=⟨4 - k,by omega⟩
  rw[hm,fK,if_pos h3]at x3;rw[x3,show decide ((0:Int)<=k)=true from Wx (by omega)];exact⟨rfl,rfl⟩
 .have h3:¬v < 8:=h3;have h4:7<=v.tmod 8:=h4;rw[if_neg h2]at x3;obtain⟨m,hm⟩:∃m,5 - k=m+1:=⟨4 - k,by omega⟩
  rw[hm,fK,if_neg h3,if_pos h4]at x3;rw[x3];exact⟨rfl,rfl⟩
 .have h3:¬v < 8:=h3;have h4:¬7<=v.tmod 8:=h4;rw[if_neg h2]at x3;obtain⟨m,hm⟩:∃m,5 - k=m+1:=⟨4 - k,by omega⟩
  rw[hm,fK,if_neg h3,if_neg h4]at x3;have e:v.tdiv 8=v / 8:=A74 (by omega)
  refine⟨by decide,aA.2 (show(-9223372036854775808:Int)<=v.tdiv 8/\v.tdiv 8<=9223372036854775807 by omega),aA.2 (show(-9223372036854775808:Int)<=v.tdiv 8 - 1/\v.tdiv 8 - 1<=9223372036854775807 by omega),aA.2 (show(-9223372036854775808:Int)<=(k:Int)+1/\(k:Int)+1<=9223372036854775807 by omega),(k+1,v.tdiv 8 - 1),⟨show k+1<=5 by omega,show v.tdiv 8 - 1<=9223372036854775807 by omega,?_⟩,⟨rfl,rfl,trivial⟩,rfl,show 5 - (k+1) < 5 - k by omega⟩
  show bC id=if v.tdiv 8 - 1 < 0 then -1 else fK (5 - (k+1)) ((k+1:Nat):Int) (v.tdiv 8 - 1)
  rw[if_neg (by omega),x3,show 5 - (k+1)=m by omega];rfl
 .have h:¬k<=4:=by
   have:¬(k:Int)<=4:=h;omega
  rw[show 5 - k=0 by omega]at x3
  have:bC id = -1:=by rw[x3];split<;>rfl
  rw[this];exact⟨rfl,rfl⟩
theorem Gn:bJ bM.gd 38 I8:=
 jA (cx:=bM) (n:=18) (cl:=[]) aF trivial Tryz.func38 λd hd=>by
  obtain⟨id,⟨⟩⟩:=d;exact cO (agY id) (aeC id hd) (by kernel_rfl)
abbrev OG:CT:={ ps:=[.int .i64],pre:=λd=>d.1<=9223372036854775807,res:=λd=>([],.one (.c (.v (.int .i64 (kJ d.1))))) }
abbrev agZ(id:Int):Nat->Option (St->mO):=λk=>match k with
 | 4=>some λ_=>.inv { α:=Nat×Int,slots:=λx=>[(3,.c (.v (.int .i64 x.1))),(0,.c (.v (.int .i64 x.2)))],res:=λ_=>[],inv:=λx=>x.1<=4/\0<=x.2/\x.2<=9223372036854775807/\0<=bC id/\fK (5 - x.1) x.1 x.2=bC id,meas:=λx=>x.2.toNat }
 | _=>none
theorem aeD(id:Int) (aS:OG.pre (id,())):
 let z1:=λ(x:Nat×Int)=>x.fst<=4/\0<=x.snd/\x.snd<=9223372036854775807/\0<=bC id/\fK (5 - x.fst) (x.fst:Int) x.snd=bC id;id<=9223372036854775807/\br (!decide (0<=bC id)) (qI (kJ id) (0:Int)) ((∃(x:Nat×Int),(z1 x)/\(cI 0=cI (x.fst:Int)/\cI id=cI x.snd/\True)/\([]:List o7)=[])/\∀(x:Nat×Int),x.fst<=4/\0<=x.snd/\x.snd<=9223372036854775807/\0<=bC id/\fK (5 - x.fst) (x.fst:Int) x.snd=bC id->br (decide (8<=x.snd)) ((8:Int)≠(0:Int)/\iR (x.snd.tdiv (8:Int))/\iR (x.snd.tdiv (8:Int) - (1:Int))/\iR ((x.fst:Int)+(1:Int))/\∃(x':Nat×Int),(z1 x')/\(cI ((x.fst:Int)+(1:Int))=cI (x'.fst:Int)/\cI (x.snd.tdiv (8:Int) - (1:Int))=cI x'.snd/\True)/\([]:List o7)=[]/\x'.snd.toNat < x.snd.toNat) (qI (kJ id) (x.fst:Int))):=by
 conv=>zeta
 delta o7 cI qI iR;have hp:id<=9223372036854775807:=aS;refine⟨hp,ak.2 ⟨λh=>?_,λh=>?_⟩⟩
 .have h:¬0<=bC id:=by simpa using h
  have e:kJ id=0:=by unfold kJ;rw[if_pos (by omega)]
  rw[e];exact⟨rfl,rfl⟩
 have h:0<=bC id:=by simpa using h
 have hl:=uf h;have em:kJ id=bC id:=by unfold kJ;rw[if_neg (by omega)]
 refine⟨⟨(0,id),⟨by omega,hl.1,hp,h,by unfold bC;rw[if_neg (by omega)];rfl⟩,⟨rfl,rfl,trivial⟩,rfl⟩,λx hx=>?_⟩
 obtain⟨k,v⟩:=x;obtain⟨x1,x2,x3,_,x4⟩:=hx;have x1:k<=4:=x1;have x2:0<=v:=x2;have x3:v<=9223372036854775807:=x3;have x4:fK (5 - k) k v=bC id:=x4;obtain⟨m,hm⟩:∃m,5 - k=m+1:=⟨4 - k,by omega⟩
 rw[hm,fK]at x4;refine aP.2 ⟨λh2=>?_,λh2=>?_⟩
 .have h2:¬v < 8:=by
   have:8<=v:=h2;omega
  rw[if_neg h2]at x4;split at x4
  .omega
  have e:v.tdiv 8=v / 8:=A74 x2;have hm0:m≠0:=by
   intro q;subst q;simp[fK]at x4;omega
  refine⟨by decide,aA.2 (show(-9223372036854775808:Int)<=v.tdiv 8/\v.tdiv 8<=9223372036854775807 by omega),aA.2 (show(-9223372036854775808:Int)<=v.tdiv 8 - 1/\v.tdiv 8 - 1<=9223372036854775807 by omega),aA.2 (show(-9223372036854775808:Int)<=(k:Int)+1/\(k:Int)+1<=9223372036854775807 by omega),(k+1,v.tdiv 8 - 1),⟨show k+1<=4 by omega,show 0<=v.tdiv 8 - 1 by omega,show v.tdiv 8 - 1<=9223372036854775807 by omega,h,?_⟩,⟨rfl,rfl,trivial⟩,rfl,show(v.tdiv 8 - 1).toNat < v.toNat by omega⟩
  show fK (5 - (k+1)) ((k+1:Nat):Int) (v.tdiv 8 - 1)=bC id;rw[<-x4,show 5 - (k+1)=m by omega];rfl
 .have h2:v < 8:=by
   have:¬8<=v:=h2;omega
  rw[if_pos h2]at x4;rw[em,<-x4];exact⟨rfl,rfl⟩
theorem OH:bJ bM.gd 41 OG:=
 jA (cx:=bM) (n:=15) (cl:=[(38,I8)]) aF ⟨Gn,trivial⟩ Tryz.func41 λd hd=>by
  obtain⟨id,⟨⟩⟩:=d;exact cO (agZ id) (aeD id hd) (by kernel_rfl)
abbrev VL:CT:={ ps:=[dK],pre:=λd=>d.1.1<=9223372036854775807,res:=λd=>([],.iQ [.c (.v (.int .i64 (fV d.1.1 d.1.2.2.2.2.2.1).1)),.c (.v (.bool (fV d.1.1 d.1.2.2.2.2.2.1).2))]) }
theorem aeE(id fn pc:Int) (rg:List Int) (st ch ph su fa:Int) (he:List Int) (aS:VL.pre ((id,fn,pc,rg,st,ch,ph,su,fa,he,()),())):
 let z1:=[cI ((fV id ch).fst),cB ((fV id ch).snd)];id<=9223372036854775807/\((!!decide (0<=bC id))=true->id<=9223372036854775807)/\br (!decide (0<=bC id) || decide (kJ id=4) || decide (ch < 0) || decide (7<=ch)) (rT z1 [cI 0,cB false]) (iR (id+1)/\iR ((8:Int) * (id+1))/\iR ((8:Int) * (id+1)+ch)/\rT z1 [cI ((8:Int) * (id+1)+ch),cB true]):=by
 conv=>zeta
 delta cI cB rT iR;have hp:id<=9223372036854775807:=aS;refine⟨hp,λ_=>hp,ak.2 ⟨λh=>?_,λh=>?_⟩⟩
 .have e:fV id ch=(0,false):=by
   unfold fV;rw[if_pos];unfold kJ at h;simp only[uM,yS,iE,iZ]at h;split at h<;>omega
  rw[e];exact⟨rfl,rfl⟩
 .simp only[pz,QN,iE,iZ]at h;obtain⟨⟨⟨h1,h2⟩,h3⟩,h4⟩:=h;unfold kJ at h2;rw[if_neg (by omega)]at h2
  have e:fV id ch=(8 * (id+1)+ch,true):=by
   unfold fV;rw[if_neg (by omega)]
  have:=uf h1;rw[e];exact⟨aA.2 (by omega),aA.2 (by omega),aA.2 (by omega),rfl,rfl⟩
theorem ZA:bJ bM.gd 62 VL:=
 jA (cx:=bM) (n:=31) (cl:=[(38,I8),(41,OG)]) aF ⟨Gn,OH,trivial⟩ Tryz.func62 λd hd=>by
  obtain⟨⟨id,fn,pc,rg,st,ch,ph,su,fa,he,⟨⟩⟩,⟨⟩⟩:=d;exact cO (λ_=>none) (aeE id fn pc rg st ch ph su fa he hd) (by kernel_rfl)
abbrev Gp:CT:={ ps:=[.sl (.int .i64),.int .i64],pre:=λd=>d.1.length<=1000000,res:=λd=>([],vB (gZ d.1 d.2.1)) }
abbrev ag0(l:List Int) (x:Int):Nat->Option (St->mO):=λk=>match k with
 | 2=>some λ_=>.inv { α:=Nat,slots:=λk=>[(5,.c (.v (.int .i64 k)))],res:=λk=>[],inv:=λk=>k<=(l).length/\∀j < k,∀y,l[j]?=some y->¬y=x,meas:=λk=>(l).length - k }
 | _=>none
theorem aeF(l:List Int) (x:Int) (aS:Gp.pre (l,x,())):
 let z1:=λ(x_1:Nat)=>(x_1<=l.length/\∀(j:Nat),j < x_1->∀(y:Int),l[j]?=some y->¬y=x);(∃x_1,(z1 x_1)/\(cI 0=cI (x_1:Int)/\True)/\([]:List o7)=[])/\∀(x_1:Nat),(z1 x_1)->br (decide ((x_1:Int) < (l.length:Int))) ((0<=(x_1:Int)/\(x_1:Int) < (l.length:Int))/\∀(d:Int),l[(x_1:Int).toNat]?=some d->br (decide (d=x)) (qB (gZ l x) true) (iR ((x_1:Int)+(1:Int))/\∃x',(x'<=l.length/\∀(j:Nat),j < x'->∀(y:Int),l[j]?=some y->¬y=x)/\(cI ((x_1:Int)+(1:Int))=cI (x':Int)/\True)/\([]:List o7)=[]/\l.length - x' < l.length - x_1)) (qB (gZ l x) false):=by
 conv=>zeta
 delta o7 cI qB iR;have hp:l.length<=1000000:=aS;refine⟨⟨0,⟨by omega,λj hj=>by omega⟩,⟨rfl,trivial⟩,rfl⟩,λk hk=>ak.2 ⟨λh=>?_,λh=>?_⟩⟩
 .simp only[iE]at h;have hN:(k:Int).toNat=k:=by omega
  rw[hN];refine⟨by omega,λd hd=>ak.2 ⟨λh2=>⟨rfl,?_⟩,λh2=>⟨aA.2 (by omega),k+1,⟨by omega,λj hj y hy=>?_⟩,⟨rfl,trivial⟩,rfl,by omega⟩⟩⟩
  .have e:gZ l x=true:=by
    unfold gZ;exact Q5.2 ⟨d,kT hd,h2⟩
   rw[e]
  .by_cases ku:j=k
   .subst ku;rw[hd]at hy;cases hy;simpa using h2
   .exact hk.2 j (by omega) y hy
 .simp only[iZ]at h;have e:gZ l x=false:=by
   unfold gZ;rw[List.any_eq_false];intro i hi;obtain⟨j,hj⟩:=Ja hi;simpa using hk.2 j (by have:=(eU.1 hj).1;omega) i hj
  rw[e];exact⟨rfl,rfl⟩
theorem OI:bJ bM.gd 42 Gp:=
 jA (cx:=bM) (n:=18) (cl:=[]) aF trivial Tryz.func42 λd hd=>by
  obtain⟨l,x,⟨⟩⟩:=d;exact cO (ag0 l x) (aeF l x hd) (by kernel_rfl)
abbrev VN:CT:={ ps:=[.int .i64],pre:=λd=>True,res:=λd=>([],vB (dJ d.1)) }
theorem aeG(n:Int):
 qB (dJ n) (decide ((-2147483648)<=n) && decide (n<=2147483647)):=by
 delta qB;refine⟨rfl,?_⟩;rw[show dJ n=(decide (-2147483648<=n) && decide (n<=2147483647)) by unfold dJ;rw[Jb];simp]
theorem ZB:bJ bM.gd 40 VN:=
 jA (cx:=bM) (n:=9) (cl:=[]) aF trivial Tryz.func40 λd hd=>by
  obtain⟨n,⟨⟩⟩:=d;exact cO (λ_=>none) (aeG n) (by kernel_rfl)
abbrev Gq:CT:={ ps:=[qN,dK],pre:=λd=>0<=d.2.1.2.1/\d.2.1.2.1 < d.1.2.2.2.1.length,res:=λd=>([],.one (.c (.sl kC (codeF d.1.2.2.2.1 d.2.1.2.1)))) }
theorem aeH(vs:List VD) (ms cs:List ByteArray) (fs:List FD) (ts:List SD) (id fn pc:Int) (rg:List Int) (st ch ph su fa:Int) (he:List Int) (aS:Gq.pre ((vs,ms,cs,fs,ts,()),(id,fn,pc,rg,st,ch,ph,su,fa,he,()),())):
 (0<=fn/\fn < (fs.length:Int))/\∀(d:ByteArray×(kC.sl.pair Sh.unit).den),fs[fn.toNat]?=some d->rE (aW.one (SV.c (SC.sl kC (codeF fs fn)))) (aW.one (SV.c (SC.sl kC d.snd.fst))):=by
 delta rE I6;have hp:0<=fn/\fn < (fs.length:Int):=aS;refine⟨hp,λd hd=>⟨rfl,?_⟩⟩
 obtain⟨y,hy,ey⟩:=lV hp;rw[hd]at hy;cases hy;rw[ey]
theorem OJ:bJ bM.gd 39 Gq:=
 jY (cx:=bM) (n:=12) (cl:=[]) (rc:=[]) aF trivial Tryz.func39 λd hd=>by
  obtain⟨⟨vs,ms,cs,fs,ts,⟨⟩⟩,⟨id,fn,pc,rg,st,ch,ph,su,fa,he,⟨⟩⟩,⟨⟩⟩:=d;exact cO (λ_=>none) (aeH vs ms cs fs ts id fn pc rg st ch ph su fa he hd) (by kernel_rfl)
abbrev VO:CT:={ ps:=[dK,kC],pre:=λd=>d.1.2.2.2.2.2.2.2.2.2.1.length<=1000000/\d.1.1<=9223372036854775807,res:=λd=>([],.one (.c (.v (.int .i64 (iD d.1.1 d.1.2.2.2.2.2.1 d.1.2.2.2.2.2.2.1 d.1.2.2.2.2.2.2.2.2.2.1 d.2.1))))) }
theorem aeI(id fn pc:Int) (rg:List Int) (st ch ph su fa:Int) (he:List Int) (op a b c obj n fo ord:Int) (aS:VO.pre ((id,fn,pc,rg,st,ch,ph,su,fa,he,()),(op,a,b,c,obj,n,fo,ord,()),())):
 let z2:=iD id ch ph he (op,a,b,c,obj,n,fo,ord,());let z1:=qI z2 (0:Int);br (!decide (ph=0)) z1 ((decide (op=16)=true->he.length<=1000000)/\((decide (op=18) && !(decide (op=16) && !gZ he obj))=true->he.length<=1000000)/\br (decide (op=16) && !gZ he obj || decide (op=18) && !gZ he n) (qI z2 (27:Int)) (br (decide (op=21)) (id<=9223372036854775807/\br (!(fV id ch).snd) (qI z2 (28:Int)) z1) z1)):=by
 conv=>zeta
 delta qI;obtain⟨h1,h2⟩:he.length<=1000000/\id<=9223372036854775807:=aS;unfold iD;refine ak.2 ⟨λh=>⟨rfl,?_⟩,λh=>⟨λ_=>h1,λ_=>h1,ak.2 ⟨λq=>⟨rfl,?_⟩,λq=>aP.2 ⟨λq2=>⟨h2,ak.2 ⟨λq3=>⟨rfl,?_⟩,λq3=>⟨rfl,?_⟩⟩⟩,λq2=>⟨rfl,?_⟩⟩⟩⟩⟩
 .have h:ph≠0:=by simpa using h
  rw[if_pos h]
 all_goals
  have h:¬ph≠0:=by simpa using h
  rw[if_neg h]
 .by_cases e:op=18
  .subst e;simp at q;simp[q]
  .by_cases e2:op=16
   .subst e2;simp at q;simp[q]
   .simp[e,e2]at q
 .subst q2;simp at q3;simp[q3]
 .subst q2;simp at q3;simp[q3]
 .by_cases e:op=18
  .subst e;simp at q;simp[q]
  .by_cases e2:op=16
   .subst e2;simp at q;simp[q]
   .simp[e,e2,q2]
theorem ZC:bJ bM.gd 44 VO:=
 jY (cx:=bM) (n:=44) (cl:=[(42,Gp),(62,VL)]) (rc:=[]) aF ⟨OI,ZA,trivial⟩ Tryz.func44 λd hd=>by
  obtain⟨⟨id,fn,pc,rg,st,ch,ph,su,fa,he,⟨⟩⟩,⟨op,a,b,c,obj,n,fo,ord,⟨⟩⟩,⟨⟩⟩:=d;exact cO (λ_=>none) (aeI id fn pc rg st ch ph su fa he op a b c obj n fo ord hd) (by kernel_rfl)
abbrev aaK:CT:={ ps:=[dK,.int .i64],pre:=λd=>True,res:=λd=>([],.one (.dat dK (mW d.1 3 d.2.1))) }
theorem aeJ(id fn pc:Int) (rg:List Int) (st ch ph su fa:Int) (he:List Int) (er:Int):
 rE (aW.one (SV.dat dK (mW (id,fn,pc,rg,st,ch,ph,su,fa,he,()) (3:Int) er))) (aW.one (SV.dat dK ((id,fn,pc,rg,st,ch,ph,(3:Int),er,he,())))):=by
 delta rE I6;exact⟨rfl,rfl⟩
theorem ZE:bJ bM.gd 45 aaK:=
 jY (cx:=bM) (n:=9) (cl:=[]) (rc:=[.data dK]) aF trivial Tryz.func45 λd hd=>by
  obtain⟨⟨id,fn,pc,rg,st,ch,ph,su,fa,he,⟨⟩⟩,er,⟨⟩⟩:=d;exact cO (λ_=>none) (aeJ id fn pc rg st ch ph su fa he er) (by kernel_rfl)
abbrev Lj:CT:={ ps:=[dK,kC],pre:=λd=>(0<=d.2.1.2.1/\d.2.1.2.1 < 8)/\(0<=d.2.1.2.2.1/\d.2.1.2.2.1 < 8)/\(0<=d.2.1.2.2.2.1/\d.2.1.2.2.2.1 < 8)/\(0<=d.1.2.2.1/\d.1.2.2.1<=1000000)/\(d.2.1.1=3->(dP d.2.1.2.2.2.2.2.2.1 (d.1.2.2.2.1.getD d.2.1.2.2.1.toNat 0) (d.1.2.2.2.1.getD d.2.1.2.2.2.1.toNat 0)).2=0)/\¬(d.2.1.1=6/\d.1.2.2.2.1.getD d.2.1.2.2.1.toNat 0=0)/\d.2.1.1≠7,res:=λd=>([],.one (.dat dK (bF d.1 d.2.1).1)) }
theorem aeK(id fn pc:Int) (rg:List Int) (st ch ph su fa:Int) (he:List Int) (op a b c obj n fo ord:Int) (aS:Lj.pre ((id,fn,pc,rg,st,ch,ph,su,fa,he,()),(op,a,b,c,obj,n,fo,ord,()),())):
 let z3:=aW.one (SV.dat dK (bF (id,fn,pc,rg,st,ch,ph,su,fa,he,()) (op,a,b,c,obj,n,fo,ord,())).fst);let z2:=rE z3 (aW.one (SV.dat dK ((id,fn,n,rg,st,ch,ph,su,fa,he,()))));let z1:=rE z3 (aW.one (SV.dat dK ((id,fn,pc+1,rg,st,ch,ph,su,fa,he,()))));iR (pc+1)/\br (decide (op=1)) ((0<=a/\a < 8)/\a.toNat < 8/\rE z3 (aW.one (SV.dat dK ((id,fn,pc+1,rg.set a.toNat n,st,ch,ph,su,fa,he,()))))) (br (decide (op=2)) ((0<=b/\b < 8)/\b.toNat < 8/\∀(d:Int),rg[b.toNat]?=some d->(0<=a/\a < 8)/\a.toNat < 8/\rE z3 (aW.one (SV.dat dK ((id,fn,pc+1,rg.set a.toNat d,st,ch,ph,su,fa,he,()))))) (br (decide (op=3)) ((0<=b/\b < 8)/\b.toNat < 8/\∀(d:Int),rg[b.toNat]?=some d->(0<=c/\c < 8)/\c.toNat < 8/\∀(iC:Int),rg[c.toNat]?=some iC->True/\(0<=a/\a < 8)/\a.toNat < 8/\rE z3 (aW.one (SV.dat dK ((id,fn,pc+1,rg.set a.toNat (dP fo d iC).fst,st,ch,ph,su,fa,he,()))))) (br (decide (op=4)) z2 (br (decide (op=5)) ((0<=b/\b < 8)/\b.toNat < 8/\∀(d:Int),rg[b.toNat]?=some d->br (!decide (d=0)) z2 z1) z1)))):=by
 conv=>zeta
 delta rE I6 iR;obtain⟨hA,hB,hC,⟨hp0,hp1⟩,h33,h66,h77⟩:(0<=a/\a < 8)/\(0<=b/\b < 8)/\(0<=c/\c < 8)/\(0<=pc/\pc<=1000000)/\(op=3->(dP fo (rg.getD b.toNat 0) (rg.getD c.toNat 0)).2=0)/\¬(op=6/\rg.getD b.toNat 0=0)/\op≠7:=aS;have Vx:a.toNat < 8:=by omega
 have QK:b.toNat < 8:=by omega
 have hC8:c.toNat < 8:=by omega
 have gd:∀{x d:Int},rg[x.toNat]?=some d->rg.getD x.toNat 0=d:=λhd=>by rw[Gu,hd];rfl
 refine⟨aA.2 (by omega),aP.2 ⟨λh=>?_,λh=>aP.2 ⟨λh2=>?_,λh2=>aP.2 ⟨λh3=>?_,λh3=>aP.2 ⟨λh4=>?_,λh4=>aP.2 ⟨λh5=>?_,λh5=>?_⟩⟩⟩⟩⟩⟩
 .have e:bF (id,fn,pc,rg,st,ch,ph,su,fa,he,()) (op,a,b,c,obj,n,fo,ord,())=((id,fn,pc+1,rg.set a.toNat n,st,ch,ph,su,fa,he,()),true):=by simp only[bF,if_pos h]
  rw[e];exact⟨hA,Vx,rfl,rfl⟩
 .refine⟨hB,QK,λd hd=>?_⟩
  have e:bF (id,fn,pc,rg,st,ch,ph,su,fa,he,()) (op,a,b,c,obj,n,fo,ord,())=((id,fn,pc+1,rg.set a.toNat d,st,ch,ph,su,fa,he,()),true):=by simp only[bF,if_neg h,if_pos h2,gd hd]
  rw[e];exact⟨hA,Vx,rfl,rfl⟩
 .refine⟨hB,QK,λd hd=>⟨hC,hC8,λd1 hd1=>⟨trivial,hA,Vx,rfl,?_⟩⟩⟩
  have h8:=h33 h3;rw[gd hd,gd hd1]at h8;have e:bF (id,fn,pc,rg,st,ch,ph,su,fa,he,()) (op,a,b,c,obj,n,fo,ord,())=((id,fn,pc+1,rg.set a.toNat (dP fo d d1).1,st,ch,ph,su,fa,he,()),true):=by simp only[bF,if_neg h,if_neg h2,if_pos h3,gd hd,gd hd1,if_pos h8]
  rw[e]
 .have e:bF (id,fn,pc,rg,st,ch,ph,su,fa,he,()) (op,a,b,c,obj,n,fo,ord,())=((id,fn,n,rg,st,ch,ph,su,fa,he,()),true):=by simp only[bF,if_neg h,if_neg h2,if_neg h3,if_pos h4]
  rw[e];exact⟨rfl,rfl⟩
 .refine⟨hB,QK,λd hd=>ak.2 ⟨λh8=>?_,λh8=>?_⟩⟩
  .have h8:¬d=0:=by simpa using h8
   have e:bF (id,fn,pc,rg,st,ch,ph,su,fa,he,()) (op,a,b,c,obj,n,fo,ord,())=((id,fn,n,rg,st,ch,ph,su,fa,he,()),true):=by simp only[bF,if_neg h,if_neg h2,if_neg h3,if_neg h4,if_pos h5,gd hd,if_neg h8]
   rw[e];exact⟨rfl,rfl⟩
  .have h8:d=0:=by simpa using h8
   have e:bF (id,fn,pc,rg,st,ch,ph,su,fa,he,()) (op,a,b,c,obj,n,fo,ord,())=((id,fn,pc+1,rg,st,ch,ph,su,fa,he,()),true):=by simp only[bF,if_neg h,if_neg h2,if_neg h3,if_neg h4,if_pos h5,gd hd,if_pos h8]
   rw[e];exact⟨rfl,rfl⟩
 .have e:bF (id,fn,pc,rg,st,ch,ph,su,fa,he,()) (op,a,b,c,obj,n,fo,ord,())=((id,fn,pc+1,rg,st,ch,ph,su,fa,he,()),true):=by simp only[bF,if_neg h,if_neg h2,if_neg h3,if_neg h4,if_neg h5,if_neg h77];rw[if_neg h66]
  rw[e];exact⟨rfl,rfl⟩
theorem ZF:bJ bM.gd 46 Lj:=
 jY (cx:=bM) (n:=72) (cl:=[(63,VJ)]) (rc:=[.data dK]) aF ⟨Zy,trivial⟩ Tryz.func46 λd hd=>by
  obtain⟨⟨id,fn,pc,rg,st,ch,ph,su,fa,he,⟨⟩⟩,⟨op,a,b,c,obj,n,fo,ord,⟨⟩⟩,⟨⟩⟩:=d;exact cO (λ_=>none) (aeK id fn pc rg st ch ph su fa he op a b c obj n fo ord hd) (by kernel_rfl)
end
end Go.Proofs.YtaagmchgokmdgaaGreatDoor
