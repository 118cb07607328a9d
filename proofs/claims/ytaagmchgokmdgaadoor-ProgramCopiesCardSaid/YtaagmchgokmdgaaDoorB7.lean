/- Part 7 of the proof. Conditions: the rows'. -/
import Derived.Test.YtaagmchgokmdgaaDoorB6
import Derived.Test.YtaagmchgokmdgaaDoorCards
import Derived.Test.YtaagmchgokmdgaaDoorTie
import Derived.WalkKit
import Derived.ProofKit
import Derived.OpenShut
import Derived.Deep.DeepHandedRow
import Derived.Lib.LaidTab
set_option linter.unusedSimpArgs false
set_option linter.unusedVariables false
set_option maxRecDepth 1000000
set_option maxHeartbeats 8000000
namespace Go.Proofs.YtaagmchgokmdgaaDoor
open Go Go.lZ
variable {ts:List SD}{vs:List VD}{ms cs:List ByteArray}{fs:List FD}{α:Type}
abbrev bnd(d:bg [wU]):Prop:=d.1.1.length<=1000000/\d.1.2.1.length<=1000000/\d.1.2.2.1.length<=1000000/\d.1.2.2.2.1.length<=1000000/\d.1.2.2.2.2.1.length<=1000000/\(∀x∈d.1.2.2.2.1,x.2.1.length<=1000000)/\(aT d.1.2.2.2.1).length<=1000000
def tu(vs:List VD) (ms cs:List ByteArray) (fs:List FD) (ts:List SD):Int×Int×Int:=
 if(QK vs ms cs fs).1≠0 then QK vs ms cs fs else if Gl vs ms cs fs≠0 then(Gl vs ms cs fs,-1,-1) else if(Ky vs ms cs fs).1≠0 then Ky vs ms cs fs else if IK fs ts≠0 then(IK fs ts,-1,-1) else(0,-1,-1)
abbrev F8:CT:={ ps:=[wU],pre:=λd=>bnd d,res:=λd=>([],.l7 [.c (.v (.int .i64 (tu d.1.1 d.1.2.1 d.1.2.2.1 d.1.2.2.2.1 d.1.2.2.2.2.1).1)),.c (.v (.int .i64 (tu d.1.1 d.1.2.1 d.1.2.2.1 d.1.2.2.2.1 d.1.2.2.2.2.1).2.1)),.c (.v (.int .i64 (tu d.1.1 d.1.2.1 d.1.2.2.1 d.1.2.2.2.1 d.1.2.2.2.2.1).2.2))]) }
theorem Z7(vs:List VD) (ms cs:List ByteArray) (fs:List FD) (ts:List SD) (bD:F8.pre ((vs,ms,cs,fs,ts,()),())):
 let z10:=QK vs ms cs fs;let z7:=z10.fst=0;let z5:=decide z7;let z6:=decide (Gl vs ms cs fs=0);let z11:=Ky vs ms cs fs;let z8:=z11.fst=0;let z9:=tu vs ms cs fs ts;let z4:=[cI (z9.fst),cI (z9.snd.fst),cI (z9.snd.snd)];let z3:=rT z4 [cI 0,cI (-1),cI (-1)];let z2:=True/\br (!decide (IK fs ts=0)) (rT z4 [cI (IK fs ts),cI (-1),cI (-1)]) z3;let z1:=(fs.length<=1000000/\∀(x:ByteArray×(iD.sl.pair Sh.unit).den),x∈fs->List.length x.snd.fst<=1000000)/\br (decide z8) z2 (br (!decide z8) (rT z4 [cI (z11.fst),cI (z11.snd.fst),cI (z11.snd.snd)]) z3);(vs.length<=1000000/\ms.length<=1000000/\cs.length<=1000000/\fs.length<=1000000)/\br z5 (True/\br z6 z1 (br z6 z2 (br (!decide (Gl vs ms cs fs=0)) (rT z4 [cI (Gl vs ms cs fs),cI (-1),cI (-1)]) z3))) (br z5 z1 (br z5 z2 (br (!decide z7) (rT z4 [cI (z10.fst),cI (z10.snd.fst),cI (z10.snd.snd)]) z3))):=by
 conv=>zeta
 delta cI rT I6;obtain⟨h1,h2,h3,h4,h5,h6,h7⟩:bnd ((vs,ms,cs,fs,ts,()),()):=bD;have hA:∀x∈fs,x.2.1.length<=1000000:=h6;have hB:fs.length<=1000000/\∀x∈fs,x.2.1.length<=1000000:=⟨h4,h6⟩;have hC:vs.length<=1000000/\ms.length<=1000000/\cs.length<=1000000/\fs.length<=1000000:=⟨h1,h2,h3,h4⟩;clear h1 h2 h3 h4 h5 h6 h7 hA;unfold tu;simp only[aA]
 repeat' (first | exact hB | exact hC | (refine And.intro ?_ ?_) | (intro _))
 all_goals first | trivial | rfl | (clear hB hC;simp_all;done)
theorem D9:dA cZ.gd 14 F8:=
 rH (cx:=cZ) (n:=40) (cl:=[(34,ZT),(35,acp),(36,Z4),(37,acs)]) aO ⟨Vu,Vw,VA,Vy,trivial⟩ Tryd.func14 λd hd=>by
  obtain⟨⟨vs,ms,cs,fs,ts,⟨⟩⟩,⟨⟩⟩:=d;exact⟨λ_=>none,cast (by kernel_rfl) (Z7 vs ms cs fs ts hd)⟩
abbrev QS:CT:={ ps:=[wU],pre:=λd=>bnd d,res:=λd=>([],vB (decide ((tu d.1.1 d.1.2.1 d.1.2.2.1 d.1.2.2.2.1 d.1.2.2.2.2.1).1=0))) }
theorem IQ:∀{m x:List Int},SS m->SS x->(∀y∈x,y∈m)->x.Sublist m
 | [],[],_,_,_=>.slnil
 | [],y :: x,_,_,h=>by have:=h y (by simp);simp at this
 | b :: m,[],_,_,_=>List.nil_sublist _
 | b :: m,a :: x,hm,hx,h=>by
   obtain⟨m1,m2⟩:=V8.1 hm;obtain⟨x1,x2⟩:=V8.1 hx;rcases iV.1 (h a (by simp)) with rfl | ha
   .refine List.cons_sublist_cons.2 (IQ m2 x2 λy hy=>?_)
    rcases iV.1 (h y (by simp[hy])) with rfl | h2
    .have:=x1 _ hy;omega
    .exact h2
   .refine List.Sublist.cons _ (IQ m2 hx λy hy=>?_)
    rcases iV.1 (h y hy) with rfl | h2
    .have:=m1 a ha;rcases iV.1 hy with rfl | hy
     .omega
     .have:=x1 _ hy;omega
    .exact h2
theorem QT{hi:Int}:∀(l:List Int) (lo:Int),SS l->(∀x∈l,lo<=x/\x < hi)->lo<=hi->(l.length:Int)<=hi - lo
 | [],lo,_,_,h=>by simp;omega
 | x :: l,lo,hs,hb,h=>by
   obtain⟨h1,h2⟩:=V8.1 hs;obtain⟨b1,b2⟩:=hb x (by simp)
   have:=QT l (x+1) h2 (λy hy=>⟨by have:=h1 y hy;omega,(hb y (by simp[hy])).2⟩) (by omega)
   simp only[Aq];omega
theorem vw{l:List Int}{n:Nat} (hs:SS l) (hb:∀x∈l,0<=x/\x < (n:Int)):l.length<=n:=by
 have:=QT l 0 hs hb (by omega)
 omega
theorem KA{l:List Int}{x:Int}{n:Nat} (hs:SS l) (hb:∀y∈l,0<=y/\y < (n:Int)) (hx:0<=x/\x < (n:Int)):SS (ig (l++[x]))/\(∀y∈ig (l++[x]),0<=y/\y < (n:Int))/\l.length<=(ig (l++[x])).length:=by
 refine⟨D6 _,λy hy=>?_,(IQ (D6 _) hs λy hy=>zJ.2 (by simp[hy])).length_le⟩
 have:=zJ.1 hy;simp at this;rcases this with h | h
 .exact hb y h
 .subst h;exact hx
theorem VB{P:Program}{gd:Nat->Option (Sigma Sh.den)}{f:Nat}{ps:List Sh}{pre:bg ps->Prop}{t:TypeId}{s:Sh}{L:bg ps->List s.den} (m:Go.lZ.Met P gd f { ps:=ps,pre:=pre,res:=λd=>([.row t s (L d)],.one (.c (.row 0))) }):
 Go.lZ.Met P gd f { ps:=ps,pre:=pre,res:=λd=>([],.one (.c (.sl s (L d)))) }:=by
 refine⟨λd vs h B hw hg ha hp=>(m.1 d vs h B hw hg ha hp).mono ?_,m.2⟩
 rintro en w' ⟨h',β,y,rfl,ok,c⟩;obtain⟨h2,le,ok2,sl⟩:=ok.freeze (i:=0) rfl (ok.row_of rfl c.1);exact⟨h2,[],y,rfl,by simpa using ok2.take (n:=0) (BU _) (λr hr=>by simp at hr),⟨sl,c.2⟩⟩
abbrev QU:CT:={ ps:=[.sl (.int .i64),.int .i64],pre:=λd=>d.1.length<=999999,res:=λd=>([],.one (.c (.sl (.int .i64) (ig (d.1++[d.2.1]))))) }
theorem Nh:dA cZ.gd 32 QU:=VB Vk
def jd(ts:List SD):List Int:=ts.foldl (λo t=>ig (o++[t.1])) []
def jy(found:List Int) (ds:List (bg [eU,iD])):List Int:=ds.foldl (λnx d=>if d.2.1.1=21/\lC found d.1.1=true then ig (nx++[d.2.1.2.2.2.2.1]) else nx) found
def iU:Nat->List FD->List Int->List Int
 | 0,_,l=>l
 | n+1,fs,l=>if(jy l (aT fs)).length=l.length then l else iU n fs (jy l (aT fs))
def wF(vs:List VD) (ms cs:List ByteArray) (fs:List FD) (ts:List SD):List Int×Int:=if(tu vs ms cs fs ts).1≠0 then([],(tu vs ms cs fs ts).1) else(iU (fs.length+1) fs (jd ts),0)
theorem Nj{k:Nat}{d:SD} (h:ts[k]?=some d):jd (ts.take (k+1))=ig (jd (ts.take k)++[d.1]):=by
 unfold jd;rw[A96,h,Option.toList_some,List.foldl_append];rfl
theorem F9{n:Nat}:∀(ts:List SD) (o:List Int),SS o->(∀y∈o,0<=y/\y < (n:Int))->(∀t∈ts,0<=t.1/\t.1 < (n:Int))->SS (ts.foldl (λo t=>ig (o++[t.1])) o)/\∀y∈ts.foldl (λo t=>ig (o++[t.1])) o,0<=y/\y < (n:Int)
 | [],o,hs,hb,_=>⟨hs,hb⟩
 | t :: ts,o,hs,hb,ht=>by
   obtain⟨a1,a2,_⟩:=KA hs hb (ht t (by simp))
   exact F9 ts _ a1 a2 λu hu=>ht u (by simp[hu])
theorem BL{l:List Int}{L:List (bg [eU,iD])}{k:Nat}{d:bg [eU,iD]} (h:L[k]?=some d):jy l (L.take (k+1))=if d.2.1.1=21/\lC l d.1.1=true then ig (jy l (L.take k)++[d.2.1.2.2.2.2.1]) else jy l (L.take k):=by
 unfold jy;rw[A96,h,Option.toList_some,List.foldl_append];rfl
theorem zN{l:List Int}{n:Nat}:∀(ds:List (bg [eU,iD])) (o:List Int),SS o->(∀y∈o,0<=y/\y < (n:Int))->(∀d∈ds,d.2.1.1=21->0<=d.2.1.2.2.2.2.1/\d.2.1.2.2.2.2.1 < (n:Int)) ->
 SS (ds.foldl (λnx d=>if d.2.1.1=21/\lC l d.1.1=true then ig (nx++[d.2.1.2.2.2.2.1]) else nx) o)/\(∀y∈ds.foldl (λnx d=>if d.2.1.1=21/\lC l d.1.1=true then ig (nx++[d.2.1.2.2.2.2.1]) else nx) o,0<=y/\y < (n:Int)) /\
  o.length<=(ds.foldl (λnx d=>if d.2.1.1=21/\lC l d.1.1=true then ig (nx++[d.2.1.2.2.2.2.1]) else nx) o).length
 | [],o,hs,hb,_=>⟨hs,hb,lD _⟩
 | d :: ds,o,hs,hb,hd=>by
   simp only[Xe]
   by_cases hc:d.2.1.1=21/\lC l d.1.1=true
   .rw[if_pos hc];obtain⟨a1,a2,a3⟩:=KA hs hb (hd d (by simp) hc.1)
    obtain⟨b1,b2,b3⟩:=zN (l:=l) ds _ a1 a2 λe he=>hd e (by simp[he])
    exact⟨b1,b2,nV a3 b3⟩
   .rw[if_neg hc];exact zN (l:=l) ds o hs hb λe he=>hd e (by simp[he])
theorem QV(h:(tu vs ms cs fs ts).1=0):Gl vs ms cs fs=0/\(Ky vs ms cs fs).1=0/\IK fs ts=0:=by
 unfold tu at h;split at h
 .rename_i h1;exact absurd h h1
 .split at h
  .rename_i h1;exact absurd h h1
  .split at h
   .rename_i h1;exact absurd h h1
   .split at h
    .rename_i h1;exact absurd h h1
    .rename_i h1 h2 h3 h4;exact⟨by omega,by omega,by omega⟩
theorem Z8(h:(Ky vs ms cs fs).1=0):∀d∈aT fs,Gm vs ms cs fs d=0:=by
 unfold Ky at h;split at h
 .rename_i d hd;have hp:=List.find?_some hd;split at h
  .cases h
  .rename_i h1;simp only[Ar,jB]at hp;rcases hp with hp | hp
   .exact absurd hp h1
   .exact absurd h hp
 .rename_i hd;intro d hm;have:=RZ.1 hd d hm;simp only[Ar,jB,not_or]at this;omega
theorem Z9(h:Gl vs ms cs fs=0):fs.length<=8:=by
 unfold Gl at h;split at h
 .cases h
 .omega
theorem aac{e op obj n m:Int} (h:ZP vs ms cs fs e op obj n m=0) (h2:op=21):0<=obj/\obj < (fs.length:Int):=by
 subst h2;unfold ZP at h;have e':Aj vs ms cs fs 21=fs.length:=by simp[Aj]
 rw[e']at h;split at h
 .rename_i h3;exact absurd h h3
 .split at h
  .cases h
  .rename_i h3 h4;omega
theorem aad{d:bg [eU,iD]} (h:Gm vs ms cs fs d=0) (h2:d.2.1.1=21):0<=d.2.1.2.2.2.2.1/\d.2.1.2.2.2.2.1 < (fs.length:Int):=aac h h2
theorem aae(h:IK fs ts=0):∀t∈ts,0<=t.1/\t.1 < (fs.length:Int):=by
 unfold IK at h;split at h
 .cases h
 .split at h
  .rename_i t ht;have hp:=List.find?_some ht;simp only[jB]at hp;exact absurd h hp
  .rename_i ht;intro t hm;have:=RZ.1 ht t hm;simp only[jB,Decidable.not_not]at this;unfold Kv at this;split at this
   .cases this
   .omega
abbrev QW:CT:={ ps:=[wU],pre:=λd=>bnd d,res:=λd=>([],.l7 [.c (.sl (.int .i64) (wF d.1.1 d.1.2.1 d.1.2.2.1 d.1.2.2.2.1 d.1.2.2.2.2.1).1),.c (.v (.int .i64 (wF d.1.1 d.1.2.1 d.1.2.2.1 d.1.2.2.2.1 d.1.2.2.2.2.1).2))]) }
theorem fQ{α:Type 1}{Q:α->Prop}{V:Prop} (a:α) (v:V) (h:V=Q a):∃a,Q a:=⟨a,cast h v⟩
def IU(vs:List VD) (ms cs:List ByteArray) (fs:List FD) (ts:List SD):Bool:=decide (vs.length<=20/\ms.length<=20/\cs.length<=20/\fs.length<=20/\ts.length<=20) && fs.all λf=>decide (f.2.1.length<=100)
abbrev acy:CT:={ ps:=[wU],pre:=λd=>True,res:=λd=>([],vB (IU d.1.1 d.1.2.1 d.1.2.2.1 d.1.2.2.2.1 d.1.2.2.2.2.1)) }
abbrev aef(vs:List VD) (ms cs:List ByteArray) (fs:List FD) (ts:List SD):Nat->Option (St->oO):=λk=>match k with
 | 4=>some λ_=>.inv { α:=Nat,slots:=λk=>[(3,.c (.v (.int .i64 k)))],res:=λk=>[],inv:=λk=>k<=(fs).length/\∀j < k,∀f,fs[j]?=some f->f.2.1.length<=100,meas:=λk=>(fs).length - k }
 | _=>none
theorem acz(vs:List VD) (ms cs:List ByteArray) (fs:List FD) (ts:List SD):
 let z3:=qB (IU vs ms cs fs ts) false;let z1:=λ(x:Nat)=>(x<=fs.length/\∀(j:Nat),j < x->∀(f:ByteArray×List ID×Unit),fs[j]?=some f->f.snd.fst.length<=100);let z2:=[g0 (ay.blk 27 [SC.sl ku vs,SC.sl Sh.str ms,SC.sl Sh.str cs,SC.sl iH fs,SC.sl eU ts])];br (decide (20 < (vs.length:Int)) || decide (20 < (ms.length:Int)) || decide (20 < (cs.length:Int)) || decide (20 < (fs.length:Int)) || decide (20 < (ts.length:Int))) z3 ((∃x,(z1 x)/\(cI 0=cI (x:Int)/\True)/\sm z2)/\∀(x:Nat),(z1 x)->br (decide ((x:Int) < (fs.length:Int))) ((0<=(x:Int)/\(x:Int) < (fs.length:Int))/\∀(d:ByteArray×(iD.sl.pair Sh.unit).den),fs[(x:Int).toNat]?=some d->br (decide (100 < ((List.length d.snd.fst):Int))) z3 (iR ((x:Int)+(1:Int))/\∃x',(z1 x')/\(cI ((x:Int)+(1:Int))=cI (x':Int)/\True)/\sm z2/\fs.length - x' < fs.length - x)) (qB (IU vs ms cs fs ts) true)):=by
 conv=>zeta
 delta cI g0 qB sm I6 iR
 by_cases hc:¬(vs.length<=20/\ms.length<=20/\cs.length<=20/\fs.length<=20/\ts.length<=20)
 .have e:IU vs ms cs fs ts=false:=by unfold IU;rw[Nz hc];rfl
  rw[e];refine aA.2 ⟨λ_=>⟨rfl,rfl⟩,λh=>?_⟩
  simp only[xP,qx]at h;omega
 have hc:=Classical.not_not.1 hc;refine aA.2 ⟨λh=>?_,λ_=>?_⟩
 .simp only[Ar,jB]at h;omega
 refine⟨⟨0,⟨by omega,λj hj=>by omega⟩,⟨rfl,trivial⟩,rfl⟩,λk hk=>aA.2 ⟨λh=>?_,λh=>?_⟩⟩
 .simp only[jB]at h;have hN:(k:Int).toNat=k:=by omega
  rw[hN];refine⟨by omega,λd hd=>aA.2 ⟨λh2=>⟨rfl,?_⟩,λh2=>⟨aX.2 (by omega),k+1,⟨by omega,λj hj f hf=>?_⟩,⟨rfl,trivial⟩,rfl,by omega⟩⟩⟩
  .have h2:¬d.2.1.length<=100:=by simp only[jB]at h2;omega
   have e:IU vs ms cs fs ts=false:=by
    unfold IU;rw[show(fs.all λf=>decide (f.2.1.length<=100))=false from List.all_eq_false.2 ⟨d,lI hd,by simpa using h2⟩,Bool.and_false]
   rw[e]
  .by_cases kJ:j=k
   .subst kJ;rw[hd]at hf;cases hf;simp only[qx]at h2;omega
   .exact hk.2 j (by omega) f hf
 .simp only[qx]at h;have e:IU vs ms cs fs ts=true:=by
   unfold IU;rw[Sl hc,I4,Ns];intro f hf;obtain⟨j,hj⟩:=RP hf;simpa using hk.2 j (by have:=(fM.1 hj).1;omega) f hj
  rw[e];exact⟨rfl,rfl⟩
theorem aaf:dA cZ.gd 4 acy:=
 rH (cx:=cZ) (n:=47) (cl:=[]) aO trivial Tryd.func4 λd hd=>by
  obtain⟨⟨vs,ms,cs,fs,ts,⟨⟩⟩,⟨⟩⟩:=d;exact fQ (aef vs ms cs fs ts) (acz vs ms cs fs ts) (by kernel_rfl)
theorem BM:∀(l:List FD) (n m:Nat),(∀x∈l,x.2.1.length<=m)->(jT n l).length<=l.length * m
 | [],n,m,h=>by simp[jT]
 | x :: l,n,m,h=>by
   have:=BM l (n+1) m λy hy=>h y (by simp[hy])
   have:=h x (by simp)
   have e:(rM n x).length=x.2.1.length:=by simp[rM]
   simp only[jT,jA,Aq,rP];omega
theorem Nk(h:IU vs ms cs fs ts=true):bnd ((vs,ms,cs,fs,ts,()),()):=by
 unfold IU at h;rw[A8,jB,Ns]at h;obtain⟨⟨h1,h2,h3,h4,h5⟩,h6⟩:=h;have h6:∀x∈fs,x.2.1.length<=100:=λx hx=>by simpa using h6 x hx
 have:=BM fs 0 100 h6;refine⟨?_,?_,?_,?_,?_,λx hx=>?_,?_⟩
 .show vs.length<=_;omega
 .show ms.length<=_;omega
 .show cs.length<=_;omega
 .show fs.length<=_;omega
 .show ts.length<=_;omega
 .have:=h6 x hx;omega
 .show(jT 0 fs).length<=_;omega
abbrev bP(vs:List VD) (ms cs:List ByteArray) (fs:List FD) (ts:List SD):ay:=.blk 27 [.sl ku vs,.sl .str ms,.sl .str cs,.sl iH fs,.sl eU ts]
theorem aag(m b:Int):
 br (!decide (m=1) && !decide (m=2) && !decide (m=3)) (qI (QF m b) (18:Int)) (br (decide (b < 1) || decide (32 < b)) (qI (QF m b) (2:Int)) (qI (QF m b) (0:Int))):=by
 unfold QF;simp only[aA]
 repeat' (first | (refine And.intro ?_ ?_) | (intro _))
 all_goals first | rfl | (simp_all;done) | (simp_all;omega) | grind
theorem VE:dA cZ.gd 17 WX:=
 rH (cx:=cZ) (n:=24) (cl:=[]) aO trivial Tryd.func17 λd hd=>by
  obtain⟨⟨m,b,⟨⟩⟩,⟨⟩⟩:=d;exact fQ (λ_=>none) (aag m b) (by kernel_rfl)
noncomputable abbrev aeg (vs:List VD) (ms cs:List ByteArray) (fs:List FD) (ts:List SD):Nat->Option (St->oO):=λk=>match k with
 | 3=>some λ_=>.rng { α:=Nat,res:=λn=>[(1,.blk 3 [.v (.int .i64 n)])],inv:=λi n=>n=i }
 | _=>none
theorem acA(vs:List VD) (ms cs:List ByteArray) (fs:List FD) (ts:List SD) (bD:sZ.pre ((vs,ms,cs,fs,ts,()),())):
 let z1:=bP vs ms cs fs ts;(fs.length<=1000000/\∀(x:FD),x∈fs->List.length x.snd.fst<=1000000)/\some Tryd.prog=some Tryd.prog/\(∃x:Nat,x=0/\[g0 z1,g0 (ay.blk 3 [v6 0])]=[g0 z1,g0 (ay.blk 3 [v6 (x:Int)])])/\(∀(i x:Nat) (d:eU.den×bg [I6.pair (I6.pair (I6.pair (I6.pair (I6.pair (I6.pair eU)))))]),x=i->(aT fs)[i]?=some d->iR ((x:Int)+(1:Int))/\∃x',x'=i+1/\[g0 z1,g0 (ay.blk 3 [v6 ((x:Int)+(1:Int))])]=[g0 z1,g0 (ay.blk 3 [v6 (x':Int)])])/\∀(x:Nat),x=aC (aT fs)->qI (↑(aT fs).length:Int) (x:Int):=by
 conv=>zeta
 delta iR;have hp:(aT fs).length<=1000000:=bD.1;refine⟨bD.2,rfl,⟨0,rfl,rfl⟩,λi x d hx hd=>?_,λx hx=>⟨rfl,by rw[hx,aK]⟩⟩
 subst hx;have hl:x < (aT fs).length:=(fM.1 hd).1;exact⟨aX.2 (by omega),x+1,rfl,rfl⟩
theorem QX:dA cZ.gd 9 sZ:=
 qW (cx:=cZ) (n:=11) (cl:=[(31,uZ)]) (rc:=[]) aO ⟨D7,trivial⟩ Tryd.func9 λd hd=>by
  obtain⟨⟨vs,ms,cs,fs,ts,⟨⟩⟩,⟨⟩⟩:=d;exact fQ (aeg vs ms cs fs ts) (acA vs ms cs fs ts hd) (by kernel_rfl)
theorem aah(vs:List VD) (ms cs:List ByteArray) (fs:List FD) (ts:List SD) (bD:QS.pre ((vs,ms,cs,fs,ts,()),())):
 let z1:=decide ((tu vs ms cs fs ts).fst=0);(bnd ((vs,ms,cs,fs,ts,()),()))/\qB z1 z1:=by
 conv=>zeta
 exact⟨bD,rfl,rfl⟩
theorem VF:dA cZ.gd 15 QS:=
 rH (cx:=cZ) (n:=14) (cl:=[(14,F8)]) aO ⟨D9,trivial⟩ Tryd.func15 λd hd=>by
  obtain⟨⟨vs,ms,cs,fs,ts,⟨⟩⟩,⟨⟩⟩:=d;exact fQ (λ_=>none) (aah vs ms cs fs ts hd) (by kernel_rfl)
noncomputable abbrev acB (vs:List VD) (ms cs:List ByteArray) (fs:List FD) (ts:List SD):Nat->Option (St->oO):=λk=>match k with
 | 6=>some λ_=>.inv { α:=Nat,slots:=λk=>[(25,.c (.v (.int .i64 k)))],res:=λk=>[(1,.blk 45 [.sl (.int .i64) (jd (ts.take k))])],inv:=λk=>k<=ts.length,meas:=λk=>ts.length - k,nil:=[(7,45,.int .i64)] }
 | 10=>some λ_=>.inv { α:=List Int,slots:=λ_=>[],res:=λl=>[(1,.blk 45 [.sl (.int .i64) l])],inv:=λl=>SS l/\(∀x∈l,0<=x/\x < fs.length)/\∃n,fs.length < n+l.length/\iU (fs.length+1) fs (jd ts)=iU n fs l,meas:=λl=>fs.length - l.length }
 | 14=>some λs=>.rng { α:=Nat,res:=λn=>[(2,.blk 45 [.sl (.int .i64) (jy (slotL (.int .i64) s 34) ((aT fs).take n))])],inv:=λi n=>n=i }
 | _=>none
theorem aai(vs:List VD) (ms cs:List ByteArray) (fs:List FD) (ts:List SD) (bD:QW.pre ((vs,ms,cs,fs,ts,()),())):
 let z1:=[SV.c (SC.sl I6 (wF vs ms cs fs ts).fst),cI ((wF vs ms cs fs ts).snd)];let z3:=bP vs ms cs fs ts;let z2:=λ(x_1:List Int) (x_2:Nat)=>jy x_1 (List.take x_2 (aT fs));(bnd ((vs,ms,cs,fs,ts,()),()))/\br (!decide ((tu vs ms cs fs ts).fst=0)) (rT z1 [SV.c (SC.sl I6 []),cI ((tu vs ms cs fs ts).fst)]) ((∃x,x<=ts.length/\(cI 0=cI (x:Int)/\True)/\[g0 z3,g0 (ay.blk 45 [SC.sl I6 []])]=[g0 z3,g0 (ay.blk 45 [SC.sl I6 (jd (List.take x ts))])])/\∀(x:Nat),x<=ts.length->br (decide ((x:Int) < (ts.length:Int))) ((0<=(x:Int)/\(x:Int) < (ts.length:Int))/\∀(d:Int×(I6.pair Sh.unit).den),ts[(x:Int).toNat]?=some d->(jd (List.take x ts)).length<=999999/\iR ((x:Int)+(1:Int))/\∃x',x'<=ts.length/\(cI ((x:Int)+(1:Int))=cI (x':Int)/\True)/\[g0 z3,g0 (ay.blk 45 [SC.sl I6 (ig (jd (List.take x ts)++[d.fst]))])]=[g0 z3,g0 (ay.blk 45 [SC.sl I6 (jd (List.take x' ts))])]/\ts.length - x' < ts.length - x) ((∃x_1,(SS x_1/\(∀(x:Int),x∈x_1->0<=x/\x < (fs.length:Int))/\∃n,fs.length < n+List.length x_1/\iU (fs.length+1) fs (jd ts)=iU n fs x_1)/\True/\[g0 z3,g0 (ay.blk 45 [SC.sl I6 (jd (List.take x ts))])]=[g0 z3,g0 (ay.blk 45 [SC.sl I6 x_1])])/\∀(x_1:List Int),(SS x_1/\(∀(x:Int),x∈x_1->0<=x/\x < (fs.length:Int))/\∃n,fs.length < n+x_1.length/\iU (fs.length+1) fs (jd ts)=iU n fs x_1)->(fs.length<=1000000/\∀(x:FD),x∈fs->List.length x.snd.fst<=1000000)/\some Tryd.prog=some Tryd.prog/\(∃x,x=0/\[g0 z3,g0 (ay.blk 45 [SC.sl I6 x_1]),g0 (ay.blk 45 [SC.sl I6 x_1])]=[g0 z3,g0 (ay.blk 45 [SC.sl I6 x_1]),g0 (ay.blk 45 [SC.sl I6 (jy x_1 (List.take x (aT fs)))])])/\(∀(i x_2:Nat) (d:eU.den×bg [I6.pair (I6.pair (I6.pair (I6.pair (I6.pair (I6.pair eU)))))]),x_2=i->(aT fs)[i]?=some d->(decide (d.snd.fst.fst=21)=true->x_1.length<=1000000)/\br (decide (d.snd.fst.fst=21) && lC x_1 d.fst.fst) ((z2 x_1 x_2).length<=999999/\∃x',x'=i+1/\[g0 z3,g0 (ay.blk 45 [SC.sl I6 x_1]),g0 (ay.blk 45 [SC.sl I6 (ig (jy x_1 (List.take x_2 (aT fs))++[d.snd.fst.snd.snd.snd.snd.fst]))])]=[g0 z3,g0 (ay.blk 45 [SC.sl I6 x_1]),g0 (ay.blk 45 [SC.sl I6 (jy x_1 (List.take x' (aT fs)))])]) (∃x',x'=i+1/\[g0 z3,g0 (ay.blk 45 [SC.sl I6 x_1]),g0 (ay.blk 45 [SC.sl I6 (z2 x_1 x_2)])]=[g0 z3,g0 (ay.blk 45 [SC.sl I6 x_1]),g0 (ay.blk 45 [SC.sl I6 (jy x_1 (List.take x' (aT fs)))])]))/\∀(x:Nat),x=aC (aT fs)->br (decide ((↑(z2 x_1 x).length:Int)=(x_1.length:Int))) (rT z1 [SV.c (SC.sl I6 x_1),cI 0]) (∃x',(SS x'/\(∀(x:Int),x∈x'->0<=x/\x < (fs.length:Int))/\∃n,fs.length < n+List.length x'/\iU (fs.length+1) fs (jd ts)=iU n fs x')/\True/\[g0 z3,g0 (ay.blk 45 [SC.sl I6 (z2 x_1 x)])]=[g0 z3,g0 (ay.blk 45 [SC.sl I6 x'])]/\fs.length - List.length x' < fs.length - x_1.length))):=by
 conv=>zeta
 delta iR;have hb:bnd ((vs,ms,cs,fs,ts,()),()):=bD;refine⟨bD,aA.2 ⟨λh=>?_,λh=>?_⟩⟩
 .have h:(tu vs ms cs fs ts).1≠0:=by simpa using h
  unfold wF;rw[if_pos h];exact⟨rfl,rfl⟩
 have he:(tu vs ms cs fs ts).1=0:=by simpa using h
 obtain⟨c1,c2,c3⟩:=QV he;have hf:=Z9 c1;have hts:ts.length<=1000000:=hb.2.2.2.2.1;have hce:=Z8 c2;have hth:=aae c3;have hob:∀d∈aT fs,d.2.1.1=21->0<=d.2.1.2.2.2.2.1/\d.2.1.2.2.2.2.1 < (fs.length:Int):=λd hd h2=>aad (hce d hd) h2
 have hin:∀k,SS (jd (ts.take k))/\∀y∈jd (ts.take k),0<=y/\y < (fs.length:Int):=λk=>F9 (ts.take k) [] List.Pairwise.nil (λy hy=>by cases hy) λt ht=>hth t (List.mem_of_mem_take ht)
 have hil:∀k,(jd (ts.take k)).length<=8:=λk=>nV (vw (hin k).1 (hin k).2) hf
 refine⟨⟨0,by omega,⟨rfl,trivial⟩,rfl⟩,λk hk=>aA.2 ⟨λh=>?_,λh=>?_⟩⟩
 .simp only[jB]at h;have hN:(k:Int).toNat=k:=by omega
  rw[hN];have:=hil k;refine⟨by omega,λd hd=>⟨by omega,aX.2 (by omega),k+1,by omega,⟨rfl,trivial⟩,?_,by omega⟩⟩
  rw[Nj hd]
 simp only[qx]at h;have ht:ts.take k=ts:=Gh (by omega)
 have hi0:=hin k;rw[ht]at hi0;rw[ht];refine⟨⟨jd ts,⟨hi0.1,hi0.2,fs.length+1,by omega,rfl⟩,trivial,rfl⟩,λl hl=>?_⟩
 obtain⟨l1,l2,n,l3,l4⟩:=hl;have ll:=vw l1 l2;have hst:∀k,SS (jy l ((aT fs).take k))/\(∀y∈jy l ((aT fs).take k),0<=y/\y < (fs.length:Int))/\l.length<=(jy l ((aT fs).take k)).length:=λk=>zN (l:=l) _ l l1 l2 λd hd=>hob d (List.mem_of_mem_take hd)
 have hsl:∀k,(jy l ((aT fs).take k)).length<=8:=λk=>nV (vw (hst k).1 (hst k).2.1) hf
 refine⟨⟨hb.2.2.2.1,hb.2.2.2.2.2.1⟩,rfl,⟨0,rfl,rfl⟩,λi x d hx hd=>?_,λx hx=>?_⟩
 .subst hx;have:=hsl x;refine⟨λ_=>by omega,aA.2 ⟨λh2=>⟨by omega,x+1,rfl,?_⟩,λh2=>⟨x+1,rfl,?_⟩⟩⟩
  .have h2:d.2.1.1=21/\lC l d.1.1=true:=by simpa using h2
   rw[BL hd,if_pos h2]
  .have h2:¬(d.2.1.1=21/\lC l d.1.1=true):=by
    intro hh;rw[hh.2,Sl hh.1]at h2;cases h2
   rw[BL hd,if_neg h2]
 .have hx:(aT fs).take x=aT fs:=by rw[hx,aK,KF]
  rw[hx];have hs:=hst (aT fs).length;have hs8:=hsl (aT fs).length;rw[KF]at hs hs8;obtain⟨m,rfl⟩:∃m,n=m+1:=⟨n - 1,by omega⟩
  refine aA.2 ⟨λh2=>?_,λh2=>?_⟩
  .have h2:(jy l (aT fs)).length=l.length:=by simp at h2;omega
   unfold wF;rw[if_neg (by rw[he];simp),l4]
   unfold iU;rw[if_pos h2];exact⟨rfl,rfl⟩
  .have h2:¬(jy l (aT fs)).length=l.length:=by simp at h2;omega
   have hss:=vw hs.1 hs.2.1;have hlN:=hs.2.2;refine⟨jy l (aT fs),⟨hs.1,hs.2.1,m,by omega,?_⟩,trivial,rfl,by omega⟩
   rw[l4];show iU (m+1) fs l=_;rw[iU,if_neg h2]
theorem VG:dA cZ.gd 12 QW:=
 qW (cx:=cZ) (n:=59) (cl:=[(14,F8),(31,uZ),(33,QD),(32,QU)]) (rc:=[.data (.sl (.int .i64)),.keep]) aO ⟨D9,D7,Vj,Nh,trivial⟩ Tryd.func12 λd hd=>by
  obtain⟨⟨vs,ms,cs,fs,ts,⟨⟩⟩,⟨⟩⟩:=d;exact fQ (acB vs ms cs fs ts) (aai vs ms cs fs ts hd) (by kernel_rfl)
def exD(t:Int):PD:=([],[],[],[(⟨#[102]⟩,[(21,1,0,0,1,0,0,0,())],()),(⟨#[103]⟩,[(7,0,0,0,0,0,0,0,()),(4,0,0,0,0,t,0,0,())],())],[(0,0,())],())
abbrev acC:CT:={ ps:=[.int .i64],pre:=λd=>True,res:=λd=>([],.one (fO wU (exD d.1))) }
abbrev kq1:=({ data:=#[(102:UInt8)]:ByteArray },[((21:Int),(1:Int),(0:Int),(0:Int),(1:Int),(0:Int),(0:Int),(0:Int),())],())
abbrev kq2:=((7:Int),(0:Int),(0:Int),(0:Int),(0:Int),(0:Int),(0:Int),(0:Int),())
theorem aaj(t:Int):
 let z1:=bK.one (SV.agg [SC.sl ku [],SC.sl Sh.str [],SC.sl Sh.str [],SC.sl iH [kq1,({ data:=#[(103:UInt8)]:ByteArray },[kq2,((4:Int),(0:Int),(0:Int),(0:Int),(0:Int),t,(0:Int),(0:Int),())],())],SC.sl eU [((0:Int),(0:Int),())]]);rE z1 z1:=by
 conv=>zeta
 delta kq1 kq2;exact⟨rfl,rfl⟩
theorem VH:dA cZ.gd 13 acC:=
 qW (cx:=cZ) (n:=19) (cl:=[]) (rc:=[.data wU]) aO trivial Tryd.func13 λd hd=>by
  obtain⟨t,⟨⟩⟩:=d;exact fQ (λ_=>none) (aaj t) (by kernel_rfl)
theorem QY:iU 3 [(⟨#[102]⟩,[(21,1,0,0,1,0,0,0,())],()),(⟨#[103]⟩,[(7,0,0,0,0,0,0,0,()),(4,0,0,0,0,2,0,0,())],())] (jd [(0,0,())])=[0,1]:=by decide
abbrev WZ:CT:={ ps:=[],pre:=λ_=>True,res:=λ_=>([],vB true) }
noncomputable abbrev aeh  : Nat->Option (St->oO):=λ_=>none
theorem acD :
 let z2:=[kq1,({ data:=#[(103:UInt8)]:ByteArray },[kq2,((4:Int),(0:Int),(0:Int),(0:Int),(0:Int),(2:Int),(0:Int),(0:Int),())],())];let z1:=iU 3 z2 (jd [((0:Int),(0:Int),())]);let z5:=λ(d bV:Int)=>true && decide (d=0) && decide (bV=(1:Int)) && true && true && true;let z3:=[kq1,({ data:=#[(103:UInt8)]:ByteArray },[kq2,((4:Int),(0:Int),(0:Int),(0:Int),(0:Int),(0:Int),(0:Int),(0:Int),())],())];let z4:=λ(d bV:Int)=>true && decide (d=0) && decide (bV=(1:Int)) && true && true && true && true && true;True/\(0<=1000000/\0<=1000000/\0<=1000000/\2<=1000000/\1<=1000000/\(∀(x:FD),x∈z2->List.length x.snd.fst<=1000000)/\3<=1000000)/\True/\(0<=1000000/\0<=1000000/\0<=1000000/\2<=1000000/\1<=1000000/\(∀(x:FD),x∈[kq1,({ data:=#[(103:UInt8)]:ByteArray },[kq2,((4:Int),(0:Int),(0:Int),(0:Int),(0:Int),(3:Int),(0:Int),(0:Int),())],())]->List.length x.snd.fst<=1000000)/\3<=1000000)/\(true=true->(0:Int)<=(0:Int)/\(0:Int) < (2:Int))/\∀(d:Int),(true=true->z1[0]?=some d)->((true && decide (d=0))=true->(0:Int)<=(1:Int)/\(1:Int) < (2:Int))/\∀(bV:Int),((true && decide (d=0))=true->z1[1]?=some bV)->((z5 d bV)=true->True)/\((z5 d bV)=true->0<=1000000/\0<=1000000/\0<=1000000/\2<=1000000/\1<=1000000/\(∀(x:FD),x∈z3->List.length x.snd.fst<=1000000)/\3<=1000000)/\((true && decide (d=0) && decide (bV=(1:Int)) && true && true && true && true)=true->True)/\((z4 d bV)=true->True)/\((z4 d bV)=true->3<=1000000/\2<=1000000/\∀(x:FD),x∈z3->List.length x.snd.fst<=1000000)/\((true && decide (d=0) && decide (bV=(1:Int)) && true && true && true && true && true && true)=true->True)/\qB true (true && decide (d=0) && decide (bV=(1:Int)) && true && true && true && true && true && true && true):=by
 conv=>zeta
 delta kq1 kq2;have e:=QY;simp[e];exact⟨rfl,rfl⟩
theorem aak:dA cZ.gd 5 WZ:=
 rH (cx:=cZ) (n:=65) (cl:=[(13,acC),(12,QW),(14,F8),(15,QS),(16,ZM),(9,sZ),(17,WX)]) aO ⟨VH,VG,D9,VF,Ku,QX,VE,trivial⟩ Tryd.func5 λd hd=>by
  obtain⟨⟩:=d;exact fQ (aeh ) (acD ) (by kernel_rfl)
open Classical in
noncomputable def gG {α:Type} (a b:α):Bool:=decide (a=b)
theorem jL{a b:α}:gG a b=true↔a=b:=by unfold gG;exact @decide_eq_true_iff _ (Classical.propDecidable _)
theorem iE{a b:α} (h:a≠b):gG a b=false:=Bool.eq_false_iff.2 λq=>h (jL.1 q)
theorem IV{a b:ByteArray}:(a == b)=decide (a=b):=by
 rw[Xf,decide_eq_true_iff];obtain⟨x⟩:=a;obtain⟨y⟩:=b;show(x == y)=true↔_;rw[qy];exact⟨λh=>by rw[h],λh=>by injection h⟩
theorem fB{a b:α} (h:a=b):gG a b=true:=jL.2 h
noncomputable abbrev QZ:CT:={ ps:=[.sl ku,.sl ku],pre:=λd=>d.1.length<=1000000,res:=λd=>([],vB (gG d.1 d.2.1)) }
noncomputable abbrev acE (l m:List VD):Nat->Option (St->oO):=λk=>match k with
 | 4=>some λ_=>.inv { α:=Nat,slots:=λk=>[(13,.c (.v (.int .i64 k)))],res:=λk=>[],inv:=λk=>k<=(l).length/\∀j < k,l[j]?=m[j]?,meas:=λk=>(l).length - k }
 | _=>none
theorem aal(l m:List VD) (bD:QZ.pre (l,m,())):
 let z1:=λ(x:Nat)=>(x<=l.length/\∀(j:Nat),j < x->l[j]?=m[j]?);br (!decide ((l.length:Int)=(m.length:Int))) (qB (gG l m) false) ((∃x,(z1 x)/\(cI 0=cI (x:Int)/\True)/\([]:List pq)=[])/\∀(x:Nat),(z1 x)->br (decide ((x:Int) < (l.length:Int))) ((0<=(x:Int)/\(x:Int) < (l.length:Int))/\∀(d:VD),l[(x:Int).toNat]?=some d->(0<=(x:Int)/\(x:Int) < (m.length:Int))/\∀(bV:VD),m[(x:Int).toNat]?=some bV->br (!(true && d.fst == bV.fst && d.snd.fst == bV.snd.fst)) (qB (gG l m) false) (iR ((x:Int)+(1:Int))/\∃x',(z1 x')/\(cI ((x:Int)+(1:Int))=cI (x':Int)/\True)/\([]:List pq)=[]/\l.length - x' < l.length - x)) (qB (gG l m) true)):=by
 conv=>zeta
 delta pq iR;have hp:l.length<=1000000:=bD;have fF:l≠m->qB (gG l m) false:=λq=>⟨rfl,by rw[iE q]⟩
 refine aA.2 ⟨λh=>fF λq=>?_,λh=>?_⟩
 .subst q;simp at h
 simp only[Nr,jB]at h;refine⟨⟨0,⟨by omega,λj hj=>by omega⟩,⟨rfl,trivial⟩,rfl⟩,λk hk=>aA.2 ⟨λg=>?_,λg=>?_⟩⟩
 .simp only[jB]at g;refine⟨⟨by omega,by omega⟩,λd hd=>⟨⟨by omega,by omega⟩,λd1 hd1=>aA.2 ⟨λg2=>fF λq=>?_,λg2=>⟨aX.2 (by omega),k+1,⟨by omega,λj hj=>?_⟩,⟨rfl,trivial⟩,rfl,by omega⟩⟩⟩⟩
  .subst q;rw[hd]at hd1;cases hd1;simp[IV]at g2
  .by_cases kJ:j=k
   .subst kJ;have hd:l[j]?=some d:=hd;have hd1:m[j]?=some d1:=hd1;have g2:d=d1:=by
     obtain⟨x,y,⟨⟩⟩:=d;obtain⟨x1,y1,⟨⟩⟩:=d1;simpa[IV]using g2
    rw[hd,hd1,g2]
   .exact hk.2 j (by omega)
 simp only[qx]at g;have e:l=m:=by
  apply zT;intro j
  by_cases hj:j < k
  .exact hk.2 j hj
  .rw[wV (by omega),wV (by omega)]
 exact⟨rfl,by rw[fB e]⟩
theorem VI:dA cZ.gd 27 QZ:=
 qW (cx:=cZ) (n:=26) (cl:=[]) (rc:=[]) aO trivial Tryd.func27 λd hd=>by
  obtain⟨l,m,⟨⟩⟩:=d;exact fQ (acE l m) (aal l m hd) (by kernel_rfl)
noncomputable abbrev BN:CT:={ ps:=[.sl .str,.sl .str],pre:=λd=>d.1.length<=1000000,res:=λd=>([],vB (gG d.1 d.2.1)) }
noncomputable abbrev acF (l m:List ByteArray):Nat->Option (St->oO):=λk=>match k with
 | 4=>some λ_=>.inv { α:=Nat,slots:=λk=>[(13,.c (.v (.int .i64 k)))],res:=λk=>[],inv:=λk=>k<=(l).length/\∀j < k,l[j]?=m[j]?,meas:=λk=>(l).length - k }
 | _=>none
theorem aam(l m:List ByteArray) (bD:BN.pre (l,m,())):
 let z1:=λ(x:Nat)=>(x<=l.length/\∀(j:Nat),j < x->l[j]?=m[j]?);br (!decide ((l.length:Int)=(m.length:Int))) (qB (gG l m) false) ((∃x,(z1 x)/\(cI 0=cI (x:Int)/\True)/\([]:List pq)=[])/\∀(x:Nat),(z1 x)->br (decide ((x:Int) < (l.length:Int))) ((0<=(x:Int)/\(x:Int) < (l.length:Int))/\∀(d:ByteArray),l[(x:Int).toNat]?=some d->(0<=(x:Int)/\(x:Int) < (m.length:Int))/\∀(bV:ByteArray),m[(x:Int).toNat]?=some bV->br (!decide (d=bV)) (qB (gG l m) false) (iR ((x:Int)+(1:Int))/\∃x',(z1 x')/\(cI ((x:Int)+(1:Int))=cI (x':Int)/\True)/\([]:List pq)=[]/\l.length - x' < l.length - x)) (qB (gG l m) true)):=by
 conv=>zeta
 delta pq iR;have hp:l.length<=1000000:=bD;have fF:l≠m->qB (gG l m) false:=λq=>⟨rfl,by rw[iE q]⟩
 refine aA.2 ⟨λh=>fF λq=>?_,λh=>?_⟩
 .subst q;simp at h
 simp only[Nr,jB]at h;refine⟨⟨0,⟨by omega,λj hj=>by omega⟩,⟨rfl,trivial⟩,rfl⟩,λk hk=>aA.2 ⟨λg=>?_,λg=>?_⟩⟩
 .simp only[jB]at g;refine⟨⟨by omega,by omega⟩,λd hd=>⟨⟨by omega,by omega⟩,λd1 hd1=>aA.2 ⟨λg2=>fF λq=>?_,λg2=>⟨aX.2 (by omega),k+1,⟨by omega,λj hj=>?_⟩,⟨rfl,trivial⟩,rfl,by omega⟩⟩⟩⟩
  .subst q;rw[hd]at hd1;cases hd1;simp[IV]at g2
  .by_cases kJ:j=k
   .subst kJ;have hd:l[j]?=some d:=hd;have hd1:m[j]?=some d1:=hd1;have g2:d=d1:=by simpa using g2
    rw[hd,hd1,g2]
   .exact hk.2 j (by omega)
 simp only[qx]at g;have e:l=m:=by
  apply zT;intro j
  by_cases hj:j < k
  .exact hk.2 j hj
  .rw[wV (by omega),wV (by omega)]
 exact⟨rfl,by rw[fB e]⟩
theorem VJ:dA cZ.gd 28 BN:=
 qW (cx:=cZ) (n:=26) (cl:=[]) (rc:=[]) aO trivial Tryd.func28 λd hd=>by
  obtain⟨l,m,⟨⟩⟩:=d;exact fQ (acF l m) (aam l m hd) (by kernel_rfl)
noncomputable abbrev Q5:CT:={ ps:=[.sl eU,.sl eU],pre:=λd=>d.1.length<=1000000,res:=λd=>([],vB (gG d.1 d.2.1)) }
noncomputable abbrev acG (l m:List SD):Nat->Option (St->oO):=λk=>match k with
 | 4=>some λ_=>.inv { α:=Nat,slots:=λk=>[(13,.c (.v (.int .i64 k)))],res:=λk=>[],inv:=λk=>k<=(l).length/\∀j < k,l[j]?=m[j]?,meas:=λk=>(l).length - k }
 | _=>none
theorem aan(l m:List SD) (bD:Q5.pre (l,m,())):
 let z1:=λ(x:Nat)=>(x<=l.length/\∀(j:Nat),j < x->l[j]?=m[j]?);br (!decide ((l.length:Int)=(m.length:Int))) (qB (gG l m) false) ((∃x,(z1 x)/\(cI 0=cI (x:Int)/\True)/\([]:List pq)=[])/\∀(x:Nat),(z1 x)->br (decide ((x:Int) < (l.length:Int))) ((0<=(x:Int)/\(x:Int) < (l.length:Int))/\∀(d:Int×(I6.pair Sh.unit).den),l[(x:Int).toNat]?=some d->(0<=(x:Int)/\(x:Int) < (m.length:Int))/\∀(bV:Int×(I6.pair Sh.unit).den),m[(x:Int).toNat]?=some bV->br (!(true && d.fst == bV.fst && d.snd.fst == bV.snd.fst)) (qB (gG l m) false) (iR ((x:Int)+(1:Int))/\∃x',(z1 x')/\(cI ((x:Int)+(1:Int))=cI (x':Int)/\True)/\([]:List pq)=[]/\l.length - x' < l.length - x)) (qB (gG l m) true)):=by
 conv=>zeta
 delta pq iR;have hp:l.length<=1000000:=bD;have fF:l≠m->qB (gG l m) false:=λq=>⟨rfl,by rw[iE q]⟩
 refine aA.2 ⟨λh=>fF λq=>?_,λh=>?_⟩
 .subst q;simp at h
 simp only[Nr,jB]at h;refine⟨⟨0,⟨by omega,λj hj=>by omega⟩,⟨rfl,trivial⟩,rfl⟩,λk hk=>aA.2 ⟨λg=>?_,λg=>?_⟩⟩
 .simp only[jB]at g;refine⟨⟨by omega,by omega⟩,λd hd=>⟨⟨by omega,by omega⟩,λd1 hd1=>aA.2 ⟨λg2=>fF λq=>?_,λg2=>⟨aX.2 (by omega),k+1,⟨by omega,λj hj=>?_⟩,⟨rfl,trivial⟩,rfl,by omega⟩⟩⟩⟩
  .subst q;rw[hd]at hd1;cases hd1;simp[IV]at g2
  .by_cases kJ:j=k
   .subst kJ;have hd:l[j]?=some d:=hd;have hd1:m[j]?=some d1:=hd1;have g2:d=d1:=by
     obtain⟨x,y,⟨⟩⟩:=d;obtain⟨x1,y1,⟨⟩⟩:=d1;simpa using g2
    rw[hd,hd1,g2]
   .exact hk.2 j (by omega)
 simp only[qx]at g;have e:l=m:=by
  apply zT;intro j
  by_cases hj:j < k
  .exact hk.2 j hj
  .rw[wV (by omega),wV (by omega)]
 exact⟨rfl,by rw[fB e]⟩
theorem VK:dA cZ.gd 30 Q5:=
 qW (cx:=cZ) (n:=26) (cl:=[]) (rc:=[]) aO trivial Tryd.func30 λd hd=>by
  obtain⟨l,m,⟨⟩⟩:=d;exact fQ (acG l m) (aan l m hd) (by kernel_rfl)
noncomputable abbrev Q7:CT:={ ps:=[.sl iD,.sl iD],pre:=λd=>d.1.length<=1000000,res:=λd=>([],vB (gG d.1 d.2.1)) }
noncomputable abbrev acH (l m:List ID):Nat->Option (St->oO):=λk=>match k with
 | 4=>some λ_=>.inv { α:=Nat,slots:=λk=>[(13,.c (.v (.int .i64 k)))],res:=λk=>[],inv:=λk=>k<=(l).length/\∀j < k,l[j]?=m[j]?,meas:=λk=>(l).length - k }
 | _=>none
theorem aao(l m:List ID) (bD:Q7.pre (l,m,())):
 let z1:=λ(x:Nat)=>(x<=l.length/\∀(j:Nat),j < x->l[j]?=m[j]?);br (!decide ((l.length:Int)=(m.length:Int))) (qB (gG l m) false) ((∃x,(z1 x)/\(cI 0=cI (x:Int)/\True)/\([]:List pq)=[])/\∀(x:Nat),(z1 x)->br (decide ((x:Int) < (l.length:Int))) ((0<=(x:Int)/\(x:Int) < (l.length:Int))/\∀(d:ID),l[(x:Int).toNat]?=some d->(0<=(x:Int)/\(x:Int) < (m.length:Int))/\∀(bV:ID),m[(x:Int).toNat]?=some bV->br (!(true && d.fst == bV.fst && d.snd.fst == bV.snd.fst && d.snd.snd.fst == bV.snd.snd.fst && d.snd.snd.snd.fst == bV.snd.snd.snd.fst && d.snd.snd.snd.snd.fst == bV.snd.snd.snd.snd.fst && d.snd.snd.snd.snd.snd.fst == bV.snd.snd.snd.snd.snd.fst && d.snd.snd.snd.snd.snd.snd.fst == bV.snd.snd.snd.snd.snd.snd.fst && d.snd.snd.snd.snd.snd.snd.snd.fst == bV.snd.snd.snd.snd.snd.snd.snd.fst)) (qB (gG l m) false) (iR ((x:Int)+(1:Int))/\∃x',(z1 x')/\(cI ((x:Int)+(1:Int))=cI (x':Int)/\True)/\([]:List pq)=[]/\l.length - x' < l.length - x)) (qB (gG l m) true)):=by
 conv=>zeta
 delta pq iR;have hp:l.length<=1000000:=bD;have fF:l≠m->qB (gG l m) false:=λq=>⟨rfl,by rw[iE q]⟩
 refine aA.2 ⟨λh=>fF λq=>?_,λh=>?_⟩
 .subst q;simp at h
 simp only[Nr,jB]at h;refine⟨⟨0,⟨by omega,λj hj=>by omega⟩,⟨rfl,trivial⟩,rfl⟩,λk hk=>aA.2 ⟨λg=>?_,λg=>?_⟩⟩
 .simp only[jB]at g;refine⟨⟨by omega,by omega⟩,λd hd=>⟨⟨by omega,by omega⟩,λd1 hd1=>aA.2 ⟨λg2=>fF λq=>?_,λg2=>⟨aX.2 (by omega),k+1,⟨by omega,λj hj=>?_⟩,⟨rfl,trivial⟩,rfl,by omega⟩⟩⟩⟩
  .subst q;rw[hd]at hd1;cases hd1;simp[IV]at g2
  .by_cases kJ:j=k
   .subst kJ;have hd:l[j]?=some d:=hd;have hd1:m[j]?=some d1:=hd1;have g2:d=d1:=by
     obtain⟨x1,x2,x3,x4,x5,x6,x7,x8,⟨⟩⟩:=d;obtain⟨y1,y2,y3,y4,y5,y6,y7,y8,⟨⟩⟩:=d1;simpa[and_assoc]using g2
    rw[hd,hd1,g2]
   .exact hk.2 j (by omega)
 simp only[qx]at g;have e:l=m:=by
  apply zT;intro j
  by_cases hj:j < k
  .exact hk.2 j hj
  .rw[wV (by omega),wV (by omega)]
 exact⟨rfl,by rw[fB e]⟩
theorem VL:dA cZ.gd 26 Q7:=
 qW (cx:=cZ) (n:=26) (cl:=[]) (rc:=[]) aO trivial Tryd.func26 λd hd=>by
  obtain⟨l,m,⟨⟩⟩:=d;exact fQ (acH l m) (aao l m hd) (by kernel_rfl)
noncomputable abbrev BO:CT:={ ps:=[iH,iH],pre:=λd=>d.1.2.1.length<=1000000,res:=λd=>([],vB (gG d.1 d.2.1)) }
theorem aap(nm:ByteArray) (l:List ID) (Gg:ByteArray) (l2:List ID) (bD:BO.pre ((nm,l,()),(Gg,l2,()),())):
 (decide (nm=Gg)=true->l.length<=1000000)/\qB (gG (nm,l,()) (Gg,l2,())) (decide (nm=Gg) && gG l l2):=by
 have hp:l.length<=1000000:=bD;refine⟨λ_=>hp,⟨rfl,?_⟩⟩
 congr 4
 rw[Xf,jL];simp only[RU,A8,jB,qy,jL];constructor
 .rintro⟨h1,h2,_⟩;exact⟨h1,h2⟩
 .rintro⟨h1,h2⟩;exact⟨h1,h2,trivial⟩
theorem VN:dA cZ.gd 25 BO:=
 qW (cx:=cZ) (n:=17) (cl:=[(26,Q7)]) (rc:=[]) aO ⟨VL,trivial⟩ Tryd.func25 λd hd=>by
  obtain⟨⟨nm,l,⟨⟩⟩,⟨Gg,l2,⟨⟩⟩,⟨⟩⟩:=d;exact fQ (λ_=>none) (aap nm l Gg l2 hd) (by kernel_rfl)
noncomputable abbrev W9:CT:={ ps:=[.sl iH,.sl iH],pre:=λd=>d.1.length<=1000000/\∀q∈d.1,q.2.1.length<=1000000,res:=λd=>([],vB (gG d.1 d.2.1)) }
noncomputable abbrev acI (l m:List FD):Nat->Option (St->oO):=λk=>match k with
 | 4=>some λ_=>.inv { α:=Nat,slots:=λk=>[(17,.c (.v (.int .i64 k)))],res:=λk=>[],inv:=λk=>k<=(l).length/\∀j < k,l[j]?=m[j]?,meas:=λk=>(l).length - k }
 | _=>none
theorem aaq(l m:List FD) (bD:W9.pre (l,m,())):
 let z1:=λ(x:Nat)=>(x<=l.length/\∀(j:Nat),j < x->l[j]?=m[j]?);br (!decide ((l.length:Int)=(m.length:Int))) (qB (gG l m) false) ((∃x,(z1 x)/\(cI 0=cI (x:Int)/\True)/\([]:List pq)=[])/\∀(x:Nat),(z1 x)->br (decide ((x:Int) < (l.length:Int))) ((0<=(x:Int)/\(x:Int) < (l.length:Int))/\∀(d:FD),l[(x:Int).toNat]?=some d->(0<=(x:Int)/\(x:Int) < (m.length:Int))/\∀(bV:FD),m[(x:Int).toNat]?=some bV->List.length d.snd.fst<=1000000/\br (!gG d bV) (qB (gG l m) false) (iR ((x:Int)+(1:Int))/\∃x',(z1 x')/\(cI ((x:Int)+(1:Int))=cI (x':Int)/\True)/\([]:List pq)=[]/\l.length - x' < l.length - x)) (qB (gG l m) true)):=by
 conv=>zeta
 delta pq iR;obtain⟨hp,h6⟩:l.length<=1000000/\∀q∈l,q.2.1.length<=1000000:=bD;have fF:l≠m->qB (gG l m) false:=λq=>⟨rfl,by rw[iE q]⟩
 refine aA.2 ⟨λh=>fF λq=>?_,λh=>?_⟩
 .subst q;simp at h
 simp only[Nr,jB]at h;refine⟨⟨0,⟨by omega,λj hj=>by omega⟩,⟨rfl,trivial⟩,rfl⟩,λk hk=>aA.2 ⟨λg=>?_,λg=>?_⟩⟩
 .simp only[jB]at g;refine⟨⟨by omega,by omega⟩,λd hd=>⟨⟨by omega,by omega⟩,λd1 hd1=>⟨h6 d (lI hd),aA.2 ⟨λg2=>fF λq=>?_,λg2=>⟨aX.2 (by omega),k+1,⟨by omega,λj hj=>?_⟩,⟨rfl,trivial⟩,rfl,by omega⟩⟩⟩⟩⟩
  .subst q;rw[hd]at hd1;cases hd1;rw[fB rfl]at g2;cases g2
  .by_cases kJ:j=k
   .subst kJ;have hd:l[j]?=some d:=hd;have hd1:m[j]?=some d1:=hd1;have g2:=jL.1 (show gG d d1=true by simpa using g2)
    rw[hd,hd1,g2]
   .exact hk.2 j (by omega)
 simp only[qx]at g;have e:l=m:=by
  apply zT;intro j
  by_cases hj:j < k
  .exact hk.2 j hj
  .rw[wV (by omega),wV (by omega)]
 exact⟨rfl,by rw[fB e]⟩
theorem Q8:FQ Tryd.prog cZ.gd 29 [.func (.func 25) #[] #[]] W9:=
 (uV (cx:=cZ) (n:=32) (cl:=[(25,BO)]) (il:=Qy) (hl:=hlN) (ml:=mlN) (rc:=[]) (lits:=[]) (suf:=[.func (.func 25) #[] #[]]) (by kernel_rfl) aO ⟨VN,trivial⟩ trivial trivial trivial Tryd.func29 (by kernel_rfl) (by kernel_rfl) rfl (by kernel_rfl) (by kernel_rfl) (by simp) λd hd=>by
  obtain⟨l,m,⟨⟩⟩:=d;exact fQ (acI l m) (aaq l m hd) (by kernel_rfl))
theorem Q9{P:Program}{gd:Nat->Option (Sigma Sh.den)}{f:Nat}{a b:Sh}{pre:bg [a,b]->Prop}{res:bg [a,b]->List Go.lZ.ay×bK}{x:Value} (m:FQ P gd f [x] { ps:=[a,b],pre:=pre,res:=res }):
 Go.lZ.Met P gd f { ps:=[a,b,.any],pre:=λd=>d.2.2.1=x/\pre (d.1,d.2.1,()),res:=λd=>res (d.1,d.2.1,()) }:=by
 refine⟨λd vs h B hw hg ha hp=>?_,m.2⟩
 obtain⟨d1,d2,d3,⟨⟩⟩:=d
 match vs,ha with
 | [v1,v2,v3],ha=>
   obtain⟨a1,a2,a3,_⟩:=ha;have e3:v3=d3:=a3.1.1;have ex:d3=x:=hp.1;subst e3;subst ex;have:=m.1 (d1,d2,()) [v1,v2] h B hw hg ⟨a1,a2,trivial⟩ hp.2;simpa using this
noncomputable abbrev Xa:CT:={ ps:=[.sl iH,.sl iH,.any],pre:=λd=>d.2.2.1=.func (.func 25) #[] #[]/\d.1.length<=1000000/\∀q∈d.1,q.2.1.length<=1000000,res:=λd=>([],vB (gG d.1 d.2.1)) }
theorem Rf:dA cZ.gd 29 Xa:=Q9 Q8
noncomputable abbrev BP:CT:={ ps:=[wU,wU],pre:=λd=>bnd (d.1,()),res:=λd=>([],vB (gG d.1 d.2.1)) }
theorem acJ(vs:List VD) (ms cs:List ByteArray) (fs:List FD) (ts:List SD) (vs2:List VD) (ms2 cs2:List ByteArray) (qX:List FD) (rO:List SD) (bD:BP.pre ((vs,ms,cs,fs,ts,()),(vs2,ms2,cs2,qX,rO,()),())):
 let z1:=gG (vs,ms,cs,fs,ts,()) (vs2,ms2,cs2,qX,rO,());vs.length<=1000000/\((!!gG vs vs2)=true->ms.length<=1000000)/\((!(!gG vs vs2 || !gG ms ms2))=true->cs.length<=1000000)/\br (!gG vs vs2 || !gG ms ms2 || !gG cs cs2) (qB z1 false) ((Value.func (Fn.func 25) #[] #[]=Value.func (Fn.func (25:FuncId)) #[] #[]/\fs.length<=1000000/\∀(q:FD),q∈fs->List.length q.snd.fst<=1000000)/\(gG fs qX=true->ts.length<=1000000)/\qB z1 (gG fs qX && gG ts rO)):=by
 conv=>zeta
 obtain⟨h1,h2,h3,h4,h5,h6,h7⟩:bnd ((vs,ms,cs,fs,ts,()),()):=bD;refine⟨h1,λ_=>h2,λ_=>h3,aA.2 ⟨λh=>⟨rfl,?_⟩,λh=>⟨⟨rfl,h4,h6⟩,λ_=>h5,⟨rfl,?_⟩⟩⟩⟩
 .have:gG ((vs,ms,cs,fs,ts,()):PD) (vs2,ms2,cs2,qX,rO,())=false:=iE λq=>by
   simp only[RU]at q;obtain⟨q1,q2,q3,q4,q5,_⟩:=q;subst q1 q2 q3;simp[fB]at h
  rw[this]
 .simp only[xP,Nr,jL]at h;obtain⟨⟨a,b⟩,c⟩:=h;have:gG ((vs,ms,cs,fs,ts,()):PD) (vs2,ms2,cs2,qX,rO,())=(gG fs qX && gG ts rO):=by
   rw[Xf,jL];simp only[RU,A8,jL];exact⟨λq=>⟨q.2.2.2.1,q.2.2.2.2.1⟩,λq=>⟨a,b,c,q.1,q.2,trivial⟩⟩
  rw[this]
theorem aar:dA cZ.gd 8 BP:=
 qW (cx:=cZ) (n:=41) (cl:=[(27,QZ),(28,BN),(30,Q5),(29,Xa)]) (rc:=[]) aO ⟨VI,VJ,VK,Rf,trivial⟩ Tryd.func8 λd hd=>by
  obtain⟨⟨vs,ms,cs,fs,ts,⟨⟩⟩,⟨vs2,ms2,cs2,qX,rO,⟨⟩⟩,⟨⟩⟩:=d;exact fQ (λ_=>none) (acJ vs ms cs fs ts vs2 ms2 cs2 qX rO hd) (by kernel_rfl)
abbrev Rh:CT:={ ps:=[.sl ku],pre:=λd=>d.1.length<=1000000,res:=λd=>([.row 42 ku d.1],.one (.c (.row 0))) }
theorem aas(l:List VD) (bD:Rh.pre (l,())):
 ∀(b:Bool),(b=true->l=[])->br b ([ay.row 42 ku l]=[ay.row 42 ku []]/\bK.one (SV.c (SC.row 0))=bK.one (SV.c (SC.row 0))) (jK (0+l.length) 24/\[ay.row 42 ku l]=[ay.row 42 ku ([]++l)]/\bK.one (SV.c (SC.row 0))=bK.one (SV.c (SC.row 0))):=by
 have hp:l.length<=1000000:=bD;intro b hb;refine aA.2 ⟨λh=>by rw[hb h];exact⟨rfl,rfl⟩,λh=>⟨?_,by simp,rfl⟩⟩
 rw[iM];omega
theorem VO:dA cZ.gd 18 Rh:=
 sV (il:=Qy) (rc:=[.row 42 ku]) (cx:=cZ) (n:=8) (cl:=[]) (by kernel_rfl) aO trivial trivial Tryd.func18 (by kernel_rfl) (by kernel_rfl) rfl (by kernel_rfl) (by kernel_rfl) λd hd=>by
  obtain⟨l,⟨⟩⟩:=d;exact fQ (λ_=>none) (aas l hd) (by kernel_rfl)
abbrev Ri:CT:={ ps:=[.sl .str],pre:=λd=>d.1.length<=1000000,res:=λd=>([.row 9 .str d.1],.one (.c (.row 0))) }
theorem aat(l:List ByteArray) (bD:Ri.pre (l,())):
 ∀(b:Bool),(b=true->l=[])->br b ([ay.row 9 Sh.str l]=[ay.row 9 Sh.str []]/\bK.one (SV.c (SC.row 0))=bK.one (SV.c (SC.row 0))) (jK (0+l.length) 16/\[ay.row 9 Sh.str l]=[ay.row 9 Sh.str ([]++l)]/\bK.one (SV.c (SC.row 0))=bK.one (SV.c (SC.row 0))):=by
 have hp:l.length<=1000000:=bD;intro b hb;refine aA.2 ⟨λh=>by rw[hb h];exact⟨rfl,rfl⟩,λh=>⟨?_,by simp,rfl⟩⟩
 rw[iM];omega
theorem VP:dA cZ.gd 19 Ri:=
 sV (il:=Qy) (rc:=[.row 9 .str]) (cx:=cZ) (n:=8) (cl:=[]) (by kernel_rfl) aO trivial trivial Tryd.func19 (by kernel_rfl) (by kernel_rfl) rfl (by kernel_rfl) (by kernel_rfl) λd hd=>by
  obtain⟨l,⟨⟩⟩:=d;exact fQ (λ_=>none) (aat l hd) (by kernel_rfl)
abbrev Rj:CT:={ ps:=[.sl iH],pre:=λd=>d.1.length<=1000000,res:=λd=>([.row 35 iH d.1],.one (.c (.row 0))) }
theorem aau(l:List FD) (bD:Rj.pre (l,())):
 ∀(b:Bool),(b=true->l=[])->br b ([ay.row 35 iH l]=[ay.row 35 iH []]/\bK.one (SV.c (SC.row 0))=bK.one (SV.c (SC.row 0))) (jK (0+l.length) 40/\[ay.row 35 iH l]=[ay.row 35 iH ([]++l)]/\bK.one (SV.c (SC.row 0))=bK.one (SV.c (SC.row 0))):=by
 have hp:l.length<=1000000:=bD;intro b hb;refine aA.2 ⟨λh=>by rw[hb h];exact⟨rfl,rfl⟩,λh=>⟨?_,by simp,rfl⟩⟩
 rw[iM];omega
theorem VQ:dA cZ.gd 20 Rj:=
 sV (il:=Qy) (rc:=[.row 35 iH]) (cx:=cZ) (n:=8) (cl:=[]) (by kernel_rfl) aO trivial trivial Tryd.func20 (by kernel_rfl) (by kernel_rfl) rfl (by kernel_rfl) (by kernel_rfl) λd hd=>by
  obtain⟨l,⟨⟩⟩:=d;exact fQ (λ_=>none) (aau l hd) (by kernel_rfl)
abbrev Rk:CT:={ ps:=[.sl eU],pre:=λd=>d.1.length<=1000000,res:=λd=>([.row 44 eU d.1],.one (.c (.row 0))) }
theorem aav(l:List SD) (bD:Rk.pre (l,())):
 ∀(b:Bool),(b=true->l=[])->br b ([ay.row 44 eU l]=[ay.row 44 eU []]/\bK.one (SV.c (SC.row 0))=bK.one (SV.c (SC.row 0))) (jK (0+l.length) 16/\[ay.row 44 eU l]=[ay.row 44 eU ([]++l)]/\bK.one (SV.c (SC.row 0))=bK.one (SV.c (SC.row 0))):=by
 have hp:l.length<=1000000:=bD;intro b hb;refine aA.2 ⟨λh=>by rw[hb h];exact⟨rfl,rfl⟩,λh=>⟨?_,by simp,rfl⟩⟩
 rw[iM];omega
theorem VR:dA cZ.gd 21 Rk:=
 sV (il:=Qy) (rc:=[.row 44 eU]) (cx:=cZ) (n:=8) (cl:=[]) (by kernel_rfl) aO trivial trivial Tryd.func21 (by kernel_rfl) (by kernel_rfl) rfl (by kernel_rfl) (by kernel_rfl) λd hd=>by
  obtain⟨l,⟨⟩⟩:=d;exact fQ (λ_=>none) (aav l hd) (by kernel_rfl)
abbrev Rl:CT:={ ps:=[.sl iD],pre:=λd=>d.1.length<=1000000,res:=λd=>([.row 40 iD d.1],.one (.c (.row 0))) }
theorem aaw(l:List ID) (bD:Rl.pre (l,())):
 ∀(b:Bool),(b=true->l=[])->br b ([ay.row 40 iD l]=[ay.row 40 iD []]/\bK.one (SV.c (SC.row 0))=bK.one (SV.c (SC.row 0))) (jK (0+l.length) 64/\[ay.row 40 iD l]=[ay.row 40 iD ([]++l)]/\bK.one (SV.c (SC.row 0))=bK.one (SV.c (SC.row 0))):=by
 have hp:l.length<=1000000:=bD;intro b hb;refine aA.2 ⟨λh=>by rw[hb h];exact⟨rfl,rfl⟩,λh=>⟨?_,by simp,rfl⟩⟩
 rw[iM];omega
theorem VT:dA cZ.gd 22 Rl:=
 sV (il:=Qy) (rc:=[.row 40 iD]) (cx:=cZ) (n:=8) (cl:=[]) (by kernel_rfl) aO trivial trivial Tryd.func22 (by kernel_rfl) (by kernel_rfl) rfl (by kernel_rfl) (by kernel_rfl) λd hd=>by
  obtain⟨l,⟨⟩⟩:=d;exact fQ (λ_=>none) (aaw l hd) (by kernel_rfl)
noncomputable abbrev acK (l m:List ByteArray):Nat->Option (St->oO):=λk=>match k with
 | 4=>some λ_=>.inv { α:=Nat,slots:=λk=>[(5,.c (.v (.int .i64 k)))],res:=λk=>[],inv:=λk=>k<=(l).length/\∀j < k,l[j]?=m[j]?,meas:=λk=>(l).length - k }
 | _=>none
theorem aax(l m:List ByteArray) (bD:BN.pre (l,m,())):
 let z1:=λ(x:Nat)=>(x<=l.length/\∀(j:Nat),j < x->l[j]?=m[j]?);br (!decide ((l.length:Int)=(m.length:Int))) (qB (gG l m) false) ((∃x,(z1 x)/\(cI 0=cI (x:Int)/\True)/\([]:List pq)=[])/\∀(x:Nat),(z1 x)->br (decide ((x:Int) < (l.length:Int))) ((0<=(x:Int)/\(x:Int) < (l.length:Int))/\∀(d:ByteArray),l[(x:Int).toNat]?=some d->(0<=(x:Int)/\(x:Int) < (m.length:Int))/\∀(bV:ByteArray),m[(x:Int).toNat]?=some bV->br (!decide (d=bV)) (qB (gG l m) false) (iR ((x:Int)+(1:Int))/\∃x',(z1 x')/\(cI ((x:Int)+(1:Int))=cI (x':Int)/\True)/\([]:List pq)=[]/\l.length - x' < l.length - x)) (qB (gG l m) true)):=by
 conv=>zeta
 delta pq iR;have hp:l.length<=1000000:=bD;have fF:l≠m->qB (gG l m) false:=λq=>⟨rfl,by rw[iE q]⟩
 refine aA.2 ⟨λh=>fF λq=>?_,λh=>?_⟩
 .subst q;simp at h
 simp only[Nr,jB]at h;refine⟨⟨0,⟨by omega,λj hj=>by omega⟩,⟨rfl,trivial⟩,rfl⟩,λk hk=>aA.2 ⟨λg=>?_,λg=>?_⟩⟩
 .simp only[jB]at g;refine⟨⟨by omega,by omega⟩,λd hd=>⟨⟨by omega,by omega⟩,λd1 hd1=>aA.2 ⟨λg2=>fF λq=>?_,λg2=>⟨aX.2 (by omega),k+1,⟨by omega,λj hj=>?_⟩,⟨rfl,trivial⟩,rfl,by omega⟩⟩⟩⟩
  .subst q;rw[hd]at hd1;cases hd1;simp at g2
  .by_cases kJ:j=k
   .subst kJ;have hd:l[j]?=some d:=hd;have hd1:m[j]?=some d1:=hd1;have g2:d=d1:=by simpa using g2
    rw[hd,hd1,g2]
   .exact hk.2 j (by omega)
 simp only[qx]at g;have e:l=m:=by
  apply zT;intro j
  by_cases hj:j < k
  .exact hk.2 j hj
  .rw[wV (by omega),wV (by omega)]
 exact⟨rfl,by rw[fB e]⟩
theorem VU:dA cZ.gd 23 BN:=
 qW (cx:=cZ) (n:=26) (cl:=[]) (rc:=[]) aO trivial Tryd.func23 λd hd=>by
  obtain⟨l,m,⟨⟩⟩:=d;exact fQ (acK l m) (aax l m hd) (by kernel_rfl)
noncomputable abbrev acL (nm:ByteArray) (l:List ID) (Gg:ByteArray) (m:List ID):Nat->Option (St->oO):=λk=>match k with
 | 4=>some λ_=>.inv { α:=Nat,slots:=λk=>[(5,.c (.v (.int .i64 k)))],res:=λk=>[],inv:=λk=>k<=(l).length/\∀j < k,l[j]?=m[j]?,meas:=λk=>(l).length - k }
 | _=>none
theorem aay(nm:ByteArray) (l:List ID) (Gg:ByteArray) (m:List ID) (bD:BO.pre ((nm,l,()),(Gg,m,()),())):
 let z4:=gG (nm,l,()) (Gg,m,());let z3:=qB z4 false;let z2:=λ(x:Nat)=>(x<=l.length/\∀(j:Nat),j < x->l[j]?=m[j]?);let z1:=[g0 (ay.blk 35 [SC.v (Value.string nm),SC.sl iD l]),g0 (ay.blk 35 [SC.v (Value.string Gg),SC.sl iD m])];br (!decide (nm=Gg) || !decide ((l.length:Int)=(m.length:Int))) z3 ((∃x,(z2 x)/\(cI 0=cI (x:Int)/\True)/\sm z1)/\∀(x:Nat),(z2 x)->br (decide ((x:Int) < (l.length:Int))) ((0<=(x:Int)/\(x:Int) < (l.length:Int))/\∀(d:ID),l[(x:Int).toNat]?=some d->(0<=(x:Int)/\(x:Int) < (m.length:Int))/\∀(bV:ID),m[(x:Int).toNat]?=some bV->br (!(true && d.fst == bV.fst && d.snd.fst == bV.snd.fst && d.snd.snd.fst == bV.snd.snd.fst && d.snd.snd.snd.fst == bV.snd.snd.snd.fst && d.snd.snd.snd.snd.fst == bV.snd.snd.snd.snd.fst && d.snd.snd.snd.snd.snd.fst == bV.snd.snd.snd.snd.snd.fst && d.snd.snd.snd.snd.snd.snd.fst == bV.snd.snd.snd.snd.snd.snd.fst && d.snd.snd.snd.snd.snd.snd.snd.fst == bV.snd.snd.snd.snd.snd.snd.snd.fst)) z3 (iR ((x:Int)+(1:Int))/\∃x',(z2 x')/\(cI ((x:Int)+(1:Int))=cI (x':Int)/\True)/\sm z1/\l.length - x' < l.length - x)) (qB z4 true)):=by
 conv=>zeta
 delta iR;have hp:l.length<=1000000:=bD;have fF:¬(nm=Gg/\l=m)->qB (gG ((nm,l,()):FD) (Gg,m,())) false:=λq=>⟨rfl,by rw[iE λe=>q (by simp only[RU]at e;exact⟨e.1,e.2.1⟩)]⟩
 refine aA.2 ⟨λh=>fF λq=>?_,λh=>?_⟩
 .obtain⟨q1,q2⟩:=q;subst q1 q2;simp at h
 simp only[xP,Nr,jB]at h;obtain⟨hn,h⟩:=h;refine⟨⟨0,⟨by omega,λj hj=>by omega⟩,⟨rfl,trivial⟩,rfl⟩,λk hk=>aA.2 ⟨λg=>?_,λg=>?_⟩⟩
 .simp only[jB]at g;refine⟨⟨by omega,by omega⟩,λd hd=>⟨⟨by omega,by omega⟩,λd1 hd1=>aA.2 ⟨λg2=>fF λq=>?_,λg2=>⟨aX.2 (by omega),k+1,⟨by omega,λj hj=>?_⟩,⟨rfl,trivial⟩,rfl,by omega⟩⟩⟩⟩
  .obtain⟨q1,q2⟩:=q;subst q1 q2;rw[hd]at hd1;cases hd1;simp at g2
  .by_cases kJ:j=k
   .subst kJ;have hd:l[j]?=some d:=hd;have hd1:m[j]?=some d1:=hd1;have g2:d=d1:=by
     obtain⟨x1,x2,x3,x4,x5,x6,x7,x8,⟨⟩⟩:=d;obtain⟨y1,y2,y3,y4,y5,y6,y7,y8,⟨⟩⟩:=d1;simpa[and_assoc]using g2
    rw[hd,hd1,g2]
   .exact hk.2 j (by omega)
 simp only[qx]at g;have e:l=m:=by
  apply zT;intro j
  by_cases hj:j < k
  .exact hk.2 j hj
  .rw[wV (by omega),wV (by omega)]
 subst hn e;exact⟨rfl,by rw[fB rfl]⟩
theorem VW:dA cZ.gd 24 BO:=
 qW (cx:=cZ) (n:=38) (cl:=[]) (rc:=[]) aO trivial Tryd.func24 λd hd=>by
  obtain⟨⟨nm,l,⟨⟩⟩,⟨Gg,m,⟨⟩⟩,⟨⟩⟩:=d;exact fQ (acL nm l Gg m) (aay nm l Gg m hd) (by kernel_rfl)
noncomputable abbrev aei (vs:List VD) (ms cs:List ByteArray) (fs:List FD) (ts:List SD) (vs2:List VD) (ms2 cs2:List ByteArray) (qX:List FD) (rO:List SD):Nat->Option (St->oO):=λk=>match k with
 | 4=>some λ_=>.inv { α:=Nat,slots:=λk=>[(5,.c (.v (.int .i64 k)))],res:=λk=>[],inv:=λk=>k<=vs.length/\∀j < k,vs[j]?=vs2[j]?,meas:=λk=>vs.length - k }
 | 9=>some λ_=>.inv { α:=Nat,slots:=λk=>[(6,.c (.v (.int .i64 k)))],res:=λk=>[],inv:=λk=>k<=fs.length/\∀j < k,fs[j]?=qX[j]?,meas:=λk=>fs.length - k }
 | 14=>some λ_=>.inv { α:=Nat,slots:=λk=>[(7,.c (.v (.int .i64 k)))],res:=λk=>[],inv:=λk=>k<=ts.length/\∀j < k,ts[j]?=rO[j]?,meas:=λk=>ts.length - k }
 | _=>none
theorem acM(vs:List VD) (ms cs:List ByteArray) (fs:List FD) (ts:List SD) (vs2:List VD) (ms2 cs2:List ByteArray) (qX:List FD) (rO:List SD) (bD:BP.pre ((vs,ms,cs,fs,ts,()),(vs2,ms2,cs2,qX,rO,()),())):
 let z8:=(vs.length:Int)=(vs2.length:Int);let z6:=gG (vs,ms,cs,fs,ts,()) (vs2,ms2,cs2,qX,rO,());let z2:=qB z6 false;let z3:=λ(x:Nat)=>(x<=vs.length/\∀(j:Nat),j < x->vs[j]?=vs2[j]?);let z9:=λ(x:Nat)=>cI 0=cI (x:Int)/\True;let z1:=[g0 (bP vs ms cs fs ts),g0 (ay.blk 27 [SC.sl ku vs2,SC.sl Sh.str ms2,SC.sl Sh.str cs2,SC.sl iH qX,SC.sl eU rO])];let z10:=λ(x:Nat)=>(x:Int)+(1:Int);let z7:=λ(x x':Nat)=>cI (z10 x)=cI (x':Int)/\True;let z4:=λ(x:Nat)=>(x<=fs.length/\∀(j:Nat),j < x->fs[j]?=qX[j]?);let z5:=λ(x:Nat)=>(x<=ts.length/\∀(j:Nat),j < x->ts[j]?=rO[j]?);((!!decide z8)=true->ms.length<=1000000)/\((!(!decide z8 || !gG ms ms2))=true->cs.length<=1000000)/\br (!decide z8 || !gG ms ms2 || !gG cs cs2 || !decide ((fs.length:Int)=(qX.length:Int)) || !decide ((ts.length:Int)=(rO.length:Int))) z2 ((∃x,(z3 x)/\(z9 x)/\sm z1)/\∀(x:Nat),(z3 x)->br (decide ((x:Int) < (vs.length:Int))) ((0<=(x:Int)/\(x:Int) < (vs.length:Int))/\∀(d:VD),vs[(x:Int).toNat]?=some d->(0<=(x:Int)/\(x:Int) < (vs2.length:Int))/\∀(bV:VD),vs2[(x:Int).toNat]?=some bV->br (!(true && d.fst == bV.fst && d.snd.fst == bV.snd.fst)) z2 (iR (z10 x)/\∃x',(z3 x')/\(z7 x x')/\sm z1/\vs.length - x' < vs.length - x)) ((∃x,(z4 x)/\(z9 x)/\sm z1)/\∀(x:Nat),(z4 x)->br (decide ((x:Int) < (fs.length:Int))) ((0<=(x:Int)/\(x:Int) < (fs.length:Int))/\∀(d:FD),fs[(x:Int).toNat]?=some d->(0<=(x:Int)/\(x:Int) < (qX.length:Int))/\∀(bV:FD),qX[(x:Int).toNat]?=some bV->List.length d.snd.fst<=1000000/\br (!gG d bV) z2 (iR (z10 x)/\∃x',(z4 x')/\(z7 x x')/\sm z1/\fs.length - x' < fs.length - x)) ((∃x,(z5 x)/\(z9 x)/\sm z1)/\∀(x:Nat),(z5 x)->br (decide ((x:Int) < (ts.length:Int))) ((0<=(x:Int)/\(x:Int) < (ts.length:Int))/\∀(d:Int×(I6.pair Sh.unit).den),ts[(x:Int).toNat]?=some d->(0<=(x:Int)/\(x:Int) < (rO.length:Int))/\∀(bV:Int×(I6.pair Sh.unit).den),rO[(x:Int).toNat]?=some bV->br (!(true && d.fst == bV.fst && d.snd.fst == bV.snd.fst)) z2 (iR (z10 x)/\∃x',(z5 x')/\(z7 x x')/\sm z1/\ts.length - x' < ts.length - x)) (qB z6 true)))):=by
 conv=>zeta
 delta iR;obtain⟨h1,h2,h3,h4,h5,h6,h7⟩:bnd ((vs,ms,cs,fs,ts,()),()):=bD;have b1:vs.length<=1000000:=h1;have b4:fs.length<=1000000:=h4;have b5:ts.length<=1000000:=h5;have fF:¬(vs=vs2/\ms=ms2/\cs=cs2/\fs=qX/\ts=rO)->qB (gG ((vs,ms,cs,fs,ts,()):PD) (vs2,ms2,cs2,qX,rO,())) false:=λq=>⟨rfl,by rw[iE λe=>q (by simp only[RU]at e;exact⟨e.1,e.2.1,e.2.2.1,e.2.2.2.1,e.2.2.2.2.1⟩)]⟩
 have eq:∀{α:Type}{l m:List α}{k:Nat},(∀j < k,l[j]?=m[j]?)->¬((k:Int) < l.length)->(l.length:Int)=m.length->l=m:=by
  intro α l m k hk g hl;apply zT;intro j
  by_cases hj:j < k
  .exact hk j hj
  .rw[wV (by omega),wV (by omega)]
 refine⟨λ_=>h2,λ_=>h3,aA.2 ⟨λh=>fF λq=>?_,λh=>?_⟩⟩
 .obtain⟨q1,q2,q3,q4,q5⟩:=q;subst q1 q2 q3 q4 q5;simp[fB]at h
 simp only[xP,Nr,jB,jL]at h;obtain⟨⟨⟨⟨a1,a2⟩,a3⟩,a4⟩,a5⟩:=h;refine⟨⟨0,⟨by omega,λj hj=>by omega⟩,⟨rfl,trivial⟩,rfl⟩,λk hk=>aA.2 ⟨λg=>?_,λg=>⟨⟨0,⟨by omega,λj hj=>by omega⟩,⟨rfl,trivial⟩,rfl⟩,λk2 hk2=>aA.2 ⟨λg2=>?_,λg2=>⟨⟨0,⟨by omega,λj hj=>by omega⟩,⟨rfl,trivial⟩,rfl⟩,λk3 hk3=>aA.2 ⟨λg3=>?_,λg3=>?_⟩⟩⟩⟩⟩⟩
 .simp only[jB]at g;refine⟨⟨by omega,by omega⟩,λd hd=>⟨⟨by omega,by omega⟩,λd1 hd1=>aA.2 ⟨λg2=>fF λq=>?_,λg2=>⟨aX.2 (by omega),k+1,⟨by omega,λj hj=>?_⟩,⟨rfl,trivial⟩,rfl,by omega⟩⟩⟩⟩
  .have q:=q.1;subst q;rw[hd]at hd1;cases hd1;simp[IV]at g2
  .by_cases kJ:j=k
   .subst kJ;have hd:vs[j]?=some d:=hd;have hd1:vs2[j]?=some d1:=hd1;have g2:d=d1:=by
     obtain⟨x,y,⟨⟩⟩:=d;obtain⟨x1,y1,⟨⟩⟩:=d1;simpa[IV]using g2
    rw[hd,hd1,g2]
   .exact hk.2 j (by omega)
 .simp only[jB]at g2;refine⟨⟨by omega,by omega⟩,λd hd=>⟨⟨by omega,by omega⟩,λd1 hd1=>⟨h6 d (lI hd),aA.2 ⟨λg5=>fF λq=>?_,λg5=>⟨aX.2 (by omega),k2+1,⟨by omega,λj hj=>?_⟩,⟨rfl,trivial⟩,rfl,by omega⟩⟩⟩⟩⟩
  .have q:=q.2.2.2.1;subst q;rw[hd]at hd1;cases hd1;rw[fB rfl]at g5;cases g5
  .by_cases kJ:j=k2
   .subst kJ;have hd:fs[j]?=some d:=hd;have hd1:qX[j]?=some d1:=hd1;have g5:=jL.1 (show gG d d1=true by simpa using g5)
    rw[hd,hd1,g5]
   .exact hk2.2 j (by omega)
 .simp only[jB]at g3;refine⟨⟨by omega,by omega⟩,λd hd=>⟨⟨by omega,by omega⟩,λd1 hd1=>aA.2 ⟨λg2=>fF λq=>?_,λg2=>⟨aX.2 (by omega),k3+1,⟨by omega,λj hj=>?_⟩,⟨rfl,trivial⟩,rfl,by omega⟩⟩⟩⟩
  .have q:=q.2.2.2.2;subst q;rw[hd]at hd1;cases hd1;simp at g2
  .by_cases kJ:j=k3
   .subst kJ;have hd:ts[j]?=some d:=hd;have hd1:rO[j]?=some d1:=hd1;have g2:d=d1:=by
     obtain⟨x,y,⟨⟩⟩:=d;obtain⟨x1,y1,⟨⟩⟩:=d1;simpa using g2
    rw[hd,hd1,g2]
   .exact hk3.2 j (by omega)
 .simp only[qx]at g g2 g3;have e1:=eq hk.2 g a1;have e4:=eq hk2.2 g2 a4;have e5:=eq hk3.2 g3 a5;subst e1 a2 a3 e4 e5;exact⟨rfl,by rw[fB rfl]⟩
theorem aaz:dA cZ.gd 7 BP:=
 qW (cx:=cZ) (n:=104) (cl:=[(23,BN),(24,BO)]) (rc:=[]) aO ⟨VU,VW,trivial⟩ Tryd.func7 λd hd=>by
  obtain⟨⟨vs,ms,cs,fs,ts,⟨⟩⟩,⟨vs2,ms2,cs2,qX,rO,⟨⟩⟩,⟨⟩⟩:=d;exact fQ (aei vs ms cs fs ts vs2 ms2 cs2 qX rO) (acM vs ms cs fs ts vs2 ms2 cs2 qX rO hd) (by kernel_rfl)
noncomputable abbrev acN (vs:List VD) (ms cs:List ByteArray) (fs:List FD) (ts:List SD):Nat->Option (St->oO):=λk=>match k with
 | 3=>some λ_=>.inv { α:=Nat,slots:=λk=>[(4,.c (.v (.int .i64 k))),(3,.c (.v (.int .i64 ((aT (fs.take k)).length:Nat))))],res:=λk=>[],inv:=λk=>k<=(fs).length,meas:=λk=>(fs).length - k }
 | _=>none
theorem aaA(vs:List VD) (ms cs:List ByteArray) (fs:List FD) (ts:List SD) (bD:sZ.pre ((vs,ms,cs,fs,ts,()),())):
 let z2:=λ(x:Nat)=>aT (List.take x fs);let z1:=λ(x:Nat) (d:FD)=>(↑(z2 x).length:Int)+((List.length d.snd.fst):Int);(∃x,x<=fs.length/\(cI 0=cI (x:Int)/\cI 0=cI (↑(z2 x).length:Int)/\True)/\sm [g0 (bP vs ms cs fs ts)])/\∀(x:Nat),x<=fs.length->br (decide ((x:Int) < (fs.length:Int))) ((0<=(x:Int)/\(x:Int) < (fs.length:Int))/\∀(d:FD),fs[(x:Int).toNat]?=some d->iR (z1 x d)/\iR ((x:Int)+(1:Int))/\∃x',x'<=fs.length/\(cI ((x:Int)+(1:Int))=cI (x':Int)/\cI (z1 x d)=cI (↑(z2 x').length:Int)/\True)/\sm [g0 (bP vs ms cs fs ts)]/\fs.length - x' < fs.length - x) (qI (↑(aT fs).length:Int) (↑(z2 x).length:Int)):=by
 conv=>zeta
 delta iR;obtain⟨p1,p2,p3⟩:(aT fs).length<=1000000/\fs.length<=1000000/\∀x∈fs,x.2.1.length<=1000000:=bD;refine⟨⟨0,by omega,⟨rfl,rfl,trivial⟩,rfl⟩,λk hk=>aA.2 ⟨λg=>?_,λg=>?_⟩⟩
 .simp only[jB]at g;refine⟨⟨by omega,by omega⟩,λd hd=>?_⟩
  have hd:fs[k]?=some d:=hd;have st:=zL hd;have lt:(aT (fs.take k)).length+d.2.1.length<=(aT fs).length:=by
   rw[BI hd,jA,jA,qR];omega
  have sl:(aT (fs.take (k+1))).length=(aT (fs.take k)).length+d.2.1.length:=by rw[st,jA,qR]
  exact⟨aX.2 (by omega),aX.2 (by omega),k+1,by omega,⟨rfl,by rw[sl];rfl,trivial⟩,rfl,by omega⟩
 .simp only[qx]at g;have e:fs.take k=fs:=Gh (by omega)
  rw[e];exact⟨rfl,rfl⟩
theorem VX:dA cZ.gd 10 sZ:=
 qW (cx:=cZ) (n:=22) (cl:=[]) (rc:=[]) aO trivial Tryd.func10 λd hd=>by
  obtain⟨⟨vs,ms,cs,fs,ts,⟨⟩⟩,⟨⟩⟩:=d;exact fQ (acN vs ms cs fs ts) (aaA vs ms cs fs ts hd) (by kernel_rfl)
theorem IW(k:Nat):oN (λj=>decide (j < k)) k=λj=>decide (j < k+1):=by
 funext j;unfold oN
 by_cases h:j=k
 .subst h;simp
 .simp[h];omega
abbrev Rn:CT:={ ps:=[wU],pre:=λd=>bnd (d.1,()),res:=λd=>([.row 42 ku (d.1.1),.row 9 .str (d.1.2.1),.row 9 .str (d.1.2.2.1),.deep 35 iH (d.1.2.2.2.1) 40 iD 1 (λj=>decide (j < (d.1.2.2.2.1).length)) [],.row 44 eU (d.1.2.2.2.2.1)],.one (.agg [.row 0,.row 1,.row 2,.row 3,.row 4])) }
noncomputable abbrev aej (vs:List VD) (ms cs:List ByteArray) (fs:List FD) (ts:List SD):Nat->Option (St->oO):=λn=>match n with
 | 2=>some λ_=>.cut { α:=Nat,pad:=6,can:=[(2,.slot 3),(3,.cell 2 0),(4,.cell 2 1),(5,.cell 2 2),(6,.cell 2 3),(7,.cell 2 4)],slots:=λ_=>[(3,.c (.own 2 0))],res:=λ_=>[(2,.blk 27 [.row 3,.row 4,.row 5,.row 6,.row 7]),(3,.row 42 ku (vs)),(4,.row 9 .str (ms)),(5,.row 9 .str (cs)),(6,.row 35 iH (fs)),(7,.row 44 eU (ts))],inv:=λu=>u=0,meas:=λ_=>0 }
 | 3=>some λ_=>.inv { α:=Nat,deep:=[(6,40,iD,1)],slots:=λk=>[(24,.c (.v (.int .i64 k)))],res:=λk=>[(6,.deep 35 iH (fs) 40 iD 1 (λj=>decide (j < k)) [])],inv:=λk=>k<=fs.length,meas:=λk=>fs.length - k }
 | _=>none
abbrev Gn:=[iN,iN,iN,iN,iN]
abbrev BQ:=[SC.row 3,SC.row 4,SC.row 5,SC.row 6,SC.row 7]
abbrev Nl:Prop:=SV.c (SC.own 2 0)=SV.c (SC.own 2 0)/\True
theorem acO(vs:List VD) (ms cs:List ByteArray) (fs:List FD) (ts:List SD) (bD:Rn.pre ((vs,ms,cs,fs,ts,()),())):
 let z4:=bP vs ms cs fs ts;let z2:=[g0 z4,g0 (ay.blk 27 Gn),g0 (ay.blk 27 BQ),g0 (ay.row 42 ku vs),g0 (ay.row 9 Sh.str ms),g0 (ay.row 9 Sh.str cs),g0 (ay.row 35 iH fs),g0 (ay.row 44 eU ts)];let z1:=λ(x:Nat)=>[g0 z4,g0 (ay.blk 27 Gn),g0 (ay.blk 27 BQ),g0 (ay.row 42 ku vs),g0 (ay.row 9 Sh.str ms),g0 (ay.row 9 Sh.str cs),g0 (ay.deep 35 iH fs 40 iD 1 (λj=>decide (j < x)) []),g0 (ay.row 44 eU ts)];let z3:=λ(x:Nat)=>0<=(x:Int)/\(x:Int) < (fs.length:Int);((vs.length<=1000000/\(ms.length<=1000000/\(cs.length<=1000000/\(fs.length<=1000000/\(ts.length<=1000000/\(∃v,v=0/\Nl/\sm z2)/\∃v,v=0/\Nl/\sm z2)/\ts.length<=1000000/\∃v,v=0/\Nl/\sm z2)/\fs.length<=1000000/\ts.length<=1000000/\∃v,v=0/\Nl/\sm z2)/\cs.length<=1000000/\fs.length<=1000000/\ts.length<=1000000/\∃v,v=0/\Nl/\sm z2)/\ms.length<=1000000/\cs.length<=1000000/\fs.length<=1000000/\ts.length<=1000000/\∃v,v=0/\Nl/\sm z2)/\vs.length<=1000000/\ms.length<=1000000/\cs.length<=1000000/\fs.length<=1000000/\ts.length<=1000000/\∃v,v=0/\Nl/\sm z2)/\∀(v:Nat),v=0->(∃x,x<=fs.length/\(cI 0=cI (x:Int)/\True)/\[g0 z4,g0 (ay.blk 27 Gn),g0 (ay.blk 27 BQ),g0 (ay.row 42 ku vs),g0 (ay.row 9 Sh.str ms),g0 (ay.row 9 Sh.str cs),g0 (ay.deep 35 iH fs 40 iD 1 yO []),g0 (ay.row 44 eU ts)]=(z1 x))/\∀(x:Nat),x<=fs.length->br (decide ((x:Int) < (fs.length:Int))) ((z3 x)/\∀(d:FD),fs[(x:Int).toNat]?=some d->List.length d.snd.fst<=1000000/\(z3 x)/\(x:Int).toNat < fs.length/\∀(e0:FD),fs[(x:Int).toNat]?=some e0->iR ((x:Int)+(1:Int))/\∃x',x'<=fs.length/\(cI ((x:Int)+(1:Int))=cI (x':Int)/\True)/\[g0 z4,g0 (ay.blk 27 Gn),g0 (ay.blk 27 BQ),g0 (ay.row 42 ku vs),g0 (ay.row 9 Sh.str ms),g0 (ay.row 9 Sh.str cs),g0 (ay.deep 35 iH (fs.set (x:Int).toNat (e0.fst,d.snd.fst,e0.snd.snd)) 40 iD 1 (oN (λj=>decide (j < x)) (x:Int).toNat) []),g0 (ay.row 44 eU ts)]=(z1 x')/\fs.length - x' < fs.length - x) ([ay.row 42 ku vs,ay.row 9 Sh.str ms,ay.row 9 Sh.str cs,ay.deep 35 iH fs 40 iD 1 (λj=>decide (j < List.length fs)) [],ay.row 44 eU ts]=[ay.row 42 ku vs,ay.row 9 Sh.str ms,ay.row 9 Sh.str cs,ay.deep 35 iH fs 40 iD 1 (λj=>decide (j < x)) [],ay.row 44 eU ts]/\bK.one (SV.agg [SC.row 0,SC.row 1,SC.row 2,SC.row 3,SC.row 4])=bK.one (SV.agg [SC.row 0,SC.row (Nat.succ 0),SC.row (Nat.succ 0).succ,SC.row (Nat.succ 0).succ.succ,SC.row (Nat.succ 0).succ.succ.succ])):=by
 conv=>zeta
 delta Gn BQ Nl iR iN;obtain⟨h1,h2,h3,h4,h5,h6,h7⟩:bnd ((vs,ms,cs,fs,ts,()),()):=bD;have b1:vs.length<=1000000:=h1;have b2:ms.length<=1000000:=h2;have b3:cs.length<=1000000:=h3;have b4:fs.length<=1000000:=h4;have b5:ts.length<=1000000:=h5;have no0:(λj:Nat=>decide (j < 0))=yO:=by funext j;simp[yO]
 refine⟨?_,λv hv=>⟨⟨0,by omega,⟨rfl,trivial⟩,by rw[no0]⟩,λk hk=>aA.2 ⟨λg=>?_,λg=>?_⟩⟩⟩
 .repeat' (first | exact b1 | exact b2 | exact b3 | exact b4 | exact b5 | exact⟨0,rfl,⟨rfl,trivial⟩,rfl⟩ | refine And.intro ?_ ?_)
 .simp only[jB]at g;refine⟨⟨by omega,by omega⟩,λd hd=>⟨h6 d (lI hd),⟨by omega,by omega⟩,by omega,λe he=>⟨aX.2 (by omega),k+1,by omega,⟨rfl,trivial⟩,?_,by omega⟩⟩⟩
  have hd:fs[(k:Int).toNat]?=some d:=hd;rw[hd]at he;have e1:d=e:=Rw he;subst e1;have e2:oN (λj=>decide (j < k)) (k:Int).toNat=λj=>decide (j < k+1):=IW k
  rw[e2];have:fs.set (k:Int).toNat d=fs:=fH hd;exact qV (λz=>[_,_,_,_,_,_,g0 (ay.deep 35 iH z 40 iD 1 (λj=>decide (j < k+1)) []),_]) this
 .simp only[qx]at g;have ek:k=fs.length:=by omega
  subst ek;exact⟨rfl,rfl⟩
theorem aaB:dA cZ.gd 6 Rn:=
 qW (cx:=cZ) (n:=41) (cl:=[(18,Rh),(19,Ri),(20,Rj),(21,Rk),(22,Rl)]) (rc:=[]) aO ⟨VO,VP,VQ,VR,VT,trivial⟩ Tryd.func6 λd hd=>by
  obtain⟨⟨vs,ms,cs,fs,ts,⟨⟩⟩,⟨⟩⟩:=d;exact fQ (aej vs ms cs fs ts) (acO vs ms cs fs ts hd) (by kernel_rfl)
abbrev Ro:CT:={ ps:=[wU],pre:=λd=>bnd d,res:=λd=>([],.one (fO wU d.1)) }
noncomputable abbrev acP (vs:List VD) (ms cs:List ByteArray) (fs:List FD) (ts:List SD):Nat->Option (St->oO):=λn=>match n with
 | 2=>some λ_=>.cut { α:=Nat,pad:=5,can:=[(2,.slot 3),(3,.cell 2 0),(4,.cell 2 1),(5,.cell 2 2),(6,.cell 2 4)],slots:=λ_=>[(3,.c (.own 2 0))],res:=λ_=>[(2,.blk 27 [.row 3,.row 4,.row 5,.v (.slice none 0 0),.row 6]),(3,.row 42 ku (vs)),(4,.row 9 .str (ms)),(5,.row 9 .str (cs)),(6,.row 44 eU (ts))],inv:=λu=>u=0,meas:=λ_=>0 }
 | 3=>some λ_=>.inv { α:=Nat,oW:=[3,4,5,6],qh:=[(2,3,35,iH)],slots:=λk=>[(4,.c (.v (.int .i64 k)))],res:=λk=>[(7,.row 35 iH (fs.take k))],inv:=λk=>k<=fs.length,meas:=λk=>fs.length - k }
 | 6=>some λ_=>.cut { α:=Nat,oW:=[7],slots:=λ_=>[],res:=λ_=>[(2,.blk 27 [.sl ku vs,.sl .str ms,.sl .str cs,.sl iH fs,.sl eU ts]),(3,.gone),(4,.gone),(5,.gone),(6,.gone)],inv:=λu=>u=0,meas:=λ_=>0 }
 | _=>none
theorem aaC(vs:List VD) (ms cs:List ByteArray) (fs:List FD) (ts:List SD) (bD:Ro.pre ((vs,ms,cs,fs,ts,()),())):
 let IX:=bP vs ms cs fs ts;let z8:=[g0 IX,g0 (ay.blk 27 Gn),g0 (ay.blk 27 [SC.row 3,SC.row 4,SC.row 5,iN,SC.row 6]),g0 (ay.row 42 ku vs),g0 (ay.row 9 Sh.str ms),g0 (ay.row 9 Sh.str cs),g0 (ay.row 44 eU ts)];let z7:=(∃v,v=0/\Nl/\sm z8);let z9:=[SC.sl ku vs,SC.sl Sh.str ms,SC.sl Sh.str cs,SC.row (Nat.succ 0).succ.succ.succ.succ.succ.succ,SC.sl eU ts];let z6:=λ(x:Nat)=>[g0 IX,g0 (ay.blk 27 Gn),g0 (ay.blk 27 z9),g0 ay.gone,g0 ay.gone,g0 ay.gone,g0 ay.gone,g0 (ay.row 35 iH (List.take x fs))];let z13:=λ(x:Nat)=>0<=(x:Int)/\(x:Int) < (fs.length:Int);let z11:=λ(x:Nat) (bV d:FD)=>(List.take x fs).length+[(bV.fst,[]++d.snd.fst,())].length;let Ed:=λ(x:Nat)=>(x:Int)+(1:Int);let z5:=λ(x:Nat) (bV d:FD)=>[g0 IX,g0 (ay.blk 27 Gn),g0 (ay.blk 27 z9),g0 ay.gone,g0 ay.gone,g0 ay.gone,g0 ay.gone,g0 (ay.row 35 iH (List.take x fs++[(bV.fst,[]++d.snd.fst,())]))];let z4:=λ(d:FD) (x:Nat) (bV:FD)=>(jK (0+List.length d.snd.fst) 64/\jK (z11 x bV d) 40/\iR (Ed x)/\∃x',x'<=fs.length/\(cI (Ed x)=cI (x':Int)/\True)/\(z5 x bV d)=[g0 IX,g0 (ay.blk 27 Gn),g0 (ay.blk 27 z9),g0 ay.gone,g0 ay.gone,g0 ay.gone,g0 ay.gone,g0 (ay.row 35 iH (List.take x' fs))]/\fs.length - x' < fs.length - x);let z12:=λ(x x':Nat)=>cI (Ed x)=cI (x':Int)/\True;let z2:=λ(x:Nat) (d:FD)=>((z13 x)/\∀(bV:FD),fs[(x:Int).toNat]?=some bV->(z4 d x bV)/\jK (0+List.length d.snd.fst) 64/\jK (z11 x bV d) 40/\iR (Ed x)/\∃x',x'<=fs.length/\(cI (Ed x)=cI (x':Int)/\True)/\(z5 x bV d)=[g0 IX,g0 (ay.blk 27 Gn),g0 (ay.blk 27 z9),g0 ay.gone,g0 ay.gone,g0 ay.gone,g0 ay.gone,g0 (ay.row 35 iH (List.take x' fs))]/\fs.length - x' < fs.length - x);let z1:=λ(d:FD) (x:Nat) (bV:FD)=>((z4 d x bV)/\(z4 d x bV)/\jK (0+List.length d.snd.fst) 64/\jK (z11 x bV d) 40/\iR (Ed x)/\∃x',x'<=fs.length/\(cI (Ed x)=cI (x':Int)/\True)/\(z5 x bV d)=[g0 IX,g0 (ay.blk 27 Gn),g0 (ay.blk 27 z9),g0 ay.gone,g0 ay.gone,g0 ay.gone,g0 ay.gone,g0 (ay.row 35 iH (List.take x' fs))]/\fs.length - x' < fs.length - x);let z3:=λ(d:FD) (x:Nat) (bV:FD)=>((z4 d x bV)/\jK (0+List.length d.snd.fst) 64/\jK (z11 x bV d) 40/\iR (Ed x)/\∃x',x'<=fs.length/\(cI (Ed x)=cI (x':Int)/\True)/\(z5 x bV d)=[g0 IX,g0 (ay.blk 27 Gn),g0 (ay.blk 27 z9),g0 ay.gone,g0 ay.gone,g0 ay.gone,g0 ay.gone,g0 (ay.row 35 iH (List.take x' fs))]/\fs.length - x' < fs.length - x);let z10:=bK.one (SV.agg [SC.sl ku vs,SC.sl Sh.str ms,SC.sl Sh.str cs,SC.sl iH fs,SC.sl eU ts]);(jK (aC vs) 24/\jK (aC ms) 16/\jK (aC cs) 16/\jK (aC ts) 16/\z7/\z7/\∃v,v=0/\Nl/\sm z8)/\∀(v:Nat),v=0->((∃x,x<=fs.length/\(cI 0=cI (x:Int)/\True)/\[g0 IX,g0 (ay.blk 27 Gn),g0 (ay.blk 27 z9),g0 ay.gone,g0 ay.gone,g0 ay.gone,g0 ay.gone,g0 (ay.row 35 iH [])]=(z6 x))/\∀(x:Nat),x<=fs.length->br (decide ((x:Int) < (fs.length:Int))) ((z13 x)/\∀(d:FD),fs[(x:Int).toNat]?=some d->(((z13 x)/\∀(bV:FD),fs[(x:Int).toNat]?=some bV->(z4 d x bV)/\(z4 d x bV)/\jK (0+List.length d.snd.fst) 64/\jK (z11 x bV d) 40/\iR (Ed x)/\∃x',x'<=fs.length/\(z12 x x')/\(z5 x bV d)=(z6 x')/\fs.length - x' < fs.length - x)/\(z2 x d)/\jK (0+List.length d.snd.fst) 64/\(z13 x)/\∀(bV:FD),fs[(x:Int).toNat]?=some bV->jK (z11 x bV d) 40/\iR (Ed x)/\∃x',x'<=fs.length/\(z12 x x')/\(z5 x bV d)=(z6 x')/\fs.length - x' < fs.length - x)/\((z13 x)/\∀(bV:FD),fs[(x:Int).toNat]?=some bV->(z1 d x bV)/\(z1 d x bV)/\(z3 d x bV)/\(z3 d x bV)/\jK (0+List.length d.snd.fst) 64/\jK (z11 x bV d) 40/\iR (Ed x)/\∃x',x'<=fs.length/\(z12 x x')/\(z5 x bV d)=(z6 x')/\fs.length - x' < fs.length - x)/\((z2 x d)/\jK (0+List.length d.snd.fst) 64/\(z13 x)/\∀(bV:FD),fs[(x:Int).toNat]?=some bV->jK (z11 x bV d) 40/\iR (Ed x)/\∃x',x'<=fs.length/\(z12 x x')/\(z5 x bV d)=(z6 x')/\fs.length - x' < fs.length - x)/\((z13 x)/\∀(bV:FD),fs[(x:Int).toNat]?=some bV->(z3 d x bV)/\(z3 d x bV)/\jK (0+List.length d.snd.fst) 64/\jK (z11 x bV d) 40/\iR (Ed x)/\∃x',x'<=fs.length/\(z12 x x')/\(z5 x bV d)=(z6 x')/\fs.length - x' < fs.length - x)/\jK (0+List.length d.snd.fst) 64/\(z13 x)/\∀(bV:FD),fs[(x:Int).toNat]?=some bV->jK (z11 x bV d) 40/\iR (Ed x)/\∃x',x'<=fs.length/\(z12 x x')/\(z5 x bV d)=(z6 x')/\fs.length - x' < fs.length - x) (∃v,v=0/\True/\[g0 IX,g0 (ay.blk 27 Gn),g0 (ay.blk 27 [SC.sl ku vs,SC.sl Sh.str ms,SC.sl Sh.str cs,SC.sl iH (List.take x fs),SC.sl eU ts]),g0 ay.gone,g0 ay.gone,g0 ay.gone,g0 ay.gone]=[g0 IX,g0 (ay.blk 27 Gn),g0 IX,g0 ay.gone,g0 ay.gone,g0 ay.gone,g0 ay.gone]))/\∀(v:Nat),v=0->rE z10 z10:=by
 conv=>zeta
 delta Gn Nl iR iN;obtain⟨h1,h2,h3,h4,h5,h6,h7⟩:bnd ((vs,ms,cs,fs,ts,()),()):=bD;have b1:vs.length<=1000000:=h1;have b2:ms.length<=1000000:=h2;have b3:cs.length<=1000000:=h3;have b4:fs.length<=1000000:=h4;have b5:ts.length<=1000000:=h5;have bA:∀{α:Type} (l:List α) (n:Nat),l.length<=1000000->n<=100->jK (aC l) n:=λl n h h'=>by
  rw[iM,aK];exact nV (Nat.mul_le_mul h h') (by decide)
 refine⟨⟨bA _ _ b1 (by decide),bA _ _ b2 (by decide),bA _ _ b3 (by decide),bA _ _ b5 (by decide),⟨0,rfl,⟨rfl,trivial⟩,rfl⟩,⟨0,rfl,⟨rfl,trivial⟩,rfl⟩,⟨0,rfl,⟨rfl,trivial⟩,rfl⟩⟩,λv hv=>⟨⟨⟨0,by omega,⟨rfl,trivial⟩,rfl⟩,λk hk=>aA.2 ⟨λg=>?_,λg=>?_⟩⟩,λv hv=>⟨rfl,rfl⟩⟩⟩
 .simp only[jB]at g;have gX:k < fs.length:=by omega
  have hf:fs[(k:Int).toNat]?=some fs[k]:=lH gX;have hb:fs[k].2.1.length<=1000000:=h6 _ (List.getElem_mem gX);generalize fs[k]=f at hf hb;have ht:fs.take k++[(f.1,[]++f.2.1,())]=fs.take (k+1):=by
   rw[A96,show fs[k]?=some f from hf];rfl
  have hl:(fs.take k).length<=1000000:=by rw[lY];omega
  repeat' (first
   | omega
   | exact aX.2 (by omega)
   | exact iM.2 (by omega)
   | exact iM.2 (by simp only[Aq,Rx];omega)
   | exact⟨k+1,by omega,⟨rfl,trivial⟩,rfl,by omega⟩
   | (intro d hd;have e:=Rw (hf.symm.trans hd);subst e;try rw[ht])
   | refine And.intro ?_ ?_)
 .simp only[qx]at g;have ek:k=fs.length:=by omega
  subst ek;rw[KF];exact⟨0,rfl,trivial,rfl⟩
theorem VY:dA cZ.gd 11 Ro:=
 qW (cx:=cZ) (n:=50) (cl:=[]) (rc:=[.data wU]) aO trivial Tryd.func11 λd hd=>by
  obtain⟨⟨vs,ms,cs,fs,ts,⟨⟩⟩,⟨⟩⟩:=d;exact fQ (acP vs ms cs fs ts) (aaC vs ms cs fs ts hd) (by kernel_rfl)
def VZ(n:Nat) (l:List FD):Prop:=l.length=n/\∀t∈l,t.2.1.length<=100
theorem V3{P:α->Prop}{l:List α}{i:Nat}{u:α} (h:∀x∈l,P x) (hu:P u):∀x∈l.set i u,P x:=by
 intro x hx;rcases Gq hx with h1 | h1
 .exact h x h1
 .rw[h1];exact hu
theorem KC{n:Nat}{l:List FD}{i:Nat}{u:FD} (h:VZ n l) (hu:u.2.1.length<=100):VZ n (l.set i u):=⟨by rw[xu];exact h.1,V3 h.2 hu⟩
abbrev acQ:CT:={ ps:=[wU,wU],pre:=λd=>True,res:=λd=>([],vB (true)) }
noncomputable abbrev aek (vs:List VD) (ms cs:List ByteArray) (fs:List FD) (ts:List SD) (vs2:List VD) (ms2 cs2:List ByteArray) (qX:List FD) (rO:List SD):Nat->Option (St->oO):=λn=>match n with
 | 4=>some λ_=>.cut { α:=Nat,pad:=6,can:=[(2,.slot 5),(3,.cell 2 0),(4,.cell 2 1),(5,.cell 2 2),(6,.cell 2 3),(7,.cell 2 4)],slots:=λ_=>[(5,.c (.own 2 0))],res:=λ_=>[(2,.blk 27 [.row 3,.row 4,.row 5,.row 6,.row 7]),(3,.row 42 ku (vs)),(4,.row 9 .str (ms)),(5,.row 9 .str (cs)),(6,.deep 35 iH (fs) 40 iD 1 (λj=>decide (j < (fs).length)) []),(7,.row 44 eU (ts))],inv:=λu=>u=0,meas:=λ_=>0 }
 | 8=>some λ_=>.inv { α:=Nat×List FD,slots:=λa=>[(7,.c (.v (.int .i64 (a.1))))],res:=λa=>[(6,.deep 35 iH (a.2) 40 iD 1 (λj=>decide (j < (fs).length)) [])],inv:=λa=>a.1<=fs.length/\VZ fs.length a.2,meas:=λa=>fs.length - a.1,drop:=[8] }
 | 12=>some λ_=>.inv { α:=Nat×List FD,slots:=λa=>[(8,.c (.v (.int .i64 (a.1))))],res:=λa=>[(6,.deep 35 iH (a.2) 40 iD 1 (λj=>decide (j < (fs).length)) [])],inv:=λa=>a.1<=100/\VZ fs.length a.2,meas:=λa=>100 - a.1 }
 | 16=>some λ_=>.inv { α:=Nat×List VD,slots:=λa=>[(9,.c (.v (.int .i64 (a.1))))],res:=λa=>[(3,.row 42 ku (a.2))],inv:=λa=>a.1<=vs.length/\a.2.length=vs.length,meas:=λa=>vs.length - a.1 }
 | 20=>some λ_=>.inv { α:=Nat×List SD,slots:=λa=>[(10,.c (.v (.int .i64 (a.1))))],res:=λa=>[(7,.row 44 eU (a.2))],inv:=λa=>a.1<=ts.length/\a.2.length=ts.length,meas:=λa=>ts.length - a.1 }
 | 24=>some λ_=>.inv { α:=Nat×List ByteArray,slots:=λa=>[(11,.c (.v (.int .i64 (a.1))))],res:=λa=>[(4,.row 9 .str (a.2))],inv:=λa=>a.1<=ms.length/\a.2.length=ms.length,meas:=λa=>ms.length - a.1 }
 | 28=>some λ_=>.inv { α:=Nat×List ByteArray,slots:=λa=>[(12,.c (.v (.int .i64 (a.1))))],res:=λa=>[(5,.row 9 .str (a.2))],inv:=λa=>a.1<=cs.length/\a.2.length=cs.length,meas:=λa=>cs.length - a.1 }
 | _=>none
theorem acR(vs:List VD) (ms cs:List ByteArray) (fs:List FD) (ts:List SD) (vs2:List VD) (ms2 cs2:List ByteArray) (qX:List FD) (rO:List SD):
 let z24:=(vs,ms,cs,fs,ts,());let z20:=(z24,());let z18:=bnd z20;let z25:=bP vs ms cs fs ts;let z12:=[SC.sl ku vs2,SC.sl Sh.str ms2,SC.sl Sh.str cs2,SC.sl iH qX,SC.sl eU rO];let z11:=(!!gG z24 z24)=true->bnd z20;let z23:=(vs2,ms2,cs2,qX,rO,());let z5:=((!(!gG z24 z24 || !gG z24 z23 == gG z24 z23 || !gG z24 z24))=true->(aT fs).length<=1000000/\fs.length<=1000000/\∀(x:FD),x∈fs->List.length x.snd.fst<=1000000);let z8:=λ(x:Nat×List FD)=>[g0 z25,g0 (ay.blk 27 z12),g0 (ay.blk 27 BQ),g0 (ay.row 42 ku vs),g0 (ay.row 9 Sh.str ms),g0 (ay.row 9 Sh.str cs),g0 (ay.deep 35 iH x.snd 40 iD 1 (λj=>decide (j < fs.length)) []),g0 (ay.row 44 eU ts),g0 z25];let z17:=λ(x_1:Nat×List FD)=>x_1.fst<=100/\VZ fs.length x_1.snd;let IX:=λ(x x_1:Nat×List FD)=>0<=(x.fst:Int)/\(x.fst:Int) < (x_1.snd.length:Int);let z19:=λ(x:Nat×List FD)=>(x.fst:Int).toNat < fs.length;let z10:=λ(x x_1:Nat×List FD)=>decide (z19 x)=true/\false=false/\(x.fst:Int).toNat < x_1.snd.length;let z13:=λ(x_1:Nat×List FD) (d:FD)=>0<=(x_1.fst:Int)/\(x_1.fst:Int) < ((List.length d.snd.fst):Int);let z22:=λ(x_1:Nat×List FD)=>(x_1.fst:Int)+(1:Int);let z16:=λ(x_1 x':Nat×List FD)=>cI (z22 x_1)=cI (x'.fst:Int)/\True;let z2:=λ(x_1 x:Nat×List FD) (d0:FD) (y:ID)=>[g0 z25,g0 (ay.blk 27 z12),g0 (ay.blk 27 BQ),g0 (ay.row 42 ku vs),g0 (ay.row 9 Sh.str ms),g0 (ay.row 9 Sh.str cs),g0 (ay.deep 35 iH (x_1.snd.set (x.fst:Int).toNat (d0.fst,List.set d0.snd.fst (x_1.fst:Int).toNat (y.fst,y.2.fst,y.2.2.fst,y.2.2.2.fst,y.2.2.2.2.fst,(77:Int),y.2.2.2.2.2.snd),d0.snd.snd)) 40 iD 1 (λj=>decide (j < fs.length)) []),g0 (ay.row 44 eU ts),g0 z25];let z9:=λ(x x_1:Nat×List FD) (d:FD)=>(decide (z19 x)=false->(z13 x_1 d)/\∀(bV:ID),d.snd.fst[(x_1.fst:Int).toNat]?=some bV->False);let z1:=λ(x x_1:Nat×List FD)=>(iR (z22 x)/\∃(x':Nat×List FD),(x'.fst<=fs.length/\VZ fs.length x'.snd)/\(z16 x x')/\(z8 x_1)=(z8 x')/\fs.length - x'.fst < fs.length - x.fst);let z7:=λ(x_1:Nat×List VD) (x:Nat×List FD)=>[g0 z25,g0 (ay.blk 27 z12),g0 (ay.blk 27 BQ),g0 (ay.row 42 ku x_1.snd),g0 (ay.row 9 Sh.str ms),g0 (ay.row 9 Sh.str cs),g0 (ay.deep 35 iH x.snd 40 iD 1 (λj=>decide (j < fs.length)) []),g0 (ay.row 44 eU ts),g0 z25];let z6:=λ(x_1:Nat×List VD) (x:Nat×List FD) (x_2:Nat×List SD)=>[g0 z25,g0 (ay.blk 27 z12),g0 (ay.blk 27 BQ),g0 (ay.row 42 ku x_1.snd),g0 (ay.row 9 Sh.str ms),g0 (ay.row 9 Sh.str cs),g0 (ay.deep 35 iH x.snd 40 iD 1 (λj=>decide (j < fs.length)) []),g0 (ay.row 44 eU x_2.snd),g0 z25];let z4:=λ(x_1:Nat×List VD) (x_3:Nat×List ByteArray) (x:Nat×List FD) (x_2:Nat×List SD)=>[g0 z25,g0 (ay.blk 27 z12),g0 (ay.blk 27 BQ),g0 (ay.row 42 ku x_1.snd),g0 (ay.row 9 Sh.str x_3.snd),g0 (ay.row 9 Sh.str cs),g0 (ay.deep 35 iH x.snd 40 iD 1 (λj=>decide (j < fs.length)) []),g0 (ay.row 44 eU x_2.snd),g0 z25];let z21:=λ(x_3:Nat×List ByteArray)=>(x_3.fst:Int)+(1:Int);let Ed:=λ(x_3:Nat×List ByteArray)=>x_3.snd.set (x_3.fst:Int).toNat { data:=#[(63:UInt8)]:ByteArray };let z3:=λ(x_1:Nat×List VD) (x_3 BR:Nat×List ByteArray) (x:Nat×List FD) (x_2:Nat×List SD)=>[g0 z25,g0 (ay.blk 27 z12),g0 (ay.blk 27 BQ),g0 (ay.row 42 ku x_1.snd),g0 (ay.row 9 Sh.str x_3.snd),g0 (ay.row 9 Sh.str BR.snd),g0 (ay.deep 35 iH x.snd 40 iD 1 (λj=>decide (j < fs.length)) []),g0 (ay.row 44 eU x_2.snd),g0 z25];True/\((!!IU vs ms cs fs ts)=true->True)/\br (!IU vs ms cs fs ts || !IU vs2 ms2 cs2 qX rO) (True/\qB true true) ((z18/\∃v,v=0/\Nl/\[g0 z25,g0 (ay.blk 27 z12),g0 (ay.blk 27 BQ),g0 (ay.row 42 ku vs),g0 (ay.row 9 Sh.str ms),g0 (ay.row 9 Sh.str cs),g0 (ay.deep 35 iH fs 40 iD 1 (λj=>decide (j < List.length fs)) []),g0 (ay.row 44 eU ts)]=[g0 z25,g0 (ay.blk 27 z12),g0 (ay.blk 27 BQ),g0 (ay.row 42 ku vs),g0 (ay.row 9 Sh.str ms),g0 (ay.row 9 Sh.str cs),g0 (ay.deep 35 iH fs 40 iD 1 (λj=>decide (j < fs.length)) []),g0 (ay.row 44 eU ts)])/\∀(v:Nat),v=0->z18/\z11/\z11/\((!(!gG z24 z24 || !gG z24 z23 == gG z24 z23))=true->bnd z20)/\z5/\z5/\br (!gG z24 z24 || !gG z24 z23 == gG z24 z23 || !gG z24 z24 || !decide ((↑(aT fs).length:Int)=(↑(aT fs).length:Int))) (qB true false) (z18/\(∃(x:Nat×List FD),(x.fst<=fs.length/\VZ fs.length x.snd)/\(cI 0=cI (x.fst:Int)/\True)/\[g0 z25,g0 (ay.blk 27 z12),g0 (ay.blk 27 BQ),g0 (ay.row 42 ku vs),g0 (ay.row 9 Sh.str ms),g0 (ay.row 9 Sh.str cs),g0 (ay.deep 35 iH fs 40 iD 1 (λj=>decide (j < fs.length)) []),g0 (ay.row 44 eU ts),g0 z25]=(z8 x))/\∀(x:Nat×List FD),x.fst<=fs.length/\VZ fs.length x.snd->br (decide ((x.fst:Int) < (x.snd.length:Int))) ((0<=(x.fst:Int)/\(x.fst:Int) < (x.snd.length:Int))/\(x.fst:Int).toNat < x.snd.length/\∀(e0:FD),x.snd[(x.fst:Int).toNat]?=some e0->(∃(x_1:Nat×List FD),(z17 x_1)/\(cI 0=cI (x_1.fst:Int)/\True)/\[g0 z25,g0 (ay.blk 27 z12),g0 (ay.blk 27 BQ),g0 (ay.row 42 ku vs),g0 (ay.row 9 Sh.str ms),g0 (ay.row 9 Sh.str cs),g0 (ay.deep 35 iH (x.snd.set (x.fst:Int).toNat ({ data:=#[(63:UInt8)]:ByteArray },e0.snd)) 40 iD 1 (λj=>decide (j < fs.length)) []),g0 (ay.row 44 eU ts),g0 z25]=(z8 x_1))/\∀(x_1:Nat×List FD),x_1.fst<=100/\VZ fs.length x_1.snd->(IX x x_1)/\(x.fst:Int).toNat < x_1.snd.length/\∀(d:FD),x_1.snd[(x.fst:Int).toNat]?=some d->false=false/\(decide (z19 x)=true->(z10 x x_1)/\∀(d:FD),x_1.snd[(x.fst:Int).toNat]?=some d->br (decide ((x_1.fst:Int) < ((List.length d.snd.fst):Int))) ((IX x x_1)/\(x.fst:Int).toNat < x_1.snd.length/\∀(d:FD),x_1.snd[(x.fst:Int).toNat]?=some d->false=false/\(decide (z19 x)=true->(z10 x x_1)/\∀(d:FD),x_1.snd[(x.fst:Int).toNat]?=some d->(z13 x_1 d)/\(z10 x x_1)/\∀(d0:FD),x_1.snd[(x.fst:Int).toNat]?=some d0->(x_1.fst:Int).toNat < List.length d0.snd.fst/\∀(y:ID),d0.snd.fst[(x_1.fst:Int).toNat]?=some y->iR (z22 x_1)/\∃(x':Nat×List FD),(z17 x')/\(z16 x_1 x')/\(z2 x_1 x d0 y)=(z8 x')/\100 - x'.fst < 100 - x_1.fst)/\(z9 x x_1 d)) (z1 x x_1))/\(decide (z19 x)=false->br (decide ((x_1.fst:Int) < ((List.length d.snd.fst):Int))) ((IX x x_1)/\(x.fst:Int).toNat < x_1.snd.length/\∀(d:FD),x_1.snd[(x.fst:Int).toNat]?=some d->false=false/\(decide (z19 x)=true->(z10 x x_1)/\∀(d:FD),x_1.snd[(x.fst:Int).toNat]?=some d->(z13 x_1 d)/\(z10 x x_1)/\∀(d0:FD),x_1.snd[(x.fst:Int).toNat]?=some d0->(x_1.fst:Int).toNat < List.length d0.snd.fst/\∀(y:ID),d0.snd.fst[(x_1.fst:Int).toNat]?=some y->iR (z22 x_1)/\∃(x':Nat×List FD),(z17 x')/\(z16 x_1 x')/\(z2 x_1 x d0 y)=(z8 x')/\100 - x'.fst < 100 - x_1.fst)/\(z9 x x_1 d)) (z1 x x_1))) ((∃(x_1:Nat×List VD),(x_1.fst<=vs.length/\x_1.snd.length=vs.length)/\(cI 0=cI (x_1.fst:Int)/\True)/\(z8 x)=(z7 x_1 x))/\∀(x_1:Nat×List VD),x_1.fst<=vs.length/\x_1.snd.length=vs.length->br (decide ((x_1.fst:Int) < (x_1.snd.length:Int))) ((0<=(x_1.fst:Int)/\(x_1.fst:Int) < (x_1.snd.length:Int))/\(x_1.fst:Int).toNat < x_1.snd.length/\∀(e:VD),x_1.snd[(x_1.fst:Int).toNat]?=some e->iR ((x_1.fst:Int)+(1:Int))/\∃(x':Nat×List VD),(x'.fst<=vs.length/\x'.snd.length=vs.length)/\(cI ((x_1.fst:Int)+(1:Int))=cI (x'.fst:Int)/\True)/\[g0 z25,g0 (ay.blk 27 z12),g0 (ay.blk 27 BQ),g0 (ay.row 42 ku (x_1.snd.set (x_1.fst:Int).toNat (e.fst,(77:Int),e.2.snd))),g0 (ay.row 9 Sh.str ms),g0 (ay.row 9 Sh.str cs),g0 (ay.deep 35 iH x.snd 40 iD 1 (λj=>decide (j < fs.length)) []),g0 (ay.row 44 eU ts),g0 z25]=(z7 x' x)/\vs.length - x'.fst < vs.length - x_1.fst) ((∃(x_2:Nat×List SD),(x_2.fst<=ts.length/\x_2.snd.length=ts.length)/\(cI 0=cI (x_2.fst:Int)/\True)/\(z7 x_1 x)=(z6 x_1 x x_2))/\∀(x_2:Nat×List SD),x_2.fst<=ts.length/\x_2.snd.length=ts.length->br (decide ((x_2.fst:Int) < (x_2.snd.length:Int))) ((0<=(x_2.fst:Int)/\(x_2.fst:Int) < (x_2.snd.length:Int))/\(x_2.fst:Int).toNat < x_2.snd.length/\∀(e:Int×(I6.pair Sh.unit).den),x_2.snd[(x_2.fst:Int).toNat]?=some e->iR ((x_2.fst:Int)+(1:Int))/\∃(x':Nat×List SD),(x'.fst<=ts.length/\x'.snd.length=ts.length)/\(cI ((x_2.fst:Int)+(1:Int))=cI (x'.fst:Int)/\True)/\[g0 z25,g0 (ay.blk 27 z12),g0 (ay.blk 27 BQ),g0 (ay.row 42 ku x_1.snd),g0 (ay.row 9 Sh.str ms),g0 (ay.row 9 Sh.str cs),g0 (ay.deep 35 iH x.snd 40 iD 1 (λj=>decide (j < fs.length)) []),g0 (ay.row 44 eU (x_2.snd.set (x_2.fst:Int).toNat (e.fst,(77:Int),e.2.snd))),g0 z25]=(z6 x_1 x x')/\ts.length - x'.fst < ts.length - x_2.fst) ((∃(x_3:Nat×List ByteArray),(x_3.fst<=ms.length/\x_3.snd.length=ms.length)/\(cI 0=cI (x_3.fst:Int)/\True)/\(z6 x_1 x x_2)=(z4 x_1 x_3 x x_2))/\∀(x_3:Nat×List ByteArray),x_3.fst<=ms.length/\x_3.snd.length=ms.length->br (decide ((x_3.fst:Int) < (x_3.snd.length:Int))) ((0<=(x_3.fst:Int)/\(x_3.fst:Int) < (x_3.snd.length:Int))/\(x_3.fst:Int).toNat < x_3.snd.length/\iR (z21 x_3)/\∃(x':Nat×List ByteArray),(x'.fst<=ms.length/\x'.snd.length=ms.length)/\(cI (z21 x_3)=cI (x'.fst:Int)/\True)/\[g0 z25,g0 (ay.blk 27 z12),g0 (ay.blk 27 BQ),g0 (ay.row 42 ku x_1.snd),g0 (ay.row 9 Sh.str (Ed x_3)),g0 (ay.row 9 Sh.str cs),g0 (ay.deep 35 iH x.snd 40 iD 1 (λj=>decide (j < fs.length)) []),g0 (ay.row 44 eU x_2.snd),g0 z25]=(z4 x_1 x' x x_2)/\ms.length - x'.fst < ms.length - x_3.fst) ((∃(BR:Nat×List ByteArray),(BR.fst<=cs.length/\BR.snd.length=cs.length)/\(cI 0=cI (BR.fst:Int)/\True)/\(z4 x_1 x_3 x x_2)=(z3 x_1 x_3 BR x x_2))/\∀(BR:Nat×List ByteArray),BR.fst<=cs.length/\BR.snd.length=cs.length->br (decide ((BR.fst:Int) < (BR.snd.length:Int))) ((0<=(BR.fst:Int)/\(BR.fst:Int) < (BR.snd.length:Int))/\(BR.fst:Int).toNat < BR.snd.length/\iR (z21 BR)/\∃(x':Nat×List ByteArray),(x'.fst<=cs.length/\x'.snd.length=cs.length)/\(cI (z21 BR)=cI (x'.fst:Int)/\True)/\[g0 z25,g0 (ay.blk 27 z12),g0 (ay.blk 27 BQ),g0 (ay.row 42 ku x_1.snd),g0 (ay.row 9 Sh.str x_3.snd),g0 (ay.row 9 Sh.str (Ed BR)),g0 (ay.deep 35 iH x.snd 40 iD 1 (λj=>decide (j < fs.length)) []),g0 (ay.row 44 eU x_2.snd),g0 z25]=(z3 x_1 x_3 x' x x_2)/\cs.length - x'.fst < cs.length - BR.fst) (z18/\(gG z24 z24=true->True)/\qB true (gG z24 z24 && true)))))))):=by
 conv=>zeta
 delta BQ Nl iR;refine⟨trivial,λ_=>trivial,aA.2 ⟨λ_=>⟨trivial,rfl,rfl⟩,λh=>?_⟩⟩
 simp only[xP,Nr]at h;obtain⟨h1,h2⟩:=h;have B:bnd ((vs,ms,cs,fs,ts,()),()):=Nk h1;have sF:∀f∈fs,f.2.1.length<=100:=by
  intro f hf;unfold IU at h1;rw[A8,Ns]at h1;exact RQ (h1.2 f hf)
 have l4:fs.length<=1000000:=B.2.2.2.1;have l1:vs.length<=1000000:=B.1;have l2:ms.length<=1000000:=B.2.1;have l3:cs.length<=1000000:=B.2.2.1;have l5:ts.length<=1000000:=B.2.2.2.2.1;have SZ:(aT fs).length<=1000000/\fs.length<=1000000/\∀x∈fs,x.2.1.length<=1000000:=⟨B.2.2.2.2.2.2,B.2.2.2.1,B.2.2.2.2.2.1⟩
 refine⟨⟨B,0,rfl,⟨rfl,trivial⟩,rfl⟩,λv _=>⟨B,λ_=>B,λ_=>B,λ_=>B,λ_=>SZ,λ_=>SZ,aA.2 ⟨λh=>?_,λ_=>⟨B,⟨(0,fs),⟨by show 0<=_;omega,rfl,sF⟩,⟨rfl,trivial⟩,rfl⟩,λx hx=>aA.2 ⟨λg=>?_,λg=>⟨⟨(0,vs),⟨by show 0<=_;omega,rfl⟩,⟨rfl,trivial⟩,rfl⟩,λx hx=>aA.2 ⟨λg=>(by obtain⟨k,l⟩:=x;obtain⟨h1,h2⟩:=hx;have h1:k<=vs.length:=h1;have h2:l.length=vs.length:=h2;have g:(k:Int) < (l.length:Int):=RQ g;exact⟨⟨by omega,g⟩,by show(k:Int).toNat < l.length;omega,λe he=>⟨aX.2 (by omega),(k+1,_),⟨by show k+1<=_;omega,by rw[xu];exact h2⟩,⟨rfl,trivial⟩,rfl,by show vs.length - (k+1) < vs.length - k;omega⟩⟩),λg=>⟨⟨(0,ts),⟨by show 0<=_;omega,rfl⟩,⟨rfl,trivial⟩,rfl⟩,λx hx=>aA.2 ⟨λg=>(by obtain⟨k,l⟩:=x;obtain⟨h1,h2⟩:=hx;have h1:k<=ts.length:=h1;have h2:l.length=ts.length:=h2;have g:(k:Int) < (l.length:Int):=RQ g;exact⟨⟨by omega,g⟩,by show(k:Int).toNat < l.length;omega,λe he=>⟨aX.2 (by omega),(k+1,_),⟨by show k+1<=_;omega,by rw[xu];exact h2⟩,⟨rfl,trivial⟩,rfl,by show ts.length - (k+1) < ts.length - k;omega⟩⟩),λg=>⟨⟨(0,ms),⟨by show 0<=_;omega,rfl⟩,⟨rfl,trivial⟩,rfl⟩,λx hx=>aA.2 ⟨λg=>(by obtain⟨k,l⟩:=x;obtain⟨h1,h2⟩:=hx;have h1:k<=ms.length:=h1;have h2:l.length=ms.length:=h2;have g:(k:Int) < (l.length:Int):=RQ g;exact⟨⟨by omega,g⟩,by show(k:Int).toNat < l.length;omega,⟨aX.2 (by omega),(k+1,_),⟨by show k+1<=_;omega,by rw[xu];exact h2⟩,⟨rfl,trivial⟩,rfl,by show ms.length - (k+1) < ms.length - k;omega⟩⟩),λg=>⟨⟨(0,cs),⟨by show 0<=_;omega,rfl⟩,⟨rfl,trivial⟩,rfl⟩,λx hx=>aA.2 ⟨λg=>(by obtain⟨k,l⟩:=x;obtain⟨h1,h2⟩:=hx;have h1:k<=cs.length:=h1;have h2:l.length=cs.length:=h2;have g:(k:Int) < (l.length:Int):=RQ g;exact⟨⟨by omega,g⟩,by show(k:Int).toNat < l.length;omega,⟨aX.2 (by omega),(k+1,_),⟨by show k+1<=_;omega,by rw[xu];exact h2⟩,⟨rfl,trivial⟩,rfl,by show cs.length - (k+1) < cs.length - k;omega⟩⟩),λg=>⟨B,λ_=>trivial,rfl,by rw[fB rfl];rfl⟩⟩⟩⟩⟩⟩⟩⟩⟩⟩⟩⟩⟩⟩
 .rw[fB rfl]at h;simp at h
 .obtain⟨k,l⟩:=x;obtain⟨hk,hl⟩:=hx;have hk:k<=fs.length:=hk;have g:(k:Int) < (l.length:Int):=RQ g;have e1:l.length=fs.length:=hl.1;refine⟨⟨by omega,g⟩,by show(k:Int).toNat < l.length;omega,λe0 he0=>⟨⟨(0,_),⟨by show 0<=_;omega,KC hl (by exact hl.2 e0 (lI he0))⟩,⟨rfl,trivial⟩,rfl⟩,λy hy=>?_⟩⟩
  obtain⟨m,l2⟩:=y;obtain⟨hm,hl2⟩:=hy;have hm:m<=100:=hm;have e2:l2.length=fs.length:=hl2.1;have Gk:0<=(k:Int)/\(k:Int) < (l2.length:Int):=⟨by omega,by omega⟩
  have kN:(k:Int).toNat < l2.length:=by omega
  have kO:decide ((k:Int).toNat < fs.length)=true:=Sl (by omega)
  have no:∀{C:Prop},decide ((k:Int).toNat < fs.length)=false->C:=λq=>by rw[kO]at q;cases q
  refine⟨Gk,kN,λd hd=>⟨rfl,λ_=>⟨⟨kO,rfl,kN⟩,λd3 hd3=>aA.2 ⟨λg2=>⟨Gk,kN,λd1 hd1=>⟨rfl,λ_=>⟨⟨kO,rfl,kN⟩,λd2 hd2=>⟨?_,⟨kO,rfl,kN⟩,λd0 hd0=>?_⟩⟩,λq=>no q⟩⟩,λ_=>⟨aX.2 (by omega),(k+1,l2),⟨by show k+1<=_;omega,hl2⟩,⟨rfl,trivial⟩,rfl,by show fs.length - (k+1) < fs.length - k;omega⟩⟩⟩,λq=>no q⟩⟩
  .have g2:=RQ g2;cases hd3.symm.trans hd2;exact⟨by omega,g2⟩
  have g2:=RQ g2;cases hd3.symm.trans hd0;have hb:=hl2.2 d3 (lI hd3);exact⟨by omega,λy hy=>⟨aX.2 (by omega),(m+1,_),⟨by show m+1<=100;omega,KC hl2 (by show(List.set _ _ _).length<=100;rw[xu];exact hb)⟩,⟨rfl,trivial⟩,rfl,by show 100 - (m+1) < 100 - m;omega⟩⟩
theorem aaD:dA cZ.gd 3 acQ:=
 qW (cx:=cZ) (n:=136) (cl:=[(4,acy),(5,WZ),(6,Rn),(7,BP),(8,BP),(9,sZ),(10,sZ),(11,Ro)]) (rc:=[]) aO ⟨aaf,aak,aaB,aaz,aar,QX,VX,VY,trivial⟩ Tryd.func3 λd hd=>by
  obtain⟨⟨vs,ms,cs,fs,ts,⟨⟩⟩,⟨vs2,ms2,cs2,qX,rO,⟨⟩⟩,⟨⟩⟩:=d;exact fQ (aek vs ms cs fs ts vs2 ms2 cs2 qX rO) (acR vs ms cs fs ts vs2 ms2 cs2 qX rO) (by kernel_rfl)
open Go Go.lZ Go.ChangeShapes Go.WideShapes Go.ChangeAt Go.RowKit
theorem own:ownKnob Tryd.prog.godebug=none:=by kernel_rfl
theorem laidOut:laidOutB Tryd.prog=true:=by kernel_rfl
theorem rowed:mapsRowed Tryd.prog=true:=by kernel_rfl
theorem full:∀t e,t < Tryd.prog.types.size->Tryd.prog.underlying t=some (.slice e)->0 < Tryd.prog.cellsOf e:=slices_full_of _ (by kernel_rfl)
theorem aaE:Tryd.prog.globalNamed "modelcheck/inst.rows"=some 0:=by kernel_rfl
theorem aaF:(Tryd.prog.globals[0]?).map (·.type)=some 102:=by kernel_rfl
theorem acS:(nU Tryd.prog (.arr 22 (.pair .str (.pair (.arr 7 .bool) .unit)))).1 102=true:=by kernel_rfl
theorem aaG:Tryd.prog.globalNamed "modelcheck/value.names"=some 1:=by kernel_rfl
theorem aaH:(Tryd.prog.globals[1]?).map (·.type)=some 120:=by kernel_rfl
theorem acT:(nU Tryd.prog (.arr 10 .str)).1 120=true:=by kernel_rfl
noncomputable def laidWorld (os:Os):World:=
 { World.holding Tryd.prog os ⟨#[],#[],[]⟩with heap:=(((World.holding Tryd.prog os ⟨#[],#[],[]⟩).heap).modify 0 (lay #[.string ⟨#[99,111,110,115,116]⟩,.bool true,.bool false,.bool false,.bool false,.bool true,.bool false,.bool false,.string ⟨#[99,111,112,121]⟩,.bool true,.bool true,.bool false,.bool false,.bool false,.bool false,.bool false,.string ⟨#[99,97,108,99]⟩,.bool true,.bool true,.bool true,.bool false,.bool false,.bool true,.bool false,.string ⟨#[106,117,109,112]⟩,.bool false,.bool false,.bool false,.bool false,.bool true,.bool false,.bool false,.string ⟨#[98,114,97,110,99,104]⟩,.bool false,.bool true,.bool false,.bool false,.bool true,.bool false,.bool false,.string ⟨#[97,115,115,101,114,116]⟩,.bool false,.bool true,.bool false,.bool false,.bool false,.bool false,.bool false,.string ⟨#[115,116,111,112]⟩,.bool false,.bool false,.bool false,.bool false,.bool false,.bool false,.bool false,.string ⟨#[108,111,97,100]⟩,.bool true,.bool false,.bool false,.bool true,.bool false,.bool false,.bool true,.string ⟨#[115,116,111,114,101]⟩,.bool false,.bool true,.bool false,.bool true,.bool false,.bool false,.bool true,.string ⟨#[115,119,97,112]⟩,.bool true,.bool true,.bool false,.bool true,.bool false,.bool false,.bool true,.string ⟨#[102,101,116,99,104,97,100,100]⟩,.bool true,.bool true,.bool false,.bool true,.bool false,.bool false,.bool true,.string ⟨#[99,97,115]⟩,.bool true,.bool true,.bool true,.bool true,.bool false,.bool false,.bool true,.string ⟨#[102,101,110,99,101]⟩,.bool false,.bool false,.bool false,.bool false,.bool false,.bool false,.bool false,.string ⟨#[97,119,97,105,116]⟩,.bool true,.bool true,.bool false,.bool true,.bool false,.bool true,.bool true,.string ⟨#[108,111,99,107]⟩,.bool false,.bool false,.bool false,.bool true,.bool false,.bool false,.bool false,.string ⟨#[117,110,108,111,99,107]⟩,.bool false,.bool false,.bool false,.bool true,.bool false,.bool false,.bool false,.string ⟨#[116,114,121,108,111,99,107]⟩,.bool true,.bool false,.bool false,.bool true,.bool false,.bool false,.bool false,.string ⟨#[119,97,105,116]⟩,.bool false,.bool false,.bool false,.bool true,.bool true,.bool false,.bool false,.string ⟨#[115,105,103,110,97,108]⟩,.bool false,.bool false,.bool false,.bool true,.bool false,.bool false,.bool false,.string ⟨#[98,114,111,97,100,99,97,115,116]⟩,.bool false,.bool false,.bool false,.bool true,.bool false,.bool false,.bool false,.string ⟨#[115,112,97,119,110]⟩,.bool true,.bool true,.bool false,.bool true,.bool false,.bool false,.bool false,.string ⟨#[106,111,105,110]⟩,.bool false,.bool true,.bool false,.bool false,.bool false,.bool false,.bool false])).modify 1 (lay #[.string ⟨#[97,100,100]⟩,.string ⟨#[115,117,98]⟩,.string ⟨#[109,117,108]⟩,.string ⟨#[97,110,100]⟩,.string ⟨#[111,114]⟩,.string ⟨#[120,111,114]⟩,.string ⟨#[101,113]⟩,.string ⟨#[110,101]⟩,.string ⟨#[108,116]⟩,.string ⟨#[108,101]⟩]) }
namespace programCopiesL
theorem globs{W:World} (hL:laidMetH Tryd.prog Rows.programCopiesRow.laid W):aB gd0 (FH.all W):=by
 intro g p hp;unfold gd0 at hp;split at hp
 .cases hp;exact BG hL (by kernel_rfl) (n:= "modelcheck/inst.rows") (D:=Rows.laid_modelcheck_inst_rows) (by simp[Rows.programCopiesRow]) aaE aaF acS (by kernel_rfl)
 .cases hp;exact BG hL (by kernel_rfl) (n:= "modelcheck/value.names") (D:=Rows.laid_modelcheck_value_names) (by simp[Rows.programCopiesRow]) aaG aaH acT (by kernel_rfl)
 .cases hp
theorem laid_met(os:Os):laidMet Tryd.prog Rows.programCopiesRow.laid ((laidWorld os).forCall (λ_ _=>0) ⟨#[],#[.agg #[.slice none 0 0,.slice none 0 0,.slice none 0 0,.slice none 0 0,.slice none 0 0],.agg #[.slice none 0 0,.slice none 0 0,.slice none 0 0,.slice none 0 0,.slice none 0 0]],[]⟩).memory:=
 laidMet_of_run' 20 (by kernel_rfl) (by kernel_rfl)
theorem reads(os:Os){H:Type} (enc:TypeId×Value->H):∃places,DataW.whole enc Tryd.prog ((laidWorld os).forCall (λ_ _=>0) ⟨#[],#[.agg #[.slice none 0 0,.slice none 0 0,.slice none 0 0,.slice none 0 0,.slice none 0 0],.agg #[.slice none 0 0,.slice none 0 0,.slice none 0 0,.slice none 0 0,.slice none 0 0]],[]⟩).memory Tryd.f3.params.toList Rows.programCopiesSpec.vars false (#[.agg #[.slice none 0 0,.slice none 0 0,.slice none 0 0,.slice none 0 0,.slice none 0 0],.agg #[.slice none 0 0,.slice none 0 0,.slice none 0 0,.slice none 0 0,.slice none 0 0]]:Array Value).toList 20=some ([.agg [.nil,.nil,.nil,.nil,.nil],.agg [.nil,.nil,.nil,.nil,.nil]],[],places):=
 ⟨[],by kernel_rfl⟩
theorem lifted(os:Os) (started:os.Started) (H:Type) (enc:TypeId×Value->H) (F:Stop.Interp):
 ReturnsInHanded {} Tryd.checked os 3 .any ((OpenSpec.ofChange Rows.programCopiesSpec).preRow enc Tryd.prog Tryd.f3 Rows.programCopiesRow.domain false Rows.programCopiesRow.laid) (((OpenSpec.ofChange Rows.programCopiesSpec).at F).post enc Tryd.prog Tryd.f3 false true false false):=by
 obtain⟨places,hx⟩:=reads os enc;refine returnsInHanded_of_row (C:=Tryd.checked) (s:=OpenSpec.ofChange Rows.programCopiesSpec) own started (by kernel_rfl) Tryd.func3
  (witness_row_at (enc:=enc) (C:=Tryd.checked) false (laidWorld os) #[.agg #[.slice none 0 0,.slice none 0 0,.slice none 0 0,.slice none 0 0,.slice none 0 0],.agg #[.slice none 0 0,.slice none 0 0,.slice none 0 0,.slice none 0 0,.slice none 0 0]] rfl (by kernel_rfl) (by kernel_rfl) (by kernel_rfl)
   (OpenSpec.preRow_of_cond 20 hx (by kernel_rfl) (λk hk=>by cases hk) (by kernel_rfl) (laid_met os))) ?_
 intro W base args ds gs before hval hW _ hcond hwt hL _ _;refine MV (fn:=Tryd.f3) aaD laidOut rowed full (by decide +kernel) (t:=4) (by kernel_rfl) (by kernel_rfl) rfl (by kernel_rfl) (λ_=>rfl) (λd hd hwf=>?_) hval hW (globs hL)
 match ds,BD hd with
 | [d0,d1],_=>exact⟨rfl,by trivial⟩
theorem said:Rows.ProgramCopiesSaid:=
 OpenClaim.holds_of_cond 3 Tryd.f3 rfl rfl rfl rfl rfl rfl rfl ⟨rfl,rfl,rfl,rfl,rfl⟩ rfl rfl rfl rfl rfl (by kernel_rfl) Tryd.func3 (by kernel_rfl)
  (RQ (by kernel_rfl)) (by unfold Func.isWrapper;first | (rw[if_pos (by decide +kernel)];kernel_rfl) | (rw[if_neg (by decide +kernel)];exact⟨rfl,rfl⟩))
  (λos started H enc _ F=>by rw[OpenClaim.pre_eq_preRow];exact lifted os started H enc F)
theorem plain(f:FuncId) (fn:Func) (hf:Tryd.pinned.checked.prog.funcNamed "modelcheck/modelchecklaw08.ProgramCopies"=some f) (hfn:Tryd.pinned.checked.prog.funcs[f]?=some fn):
 false=Tryd.pinned.checked.prog.looks []/\∀(j:Nat) t,fn.params[j]?=some t->Tryd.pinned.checked.prog.wantsStandIn t=false:=by
 obtain rfl:f=3:=Rw ((show Tryd.prog.funcNamed "modelcheck/modelchecklaw08.ProgramCopies"=some 3 by kernel_rfl).symm.trans hf) |>.symm
 obtain rfl:fn=Tryd.f3:=(Rw (Tryd.func3.symm.trans hfn)).symm;refine⟨by kernel_rfl,λj t ht=>?_⟩
 have hm:t∈Tryd.f3.params.toList:=lI (by simpa using ht)
 have key:∀t∈Tryd.f3.params.toList,Tryd.prog.wantsStandIn t=false:=by decide +kernel
 exact key t hm
theorem card:Rows.ProgramCopiesCardSaid:=
 Claim7.holds_tied_plain_at .later [] _ _ _ _ said (λ_ h=>by cases h) (by kernel_rfl) (λ_ h=>by cases h) programCopies_row_tie rfl ⟨rfl,rfl⟩ (by kernel_rfl) rfl plain (by kernel_rfl)
end programCopiesL
end Go.Proofs.YtaagmchgokmdgaaDoor
