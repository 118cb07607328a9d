/- Texts of this claim, part 12: Y6, Y7, X2, X3, X4, Y8, Y9, M13, Y10, X5. Conditions: those of the given rows. -/
import Derived.Test.YtjhenjhcbcalpaaGreatDoorB11
set_option linter.unusedSimpArgs false
set_option linter.unusedVariables false
set_option maxRecDepth 1000000
set_option maxHeartbeats 8000000
namespace Go.Proofs.YtjhenjhcbcalpaaGreatDoor
open Go Go.aV
noncomputable section
abbrev cxR:Cx:={ ti:=tis,gd:=gd0,rt:=true }
def insL(l:List TD) (id:Int) (u:TD):List TD:=l.takeWhile (λt=>decide (t.1 < id))++[u]++l.dropWhile (λt=>decide (t.1 < id))
def tY(e:Int) (fs:List FD) (bound:Int) (z:ZD) (id fn arg:Int):ZD×Int:=
 if 0≤eX (λt=>decide (t.1=id)) z.1 then(zZ,30) else if(newS e fs bound id fn arg).2≠0 then(zZ,30) else((insL z.1 id (newS e fs bound id fn arg).1,z.2),0)
theorem D7{S:ZD×Int}{L:List TD}{mv mo:List Int}{mq:List (List Int)}{mg:List Int}{bf:List BD}{e:Int} (h:S=((L,(mv,mo,mq,mg,()),bf,()),e)):[aj.row 56 dQ S.1.1]=[aj.row 56 dQ L]∧aT.gX [.agg [.row 0,.sl I6 S.1.2.1.1,.sl I6 S.1.2.1.2.1,.sl I6.sl S.1.2.1.2.2.1,.sl I6 S.1.2.1.2.2.2.1,.sl yH S.1.2.2.1],cI S.2]=aT.gX [.agg [.row 0,.sl I6 mv,.sl I6 mo,.sl I6.sl mq,.sl I6 mg,.sl yH bf],cI e]:=by
 subst h;exact⟨rfl,rfl⟩
def H6(l:List TD) (x:Nat):List TD:=List.take (List.length (List.replicate ((l.length:Int)+(1:Int)).toNat zR)) (List.drop 0 (List.take (x:Int).toNat l))++List.drop (List.length (List.drop 0 (List.take (x:Int).toNat l))) (List.replicate ((l.length:Int)+(1:Int)).toNat zR)
theorem Vz{l:List TD}{x:Nat} (h:x≤l.length):H6 l x=l.take x++List.replicate (l.length+1 - x) zR:=by
 unfold H6;have e:((l.length:Int)+(1:Int)).toNat=l.length+1:=by omega
 rw[e,wM,X7,Ya,tZ (by rw[ku];omega),ku,AB h,List.drop_replicate]
theorem Pz{l:List TD}{x:Nat} (h:x≤l.length):(H6 l x).length=l.length+1:=by
 rw[Vz h,kD,ku,wM];omega
theorem ajb{l:List TD}{x:Nat} (h:x≤l.length) (u:TD):List.take ((x:Int)+(1:Int)).toNat ((H6 l x).set (x:Int).toNat u)++(List.take (List.length ((H6 l x).set (x:Int).toNat u) - ((x:Int)+(1:Int)).toNat) (List.drop (x:Int).toNat (List.take (l.length:Int).toNat l))++List.drop (List.length (List.drop (x:Int).toNat (List.take (l.length:Int).toNat l))) (List.drop ((x:Int)+(1:Int)).toNat ((H6 l x).set (x:Int).toNat u)))=l.take x++[u]++l.drop x:=by
 have e:((x:Int)+(1:Int)).toNat=x+1:=by omega
 have hl:(l.take x).length=x:=by rw[ku];omega
 have hs:(H6 l x).set x u=l.take x++[u]++List.replicate (l.length - x) zR:=by
  rw[Vz h,show l.length+1 - x=l.length - x+1 by omega,Yi,VU _ _ (by omega),hl,akF,aeA,uO];rfl
 have hn:(l.take x++[u]).length=x+1:=by rw[kD,hl];rfl
 rw[e,Ya,Ya,aeG,pX,Pz h,hs];have a1:List.take (x+1) (l.take x++[u]++List.replicate (l.length - x) zR)=l.take x++[u]:=by
  rw[VN (by omega),tZ (by omega)]
 have a2:List.drop (x+1) (l.take x++[u]++List.replicate (l.length - x) zR)=List.replicate (l.length - x) zR:=by
  rw[Yg (by omega),H9 (by omega),L9]
 have a3:List.take (l.length+1 - (x+1)) (List.drop x l)=List.drop x l:=tZ (by rw[xB];omega)
 have a4:List.drop (List.drop x l).length (List.replicate (l.length - x) zR)=[]:=H9 (by rw[wM,xB];omega)
 rw[a1,a2,a3,a4,XZ]
theorem arI{l:List TD}{x:Nat}{p:TD→Bool} (h:x≤l.length) (h1:∀(j:Nat),j < x→∀t,l[j]?=some t→p t=true) (h2:∀t,l[x]?=some t→p t=false):l.takeWhile p=l.take x∧l.dropWhile p=l.drop x:=by
 induction l generalizing x with
 | nil=>simp
 | cons a l ih=>
   cases x with
   | zero=>
     have:=h2 a rfl;simp[this]
   | succ x=>
     have ha:=h1 0 (by omega) a rfl
     have:=ih (x:=x) (by simpa using h) (λj hj t ht=>h1 (j+1) (by omega) t (by simpa using ht)) (λt ht=>h2 t (by simpa using ht))
     simp[ha,this]
theorem ajc{l:List TD}{x:Nat}{id:Int} (h:x≤l.length) (h1:∀(j:Nat),j < x→∀t,l[j]?=some t→t.1 < id) (h2:∀t,l[x]?=some t→¬t.1 < id) (u:TD):insL l id u=l.take x++[u]++l.drop x:=by
 have:=arI (p:=λt=>decide (t.1 < id)) h (λj hj t ht=>by simpa using h1 j hj t ht) (λt ht=>by simpa using h2 t ht)
 unfold insL;rw[this.1,this.2]
abbrev adM:CT:={ ps:=[oH,.int .i64,Lr,.int .i64,.int .i64,.int .i64],pre:=λd=>bnd (d.1,())∧iK d.2.2.1.1∧d.2.2.2.1≤9223372036854775807,res:=λd=>([.row 56 dQ (tY (aB d.1.1 d.1.2.1 d.1.2.2.1 d.1.2.2.2.1 d.1.2.2.2.2.1).1 d.1.2.2.2.1 d.2.1 d.2.2.1 d.2.2.2.1 d.2.2.2.2.1 d.2.2.2.2.2.1).1.1],.gX [.agg [.row 0,.sl (.int .i64) ((tY (aB d.1.1 d.1.2.1 d.1.2.2.1 d.1.2.2.2.1 d.1.2.2.2.2.1).1 d.1.2.2.2.1 d.2.1 d.2.2.1 d.2.2.2.1 d.2.2.2.2.1 d.2.2.2.2.2.1).1).2.1.1,.sl (.int .i64) ((tY (aB d.1.1 d.1.2.1 d.1.2.2.1 d.1.2.2.2.1 d.1.2.2.2.2.1).1 d.1.2.2.2.1 d.2.1 d.2.2.1 d.2.2.2.1 d.2.2.2.2.1 d.2.2.2.2.2.1).1).2.1.2.1,.sl (.sl (.int .i64)) ((tY (aB d.1.1 d.1.2.1 d.1.2.2.1 d.1.2.2.2.1 d.1.2.2.2.2.1).1 d.1.2.2.2.1 d.2.1 d.2.2.1 d.2.2.2.1 d.2.2.2.2.1 d.2.2.2.2.2.1).1).2.1.2.2.1,.sl (.int .i64) ((tY (aB d.1.1 d.1.2.1 d.1.2.2.1 d.1.2.2.2.1 d.1.2.2.2.2.1).1 d.1.2.2.2.1 d.2.1 d.2.2.1 d.2.2.2.1 d.2.2.2.2.1 d.2.2.2.2.2.1).1).2.1.2.2.2.1,.sl yH ((tY (aB d.1.1 d.1.2.1 d.1.2.2.1 d.1.2.2.2.1 d.1.2.2.2.2.1).1 d.1.2.2.2.1 d.2.1 d.2.2.1 d.2.2.2.1 d.2.2.2.2.1 d.2.2.2.2.2.1).1).2.2.1],.c (.v (.int .i64 ((tY (aB d.1.1 d.1.2.1 d.1.2.2.1 d.1.2.2.2.1 d.1.2.2.2.2.1).1 d.1.2.2.2.1 d.2.1 d.2.2.1 d.2.2.2.1 d.2.2.2.2.1 d.2.2.2.2.2.1).2)))]) }
@[reducible] def arJ (vs:List VD) (ms cs:List ByteArray) (fs:List FD) (ts:List SD) (bound:Int) (th:List TD) (mv mo:List Int) (mq:List (List Int)) (mg:List Int) (bf:List BD) (id fn arg:Int):Nat→Option (St→iC):=λk=>match k with
  | 8=>some λ_=>.inv { α:=Nat,slots:=λk=>[(18,.c (.v (.int .i64 k)))],res:=λ_=>[],inv:=λk=>k≤th.length∧∀j < k,∀t,th[j]?=some t→t.1 < id,meas:=λk=>th.length - k }
  | _=>none
theorem aoJ(vs:List VD) (ms cs:List ByteArray) (fs:List FD) (ts:List SD) (bound:Int) (th:List TD) (mv mo:List Int) (mq:List (List Int)) (mg:List Int) (bf:List BD) (id fn arg:Int) (aA:adM.pre ((vs,ms,cs,fs,ts,()),bound,(th,(mv,mo,mq,mg,()),bf,()),id,fn,arg,())):
 let z10:=tY (aB vs ms cs fs ts).fst fs bound (th,(mv,mo,mq,mg,()),bf,()) id fn arg;let z5:=[aj.row 56 dQ z10.fst.fst];let z1:=[SV.agg [SC.row 0,SC.sl I6 z10.fst.snd.fst.fst,SC.sl I6 z10.fst.snd.fst.snd.fst,SC.sl I6.sl z10.fst.snd.fst.snd.snd.fst,SC.sl I6 z10.fst.snd.fst.snd.snd.snd.fst,SC.sl yH z10.fst.snd.snd.fst],cI (z10.snd)];let z6:=z5=[aj.row 56 dQ []]∧aT.gX z1=aT.gX [SV.agg [SC.row 0,SC.sl I6 [],SC.sl I6 [],SC.sl I6.sl [],SC.sl I6 [],SC.sl yH []],cI 30];let z13:=newS (aB vs ms cs fs ts).fst fs bound id fn arg;let z11:=λ(x:Nat)=>(x≤th.length∧∀(j:Nat),j < x→∀(t:TD),th[j]?=some t→t.fst < id);let z4:=[g0 (bP vs ms cs fs ts),g0 (bZ th mv mo mq mg bf),g0 (aj.blk 37 kq1),g0 (aj.obj 56 dQ z13.fst)];let oh:=λ(x:Nat)=>(↑x:Int) < (↑th.length:Int);let CB:=λ(x:Nat)=>(↑x:Int)+(1:Int);let oO:=(↑th.length:Int)+(1:Int);let z9:=λ(x:Nat)=>(H6 th x).set (↑x:Int).toNat z13.fst;let z3:=λ(x:Nat)=>0≤(↑x:Int)+(1:Int)∧(↑x:Int)+1≤(↑(z9 x).length:Int);let z7:=λ(x:Nat)=>0≤(↑x:Int)∧(↑x:Int)≤(↑th.length:Int)∧(↑th.length:Int)≤(↑th.length:Int);let z12:=λ(x:Nat)=>List.drop (↑x:Int).toNat (List.take (↑th.length:Int).toNat th);let z2:=λ(x:Nat)=>[aj.row 56 dQ (List.take (CB x).toNat (z9 x)++(List.take ((z9 x).length - (CB x).toNat) (z12 x)++List.drop (z12 x).length (List.drop (CB x).toNat (z9 x))))];let z8:=[SV.agg [SC.row 0,SC.sl I6 mv,SC.sl I6 mo,SC.sl I6.sl mq,SC.sl I6 mg,SC.sl yH bf],cI 0];th.length≤1000000∧br (decide (0≤eX (λt=>decide (t.fst=id)) th)) z6 (((bnd ((vs,ms,cs,fs,ts,()),()))∧id≤9223372036854775807)∧br (!decide (z13.snd=0)) z6 ((∃x,(z11 x)∧(cI 0=cI (↑x:Int)∧True)∧sm z4)∧∀(x:Nat),(z11 x)→(decide (oh x)=true→0≤(↑x:Int)∧(↑x:Int) < (↑th.length:Int))∧∀(d:TD),(decide (oh x)=true→th[(↑x:Int).toNat]?=some d)→br (decide (oh x) && decide (d.fst < id)) (cZ IntKind.i64 (CB x)∧∃x',(z11 x')∧(cI (CB x)=cI (↑x':Int)∧True)∧sm z4∧th.length - x' < th.length - x) (cZ IntKind.i64 oO∧(0≤(↑th.length:Int)+(1:Int)∧(↑th.length:Int)+1≤(↑th.length:Int)+(1:Int)∧jS oO.toNat 152)∧((0:Int)≤(0:Int)∧0≤(↑x:Int)∧(↑x:Int)≤(↑th.length:Int))∧(0≤(↑x:Int)∧(↑x:Int) < (↑(H6 th x).length:Int))∧(↑x:Int).toNat < (H6 th x).length∧cZ IntKind.i64 (CB x)∧((z3 x)∧(z7 x)∧z5=(z2 x)∧aT.gX z1=aT.gX z8)∧(z7 x)∧(z3 x)∧z5=(z2 x)∧aT.gX z1=aT.gX z8))):=by
 conv=>zeta
 delta kq1;obtain⟨hb,⟨hl,hT⟩,hid⟩:bnd ((vs,ms,cs,fs,ts,()),())∧iK th∧id≤9223372036854775807:=aA;refine⟨hl,ah.2 ⟨λh=>D7 ?_,λh=>⟨⟨hb,hid⟩,ah.2 ⟨λh2=>D7 ?_,λh2=>⟨⟨0,⟨by omega,λj hj=>by omega⟩,⟨rfl,trivial⟩,rfl⟩,λx hx=>⟨λg=>⟨by omega,by simpa using g⟩,λd hd=>ah.2 ⟨λg=>?_,λg=>?_⟩⟩⟩⟩⟩⟩⟩
 ·unfold tY;rw[if_pos (A83 h)];rfl
 ·have h:=A97 h;unfold tY;rw[if_neg h,if_pos (by simpa using h2)];rfl
 ·simp only[A8,dG]at g;have hd:=hd (by simpa using g.1)
  rw[Ya]at hd;refine⟨au.2 (by omega),x+1,⟨by omega,λj hj t ht=>?_⟩,⟨rfl,trivial⟩,rfl,by omega⟩
  by_cases q:j=x
  ·subst q;rw[hd]at ht;cases ht;exact g.2
  ·exact hx.2 j (by omega) t ht
 ·have hn:=Pz hx.1;have hf:tY (aB vs ms cs fs ts).1 fs bound (th,(mv,mo,mq,mg,()),bf,()) id fn arg=((th.take x++[(newS (aB vs ms cs fs ts).1 fs bound id fn arg).1]++th.drop x,(mv,mo,mq,mg,()),bf,()),0):=by
   have h:=A97 h;unfold tY;rw[if_neg h,if_neg (by simpa using h2),ajc hx.1 hx.2 (λt ht=>?_)]
   have iO:x < th.length:=(eU.1 ht).1;have hd:=hd (by simpa using iO)
   rw[Ya,ht]at hd;cases hd;simp only[A86,dh]at g;omega
  rw[ajb hx.1];rw[pX,hn,Ya];refine⟨au.2 (by omega),⟨by omega,by omega,bI.2 (by omega)⟩,⟨by omega,by omega,by omega⟩,⟨by omega,by omega⟩,by omega,au.2 (by omega),⟨⟨by omega,by omega⟩,⟨by omega,by omega,by omega⟩,D7 hf⟩,⟨by omega,by omega,by omega⟩,⟨by omega,by omega⟩,D7 hf⟩
theorem ajd:Go.aV.Met Tryz.prog cxR.gd 50 adM:=
 bW (cx:=cxR) (n:=85) (cl:=[(52,xA),(34,UY)]) (rc:=[.hd 56 dQ shR,.keep]) ay ⟨DZ,UZ,trivial⟩ Tryz.func50 λd hd=>by
  obtain⟨⟨vs,ms,cs,fs,ts,⟨⟩⟩,bound,⟨th,⟨mv,mo,mq,mg,⟨⟩⟩,bf,⟨⟩⟩,id,fn,arg,⟨⟩⟩:=d;exact aH (arJ vs ms cs fs ts bound th mv mo mq mg bf id fn arg) (aoJ vs ms cs fs ts bound th mv mo mq mg bf id fn arg hd) (by kernel_rfl)
def stT(l:List TD) (id:Int) (u:TD):List TD:=l.set (dX (eX (λt=>decide (t.1=id)) l) 0).toNat u
def kU(vs:List VD) (ms cs:List ByteArray) (fs:List FD) (ts:List SD) (bound:Int) (z:ZD) (id:Int):ZD×ED×Int:=
 if bM (aB vs ms cs fs ts).1 bound≠0 then(zZ,zE,bM (aB vs ms cs fs ts).1 bound)
 else if vsB vs ms cs fs ts bound z.1 z.2.1 z.2.2.1=false then(zZ,zE,1)
 else match jm (aB vs ms cs fs ts).1 ms fs z.1 id with
 | (t,i,ok)=>if(ok && CY z.1 z.2.1 t i)=false then(zZ,zE,19)
   else if(jF z.2.1 (labS z.2.1 t i)).2≠0 then(zZ,zE,30)
   else if(labS z.2.1 t i).2.2.1=16∧0≤eX (λu=>decide (u.1=(labS z.2.1 t i).2.2.2.1)) z.1 then(zZ,zE,30)
   else((stT (if(labS z.2.1 t i).2.2.1=16 then insL z.1 (labS z.2.1 t i).2.2.2.1 (newS (aB vs ms cs fs ts).1 fs bound (labS z.2.1 t i).2.2.2.1 i.2.2.2.2.1 (t.2.2.2.1.getD i.2.2.1.toNat 0)).1 else z.1) id
    (gY (aB vs ms cs fs ts).1 ms fs bound t (uM i (labS z.2.1 t i))).1,(jF z.2.1 (labS z.2.1 t i)).1,[],()),labS z.2.1 t i,0)
theorem adN(m:MD) (t:TD) (i:ID):(labS m t i).1=t.1:=by
 have key:∀(c:Prop) [Decidable c] (a b:ED),a.1=t.1→b.1=t.1→(if c then a else b).1=t.1:=by
  intro c _ a b ha hb;split
  ·exact ha
  ·exact hb
 unfold labS
 repeat' (first | rfl | (apply key))
theorem D8{m:MD}{t:TD}{i:ID} (hv:8≤i.1∧i.1≤22):(labS m t i).2.2.1=16↔i.1=21:=by
 have key:∀(c:Prop) [Decidable c] (a b:ED),¬a.2.2.1=16→¬b.2.2.1=16→¬(if c then a else b).2.2.1=16:=by
  intro c _ a b ha hb;split
  ·exact ha
  ·exact hb
 constructor
 ·intro h
  by_cases q:i.1=21
  ·exact q
  ·exfalso;revert h;unfold labS;rw[if_neg q]
   repeat' (first | (apply key) | simp)
 ·intro h;unfold labS;simp[h]
theorem D9{m:MD}{t:TD}{i:ID} (h:i.1=21):(labS m t i).2.2.2.1=(dB t.1 t.2.2.2.2.2.1).1:=by
 unfold labS;simp[h]
theorem LJ{m:MD}{i id f t:Int} (h:nO m=true):nO (ig m i id f t).1=true:=by
 unfold ig;split
 ·split
  ·rfl
  ·split
   ·obtain⟨vs,os,qs,sg,⟨⟩⟩:=m;unfold nO at h ⊢
    simpa using h
   ·rfl
 ·rfl
theorem VA{m:MD} (h:nO m=true) (e:ED):aZ (jF m e).1:=by
 have hw:∀x v,aZ (writeM m x v).1:=by
  intro x v;unfold writeM
  repeat' split
  all_goals first | exact GK | skip
  obtain⟨h1,h2⟩:=ng h;exact⟨by rw[pX];exact h1,h2⟩
 unfold jF
 repeat' split
 all_goals first | exact hw _ _ | exact LD (ng h) | exact aja (LJ h) | exact adL h | exact aoI h | exact ng h
theorem LK{vs:List VD}{ms cs:List ByteArray}{fs:List FD}{ts:List SD}{bound:Int}{l:List TD}{m:MD}{bf:List BD}{id:Int}{t:TD}{i:ID} (hV:VS vs ms cs fs ts bound l m bf) (hM:aZ m) (hT:iK l) (h:jm (aB vs ms cs fs ts).1 ms fs l id=(t,i,true)):
 t∈l∧t.1=id∧kJ m t i∧lH fs t.2.1 t.2.2.1=some i∧t.2.2.2.2.2.2.2.1=1∧qQ ms fs bound t:=by
 unfold jm at h;cases ef:wP l id with
 | none=>rw[ef]at h;cases h
 | some u=>
   rw[ef]at h;simp only[A91]at h;obtain⟨h1,h2,h3⟩:=h;subst h1;have hm:=List.mem_of_find?_eq_some ef;have hp:=D5 hV.1 hM (hT.2 u hm) h3;have hq:=Pn h3;rw[h2]at hp hq;exact⟨hm,by simpa using aeD ef,hp,hq.2.2.2,hq.2.1,(hV.2.2.1 u hm).2⟩
theorem kK{S:ZD×ED×Int}{a:ZD}{b:ED}{c:Int} (h:S=(a,b,c)):rT [CX S.1,BM S.2.1,cI S.2.2] [CX a,BM b,cI c]:=by subst h;exact⟨rfl,rfl⟩
theorem BP{vs:List VD}{ms cs:List ByteArray}{fs:List FD}{ts:List SD}{bound:Int}{t:TD}{i:ID} (hs:bM (aB vs ms cs fs ts).1 bound=0) (hV:qQ ms fs bound t) (h1:t.2.2.2.2.2.2.2.1=1) (ha:lH fs t.2.1 t.2.2.1=some i) (hi:i.1=21) (hl:t.2.2.2.1.length=8):
 (dB t.1 t.2.2.2.2.2.1).2=true∧(newS (aB vs ms cs fs ts).1 fs bound (dB t.1 t.2.2.2.2.2.1).1 i.2.2.2.2.1 (t.2.2.2.1.getD i.2.2.1.toNat 0)).2=0:=by
 have hz:=fM.1 hs;obtain⟨_,_,j,hj,vj,oj⟩:=yB hV h1;rw[ha]at hj;cases hj;have hf:=pO hV;obtain⟨k1,k2,k3,k4⟩:=mY (xk hz.1 (BG hf).1 ha);obtain⟨r1,r2,r3,r4⟩:=kH k1;obtain⟨id,fn,pc,rg,st,ch,ph,su,fa,he,u⟩:=t;have hl:rg.length=8:=hl;obtain⟨f1,f2,f3,f4,f5,f6,f7,f8,f9⟩:=hf;have hph:ph=0:=by
  rcases f9 with q | ⟨_,i',q1,q2,_⟩
  ·exact q
  ·have ha:lH fs fn pc=some i:=ha;rw[ha]at q1;cases q1;omega
 have oj:iQ id ch ph he i=0:=oj;have hc:(dB id ch).2=true:=by
  unfold iQ at oj;rw[if_neg (by omega),if_neg (by omega),if_neg (by omega),if_pos hi]at oj
  by_cases q:(dB id ch).2=true
  ·exact q
  ·rw[if_neg q]at oj;cases oj
 refine⟨hc,?_⟩;have hd:¬aU (dB id ch).1 < 0:=by
  unfold dB at hc ⊢;split at hc
  ·cases hc
  ·rename_i q;rw[if_neg q];have:=Cm (id:=id) (ch:=ch) (by omega) (by omega) (by omega) (by omega)
   show¬aU (8 * (id+1)+ch) < 0;omega
 have ho:pK vs ms cs fs i.1=fs.length:=by unfold pK;rw[hi];simp
 rw[ho]at k2;have k2:=k2 (by omega)
 have hv:bV (rg.getD i.2.2.1.toNat 0)=true:=by
  have iO:i.2.2.1.toNat < rg.length:=by omega
  rw[H8,l7 iO];exact f4 _ (by omega) _ (l7 iO)
 show(newS _ _ _ (dB id ch).1 _ _).2=0;unfold newS;rw[if_neg (by omega),if_neg hd,if_neg (by omega),if_neg (by show¬bV (rg.getD i.2.2.1.toNat 0)=false;rw[hv];simp)]
theorem VB{m:MD}{t:TD}{i:ID} (hf:dI m=true) (hc:i.1=21→(dB t.1 t.2.2.2.2.2.1).2=true):bV (uM i (labS m t i))=true:=by
 have hv:∀x:Int,bV (m.1[x.toNat]?.getD 0)=true:=by
  intro x;cases hx:m.1[x.toNat]? with
  | none=>rfl
  | some v=>exact(eY.1 hf).2.2.2.2.1 v (iF hx)
 have hch:i.1=21→bV (dB t.1 t.2.2.2.2.2.1).1=true:=by
  intro q;obtain⟨_,_,_,_,c1,_,c2,_⟩:=Gp (hc q);exact lX.2 ⟨by omega,by omega⟩
 have key:∀(c:Prop) [Decidable c] (a b:ED),(c→bV (uM i a)=true)→(¬c→bV (uM i b)=true)→bV (uM i (if c then a else b))=true:=by
  intro c _ a b ha hb;split
  ·exact ha (by assumption)
  ·exact hb (by assumption)
 have k1:∀b:Bool,bV (if Ak b=0 then 0 else 1)=true:=by intro b;cases b<;>rfl
 unfold labS
 repeat' (refine key _ _ _ (λ_=>?_) (λ_=>?_))
 all_goals (try first | exact hv _ | rfl | exact k1 _ | (apply hch;assumption))
 all_goals (unfold uM;try simp only)
 all_goals first | exact hv _ | rfl | exact k1 _ | (apply hch;assumption) | (rw[if_pos trivial,if_pos (by assumption)];rfl) | (simp_all;done) | skip
theorem PE{e bound:Int}{ms:List ByteArray}{fs:List FD}{t:TD}{r:Int} (hs:bM e bound=0) (hV:qQ ms fs bound t) (h1:t.2.2.2.2.2.2.2.1=1) (hr:bV r=true):(gY e ms fs bound t r).2=0:=by
 unfold gY;rw[if_neg (by omega),if_neg (by simpa using hV),if_neg (by omega),if_neg (by rw[hr];simp)]
theorem XQ{l:List TD}{id:Int} (h:∃t∈l,t.1=id):(0≤dX (eX (λt=>decide (t.1=id)) l) 0∧dX (eX (λt=>decide (t.1=id)) l) 0 < (l.length:Int))∧(dX (eX (λt=>decide (t.1=id)) l) 0).toNat < l.length:=by
 have q:0≤eX (λt=>decide (t.1=id)) l:=by
  refine GU.1 λq=>?_
  obtain⟨t,ht,e⟩:=h;have:=A89.1 (nN q) t ht;simp[e]at this
 obtain⟨k,t,q1,q2,q3,q4⟩:=lY q;have e:dX (eX (λt=>decide (t.1=id)) l) 0=k:=by rw[q1];unfold dX;split<;>omega
 rw[e];omega
theorem GL{l:List TD}{id:Int}{u t:TD} (h:t∈l):t∈insL l id u:=by
 unfold insL;rw[←Yf (p:=λt=>decide (t.1 < id)) (l:=l)]at h
 simp only[GV,Ye]at h ⊢
 rcases h with h | h
 ·exact .inl (.inl h)
 ·exact .inr h
theorem GN(l:List TD) (id:Int) (u:TD):(insL l id u).length=l.length+1:=by
 unfold insL;have:=Ec List.length (Yf (p:=λt=>decide (t.1 < id)) (l:=l))
 rw[kD]at this;simp only[kD,yK,LZ];omega
theorem Ea{vs:List VD}{ms cs:List ByteArray}{fs:List FD}{ts:List SD}{bound id:Int}{z:ZD}{t:TD}{i:ID}{ok:Bool} (h:bM (aB vs ms cs fs ts).1 bound=0) (h1:vsB vs ms cs fs ts bound z.1 z.2.1 z.2.2.1=true) (hr:jm (aB vs ms cs fs ts).1 ms fs z.1 id=(t,i,ok)):
 kU vs ms cs fs ts bound z id=if(ok && CY z.1 z.2.1 t i)=false then(zZ,zE,19)
 else if(jF z.2.1 (labS z.2.1 t i)).2≠0 then(zZ,zE,30)
 else if(labS z.2.1 t i).2.2.1=16∧0≤eX (λu=>decide (u.1=(labS z.2.1 t i).2.2.2.1)) z.1 then(zZ,zE,30)
 else((stT (if(labS z.2.1 t i).2.2.1=16 then insL z.1 (labS z.2.1 t i).2.2.2.1 (newS (aB vs ms cs fs ts).1 fs bound (labS z.2.1 t i).2.2.2.1 i.2.2.2.2.1 (t.2.2.2.1.getD i.2.2.1.toNat 0)).1 else z.1) id
  (gY (aB vs ms cs fs ts).1 ms fs bound t (uM i (labS z.2.1 t i))).1,(jF z.2.1 (labS z.2.1 t i)).1,[],()),labS z.2.1 t i,0):=by
 unfold kU;rw[if_neg (by omega),if_neg (by rw[h1];simp),hr]
abbrev GR:CT:={ ps:=[oH,.int .i64,Lr,.int .i64],pre:=λd=>bnd (d.1,())∧iK d.2.2.1.1∧d.2.2.1.1.length≤999999∧nO d.2.2.1.2.1=true∧Am d.2.2.1.2.2.1,res:=λd=>([],.gX [CX ((kU d.1.1 d.1.2.1 d.1.2.2.1 d.1.2.2.2.1 d.1.2.2.2.2.1 d.2.1 d.2.2.1 d.2.2.2.1).1),BM ((kU d.1.1 d.1.2.1 d.1.2.2.1 d.1.2.2.2.1 d.1.2.2.2.2.1 d.2.1 d.2.2.1 d.2.2.2.1).2.1),.c (.v (.int .i64 ((kU d.1.1 d.1.2.1 d.1.2.2.1 d.1.2.2.2.1 d.1.2.2.2.2.1 d.2.1 d.2.2.1 d.2.2.2.1).2.2)))]) }
theorem aoK(vs:List VD) (ms cs:List ByteArray) (fs:List FD) (ts:List SD) (bound:Int) (th:List TD) (mv mo:List Int) (mq:List (List Int)) (mg:List Int) (bf:List BD) (id:Int) (aA:GR.pre ((vs,ms,cs,fs,ts,()),bound,(th,(mv,mo,mq,mg,()),bf,()),id,())):
 let Mc:=bnd ((vs,ms,cs,fs,ts,()),());let z21:=aB vs ms cs fs ts;let z22:=(mv,mo,mq,mg,());let z20:=(th,z22,bf,());let oO:=kU vs ms cs fs ts bound z20 id;let z10:=[CX (oO.fst),BM (oO.snd.fst),cI (oO.snd.snd)];let z17:=jm z21.fst ms fs th id;let oh:=labS z22 z17.fst z17.snd.fst;let z11:=jF z22 oh;let z6:=λ(d:Int)=>tY z21.fst fs bound (th,z11.fst,bf,()) oh.snd.snd.snd.fst z17.snd.fst.snd.snd.snd.snd.fst d;let z7:=Mc∧List.length z17.fst.snd.snd.snd.snd.snd.snd.snd.snd.snd.fst≤1000000∧z17.fst.fst≤9223372036854775807∧List.length z17.fst.snd.snd.snd.fst=8;let z9:=gY z21.fst ms fs bound z17.fst (uM z17.snd.fst oh);let z8:=!decide (z9.snd=0);let z3:=rT z10 [CX ([],([],[],[],[],()),[],()),BM (0,0,0,0,0,0,0,0,0,()),cI (z9.snd)];let z5:=λ(d:Int)=>eX (λt=>decide (t.fst=id)) (z6 d).fst.fst;let z4:=λ(d:Int)=>dX (z5 d) (0:Int);let z1:=λ(d:Int)=>((z6 d).fst.fst.set (z4 d).toNat z9.fst,((z6 d).fst.snd.fst.fst,(z6 d).fst.snd.fst.snd.fst,(z6 d).fst.snd.fst.snd.snd.fst,(z6 d).fst.snd.fst.snd.snd.snd.fst,()),(z6 d).fst.snd.snd.fst,());let z12:=λ(d:Int)=>[CX (z1 d),BM oh,cI 0];let OQ:=eX (λt=>decide (t.fst=id)) th;let CB:=dX OQ (0:Int);let z2:=(th.set CB.toNat z9.fst,(z11.fst.fst,z11.fst.snd.fst,z11.fst.snd.snd.fst,z11.fst.snd.snd.snd.fst,()),bf,());let z13:=[CX z2,BM oh,cI 0];Mc∧br (!decide (bM z21.fst bound=0)) (rT z10 [CX ([],([],[],[],[],()),[],()),BM (0,0,0,0,0,0,0,0,0,()),cI (bM z21.fst bound)]) ((Mc∧iK th∧aZ z22)∧br (!vsB vs ms cs fs ts bound th z22 bf) (rT z10 [CX ([],([],[],[],[],()),[],()),BM (0,0,0,0,0,0,0,0,0,()),cI 1]) ((Mc∧iK th)∧((!!z17.snd.snd)=true→kJ z22 z17.fst z17.snd.fst∧th.length≤1000000)∧br (!z17.snd.snd || !CY th z22 z17.fst z17.snd.fst) (rT z10 [CX ([],([],[],[],[],()),[],()),BM (0,0,0,0,0,0,0,0,0,()),cI 19]) (kJ z22 z17.fst z17.snd.fst∧LG z20∧(aZ z22∧z17.fst.fst=oh.fst)∧br (!decide (z11.snd=0)) (rT z10 [CX ([],([],[],[],[],()),[],()),BM (0,0,0,0,0,0,0,0,0,()),cI 30]) (aZ z11.fst∧br (decide (oh.snd.snd.fst=16)) ((0≤z17.snd.fst.snd.snd.fst∧z17.snd.fst.snd.snd.fst < 8)∧z17.snd.fst.snd.snd.fst.toNat < 8∧∀(d:Int),z17.1.2.2.2.fst[z17.snd.fst.snd.snd.fst.toNat]?=some d→(Mc∧iK th∧oh.snd.snd.snd.fst≤9223372036854775807)∧br (!decide ((z6 d).snd=0)) (rT z10 [CX ([],([],[],[],[],()),[],()),BM (0,0,0,0,0,0,0,0,0,()),cI ((z6 d).snd)]) (z7∧br z8 z3 ((z6 d).fst.fst.length≤1000000∧(0≤dX (z5 d) (0:Int)∧dX (z5 d) 0 < (↑(z6 d).fst.fst.length:Int))∧(z4 d).toNat < (z6 d).fst.fst.length∧(rT z10 (z12 d))∧rT z10 (z12 d)))) (z7∧br z8 z3 (th.length≤1000000∧(0≤dX OQ (0:Int)∧dX OQ 0 < (↑th.length:Int))∧CB.toNat < th.length∧(rT z10 z13)∧rT z10 z13)))))):=by
 conv=>zeta
 obtain⟨hb,hT,hn,hm,hB⟩:bnd ((vs,ms,cs,fs,ts,()),())∧iK th∧th.length≤999999∧nO (mv,mo,mq,mg,())=true∧Am bf:=aA;have hM:=ng hm;have hS:=@Ea vs ms cs fs ts bound id (th,(mv,mo,mq,mg,()),bf,());generalize hr:jm (aB vs ms cs fs ts).1 ms fs th id=R at hS ⊢;obtain⟨T,I,ok⟩:=R;dsimp only at hS ⊢;refine⟨hb,ah.2 ⟨λh=>kK ?_,λh=>⟨⟨hb,hT,hM⟩,ah.2 ⟨λh1=>kK ?_,λh1=>⟨⟨hb,hT⟩,λh2=>⟨?_,hT.1⟩,ah.2 ⟨λh2=>kK ?_,λh2=>?_⟩⟩⟩⟩⟩⟩
 ·have h:bM (aB vs ms cs fs ts).1 bound≠0:=by simpa using h
  unfold kU;rw[if_pos h];rfl
 ·have h:bM (aB vs ms cs fs ts).1 bound=0:=by simpa using h
  have h1:vsB vs ms cs fs ts bound th (mv,mo,mq,mg,()) bf=false:=by simpa using h1
  unfold kU;rw[if_neg (by omega),if_pos h1];rfl
 all_goals have h:bM (aB vs ms cs fs ts).1 bound=0:=by simpa using h
 all_goals have h1:vsB vs ms cs fs ts bound th (mv,mo,mq,mg,()) bf=true:=by simpa using h1
 all_goals have hV:=jM.1 h1
 ·have h2:ok=true:=by simpa using h2
  subst h2;exact(LK hV hM hT hr).2.2.1
 ·rw[hS h h1 rfl,if_pos (by simp only[AA,G6]at h2;rw[A86];exact h2)];rfl
 simp only[qH,yI]at h2;obtain⟨ok1,en1⟩:=h2;subst ok1;obtain⟨jT,hid,hlab,hat,hsu,hvl⟩:=LK hV hM hT hr;have hS:=hS h h1 rfl;rw[if_neg (by rw[en1];simp)]at hS
 have htB:=hT.2 T jT;have hch:I.1=21→(dB T.1 T.2.2.2.2.2.1).2=true:=λq=>(BP h hvl hsu hat q htB.2.2).1
 have hcz:=PE h hvl hsu (VB (m:=(mv,mo,mq,mg,())) (i:=I) hlab.1.2.1 hch);refine⟨hlab,⟨hT,hM,hB⟩,⟨hM,(adN _ _ _).symm⟩,ah.2 ⟨λh3=>kK ?_,λh3=>⟨VA hm _,ah.2 ⟨λh4=>?_,λh4=>?_⟩⟩⟩⟩
 ·have h3:(jF (mv,mo,mq,mg,()) (labS (mv,mo,mq,mg,()) T I)).2≠0:=by simpa using h3
  rw[hS,if_pos h3];rfl
 all_goals have h3:(jF (mv,mo,mq,mg,()) (labS (mv,mo,mq,mg,()) T I)).2=0:=by simpa using h3
 all_goals rw[if_neg (by omega)]at hS
 ·have h4:(labS (mv,mo,mq,mg,()) T I).2.2.1=16:=A83 h4;have hI:=(D8 hlab.2.2.2.1).1 h4;obtain⟨c1,c2⟩:=BP h hvl hsu hat hI htB.2.2;have eo:=D9 (m:=(mv,mo,mq,mg,())) (t:=T) hI;obtain⟨_,_,_,_,c5,_,c6,_⟩:=Gp c1;have r2:=hlab.2.1;refine⟨r2,by omega,λd hd=>⟨⟨hb,hT,by rw[eo];omega⟩,ah.2 ⟨λh5=>kK ?_,λh5=>?_⟩⟩⟩
  all_goals have ed:=SL hd
  all_goals rw[ed]at c2 hS
  all_goals rw[←eo]at c2
  ·have h5:(tY (aB vs ms cs fs ts).1 fs bound (th,(jF (mv,mo,mq,mg,()) (labS (mv,mo,mq,mg,()) T I)).1,bf,()) (labS (mv,mo,mq,mg,()) T I).2.2.2.1 I.2.2.2.2.1 d).2≠0:=by simpa using h5
   by_cases q:0≤eX (λu=>decide (u.1=(labS (mv,mo,mq,mg,()) T I).2.2.2.1)) th
   ·rw[hS,if_pos ⟨h4,q⟩];unfold tY;rw[if_pos q];rfl
   ·exfalso;apply h5;unfold tY;rw[if_neg q,if_neg (by rw[c2];simp)]
  ·have q:¬0≤eX (λu=>decide (u.1=(labS (mv,mo,mq,mg,()) T I).2.2.2.1)) th:=by
    intro q;unfold tY at h5;rw[if_pos q]at h5;simp at h5
   have es:tY (aB vs ms cs fs ts).1 fs bound (th,(jF (mv,mo,mq,mg,()) (labS (mv,mo,mq,mg,()) T I)).1,bf,()) (labS (mv,mo,mq,mg,()) T I).2.2.2.1 I.2.2.2.2.1 d=((insL th (labS (mv,mo,mq,mg,()) T I).2.2.2.1 (newS (aB vs ms cs fs ts).1 fs bound (labS (mv,mo,mq,mg,()) T I).2.2.2.1 I.2.2.2.2.1 d).1,(jF (mv,mo,mq,mg,()) (labS (mv,mo,mq,mg,()) T I)).1,bf,()),0):=by
    unfold tY;rw[if_neg q,if_neg (by rw[c2];simp)]
   rw[es];dsimp only;rw[if_neg (λp=>q p.2),if_pos h4]at hS
   have hp:=XQ (l:=insL th (labS (mv,mo,mq,mg,()) T I).2.2.2.1 (newS (aB vs ms cs fs ts).1 fs bound (labS (mv,mo,mq,mg,()) T I).2.2.2.1 I.2.2.2.2.1 d).1) (id:=id) ⟨T,GL jT,hid⟩;have hbf:bf=[]:=hV.2.1;have fin:=kK hS;refine⟨⟨hb,htB⟩,ah.2 ⟨λh6=>?_,λh6=>⟨by rw[GN];omega,hp.1,hp.2,?_,?_⟩⟩⟩
   ·exfalso;rw[hcz]at h6;simp at h6
   all_goals rw[hbf];rw[hbf]at fin;exact fin
 ·have h4:¬(labS (mv,mo,mq,mg,()) T I).2.2.1=16:=A97 h4;rw[if_neg (λp=>h4 p.1),if_neg h4]at hS
  have hp:=XQ (l:=th) (id:=id) ⟨T,jT,hid⟩;have hbf:bf=[]:=hV.2.1;have fin:=kK hS;refine⟨⟨hb,htB⟩,ah.2 ⟨λh6=>?_,λh6=>⟨hT.1,hp.1,hp.2,?_,?_⟩⟩⟩
  ·exfalso;rw[hcz]at h6;simp at h6
  all_goals rw[hbf];rw[hbf]at fin;exact fin
theorem VE:Go.aV.Met Tryz.prog aK.gd 21 GR:=
 bW (cx:=aK) (n:=131) (cl:=[(32,uy),(40,Lu),(41,Vx),(46,Vu),(42,GI),(23,Jm),(48,adA),(50,adM),(51,acI),(52,xA),(49,nM)]) (rc:=[.data Lr,.keep,.keep]) ay ⟨Vq,LC,Vy,Vw,Vt,ai5,ai3,ajd,ahO,DZ,rY,trivial⟩ Tryz.func21 λd hd=>by
  obtain⟨⟨vs,ms,cs,fs,ts,⟨⟩⟩,bound,⟨th,⟨mv,mo,mq,mg,⟨⟩⟩,bf,⟨⟩⟩,id,⟨⟩⟩:=d;exact aH (λ_=>none) (aoK vs ms cs fs ts bound th mv mo mq mg bf id hd) (by kernel_rfl)
def qg(e:Int) (fs:List FD) (bound:Int) (ts:List SD):List TD:=ts.zipIdx.map λp=>(newS e fs bound (p.2:Int) p.1.1 p.1.2.1).1
def adO(vs:List VD) (ms cs:List ByteArray) (fs:List FD) (ts:List SD) (bound:Int):ZD×Int:=
 if bM (aB vs ms cs fs ts).1 bound≠0 then(zZ,bM (aB vs ms cs fs ts).1 bound) else((qg (aB vs ms cs fs ts).1 fs bound ts,(yF vs ms cs fs ts).1,[],()),0)
theorem adP{e:Int}{fs:List FD}{bound:Int}{ts:List SD}{k:Nat}{d:SD} (h:ts[k]?=some d):qg e fs bound (ts.take (k+1))=qg e fs bound (ts.take k)++[(newS e fs bound (k:Int) d.1 d.2.1).1]:=by
 have hk:k < ts.length:=(eU.1 h).1;unfold qg;rw[Jt,h,Yq,List.zipIdx_append,MF,ku,AB (by omega)]
 simp
theorem aje(e:Int) (fs:List FD) (bound:Int) (ts:List SD):(qg e fs bound ts).length=ts.length:=by
 unfold qg;rw[A87,List.length_zipIdx]
theorem VF{fs:List FD}{ts:List SD} (h:Dz fs ts=0):(1≤ts.length∧ts.length≤8)∧∀(k:Nat) d,ts[k]?=some d→(0≤d.1∧d.1 < (fs.length:Int))∧bV d.2.1=true:=by
 unfold Dz at h;split at h
 ·cases h
 rename_i q;refine⟨by omega,λk d hd=>?_⟩
 have hn:ts.find? (λt=>decide (Dy fs.length t≠0))=none:=by
  cases hf:ts.find? (λt=>decide (Dy fs.length t≠0)) with
  | none=>rfl
  | some t=>
    rw[hf]at h;have:=aeD hf;simp at this;exact absurd h this
 have hz:=A89.1 hn d (iF hd);have hz:Dy fs.length d=0:=by simpa using hz
 unfold Dy at hz;split at hz
 ·cases hz
 ·split at hz
  ·rename_i a b;exact⟨by omega,b⟩
  ·cases hz
theorem LM{vs:List VD}{ms cs:List ByteArray}{fs:List FD}{ts:List SD}{bound:Int}{k:Nat}{d:SD} (hs:bM (aB vs ms cs fs ts).1 bound=0) (hd:ts[k]?=some d):(newS (aB vs ms cs fs ts).1 fs bound (k:Int) d.1 d.2.1).2=0:=by
 have ht:=VF (nJ (fM.1 hs).1).2.2;obtain⟨h1,h2⟩:=ht.2 k d hd;have hk:k < ts.length:=(eU.1 hd).1;have hk:k < 8:=by omega
 have hdp:¬aU (k:Int) < 0:=by
  unfold aU dY;rw[if_neg (by omega),if_pos (by omega)];omega
 unfold newS;rw[if_neg (by omega),if_neg hdp,if_neg (by omega),if_neg (by rw[h2];simp)]
theorem adQ{vs:List VD}{ms cs:List ByteArray}{fs:List FD}{ts:List SD}{bound:Int} (hs:bM (aB vs ms cs fs ts).1 bound=0):(yF vs ms cs fs ts).2=0:=by
 unfold yF;rw[if_pos (fM.1 hs).1]
theorem VG{S:ZD×Int}{a:ZD}{c:Int} (h:S=(a,c)):rT [CX S.1,cI S.2] [CX a,cI c]:=by subst h;exact⟨rfl,rfl⟩
abbrev adR:CT:={ ps:=[oH,.int .i64],pre:=λd=>bnd (d.1,()),res:=λd=>([],.gX [CX ((adO d.1.1 d.1.2.1 d.1.2.2.1 d.1.2.2.2.1 d.1.2.2.2.2.1 d.2.1).1),.c (.v (.int .i64 ((adO d.1.1 d.1.2.1 d.1.2.2.1 d.1.2.2.2.1 d.1.2.2.2.2.1 d.2.1).2)))]) }
@[reducible] def arK (vs:List VD) (ms cs:List ByteArray) (fs:List FD) (ts:List SD) (bound:Int):Nat→Option (St→iC):=λk=>match k with
  | 9=>some λ_=>.inv { α:=Nat,pF:=[(3,0,56,dQ)],slots:=λk=>[(35,.c (.v (.int .i64 k)))],res:=λk=>[(4,.row 56 dQ (qg (aB vs ms cs fs ts).1 fs bound (ts.take k)))],inv:=λk=>k≤ts.length,meas:=λk=>ts.length - k }
  | _=>none
theorem aoL(vs:List VD) (ms cs:List ByteArray) (fs:List FD) (ts:List SD) (bound:Int) (aA:adR.pre ((vs,ms,cs,fs,ts,()),bound,())):
 let z7:=bnd ((vs,ms,cs,fs,ts,()),());let z9:=aB vs ms cs fs ts;let z8:=adO vs ms cs fs ts bound;let z4:=[CX (z8.fst),cI (z8.snd)];let z10:=yF vs ms cs fs ts;let z11:=bP vs ms cs fs ts;let z3:=[SC.sl I6 z10.fst.fst,SC.sl I6 z10.fst.snd.fst,SC.sl I6.sl z10.fst.snd.snd.fst,SC.sl I6 z10.fst.snd.snd.snd.fst];let z2:=[SC.row (Nat.succ 0).succ.succ.succ,SC.sl I6 z10.fst.fst,SC.sl I6 z10.fst.snd.fst,SC.sl I6.sl z10.fst.snd.snd.fst,SC.sl I6 z10.fst.snd.snd.snd.fst,SC.v (Value.slice none 0 0)];let z6:=λ(x:Nat)=>qg z9.fst fs bound (List.take x ts);let z1:=λ(x:Nat)=>[g0 z11,g0 (aj.blk 37 kq1),g0 (aj.blk 34 z3),g0 (aj.blk 37 z2),g0 (aj.row 56 dQ (z6 x))];let z5:=λ(x:Nat) (d:Int×(I6.pair Sh.unit).den)=>newS z9.fst fs bound (↑x:Int) d.fst d.snd.fst;z7∧br (!decide (bM z9.fst bound=0)) (rT z4 [CX ([],([],[],[],[],()),[],()),cI (bM z9.fst bound)]) (z7∧br (!decide (z10.snd=0)) (rT z4 [CX ([],([],[],[],[],()),[],()),cI (z10.snd)]) ((∃x,x≤ts.length∧(cI 0=cI (↑x:Int)∧True)∧[g0 z11,g0 (aj.blk 37 kq1),g0 (aj.blk 34 z3),g0 (aj.blk 37 z2),g0 (aj.row 56 dQ [])]=(z1 x))∧∀(x:Nat),x≤ts.length→br (decide ((↑x:Int) < (↑ts.length:Int))) ((0≤(↑x:Int)∧(↑x:Int) < (↑ts.length:Int))∧∀(d:Int×(I6.pair Sh.unit).den),ts[(↑x:Int).toNat]?=some d→(z7∧(↑x:Int)≤(9223372036854775807:Int))∧br (!decide ((z5 x d).snd=0)) (rT z4 [CX ([],([],[],[],[],()),[],()),cI ((z5 x d).snd)]) (jS ((z6 x).length+[(z5 x d).fst].length) 152∧cZ IntKind.i64 ((↑x:Int)+(1:Int))∧∃x',x'≤ts.length∧(cI ((↑x:Int)+(1:Int))=cI (↑x':Int)∧True)∧[g0 z11,g0 (aj.blk 37 kq1),g0 (aj.blk 34 z3),g0 (aj.blk 37 z2),g0 (aj.row 56 dQ (qg z9.fst fs bound (List.take x ts)++[(z5 x d).fst]))]=(z1 x')∧ts.length - x' < ts.length - x)) (rT z4 [CX (qg z9.fst fs bound (List.take x ts),(z10.fst.fst,z10.fst.snd.fst,z10.fst.snd.snd.fst,z10.fst.snd.snd.snd.fst,()),[],()),cI 0]))):=by
 conv=>zeta
 delta kq1;have hb:bnd ((vs,ms,cs,fs,ts,()),()):=aA;refine⟨hb,ah.2 ⟨λh=>VG ?_,λh=>⟨hb,ah.2 ⟨λh1=>?_,λh1=>⟨⟨0,by omega,⟨rfl,trivial⟩,rfl⟩,λk hk=>ah.2 ⟨λg=>?_,λg=>VG ?_⟩⟩⟩⟩⟩⟩
 ·have h:bM (aB vs ms cs fs ts).1 bound≠0:=by simpa using h
  unfold adO;rw[if_pos h];rfl
 all_goals have h:bM (aB vs ms cs fs ts).1 bound=0:=by simpa using h
 ·exfalso;rw[adQ h]at h1;simp at h1
 all_goals have ht:=(VF (nJ (fM.1 h).1).2.2).1
 ·simp only[dG]at g;refine⟨⟨by omega,by omega⟩,λd hd=>⟨⟨hb,by omega⟩,ah.2 ⟨λh2=>?_,λh2=>?_⟩⟩⟩
  all_goals have hd:ts[k]?=some d:=hd
  ·exfalso;rw[LM h hd]at h2;simp at h2
  ·have e:=@adP (aB vs ms cs fs ts).1 fs bound ts k d hd;have hlen:=aje (aB vs ms cs fs ts).1 fs bound (ts.take k);rw[ku]at hlen;refine⟨bI.2 (by rw[hlen];simp only[yK,LZ];omega),au.2 (by omega),k+1,by omega,⟨rfl,trivial⟩,by rw[e],by omega⟩
 ·simp only[dh]at g;rw[tZ (i:=k) (by omega)]
  unfold adO;rw[if_neg (by omega)]
theorem ajf:Go.aV.Met Tryz.prog cxR.gd 12 adR:=
 bW (cx:=cxR) (n:=63) (cl:=[(32,uy),(33,SE),(34,UY)]) (rc:=[.data Lr,.keep]) ay ⟨Vq,aiA,UZ,trivial⟩ Tryz.func12 λd hd=>by
  obtain⟨⟨vs,ms,cs,fs,ts,⟨⟩⟩,bound,⟨⟩⟩:=d;exact aH (arK vs ms cs fs ts bound) (aoL vs ms cs fs ts bound hd) (by kernel_rfl)
def H7(m n:MD):Prop:=m.1.length=n.1.length∧m.2.1.length=n.2.1.length∧m.2.2.1.length=n.2.2.1.length
theorem PG:∀(qs:List (List Int)) (k:Nat) (d r:List Int),qs[k]?=some d→(r++qs.flatten).Perm (d++(qs.set k r).flatten)
 | [],k,d,r,h=>by simp at h
 | q :: qs,0,d,r,h=>by
   simp only[A99,Yh]at h;subst h;simp only[aeA,Jv];exact VQ _ _ _
 | q :: qs,k+1,d,r,h=>by
   rw[VT]at h;have ih:=PG qs k d r h;simp only[Yo,Jv];exact(VQ _ _ _).trans ((ih.append_left q).trans (VQ _ _ _))
theorem adS{m:MD}{x v:Int} (h:dI m=true) (h0:(writeM m x v).2=0):dI (writeM m x v).1=true∧H7 (writeM m x v).1 m:=by
 obtain⟨vs,os,qs,sg,⟨⟩⟩:=m;obtain⟨q1,q2,q3,q4,q5,q6,q7,q8⟩:vs.length≤8∧os.length≤4∧qs.length≤4∧SS sg∧(∀v∈vs,bV v=true)∧(∀o∈os,-1≤o)∧(∀x∈sg++qs.flatten,0≤x)∧(sg++qs.flatten).Nodup:=eY.1 h;unfold writeM at h0 ⊢;split at h0
 ·rename_i g;split at h0
  ·rename_i hv;rw[if_pos g,if_pos hv];refine⟨eY.2 ⟨by rw[pX];exact q1,q2,q3,q4,λy hy=>?_,q6,q7,q8⟩,by rw[pX],rfl,rfl⟩
   rcases yL hy with hy | rfl
   ·exact q5 y hy
   ·exact hv
  ·cases h0
 ·rename_i g;exact absurd h0 g
theorem SX{m:MD}{i id f t:Int} (h:dI m=true) (ht:-1≤t) (h0:(ig m i id f t).2=0):dI (ig m i id f t).1=true∧H7 (ig m i id f t).1 m:=by
 obtain⟨vs,os,qs,sg,⟨⟩⟩:=m;obtain⟨q1,q2,q3,q4,q5,q6,q7,q8⟩:vs.length≤8∧os.length≤4∧qs.length≤4∧SS sg∧(∀v∈vs,bV v=true)∧(∀o∈os,-1≤o)∧(∀x∈sg++qs.flatten,0≤x)∧(sg++qs.flatten).Nodup:=eY.1 h;unfold ig at h0 ⊢;split at h0
 ·rename_i g;split at h0
  ·cases h0
  ·rename_i g1;split at h0
   ·rename_i g2;rw[if_pos g,if_neg g1,if_pos g2];refine⟨eY.2 ⟨q1,by rw[pX];exact q2,q3,q4,q5,λy hy=>?_,q7,q8⟩,rfl,by rw[pX],rfl⟩
    rcases yL hy with hy | rfl
    ·exact q6 y hy
    ·exact ht
   ·cases h0
 ·rename_i g;exact absurd h0 g
theorem aoM{m:MD}{c id:Int} (h:dI m=true) (h0:(pV m c id).2=0):dI (pV m c id).1=true∧H7 (pV m c id).1 m:=by
 obtain⟨vs,os,qs,sg,⟨⟩⟩:=m;unfold pV at h0 ⊢;split at h0
 ·rename_i g;split at h0
  ·cases h0
  ·rename_i g1;split at h0
   ·cases h0
   ·rename_i g2;rw[if_pos g,if_neg g1,if_neg g2];have hg:=(fO.1 g).2;have hg:0≤c∧c < (qs.length:Int):=hg;have iO:c.toNat < qs.length:=by omega
    have hk:qs[c.toNat]?=some (qs[c.toNat]?.getD []):=by rw[l7 iO];rfl
    have:=Py h hk (id:=id) (by omega)
    refine⟨?_,rfl,rfl,by rw[pX]⟩
    show dI (vs,os,qs.set c.toNat (qs[c.toNat]?.getD []++[id]),sg,())=true;rw[this];simpa using g2
 ·rename_i g;exact absurd h0 g
theorem akv{m:MD}{c n:Int} (h:dI m=true) (h0:(nY m c n).2.2=0):dI (nY m c n).1=true∧H7 (nY m c n).1 m:=by
 obtain⟨vs,os,qs,sg,⟨⟩⟩:=m;obtain⟨q1,q2,q3,q4,q5,q6,q7,q8⟩:vs.length≤8∧os.length≤4∧qs.length≤4∧SS sg∧(∀v∈vs,bV v=true)∧(∀o∈os,-1≤o)∧(∀x∈sg++qs.flatten,0≤x)∧(sg++qs.flatten).Nodup:=eY.1 h;unfold nY at h0 ⊢;split at h0
 ·rename_i g;rw[if_pos g];have hg:0≤c∧c < (qs.length:Int):=(fO.1 g).2;have iO:c.toNat < qs.length:=by omega
  have hk:qs[c.toNat]?=some (qs[c.toNat]?.getD []):=by rw[l7 iO];rfl
  generalize (fU n (((vs,os,qs,sg,()):MD).2.2.1[c.toNat]?.getD []).length).toNat=j;show dI (vs,os,qs.set c.toNat ((qs[c.toNat]?.getD []).drop j),lu sg ((qs[c.toNat]?.getD []).take j),())=true∧H7 (vs,os,qs.set c.toNat ((qs[c.toNat]?.getD []).drop j),lu sg ((qs[c.toNat]?.getD []).take j),()) _;generalize qs[c.toNat]?.getD []=q at hk;have p1:=PG qs c.toNat q (q.drop j) hk;have p2:∀F:List Int,(q++F).Perm (q.drop j++(q.take j++F)):=by
   intro F
   conv=>lhs;rw[←Ef j q,uO]
   exact VQ _ _ _
  have p3:=(List.perm_append_left_iff _).1 (p1.trans (p2 _));obtain⟨a1,a2⟩:=DX (q.take j) sg q4;have p4:(sg++qs.flatten).Perm ((sg++q.take j)++(qs.set c.toNat (q.drop j)).flatten):=by
   rw[uO];exact p3.append_left sg
  have q8':=p4.nodup_iff.1 q8;have hn:(sg++q.take j).Nodup:=(List.nodup_append.1 q8').1;have hp:(lu sg (q.take j)).Perm (sg++q.take j):=(List.perm_ext_iff_of_nodup (a1.imp λh=>by omega) hn).2 λx=>by rw[a2 x,GV]
  have hp2:=hp.append_right (qs.set c.toNat (q.drop j)).flatten;exact⟨eY.2 ⟨q1,q2,by rw[pX];exact q3,a1,q5,q6,λx hx=>q7 x (p4.mem_iff.2 (hp2.mem_iff.1 hx)),hp2.nodup_iff.2 q8'⟩,rfl,rfl,by rw[pX]⟩
 ·rename_i g;exact absurd h0 g
theorem ajg{m:MD}{id:Int} (h:dI m=true) (h0:(mG m id).2=0):dI (mG m id).1=true∧H7 (mG m id).1 m:=by
 obtain⟨vs,os,qs,sg,⟨⟩⟩:=m;obtain⟨q1,q2,q3,q4,q5,q6,q7,q8⟩:vs.length≤8∧os.length≤4∧qs.length≤4∧SS sg∧(∀v∈vs,bV v=true)∧(∀o∈os,-1≤o)∧(∀x∈sg++qs.flatten,0≤x)∧(sg++qs.flatten).Nodup:=eY.1 h;unfold mG at h0 ⊢;split at h0
 ·cases h0
 ·rename_i g;split at h0
  ·cases h0
  ·rename_i g2;rw[if_neg g,if_neg g2];have e:jl (aX sg) [id] false=sg.filter (λx=>decide (x≠id)):=(yA q4).symm
   show dI (vs,os,qs,jl (aX sg) [id] false,())=true∧_;rw[e];have sub:(sg.filter (λx=>decide (x≠id))++qs.flatten).Sublist (sg++qs.flatten):=(List.filter_sublist).append_right _
   exact⟨eY.2 ⟨q1,q2,q3,q4.filter _,q5,q6,λx hx=>q7 x (sub.subset hx),sub.nodup q8⟩,rfl,rfl,rfl⟩
theorem SY{a b c:MD} (h:H7 a b) (g:H7 b c):H7 a c:=⟨h.1.trans g.1,h.2.1.trans g.2.1,h.2.2.trans g.2.2⟩
theorem aoN{m:MD}{e:ED} (h:dI m=true) (h0:0≤e.1) (h1:(jF m e).2=0):dI (jF m e).1=true∧H7 (jF m e).1 m:=by
 unfold jF at h1 ⊢;split at h1
 ·rename_i g;rw[if_pos g];exact adS h h1
 rename_i g1;rw[if_neg g1];split at h1
 ·rename_i g;rw[if_pos g];exact SX h (by omega) h1
 rename_i g2;rw[if_neg g2];split at h1
 ·rename_i g;rw[if_pos g];exact SX h (by omega) h1
 rename_i g3;rw[if_neg g3];split at h1
 ·rename_i g;rw[if_pos g];split at h1
  ·rename_i g';rw[if_pos g'];have a:=SX h (show(-1:Int)≤-1 by omega) g'
   have b:=aoM a.1 h1;exact⟨b.1,SY b.2 a.2⟩
  ·rename_i g';exact absurd h1 g'
 rename_i g4;rw[if_neg g4];split at h1
 ·rename_i g;rw[if_pos g];exact ajg h h1
 rename_i g5;rw[if_neg g5];split at h1
 ·rename_i g;rw[if_pos g];exact akv h h1
 rename_i g6;rw[if_neg g6];split at h1
 ·rename_i g;rw[if_pos g];exact akv h h1
 rename_i g7;rw[if_neg g7];exact⟨h,rfl,rfl,rfl⟩
theorem ajh{p:PD}{m:MD}{e:ED} (h:jI p m=true) (h0:0≤e.1) (h1:(jF m e).2=0):jI p (jF m e).1=true:=by
 have hv:=wL h;obtain⟨a,b1,b2,b3⟩:=aoN hv.2.1 h0 h1;unfold jI;rw[a];simp only[A8,dG];exact⟨⟨⟨⟨hv.1,trivial⟩,b1.trans hv.2.2.1⟩,b2.trans hv.2.2.2.1⟩,b3.trans hv.2.2.2.2⟩
theorem aoO{l:List TD}{id:Int}{u:TD} (h:qG l) (hu:u.1=id) (hn:∀t∈l,t.1≠id):qG (insL l id u):=by
 have h:l.Pairwise λa b=>a.1 < b.1:=List.pairwise_map.1 h
 refine List.pairwise_map.2 ?_;unfold insL;have dw:∀{l:List TD},l.Pairwise (λa b=>a.1 < b.1)→∀t∈l.dropWhile (λt=>decide (t.1 < id)),id≤t.1:=by
  intro l
  induction l with
  | nil=>intro _ t ht;cases ht
  | cons a l ih=>
    intro hp t ht;rw[MB]at hp
    by_cases q:a.1 < id
    ·rw[List.dropWhile_cons_of_pos (by simpa using q)]at ht
     exact ih hp.2 t ht
    ·rw[List.dropWhile_cons_of_neg (by simpa using q)]at ht
     rcases mX.1 ht with rfl | ht
     ·omega
     ·have:=hp.1 t ht;omega
 have tw:∀{l:List TD},∀t∈l.takeWhile (λt=>decide (t.1 < id)),t.1 < id:=by
  intro l
  induction l with
  | nil=>intro t ht;cases ht
  | cons a l ih=>
    intro t ht;rw[P7]at ht;split at ht
    ·rename_i q;rcases mX.1 ht with rfl | ht
     ·simpa using q
     ·exact ih t ht
    ·cases ht
 have e:=Yf (p:=λt=>decide (t.1 < id)) (l:=l)
 have h2:=h;rw[←e,Ju]at h2;have dm:∀t∈l.dropWhile (λt=>decide (t.1 < id)),id < t.1:=by
  intro t ht;have a:=dw h t ht;have b:=hn t (by rw[←e];exact akD _ ht)
  omega
 refine Ju.2 ⟨Ju.2 ⟨h2.1,List.pairwise_singleton _ _,λa ha b hb=>?_⟩,h2.2.1,λa ha b hb=>?_⟩
 ·simp at hb;subst hb;have:=tw a ha;omega
 ·have q:=dm b hb;rcases GV.1 ha with ha | ha
  ·have:=tw a ha;omega
  ·simp at ha;subst ha;omega
theorem aoP{vs:List VD}{ms cs:List ByteArray}{fs:List FD} (h:Az vs ms cs fs=0):(vs.length≤8∧ms.length≤4∧cs.length≤4)∧∀v∈vs,bV v.2.1=true:=by
 unfold Az at h;split at h
 ·cases h
 ·rename_i q;split at h
  ·rename_i g;exact⟨by omega,λv hv=>X0.1 g v hv⟩
  ·cases h
theorem aji{vs:List VD}{ms cs:List ByteArray}{fs:List FD}{ts:List SD} (h:(aB vs ms cs fs ts).1=0):jI (vs,ms,cs,fs,ts,()) (yF vs ms cs fs ts).1=true:=by
 obtain⟨⟨h1,h2,h3⟩,hv⟩:=aoP (nJ h).1;unfold yF;rw[if_pos h];have hf:dI (vs.map (·.2.1),List.replicate ms.length (-1),List.replicate cs.length [],[],())=true:=by
  refine eY.2 ⟨by rw[A87];exact h1,by rw[wM];exact h2,by rw[wM];exact h3,List.Pairwise.nil,λv hv'=>?_,λo ho=>?_,?_,?_⟩
  ·obtain⟨x,hx,rfl⟩:=List.mem_map.1 hv';exact hv x hx
  ·rw[(List.mem_replicate.1 ho).2];omega
  all_goals simp
 unfold jI;simp only[hf,h,A87,wM,decide_true,Bool.and_self]
theorem LP{e:Int}{fs:List FD}{bound:Int}{ts:List SD}{k:Nat}{t:TD} (h:(qg e fs bound ts)[k]?=some t):∃d,ts[k]?=some d∧t=(newS e fs bound (k:Int) d.1 d.2.1).1:=by
 unfold qg at h;rw[LX,Ym]at h;cases hd:ts[k]? with
 | none=>rw[hd]at h;cases h
 | some d=>rw[hd]at h;simp at h;exact⟨d,rfl,h.symm⟩
theorem LQ{e:Int}{fs:List FD}{bound id fn r:Int} (h:(newS e fs bound id fn r).2=0):(newS e fs bound id fn r).1.1=id:=by
 unfold newS at h ⊢
 split at h
 ·rename_i q;exact absurd h q
 split at h
 ·cases h
 split at h
 ·cases h
 split at h
 ·cases h
 rename_i q1 q2 q3 q4;rw[if_neg q1,if_neg q2,if_neg q3,if_neg q4];exact(OA _ _ _ _).1
def PI(l:List TD):Prop:=∀t∈l,t.2.2.2.1.length=8
theorem aoQ{vs:List VD}{ms cs:List ByteArray}{fs:List FD}{ts:List SD}{bound:Int} (hs:bM (aB vs ms cs fs ts).1 bound=0):VS vs ms cs fs ts bound (qg (aB vs ms cs fs ts).1 fs bound ts) (yF vs ms cs fs ts).1 []∧PI (qg (aB vs ms cs fs ts).1 fs bound ts):=by
 have hm:∀t∈qg (aB vs ms cs fs ts).1 fs bound ts,qQ ms fs bound t∧t.2.2.2.1.length=8:=by
  intro t ht;obtain⟨k,hk⟩:=List.mem_iff_getElem?.1 ht;obtain⟨d,hd,rfl⟩:=LP hk;exact(acJ (LM hs hd)).2
 refine⟨⟨aji (fM.1 hs).1,rfl,λt ht=>⟨hs,(hm t ht).1⟩,SG λj a b ha hb=>?_⟩,λt ht=>(hm t ht).2⟩
 obtain⟨d,hd,rfl⟩:=LP ha;obtain⟨d',hd',rfl⟩:=LP hb;rw[LQ (LM hs hd),LQ (LM hs hd')];omega
theorem S9{vs:List VD}{ms cs:List ByteArray}{fs:List FD}{ts:List SD}{bound:Int}{l:List TD}{m:MD}{bf:List BD} (h:VS vs ms cs fs ts bound l m bf) (h8:PI l) (hl:l.length≤1000000):iK l:=
 ⟨hl,λt ht=>⟨(OU (h.2.2.1 t ht).1 (h.2.2.1 t ht).2).1,(OU (h.2.2.1 t ht).1 (h.2.2.1 t ht).2).2,h8 t ht⟩⟩
theorem aoR{l:List TD}{k:Nat}{t u:TD} (h:qG l) (hk:l[k]?=some t) (hu:u.1=t.1):qG (l.set k u):=by
 unfold qG at h ⊢
 rw[List.map_set];have e:(l.map (·.1))[k]?=some t.1:=by rw[LX,hk];rfl
 rw[show(l.map (·.1)).set k u.1=l.map (·.1) by rw[hu];exact iq e]
 exact h
theorem Jr{vs:List VD}{ms cs:List ByteArray}{fs:List FD}{ts:List SD}{bound id:Int}{z:ZD} (h:(kU vs ms cs fs ts bound z id).2.2=0):
 bM (aB vs ms cs fs ts).1 bound=0∧VS vs ms cs fs ts bound z.1 z.2.1 z.2.2.1∧∃t i,jm (aB vs ms cs fs ts).1 ms fs z.1 id=(t,i,true)∧CY z.1 z.2.1 t i=true∧(jF z.2.1 (labS z.2.1 t i)).2=0 ∧
  ¬((labS z.2.1 t i).2.2.1=16∧0≤eX (λu=>decide (u.1=(labS z.2.1 t i).2.2.2.1)) z.1) ∧
  kU vs ms cs fs ts bound z id=((stT (if(labS z.2.1 t i).2.2.1=16 then insL z.1 (labS z.2.1 t i).2.2.2.1 (newS (aB vs ms cs fs ts).1 fs bound (labS z.2.1 t i).2.2.2.1 i.2.2.2.2.1 (t.2.2.2.1.getD i.2.2.1.toNat 0)).1 else z.1) id
  (gY (aB vs ms cs fs ts).1 ms fs bound t (uM i (labS z.2.1 t i))).1,(jF z.2.1 (labS z.2.1 t i)).1,[],()),labS z.2.1 t i,0):=by
 have h1:bM (aB vs ms cs fs ts).1 bound=0:=by
  refine GU.1 λq=>?_
  unfold kU at h;rw[if_pos q]at h;exact q h
 have h2:vsB vs ms cs fs ts bound z.1 z.2.1 z.2.2.1=true:=by
  refine GU.1 λq=>?_
  unfold kU at h;rw[if_neg (by omega),if_pos (by simpa using q)]at h;cases h
 cases hr:jm (aB vs ms cs fs ts).1 ms fs z.1 id with
 | mk t x=>
   obtain⟨i,ok⟩:=x;rw[Ea h1 h2 hr]at h ⊢
   split at h
   ·cases h
   rename_i g1;split at h
   ·cases h
   rename_i g2;split at h
   ·cases h
   rename_i g3;rw[if_neg g1,if_neg g2,if_neg g3];simp only[Bool.not_eq_false,A8]at g1;exact⟨h1,jM.1 h2,t,i,by rw[g1.1],g1.2,GU.1 g2,g3,rfl⟩
theorem adT{vs:List VD}{ms cs:List ByteArray}{fs:List FD}{ts:List SD}{bound id:Int}{z:ZD} (h:(kU vs ms cs fs ts bound z id).2.2=0) (h8:PI z.1) (hl:z.1.length≤999999) (hM:aZ z.2.1):
 VS vs ms cs fs ts bound (kU vs ms cs fs ts bound z id).1.1 (kU vs ms cs fs ts bound z id).1.2.1 (kU vs ms cs fs ts bound z id).1.2.2.1∧PI (kU vs ms cs fs ts bound z id).1.1:=by
 obtain⟨hs,hV,t,i,hr,he,hf,hd,e⟩:=Jr h;rw[e];have hT:=S9 hV h8 (by omega)
 obtain⟨hm,hid,hlab,hat,hsu,hvl⟩:=LK hV hM hT hr;have hch:i.1=21→(dB t.1 t.2.2.2.2.2.1).2=true:=λq=>(BP hs hvl hsu hat q (h8 t hm)).1
 have hcz:=PE hs hvl hsu (VB (m:=z.2.1) (i:=i) hlab.1.2.1 hch);obtain⟨_,c1,c2,_,c3,_⟩:=anG (h8 t hm) hcz;have h0:0≤t.1:=by
  have:=pO hvl;obtain⟨x,fn,pc,rg,st,ch,ph,su,fa,hd,u⟩:=t;exact(mQ this.1).1
 have hL:VS vs ms cs fs ts bound (if(labS z.2.1 t i).2.2.1=16 then insL z.1 (labS z.2.1 t i).2.2.2.1 (newS (aB vs ms cs fs ts).1 fs bound (labS z.2.1 t i).2.2.2.1 i.2.2.2.2.1 (t.2.2.2.1.getD i.2.2.1.toNat 0)).1 else z.1) (jF z.2.1 (labS z.2.1 t i)).1 [] ∧
  PI (if(labS z.2.1 t i).2.2.1=16 then insL z.1 (labS z.2.1 t i).2.2.2.1 (newS (aB vs ms cs fs ts).1 fs bound (labS z.2.1 t i).2.2.2.1 i.2.2.2.2.1 (t.2.2.2.1.getD i.2.2.1.toNat 0)).1 else z.1) ∧
  ∃u∈(if(labS z.2.1 t i).2.2.1=16 then insL z.1 (labS z.2.1 t i).2.2.2.1 (newS (aB vs ms cs fs ts).1 fs bound (labS z.2.1 t i).2.2.2.1 i.2.2.2.2.1 (t.2.2.2.1.getD i.2.2.1.toNat 0)).1 else z.1),u.1=id:=by
  have jT:=ajh hV.1 (show 0≤(labS z.2.1 t i).1 by rw[adN];exact h0) hf
  split
  ·rename_i g;have hi:=(D8 hlab.2.2.2.1).1 g;obtain⟨s1,s2⟩:=BP hs hvl hsu hat hi (h8 t hm);rw[←D9 (m:=z.2.1) hi]at s2;obtain⟨_,n1,n2⟩:=acJ s2;have n3:=LQ s2;have hmm:∀x∈insL z.1 (labS z.2.1 t i).2.2.2.1 (newS (aB vs ms cs fs ts).1 fs bound (labS z.2.1 t i).2.2.2.1 i.2.2.2.2.1 (t.2.2.2.1.getD i.2.2.1.toNat 0)).1,x∈z.1∨x=(newS (aB vs ms cs fs ts).1 fs bound (labS z.2.1 t i).2.2.2.1 i.2.2.2.2.1 (t.2.2.2.1.getD i.2.2.1.toNat 0)).1:=by
    intro x hx;unfold insL at hx;simp only[GV,Ye]at hx;rcases hx with(hx | hx) | hx
    ·exact .inl ((List.takeWhile_sublist _).subset hx)
    ·exact .inr hx
    ·exact .inl ((List.dropWhile_sublist _).subset hx)
   refine⟨⟨jT,rfl,λx hx=>⟨hs,?_⟩,aoO hV.2.2.2 n3 λx hx q=>hd ⟨g,?_⟩⟩,λx hx=>?_,t,GL hm,hid⟩
   ·rcases hmm x hx with hx | rfl
    ·exact(hV.2.2.1 x hx).2
    ·exact n1
   ·have:=(XQ (l:=z.1) ⟨x,hx,q⟩);refine GU.1 λq2=>?_
    have:=A89.1 (nN q2) x hx;simp[q]at this
   ·rcases hmm x hx with hx | rfl
    ·exact h8 x hx
    ·exact n2
  ·exact⟨⟨jT,rfl,hV.2.2.1,hV.2.2.2⟩,h8,t,hm,hid⟩
 generalize (if(labS z.2.1 t i).2.2.1=16 then insL z.1 (labS z.2.1 t i).2.2.2.1 (newS (aB vs ms cs fs ts).1 fs bound (labS z.2.1 t i).2.2.2.1 i.2.2.2.2.1 (t.2.2.2.1.getD i.2.2.1.toNat 0)).1 else z.1)=L at hL
 obtain⟨hL,hL8,u,hu,hui⟩:=hL;have q:0≤eX (λt=>decide (t.1=id)) L:=by
  refine GU.1 λq=>?_
  have:=A89.1 (nN q) u hu;simp[hui]at this
 obtain⟨k,v,q1,q2,q3,q4⟩:=lY q;have ek:(dX (eX (λt=>decide (t.1=id)) L) 0).toNat=k:=by rw[q1];unfold dX;split<;>omega
 have hvi:v.1=id:=by simpa using aeD q3
 unfold stT;rw[ek];refine⟨⟨hL.1,rfl,λx hx=>⟨hs,?_⟩,aoR hL.2.2.2 q2 (c3.trans (hid.trans hvi.symm))⟩,λx hx=>?_⟩
 ·rcases yL hx with hx | rfl
  ·exact(hL.2.2.1 x hx).2
  ·exact c1
 ·rcases yL hx with hx | rfl
  ·exact hL8 x hx
  ·exact c2
def xV:List VD:=[(⟨#[120]⟩,0,())]
def xF:List FD:=[(⟨#[102]⟩,[(1,1,0,0,0,1,0,0,()),(11,2,1,0,0,0,0,1,())],())]
def xT:List SD:=[(0,0,()),(0,0,())]
def xP:PD:=(xV,[],[],xF,xT,())
def xt(id:Int):TD:=(id,0,1,[0,1,0,0,0,0,0,0],0,0,0,1,0,[],())
def xu:TD:=(0,0,2,[0,1,0,0,0,0,0,0],1,0,0,2,0,[],())
def xi:ID:=(11,2,1,0,0,0,0,1,())
def xm(v:Int):MD:=([v],[],[],[],())
def xe(id v:Int):ED:=(id,0,5,0,-1,-1,1,v,v+1,())
theorem akw:(aB xV [] [] xF xT).1=0:=by rfl
theorem adU{b:Int} (h:b=4∨b=32):bM (aB xV [] [] xF xT).1 b=0:=fM.2 ⟨akw,by omega,by omega⟩
theorem arL{b:Int} (h:b=4∨b=32):qg (aB xV [] [] xF xT).1 xF b xT=[xt 0,xt 1]:=by
 rcases h with rfl | rfl<;>rfl
theorem arM:(yF xV [] [] xF xT).1=xm 0:=by rfl
theorem PK{b:Int} (h:b=4∨b=32):VS xV [] [] xF xT b [xt 0,xt 1] (xm 0) []∧PI [xt 0,xt 1]:=by
 have:=aoQ (adU h);rw[arL h,arM]at this;exact this
theorem arN{l:List TD}{m:MD}{b:Int} (h:VS xV [] [] xF xT b l m []) (h8:PI l) (hl:l.length=2):iK l:=S9 h h8 (by omega)
theorem XR(v:Int):aZ (xm v):=ng (m:=xm v) rfl
theorem VH{t:TD} (hV:qQ [] xF 32 t) (h1:t.2.2.2.2.2.2.2.1=1):iJ (aB xV [] [] xF xT).1 [] xF t=atR xF t.2.1 t.2.2.1:=by
 unfold iJ;rw[if_pos ⟨akw,h1,hV⟩]
theorem aoS:jm (aB xV [] [] xF xT).1 [] xF [xt 0,xt 1] 0=(xt 0,xi,true):=by
 have hV:=(PK (.inr rfl)).1.2.2.1 (xt 0) (by simp)
 unfold jm;rw[show wP [xt 0,xt 1] 0=some (xt 0) from rfl]
 show(xt 0,(iJ _ _ _ _).1,(iJ _ _ _ _).2)=_;rw[VH hV.2 rfl];rfl
theorem arO(id:Int):labS (xm 0) (xt id) xi=xe id 0:=by rfl
theorem arP:jF (xm 0) (xe 0 0)=(xm 1,0):=by
 have hf:dI (xm 0)=true:=(wL (PK (.inl rfl)).1.1).2.1;unfold jF;rw[if_pos (.inl rfl)];unfold writeM;rw[if_pos (fO.2 ⟨hf,by decide,by decide⟩),if_pos (show bV (xe 0 0).2.2.2.2.2.2.2.2.1=true from rfl)]
 rfl
theorem arQ{b:Int} (h:b=4∨b=32):(gY (aB xV [] [] xF xT).1 [] xF b (xt 0) 0).1=xu:=by
 have hV:=(PK h).1.2.2.1 (xt 0) (by simp)
 unfold gY;rw[if_neg (by rw[adU h];simp),if_neg (by simpa using hV.2),if_neg (by decide),if_neg (by decide)]
 rcases h with rfl | rfl<;>rfl
theorem adV{b:Int} (h:b=4∨b=32):kU xV [] [] xF xT b ([xt 0,xt 1],xm 0,[],()) 0=(([xu,xt 1],xm 1,[],()),xe 0 0,0):=by
 rw[Ea (adU h) (jM.2 (PK h).1) aoS];show(if(true && CY [xt 0,xt 1] (xm 0) (xt 0) xi)=false then _ else if(jF (xm 0) (labS (xm 0) (xt 0) xi)).2≠0 then _ else if(labS (xm 0) (xt 0) xi).2.2.1=16∧_ then _ else _)=_
 rw[arO,arP,show CY [xt 0,xt 1] (xm 0) (xt 0) xi=true by rfl]
 rw[if_neg (by simp),if_neg (by simp),if_neg (by rintro⟨h,_⟩;exact absurd h (by decide)),if_neg (by decide)]
 rw[show uM xi (xe 0 0)=0 by rfl,arQ h]
 rfl
theorem ajj{b:Int} (h:b=4∨b=32):VS xV [] [] xF xT b [xu,xt 1] (xm 1) []∧PI [xu,xt 1]:=by
 have:=adT (vs:=xV) (ms:=[]) (cs:=[]) (fs:=xF) (ts:=xT) (bound:=b) (id:=0) (z:=([xt 0,xt 1],xm 0,[],())) (by rw[adV h]) (PK h).2 (by simp) (XR 0)
 rw[adV h]at this;exact this
theorem aoT:sG xV [] [] xF xT [xt 0,xt 1] (xm 0) []=[0,1]:=by
 have hV:=(PK (.inr rfl)).1;unfold sG;rw[if_pos (jM.2 hV)];have e:∀i,qQ [] xF 32 (xt i)→SN (aB xV [] [] xF xT).1 [] xF [xt 0,xt 1] (xm 0) (xt i)=true:=by
  intro i hi;unfold SN;rw[VH hi rfl];rfl
 unfold sD;rw[aeF (e 0 (hV.2.2.1 _ (by simp)).2),aeF (e 1 (hV.2.2.1 _ (by simp)).2)]
 rfl
theorem aoU:sG xV [] [] xF xT [xu,xt 1] (xm 1) []=[1]:=by
 have hV:=(ajj (.inr rfl)).1;unfold sG;rw[if_pos (jM.2 hV)];have e:SN (aB xV [] [] xF xT).1 [] xF [xu,xt 1] (xm 1) (xt 1)=true:=by
  unfold SN;rw[VH (hV.2.2.1 _ (by simp)).2 rfl];rfl
 have e2:SN (aB xV [] [] xF xT).1 [] xF [xu,xt 1] (xm 1) xu=false:=by
  unfold SN iJ;rw[if_neg (by rintro⟨_,h,_⟩;exact absurd h (by decide))]
  rfl
 unfold sD;rw[List.filter_cons_of_neg (by rw[e2];simp),aeF e]
 rfl
theorem arR:CZ xV [] [] xF xT [xu,xt 1] (xm 1) [] 1=(xe 1 1,true):=by
 have hV:=(ajj (.inr rfl)).1;have hr:jm (aB xV [] [] xF xT).1 [] xF [xu,xt 1] 1=(xt 1,xi,true):=by
  unfold jm;rw[show wP [xu,xt 1] 1=some (xt 1) from rfl]
  show(xt 1,(iJ _ _ _ _).1,(iJ _ _ _ _).2)=_;rw[VH (hV.2.2.1 _ (by simp)).2 rfl];rfl
 unfold CZ;rw[if_pos (jM.2 hV),hr];rfl
abbrev akx:CT:={ ps:=[],pre:=λd=>True,res:=λd=>([],.one (iL oH xP)) }
abbrev arS  : Nat→Option (St→iC):=λ_=>none
theorem aoV :
 let z1:=((0:Int),(0:Int),());rE (aT.one (SV.agg [SC.sl shV xV,SC.sl Sh.str [],SC.sl Sh.str [],SC.sl shF xF,SC.sl FY xT])) (aT.one (SV.agg [SC.sl shV [({ data:=#[(120:UInt8)]:ByteArray },(0:Int),())],SC.sl Sh.str [],SC.sl Sh.str [],SC.sl shF [({ data:=#[(102:UInt8)]:ByteArray },[((1:Int),(1:Int),(0:Int),(0:Int),(0:Int),(1:Int),(0:Int),(0:Int),()),((11:Int),(2:Int),(1:Int),(0:Int),(0:Int),(0:Int),(0:Int),(1:Int),())],())],SC.sl FY [z1,z1]])):=by
 conv=>zeta
 exact⟨rfl,rfl⟩
theorem ajk:Go.aV.Met Tryz.prog aK.gd 31 akx:=
 bW (cx:=aK) (n:=14) (cl:=[]) (rc:=[.data oH]) ay trivial Tryz.func31 λd hd=>by
  obtain⟨⟩:=d;exact aH (arS ) (aoV ) (by kernel_rfl)
abbrev adW:CT:={ ps:=[.sl (.int .i64),.sl (.int .i64)],pre:=λd=>d.1.length≤1000000,res:=λd=>([],vB (mJ d.1 d.2.1)) }
@[reducible] def arT (l m:List Int):Nat→Option (St→iC):=λk=>match k with
  | 4=>some λ_=>.inv { α:=Nat,slots:=λk=>[(5,.c (.v (.int .i64 k)))],res:=λk=>[],inv:=λk=>k≤(l).length∧∀j < k,l[j]?=m[j]?,meas:=λk=>(l).length - k }
  | _=>none
theorem aoW(l m:List Int) (aA:adW.pre (l,m,())):
 let z1:=λ(x:Nat)=>(x≤l.length∧∀(j:Nat),j < x→l[j]?=m[j]?);br (!decide ((↑l.length:Int)=(↑m.length:Int))) (qB (mJ l m) false) ((∃x,(z1 x)∧(cI 0=cI (↑x:Int)∧True)∧([]:List aal)=[])∧∀(x:Nat),(z1 x)→br (decide ((↑x:Int) < (↑l.length:Int))) ((0≤(↑x:Int)∧(↑x:Int) < (↑l.length:Int))∧∀(d:Int),l[(↑x:Int).toNat]?=some d→(0≤(↑x:Int)∧(↑x:Int) < (↑m.length:Int))∧∀(dH:Int),m[(↑x:Int).toNat]?=some dH→br (!decide (d=dH)) (qB (mJ l m) false) (cZ IntKind.i64 ((↑x:Int)+(1:Int))∧∃x',(z1 x')∧(cI ((↑x:Int)+(1:Int))=cI (↑x':Int)∧True)∧([]:List aal)=[]∧l.length - x' < l.length - x)) (qB (mJ l m) true)):=by
 conv=>zeta
 delta aal;have hp:l.length≤1000000:=aA;have fF:l≠m→qB (mJ l m) false:=λq=>⟨rfl,by rw[lC q]⟩
 refine ah.2 ⟨λh=>fF λq=>?_,λh=>?_⟩
 ·subst q;simp at h
 simp only[yI,dG]at h;refine⟨⟨0,⟨by omega,λj hj=>by omega⟩,⟨rfl,trivial⟩,rfl⟩,λk hk=>ah.2 ⟨λg=>?_,λg=>?_⟩⟩
 ·simp only[dG]at g;refine⟨⟨by omega,by omega⟩,λd hd=>⟨⟨by omega,by omega⟩,λd1 hd1=>ah.2 ⟨λg2=>fF λq=>?_,λg2=>⟨au.2 (by omega),k+1,⟨by omega,λj hj=>?_⟩,⟨rfl,trivial⟩,rfl,by omega⟩⟩⟩⟩
  ·subst q;rw[hd]at hd1;cases hd1;simp at g2
  ·by_cases gq:j=k
   ·subst gq;have hd:l[j]?=some d:=hd;have hd1:m[j]?=some d1:=hd1;have g2:d=d1:=by simpa using g2
    rw[hd,hd1,g2]
   ·exact hk.2 j (by omega)
 simp only[dh]at g;have e:l=m:=by
  apply yJ;intro j
  by_cases hj:j < k
  ·exact hk.2 j hj
  ·rw[qJ (by omega),qJ (by omega)]
 exact⟨rfl,by rw[ji e]⟩
theorem ajl:Go.aV.Met Tryz.prog aK.gd 18 adW:=
 bW (cx:=aK) (n:=26) (cl:=[]) (rc:=[]) ay trivial Tryz.func18 λd hd=>by
  obtain⟨l,m,⟨⟩⟩:=d;exact aH (arT l m) (aoW l m hd) (by kernel_rfl)
abbrev adX:CT:={ ps:=[],pre:=λd=>True,res:=λd=>([],vB (true)) }
abbrev arU  : Nat→Option (St→iC):=λ_=>none
theorem aoX :
 let z7:=1≤1000000∧0≤1000000∧0≤1000000∧1≤1000000∧2≤1000000∧(∀(x:FD),x∈xF→List.length x.snd.fst≤1000000)∧2≤1000000;let z8:=qg (0:Int) xF (4:Int) xT;let z6:=(kU xV [] [] xF xT (4:Int) (qg (0:Int) xF (4:Int) xT,(List.map (λx=>x.snd.fst) xV,List.replicate 0 (-1:Int),List.replicate 0 [],[],()),[],()) (0:Int)).snd.snd=0;let z2:=true && (kU xV [] [] xF xT (4:Int) (qg (0:Int) xF (4:Int) xT,(List.map (λx=>x.snd.fst) xV,List.replicate 0 (-1:Int),List.replicate 0 [],[],()),[],()) (0:Int)).snd.fst.fst == (0:Int) && (kU xV [] [] xF xT (4:Int) (qg (0:Int) xF (4:Int) xT,(List.map (λx=>x.snd.fst) xV,List.replicate 0 (-1:Int),List.replicate 0 [],[],()),[],()) (0:Int)).snd.fst.snd.fst == (0:Int) && (kU xV [] [] xF xT (4:Int) (qg (0:Int) xF (4:Int) xT,(List.map (λx=>x.snd.fst) xV,List.replicate 0 (-1:Int),List.replicate 0 [],[],()),[],()) (0:Int)).snd.fst.snd.snd.fst == (5:Int) && (kU xV [] [] xF xT (4:Int) (qg (0:Int) xF (4:Int) xT,(List.map (λx=>x.snd.fst) xV,List.replicate 0 (-1:Int),List.replicate 0 [],[],()),[],()) (0:Int)).snd.fst.snd.snd.snd.fst == (0:Int) && (kU xV [] [] xF xT (4:Int) (qg (0:Int) xF (4:Int) xT,(List.map (λx=>x.snd.fst) xV,List.replicate 0 (-1:Int),List.replicate 0 [],[],()),[],()) (0:Int)).snd.fst.snd.snd.snd.snd.fst == (-1:Int) && (kU xV [] [] xF xT (4:Int) (qg (0:Int) xF (4:Int) xT,(List.map (λx=>x.snd.fst) xV,List.replicate 0 (-1:Int),List.replicate 0 [],[],()),[],()) (0:Int)).snd.fst.snd.snd.snd.snd.snd.fst == (-1:Int) && (kU xV [] [] xF xT (4:Int) (qg (0:Int) xF (4:Int) xT,(List.map (λx=>x.snd.fst) xV,List.replicate 0 (-1:Int),List.replicate 0 [],[],()),[],()) (0:Int)).snd.fst.snd.snd.snd.snd.snd.snd.fst == (1:Int) && (kU xV [] [] xF xT (4:Int) (qg (0:Int) xF (4:Int) xT,(List.map (λx=>x.snd.fst) xV,List.replicate 0 (-1:Int),List.replicate 0 [],[],()),[],()) (0:Int)).snd.fst.snd.snd.snd.snd.snd.snd.snd.fst == (0:Int) && (kU xV [] [] xF xT (4:Int) (qg (0:Int) xF (4:Int) xT,(List.map (λx=>x.snd.fst) xV,List.replicate 0 (-1:Int),List.replicate 0 [],[],()),[],()) (0:Int)).snd.fst.snd.snd.snd.snd.snd.snd.snd.snd.fst == (1:Int);let z4:=(CZ xV [] [] xF xT (kU xV [] [] xF xT (4:Int) (qg (0:Int) xF (4:Int) xT,(List.map (λx=>x.snd.fst) xV,List.replicate 0 (-1:Int),List.replicate 0 [],[],()),[],()) (0:Int)).fst.fst (kU xV [] [] xF xT (4:Int) (qg (0:Int) xF (4:Int) xT,(List.map (λx=>x.snd.fst) xV,List.replicate 0 (-1:Int),List.replicate 0 [],[],()),[],()) (0:Int)).fst.snd.fst (kU xV [] [] xF xT (4:Int) (qg (0:Int) xF (4:Int) xT,(List.map (λx=>x.snd.fst) xV,List.replicate 0 (-1:Int),List.replicate 0 [],[],()),[],()) (0:Int)).fst.snd.snd.fst (1:Int)).fst.snd.snd.snd.snd.snd.snd.snd.fst=1;let z3:=(CZ xV [] [] xF xT (kU xV [] [] xF xT (4:Int) (qg (0:Int) xF (4:Int) xT,(List.map (λx=>x.snd.fst) xV,List.replicate 0 (-1:Int),List.replicate 0 [],[],()),[],()) (0:Int)).fst.fst (kU xV [] [] xF xT (4:Int) (qg (0:Int) xF (4:Int) xT,(List.map (λx=>x.snd.fst) xV,List.replicate 0 (-1:Int),List.replicate 0 [],[],()),[],()) (0:Int)).fst.snd.fst (kU xV [] [] xF xT (4:Int) (qg (0:Int) xF (4:Int) xT,(List.map (λx=>x.snd.fst) xV,List.replicate 0 (-1:Int),List.replicate 0 [],[],()),[],()) (0:Int)).fst.snd.snd.fst (1:Int)).fst.snd.snd.snd.snd.snd.snd.snd.snd.fst=2;let z5:=(CZ xV [] [] xF xT (kU xV [] [] xF xT (4:Int) (qg (0:Int) xF (4:Int) xT,(List.map (λx=>x.snd.fst) xV,List.replicate 0 (-1:Int),List.replicate 0 [],[],()),[],()) (0:Int)).fst.fst (kU xV [] [] xF xT (4:Int) (qg (0:Int) xF (4:Int) xT,(List.map (λx=>x.snd.fst) xV,List.replicate 0 (-1:Int),List.replicate 0 [],[],()),[],()) (0:Int)).fst.snd.fst (kU xV [] [] xF xT (4:Int) (qg (0:Int) xF (4:Int) xT,(List.map (λx=>x.snd.fst) xV,List.replicate 0 (-1:Int),List.replicate 0 [],[],()),[],()) (0:Int)).fst.snd.snd.fst (1:Int)).fst.fst=1;let z1:=decide z6 && z2 && (CZ xV [] [] xF xT (kU xV [] [] xF xT (4:Int) (qg (0:Int) xF (4:Int) xT,(List.map (λx=>x.snd.fst) xV,List.replicate 0 (-1:Int),List.replicate 0 [],[],()),[],()) (0:Int)).fst.fst (kU xV [] [] xF xT (4:Int) (qg (0:Int) xF (4:Int) xT,(List.map (λx=>x.snd.fst) xV,List.replicate 0 (-1:Int),List.replicate 0 [],[],()),[],()) (0:Int)).fst.snd.fst (kU xV [] [] xF xT (4:Int) (qg (0:Int) xF (4:Int) xT,(List.map (λx=>x.snd.fst) xV,List.replicate 0 (-1:Int),List.replicate 0 [],[],()),[],()) (0:Int)).fst.snd.snd.fst (1:Int)).snd && decide z4 && decide z3 && decide z5 && mJ (kU xV [] [] xF xT (4:Int) (qg (0:Int) xF (4:Int) xT,(List.map (λx=>x.snd.fst) xV,List.replicate 0 (-1:Int),List.replicate 0 [],[],()),[],()) (0:Int)).fst (kU xV [] [] xF xT (4:Int) (qg (0:Int) xF (4:Int) xT,(List.map (λx=>x.snd.fst) xV,List.replicate 0 (-1:Int),List.replicate 0 [],[],()),[],()) (0:Int)).fst && !mJ (qg (0:Int) xF (4:Int) xT,(List.map (λx=>x.snd.fst) xV,List.replicate 0 (-1:Int),List.replicate 0 [],[],()),[],()) (kU xV [] [] xF xT (4:Int) (qg (0:Int) xF (4:Int) xT,(List.map (λx=>x.snd.fst) xV,List.replicate 0 (-1:Int),List.replicate 0 [],[],()),[],()) (0:Int)).fst;True∧z7∧(true=true→z7∧iK z8∧aZ (List.map (λx=>x.snd.fst) xV,List.replicate 0 (-1:Int),List.replicate 0 [],[],()))∧(true=true→(sG xV [] [] xF xT z8 (List.map (λx=>x.snd.fst) xV,List.replicate 0 (-1:Int),List.replicate 0 [],[],()) []).length≤1000000)∧br (false || !mJ (sG xV [] [] xF xT z8 (List.map (λx=>x.snd.fst) xV,List.replicate 0 (-1:Int),List.replicate 0 [],[],()) []) [(0:Int),(1:Int)]) (qB true false) ((z7∧iK z8∧2≤999999∧true=true∧Am [])∧(z7∧iK (kU xV [] [] xF xT (4:Int) (qg (0:Int) xF (4:Int) xT,(List.map (λx=>x.snd.fst) xV,List.replicate 0 (-1:Int),List.replicate 0 [],[],()),[],()) (0:Int)).fst.fst∧aZ (kU xV [] [] xF xT (4:Int) (qg (0:Int) xF (4:Int) xT,(List.map (λx=>x.snd.fst) xV,List.replicate 0 (-1:Int),List.replicate 0 [],[],()),[],()) (0:Int)).fst.snd.fst)∧((decide z6 && z2 && (CZ xV [] [] xF xT (kU xV [] [] xF xT (4:Int) (qg (0:Int) xF (4:Int) xT,(List.map (λx=>x.snd.fst) xV,List.replicate 0 (-1:Int),List.replicate 0 [],[],()),[],()) (0:Int)).fst.fst (kU xV [] [] xF xT (4:Int) (qg (0:Int) xF (4:Int) xT,(List.map (λx=>x.snd.fst) xV,List.replicate 0 (-1:Int),List.replicate 0 [],[],()),[],()) (0:Int)).fst.snd.fst (kU xV [] [] xF xT (4:Int) (qg (0:Int) xF (4:Int) xT,(List.map (λx=>x.snd.fst) xV,List.replicate 0 (-1:Int),List.replicate 0 [],[],()),[],()) (0:Int)).fst.snd.snd.fst (1:Int)).snd && decide z4 && decide z3 && decide z5)=true→LG (kU xV [] [] xF xT (4:Int) (qg (0:Int) xF (4:Int) xT,(List.map (λx=>x.snd.fst) xV,List.replicate 0 (-1:Int),List.replicate 0 [],[],()),[],()) (0:Int)).fst)∧((decide z6 && z2 && (CZ xV [] [] xF xT (kU xV [] [] xF xT (4:Int) (qg (0:Int) xF (4:Int) xT,(List.map (λx=>x.snd.fst) xV,List.replicate 0 (-1:Int),List.replicate 0 [],[],()),[],()) (0:Int)).fst.fst (kU xV [] [] xF xT (4:Int) (qg (0:Int) xF (4:Int) xT,(List.map (λx=>x.snd.fst) xV,List.replicate 0 (-1:Int),List.replicate 0 [],[],()),[],()) (0:Int)).fst.snd.fst (kU xV [] [] xF xT (4:Int) (qg (0:Int) xF (4:Int) xT,(List.map (λx=>x.snd.fst) xV,List.replicate 0 (-1:Int),List.replicate 0 [],[],()),[],()) (0:Int)).fst.snd.snd.fst (1:Int)).snd && decide z4 && decide z3 && decide z5 && mJ (kU xV [] [] xF xT (4:Int) (qg (0:Int) xF (4:Int) xT,(List.map (λx=>x.snd.fst) xV,List.replicate 0 (-1:Int),List.replicate 0 [],[],()),[],()) (0:Int)).fst (kU xV [] [] xF xT (4:Int) (qg (0:Int) xF (4:Int) xT,(List.map (λx=>x.snd.fst) xV,List.replicate 0 (-1:Int),List.replicate 0 [],[],()),[],()) (0:Int)).fst)=true→LG (qg (0:Int) xF (4:Int) xT,(List.map (λx=>x.snd.fst) xV,List.replicate 0 (-1:Int),List.replicate 0 [],[],()),[],()))∧(z1=true→z7∧iK (kU xV [] [] xF xT (4:Int) (qg (0:Int) xF (4:Int) xT,(List.map (λx=>x.snd.fst) xV,List.replicate 0 (-1:Int),List.replicate 0 [],[],()),[],()) (0:Int)).fst.fst∧aZ (kU xV [] [] xF xT (4:Int) (qg (0:Int) xF (4:Int) xT,(List.map (λx=>x.snd.fst) xV,List.replicate 0 (-1:Int),List.replicate 0 [],[],()),[],()) (0:Int)).fst.snd.fst)∧(z1=true→(sG xV [] [] xF xT (kU xV [] [] xF xT (4:Int) (qg (0:Int) xF (4:Int) xT,(List.map (λx=>x.snd.fst) xV,List.replicate 0 (-1:Int),List.replicate 0 [],[],()),[],()) (0:Int)).fst.fst (kU xV [] [] xF xT (4:Int) (qg (0:Int) xF (4:Int) xT,(List.map (λx=>x.snd.fst) xV,List.replicate 0 (-1:Int),List.replicate 0 [],[],()),[],()) (0:Int)).fst.snd.fst (kU xV [] [] xF xT (4:Int) (qg (0:Int) xF (4:Int) xT,(List.map (λx=>x.snd.fst) xV,List.replicate 0 (-1:Int),List.replicate 0 [],[],()),[],()) (0:Int)).fst.snd.snd.fst).length≤1000000)∧qB true (decide z6 && z2 && (CZ xV [] [] xF xT (kU xV [] [] xF xT (4:Int) (qg (0:Int) xF (4:Int) xT,(List.map (λx=>x.snd.fst) xV,List.replicate 0 (-1:Int),List.replicate 0 [],[],()),[],()) (0:Int)).fst.fst (kU xV [] [] xF xT (4:Int) (qg (0:Int) xF (4:Int) xT,(List.map (λx=>x.snd.fst) xV,List.replicate 0 (-1:Int),List.replicate 0 [],[],()),[],()) (0:Int)).fst.snd.fst (kU xV [] [] xF xT (4:Int) (qg (0:Int) xF (4:Int) xT,(List.map (λx=>x.snd.fst) xV,List.replicate 0 (-1:Int),List.replicate 0 [],[],()),[],()) (0:Int)).fst.snd.snd.fst (1:Int)).snd && decide z4 && decide z3 && decide z5 && mJ (kU xV [] [] xF xT (4:Int) (qg (0:Int) xF (4:Int) xT,(List.map (λx=>x.snd.fst) xV,List.replicate 0 (-1:Int),List.replicate 0 [],[],()),[],()) (0:Int)).fst (kU xV [] [] xF xT (4:Int) (qg (0:Int) xF (4:Int) xT,(List.map (λx=>x.snd.fst) xV,List.replicate 0 (-1:Int),List.replicate 0 [],[],()),[],()) (0:Int)).fst && !mJ (qg (0:Int) xF (4:Int) xT,(List.map (λx=>x.snd.fst) xV,List.replicate 0 (-1:Int),List.replicate 0 [],[],()),[],()) (kU xV [] [] xF xT (4:Int) (qg (0:Int) xF (4:Int) xT,(List.map (λx=>x.snd.fst) xV,List.replicate 0 (-1:Int),List.replicate 0 [],[],()),[],()) (0:Int)).fst && mJ (sG xV [] [] xF xT (kU xV [] [] xF xT (4:Int) (qg (0:Int) xF (4:Int) xT,(List.map (λx=>x.snd.fst) xV,List.replicate 0 (-1:Int),List.replicate 0 [],[],()),[],()) (0:Int)).fst.fst (kU xV [] [] xF xT (4:Int) (qg (0:Int) xF (4:Int) xT,(List.map (λx=>x.snd.fst) xV,List.replicate 0 (-1:Int),List.replicate 0 [],[],()),[],()) (0:Int)).fst.snd.fst (kU xV [] [] xF xT (4:Int) (qg (0:Int) xF (4:Int) xT,(List.map (λx=>x.snd.fst) xV,List.replicate 0 (-1:Int),List.replicate 0 [],[],()),[],()) (0:Int)).fst.snd.snd.fst) [(1:Int)])):=by
 conv=>zeta
 have e1:qg (0:Int) xF (4:Int) xT=[xt 0,xt 1]:=by rfl
 have e2:((List.map (λx:VD=>x.2.1) xV,List.replicate 0 (-1:Int),List.replicate 0 [],[],()):MD)=xm 0:=by rfl
 have e3:kU xV [] [] xF xT 4 ([xt 0,xt 1],xm 0,[],()) 0=(([xu,xt 1],xm 1,[],()),xe 0 0,0):=adV (.inl rfl);rw[e1,e2];simp only[e3,aoT,aoU,arR];have hF:∀(x:FD),x∈xF→x.2.1.length≤1000000:=by
  intro x hx;simp only[xF,Ye]at hx;subst hx;decide
 have B:1≤1000000∧0≤1000000∧0≤1000000∧1≤1000000∧2≤1000000∧(∀(x:FD),x∈xF→x.2.1.length≤1000000)∧2≤1000000:=⟨by decide,by decide,by decide,by decide,by decide,hF,by decide⟩
 have t0:iK [xt 0,xt 1]:=arN (PK (.inl rfl)).1 (PK (.inl rfl)).2 rfl;have t1:iK [xu,xt 1]:=arN (ajj (.inl rfl)).1 (ajj (.inl rfl)).2 rfl;have bb:Am []:=⟨by decide,λb hb=>nomatch hb⟩
 have ne:mJ (([xt 0,xt 1],xm 0,[],()):ZD) ([xu,xt 1],xm 1,[],())=false:=lC λh=>by
  have:=Ec (λz:ZD=>z.2.1.1) h
  simp[xm]at this
 have e4:mJ ([0,1]:List Int) [0,1]=true:=ji rfl;have e5:mJ ([1]:List Int) [1]=true:=ji rfl;have e6:mJ (([xu,xt 1],xm 1,[],()):ZD) ([xu,xt 1],xm 1,[],())=true:=ji rfl;refine⟨trivial,B,λ_=>⟨B,t0,XR 0⟩,λ_=>by decide,ah.2 ⟨λh=>?_,λ_=>⟨⟨B,t0,by decide,trivial,bb⟩,⟨B,t1,XR 1⟩,λ_=>⟨t1,XR 1,bb⟩,λ_=>⟨t0,XR 0,bb⟩,λ_=>⟨B,t1,XR 1⟩,λ_=>by decide,jO ?_⟩⟩⟩
 ·rw[e4]at h;cases h
 ·rw[e5,e6,ne];rfl
theorem ajm:Go.aV.Met Tryz.prog aK.gd 11 adX:=
 bW (cx:=aK) (n:=89) (cl:=[(31,akx),(12,adR),(19,BO),(18,adW),(21,GR),(16,adz),(24,Jp)]) (rc:=[]) ay ⟨ajk,ajf,ai1,ajl,VE,ai2,ai9,trivial⟩ Tryz.func11 λd hd=>by
  obtain⟨⟩:=d;exact aH (arU ) (aoX ) (by kernel_rfl)
@[reducible] def asl (vs:List VD) (ms cs:List ByteArray) (fs:List FD) (ts:List SD) (bound:Int):Nat→Option (St→iC):=λk=>match k with
  | 7=>some λ_=>.inv { α:=Nat,pF:=[(3,0,56,dQ)],slots:=λk=>[(10,.c (.v (.int .i64 k)))],res:=λk=>[(4,.row 56 dQ (qg (aB vs ms cs fs ts).1 fs bound (ts.take k)))],inv:=λk=>k≤ts.length,meas:=λk=>ts.length - k }
  | _=>none
theorem ap1(vs:List VD) (ms cs:List ByteArray) (fs:List FD) (ts:List SD) (bound:Int) (aA:adR.pre ((vs,ms,cs,fs,ts,()),bound,())):
 let z10:=bnd ((vs,ms,cs,fs,ts,()),());let z13:=aB vs ms cs fs ts;let z11:=adO vs ms cs fs ts bound;let z7:=[CX (z11.fst),cI (z11.snd)];let oO:=bP vs ms cs fs ts;let oh:=yF vs ms cs fs ts;let z4:=[SC.sl I6 oh.fst.fst,SC.sl I6 oh.fst.snd.fst,SC.sl I6.sl oh.fst.snd.snd.fst,SC.sl I6 oh.fst.snd.snd.snd.fst];let z3:=[SC.row (Nat.succ 0).succ.succ.succ,SC.sl I6 oh.fst.fst,SC.sl I6 oh.fst.snd.fst,SC.sl I6.sl oh.fst.snd.snd.fst,SC.sl I6 oh.fst.snd.snd.snd.fst,SC.v (Value.slice none 0 0)];let z8:=λ(x:Nat)=>qg z13.fst fs bound (List.take x ts);let z2:=λ(x:Nat)=>[g0 oO,g0 (aj.blk 37 kq1),g0 (aj.blk 34 z4),g0 (aj.blk 37 z3),g0 (aj.row 56 dQ (z8 x))];let z9:=λ(x:Nat)=>0≤(↑x:Int)∧(↑x:Int) < (↑ts.length:Int);let z6:=λ(x:Nat)=>z10∧(↑x:Int)≤(9223372036854775807:Int);let z5:=λ(x:Nat) (d dH:Int×(I6.pair Sh.unit).den)=>(z8 x).length+[(newS z13.fst fs bound (↑x:Int) d.fst dH.snd.fst).fst].length;let z12:=λ(x:Nat)=>(↑x:Int)+(1:Int);let z1:=λ(x:Nat) (d dH:Int×(I6.pair Sh.unit).den)=>[g0 oO,g0 (aj.blk 37 kq1),g0 (aj.blk 34 z4),g0 (aj.blk 37 z3),g0 (aj.row 56 dQ (qg z13.fst fs bound (List.take x ts)++[(newS z13.fst fs bound (↑x:Int) d.fst dH.snd.fst).fst]))];z10∧br (!decide (bM z13.fst bound=0)) (rT z7 [CX ([],([],[],[],[],()),[],()),cI (bM z13.fst bound)]) (z10∧(∃x,x≤ts.length∧(cI 0=cI (↑x:Int)∧True)∧[g0 oO,g0 (aj.blk 37 kq1),g0 (aj.blk 34 z4),g0 (aj.blk 37 z3),g0 (aj.row 56 dQ [])]=(z2 x))∧∀(x:Nat),x≤ts.length→br (decide ((↑x:Int) < (↑ts.length:Int))) ((z9 x)∧∀(d:Int×(I6.pair Sh.unit).den),ts[(↑x:Int).toNat]?=some d→(z9 x)∧∀(dH:Int×(I6.pair Sh.unit).den),ts[(↑x:Int).toNat]?=some dH→((z6 x)∧jS (z5 x d dH) 152∧cZ IntKind.i64 (z12 x)∧∃x',x'≤ts.length∧(cI (z12 x)=cI (↑x':Int)∧True)∧(z1 x d dH)=(z2 x')∧ts.length - x' < ts.length - x)∧(z6 x)∧jS (z5 x d dH) 152∧cZ IntKind.i64 (z12 x)∧∃x',x'≤ts.length∧(cI (z12 x)=cI (↑x':Int)∧True)∧(z1 x d dH)=(z2 x')∧ts.length - x' < ts.length - x) (rT z7 [CX (qg z13.fst fs bound (List.take x ts),(oh.fst.fst,oh.fst.snd.fst,oh.fst.snd.snd.fst,oh.fst.snd.snd.snd.fst,()),[],()),cI 0])):=by
 conv=>zeta
 delta kq1;have hb:bnd ((vs,ms,cs,fs,ts,()),()):=aA;refine⟨hb,ah.2 ⟨λh=>VG ?_,λh=>⟨hb,⟨0,by omega,⟨rfl,trivial⟩,rfl⟩,λk hk=>ah.2 ⟨λg=>?_,λg=>VG ?_⟩⟩⟩⟩
 ·have h:bM (aB vs ms cs fs ts).1 bound≠0:=by simpa using h
  unfold adO;rw[if_pos h];rfl
 all_goals have h:bM (aB vs ms cs fs ts).1 bound=0:=by simpa using h
 all_goals have ht:=(VF (nJ (fM.1 h).1).2.2).1
 ·simp only[dG]at g;refine⟨⟨by omega,by omega⟩,λd hd=>⟨⟨by omega,by omega⟩,λd1 hd1=>?_⟩⟩
  have hd:ts[k]?=some d:=hd;have hd1:ts[k]?=some d1:=hd1;have ed:d=d1:=PL (hd.symm.trans hd1);subst ed;have e:=@adP (aB vs ms cs fs ts).1 fs bound ts k d hd;have hlen:=aje (aB vs ms cs fs ts).1 fs bound (ts.take k);rw[ku]at hlen;refine⟨⟨⟨hb,by omega⟩,bI.2 (by rw[hlen];simp only[yK,LZ];omega),au.2 (by omega),k+1,by omega,⟨rfl,trivial⟩,by rw[e],by omega⟩,⟨hb,by omega⟩,bI.2 (by rw[hlen];simp only[yK,LZ];omega),au.2 (by omega),k+1,by omega,⟨rfl,trivial⟩,by rw[e],by omega⟩
 ·simp only[dh]at g;rw[tZ (i:=k) (by omega)]
  unfold adO;rw[if_neg (by omega)]
theorem akL:Go.aV.Met Tryz.prog cxR.gd 13 adR:=
 bW (cx:=cxR) (n:=60) (cl:=[(26,uy),(35,SE),(36,Si)]) (rc:=[.data Lr,.keep]) ay ⟨aiW,akB,ah7,trivial⟩ Tryz.func13 λd hd=>by
  obtain⟨⟨vs,ms,cs,fs,ts,⟨⟩⟩,bound,⟨⟩⟩:=d;exact aH (asl vs ms cs fs ts bound) (ap1 vs ms cs fs ts bound hd) (by kernel_rfl)
@[reducible] def arZ (b1 b2:Int) (bl:List (Int×Int×Unit)) (c1 c2:Int) (cl:List (Int×Int×Unit)):Nat→Option (St→iC):=λk=>match k with
  | 4=>some λ_=>.inv { α:=Nat,slots:=λk=>[(5,.c (.v (.int .i64 k)))],res:=λk=>[],inv:=λk=>k≤(bl).length∧∀j < k,bl[j]?=cl[j]?,meas:=λk=>(bl).length - k }
  | _=>none
theorem ape(b1 b2:Int) (bl:List (Int×Int×Unit)) (c1 c2:Int) (cl:List (Int×Int×Unit)) (aA:Jo.pre ((b1,b2,bl,()),(c1,c2,cl,()),())):
 let z4:=mJ (b1,b2,bl,()) (c1,c2,cl,());let z3:=qB z4 false;let z2:=λ(x:Nat)=>(x≤bl.length∧∀(j:Nat),j < x→bl[j]?=cl[j]?);let z1:=[g0 (aj.blk 65 [v6 b1,v6 b2,SC.sl FY bl]),g0 (aj.blk 65 [v6 c1,v6 c2,SC.sl FY cl])];br (!decide (b1=c1) || !decide (b2=c2) || !decide ((↑bl.length:Int)=(↑cl.length:Int))) z3 ((∃x,(z2 x)∧(cI 0=cI (↑x:Int)∧True)∧sm z1)∧∀(x:Nat),(z2 x)→br (decide ((↑x:Int) < (↑bl.length:Int))) ((0≤(↑x:Int)∧(↑x:Int) < (↑bl.length:Int))∧∀(d:Int×(I6.pair Sh.unit).den),bl[(↑x:Int).toNat]?=some d→(0≤(↑x:Int)∧(↑x:Int) < (↑cl.length:Int))∧∀(dH:Int×(I6.pair Sh.unit).den),cl[(↑x:Int).toNat]?=some dH→br (!(true && d.fst == dH.fst && d.snd.fst == dH.snd.fst)) z3 (cZ IntKind.i64 ((↑x:Int)+(1:Int))∧∃x',(z2 x')∧(cI ((↑x:Int)+(1:Int))=cI (↑x':Int)∧True)∧sm z1∧bl.length - x' < bl.length - x)) (qB z4 true)):=by
 conv=>zeta
 have hp:bl.length≤1000000:=aA;have fF:(b1,b2,bl,())≠(c1,c2,cl,())→qB (mJ ((b1,b2,bl,()):BD) (c1,c2,cl,())) false:=λq=>⟨rfl,by rw[lC q]⟩
 refine ah.2 ⟨λh=>fF λq=>?_,λh=>?_⟩
 ·simp only[A91,and_true]at q;obtain⟨q1,q2,q3⟩:=q;subst q1;subst q2;subst q3;simp at h
 simp only[qH,yI,dG]at h;obtain⟨⟨h1,h2⟩,h3⟩:=h;subst h1;subst h2;refine⟨⟨0,⟨by omega,λj hj=>by omega⟩,⟨rfl,trivial⟩,rfl⟩,λk hk=>ah.2 ⟨λg=>?_,λg=>?_⟩⟩
 ·simp only[dG]at g;refine⟨⟨by omega,by omega⟩,λd hd=>⟨⟨by omega,by omega⟩,λd1 hd1=>ah.2 ⟨λg2=>fF λq=>?_,λg2=>⟨au.2 (by omega),k+1,⟨by omega,λj hj=>?_⟩,⟨rfl,trivial⟩,rfl,by omega⟩⟩⟩⟩
  ·simp only[A91,and_true,true_and]at q;subst q;rw[hd]at hd1;cases hd1;simp at g2
  ·by_cases gq:j=k
   ·subst gq;have hd:bl[j]?=some d:=hd;have hd1:cl[j]?=some d1:=hd1;have g2:d=d1:=by
     obtain⟨x,y,⟨⟩⟩:=d;obtain⟨x1,y1,⟨⟩⟩:=d1;simpa using g2
    rw[hd,hd1,g2]
   ·exact hk.2 j (by omega)
 simp only[dh]at g;have e:bl=cl:=by
  apply yJ;intro j
  by_cases hj:j < k
  ·exact hk.2 j hj
  ·rw[qJ (by omega),qJ (by omega)]
 exact⟨rfl,by rw[ji (by rw[e])]⟩
theorem ajx:Go.aV.Met Tryz.prog aK.gd 39 Jo:=
 bW (cx:=aK) (n:=45) (cl:=[]) (rc:=[]) ay trivial Tryz.func39 λd hd=>by
  obtain⟨⟨b1,b2,bl,⟨⟩⟩,⟨c1,c2,cl,⟨⟩⟩,⟨⟩⟩:=d;exact aH (arZ b1 b2 bl c1 c2 cl) (ape b1 b2 bl c1 c2 cl hd) (by kernel_rfl)
end
end Go.Proofs.YtjhenjhcbcalpaaGreatDoor
