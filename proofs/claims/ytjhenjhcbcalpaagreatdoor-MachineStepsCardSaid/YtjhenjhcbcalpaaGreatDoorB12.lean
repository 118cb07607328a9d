/- Part 12 of the proof. Conditions: the rows'. -/
import Derived.Test.YtjhenjhcbcalpaaGreatDoorB11
set_option linter.unusedSimpArgs false
set_option linter.unusedVariables false
set_option maxRecDepth 1000000
set_option maxHeartbeats 8000000
namespace Go.Proofs.YtjhenjhcbcalpaaGreatDoor
open Go Go.jw
noncomputable section
variable {bf:List BD}{e id bound b c:Int}{l:List TD}{m:MD}{t u:TD}{i:ID}{vs:List VD}{ms cs:List ByteArray}{fs:List FD}{ts:List SD}{k:Nat}
abbrev cxR:Cx:={ ti:=tis,gd:=gd0,rt:=true }
def insL(l:List TD) (id:Int) (u:TD):List TD:=l.takeWhile (λt=>decide (t.1 < id))++[u]++l.dropWhile (λt=>decide (t.1 < id))
def uz(e:Int) (fs:List FD) (bound:Int) (z:ZD) (id fn arg:Int):ZD×Int:=
 if 0<=eY (λt=>decide (t.1=id)) z.1 then(zZ,30) else if(newS e fs bound id fn arg).2≠0 then(zZ,30) else((insL z.1 id (newS e fs bound id fn arg).1,z.2),0)
theorem Ei{S:ZD×Int}{L:List TD}{mv mo:List Int}{mq:List (List Int)}{mg:List Int} (h:S=((L,(mv,mo,mq,mg,()),bf,()),e)):[aj.row 56 bD S.1.1]=[aj.row 56 bD L]/\aW.gY [.agg [.row 0,.sl I6 S.1.2.1.1,.sl I6 S.1.2.1.2.1,.sl I6.sl S.1.2.1.2.2.1,.sl I6 S.1.2.1.2.2.2.1,.sl yQ S.1.2.2.1],cI S.2]=aW.gY [.agg [.row 0,.sl I6 mv,.sl I6 mo,.sl I6.sl mq,.sl I6 mg,.sl yQ bf],cI e]:=by
 subst h;exact⟨rfl,rfl⟩
def Ij(l:List TD) (x:Nat):List TD:=List.take (List.length (List.replicate ((l.length:Int)+(1:Int)).toNat zR)) (List.drop 0 (List.take (x:Int).toNat l))++List.drop (List.length (List.drop 0 (List.take (x:Int).toNat l))) (List.replicate ((l.length:Int)+(1:Int)).toNat zR)
theorem VP{x:Nat} (h:x<=l.length):Ij l x=l.take x++List.replicate (l.length+1 - x) zR:=by
 unfold Ij;have e:((l.length:Int)+(1:Int)).toNat=l.length+1:=by omega
 rw[e,MG,MP,A98,qV (by rw[kH];omega),kH,JF h,List.drop_replicate]
theorem PX{x:Nat} (h:x<=l.length):(Ij l x).length=l.length+1:=by
 rw[VP h,kK,kH,MG];omega
theorem aiK{x:Nat} (h:x<=l.length) (u:TD):List.take ((x:Int)+(1:Int)).toNat ((Ij l x).set (x:Int).toNat u)++(List.take (List.length ((Ij l x).set (x:Int).toNat u) - ((x:Int)+(1:Int)).toNat) (List.drop (x:Int).toNat (List.take (l.length:Int).toNat l))++List.drop (List.length (List.drop (x:Int).toNat (List.take (l.length:Int).toNat l))) (List.drop ((x:Int)+(1:Int)).toNat ((Ij l x).set (x:Int).toNat u)))=l.take x++[u]++l.drop x:=by
 have e:((x:Int)+(1:Int)).toNat=x+1:=by omega
 have hl:(l.take x).length=x:=by rw[kH];omega
 have hs:(Ij l x).set x u=l.take x++[u]++List.replicate (l.length - x) zR:=by
  rw[VP h,show l.length+1 - x=l.length - x+1 by omega,Ym,ael _ _ (by omega),hl,Yp,Yn,yU];rfl
 have hn:(l.take x++[u]).length=x+1:=by rw[kK,hl];rfl
 rw[e,A98,A98,Wj,xg,PX h,hs];have a1:List.take (x+1) (l.take x++[u]++List.replicate (l.length - x) zR)=l.take x++[u]:=by
  rw[A87 (by omega),qV (by omega)]
 have a2:List.drop (x+1) (l.take x++[u]++List.replicate (l.length - x) zR)=List.replicate (l.length - x) zR:=by
  rw[Yh (by omega),X4 (by omega),V5]
 have a3:List.take (l.length+1 - (x+1)) (List.drop x l)=List.drop x l:=qV (by rw[xO];omega)
 have a4:List.drop (List.drop x l).length (List.replicate (l.length - x) zR)=[]:=X4 (by rw[MG,xO];omega)
 rw[a1,a2,a3,a4,JE]
theorem aqU{x:Nat}{p:TD->Bool} (h:x<=l.length) (h1:∀(j:Nat),j < x->∀t,l[j]?=some t->p t=true) (h2:∀t,l[x]?=some t->p t=false):l.takeWhile p=l.take x/\l.dropWhile p=l.drop x:=by
 induction l generalizing x with
 | nil=>simp
 | cons a l ih=>
   cases x with
   | zero=>
     have:=h2 a rfl;simp[this]
   | succ x=>
     have ha:=h1 0 (by omega) a rfl
     have:=ih (x:=x) (by simpa using h) (λj hj t ht=>h1 (j+1) (by omega) t (by simpa using ht)) (λt ht=>h2 t (by simpa using ht))
     simp[ha,this]
theorem aiL{x:Nat} (h:x<=l.length) (h1:∀(j:Nat),j < x->∀t,l[j]?=some t->t.1 < id) (h2:∀t,l[x]?=some t->¬t.1 < id) (u:TD):insL l id u=l.take x++[u]++l.drop x:=by
 have:=aqU (p:=λt=>decide (t.1 < id)) h (λj hj t ht=>by simpa using h1 j hj t ht) (λt ht=>by simpa using h2 t ht)
 unfold insL;rw[this.1,this.2]
abbrev adE:CT:={ ps:=[oQ,.int .i64,LQ,.int .i64,.int .i64,.int .i64],pre:=λd=>bnd (d.1,())/\iO d.2.2.1.1/\d.2.2.2.1<=9223372036854775807,res:=λd=>([.row 56 bD (uz (aB d.1.1 d.1.2.1 d.1.2.2.1 d.1.2.2.2.1 d.1.2.2.2.2.1).1 d.1.2.2.2.1 d.2.1 d.2.2.1 d.2.2.2.1 d.2.2.2.2.1 d.2.2.2.2.2.1).1.1],.gY [.agg [.row 0,.sl (.int .i64) ((uz (aB d.1.1 d.1.2.1 d.1.2.2.1 d.1.2.2.2.1 d.1.2.2.2.2.1).1 d.1.2.2.2.1 d.2.1 d.2.2.1 d.2.2.2.1 d.2.2.2.2.1 d.2.2.2.2.2.1).1).2.1.1,.sl (.int .i64) ((uz (aB d.1.1 d.1.2.1 d.1.2.2.1 d.1.2.2.2.1 d.1.2.2.2.2.1).1 d.1.2.2.2.1 d.2.1 d.2.2.1 d.2.2.2.1 d.2.2.2.2.1 d.2.2.2.2.2.1).1).2.1.2.1,.sl (.sl (.int .i64)) ((uz (aB d.1.1 d.1.2.1 d.1.2.2.1 d.1.2.2.2.1 d.1.2.2.2.2.1).1 d.1.2.2.2.1 d.2.1 d.2.2.1 d.2.2.2.1 d.2.2.2.2.1 d.2.2.2.2.2.1).1).2.1.2.2.1,.sl (.int .i64) ((uz (aB d.1.1 d.1.2.1 d.1.2.2.1 d.1.2.2.2.1 d.1.2.2.2.2.1).1 d.1.2.2.2.1 d.2.1 d.2.2.1 d.2.2.2.1 d.2.2.2.2.1 d.2.2.2.2.2.1).1).2.1.2.2.2.1,.sl yQ ((uz (aB d.1.1 d.1.2.1 d.1.2.2.1 d.1.2.2.2.1 d.1.2.2.2.2.1).1 d.1.2.2.2.1 d.2.1 d.2.2.1 d.2.2.2.1 d.2.2.2.2.1 d.2.2.2.2.2.1).1).2.2.1],.c (.v (.int .i64 ((uz (aB d.1.1 d.1.2.1 d.1.2.2.1 d.1.2.2.2.1 d.1.2.2.2.2.1).1 d.1.2.2.2.1 d.2.1 d.2.2.1 d.2.2.2.1 d.2.2.2.2.1 d.2.2.2.2.2.1).2)))]) }
abbrev aqV(vs:List VD) (ms cs:List ByteArray) (fs:List FD) (ts:List SD) (bound:Int) (th:List TD) (mv mo:List Int) (mq:List (List Int)) (mg:List Int) (bf:List BD) (id fn arg:Int):Nat->Option (St->iE):=λk=>match k with
 | 8=>some λ_=>.inv { α:=Nat,slots:=λk=>[(18,.c (.v (.int .i64 k)))],res:=λ_=>[],inv:=λk=>k<=th.length/\∀j < k,∀t,th[j]?=some t->t.1 < id,meas:=λk=>th.length - k }
 | _=>none
theorem aom(vs:List VD) (ms cs:List ByteArray) (fs:List FD) (ts:List SD) (bound:Int) (th:List TD) (mv mo:List Int) (mq:List (List Int)) (mg:List Int) (bf:List BD) (id fn arg:Int) (aA:adE.pre ((vs,ms,cs,fs,ts,()),bound,(th,(mv,mo,mq,mg,()),bf,()),id,fn,arg,())):
 let z10:=uz (aB vs ms cs fs ts).fst fs bound (th,(mv,mo,mq,mg,()),bf,()) id fn arg;let z5:=[aj.row 56 bD z10.fst.fst];let z1:=[SV.agg [SC.row 0,SC.sl I6 z10.fst.snd.fst.fst,SC.sl I6 z10.fst.snd.fst.snd.fst,SC.sl I6.sl z10.fst.snd.fst.snd.snd.fst,SC.sl I6 z10.fst.snd.fst.snd.snd.snd.fst,SC.sl yQ z10.fst.snd.snd.fst],cI (z10.snd)];let z6:=z5=[aj.row 56 bD []]/\aW.gY z1=aW.gY [SV.agg [SC.row 0,SC.sl I6 [],SC.sl I6 [],SC.sl I6.sl [],SC.sl I6 [],SC.sl yQ []],cI 30];let z13:=newS (aB vs ms cs fs ts).fst fs bound id fn arg;let z11:=λ(x:Nat)=>(x<=th.length/\∀(j:Nat),j < x->∀(t:TD),th[j]?=some t->t.fst < id);let z4:=[g0 (bP vs ms cs fs ts),g0 (bZ th mv mo mq mg bf),g0 (aj.blk 37 oV),g0 (aj.obj 56 bD z13.fst)];let qR:=λ(x:Nat)=>(x:Int) < (th.length:Int);let BQ:=λ(x:Nat)=>(x:Int)+(1:Int);let kV:=(th.length:Int)+(1:Int);let z9:=λ(x:Nat)=>(Ij th x).set (x:Int).toNat z13.fst;let z3:=λ(x:Nat)=>0<=(x:Int)+(1:Int)/\(x:Int)+1<=(↑(z9 x).length:Int);let z7:=λ(x:Nat)=>0<=(x:Int)/\(x:Int)<=(th.length:Int)/\(th.length:Int)<=(th.length:Int);let z12:=λ(x:Nat)=>List.drop (x:Int).toNat (List.take (th.length:Int).toNat th);let z2:=λ(x:Nat)=>[aj.row 56 bD (List.take (BQ x).toNat (z9 x)++(List.take ((z9 x).length - (BQ x).toNat) (z12 x)++List.drop (z12 x).length (List.drop (BQ x).toNat (z9 x))))];let z8:=[SV.agg [SC.row 0,SC.sl I6 mv,SC.sl I6 mo,SC.sl I6.sl mq,SC.sl I6 mg,SC.sl yQ bf],cI 0];th.length<=1000000/\br (decide (0<=eY (λt=>decide (t.fst=id)) th)) z6 (((bnd ((vs,ms,cs,fs,ts,()),()))/\id<=9223372036854775807)/\br (!decide (z13.snd=0)) z6 ((∃x,(z11 x)/\(cI 0=cI (x:Int)/\True)/\sm z4)/\∀(x:Nat),(z11 x)->(decide (qR x)=true->0<=(x:Int)/\(x:Int) < (th.length:Int))/\∀(d:TD),(decide (qR x)=true->th[(x:Int).toNat]?=some d)->br (decide (qR x) && decide (d.fst < id)) (iR (BQ x)/\∃x',(z11 x')/\(cI (BQ x)=cI (x':Int)/\True)/\sm z4/\th.length - x' < th.length - x) (iR kV/\(0<=(th.length:Int)+(1:Int)/\(th.length:Int)+1<=(th.length:Int)+(1:Int)/\jY kV.toNat 152)/\((0:Int)<=(0:Int)/\0<=(x:Int)/\(x:Int)<=(th.length:Int))/\(0<=(x:Int)/\(x:Int) < (↑(Ij th x).length:Int))/\(x:Int).toNat < (Ij th x).length/\iR (BQ x)/\((z3 x)/\(z7 x)/\z5=(z2 x)/\aW.gY z1=aW.gY z8)/\(z7 x)/\(z3 x)/\z5=(z2 x)/\aW.gY z1=aW.gY z8))):=by
 conv=>zeta
 delta oV iR iN;obtain⟨hb,⟨hl,hT⟩,hid⟩:bnd ((vs,ms,cs,fs,ts,()),())/\iO th/\id<=9223372036854775807:=aA;refine⟨hl,ah.2 ⟨λh=>Ei ?_,λh=>⟨⟨hb,hid⟩,ah.2 ⟨λh2=>Ei ?_,λh2=>⟨⟨0,⟨by omega,λj hj=>by omega⟩,⟨rfl,trivial⟩,rfl⟩,λx hx=>⟨λg=>⟨by omega,by simpa using g⟩,λd hd=>ah.2 ⟨λg=>?_,λg=>?_⟩⟩⟩⟩⟩⟩⟩
 .unfold uz;rw[if_pos (MI h)];rfl
 .have h:=A86 h;unfold uz;rw[if_neg h,if_pos (by simpa using h2)];rfl
 .simp only[cZ,dG]at g;have hd:=hd (by simpa using g.1)
  rw[A98]at hd;refine⟨au.2 (by omega),x+1,⟨by omega,λj hj t ht=>?_⟩,⟨rfl,trivial⟩,rfl,by omega⟩
  by_cases q:j=x
  .subst q;rw[hd]at ht;cases ht;exact g.2
  .exact hx.2 j (by omega) t ht
 .have hn:=PX hx.1;have hf:uz (aB vs ms cs fs ts).1 fs bound (th,(mv,mo,mq,mg,()),bf,()) id fn arg=((th.take x++[(newS (aB vs ms cs fs ts).1 fs bound id fn arg).1]++th.drop x,(mv,mo,mq,mg,()),bf,()),0):=by
   have h:=A86 h;unfold uz;rw[if_neg h,if_neg (by simpa using h2),aiL hx.1 hx.2 (λt ht=>?_)]
   have iT:x < th.length:=(eX.1 ht).1;have hd:=hd (by simpa using iT)
   rw[A98,ht]at hd;cases hd;simp only[Yd,A8]at g;omega
  rw[aiK hx.1];rw[xg,hn,A98];refine⟨au.2 (by omega),⟨by omega,by omega,bJ.2 (by omega)⟩,⟨by omega,by omega,by omega⟩,⟨by omega,by omega⟩,by omega,au.2 (by omega),⟨⟨by omega,by omega⟩,⟨by omega,by omega,by omega⟩,Ei hf⟩,⟨by omega,by omega,by omega⟩,⟨by omega,by omega⟩,Ei hf⟩
theorem aiM:aN cxR.gd 50 adE:=
 bV (cx:=cxR) (n:=85) (cl:=[(52,xM),(34,Vb)]) (rc:=[.hd 56 bD shR,.keep]) ay ⟨Ee,Vd,trivial⟩ Tryz.func50 λd hd=>by
  obtain⟨⟨vs,ms,cs,fs,ts,⟨⟩⟩,bound,⟨th,⟨mv,mo,mq,mg,⟨⟩⟩,bf,⟨⟩⟩,id,fn,arg,⟨⟩⟩:=d;exact aI (aqV vs ms cs fs ts bound th mv mo mq mg bf id fn arg) (aom vs ms cs fs ts bound th mv mo mq mg bf id fn arg hd) (by kernel_rfl)
def stT(l:List TD) (id:Int) (u:TD):List TD:=l.set (dX (eY (λt=>decide (t.1=id)) l) 0).toNat u
def lq(vs:List VD) (ms cs:List ByteArray) (fs:List FD) (ts:List SD) (bound:Int) (z:ZD) (id:Int):ZD×ED×Int:=
 if bQ (aB vs ms cs fs ts).1 bound≠0 then(zZ,zE,bQ (aB vs ms cs fs ts).1 bound)
 else if vsB vs ms cs fs ts bound z.1 z.2.1 z.2.2.1=false then(zZ,zE,1)
 else match jv (aB vs ms cs fs ts).1 ms fs z.1 id with
 | (t,i,ok)=>if(ok && Dp z.1 z.2.1 t i)=false then(zZ,zE,19)
   else if(jJ z.2.1 (labS z.2.1 t i)).2≠0 then(zZ,zE,30)
   else if(labS z.2.1 t i).2.2.1=16/\0<=eY (λu=>decide (u.1=(labS z.2.1 t i).2.2.2.1)) z.1 then(zZ,zE,30)
   else((stT (if(labS z.2.1 t i).2.2.1=16 then insL z.1 (labS z.2.1 t i).2.2.2.1 (newS (aB vs ms cs fs ts).1 fs bound (labS z.2.1 t i).2.2.2.1 i.2.2.2.2.1 (t.2.2.2.1.getD i.2.2.1.toNat 0)).1 else z.1) id
    (ig (aB vs ms cs fs ts).1 ms fs bound t (uY i (labS z.2.1 t i))).1,(jJ z.2.1 (labS z.2.1 t i)).1,[],()),labS z.2.1 t i,0)
theorem adF(m:MD) (t:TD) (i:ID):(labS m t i).1=t.1:=by
 have key:∀(c:Prop) [Decidable c] (a b:ED),a.1=t.1->b.1=t.1->(if c then a else b).1=t.1:=by
  intro c _ a b ha hb;split
  .exact ha
  .exact hb
 unfold labS
 repeat' (first | rfl | (apply key))
theorem Ej(hv:8<=i.1/\i.1<=22):(labS m t i).2.2.1=16↔i.1=21:=by
 have key:∀(c:Prop) [Decidable c] (a b:ED),¬a.2.2.1=16->¬b.2.2.1=16->¬(if c then a else b).2.2.1=16:=by
  intro c _ a b ha hb;split
  .exact ha
  .exact hb
 constructor
 .intro h
  by_cases q:i.1=21
  .exact q
  .exfalso;revert h;unfold labS;rw[if_neg q]
   repeat' (first | (apply key) | simp)
 .intro h;unfold labS;simp[h]
theorem Em(h:i.1=21):(labS m t i).2.2.2.1=(dB t.1 t.2.2.2.2.2.1).1:=by
 unfold labS;simp[h]
theorem L6{i f t:Int} (h:nZ m=true):nZ (iw m i id f t).1=true:=by
 unfold iw;split
 .split
  .rfl
  .split
   .obtain⟨vs,os,qs,sg,⟨⟩⟩:=m;unfold nZ at h ⊢
    simpa using h
   .rfl
 .rfl
theorem VQ(h:nZ m=true) (e:ED):aZ (jJ m e).1:=by
 have hw:∀x v,aZ (writeM m x v).1:=by
  intro x v;unfold writeM
  repeat' split
  all_goals first | exact G7 | skip
  obtain⟨h1,h2⟩:=nJ h;exact⟨by rw[xg];exact h1,h2⟩
 unfold jJ
 repeat' split
 all_goals first | exact hw _ _ | exact LX (nJ h) | exact aiJ (L6 h) | exact adD h | exact aol h | exact nJ h
theorem L8(hV:VS vs ms cs fs ts bound l m bf) (hM:aZ m) (hT:iO l) (h:jv (aB vs ms cs fs ts).1 ms fs l id=(t,i,true)):
 t∈l/\t.1=id/\kQ m t i/\lS fs t.2.1 t.2.2.1=some i/\t.2.2.2.2.2.2.2.1=1/\rD ms fs bound t:=by
 unfold jv at h;cases ef:wZ l id with
 | none=>rw[ef]at h;cases h
 | some u=>
   rw[ef]at h;simp only[Ya]at h;obtain⟨h1,h2,h3⟩:=h;subst h1;have hm:=akh ef;have hp:=Ef hV.1 hM (hT.2 u hm) h3;have hq:=PN h3;rw[h2]at hp hq;exact⟨hm,by simpa using Qk ef,hp,hq.2.2.2,hq.2.1,(hV.2.2.1 u hm).2⟩
theorem kR{S:ZD×ED×Int}{a:ZD}{b:ED} (h:S=(a,b,c)):rT [Dn S.1,Ce S.2.1,cI S.2.2] [Dn a,Ce b,cI c]:=by subst h;exact⟨rfl,rfl⟩
theorem Cm(hs:bQ (aB vs ms cs fs ts).1 bound=0) (hV:rD ms fs bound t) (h1:t.2.2.2.2.2.2.2.1=1) (ha:lS fs t.2.1 t.2.2.1=some i) (hi:i.1=21) (hl:t.2.2.2.1.length=8):
 (dB t.1 t.2.2.2.2.2.1).2=true/\(newS (aB vs ms cs fs ts).1 fs bound (dB t.1 t.2.2.2.2.2.1).1 i.2.2.2.2.1 (t.2.2.2.1.getD i.2.2.1.toNat 0)).2=0:=by
 have hz:=fO.1 hs;obtain⟨_,_,j,hj,vj,oj⟩:=yK hV h1;rw[ha]at hj;cases hj;have hf:=qj hV;obtain⟨k1,k2,k3,k4⟩:=nH (xI hz.1 (BR hf).1 ha);obtain⟨r1,r2,r3,r4⟩:=kP k1;obtain⟨id,fn,pc,rg,st,ch,ph,su,fa,he,u⟩:=t;have hl:rg.length=8:=hl;obtain⟨f1,f2,f3,f4,f5,f6,f7,f8,f9⟩:=hf;have hph:ph=0:=by
  rcases f9 with q | ⟨_,i',q1,q2,_⟩
  .exact q
  .have ha:lS fs fn pc=some i:=ha;rw[ha]at q1;cases q1;omega
 have oj:iW id ch ph he i=0:=oj;have hc:(dB id ch).2=true:=by
  unfold iW at oj;rw[if_neg (by omega),if_neg (by omega),if_neg (by omega),if_pos hi]at oj
  by_cases q:(dB id ch).2=true
  .exact q
  .rw[if_neg q]at oj;cases oj
 refine⟨hc,?_⟩;have hd:¬aU (dB id ch).1 < 0:=by
  unfold dB at hc ⊢;split at hc
  .cases hc
  .rename_i q;rw[if_neg q];have:=CZ (id:=id) (ch:=ch) (by omega) (by omega) (by omega) (by omega)
   show¬aU (8 * (id+1)+ch) < 0;omega
 have ho:qh vs ms cs fs i.1=fs.length:=by unfold qh;rw[hi];simp
 rw[ho]at k2;have k2:=k2 (by omega)
 have hv:bY (rg.getD i.2.2.1.toNat 0)=true:=by
  have iT:i.2.2.1.toNat < rg.length:=by omega
  rw[Il,mP iT];exact f4 _ (by omega) _ (mP iT)
 show(newS _ _ _ (dB id ch).1 _ _).2=0;unfold newS;rw[if_neg (by omega),if_neg hd,if_neg (by omega),if_neg (by show¬bY (rg.getD i.2.2.1.toNat 0)=false;rw[hv];simp)]
theorem VR(hf:dI m=true) (hc:i.1=21->(dB t.1 t.2.2.2.2.2.1).2=true):bY (uY i (labS m t i))=true:=by
 have hv:∀x:Int,bY (m.1[x.toNat]?.getD 0)=true:=by
  intro x;cases hx:m.1[x.toNat]? with
  | none=>rfl
  | some v=>exact(fA.1 hf).2.2.2.2.1 v (gQ hx)
 have hch:i.1=21->bY (dB t.1 t.2.2.2.2.2.1).1=true:=by
  intro q;obtain⟨_,_,_,_,c1,_,c2,_⟩:=GK (hc q);exact mG.2 ⟨by omega,by omega⟩
 have key:∀(c:Prop) [Decidable c] (a b:ED),(c->bY (uY i a)=true)->(¬c->bY (uY i b)=true)->bY (uY i (if c then a else b))=true:=by
  intro c _ a b ha hb;split
  .exact ha (by assumption)
  .exact hb (by assumption)
 have k1:∀b:Bool,bY (if AL b=0 then 0 else 1)=true:=by intro b;cases b<;>rfl
 unfold labS
 repeat' (refine key _ _ _ (λ_=>?_) (λ_=>?_))
 all_goals (try first | exact hv _ | rfl | exact k1 _ | (apply hch;assumption))
 all_goals (unfold uY;try simp only)
 all_goals first | exact hv _ | rfl | exact k1 _ | (apply hch;assumption) | (rw[if_pos trivial,if_pos (by assumption)];rfl) | (simp_all;done) | skip
theorem PY{r:Int} (hs:bQ e bound=0) (hV:rD ms fs bound t) (h1:t.2.2.2.2.2.2.2.1=1) (hr:bY r=true):(ig e ms fs bound t r).2=0:=by
 unfold ig;rw[if_neg (by omega),if_neg (by simpa using hV),if_neg (by omega),if_neg (by rw[hr];simp)]
theorem XV(h:∃t∈l,t.1=id):(0<=dX (eY (λt=>decide (t.1=id)) l) 0/\dX (eY (λt=>decide (t.1=id)) l) 0 < (l.length:Int))/\(dX (eY (λt=>decide (t.1=id)) l) 0).toNat < l.length:=by
 have q:0<=eY (λt=>decide (t.1=id)) l:=by
  refine Hg.1 λq=>?_
  obtain⟨t,ht,e⟩:=h;have:=Ye.1 (nY q) t ht;simp[e]at this
 obtain⟨k,t,q1,q2,q3,q4⟩:=mJ q;have e:dX (eY (λt=>decide (t.1=id)) l) 0=k:=by rw[q1];unfold dX;split<;>omega
 rw[e];omega
theorem G8(h:t∈l):t∈insL l id u:=by
 unfold insL;rw[<-A95 (p:=λt=>decide (t.1 < id)) (l:=l)]at h
 simp only[Du,A85]at h ⊢
 rcases h with h | h
 .exact .inl (.inl h)
 .exact .inr h
theorem G9(l:List TD) (id:Int) (u:TD):(insL l id u).length=l.length+1:=by
 unfold insL;have:=oW List.length (A95 (p:=λt=>decide (t.1 < id)) (l:=l))
 rw[kK]at this;simp only[kK,sZ,AY];omega
theorem En{vs:List VD}{ms cs:List ByteArray}{fs:List FD}{ts:List SD}{bound id:Int}{z:ZD}{t:TD}{i:ID}{ok:Bool} (h:bQ (aB vs ms cs fs ts).1 bound=0) (h1:vsB vs ms cs fs ts bound z.1 z.2.1 z.2.2.1=true) (hr:jv (aB vs ms cs fs ts).1 ms fs z.1 id=(t,i,ok)):
 lq vs ms cs fs ts bound z id=if(ok && Dp z.1 z.2.1 t i)=false then(zZ,zE,19)
 else if(jJ z.2.1 (labS z.2.1 t i)).2≠0 then(zZ,zE,30)
 else if(labS z.2.1 t i).2.2.1=16/\0<=eY (λu=>decide (u.1=(labS z.2.1 t i).2.2.2.1)) z.1 then(zZ,zE,30)
 else((stT (if(labS z.2.1 t i).2.2.1=16 then insL z.1 (labS z.2.1 t i).2.2.2.1 (newS (aB vs ms cs fs ts).1 fs bound (labS z.2.1 t i).2.2.2.1 i.2.2.2.2.1 (t.2.2.2.1.getD i.2.2.1.toNat 0)).1 else z.1) id
  (ig (aB vs ms cs fs ts).1 ms fs bound t (uY i (labS z.2.1 t i))).1,(jJ z.2.1 (labS z.2.1 t i)).1,[],()),labS z.2.1 t i,0):=by
 unfold lq;rw[if_neg (by omega),if_neg (by rw[h1];simp),hr]
abbrev He:CT:={ ps:=[oQ,.int .i64,LQ,.int .i64],pre:=λd=>bnd (d.1,())/\iO d.2.2.1.1/\d.2.2.1.1.length<=999999/\nZ d.2.2.1.2.1=true/\AO d.2.2.1.2.2.1,res:=λd=>([],.gY [Dn ((lq d.1.1 d.1.2.1 d.1.2.2.1 d.1.2.2.2.1 d.1.2.2.2.2.1 d.2.1 d.2.2.1 d.2.2.2.1).1),Ce ((lq d.1.1 d.1.2.1 d.1.2.2.1 d.1.2.2.2.1 d.1.2.2.2.2.1 d.2.1 d.2.2.1 d.2.2.2.1).2.1),.c (.v (.int .i64 ((lq d.1.1 d.1.2.1 d.1.2.2.1 d.1.2.2.2.1 d.1.2.2.2.2.1 d.2.1 d.2.2.1 d.2.2.2.1).2.2)))]) }
abbrev kq9:=[Dn ([],([],[],[],[],()),[],()),Ce (0,0,0,0,0,0,0,0,0,()),cI 30]
theorem aon(vs:List VD) (ms cs:List ByteArray) (fs:List FD) (ts:List SD) (bound:Int) (th:List TD) (mv mo:List Int) (mq:List (List Int)) (mg:List Int) (bf:List BD) (id:Int) (aA:He.pre ((vs,ms,cs,fs,ts,()),bound,(th,(mv,mo,mq,mg,()),bf,()),id,())):
 let z17:=bnd ((vs,ms,cs,fs,ts,()),());let MN:=aB vs ms cs fs ts;let z20:=(mv,mo,mq,mg,());let Qa:=(th,z20,bf,());let z13:=lq vs ms cs fs ts bound Qa id;let z10:=[Dn (z13.fst),Ce (z13.snd.fst),cI (z13.snd.snd)];let kV:=jv MN.fst ms fs th id;let z12:=labS z20 kV.fst kV.snd.fst;let z11:=jJ z20 z12;let z6:=λ(d:Int)=>uz MN.fst fs bound (th,z11.fst,bf,()) z12.snd.snd.snd.fst kV.snd.fst.snd.snd.snd.snd.fst d;let z7:=z17/\List.length kV.fst.snd.snd.snd.snd.snd.snd.snd.snd.snd.fst<=1000000/\kV.fst.fst<=9223372036854775807/\List.length kV.fst.snd.snd.snd.fst=8;let z9:=ig MN.fst ms fs bound kV.fst (uY kV.snd.fst z12);let z8:=!decide (z9.snd=0);let z3:=rT z10 [Dn ([],([],[],[],[],()),[],()),Ce (0,0,0,0,0,0,0,0,0,()),cI (z9.snd)];let z5:=λ(d:Int)=>eY (λt=>decide (t.fst=id)) (z6 d).fst.fst;let z4:=λ(d:Int)=>dX (z5 d) (0:Int);let z1:=λ(d:Int)=>[Dn ((z6 d).fst.fst.set (z4 d).toNat z9.fst,((z6 d).fst.snd.fst.fst,(z6 d).fst.snd.fst.snd.fst,(z6 d).fst.snd.fst.snd.snd.fst,(z6 d).fst.snd.fst.snd.snd.snd.fst,()),(z6 d).fst.snd.snd.fst,()),Ce z12,cI 0];let BQ:=eY (λt=>decide (t.fst=id)) th;let qR:=dX BQ (0:Int);let z2:=[Dn (th.set qR.toNat z9.fst,(z11.fst.fst,z11.fst.snd.fst,z11.fst.snd.snd.fst,z11.fst.snd.snd.snd.fst,()),bf,()),Ce z12,cI 0];z17/\br (!decide (bQ MN.fst bound=0)) (rT z10 [Dn ([],([],[],[],[],()),[],()),Ce (0,0,0,0,0,0,0,0,0,()),cI (bQ MN.fst bound)]) ((z17/\iO th/\aZ z20)/\br (!vsB vs ms cs fs ts bound th z20 bf) (rT z10 [Dn ([],([],[],[],[],()),[],()),Ce (0,0,0,0,0,0,0,0,0,()),cI 1]) ((z17/\iO th)/\((!!kV.snd.snd)=true->kQ z20 kV.fst kV.snd.fst/\th.length<=1000000)/\br (!kV.snd.snd || !Dp th z20 kV.fst kV.snd.fst) (rT z10 [Dn ([],([],[],[],[],()),[],()),Ce (0,0,0,0,0,0,0,0,0,()),cI 19]) (kQ z20 kV.fst kV.snd.fst/\LY Qa/\(aZ z20/\kV.fst.fst=z12.fst)/\br (!decide (z11.snd=0)) (rT z10 kq9) (aZ z11.fst/\br (decide (z12.snd.snd.fst=16)) ((0<=kV.snd.fst.snd.snd.fst/\kV.snd.fst.snd.snd.fst < 8)/\kV.snd.fst.snd.snd.fst.toNat < 8/\∀(d:Int),kV.1.2.2.2.fst[kV.snd.fst.snd.snd.fst.toNat]?=some d->(z17/\iO th/\z12.snd.snd.snd.fst<=9223372036854775807)/\br (!decide ((z6 d).snd=0)) (rT z10 [Dn ([],([],[],[],[],()),[],()),Ce (0,0,0,0,0,0,0,0,0,()),cI ((z6 d).snd)]) (z7/\br z8 z3 ((z6 d).fst.fst.length<=1000000/\(0<=dX (z5 d) (0:Int)/\dX (z5 d) 0 < (↑(z6 d).fst.fst.length:Int))/\(z4 d).toNat < (z6 d).fst.fst.length/\(rT z10 (z1 d))/\rT z10 (z1 d)))) (z7/\br z8 z3 (th.length<=1000000/\(0<=dX BQ (0:Int)/\dX BQ 0 < (th.length:Int))/\qR.toNat < th.length/\(rT z10 z2)/\rT z10 z2)))))):=by
 conv=>zeta
 delta kq9;obtain⟨hb,hT,hn,hm,hB⟩:bnd ((vs,ms,cs,fs,ts,()),())/\iO th/\th.length<=999999/\nZ (mv,mo,mq,mg,())=true/\AO bf:=aA;have hM:=nJ hm;have hS:=@En vs ms cs fs ts bound id (th,(mv,mo,mq,mg,()),bf,());generalize hr:jv (aB vs ms cs fs ts).1 ms fs th id=R at hS ⊢;obtain⟨T,I,ok⟩:=R;dsimp only at hS ⊢;refine⟨hb,ah.2 ⟨λh=>kR ?_,λh=>⟨⟨hb,hT,hM⟩,ah.2 ⟨λh1=>kR ?_,λh1=>⟨⟨hb,hT⟩,λh2=>⟨?_,hT.1⟩,ah.2 ⟨λh2=>kR ?_,λh2=>?_⟩⟩⟩⟩⟩⟩
 .have h:bQ (aB vs ms cs fs ts).1 bound≠0:=by simpa using h
  unfold lq;rw[if_pos h];rfl
 .have h:bQ (aB vs ms cs fs ts).1 bound=0:=by simpa using h
  have h1:vsB vs ms cs fs ts bound th (mv,mo,mq,mg,()) bf=false:=by simpa using h1
  unfold lq;rw[if_neg (by omega),if_pos h1];rfl
 all_goals have h:bQ (aB vs ms cs fs ts).1 bound=0:=by simpa using h
 all_goals have h1:vsB vs ms cs fs ts bound th (mv,mo,mq,mg,()) bf=true:=by simpa using h1
 all_goals have hV:=jR.1 h1
 .have h2:ok=true:=by simpa using h2
  subst h2;exact(L8 hV hM hT hr).2.2.1
 .rw[hS h h1 rfl,if_pos (by simp only[wX,Ep]at h2;rw[Yd];exact h2)];rfl
 simp only[lM,uP]at h2;obtain⟨ok1,en1⟩:=h2;subst ok1;obtain⟨jZ,hid,hlab,hat,hsu,hvl⟩:=L8 hV hM hT hr;have hS:=hS h h1 rfl;rw[if_neg (by rw[en1];simp)]at hS
 have htB:=hT.2 T jZ;have hch:I.1=21->(dB T.1 T.2.2.2.2.2.1).2=true:=λq=>(Cm h hvl hsu hat q htB.2.2).1
 have hcz:=PY h hvl hsu (VR (m:=(mv,mo,mq,mg,())) (i:=I) hlab.1.2.1 hch);refine⟨hlab,⟨hT,hM,hB⟩,⟨hM,(adF _ _ _).symm⟩,ah.2 ⟨λh3=>kR ?_,λh3=>⟨VQ hm _,ah.2 ⟨λh4=>?_,λh4=>?_⟩⟩⟩⟩
 .have h3:(jJ (mv,mo,mq,mg,()) (labS (mv,mo,mq,mg,()) T I)).2≠0:=by simpa using h3
  rw[hS,if_pos h3];rfl
 all_goals have h3:(jJ (mv,mo,mq,mg,()) (labS (mv,mo,mq,mg,()) T I)).2=0:=by simpa using h3
 all_goals rw[if_neg (by omega)]at hS
 .have h4:(labS (mv,mo,mq,mg,()) T I).2.2.1=16:=MI h4;have hI:=(Ej hlab.2.2.2.1).1 h4;obtain⟨c1,c2⟩:=Cm h hvl hsu hat hI htB.2.2;have eo:=Em (m:=(mv,mo,mq,mg,())) (t:=T) hI;obtain⟨_,_,_,_,c5,_,c6,_⟩:=GK c1;have r2:=hlab.2.1;refine⟨r2,by omega,λd hd=>⟨⟨hb,hT,by rw[eo];omega⟩,ah.2 ⟨λh5=>kR ?_,λh5=>?_⟩⟩⟩
  all_goals have ed:=Tv hd
  all_goals rw[ed]at c2 hS
  all_goals rw[<-eo]at c2
  .have h5:(uz (aB vs ms cs fs ts).1 fs bound (th,(jJ (mv,mo,mq,mg,()) (labS (mv,mo,mq,mg,()) T I)).1,bf,()) (labS (mv,mo,mq,mg,()) T I).2.2.2.1 I.2.2.2.2.1 d).2≠0:=by simpa using h5
   by_cases q:0<=eY (λu=>decide (u.1=(labS (mv,mo,mq,mg,()) T I).2.2.2.1)) th
   .rw[hS,if_pos ⟨h4,q⟩];unfold uz;rw[if_pos q];rfl
   .exfalso;apply h5;unfold uz;rw[if_neg q,if_neg (by rw[c2];simp)]
  .have q:¬0<=eY (λu=>decide (u.1=(labS (mv,mo,mq,mg,()) T I).2.2.2.1)) th:=by
    intro q;unfold uz at h5;rw[if_pos q]at h5;simp at h5
   have es:uz (aB vs ms cs fs ts).1 fs bound (th,(jJ (mv,mo,mq,mg,()) (labS (mv,mo,mq,mg,()) T I)).1,bf,()) (labS (mv,mo,mq,mg,()) T I).2.2.2.1 I.2.2.2.2.1 d=((insL th (labS (mv,mo,mq,mg,()) T I).2.2.2.1 (newS (aB vs ms cs fs ts).1 fs bound (labS (mv,mo,mq,mg,()) T I).2.2.2.1 I.2.2.2.2.1 d).1,(jJ (mv,mo,mq,mg,()) (labS (mv,mo,mq,mg,()) T I)).1,bf,()),0):=by
    unfold uz;rw[if_neg q,if_neg (by rw[c2];simp)]
   rw[es];dsimp only;rw[if_neg (λp=>q p.2),if_pos h4]at hS
   have hp:=XV (l:=insL th (labS (mv,mo,mq,mg,()) T I).2.2.2.1 (newS (aB vs ms cs fs ts).1 fs bound (labS (mv,mo,mq,mg,()) T I).2.2.2.1 I.2.2.2.2.1 d).1) (id:=id) ⟨T,G8 jZ,hid⟩;have hbf:bf=[]:=hV.2.1;have fin:=kR hS;refine⟨⟨hb,htB⟩,ah.2 ⟨λh6=>?_,λh6=>⟨by rw[G9];omega,hp.1,hp.2,?_,?_⟩⟩⟩
   .exfalso;rw[hcz]at h6;simp at h6
   all_goals rw[hbf];rw[hbf]at fin;exact fin
 .have h4:¬(labS (mv,mo,mq,mg,()) T I).2.2.1=16:=A86 h4;rw[if_neg (λp=>h4 p.1),if_neg h4]at hS
  have hp:=XV (l:=th) (id:=id) ⟨T,jZ,hid⟩;have hbf:bf=[]:=hV.2.1;have fin:=kR hS;refine⟨⟨hb,htB⟩,ah.2 ⟨λh6=>?_,λh6=>⟨hT.1,hp.1,hp.2,?_,?_⟩⟩⟩
  .exfalso;rw[hcz]at h6;simp at h6
  all_goals rw[hbf];rw[hbf]at fin;exact fin
theorem VT:aN aK.gd 21 He:=
 bV (cx:=aK) (n:=131) (cl:=[(32,uN),(40,LV),(41,VN),(46,VK),(42,G6),(23,Jy),(48,ads),(50,adE),(51,acA),(52,xM),(49,nX)]) (rc:=[.data LQ,.keep,.keep]) ay ⟨VG,LW,VO,VL,VJ,aiE,aiC,aiM,ahm,Ee,sS,trivial⟩ Tryz.func21 λd hd=>by
  obtain⟨⟨vs,ms,cs,fs,ts,⟨⟩⟩,bound,⟨th,⟨mv,mo,mq,mg,⟨⟩⟩,bf,⟨⟩⟩,id,⟨⟩⟩:=d;exact aI (λ_=>none) (aon vs ms cs fs ts bound th mv mo mq mg bf id hd) (by kernel_rfl)
def qA(e:Int) (fs:List FD) (bound:Int) (ts:List SD):List TD:=ts.zipIdx.map λp=>(newS e fs bound (p.2:Int) p.1.1 p.1.2.1).1
def adG(vs:List VD) (ms cs:List ByteArray) (fs:List FD) (ts:List SD) (bound:Int):ZD×Int:=
 if bQ (aB vs ms cs fs ts).1 bound≠0 then(zZ,bQ (aB vs ms cs fs ts).1 bound) else((qA (aB vs ms cs fs ts).1 fs bound ts,(yO vs ms cs fs ts).1,[],()),0)
theorem adH{e:Int}{fs:List FD}{bound:Int}{ts:List SD}{k:Nat}{d:SD} (h:ts[k]?=some d):qA e fs bound (ts.take (k+1))=qA e fs bound (ts.take k)++[(newS e fs bound (k:Int) d.1 d.2.1).1]:=by
 have hk:k < ts.length:=(eX.1 h).1;unfold qA;rw[Hf,h,Qh,List.zipIdx_append,Qj,kH,JF (by omega)]
 simp
theorem aiN(e:Int) (fs:List FD) (bound:Int) (ts:List SD):(qA e fs bound ts).length=ts.length:=by
 unfold qA;rw[Yf,List.length_zipIdx]
theorem VU(h:DY fs ts=0):(1<=ts.length/\ts.length<=8)/\∀(k:Nat) d,ts[k]?=some d->(0<=d.1/\d.1 < (fs.length:Int))/\bY d.2.1=true:=by
 unfold DY at h;split at h
 .cases h
 rename_i q;refine⟨by omega,λk d hd=>?_⟩
 have hn:ts.find? (λt=>decide (DX fs.length t≠0))=none:=by
  cases hf:ts.find? (λt=>decide (DX fs.length t≠0)) with
  | none=>rfl
  | some t=>
    rw[hf]at h;have:=Qk hf;simp at this;exact absurd h this
 have hz:=Ye.1 hn d (gQ hd);have hz:DX fs.length d=0:=by simpa using hz
 unfold DX at hz;split at hz
 .cases hz
 .split at hz
  .rename_i a b;exact⟨by omega,b⟩
  .cases hz
theorem L9{d:SD} (hs:bQ (aB vs ms cs fs ts).1 bound=0) (hd:ts[k]?=some d):(newS (aB vs ms cs fs ts).1 fs bound (k:Int) d.1 d.2.1).2=0:=by
 have ht:=VU (nU (fO.1 hs).1).2.2;obtain⟨h1,h2⟩:=ht.2 k d hd;have hk:k < ts.length:=(eX.1 hd).1;have hk:k < 8:=by omega
 have hdp:¬aU (k:Int) < 0:=by
  unfold aU dZ;rw[if_neg (by omega),if_pos (by omega)];omega
 unfold newS;rw[if_neg (by omega),if_neg hdp,if_neg (by omega),if_neg (by rw[h2];simp)]
theorem adI(hs:bQ (aB vs ms cs fs ts).1 bound=0):(yO vs ms cs fs ts).2=0:=by
 unfold yO;rw[if_pos (fO.1 hs).1]
theorem VW{S:ZD×Int}{a:ZD} (h:S=(a,c)):rT [Dn S.1,cI S.2] [Dn a,cI c]:=by subst h;exact⟨rfl,rfl⟩
abbrev adJ:CT:={ ps:=[oQ,.int .i64],pre:=λd=>bnd (d.1,()),res:=λd=>([],.gY [Dn ((adG d.1.1 d.1.2.1 d.1.2.2.1 d.1.2.2.2.1 d.1.2.2.2.2.1 d.2.1).1),.c (.v (.int .i64 ((adG d.1.1 d.1.2.1 d.1.2.2.1 d.1.2.2.2.1 d.1.2.2.2.2.1 d.2.1).2)))]) }
abbrev aqW(vs:List VD) (ms cs:List ByteArray) (fs:List FD) (ts:List SD) (bound:Int):Nat->Option (St->iE):=λk=>match k with
 | 9=>some λ_=>.inv { α:=Nat,pX:=[(3,0,56,bD)],slots:=λk=>[(35,.c (.v (.int .i64 k)))],res:=λk=>[(4,.row 56 bD (qA (aB vs ms cs fs ts).1 fs bound (ts.take k)))],inv:=λk=>k<=ts.length,meas:=λk=>ts.length - k }
 | _=>none
theorem aoo(vs:List VD) (ms cs:List ByteArray) (fs:List FD) (ts:List SD) (bound:Int) (aA:adJ.pre ((vs,ms,cs,fs,ts,()),bound,())):
 let z7:=bnd ((vs,ms,cs,fs,ts,()),());let z9:=aB vs ms cs fs ts;let z8:=adG vs ms cs fs ts bound;let z4:=[Dn (z8.fst),cI (z8.snd)];let z10:=yO vs ms cs fs ts;let z11:=bP vs ms cs fs ts;let z3:=[SC.sl I6 z10.fst.fst,SC.sl I6 z10.fst.snd.fst,SC.sl I6.sl z10.fst.snd.snd.fst,SC.sl I6 z10.fst.snd.snd.snd.fst];let z2:=[SC.row (Nat.succ 0).succ.succ.succ,SC.sl I6 z10.fst.fst,SC.sl I6 z10.fst.snd.fst,SC.sl I6.sl z10.fst.snd.snd.fst,SC.sl I6 z10.fst.snd.snd.snd.fst,iN];let z6:=λ(x:Nat)=>qA z9.fst fs bound (List.take x ts);let z1:=λ(x:Nat)=>[g0 z11,g0 (aj.blk 37 oV),g0 (aj.blk 34 z3),g0 (aj.blk 37 z2),g0 (aj.row 56 bD (z6 x))];let z5:=λ(x:Nat) (d:Int×(I6.pair Sh.unit).den)=>newS z9.fst fs bound (x:Int) d.fst d.snd.fst;z7/\br (!decide (bQ z9.fst bound=0)) (rT z4 [Dn ([],([],[],[],[],()),[],()),cI (bQ z9.fst bound)]) (z7/\br (!decide (z10.snd=0)) (rT z4 [Dn ([],([],[],[],[],()),[],()),cI (z10.snd)]) ((∃x,x<=ts.length/\(cI 0=cI (x:Int)/\True)/\[g0 z11,g0 (aj.blk 37 oV),g0 (aj.blk 34 z3),g0 (aj.blk 37 z2),g0 (aj.row 56 bD [])]=(z1 x))/\∀(x:Nat),x<=ts.length->br (decide ((x:Int) < (ts.length:Int))) ((0<=(x:Int)/\(x:Int) < (ts.length:Int))/\∀(d:Int×(I6.pair Sh.unit).den),ts[(x:Int).toNat]?=some d->(z7/\(x:Int)<=(9223372036854775807:Int))/\br (!decide ((z5 x d).snd=0)) (rT z4 [Dn ([],([],[],[],[],()),[],()),cI ((z5 x d).snd)]) (jY ((z6 x).length+[(z5 x d).fst].length) 152/\iR ((x:Int)+(1:Int))/\∃x',x'<=ts.length/\(cI ((x:Int)+(1:Int))=cI (x':Int)/\True)/\[g0 z11,g0 (aj.blk 37 oV),g0 (aj.blk 34 z3),g0 (aj.blk 37 z2),g0 (aj.row 56 bD (qA z9.fst fs bound (List.take x ts)++[(z5 x d).fst]))]=(z1 x')/\ts.length - x' < ts.length - x)) (rT z4 [Dn (qA z9.fst fs bound (List.take x ts),(z10.fst.fst,z10.fst.snd.fst,z10.fst.snd.snd.fst,z10.fst.snd.snd.snd.fst,()),[],()),cI 0]))):=by
 conv=>zeta
 delta oV iR iN;have hb:bnd ((vs,ms,cs,fs,ts,()),()):=aA;refine⟨hb,ah.2 ⟨λh=>VW ?_,λh=>⟨hb,ah.2 ⟨λh1=>?_,λh1=>⟨⟨0,by omega,⟨rfl,trivial⟩,rfl⟩,λk hk=>ah.2 ⟨λg=>?_,λg=>VW ?_⟩⟩⟩⟩⟩⟩
 .have h:bQ (aB vs ms cs fs ts).1 bound≠0:=by simpa using h
  unfold adG;rw[if_pos h];rfl
 all_goals have h:bQ (aB vs ms cs fs ts).1 bound=0:=by simpa using h
 .exfalso;rw[adI h]at h1;simp at h1
 all_goals have ht:=(VU (nU (fO.1 h).1).2.2).1
 .simp only[dG]at g;refine⟨⟨by omega,by omega⟩,λd hd=>⟨⟨hb,by omega⟩,ah.2 ⟨λh2=>?_,λh2=>?_⟩⟩⟩
  all_goals have hd:ts[k]?=some d:=hd
  .exfalso;rw[L9 h hd]at h2;simp at h2
  .have e:=@adH (aB vs ms cs fs ts).1 fs bound ts k d hd;have hlen:=aiN (aB vs ms cs fs ts).1 fs bound (ts.take k);rw[kH]at hlen;refine⟨bJ.2 (by rw[hlen];simp only[sZ,AY];omega),au.2 (by omega),k+1,by omega,⟨rfl,trivial⟩,by rw[e],by omega⟩
 .simp only[A8]at g;rw[qV (i:=k) (by omega)]
  unfold adG;rw[if_neg (by omega)]
theorem aiO:aN cxR.gd 12 adJ:=
 bV (cx:=cxR) (n:=63) (cl:=[(32,uN),(33,Tj),(34,Vb)]) (rc:=[.data LQ,.keep]) ay ⟨VG,ah4,Vd,trivial⟩ Tryz.func12 λd hd=>by
  obtain⟨⟨vs,ms,cs,fs,ts,⟨⟩⟩,bound,⟨⟩⟩:=d;exact aI (aqW vs ms cs fs ts bound) (aoo vs ms cs fs ts bound hd) (by kernel_rfl)
def Ik(m n:MD):Prop:=m.1.length=n.1.length/\m.2.1.length=n.2.1.length/\m.2.2.1.length=n.2.2.1.length
theorem PZ:∀(qs:List (List Int)) (k:Nat) (d r:List Int),qs[k]?=some d->(r++qs.flatten).Perm (d++(qs.set k r).flatten)
 | [],k,d,r,h=>by simp at h
 | q :: qs,0,d,r,h=>by
   simp only[V7,A97]at h;subst h;simp only[Yn,Qi];exact aeh _ _ _
 | q :: qs,k+1,d,r,h=>by
   rw[aei]at h;have ih:=PZ qs k d r h;simp only[akl,Qi];exact(aeh _ _ _).trans ((ih.append_left q).trans (aeh _ _ _))
theorem adK{x v:Int} (h:dI m=true) (h0:(writeM m x v).2=0):dI (writeM m x v).1=true/\Ik (writeM m x v).1 m:=by
 obtain⟨vs,os,qs,sg,⟨⟩⟩:=m;obtain⟨q1,q2,q3,q4,q5,q6,q7,q8⟩:vs.length<=8/\os.length<=4/\qs.length<=4/\SS sg/\(∀v∈vs,bY v=true)/\(∀o∈os,-1<=o)/\(∀x∈sg++qs.flatten,0<=x)/\(sg++qs.flatten).Nodup:=fA.1 h;unfold writeM at h0 ⊢;split at h0
 .rename_i g;split at h0
  .rename_i hv;rw[if_pos g,if_pos hv];refine⟨fA.2 ⟨by rw[xg];exact q1,q2,q3,q4,λy hy=>?_,q6,q7,q8⟩,by rw[xg],rfl,rfl⟩
   rcases MF hy with hy | rfl
   .exact q5 y hy
   .exact hv
  .cases h0
 .rename_i g;exact absurd h0 g
theorem TA{i f t:Int} (h:dI m=true) (ht:-1<=t) (h0:(iw m i id f t).2=0):dI (iw m i id f t).1=true/\Ik (iw m i id f t).1 m:=by
 obtain⟨vs,os,qs,sg,⟨⟩⟩:=m;obtain⟨q1,q2,q3,q4,q5,q6,q7,q8⟩:vs.length<=8/\os.length<=4/\qs.length<=4/\SS sg/\(∀v∈vs,bY v=true)/\(∀o∈os,-1<=o)/\(∀x∈sg++qs.flatten,0<=x)/\(sg++qs.flatten).Nodup:=fA.1 h;unfold iw at h0 ⊢;split at h0
 .rename_i g;split at h0
  .cases h0
  .rename_i g1;split at h0
   .rename_i g2;rw[if_pos g,if_neg g1,if_pos g2];refine⟨fA.2 ⟨q1,by rw[xg];exact q2,q3,q4,q5,λy hy=>?_,q7,q8⟩,rfl,by rw[xg],rfl⟩
    rcases MF hy with hy | rfl
    .exact q6 y hy
    .exact ht
   .cases h0
 .rename_i g;exact absurd h0 g
theorem aop(h:dI m=true) (h0:(qo m c id).2=0):dI (qo m c id).1=true/\Ik (qo m c id).1 m:=by
 obtain⟨vs,os,qs,sg,⟨⟩⟩:=m;unfold qo at h0 ⊢;split at h0
 .rename_i g;split at h0
  .cases h0
  .rename_i g1;split at h0
   .cases h0
   .rename_i g2;rw[if_pos g,if_neg g1,if_neg g2];have hg:=(fP.1 g).2;have hg:0<=c/\c < (qs.length:Int):=hg;have iT:c.toNat < qs.length:=by omega
    have hk:qs[c.toNat]?=some (qs[c.toNat]?.getD []):=by rw[mP iT];rfl
    have:=PW h hk (id:=id) (by omega)
    refine⟨?_,rfl,rfl,by rw[xg]⟩
    show dI (vs,os,qs.set c.toNat (qs[c.toNat]?.getD []++[id]),sg,())=true;rw[this];simpa using g2
 .rename_i g;exact absurd h0 g
theorem aj6{n:Int} (h:dI m=true) (h0:(oG m c n).2.2=0):dI (oG m c n).1=true/\Ik (oG m c n).1 m:=by
 obtain⟨vs,os,qs,sg,⟨⟩⟩:=m;obtain⟨q1,q2,q3,q4,q5,q6,q7,q8⟩:vs.length<=8/\os.length<=4/\qs.length<=4/\SS sg/\(∀v∈vs,bY v=true)/\(∀o∈os,-1<=o)/\(∀x∈sg++qs.flatten,0<=x)/\(sg++qs.flatten).Nodup:=fA.1 h;unfold oG at h0 ⊢;split at h0
 .rename_i g;rw[if_pos g];have hg:0<=c/\c < (qs.length:Int):=(fP.1 g).2;have iT:c.toNat < qs.length:=by omega
  have hk:qs[c.toNat]?=some (qs[c.toNat]?.getD []):=by rw[mP iT];rfl
  generalize (fV n (((vs,os,qs,sg,()):MD).2.2.1[c.toNat]?.getD []).length).toNat=j;show dI (vs,os,qs.set c.toNat ((qs[c.toNat]?.getD []).drop j),lJ sg ((qs[c.toNat]?.getD []).take j),())=true/\Ik (vs,os,qs.set c.toNat ((qs[c.toNat]?.getD []).drop j),lJ sg ((qs[c.toNat]?.getD []).take j),()) _;generalize qs[c.toNat]?.getD []=q at hk;have p1:=PZ qs c.toNat q (q.drop j) hk;have p2:∀F:List Int,(q++F).Perm (q.drop j++(q.take j++F)):=by
   intro F
   conv=>lhs;rw[<-X5 j q,yU]
   exact aeh _ _ _
  have p3:=(List.perm_append_left_iff _).1 (p1.trans (p2 _));obtain⟨a1,a2⟩:=Ec (q.take j) sg q4;have p4:(sg++qs.flatten).Perm ((sg++q.take j)++(qs.set c.toNat (q.drop j)).flatten):=by
   rw[yU];exact p3.append_left sg
  have q8':=p4.nodup_iff.1 q8;have hn:(sg++q.take j).Nodup:=(List.nodup_append.1 q8').1;have hp:(lJ sg (q.take j)).Perm (sg++q.take j):=(List.perm_ext_iff_of_nodup (a1.imp λh=>by omega) hn).2 λx=>by rw[a2 x,Du]
  have hp2:=hp.append_right (qs.set c.toNat (q.drop j)).flatten;exact⟨fA.2 ⟨q1,q2,by rw[xg];exact q3,a1,q5,q6,λx hx=>q7 x (p4.mem_iff.2 (hp2.mem_iff.1 hx)),hp2.nodup_iff.2 q8'⟩,rfl,rfl,by rw[xg]⟩
 .rename_i g;exact absurd h0 g
theorem aiP(h:dI m=true) (h0:(mY m id).2=0):dI (mY m id).1=true/\Ik (mY m id).1 m:=by
 obtain⟨vs,os,qs,sg,⟨⟩⟩:=m;obtain⟨q1,q2,q3,q4,q5,q6,q7,q8⟩:vs.length<=8/\os.length<=4/\qs.length<=4/\SS sg/\(∀v∈vs,bY v=true)/\(∀o∈os,-1<=o)/\(∀x∈sg++qs.flatten,0<=x)/\(sg++qs.flatten).Nodup:=fA.1 h;unfold mY at h0 ⊢;split at h0
 .cases h0
 .rename_i g;split at h0
  .cases h0
  .rename_i g2;rw[if_neg g,if_neg g2];have e:jr (aX sg) [id] false=sg.filter (λx=>decide (x≠id)):=(yJ q4).symm
   show dI (vs,os,qs,jr (aX sg) [id] false,())=true/\_;rw[e];have sub:(sg.filter (λx=>decide (x≠id))++qs.flatten).Sublist (sg++qs.flatten):=(List.filter_sublist).append_right _
   exact⟨fA.2 ⟨q1,q2,q3,q4.filter _,q5,q6,λx hx=>q7 x (sub.subset hx),sub.nodup q8⟩,rfl,rfl,rfl⟩
theorem TB{a b c:MD} (h:Ik a b) (g:Ik b c):Ik a c:=⟨h.1.trans g.1,h.2.1.trans g.2.1,h.2.2.trans g.2.2⟩
theorem aoq{e:ED} (h:dI m=true) (h0:0<=e.1) (h1:(jJ m e).2=0):dI (jJ m e).1=true/\Ik (jJ m e).1 m:=by
 unfold jJ at h1 ⊢;split at h1
 .rename_i g;rw[if_pos g];exact adK h h1
 rename_i g1;rw[if_neg g1];split at h1
 .rename_i g;rw[if_pos g];exact TA h (by omega) h1
 rename_i g2;rw[if_neg g2];split at h1
 .rename_i g;rw[if_pos g];exact TA h (by omega) h1
 rename_i g3;rw[if_neg g3];split at h1
 .rename_i g;rw[if_pos g];split at h1
  .rename_i g';rw[if_pos g'];have a:=TA h (show(-1:Int)<=-1 by omega) g'
   have b:=aop a.1 h1;exact⟨b.1,TB b.2 a.2⟩
  .rename_i g';exact absurd h1 g'
 rename_i g4;rw[if_neg g4];split at h1
 .rename_i g;rw[if_pos g];exact aiP h h1
 rename_i g5;rw[if_neg g5];split at h1
 .rename_i g;rw[if_pos g];exact aj6 h h1
 rename_i g6;rw[if_neg g6];split at h1
 .rename_i g;rw[if_pos g];exact aj6 h h1
 rename_i g7;rw[if_neg g7];exact⟨h,rfl,rfl,rfl⟩
theorem aiQ{p:PD}{e:ED} (h:jM p m=true) (h0:0<=e.1) (h1:(jJ m e).2=0):jM p (jJ m e).1=true:=by
 have hv:=wW h;obtain⟨a,b1,b2,b3⟩:=aoq hv.2.1 h0 h1;unfold jM;rw[a];simp only[cZ,dG];exact⟨⟨⟨⟨hv.1,trivial⟩,b1.trans hv.2.2.1⟩,b2.trans hv.2.2.2.1⟩,b3.trans hv.2.2.2.2⟩
theorem aor(h:qU l) (hu:u.1=id) (hn:∀t∈l,t.1≠id):qU (insL l id u):=by
 have h:l.Pairwise λa b=>a.1 < b.1:=aep.1 h
 refine aep.2 ?_;unfold insL;have dw:∀{l:List TD},l.Pairwise (λa b=>a.1 < b.1)->∀t∈l.dropWhile (λt=>decide (t.1 < id)),id<=t.1:=by
  intro l
  induction l with
  | nil=>intro _ t ht;cases ht
  | cons a l ih=>
    intro hp t ht;rw[X7]at hp
    by_cases q:a.1 < id
    .rw[List.dropWhile_cons_of_pos (by simpa using q)]at ht
     exact ih hp.2 t ht
    .rw[List.dropWhile_cons_of_neg (by simpa using q)]at ht
     rcases nG.1 ht with rfl | ht
     .omega
     .have:=hp.1 t ht;omega
 have tw:∀{l:List TD},∀t∈l.takeWhile (λt=>decide (t.1 < id)),t.1 < id:=by
  intro l
  induction l with
  | nil=>intro t ht;cases ht
  | cons a l ih=>
    intro t ht;rw[V9]at ht;split at ht
    .rename_i q;rcases nG.1 ht with rfl | ht
     .simpa using q
     .exact ih t ht
    .cases ht
 have e:=A95 (p:=λt=>decide (t.1 < id)) (l:=l)
 have h2:=h;rw[<-e,Qg]at h2;have dm:∀t∈l.dropWhile (λt=>decide (t.1 < id)),id < t.1:=by
  intro t ht;have a:=dw h t ht;have b:=hn t (by rw[<-e];exact akj _ ht)
  omega
 refine Qg.2 ⟨Qg.2 ⟨h2.1,List.pairwise_singleton _ _,λa ha b hb=>?_⟩,h2.2.1,λa ha b hb=>?_⟩
 .simp at hb;subst hb;have:=tw a ha;omega
 .have q:=dm b hb;rcases Du.1 ha with ha | ha
  .have:=tw a ha;omega
  .simp at ha;subst ha;omega
theorem aos(h:AX vs ms cs fs=0):(vs.length<=8/\ms.length<=4/\cs.length<=4)/\∀v∈vs,bY v.2.1=true:=by
 unfold AX at h;split at h
 .cases h
 .rename_i q;split at h
  .rename_i g;exact⟨by omega,λv hv=>P7.1 g v hv⟩
  .cases h
theorem aiR(h:(aB vs ms cs fs ts).1=0):jM (vs,ms,cs,fs,ts,()) (yO vs ms cs fs ts).1=true:=by
 obtain⟨⟨h1,h2,h3⟩,hv⟩:=aos (nU h).1;unfold yO;rw[if_pos h];have hf:dI (vs.map (·.2.1),List.replicate ms.length (-1),List.replicate cs.length [],[],())=true:=by
  refine fA.2 ⟨by rw[Yf];exact h1,by rw[MG];exact h2,by rw[MG];exact h3,List.Pairwise.nil,λv hv'=>?_,λo ho=>?_,?_,?_⟩
  .obtain⟨x,hx,rfl⟩:=Yr.1 hv';exact hv x hx
  .rw[(List.mem_replicate.1 ho).2];omega
  all_goals simp
 unfold jM;simp only[hf,h,Yf,MG,decide_true,Bool.and_self]
theorem Mc(h:(qA e fs bound ts)[k]?=some t):∃d,ts[k]?=some d/\t=(newS e fs bound (k:Int) d.1 d.2.1).1:=by
 unfold qA at h;rw[Es,aen]at h;cases hd:ts[k]? with
 | none=>rw[hd]at h;cases h
 | some d=>rw[hd]at h;simp at h;exact⟨d,rfl,h.symm⟩
theorem Md{fn r:Int} (h:(newS e fs bound id fn r).2=0):(newS e fs bound id fn r).1.1=id:=by
 unfold newS at h ⊢
 split at h
 .rename_i q;exact absurd h q
 split at h
 .cases h
 split at h
 .cases h
 split at h
 .cases h
 rename_i q1 q2 q3 q4;rw[if_neg q1,if_neg q2,if_neg q3,if_neg q4];exact(OM _ _ _ _).1
def P5(l:List TD):Prop:=∀t∈l,t.2.2.2.1.length=8
theorem aot(hs:bQ (aB vs ms cs fs ts).1 bound=0):VS vs ms cs fs ts bound (qA (aB vs ms cs fs ts).1 fs bound ts) (yO vs ms cs fs ts).1 []/\P5 (qA (aB vs ms cs fs ts).1 fs bound ts):=by
 have hm:∀t∈qA (aB vs ms cs fs ts).1 fs bound ts,rD ms fs bound t/\t.2.2.2.1.length=8:=by
  intro t ht;obtain⟨k,hk⟩:=Yj.1 ht;obtain⟨d,hd,rfl⟩:=Mc hk;exact(acB (L9 hs hd)).2
 refine⟨⟨aiR (fO.1 hs).1,rfl,λt ht=>⟨hs,(hm t ht).1⟩,Tn λj a b ha hb=>?_⟩,λt ht=>(hm t ht).2⟩
 obtain⟨d,hd,rfl⟩:=Mc ha;obtain⟨d',hd',rfl⟩:=Mc hb;rw[Md (L9 hs hd),Md (L9 hs hd')];omega
theorem TF(h:VS vs ms cs fs ts bound l m bf) (h8:P5 l) (hl:l.length<=1000000):iO l:=
 ⟨hl,λt ht=>⟨(O6 (h.2.2.1 t ht).1 (h.2.2.1 t ht).2).1,(O6 (h.2.2.1 t ht).1 (h.2.2.1 t ht).2).2,h8 t ht⟩⟩
theorem aou(h:qU l) (hk:l[k]?=some t) (hu:u.1=t.1):qU (l.set k u):=by
 unfold qU at h ⊢
 rw[List.map_set];have e:(l.map (·.1))[k]?=some t.1:=by rw[Es,hk];rfl
 rw[show(l.map (·.1)).set k u.1=l.map (·.1) by rw[hu];exact iy e]
 exact h
theorem JC{z:ZD} (h:(lq vs ms cs fs ts bound z id).2.2=0):
 bQ (aB vs ms cs fs ts).1 bound=0/\VS vs ms cs fs ts bound z.1 z.2.1 z.2.2.1/\∃t i,jv (aB vs ms cs fs ts).1 ms fs z.1 id=(t,i,true)/\Dp z.1 z.2.1 t i=true/\(jJ z.2.1 (labS z.2.1 t i)).2=0 /\
  ¬((labS z.2.1 t i).2.2.1=16/\0<=eY (λu=>decide (u.1=(labS z.2.1 t i).2.2.2.1)) z.1) /\
  lq vs ms cs fs ts bound z id=((stT (if(labS z.2.1 t i).2.2.1=16 then insL z.1 (labS z.2.1 t i).2.2.2.1 (newS (aB vs ms cs fs ts).1 fs bound (labS z.2.1 t i).2.2.2.1 i.2.2.2.2.1 (t.2.2.2.1.getD i.2.2.1.toNat 0)).1 else z.1) id
  (ig (aB vs ms cs fs ts).1 ms fs bound t (uY i (labS z.2.1 t i))).1,(jJ z.2.1 (labS z.2.1 t i)).1,[],()),labS z.2.1 t i,0):=by
 have h1:bQ (aB vs ms cs fs ts).1 bound=0:=by
  refine Hg.1 λq=>?_
  unfold lq at h;rw[if_pos q]at h;exact q h
 have h2:vsB vs ms cs fs ts bound z.1 z.2.1 z.2.2.1=true:=by
  refine Hg.1 λq=>?_
  unfold lq at h;rw[if_neg (by omega),if_pos (by simpa using q)]at h;cases h
 cases hr:jv (aB vs ms cs fs ts).1 ms fs z.1 id with
 | mk t x=>
   obtain⟨i,ok⟩:=x;rw[En h1 h2 hr]at h ⊢
   split at h
   .cases h
   rename_i g1;split at h
   .cases h
   rename_i g2;split at h
   .cases h
   rename_i g3;rw[if_neg g1,if_neg g2,if_neg g3];simp only[Bool.not_eq_false,cZ]at g1;exact⟨h1,jR.1 h2,t,i,by rw[g1.1],g1.2,Hg.1 g2,g3,rfl⟩
theorem adL{z:ZD} (h:(lq vs ms cs fs ts bound z id).2.2=0) (h8:P5 z.1) (hl:z.1.length<=999999) (hM:aZ z.2.1):
 VS vs ms cs fs ts bound (lq vs ms cs fs ts bound z id).1.1 (lq vs ms cs fs ts bound z id).1.2.1 (lq vs ms cs fs ts bound z id).1.2.2.1/\P5 (lq vs ms cs fs ts bound z id).1.1:=by
 obtain⟨hs,hV,t,i,hr,he,hf,hd,e⟩:=JC h;rw[e];have hT:=TF hV h8 (by omega)
 obtain⟨hm,hid,hlab,hat,hsu,hvl⟩:=L8 hV hM hT hr;have hch:i.1=21->(dB t.1 t.2.2.2.2.2.1).2=true:=λq=>(Cm hs hvl hsu hat q (h8 t hm)).1
 have hcz:=PY hs hvl hsu (VR (m:=z.2.1) (i:=i) hlab.1.2.1 hch);obtain⟨_,c1,c2,_,c3,_⟩:=ang (h8 t hm) hcz;have h0:0<=t.1:=by
  have:=qj hvl;obtain⟨x,fn,pc,rg,st,ch,ph,su,fa,hd,u⟩:=t;exact(nC this.1).1
 have hL:VS vs ms cs fs ts bound (if(labS z.2.1 t i).2.2.1=16 then insL z.1 (labS z.2.1 t i).2.2.2.1 (newS (aB vs ms cs fs ts).1 fs bound (labS z.2.1 t i).2.2.2.1 i.2.2.2.2.1 (t.2.2.2.1.getD i.2.2.1.toNat 0)).1 else z.1) (jJ z.2.1 (labS z.2.1 t i)).1 [] /\
  P5 (if(labS z.2.1 t i).2.2.1=16 then insL z.1 (labS z.2.1 t i).2.2.2.1 (newS (aB vs ms cs fs ts).1 fs bound (labS z.2.1 t i).2.2.2.1 i.2.2.2.2.1 (t.2.2.2.1.getD i.2.2.1.toNat 0)).1 else z.1) /\
  ∃u∈(if(labS z.2.1 t i).2.2.1=16 then insL z.1 (labS z.2.1 t i).2.2.2.1 (newS (aB vs ms cs fs ts).1 fs bound (labS z.2.1 t i).2.2.2.1 i.2.2.2.2.1 (t.2.2.2.1.getD i.2.2.1.toNat 0)).1 else z.1),u.1=id:=by
  have jZ:=aiQ hV.1 (show 0<=(labS z.2.1 t i).1 by rw[adF];exact h0) hf
  split
  .rename_i g;have hi:=(Ej hlab.2.2.2.1).1 g;obtain⟨s1,s2⟩:=Cm hs hvl hsu hat hi (h8 t hm);rw[<-Em (m:=z.2.1) hi]at s2;obtain⟨_,n1,n2⟩:=acB s2;have n3:=Md s2;have hmm:∀x∈insL z.1 (labS z.2.1 t i).2.2.2.1 (newS (aB vs ms cs fs ts).1 fs bound (labS z.2.1 t i).2.2.2.1 i.2.2.2.2.1 (t.2.2.2.1.getD i.2.2.1.toNat 0)).1,x∈z.1\/x=(newS (aB vs ms cs fs ts).1 fs bound (labS z.2.1 t i).2.2.2.1 i.2.2.2.2.1 (t.2.2.2.1.getD i.2.2.1.toNat 0)).1:=by
    intro x hx;unfold insL at hx;simp only[Du,A85]at hx;rcases hx with(hx | hx) | hx
    .exact .inl ((List.takeWhile_sublist _).subset hx)
    .exact .inr hx
    .exact .inl ((List.dropWhile_sublist _).subset hx)
   refine⟨⟨jZ,rfl,λx hx=>⟨hs,?_⟩,aor hV.2.2.2 n3 λx hx q=>hd ⟨g,?_⟩⟩,λx hx=>?_,t,G8 hm,hid⟩
   .rcases hmm x hx with hx | rfl
    .exact(hV.2.2.1 x hx).2
    .exact n1
   .have:=(XV (l:=z.1) ⟨x,hx,q⟩);refine Hg.1 λq2=>?_
    have:=Ye.1 (nY q2) x hx;simp[q]at this
   .rcases hmm x hx with hx | rfl
    .exact h8 x hx
    .exact n2
  .exact⟨⟨jZ,rfl,hV.2.2.1,hV.2.2.2⟩,h8,t,hm,hid⟩
 generalize (if(labS z.2.1 t i).2.2.1=16 then insL z.1 (labS z.2.1 t i).2.2.2.1 (newS (aB vs ms cs fs ts).1 fs bound (labS z.2.1 t i).2.2.2.1 i.2.2.2.2.1 (t.2.2.2.1.getD i.2.2.1.toNat 0)).1 else z.1)=L at hL
 obtain⟨hL,hL8,u,hu,hui⟩:=hL;have q:0<=eY (λt=>decide (t.1=id)) L:=by
  refine Hg.1 λq=>?_
  have:=Ye.1 (nY q) u hu;simp[hui]at this
 obtain⟨k,v,q1,q2,q3,q4⟩:=mJ q;have ek:(dX (eY (λt=>decide (t.1=id)) L) 0).toNat=k:=by rw[q1];unfold dX;split<;>omega
 have hvi:v.1=id:=by simpa using Qk q3
 unfold stT;rw[ek];refine⟨⟨hL.1,rfl,λx hx=>⟨hs,?_⟩,aou hL.2.2.2 q2 (c3.trans (hid.trans hvi.symm))⟩,λx hx=>?_⟩
 .rcases MF hx with hx | rfl
  .exact(hL.2.2.1 x hx).2
  .exact c1
 .rcases MF hx with hx | rfl
  .exact hL8 x hx
  .exact c2
def xV:List VD:=[(⟨#[120]⟩,0,())]
def xF:List FD:=[(⟨#[102]⟩,[(1,1,0,0,0,1,0,0,()),(11,2,1,0,0,0,0,1,())],())]
def xT:List SD:=[(0,0,()),(0,0,())]
def xP:PD:=(xV,[],[],xF,xT,())
def xt(id:Int):TD:=(id,0,1,[0,1,0,0,0,0,0,0],0,0,0,1,0,[],())
def xu:TD:=(0,0,2,[0,1,0,0,0,0,0,0],1,0,0,2,0,[],())
def xi:ID:=(11,2,1,0,0,0,0,1,())
def xm(v:Int):MD:=([v],[],[],[],())
def xe(id v:Int):ED:=(id,0,5,0,-1,-1,1,v,v+1,())
theorem aj7:(aB xV [] [] xF xT).1=0:=by rfl
theorem adM(h:b=4\/b=32):bQ (aB xV [] [] xF xT).1 b=0:=fO.2 ⟨aj7,by omega,by omega⟩
theorem aqX(h:b=4\/b=32):qA (aB xV [] [] xF xT).1 xF b xT=[xt 0,xt 1]:=by
 rcases h with rfl | rfl<;>rfl
theorem aqY:(yO xV [] [] xF xT).1=xm 0:=by rfl
theorem P6(h:b=4\/b=32):VS xV [] [] xF xT b [xt 0,xt 1] (xm 0) []/\P5 [xt 0,xt 1]:=by
 have:=aot (adM h);rw[aqX h,aqY]at this;exact this
theorem aqZ(h:VS xV [] [] xF xT b l m []) (h8:P5 l) (hl:l.length=2):iO l:=TF h h8 (by omega)
theorem XW(v:Int):aZ (xm v):=nJ (m:=xm v) rfl
theorem VX(hV:rD [] xF 32 t) (h1:t.2.2.2.2.2.2.2.1=1):iM (aB xV [] [] xF xT).1 [] xF t=atR xF t.2.1 t.2.2.1:=by
 unfold iM;rw[if_pos ⟨aj7,h1,hV⟩]
theorem aov:jv (aB xV [] [] xF xT).1 [] xF [xt 0,xt 1] 0=(xt 0,xi,true):=by
 have hV:=(P6 (.inr rfl)).1.2.2.1 (xt 0) (by simp)
 unfold jv;rw[show wZ [xt 0,xt 1] 0=some (xt 0) from rfl]
 show(xt 0,(iM _ _ _ _).1,(iM _ _ _ _).2)=_;rw[VX hV.2 rfl];rfl
theorem aq0(id:Int):labS (xm 0) (xt id) xi=xe id 0:=by rfl
theorem aq1:jJ (xm 0) (xe 0 0)=(xm 1,0):=by
 have hf:dI (xm 0)=true:=(wW (P6 (.inl rfl)).1.1).2.1;unfold jJ;rw[if_pos (.inl rfl)];unfold writeM;rw[if_pos (fP.2 ⟨hf,by decide,by decide⟩),if_pos (show bY (xe 0 0).2.2.2.2.2.2.2.2.1=true from rfl)]
 rfl
theorem aq2(h:b=4\/b=32):(ig (aB xV [] [] xF xT).1 [] xF b (xt 0) 0).1=xu:=by
 have hV:=(P6 h).1.2.2.1 (xt 0) (by simp)
 unfold ig;rw[if_neg (by rw[adM h];simp),if_neg (by simpa using hV.2),if_neg (by decide),if_neg (by decide)]
 rcases h with rfl | rfl<;>rfl
theorem adN(h:b=4\/b=32):lq xV [] [] xF xT b ([xt 0,xt 1],xm 0,[],()) 0=(([xu,xt 1],xm 1,[],()),xe 0 0,0):=by
 rw[En (adM h) (jR.2 (P6 h).1) aov];show(if(true && Dp [xt 0,xt 1] (xm 0) (xt 0) xi)=false then _ else if(jJ (xm 0) (labS (xm 0) (xt 0) xi)).2≠0 then _ else if(labS (xm 0) (xt 0) xi).2.2.1=16/\_ then _ else _)=_
 rw[aq0,aq1,show Dp [xt 0,xt 1] (xm 0) (xt 0) xi=true by rfl]
 rw[if_neg (by simp),if_neg (by simp),if_neg (by rintro⟨h,_⟩;exact absurd h (by decide)),if_neg (by decide)]
 rw[show uY xi (xe 0 0)=0 by rfl,aq2 h]
 rfl
theorem aiS(h:b=4\/b=32):VS xV [] [] xF xT b [xu,xt 1] (xm 1) []/\P5 [xu,xt 1]:=by
 have:=adL (vs:=xV) (ms:=[]) (cs:=[]) (fs:=xF) (ts:=xT) (bound:=b) (id:=0) (z:=([xt 0,xt 1],xm 0,[],())) (by rw[adN h]) (P6 h).2 (by simp) (XW 0)
 rw[adN h]at this;exact this
theorem aow:sW xV [] [] xF xT [xt 0,xt 1] (xm 0) []=[0,1]:=by
 have hV:=(P6 (.inr rfl)).1;unfold sW;rw[if_pos (jR.2 hV)];have e:∀i,rD [] xF 32 (xt i)->Tz (aB xV [] [] xF xT).1 [] xF [xt 0,xt 1] (xm 0) (xt i)=true:=by
  intro i hi;unfold Tz;rw[VX hi rfl];rfl
 unfold sV;rw[aej (e 0 (hV.2.2.1 _ (by simp)).2),aej (e 1 (hV.2.2.1 _ (by simp)).2)]
 rfl
theorem aox:sW xV [] [] xF xT [xu,xt 1] (xm 1) []=[1]:=by
 have hV:=(aiS (.inr rfl)).1;unfold sW;rw[if_pos (jR.2 hV)];have e:Tz (aB xV [] [] xF xT).1 [] xF [xu,xt 1] (xm 1) (xt 1)=true:=by
  unfold Tz;rw[VX (hV.2.2.1 _ (by simp)).2 rfl];rfl
 have e2:Tz (aB xV [] [] xF xT).1 [] xF [xu,xt 1] (xm 1) xu=false:=by
  unfold Tz iM;rw[if_neg (by rintro⟨_,h,_⟩;exact absurd h (by decide))]
  rfl
 unfold sV;rw[List.filter_cons_of_neg (by rw[e2];simp),aej e]
 rfl
theorem aq3:Dq xV [] [] xF xT [xu,xt 1] (xm 1) [] 1=(xe 1 1,true):=by
 have hV:=(aiS (.inr rfl)).1;have hr:jv (aB xV [] [] xF xT).1 [] xF [xu,xt 1] 1=(xt 1,xi,true):=by
  unfold jv;rw[show wZ [xu,xt 1] 1=some (xt 1) from rfl]
  show(xt 1,(iM _ _ _ _).1,(iM _ _ _ _).2)=_;rw[VX (hV.2.2.1 _ (by simp)).2 rfl];rfl
 unfold Dq;rw[if_pos (jR.2 hV),hr];rfl
abbrev aj8:CT:={ ps:=[],pre:=λd=>True,res:=λd=>([],.one (iP oQ xP)) }
abbrev aq4  : Nat->Option (St->iE):=λ_=>none
theorem aoy :
 let z1:=((0:Int),(0:Int),());rE (aW.one (SV.agg [SC.sl Gj xV,SC.sl Sh.str [],SC.sl Sh.str [],SC.sl CY xF,SC.sl mO xT])) (aW.one (SV.agg [SC.sl Gj [({ data:=#[(120:UInt8)]:ByteArray },(0:Int),())],SC.sl Sh.str [],SC.sl Sh.str [],SC.sl CY [({ data:=#[(102:UInt8)]:ByteArray },[((1:Int),(1:Int),(0:Int),(0:Int),(0:Int),(1:Int),(0:Int),(0:Int),()),((11:Int),(2:Int),(1:Int),(0:Int),(0:Int),(0:Int),(0:Int),(1:Int),())],())],SC.sl mO [z1,z1]])):=by
 conv=>zeta
 exact⟨rfl,rfl⟩
theorem aiT:aN aK.gd 31 aj8:=
 bV (cx:=aK) (n:=14) (cl:=[]) (rc:=[.data oQ]) ay trivial Tryz.func31 λd hd=>by
  obtain⟨⟩:=d;exact aI (aq4 ) (aoy ) (by kernel_rfl)
abbrev adO:CT:={ ps:=[.sl (.int .i64),.sl (.int .i64)],pre:=λd=>d.1.length<=1000000,res:=λd=>([],vB (mZ d.1 d.2.1)) }
abbrev aq5(l m:List Int):Nat->Option (St->iE):=λk=>match k with
 | 4=>some λ_=>.inv { α:=Nat,slots:=λk=>[(5,.c (.v (.int .i64 k)))],res:=λk=>[],inv:=λk=>k<=(l).length/\∀j < k,l[j]?=m[j]?,meas:=λk=>(l).length - k }
 | _=>none
theorem aoz(l m:List Int) (aA:adO.pre (l,m,())):
 let z1:=λ(x:Nat)=>(x<=l.length/\∀(j:Nat),j < x->l[j]?=m[j]?);br (!decide ((l.length:Int)=(m.length:Int))) (qB (mZ l m) false) ((∃x,(z1 x)/\(cI 0=cI (x:Int)/\True)/\([]:List dP)=[])/\∀(x:Nat),(z1 x)->br (decide ((x:Int) < (l.length:Int))) ((0<=(x:Int)/\(x:Int) < (l.length:Int))/\∀(d:Int),l[(x:Int).toNat]?=some d->(0<=(x:Int)/\(x:Int) < (m.length:Int))/\∀(dH:Int),m[(x:Int).toNat]?=some dH->br (!decide (d=dH)) (qB (mZ l m) false) (iR ((x:Int)+(1:Int))/\∃x',(z1 x')/\(cI ((x:Int)+(1:Int))=cI (x':Int)/\True)/\([]:List dP)=[]/\l.length - x' < l.length - x)) (qB (mZ l m) true)):=by
 conv=>zeta
 delta dP iR;have hp:l.length<=1000000:=aA;have fF:l≠m->qB (mZ l m) false:=λq=>⟨rfl,by rw[lK q]⟩
 refine ah.2 ⟨λh=>fF λq=>?_,λh=>?_⟩
 .subst q;simp at h
 simp only[uP,dG]at h;refine⟨⟨0,⟨by omega,λj hj=>by omega⟩,⟨rfl,trivial⟩,rfl⟩,λk hk=>ah.2 ⟨λg=>?_,λg=>?_⟩⟩
 .simp only[dG]at g;refine⟨⟨by omega,by omega⟩,λd hd=>⟨⟨by omega,by omega⟩,λd1 hd1=>ah.2 ⟨λg2=>fF λq=>?_,λg2=>⟨au.2 (by omega),k+1,⟨by omega,λj hj=>?_⟩,⟨rfl,trivial⟩,rfl,by omega⟩⟩⟩⟩
  .subst q;rw[hd]at hd1;cases hd1;simp at g2
  .by_cases gu:j=k
   .subst gu;have hd:l[j]?=some d:=hd;have hd1:m[j]?=some d1:=hd1;have g2:d=d1:=by simpa using g2
    rw[hd,hd1,g2]
   .exact hk.2 j (by omega)
 simp only[A8]at g;have e:l=m:=by
  apply Dh;intro j
  by_cases hj:j < k
  .exact hk.2 j hj
  .rw[uD (by omega),uD (by omega)]
 exact⟨rfl,by rw[jq e]⟩
theorem aiU:aN aK.gd 18 adO:=
 bV (cx:=aK) (n:=26) (cl:=[]) (rc:=[]) ay trivial Tryz.func18 λd hd=>by
  obtain⟨l,m,⟨⟩⟩:=d;exact aI (aq5 l m) (aoz l m hd) (by kernel_rfl)
abbrev adP:CT:={ ps:=[],pre:=λd=>True,res:=λd=>([],vB (true)) }
abbrev aq6  : Nat->Option (St->iE):=λ_=>none
theorem aoA :
 let z11:=1<=1000000/\0<=1000000/\0<=1000000/\1<=1000000/\2<=1000000/\(∀(x:FD),x∈xF->List.length x.snd.fst<=1000000)/\2<=1000000;let z12:=qA (0:Int) xF (4:Int) xT;let z10:=sW xV [] [] xF xT z12 (List.map (λx=>x.snd.fst) xV,List.replicate 0 (-1:Int),List.replicate 0 [],[],()) [];let z9:=lq xV [] [] xF xT (4:Int) (qA (0:Int) xF (4:Int) xT,(List.map (λx=>x.snd.fst) xV,List.replicate 0 (-1:Int),List.replicate 0 [],[],()),[],()) (0:Int);let z8:=z9.snd.snd=0;let z2:=true && z9.snd.fst.fst == (0:Int) && z9.snd.fst.snd.fst == (0:Int) && z9.snd.fst.snd.snd.fst == (5:Int) && z9.snd.fst.snd.snd.snd.fst == (0:Int) && z9.snd.fst.snd.snd.snd.snd.fst == (-1:Int) && z9.snd.fst.snd.snd.snd.snd.snd.fst == (-1:Int) && z9.snd.fst.snd.snd.snd.snd.snd.snd.fst == (1:Int) && z9.snd.fst.snd.snd.snd.snd.snd.snd.snd.fst == (0:Int) && z9.snd.fst.snd.snd.snd.snd.snd.snd.snd.snd.fst == (1:Int);let z6:=Dq xV [] [] xF xT z9.fst.fst z9.fst.snd.fst z9.fst.snd.snd.fst (1:Int);let z4:=z6.fst.snd.snd.snd.snd.snd.snd.snd.fst=1;let z3:=z6.fst.snd.snd.snd.snd.snd.snd.snd.snd.fst=2;let z5:=z6.fst.fst=1;let z1:=decide z8 && z2 && z6.snd && decide z4 && decide z3 && decide z5 && mZ z9.fst z9.fst && !mZ (qA (0:Int) xF (4:Int) xT,(List.map (λx=>x.snd.fst) xV,List.replicate 0 (-1:Int),List.replicate 0 [],[],()),[],()) z9.fst;let z7:=sW xV [] [] xF xT z9.fst.fst z9.fst.snd.fst z9.fst.snd.snd.fst;True/\z11/\(true=true->z11/\iO z12/\aZ (List.map (λx=>x.snd.fst) xV,List.replicate 0 (-1:Int),List.replicate 0 [],[],()))/\(true=true->z10.length<=1000000)/\br (false || !mZ z10 [(0:Int),(1:Int)]) (qB true false) ((z11/\iO z12/\2<=999999/\true=true/\AO [])/\(z11/\iO z9.fst.fst/\aZ z9.fst.snd.fst)/\((decide z8 && z2 && z6.snd && decide z4 && decide z3 && decide z5)=true->LY z9.fst)/\((decide z8 && z2 && z6.snd && decide z4 && decide z3 && decide z5 && mZ z9.fst z9.fst)=true->LY (qA (0:Int) xF (4:Int) xT,(List.map (λx=>x.snd.fst) xV,List.replicate 0 (-1:Int),List.replicate 0 [],[],()),[],()))/\(z1=true->z11/\iO z9.fst.fst/\aZ z9.fst.snd.fst)/\(z1=true->z7.length<=1000000)/\qB true (decide z8 && z2 && z6.snd && decide z4 && decide z3 && decide z5 && mZ z9.fst z9.fst && !mZ (qA (0:Int) xF (4:Int) xT,(List.map (λx=>x.snd.fst) xV,List.replicate 0 (-1:Int),List.replicate 0 [],[],()),[],()) z9.fst && mZ z7 [(1:Int)])):=by
 conv=>zeta
 have e1:qA (0:Int) xF (4:Int) xT=[xt 0,xt 1]:=by rfl
 have e2:((List.map (λx:VD=>x.2.1) xV,List.replicate 0 (-1:Int),List.replicate 0 [],[],()):MD)=xm 0:=by rfl
 have e3:lq xV [] [] xF xT 4 ([xt 0,xt 1],xm 0,[],()) 0=(([xu,xt 1],xm 1,[],()),xe 0 0,0):=adN (.inl rfl);rw[e1,e2];simp only[e3,aow,aox,aq3];have hF:∀(x:FD),x∈xF->x.2.1.length<=1000000:=by
  intro x hx;simp only[xF,A85]at hx;subst hx;decide
 have B:1<=1000000/\0<=1000000/\0<=1000000/\1<=1000000/\2<=1000000/\(∀(x:FD),x∈xF->x.2.1.length<=1000000)/\2<=1000000:=⟨by decide,by decide,by decide,by decide,by decide,hF,by decide⟩
 have t0:iO [xt 0,xt 1]:=aqZ (P6 (.inl rfl)).1 (P6 (.inl rfl)).2 rfl;have t1:iO [xu,xt 1]:=aqZ (aiS (.inl rfl)).1 (aiS (.inl rfl)).2 rfl;have bb:AO []:=⟨by decide,λb hb=>nomatch hb⟩
 have ne:mZ (([xt 0,xt 1],xm 0,[],()):ZD) ([xu,xt 1],xm 1,[],())=false:=lK λh=>by
  have:=oW (λz:ZD=>z.2.1.1) h
  simp[xm]at this
 have e4:mZ ([0,1]:List Int) [0,1]=true:=jq rfl;have e5:mZ ([1]:List Int) [1]=true:=jq rfl;have e6:mZ (([xu,xt 1],xm 1,[],()):ZD) ([xu,xt 1],xm 1,[],())=true:=jq rfl;refine⟨trivial,B,λ_=>⟨B,t0,XW 0⟩,λ_=>by decide,ah.2 ⟨λh=>?_,λ_=>⟨⟨B,t0,by decide,trivial,bb⟩,⟨B,t1,XW 1⟩,λ_=>⟨t1,XW 1,bb⟩,λ_=>⟨t0,XW 0,bb⟩,λ_=>⟨B,t1,XW 1⟩,λ_=>by decide,jS ?_⟩⟩⟩
 .rw[e4]at h;cases h
 .rw[e5,e6,ne];rfl
theorem aiV:aN aK.gd 11 adP:=
 bV (cx:=aK) (n:=89) (cl:=[(31,aj8),(12,adJ),(19,Cj),(18,adO),(21,He),(16,adr),(24,JA)]) (rc:=[]) ay ⟨aiT,aiO,aiA,aiU,VT,aiB,aiI,trivial⟩ Tryz.func11 λd hd=>by
  obtain⟨⟩:=d;exact aI (aq6 ) (aoA ) (by kernel_rfl)
def qC(m:MD) (t:TD) (i:ID):ED->ED
 | (ag,ix,kd,eo,mx,en,lQ,rd,wr,_)=>if i.1=18 then(if t.2.2.2.2.2.2.1=0 then(ag,ix,12,eo,i.2.2.2.2.2.1,en,lQ,rd,wr,()) else if t.2.2.2.2.2.2.1=1 then(ag,ix,13,eo,mx,en,lQ,rd,wr,()) else(ag,ix,9,i.2.2.2.2.2.1,mx,en,lQ,rd,wr,()))
   else if i.1=19 then(ag,ix,14,eo,mx,en,lQ,fV (m.2.2.1[i.2.2.2.2.1.toNat]?.getD []).length 1,wr,())
   else if i.1=20 then(ag,ix,15,eo,mx,en,lQ,(m.2.2.1[i.2.2.2.2.1.toNat]?.getD []).length,wr,())
   else if i.1=21 then(ag,ix,16,(dB t.1 t.2.2.2.2.2.1).1,mx,en,lQ,rd,wr,())
   else if i.1=22 then(ag,ix,17,t.2.2.2.1.getD i.2.2.1.toNat 0,mx,en,lQ,rd,wr,()) else(ag,ix,kd,eo,mx,en,lQ,rd,wr,())
def XY(l:List TD) (id:Int):Bool:=match wZ l id with
 | some u=>decide (u.2.2.2.2.2.2.2.1=2) || decide (u.2.2.2.2.2.2.2.1=3)
 | none=>false
def Me(i:ID) (e:ED):Int:=
 if i.1=8\/i.1=14\/i.1=10\/i.1=11\/i.1=17 then e.2.2.2.2.2.2.2.1 else if i.1=12 then AL (decide (e.2.2.1=5)) else if i.1=21 then e.2.2.2.1 else 0
theorem aoB(he:e=0) (hV:rD ms fs 32 t) (h1:t.2.2.2.2.2.2.2.1=1):∃i,lS fs t.2.1 t.2.2.1=some i/\iM e ms fs t=(i,true):=by
 obtain⟨_,_,i,hi,_⟩:=yK hV h1;refine⟨i,hi,?_⟩;unfold iM atR;rw[if_pos ⟨he,h1,hV⟩,hi]
theorem aoC(h1:¬t.2.2.2.2.2.2.2.1=1):iM e ms fs t=(zI,false):=by
 unfold iM;rw[if_neg λq=>h1 q.2.1];rfl
theorem adQ(hV:rD ms fs b t) (hi:lS fs t.2.1 t.2.2.1=some i):(0<=t.2.1/\t.2.1 < (fs.length:Int))/\∀d:FD,fs[t.2.1.toNat]?=some d->(0<=t.2.2.1/\t.2.2.1 < (d.2.1.length:Int))/\∀j,d.2.1[t.2.2.1.toNat]?=some j->j=i:=by
 obtain⟨f1,f2⟩:=BR (qj hV);refine⟨f1,λd hd=>?_⟩
 unfold lS codeF at hi;rw[Il,hd]at hi;have hi:d.2.1[t.2.2.1.toNat]?=some i:=hi;have:=(eX.1 hi).1;exact⟨⟨f2,by omega⟩,λj hj=>by rw[hi]at hj;exact(Io hj).symm⟩
theorem aoD(hV:rD ms fs b t):0<=t.2.2.2.2.2.2.1/\t.2.2.2.2.2.2.1<=2:=by
 have h:=qj hV;obtain⟨id,fn,pc,rg,st,ch,ph,su,fa,he,u⟩:=t;have:=h.2.2.2.2.2.2.2.2;show 0<=ph/\ph<=2;rcases this with q | ⟨q,_⟩<;>omega
theorem aoE(b:Bool):
 br b (qI (AL b) (1:Int)) (qI (AL b) (0:Int)):=by
 cases b<;>exact⟨rfl,rfl⟩
theorem VY:aN aK.gd 92 G5:=
 bV (cx:=aK) (n:=4) (cl:=[]) (rc:=[]) ay trivial Tryz.func92 λd hd=>by
  obtain⟨b,⟨⟩⟩:=d;exact aI (λ_=>none) (aoE b) (by kernel_rfl)
abbrev adR:CT:={ ps:=[.int .i64,.int .i64,.int .i64],pre:=λd=>True,res:=λd=>([],.one (.c (.v (.int .i64 ((dQ d.1 d.2.1 d.2.2.1).1))))) }
theorem aoF(f x y:Int):
 True/\qI ((dQ f x y).fst) ((dQ f x y).fst):=by
 exact⟨trivial,rfl,rfl⟩
theorem VZ:aN aK.gd 91 adR:=
 bV (cx:=aK) (n:=17) (cl:=[(159,SA)]) (rc:=[]) ay ⟨O8,trivial⟩ Tryz.func91 λd hd=>by
  obtain⟨f,x,y,⟨⟩⟩:=d;exact aI (λ_=>none) (aoF f x y) (by kernel_rfl)
abbrev aq7(l:List Int) (x:Int):Nat->Option (St->iE):=λk=>match k with
 | 2=>some λ_=>.inv { α:=Nat,slots:=λk=>[(5,.c (.v (.int .i64 k)))],res:=λk=>[],inv:=λk=>k<=(l).length/\∀j < k,∀y,l[j]?=some y->¬y=x,meas:=λk=>(l).length - k }
 | _=>none
theorem aoG(l:List Int) (x:Int) (aA:vZ.pre (l,x,())):
 let z1:=λ(x_1:Nat)=>(x_1<=l.length/\∀(j:Nat),j < x_1->∀(y:Int),l[j]?=some y->¬y=x);(∃x_1,(z1 x_1)/\(cI 0=cI (x_1:Int)/\True)/\([]:List dP)=[])/\∀(x_1:Nat),(z1 x_1)->br (decide ((x_1:Int) < (l.length:Int))) ((0<=(x_1:Int)/\(x_1:Int) < (l.length:Int))/\∀(d:Int),l[(x_1:Int).toNat]?=some d->br (decide (d=x)) (qB (dM l x) true) (iR ((x_1:Int)+(1:Int))/\∃x',(x'<=l.length/\∀(j:Nat),j < x'->∀(y:Int),l[j]?=some y->¬y=x)/\(cI ((x_1:Int)+(1:Int))=cI (x':Int)/\True)/\([]:List dP)=[]/\l.length - x' < l.length - x_1)) (qB (dM l x) false):=by
 conv=>zeta
 delta dP iR;have hp:l.length<=1000000:=aA;refine⟨⟨0,⟨by omega,λj hj=>by omega⟩,⟨rfl,trivial⟩,rfl⟩,λk hk=>ah.2 ⟨λh=>?_,λh=>?_⟩⟩
 .simp only[dG]at h;have hN:(k:Int).toNat=k:=by omega
  rw[hN];refine⟨by omega,λd hd=>ah.2 ⟨λh2=>⟨rfl,?_⟩,λh2=>⟨au.2 (by omega),k+1,⟨by omega,λj hj y hy=>?_⟩,⟨rfl,trivial⟩,rfl,by omega⟩⟩⟩
  .have e:dM l x=true:=by
    unfold dM;exact MR.2 ⟨d,gQ hd,h2⟩
   rw[e]
  .by_cases gu:j=k
   .subst gu;rw[hd]at hy;cases hy;simpa using h2
   .exact hk.2 j (by omega) y hy
 .simp only[A8]at h;have e:dM l x=false:=by
   unfold dM;rw[Wi];intro i hi;obtain⟨j,hj⟩:=yT hi;simpa using hk.2 j (by have:=(eX.1 hj).1;omega) i hj
  rw[e];exact⟨rfl,rfl⟩
theorem V3:aN aK.gd 53 vZ:=
 jG (cx:=aK) (n:=18) (cl:=[]) ay trivial Tryz.func53 λd hd=>by
  obtain⟨l,x,⟨⟩⟩:=d;exact aI (aq7 l x) (aoG l x hd) (by kernel_rfl)
abbrev adS:CT:={ ps:=[.sl bD,.int .i64],pre:=λd=>d.1.length<=1000000,res:=λd=>([],vB (XY d.1 d.2.1)) }
theorem aoH(th:List TD) (x:Int) (aA:adS.pre (th,x,())):
 let z3:=0<=eY (λt=>decide (t.fst=x)) th;let z4:=eY (λt=>decide (t.fst=x)) th;let z2:=dX z4 (0:Int);let z1:=λ(d:TD)=>!decide (d.snd.snd.snd.snd.snd.snd.snd.fst=2) && decide z3;th.length<=1000000/\(decide z3=true->0<=dX z4 (0:Int)/\dX z4 0 < (th.length:Int))/\∀(d:TD),(decide z3=true->th[z2.toNat]?=some d)->((z1 d)=true->0<=dX z4 (0:Int)/\dX z4 0 < (th.length:Int))/\∀(dH:TD),((z1 d)=true->th[z2.toNat]?=some dH)->qB (XY th x) (decide z3 && (decide (d.snd.snd.snd.snd.snd.snd.snd.fst=2) || decide (dH.snd.snd.snd.snd.snd.snd.snd.fst=3))):=by
 conv=>zeta
 have hl:th.length<=1000000:=aA;have hx:0<=eY (λt=>decide (t.1=x)) th->0<=dX (eY (λt=>decide (t.1=x)) th) 0/\dX (eY (λt=>decide (t.1=x)) th) 0 < (th.length:Int):=λq=>by
  obtain⟨k,t,q1,q2,q3,q4⟩:=mJ q;rw[q1];unfold dX;split<;>omega
 refine⟨hl,λq=>hx (MI q),λd h1=>⟨λq=>?_,λd2 h2=>jS ?_⟩⟩
 .rw[cZ]at q;exact hx (MI q.2)
 .unfold XY wZ
  by_cases q:0<=eY (λt=>decide (t.1=x)) th
  .obtain⟨k,t,q1,q2,q3,q4⟩:=mJ q;have h1:=h1 (vg q);have ek:(dX (eY (λt=>decide (t.1=x)) th) 0).toNat=k:=by rw[q1];unfold dX;split<;>omega
   rw[ek,q2]at h1;have eq1:t=d:=Io h1;subst eq1;rw[q3,vg q,Hl]
   by_cases s2:t.2.2.2.2.2.2.2.1=2
   .simp[s2]
   .have h2:=h2 (by rw[yS s2,vg q];rfl)
    rw[ek,q2]at h2;have eq2:t=d2:=Io h2;subst eq2;simp[s2]
  .rw[nY q,yS q];rfl
theorem aiW:aN aK.gd 99 adS:=
 bV (cx:=aK) (n:=30) (cl:=[(43,xM)]) (rc:=[]) ay ⟨VE,trivial⟩ Tryz.func99 λd hd=>by
  obtain⟨th,x,⟨⟩⟩:=d;exact aI (λ_=>none) (aoH th x hd) (by kernel_rfl)
abbrev adT:CT:={ ps:=[LQ,bD,jT,shE],pre:=λd=>kQ d.1.2.1 d.2.1 d.2.2.1,res:=λd=>([],.one (Ce (qC d.1.2.1 d.2.1 d.2.2.1 d.2.2.2.1))) }
theorem aoI(th:List TD) (mv mo:List Int) (mq:List (List Int)) (mg:List Int) (bf:List BD) (id fn pc:Int) (rg:List Int) (st ch ph su fa:Int) (he:List Int) (op a b c obj n fo ord ag ix kd eo mx en lQ rd wr:Int) (aA:adT.pre ((th,(mv,mo,mq,mg,()),bf,()),(id,fn,pc,rg,st,ch,ph,su,fa,he,()),(op,a,b,c,obj,n,fo,ord,()),(ag,ix,kd,eo,mx,en,lQ,rd,wr,()),())):
 let z4:=(ag,ix,kd,eo,mx,en,lQ,rd,wr,());let z3:=qC (mv,mo,mq,mg,()) (id,fn,pc,rg,st,ch,ph,su,fa,he,()) (op,a,b,c,obj,n,fo,ord,()) z4;let z5:=0<=obj/\obj < (mq.length:Int);let z1:=((z5/\∀(d:List Int),mq[obj.toNat]?=some d->((qE z3 (ag,ix,14,eo,mx,en,lQ,fV (d.length:Int) (1:Int),wr,()))/\qE z3 (ag,ix,14,eo,mx,en,lQ,fV (d.length:Int) (1:Int),wr,()))/\qE z3 (ag,ix,14,eo,mx,en,lQ,fV (d.length:Int) (1:Int),wr,()))/\z5/\∀(d:List Int),mq[obj.toNat]?=some d->qE z3 (ag,ix,14,eo,mx,en,lQ,fV (d.length:Int) (1:Int),wr,()));let z2:=((z5/\∀(d:List Int),mq[obj.toNat]?=some d->(qE z3 (ag,ix,15,eo,mx,en,lQ,(d.length:Int),wr,()))/\qE z3 (ag,ix,15,eo,mx,en,lQ,(d.length:Int),wr,()))/\z5/\∀(d:List Int),mq[obj.toNat]?=some d->qE z3 (ag,ix,15,eo,mx,en,lQ,(d.length:Int),wr,()));br (decide (op=18)) (br (decide (ph=0)) ((qE z3 (ag,ix,12,eo,n,en,lQ,rd,wr,()))/\qE z3 (ag,ix,12,eo,n,en,lQ,rd,wr,())) (br (decide (ph=1)) (qE z3 (ag,ix,13,eo,mx,en,lQ,rd,wr,())) ((qE z3 (ag,ix,9,n,mx,en,lQ,rd,wr,()))/\qE z3 (ag,ix,9,n,mx,en,lQ,rd,wr,())))) (br (decide (op=19)) (z1/\z1/\z5/\∀(d:List Int),mq[obj.toNat]?=some d->qE z3 (ag,ix,14,eo,mx,en,lQ,fV (d.length:Int) (1:Int),wr,())) (br (decide (op=20)) (z2/\z2/\z5/\∀(d:List Int),mq[obj.toNat]?=some d->qE z3 (ag,ix,15,eo,mx,en,lQ,(d.length:Int),wr,())) (br (decide (op=21)) (id<=9223372036854775807/\qE z3 (ag,ix,16,(dB id ch).fst,mx,en,lQ,rd,wr,())) (br (decide (op=22)) (((0<=b/\b < 8)/\(b.toNat < 8/\∀(d:Int),rg[b.toNat]?=some d->qE z3 (ag,ix,17,d,mx,en,lQ,rd,wr,()))/\b.toNat < 8/\∀(d:Int),rg[b.toNat]?=some d->qE z3 (ag,ix,17,d,mx,en,lQ,rd,wr,()))/\(0<=b/\b < 8)/\b.toNat < 8/\∀(d:Int),rg[b.toNat]?=some d->qE z3 (ag,ix,17,d,mx,en,lQ,rd,wr,())) (qE z3 z4))))):=by
 conv=>zeta
 obtain⟨⟨hM,hf,hT⟩,hb,hc,hv,ho1,ho2,ho3⟩:kQ (mv,mo,mq,mg,()) (id,fn,pc,rg,st,ch,ph,su,fa,he,()) (op,a,b,c,obj,n,fo,ord,()):=aA;obtain⟨t1,t2,t3⟩:he.length<=1000000/\id<=9223372036854775807/\rg.length=8:=hT;have hb:0<=b/\b < 8:=hb;have hc:0<=c/\c < 8:=hc;have hv:8<=op/\op<=22:=hv;have ho1:op<=14/\op≠13->0<=obj/\obj < (mv.length:Int):=ho1;have ho2:18<=op/\op<=20->0<=obj/\obj < (mq.length:Int):=ho2;have ho3:op=13\/15<=op->ord=0:=ho3;simp only[aJ]
 repeat' (first | (refine kG ?_) | (refine And.intro ?_ ?_) | (intro _))
 all_goals first | trivial | omega | (simp_all[qC];done) | skip
theorem aiX:aN aK.gd 94 adT:=
 bV (cx:=aK) (n:=72) (cl:=[(160,Vk)]) (rc:=[]) ay ⟨Pg,trivial⟩ Tryz.func94 λd hd=>by
  obtain⟨⟨th,⟨mv,mo,mq,mg,⟨⟩⟩,bf,⟨⟩⟩,⟨id,fn,pc,rg,st,ch,ph,su,fa,he,⟨⟩⟩,⟨op,a,b,c,obj,n,fo,ord,⟨⟩⟩,⟨ag,ix,kd,eo,mx,en,lQ,rd,wr,⟨⟩⟩,⟨⟩⟩:=d;exact aI (λ_=>none) (aoI th mv mo mq mg bf id fn pc rg st ch ph su fa he op a b c obj n fo ord ag ix kd eo mx en lQ rd wr hd) (by kernel_rfl)
theorem aoJ(th:List TD) (mv mo:List Int) (mq:List (List Int)) (mg:List Int) (bf:List BD) (id fn pc:Int) (rg:List Int) (st ch ph su fa:Int) (he:List Int) (op a b c obj n fo ord:Int) (aA:G6.pre ((th,(mv,mo,mq,mg,()),bf,()),(id,fn,pc,rg,st,ch,ph,su,fa,he,()),(op,a,b,c,obj,n,fo,ord,()),())):
 let z8:=(mv,mo,mq,mg,());let z6:=(id,fn,pc,rg,st,ch,ph,su,fa,he,());let z7:=(op,a,b,c,obj,n,fo,ord,());let z5:=labS z8 z6 z7;let z2:=λ(d:Int)=>kQ z8 z6 z7/\qE z5 (qC z8 z6 z7 (id,st,(2:Int),obj,(-1:Int),(-1:Int),ord,(0:Int),d,()));let z4:=λ(dN d:Int)=>kQ z8 z6 z7/\qE z5 (qC z8 z6 z7 (id,st,(5:Int),obj,(-1:Int),(-1:Int),ord,dN,d,()));let z1:=br (decide (op=13)) (kQ z8 z6 z7/\qE z5 (qC z8 z6 z7 (id,st,(7:Int),obj,(-1:Int),(-1:Int),ord,(0:Int),(0:Int),()))) (br (decide (op=15)) (kQ z8 z6 z7/\qE z5 (qC z8 z6 z7 (id,st,(9:Int),obj,(-1:Int),(-1:Int),ord,(0:Int),(0:Int),()))) (br (decide (op=16)) (kQ z8 z6 z7/\qE z5 (qC z8 z6 z7 (id,st,(10:Int),obj,(-1:Int),(-1:Int),ord,(0:Int),(0:Int),()))) (br (decide (op=17)) (aZ z8/\True/\kQ z8 z6 z7/\qE z5 (qC z8 z6 z7 (id,st,(11:Int),obj,(-1:Int),(-1:Int),ord,AL (mX z8 obj),(0:Int),()))) (kQ z8 z6 z7/\qE z5 (qC z8 z6 z7 (id,st,(0:Int),obj,(-1:Int),(-1:Int),ord,(0:Int),(0:Int),()))))));let z3:=λ(d:Int)=>kQ z8 z6 z7/\qE z5 (qC z8 z6 z7 (id,st,(5:Int),obj,(-1:Int),(-1:Int),ord,(0:Int),d,()));(0<=b/\b < 8)/\b.toNat < 8/\∀(d:Int),rg[b.toNat]?=some d->(0<=c/\c < 8)/\c.toNat < 8/\∀(dH:Int),rg[c.toNat]?=some dH->br (decide (op<=14) && !decide (op=13)) ((0<=obj/\obj < (mv.length:Int))/\∀(dN:Int),mv[obj.toNat]?=some dN->br (decide (op=8)) (kQ z8 z6 z7/\qE z5 (qC z8 z6 z7 (id,st,(1:Int),obj,(-1:Int),(-1:Int),ord,dN,(0:Int),()))) (br (decide (op=14)) (kQ z8 z6 z7/\qE z5 (qC z8 z6 z7 (id,st,(8:Int),obj,(-1:Int),(-1:Int),ord,dN,(0:Int),()))) (br (decide (op=9)) (z2 d) (br (decide (op=10)) (z4 dN d) (br (decide (op=11)) (True/\kQ z8 z6 z7/\qE z5 (qC z8 z6 z7 (id,st,(5:Int),obj,(-1:Int),(-1:Int),ord,dN,aH (aH dN+aH d),()))) (br (decide (op=12)) (br (decide (dN=d)) (z4 dN dH) (kQ z8 z6 z7/\qE z5 (qC z8 z6 z7 (id,st,(6:Int),obj,(-1:Int),(-1:Int),ord,dN,(0:Int),())))) z1)))))) (br (decide (op=8)) (kQ z8 z6 z7/\qE z5 (qC z8 z6 z7 (id,st,(1:Int),obj,(-1:Int),(-1:Int),ord,(0:Int),(0:Int),()))) (br (decide (op=14)) (kQ z8 z6 z7/\qE z5 (qC z8 z6 z7 (id,st,(8:Int),obj,(-1:Int),(-1:Int),ord,(0:Int),(0:Int),()))) (br (decide (op=9)) (z2 d) (br (decide (op=10)) (z3 d) (br (decide (op=11)) (True/\kQ z8 z6 z7/\qE z5 (qC z8 z6 z7 (id,st,(5:Int),obj,(-1:Int),(-1:Int),ord,(0:Int),aH (0+aH d),()))) (br (decide (op=12)) (br (decide (0=d)) (z3 dH) (kQ z8 z6 z7/\qE z5 (qC z8 z6 z7 (id,st,(6:Int),obj,(-1:Int),(-1:Int),ord,(0:Int),(0:Int),())))) z1)))))):=by
 conv=>zeta
 have hP:kQ (mv,mo,mq,mg,()) (id,fn,pc,rg,st,ch,ph,su,fa,he,()) (op,a,b,c,obj,n,fo,ord,()):=aA;obtain⟨⟨hM,hf,hT⟩,hb,hc,hv,ho1,ho2,ho3⟩:kQ (mv,mo,mq,mg,()) (id,fn,pc,rg,st,ch,ph,su,fa,he,()) (op,a,b,c,obj,n,fo,ord,()):=aA;obtain⟨t1,t2,t3⟩:he.length<=1000000/\id<=9223372036854775807/\rg.length=8:=hT;have hb:0<=b/\b < 8:=hb;have hc:0<=c/\c < 8:=hc;have hv:8<=op/\op<=22:=hv;have ho1:op<=14/\op≠13->0<=obj/\obj < (mv.length:Int):=ho1;have ho2:18<=op/\op<=20->0<=obj/\obj < (mq.length:Int):=ho2;have ho3:op=13\/15<=op->ord=0:=ho3;have hb8:b.toNat < 8:=by omega
 have hc8:c.toNat < 8:=by omega
 refine⟨hb,hb8,λd hd=>⟨hc,hc8,λd1 hd1=>?_⟩⟩
 have eb:=Tv hd;have ec:=Tv hd1;refine ah.2 ⟨λg=>?_,λg=>?_⟩
 .have g:op<=14/\op≠13:=by simpa using g
  have g1:=ho1 g;refine⟨g1,λd2 h2=>?_⟩
  have ev:mv[obj.toNat]?.getD 0=d2:=by rw[h2];rfl
  have hop:op=8\/op=9\/op=10\/op=11\/op=12\/op=14:=by omega
  simp only[aJ]
  repeat' (first | exact hP | (refine kG ?_) | (refine And.intro ?_ ?_) | (intro _))
  all_goals first | trivial | omega | (simp_all[labS,qC];done) | (simp_all[labS,qC,dQ];done) | skip
 .have g:op<=14->op=13:=by simpa using g
  clear hb hc;have ho:ord=0:=ho3 (by omega)
  simp only[aJ]
  repeat' (first | exact hP | exact hM | (refine kG ?_) | (refine And.intro ?_ ?_) | (intro _))
  all_goals first | trivial | omega | (simp_all[labS,qC];done) | skip
  have hop:op=18\/op=19\/op=20\/op=21\/op=22:=by omega
  rw[ho];rcases hop with e | e | e | e | e
  .subst e;show(if ph=0 then _ else if ph=1 then _ else _)=(if ph=0 then _ else if ph=1 then _ else _)
   split
   .rfl
   .split<;>rfl
  .subst e;show(_,_,_,_,_,_,_,fV 1 (mq[obj.toNat]?.getD []).length,_,_)=(_,_,_,_,_,_,_,fV (mq[obj.toNat]?.getD []).length 1,_,_);rw[show fV 1 ((mq[obj.toNat]?.getD []).length:Int)=fV (mq[obj.toNat]?.getD []).length 1 by unfold fV;split<;>split<;>omega]
  .subst e;rfl
  .subst e;rfl
  .subst e;rfl
theorem aiY:aN aK.gd 44 G6:=
 bV (cx:=aK) (n:=113) (cl:=[(91,adR),(93,Px),(92,G5),(94,adT)]) (rc:=[]) ay ⟨VZ,Vw,VY,aiX,trivial⟩ Tryz.func44 λd hd=>by
  obtain⟨⟨th,⟨mv,mo,mq,mg,⟨⟩⟩,bf,⟨⟩⟩,⟨id,fn,pc,rg,st,ch,ph,su,fa,he,⟨⟩⟩,⟨op,a,b,c,obj,n,fo,ord,⟨⟩⟩,⟨⟩⟩:=d;exact aI (λ_=>none) (aoJ th mv mo mq mg bf id fn pc rg st ch ph su fa he op a b c obj n fo ord hd) (by kernel_rfl)
abbrev adU:CT:={ ps:=[LQ,bD,jT],pre:=λd=>kQ d.1.2.1 d.2.1 d.2.2.1/\d.1.1.length<=1000000/\(0<=d.2.1.2.2.2.2.2.2.1/\d.2.1.2.2.2.2.2.2.1<=2),res:=λd=>([],vB (Dp d.1.1 d.1.2.1 d.2.1 d.2.2.1)) }
theorem aoK(th:List TD) (mv mo:List Int) (mq:List (List Int)) (mg:List Int) (bf:List BD) (id fn pc:Int) (rg:List Int) (st ch ph su fa:Int) (he:List Int) (op a b c obj n fo ord:Int) (aA:adU.pre ((th,(mv,mo,mq,mg,()),bf,()),(id,fn,pc,rg,st,ch,ph,su,fa,he,()),(op,a,b,c,obj,n,fo,ord,()),())):
 let z2:=(mv,mo,mq,mg,());let z1:=Dp th z2 (id,fn,pc,rg,st,ch,ph,su,fa,he,()) (op,a,b,c,obj,n,fo,ord,());br (decide (op=14)) ((0<=obj/\obj < (mv.length:Int))/\∀(d:Int),mv[obj.toNat]?=some d->(0<=b/\b < 8)/\b.toNat < 8/\∀(dH:Int),rg[b.toNat]?=some dH->True/\qB z1 (!decide ((dQ fo d dH).fst=0))) (br (decide (op=15)) (aZ z2/\qB z1 (mX z2 obj)) (br (decide (op=18)) (br (decide (ph=1)) (mg.length<=1000000/\qB z1 (dM mg id)) (((!decide (ph=0))=true->aZ z2)/\qB z1 (decide (ph=0) || mX z2 n))) (br (decide (op=22)) ((0<=b/\b < 8)/\b.toNat < 8/\∀(d:Int),rg[b.toNat]?=some d->th.length<=1000000/\qB z1 (XY th d)) (qB z1 true)))):=by
 conv=>zeta
 obtain⟨⟨hM,hf,hT⟩,hb,hc,hv,ho1,ho2,ho3⟩:kQ (mv,mo,mq,mg,()) (id,fn,pc,rg,st,ch,ph,su,fa,he,()) (op,a,b,c,obj,n,fo,ord,()):=aA.1;obtain⟨t1,t2,t3⟩:he.length<=1000000/\id<=9223372036854775807/\rg.length=8:=hT;have hb:0<=b/\b < 8:=hb;have hc:0<=c/\c < 8:=hc;have hv:8<=op/\op<=22:=hv;have ho1:op<=14/\op≠13->0<=obj/\obj < (mv.length:Int):=ho1;have ho2:18<=op/\op<=20->0<=obj/\obj < (mq.length:Int):=ho2;have ho3:op=13\/15<=op->ord=0:=ho3;have hl:th.length<=1000000:=aA.2.1;have hp:0<=ph/\ph<=2:=aA.2.2;have hg:mg.length<=1000000:=by have:mg.length<=1000:=hM.2.2.2.1;omega
 have hb8:b.toNat < 8:=by omega
 refine aJ.2 ⟨λe=>⟨ho1 (by omega),λd hd=>⟨hb,hb8,λd1 hd1=>⟨trivial,jS ?_⟩⟩⟩,λn1=>aJ.2 ⟨λe=>⟨hM,jS ?_⟩,λn2=>aJ.2 ⟨λe=>aJ.2 ⟨λe2=>⟨hg,jS ?_⟩,λm1=>⟨λ_=>hM,jS ?_⟩⟩,λn3=>aJ.2 ⟨λe=>⟨hb,hb8,λd hd=>⟨hl,jS ?_⟩⟩,λn4=>jS ?_⟩⟩⟩⟩
 .subst e;have e1:∀l m t,Dp l m t (14,a,b,c,obj,n,fo,ord,())=decide ((dQ fo (m.1[obj.toNat]?.getD 0) (t.2.2.2.1.getD b.toNat 0)).1≠0):=λ_ _ _=>rfl
  rw[e1,<-decide_not];show decide ((dQ fo (mv[obj.toNat]?.getD 0) (rg.getD b.toNat 0)).1≠0)=_;rw[Tv hd1,hd];rfl
 .subst e;rfl
 .subst e;subst e2;rfl
 .subst e;have e1:∀l m t,Dp l m t (18,a,b,c,obj,n,fo,ord,())=if t.2.2.2.2.2.2.1=1 then dM m.2.2.2.1 t.1 else if t.2.2.2.2.2.2.1=2 then mX m n else true:=λ_ _ _=>rfl
  rw[e1];show(if ph=1 then _ else if ph=2 then _ else _)=_
  rw[if_neg m1]
  by_cases q:ph=2
  .rw[if_pos q,yS (by omega),Qm]
  .rw[if_neg q,vg (by omega),Qo]
 .subst e;have e1:∀l m t,Dp l m t (22,a,b,c,obj,n,fo,ord,())=XY l (t.2.2.2.1.getD b.toNat 0):=λ_ _ _=>rfl
  rw[e1];show XY th (rg.getD b.toNat 0)=_;rw[Tv hd]
 .show Dp th _ _ _=_;unfold Dp;rw[if_neg n1,if_neg n2,if_neg n3,if_neg n4]
theorem aiZ:aN aK.gd 47 adU:=
 bV (cx:=aK) (n:=65) (cl:=[(91,adR),(93,Px),(53,vZ),(99,adS)]) (rc:=[]) ay ⟨VZ,Vw,V3,aiW,trivial⟩ Tryz.func47 λd hd=>by
  obtain⟨⟨th,⟨mv,mo,mq,mg,⟨⟩⟩,bf,⟨⟩⟩,⟨id,fn,pc,rg,st,ch,ph,su,fa,he,⟨⟩⟩,⟨op,a,b,c,obj,n,fo,ord,⟨⟩⟩,⟨⟩⟩:=d;exact aI (λ_=>none) (aoK th mv mo mq mg bf id fn pc rg st ch ph su fa he op a b c obj n fo ord hd) (by kernel_rfl)
abbrev aj9:CT:={ ps:=[jT,shE],pre:=λd=>True,res:=λd=>([],.one (.c (.v (.int .i64 (Me d.1 d.2.1))))) }
theorem aoL(op a b c obj n fo ord ag ix kd eo mx en lQ rd wr:Int):
 let z3:=Me (op,a,b,c,obj,n,fo,ord,()) (ag,ix,kd,eo,mx,en,lQ,rd,wr,());let z2:=qI z3 rd;let z1:=br (decide (op=12)) (True/\qI z3 (AL (decide (kd=5)))) (br (decide (op=21)) (qI z3 eo) (qI z3 (0:Int)));br (decide (op=8)) (br (decide (op=8)) z2 z1) (br (decide (op=14)) (br (decide (op=14)) z2 z1) (br (decide (op=10)) (br (decide (op=10)) z2 z1) (br (decide (op=11)) (br (decide (op=11)) z2 z1) (br (decide (op=17)) z2 z1)))):=by
 conv=>zeta
 simp only[aJ]
 repeat' (first | (refine aqP ?_) | (refine And.intro ?_ ?_) | (intro _))
 all_goals first | trivial | (simp_all[Me];done) | skip
theorem ai0:aN aK.gd 57 aj9:=
 bV (cx:=aK) (n:=25) (cl:=[(92,G5)]) (rc:=[]) ay ⟨VY,trivial⟩ Tryz.func57 λd hd=>by
  obtain⟨⟨op,a,b,c,obj,n,fo,ord,⟨⟩⟩,⟨ag,ix,kd,eo,mx,en,lQ,rd,wr,⟨⟩⟩,⟨⟩⟩:=d;exact aI (λ_=>none) (aoL op a b c obj n fo ord ag ix kd eo mx en lQ rd wr) (by kernel_rfl)
abbrev aq8(vs:List VD) (ms cs:List ByteArray) (fs:List FD) (ts:List SD) (th:List TD) (mv mo:List Int) (mq:List (List Int)) (mg:List Int) (bf:List BD):Nat->Option (St->iE):=λk=>match k with
 | 5=>some λ_=>.inv { α:=Nat,nil:=[(5,3,.int .i64)],slots:=λk=>[(6,.c (.v (.int .i64 k))),(5,.c (.row 2))],res:=λk=>[(2,.row 3 (.int .i64) (sV (aB vs ms cs fs ts).1 ms fs th (mv,mo,mq,mg,()) (th.take k)))],inv:=λk=>k<=th.length,meas:=λk=>th.length - k }
 | _=>none
theorem aoM(vs:List VD) (ms cs:List ByteArray) (fs:List FD) (ts:List SD) (th:List TD) (mv mo:List Int) (mq:List (List Int)) (mg:List Int) (bf:List BD) (aA:Cj.pre ((vs,ms,cs,fs,ts,()),(th,(mv,mo,mq,mg,()),bf,()),())):
 let z7:=(mv,mo,mq,mg,());let z4:=aW.one (SV.c (SC.sl I6 (sW vs ms cs fs ts th z7 bf)));let z8:=bP vs ms cs fs ts;let z6:=bZ th mv mo mq mg bf;let z2:=λ(x:Nat)=>sV (aB vs ms cs fs ts).fst ms fs th z7 (List.take x th);let z1:=λ(x:Nat)=>[g0 z8,g0 z6,g0 (aj.row 3 I6 (z2 x))];let z5:=λ(d:TD)=>d.snd.snd.snd.snd.snd.snd.snd.fst=1;let z3:=λ(x x':Nat)=>cI ((x:Int)+(1:Int))=cI (x':Int)/\sm (SV.c (SC.row 2))/\True;((bnd ((vs,ms,cs,fs,ts,()),()))/\iO th/\aZ z7)/\br (!vsB vs ms cs fs ts (32:Int) th z7 bf) (rE z4 (aW.one (SV.c (SC.sl I6 [])))) ((∃x,x<=th.length/\(cI 0=cI (x:Int)/\sm (SV.c (SC.row 2))/\True)/\[g0 z8,g0 z6,g0 (aj.row 3 I6 [])]=(z1 x))/\∀(x:Nat),x<=th.length->br (decide ((x:Int) < (th.length:Int))) ((0<=(x:Int)/\(x:Int) < (th.length:Int))/\∀(d:TD),th[(x:Int).toNat]?=some d->(decide (z5 d)=true->0<=d.snd.fst/\d.snd.fst < (fs.length:Int))/\∀(dH:FD),(decide (z5 d)=true->fs[Int.toNat d.snd.fst]?=some dH)->(decide (z5 d)=true->0<=d.snd.snd.fst/\d.snd.snd.fst < ((List.length dH.snd.fst):Int))/\∀(dN:ID),(decide (z5 d)=true->dH.snd.fst[Int.toNat d.snd.snd.fst]?=some dN)->(decide (z5 d)=true->kQ z7 d dN/\th.length<=1000000/\0<=d.snd.snd.snd.snd.snd.snd.fst/\d.snd.snd.snd.snd.snd.snd.fst<=2)/\br (decide (z5 d) && Dp th z7 d dN) (jY ((z2 x).length+[d.fst].length) 8/\iR ((x:Int)+(1:Int))/\∃x',x'<=th.length/\(z3 x x')/\[g0 z8,g0 z6,g0 (aj.row 3 I6 (sV (aB vs ms cs fs ts).fst ms fs th z7 (List.take x th)++[d.fst]))]=(z1 x')/\th.length - x' < th.length - x) (iR ((x:Int)+(1:Int))/\∃x',x'<=th.length/\(z3 x x')/\(z1 x)=(z1 x')/\th.length - x' < th.length - x)) (rE z4 (aW.one (SV.c (SC.sl I6 (z2 x)))))):=by
 conv=>zeta
 delta iR;obtain⟨hb,⟨hl,hT⟩,hM⟩:bnd ((vs,ms,cs,fs,ts,()),())/\iO th/\aZ (mv,mo,mq,mg,()):=aA;refine⟨⟨hb,⟨hl,hT⟩,hM⟩,ah.2 ⟨λh=>?_,λh=>⟨⟨0,by omega,⟨rfl,rfl,trivial⟩,by simp[sV]⟩,λk hk=>ah.2 ⟨λg=>?_,λg=>?_⟩⟩⟩⟩
 .have h:vsB vs ms cs fs ts 32 th (mv,mo,mq,mg,()) bf=false:=by simpa using h
  exact⟨rfl,by unfold sW;rw[h];rfl⟩
 .simp only[dG]at g;have hv:vsB vs ms cs fs ts 32 th (mv,mo,mq,mg,()) bf=true:=by simpa using h
  have hV:=jR.1 hv;have hle:(sV (aB vs ms cs fs ts).1 ms fs th (mv,mo,mq,mg,()) (th.take k)).length<=k:=by
   unfold sV;rw[Yf];exact oh (X6 _ _) (by rw[kH];omega)
  refine⟨⟨by omega,by omega⟩,λd hd=>?_⟩
  have hd:th[k]?=some d:=hd;have hm:=gQ hd;have hvl:=(hV.2.2.1 d hm).2
  by_cases su:d.2.2.2.2.2.2.2.1=1
  .obtain⟨i,hi,hp⟩:=aoB (wW hV.1).1 hvl su;have hp:iM (aB vs ms cs fs ts).1 ms fs d=(i,true):=hp;obtain⟨g1,g2⟩:=adQ hvl hi;refine⟨λ_=>g1,λd1 h1=>?_⟩
   have h1:=h1 (vg su);refine⟨λ_=>(g2 d1 h1).1,λd2 h2=>?_⟩
   have e2:d2=i:=(g2 d1 h1).2 d2 (h2 (vg su));subst e2;have hl2:=Ef hV.1 hM (hT d hm) (by rw[hp])
   rw[hp]at hl2;have eT:Tz (aB vs ms cs fs ts).1 ms fs th (mv,mo,mq,mg,()) d=Dp th (mv,mo,mq,mg,()) d d2:=by unfold Tz;rw[hp];rfl
   refine⟨λ_=>⟨hl2,hl,aoD hvl⟩,ah.2 ⟨λg2=>⟨bJ.2 (by simp only[sZ,AY];omega),au.2 (by omega),k+1,by omega,⟨rfl,rfl,trivial⟩,?_,by omega⟩,λg2=>⟨au.2 (by omega),k+1,by omega,⟨rfl,rfl,trivial⟩,?_,by omega⟩⟩⟩
   all_goals rw[vg su,Hl]at g2
   .rw[wo hd,if_pos (eT.trans g2)]
   .rw[wo hd,eT.trans g2];simp
  .refine⟨λq=>absurd (MI q) su,λd1 _=>⟨λq=>absurd (MI q) su,λd2 _=>⟨λq=>absurd (MI q) su,ah.2 ⟨λg2=>(by rw[yS su]at g2;cases g2),λ_=>⟨au.2 (by omega),k+1,by omega,⟨rfl,rfl,trivial⟩,?_,by omega⟩⟩⟩⟩⟩
   have eT:Tz (aB vs ms cs fs ts).1 ms fs th (mv,mo,mq,mg,()) d=false:=by unfold Tz;rw[aoC su];rfl
   rw[wo hd,eT];simp
 .simp only[A8]at g;have hv:vsB vs ms cs fs ts 32 th (mv,mo,mq,mg,()) bf=true:=by simpa using h
  have ek:k=th.length:=by omega
  subst ek;rw[qV (qw _)];exact⟨rfl,by unfold sW;rw[if_pos hv]⟩
theorem ai1:aN aK.gd 20 Cj:=
 bV (cx:=aK) (n:=49) (cl:=[(28,LV),(47,adU)]) (rc:=[.data (.sl (.int .i64))]) ay ⟨VH,aiZ,trivial⟩ Tryz.func20 λd hd=>by
  obtain⟨⟨vs,ms,cs,fs,ts,⟨⟩⟩,⟨th,⟨mv,mo,mq,mg,⟨⟩⟩,bf,⟨⟩⟩,⟨⟩⟩:=d;exact aI (aq8 vs ms cs fs ts th mv mo mq mg bf) (aoM vs ms cs fs ts th mv mo mq mg bf hd) (by kernel_rfl)
abbrev cxD:Cx:={ ti:=tis,gd:=gd0,dm:=true }
theorem XZ{n:Nat} (h:n=k):lu n (λj=>decide (j < k)) Kt=λj=>decide (j < k+1):=by
 subst h
 funext j
 by_cases h:j < n
 .simp[lu,cnd,h];omega
 .simp[lu,cnd,Kt,h];omega
theorem adV:CQ=λj=>decide (j < 0):=by funext j;simp
abbrev aoN(vs os:List Int) (qs:List (List Int)) (sg:List Int):Nat->Option (St->iE):=λk=>match k with
 | 2=>some λ_=>.cut { α:=Nat,pad:=4,can:=[(2,.slot 3),(3,.cell 2 0),(4,.cell 2 1),(5,.cell 2 3)],slots:=λ_=>[(3,.c (.own 2 0))],res:=λ_=>[(2,.blk 34 [.row 3,.row 4,.v (.slice none 0 0),.row 5]),(3,.row 3 (.int .i64) (vs)),(4,.row 3 (.int .i64) (os)),(5,.row 3 (.int .i64) (sg))],inv:=λu=>u=0,meas:=λ_=>0 }
 | 3=>some λ_=>.inv { α:=Nat,pX:=[(2,2,31,.sl (.int .i64))],deep:=[(6,3,.int .i64,0)],slots:=λk=>[(4,.c (.v (.int .i64 k)))],res:=λk=>[(6,.deep 31 (.sl (.int .i64)) (qs.take k) 3 (.int .i64) 0 (λj=>decide (j < k)) [])],inv:=λk=>k<=qs.length,meas:=λk=>qs.length - k }
 | _=>none
theorem ai2(vs os:List Int) (qs:List (List Int)) (sg:List Int) (aA:Jr.pre ((vs,os,qs,sg,()),())):
 let z3:=[SC.sl I6 vs,SC.sl I6 os,SC.sl I6.sl qs,SC.sl I6 sg];let z2:=[g0 (aj.blk 34 z3),g0 (aj.blk 34 jV),g0 (aj.blk 34 ah5),g0 (aj.row 3 I6 vs),g0 (aj.row 3 I6 os),g0 (aj.row 3 I6 sg)];let z1:=λ(x:Nat)=>[g0 (aj.blk 34 z3),g0 (aj.blk 34 jV),g0 (aj.blk 34 PI),g0 (aj.row 3 I6 vs),g0 (aj.row 3 I6 os),g0 (aj.row 3 I6 sg),g0 (aj.deep 31 I6.sl (List.take x qs) 3 I6 0 (λj=>decide (j < x)) [])];((vs.length<=1000000/\(os.length<=1000000/\(sg.length<=1000000/\(∃v,v=0/\iG/\sm z2)/\∃v,v=0/\iG/\sm z2)/\sg.length<=1000000/\∃v,v=0/\iG/\sm z2)/\os.length<=1000000/\sg.length<=1000000/\∃v,v=0/\iG/\sm z2)/\vs.length<=1000000/\os.length<=1000000/\sg.length<=1000000/\∃v,v=0/\iG/\sm z2)/\∀(v:Nat),v=0->(∃x,x<=qs.length/\(cI 0=cI (x:Int)/\True)/\[g0 (aj.blk 34 z3),g0 (aj.blk 34 jV),g0 (aj.blk 34 PI),g0 (aj.row 3 I6 vs),g0 (aj.row 3 I6 os),g0 (aj.row 3 I6 sg),g0 (aj.deep 31 I6.sl [] 3 I6 0 CQ [])]=(z1 x))/\∀(x:Nat),x<=qs.length->br (decide ((x:Int) < (qs.length:Int))) ((0<=(x:Int)/\(x:Int) < (qs.length:Int))/\∀(d:List Int),qs[(x:Int).toNat]?=some d->d.length<=1000000/\(1<=List.length ([d])/\jY (List.length (List.take x qs)+List.length ([d])) 24)/\iR ((x:Int)+(1:Int))/\∃x',x'<=qs.length/\(cI ((x:Int)+(1:Int))=cI (x':Int)/\True)/\[g0 (aj.blk 34 z3),g0 (aj.blk 34 jV),g0 (aj.blk 34 PI),g0 (aj.row 3 I6 vs),g0 (aj.row 3 I6 os),g0 (aj.row 3 I6 sg),g0 (aj.deep 31 I6.sl (List.take x qs++[d]) 3 I6 0 (lu (List.length (List.take x qs)) (λj=>decide (j < x)) Kt) [])]=(z1 x')/\qs.length - x' < qs.length - x) ([aj.row 3 I6 vs,aj.row 3 I6 os,aj.deep 31 I6.sl qs 3 I6 0 (λj=>decide (j < List.length (vs,os,qs,sg,()).snd.snd.fst)) [],aj.row 3 I6 sg]=[aj.row 3 I6 vs,aj.row 3 I6 os,aj.deep 31 I6.sl (List.take x qs) 3 I6 0 (λj=>decide (j < x)) [],aj.row 3 I6 sg]/\aW.one (SV.agg Pv)=aW.one (SV.agg kq8)):=by
 conv=>zeta
 delta jV ah5 PI iG Pv kq8 cI g0 sm I6 iR iN;obtain⟨b1,b2,b3,b4,b5,b6⟩:vs.length<=1000/\os.length<=1000/\qs.length<=1000/\sg.length<=1000/\(∀q∈qs,q.length<=1000)/\qs.flatten.length<=100000:=aA;refine⟨?_,λu hu=>⟨⟨0,by omega,⟨rfl,trivial⟩,?_⟩,λk hk=>ah.2 ⟨λg=>?_,λg=>?_⟩⟩⟩
 .repeat' first | exact⟨0,rfl,⟨rfl,trivial⟩,rfl⟩ | (refine And.intro ?_ ?_) | omega
 .rw[adV];rfl
 .simp only[dG]at g;have hl:(qs.take k).length=k:=by rw[kH];omega
  refine⟨⟨by omega,by omega⟩,λd hd=>⟨?_,⟨by simp,bJ.2 ?_⟩,au.2 (by omega),k+1,by omega,⟨rfl,trivial⟩,?_,by omega⟩⟩
  .have:=b5 d (gQ hd);omega
  .simp only[kH,sZ,AY];omega
  .have hd:qs[k]?=some d:=hd;have e:qs.take (k+1)=qs.take k++[d]:=by rw[Hf,hd];simp
   rw[e,XZ hl]
 simp only[A8]at g;have ek:k=qs.length:=by omega
 subst ek;rw[qV (qw _)];exact⟨rfl,rfl⟩
theorem adW:aN cxD.gd 65 Jr:=
 bV (cx:=cxD) (n:=34) (cl:=[(131,Pn)]) (rc:=[]) ay ⟨GR,trivial⟩ Tryz.func65 λd hd=>by
  obtain⟨⟨vs,os,qs,sg,⟨⟩⟩,⟨⟩⟩:=d;exact⟨aoN vs os qs sg,cast (by kernel_rfl) (ai2 vs os qs sg hd)⟩
abbrev adX:CT:={ ps:=[qx,.int .i64,.int .i64],pre:=λd=>nZ d.1=true,res:=λd=>([],.gY [.agg [.sl (.int .i64) ((qo d.1 d.2.1 d.2.2.1).1).1,.sl (.int .i64) ((qo d.1 d.2.1 d.2.2.1).1).2.1,.sl (.sl (.int .i64)) ((qo d.1 d.2.1 d.2.2.1).1).2.2.1,.sl (.int .i64) ((qo d.1 d.2.1 d.2.2.1).1).2.2.2.1],.c (.v (.int .i64 ((qo d.1 d.2.1 d.2.2.1).2)))]) }
theorem ai3(vs os:List Int) (qs:List (List Int)) (sg:List Int) (c id:Int) (aA:adX.pre ((vs,os,qs,sg,()),c,id,())):
 let z11:=(vs,os,qs,sg,());let z9:=qo z11 c id;let z3:=[SV.agg [SC.sl I6 z9.fst.fst,SC.sl I6 z9.fst.snd.fst,SC.sl I6.sl z9.fst.snd.snd.fst,SC.sl I6 z9.fst.snd.snd.snd.fst],cI (z9.snd)];let z8:=0<=c/\c < (qs.length:Int);let z10:=c.toNat < qs.length;let z4:=decide z10=true/\c.toNat < qs.length;let z7:=λ(d:List Int)=>List.length (d)+List.length ([id]);let z6:=λ(d:List Int)=>(vs,os,qs.set c.toNat ((d++[id])),sg,());let z5:=λ(d:List Int)=>!dI (z6 d);let z2:=rT z3 LP;let z1:=λ(d:List Int)=>rT z3 [SV.agg [SC.sl I6 vs,SC.sl I6 os,SC.sl I6.sl (qs.set c.toNat ((d++[id]))),SC.sl I6 sg],cI 0];aZ z11/\br (!dI z11) (rT z3 PE) (br (decide (c < 0) || decide ((qs.length:Int)<=c)) (rT z3 [SV.agg oU,cI 11]) (br (decide (id < 0)) (rT z3 Ii) (aZ z11/\z8/\c.toNat < qs.length/\∀(d:List Int),qs[c.toNat]?=some d->false=false/\(decide z10=true->(z4/\∀(d:List Int),qs[c.toNat]?=some d->jY (z7 d) 8/\z8/\c.toNat < qs.length/\c.toNat=c.toNat/\∀(e0:List Int),qs[c.toNat]?=some e0->aZ (z6 d)/\br (z5 d) z2 (z1 d))/\(z4/\∀(d:List Int),qs[c.toNat]?=some d->jY (z7 d) 8/\z8/\c.toNat < qs.length/\c.toNat=c.toNat/\∀(e0:List Int),qs[c.toNat]?=some e0->aZ (z6 d)/\br (z5 d) z2 (z1 d))/\z4/\∀(d:List Int),qs[c.toNat]?=some d->jY (z7 d) 8/\z8/\c.toNat < qs.length/\c.toNat=c.toNat/\∀(e0:List Int),qs[c.toNat]?=some e0->aZ (z6 d)/\br (z5 d) z2 (z1 d))/\(decide z10=false->False/\False/\False)))):=by
 conv=>zeta
 delta PE oU Ii cI rT I6;have hf:nZ (vs,os,qs,sg,())=true:=aA;have hb:=nJ hf;unfold qo;refine⟨hb,ah.2 ⟨λh=>⟨rfl,?_⟩,λh=>ah.2 ⟨λg=>⟨rfl,?_⟩,λg=>ah.2 ⟨λg2=>⟨rfl,?_⟩,λg2=>?_⟩⟩⟩⟩
 .rw[AA (by simpa using h)];rfl
 .rw[AB (by simpa using h) (by simpa using g)];rfl
 .rw[Cb (by simpa using h) (by simpa using g),if_pos rfl,if_pos (by simpa using g2)];rfl
 have hF:dI (vs,os,qs,sg,())=true:=by simpa using h
 have g:¬(c < 0\/(qs.length:Int)<=c):=by simpa using g
 have g2:¬id < 0:=by simpa using g2
 rw[Cb hF g,if_pos rfl,if_neg g2];refine⟨hb,⟨by omega,by omega⟩,by omega,λd hd=>⟨rfl,?_⟩⟩
 have hc:decide (c.toNat < qs.length)=true:=by rw[dG];omega
 have e:(vs,os,qs,sg,()).2.2.1[c.toNat]?.getD []=d:=by simp[hd]
 rw[e];have key:∀d':List Int,qs[c.toNat]?=some d'->d'=d:=λd' h'=>by rw[hd]at h';cases h';rfl
 have hl:d.length<=60:=(qp hf).2.2.2.2 d (gQ hd);have hI:jY (d.length+1) 8:=bJ.2 (by omega)
 have hz:¬decide (c.toNat < qs.length)=false:=by rw[hc];simp
 have hB:aZ (vs,os,qs.set c.toNat (d++[id]),sg,()):=LZ hf (by simp;omega) (by have:=(qp hf).2.2.2.1;omega)
 have hA:=PW hF hd (id:=id) (by omega)
 refine⟨λ_=>?_,λq=>absurd q hz⟩
 have F:(decide (c.toNat < qs.length)=true/\c.toNat < qs.length):=⟨hc,by omega⟩
 repeat' first | exact F | (refine And.intro ?_ ?_)
 all_goals
  intro d' h';cases key d' h';refine⟨hI,⟨by omega,by omega⟩,by omega,rfl,λ_ _=>⟨hB,ah.2 ⟨λw=>⟨rfl,?_⟩,λw=>⟨rfl,?_⟩⟩⟩⟩
  .rw[hA,Bool.not_not]at w;rw[if_pos w];rfl
  .rw[hA,Bool.not_not]at w;rw[if_neg (by rw[w];simp)]
theorem adY:aN aK.gd 118 adX:=
 bV (cx:=aK) (n:=45) (cl:=[(65,Jr),(137,Ih)]) (rc:=[.data qx,.keep]) ay ⟨adW,nV,trivial⟩ Tryz.func118 λd hd=>by
  obtain⟨⟨vs,os,qs,sg,⟨⟩⟩,c,id,⟨⟩⟩:=d;exact aI (λ_=>none) (ai3 vs os qs sg c id hd) (by kernel_rfl)
def MB(m:MD) (e:ED):MD×Int:=
 if e.2.2.1=12/\(iw m e.2.2.2.2.1 e.1 e.1 (-1)).2≠0 then(m,(iw m e.2.2.2.2.1 e.1 e.1 (-1)).2) else jJ m e
def TG(z:ZD):Bool:=decide (z.1.length<=20) && decide (z.2.2.1.length<=20) && decide (z.2.1.1.length<=20) && decide (z.2.1.2.1.length<=20) && decide (z.2.1.2.2.1.length<=20) && decide (z.2.1.2.2.2.1.length<=40) &&
 z.1.all (λt=>decide (t.2.2.2.2.2.2.2.2.2.1.length<=20)) && z.2.2.1.all (λb=>decide (b.2.2.1.length<=40)) && z.2.1.2.2.1.all (λq=>decide (q.length<=40))
theorem aq9{c:Prop} [Decidable c] {X Y:Prop}:br (!decide c) X Y↔(¬c->X)/\(c->Y):=by
 rw[ah]
 by_cases h:c<;>simp[h]
theorem AP{th:List TD}{mv mo:List Int}{mq:List (List Int)}{mg:List Int}:TG (th,(mv,mo,mq,mg,()),bf,())=true↔(th.length<=20/\bf.length<=20/\mv.length<=20/\mo.length<=20/\mq.length<=20/\mg.length<=40)/\(∀t∈th,t.2.2.2.2.2.2.2.2.2.1.length<=20)/\(∀b∈bf,b.2.2.1.length<=40)/\∀q∈mq,q.length<=40:=by
 unfold TG;simp only[cZ,dG,P7];constructor
 .rintro⟨⟨⟨⟨⟨⟨⟨⟨h1,h2⟩,h3⟩,h4⟩,h5⟩,h6⟩,h7⟩,h8⟩,h9⟩;exact⟨⟨h1,h2,h3,h4,h5,h6⟩,h7,h8,h9⟩
 .rintro⟨⟨h1,h2,h3,h4,h5,h6⟩,h7,h8,h9⟩;exact⟨⟨⟨⟨⟨⟨⟨⟨h1,h2⟩,h3⟩,h4⟩,h5⟩,h6⟩,h7⟩,h8⟩,h9⟩
abbrev adZ:CT:={ ps:=[qx,shE],pre:=λd=>nZ d.1=true/\(d.2.1.2.2.1=11->d.2.1.2.2.2.2.2.2.2.1=0\/d.2.1.2.2.2.2.2.2.2.1=1),res:=λd=>([],.gY [Ci ((MB d.1 d.2.1).1),.c (.v (.int .i64 ((MB d.1 d.2.1).2)))]) }
theorem aoO(mv mo:List Int) (mq:List (List Int)) (mg:List Int) (ag ix kd eo mx en lQ rd wr:Int) (aA:adZ.pre ((mv,mo,mq,mg,()),(ag,ix,kd,eo,mx,en,lQ,rd,wr,()),())):
 let kV:=(mv,mo,mq,mg,());let z6:=MB kV (ag,ix,kd,eo,mx,en,lQ,rd,wr,());let z5:=[Ci (z6.fst),cI (z6.snd)];let z13:=writeM kV eo wr;let z3:=aZ kV/\rT z5 [Ci (z13.fst),cI (z13.snd)];let z10:=iw kV eo ag (-1:Int) ag;let z2:=aZ kV/\rT z5 [Ci (z10.fst),cI (z10.snd)];let z4:=aZ kV/\rT z5 [Ci kV,cI 0];let z8:=iw kV eo ag ag (-1:Int);let z9:=iw kV mx ag ag (-1:Int);let z7:=qo z9.fst eo ag;let qR:=mY kV ag;let z12:=oG kV eo (1:Int);let z11:=oG kV eo (iH mq);let z1:=br (decide (kd=9)) z2 (br (decide (kd=11)) (br (decide (rd=1)) z2 z4) (br (decide (kd=10)) (aZ kV/\rT z5 [Ci (z8.fst),cI (z8.snd)]) (br (decide (kd=12)) (aZ kV/\br (!decide (z9.snd=0)) (rT z5 [Ci kV,cI (z9.snd)]) (nZ z9.fst=true/\rT z5 [Ci (z7.fst),cI (z7.snd)])) (br (decide (kd=13)) (aZ kV/\rT z5 [Ci (qR.fst),cI (qR.snd)]) (br (decide (kd=14)) (aZ kV/\rT z5 [Ci (z12.fst),cI (z12.snd.snd)]) (br (decide (kd=15)) (aZ kV/\rT z5 [Ci (z11.fst),cI (z11.snd.snd)]) z4))))));br (decide (kd=2)) (br (decide (kd=2)) z3 z1) (br (decide (kd=5)) z3 z1):=by
 conv=>zeta
 obtain⟨hf,h11⟩:nZ (mv,mo,mq,mg,())=true/\(kd=11->rd=0\/rd=1):=aA;have hM:=nJ hf;simp only[aJ,aq9]
 repeat' (first | exact hM | exact L6 hf | (refine aj1 ?_) | (refine And.intro ?_ ?_) | (intro _))
 all_goals first | exact hM | exact L6 hf | trivial | (exfalso;omega) | (simp_all[MB,jJ];done) | skip
theorem ai4:aN aK.gd 54 adZ:=
 bV (cx:=aK) (n:=117) (cl:=[(115,XN),(116,Js),(117,Jt),(118,adX),(119,Jv),(120,Ju),(121,Jw),(65,nX)]) (rc:=[.data qx,.keep]) ay ⟨ac8,ac9,ada,adY,adl,adi,adk,uy,trivial⟩ Tryz.func54 λd hd=>by
  obtain⟨⟨mv,mo,mq,mg,⟨⟩⟩,⟨ag,ix,kd,eo,mx,en,lQ,rd,wr,⟨⟩⟩,⟨⟩⟩:=d;exact aI (λ_=>none) (aoO mv mo mq mg ag ix kd eo mx en lQ rd wr hd) (by kernel_rfl)
abbrev ad1:CT:={ ps:=[.sl bD,bD],pre:=λd=>d.1.length<=999999,res:=λd=>([.row 56 bD (Tq d.1 d.2.1)],.one (.c (.row 0))) }
abbrev ara(th:List TD) (id fn pc:Int) (rg:List Int) (st ch ph su fa:Int) (he:List Int):Nat->Option (St->iE):=λk=>match k with
 | 3=>some λ_=>.inv { α:=Nat,nil:=[(5,56,bD)],slots:=λk=>[(6,.c (.v (.int .i64 k))),(5,.c (.row 1))],res:=λk=>[(1,.row 56 bD ((th.take k).filter (λt=>decide (t.1 < id))))],inv:=λk=>k<=th.length,meas:=λk=>th.length - k }
 | 9=>some λ_=>.inv { α:=Nat,drop:=[29,30,31,32],slots:=λk=>[(7,.c (.v (.int .i64 k))),(5,.c (.row 1))],res:=λk=>[(1,.row 56 bD (th.filter (λt=>decide (t.1 < id))++[(id,fn,pc,rg,st,ch,ph,su,fa,he,())]++(th.take k).filter (λt=>decide (id < t.1))))],inv:=λk=>k<=th.length,meas:=λk=>th.length - k }
 | _=>none
theorem aoP(th:List TD) (id fn pc:Int) (rg:List Int) (st ch ph su fa:Int) (he:List Int) (aA:ad1.pre (th,(id,fn,pc,rg,st,ch,ph,su,fa,he,()),())):
 let z8:=(id,fn,pc,rg,st,ch,ph,su,fa,he,());let z5:=λ(x:Nat)=>List.filter (λt=>decide (t.fst < id)) (List.take x th);let z3:=λ(x:Nat)=>[g0 (aj.obj 56 bD z8),g0 (aj.row 56 bD (z5 x))];let z6:=λ(x:Nat)=>0<=(x:Int)/\(x:Int) < (th.length:Int);let z9:=λ(x:Nat)=>(x:Int)+(1:Int);let z4:=λ(x x':Nat)=>cI (z9 x)=cI (x':Int)/\SV.c (SC.row 1)=SV.c (SC.row 1)/\True;let z7:=[z8];let z2:=λ(x:Nat)=>List.filter (λt=>decide (t.fst < id)) th++z7++List.filter (λt=>decide (id < t.fst)) (List.take x th);let z1:=λ(x':Nat)=>[g0 (aj.obj 56 bD z8),g0 (aj.row 56 bD (z2 x')),g0 (aj.row 56 bD z7)];(∃x,x<=th.length/\(cI 0=cI (x:Int)/\SV.c (SC.row (Nat.succ 0))=SV.c (SC.row 1)/\True)/\[g0 (aj.obj 56 bD z8),g0 (aj.row 56 bD [])]=(z3 x))/\∀(x:Nat),x<=th.length->br (decide ((x:Int) < (th.length:Int))) ((z6 x)/\∀(d:TD),th[(x:Int).toNat]?=some d->br (decide (d.fst < id)) ((z6 x)/\∀(d:TD),th[(x:Int).toNat]?=some d->jY ((z5 x).length+[d].length) 152/\iR (z9 x)/\∃x',x'<=th.length/\(z4 x x')/\[g0 (aj.obj 56 bD z8),g0 (aj.row 56 bD (List.filter (λt=>decide (t.fst < id)) (List.take x th)++[d]))]=(z3 x')/\th.length - x' < th.length - x) (iR (z9 x)/\∃x',x'<=th.length/\(z4 x x')/\(z3 x)=(z3 x')/\th.length - x' < th.length - x)) (jY ((z5 x).length+z7.length) 152/\(∃x_1,x_1<=th.length/\(cI 0=cI (x_1:Int)/\SV.c (SC.row 1)=SV.c (SC.row 1)/\True)/\[g0 (aj.obj 56 bD z8),g0 (aj.row 56 bD (List.filter (λt=>decide (t.fst < id)) (List.take x th)++z7)),g0 (aj.row 56 bD z7)]=[g0 (aj.obj 56 bD z8),g0 (aj.row 56 bD (List.filter (λt=>decide (t.fst < id)) th++z7++List.filter (λt=>decide (id < t.fst)) (List.take x_1 th))),g0 (aj.row 56 bD z7)])/\∀(x:Nat),x<=th.length->br (decide ((x:Int) < (th.length:Int))) ((z6 x)/\∀(d:TD),th[(x:Int).toNat]?=some d->br (decide (id < d.fst)) ((z6 x)/\∀(d:TD),th[(x:Int).toNat]?=some d->jY ((z2 x).length+[d].length) 152/\iR (z9 x)/\∃x',x'<=th.length/\(z4 x x')/\[g0 (aj.obj 56 bD z8),g0 (aj.row 56 bD (List.filter (λt=>decide (t.fst < id)) th++z7++List.filter (λt=>decide (id < t.fst)) (List.take x th)++[d])),g0 (aj.row 56 bD z7)]=(z1 x')/\th.length - x' < th.length - x) (iR (z9 x)/\∃x',x'<=th.length/\(z4 x x')/\(z1 x)=(z1 x')/\th.length - x' < th.length - x)) ([aj.row 56 bD (Tq th z8)]=[aj.row 56 bD (z2 x)]/\aW.one (SV.c (SC.row 0))=aW.one (SV.c (SC.row 0)))):=by
 conv=>zeta
 delta iR;have hl:th.length<=999999:=aA;have tk:∀(p:TD->Bool) (k:Nat) (d:TD),th[k]?=some d->(th.take (k+1)).filter p=(th.take k).filter p++if p d=true then[d] else[]:=by
  intro p k d hd;rw[Hf,hd,Wh]
  congr 1
  by_cases q:p d=true<;>simp[q]
 have fl:∀(p:TD->Bool) (k:Nat),((th.take k).filter p).length<=th.length:=λp k=>oh (X6 _ _) (by rw[kH];omega)
 have one:∀x:TD,[x].length=1:=λ_=>rfl
 refine⟨⟨0,by omega,⟨rfl,rfl,trivial⟩,by simp⟩,λk hk=>ah.2 ⟨λg=>?_,λg=>?_⟩⟩
 .simp only[dG]at g;refine⟨⟨by omega,by omega⟩,λd hd=>ah.2 ⟨λc=>⟨⟨by omega,by omega⟩,λd' hd'=>⟨bJ.2 ?_,au.2 (by omega),k+1,by omega,⟨rfl,rfl,trivial⟩,?_,by omega⟩⟩,λc=>⟨au.2 (by omega),k+1,by omega,⟨rfl,rfl,trivial⟩,?_,by omega⟩⟩⟩
  all_goals have e:=tk (λt=>decide (t.1 < id)) k d hd
  .have:=fl (λt=>decide (t.1 < id)) k
   rw[one];omega
  .have ed:d=d':=Io (hd.symm.trans hd');subst ed;rw[e,if_pos c]
  .rw[e,if_neg (by simpa using c),JE]
 simp only[A8]at g;rw[qV (i:=k) (by omega)]
 have f1:=oh (X6 (λt=>decide (t.1 < id)) th) hl
 refine⟨bJ.2 (by rw[one];omega),⟨0,by omega,⟨rfl,rfl,trivial⟩,by simp⟩,λk hk=>ah.2 ⟨λg=>?_,λg=>?_⟩⟩
 .simp only[dG]at g;refine⟨⟨by omega,by omega⟩,λd hd=>ah.2 ⟨λc=>⟨⟨by omega,by omega⟩,λd' hd'=>⟨bJ.2 ?_,au.2 (by omega),k+1,by omega,⟨rfl,rfl,trivial⟩,?_,by omega⟩⟩,λc=>⟨au.2 (by omega),k+1,by omega,⟨rfl,rfl,trivial⟩,?_,by omega⟩⟩⟩
  all_goals have e:=tk (λt=>decide (id < t.1)) k d hd
  .have:=fl (λt=>decide (id < t.1)) k
   simp only[kK,sZ,AY];omega
  .have ed:d=d':=Io (hd.symm.trans hd');subst ed;rw[e,if_pos c];simp
  .rw[e,if_neg (by simpa using c),JE]
 .simp only[A8]at g;rw[qV (i:=k) (by omega)]
  exact⟨rfl,rfl⟩
theorem ai5:aN cxR.gd 55 ad1:=
 bV (cx:=cxR) (n:=55) (cl:=[]) (rc:=[.row 56 bD]) ay trivial Tryz.func55 λd hd=>by
  obtain⟨th,⟨id,fn,pc,rg,st,ch,ph,su,fa,he,⟨⟩⟩,⟨⟩⟩:=d;exact aI (ara th id fn pc rg st ch ph su fa he) (aoP th id fn pc rg st ch ph su fa he hd) (by kernel_rfl)
abbrev arb(b1 b2:Int) (bl:List (Int×Int×Unit)) (c1 c2:Int) (cl:List (Int×Int×Unit)):Nat->Option (St->iE):=λk=>match k with
 | 4=>some λ_=>.inv { α:=Nat,slots:=λk=>[(5,.c (.v (.int .i64 k)))],res:=λk=>[],inv:=λk=>k<=(bl).length/\∀j < k,bl[j]?=cl[j]?,meas:=λk=>(bl).length - k }
 | _=>none
theorem aoQ(b1 b2:Int) (bl:List (Int×Int×Unit)) (c1 c2:Int) (cl:List (Int×Int×Unit)) (aA:Jz.pre ((b1,b2,bl,()),(c1,c2,cl,()),())):
 let z4:=mZ (b1,b2,bl,()) (c1,c2,cl,());let z3:=qB z4 false;let z2:=λ(x:Nat)=>(x<=bl.length/\∀(j:Nat),j < x->bl[j]?=cl[j]?);let z1:=[g0 (aj.blk 65 [v6 b1,v6 b2,SC.sl mO bl]),g0 (aj.blk 65 [v6 c1,v6 c2,SC.sl mO cl])];br (!decide (b1=c1) || !decide (b2=c2) || !decide ((bl.length:Int)=(cl.length:Int))) z3 ((∃x,(z2 x)/\(cI 0=cI (x:Int)/\True)/\sm z1)/\∀(x:Nat),(z2 x)->br (decide ((x:Int) < (bl.length:Int))) ((0<=(x:Int)/\(x:Int) < (bl.length:Int))/\∀(d:Int×(I6.pair Sh.unit).den),bl[(x:Int).toNat]?=some d->(0<=(x:Int)/\(x:Int) < (cl.length:Int))/\∀(dH:Int×(I6.pair Sh.unit).den),cl[(x:Int).toNat]?=some dH->br (!(true && d.fst == dH.fst && d.snd.fst == dH.snd.fst)) z3 (iR ((x:Int)+(1:Int))/\∃x',(z2 x')/\(cI ((x:Int)+(1:Int))=cI (x':Int)/\True)/\sm z1/\bl.length - x' < bl.length - x)) (qB z4 true)):=by
 conv=>zeta
 delta iR;have hp:bl.length<=1000000:=aA;have fF:(b1,b2,bl,())≠(c1,c2,cl,())->qB (mZ ((b1,b2,bl,()):BD) (c1,c2,cl,())) false:=λq=>⟨rfl,by rw[lK q]⟩
 refine ah.2 ⟨λh=>fF λq=>?_,λh=>?_⟩
 .simp only[Ya,and_true]at q;obtain⟨q1,q2,q3⟩:=q;subst q1;subst q2;subst q3;simp at h
 simp only[lM,uP,dG]at h;obtain⟨⟨h1,h2⟩,h3⟩:=h;subst h1;subst h2;refine⟨⟨0,⟨by omega,λj hj=>by omega⟩,⟨rfl,trivial⟩,rfl⟩,λk hk=>ah.2 ⟨λg=>?_,λg=>?_⟩⟩
 .simp only[dG]at g;refine⟨⟨by omega,by omega⟩,λd hd=>⟨⟨by omega,by omega⟩,λd1 hd1=>ah.2 ⟨λg2=>fF λq=>?_,λg2=>⟨au.2 (by omega),k+1,⟨by omega,λj hj=>?_⟩,⟨rfl,trivial⟩,rfl,by omega⟩⟩⟩⟩
  .simp only[Ya,and_true,true_and]at q;subst q;rw[hd]at hd1;cases hd1;simp at g2
  .by_cases gu:j=k
   .subst gu;have hd:bl[j]?=some d:=hd;have hd1:cl[j]?=some d1:=hd1;have g2:d=d1:=by
     obtain⟨x,y,⟨⟩⟩:=d;obtain⟨x1,y1,⟨⟩⟩:=d1;simpa using g2
    rw[hd,hd1,g2]
   .exact hk.2 j (by omega)
 simp only[A8]at g;have e:bl=cl:=by
  apply Dh;intro j
  by_cases hj:j < k
  .exact hk.2 j hj
  .rw[uD (by omega),uD (by omega)]
 exact⟨rfl,by rw[jq (by rw[e])]⟩
theorem ai6:aN aK.gd 39 Jz:=
 bV (cx:=aK) (n:=45) (cl:=[]) (rc:=[]) ay trivial Tryz.func39 λd hd=>by
  obtain⟨⟨b1,b2,bl,⟨⟩⟩,⟨c1,c2,cl,⟨⟩⟩,⟨⟩⟩:=d;exact aI (arb b1 b2 bl c1 c2 cl) (aoQ b1 b2 bl c1 c2 cl hd) (by kernel_rfl)
abbrev akb:CT:={ ps:=[LQ],pre:=λd=>True,res:=λd=>([],vB (TG d.1)) }
abbrev ard(th:List TD) (mv mo:List Int) (mq:List (List Int)) (mg:List Int) (bf:List BD):Nat->Option (St->iE):=λk=>match k with
 | 4=>some λ_=>.inv { α:=Nat,slots:=λk=>[(3,.c (.v (.int .i64 k)))],res:=λ_=>[],inv:=λk=>k<=th.length/\∀j < k,∀t,th[j]?=some t->t.2.2.2.2.2.2.2.2.2.1.length<=20,meas:=λk=>th.length - k }
 | 9=>some λ_=>.inv { α:=Nat,slots:=λk=>[(4,.c (.v (.int .i64 k)))],res:=λ_=>[],inv:=λk=>k<=bf.length/\∀j < k,∀t,bf[j]?=some t->t.2.2.1.length<=40,meas:=λk=>bf.length - k }
 | 14=>some λ_=>.inv { α:=Nat,slots:=λk=>[(5,.c (.v (.int .i64 k)))],res:=λ_=>[],inv:=λk=>k<=mq.length/\∀j < k,∀t,mq[j]?=some t->t.length<=40,meas:=λk=>mq.length - k }
 | _=>none
theorem aoR(th:List TD) (mv mo:List Int) (mq:List (List Int)) (mg:List Int) (bf:List BD):
 let z6:=TG (th,(mv,mo,mq,mg,()),bf,());let z5:=qB z6 false;let z2:=λ(x:Nat)=>(x<=th.length/\∀(j:Nat),j < x->∀(t:TD),th[j]?=some t->t.snd.snd.snd.snd.snd.snd.snd.snd.snd.fst.length<=20);let z7:=λ(x:Nat)=>cI 0=cI (x:Int)/\True;let z8:=[g0 (bZ th mv mo mq mg bf)];let z9:=λ(x:Nat)=>(x:Int)+(1:Int);let z4:=λ(x x':Nat)=>cI (z9 x)=cI (x':Int)/\True;let z1:=λ(x:Nat)=>(x<=bf.length/\∀(j:Nat),j < x->∀(t:Int×Int×List (Int×Int×Unit)×Unit),bf[j]?=some t->t.snd.snd.fst.length<=40);let z3:=λ(x:Nat)=>(x<=mq.length/\∀(j:Nat),j < x->∀(t:List Int),mq[j]?=some t->t.length<=40);br (decide (20 < (th.length:Int)) || decide (20 < (bf.length:Int)) || decide (20 < (mv.length:Int)) || decide (20 < (mo.length:Int)) || decide (20 < (mq.length:Int)) || decide (40 < (mg.length:Int))) z5 ((∃x,(z2 x)/\(z7 x)/\sm z8)/\∀(x:Nat),(z2 x)->br (decide ((x:Int) < (th.length:Int))) ((0<=(x:Int)/\(x:Int) < (th.length:Int))/\∀(d:TD),th[(x:Int).toNat]?=some d->br (decide (20 < ((List.length d.snd.snd.snd.snd.snd.snd.snd.snd.snd.fst):Int))) z5 (iR (z9 x)/\∃x',(z2 x')/\(z4 x x')/\sm z8/\th.length - x' < th.length - x)) ((∃x,(z1 x)/\(z7 x)/\sm z8)/\∀(x:Nat),(z1 x)->br (decide ((x:Int) < (bf.length:Int))) ((0<=(x:Int)/\(x:Int) < (bf.length:Int))/\∀(d:BD),bf[(x:Int).toNat]?=some d->br (decide (40 < ((List.length d.snd.snd.fst):Int))) z5 (iR (z9 x)/\∃x',(z1 x')/\(z4 x x')/\sm z8/\bf.length - x' < bf.length - x)) ((∃x,(z3 x)/\(z7 x)/\sm z8)/\∀(x:Nat),(z3 x)->br (decide ((x:Int) < (mq.length:Int))) ((0<=(x:Int)/\(x:Int) < (mq.length:Int))/\∀(d:List Int),mq[(x:Int).toNat]?=some d->br (decide (40 < (d.length:Int))) z5 (iR (z9 x)/\∃x',(z3 x')/\(z4 x x')/\sm z8/\mq.length - x' < mq.length - x)) (qB z6 true)))):=by
 conv=>zeta
 delta iR;refine ah.2 ⟨λh=>jS (TJ.2 λq=>?_),λh=>?_⟩
 .have:=(AP.1 q).1;simp only[wX,dG]at h;omega
 have hN:th.length<=20/\bf.length<=20/\mv.length<=20/\mo.length<=20/\mq.length<=20/\mg.length<=40:=by
  simp only[lM,A8]at h;omega
 refine⟨⟨0,⟨by omega,λj hj=>by omega⟩,⟨rfl,trivial⟩,rfl⟩,λk hk=>ah.2 ⟨λg=>?_,λg=>?_⟩⟩
 .simp only[dG]at g;refine⟨⟨by omega,by omega⟩,λd hd=>ah.2 ⟨λg2=>jS (TJ.2 λq=>?_),λg2=>⟨au.2 (by omega),k+1,⟨by omega,λj hj t ht=>?_⟩,⟨rfl,trivial⟩,rfl,by omega⟩⟩⟩
  .have hd:th[k]?=some d:=hd;have:=(AP.1 q).2.1 d (gQ hd);simp only[dG]at g2;omega
  .by_cases gu:j=k
   .subst gu;have hd:th[j]?=some d:=hd;rw[hd]at ht;cases ht;simp only[A8]at g2;omega
   .exact hk.2 j (by omega) t ht
 simp only[A8]at g;have ath:∀t∈th,t.2.2.2.2.2.2.2.2.2.1.length<=20:=by
  intro t ht;obtain⟨j,hj⟩:=Yj.1 ht;exact hk.2 j (by have:=(eX.1 hj).1;omega) t hj
 clear g hk;refine⟨⟨0,⟨by omega,λj hj=>by omega⟩,⟨rfl,trivial⟩,rfl⟩,λk hk=>ah.2 ⟨λg=>?_,λg=>?_⟩⟩
 .simp only[dG]at g;refine⟨⟨by omega,by omega⟩,λd hd=>ah.2 ⟨λg2=>jS (TJ.2 λq=>?_),λg2=>⟨au.2 (by omega),k+1,⟨by omega,λj hj t ht=>?_⟩,⟨rfl,trivial⟩,rfl,by omega⟩⟩⟩
  .have hd:bf[k]?=some d:=hd;have:=(AP.1 q).2.2.1 d (gQ hd);simp only[dG]at g2;omega
  .by_cases gu:j=k
   .subst gu;have hd:bf[j]?=some d:=hd;rw[hd]at ht;cases ht;simp only[A8]at g2;omega
   .exact hk.2 j (by omega) t ht
 simp only[A8]at g;have abf:∀t∈bf,t.2.2.1.length<=40:=by
  intro t ht;obtain⟨j,hj⟩:=Yj.1 ht;exact hk.2 j (by have:=(eX.1 hj).1;omega) t hj
 clear g hk;refine⟨⟨0,⟨by omega,λj hj=>by omega⟩,⟨rfl,trivial⟩,rfl⟩,λk hk=>ah.2 ⟨λg=>?_,λg=>?_⟩⟩
 .simp only[dG]at g;refine⟨⟨by omega,by omega⟩,λd hd=>ah.2 ⟨λg2=>jS (TJ.2 λq=>?_),λg2=>⟨au.2 (by omega),k+1,⟨by omega,λj hj t ht=>?_⟩,⟨rfl,trivial⟩,rfl,by omega⟩⟩⟩
  .have hd:mq[k]?=some d:=hd;have:=(AP.1 q).2.2.2 d (gQ hd);simp only[dG]at g2;omega
  .by_cases gu:j=k
   .subst gu;have hd:mq[j]?=some d:=hd;rw[hd]at ht;cases ht;simp only[A8]at g2;omega
   .exact hk.2 j (by omega) t ht
 simp only[A8]at g;have amq:∀t∈mq,t.length<=40:=by
  intro t ht;obtain⟨j,hj⟩:=Yj.1 ht;exact hk.2 j (by have:=(eX.1 hj).1;omega) t hj
 clear g hk;exact jS (AP.2 ⟨hN,ath,abf,amq⟩)
theorem ai7:aN aK.gd 15 akb:=
 bV (cx:=aK) (n:=90) (cl:=[]) (rc:=[]) ay trivial Tryz.func15 λd hd=>by
  obtain⟨⟨th,⟨mv,mo,mq,mg,⟨⟩⟩,bf,⟨⟩⟩,⟨⟩⟩:=d;exact aI (ard th mv mo mq mg bf) (aoR th mv mo mq mg bf) (by kernel_rfl)
theorem ins_eq(hu:u.1=id):∀{l:List TD},qU l->(∀t∈l,t.1≠id)->Tq l u=insL l id u:=by
 intro l h hn;have hp:l.Pairwise λa b=>a.1 < b.1:=aep.1 h
 clear h;unfold Tq insL;rw[hu];have key:l.filter (λt=>decide (t.1 < id))=l.takeWhile (λt=>decide (t.1 < id))/\l.filter (λt=>decide (id < t.1))=l.dropWhile (λt=>decide (t.1 < id)):=by
  induction l with
  | nil=>exact⟨rfl,rfl⟩
  | cons a l ih=>
    rw[X7]at hp;have ih:=ih (λt ht=>hn t (List.mem_cons_of_mem _ ht)) hp.2
    have ha:=hn a (List.mem_cons_self ..)
    by_cases q:a.1 < id
    .have q2:¬id < a.1:=by omega
     simp[q,q2,ih.1,ih.2]
    .have q2:id < a.1:=by omega
     have n1:l.filter (λt=>decide (t.1 < id))=[]:=List.filter_eq_nil_iff.2 λt ht=>by have:=hp.1 t ht;simp;omega
     have n2:l.filter (λt=>decide (id < t.1))=l:=List.filter_eq_self.2 λt ht=>by have:=hp.1 t ht;simp;omega
     rw[List.filter_cons_of_neg (by simpa using q),n1,List.takeWhile_cons_of_neg (by simpa using q),aej (by simpa using q2),n2,List.dropWhile_cons_of_neg (by simpa using q)]
     exact⟨rfl,rfl⟩
 rw[key.1,key.2]
theorem JD{e:ED}:(MB m e).2=0↔(jJ m e).2=0:=by
 unfold MB;split
 .rename_i q;constructor
  .intro h;exact absurd h q.2
  .intro h;unfold jJ at h;rw[if_neg (by omega),if_neg (by omega),if_neg (by omega),if_pos q.1,if_neg q.2]at h
   exact h
 .exact Iff.rfl
theorem ai8{e:ED} (h:(jJ m e).2=0):MB m e=jJ m e:=by
 unfold MB;rw[if_neg];rintro⟨q1,q2⟩;unfold jJ at h;rw[if_neg (by omega),if_neg (by omega),if_neg (by omega),if_pos q1,if_neg q2]at h
 exact q2 h
theorem aoS(hv:8<=i.1/\i.1<=22):Me i (labS m t i)=uY i (labS m t i):=by
 have key:∀(c:Prop) [Decidable c] (a b:ED),(c->Me i a=uY i a)->(¬c->Me i b=uY i b)->Me i (if c then a else b)=uY i (if c then a else b):=by
  intro c _ a b ha hb;split
  .exact ha (by assumption)
  .exact hb (by assumption)
 unfold labS
 repeat' (refine key _ _ _ (λ_=>?_) (λ_=>?_))
 all_goals simp only[Me,uY]
 all_goals first
  | (rw[if_pos (by omega),if_neg (by omega),if_pos (by omega)];done)
  | (simp[*];done)
  | (simp[*,AL];done)
  | (rw[if_pos (by omega),if_neg (by omega),if_neg (by omega),if_pos trivial];cases mX m i.2.2.2.2.1<;>rfl)
  | skip
end
end Go.Proofs.YtjhenjhcbcalpaaGreatDoor
