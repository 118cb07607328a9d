/- Part 12 of the proof. Conditions: the rows'. -/
import Derived.Test.YtjhenjhcbcalpaaGreatDoorB11
set_option linter.unusedSimpArgs false
set_option linter.unusedVariables false
set_option maxRecDepth 1000000
set_option maxHeartbeats 8000000
namespace Go.Proofs.YtjhenjhcbcalpaaGreatDoor
open Go Go.jl
noncomputable section
variable {bf:List BD}{e id bound b c:Int}{l:List TD}{m:MD}{t:TD}{i:ID}{vs:List VD}{ms cs:List ByteArray}{fs:List FD}{ts:List SD}
abbrev cxR:Cx:={ ti:=tis,gd:=gd0,rt:=true }
def insL(l:List TD) (id:Int) (u:TD):List TD:=l.takeWhile (λt=>decide (t.1 < id))++[u]++l.dropWhile (λt=>decide (t.1 < id))
def sQ(e:Int) (fs:List FD) (bound:Int) (z:ZD) (id fn arg:Int):ZD×Int:=
 if 0<=eG (λt=>decide (t.1=id)) z.1 then(zZ,30) else if(newS e fs bound id fn arg).2≠0 then(zZ,30) else((insL z.1 id (newS e fs bound id fn arg).1,z.2),0)
theorem CZ{S:ZD×Int}{L:List TD}{mv mo:List Int}{mq:List (List Int)}{mg:List Int} (h:S=((L,(mv,mo,mq,mg,()),bf,()),e)):[ay.row 56 dX S.1.1]=[ay.row 56 dX L]/\aZ.iq [.agg [.row 0,.sl I6 S.1.2.1.1,.sl I6 S.1.2.1.2.1,.sl I6.sl S.1.2.1.2.2.1,.sl I6 S.1.2.1.2.2.2.1,.sl CW S.1.2.2.1],cI S.2]=aZ.iq [.agg [.row 0,.sl I6 mv,.sl I6 mo,.sl I6.sl mq,.sl I6 mg,.sl CW bf],cI e]:=by
 subst h;exact⟨rfl,rfl⟩
def Gh(l:List TD) (x:Nat):List TD:=List.take (List.length (List.replicate ((l.length:Int)+(1:Int)).toNat zR)) (List.drop 0 (List.take (x:Int).toNat l))++List.drop (List.length (List.drop 0 (List.take (x:Int).toNat l))) (List.replicate ((l.length:Int)+(1:Int)).toNat zR)
theorem Tt{x:Nat} (h:x<=l.length):Gh l x=l.take x++List.replicate (l.length+1 - x) zR:=by
 unfold Gh;have e:((l.length:Int)+(1:Int)).toNat=l.length+1:=by omega
 rw[e,JX,NK,A95,wu (by rw[kV];omega),kV,Ib h,List.drop_replicate]
theorem Nq{x:Nat} (h:x<=l.length):(Gh l x).length=l.length+1:=by
 rw[Tt h,ku,kV,JX];omega
theorem agr{x:Nat} (h:x<=l.length) (u:TD):List.take ((x:Int)+(1:Int)).toNat ((Gh l x).set (x:Int).toNat u)++(List.take (List.length ((Gh l x).set (x:Int).toNat u) - ((x:Int)+(1:Int)).toNat) (List.drop (x:Int).toNat (List.take (l.length:Int).toNat l))++List.drop (List.length (List.drop (x:Int).toNat (List.take (l.length:Int).toNat l))) (List.drop ((x:Int)+(1:Int)).toNat ((Gh l x).set (x:Int).toNat u)))=l.take x++[u]++l.drop x:=by
 have e:((x:Int)+(1:Int)).toNat=x+1:=by omega
 have hl:(l.take x).length=x:=by rw[kV];omega
 have hs:(Gh l x).set x u=l.take x++[u]++List.replicate (l.length - x) zR:=by
  rw[Tt h,show l.length+1 - x=l.length - x+1 by omega,VU,acr _ _ (by omega),hl,V3,VW,zW];rfl
 have hn:(l.take x++[u]).length=x+1:=by rw[ku,hl];rfl
 rw[e,A95,A95,VX,wU,Nq h,hs];have a1:List.take (x+1) (l.take x++[u]++List.replicate (l.length - x) zR)=l.take x++[u]:=by
  rw[A83 (by omega),wu (by omega)]
 have a2:List.drop (x+1) (l.take x++[u]++List.replicate (l.length - x) zR)=List.replicate (l.length - x) zR:=by
  rw[A97 (by omega),VF (by omega),TN]
 have a3:List.take (l.length+1 - (x+1)) (List.drop x l)=List.drop x l:=wu (by rw[yc];omega)
 have a4:List.drop (List.drop x l).length (List.replicate (l.length - x) zR)=[]:=VF (by rw[JX,yc];omega)
 rw[a1,a2,a3,a4,Ql]
theorem an9{x:Nat}{p:TD->Bool} (h:x<=l.length) (h1:∀(j:Nat),j < x->∀t,l[j]?=some t->p t=true) (h2:∀t,l[x]?=some t->p t=false):l.takeWhile p=l.take x/\l.dropWhile p=l.drop x:=by
 induction l generalizing x with
 | nil=>simp
 | cons a l ih=>
   cases x with
   | zero=>
     have:=h2 a rfl;simp[this]
   | succ x=>
     have ha:=h1 0 (by omega) a rfl
     have:=ih (x:=x) (by simpa using h) (λj hj t ht=>h1 (j+1) (by omega) t (by simpa using ht)) (λt ht=>h2 t (by simpa using ht))
     simp[ha,this]
theorem ags{x:Nat} (h:x<=l.length) (h1:∀(j:Nat),j < x->∀t,l[j]?=some t->t.1 < id) (h2:∀t,l[x]?=some t->¬t.1 < id) (u:TD):insL l id u=l.take x++[u]++l.drop x:=by
 have:=an9 (p:=λt=>decide (t.1 < id)) h (λj hj t ht=>by simpa using h1 j hj t ht) (λt ht=>by simpa using h2 t ht)
 unfold insL;rw[this.1,this.2]
abbrev abD:CT:={ ps:=[o7,.int .i64,J6,.int .i64,.int .i64,.int .i64],pre:=λd=>bnd (d.1,())/\iH d.2.2.1.1/\d.2.2.2.1<=9223372036854775807,res:=λd=>([.row 56 dX (sQ (aG d.1.1 d.1.2.1 d.1.2.2.1 d.1.2.2.2.1 d.1.2.2.2.2.1).1 d.1.2.2.2.1 d.2.1 d.2.2.1 d.2.2.2.1 d.2.2.2.2.1 d.2.2.2.2.2.1).1.1],.iq [.agg [.row 0,.sl (.int .i64) ((sQ (aG d.1.1 d.1.2.1 d.1.2.2.1 d.1.2.2.2.1 d.1.2.2.2.2.1).1 d.1.2.2.2.1 d.2.1 d.2.2.1 d.2.2.2.1 d.2.2.2.2.1 d.2.2.2.2.2.1).1).2.1.1,.sl (.int .i64) ((sQ (aG d.1.1 d.1.2.1 d.1.2.2.1 d.1.2.2.2.1 d.1.2.2.2.2.1).1 d.1.2.2.2.1 d.2.1 d.2.2.1 d.2.2.2.1 d.2.2.2.2.1 d.2.2.2.2.2.1).1).2.1.2.1,.sl (.sl (.int .i64)) ((sQ (aG d.1.1 d.1.2.1 d.1.2.2.1 d.1.2.2.2.1 d.1.2.2.2.2.1).1 d.1.2.2.2.1 d.2.1 d.2.2.1 d.2.2.2.1 d.2.2.2.2.1 d.2.2.2.2.2.1).1).2.1.2.2.1,.sl (.int .i64) ((sQ (aG d.1.1 d.1.2.1 d.1.2.2.1 d.1.2.2.2.1 d.1.2.2.2.2.1).1 d.1.2.2.2.1 d.2.1 d.2.2.1 d.2.2.2.1 d.2.2.2.2.1 d.2.2.2.2.2.1).1).2.1.2.2.2.1,.sl CW ((sQ (aG d.1.1 d.1.2.1 d.1.2.2.1 d.1.2.2.2.1 d.1.2.2.2.2.1).1 d.1.2.2.2.1 d.2.1 d.2.2.1 d.2.2.2.1 d.2.2.2.2.1 d.2.2.2.2.2.1).1).2.2.1],.c (.v (.int .i64 ((sQ (aG d.1.1 d.1.2.1 d.1.2.2.1 d.1.2.2.2.1 d.1.2.2.2.2.1).1 d.1.2.2.2.1 d.2.1 d.2.2.1 d.2.2.2.1 d.2.2.2.2.1 d.2.2.2.2.2.1).2)))]) }
abbrev aoa(vs:List VD) (ms cs:List ByteArray) (fs:List FD) (ts:List SD) (bound:Int) (th:List TD) (mv mo:List Int) (mq:List (List Int)) (mg:List Int) (bf:List BD) (id fn arg:Int):Nat->Option (St->jq):=λk=>match k with
 | 8=>some λ_=>.inv { α:=Nat,slots:=λk=>[(18,.c (.v (.int .i64 k)))],res:=λ_=>[],inv:=λk=>k<=th.length/\∀j < k,∀t,th[j]?=some t->t.1 < id,meas:=λk=>th.length - k }
 | _=>none
theorem alC(vs:List VD) (ms cs:List ByteArray) (fs:List FD) (ts:List SD) (bound:Int) (th:List TD) (mv mo:List Int) (mq:List (List Int)) (mg:List Int) (bf:List BD) (id fn arg:Int) (aF:abD.pre ((vs,ms,cs,fs,ts,()),bound,(th,(mv,mo,mq,mg,()),bf,()),id,fn,arg,())):
 let z10:=sQ (aG vs ms cs fs ts).fst fs bound (th,(mv,mo,mq,mg,()),bf,()) id fn arg;let z5:=[ay.row 56 dX z10.fst.fst];let z1:=[SV.agg [SC.row 0,SC.sl I6 z10.fst.snd.fst.fst,SC.sl I6 z10.fst.snd.fst.snd.fst,SC.sl I6.sl z10.fst.snd.fst.snd.snd.fst,SC.sl I6 z10.fst.snd.fst.snd.snd.snd.fst,SC.sl CW z10.fst.snd.snd.fst],cI (z10.snd)];let z6:=z5=[ay.row 56 dX []]/\aZ.iq z1=aZ.iq [SV.agg [SC.row 0,SC.sl I6 [],SC.sl I6 [],SC.sl I6.sl [],SC.sl I6 [],SC.sl CW []],cI 30];let z13:=newS (aG vs ms cs fs ts).fst fs bound id fn arg;let z11:=λ(x:Nat)=>(x<=th.length/\∀(j:Nat),j < x->∀(t:TD),th[j]?=some t->t.fst < id);let z4:=[g0 (bP vs ms cs fs ts),g0 (bZ th mv mo mq mg bf),g0 (ay.blk 37 AZ),g0 (ay.obj 56 dX z13.fst)];let vY:=λ(x:Nat)=>(x:Int) < (th.length:Int);let ND:=λ(x:Nat)=>(x:Int)+(1:Int);let sK:=(th.length:Int)+(1:Int);let z9:=λ(x:Nat)=>(Gh th x).set (x:Int).toNat z13.fst;let z3:=λ(x:Nat)=>0<=(x:Int)+(1:Int)/\(x:Int)+1<=(↑(z9 x).length:Int);let z7:=λ(x:Nat)=>0<=(x:Int)/\(x:Int)<=(th.length:Int)/\(th.length:Int)<=(th.length:Int);let z12:=λ(x:Nat)=>List.drop (x:Int).toNat (List.take (th.length:Int).toNat th);let z2:=λ(x:Nat)=>[ay.row 56 dX (List.take (ND x).toNat (z9 x)++(List.take ((z9 x).length - (ND x).toNat) (z12 x)++List.drop (z12 x).length (List.drop (ND x).toNat (z9 x))))];let z8:=[SV.agg [SC.row 0,SC.sl I6 mv,SC.sl I6 mo,SC.sl I6.sl mq,SC.sl I6 mg,SC.sl CW bf],cI 0];th.length<=1000000/\br (decide (0<=eG (λt=>decide (t.fst=id)) th)) z6 (((bnd ((vs,ms,cs,fs,ts,()),()))/\id<=9223372036854775807)/\br (!decide (z13.snd=0)) z6 ((∃x,(z11 x)/\(cI 0=cI (x:Int)/\True)/\sm z4)/\∀(x:Nat),(z11 x)->(decide (vY x)=true->0<=(x:Int)/\(x:Int) < (th.length:Int))/\∀(d:TD),(decide (vY x)=true->th[(x:Int).toNat]?=some d)->br (decide (vY x) && decide (d.fst < id)) (iR (ND x)/\∃x',(z11 x')/\(cI (ND x)=cI (x':Int)/\True)/\sm z4/\th.length - x' < th.length - x) (iR sK/\(0<=(th.length:Int)+(1:Int)/\(th.length:Int)+1<=(th.length:Int)+(1:Int)/\nO sK.toNat 152)/\((0:Int)<=(0:Int)/\0<=(x:Int)/\(x:Int)<=(th.length:Int))/\(0<=(x:Int)/\(x:Int) < (↑(Gh th x).length:Int))/\(x:Int).toNat < (Gh th x).length/\iR (ND x)/\((z3 x)/\(z7 x)/\z5=(z2 x)/\aZ.iq z1=aZ.iq z8)/\(z7 x)/\(z3 x)/\z5=(z2 x)/\aZ.iq z1=aZ.iq z8))):=by
 conv=>zeta
 delta AZ iR iN;obtain⟨hb,⟨hl,hT⟩,hid⟩:bnd ((vs,ms,cs,fs,ts,()),())/\iH th/\id<=9223372036854775807:=aF;refine⟨hl,ah.2 ⟨λh=>CZ ?_,λh=>⟨⟨hb,hid⟩,ah.2 ⟨λh2=>CZ ?_,λh2=>⟨⟨0,⟨by omega,λj hj=>by omega⟩,⟨rfl,trivial⟩,rfl⟩,λx hx=>⟨λg=>⟨by omega,by simpa using g⟩,λd hd=>ah.2 ⟨λg=>?_,λg=>?_⟩⟩⟩⟩⟩⟩⟩
 .unfold sQ;rw[if_pos (Qk h)];rfl
 .have h:=TU h;unfold sQ;rw[if_neg h,if_pos (by simpa using h2)];rfl
 .simp only[bV,dH]at g;have hd:=hd (by simpa using g.1)
  rw[A95]at hd;refine⟨ak.2 (by omega),x+1,⟨by omega,λj hj t ht=>?_⟩,⟨rfl,trivial⟩,rfl,by omega⟩
  by_cases q:j=x
  .subst q;rw[hd]at ht;cases ht;exact g.2
  .exact hx.2 j (by omega) t ht
 .have hn:=Nq hx.1;have hf:sQ (aG vs ms cs fs ts).1 fs bound (th,(mv,mo,mq,mg,()),bf,()) id fn arg=((th.take x++[(newS (aG vs ms cs fs ts).1 fs bound id fn arg).1]++th.drop x,(mv,mo,mq,mg,()),bf,()),0):=by
   have h:=TU h;unfold sQ;rw[if_neg h,if_neg (by simpa using h2),ags hx.1 hx.2 (λt ht=>?_)]
   have iO:x < th.length:=(A8.1 ht).1;have hd:=hd (by simpa using iO)
   rw[A95,ht]at hd;cases hd;simp only[A70,eH]at g;omega
  rw[agr hx.1];rw[wU,hn,A95];refine⟨ak.2 (by omega),⟨by omega,by omega,eF.2 (by omega)⟩,⟨by omega,by omega,by omega⟩,⟨by omega,by omega⟩,by omega,ak.2 (by omega),⟨⟨by omega,by omega⟩,⟨by omega,by omega,by omega⟩,CZ hf⟩,⟨by omega,by omega,by omega⟩,⟨by omega,by omega⟩,CZ hf⟩
theorem agt:aT cxR.gd 50 abD:=
 dQ (cx:=cxR) (n:=85) (cl:=[(52,wQ),(34,RQ)]) (rc:=[.hd 56 dX shR,.keep]) au ⟨CY,RS,trivial⟩ Tryz.func50 λd hd=>by
  obtain⟨⟨vs,ms,cs,fs,ts,⟨⟩⟩,bound,⟨th,⟨mv,mo,mq,mg,⟨⟩⟩,bf,⟨⟩⟩,id,fn,arg,⟨⟩⟩:=d;exact aI (aoa vs ms cs fs ts bound th mv mo mq mg bf id fn arg) (alC vs ms cs fs ts bound th mv mo mq mg bf id fn arg hd) (by kernel_rfl)
def stT(l:List TD) (id:Int) (u:TD):List TD:=l.set (dO (eG (λt=>decide (t.1=id)) l) 0).toNat u
def rF(vs:List VD) (ms cs:List ByteArray) (fs:List FD) (ts:List SD) (bound:Int) (z:ZD) (id:Int):ZD×ED×Int:=
 if dF (aG vs ms cs fs ts).1 bound≠0 then(zZ,zE,dF (aG vs ms cs fs ts).1 bound)
 else if vsB vs ms cs fs ts bound z.1 z.2.1 z.2.2.1=false then(zZ,zE,1)
 else match jE (aG vs ms cs fs ts).1 ms fs z.1 id with
 | (t,i,ok)=>if(ok && CX z.1 z.2.1 t i)=false then(zZ,zE,19)
   else if(lN z.2.1 (labS z.2.1 t i)).2≠0 then(zZ,zE,30)
   else if(labS z.2.1 t i).2.2.1=16/\0<=eG (λu=>decide (u.1=(labS z.2.1 t i).2.2.2.1)) z.1 then(zZ,zE,30)
   else((stT (if(labS z.2.1 t i).2.2.1=16 then insL z.1 (labS z.2.1 t i).2.2.2.1 (newS (aG vs ms cs fs ts).1 fs bound (labS z.2.1 t i).2.2.2.1 i.2.2.2.2.1 (t.2.2.2.1.getD i.2.2.1.toNat 0)).1 else z.1) id
    (kU (aG vs ms cs fs ts).1 ms fs bound t (AY i (labS z.2.1 t i))).1,(lN z.2.1 (labS z.2.1 t i)).1,[],()),labS z.2.1 t i,0)
theorem abE(m:MD) (t:TD) (i:ID):(labS m t i).1=t.1:=by
 have key:∀(c:Prop) [Decidable c] (a b:ED),a.1=t.1->b.1=t.1->(if c then a else b).1=t.1:=by
  intro c _ a b ha hb;split
  .exact ha
  .exact hb
 unfold labS
 repeat' (first | rfl | (apply key))
theorem Tv(hv:8<=i.1/\i.1<=22):(labS m t i).2.2.1=16↔i.1=21:=by
 have key:∀(c:Prop) [Decidable c] (a b:ED),¬a.2.2.1=16->¬b.2.2.1=16->¬(if c then a else b).2.2.1=16:=by
  intro c _ a b ha hb;split
  .exact ha
  .exact hb
 constructor
 .intro h
  by_cases q:i.1=21
  .exact q
  .exfalso;revert h;unfold labS;rw[if_neg q]
   repeat' (first | (apply key) | simp)
 .intro h;unfold labS;simp[h]
theorem Tz(h:i.1=21):(labS m t i).2.2.2.1=(bY t.1 t.2.2.2.2.2.1).1:=by
 unfold labS;simp[h]
theorem agu{i f t:Int} (h:uU m=true):uU (jM m i id f t).1=true:=by
 unfold jM;split
 .split
  .rfl
  .split
   .obtain⟨vs,os,qs,sg,⟨⟩⟩:=m;unfold uU at h ⊢
    simpa using h
   .rfl
 .rfl
theorem agv(h:uU m=true) (e:ED):bG (lN m e).1:=by
 have hw:∀x v,bG (writeM m x v).1:=by
  intro x v;unfold writeM
  repeat' split
  all_goals first | exact Fq | skip
  obtain⟨h1,h2⟩:=vW h;exact⟨by rw[wU];exact h1,h2⟩
 unfold lN
 repeat' split
 all_goals first | exact hw _ _ | exact JO (vW h) | exact agq (agu h) | exact abC h | exact alB h | exact vW h
theorem Qd(hV:VS vs ms cs fs ts bound l m bf) (hM:bG m) (hT:iH l) (h:jE (aG vs ms cs fs ts).1 ms fs l id=(t,i,true)):
 t∈l/\t.1=id/\jW m t i/\mW fs t.2.1 t.2.2.1=some i/\t.2.2.2.2.2.2.2.1=1/\uf ms fs bound t:=by
 unfold jE at h;cases ef:xY l id with
 | none=>rw[ef]at h;cases h
 | some u=>
   rw[ef]at h;simp only[Ie]at h;obtain⟨h1,h2,h3⟩:=h;subst h1;have hm:=List.mem_of_find?_eq_some ef;have hp:=zN hV.1 hM (hT.2 u hm) h3;have hq:=Nl h3;rw[h2]at hp hq;exact⟨hm,by simpa using VY ef,hp,hq.2.2.2,hq.2.1,(hV.2.2.1 u hm).2⟩
theorem sS{S:ZD×ED×Int}{a:ZD}{b:ED} (h:S=(a,b,c)):rT [H7 S.1,BP S.2.1,cI S.2.2] [H7 a,BP b,cI c]:=by subst h;exact⟨rfl,rfl⟩
theorem JQ(hs:dF (aG vs ms cs fs ts).1 bound=0) (hV:uf ms fs bound t) (h1:t.2.2.2.2.2.2.2.1=1) (ha:mW fs t.2.1 t.2.2.1=some i) (hi:i.1=21) (hl:t.2.2.2.1.length=8):
 (bY t.1 t.2.2.2.2.2.1).2=true/\(newS (aG vs ms cs fs ts).1 fs bound (bY t.1 t.2.2.2.2.2.1).1 i.2.2.2.2.1 (t.2.2.2.1.getD i.2.2.1.toNat 0)).2=0:=by
 have hz:=gZ.1 hs;obtain⟨_,_,j,hj,vj,oj⟩:=AQ hV h1;rw[ha]at hj;cases hj;have hf:=oQ hV;obtain⟨k1,k2,k3,k4⟩:=qh (Bz hz.1 (AV hf).1 ha);obtain⟨r1,r2,r3,r4⟩:=kS k1;obtain⟨id,fn,pc,rg,st,ch,ph,su,fa,he,u⟩:=t;have hl:rg.length=8:=hl;obtain⟨f1,f2,f3,f4,f5,f6,f7,f8,f9⟩:=hf;have hph:ph=0:=by
  rcases f9 with q | ⟨_,i',q1,q2,_⟩
  .exact q
  .have ha:mW fs fn pc=some i:=ha;rw[ha]at q1;cases q1;omega
 have oj:jv id ch ph he i=0:=oj;have hc:(bY id ch).2=true:=by
  unfold jv at oj;rw[if_neg (by omega),if_neg (by omega),if_neg (by omega),if_pos hi]at oj
  by_cases q:(bY id ch).2=true
  .exact q
  .rw[if_neg q]at oj;cases oj
 refine⟨hc,?_⟩;have hd:¬aV (bY id ch).1 < 0:=by
  unfold bY at hc ⊢;split at hc
  .cases hc
  .rename_i q;rw[if_neg q];have:=Bv (id:=id) (ch:=ch) (by omega) (by omega) (by omega) (by omega)
   show¬aV (8 * (id+1)+ch) < 0;omega
 have ho:oO vs ms cs fs i.1=fs.length:=by unfold oO;rw[hi];simp
 rw[ho]at k2;have k2:=k2 (by omega)
 have hv:bU (rg.getD i.2.2.1.toNat 0)=true:=by
  have iO:i.2.2.1.toNat < rg.length:=by omega
  rw[J7,lK iO];exact f4 _ (by omega) _ (lK iO)
 show(newS _ _ _ (bY id ch).1 _ _).2=0;unfold newS;rw[if_neg (by omega),if_neg hd,if_neg (by omega),if_neg (by show¬bU (rg.getD i.2.2.1.toNat 0)=false;rw[hv];simp)]
theorem TA(hf:dV m=true) (hc:i.1=21->(bY t.1 t.2.2.2.2.2.1).2=true):bU (AY i (labS m t i))=true:=by
 have hv:∀x:Int,bU (m.1[x.toNat]?.getD 0)=true:=by
  intro x;cases hx:m.1[x.toNat]? with
  | none=>rfl
  | some v=>exact(fH.1 hf).2.2.2.2.1 v (ig hx)
 have hch:i.1=21->bU (bY t.1 t.2.2.2.2.2.1).1=true:=by
  intro q;obtain⟨_,_,_,_,c1,_,c2,_⟩:=MP (hc q);exact oU.2 ⟨by omega,by omega⟩
 have key:∀(c:Prop) [Decidable c] (a b:ED),(c->bU (AY i a)=true)->(¬c->bU (AY i b)=true)->bU (AY i (if c then a else b))=true:=by
  intro c _ a b ha hb;split
  .exact ha (by assumption)
  .exact hb (by assumption)
 have k1:∀b:Bool,bU (if F9 b=0 then 0 else 1)=true:=by intro b;cases b<;>rfl
 unfold labS
 repeat' (refine key _ _ _ (λ_=>?_) (λ_=>?_))
 all_goals (try first | exact hv _ | rfl | exact k1 _ | (apply hch;assumption))
 all_goals (unfold AY;try simp only)
 all_goals first | exact hv _ | rfl | exact k1 _ | (apply hch;assumption) | (rw[if_pos trivial,if_pos (by assumption)];rfl) | (simp_all;done) | skip
theorem Nr{r:Int} (hs:dF e bound=0) (hV:uf ms fs bound t) (h1:t.2.2.2.2.2.2.2.1=1) (hr:bU r=true):(kU e ms fs bound t r).2=0:=by
 unfold kU;rw[if_neg (by omega),if_neg (by simpa using hV),if_neg (by omega),if_neg (by rw[hr];simp)]
theorem alD(h:∃t∈l,t.1=id):(0<=dO (eG (λt=>decide (t.1=id)) l) 0/\dO (eG (λt=>decide (t.1=id)) l) 0 < (l.length:Int))/\(dO (eG (λt=>decide (t.1=id)) l) 0).toNat < l.length:=by
 have q:0<=eG (λt=>decide (t.1=id)) l:=by
  refine JZ.1 λq=>?_
  obtain⟨t,ht,e⟩:=h;have:=A90.1 (oZ q) t ht;simp[e]at this
 obtain⟨k,t,q1,q2,q3,q4⟩:=kJ q;have e:dO (eG (λt=>decide (t.1=id)) l) 0=k:=by rw[q1];unfold dO;split<;>omega
 rw[e];omega
theorem Ns{u:TD} (h:t∈l):t∈insL l id u:=by
 unfold insL;rw[<-A92 (p:=λt=>decide (t.1 < id)) (l:=l)]at h
 simp only[Fv,A82]at h ⊢
 rcases h with h | h
 .exact .inl (.inl h)
 .exact .inr h
theorem abG(l:List TD) (id:Int) (u:TD):(insL l id u).length=l.length+1:=by
 unfold insL;have:=rG List.length (A92 (p:=λt=>decide (t.1 < id)) (l:=l))
 rw[ku]at this;simp only[ku,wS,J3];omega
theorem JR{vs:List VD}{ms cs:List ByteArray}{fs:List FD}{ts:List SD}{bound id:Int}{z:ZD}{t:TD}{i:ID}{ok:Bool} (h:dF (aG vs ms cs fs ts).1 bound=0) (h1:vsB vs ms cs fs ts bound z.1 z.2.1 z.2.2.1=true) (hr:jE (aG vs ms cs fs ts).1 ms fs z.1 id=(t,i,ok)):
 rF vs ms cs fs ts bound z id=if(ok && CX z.1 z.2.1 t i)=false then(zZ,zE,19)
 else if(lN z.2.1 (labS z.2.1 t i)).2≠0 then(zZ,zE,30)
 else if(labS z.2.1 t i).2.2.1=16/\0<=eG (λu=>decide (u.1=(labS z.2.1 t i).2.2.2.1)) z.1 then(zZ,zE,30)
 else((stT (if(labS z.2.1 t i).2.2.1=16 then insL z.1 (labS z.2.1 t i).2.2.2.1 (newS (aG vs ms cs fs ts).1 fs bound (labS z.2.1 t i).2.2.2.1 i.2.2.2.2.1 (t.2.2.2.1.getD i.2.2.1.toNat 0)).1 else z.1) id
  (kU (aG vs ms cs fs ts).1 ms fs bound t (AY i (labS z.2.1 t i))).1,(lN z.2.1 (labS z.2.1 t i)).1,[],()),labS z.2.1 t i,0):=by
 unfold rF;rw[if_neg (by omega),if_neg (by rw[h1];simp),hr]
abbrev abH:CT:={ ps:=[o7,.int .i64,J6,.int .i64],pre:=λd=>bnd (d.1,())/\iH d.2.2.1.1/\d.2.2.1.1.length<=999999/\uU d.2.2.1.2.1=true/\Gg d.2.2.1.2.2.1,res:=λd=>([],.iq [H7 ((rF d.1.1 d.1.2.1 d.1.2.2.1 d.1.2.2.2.1 d.1.2.2.2.2.1 d.2.1 d.2.2.1 d.2.2.2.1).1),BP ((rF d.1.1 d.1.2.1 d.1.2.2.1 d.1.2.2.2.1 d.1.2.2.2.2.1 d.2.1 d.2.2.1 d.2.2.2.1).2.1),.c (.v (.int .i64 ((rF d.1.1 d.1.2.1 d.1.2.2.1 d.1.2.2.2.1 d.1.2.2.2.2.1 d.2.1 d.2.2.1 d.2.2.2.1).2.2)))]) }
theorem alE(vs:List VD) (ms cs:List ByteArray) (fs:List FD) (ts:List SD) (bound:Int) (th:List TD) (mv mo:List Int) (mq:List (List Int)) (mg:List Int) (bf:List BD) (id:Int) (aF:abH.pre ((vs,ms,cs,fs,ts,()),bound,(th,(mv,mo,mq,mg,()),bf,()),id,())):
 let z17:=bnd ((vs,ms,cs,fs,ts,()),());let VL:=aG vs ms cs fs ts;let z20:=(mv,mo,mq,mg,());let z18:=(th,z20,bf,());let z13:=rF vs ms cs fs ts bound z18 id;let z10:=[H7 (z13.fst),BP (z13.snd.fst),cI (z13.snd.snd)];let sK:=jE VL.fst ms fs th id;let z12:=labS z20 sK.fst sK.snd.fst;let z11:=lN z20 z12;let z6:=λ(d:Int)=>sQ VL.fst fs bound (th,z11.fst,bf,()) z12.snd.snd.snd.fst sK.snd.fst.snd.snd.snd.snd.fst d;let z7:=z17/\List.length sK.fst.snd.snd.snd.snd.snd.snd.snd.snd.snd.fst<=1000000/\sK.fst.fst<=9223372036854775807/\List.length sK.fst.snd.snd.snd.fst=8;let z9:=kU VL.fst ms fs bound sK.fst (AY sK.snd.fst z12);let z8:=!decide (z9.snd=0);let z3:=rT z10 [H7 ([],([],[],[],[],()),[],()),BP (0,0,0,0,0,0,0,0,0,()),cI (z9.snd)];let z5:=λ(d:Int)=>eG (λt=>decide (t.fst=id)) (z6 d).fst.fst;let z4:=λ(d:Int)=>dO (z5 d) (0:Int);let z1:=λ(d:Int)=>[H7 ((z6 d).fst.fst.set (z4 d).toNat z9.fst,((z6 d).fst.snd.fst.fst,(z6 d).fst.snd.fst.snd.fst,(z6 d).fst.snd.fst.snd.snd.fst,(z6 d).fst.snd.fst.snd.snd.snd.fst,()),(z6 d).fst.snd.snd.fst,()),BP z12,cI 0];let ND:=eG (λt=>decide (t.fst=id)) th;let vY:=dO ND (0:Int);let z2:=[H7 (th.set vY.toNat z9.fst,(z11.fst.fst,z11.fst.snd.fst,z11.fst.snd.snd.fst,z11.fst.snd.snd.snd.fst,()),bf,()),BP z12,cI 0];z17/\br (!decide (dF VL.fst bound=0)) (rT z10 [H7 ([],([],[],[],[],()),[],()),BP (0,0,0,0,0,0,0,0,0,()),cI (dF VL.fst bound)]) ((z17/\iH th/\bG z20)/\br (!vsB vs ms cs fs ts bound th z20 bf) (rT z10 [H7 ([],([],[],[],[],()),[],()),BP (0,0,0,0,0,0,0,0,0,()),cI 1]) ((z17/\iH th)/\((!!sK.snd.snd)=true->jW z20 sK.fst sK.snd.fst/\th.length<=1000000)/\br (!sK.snd.snd || !CX th z20 sK.fst sK.snd.fst) (rT z10 [H7 ([],([],[],[],[],()),[],()),BP (0,0,0,0,0,0,0,0,0,()),cI 19]) (jW z20 sK.fst sK.snd.fst/\abl z18/\(bG z20/\sK.fst.fst=z12.fst)/\br (!decide (z11.snd=0)) (rT z10 [H7 ([],([],[],[],[],()),[],()),BP (0,0,0,0,0,0,0,0,0,()),cI 30]) (bG z11.fst/\br (decide (z12.snd.snd.fst=16)) ((0<=sK.snd.fst.snd.snd.fst/\sK.snd.fst.snd.snd.fst < 8)/\sK.snd.fst.snd.snd.fst.toNat < 8/\∀(d:Int),sK.1.2.2.2.fst[sK.snd.fst.snd.snd.fst.toNat]?=some d->(z17/\iH th/\z12.snd.snd.snd.fst<=9223372036854775807)/\br (!decide ((z6 d).snd=0)) (rT z10 [H7 ([],([],[],[],[],()),[],()),BP (0,0,0,0,0,0,0,0,0,()),cI ((z6 d).snd)]) (z7/\br z8 z3 ((z6 d).fst.fst.length<=1000000/\(0<=dO (z5 d) (0:Int)/\dO (z5 d) 0 < (↑(z6 d).fst.fst.length:Int))/\(z4 d).toNat < (z6 d).fst.fst.length/\(rT z10 (z1 d))/\rT z10 (z1 d)))) (z7/\br z8 z3 (th.length<=1000000/\(0<=dO ND (0:Int)/\dO ND 0 < (th.length:Int))/\vY.toNat < th.length/\(rT z10 z2)/\rT z10 z2)))))):=by
 conv=>zeta
 obtain⟨hb,hT,hn,hm,hB⟩:bnd ((vs,ms,cs,fs,ts,()),())/\iH th/\th.length<=999999/\uU (mv,mo,mq,mg,())=true/\Gg bf:=aF;have hM:=vW hm;have hS:=@JR vs ms cs fs ts bound id (th,(mv,mo,mq,mg,()),bf,());generalize hr:jE (aG vs ms cs fs ts).1 ms fs th id=R at hS ⊢;obtain⟨T,I,ok⟩:=R;dsimp only at hS ⊢;refine⟨hb,ah.2 ⟨λh=>sS ?_,λh=>⟨⟨hb,hT,hM⟩,ah.2 ⟨λh1=>sS ?_,λh1=>⟨⟨hb,hT⟩,λh2=>⟨?_,hT.1⟩,ah.2 ⟨λh2=>sS ?_,λh2=>?_⟩⟩⟩⟩⟩⟩
 .have h:dF (aG vs ms cs fs ts).1 bound≠0:=by simpa using h
  unfold rF;rw[if_pos h];rfl
 .have h:dF (aG vs ms cs fs ts).1 bound=0:=by simpa using h
  have h1:vsB vs ms cs fs ts bound th (mv,mo,mq,mg,()) bf=false:=by simpa using h1
  unfold rF;rw[if_neg (by omega),if_pos h1];rfl
 all_goals have h:dF (aG vs ms cs fs ts).1 bound=0:=by simpa using h
 all_goals have h1:vsB vs ms cs fs ts bound th (mv,mo,mq,mg,()) bf=true:=by simpa using h1
 all_goals have hV:=jV.1 h1
 .have h2:ok=true:=by simpa using h2
  subst h2;exact(Qd hV hM hT hr).2.2.1
 .rw[hS h h1 rfl,if_pos (by simp only[wz,Dc]at h2;rw[A70];exact h2)];rfl
 simp only[lX,wR]at h2;obtain⟨ok1,en1⟩:=h2;subst ok1;obtain⟨lg,hid,hlab,hat,hsu,hvl⟩:=Qd hV hM hT hr;have hS:=hS h h1 rfl;rw[if_neg (by rw[en1];simp)]at hS
 have htB:=hT.2 T lg;have hch:I.1=21->(bY T.1 T.2.2.2.2.2.1).2=true:=λq=>(JQ h hvl hsu hat q htB.2.2).1
 have hcz:=Nr h hvl hsu (TA (m:=(mv,mo,mq,mg,())) (i:=I) hlab.1.2.1 hch);refine⟨hlab,⟨hT,hM,hB⟩,⟨hM,(abE _ _ _).symm⟩,ah.2 ⟨λh3=>sS ?_,λh3=>⟨agv hm _,ah.2 ⟨λh4=>?_,λh4=>?_⟩⟩⟩⟩
 .have h3:(lN (mv,mo,mq,mg,()) (labS (mv,mo,mq,mg,()) T I)).2≠0:=by simpa using h3
  rw[hS,if_pos h3];rfl
 all_goals have h3:(lN (mv,mo,mq,mg,()) (labS (mv,mo,mq,mg,()) T I)).2=0:=by simpa using h3
 all_goals rw[if_neg (by omega)]at hS
 .have h4:(labS (mv,mo,mq,mg,()) T I).2.2.1=16:=Qk h4;have hI:=(Tv hlab.2.2.2.1).1 h4;obtain⟨c1,c2⟩:=JQ h hvl hsu hat hI htB.2.2;have eo:=Tz (m:=(mv,mo,mq,mg,())) (t:=T) hI;obtain⟨_,_,_,_,c5,_,c6,_⟩:=MP c1;have r2:=hlab.2.1;refine⟨r2,by omega,λd hd=>⟨⟨hb,hT,by rw[eo];omega⟩,ah.2 ⟨λh5=>sS ?_,λh5=>?_⟩⟩⟩
  all_goals have ed:=SX hd
  all_goals rw[ed]at c2 hS
  all_goals rw[<-eo]at c2
  .have h5:(sQ (aG vs ms cs fs ts).1 fs bound (th,(lN (mv,mo,mq,mg,()) (labS (mv,mo,mq,mg,()) T I)).1,bf,()) (labS (mv,mo,mq,mg,()) T I).2.2.2.1 I.2.2.2.2.1 d).2≠0:=by simpa using h5
   by_cases q:0<=eG (λu=>decide (u.1=(labS (mv,mo,mq,mg,()) T I).2.2.2.1)) th
   .rw[hS,if_pos ⟨h4,q⟩];unfold sQ;rw[if_pos q];rfl
   .exfalso;apply h5;unfold sQ;rw[if_neg q,if_neg (by rw[c2];simp)]
  .have q:¬0<=eG (λu=>decide (u.1=(labS (mv,mo,mq,mg,()) T I).2.2.2.1)) th:=by
    intro q;unfold sQ at h5;rw[if_pos q]at h5;simp at h5
   have es:sQ (aG vs ms cs fs ts).1 fs bound (th,(lN (mv,mo,mq,mg,()) (labS (mv,mo,mq,mg,()) T I)).1,bf,()) (labS (mv,mo,mq,mg,()) T I).2.2.2.1 I.2.2.2.2.1 d=((insL th (labS (mv,mo,mq,mg,()) T I).2.2.2.1 (newS (aG vs ms cs fs ts).1 fs bound (labS (mv,mo,mq,mg,()) T I).2.2.2.1 I.2.2.2.2.1 d).1,(lN (mv,mo,mq,mg,()) (labS (mv,mo,mq,mg,()) T I)).1,bf,()),0):=by
    unfold sQ;rw[if_neg q,if_neg (by rw[c2];simp)]
   rw[es];dsimp only;rw[if_neg (λp=>q p.2),if_pos h4]at hS
   have hp:=alD (l:=insL th (labS (mv,mo,mq,mg,()) T I).2.2.2.1 (newS (aG vs ms cs fs ts).1 fs bound (labS (mv,mo,mq,mg,()) T I).2.2.2.1 I.2.2.2.2.1 d).1) (id:=id) ⟨T,Ns lg,hid⟩;have hbf:bf=[]:=hV.2.1;have fin:=sS hS;refine⟨⟨hb,htB⟩,ah.2 ⟨λh6=>?_,λh6=>⟨by rw[abG];omega,hp.1,hp.2,?_,?_⟩⟩⟩
   .exfalso;rw[hcz]at h6;simp at h6
   all_goals rw[hbf];rw[hbf]at fin;exact fin
 .have h4:¬(labS (mv,mo,mq,mg,()) T I).2.2.1=16:=TU h4;rw[if_neg (λp=>h4 p.1),if_neg h4]at hS
  have hp:=alD (l:=th) (id:=id) ⟨T,lg,hid⟩;have hbf:bf=[]:=hV.2.1;have fin:=sS hS;refine⟨⟨hb,htB⟩,ah.2 ⟨λh6=>?_,λh6=>⟨hT.1,hp.1,hp.2,?_,?_⟩⟩⟩
  .exfalso;rw[hcz]at h6;simp at h6
  all_goals rw[hbf];rw[hbf]at fin;exact fin
theorem agw:aT aS.gd 21 abH:=
 dQ (cx:=aS) (n:=131) (cl:=[(32,zH),(40,JK),(41,Tf),(46,Tc),(42,Fj),(23,abo),(48,abm),(50,abD),(51,aaA),(52,wQ),(49,BF)]) (rc:=[.data J6,.keep,.keep]) au ⟨SL,JL,Ti,Td,S9,agk,agi,agt,afq,CY,ru,trivial⟩ Tryz.func21 λd hd=>by
  obtain⟨⟨vs,ms,cs,fs,ts,⟨⟩⟩,bound,⟨th,⟨mv,mo,mq,mg,⟨⟩⟩,bf,⟨⟩⟩,id,⟨⟩⟩:=d;exact aI (λ_=>none) (alE vs ms cs fs ts bound th mv mo mq mg bf id hd) (by kernel_rfl)
def pF(e:Int) (fs:List FD) (bound:Int) (ts:List SD):List TD:=ts.zipIdx.map λp=>(newS e fs bound (p.2:Int) p.1.1 p.1.2.1).1
def abI(vs:List VD) (ms cs:List ByteArray) (fs:List FD) (ts:List SD) (bound:Int):ZD×Int:=
 if dF (aG vs ms cs fs ts).1 bound≠0 then(zZ,dF (aG vs ms cs fs ts).1 bound) else((pF (aG vs ms cs fs ts).1 fs bound ts,(xX vs ms cs fs ts).1,[],()),0)
theorem abJ{e:Int}{fs:List FD}{bound:Int}{ts:List SD}{k:Nat}{d:SD} (h:ts[k]?=some d):pF e fs bound (ts.take (k+1))=pF e fs bound (ts.take k)++[(newS e fs bound (k:Int) d.1 d.2.1).1]:=by
 have hk:k < ts.length:=(A8.1 h).1;unfold pF;rw[NJ,h,acw,List.zipIdx_append,NP,kV,Ib (by omega)]
 simp
theorem agx(e:Int) (fs:List FD) (bound:Int) (ts:List SD):(pF e fs bound ts).length=ts.length:=by
 unfold pF;rw[VP,List.length_zipIdx]
theorem TB(h:CP fs ts=0):(1<=ts.length/\ts.length<=8)/\∀(k:Nat) d,ts[k]?=some d->(0<=d.1/\d.1 < (fs.length:Int))/\bU d.2.1=true:=by
 unfold CP at h;split at h
 .cases h
 rename_i q;refine⟨by omega,λk d hd=>?_⟩
 have hn:ts.find? (λt=>decide (CO fs.length t≠0))=none:=by
  cases hf:ts.find? (λt=>decide (CO fs.length t≠0)) with
  | none=>rfl
  | some t=>
    rw[hf]at h;have:=VY hf;simp at this;exact absurd h this
 have hz:=A90.1 hn d (ig hd);have hz:CO fs.length d=0:=by simpa using hz
 unfold CO at hz;split at hz
 .cases hz
 .split at hz
  .rename_i a b;exact⟨by omega,b⟩
  .cases hz
theorem JU{k:Nat}{d:SD} (hs:dF (aG vs ms cs fs ts).1 bound=0) (hd:ts[k]?=some d):(newS (aG vs ms cs fs ts).1 fs bound (k:Int) d.1 d.2.1).2=0:=by
 have ht:=TB (oP (gZ.1 hs).1).2.2;obtain⟨h1,h2⟩:=ht.2 k d hd;have hk:k < ts.length:=(A8.1 hd).1;have hk:k < 8:=by omega
 have hdp:¬aV (k:Int) < 0:=by
  unfold aV dS;rw[if_neg (by omega),if_pos (by omega)];omega
 unfold newS;rw[if_neg (by omega),if_neg hdp,if_neg (by omega),if_neg (by rw[h2];simp)]
theorem abK(hs:dF (aG vs ms cs fs ts).1 bound=0):(xX vs ms cs fs ts).2=0:=by
 unfold xX;rw[if_pos (gZ.1 hs).1]
theorem TF{S:ZD×Int}{a:ZD} (h:S=(a,c)):rT [H7 S.1,cI S.2] [H7 a,cI c]:=by subst h;exact⟨rfl,rfl⟩
abbrev abL:CT:={ ps:=[o7,.int .i64],pre:=λd=>bnd (d.1,()),res:=λd=>([],.iq [H7 ((abI d.1.1 d.1.2.1 d.1.2.2.1 d.1.2.2.2.1 d.1.2.2.2.2.1 d.2.1).1),.c (.v (.int .i64 ((abI d.1.1 d.1.2.1 d.1.2.2.1 d.1.2.2.2.1 d.1.2.2.2.2.1 d.2.1).2)))]) }
abbrev aob(vs:List VD) (ms cs:List ByteArray) (fs:List FD) (ts:List SD) (bound:Int):Nat->Option (St->jq):=λk=>match k with
 | 9=>some λ_=>.inv { α:=Nat,rV:=[(3,0,56,dX)],slots:=λk=>[(35,.c (.v (.int .i64 k)))],res:=λk=>[(4,.row 56 dX (pF (aG vs ms cs fs ts).1 fs bound (ts.take k)))],inv:=λk=>k<=ts.length,meas:=λk=>ts.length - k }
 | _=>none
theorem alF(vs:List VD) (ms cs:List ByteArray) (fs:List FD) (ts:List SD) (bound:Int) (aF:abL.pre ((vs,ms,cs,fs,ts,()),bound,())):
 let z7:=bnd ((vs,ms,cs,fs,ts,()),());let z9:=aG vs ms cs fs ts;let z8:=abI vs ms cs fs ts bound;let z4:=[H7 (z8.fst),cI (z8.snd)];let z10:=xX vs ms cs fs ts;let z11:=bP vs ms cs fs ts;let z3:=[SC.sl I6 z10.fst.fst,SC.sl I6 z10.fst.snd.fst,SC.sl I6.sl z10.fst.snd.snd.fst,SC.sl I6 z10.fst.snd.snd.snd.fst];let z2:=[SC.row (Nat.succ 0).succ.succ.succ,SC.sl I6 z10.fst.fst,SC.sl I6 z10.fst.snd.fst,SC.sl I6.sl z10.fst.snd.snd.fst,SC.sl I6 z10.fst.snd.snd.snd.fst,iN];let z6:=λ(x:Nat)=>pF z9.fst fs bound (List.take x ts);let z1:=λ(x:Nat)=>[g0 z11,g0 (ay.blk 37 AZ),g0 (ay.blk 34 z3),g0 (ay.blk 37 z2),g0 (ay.row 56 dX (z6 x))];let z5:=λ(x:Nat) (d:Int×(I6.pair Sh.unit).den)=>newS z9.fst fs bound (x:Int) d.fst d.snd.fst;z7/\br (!decide (dF z9.fst bound=0)) (rT z4 [H7 ([],([],[],[],[],()),[],()),cI (dF z9.fst bound)]) (z7/\br (!decide (z10.snd=0)) (rT z4 [H7 ([],([],[],[],[],()),[],()),cI (z10.snd)]) ((∃x,x<=ts.length/\(cI 0=cI (x:Int)/\True)/\[g0 z11,g0 (ay.blk 37 AZ),g0 (ay.blk 34 z3),g0 (ay.blk 37 z2),g0 (ay.row 56 dX [])]=(z1 x))/\∀(x:Nat),x<=ts.length->br (decide ((x:Int) < (ts.length:Int))) ((0<=(x:Int)/\(x:Int) < (ts.length:Int))/\∀(d:Int×(I6.pair Sh.unit).den),ts[(x:Int).toNat]?=some d->(z7/\(x:Int)<=(9223372036854775807:Int))/\br (!decide ((z5 x d).snd=0)) (rT z4 [H7 ([],([],[],[],[],()),[],()),cI ((z5 x d).snd)]) (nO ((z6 x).length+[(z5 x d).fst].length) 152/\iR ((x:Int)+(1:Int))/\∃x',x'<=ts.length/\(cI ((x:Int)+(1:Int))=cI (x':Int)/\True)/\[g0 z11,g0 (ay.blk 37 AZ),g0 (ay.blk 34 z3),g0 (ay.blk 37 z2),g0 (ay.row 56 dX (pF z9.fst fs bound (List.take x ts)++[(z5 x d).fst]))]=(z1 x')/\ts.length - x' < ts.length - x)) (rT z4 [H7 (pF z9.fst fs bound (List.take x ts),(z10.fst.fst,z10.fst.snd.fst,z10.fst.snd.snd.fst,z10.fst.snd.snd.snd.fst,()),[],()),cI 0]))):=by
 conv=>zeta
 delta AZ iR iN;have hb:bnd ((vs,ms,cs,fs,ts,()),()):=aF;refine⟨hb,ah.2 ⟨λh=>TF ?_,λh=>⟨hb,ah.2 ⟨λh1=>?_,λh1=>⟨⟨0,by omega,⟨rfl,trivial⟩,rfl⟩,λk hk=>ah.2 ⟨λg=>?_,λg=>TF ?_⟩⟩⟩⟩⟩⟩
 .have h:dF (aG vs ms cs fs ts).1 bound≠0:=by simpa using h
  unfold abI;rw[if_pos h];rfl
 all_goals have h:dF (aG vs ms cs fs ts).1 bound=0:=by simpa using h
 .exfalso;rw[abK h]at h1;simp at h1
 all_goals have ht:=(TB (oP (gZ.1 h).1).2.2).1
 .simp only[dH]at g;refine⟨⟨by omega,by omega⟩,λd hd=>⟨⟨hb,by omega⟩,ah.2 ⟨λh2=>?_,λh2=>?_⟩⟩⟩
  all_goals have hd:ts[k]?=some d:=hd
  .exfalso;rw[JU h hd]at h2;simp at h2
  .have e:=@abJ (aG vs ms cs fs ts).1 fs bound ts k d hd;have hlen:=agx (aG vs ms cs fs ts).1 fs bound (ts.take k);rw[kV]at hlen;refine⟨eF.2 (by rw[hlen];simp only[wS,J3];omega),ak.2 (by omega),k+1,by omega,⟨rfl,trivial⟩,by rw[e],by omega⟩
 .simp only[eH]at g;rw[wu (i:=k) (by omega)]
  unfold abI;rw[if_neg (by omega)]
theorem agy:aT cxR.gd 12 abL:=
 dQ (cx:=cxR) (n:=63) (cl:=[(32,zH),(33,P9),(34,RQ)]) (rc:=[.data J6,.keep]) au ⟨SL,afX,RS,trivial⟩ Tryz.func12 λd hd=>by
  obtain⟨⟨vs,ms,cs,fs,ts,⟨⟩⟩,bound,⟨⟩⟩:=d;exact aI (aob vs ms cs fs ts bound) (alF vs ms cs fs ts bound hd) (by kernel_rfl)
def Gi(m n:MD):Prop:=m.1.length=n.1.length/\m.2.1.length=n.2.1.length/\m.2.2.1.length=n.2.2.1.length
theorem Nu:∀(qs:List (List Int)) (k:Nat) (d r:List Int),qs[k]?=some d->(r++qs.flatten).Perm (d++(qs.set k r).flatten)
 | [],k,d,r,h=>by simp at h
 | q :: qs,0,d,r,h=>by
   simp only[A99,A94]at h;subst h;simp only[VW,NM];exact acn _ _ _
 | q :: qs,k+1,d,r,h=>by
   rw[aco]at h;have ih:=Nu qs k d r h;simp only[ahN,NM];exact(acn _ _ _).trans ((ih.append_left q).trans (acn _ _ _))
theorem abM{x v:Int} (h:dV m=true) (h0:(writeM m x v).2=0):dV (writeM m x v).1=true/\Gi (writeM m x v).1 m:=by
 obtain⟨vs,os,qs,sg,⟨⟩⟩:=m;obtain⟨q1,q2,q3,q4,q5,q6,q7,q8⟩:vs.length<=8/\os.length<=4/\qs.length<=4/\SS sg/\(∀v∈vs,bU v=true)/\(∀o∈os,-1<=o)/\(∀x∈sg++qs.flatten,0<=x)/\(sg++qs.flatten).Nodup:=fH.1 h;unfold writeM at h0 ⊢;split at h0
 .rename_i g;split at h0
  .rename_i hv;rw[if_pos g,if_pos hv];refine⟨fH.2 ⟨by rw[wU];exact q1,q2,q3,q4,λy hy=>?_,q6,q7,q8⟩,by rw[wU],rfl,rfl⟩
   rcases JW hy with hy | rfl
   .exact q5 y hy
   .exact hv
  .cases h0
 .rename_i g;exact absurd h0 g
theorem Qe{i f t:Int} (h:dV m=true) (ht:-1<=t) (h0:(jM m i id f t).2=0):dV (jM m i id f t).1=true/\Gi (jM m i id f t).1 m:=by
 obtain⟨vs,os,qs,sg,⟨⟩⟩:=m;obtain⟨q1,q2,q3,q4,q5,q6,q7,q8⟩:vs.length<=8/\os.length<=4/\qs.length<=4/\SS sg/\(∀v∈vs,bU v=true)/\(∀o∈os,-1<=o)/\(∀x∈sg++qs.flatten,0<=x)/\(sg++qs.flatten).Nodup:=fH.1 h;unfold jM at h0 ⊢;split at h0
 .rename_i g;split at h0
  .cases h0
  .rename_i g1;split at h0
   .rename_i g2;rw[if_pos g,if_neg g1,if_pos g2];refine⟨fH.2 ⟨q1,by rw[wU];exact q2,q3,q4,q5,λy hy=>?_,q7,q8⟩,rfl,by rw[wU],rfl⟩
    rcases JW hy with hy | rfl
    .exact q6 y hy
    .exact ht
   .cases h0
 .rename_i g;exact absurd h0 g
theorem alG(h:dV m=true) (h0:(xW m c id).2=0):dV (xW m c id).1=true/\Gi (xW m c id).1 m:=by
 obtain⟨vs,os,qs,sg,⟨⟩⟩:=m;unfold xW at h0 ⊢;split at h0
 .rename_i g;split at h0
  .cases h0
  .rename_i g1;split at h0
   .cases h0
   .rename_i g2;rw[if_pos g,if_neg g1,if_neg g2];have hg:=(gU.1 g).2;have hg:0<=c/\c < (qs.length:Int):=hg;have iO:c.toNat < qs.length:=by omega
    have hk:qs[c.toNat]?=some (qs[c.toNat]?.getD []):=by rw[lK iO];rfl
    have:=abz h hk (id:=id) (by omega)
    refine⟨?_,rfl,rfl,by rw[wU]⟩
    show dV (vs,os,qs.set c.toNat (qs[c.toNat]?.getD []++[id]),sg,())=true;rw[this];simpa using g2
 .rename_i g;exact absurd h0 g
theorem ahz{n:Int} (h:dV m=true) (h0:(uQ m c n).2.2=0):dV (uQ m c n).1=true/\Gi (uQ m c n).1 m:=by
 obtain⟨vs,os,qs,sg,⟨⟩⟩:=m;obtain⟨q1,q2,q3,q4,q5,q6,q7,q8⟩:vs.length<=8/\os.length<=4/\qs.length<=4/\SS sg/\(∀v∈vs,bU v=true)/\(∀o∈os,-1<=o)/\(∀x∈sg++qs.flatten,0<=x)/\(sg++qs.flatten).Nodup:=fH.1 h;unfold uQ at h0 ⊢;split at h0
 .rename_i g;rw[if_pos g];have hg:0<=c/\c < (qs.length:Int):=(gU.1 g).2;have iO:c.toNat < qs.length:=by omega
  have hk:qs[c.toNat]?=some (qs[c.toNat]?.getD []):=by rw[lK iO];rfl
  generalize (jT n (((vs,os,qs,sg,()):MD).2.2.1[c.toNat]?.getD []).length).toNat=j;show dV (vs,os,qs.set c.toNat ((qs[c.toNat]?.getD []).drop j),lI sg ((qs[c.toNat]?.getD []).take j),())=true/\Gi (vs,os,qs.set c.toNat ((qs[c.toNat]?.getD []).drop j),lI sg ((qs[c.toNat]?.getD []).take j),()) _;generalize qs[c.toNat]?.getD []=q at hk;have p1:=Nu qs c.toNat q (q.drop j) hk;have p2:∀F:List Int,(q++F).Perm (q.drop j++(q.take j++F)):=by
   intro F
   conv=>lhs;rw[<-VG j q,zW]
   exact acn _ _ _
  have p3:=(List.perm_append_left_iff _).1 (p1.trans (p2 _));obtain⟨a1,a2⟩:=SB (q.take j) sg q4;have p4:(sg++qs.flatten).Perm ((sg++q.take j)++(qs.set c.toNat (q.drop j)).flatten):=by
   rw[zW];exact p3.append_left sg
  have q8':=p4.nodup_iff.1 q8;have hn:(sg++q.take j).Nodup:=(List.nodup_append.1 q8').1;have hp:(lI sg (q.take j)).Perm (sg++q.take j):=(List.perm_ext_iff_of_nodup (a1.imp λh=>by omega) hn).2 λx=>by rw[a2 x,Fv]
  have hp2:=hp.append_right (qs.set c.toNat (q.drop j)).flatten;exact⟨fH.2 ⟨q1,q2,by rw[wU];exact q3,a1,q5,q6,λx hx=>q7 x (p4.mem_iff.2 (hp2.mem_iff.1 hx)),hp2.nodup_iff.2 q8'⟩,rfl,rfl,by rw[wU]⟩
 .rename_i g;exact absurd h0 g
theorem agz(h:dV m=true) (h0:(oW m id).2=0):dV (oW m id).1=true/\Gi (oW m id).1 m:=by
 obtain⟨vs,os,qs,sg,⟨⟩⟩:=m;obtain⟨q1,q2,q3,q4,q5,q6,q7,q8⟩:vs.length<=8/\os.length<=4/\qs.length<=4/\SS sg/\(∀v∈vs,bU v=true)/\(∀o∈os,-1<=o)/\(∀x∈sg++qs.flatten,0<=x)/\(sg++qs.flatten).Nodup:=fH.1 h;unfold oW at h0 ⊢;split at h0
 .cases h0
 .rename_i g;split at h0
  .cases h0
  .rename_i g2;rw[if_neg g,if_neg g2];have e:pz (bD sg) [id] false=sg.filter (λx=>decide (x≠id)):=(PU q4).symm
   show dV (vs,os,qs,pz (bD sg) [id] false,())=true/\_;rw[e];have sub:(sg.filter (λx=>decide (x≠id))++qs.flatten).Sublist (sg++qs.flatten):=(List.filter_sublist).append_right _
   exact⟨fH.2 ⟨q1,q2,q3,q4.filter _,q5,q6,λx hx=>q7 x (sub.subset hx),sub.nodup q8⟩,rfl,rfl,rfl⟩
theorem Qg{a b c:MD} (h:Gi a b) (g:Gi b c):Gi a c:=⟨h.1.trans g.1,h.2.1.trans g.2.1,h.2.2.trans g.2.2⟩
theorem alH{e:ED} (h:dV m=true) (h0:0<=e.1) (h1:(lN m e).2=0):dV (lN m e).1=true/\Gi (lN m e).1 m:=by
 unfold lN at h1 ⊢;split at h1
 .rename_i g;rw[if_pos g];exact abM h h1
 rename_i g1;rw[if_neg g1];split at h1
 .rename_i g;rw[if_pos g];exact Qe h (by omega) h1
 rename_i g2;rw[if_neg g2];split at h1
 .rename_i g;rw[if_pos g];exact Qe h (by omega) h1
 rename_i g3;rw[if_neg g3];split at h1
 .rename_i g;rw[if_pos g];split at h1
  .rename_i g';rw[if_pos g'];have a:=Qe h (show(-1:Int)<=-1 by omega) g'
   have b:=alG a.1 h1;exact⟨b.1,Qg b.2 a.2⟩
  .rename_i g';exact absurd h1 g'
 rename_i g4;rw[if_neg g4];split at h1
 .rename_i g;rw[if_pos g];exact agz h h1
 rename_i g5;rw[if_neg g5];split at h1
 .rename_i g;rw[if_pos g];exact ahz h h1
 rename_i g6;rw[if_neg g6];split at h1
 .rename_i g;rw[if_pos g];exact ahz h h1
 rename_i g7;rw[if_neg g7];exact⟨h,rfl,rfl,rfl⟩
theorem agA{p:PD}{e:ED} (h:jw p m=true) (h0:0<=e.1) (h1:(lN m e).2=0):jw p (lN m e).1=true:=by
 have hv:=rD h;obtain⟨a,b1,b2,b3⟩:=alH hv.2.1 h0 h1;unfold jw;rw[a];simp only[bV,dH];exact⟨⟨⟨⟨hv.1,trivial⟩,b1.trans hv.2.2.1⟩,b2.trans hv.2.2.2.1⟩,b3.trans hv.2.2.2.2⟩
theorem alI{u:TD} (h:uS l) (hu:u.1=id) (hn:∀t∈l,t.1≠id):uS (insL l id u):=by
 have h:l.Pairwise λa b=>a.1 < b.1:=List.pairwise_map.1 h
 refine List.pairwise_map.2 ?_;unfold insL;have dw:∀{l:List TD},l.Pairwise (λa b=>a.1 < b.1)->∀t∈l.dropWhile (λt=>decide (t.1 < id)),id<=t.1:=by
  intro l
  induction l with
  | nil=>intro _ t ht;cases ht
  | cons a l ih=>
    intro hp t ht;rw[A89]at hp
    by_cases q:a.1 < id
    .rw[List.dropWhile_cons_of_pos (by simpa using q)]at ht
     exact ih hp.2 t ht
    .rw[List.dropWhile_cons_of_neg (by simpa using q)]at ht
     rcases mY.1 ht with rfl | ht
     .omega
     .have:=hp.1 t ht;omega
 have tw:∀{l:List TD},∀t∈l.takeWhile (λt=>decide (t.1 < id)),t.1 < id:=by
  intro l
  induction l with
  | nil=>intro t ht;cases ht
  | cons a l ih=>
    intro t ht;rw[TT]at ht;split at ht
    .rename_i q;rcases mY.1 ht with rfl | ht
     .simpa using q
     .exact ih t ht
    .cases ht
 have e:=A92 (p:=λt=>decide (t.1 < id)) (l:=l)
 have h2:=h;rw[<-e,TS]at h2;have dm:∀t∈l.dropWhile (λt=>decide (t.1 < id)),id < t.1:=by
  intro t ht;have a:=dw h t ht;have b:=hn t (by rw[<-e];exact ahL _ ht)
  omega
 refine TS.2 ⟨TS.2 ⟨h2.1,List.pairwise_singleton _ _,λa ha b hb=>?_⟩,h2.2.1,λa ha b hb=>?_⟩
 .simp at hb;subst hb;have:=tw a ha;omega
 .have q:=dm b hb;rcases Fv.1 ha with ha | ha
  .have:=tw a ha;omega
  .simp at ha;subst ha;omega
theorem alJ(h:zV vs ms cs fs=0):(vs.length<=8/\ms.length<=4/\cs.length<=4)/\∀v∈vs,bU v.2.1=true:=by
 unfold zV at h;split at h
 .cases h
 .rename_i q;split at h
  .rename_i g;exact⟨by omega,λv hv=>Nz.1 g v hv⟩
  .cases h
theorem agB(h:(aG vs ms cs fs ts).1=0):jw (vs,ms,cs,fs,ts,()) (xX vs ms cs fs ts).1=true:=by
 obtain⟨⟨h1,h2,h3⟩,hv⟩:=alJ (oP h).1;unfold xX;rw[if_pos h];have hf:dV (vs.map (·.2.1),List.replicate ms.length (-1),List.replicate cs.length [],[],())=true:=by
  refine fH.2 ⟨by rw[VP];exact h1,by rw[JX];exact h2,by rw[JX];exact h3,List.Pairwise.nil,λv hv'=>?_,λo ho=>?_,?_,?_⟩
  .obtain⟨x,hx,rfl⟩:=List.mem_map.1 hv';exact hv x hx
  .rw[(List.mem_replicate.1 ho).2];omega
  all_goals simp
 unfold jw;simp only[hf,h,VP,JX,decide_true,Bool.and_self]
theorem JV{k:Nat} (h:(pF e fs bound ts)[k]?=some t):∃d,ts[k]?=some d/\t=(newS e fs bound (k:Int) d.1 d.2.1).1:=by
 unfold pF at h;rw[Df,acu]at h;cases hd:ts[k]? with
 | none=>rw[hd]at h;cases h
 | some d=>rw[hd]at h;simp at h;exact⟨d,rfl,h.symm⟩
theorem Qh{fn r:Int} (h:(newS e fs bound id fn r).2=0):(newS e fs bound id fn r).1.1=id:=by
 unfold newS at h ⊢
 split at h
 .rename_i q;exact absurd h q
 split at h
 .cases h
 split at h
 .cases h
 split at h
 .cases h
 rename_i q1 q2 q3 q4;rw[if_neg q1,if_neg q2,if_neg q3,if_neg q4];exact(MF _ _ _ _).1
def Nv(l:List TD):Prop:=∀t∈l,t.2.2.2.1.length=8
theorem alK(hs:dF (aG vs ms cs fs ts).1 bound=0):VS vs ms cs fs ts bound (pF (aG vs ms cs fs ts).1 fs bound ts) (xX vs ms cs fs ts).1 []/\Nv (pF (aG vs ms cs fs ts).1 fs bound ts):=by
 have hm:∀t∈pF (aG vs ms cs fs ts).1 fs bound ts,uf ms fs bound t/\t.2.2.2.1.length=8:=by
  intro t ht;obtain⟨k,hk⟩:=VT.1 ht;obtain⟨d,hd,rfl⟩:=JV hk;exact(aaB (JU hs hd)).2
 refine⟨⟨agB (gZ.1 hs).1,rfl,λt ht=>⟨hs,(hm t ht).1⟩,Qa λj a b ha hb=>?_⟩,λt ht=>(hm t ht).2⟩
 obtain⟨d,hd,rfl⟩:=JV ha;obtain⟨d',hd',rfl⟩:=JV hb;rw[Qh (JU hs hd),Qh (JU hs hd')];omega
theorem abN(h:VS vs ms cs fs ts bound l m bf) (h8:Nv l) (hl:l.length<=1000000):iH l:=
 ⟨hl,λt ht=>⟨(MQ (h.2.2.1 t ht).1 (h.2.2.1 t ht).2).1,(MQ (h.2.2.1 t ht).1 (h.2.2.1 t ht).2).2,h8 t ht⟩⟩
theorem alL{k:Nat}{u:TD} (h:uS l) (hk:l[k]?=some t) (hu:u.1=t.1):uS (l.set k u):=by
 unfold uS at h ⊢
 rw[List.map_set];have e:(l.map (·.1))[k]?=some t.1:=by rw[Df,hk];rfl
 rw[show(l.map (·.1)).set k u.1=l.map (·.1) by rw[hu];exact gV e]
 exact h
theorem Vy{z:ZD} (h:(rF vs ms cs fs ts bound z id).2.2=0):
 dF (aG vs ms cs fs ts).1 bound=0/\VS vs ms cs fs ts bound z.1 z.2.1 z.2.2.1/\∃t i,jE (aG vs ms cs fs ts).1 ms fs z.1 id=(t,i,true)/\CX z.1 z.2.1 t i=true/\(lN z.2.1 (labS z.2.1 t i)).2=0 /\
  ¬((labS z.2.1 t i).2.2.1=16/\0<=eG (λu=>decide (u.1=(labS z.2.1 t i).2.2.2.1)) z.1) /\
  rF vs ms cs fs ts bound z id=((stT (if(labS z.2.1 t i).2.2.1=16 then insL z.1 (labS z.2.1 t i).2.2.2.1 (newS (aG vs ms cs fs ts).1 fs bound (labS z.2.1 t i).2.2.2.1 i.2.2.2.2.1 (t.2.2.2.1.getD i.2.2.1.toNat 0)).1 else z.1) id
  (kU (aG vs ms cs fs ts).1 ms fs bound t (AY i (labS z.2.1 t i))).1,(lN z.2.1 (labS z.2.1 t i)).1,[],()),labS z.2.1 t i,0):=by
 have h1:dF (aG vs ms cs fs ts).1 bound=0:=by
  refine JZ.1 λq=>?_
  unfold rF at h;rw[if_pos q]at h;exact q h
 have h2:vsB vs ms cs fs ts bound z.1 z.2.1 z.2.2.1=true:=by
  refine JZ.1 λq=>?_
  unfold rF at h;rw[if_neg (by omega),if_pos (by simpa using q)]at h;cases h
 cases hr:jE (aG vs ms cs fs ts).1 ms fs z.1 id with
 | mk t x=>
   obtain⟨i,ok⟩:=x;rw[JR h1 h2 hr]at h ⊢
   split at h
   .cases h
   rename_i g1;split at h
   .cases h
   rename_i g2;split at h
   .cases h
   rename_i g3;rw[if_neg g1,if_neg g2,if_neg g3];simp only[Bool.not_eq_false,bV]at g1;exact⟨h1,jV.1 h2,t,i,by rw[g1.1],g1.2,JZ.1 g2,g3,rfl⟩
theorem alM{z:ZD} (h:(rF vs ms cs fs ts bound z id).2.2=0) (h8:Nv z.1) (hl:z.1.length<=999999) (hM:bG z.2.1):
 VS vs ms cs fs ts bound (rF vs ms cs fs ts bound z id).1.1 (rF vs ms cs fs ts bound z id).1.2.1 (rF vs ms cs fs ts bound z id).1.2.2.1/\Nv (rF vs ms cs fs ts bound z id).1.1:=by
 obtain⟨hs,hV,t,i,hr,he,hf,hd,e⟩:=Vy h;rw[e];have hT:=abN hV h8 (by omega)
 obtain⟨hm,hid,hlab,hat,hsu,hvl⟩:=Qd hV hM hT hr;have hch:i.1=21->(bY t.1 t.2.2.2.2.2.1).2=true:=λq=>(JQ hs hvl hsu hat q (h8 t hm)).1
 have hcz:=Nr hs hvl hsu (TA (m:=z.2.1) (i:=i) hlab.1.2.1 hch);obtain⟨_,c1,c2,_,c3,_⟩:=akE (h8 t hm) hcz;have h0:0<=t.1:=by
  have:=oQ hvl;obtain⟨x,fn,pc,rg,st,ch,ph,su,fa,hd,u⟩:=t;exact(lW this.1).1
 have hL:VS vs ms cs fs ts bound (if(labS z.2.1 t i).2.2.1=16 then insL z.1 (labS z.2.1 t i).2.2.2.1 (newS (aG vs ms cs fs ts).1 fs bound (labS z.2.1 t i).2.2.2.1 i.2.2.2.2.1 (t.2.2.2.1.getD i.2.2.1.toNat 0)).1 else z.1) (lN z.2.1 (labS z.2.1 t i)).1 [] /\
  Nv (if(labS z.2.1 t i).2.2.1=16 then insL z.1 (labS z.2.1 t i).2.2.2.1 (newS (aG vs ms cs fs ts).1 fs bound (labS z.2.1 t i).2.2.2.1 i.2.2.2.2.1 (t.2.2.2.1.getD i.2.2.1.toNat 0)).1 else z.1) /\
  ∃u∈(if(labS z.2.1 t i).2.2.1=16 then insL z.1 (labS z.2.1 t i).2.2.2.1 (newS (aG vs ms cs fs ts).1 fs bound (labS z.2.1 t i).2.2.2.1 i.2.2.2.2.1 (t.2.2.2.1.getD i.2.2.1.toNat 0)).1 else z.1),u.1=id:=by
  have lg:=agA hV.1 (show 0<=(labS z.2.1 t i).1 by rw[abE];exact h0) hf
  split
  .rename_i g;have hi:=(Tv hlab.2.2.2.1).1 g;obtain⟨s1,s2⟩:=JQ hs hvl hsu hat hi (h8 t hm);rw[<-Tz (m:=z.2.1) hi]at s2;obtain⟨_,n1,n2⟩:=aaB s2;have n3:=Qh s2;have hmm:∀x∈insL z.1 (labS z.2.1 t i).2.2.2.1 (newS (aG vs ms cs fs ts).1 fs bound (labS z.2.1 t i).2.2.2.1 i.2.2.2.2.1 (t.2.2.2.1.getD i.2.2.1.toNat 0)).1,x∈z.1\/x=(newS (aG vs ms cs fs ts).1 fs bound (labS z.2.1 t i).2.2.2.1 i.2.2.2.2.1 (t.2.2.2.1.getD i.2.2.1.toNat 0)).1:=by
    intro x hx;unfold insL at hx;simp only[Fv,A82]at hx;rcases hx with(hx | hx) | hx
    .exact .inl ((List.takeWhile_sublist _).subset hx)
    .exact .inr hx
    .exact .inl ((List.dropWhile_sublist _).subset hx)
   refine⟨⟨lg,rfl,λx hx=>⟨hs,?_⟩,alI hV.2.2.2 n3 λx hx q=>hd ⟨g,?_⟩⟩,λx hx=>?_,t,Ns hm,hid⟩
   .rcases hmm x hx with hx | rfl
    .exact(hV.2.2.1 x hx).2
    .exact n1
   .have:=(alD (l:=z.1) ⟨x,hx,q⟩);refine JZ.1 λq2=>?_
    have:=A90.1 (oZ q2) x hx;simp[q]at this
   .rcases hmm x hx with hx | rfl
    .exact h8 x hx
    .exact n2
  .exact⟨⟨lg,rfl,hV.2.2.1,hV.2.2.2⟩,h8,t,hm,hid⟩
 generalize (if(labS z.2.1 t i).2.2.1=16 then insL z.1 (labS z.2.1 t i).2.2.2.1 (newS (aG vs ms cs fs ts).1 fs bound (labS z.2.1 t i).2.2.2.1 i.2.2.2.2.1 (t.2.2.2.1.getD i.2.2.1.toNat 0)).1 else z.1)=L at hL
 obtain⟨hL,hL8,u,hu,hui⟩:=hL;have q:0<=eG (λt=>decide (t.1=id)) L:=by
  refine JZ.1 λq=>?_
  have:=A90.1 (oZ q) u hu;simp[hui]at this
 obtain⟨k,v,q1,q2,q3,q4⟩:=kJ q;have ek:(dO (eG (λt=>decide (t.1=id)) L) 0).toNat=k:=by rw[q1];unfold dO;split<;>omega
 have hvi:v.1=id:=by simpa using VY q3
 unfold stT;rw[ek];refine⟨⟨hL.1,rfl,λx hx=>⟨hs,?_⟩,alL hL.2.2.2 q2 (c3.trans (hid.trans hvi.symm))⟩,λx hx=>?_⟩
 .rcases JW hx with hx | rfl
  .exact(hL.2.2.1 x hx).2
  .exact c1
 .rcases JW hx with hx | rfl
  .exact hL8 x hx
  .exact c2
def xV:List VD:=[(⟨#[120]⟩,0,())]
def xF:List FD:=[(⟨#[102]⟩,[(1,1,0,0,0,1,0,0,()),(11,2,1,0,0,0,0,1,())],())]
def xT:List SD:=[(0,0,()),(0,0,())]
def xP:PD:=(xV,[],[],xF,xT,())
def xt(id:Int):TD:=(id,0,1,[0,1,0,0,0,0,0,0],0,0,0,1,0,[],())
def xu:TD:=(0,0,2,[0,1,0,0,0,0,0,0],1,0,0,2,0,[],())
def xi:ID:=(11,2,1,0,0,0,0,1,())
def xm(v:Int):MD:=([v],[],[],[],())
def xe(id v:Int):ED:=(id,0,5,0,-1,-1,1,v,v+1,())
theorem ahA:(aG xV [] [] xF xT).1=0:=by rfl
theorem abO(h:b=4\/b=32):dF (aG xV [] [] xF xT).1 b=0:=gZ.2 ⟨ahA,by omega,by omega⟩
theorem aoc(h:b=4\/b=32):pF (aG xV [] [] xF xT).1 xF b xT=[xt 0,xt 1]:=by
 rcases h with rfl | rfl<;>rfl
theorem aod:(xX xV [] [] xF xT).1=xm 0:=by rfl
theorem Nw(h:b=4\/b=32):VS xV [] [] xF xT b [xt 0,xt 1] (xm 0) []/\Nv [xt 0,xt 1]:=by
 have:=alK (abO h);rw[aoc h,aod]at this;exact this
theorem aoe(h:VS xV [] [] xF xT b l m []) (h8:Nv l) (hl:l.length=2):iH l:=abN h h8 (by omega)
theorem Vz(v:Int):bG (xm v):=vW (m:=xm v) rfl
theorem TG(hV:uf [] xF 32 t) (h1:t.2.2.2.2.2.2.2.1=1):gK (aG xV [] [] xF xT).1 [] xF t=atR xF t.2.1 t.2.2.1:=by
 unfold gK;rw[if_pos ⟨ahA,h1,hV⟩]
theorem alN:jE (aG xV [] [] xF xT).1 [] xF [xt 0,xt 1] 0=(xt 0,xi,true):=by
 have hV:=(Nw (.inr rfl)).1.2.2.1 (xt 0) (by simp)
 unfold jE;rw[show xY [xt 0,xt 1] 0=some (xt 0) from rfl]
 show(xt 0,(gK _ _ _ _).1,(gK _ _ _ _).2)=_;rw[TG hV.2 rfl];rfl
theorem aof(id:Int):labS (xm 0) (xt id) xi=xe id 0:=by rfl
theorem aog:lN (xm 0) (xe 0 0)=(xm 1,0):=by
 have hf:dV (xm 0)=true:=(rD (Nw (.inl rfl)).1.1).2.1;unfold lN;rw[if_pos (.inl rfl)];unfold writeM;rw[if_pos (gU.2 ⟨hf,by decide,by decide⟩),if_pos (show bU (xe 0 0).2.2.2.2.2.2.2.2.1=true from rfl)]
 rfl
theorem aoh(h:b=4\/b=32):(kU (aG xV [] [] xF xT).1 [] xF b (xt 0) 0).1=xu:=by
 have hV:=(Nw h).1.2.2.1 (xt 0) (by simp)
 unfold kU;rw[if_neg (by rw[abO h];simp),if_neg (by simpa using hV.2),if_neg (by decide),if_neg (by decide)]
 rcases h with rfl | rfl<;>rfl
theorem abP(h:b=4\/b=32):rF xV [] [] xF xT b ([xt 0,xt 1],xm 0,[],()) 0=(([xu,xt 1],xm 1,[],()),xe 0 0,0):=by
 rw[JR (abO h) (jV.2 (Nw h).1) alN];show(if(true && CX [xt 0,xt 1] (xm 0) (xt 0) xi)=false then _ else if(lN (xm 0) (labS (xm 0) (xt 0) xi)).2≠0 then _ else if(labS (xm 0) (xt 0) xi).2.2.1=16/\_ then _ else _)=_
 rw[aof,aog,show CX [xt 0,xt 1] (xm 0) (xt 0) xi=true by rfl]
 rw[if_neg (by simp),if_neg (by simp),if_neg (by rintro⟨h,_⟩;exact absurd h (by decide)),if_neg (by decide)]
 rw[show AY xi (xe 0 0)=0 by rfl,aoh h]
 rfl
theorem agC(h:b=4\/b=32):VS xV [] [] xF xT b [xu,xt 1] (xm 1) []/\Nv [xu,xt 1]:=by
 have:=alM (vs:=xV) (ms:=[]) (cs:=[]) (fs:=xF) (ts:=xT) (bound:=b) (id:=0) (z:=([xt 0,xt 1],xm 0,[],())) (by rw[abP h]) (Nw h).2 (by simp) (Vz 0)
 rw[abP h]at this;exact this
theorem alO:wo xV [] [] xF xT [xt 0,xt 1] (xm 0) []=[0,1]:=by
 have hV:=(Nw (.inr rfl)).1;unfold wo;rw[if_pos (jV.2 hV)];have e:∀i,uf [] xF 32 (xt i)->Qc (aG xV [] [] xF xT).1 [] xF [xt 0,xt 1] (xm 0) (xt i)=true:=by
  intro i hi;unfold Qc;rw[TG hi rfl];rfl
 unfold sO;rw[ahJ (e 0 (hV.2.2.1 _ (by simp)).2),ahJ (e 1 (hV.2.2.1 _ (by simp)).2)]
 rfl
theorem alP:wo xV [] [] xF xT [xu,xt 1] (xm 1) []=[1]:=by
 have hV:=(agC (.inr rfl)).1;unfold wo;rw[if_pos (jV.2 hV)];have e:Qc (aG xV [] [] xF xT).1 [] xF [xu,xt 1] (xm 1) (xt 1)=true:=by
  unfold Qc;rw[TG (hV.2.2.1 _ (by simp)).2 rfl];rfl
 have e2:Qc (aG xV [] [] xF xT).1 [] xF [xu,xt 1] (xm 1) xu=false:=by
  unfold Qc gK;rw[if_neg (by rintro⟨_,h,_⟩;exact absurd h (by decide))]
  rfl
 unfold sO;rw[List.filter_cons_of_neg (by rw[e2];simp),ahJ e]
 rfl
theorem aoi:nT xV [] [] xF xT [xu,xt 1] (xm 1) [] 1=(xe 1 1,true):=by
 have hV:=(agC (.inr rfl)).1;have hr:jE (aG xV [] [] xF xT).1 [] xF [xu,xt 1] 1=(xt 1,xi,true):=by
  unfold jE;rw[show xY [xu,xt 1] 1=some (xt 1) from rfl]
  show(xt 1,(gK _ _ _ _).1,(gK _ _ _ _).2)=_;rw[TG (hV.2.2.1 _ (by simp)).2 rfl];rfl
 unfold nT;rw[if_pos (jV.2 hV),hr];rfl
abbrev ahB:CT:={ ps:=[],pre:=λd=>True,res:=λd=>([],.one (iE o7 xP)) }
abbrev aoj  : Nat->Option (St->jq):=λ_=>none
theorem alQ :
 let z1:=((0:Int),(0:Int),());rE (aZ.one (SV.agg [SC.sl EM xV,SC.sl Sh.str [],SC.sl Sh.str [],SC.sl Bq xF,SC.sl lS xT])) (aZ.one (SV.agg [SC.sl EM [({ data:=#[(120:UInt8)]:ByteArray },(0:Int),())],SC.sl Sh.str [],SC.sl Sh.str [],SC.sl Bq [({ data:=#[(102:UInt8)]:ByteArray },[((1:Int),(1:Int),(0:Int),(0:Int),(0:Int),(1:Int),(0:Int),(0:Int),()),((11:Int),(2:Int),(1:Int),(0:Int),(0:Int),(0:Int),(0:Int),(1:Int),())],())],SC.sl lS [z1,z1]])):=by
 conv=>zeta
 exact⟨rfl,rfl⟩
theorem agD:aT aS.gd 31 ahB:=
 dQ (cx:=aS) (n:=14) (cl:=[]) (rc:=[.data o7]) au trivial Tryz.func31 λd hd=>by
  obtain⟨⟩:=d;exact aI (aoj ) (alQ ) (by kernel_rfl)
abbrev TJ:CT:={ ps:=[.sl (.int .i64),.sl (.int .i64)],pre:=λd=>d.1.length<=1000000,res:=λd=>([],vB (nC d.1 d.2.1)) }
abbrev aok(l m:List Int):Nat->Option (St->jq):=λk=>match k with
 | 4=>some λ_=>.inv { α:=Nat,slots:=λk=>[(5,.c (.v (.int .i64 k)))],res:=λk=>[],inv:=λk=>k<=(l).length/\∀j < k,l[j]?=m[j]?,meas:=λk=>(l).length - k }
 | _=>none
theorem alR(l m:List Int) (aF:TJ.pre (l,m,())):
 let z1:=λ(x:Nat)=>(x<=l.length/\∀(j:Nat),j < x->l[j]?=m[j]?);br (!decide ((l.length:Int)=(m.length:Int))) (qB (nC l m) false) ((∃x,(z1 x)/\(cI 0=cI (x:Int)/\True)/\([]:List dJ)=[])/\∀(x:Nat),(z1 x)->br (decide ((x:Int) < (l.length:Int))) ((0<=(x:Int)/\(x:Int) < (l.length:Int))/\∀(d:Int),l[(x:Int).toNat]?=some d->(0<=(x:Int)/\(x:Int) < (m.length:Int))/\∀(dI:Int),m[(x:Int).toNat]?=some dI->br (!decide (d=dI)) (qB (nC l m) false) (iR ((x:Int)+(1:Int))/\∃x',(z1 x')/\(cI ((x:Int)+(1:Int))=cI (x':Int)/\True)/\([]:List dJ)=[]/\l.length - x' < l.length - x)) (qB (nC l m) true)):=by
 conv=>zeta
 delta dJ iR;have hp:l.length<=1000000:=aF;have fF:l≠m->qB (nC l m) false:=λq=>⟨rfl,by rw[oh q]⟩
 refine ah.2 ⟨λh=>fF λq=>?_,λh=>?_⟩
 .subst q;simp at h
 simp only[wR,dH]at h;refine⟨⟨0,⟨by omega,λj hj=>by omega⟩,⟨rfl,trivial⟩,rfl⟩,λk hk=>ah.2 ⟨λg=>?_,λg=>?_⟩⟩
 .simp only[dH]at g;refine⟨⟨by omega,by omega⟩,λd hd=>⟨⟨by omega,by omega⟩,λd1 hd1=>ah.2 ⟨λg2=>fF λq=>?_,λg2=>⟨ak.2 (by omega),k+1,⟨by omega,λj hj=>?_⟩,⟨rfl,trivial⟩,rfl,by omega⟩⟩⟩⟩
  .subst q;rw[hd]at hd1;cases hd1;simp at g2
  .by_cases gQ:j=k
   .subst gQ;have hd:l[j]?=some d:=hd;have hd1:m[j]?=some d1:=hd1;have g2:d=d1:=by simpa using g2
    rw[hd,hd1,g2]
   .exact hk.2 j (by omega)
 simp only[eH]at g;have e:l=m:=by
  apply H9;intro j
  by_cases hj:j < k
  .exact hk.2 j hj
  .rw[BH (by omega),BH (by omega)]
 exact⟨rfl,by rw[kK e]⟩
theorem TK:aT aS.gd 18 TJ:=
 dQ (cx:=aS) (n:=26) (cl:=[]) (rc:=[]) au trivial Tryz.func18 λd hd=>by
  obtain⟨l,m,⟨⟩⟩:=d;exact aI (aok l m) (alR l m hd) (by kernel_rfl)
abbrev abQ:CT:={ ps:=[],pre:=λd=>True,res:=λd=>([],vB (true)) }
abbrev aol  : Nat->Option (St->jq):=λ_=>none
theorem alS :
 let z11:=1<=1000000/\0<=1000000/\0<=1000000/\1<=1000000/\2<=1000000/\(∀(x:FD),x∈xF->List.length x.snd.fst<=1000000)/\2<=1000000;let z12:=pF (0:Int) xF (4:Int) xT;let z10:=wo xV [] [] xF xT z12 (List.map (λx=>x.snd.fst) xV,List.replicate 0 (-1:Int),List.replicate 0 [],[],()) [];let z9:=rF xV [] [] xF xT (4:Int) (pF (0:Int) xF (4:Int) xT,(List.map (λx=>x.snd.fst) xV,List.replicate 0 (-1:Int),List.replicate 0 [],[],()),[],()) (0:Int);let z8:=z9.snd.snd=0;let z2:=true && z9.snd.fst.fst == (0:Int) && z9.snd.fst.snd.fst == (0:Int) && z9.snd.fst.snd.snd.fst == (5:Int) && z9.snd.fst.snd.snd.snd.fst == (0:Int) && z9.snd.fst.snd.snd.snd.snd.fst == (-1:Int) && z9.snd.fst.snd.snd.snd.snd.snd.fst == (-1:Int) && z9.snd.fst.snd.snd.snd.snd.snd.snd.fst == (1:Int) && z9.snd.fst.snd.snd.snd.snd.snd.snd.snd.fst == (0:Int) && z9.snd.fst.snd.snd.snd.snd.snd.snd.snd.snd.fst == (1:Int);let z6:=nT xV [] [] xF xT z9.fst.fst z9.fst.snd.fst z9.fst.snd.snd.fst (1:Int);let z4:=z6.fst.snd.snd.snd.snd.snd.snd.snd.fst=1;let z3:=z6.fst.snd.snd.snd.snd.snd.snd.snd.snd.fst=2;let z5:=z6.fst.fst=1;let z1:=decide z8 && z2 && z6.snd && decide z4 && decide z3 && decide z5 && nC z9.fst z9.fst && !nC (pF (0:Int) xF (4:Int) xT,(List.map (λx=>x.snd.fst) xV,List.replicate 0 (-1:Int),List.replicate 0 [],[],()),[],()) z9.fst;let z7:=wo xV [] [] xF xT z9.fst.fst z9.fst.snd.fst z9.fst.snd.snd.fst;True/\z11/\(true=true->z11/\iH z12/\bG (List.map (λx=>x.snd.fst) xV,List.replicate 0 (-1:Int),List.replicate 0 [],[],()))/\(true=true->z10.length<=1000000)/\br (false || !nC z10 [(0:Int),(1:Int)]) (qB true false) ((z11/\iH z12/\2<=999999/\true=true/\Gg [])/\(z11/\iH z9.fst.fst/\bG z9.fst.snd.fst)/\((decide z8 && z2 && z6.snd && decide z4 && decide z3 && decide z5)=true->abl z9.fst)/\((decide z8 && z2 && z6.snd && decide z4 && decide z3 && decide z5 && nC z9.fst z9.fst)=true->abl (pF (0:Int) xF (4:Int) xT,(List.map (λx=>x.snd.fst) xV,List.replicate 0 (-1:Int),List.replicate 0 [],[],()),[],()))/\(z1=true->z11/\iH z9.fst.fst/\bG z9.fst.snd.fst)/\(z1=true->z7.length<=1000000)/\qB true (decide z8 && z2 && z6.snd && decide z4 && decide z3 && decide z5 && nC z9.fst z9.fst && !nC (pF (0:Int) xF (4:Int) xT,(List.map (λx=>x.snd.fst) xV,List.replicate 0 (-1:Int),List.replicate 0 [],[],()),[],()) z9.fst && nC z7 [(1:Int)])):=by
 conv=>zeta
 have e1:pF (0:Int) xF (4:Int) xT=[xt 0,xt 1]:=by rfl
 have e2:((List.map (λx:VD=>x.2.1) xV,List.replicate 0 (-1:Int),List.replicate 0 [],[],()):MD)=xm 0:=by rfl
 have e3:rF xV [] [] xF xT 4 ([xt 0,xt 1],xm 0,[],()) 0=(([xu,xt 1],xm 1,[],()),xe 0 0,0):=abP (.inl rfl);rw[e1,e2];simp only[e3,alO,alP,aoi];have hF:∀(x:FD),x∈xF->x.2.1.length<=1000000:=by
  intro x hx;simp only[xF,A82]at hx;subst hx;decide
 have B:1<=1000000/\0<=1000000/\0<=1000000/\1<=1000000/\2<=1000000/\(∀(x:FD),x∈xF->x.2.1.length<=1000000)/\2<=1000000:=⟨by decide,by decide,by decide,by decide,by decide,hF,by decide⟩
 have t0:iH [xt 0,xt 1]:=aoe (Nw (.inl rfl)).1 (Nw (.inl rfl)).2 rfl;have t1:iH [xu,xt 1]:=aoe (agC (.inl rfl)).1 (agC (.inl rfl)).2 rfl;have bb:Gg []:=⟨by decide,λb hb=>nomatch hb⟩
 have ne:nC (([xt 0,xt 1],xm 0,[],()):ZD) ([xu,xt 1],xm 1,[],())=false:=oh λh=>by
  have:=rG (λz:ZD=>z.2.1.1) h
  simp[xm]at this
 have e4:nC ([0,1]:List Int) [0,1]=true:=kK rfl;have e5:nC ([1]:List Int) [1]=true:=kK rfl;have e6:nC (([xu,xt 1],xm 1,[],()):ZD) ([xu,xt 1],xm 1,[],())=true:=kK rfl;refine⟨trivial,B,λ_=>⟨B,t0,Vz 0⟩,λ_=>by decide,ah.2 ⟨λh=>?_,λ_=>⟨⟨B,t0,by decide,trivial,bb⟩,⟨B,t1,Vz 1⟩,λ_=>⟨t1,Vz 1,bb⟩,λ_=>⟨t0,Vz 0,bb⟩,λ_=>⟨B,t1,Vz 1⟩,λ_=>by decide,jC ?_⟩⟩⟩
 .rw[e4]at h;cases h
 .rw[e5,e6,ne];rfl
theorem agF:aT aS.gd 11 abQ:=
 dQ (cx:=aS) (n:=89) (cl:=[(31,ahB),(12,abL),(19,xZ),(18,TJ),(21,abH),(16,Fp),(24,aby)]) (rc:=[]) au ⟨agD,agy,Tj,TK,agw,Tn,agp,trivial⟩ Tryz.func11 λd hd=>by
  obtain⟨⟩:=d;exact aI (aol ) (alS ) (by kernel_rfl)
def pG(m:MD) (t:TD) (i:ID):ED->ED
 | (ag,ix,kd,eo,mx,en,mX,rd,wr,_)=>if i.1=18 then(if t.2.2.2.2.2.2.1=0 then(ag,ix,12,eo,i.2.2.2.2.2.1,en,mX,rd,wr,()) else if t.2.2.2.2.2.2.1=1 then(ag,ix,13,eo,mx,en,mX,rd,wr,()) else(ag,ix,9,i.2.2.2.2.2.1,mx,en,mX,rd,wr,()))
   else if i.1=19 then(ag,ix,14,eo,mx,en,mX,jT (m.2.2.1[i.2.2.2.2.1.toNat]?.getD []).length 1,wr,())
   else if i.1=20 then(ag,ix,15,eo,mx,en,mX,(m.2.2.1[i.2.2.2.2.1.toNat]?.getD []).length,wr,())
   else if i.1=21 then(ag,ix,16,(bY t.1 t.2.2.2.2.2.1).1,mx,en,mX,rd,wr,())
   else if i.1=22 then(ag,ix,17,t.2.2.2.1.getD i.2.2.1.toNat 0,mx,en,mX,rd,wr,()) else(ag,ix,kd,eo,mx,en,mX,rd,wr,())
def VA(l:List TD) (id:Int):Bool:=match xY l id with
 | some u=>decide (u.2.2.2.2.2.2.2.1=2) || decide (u.2.2.2.2.2.2.2.1=3)
 | none=>false
theorem abR(he:e=0) (hV:uf ms fs 32 t) (h1:t.2.2.2.2.2.2.2.1=1):∃i,mW fs t.2.1 t.2.2.1=some i/\gK e ms fs t=(i,true):=by
 obtain⟨_,_,i,hi,_⟩:=AQ hV h1;refine⟨i,hi,?_⟩;unfold gK atR;rw[if_pos ⟨he,h1,hV⟩,hi]
theorem abS(h1:¬t.2.2.2.2.2.2.2.1=1):gK e ms fs t=(zI,false):=by
 unfold gK;rw[if_neg λq=>h1 q.2.1];rfl
theorem abT(hV:uf ms fs b t) (hi:mW fs t.2.1 t.2.2.1=some i):(0<=t.2.1/\t.2.1 < (fs.length:Int))/\∀d:FD,fs[t.2.1.toNat]?=some d->(0<=t.2.2.1/\t.2.2.1 < (d.2.1.length:Int))/\∀j,d.2.1[t.2.2.1.toNat]?=some j->j=i:=by
 obtain⟨f1,f2⟩:=AV (oQ hV);refine⟨f1,λd hd=>?_⟩
 unfold mW codeF at hi;rw[J7,hd]at hi;have hi:d.2.1[t.2.2.1.toNat]?=some i:=hi;have:=(A8.1 hi).1;exact⟨⟨f2,by omega⟩,λj hj=>by rw[hi]at hj;exact(Ia hj).symm⟩
theorem agG{k:Nat} (q3:l.find? (λt=>decide (t.1=id))=some t):jE e ms fs l id=(t,(gK e ms fs t).1,(gK e ms fs t).2):=by
 unfold jE xY;rw[q3]
theorem alT(hV:uf ms fs b t):0<=t.2.2.2.2.2.2.1/\t.2.2.2.2.2.2.1<=2:=by
 have h:=oQ hV;obtain⟨id,fn,pc,rg,st,ch,ph,su,fa,he,u⟩:=t;have:=h.2.2.2.2.2.2.2.2;show 0<=ph/\ph<=2;rcases this with q | ⟨q,_⟩<;>omega
theorem alU(b:Bool):
 br b (qI (F9 b) (1:Int)) (qI (F9 b) (0:Int)):=by
 cases b<;>exact⟨rfl,rfl⟩
theorem agH:aT aS.gd 92 JM:=
 dQ (cx:=aS) (n:=4) (cl:=[]) (rc:=[]) au trivial Tryz.func92 λd hd=>by
  obtain⟨b,⟨⟩⟩:=d;exact aI (λ_=>none) (alU b) (by kernel_rfl)
abbrev abU:CT:={ ps:=[.int .i64,.int .i64,.int .i64],pre:=λd=>True,res:=λd=>([],.one (.c (.v (.int .i64 ((dY d.1 d.2.1 d.2.2.1).1))))) }
theorem alV(f x y:Int):
 True/\qI ((dY f x y).fst) ((dY f x y).fst):=by
 exact⟨trivial,rfl,rfl⟩
theorem TL:aT aS.gd 91 abU:=
 dQ (cx:=aS) (n:=17) (cl:=[(159,aaG)]) (rc:=[]) au ⟨aaH,trivial⟩ Tryz.func91 λd hd=>by
  obtain⟨f,x,y,⟨⟩⟩:=d;exact aI (λ_=>none) (alV f x y) (by kernel_rfl)
abbrev aom(l:List Int) (x:Int):Nat->Option (St->jq):=λk=>match k with
 | 2=>some λ_=>.inv { α:=Nat,slots:=λk=>[(5,.c (.v (.int .i64 k)))],res:=λk=>[],inv:=λk=>k<=(l).length/\∀j < k,∀y,l[j]?=some y->¬y=x,meas:=λk=>(l).length - k }
 | _=>none
theorem alW(l:List Int) (x:Int) (aF:xU.pre (l,x,())):
 let z1:=λ(x_1:Nat)=>(x_1<=l.length/\∀(j:Nat),j < x_1->∀(y:Int),l[j]?=some y->¬y=x);(∃x_1,(z1 x_1)/\(cI 0=cI (x_1:Int)/\True)/\([]:List dJ)=[])/\∀(x_1:Nat),(z1 x_1)->br (decide ((x_1:Int) < (l.length:Int))) ((0<=(x_1:Int)/\(x_1:Int) < (l.length:Int))/\∀(d:Int),l[(x_1:Int).toNat]?=some d->br (decide (d=x)) (qB (dP l x) true) (iR ((x_1:Int)+(1:Int))/\∃x',(x'<=l.length/\∀(j:Nat),j < x'->∀(y:Int),l[j]?=some y->¬y=x)/\(cI ((x_1:Int)+(1:Int))=cI (x':Int)/\True)/\([]:List dJ)=[]/\l.length - x' < l.length - x_1)) (qB (dP l x) false):=by
 conv=>zeta
 delta dJ iR;have hp:l.length<=1000000:=aF;refine⟨⟨0,⟨by omega,λj hj=>by omega⟩,⟨rfl,trivial⟩,rfl⟩,λk hk=>ah.2 ⟨λh=>?_,λh=>?_⟩⟩
 .simp only[dH]at h;have hN:(k:Int).toNat=k:=by omega
  rw[hN];refine⟨by omega,λd hd=>ah.2 ⟨λh2=>⟨rfl,?_⟩,λh2=>⟨ak.2 (by omega),k+1,⟨by omega,λj hj y hy=>?_⟩,⟨rfl,trivial⟩,rfl,by omega⟩⟩⟩
  .have e:dP l x=true:=by
    unfold dP;exact J9.2 ⟨d,ig hd,h2⟩
   rw[e]
  .by_cases gQ:j=k
   .subst gQ;rw[hd]at hy;cases hy;simpa using h2
   .exact hk.2 j (by omega) y hy
 .simp only[eH]at h;have e:dP l x=false:=by
   unfold dP;rw[TV];intro i hi;obtain⟨j,hj⟩:=yg hi;simpa using hk.2 j (by have:=(A8.1 hj).1;omega) i hj
  rw[e];exact⟨rfl,rfl⟩
theorem agJ:aT aS.gd 53 xU:=
 jD (cx:=aS) (n:=18) (cl:=[]) au trivial Tryz.func53 λd hd=>by
  obtain⟨l,x,⟨⟩⟩:=d;exact aI (aom l x) (alW l x hd) (by kernel_rfl)
abbrev abV:CT:={ ps:=[.sl dX,.int .i64],pre:=λd=>d.1.length<=1000000,res:=λd=>([],vB (VA d.1 d.2.1)) }
theorem alX(th:List TD) (x:Int) (aF:abV.pre (th,x,())):
 let z3:=0<=eG (λt=>decide (t.fst=x)) th;let z4:=eG (λt=>decide (t.fst=x)) th;let z2:=dO z4 (0:Int);let z1:=λ(d:TD)=>!decide (d.snd.snd.snd.snd.snd.snd.snd.fst=2) && decide z3;th.length<=1000000/\(decide z3=true->0<=dO z4 (0:Int)/\dO z4 0 < (th.length:Int))/\∀(d:TD),(decide z3=true->th[z2.toNat]?=some d)->((z1 d)=true->0<=dO z4 (0:Int)/\dO z4 0 < (th.length:Int))/\∀(dI:TD),((z1 d)=true->th[z2.toNat]?=some dI)->qB (VA th x) (decide z3 && (decide (d.snd.snd.snd.snd.snd.snd.snd.fst=2) || decide (dI.snd.snd.snd.snd.snd.snd.snd.fst=3))):=by
 conv=>zeta
 have hl:th.length<=1000000:=aF;have hx:0<=eG (λt=>decide (t.1=x)) th->0<=dO (eG (λt=>decide (t.1=x)) th) 0/\dO (eG (λt=>decide (t.1=x)) th) 0 < (th.length:Int):=λq=>by
  obtain⟨k,t,q1,q2,q3,q4⟩:=kJ q;rw[q1];unfold dO;split<;>omega
 refine⟨hl,λq=>hx (Qk q),λd h1=>⟨λq=>?_,λd2 h2=>jC ?_⟩⟩
 .rw[bV]at q;exact hx (Qk q.2)
 .unfold VA xY
  by_cases q:0<=eG (λt=>decide (t.1=x)) th
  .obtain⟨k,t,q1,q2,q3,q4⟩:=kJ q;have h1:=h1 (wV q);have ek:(dO (eG (λt=>decide (t.1=x)) th) 0).toNat=k:=by rw[q1];unfold dO;split<;>omega
   rw[ek,q2]at h1;have eq1:t=d:=Ia h1;subst eq1;rw[q3,wV q,FB]
   by_cases s2:t.2.2.2.2.2.2.2.1=2
   .simp[s2]
   .have h2:=h2 (by rw[yh s2,wV q];rfl)
    rw[ek,q2]at h2;have eq2:t=d2:=Ia h2;subst eq2;simp[s2]
  .rw[oZ q,yh q];rfl
theorem agK:aT aS.gd 99 abV:=
 dQ (cx:=aS) (n:=30) (cl:=[(43,wQ)]) (rc:=[]) au ⟨SI,trivial⟩ Tryz.func99 λd hd=>by
  obtain⟨th,x,⟨⟩⟩:=d;exact aI (λ_=>none) (alX th x hd) (by kernel_rfl)
abbrev abW:CT:={ ps:=[J6,dX,lG,shE],pre:=λd=>jW d.1.2.1 d.2.1 d.2.2.1,res:=λd=>([],.one (BP (pG d.1.2.1 d.2.1 d.2.2.1 d.2.2.2.1))) }
theorem alY(th:List TD) (mv mo:List Int) (mq:List (List Int)) (mg:List Int) (bf:List BD) (id fn pc:Int) (rg:List Int) (st ch ph su fa:Int) (he:List Int) (op a b c obj n fo ord ag ix kd eo mx en mX rd wr:Int) (aF:abW.pre ((th,(mv,mo,mq,mg,()),bf,()),(id,fn,pc,rg,st,ch,ph,su,fa,he,()),(op,a,b,c,obj,n,fo,ord,()),(ag,ix,kd,eo,mx,en,mX,rd,wr,()),())):
 let z4:=(ag,ix,kd,eo,mx,en,mX,rd,wr,());let z3:=pG (mv,mo,mq,mg,()) (id,fn,pc,rg,st,ch,ph,su,fa,he,()) (op,a,b,c,obj,n,fo,ord,()) z4;let z5:=0<=obj/\obj < (mq.length:Int);let z1:=((z5/\∀(d:List Int),mq[obj.toNat]?=some d->((qE z3 (ag,ix,14,eo,mx,en,mX,jT (d.length:Int) (1:Int),wr,()))/\qE z3 (ag,ix,14,eo,mx,en,mX,jT (d.length:Int) (1:Int),wr,()))/\qE z3 (ag,ix,14,eo,mx,en,mX,jT (d.length:Int) (1:Int),wr,()))/\z5/\∀(d:List Int),mq[obj.toNat]?=some d->qE z3 (ag,ix,14,eo,mx,en,mX,jT (d.length:Int) (1:Int),wr,()));let z2:=((z5/\∀(d:List Int),mq[obj.toNat]?=some d->(qE z3 (ag,ix,15,eo,mx,en,mX,(d.length:Int),wr,()))/\qE z3 (ag,ix,15,eo,mx,en,mX,(d.length:Int),wr,()))/\z5/\∀(d:List Int),mq[obj.toNat]?=some d->qE z3 (ag,ix,15,eo,mx,en,mX,(d.length:Int),wr,()));br (decide (op=18)) (br (decide (ph=0)) ((qE z3 (ag,ix,12,eo,n,en,mX,rd,wr,()))/\qE z3 (ag,ix,12,eo,n,en,mX,rd,wr,())) (br (decide (ph=1)) (qE z3 (ag,ix,13,eo,mx,en,mX,rd,wr,())) ((qE z3 (ag,ix,9,n,mx,en,mX,rd,wr,()))/\qE z3 (ag,ix,9,n,mx,en,mX,rd,wr,())))) (br (decide (op=19)) (z1/\z1/\z5/\∀(d:List Int),mq[obj.toNat]?=some d->qE z3 (ag,ix,14,eo,mx,en,mX,jT (d.length:Int) (1:Int),wr,())) (br (decide (op=20)) (z2/\z2/\z5/\∀(d:List Int),mq[obj.toNat]?=some d->qE z3 (ag,ix,15,eo,mx,en,mX,(d.length:Int),wr,())) (br (decide (op=21)) (id<=9223372036854775807/\qE z3 (ag,ix,16,(bY id ch).fst,mx,en,mX,rd,wr,())) (br (decide (op=22)) (((0<=b/\b < 8)/\(b.toNat < 8/\∀(d:Int),rg[b.toNat]?=some d->qE z3 (ag,ix,17,d,mx,en,mX,rd,wr,()))/\b.toNat < 8/\∀(d:Int),rg[b.toNat]?=some d->qE z3 (ag,ix,17,d,mx,en,mX,rd,wr,()))/\(0<=b/\b < 8)/\b.toNat < 8/\∀(d:Int),rg[b.toNat]?=some d->qE z3 (ag,ix,17,d,mx,en,mX,rd,wr,())) (qE z3 z4))))):=by
 conv=>zeta
 obtain⟨⟨hM,hf,hT⟩,hb,hc,hv,ho1,ho2,ho3⟩:jW (mv,mo,mq,mg,()) (id,fn,pc,rg,st,ch,ph,su,fa,he,()) (op,a,b,c,obj,n,fo,ord,()):=aF;obtain⟨t1,t2,t3⟩:he.length<=1000000/\id<=9223372036854775807/\rg.length=8:=hT;have hb:0<=b/\b < 8:=hb;have hc:0<=c/\c < 8:=hc;have hv:8<=op/\op<=22:=hv;have ho1:op<=14/\op≠13->0<=obj/\obj < (mv.length:Int):=ho1;have ho2:18<=op/\op<=20->0<=obj/\obj < (mq.length:Int):=ho2;have ho3:op=13\/15<=op->ord=0:=ho3;simp only[aO]
 repeat' (first | (refine jO ?_) | (refine And.intro ?_ ?_) | (intro _))
 all_goals first | trivial | omega | (simp_all[pG];done) | skip
theorem agL:aT aS.gd 94 abW:=
 dQ (cx:=aS) (n:=72) (cl:=[(160,Sj)]) (rc:=[]) au ⟨MW,trivial⟩ Tryz.func94 λd hd=>by
  obtain⟨⟨th,⟨mv,mo,mq,mg,⟨⟩⟩,bf,⟨⟩⟩,⟨id,fn,pc,rg,st,ch,ph,su,fa,he,⟨⟩⟩,⟨op,a,b,c,obj,n,fo,ord,⟨⟩⟩,⟨ag,ix,kd,eo,mx,en,mX,rd,wr,⟨⟩⟩,⟨⟩⟩:=d;exact aI (λ_=>none) (alY th mv mo mq mg bf id fn pc rg st ch ph su fa he op a b c obj n fo ord ag ix kd eo mx en mX rd wr hd) (by kernel_rfl)
theorem alZ(th:List TD) (mv mo:List Int) (mq:List (List Int)) (mg:List Int) (bf:List BD) (id fn pc:Int) (rg:List Int) (st ch ph su fa:Int) (he:List Int) (op a b c obj n fo ord:Int) (aF:Fj.pre ((th,(mv,mo,mq,mg,()),bf,()),(id,fn,pc,rg,st,ch,ph,su,fa,he,()),(op,a,b,c,obj,n,fo,ord,()),())):
 let z8:=(mv,mo,mq,mg,());let z6:=(id,fn,pc,rg,st,ch,ph,su,fa,he,());let z7:=(op,a,b,c,obj,n,fo,ord,());let z5:=labS z8 z6 z7;let z2:=λ(d:Int)=>jW z8 z6 z7/\qE z5 (pG z8 z6 z7 (id,st,(2:Int),obj,(-1:Int),(-1:Int),ord,(0:Int),d,()));let z4:=λ(nS d:Int)=>jW z8 z6 z7/\qE z5 (pG z8 z6 z7 (id,st,(5:Int),obj,(-1:Int),(-1:Int),ord,nS,d,()));let z1:=br (decide (op=13)) (jW z8 z6 z7/\qE z5 (pG z8 z6 z7 (id,st,(7:Int),obj,(-1:Int),(-1:Int),ord,(0:Int),(0:Int),()))) (br (decide (op=15)) (jW z8 z6 z7/\qE z5 (pG z8 z6 z7 (id,st,(9:Int),obj,(-1:Int),(-1:Int),ord,(0:Int),(0:Int),()))) (br (decide (op=16)) (jW z8 z6 z7/\qE z5 (pG z8 z6 z7 (id,st,(10:Int),obj,(-1:Int),(-1:Int),ord,(0:Int),(0:Int),()))) (br (decide (op=17)) (bG z8/\True/\jW z8 z6 z7/\qE z5 (pG z8 z6 z7 (id,st,(11:Int),obj,(-1:Int),(-1:Int),ord,F9 (nH z8 obj),(0:Int),()))) (jW z8 z6 z7/\qE z5 (pG z8 z6 z7 (id,st,(0:Int),obj,(-1:Int),(-1:Int),ord,(0:Int),(0:Int),()))))));let z3:=λ(d:Int)=>jW z8 z6 z7/\qE z5 (pG z8 z6 z7 (id,st,(5:Int),obj,(-1:Int),(-1:Int),ord,(0:Int),d,()));(0<=b/\b < 8)/\b.toNat < 8/\∀(d:Int),rg[b.toNat]?=some d->(0<=c/\c < 8)/\c.toNat < 8/\∀(dI:Int),rg[c.toNat]?=some dI->br (decide (op<=14) && !decide (op=13)) ((0<=obj/\obj < (mv.length:Int))/\∀(nS:Int),mv[obj.toNat]?=some nS->br (decide (op=8)) (jW z8 z6 z7/\qE z5 (pG z8 z6 z7 (id,st,(1:Int),obj,(-1:Int),(-1:Int),ord,nS,(0:Int),()))) (br (decide (op=14)) (jW z8 z6 z7/\qE z5 (pG z8 z6 z7 (id,st,(8:Int),obj,(-1:Int),(-1:Int),ord,nS,(0:Int),()))) (br (decide (op=9)) (z2 d) (br (decide (op=10)) (z4 nS d) (br (decide (op=11)) (True/\jW z8 z6 z7/\qE z5 (pG z8 z6 z7 (id,st,(5:Int),obj,(-1:Int),(-1:Int),ord,nS,aH (aH nS+aH d),()))) (br (decide (op=12)) (br (decide (nS=d)) (z4 nS dI) (jW z8 z6 z7/\qE z5 (pG z8 z6 z7 (id,st,(6:Int),obj,(-1:Int),(-1:Int),ord,nS,(0:Int),())))) z1)))))) (br (decide (op=8)) (jW z8 z6 z7/\qE z5 (pG z8 z6 z7 (id,st,(1:Int),obj,(-1:Int),(-1:Int),ord,(0:Int),(0:Int),()))) (br (decide (op=14)) (jW z8 z6 z7/\qE z5 (pG z8 z6 z7 (id,st,(8:Int),obj,(-1:Int),(-1:Int),ord,(0:Int),(0:Int),()))) (br (decide (op=9)) (z2 d) (br (decide (op=10)) (z3 d) (br (decide (op=11)) (True/\jW z8 z6 z7/\qE z5 (pG z8 z6 z7 (id,st,(5:Int),obj,(-1:Int),(-1:Int),ord,(0:Int),aH (0+aH d),()))) (br (decide (op=12)) (br (decide (0=d)) (z3 dI) (jW z8 z6 z7/\qE z5 (pG z8 z6 z7 (id,st,(6:Int),obj,(-1:Int),(-1:Int),ord,(0:Int),(0:Int),())))) z1)))))):=by
 conv=>zeta
 have hP:jW (mv,mo,mq,mg,()) (id,fn,pc,rg,st,ch,ph,su,fa,he,()) (op,a,b,c,obj,n,fo,ord,()):=aF;obtain⟨⟨hM,hf,hT⟩,hb,hc,hv,ho1,ho2,ho3⟩:jW (mv,mo,mq,mg,()) (id,fn,pc,rg,st,ch,ph,su,fa,he,()) (op,a,b,c,obj,n,fo,ord,()):=aF;obtain⟨t1,t2,t3⟩:he.length<=1000000/\id<=9223372036854775807/\rg.length=8:=hT;have hb:0<=b/\b < 8:=hb;have hc:0<=c/\c < 8:=hc;have hv:8<=op/\op<=22:=hv;have ho1:op<=14/\op≠13->0<=obj/\obj < (mv.length:Int):=ho1;have ho2:18<=op/\op<=20->0<=obj/\obj < (mq.length:Int):=ho2;have ho3:op=13\/15<=op->ord=0:=ho3;have hb8:b.toNat < 8:=by omega
 have hc8:c.toNat < 8:=by omega
 refine⟨hb,hb8,λd hd=>⟨hc,hc8,λd1 hd1=>?_⟩⟩
 have eb:=SX hd;have ec:=SX hd1;refine ah.2 ⟨λg=>?_,λg=>?_⟩
 .have g:op<=14/\op≠13:=by simpa using g
  have g1:=ho1 g;refine⟨g1,λd2 h2=>?_⟩
  have ev:mv[obj.toNat]?.getD 0=d2:=by rw[h2];rfl
  have hop:op=8\/op=9\/op=10\/op=11\/op=12\/op=14:=by omega
  simp only[aO]
  repeat' (first | exact hP | (refine jO ?_) | (refine And.intro ?_ ?_) | (intro _))
  all_goals first | trivial | omega | (simp_all[labS,pG];done) | (simp_all[labS,pG,dY];done) | skip
 .have g:op<=14->op=13:=by simpa using g
  clear hb hc;have ho:ord=0:=ho3 (by omega)
  simp only[aO]
  repeat' (first | exact hP | exact hM | (refine jO ?_) | (refine And.intro ?_ ?_) | (intro _))
  all_goals first | trivial | omega | (simp_all[labS,pG];done) | skip
  have hop:op=18\/op=19\/op=20\/op=21\/op=22:=by omega
  rw[ho];rcases hop with e | e | e | e | e
  .subst e;show(if ph=0 then _ else if ph=1 then _ else _)=(if ph=0 then _ else if ph=1 then _ else _)
   split
   .rfl
   .split<;>rfl
  .subst e;show(_,_,_,_,_,_,_,jT 1 (mq[obj.toNat]?.getD []).length,_,_)=(_,_,_,_,_,_,_,jT (mq[obj.toNat]?.getD []).length 1,_,_);rw[show jT 1 ((mq[obj.toNat]?.getD []).length:Int)=jT (mq[obj.toNat]?.getD []).length 1 by unfold jT;split<;>split<;>omega]
  .subst e;rfl
  .subst e;rfl
  .subst e;rfl
theorem agN:aT aS.gd 44 Fj:=
 dQ (cx:=aS) (n:=113) (cl:=[(91,abU),(93,Nh),(92,JM),(94,abW)]) (rc:=[]) au ⟨TL,Sz,agH,agL,trivial⟩ Tryz.func44 λd hd=>by
  obtain⟨⟨th,⟨mv,mo,mq,mg,⟨⟩⟩,bf,⟨⟩⟩,⟨id,fn,pc,rg,st,ch,ph,su,fa,he,⟨⟩⟩,⟨op,a,b,c,obj,n,fo,ord,⟨⟩⟩,⟨⟩⟩:=d;exact aI (λ_=>none) (alZ th mv mo mq mg bf id fn pc rg st ch ph su fa he op a b c obj n fo ord hd) (by kernel_rfl)
abbrev abX:CT:={ ps:=[J6,dX,lG],pre:=λd=>jW d.1.2.1 d.2.1 d.2.2.1/\d.1.1.length<=1000000/\(0<=d.2.1.2.2.2.2.2.2.1/\d.2.1.2.2.2.2.2.2.1<=2),res:=λd=>([],vB (CX d.1.1 d.1.2.1 d.2.1 d.2.2.1)) }
theorem al0(th:List TD) (mv mo:List Int) (mq:List (List Int)) (mg:List Int) (bf:List BD) (id fn pc:Int) (rg:List Int) (st ch ph su fa:Int) (he:List Int) (op a b c obj n fo ord:Int) (aF:abX.pre ((th,(mv,mo,mq,mg,()),bf,()),(id,fn,pc,rg,st,ch,ph,su,fa,he,()),(op,a,b,c,obj,n,fo,ord,()),())):
 let z2:=(mv,mo,mq,mg,());let z1:=CX th z2 (id,fn,pc,rg,st,ch,ph,su,fa,he,()) (op,a,b,c,obj,n,fo,ord,());br (decide (op=14)) ((0<=obj/\obj < (mv.length:Int))/\∀(d:Int),mv[obj.toNat]?=some d->(0<=b/\b < 8)/\b.toNat < 8/\∀(dI:Int),rg[b.toNat]?=some dI->True/\qB z1 (!decide ((dY fo d dI).fst=0))) (br (decide (op=15)) (bG z2/\qB z1 (nH z2 obj)) (br (decide (op=18)) (br (decide (ph=1)) (mg.length<=1000000/\qB z1 (dP mg id)) (((!decide (ph=0))=true->bG z2)/\qB z1 (decide (ph=0) || nH z2 n))) (br (decide (op=22)) ((0<=b/\b < 8)/\b.toNat < 8/\∀(d:Int),rg[b.toNat]?=some d->th.length<=1000000/\qB z1 (VA th d)) (qB z1 true)))):=by
 conv=>zeta
 obtain⟨⟨hM,hf,hT⟩,hb,hc,hv,ho1,ho2,ho3⟩:jW (mv,mo,mq,mg,()) (id,fn,pc,rg,st,ch,ph,su,fa,he,()) (op,a,b,c,obj,n,fo,ord,()):=aF.1;obtain⟨t1,t2,t3⟩:he.length<=1000000/\id<=9223372036854775807/\rg.length=8:=hT;have hb:0<=b/\b < 8:=hb;have hc:0<=c/\c < 8:=hc;have hv:8<=op/\op<=22:=hv;have ho1:op<=14/\op≠13->0<=obj/\obj < (mv.length:Int):=ho1;have ho2:18<=op/\op<=20->0<=obj/\obj < (mq.length:Int):=ho2;have ho3:op=13\/15<=op->ord=0:=ho3;have hl:th.length<=1000000:=aF.2.1;have hp:0<=ph/\ph<=2:=aF.2.2;have hg:mg.length<=1000000:=by have:mg.length<=1000:=hM.2.2.2.1;omega
 have hb8:b.toNat < 8:=by omega
 refine aO.2 ⟨λe=>⟨ho1 (by omega),λd hd=>⟨hb,hb8,λd1 hd1=>⟨trivial,jC ?_⟩⟩⟩,λn1=>aO.2 ⟨λe=>⟨hM,jC ?_⟩,λn2=>aO.2 ⟨λe=>aO.2 ⟨λe2=>⟨hg,jC ?_⟩,λm1=>⟨λ_=>hM,jC ?_⟩⟩,λn3=>aO.2 ⟨λe=>⟨hb,hb8,λd hd=>⟨hl,jC ?_⟩⟩,λn4=>jC ?_⟩⟩⟩⟩
 .subst e;have e1:∀l m t,CX l m t (14,a,b,c,obj,n,fo,ord,())=decide ((dY fo (m.1[obj.toNat]?.getD 0) (t.2.2.2.1.getD b.toNat 0)).1≠0):=λ_ _ _=>rfl
  rw[e1,<-decide_not];show decide ((dY fo (mv[obj.toNat]?.getD 0) (rg.getD b.toNat 0)).1≠0)=_;rw[SX hd1,hd];rfl
 .subst e;rfl
 .subst e;subst e2;rfl
 .subst e;have e1:∀l m t,CX l m t (18,a,b,c,obj,n,fo,ord,())=if t.2.2.2.2.2.2.1=1 then dP m.2.2.2.1 t.1 else if t.2.2.2.2.2.2.1=2 then nH m n else true:=λ_ _ _=>rfl
  rw[e1];show(if ph=1 then _ else if ph=2 then _ else _)=_
  rw[if_neg m1]
  by_cases q:ph=2
  .rw[if_pos q,yh (by omega),NR]
  .rw[if_neg q,wV (by omega),NT]
 .subst e;have e1:∀l m t,CX l m t (22,a,b,c,obj,n,fo,ord,())=VA l (t.2.2.2.1.getD b.toNat 0):=λ_ _ _=>rfl
  rw[e1];show VA th (rg.getD b.toNat 0)=_;rw[SX hd]
 .show CX th _ _ _=_;unfold CX;rw[if_neg n1,if_neg n2,if_neg n3,if_neg n4]
theorem agO:aT aS.gd 47 abX:=
 dQ (cx:=aS) (n:=65) (cl:=[(91,abU),(93,Nh),(53,xU),(99,abV)]) (rc:=[]) au ⟨TL,Sz,agJ,agK,trivial⟩ Tryz.func47 λd hd=>by
  obtain⟨⟨th,⟨mv,mo,mq,mg,⟨⟩⟩,bf,⟨⟩⟩,⟨id,fn,pc,rg,st,ch,ph,su,fa,he,⟨⟩⟩,⟨op,a,b,c,obj,n,fo,ord,⟨⟩⟩,⟨⟩⟩:=d;exact aI (λ_=>none) (al0 th mv mo mq mg bf id fn pc rg st ch ph su fa he op a b c obj n fo ord hd) (by kernel_rfl)
theorem al1(vs:List VD) (ms cs:List ByteArray) (fs:List FD) (ts:List SD) (th:List TD) (mv mo:List Int) (mq:List (List Int)) (mg:List Int) (bf:List BD) (id:Int) (aF:Fp.pre ((vs,ms,cs,fs,ts,()),(th,(mv,mo,mq,mg,()),bf,()),id,())):
 let z8:=(mv,mo,mq,mg,());let z5:=nT vs ms cs fs ts th z8 bf id;let z2:=[BP (z5.fst),cB (z5.snd)];let z1:=rT z2 kq6;let z6:=0<=eG (λt=>decide (t.fst=id)) th;let z4:=!!decide z6;let z7:=eG (λt=>decide (t.fst=id)) th;let z3:=dO z7 (0:Int);((bnd ((vs,ms,cs,fs,ts,()),()))/\iH th/\bG z8)/\br (!vsB vs ms cs fs ts (32:Int) th z8 bf) z1 (th.length<=1000000/\(z4=true->0<=dO z7 (0:Int)/\dO z7 0 < (th.length:Int))/\∀(d:TD),(z4=true->th[z3.toNat]?=some d)->br (!decide z6 || !decide (d.snd.snd.snd.snd.snd.snd.snd.fst=1)) z1 ((0<=dO z7 (0:Int)/\dO z7 0 < (th.length:Int))/\∀(d:TD),th[z3.toNat]?=some d->(0<=d.snd.fst/\d.snd.fst < (fs.length:Int))/\∀(dI:FD),fs[Int.toNat d.snd.fst]?=some dI->(0<=d.snd.snd.fst/\d.snd.snd.fst < ((List.length dI.snd.fst):Int))/\∀(nS:ID),dI.snd.fst[Int.toNat d.snd.snd.fst]?=some nS->jW z8 d nS/\rT z2 [BP (labS z8 d nS),cB true])):=by
 conv=>zeta
 obtain⟨hb,hT,hM⟩:bnd ((vs,ms,cs,fs,ts,()),())/\iH th/\bG (mv,mo,mq,mg,()):=aF;have fin:∀{S:ED×Bool}{a:ED}{c:Bool},S=(a,c)->rT [BP S.1,cB S.2] [BP a,cB c]:=λh=>by subst h;exact⟨rfl,rfl⟩
 have hx:0<=eG (λt=>decide (t.1=id)) th->0<=dO (eG (λt=>decide (t.1=id)) th) 0/\dO (eG (λt=>decide (t.1=id)) th) 0 < (th.length:Int):=λq=>by
  obtain⟨k,t,q1,q2,q3,q4⟩:=kJ q;rw[q1];unfold dO;split<;>omega
 refine⟨⟨hb,hT,hM⟩,ah.2 ⟨λh=>fin ?_,λh=>⟨hT.1,λq=>hx (by simpa using q),λd hd=>?_⟩⟩⟩
 .have h:vsB vs ms cs fs ts 32 th (mv,mo,mq,mg,()) bf=false:=by simpa using h
  unfold nT;rw[h];rfl
 have hv:vsB vs ms cs fs ts 32 th (mv,mo,mq,mg,()) bf=true:=by simpa using h
 have hV:=jV.1 hv
 by_cases q:0<=eG (λt=>decide (t.1=id)) th
 .obtain⟨k,t,q1,q2,q3,q4⟩:=kJ q;have ek:(dO (eG (λt=>decide (t.1=id)) th) 0).toNat=k:=by rw[q1];unfold dO;split<;>omega
  have hd:=hd (by rw[wV q];rfl)
  rw[ek,q2]at hd;have ed:t=d:=Ia hd;subst ed;have hm:=ig q2;have hvl:=(hV.2.2.1 t hm).2;have hr:=agG (e:=(aG vs ms cs fs ts).1) (ms:=ms) (fs:=fs) (k:=k) q3;refine ah.2 ⟨λh2=>fin ?_,λh2=>⟨hx q,λd0 hd0=>?_⟩⟩
  .rw[wV q]at h2;have h2:¬t.2.2.2.2.2.2.2.1=1:=by simpa using h2
   unfold nT;rw[if_pos hv,hr,abS h2];rfl
  .rw[wV q]at h2;have h2:t.2.2.2.2.2.2.2.1=1:=by simpa using h2
   rw[ek,q2]at hd0;have ed:t=d0:=Ia hd0;subst ed;obtain⟨i,hi,hp⟩:=abR (rD hV.1).1 hvl h2;obtain⟨g1,g2⟩:=abT hvl hi;refine⟨g1,λd1 h1=>⟨(g2 d1 h1).1,λd2 h3=>?_⟩⟩
   have e2:d2=i:=(g2 d1 h1).2 d2 h3;subst e2;have hl:=zN hV.1 hM (hT.2 t hm) (by rw[show gK (aG vs ms cs fs ts).1 ms fs t=_ from hp])
   rw[show gK (aG vs ms cs fs ts).1 ms fs t=_ from hp]at hl hr
   refine⟨hl,fin ?_⟩;unfold nT;rw[if_pos hv,hr];rfl
 .rw[yh q];refine ah.2 ⟨λh2=>fin ?_,λh2=>by cases h2⟩
  have hr:jE (aG vs ms cs fs ts).1 ms fs th id=(zT,zI,false):=by unfold jE xY;rw[oZ q]
  unfold nT;rw[if_pos hv,hr];rfl
theorem agP:aT aS.gd 17 Fp:=
 dQ (cx:=aS) (n:=54) (cl:=[(28,JK),(43,wQ),(44,Fj)]) (rc:=[.keep,.keep]) au ⟨SN,SI,agN,trivial⟩ Tryz.func17 λd hd=>by
  obtain⟨⟨vs,ms,cs,fs,ts,⟨⟩⟩,⟨th,⟨mv,mo,mq,mg,⟨⟩⟩,bf,⟨⟩⟩,id,⟨⟩⟩:=d;exact aI (λ_=>none) (al1 vs ms cs fs ts th mv mo mq mg bf id hd) (by kernel_rfl)
abbrev aon(vs:List VD) (ms cs:List ByteArray) (fs:List FD) (ts:List SD) (th:List TD) (mv mo:List Int) (mq:List (List Int)) (mg:List Int) (bf:List BD):Nat->Option (St->jq):=λk=>match k with
 | 5=>some λ_=>.inv { α:=Nat,nil:=[(5,3,.int .i64)],slots:=λk=>[(6,.c (.v (.int .i64 k))),(5,.c (.row 2))],res:=λk=>[(2,.row 3 (.int .i64) (sO (aG vs ms cs fs ts).1 ms fs th (mv,mo,mq,mg,()) (th.take k)))],inv:=λk=>k<=th.length,meas:=λk=>th.length - k }
 | _=>none
theorem al2(vs:List VD) (ms cs:List ByteArray) (fs:List FD) (ts:List SD) (th:List TD) (mv mo:List Int) (mq:List (List Int)) (mg:List Int) (bf:List BD) (aF:xZ.pre ((vs,ms,cs,fs,ts,()),(th,(mv,mo,mq,mg,()),bf,()),())):
 let z7:=(mv,mo,mq,mg,());let z4:=aZ.one (SV.c (SC.sl I6 (wo vs ms cs fs ts th z7 bf)));let z8:=bP vs ms cs fs ts;let z6:=bZ th mv mo mq mg bf;let z2:=λ(x:Nat)=>sO (aG vs ms cs fs ts).fst ms fs th z7 (List.take x th);let z1:=λ(x:Nat)=>[g0 z8,g0 z6,g0 (ay.row 3 I6 (z2 x))];let z5:=λ(d:TD)=>d.snd.snd.snd.snd.snd.snd.snd.fst=1;let z3:=λ(x x':Nat)=>cI ((x:Int)+(1:Int))=cI (x':Int)/\sm (SV.c (SC.row 2))/\True;((bnd ((vs,ms,cs,fs,ts,()),()))/\iH th/\bG z7)/\br (!vsB vs ms cs fs ts (32:Int) th z7 bf) (rE z4 (aZ.one (SV.c (SC.sl I6 [])))) ((∃x,x<=th.length/\(cI 0=cI (x:Int)/\sm (SV.c (SC.row 2))/\True)/\[g0 z8,g0 z6,g0 (ay.row 3 I6 [])]=(z1 x))/\∀(x:Nat),x<=th.length->br (decide ((x:Int) < (th.length:Int))) ((0<=(x:Int)/\(x:Int) < (th.length:Int))/\∀(d:TD),th[(x:Int).toNat]?=some d->(decide (z5 d)=true->0<=d.snd.fst/\d.snd.fst < (fs.length:Int))/\∀(dI:FD),(decide (z5 d)=true->fs[Int.toNat d.snd.fst]?=some dI)->(decide (z5 d)=true->0<=d.snd.snd.fst/\d.snd.snd.fst < ((List.length dI.snd.fst):Int))/\∀(nS:ID),(decide (z5 d)=true->dI.snd.fst[Int.toNat d.snd.snd.fst]?=some nS)->(decide (z5 d)=true->jW z7 d nS/\th.length<=1000000/\0<=d.snd.snd.snd.snd.snd.snd.fst/\d.snd.snd.snd.snd.snd.snd.fst<=2)/\br (decide (z5 d) && CX th z7 d nS) (nO ((z2 x).length+[d.fst].length) 8/\iR ((x:Int)+(1:Int))/\∃x',x'<=th.length/\(z3 x x')/\[g0 z8,g0 z6,g0 (ay.row 3 I6 (sO (aG vs ms cs fs ts).fst ms fs th z7 (List.take x th)++[d.fst]))]=(z1 x')/\th.length - x' < th.length - x) (iR ((x:Int)+(1:Int))/\∃x',x'<=th.length/\(z3 x x')/\(z1 x)=(z1 x')/\th.length - x' < th.length - x)) (rE z4 (aZ.one (SV.c (SC.sl I6 (z2 x)))))):=by
 conv=>zeta
 delta iR;obtain⟨hb,⟨hl,hT⟩,hM⟩:bnd ((vs,ms,cs,fs,ts,()),())/\iH th/\bG (mv,mo,mq,mg,()):=aF;refine⟨⟨hb,⟨hl,hT⟩,hM⟩,ah.2 ⟨λh=>?_,λh=>⟨⟨0,by omega,⟨rfl,rfl,trivial⟩,by simp[sO]⟩,λk hk=>ah.2 ⟨λg=>?_,λg=>?_⟩⟩⟩⟩
 .have h:vsB vs ms cs fs ts 32 th (mv,mo,mq,mg,()) bf=false:=by simpa using h
  exact⟨rfl,by unfold wo;rw[h];rfl⟩
 .simp only[dH]at g;have hv:vsB vs ms cs fs ts 32 th (mv,mo,mq,mg,()) bf=true:=by simpa using h
  have hV:=jV.1 hv;have hle:(sO (aG vs ms cs fs ts).1 ms fs th (mv,mo,mq,mg,()) (th.take k)).length<=k:=by
   unfold sO;rw[VP];exact o8 (TR _ _) (by rw[kV];omega)
  refine⟨⟨by omega,by omega⟩,λd hd=>?_⟩
  have hd:th[k]?=some d:=hd;have hm:=ig hd;have hvl:=(hV.2.2.1 d hm).2
  by_cases su:d.2.2.2.2.2.2.2.1=1
  .obtain⟨i,hi,hp⟩:=abR (rD hV.1).1 hvl su;have hp:gK (aG vs ms cs fs ts).1 ms fs d=(i,true):=hp;obtain⟨g1,g2⟩:=abT hvl hi;refine⟨λ_=>g1,λd1 h1=>?_⟩
   have h1:=h1 (wV su);refine⟨λ_=>(g2 d1 h1).1,λd2 h2=>?_⟩
   have e2:d2=i:=(g2 d1 h1).2 d2 (h2 (wV su));subst e2;have hl2:=zN hV.1 hM (hT d hm) (by rw[hp])
   rw[hp]at hl2;have eT:Qc (aG vs ms cs fs ts).1 ms fs th (mv,mo,mq,mg,()) d=CX th (mv,mo,mq,mg,()) d d2:=by unfold Qc;rw[hp];rfl
   refine⟨λ_=>⟨hl2,hl,alT hvl⟩,ah.2 ⟨λg2=>⟨eF.2 (by simp only[wS,J3];omega),ak.2 (by omega),k+1,by omega,⟨rfl,rfl,trivial⟩,?_,by omega⟩,λg2=>⟨ak.2 (by omega),k+1,by omega,⟨rfl,rfl,trivial⟩,?_,by omega⟩⟩⟩
   all_goals rw[wV su,FB]at g2
   .rw[uT hd,if_pos (eT.trans g2)]
   .rw[uT hd,eT.trans g2];simp
  .refine⟨λq=>absurd (Qk q) su,λd1 _=>⟨λq=>absurd (Qk q) su,λd2 _=>⟨λq=>absurd (Qk q) su,ah.2 ⟨λg2=>(by rw[yh su]at g2;cases g2),λ_=>⟨ak.2 (by omega),k+1,by omega,⟨rfl,rfl,trivial⟩,?_,by omega⟩⟩⟩⟩⟩
   have eT:Qc (aG vs ms cs fs ts).1 ms fs th (mv,mo,mq,mg,()) d=false:=by unfold Qc;rw[abS su];rfl
   rw[uT hd,eT];simp
 .simp only[eH]at g;have hv:vsB vs ms cs fs ts 32 th (mv,mo,mq,mg,()) bf=true:=by simpa using h
  have ek:k=th.length:=by omega
  subst ek;rw[wu (o9 _)];exact⟨rfl,by unfold wo;rw[if_pos hv]⟩
theorem agQ:aT aS.gd 20 xZ:=
 dQ (cx:=aS) (n:=49) (cl:=[(28,JK),(47,abX)]) (rc:=[.data (.sl (.int .i64))]) au ⟨SN,agO,trivial⟩ Tryz.func20 λd hd=>by
  obtain⟨⟨vs,ms,cs,fs,ts,⟨⟩⟩,⟨th,⟨mv,mo,mq,mg,⟨⟩⟩,bf,⟨⟩⟩,⟨⟩⟩:=d;exact aI (aon vs ms cs fs ts th mv mo mq mg bf) (al2 vs ms cs fs ts th mv mo mq mg bf hd) (by kernel_rfl)
def Qi(z:ZD):Bool:=decide (z.1.length<=20) && decide (z.2.2.1.length<=20) && decide (z.2.1.1.length<=20) && decide (z.2.1.2.1.length<=20) && decide (z.2.1.2.2.1.length<=20) && decide (z.2.1.2.2.2.1.length<=40) &&
 z.1.all (λt=>decide (t.2.2.2.2.2.2.2.2.2.1.length<=20)) && z.2.2.1.all (λb=>decide (b.2.2.1.length<=40)) && z.2.1.2.2.1.all (λq=>decide (q.length<=40))
theorem zO{th:List TD}{mv mo:List Int}{mq:List (List Int)}{mg:List Int}:Qi (th,(mv,mo,mq,mg,()),bf,())=true↔(th.length<=20/\bf.length<=20/\mv.length<=20/\mo.length<=20/\mq.length<=20/\mg.length<=40)/\(∀t∈th,t.2.2.2.2.2.2.2.2.2.1.length<=20)/\(∀b∈bf,b.2.2.1.length<=40)/\∀q∈mq,q.length<=40:=by
 unfold Qi;simp only[bV,dH,Nz];constructor
 .rintro⟨⟨⟨⟨⟨⟨⟨⟨h1,h2⟩,h3⟩,h4⟩,h5⟩,h6⟩,h7⟩,h8⟩,h9⟩;exact⟨⟨h1,h2,h3,h4,h5,h6⟩,h7,h8,h9⟩
 .rintro⟨⟨h1,h2,h3,h4,h5,h6⟩,h7,h8,h9⟩;exact⟨⟨⟨⟨⟨⟨⟨⟨h1,h2⟩,h3⟩,h4⟩,h5⟩,h6⟩,h7⟩,h8⟩,h9⟩
abbrev ahC:CT:={ ps:=[J6],pre:=λd=>True,res:=λd=>([],vB (Qi d.1)) }
abbrev aoo(th:List TD) (mv mo:List Int) (mq:List (List Int)) (mg:List Int) (bf:List BD):Nat->Option (St->jq):=λk=>match k with
 | 4=>some λ_=>.inv { α:=Nat,slots:=λk=>[(3,.c (.v (.int .i64 k)))],res:=λ_=>[],inv:=λk=>k<=th.length/\∀j < k,∀t,th[j]?=some t->t.2.2.2.2.2.2.2.2.2.1.length<=20,meas:=λk=>th.length - k }
 | 9=>some λ_=>.inv { α:=Nat,slots:=λk=>[(4,.c (.v (.int .i64 k)))],res:=λ_=>[],inv:=λk=>k<=bf.length/\∀j < k,∀t,bf[j]?=some t->t.2.2.1.length<=40,meas:=λk=>bf.length - k }
 | 14=>some λ_=>.inv { α:=Nat,slots:=λk=>[(5,.c (.v (.int .i64 k)))],res:=λ_=>[],inv:=λk=>k<=mq.length/\∀j < k,∀t,mq[j]?=some t->t.length<=40,meas:=λk=>mq.length - k }
 | _=>none
theorem al3(th:List TD) (mv mo:List Int) (mq:List (List Int)) (mg:List Int) (bf:List BD):
 let z6:=Qi (th,(mv,mo,mq,mg,()),bf,());let z5:=qB z6 false;let z2:=λ(x:Nat)=>(x<=th.length/\∀(j:Nat),j < x->∀(t:TD),th[j]?=some t->t.snd.snd.snd.snd.snd.snd.snd.snd.snd.fst.length<=20);let z7:=λ(x:Nat)=>cI 0=cI (x:Int)/\True;let z8:=[g0 (bZ th mv mo mq mg bf)];let z9:=λ(x:Nat)=>(x:Int)+(1:Int);let z4:=λ(x x':Nat)=>cI (z9 x)=cI (x':Int)/\True;let z1:=λ(x:Nat)=>(x<=bf.length/\∀(j:Nat),j < x->∀(t:Int×Int×List (Int×Int×Unit)×Unit),bf[j]?=some t->t.snd.snd.fst.length<=40);let z3:=λ(x:Nat)=>(x<=mq.length/\∀(j:Nat),j < x->∀(t:List Int),mq[j]?=some t->t.length<=40);br (decide (20 < (th.length:Int)) || decide (20 < (bf.length:Int)) || decide (20 < (mv.length:Int)) || decide (20 < (mo.length:Int)) || decide (20 < (mq.length:Int)) || decide (40 < (mg.length:Int))) z5 ((∃x,(z2 x)/\(z7 x)/\sm z8)/\∀(x:Nat),(z2 x)->br (decide ((x:Int) < (th.length:Int))) ((0<=(x:Int)/\(x:Int) < (th.length:Int))/\∀(d:TD),th[(x:Int).toNat]?=some d->br (decide (20 < ((List.length d.snd.snd.snd.snd.snd.snd.snd.snd.snd.fst):Int))) z5 (iR (z9 x)/\∃x',(z2 x')/\(z4 x x')/\sm z8/\th.length - x' < th.length - x)) ((∃x,(z1 x)/\(z7 x)/\sm z8)/\∀(x:Nat),(z1 x)->br (decide ((x:Int) < (bf.length:Int))) ((0<=(x:Int)/\(x:Int) < (bf.length:Int))/\∀(d:BD),bf[(x:Int).toNat]?=some d->br (decide (40 < ((List.length d.snd.snd.fst):Int))) z5 (iR (z9 x)/\∃x',(z1 x')/\(z4 x x')/\sm z8/\bf.length - x' < bf.length - x)) ((∃x,(z3 x)/\(z7 x)/\sm z8)/\∀(x:Nat),(z3 x)->br (decide ((x:Int) < (mq.length:Int))) ((0<=(x:Int)/\(x:Int) < (mq.length:Int))/\∀(d:List Int),mq[(x:Int).toNat]?=some d->br (decide (40 < (d.length:Int))) z5 (iR (z9 x)/\∃x',(z3 x')/\(z4 x x')/\sm z8/\mq.length - x' < mq.length - x)) (qB z6 true)))):=by
 conv=>zeta
 delta iR;refine ah.2 ⟨λh=>jC (VH.2 λq=>?_),λh=>?_⟩
 .have:=(zO.1 q).1;simp only[wz,dH]at h;omega
 have hN:th.length<=20/\bf.length<=20/\mv.length<=20/\mo.length<=20/\mq.length<=20/\mg.length<=40:=by
  simp only[lX,eH]at h;omega
 refine⟨⟨0,⟨by omega,λj hj=>by omega⟩,⟨rfl,trivial⟩,rfl⟩,λk hk=>ah.2 ⟨λg=>?_,λg=>?_⟩⟩
 .simp only[dH]at g;refine⟨⟨by omega,by omega⟩,λd hd=>ah.2 ⟨λg2=>jC (VH.2 λq=>?_),λg2=>⟨ak.2 (by omega),k+1,⟨by omega,λj hj t ht=>?_⟩,⟨rfl,trivial⟩,rfl,by omega⟩⟩⟩
  .have hd:th[k]?=some d:=hd;have:=(zO.1 q).2.1 d (ig hd);simp only[dH]at g2;omega
  .by_cases gQ:j=k
   .subst gQ;have hd:th[j]?=some d:=hd;rw[hd]at ht;cases ht;simp only[eH]at g2;omega
   .exact hk.2 j (by omega) t ht
 simp only[eH]at g;have ath:∀t∈th,t.2.2.2.2.2.2.2.2.2.1.length<=20:=by
  intro t ht;obtain⟨j,hj⟩:=VT.1 ht;exact hk.2 j (by have:=(A8.1 hj).1;omega) t hj
 clear g hk;refine⟨⟨0,⟨by omega,λj hj=>by omega⟩,⟨rfl,trivial⟩,rfl⟩,λk hk=>ah.2 ⟨λg=>?_,λg=>?_⟩⟩
 .simp only[dH]at g;refine⟨⟨by omega,by omega⟩,λd hd=>ah.2 ⟨λg2=>jC (VH.2 λq=>?_),λg2=>⟨ak.2 (by omega),k+1,⟨by omega,λj hj t ht=>?_⟩,⟨rfl,trivial⟩,rfl,by omega⟩⟩⟩
  .have hd:bf[k]?=some d:=hd;have:=(zO.1 q).2.2.1 d (ig hd);simp only[dH]at g2;omega
  .by_cases gQ:j=k
   .subst gQ;have hd:bf[j]?=some d:=hd;rw[hd]at ht;cases ht;simp only[eH]at g2;omega
   .exact hk.2 j (by omega) t ht
 simp only[eH]at g;have abf:∀t∈bf,t.2.2.1.length<=40:=by
  intro t ht;obtain⟨j,hj⟩:=VT.1 ht;exact hk.2 j (by have:=(A8.1 hj).1;omega) t hj
 clear g hk;refine⟨⟨0,⟨by omega,λj hj=>by omega⟩,⟨rfl,trivial⟩,rfl⟩,λk hk=>ah.2 ⟨λg=>?_,λg=>?_⟩⟩
 .simp only[dH]at g;refine⟨⟨by omega,by omega⟩,λd hd=>ah.2 ⟨λg2=>jC (VH.2 λq=>?_),λg2=>⟨ak.2 (by omega),k+1,⟨by omega,λj hj t ht=>?_⟩,⟨rfl,trivial⟩,rfl,by omega⟩⟩⟩
  .have hd:mq[k]?=some d:=hd;have:=(zO.1 q).2.2.2 d (ig hd);simp only[dH]at g2;omega
  .by_cases gQ:j=k
   .subst gQ;have hd:mq[j]?=some d:=hd;rw[hd]at ht;cases ht;simp only[eH]at g2;omega
   .exact hk.2 j (by omega) t ht
 simp only[eH]at g;have amq:∀t∈mq,t.length<=40:=by
  intro t ht;obtain⟨j,hj⟩:=VT.1 ht;exact hk.2 j (by have:=(A8.1 hj).1;omega) t hj
 clear g hk;exact jC (zO.2 ⟨hN,ath,abf,amq⟩)
theorem agR:aT aS.gd 15 ahC:=
 dQ (cx:=aS) (n:=90) (cl:=[]) (rc:=[]) au trivial Tryz.func15 λd hd=>by
  obtain⟨⟨th,⟨mv,mo,mq,mg,⟨⟩⟩,bf,⟨⟩⟩,⟨⟩⟩:=d;exact aI (aoo th mv mo mq mg bf) (al3 th mv mo mq mg bf) (by kernel_rfl)
end
end Go.Proofs.YtjhenjhcbcalpaaGreatDoor
