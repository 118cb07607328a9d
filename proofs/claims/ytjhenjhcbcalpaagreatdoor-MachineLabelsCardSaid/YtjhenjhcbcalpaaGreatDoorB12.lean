/- Part 12 of the proof. Conditions: the rows'. -/
import Derived.Test.YtjhenjhcbcalpaaGreatDoorB11
set_option linter.unusedSimpArgs false
set_option linter.unusedVariables false
set_option maxRecDepth 1000000
set_option maxHeartbeats 8000000
namespace Go.Proofs.YtjhenjhcbcalpaaGreatDoor
open Go Go.jf
noncomputable section
variable {bf:List BD}{e id bound b c:Int}{l:List TD}{m:MD}{t:TD}{i:ID}{vs:List VD}{ms cs:List ByteArray}{fs:List FD}{ts:List SD}
abbrev cxR:Cx:={ ti:=tis,gd:=gd0,rt:=true }
def insL(l:List TD) (id:Int) (u:TD):List TD:=l.takeWhile (λt=>decide (t.1 < id))++[u]++l.dropWhile (λt=>decide (t.1 < id))
def sU(e:Int) (fs:List FD) (bound:Int) (z:ZD) (id fn arg:Int):ZD×Int:=
 if 0<=eU (λt=>decide (t.1=id)) z.1 then(zZ,30) else if(newS e fs bound id fn arg).2≠0 then(zZ,30) else((insL z.1 id (newS e fs bound id fn arg).1,z.2),0)
theorem Df{S:ZD×Int}{L:List TD}{mv mo:List Int}{mq:List (List Int)}{mg:List Int} (h:S=((L,(mv,mo,mq,mg,()),bf,()),e)):[ay.row 56 dX S.1.1]=[ay.row 56 dX L]/\aZ.gV [.agg [.row 0,.sl I6 S.1.2.1.1,.sl I6 S.1.2.1.2.1,.sl I6.sl S.1.2.1.2.2.1,.sl I6 S.1.2.1.2.2.2.1,.sl CZ S.1.2.2.1],cI S.2]=aZ.gV [.agg [.row 0,.sl I6 mv,.sl I6 mo,.sl I6.sl mq,.sl I6 mg,.sl CZ bf],cI e]:=by
 subst h;exact⟨rfl,rfl⟩
def Gm(l:List TD) (x:Nat):List TD:=List.take (List.length (List.replicate ((l.length:Int)+(1:Int)).toNat zR)) (List.drop 0 (List.take (x:Int).toNat l))++List.drop (List.length (List.drop 0 (List.take (x:Int).toNat l))) (List.replicate ((l.length:Int)+(1:Int)).toNat zR)
theorem TB{x:Nat} (h:x<=l.length):Gm l x=l.take x++List.replicate (l.length+1 - x) zR:=by
 unfold Gm;have e:((l.length:Int)+(1:Int)).toNat=l.length+1:=by omega
 rw[e,J6,NR,A95,wB (by rw[kX];omega),kX,Ih h,List.drop_replicate]
theorem Nv{x:Nat} (h:x<=l.length):(Gm l x).length=l.length+1:=by
 rw[TB h,kC,kX,J6];omega
theorem agy{x:Nat} (h:x<=l.length) (u:TD):List.take ((x:Int)+(1:Int)).toNat ((Gm l x).set (x:Int).toNat u)++(List.take (List.length ((Gm l x).set (x:Int).toNat u) - ((x:Int)+(1:Int)).toNat) (List.drop (x:Int).toNat (List.take (l.length:Int).toNat l))++List.drop (List.length (List.drop (x:Int).toNat (List.take (l.length:Int).toNat l))) (List.drop ((x:Int)+(1:Int)).toNat ((Gm l x).set (x:Int).toNat u)))=l.take x++[u]++l.drop x:=by
 have e:((x:Int)+(1:Int)).toNat=x+1:=by omega
 have hl:(l.take x).length=x:=by rw[kX];omega
 have hs:(Gm l x).set x u=l.take x++[u]++List.replicate (l.length - x) zR:=by
  rw[TB h,show l.length+1 - x=l.length - x+1 by omega,V3,acy _ _ (by omega),hl,V8,V4,zX];rfl
 have hn:(l.take x++[u]).length=x+1:=by rw[kC,hl];rfl
 rw[e,A95,A95,V5,wW,Nv h,hs];have a1:List.take (x+1) (l.take x++[u]++List.replicate (l.length - x) zR)=l.take x++[u]:=by
  rw[A83 (by omega),wB (by omega)]
 have a2:List.drop (x+1) (l.take x++[u]++List.replicate (l.length - x) zR)=List.replicate (l.length - x) zR:=by
  rw[A97 (by omega),VK (by omega),TS]
 have a3:List.take (l.length+1 - (x+1)) (List.drop x l)=List.drop x l:=wB (by rw[yj];omega)
 have a4:List.drop (List.drop x l).length (List.replicate (l.length - x) zR)=[]:=VK (by rw[J6,yj];omega)
 rw[a1,a2,a3,a4,Qo]
theorem aom{x:Nat}{p:TD->Bool} (h:x<=l.length) (h1:∀(j:Nat),j < x->∀t,l[j]?=some t->p t=true) (h2:∀t,l[x]?=some t->p t=false):l.takeWhile p=l.take x/\l.dropWhile p=l.drop x:=by
 induction l generalizing x with
 | nil=>simp
 | cons a l ih=>
   cases x with
   | zero=>
     have:=h2 a rfl;simp[this]
   | succ x=>
     have ha:=h1 0 (by omega) a rfl
     have:=ih (x:=x) (by simpa using h) (λj hj t ht=>h1 (j+1) (by omega) t (by simpa using ht)) (λt ht=>h2 t (by simpa using ht))
     simp[ha,this]
theorem agz{x:Nat} (h:x<=l.length) (h1:∀(j:Nat),j < x->∀t,l[j]?=some t->t.1 < id) (h2:∀t,l[x]?=some t->¬t.1 < id) (u:TD):insL l id u=l.take x++[u]++l.drop x:=by
 have:=aom (p:=λt=>decide (t.1 < id)) h (λj hj t ht=>by simpa using h1 j hj t ht) (λt ht=>by simpa using h2 t ht)
 unfold insL;rw[this.1,this.2]
abbrev abJ:CT:={ ps:=[o9,.int .i64,Kr,.int .i64,.int .i64,.int .i64],pre:=λd=>bnd (d.1,())/\iJ d.2.2.1.1/\d.2.2.2.1<=9223372036854775807,res:=λd=>([.row 56 dX (sU (aG d.1.1 d.1.2.1 d.1.2.2.1 d.1.2.2.2.1 d.1.2.2.2.2.1).1 d.1.2.2.2.1 d.2.1 d.2.2.1 d.2.2.2.1 d.2.2.2.2.1 d.2.2.2.2.2.1).1.1],.gV [.agg [.row 0,.sl (.int .i64) ((sU (aG d.1.1 d.1.2.1 d.1.2.2.1 d.1.2.2.2.1 d.1.2.2.2.2.1).1 d.1.2.2.2.1 d.2.1 d.2.2.1 d.2.2.2.1 d.2.2.2.2.1 d.2.2.2.2.2.1).1).2.1.1,.sl (.int .i64) ((sU (aG d.1.1 d.1.2.1 d.1.2.2.1 d.1.2.2.2.1 d.1.2.2.2.2.1).1 d.1.2.2.2.1 d.2.1 d.2.2.1 d.2.2.2.1 d.2.2.2.2.1 d.2.2.2.2.2.1).1).2.1.2.1,.sl (.sl (.int .i64)) ((sU (aG d.1.1 d.1.2.1 d.1.2.2.1 d.1.2.2.2.1 d.1.2.2.2.2.1).1 d.1.2.2.2.1 d.2.1 d.2.2.1 d.2.2.2.1 d.2.2.2.2.1 d.2.2.2.2.2.1).1).2.1.2.2.1,.sl (.int .i64) ((sU (aG d.1.1 d.1.2.1 d.1.2.2.1 d.1.2.2.2.1 d.1.2.2.2.2.1).1 d.1.2.2.2.1 d.2.1 d.2.2.1 d.2.2.2.1 d.2.2.2.2.1 d.2.2.2.2.2.1).1).2.1.2.2.2.1,.sl CZ ((sU (aG d.1.1 d.1.2.1 d.1.2.2.1 d.1.2.2.2.1 d.1.2.2.2.2.1).1 d.1.2.2.2.1 d.2.1 d.2.2.1 d.2.2.2.1 d.2.2.2.2.1 d.2.2.2.2.2.1).1).2.2.1],.c (.v (.int .i64 ((sU (aG d.1.1 d.1.2.1 d.1.2.2.1 d.1.2.2.2.1 d.1.2.2.2.2.1).1 d.1.2.2.2.1 d.2.1 d.2.2.1 d.2.2.2.1 d.2.2.2.2.1 d.2.2.2.2.2.1).2)))]) }
abbrev aon(vs:List VD) (ms cs:List ByteArray) (fs:List FD) (ts:List SD) (bound:Int) (th:List TD) (mv mo:List Int) (mq:List (List Int)) (mg:List Int) (bf:List BD) (id fn arg:Int):Nat->Option (St->jv):=λk=>match k with
 | 8=>some λ_=>.inv { α:=Nat,slots:=λk=>[(18,.c (.v (.int .i64 k)))],res:=λ_=>[],inv:=λk=>k<=th.length/\∀j < k,∀t,th[j]?=some t->t.1 < id,meas:=λk=>th.length - k }
 | _=>none
theorem alN(vs:List VD) (ms cs:List ByteArray) (fs:List FD) (ts:List SD) (bound:Int) (th:List TD) (mv mo:List Int) (mq:List (List Int)) (mg:List Int) (bf:List BD) (id fn arg:Int) (aF:abJ.pre ((vs,ms,cs,fs,ts,()),bound,(th,(mv,mo,mq,mg,()),bf,()),id,fn,arg,())):
 let z10:=sU (aG vs ms cs fs ts).fst fs bound (th,(mv,mo,mq,mg,()),bf,()) id fn arg;let z5:=[ay.row 56 dX z10.fst.fst];let z1:=[SV.agg [SC.row 0,SC.sl I6 z10.fst.snd.fst.fst,SC.sl I6 z10.fst.snd.fst.snd.fst,SC.sl I6.sl z10.fst.snd.fst.snd.snd.fst,SC.sl I6 z10.fst.snd.fst.snd.snd.snd.fst,SC.sl CZ z10.fst.snd.snd.fst],cI (z10.snd)];let z6:=z5=[ay.row 56 dX []]/\aZ.gV z1=aZ.gV [SV.agg [SC.row 0,SC.sl I6 [],SC.sl I6 [],SC.sl I6.sl [],SC.sl I6 [],SC.sl CZ []],cI 30];let z13:=newS (aG vs ms cs fs ts).fst fs bound id fn arg;let z11:=λ(x:Nat)=>(x<=th.length/\∀(j:Nat),j < x->∀(t:TD),th[j]?=some t->t.fst < id);let z4:=[g0 (bP vs ms cs fs ts),g0 (bZ th mv mo mq mg bf),g0 (ay.blk 37 Bc),g0 (ay.obj 56 dX z13.fst)];let wo:=λ(x:Nat)=>(x:Int) < (th.length:Int);let NJ:=λ(x:Nat)=>(x:Int)+(1:Int);let sO:=(th.length:Int)+(1:Int);let z9:=λ(x:Nat)=>(Gm th x).set (x:Int).toNat z13.fst;let z3:=λ(x:Nat)=>0<=(x:Int)+(1:Int)/\(x:Int)+1<=(↑(z9 x).length:Int);let z7:=λ(x:Nat)=>0<=(x:Int)/\(x:Int)<=(th.length:Int)/\(th.length:Int)<=(th.length:Int);let z12:=λ(x:Nat)=>List.drop (x:Int).toNat (List.take (th.length:Int).toNat th);let z2:=λ(x:Nat)=>[ay.row 56 dX (List.take (NJ x).toNat (z9 x)++(List.take ((z9 x).length - (NJ x).toNat) (z12 x)++List.drop (z12 x).length (List.drop (NJ x).toNat (z9 x))))];let z8:=[SV.agg [SC.row 0,SC.sl I6 mv,SC.sl I6 mo,SC.sl I6.sl mq,SC.sl I6 mg,SC.sl CZ bf],cI 0];th.length<=1000000/\br (decide (0<=eU (λt=>decide (t.fst=id)) th)) z6 (((bnd ((vs,ms,cs,fs,ts,()),()))/\id<=9223372036854775807)/\br (!decide (z13.snd=0)) z6 ((∃x,(z11 x)/\(cI 0=cI (x:Int)/\True)/\sm z4)/\∀(x:Nat),(z11 x)->(decide (wo x)=true->0<=(x:Int)/\(x:Int) < (th.length:Int))/\∀(d:TD),(decide (wo x)=true->th[(x:Int).toNat]?=some d)->br (decide (wo x) && decide (d.fst < id)) (iR (NJ x)/\∃x',(z11 x')/\(cI (NJ x)=cI (x':Int)/\True)/\sm z4/\th.length - x' < th.length - x) (iR sO/\(0<=(th.length:Int)+(1:Int)/\(th.length:Int)+1<=(th.length:Int)+(1:Int)/\nR sO.toNat 152)/\((0:Int)<=(0:Int)/\0<=(x:Int)/\(x:Int)<=(th.length:Int))/\(0<=(x:Int)/\(x:Int) < (↑(Gm th x).length:Int))/\(x:Int).toNat < (Gm th x).length/\iR (NJ x)/\((z3 x)/\(z7 x)/\z5=(z2 x)/\aZ.gV z1=aZ.gV z8)/\(z7 x)/\(z3 x)/\z5=(z2 x)/\aZ.gV z1=aZ.gV z8))):=by
 conv=>zeta
 delta Bc iR iN;obtain⟨hb,⟨hl,hT⟩,hid⟩:bnd ((vs,ms,cs,fs,ts,()),())/\iJ th/\id<=9223372036854775807:=aF;refine⟨hl,ah.2 ⟨λh=>Df ?_,λh=>⟨⟨hb,hid⟩,ah.2 ⟨λh2=>Df ?_,λh2=>⟨⟨0,⟨by omega,λj hj=>by omega⟩,⟨rfl,trivial⟩,rfl⟩,λx hx=>⟨λg=>⟨by omega,by simpa using g⟩,λd hd=>ah.2 ⟨λg=>?_,λg=>?_⟩⟩⟩⟩⟩⟩⟩
 .unfold sU;rw[if_pos (Qn h)];rfl
 .have h:=Ua h;unfold sU;rw[if_neg h,if_pos (by simpa using h2)];rfl
 .simp only[bY,dH]at g;have hd:=hd (by simpa using g.1)
  rw[A95]at hd;refine⟨ak.2 (by omega),x+1,⟨by omega,λj hj t ht=>?_⟩,⟨rfl,trivial⟩,rfl,by omega⟩
  by_cases q:j=x
  .subst q;rw[hd]at ht;cases ht;exact g.2
  .exact hx.2 j (by omega) t ht
 .have hn:=Nv hx.1;have hf:sU (aG vs ms cs fs ts).1 fs bound (th,(mv,mo,mq,mg,()),bf,()) id fn arg=((th.take x++[(newS (aG vs ms cs fs ts).1 fs bound id fn arg).1]++th.drop x,(mv,mo,mq,mg,()),bf,()),0):=by
   have h:=Ua h;unfold sU;rw[if_neg h,if_neg (by simpa using h2),agz hx.1 hx.2 (λt ht=>?_)]
   have iQ:x < th.length:=(A8.1 ht).1;have hd:=hd (by simpa using iQ)
   rw[A95,ht]at hd;cases hd;simp only[A70,eX]at g;omega
  rw[agy hx.1];rw[wW,hn,A95];refine⟨ak.2 (by omega),⟨by omega,by omega,eH.2 (by omega)⟩,⟨by omega,by omega,by omega⟩,⟨by omega,by omega⟩,by omega,ak.2 (by omega),⟨⟨by omega,by omega⟩,⟨by omega,by omega,by omega⟩,Df hf⟩,⟨by omega,by omega,by omega⟩,⟨by omega,by omega⟩,Df hf⟩
theorem agA:aU cxR.gd 50 abJ:=
 dQ (cx:=cxR) (n:=85) (cl:=[(52,wS),(34,RY)]) (rc:=[.hd 56 dX shR,.keep]) au ⟨Dc,RZ,trivial⟩ Tryz.func50 λd hd=>by
  obtain⟨⟨vs,ms,cs,fs,ts,⟨⟩⟩,bound,⟨th,⟨mv,mo,mq,mg,⟨⟩⟩,bf,⟨⟩⟩,id,fn,arg,⟨⟩⟩:=d;exact aJ (aon vs ms cs fs ts bound th mv mo mq mg bf id fn arg) (alN vs ms cs fs ts bound th mv mo mq mg bf id fn arg hd) (by kernel_rfl)
def stT(l:List TD) (id:Int) (u:TD):List TD:=l.set (dO (eU (λt=>decide (t.1=id)) l) 0).toNat u
def rH(vs:List VD) (ms cs:List ByteArray) (fs:List FD) (ts:List SD) (bound:Int) (z:ZD) (id:Int):ZD×ED×Int:=
 if dG (aG vs ms cs fs ts).1 bound≠0 then(zZ,zE,dG (aG vs ms cs fs ts).1 bound)
 else if vsB vs ms cs fs ts bound z.1 z.2.1 z.2.2.1=false then(zZ,zE,1)
 else match jH (aG vs ms cs fs ts).1 ms fs z.1 id with
 | (t,i,ok)=>if(ok && C9 z.1 z.2.1 t i)=false then(zZ,zE,19)
   else if(lS z.2.1 (labS z.2.1 t i)).2≠0 then(zZ,zE,30)
   else if(labS z.2.1 t i).2.2.1=16/\0<=eU (λu=>decide (u.1=(labS z.2.1 t i).2.2.2.1)) z.1 then(zZ,zE,30)
   else((stT (if(labS z.2.1 t i).2.2.1=16 then insL z.1 (labS z.2.1 t i).2.2.2.1 (newS (aG vs ms cs fs ts).1 fs bound (labS z.2.1 t i).2.2.2.1 i.2.2.2.2.1 (t.2.2.2.1.getD i.2.2.1.toNat 0)).1 else z.1) id
    (kW (aG vs ms cs fs ts).1 ms fs bound t (Ba i (labS z.2.1 t i))).1,(lS z.2.1 (labS z.2.1 t i)).1,[],()),labS z.2.1 t i,0)
theorem abK(m:MD) (t:TD) (i:ID):(labS m t i).1=t.1:=by
 have key:∀(c:Prop) [Decidable c] (a b:ED),a.1=t.1->b.1=t.1->(if c then a else b).1=t.1:=by
  intro c _ a b ha hb;split
  .exact ha
  .exact hb
 unfold labS
 repeat' (first | rfl | (apply key))
theorem TF(hv:8<=i.1/\i.1<=22):(labS m t i).2.2.1=16↔i.1=21:=by
 have key:∀(c:Prop) [Decidable c] (a b:ED),¬a.2.2.1=16->¬b.2.2.1=16->¬(if c then a else b).2.2.1=16:=by
  intro c _ a b ha hb;split
  .exact ha
  .exact hb
 constructor
 .intro h
  by_cases q:i.1=21
  .exact q
  .exfalso;revert h;unfold labS;rw[if_neg q]
   repeat' (first | (apply key) | simp)
 .intro h;unfold labS;simp[h]
theorem TG(h:i.1=21):(labS m t i).2.2.2.1=(cO t.1 t.2.2.2.2.2.1).1:=by
 unfold labS;simp[h]
theorem agB{i f t:Int} (h:uV m=true):uV (jP m i id f t).1=true:=by
 unfold jP;split
 .split
  .rfl
  .split
   .obtain⟨vs,os,qs,sg,⟨⟩⟩:=m;unfold uV at h ⊢
    simpa using h
   .rfl
 .rfl
theorem agC(h:uV m=true) (e:ED):bI (lS m e).1:=by
 have hw:∀x v,bI (writeM m x v).1:=by
  intro x v;unfold writeM
  repeat' split
  all_goals first | exact FC | skip
  obtain⟨h1,h2⟩:=vY h;exact⟨by rw[wW];exact h1,h2⟩
 unfold lS
 repeat' split
 all_goals first | exact hw _ _ | exact JX (vY h) | exact agx (agB h) | exact abI h | exact alM h | exact vY h
theorem Qh(hV:VS vs ms cs fs ts bound l m bf) (hM:bI m) (hT:iJ l) (h:jH (aG vs ms cs fs ts).1 ms fs l id=(t,i,true)):
 t∈l/\t.1=id/\jX m t i/\mZ fs t.2.1 t.2.2.1=some i/\t.2.2.2.2.2.2.2.1=1/\uh ms fs bound t:=by
 unfold jH at h;cases ef:yc l id with
 | none=>rw[ef]at h;cases h
 | some u=>
   rw[ef]at h;simp only[Ij]at h;obtain⟨h1,h2,h3⟩:=h;subst h1;have hm:=List.mem_of_find?_eq_some ef;have hp:=zO hV.1 hM (hT.2 u hm) h3;have hq:=Ns h3;rw[h2]at hp hq;exact⟨hm,by simpa using V6 ef,hp,hq.2.2.2,hq.2.1,(hV.2.2.1 u hm).2⟩
theorem sV{S:ZD×ED×Int}{a:ZD}{b:ED} (h:S=(a,b,c)):rT [Ia S.1,BK S.2.1,cI S.2.2] [Ia a,BK b,cI c]:=by subst h;exact⟨rfl,rfl⟩
theorem JY(hs:dG (aG vs ms cs fs ts).1 bound=0) (hV:uh ms fs bound t) (h1:t.2.2.2.2.2.2.2.1=1) (ha:mZ fs t.2.1 t.2.2.1=some i) (hi:i.1=21) (hl:t.2.2.2.1.length=8):
 (cO t.1 t.2.2.2.2.2.1).2=true/\(newS (aG vs ms cs fs ts).1 fs bound (cO t.1 t.2.2.2.2.2.1).1 i.2.2.2.2.1 (t.2.2.2.1.getD i.2.2.1.toNat 0)).2=0:=by
 have hz:=iw.1 hs;obtain⟨_,_,j,hj,vj,oj⟩:=AV hV h1;rw[ha]at hj;cases hj;have hf:=oV hV;obtain⟨k1,k2,k3,k4⟩:=ql (BG hz.1 (AY hf).1 ha);obtain⟨r1,r2,r3,r4⟩:=kV k1;obtain⟨id,fn,pc,rg,st,ch,ph,su,fa,he,u⟩:=t;have hl:rg.length=8:=hl;obtain⟨f1,f2,f3,f4,f5,f6,f7,f8,f9⟩:=hf;have hph:ph=0:=by
  rcases f9 with q | ⟨_,i',q1,q2,_⟩
  .exact q
  .have ha:mZ fs fn pc=some i:=ha;rw[ha]at q1;cases q1;omega
 have oj:jy id ch ph he i=0:=oj;have hc:(cO id ch).2=true:=by
  unfold jy at oj;rw[if_neg (by omega),if_neg (by omega),if_neg (by omega),if_pos hi]at oj
  by_cases q:(cO id ch).2=true
  .exact q
  .rw[if_neg q]at oj;cases oj
 refine⟨hc,?_⟩;have hd:¬aV (cO id ch).1 < 0:=by
  unfold cO at hc ⊢;split at hc
  .cases hc
  .rename_i q;rw[if_neg q];have:=BF (id:=id) (ch:=ch) (by omega) (by omega) (by omega) (by omega)
   show¬aV (8 * (id+1)+ch) < 0;omega
 have ho:oQ vs ms cs fs i.1=fs.length:=by unfold oQ;rw[hi];simp
 rw[ho]at k2;have k2:=k2 (by omega)
 have hv:bW (rg.getD i.2.2.1.toNat 0)=true:=by
  have iQ:i.2.2.1.toNat < rg.length:=by omega
  rw[J5,lN iQ];exact f4 _ (by omega) _ (lN iQ)
 show(newS _ _ _ (cO id ch).1 _ _).2=0;unfold newS;rw[if_neg (by omega),if_neg hd,if_neg (by omega),if_neg (by show¬bW (rg.getD i.2.2.1.toNat 0)=false;rw[hv];simp)]
theorem TJ(hf:dW m=true) (hc:i.1=21->(cO t.1 t.2.2.2.2.2.1).2=true):bW (Ba i (labS m t i))=true:=by
 have hv:∀x:Int,bW (m.1[x.toNat]?.getD 0)=true:=by
  intro x;cases hx:m.1[x.toNat]? with
  | none=>rfl
  | some v=>exact(fK.1 hf).2.2.2.2.1 v (iy hx)
 have hch:i.1=21->bW (cO t.1 t.2.2.2.2.2.1).1=true:=by
  intro q;obtain⟨_,_,_,_,c1,_,c2,_⟩:=MV (hc q);exact oW.2 ⟨by omega,by omega⟩
 have key:∀(c:Prop) [Decidable c] (a b:ED),(c->bW (Ba i a)=true)->(¬c->bW (Ba i b)=true)->bW (Ba i (if c then a else b))=true:=by
  intro c _ a b ha hb;split
  .exact ha (by assumption)
  .exact hb (by assumption)
 have k1:∀b:Bool,bW (if Gj b=0 then 0 else 1)=true:=by intro b;cases b<;>rfl
 unfold labS
 repeat' (refine key _ _ _ (λ_=>?_) (λ_=>?_))
 all_goals (try first | exact hv _ | rfl | exact k1 _ | (apply hch;assumption))
 all_goals (unfold Ba;try simp only)
 all_goals first | exact hv _ | rfl | exact k1 _ | (apply hch;assumption) | (rw[if_pos trivial,if_pos (by assumption)];rfl) | (simp_all;done) | skip
theorem Nw{r:Int} (hs:dG e bound=0) (hV:uh ms fs bound t) (h1:t.2.2.2.2.2.2.2.1=1) (hr:bW r=true):(kW e ms fs bound t r).2=0:=by
 unfold kW;rw[if_neg (by omega),if_neg (by simpa using hV),if_neg (by omega),if_neg (by rw[hr];simp)]
theorem alO(h:∃t∈l,t.1=id):(0<=dO (eU (λt=>decide (t.1=id)) l) 0/\dO (eU (λt=>decide (t.1=id)) l) 0 < (l.length:Int))/\(dO (eU (λt=>decide (t.1=id)) l) 0).toNat < l.length:=by
 have q:0<=eU (λt=>decide (t.1=id)) l:=by
  refine J8.1 λq=>?_
  obtain⟨t,ht,e⟩:=h;have:=A90.1 (o8 q) t ht;simp[e]at this
 obtain⟨k,t,q1,q2,q3,q4⟩:=kL q;have e:dO (eU (λt=>decide (t.1=id)) l) 0=k:=by rw[q1];unfold dO;split<;>omega
 rw[e];omega
theorem Ny{u:TD} (h:t∈l):t∈insL l id u:=by
 unfold insL;rw[<-A92 (p:=λt=>decide (t.1 < id)) (l:=l)]at h
 simp only[FI,A82]at h ⊢
 rcases h with h | h
 .exact .inl (.inl h)
 .exact .inr h
theorem abL(l:List TD) (id:Int) (u:TD):(insL l id u).length=l.length+1:=by
 unfold insL;have:=rJ List.length (A92 (p:=λt=>decide (t.1 < id)) (l:=l))
 rw[kC]at this;simp only[kC,wV,J9];omega
theorem JZ{vs:List VD}{ms cs:List ByteArray}{fs:List FD}{ts:List SD}{bound id:Int}{z:ZD}{t:TD}{i:ID}{ok:Bool} (h:dG (aG vs ms cs fs ts).1 bound=0) (h1:vsB vs ms cs fs ts bound z.1 z.2.1 z.2.2.1=true) (hr:jH (aG vs ms cs fs ts).1 ms fs z.1 id=(t,i,ok)):
 rH vs ms cs fs ts bound z id=if(ok && C9 z.1 z.2.1 t i)=false then(zZ,zE,19)
 else if(lS z.2.1 (labS z.2.1 t i)).2≠0 then(zZ,zE,30)
 else if(labS z.2.1 t i).2.2.1=16/\0<=eU (λu=>decide (u.1=(labS z.2.1 t i).2.2.2.1)) z.1 then(zZ,zE,30)
 else((stT (if(labS z.2.1 t i).2.2.1=16 then insL z.1 (labS z.2.1 t i).2.2.2.1 (newS (aG vs ms cs fs ts).1 fs bound (labS z.2.1 t i).2.2.2.1 i.2.2.2.2.1 (t.2.2.2.1.getD i.2.2.1.toNat 0)).1 else z.1) id
  (kW (aG vs ms cs fs ts).1 ms fs bound t (Ba i (labS z.2.1 t i))).1,(lS z.2.1 (labS z.2.1 t i)).1,[],()),labS z.2.1 t i,0):=by
 unfold rH;rw[if_neg (by omega),if_neg (by rw[h1];simp),hr]
abbrev abM:CT:={ ps:=[o9,.int .i64,Kr,.int .i64],pre:=λd=>bnd (d.1,())/\iJ d.2.2.1.1/\d.2.2.1.1.length<=999999/\uV d.2.2.1.2.1=true/\Gl d.2.2.1.2.2.1,res:=λd=>([],.gV [Ia ((rH d.1.1 d.1.2.1 d.1.2.2.1 d.1.2.2.2.1 d.1.2.2.2.2.1 d.2.1 d.2.2.1 d.2.2.2.1).1),BK ((rH d.1.1 d.1.2.1 d.1.2.2.1 d.1.2.2.2.1 d.1.2.2.2.2.1 d.2.1 d.2.2.1 d.2.2.2.1).2.1),.c (.v (.int .i64 ((rH d.1.1 d.1.2.1 d.1.2.2.1 d.1.2.2.2.1 d.1.2.2.2.2.1 d.2.1 d.2.2.1 d.2.2.2.1).2.2)))]) }
theorem alP(vs:List VD) (ms cs:List ByteArray) (fs:List FD) (ts:List SD) (bound:Int) (th:List TD) (mv mo:List Int) (mq:List (List Int)) (mg:List Int) (bf:List BD) (id:Int) (aF:abM.pre ((vs,ms,cs,fs,ts,()),bound,(th,(mv,mo,mq,mg,()),bf,()),id,())):
 let z17:=bnd ((vs,ms,cs,fs,ts,()),());let VR:=aG vs ms cs fs ts;let z20:=(mv,mo,mq,mg,());let z18:=(th,z20,bf,());let z13:=rH vs ms cs fs ts bound z18 id;let z10:=[Ia (z13.fst),BK (z13.snd.fst),cI (z13.snd.snd)];let sO:=jH VR.fst ms fs th id;let z12:=labS z20 sO.fst sO.snd.fst;let z11:=lS z20 z12;let z6:=λ(d:Int)=>sU VR.fst fs bound (th,z11.fst,bf,()) z12.snd.snd.snd.fst sO.snd.fst.snd.snd.snd.snd.fst d;let z7:=z17/\List.length sO.fst.snd.snd.snd.snd.snd.snd.snd.snd.snd.fst<=1000000/\sO.fst.fst<=9223372036854775807/\List.length sO.fst.snd.snd.snd.fst=8;let z9:=kW VR.fst ms fs bound sO.fst (Ba sO.snd.fst z12);let z8:=!decide (z9.snd=0);let z3:=rT z10 [Ia ([],([],[],[],[],()),[],()),BK (0,0,0,0,0,0,0,0,0,()),cI (z9.snd)];let z5:=λ(d:Int)=>eU (λt=>decide (t.fst=id)) (z6 d).fst.fst;let z4:=λ(d:Int)=>dO (z5 d) (0:Int);let z1:=λ(d:Int)=>[Ia ((z6 d).fst.fst.set (z4 d).toNat z9.fst,((z6 d).fst.snd.fst.fst,(z6 d).fst.snd.fst.snd.fst,(z6 d).fst.snd.fst.snd.snd.fst,(z6 d).fst.snd.fst.snd.snd.snd.fst,()),(z6 d).fst.snd.snd.fst,()),BK z12,cI 0];let NJ:=eU (λt=>decide (t.fst=id)) th;let wo:=dO NJ (0:Int);let z2:=[Ia (th.set wo.toNat z9.fst,(z11.fst.fst,z11.fst.snd.fst,z11.fst.snd.snd.fst,z11.fst.snd.snd.snd.fst,()),bf,()),BK z12,cI 0];z17/\br (!decide (dG VR.fst bound=0)) (rT z10 [Ia ([],([],[],[],[],()),[],()),BK (0,0,0,0,0,0,0,0,0,()),cI (dG VR.fst bound)]) ((z17/\iJ th/\bI z20)/\br (!vsB vs ms cs fs ts bound th z20 bf) (rT z10 [Ia ([],([],[],[],[],()),[],()),BK (0,0,0,0,0,0,0,0,0,()),cI 1]) ((z17/\iJ th)/\((!!sO.snd.snd)=true->jX z20 sO.fst sO.snd.fst/\th.length<=1000000)/\br (!sO.snd.snd || !C9 th z20 sO.fst sO.snd.fst) (rT z10 [Ia ([],([],[],[],[],()),[],()),BK (0,0,0,0,0,0,0,0,0,()),cI 19]) (jX z20 sO.fst sO.snd.fst/\abq z18/\(bI z20/\sO.fst.fst=z12.fst)/\br (!decide (z11.snd=0)) (rT z10 [Ia ([],([],[],[],[],()),[],()),BK (0,0,0,0,0,0,0,0,0,()),cI 30]) (bI z11.fst/\br (decide (z12.snd.snd.fst=16)) ((0<=sO.snd.fst.snd.snd.fst/\sO.snd.fst.snd.snd.fst < 8)/\sO.snd.fst.snd.snd.fst.toNat < 8/\∀(d:Int),sO.1.2.2.2.fst[sO.snd.fst.snd.snd.fst.toNat]?=some d->(z17/\iJ th/\z12.snd.snd.snd.fst<=9223372036854775807)/\br (!decide ((z6 d).snd=0)) (rT z10 [Ia ([],([],[],[],[],()),[],()),BK (0,0,0,0,0,0,0,0,0,()),cI ((z6 d).snd)]) (z7/\br z8 z3 ((z6 d).fst.fst.length<=1000000/\(0<=dO (z5 d) (0:Int)/\dO (z5 d) 0 < (↑(z6 d).fst.fst.length:Int))/\(z4 d).toNat < (z6 d).fst.fst.length/\(rT z10 (z1 d))/\rT z10 (z1 d)))) (z7/\br z8 z3 (th.length<=1000000/\(0<=dO NJ (0:Int)/\dO NJ 0 < (th.length:Int))/\wo.toNat < th.length/\(rT z10 z2)/\rT z10 z2)))))):=by
 conv=>zeta
 obtain⟨hb,hT,hn,hm,hB⟩:bnd ((vs,ms,cs,fs,ts,()),())/\iJ th/\th.length<=999999/\uV (mv,mo,mq,mg,())=true/\Gl bf:=aF;have hM:=vY hm;have hS:=@JZ vs ms cs fs ts bound id (th,(mv,mo,mq,mg,()),bf,());generalize hr:jH (aG vs ms cs fs ts).1 ms fs th id=R at hS ⊢;obtain⟨T,I,ok⟩:=R;dsimp only at hS ⊢;refine⟨hb,ah.2 ⟨λh=>sV ?_,λh=>⟨⟨hb,hT,hM⟩,ah.2 ⟨λh1=>sV ?_,λh1=>⟨⟨hb,hT⟩,λh2=>⟨?_,hT.1⟩,ah.2 ⟨λh2=>sV ?_,λh2=>?_⟩⟩⟩⟩⟩⟩
 .have h:dG (aG vs ms cs fs ts).1 bound≠0:=by simpa using h
  unfold rH;rw[if_pos h];rfl
 .have h:dG (aG vs ms cs fs ts).1 bound=0:=by simpa using h
  have h1:vsB vs ms cs fs ts bound th (mv,mo,mq,mg,()) bf=false:=by simpa using h1
  unfold rH;rw[if_neg (by omega),if_pos h1];rfl
 all_goals have h:dG (aG vs ms cs fs ts).1 bound=0:=by simpa using h
 all_goals have h1:vsB vs ms cs fs ts bound th (mv,mo,mq,mg,()) bf=true:=by simpa using h1
 all_goals have hV:=jW.1 h1
 .have h2:ok=true:=by simpa using h2
  subst h2;exact(Qh hV hM hT hr).2.2.1
 .rw[hS h h1 rfl,if_pos (by simp only[wC,Di]at h2;rw[A70];exact h2)];rfl
 simp only[l7,wU]at h2;obtain⟨ok1,en1⟩:=h2;subst ok1;obtain⟨lC,hid,hlab,hat,hsu,hvl⟩:=Qh hV hM hT hr;have hS:=hS h h1 rfl;rw[if_neg (by rw[en1];simp)]at hS
 have htB:=hT.2 T lC;have hch:I.1=21->(cO T.1 T.2.2.2.2.2.1).2=true:=λq=>(JY h hvl hsu hat q htB.2.2).1
 have hcz:=Nw h hvl hsu (TJ (m:=(mv,mo,mq,mg,())) (i:=I) hlab.1.2.1 hch);refine⟨hlab,⟨hT,hM,hB⟩,⟨hM,(abK _ _ _).symm⟩,ah.2 ⟨λh3=>sV ?_,λh3=>⟨agC hm _,ah.2 ⟨λh4=>?_,λh4=>?_⟩⟩⟩⟩
 .have h3:(lS (mv,mo,mq,mg,()) (labS (mv,mo,mq,mg,()) T I)).2≠0:=by simpa using h3
  rw[hS,if_pos h3];rfl
 all_goals have h3:(lS (mv,mo,mq,mg,()) (labS (mv,mo,mq,mg,()) T I)).2=0:=by simpa using h3
 all_goals rw[if_neg (by omega)]at hS
 .have h4:(labS (mv,mo,mq,mg,()) T I).2.2.1=16:=Qn h4;have hI:=(TF hlab.2.2.2.1).1 h4;obtain⟨c1,c2⟩:=JY h hvl hsu hat hI htB.2.2;have eo:=TG (m:=(mv,mo,mq,mg,())) (t:=T) hI;obtain⟨_,_,_,_,c5,_,c6,_⟩:=MV c1;have r2:=hlab.2.1;refine⟨r2,by omega,λd hd=>⟨⟨hb,hT,by rw[eo];omega⟩,ah.2 ⟨λh5=>sV ?_,λh5=>?_⟩⟩⟩
  all_goals have ed:=Td hd
  all_goals rw[ed]at c2 hS
  all_goals rw[<-eo]at c2
  .have h5:(sU (aG vs ms cs fs ts).1 fs bound (th,(lS (mv,mo,mq,mg,()) (labS (mv,mo,mq,mg,()) T I)).1,bf,()) (labS (mv,mo,mq,mg,()) T I).2.2.2.1 I.2.2.2.2.1 d).2≠0:=by simpa using h5
   by_cases q:0<=eU (λu=>decide (u.1=(labS (mv,mo,mq,mg,()) T I).2.2.2.1)) th
   .rw[hS,if_pos ⟨h4,q⟩];unfold sU;rw[if_pos q];rfl
   .exfalso;apply h5;unfold sU;rw[if_neg q,if_neg (by rw[c2];simp)]
  .have q:¬0<=eU (λu=>decide (u.1=(labS (mv,mo,mq,mg,()) T I).2.2.2.1)) th:=by
    intro q;unfold sU at h5;rw[if_pos q]at h5;simp at h5
   have es:sU (aG vs ms cs fs ts).1 fs bound (th,(lS (mv,mo,mq,mg,()) (labS (mv,mo,mq,mg,()) T I)).1,bf,()) (labS (mv,mo,mq,mg,()) T I).2.2.2.1 I.2.2.2.2.1 d=((insL th (labS (mv,mo,mq,mg,()) T I).2.2.2.1 (newS (aG vs ms cs fs ts).1 fs bound (labS (mv,mo,mq,mg,()) T I).2.2.2.1 I.2.2.2.2.1 d).1,(lS (mv,mo,mq,mg,()) (labS (mv,mo,mq,mg,()) T I)).1,bf,()),0):=by
    unfold sU;rw[if_neg q,if_neg (by rw[c2];simp)]
   rw[es];dsimp only;rw[if_neg (λp=>q p.2),if_pos h4]at hS
   have hp:=alO (l:=insL th (labS (mv,mo,mq,mg,()) T I).2.2.2.1 (newS (aG vs ms cs fs ts).1 fs bound (labS (mv,mo,mq,mg,()) T I).2.2.2.1 I.2.2.2.2.1 d).1) (id:=id) ⟨T,Ny lC,hid⟩;have hbf:bf=[]:=hV.2.1;have fin:=sV hS;refine⟨⟨hb,htB⟩,ah.2 ⟨λh6=>?_,λh6=>⟨by rw[abL];omega,hp.1,hp.2,?_,?_⟩⟩⟩
   .exfalso;rw[hcz]at h6;simp at h6
   all_goals rw[hbf];rw[hbf]at fin;exact fin
 .have h4:¬(labS (mv,mo,mq,mg,()) T I).2.2.1=16:=Ua h4;rw[if_neg (λp=>h4 p.1),if_neg h4]at hS
  have hp:=alO (l:=th) (id:=id) ⟨T,lC,hid⟩;have hbf:bf=[]:=hV.2.1;have fin:=sV hS;refine⟨⟨hb,htB⟩,ah.2 ⟨λh6=>?_,λh6=>⟨hT.1,hp.1,hp.2,?_,?_⟩⟩⟩
  .exfalso;rw[hcz]at h6;simp at h6
  all_goals rw[hbf];rw[hbf]at fin;exact fin
theorem agD:aU aT.gd 21 abM:=
 dQ (cx:=aT) (n:=131) (cl:=[(32,zJ),(40,JU),(41,Tq),(46,Tj),(42,Fz),(23,abu),(48,abr),(50,abJ),(51,aaF),(52,wS),(49,BI)]) (rc:=[.data Kr,.keep,.keep]) au ⟨S9,JV,Tt,Tn,Ti,ags,agq,agA,afx,Dc,rD,trivial⟩ Tryz.func21 λd hd=>by
  obtain⟨⟨vs,ms,cs,fs,ts,⟨⟩⟩,bound,⟨th,⟨mv,mo,mq,mg,⟨⟩⟩,bf,⟨⟩⟩,id,⟨⟩⟩:=d;exact aJ (λ_=>none) (alP vs ms cs fs ts bound th mv mo mq mg bf id hd) (by kernel_rfl)
def pI(e:Int) (fs:List FD) (bound:Int) (ts:List SD):List TD:=ts.zipIdx.map λp=>(newS e fs bound (p.2:Int) p.1.1 p.1.2.1).1
def abN(vs:List VD) (ms cs:List ByteArray) (fs:List FD) (ts:List SD) (bound:Int):ZD×Int:=
 if dG (aG vs ms cs fs ts).1 bound≠0 then(zZ,dG (aG vs ms cs fs ts).1 bound) else((pI (aG vs ms cs fs ts).1 fs bound ts,(x9 vs ms cs fs ts).1,[],()),0)
theorem abO{e:Int}{fs:List FD}{bound:Int}{ts:List SD}{k:Nat}{d:SD} (h:ts[k]?=some d):pI e fs bound (ts.take (k+1))=pI e fs bound (ts.take k)++[(newS e fs bound (k:Int) d.1 d.2.1).1]:=by
 have hk:k < ts.length:=(A8.1 h).1;unfold pI;rw[NQ,h,acC,List.zipIdx_append,NT,kX,Ih (by omega)]
 simp
theorem agF(e:Int) (fs:List FD) (bound:Int) (ts:List SD):(pI e fs bound ts).length=ts.length:=by
 unfold pI;rw[VW,List.length_zipIdx]
theorem TK(h:CV fs ts=0):(1<=ts.length/\ts.length<=8)/\∀(k:Nat) d,ts[k]?=some d->(0<=d.1/\d.1 < (fs.length:Int))/\bW d.2.1=true:=by
 unfold CV at h;split at h
 .cases h
 rename_i q;refine⟨by omega,λk d hd=>?_⟩
 have hn:ts.find? (λt=>decide (CU fs.length t≠0))=none:=by
  cases hf:ts.find? (λt=>decide (CU fs.length t≠0)) with
  | none=>rfl
  | some t=>
    rw[hf]at h;have:=V6 hf;simp at this;exact absurd h this
 have hz:=A90.1 hn d (iy hd);have hz:CU fs.length d=0:=by simpa using hz
 unfold CU at hz;split at hz
 .cases hz
 .split at hz
  .rename_i a b;exact⟨by omega,b⟩
  .cases hz
theorem J3{k:Nat}{d:SD} (hs:dG (aG vs ms cs fs ts).1 bound=0) (hd:ts[k]?=some d):(newS (aG vs ms cs fs ts).1 fs bound (k:Int) d.1 d.2.1).2=0:=by
 have ht:=TK (oU (iw.1 hs).1).2.2;obtain⟨h1,h2⟩:=ht.2 k d hd;have hk:k < ts.length:=(A8.1 hd).1;have hk:k < 8:=by omega
 have hdp:¬aV (k:Int) < 0:=by
  unfold aV dU;rw[if_neg (by omega),if_pos (by omega)];omega
 unfold newS;rw[if_neg (by omega),if_neg hdp,if_neg (by omega),if_neg (by rw[h2];simp)]
theorem abP(hs:dG (aG vs ms cs fs ts).1 bound=0):(x9 vs ms cs fs ts).2=0:=by
 unfold x9;rw[if_pos (iw.1 hs).1]
theorem TL{S:ZD×Int}{a:ZD} (h:S=(a,c)):rT [Ia S.1,cI S.2] [Ia a,cI c]:=by subst h;exact⟨rfl,rfl⟩
abbrev abQ:CT:={ ps:=[o9,.int .i64],pre:=λd=>bnd (d.1,()),res:=λd=>([],.gV [Ia ((abN d.1.1 d.1.2.1 d.1.2.2.1 d.1.2.2.2.1 d.1.2.2.2.2.1 d.2.1).1),.c (.v (.int .i64 ((abN d.1.1 d.1.2.1 d.1.2.2.1 d.1.2.2.2.1 d.1.2.2.2.2.1 d.2.1).2)))]) }
abbrev aoo(vs:List VD) (ms cs:List ByteArray) (fs:List FD) (ts:List SD) (bound:Int):Nat->Option (St->jv):=λk=>match k with
 | 9=>some λ_=>.inv { α:=Nat,rX:=[(3,0,56,dX)],slots:=λk=>[(35,.c (.v (.int .i64 k)))],res:=λk=>[(4,.row 56 dX (pI (aG vs ms cs fs ts).1 fs bound (ts.take k)))],inv:=λk=>k<=ts.length,meas:=λk=>ts.length - k }
 | _=>none
theorem alQ(vs:List VD) (ms cs:List ByteArray) (fs:List FD) (ts:List SD) (bound:Int) (aF:abQ.pre ((vs,ms,cs,fs,ts,()),bound,())):
 let z7:=bnd ((vs,ms,cs,fs,ts,()),());let z9:=aG vs ms cs fs ts;let z8:=abN vs ms cs fs ts bound;let z4:=[Ia (z8.fst),cI (z8.snd)];let z10:=x9 vs ms cs fs ts;let z11:=bP vs ms cs fs ts;let z3:=[SC.sl I6 z10.fst.fst,SC.sl I6 z10.fst.snd.fst,SC.sl I6.sl z10.fst.snd.snd.fst,SC.sl I6 z10.fst.snd.snd.snd.fst];let z2:=[SC.row (Nat.succ 0).succ.succ.succ,SC.sl I6 z10.fst.fst,SC.sl I6 z10.fst.snd.fst,SC.sl I6.sl z10.fst.snd.snd.fst,SC.sl I6 z10.fst.snd.snd.snd.fst,iN];let z6:=λ(x:Nat)=>pI z9.fst fs bound (List.take x ts);let z1:=λ(x:Nat)=>[g0 z11,g0 (ay.blk 37 Bc),g0 (ay.blk 34 z3),g0 (ay.blk 37 z2),g0 (ay.row 56 dX (z6 x))];let z5:=λ(x:Nat) (d:Int×(I6.pair Sh.unit).den)=>newS z9.fst fs bound (x:Int) d.fst d.snd.fst;z7/\br (!decide (dG z9.fst bound=0)) (rT z4 [Ia ([],([],[],[],[],()),[],()),cI (dG z9.fst bound)]) (z7/\br (!decide (z10.snd=0)) (rT z4 [Ia ([],([],[],[],[],()),[],()),cI (z10.snd)]) ((∃x,x<=ts.length/\(cI 0=cI (x:Int)/\True)/\[g0 z11,g0 (ay.blk 37 Bc),g0 (ay.blk 34 z3),g0 (ay.blk 37 z2),g0 (ay.row 56 dX [])]=(z1 x))/\∀(x:Nat),x<=ts.length->br (decide ((x:Int) < (ts.length:Int))) ((0<=(x:Int)/\(x:Int) < (ts.length:Int))/\∀(d:Int×(I6.pair Sh.unit).den),ts[(x:Int).toNat]?=some d->(z7/\(x:Int)<=(9223372036854775807:Int))/\br (!decide ((z5 x d).snd=0)) (rT z4 [Ia ([],([],[],[],[],()),[],()),cI ((z5 x d).snd)]) (nR ((z6 x).length+[(z5 x d).fst].length) 152/\iR ((x:Int)+(1:Int))/\∃x',x'<=ts.length/\(cI ((x:Int)+(1:Int))=cI (x':Int)/\True)/\[g0 z11,g0 (ay.blk 37 Bc),g0 (ay.blk 34 z3),g0 (ay.blk 37 z2),g0 (ay.row 56 dX (pI z9.fst fs bound (List.take x ts)++[(z5 x d).fst]))]=(z1 x')/\ts.length - x' < ts.length - x)) (rT z4 [Ia (pI z9.fst fs bound (List.take x ts),(z10.fst.fst,z10.fst.snd.fst,z10.fst.snd.snd.fst,z10.fst.snd.snd.snd.fst,()),[],()),cI 0]))):=by
 conv=>zeta
 delta Bc iR iN;have hb:bnd ((vs,ms,cs,fs,ts,()),()):=aF;refine⟨hb,ah.2 ⟨λh=>TL ?_,λh=>⟨hb,ah.2 ⟨λh1=>?_,λh1=>⟨⟨0,by omega,⟨rfl,trivial⟩,rfl⟩,λk hk=>ah.2 ⟨λg=>?_,λg=>TL ?_⟩⟩⟩⟩⟩⟩
 .have h:dG (aG vs ms cs fs ts).1 bound≠0:=by simpa using h
  unfold abN;rw[if_pos h];rfl
 all_goals have h:dG (aG vs ms cs fs ts).1 bound=0:=by simpa using h
 .exfalso;rw[abP h]at h1;simp at h1
 all_goals have ht:=(TK (oU (iw.1 h).1).2.2).1
 .simp only[dH]at g;refine⟨⟨by omega,by omega⟩,λd hd=>⟨⟨hb,by omega⟩,ah.2 ⟨λh2=>?_,λh2=>?_⟩⟩⟩
  all_goals have hd:ts[k]?=some d:=hd
  .exfalso;rw[J3 h hd]at h2;simp at h2
  .have e:=@abO (aG vs ms cs fs ts).1 fs bound ts k d hd;have hlen:=agF (aG vs ms cs fs ts).1 fs bound (ts.take k);rw[kX]at hlen;refine⟨eH.2 (by rw[hlen];simp only[wV,J9];omega),ak.2 (by omega),k+1,by omega,⟨rfl,trivial⟩,by rw[e],by omega⟩
 .simp only[eX]at g;rw[wB (i:=k) (by omega)]
  unfold abN;rw[if_neg (by omega)]
theorem agG:aU cxR.gd 12 abQ:=
 dQ (cx:=cxR) (n:=63) (cl:=[(32,zJ),(33,Qc),(34,RY)]) (rc:=[.data Kr,.keep]) au ⟨S9,af6,RZ,trivial⟩ Tryz.func12 λd hd=>by
  obtain⟨⟨vs,ms,cs,fs,ts,⟨⟩⟩,bound,⟨⟩⟩:=d;exact aJ (aoo vs ms cs fs ts bound) (alQ vs ms cs fs ts bound hd) (by kernel_rfl)
def Gn(m n:MD):Prop:=m.1.length=n.1.length/\m.2.1.length=n.2.1.length/\m.2.2.1.length=n.2.2.1.length
theorem Nz:∀(qs:List (List Int)) (k:Nat) (d r:List Int),qs[k]?=some d->(r++qs.flatten).Perm (d++(qs.set k r).flatten)
 | [],k,d,r,h=>by simp at h
 | q :: qs,0,d,r,h=>by
   simp only[A99,A94]at h;subst h;simp only[V4,NS];exact acu _ _ _
 | q :: qs,k+1,d,r,h=>by
   rw[acv]at h;have ih:=Nz qs k d r h;simp only[ahU,NS];exact(acu _ _ _).trans ((ih.append_left q).trans (acu _ _ _))
theorem abR{x v:Int} (h:dW m=true) (h0:(writeM m x v).2=0):dW (writeM m x v).1=true/\Gn (writeM m x v).1 m:=by
 obtain⟨vs,os,qs,sg,⟨⟩⟩:=m;obtain⟨q1,q2,q3,q4,q5,q6,q7,q8⟩:vs.length<=8/\os.length<=4/\qs.length<=4/\SS sg/\(∀v∈vs,bW v=true)/\(∀o∈os,-1<=o)/\(∀x∈sg++qs.flatten,0<=x)/\(sg++qs.flatten).Nodup:=fK.1 h;unfold writeM at h0 ⊢;split at h0
 .rename_i g;split at h0
  .rename_i hv;rw[if_pos g,if_pos hv];refine⟨fK.2 ⟨by rw[wW];exact q1,q2,q3,q4,λy hy=>?_,q6,q7,q8⟩,by rw[wW],rfl,rfl⟩
   rcases Ic hy with hy | rfl
   .exact q5 y hy
   .exact hv
  .cases h0
 .rename_i g;exact absurd h0 g
theorem Qi{i f t:Int} (h:dW m=true) (ht:-1<=t) (h0:(jP m i id f t).2=0):dW (jP m i id f t).1=true/\Gn (jP m i id f t).1 m:=by
 obtain⟨vs,os,qs,sg,⟨⟩⟩:=m;obtain⟨q1,q2,q3,q4,q5,q6,q7,q8⟩:vs.length<=8/\os.length<=4/\qs.length<=4/\SS sg/\(∀v∈vs,bW v=true)/\(∀o∈os,-1<=o)/\(∀x∈sg++qs.flatten,0<=x)/\(sg++qs.flatten).Nodup:=fK.1 h;unfold jP at h0 ⊢;split at h0
 .rename_i g;split at h0
  .cases h0
  .rename_i g1;split at h0
   .rename_i g2;rw[if_pos g,if_neg g1,if_pos g2];refine⟨fK.2 ⟨q1,by rw[wW];exact q2,q3,q4,q5,λy hy=>?_,q7,q8⟩,rfl,by rw[wW],rfl⟩
    rcases Ic hy with hy | rfl
    .exact q6 y hy
    .exact ht
   .cases h0
 .rename_i g;exact absurd h0 g
theorem alR(h:dW m=true) (h0:(xZ m c id).2=0):dW (xZ m c id).1=true/\Gn (xZ m c id).1 m:=by
 obtain⟨vs,os,qs,sg,⟨⟩⟩:=m;unfold xZ at h0 ⊢;split at h0
 .rename_i g;split at h0
  .cases h0
  .rename_i g1;split at h0
   .cases h0
   .rename_i g2;rw[if_pos g,if_neg g1,if_neg g2];have hg:=(gW.1 g).2;have hg:0<=c/\c < (qs.length:Int):=hg;have iQ:c.toNat < qs.length:=by omega
    have hk:qs[c.toNat]?=some (qs[c.toNat]?.getD []):=by rw[lN iQ];rfl
    have:=abE h hk (id:=id) (by omega)
    refine⟨?_,rfl,rfl,by rw[wW]⟩
    show dW (vs,os,qs.set c.toNat (qs[c.toNat]?.getD []++[id]),sg,())=true;rw[this];simpa using g2
 .rename_i g;exact absurd h0 g
theorem ahG{n:Int} (h:dW m=true) (h0:(uS m c n).2.2=0):dW (uS m c n).1=true/\Gn (uS m c n).1 m:=by
 obtain⟨vs,os,qs,sg,⟨⟩⟩:=m;obtain⟨q1,q2,q3,q4,q5,q6,q7,q8⟩:vs.length<=8/\os.length<=4/\qs.length<=4/\SS sg/\(∀v∈vs,bW v=true)/\(∀o∈os,-1<=o)/\(∀x∈sg++qs.flatten,0<=x)/\(sg++qs.flatten).Nodup:=fK.1 h;unfold uS at h0 ⊢;split at h0
 .rename_i g;rw[if_pos g];have hg:0<=c/\c < (qs.length:Int):=(gW.1 g).2;have iQ:c.toNat < qs.length:=by omega
  have hk:qs[c.toNat]?=some (qs[c.toNat]?.getD []):=by rw[lN iQ];rfl
  generalize (jU n (((vs,os,qs,sg,()):MD).2.2.1[c.toNat]?.getD []).length).toNat=j;show dW (vs,os,qs.set c.toNat ((qs[c.toNat]?.getD []).drop j),lM sg ((qs[c.toNat]?.getD []).take j),())=true/\Gn (vs,os,qs.set c.toNat ((qs[c.toNat]?.getD []).drop j),lM sg ((qs[c.toNat]?.getD []).take j),()) _;generalize qs[c.toNat]?.getD []=q at hk;have p1:=Nz qs c.toNat q (q.drop j) hk;have p2:∀F:List Int,(q++F).Perm (q.drop j++(q.take j++F)):=by
   intro F
   conv=>lhs;rw[<-VL j q,zX]
   exact acu _ _ _
  have p3:=(List.perm_append_left_iff _).1 (p1.trans (p2 _));obtain⟨a1,a2⟩:=SI (q.take j) sg q4;have p4:(sg++qs.flatten).Perm ((sg++q.take j)++(qs.set c.toNat (q.drop j)).flatten):=by
   rw[zX];exact p3.append_left sg
  have q8':=p4.nodup_iff.1 q8;have hn:(sg++q.take j).Nodup:=(List.nodup_append.1 q8').1;have hp:(lM sg (q.take j)).Perm (sg++q.take j):=(List.perm_ext_iff_of_nodup (a1.imp λh=>by omega) hn).2 λx=>by rw[a2 x,FI]
  have hp2:=hp.append_right (qs.set c.toNat (q.drop j)).flatten;exact⟨fK.2 ⟨q1,q2,by rw[wW];exact q3,a1,q5,q6,λx hx=>q7 x (p4.mem_iff.2 (hp2.mem_iff.1 hx)),hp2.nodup_iff.2 q8'⟩,rfl,rfl,by rw[wW]⟩
 .rename_i g;exact absurd h0 g
theorem agH(h:dW m=true) (h0:(o7 m id).2=0):dW (o7 m id).1=true/\Gn (o7 m id).1 m:=by
 obtain⟨vs,os,qs,sg,⟨⟩⟩:=m;obtain⟨q1,q2,q3,q4,q5,q6,q7,q8⟩:vs.length<=8/\os.length<=4/\qs.length<=4/\SS sg/\(∀v∈vs,bW v=true)/\(∀o∈os,-1<=o)/\(∀x∈sg++qs.flatten,0<=x)/\(sg++qs.flatten).Nodup:=fK.1 h;unfold o7 at h0 ⊢;split at h0
 .cases h0
 .rename_i g;split at h0
  .cases h0
  .rename_i g2;rw[if_neg g,if_neg g2];have e:pG (bD sg) [id] false=sg.filter (λx=>decide (x≠id)):=(PX q4).symm
   show dW (vs,os,qs,pG (bD sg) [id] false,())=true/\_;rw[e];have sub:(sg.filter (λx=>decide (x≠id))++qs.flatten).Sublist (sg++qs.flatten):=(List.filter_sublist).append_right _
   exact⟨fK.2 ⟨q1,q2,q3,q4.filter _,q5,q6,λx hx=>q7 x (sub.subset hx),sub.nodup q8⟩,rfl,rfl,rfl⟩
theorem Qj{a b c:MD} (h:Gn a b) (g:Gn b c):Gn a c:=⟨h.1.trans g.1,h.2.1.trans g.2.1,h.2.2.trans g.2.2⟩
theorem alS{e:ED} (h:dW m=true) (h0:0<=e.1) (h1:(lS m e).2=0):dW (lS m e).1=true/\Gn (lS m e).1 m:=by
 unfold lS at h1 ⊢;split at h1
 .rename_i g;rw[if_pos g];exact abR h h1
 rename_i g1;rw[if_neg g1];split at h1
 .rename_i g;rw[if_pos g];exact Qi h (by omega) h1
 rename_i g2;rw[if_neg g2];split at h1
 .rename_i g;rw[if_pos g];exact Qi h (by omega) h1
 rename_i g3;rw[if_neg g3];split at h1
 .rename_i g;rw[if_pos g];split at h1
  .rename_i g';rw[if_pos g'];have a:=Qi h (show(-1:Int)<=-1 by omega) g'
   have b:=alR a.1 h1;exact⟨b.1,Qj b.2 a.2⟩
  .rename_i g';exact absurd h1 g'
 rename_i g4;rw[if_neg g4];split at h1
 .rename_i g;rw[if_pos g];exact agH h h1
 rename_i g5;rw[if_neg g5];split at h1
 .rename_i g;rw[if_pos g];exact ahG h h1
 rename_i g6;rw[if_neg g6];split at h1
 .rename_i g;rw[if_pos g];exact ahG h h1
 rename_i g7;rw[if_neg g7];exact⟨h,rfl,rfl,rfl⟩
theorem agJ{p:PD}{e:ED} (h:jA p m=true) (h0:0<=e.1) (h1:(lS m e).2=0):jA p (lS m e).1=true:=by
 have hv:=rG h;obtain⟨a,b1,b2,b3⟩:=alS hv.2.1 h0 h1;unfold jA;rw[a];simp only[bY,dH];exact⟨⟨⟨⟨hv.1,trivial⟩,b1.trans hv.2.2.1⟩,b2.trans hv.2.2.2.1⟩,b3.trans hv.2.2.2.2⟩
theorem alT{u:TD} (h:uT l) (hu:u.1=id) (hn:∀t∈l,t.1≠id):uT (insL l id u):=by
 have h:l.Pairwise λa b=>a.1 < b.1:=List.pairwise_map.1 h
 refine List.pairwise_map.2 ?_;unfold insL;have dw:∀{l:List TD},l.Pairwise (λa b=>a.1 < b.1)->∀t∈l.dropWhile (λt=>decide (t.1 < id)),id<=t.1:=by
  intro l
  induction l with
  | nil=>intro _ t ht;cases ht
  | cons a l ih=>
    intro hp t ht;rw[A89]at hp
    by_cases q:a.1 < id
    .rw[List.dropWhile_cons_of_pos (by simpa using q)]at ht
     exact ih hp.2 t ht
    .rw[List.dropWhile_cons_of_neg (by simpa using q)]at ht
     rcases ni.1 ht with rfl | ht
     .omega
     .have:=hp.1 t ht;omega
 have tw:∀{l:List TD},∀t∈l.takeWhile (λt=>decide (t.1 < id)),t.1 < id:=by
  intro l
  induction l with
  | nil=>intro t ht;cases ht
  | cons a l ih=>
    intro t ht;rw[TY]at ht;split at ht
    .rename_i q;rcases ni.1 ht with rfl | ht
     .simpa using q
     .exact ih t ht
    .cases ht
 have e:=A92 (p:=λt=>decide (t.1 < id)) (l:=l)
 have h2:=h;rw[<-e,TW]at h2;have dm:∀t∈l.dropWhile (λt=>decide (t.1 < id)),id < t.1:=by
  intro t ht;have a:=dw h t ht;have b:=hn t (by rw[<-e];exact ahS _ ht)
  omega
 refine TW.2 ⟨TW.2 ⟨h2.1,List.pairwise_singleton _ _,λa ha b hb=>?_⟩,h2.2.1,λa ha b hb=>?_⟩
 .simp at hb;subst hb;have:=tw a ha;omega
 .have q:=dm b hb;rcases FI.1 ha with ha | ha
  .have:=tw a ha;omega
  .simp at ha;subst ha;omega
theorem alU(h:zW vs ms cs fs=0):(vs.length<=8/\ms.length<=4/\cs.length<=4)/\∀v∈vs,bW v.2.1=true:=by
 unfold zW at h;split at h
 .cases h
 .rename_i q;split at h
  .rename_i g;exact⟨by omega,λv hv=>NH.1 g v hv⟩
  .cases h
theorem agK(h:(aG vs ms cs fs ts).1=0):jA (vs,ms,cs,fs,ts,()) (x9 vs ms cs fs ts).1=true:=by
 obtain⟨⟨h1,h2,h3⟩,hv⟩:=alU (oU h).1;unfold x9;rw[if_pos h];have hf:dW (vs.map (·.2.1),List.replicate ms.length (-1),List.replicate cs.length [],[],())=true:=by
  refine fK.2 ⟨by rw[VW];exact h1,by rw[J6];exact h2,by rw[J6];exact h3,List.Pairwise.nil,λv hv'=>?_,λo ho=>?_,?_,?_⟩
  .obtain⟨x,hx,rfl⟩:=List.mem_map.1 hv';exact hv x hx
  .rw[(List.mem_replicate.1 ho).2];omega
  all_goals simp
 unfold jA;simp only[hf,h,VW,J6,decide_true,Bool.and_self]
theorem J4{k:Nat} (h:(pI e fs bound ts)[k]?=some t):∃d,ts[k]?=some d/\t=(newS e fs bound (k:Int) d.1 d.2.1).1:=by
 unfold pI at h;rw[Dj,acA]at h;cases hd:ts[k]? with
 | none=>rw[hd]at h;cases h
 | some d=>rw[hd]at h;simp at h;exact⟨d,rfl,h.symm⟩
theorem Qk{fn r:Int} (h:(newS e fs bound id fn r).2=0):(newS e fs bound id fn r).1.1=id:=by
 unfold newS at h ⊢
 split at h
 .rename_i q;exact absurd h q
 split at h
 .cases h
 split at h
 .cases h
 split at h
 .cases h
 rename_i q1 q2 q3 q4;rw[if_neg q1,if_neg q2,if_neg q3,if_neg q4];exact(MJ _ _ _ _).1
def NC(l:List TD):Prop:=∀t∈l,t.2.2.2.1.length=8
theorem alV(hs:dG (aG vs ms cs fs ts).1 bound=0):VS vs ms cs fs ts bound (pI (aG vs ms cs fs ts).1 fs bound ts) (x9 vs ms cs fs ts).1 []/\NC (pI (aG vs ms cs fs ts).1 fs bound ts):=by
 have hm:∀t∈pI (aG vs ms cs fs ts).1 fs bound ts,uh ms fs bound t/\t.2.2.2.1.length=8:=by
  intro t ht;obtain⟨k,hk⟩:=VZ.1 ht;obtain⟨d,hd,rfl⟩:=J4 hk;exact(aaG (J3 hs hd)).2
 refine⟨⟨agK (iw.1 hs).1,rfl,λt ht=>⟨hs,(hm t ht).1⟩,Qd λj a b ha hb=>?_⟩,λt ht=>(hm t ht).2⟩
 obtain⟨d,hd,rfl⟩:=J4 ha;obtain⟨d',hd',rfl⟩:=J4 hb;rw[Qk (J3 hs hd),Qk (J3 hs hd')];omega
theorem abS(h:VS vs ms cs fs ts bound l m bf) (h8:NC l) (hl:l.length<=1000000):iJ l:=
 ⟨hl,λt ht=>⟨(MW (h.2.2.1 t ht).1 (h.2.2.1 t ht).2).1,(MW (h.2.2.1 t ht).1 (h.2.2.1 t ht).2).2,h8 t ht⟩⟩
theorem alW{k:Nat}{u:TD} (h:uT l) (hk:l[k]?=some t) (hu:u.1=t.1):uT (l.set k u):=by
 unfold uT at h ⊢
 rw[List.map_set];have e:(l.map (·.1))[k]?=some t.1:=by rw[Dj,hk];rfl
 rw[show(l.map (·.1)).set k u.1=l.map (·.1) by rw[hu];exact gX e]
 exact h
theorem VF{z:ZD} (h:(rH vs ms cs fs ts bound z id).2.2=0):
 dG (aG vs ms cs fs ts).1 bound=0/\VS vs ms cs fs ts bound z.1 z.2.1 z.2.2.1/\∃t i,jH (aG vs ms cs fs ts).1 ms fs z.1 id=(t,i,true)/\C9 z.1 z.2.1 t i=true/\(lS z.2.1 (labS z.2.1 t i)).2=0 /\
  ¬((labS z.2.1 t i).2.2.1=16/\0<=eU (λu=>decide (u.1=(labS z.2.1 t i).2.2.2.1)) z.1) /\
  rH vs ms cs fs ts bound z id=((stT (if(labS z.2.1 t i).2.2.1=16 then insL z.1 (labS z.2.1 t i).2.2.2.1 (newS (aG vs ms cs fs ts).1 fs bound (labS z.2.1 t i).2.2.2.1 i.2.2.2.2.1 (t.2.2.2.1.getD i.2.2.1.toNat 0)).1 else z.1) id
  (kW (aG vs ms cs fs ts).1 ms fs bound t (Ba i (labS z.2.1 t i))).1,(lS z.2.1 (labS z.2.1 t i)).1,[],()),labS z.2.1 t i,0):=by
 have h1:dG (aG vs ms cs fs ts).1 bound=0:=by
  refine J8.1 λq=>?_
  unfold rH at h;rw[if_pos q]at h;exact q h
 have h2:vsB vs ms cs fs ts bound z.1 z.2.1 z.2.2.1=true:=by
  refine J8.1 λq=>?_
  unfold rH at h;rw[if_neg (by omega),if_pos (by simpa using q)]at h;cases h
 cases hr:jH (aG vs ms cs fs ts).1 ms fs z.1 id with
 | mk t x=>
   obtain⟨i,ok⟩:=x;rw[JZ h1 h2 hr]at h ⊢
   split at h
   .cases h
   rename_i g1;split at h
   .cases h
   rename_i g2;split at h
   .cases h
   rename_i g3;rw[if_neg g1,if_neg g2,if_neg g3];simp only[Bool.not_eq_false,bY]at g1;exact⟨h1,jW.1 h2,t,i,by rw[g1.1],g1.2,J8.1 g2,g3,rfl⟩
theorem alX{z:ZD} (h:(rH vs ms cs fs ts bound z id).2.2=0) (h8:NC z.1) (hl:z.1.length<=999999) (hM:bI z.2.1):
 VS vs ms cs fs ts bound (rH vs ms cs fs ts bound z id).1.1 (rH vs ms cs fs ts bound z id).1.2.1 (rH vs ms cs fs ts bound z id).1.2.2.1/\NC (rH vs ms cs fs ts bound z id).1.1:=by
 obtain⟨hs,hV,t,i,hr,he,hf,hd,e⟩:=VF h;rw[e];have hT:=abS hV h8 (by omega)
 obtain⟨hm,hid,hlab,hat,hsu,hvl⟩:=Qh hV hM hT hr;have hch:i.1=21->(cO t.1 t.2.2.2.2.2.1).2=true:=λq=>(JY hs hvl hsu hat q (h8 t hm)).1
 have hcz:=Nw hs hvl hsu (TJ (m:=z.2.1) (i:=i) hlab.1.2.1 hch);obtain⟨_,c1,c2,_,c3,_⟩:=akP (h8 t hm) hcz;have h0:0<=t.1:=by
  have:=oV hvl;obtain⟨x,fn,pc,rg,st,ch,ph,su,fa,hd,u⟩:=t;exact(lZ this.1).1
 have hL:VS vs ms cs fs ts bound (if(labS z.2.1 t i).2.2.1=16 then insL z.1 (labS z.2.1 t i).2.2.2.1 (newS (aG vs ms cs fs ts).1 fs bound (labS z.2.1 t i).2.2.2.1 i.2.2.2.2.1 (t.2.2.2.1.getD i.2.2.1.toNat 0)).1 else z.1) (lS z.2.1 (labS z.2.1 t i)).1 [] /\
  NC (if(labS z.2.1 t i).2.2.1=16 then insL z.1 (labS z.2.1 t i).2.2.2.1 (newS (aG vs ms cs fs ts).1 fs bound (labS z.2.1 t i).2.2.2.1 i.2.2.2.2.1 (t.2.2.2.1.getD i.2.2.1.toNat 0)).1 else z.1) /\
  ∃u∈(if(labS z.2.1 t i).2.2.1=16 then insL z.1 (labS z.2.1 t i).2.2.2.1 (newS (aG vs ms cs fs ts).1 fs bound (labS z.2.1 t i).2.2.2.1 i.2.2.2.2.1 (t.2.2.2.1.getD i.2.2.1.toNat 0)).1 else z.1),u.1=id:=by
  have lC:=agJ hV.1 (show 0<=(labS z.2.1 t i).1 by rw[abK];exact h0) hf
  split
  .rename_i g;have hi:=(TF hlab.2.2.2.1).1 g;obtain⟨s1,s2⟩:=JY hs hvl hsu hat hi (h8 t hm);rw[<-TG (m:=z.2.1) hi]at s2;obtain⟨_,n1,n2⟩:=aaG s2;have n3:=Qk s2;have hmm:∀x∈insL z.1 (labS z.2.1 t i).2.2.2.1 (newS (aG vs ms cs fs ts).1 fs bound (labS z.2.1 t i).2.2.2.1 i.2.2.2.2.1 (t.2.2.2.1.getD i.2.2.1.toNat 0)).1,x∈z.1\/x=(newS (aG vs ms cs fs ts).1 fs bound (labS z.2.1 t i).2.2.2.1 i.2.2.2.2.1 (t.2.2.2.1.getD i.2.2.1.toNat 0)).1:=by
    intro x hx;unfold insL at hx;simp only[FI,A82]at hx;rcases hx with(hx | hx) | hx
    .exact .inl ((List.takeWhile_sublist _).subset hx)
    .exact .inr hx
    .exact .inl ((List.dropWhile_sublist _).subset hx)
   refine⟨⟨lC,rfl,λx hx=>⟨hs,?_⟩,alT hV.2.2.2 n3 λx hx q=>hd ⟨g,?_⟩⟩,λx hx=>?_,t,Ny hm,hid⟩
   .rcases hmm x hx with hx | rfl
    .exact(hV.2.2.1 x hx).2
    .exact n1
   .have:=(alO (l:=z.1) ⟨x,hx,q⟩);refine J8.1 λq2=>?_
    have:=A90.1 (o8 q2) x hx;simp[q]at this
   .rcases hmm x hx with hx | rfl
    .exact h8 x hx
    .exact n2
  .exact⟨⟨lC,rfl,hV.2.2.1,hV.2.2.2⟩,h8,t,hm,hid⟩
 generalize (if(labS z.2.1 t i).2.2.1=16 then insL z.1 (labS z.2.1 t i).2.2.2.1 (newS (aG vs ms cs fs ts).1 fs bound (labS z.2.1 t i).2.2.2.1 i.2.2.2.2.1 (t.2.2.2.1.getD i.2.2.1.toNat 0)).1 else z.1)=L at hL
 obtain⟨hL,hL8,u,hu,hui⟩:=hL;have q:0<=eU (λt=>decide (t.1=id)) L:=by
  refine J8.1 λq=>?_
  have:=A90.1 (o8 q) u hu;simp[hui]at this
 obtain⟨k,v,q1,q2,q3,q4⟩:=kL q;have ek:(dO (eU (λt=>decide (t.1=id)) L) 0).toNat=k:=by rw[q1];unfold dO;split<;>omega
 have hvi:v.1=id:=by simpa using V6 q3
 unfold stT;rw[ek];refine⟨⟨hL.1,rfl,λx hx=>⟨hs,?_⟩,alW hL.2.2.2 q2 (c3.trans (hid.trans hvi.symm))⟩,λx hx=>?_⟩
 .rcases Ic hx with hx | rfl
  .exact(hL.2.2.1 x hx).2
  .exact c1
 .rcases Ic hx with hx | rfl
  .exact hL8 x hx
  .exact c2
def xV:List VD:=[(⟨#[120]⟩,0,())]
def xF:List FD:=[(⟨#[102]⟩,[(1,1,0,0,0,1,0,0,()),(11,2,1,0,0,0,0,1,())],())]
def xT:List SD:=[(0,0,()),(0,0,())]
def xP:PD:=(xV,[],[],xF,xT,())
def xt(id:Int):TD:=(id,0,1,[0,1,0,0,0,0,0,0],0,0,0,1,0,[],())
def xu:TD:=(0,0,2,[0,1,0,0,0,0,0,0],1,0,0,2,0,[],())
def xi:ID:=(11,2,1,0,0,0,0,1,())
def xm(v:Int):MD:=([v],[],[],[],())
def xe(id v:Int):ED:=(id,0,5,0,-1,-1,1,v,v+1,())
theorem ahH:(aG xV [] [] xF xT).1=0:=by rfl
theorem abT(h:b=4\/b=32):dG (aG xV [] [] xF xT).1 b=0:=iw.2 ⟨ahH,by omega,by omega⟩
theorem aop(h:b=4\/b=32):pI (aG xV [] [] xF xT).1 xF b xT=[xt 0,xt 1]:=by
 rcases h with rfl | rfl<;>rfl
theorem aoq:(x9 xV [] [] xF xT).1=xm 0:=by rfl
theorem ND(h:b=4\/b=32):VS xV [] [] xF xT b [xt 0,xt 1] (xm 0) []/\NC [xt 0,xt 1]:=by
 have:=alV (abT h);rw[aop h,aoq]at this;exact this
theorem aor(h:VS xV [] [] xF xT b l m []) (h8:NC l) (hl:l.length=2):iJ l:=abS h h8 (by omega)
theorem VG(v:Int):bI (xm v):=vY (m:=xm v) rfl
theorem TM(hV:uh [] xF 32 t) (h1:t.2.2.2.2.2.2.2.1=1):gQ (aG xV [] [] xF xT).1 [] xF t=atR xF t.2.1 t.2.2.1:=by
 unfold gQ;rw[if_pos ⟨ahH,h1,hV⟩]
theorem alY:jH (aG xV [] [] xF xT).1 [] xF [xt 0,xt 1] 0=(xt 0,xi,true):=by
 have hV:=(ND (.inr rfl)).1.2.2.1 (xt 0) (by simp)
 unfold jH;rw[show yc [xt 0,xt 1] 0=some (xt 0) from rfl]
 show(xt 0,(gQ _ _ _ _).1,(gQ _ _ _ _).2)=_;rw[TM hV.2 rfl];rfl
theorem aos(id:Int):labS (xm 0) (xt id) xi=xe id 0:=by rfl
theorem aot:lS (xm 0) (xe 0 0)=(xm 1,0):=by
 have hf:dW (xm 0)=true:=(rG (ND (.inl rfl)).1.1).2.1;unfold lS;rw[if_pos (.inl rfl)];unfold writeM;rw[if_pos (gW.2 ⟨hf,by decide,by decide⟩),if_pos (show bW (xe 0 0).2.2.2.2.2.2.2.2.1=true from rfl)]
 rfl
theorem aou(h:b=4\/b=32):(kW (aG xV [] [] xF xT).1 [] xF b (xt 0) 0).1=xu:=by
 have hV:=(ND h).1.2.2.1 (xt 0) (by simp)
 unfold kW;rw[if_neg (by rw[abT h];simp),if_neg (by simpa using hV.2),if_neg (by decide),if_neg (by decide)]
 rcases h with rfl | rfl<;>rfl
theorem abU(h:b=4\/b=32):rH xV [] [] xF xT b ([xt 0,xt 1],xm 0,[],()) 0=(([xu,xt 1],xm 1,[],()),xe 0 0,0):=by
 rw[JZ (abT h) (jW.2 (ND h).1) alY];show(if(true && C9 [xt 0,xt 1] (xm 0) (xt 0) xi)=false then _ else if(lS (xm 0) (labS (xm 0) (xt 0) xi)).2≠0 then _ else if(labS (xm 0) (xt 0) xi).2.2.1=16/\_ then _ else _)=_
 rw[aos,aot,show C9 [xt 0,xt 1] (xm 0) (xt 0) xi=true by rfl]
 rw[if_neg (by simp),if_neg (by simp),if_neg (by rintro⟨h,_⟩;exact absurd h (by decide)),if_neg (by decide)]
 rw[show Ba xi (xe 0 0)=0 by rfl,aou h]
 rfl
theorem agL(h:b=4\/b=32):VS xV [] [] xF xT b [xu,xt 1] (xm 1) []/\NC [xu,xt 1]:=by
 have:=alX (vs:=xV) (ms:=[]) (cs:=[]) (fs:=xF) (ts:=xT) (bound:=b) (id:=0) (z:=([xt 0,xt 1],xm 0,[],())) (by rw[abU h]) (ND h).2 (by simp) (VG 0)
 rw[abU h]at this;exact this
theorem alZ:wz xV [] [] xF xT [xt 0,xt 1] (xm 0) []=[0,1]:=by
 have hV:=(ND (.inr rfl)).1;unfold wz;rw[if_pos (jW.2 hV)];have e:∀i,uh [] xF 32 (xt i)->Qg (aG xV [] [] xF xT).1 [] xF [xt 0,xt 1] (xm 0) (xt i)=true:=by
  intro i hi;unfold Qg;rw[TM hi rfl];rfl
 unfold sS;rw[ahQ (e 0 (hV.2.2.1 _ (by simp)).2),ahQ (e 1 (hV.2.2.1 _ (by simp)).2)]
 rfl
theorem al0:wz xV [] [] xF xT [xu,xt 1] (xm 1) []=[1]:=by
 have hV:=(agL (.inr rfl)).1;unfold wz;rw[if_pos (jW.2 hV)];have e:Qg (aG xV [] [] xF xT).1 [] xF [xu,xt 1] (xm 1) (xt 1)=true:=by
  unfold Qg;rw[TM (hV.2.2.1 _ (by simp)).2 rfl];rfl
 have e2:Qg (aG xV [] [] xF xT).1 [] xF [xu,xt 1] (xm 1) xu=false:=by
  unfold Qg gQ;rw[if_neg (by rintro⟨_,h,_⟩;exact absurd h (by decide))]
  rfl
 unfold sS;rw[List.filter_cons_of_neg (by rw[e2];simp),ahQ e]
 rfl
theorem aov:nV xV [] [] xF xT [xu,xt 1] (xm 1) [] 1=(xe 1 1,true):=by
 have hV:=(agL (.inr rfl)).1;have hr:jH (aG xV [] [] xF xT).1 [] xF [xu,xt 1] 1=(xt 1,xi,true):=by
  unfold jH;rw[show yc [xu,xt 1] 1=some (xt 1) from rfl]
  show(xt 1,(gQ _ _ _ _).1,(gQ _ _ _ _).2)=_;rw[TM (hV.2.2.1 _ (by simp)).2 rfl];rfl
 unfold nV;rw[if_pos (jW.2 hV),hr];rfl
abbrev ahI:CT:={ ps:=[],pre:=λd=>True,res:=λd=>([],.one (iG o9 xP)) }
abbrev aow  : Nat->Option (St->jv):=λ_=>none
theorem al3 :
 let z1:=((0:Int),(0:Int),());rE (aZ.one (SV.agg [SC.sl ER xV,SC.sl Sh.str [],SC.sl Sh.str [],SC.sl BA xF,SC.sl lU xT])) (aZ.one (SV.agg [SC.sl ER [({ data:=#[(120:UInt8)]:ByteArray },(0:Int),())],SC.sl Sh.str [],SC.sl Sh.str [],SC.sl BA [({ data:=#[(102:UInt8)]:ByteArray },[((1:Int),(1:Int),(0:Int),(0:Int),(0:Int),(1:Int),(0:Int),(0:Int),()),((11:Int),(2:Int),(1:Int),(0:Int),(0:Int),(0:Int),(0:Int),(1:Int),())],())],SC.sl lU [z1,z1]])):=by
 conv=>zeta
 exact⟨rfl,rfl⟩
theorem agN:aU aT.gd 31 ahI:=
 dQ (cx:=aT) (n:=14) (cl:=[]) (rc:=[.data o9]) au trivial Tryz.func31 λd hd=>by
  obtain⟨⟩:=d;exact aJ (aow ) (al3 ) (by kernel_rfl)
abbrev TN:CT:={ ps:=[.sl (.int .i64),.sl (.int .i64)],pre:=λd=>d.1.length<=1000000,res:=λd=>([],vB (nG d.1 d.2.1)) }
abbrev aox(l m:List Int):Nat->Option (St->jv):=λk=>match k with
 | 4=>some λ_=>.inv { α:=Nat,slots:=λk=>[(5,.c (.v (.int .i64 k)))],res:=λk=>[],inv:=λk=>k<=(l).length/\∀j < k,l[j]?=m[j]?,meas:=λk=>(l).length - k }
 | _=>none
theorem al4(l m:List Int) (aF:TN.pre (l,m,())):
 let z1:=λ(x:Nat)=>(x<=l.length/\∀(j:Nat),j < x->l[j]?=m[j]?);br (!decide ((l.length:Int)=(m.length:Int))) (qB (nG l m) false) ((∃x,(z1 x)/\(cI 0=cI (x:Int)/\True)/\([]:List dJ)=[])/\∀(x:Nat),(z1 x)->br (decide ((x:Int) < (l.length:Int))) ((0<=(x:Int)/\(x:Int) < (l.length:Int))/\∀(d:Int),l[(x:Int).toNat]?=some d->(0<=(x:Int)/\(x:Int) < (m.length:Int))/\∀(dI:Int),m[(x:Int).toNat]?=some dI->br (!decide (d=dI)) (qB (nG l m) false) (iR ((x:Int)+(1:Int))/\∃x',(z1 x')/\(cI ((x:Int)+(1:Int))=cI (x':Int)/\True)/\([]:List dJ)=[]/\l.length - x' < l.length - x)) (qB (nG l m) true)):=by
 conv=>zeta
 delta dJ iR;have hp:l.length<=1000000:=aF;have fF:l≠m->qB (nG l m) false:=λq=>⟨rfl,by rw[ou q]⟩
 refine ah.2 ⟨λh=>fF λq=>?_,λh=>?_⟩
 .subst q;simp at h
 simp only[wU,dH]at h;refine⟨⟨0,⟨by omega,λj hj=>by omega⟩,⟨rfl,trivial⟩,rfl⟩,λk hk=>ah.2 ⟨λg=>?_,λg=>?_⟩⟩
 .simp only[dH]at g;refine⟨⟨by omega,by omega⟩,λd hd=>⟨⟨by omega,by omega⟩,λd1 hd1=>ah.2 ⟨λg2=>fF λq=>?_,λg2=>⟨ak.2 (by omega),k+1,⟨by omega,λj hj=>?_⟩,⟨rfl,trivial⟩,rfl,by omega⟩⟩⟩⟩
  .subst q;rw[hd]at hd1;cases hd1;simp at g2
  .by_cases gU:j=k
   .subst gU;have hd:l[j]?=some d:=hd;have hd1:m[j]?=some d1:=hd1;have g2:d=d1:=by simpa using g2
    rw[hd,hd1,g2]
   .exact hk.2 j (by omega)
 simp only[eX]at g;have e:l=m:=by
  apply Ie;intro j
  by_cases hj:j < k
  .exact hk.2 j hj
  .rw[BL (by omega),BL (by omega)]
 exact⟨rfl,by rw[kM e]⟩
theorem TP:aU aT.gd 18 TN:=
 dQ (cx:=aT) (n:=26) (cl:=[]) (rc:=[]) au trivial Tryz.func18 λd hd=>by
  obtain⟨l,m,⟨⟩⟩:=d;exact aJ (aox l m) (al4 l m hd) (by kernel_rfl)
abbrev abV:CT:={ ps:=[],pre:=λd=>True,res:=λd=>([],vB (true)) }
abbrev aoy  : Nat->Option (St->jv):=λ_=>none
theorem al5 :
 let z11:=1<=1000000/\0<=1000000/\0<=1000000/\1<=1000000/\2<=1000000/\(∀(x:FD),x∈xF->List.length x.snd.fst<=1000000)/\2<=1000000;let z12:=pI (0:Int) xF (4:Int) xT;let z10:=wz xV [] [] xF xT z12 (List.map (λx=>x.snd.fst) xV,List.replicate 0 (-1:Int),List.replicate 0 [],[],()) [];let z9:=rH xV [] [] xF xT (4:Int) (pI (0:Int) xF (4:Int) xT,(List.map (λx=>x.snd.fst) xV,List.replicate 0 (-1:Int),List.replicate 0 [],[],()),[],()) (0:Int);let z8:=z9.snd.snd=0;let z2:=true && z9.snd.fst.fst == (0:Int) && z9.snd.fst.snd.fst == (0:Int) && z9.snd.fst.snd.snd.fst == (5:Int) && z9.snd.fst.snd.snd.snd.fst == (0:Int) && z9.snd.fst.snd.snd.snd.snd.fst == (-1:Int) && z9.snd.fst.snd.snd.snd.snd.snd.fst == (-1:Int) && z9.snd.fst.snd.snd.snd.snd.snd.snd.fst == (1:Int) && z9.snd.fst.snd.snd.snd.snd.snd.snd.snd.fst == (0:Int) && z9.snd.fst.snd.snd.snd.snd.snd.snd.snd.snd.fst == (1:Int);let z6:=nV xV [] [] xF xT z9.fst.fst z9.fst.snd.fst z9.fst.snd.snd.fst (1:Int);let z4:=z6.fst.snd.snd.snd.snd.snd.snd.snd.fst=1;let z3:=z6.fst.snd.snd.snd.snd.snd.snd.snd.snd.fst=2;let z5:=z6.fst.fst=1;let z1:=decide z8 && z2 && z6.snd && decide z4 && decide z3 && decide z5 && nG z9.fst z9.fst && !nG (pI (0:Int) xF (4:Int) xT,(List.map (λx=>x.snd.fst) xV,List.replicate 0 (-1:Int),List.replicate 0 [],[],()),[],()) z9.fst;let z7:=wz xV [] [] xF xT z9.fst.fst z9.fst.snd.fst z9.fst.snd.snd.fst;True/\z11/\(true=true->z11/\iJ z12/\bI (List.map (λx=>x.snd.fst) xV,List.replicate 0 (-1:Int),List.replicate 0 [],[],()))/\(true=true->z10.length<=1000000)/\br (false || !nG z10 [(0:Int),(1:Int)]) (qB true false) ((z11/\iJ z12/\2<=999999/\true=true/\Gl [])/\(z11/\iJ z9.fst.fst/\bI z9.fst.snd.fst)/\((decide z8 && z2 && z6.snd && decide z4 && decide z3 && decide z5)=true->abq z9.fst)/\((decide z8 && z2 && z6.snd && decide z4 && decide z3 && decide z5 && nG z9.fst z9.fst)=true->abq (pI (0:Int) xF (4:Int) xT,(List.map (λx=>x.snd.fst) xV,List.replicate 0 (-1:Int),List.replicate 0 [],[],()),[],()))/\(z1=true->z11/\iJ z9.fst.fst/\bI z9.fst.snd.fst)/\(z1=true->z7.length<=1000000)/\qB true (decide z8 && z2 && z6.snd && decide z4 && decide z3 && decide z5 && nG z9.fst z9.fst && !nG (pI (0:Int) xF (4:Int) xT,(List.map (λx=>x.snd.fst) xV,List.replicate 0 (-1:Int),List.replicate 0 [],[],()),[],()) z9.fst && nG z7 [(1:Int)])):=by
 conv=>zeta
 have e1:pI (0:Int) xF (4:Int) xT=[xt 0,xt 1]:=by rfl
 have e2:((List.map (λx:VD=>x.2.1) xV,List.replicate 0 (-1:Int),List.replicate 0 [],[],()):MD)=xm 0:=by rfl
 have e3:rH xV [] [] xF xT 4 ([xt 0,xt 1],xm 0,[],()) 0=(([xu,xt 1],xm 1,[],()),xe 0 0,0):=abU (.inl rfl);rw[e1,e2];simp only[e3,alZ,al0,aov];have hF:∀(x:FD),x∈xF->x.2.1.length<=1000000:=by
  intro x hx;simp only[xF,A82]at hx;subst hx;decide
 have B:1<=1000000/\0<=1000000/\0<=1000000/\1<=1000000/\2<=1000000/\(∀(x:FD),x∈xF->x.2.1.length<=1000000)/\2<=1000000:=⟨by decide,by decide,by decide,by decide,by decide,hF,by decide⟩
 have t0:iJ [xt 0,xt 1]:=aor (ND (.inl rfl)).1 (ND (.inl rfl)).2 rfl;have t1:iJ [xu,xt 1]:=aor (agL (.inl rfl)).1 (agL (.inl rfl)).2 rfl;have bb:Gl []:=⟨by decide,λb hb=>nomatch hb⟩
 have ne:nG (([xt 0,xt 1],xm 0,[],()):ZD) ([xu,xt 1],xm 1,[],())=false:=ou λh=>by
  have:=rJ (λz:ZD=>z.2.1.1) h
  simp[xm]at this
 have e4:nG ([0,1]:List Int) [0,1]=true:=kM rfl;have e5:nG ([1]:List Int) [1]=true:=kM rfl;have e6:nG (([xu,xt 1],xm 1,[],()):ZD) ([xu,xt 1],xm 1,[],())=true:=kM rfl;refine⟨trivial,B,λ_=>⟨B,t0,VG 0⟩,λ_=>by decide,ah.2 ⟨λh=>?_,λ_=>⟨⟨B,t0,by decide,trivial,bb⟩,⟨B,t1,VG 1⟩,λ_=>⟨t1,VG 1,bb⟩,λ_=>⟨t0,VG 0,bb⟩,λ_=>⟨B,t1,VG 1⟩,λ_=>by decide,jE ?_⟩⟩⟩
 .rw[e4]at h;cases h
 .rw[e5,e6,ne];rfl
theorem agO:aU aT.gd 11 abV:=
 dQ (cx:=aT) (n:=89) (cl:=[(31,ahI),(12,abQ),(19,yg),(18,TN),(21,abM),(16,FB),(24,abD)]) (rc:=[]) au ⟨agN,agG,Tv,TP,agD,Tz,agw,trivial⟩ Tryz.func11 λd hd=>by
  obtain⟨⟩:=d;exact aJ (aoy ) (al5 ) (by kernel_rfl)
def pJ(m:MD) (t:TD) (i:ID):ED->ED
 | (ag,ix,kd,eo,mx,en,ng,rd,wr,_)=>if i.1=18 then(if t.2.2.2.2.2.2.1=0 then(ag,ix,12,eo,i.2.2.2.2.2.1,en,ng,rd,wr,()) else if t.2.2.2.2.2.2.1=1 then(ag,ix,13,eo,mx,en,ng,rd,wr,()) else(ag,ix,9,i.2.2.2.2.2.1,mx,en,ng,rd,wr,()))
   else if i.1=19 then(ag,ix,14,eo,mx,en,ng,jU (m.2.2.1[i.2.2.2.2.1.toNat]?.getD []).length 1,wr,())
   else if i.1=20 then(ag,ix,15,eo,mx,en,ng,(m.2.2.1[i.2.2.2.2.1.toNat]?.getD []).length,wr,())
   else if i.1=21 then(ag,ix,16,(cO t.1 t.2.2.2.2.2.1).1,mx,en,ng,rd,wr,())
   else if i.1=22 then(ag,ix,17,t.2.2.2.1.getD i.2.2.1.toNat 0,mx,en,ng,rd,wr,()) else(ag,ix,kd,eo,mx,en,ng,rd,wr,())
def VH(l:List TD) (id:Int):Bool:=match yc l id with
 | some u=>decide (u.2.2.2.2.2.2.2.1=2) || decide (u.2.2.2.2.2.2.2.1=3)
 | none=>false
theorem abW(he:e=0) (hV:uh ms fs 32 t) (h1:t.2.2.2.2.2.2.2.1=1):∃i,mZ fs t.2.1 t.2.2.1=some i/\gQ e ms fs t=(i,true):=by
 obtain⟨_,_,i,hi,_⟩:=AV hV h1;refine⟨i,hi,?_⟩;unfold gQ atR;rw[if_pos ⟨he,h1,hV⟩,hi]
theorem abX(h1:¬t.2.2.2.2.2.2.2.1=1):gQ e ms fs t=(zI,false):=by
 unfold gQ;rw[if_neg λq=>h1 q.2.1];rfl
theorem abY(hV:uh ms fs b t) (hi:mZ fs t.2.1 t.2.2.1=some i):(0<=t.2.1/\t.2.1 < (fs.length:Int))/\∀d:FD,fs[t.2.1.toNat]?=some d->(0<=t.2.2.1/\t.2.2.1 < (d.2.1.length:Int))/\∀j,d.2.1[t.2.2.1.toNat]?=some j->j=i:=by
 obtain⟨f1,f2⟩:=AY (oV hV);refine⟨f1,λd hd=>?_⟩
 unfold mZ codeF at hi;rw[J5,hd]at hi;have hi:d.2.1[t.2.2.1.toNat]?=some i:=hi;have:=(A8.1 hi).1;exact⟨⟨f2,by omega⟩,λj hj=>by rw[hi]at hj;exact(Ig hj).symm⟩
theorem agP{k:Nat} (q3:l.find? (λt=>decide (t.1=id))=some t):jH e ms fs l id=(t,(gQ e ms fs t).1,(gQ e ms fs t).2):=by
 unfold jH yc;rw[q3]
theorem al6(hV:uh ms fs b t):0<=t.2.2.2.2.2.2.1/\t.2.2.2.2.2.2.1<=2:=by
 have h:=oV hV;obtain⟨id,fn,pc,rg,st,ch,ph,su,fa,he,u⟩:=t;have:=h.2.2.2.2.2.2.2.2;show 0<=ph/\ph<=2;rcases this with q | ⟨q,_⟩<;>omega
theorem al7(b:Bool):
 br b (qI (Gj b) (1:Int)) (qI (Gj b) (0:Int)):=by
 cases b<;>exact⟨rfl,rfl⟩
theorem agQ:aU aT.gd 92 JW:=
 dQ (cx:=aT) (n:=4) (cl:=[]) (rc:=[]) au trivial Tryz.func92 λd hd=>by
  obtain⟨b,⟨⟩⟩:=d;exact aJ (λ_=>none) (al7 b) (by kernel_rfl)
abbrev abZ:CT:={ ps:=[.int .i64,.int .i64,.int .i64],pre:=λd=>True,res:=λd=>([],.one (.c (.v (.int .i64 ((dZ d.1 d.2.1 d.2.2.1).1))))) }
theorem al8(f x y:Int):
 True/\qI ((dZ f x y).fst) ((dZ f x y).fst):=by
 exact⟨trivial,rfl,rfl⟩
theorem TQ:aU aT.gd 91 abZ:=
 dQ (cx:=aT) (n:=17) (cl:=[(159,aaL)]) (rc:=[]) au ⟨aaM,trivial⟩ Tryz.func91 λd hd=>by
  obtain⟨f,x,y,⟨⟩⟩:=d;exact aJ (λ_=>none) (al8 f x y) (by kernel_rfl)
abbrev aoz(l:List Int) (x:Int):Nat->Option (St->jv):=λk=>match k with
 | 2=>some λ_=>.inv { α:=Nat,slots:=λk=>[(5,.c (.v (.int .i64 k)))],res:=λk=>[],inv:=λk=>k<=(l).length/\∀j < k,∀y,l[j]?=some y->¬y=x,meas:=λk=>(l).length - k }
 | _=>none
theorem al9(l:List Int) (x:Int) (aF:xY.pre (l,x,())):
 let z1:=λ(x_1:Nat)=>(x_1<=l.length/\∀(j:Nat),j < x_1->∀(y:Int),l[j]?=some y->¬y=x);(∃x_1,(z1 x_1)/\(cI 0=cI (x_1:Int)/\True)/\([]:List dJ)=[])/\∀(x_1:Nat),(z1 x_1)->br (decide ((x_1:Int) < (l.length:Int))) ((0<=(x_1:Int)/\(x_1:Int) < (l.length:Int))/\∀(d:Int),l[(x_1:Int).toNat]?=some d->br (decide (d=x)) (qB (dP l x) true) (iR ((x_1:Int)+(1:Int))/\∃x',(x'<=l.length/\∀(j:Nat),j < x'->∀(y:Int),l[j]?=some y->¬y=x)/\(cI ((x_1:Int)+(1:Int))=cI (x':Int)/\True)/\([]:List dJ)=[]/\l.length - x' < l.length - x_1)) (qB (dP l x) false):=by
 conv=>zeta
 delta dJ iR;have hp:l.length<=1000000:=aF;refine⟨⟨0,⟨by omega,λj hj=>by omega⟩,⟨rfl,trivial⟩,rfl⟩,λk hk=>ah.2 ⟨λh=>?_,λh=>?_⟩⟩
 .simp only[dH]at h;have hN:(k:Int).toNat=k:=by omega
  rw[hN];refine⟨by omega,λd hd=>ah.2 ⟨λh2=>⟨rfl,?_⟩,λh2=>⟨ak.2 (by omega),k+1,⟨by omega,λj hj y hy=>?_⟩,⟨rfl,trivial⟩,rfl,by omega⟩⟩⟩
  .have e:dP l x=true:=by
    unfold dP;exact Ku.2 ⟨d,iy hd,h2⟩
   rw[e]
  .by_cases gU:j=k
   .subst gU;rw[hd]at hy;cases hy;simpa using h2
   .exact hk.2 j (by omega) y hy
 .simp only[eX]at h;have e:dP l x=false:=by
   unfold dP;rw[Ub];intro i hi;obtain⟨j,hj⟩:=yu hi;simpa using hk.2 j (by have:=(A8.1 hj).1;omega) i hj
  rw[e];exact⟨rfl,rfl⟩
theorem agR:aU aT.gd 53 xY:=
 jG (cx:=aT) (n:=18) (cl:=[]) au trivial Tryz.func53 λd hd=>by
  obtain⟨l,x,⟨⟩⟩:=d;exact aJ (aoz l x) (al9 l x hd) (by kernel_rfl)
abbrev ab1:CT:={ ps:=[.sl dX,.int .i64],pre:=λd=>d.1.length<=1000000,res:=λd=>([],vB (VH d.1 d.2.1)) }
theorem ama(th:List TD) (x:Int) (aF:ab1.pre (th,x,())):
 let z3:=0<=eU (λt=>decide (t.fst=x)) th;let z4:=eU (λt=>decide (t.fst=x)) th;let z2:=dO z4 (0:Int);let z1:=λ(d:TD)=>!decide (d.snd.snd.snd.snd.snd.snd.snd.fst=2) && decide z3;th.length<=1000000/\(decide z3=true->0<=dO z4 (0:Int)/\dO z4 0 < (th.length:Int))/\∀(d:TD),(decide z3=true->th[z2.toNat]?=some d)->((z1 d)=true->0<=dO z4 (0:Int)/\dO z4 0 < (th.length:Int))/\∀(dI:TD),((z1 d)=true->th[z2.toNat]?=some dI)->qB (VH th x) (decide z3 && (decide (d.snd.snd.snd.snd.snd.snd.snd.fst=2) || decide (dI.snd.snd.snd.snd.snd.snd.snd.fst=3))):=by
 conv=>zeta
 have hl:th.length<=1000000:=aF;have hx:0<=eU (λt=>decide (t.1=x)) th->0<=dO (eU (λt=>decide (t.1=x)) th) 0/\dO (eU (λt=>decide (t.1=x)) th) 0 < (th.length:Int):=λq=>by
  obtain⟨k,t,q1,q2,q3,q4⟩:=kL q;rw[q1];unfold dO;split<;>omega
 refine⟨hl,λq=>hx (Qn q),λd h1=>⟨λq=>?_,λd2 h2=>jE ?_⟩⟩
 .rw[bY]at q;exact hx (Qn q.2)
 .unfold VH yc
  by_cases q:0<=eU (λt=>decide (t.1=x)) th
  .obtain⟨k,t,q1,q2,q3,q4⟩:=kL q;have h1:=h1 (wX q);have ek:(dO (eU (λt=>decide (t.1=x)) th) 0).toNat=k:=by rw[q1];unfold dO;split<;>omega
   rw[ek,q2]at h1;have eq1:t=d:=Ig h1;subst eq1;rw[q3,wX q,FM]
   by_cases s2:t.2.2.2.2.2.2.2.1=2
   .simp[s2]
   .have h2:=h2 (by rw[yw s2,wX q];rfl)
    rw[ek,q2]at h2;have eq2:t=d2:=Ig h2;subst eq2;simp[s2]
  .rw[o8 q,yw q];rfl
theorem agS:aU aT.gd 99 ab1:=
 dQ (cx:=aT) (n:=30) (cl:=[(43,wS)]) (rc:=[]) au ⟨SX,trivial⟩ Tryz.func99 λd hd=>by
  obtain⟨th,x,⟨⟩⟩:=d;exact aJ (λ_=>none) (ama th x hd) (by kernel_rfl)
abbrev ab2:CT:={ ps:=[Kr,dX,lJ,shE],pre:=λd=>jX d.1.2.1 d.2.1 d.2.2.1,res:=λd=>([],.one (BK (pJ d.1.2.1 d.2.1 d.2.2.1 d.2.2.2.1))) }
theorem amb(th:List TD) (mv mo:List Int) (mq:List (List Int)) (mg:List Int) (bf:List BD) (id fn pc:Int) (rg:List Int) (st ch ph su fa:Int) (he:List Int) (op a b c obj n fo ord ag ix kd eo mx en ng rd wr:Int) (aF:ab2.pre ((th,(mv,mo,mq,mg,()),bf,()),(id,fn,pc,rg,st,ch,ph,su,fa,he,()),(op,a,b,c,obj,n,fo,ord,()),(ag,ix,kd,eo,mx,en,ng,rd,wr,()),())):
 let z4:=(ag,ix,kd,eo,mx,en,ng,rd,wr,());let z3:=pJ (mv,mo,mq,mg,()) (id,fn,pc,rg,st,ch,ph,su,fa,he,()) (op,a,b,c,obj,n,fo,ord,()) z4;let z5:=0<=obj/\obj < (mq.length:Int);let z1:=((z5/\∀(d:List Int),mq[obj.toNat]?=some d->((qE z3 (ag,ix,14,eo,mx,en,ng,jU (d.length:Int) (1:Int),wr,()))/\qE z3 (ag,ix,14,eo,mx,en,ng,jU (d.length:Int) (1:Int),wr,()))/\qE z3 (ag,ix,14,eo,mx,en,ng,jU (d.length:Int) (1:Int),wr,()))/\z5/\∀(d:List Int),mq[obj.toNat]?=some d->qE z3 (ag,ix,14,eo,mx,en,ng,jU (d.length:Int) (1:Int),wr,()));let z2:=((z5/\∀(d:List Int),mq[obj.toNat]?=some d->(qE z3 (ag,ix,15,eo,mx,en,ng,(d.length:Int),wr,()))/\qE z3 (ag,ix,15,eo,mx,en,ng,(d.length:Int),wr,()))/\z5/\∀(d:List Int),mq[obj.toNat]?=some d->qE z3 (ag,ix,15,eo,mx,en,ng,(d.length:Int),wr,()));br (decide (op=18)) (br (decide (ph=0)) ((qE z3 (ag,ix,12,eo,n,en,ng,rd,wr,()))/\qE z3 (ag,ix,12,eo,n,en,ng,rd,wr,())) (br (decide (ph=1)) (qE z3 (ag,ix,13,eo,mx,en,ng,rd,wr,())) ((qE z3 (ag,ix,9,n,mx,en,ng,rd,wr,()))/\qE z3 (ag,ix,9,n,mx,en,ng,rd,wr,())))) (br (decide (op=19)) (z1/\z1/\z5/\∀(d:List Int),mq[obj.toNat]?=some d->qE z3 (ag,ix,14,eo,mx,en,ng,jU (d.length:Int) (1:Int),wr,())) (br (decide (op=20)) (z2/\z2/\z5/\∀(d:List Int),mq[obj.toNat]?=some d->qE z3 (ag,ix,15,eo,mx,en,ng,(d.length:Int),wr,())) (br (decide (op=21)) (id<=9223372036854775807/\qE z3 (ag,ix,16,(cO id ch).fst,mx,en,ng,rd,wr,())) (br (decide (op=22)) (((0<=b/\b < 8)/\(b.toNat < 8/\∀(d:Int),rg[b.toNat]?=some d->qE z3 (ag,ix,17,d,mx,en,ng,rd,wr,()))/\b.toNat < 8/\∀(d:Int),rg[b.toNat]?=some d->qE z3 (ag,ix,17,d,mx,en,ng,rd,wr,()))/\(0<=b/\b < 8)/\b.toNat < 8/\∀(d:Int),rg[b.toNat]?=some d->qE z3 (ag,ix,17,d,mx,en,ng,rd,wr,())) (qE z3 z4))))):=by
 conv=>zeta
 obtain⟨⟨hM,hf,hT⟩,hb,hc,hv,ho1,ho2,ho3⟩:jX (mv,mo,mq,mg,()) (id,fn,pc,rg,st,ch,ph,su,fa,he,()) (op,a,b,c,obj,n,fo,ord,()):=aF;obtain⟨t1,t2,t3⟩:he.length<=1000000/\id<=9223372036854775807/\rg.length=8:=hT;have hb:0<=b/\b < 8:=hb;have hc:0<=c/\c < 8:=hc;have hv:8<=op/\op<=22:=hv;have ho1:op<=14/\op≠13->0<=obj/\obj < (mv.length:Int):=ho1;have ho2:18<=op/\op<=20->0<=obj/\obj < (mq.length:Int):=ho2;have ho3:op=13\/15<=op->ord=0:=ho3;simp only[aO]
 repeat' (first | (refine jQ ?_) | (refine And.intro ?_ ?_) | (intro _))
 all_goals first | trivial | omega | (simp_all[pJ];done) | skip
theorem agT:aU aT.gd 94 ab2:=
 dQ (cx:=aT) (n:=72) (cl:=[(160,Sv)]) (rc:=[]) au ⟨Nb,trivial⟩ Tryz.func94 λd hd=>by
  obtain⟨⟨th,⟨mv,mo,mq,mg,⟨⟩⟩,bf,⟨⟩⟩,⟨id,fn,pc,rg,st,ch,ph,su,fa,he,⟨⟩⟩,⟨op,a,b,c,obj,n,fo,ord,⟨⟩⟩,⟨ag,ix,kd,eo,mx,en,ng,rd,wr,⟨⟩⟩,⟨⟩⟩:=d;exact aJ (λ_=>none) (amb th mv mo mq mg bf id fn pc rg st ch ph su fa he op a b c obj n fo ord ag ix kd eo mx en ng rd wr hd) (by kernel_rfl)
theorem amc(th:List TD) (mv mo:List Int) (mq:List (List Int)) (mg:List Int) (bf:List BD) (id fn pc:Int) (rg:List Int) (st ch ph su fa:Int) (he:List Int) (op a b c obj n fo ord:Int) (aF:Fz.pre ((th,(mv,mo,mq,mg,()),bf,()),(id,fn,pc,rg,st,ch,ph,su,fa,he,()),(op,a,b,c,obj,n,fo,ord,()),())):
 let z8:=(mv,mo,mq,mg,());let z6:=(id,fn,pc,rg,st,ch,ph,su,fa,he,());let z7:=(op,a,b,c,obj,n,fo,ord,());let z5:=labS z8 z6 z7;let z2:=λ(d:Int)=>jX z8 z6 z7/\qE z5 (pJ z8 z6 z7 (id,st,(2:Int),obj,(-1:Int),(-1:Int),ord,(0:Int),d,()));let z4:=λ(nU d:Int)=>jX z8 z6 z7/\qE z5 (pJ z8 z6 z7 (id,st,(5:Int),obj,(-1:Int),(-1:Int),ord,nU,d,()));let z1:=br (decide (op=13)) (jX z8 z6 z7/\qE z5 (pJ z8 z6 z7 (id,st,(7:Int),obj,(-1:Int),(-1:Int),ord,(0:Int),(0:Int),()))) (br (decide (op=15)) (jX z8 z6 z7/\qE z5 (pJ z8 z6 z7 (id,st,(9:Int),obj,(-1:Int),(-1:Int),ord,(0:Int),(0:Int),()))) (br (decide (op=16)) (jX z8 z6 z7/\qE z5 (pJ z8 z6 z7 (id,st,(10:Int),obj,(-1:Int),(-1:Int),ord,(0:Int),(0:Int),()))) (br (decide (op=17)) (bI z8/\True/\jX z8 z6 z7/\qE z5 (pJ z8 z6 z7 (id,st,(11:Int),obj,(-1:Int),(-1:Int),ord,Gj (nJ z8 obj),(0:Int),()))) (jX z8 z6 z7/\qE z5 (pJ z8 z6 z7 (id,st,(0:Int),obj,(-1:Int),(-1:Int),ord,(0:Int),(0:Int),()))))));let z3:=λ(d:Int)=>jX z8 z6 z7/\qE z5 (pJ z8 z6 z7 (id,st,(5:Int),obj,(-1:Int),(-1:Int),ord,(0:Int),d,()));(0<=b/\b < 8)/\b.toNat < 8/\∀(d:Int),rg[b.toNat]?=some d->(0<=c/\c < 8)/\c.toNat < 8/\∀(dI:Int),rg[c.toNat]?=some dI->br (decide (op<=14) && !decide (op=13)) ((0<=obj/\obj < (mv.length:Int))/\∀(nU:Int),mv[obj.toNat]?=some nU->br (decide (op=8)) (jX z8 z6 z7/\qE z5 (pJ z8 z6 z7 (id,st,(1:Int),obj,(-1:Int),(-1:Int),ord,nU,(0:Int),()))) (br (decide (op=14)) (jX z8 z6 z7/\qE z5 (pJ z8 z6 z7 (id,st,(8:Int),obj,(-1:Int),(-1:Int),ord,nU,(0:Int),()))) (br (decide (op=9)) (z2 d) (br (decide (op=10)) (z4 nU d) (br (decide (op=11)) (True/\jX z8 z6 z7/\qE z5 (pJ z8 z6 z7 (id,st,(5:Int),obj,(-1:Int),(-1:Int),ord,nU,aH (aH nU+aH d),()))) (br (decide (op=12)) (br (decide (nU=d)) (z4 nU dI) (jX z8 z6 z7/\qE z5 (pJ z8 z6 z7 (id,st,(6:Int),obj,(-1:Int),(-1:Int),ord,nU,(0:Int),())))) z1)))))) (br (decide (op=8)) (jX z8 z6 z7/\qE z5 (pJ z8 z6 z7 (id,st,(1:Int),obj,(-1:Int),(-1:Int),ord,(0:Int),(0:Int),()))) (br (decide (op=14)) (jX z8 z6 z7/\qE z5 (pJ z8 z6 z7 (id,st,(8:Int),obj,(-1:Int),(-1:Int),ord,(0:Int),(0:Int),()))) (br (decide (op=9)) (z2 d) (br (decide (op=10)) (z3 d) (br (decide (op=11)) (True/\jX z8 z6 z7/\qE z5 (pJ z8 z6 z7 (id,st,(5:Int),obj,(-1:Int),(-1:Int),ord,(0:Int),aH (0+aH d),()))) (br (decide (op=12)) (br (decide (0=d)) (z3 dI) (jX z8 z6 z7/\qE z5 (pJ z8 z6 z7 (id,st,(6:Int),obj,(-1:Int),(-1:Int),ord,(0:Int),(0:Int),())))) z1)))))):=by
 conv=>zeta
 have hP:jX (mv,mo,mq,mg,()) (id,fn,pc,rg,st,ch,ph,su,fa,he,()) (op,a,b,c,obj,n,fo,ord,()):=aF;obtain⟨⟨hM,hf,hT⟩,hb,hc,hv,ho1,ho2,ho3⟩:jX (mv,mo,mq,mg,()) (id,fn,pc,rg,st,ch,ph,su,fa,he,()) (op,a,b,c,obj,n,fo,ord,()):=aF;obtain⟨t1,t2,t3⟩:he.length<=1000000/\id<=9223372036854775807/\rg.length=8:=hT;have hb:0<=b/\b < 8:=hb;have hc:0<=c/\c < 8:=hc;have hv:8<=op/\op<=22:=hv;have ho1:op<=14/\op≠13->0<=obj/\obj < (mv.length:Int):=ho1;have ho2:18<=op/\op<=20->0<=obj/\obj < (mq.length:Int):=ho2;have ho3:op=13\/15<=op->ord=0:=ho3;have hb8:b.toNat < 8:=by omega
 have hc8:c.toNat < 8:=by omega
 refine⟨hb,hb8,λd hd=>⟨hc,hc8,λd1 hd1=>?_⟩⟩
 have eb:=Td hd;have ec:=Td hd1;refine ah.2 ⟨λg=>?_,λg=>?_⟩
 .have g:op<=14/\op≠13:=by simpa using g
  have g1:=ho1 g;refine⟨g1,λd2 h2=>?_⟩
  have ev:mv[obj.toNat]?.getD 0=d2:=by rw[h2];rfl
  have hop:op=8\/op=9\/op=10\/op=11\/op=12\/op=14:=by omega
  simp only[aO]
  repeat' (first | exact hP | (refine jQ ?_) | (refine And.intro ?_ ?_) | (intro _))
  all_goals first | trivial | omega | (simp_all[labS,pJ];done) | (simp_all[labS,pJ,dZ];done) | skip
 .have g:op<=14->op=13:=by simpa using g
  clear hb hc;have ho:ord=0:=ho3 (by omega)
  simp only[aO]
  repeat' (first | exact hP | exact hM | (refine jQ ?_) | (refine And.intro ?_ ?_) | (intro _))
  all_goals first | trivial | omega | (simp_all[labS,pJ];done) | skip
  have hop:op=18\/op=19\/op=20\/op=21\/op=22:=by omega
  rw[ho];rcases hop with e | e | e | e | e
  .subst e;show(if ph=0 then _ else if ph=1 then _ else _)=(if ph=0 then _ else if ph=1 then _ else _)
   split
   .rfl
   .split<;>rfl
  .subst e;show(_,_,_,_,_,_,_,jU 1 (mq[obj.toNat]?.getD []).length,_,_)=(_,_,_,_,_,_,_,jU (mq[obj.toNat]?.getD []).length 1,_,_);rw[show jU 1 ((mq[obj.toNat]?.getD []).length:Int)=jU (mq[obj.toNat]?.getD []).length 1 by unfold jU;split<;>split<;>omega]
  .subst e;rfl
  .subst e;rfl
  .subst e;rfl
theorem agU:aU aT.gd 44 Fz:=
 dQ (cx:=aT) (n:=113) (cl:=[(91,abZ),(93,Np),(92,JW),(94,ab2)]) (rc:=[]) au ⟨TQ,SG,agQ,agT,trivial⟩ Tryz.func44 λd hd=>by
  obtain⟨⟨th,⟨mv,mo,mq,mg,⟨⟩⟩,bf,⟨⟩⟩,⟨id,fn,pc,rg,st,ch,ph,su,fa,he,⟨⟩⟩,⟨op,a,b,c,obj,n,fo,ord,⟨⟩⟩,⟨⟩⟩:=d;exact aJ (λ_=>none) (amc th mv mo mq mg bf id fn pc rg st ch ph su fa he op a b c obj n fo ord hd) (by kernel_rfl)
abbrev ab3:CT:={ ps:=[Kr,dX,lJ],pre:=λd=>jX d.1.2.1 d.2.1 d.2.2.1/\d.1.1.length<=1000000/\(0<=d.2.1.2.2.2.2.2.2.1/\d.2.1.2.2.2.2.2.2.1<=2),res:=λd=>([],vB (C9 d.1.1 d.1.2.1 d.2.1 d.2.2.1)) }
theorem amd(th:List TD) (mv mo:List Int) (mq:List (List Int)) (mg:List Int) (bf:List BD) (id fn pc:Int) (rg:List Int) (st ch ph su fa:Int) (he:List Int) (op a b c obj n fo ord:Int) (aF:ab3.pre ((th,(mv,mo,mq,mg,()),bf,()),(id,fn,pc,rg,st,ch,ph,su,fa,he,()),(op,a,b,c,obj,n,fo,ord,()),())):
 let z2:=(mv,mo,mq,mg,());let z1:=C9 th z2 (id,fn,pc,rg,st,ch,ph,su,fa,he,()) (op,a,b,c,obj,n,fo,ord,());br (decide (op=14)) ((0<=obj/\obj < (mv.length:Int))/\∀(d:Int),mv[obj.toNat]?=some d->(0<=b/\b < 8)/\b.toNat < 8/\∀(dI:Int),rg[b.toNat]?=some dI->True/\qB z1 (!decide ((dZ fo d dI).fst=0))) (br (decide (op=15)) (bI z2/\qB z1 (nJ z2 obj)) (br (decide (op=18)) (br (decide (ph=1)) (mg.length<=1000000/\qB z1 (dP mg id)) (((!decide (ph=0))=true->bI z2)/\qB z1 (decide (ph=0) || nJ z2 n))) (br (decide (op=22)) ((0<=b/\b < 8)/\b.toNat < 8/\∀(d:Int),rg[b.toNat]?=some d->th.length<=1000000/\qB z1 (VH th d)) (qB z1 true)))):=by
 conv=>zeta
 obtain⟨⟨hM,hf,hT⟩,hb,hc,hv,ho1,ho2,ho3⟩:jX (mv,mo,mq,mg,()) (id,fn,pc,rg,st,ch,ph,su,fa,he,()) (op,a,b,c,obj,n,fo,ord,()):=aF.1;obtain⟨t1,t2,t3⟩:he.length<=1000000/\id<=9223372036854775807/\rg.length=8:=hT;have hb:0<=b/\b < 8:=hb;have hc:0<=c/\c < 8:=hc;have hv:8<=op/\op<=22:=hv;have ho1:op<=14/\op≠13->0<=obj/\obj < (mv.length:Int):=ho1;have ho2:18<=op/\op<=20->0<=obj/\obj < (mq.length:Int):=ho2;have ho3:op=13\/15<=op->ord=0:=ho3;have hl:th.length<=1000000:=aF.2.1;have hp:0<=ph/\ph<=2:=aF.2.2;have hg:mg.length<=1000000:=by have:mg.length<=1000:=hM.2.2.2.1;omega
 have hb8:b.toNat < 8:=by omega
 refine aO.2 ⟨λe=>⟨ho1 (by omega),λd hd=>⟨hb,hb8,λd1 hd1=>⟨trivial,jE ?_⟩⟩⟩,λn1=>aO.2 ⟨λe=>⟨hM,jE ?_⟩,λn2=>aO.2 ⟨λe=>aO.2 ⟨λe2=>⟨hg,jE ?_⟩,λm1=>⟨λ_=>hM,jE ?_⟩⟩,λn3=>aO.2 ⟨λe=>⟨hb,hb8,λd hd=>⟨hl,jE ?_⟩⟩,λn4=>jE ?_⟩⟩⟩⟩
 .subst e;have e1:∀l m t,C9 l m t (14,a,b,c,obj,n,fo,ord,())=decide ((dZ fo (m.1[obj.toNat]?.getD 0) (t.2.2.2.1.getD b.toNat 0)).1≠0):=λ_ _ _=>rfl
  rw[e1,<-decide_not];show decide ((dZ fo (mv[obj.toNat]?.getD 0) (rg.getD b.toNat 0)).1≠0)=_;rw[Td hd1,hd];rfl
 .subst e;rfl
 .subst e;subst e2;rfl
 .subst e;have e1:∀l m t,C9 l m t (18,a,b,c,obj,n,fo,ord,())=if t.2.2.2.2.2.2.1=1 then dP m.2.2.2.1 t.1 else if t.2.2.2.2.2.2.1=2 then nJ m n else true:=λ_ _ _=>rfl
  rw[e1];show(if ph=1 then _ else if ph=2 then _ else _)=_
  rw[if_neg m1]
  by_cases q:ph=2
  .rw[if_pos q,yw (by omega),NV]
  .rw[if_neg q,wX (by omega),NY]
 .subst e;have e1:∀l m t,C9 l m t (22,a,b,c,obj,n,fo,ord,())=VH l (t.2.2.2.1.getD b.toNat 0):=λ_ _ _=>rfl
  rw[e1];show VH th (rg.getD b.toNat 0)=_;rw[Td hd]
 .show C9 th _ _ _=_;unfold C9;rw[if_neg n1,if_neg n2,if_neg n3,if_neg n4]
theorem agV:aU aT.gd 47 ab3:=
 dQ (cx:=aT) (n:=65) (cl:=[(91,abZ),(93,Np),(53,xY),(99,ab1)]) (rc:=[]) au ⟨TQ,SG,agR,agS,trivial⟩ Tryz.func47 λd hd=>by
  obtain⟨⟨th,⟨mv,mo,mq,mg,⟨⟩⟩,bf,⟨⟩⟩,⟨id,fn,pc,rg,st,ch,ph,su,fa,he,⟨⟩⟩,⟨op,a,b,c,obj,n,fo,ord,⟨⟩⟩,⟨⟩⟩:=d;exact aJ (λ_=>none) (amd th mv mo mq mg bf id fn pc rg st ch ph su fa he op a b c obj n fo ord hd) (by kernel_rfl)
theorem ame(vs:List VD) (ms cs:List ByteArray) (fs:List FD) (ts:List SD) (th:List TD) (mv mo:List Int) (mq:List (List Int)) (mg:List Int) (bf:List BD) (id:Int) (aF:FB.pre ((vs,ms,cs,fs,ts,()),(th,(mv,mo,mq,mg,()),bf,()),id,())):
 let z8:=(mv,mo,mq,mg,());let z5:=nV vs ms cs fs ts th z8 bf id;let z2:=[BK (z5.fst),cB (z5.snd)];let z1:=rT z2 kq6;let z6:=0<=eU (λt=>decide (t.fst=id)) th;let z4:=!!decide z6;let z7:=eU (λt=>decide (t.fst=id)) th;let z3:=dO z7 (0:Int);((bnd ((vs,ms,cs,fs,ts,()),()))/\iJ th/\bI z8)/\br (!vsB vs ms cs fs ts (32:Int) th z8 bf) z1 (th.length<=1000000/\(z4=true->0<=dO z7 (0:Int)/\dO z7 0 < (th.length:Int))/\∀(d:TD),(z4=true->th[z3.toNat]?=some d)->br (!decide z6 || !decide (d.snd.snd.snd.snd.snd.snd.snd.fst=1)) z1 ((0<=dO z7 (0:Int)/\dO z7 0 < (th.length:Int))/\∀(d:TD),th[z3.toNat]?=some d->(0<=d.snd.fst/\d.snd.fst < (fs.length:Int))/\∀(dI:FD),fs[Int.toNat d.snd.fst]?=some dI->(0<=d.snd.snd.fst/\d.snd.snd.fst < ((List.length dI.snd.fst):Int))/\∀(nU:ID),dI.snd.fst[Int.toNat d.snd.snd.fst]?=some nU->jX z8 d nU/\rT z2 [BK (labS z8 d nU),cB true])):=by
 conv=>zeta
 delta kq6;obtain⟨hb,hT,hM⟩:bnd ((vs,ms,cs,fs,ts,()),())/\iJ th/\bI (mv,mo,mq,mg,()):=aF;have fin:∀{S:ED×Bool}{a:ED}{c:Bool},S=(a,c)->rT [BK S.1,cB S.2] [BK a,cB c]:=λh=>by subst h;exact⟨rfl,rfl⟩
 have hx:0<=eU (λt=>decide (t.1=id)) th->0<=dO (eU (λt=>decide (t.1=id)) th) 0/\dO (eU (λt=>decide (t.1=id)) th) 0 < (th.length:Int):=λq=>by
  obtain⟨k,t,q1,q2,q3,q4⟩:=kL q;rw[q1];unfold dO;split<;>omega
 refine⟨⟨hb,hT,hM⟩,ah.2 ⟨λh=>fin ?_,λh=>⟨hT.1,λq=>hx (by simpa using q),λd hd=>?_⟩⟩⟩
 .have h:vsB vs ms cs fs ts 32 th (mv,mo,mq,mg,()) bf=false:=by simpa using h
  unfold nV;rw[h];rfl
 have hv:vsB vs ms cs fs ts 32 th (mv,mo,mq,mg,()) bf=true:=by simpa using h
 have hV:=jW.1 hv
 by_cases q:0<=eU (λt=>decide (t.1=id)) th
 .obtain⟨k,t,q1,q2,q3,q4⟩:=kL q;have ek:(dO (eU (λt=>decide (t.1=id)) th) 0).toNat=k:=by rw[q1];unfold dO;split<;>omega
  have hd:=hd (by rw[wX q];rfl)
  rw[ek,q2]at hd;have ed:t=d:=Ig hd;subst ed;have hm:=iy q2;have hvl:=(hV.2.2.1 t hm).2;have hr:=agP (e:=(aG vs ms cs fs ts).1) (ms:=ms) (fs:=fs) (k:=k) q3;refine ah.2 ⟨λh2=>fin ?_,λh2=>⟨hx q,λd0 hd0=>?_⟩⟩
  .rw[wX q]at h2;have h2:¬t.2.2.2.2.2.2.2.1=1:=by simpa using h2
   unfold nV;rw[if_pos hv,hr,abX h2];rfl
  .rw[wX q]at h2;have h2:t.2.2.2.2.2.2.2.1=1:=by simpa using h2
   rw[ek,q2]at hd0;have ed:t=d0:=Ig hd0;subst ed;obtain⟨i,hi,hp⟩:=abW (rG hV.1).1 hvl h2;obtain⟨g1,g2⟩:=abY hvl hi;refine⟨g1,λd1 h1=>⟨(g2 d1 h1).1,λd2 h3=>?_⟩⟩
   have e2:d2=i:=(g2 d1 h1).2 d2 h3;subst e2;have hl:=zO hV.1 hM (hT.2 t hm) (by rw[show gQ (aG vs ms cs fs ts).1 ms fs t=_ from hp])
   rw[show gQ (aG vs ms cs fs ts).1 ms fs t=_ from hp]at hl hr
   refine⟨hl,fin ?_⟩;unfold nV;rw[if_pos hv,hr];rfl
 .rw[yw q];refine ah.2 ⟨λh2=>fin ?_,λh2=>by cases h2⟩
  have hr:jH (aG vs ms cs fs ts).1 ms fs th id=(zT,zI,false):=by unfold jH yc;rw[o8 q]
  unfold nV;rw[if_pos hv,hr];rfl
theorem agW:aU aT.gd 17 FB:=
 dQ (cx:=aT) (n:=54) (cl:=[(28,JU),(43,wS),(44,Fz)]) (rc:=[.keep,.keep]) au ⟨Tc,SX,agU,trivial⟩ Tryz.func17 λd hd=>by
  obtain⟨⟨vs,ms,cs,fs,ts,⟨⟩⟩,⟨th,⟨mv,mo,mq,mg,⟨⟩⟩,bf,⟨⟩⟩,id,⟨⟩⟩:=d;exact aJ (λ_=>none) (ame vs ms cs fs ts th mv mo mq mg bf id hd) (by kernel_rfl)
abbrev aoA(vs:List VD) (ms cs:List ByteArray) (fs:List FD) (ts:List SD) (th:List TD) (mv mo:List Int) (mq:List (List Int)) (mg:List Int) (bf:List BD):Nat->Option (St->jv):=λk=>match k with
 | 5=>some λ_=>.inv { α:=Nat,nil:=[(5,3,.int .i64)],slots:=λk=>[(6,.c (.v (.int .i64 k))),(5,.c (.row 2))],res:=λk=>[(2,.row 3 (.int .i64) (sS (aG vs ms cs fs ts).1 ms fs th (mv,mo,mq,mg,()) (th.take k)))],inv:=λk=>k<=th.length,meas:=λk=>th.length - k }
 | _=>none
theorem amf(vs:List VD) (ms cs:List ByteArray) (fs:List FD) (ts:List SD) (th:List TD) (mv mo:List Int) (mq:List (List Int)) (mg:List Int) (bf:List BD) (aF:yg.pre ((vs,ms,cs,fs,ts,()),(th,(mv,mo,mq,mg,()),bf,()),())):
 let z7:=(mv,mo,mq,mg,());let z4:=aZ.one (SV.c (SC.sl I6 (wz vs ms cs fs ts th z7 bf)));let z8:=bP vs ms cs fs ts;let z6:=bZ th mv mo mq mg bf;let z2:=λ(x:Nat)=>sS (aG vs ms cs fs ts).fst ms fs th z7 (List.take x th);let z1:=λ(x:Nat)=>[g0 z8,g0 z6,g0 (ay.row 3 I6 (z2 x))];let z5:=λ(d:TD)=>d.snd.snd.snd.snd.snd.snd.snd.fst=1;let z3:=λ(x x':Nat)=>cI ((x:Int)+(1:Int))=cI (x':Int)/\sm (SV.c (SC.row 2))/\True;((bnd ((vs,ms,cs,fs,ts,()),()))/\iJ th/\bI z7)/\br (!vsB vs ms cs fs ts (32:Int) th z7 bf) (rE z4 (aZ.one (SV.c (SC.sl I6 [])))) ((∃x,x<=th.length/\(cI 0=cI (x:Int)/\sm (SV.c (SC.row 2))/\True)/\[g0 z8,g0 z6,g0 (ay.row 3 I6 [])]=(z1 x))/\∀(x:Nat),x<=th.length->br (decide ((x:Int) < (th.length:Int))) ((0<=(x:Int)/\(x:Int) < (th.length:Int))/\∀(d:TD),th[(x:Int).toNat]?=some d->(decide (z5 d)=true->0<=d.snd.fst/\d.snd.fst < (fs.length:Int))/\∀(dI:FD),(decide (z5 d)=true->fs[Int.toNat d.snd.fst]?=some dI)->(decide (z5 d)=true->0<=d.snd.snd.fst/\d.snd.snd.fst < ((List.length dI.snd.fst):Int))/\∀(nU:ID),(decide (z5 d)=true->dI.snd.fst[Int.toNat d.snd.snd.fst]?=some nU)->(decide (z5 d)=true->jX z7 d nU/\th.length<=1000000/\0<=d.snd.snd.snd.snd.snd.snd.fst/\d.snd.snd.snd.snd.snd.snd.fst<=2)/\br (decide (z5 d) && C9 th z7 d nU) (nR ((z2 x).length+[d.fst].length) 8/\iR ((x:Int)+(1:Int))/\∃x',x'<=th.length/\(z3 x x')/\[g0 z8,g0 z6,g0 (ay.row 3 I6 (sS (aG vs ms cs fs ts).fst ms fs th z7 (List.take x th)++[d.fst]))]=(z1 x')/\th.length - x' < th.length - x) (iR ((x:Int)+(1:Int))/\∃x',x'<=th.length/\(z3 x x')/\(z1 x)=(z1 x')/\th.length - x' < th.length - x)) (rE z4 (aZ.one (SV.c (SC.sl I6 (z2 x)))))):=by
 conv=>zeta
 delta iR;obtain⟨hb,⟨hl,hT⟩,hM⟩:bnd ((vs,ms,cs,fs,ts,()),())/\iJ th/\bI (mv,mo,mq,mg,()):=aF;refine⟨⟨hb,⟨hl,hT⟩,hM⟩,ah.2 ⟨λh=>?_,λh=>⟨⟨0,by omega,⟨rfl,rfl,trivial⟩,by simp[sS]⟩,λk hk=>ah.2 ⟨λg=>?_,λg=>?_⟩⟩⟩⟩
 .have h:vsB vs ms cs fs ts 32 th (mv,mo,mq,mg,()) bf=false:=by simpa using h
  exact⟨rfl,by unfold wz;rw[h];rfl⟩
 .simp only[dH]at g;have hv:vsB vs ms cs fs ts 32 th (mv,mo,mq,mg,()) bf=true:=by simpa using h
  have hV:=jW.1 hv;have hle:(sS (aG vs ms cs fs ts).1 ms fs th (mv,mo,mq,mg,()) (th.take k)).length<=k:=by
   unfold sS;rw[VW];exact pq (TV _ _) (by rw[kX];omega)
  refine⟨⟨by omega,by omega⟩,λd hd=>?_⟩
  have hd:th[k]?=some d:=hd;have hm:=iy hd;have hvl:=(hV.2.2.1 d hm).2
  by_cases su:d.2.2.2.2.2.2.2.1=1
  .obtain⟨i,hi,hp⟩:=abW (rG hV.1).1 hvl su;have hp:gQ (aG vs ms cs fs ts).1 ms fs d=(i,true):=hp;obtain⟨g1,g2⟩:=abY hvl hi;refine⟨λ_=>g1,λd1 h1=>?_⟩
   have h1:=h1 (wX su);refine⟨λ_=>(g2 d1 h1).1,λd2 h2=>?_⟩
   have e2:d2=i:=(g2 d1 h1).2 d2 (h2 (wX su));subst e2;have hl2:=zO hV.1 hM (hT d hm) (by rw[hp])
   rw[hp]at hl2;have eT:Qg (aG vs ms cs fs ts).1 ms fs th (mv,mo,mq,mg,()) d=C9 th (mv,mo,mq,mg,()) d d2:=by unfold Qg;rw[hp];rfl
   refine⟨λ_=>⟨hl2,hl,al6 hvl⟩,ah.2 ⟨λg2=>⟨eH.2 (by simp only[wV,J9];omega),ak.2 (by omega),k+1,by omega,⟨rfl,rfl,trivial⟩,?_,by omega⟩,λg2=>⟨ak.2 (by omega),k+1,by omega,⟨rfl,rfl,trivial⟩,?_,by omega⟩⟩⟩
   all_goals rw[wX su,FM]at g2
   .rw[uU hd,if_pos (eT.trans g2)]
   .rw[uU hd,eT.trans g2];simp
  .refine⟨λq=>absurd (Qn q) su,λd1 _=>⟨λq=>absurd (Qn q) su,λd2 _=>⟨λq=>absurd (Qn q) su,ah.2 ⟨λg2=>(by rw[yw su]at g2;cases g2),λ_=>⟨ak.2 (by omega),k+1,by omega,⟨rfl,rfl,trivial⟩,?_,by omega⟩⟩⟩⟩⟩
   have eT:Qg (aG vs ms cs fs ts).1 ms fs th (mv,mo,mq,mg,()) d=false:=by unfold Qg;rw[abX su];rfl
   rw[uU hd,eT];simp
 .simp only[eX]at g;have hv:vsB vs ms cs fs ts 32 th (mv,mo,mq,mg,()) bf=true:=by simpa using h
  have ek:k=th.length:=by omega
  subst ek;rw[wB (pz _)];exact⟨rfl,by unfold wz;rw[if_pos hv]⟩
theorem agX:aU aT.gd 20 yg:=
 dQ (cx:=aT) (n:=49) (cl:=[(28,JU),(47,ab3)]) (rc:=[.data (.sl (.int .i64))]) au ⟨Tc,agV,trivial⟩ Tryz.func20 λd hd=>by
  obtain⟨⟨vs,ms,cs,fs,ts,⟨⟩⟩,⟨th,⟨mv,mo,mq,mg,⟨⟩⟩,bf,⟨⟩⟩,⟨⟩⟩:=d;exact aJ (aoA vs ms cs fs ts th mv mo mq mg bf) (amf vs ms cs fs ts th mv mo mq mg bf hd) (by kernel_rfl)
def Ql(z:ZD):Bool:=decide (z.1.length<=20) && decide (z.2.2.1.length<=20) && decide (z.2.1.1.length<=20) && decide (z.2.1.2.1.length<=20) && decide (z.2.1.2.2.1.length<=20) && decide (z.2.1.2.2.2.1.length<=40) &&
 z.1.all (λt=>decide (t.2.2.2.2.2.2.2.2.2.1.length<=20)) && z.2.2.1.all (λb=>decide (b.2.2.1.length<=40)) && z.2.1.2.2.1.all (λq=>decide (q.length<=40))
theorem zQ{th:List TD}{mv mo:List Int}{mq:List (List Int)}{mg:List Int}:Ql (th,(mv,mo,mq,mg,()),bf,())=true↔(th.length<=20/\bf.length<=20/\mv.length<=20/\mo.length<=20/\mq.length<=20/\mg.length<=40)/\(∀t∈th,t.2.2.2.2.2.2.2.2.2.1.length<=20)/\(∀b∈bf,b.2.2.1.length<=40)/\∀q∈mq,q.length<=40:=by
 unfold Ql;simp only[bY,dH,NH];constructor
 .rintro⟨⟨⟨⟨⟨⟨⟨⟨h1,h2⟩,h3⟩,h4⟩,h5⟩,h6⟩,h7⟩,h8⟩,h9⟩;exact⟨⟨h1,h2,h3,h4,h5,h6⟩,h7,h8,h9⟩
 .rintro⟨⟨h1,h2,h3,h4,h5,h6⟩,h7,h8,h9⟩;exact⟨⟨⟨⟨⟨⟨⟨⟨h1,h2⟩,h3⟩,h4⟩,h5⟩,h6⟩,h7⟩,h8⟩,h9⟩
abbrev ahJ:CT:={ ps:=[Kr],pre:=λd=>True,res:=λd=>([],vB (Ql d.1)) }
abbrev aoB(th:List TD) (mv mo:List Int) (mq:List (List Int)) (mg:List Int) (bf:List BD):Nat->Option (St->jv):=λk=>match k with
 | 4=>some λ_=>.inv { α:=Nat,slots:=λk=>[(3,.c (.v (.int .i64 k)))],res:=λ_=>[],inv:=λk=>k<=th.length/\∀j < k,∀t,th[j]?=some t->t.2.2.2.2.2.2.2.2.2.1.length<=20,meas:=λk=>th.length - k }
 | 9=>some λ_=>.inv { α:=Nat,slots:=λk=>[(4,.c (.v (.int .i64 k)))],res:=λ_=>[],inv:=λk=>k<=bf.length/\∀j < k,∀t,bf[j]?=some t->t.2.2.1.length<=40,meas:=λk=>bf.length - k }
 | 14=>some λ_=>.inv { α:=Nat,slots:=λk=>[(5,.c (.v (.int .i64 k)))],res:=λ_=>[],inv:=λk=>k<=mq.length/\∀j < k,∀t,mq[j]?=some t->t.length<=40,meas:=λk=>mq.length - k }
 | _=>none
theorem amg(th:List TD) (mv mo:List Int) (mq:List (List Int)) (mg:List Int) (bf:List BD):
 let z6:=Ql (th,(mv,mo,mq,mg,()),bf,());let z5:=qB z6 false;let z2:=λ(x:Nat)=>(x<=th.length/\∀(j:Nat),j < x->∀(t:TD),th[j]?=some t->t.snd.snd.snd.snd.snd.snd.snd.snd.snd.fst.length<=20);let z7:=λ(x:Nat)=>cI 0=cI (x:Int)/\True;let z8:=[g0 (bZ th mv mo mq mg bf)];let z9:=λ(x:Nat)=>(x:Int)+(1:Int);let z4:=λ(x x':Nat)=>cI (z9 x)=cI (x':Int)/\True;let z1:=λ(x:Nat)=>(x<=bf.length/\∀(j:Nat),j < x->∀(t:Int×Int×List (Int×Int×Unit)×Unit),bf[j]?=some t->t.snd.snd.fst.length<=40);let z3:=λ(x:Nat)=>(x<=mq.length/\∀(j:Nat),j < x->∀(t:List Int),mq[j]?=some t->t.length<=40);br (decide (20 < (th.length:Int)) || decide (20 < (bf.length:Int)) || decide (20 < (mv.length:Int)) || decide (20 < (mo.length:Int)) || decide (20 < (mq.length:Int)) || decide (40 < (mg.length:Int))) z5 ((∃x,(z2 x)/\(z7 x)/\sm z8)/\∀(x:Nat),(z2 x)->br (decide ((x:Int) < (th.length:Int))) ((0<=(x:Int)/\(x:Int) < (th.length:Int))/\∀(d:TD),th[(x:Int).toNat]?=some d->br (decide (20 < ((List.length d.snd.snd.snd.snd.snd.snd.snd.snd.snd.fst):Int))) z5 (iR (z9 x)/\∃x',(z2 x')/\(z4 x x')/\sm z8/\th.length - x' < th.length - x)) ((∃x,(z1 x)/\(z7 x)/\sm z8)/\∀(x:Nat),(z1 x)->br (decide ((x:Int) < (bf.length:Int))) ((0<=(x:Int)/\(x:Int) < (bf.length:Int))/\∀(d:BD),bf[(x:Int).toNat]?=some d->br (decide (40 < ((List.length d.snd.snd.fst):Int))) z5 (iR (z9 x)/\∃x',(z1 x')/\(z4 x x')/\sm z8/\bf.length - x' < bf.length - x)) ((∃x,(z3 x)/\(z7 x)/\sm z8)/\∀(x:Nat),(z3 x)->br (decide ((x:Int) < (mq.length:Int))) ((0<=(x:Int)/\(x:Int) < (mq.length:Int))/\∀(d:List Int),mq[(x:Int).toNat]?=some d->br (decide (40 < (d.length:Int))) z5 (iR (z9 x)/\∃x',(z3 x')/\(z4 x x')/\sm z8/\mq.length - x' < mq.length - x)) (qB z6 true)))):=by
 conv=>zeta
 delta iR;refine ah.2 ⟨λh=>jE (VN.2 λq=>?_),λh=>?_⟩
 .have:=(zQ.1 q).1;simp only[wC,dH]at h;omega
 have hN:th.length<=20/\bf.length<=20/\mv.length<=20/\mo.length<=20/\mq.length<=20/\mg.length<=40:=by
  simp only[l7,eX]at h;omega
 refine⟨⟨0,⟨by omega,λj hj=>by omega⟩,⟨rfl,trivial⟩,rfl⟩,λk hk=>ah.2 ⟨λg=>?_,λg=>?_⟩⟩
 .simp only[dH]at g;refine⟨⟨by omega,by omega⟩,λd hd=>ah.2 ⟨λg2=>jE (VN.2 λq=>?_),λg2=>⟨ak.2 (by omega),k+1,⟨by omega,λj hj t ht=>?_⟩,⟨rfl,trivial⟩,rfl,by omega⟩⟩⟩
  .have hd:th[k]?=some d:=hd;have:=(zQ.1 q).2.1 d (iy hd);simp only[dH]at g2;omega
  .by_cases gU:j=k
   .subst gU;have hd:th[j]?=some d:=hd;rw[hd]at ht;cases ht;simp only[eX]at g2;omega
   .exact hk.2 j (by omega) t ht
 simp only[eX]at g;have ath:∀t∈th,t.2.2.2.2.2.2.2.2.2.1.length<=20:=by
  intro t ht;obtain⟨j,hj⟩:=VZ.1 ht;exact hk.2 j (by have:=(A8.1 hj).1;omega) t hj
 clear g hk;refine⟨⟨0,⟨by omega,λj hj=>by omega⟩,⟨rfl,trivial⟩,rfl⟩,λk hk=>ah.2 ⟨λg=>?_,λg=>?_⟩⟩
 .simp only[dH]at g;refine⟨⟨by omega,by omega⟩,λd hd=>ah.2 ⟨λg2=>jE (VN.2 λq=>?_),λg2=>⟨ak.2 (by omega),k+1,⟨by omega,λj hj t ht=>?_⟩,⟨rfl,trivial⟩,rfl,by omega⟩⟩⟩
  .have hd:bf[k]?=some d:=hd;have:=(zQ.1 q).2.2.1 d (iy hd);simp only[dH]at g2;omega
  .by_cases gU:j=k
   .subst gU;have hd:bf[j]?=some d:=hd;rw[hd]at ht;cases ht;simp only[eX]at g2;omega
   .exact hk.2 j (by omega) t ht
 simp only[eX]at g;have abf:∀t∈bf,t.2.2.1.length<=40:=by
  intro t ht;obtain⟨j,hj⟩:=VZ.1 ht;exact hk.2 j (by have:=(A8.1 hj).1;omega) t hj
 clear g hk;refine⟨⟨0,⟨by omega,λj hj=>by omega⟩,⟨rfl,trivial⟩,rfl⟩,λk hk=>ah.2 ⟨λg=>?_,λg=>?_⟩⟩
 .simp only[dH]at g;refine⟨⟨by omega,by omega⟩,λd hd=>ah.2 ⟨λg2=>jE (VN.2 λq=>?_),λg2=>⟨ak.2 (by omega),k+1,⟨by omega,λj hj t ht=>?_⟩,⟨rfl,trivial⟩,rfl,by omega⟩⟩⟩
  .have hd:mq[k]?=some d:=hd;have:=(zQ.1 q).2.2.2 d (iy hd);simp only[dH]at g2;omega
  .by_cases gU:j=k
   .subst gU;have hd:mq[j]?=some d:=hd;rw[hd]at ht;cases ht;simp only[eX]at g2;omega
   .exact hk.2 j (by omega) t ht
 simp only[eX]at g;have amq:∀t∈mq,t.length<=40:=by
  intro t ht;obtain⟨j,hj⟩:=VZ.1 ht;exact hk.2 j (by have:=(A8.1 hj).1;omega) t hj
 clear g hk;exact jE (zQ.2 ⟨hN,ath,abf,amq⟩)
theorem agY:aU aT.gd 15 ahJ:=
 dQ (cx:=aT) (n:=90) (cl:=[]) (rc:=[]) au trivial Tryz.func15 λd hd=>by
  obtain⟨⟨th,⟨mv,mo,mq,mg,⟨⟩⟩,bf,⟨⟩⟩,⟨⟩⟩:=d;exact aJ (aoB th mv mo mq mg bf) (amg th mv mo mq mg bf) (by kernel_rfl)
end
end Go.Proofs.YtjhenjhcbcalpaaGreatDoor
