/- Part 12 of the proof. Conditions: the rows'. -/
import Derived.Test.YtjhenjhcbcalpaaGreatDoorB11
set_option linter.unusedSimpArgs false
set_option linter.unusedVariables false
set_option maxRecDepth 1000000
set_option maxHeartbeats 8000000
namespace Go.Proofs.YtjhenjhcbcalpaaGreatDoor
open Go Go.lH
noncomputable section
variable {bf:List BD}{e id bound b c:Int}{l:List TD}{m:MD}{t:TD}{i:ID}{vs:List VD}{ms cs:List ByteArray}{fs:List FD}{ts:List SD}
abbrev cxR:Cx:={ ti:=tis,gd:=gd0,rt:=true }
def insL(l:List TD) (id:Int) (u:TD):List TD:=l.takeWhile (λt=>decide (t.1 < id))++[u]++l.dropWhile (λt=>decide (t.1 < id))
def rH(e:Int) (fs:List FD) (bound:Int) (z:ZD) (id fn arg:Int):ZD×Int:=
 if 0<=gu (λt=>decide (t.1=id)) z.1 then(zZ,30) else if(newS e fs bound id fn arg).2≠0 then(zZ,30) else((insL z.1 id (newS e fs bound id fn arg).1,z.2),0)
theorem BH{S:ZD×Int}{L:List TD}{mv mo:List Int}{mq:List (List Int)}{mg:List Int} (h:S=((L,(mv,mo,mq,mg,()),bf,()),e)):[ak.row 56 bQ S.1.1]=[ak.row 56 bQ L]/\bF.iO [.agg [.row 0,.sl I6 S.1.2.1.1,.sl I6 S.1.2.1.2.1,.sl I6.sl S.1.2.1.2.2.1,.sl I6 S.1.2.1.2.2.2.1,.sl kT S.1.2.2.1],cI S.2]=bF.iO [.agg [.row 0,.sl I6 mv,.sl I6 mo,.sl I6.sl mq,.sl I6 mg,.sl kT bf],cI e]:=by
 subst h;exact⟨rfl,rfl⟩
def E5(l:List TD) (x:Nat):List TD:=List.take (List.length (List.replicate ((l.length:Int)+(1:Int)).toNat zR)) (List.drop 0 (List.take (x:Int).toNat l))++List.drop (List.length (List.drop 0 (List.take (x:Int).toNat l))) (List.replicate ((l.length:Int)+(1:Int)).toNat zR)
theorem Q8{x:Nat} (h:x<=l.length):E5 l x=l.take x++List.replicate (l.length+1 - x) zR:=by
 unfold E5;have e:((l.length:Int)+(1:Int)).toNat=l.length+1:=by omega
 rw[e,Fa,OY,A81,wo (by rw[jY];omega),jY,A98 h,List.drop_replicate]
theorem Lu{x:Nat} (h:x<=l.length):(E5 l x).length=l.length+1:=by
 rw[Q8 h,jR,jY,Fa];omega
theorem aen{x:Nat} (h:x<=l.length) (u:TD):List.take ((x:Int)+(1:Int)).toNat ((E5 l x).set (x:Int).toNat u)++(List.take (List.length ((E5 l x).set (x:Int).toNat u) - ((x:Int)+(1:Int)).toNat) (List.drop (x:Int).toNat (List.take (l.length:Int).toNat l))++List.drop (List.length (List.drop (x:Int).toNat (List.take (l.length:Int).toNat l))) (List.drop ((x:Int)+(1:Int)).toNat ((E5 l x).set (x:Int).toNat u)))=l.take x++[u]++l.drop x:=by
 have e:((x:Int)+(1:Int)).toNat=x+1:=by omega
 have hl:(l.take x).length=x:=by rw[jY];omega
 have hs:(E5 l x).set x u=l.take x++[u]++List.replicate (l.length - x) zR:=by
  rw[Q8 h,show l.length+1 - x=l.length - x+1 by omega,UN,aaJ _ _ (by omega),hl,UW,UO,zY];rfl
 have hn:(l.take x++[u]).length=x+1:=by rw[jR,hl];rfl
 rw[e,A81,A81,aaP,qN,Lu h,hs];have a1:List.take (x+1) (l.take x++[u]++List.replicate (l.length - x) zR)=l.take x++[u]:=by
  rw[A78 (by omega),wo (by omega)]
 have a2:List.drop (x+1) (l.take x++[u]++List.replicate (l.length - x) zR)=List.replicate (l.length - x) zR:=by
  rw[A93 (by omega),Rn (by omega),Ut]
 have a3:List.take (l.length+1 - (x+1)) (List.drop x l)=List.drop x l:=wo (by rw[xw];omega)
 have a4:List.drop (List.drop x l).length (List.replicate (l.length - x) zR)=[]:=Rn (by rw[Fa,xw];omega)
 rw[a1,a2,a3,a4,Mc]
theorem ala{x:Nat}{p:TD->Bool} (h:x<=l.length) (h1:∀(j:Nat),j < x->∀t,l[j]?=some t->p t=true) (h2:∀t,l[x]?=some t->p t=false):l.takeWhile p=l.take x/\l.dropWhile p=l.drop x:=by
 induction l generalizing x with
 | nil=>simp
 | cons a l ih=>
   cases x with
   | zero=>
     have:=h2 a rfl;simp[this]
   | succ x=>
     have ha:=h1 0 (by omega) a rfl
     have:=ih (x:=x) (by simpa using h) (λj hj t ht=>h1 (j+1) (by omega) t (by simpa using ht)) (λt ht=>h2 t (by simpa using ht))
     simp[ha,this]
theorem aeo{x:Nat} (h:x<=l.length) (h1:∀(j:Nat),j < x->∀t,l[j]?=some t->t.1 < id) (h2:∀t,l[x]?=some t->¬t.1 < id) (u:TD):insL l id u=l.take x++[u]++l.drop x:=by
 have:=ala (p:=λt=>decide (t.1 < id)) h (λj hj t ht=>by simpa using h1 j hj t ht) (λt ht=>by simpa using h2 t ht)
 unfold insL;rw[this.1,this.2]
abbrev Z4:CT:={ ps:=[vF,.int .i64,Jf,.int .i64,.int .i64,.int .i64],pre:=λd=>bnd (d.1,())/\jC d.2.2.1.1/\d.2.2.2.1<=9223372036854775807,res:=λd=>([.row 56 bQ (rH (aG d.1.1 d.1.2.1 d.1.2.2.1 d.1.2.2.2.1 d.1.2.2.2.2.1).1 d.1.2.2.2.1 d.2.1 d.2.2.1 d.2.2.2.1 d.2.2.2.2.1 d.2.2.2.2.2.1).1.1],.iO [.agg [.row 0,.sl (.int .i64) ((rH (aG d.1.1 d.1.2.1 d.1.2.2.1 d.1.2.2.2.1 d.1.2.2.2.2.1).1 d.1.2.2.2.1 d.2.1 d.2.2.1 d.2.2.2.1 d.2.2.2.2.1 d.2.2.2.2.2.1).1).2.1.1,.sl (.int .i64) ((rH (aG d.1.1 d.1.2.1 d.1.2.2.1 d.1.2.2.2.1 d.1.2.2.2.2.1).1 d.1.2.2.2.1 d.2.1 d.2.2.1 d.2.2.2.1 d.2.2.2.2.1 d.2.2.2.2.2.1).1).2.1.2.1,.sl (.sl (.int .i64)) ((rH (aG d.1.1 d.1.2.1 d.1.2.2.1 d.1.2.2.2.1 d.1.2.2.2.2.1).1 d.1.2.2.2.1 d.2.1 d.2.2.1 d.2.2.2.1 d.2.2.2.2.1 d.2.2.2.2.2.1).1).2.1.2.2.1,.sl (.int .i64) ((rH (aG d.1.1 d.1.2.1 d.1.2.2.1 d.1.2.2.2.1 d.1.2.2.2.2.1).1 d.1.2.2.2.1 d.2.1 d.2.2.1 d.2.2.2.1 d.2.2.2.2.1 d.2.2.2.2.2.1).1).2.1.2.2.2.1,.sl kT ((rH (aG d.1.1 d.1.2.1 d.1.2.2.1 d.1.2.2.2.1 d.1.2.2.2.2.1).1 d.1.2.2.2.1 d.2.1 d.2.2.1 d.2.2.2.1 d.2.2.2.2.1 d.2.2.2.2.2.1).1).2.2.1],.c (.v (.int .i64 ((rH (aG d.1.1 d.1.2.1 d.1.2.2.1 d.1.2.2.2.1 d.1.2.2.2.2.1).1 d.1.2.2.2.1 d.2.1 d.2.2.1 d.2.2.2.1 d.2.2.2.2.1 d.2.2.2.2.2.1).2)))]) }
abbrev alb(vs:List VD) (ms cs:List ByteArray) (fs:List FD) (ts:List SD) (bound:Int) (th:List TD) (mv mo:List Int) (mq:List (List Int)) (mg:List Int) (bf:List BD) (id fn arg:Int):Nat->Option (St->kD):=λk=>match k with
 | 8=>some λ_=>.inv { α:=Nat,slots:=λk=>[(18,.c (.v (.int .i64 k)))],res:=λ_=>[],inv:=λk=>k<=th.length/\∀j < k,∀t,th[j]?=some t->t.1 < id,meas:=λk=>th.length - k }
 | _=>none
theorem ai1(vs:List VD) (ms cs:List ByteArray) (fs:List FD) (ts:List SD) (bound:Int) (th:List TD) (mv mo:List Int) (mq:List (List Int)) (mg:List Int) (bf:List BD) (id fn arg:Int) (aF:Z4.pre ((vs,ms,cs,fs,ts,()),bound,(th,(mv,mo,mq,mg,()),bf,()),id,fn,arg,())):
 let z10:=rH (aG vs ms cs fs ts).fst fs bound (th,(mv,mo,mq,mg,()),bf,()) id fn arg;let z5:=[ak.row 56 bQ z10.fst.fst];let z1:=[SV.agg [SC.row 0,SC.sl I6 z10.fst.snd.fst.fst,SC.sl I6 z10.fst.snd.fst.snd.fst,SC.sl I6.sl z10.fst.snd.fst.snd.snd.fst,SC.sl I6 z10.fst.snd.fst.snd.snd.snd.fst,SC.sl kT z10.fst.snd.snd.fst],cI (z10.snd)];let z6:=z5=[ak.row 56 bQ []]/\bF.iO z1=bF.iO [SV.agg [SC.row 0,SC.sl I6 [],SC.sl I6 [],SC.sl I6.sl [],SC.sl I6 [],SC.sl kT []],cI 30];let z13:=newS (aG vs ms cs fs ts).fst fs bound id fn arg;let z11:=λ(x:Nat)=>(x<=th.length/\∀(j:Nat),j < x->∀(t:TD),th[j]?=some t->t.fst < id);let z4:=[g0 (bP vs ms cs fs ts),g0 (bZ th mv mo mq mg bf),g0 (ak.blk 37 lG),g0 (ak.obj 56 bQ z13.fst)];let Ef:=λ(x:Nat)=>(x:Int) < (th.length:Int);let IL:=λ(x:Nat)=>(x:Int)+(1:Int);let pJ:=(th.length:Int)+(1:Int);let z9:=λ(x:Nat)=>(E5 th x).set (x:Int).toNat z13.fst;let z3:=λ(x:Nat)=>0<=(x:Int)+(1:Int)/\(x:Int)+1<=(↑(z9 x).length:Int);let z7:=λ(x:Nat)=>0<=(x:Int)/\(x:Int)<=(th.length:Int)/\(th.length:Int)<=(th.length:Int);let z12:=λ(x:Nat)=>List.drop (x:Int).toNat (List.take (th.length:Int).toNat th);let z2:=λ(x:Nat)=>[ak.row 56 bQ (List.take (IL x).toNat (z9 x)++(List.take ((z9 x).length - (IL x).toNat) (z12 x)++List.drop (z12 x).length (List.drop (IL x).toNat (z9 x))))];let z8:=[SV.agg [SC.row 0,SC.sl I6 mv,SC.sl I6 mo,SC.sl I6.sl mq,SC.sl I6 mg,SC.sl kT bf],cI 0];th.length<=1000000/\br (decide (0<=gu (λt=>decide (t.fst=id)) th)) z6 (((bnd ((vs,ms,cs,fs,ts,()),()))/\id<=9223372036854775807)/\br (!decide (z13.snd=0)) z6 ((∃x,(z11 x)/\(cI 0=cI (x:Int)/\True)/\sm z4)/\∀(x:Nat),(z11 x)->(decide (Ef x)=true->0<=(x:Int)/\(x:Int) < (th.length:Int))/\∀(d:TD),(decide (Ef x)=true->th[(x:Int).toNat]?=some d)->br (decide (Ef x) && decide (d.fst < id)) (iR (IL x)/\∃x',(z11 x')/\(cI (IL x)=cI (x':Int)/\True)/\sm z4/\th.length - x' < th.length - x) (iR pJ/\(0<=(th.length:Int)+(1:Int)/\(th.length:Int)+1<=(th.length:Int)+(1:Int)/\mY pJ.toNat 152)/\((0:Int)<=(0:Int)/\0<=(x:Int)/\(x:Int)<=(th.length:Int))/\(0<=(x:Int)/\(x:Int) < (↑(E5 th x).length:Int))/\(x:Int).toNat < (E5 th x).length/\iR (IL x)/\((z3 x)/\(z7 x)/\z5=(z2 x)/\bF.iO z1=bF.iO z8)/\(z7 x)/\(z3 x)/\z5=(z2 x)/\bF.iO z1=bF.iO z8))):=by
 conv=>zeta
 delta lG iR iN;obtain⟨hb,⟨hl,hT⟩,hid⟩:bnd ((vs,ms,cs,fs,ts,()),())/\jC th/\id<=9223372036854775807:=aF;refine⟨hl,ah.2 ⟨λh=>BH ?_,λh=>⟨⟨hb,hid⟩,ah.2 ⟨λh2=>BH ?_,λh2=>⟨⟨0,⟨by omega,λj hj=>by omega⟩,⟨rfl,trivial⟩,rfl⟩,λx hx=>⟨λg=>⟨by omega,by simpa using g⟩,λd hd=>ah.2 ⟨λg=>?_,λg=>?_⟩⟩⟩⟩⟩⟩⟩
 .unfold rH;rw[if_pos (GI h)];rfl
 .have h:=aaO h;unfold rH;rw[if_neg h,if_pos (by simpa using h2)];rfl
 .simp only[A8,eH]at g;have hd:=hd (by simpa using g.1)
  rw[A81]at hd;refine⟨aC.2 (by omega),x+1,⟨by omega,λj hj t ht=>?_⟩,⟨rfl,trivial⟩,rfl,by omega⟩
  by_cases q:j=x
  .subst q;rw[hd]at ht;cases ht;exact g.2
  .exact hx.2 j (by omega) t ht
 .have hn:=Lu hx.1;have hf:rH (aG vs ms cs fs ts).1 fs bound (th,(mv,mo,mq,mg,()),bf,()) id fn arg=((th.take x++[(newS (aG vs ms cs fs ts).1 fs bound id fn arg).1]++th.drop x,(mv,mo,mq,mg,()),bf,()),0):=by
   have h:=aaO h;unfold rH;rw[if_neg h,if_neg (by simpa using h2),aeo hx.1 hx.2 (λt ht=>?_)]
   have iV:x < th.length:=(fH.1 ht).1;have hd:=hd (by simpa using iV)
   rw[A81,ht]at hd;cases hd;simp only[Rt,iH]at g;omega
  rw[aen hx.1];rw[qN,hn,A81];refine⟨aC.2 (by omega),⟨by omega,by omega,dJ.2 (by omega)⟩,⟨by omega,by omega,by omega⟩,⟨by omega,by omega⟩,by omega,aC.2 (by omega),⟨⟨by omega,by omega⟩,⟨by omega,by omega,by omega⟩,BH hf⟩,⟨by omega,by omega,by omega⟩,⟨by omega,by omega⟩,BH hf⟩
theorem aep:aY cxR.gd 50 Z4:=
 dO (cx:=cxR) (n:=85) (cl:=[(52,Gv),(34,Qz)]) (rc:=[.hd 56 bQ shR,.keep]) aB ⟨BG,QA,trivial⟩ Tryz.func50 λd hd=>by
  obtain⟨⟨vs,ms,cs,fs,ts,⟨⟩⟩,bound,⟨th,⟨mv,mo,mq,mg,⟨⟩⟩,bf,⟨⟩⟩,id,fn,arg,⟨⟩⟩:=d;exact aT (alb vs ms cs fs ts bound th mv mo mq mg bf id fn arg) (ai1 vs ms cs fs ts bound th mv mo mq mg bf id fn arg hd) (by kernel_rfl)
def stT(l:List TD) (id:Int) (u:TD):List TD:=l.set (eY (gu (λt=>decide (t.1=id)) l) 0).toNat u
def qM(vs:List VD) (ms cs:List ByteArray) (fs:List FD) (ts:List SD) (bound:Int) (z:ZD) (id:Int):ZD×ED×Int:=
 if dM (aG vs ms cs fs ts).1 bound≠0 then(zZ,zE,dM (aG vs ms cs fs ts).1 bound)
 else if vsB vs ms cs fs ts bound z.1 z.2.1 z.2.2.1=false then(zZ,zE,1)
 else match jM (aG vs ms cs fs ts).1 ms fs z.1 id with
 | (t,i,ok)=>if(ok && OL z.1 z.2.1 t i)=false then(zZ,zE,19)
   else if(kY z.2.1 (labS z.2.1 t i)).2≠0 then(zZ,zE,30)
   else if(labS z.2.1 t i).2.2.1=16/\0<=gu (λu=>decide (u.1=(labS z.2.1 t i).2.2.2.1)) z.1 then(zZ,zE,30)
   else((stT (if(labS z.2.1 t i).2.2.1=16 then insL z.1 (labS z.2.1 t i).2.2.2.1 (newS (aG vs ms cs fs ts).1 fs bound (labS z.2.1 t i).2.2.2.1 i.2.2.2.2.1 (t.2.2.2.1.getD i.2.2.1.toNat 0)).1 else z.1) id
    (kC (aG vs ms cs fs ts).1 ms fs bound t (zU i (labS z.2.1 t i))).1,(kY z.2.1 (labS z.2.1 t i)).1,[],()),labS z.2.1 t i,0)
theorem Z5(m:MD) (t:TD) (i:ID):(labS m t i).1=t.1:=by
 have key:∀(c:Prop) [Decidable c] (a b:ED),a.1=t.1->b.1=t.1->(if c then a else b).1=t.1:=by
  intro c _ a b ha hb;split
  .exact ha
  .exact hb
 unfold labS
 repeat' (first | rfl | (apply key))
theorem Q9(hv:8<=i.1/\i.1<=22):(labS m t i).2.2.1=16↔i.1=21:=by
 have key:∀(c:Prop) [Decidable c] (a b:ED),¬a.2.2.1=16->¬b.2.2.1=16->¬(if c then a else b).2.2.1=16:=by
  intro c _ a b ha hb;split
  .exact ha
  .exact hb
 constructor
 .intro h
  by_cases q:i.1=21
  .exact q
  .exfalso;revert h;unfold labS;rw[if_neg q]
   repeat' (first | (apply key) | simp)
 .intro h;unfold labS;simp[h]
theorem Rf(h:i.1=21):(labS m t i).2.2.2.1=(dG t.1 t.2.2.2.2.2.1).1:=by
 unfold labS;simp[h]
theorem aer{i f t:Int} (h:uD m=true):uD (jv m i id f t).1=true:=by
 unfold jv;split
 .split
  .rfl
  .split
   .obtain⟨vs,os,qs,sg,⟨⟩⟩:=m;unfold uD at h ⊢
    simpa using h
   .rfl
 .rfl
theorem aes(h:uD m=true) (e:ED):bI (kY m e).1:=by
 have hw:∀x v,bI (writeM m x v).1:=by
  intro x v;unfold writeM
  repeat' split
  all_goals first | exact Ep | skip
  obtain⟨h1,h2⟩:=vw h;exact⟨by rw[qN];exact h1,h2⟩
 unfold kY
 repeat' split
 all_goals first | exact hw _ _ | exact IX (vw h) | exact aem (aer h) | exact ZY h | exact ai0 h | exact vw h
theorem OO(hV:VS vs ms cs fs ts bound l m bf) (hM:bI m) (hT:jC l) (h:jM (aG vs ms cs fs ts).1 ms fs l id=(t,i,true)):
 t∈l/\t.1=id/\EY m t i/\sH fs t.2.1 t.2.2.1=some i/\t.2.2.2.2.2.2.2.1=1/\xq ms fs bound t:=by
 unfold jM at h;cases ef:En l id with
 | none=>rw[ef]at h;cases h
 | some u=>
   rw[ef]at h;simp only[Uw]at h;obtain⟨h1,h2,h3⟩:=h;subst h1;have hm:=List.mem_of_find?_eq_some ef;have hp:=IW hV.1 hM (hT.2 u hm) h3;have hq:=Lr h3;rw[h2]at hp hq;exact⟨hm,by simpa using UR ef,hp,hq.2.2.2,hq.2.1,(hV.2.2.1 u hm).2⟩
theorem rJ{S:ZD×ED×Int}{a:ZD}{b:ED} (h:S=(a,b,c)):rT [Gu S.1,EX S.2.1,cI S.2.2] [Gu a,EX b,cI c]:=by subst h;exact⟨rfl,rfl⟩
theorem IY(hs:dM (aG vs ms cs fs ts).1 bound=0) (hV:xq ms fs bound t) (h1:t.2.2.2.2.2.2.2.1=1) (ha:sH fs t.2.1 t.2.2.1=some i) (hi:i.1=21) (hl:t.2.2.2.1.length=8):
 (dG t.1 t.2.2.2.2.2.1).2=true/\(newS (aG vs ms cs fs ts).1 fs bound (dG t.1 t.2.2.2.2.2.1).1 i.2.2.2.2.1 (t.2.2.2.1.getD i.2.2.1.toNat 0)).2=0:=by
 have hz:=iG.1 hs;obtain⟨_,_,j,hj,vj,oj⟩:=D8 hV h1;rw[ha]at hj;cases hj;have hf:=wW hV;obtain⟨k1,k2,k3,k4⟩:=rF (D5 hz.1 (Gp hf).1 ha);obtain⟨r1,r2,r3,r4⟩:=lD k1;obtain⟨id,fn,pc,rg,st,ch,ph,su,fa,he,u⟩:=t;have hl:rg.length=8:=hl;obtain⟨f1,f2,f3,f4,f5,f6,f7,f8,f9⟩:=hf;have hph:ph=0:=by
  rcases f9 with q | ⟨_,i',q1,q2,_⟩
  .exact q
  .have ha:sH fs fn pc=some i:=ha;rw[ha]at q1;cases q1;omega
 have oj:kX id ch ph he i=0:=oj;have hc:(dG id ch).2=true:=by
  unfold kX at oj;rw[if_neg (by omega),if_neg (by omega),if_neg (by omega),if_pos hi]at oj
  by_cases q:(dG id ch).2=true
  .exact q
  .rw[if_neg q]at oj;cases oj
 refine⟨hc,?_⟩;have hd:¬bM (dG id ch).1 < 0:=by
  unfold dG at hc ⊢;split at hc
  .cases hc
  .rename_i q;rw[if_neg q];have:=Ak (id:=id) (ch:=ch) (by omega) (by omega) (by omega) (by omega)
   show¬bM (8 * (id+1)+ch) < 0;omega
 have ho:sG vs ms cs fs i.1=fs.length:=by unfold sG;rw[hi];simp
 rw[ho]at k2;have k2:=k2 (by omega)
 have hv:dK (rg.getD i.2.2.1.toNat 0)=true:=by
  have iV:i.2.2.1.toNat < rg.length:=by omega
  rw[A63,lY iV];exact f4 _ (by omega) _ (lY iV)
 show(newS _ _ _ (dG id ch).1 _ _).2=0;unfold newS;rw[if_neg (by omega),if_neg hd,if_neg (by omega),if_neg (by show¬dK (rg.getD i.2.2.1.toNat 0)=false;rw[hv];simp)]
theorem Rh(hf:eG m=true) (hc:i.1=21->(dG t.1 t.2.2.2.2.2.1).2=true):dK (zU i (labS m t i))=true:=by
 have hv:∀x:Int,dK (m.1[x.toNat]?.getD 0)=true:=by
  intro x;cases hx:m.1[x.toNat]? with
  | none=>rfl
  | some v=>exact(fD.1 hf).2.2.2.2.1 v (iJ hx)
 have hch:i.1=21->dK (dG t.1 t.2.2.2.2.2.1).1=true:=by
  intro q;obtain⟨_,_,_,_,c1,_,c2,_⟩:=La (hc q);exact uq.2 ⟨by omega,by omega⟩
 have key:∀(c:Prop) [Decidable c] (a b:ED),(c->dK (zU i a)=true)->(¬c->dK (zU i b)=true)->dK (zU i (if c then a else b))=true:=by
  intro c _ a b ha hb;split
  .exact ha (by assumption)
  .exact hb (by assumption)
 have k1:∀b:Bool,dK (if OJ b=0 then 0 else 1)=true:=by intro b;cases b<;>rfl
 unfold labS
 repeat' (refine key _ _ _ (λ_=>?_) (λ_=>?_))
 all_goals (try first | exact hv _ | rfl | exact k1 _ | (apply hch;assumption))
 all_goals (unfold zU;try simp only)
 all_goals first | exact hv _ | rfl | exact k1 _ | (apply hch;assumption) | (rw[if_pos trivial,if_pos (by assumption)];rfl) | (simp_all;done) | skip
theorem LC{r:Int} (hs:dM e bound=0) (hV:xq ms fs bound t) (h1:t.2.2.2.2.2.2.2.1=1) (hr:dK r=true):(kC e ms fs bound t r).2=0:=by
 unfold kC;rw[if_neg (by omega),if_neg (by simpa using hV),if_neg (by omega),if_neg (by rw[hr];simp)]
theorem ai2(h:∃t∈l,t.1=id):(0<=eY (gu (λt=>decide (t.1=id)) l) 0/\eY (gu (λt=>decide (t.1=id)) l) 0 < (l.length:Int))/\(eY (gu (λt=>decide (t.1=id)) l) 0).toNat < l.length:=by
 have q:0<=gu (λt=>decide (t.1=id)) l:=by
  refine L9.1 λq=>?_
  obtain⟨t,ht,e⟩:=h;have:=A94.1 (uz q) t ht;simp[e]at this
 obtain⟨k,t,q1,q2,q3,q4⟩:=qL q;have e:eY (gu (λt=>decide (t.1=id)) l) 0=k:=by rw[q1];unfold eY;split<;>omega
 rw[e];omega
theorem LD{u:TD} (h:t∈l):t∈insL l id u:=by
 unfold insL;rw[<-A89 (p:=λt=>decide (t.1 < id)) (l:=l)]at h
 simp only[Et,A76]at h ⊢
 rcases h with h | h
 .exact .inl (.inl h)
 .exact .inr h
theorem Z7(l:List TD) (id:Int) (u:TD):(insL l id u).length=l.length+1:=by
 unfold insL;have:=oh List.length (A89 (p:=λt=>decide (t.1 < id)) (l:=l))
 rw[jR]at this;simp only[jR,y9,LP];omega
theorem IZ{vs:List VD}{ms cs:List ByteArray}{fs:List FD}{ts:List SD}{bound id:Int}{z:ZD}{t:TD}{i:ID}{ok:Bool} (h:dM (aG vs ms cs fs ts).1 bound=0) (h1:vsB vs ms cs fs ts bound z.1 z.2.1 z.2.2.1=true) (hr:jM (aG vs ms cs fs ts).1 ms fs z.1 id=(t,i,ok)):
 qM vs ms cs fs ts bound z id=if(ok && OL z.1 z.2.1 t i)=false then(zZ,zE,19)
 else if(kY z.2.1 (labS z.2.1 t i)).2≠0 then(zZ,zE,30)
 else if(labS z.2.1 t i).2.2.1=16/\0<=gu (λu=>decide (u.1=(labS z.2.1 t i).2.2.2.1)) z.1 then(zZ,zE,30)
 else((stT (if(labS z.2.1 t i).2.2.1=16 then insL z.1 (labS z.2.1 t i).2.2.2.1 (newS (aG vs ms cs fs ts).1 fs bound (labS z.2.1 t i).2.2.2.1 i.2.2.2.2.1 (t.2.2.2.1.getD i.2.2.1.toNat 0)).1 else z.1) id
  (kC (aG vs ms cs fs ts).1 ms fs bound t (zU i (labS z.2.1 t i))).1,(kY z.2.1 (labS z.2.1 t i)).1,[],()),labS z.2.1 t i,0):=by
 unfold qM;rw[if_neg (by omega),if_neg (by rw[h1];simp),hr]
abbrev Z8:CT:={ ps:=[vF,.int .i64,Jf,.int .i64],pre:=λd=>bnd (d.1,())/\jC d.2.2.1.1/\d.2.2.1.1.length<=999999/\uD d.2.2.1.2.1=true/\zW d.2.2.1.2.2.1,res:=λd=>([],.iO [Gu ((qM d.1.1 d.1.2.1 d.1.2.2.1 d.1.2.2.2.1 d.1.2.2.2.2.1 d.2.1 d.2.2.1 d.2.2.2.1).1),EX ((qM d.1.1 d.1.2.1 d.1.2.2.1 d.1.2.2.2.1 d.1.2.2.2.2.1 d.2.1 d.2.2.1 d.2.2.2.1).2.1),.c (.v (.int .i64 ((qM d.1.1 d.1.2.1 d.1.2.2.1 d.1.2.2.2.1 d.1.2.2.2.2.1 d.2.1 d.2.2.1 d.2.2.2.1).2.2)))]) }
theorem ai3(vs:List VD) (ms cs:List ByteArray) (fs:List FD) (ts:List SD) (bound:Int) (th:List TD) (mv mo:List Int) (mq:List (List Int)) (mg:List Int) (bf:List BD) (id:Int) (aF:Z8.pre ((vs,ms,cs,fs,ts,()),bound,(th,(mv,mo,mq,mg,()),bf,()),id,())):
 let z17:=bnd ((vs,ms,cs,fs,ts,()),());let Jd:=aG vs ms cs fs ts;let z20:=(mv,mo,mq,mg,());let Uz:=(th,z20,bf,());let z13:=qM vs ms cs fs ts bound Uz id;let z10:=[Gu (z13.fst),EX (z13.snd.fst),cI (z13.snd.snd)];let pJ:=jM Jd.fst ms fs th id;let z12:=labS z20 pJ.fst pJ.snd.fst;let z11:=kY z20 z12;let z6:=λ(d:Int)=>rH Jd.fst fs bound (th,z11.fst,bf,()) z12.snd.snd.snd.fst pJ.snd.fst.snd.snd.snd.snd.fst d;let z7:=z17/\List.length pJ.fst.snd.snd.snd.snd.snd.snd.snd.snd.snd.fst<=1000000/\pJ.fst.fst<=9223372036854775807/\List.length pJ.fst.snd.snd.snd.fst=8;let z9:=kC Jd.fst ms fs bound pJ.fst (zU pJ.snd.fst z12);let z8:=!decide (z9.snd=0);let z3:=rT z10 [Gu ([],([],[],[],[],()),[],()),EX (0,0,0,0,0,0,0,0,0,()),cI (z9.snd)];let z5:=λ(d:Int)=>gu (λt=>decide (t.fst=id)) (z6 d).fst.fst;let z4:=λ(d:Int)=>eY (z5 d) (0:Int);let z1:=λ(d:Int)=>[Gu ((z6 d).fst.fst.set (z4 d).toNat z9.fst,((z6 d).fst.snd.fst.fst,(z6 d).fst.snd.fst.snd.fst,(z6 d).fst.snd.fst.snd.snd.fst,(z6 d).fst.snd.fst.snd.snd.snd.fst,()),(z6 d).fst.snd.snd.fst,()),EX z12,cI 0];let IL:=gu (λt=>decide (t.fst=id)) th;let Ef:=eY IL (0:Int);let z2:=[Gu (th.set Ef.toNat z9.fst,(z11.fst.fst,z11.fst.snd.fst,z11.fst.snd.snd.fst,z11.fst.snd.snd.snd.fst,()),bf,()),EX z12,cI 0];z17/\br (!decide (dM Jd.fst bound=0)) (rT z10 [Gu ([],([],[],[],[],()),[],()),EX (0,0,0,0,0,0,0,0,0,()),cI (dM Jd.fst bound)]) ((z17/\jC th/\bI z20)/\br (!vsB vs ms cs fs ts bound th z20 bf) (rT z10 [Gu ([],([],[],[],[],()),[],()),EX (0,0,0,0,0,0,0,0,0,()),cI 1]) ((z17/\jC th)/\((!!pJ.snd.snd)=true->EY z20 pJ.fst pJ.snd.fst/\th.length<=1000000)/\br (!pJ.snd.snd || !OL th z20 pJ.fst pJ.snd.fst) (rT z10 [Gu ([],([],[],[],[],()),[],()),EX (0,0,0,0,0,0,0,0,0,()),cI 19]) (EY z20 pJ.fst pJ.snd.fst/\zX Uz/\(bI z20/\pJ.fst.fst=z12.fst)/\br (!decide (z11.snd=0)) (rT z10 [Gu ([],([],[],[],[],()),[],()),EX (0,0,0,0,0,0,0,0,0,()),cI 30]) (bI z11.fst/\br (decide (z12.snd.snd.fst=16)) ((0<=pJ.snd.fst.snd.snd.fst/\pJ.snd.fst.snd.snd.fst < 8)/\pJ.snd.fst.snd.snd.fst.toNat < 8/\∀(d:Int),pJ.1.2.2.2.fst[pJ.snd.fst.snd.snd.fst.toNat]?=some d->(z17/\jC th/\z12.snd.snd.snd.fst<=9223372036854775807)/\br (!decide ((z6 d).snd=0)) (rT z10 [Gu ([],([],[],[],[],()),[],()),EX (0,0,0,0,0,0,0,0,0,()),cI ((z6 d).snd)]) (z7/\br z8 z3 ((z6 d).fst.fst.length<=1000000/\(0<=eY (z5 d) (0:Int)/\eY (z5 d) 0 < (↑(z6 d).fst.fst.length:Int))/\(z4 d).toNat < (z6 d).fst.fst.length/\(rT z10 (z1 d))/\rT z10 (z1 d)))) (z7/\br z8 z3 (th.length<=1000000/\(0<=eY IL (0:Int)/\eY IL 0 < (th.length:Int))/\Ef.toNat < th.length/\(rT z10 z2)/\rT z10 z2)))))):=by
 conv=>zeta
 obtain⟨hb,hT,hn,hm,hB⟩:bnd ((vs,ms,cs,fs,ts,()),())/\jC th/\th.length<=999999/\uD (mv,mo,mq,mg,())=true/\zW bf:=aF;have hM:=vw hm;have hS:=@IZ vs ms cs fs ts bound id (th,(mv,mo,mq,mg,()),bf,());generalize hr:jM (aG vs ms cs fs ts).1 ms fs th id=R at hS ⊢;obtain⟨T,I,ok⟩:=R;dsimp only at hS ⊢;refine⟨hb,ah.2 ⟨λh=>rJ ?_,λh=>⟨⟨hb,hT,hM⟩,ah.2 ⟨λh1=>rJ ?_,λh1=>⟨⟨hb,hT⟩,λh2=>⟨?_,hT.1⟩,ah.2 ⟨λh2=>rJ ?_,λh2=>?_⟩⟩⟩⟩⟩⟩
 .have h:dM (aG vs ms cs fs ts).1 bound≠0:=by simpa using h
  unfold qM;rw[if_pos h];rfl
 .have h:dM (aG vs ms cs fs ts).1 bound=0:=by simpa using h
  have h1:vsB vs ms cs fs ts bound th (mv,mo,mq,mg,()) bf=false:=by simpa using h1
  unfold qM;rw[if_neg (by omega),if_pos h1];rfl
 all_goals have h:dM (aG vs ms cs fs ts).1 bound=0:=by simpa using h
 all_goals have h1:vsB vs ms cs fs ts bound th (mv,mo,mq,mg,()) bf=true:=by simpa using h1
 all_goals have hV:=lJ.1 h1
 .have h2:ok=true:=by simpa using h2
  subst h2;exact(OO hV hM hT hr).2.2.1
 .rw[hS h h1 rfl,if_pos (by simp only[Fb,UF]at h2;rw[Rt];exact h2)];rfl
 simp only[rM,BJ]at h2;obtain⟨ok1,en1⟩:=h2;subst ok1;obtain⟨kJ,hid,hlab,hat,hsu,hvl⟩:=OO hV hM hT hr;have hS:=hS h h1 rfl;rw[if_neg (by rw[en1];simp)]at hS
 have htB:=hT.2 T kJ;have hch:I.1=21->(dG T.1 T.2.2.2.2.2.1).2=true:=λq=>(IY h hvl hsu hat q htB.2.2).1
 have hcz:=LC h hvl hsu (Rh (m:=(mv,mo,mq,mg,())) (i:=I) hlab.1.2.1 hch);refine⟨hlab,⟨hT,hM,hB⟩,⟨hM,(Z5 _ _ _).symm⟩,ah.2 ⟨λh3=>rJ ?_,λh3=>⟨aes hm _,ah.2 ⟨λh4=>?_,λh4=>?_⟩⟩⟩⟩
 .have h3:(kY (mv,mo,mq,mg,()) (labS (mv,mo,mq,mg,()) T I)).2≠0:=by simpa using h3
  rw[hS,if_pos h3];rfl
 all_goals have h3:(kY (mv,mo,mq,mg,()) (labS (mv,mo,mq,mg,()) T I)).2=0:=by simpa using h3
 all_goals rw[if_neg (by omega)]at hS
 .have h4:(labS (mv,mo,mq,mg,()) T I).2.2.1=16:=GI h4;have hI:=(Q9 hlab.2.2.2.1).1 h4;obtain⟨c1,c2⟩:=IY h hvl hsu hat hI htB.2.2;have eo:=Rf (m:=(mv,mo,mq,mg,())) (t:=T) hI;obtain⟨_,_,_,_,c5,_,c6,_⟩:=La c1;have r2:=hlab.2.1;refine⟨r2,by omega,λd hd=>⟨⟨hb,hT,by rw[eo];omega⟩,ah.2 ⟨λh5=>rJ ?_,λh5=>?_⟩⟩⟩
  all_goals have ed:=rgd hd
  all_goals rw[ed]at c2 hS
  all_goals rw[<-eo]at c2
  .have h5:(rH (aG vs ms cs fs ts).1 fs bound (th,(kY (mv,mo,mq,mg,()) (labS (mv,mo,mq,mg,()) T I)).1,bf,()) (labS (mv,mo,mq,mg,()) T I).2.2.2.1 I.2.2.2.2.1 d).2≠0:=by simpa using h5
   by_cases q:0<=gu (λu=>decide (u.1=(labS (mv,mo,mq,mg,()) T I).2.2.2.1)) th
   .rw[hS,if_pos ⟨h4,q⟩];unfold rH;rw[if_pos q];rfl
   .exfalso;apply h5;unfold rH;rw[if_neg q,if_neg (by rw[c2];simp)]
  .have q:¬0<=gu (λu=>decide (u.1=(labS (mv,mo,mq,mg,()) T I).2.2.2.1)) th:=by
    intro q;unfold rH at h5;rw[if_pos q]at h5;simp at h5
   have es:rH (aG vs ms cs fs ts).1 fs bound (th,(kY (mv,mo,mq,mg,()) (labS (mv,mo,mq,mg,()) T I)).1,bf,()) (labS (mv,mo,mq,mg,()) T I).2.2.2.1 I.2.2.2.2.1 d=((insL th (labS (mv,mo,mq,mg,()) T I).2.2.2.1 (newS (aG vs ms cs fs ts).1 fs bound (labS (mv,mo,mq,mg,()) T I).2.2.2.1 I.2.2.2.2.1 d).1,(kY (mv,mo,mq,mg,()) (labS (mv,mo,mq,mg,()) T I)).1,bf,()),0):=by
    unfold rH;rw[if_neg q,if_neg (by rw[c2];simp)]
   rw[es];dsimp only;rw[if_neg (λp=>q p.2),if_pos h4]at hS
   have hp:=ai2 (l:=insL th (labS (mv,mo,mq,mg,()) T I).2.2.2.1 (newS (aG vs ms cs fs ts).1 fs bound (labS (mv,mo,mq,mg,()) T I).2.2.2.1 I.2.2.2.2.1 d).1) (id:=id) ⟨T,LD kJ,hid⟩;have hbf:bf=[]:=hV.2.1;have fin:=rJ hS;refine⟨⟨hb,htB⟩,ah.2 ⟨λh6=>?_,λh6=>⟨by rw[Z7];omega,hp.1,hp.2,?_,?_⟩⟩⟩
   .exfalso;rw[hcz]at h6;simp at h6
   all_goals rw[hbf];rw[hbf]at fin;exact fin
 .have h4:¬(labS (mv,mo,mq,mg,()) T I).2.2.1=16:=aaO h4;rw[if_neg (λp=>h4 p.1),if_neg h4]at hS
  have hp:=ai2 (l:=th) (id:=id) ⟨T,kJ,hid⟩;have hbf:bf=[]:=hV.2.1;have fin:=rJ hS;refine⟨⟨hb,htB⟩,ah.2 ⟨λh6=>?_,λh6=>⟨hT.1,hp.1,hp.2,?_,?_⟩⟩⟩
  .exfalso;rw[hcz]at h6;simp at h6
  all_goals rw[hbf];rw[hbf]at fin;exact fin
theorem aeu:aY aV.gd 21 Z8:=
 dO (cx:=aV) (n:=131) (cl:=[(32,yV),(40,ZG),(41,QW),(46,QU),(42,QS),(23,Gx),(48,ZM),(50,Z4),(51,Zf),(52,Gv),(49,uw)]) (rc:=[.data Jf,.keep,.keep]) aB ⟨QN,IV,QX,QV,QT,aei,aeh,aep,adC,BG,qJ,trivial⟩ Tryz.func21 λd hd=>by
  obtain⟨⟨vs,ms,cs,fs,ts,⟨⟩⟩,bound,⟨th,⟨mv,mo,mq,mg,⟨⟩⟩,bf,⟨⟩⟩,id,⟨⟩⟩:=d;exact aT (λ_=>none) (ai3 vs ms cs fs ts bound th mv mo mq mg bf id hd) (by kernel_rfl)
def oD(e:Int) (fs:List FD) (bound:Int) (ts:List SD):List TD:=ts.zipIdx.map λp=>(newS e fs bound (p.2:Int) p.1.1 p.1.2.1).1
def Z9(vs:List VD) (ms cs:List ByteArray) (fs:List FD) (ts:List SD) (bound:Int):ZD×Int:=
 if dM (aG vs ms cs fs ts).1 bound≠0 then(zZ,dM (aG vs ms cs fs ts).1 bound) else((oD (aG vs ms cs fs ts).1 fs bound ts,(wZ vs ms cs fs ts).1,[],()),0)
theorem aac{e:Int}{fs:List FD}{bound:Int}{ts:List SD}{k:Nat}{d:SD} (h:ts[k]?=some d):oD e fs bound (ts.take (k+1))=oD e fs bound (ts.take k)++[(newS e fs bound (k:Int) d.1 d.2.1).1]:=by
 have hk:k < ts.length:=(fH.1 h).1;unfold oD;rw[OW,h,afD,List.zipIdx_append,Me,jY,A98 (by omega)]
 simp
theorem aev(e:Int) (fs:List FD) (bound:Int) (ts:List SD):(oD e fs bound ts).length=ts.length:=by
 unfold oD;rw[A99,List.length_zipIdx]
theorem Ri(h:Ot fs ts=0):(1<=ts.length/\ts.length<=8)/\∀(k:Nat) d,ts[k]?=some d->(0<=d.1/\d.1 < (fs.length:Int))/\dK d.2.1=true:=by
 unfold Ot at h;split at h
 .cases h
 rename_i q;refine⟨by omega,λk d hd=>?_⟩
 have hn:ts.find? (λt=>decide (KN fs.length t≠0))=none:=by
  cases hf:ts.find? (λt=>decide (KN fs.length t≠0)) with
  | none=>rfl
  | some t=>
    rw[hf]at h;have:=UR hf;simp at this;exact absurd h this
 have hz:=A94.1 hn d (iJ hd);have hz:KN fs.length d=0:=by simpa using hz
 unfold KN at hz;split at hz
 .cases hz
 .split at hz
  .rename_i a b;exact⟨by omega,b⟩
  .cases hz
theorem I4{k:Nat}{d:SD} (hs:dM (aG vs ms cs fs ts).1 bound=0) (hd:ts[k]?=some d):(newS (aG vs ms cs fs ts).1 fs bound (k:Int) d.1 d.2.1).2=0:=by
 have ht:=Ri (nV (iG.1 hs).1).2.2;obtain⟨h1,h2⟩:=ht.2 k d hd;have hk:k < ts.length:=(fH.1 hd).1;have hk:k < 8:=by omega
 have hdp:¬bM (k:Int) < 0:=by
  unfold bM gU;rw[if_neg (by omega),if_pos (by omega)];omega
 unfold newS;rw[if_neg (by omega),if_neg hdp,if_neg (by omega),if_neg (by rw[h2];simp)]
theorem aad(hs:dM (aG vs ms cs fs ts).1 bound=0):(wZ vs ms cs fs ts).2=0:=by
 unfold wZ;rw[if_pos (iG.1 hs).1]
theorem Rj{S:ZD×Int}{a:ZD} (h:S=(a,c)):rT [Gu S.1,cI S.2] [Gu a,cI c]:=by subst h;exact⟨rfl,rfl⟩
abbrev aae:CT:={ ps:=[vF,.int .i64],pre:=λd=>bnd (d.1,()),res:=λd=>([],.iO [Gu ((Z9 d.1.1 d.1.2.1 d.1.2.2.1 d.1.2.2.2.1 d.1.2.2.2.2.1 d.2.1).1),.c (.v (.int .i64 ((Z9 d.1.1 d.1.2.1 d.1.2.2.1 d.1.2.2.2.1 d.1.2.2.2.2.1 d.2.1).2)))]) }
abbrev alc(vs:List VD) (ms cs:List ByteArray) (fs:List FD) (ts:List SD) (bound:Int):Nat->Option (St->kD):=λk=>match k with
 | 9=>some λ_=>.inv { α:=Nat,oz:=[(3,0,56,bQ)],slots:=λk=>[(35,.c (.v (.int .i64 k)))],res:=λk=>[(4,.row 56 bQ (oD (aG vs ms cs fs ts).1 fs bound (ts.take k)))],inv:=λk=>k<=ts.length,meas:=λk=>ts.length - k }
 | _=>none
theorem ai4(vs:List VD) (ms cs:List ByteArray) (fs:List FD) (ts:List SD) (bound:Int) (aF:aae.pre ((vs,ms,cs,fs,ts,()),bound,())):
 let z7:=bnd ((vs,ms,cs,fs,ts,()),());let z9:=aG vs ms cs fs ts;let z8:=Z9 vs ms cs fs ts bound;let z4:=[Gu (z8.fst),cI (z8.snd)];let z10:=wZ vs ms cs fs ts;let z11:=bP vs ms cs fs ts;let z3:=[SC.sl I6 z10.fst.fst,SC.sl I6 z10.fst.snd.fst,SC.sl I6.sl z10.fst.snd.snd.fst,SC.sl I6 z10.fst.snd.snd.snd.fst];let z2:=[SC.row (Nat.succ 0).succ.succ.succ,SC.sl I6 z10.fst.fst,SC.sl I6 z10.fst.snd.fst,SC.sl I6.sl z10.fst.snd.snd.fst,SC.sl I6 z10.fst.snd.snd.snd.fst,iN];let z6:=λ(x:Nat)=>oD z9.fst fs bound (List.take x ts);let z1:=λ(x:Nat)=>[g0 z11,g0 (ak.blk 37 lG),g0 (ak.blk 34 z3),g0 (ak.blk 37 z2),g0 (ak.row 56 bQ (z6 x))];let z5:=λ(x:Nat) (d:Int×(I6.pair Sh.unit).den)=>newS z9.fst fs bound (x:Int) d.fst d.snd.fst;z7/\br (!decide (dM z9.fst bound=0)) (rT z4 [Gu ([],([],[],[],[],()),[],()),cI (dM z9.fst bound)]) (z7/\br (!decide (z10.snd=0)) (rT z4 [Gu ([],([],[],[],[],()),[],()),cI (z10.snd)]) ((∃x,x<=ts.length/\(cI 0=cI (x:Int)/\True)/\[g0 z11,g0 (ak.blk 37 lG),g0 (ak.blk 34 z3),g0 (ak.blk 37 z2),g0 (ak.row 56 bQ [])]=(z1 x))/\∀(x:Nat),x<=ts.length->br (decide ((x:Int) < (ts.length:Int))) ((0<=(x:Int)/\(x:Int) < (ts.length:Int))/\∀(d:Int×(I6.pair Sh.unit).den),ts[(x:Int).toNat]?=some d->(z7/\(x:Int)<=(9223372036854775807:Int))/\br (!decide ((z5 x d).snd=0)) (rT z4 [Gu ([],([],[],[],[],()),[],()),cI ((z5 x d).snd)]) (mY ((z6 x).length+[(z5 x d).fst].length) 152/\iR ((x:Int)+(1:Int))/\∃x',x'<=ts.length/\(cI ((x:Int)+(1:Int))=cI (x':Int)/\True)/\[g0 z11,g0 (ak.blk 37 lG),g0 (ak.blk 34 z3),g0 (ak.blk 37 z2),g0 (ak.row 56 bQ (oD z9.fst fs bound (List.take x ts)++[(z5 x d).fst]))]=(z1 x')/\ts.length - x' < ts.length - x)) (rT z4 [Gu (oD z9.fst fs bound (List.take x ts),(z10.fst.fst,z10.fst.snd.fst,z10.fst.snd.snd.fst,z10.fst.snd.snd.snd.fst,()),[],()),cI 0]))):=by
 conv=>zeta
 delta lG iR iN;have hb:bnd ((vs,ms,cs,fs,ts,()),()):=aF;refine⟨hb,ah.2 ⟨λh=>Rj ?_,λh=>⟨hb,ah.2 ⟨λh1=>?_,λh1=>⟨⟨0,by omega,⟨rfl,trivial⟩,rfl⟩,λk hk=>ah.2 ⟨λg=>?_,λg=>Rj ?_⟩⟩⟩⟩⟩⟩
 .have h:dM (aG vs ms cs fs ts).1 bound≠0:=by simpa using h
  unfold Z9;rw[if_pos h];rfl
 all_goals have h:dM (aG vs ms cs fs ts).1 bound=0:=by simpa using h
 .exfalso;rw[aad h]at h1;simp at h1
 all_goals have ht:=(Ri (nV (iG.1 h).1).2.2).1
 .simp only[eH]at g;refine⟨⟨by omega,by omega⟩,λd hd=>⟨⟨hb,by omega⟩,ah.2 ⟨λh2=>?_,λh2=>?_⟩⟩⟩
  all_goals have hd:ts[k]?=some d:=hd
  .exfalso;rw[I4 h hd]at h2;simp at h2
  .have e:=@aac (aG vs ms cs fs ts).1 fs bound ts k d hd;have hlen:=aev (aG vs ms cs fs ts).1 fs bound (ts.take k);rw[jY]at hlen;refine⟨dJ.2 (by rw[hlen];simp only[y9,LP];omega),aC.2 (by omega),k+1,by omega,⟨rfl,trivial⟩,by rw[e],by omega⟩
 .simp only[iH]at g;rw[wo (i:=k) (by omega)]
  unfold Z9;rw[if_neg (by omega)]
theorem aew:aY cxR.gd 12 aae:=
 dO (cx:=cxR) (n:=63) (cl:=[(32,yV),(33,OI),(34,Qz)]) (rc:=[.data Jf,.keep]) aB ⟨QN,adW,QA,trivial⟩ Tryz.func12 λd hd=>by
  obtain⟨⟨vs,ms,cs,fs,ts,⟨⟩⟩,bound,⟨⟩⟩:=d;exact aT (alc vs ms cs fs ts bound) (ai4 vs ms cs fs ts bound hd) (by kernel_rfl)
def E8(m n:MD):Prop:=m.1.length=n.1.length/\m.2.1.length=n.2.1.length/\m.2.2.1.length=n.2.2.1.length
theorem LG:∀(qs:List (List Int)) (k:Nat) (d r:List Int),qs[k]?=some d->(r++qs.flatten).Perm (d++(qs.set k r).flatten)
 | [],k,d,r,h=>by simp at h
 | q :: qs,0,d,r,h=>by
   simp only[A96,A97]at h;subst h;simp only[UO,Md];exact aaF _ _ _
 | q :: qs,k+1,d,r,h=>by
   rw[aaH]at h;have ih:=LG qs k d r h;simp only[afB,Md];exact(aaF _ _ _).trans ((ih.append_left q).trans (aaF _ _ _))
theorem aaf{x v:Int} (h:eG m=true) (h0:(writeM m x v).2=0):eG (writeM m x v).1=true/\E8 (writeM m x v).1 m:=by
 obtain⟨vs,os,qs,sg,⟨⟩⟩:=m;obtain⟨q1,q2,q3,q4,q5,q6,q7,q8⟩:vs.length<=8/\os.length<=4/\qs.length<=4/\SS sg/\(∀v∈vs,dK v=true)/\(∀o∈os,-1<=o)/\(∀x∈sg++qs.flatten,0<=x)/\(sg++qs.flatten).Nodup:=fD.1 h;unfold writeM at h0 ⊢;split at h0
 .rename_i g;split at h0
  .rename_i hv;rw[if_pos g,if_pos hv];refine⟨fD.2 ⟨by rw[qN];exact q1,q2,q3,q4,λy hy=>?_,q6,q7,q8⟩,by rw[qN],rfl,rfl⟩
   rcases GH hy with hy | rfl
   .exact q5 y hy
   .exact hv
  .cases h0
 .rename_i g;exact absurd h0 g
theorem OQ{i f t:Int} (h:eG m=true) (ht:-1<=t) (h0:(jv m i id f t).2=0):eG (jv m i id f t).1=true/\E8 (jv m i id f t).1 m:=by
 obtain⟨vs,os,qs,sg,⟨⟩⟩:=m;obtain⟨q1,q2,q3,q4,q5,q6,q7,q8⟩:vs.length<=8/\os.length<=4/\qs.length<=4/\SS sg/\(∀v∈vs,dK v=true)/\(∀o∈os,-1<=o)/\(∀x∈sg++qs.flatten,0<=x)/\(sg++qs.flatten).Nodup:=fD.1 h;unfold jv at h0 ⊢;split at h0
 .rename_i g;split at h0
  .cases h0
  .rename_i g1;split at h0
   .rename_i g2;rw[if_pos g,if_neg g1,if_pos g2];refine⟨fD.2 ⟨q1,by rw[qN];exact q2,q3,q4,q5,λy hy=>?_,q7,q8⟩,rfl,by rw[qN],rfl⟩
    rcases GH hy with hy | rfl
    .exact q6 y hy
    .exact ht
   .cases h0
 .rename_i g;exact absurd h0 g
theorem ai5(h:eG m=true) (h0:(wY m c id).2=0):eG (wY m c id).1=true/\E8 (wY m c id).1 m:=by
 obtain⟨vs,os,qs,sg,⟨⟩⟩:=m;unfold wY at h0 ⊢;split at h0
 .rename_i g;split at h0
  .cases h0
  .rename_i g1;split at h0
   .cases h0
   .rename_i g2;rw[if_pos g,if_neg g1,if_neg g2];have hg:=(iY.1 g).2;have hg:0<=c/\c < (qs.length:Int):=hg;have iV:c.toNat < qs.length:=by omega
    have hk:qs[c.toNat]?=some (qs[c.toNat]?.getD []):=by rw[lY iV];rfl
    have:=ZV h hk (id:=id) (by omega)
    refine⟨?_,rfl,rfl,by rw[qN]⟩
    show eG (vs,os,qs.set c.toNat (qs[c.toNat]?.getD []++[id]),sg,())=true;rw[this];simpa using g2
 .rename_i g;exact absurd h0 g
theorem afo{n:Int} (h:eG m=true) (h0:(uy m c n).2.2=0):eG (uy m c n).1=true/\E8 (uy m c n).1 m:=by
 obtain⟨vs,os,qs,sg,⟨⟩⟩:=m;obtain⟨q1,q2,q3,q4,q5,q6,q7,q8⟩:vs.length<=8/\os.length<=4/\qs.length<=4/\SS sg/\(∀v∈vs,dK v=true)/\(∀o∈os,-1<=o)/\(∀x∈sg++qs.flatten,0<=x)/\(sg++qs.flatten).Nodup:=fD.1 h;unfold uy at h0 ⊢;split at h0
 .rename_i g;rw[if_pos g];have hg:0<=c/\c < (qs.length:Int):=(iY.1 g).2;have iV:c.toNat < qs.length:=by omega
  have hk:qs[c.toNat]?=some (qs[c.toNat]?.getD []):=by rw[lY iV];rfl
  generalize (nT n (((vs,os,qs,sg,()):MD).2.2.1[c.toNat]?.getD []).length).toNat=j;show eG (vs,os,qs.set c.toNat ((qs[c.toNat]?.getD []).drop j),kS sg ((qs[c.toNat]?.getD []).take j),())=true/\E8 (vs,os,qs.set c.toNat ((qs[c.toNat]?.getD []).drop j),kS sg ((qs[c.toNat]?.getD []).take j),()) _;generalize qs[c.toNat]?.getD []=q at hk;have p1:=LG qs c.toNat q (q.drop j) hk;have p2:∀F:List Int,(q++F).Perm (q.drop j++(q.take j++F)):=by
   intro F
   conv=>lhs;rw[<-Ur j q,zY]
   exact aaF _ _ _
  have p3:=(List.perm_append_left_iff _).1 (p1.trans (p2 _));obtain⟨a1,a2⟩:=QL (q.take j) sg q4;have p4:(sg++qs.flatten).Perm ((sg++q.take j)++(qs.set c.toNat (q.drop j)).flatten):=by
   rw[zY];exact p3.append_left sg
  have q8':=p4.nodup_iff.1 q8;have hn:(sg++q.take j).Nodup:=(List.nodup_append.1 q8').1;have hp:(kS sg (q.take j)).Perm (sg++q.take j):=(List.perm_ext_iff_of_nodup (a1.imp λh=>by omega) hn).2 λx=>by rw[a2 x,Et]
  have hp2:=hp.append_right (qs.set c.toNat (q.drop j)).flatten;exact⟨fD.2 ⟨q1,q2,by rw[qN];exact q3,a1,q5,q6,λx hx=>q7 x (p4.mem_iff.2 (hp2.mem_iff.1 hx)),hp2.nodup_iff.2 q8'⟩,rfl,rfl,by rw[qN]⟩
 .rename_i g;exact absurd h0 g
theorem aex(h:eG m=true) (h0:(og m id).2=0):eG (og m id).1=true/\E8 (og m id).1 m:=by
 obtain⟨vs,os,qs,sg,⟨⟩⟩:=m;obtain⟨q1,q2,q3,q4,q5,q6,q7,q8⟩:vs.length<=8/\os.length<=4/\qs.length<=4/\SS sg/\(∀v∈vs,dK v=true)/\(∀o∈os,-1<=o)/\(∀x∈sg++qs.flatten,0<=x)/\(sg++qs.flatten).Nodup:=fD.1 h;unfold og at h0 ⊢;split at h0
 .cases h0
 .rename_i g;split at h0
  .cases h0
  .rename_i g2;rw[if_neg g,if_neg g2];have e:oC (bY sg) [id] false=sg.filter (λx=>decide (x≠id)):=(Oz q4).symm
   show eG (vs,os,qs,oC (bY sg) [id] false,())=true/\_;rw[e];have sub:(sg.filter (λx=>decide (x≠id))++qs.flatten).Sublist (sg++qs.flatten):=(List.filter_sublist).append_right _
   exact⟨fD.2 ⟨q1,q2,q3,q4.filter _,q5,q6,λx hx=>q7 x (sub.subset hx),sub.nodup q8⟩,rfl,rfl,rfl⟩
theorem OU{a b c:MD} (h:E8 a b) (g:E8 b c):E8 a c:=⟨h.1.trans g.1,h.2.1.trans g.2.1,h.2.2.trans g.2.2⟩
theorem ai6{e:ED} (h:eG m=true) (h0:0<=e.1) (h1:(kY m e).2=0):eG (kY m e).1=true/\E8 (kY m e).1 m:=by
 unfold kY at h1 ⊢;split at h1
 .rename_i g;rw[if_pos g];exact aaf h h1
 rename_i g1;rw[if_neg g1];split at h1
 .rename_i g;rw[if_pos g];exact OQ h (by omega) h1
 rename_i g2;rw[if_neg g2];split at h1
 .rename_i g;rw[if_pos g];exact OQ h (by omega) h1
 rename_i g3;rw[if_neg g3];split at h1
 .rename_i g;rw[if_pos g];split at h1
  .rename_i g';rw[if_pos g'];have a:=OQ h (show(-1:Int)<=-1 by omega) g'
   have b:=ai5 a.1 h1;exact⟨b.1,OU b.2 a.2⟩
  .rename_i g';exact absurd h1 g'
 rename_i g4;rw[if_neg g4];split at h1
 .rename_i g;rw[if_pos g];exact aex h h1
 rename_i g5;rw[if_neg g5];split at h1
 .rename_i g;rw[if_pos g];exact afo h h1
 rename_i g6;rw[if_neg g6];split at h1
 .rename_i g;rw[if_pos g];exact afo h h1
 rename_i g7;rw[if_neg g7];exact⟨h,rfl,rfl,rfl⟩
theorem aey{p:PD}{e:ED} (h:lF p m=true) (h0:0<=e.1) (h1:(kY m e).2=0):lF p (kY m e).1=true:=by
 have hv:=zV h;obtain⟨a,b1,b2,b3⟩:=ai6 hv.2.1 h0 h1;unfold lF;rw[a];simp only[A8,eH];exact⟨⟨⟨⟨hv.1,trivial⟩,b1.trans hv.2.2.1⟩,b2.trans hv.2.2.2.1⟩,b3.trans hv.2.2.2.2⟩
theorem ai7{u:TD} (h:yZ l) (hu:u.1=id) (hn:∀t∈l,t.1≠id):yZ (insL l id u):=by
 have h:l.Pairwise λa b=>a.1 < b.1:=List.pairwise_map.1 h
 refine List.pairwise_map.2 ?_;unfold insL;have dw:∀{l:List TD},l.Pairwise (λa b=>a.1 < b.1)->∀t∈l.dropWhile (λt=>decide (t.1 < id)),id<=t.1:=by
  intro l
  induction l with
  | nil=>intro _ t ht;cases ht
  | cons a l ih=>
    intro hp t ht;rw[A85]at hp
    by_cases q:a.1 < id
    .rw[List.dropWhile_cons_of_pos (by simpa using q)]at ht
     exact ih hp.2 t ht
    .rw[List.dropWhile_cons_of_neg (by simpa using q)]at ht
     rcases mF.1 ht with rfl | ht
     .omega
     .have:=hp.1 t ht;omega
 have tw:∀{l:List TD},∀t∈l.takeWhile (λt=>decide (t.1 < id)),t.1 < id:=by
  intro l
  induction l with
  | nil=>intro t ht;cases ht
  | cons a l ih=>
    intro t ht;rw[aaM]at ht;split at ht
    .rename_i q;rcases mF.1 ht with rfl | ht
     .simpa using q
     .exact ih t ht
    .cases ht
 have e:=A89 (p:=λt=>decide (t.1 < id)) (l:=l)
 have h2:=h;rw[<-e,Ru]at h2;have dm:∀t∈l.dropWhile (λt=>decide (t.1 < id)),id < t.1:=by
  intro t ht;have a:=dw h t ht;have b:=hn t (by rw[<-e];exact afy _ ht)
  omega
 refine Ru.2 ⟨Ru.2 ⟨h2.1,List.pairwise_singleton _ _,λa ha b hb=>?_⟩,h2.2.1,λa ha b hb=>?_⟩
 .simp at hb;subst hb;have:=tw a ha;omega
 .have q:=dm b hb;rcases Et.1 ha with ha | ha
  .have:=tw a ha;omega
  .simp at ha;subst ha;omega
theorem ai8(h:Jc vs ms cs fs=0):(vs.length<=8/\ms.length<=4/\cs.length<=4)/\∀v∈vs,dK v.2.1=true:=by
 unfold Jc at h;split at h
 .cases h
 .rename_i q;split at h
  .rename_i g;exact⟨by omega,λv hv=>UH.1 g v hv⟩
  .cases h
theorem aez(h:(aG vs ms cs fs ts).1=0):lF (vs,ms,cs,fs,ts,()) (wZ vs ms cs fs ts).1=true:=by
 obtain⟨⟨h1,h2,h3⟩,hv⟩:=ai8 (nV h).1;unfold wZ;rw[if_pos h];have hf:eG (vs.map (·.2.1),List.replicate ms.length (-1),List.replicate cs.length [],[],())=true:=by
  refine fD.2 ⟨by rw[A99];exact h1,by rw[Fa];exact h2,by rw[Fa];exact h3,List.Pairwise.nil,λv hv'=>?_,λo ho=>?_,?_,?_⟩
  .obtain⟨x,hx,rfl⟩:=List.mem_map.1 hv';exact hv x hx
  .rw[(List.mem_replicate.1 ho).2];omega
  all_goals simp
 unfold lF;simp only[hf,h,A99,Fa,decide_true,Bool.and_self]
theorem I5{k:Nat} (h:(oD e fs bound ts)[k]?=some t):∃d,ts[k]?=some d/\t=(newS e fs bound (k:Int) d.1 d.2.1).1:=by
 unfold oD at h;rw[Es,afz]at h;cases hd:ts[k]? with
 | none=>rw[hd]at h;cases h
 | some d=>rw[hd]at h;simp at h;exact⟨d,rfl,h.symm⟩
theorem OV{fn r:Int} (h:(newS e fs bound id fn r).2=0):(newS e fs bound id fn r).1.1=id:=by
 unfold newS at h ⊢
 split at h
 .rename_i q;exact absurd h q
 split at h
 .cases h
 split at h
 .cases h
 split at h
 .cases h
 rename_i q1 q2 q3 q4;rw[if_neg q1,if_neg q2,if_neg q3,if_neg q4];exact(KQ _ _ _ _).1
def LH(l:List TD):Prop:=∀t∈l,t.2.2.2.1.length=8
theorem ai9(hs:dM (aG vs ms cs fs ts).1 bound=0):VS vs ms cs fs ts bound (oD (aG vs ms cs fs ts).1 fs bound ts) (wZ vs ms cs fs ts).1 []/\LH (oD (aG vs ms cs fs ts).1 fs bound ts):=by
 have hm:∀t∈oD (aG vs ms cs fs ts).1 fs bound ts,xq ms fs bound t/\t.2.2.2.1.length=8:=by
  intro t ht;obtain⟨k,hk⟩:=UM.1 ht;obtain⟨d,hd,rfl⟩:=I5 hk;exact(Zg (I4 hs hd)).2
 refine⟨⟨aez (iG.1 hs).1,rfl,λt ht=>⟨hs,(hm t ht).1⟩,ZF λj a b ha hb=>?_⟩,λt ht=>(hm t ht).2⟩
 obtain⟨d,hd,rfl⟩:=I5 ha;obtain⟨d',hd',rfl⟩:=I5 hb;rw[OV (I4 hs hd),OV (I4 hs hd')];omega
theorem aag(h:VS vs ms cs fs ts bound l m bf) (h8:LH l) (hl:l.length<=1000000):jC l:=
 ⟨hl,λt ht=>⟨(Lc (h.2.2.1 t ht).1 (h.2.2.1 t ht).2).1,(Lc (h.2.2.1 t ht).1 (h.2.2.1 t ht).2).2,h8 t ht⟩⟩
theorem aja{k:Nat}{u:TD} (h:yZ l) (hk:l[k]?=some t) (hu:u.1=t.1):yZ (l.set k u):=by
 unfold yZ at h ⊢
 rw[List.map_set];have e:(l.map (·.1))[k]?=some t.1:=by rw[Es,hk];rfl
 rw[show(l.map (·.1)).set k u.1=l.map (·.1) by rw[hu];exact fZ e]
 exact h
theorem Ul{z:ZD} (h:(qM vs ms cs fs ts bound z id).2.2=0):
 dM (aG vs ms cs fs ts).1 bound=0/\VS vs ms cs fs ts bound z.1 z.2.1 z.2.2.1/\∃t i,jM (aG vs ms cs fs ts).1 ms fs z.1 id=(t,i,true)/\OL z.1 z.2.1 t i=true/\(kY z.2.1 (labS z.2.1 t i)).2=0 /\
  ¬((labS z.2.1 t i).2.2.1=16/\0<=gu (λu=>decide (u.1=(labS z.2.1 t i).2.2.2.1)) z.1) /\
  qM vs ms cs fs ts bound z id=((stT (if(labS z.2.1 t i).2.2.1=16 then insL z.1 (labS z.2.1 t i).2.2.2.1 (newS (aG vs ms cs fs ts).1 fs bound (labS z.2.1 t i).2.2.2.1 i.2.2.2.2.1 (t.2.2.2.1.getD i.2.2.1.toNat 0)).1 else z.1) id
  (kC (aG vs ms cs fs ts).1 ms fs bound t (zU i (labS z.2.1 t i))).1,(kY z.2.1 (labS z.2.1 t i)).1,[],()),labS z.2.1 t i,0):=by
 have h1:dM (aG vs ms cs fs ts).1 bound=0:=by
  refine L9.1 λq=>?_
  unfold qM at h;rw[if_pos q]at h;exact q h
 have h2:vsB vs ms cs fs ts bound z.1 z.2.1 z.2.2.1=true:=by
  refine L9.1 λq=>?_
  unfold qM at h;rw[if_neg (by omega),if_pos (by simpa using q)]at h;cases h
 cases hr:jM (aG vs ms cs fs ts).1 ms fs z.1 id with
 | mk t x=>
   obtain⟨i,ok⟩:=x;rw[IZ h1 h2 hr]at h ⊢
   split at h
   .cases h
   rename_i g1;split at h
   .cases h
   rename_i g2;split at h
   .cases h
   rename_i g3;rw[if_neg g1,if_neg g2,if_neg g3];simp only[Bool.not_eq_false,A8]at g1;exact⟨h1,lJ.1 h2,t,i,by rw[g1.1],g1.2,L9.1 g2,g3,rfl⟩
theorem ajb{z:ZD} (h:(qM vs ms cs fs ts bound z id).2.2=0) (h8:LH z.1) (hl:z.1.length<=999999) (hM:bI z.2.1):
 VS vs ms cs fs ts bound (qM vs ms cs fs ts bound z id).1.1 (qM vs ms cs fs ts bound z id).1.2.1 (qM vs ms cs fs ts bound z id).1.2.2.1/\LH (qM vs ms cs fs ts bound z id).1.1:=by
 obtain⟨hs,hV,t,i,hr,he,hf,hd,e⟩:=Ul h;rw[e];have hT:=aag hV h8 (by omega)
 obtain⟨hm,hid,hlab,hat,hsu,hvl⟩:=OO hV hM hT hr;have hch:i.1=21->(dG t.1 t.2.2.2.2.2.1).2=true:=λq=>(IY hs hvl hsu hat q (h8 t hm)).1
 have hcz:=LC hs hvl hsu (Rh (m:=z.2.1) (i:=i) hlab.1.2.1 hch);obtain⟨_,c1,c2,_,c3,_⟩:=aif (h8 t hm) hcz;have h0:0<=t.1:=by
  have:=wW hvl;obtain⟨x,fn,pc,rg,st,ch,ph,su,fa,hd,u⟩:=t;exact(qG this.1).1
 have hL:VS vs ms cs fs ts bound (if(labS z.2.1 t i).2.2.1=16 then insL z.1 (labS z.2.1 t i).2.2.2.1 (newS (aG vs ms cs fs ts).1 fs bound (labS z.2.1 t i).2.2.2.1 i.2.2.2.2.1 (t.2.2.2.1.getD i.2.2.1.toNat 0)).1 else z.1) (kY z.2.1 (labS z.2.1 t i)).1 [] /\
  LH (if(labS z.2.1 t i).2.2.1=16 then insL z.1 (labS z.2.1 t i).2.2.2.1 (newS (aG vs ms cs fs ts).1 fs bound (labS z.2.1 t i).2.2.2.1 i.2.2.2.2.1 (t.2.2.2.1.getD i.2.2.1.toNat 0)).1 else z.1) /\
  ∃u∈(if(labS z.2.1 t i).2.2.1=16 then insL z.1 (labS z.2.1 t i).2.2.2.1 (newS (aG vs ms cs fs ts).1 fs bound (labS z.2.1 t i).2.2.2.1 i.2.2.2.2.1 (t.2.2.2.1.getD i.2.2.1.toNat 0)).1 else z.1),u.1=id:=by
  have kJ:=aey hV.1 (show 0<=(labS z.2.1 t i).1 by rw[Z5];exact h0) hf
  split
  .rename_i g;have hi:=(Q9 hlab.2.2.2.1).1 g;obtain⟨s1,s2⟩:=IY hs hvl hsu hat hi (h8 t hm);rw[<-Rf (m:=z.2.1) hi]at s2;obtain⟨_,n1,n2⟩:=Zg s2;have n3:=OV s2;have hmm:∀x∈insL z.1 (labS z.2.1 t i).2.2.2.1 (newS (aG vs ms cs fs ts).1 fs bound (labS z.2.1 t i).2.2.2.1 i.2.2.2.2.1 (t.2.2.2.1.getD i.2.2.1.toNat 0)).1,x∈z.1\/x=(newS (aG vs ms cs fs ts).1 fs bound (labS z.2.1 t i).2.2.2.1 i.2.2.2.2.1 (t.2.2.2.1.getD i.2.2.1.toNat 0)).1:=by
    intro x hx;unfold insL at hx;simp only[Et,A76]at hx;rcases hx with(hx | hx) | hx
    .exact .inl ((List.takeWhile_sublist _).subset hx)
    .exact .inr hx
    .exact .inl ((List.dropWhile_sublist _).subset hx)
   refine⟨⟨kJ,rfl,λx hx=>⟨hs,?_⟩,ai7 hV.2.2.2 n3 λx hx q=>hd ⟨g,?_⟩⟩,λx hx=>?_,t,LD hm,hid⟩
   .rcases hmm x hx with hx | rfl
    .exact(hV.2.2.1 x hx).2
    .exact n1
   .have:=(ai2 (l:=z.1) ⟨x,hx,q⟩);refine L9.1 λq2=>?_
    have:=A94.1 (uz q2) x hx;simp[q]at this
   .rcases hmm x hx with hx | rfl
    .exact h8 x hx
    .exact n2
  .exact⟨⟨kJ,rfl,hV.2.2.1,hV.2.2.2⟩,h8,t,hm,hid⟩
 generalize (if(labS z.2.1 t i).2.2.1=16 then insL z.1 (labS z.2.1 t i).2.2.2.1 (newS (aG vs ms cs fs ts).1 fs bound (labS z.2.1 t i).2.2.2.1 i.2.2.2.2.1 (t.2.2.2.1.getD i.2.2.1.toNat 0)).1 else z.1)=L at hL
 obtain⟨hL,hL8,u,hu,hui⟩:=hL;have q:0<=gu (λt=>decide (t.1=id)) L:=by
  refine L9.1 λq=>?_
  have:=A94.1 (uz q) u hu;simp[hui]at this
 obtain⟨k,v,q1,q2,q3,q4⟩:=qL q;have ek:(eY (gu (λt=>decide (t.1=id)) L) 0).toNat=k:=by rw[q1];unfold eY;split<;>omega
 have hvi:v.1=id:=by simpa using UR q3
 unfold stT;rw[ek];refine⟨⟨hL.1,rfl,λx hx=>⟨hs,?_⟩,aja hL.2.2.2 q2 (c3.trans (hid.trans hvi.symm))⟩,λx hx=>?_⟩
 .rcases GH hx with hx | rfl
  .exact(hL.2.2.1 x hx).2
  .exact c1
 .rcases GH hx with hx | rfl
  .exact hL8 x hx
  .exact c2
def xV:List VD:=[(⟨#[120]⟩,0,())]
def xF:List FD:=[(⟨#[102]⟩,[(1,1,0,0,0,1,0,0,()),(11,2,1,0,0,0,0,1,())],())]
def xT:List SD:=[(0,0,()),(0,0,())]
def xP:PD:=(xV,[],[],xF,xT,())
def xt(id:Int):TD:=(id,0,1,[0,1,0,0,0,0,0,0],0,0,0,1,0,[],())
def xu:TD:=(0,0,2,[0,1,0,0,0,0,0,0],1,0,0,2,0,[],())
def xi:ID:=(11,2,1,0,0,0,0,1,())
def xm(v:Int):MD:=([v],[],[],[],())
def xe(id v:Int):ED:=(id,0,5,0,-1,-1,1,v,v+1,())
theorem afp:(aG xV [] [] xF xT).1=0:=by rfl
theorem aah(h:b=4\/b=32):dM (aG xV [] [] xF xT).1 b=0:=iG.2 ⟨afp,by omega,by omega⟩
theorem ald(h:b=4\/b=32):oD (aG xV [] [] xF xT).1 xF b xT=[xt 0,xt 1]:=by
 rcases h with rfl | rfl<;>rfl
theorem ale:(wZ xV [] [] xF xT).1=xm 0:=by rfl
theorem LJ(h:b=4\/b=32):VS xV [] [] xF xT b [xt 0,xt 1] (xm 0) []/\LH [xt 0,xt 1]:=by
 have:=ai9 (aah h);rw[ald h,ale]at this;exact this
theorem alf(h:VS xV [] [] xF xT b l m []) (h8:LH l) (hl:l.length=2):jC l:=aag h h8 (by omega)
theorem Um(v:Int):bI (xm v):=vw (m:=xm v) rfl
theorem Rk(hV:xq [] xF 32 t) (h1:t.2.2.2.2.2.2.2.1=1):iU (aG xV [] [] xF xT).1 [] xF t=atR xF t.2.1 t.2.2.1:=by
 unfold iU;rw[if_pos ⟨afp,h1,hV⟩]
theorem ajc:jM (aG xV [] [] xF xT).1 [] xF [xt 0,xt 1] 0=(xt 0,xi,true):=by
 have hV:=(LJ (.inr rfl)).1.2.2.1 (xt 0) (by simp)
 unfold jM;rw[show En [xt 0,xt 1] 0=some (xt 0) from rfl]
 show(xt 0,(iU _ _ _ _).1,(iU _ _ _ _).2)=_;rw[Rk hV.2 rfl];rfl
theorem alg(id:Int):labS (xm 0) (xt id) xi=xe id 0:=by rfl
theorem alh:kY (xm 0) (xe 0 0)=(xm 1,0):=by
 have hf:eG (xm 0)=true:=(zV (LJ (.inl rfl)).1.1).2.1;unfold kY;rw[if_pos (.inl rfl)];unfold writeM;rw[if_pos (iY.2 ⟨hf,by decide,by decide⟩),if_pos (show dK (xe 0 0).2.2.2.2.2.2.2.2.1=true from rfl)]
 rfl
theorem ali(h:b=4\/b=32):(kC (aG xV [] [] xF xT).1 [] xF b (xt 0) 0).1=xu:=by
 have hV:=(LJ h).1.2.2.1 (xt 0) (by simp)
 unfold kC;rw[if_neg (by rw[aah h];simp),if_neg (by simpa using hV.2),if_neg (by decide),if_neg (by decide)]
 rcases h with rfl | rfl<;>rfl
theorem aai(h:b=4\/b=32):qM xV [] [] xF xT b ([xt 0,xt 1],xm 0,[],()) 0=(([xu,xt 1],xm 1,[],()),xe 0 0,0):=by
 rw[IZ (aah h) (lJ.2 (LJ h).1) ajc];show(if(true && OL [xt 0,xt 1] (xm 0) (xt 0) xi)=false then _ else if(kY (xm 0) (labS (xm 0) (xt 0) xi)).2≠0 then _ else if(labS (xm 0) (xt 0) xi).2.2.1=16/\_ then _ else _)=_
 rw[alg,alh,show OL [xt 0,xt 1] (xm 0) (xt 0) xi=true by rfl]
 rw[if_neg (by simp),if_neg (by simp),if_neg (by rintro⟨h,_⟩;exact absurd h (by decide)),if_neg (by decide)]
 rw[show zU xi (xe 0 0)=0 by rfl,ali h]
 rfl
theorem aeA(h:b=4\/b=32):VS xV [] [] xF xT b [xu,xt 1] (xm 1) []/\LH [xu,xt 1]:=by
 have:=ajb (vs:=xV) (ms:=[]) (cs:=[]) (fs:=xF) (ts:=xT) (bound:=b) (id:=0) (z:=([xt 0,xt 1],xm 0,[],())) (by rw[aai h]) (LJ h).2 (by simp) (Um 0)
 rw[aai h]at this;exact this
theorem ajd:EZ xV [] [] xF xT [xt 0,xt 1] (xm 0) []=[0,1]:=by
 have hV:=(LJ (.inr rfl)).1;unfold EZ;rw[if_pos (lJ.2 hV)];have e:∀i,xq [] xF 32 (xt i)->ZJ (aG xV [] [] xF xT).1 [] xF [xt 0,xt 1] (xm 0) (xt i)=true:=by
  intro i hi;unfold ZJ;rw[Rk hi rfl];rfl
 unfold AP;rw[afw (e 0 (hV.2.2.1 _ (by simp)).2),afw (e 1 (hV.2.2.1 _ (by simp)).2)]
 rfl
theorem aje:EZ xV [] [] xF xT [xu,xt 1] (xm 1) []=[1]:=by
 have hV:=(aeA (.inr rfl)).1;unfold EZ;rw[if_pos (lJ.2 hV)];have e:ZJ (aG xV [] [] xF xT).1 [] xF [xu,xt 1] (xm 1) (xt 1)=true:=by
  unfold ZJ;rw[Rk (hV.2.2.1 _ (by simp)).2 rfl];rfl
 have e2:ZJ (aG xV [] [] xF xT).1 [] xF [xu,xt 1] (xm 1) xu=false:=by
  unfold ZJ iU;rw[if_neg (by rintro⟨_,h,_⟩;exact absurd h (by decide))]
  rfl
 unfold AP;rw[List.filter_cons_of_neg (by rw[e2];simp),afw e]
 rfl
theorem alj:AQ xV [] [] xF xT [xu,xt 1] (xm 1) [] 1=(xe 1 1,true):=by
 have hV:=(aeA (.inr rfl)).1;have hr:jM (aG xV [] [] xF xT).1 [] xF [xu,xt 1] 1=(xt 1,xi,true):=by
  unfold jM;rw[show En [xu,xt 1] 1=some (xt 1) from rfl]
  show(xt 1,(iU _ _ _ _).1,(iU _ _ _ _).2)=_;rw[Rk (hV.2.2.1 _ (by simp)).2 rfl];rfl
 unfold AQ;rw[if_pos (lJ.2 hV),hr];rfl
abbrev afq:CT:={ ps:=[],pre:=λd=>True,res:=λd=>([],.one (gV vF xP)) }
abbrev alk  : Nat->Option (St->kD):=λ_=>none
theorem ajf :
 let z1:=((0:Int),(0:Int),());rE (bF.one (SV.agg [SC.sl Qk xV,SC.sl Sh.str [],SC.sl Sh.str [],SC.sl LU xF,SC.sl ji xT])) (bF.one (SV.agg [SC.sl Qk [({ data:=#[(120:UInt8)]:ByteArray },(0:Int),())],SC.sl Sh.str [],SC.sl Sh.str [],SC.sl LU [({ data:=#[(102:UInt8)]:ByteArray },[((1:Int),(1:Int),(0:Int),(0:Int),(0:Int),(1:Int),(0:Int),(0:Int),()),((11:Int),(2:Int),(1:Int),(0:Int),(0:Int),(0:Int),(0:Int),(1:Int),())],())],SC.sl ji [z1,z1]])):=by
 conv=>zeta
 exact⟨rfl,rfl⟩
theorem aeB:aY aV.gd 31 afq:=
 dO (cx:=aV) (n:=14) (cl:=[]) (rc:=[.data vF]) aB trivial Tryz.func31 λd hd=>by
  obtain⟨⟩:=d;exact aT (alk ) (ajf ) (by kernel_rfl)
abbrev aaj:CT:={ ps:=[.sl (.int .i64),.sl (.int .i64)],pre:=λd=>d.1.length<=1000000,res:=λd=>([],vB (jO d.1 d.2.1)) }
abbrev alm(l m:List Int):Nat->Option (St->kD):=λk=>match k with
 | 4=>some λ_=>.inv { α:=Nat,slots:=λk=>[(5,.c (.v (.int .i64 k)))],res:=λk=>[],inv:=λk=>k<=(l).length/\∀j < k,l[j]?=m[j]?,meas:=λk=>(l).length - k }
 | _=>none
theorem ajg(l m:List Int) (aF:aaj.pre (l,m,())):
 let z1:=λ(x:Nat)=>(x<=l.length/\∀(j:Nat),j < x->l[j]?=m[j]?);br (!decide ((l.length:Int)=(m.length:Int))) (qB (jO l m) false) ((∃x,(z1 x)/\(cI 0=cI (x:Int)/\True)/\([]:List fV)=[])/\∀(x:Nat),(z1 x)->br (decide ((x:Int) < (l.length:Int))) ((0<=(x:Int)/\(x:Int) < (l.length:Int))/\∀(d:Int),l[(x:Int).toNat]?=some d->(0<=(x:Int)/\(x:Int) < (m.length:Int))/\∀(dR:Int),m[(x:Int).toNat]?=some dR->br (!decide (d=dR)) (qB (jO l m) false) (iR ((x:Int)+(1:Int))/\∃x',(z1 x')/\(cI ((x:Int)+(1:Int))=cI (x':Int)/\True)/\([]:List fV)=[]/\l.length - x' < l.length - x)) (qB (jO l m) true)):=by
 conv=>zeta
 delta fV iR;have hp:l.length<=1000000:=aF;have fF:l≠m->qB (jO l m) false:=λq=>⟨rfl,by rw[jX q]⟩
 refine ah.2 ⟨λh=>fF λq=>?_,λh=>?_⟩
 .subst q;simp at h
 simp only[BJ,eH]at h;refine⟨⟨0,⟨by omega,λj hj=>by omega⟩,⟨rfl,trivial⟩,rfl⟩,λk hk=>ah.2 ⟨λg=>?_,λg=>?_⟩⟩
 .simp only[eH]at g;refine⟨⟨by omega,by omega⟩,λd hd=>⟨⟨by omega,by omega⟩,λd1 hd1=>ah.2 ⟨λg2=>fF λq=>?_,λg2=>⟨aC.2 (by omega),k+1,⟨by omega,λj hj=>?_⟩,⟨rfl,trivial⟩,rfl,by omega⟩⟩⟩⟩
  .subst q;rw[hd]at hd1;cases hd1;simp at g2
  .by_cases jh:j=k
   .subst jh;have hd:l[j]?=some d:=hd;have hd1:m[j]?=some d1:=hd1;have g2:d=d1:=by simpa using g2
    rw[hd,hd1,g2]
   .exact hk.2 j (by omega)
 simp only[iH]at g;have e:l=m:=by
  apply Ar;intro j
  by_cases hj:j < k
  .exact hk.2 j hj
  .rw[uG (by omega),uG (by omega)]
 exact⟨rfl,by rw[gI e]⟩
theorem aeC:aY aV.gd 18 aaj:=
 dO (cx:=aV) (n:=26) (cl:=[]) (rc:=[]) aB trivial Tryz.func18 λd hd=>by
  obtain⟨l,m,⟨⟩⟩:=d;exact aT (alm l m) (ajg l m hd) (by kernel_rfl)
abbrev aak:CT:={ ps:=[],pre:=λd=>True,res:=λd=>([],vB (true)) }
abbrev aln  : Nat->Option (St->kD):=λ_=>none
theorem ajh :
 let z11:=1<=1000000/\0<=1000000/\0<=1000000/\1<=1000000/\2<=1000000/\(∀(x:FD),x∈xF->List.length x.snd.fst<=1000000)/\2<=1000000;let z12:=oD (0:Int) xF (4:Int) xT;let z10:=EZ xV [] [] xF xT z12 (List.map (λx=>x.snd.fst) xV,List.replicate 0 (-1:Int),List.replicate 0 [],[],()) [];let z9:=qM xV [] [] xF xT (4:Int) (oD (0:Int) xF (4:Int) xT,(List.map (λx=>x.snd.fst) xV,List.replicate 0 (-1:Int),List.replicate 0 [],[],()),[],()) (0:Int);let z8:=z9.snd.snd=0;let z2:=true && z9.snd.fst.fst == (0:Int) && z9.snd.fst.snd.fst == (0:Int) && z9.snd.fst.snd.snd.fst == (5:Int) && z9.snd.fst.snd.snd.snd.fst == (0:Int) && z9.snd.fst.snd.snd.snd.snd.fst == (-1:Int) && z9.snd.fst.snd.snd.snd.snd.snd.fst == (-1:Int) && z9.snd.fst.snd.snd.snd.snd.snd.snd.fst == (1:Int) && z9.snd.fst.snd.snd.snd.snd.snd.snd.snd.fst == (0:Int) && z9.snd.fst.snd.snd.snd.snd.snd.snd.snd.snd.fst == (1:Int);let z6:=AQ xV [] [] xF xT z9.fst.fst z9.fst.snd.fst z9.fst.snd.snd.fst (1:Int);let z4:=z6.fst.snd.snd.snd.snd.snd.snd.snd.fst=1;let z3:=z6.fst.snd.snd.snd.snd.snd.snd.snd.snd.fst=2;let z5:=z6.fst.fst=1;let z1:=decide z8 && z2 && z6.snd && decide z4 && decide z3 && decide z5 && jO z9.fst z9.fst && !jO (oD (0:Int) xF (4:Int) xT,(List.map (λx=>x.snd.fst) xV,List.replicate 0 (-1:Int),List.replicate 0 [],[],()),[],()) z9.fst;let z7:=EZ xV [] [] xF xT z9.fst.fst z9.fst.snd.fst z9.fst.snd.snd.fst;True/\z11/\(true=true->z11/\jC z12/\bI (List.map (λx=>x.snd.fst) xV,List.replicate 0 (-1:Int),List.replicate 0 [],[],()))/\(true=true->z10.length<=1000000)/\br (false || !jO z10 [(0:Int),(1:Int)]) (qB true false) ((z11/\jC z12/\2<=999999/\true=true/\zW [])/\(z11/\jC z9.fst.fst/\bI z9.fst.snd.fst)/\((decide z8 && z2 && z6.snd && decide z4 && decide z3 && decide z5)=true->zX z9.fst)/\((decide z8 && z2 && z6.snd && decide z4 && decide z3 && decide z5 && jO z9.fst z9.fst)=true->zX (oD (0:Int) xF (4:Int) xT,(List.map (λx=>x.snd.fst) xV,List.replicate 0 (-1:Int),List.replicate 0 [],[],()),[],()))/\(z1=true->z11/\jC z9.fst.fst/\bI z9.fst.snd.fst)/\(z1=true->z7.length<=1000000)/\qB true (decide z8 && z2 && z6.snd && decide z4 && decide z3 && decide z5 && jO z9.fst z9.fst && !jO (oD (0:Int) xF (4:Int) xT,(List.map (λx=>x.snd.fst) xV,List.replicate 0 (-1:Int),List.replicate 0 [],[],()),[],()) z9.fst && jO z7 [(1:Int)])):=by
 conv=>zeta
 have e1:oD (0:Int) xF (4:Int) xT=[xt 0,xt 1]:=by rfl
 have e2:((List.map (λx:VD=>x.2.1) xV,List.replicate 0 (-1:Int),List.replicate 0 [],[],()):MD)=xm 0:=by rfl
 have e3:qM xV [] [] xF xT 4 ([xt 0,xt 1],xm 0,[],()) 0=(([xu,xt 1],xm 1,[],()),xe 0 0,0):=aai (.inl rfl);rw[e1,e2];simp only[e3,ajd,aje,alj];have hF:∀(x:FD),x∈xF->x.2.1.length<=1000000:=by
  intro x hx;simp only[xF,A76]at hx;subst hx;decide
 have B:1<=1000000/\0<=1000000/\0<=1000000/\1<=1000000/\2<=1000000/\(∀(x:FD),x∈xF->x.2.1.length<=1000000)/\2<=1000000:=⟨by decide,by decide,by decide,by decide,by decide,hF,by decide⟩
 have t0:jC [xt 0,xt 1]:=alf (LJ (.inl rfl)).1 (LJ (.inl rfl)).2 rfl;have t1:jC [xu,xt 1]:=alf (aeA (.inl rfl)).1 (aeA (.inl rfl)).2 rfl;have bb:zW []:=⟨by decide,λb hb=>nomatch hb⟩
 have ne:jO (([xt 0,xt 1],xm 0,[],()):ZD) ([xu,xt 1],xm 1,[],())=false:=jX λh=>by
  have:=oh (λz:ZD=>z.2.1.1) h
  simp[xm]at this
 have e4:jO ([0,1]:List Int) [0,1]=true:=gI rfl;have e5:jO ([1]:List Int) [1]=true:=gI rfl;have e6:jO (([xu,xt 1],xm 1,[],()):ZD) ([xu,xt 1],xm 1,[],())=true:=gI rfl;refine⟨trivial,B,λ_=>⟨B,t0,Um 0⟩,λ_=>by decide,ah.2 ⟨λh=>?_,λ_=>⟨⟨B,t0,by decide,trivial,bb⟩,⟨B,t1,Um 1⟩,λ_=>⟨t1,Um 1,bb⟩,λ_=>⟨t0,Um 0,bb⟩,λ_=>⟨B,t1,Um 1⟩,λ_=>by decide,mO ?_⟩⟩⟩
 .rw[e4]at h;cases h
 .rw[e5,e6,ne];rfl
theorem aeD:aY aV.gd 11 aak:=
 dO (cx:=aV) (n:=89) (cl:=[(31,afq),(12,aae),(19,OM),(18,aaj),(21,Z8),(16,ZL),(24,Eo)]) (rc:=[]) aB ⟨aeB,aew,aef,aeC,aeu,aeg,Q5,trivial⟩ Tryz.func11 λd hd=>by
  obtain⟨⟩:=d;exact aT (aln ) (ajh ) (by kernel_rfl)
def I7(z:ZD):Bool:=decide (z.1.length<=20) && decide (z.2.2.1.length<=20) && decide (z.2.1.1.length<=20) && decide (z.2.1.2.1.length<=20) && decide (z.2.1.2.2.1.length<=20) && decide (z.2.1.2.2.2.1.length<=40) &&
 z.1.all (λt=>decide (t.2.2.2.2.2.2.2.2.2.1.length<=20)) && z.2.2.1.all (λb=>decide (b.2.2.1.length<=40)) && z.2.1.2.2.1.all (λq=>decide (q.length<=40))
theorem vC{th:List TD}{mv mo:List Int}{mq:List (List Int)}{mg:List Int}:I7 (th,(mv,mo,mq,mg,()),bf,())=true↔(th.length<=20/\bf.length<=20/\mv.length<=20/\mo.length<=20/\mq.length<=20/\mg.length<=40)/\(∀t∈th,t.2.2.2.2.2.2.2.2.2.1.length<=20)/\(∀b∈bf,b.2.2.1.length<=40)/\∀q∈mq,q.length<=40:=by
 unfold I7;simp only[A8,eH,UH];constructor
 .rintro⟨⟨⟨⟨⟨⟨⟨⟨h1,h2⟩,h3⟩,h4⟩,h5⟩,h6⟩,h7⟩,h8⟩,h9⟩;exact⟨⟨h1,h2,h3,h4,h5,h6⟩,h7,h8,h9⟩
 .rintro⟨⟨h1,h2,h3,h4,h5,h6⟩,h7,h8,h9⟩;exact⟨⟨⟨⟨⟨⟨⟨⟨h1,h2⟩,h3⟩,h4⟩,h5⟩,h6⟩,h7⟩,h8⟩,h9⟩
abbrev alo(b1 b2:Int) (bl:List (Int×Int×Unit)) (c1 c2:Int) (cl:List (Int×Int×Unit)):Nat->Option (St->kD):=λk=>match k with
 | 4=>some λ_=>.inv { α:=Nat,slots:=λk=>[(5,.c (.v (.int .i64 k)))],res:=λk=>[],inv:=λk=>k<=(bl).length/\∀j < k,bl[j]?=cl[j]?,meas:=λk=>(bl).length - k }
 | _=>none
theorem aji(b1 b2:Int) (bl:List (Int×Int×Unit)) (c1 c2:Int) (cl:List (Int×Int×Unit)) (aF:Gy.pre ((b1,b2,bl,()),(c1,c2,cl,()),())):
 let z4:=jO (b1,b2,bl,()) (c1,c2,cl,());let z3:=qB z4 false;let z2:=λ(x:Nat)=>(x<=bl.length/\∀(j:Nat),j < x->bl[j]?=cl[j]?);let z1:=[g0 (ak.blk 65 [v6 b1,v6 b2,SC.sl ji bl]),g0 (ak.blk 65 [v6 c1,v6 c2,SC.sl ji cl])];br (!decide (b1=c1) || !decide (b2=c2) || !decide ((bl.length:Int)=(cl.length:Int))) z3 ((∃x,(z2 x)/\(cI 0=cI (x:Int)/\True)/\sm z1)/\∀(x:Nat),(z2 x)->br (decide ((x:Int) < (bl.length:Int))) ((0<=(x:Int)/\(x:Int) < (bl.length:Int))/\∀(d:Int×(I6.pair Sh.unit).den),bl[(x:Int).toNat]?=some d->(0<=(x:Int)/\(x:Int) < (cl.length:Int))/\∀(dR:Int×(I6.pair Sh.unit).den),cl[(x:Int).toNat]?=some dR->br (!(true && d.fst == dR.fst && d.snd.fst == dR.snd.fst)) z3 (iR ((x:Int)+(1:Int))/\∃x',(z2 x')/\(cI ((x:Int)+(1:Int))=cI (x':Int)/\True)/\sm z1/\bl.length - x' < bl.length - x)) (qB z4 true)):=by
 conv=>zeta
 delta iR;have hp:bl.length<=1000000:=aF;have fF:(b1,b2,bl,())≠(c1,c2,cl,())->qB (jO ((b1,b2,bl,()):BD) (c1,c2,cl,())) false:=λq=>⟨rfl,by rw[jX q]⟩
 refine ah.2 ⟨λh=>fF λq=>?_,λh=>?_⟩
 .simp only[Uw,and_true]at q;obtain⟨q1,q2,q3⟩:=q;subst q1;subst q2;subst q3;simp at h
 simp only[rM,BJ,eH]at h;obtain⟨⟨h1,h2⟩,h3⟩:=h;subst h1;subst h2;refine⟨⟨0,⟨by omega,λj hj=>by omega⟩,⟨rfl,trivial⟩,rfl⟩,λk hk=>ah.2 ⟨λg=>?_,λg=>?_⟩⟩
 .simp only[eH]at g;refine⟨⟨by omega,by omega⟩,λd hd=>⟨⟨by omega,by omega⟩,λd1 hd1=>ah.2 ⟨λg2=>fF λq=>?_,λg2=>⟨aC.2 (by omega),k+1,⟨by omega,λj hj=>?_⟩,⟨rfl,trivial⟩,rfl,by omega⟩⟩⟩⟩
  .simp only[Uw,and_true,true_and]at q;subst q;rw[hd]at hd1;cases hd1;simp at g2
  .by_cases jh:j=k
   .subst jh;have hd:bl[j]?=some d:=hd;have hd1:cl[j]?=some d1:=hd1;have g2:d=d1:=by
     obtain⟨x,y,⟨⟩⟩:=d;obtain⟨x1,y1,⟨⟩⟩:=d1;simpa using g2
    rw[hd,hd1,g2]
   .exact hk.2 j (by omega)
 simp only[iH]at g;have e:bl=cl:=by
  apply Ar;intro j
  by_cases hj:j < k
  .exact hk.2 j hj
  .rw[uG (by omega),uG (by omega)]
 exact⟨rfl,by rw[gI (by rw[e])]⟩
theorem aeE:aY aV.gd 39 Gy:=
 dO (cx:=aV) (n:=45) (cl:=[]) (rc:=[]) aB trivial Tryz.func39 λd hd=>by
  obtain⟨⟨b1,b2,bl,⟨⟩⟩,⟨c1,c2,cl,⟨⟩⟩,⟨⟩⟩:=d;exact aT (alo b1 b2 bl c1 c2 cl) (aji b1 b2 bl c1 c2 cl hd) (by kernel_rfl)
abbrev afr:CT:={ ps:=[Jf],pre:=λd=>True,res:=λd=>([],vB (I7 d.1)) }
abbrev alp(th:List TD) (mv mo:List Int) (mq:List (List Int)) (mg:List Int) (bf:List BD):Nat->Option (St->kD):=λk=>match k with
 | 4=>some λ_=>.inv { α:=Nat,slots:=λk=>[(3,.c (.v (.int .i64 k)))],res:=λ_=>[],inv:=λk=>k<=th.length/\∀j < k,∀t,th[j]?=some t->t.2.2.2.2.2.2.2.2.2.1.length<=20,meas:=λk=>th.length - k }
 | 9=>some λ_=>.inv { α:=Nat,slots:=λk=>[(4,.c (.v (.int .i64 k)))],res:=λ_=>[],inv:=λk=>k<=bf.length/\∀j < k,∀t,bf[j]?=some t->t.2.2.1.length<=40,meas:=λk=>bf.length - k }
 | 14=>some λ_=>.inv { α:=Nat,slots:=λk=>[(5,.c (.v (.int .i64 k)))],res:=λ_=>[],inv:=λk=>k<=mq.length/\∀j < k,∀t,mq[j]?=some t->t.length<=40,meas:=λk=>mq.length - k }
 | _=>none
theorem ajj(th:List TD) (mv mo:List Int) (mq:List (List Int)) (mg:List Int) (bf:List BD):
 let z6:=I7 (th,(mv,mo,mq,mg,()),bf,());let z5:=qB z6 false;let z2:=λ(x:Nat)=>(x<=th.length/\∀(j:Nat),j < x->∀(t:TD),th[j]?=some t->t.snd.snd.snd.snd.snd.snd.snd.snd.snd.fst.length<=20);let z7:=λ(x:Nat)=>cI 0=cI (x:Int)/\True;let z8:=[g0 (bZ th mv mo mq mg bf)];let z9:=λ(x:Nat)=>(x:Int)+(1:Int);let z4:=λ(x x':Nat)=>cI (z9 x)=cI (x':Int)/\True;let z1:=λ(x:Nat)=>(x<=bf.length/\∀(j:Nat),j < x->∀(t:Int×Int×List (Int×Int×Unit)×Unit),bf[j]?=some t->t.snd.snd.fst.length<=40);let z3:=λ(x:Nat)=>(x<=mq.length/\∀(j:Nat),j < x->∀(t:List Int),mq[j]?=some t->t.length<=40);br (decide (20 < (th.length:Int)) || decide (20 < (bf.length:Int)) || decide (20 < (mv.length:Int)) || decide (20 < (mo.length:Int)) || decide (20 < (mq.length:Int)) || decide (40 < (mg.length:Int))) z5 ((∃x,(z2 x)/\(z7 x)/\sm z8)/\∀(x:Nat),(z2 x)->br (decide ((x:Int) < (th.length:Int))) ((0<=(x:Int)/\(x:Int) < (th.length:Int))/\∀(d:TD),th[(x:Int).toNat]?=some d->br (decide (20 < ((List.length d.snd.snd.snd.snd.snd.snd.snd.snd.snd.fst):Int))) z5 (iR (z9 x)/\∃x',(z2 x')/\(z4 x x')/\sm z8/\th.length - x' < th.length - x)) ((∃x,(z1 x)/\(z7 x)/\sm z8)/\∀(x:Nat),(z1 x)->br (decide ((x:Int) < (bf.length:Int))) ((0<=(x:Int)/\(x:Int) < (bf.length:Int))/\∀(d:BD),bf[(x:Int).toNat]?=some d->br (decide (40 < ((List.length d.snd.snd.fst):Int))) z5 (iR (z9 x)/\∃x',(z1 x')/\(z4 x x')/\sm z8/\bf.length - x' < bf.length - x)) ((∃x,(z3 x)/\(z7 x)/\sm z8)/\∀(x:Nat),(z3 x)->br (decide ((x:Int) < (mq.length:Int))) ((0<=(x:Int)/\(x:Int) < (mq.length:Int))/\∀(d:List Int),mq[(x:Int).toNat]?=some d->br (decide (40 < (d.length:Int))) z5 (iR (z9 x)/\∃x',(z3 x')/\(z4 x x')/\sm z8/\mq.length - x' < mq.length - x)) (qB z6 true)))):=by
 conv=>zeta
 delta iR;refine ah.2 ⟨λh=>mO (UG.2 λq=>?_),λh=>?_⟩
 .have:=(vC.1 q).1;simp only[Fb,eH]at h;omega
 have hN:th.length<=20/\bf.length<=20/\mv.length<=20/\mo.length<=20/\mq.length<=20/\mg.length<=40:=by
  simp only[rM,iH]at h;omega
 refine⟨⟨0,⟨by omega,λj hj=>by omega⟩,⟨rfl,trivial⟩,rfl⟩,λk hk=>ah.2 ⟨λg=>?_,λg=>?_⟩⟩
 .simp only[eH]at g;refine⟨⟨by omega,by omega⟩,λd hd=>ah.2 ⟨λg2=>mO (UG.2 λq=>?_),λg2=>⟨aC.2 (by omega),k+1,⟨by omega,λj hj t ht=>?_⟩,⟨rfl,trivial⟩,rfl,by omega⟩⟩⟩
  .have hd:th[k]?=some d:=hd;have:=(vC.1 q).2.1 d (iJ hd);simp only[eH]at g2;omega
  .by_cases jh:j=k
   .subst jh;have hd:th[j]?=some d:=hd;rw[hd]at ht;cases ht;simp only[iH]at g2;omega
   .exact hk.2 j (by omega) t ht
 simp only[iH]at g;have ath:∀t∈th,t.2.2.2.2.2.2.2.2.2.1.length<=20:=by
  intro t ht;obtain⟨j,hj⟩:=UM.1 ht;exact hk.2 j (by have:=(fH.1 hj).1;omega) t hj
 clear g hk;refine⟨⟨0,⟨by omega,λj hj=>by omega⟩,⟨rfl,trivial⟩,rfl⟩,λk hk=>ah.2 ⟨λg=>?_,λg=>?_⟩⟩
 .simp only[eH]at g;refine⟨⟨by omega,by omega⟩,λd hd=>ah.2 ⟨λg2=>mO (UG.2 λq=>?_),λg2=>⟨aC.2 (by omega),k+1,⟨by omega,λj hj t ht=>?_⟩,⟨rfl,trivial⟩,rfl,by omega⟩⟩⟩
  .have hd:bf[k]?=some d:=hd;have:=(vC.1 q).2.2.1 d (iJ hd);simp only[eH]at g2;omega
  .by_cases jh:j=k
   .subst jh;have hd:bf[j]?=some d:=hd;rw[hd]at ht;cases ht;simp only[iH]at g2;omega
   .exact hk.2 j (by omega) t ht
 simp only[iH]at g;have abf:∀t∈bf,t.2.2.1.length<=40:=by
  intro t ht;obtain⟨j,hj⟩:=UM.1 ht;exact hk.2 j (by have:=(fH.1 hj).1;omega) t hj
 clear g hk;refine⟨⟨0,⟨by omega,λj hj=>by omega⟩,⟨rfl,trivial⟩,rfl⟩,λk hk=>ah.2 ⟨λg=>?_,λg=>?_⟩⟩
 .simp only[eH]at g;refine⟨⟨by omega,by omega⟩,λd hd=>ah.2 ⟨λg2=>mO (UG.2 λq=>?_),λg2=>⟨aC.2 (by omega),k+1,⟨by omega,λj hj t ht=>?_⟩,⟨rfl,trivial⟩,rfl,by omega⟩⟩⟩
  .have hd:mq[k]?=some d:=hd;have:=(vC.1 q).2.2.2 d (iJ hd);simp only[eH]at g2;omega
  .by_cases jh:j=k
   .subst jh;have hd:mq[j]?=some d:=hd;rw[hd]at ht;cases ht;simp only[iH]at g2;omega
   .exact hk.2 j (by omega) t ht
 simp only[iH]at g;have amq:∀t∈mq,t.length<=40:=by
  intro t ht;obtain⟨j,hj⟩:=UM.1 ht;exact hk.2 j (by have:=(fH.1 hj).1;omega) t hj
 clear g hk;exact mO (vC.2 ⟨hN,ath,abf,amq⟩)
theorem aeF:aY aV.gd 15 afr:=
 dO (cx:=aV) (n:=90) (cl:=[]) (rc:=[]) aB trivial Tryz.func15 λd hd=>by
  obtain⟨⟨th,⟨mv,mo,mq,mg,⟨⟩⟩,bf,⟨⟩⟩,⟨⟩⟩:=d;exact aT (alp th mv mo mq mg bf) (ajj th mv mo mq mg bf) (by kernel_rfl)
end
end Go.Proofs.YtjhenjhcbcalpaaGreatDoor
