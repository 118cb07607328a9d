/- Part 12 of the proof. Conditions: the rows'. -/
import Derived.Test.YtjhenjhcbcalpaaGreatDoorB11
set_option linter.unusedSimpArgs false
set_option linter.unusedVariables false
set_option maxRecDepth 1000000
set_option maxHeartbeats 8000000
namespace Go.Proofs.YtjhenjhcbcalpaaGreatDoor
open Go Go.ni
noncomputable section
variable {e id bound b c:Int}{l:List TD}{m:MD}{t:TD}{i:ID}{vs:List VD}{ms cs:List ByteArray}{fs:List FD}{ts:List SD}
abbrev cxR:Cx:={ ti:=tis,gd:=gd0,rt:=true }
def insL(l:List TD) (id:Int) (u:TD):List TD:=l.takeWhile (λt=>decide (t.1 < id))++[u]++l.dropWhile (λt=>decide (t.1 < id))
def uM(e:Int) (fs:List FD) (bound:Int) (z:ZD) (id fn arg:Int):ZD×Int:=
 if 0<=gu (λt=>decide (t.1=id)) z.1 then(zZ,30) else if(newS e fs bound id fn arg).2≠0 then(zZ,30) else((insL z.1 id (newS e fs bound id fn arg).1,z.2),0)
theorem Ew{S:ZD×Int}{L:List TD}{mv mo:List Int}{mq:List (List Int)}{mg:List Int}{bf:List BD} (h:S=((L,(mv,mo,mq,mg,()),bf,()),e)):[au.row 56 dR S.1.1]=[au.row 56 dR L]/\bg.iO [.agg [.row 0,.sl I6 S.1.2.1.1,.sl I6 S.1.2.1.2.1,.sl I6.sl S.1.2.1.2.2.1,.sl I6 S.1.2.1.2.2.2.1,.sl Bd S.1.2.2.1],cI S.2]=bg.iO [.agg [.row 0,.sl I6 mv,.sl I6 mo,.sl I6.sl mq,.sl I6 mg,.sl Bd bf],cI e]:=by
 subst h;exact⟨rfl,rfl⟩
def IC(l:List TD) (x:Nat):List TD:=List.take (List.length (List.replicate ((l.length:Int)+(1:Int)).toNat zR)) (List.drop 0 (List.take (x:Int).toNat l))++List.drop (List.length (List.drop 0 (List.take (x:Int).toNat l))) (List.replicate ((l.length:Int)+(1:Int)).toNat zR)
theorem UK{x:Nat} (h:x<=l.length):IC l x=l.take x++List.replicate (l.length+1 - x) zR:=by
 unfold IC;have e:((l.length:Int)+(1:Int)).toNat=l.length+1:=by omega
 rw[e,LU,RI,A95,zi (by rw[lZ];omega),lZ,JH h,List.drop_replicate]
theorem OM{x:Nat} (h:x<=l.length):(IC l x).length=l.length+1:=by
 rw[UK h,kT,lZ,LU];omega
theorem ahn{x:Nat} (h:x<=l.length) (u:TD):List.take ((x:Int)+(1:Int)).toNat ((IC l x).set (x:Int).toNat u)++(List.take (List.length ((IC l x).set (x:Int).toNat u) - ((x:Int)+(1:Int)).toNat) (List.drop (x:Int).toNat (List.take (l.length:Int).toNat l))++List.drop (List.length (List.drop (x:Int).toNat (List.take (l.length:Int).toNat l))) (List.drop ((x:Int)+(1:Int)).toNat ((IC l x).set (x:Int).toNat u)))=l.take x++[u]++l.drop x:=by
 have e:((x:Int)+(1:Int)).toNat=x+1:=by omega
 have hl:(l.take x).length=x:=by rw[lZ];omega
 have hs:(IC l x).set x u=l.take x++[u]++List.replicate (l.length - x) zR:=by
  rw[UK h,show l.length+1 - x=l.length - x+1 by omega,Xw,adH _ _ (by omega),hl,XB,Xx,Dj];rfl
 have hn:(l.take x++[u]).length=x+1:=by rw[kT,hl];rfl
 rw[e,A95,A95,Xz,xY,OM h,hs];have a1:List.take (x+1) (l.take x++[u]++List.replicate (l.length - x) zR)=l.take x++[u]:=by
  rw[A84 (by omega),zi (by omega)]
 have a2:List.drop (x+1) (l.take x++[u]++List.replicate (l.length - x) zR)=List.replicate (l.length - x) zR:=by
  rw[A99 (by omega),Va (by omega),Xi]
 have a3:List.take (l.length+1 - (x+1)) (List.drop x l)=List.drop x l:=zi (by rw[zk];omega)
 have a4:List.drop (List.drop x l).length (List.replicate (l.length - x) zR)=[]:=Va (by rw[LU,zk];omega)
 rw[a1,a2,a3,a4,RH]
theorem ao9{x:Nat}{p:TD->Bool} (h:x<=l.length) (h1:∀(j:Nat),j < x->∀t,l[j]?=some t->p t=true) (h2:∀t,l[x]?=some t->p t=false):l.takeWhile p=l.take x/\l.dropWhile p=l.drop x:=by
 induction l generalizing x with
 | nil=>simp
 | cons a l ih=>
   cases x with
   | zero=>
     have:=h2 a rfl;simp[this]
   | succ x=>
     have ha:=h1 0 (by omega) a rfl
     have:=ih (x:=x) (by simpa using h) (λj hj t ht=>h1 (j+1) (by omega) t (by simpa using ht)) (λt ht=>h2 t (by simpa using ht))
     simp[ha,this]
theorem aho{x:Nat} (h:x<=l.length) (h1:∀(j:Nat),j < x->∀t,l[j]?=some t->t.1 < id) (h2:∀t,l[x]?=some t->¬t.1 < id) (u:TD):insL l id u=l.take x++[u]++l.drop x:=by
 have:=ao9 (p:=λt=>decide (t.1 < id)) h (λj hj t ht=>by simpa using h1 j hj t ht) (λt ht=>by simpa using h2 t ht)
 unfold insL;rw[this.1,this.2]
abbrev acu:CT:={ ps:=[sS,.int .i64,Uw,.int .i64,.int .i64,.int .i64],pre:=λd=>bnd (d.1,())/\je d.2.2.1.1/\d.2.2.2.1<=9223372036854775807,res:=λd=>([.row 56 dR (uM (aG d.1.1 d.1.2.1 d.1.2.2.1 d.1.2.2.2.1 d.1.2.2.2.2.1).1 d.1.2.2.2.1 d.2.1 d.2.2.1 d.2.2.2.1 d.2.2.2.2.1 d.2.2.2.2.2.1).1.1],.iO [.agg [.row 0,.sl (.int .i64) ((uM (aG d.1.1 d.1.2.1 d.1.2.2.1 d.1.2.2.2.1 d.1.2.2.2.2.1).1 d.1.2.2.2.1 d.2.1 d.2.2.1 d.2.2.2.1 d.2.2.2.2.1 d.2.2.2.2.2.1).1).2.1.1,.sl (.int .i64) ((uM (aG d.1.1 d.1.2.1 d.1.2.2.1 d.1.2.2.2.1 d.1.2.2.2.2.1).1 d.1.2.2.2.1 d.2.1 d.2.2.1 d.2.2.2.1 d.2.2.2.2.1 d.2.2.2.2.2.1).1).2.1.2.1,.sl (.sl (.int .i64)) ((uM (aG d.1.1 d.1.2.1 d.1.2.2.1 d.1.2.2.2.1 d.1.2.2.2.2.1).1 d.1.2.2.2.1 d.2.1 d.2.2.1 d.2.2.2.1 d.2.2.2.2.1 d.2.2.2.2.2.1).1).2.1.2.2.1,.sl (.int .i64) ((uM (aG d.1.1 d.1.2.1 d.1.2.2.1 d.1.2.2.2.1 d.1.2.2.2.2.1).1 d.1.2.2.2.1 d.2.1 d.2.2.1 d.2.2.2.1 d.2.2.2.2.1 d.2.2.2.2.2.1).1).2.1.2.2.2.1,.sl Bd ((uM (aG d.1.1 d.1.2.1 d.1.2.2.1 d.1.2.2.2.1 d.1.2.2.2.2.1).1 d.1.2.2.2.1 d.2.1 d.2.2.1 d.2.2.2.1 d.2.2.2.2.1 d.2.2.2.2.2.1).1).2.2.1],.c (.v (.int .i64 ((uM (aG d.1.1 d.1.2.1 d.1.2.2.1 d.1.2.2.2.1 d.1.2.2.2.2.1).1 d.1.2.2.2.1 d.2.1 d.2.2.1 d.2.2.2.1 d.2.2.2.2.1 d.2.2.2.2.2.1).2)))]) }
abbrev apa(vs:List VD) (ms cs:List ByteArray) (fs:List FD) (ts:List SD) (bound:Int) (th:List TD) (mv mo:List Int) (mq:List (List Int)) (mg:List Int) (bf:List BD) (id fn arg:Int):Nat->Option (St->kS):=λk=>match k with
 | 8=>some λ_=>.inv { α:=Nat,slots:=λk=>[(18,.c (.v (.int .i64 k)))],res:=λ_=>[],inv:=λk=>k<=th.length/\∀j < k,∀t,th[j]?=some t->t.1 < id,meas:=λk=>th.length - k }
 | _=>none
theorem amq(vs:List VD) (ms cs:List ByteArray) (fs:List FD) (ts:List SD) (bound:Int) (th:List TD) (mv mo:List Int) (mq:List (List Int)) (mg:List Int) (bf:List BD) (id fn arg:Int) (aH:acu.pre ((vs,ms,cs,fs,ts,()),bound,(th,(mv,mo,mq,mg,()),bf,()),id,fn,arg,())):
 let z10:=uM (aG vs ms cs fs ts).fst fs bound (th,(mv,mo,mq,mg,()),bf,()) id fn arg;let z5:=[au.row 56 dR z10.fst.fst];let z1:=[SV.agg [SC.row 0,SC.sl I6 z10.fst.snd.fst.fst,SC.sl I6 z10.fst.snd.fst.snd.fst,SC.sl I6.sl z10.fst.snd.fst.snd.snd.fst,SC.sl I6 z10.fst.snd.fst.snd.snd.snd.fst,SC.sl Bd z10.fst.snd.snd.fst],cI (z10.snd)];let z6:=z5=[au.row 56 dR []]/\bg.iO z1=bg.iO [SV.agg [SC.row 0,SC.sl I6 [],SC.sl I6 [],SC.sl I6.sl [],SC.sl I6 [],SC.sl Bd []],cI 30];let z13:=newS (aG vs ms cs fs ts).fst fs bound id fn arg;let z11:=λ(x:Nat)=>(x<=th.length/\∀(j:Nat),j < x->∀(t:TD),th[j]?=some t->t.fst < id);let z4:=[g0 (bP vs ms cs fs ts),g0 (bZ th mv mo mq mg bf),g0 (au.blk 37 wM),g0 (au.obj 56 dR z13.fst)];let y7:=λ(x:Nat)=>(x:Int) < (th.length:Int);let vJ:=λ(x:Nat)=>(x:Int)+(1:Int);let mQ:=(th.length:Int)+(1:Int);let z9:=λ(x:Nat)=>(IC th x).set (x:Int).toNat z13.fst;let z3:=λ(x:Nat)=>0<=(x:Int)+(1:Int)/\(x:Int)+1<=(↑(z9 x).length:Int);let z7:=λ(x:Nat)=>0<=(x:Int)/\(x:Int)<=(th.length:Int)/\(th.length:Int)<=(th.length:Int);let z12:=λ(x:Nat)=>List.drop (x:Int).toNat (List.take (th.length:Int).toNat th);let z2:=λ(x:Nat)=>[au.row 56 dR (List.take (vJ x).toNat (z9 x)++(List.take ((z9 x).length - (vJ x).toNat) (z12 x)++List.drop (z12 x).length (List.drop (vJ x).toNat (z9 x))))];let z8:=[SV.agg [SC.row 0,SC.sl I6 mv,SC.sl I6 mo,SC.sl I6.sl mq,SC.sl I6 mg,SC.sl Bd bf],cI 0];th.length<=1000000/\br (decide (0<=gu (λt=>decide (t.fst=id)) th)) z6 (((bnd ((vs,ms,cs,fs,ts,()),()))/\id<=9223372036854775807)/\br (!decide (z13.snd=0)) z6 ((∃x,(z11 x)/\(cI 0=cI (x:Int)/\True)/\sm z4)/\∀(x:Nat),(z11 x)->(decide (y7 x)=true->0<=(x:Int)/\(x:Int) < (th.length:Int))/\∀(d:TD),(decide (y7 x)=true->th[(x:Int).toNat]?=some d)->br (decide (y7 x) && decide (d.fst < id)) (iR (vJ x)/\∃x',(z11 x')/\(cI (vJ x)=cI (x':Int)/\True)/\sm z4/\th.length - x' < th.length - x) (iR mQ/\(0<=(th.length:Int)+(1:Int)/\(th.length:Int)+1<=(th.length:Int)+(1:Int)/\oH mQ.toNat 152)/\((0:Int)<=(0:Int)/\0<=(x:Int)/\(x:Int)<=(th.length:Int))/\(0<=(x:Int)/\(x:Int) < (↑(IC th x).length:Int))/\(x:Int).toNat < (IC th x).length/\iR (vJ x)/\((z3 x)/\(z7 x)/\z5=(z2 x)/\bg.iO z1=bg.iO z8)/\(z7 x)/\(z3 x)/\z5=(z2 x)/\bg.iO z1=bg.iO z8))):=by
 conv=>zeta
 delta wM iR iN;obtain⟨hb,⟨hl,hT⟩,hid⟩:bnd ((vs,ms,cs,fs,ts,()),())/\je th/\id<=9223372036854775807:=aH;refine⟨hl,ah.2 ⟨λh=>Ew ?_,λh=>⟨⟨hb,hid⟩,ah.2 ⟨λh2=>Ew ?_,λh2=>⟨⟨0,⟨by omega,λj hj=>by omega⟩,⟨rfl,trivial⟩,rfl⟩,λx hx=>⟨λg=>⟨by omega,by simpa using g⟩,λd hd=>ah.2 ⟨λg=>?_,λg=>?_⟩⟩⟩⟩⟩⟩⟩
 .unfold uM;rw[if_pos (RF h)];rfl
 .have h:=A91 h;unfold uM;rw[if_neg h,if_pos (by simpa using h2)];rfl
 .simp only[A8,dW]at g;have hd:=hd (by simpa using g.1)
  rw[A95]at hd;refine⟨ay.2 (by omega),x+1,⟨by omega,λj hj t ht=>?_⟩,⟨rfl,trivial⟩,rfl,by omega⟩
  by_cases q:j=x
  .subst q;rw[hd]at ht;cases ht;exact g.2
  .exact hx.2 j (by omega) t ht
 .have hn:=OM hx.1;have hf:uM (aG vs ms cs fs ts).1 fs bound (th,(mv,mo,mq,mg,()),bf,()) id fn arg=((th.take x++[(newS (aG vs ms cs fs ts).1 fs bound id fn arg).1]++th.drop x,(mv,mo,mq,mg,()),bf,()),0):=by
   have h:=A91 h;unfold uM;rw[if_neg h,if_neg (by simpa using h2),aho hx.1 hx.2 (λt ht=>?_)]
   have gZ:x < th.length:=(eG.1 ht).1;have hd:=hd (by simpa using gZ)
   rw[A95,ht]at hd;cases hd;simp only[A98,gW]at g;omega
  rw[ahn hx.1];rw[xY,hn,A95];refine⟨ay.2 (by omega),⟨by omega,by omega,fO.2 (by omega)⟩,⟨by omega,by omega,by omega⟩,⟨by omega,by omega⟩,by omega,ay.2 (by omega),⟨⟨by omega,by omega⟩,⟨by omega,by omega,by omega⟩,Ew hf⟩,⟨by omega,by omega,by omega⟩,⟨by omega,by omega⟩,Ew hf⟩
theorem ahp:aW cxR.gd 50 acu:=
 fG (cx:=cxR) (n:=85) (cl:=[(52,JA),(34,Uj)]) (rc:=[.hd 56 dR shR,.keep]) aB ⟨Eu,Uk,trivial⟩ Tryz.func50 λd hd=>by
  obtain⟨⟨vs,ms,cs,fs,ts,⟨⟩⟩,bound,⟨th,⟨mv,mo,mq,mg,⟨⟩⟩,bf,⟨⟩⟩,id,fn,arg,⟨⟩⟩:=d;exact aQ (apa vs ms cs fs ts bound th mv mo mq mg bf id fn arg) (amq vs ms cs fs ts bound th mv mo mq mg bf id fn arg hd) (by kernel_rfl)
def stT(l:List TD) (id:Int) (u:TD):List TD:=l.set (fM (gu (λt=>decide (t.1=id)) l) 0).toNat u
def dV(vs:List VD) (ms cs:List ByteArray) (fs:List FD) (ts:List SD) (bound:Int) (z:ZD) (id:Int):ZD×ED×Int:=
 if dG (aG vs ms cs fs ts).1 bound≠0 then(zZ,zE,dG (aG vs ms cs fs ts).1 bound)
 else if vsB vs ms cs fs ts bound z.1 z.2.1 z.2.2.1=false then(zZ,zE,1)
 else match jq (aG vs ms cs fs ts).1 ms fs z.1 id with
 | (t,i,ok)=>if(ok && uK z.1 z.2.1 t i)=false then(zZ,zE,19)
   else if(jM z.2.1 (labS z.2.1 t i)).2≠0 then(zZ,zE,30)
   else if(labS z.2.1 t i).2.2.1=16/\0<=gu (λu=>decide (u.1=(labS z.2.1 t i).2.2.2.1)) z.1 then(zZ,zE,30)
   else((stT (if(labS z.2.1 t i).2.2.1=16 then insL z.1 (labS z.2.1 t i).2.2.2.1 (newS (aG vs ms cs fs ts).1 fs bound (labS z.2.1 t i).2.2.2.1 i.2.2.2.2.1 (t.2.2.2.1.getD i.2.2.1.toNat 0)).1 else z.1) id
    (kG (aG vs ms cs fs ts).1 ms fs bound t (lV i (labS z.2.1 t i))).1,(jM z.2.1 (labS z.2.1 t i)).1,[],()),labS z.2.1 t i,0)
theorem og(m:MD) (t:TD) (i:ID):(labS m t i).1=t.1:=by
 have key:∀(c:Prop) [Decidable c] (a b:ED),a.1=t.1->b.1=t.1->(if c then a else b).1=t.1:=by
  intro c _ a b ha hb;split
  .exact ha
  .exact hb
 unfold labS
 repeat' (first | rfl | (apply key))
theorem xK(hv:8<=i.1/\i.1<=22):(labS m t i).2.2.1=16↔i.1=21:=by
 have key:∀(c:Prop) [Decidable c] (a b:ED),¬a.2.2.1=16->¬b.2.2.1=16->¬(if c then a else b).2.2.1=16:=by
  intro c _ a b ha hb;split
  .exact ha
  .exact hb
 constructor
 .intro h
  by_cases q:i.1=21
  .exact q
  .exfalso;revert h;unfold labS;rw[if_neg q]
   repeat' (first | (apply key) | simp)
 .intro h;unfold labS;simp[h]
theorem uN(h:i.1=21):(labS m t i).2.2.2.1=(dJ t.1 t.2.2.2.2.2.1).1:=by
 unfold labS;simp[h]
theorem ahq{i f t:Int} (h:qZ m=true):qZ (iK m i id f t).1=true:=by
 unfold iK;split
 .split
  .rfl
  .split
   .obtain⟨vs,os,qs,sg,⟨⟩⟩:=m;unfold qZ at h ⊢
    simpa using h
   .rfl
 .rfl
theorem ahr(h:qZ m=true) (e:ED):bI (jM m e).1:=by
 have hw:∀x v,bI (writeM m x v).1:=by
  intro x v;unfold writeM
  repeat' split
  all_goals first | exact G9 | skip
  obtain⟨h1,h2⟩:=xJ h;exact⟨by rw[xY];exact h1,h2⟩
 unfold jM
 repeat' split
 all_goals first | exact hw _ _ | exact LC (xJ h) | exact ahm (ahq h) | exact acs h | exact amo h | exact xJ h
theorem He{bf:List BD} (hV:VS vs ms cs fs ts bound l m bf) (hM:bI m) (hT:je l) (h:jq (aG vs ms cs fs ts).1 ms fs l id=(t,i,true)):
 t∈l/\t.1=id/\G7 m t i/\qh fs t.2.1 t.2.2.1=some i/\t.2.2.2.2.2.2.2.1=1/\vM ms fs bound t:=by
 unfold jq at h;cases ef:lU l id with
 | none=>rw[ef]at h;cases h
 | some u=>
   rw[ef]at h;simp only[Ic]at h;obtain⟨h1,h2,h3⟩:=h;subst h1;have hm:=aiS ef;have hp:=Ls hV.1 hM (hT.2 u hm) h3;have hq:=OJ h3;rw[h2]at hp hq;exact⟨hm,by simpa using L8 ef,hp,hq.2.2.2,hq.2.1,(hV.2.2.1 u hm).2⟩
theorem uO{S:ZD×ED×Int}{a:ZD}{b:ED} (h:S=(a,b,c)):rT [CY S.1,IB S.2.1,cI S.2.2] [CY a,IB b,cI c]:=by subst h;exact⟨rfl,rfl⟩
theorem pW(hs:dG (aG vs ms cs fs ts).1 bound=0) (hV:vM ms fs bound t) (h1:t.2.2.2.2.2.2.2.1=1) (ha:qh fs t.2.1 t.2.2.1=some i) (hi:i.1=21) (hl:t.2.2.2.1.length=8):
 (dJ t.1 t.2.2.2.2.2.1).2=true/\(newS (aG vs ms cs fs ts).1 fs bound (dJ t.1 t.2.2.2.2.2.1).1 i.2.2.2.2.1 (t.2.2.2.1.getD i.2.2.1.toNat 0)).2=0:=by
 have hz:=fE.1 hs;obtain⟨_,_,j,hj,vj,oj⟩:=CV hV h1;rw[ha]at hj;cases hj;have hf:=fH hV;obtain⟨k1,k2,k3,k4⟩:=qM (Dy hz.1 (CW hf).1 ha);obtain⟨r1,r2,r3,r4⟩:=mP k1;obtain⟨id,fn,pc,rg,st,ch,ph,su,fa,he,u⟩:=t;have hl:rg.length=8:=hl;obtain⟨f1,f2,f3,f4,f5,f6,f7,f8,f9⟩:=hf;have hph:ph=0:=by
  rcases f9 with q | ⟨_,i',q1,q2,_⟩
  .exact q
  .have ha:qh fs fn pc=some i:=ha;rw[ha]at q1;cases q1;omega
 have oj:lD id ch ph he i=0:=oj;have hc:(dJ id ch).2=true:=by
  unfold lD at oj;rw[if_neg (by omega),if_neg (by omega),if_neg (by omega),if_pos hi]at oj
  by_cases q:(dJ id ch).2=true
  .exact q
  .rw[if_neg q]at oj;cases oj
 refine⟨hc,?_⟩;have hd:¬bQ (dJ id ch).1 < 0:=by
  unfold dJ at hc ⊢;split at hc
  .cases hc
  .rename_i q;rw[if_neg q];have:=Dx (id:=id) (ch:=ch) (by omega) (by omega) (by omega) (by omega)
   show¬bQ (8 * (id+1)+ch) < 0;omega
 have ho:pR vs ms cs fs i.1=fs.length:=by unfold pR;rw[hi];simp
 rw[ho]at k2;have k2:=k2 (by omega)
 have hv:cO (rg.getD i.2.2.1.toNat 0)=true:=by
  have gZ:i.2.2.1.toNat < rg.length:=by omega
  rw[LQ,kR gZ];exact f4 _ (by omega) _ (kR gZ)
 show(newS _ _ _ (dJ id ch).1 _ _).2=0;unfold newS;rw[if_neg (by omega),if_neg hd,if_neg (by omega),if_neg (by show¬cO (rg.getD i.2.2.1.toNat 0)=false;rw[hv];simp)]
theorem Ey(hf:dM m=true) (hc:i.1=21->(dJ t.1 t.2.2.2.2.2.1).2=true):cO (lV i (labS m t i))=true:=by
 have hv:∀x:Int,cO (m.1[x.toNat]?.getD 0)=true:=by
  intro x;cases hx:m.1[x.toNat]? with
  | none=>rfl
  | some v=>exact(dQ.1 hf).2.2.2.2.1 v (iM hx)
 have hch:i.1=21->cO (dJ t.1 t.2.2.2.2.2.1).1=true:=by
  intro q;obtain⟨_,_,_,_,c1,_,c2,_⟩:=sV (hc q);exact nK.2 ⟨by omega,by omega⟩
 have key:∀(c:Prop) [Decidable c] (a b:ED),(c->cO (lV i a)=true)->(¬c->cO (lV i b)=true)->cO (lV i (if c then a else b))=true:=by
  intro c _ a b ha hb;split
  .exact ha (by assumption)
  .exact hb (by assumption)
 have k1:∀b:Bool,cO (if tC b=0 then 0 else 1)=true:=by intro b;cases b<;>rfl
 unfold labS
 repeat' (refine key _ _ _ (λ_=>?_) (λ_=>?_))
 all_goals (try first | exact hv _ | rfl | exact k1 _ | (apply hch;assumption))
 all_goals (unfold lV;try simp only)
 all_goals first | exact hv _ | rfl | exact k1 _ | (apply hch;assumption) | (rw[if_pos trivial,if_pos (by assumption)];rfl) | (simp_all;done) | skip
theorem Hf{r:Int} (hs:dG e bound=0) (hV:vM ms fs bound t) (h1:t.2.2.2.2.2.2.2.1=1) (hr:cO r=true):(kG e ms fs bound t r).2=0:=by
 unfold kG;rw[if_neg (by omega),if_neg (by simpa using hV),if_neg (by omega),if_neg (by rw[hr];simp)]
theorem amr(h:∃t∈l,t.1=id):(0<=fM (gu (λt=>decide (t.1=id)) l) 0/\fM (gu (λt=>decide (t.1=id)) l) 0 < (l.length:Int))/\(fM (gu (λt=>decide (t.1=id)) l) 0).toNat < l.length:=by
 have q:0<=gu (λt=>decide (t.1=id)) l:=by
  refine Hw.1 λq=>?_
  obtain⟨t,ht,e⟩:=h;have:=Xo.1 (pV q) t ht;simp[e]at this
 obtain⟨k,t,q1,q2,q3,q4⟩:=nO q;have e:fM (gu (λt=>decide (t.1=id)) l) 0=k:=by rw[q1];unfold fM;split<;>omega
 rw[e];omega
theorem Bh{u:TD} (h:t∈l):t∈insL l id u:=by
 unfold insL;rw[<-A93 (p:=λt=>decide (t.1 < id)) (l:=l)]at h
 simp only[DY,Xg]at h ⊢
 rcases h with h | h
 .exact .inl (.inl h)
 .exact .inr h
theorem OO(l:List TD) (id:Int) (u:TD):(insL l id u).length=l.length+1:=by
 unfold insL;have:=tK List.length (A93 (p:=λt=>decide (t.1 < id)) (l:=l))
 rw[kT]at this;simp only[kT,yE,Pg];omega
theorem Ez{vs:List VD}{ms cs:List ByteArray}{fs:List FD}{ts:List SD}{bound id:Int}{z:ZD}{t:TD}{i:ID}{ok:Bool} (h:dG (aG vs ms cs fs ts).1 bound=0) (h1:vsB vs ms cs fs ts bound z.1 z.2.1 z.2.2.1=true) (hr:jq (aG vs ms cs fs ts).1 ms fs z.1 id=(t,i,ok)):
 dV vs ms cs fs ts bound z id=if(ok && uK z.1 z.2.1 t i)=false then(zZ,zE,19)
 else if(jM z.2.1 (labS z.2.1 t i)).2≠0 then(zZ,zE,30)
 else if(labS z.2.1 t i).2.2.1=16/\0<=gu (λu=>decide (u.1=(labS z.2.1 t i).2.2.2.1)) z.1 then(zZ,zE,30)
 else((stT (if(labS z.2.1 t i).2.2.1=16 then insL z.1 (labS z.2.1 t i).2.2.2.1 (newS (aG vs ms cs fs ts).1 fs bound (labS z.2.1 t i).2.2.2.1 i.2.2.2.2.1 (t.2.2.2.1.getD i.2.2.1.toNat 0)).1 else z.1) id
  (kG (aG vs ms cs fs ts).1 ms fs bound t (lV i (labS z.2.1 t i))).1,(jM z.2.1 (labS z.2.1 t i)).1,[],()),labS z.2.1 t i,0):=by
 unfold dV;rw[if_neg (by omega),if_neg (by rw[h1];simp),hr]
abbrev OQ:CT:={ ps:=[sS,.int .i64,Uw,.int .i64],pre:=λd=>bnd (d.1,())/\je d.2.2.1.1/\d.2.2.1.1.length<=999999/\qZ d.2.2.1.2.1=true/\Bg d.2.2.1.2.2.1,res:=λd=>([],.iO [CY ((dV d.1.1 d.1.2.1 d.1.2.2.1 d.1.2.2.2.1 d.1.2.2.2.2.1 d.2.1 d.2.2.1 d.2.2.2.1).1),IB ((dV d.1.1 d.1.2.1 d.1.2.2.1 d.1.2.2.2.1 d.1.2.2.2.2.1 d.2.1 d.2.2.1 d.2.2.2.1).2.1),.c (.v (.int .i64 ((dV d.1.1 d.1.2.1 d.1.2.2.1 d.1.2.2.2.1 d.1.2.2.2.2.1 d.2.1 d.2.2.1 d.2.2.2.1).2.2)))]) }
theorem ams(vs:List VD) (ms cs:List ByteArray) (fs:List FD) (ts:List SD) (bound:Int) (th:List TD) (mv mo:List Int) (mq:List (List Int)) (mg:List Int) (bf:List BD) (id:Int) (aH:OQ.pre ((vs,ms,cs,fs,ts,()),bound,(th,(mv,mo,mq,mg,()),bf,()),id,())):
 let z17:=bnd ((vs,ms,cs,fs,ts,()),());let Oz:=aG vs ms cs fs ts;let z20:=(mv,mo,mq,mg,());let O6:=(th,z20,bf,());let z13:=dV vs ms cs fs ts bound O6 id;let z10:=[CY (z13.fst),IB (z13.snd.fst),cI (z13.snd.snd)];let mQ:=jq Oz.fst ms fs th id;let z12:=labS z20 mQ.fst mQ.snd.fst;let z11:=jM z20 z12;let z6:=λ(d:Int)=>uM Oz.fst fs bound (th,z11.fst,bf,()) z12.snd.snd.snd.fst mQ.snd.fst.snd.snd.snd.snd.fst d;let z7:=z17/\List.length mQ.fst.snd.snd.snd.snd.snd.snd.snd.snd.snd.fst<=1000000/\mQ.fst.fst<=9223372036854775807/\List.length mQ.fst.snd.snd.snd.fst=8;let z9:=kG Oz.fst ms fs bound mQ.fst (lV mQ.snd.fst z12);let z8:=!decide (z9.snd=0);let z3:=rT z10 [CY ([],([],[],[],[],()),[],()),IB (0,0,0,0,0,0,0,0,0,()),cI (z9.snd)];let z5:=λ(d:Int)=>gu (λt=>decide (t.fst=id)) (z6 d).fst.fst;let z4:=λ(d:Int)=>fM (z5 d) (0:Int);let z1:=λ(d:Int)=>[CY ((z6 d).fst.fst.set (z4 d).toNat z9.fst,((z6 d).fst.snd.fst.fst,(z6 d).fst.snd.fst.snd.fst,(z6 d).fst.snd.fst.snd.snd.fst,(z6 d).fst.snd.fst.snd.snd.snd.fst,()),(z6 d).fst.snd.snd.fst,()),IB z12,cI 0];let vJ:=gu (λt=>decide (t.fst=id)) th;let y7:=fM vJ (0:Int);let z2:=[CY (th.set y7.toNat z9.fst,(z11.fst.fst,z11.fst.snd.fst,z11.fst.snd.snd.fst,z11.fst.snd.snd.snd.fst,()),bf,()),IB z12,cI 0];z17/\br (!decide (dG Oz.fst bound=0)) (rT z10 [CY ([],([],[],[],[],()),[],()),IB (0,0,0,0,0,0,0,0,0,()),cI (dG Oz.fst bound)]) ((z17/\je th/\bI z20)/\br (!vsB vs ms cs fs ts bound th z20 bf) (rT z10 [CY ([],([],[],[],[],()),[],()),IB (0,0,0,0,0,0,0,0,0,()),cI 1]) ((z17/\je th)/\((!!mQ.snd.snd)=true->G7 z20 mQ.fst mQ.snd.fst/\th.length<=1000000)/\br (!mQ.snd.snd || !uK th z20 mQ.fst mQ.snd.fst) (rT z10 [CY ([],([],[],[],[],()),[],()),IB (0,0,0,0,0,0,0,0,0,()),cI 19]) (G7 z20 mQ.fst mQ.snd.fst/\ab5 O6/\(bI z20/\mQ.fst.fst=z12.fst)/\br (!decide (z11.snd=0)) (rT z10 [CY ([],([],[],[],[],()),[],()),IB (0,0,0,0,0,0,0,0,0,()),cI 30]) (bI z11.fst/\br (decide (z12.snd.snd.fst=16)) ((0<=mQ.snd.fst.snd.snd.fst/\mQ.snd.fst.snd.snd.fst < 8)/\mQ.snd.fst.snd.snd.fst.toNat < 8/\∀(d:Int),mQ.1.2.2.2.fst[mQ.snd.fst.snd.snd.fst.toNat]?=some d->(z17/\je th/\z12.snd.snd.snd.fst<=9223372036854775807)/\br (!decide ((z6 d).snd=0)) (rT z10 [CY ([],([],[],[],[],()),[],()),IB (0,0,0,0,0,0,0,0,0,()),cI ((z6 d).snd)]) (z7/\br z8 z3 ((z6 d).fst.fst.length<=1000000/\(0<=fM (z5 d) (0:Int)/\fM (z5 d) 0 < (↑(z6 d).fst.fst.length:Int))/\(z4 d).toNat < (z6 d).fst.fst.length/\(rT z10 (z1 d))/\rT z10 (z1 d)))) (z7/\br z8 z3 (th.length<=1000000/\(0<=fM vJ (0:Int)/\fM vJ 0 < (th.length:Int))/\y7.toNat < th.length/\(rT z10 z2)/\rT z10 z2)))))):=by
 conv=>zeta
 obtain⟨hb,hT,hn,hm,hB⟩:bnd ((vs,ms,cs,fs,ts,()),())/\je th/\th.length<=999999/\qZ (mv,mo,mq,mg,())=true/\Bg bf:=aH;have hM:=xJ hm;have hS:=@Ez vs ms cs fs ts bound id (th,(mv,mo,mq,mg,()),bf,());generalize hr:jq (aG vs ms cs fs ts).1 ms fs th id=R at hS ⊢;obtain⟨T,I,ok⟩:=R;dsimp only at hS ⊢;refine⟨hb,ah.2 ⟨λh=>uO ?_,λh=>⟨⟨hb,hT,hM⟩,ah.2 ⟨λh1=>uO ?_,λh1=>⟨⟨hb,hT⟩,λh2=>⟨?_,hT.1⟩,ah.2 ⟨λh2=>uO ?_,λh2=>?_⟩⟩⟩⟩⟩⟩
 .have h:dG (aG vs ms cs fs ts).1 bound≠0:=by simpa using h
  unfold dV;rw[if_pos h];rfl
 .have h:dG (aG vs ms cs fs ts).1 bound=0:=by simpa using h
  have h1:vsB vs ms cs fs ts bound th (mv,mo,mq,mg,()) bf=false:=by simpa using h1
  unfold dV;rw[if_neg (by omega),if_pos h1];rfl
 all_goals have h:dG (aG vs ms cs fs ts).1 bound=0:=by simpa using h
 all_goals have h1:vsB vs ms cs fs ts bound th (mv,mo,mq,mg,()) bf=true:=by simpa using h1
 all_goals have hV:=jo.1 h1
 .have h2:ok=true:=by simpa using h2
  subst h2;exact(He hV hM hT hr).2.2.1
 .rw[hS h h1 rfl,if_pos (by simp only[DJ,II]at h2;rw[A98];exact h2)];rfl
 simp only[oV,Di]at h2;obtain⟨ok1,rD⟩:=h2;subst ok1;obtain⟨lJ,hid,hlab,hat,hsu,hvl⟩:=He hV hM hT hr;have hS:=hS h h1 rfl;rw[if_neg (by rw[rD];simp)]at hS
 have htB:=hT.2 T lJ;have hch:I.1=21->(dJ T.1 T.2.2.2.2.2.1).2=true:=λq=>(pW h hvl hsu hat q htB.2.2).1
 have hcz:=Hf h hvl hsu (Ey (m:=(mv,mo,mq,mg,())) (i:=I) hlab.1.2.1 hch);refine⟨hlab,⟨hT,hM,hB⟩,⟨hM,(og _ _ _).symm⟩,ah.2 ⟨λh3=>uO ?_,λh3=>⟨ahr hm _,ah.2 ⟨λh4=>?_,λh4=>?_⟩⟩⟩⟩
 .have h3:(jM (mv,mo,mq,mg,()) (labS (mv,mo,mq,mg,()) T I)).2≠0:=by simpa using h3
  rw[hS,if_pos h3];rfl
 all_goals have h3:(jM (mv,mo,mq,mg,()) (labS (mv,mo,mq,mg,()) T I)).2=0:=by simpa using h3
 all_goals rw[if_neg (by omega)]at hS
 .have h4:(labS (mv,mo,mq,mg,()) T I).2.2.1=16:=RF h4;have hI:=(xK hlab.2.2.2.1).1 h4;obtain⟨c1,c2⟩:=pW h hvl hsu hat hI htB.2.2;have eo:=uN (m:=(mv,mo,mq,mg,())) (t:=T) hI;obtain⟨_,_,_,_,c5,_,c6,_⟩:=sV c1;have r2:=hlab.2.1;refine⟨r2,by omega,λd hd=>⟨⟨hb,hT,by rw[eo];omega⟩,ah.2 ⟨λh5=>uO ?_,λh5=>?_⟩⟩⟩
  all_goals have ed:=rgd hd
  all_goals rw[ed]at c2 hS
  all_goals rw[<-eo]at c2
  .have h5:(uM (aG vs ms cs fs ts).1 fs bound (th,(jM (mv,mo,mq,mg,()) (labS (mv,mo,mq,mg,()) T I)).1,bf,()) (labS (mv,mo,mq,mg,()) T I).2.2.2.1 I.2.2.2.2.1 d).2≠0:=by simpa using h5
   by_cases q:0<=gu (λu=>decide (u.1=(labS (mv,mo,mq,mg,()) T I).2.2.2.1)) th
   .rw[hS,if_pos ⟨h4,q⟩];unfold uM;rw[if_pos q];rfl
   .exfalso;apply h5;unfold uM;rw[if_neg q,if_neg (by rw[c2];simp)]
  .have q:¬0<=gu (λu=>decide (u.1=(labS (mv,mo,mq,mg,()) T I).2.2.2.1)) th:=by
    intro q;unfold uM at h5;rw[if_pos q]at h5;simp at h5
   have es:uM (aG vs ms cs fs ts).1 fs bound (th,(jM (mv,mo,mq,mg,()) (labS (mv,mo,mq,mg,()) T I)).1,bf,()) (labS (mv,mo,mq,mg,()) T I).2.2.2.1 I.2.2.2.2.1 d=((insL th (labS (mv,mo,mq,mg,()) T I).2.2.2.1 (newS (aG vs ms cs fs ts).1 fs bound (labS (mv,mo,mq,mg,()) T I).2.2.2.1 I.2.2.2.2.1 d).1,(jM (mv,mo,mq,mg,()) (labS (mv,mo,mq,mg,()) T I)).1,bf,()),0):=by
    unfold uM;rw[if_neg q,if_neg (by rw[c2];simp)]
   rw[es];dsimp only;rw[if_neg (λp=>q p.2),if_pos h4]at hS
   have hp:=amr (l:=insL th (labS (mv,mo,mq,mg,()) T I).2.2.2.1 (newS (aG vs ms cs fs ts).1 fs bound (labS (mv,mo,mq,mg,()) T I).2.2.2.1 I.2.2.2.2.1 d).1) (id:=id) ⟨T,Bh lJ,hid⟩;have hbf:bf=[]:=hV.2.1;have fin:=uO hS;refine⟨⟨hb,htB⟩,ah.2 ⟨λh6=>?_,λh6=>⟨by rw[OO];omega,hp.1,hp.2,?_,?_⟩⟩⟩
   .exfalso;rw[hcz]at h6;simp at h6
   all_goals rw[hbf];rw[hbf]at fin;exact fin
 .have h4:¬(labS (mv,mo,mq,mg,()) T I).2.2.1=16:=A91 h4;rw[if_neg (λp=>h4 p.1),if_neg h4]at hS
  have hp:=amr (l:=th) (id:=id) ⟨T,lJ,hid⟩;have hbf:bf=[]:=hV.2.1;have fin:=uO hS;refine⟨⟨hb,htB⟩,ah.2 ⟨λh6=>?_,λh6=>⟨hT.1,hp.1,hp.2,?_,?_⟩⟩⟩
  .exfalso;rw[hcz]at h6;simp at h6
  all_goals rw[hbf];rw[hbf]at fin;exact fin
theorem LD:aW aT.gd 21 OQ:=
 fG (cx:=aT) (n:=131) (cl:=[(32,vg),(40,ab1),(41,UE),(46,UC),(42,Uz),(23,ab8),(48,ab6),(50,acu),(51,aby),(52,JA),(49,Dz)]) (rc:=[.data Uw,.keep,.keep]) aB ⟨Ux,Lr,UF,UD,UA,ahh,ahf,ahp,agA,Eu,sW,trivial⟩ Tryz.func21 λd hd=>by
  obtain⟨⟨vs,ms,cs,fs,ts,⟨⟩⟩,bound,⟨th,⟨mv,mo,mq,mg,⟨⟩⟩,bf,⟨⟩⟩,id,⟨⟩⟩:=d;exact aQ (λ_=>none) (ams vs ms cs fs ts bound th mv mo mq mg bf id hd) (by kernel_rfl)
def mX(e:Int) (fs:List FD) (bound:Int) (ts:List SD):List TD:=ts.zipIdx.map λp=>(newS e fs bound (p.2:Int) p.1.1 p.1.2.1).1
def ql(vs:List VD) (ms cs:List ByteArray) (fs:List FD) (ts:List SD) (bound:Int):ZD×Int:=
 if dG (aG vs ms cs fs ts).1 bound≠0 then(zZ,dG (aG vs ms cs fs ts).1 bound) else((mX (aG vs ms cs fs ts).1 fs bound ts,(qj vs ms cs fs ts).1,[],()),0)
theorem acw{e:Int}{fs:List FD}{bound:Int}{ts:List SD}{k:Nat}{d:SD} (h:ts[k]?=some d):mX e fs bound (ts.take (k+1))=mX e fs bound (ts.take k)++[(newS e fs bound (k:Int) d.1 d.2.1).1]:=by
 have hk:k < ts.length:=(eG.1 h).1;unfold mX;rw[RD,h,ai0,List.zipIdx_append,Pm,lZ,JH (by omega)]
 simp
theorem LG(e:Int) (fs:List FD) (bound:Int) (ts:List SD):(mX e fs bound ts).length=ts.length:=by
 unfold mX;rw[Xr,List.length_zipIdx]
theorem EC(h:Em fs ts=0):(1<=ts.length/\ts.length<=8)/\∀(k:Nat) d,ts[k]?=some d->(0<=d.1/\d.1 < (fs.length:Int))/\cO d.2.1=true:=by
 unfold Em at h;split at h
 .cases h
 rename_i q;refine⟨by omega,λk d hd=>?_⟩
 have hn:ts.find? (λt=>decide (Ej fs.length t≠0))=none:=by
  cases hf:ts.find? (λt=>decide (Ej fs.length t≠0)) with
  | none=>rfl
  | some t=>
    rw[hf]at h;have:=L8 hf;simp at this;exact absurd h this
 have hz:=Xo.1 hn d (iM hd);have hz:Ej fs.length d=0:=by simpa using hz
 unfold Ej at hz;split at hz
 .cases hz
 .split at hz
  .rename_i a b;exact⟨by omega,b⟩
  .cases hz
theorem CZ{k:Nat}{d:SD} (hs:dG (aG vs ms cs fs ts).1 bound=0) (hd:ts[k]?=some d):(newS (aG vs ms cs fs ts).1 fs bound (k:Int) d.1 d.2.1).2=0:=by
 have ht:=EC (kP (fE.1 hs).1).2.2;obtain⟨h1,h2⟩:=ht.2 k d hd;have hk:k < ts.length:=(eG.1 hd).1;have hk:k < 8:=by omega
 have hdp:¬bQ (k:Int) < 0:=by
  unfold bQ iF;rw[if_neg (by omega),if_pos (by omega)];omega
 unfold newS;rw[if_neg (by omega),if_neg hdp,if_neg (by omega),if_neg (by rw[h2];simp)]
theorem acy(hs:dG (aG vs ms cs fs ts).1 bound=0):(qj vs ms cs fs ts).2=0:=by
 unfold qj;rw[if_pos (fE.1 hs).1]
theorem UL{S:ZD×Int}{a:ZD} (h:S=(a,c)):rT [CY S.1,cI S.2] [CY a,cI c]:=by subst h;exact⟨rfl,rfl⟩
abbrev UM:CT:={ ps:=[sS,.int .i64],pre:=λd=>bnd (d.1,()),res:=λd=>([],.iO [CY ((ql d.1.1 d.1.2.1 d.1.2.2.1 d.1.2.2.2.1 d.1.2.2.2.2.1 d.2.1).1),.c (.v (.int .i64 ((ql d.1.1 d.1.2.1 d.1.2.2.1 d.1.2.2.2.1 d.1.2.2.2.2.1 d.2.1).2)))]) }
abbrev apc(vs:List VD) (ms cs:List ByteArray) (fs:List FD) (ts:List SD) (bound:Int):Nat->Option (St->kS):=λk=>match k with
 | 9=>some λ_=>.inv { α:=Nat,uy:=[(3,0,56,dR)],slots:=λk=>[(35,.c (.v (.int .i64 k)))],res:=λk=>[(4,.row 56 dR (mX (aG vs ms cs fs ts).1 fs bound (ts.take k)))],inv:=λk=>k<=ts.length,meas:=λk=>ts.length - k }
 | _=>none
theorem amu(vs:List VD) (ms cs:List ByteArray) (fs:List FD) (ts:List SD) (bound:Int) (aH:UM.pre ((vs,ms,cs,fs,ts,()),bound,())):
 let z7:=bnd ((vs,ms,cs,fs,ts,()),());let z9:=aG vs ms cs fs ts;let z8:=ql vs ms cs fs ts bound;let z4:=[CY (z8.fst),cI (z8.snd)];let z10:=qj vs ms cs fs ts;let z11:=bP vs ms cs fs ts;let z3:=[SC.sl I6 z10.fst.fst,SC.sl I6 z10.fst.snd.fst,SC.sl I6.sl z10.fst.snd.snd.fst,SC.sl I6 z10.fst.snd.snd.snd.fst];let z2:=[SC.row (Nat.succ 0).succ.succ.succ,SC.sl I6 z10.fst.fst,SC.sl I6 z10.fst.snd.fst,SC.sl I6.sl z10.fst.snd.snd.fst,SC.sl I6 z10.fst.snd.snd.snd.fst,iN];let z6:=λ(x:Nat)=>mX z9.fst fs bound (List.take x ts);let z1:=λ(x:Nat)=>[g0 z11,g0 (au.blk 37 wM),g0 (au.blk 34 z3),g0 (au.blk 37 z2),g0 (au.row 56 dR (z6 x))];let z5:=λ(x:Nat) (d:Int×(I6.pair Sh.unit).den)=>newS z9.fst fs bound (x:Int) d.fst d.snd.fst;z7/\br (!decide (dG z9.fst bound=0)) (rT z4 [CY ([],([],[],[],[],()),[],()),cI (dG z9.fst bound)]) (z7/\br (!decide (z10.snd=0)) (rT z4 [CY ([],([],[],[],[],()),[],()),cI (z10.snd)]) ((∃x,x<=ts.length/\(cI 0=cI (x:Int)/\True)/\[g0 z11,g0 (au.blk 37 wM),g0 (au.blk 34 z3),g0 (au.blk 37 z2),g0 (au.row 56 dR [])]=(z1 x))/\∀(x:Nat),x<=ts.length->br (decide ((x:Int) < (ts.length:Int))) ((0<=(x:Int)/\(x:Int) < (ts.length:Int))/\∀(d:Int×(I6.pair Sh.unit).den),ts[(x:Int).toNat]?=some d->(z7/\(x:Int)<=(9223372036854775807:Int))/\br (!decide ((z5 x d).snd=0)) (rT z4 [CY ([],([],[],[],[],()),[],()),cI ((z5 x d).snd)]) (oH ((z6 x).length+[(z5 x d).fst].length) 152/\iR ((x:Int)+(1:Int))/\∃x',x'<=ts.length/\(cI ((x:Int)+(1:Int))=cI (x':Int)/\True)/\[g0 z11,g0 (au.blk 37 wM),g0 (au.blk 34 z3),g0 (au.blk 37 z2),g0 (au.row 56 dR (mX z9.fst fs bound (List.take x ts)++[(z5 x d).fst]))]=(z1 x')/\ts.length - x' < ts.length - x)) (rT z4 [CY (mX z9.fst fs bound (List.take x ts),(z10.fst.fst,z10.fst.snd.fst,z10.fst.snd.snd.fst,z10.fst.snd.snd.snd.fst,()),[],()),cI 0]))):=by
 conv=>zeta
 delta wM iR iN;have hb:bnd ((vs,ms,cs,fs,ts,()),()):=aH;refine⟨hb,ah.2 ⟨λh=>UL ?_,λh=>⟨hb,ah.2 ⟨λh1=>?_,λh1=>⟨⟨0,by omega,⟨rfl,trivial⟩,rfl⟩,λk hk=>ah.2 ⟨λg=>?_,λg=>UL ?_⟩⟩⟩⟩⟩⟩
 .have h:dG (aG vs ms cs fs ts).1 bound≠0:=by simpa using h
  unfold ql;rw[if_pos h];rfl
 all_goals have h:dG (aG vs ms cs fs ts).1 bound=0:=by simpa using h
 .exfalso;rw[acy h]at h1;simp at h1
 all_goals have ht:=(EC (kP (fE.1 h).1).2.2).1
 .simp only[dW]at g;refine⟨⟨by omega,by omega⟩,λd hd=>⟨⟨hb,by omega⟩,ah.2 ⟨λh2=>?_,λh2=>?_⟩⟩⟩
  all_goals have hd:ts[k]?=some d:=hd
  .exfalso;rw[CZ h hd]at h2;simp at h2
  .have e:=@acw (aG vs ms cs fs ts).1 fs bound ts k d hd;have hlen:=LG (aG vs ms cs fs ts).1 fs bound (ts.take k);rw[lZ]at hlen;refine⟨fO.2 (by rw[hlen];simp only[yE,Pg];omega),ay.2 (by omega),k+1,by omega,⟨rfl,trivial⟩,by rw[e],by omega⟩
 .simp only[gW]at g;rw[zi (i:=k) (by omega)]
  unfold ql;rw[if_neg (by omega)]
theorem UN:aW cxR.gd 12 UM:=
 fG (cx:=cxR) (n:=63) (cl:=[(32,vg),(33,Rt),(34,Uj)]) (rc:=[.data Uw,.keep]) aB ⟨Ux,agU,Uk,trivial⟩ Tryz.func12 λd hd=>by
  obtain⟨⟨vs,ms,cs,fs,ts,⟨⟩⟩,bound,⟨⟩⟩:=d;exact aQ (apc vs ms cs fs ts bound) (amu vs ms cs fs ts bound hd) (by kernel_rfl)
def IE(m n:MD):Prop:=m.1.length=n.1.length/\m.2.1.length=n.2.1.length/\m.2.2.1.length=n.2.2.1.length
theorem OU:∀(qs:List (List Int)) (k:Nat) (d r:List Int),qs[k]?=some d->(r++qs.flatten).Perm (d++(qs.set k r).flatten)
 | [],k,d,r,h=>by simp at h
 | q :: qs,0,d,r,h=>by
   simp only[Ve,Xp]at h;subst h;simp only[Xx,Pj];exact adD _ _ _
 | q :: qs,k+1,d,r,h=>by
   rw[adF]at h;have ih:=OU qs k d r h;simp only[aiY,Pj];exact(adD _ _ _).trans ((ih.append_left q).trans (adD _ _ _))
theorem acz{x v:Int} (h:dM m=true) (h0:(writeM m x v).2=0):dM (writeM m x v).1=true/\IE (writeM m x v).1 m:=by
 obtain⟨vs,os,qs,sg,⟨⟩⟩:=m;obtain⟨q1,q2,q3,q4,q5,q6,q7,q8⟩:vs.length<=8/\os.length<=4/\qs.length<=4/\SS sg/\(∀v∈vs,cO v=true)/\(∀o∈os,-1<=o)/\(∀x∈sg++qs.flatten,0<=x)/\(sg++qs.flatten).Nodup:=dQ.1 h;unfold writeM at h0 ⊢;split at h0
 .rename_i g;split at h0
  .rename_i hv;rw[if_pos g,if_pos hv];refine⟨dQ.2 ⟨by rw[xY];exact q1,q2,q3,q4,λy hy=>?_,q6,q7,q8⟩,by rw[xY],rfl,rfl⟩
   rcases JF hy with hy | rfl
   .exact q5 y hy
   .exact hv
  .cases h0
 .rename_i g;exact absurd h0 g
theorem Hg{i f t:Int} (h:dM m=true) (ht:-1<=t) (h0:(iK m i id f t).2=0):dM (iK m i id f t).1=true/\IE (iK m i id f t).1 m:=by
 obtain⟨vs,os,qs,sg,⟨⟩⟩:=m;obtain⟨q1,q2,q3,q4,q5,q6,q7,q8⟩:vs.length<=8/\os.length<=4/\qs.length<=4/\SS sg/\(∀v∈vs,cO v=true)/\(∀o∈os,-1<=o)/\(∀x∈sg++qs.flatten,0<=x)/\(sg++qs.flatten).Nodup:=dQ.1 h;unfold iK at h0 ⊢;split at h0
 .rename_i g;split at h0
  .cases h0
  .rename_i g1;split at h0
   .rename_i g2;rw[if_pos g,if_neg g1,if_pos g2];refine⟨dQ.2 ⟨q1,by rw[xY];exact q2,q3,q4,q5,λy hy=>?_,q7,q8⟩,rfl,by rw[xY],rfl⟩
    rcases JF hy with hy | rfl
    .exact q6 y hy
    .exact ht
   .cases h0
 .rename_i g;exact absurd h0 g
theorem amv(h:dM m=true) (h0:(tu m c id).2=0):dM (tu m c id).1=true/\IE (tu m c id).1 m:=by
 obtain⟨vs,os,qs,sg,⟨⟩⟩:=m;unfold tu at h0 ⊢;split at h0
 .rename_i g;split at h0
  .cases h0
  .rename_i g1;split at h0
   .cases h0
   .rename_i g2;rw[if_pos g,if_neg g1,if_neg g2];have hg:=(dD.1 g).2;have hg:0<=c/\c < (qs.length:Int):=hg;have gZ:c.toNat < qs.length:=by omega
    have hk:qs[c.toNat]?=some (qs[c.toNat]?.getD []):=by rw[kR gZ];rfl
    have:=aco h hk (id:=id) (by omega)
    refine⟨?_,rfl,rfl,by rw[xY]⟩
    show dM (vs,os,qs.set c.toNat (qs[c.toNat]?.getD []++[id]),sg,())=true;rw[this];simpa using g2
 .rename_i g;exact absurd h0 g
theorem aiH{n:Int} (h:dM m=true) (h0:(tN m c n).2.2=0):dM (tN m c n).1=true/\IE (tN m c n).1 m:=by
 obtain⟨vs,os,qs,sg,⟨⟩⟩:=m;obtain⟨q1,q2,q3,q4,q5,q6,q7,q8⟩:vs.length<=8/\os.length<=4/\qs.length<=4/\SS sg/\(∀v∈vs,cO v=true)/\(∀o∈os,-1<=o)/\(∀x∈sg++qs.flatten,0<=x)/\(sg++qs.flatten).Nodup:=dQ.1 h;unfold tN at h0 ⊢;split at h0
 .rename_i g;rw[if_pos g];have hg:0<=c/\c < (qs.length:Int):=(dD.1 g).2;have gZ:c.toNat < qs.length:=by omega
  have hk:qs[c.toNat]?=some (qs[c.toNat]?.getD []):=by rw[kR gZ];rfl
  generalize (jD n (((vs,os,qs,sg,()):MD).2.2.1[c.toNat]?.getD []).length).toNat=j;show dM (vs,os,qs.set c.toNat ((qs[c.toNat]?.getD []).drop j),jV sg ((qs[c.toNat]?.getD []).take j),())=true/\IE (vs,os,qs.set c.toNat ((qs[c.toNat]?.getD []).drop j),jV sg ((qs[c.toNat]?.getD []).take j),()) _;generalize qs[c.toNat]?.getD []=q at hk;have p1:=OU qs c.toNat q (q.drop j) hk;have p2:∀F:List Int,(q++F).Perm (q.drop j++(q.take j++F)):=by
   intro F
   conv=>lhs;rw[<-Xf j q,Dj]
   exact adD _ _ _
  have p3:=(List.perm_append_left_iff _).1 (p1.trans (p2 _));obtain⟨a1,a2⟩:=xI (q.take j) sg q4;have p4:(sg++qs.flatten).Perm ((sg++q.take j)++(qs.set c.toNat (q.drop j)).flatten):=by
   rw[Dj];exact p3.append_left sg
  have q8':=p4.nodup_iff.1 q8;have hn:(sg++q.take j).Nodup:=(List.nodup_append.1 q8').1;have hp:(jV sg (q.take j)).Perm (sg++q.take j):=(List.perm_ext_iff_of_nodup (a1.imp λh=>by omega) hn).2 λx=>by rw[a2 x,DY]
  have hp2:=hp.append_right (qs.set c.toNat (q.drop j)).flatten;exact⟨dQ.2 ⟨q1,q2,by rw[xY];exact q3,a1,q5,q6,λx hx=>q7 x (p4.mem_iff.2 (hp2.mem_iff.1 hx)),hp2.nodup_iff.2 q8'⟩,rfl,rfl,by rw[xY]⟩
 .rename_i g;exact absurd h0 g
theorem ahs(h:dM m=true) (h0:(lg m id).2=0):dM (lg m id).1=true/\IE (lg m id).1 m:=by
 obtain⟨vs,os,qs,sg,⟨⟩⟩:=m;obtain⟨q1,q2,q3,q4,q5,q6,q7,q8⟩:vs.length<=8/\os.length<=4/\qs.length<=4/\SS sg/\(∀v∈vs,cO v=true)/\(∀o∈os,-1<=o)/\(∀x∈sg++qs.flatten,0<=x)/\(sg++qs.flatten).Nodup:=dQ.1 h;unfold lg at h0 ⊢;split at h0
 .cases h0
 .rename_i g;split at h0
  .cases h0
  .rename_i g2;rw[if_neg g,if_neg g2];have e:nZ (bM sg) [id] false=sg.filter (λx=>decide (x≠id)):=(GL q4).symm
   show dM (vs,os,qs,nZ (bM sg) [id] false,())=true/\_;rw[e];have sub:(sg.filter (λx=>decide (x≠id))++qs.flatten).Sublist (sg++qs.flatten):=(List.filter_sublist).append_right _
   exact⟨dQ.2 ⟨q1,q2,q3,q4.filter _,q5,q6,λx hx=>q7 x (sub.subset hx),sub.nodup q8⟩,rfl,rfl,rfl⟩
theorem Rw{a b c:MD} (h:IE a b) (g:IE b c):IE a c:=⟨h.1.trans g.1,h.2.1.trans g.2.1,h.2.2.trans g.2.2⟩
theorem amw{e:ED} (h:dM m=true) (h0:0<=e.1) (h1:(jM m e).2=0):dM (jM m e).1=true/\IE (jM m e).1 m:=by
 unfold jM at h1 ⊢;split at h1
 .rename_i g;rw[if_pos g];exact acz h h1
 rename_i g1;rw[if_neg g1];split at h1
 .rename_i g;rw[if_pos g];exact Hg h (by omega) h1
 rename_i g2;rw[if_neg g2];split at h1
 .rename_i g;rw[if_pos g];exact Hg h (by omega) h1
 rename_i g3;rw[if_neg g3];split at h1
 .rename_i g;rw[if_pos g];split at h1
  .rename_i g';rw[if_pos g'];have a:=Hg h (show(-1:Int)<=-1 by omega) g'
   have b:=amv a.1 h1;exact⟨b.1,Rw b.2 a.2⟩
  .rename_i g';exact absurd h1 g'
 rename_i g4;rw[if_neg g4];split at h1
 .rename_i g;rw[if_pos g];exact ahs h h1
 rename_i g5;rw[if_neg g5];split at h1
 .rename_i g;rw[if_pos g];exact aiH h h1
 rename_i g6;rw[if_neg g6];split at h1
 .rename_i g;rw[if_pos g];exact aiH h h1
 rename_i g7;rw[if_neg g7];exact⟨h,rfl,rfl,rfl⟩
theorem aht{p:PD}{e:ED} (h:mW p m=true) (h0:0<=e.1) (h1:(jM m e).2=0):mW p (jM m e).1=true:=by
 have hv:=tH h;obtain⟨a,b1,b2,b3⟩:=amw hv.2.1 h0 h1;unfold mW;rw[a];simp only[A8,dW];exact⟨⟨⟨⟨hv.1,trivial⟩,b1.trans hv.2.2.1⟩,b2.trans hv.2.2.2.1⟩,b3.trans hv.2.2.2.2⟩
theorem Rx{u:TD} (h:nN l) (hu:u.1=id) (hn:∀t∈l,t.1≠id):nN (insL l id u):=by
 have h:l.Pairwise λa b=>a.1 < b.1:=Xy.1 h
 refine Xy.2 ?_;unfold insL;have dw:∀{l:List TD},l.Pairwise (λa b=>a.1 < b.1)->∀t∈l.dropWhile (λt=>decide (t.1 < id)),id<=t.1:=by
  intro l
  induction l with
  | nil=>intro _ t ht;cases ht
  | cons a l ih=>
    intro hp t ht;rw[A80]at hp
    by_cases q:a.1 < id
    .rw[List.dropWhile_cons_of_pos (by simpa using q)]at ht
     exact ih hp.2 t ht
    .rw[List.dropWhile_cons_of_neg (by simpa using q)]at ht
     rcases ng.1 ht with rfl | ht
     .omega
     .have:=hp.1 t ht;omega
 have tw:∀{l:List TD},∀t∈l.takeWhile (λt=>decide (t.1 < id)),t.1 < id:=by
  intro l
  induction l with
  | nil=>intro t ht;cases ht
  | cons a l ih=>
    intro t ht;rw[adK]at ht;split at ht
    .rename_i q;rcases ng.1 ht with rfl | ht
     .simpa using q
     .exact ih t ht
    .cases ht
 have e:=A93 (p:=λt=>decide (t.1 < id)) (l:=l)
 have h2:=h;rw[<-e,Vf]at h2;have dm:∀t∈l.dropWhile (λt=>decide (t.1 < id)),id < t.1:=by
  intro t ht;have a:=dw h t ht;have b:=hn t (by rw[<-e];exact aiW _ ht)
  omega
 refine Vf.2 ⟨Vf.2 ⟨h2.1,List.pairwise_singleton _ _,λa ha b hb=>?_⟩,h2.2.1,λa ha b hb=>?_⟩
 .simp at hb;subst hb;have:=tw a ha;omega
 .have q:=dm b hb;rcases DY.1 ha with ha | ha
  .have:=tw a ha;omega
  .simp at ha;subst ha;omega
theorem acA(h:BG vs ms cs fs=0):(vs.length<=8/\ms.length<=4/\cs.length<=4)/\∀v∈vs,cO v.2.1=true:=by
 unfold BG at h;split at h
 .cases h
 .rename_i q;split at h
  .rename_i g;exact⟨by omega,λv hv=>RG.1 g v hv⟩
  .cases h
theorem ahu(h:(aG vs ms cs fs ts).1=0):mW (vs,ms,cs,fs,ts,()) (qj vs ms cs fs ts).1=true:=by
 obtain⟨⟨h1,h2,h3⟩,hv⟩:=acA (kP h).1;unfold qj;rw[if_pos h];have hf:dM (vs.map (·.2.1),List.replicate ms.length (-1),List.replicate cs.length [],[],())=true:=by
  refine dQ.2 ⟨by rw[Xr];exact h1,by rw[LU];exact h2,by rw[LU];exact h3,List.Pairwise.nil,λv hv'=>?_,λo ho=>?_,?_,?_⟩
  .obtain⟨x,hx,rfl⟩:=Pq.1 hv';exact hv x hx
  .rw[(List.mem_replicate.1 ho).2];omega
  all_goals simp
 unfold mW;simp only[hf,h,Xr,LU,decide_true,Bool.and_self]
theorem Bj{k:Nat} (h:(mX e fs bound ts)[k]?=some t):∃d,ts[k]?=some d/\t=(newS e fs bound (k:Int) d.1 d.2.1).1:=by
 unfold mX at h;rw[DI,adJ]at h;cases hd:ts[k]? with
 | none=>rw[hd]at h;cases h
 | some d=>rw[hd]at h;simp at h;exact⟨d,rfl,h.symm⟩
theorem C9{fn r:Int} (h:(newS e fs bound id fn r).2=0):(newS e fs bound id fn r).1.1=id:=by
 unfold newS at h ⊢
 split at h
 .rename_i q;exact absurd h q
 split at h
 .cases h
 split at h
 .cases h
 split at h
 .cases h
 rename_i q1 q2 q3 q4;rw[if_neg q1,if_neg q2,if_neg q3,if_neg q4];exact(wJ _ _ _ _).1
def IG(l:List TD):Prop:=∀t∈l,t.2.2.2.1.length=8
theorem acB(hs:dG (aG vs ms cs fs ts).1 bound=0):VS vs ms cs fs ts bound (mX (aG vs ms cs fs ts).1 fs bound ts) (qj vs ms cs fs ts).1 []/\IG (mX (aG vs ms cs fs ts).1 fs bound ts):=by
 have hm:∀t∈mX (aG vs ms cs fs ts).1 fs bound ts,vM ms fs bound t/\t.2.2.2.1.length=8:=by
  intro t ht;obtain⟨k,hk⟩:=A88.1 ht;obtain⟨d,hd,rfl⟩:=Bj hk;exact(abz (CZ hs hd)).2
 refine⟨⟨ahu (fE.1 hs).1,rfl,λt ht=>⟨hs,(hm t ht).1⟩,abZ λj a b ha hb=>?_⟩,λt ht=>(hm t ht).2⟩
 obtain⟨d,hd,rfl⟩:=Bj ha;obtain⟨d',hd',rfl⟩:=Bj hb;rw[C9 (CZ hs hd),C9 (CZ hs hd')];omega
theorem LH{bf:List BD} (h:VS vs ms cs fs ts bound l m bf) (h8:IG l) (hl:l.length<=1000000):je l:=
 ⟨hl,λt ht=>⟨(OA (h.2.2.1 t ht).1 (h.2.2.1 t ht).2).1,(OA (h.2.2.1 t ht).1 (h.2.2.1 t ht).2).2,h8 t ht⟩⟩
theorem acC{k:Nat}{u:TD} (h:nN l) (hk:l[k]?=some t) (hu:u.1=t.1):nN (l.set k u):=by
 unfold nN at h ⊢
 rw[List.map_set];have e:(l.map (·.1))[k]?=some t.1:=by rw[DI,hk];rfl
 rw[show(l.map (·.1)).set k u.1=l.map (·.1) by rw[hu];exact ig e]
 exact h
theorem JD{z:ZD} (h:(dV vs ms cs fs ts bound z id).2.2=0):
 dG (aG vs ms cs fs ts).1 bound=0/\VS vs ms cs fs ts bound z.1 z.2.1 z.2.2.1/\∃t i,jq (aG vs ms cs fs ts).1 ms fs z.1 id=(t,i,true)/\uK z.1 z.2.1 t i=true/\(jM z.2.1 (labS z.2.1 t i)).2=0 /\
  ¬((labS z.2.1 t i).2.2.1=16/\0<=gu (λu=>decide (u.1=(labS z.2.1 t i).2.2.2.1)) z.1) /\
  dV vs ms cs fs ts bound z id=((stT (if(labS z.2.1 t i).2.2.1=16 then insL z.1 (labS z.2.1 t i).2.2.2.1 (newS (aG vs ms cs fs ts).1 fs bound (labS z.2.1 t i).2.2.2.1 i.2.2.2.2.1 (t.2.2.2.1.getD i.2.2.1.toNat 0)).1 else z.1) id
  (kG (aG vs ms cs fs ts).1 ms fs bound t (lV i (labS z.2.1 t i))).1,(jM z.2.1 (labS z.2.1 t i)).1,[],()),labS z.2.1 t i,0):=by
 have h1:dG (aG vs ms cs fs ts).1 bound=0:=by
  refine Hw.1 λq=>?_
  unfold dV at h;rw[if_pos q]at h;exact q h
 have h2:vsB vs ms cs fs ts bound z.1 z.2.1 z.2.2.1=true:=by
  refine Hw.1 λq=>?_
  unfold dV at h;rw[if_neg (by omega),if_pos (by simpa using q)]at h;cases h
 cases hr:jq (aG vs ms cs fs ts).1 ms fs z.1 id with
 | mk t x=>
   obtain⟨i,ok⟩:=x;rw[Ez h1 h2 hr]at h ⊢
   split at h
   .cases h
   rename_i g1;split at h
   .cases h
   rename_i g2;split at h
   .cases h
   rename_i g3;rw[if_neg g1,if_neg g2,if_neg g3];simp only[Bool.not_eq_false,A8]at g1;exact⟨h1,jo.1 h2,t,i,by rw[g1.1],g1.2,Hw.1 g2,g3,rfl⟩
theorem acD{z:ZD} (h:(dV vs ms cs fs ts bound z id).2.2=0) (h8:IG z.1) (hl:z.1.length<=999999) (hM:bI z.2.1):
 VS vs ms cs fs ts bound (dV vs ms cs fs ts bound z id).1.1 (dV vs ms cs fs ts bound z id).1.2.1 (dV vs ms cs fs ts bound z id).1.2.2.1/\IG (dV vs ms cs fs ts bound z id).1.1:=by
 obtain⟨hs,hV,t,i,hr,he,hf,hd,e⟩:=JD h;rw[e];have hT:=LH hV h8 (by omega)
 obtain⟨hm,hid,hlab,hat,hsu,hvl⟩:=He hV hM hT hr;have hch:i.1=21->(dJ t.1 t.2.2.2.2.2.1).2=true:=λq=>(pW hs hvl hsu hat q (h8 t hm)).1
 have hcz:=Hf hs hvl hsu (Ey (m:=z.2.1) (i:=i) hlab.1.2.1 hch);obtain⟨_,c1,c2,_,c3,_⟩:=abA (h8 t hm) hcz;have h0:0<=t.1:=by
  have:=fH hvl;obtain⟨x,fn,pc,rg,st,ch,ph,su,fa,hd,u⟩:=t;exact(kZ this.1).1
 have hL:VS vs ms cs fs ts bound (if(labS z.2.1 t i).2.2.1=16 then insL z.1 (labS z.2.1 t i).2.2.2.1 (newS (aG vs ms cs fs ts).1 fs bound (labS z.2.1 t i).2.2.2.1 i.2.2.2.2.1 (t.2.2.2.1.getD i.2.2.1.toNat 0)).1 else z.1) (jM z.2.1 (labS z.2.1 t i)).1 [] /\
  IG (if(labS z.2.1 t i).2.2.1=16 then insL z.1 (labS z.2.1 t i).2.2.2.1 (newS (aG vs ms cs fs ts).1 fs bound (labS z.2.1 t i).2.2.2.1 i.2.2.2.2.1 (t.2.2.2.1.getD i.2.2.1.toNat 0)).1 else z.1) /\
  ∃u∈(if(labS z.2.1 t i).2.2.1=16 then insL z.1 (labS z.2.1 t i).2.2.2.1 (newS (aG vs ms cs fs ts).1 fs bound (labS z.2.1 t i).2.2.2.1 i.2.2.2.2.1 (t.2.2.2.1.getD i.2.2.1.toNat 0)).1 else z.1),u.1=id:=by
  have lJ:=aht hV.1 (show 0<=(labS z.2.1 t i).1 by rw[og];exact h0) hf
  split
  .rename_i g;have hi:=(xK hlab.2.2.2.1).1 g;obtain⟨s1,s2⟩:=pW hs hvl hsu hat hi (h8 t hm);rw[<-uN (m:=z.2.1) hi]at s2;obtain⟨_,n1,n2⟩:=abz s2;have n3:=C9 s2;have hmm:∀x∈insL z.1 (labS z.2.1 t i).2.2.2.1 (newS (aG vs ms cs fs ts).1 fs bound (labS z.2.1 t i).2.2.2.1 i.2.2.2.2.1 (t.2.2.2.1.getD i.2.2.1.toNat 0)).1,x∈z.1\/x=(newS (aG vs ms cs fs ts).1 fs bound (labS z.2.1 t i).2.2.2.1 i.2.2.2.2.1 (t.2.2.2.1.getD i.2.2.1.toNat 0)).1:=by
    intro x hx;unfold insL at hx;simp only[DY,Xg]at hx;rcases hx with(hx | hx) | hx
    .exact .inl ((List.takeWhile_sublist _).subset hx)
    .exact .inr hx
    .exact .inl ((List.dropWhile_sublist _).subset hx)
   refine⟨⟨lJ,rfl,λx hx=>⟨hs,?_⟩,Rx hV.2.2.2 n3 λx hx q=>hd ⟨g,?_⟩⟩,λx hx=>?_,t,Bh hm,hid⟩
   .rcases hmm x hx with hx | rfl
    .exact(hV.2.2.1 x hx).2
    .exact n1
   .have:=(amr (l:=z.1) ⟨x,hx,q⟩);refine Hw.1 λq2=>?_
    have:=Xo.1 (pV q2) x hx;simp[q]at this
   .rcases hmm x hx with hx | rfl
    .exact h8 x hx
    .exact n2
  .exact⟨⟨lJ,rfl,hV.2.2.1,hV.2.2.2⟩,h8,t,hm,hid⟩
 generalize (if(labS z.2.1 t i).2.2.1=16 then insL z.1 (labS z.2.1 t i).2.2.2.1 (newS (aG vs ms cs fs ts).1 fs bound (labS z.2.1 t i).2.2.2.1 i.2.2.2.2.1 (t.2.2.2.1.getD i.2.2.1.toNat 0)).1 else z.1)=L at hL
 obtain⟨hL,hL8,u,hu,hui⟩:=hL;have q:0<=gu (λt=>decide (t.1=id)) L:=by
  refine Hw.1 λq=>?_
  have:=Xo.1 (pV q) u hu;simp[hui]at this
 obtain⟨k,v,q1,q2,q3,q4⟩:=nO q;have ek:(fM (gu (λt=>decide (t.1=id)) L) 0).toNat=k:=by rw[q1];unfold fM;split<;>omega
 have hvi:v.1=id:=by simpa using L8 q3
 unfold stT;rw[ek];refine⟨⟨hL.1,rfl,λx hx=>⟨hs,?_⟩,acC hL.2.2.2 q2 (c3.trans (hid.trans hvi.symm))⟩,λx hx=>?_⟩
 .rcases JF hx with hx | rfl
  .exact(hL.2.2.1 x hx).2
  .exact c1
 .rcases JF hx with hx | rfl
  .exact hL8 x hx
  .exact c2
def xV:List VD:=[(⟨#[120]⟩,0,())]
def xF:List FD:=[(⟨#[102]⟩,[(1,1,0,0,0,1,0,0,()),(11,2,1,0,0,0,0,1,())],())]
def xT:List SD:=[(0,0,()),(0,0,())]
def xP:PD:=(xV,[],[],xF,xT,())
def xt(id:Int):TD:=(id,0,1,[0,1,0,0,0,0,0,0],0,0,0,1,0,[],())
def xu:TD:=(0,0,2,[0,1,0,0,0,0,0,0],1,0,0,2,0,[],())
def xi:ID:=(11,2,1,0,0,0,0,1,())
def xm(v:Int):MD:=([v],[],[],[],())
def xe(id v:Int):ED:=(id,0,5,0,-1,-1,1,v,v+1,())
theorem aiI:(aG xV [] [] xF xT).1=0:=by rfl
theorem acE(h:b=4\/b=32):dG (aG xV [] [] xF xT).1 b=0:=fE.2 ⟨aiI,by omega,by omega⟩
theorem apd(h:b=4\/b=32):mX (aG xV [] [] xF xT).1 xF b xT=[xt 0,xt 1]:=by
 rcases h with rfl | rfl<;>rfl
theorem ape:(qj xV [] [] xF xT).1=xm 0:=by rfl
theorem OV(h:b=4\/b=32):VS xV [] [] xF xT b [xt 0,xt 1] (xm 0) []/\IG [xt 0,xt 1]:=by
 have:=acB (acE h);rw[apd h,ape]at this;exact this
theorem apf(h:VS xV [] [] xF xT b l m []) (h8:IG l) (hl:l.length=2):je l:=LH h h8 (by omega)
theorem Xb(v:Int):bI (xm v):=xJ (m:=xm v) rfl
theorem UO(hV:vM [] xF 32 t) (h1:t.2.2.2.2.2.2.2.1=1):dZ (aG xV [] [] xF xT).1 [] xF t=atR xF t.2.1 t.2.2.1:=by
 unfold dZ;rw[if_pos ⟨aiI,h1,hV⟩]
theorem amx:jq (aG xV [] [] xF xT).1 [] xF [xt 0,xt 1] 0=(xt 0,xi,true):=by
 have hV:=(OV (.inr rfl)).1.2.2.1 (xt 0) (by simp)
 unfold jq;rw[show lU [xt 0,xt 1] 0=some (xt 0) from rfl]
 show(xt 0,(dZ _ _ _ _).1,(dZ _ _ _ _).2)=_;rw[UO hV.2 rfl];rfl
theorem apg(id:Int):labS (xm 0) (xt id) xi=xe id 0:=by rfl
theorem aph:jM (xm 0) (xe 0 0)=(xm 1,0):=by
 have hf:dM (xm 0)=true:=(tH (OV (.inl rfl)).1.1).2.1;unfold jM;rw[if_pos (.inl rfl)];unfold writeM;rw[if_pos (dD.2 ⟨hf,by decide,by decide⟩),if_pos (show cO (xe 0 0).2.2.2.2.2.2.2.2.1=true from rfl)]
 rfl
theorem apj(h:b=4\/b=32):(kG (aG xV [] [] xF xT).1 [] xF b (xt 0) 0).1=xu:=by
 have hV:=(OV h).1.2.2.1 (xt 0) (by simp)
 unfold kG;rw[if_neg (by rw[acE h];simp),if_neg (by simpa using hV.2),if_neg (by decide),if_neg (by decide)]
 rcases h with rfl | rfl<;>rfl
theorem acF(h:b=4\/b=32):dV xV [] [] xF xT b ([xt 0,xt 1],xm 0,[],()) 0=(([xu,xt 1],xm 1,[],()),xe 0 0,0):=by
 rw[Ez (acE h) (jo.2 (OV h).1) amx];show(if(true && uK [xt 0,xt 1] (xm 0) (xt 0) xi)=false then _ else if(jM (xm 0) (labS (xm 0) (xt 0) xi)).2≠0 then _ else if(labS (xm 0) (xt 0) xi).2.2.1=16/\_ then _ else _)=_
 rw[apg,aph,show uK [xt 0,xt 1] (xm 0) (xt 0) xi=true by rfl]
 rw[if_neg (by simp),if_neg (by simp),if_neg (by rintro⟨h,_⟩;exact absurd h (by decide)),if_neg (by decide)]
 rw[show lV xi (xe 0 0)=0 by rfl,apj h]
 rfl
theorem ahv(h:b=4\/b=32):VS xV [] [] xF xT b [xu,xt 1] (xm 1) []/\IG [xu,xt 1]:=by
 have:=acD (vs:=xV) (ms:=[]) (cs:=[]) (fs:=xF) (ts:=xT) (bound:=b) (id:=0) (z:=([xt 0,xt 1],xm 0,[],())) (by rw[acF h]) (OV h).2 (by simp) (Xb 0)
 rw[acF h]at this;exact this
theorem amy:fP xV [] [] xF xT [xt 0,xt 1] (xm 0) []=[0,1]:=by
 have hV:=(OV (.inr rfl)).1;unfold fP;rw[if_pos (jo.2 hV)];have e:∀i,vM [] xF 32 (xt i)->Xa (aG xV [] [] xF xT).1 [] xF [xt 0,xt 1] (xm 0) (xt i)=true:=by
  intro i hi;unfold Xa;rw[UO hi rfl];rfl
 unfold Bf;rw[aiU (e 0 (hV.2.2.1 _ (by simp)).2),aiU (e 1 (hV.2.2.1 _ (by simp)).2)]
 rfl
theorem amA:fP xV [] [] xF xT [xu,xt 1] (xm 1) []=[1]:=by
 have hV:=(ahv (.inr rfl)).1;unfold fP;rw[if_pos (jo.2 hV)];have e:Xa (aG xV [] [] xF xT).1 [] xF [xu,xt 1] (xm 1) (xt 1)=true:=by
  unfold Xa;rw[UO (hV.2.2.1 _ (by simp)).2 rfl];rfl
 have e2:Xa (aG xV [] [] xF xT).1 [] xF [xu,xt 1] (xm 1) xu=false:=by
  unfold Xa dZ;rw[if_neg (by rintro⟨_,h,_⟩;exact absurd h (by decide))]
  rfl
 unfold Bf;rw[List.filter_cons_of_neg (by rw[e2];simp),aiU e]
 rfl
theorem apk:nP xV [] [] xF xT [xu,xt 1] (xm 1) [] 1=(xe 1 1,true):=by
 have hV:=(ahv (.inr rfl)).1;have hr:jq (aG xV [] [] xF xT).1 [] xF [xu,xt 1] 1=(xt 1,xi,true):=by
  unfold jq;rw[show lU [xu,xt 1] 1=some (xt 1) from rfl]
  show(xt 1,(dZ _ _ _ _).1,(dZ _ _ _ _).2)=_;rw[UO (hV.2.2.1 _ (by simp)).2 rfl];rfl
 unfold nP;rw[if_pos (jo.2 hV),hr];rfl
abbrev aiJ:CT:={ ps:=[],pre:=λd=>True,res:=λd=>([],.one (iH sS xP)) }
abbrev apl  : Nat->Option (St->kS):=λ_=>none
theorem amB :
 let z1:=((0:Int),(0:Int),());rE (bg.one (SV.agg [SC.sl KW xV,SC.sl Sh.str [],SC.sl Sh.str [],SC.sl H8 xF,SC.sl nS xT])) (bg.one (SV.agg [SC.sl KW [({ data:=#[(120:UInt8)]:ByteArray },(0:Int),())],SC.sl Sh.str [],SC.sl Sh.str [],SC.sl H8 [({ data:=#[(102:UInt8)]:ByteArray },[((1:Int),(1:Int),(0:Int),(0:Int),(0:Int),(1:Int),(0:Int),(0:Int),()),((11:Int),(2:Int),(1:Int),(0:Int),(0:Int),(0:Int),(0:Int),(1:Int),())],())],SC.sl nS [z1,z1]])):=by
 conv=>zeta
 exact⟨rfl,rfl⟩
theorem ahw:aW aT.gd 31 aiJ:=
 fG (cx:=aT) (n:=14) (cl:=[]) (rc:=[.data sS]) aB trivial Tryz.func31 λd hd=>by
  obtain⟨⟩:=d;exact aQ (apl ) (amB ) (by kernel_rfl)
abbrev acG:CT:={ ps:=[.sl (.int .i64),.sl (.int .i64)],pre:=λd=>d.1.length<=1000000,res:=λd=>([],vB (oK d.1 d.2.1)) }
abbrev apm(l m:List Int):Nat->Option (St->kS):=λk=>match k with
 | 4=>some λ_=>.inv { α:=Nat,slots:=λk=>[(5,.c (.v (.int .i64 k)))],res:=λk=>[],inv:=λk=>k<=(l).length/\∀j < k,l[j]?=m[j]?,meas:=λk=>(l).length - k }
 | _=>none
theorem amC(l m:List Int) (aH:acG.pre (l,m,())):
 let z1:=λ(x:Nat)=>(x<=l.length/\∀(j:Nat),j < x->l[j]?=m[j]?);br (!decide ((l.length:Int)=(m.length:Int))) (qB (oK l m) false) ((∃x,(z1 x)/\(cI 0=cI (x:Int)/\True)/\([]:List fD)=[])/\∀(x:Nat),(z1 x)->br (decide ((x:Int) < (l.length:Int))) ((0<=(x:Int)/\(x:Int) < (l.length:Int))/\∀(d:Int),l[(x:Int).toNat]?=some d->(0<=(x:Int)/\(x:Int) < (m.length:Int))/\∀(dL:Int),m[(x:Int).toNat]?=some dL->br (!decide (d=dL)) (qB (oK l m) false) (iR ((x:Int)+(1:Int))/\∃x',(z1 x')/\(cI ((x:Int)+(1:Int))=cI (x':Int)/\True)/\([]:List fD)=[]/\l.length - x' < l.length - x)) (qB (oK l m) true)):=by
 conv=>zeta
 delta fD iR;have hp:l.length<=1000000:=aH;have fF:l≠m->qB (oK l m) false:=λq=>⟨rfl,by rw[oQ q]⟩
 refine ah.2 ⟨λh=>fF λq=>?_,λh=>?_⟩
 .subst q;simp at h
 simp only[Di,dW]at h;refine⟨⟨0,⟨by omega,λj hj=>by omega⟩,⟨rfl,trivial⟩,rfl⟩,λk hk=>ah.2 ⟨λg=>?_,λg=>?_⟩⟩
 .simp only[dW]at g;refine⟨⟨by omega,by omega⟩,λd hd=>⟨⟨by omega,by omega⟩,λd1 hd1=>ah.2 ⟨λg2=>fF λq=>?_,λg2=>⟨ay.2 (by omega),k+1,⟨by omega,λj hj=>?_⟩,⟨rfl,trivial⟩,rfl,by omega⟩⟩⟩⟩
  .subst q;rw[hd]at hd1;cases hd1;simp at g2
  .by_cases jY:j=k
   .subst jY;have hd:l[j]?=some d:=hd;have hd1:m[j]?=some d1:=hd1;have g2:d=d1:=by simpa using g2
    rw[hd,hd1,g2]
   .exact hk.2 j (by omega)
 simp only[gW]at g;have e:l=m:=by
  apply JG;intro j
  by_cases hj:j < k
  .exact hk.2 j hj
  .rw[Ht (by omega),Ht (by omega)]
 exact⟨rfl,by rw[lW e]⟩
theorem ahx:aW aT.gd 18 acG:=
 fG (cx:=aT) (n:=26) (cl:=[]) (rc:=[]) aB trivial Tryz.func18 λd hd=>by
  obtain⟨l,m,⟨⟩⟩:=d;exact aQ (apm l m) (amC l m hd) (by kernel_rfl)
abbrev acH:CT:={ ps:=[],pre:=λd=>True,res:=λd=>([],vB (true)) }
abbrev apn  : Nat->Option (St->kS):=λ_=>none
theorem amD :
 let z11:=1<=1000000/\0<=1000000/\0<=1000000/\1<=1000000/\2<=1000000/\(∀(x:FD),x∈xF->List.length x.snd.fst<=1000000)/\2<=1000000;let z12:=mX (0:Int) xF (4:Int) xT;let z10:=fP xV [] [] xF xT z12 (List.map (λx=>x.snd.fst) xV,List.replicate 0 (-1:Int),List.replicate 0 [],[],()) [];let z9:=dV xV [] [] xF xT (4:Int) (mX (0:Int) xF (4:Int) xT,(List.map (λx=>x.snd.fst) xV,List.replicate 0 (-1:Int),List.replicate 0 [],[],()),[],()) (0:Int);let z8:=z9.snd.snd=0;let z2:=true && z9.snd.fst.fst == (0:Int) && z9.snd.fst.snd.fst == (0:Int) && z9.snd.fst.snd.snd.fst == (5:Int) && z9.snd.fst.snd.snd.snd.fst == (0:Int) && z9.snd.fst.snd.snd.snd.snd.fst == (-1:Int) && z9.snd.fst.snd.snd.snd.snd.snd.fst == (-1:Int) && z9.snd.fst.snd.snd.snd.snd.snd.snd.fst == (1:Int) && z9.snd.fst.snd.snd.snd.snd.snd.snd.snd.fst == (0:Int) && z9.snd.fst.snd.snd.snd.snd.snd.snd.snd.snd.fst == (1:Int);let z6:=nP xV [] [] xF xT z9.fst.fst z9.fst.snd.fst z9.fst.snd.snd.fst (1:Int);let z4:=z6.fst.snd.snd.snd.snd.snd.snd.snd.fst=1;let z3:=z6.fst.snd.snd.snd.snd.snd.snd.snd.snd.fst=2;let z5:=z6.fst.fst=1;let z1:=decide z8 && z2 && z6.snd && decide z4 && decide z3 && decide z5 && oK z9.fst z9.fst && !oK (mX (0:Int) xF (4:Int) xT,(List.map (λx=>x.snd.fst) xV,List.replicate 0 (-1:Int),List.replicate 0 [],[],()),[],()) z9.fst;let z7:=fP xV [] [] xF xT z9.fst.fst z9.fst.snd.fst z9.fst.snd.snd.fst;True/\z11/\(true=true->z11/\je z12/\bI (List.map (λx=>x.snd.fst) xV,List.replicate 0 (-1:Int),List.replicate 0 [],[],()))/\(true=true->z10.length<=1000000)/\br (false || !oK z10 [(0:Int),(1:Int)]) (qB true false) ((z11/\je z12/\2<=999999/\true=true/\Bg [])/\(z11/\je z9.fst.fst/\bI z9.fst.snd.fst)/\((decide z8 && z2 && z6.snd && decide z4 && decide z3 && decide z5)=true->ab5 z9.fst)/\((decide z8 && z2 && z6.snd && decide z4 && decide z3 && decide z5 && oK z9.fst z9.fst)=true->ab5 (mX (0:Int) xF (4:Int) xT,(List.map (λx=>x.snd.fst) xV,List.replicate 0 (-1:Int),List.replicate 0 [],[],()),[],()))/\(z1=true->z11/\je z9.fst.fst/\bI z9.fst.snd.fst)/\(z1=true->z7.length<=1000000)/\qB true (decide z8 && z2 && z6.snd && decide z4 && decide z3 && decide z5 && oK z9.fst z9.fst && !oK (mX (0:Int) xF (4:Int) xT,(List.map (λx=>x.snd.fst) xV,List.replicate 0 (-1:Int),List.replicate 0 [],[],()),[],()) z9.fst && oK z7 [(1:Int)])):=by
 conv=>zeta
 have e1:mX (0:Int) xF (4:Int) xT=[xt 0,xt 1]:=by rfl
 have e2:((List.map (λx:VD=>x.2.1) xV,List.replicate 0 (-1:Int),List.replicate 0 [],[],()):MD)=xm 0:=by rfl
 have e3:dV xV [] [] xF xT 4 ([xt 0,xt 1],xm 0,[],()) 0=(([xu,xt 1],xm 1,[],()),xe 0 0,0):=acF (.inl rfl);rw[e1,e2];simp only[e3,amy,amA,apk];have hF:∀(x:FD),x∈xF->x.2.1.length<=1000000:=by
  intro x hx;simp only[xF,Xg]at hx;subst hx;decide
 have B:1<=1000000/\0<=1000000/\0<=1000000/\1<=1000000/\2<=1000000/\(∀(x:FD),x∈xF->x.2.1.length<=1000000)/\2<=1000000:=⟨by decide,by decide,by decide,by decide,by decide,hF,by decide⟩
 have t0:je [xt 0,xt 1]:=apf (OV (.inl rfl)).1 (OV (.inl rfl)).2 rfl;have t1:je [xu,xt 1]:=apf (ahv (.inl rfl)).1 (ahv (.inl rfl)).2 rfl;have bb:Bg []:=⟨by decide,λb hb=>nomatch hb⟩
 have ne:oK (([xt 0,xt 1],xm 0,[],()):ZD) ([xu,xt 1],xm 1,[],())=false:=oQ λh=>by
  have:=tK (λz:ZD=>z.2.1.1) h
  simp[xm]at this
 have e4:oK ([0,1]:List Int) [0,1]=true:=lW rfl;have e5:oK ([1]:List Int) [1]=true:=lW rfl;have e6:oK (([xu,xt 1],xm 1,[],()):ZD) ([xu,xt 1],xm 1,[],())=true:=lW rfl;refine⟨trivial,B,λ_=>⟨B,t0,Xb 0⟩,λ_=>by decide,ah.2 ⟨λh=>?_,λ_=>⟨⟨B,t0,by decide,trivial,bb⟩,⟨B,t1,Xb 1⟩,λ_=>⟨t1,Xb 1,bb⟩,λ_=>⟨t0,Xb 0,bb⟩,λ_=>⟨B,t1,Xb 1⟩,λ_=>by decide,wL ?_⟩⟩⟩
 .rw[e4]at h;cases h
 .rw[e5,e6,ne];rfl
theorem ahy:aW aT.gd 11 acH:=
 fG (cx:=aT) (n:=89) (cl:=[(31,aiJ),(12,UM),(19,G8),(18,acG),(21,OQ),(16,UG),(24,acn)]) (rc:=[]) aB ⟨ahw,UN,Lu,ahx,LD,UH,ahl,trivial⟩ Tryz.func11 λd hd=>by
  obtain⟨⟩:=d;exact aQ (apn ) (amD ) (by kernel_rfl)
end
end Go.Proofs.YtjhenjhcbcalpaaGreatDoor
