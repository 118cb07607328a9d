/- Part 12 of the proof. Conditions: the rows'. -/
import Derived.Test.YtjhenjhcbcalpaaGreatDoorB11
set_option linter.unusedSimpArgs false
set_option linter.unusedVariables false
set_option maxRecDepth 1000000
set_option maxHeartbeats 8000000
namespace Go.Proofs.YtjhenjhcbcalpaaGreatDoor
open Go Go.l9
noncomputable section
variable {e id bound b c:Int}{l:List TD}{m:MD}{t:TD}{i:ID}{vs:List VD}{ms cs:List ByteArray}{fs:List FD}{ts:List SD}
abbrev cxR:Cx:={ ti:=tis,gd:=gd0,rt:=true }
def insL(l:List TD) (id:Int) (u:TD):List TD:=l.takeWhile (λt=>decide (t.1 < id))++[u]++l.dropWhile (λt=>decide (t.1 < id))
def sS(e:Int) (fs:List FD) (bound:Int) (z:ZD) (id fn arg:Int):ZD×Int:=
 if 0<=gy (λt=>decide (t.1=id)) z.1 then(zZ,30) else if(newS e fs bound id fn arg).2≠0 then(zZ,30) else((insL z.1 id (newS e fs bound id fn arg).1,z.2),0)
theorem DL{S:ZD×Int}{L:List TD}{mv mo:List Int}{mq:List (List Int)}{mg:List Int}{bf:List BD} (h:S=((L,(mv,mo,mq,mg,()),bf,()),e)):[ak.row 56 dS S.1.1]=[ak.row 56 dS L]/\bg.iJ [.agg [.row 0,.sl I6 S.1.2.1.1,.sl I6 S.1.2.1.2.1,.sl I6.sl S.1.2.1.2.2.1,.sl I6 S.1.2.1.2.2.2.1,.sl zV S.1.2.2.1],cI S.2]=bg.iJ [.agg [.row 0,.sl I6 mv,.sl I6 mo,.sl I6.sl mq,.sl I6 mg,.sl zV bf],cI e]:=by
 subst h;exact⟨rfl,rfl⟩
def Hq(l:List TD) (x:Nat):List TD:=List.take (List.length (List.replicate ((l.length:Int)+(1:Int)).toNat zR)) (List.drop 0 (List.take (x:Int).toNat l))++List.drop (List.length (List.drop 0 (List.take (x:Int).toNat l))) (List.replicate ((l.length:Int)+(1:Int)).toNat zR)
theorem Us{x:Nat} (h:x<=l.length):Hq l x=l.take x++List.replicate (l.length+1 - x) zR:=by
 unfold Hq;have e:((l.length:Int)+(1:Int)).toNat=l.length+1:=by omega
 rw[e,Lj,OM,W9,xg (by rw[lu];omega),lu,Jj h,List.drop_replicate]
theorem Ou{x:Nat} (h:x<=l.length):(Hq l x).length=l.length+1:=by
 rw[Us h,kH,lu,Lj];omega
theorem ahj{x:Nat} (h:x<=l.length) (u:TD):List.take ((x:Int)+(1:Int)).toNat ((Hq l x).set (x:Int).toNat u)++(List.take (List.length ((Hq l x).set (x:Int).toNat u) - ((x:Int)+(1:Int)).toNat) (List.drop (x:Int).toNat (List.take (l.length:Int).toNat l))++List.drop (List.length (List.drop (x:Int).toNat (List.take (l.length:Int).toNat l))) (List.drop ((x:Int)+(1:Int)).toNat ((Hq l x).set (x:Int).toNat u)))=l.take x++[u]++l.drop x:=by
 have e:((x:Int)+(1:Int)).toNat=x+1:=by omega
 have hl:(l.take x).length=x:=by rw[lu];omega
 have hs:(Hq l x).set x u=l.take x++[u]++List.replicate (l.length - x) zR:=by
  rw[Us h,show l.length+1 - x=l.length - x+1 by omega,Xe,adq _ _ (by omega),hl,Xk,Xf,Au];rfl
 have hn:(l.take x++[u]).length=x+1:=by rw[kH,hl];rfl
 rw[e,W9,W9,UW,wK,Ou h,hs];have a1:List.take (x+1) (l.take x++[u]++List.replicate (l.length - x) zR)=l.take x++[u]:=by
  rw[A86 (by omega),xg (by omega)]
 have a2:List.drop (x+1) (l.take x++[u]++List.replicate (l.length - x) zR)=List.replicate (l.length - x) zR:=by
  rw[A99 (by omega),UL (by omega),UN]
 have a3:List.take (l.length+1 - (x+1)) (List.drop x l)=List.drop x l:=xg (by rw[yj];omega)
 have a4:List.drop (List.drop x l).length (List.replicate (l.length - x) zR)=[]:=UL (by rw[Lj,yj];omega)
 rw[a1,a2,a3,a4,Rf]
theorem aoK{x:Nat}{p:TD->Bool} (h:x<=l.length) (h1:∀(j:Nat),j < x->∀t,l[j]?=some t->p t=true) (h2:∀t,l[x]?=some t->p t=false):l.takeWhile p=l.take x/\l.dropWhile p=l.drop x:=by
 induction l generalizing x with
 | nil=>simp
 | cons a l ih=>
   cases x with
   | zero=>
     have:=h2 a rfl;simp[this]
   | succ x=>
     have ha:=h1 0 (by omega) a rfl
     have:=ih (x:=x) (by simpa using h) (λj hj t ht=>h1 (j+1) (by omega) t (by simpa using ht)) (λt ht=>h2 t (by simpa using ht))
     simp[ha,this]
theorem ahk{x:Nat} (h:x<=l.length) (h1:∀(j:Nat),j < x->∀t,l[j]?=some t->t.1 < id) (h2:∀t,l[x]?=some t->¬t.1 < id) (u:TD):insL l id u=l.take x++[u]++l.drop x:=by
 have:=aoK (p:=λt=>decide (t.1 < id)) h (λj hj t ht=>by simpa using h1 j hj t ht) (λt ht=>by simpa using h2 t ht)
 unfold insL;rw[this.1,this.2]
abbrev acs:CT:={ ps:=[oW,.int .i64,Ud,.int .i64,.int .i64,.int .i64],pre:=λd=>bnd (d.1,())/\iF d.2.2.1.1/\d.2.2.2.1<=9223372036854775807,res:=λd=>([.row 56 dS (sS (aC d.1.1 d.1.2.1 d.1.2.2.1 d.1.2.2.2.1 d.1.2.2.2.2.1).1 d.1.2.2.2.1 d.2.1 d.2.2.1 d.2.2.2.1 d.2.2.2.2.1 d.2.2.2.2.2.1).1.1],.iJ [.agg [.row 0,.sl (.int .i64) ((sS (aC d.1.1 d.1.2.1 d.1.2.2.1 d.1.2.2.2.1 d.1.2.2.2.2.1).1 d.1.2.2.2.1 d.2.1 d.2.2.1 d.2.2.2.1 d.2.2.2.2.1 d.2.2.2.2.2.1).1).2.1.1,.sl (.int .i64) ((sS (aC d.1.1 d.1.2.1 d.1.2.2.1 d.1.2.2.2.1 d.1.2.2.2.2.1).1 d.1.2.2.2.1 d.2.1 d.2.2.1 d.2.2.2.1 d.2.2.2.2.1 d.2.2.2.2.2.1).1).2.1.2.1,.sl (.sl (.int .i64)) ((sS (aC d.1.1 d.1.2.1 d.1.2.2.1 d.1.2.2.2.1 d.1.2.2.2.2.1).1 d.1.2.2.2.1 d.2.1 d.2.2.1 d.2.2.2.1 d.2.2.2.2.1 d.2.2.2.2.2.1).1).2.1.2.2.1,.sl (.int .i64) ((sS (aC d.1.1 d.1.2.1 d.1.2.2.1 d.1.2.2.2.1 d.1.2.2.2.2.1).1 d.1.2.2.2.1 d.2.1 d.2.2.1 d.2.2.2.1 d.2.2.2.2.1 d.2.2.2.2.2.1).1).2.1.2.2.2.1,.sl zV ((sS (aC d.1.1 d.1.2.1 d.1.2.2.1 d.1.2.2.2.1 d.1.2.2.2.2.1).1 d.1.2.2.2.1 d.2.1 d.2.2.1 d.2.2.2.1 d.2.2.2.2.1 d.2.2.2.2.2.1).1).2.2.1],.c (.v (.int .i64 ((sS (aC d.1.1 d.1.2.1 d.1.2.2.1 d.1.2.2.2.1 d.1.2.2.2.2.1).1 d.1.2.2.2.1 d.2.1 d.2.2.1 d.2.2.2.1 d.2.2.2.2.1 d.2.2.2.2.2.1).2)))]) }
abbrev aoL(vs:List VD) (ms cs:List ByteArray) (fs:List FD) (ts:List SD) (bound:Int) (th:List TD) (mv mo:List Int) (mq:List (List Int)) (mg:List Int) (bf:List BD) (id fn arg:Int):Nat->Option (St->jK):=λk=>match k with
 | 8=>some λ_=>.inv { α:=Nat,slots:=λk=>[(18,.c (.v (.int .i64 k)))],res:=λ_=>[],inv:=λk=>k<=th.length/\∀j < k,∀t,th[j]?=some t->t.1 < id,meas:=λk=>th.length - k }
 | _=>none
theorem amh(vs:List VD) (ms cs:List ByteArray) (fs:List FD) (ts:List SD) (bound:Int) (th:List TD) (mv mo:List Int) (mq:List (List Int)) (mg:List Int) (bf:List BD) (id fn arg:Int) (aG:acs.pre ((vs,ms,cs,fs,ts,()),bound,(th,(mv,mo,mq,mg,()),bf,()),id,fn,arg,())):
 let z10:=sS (aC vs ms cs fs ts).fst fs bound (th,(mv,mo,mq,mg,()),bf,()) id fn arg;let z5:=[ak.row 56 dS z10.fst.fst];let z1:=[SV.agg [SC.row 0,SC.sl I6 z10.fst.snd.fst.fst,SC.sl I6 z10.fst.snd.fst.snd.fst,SC.sl I6.sl z10.fst.snd.fst.snd.snd.fst,SC.sl I6 z10.fst.snd.fst.snd.snd.snd.fst,SC.sl zV z10.fst.snd.snd.fst],cI (z10.snd)];let z6:=z5=[ak.row 56 dS []]/\bg.iJ z1=bg.iJ [SV.agg [SC.row 0,SC.sl I6 [],SC.sl I6 [],SC.sl I6.sl [],SC.sl I6 [],SC.sl zV []],cI 30];let z13:=newS (aC vs ms cs fs ts).fst fs bound id fn arg;let z11:=λ(x:Nat)=>(x<=th.length/\∀(j:Nat),j < x->∀(t:TD),th[j]?=some t->t.fst < id);let z4:=[g0 (bP vs ms cs fs ts),g0 (bZ th mv mo mq mg bf),g0 (ak.blk 37 uZ),g0 (ak.obj 56 dS z13.fst)];let yg:=λ(x:Nat)=>(x:Int) < (th.length:Int);let Gh:=λ(x:Nat)=>(x:Int)+(1:Int);let nS:=(th.length:Int)+(1:Int);let z9:=λ(x:Nat)=>(Hq th x).set (x:Int).toNat z13.fst;let z3:=λ(x:Nat)=>0<=(x:Int)+(1:Int)/\(x:Int)+1<=(↑(z9 x).length:Int);let z7:=λ(x:Nat)=>0<=(x:Int)/\(x:Int)<=(th.length:Int)/\(th.length:Int)<=(th.length:Int);let z12:=λ(x:Nat)=>List.drop (x:Int).toNat (List.take (th.length:Int).toNat th);let z2:=λ(x:Nat)=>[ak.row 56 dS (List.take (Gh x).toNat (z9 x)++(List.take ((z9 x).length - (Gh x).toNat) (z12 x)++List.drop (z12 x).length (List.drop (Gh x).toNat (z9 x))))];let z8:=[SV.agg [SC.row 0,SC.sl I6 mv,SC.sl I6 mo,SC.sl I6.sl mq,SC.sl I6 mg,SC.sl zV bf],cI 0];th.length<=1000000/\br (decide (0<=gy (λt=>decide (t.fst=id)) th)) z6 (((bnd ((vs,ms,cs,fs,ts,()),()))/\id<=9223372036854775807)/\br (!decide (z13.snd=0)) z6 ((∃x,(z11 x)/\(cI 0=cI (x:Int)/\True)/\sm z4)/\∀(x:Nat),(z11 x)->(decide (yg x)=true->0<=(x:Int)/\(x:Int) < (th.length:Int))/\∀(d:TD),(decide (yg x)=true->th[(x:Int).toNat]?=some d)->br (decide (yg x) && decide (d.fst < id)) (iR (Gh x)/\∃x',(z11 x')/\(cI (Gh x)=cI (x':Int)/\True)/\sm z4/\th.length - x' < th.length - x) (iR nS/\(0<=(th.length:Int)+(1:Int)/\(th.length:Int)+1<=(th.length:Int)+(1:Int)/\oz nS.toNat 152)/\((0:Int)<=(0:Int)/\0<=(x:Int)/\(x:Int)<=(th.length:Int))/\(0<=(x:Int)/\(x:Int) < (↑(Hq th x).length:Int))/\(x:Int).toNat < (Hq th x).length/\iR (Gh x)/\((z3 x)/\(z7 x)/\z5=(z2 x)/\bg.iJ z1=bg.iJ z8)/\(z7 x)/\(z3 x)/\z5=(z2 x)/\bg.iJ z1=bg.iJ z8))):=by
 conv=>zeta
 delta uZ iR iN;obtain⟨hb,⟨hl,hT⟩,hid⟩:bnd ((vs,ms,cs,fs,ts,()),())/\iF th/\id<=9223372036854775807:=aG;refine⟨hl,ah.2 ⟨λh=>DL ?_,λh=>⟨⟨hb,hid⟩,ah.2 ⟨λh2=>DL ?_,λh2=>⟨⟨0,⟨by omega,λj hj=>by omega⟩,⟨rfl,trivial⟩,rfl⟩,λx hx=>⟨λg=>⟨by omega,by simpa using g⟩,λd hd=>ah.2 ⟨λg=>?_,λg=>?_⟩⟩⟩⟩⟩⟩⟩
 .unfold sS;rw[if_pos (OL h)];rfl
 .have h:=A92 h;unfold sS;rw[if_neg h,if_pos (by simpa using h2)];rfl
 .simp only[bY,dN]at g;have hd:=hd (by simpa using g.1)
  rw[W9]at hd;refine⟨ay.2 (by omega),x+1,⟨by omega,λj hj t ht=>?_⟩,⟨rfl,trivial⟩,rfl,by omega⟩
  by_cases q:j=x
  .subst q;rw[hd]at ht;cases ht;exact g.2
  .exact hx.2 j (by omega) t ht
 .have hn:=Ou hx.1;have hf:sS (aC vs ms cs fs ts).1 fs bound (th,(mv,mo,mq,mg,()),bf,()) id fn arg=((th.take x++[(newS (aC vs ms cs fs ts).1 fs bound id fn arg).1]++th.drop x,(mv,mo,mq,mg,()),bf,()),0):=by
   have h:=A92 h;unfold sS;rw[if_neg h,if_neg (by simpa using h2),ahk hx.1 hx.2 (λt ht=>?_)]
   have gX:x < th.length:=(A8.1 ht).1;have hd:=hd (by simpa using gX)
   rw[W9,ht]at hd;cases hd;simp only[A72,eH]at g;omega
  rw[ahj hx.1];rw[wK,hn,W9];refine⟨ay.2 (by omega),⟨by omega,by omega,dZ.2 (by omega)⟩,⟨by omega,by omega,by omega⟩,⟨by omega,by omega⟩,by omega,ay.2 (by omega),⟨⟨by omega,by omega⟩,⟨by omega,by omega,by omega⟩,DL hf⟩,⟨by omega,by omega,by omega⟩,⟨by omega,by omega⟩,DL hf⟩
theorem ahl:aU cxR.gd 50 acs:=
 dY (cx:=cxR) (n:=85) (cl:=[(52,Jc),(34,TP)]) (rc:=[.hd 56 dS shR,.keep]) au ⟨DK,TQ,trivial⟩ Tryz.func50 λd hd=>by
  obtain⟨⟨vs,ms,cs,fs,ts,⟨⟩⟩,bound,⟨th,⟨mv,mo,mq,mg,⟨⟩⟩,bf,⟨⟩⟩,id,fn,arg,⟨⟩⟩:=d;exact aP (aoL vs ms cs fs ts bound th mv mo mq mg bf id fn arg) (amh vs ms cs fs ts bound th mv mo mq mg bf id fn arg hd) (by kernel_rfl)
def stT(l:List TD) (id:Int) (u:TD):List TD:=l.set (fM (gy (λt=>decide (t.1=id)) l) 0).toNat u
def fH(vs:List VD) (ms cs:List ByteArray) (fs:List FD) (ts:List SD) (bound:Int) (z:ZD) (id:Int):ZD×ED×Int:=
 if bQ (aC vs ms cs fs ts).1 bound≠0 then(zZ,zE,bQ (aC vs ms cs fs ts).1 bound)
 else if vsB vs ms cs fs ts bound z.1 z.2.1 z.2.2.1=false then(zZ,zE,1)
 else match jo (aC vs ms cs fs ts).1 ms fs z.1 id with
 | (t,i,ok)=>if(ok && CG z.1 z.2.1 t i)=false then(zZ,zE,19)
   else if(jG z.2.1 (labS z.2.1 t i)).2≠0 then(zZ,zE,30)
   else if(labS z.2.1 t i).2.2.1=16/\0<=gy (λu=>decide (u.1=(labS z.2.1 t i).2.2.2.1)) z.1 then(zZ,zE,30)
   else((stT (if(labS z.2.1 t i).2.2.1=16 then insL z.1 (labS z.2.1 t i).2.2.2.1 (newS (aC vs ms cs fs ts).1 fs bound (labS z.2.1 t i).2.2.2.1 i.2.2.2.2.1 (t.2.2.2.1.getD i.2.2.1.toNat 0)).1 else z.1) id
    (kE (aC vs ms cs fs ts).1 ms fs bound t (lS i (labS z.2.1 t i))).1,(jG z.2.1 (labS z.2.1 t i)).1,[],()),labS z.2.1 t i,0)
theorem BJ(m:MD) (t:TD) (i:ID):(labS m t i).1=t.1:=by
 have key:∀(c:Prop) [Decidable c] (a b:ED),a.1=t.1->b.1=t.1->(if c then a else b).1=t.1:=by
  intro c _ a b ha hb;split
  .exact ha
  .exact hb
 unfold labS
 repeat' (first | rfl | (apply key))
theorem zY(hv:8<=i.1/\i.1<=22):(labS m t i).2.2.1=16↔i.1=21:=by
 have key:∀(c:Prop) [Decidable c] (a b:ED),¬a.2.2.1=16->¬b.2.2.1=16->¬(if c then a else b).2.2.1=16:=by
  intro c _ a b ha hb;split
  .exact ha
  .exact hb
 constructor
 .intro h
  by_cases q:i.1=21
  .exact q
  .exfalso;revert h;unfold labS;rw[if_neg q]
   repeat' (first | (apply key) | simp)
 .intro h;unfold labS;simp[h]
theorem wB(h:i.1=21):(labS m t i).2.2.2.1=(bW t.1 t.2.2.2.2.2.1).1:=by
 unfold labS;simp[h]
theorem ahm{i f t:Int} (h:qF m=true):qF (iL m i id f t).1=true:=by
 unfold iL;split
 .split
  .rfl
  .split
   .obtain⟨vs,os,qs,sg,⟨⟩⟩:=m;unfold qF at h ⊢
    simpa using h
   .rfl
 .rfl
theorem ahn(h:qF m=true) (e:ED):bK (jG m e).1:=by
 have hw:∀x v,bK (writeM m x v).1:=by
  intro x v;unfold writeM
  repeat' split
  all_goals first | exact Gp | skip
  obtain⟨h1,h2⟩:=wz h;exact⟨by rw[wK];exact h1,h2⟩
 unfold jG
 repeat' split
 all_goals first | exact hw _ _ | exact KW (wz h) | exact ahi (ahm h) | exact acr h | exact amg h | exact wz h
theorem BK{bf:List BD} (hV:VS vs ms cs fs ts bound l m bf) (hM:bK m) (hT:iF l) (h:jo (aC vs ms cs fs ts).1 ms fs l id=(t,i,true)):
 t∈l/\t.1=id/\Gm m t i/\lZ fs t.2.1 t.2.2.1=some i/\t.2.2.2.2.2.2.2.1=1/\rO ms fs bound t:=by
 unfold jo at h;cases ef:nN l id with
 | none=>rw[ef]at h;cases h
 | some u=>
   rw[ef]at h;simp only[GR]at h;obtain⟨h1,h2,h3⟩:=h;subst h1;have hm:=ais ef;have hp:=KT hV.1 hM (hT.2 u hm) h3;have hq:=Oq h3;rw[h2]at hp hq;exact⟨hm,by simpa using Lu ef,hp,hq.2.2.2,hq.2.1,(hV.2.2.1 u hm).2⟩
theorem sU{S:ZD×ED×Int}{a:ZD}{b:ED} (h:S=(a,b,c)):rT [BI S.1,Ho S.2.1,cI S.2.2] [BI a,Ho b,cI c]:=by subst h;exact⟨rfl,rfl⟩
theorem qG(hs:bQ (aC vs ms cs fs ts).1 bound=0) (hV:rO ms fs bound t) (h1:t.2.2.2.2.2.2.2.1=1) (ha:lZ fs t.2.1 t.2.2.1=some i) (hi:i.1=21) (hl:t.2.2.2.1.length=8):
 (bW t.1 t.2.2.2.2.2.1).2=true/\(newS (aC vs ms cs fs ts).1 fs bound (bW t.1 t.2.2.2.2.2.1).1 i.2.2.2.2.1 (t.2.2.2.1.getD i.2.2.1.toNat 0)).2=0:=by
 have hz:=fG.1 hs;obtain⟨_,_,j,hj,vj,oj⟩:=BF hV h1;rw[ha]at hj;cases hj;have hf:=gY hV;obtain⟨k1,k2,k3,k4⟩:=ql (Ci hz.1 (I4 hf).1 ha);obtain⟨r1,r2,r3,r4⟩:=kX k1;obtain⟨id,fn,pc,rg,st,ch,ph,su,fa,he,u⟩:=t;have hl:rg.length=8:=hl;obtain⟨f1,f2,f3,f4,f5,f6,f7,f8,f9⟩:=hf;have hph:ph=0:=by
  rcases f9 with q | ⟨_,i',q1,q2,_⟩
  .exact q
  .have ha:lZ fs fn pc=some i:=ha;rw[ha]at q1;cases q1;omega
 have oj:jm id ch ph he i=0:=oj;have hc:(bW id ch).2=true:=by
  unfold jm at oj;rw[if_neg (by omega),if_neg (by omega),if_neg (by omega),if_pos hi]at oj
  by_cases q:(bW id ch).2=true
  .exact q
  .rw[if_neg q]at oj;cases oj
 refine⟨hc,?_⟩;have hd:¬aQ (bW id ch).1 < 0:=by
  unfold bW at hc ⊢;split at hc
  .cases hc
  .rename_i q;rw[if_neg q];have:=Ce (id:=id) (ch:=ch) (by omega) (by omega) (by omega) (by omega)
   show¬aQ (8 * (id+1)+ch) < 0;omega
 have ho:oZ vs ms cs fs i.1=fs.length:=by unfold oZ;rw[hi];simp
 rw[ho]at k2;have k2:=k2 (by omega)
 have hv:bU (rg.getD i.2.2.1.toNat 0)=true:=by
  have gX:i.2.2.1.toNat < rg.length:=by omega
  rw[Jf,kQ gX];exact f4 _ (by omega) _ (kQ gX)
 show(newS _ _ _ (bW id ch).1 _ _).2=0;unfold newS;rw[if_neg (by omega),if_neg hd,if_neg (by omega),if_neg (by show¬bU (rg.getD i.2.2.1.toNat 0)=false;rw[hv];simp)]
theorem Aa(hf:dK m=true) (hc:i.1=21->(bW t.1 t.2.2.2.2.2.1).2=true):bU (lS i (labS m t i))=true:=by
 have hv:∀x:Int,bU (m.1[x.toNat]?.getD 0)=true:=by
  intro x;cases hx:m.1[x.toNat]? with
  | none=>rfl
  | some v=>exact(dW.1 hf).2.2.2.2.1 v (gZ hx)
 have hch:i.1=21->bU (bW t.1 t.2.2.2.2.2.1).1=true:=by
  intro q;obtain⟨_,_,_,_,c1,_,c2,_⟩:=zO (hc q);exact o7.2 ⟨by omega,by omega⟩
 have key:∀(c:Prop) [Decidable c] (a b:ED),(c->bU (lS i a)=true)->(¬c->bU (lS i b)=true)->bU (lS i (if c then a else b))=true:=by
  intro c _ a b ha hb;split
  .exact ha (by assumption)
  .exact hb (by assumption)
 have k1:∀b:Bool,bU (if wG b=0 then 0 else 1)=true:=by intro b;cases b<;>rfl
 unfold labS
 repeat' (refine key _ _ _ (λ_=>?_) (λ_=>?_))
 all_goals (try first | exact hv _ | rfl | exact k1 _ | (apply hch;assumption))
 all_goals (unfold lS;try simp only)
 all_goals first | exact hv _ | rfl | exact k1 _ | (apply hch;assumption) | (rw[if_pos trivial,if_pos (by assumption)];rfl) | (simp_all;done) | skip
theorem Ac{r:Int} (hs:bQ e bound=0) (hV:rO ms fs bound t) (h1:t.2.2.2.2.2.2.2.1=1) (hr:bU r=true):(kE e ms fs bound t r).2=0:=by
 unfold kE;rw[if_neg (by omega),if_neg (by simpa using hV),if_neg (by omega),if_neg (by rw[hr];simp)]
theorem ami(h:∃t∈l,t.1=id):(0<=fM (gy (λt=>decide (t.1=id)) l) 0/\fM (gy (λt=>decide (t.1=id)) l) 0 < (l.length:Int))/\(fM (gy (λt=>decide (t.1=id)) l) 0).toNat < l.length:=by
 have q:0<=gy (λt=>decide (t.1=id)) l:=by
  refine Gw.1 λq=>?_
  obtain⟨t,ht,e⟩:=h;have:=WY.1 (o8 q) t ht;simp[e]at this
 obtain⟨k,t,q1,q2,q3,q4⟩:=nD q;have e:fM (gy (λt=>decide (t.1=id)) l) 0=k:=by rw[q1];unfold fM;split<;>omega
 rw[e];omega
theorem Ad{u:TD} (h:t∈l):t∈insL l id u:=by
 unfold insL;rw[<-A95 (p:=λt=>decide (t.1 < id)) (l:=l)]at h
 simp only[CX,WM]at h ⊢
 rcases h with h | h
 .exact .inl (.inl h)
 .exact .inr h
theorem Ov(l:List TD) (id:Int) (u:TD):(insL l id u).length=l.length+1:=by
 unfold insL;have:=tX List.length (A95 (p:=λt=>decide (t.1 < id)) (l:=l))
 rw[kH]at this;simp only[kH,sV,Lp];omega
theorem DN{vs:List VD}{ms cs:List ByteArray}{fs:List FD}{ts:List SD}{bound id:Int}{z:ZD}{t:TD}{i:ID}{ok:Bool} (h:bQ (aC vs ms cs fs ts).1 bound=0) (h1:vsB vs ms cs fs ts bound z.1 z.2.1 z.2.2.1=true) (hr:jo (aC vs ms cs fs ts).1 ms fs z.1 id=(t,i,ok)):
 fH vs ms cs fs ts bound z id=if(ok && CG z.1 z.2.1 t i)=false then(zZ,zE,19)
 else if(jG z.2.1 (labS z.2.1 t i)).2≠0 then(zZ,zE,30)
 else if(labS z.2.1 t i).2.2.1=16/\0<=gy (λu=>decide (u.1=(labS z.2.1 t i).2.2.2.1)) z.1 then(zZ,zE,30)
 else((stT (if(labS z.2.1 t i).2.2.1=16 then insL z.1 (labS z.2.1 t i).2.2.2.1 (newS (aC vs ms cs fs ts).1 fs bound (labS z.2.1 t i).2.2.2.1 i.2.2.2.2.1 (t.2.2.2.1.getD i.2.2.1.toNat 0)).1 else z.1) id
  (kE (aC vs ms cs fs ts).1 ms fs bound t (lS i (labS z.2.1 t i))).1,(jG z.2.1 (labS z.2.1 t i)).1,[],()),labS z.2.1 t i,0):=by
 unfold fH;rw[if_neg (by omega),if_neg (by rw[h1];simp),hr]
abbrev Ox:CT:={ ps:=[oW,.int .i64,Ud,.int .i64],pre:=λd=>bnd (d.1,())/\iF d.2.2.1.1/\d.2.2.1.1.length<=999999/\qF d.2.2.1.2.1=true/\zX d.2.2.1.2.2.1,res:=λd=>([],.iJ [BI ((fH d.1.1 d.1.2.1 d.1.2.2.1 d.1.2.2.2.1 d.1.2.2.2.2.1 d.2.1 d.2.2.1 d.2.2.2.1).1),Ho ((fH d.1.1 d.1.2.1 d.1.2.2.1 d.1.2.2.2.1 d.1.2.2.2.2.1 d.2.1 d.2.2.1 d.2.2.2.1).2.1),.c (.v (.int .i64 ((fH d.1.1 d.1.2.1 d.1.2.2.1 d.1.2.2.2.1 d.1.2.2.2.2.1 d.2.1 d.2.2.1 d.2.2.2.1).2.2)))]) }
theorem amj(vs:List VD) (ms cs:List ByteArray) (fs:List FD) (ts:List SD) (bound:Int) (th:List TD) (mv mo:List Int) (mq:List (List Int)) (mg:List Int) (bf:List BD) (id:Int) (aG:Ox.pre ((vs,ms,cs,fs,ts,()),bound,(th,(mv,mo,mq,mg,()),bf,()),id,())):
 let z17:=bnd ((vs,ms,cs,fs,ts,()),());let OE:=aC vs ms cs fs ts;let z20:=(mv,mo,mq,mg,());let Gg:=(th,z20,bf,());let z13:=fH vs ms cs fs ts bound Gg id;let z10:=[BI (z13.fst),Ho (z13.snd.fst),cI (z13.snd.snd)];let nS:=jo OE.fst ms fs th id;let z12:=labS z20 nS.fst nS.snd.fst;let z11:=jG z20 z12;let z6:=λ(d:Int)=>sS OE.fst fs bound (th,z11.fst,bf,()) z12.snd.snd.snd.fst nS.snd.fst.snd.snd.snd.snd.fst d;let z7:=z17/\List.length nS.fst.snd.snd.snd.snd.snd.snd.snd.snd.snd.fst<=1000000/\nS.fst.fst<=9223372036854775807/\List.length nS.fst.snd.snd.snd.fst=8;let z9:=kE OE.fst ms fs bound nS.fst (lS nS.snd.fst z12);let z8:=!decide (z9.snd=0);let z3:=rT z10 [BI ([],([],[],[],[],()),[],()),Ho (0,0,0,0,0,0,0,0,0,()),cI (z9.snd)];let z5:=λ(d:Int)=>gy (λt=>decide (t.fst=id)) (z6 d).fst.fst;let z4:=λ(d:Int)=>fM (z5 d) (0:Int);let z1:=λ(d:Int)=>[BI ((z6 d).fst.fst.set (z4 d).toNat z9.fst,((z6 d).fst.snd.fst.fst,(z6 d).fst.snd.fst.snd.fst,(z6 d).fst.snd.fst.snd.snd.fst,(z6 d).fst.snd.fst.snd.snd.snd.fst,()),(z6 d).fst.snd.snd.fst,()),Ho z12,cI 0];let Gh:=gy (λt=>decide (t.fst=id)) th;let yg:=fM Gh (0:Int);let z2:=[BI (th.set yg.toNat z9.fst,(z11.fst.fst,z11.fst.snd.fst,z11.fst.snd.snd.fst,z11.fst.snd.snd.snd.fst,()),bf,()),Ho z12,cI 0];z17/\br (!decide (bQ OE.fst bound=0)) (rT z10 [BI ([],([],[],[],[],()),[],()),Ho (0,0,0,0,0,0,0,0,0,()),cI (bQ OE.fst bound)]) ((z17/\iF th/\bK z20)/\br (!vsB vs ms cs fs ts bound th z20 bf) (rT z10 [BI ([],([],[],[],[],()),[],()),Ho (0,0,0,0,0,0,0,0,0,()),cI 1]) ((z17/\iF th)/\((!!nS.snd.snd)=true->Gm z20 nS.fst nS.snd.fst/\th.length<=1000000)/\br (!nS.snd.snd || !CG th z20 nS.fst nS.snd.fst) (rT z10 [BI ([],([],[],[],[],()),[],()),Ho (0,0,0,0,0,0,0,0,0,()),cI 19]) (Gm z20 nS.fst nS.snd.fst/\ab4 Gg/\(bK z20/\nS.fst.fst=z12.fst)/\br (!decide (z11.snd=0)) (rT z10 [BI ([],([],[],[],[],()),[],()),Ho (0,0,0,0,0,0,0,0,0,()),cI 30]) (bK z11.fst/\br (decide (z12.snd.snd.fst=16)) ((0<=nS.snd.fst.snd.snd.fst/\nS.snd.fst.snd.snd.fst < 8)/\nS.snd.fst.snd.snd.fst.toNat < 8/\∀(d:Int),nS.1.2.2.2.fst[nS.snd.fst.snd.snd.fst.toNat]?=some d->(z17/\iF th/\z12.snd.snd.snd.fst<=9223372036854775807)/\br (!decide ((z6 d).snd=0)) (rT z10 [BI ([],([],[],[],[],()),[],()),Ho (0,0,0,0,0,0,0,0,0,()),cI ((z6 d).snd)]) (z7/\br z8 z3 ((z6 d).fst.fst.length<=1000000/\(0<=fM (z5 d) (0:Int)/\fM (z5 d) 0 < (↑(z6 d).fst.fst.length:Int))/\(z4 d).toNat < (z6 d).fst.fst.length/\(rT z10 (z1 d))/\rT z10 (z1 d)))) (z7/\br z8 z3 (th.length<=1000000/\(0<=fM Gh (0:Int)/\fM Gh 0 < (th.length:Int))/\yg.toNat < th.length/\(rT z10 z2)/\rT z10 z2)))))):=by
 conv=>zeta
 obtain⟨hb,hT,hn,hm,hB⟩:bnd ((vs,ms,cs,fs,ts,()),())/\iF th/\th.length<=999999/\qF (mv,mo,mq,mg,())=true/\zX bf:=aG;have hM:=wz hm;have hS:=@DN vs ms cs fs ts bound id (th,(mv,mo,mq,mg,()),bf,());generalize hr:jo (aC vs ms cs fs ts).1 ms fs th id=R at hS ⊢;obtain⟨T,I,ok⟩:=R;dsimp only at hS ⊢;refine⟨hb,ah.2 ⟨λh=>sU ?_,λh=>⟨⟨hb,hT,hM⟩,ah.2 ⟨λh1=>sU ?_,λh1=>⟨⟨hb,hT⟩,λh2=>⟨?_,hT.1⟩,ah.2 ⟨λh2=>sU ?_,λh2=>?_⟩⟩⟩⟩⟩⟩
 .have h:bQ (aC vs ms cs fs ts).1 bound≠0:=by simpa using h
  unfold fH;rw[if_pos h];rfl
 .have h:bQ (aC vs ms cs fs ts).1 bound=0:=by simpa using h
  have h1:vsB vs ms cs fs ts bound th (mv,mo,mq,mg,()) bf=false:=by simpa using h1
  unfold fH;rw[if_neg (by omega),if_pos h1];rfl
 all_goals have h:bQ (aC vs ms cs fs ts).1 bound=0:=by simpa using h
 all_goals have h1:vsB vs ms cs fs ts bound th (mv,mo,mq,mg,()) bf=true:=by simpa using h1
 all_goals have hV:=iT.1 h1
 .have h2:ok=true:=by simpa using h2
  subst h2;exact(BK hV hM hT hr).2.2.1
 .rw[hS h h1 rfl,if_pos (by simp only[xk,CO]at h2;rw[A72];exact h2)];rfl
 simp only[l7,wI]at h2;obtain⟨ok1,en1⟩:=h2;subst ok1;obtain⟨lH,hid,hlab,hat,hsu,hvl⟩:=BK hV hM hT hr;have hS:=hS h h1 rfl;rw[if_neg (by rw[en1];simp)]at hS
 have htB:=hT.2 T lH;have hch:I.1=21->(bW T.1 T.2.2.2.2.2.1).2=true:=λq=>(qG h hvl hsu hat q htB.2.2).1
 have hcz:=Ac h hvl hsu (Aa (m:=(mv,mo,mq,mg,())) (i:=I) hlab.1.2.1 hch);refine⟨hlab,⟨hT,hM,hB⟩,⟨hM,(BJ _ _ _).symm⟩,ah.2 ⟨λh3=>sU ?_,λh3=>⟨ahn hm _,ah.2 ⟨λh4=>?_,λh4=>?_⟩⟩⟩⟩
 .have h3:(jG (mv,mo,mq,mg,()) (labS (mv,mo,mq,mg,()) T I)).2≠0:=by simpa using h3
  rw[hS,if_pos h3];rfl
 all_goals have h3:(jG (mv,mo,mq,mg,()) (labS (mv,mo,mq,mg,()) T I)).2=0:=by simpa using h3
 all_goals rw[if_neg (by omega)]at hS
 .have h4:(labS (mv,mo,mq,mg,()) T I).2.2.1=16:=OL h4;have hI:=(zY hlab.2.2.2.1).1 h4;obtain⟨c1,c2⟩:=qG h hvl hsu hat hI htB.2.2;have eo:=wB (m:=(mv,mo,mq,mg,())) (t:=T) hI;obtain⟨_,_,_,_,c5,_,c6,_⟩:=zO c1;have r2:=hlab.2.1;refine⟨r2,by omega,λd hd=>⟨⟨hb,hT,by rw[eo];omega⟩,ah.2 ⟨λh5=>sU ?_,λh5=>?_⟩⟩⟩
  all_goals have ed:=rgd hd
  all_goals rw[ed]at c2 hS
  all_goals rw[<-eo]at c2
  .have h5:(sS (aC vs ms cs fs ts).1 fs bound (th,(jG (mv,mo,mq,mg,()) (labS (mv,mo,mq,mg,()) T I)).1,bf,()) (labS (mv,mo,mq,mg,()) T I).2.2.2.1 I.2.2.2.2.1 d).2≠0:=by simpa using h5
   by_cases q:0<=gy (λu=>decide (u.1=(labS (mv,mo,mq,mg,()) T I).2.2.2.1)) th
   .rw[hS,if_pos ⟨h4,q⟩];unfold sS;rw[if_pos q];rfl
   .exfalso;apply h5;unfold sS;rw[if_neg q,if_neg (by rw[c2];simp)]
  .have q:¬0<=gy (λu=>decide (u.1=(labS (mv,mo,mq,mg,()) T I).2.2.2.1)) th:=by
    intro q;unfold sS at h5;rw[if_pos q]at h5;simp at h5
   have es:sS (aC vs ms cs fs ts).1 fs bound (th,(jG (mv,mo,mq,mg,()) (labS (mv,mo,mq,mg,()) T I)).1,bf,()) (labS (mv,mo,mq,mg,()) T I).2.2.2.1 I.2.2.2.2.1 d=((insL th (labS (mv,mo,mq,mg,()) T I).2.2.2.1 (newS (aC vs ms cs fs ts).1 fs bound (labS (mv,mo,mq,mg,()) T I).2.2.2.1 I.2.2.2.2.1 d).1,(jG (mv,mo,mq,mg,()) (labS (mv,mo,mq,mg,()) T I)).1,bf,()),0):=by
    unfold sS;rw[if_neg q,if_neg (by rw[c2];simp)]
   rw[es];dsimp only;rw[if_neg (λp=>q p.2),if_pos h4]at hS
   have hp:=ami (l:=insL th (labS (mv,mo,mq,mg,()) T I).2.2.2.1 (newS (aC vs ms cs fs ts).1 fs bound (labS (mv,mo,mq,mg,()) T I).2.2.2.1 I.2.2.2.2.1 d).1) (id:=id) ⟨T,Ad lH,hid⟩;have hbf:bf=[]:=hV.2.1;have fin:=sU hS;refine⟨⟨hb,htB⟩,ah.2 ⟨λh6=>?_,λh6=>⟨by rw[Ov];omega,hp.1,hp.2,?_,?_⟩⟩⟩
   .exfalso;rw[hcz]at h6;simp at h6
   all_goals rw[hbf];rw[hbf]at fin;exact fin
 .have h4:¬(labS (mv,mo,mq,mg,()) T I).2.2.1=16:=A92 h4;rw[if_neg (λp=>h4 p.1),if_neg h4]at hS
  have hp:=ami (l:=th) (id:=id) ⟨T,lH,hid⟩;have hbf:bf=[]:=hV.2.1;have fin:=sU hS;refine⟨⟨hb,htB⟩,ah.2 ⟨λh6=>?_,λh6=>⟨hT.1,hp.1,hp.2,?_,?_⟩⟩⟩
  .exfalso;rw[hcz]at h6;simp at h6
  all_goals rw[hbf];rw[hbf]at fin;exact fin
theorem KX:aU aS.gd 21 Ox:=
 dY (cx:=aS) (n:=131) (cl:=[(32,tN),(40,Om),(41,Ul),(46,Uj),(42,Uh),(23,ab7),(48,ab5),(50,acs),(51,abm),(52,Jc),(49,Cm)]) (rc:=[.data Ud,.keep,.keep]) au ⟨Uf,KR,Um,Uk,Ui,ahd,ahb,ahl,agi,DK,rG,trivial⟩ Tryz.func21 λd hd=>by
  obtain⟨⟨vs,ms,cs,fs,ts,⟨⟩⟩,bound,⟨th,⟨mv,mo,mq,mg,⟨⟩⟩,bf,⟨⟩⟩,id,⟨⟩⟩:=d;exact aP (λ_=>none) (amj vs ms cs fs ts bound th mv mo mq mg bf id hd) (by kernel_rfl)
def mM(e:Int) (fs:List FD) (bound:Int) (ts:List SD):List TD:=ts.zipIdx.map λp=>(newS e fs bound (p.2:Int) p.1.1 p.1.2.1).1
def pG(vs:List VD) (ms cs:List ByteArray) (fs:List FD) (ts:List SD) (bound:Int):ZD×Int:=
 if bQ (aC vs ms cs fs ts).1 bound≠0 then(zZ,bQ (aC vs ms cs fs ts).1 bound) else((mM (aC vs ms cs fs ts).1 fs bound ts,(pF vs ms cs fs ts).1,[],()),0)
theorem acv{e:Int}{fs:List FD}{bound:Int}{ts:List SD}{k:Nat}{d:SD} (h:ts[k]?=some d):mM e fs bound (ts.take (k+1))=mM e fs bound (ts.take k)++[(newS e fs bound (k:Int) d.1 d.2.1).1]:=by
 have hk:k < ts.length:=(A8.1 h).1;unfold mM;rw[OJ,h,adu,List.zipIdx_append,OQ,lu,Jj (by omega)]
 simp
theorem KY(e:Int) (fs:List FD) (bound:Int) (ts:List SD):(mM e fs bound ts).length=ts.length:=by
 unfold mM;rw[WR,List.length_zipIdx]
theorem DR(h:Dy fs ts=0):(1<=ts.length/\ts.length<=8)/\∀(k:Nat) d,ts[k]?=some d->(0<=d.1/\d.1 < (fs.length:Int))/\bU d.2.1=true:=by
 unfold Dy at h;split at h
 .cases h
 rename_i q;refine⟨by omega,λk d hd=>?_⟩
 have hn:ts.find? (λt=>decide (Dx fs.length t≠0))=none:=by
  cases hf:ts.find? (λt=>decide (Dx fs.length t≠0)) with
  | none=>rfl
  | some t=>
    rw[hf]at h;have:=Lu hf;simp at this;exact absurd h this
 have hz:=WY.1 hn d (gZ hd);have hz:Dx fs.length d=0:=by simpa using hz
 unfold Dx at hz;split at hz
 .cases hz
 .split at hz
  .rename_i a b;exact⟨by omega,b⟩
  .cases hz
theorem BL{k:Nat}{d:SD} (hs:bQ (aC vs ms cs fs ts).1 bound=0) (hd:ts[k]?=some d):(newS (aC vs ms cs fs ts).1 fs bound (k:Int) d.1 d.2.1).2=0:=by
 have ht:=DR (lQ (fG.1 hs).1).2.2;obtain⟨h1,h2⟩:=ht.2 k d hd;have hk:k < ts.length:=(A8.1 hd).1;have hk:k < 8:=by omega
 have hdp:¬aQ (k:Int) < 0:=by
  unfold aQ dQ;rw[if_neg (by omega),if_pos (by omega)];omega
 unfold newS;rw[if_neg (by omega),if_neg hdp,if_neg (by omega),if_neg (by rw[h2];simp)]
theorem acw(hs:bQ (aC vs ms cs fs ts).1 bound=0):(pF vs ms cs fs ts).2=0:=by
 unfold pF;rw[if_pos (fG.1 hs).1]
theorem Ut{S:ZD×Int}{a:ZD} (h:S=(a,c)):rT [BI S.1,cI S.2] [BI a,cI c]:=by subst h;exact⟨rfl,rfl⟩
abbrev Uu:CT:={ ps:=[oW,.int .i64],pre:=λd=>bnd (d.1,()),res:=λd=>([],.iJ [BI ((pG d.1.1 d.1.2.1 d.1.2.2.1 d.1.2.2.2.1 d.1.2.2.2.2.1 d.2.1).1),.c (.v (.int .i64 ((pG d.1.1 d.1.2.1 d.1.2.2.1 d.1.2.2.2.1 d.1.2.2.2.2.1 d.2.1).2)))]) }
abbrev aoM(vs:List VD) (ms cs:List ByteArray) (fs:List FD) (ts:List SD) (bound:Int):Nat->Option (St->jK):=λk=>match k with
 | 9=>some λ_=>.inv { α:=Nat,sD:=[(3,0,56,dS)],slots:=λk=>[(35,.c (.v (.int .i64 k)))],res:=λk=>[(4,.row 56 dS (mM (aC vs ms cs fs ts).1 fs bound (ts.take k)))],inv:=λk=>k<=ts.length,meas:=λk=>ts.length - k }
 | _=>none
theorem amk(vs:List VD) (ms cs:List ByteArray) (fs:List FD) (ts:List SD) (bound:Int) (aG:Uu.pre ((vs,ms,cs,fs,ts,()),bound,())):
 let z7:=bnd ((vs,ms,cs,fs,ts,()),());let z9:=aC vs ms cs fs ts;let z8:=pG vs ms cs fs ts bound;let z4:=[BI (z8.fst),cI (z8.snd)];let z10:=pF vs ms cs fs ts;let z11:=bP vs ms cs fs ts;let z3:=[SC.sl I6 z10.fst.fst,SC.sl I6 z10.fst.snd.fst,SC.sl I6.sl z10.fst.snd.snd.fst,SC.sl I6 z10.fst.snd.snd.snd.fst];let z2:=[SC.row (Nat.succ 0).succ.succ.succ,SC.sl I6 z10.fst.fst,SC.sl I6 z10.fst.snd.fst,SC.sl I6.sl z10.fst.snd.snd.fst,SC.sl I6 z10.fst.snd.snd.snd.fst,iN];let z6:=λ(x:Nat)=>mM z9.fst fs bound (List.take x ts);let z1:=λ(x:Nat)=>[g0 z11,g0 (ak.blk 37 uZ),g0 (ak.blk 34 z3),g0 (ak.blk 37 z2),g0 (ak.row 56 dS (z6 x))];let z5:=λ(x:Nat) (d:Int×(I6.pair Sh.unit).den)=>newS z9.fst fs bound (x:Int) d.fst d.snd.fst;z7/\br (!decide (bQ z9.fst bound=0)) (rT z4 [BI ([],([],[],[],[],()),[],()),cI (bQ z9.fst bound)]) (z7/\br (!decide (z10.snd=0)) (rT z4 [BI ([],([],[],[],[],()),[],()),cI (z10.snd)]) ((∃x,x<=ts.length/\(cI 0=cI (x:Int)/\True)/\[g0 z11,g0 (ak.blk 37 uZ),g0 (ak.blk 34 z3),g0 (ak.blk 37 z2),g0 (ak.row 56 dS [])]=(z1 x))/\∀(x:Nat),x<=ts.length->br (decide ((x:Int) < (ts.length:Int))) ((0<=(x:Int)/\(x:Int) < (ts.length:Int))/\∀(d:Int×(I6.pair Sh.unit).den),ts[(x:Int).toNat]?=some d->(z7/\(x:Int)<=(9223372036854775807:Int))/\br (!decide ((z5 x d).snd=0)) (rT z4 [BI ([],([],[],[],[],()),[],()),cI ((z5 x d).snd)]) (oz ((z6 x).length+[(z5 x d).fst].length) 152/\iR ((x:Int)+(1:Int))/\∃x',x'<=ts.length/\(cI ((x:Int)+(1:Int))=cI (x':Int)/\True)/\[g0 z11,g0 (ak.blk 37 uZ),g0 (ak.blk 34 z3),g0 (ak.blk 37 z2),g0 (ak.row 56 dS (mM z9.fst fs bound (List.take x ts)++[(z5 x d).fst]))]=(z1 x')/\ts.length - x' < ts.length - x)) (rT z4 [BI (mM z9.fst fs bound (List.take x ts),(z10.fst.fst,z10.fst.snd.fst,z10.fst.snd.snd.fst,z10.fst.snd.snd.snd.fst,()),[],()),cI 0]))):=by
 conv=>zeta
 delta uZ iR iN;have hb:bnd ((vs,ms,cs,fs,ts,()),()):=aG;refine⟨hb,ah.2 ⟨λh=>Ut ?_,λh=>⟨hb,ah.2 ⟨λh1=>?_,λh1=>⟨⟨0,by omega,⟨rfl,trivial⟩,rfl⟩,λk hk=>ah.2 ⟨λg=>?_,λg=>Ut ?_⟩⟩⟩⟩⟩⟩
 .have h:bQ (aC vs ms cs fs ts).1 bound≠0:=by simpa using h
  unfold pG;rw[if_pos h];rfl
 all_goals have h:bQ (aC vs ms cs fs ts).1 bound=0:=by simpa using h
 .exfalso;rw[acw h]at h1;simp at h1
 all_goals have ht:=(DR (lQ (fG.1 h).1).2.2).1
 .simp only[dN]at g;refine⟨⟨by omega,by omega⟩,λd hd=>⟨⟨hb,by omega⟩,ah.2 ⟨λh2=>?_,λh2=>?_⟩⟩⟩
  all_goals have hd:ts[k]?=some d:=hd
  .exfalso;rw[BL h hd]at h2;simp at h2
  .have e:=@acv (aC vs ms cs fs ts).1 fs bound ts k d hd;have hlen:=KY (aC vs ms cs fs ts).1 fs bound (ts.take k);rw[lu]at hlen;refine⟨dZ.2 (by rw[hlen];simp only[sV,Lp];omega),ay.2 (by omega),k+1,by omega,⟨rfl,trivial⟩,by rw[e],by omega⟩
 .simp only[eH]at g;rw[xg (i:=k) (by omega)]
  unfold pG;rw[if_neg (by omega)]
theorem Uw:aU cxR.gd 12 Uu:=
 dY (cx:=cxR) (n:=63) (cl:=[(32,tN),(33,QU),(34,TP)]) (rc:=[.data Ud,.keep]) au ⟨Uf,agP,TQ,trivial⟩ Tryz.func12 λd hd=>by
  obtain⟨⟨vs,ms,cs,fs,ts,⟨⟩⟩,bound,⟨⟩⟩:=d;exact aP (aoM vs ms cs fs ts bound) (amk vs ms cs fs ts bound hd) (by kernel_rfl)
def Hr(m n:MD):Prop:=m.1.length=n.1.length/\m.2.1.length=n.2.1.length/\m.2.2.1.length=n.2.2.1.length
theorem Oy:∀(qs:List (List Int)) (k:Nat) (d r:List Int),qs[k]?=some d->(r++qs.flatten).Perm (d++(qs.set k r).flatten)
 | [],k,d,r,h=>by simp at h
 | q :: qs,0,d,r,h=>by
   simp only[UQ,WO]at h;subst h;simp only[Xf,OO];exact adn _ _ _
 | q :: qs,k+1,d,r,h=>by
   rw[ado]at h;have ih:=Oy qs k d r h;simp only[aiy,OO];exact(adn _ _ _).trans ((ih.append_left q).trans (adn _ _ _))
theorem acy{x v:Int} (h:dK m=true) (h0:(writeM m x v).2=0):dK (writeM m x v).1=true/\Hr (writeM m x v).1 m:=by
 obtain⟨vs,os,qs,sg,⟨⟩⟩:=m;obtain⟨q1,q2,q3,q4,q5,q6,q7,q8⟩:vs.length<=8/\os.length<=4/\qs.length<=4/\SS sg/\(∀v∈vs,bU v=true)/\(∀o∈os,-1<=o)/\(∀x∈sg++qs.flatten,0<=x)/\(sg++qs.flatten).Nodup:=dW.1 h;unfold writeM at h0 ⊢;split at h0
 .rename_i g;split at h0
  .rename_i hv;rw[if_pos g,if_pos hv];refine⟨dW.2 ⟨by rw[wK];exact q1,q2,q3,q4,λy hy=>?_,q6,q7,q8⟩,by rw[wK],rfl,rfl⟩
   rcases Jg hy with hy | rfl
   .exact q5 y hy
   .exact hv
  .cases h0
 .rename_i g;exact absurd h0 g
theorem Gq{i f t:Int} (h:dK m=true) (ht:-1<=t) (h0:(iL m i id f t).2=0):dK (iL m i id f t).1=true/\Hr (iL m i id f t).1 m:=by
 obtain⟨vs,os,qs,sg,⟨⟩⟩:=m;obtain⟨q1,q2,q3,q4,q5,q6,q7,q8⟩:vs.length<=8/\os.length<=4/\qs.length<=4/\SS sg/\(∀v∈vs,bU v=true)/\(∀o∈os,-1<=o)/\(∀x∈sg++qs.flatten,0<=x)/\(sg++qs.flatten).Nodup:=dW.1 h;unfold iL at h0 ⊢;split at h0
 .rename_i g;split at h0
  .cases h0
  .rename_i g1;split at h0
   .rename_i g2;rw[if_pos g,if_neg g1,if_pos g2];refine⟨dW.2 ⟨q1,by rw[wK];exact q2,q3,q4,q5,λy hy=>?_,q7,q8⟩,rfl,by rw[wK],rfl⟩
    rcases Jg hy with hy | rfl
    .exact q6 y hy
    .exact ht
   .cases h0
 .rename_i g;exact absurd h0 g
theorem aml(h:dK m=true) (h0:(rJ m c id).2=0):dK (rJ m c id).1=true/\Hr (rJ m c id).1 m:=by
 obtain⟨vs,os,qs,sg,⟨⟩⟩:=m;unfold rJ at h0 ⊢;split at h0
 .rename_i g;split at h0
  .cases h0
  .rename_i g1;split at h0
   .cases h0
   .rename_i g2;rw[if_pos g,if_neg g1,if_neg g2];have hg:=(dV.1 g).2;have hg:0<=c/\c < (qs.length:Int):=hg;have gX:c.toNat < qs.length:=by omega
    have hk:qs[c.toNat]?=some (qs[c.toNat]?.getD []):=by rw[kQ gX];rfl
    have:=acn h hk (id:=id) (by omega)
    refine⟨?_,rfl,rfl,by rw[wK]⟩
    show dK (vs,os,qs.set c.toNat (qs[c.toNat]?.getD []++[id]),sg,())=true;rw[this];simpa using g2
 .rename_i g;exact absurd h0 g
theorem aik{n:Int} (h:dK m=true) (h0:(rP m c n).2.2=0):dK (rP m c n).1=true/\Hr (rP m c n).1 m:=by
 obtain⟨vs,os,qs,sg,⟨⟩⟩:=m;obtain⟨q1,q2,q3,q4,q5,q6,q7,q8⟩:vs.length<=8/\os.length<=4/\qs.length<=4/\SS sg/\(∀v∈vs,bU v=true)/\(∀o∈os,-1<=o)/\(∀x∈sg++qs.flatten,0<=x)/\(sg++qs.flatten).Nodup:=dW.1 h;unfold rP at h0 ⊢;split at h0
 .rename_i g;rw[if_pos g];have hg:0<=c/\c < (qs.length:Int):=(dV.1 g).2;have gX:c.toNat < qs.length:=by omega
  have hk:qs[c.toNat]?=some (qs[c.toNat]?.getD []):=by rw[kQ gX];rfl
  generalize (kC n (((vs,os,qs,sg,()):MD).2.2.1[c.toNat]?.getD []).length).toNat=j;show dK (vs,os,qs.set c.toNat ((qs[c.toNat]?.getD []).drop j),jR sg ((qs[c.toNat]?.getD []).take j),())=true/\Hr (vs,os,qs.set c.toNat ((qs[c.toNat]?.getD []).drop j),jR sg ((qs[c.toNat]?.getD []).take j),()) _;generalize qs[c.toNat]?.getD []=q at hk;have p1:=Oy qs c.toNat q (q.drop j) hk;have p2:∀F:List Int,(q++F).Perm (q.drop j++(q.take j++F)):=by
   intro F
   conv=>lhs;rw[<-WJ j q,Au]
   exact adn _ _ _
  have p3:=(List.perm_append_left_iff _).1 (p1.trans (p2 _));obtain⟨a1,a2⟩:=DI (q.take j) sg q4;have p4:(sg++qs.flatten).Perm ((sg++q.take j)++(qs.set c.toNat (q.drop j)).flatten):=by
   rw[Au];exact p3.append_left sg
  have q8':=p4.nodup_iff.1 q8;have hn:(sg++q.take j).Nodup:=(List.nodup_append.1 q8').1;have hp:(jR sg (q.take j)).Perm (sg++q.take j):=(List.perm_ext_iff_of_nodup (a1.imp λh=>by omega) hn).2 λx=>by rw[a2 x,CX]
  have hp2:=hp.append_right (qs.set c.toNat (q.drop j)).flatten;exact⟨dW.2 ⟨q1,q2,by rw[wK];exact q3,a1,q5,q6,λx hx=>q7 x (p4.mem_iff.2 (hp2.mem_iff.1 hx)),hp2.nodup_iff.2 q8'⟩,rfl,rfl,by rw[wK]⟩
 .rename_i g;exact absurd h0 g
theorem aho(h:dK m=true) (h0:(kY m id).2=0):dK (kY m id).1=true/\Hr (kY m id).1 m:=by
 obtain⟨vs,os,qs,sg,⟨⟩⟩:=m;obtain⟨q1,q2,q3,q4,q5,q6,q7,q8⟩:vs.length<=8/\os.length<=4/\qs.length<=4/\SS sg/\(∀v∈vs,bU v=true)/\(∀o∈os,-1<=o)/\(∀x∈sg++qs.flatten,0<=x)/\(sg++qs.flatten).Nodup:=dW.1 h;unfold kY at h0 ⊢;split at h0
 .cases h0
 .rename_i g;split at h0
  .cases h0
  .rename_i g2;rw[if_neg g,if_neg g2];have e:nM (aY sg) [id] false=sg.filter (λx=>decide (x≠id)):=(FW q4).symm
   show dK (vs,os,qs,nM (aY sg) [id] false,())=true/\_;rw[e];have sub:(sg.filter (λx=>decide (x≠id))++qs.flatten).Sublist (sg++qs.flatten):=(List.filter_sublist).append_right _
   exact⟨dW.2 ⟨q1,q2,q3,q4.filter _,q5,q6,λx hx=>q7 x (sub.subset hx),sub.nodup q8⟩,rfl,rfl,rfl⟩
theorem QZ{a b c:MD} (h:Hr a b) (g:Hr b c):Hr a c:=⟨h.1.trans g.1,h.2.1.trans g.2.1,h.2.2.trans g.2.2⟩
theorem amm{e:ED} (h:dK m=true) (h0:0<=e.1) (h1:(jG m e).2=0):dK (jG m e).1=true/\Hr (jG m e).1 m:=by
 unfold jG at h1 ⊢;split at h1
 .rename_i g;rw[if_pos g];exact acy h h1
 rename_i g1;rw[if_neg g1];split at h1
 .rename_i g;rw[if_pos g];exact Gq h (by omega) h1
 rename_i g2;rw[if_neg g2];split at h1
 .rename_i g;rw[if_pos g];exact Gq h (by omega) h1
 rename_i g3;rw[if_neg g3];split at h1
 .rename_i g;rw[if_pos g];split at h1
  .rename_i g';rw[if_pos g'];have a:=Gq h (show(-1:Int)<=-1 by omega) g'
   have b:=aml a.1 h1;exact⟨b.1,QZ b.2 a.2⟩
  .rename_i g';exact absurd h1 g'
 rename_i g4;rw[if_neg g4];split at h1
 .rename_i g;rw[if_pos g];exact aho h h1
 rename_i g5;rw[if_neg g5];split at h1
 .rename_i g;rw[if_pos g];exact aik h h1
 rename_i g6;rw[if_neg g6];split at h1
 .rename_i g;rw[if_pos g];exact aik h h1
 rename_i g7;rw[if_neg g7];exact⟨h,rfl,rfl,rfl⟩
theorem ahp{p:PD}{e:ED} (h:jC p m=true) (h0:0<=e.1) (h1:(jG m e).2=0):jC p (jG m e).1=true:=by
 have hv:=wu h;obtain⟨a,b1,b2,b3⟩:=amm hv.2.1 h0 h1;unfold jC;rw[a];simp only[bY,dN];exact⟨⟨⟨⟨hv.1,trivial⟩,b1.trans hv.2.2.1⟩,b2.trans hv.2.2.2.1⟩,b3.trans hv.2.2.2.2⟩
theorem Q5{u:TD} (h:jZ l) (hu:u.1=id) (hn:∀t∈l,t.1≠id):jZ (insL l id u):=by
 have h:l.Pairwise λa b=>a.1 < b.1:=Xg.1 h
 refine Xg.2 ?_;unfold insL;have dw:∀{l:List TD},l.Pairwise (λa b=>a.1 < b.1)->∀t∈l.dropWhile (λt=>decide (t.1 < id)),id<=t.1:=by
  intro l
  induction l with
  | nil=>intro _ t ht;cases ht
  | cons a l ih=>
    intro hp t ht;rw[WL]at hp
    by_cases q:a.1 < id
    .rw[List.dropWhile_cons_of_pos (by simpa using q)]at ht
     exact ih hp.2 t ht
    .rw[List.dropWhile_cons_of_neg (by simpa using q)]at ht
     rcases lU.1 ht with rfl | ht
     .omega
     .have:=hp.1 t ht;omega
 have tw:∀{l:List TD},∀t∈l.takeWhile (λt=>decide (t.1 < id)),t.1 < id:=by
  intro l
  induction l with
  | nil=>intro t ht;cases ht
  | cons a l ih=>
    intro t ht;rw[UU]at ht;split at ht
    .rename_i q;rcases lU.1 ht with rfl | ht
     .simpa using q
     .exact ih t ht
    .cases ht
 have e:=A95 (p:=λt=>decide (t.1 < id)) (l:=l)
 have h2:=h;rw[<-e,UR]at h2;have dm:∀t∈l.dropWhile (λt=>decide (t.1 < id)),id < t.1:=by
  intro t ht;have a:=dw h t ht;have b:=hn t (by rw[<-e];exact aiw _ ht)
  omega
 refine UR.2 ⟨UR.2 ⟨h2.1,List.pairwise_singleton _ _,λa ha b hb=>?_⟩,h2.2.1,λa ha b hb=>?_⟩
 .simp at hb;subst hb;have:=tw a ha;omega
 .have q:=dm b hb;rcases CX.1 ha with ha | ha
  .have:=tw a ha;omega
  .simp at ha;subst ha;omega
theorem amn(h:Ar vs ms cs fs=0):(vs.length<=8/\ms.length<=4/\cs.length<=4)/\∀v∈vs,bU v.2.1=true:=by
 unfold Ar at h;split at h
 .cases h
 .rename_i q;split at h
  .rename_i g;exact⟨by omega,λv hv=>Q9.1 g v hv⟩
  .cases h
theorem ahq(h:(aC vs ms cs fs ts).1=0):jC (vs,ms,cs,fs,ts,()) (pF vs ms cs fs ts).1=true:=by
 obtain⟨⟨h1,h2,h3⟩,hv⟩:=amn (lQ h).1;unfold pF;rw[if_pos h];have hf:dK (vs.map (·.2.1),List.replicate ms.length (-1),List.replicate cs.length [],[],())=true:=by
  refine dW.2 ⟨by rw[WR];exact h1,by rw[Lj];exact h2,by rw[Lj];exact h3,List.Pairwise.nil,λv hv'=>?_,λo ho=>?_,?_,?_⟩
  .obtain⟨x,hx,rfl⟩:=Jl.1 hv';exact hv x hx
  .rw[(List.mem_replicate.1 ho).2];omega
  all_goals simp
 unfold jC;simp only[hf,h,WR,Lj,decide_true,Bool.and_self]
theorem Ae{k:Nat} (h:(mM e fs bound ts)[k]?=some t):∃d,ts[k]?=some d/\t=(newS e fs bound (k:Int) d.1 d.2.1).1:=by
 unfold mM at h;rw[wJ,ads]at h;cases hd:ts[k]? with
 | none=>rw[hd]at h;cases h
 | some d=>rw[hd]at h;simp at h;exact⟨d,rfl,h.symm⟩
theorem BM{fn r:Int} (h:(newS e fs bound id fn r).2=0):(newS e fs bound id fn r).1.1=id:=by
 unfold newS at h ⊢
 split at h
 .rename_i q;exact absurd h q
 split at h
 .cases h
 split at h
 .cases h
 split at h
 .cases h
 rename_i q1 q2 q3 q4;rw[if_neg q1,if_neg q2,if_neg q3,if_neg q4];exact(uU _ _ _ _).1
def Ht(l:List TD):Prop:=∀t∈l,t.2.2.2.1.length=8
theorem acz(hs:bQ (aC vs ms cs fs ts).1 bound=0):VS vs ms cs fs ts bound (mM (aC vs ms cs fs ts).1 fs bound ts) (pF vs ms cs fs ts).1 []/\Ht (mM (aC vs ms cs fs ts).1 fs bound ts):=by
 have hm:∀t∈mM (aC vs ms cs fs ts).1 fs bound ts,rO ms fs bound t/\t.2.2.2.1.length=8:=by
  intro t ht;obtain⟨k,hk⟩:=A90.1 ht;obtain⟨d,hd,rfl⟩:=Ae hk;exact(abn (BL hs hd)).2
 refine⟨⟨ahq (fG.1 hs).1,rfl,λt ht=>⟨hs,(hm t ht).1⟩,QW λj a b ha hb=>?_⟩,λt ht=>(hm t ht).2⟩
 obtain⟨d,hd,rfl⟩:=Ae ha;obtain⟨d',hd',rfl⟩:=Ae hb;rw[BM (BL hs hd),BM (BL hs hd')];omega
theorem KZ{bf:List BD} (h:VS vs ms cs fs ts bound l m bf) (h8:Ht l) (hl:l.length<=1000000):iF l:=
 ⟨hl,λt ht=>⟨(Oa (h.2.2.1 t ht).1 (h.2.2.1 t ht).2).1,(Oa (h.2.2.1 t ht).1 (h.2.2.1 t ht).2).2,h8 t ht⟩⟩
theorem acA{k:Nat}{u:TD} (h:jZ l) (hk:l[k]?=some t) (hu:u.1=t.1):jZ (l.set k u):=by
 unfold jZ at h ⊢
 rw[List.map_set];have e:(l.map (·.1))[k]?=some t.1:=by rw[wJ,hk];rfl
 rw[show(l.map (·.1)).set k u.1=l.map (·.1) by rw[hu];exact ig e]
 exact h
theorem BN{z:ZD} (h:(fH vs ms cs fs ts bound z id).2.2=0):
 bQ (aC vs ms cs fs ts).1 bound=0/\VS vs ms cs fs ts bound z.1 z.2.1 z.2.2.1/\∃t i,jo (aC vs ms cs fs ts).1 ms fs z.1 id=(t,i,true)/\CG z.1 z.2.1 t i=true/\(jG z.2.1 (labS z.2.1 t i)).2=0 /\
  ¬((labS z.2.1 t i).2.2.1=16/\0<=gy (λu=>decide (u.1=(labS z.2.1 t i).2.2.2.1)) z.1) /\
  fH vs ms cs fs ts bound z id=((stT (if(labS z.2.1 t i).2.2.1=16 then insL z.1 (labS z.2.1 t i).2.2.2.1 (newS (aC vs ms cs fs ts).1 fs bound (labS z.2.1 t i).2.2.2.1 i.2.2.2.2.1 (t.2.2.2.1.getD i.2.2.1.toNat 0)).1 else z.1) id
  (kE (aC vs ms cs fs ts).1 ms fs bound t (lS i (labS z.2.1 t i))).1,(jG z.2.1 (labS z.2.1 t i)).1,[],()),labS z.2.1 t i,0):=by
 have h1:bQ (aC vs ms cs fs ts).1 bound=0:=by
  refine Gw.1 λq=>?_
  unfold fH at h;rw[if_pos q]at h;exact q h
 have h2:vsB vs ms cs fs ts bound z.1 z.2.1 z.2.2.1=true:=by
  refine Gw.1 λq=>?_
  unfold fH at h;rw[if_neg (by omega),if_pos (by simpa using q)]at h;cases h
 cases hr:jo (aC vs ms cs fs ts).1 ms fs z.1 id with
 | mk t x=>
   obtain⟨i,ok⟩:=x;rw[DN h1 h2 hr]at h ⊢
   split at h
   .cases h
   rename_i g1;split at h
   .cases h
   rename_i g2;split at h
   .cases h
   rename_i g3;rw[if_neg g1,if_neg g2,if_neg g3];simp only[Bool.not_eq_false,bY]at g1;exact⟨h1,iT.1 h2,t,i,by rw[g1.1],g1.2,Gw.1 g2,g3,rfl⟩
theorem acB{z:ZD} (h:(fH vs ms cs fs ts bound z id).2.2=0) (h8:Ht z.1) (hl:z.1.length<=999999) (hM:bK z.2.1):
 VS vs ms cs fs ts bound (fH vs ms cs fs ts bound z id).1.1 (fH vs ms cs fs ts bound z id).1.2.1 (fH vs ms cs fs ts bound z id).1.2.2.1/\Ht (fH vs ms cs fs ts bound z id).1.1:=by
 obtain⟨hs,hV,t,i,hr,he,hf,hd,e⟩:=BN h;rw[e];have hT:=KZ hV h8 (by omega)
 obtain⟨hm,hid,hlab,hat,hsu,hvl⟩:=BK hV hM hT hr;have hch:i.1=21->(bW t.1 t.2.2.2.2.2.1).2=true:=λq=>(qG hs hvl hsu hat q (h8 t hm)).1
 have hcz:=Ac hs hvl hsu (Aa (m:=z.2.1) (i:=i) hlab.1.2.1 hch);obtain⟨_,c1,c2,_,c3,_⟩:=QI (h8 t hm) hcz;have h0:0<=t.1:=by
  have:=gY hvl;obtain⟨x,fn,pc,rg,st,ch,ph,su,fa,hd,u⟩:=t;exact(jX this.1).1
 have hL:VS vs ms cs fs ts bound (if(labS z.2.1 t i).2.2.1=16 then insL z.1 (labS z.2.1 t i).2.2.2.1 (newS (aC vs ms cs fs ts).1 fs bound (labS z.2.1 t i).2.2.2.1 i.2.2.2.2.1 (t.2.2.2.1.getD i.2.2.1.toNat 0)).1 else z.1) (jG z.2.1 (labS z.2.1 t i)).1 [] /\
  Ht (if(labS z.2.1 t i).2.2.1=16 then insL z.1 (labS z.2.1 t i).2.2.2.1 (newS (aC vs ms cs fs ts).1 fs bound (labS z.2.1 t i).2.2.2.1 i.2.2.2.2.1 (t.2.2.2.1.getD i.2.2.1.toNat 0)).1 else z.1) /\
  ∃u∈(if(labS z.2.1 t i).2.2.1=16 then insL z.1 (labS z.2.1 t i).2.2.2.1 (newS (aC vs ms cs fs ts).1 fs bound (labS z.2.1 t i).2.2.2.1 i.2.2.2.2.1 (t.2.2.2.1.getD i.2.2.1.toNat 0)).1 else z.1),u.1=id:=by
  have lH:=ahp hV.1 (show 0<=(labS z.2.1 t i).1 by rw[BJ];exact h0) hf
  split
  .rename_i g;have hi:=(zY hlab.2.2.2.1).1 g;obtain⟨s1,s2⟩:=qG hs hvl hsu hat hi (h8 t hm);rw[<-wB (m:=z.2.1) hi]at s2;obtain⟨_,n1,n2⟩:=abn s2;have n3:=BM s2;have hmm:∀x∈insL z.1 (labS z.2.1 t i).2.2.2.1 (newS (aC vs ms cs fs ts).1 fs bound (labS z.2.1 t i).2.2.2.1 i.2.2.2.2.1 (t.2.2.2.1.getD i.2.2.1.toNat 0)).1,x∈z.1\/x=(newS (aC vs ms cs fs ts).1 fs bound (labS z.2.1 t i).2.2.2.1 i.2.2.2.2.1 (t.2.2.2.1.getD i.2.2.1.toNat 0)).1:=by
    intro x hx;unfold insL at hx;simp only[CX,WM]at hx;rcases hx with(hx | hx) | hx
    .exact .inl ((List.takeWhile_sublist _).subset hx)
    .exact .inr hx
    .exact .inl ((List.dropWhile_sublist _).subset hx)
   refine⟨⟨lH,rfl,λx hx=>⟨hs,?_⟩,Q5 hV.2.2.2 n3 λx hx q=>hd ⟨g,?_⟩⟩,λx hx=>?_,t,Ad hm,hid⟩
   .rcases hmm x hx with hx | rfl
    .exact(hV.2.2.1 x hx).2
    .exact n1
   .have:=(ami (l:=z.1) ⟨x,hx,q⟩);refine Gw.1 λq2=>?_
    have:=WY.1 (o8 q2) x hx;simp[q]at this
   .rcases hmm x hx with hx | rfl
    .exact h8 x hx
    .exact n2
  .exact⟨⟨lH,rfl,hV.2.2.1,hV.2.2.2⟩,h8,t,hm,hid⟩
 generalize (if(labS z.2.1 t i).2.2.1=16 then insL z.1 (labS z.2.1 t i).2.2.2.1 (newS (aC vs ms cs fs ts).1 fs bound (labS z.2.1 t i).2.2.2.1 i.2.2.2.2.1 (t.2.2.2.1.getD i.2.2.1.toNat 0)).1 else z.1)=L at hL
 obtain⟨hL,hL8,u,hu,hui⟩:=hL;have q:0<=gy (λt=>decide (t.1=id)) L:=by
  refine Gw.1 λq=>?_
  have:=WY.1 (o8 q) u hu;simp[hui]at this
 obtain⟨k,v,q1,q2,q3,q4⟩:=nD q;have ek:(fM (gy (λt=>decide (t.1=id)) L) 0).toNat=k:=by rw[q1];unfold fM;split<;>omega
 have hvi:v.1=id:=by simpa using Lu q3
 unfold stT;rw[ek];refine⟨⟨hL.1,rfl,λx hx=>⟨hs,?_⟩,acA hL.2.2.2 q2 (c3.trans (hid.trans hvi.symm))⟩,λx hx=>?_⟩
 .rcases Jg hx with hx | rfl
  .exact(hL.2.2.1 x hx).2
  .exact c1
 .rcases Jg hx with hx | rfl
  .exact hL8 x hx
  .exact c2
def xV:List VD:=[(⟨#[120]⟩,0,())]
def xF:List FD:=[(⟨#[102]⟩,[(1,1,0,0,0,1,0,0,()),(11,2,1,0,0,0,0,1,())],())]
def xT:List SD:=[(0,0,()),(0,0,())]
def xP:PD:=(xV,[],[],xF,xT,())
def xt(id:Int):TD:=(id,0,1,[0,1,0,0,0,0,0,0],0,0,0,1,0,[],())
def xu:TD:=(0,0,2,[0,1,0,0,0,0,0,0],1,0,0,2,0,[],())
def xi:ID:=(11,2,1,0,0,0,0,1,())
def xm(v:Int):MD:=([v],[],[],[],())
def xe(id v:Int):ED:=(id,0,5,0,-1,-1,1,v,v+1,())
theorem ail:(aC xV [] [] xF xT).1=0:=by rfl
theorem acC(h:b=4\/b=32):bQ (aC xV [] [] xF xT).1 b=0:=fG.2 ⟨ail,by omega,by omega⟩
theorem aoN(h:b=4\/b=32):mM (aC xV [] [] xF xT).1 xF b xT=[xt 0,xt 1]:=by
 rcases h with rfl | rfl<;>rfl
theorem aoO:(pF xV [] [] xF xT).1=xm 0:=by rfl
theorem Oz(h:b=4\/b=32):VS xV [] [] xF xT b [xt 0,xt 1] (xm 0) []/\Ht [xt 0,xt 1]:=by
 have:=acz (acC h);rw[aoN h,aoO]at this;exact this
theorem aoP(h:VS xV [] [] xF xT b l m []) (h8:Ht l) (hl:l.length=2):iF l:=KZ h h8 (by omega)
theorem WB(v:Int):bK (xm v):=wz (m:=xm v) rfl
theorem Ux(hV:rO [] xF 32 t) (h1:t.2.2.2.2.2.2.2.1=1):fO (aC xV [] [] xF xT).1 [] xF t=atR xF t.2.1 t.2.2.1:=by
 unfold fO;rw[if_pos ⟨ail,h1,hV⟩]
theorem amo:jo (aC xV [] [] xF xT).1 [] xF [xt 0,xt 1] 0=(xt 0,xi,true):=by
 have hV:=(Oz (.inr rfl)).1.2.2.1 (xt 0) (by simp)
 unfold jo;rw[show nN [xt 0,xt 1] 0=some (xt 0) from rfl]
 show(xt 0,(fO _ _ _ _).1,(fO _ _ _ _).2)=_;rw[Ux hV.2 rfl];rfl
theorem aoQ(id:Int):labS (xm 0) (xt id) xi=xe id 0:=by rfl
theorem aoR:jG (xm 0) (xe 0 0)=(xm 1,0):=by
 have hf:dK (xm 0)=true:=(wu (Oz (.inl rfl)).1.1).2.1;unfold jG;rw[if_pos (.inl rfl)];unfold writeM;rw[if_pos (dV.2 ⟨hf,by decide,by decide⟩),if_pos (show bU (xe 0 0).2.2.2.2.2.2.2.2.1=true from rfl)]
 rfl
theorem aoS(h:b=4\/b=32):(kE (aC xV [] [] xF xT).1 [] xF b (xt 0) 0).1=xu:=by
 have hV:=(Oz h).1.2.2.1 (xt 0) (by simp)
 unfold kE;rw[if_neg (by rw[acC h];simp),if_neg (by simpa using hV.2),if_neg (by decide),if_neg (by decide)]
 rcases h with rfl | rfl<;>rfl
theorem acD(h:b=4\/b=32):fH xV [] [] xF xT b ([xt 0,xt 1],xm 0,[],()) 0=(([xu,xt 1],xm 1,[],()),xe 0 0,0):=by
 rw[DN (acC h) (iT.2 (Oz h).1) amo];show(if(true && CG [xt 0,xt 1] (xm 0) (xt 0) xi)=false then _ else if(jG (xm 0) (labS (xm 0) (xt 0) xi)).2≠0 then _ else if(labS (xm 0) (xt 0) xi).2.2.1=16/\_ then _ else _)=_
 rw[aoQ,aoR,show CG [xt 0,xt 1] (xm 0) (xt 0) xi=true by rfl]
 rw[if_neg (by simp),if_neg (by simp),if_neg (by rintro⟨h,_⟩;exact absurd h (by decide)),if_neg (by decide)]
 rw[show lS xi (xe 0 0)=0 by rfl,aoS h]
 rfl
theorem ahr(h:b=4\/b=32):VS xV [] [] xF xT b [xu,xt 1] (xm 1) []/\Ht [xu,xt 1]:=by
 have:=acB (vs:=xV) (ms:=[]) (cs:=[]) (fs:=xF) (ts:=xT) (bound:=b) (id:=0) (z:=([xt 0,xt 1],xm 0,[],())) (by rw[acD h]) (Oz h).2 (by simp) (WB 0)
 rw[acD h]at this;exact this
theorem amq:fZ xV [] [] xF xT [xt 0,xt 1] (xm 0) []=[0,1]:=by
 have hV:=(Oz (.inr rfl)).1;unfold fZ;rw[if_pos (iT.2 hV)];have e:∀i,rO [] xF 32 (xt i)->WA (aC xV [] [] xF xT).1 [] xF [xt 0,xt 1] (xm 0) (xt i)=true:=by
  intro i hi;unfold WA;rw[Ux hi rfl];rfl
 unfold zW;rw[aiu (e 0 (hV.2.2.1 _ (by simp)).2),aiu (e 1 (hV.2.2.1 _ (by simp)).2)]
 rfl
theorem amr:fZ xV [] [] xF xT [xu,xt 1] (xm 1) []=[1]:=by
 have hV:=(ahr (.inr rfl)).1;unfold fZ;rw[if_pos (iT.2 hV)];have e:WA (aC xV [] [] xF xT).1 [] xF [xu,xt 1] (xm 1) (xt 1)=true:=by
  unfold WA;rw[Ux (hV.2.2.1 _ (by simp)).2 rfl];rfl
 have e2:WA (aC xV [] [] xF xT).1 [] xF [xu,xt 1] (xm 1) xu=false:=by
  unfold WA fO;rw[if_neg (by rintro⟨_,h,_⟩;exact absurd h (by decide))]
  rfl
 unfold zW;rw[List.filter_cons_of_neg (by rw[e2];simp),aiu e]
 rfl
theorem aoT:uY xV [] [] xF xT [xu,xt 1] (xm 1) [] 1=(xe 1 1,true):=by
 have hV:=(ahr (.inr rfl)).1;have hr:jo (aC xV [] [] xF xT).1 [] xF [xu,xt 1] 1=(xt 1,xi,true):=by
  unfold jo;rw[show nN [xu,xt 1] 1=some (xt 1) from rfl]
  show(xt 1,(fO _ _ _ _).1,(fO _ _ _ _).2)=_;rw[Ux (hV.2.2.1 _ (by simp)).2 rfl];rfl
 unfold uY;rw[if_pos (iT.2 hV),hr];rfl
abbrev ain:CT:={ ps:=[],pre:=λd=>True,res:=λd=>([],.one (iH oW xP)) }
abbrev aoU  : Nat->Option (St->jK):=λ_=>none
theorem ams :
 let z1:=((0:Int),(0:Int),());rE (bg.one (SV.agg [SC.sl Hg xV,SC.sl Sh.str [],SC.sl Sh.str [],SC.sl Dw xF,SC.sl mO xT])) (bg.one (SV.agg [SC.sl Hg [({ data:=#[(120:UInt8)]:ByteArray },(0:Int),())],SC.sl Sh.str [],SC.sl Sh.str [],SC.sl Dw [({ data:=#[(102:UInt8)]:ByteArray },[((1:Int),(1:Int),(0:Int),(0:Int),(0:Int),(1:Int),(0:Int),(0:Int),()),((11:Int),(2:Int),(1:Int),(0:Int),(0:Int),(0:Int),(0:Int),(1:Int),())],())],SC.sl mO [z1,z1]])):=by
 conv=>zeta
 exact⟨rfl,rfl⟩
theorem ahs:aU aS.gd 31 ain:=
 dY (cx:=aS) (n:=14) (cl:=[]) (rc:=[.data oW]) au trivial Tryz.func31 λd hd=>by
  obtain⟨⟩:=d;exact aP (aoU ) (ams ) (by kernel_rfl)
abbrev acE:CT:={ ps:=[.sl (.int .i64),.sl (.int .i64)],pre:=λd=>d.1.length<=1000000,res:=λd=>([],vB (og d.1 d.2.1)) }
abbrev aoV(l m:List Int):Nat->Option (St->jK):=λk=>match k with
 | 4=>some λ_=>.inv { α:=Nat,slots:=λk=>[(5,.c (.v (.int .i64 k)))],res:=λk=>[],inv:=λk=>k<=(l).length/\∀j < k,l[j]?=m[j]?,meas:=λk=>(l).length - k }
 | _=>none
theorem amu(l m:List Int) (aG:acE.pre (l,m,())):
 let z1:=λ(x:Nat)=>(x<=l.length/\∀(j:Nat),j < x->l[j]?=m[j]?);br (!decide ((l.length:Int)=(m.length:Int))) (qB (og l m) false) ((∃x,(z1 x)/\(cI 0=cI (x:Int)/\True)/\([]:List dP)=[])/\∀(x:Nat),(z1 x)->br (decide ((x:Int) < (l.length:Int))) ((0<=(x:Int)/\(x:Int) < (l.length:Int))/\∀(d:Int),l[(x:Int).toNat]?=some d->(0<=(x:Int)/\(x:Int) < (m.length:Int))/\∀(bJ:Int),m[(x:Int).toNat]?=some bJ->br (!decide (d=bJ)) (qB (og l m) false) (iR ((x:Int)+(1:Int))/\∃x',(z1 x')/\(cI ((x:Int)+(1:Int))=cI (x':Int)/\True)/\([]:List dP)=[]/\l.length - x' < l.length - x)) (qB (og l m) true)):=by
 conv=>zeta
 delta dP iR;have hp:l.length<=1000000:=aG;have fF:l≠m->qB (og l m) false:=λq=>⟨rfl,by rw[oG q]⟩
 refine ah.2 ⟨λh=>fF λq=>?_,λh=>?_⟩
 .subst q;simp at h
 simp only[wI,dN]at h;refine⟨⟨0,⟨by omega,λj hj=>by omega⟩,⟨rfl,trivial⟩,rfl⟩,λk hk=>ah.2 ⟨λg=>?_,λg=>?_⟩⟩
 .simp only[dN]at g;refine⟨⟨by omega,by omega⟩,λd hd=>⟨⟨by omega,by omega⟩,λd1 hd1=>ah.2 ⟨λg2=>fF λq=>?_,λg2=>⟨ay.2 (by omega),k+1,⟨by omega,λj hj=>?_⟩,⟨rfl,trivial⟩,rfl,by omega⟩⟩⟩⟩
  .subst q;rw[hd]at hd1;cases hd1;simp at g2
  .by_cases iY:j=k
   .subst iY;have hd:l[j]?=some d:=hd;have hd1:m[j]?=some d1:=hd1;have g2:d=d1:=by simpa using g2
    rw[hd,hd1,g2]
   .exact hk.2 j (by omega)
 simp only[eH]at g;have e:l=m:=by
  apply Jh;intro j
  by_cases hj:j < k
  .exact hk.2 j hj
  .rw[CJ (by omega),CJ (by omega)]
 exact⟨rfl,by rw[lT e]⟩
theorem aht:aU aS.gd 18 acE:=
 dY (cx:=aS) (n:=26) (cl:=[]) (rc:=[]) au trivial Tryz.func18 λd hd=>by
  obtain⟨l,m,⟨⟩⟩:=d;exact aP (aoV l m) (amu l m hd) (by kernel_rfl)
abbrev acF:CT:={ ps:=[],pre:=λd=>True,res:=λd=>([],vB (true)) }
abbrev aoW  : Nat->Option (St->jK):=λ_=>none
theorem amv :
 let z11:=1<=1000000/\0<=1000000/\0<=1000000/\1<=1000000/\2<=1000000/\(∀(x:FD),x∈xF->List.length x.snd.fst<=1000000)/\2<=1000000;let z12:=mM (0:Int) xF (4:Int) xT;let z10:=fZ xV [] [] xF xT z12 (List.map (λx=>x.snd.fst) xV,List.replicate 0 (-1:Int),List.replicate 0 [],[],()) [];let z9:=fH xV [] [] xF xT (4:Int) (mM (0:Int) xF (4:Int) xT,(List.map (λx=>x.snd.fst) xV,List.replicate 0 (-1:Int),List.replicate 0 [],[],()),[],()) (0:Int);let z8:=z9.snd.snd=0;let z2:=true && z9.snd.fst.fst == (0:Int) && z9.snd.fst.snd.fst == (0:Int) && z9.snd.fst.snd.snd.fst == (5:Int) && z9.snd.fst.snd.snd.snd.fst == (0:Int) && z9.snd.fst.snd.snd.snd.snd.fst == (-1:Int) && z9.snd.fst.snd.snd.snd.snd.snd.fst == (-1:Int) && z9.snd.fst.snd.snd.snd.snd.snd.snd.fst == (1:Int) && z9.snd.fst.snd.snd.snd.snd.snd.snd.snd.fst == (0:Int) && z9.snd.fst.snd.snd.snd.snd.snd.snd.snd.snd.fst == (1:Int);let z6:=uY xV [] [] xF xT z9.fst.fst z9.fst.snd.fst z9.fst.snd.snd.fst (1:Int);let z4:=z6.fst.snd.snd.snd.snd.snd.snd.snd.fst=1;let z3:=z6.fst.snd.snd.snd.snd.snd.snd.snd.snd.fst=2;let z5:=z6.fst.fst=1;let z1:=decide z8 && z2 && z6.snd && decide z4 && decide z3 && decide z5 && og z9.fst z9.fst && !og (mM (0:Int) xF (4:Int) xT,(List.map (λx=>x.snd.fst) xV,List.replicate 0 (-1:Int),List.replicate 0 [],[],()),[],()) z9.fst;let z7:=fZ xV [] [] xF xT z9.fst.fst z9.fst.snd.fst z9.fst.snd.snd.fst;True/\z11/\(true=true->z11/\iF z12/\bK (List.map (λx=>x.snd.fst) xV,List.replicate 0 (-1:Int),List.replicate 0 [],[],()))/\(true=true->z10.length<=1000000)/\br (false || !og z10 [(0:Int),(1:Int)]) (qB true false) ((z11/\iF z12/\2<=999999/\true=true/\zX [])/\(z11/\iF z9.fst.fst/\bK z9.fst.snd.fst)/\((decide z8 && z2 && z6.snd && decide z4 && decide z3 && decide z5)=true->ab4 z9.fst)/\((decide z8 && z2 && z6.snd && decide z4 && decide z3 && decide z5 && og z9.fst z9.fst)=true->ab4 (mM (0:Int) xF (4:Int) xT,(List.map (λx=>x.snd.fst) xV,List.replicate 0 (-1:Int),List.replicate 0 [],[],()),[],()))/\(z1=true->z11/\iF z9.fst.fst/\bK z9.fst.snd.fst)/\(z1=true->z7.length<=1000000)/\qB true (decide z8 && z2 && z6.snd && decide z4 && decide z3 && decide z5 && og z9.fst z9.fst && !og (mM (0:Int) xF (4:Int) xT,(List.map (λx=>x.snd.fst) xV,List.replicate 0 (-1:Int),List.replicate 0 [],[],()),[],()) z9.fst && og z7 [(1:Int)])):=by
 conv=>zeta
 have e1:mM (0:Int) xF (4:Int) xT=[xt 0,xt 1]:=by rfl
 have e2:((List.map (λx:VD=>x.2.1) xV,List.replicate 0 (-1:Int),List.replicate 0 [],[],()):MD)=xm 0:=by rfl
 have e3:fH xV [] [] xF xT 4 ([xt 0,xt 1],xm 0,[],()) 0=(([xu,xt 1],xm 1,[],()),xe 0 0,0):=acD (.inl rfl);rw[e1,e2];simp only[e3,amq,amr,aoT];have hF:∀(x:FD),x∈xF->x.2.1.length<=1000000:=by
  intro x hx;simp only[xF,WM]at hx;subst hx;decide
 have B:1<=1000000/\0<=1000000/\0<=1000000/\1<=1000000/\2<=1000000/\(∀(x:FD),x∈xF->x.2.1.length<=1000000)/\2<=1000000:=⟨by decide,by decide,by decide,by decide,by decide,hF,by decide⟩
 have t0:iF [xt 0,xt 1]:=aoP (Oz (.inl rfl)).1 (Oz (.inl rfl)).2 rfl;have t1:iF [xu,xt 1]:=aoP (ahr (.inl rfl)).1 (ahr (.inl rfl)).2 rfl;have bb:zX []:=⟨by decide,λb hb=>nomatch hb⟩
 have ne:og (([xt 0,xt 1],xm 0,[],()):ZD) ([xu,xt 1],xm 1,[],())=false:=oG λh=>by
  have:=tX (λz:ZD=>z.2.1.1) h
  simp[xm]at this
 have e4:og ([0,1]:List Int) [0,1]=true:=lT rfl;have e5:og ([1]:List Int) [1]=true:=lT rfl;have e6:og (([xu,xt 1],xm 1,[],()):ZD) ([xu,xt 1],xm 1,[],())=true:=lT rfl;refine⟨trivial,B,λ_=>⟨B,t0,WB 0⟩,λ_=>by decide,ah.2 ⟨λh=>?_,λ_=>⟨⟨B,t0,by decide,trivial,bb⟩,⟨B,t1,WB 1⟩,λ_=>⟨t1,WB 1,bb⟩,λ_=>⟨t0,WB 0,bb⟩,λ_=>⟨B,t1,WB 1⟩,λ_=>by decide,uX ?_⟩⟩⟩
 .rw[e4]at h;cases h
 .rw[e5,e6,ne];rfl
theorem ahu:aU aS.gd 11 acF:=
 dY (cx:=aS) (n:=89) (cl:=[(31,ain),(12,Uu),(19,Gn),(18,acE),(21,Ox),(16,Un),(24,acj)]) (rc:=[]) au ⟨ahs,Uw,KU,aht,KX,Uo,ahh,trivial⟩ Tryz.func11 λd hd=>by
  obtain⟨⟩:=d;exact aP (aoW ) (amv ) (by kernel_rfl)
end
end Go.Proofs.YtjhenjhcbcalpaaGreatDoor
