/- Texts of this claim, part 12: Y6, Y7, X2, X3, X4, Y8, Y9, M13, Y10, X5. Conditions: those of the given rows. -/
import Derived.Test.YtjhenjhcbcalpaaGreatDoorB11
set_option linter.unusedSimpArgs false
set_option linter.unusedVariables false
set_option maxRecDepth 1000000
set_option maxHeartbeats 8000000
namespace Go.Proofs.YtjhenjhcbcalpaaGreatDoor
open Go Go.mQ
noncomputable section
variable {e id bound b c:Int}{l:List TD}{m:MD}{t:TD}{i:ID}{vs:List VD}{ms cs:List ByteArray}{fs:List FD}{ts:List SD}
abbrev cxR:Cx:={ ti:=tis,gd:=gd0,rt:=true }
def insL(l:List TD) (id:Int) (u:TD):List TD:=l.takeWhile (λt=>decide (t.1 < id))++[u]++l.dropWhile (λt=>decide (t.1 < id))
def uU(e:Int) (fs:List FD) (bound:Int) (z:ZD) (id fn arg:Int):ZD×Int:=
 if 0<=gJ (λt=>decide (t.1=id)) z.1 then(zZ,30) else if(newS e fs bound id fn arg).2≠0 then(zZ,30) else((insL z.1 id (newS e fs bound id fn arg).1,z.2),0)
theorem E5{S:ZD×Int}{L:List TD}{mv mo:List Int}{mq:List (List Int)}{mg:List Int}{bf:List BD} (h:S=((L,(mv,mo,mq,mg,()),bf,()),e)):[au.row 56 dQ S.1.1]=[au.row 56 dQ L]/\bg.iR [.agg [.row 0,.sl I6 S.1.2.1.1,.sl I6 S.1.2.1.2.1,.sl I6.sl S.1.2.1.2.2.1,.sl I6 S.1.2.1.2.2.2.1,.sl yO S.1.2.2.1],cI S.2]=bg.iR [.agg [.row 0,.sl I6 mv,.sl I6 mo,.sl I6.sl mq,.sl I6 mg,.sl yO bf],cI e]:=by
 subst h;exact⟨rfl,rfl⟩
def Jg(l:List TD) (x:Nat):List TD:=List.take (List.length (List.replicate ((l.length:Int)+(1:Int)).toNat zR)) (List.drop 0 (List.take (x:Int).toNat l))++List.drop (List.length (List.drop 0 (List.take (x:Int).toNat l))) (List.replicate ((l.length:Int)+(1:Int)).toNat zR)
theorem Vq{x:Nat} (h:x<=l.length):Jg l x=l.take x++List.replicate (l.length+1 - x) zR:=by
 unfold Jg;have e:((l.length:Int)+(1:Int)).toNat=l.length+1:=by omega
 rw[e,MV,Tn,A98,zF (by rw[mD];omega),mD,Kr h,List.drop_replicate]
theorem PL{x:Nat} (h:x<=l.length):(Jg l x).length=l.length+1:=by
 rw[Vq h,kZ,mD,MV];omega
theorem aiy{x:Nat} (h:x<=l.length) (u:TD):List.take ((x:Int)+(1:Int)).toNat ((Jg l x).set (x:Int).toNat u)++(List.take (List.length ((Jg l x).set (x:Int).toNat u) - ((x:Int)+(1:Int)).toNat) (List.drop (x:Int).toNat (List.take (l.length:Int).toNat l))++List.drop (List.length (List.drop (x:Int).toNat (List.take (l.length:Int).toNat l))) (List.drop ((x:Int)+(1:Int)).toNat ((Jg l x).set (x:Int).toNat u)))=l.take x++[u]++l.drop x:=by
 have e:((x:Int)+(1:Int)).toNat=x+1:=by omega
 have hl:(l.take x).length=x:=by rw[mD];omega
 have hs:(Jg l x).set x u=l.take x++[u]++List.replicate (l.length - x) zR:=by
  rw[Vq h,show l.length+1 - x=l.length - x+1 by omega,Yv,aeO _ _ (by omega),hl,YA,Yw,DJ];rfl
 have hn:(l.take x++[u]).length=x+1:=by rw[kZ,hl];rfl
 rw[e,A98,A98,Yy,yg,PL h,hs];have a1:List.take (x+1) (l.take x++[u]++List.replicate (l.length - x) zR)=l.take x++[u]:=by
  rw[A84 (by omega),zF (by omega)]
 have a2:List.drop (x+1) (l.take x++[u]++List.replicate (l.length - x) zR)=List.replicate (l.length - x) zR:=by
  rw[Yr (by omega),VQ (by omega),Yc]
 have a3:List.take (l.length+1 - (x+1)) (List.drop x l)=List.drop x l:=zF (by rw[zH];omega)
 have a4:List.drop (List.drop x l).length (List.replicate (l.length - x) zR)=[]:=VQ (by rw[MV,zH];omega)
 rw[a1,a2,a3,a4,Tj]
theorem ap9{x:Nat}{p:TD->Bool} (h:x<=l.length) (h1:∀(j:Nat),j < x->∀t,l[j]?=some t->p t=true) (h2:∀t,l[x]?=some t->p t=false):l.takeWhile p=l.take x/\l.dropWhile p=l.drop x:=by
 induction l generalizing x with
 | nil=>simp
 | cons a l ih=>
   cases x with
   | zero=>
     have:=h2 a rfl;simp[this]
   | succ x=>
     have ha:=h1 0 (by omega) a rfl
     have:=ih (x:=x) (by simpa using h) (λj hj t ht=>h1 (j+1) (by omega) t (by simpa using ht)) (λt ht=>h2 t (by simpa using ht))
     simp[ha,this]
theorem aiz{x:Nat} (h:x<=l.length) (h1:∀(j:Nat),j < x->∀t,l[j]?=some t->t.1 < id) (h2:∀t,l[x]?=some t->¬t.1 < id) (u:TD):insL l id u=l.take x++[u]++l.drop x:=by
 have:=ap9 (p:=λt=>decide (t.1 < id)) h (λj hj t ht=>by simpa using h1 j hj t ht) (λt ht=>by simpa using h2 t ht)
 unfold insL;rw[this.1,this.2]
abbrev adz:CT:={ ps:=[tK,.int .i64,Vb,.int .i64,.int .i64,.int .i64],pre:=λd=>bnd (d.1,())/\iI d.2.2.1.1/\d.2.2.2.1<=9223372036854775807,res:=λd=>([.row 56 dQ (uU (aF d.1.1 d.1.2.1 d.1.2.2.1 d.1.2.2.2.1 d.1.2.2.2.2.1).1 d.1.2.2.2.1 d.2.1 d.2.2.1 d.2.2.2.1 d.2.2.2.2.1 d.2.2.2.2.2.1).1.1],.iR [.agg [.row 0,.sl (.int .i64) ((uU (aF d.1.1 d.1.2.1 d.1.2.2.1 d.1.2.2.2.1 d.1.2.2.2.2.1).1 d.1.2.2.2.1 d.2.1 d.2.2.1 d.2.2.2.1 d.2.2.2.2.1 d.2.2.2.2.2.1).1).2.1.1,.sl (.int .i64) ((uU (aF d.1.1 d.1.2.1 d.1.2.2.1 d.1.2.2.2.1 d.1.2.2.2.2.1).1 d.1.2.2.2.1 d.2.1 d.2.2.1 d.2.2.2.1 d.2.2.2.2.1 d.2.2.2.2.2.1).1).2.1.2.1,.sl (.sl (.int .i64)) ((uU (aF d.1.1 d.1.2.1 d.1.2.2.1 d.1.2.2.2.1 d.1.2.2.2.2.1).1 d.1.2.2.2.1 d.2.1 d.2.2.1 d.2.2.2.1 d.2.2.2.2.1 d.2.2.2.2.2.1).1).2.1.2.2.1,.sl (.int .i64) ((uU (aF d.1.1 d.1.2.1 d.1.2.2.1 d.1.2.2.2.1 d.1.2.2.2.2.1).1 d.1.2.2.2.1 d.2.1 d.2.2.1 d.2.2.2.1 d.2.2.2.2.1 d.2.2.2.2.2.1).1).2.1.2.2.2.1,.sl yO ((uU (aF d.1.1 d.1.2.1 d.1.2.2.1 d.1.2.2.2.1 d.1.2.2.2.2.1).1 d.1.2.2.2.1 d.2.1 d.2.2.1 d.2.2.2.1 d.2.2.2.2.1 d.2.2.2.2.2.1).1).2.2.1],.c (.v (.int .i64 ((uU (aF d.1.1 d.1.2.1 d.1.2.2.1 d.1.2.2.2.1 d.1.2.2.2.2.1).1 d.1.2.2.2.1 d.2.1 d.2.2.1 d.2.2.2.1 d.2.2.2.2.1 d.2.2.2.2.2.1).2)))]) }
abbrev aqa(vs:List VD) (ms cs:List ByteArray) (fs:List FD) (ts:List SD) (bound:Int) (th:List TD) (mv mo:List Int) (mq:List (List Int)) (mg:List Int) (bf:List BD) (id fn arg:Int):Nat->Option (St->kH):=λk=>match k with
 | 8=>some λ_=>.inv { α:=Nat,slots:=λk=>[(18,.c (.v (.int .i64 k)))],res:=λ_=>[],inv:=λk=>k<=th.length/\∀j < k,∀t,th[j]?=some t->t.1 < id,meas:=λk=>th.length - k }
 | _=>none
theorem anC(vs:List VD) (ms cs:List ByteArray) (fs:List FD) (ts:List SD) (bound:Int) (th:List TD) (mv mo:List Int) (mq:List (List Int)) (mg:List Int) (bf:List BD) (id fn arg:Int) (aH:adz.pre ((vs,ms,cs,fs,ts,()),bound,(th,(mv,mo,mq,mg,()),bf,()),id,fn,arg,())):
 let z10:=uU (aF vs ms cs fs ts).fst fs bound (th,(mv,mo,mq,mg,()),bf,()) id fn arg;let z5:=[au.row 56 dQ z10.fst.fst];let z1:=[SV.agg [SC.row 0,SC.sl I6 z10.fst.snd.fst.fst,SC.sl I6 z10.fst.snd.fst.snd.fst,SC.sl I6.sl z10.fst.snd.fst.snd.snd.fst,SC.sl I6 z10.fst.snd.fst.snd.snd.snd.fst,SC.sl yO z10.fst.snd.snd.fst],cI (z10.snd)];let z6:=z5=[au.row 56 dQ []]/\bg.iR z1=bg.iR [SV.agg [SC.row 0,SC.sl I6 [],SC.sl I6 [],SC.sl I6.sl [],SC.sl I6 [],SC.sl yO []],cI 30];let z13:=newS (aF vs ms cs fs ts).fst fs bound id fn arg;let z11:=λ(x:Nat)=>(x<=th.length/\∀(j:Nat),j < x->∀(t:TD),th[j]?=some t->t.fst < id);let z4:=[g0 (bP vs ms cs fs ts),g0 (bZ th mv mo mq mg bf),g0 (au.blk 37 Pz),g0 (au.obj 56 dQ z13.fst)];let zx:=λ(x:Nat)=>(x:Int) < (th.length:Int);let Dn:=λ(x:Nat)=>(x:Int)+(1:Int);let oH:=(th.length:Int)+(1:Int);let z9:=λ(x:Nat)=>(Jg th x).set (x:Int).toNat z13.fst;let z3:=λ(x:Nat)=>0<=(x:Int)+(1:Int)/\(x:Int)+1<=(↑(z9 x).length:Int);let z7:=λ(x:Nat)=>0<=(x:Int)/\(x:Int)<=(th.length:Int)/\(th.length:Int)<=(th.length:Int);let z12:=λ(x:Nat)=>List.drop (x:Int).toNat (List.take (th.length:Int).toNat th);let z2:=λ(x:Nat)=>[au.row 56 dQ (List.take (Dn x).toNat (z9 x)++(List.take ((z9 x).length - (Dn x).toNat) (z12 x)++List.drop (z12 x).length (List.drop (Dn x).toNat (z9 x))))];let z8:=[SV.agg [SC.row 0,SC.sl I6 mv,SC.sl I6 mo,SC.sl I6.sl mq,SC.sl I6 mg,SC.sl yO bf],cI 0];th.length<=1000000/\br (decide (0<=gJ (λt=>decide (t.fst=id)) th)) z6 (((bnd ((vs,ms,cs,fs,ts,()),()))/\id<=9223372036854775807)/\br (!decide (z13.snd=0)) z6 ((∃x,(z11 x)/\(cI 0=cI (x:Int)/\True)/\sm z4)/\∀(x:Nat),(z11 x)->(decide (zx x)=true->0<=(x:Int)/\(x:Int) < (th.length:Int))/\∀(d:TD),(decide (zx x)=true->th[(x:Int).toNat]?=some d)->br (decide (zx x) && decide (d.fst < id)) (dX IntKind.i64 (Dn x)/\∃x',(z11 x')/\(cI (Dn x)=cI (x':Int)/\True)/\sm z4/\th.length - x' < th.length - x) (dX IntKind.i64 oH/\(0<=(th.length:Int)+(1:Int)/\(th.length:Int)+1<=(th.length:Int)+(1:Int)/\oN oH.toNat 152)/\((0:Int)<=(0:Int)/\0<=(x:Int)/\(x:Int)<=(th.length:Int))/\(0<=(x:Int)/\(x:Int) < (↑(Jg th x).length:Int))/\(x:Int).toNat < (Jg th x).length/\dX IntKind.i64 (Dn x)/\((z3 x)/\(z7 x)/\z5=(z2 x)/\bg.iR z1=bg.iR z8)/\(z7 x)/\(z3 x)/\z5=(z2 x)/\bg.iR z1=bg.iR z8))):=by
 conv=>zeta
 delta Pz;obtain⟨hb,⟨hl,hT⟩,hid⟩:bnd ((vs,ms,cs,fs,ts,()),())/\iI th/\id<=9223372036854775807:=aH;refine⟨hl,ah.2 ⟨λh=>E5 ?_,λh=>⟨⟨hb,hid⟩,ah.2 ⟨λh2=>E5 ?_,λh2=>⟨⟨0,⟨by omega,λj hj=>by omega⟩,⟨rfl,trivial⟩,rfl⟩,λx hx=>⟨λg=>⟨by omega,by simpa using g⟩,λd hd=>ah.2 ⟨λg=>?_,λg=>?_⟩⟩⟩⟩⟩⟩⟩
 .unfold uU;rw[if_pos (Qg h)];rfl
 .have h:=A93 h;unfold uU;rw[if_neg h,if_pos (by simpa using h2)];rfl
 .simp only[A8,dV]at g;have hd:=hd (by simpa using g.1)
  rw[A98]at hd;refine⟨ay.2 (by omega),x+1,⟨by omega,λj hj t ht=>?_⟩,⟨rfl,trivial⟩,rfl,by omega⟩
  by_cases q:j=x
  .subst q;rw[hd]at ht;cases ht;exact g.2
  .exact hx.2 j (by omega) t ht
 .have hn:=PL hx.1;have hf:uU (aF vs ms cs fs ts).1 fs bound (th,(mv,mo,mq,mg,()),bf,()) id fn arg=((th.take x++[(newS (aF vs ms cs fs ts).1 fs bound id fn arg).1]++th.drop x,(mv,mo,mq,mg,()),bf,()),0):=by
   have h:=A93 h;unfold uU;rw[if_neg h,if_neg (by simpa using h2),aiz hx.1 hx.2 (λt ht=>?_)]
   have iq:x < th.length:=(eU.1 ht).1;have hd:=hd (by simpa using iq)
   rw[A98,ht]at hd;cases hd;simp only[Qi,gG]at g;omega
  rw[aiy hx.1];rw[yg,hn,A98];refine⟨ay.2 (by omega),⟨by omega,by omega,fQ.2 (by omega)⟩,⟨by omega,by omega,by omega⟩,⟨by omega,by omega⟩,by omega,ay.2 (by omega),⟨⟨by omega,by omega⟩,⟨by omega,by omega,by omega⟩,E5 hf⟩,⟨by omega,by omega,by omega⟩,⟨by omega,by omega⟩,E5 hf⟩
theorem aiA:aW cxR.gd 50 adz:=
 eG (cx:=cxR) (n:=85) (cl:=[(52,J5),(34,U1)]) (rc:=[.hd 56 dQ shR,.keep]) aA ⟨EY,U2,trivial⟩ Tryz.func50 λd hd=>by
  obtain⟨⟨vs,ms,cs,fs,ts,⟨⟩⟩,bound,⟨th,⟨mv,mo,mq,mg,⟨⟩⟩,bf,⟨⟩⟩,id,fn,arg,⟨⟩⟩:=d;exact aS (aqa vs ms cs fs ts bound th mv mo mq mg bf id fn arg) (anC vs ms cs fs ts bound th mv mo mq mg bf id fn arg hd) (by kernel_rfl)
def XU(l:List TD) (id:Int) (u:TD):List TD:=l.set (fP (gJ (λt=>decide (t.1=id)) l) 0).toNat u
def bJ(vs:List VD) (ms cs:List ByteArray) (fs:List FD) (ts:List SD) (bound:Int) (z:ZD) (id:Int):ZD×ED×Int:=
 if dI (aF vs ms cs fs ts).1 bound≠0 then(zZ,zE,dI (aF vs ms cs fs ts).1 bound)
 else if vsB vs ms cs fs ts bound z.1 z.2.1 z.2.2.1=false then(zZ,zE,1)
 else match jE (aF vs ms cs fs ts).1 ms fs z.1 id with
 | (t,i,ok)=>if(ok && rO z.1 z.2.1 t i)=false then(zZ,zE,19)
   else if(jI z.2.1 (labS z.2.1 t i)).2≠0 then(zZ,zE,30)
   else if(labS z.2.1 t i).2.2.1=16/\0<=gJ (λu=>decide (u.1=(labS z.2.1 t i).2.2.2.1)) z.1 then(zZ,zE,30)
   else((XU (if(labS z.2.1 t i).2.2.1=16 then insL z.1 (labS z.2.1 t i).2.2.2.1 (newS (aF vs ms cs fs ts).1 fs bound (labS z.2.1 t i).2.2.2.1 i.2.2.2.2.1 (t.2.2.2.1.getD i.2.2.1.toNat 0)).1 else z.1) id
    (jY (aF vs ms cs fs ts).1 ms fs bound t (lq i (labS z.2.1 t i))).1,(jI z.2.1 (labS z.2.1 t i)).1,[],()),labS z.2.1 t i,0)
theorem kN(m:MD) (t:TD) (i:ID):(labS m t i).1=t.1:=by
 have key:∀(c:Prop) [Decidable c] (a b:ED),a.1=t.1->b.1=t.1->(if c then a else b).1=t.1:=by
  intro c _ a b ha hb;split
  .exact ha
  .exact hb
 unfold labS
 repeat' (first | rfl | (apply key))
theorem uV(hv:8<=i.1/\i.1<=22):(labS m t i).2.2.1=16↔i.1=21:=by
 have key:∀(c:Prop) [Decidable c] (a b:ED),¬a.2.2.1=16->¬b.2.2.1=16->¬(if c then a else b).2.2.1=16:=by
  intro c _ a b ha hb;split
  .exact ha
  .exact hb
 constructor
 .intro h
  by_cases q:i.1=21
  .exact q
  .exfalso;revert h;unfold labS;rw[if_neg q]
   repeat' (first | (apply key) | simp)
 .intro h;unfold labS;simp[h]
theorem qW(h:i.1=21):(labS m t i).2.2.2.1=(dM t.1 t.2.2.2.2.2.1).1:=by
 unfold labS;simp[h]
theorem aiB{i f t:Int} (h:oq m=true):oq (iP m i id f t).1=true:=by
 unfold iP;split
 .split
  .rfl
  .split
   .obtain⟨vs,os,qs,sg,⟨⟩⟩:=m;unfold oq at h ⊢
    simpa using h
   .rfl
 .rfl
theorem aiC(h:oq m=true) (e:ED):bK (jI m e).1:=by
 have hw:∀x v,bK (writeM m x v).1:=by
  intro x v;unfold writeM
  repeat' split
  all_goals first | exact Ij | skip
  obtain⟨h1,h2⟩:=xY h;exact⟨by rw[yg];exact h1,h2⟩
 unfold jI
 repeat' split
 all_goals first | exact hw _ _ | exact MJ (xY h) | exact aix (aiB h) | exact ady h | exact anB h | exact xY h
theorem Ik{bf:List BD} (hV:VS vs ms cs fs ts bound l m bf) (hM:bK m) (hT:iI l) (h:jE (aF vs ms cs fs ts).1 ms fs l id=(t,i,true)):
 t∈l/\t.1=id/\Ih m t i/\qp fs t.2.1 t.2.2.1=some i/\t.2.2.2.2.2.2.2.1=1/\vW ms fs bound t:=by
 unfold jE at h;cases ef:kX l id with
 | none=>rw[ef]at h;cases h
 | some u=>
   rw[ef]at h;simp only[VU]at h;obtain⟨h1,h2,h3⟩:=h;subst h1;have hm:=ajW ef;have hp:=MH hV.1 hM (hT.2 u hm) h3;have hq:=Px h3;rw[h2]at hp hq;exact⟨hm,by simpa using Nk ef,hp,hq.2.2.2,hq.2.1,(hV.2.2.1 u hm).2⟩
theorem uX{S:ZD×ED×Int}{a:ZD}{b:ED} (h:S=(a,b,c)):rT [Du S.1,Jf S.2.1,cI S.2.2] [Du a,Jf b,cI c]:=by subst h;exact⟨rfl,rfl⟩
theorem ou(hs:dI (aF vs ms cs fs ts).1 bound=0) (hV:vW ms fs bound t) (h1:t.2.2.2.2.2.2.2.1=1) (ha:qp fs t.2.1 t.2.2.1=some i) (hi:i.1=21) (hl:t.2.2.2.1.length=8):
 (dM t.1 t.2.2.2.2.2.1).2=true/\(newS (aF vs ms cs fs ts).1 fs bound (dM t.1 t.2.2.2.2.2.1).1 i.2.2.2.2.1 (t.2.2.2.1.getD i.2.2.1.toNat 0)).2=0:=by
 have hz:=fJ.1 hs;obtain⟨_,_,j,hj,vj,oj⟩:=Dl hV h1;rw[ha]at hj;cases hj;have hf:=fK hV;obtain⟨k1,k2,k3,k4⟩:=qR (D6 hz.1 (Dp hf).1 ha);obtain⟨r1,r2,r3,r4⟩:=ni k1;obtain⟨id,fn,pc,rg,st,ch,ph,su,fa,he,u⟩:=t;have hl:rg.length=8:=hl;obtain⟨f1,f2,f3,f4,f5,f6,f7,f8,f9⟩:=hf;have hph:ph=0:=by
  rcases f9 with q | ⟨_,i',q1,q2,_⟩
  .exact q
  .have ha:qp fs fn pc=some i:=ha;rw[ha]at q1;cases q1;omega
 have oj:lN id ch ph he i=0:=oj;have hc:(dM id ch).2=true:=by
  unfold lN at oj;rw[if_neg (by omega),if_neg (by omega),if_neg (by omega),if_pos hi]at oj
  by_cases q:(dM id ch).2=true
  .exact q
  .rw[if_neg q]at oj;cases oj
 refine⟨hc,?_⟩;have hd:¬bU (dM id ch).1 < 0:=by
  unfold dM at hc ⊢;split at hc
  .cases hc
  .rename_i q;rw[if_neg q];have:=D5 (id:=id) (ch:=ch) (by omega) (by omega) (by omega) (by omega)
   show¬bU (8 * (id+1)+ch) < 0;omega
 have ho:pX vs ms cs fs i.1=fs.length:=by unfold pX;rw[hi];simp
 rw[ho]at k2;have k2:=k2 (by omega)
 have hv:dh (rg.getD i.2.2.1.toNat 0)=true:=by
  have iq:i.2.2.1.toNat < rg.length:=by omega
  rw[Jk,kP iq];exact f4 _ (by omega) _ (kP iq)
 show(newS _ _ _ (dM id ch).1 _ _).2=0;unfold newS;rw[if_neg (by omega),if_neg hd,if_neg (by omega),if_neg (by show¬dh (rg.getD i.2.2.1.toNat 0)=false;rw[hv];simp)]
theorem E8(hf:dO m=true) (hc:i.1=21->(dM t.1 t.2.2.2.2.2.1).2=true):dh (lq i (labS m t i))=true:=by
 have hv:∀x:Int,dh (m.1[x.toNat]?.getD 0)=true:=by
  intro x;cases hx:m.1[x.toNat]? with
  | none=>rfl
  | some v=>exact(dU.1 hf).2.2.2.2.1 v (iJ hx)
 have hch:i.1=21->dh (dM t.1 t.2.2.2.2.2.1).1=true:=by
  intro q;obtain⟨_,_,_,_,c1,_,c2,_⟩:=qc (hc q);exact nR.2 ⟨by omega,by omega⟩
 have key:∀(c:Prop) [Decidable c] (a b:ED),(c->dh (lq i a)=true)->(¬c->dh (lq i b)=true)->dh (lq i (if c then a else b))=true:=by
  intro c _ a b ha hb;split
  .exact ha (by assumption)
  .exact hb (by assumption)
 have k1:∀b:Bool,dh (if tZ b=0 then 0 else 1)=true:=by intro b;cases b<;>rfl
 unfold labS
 repeat' (refine key _ _ _ (λ_=>?_) (λ_=>?_))
 all_goals (try first | exact hv _ | rfl | exact k1 _ | (apply hch;assumption))
 all_goals (unfold lq;try simp only)
 all_goals first | exact hv _ | rfl | exact k1 _ | (apply hch;assumption) | (rw[if_pos trivial,if_pos (by assumption)];rfl) | (simp_all;done) | skip
theorem Il{r:Int} (hs:dI e bound=0) (hV:vW ms fs bound t) (h1:t.2.2.2.2.2.2.2.1=1) (hr:dh r=true):(jY e ms fs bound t r).2=0:=by
 unfold jY;rw[if_neg (by omega),if_neg (by simpa using hV),if_neg (by omega),if_neg (by rw[hr];simp)]
theorem anD(h:∃t∈l,t.1=id):(0<=fP (gJ (λt=>decide (t.1=id)) l) 0/\fP (gJ (λt=>decide (t.1=id)) l) 0 < (l.length:Int))/\(fP (gJ (λt=>decide (t.1=id)) l) 0).toNat < l.length:=by
 have q:0<=gJ (λt=>decide (t.1=id)) l:=by
  refine IK.1 λq=>?_
  obtain⟨t,ht,e⟩:=h;have:=Yk.1 (qh q) t ht;simp[e]at this
 obtain⟨k,t,q1,q2,q3,q4⟩:=nS q;have e:fP (gJ (λt=>decide (t.1=id)) l) 0=k:=by rw[q1];unfold fP;split<;>omega
 rw[e];omega
theorem BI{u:TD} (h:t∈l):t∈insL l id u:=by
 unfold insL;rw[<-A96 (p:=λt=>decide (t.1 < id)) (l:=l)]at h
 simp only[Et,Ya]at h ⊢
 rcases h with h | h
 .exact .inl (.inl h)
 .exact .inr h
theorem Io(l:List TD) (id:Int) (u:TD):(insL l id u).length=l.length+1:=by
 unfold insL;have:=oV List.length (A96 (p:=λt=>decide (t.1 < id)) (l:=l))
 rw[kZ]at this;simp only[kZ,yP,Qh];omega
theorem Fa{vs:List VD}{ms cs:List ByteArray}{fs:List FD}{ts:List SD}{bound id:Int}{z:ZD}{t:TD}{i:ID}{ok:Bool} (h:dI (aF vs ms cs fs ts).1 bound=0) (h1:vsB vs ms cs fs ts bound z.1 z.2.1 z.2.2.1=true) (hr:jE (aF vs ms cs fs ts).1 ms fs z.1 id=(t,i,ok)):
 bJ vs ms cs fs ts bound z id=if(ok && rO z.1 z.2.1 t i)=false then(zZ,zE,19)
 else if(jI z.2.1 (labS z.2.1 t i)).2≠0 then(zZ,zE,30)
 else if(labS z.2.1 t i).2.2.1=16/\0<=gJ (λu=>decide (u.1=(labS z.2.1 t i).2.2.2.1)) z.1 then(zZ,zE,30)
 else((XU (if(labS z.2.1 t i).2.2.1=16 then insL z.1 (labS z.2.1 t i).2.2.2.1 (newS (aF vs ms cs fs ts).1 fs bound (labS z.2.1 t i).2.2.2.1 i.2.2.2.2.1 (t.2.2.2.1.getD i.2.2.1.toNat 0)).1 else z.1) id
  (jY (aF vs ms cs fs ts).1 ms fs bound t (lq i (labS z.2.1 t i))).1,(jI z.2.1 (labS z.2.1 t i)).1,[],()),labS z.2.1 t i,0):=by
 unfold bJ;rw[if_neg (by omega),if_neg (by rw[h1];simp),hr]
abbrev PN:CT:={ ps:=[tK,.int .i64,Vb,.int .i64],pre:=λd=>bnd (d.1,())/\iI d.2.2.1.1/\d.2.2.1.1.length<=999999/\oq d.2.2.1.2.1=true/\uT d.2.2.1.2.2.1,res:=λd=>([],.iR [Du ((bJ d.1.1 d.1.2.1 d.1.2.2.1 d.1.2.2.2.1 d.1.2.2.2.2.1 d.2.1 d.2.2.1 d.2.2.2.1).1),Jf ((bJ d.1.1 d.1.2.1 d.1.2.2.1 d.1.2.2.2.1 d.1.2.2.2.2.1 d.2.1 d.2.2.1 d.2.2.2.1).2.1),.c (.v (.int .i64 ((bJ d.1.1 d.1.2.1 d.1.2.2.1 d.1.2.2.2.1 d.1.2.2.2.2.1 d.2.1 d.2.2.1 d.2.2.2.1).2.2)))]) }
theorem anE(vs:List VD) (ms cs:List ByteArray) (fs:List FD) (ts:List SD) (bound:Int) (th:List TD) (mv mo:List Int) (mq:List (List Int)) (mg:List Int) (bf:List BD) (id:Int) (aH:PN.pre ((vs,ms,cs,fs,ts,()),bound,(th,(mv,mo,mq,mg,()),bf,()),id,())):
 let z17:=bnd ((vs,ms,cs,fs,ts,()),());let yh:=aF vs ms cs fs ts;let z20:=(mv,mo,mq,mg,());let SB:=(th,z20,bf,());let z13:=bJ vs ms cs fs ts bound SB id;let z10:=[Du (z13.fst),Jf (z13.snd.fst),cI (z13.snd.snd)];let oH:=jE yh.fst ms fs th id;let z12:=labS z20 oH.fst oH.snd.fst;let z11:=jI z20 z12;let z6:=λ(d:Int)=>uU yh.fst fs bound (th,z11.fst,bf,()) z12.snd.snd.snd.fst oH.snd.fst.snd.snd.snd.snd.fst d;let z7:=z17/\List.length oH.fst.snd.snd.snd.snd.snd.snd.snd.snd.snd.fst<=1000000/\oH.fst.fst<=9223372036854775807/\List.length oH.fst.snd.snd.snd.fst=8;let z9:=jY yh.fst ms fs bound oH.fst (lq oH.snd.fst z12);let z8:=!decide (z9.snd=0);let z3:=rT z10 [Du ([],([],[],[],[],()),[],()),Jf (0,0,0,0,0,0,0,0,0,()),cI (z9.snd)];let z5:=λ(d:Int)=>gJ (λt=>decide (t.fst=id)) (z6 d).fst.fst;let z4:=λ(d:Int)=>fP (z5 d) (0:Int);let z1:=λ(d:Int)=>[Du ((z6 d).fst.fst.set (z4 d).toNat z9.fst,((z6 d).fst.snd.fst.fst,(z6 d).fst.snd.fst.snd.fst,(z6 d).fst.snd.fst.snd.snd.fst,(z6 d).fst.snd.fst.snd.snd.snd.fst,()),(z6 d).fst.snd.snd.fst,()),Jf z12,cI 0];let Dn:=gJ (λt=>decide (t.fst=id)) th;let zx:=fP Dn (0:Int);let z2:=[Du (th.set zx.toNat z9.fst,(z11.fst.fst,z11.fst.snd.fst,z11.fst.snd.snd.fst,z11.fst.snd.snd.snd.fst,()),bf,()),Jf z12,cI 0];z17/\br (!decide (dI yh.fst bound=0)) (rT z10 [Du ([],([],[],[],[],()),[],()),Jf (0,0,0,0,0,0,0,0,0,()),cI (dI yh.fst bound)]) ((z17/\iI th/\bK z20)/\br (!vsB vs ms cs fs ts bound th z20 bf) (rT z10 [Du ([],([],[],[],[],()),[],()),Jf (0,0,0,0,0,0,0,0,0,()),cI 1]) ((z17/\iI th)/\((!!oH.snd.snd)=true->Ih z20 oH.fst oH.snd.fst/\th.length<=1000000)/\br (!oH.snd.snd || !rO th z20 oH.fst oH.snd.fst) (rT z10 [Du ([],([],[],[],[],()),[],()),Jf (0,0,0,0,0,0,0,0,0,()),cI 19]) (Ih z20 oH.fst oH.snd.fst/\Py SB/\(bK z20/\oH.fst.fst=z12.fst)/\br (!decide (z11.snd=0)) (rT z10 [Du ([],([],[],[],[],()),[],()),Jf (0,0,0,0,0,0,0,0,0,()),cI 30]) (bK z11.fst/\br (decide (z12.snd.snd.fst=16)) ((0<=oH.snd.fst.snd.snd.fst/\oH.snd.fst.snd.snd.fst < 8)/\oH.snd.fst.snd.snd.fst.toNat < 8/\∀(d:Int),oH.1.2.2.2.fst[oH.snd.fst.snd.snd.fst.toNat]?=some d->(z17/\iI th/\z12.snd.snd.snd.fst<=9223372036854775807)/\br (!decide ((z6 d).snd=0)) (rT z10 [Du ([],([],[],[],[],()),[],()),Jf (0,0,0,0,0,0,0,0,0,()),cI ((z6 d).snd)]) (z7/\br z8 z3 ((z6 d).fst.fst.length<=1000000/\(0<=fP (z5 d) (0:Int)/\fP (z5 d) 0 < (↑(z6 d).fst.fst.length:Int))/\(z4 d).toNat < (z6 d).fst.fst.length/\(rT z10 (z1 d))/\rT z10 (z1 d)))) (z7/\br z8 z3 (th.length<=1000000/\(0<=fP Dn (0:Int)/\fP Dn 0 < (th.length:Int))/\zx.toNat < th.length/\(rT z10 z2)/\rT z10 z2)))))):=by
 conv=>zeta
 obtain⟨hb,hT,hn,hm,hB⟩:bnd ((vs,ms,cs,fs,ts,()),())/\iI th/\th.length<=999999/\oq (mv,mo,mq,mg,())=true/\uT bf:=aH;have hM:=xY hm;have hS:=@Fa vs ms cs fs ts bound id (th,(mv,mo,mq,mg,()),bf,());generalize hr:jE (aF vs ms cs fs ts).1 ms fs th id=R at hS ⊢;obtain⟨T,I,ok⟩:=R;dsimp only at hS ⊢;refine⟨hb,ah.2 ⟨λh=>uX ?_,λh=>⟨⟨hb,hT,hM⟩,ah.2 ⟨λh1=>uX ?_,λh1=>⟨⟨hb,hT⟩,λh2=>⟨?_,hT.1⟩,ah.2 ⟨λh2=>uX ?_,λh2=>?_⟩⟩⟩⟩⟩⟩
 .have h:dI (aF vs ms cs fs ts).1 bound≠0:=by simpa using h
  unfold bJ;rw[if_pos h];rfl
 .have h:dI (aF vs ms cs fs ts).1 bound=0:=by simpa using h
  have h1:vsB vs ms cs fs ts bound th (mv,mo,mq,mg,()) bf=false:=by simpa using h1
  unfold bJ;rw[if_neg (by omega),if_pos h1];rfl
 all_goals have h:dI (aF vs ms cs fs ts).1 bound=0:=by simpa using h
 all_goals have h1:vsB vs ms cs fs ts bound th (mv,mo,mq,mg,()) bf=true:=by simpa using h1
 all_goals have hV:=jr.1 h1
 .have h2:ok=true:=by simpa using h2
  subst h2;exact(Ik hV hM hT hr).2.2.1
 .rw[hS h h1 rfl,if_pos (by simp only[Ee,Kq]at h2;rw[Qi];exact h2)];rfl
 simp only[oI,zG]at h2;obtain⟨ok1,rP⟩:=h2;subst ok1;obtain⟨lV,hid,hlab,hat,hsu,hvl⟩:=Ik hV hM hT hr;have hS:=hS h h1 rfl;rw[if_neg (by rw[rP];simp)]at hS
 have htB:=hT.2 T lV;have hch:I.1=21->(dM T.1 T.2.2.2.2.2.1).2=true:=λq=>(ou h hvl hsu hat q htB.2.2).1
 have hcz:=Il h hvl hsu (E8 (m:=(mv,mo,mq,mg,())) (i:=I) hlab.1.2.1 hch);refine⟨hlab,⟨hT,hM,hB⟩,⟨hM,(kN _ _ _).symm⟩,ah.2 ⟨λh3=>uX ?_,λh3=>⟨aiC hm _,ah.2 ⟨λh4=>?_,λh4=>?_⟩⟩⟩⟩
 .have h3:(jI (mv,mo,mq,mg,()) (labS (mv,mo,mq,mg,()) T I)).2≠0:=by simpa using h3
  rw[hS,if_pos h3];rfl
 all_goals have h3:(jI (mv,mo,mq,mg,()) (labS (mv,mo,mq,mg,()) T I)).2=0:=by simpa using h3
 all_goals rw[if_neg (by omega)]at hS
 .have h4:(labS (mv,mo,mq,mg,()) T I).2.2.1=16:=Qg h4;have hI:=(uV hlab.2.2.2.1).1 h4;obtain⟨c1,c2⟩:=ou h hvl hsu hat hI htB.2.2;have eo:=qW (m:=(mv,mo,mq,mg,())) (t:=T) hI;obtain⟨_,_,_,_,c5,_,c6,_⟩:=qc c1;have r2:=hlab.2.1;refine⟨r2,by omega,λd hd=>⟨⟨hb,hT,by rw[eo];omega⟩,ah.2 ⟨λh5=>uX ?_,λh5=>?_⟩⟩⟩
  all_goals have ed:=rgd hd
  all_goals rw[ed]at c2 hS
  all_goals rw[<-eo]at c2
  .have h5:(uU (aF vs ms cs fs ts).1 fs bound (th,(jI (mv,mo,mq,mg,()) (labS (mv,mo,mq,mg,()) T I)).1,bf,()) (labS (mv,mo,mq,mg,()) T I).2.2.2.1 I.2.2.2.2.1 d).2≠0:=by simpa using h5
   by_cases q:0<=gJ (λu=>decide (u.1=(labS (mv,mo,mq,mg,()) T I).2.2.2.1)) th
   .rw[hS,if_pos ⟨h4,q⟩];unfold uU;rw[if_pos q];rfl
   .exfalso;apply h5;unfold uU;rw[if_neg q,if_neg (by rw[c2];simp)]
  .have q:¬0<=gJ (λu=>decide (u.1=(labS (mv,mo,mq,mg,()) T I).2.2.2.1)) th:=by
    intro q;unfold uU at h5;rw[if_pos q]at h5;simp at h5
   have es:uU (aF vs ms cs fs ts).1 fs bound (th,(jI (mv,mo,mq,mg,()) (labS (mv,mo,mq,mg,()) T I)).1,bf,()) (labS (mv,mo,mq,mg,()) T I).2.2.2.1 I.2.2.2.2.1 d=((insL th (labS (mv,mo,mq,mg,()) T I).2.2.2.1 (newS (aF vs ms cs fs ts).1 fs bound (labS (mv,mo,mq,mg,()) T I).2.2.2.1 I.2.2.2.2.1 d).1,(jI (mv,mo,mq,mg,()) (labS (mv,mo,mq,mg,()) T I)).1,bf,()),0):=by
    unfold uU;rw[if_neg q,if_neg (by rw[c2];simp)]
   rw[es];dsimp only;rw[if_neg (λp=>q p.2),if_pos h4]at hS
   have hp:=anD (l:=insL th (labS (mv,mo,mq,mg,()) T I).2.2.2.1 (newS (aF vs ms cs fs ts).1 fs bound (labS (mv,mo,mq,mg,()) T I).2.2.2.1 I.2.2.2.2.1 d).1) (id:=id) ⟨T,BI lV,hid⟩;have hbf:bf=[]:=hV.2.1;have fin:=uX hS;refine⟨⟨hb,htB⟩,ah.2 ⟨λh6=>?_,λh6=>⟨by rw[Io];omega,hp.1,hp.2,?_,?_⟩⟩⟩
   .exfalso;rw[hcz]at h6;simp at h6
   all_goals rw[hbf];rw[hbf]at fin;exact fin
 .have h4:¬(labS (mv,mo,mq,mg,()) T I).2.2.1=16:=A93 h4;rw[if_neg (λp=>h4 p.1),if_neg h4]at hS
  have hp:=anD (l:=th) (id:=id) ⟨T,lV,hid⟩;have hbf:bf=[]:=hV.2.1;have fin:=uX hS;refine⟨⟨hb,htB⟩,ah.2 ⟨λh6=>?_,λh6=>⟨hT.1,hp.1,hp.2,?_,?_⟩⟩⟩
  .exfalso;rw[hcz]at h6;simp at h6
  all_goals rw[hbf];rw[hbf]at fin;exact fin
theorem ML:aW aU.gd 21 PN:=
 eG (cx:=aU) (n:=131) (cl:=[(32,vJ),(40,adf),(41,Vk),(46,Vh),(42,Vf),(23,adn),(48,adk),(50,adz),(51,acM),(52,J5),(49,D9)]) (rc:=[.data Vb,.keep,.keep]) aA ⟨Vd,MG,Vl,Vj,Vg,ais,aiq,aiA,ahK,EY,tV,trivial⟩ Tryz.func21 λd hd=>by
  obtain⟨⟨vs,ms,cs,fs,ts,⟨⟩⟩,bound,⟨th,⟨mv,mo,mq,mg,⟨⟩⟩,bf,⟨⟩⟩,id,⟨⟩⟩:=d;exact aS (λ_=>none) (anE vs ms cs fs ts bound th mv mo mq mg bf id hd) (by kernel_rfl)
def nC(e:Int) (fs:List FD) (bound:Int) (ts:List SD):List TD:=ts.zipIdx.map λp=>(newS e fs bound (p.2:Int) p.1.1 p.1.2.1).1
def qx(vs:List VD) (ms cs:List ByteArray) (fs:List FD) (ts:List SD) (bound:Int):ZD×Int:=
 if dI (aF vs ms cs fs ts).1 bound≠0 then(zZ,dI (aF vs ms cs fs ts).1 bound) else((nC (aF vs ms cs fs ts).1 fs bound ts,(qw vs ms cs fs ts).1,[],()),0)
theorem adA{e:Int}{fs:List FD}{bound:Int}{ts:List SD}{k:Nat}{d:SD} (h:ts[k]?=some d):nC e fs bound (ts.take (k+1))=nC e fs bound (ts.take k)++[(newS e fs bound (k:Int) d.1 d.2.1).1]:=by
 have hk:k < ts.length:=(eU.1 h).1;unfold nC;rw[Tf,h,aj6,List.zipIdx_append,Qk,mD,Kr (by omega)]
 simp
theorem MN(e:Int) (fs:List FD) (bound:Int) (ts:List SD):(nC e fs bound ts).length=ts.length:=by
 unfold nC;rw[Yp,List.length_zipIdx]
theorem Fb(h:EP fs ts=0):(1<=ts.length/\ts.length<=8)/\∀(k:Nat) d,ts[k]?=some d->(0<=d.1/\d.1 < (fs.length:Int))/\dh d.2.1=true:=by
 unfold EP at h;split at h
 .cases h
 rename_i q;refine⟨by omega,λk d hd=>?_⟩
 have hn:ts.find? (λt=>decide (EO fs.length t≠0))=none:=by
  cases hf:ts.find? (λt=>decide (EO fs.length t≠0)) with
  | none=>rfl
  | some t=>
    rw[hf]at h;have:=Nk hf;simp at this;exact absurd h this
 have hz:=Yk.1 hn d (iJ hd);have hz:EO fs.length d=0:=by simpa using hz
 unfold EO at hz;split at hz
 .cases hz
 .split at hz
  .rename_i a b;exact⟨by omega,b⟩
  .cases hz
theorem Dv{k:Nat}{d:SD} (hs:dI (aF vs ms cs fs ts).1 bound=0) (hd:ts[k]?=some d):(newS (aF vs ms cs fs ts).1 fs bound (k:Int) d.1 d.2.1).2=0:=by
 have ht:=Fb (kV (fJ.1 hs).1).2.2;obtain⟨h1,h2⟩:=ht.2 k d hd;have hk:k < ts.length:=(eU.1 hd).1;have hk:k < 8:=by omega
 have hdp:¬bU (k:Int) < 0:=by
  unfold bU iH;rw[if_neg (by omega),if_pos (by omega)];omega
 unfold newS;rw[if_neg (by omega),if_neg hdp,if_neg (by omega),if_neg (by rw[h2];simp)]
theorem adB(hs:dI (aF vs ms cs fs ts).1 bound=0):(qw vs ms cs fs ts).2=0:=by
 unfold qw;rw[if_pos (fJ.1 hs).1]
theorem Vr{S:ZD×Int}{a:ZD} (h:S=(a,c)):rT [Du S.1,cI S.2] [Du a,cI c]:=by subst h;exact⟨rfl,rfl⟩
abbrev Vs:CT:={ ps:=[tK,.int .i64],pre:=λd=>bnd (d.1,()),res:=λd=>([],.iR [Du ((qx d.1.1 d.1.2.1 d.1.2.2.1 d.1.2.2.2.1 d.1.2.2.2.2.1 d.2.1).1),.c (.v (.int .i64 ((qx d.1.1 d.1.2.1 d.1.2.2.1 d.1.2.2.2.1 d.1.2.2.2.2.1 d.2.1).2)))]) }
abbrev aqb(vs:List VD) (ms cs:List ByteArray) (fs:List FD) (ts:List SD) (bound:Int):Nat->Option (St->kH):=λk=>match k with
 | 9=>some λ_=>.inv { α:=Nat,uJ:=[(3,0,56,dQ)],slots:=λk=>[(35,.c (.v (.int .i64 k)))],res:=λk=>[(4,.row 56 dQ (nC (aF vs ms cs fs ts).1 fs bound (ts.take k)))],inv:=λk=>k<=ts.length,meas:=λk=>ts.length - k }
 | _=>none
theorem anF(vs:List VD) (ms cs:List ByteArray) (fs:List FD) (ts:List SD) (bound:Int) (aH:Vs.pre ((vs,ms,cs,fs,ts,()),bound,())):
 let z7:=bnd ((vs,ms,cs,fs,ts,()),());let z9:=aF vs ms cs fs ts;let z8:=qx vs ms cs fs ts bound;let z4:=[Du (z8.fst),cI (z8.snd)];let z10:=qw vs ms cs fs ts;let z11:=bP vs ms cs fs ts;let z3:=[SC.sl I6 z10.fst.fst,SC.sl I6 z10.fst.snd.fst,SC.sl I6.sl z10.fst.snd.snd.fst,SC.sl I6 z10.fst.snd.snd.snd.fst];let z2:=[SC.row (Nat.succ 0).succ.succ.succ,SC.sl I6 z10.fst.fst,SC.sl I6 z10.fst.snd.fst,SC.sl I6.sl z10.fst.snd.snd.fst,SC.sl I6 z10.fst.snd.snd.snd.fst,SC.v (Value.slice none 0 0)];let z6:=λ(x:Nat)=>nC z9.fst fs bound (List.take x ts);let z1:=λ(x:Nat)=>[g0 z11,g0 (au.blk 37 Pz),g0 (au.blk 34 z3),g0 (au.blk 37 z2),g0 (au.row 56 dQ (z6 x))];let z5:=λ(x:Nat) (d:Int×(I6.pair Sh.unit).den)=>newS z9.fst fs bound (x:Int) d.fst d.snd.fst;z7/\br (!decide (dI z9.fst bound=0)) (rT z4 [Du ([],([],[],[],[],()),[],()),cI (dI z9.fst bound)]) (z7/\br (!decide (z10.snd=0)) (rT z4 [Du ([],([],[],[],[],()),[],()),cI (z10.snd)]) ((∃x,x<=ts.length/\(cI 0=cI (x:Int)/\True)/\[g0 z11,g0 (au.blk 37 Pz),g0 (au.blk 34 z3),g0 (au.blk 37 z2),g0 (au.row 56 dQ [])]=(z1 x))/\∀(x:Nat),x<=ts.length->br (decide ((x:Int) < (ts.length:Int))) ((0<=(x:Int)/\(x:Int) < (ts.length:Int))/\∀(d:Int×(I6.pair Sh.unit).den),ts[(x:Int).toNat]?=some d->(z7/\(x:Int)<=(9223372036854775807:Int))/\br (!decide ((z5 x d).snd=0)) (rT z4 [Du ([],([],[],[],[],()),[],()),cI ((z5 x d).snd)]) (oN ((z6 x).length+[(z5 x d).fst].length) 152/\dX IntKind.i64 ((x:Int)+(1:Int))/\∃x',x'<=ts.length/\(cI ((x:Int)+(1:Int))=cI (x':Int)/\True)/\[g0 z11,g0 (au.blk 37 Pz),g0 (au.blk 34 z3),g0 (au.blk 37 z2),g0 (au.row 56 dQ (nC z9.fst fs bound (List.take x ts)++[(z5 x d).fst]))]=(z1 x')/\ts.length - x' < ts.length - x)) (rT z4 [Du (nC z9.fst fs bound (List.take x ts),(z10.fst.fst,z10.fst.snd.fst,z10.fst.snd.snd.fst,z10.fst.snd.snd.snd.fst,()),[],()),cI 0]))):=by
 conv=>zeta
 delta Pz;have hb:bnd ((vs,ms,cs,fs,ts,()),()):=aH;refine⟨hb,ah.2 ⟨λh=>Vr ?_,λh=>⟨hb,ah.2 ⟨λh1=>?_,λh1=>⟨⟨0,by omega,⟨rfl,trivial⟩,rfl⟩,λk hk=>ah.2 ⟨λg=>?_,λg=>Vr ?_⟩⟩⟩⟩⟩⟩
 .have h:dI (aF vs ms cs fs ts).1 bound≠0:=by simpa using h
  unfold qx;rw[if_pos h];rfl
 all_goals have h:dI (aF vs ms cs fs ts).1 bound=0:=by simpa using h
 .exfalso;rw[adB h]at h1;simp at h1
 all_goals have ht:=(Fb (kV (fJ.1 h).1).2.2).1
 .simp only[dV]at g;refine⟨⟨by omega,by omega⟩,λd hd=>⟨⟨hb,by omega⟩,ah.2 ⟨λh2=>?_,λh2=>?_⟩⟩⟩
  all_goals have hd:ts[k]?=some d:=hd
  .exfalso;rw[Dv h hd]at h2;simp at h2
  .have e:=@adA (aF vs ms cs fs ts).1 fs bound ts k d hd;have hlen:=MN (aF vs ms cs fs ts).1 fs bound (ts.take k);rw[mD]at hlen;refine⟨fQ.2 (by rw[hlen];simp only[yP,Qh];omega),ay.2 (by omega),k+1,by omega,⟨rfl,trivial⟩,by rw[e],by omega⟩
 .simp only[gG]at g;rw[zF (i:=k) (by omega)]
  unfold qx;rw[if_neg (by omega)]
theorem Vt:aW cxR.gd 12 Vs:=
 eG (cx:=cxR) (n:=63) (cl:=[(32,vJ),(33,SN),(34,U1)]) (rc:=[.data Vb,.keep]) aA ⟨Vd,ah4,U2,trivial⟩ Tryz.func12 λd hd=>by
  obtain⟨⟨vs,ms,cs,fs,ts,⟨⟩⟩,bound,⟨⟩⟩:=d;exact aS (aqb vs ms cs fs ts bound) (anF vs ms cs fs ts bound hd) (by kernel_rfl)
def Jh(m n:MD):Prop:=m.1.length=n.1.length/\m.2.1.length=n.2.1.length/\m.2.2.1.length=n.2.2.1.length
theorem PO:∀(qs:List (List Int)) (k:Nat) (d r:List Int),qs[k]?=some d->(r++qs.flatten).Perm (d++(qs.set k r).flatten)
 | [],k,d,r,h=>by simp at h
 | q :: qs,0,d,r,h=>by
   simp only[VW,Yo]at h;subst h;simp only[Yw,Qj];exact aeJ _ _ _
 | q :: qs,k+1,d,r,h=>by
   rw[aeM]at h;have ih:=PO qs k d r h;simp only[aj2,Qj];exact(aeJ _ _ _).trans ((ih.append_left q).trans (aeJ _ _ _))
theorem adC{x v:Int} (h:dO m=true) (h0:(writeM m x v).2=0):dO (writeM m x v).1=true/\Jh (writeM m x v).1 m:=by
 obtain⟨vs,os,qs,sg,⟨⟩⟩:=m;obtain⟨q1,q2,q3,q4,q5,q6,q7,q8⟩:vs.length<=8/\os.length<=4/\qs.length<=4/\SS sg/\(∀v∈vs,dh v=true)/\(∀o∈os,-1<=o)/\(∀x∈sg++qs.flatten,0<=x)/\(sg++qs.flatten).Nodup:=dU.1 h;unfold writeM at h0 ⊢;split at h0
 .rename_i g;split at h0
  .rename_i hv;rw[if_pos g,if_pos hv];refine⟨dU.2 ⟨by rw[yg];exact q1,q2,q3,q4,λy hy=>?_,q6,q7,q8⟩,by rw[yg],rfl,rfl⟩
   rcases Ko hy with hy | rfl
   .exact q5 y hy
   .exact hv
  .cases h0
 .rename_i g;exact absurd h0 g
theorem Ip{i f t:Int} (h:dO m=true) (ht:-1<=t) (h0:(iP m i id f t).2=0):dO (iP m i id f t).1=true/\Jh (iP m i id f t).1 m:=by
 obtain⟨vs,os,qs,sg,⟨⟩⟩:=m;obtain⟨q1,q2,q3,q4,q5,q6,q7,q8⟩:vs.length<=8/\os.length<=4/\qs.length<=4/\SS sg/\(∀v∈vs,dh v=true)/\(∀o∈os,-1<=o)/\(∀x∈sg++qs.flatten,0<=x)/\(sg++qs.flatten).Nodup:=dU.1 h;unfold iP at h0 ⊢;split at h0
 .rename_i g;split at h0
  .cases h0
  .rename_i g1;split at h0
   .rename_i g2;rw[if_pos g,if_neg g1,if_pos g2];refine⟨dU.2 ⟨q1,by rw[yg];exact q2,q3,q4,q5,λy hy=>?_,q7,q8⟩,rfl,by rw[yg],rfl⟩
    rcases Ko hy with hy | rfl
    .exact q6 y hy
    .exact ht
   .cases h0
 .rename_i g;exact absurd h0 g
theorem anG(h:dO m=true) (h0:(tY m c id).2=0):dO (tY m c id).1=true/\Jh (tY m c id).1 m:=by
 obtain⟨vs,os,qs,sg,⟨⟩⟩:=m;unfold tY at h0 ⊢;split at h0
 .rename_i g;split at h0
  .cases h0
  .rename_i g1;split at h0
   .cases h0
   .rename_i g2;rw[if_pos g,if_neg g1,if_neg g2];have hg:=(dG.1 g).2;have hg:0<=c/\c < (qs.length:Int):=hg;have iq:c.toNat < qs.length:=by omega
    have hk:qs[c.toNat]?=some (qs[c.toNat]?.getD []):=by rw[kP iq];rfl
    have:=adv h hk (id:=id) (by omega)
    refine⟨?_,rfl,rfl,by rw[yg]⟩
    show dO (vs,os,qs.set c.toNat (qs[c.toNat]?.getD []++[id]),sg,())=true;rw[this];simpa using g2
 .rename_i g;exact absurd h0 g
theorem ajN{n:Int} (h:dO m=true) (h0:(uh m c n).2.2=0):dO (uh m c n).1=true/\Jh (uh m c n).1 m:=by
 obtain⟨vs,os,qs,sg,⟨⟩⟩:=m;obtain⟨q1,q2,q3,q4,q5,q6,q7,q8⟩:vs.length<=8/\os.length<=4/\qs.length<=4/\SS sg/\(∀v∈vs,dh v=true)/\(∀o∈os,-1<=o)/\(∀x∈sg++qs.flatten,0<=x)/\(sg++qs.flatten).Nodup:=dU.1 h;unfold uh at h0 ⊢;split at h0
 .rename_i g;rw[if_pos g];have hg:0<=c/\c < (qs.length:Int):=(dG.1 g).2;have iq:c.toNat < qs.length:=by omega
  have hk:qs[c.toNat]?=some (qs[c.toNat]?.getD []):=by rw[kP iq];rfl
  generalize (jH n (((vs,os,qs,sg,()):MD).2.2.1[c.toNat]?.getD []).length).toNat=j;show dO (vs,os,qs.set c.toNat ((qs[c.toNat]?.getD []).drop j),jZ sg ((qs[c.toNat]?.getD []).take j),())=true/\Jh (vs,os,qs.set c.toNat ((qs[c.toNat]?.getD []).drop j),jZ sg ((qs[c.toNat]?.getD []).take j),()) _;generalize qs[c.toNat]?.getD []=q at hk;have p1:=PO qs c.toNat q (q.drop j) hk;have p2:∀F:List Int,(q++F).Perm (q.drop j++(q.take j++F)):=by
   intro F
   conv=>lhs;rw[<-X0 j q,DJ]
   exact aeJ _ _ _
  have p3:=(List.perm_append_left_iff _).1 (p1.trans (p2 _));obtain⟨a1,a2⟩:=qV (q.take j) sg q4;have p4:(sg++qs.flatten).Perm ((sg++q.take j)++(qs.set c.toNat (q.drop j)).flatten):=by
   rw[DJ];exact p3.append_left sg
  have q8':=p4.nodup_iff.1 q8;have hn:(sg++q.take j).Nodup:=(List.nodup_append.1 q8').1;have hp:(jZ sg (q.take j)).Perm (sg++q.take j):=(List.perm_ext_iff_of_nodup (a1.imp λh=>by omega) hn).2 λx=>by rw[a2 x,Et]
  have hp2:=hp.append_right (qs.set c.toNat (q.drop j)).flatten;exact⟨dU.2 ⟨q1,q2,by rw[yg];exact q3,a1,q5,q6,λx hx=>q7 x (p4.mem_iff.2 (hp2.mem_iff.1 hx)),hp2.nodup_iff.2 q8'⟩,rfl,rfl,by rw[yg]⟩
 .rename_i g;exact absurd h0 g
theorem aiD(h:dO m=true) (h0:(lH m id).2=0):dO (lH m id).1=true/\Jh (lH m id).1 m:=by
 obtain⟨vs,os,qs,sg,⟨⟩⟩:=m;obtain⟨q1,q2,q3,q4,q5,q6,q7,q8⟩:vs.length<=8/\os.length<=4/\qs.length<=4/\SS sg/\(∀v∈vs,dh v=true)/\(∀o∈os,-1<=o)/\(∀x∈sg++qs.flatten,0<=x)/\(sg++qs.flatten).Nodup:=dU.1 h;unfold lH at h0 ⊢;split at h0
 .cases h0
 .rename_i g;split at h0
  .cases h0
  .rename_i g2;rw[if_neg g,if_neg g2];have e:oh (bT sg) [id] false=sg.filter (λx=>decide (x≠id)):=(HY q4).symm
   show dO (vs,os,qs,oh (bT sg) [id] false,())=true/\_;rw[e];have sub:(sg.filter (λx=>decide (x≠id))++qs.flatten).Sublist (sg++qs.flatten):=(List.filter_sublist).append_right _
   exact⟨dU.2 ⟨q1,q2,q3,q4.filter _,q5,q6,λx hx=>q7 x (sub.subset hx),sub.nodup q8⟩,rfl,rfl,rfl⟩
theorem SY{a b c:MD} (h:Jh a b) (g:Jh b c):Jh a c:=⟨h.1.trans g.1,h.2.1.trans g.2.1,h.2.2.trans g.2.2⟩
theorem anH{e:ED} (h:dO m=true) (h0:0<=e.1) (h1:(jI m e).2=0):dO (jI m e).1=true/\Jh (jI m e).1 m:=by
 unfold jI at h1 ⊢;split at h1
 .rename_i g;rw[if_pos g];exact adC h h1
 rename_i g1;rw[if_neg g1];split at h1
 .rename_i g;rw[if_pos g];exact Ip h (by omega) h1
 rename_i g2;rw[if_neg g2];split at h1
 .rename_i g;rw[if_pos g];exact Ip h (by omega) h1
 rename_i g3;rw[if_neg g3];split at h1
 .rename_i g;rw[if_pos g];split at h1
  .rename_i g';rw[if_pos g'];have a:=Ip h (show(-1:Int)<=-1 by omega) g'
   have b:=anG a.1 h1;exact⟨b.1,SY b.2 a.2⟩
  .rename_i g';exact absurd h1 g'
 rename_i g4;rw[if_neg g4];split at h1
 .rename_i g;rw[if_pos g];exact aiD h h1
 rename_i g5;rw[if_neg g5];split at h1
 .rename_i g;rw[if_pos g];exact ajN h h1
 rename_i g6;rw[if_neg g6];split at h1
 .rename_i g;rw[if_pos g];exact ajN h h1
 rename_i g7;rw[if_neg g7];exact⟨h,rfl,rfl,rfl⟩
theorem aiE{p:PD}{e:ED} (h:ny p m=true) (h0:0<=e.1) (h1:(jI m e).2=0):ny p (jI m e).1=true:=by
 have hv:=uf h;obtain⟨a,b1,b2,b3⟩:=anH hv.2.1 h0 h1;unfold ny;rw[a];simp only[A8,dV];exact⟨⟨⟨⟨hv.1,trivial⟩,b1.trans hv.2.2.1⟩,b2.trans hv.2.2.2.1⟩,b3.trans hv.2.2.2.2⟩
theorem S9{u:TD} (h:kW l) (hu:u.1=id) (hn:∀t∈l,t.1≠id):kW (insL l id u):=by
 have h:l.Pairwise λa b=>a.1 < b.1:=Yn.1 h
 refine Yn.2 ?_;unfold insL;have dw:∀{l:List TD},l.Pairwise (λa b=>a.1 < b.1)->∀t∈l.dropWhile (λt=>decide (t.1 < id)),id<=t.1:=by
  intro l
  induction l with
  | nil=>intro _ t ht;cases ht
  | cons a l ih=>
    intro hp t ht;rw[Yj]at hp
    by_cases q:a.1 < id
    .rw[List.dropWhile_cons_of_pos (by simpa using q)]at ht
     exact ih hp.2 t ht
    .rw[List.dropWhile_cons_of_neg (by simpa using q)]at ht
     rcases mM.1 ht with rfl | ht
     .omega
     .have:=hp.1 t ht;omega
 have tw:∀{l:List TD},∀t∈l.takeWhile (λt=>decide (t.1 < id)),t.1 < id:=by
  intro l
  induction l with
  | nil=>intro t ht;cases ht
  | cons a l ih=>
    intro t ht;rw[aeR]at ht;split at ht
    .rename_i q;rcases mM.1 ht with rfl | ht
     .simpa using q
     .exact ih t ht
    .cases ht
 have e:=A96 (p:=λt=>decide (t.1 < id)) (l:=l)
 have h2:=h;rw[<-e,VX]at h2;have dm:∀t∈l.dropWhile (λt=>decide (t.1 < id)),id < t.1:=by
  intro t ht;have a:=dw h t ht;have b:=hn t (by rw[<-e];exact aj0 _ ht)
  omega
 refine VX.2 ⟨VX.2 ⟨h2.1,List.pairwise_singleton _ _,λa ha b hb=>?_⟩,h2.2.1,λa ha b hb=>?_⟩
 .simp at hb;subst hb;have:=tw a ha;omega
 .have q:=dm b hb;rcases Et.1 ha with ha | ha
  .have:=tw a ha;omega
  .simp at ha;subst ha;omega
theorem adD(h:BX vs ms cs fs=0):(vs.length<=8/\ms.length<=4/\cs.length<=4)/\∀v∈vs,dh v.2.1=true:=by
 unfold BX at h;split at h
 .cases h
 .rename_i q;split at h
  .rename_i g;exact⟨by omega,λv hv=>Ti.1 g v hv⟩
  .cases h
theorem aiF(h:(aF vs ms cs fs ts).1=0):ny (vs,ms,cs,fs,ts,()) (qw vs ms cs fs ts).1=true:=by
 obtain⟨⟨h1,h2,h3⟩,hv⟩:=adD (kV h).1;unfold qw;rw[if_pos h];have hf:dO (vs.map (·.2.1),List.replicate ms.length (-1),List.replicate cs.length [],[],())=true:=by
  refine dU.2 ⟨by rw[Yp];exact h1,by rw[MV];exact h2,by rw[MV];exact h3,List.Pairwise.nil,λv hv'=>?_,λo ho=>?_,?_,?_⟩
  .obtain⟨x,hx,rfl⟩:=Qn.1 hv';exact hv x hx
  .rw[(List.mem_replicate.1 ho).2];omega
  all_goals simp
 unfold ny;simp only[hf,h,Yp,MV,decide_true,Bool.and_self]
theorem BJ{k:Nat} (h:(nC e fs bound ts)[k]?=some t):∃d,ts[k]?=some d/\t=(newS e fs bound (k:Int) d.1 d.2.1).1:=by
 unfold nC at h;rw[Ec,aeQ]at h;cases hd:ts[k]? with
 | none=>rw[hd]at h;cases h
 | some d=>rw[hd]at h;simp at h;exact⟨d,rfl,h.symm⟩
theorem Dw{fn r:Int} (h:(newS e fs bound id fn r).2=0):(newS e fs bound id fn r).1.1=id:=by
 unfold newS at h ⊢
 split at h
 .rename_i q;exact absurd h q
 split at h
 .cases h
 split at h
 .cases h
 split at h
 .cases h
 rename_i q1 q2 q3 q4;rw[if_neg q1,if_neg q2,if_neg q3,if_neg q4];exact(wR _ _ _ _).1
def Ji(l:List TD):Prop:=∀t∈l,t.2.2.2.1.length=8
theorem adE(hs:dI (aF vs ms cs fs ts).1 bound=0):VS vs ms cs fs ts bound (nC (aF vs ms cs fs ts).1 fs bound ts) (qw vs ms cs fs ts).1 []/\Ji (nC (aF vs ms cs fs ts).1 fs bound ts):=by
 have hm:∀t∈nC (aF vs ms cs fs ts).1 fs bound ts,vW ms fs bound t/\t.2.2.2.1.length=8:=by
  intro t ht;obtain⟨k,hk⟩:=A90.1 ht;obtain⟨d,hd,rfl⟩:=BJ hk;exact(acN (Dv hs hd)).2
 refine⟨⟨aiF (fJ.1 hs).1,rfl,λt ht=>⟨hs,(hm t ht).1⟩,ade λj a b ha hb=>?_⟩,λt ht=>(hm t ht).2⟩
 obtain⟨d,hd,rfl⟩:=BJ ha;obtain⟨d',hd',rfl⟩:=BJ hb;rw[Dw (Dv hs hd),Dw (Dv hs hd')];omega
theorem MO{bf:List BD} (h:VS vs ms cs fs ts bound l m bf) (h8:Ji l) (hl:l.length<=1000000):iI l:=
 ⟨hl,λt ht=>⟨(Pg (h.2.2.1 t ht).1 (h.2.2.1 t ht).2).1,(Pg (h.2.2.1 t ht).1 (h.2.2.1 t ht).2).2,h8 t ht⟩⟩
theorem adF{k:Nat}{u:TD} (h:kW l) (hk:l[k]?=some t) (hu:u.1=t.1):kW (l.set k u):=by
 unfold kW at h ⊢
 rw[List.map_set];have e:(l.map (·.1))[k]?=some t.1:=by rw[Ec,hk];rfl
 rw[show(l.map (·.1)).set k u.1=l.map (·.1) by rw[hu];exact iw e]
 exact h
theorem Dx{z:ZD} (h:(bJ vs ms cs fs ts bound z id).2.2=0):
 dI (aF vs ms cs fs ts).1 bound=0/\VS vs ms cs fs ts bound z.1 z.2.1 z.2.2.1/\∃t i,jE (aF vs ms cs fs ts).1 ms fs z.1 id=(t,i,true)/\rO z.1 z.2.1 t i=true/\(jI z.2.1 (labS z.2.1 t i)).2=0 /\
  ¬((labS z.2.1 t i).2.2.1=16/\0<=gJ (λu=>decide (u.1=(labS z.2.1 t i).2.2.2.1)) z.1) /\
  bJ vs ms cs fs ts bound z id=((XU (if(labS z.2.1 t i).2.2.1=16 then insL z.1 (labS z.2.1 t i).2.2.2.1 (newS (aF vs ms cs fs ts).1 fs bound (labS z.2.1 t i).2.2.2.1 i.2.2.2.2.1 (t.2.2.2.1.getD i.2.2.1.toNat 0)).1 else z.1) id
  (jY (aF vs ms cs fs ts).1 ms fs bound t (lq i (labS z.2.1 t i))).1,(jI z.2.1 (labS z.2.1 t i)).1,[],()),labS z.2.1 t i,0):=by
 have h1:dI (aF vs ms cs fs ts).1 bound=0:=by
  refine IK.1 λq=>?_
  unfold bJ at h;rw[if_pos q]at h;exact q h
 have h2:vsB vs ms cs fs ts bound z.1 z.2.1 z.2.2.1=true:=by
  refine IK.1 λq=>?_
  unfold bJ at h;rw[if_neg (by omega),if_pos (by simpa using q)]at h;cases h
 cases hr:jE (aF vs ms cs fs ts).1 ms fs z.1 id with
 | mk t x=>
   obtain⟨i,ok⟩:=x;rw[Fa h1 h2 hr]at h ⊢
   split at h
   .cases h
   rename_i g1;split at h
   .cases h
   rename_i g2;split at h
   .cases h
   rename_i g3;rw[if_neg g1,if_neg g2,if_neg g3];simp only[Bool.not_eq_false,A8]at g1;exact⟨h1,jr.1 h2,t,i,by rw[g1.1],g1.2,IK.1 g2,g3,rfl⟩
theorem adG{z:ZD} (h:(bJ vs ms cs fs ts bound z id).2.2=0) (h8:Ji z.1) (hl:z.1.length<=999999) (hM:bK z.2.1):
 VS vs ms cs fs ts bound (bJ vs ms cs fs ts bound z id).1.1 (bJ vs ms cs fs ts bound z id).1.2.1 (bJ vs ms cs fs ts bound z id).1.2.2.1/\Ji (bJ vs ms cs fs ts bound z id).1.1:=by
 obtain⟨hs,hV,t,i,hr,he,hf,hd,e⟩:=Dx h;rw[e];have hT:=MO hV h8 (by omega)
 obtain⟨hm,hid,hlab,hat,hsu,hvl⟩:=Ik hV hM hT hr;have hch:i.1=21->(dM t.1 t.2.2.2.2.2.1).2=true:=λq=>(ou hs hvl hsu hat q (h8 t hm)).1
 have hcz:=Il hs hvl hsu (E8 (m:=z.2.1) (i:=i) hlab.1.2.1 hch);obtain⟨_,c1,c2,_,c3,_⟩:=acO (h8 t hm) hcz;have h0:0<=t.1:=by
  have:=fK hvl;obtain⟨x,fn,pc,rg,st,ch,ph,su,fa,hd,u⟩:=t;exact(lG this.1).1
 have hL:VS vs ms cs fs ts bound (if(labS z.2.1 t i).2.2.1=16 then insL z.1 (labS z.2.1 t i).2.2.2.1 (newS (aF vs ms cs fs ts).1 fs bound (labS z.2.1 t i).2.2.2.1 i.2.2.2.2.1 (t.2.2.2.1.getD i.2.2.1.toNat 0)).1 else z.1) (jI z.2.1 (labS z.2.1 t i)).1 [] /\
  Ji (if(labS z.2.1 t i).2.2.1=16 then insL z.1 (labS z.2.1 t i).2.2.2.1 (newS (aF vs ms cs fs ts).1 fs bound (labS z.2.1 t i).2.2.2.1 i.2.2.2.2.1 (t.2.2.2.1.getD i.2.2.1.toNat 0)).1 else z.1) /\
  ∃u∈(if(labS z.2.1 t i).2.2.1=16 then insL z.1 (labS z.2.1 t i).2.2.2.1 (newS (aF vs ms cs fs ts).1 fs bound (labS z.2.1 t i).2.2.2.1 i.2.2.2.2.1 (t.2.2.2.1.getD i.2.2.1.toNat 0)).1 else z.1),u.1=id:=by
  have lV:=aiE hV.1 (show 0<=(labS z.2.1 t i).1 by rw[kN];exact h0) hf
  split
  .rename_i g;have hi:=(uV hlab.2.2.2.1).1 g;obtain⟨s1,s2⟩:=ou hs hvl hsu hat hi (h8 t hm);rw[<-qW (m:=z.2.1) hi]at s2;obtain⟨_,n1,n2⟩:=acN s2;have n3:=Dw s2;have hmm:∀x∈insL z.1 (labS z.2.1 t i).2.2.2.1 (newS (aF vs ms cs fs ts).1 fs bound (labS z.2.1 t i).2.2.2.1 i.2.2.2.2.1 (t.2.2.2.1.getD i.2.2.1.toNat 0)).1,x∈z.1\/x=(newS (aF vs ms cs fs ts).1 fs bound (labS z.2.1 t i).2.2.2.1 i.2.2.2.2.1 (t.2.2.2.1.getD i.2.2.1.toNat 0)).1:=by
    intro x hx;unfold insL at hx;simp only[Et,Ya]at hx;rcases hx with(hx | hx) | hx
    .exact .inl ((List.takeWhile_sublist _).subset hx)
    .exact .inr hx
    .exact .inl ((List.dropWhile_sublist _).subset hx)
   refine⟨⟨lV,rfl,λx hx=>⟨hs,?_⟩,S9 hV.2.2.2 n3 λx hx q=>hd ⟨g,?_⟩⟩,λx hx=>?_,t,BI hm,hid⟩
   .rcases hmm x hx with hx | rfl
    .exact(hV.2.2.1 x hx).2
    .exact n1
   .have:=(anD (l:=z.1) ⟨x,hx,q⟩);refine IK.1 λq2=>?_
    have:=Yk.1 (qh q2) x hx;simp[q]at this
   .rcases hmm x hx with hx | rfl
    .exact h8 x hx
    .exact n2
  .exact⟨⟨lV,rfl,hV.2.2.1,hV.2.2.2⟩,h8,t,hm,hid⟩
 generalize (if(labS z.2.1 t i).2.2.1=16 then insL z.1 (labS z.2.1 t i).2.2.2.1 (newS (aF vs ms cs fs ts).1 fs bound (labS z.2.1 t i).2.2.2.1 i.2.2.2.2.1 (t.2.2.2.1.getD i.2.2.1.toNat 0)).1 else z.1)=L at hL
 obtain⟨hL,hL8,u,hu,hui⟩:=hL;have q:0<=gJ (λt=>decide (t.1=id)) L:=by
  refine IK.1 λq=>?_
  have:=Yk.1 (qh q) u hu;simp[hui]at this
 obtain⟨k,v,q1,q2,q3,q4⟩:=nS q;have ek:(fP (gJ (λt=>decide (t.1=id)) L) 0).toNat=k:=by rw[q1];unfold fP;split<;>omega
 have hvi:v.1=id:=by simpa using Nk q3
 unfold XU;rw[ek];refine⟨⟨hL.1,rfl,λx hx=>⟨hs,?_⟩,adF hL.2.2.2 q2 (c3.trans (hid.trans hvi.symm))⟩,λx hx=>?_⟩
 .rcases Ko hx with hx | rfl
  .exact(hL.2.2.1 x hx).2
  .exact c1
 .rcases Ko hx with hx | rfl
  .exact hL8 x hx
  .exact c2
def xV:List VD:=[(⟨#[120]⟩,0,())]
def xF:List FD:=[(⟨#[102]⟩,[(1,1,0,0,0,1,0,0,()),(11,2,1,0,0,0,0,1,())],())]
def xT:List SD:=[(0,0,()),(0,0,())]
def xP:PD:=(xV,[],[],xF,xT,())
def xt(id:Int):TD:=(id,0,1,[0,1,0,0,0,0,0,0],0,0,0,1,0,[],())
def xu:TD:=(0,0,2,[0,1,0,0,0,0,0,0],1,0,0,2,0,[],())
def xi:ID:=(11,2,1,0,0,0,0,1,())
def xm(v:Int):MD:=([v],[],[],[],())
def xe(id v:Int):ED:=(id,0,5,0,-1,-1,1,v,v+1,())
theorem ajO:(aF xV [] [] xF xT).1=0:=by rfl
theorem adH(h:b=4\/b=32):dI (aF xV [] [] xF xT).1 b=0:=fJ.2 ⟨ajO,by omega,by omega⟩
theorem aqc(h:b=4\/b=32):nC (aF xV [] [] xF xT).1 xF b xT=[xt 0,xt 1]:=by
 rcases h with rfl | rfl<;>rfl
theorem aqd:(qw xV [] [] xF xT).1=xm 0:=by rfl
theorem PS(h:b=4\/b=32):VS xV [] [] xF xT b [xt 0,xt 1] (xm 0) []/\Ji [xt 0,xt 1]:=by
 have:=adE (adH h);rw[aqc h,aqd]at this;exact this
theorem aqe(h:VS xV [] [] xF xT b l m []) (h8:Ji l) (hl:l.length=2):iI l:=MO h h8 (by omega)
theorem XV(v:Int):bK (xm v):=xY (m:=xm v) rfl
theorem Vu(hV:vW [] xF 32 t) (h1:t.2.2.2.2.2.2.2.1=1):dY (aF xV [] [] xF xT).1 [] xF t=atR xF t.2.1 t.2.2.1:=by
 unfold dY;rw[if_pos ⟨ajO,h1,hV⟩]
theorem anI:jE (aF xV [] [] xF xT).1 [] xF [xt 0,xt 1] 0=(xt 0,xi,true):=by
 have hV:=(PS (.inr rfl)).1.2.2.1 (xt 0) (by simp)
 unfold jE;rw[show kX [xt 0,xt 1] 0=some (xt 0) from rfl]
 show(xt 0,(dY _ _ _ _).1,(dY _ _ _ _).2)=_;rw[Vu hV.2 rfl];rfl
theorem aqf(id:Int):labS (xm 0) (xt id) xi=xe id 0:=by rfl
theorem aqg:jI (xm 0) (xe 0 0)=(xm 1,0):=by
 have hf:dO (xm 0)=true:=(uf (PS (.inl rfl)).1.1).2.1;unfold jI;rw[if_pos (.inl rfl)];unfold writeM;rw[if_pos (dG.2 ⟨hf,by decide,by decide⟩),if_pos (show dh (xe 0 0).2.2.2.2.2.2.2.2.1=true from rfl)]
 rfl
theorem aqh(h:b=4\/b=32):(jY (aF xV [] [] xF xT).1 [] xF b (xt 0) 0).1=xu:=by
 have hV:=(PS h).1.2.2.1 (xt 0) (by simp)
 unfold jY;rw[if_neg (by rw[adH h];simp),if_neg (by simpa using hV.2),if_neg (by decide),if_neg (by decide)]
 rcases h with rfl | rfl<;>rfl
theorem adI(h:b=4\/b=32):bJ xV [] [] xF xT b ([xt 0,xt 1],xm 0,[],()) 0=(([xu,xt 1],xm 1,[],()),xe 0 0,0):=by
 rw[Fa (adH h) (jr.2 (PS h).1) anI];show(if(true && rO [xt 0,xt 1] (xm 0) (xt 0) xi)=false then _ else if(jI (xm 0) (labS (xm 0) (xt 0) xi)).2≠0 then _ else if(labS (xm 0) (xt 0) xi).2.2.1=16/\_ then _ else _)=_
 rw[aqf,aqg,show rO [xt 0,xt 1] (xm 0) (xt 0) xi=true by rfl]
 rw[if_neg (by simp),if_neg (by simp),if_neg (by rintro⟨h,_⟩;exact absurd h (by decide)),if_neg (by decide)]
 rw[show lq xi (xe 0 0)=0 by rfl,aqh h]
 rfl
theorem aiG(h:b=4\/b=32):VS xV [] [] xF xT b [xu,xt 1] (xm 1) []/\Ji [xu,xt 1]:=by
 have:=adG (vs:=xV) (ms:=[]) (cs:=[]) (fs:=xF) (ts:=xT) (bound:=b) (id:=0) (z:=([xt 0,xt 1],xm 0,[],())) (by rw[adI h]) (PS h).2 (by simp) (XV 0)
 rw[adI h]at this;exact this
theorem anJ:fC xV [] [] xF xT [xt 0,xt 1] (xm 0) []=[0,1]:=by
 have hV:=(PS (.inr rfl)).1;unfold fC;rw[if_pos (jr.2 hV)];have e:∀i,vW [] xF 32 (xt i)->XT (aF xV [] [] xF xT).1 [] xF [xt 0,xt 1] (xm 0) (xt i)=true:=by
  intro i hi;unfold XT;rw[Vu hi rfl];rfl
 unfold zy;rw[ajY (e 0 (hV.2.2.1 _ (by simp)).2),ajY (e 1 (hV.2.2.1 _ (by simp)).2)]
 rfl
theorem anK:fC xV [] [] xF xT [xu,xt 1] (xm 1) []=[1]:=by
 have hV:=(aiG (.inr rfl)).1;unfold fC;rw[if_pos (jr.2 hV)];have e:XT (aF xV [] [] xF xT).1 [] xF [xu,xt 1] (xm 1) (xt 1)=true:=by
  unfold XT;rw[Vu (hV.2.2.1 _ (by simp)).2 rfl];rfl
 have e2:XT (aF xV [] [] xF xT).1 [] xF [xu,xt 1] (xm 1) xu=false:=by
  unfold XT dY;rw[if_neg (by rintro⟨_,h,_⟩;exact absurd h (by decide))]
  rfl
 unfold zy;rw[List.filter_cons_of_neg (by rw[e2];simp),ajY e]
 rfl
theorem aqi:yj xV [] [] xF xT [xu,xt 1] (xm 1) [] 1=(xe 1 1,true):=by
 have hV:=(aiG (.inr rfl)).1;have hr:jE (aF xV [] [] xF xT).1 [] xF [xu,xt 1] 1=(xt 1,xi,true):=by
  unfold jE;rw[show kX [xu,xt 1] 1=some (xt 1) from rfl]
  show(xt 1,(dY _ _ _ _).1,(dY _ _ _ _).2)=_;rw[Vu (hV.2.2.1 _ (by simp)).2 rfl];rfl
 unfold yj;rw[if_pos (jr.2 hV),hr];rfl
abbrev ajP:CT:={ ps:=[],pre:=λd=>True,res:=λd=>([],.one (iL tK xP)) }
abbrev aqj  : Nat->Option (St->kH):=λ_=>none
theorem anL :
 let z1:=((0:Int),(0:Int),());rE (bg.one (SV.agg [SC.sl LU xV,SC.sl Sh.str [],SC.sl Sh.str [],SC.sl IG xF,SC.sl nD xT])) (bg.one (SV.agg [SC.sl LU [({ data:=#[(120:UInt8)]:ByteArray },(0:Int),())],SC.sl Sh.str [],SC.sl Sh.str [],SC.sl IG [({ data:=#[(102:UInt8)]:ByteArray },[((1:Int),(1:Int),(0:Int),(0:Int),(0:Int),(1:Int),(0:Int),(0:Int),()),((11:Int),(2:Int),(1:Int),(0:Int),(0:Int),(0:Int),(0:Int),(1:Int),())],())],SC.sl nD [z1,z1]])):=by
 conv=>zeta
 exact⟨rfl,rfl⟩
theorem aiH:aW aU.gd 31 ajP:=
 eG (cx:=aU) (n:=14) (cl:=[]) (rc:=[.data tK]) aA trivial Tryz.func31 λd hd=>by
  obtain⟨⟩:=d;exact aS (aqj ) (anL ) (by kernel_rfl)
abbrev adJ:CT:={ ps:=[.sl (.int .i64),.sl (.int .i64)],pre:=λd=>d.1.length<=1000000,res:=λd=>([],vB (mP d.1 d.2.1)) }
abbrev aqk(l m:List Int):Nat->Option (St->kH):=λk=>match k with
 | 4=>some λ_=>.inv { α:=Nat,slots:=λk=>[(5,.c (.v (.int .i64 k)))],res:=λk=>[],inv:=λk=>k<=(l).length/\∀j < k,l[j]?=m[j]?,meas:=λk=>(l).length - k }
 | _=>none
theorem anM(l m:List Int) (aH:adJ.pre (l,m,())):
 let z1:=λ(x:Nat)=>(x<=l.length/\∀(j:Nat),j < x->l[j]?=m[j]?);br (!decide ((l.length:Int)=(m.length:Int))) (qB (mP l m) false) ((∃x,(z1 x)/\(cI 0=cI (x:Int)/\True)/\([]:List fH)=[])/\∀(x:Nat),(z1 x)->br (decide ((x:Int) < (l.length:Int))) ((0<=(x:Int)/\(x:Int) < (l.length:Int))/\∀(d:Int),l[(x:Int).toNat]?=some d->(0<=(x:Int)/\(x:Int) < (m.length:Int))/\∀(dJ:Int),m[(x:Int).toNat]?=some dJ->br (!decide (d=dJ)) (qB (mP l m) false) (dX IntKind.i64 ((x:Int)+(1:Int))/\∃x',(z1 x')/\(cI ((x:Int)+(1:Int))=cI (x':Int)/\True)/\([]:List fH)=[]/\l.length - x' < l.length - x)) (qB (mP l m) true)):=by
 conv=>zeta
 delta fH;have hp:l.length<=1000000:=aH;have fF:l≠m->qB (mP l m) false:=λq=>⟨rfl,by rw[lK q]⟩
 refine ah.2 ⟨λh=>fF λq=>?_,λh=>?_⟩
 .subst q;simp at h
 simp only[zG,dV]at h;refine⟨⟨0,⟨by omega,λj hj=>by omega⟩,⟨rfl,trivial⟩,rfl⟩,λk hk=>ah.2 ⟨λg=>?_,λg=>?_⟩⟩
 .simp only[dV]at g;refine⟨⟨by omega,by omega⟩,λd hd=>⟨⟨by omega,by omega⟩,λd1 hd1=>ah.2 ⟨λg2=>fF λq=>?_,λg2=>⟨ay.2 (by omega),k+1,⟨by omega,λj hj=>?_⟩,⟨rfl,trivial⟩,rfl,by omega⟩⟩⟩⟩
  .subst q;rw[hd]at hd1;cases hd1;simp at g2
  .by_cases ji:j=k
   .subst ji;have hd:l[j]?=some d:=hd;have hd1:m[j]?=some d1:=hd1;have g2:d=d1:=by simpa using g2
    rw[hd,hd1,g2]
   .exact hk.2 j (by omega)
 simp only[gG]at g;have e:l=m:=by
  apply Ed;intro j
  by_cases hj:j < k
  .exact hk.2 j hj
  .rw[wY (by omega),wY (by omega)]
 exact⟨rfl,by rw[jh e]⟩
theorem aiI:aW aU.gd 18 adJ:=
 eG (cx:=aU) (n:=26) (cl:=[]) (rc:=[]) aA trivial Tryz.func18 λd hd=>by
  obtain⟨l,m,⟨⟩⟩:=d;exact aS (aqk l m) (anM l m hd) (by kernel_rfl)
abbrev adK:CT:={ ps:=[],pre:=λd=>True,res:=λd=>([],vB (true)) }
abbrev aql  : Nat->Option (St->kH):=λ_=>none
theorem anN :
 let z11:=1<=1000000/\0<=1000000/\0<=1000000/\1<=1000000/\2<=1000000/\(∀(x:FD),x∈xF->List.length x.snd.fst<=1000000)/\2<=1000000;let z12:=nC (0:Int) xF (4:Int) xT;let z10:=fC xV [] [] xF xT z12 (List.map (λx=>x.snd.fst) xV,List.replicate 0 (-1:Int),List.replicate 0 [],[],()) [];let z9:=bJ xV [] [] xF xT (4:Int) (nC (0:Int) xF (4:Int) xT,(List.map (λx=>x.snd.fst) xV,List.replicate 0 (-1:Int),List.replicate 0 [],[],()),[],()) (0:Int);let z8:=z9.snd.snd=0;let z2:=true && z9.snd.fst.fst == (0:Int) && z9.snd.fst.snd.fst == (0:Int) && z9.snd.fst.snd.snd.fst == (5:Int) && z9.snd.fst.snd.snd.snd.fst == (0:Int) && z9.snd.fst.snd.snd.snd.snd.fst == (-1:Int) && z9.snd.fst.snd.snd.snd.snd.snd.fst == (-1:Int) && z9.snd.fst.snd.snd.snd.snd.snd.snd.fst == (1:Int) && z9.snd.fst.snd.snd.snd.snd.snd.snd.snd.fst == (0:Int) && z9.snd.fst.snd.snd.snd.snd.snd.snd.snd.snd.fst == (1:Int);let z6:=yj xV [] [] xF xT z9.fst.fst z9.fst.snd.fst z9.fst.snd.snd.fst (1:Int);let z4:=z6.fst.snd.snd.snd.snd.snd.snd.snd.fst=1;let z3:=z6.fst.snd.snd.snd.snd.snd.snd.snd.snd.fst=2;let z5:=z6.fst.fst=1;let z1:=decide z8 && z2 && z6.snd && decide z4 && decide z3 && decide z5 && mP z9.fst z9.fst && !mP (nC (0:Int) xF (4:Int) xT,(List.map (λx=>x.snd.fst) xV,List.replicate 0 (-1:Int),List.replicate 0 [],[],()),[],()) z9.fst;let z7:=fC xV [] [] xF xT z9.fst.fst z9.fst.snd.fst z9.fst.snd.snd.fst;True/\z11/\(true=true->z11/\iI z12/\bK (List.map (λx=>x.snd.fst) xV,List.replicate 0 (-1:Int),List.replicate 0 [],[],()))/\(true=true->z10.length<=1000000)/\br (false || !mP z10 [(0:Int),(1:Int)]) (qB true false) ((z11/\iI z12/\2<=999999/\true=true/\uT [])/\(z11/\iI z9.fst.fst/\bK z9.fst.snd.fst)/\((decide z8 && z2 && z6.snd && decide z4 && decide z3 && decide z5)=true->Py z9.fst)/\((decide z8 && z2 && z6.snd && decide z4 && decide z3 && decide z5 && mP z9.fst z9.fst)=true->Py (nC (0:Int) xF (4:Int) xT,(List.map (λx=>x.snd.fst) xV,List.replicate 0 (-1:Int),List.replicate 0 [],[],()),[],()))/\(z1=true->z11/\iI z9.fst.fst/\bK z9.fst.snd.fst)/\(z1=true->z7.length<=1000000)/\qB true (decide z8 && z2 && z6.snd && decide z4 && decide z3 && decide z5 && mP z9.fst z9.fst && !mP (nC (0:Int) xF (4:Int) xT,(List.map (λx=>x.snd.fst) xV,List.replicate 0 (-1:Int),List.replicate 0 [],[],()),[],()) z9.fst && mP z7 [(1:Int)])):=by
 conv=>zeta
 have e1:nC (0:Int) xF (4:Int) xT=[xt 0,xt 1]:=by rfl
 have e2:((List.map (λx:VD=>x.2.1) xV,List.replicate 0 (-1:Int),List.replicate 0 [],[],()):MD)=xm 0:=by rfl
 have e3:bJ xV [] [] xF xT 4 ([xt 0,xt 1],xm 0,[],()) 0=(([xu,xt 1],xm 1,[],()),xe 0 0,0):=adI (.inl rfl);rw[e1,e2];simp only[e3,anJ,anK,aqi];have hF:∀(x:FD),x∈xF->x.2.1.length<=1000000:=by
  intro x hx;simp only[xF,Ya]at hx;subst hx;decide
 have B:1<=1000000/\0<=1000000/\0<=1000000/\1<=1000000/\2<=1000000/\(∀(x:FD),x∈xF->x.2.1.length<=1000000)/\2<=1000000:=⟨by decide,by decide,by decide,by decide,by decide,hF,by decide⟩
 have t0:iI [xt 0,xt 1]:=aqe (PS (.inl rfl)).1 (PS (.inl rfl)).2 rfl;have t1:iI [xu,xt 1]:=aqe (aiG (.inl rfl)).1 (aiG (.inl rfl)).2 rfl;have bb:uT []:=⟨by decide,λb hb=>nomatch hb⟩
 have ne:mP (([xt 0,xt 1],xm 0,[],()):ZD) ([xu,xt 1],xm 1,[],())=false:=lK λh=>by
  have:=oV (λz:ZD=>z.2.1.1) h
  simp[xm]at this
 have e4:mP ([0,1]:List Int) [0,1]=true:=jh rfl;have e5:mP ([1]:List Int) [1]=true:=jh rfl;have e6:mP (([xu,xt 1],xm 1,[],()):ZD) ([xu,xt 1],xm 1,[],())=true:=jh rfl;refine⟨trivial,B,λ_=>⟨B,t0,XV 0⟩,λ_=>by decide,ah.2 ⟨λh=>?_,λ_=>⟨⟨B,t0,by decide,trivial,bb⟩,⟨B,t1,XV 1⟩,λ_=>⟨t1,XV 1,bb⟩,λ_=>⟨t0,XV 0,bb⟩,λ_=>⟨B,t1,XV 1⟩,λ_=>by decide,wU ?_⟩⟩⟩
 .rw[e4]at h;cases h
 .rw[e5,e6,ne];rfl
theorem aiJ:aW aU.gd 11 adK:=
 eG (cx:=aU) (n:=89) (cl:=[(31,ajP),(12,Vs),(19,Ii),(18,adJ),(21,PN),(16,Vm),(24,J8)]) (rc:=[]) aA ⟨aiH,Vt,MI,aiI,ML,Vo,aiw,trivial⟩ Tryz.func11 λd hd=>by
  obtain⟨⟩:=d;exact aS (aql ) (anN ) (by kernel_rfl)
abbrev aqm(b1 b2:Int) (bl:List (Int×Int×Unit)) (c1 c2:Int) (cl:List (Int×Int×Unit)):Nat->Option (St->kH):=λk=>match k with
 | 4=>some λ_=>.inv { α:=Nat,slots:=λk=>[(5,.c (.v (.int .i64 k)))],res:=λk=>[],inv:=λk=>k<=(bl).length/\∀j < k,bl[j]?=cl[j]?,meas:=λk=>(bl).length - k }
 | _=>none
theorem anO(b1 b2:Int) (bl:List (Int×Int×Unit)) (c1 c2:Int) (cl:List (Int×Int×Unit)) (aH:J7.pre ((b1,b2,bl,()),(c1,c2,cl,()),())):
 let z4:=mP (b1,b2,bl,()) (c1,c2,cl,());let z3:=qB z4 false;let z2:=λ(x:Nat)=>(x<=bl.length/\∀(j:Nat),j < x->bl[j]?=cl[j]?);let z1:=[g0 (au.blk 65 [v6 b1,v6 b2,SC.sl nD bl]),g0 (au.blk 65 [v6 c1,v6 c2,SC.sl nD cl])];br (!decide (b1=c1) || !decide (b2=c2) || !decide ((bl.length:Int)=(cl.length:Int))) z3 ((∃x,(z2 x)/\(cI 0=cI (x:Int)/\True)/\sm z1)/\∀(x:Nat),(z2 x)->br (decide ((x:Int) < (bl.length:Int))) ((0<=(x:Int)/\(x:Int) < (bl.length:Int))/\∀(d:Int×(I6.pair Sh.unit).den),bl[(x:Int).toNat]?=some d->(0<=(x:Int)/\(x:Int) < (cl.length:Int))/\∀(dJ:Int×(I6.pair Sh.unit).den),cl[(x:Int).toNat]?=some dJ->br (!(true && d.fst == dJ.fst && d.snd.fst == dJ.snd.fst)) z3 (dX IntKind.i64 ((x:Int)+(1:Int))/\∃x',(z2 x')/\(cI ((x:Int)+(1:Int))=cI (x':Int)/\True)/\sm z1/\bl.length - x' < bl.length - x)) (qB z4 true)):=by
 conv=>zeta
 have hp:bl.length<=1000000:=aH;have fF:(b1,b2,bl,())≠(c1,c2,cl,())->qB (mP ((b1,b2,bl,()):BD) (c1,c2,cl,())) false:=λq=>⟨rfl,by rw[lK q]⟩
 refine ah.2 ⟨λh=>fF λq=>?_,λh=>?_⟩
 .simp only[VU,and_true]at q;obtain⟨q1,q2,q3⟩:=q;subst q1;subst q2;subst q3;simp at h
 simp only[oI,zG,dV]at h;obtain⟨⟨h1,h2⟩,h3⟩:=h;subst h1;subst h2;refine⟨⟨0,⟨by omega,λj hj=>by omega⟩,⟨rfl,trivial⟩,rfl⟩,λk hk=>ah.2 ⟨λg=>?_,λg=>?_⟩⟩
 .simp only[dV]at g;refine⟨⟨by omega,by omega⟩,λd hd=>⟨⟨by omega,by omega⟩,λd1 hd1=>ah.2 ⟨λg2=>fF λq=>?_,λg2=>⟨ay.2 (by omega),k+1,⟨by omega,λj hj=>?_⟩,⟨rfl,trivial⟩,rfl,by omega⟩⟩⟩⟩
  .simp only[VU,and_true,true_and]at q;subst q;rw[hd]at hd1;cases hd1;simp at g2
  .by_cases ji:j=k
   .subst ji;have hd:bl[j]?=some d:=hd;have hd1:cl[j]?=some d1:=hd1;have g2:d=d1:=by
     obtain⟨x,y,⟨⟩⟩:=d;obtain⟨x1,y1,⟨⟩⟩:=d1;simpa using g2
    rw[hd,hd1,g2]
   .exact hk.2 j (by omega)
 simp only[gG]at g;have e:bl=cl:=by
  apply Ed;intro j
  by_cases hj:j < k
  .exact hk.2 j hj
  .rw[wY (by omega),wY (by omega)]
 exact⟨rfl,by rw[jh (by rw[e])]⟩
theorem aiK:aW aU.gd 39 J7:=
 eG (cx:=aU) (n:=45) (cl:=[]) (rc:=[]) aA trivial Tryz.func39 λd hd=>by
  obtain⟨⟨b1,b2,bl,⟨⟩⟩,⟨c1,c2,cl,⟨⟩⟩,⟨⟩⟩:=d;exact aS (aqm b1 b2 bl c1 c2 cl) (anO b1 b2 bl c1 c2 cl hd) (by kernel_rfl)
end
end Go.Proofs.YtjhenjhcbcalpaaGreatDoor
