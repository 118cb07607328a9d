/- Texts of this claim, part 13: X6, Y11, Y12, X7, X8, X9, X10, X11. Conditions: those of the given rows. -/
import Derived.Test.YtjhenjhcbcalpaaGreatDoorB12
set_option linter.unusedSimpArgs false
set_option linter.unusedVariables false
set_option maxRecDepth 1000000
set_option maxHeartbeats 8000000
namespace Go.Proofs.YtjhenjhcbcalpaaGreatDoor
open Go Go.mQ
noncomputable section
variable {l:List TD}{t u ta tb:TD}{vs:List VD}{ms cs:List ByteArray}{fs:List FD}{ts:List SD}{b a e:ED}{m:MD}{bound id c v:Int}{k:Nat}{i ia ib:ID}
theorem jv(h:kW l) (ht:t∈l):kX l t.1=some t:=by
 have hp:l.Pairwise λa b=>a.1 < b.1:=Yn.1 h
 clear h;unfold kX
 induction l with
 | nil=>cases ht
 | cons a l ih=>
   rw[Yj]at hp;rcases mM.1 ht with rfl | ht
   .simp
   .have:=hp.1 t ht;rw[List.find?_cons_of_neg (by simp;omega)]
    exact ih ht hp.2
theorem aiL{b:Int}{bf:List BD} (hs:dI (aF vs ms cs fs ts).1 b=0) (h:VS vs ms cs fs ts b l m bf):VS vs ms cs fs ts 32 l m bf:=by
 have hz:=fJ.1 hs;exact⟨h.1,h.2.1,λt ht=>⟨fJ.2 ⟨hz.1,by omega,by omega⟩,acP hz.2.2 (h.2.2.1 t ht).2⟩,h.2.2.2⟩
abbrev aqn(th:List TD) (mv mo:List Int) (mq:List (List Int)) (mg:List Int) (bf:List BD) (Eo:List TD) (mv2 PE:List Int) (PG:List (List Int)) (PI:List Int) (EZ:List BD):Nat->Option (St->kH):=λk=>match k with
 | 4=>some λ_=>.inv { α:=Nat,slots:=λk=>[(5,.c (.v (.int .i64 k)))],res:=λ_=>[],inv:=λk=>k<=th.length/\∀j < k,th[j]?=Eo[j]?,meas:=λk=>th.length - k }
 | 9=>some λ_=>.inv { α:=Nat,slots:=λk=>[(6,.c (.v (.int .i64 k)))],res:=λ_=>[],inv:=λk=>k<=bf.length/\∀j < k,bf[j]?=EZ[j]?,meas:=λk=>bf.length - k }
 | _=>none
theorem anP(th:List TD) (mv mo:List Int) (mq:List (List Int)) (mg:List Int) (bf:List BD) (Eo:List TD) (mv2 PE:List Int) (PG:List (List Int)) (PI:List Int) (EZ:List BD) (aH:J8.pre ((th,(mv,mo,mq,mg,()),bf,()),(Eo,(mv2,PE,PG,PI,()),EZ,()),())):
 let z6:=(th.length:Int)=(Eo.length:Int);let z7:=(bf.length:Int)=(EZ.length:Int);let z9:=(mv,mo,mq,mg,());let z3:=mP (th,z9,bf,()) (Eo,(mv2,PE,PG,PI,()),EZ,());let z2:=qB z3 false;let z4:=λ(x:Nat)=>(x<=th.length/\∀(j:Nat),j < x->th[j]?=Eo[j]?);let z1:=[g0 (bZ th mv mo mq mg bf),g0 (au.blk 37 [SC.sl dQ Eo,SC.sl I6 mv2,SC.sl I6 PE,SC.sl I6.sl PG,SC.sl I6 PI,SC.sl yO EZ])];let z8:=λ(x:Nat)=>(x:Int)+(1:Int);let z5:=λ(x:Nat)=>(x<=bf.length/\∀(j:Nat),j < x->bf[j]?=EZ[j]?);((!(!decide z6 || !decide z7))=true->bK z9)/\br (!decide z6 || !decide z7 || !decide (z9=(mv2,PE,PG,PI,()))) z2 ((∃x,(z4 x)/\(cI 0=cI (x:Int)/\True)/\sm z1)/\∀(x:Nat),(z4 x)->br (decide ((x:Int) < (th.length:Int))) ((0<=(x:Int)/\(x:Int) < (th.length:Int))/\∀(d:TD),th[(x:Int).toNat]?=some d->(0<=(x:Int)/\(x:Int) < (Eo.length:Int))/\∀(dJ:TD),Eo[(x:Int).toNat]?=some dJ->List.length d.snd.snd.snd.snd.snd.snd.snd.snd.snd.fst<=1000000/\br (!D7 d dJ) z2 (dX IntKind.i64 (z8 x)/\∃x',(z4 x')/\(cI (z8 x)=cI (x':Int)/\True)/\sm z1/\th.length - x' < th.length - x)) ((∃x,(z5 x)/\(cI 0=cI (x:Int)/\True)/\sm z1)/\∀(x:Nat),(z5 x)->br (decide ((x:Int) < (bf.length:Int))) ((0<=(x:Int)/\(x:Int) < (bf.length:Int))/\∀(d:BD),bf[(x:Int).toNat]?=some d->(0<=(x:Int)/\(x:Int) < (EZ.length:Int))/\∀(dJ:BD),EZ[(x:Int).toNat]?=some dJ->List.length d.snd.snd.fst<=1000000/\br (!mP d dJ) z2 (dX IntKind.i64 (z8 x)/\∃x',(z5 x')/\(cI (z8 x)=cI (x':Int)/\True)/\sm z1/\bf.length - x' < bf.length - x)) (qB z3 true))):=by
 conv=>zeta
 obtain⟨⟨hl,hT⟩,hM,hB,hb⟩:iI th/\bK (mv,mo,mq,mg,())/\uT bf:=aH;have fF:((th,(mv,mo,mq,mg,()),bf,()):ZD)≠(Eo,(mv2,PE,PG,PI,()),EZ,())->qB (mP ((th,(mv,mo,mq,mg,()),bf,()):ZD) (Eo,(mv2,PE,PG,PI,()),EZ,())) false:=λq=>⟨rfl,by rw[lK q]⟩
 refine⟨λ_=>hM,ah.2 ⟨λh=>fF λq=>?_,λh=>?_⟩⟩
 .have q1:th=Eo:=oV (λz:ZD=>z.1) q
  have q2:((mv,mo,mq,mg,()):MD)=(mv2,PE,PG,PI,()):=oV (λz:ZD=>z.2.1) q
  have q3:bf=EZ:=oV (λz:ZD=>z.2.2.1) q
  subst q1;subst q3;rw[Na q2]at h;simp at h
 simp only[oI,zG,dV]at h;obtain⟨⟨h1,h2⟩,h3⟩:=h;refine⟨⟨0,⟨by omega,λj hj=>by omega⟩,⟨rfl,trivial⟩,rfl⟩,λk hk=>ah.2 ⟨λg=>?_,λg=>?_⟩⟩
 .simp only[dV]at g;refine⟨⟨by omega,by omega⟩,λd hd=>⟨⟨by omega,by omega⟩,λd1 hd1=>⟨(λd hd=>(hT d hd).1) d (iJ hd),ah.2 ⟨λg2=>fF λq=>?_,λg2=>⟨ay.2 (by omega),k+1,⟨by omega,λj hj=>?_⟩,⟨rfl,trivial⟩,rfl,by omega⟩⟩⟩⟩⟩
  .have q:th=Eo:=oV (λz:ZD=>z.1) q
   subst q;rw[hd]at hd1;cases hd1;rw[xX.2 rfl]at g2;cases g2
  .by_cases ji:j=k
   .subst ji;have hd:th[j]?=some d:=hd;have hd1:Eo[j]?=some d1:=hd1;have g2:d=d1:=xX.1 (by simpa using g2)
    rw[hd,hd1,g2]
   .exact hk.2 j (by omega)
 simp only[gG]at g;have eth:th=Eo:=by
  apply Ed;intro j
  by_cases hj:j < k
  .exact hk.2 j hj
  .rw[wY (by omega),wY (by omega)]
 clear g hk;refine⟨⟨0,⟨by omega,λj hj=>by omega⟩,⟨rfl,trivial⟩,rfl⟩,λk hk=>ah.2 ⟨λg=>?_,λg=>?_⟩⟩
 .simp only[dV]at g;refine⟨⟨by omega,by omega⟩,λd hd=>⟨⟨by omega,by omega⟩,λd1 hd1=>⟨(λd hd=>hb d hd) d (iJ hd),ah.2 ⟨λg2=>fF λq=>?_,λg2=>⟨ay.2 (by omega),k+1,⟨by omega,λj hj=>?_⟩,⟨rfl,trivial⟩,rfl,by omega⟩⟩⟩⟩⟩
  .have q:bf=EZ:=oV (λz:ZD=>z.2.2.1) q
   subst q;rw[hd]at hd1;cases hd1;rw[jh rfl]at g2;cases g2
  .by_cases ji:j=k
   .subst ji;have hd:bf[j]?=some d:=hd;have hd1:EZ[j]?=some d1:=hd1;have g2:d=d1:=nH.1 (by simpa using g2)
    rw[hd,hd1,g2]
   .exact hk.2 j (by omega)
 simp only[gG]at g;have ebf:bf=EZ:=by
  apply Ed;intro j
  by_cases hj:j < k
  .exact hk.2 j hj
  .rw[wY (by omega),wY (by omega)]
 clear g hk;exact⟨rfl,by rw[jh (by rw[eth,ebf,h3])]⟩
theorem aiM:aW aU.gd 14 J8:=
 eG (cx:=aU) (n:=69) (cl:=[(38,SE),(37,Dq),(39,J7)]) (rc:=[]) aA ⟨ahL,ahP,aiK,trivial⟩ Tryz.func14 λd hd=>by
  obtain⟨⟨th,⟨mv,mo,mq,mg,⟨⟩⟩,bf,⟨⟩⟩,⟨Eo,⟨mv2,PE,PG,PI,⟨⟩⟩,EZ,⟨⟩⟩,⟨⟩⟩:=d;exact aS (aqn th mv mo mq mg bf Eo mv2 PE PG PI EZ) (anP th mv mo mq mg bf Eo mv2 PE PG PI EZ hd) (by kernel_rfl)
abbrev zA(a b:ED):Bool:=true && a.1 == b.1 && a.2.1 == b.2.1 && a.2.2.1 == b.2.2.1 && a.2.2.2.1 == b.2.2.2.1 && a.2.2.2.2.1 == b.2.2.2.2.1 && a.2.2.2.2.2.1 == b.2.2.2.2.2.1 && a.2.2.2.2.2.2.1 == b.2.2.2.2.2.2.1 && a.2.2.2.2.2.2.2.1 == b.2.2.2.2.2.2.2.1 && a.2.2.2.2.2.2.2.2.1 == b.2.2.2.2.2.2.2.2.1
theorem adL(a:ED):zA a a=true:=by unfold zA;simp
theorem BK:zA a b=true↔a=b:=by
 constructor
 .intro h;unfold zA at h;simp only[Iw,A8,yR]at h;obtain⟨a1,a2,a3,a4,a5,a6,a7,a8,a9,a10⟩:=a;obtain⟨b1,b2,b3,b4,b5,b6,b7,b8,b9,b10⟩:=b;simp only at h;obtain⟨⟨⟨⟨⟨⟨⟨⟨h1,h2⟩,h3⟩,h4⟩,h5⟩,h6⟩,h7⟩,h8⟩,h9⟩:=h;subst h1 h2 h3 h4 h5 h6 h7 h8 h9;rfl
 .rintro rfl;exact adL _
theorem aiN{z:ZD} (h:(bJ vs ms cs fs ts bound z id).2.2=0):(bJ vs ms cs fs ts bound z id).1.1.length<=z.1.length+1/\∃e,(bJ vs ms cs fs ts bound z id).1.2.1=(jI z.2.1 e).1:=by
 obtain⟨hs,hV,t,i,hr,he,hf,hd,e⟩:=Dx h;rw[e];refine⟨?_,_,rfl⟩;show(XU _ _ _).length<=_;unfold XU;rw[yg];split
 .rw[Io];omega
 .omega
theorem jw(h:kW l){x:Int}:kX l x=some t↔t∈l/\t.1=x:=by
 constructor
 .intro q;exact⟨ajW q,by simpa using Nk q⟩
 .rintro⟨a,rfl⟩;exact jv h a
theorem oQ(h:kW l){a b:TD} (ha:a∈l) (hb:b∈l) (e:a.1=b.1):a=b:=by
 have h1:=jv h ha;have h2:=jv h hb;rw[e,h2]at h1;exact(MX h1).symm
theorem adM:∀{l k:List TD},kW l->kW k->(∀t,t∈l↔t∈k)->l=k
 | [],[],_,_,_=>rfl
 | [],b :: k,_,_,e=>by have:=(e b).2 (List.mem_cons_self ..);cases this
 | a :: l,[],_,_,e=>by have:=(e a).1 (List.mem_cons_self ..);cases this
 | a :: l,b :: k,h,g,e=>by
   have h':(a :: l).Pairwise λx y=>x.1 < y.1:=Yn.1 h
   have g':(b :: k).Pairwise λx y=>x.1 < y.1:=Yn.1 g
   rw[Yj]at h' g';have eab:a=b:=by
    rcases mM.1 ((e a).1 (List.mem_cons_self ..)) with q | q
    .exact q
    rcases mM.1 ((e b).2 (List.mem_cons_self ..)) with p | p
    .exact p.symm
    have:=g'.1 a q;have:=h'.1 b p;omega
   subst eab;refine oV (a :: ·) (adM (Yn.2 h'.2) (Yn.2 g'.2) λt=>?_)
   constructor
   .intro ht;rcases mM.1 ((e t).1 (List.mem_cons_of_mem _ ht)) with rfl | q
    .have:=h'.1 t ht;omega
    .exact q
   .intro ht;rcases mM.1 ((e t).2 (List.mem_cons_of_mem _ ht)) with rfl | q
    .have:=g'.1 t ht;omega
    .exact q
theorem anQ{k:List TD} (h:kW l) (g:kW k) (e:∀x,kX l x=kX k x):l=k:=
 adM h g λt=>⟨λht=>((jw g).1 ((e t.1).symm.trans (jv h ht))).1,λht=>((jw h).1 ((e t.1).trans (jv g ht))).1⟩
theorem Vw(h:kW l) (ht:t∈l) (u:TD):∃k,l[k]?=some t/\XU l t.1 u=l.set k u:=by
 have q:0<=gJ (λx=>decide (x.1=t.1)) l:=by
  refine IK.1 λq=>?_
  have:=Yk.1 (qh q) t ht;simp at this
 obtain⟨k,v,q1,q2,q3,q4⟩:=nS q;have ek:(fP (gJ (λx=>decide (x.1=t.1)) l) 0).toNat=k:=by rw[q1];unfold fP;split<;>omega
 have hv:v=t:=oQ h (iJ q2) ht (by simpa using Nk q3)
 exact⟨k,by rw[q2,hv],by unfold XU;rw[ek]⟩
theorem anR(h:kW l) (ht:t∈l) (hu:u.1=t.1):kW (XU l t.1 u):=by
 obtain⟨k,e1,e2⟩:=Vw h ht u;rw[e2];exact adF h e1 hu
theorem Vx(h:kW l) (ht:t∈l) (hu:u.1=t.1) (x:Int):kX (XU l t.1 u) x=if x=t.1 then some u else kX l x:=by
 have hs:=anR h ht hu;obtain⟨k,e1,e2⟩:=Vw h ht u;have iq:=(eU.1 e1).1
 by_cases q:x=t.1
 .rw[if_pos q];exact(jw hs).2 ⟨by rw[e2];exact iJ (by rw[qm iq]),hu.trans q.symm⟩
 .rw[if_neg q];apply Option.ext;intro y;rw[jw hs,jw h,e2];constructor
  .rintro⟨hy,rfl⟩;rcases Ko hy with hy | rfl
   .exact⟨hy,rfl⟩
   .exact absurd hu q
  .rintro⟨hy,rfl⟩;refine⟨?_,rfl⟩;obtain⟨j,hj⟩:=A90.1 hy;have hne:k≠j:=by rintro rfl;rw[e1]at hj;cases hj;exact q rfl
   exact iJ (by rw[mJ hne];exact hj)
theorem BL:t∈insL l id u↔t∈l\/t=u:=by
 constructor
 .intro hx;unfold insL at hx;simp only[Et,Ya]at hx;rcases hx with(hx | hx) | hx
  .exact .inl ((List.takeWhile_sublist _).subset hx)
  .exact .inr hx
  .exact .inl ((List.dropWhile_sublist _).subset hx)
 .rintro(h | rfl)
  .exact BI h
  .unfold insL;simp
theorem adN(h:kW l) (hu:u.1=c) (hn:∀t∈l,t.1≠c) (x:Int):kX (insL l c u) x=if x=c then some u else kX l x:=by
 have hs:=S9 h hu hn
 by_cases q:x=c
 .rw[if_pos q];exact(jw hs).2 ⟨BL.2 (.inr rfl),hu.trans q.symm⟩
 .rw[if_neg q];apply Option.ext;intro y;rw[jw hs,jw h,BL];constructor
  .rintro⟨hy | rfl,rfl⟩
   .exact⟨hy,rfl⟩
   .exact absurd hu q
  .rintro⟨hy,rfl⟩;exact⟨.inl hy,rfl⟩
theorem adO:(0<=gJ (λu=>decide (u.1=c)) l)↔∃t∈l,t.1=c:=by
 constructor
 .intro q;obtain⟨k,v,q1,q2,q3,q4⟩:=nS q;exact⟨v,iJ q2,by simpa using Nk q3⟩
 .rintro⟨t,ht,e⟩;refine IK.1 λq=>?_
  have:=Yk.1 (qh q) t ht;simp[e]at this
theorem wW{z:ZD} (h8:Ji z.1) (hl:z.1.length<=999999) (hM:bK z.2.1) (h:(bJ vs ms cs fs ts bound z id).2.2=0):
 ∃t i,kX z.1 id=some t/\dY (aF vs ms cs fs ts).1 ms fs t=(i,true)/\rO z.1 z.2.1 t i=true/\(jI z.2.1 (labS z.2.1 t i)).2=0 /\
   (bJ vs ms cs fs ts bound z id).1.2.1=(jI z.2.1 (labS z.2.1 t i)).1/\(bJ vs ms cs fs ts bound z id).2.1=labS z.2.1 t i /\
   ((labS z.2.1 t i).2.2.1=16->∀u∈z.1,u.1≠(labS z.2.1 t i).2.2.2.1) /\
   (bJ vs ms cs fs ts bound z id).1.1.length=z.1.length+(if(labS z.2.1 t i).2.2.1=16 then 1 else 0) /\
   ∀x,kX (bJ vs ms cs fs ts bound z id).1.1 x=if x=id then some (jY (aF vs ms cs fs ts).1 ms fs bound t (lq i (labS z.2.1 t i))).1
     else if(labS z.2.1 t i).2.2.1=16/\x=(labS z.2.1 t i).2.2.2.1 then some (newS (aF vs ms cs fs ts).1 fs bound (labS z.2.1 t i).2.2.2.1 i.2.2.2.2.1 (t.2.2.2.1.getD i.2.2.1.toNat 0)).1 else kX z.1 x:=by
 obtain⟨hs,hV,t,i,hr,he,hf,hd,e⟩:=Dx h;have hT:=MO hV h8 (by omega)
 obtain⟨hm,hid,hlab,hat,hsu,hvl⟩:=Ik hV hM hT hr;have hch:i.1=21->(dM t.1 t.2.2.2.2.2.1).2=true:=λq=>(ou hs hvl hsu hat q (h8 t hm)).1
 have hcz:=Il hs hvl hsu (E8 (m:=z.2.1) (i:=i) hlab.1.2.1 hch);obtain⟨_,c1,c2,_,c3,_⟩:=acO (h8 t hm) hcz;have hft:kX z.1 id=some t:=(jw hV.2.2.2).2 ⟨hm,hid⟩;have hpn:dY (aF vs ms cs fs ts).1 ms fs t=(i,true):=by
  unfold jE at hr;rw[hft]at hr;simp only[VU,true_and]at hr;exact Prod.ext hr.1 hr.2
 rw[e];subst hid;have hn:(labS z.2.1 t i).2.2.1=16->∀u∈z.1,u.1≠(labS z.2.1 t i).2.2.2.1:=λg u hu q=>hd ⟨g,adO.2 ⟨u,hu,q⟩⟩
 refine⟨t,i,hft,hpn,he,hf,rfl,rfl,hn,?_,λx=>?_⟩
 .show(XU _ _ _).length=_;unfold XU;rw[yg];split
  .rw[Io]
  .rfl
 show kX (XU _ _ _) x=_
 by_cases g:(labS z.2.1 t i).2.2.1=16
 .have hi:=(uV hlab.2.2.2.1).1 g;obtain⟨s1,s2⟩:=ou hs hvl hsu hat hi (h8 t hm);rw[<-qW (m:=z.2.1) hi]at s2;have n3:=Dw s2;rw[if_pos g,Vx (S9 hV.2.2.2 n3 (hn g)) (BI hm) c3,adN hV.2.2.2 n3 (hn g)]
  by_cases q:x=t.1
  .rw[if_pos q,if_pos q]
  .rw[if_neg q,if_neg q]
   by_cases q2:x=(labS z.2.1 t i).2.2.2.1
   .rw[if_pos q2,if_pos ⟨g,q2⟩]
   .rw[if_neg q2,if_neg λp=>q2 p.2]
 .rw[if_neg g,Vx hV.2.2.2 hm c3]
  by_cases q:x=t.1
  .rw[if_pos q,if_pos q]
  .rw[if_neg q,if_neg q,if_neg λp=>g p.1]
theorem Tc{z:ZD} (hs:dI (aF vs ms cs fs ts).1 bound=0) (hV:VS vs ms cs fs ts bound z.1 z.2.1 z.2.2.1)
 (hft:kX z.1 id=some t) (hp:dY (aF vs ms cs fs ts).1 ms fs t=(i,true)) (he:rO z.1 z.2.1 t i=true) (hf:(jI z.2.1 (labS z.2.1 t i)).2=0) (hn:(labS z.2.1 t i).2.2.1=16->∀u∈z.1,u.1≠(labS z.2.1 t i).2.2.2.1):
 (bJ vs ms cs fs ts bound z id).2.2=0:=by
 have hr:jE (aF vs ms cs fs ts).1 ms fs z.1 id=(t,i,true):=by
  unfold jE;rw[hft];show(t,(dY _ ms fs t).1,(dY _ ms fs t).2)=_;rw[hp]
 rw[Fa hs (jr.2 hV) hr,if_neg (by rw[he];simp),if_neg (by omega),if_neg]
 rintro⟨g,q⟩;obtain⟨u,hu,e⟩:=adO.1 q;exact hn g u hu e
def Yh(e:ED) (vs:List Int):List Int:=if e.2.2.1=5\/e.2.2.1=2 then vs.set e.2.2.2.1.toNat e.2.2.2.2.2.2.2.2.1 else vs
def vU(e:ED) (os:List Int):List Int:=
 if e.2.2.1=9\/(e.2.2.1=11/\e.2.2.2.2.2.2.2.1≠0) then os.set e.2.2.2.1.toNat e.1 else if e.2.2.1=10 then os.set e.2.2.2.1.toNat (-1) else if e.2.2.1=12 then os.set e.2.2.2.2.1.toNat (-1) else os
def Ep(e:ED) (qs:List (List Int)):List (List Int):=
 if e.2.2.1=12 then qs.set e.2.2.2.1.toNat (qs[e.2.2.2.1.toNat]?.getD []++[e.1]) else if e.2.2.1=14 then qs.set e.2.2.2.1.toNat ((qs[e.2.2.2.1.toNat]?.getD []).drop 1) else if e.2.2.1=15 then qs.set e.2.2.2.1.toNat [] else qs
def MP(e:ED) (qs:List (List Int)) (sg:List Int):List Int:=
 if e.2.2.1=13 then oh (bT sg) [e.1] false else if e.2.2.1=14 then jZ sg ((qs[e.2.2.2.1.toNat]?.getD []).take 1) else if e.2.2.1=15 then jZ sg (qs[e.2.2.2.1.toNat]?.getD []) else sg
def Ei(e:ED) (m:MD):Prop:=
 (e.2.2.1=5\/e.2.2.1=2->(0<=e.2.2.2.1/\e.2.2.2.1 < (m.1.length:Int))/\dh e.2.2.2.2.2.2.2.2.1=true) /\
 (e.2.2.1=9\/(e.2.2.1=11/\e.2.2.2.2.2.2.2.1≠0)->(0<=e.2.2.2.1/\e.2.2.2.1 < (m.2.1.length:Int))/\m.2.1[e.2.2.2.1.toNat]?.getD 0 = -1) /\
 (e.2.2.1=10->(0<=e.2.2.2.1/\e.2.2.2.1 < (m.2.1.length:Int))/\m.2.1[e.2.2.2.1.toNat]?.getD 0=e.1) /\
 (e.2.2.1=12->((0<=e.2.2.2.2.1/\e.2.2.2.2.1 < (m.2.1.length:Int))/\m.2.1[e.2.2.2.2.1.toNat]?.getD 0=e.1)/\(0<=e.2.2.2.1/\e.2.2.2.1 < (m.2.2.1.length:Int))/\kM m e.1=false) /\
 (e.2.2.1=13->gq m.2.2.2.1 e.1=true)/\(e.2.2.1=14\/e.2.2.1=15->0<=e.2.2.2.1/\e.2.2.2.1 < (m.2.2.1.length:Int))
theorem XW(hf:dO m=true){x:Int}:(writeM m x v).2=0↔(0<=x/\x < (m.1.length:Int))/\dh v=true:=by
 unfold writeM
 by_cases g:je m x m.1.length=0
 .have g':=(dG.1 g).2;rw[if_pos g]
  by_cases q:dh v=true
  .rw[if_pos q];exact⟨λ_=>⟨g',q⟩,λ_=>rfl⟩
  .rw[if_neg q];exact⟨λh=>(by cases h),λh=>absurd h.2 q⟩
 .rw[if_neg g];exact⟨λh=>absurd h g,λh=>absurd (dG.2 ⟨hf,h.1⟩) g⟩
theorem adP{x:Int} (h:(writeM m x v).2=0):(writeM m x v).1=(m.1.set x.toNat v,m.2):=by
 unfold writeM at h ⊢
 split at h
 .rename_i g;rw[if_pos g];split at h
  .rename_i q;rw[if_pos q]
  .cases h
 .rename_i g;exact absurd h g
theorem Fe(hf:dO m=true){x f t:Int} (h0:0<=id):(iP m x id f t).2=0↔(0<=x/\x < (m.2.1.length:Int))/\m.2.1[x.toNat]?.getD 0=f:=by
 unfold iP
 by_cases g:je m x m.2.1.length=0
 .have g':=(dG.1 g).2;rw[if_pos g,if_neg (by omega)]
  by_cases q:m.2.1[x.toNat]?.getD 0=f
  .rw[if_pos q];exact⟨λ_=>⟨g',q⟩,λ_=>rfl⟩
  .rw[if_neg q];exact⟨λh=>(by cases h),λh=>absurd h.2 q⟩
 .rw[if_neg g];exact⟨λh=>absurd h g,λh=>absurd (dG.2 ⟨hf,h.1⟩) g⟩
theorem Iq{x f t:Int} (h:(iP m x id f t).2=0):(iP m x id f t).1=(m.1,m.2.1.set x.toNat t,m.2.2):=by
 unfold iP at h ⊢
 split at h
 .rename_i g;rw[if_pos g];split at h
  .cases h
  .rename_i g2;rw[if_neg g2];split at h
   .rename_i q;rw[if_pos q]
   .cases h
 .rename_i g;exact absurd h g
theorem Vy(hf:dO m=true) (h0:0<=id):(tY m c id).2=0↔(0<=c/\c < (m.2.2.1.length:Int))/\kM m id=false:=by
 unfold tY
 by_cases g:je m c m.2.2.1.length=0
 .have g':=(dG.1 g).2;rw[if_pos g,if_neg (by omega)]
  by_cases q:kM m id=true
  .rw[if_pos q];exact⟨λh=>(by cases h),λh=>by rw[h.2]at q;cases q⟩
  .rw[if_neg q];exact⟨λ_=>⟨g',by simpa using q⟩,λ_=>rfl⟩
 .rw[if_neg g];exact⟨λh=>absurd h g,λh=>absurd (dG.2 ⟨hf,h.1⟩) g⟩
theorem anS(h:(tY m c id).2=0):(tY m c id).1=(m.1,m.2.1,m.2.2.1.set c.toNat (m.2.2.1[c.toNat]?.getD []++[id]),m.2.2.2):=by
 unfold tY at h ⊢
 split at h
 .rename_i g;rw[if_pos g];split at h
  .cases h
  .rename_i g2;rw[if_neg g2];split at h
   .cases h
   .rename_i q;rw[if_neg q]
 .rename_i g;exact absurd h g
theorem adQ(hf:dO m=true):(lH m id).2=0↔gq m.2.2.2.1 id=true:=by
 unfold lH;rw[if_neg (by rw[hf];simp)]
 by_cases q:gq m.2.2.2.1 id=false
 .rw[if_pos q,q];simp
 .rw[if_neg q];simpa using q
theorem aiO(h:(lH m id).2=0):(lH m id).1=(m.1,m.2.1,m.2.2.1,oh (bT m.2.2.2.1) [id] false,()):=by
 unfold lH at h ⊢
 split at h
 .cases h
 .rename_i g;rw[if_neg g];split at h
  .cases h
  .rename_i g;rw[if_neg g]
theorem MQ(hf:dO m=true){n:Int}:(uh m c n).2.2=0↔0<=c/\c < (m.2.2.1.length:Int):=by
 unfold uh
 by_cases g:je m c m.2.2.1.length=0
 .rw[if_pos g];exact⟨λ_=>(dG.1 g).2,λ_=>rfl⟩
 .rw[if_neg g];exact⟨λh=>absurd h g,λh=>absurd (dG.2 ⟨hf,h⟩) g⟩
theorem ajQ{n:Int} (h:(uh m c n).2.2=0){q:List Int} (hq:m.2.2.1[c.toNat]?.getD []=q):(uh m c n).1=(m.1,m.2.1,m.2.2.1.set c.toNat (q.drop (jH n q.length).toNat),jZ m.2.2.2.1 (q.take (jH n q.length).toNat),()):=by
 subst hq;unfold uh at h ⊢
 split at h
 .rename_i g;rw[if_pos g]
 .rename_i g;exact absurd h g
theorem aiP{qs:List (List Int)}{c:Nat}{q:List Int} (h:qs[c]?.getD []=q):(jH (lI qs) q.length).toNat=q.length:=by
 have:(q.length:Int)<=lI qs:=by
  cases hc:qs[c]? with
  | none=>rw[hc]at h;subst h;exact(EX qs 0).1
  | some r=>rw[hc]at h;subst h;exact(EX qs 0).2 r (iJ hc)
 unfold jH;split<;>omega
theorem adR(q:List Int):q.drop (jH 1 q.length).toNat=q.drop 1/\q.take (jH 1 q.length).toNat=q.take 1:=by
 cases q with
 | nil=>exact⟨by simp,by simp⟩
 | cons a q=>
   have:(jH 1 (a :: q).length).toNat=1:=by unfold jH;simp only[yP];split<;>omega
   rw[this];exact⟨rfl,rfl⟩
theorem Fg(hf:dO m=true) (h0:0<=e.1):(jI m e).2=0↔Ei e m:=by
 unfold jI Ei
 by_cases k1:e.2.2.1=5\/e.2.2.1=2
 .rw[if_pos k1,XW hf];exact⟨λh=>⟨λ_=>h,λq=>by omega,λq=>by omega,λq=>by omega,λq=>by omega,λq=>by omega⟩,λh=>h.1 k1⟩
 rw[if_neg k1]
 by_cases k2:e.2.2.1=9\/(e.2.2.1=11/\e.2.2.2.2.2.2.2.1≠0)
 .rw[if_pos k2,Fe hf h0];exact⟨λh=>⟨λq=>by omega,λ_=>h,λq=>by omega,λq=>by omega,λq=>by omega,λq=>by omega⟩,λh=>h.2.1 k2⟩
 rw[if_neg k2]
 by_cases k3:e.2.2.1=10
 .rw[if_pos k3,Fe hf h0];exact⟨λh=>⟨λq=>by omega,λq=>by omega,λ_=>h,λq=>by omega,λq=>by omega,λq=>by omega⟩,λh=>h.2.2.1 k3⟩
 rw[if_neg k3]
 by_cases k4:e.2.2.1=12
 .rw[if_pos k4];constructor
  .intro h;refine⟨λq=>by omega,λq=>by omega,λq=>by omega,λ_=>?_,λq=>by omega,λq=>by omega⟩
   by_cases q:(iP m e.2.2.2.2.1 e.1 e.1 (-1)).2=0
   .rw[if_pos q]at h;have a:=Ip hf (by omega) q
    have b:=(Vy a.1 h0).1 h;rw[Iq q]at b;exact⟨(Fe hf h0).1 q,b.1,b.2⟩
   .rw[if_neg q]at h;exact absurd h q
  .intro h;obtain⟨a,b,c⟩:=h.2.2.2.1 k4;have q:=(Fe hf h0 (t:=-1)).2 a;rw[if_pos q,Vy (Ip hf (by omega) q).1 h0,Iq q]
   exact⟨b,c⟩
 rw[if_neg k4]
 by_cases k5:e.2.2.1=13
 .rw[if_pos k5,adQ hf];exact⟨λh=>⟨λq=>by omega,λq=>by omega,λq=>by omega,λq=>by omega,λ_=>h,λq=>by omega⟩,λh=>h.2.2.2.2.1 k5⟩
 rw[if_neg k5]
 by_cases k6:e.2.2.1=14
 .rw[if_pos k6];exact⟨λh=>⟨λq=>by omega,λq=>by omega,λq=>by omega,λq=>by omega,λq=>by omega,λ_=>(MQ hf).1 h⟩,λh=>(MQ hf).2 (h.2.2.2.2.2 (.inl k6))⟩
 rw[if_neg k6]
 by_cases k7:e.2.2.1=15
 .rw[if_pos k7];exact⟨λh=>⟨λq=>by omega,λq=>by omega,λq=>by omega,λq=>by omega,λq=>by omega,λ_=>(MQ hf).1 h⟩,λh=>(MQ hf).2 (h.2.2.2.2.2 (.inr k7))⟩
 rw[if_neg k7];exact⟨λ_=>⟨λq=>by omega,λq=>by omega,λq=>by omega,λq=>by omega,λq=>by omega,λq=>by omega⟩,λ_=>rfl⟩
theorem xZ(hf:dO m=true) (h0:0<=e.1) (h:(jI m e).2=0):(jI m e).1=(Yh e m.1,vU e m.2.1,Ep e m.2.2.1,MP e m.2.2.1 m.2.2.2.1,()):=by
 obtain⟨mv,mo,mq,mg,⟨⟩⟩:=m;unfold jI at h ⊢
 unfold Yh vU Ep MP
 by_cases k1:(e.2.2.1=5\/e.2.2.1=2)
 .have k2:¬(e.2.2.1=9\/(e.2.2.1=11/\e.2.2.2.2.2.2.2.1≠0)):=by omega
  have k3:¬e.2.2.1=10:=by omega
  have k4:¬e.2.2.1=12:=by omega
  have k5:¬e.2.2.1=13:=by omega
  have k6:¬e.2.2.1=14:=by omega
  have k7:¬e.2.2.1=15:=by omega
  simp only[if_pos k1,if_neg k2,if_neg k3,if_neg k4,if_neg k5,if_neg k6,if_neg k7]at h ⊢
  rw[adP h]
 by_cases k2:(e.2.2.1=9\/(e.2.2.1=11/\e.2.2.2.2.2.2.2.1≠0))
 .have k3:¬e.2.2.1=10:=by omega
  have k4:¬e.2.2.1=12:=by omega
  have k5:¬e.2.2.1=13:=by omega
  have k6:¬e.2.2.1=14:=by omega
  have k7:¬e.2.2.1=15:=by omega
  simp only[if_neg k1,if_pos k2,if_neg k3,if_neg k4,if_neg k5,if_neg k6,if_neg k7]at h ⊢
  rw[Iq h]
 by_cases k3:e.2.2.1=10
 .have k4:¬e.2.2.1=12:=by omega
  have k5:¬e.2.2.1=13:=by omega
  have k6:¬e.2.2.1=14:=by omega
  have k7:¬e.2.2.1=15:=by omega
  simp only[if_neg k1,if_neg k2,if_pos k3,if_neg k4,if_neg k5,if_neg k6,if_neg k7]at h ⊢
  rw[Iq h]
 by_cases k4:e.2.2.1=12
 .have k5:¬e.2.2.1=13:=by omega
  have k6:¬e.2.2.1=14:=by omega
  have k7:¬e.2.2.1=15:=by omega
  simp only[if_neg k1,if_neg k2,if_neg k3,if_pos k4,if_neg k5,if_neg k6,if_neg k7]at h ⊢
  by_cases q:(iP (mv,mo,mq,mg,()) e.2.2.2.2.1 e.1 e.1 (-1)).2=0
  .rw[if_pos q]at h ⊢
   rw[anS h,Iq q]
  .rw[if_neg q]at h;exact absurd h q
 by_cases k5:e.2.2.1=13
 .have k6:¬e.2.2.1=14:=by omega
  have k7:¬e.2.2.1=15:=by omega
  simp only[if_neg k1,if_neg k2,if_neg k3,if_neg k4,if_pos k5,if_neg k6,if_neg k7]at h ⊢
  rw[aiO h]
 by_cases k6:e.2.2.1=14
 .have k7:¬e.2.2.1=15:=by omega
  simp only[if_neg k1,if_neg k2,if_neg k3,if_neg k4,if_neg k5,if_pos k6,if_neg k7]at h ⊢
  rw[ajQ h rfl,(adR _).1,(adR _).2]
 by_cases k7:e.2.2.1=15
 .skip
  simp only[if_neg k1,if_neg k2,if_neg k3,if_neg k4,if_neg k5,if_neg k6,if_pos k7]at h ⊢
  have e1:=aiP (qs:=mq) (c:=e.2.2.2.1.toNat) rfl;rw[ajQ h rfl];show(mv,mo,mq.set _ (List.drop (jH (lI mq) _).toNat _),jZ mg (List.take (jH (lI mq) _).toNat _),())=_;rw[e1,List.drop_length,Yy]
 simp only[if_neg k1,if_neg k2,if_neg k3,if_neg k4,if_neg k5,if_neg k6,if_neg k7]
theorem top_more{rest:ID->TD} (hr:∀i,(rest i).2.2.2.2.2.1=t.2.2.2.2.2.1/\(rest i).2.2.2.2.2.2.1=t.2.2.2.2.2.2.1):
 (topS fs bound t rest).2.2.2.2.2.1=t.2.2.2.2.2.1/\(topS fs bound t rest).2.2.2.2.2.2.1=t.2.2.2.2.2.2.1:=by
 obtain⟨id,fn,pc,rg,st,ch,ph,su,fa,hd,u⟩:=t;unfold topS;simp only;split
 .exact⟨rfl,rfl⟩
 split
 .repeat' split
  all_goals exact⟨rfl,rfl⟩
 .exact hr _
theorem adS(fs:List FD) (bound:Int):∀(k:Nat) (t:TD),(eH fs bound k t).2.2.2.2.2.1=t.2.2.2.2.2.1/\(eH fs bound k t).2.2.2.2.2.2.1=t.2.2.2.2.2.2.1:=by
 intro k
 induction k with
 | zero=>
   intro t;rw[eH];refine top_more λi=>?_
   obtain⟨id,fn,pc,rg,st,ch,ph,su,fa,hd,u⟩:=t;exact⟨rfl,rfl⟩
 | succ k ih=>
   intro t;rw[eH];refine top_more λi=>?_
   have hk:=Bv t i;have:=ih (fU t i).1;split
   .exact⟨this.1.trans hk.2.2.2.1,this.2.trans hk.2.2.2.2.1⟩
   .exact⟨hk.2.2.2.1,hk.2.2.2.2.1⟩
theorem adT(hi:qp fs t.2.1 t.2.2.1=some i) (hv:ng i.1=true) (k:Nat):(eH fs bound k t).2.1=t.2.1/\(eH fs bound k t).2.2.1=t.2.2.1:=by
 obtain⟨id,fn,pc,rg,st,ch,ph,su,fa,hd,u⟩:=t;have hi:qp fs fn pc=some i:=hi;rw[UW hi hv]
 repeat' split
 all_goals exact⟨rfl,rfl⟩
theorem anT{e r:Int} (hs:dI e bound=0) (hV:vW ms fs bound t) (h1:t.2.2.2.2.2.2.2.1=1) (hi:qp fs t.2.1 t.2.2.1=some i) (hr:dh r=true):jY e ms fs bound t r=(eH fs bound 256 (gI t i r),0):=by
 unfold jY;rw[if_neg (by omega),if_neg (by simpa using hV),if_neg (by omega),if_neg (by rw[hr];simp)]
 have ea:(atR fs t.2.1 t.2.2.1).1=i:=by unfold atR;rw[hi]
 rw[ea]
theorem Ir:∀{l k:List Int},l.Nodup->(∀x∈l,x∈k)->l.length<=k.length
 | [],_,_,_=>Iz _
 | a :: l,k,h,g=>by
   rw[VY]at h;have ha:=g a (List.mem_cons_self ..);have:=Ir (l:=l) (k:=k.erase a) h.2 λx hx=>(List.mem_erase_of_ne (by rintro rfl;exact h.1 hx)).2 (g x (List.mem_cons_of_mem _ hx))
   rw[List.length_erase_of_mem ha]at this;have:0 < k.length:=List.length_pos_of_mem ha;simp only[yP];omega
structure Inv (vs:List VD) (ms cs:List ByteArray) (fs:List FD) (ts:List SD) (bound:Int) (z:ZD):Prop where
 ok:dI (aF vs ms cs fs ts).1 bound=0
 va:VS vs ms cs fs ts bound z.1 z.2.1 z.2.2.1
 r8:Ji z.1
 held:∀t∈z.1,∀x∈t.2.2.2.2.2.2.2.2.2.1,z.2.1.2.1[x.toNat]?=some t.1
 que:∀(c:Nat) q,z.2.1.2.2.1[c]?=some q->∀id∈q,∃t∈z.1,t.1=id/\t.2.2.2.2.2.2.1=1/\∃i,qp fs t.2.1 t.2.2.1=some i/\i.1=18/\i.2.2.2.2.1.toNat=c
 sig:∀id∈z.2.1.2.2.2.1,∃t∈z.1,t.1=id/\t.2.2.2.2.2.2.1=1
 par:∀t∈z.1,8<=t.1->∃u∈z.1,8 * (u.1+1)<=t.1/\t.1 < 8 * (u.1+1)+u.2.2.2.2.2.1
section
variable {vs:List VD}{ms cs:List ByteArray}{fs:List FD}{ts:List SD}{bound:Int}{z:ZD}
theorem Inv.fm(I:Inv vs ms cs fs ts bound z):dO z.2.1=true:=(uf I.va.1).2.1
theorem Inv.few(I:Inv vs ms cs fs ts bound z) (hl:z.1.length<=60):oq z.2.1=true:=by
 have hf:=I.fm;have hs:=I.sig;have hq:=I.que;obtain⟨l,⟨mv,mo,mq,mg,⟨⟩⟩,bf,⟨⟩⟩:=z;obtain⟨q1,q2,q3,q4,q5,q6,q7,q8⟩:mv.length<=8/\mo.length<=4/\mq.length<=4/\SS mg/\(∀v∈mv,dh v=true)/\(∀o∈mo,-1<=o)/\(∀x∈mg++mq.flatten,0<=x)/\(mg++mq.flatten).Nodup:=dU.1 hf;have hl:l.length<=60:=hl;have a1:mg.length<=(l.map (·.1)).length:=Ir (List.nodup_append.1 q8).1 λx hx=>by
  obtain⟨t,ht,e,_⟩:=hs x hx;exact Qn.2 ⟨t,ht,e⟩
 have a2:∀q∈mq,q.length<=(l.map (·.1)).length:=by
  intro q hm;obtain⟨c,hc⟩:=A90.1 hm;refine Ir ((List.sublist_flatten_of_mem hm).nodup (List.nodup_append.1 q8).2.1) λx hx=>?_
  obtain⟨t,ht,e,_⟩:=hq c q hc x hx;exact Qn.2 ⟨t,ht,e⟩
 rw[Yp]at a1 a2;unfold oq;simp only[A8,dV,Ti];exact⟨⟨⟨⟨by omega,by omega⟩,by omega⟩,by omega⟩,λq hq=>by have:=a2 q hq;omega⟩
theorem Inv.bm(I:Inv vs ms cs fs ts bound z) (hl:z.1.length<=60):bK z.2.1:=xY (I.few hl)
theorem Inv.bt(I:Inv vs ms cs fs ts bound z) (hl:z.1.length<=60):iI z.1:=MO I.va I.r8 (by omega)
theorem Vz(hs:dI (aF vs ms cs fs ts).1 bound=0):Inv vs ms cs fs ts bound (nC (aF vs ms cs fs ts).1 fs bound ts,(qw vs ms cs fs ts).1,[],()):=by
 have hV:=adE hs;have hc:=(fJ.1 hs).1;have en:(qw vs ms cs fs ts).1=(vs.map (·.2.1),List.replicate ms.length (-1),List.replicate cs.length [],[],()):=by unfold qw;rw[if_pos hc]
 refine⟨hs,hV.1,hV.2,λt ht x hx=>?_,λc q hq id hid=>?_,λid hid=>?_,λt ht h8=>?_⟩
 .exfalso;obtain⟨k,hk⟩:=A90.1 ht;obtain⟨d,hd,rfl⟩:=BJ hk;have h0:=Dv hs hd;unfold newS at h0 hx;split at h0
  .rename_i q;exact q h0
  rename_i q1;rw[if_neg q1]at hx;split at h0
  .cases h0
  rename_i q2;rw[if_neg q2]at hx;split at h0
  .cases h0
  rename_i q3;rw[if_neg q3]at hx;split at h0
  .cases h0
  rename_i q4;rw[if_neg q4]at hx;rw[(wR _ _ _ _).2.2.2]at hx;cases hx
 .exfalso;have hq:(qw vs ms cs fs ts).1.2.2.1[c]?=some q:=hq;rw[en]at hq;have:=iJ hq;rw[List.eq_of_mem_replicate this]at hid;cases hid
 .exfalso;have hid:id∈(qw vs ms cs fs ts).1.2.2.2.1:=hid;rw[en]at hid;cases hid
 .exfalso;obtain⟨k,hk⟩:=A90.1 ht;obtain⟨d,hd,rfl⟩:=BJ hk;rw[Dw (Dv hs hd)]at h8;have:=(eU.1 hd).1;have:=(Fb (kV hc).2.2).1;omega
theorem kG(I:Inv vs ms cs fs ts bound z) (hl:z.1.length<=60) (hm:t∈z.1) (hp:dY (aF vs ms cs fs ts).1 ms fs t=(i,true)):
 Ih z.2.1 t i/\qp fs t.2.1 t.2.2.1=some i/\t.2.2.2.2.2.2.2.1=1/\vW ms fs bound t/\0<=t.1:=by
 have hft:=jv I.va.2.2.2 hm;have hr:jE (aF vs ms cs fs ts).1 ms fs z.1 t.1=(t,i,true):=by
  unfold jE;rw[hft];show(t,(dY _ ms fs t).1,(dY _ ms fs t).2)=_;rw[hp]
 obtain⟨_,_,a,b,c,d⟩:=Ik I.va (I.bm hl) (I.bt hl) hr;refine⟨a,b,c,d,?_⟩;have:=fK d;obtain⟨x,fn,pc,rg,st,ch,ph,su,fa,hd,u⟩:=t;exact(lG this.1).1
theorem adU(hV:vW ms fs bound t) (hi:qp fs t.2.1 t.2.2.1=some i) (h1:t.2.2.2.2.2.2.1≠0):i.1=18/\(t.2.2.2.2.2.2.1=1\/t.2.2.2.2.2.2.1=2):=by
 have hf:=fK hV;obtain⟨id,fn,pc,rg,st,ch,ph,su,fa,hd,u⟩:=t;obtain⟨f1,f2,f3,f4,f5,f6,f7,f8,f9⟩:=hf;have h1:ph≠0:=h1;rcases f9 with q | ⟨q,i',q1,q2,_⟩
 .exact absurd q h1
 .have hi:qp fs fn pc=some i:=hi;rw[hi]at q1;cases q1;exact⟨q2,q⟩
theorem uY(h:i.1=18):labS m t i=if t.2.2.2.2.2.2.1=0 then(t.1,t.2.2.2.2.1,12,i.2.2.2.2.1,i.2.2.2.2.2.1,-1,0,0,0,())
 else if t.2.2.2.2.2.2.1=1 then(t.1,t.2.2.2.2.1,13,i.2.2.2.2.1,-1,-1,0,0,0,())
 else(t.1,t.2.2.2.2.1,9,i.2.2.2.2.2.1,-1,-1,0,0,0,()):=by
 unfold labS;simp[h]
theorem oU(h:i.1=12):labS m t i=if m.1[i.2.2.2.2.1.toNat]?.getD 0=t.2.2.2.1.getD i.2.2.1.toNat 0 then(t.1,t.2.2.2.2.1,5,i.2.2.2.2.1,-1,-1,i.2.2.2.2.2.2.2.1,m.1[i.2.2.2.2.1.toNat]?.getD 0,t.2.2.2.1.getD i.2.2.2.1.toNat 0,())
 else(t.1,t.2.2.2.2.1,6,i.2.2.2.2.1,-1,-1,i.2.2.2.2.2.2.2.1,m.1[i.2.2.2.2.1.toNat]?.getD 0,0,()):=by
 unfold labS;rw[if_neg (by omega),if_neg (by omega),if_neg (by omega),if_neg (by omega),if_neg (by omega),if_pos h]
theorem Dy(I:Inv vs ms cs fs ts bound z) (hl:z.1.length<=60) (hm:t∈z.1) (hp:dY (aF vs ms cs fs ts).1 ms fs t=(i,true)) (he:rO z.1 z.2.1 t i=true):
 Ei (labS z.2.1 t i) z.2.1/\((labS z.2.1 t i).2.2.1=16->∀u∈z.1,u.1≠(labS z.2.1 t i).2.2.2.1):=by
 obtain⟨⟨⟨_,hfm,_,_,h8⟩,hb,hc,hv,hvar,hcnd,hord⟩,hat,hsu,hvl,h0⟩:=kG I hl hm hp;obtain⟨f0,s0,i',ha',vi,oi⟩:=Dl hvl hsu;rw[hat]at ha';cases ha';have hrg:∀b:Int,0<=b/\b < 8->dh (t.2.2.2.1.getD b.toNat 0)=true:=by
  intro b hb;have:=fK hvl;obtain⟨x,fn,pc,rg,st,ch,ph,su,fa,hd,u⟩:=t;exact Hy this.2.2.2.1 hb
 have hhd:∀x,gq t.2.2.2.2.2.2.2.2.2.1 x=true->(0<=x/\x < (z.2.1.2.1.length:Int))/\z.2.1.2.1[x.toNat]?.getD 0=t.1:=by
  intro x hx;have hx:=jC.1 hx;have h2:=I.held t hm x hx;have iq:=(eU.1 h2).1;have h3:0<=x:=by
   have:=fK hvl;obtain⟨_,fn,pc,rg,st,ch,ph,su,fa,hd,u⟩:=t;exact(this.2.2.2.2.2.2.2.1 x hx).1
  exact⟨⟨h3,by omega⟩,by rw[h2];rfl⟩
 have hfr:∀x,l9 z.2.1 x=true->(0<=x/\x < (z.2.1.2.1.length:Int))/\z.2.1.2.1[x.toNat]?.getD 0 = -1:=by
  intro x hx;unfold l9 at hx;simp only[A8,dV]at hx;exact⟨(dG.1 hx.1).2,hx.2⟩
 have hph:i.1≠18->t.2.2.2.2.2.2.1=0:=λq=>IK.1 λp=>q (adU hvl hat p).1
 have hop:i.1=8\/i.1=9\/i.1=10\/i.1=11\/i.1=12\/i.1=13\/i.1=14\/i.1=15\/i.1=16\/i.1=17\/i.1=18\/i.1=19\/i.1=20\/i.1=21\/i.1=22:=by omega
 unfold Ei;rcases hop with q | q | q | q | q | q | q | q | q | q | q | q | q | q | q
 .simp[labS,q]
 .have:=hvar (by omega);simp[labS,q];exact⟨this,hrg _ hb⟩
 .have:=hvar (by omega);simp[labS,q];exact⟨this,hrg _ hb⟩
 .have:=hvar (by omega);simp[labS,q];exact⟨this,L8 _ _ _⟩
 .have:=hvar (by omega)
  rw[oU q];split
  .simp;exact⟨this,hrg _ hc⟩
  .simp
 .simp[labS,q]
 .simp[labS,q]
 .have:=hfr i.2.2.2.2.1 (by simpa[rO,q]using he)
  simp[labS,q];exact this
 .have ho:gq t.2.2.2.2.2.2.2.2.2.1 i.2.2.2.2.1=true:=by
   unfold lN at oi;rw[if_neg (by rw[hph (by omega)];simp),if_neg (by omega),if_pos q]at oi
   split at oi
   .assumption
   .cases oi
  have:=hhd _ ho;simp[labS,q];exact this
 .simp[labS,q,tZ];intro g;exact hfr _ g
 .rw[uY q]
  by_cases p0:t.2.2.2.2.2.2.1=0
  .rw[if_pos p0];have ho:gq t.2.2.2.2.2.2.2.2.2.1 i.2.2.2.2.2.1=true:=by
    unfold lN at oi;rw[if_neg (by rw[p0];simp),if_pos q]at oi
    split at oi
    .assumption
    .cases oi
   have h1:=hhd _ ho;have h2:=hcnd (by omega)
   have h3:kM z.2.1 t.1=false:=by
    unfold kM;rw[oI];constructor
    .rw[A87];intro g;rw[A95]at g;obtain⟨r,hr,g⟩:=g;obtain⟨c,hc⟩:=A90.1 hr;obtain⟨u,hu,e,hu1,_⟩:=I.que c r hc t.1 (jC.1 g);have:=oQ I.va.2.2.2 hu hm e;subst this;omega
    .rw[A87];intro g;obtain⟨u,hu,e,hu1⟩:=I.sig t.1 (jC.1 g);have:=oQ I.va.2.2.2 hu hm e;subst this;omega
   simp;exact⟨h1,h2,h3⟩
  .rw[if_neg p0]
   by_cases p1:t.2.2.2.2.2.2.1=1
   .rw[if_pos p1];simp;simpa[rO,q,p1]using he
   .rw[if_neg p1];have p2:t.2.2.2.2.2.2.1=2:=by have:=(adU hvl hat p0).2;omega
    have:=hfr i.2.2.2.2.2.1 (by simpa[rO,q,p2]using he)
    simp;exact this
 .have:=hcnd (by omega);simp[labS,q];exact this
 .have:=hcnd (by omega);simp[labS,q];exact this
 .refine⟨by simp[labS,q],λ_ u hu e=>?_⟩
  rw[qW q]at e;have hc:=(ou I.ok hvl hsu hat q (I.r8 t hm)).1;obtain⟨c1,c2,_,_,c5,_⟩:=qc hc;obtain⟨p,hp,p1,p2⟩:=I.par u hu (by omega)
  have hch:p.2.2.2.2.2.1<=7:=by
   have:=fK (I.va.2.2.1 p hp).2;obtain⟨_,fn,pc,rg,st,ch,ph,su,fa,hd,u⟩:=p;exact this.2.2.2.2.2.1.2.1
  have ep:p.1=t.1:=by omega
  have:=oQ I.va.2.2.2 hp hm ep;subst this;omega
 .simp[labS,q]
end
theorem uZ{l:List Int}{n:Int} (h:SS l):l.filter (λx=>decide (x≠n))=oh (bT l) [n] false:=HY h
theorem adV(h:Ei e m) (hv:m.2.1[k]?=some v) (h1:v≠-1) (h2:v≠e.1):(vU e m.2.1)[k]?=some v:=by
 unfold vU;have key:∀(x w:Int),(m.2.1[x.toNat]?.getD 0≠v)->(m.2.1.set x.toNat w)[k]?=some v:=by
  intro x w g;rw[mJ (by rintro rfl;rw[hv]at g;exact g rfl)];exact hv
 obtain⟨_,o1,o2,o3,_⟩:=h;split
 .rename_i g;exact key _ _ (by rw[(o1 g).2];exact λp=>h1 p.symm)
 split
 .rename_i g;exact key _ _ (by rw[(o2 g).2];exact λp=>h2 p.symm)
 split
 .rename_i g;exact key _ _ (by rw[(o3 g).1.2];exact λp=>h2 p.symm)
 .exact hv
theorem Dz{l:List Int}{j:Nat}{a:Int} (h:l[j]?=some a\/(j=k/\k < l.length)):(l.set k a)[j]?=some a:=by
 by_cases q:k=j
 .subst q;rcases h with h | h
  .rw[qm (eU.1 h).1]
  .rw[qm h.2]
 .rw[mJ q];rcases h with h | h
  .exact h
  .exact absurd h.1.symm q
theorem VA{l:List Int}{j:Nat}{a:Int} (h:l[j]?=some v) (q:j≠k):(l.set k a)[j]?=some v:=by
 rw[mJ (λp=>q p.symm)];exact h
theorem adW(hv:8<=i.1/\i.1<=22) (hok:Ei (labS m t i) m) (hh:∀x∈t.2.2.2.2.2.2.2.2.2.1,m.2.1[x.toNat]?=some t.1/\0<=x) (hph:t.2.2.2.2.2.2.1=0\/t.2.2.2.2.2.2.1=1\/t.2.2.2.2.2.2.1=2):
 ∀x∈(gI t i (lq i (labS m t i))).2.2.2.2.2.2.2.2.2.1,(vU (labS m t i) m.2.1)[x.toNat]?=some t.1:=by
 intro x hx;have hop:i.1=8\/i.1=9\/i.1=10\/i.1=11\/i.1=12\/i.1=13\/i.1=14\/i.1=15\/i.1=16\/i.1=17\/i.1=18\/i.1=19\/i.1=20\/i.1=21\/i.1=22:=by omega
 have hno:¬(i.1=15\/i.1=16\/i.1=17\/i.1=18)->(gI t i (lq i (labS m t i))).2.2.2.2.2.2.2.2.2.1=t.2.2.2.2.2.2.2.2.2.1:=by
  intro q;obtain⟨id,fn,pc,rg,st,ch,ph,su,fa,hd,u⟩:=t;unfold gI;simp only;rw[if_neg (by omega)]
  show(if _ then _ else if _ then _ else hd)=hd
  rw[if_neg (by omega),if_neg (by omega)]
 have arT:¬((labS m t i).2.2.1=9\/(labS m t i).2.2.1=10\/(labS m t i).2.2.1=11\/(labS m t i).2.2.1=12)->vU (labS m t i) m.2.1=m.2.1:=by
  intro q;unfold vU;rw[if_neg (by omega),if_neg (by omega),if_neg (by omega)]
 by_cases hA:i.1=15\/i.1=16\/i.1=17\/i.1=18
 .obtain⟨ok1,ok2,ok3,ok4,_⟩:=hok;rcases hA with q | q | q | q
  .have el:labS m t i=(t.1,t.2.2.2.2.1,9,i.2.2.2.2.1,-1,-1,0,0,0,()):=by simp[labS,q]
   rw[el]at ok2 hx ⊢;have o:=ok2 (.inl rfl);have hx:x∈zu t.2.2.2.2.2.2.2.2.2.1 i.2.2.2.2.1:=by
    obtain⟨id,fn,pc,rg,st,ch,ph,su,fa,hd,u⟩:=t;simpa[gI,q]using hx
   have e2:vU (t.1,t.2.2.2.2.1,9,i.2.2.2.2.1,-1,-1,0,0,0,()) m.2.1=m.2.1.set i.2.2.2.2.1.toNat t.1:=by simp[vU]
   rw[e2];rcases ES.1 hx with hx | rfl
   .exact Dz (.inl (hh x hx).1)
   .exact Dz (.inr ⟨rfl,by have:=o.1;simp only at this;omega⟩)
  .have el:labS m t i=(t.1,t.2.2.2.2.1,10,i.2.2.2.2.1,-1,-1,0,0,0,()):=by simp[labS,q]
   rw[el]at ok3 hx ⊢;have o:=ok3 rfl;have hx:x∈Bz t.2.2.2.2.2.2.2.2.2.1 i.2.2.2.2.1:=by
    obtain⟨id,fn,pc,rg,st,ch,ph,su,fa,hd,u⟩:=t;simpa[gI,q]using hx
   obtain⟨hx,hne⟩:=BA.1 hx;have:=hh x hx;have e2:vU (t.1,t.2.2.2.2.1,10,i.2.2.2.2.1,-1,-1,0,0,0,()) m.2.1=m.2.1.set i.2.2.2.2.1.toNat (-1):=by simp[vU]
   rw[e2];exact VA this.1 (by have:=o.1;simp only at this;omega)
  .have el:labS m t i=(t.1,t.2.2.2.2.1,11,i.2.2.2.2.1,-1,-1,0,tZ (l9 m i.2.2.2.2.1),0,()):=by simp[labS,q]
   rw[el]at ok2 hx ⊢;cases hfr:l9 m i.2.2.2.2.1 with
   | true=>
     rw[hfr]at ok2 hx;have o:=ok2 (.inr ⟨rfl,by simp[tZ]⟩)
     have hx:x∈zu t.2.2.2.2.2.2.2.2.2.1 i.2.2.2.2.1:=by
      obtain⟨id,fn,pc,rg,st,ch,ph,su,fa,hd,u⟩:=t;simpa[gI,q,lq,tZ]using hx
     have e2:vU (t.1,t.2.2.2.2.1,11,i.2.2.2.2.1,-1,-1,0,tZ true,0,()) m.2.1=m.2.1.set i.2.2.2.2.1.toNat t.1:=by simp[vU,tZ]
     rw[e2];rcases ES.1 hx with hx | rfl
     .exact Dz (.inl (hh x hx).1)
     .exact Dz (.inr ⟨rfl,by have:=o.1;simp only at this;omega⟩)
   | false=>
     rw[hfr]at hx;have hx:x∈t.2.2.2.2.2.2.2.2.2.1:=by
      obtain⟨id,fn,pc,rg,st,ch,ph,su,fa,hd,u⟩:=t;simpa[gI,q,lq,tZ]using hx
     have e2:vU (t.1,t.2.2.2.2.1,11,i.2.2.2.2.1,-1,-1,0,tZ false,0,()) m.2.1=m.2.1:=by simp[vU,tZ]
     rw[e2];exact(hh x hx).1
  .have el:=uY (m:=m) (t:=t) q;rcases hph with p | p | p
   .rw[if_pos p]at el;rw[el]at ok4 hx ⊢;have o:=ok4 rfl;have hx:x∈Bz t.2.2.2.2.2.2.2.2.2.1 i.2.2.2.2.2.1:=by
     obtain⟨id,fn,pc,rg,st,ch,ph,su,fa,hd,u⟩:=t;have p:ph=0:=p;simpa[gI,q,p]using hx
    obtain⟨hx,hne⟩:=BA.1 hx;have:=hh x hx;have e2:vU (t.1,t.2.2.2.2.1,12,i.2.2.2.2.1,i.2.2.2.2.2.1,-1,0,0,0,()) m.2.1=m.2.1.set i.2.2.2.2.2.1.toNat (-1):=by simp[vU]
    rw[e2];exact VA this.1 (by have:=o.1.1;simp only at this;omega)
   .rw[if_neg (by omega),if_pos p]at el
    rw[el]at hx ⊢;have hx:x∈t.2.2.2.2.2.2.2.2.2.1:=by
     obtain⟨id,fn,pc,rg,st,ch,ph,su,fa,hd,u⟩:=t;have p:ph=1:=p;simpa[gI,q,p]using hx
    have e2:vU (t.1,t.2.2.2.2.1,13,i.2.2.2.2.1,-1,-1,0,0,0,()) m.2.1=m.2.1:=by simp[vU]
    rw[e2];exact(hh x hx).1
   .rw[if_neg (by omega),if_neg (by omega)]at el
    rw[el]at ok2 hx ⊢;have o:=ok2 (.inl rfl);have hx:x∈zu t.2.2.2.2.2.2.2.2.2.1 i.2.2.2.2.2.1:=by
     obtain⟨id,fn,pc,rg,st,ch,ph,su,fa,hd,u⟩:=t;have p:ph=2:=p;simpa[gI,q,p]using hx
    have e2:vU (t.1,t.2.2.2.2.1,9,i.2.2.2.2.2.1,-1,-1,0,0,0,()) m.2.1=m.2.1.set i.2.2.2.2.2.1.toNat t.1:=by simp[vU]
    rw[e2];rcases ES.1 hx with hx | rfl
    .exact Dz (.inl (hh x hx).1)
    .exact Dz (.inr ⟨rfl,by have:=o.1;simp only at this;omega⟩)
 .rw[hno hA]at hx;rw[arT]
  .exact(hh x hx).1
  .rcases hop with q | q | q | q | q | q | q | q | q | q | q | q | q | q | q
   all_goals first | omega | (simp[labS,q];done) | skip
   rw[oU q];split<;>simp
theorem aiQ(hv:8<=i.1/\i.1<=22) (hph:t.2.2.2.2.2.2.1=0\/t.2.2.2.2.2.2.1=1\/t.2.2.2.2.2.2.1=2):
 ((labS m t i).2.2.1=12->i.1=18/\t.2.2.2.2.2.2.1=0/\(labS m t i).2.2.2.1=i.2.2.2.2.1)/\(i.1=18->t.2.2.2.2.2.2.1=1->(labS m t i).2.2.1=13):=by
 refine⟨λh=>?_,λh1 h2=>by rw[uY h1,if_neg (by omega),if_pos h2]⟩
 have hop:i.1=8\/i.1=9\/i.1=10\/i.1=11\/i.1=12\/i.1=13\/i.1=14\/i.1=15\/i.1=16\/i.1=17\/i.1=18\/i.1=19\/i.1=20\/i.1=21\/i.1=22:=by omega
 rcases hop with q | q | q | q | q | q | q | q | q | q | q | q | q | q | q
 all_goals first | (exfalso;simp[labS,q]at h;done) | skip
 .exfalso;rw[oU q]at h;split at h<;>simp at h
 .rw[uY q]at h ⊢
  by_cases p:t.2.2.2.2.2.2.1=0
  .rw[if_pos p];exact⟨q,p,rfl⟩
  .rw[if_neg p]at h;split at h<;>simp at h
theorem ajR(hf:dO m=true){x:Int} (h:x∈m.2.2.2.1){c:Nat}{q:List Int} (hq:m.2.2.1[c]?=some q) (hx:x∈q):False:=by
 obtain⟨mv,mo,mq,mg,⟨⟩⟩:=m;have q8:(mg++mq.flatten).Nodup:=(dU.1 hf).2.2.2.2.2.2.2;exact(List.nodup_append.1 q8).2.2 x h x (List.mem_flatten.2 ⟨q,iJ hq,hx⟩) rfl
section
variable {vs:List VD}{ms cs:List ByteArray}{fs:List FD}{ts:List SD}{bound:Int}{z:ZD}
theorem adX(hV:vW ms fs bound t):t.2.2.2.2.2.2.1=0\/t.2.2.2.2.2.2.1=1\/t.2.2.2.2.2.2.1=2:=by
 have:=fK hV;obtain⟨id,fn,pc,rg,st,ch,ph,su,fa,hd,u⟩:=t;rcases this.2.2.2.2.2.2.2.2 with q | ⟨q | q,_⟩
 .exact .inl q
 .exact .inr (.inl q)
 .exact .inr (.inr q)
theorem BM(I:Inv vs ms cs fs ts bound z) (hl:z.1.length<=60) (h:(bJ vs ms cs fs ts bound z id).2.2=0):Inv vs ms cs fs ts bound (bJ vs ms cs fs ts bound z id).1:=by
 obtain⟨t,i,hft,hp,he,hf,em,ee,hn,hlen,hx⟩:=wW I.r8 (by omega) (I.bm hl) h
 have hVS:=adG h I.r8 (by omega) (I.bm hl)
 obtain⟨hm,hid⟩:=(jw I.va.2.2.2).1 hft;subst hid;obtain⟨hlab,hat,hsu,hvl,h0⟩:=kG I hl hm hp;have hag:=kN z.2.1 t i;have hok:=(Fg I.fm (by rw[hag];exact h0)).1 hf
 have hpt:=xZ I.fm (by rw[hag];exact h0) hf
 have hv:=hlab.2.2.2.1;have hph:=adX hvl;have hch:i.1=21->(dM t.1 t.2.2.2.2.2.1).2=true:=λq=>(ou I.ok hvl hsu hat q (I.r8 t hm)).1
 have hce:=anT I.ok hvl hsu hat (E8 (m:=z.2.1) (i:=i) I.fm hch);rw[hpt]at em;rw[hce]at hx;have arU:ng i.1=true:=by unfold ng;simpa using hv
 have hcl:=aiQ (m:=z.2.1) hv hph;have aqo:=adW hv hok (λx hx=>⟨I.held t hm x hx,by
  have:=fK hvl;obtain⟨_,fn,pc,rg,st,ch,ph,su,fa,hd,u⟩:=t;exact(this.2.2.2.2.2.2.2.1 x hx).1⟩) hph
 have hnew:(labS z.2.1 t i).2.2.1=16->(newS (aF vs ms cs fs ts).1 fs bound (labS z.2.1 t i).2.2.2.1 i.2.2.2.2.1 (t.2.2.2.1.getD i.2.2.1.toNat 0)).1.1=(labS z.2.1 t i).2.2.2.1/\(newS (aF vs ms cs fs ts).1 fs bound (labS z.2.1 t i).2.2.2.1 i.2.2.2.2.1 (t.2.2.2.1.getD i.2.2.1.toNat 0)).1.2.2.2.2.2.2.2.2.2.1=[]:=by
  intro g;have hi:=(uV hv).1 g;obtain⟨s1,s2⟩:=ou I.ok hvl hsu hat hi (I.r8 t hm);rw[<-qW (m:=z.2.1) hi]at s2;refine⟨Dw s2,?_⟩;unfold newS at s2 ⊢;split at s2
  .rename_i q;exact absurd s2 q
  rename_i q1;rw[if_neg q1];split at s2
  .cases s2
  rename_i q2;rw[if_neg q2];split at s2
  .cases s2
  rename_i q3;rw[if_neg q3];split at s2
  .cases s2
  rename_i q4;rw[if_neg q4];exact(wR _ _ _ _).2.2.2
 generalize (bJ vs ms cs fs ts bound z t.1).1=z' at hVS em hlen hx;have hk:=wR fs bound 256 (gI t i (lq i (labS z.2.1 t i)));have hk2:=adS fs bound 256 (gI t i (lq i (labS z.2.1 t i)));have hc:=O1 t i (lq i (labS z.2.1 t i));have hcc:t.2.2.2.2.2.1<=(gI t i (lq i (labS z.2.1 t i))).2.2.2.2.2.1/\(i.1=21->(gI t i (lq i (labS z.2.1 t i))).2.2.2.2.2.1=t.2.2.2.2.2.1+1):=by
  generalize lq i (labS z.2.1 t i)=r;obtain⟨id,fn,pc,rg,st,ch,ph,su,fa,hd,u⟩:=t;unfold gI;simp only;split
  .refine⟨?_,λq=>by omega⟩
   repeat' split
   all_goals exact Int.le_refl _
  .show ch<=(if i.1=21 then ch+1 else ch)/\(i.1=21->(if i.1=21 then ch+1 else ch)=ch+1)
   split
   .exact⟨by omega,λ_=>rfl⟩
   .rename_i q;exact⟨Int.le_refl _,λp=>absurd p q⟩
 have hw:i.1=18->t.2.2.2.2.2.2.1=0->(gI t i (lq i (labS z.2.1 t i))).2.2.2.2.2.2.1=1/\(gI t i (lq i (labS z.2.1 t i))).2.2.1=t.2.2.1:=by
  intro q p;generalize lq i (labS z.2.1 t i)=r;obtain⟨id,fn,pc,rg,st,ch,ph,su,fa,hd,u⟩:=t;have p:ph=0:=p;unfold gI;simp[q,p]
 have hst:i.1=18->t.2.2.2.2.2.2.1=0->(eH fs bound 256 (gI t i (lq i (labS z.2.1 t i)))).2.2.1=t.2.2.1:=by
  intro q p;have h1:=(hw q p).2;rw[(adT (i:=i) (by rw[hc.2.1,h1];exact hat) arU 256).2,h1]
 generalize hr:lq i (labS z.2.1 t i)=r at *;generalize htn:eH fs bound 256 (gI t i r)=tn at *;generalize hnn:(newS (aF vs ms cs fs ts).1 fs bound (labS z.2.1 t i).2.2.2.1 i.2.2.2.2.1 (t.2.2.2.1.getD i.2.2.1.toNat 0)).1=nw at *;have mtn:tn∈z'.1:=((jw hVS.1.2.2.2).1 (by rw[hx t.1,if_pos rfl])).1
 have etn:tn.1=t.1:=hk.1.trans hc.1;have keep:∀u∈z.1,u.1≠t.1->u∈z'.1:=λu hu hne=>((jw hVS.1.2.2.2 (x:=u.1)).1 (by rw[hx u.1,if_neg hne,if_neg λp=>hn p.1 u hu p.2];exact jv I.va.2.2.2 hu)).1
 have grow:∀p∈z.1,∃p'∈z'.1,p'.1=p.1/\p.2.2.2.2.2.1<=p'.2.2.2.2.2.1:=by
  intro p hp
  by_cases g:p.1=t.1
  .have:=oQ I.va.2.2.2 hp hm g;subst this;exact⟨tn,mtn,etn,by rw[hk2.1];exact hcc.1⟩
  .exact⟨p,keep p hp g,rfl,Int.le_refl _⟩
 have mem:∀u∈z'.1,u=tn\/(u∈z.1/\u.1≠t.1)\/((labS z.2.1 t i).2.2.1=16/\u=nw):=by
  intro u hu;have:=jv hVS.1.2.2.2 hu;rw[hx]at this;split at this
  .exact .inl (MX this).symm
  split at this
  .rename_i g;exact .inr (.inr ⟨g.1,(MX this).symm⟩)
  .rename_i g1 g2;exact .inr (.inl ⟨((jw I.va.2.2.2).1 this).1,g1⟩)
 have em1:z'.2.1.2.1=vU (labS z.2.1 t i) z.2.1.2.1:=by rw[em]
 have em2:z'.2.1.2.2.1=Ep (labS z.2.1 t i) z.2.1.2.2.1:=by rw[em]
 have em3:z'.2.1.2.2.2.1=MP (labS z.2.1 t i) z.2.1.2.2.1 z.2.1.2.2.2.1:=by rw[em]
 have ph1:t.2.2.2.2.2.2.1=1->(labS z.2.1 t i).2.2.1=13/\t.1∈z.2.1.2.2.2.1:=by
  intro p;have k:=hcl.2 (adU hvl hat (by omega)).1 p
  have:=hok.2.2.2.2.1 k;rw[hag]at this;exact⟨k,jC.1 this⟩
 have Td:∀(c:Nat) q0,z.2.1.2.2.1[c]?=some q0->∀x∈q0,∃u∈z'.1,u.1=x/\u.2.2.2.2.2.2.1=1/\∃j,qp fs u.2.1 u.2.2.1=some j/\j.1=18/\j.2.2.2.2.1.toNat=c:=by
  intro c q0 hq0 x hx0;obtain⟨u,hu,e1,p1,j,hj⟩:=I.que c q0 hq0 x hx0;refine⟨u,keep u hu λg=>?_,e1,p1,j,hj⟩
  have:=oQ I.va.2.2.2 hu hm g;subst this;exact ajR I.fm (ph1 p1).2 hq0 (e1▸hx0)
 refine⟨I.ok,hVS.1,hVS.2,λu hu x hxm=>?_,λc q hq x PU=>?_,λx hxs=>?_,λu hu h8=>?_⟩
 .rw[em1];rcases mem u hu with rfl | ⟨hu,hne⟩ | ⟨g,rfl⟩
  .rw[hk.2.2.2]at hxm;rw[etn];exact aqo x hxm
  .refine adV hok (I.held u hu x hxm) (λg=>?_) (by rw[hag];exact hne)
   have:=fK (I.va.2.2.1 u hu).2;obtain⟨_,fn,pc,rg,st,ch,ph,su,fa,hd,_⟩:=u;have:=(lG this.1).1;simp only at g;omega
  .rw[(hnew g).2]at hxm;cases hxm
 .rw[em2]at hq;unfold Ep at hq;have getD:∀{x:Int}{k:Nat},x∈z.2.1.2.2.1[k]?.getD []->∃q0,z.2.1.2.2.1[k]?=some q0/\x∈q0:=by
   intro x k hx;cases hk:z.2.1.2.2.1[k]? with
   | none=>rw[hk]at hx;cases hx
   | some q0=>rw[hk]at hx;exact⟨q0,rfl,hx⟩
  split at hq
  .rename_i k12;obtain⟨w1,w2,w3⟩:=hcl.1 k12;rw[List.getElem?_set]at hq;split at hq
   .rename_i ec;split at hq
    .rw[Yo]at hq;subst hq;rcases Et.1 PU with PU | PU
     .obtain⟨q0,h1,h2⟩:=getD PU;exact Td c q0 (ec▸h1) x h2
     .rw[Ya]at PU;refine⟨tn,mtn,?_,?_,i,?_,w1,?_⟩
      .rw[etn,PU,hag]
      .rw[hk2.2];exact(hw w1 w2).1
      .rw[hk.2.1,hc.2.1,hst w1 w2];exact hat
      .rw[<-ec,w3]
    .cases hq
   .exact Td c q hq x PU
  split at hq
  .rw[List.getElem?_set]at hq;split at hq
   .rename_i ec;split at hq
    .rw[Yo]at hq;subst hq;obtain⟨q0,h1,h2⟩:=getD (List.mem_of_mem_drop PU);exact Td c q0 (ec▸h1) x h2
    .cases hq
   .exact Td c q hq x PU
  split at hq
  .rw[List.getElem?_set]at hq;split at hq
   .split at hq
    .rw[Yo]at hq;subst hq;cases PU
    .cases hq
   .exact Td c q hq x PU
  .exact Td c q hq x PU
 .rw[em3]at hxs;have hss:SS z.2.1.2.2.2.1:=by
   have:=I.fm;obtain⟨l,⟨mv,mo,mq,mg,⟨⟩⟩,bf,⟨⟩⟩:=z;exact(dU.1 this).2.2.2.1
  have sold:∀x∈z.2.1.2.2.2.1,(t.1=x->(labS z.2.1 t i).2.2.1≠13)->∃u∈z'.1,u.1=x/\u.2.2.2.2.2.2.1=1:=by
   intro x hx0 hne;obtain⟨u,hu,e1,p1⟩:=I.sig x hx0;refine⟨u,keep u hu λg=>?_,e1,p1⟩
   have:=oQ I.va.2.2.2 hu hm g;subst this;exact hne e1 (ph1 p1).1
  have aqr:∀x,x∈z.2.1.2.2.1[(labS z.2.1 t i).2.2.2.1.toNat]?.getD []->∃u∈z'.1,u.1=x/\u.2.2.2.2.2.2.1=1:=by
   intro x hx0;cases hk:z.2.1.2.2.1[(labS z.2.1 t i).2.2.2.1.toNat]? with
   | none=>rw[hk]at hx0;cases hx0
   | some q0=>
     rw[hk]at hx0;obtain⟨u,hu,e1,p1,_⟩:=Td _ q0 hk x hx0;exact⟨u,hu,e1,p1⟩
  unfold MP at hxs;split at hxs
  .rename_i k13;rw[<-uZ hss]at hxs;rw[VZ]at hxs;exact sold x hxs.1 λg=>by rw[hag]at hxs;simp[g]at hxs
  split at hxs
  .rename_i k13 k14;rcases((qV _ _ hss).2 x).1 hxs with hx0 | hx0
   .exact sold x hx0 λ_=>k13
   .exact aqr x (List.mem_of_mem_take hx0)
  split at hxs
  .rename_i k13 k14 k15;rcases((qV _ _ hss).2 x).1 hxs with hx0 | hx0
   .exact sold x hx0 λ_=>k13
   .exact aqr x hx0
  .rename_i k13 k14 k15;exact sold x hxs λ_=>k13
 .rcases mem u hu with rfl | ⟨hu,hne⟩ | ⟨g,rfl⟩
  .rw[etn]at h8 ⊢;obtain⟨p,hp,p1,p2⟩:=I.par t hm h8;obtain⟨p',hp',e1,e2⟩:=grow p hp;exact⟨p',hp',by omega,by omega⟩
  .obtain⟨p,hp,p1,p2⟩:=I.par u hu h8;obtain⟨p',hp',e1,e2⟩:=grow p hp;exact⟨p',hp',by omega,by omega⟩
  .have hi:=(uV hv).1 g;obtain⟨c1,c2,_⟩:=qc (hch hi);rw[(hnew g).1,qW hi];have:=hcc.2 hi;exact⟨tn,mtn,by rw[etn];omega,by rw[etn,hk2.1];omega⟩
end
structure Yi (a b:ED):Prop where
 ag:a.1≠b.1
 v1:(a.2.2.1=5\/a.2.2.1=2)->(b.2.2.1=1\/b.2.2.1=8\/b.2.2.1=6\/b.2.2.1=5\/b.2.2.1=2)->a.2.2.2.1≠b.2.2.2.1
 v2:(b.2.2.1=5\/b.2.2.1=2)->(a.2.2.1=1\/a.2.2.1=8\/a.2.2.1=6\/a.2.2.1=5\/a.2.2.1=2)->b.2.2.2.1≠a.2.2.2.1
 m1:(a.2.2.1=9\/a.2.2.1=10\/a.2.2.1=11)->(b.2.2.1=9\/b.2.2.1=10\/b.2.2.1=11)->a.2.2.2.1≠b.2.2.2.1
 m2:a.2.2.1=12->(b.2.2.1=9\/b.2.2.1=10\/b.2.2.1=11)->a.2.2.2.2.1≠b.2.2.2.1
 m3:(a.2.2.1=9\/a.2.2.1=10\/a.2.2.1=11)->b.2.2.1=12->b.2.2.2.2.1≠a.2.2.2.1
 m4:a.2.2.1=12->b.2.2.1=12->a.2.2.2.2.1≠b.2.2.2.2.1
 cn:(12<=a.2.2.1/\a.2.2.1<=15)->(12<=b.2.2.1/\b.2.2.1<=15)->a.2.2.2.1≠b.2.2.2.1
 s1:(a.2.2.1=16\/a.2.2.1=17)->a.2.2.2.1≠b.1
 s2:(b.2.2.1=16\/b.2.2.1=17)->b.2.2.2.1≠a.1
 s3:a.2.2.1=16->b.2.2.1=17->a.2.2.2.1≠b.2.2.2.1
 s4:b.2.2.1=16->a.2.2.1=17->b.2.2.2.1≠a.2.2.2.1
theorem Yi.sym(h:Yi a b):Yi b a:=⟨h.ag.symm,h.v2,h.v1,λp q=>(h.m1 q p).symm,λp q=>h.m3 q p,λp q=>h.m2 q p,λp q=>(h.m4 q p).symm,λp q=>(h.cn q p).symm,h.s2,h.s1,h.s4,h.s3⟩
theorem nat_ne{x y:Int} (hx:0<=x) (hy:0<=y) (h:x≠y):x.toNat≠y.toNat:=by omega
theorem getD_set_ne{α:Type}{l:List α}{j:Nat}{a:α} (h:k≠j):(l.set k a)[j]?=l[j]?:=mJ h
theorem aiR(h:Ei e m){x:Int} (hx:0<=x) (hn:(e.2.2.1=5\/e.2.2.1=2)->e.2.2.2.1≠x):(Yh e m.1)[x.toNat]?=m.1[x.toNat]?:=by
 unfold Yh;split
 .rename_i g;exact getD_set_ne (nat_ne (h.1 g).1.1 hx (hn g))
 .rfl
theorem aiS(h:Ei e m){x:Int} (hx:0<=x) (hn:(e.2.2.1=9\/e.2.2.1=10\/e.2.2.1=11)->e.2.2.2.1≠x) (hn2:e.2.2.1=12->e.2.2.2.2.1≠x):(vU e m.2.1)[x.toNat]?=m.2.1[x.toNat]?:=by
 unfold vU;split
 .rename_i g;exact getD_set_ne (nat_ne (h.2.1 g).1.1 hx (hn (by omega)))
 split
 .rename_i g;exact getD_set_ne (nat_ne (h.2.2.1 g).1.1 hx (hn (by omega)))
 split
 .rename_i g;exact getD_set_ne (nat_ne (h.2.2.2.1 g).1.1.1 hx (hn2 g))
 .rfl
theorem Fh(h:Ei e m){x:Int} (hx:0<=x) (hn:(12<=e.2.2.1/\e.2.2.1<=15)->e.2.2.2.1≠x):(Ep e m.2.2.1)[x.toNat]?=m.2.2.1[x.toNat]?:=by
 unfold Ep;split
 .rename_i g;exact getD_set_ne (nat_ne (h.2.2.2.1 g).2.1.1 hx (hn (by omega)))
 split
 .rename_i g;exact getD_set_ne (nat_ne (h.2.2.2.2.2 (.inl g)).1 hx (hn (by omega)))
 split
 .rename_i g;exact getD_set_ne (nat_ne (h.2.2.2.2.2 (.inr g)).1 hx (hn (by omega)))
 .rfl
theorem aiT(e:ED) (l:List Int):(vU e l).length=l.length:=by unfold vU;(repeat' split)<;>simp
theorem BN(hs:SS m.2.2.2.1){x:Int}:x∈MP e m.2.2.1 m.2.2.2.1↔(x∈m.2.2.2.1/\(e.2.2.1=13->x≠e.1))\/(e.2.2.1=14/\x∈(m.2.2.1[e.2.2.2.1.toNat]?.getD []).take 1)\/(e.2.2.1=15/\x∈m.2.2.1[e.2.2.2.1.toNat]?.getD []):=by
 unfold MP
 by_cases k:e.2.2.1=13
 .rw[if_pos k,<-uZ hs,VZ];simp[k]
 by_cases k2:e.2.2.1=14
 .rw[if_neg k,if_pos k2,(qV _ _ hs).2];simp[k2]
 by_cases k3:e.2.2.1=15
 .rw[if_neg k,if_neg k2,if_pos k3,(qV _ _ hs).2];simp[k3]
 .rw[if_neg k,if_neg k2,if_neg k3];simp[k,k2,k3]
theorem MR(hs:SS m.2.2.2.1):SS (MP e m.2.2.1 m.2.2.2.1):=by
 unfold MP;split
 .rw[<-uZ hs];exact hs.filter _
 split
 .exact(qV _ _ hs).1
 split
 .exact(qV _ _ hs).1
 .exact hs
theorem VB(h:dO m=true):SS m.2.2.2.1:=by
 obtain⟨mv,mo,mq,mg,⟨⟩⟩:=m;exact(dU.1 h).2.2.2.1
section
variable {vs:List VD}{ms cs:List ByteArray}{fs:List FD}{ts:List SD}{bound:Int}{z:ZD}
theorem DC{n:MD} (hf:dO m=true) (hn:dO n=true) (ho:Ei e m) (e1:n.2.1=vU e m.2.1){x:Int} (h1:(e.2.2.1=9\/e.2.2.1=10\/e.2.2.1=11)->e.2.2.2.1≠x) (h2:e.2.2.1=12->e.2.2.2.2.1≠x):l9 n x=l9 m x:=by
 unfold l9;have hl:n.2.1.length=m.2.1.length:=by rw[e1,aiT]
 rw[hl]
 by_cases q:0<=x/\x < (m.2.1.length:Int)
 .rw[show decide (je n x m.2.1.length=0)=true from Na (dG.2 ⟨hn,q⟩),show decide (je m x m.2.1.length=0)=true from Na (dG.2 ⟨hf,q⟩),e1,aiS ho q.1 h1 h2]
 .rw[show decide (je n x m.2.1.length=0)=false from BP λp=>q (dG.1 p).2,show decide (je m x m.2.1.length=0)=false from BP λp=>q (dG.1 p).2]
  rfl
theorem VE(q:i.1=22):rO l m t i=(match kX l (t.2.2.2.1.getD i.2.2.1.toNat 0) with
 | some u=>decide (u.2.2.2.2.2.2.2.1=2) || decide (u.2.2.2.2.2.2.2.1=3)
 | none=>false):=by
 unfold rO;rw[if_neg (by omega),if_neg (by omega),if_neg (by omega),if_pos q]
 rfl
theorem aiU(I:Inv vs ms cs fs ts bound z) (hl:z.1.length<=60) (ma:ta∈z.1) (mb:tb∈z.1) (pa:dY (aF vs ms cs fs ts).1 ms fs ta=(ia,true)) (pb:dY (aF vs ms cs fs ts).1 ms fs tb=(ib,true))
 (ea:rO z.1 z.2.1 ta ia=true) (hI:Yi (labS z.2.1 ta ia) (labS z.2.1 tb ib)):
 labS (bJ vs ms cs fs ts bound z ta.1).1.2.1 tb ib=labS z.2.1 tb ib/\rO (bJ vs ms cs fs ts bound z ta.1).1.1 (bJ vs ms cs fs ts bound z ta.1).1.2.1 tb ib=rO z.1 z.2.1 tb ib /\
  (bJ vs ms cs fs ts bound z ta.1).2.2=0/\tb∈(bJ vs ms cs fs ts bound z ta.1).1.1:=by
 have hft:=jv I.va.2.2.2 ma;obtain⟨ok0,nw0⟩:=Dy I hl ma pa ea;have h0:=(kG I hl ma pa).2.2.2.2;have hz0:=(Fg I.fm (by rw[kN];exact h0)).2 ok0
 have h:=Tc I.ok I.va hft pa ea hz0 nw0;have J:=BM I hl h;obtain⟨t,i,adY,hp,he,hf,em,ee,hn,hlen,hx⟩:=wW I.r8 (by omega) (I.bm hl) h
 rw[hft]at adY;cases adY;rw[pa]at hp;cases hp;have hpt:=xZ I.fm (by rw[kN];exact h0) hf
 rw[hpt]at em;obtain⟨⟨_,hb,hc,hv,hvar,hcnd,hord⟩,hat,hsu,hvl,hb0⟩:=kG I hl mb pb;have hga:=kN z.2.1 ta ia;have hgb:=kN z.2.1 tb ib;have hne:tb.1≠ta.1:=λq=>hI.ag (by rw[hga,hgb,q])
 have mtb:tb∈(bJ vs ms cs fs ts bound z ta.1).1.1:=((jw J.va.2.2.2 (x:=tb.1)).1 (by rw[hx tb.1,if_neg hne,if_neg λp=>hn p.1 tb mb p.2];exact jv I.va.2.2.2 mb)).1
 have em0:(bJ vs ms cs fs ts bound z ta.1).1.2.1.1=Yh (labS z.2.1 ta ia) z.2.1.1:=by rw[em]
 have em1:(bJ vs ms cs fs ts bound z ta.1).1.2.1.2.1=vU (labS z.2.1 ta ia) z.2.1.2.1:=by rw[em]
 have em2:(bJ vs ms cs fs ts bound z ta.1).1.2.1.2.2.1=Ep (labS z.2.1 ta ia) z.2.1.2.2.1:=by rw[em]
 have em3:(bJ vs ms cs fs ts bound z ta.1).1.2.1.2.2.2.1=MP (labS z.2.1 ta ia) z.2.1.2.2.1 z.2.1.2.2.2.1:=by rw[em]
 have jf:=J.fm;generalize (bJ vs ms cs fs ts bound z ta.1).1=z' at em0 em1 em2 em3 jf hx J mtb ⊢;have hop:ib.1=8\/ib.1=9\/ib.1=10\/ib.1=11\/ib.1=12\/ib.1=13\/ib.1=14\/ib.1=15\/ib.1=16\/ib.1=17\/ib.1=18\/ib.1=19\/ib.1=20\/ib.1=21\/ib.1=22:=by omega
 have rv:(ib.1=8\/ib.1=10\/ib.1=11\/ib.1=12\/ib.1=14)->z'.2.1.1[ib.2.2.2.2.1.toNat]?=z.2.1.1[ib.2.2.2.2.1.toNat]?:=by
  intro q;rw[em0];refine aiR ok0 (hvar (by omega)).1 λg=>?_
  have hkb:((labS z.2.1 tb ib).2.2.1=1\/(labS z.2.1 tb ib).2.2.1=8\/(labS z.2.1 tb ib).2.2.1=6\/(labS z.2.1 tb ib).2.2.1=5\/(labS z.2.1 tb ib).2.2.1=2)/\(labS z.2.1 tb ib).2.2.2.1=ib.2.2.2.2.1:=by
   rcases q with q | q | q | q | q
   .simp[labS,q]
   .simp[labS,q]
   .simp[labS,q]
   .rw[oU q];split<;>simp
   .simp[labS,q]
  rw[<-hkb.2];exact hI.v1 g hkb.1
 refine⟨?_,?_,h,mtb⟩
 .rcases hop with q | q | q | q | q | q | q | q | q | q | q | q | q | q | q
  .have:=rv (by omega);simp[labS,q,this]
  .simp[labS,q]
  .have:=rv (by omega);simp[labS,q,this]
  .have:=rv (by omega);simp[labS,q,this]
  .have:=rv (by omega);rw[oU q,oU q,this]
  .simp[labS,q]
  .have:=rv (by omega);simp[labS,q,this]
  .simp[labS,q]
  .simp[labS,q]
  .have e17:(labS z.2.1 tb ib).2.2.1=11/\(labS z.2.1 tb ib).2.2.2.1=ib.2.2.2.2.1:=by simp[labS,q]
   have:=DC I.fm jf ok0 em1 (x:=ib.2.2.2.2.1) (λg=>by rw[<-e17.2];exact hI.m1 g (.inr (.inr e17.1))) (λg=>by rw[<-e17.2];exact hI.m2 g (.inr (.inr e17.1)))
   simp[labS,q,this]
  .rw[uY q,uY q]
  .have e19:(labS z.2.1 tb ib).2.2.1=14/\(labS z.2.1 tb ib).2.2.2.1=ib.2.2.2.2.1:=by simp[labS,q]
   have:=Fh ok0 (hcnd (by omega)).1 λg=>by rw[<-e19.2];exact hI.cn g (by omega)
   rw[<-em2]at this;simp[labS,q,this]
  .have e20:(labS z.2.1 tb ib).2.2.1=15/\(labS z.2.1 tb ib).2.2.2.1=ib.2.2.2.2.1:=by simp[labS,q]
   have:=Fh ok0 (hcnd (by omega)).1 λg=>by rw[<-e20.2];exact hI.cn g (by omega)
   rw[<-em2]at this;simp[labS,q,this]
  .simp[labS,q]
  .simp[labS,q]
 .rcases hop with q | q | q | q | q | q | q | q | q | q | q | q | q | q | q
  all_goals first | (simp[rO,q];done) | skip
  .have:=rv (by omega);simp[rO,q,this]
  .have e15:(labS z.2.1 tb ib).2.2.1=9/\(labS z.2.1 tb ib).2.2.2.1=ib.2.2.2.2.1:=by simp[labS,q]
   have:=DC I.fm jf ok0 em1 (x:=ib.2.2.2.2.1) (λg=>by rw[<-e15.2];exact hI.m1 g (.inl e15.1)) (λg=>by rw[<-e15.2];exact hI.m2 g (.inl e15.1))
   simp[rO,q,this]
  .have elb:=uY (m:=z.2.1) (t:=tb) q;have hph:=adX hvl;rcases hph with p | p | p
   .simp[rO,q,p]
   .rw[if_neg (by omega),if_pos p]at elb
    have key:gq z'.2.1.2.2.2.1 tb.1=gq z.2.1.2.2.2.1 tb.1:=by
     rw[MZ,jC,jC,em3,BN (VB I.fm)];have no:∀x,x∈z.2.1.2.2.1[(labS z.2.1 ta ia).2.2.2.1.toNat]?.getD []->(labS z.2.1 ta ia).2.2.1=14\/(labS z.2.1 ta ia).2.2.1=15->x≠tb.1:=by
      intro x PU g e;subst e;cases hk:z.2.1.2.2.1[(labS z.2.1 ta ia).2.2.2.1.toNat]? with
      | none=>rw[hk]at PU;cases PU
      | some q0=>
        rw[hk]at PU;obtain⟨u,hu,e1,p1,j,hj,oj,cj⟩:=I.que _ q0 hk tb.1 PU;have:=oQ I.va.2.2.2 hu mb e1;subst this;rw[hat]at hj;cases hj;have h1:=hI.cn (by omega) (by rw[elb];simp)
        rw[elb]at h1;have h2:=(ok0.2.2.2.2.2 g).1;have h3:=(hcnd (by omega)).1
        have h1:(labS z.2.1 ta ia).2.2.2.1≠ib.2.2.2.2.1:=h1;omega
     constructor
     .rintro(h | ⟨k,h⟩ | ⟨k,h⟩)
      .exact h.1
      .exact absurd rfl (no _ (List.mem_of_mem_take h) (.inl k))
      .exact absurd rfl (no _ h (.inr k))
     .intro h;exact .inl ⟨h,λ_=>by rw[hga];exact hne⟩
    simp[rO,q,p,key]
   .rw[if_neg (by omega),if_neg (by omega)]at elb
    have:=DC I.fm jf ok0 em1 (x:=ib.2.2.2.2.2.1) (λg=>by have:=hI.m1 g (.inl (by rw[elb]));rw[elb]at this;exact this) (λg=>by have:=hI.m2 g (.inl (by rw[elb]));rw[elb]at this;exact this)
    simp[rO,q,p,this]
  .have e22:(labS z.2.1 tb ib).2.2.1=17/\(labS z.2.1 tb ib).2.2.2.1=tb.2.2.2.1.getD ib.2.2.1.toNat 0:=by simp[labS,q]
   have h1:=hI.s2 (.inr e22.1);rw[e22.2,hga]at h1;have h2:=λg=>hI.s3 g e22.1
   rw[e22.2]at h2;have:kX z'.1 (tb.2.2.2.1.getD ib.2.2.1.toNat 0)=kX z.1 (tb.2.2.2.1.getD ib.2.2.1.toNat 0):=by
    rw[hx,if_neg h1,if_neg λp=>h2 p.1 p.2.symm]
   rw[VE q,VE q,this]
theorem Iu{α:Type}{l:List α}{x y:Int}{a b:α} (hx:0<=x) (hy:0<=y) (h:x≠y):(l.set x.toNat a).set y.toNat b=(l.set y.toNat b).set x.toNat a:=List.set_comm _ _ (nat_ne hx hy h)
theorem adZ{n k:MD} (ha:Ei a m) (hb:Ei b m) (hI:Yi a b):Yh b (Yh a m.1)=Yh a (Yh b m.1):=by
 unfold Yh
 by_cases ka:a.2.2.1=5\/a.2.2.1=2
 .by_cases kb:b.2.2.1=5\/b.2.2.1=2
  .simp only[if_pos ka,if_pos kb];exact Iu (ha.1 ka).1.1 (hb.1 kb).1.1 (hI.v1 ka (by omega))
  .simp only[if_pos ka,if_neg kb]
 .simp only[if_neg ka]
theorem ad1(ha:Ei a m) (hb:Ei b m) (hI:Yi a b):vU b (vU a m.2.1)=vU a (vU b m.2.1):=by
 obtain⟨_,a1,a2,a3,_⟩:=ha;obtain⟨_,b1,b2,b3,_⟩:=hb;have form:∀(e:ED),(e.2.2.1=9\/(e.2.2.1=11/\e.2.2.2.2.2.2.2.1≠0)->0<=e.2.2.2.1)->(e.2.2.1=10->0<=e.2.2.2.1)->(e.2.2.1=12->0<=e.2.2.2.2.1) ->
  (∀l,vU e l=l)\/∃x w,0<=x/\(∀l,vU e l=l.set x.toNat w)/\(((e.2.2.1=9\/e.2.2.1=10\/e.2.2.1=11)/\x=e.2.2.2.1)\/(e.2.2.1=12/\x=e.2.2.2.2.1)):=by
  intro e h1 h2 h3;unfold vU
  by_cases k1:e.2.2.1=9\/(e.2.2.1=11/\e.2.2.2.2.2.2.2.1≠0)
  .exact .inr ⟨_,_,h1 k1,λl=>by rw[if_pos k1],.inl ⟨by omega,rfl⟩⟩
  by_cases k2:e.2.2.1=10
  .exact .inr ⟨_,_,h2 k2,λl=>by rw[if_neg k1,if_pos k2],.inl ⟨by omega,rfl⟩⟩
  by_cases k3:e.2.2.1=12
  .exact .inr ⟨_,_,h3 k3,λl=>by rw[if_neg k1,if_neg k2,if_pos k3],.inr ⟨k3,rfl⟩⟩
  .exact .inl λl=>by rw[if_neg k1,if_neg k2,if_neg k3]
 rcases form a (λg=>(a1 g).1.1) (λg=>(a2 g).1.1) (λg=>(a3 g).1.1.1) with fa | ⟨x,w,hx,fa,ka⟩
 .rw[fa,fa]
 rcases form b (λg=>(b1 g).1.1) (λg=>(b2 g).1.1) (λg=>(b3 g).1.1.1) with fb | ⟨y,v,hy,fb,kb⟩
 .rw[fb,fb]
 rw[fa,fa,fb,fb];refine Iu hx hy ?_;rcases ka with⟨ka,rfl⟩ | ⟨ka,rfl⟩<;>rcases kb with⟨kb,rfl⟩ | ⟨kb,rfl⟩
 .exact hI.m1 ka kb
 .exact(hI.m3 ka kb).symm
 .exact hI.m2 ka kb
 .exact hI.m4 ka kb
theorem PV(h:Ei e m):(∀l,Ep e l=l)\/(0<=e.2.2.2.1/\(12<=e.2.2.1/\e.2.2.1<=15)/\∃f:List Int->List Int,∀l,Ep e l=l.set e.2.2.2.1.toNat (f (l[e.2.2.2.1.toNat]?.getD []))):=by
 unfold Ep
 by_cases k1:e.2.2.1=12
 .exact .inr ⟨(h.2.2.2.1 k1).2.1.1,by omega,λl=>l++[e.1],λl=>by rw[if_pos k1]⟩
 by_cases k2:e.2.2.1=14
 .exact .inr ⟨(h.2.2.2.2.2 (.inl k2)).1,by omega,λl=>l.drop 1,λl=>by rw[if_neg k1,if_pos k2]⟩
 by_cases k3:e.2.2.1=15
 .exact .inr ⟨(h.2.2.2.2.2 (.inr k3)).1,by omega,λl=>[],λl=>by rw[if_neg k1,if_neg k2,if_pos k3]⟩
 .exact .inl λl=>by rw[if_neg k1,if_neg k2,if_neg k3]
theorem ad2(ha:Ei a m) (hb:Ei b m) (hI:Yi a b):Ep b (Ep a m.2.2.1)=Ep a (Ep b m.2.2.1):=by
 rcases PV ha with fa | ⟨xa,ka,f,fa⟩
 .rw[fa,fa]
 rcases PV hb with fb | ⟨xb,kb,g,fb⟩
 .rw[fb,fb]
 have hne:=hI.cn ka kb;rw[fa,fa,fb,fb,getD_set_ne (nat_ne xa xb hne),getD_set_ne (nat_ne xb xa hne.symm)];exact Iu xa xb hne
theorem ad3(hf:dO m=true) (ha:Ei a m) (hb:Ei b m) (hI:Yi a b):MP b (Ep a m.2.2.1) (MP a m.2.2.1 m.2.2.2.1)=MP a (Ep b m.2.2.1) (MP b m.2.2.1 m.2.2.2.1):=by
 have hs:=VB hf;have sa:=MR (e:=a) hs;have sb:=MR (e:=b) hs;have qa:∀g:b.2.2.1=14\/b.2.2.1=15,(Ep a m.2.2.1)[b.2.2.2.1.toNat]?=m.2.2.1[b.2.2.2.1.toNat]?:=λg=>Fh ha (hb.2.2.2.2.2 g).1 λk=>hI.cn k (by omega)
 have qb:∀g:a.2.2.1=14\/a.2.2.1=15,(Ep b m.2.2.1)[a.2.2.2.1.toNat]?=m.2.2.1[a.2.2.2.1.toNat]?:=λg=>Fh hb (ha.2.2.2.2.2 g).1 λk=>(hI.cn (by omega) k).symm
 have no:∀(e:ED) (c:Nat),Ei e m->e.2.2.1=13->∀x,x∈m.2.2.1[c]?.getD []->x≠e.1:=by
  intro e c he k x hx g;subst g;cases hk:m.2.2.1[c]? with
  | none=>rw[hk]at hx;cases hx
  | some q0=>rw[hk]at hx;exact ajR hf (jC.1 (he.2.2.2.2.1 k)) hk hx
 refine LQ (MR (m:=(m.1,m.2.1,Ep a m.2.2.1,MP a m.2.2.1 m.2.2.2.1,())) sa) (MR (m:=(m.1,m.2.1,Ep b m.2.2.1,MP b m.2.2.1 m.2.2.2.1,())) sb) λx=>?_
 rw[BN (m:=(m.1,m.2.1,Ep a m.2.2.1,MP a m.2.2.1 m.2.2.2.1,())) sa,BN (m:=(m.1,m.2.1,Ep b m.2.2.1,MP b m.2.2.1 m.2.2.2.1,())) sb];simp only;rw[BN hs,BN hs];constructor
 .rintro(⟨⟨h1,h2⟩ | ⟨k,h1⟩ | ⟨k,h1⟩,h3⟩ | ⟨k,h1⟩ | ⟨k,h1⟩)
  .exact .inl ⟨.inl ⟨h1,h3⟩,h2⟩
  .exact .inr (.inl ⟨k,by rw[qb (.inl k)];exact h1⟩)
  .exact .inr (.inr ⟨k,by rw[qb (.inr k)];exact h1⟩)
  .rw[qa (.inl k)]at h1;exact .inl ⟨.inr (.inl ⟨k,h1⟩),λk13=>no a _ ha k13 x (List.mem_of_mem_take h1)⟩
  .rw[qa (.inr k)]at h1;exact .inl ⟨.inr (.inr ⟨k,h1⟩),λk13=>no a _ ha k13 x h1⟩
 .rintro(⟨⟨h1,h2⟩ | ⟨k,h1⟩ | ⟨k,h1⟩,h3⟩ | ⟨k,h1⟩ | ⟨k,h1⟩)
  .exact .inl ⟨.inl ⟨h1,h3⟩,h2⟩
  .exact .inr (.inl ⟨k,by rw[qa (.inl k)];exact h1⟩)
  .exact .inr (.inr ⟨k,by rw[qa (.inr k)];exact h1⟩)
  .rw[qb (.inl k)]at h1;exact .inl ⟨.inr (.inl ⟨k,h1⟩),λk13=>no b _ hb k13 x (List.mem_of_mem_take h1)⟩
  .rw[qb (.inr k)]at h1;exact .inl ⟨.inr (.inr ⟨k,h1⟩),λk13=>no b _ hb k13 x h1⟩
theorem DF(I:Inv vs ms cs fs ts bound z) (hl:z.1.length<=59) (ma:ta∈z.1) (mb:tb∈z.1) (pa:dY (aF vs ms cs fs ts).1 ms fs ta=(ia,true)) (pb:dY (aF vs ms cs fs ts).1 ms fs tb=(ib,true))
 (ea:rO z.1 z.2.1 ta ia=true) (eb:rO z.1 z.2.1 tb ib=true) (hI:Yi (labS z.2.1 ta ia) (labS z.2.1 tb ib)):
 (bJ vs ms cs fs ts bound z ta.1).2=(labS z.2.1 ta ia,0)/\(bJ vs ms cs fs ts bound (bJ vs ms cs fs ts bound z ta.1).1 tb.1).2=(labS z.2.1 tb ib,0) /\
  Inv vs ms cs fs ts bound (bJ vs ms cs fs ts bound (bJ vs ms cs fs ts bound z ta.1).1 tb.1).1 /\
  (bJ vs ms cs fs ts bound (bJ vs ms cs fs ts bound z ta.1).1 tb.1).1.2.1=(Yh (labS z.2.1 tb ib) (Yh (labS z.2.1 ta ia) z.2.1.1),vU (labS z.2.1 tb ib) (vU (labS z.2.1 ta ia) z.2.1.2.1),Ep (labS z.2.1 tb ib) (Ep (labS z.2.1 ta ia) z.2.1.2.2.1),MP (labS z.2.1 tb ib) (Ep (labS z.2.1 ta ia) z.2.1.2.2.1) (MP (labS z.2.1 ta ia) z.2.1.2.2.1 z.2.1.2.2.2.1),()) /\
  ∀x,kX (bJ vs ms cs fs ts bound (bJ vs ms cs fs ts bound z ta.1).1 tb.1).1.1 x=if x=tb.1 then some (jY (aF vs ms cs fs ts).1 ms fs bound tb (lq ib (labS z.2.1 tb ib))).1
    else if(labS z.2.1 tb ib).2.2.1=16/\x=(labS z.2.1 tb ib).2.2.2.1 then some (newS (aF vs ms cs fs ts).1 fs bound (labS z.2.1 tb ib).2.2.2.1 ib.2.2.2.2.1 (tb.2.2.2.1.getD ib.2.2.1.toNat 0)).1
    else if x=ta.1 then some (jY (aF vs ms cs fs ts).1 ms fs bound ta (lq ia (labS z.2.1 ta ia))).1
    else if(labS z.2.1 ta ia).2.2.1=16/\x=(labS z.2.1 ta ia).2.2.2.1 then some (newS (aF vs ms cs fs ts).1 fs bound (labS z.2.1 ta ia).2.2.2.1 ia.2.2.2.2.1 (ta.2.2.2.1.getD ia.2.2.1.toNat 0)).1 else kX z.1 x:=by
 obtain⟨lb,enb,h,mtb⟩:=aiU I (by omega) ma mb pa pb ea hI
 have J:=BM I (by omega) h
 have h0:=(kG I (by omega) ma pa).2.2.2.2
 obtain⟨t,i,hft,hp,he,hf,em,ee,hn,hlen,hx⟩:=wW I.r8 (by omega) (I.bm (by omega)) h
 rw[jv I.va.2.2.2 ma]at hft;cases hft;rw[pa]at hp;cases hp;rw[xZ I.fm (by rw[kN];exact h0) hf]at em
 have e1:(bJ vs ms cs fs ts bound z ta.1).2=(labS z.2.1 ta ia,0):=Prod.ext ee h;rw[e1];generalize (bJ vs ms cs fs ts bound z ta.1).1=z' at *;have hl':z'.1.length<=60:=by rw[hlen];split<;>omega
 rw[eb]at enb;obtain⟨ok1,nw1⟩:=Dy J hl' mtb pb enb;have hb0:=(kG J hl' mtb pb).2.2.2.2;have hz1:=(Fg J.fm (by rw[kN];exact hb0)).2 ok1
 have h':=Tc J.ok J.va (jv J.va.2.2.2 mtb) pb enb hz1 nw1;have K:=BM J hl' h';obtain⟨t,i,hft,hp,he',hf',em',ee',hn',hlen',hx'⟩:=wW J.r8 (by omega) (J.bm hl') h'
 rw[jv J.va.2.2.2 mtb]at hft;cases hft;rw[pb]at hp;cases hp;rw[xZ J.fm (by rw[kN];exact hb0) hf']at em'
 rw[lb]at em' ee' hx';rw[em]at em';refine⟨rfl,Prod.ext ee' h',K,em',λx=>?_⟩
 rw[hx',hx]
theorem ad4(I:Inv vs ms cs fs ts bound z) (hl:z.1.length<=59) (ma:ta∈z.1) (mb:tb∈z.1) (pa:dY (aF vs ms cs fs ts).1 ms fs ta=(ia,true)) (pb:dY (aF vs ms cs fs ts).1 ms fs tb=(ib,true))
 (ea:rO z.1 z.2.1 ta ia=true) (eb:rO z.1 z.2.1 tb ib=true) (hI:Yi (labS z.2.1 ta ia) (labS z.2.1 tb ib)):
 (bJ vs ms cs fs ts bound z ta.1).2=(labS z.2.1 ta ia,0)/\(bJ vs ms cs fs ts bound (bJ vs ms cs fs ts bound z ta.1).1 tb.1).2=(labS z.2.1 tb ib,0) /\
 (bJ vs ms cs fs ts bound z tb.1).2=(labS z.2.1 tb ib,0)/\(bJ vs ms cs fs ts bound (bJ vs ms cs fs ts bound z tb.1).1 ta.1).2=(labS z.2.1 ta ia,0) /\
 (bJ vs ms cs fs ts bound (bJ vs ms cs fs ts bound z ta.1).1 tb.1).1=(bJ vs ms cs fs ts bound (bJ vs ms cs fs ts bound z tb.1).1 ta.1).1:=by
 obtain⟨a1,a2,a3,a4,a5⟩:=DF I hl ma mb pa pb ea eb hI;obtain⟨b1,b2,b3,b4,b5⟩:=DF I hl mb ma pb pa eb ea hI.sym;refine⟨a1,a2,b1,b2,?_⟩;obtain⟨oka,na⟩:=Dy I (by omega) ma pa ea
 obtain⟨okb,nb⟩:=Dy I (by omega) mb pb eb
 have hga:=kN z.2.1 ta ia;have hgb:=kN z.2.1 tb ib;have hI:=hI;have hne:ta.1≠tb.1:=λq=>hI.ag (by rw[hga,hgb,q])
 have ch:∀{t:TD}{i:ID},t∈z.1->dY (aF vs ms cs fs ts).1 ms fs t=(i,true)->(labS z.2.1 t i).2.2.1=16->(labS z.2.1 t i).2.2.2.1=8 * (t.1+1)+t.2.2.2.2.2.1/\0<=t.2.2.2.2.2.1/\t.2.2.2.2.2.1 < 7:=by
  intro t i mt pt g;obtain⟨hlab,hat,hsu,hvl,_⟩:=kG I (by omega) mt pt
  have hi:=(uV hlab.2.2.2.1).1 g;have hc:=(ou I.ok hvl hsu hat hi (I.r8 t mt)).1;rw[qW hi];obtain⟨c1,c2,_⟩:=qc hc;exact⟨c1,c2⟩
 have eth:(bJ vs ms cs fs ts bound (bJ vs ms cs fs ts bound z ta.1).1 tb.1).1.1=(bJ vs ms cs fs ts bound (bJ vs ms cs fs ts bound z tb.1).1 ta.1).1.1:=by
  refine anQ a3.va.2.2.2 b3.va.2.2.2 λx=>?_
  rw[a5,b5]
  by_cases q1:x=ta.1
  .have n1:¬x=tb.1:=λp=>hne (q1.symm.trans p)
   have n2:¬((labS z.2.1 tb ib).2.2.1=16/\x=(labS z.2.1 tb ib).2.2.2.1):=λp=>nb p.1 ta ma (q1.symm.trans p.2)
   rw[if_neg n1,if_neg n2,if_pos q1,if_pos q1]
  by_cases q2:x=tb.1
  .have n2:¬((labS z.2.1 ta ia).2.2.1=16/\x=(labS z.2.1 ta ia).2.2.2.1):=λp=>na p.1 tb mb (q2.symm.trans p.2)
   rw[if_pos q2,if_neg q1,if_neg n2,if_pos q2]
  rw[if_neg q2,if_neg q1,if_neg q2,if_neg q1]
  by_cases q3:(labS z.2.1 ta ia).2.2.1=16/\x=(labS z.2.1 ta ia).2.2.2.1
  .have n3:¬((labS z.2.1 tb ib).2.2.1=16/\x=(labS z.2.1 tb ib).2.2.2.1):=by
    intro p;have c1:=ch ma pa q3.1;have c2:=ch mb pb p.1;have:=q3.2.symm.trans p.2;omega
   rw[if_pos q3,if_neg n3,if_pos q3]
  .rw[if_neg q3,if_neg q3]
 have emm:(bJ vs ms cs fs ts bound (bJ vs ms cs fs ts bound z ta.1).1 tb.1).1.2.1=(bJ vs ms cs fs ts bound (bJ vs ms cs fs ts bound z tb.1).1 ta.1).1.2.1:=by
  rw[a4,b4,adZ (m:=z.2.1) (n:=z.2.1) (k:=z.2.1) oka okb hI,ad1 oka okb hI,ad2 oka okb hI,ad3 I.fm oka okb hI]
 have ebb:(bJ vs ms cs fs ts bound (bJ vs ms cs fs ts bound z ta.1).1 tb.1).1.2.2=(bJ vs ms cs fs ts bound (bJ vs ms cs fs ts bound z tb.1).1 ta.1).1.2.2:=by
  rw[Prod.ext_iff];exact⟨a3.va.2.1.trans b3.va.2.1.symm,rfl⟩
 exact Prod.ext eth (Prod.ext emm ebb)
end
abbrev shA:Sh:=.pair (.int .i64) (.pair (.int .i64) (.pair (.int .i64) (.pair .bool .unit)))
abbrev AD:=Int×Int×Int×Bool×Unit
def eA(e:ED):Int:=e.1
def eI(e:ED):Int:=e.2.1
def eK(e:ED):Int:=e.2.2.1
def eO(e:ED):Int:=e.2.2.2.1
def eM(e:ED):Int:=e.2.2.2.2.1
def eN(e:ED):Int:=e.2.2.2.2.2.1
def eR(e:ED):Int:=e.2.2.2.2.2.2.1
def eD(e:ED):Int:=e.2.2.2.2.2.2.2.1
def eW(e:ED):Int:=e.2.2.2.2.2.2.2.2.1
def bE(e:ED):Prop:=-9223372036854775808<=eA e/\eA e<=9223372036854775807
def jJ(k:Int):Bool:=k == 1 || k == 2 || k == 3 || k == 5 || k == 6 || k == 8
def kY(k:Int):Bool:=k == 1 || k == 8 || k == 5 || k == 6
def jK(k:Int):Bool:=k == 2 || k == 3 || k == 4 || k == 5
def iQ(n m:Int):Bool:=decide (0<=n) && decide (n < m)
def jR(n:Int):Bool:=decide (-2147483648<=n) && decide (n<=2147483647)
def jL(k o:Int):Bool:=if k=7 then o == 0 else if k=9\/k=10\/k=11 then iQ o 4 else if k=12\/k=13\/k=14\/k=15 then iQ o 4 else if k=16\/k=17 then decide (0<=o) else iQ o 8
def jM(k d:Int):Bool:=if k=11\/k=14 then iQ d 2 else if k=15 then decide (0<=d) else jR d && (kY k || d == 0)
def qj(k e:Int):Bool:=if k=1\/k=8 then decide (-1<=e) else if k=3\/k=4 then decide (0<=e) else e == -1
def ku(e:ED):Bool:=decide (1<=eK e) && decide (eK e<=17) && (decide (eA e < 0) == (eK e == 4)) && decide (0<=eI e) && jL (eK e) (eO e) && jM (eK e) (eD e) && qj (eK e) (eN e) &&
 decide (0<=eR e) && decide (eR e<=2) && (jJ (eK e) || eR e == 0) && jR (eW e) && (jK (eK e) || eW e == 0) && (if eK e=12 then iQ (eM e) 4 else eM e == -1)
def ql(a:Int):Int:=if a < 0 then -(a+1) else a
def ug(t:Int):Int:=if t < 0 then 0 else -t - 1
def Es(e:ED):AD:=(4,ql (eA e),eN e,(eK e == 3 || eK e == 4),())
def zB(e:ED):AD:=(1,eO e,0,(eK e == 2 || eK e == 5 || eK e == 4),())
def gK(e:ED):List AD:=if eK e=1\/eK e=8 then(if 0<=eN e then[Es e] else[zB e]) else if eK e=2\/eK e=5\/eK e=6 then[zB e] else if eK e=3 then[Es e] else if eK e=4 then[zB e,Es e]
 else if eK e=9\/eK e=10\/eK e=11 then[(2,eO e,0,true,())] else if eK e=12 then[(2,eM e,0,true,()),(3,eO e,0,true,())] else if eK e=13\/eK e=14\/eK e=15 then[(3,eO e,0,true,())] else[]
def DI(x y:AD):Bool:=x.1 == y.1 && x.2.1 == y.2.1 && x.2.2.1 == y.2.2.1 && (x.2.2.2.1 || y.2.2.2.1)
def Eb(a b:ED):Bool:=(gK a).any λx=>(gK b).any λy=>DI x y
def rJ(a b:ED):Bool:=if eK a≠16/\eK a≠17 then false else eO a == ql (eA b) || (eK a == 16 && eK b == 17 && eO a == eO b)
def zC(a b:ED):Bool:=if eK a=1\/eK a=2\/eK a=3\/eK a=4\/eK a=8 then false else decide (0<=eA a) && eA b == ug (eA a)
def Jj(a b:ED):Bool:=ku a && ku b && (eA a == eA b || rJ a b || rJ b a || zC a b || zC b a || Eb a b)
theorem ad5(h:rJ a b=false) (nb:0<=eA b):((eK a=16\/eK a=17)->eO a≠eA b)/\(eK a=16->eK b=17->eO a≠eO b):=by
 unfold rJ ql at h
 by_cases q:eK a≠16/\eK a≠17
 .exact⟨λp=>by omega,λp=>by omega⟩
 .rw[if_neg q,if_neg (by omega),oI]at h
  refine⟨λ_ p=>by simp[p]at h,λp1 p2 p3=>by simp[p1,p2,p3]at h⟩
theorem aiV(va:ku a=true) (vb:ku b=true) (na:0<=eA a) (nb:0<=eA b) (ea:eN a = -1) (eb:eN b = -1) (h:Jj a b=false):Yi a b:=by
 unfold Jj at h;rw[va,vb]at h;simp only[Iw,oI]at h;obtain⟨⟨⟨⟨⟨h1,h2⟩,h3⟩,_⟩,_⟩,h6⟩:=h;have hc:∀x∈gK a,∀y∈gK b,DI x y=false:=by
  intro x hx y hy;rw[A87];intro q;have:Eb a b=true:=A95.2 ⟨x,hx,A95.2 ⟨y,hy,q⟩⟩;rw[h6]at this;cases this
 have t1:=ad5 h2 nb;have t2:=ad5 h3 na;have var:∀{e:ED},eN e = -1->(eK e=1\/eK e=8\/eK e=6\/eK e=5\/eK e=2)->zB e∈gK e:=by
  intro e en k;rcases k with k | k | k | k | k<;>simp[gK,k,en]
 have wr:∀{e:ED},(eK e=5\/eK e=2)->(zB e).2.2.2.1=true:=by
  intro e k;rcases k with k | k<;>simp[zB,k]
 have mtx:∀{e:ED},(eK e=9\/eK e=10\/eK e=11)->(2,eO e,0,true,())∈gK e:=by
  intro e k;rcases k with k | k | k<;>simp[gK,k]
 have aiW:∀{e:ED},eK e=12->(2,eM e,0,true,())∈gK e:=by
  intro e k;simp[gK,k]
 have cnd:∀{e:ED},(12<=eK e/\eK e<=15)->(3,eO e,0,true,())∈gK e:=by
  intro e k;have:eK e=12\/eK e=13\/eK e=14\/eK e=15:=by omega
  rcases this with k | k | k | k<;>simp[gK,k]
 have hv:∀{x y:AD},x∈gK a->y∈gK b->x.1=y.1->x.2.2.1=y.2.2.1->(x.2.2.2.1=true\/y.2.2.2.1=true)->x.2.1≠y.2.1:=by
  intro x y hx hy e1 e2 hw q;have:=hc x hx y hy;unfold DI at this;rw[e1,e2,q]at this;rcases hw with hw | hw<;>simp[hw]at this
 refine⟨λq=>by simp[eA,q]at h1,λp q=>?_,λp q=>?_,λp q=>?_,λp q=>?_,λp q=>?_,λp q=>?_,λp q=>?_,t1.1,t2.1,t1.2,t2.2⟩
 .exact hv (var ea (by rcases p with p | p;exact .inr (.inr (.inr (.inl p)));exact .inr (.inr (.inr (.inr p))))) (var eb q) rfl rfl (.inl (wr p))
 .exact(hv (var ea q) (var eb (by rcases p with p | p;exact .inr (.inr (.inr (.inl p)));exact .inr (.inr (.inr (.inr p))))) rfl rfl (.inr (wr p))).symm
 .exact hv (mtx p) (mtx q) rfl rfl (.inl rfl)
 .exact hv (aiW p) (mtx q) rfl rfl (.inl rfl)
 .exact(hv (mtx p) (aiW q) rfl rfl (.inl rfl)).symm
 .exact hv (aiW p) (aiW q) rfl rfl (.inl rfl)
 .exact hv (cnd p) (cnd q) rfl rfl (.inl rfl)
theorem ad6(h:rG i=0):0<=i.2.2.2.2.2.2.2.1/\i.2.2.2.2.2.2.2.1<=2:=by
 unfold rG pV at h
 repeat' split at h
 all_goals first | (simp at h;done) | skip
 rename_i h1 h2 h3 h4 h5 h6;simp at h4;omega
theorem ad7(b:Bool):tZ b=0\/tZ b=1:=by cases b<;>simp[tZ]
theorem ad8(n:Nat):jH 1 n=0\/jH 1 n=1:=by unfold jH;split<;>omega
section
variable {vs:List VD}{ms cs:List ByteArray}{fs:List FD}{ts:List SD}{bound:Int}{z:ZD}
theorem VF(I:Inv vs ms cs fs ts bound z) (hl:z.1.length<=60) (hm:t∈z.1) (hp:dY (aF vs ms cs fs ts).1 ms fs t=(i,true)):
 ku (labS z.2.1 t i)=true\/((labS z.2.1 t i).2.2.1=17/\(labS z.2.1 t i).2.2.2.1 < 0):=by
 obtain⟨⟨_,hb,hc,hv,hvar,hcnd,hord⟩,hat,hsu,hvl,h0⟩:=kG I hl hm hp;have hz:=fJ.1 I.ok;have hf:=fK hvl;obtain⟨k1,k2,k3,k4⟩:=qR (D6 hz.1 (Dp hf).1 hat);have ho:=ad6 k1;have hsz:=uf I.va.1;have hfm:=I.fm;have hco:=(adD (kV hz.1).1).1;have hst:0<=t.2.2.2.2.1:=by
  obtain⟨_,fn,pc,rg,st,ch,ph,su,fa,hd,u⟩:=t;exact hf.2.2.2.2.1.1
 have hrg:∀b:Int,0<=b/\b < 8->-2147483648<=t.2.2.2.1.getD b.toNat 0/\t.2.2.2.1.getD b.toNat 0<=2147483647:=by
  intro b hb;obtain⟨x,fn,pc,rg,st,ch,ph,su,fa,hd,u⟩:=t;exact nR.1 (Hy hf.2.2.2.1 hb)
 have hmv:∀x:Int,-2147483648<=z.2.1.1[x.toNat]?.getD 0/\z.2.1.1[x.toNat]?.getD 0<=2147483647:=by
  intro x;cases hx:z.2.1.1[x.toNat]? with
  | none=>simp
  | some v=>
    have:=(dU.1 hfm);obtain⟨l,⟨mv,mo,mq,mg,⟨⟩⟩,bf,⟨⟩⟩:=z;exact nR.1 (this.2.2.2.2.1 v (iJ hx))
 have hap:=nR.1 (L8 1 (z.2.1.1[i.2.2.2.2.1.toNat]?.getD 0) (t.2.2.2.1.getD i.2.2.1.toNat 0));have hbr:=hrg _ hb;have hcr:=hrg _ hc;have hmr:=hmv i.2.2.2.2.1;have hmx:i.1=15\/i.1=16\/i.1=17->0<=i.2.2.2.2.1/\i.2.2.2.2.1 < 4:=by
  intro q;rw[JZ q]at k2;have:=k2 (by omega)
  omega
 have hvx:i.1<=14/\i.1≠13->0<=i.2.2.2.2.1/\i.2.2.2.2.1 < 8:=by
  intro q;have:=hvar q;have e:(z.2.1.1.length:Int)<=8:=by rw[hsz.2.2.1];show(vs.length:Int)<=8;omega
  omega
 have hcx:18<=i.1/\i.1<=20->0<=i.2.2.2.2.1/\i.2.2.2.2.1 < 4:=by
  intro q;have:=hcnd q;have e:(z.2.1.2.2.1.length:Int)<=4:=by rw[hsz.2.2.2.2];show(cs.length:Int)<=4;omega
  omega
 have hnx:i.1=18->0<=i.2.2.2.2.2.1/\i.2.2.2.2.2.1 < 4:=by
  intro q;have:=k3 q;omega
 have hfe:i.1=13->i.2.2.2.2.1=0:=by
  intro q;unfold rG pV at k1
  repeat' split at k1
  all_goals first | (simp at k1;done) | skip
  rename_i h1 h2 h3 h4 h5 h6;simp[q,use,agt]at h2;omega
 have hop:i.1=8\/i.1=9\/i.1=10\/i.1=11\/i.1=12\/i.1=13\/i.1=14\/i.1=15\/i.1=16\/i.1=17\/i.1=18\/i.1=19\/i.1=20\/i.1=21\/i.1=22:=by omega
 have key:∀{k o x r d w:Int},k≠4->1<=k->k<=17->jL k o=true->jM k d=true->(k≠3/\k≠4)->(0<=r/\r<=2)->(jJ k || r == 0)=true->(-2147483648<=w/\w<=2147483647)->(jK k || w == 0)=true->(if k=12 then iQ x 4 else x == -1)=true ->
  ku (t.1,t.2.2.2.2.1,k,o,x,-1,r,d,w,())=true:=by
  intro k o x r d w a1 a2 a3 a4 a5 a6 a7 a8 a9 a10 a11;show(decide (1<=k) && decide (k<=17) && (decide (t.1 < 0) == (k == 4)) && decide (0<=t.2.2.2.2.1) && jL k o && jM k d && qj k (-1) && decide (0<=r) && decide (r<=2) && (jJ k || r == 0) && jR w && (jK k || w == 0) && (if k=12 then iQ x 4 else x == -1))=true
  have e1:decide (t.1 < 0)=false:=BP (by omega)
  have e0:(k == 4)=false:=by simp[a1]
  have e2:qj k (-1)=true:=by
   unfold qj;split
   .rfl
   .rw[if_neg (by omega)];rfl
  have e3:jR w=true:=by unfold jR;simp;omega
  rw[e1,e0,e2,e3,a4,a5,a8,a10,a11];simp;omega
 rcases hop with q | q | q | q | q | q | q | q | q | q | q | q | q | q | q
 .left;have:=hvx (by omega)
  have e:labS z.2.1 t i=(t.1,t.2.2.2.2.1,1,i.2.2.2.2.1,-1,-1,i.2.2.2.2.2.2.2.1,z.2.1.1[i.2.2.2.2.1.toNat]?.getD 0,0,()):=by simp[labS,q]
  rw[e];exact key (by omega) (by omega) (by omega) (by simp[jL,iQ];omega) (by simp[jM,jR,kY];omega) (by omega) ho (by simp[jJ]) (by omega) (by simp[jK]) (by simp)
 .left;have:=hvx (by omega)
  have e:labS z.2.1 t i=(t.1,t.2.2.2.2.1,2,i.2.2.2.2.1,-1,-1,i.2.2.2.2.2.2.2.1,0,t.2.2.2.1.getD i.2.2.1.toNat 0,()):=by simp[labS,q]
  rw[e];exact key (by omega) (by omega) (by omega) (by simp[jL,iQ];omega) (by simp[jM,jR,kY]) (by omega) ho (by simp[jJ]) hbr (by simp[jK]) (by simp)
 .left;have:=hvx (by omega)
  have e:labS z.2.1 t i=(t.1,t.2.2.2.2.1,5,i.2.2.2.2.1,-1,-1,i.2.2.2.2.2.2.2.1,z.2.1.1[i.2.2.2.2.1.toNat]?.getD 0,t.2.2.2.1.getD i.2.2.1.toNat 0,()):=by simp[labS,q]
  rw[e];exact key (by omega) (by omega) (by omega) (by simp[jL,iQ];omega) (by simp[jM,jR,kY];omega) (by omega) ho (by simp[jJ]) hbr (by simp[jK]) (by simp)
 .left;have:=hvx (by omega)
  have e:labS z.2.1 t i=(t.1,t.2.2.2.2.1,5,i.2.2.2.2.1,-1,-1,i.2.2.2.2.2.2.2.1,z.2.1.1[i.2.2.2.2.1.toNat]?.getD 0,(iG 1 (z.2.1.1[i.2.2.2.2.1.toNat]?.getD 0) (t.2.2.2.1.getD i.2.2.1.toNat 0)).1,()):=by simp[labS,q]
  rw[e];exact key (by omega) (by omega) (by omega) (by simp[jL,iQ];omega) (by simp[jM,jR,kY];omega) (by omega) ho (by simp[jJ]) hap (by simp[jK]) (by simp)
 .left;have:=hvx (by omega)
  by_cases g:z.2.1.1[i.2.2.2.2.1.toNat]?.getD 0=t.2.2.2.1.getD i.2.2.1.toNat 0
  .have e:labS z.2.1 t i=(t.1,t.2.2.2.2.1,5,i.2.2.2.2.1,-1,-1,i.2.2.2.2.2.2.2.1,z.2.1.1[i.2.2.2.2.1.toNat]?.getD 0,t.2.2.2.1.getD i.2.2.2.1.toNat 0,()):=by
    rw[oU q,if_pos g]
   rw[e];exact key (by omega) (by omega) (by omega) (by simp[jL,iQ];omega) (by simp[jM,jR,kY];omega) (by omega) ho (by simp[jJ]) hcr (by simp[jK]) (by simp)
  .have e:labS z.2.1 t i=(t.1,t.2.2.2.2.1,6,i.2.2.2.2.1,-1,-1,i.2.2.2.2.2.2.2.1,z.2.1.1[i.2.2.2.2.1.toNat]?.getD 0,0,()):=by
    rw[oU q,if_neg g]
   rw[e];exact key (by omega) (by omega) (by omega) (by simp[jL,iQ];omega) (by simp[jM,jR,kY];omega) (by omega) ho (by simp[jJ]) (by omega) (by simp[jK]) (by simp)
 .left;have:=hfe q;have e:labS z.2.1 t i=(t.1,t.2.2.2.2.1,7,i.2.2.2.2.1,-1,-1,0,0,0,()):=by simp[labS,q]
  rw[e];exact key (by omega) (by omega) (by omega) (by simp[jL,this]) (by simp[jM,jR,kY]) (by omega) (by omega) (by simp[jJ]) (by omega) (by simp[jK]) (by simp)
 .left;have:=hvx (by omega)
  have e:labS z.2.1 t i=(t.1,t.2.2.2.2.1,8,i.2.2.2.2.1,-1,-1,i.2.2.2.2.2.2.2.1,z.2.1.1[i.2.2.2.2.1.toNat]?.getD 0,0,()):=by simp[labS,q]
  rw[e];exact key (by omega) (by omega) (by omega) (by simp[jL,iQ];omega) (by simp[jM,jR,kY];omega) (by omega) ho (by simp[jJ]) (by omega) (by simp[jK]) (by simp)
 .left;have:=hmx (by omega)
  have e:labS z.2.1 t i=(t.1,t.2.2.2.2.1,9,i.2.2.2.2.1,-1,-1,0,0,0,()):=by simp[labS,q]
  rw[e];exact key (by omega) (by omega) (by omega) (by simp[jL,iQ];omega) (by simp[jM,jR,kY]) (by omega) (by omega) (by simp[jJ]) (by omega) (by simp[jK]) (by simp)
 .left;have:=hmx (by omega)
  have e:labS z.2.1 t i=(t.1,t.2.2.2.2.1,10,i.2.2.2.2.1,-1,-1,0,0,0,()):=by simp[labS,q]
  rw[e];exact key (by omega) (by omega) (by omega) (by simp[jL,iQ];omega) (by simp[jM,jR,kY]) (by omega) (by omega) (by simp[jJ]) (by omega) (by simp[jK]) (by simp)
 .left;have:=hmx (by omega)
  have e:labS z.2.1 t i=(t.1,t.2.2.2.2.1,11,i.2.2.2.2.1,-1,-1,0,tZ (l9 z.2.1 i.2.2.2.2.1),0,()):=by simp[labS,q]
  rw[e];exact key (by omega) (by omega) (by omega) (by simp[jL,iQ];omega) (by have:=ad7 (l9 z.2.1 i.2.2.2.2.1);simp[jM,iQ];omega) (by omega) (by omega) (by simp[jJ]) (by omega) (by simp[jK]) (by simp)
 .left;have h1:=hcx (by omega)
  have h2:=hnx q;rw[uY q];split
  .exact key (by omega) (by omega) (by omega) (by simp[jL,iQ];omega) (by simp[jM,jR,kY]) (by omega) (by omega) (by simp[jJ]) (by omega) (by simp[jK]) (by simp[iQ];omega)
  split
  .exact key (by omega) (by omega) (by omega) (by simp[jL,iQ];omega) (by simp[jM,jR,kY]) (by omega) (by omega) (by simp[jJ]) (by omega) (by simp[jK]) (by simp)
  .exact key (by omega) (by omega) (by omega) (by simp[jL,iQ];omega) (by simp[jM,jR,kY]) (by omega) (by omega) (by simp[jJ]) (by omega) (by simp[jK]) (by simp)
 .left;have h1:=hcx (by omega)
  have e:labS z.2.1 t i=(t.1,t.2.2.2.2.1,14,i.2.2.2.2.1,-1,-1,0,jH 1 ((z.2.1.2.2.1[i.2.2.2.2.1.toNat]?.getD []).length:Int),0,()):=by simp[labS,q]
  rw[e];exact key (by omega) (by omega) (by omega) (by simp[jL,iQ];omega) (by have:=ad8 (z.2.1.2.2.1[i.2.2.2.2.1.toNat]?.getD []).length;simp[jM,iQ];omega) (by omega) (by omega) (by simp[jJ]) (by omega) (by simp[jK]) (by simp)
 .left;have h1:=hcx (by omega)
  have e:labS z.2.1 t i=(t.1,t.2.2.2.2.1,15,i.2.2.2.2.1,-1,-1,0,((z.2.1.2.2.1[i.2.2.2.2.1.toNat]?.getD []).length:Int),0,()):=by simp[labS,q]
  rw[e];exact key (by omega) (by omega) (by omega) (by simp[jL,iQ];omega) (by simp[jM,iQ]) (by omega) (by omega) (by simp[jJ]) (by omega) (by simp[jK]) (by simp)
 .left;have hch:=(ou I.ok hvl hsu hat q (I.r8 t hm)).1;obtain⟨_,_,_,_,c5,_⟩:=qc hch;have e:labS z.2.1 t i=(t.1,t.2.2.2.2.1,16,(dM t.1 t.2.2.2.2.2.1).1,-1,-1,0,0,0,()):=by simp[labS,q]
  rw[e];exact key (by omega) (by omega) (by omega) (by simp[jL];omega) (by simp[jM,jR,kY]) (by omega) (by omega) (by simp[jJ]) (by omega) (by simp[jK]) (by simp)
 .have e:labS z.2.1 t i=(t.1,t.2.2.2.2.1,17,t.2.2.2.1.getD i.2.2.1.toNat 0,-1,-1,0,0,0,()):=by simp[labS,q]
  rw[e]
  by_cases g:0<=t.2.2.2.1.getD i.2.2.1.toNat 0
  .left;exact key (by omega) (by omega) (by omega) (by simp[jL];simpa using g) (by simp[jM,jR,kY]) (by omega) (by omega) (by simp[jJ]) (by omega) (by simp[jK]) (by simp)
  .right;exact⟨rfl,by simpa using g⟩
theorem VG(m:MD) (t:TD) (i:ID):(labS m t i).2.2.2.2.2.1 = -1:=by
 have key:∀(c:Prop) [Decidable c] (a b:ED),a.2.2.2.2.2.1 = -1->b.2.2.2.2.2.1 = -1->(if c then a else b).2.2.2.2.2.1 = -1:=by
  intro c _ a b ha hb;split
  .exact ha
  .exact hb
 unfold labS
 repeat' (first | rfl | (apply key))
theorem aiX(I:Inv vs ms cs fs ts bound z) (hl:z.1.length<=60) (ma:ta∈z.1) (mb:tb∈z.1) (pa:dY (aF vs ms cs fs ts).1 ms fs ta=(ia,true)) (pb:dY (aF vs ms cs fs ts).1 ms fs tb=(ib,true))
 (ea:rO z.1 z.2.1 ta ia=true) (hne:ta.1≠tb.1) (hd:Jj (labS z.2.1 ta ia) (labS z.2.1 tb ib)=false):Yi (labS z.2.1 ta ia) (labS z.2.1 tb ib):=by
 obtain⟨⟨_,_,_,hv,_⟩,hat,hsu,hvl,h0⟩:=kG I hl ma pa;have h1:=(kG I hl mb pb).2.2.2.2;have hga:=kN z.2.1 ta ia;have hgb:=kN z.2.1 tb ib;have hju:(labS z.2.1 ta ia).2.2.1=17->∃u∈z.1,u.1=(labS z.2.1 ta ia).2.2.2.1/\(u.2.2.2.2.2.2.2.1=2\/u.2.2.2.2.2.2.2.1=3):=by
  intro g;have q:ia.1=22:=by
   have hop:ia.1=8\/ia.1=9\/ia.1=10\/ia.1=11\/ia.1=12\/ia.1=13\/ia.1=14\/ia.1=15\/ia.1=16\/ia.1=17\/ia.1=18\/ia.1=19\/ia.1=20\/ia.1=21\/ia.1=22:=by omega
   rcases hop with q | q | q | q | q | q | q | q | q | q | q | q | q | q | q
   all_goals first | exact q | (exfalso;simp[labS,q]at g;done) | skip
   .exfalso;rw[oU q]at g;split at g<;>simp at g
   .exfalso;rw[uY q]at g;split at g
    .simp at g
    split at g<;>simp at g
  have e:(labS z.2.1 ta ia).2.2.2.1=ta.2.2.2.1.getD ia.2.2.1.toNat 0:=by simp[labS,q]
  rw[e];unfold rO at ea;rw[if_neg (by omega),if_neg (by omega),if_neg (by omega),if_pos q]at ea
  cases hf:kX z.1 (ta.2.2.2.1.getD ia.2.2.1.toNat 0) with
  | none=>rw[hf]at ea;cases ea
  | some u=>
    obtain⟨hu,e2⟩:=(jw I.va.2.2.2).1 hf;rw[hf]at ea;exact⟨u,hu,e2,by simpa using ea⟩
 have hjn:(labS z.2.1 ta ia).2.2.1=17->0<=(labS z.2.1 ta ia).2.2.2.1:=by
  intro g;obtain⟨u,hu,e2,_⟩:=hju g;rw[<-e2];have:=fK (I.va.2.2.1 u hu).2;obtain⟨_,fn,pc,rg,st,ch,ph,su,fa,hd,_⟩:=u;exact(lG this.1).1
 have va:ku (labS z.2.1 ta ia)=true:=by
  rcases VF I hl ma pa with v | ⟨v1,v2⟩
  .exact v
  .have:=hjn v1;omega
 rcases VF I hl mb pb with vb | ⟨vb,vo⟩
 .exact aiV va vb (by show 0<=(labS z.2.1 ta ia).1;omega) (by show 0<=(labS z.2.1 tb ib).1;omega) (VG _ _ _) (VG _ _ _) hd
 .have hso:(labS z.2.1 ta ia).2.2.1=16->0<=(labS z.2.1 ta ia).2.2.2.1:=by
   intro g;have hi:=(uV hv).1 g;have hch:=(ou I.ok hvl hsu hat hi (I.r8 ta ma)).1;rw[qW hi];have:=(qc hch).2.2.2.2.1;omega
  have n1:(labS z.2.1 ta ia).2.2.1=16\/(labS z.2.1 ta ia).2.2.1=17->(labS z.2.1 ta ia).2.2.2.1≠(labS z.2.1 tb ib).1:=by
   intro g q;rw[hgb]at q;rcases g with g | g
   .exact(Dy I hl ma pa ea).2 g tb mb q.symm
   .obtain⟨u,hu,e2,e3⟩:=hju g;have:=oQ I.va.2.2.2 hu mb (e2.trans q);subst this;have:=(kG I hl hu pb).2.2.1;omega
  refine⟨by rw[hga,hgb];exact hne,λ_ q=>by omega,λq _=>by omega,λ_ q=>by omega,λ_ q=>by omega,λ_ q=>by omega,λ_ q=>by omega,λ_ q=>by omega,n1,λ_=>by omega,λg _=>by have:=hso g;omega,λq _=>by omega⟩
end
end
end Go.Proofs.YtjhenjhcbcalpaaGreatDoor
