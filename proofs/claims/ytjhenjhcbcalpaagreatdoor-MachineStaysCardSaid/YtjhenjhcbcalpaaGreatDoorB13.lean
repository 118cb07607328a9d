/- Part 13 of the proof. Conditions: the rows'. -/
import Derived.Test.YtjhenjhcbcalpaaGreatDoorB12
set_option linter.unusedSimpArgs false
set_option linter.unusedVariables false
set_option maxRecDepth 1000000
set_option maxHeartbeats 8000000
namespace Go.Proofs.YtjhenjhcbcalpaaGreatDoor
open Go Go.ni
noncomputable section
variable {l:List TD}{t u:TD}{ms:List ByteArray}{fs:List FD}{m:MD}{id c bound v:Int}{i:ID}{e:ED}{k:Nat}
theorem mZ(h:nN l) (ht:t∈l):lU l t.1=some t:=by
 have hp:l.Pairwise λa b=>a.1 < b.1:=Xy.1 h
 clear h;unfold lU
 induction l with
 | nil=>cases ht
 | cons a l ih=>
   rw[A80]at hp;rcases ng.1 ht with rfl | ht
   .simp
   .have:=hp.1 t ht;rw[List.find?_cons_of_neg (by simp;omega)]
    exact ih ht hp.2
theorem ahz{vs:List VD}{cs:List ByteArray}{ts:List SD}{b:Int}{bf:List BD} (hs:dG (aG vs ms cs fs ts).1 b=0) (h:VS vs ms cs fs ts b l m bf):VS vs ms cs fs ts 32 l m bf:=by
 have hz:=fE.1 hs;exact⟨h.1,h.2.1,λt ht=>⟨fE.2 ⟨hz.1,by omega,by omega⟩,abB hz.2.2 (h.2.2.1 t ht).2⟩,h.2.2.2⟩
abbrev ahA(a b:ED):Bool:=true && a.1 == b.1 && a.2.1 == b.2.1 && a.2.2.1 == b.2.2.1 && a.2.2.2.1 == b.2.2.2.1 && a.2.2.2.2.1 == b.2.2.2.2.1 && a.2.2.2.2.2.1 == b.2.2.2.2.2.1 && a.2.2.2.2.2.2.1 == b.2.2.2.2.2.2.1 && a.2.2.2.2.2.2.2.1 == b.2.2.2.2.2.2.2.1 && a.2.2.2.2.2.2.2.2.1 == b.2.2.2.2.2.2.2.2.1
theorem acI(a:ED):ahA a a=true:=by unfold ahA;simp
theorem jL(h:nN l){x:Int}:lU l x=some t↔t∈l/\t.1=x:=by
 constructor
 .intro q;exact⟨aiS q,by simpa using L8 q⟩
 .rintro⟨a,rfl⟩;exact mZ h a
theorem lX(h:nN l){a b:TD} (ha:a∈l) (hb:b∈l) (e:a.1=b.1):a=b:=by
 have h1:=mZ h ha;have h2:=mZ h hb;rw[e,h2]at h1;exact(LW h1).symm
theorem UQ(h:nN l) (ht:t∈l) (u:TD):∃k,l[k]?=some t/\stT l t.1 u=l.set k u:=by
 have q:0<=gu (λx=>decide (x.1=t.1)) l:=by
  refine Hw.1 λq=>?_
  have:=Xo.1 (pV q) t ht;simp at this
 obtain⟨k,v,q1,q2,q3,q4⟩:=nO q;have ek:(fM (gu (λx=>decide (x.1=t.1)) l) 0).toNat=k:=by rw[q1];unfold fM;split<;>omega
 have hv:v=t:=lX h (iM q2) ht (by simpa using L8 q3)
 exact⟨k,by rw[q2,hv],by unfold stT;rw[ek]⟩
theorem amE(h:nN l) (ht:t∈l) (hu:u.1=t.1):nN (stT l t.1 u):=by
 obtain⟨k,e1,e2⟩:=UQ h ht u;rw[e2];exact acC h e1 hu
theorem UR(h:nN l) (ht:t∈l) (hu:u.1=t.1) (x:Int):lU (stT l t.1 u) x=if x=t.1 then some u else lU l x:=by
 have hs:=amE h ht hu;obtain⟨k,e1,e2⟩:=UQ h ht u;have gZ:=(eG.1 e1).1
 by_cases q:x=t.1
 .rw[if_pos q];exact(jL hs).2 ⟨by rw[e2];exact iM (by rw[qc gZ]),hu.trans q.symm⟩
 .rw[if_neg q];apply Option.ext;intro y;rw[jL hs,jL h,e2];constructor
  .rintro⟨hy,rfl⟩;rcases JF hy with hy | rfl
   .exact⟨hy,rfl⟩
   .exact absurd hu q
  .rintro⟨hy,rfl⟩;refine⟨?_,rfl⟩;obtain⟨j,hj⟩:=A88.1 hy;have hne:k≠j:=by rintro rfl;rw[e1]at hj;cases hj;exact q rfl
   exact iM (by rw[l9 hne];exact hj)
theorem Bl:t∈insL l id u↔t∈l\/t=u:=by
 constructor
 .intro hx;unfold insL at hx;simp only[DY,Xg]at hx;rcases hx with(hx | hx) | hx
  .exact .inl ((List.takeWhile_sublist _).subset hx)
  .exact .inr hx
  .exact .inl ((List.dropWhile_sublist _).subset hx)
 .rintro(h | rfl)
  .exact Bh h
  .unfold insL;simp
theorem acJ(h:nN l) (hu:u.1=c) (hn:∀t∈l,t.1≠c) (x:Int):lU (insL l c u) x=if x=c then some u else lU l x:=by
 have hs:=Rx h hu hn
 by_cases q:x=c
 .rw[if_pos q];exact(jL hs).2 ⟨Bl.2 (.inr rfl),hu.trans q.symm⟩
 .rw[if_neg q];apply Option.ext;intro y;rw[jL hs,jL h,Bl];constructor
  .rintro⟨hy | rfl,rfl⟩
   .exact⟨hy,rfl⟩
   .exact absurd hu q
  .rintro⟨hy,rfl⟩;exact⟨.inl hy,rfl⟩
theorem acK:(0<=gu (λu=>decide (u.1=c)) l)↔∃t∈l,t.1=c:=by
 constructor
 .intro q;obtain⟨k,v,q1,q2,q3,q4⟩:=nO q;exact⟨v,iM q2,by simpa using L8 q3⟩
 .rintro⟨t,ht,e⟩;refine Hw.1 λq=>?_
  have:=Xo.1 (pV q) t ht;simp[e]at this
theorem Hl{vs:List VD}{cs:List ByteArray}{ts:List SD}{z:ZD} (h8:IG z.1) (hl:z.1.length<=999999) (hM:bI z.2.1) (h:(dV vs ms cs fs ts bound z id).2.2=0):
 ∃t i,lU z.1 id=some t/\dZ (aG vs ms cs fs ts).1 ms fs t=(i,true)/\uK z.1 z.2.1 t i=true/\(jM z.2.1 (labS z.2.1 t i)).2=0 /\
   (dV vs ms cs fs ts bound z id).1.2.1=(jM z.2.1 (labS z.2.1 t i)).1/\(dV vs ms cs fs ts bound z id).2.1=labS z.2.1 t i /\
   ((labS z.2.1 t i).2.2.1=16->∀u∈z.1,u.1≠(labS z.2.1 t i).2.2.2.1) /\
   (dV vs ms cs fs ts bound z id).1.1.length=z.1.length+(if(labS z.2.1 t i).2.2.1=16 then 1 else 0) /\
   ∀x,lU (dV vs ms cs fs ts bound z id).1.1 x=if x=id then some (kG (aG vs ms cs fs ts).1 ms fs bound t (lV i (labS z.2.1 t i))).1
     else if(labS z.2.1 t i).2.2.1=16/\x=(labS z.2.1 t i).2.2.2.1 then some (newS (aG vs ms cs fs ts).1 fs bound (labS z.2.1 t i).2.2.2.1 i.2.2.2.2.1 (t.2.2.2.1.getD i.2.2.1.toNat 0)).1 else lU z.1 x:=by
 obtain⟨hs,hV,t,i,hr,he,hf,hd,e⟩:=JD h;have hT:=LH hV h8 (by omega)
 obtain⟨hm,hid,hlab,hat,hsu,hvl⟩:=He hV hM hT hr;have hch:i.1=21->(dJ t.1 t.2.2.2.2.2.1).2=true:=λq=>(pW hs hvl hsu hat q (h8 t hm)).1
 have hcz:=Hf hs hvl hsu (Ey (m:=z.2.1) (i:=i) hlab.1.2.1 hch);obtain⟨_,c1,c2,_,c3,_⟩:=abA (h8 t hm) hcz;have hft:lU z.1 id=some t:=(jL hV.2.2.2).2 ⟨hm,hid⟩;have hpn:dZ (aG vs ms cs fs ts).1 ms fs t=(i,true):=by
  unfold jq at hr;rw[hft]at hr;simp only[Ic,true_and]at hr;exact Prod.ext hr.1 hr.2
 rw[e];subst hid;have hn:(labS z.2.1 t i).2.2.1=16->∀u∈z.1,u.1≠(labS z.2.1 t i).2.2.2.1:=λg u hu q=>hd ⟨g,acK.2 ⟨u,hu,q⟩⟩
 refine⟨t,i,hft,hpn,he,hf,rfl,rfl,hn,?_,λx=>?_⟩
 .show(stT _ _ _).length=_;unfold stT;rw[xY];split
  .rw[OO]
  .rfl
 show lU (stT _ _ _) x=_
 by_cases g:(labS z.2.1 t i).2.2.1=16
 .have hi:=(xK hlab.2.2.2.1).1 g;obtain⟨s1,s2⟩:=pW hs hvl hsu hat hi (h8 t hm);rw[<-uN (m:=z.2.1) hi]at s2;have n3:=C9 s2;rw[if_pos g,UR (Rx hV.2.2.2 n3 (hn g)) (Bh hm) c3,acJ hV.2.2.2 n3 (hn g)]
  by_cases q:x=t.1
  .rw[if_pos q,if_pos q]
  .rw[if_neg q,if_neg q]
   by_cases q2:x=(labS z.2.1 t i).2.2.2.1
   .rw[if_pos q2,if_pos ⟨g,q2⟩]
   .rw[if_neg q2,if_neg λp=>q2 p.2]
 .rw[if_neg g,UR hV.2.2.2 hm c3]
  by_cases q:x=t.1
  .rw[if_pos q,if_pos q]
  .rw[if_neg q,if_neg q,if_neg λp=>g p.1]
theorem acL{vs:List VD}{cs:List ByteArray}{ts:List SD}{z:ZD} (hs:dG (aG vs ms cs fs ts).1 bound=0) (hV:VS vs ms cs fs ts bound z.1 z.2.1 z.2.2.1)
 (hft:lU z.1 id=some t) (hp:dZ (aG vs ms cs fs ts).1 ms fs t=(i,true)) (he:uK z.1 z.2.1 t i=true) (hf:(jM z.2.1 (labS z.2.1 t i)).2=0) (hn:(labS z.2.1 t i).2.2.1=16->∀u∈z.1,u.1≠(labS z.2.1 t i).2.2.2.1):
 (dV vs ms cs fs ts bound z id).2.2=0:=by
 have hr:jq (aG vs ms cs fs ts).1 ms fs z.1 id=(t,i,true):=by
  unfold jq;rw[hft];show(t,(dZ _ ms fs t).1,(dZ _ ms fs t).2)=_;rw[hp]
 rw[Ez hs (jo.2 hV) hr,if_neg (by rw[he];simp),if_neg (by omega),if_neg]
 rintro⟨g,q⟩;obtain⟨u,hu,e⟩:=acK.1 q;exact hn g u hu e
def vsE(e:ED) (vs:List Int):List Int:=if e.2.2.1=5\/e.2.2.1=2 then vs.set e.2.2.2.1.toNat e.2.2.2.2.2.2.2.2.1 else vs
def BH(e:ED) (os:List Int):List Int:=
 if e.2.2.1=9\/(e.2.2.1=11/\e.2.2.2.2.2.2.2.1≠0) then os.set e.2.2.2.1.toNat e.1 else if e.2.2.1=10 then os.set e.2.2.2.1.toNat (-1) else if e.2.2.1=12 then os.set e.2.2.2.2.1.toNat (-1) else os
def qsE(e:ED) (qs:List (List Int)):List (List Int):=
 if e.2.2.1=12 then qs.set e.2.2.2.1.toNat (qs[e.2.2.2.1.toNat]?.getD []++[e.1]) else if e.2.2.1=14 then qs.set e.2.2.2.1.toNat ((qs[e.2.2.2.1.toNat]?.getD []).drop 1) else if e.2.2.1=15 then qs.set e.2.2.2.1.toNat [] else qs
def sgE(e:ED) (qs:List (List Int)) (sg:List Int):List Int:=
 if e.2.2.1=13 then nZ (bM sg) [e.1] false else if e.2.2.1=14 then jV sg ((qs[e.2.2.2.1.toNat]?.getD []).take 1) else if e.2.2.1=15 then jV sg (qs[e.2.2.2.1.toNat]?.getD []) else sg
def Qz(e:ED) (m:MD):Prop:=
 (e.2.2.1=5\/e.2.2.1=2->(0<=e.2.2.2.1/\e.2.2.2.1 < (m.1.length:Int))/\cO e.2.2.2.2.2.2.2.2.1=true) /\
 (e.2.2.1=9\/(e.2.2.1=11/\e.2.2.2.2.2.2.2.1≠0)->(0<=e.2.2.2.1/\e.2.2.2.1 < (m.2.1.length:Int))/\m.2.1[e.2.2.2.1.toNat]?.getD 0 = -1) /\
 (e.2.2.1=10->(0<=e.2.2.2.1/\e.2.2.2.1 < (m.2.1.length:Int))/\m.2.1[e.2.2.2.1.toNat]?.getD 0=e.1) /\
 (e.2.2.1=12->((0<=e.2.2.2.2.1/\e.2.2.2.2.1 < (m.2.1.length:Int))/\m.2.1[e.2.2.2.2.1.toNat]?.getD 0=e.1)/\(0<=e.2.2.2.1/\e.2.2.2.1 < (m.2.2.1.length:Int))/\kH m e.1=false) /\
 (e.2.2.1=13->dU m.2.2.2.1 e.1=true)/\(e.2.2.1=14\/e.2.2.1=15->0<=e.2.2.2.1/\e.2.2.2.1 < (m.2.2.1.length:Int))
theorem Xc(hf:dM m=true){x:Int}:(writeM m x v).2=0↔(0<=x/\x < (m.1.length:Int))/\cO v=true:=by
 unfold writeM
 by_cases g:jd m x m.1.length=0
 .have g':=(dD.1 g).2;rw[if_pos g]
  by_cases q:cO v=true
  .rw[if_pos q];exact⟨λ_=>⟨g',q⟩,λ_=>rfl⟩
  .rw[if_neg q];exact⟨λh=>(by cases h),λh=>absurd h.2 q⟩
 .rw[if_neg g];exact⟨λh=>absurd h g,λh=>absurd (dD.2 ⟨hf,h.1⟩) g⟩
theorem acM{x:Int} (h:(writeM m x v).2=0):(writeM m x v).1=(m.1.set x.toNat v,m.2):=by
 unfold writeM at h ⊢
 split at h
 .rename_i g;rw[if_pos g];split at h
  .rename_i q;rw[if_pos q]
  .cases h
 .rename_i g;exact absurd h g
theorem EF(hf:dM m=true){x f t:Int} (h0:0<=id):(iK m x id f t).2=0↔(0<=x/\x < (m.2.1.length:Int))/\m.2.1[x.toNat]?.getD 0=f:=by
 unfold iK
 by_cases g:jd m x m.2.1.length=0
 .have g':=(dD.1 g).2;rw[if_pos g,if_neg (by omega)]
  by_cases q:m.2.1[x.toNat]?.getD 0=f
  .rw[if_pos q];exact⟨λ_=>⟨g',q⟩,λ_=>rfl⟩
  .rw[if_neg q];exact⟨λh=>(by cases h),λh=>absurd h.2 q⟩
 .rw[if_neg g];exact⟨λh=>absurd h g,λh=>absurd (dD.2 ⟨hf,h.1⟩) g⟩
theorem Ho{x f t:Int} (h:(iK m x id f t).2=0):(iK m x id f t).1=(m.1,m.2.1.set x.toNat t,m.2.2):=by
 unfold iK at h ⊢
 split at h
 .rename_i g;rw[if_pos g];split at h
  .cases h
  .rename_i g2;rw[if_neg g2];split at h
   .rename_i q;rw[if_pos q]
   .cases h
 .rename_i g;exact absurd h g
theorem UU(hf:dM m=true) (h0:0<=id):(tu m c id).2=0↔(0<=c/\c < (m.2.2.1.length:Int))/\kH m id=false:=by
 unfold tu
 by_cases g:jd m c m.2.2.1.length=0
 .have g':=(dD.1 g).2;rw[if_pos g,if_neg (by omega)]
  by_cases q:kH m id=true
  .rw[if_pos q];exact⟨λh=>(by cases h),λh=>by rw[h.2]at q;cases q⟩
  .rw[if_neg q];exact⟨λ_=>⟨g',by simpa using q⟩,λ_=>rfl⟩
 .rw[if_neg g];exact⟨λh=>absurd h g,λh=>absurd (dD.2 ⟨hf,h.1⟩) g⟩
theorem amH(h:(tu m c id).2=0):(tu m c id).1=(m.1,m.2.1,m.2.2.1.set c.toNat (m.2.2.1[c.toNat]?.getD []++[id]),m.2.2.2):=by
 unfold tu at h ⊢
 split at h
 .rename_i g;rw[if_pos g];split at h
  .cases h
  .rename_i g2;rw[if_neg g2];split at h
   .cases h
   .rename_i q;rw[if_neg q]
 .rename_i g;exact absurd h g
theorem acN(hf:dM m=true):(lg m id).2=0↔dU m.2.2.2.1 id=true:=by
 unfold lg;rw[if_neg (by rw[hf];simp)]
 by_cases q:dU m.2.2.2.1 id=false
 .rw[if_pos q,q];simp
 .rw[if_neg q];simpa using q
theorem ahB(h:(lg m id).2=0):(lg m id).1=(m.1,m.2.1,m.2.2.1,nZ (bM m.2.2.2.1) [id] false,()):=by
 unfold lg at h ⊢
 split at h
 .cases h
 .rename_i g;rw[if_neg g];split at h
  .cases h
  .rename_i g;rw[if_neg g]
theorem LJ(hf:dM m=true){n:Int}:(tN m c n).2.2=0↔0<=c/\c < (m.2.2.1.length:Int):=by
 unfold tN
 by_cases g:jd m c m.2.2.1.length=0
 .rw[if_pos g];exact⟨λ_=>(dD.1 g).2,λ_=>rfl⟩
 .rw[if_neg g];exact⟨λh=>absurd h g,λh=>absurd (dD.2 ⟨hf,h⟩) g⟩
theorem aiK{n:Int} (h:(tN m c n).2.2=0){q:List Int} (hq:m.2.2.1[c.toNat]?.getD []=q):(tN m c n).1=(m.1,m.2.1,m.2.2.1.set c.toNat (q.drop (jD n q.length).toNat),jV m.2.2.2.1 (q.take (jD n q.length).toNat),()):=by
 subst hq;unfold tN at h ⊢
 split at h
 .rename_i g;rw[if_pos g]
 .rename_i g;exact absurd h g
theorem ahC{qs:List (List Int)}{c:Nat}{q:List Int} (h:qs[c]?.getD []=q):(jD (lq qs) q.length).toNat=q.length:=by
 have:(q.length:Int)<=lq qs:=by
  cases hc:qs[c]? with
  | none=>rw[hc]at h;subst h;exact(Et qs 0).1
  | some r=>rw[hc]at h;subst h;exact(Et qs 0).2 r (iM hc)
 unfold jD;split<;>omega
theorem acO(q:List Int):q.drop (jD 1 q.length).toNat=q.drop 1/\q.take (jD 1 q.length).toNat=q.take 1:=by
 cases q with
 | nil=>exact⟨by simp,by simp⟩
 | cons a q=>
   have:(jD 1 (a :: q).length).toNat=1:=by unfold jD;simp only[yE];split<;>omega
   rw[this];exact⟨rfl,rfl⟩
theorem LK(hf:dM m=true) (h0:0<=e.1):(jM m e).2=0↔Qz e m:=by
 unfold jM Qz
 by_cases k1:e.2.2.1=5\/e.2.2.1=2
 .rw[if_pos k1,Xc hf];exact⟨λh=>⟨λ_=>h,λq=>by omega,λq=>by omega,λq=>by omega,λq=>by omega,λq=>by omega⟩,λh=>h.1 k1⟩
 rw[if_neg k1]
 by_cases k2:e.2.2.1=9\/(e.2.2.1=11/\e.2.2.2.2.2.2.2.1≠0)
 .rw[if_pos k2,EF hf h0];exact⟨λh=>⟨λq=>by omega,λ_=>h,λq=>by omega,λq=>by omega,λq=>by omega,λq=>by omega⟩,λh=>h.2.1 k2⟩
 rw[if_neg k2]
 by_cases k3:e.2.2.1=10
 .rw[if_pos k3,EF hf h0];exact⟨λh=>⟨λq=>by omega,λq=>by omega,λ_=>h,λq=>by omega,λq=>by omega,λq=>by omega⟩,λh=>h.2.2.1 k3⟩
 rw[if_neg k3]
 by_cases k4:e.2.2.1=12
 .rw[if_pos k4];constructor
  .intro h;refine⟨λq=>by omega,λq=>by omega,λq=>by omega,λ_=>?_,λq=>by omega,λq=>by omega⟩
   by_cases q:(iK m e.2.2.2.2.1 e.1 e.1 (-1)).2=0
   .rw[if_pos q]at h;have a:=Hg hf (by omega) q
    have b:=(UU a.1 h0).1 h;rw[Ho q]at b;exact⟨(EF hf h0).1 q,b.1,b.2⟩
   .rw[if_neg q]at h;exact absurd h q
  .intro h;obtain⟨a,b,c⟩:=h.2.2.2.1 k4;have q:=(EF hf h0 (t:=-1)).2 a;rw[if_pos q,UU (Hg hf (by omega) q).1 h0,Ho q]
   exact⟨b,c⟩
 rw[if_neg k4]
 by_cases k5:e.2.2.1=13
 .rw[if_pos k5,acN hf];exact⟨λh=>⟨λq=>by omega,λq=>by omega,λq=>by omega,λq=>by omega,λ_=>h,λq=>by omega⟩,λh=>h.2.2.2.2.1 k5⟩
 rw[if_neg k5]
 by_cases k6:e.2.2.1=14
 .rw[if_pos k6];exact⟨λh=>⟨λq=>by omega,λq=>by omega,λq=>by omega,λq=>by omega,λq=>by omega,λ_=>(LJ hf).1 h⟩,λh=>(LJ hf).2 (h.2.2.2.2.2 (.inl k6))⟩
 rw[if_neg k6]
 by_cases k7:e.2.2.1=15
 .rw[if_pos k7];exact⟨λh=>⟨λq=>by omega,λq=>by omega,λq=>by omega,λq=>by omega,λq=>by omega,λ_=>(LJ hf).1 h⟩,λh=>(LJ hf).2 (h.2.2.2.2.2 (.inr k7))⟩
 rw[if_neg k7];exact⟨λ_=>⟨λq=>by omega,λq=>by omega,λq=>by omega,λq=>by omega,λq=>by omega,λq=>by omega⟩,λ_=>rfl⟩
theorem JE(hf:dM m=true) (h0:0<=e.1) (h:(jM m e).2=0):(jM m e).1=(vsE e m.1,BH e m.2.1,qsE e m.2.2.1,sgE e m.2.2.1 m.2.2.2.1,()):=by
 obtain⟨mv,mo,mq,mg,⟨⟩⟩:=m;unfold jM at h ⊢
 unfold vsE BH qsE sgE
 by_cases k1:(e.2.2.1=5\/e.2.2.1=2)
 .have k2:¬(e.2.2.1=9\/(e.2.2.1=11/\e.2.2.2.2.2.2.2.1≠0)):=by omega
  have k3:¬e.2.2.1=10:=by omega
  have k4:¬e.2.2.1=12:=by omega
  have k5:¬e.2.2.1=13:=by omega
  have k6:¬e.2.2.1=14:=by omega
  have k7:¬e.2.2.1=15:=by omega
  simp only[if_pos k1,if_neg k2,if_neg k3,if_neg k4,if_neg k5,if_neg k6,if_neg k7]at h ⊢
  rw[acM h]
 by_cases k2:(e.2.2.1=9\/(e.2.2.1=11/\e.2.2.2.2.2.2.2.1≠0))
 .have k3:¬e.2.2.1=10:=by omega
  have k4:¬e.2.2.1=12:=by omega
  have k5:¬e.2.2.1=13:=by omega
  have k6:¬e.2.2.1=14:=by omega
  have k7:¬e.2.2.1=15:=by omega
  simp only[if_neg k1,if_pos k2,if_neg k3,if_neg k4,if_neg k5,if_neg k6,if_neg k7]at h ⊢
  rw[Ho h]
 by_cases k3:e.2.2.1=10
 .have k4:¬e.2.2.1=12:=by omega
  have k5:¬e.2.2.1=13:=by omega
  have k6:¬e.2.2.1=14:=by omega
  have k7:¬e.2.2.1=15:=by omega
  simp only[if_neg k1,if_neg k2,if_pos k3,if_neg k4,if_neg k5,if_neg k6,if_neg k7]at h ⊢
  rw[Ho h]
 by_cases k4:e.2.2.1=12
 .have k5:¬e.2.2.1=13:=by omega
  have k6:¬e.2.2.1=14:=by omega
  have k7:¬e.2.2.1=15:=by omega
  simp only[if_neg k1,if_neg k2,if_neg k3,if_pos k4,if_neg k5,if_neg k6,if_neg k7]at h ⊢
  by_cases q:(iK (mv,mo,mq,mg,()) e.2.2.2.2.1 e.1 e.1 (-1)).2=0
  .rw[if_pos q]at h ⊢
   rw[amH h,Ho q]
  .rw[if_neg q]at h;exact absurd h q
 by_cases k5:e.2.2.1=13
 .have k6:¬e.2.2.1=14:=by omega
  have k7:¬e.2.2.1=15:=by omega
  simp only[if_neg k1,if_neg k2,if_neg k3,if_neg k4,if_pos k5,if_neg k6,if_neg k7]at h ⊢
  rw[ahB h]
 by_cases k6:e.2.2.1=14
 .have k7:¬e.2.2.1=15:=by omega
  simp only[if_neg k1,if_neg k2,if_neg k3,if_neg k4,if_neg k5,if_pos k6,if_neg k7]at h ⊢
  rw[aiK h rfl,(acO _).1,(acO _).2]
 by_cases k7:e.2.2.1=15
 .skip
  simp only[if_neg k1,if_neg k2,if_neg k3,if_neg k4,if_neg k5,if_neg k6,if_pos k7]at h ⊢
  have e1:=ahC (qs:=mq) (c:=e.2.2.2.1.toNat) rfl;rw[aiK h rfl];show(mv,mo,mq.set _ (List.drop (jD (lq mq) _).toNat _),jV mg (List.take (jD (lq mq) _).toNat _),())=_;rw[e1,List.drop_length,Xz]
 simp only[if_neg k1,if_neg k2,if_neg k3,if_neg k4,if_neg k5,if_neg k6,if_neg k7]
theorem top_more{rest:ID->TD} (hr:∀i,(rest i).2.2.2.2.2.1=t.2.2.2.2.2.1/\(rest i).2.2.2.2.2.2.1=t.2.2.2.2.2.2.1):
 (topS fs bound t rest).2.2.2.2.2.1=t.2.2.2.2.2.1/\(topS fs bound t rest).2.2.2.2.2.2.1=t.2.2.2.2.2.2.1:=by
 obtain⟨id,fn,pc,rg,st,ch,ph,su,fa,hd,u⟩:=t;unfold topS;simp only;split
 .exact⟨rfl,rfl⟩
 split
 .repeat' split
  all_goals exact⟨rfl,rfl⟩
 .exact hr _
theorem acP(fs:List FD) (bound:Int):∀(k:Nat) (t:TD),(eF fs bound k t).2.2.2.2.2.1=t.2.2.2.2.2.1/\(eF fs bound k t).2.2.2.2.2.2.1=t.2.2.2.2.2.2.1:=by
 intro k
 induction k with
 | zero=>
   intro t;rw[eF];refine top_more λi=>?_
   obtain⟨id,fn,pc,rg,st,ch,ph,su,fa,hd,u⟩:=t;exact⟨rfl,rfl⟩
 | succ k ih=>
   intro t;rw[eF];refine top_more λi=>?_
   have hk:=AV t i;have:=ih (fQ t i).1;split
   .exact⟨this.1.trans hk.2.2.2.1,this.2.trans hk.2.2.2.2.1⟩
   .exact⟨hk.2.2.2.1,hk.2.2.2.2.1⟩
theorem acQ(hi:qh fs t.2.1 t.2.2.1=some i) (hv:mO i.1=true) (k:Nat):(eF fs bound k t).2.1=t.2.1/\(eF fs bound k t).2.2.1=t.2.2.1:=by
 obtain⟨id,fn,pc,rg,st,ch,ph,su,fa,hd,u⟩:=t;have hi:qh fs fn pc=some i:=hi;rw[Uf hi hv]
 repeat' split
 all_goals exact⟨rfl,rfl⟩
theorem amI{e r:Int} (hs:dG e bound=0) (hV:vM ms fs bound t) (h1:t.2.2.2.2.2.2.2.1=1) (hi:qh fs t.2.1 t.2.2.1=some i) (hr:cO r=true):kG e ms fs bound t r=(eF fs bound 256 (gq t i r),0):=by
 unfold kG;rw[if_neg (by omega),if_neg (by simpa using hV),if_neg (by omega),if_neg (by rw[hr];simp)]
 have ea:(atR fs t.2.1 t.2.2.1).1=i:=by unfold atR;rw[hi]
 rw[ea]
theorem Hq:∀{l k:List Int},l.Nodup->(∀x∈l,x∈k)->l.length<=k.length
 | [],_,_,_=>Hz _
 | a :: l,k,h,g=>by
   rw[Vh]at h;have ha:=g a (List.mem_cons_self ..);have:=Hq (l:=l) (k:=k.erase a) h.2 λx hx=>(List.mem_erase_of_ne (by rintro rfl;exact h.1 hx)).2 (g x (List.mem_cons_of_mem _ hx))
   rw[List.length_erase_of_mem ha]at this;have:0 < k.length:=List.length_pos_of_mem ha;simp only[yE];omega
structure Inv (vs:List VD) (ms cs:List ByteArray) (fs:List FD) (ts:List SD) (bound:Int) (z:ZD):Prop where
 ok:dG (aG vs ms cs fs ts).1 bound=0
 va:VS vs ms cs fs ts bound z.1 z.2.1 z.2.2.1
 r8:IG z.1
 held:∀t∈z.1,∀x∈t.2.2.2.2.2.2.2.2.2.1,z.2.1.2.1[x.toNat]?=some t.1
 que:∀(c:Nat) q,z.2.1.2.2.1[c]?=some q->∀id∈q,∃t∈z.1,t.1=id/\t.2.2.2.2.2.2.1=1/\∃i,qh fs t.2.1 t.2.2.1=some i/\i.1=18/\i.2.2.2.2.1.toNat=c
 sig:∀id∈z.2.1.2.2.2.1,∃t∈z.1,t.1=id/\t.2.2.2.2.2.2.1=1
 par:∀t∈z.1,8<=t.1->∃u∈z.1,8 * (u.1+1)<=t.1/\t.1 < 8 * (u.1+1)+u.2.2.2.2.2.1
section
variable {vs:List VD}{ms cs:List ByteArray}{fs:List FD}{ts:List SD}{bound:Int}{z:ZD}
theorem Inv.fm(I:Inv vs ms cs fs ts bound z):dM z.2.1=true:=(tH I.va.1).2.1
theorem Inv.few(I:Inv vs ms cs fs ts bound z) (hl:z.1.length<=60):qZ z.2.1=true:=by
 have hf:=I.fm;have hs:=I.sig;have hq:=I.que;obtain⟨l,⟨mv,mo,mq,mg,⟨⟩⟩,bf,⟨⟩⟩:=z;obtain⟨q1,q2,q3,q4,q5,q6,q7,q8⟩:mv.length<=8/\mo.length<=4/\mq.length<=4/\SS mg/\(∀v∈mv,cO v=true)/\(∀o∈mo,-1<=o)/\(∀x∈mg++mq.flatten,0<=x)/\(mg++mq.flatten).Nodup:=dQ.1 hf;have hl:l.length<=60:=hl;have a1:mg.length<=(l.map (·.1)).length:=Hq (List.nodup_append.1 q8).1 λx hx=>by
  obtain⟨t,ht,e,_⟩:=hs x hx;exact Pq.2 ⟨t,ht,e⟩
 have a2:∀q∈mq,q.length<=(l.map (·.1)).length:=by
  intro q hm;obtain⟨c,hc⟩:=A88.1 hm;refine Hq ((List.sublist_flatten_of_mem hm).nodup (List.nodup_append.1 q8).2.1) λx hx=>?_
  obtain⟨t,ht,e,_⟩:=hq c q hc x hx;exact Pq.2 ⟨t,ht,e⟩
 rw[Xr]at a1 a2;unfold qZ;simp only[A8,dW,RG];exact⟨⟨⟨⟨by omega,by omega⟩,by omega⟩,by omega⟩,λq hq=>by have:=a2 q hq;omega⟩
theorem Inv.bm(I:Inv vs ms cs fs ts bound z) (hl:z.1.length<=60):bI z.2.1:=xJ (I.few hl)
theorem Inv.bt(I:Inv vs ms cs fs ts bound z) (hl:z.1.length<=60):je z.1:=LH I.va I.r8 (by omega)
theorem UW(hs:dG (aG vs ms cs fs ts).1 bound=0):Inv vs ms cs fs ts bound (mX (aG vs ms cs fs ts).1 fs bound ts,(qj vs ms cs fs ts).1,[],()):=by
 have hV:=acB hs;have hc:=(fE.1 hs).1;have en:(qj vs ms cs fs ts).1=(vs.map (·.2.1),List.replicate ms.length (-1),List.replicate cs.length [],[],()):=by unfold qj;rw[if_pos hc]
 refine⟨hs,hV.1,hV.2,λt ht x hx=>?_,λc q hq id hid=>?_,λid hid=>?_,λt ht h8=>?_⟩
 .exfalso;obtain⟨k,hk⟩:=A88.1 ht;obtain⟨d,hd,rfl⟩:=Bj hk;have h0:=CZ hs hd;unfold newS at h0 hx;split at h0
  .rename_i q;exact q h0
  rename_i q1;rw[if_neg q1]at hx;split at h0
  .cases h0
  rename_i q2;rw[if_neg q2]at hx;split at h0
  .cases h0
  rename_i q3;rw[if_neg q3]at hx;split at h0
  .cases h0
  rename_i q4;rw[if_neg q4]at hx;rw[(wJ _ _ _ _).2.2.2]at hx;cases hx
 .exfalso;have hq:(qj vs ms cs fs ts).1.2.2.1[c]?=some q:=hq;rw[en]at hq;have:=iM hq;rw[List.eq_of_mem_replicate this]at hid;cases hid
 .exfalso;have hid:id∈(qj vs ms cs fs ts).1.2.2.2.1:=hid;rw[en]at hid;cases hid
 .exfalso;obtain⟨k,hk⟩:=A88.1 ht;obtain⟨d,hd,rfl⟩:=Bj hk;rw[C9 (CZ hs hd)]at h8;have:=(eG.1 hd).1;have:=(EC (kP hc).2.2).1;omega
theorem lY(I:Inv vs ms cs fs ts bound z) (hl:z.1.length<=60) (hm:t∈z.1) (hp:dZ (aG vs ms cs fs ts).1 ms fs t=(i,true)):
 G7 z.2.1 t i/\qh fs t.2.1 t.2.2.1=some i/\t.2.2.2.2.2.2.2.1=1/\vM ms fs bound t/\0<=t.1:=by
 have hft:=mZ I.va.2.2.2 hm;have hr:jq (aG vs ms cs fs ts).1 ms fs z.1 t.1=(t,i,true):=by
  unfold jq;rw[hft];show(t,(dZ _ ms fs t).1,(dZ _ ms fs t).2)=_;rw[hp]
 obtain⟨_,_,a,b,c,d⟩:=He I.va (I.bm hl) (I.bt hl) hr;refine⟨a,b,c,d,?_⟩;have:=fH d;obtain⟨x,fn,pc,rg,st,ch,ph,su,fa,hd,u⟩:=t;exact(kZ this.1).1
theorem acR(hV:vM ms fs bound t) (hi:qh fs t.2.1 t.2.2.1=some i) (h1:t.2.2.2.2.2.2.1≠0):i.1=18/\(t.2.2.2.2.2.2.1=1\/t.2.2.2.2.2.2.1=2):=by
 have hf:=fH hV;obtain⟨id,fn,pc,rg,st,ch,ph,su,fa,hd,u⟩:=t;obtain⟨f1,f2,f3,f4,f5,f6,f7,f8,f9⟩:=hf;have h1:ph≠0:=h1;rcases f9 with q | ⟨q,i',q1,q2,_⟩
 .exact absurd q h1
 .have hi:qh fs fn pc=some i:=hi;rw[hi]at q1;cases q1;exact⟨q2,q⟩
theorem uP(h:i.1=18):labS m t i=if t.2.2.2.2.2.2.1=0 then(t.1,t.2.2.2.2.1,12,i.2.2.2.2.1,i.2.2.2.2.2.1,-1,0,0,0,())
 else if t.2.2.2.2.2.2.1=1 then(t.1,t.2.2.2.2.1,13,i.2.2.2.2.1,-1,-1,0,0,0,())
 else(t.1,t.2.2.2.2.1,9,i.2.2.2.2.2.1,-1,-1,0,0,0,()):=by
 unfold labS;simp[h]
theorem oM(h:i.1=12):labS m t i=if m.1[i.2.2.2.2.1.toNat]?.getD 0=t.2.2.2.1.getD i.2.2.1.toNat 0 then(t.1,t.2.2.2.2.1,5,i.2.2.2.2.1,-1,-1,i.2.2.2.2.2.2.2.1,m.1[i.2.2.2.2.1.toNat]?.getD 0,t.2.2.2.1.getD i.2.2.2.1.toNat 0,())
 else(t.1,t.2.2.2.2.1,6,i.2.2.2.2.1,-1,-1,i.2.2.2.2.2.2.2.1,m.1[i.2.2.2.2.1.toNat]?.getD 0,0,()):=by
 unfold labS;rw[if_neg (by omega),if_neg (by omega),if_neg (by omega),if_neg (by omega),if_neg (by omega),if_pos h]
theorem Ry(I:Inv vs ms cs fs ts bound z) (hl:z.1.length<=60) (hm:t∈z.1) (hp:dZ (aG vs ms cs fs ts).1 ms fs t=(i,true)) (he:uK z.1 z.2.1 t i=true):
 Qz (labS z.2.1 t i) z.2.1/\((labS z.2.1 t i).2.2.1=16->∀u∈z.1,u.1≠(labS z.2.1 t i).2.2.2.1):=by
 obtain⟨⟨⟨_,hfm,_,_,h8⟩,hb,hc,hv,hvar,hcnd,hord⟩,hat,hsu,hvl,h0⟩:=lY I hl hm hp;obtain⟨f0,s0,i',ha',vi,oi⟩:=CV hvl hsu;rw[hat]at ha';cases ha';have hrg:∀b:Int,0<=b/\b < 8->cO (t.2.2.2.1.getD b.toNat 0)=true:=by
  intro b hb;have:=fH hvl;obtain⟨x,fn,pc,rg,st,ch,ph,su,fa,hd,u⟩:=t;exact GI this.2.2.2.1 hb
 have hhd:∀x,dU t.2.2.2.2.2.2.2.2.2.1 x=true->(0<=x/\x < (z.2.1.2.1.length:Int))/\z.2.1.2.1[x.toNat]?.getD 0=t.1:=by
  intro x hx;have hx:=jc.1 hx;have h2:=I.held t hm x hx;have gZ:=(eG.1 h2).1;have h3:0<=x:=by
   have:=fH hvl;obtain⟨_,fn,pc,rg,st,ch,ph,su,fa,hd,u⟩:=t;exact(this.2.2.2.2.2.2.2.1 x hx).1
  exact⟨⟨h3,by omega⟩,by rw[h2];rfl⟩
 have hfr:∀x,lT z.2.1 x=true->(0<=x/\x < (z.2.1.2.1.length:Int))/\z.2.1.2.1[x.toNat]?.getD 0 = -1:=by
  intro x hx;unfold lT at hx;simp only[A8,dW]at hx;exact⟨(dD.1 hx.1).2,hx.2⟩
 have hph:i.1≠18->t.2.2.2.2.2.2.1=0:=λq=>Hw.1 λp=>q (acR hvl hat p).1
 have hop:i.1=8\/i.1=9\/i.1=10\/i.1=11\/i.1=12\/i.1=13\/i.1=14\/i.1=15\/i.1=16\/i.1=17\/i.1=18\/i.1=19\/i.1=20\/i.1=21\/i.1=22:=by omega
 unfold Qz;rcases hop with q | q | q | q | q | q | q | q | q | q | q | q | q | q | q
 .simp[labS,q]
 .have:=hvar (by omega);simp[labS,q];exact⟨this,hrg _ hb⟩
 .have:=hvar (by omega);simp[labS,q];exact⟨this,hrg _ hb⟩
 .have:=hvar (by omega);simp[labS,q];exact⟨this,Le _ _ _⟩
 .have:=hvar (by omega)
  rw[oM q];split
  .simp;exact⟨this,hrg _ hc⟩
  .simp
 .simp[labS,q]
 .simp[labS,q]
 .have:=hfr i.2.2.2.2.1 (by simpa[uK,q]using he)
  simp[labS,q];exact this
 .have ho:dU t.2.2.2.2.2.2.2.2.2.1 i.2.2.2.2.1=true:=by
   unfold lD at oi;rw[if_neg (by rw[hph (by omega)];simp),if_neg (by omega),if_pos q]at oi
   split at oi
   .assumption
   .cases oi
  have:=hhd _ ho;simp[labS,q];exact this
 .simp[labS,q,tC];intro g;exact hfr _ g
 .rw[uP q]
  by_cases p0:t.2.2.2.2.2.2.1=0
  .rw[if_pos p0];have ho:dU t.2.2.2.2.2.2.2.2.2.1 i.2.2.2.2.2.1=true:=by
    unfold lD at oi;rw[if_neg (by rw[p0];simp),if_pos q]at oi
    split at oi
    .assumption
    .cases oi
   have h1:=hhd _ ho;have h2:=hcnd (by omega)
   have h3:kH z.2.1 t.1=false:=by
    unfold kH;rw[oV];constructor
    .rw[A96];intro g;rw[Xq]at g;obtain⟨r,hr,g⟩:=g;obtain⟨c,hc⟩:=A88.1 hr;obtain⟨u,hu,e,hu1,_⟩:=I.que c r hc t.1 (jc.1 g);have:=lX I.va.2.2.2 hu hm e;subst this;omega
    .rw[A96];intro g;obtain⟨u,hu,e,hu1⟩:=I.sig t.1 (jc.1 g);have:=lX I.va.2.2.2 hu hm e;subst this;omega
   simp;exact⟨h1,h2,h3⟩
  .rw[if_neg p0]
   by_cases p1:t.2.2.2.2.2.2.1=1
   .rw[if_pos p1];simp;simpa[uK,q,p1]using he
   .rw[if_neg p1];have p2:t.2.2.2.2.2.2.1=2:=by have:=(acR hvl hat p0).2;omega
    have:=hfr i.2.2.2.2.2.1 (by simpa[uK,q,p2]using he)
    simp;exact this
 .have:=hcnd (by omega);simp[labS,q];exact this
 .have:=hcnd (by omega);simp[labS,q];exact this
 .refine⟨by simp[labS,q],λ_ u hu e=>?_⟩
  rw[uN q]at e;have hc:=(pW I.ok hvl hsu hat q (I.r8 t hm)).1;obtain⟨c1,c2,_,_,c5,_⟩:=sV hc;obtain⟨p,hp,p1,p2⟩:=I.par u hu (by omega)
  have hch:p.2.2.2.2.2.1<=7:=by
   have:=fH (I.va.2.2.1 p hp).2;obtain⟨_,fn,pc,rg,st,ch,ph,su,fa,hd,u⟩:=p;exact this.2.2.2.2.2.1.2.1
  have ep:p.1=t.1:=by omega
  have:=lX I.va.2.2.2 hp hm ep;subst this;omega
 .simp[labS,q]
end
theorem Bo{l:List Int}{n:Int} (h:SS l):l.filter (λx=>decide (x≠n))=nZ (bM l) [n] false:=GL h
theorem acS(h:Qz e m) (hv:m.2.1[k]?=some v) (h1:v≠-1) (h2:v≠e.1):(BH e m.2.1)[k]?=some v:=by
 unfold BH;have key:∀(x w:Int),(m.2.1[x.toNat]?.getD 0≠v)->(m.2.1.set x.toNat w)[k]?=some v:=by
  intro x w g;rw[l9 (by rintro rfl;rw[hv]at g;exact g rfl)];exact hv
 obtain⟨_,o1,o2,o3,_⟩:=h;split
 .rename_i g;exact key _ _ (by rw[(o1 g).2];exact λp=>h1 p.symm)
 split
 .rename_i g;exact key _ _ (by rw[(o2 g).2];exact λp=>h2 p.symm)
 split
 .rename_i g;exact key _ _ (by rw[(o3 g).1.2];exact λp=>h2 p.symm)
 .exact hv
theorem Dc{l:List Int}{j:Nat}{a:Int} (h:l[j]?=some a\/(j=k/\k < l.length)):(l.set k a)[j]?=some a:=by
 by_cases q:k=j
 .subst q;rcases h with h | h
  .rw[qc (eG.1 h).1]
  .rw[qc h.2]
 .rw[l9 q];rcases h with h | h
  .exact h
  .exact absurd h.1.symm q
theorem UY{l:List Int}{j:Nat}{a:Int} (h:l[j]?=some v) (q:j≠k):(l.set k a)[j]?=some v:=by
 rw[l9 (λp=>q p.symm)];exact h
theorem acT(hv:8<=i.1/\i.1<=22) (hok:Qz (labS m t i) m) (hh:∀x∈t.2.2.2.2.2.2.2.2.2.1,m.2.1[x.toNat]?=some t.1/\0<=x) (hph:t.2.2.2.2.2.2.1=0\/t.2.2.2.2.2.2.1=1\/t.2.2.2.2.2.2.1=2):
 ∀x∈(gq t i (lV i (labS m t i))).2.2.2.2.2.2.2.2.2.1,(BH (labS m t i) m.2.1)[x.toNat]?=some t.1:=by
 intro x hx;have hop:i.1=8\/i.1=9\/i.1=10\/i.1=11\/i.1=12\/i.1=13\/i.1=14\/i.1=15\/i.1=16\/i.1=17\/i.1=18\/i.1=19\/i.1=20\/i.1=21\/i.1=22:=by omega
 have hno:¬(i.1=15\/i.1=16\/i.1=17\/i.1=18)->(gq t i (lV i (labS m t i))).2.2.2.2.2.2.2.2.2.1=t.2.2.2.2.2.2.2.2.2.1:=by
  intro q;obtain⟨id,fn,pc,rg,st,ch,ph,su,fa,hd,u⟩:=t;unfold gq;simp only;rw[if_neg (by omega)]
  show(if _ then _ else if _ then _ else hd)=hd
  rw[if_neg (by omega),if_neg (by omega)]
 have aqP:¬((labS m t i).2.2.1=9\/(labS m t i).2.2.1=10\/(labS m t i).2.2.1=11\/(labS m t i).2.2.1=12)->BH (labS m t i) m.2.1=m.2.1:=by
  intro q;unfold BH;rw[if_neg (by omega),if_neg (by omega),if_neg (by omega)]
 by_cases hA:i.1=15\/i.1=16\/i.1=17\/i.1=18
 .obtain⟨ok1,ok2,ok3,ok4,_⟩:=hok;rcases hA with q | q | q | q
  .have el:labS m t i=(t.1,t.2.2.2.2.1,9,i.2.2.2.2.1,-1,-1,0,0,0,()):=by simp[labS,q]
   rw[el]at ok2 hx ⊢;have o:=ok2 (.inl rfl);have hx:x∈y5 t.2.2.2.2.2.2.2.2.2.1 i.2.2.2.2.1:=by
    obtain⟨id,fn,pc,rg,st,ch,ph,su,fa,hd,u⟩:=t;simpa[gq,q]using hx
   have e2:BH (t.1,t.2.2.2.2.1,9,i.2.2.2.2.1,-1,-1,0,0,0,()) m.2.1=m.2.1.set i.2.2.2.2.1.toNat t.1:=by simp[BH]
   rw[e2];rcases Eo.1 hx with hx | rfl
   .exact Dc (.inl (hh x hx).1)
   .exact Dc (.inr ⟨rfl,by have:=o.1;simp only at this;omega⟩)
  .have el:labS m t i=(t.1,t.2.2.2.2.1,10,i.2.2.2.2.1,-1,-1,0,0,0,()):=by simp[labS,q]
   rw[el]at ok3 hx ⊢;have o:=ok3 rfl;have hx:x∈AX t.2.2.2.2.2.2.2.2.2.1 i.2.2.2.2.1:=by
    obtain⟨id,fn,pc,rg,st,ch,ph,su,fa,hd,u⟩:=t;simpa[gq,q]using hx
   obtain⟨hx,hne⟩:=AY.1 hx;have:=hh x hx;have e2:BH (t.1,t.2.2.2.2.1,10,i.2.2.2.2.1,-1,-1,0,0,0,()) m.2.1=m.2.1.set i.2.2.2.2.1.toNat (-1):=by simp[BH]
   rw[e2];exact UY this.1 (by have:=o.1;simp only at this;omega)
  .have el:labS m t i=(t.1,t.2.2.2.2.1,11,i.2.2.2.2.1,-1,-1,0,tC (lT m i.2.2.2.2.1),0,()):=by simp[labS,q]
   rw[el]at ok2 hx ⊢;cases hfr:lT m i.2.2.2.2.1 with
   | true=>
     rw[hfr]at ok2 hx;have o:=ok2 (.inr ⟨rfl,by simp[tC]⟩)
     have hx:x∈y5 t.2.2.2.2.2.2.2.2.2.1 i.2.2.2.2.1:=by
      obtain⟨id,fn,pc,rg,st,ch,ph,su,fa,hd,u⟩:=t;simpa[gq,q,lV,tC]using hx
     have e2:BH (t.1,t.2.2.2.2.1,11,i.2.2.2.2.1,-1,-1,0,tC true,0,()) m.2.1=m.2.1.set i.2.2.2.2.1.toNat t.1:=by simp[BH,tC]
     rw[e2];rcases Eo.1 hx with hx | rfl
     .exact Dc (.inl (hh x hx).1)
     .exact Dc (.inr ⟨rfl,by have:=o.1;simp only at this;omega⟩)
   | false=>
     rw[hfr]at hx;have hx:x∈t.2.2.2.2.2.2.2.2.2.1:=by
      obtain⟨id,fn,pc,rg,st,ch,ph,su,fa,hd,u⟩:=t;simpa[gq,q,lV,tC]using hx
     have e2:BH (t.1,t.2.2.2.2.1,11,i.2.2.2.2.1,-1,-1,0,tC false,0,()) m.2.1=m.2.1:=by simp[BH,tC]
     rw[e2];exact(hh x hx).1
  .have el:=uP (m:=m) (t:=t) q;rcases hph with p | p | p
   .rw[if_pos p]at el;rw[el]at ok4 hx ⊢;have o:=ok4 rfl;have hx:x∈AX t.2.2.2.2.2.2.2.2.2.1 i.2.2.2.2.2.1:=by
     obtain⟨id,fn,pc,rg,st,ch,ph,su,fa,hd,u⟩:=t;have p:ph=0:=p;simpa[gq,q,p]using hx
    obtain⟨hx,hne⟩:=AY.1 hx;have:=hh x hx;have e2:BH (t.1,t.2.2.2.2.1,12,i.2.2.2.2.1,i.2.2.2.2.2.1,-1,0,0,0,()) m.2.1=m.2.1.set i.2.2.2.2.2.1.toNat (-1):=by simp[BH]
    rw[e2];exact UY this.1 (by have:=o.1.1;simp only at this;omega)
   .rw[if_neg (by omega),if_pos p]at el
    rw[el]at hx ⊢;have hx:x∈t.2.2.2.2.2.2.2.2.2.1:=by
     obtain⟨id,fn,pc,rg,st,ch,ph,su,fa,hd,u⟩:=t;have p:ph=1:=p;simpa[gq,q,p]using hx
    have e2:BH (t.1,t.2.2.2.2.1,13,i.2.2.2.2.1,-1,-1,0,0,0,()) m.2.1=m.2.1:=by simp[BH]
    rw[e2];exact(hh x hx).1
   .rw[if_neg (by omega),if_neg (by omega)]at el
    rw[el]at ok2 hx ⊢;have o:=ok2 (.inl rfl);have hx:x∈y5 t.2.2.2.2.2.2.2.2.2.1 i.2.2.2.2.2.1:=by
     obtain⟨id,fn,pc,rg,st,ch,ph,su,fa,hd,u⟩:=t;have p:ph=2:=p;simpa[gq,q,p]using hx
    have e2:BH (t.1,t.2.2.2.2.1,9,i.2.2.2.2.2.1,-1,-1,0,0,0,()) m.2.1=m.2.1.set i.2.2.2.2.2.1.toNat t.1:=by simp[BH]
    rw[e2];rcases Eo.1 hx with hx | rfl
    .exact Dc (.inl (hh x hx).1)
    .exact Dc (.inr ⟨rfl,by have:=o.1;simp only at this;omega⟩)
 .rw[hno hA]at hx;rw[aqP]
  .exact(hh x hx).1
  .rcases hop with q | q | q | q | q | q | q | q | q | q | q | q | q | q | q
   all_goals first | omega | (simp[labS,q];done) | skip
   rw[oM q];split<;>simp
theorem ahD(hv:8<=i.1/\i.1<=22) (hph:t.2.2.2.2.2.2.1=0\/t.2.2.2.2.2.2.1=1\/t.2.2.2.2.2.2.1=2):
 ((labS m t i).2.2.1=12->i.1=18/\t.2.2.2.2.2.2.1=0/\(labS m t i).2.2.2.1=i.2.2.2.2.1)/\(i.1=18->t.2.2.2.2.2.2.1=1->(labS m t i).2.2.1=13):=by
 refine⟨λh=>?_,λh1 h2=>by rw[uP h1,if_neg (by omega),if_pos h2]⟩
 have hop:i.1=8\/i.1=9\/i.1=10\/i.1=11\/i.1=12\/i.1=13\/i.1=14\/i.1=15\/i.1=16\/i.1=17\/i.1=18\/i.1=19\/i.1=20\/i.1=21\/i.1=22:=by omega
 rcases hop with q | q | q | q | q | q | q | q | q | q | q | q | q | q | q
 all_goals first | (exfalso;simp[labS,q]at h;done) | skip
 .exfalso;rw[oM q]at h;split at h<;>simp at h
 .rw[uP q]at h ⊢
  by_cases p:t.2.2.2.2.2.2.1=0
  .rw[if_pos p];exact⟨q,p,rfl⟩
  .rw[if_neg p]at h;split at h<;>simp at h
theorem apq(hf:dM m=true){x:Int} (h:x∈m.2.2.2.1){c:Nat}{q:List Int} (hq:m.2.2.1[c]?=some q) (hx:x∈q):False:=by
 obtain⟨mv,mo,mq,mg,⟨⟩⟩:=m;have q8:(mg++mq.flatten).Nodup:=(dQ.1 hf).2.2.2.2.2.2.2;exact(List.nodup_append.1 q8).2.2 x h x (List.mem_flatten.2 ⟨q,iM hq,hx⟩) rfl
section
variable {vs:List VD}{ms cs:List ByteArray}{fs:List FD}{ts:List SD}{bound:Int}{z:ZD}
theorem acU(hV:vM ms fs bound t):t.2.2.2.2.2.2.1=0\/t.2.2.2.2.2.2.1=1\/t.2.2.2.2.2.2.1=2:=by
 have:=fH hV;obtain⟨id,fn,pc,rg,st,ch,ph,su,fa,hd,u⟩:=t;rcases this.2.2.2.2.2.2.2.2 with q | ⟨q | q,_⟩
 .exact .inl q
 .exact .inr (.inl q)
 .exact .inr (.inr q)
theorem OW(I:Inv vs ms cs fs ts bound z) (hl:z.1.length<=60) (h:(dV vs ms cs fs ts bound z id).2.2=0):Inv vs ms cs fs ts bound (dV vs ms cs fs ts bound z id).1:=by
 obtain⟨t,i,hft,hp,he,hf,em,ee,hn,hlen,hx⟩:=Hl I.r8 (by omega) (I.bm hl) h
 have hVS:=acD h I.r8 (by omega) (I.bm hl)
 obtain⟨hm,hid⟩:=(jL I.va.2.2.2).1 hft;subst hid;obtain⟨hlab,hat,hsu,hvl,h0⟩:=lY I hl hm hp;have hag:=og z.2.1 t i;have hok:=(LK I.fm (by rw[hag];exact h0)).1 hf
 have hpt:=JE I.fm (by rw[hag];exact h0) hf
 have hv:=hlab.2.2.2.1;have hph:=acU hvl;have hch:i.1=21->(dJ t.1 t.2.2.2.2.2.1).2=true:=λq=>(pW I.ok hvl hsu hat q (I.r8 t hm)).1
 have hce:=amI I.ok hvl hsu hat (Ey (m:=z.2.1) (i:=i) I.fm hch);rw[hpt]at em;rw[hce]at hx;have aqQ:mO i.1=true:=by unfold mO;simpa using hv
 have hcl:=ahD (m:=z.2.1) hv hph;have apr:=acT hv hok (λx hx=>⟨I.held t hm x hx,by
  have:=fH hvl;obtain⟨_,fn,pc,rg,st,ch,ph,su,fa,hd,u⟩:=t;exact(this.2.2.2.2.2.2.2.1 x hx).1⟩) hph
 have hnew:(labS z.2.1 t i).2.2.1=16->(newS (aG vs ms cs fs ts).1 fs bound (labS z.2.1 t i).2.2.2.1 i.2.2.2.2.1 (t.2.2.2.1.getD i.2.2.1.toNat 0)).1.1=(labS z.2.1 t i).2.2.2.1/\(newS (aG vs ms cs fs ts).1 fs bound (labS z.2.1 t i).2.2.2.1 i.2.2.2.2.1 (t.2.2.2.1.getD i.2.2.1.toNat 0)).1.2.2.2.2.2.2.2.2.2.1=[]:=by
  intro g;have hi:=(xK hv).1 g;obtain⟨s1,s2⟩:=pW I.ok hvl hsu hat hi (I.r8 t hm);rw[<-uN (m:=z.2.1) hi]at s2;refine⟨C9 s2,?_⟩;unfold newS at s2 ⊢;split at s2
  .rename_i q;exact absurd s2 q
  rename_i q1;rw[if_neg q1];split at s2
  .cases s2
  rename_i q2;rw[if_neg q2];split at s2
  .cases s2
  rename_i q3;rw[if_neg q3];split at s2
  .cases s2
  rename_i q4;rw[if_neg q4];exact(wJ _ _ _ _).2.2.2
 generalize (dV vs ms cs fs ts bound z t.1).1=z' at hVS em hlen hx;have hk:=wJ fs bound 256 (gq t i (lV i (labS z.2.1 t i)));have hk2:=acP fs bound 256 (gq t i (lV i (labS z.2.1 t i)));have hc:=Om t i (lV i (labS z.2.1 t i));have hcc:t.2.2.2.2.2.1<=(gq t i (lV i (labS z.2.1 t i))).2.2.2.2.2.1/\(i.1=21->(gq t i (lV i (labS z.2.1 t i))).2.2.2.2.2.1=t.2.2.2.2.2.1+1):=by
  generalize lV i (labS z.2.1 t i)=r;obtain⟨id,fn,pc,rg,st,ch,ph,su,fa,hd,u⟩:=t;unfold gq;simp only;split
  .refine⟨?_,λq=>by omega⟩
   repeat' split
   all_goals exact Int.le_refl _
  .show ch<=(if i.1=21 then ch+1 else ch)/\(i.1=21->(if i.1=21 then ch+1 else ch)=ch+1)
   split
   .exact⟨by omega,λ_=>rfl⟩
   .rename_i q;exact⟨Int.le_refl _,λp=>absurd p q⟩
 have hw:i.1=18->t.2.2.2.2.2.2.1=0->(gq t i (lV i (labS z.2.1 t i))).2.2.2.2.2.2.1=1/\(gq t i (lV i (labS z.2.1 t i))).2.2.1=t.2.2.1:=by
  intro q p;generalize lV i (labS z.2.1 t i)=r;obtain⟨id,fn,pc,rg,st,ch,ph,su,fa,hd,u⟩:=t;have p:ph=0:=p;unfold gq;simp[q,p]
 have hst:i.1=18->t.2.2.2.2.2.2.1=0->(eF fs bound 256 (gq t i (lV i (labS z.2.1 t i)))).2.2.1=t.2.2.1:=by
  intro q p;have h1:=(hw q p).2;rw[(acQ (i:=i) (by rw[hc.2.1,h1];exact hat) aqQ 256).2,h1]
 generalize hr:lV i (labS z.2.1 t i)=r at *;generalize htn:eF fs bound 256 (gq t i r)=tn at *;generalize hnn:(newS (aG vs ms cs fs ts).1 fs bound (labS z.2.1 t i).2.2.2.1 i.2.2.2.2.1 (t.2.2.2.1.getD i.2.2.1.toNat 0)).1=nw at *;have mtn:tn∈z'.1:=((jL hVS.1.2.2.2).1 (by rw[hx t.1,if_pos rfl])).1
 have etn:tn.1=t.1:=hk.1.trans hc.1;have keep:∀u∈z.1,u.1≠t.1->u∈z'.1:=λu hu hne=>((jL hVS.1.2.2.2 (x:=u.1)).1 (by rw[hx u.1,if_neg hne,if_neg λp=>hn p.1 u hu p.2];exact mZ I.va.2.2.2 hu)).1
 have grow:∀p∈z.1,∃p'∈z'.1,p'.1=p.1/\p.2.2.2.2.2.1<=p'.2.2.2.2.2.1:=by
  intro p hp
  by_cases g:p.1=t.1
  .have:=lX I.va.2.2.2 hp hm g;subst this;exact⟨tn,mtn,etn,by rw[hk2.1];exact hcc.1⟩
  .exact⟨p,keep p hp g,rfl,Int.le_refl _⟩
 have mem:∀u∈z'.1,u=tn\/(u∈z.1/\u.1≠t.1)\/((labS z.2.1 t i).2.2.1=16/\u=nw):=by
  intro u hu;have:=mZ hVS.1.2.2.2 hu;rw[hx]at this;split at this
  .exact .inl (LW this).symm
  split at this
  .rename_i g;exact .inr (.inr ⟨g.1,(LW this).symm⟩)
  .rename_i g1 g2;exact .inr (.inl ⟨((jL I.va.2.2.2).1 this).1,g1⟩)
 have em1:z'.2.1.2.1=BH (labS z.2.1 t i) z.2.1.2.1:=by rw[em]
 have em2:z'.2.1.2.2.1=qsE (labS z.2.1 t i) z.2.1.2.2.1:=by rw[em]
 have em3:z'.2.1.2.2.2.1=sgE (labS z.2.1 t i) z.2.1.2.2.1 z.2.1.2.2.2.1:=by rw[em]
 have ph1:t.2.2.2.2.2.2.1=1->(labS z.2.1 t i).2.2.1=13/\t.1∈z.2.1.2.2.2.1:=by
  intro p;have k:=hcl.2 (acR hvl hat (by omega)).1 p
  have:=hok.2.2.2.2.1 k;rw[hag]at this;exact⟨k,jc.1 this⟩
 have Rz:∀(c:Nat) q0,z.2.1.2.2.1[c]?=some q0->∀x∈q0,∃u∈z'.1,u.1=x/\u.2.2.2.2.2.2.1=1/\∃j,qh fs u.2.1 u.2.2.1=some j/\j.1=18/\j.2.2.2.2.1.toNat=c:=by
  intro c q0 hq0 x hx0;obtain⟨u,hu,e1,p1,j,hj⟩:=I.que c q0 hq0 x hx0;refine⟨u,keep u hu λg=>?_,e1,p1,j,hj⟩
  have:=lX I.va.2.2.2 hu hm g;subst this;exact apq I.fm (ph1 p1).2 hq0 (e1▸hx0)
 refine⟨I.ok,hVS.1,hVS.2,λu hu x hxm=>?_,λc q hq x OX=>?_,λx hxs=>?_,λu hu h8=>?_⟩
 .rw[em1];rcases mem u hu with rfl | ⟨hu,hne⟩ | ⟨g,rfl⟩
  .rw[hk.2.2.2]at hxm;rw[etn];exact apr x hxm
  .refine acS hok (I.held u hu x hxm) (λg=>?_) (by rw[hag];exact hne)
   have:=fH (I.va.2.2.1 u hu).2;obtain⟨_,fn,pc,rg,st,ch,ph,su,fa,hd,_⟩:=u;have:=(kZ this.1).1;simp only at g;omega
  .rw[(hnew g).2]at hxm;cases hxm
 .rw[em2]at hq;unfold qsE at hq;have getD:∀{x:Int}{k:Nat},x∈z.2.1.2.2.1[k]?.getD []->∃q0,z.2.1.2.2.1[k]?=some q0/\x∈q0:=by
   intro x k hx;cases hk:z.2.1.2.2.1[k]? with
   | none=>rw[hk]at hx;cases hx
   | some q0=>rw[hk]at hx;exact⟨q0,rfl,hx⟩
  split at hq
  .rename_i k12;obtain⟨w1,w2,w3⟩:=hcl.1 k12;rw[List.getElem?_set]at hq;split at hq
   .rename_i ec;split at hq
    .rw[Xp]at hq;subst hq;rcases DY.1 OX with OX | OX
     .obtain⟨q0,h1,h2⟩:=getD OX;exact Rz c q0 (ec▸h1) x h2
     .rw[Xg]at OX;refine⟨tn,mtn,?_,?_,i,?_,w1,?_⟩
      .rw[etn,OX,hag]
      .rw[hk2.2];exact(hw w1 w2).1
      .rw[hk.2.1,hc.2.1,hst w1 w2];exact hat
      .rw[<-ec,w3]
    .cases hq
   .exact Rz c q hq x OX
  split at hq
  .rw[List.getElem?_set]at hq;split at hq
   .rename_i ec;split at hq
    .rw[Xp]at hq;subst hq;obtain⟨q0,h1,h2⟩:=getD (List.mem_of_mem_drop OX);exact Rz c q0 (ec▸h1) x h2
    .cases hq
   .exact Rz c q hq x OX
  split at hq
  .rw[List.getElem?_set]at hq;split at hq
   .split at hq
    .rw[Xp]at hq;subst hq;cases OX
    .cases hq
   .exact Rz c q hq x OX
  .exact Rz c q hq x OX
 .rw[em3]at hxs;have hss:SS z.2.1.2.2.2.1:=by
   have:=I.fm;obtain⟨l,⟨mv,mo,mq,mg,⟨⟩⟩,bf,⟨⟩⟩:=z;exact(dQ.1 this).2.2.2.1
  have sold:∀x∈z.2.1.2.2.2.1,(t.1=x->(labS z.2.1 t i).2.2.1≠13)->∃u∈z'.1,u.1=x/\u.2.2.2.2.2.2.1=1:=by
   intro x hx0 hne;obtain⟨u,hu,e1,p1⟩:=I.sig x hx0;refine⟨u,keep u hu λg=>?_,e1,p1⟩
   have:=lX I.va.2.2.2 hu hm g;subst this;exact hne e1 (ph1 p1).1
  have apt:∀x,x∈z.2.1.2.2.1[(labS z.2.1 t i).2.2.2.1.toNat]?.getD []->∃u∈z'.1,u.1=x/\u.2.2.2.2.2.2.1=1:=by
   intro x hx0;cases hk:z.2.1.2.2.1[(labS z.2.1 t i).2.2.2.1.toNat]? with
   | none=>rw[hk]at hx0;cases hx0
   | some q0=>
     rw[hk]at hx0;obtain⟨u,hu,e1,p1,_⟩:=Rz _ q0 hk x hx0;exact⟨u,hu,e1,p1⟩
  unfold sgE at hxs;split at hxs
  .rename_i k13;rw[<-Bo hss]at hxs;rw[Vj]at hxs;exact sold x hxs.1 λg=>by rw[hag]at hxs;simp[g]at hxs
  split at hxs
  .rename_i k13 k14;rcases((xI _ _ hss).2 x).1 hxs with hx0 | hx0
   .exact sold x hx0 λ_=>k13
   .exact apt x (List.mem_of_mem_take hx0)
  split at hxs
  .rename_i k13 k14 k15;rcases((xI _ _ hss).2 x).1 hxs with hx0 | hx0
   .exact sold x hx0 λ_=>k13
   .exact apt x hx0
  .rename_i k13 k14 k15;exact sold x hxs λ_=>k13
 .rcases mem u hu with rfl | ⟨hu,hne⟩ | ⟨g,rfl⟩
  .rw[etn]at h8 ⊢;obtain⟨p,hp,p1,p2⟩:=I.par t hm h8;obtain⟨p',hp',e1,e2⟩:=grow p hp;exact⟨p',hp',by omega,by omega⟩
  .obtain⟨p,hp,p1,p2⟩:=I.par u hu h8;obtain⟨p',hp',e1,e2⟩:=grow p hp;exact⟨p',hp',by omega,by omega⟩
  .have hi:=(xK hv).1 g;obtain⟨c1,c2,_⟩:=sV (hch hi);rw[(hnew g).1,uN hi];have:=hcc.2 hi;exact⟨tn,mtn,by rw[etn];omega,by rw[etn,hk2.1];omega⟩
end
structure Ind (a b:ED):Prop where
 ag:a.1≠b.1
 v1:(a.2.2.1=5\/a.2.2.1=2)->(b.2.2.1=1\/b.2.2.1=8\/b.2.2.1=6\/b.2.2.1=5\/b.2.2.1=2)->a.2.2.2.1≠b.2.2.2.1
 v2:(b.2.2.1=5\/b.2.2.1=2)->(a.2.2.1=1\/a.2.2.1=8\/a.2.2.1=6\/a.2.2.1=5\/a.2.2.1=2)->b.2.2.2.1≠a.2.2.2.1
 m1:(a.2.2.1=9\/a.2.2.1=10\/a.2.2.1=11)->(b.2.2.1=9\/b.2.2.1=10\/b.2.2.1=11)->a.2.2.2.1≠b.2.2.2.1
 m2:a.2.2.1=12->(b.2.2.1=9\/b.2.2.1=10\/b.2.2.1=11)->a.2.2.2.2.1≠b.2.2.2.1
 m3:(a.2.2.1=9\/a.2.2.1=10\/a.2.2.1=11)->b.2.2.1=12->b.2.2.2.2.1≠a.2.2.2.1
 m4:a.2.2.1=12->b.2.2.1=12->a.2.2.2.2.1≠b.2.2.2.2.1
 cn:(12<=a.2.2.1/\a.2.2.1<=15)->(12<=b.2.2.1/\b.2.2.1<=15)->a.2.2.2.1≠b.2.2.2.1
 s1:(a.2.2.1=16\/a.2.2.1=17)->a.2.2.2.1≠b.1
 s2:(b.2.2.1=16\/b.2.2.1=17)->b.2.2.2.1≠a.1
 s3:a.2.2.1=16->b.2.2.1=17->a.2.2.2.1≠b.2.2.2.1
 s4:b.2.2.1=16->a.2.2.1=17->b.2.2.2.1≠a.2.2.2.1
theorem nat_ne{x y:Int} (hx:0<=x) (hy:0<=y) (h:x≠y):x.toNat≠y.toNat:=by omega
theorem getD_set_ne{α:Type}{l:List α}{j:Nat}{a:α} (h:k≠j):(l.set k a)[j]?=l[j]?:=l9 h
theorem ahE(h:Qz e m){x:Int} (hx:0<=x) (hn:(e.2.2.1=5\/e.2.2.1=2)->e.2.2.2.1≠x):(vsE e m.1)[x.toNat]?=m.1[x.toNat]?:=by
 unfold vsE;split
 .rename_i g;exact getD_set_ne (nat_ne (h.1 g).1.1 hx (hn g))
 .rfl
theorem ahF(h:Qz e m){x:Int} (hx:0<=x) (hn:(e.2.2.1=9\/e.2.2.1=10\/e.2.2.1=11)->e.2.2.2.1≠x) (hn2:e.2.2.1=12->e.2.2.2.2.1≠x):(BH e m.2.1)[x.toNat]?=m.2.1[x.toNat]?:=by
 unfold BH;split
 .rename_i g;exact getD_set_ne (nat_ne (h.2.1 g).1.1 hx (hn (by omega)))
 split
 .rename_i g;exact getD_set_ne (nat_ne (h.2.2.1 g).1.1 hx (hn (by omega)))
 split
 .rename_i g;exact getD_set_ne (nat_ne (h.2.2.2.1 g).1.1.1 hx (hn2 g))
 .rfl
theorem UZ(h:Qz e m){x:Int} (hx:0<=x) (hn:(12<=e.2.2.1/\e.2.2.1<=15)->e.2.2.2.1≠x):(qsE e m.2.2.1)[x.toNat]?=m.2.2.1[x.toNat]?:=by
 unfold qsE;split
 .rename_i g;exact getD_set_ne (nat_ne (h.2.2.2.1 g).2.1.1 hx (hn (by omega)))
 split
 .rename_i g;exact getD_set_ne (nat_ne (h.2.2.2.2.2 (.inl g)).1 hx (hn (by omega)))
 split
 .rename_i g;exact getD_set_ne (nat_ne (h.2.2.2.2.2 (.inr g)).1 hx (hn (by omega)))
 .rfl
theorem ahG(e:ED) (l:List Int):(BH e l).length=l.length:=by unfold BH;(repeat' split)<;>simp
theorem ahH(hs:SS m.2.2.2.1){x:Int}:x∈sgE e m.2.2.1 m.2.2.2.1↔(x∈m.2.2.2.1/\(e.2.2.1=13->x≠e.1))\/(e.2.2.1=14/\x∈(m.2.2.1[e.2.2.2.1.toNat]?.getD []).take 1)\/(e.2.2.1=15/\x∈m.2.2.1[e.2.2.2.1.toNat]?.getD []):=by
 unfold sgE
 by_cases k:e.2.2.1=13
 .rw[if_pos k,<-Bo hs,Vj];simp[k]
 by_cases k2:e.2.2.1=14
 .rw[if_neg k,if_pos k2,(xI _ _ hs).2];simp[k2]
 by_cases k3:e.2.2.1=15
 .rw[if_neg k,if_neg k2,if_pos k3,(xI _ _ hs).2];simp[k3]
 .rw[if_neg k,if_neg k2,if_neg k3];simp[k,k2,k3]
theorem ahI(h:dM m=true):SS m.2.2.2.1:=by
 obtain⟨mv,mo,mq,mg,⟨⟩⟩:=m;exact(dQ.1 h).2.2.2.1
section
variable {vs:List VD}{ms cs:List ByteArray}{fs:List FD}{ts:List SD}{bound:Int}{z:ZD}
theorem Df{n:MD} (hf:dM m=true) (hn:dM n=true) (ho:Qz e m) (e1:n.2.1=BH e m.2.1){x:Int} (h1:(e.2.2.1=9\/e.2.2.1=10\/e.2.2.1=11)->e.2.2.2.1≠x) (h2:e.2.2.1=12->e.2.2.2.2.1≠x):lT n x=lT m x:=by
 unfold lT;have hl:n.2.1.length=m.2.1.length:=by rw[e1,ahG]
 rw[hl]
 by_cases q:0<=x/\x < (m.2.1.length:Int)
 .rw[show decide (jd n x m.2.1.length=0)=true from Ph (dD.2 ⟨hn,q⟩),show decide (jd m x m.2.1.length=0)=true from Ph (dD.2 ⟨hf,q⟩),e1,ahF ho q.1 h1 h2]
 .rw[show decide (jd n x m.2.1.length=0)=false from Dk λp=>q (dD.1 p).2,show decide (jd m x m.2.1.length=0)=false from Dk λp=>q (dD.1 p).2]
  rfl
theorem U0(q:i.1=22):uK l m t i=(match lU l (t.2.2.2.1.getD i.2.2.1.toNat 0) with
 | some u=>decide (u.2.2.2.2.2.2.2.1=2) || decide (u.2.2.2.2.2.2.2.1=3)
 | none=>false):=by
 unfold uK;rw[if_neg (by omega),if_neg (by omega),if_neg (by omega),if_pos q]
 rfl
theorem ahJ(I:Inv vs ms cs fs ts bound z) (hl:z.1.length<=60){ta tb:TD}{ia ib:ID} (ma:ta∈z.1) (mb:tb∈z.1) (pa:dZ (aG vs ms cs fs ts).1 ms fs ta=(ia,true)) (pb:dZ (aG vs ms cs fs ts).1 ms fs tb=(ib,true))
 (ea:uK z.1 z.2.1 ta ia=true) (hI:Ind (labS z.2.1 ta ia) (labS z.2.1 tb ib)):
 labS (dV vs ms cs fs ts bound z ta.1).1.2.1 tb ib=labS z.2.1 tb ib/\uK (dV vs ms cs fs ts bound z ta.1).1.1 (dV vs ms cs fs ts bound z ta.1).1.2.1 tb ib=uK z.1 z.2.1 tb ib /\
  (dV vs ms cs fs ts bound z ta.1).2.2=0/\tb∈(dV vs ms cs fs ts bound z ta.1).1.1:=by
 have hft:=mZ I.va.2.2.2 ma;obtain⟨ok0,nw0⟩:=Ry I hl ma pa ea;have h0:=(lY I hl ma pa).2.2.2.2;have hz0:=(LK I.fm (by rw[og];exact h0)).2 ok0
 have h:=acL I.ok I.va hft pa ea hz0 nw0;have J:=OW I hl h;obtain⟨t,i,acV,hp,he,hf,em,ee,hn,hlen,hx⟩:=Hl I.r8 (by omega) (I.bm hl) h
 rw[hft]at acV;cases acV;rw[pa]at hp;cases hp;have hpt:=JE I.fm (by rw[og];exact h0) hf
 rw[hpt]at em;obtain⟨⟨_,hb,hc,hv,hvar,hcnd,hord⟩,hat,hsu,hvl,hb0⟩:=lY I hl mb pb;have hga:=og z.2.1 ta ia;have hgb:=og z.2.1 tb ib;have hne:tb.1≠ta.1:=λq=>hI.ag (by rw[hga,hgb,q])
 have mtb:tb∈(dV vs ms cs fs ts bound z ta.1).1.1:=((jL J.va.2.2.2 (x:=tb.1)).1 (by rw[hx tb.1,if_neg hne,if_neg λp=>hn p.1 tb mb p.2];exact mZ I.va.2.2.2 mb)).1
 have em0:(dV vs ms cs fs ts bound z ta.1).1.2.1.1=vsE (labS z.2.1 ta ia) z.2.1.1:=by rw[em]
 have em1:(dV vs ms cs fs ts bound z ta.1).1.2.1.2.1=BH (labS z.2.1 ta ia) z.2.1.2.1:=by rw[em]
 have em2:(dV vs ms cs fs ts bound z ta.1).1.2.1.2.2.1=qsE (labS z.2.1 ta ia) z.2.1.2.2.1:=by rw[em]
 have em3:(dV vs ms cs fs ts bound z ta.1).1.2.1.2.2.2.1=sgE (labS z.2.1 ta ia) z.2.1.2.2.1 z.2.1.2.2.2.1:=by rw[em]
 have jf:=J.fm;generalize (dV vs ms cs fs ts bound z ta.1).1=z' at em0 em1 em2 em3 jf hx J mtb ⊢;have hop:ib.1=8\/ib.1=9\/ib.1=10\/ib.1=11\/ib.1=12\/ib.1=13\/ib.1=14\/ib.1=15\/ib.1=16\/ib.1=17\/ib.1=18\/ib.1=19\/ib.1=20\/ib.1=21\/ib.1=22:=by omega
 have rv:(ib.1=8\/ib.1=10\/ib.1=11\/ib.1=12\/ib.1=14)->z'.2.1.1[ib.2.2.2.2.1.toNat]?=z.2.1.1[ib.2.2.2.2.1.toNat]?:=by
  intro q;rw[em0];refine ahE ok0 (hvar (by omega)).1 λg=>?_
  have hkb:((labS z.2.1 tb ib).2.2.1=1\/(labS z.2.1 tb ib).2.2.1=8\/(labS z.2.1 tb ib).2.2.1=6\/(labS z.2.1 tb ib).2.2.1=5\/(labS z.2.1 tb ib).2.2.1=2)/\(labS z.2.1 tb ib).2.2.2.1=ib.2.2.2.2.1:=by
   rcases q with q | q | q | q | q
   .simp[labS,q]
   .simp[labS,q]
   .simp[labS,q]
   .rw[oM q];split<;>simp
   .simp[labS,q]
  rw[<-hkb.2];exact hI.v1 g hkb.1
 refine⟨?_,?_,h,mtb⟩
 .rcases hop with q | q | q | q | q | q | q | q | q | q | q | q | q | q | q
  .have:=rv (by omega);simp[labS,q,this]
  .simp[labS,q]
  .have:=rv (by omega);simp[labS,q,this]
  .have:=rv (by omega);simp[labS,q,this]
  .have:=rv (by omega);rw[oM q,oM q,this]
  .simp[labS,q]
  .have:=rv (by omega);simp[labS,q,this]
  .simp[labS,q]
  .simp[labS,q]
  .have e17:(labS z.2.1 tb ib).2.2.1=11/\(labS z.2.1 tb ib).2.2.2.1=ib.2.2.2.2.1:=by simp[labS,q]
   have:=Df I.fm jf ok0 em1 (x:=ib.2.2.2.2.1) (λg=>by rw[<-e17.2];exact hI.m1 g (.inr (.inr e17.1))) (λg=>by rw[<-e17.2];exact hI.m2 g (.inr (.inr e17.1)))
   simp[labS,q,this]
  .rw[uP q,uP q]
  .have e19:(labS z.2.1 tb ib).2.2.1=14/\(labS z.2.1 tb ib).2.2.2.1=ib.2.2.2.2.1:=by simp[labS,q]
   have:=UZ ok0 (hcnd (by omega)).1 λg=>by rw[<-e19.2];exact hI.cn g (by omega)
   rw[<-em2]at this;simp[labS,q,this]
  .have e20:(labS z.2.1 tb ib).2.2.1=15/\(labS z.2.1 tb ib).2.2.2.1=ib.2.2.2.2.1:=by simp[labS,q]
   have:=UZ ok0 (hcnd (by omega)).1 λg=>by rw[<-e20.2];exact hI.cn g (by omega)
   rw[<-em2]at this;simp[labS,q,this]
  .simp[labS,q]
  .simp[labS,q]
 .rcases hop with q | q | q | q | q | q | q | q | q | q | q | q | q | q | q
  all_goals first | (simp[uK,q];done) | skip
  .have:=rv (by omega);simp[uK,q,this]
  .have e15:(labS z.2.1 tb ib).2.2.1=9/\(labS z.2.1 tb ib).2.2.2.1=ib.2.2.2.2.1:=by simp[labS,q]
   have:=Df I.fm jf ok0 em1 (x:=ib.2.2.2.2.1) (λg=>by rw[<-e15.2];exact hI.m1 g (.inl e15.1)) (λg=>by rw[<-e15.2];exact hI.m2 g (.inl e15.1))
   simp[uK,q,this]
  .have elb:=uP (m:=z.2.1) (t:=tb) q;have hph:=acU hvl;rcases hph with p | p | p
   .simp[uK,q,p]
   .rw[if_neg (by omega),if_pos p]at elb
    have key:dU z'.2.1.2.2.2.1 tb.1=dU z.2.1.2.2.2.1 tb.1:=by
     rw[LX,jc,jc,em3,ahH (ahI I.fm)];have no:∀x,x∈z.2.1.2.2.1[(labS z.2.1 ta ia).2.2.2.1.toNat]?.getD []->(labS z.2.1 ta ia).2.2.1=14\/(labS z.2.1 ta ia).2.2.1=15->x≠tb.1:=by
      intro x OX g e;subst e;cases hk:z.2.1.2.2.1[(labS z.2.1 ta ia).2.2.2.1.toNat]? with
      | none=>rw[hk]at OX;cases OX
      | some q0=>
        rw[hk]at OX;obtain⟨u,hu,e1,p1,j,hj,oj,cj⟩:=I.que _ q0 hk tb.1 OX;have:=lX I.va.2.2.2 hu mb e1;subst this;rw[hat]at hj;cases hj;have h1:=hI.cn (by omega) (by rw[elb];simp)
        rw[elb]at h1;have h2:=(ok0.2.2.2.2.2 g).1;have h3:=(hcnd (by omega)).1
        have h1:(labS z.2.1 ta ia).2.2.2.1≠ib.2.2.2.2.1:=h1;omega
     constructor
     .rintro(h | ⟨k,h⟩ | ⟨k,h⟩)
      .exact h.1
      .exact absurd rfl (no _ (List.mem_of_mem_take h) (.inl k))
      .exact absurd rfl (no _ h (.inr k))
     .intro h;exact .inl ⟨h,λ_=>by rw[hga];exact hne⟩
    simp[uK,q,p,key]
   .rw[if_neg (by omega),if_neg (by omega)]at elb
    have:=Df I.fm jf ok0 em1 (x:=ib.2.2.2.2.2.1) (λg=>by have:=hI.m1 g (.inl (by rw[elb]));rw[elb]at this;exact this) (λg=>by have:=hI.m2 g (.inl (by rw[elb]));rw[elb]at this;exact this)
    simp[uK,q,p,this]
  .have e22:(labS z.2.1 tb ib).2.2.1=17/\(labS z.2.1 tb ib).2.2.2.1=tb.2.2.2.1.getD ib.2.2.1.toNat 0:=by simp[labS,q]
   have h1:=hI.s2 (.inr e22.1);rw[e22.2,hga]at h1;have h2:=λg=>hI.s3 g e22.1
   rw[e22.2]at h2;have:lU z'.1 (tb.2.2.2.1.getD ib.2.2.1.toNat 0)=lU z.1 (tb.2.2.2.1.getD ib.2.2.1.toNat 0):=by
    rw[hx,if_neg h1,if_neg λp=>h2 p.1 p.2.symm]
   rw[U0 q,U0 q,this]
end
abbrev shA:Sh:=.pair (.int .i64) (.pair (.int .i64) (.pair (.int .i64) (.pair .bool .unit)))
abbrev AD:=Int×Int×Int×Bool×Unit
def eA(e:ED):Int:=e.1
def eI(e:ED):Int:=e.2.1
def eK(e:ED):Int:=e.2.2.1
def eO(e:ED):Int:=e.2.2.2.1
def eM(e:ED):Int:=e.2.2.2.2.1
def eN(e:ED):Int:=e.2.2.2.2.2.1
def eR(e:ED):Int:=e.2.2.2.2.2.2.1
def eD(e:ED):Int:=e.2.2.2.2.2.2.2.1
def eW(e:ED):Int:=e.2.2.2.2.2.2.2.2.1
def bE(e:ED):Prop:=-9223372036854775808<=eA e/\eA e<=9223372036854775807
def jE(k:Int):Bool:=k == 1 || k == 2 || k == 3 || k == 5 || k == 6 || k == 8
def kQ(k:Int):Bool:=k == 1 || k == 8 || k == 5 || k == 6
def jF(k:Int):Bool:=k == 2 || k == 3 || k == 4 || k == 5
def iL(n m:Int):Bool:=decide (0<=n) && decide (n < m)
def jO(n:Int):Bool:=decide (-2147483648<=n) && decide (n<=2147483647)
def jG(k o:Int):Bool:=if k=7 then o == 0 else if k=9\/k=10\/k=11 then iL o 4 else if k=12\/k=13\/k=14\/k=15 then iL o 4 else if k=16\/k=17 then decide (0<=o) else iL o 8
def jH(k d:Int):Bool:=if k=11\/k=14 then iL d 2 else if k=15 then decide (0<=d) else jO d && (kQ k || d == 0)
def pX(k e:Int):Bool:=if k=1\/k=8 then decide (-1<=e) else if k=3\/k=4 then decide (0<=e) else e == -1
def jW(e:ED):Bool:=decide (1<=eK e) && decide (eK e<=17) && (decide (eA e < 0) == (eK e == 4)) && decide (0<=eI e) && jG (eK e) (eO e) && jH (eK e) (eD e) && pX (eK e) (eN e) &&
 decide (0<=eR e) && decide (eR e<=2) && (jE (eK e) || eR e == 0) && jO (eW e) && (jF (eK e) || eW e == 0) && (if eK e=12 then iL (eM e) 4 else eM e == -1)
def pY(a:Int):Int:=if a < 0 then -(a+1) else a
def tJ(t:Int):Int:=if t < 0 then 0 else -t - 1
def DX(e:ED):AD:=(4,pY (eA e),eN e,(eK e == 3 || eK e == 4),())
def y8(e:ED):AD:=(1,eO e,0,(eK e == 2 || eK e == 5 || eK e == 4),())
def gG(e:ED):List AD:=if eK e=1\/eK e=8 then(if 0<=eN e then[DX e] else[y8 e]) else if eK e=2\/eK e=5\/eK e=6 then[y8 e] else if eK e=3 then[DX e] else if eK e=4 then[y8 e,DX e]
 else if eK e=9\/eK e=10\/eK e=11 then[(2,eO e,0,true,())] else if eK e=12 then[(2,eM e,0,true,()),(3,eO e,0,true,())] else if eK e=13\/eK e=14\/eK e=15 then[(3,eO e,0,true,())] else[]
def Dh(x y:AD):Bool:=x.1 == y.1 && x.2.1 == y.2.1 && x.2.2.1 == y.2.2.1 && (x.2.2.2.1 || y.2.2.2.1)
def DF(a b:ED):Bool:=(gG a).any λx=>(gG b).any λy=>Dh x y
def ru(a b:ED):Bool:=if eK a≠16/\eK a≠17 then false else eO a == pY (eA b) || (eK a == 16 && eK b == 17 && eO a == eO b)
def y9(a b:ED):Bool:=if eK a=1\/eK a=2\/eK a=3\/eK a=4\/eK a=8 then false else decide (0<=eA a) && eA b == tJ (eA a)
def Hr(a b:ED):Bool:=jW a && jW b && (eA a == eA b || ru a b || ru b a || y9 a b || y9 b a || DF a b)
theorem acW{a b:ED} (h:ru a b=false) (nb:0<=eA b):((eK a=16\/eK a=17)->eO a≠eA b)/\(eK a=16->eK b=17->eO a≠eO b):=by
 unfold ru pY at h
 by_cases q:eK a≠16/\eK a≠17
 .exact⟨λp=>by omega,λp=>by omega⟩
 .rw[if_neg q,if_neg (by omega),oV]at h
  refine⟨λ_ p=>by simp[p]at h,λp1 p2 p3=>by simp[p1,p2,p3]at h⟩
theorem ahK{a b:ED} (va:jW a=true) (vb:jW b=true) (na:0<=eA a) (nb:0<=eA b) (ea:eN a = -1) (eb:eN b = -1) (h:Hr a b=false):Ind a b:=by
 unfold Hr at h;rw[va,vb]at h;simp only[Ia,oV]at h;obtain⟨⟨⟨⟨⟨h1,h2⟩,h3⟩,_⟩,_⟩,h6⟩:=h;have hc:∀x∈gG a,∀y∈gG b,Dh x y=false:=by
  intro x hx y hy;rw[A96];intro q;have:DF a b=true:=Xq.2 ⟨x,hx,Xq.2 ⟨y,hy,q⟩⟩;rw[h6]at this;cases this
 have t1:=acW h2 nb;have t2:=acW h3 na;have var:∀{e:ED},eN e = -1->(eK e=1\/eK e=8\/eK e=6\/eK e=5\/eK e=2)->y8 e∈gG e:=by
  intro e en k;rcases k with k | k | k | k | k<;>simp[gG,k,en]
 have wr:∀{e:ED},(eK e=5\/eK e=2)->(y8 e).2.2.2.1=true:=by
  intro e k;rcases k with k | k<;>simp[y8,k]
 have mtx:∀{e:ED},(eK e=9\/eK e=10\/eK e=11)->(2,eO e,0,true,())∈gG e:=by
  intro e k;rcases k with k | k | k<;>simp[gG,k]
 have ahL:∀{e:ED},eK e=12->(2,eM e,0,true,())∈gG e:=by
  intro e k;simp[gG,k]
 have cnd:∀{e:ED},(12<=eK e/\eK e<=15)->(3,eO e,0,true,())∈gG e:=by
  intro e k;have:eK e=12\/eK e=13\/eK e=14\/eK e=15:=by omega
  rcases this with k | k | k | k<;>simp[gG,k]
 have hv:∀{x y:AD},x∈gG a->y∈gG b->x.1=y.1->x.2.2.1=y.2.2.1->(x.2.2.2.1=true\/y.2.2.2.1=true)->x.2.1≠y.2.1:=by
  intro x y hx hy e1 e2 hw q;have:=hc x hx y hy;unfold Dh at this;rw[e1,e2,q]at this;rcases hw with hw | hw<;>simp[hw]at this
 refine⟨λq=>by simp[eA,q]at h1,λp q=>?_,λp q=>?_,λp q=>?_,λp q=>?_,λp q=>?_,λp q=>?_,λp q=>?_,t1.1,t2.1,t1.2,t2.2⟩
 .exact hv (var ea (by rcases p with p | p;exact .inr (.inr (.inr (.inl p)));exact .inr (.inr (.inr (.inr p))))) (var eb q) rfl rfl (.inl (wr p))
 .exact(hv (var ea q) (var eb (by rcases p with p | p;exact .inr (.inr (.inr (.inl p)));exact .inr (.inr (.inr (.inr p))))) rfl rfl (.inr (wr p))).symm
 .exact hv (mtx p) (mtx q) rfl rfl (.inl rfl)
 .exact hv (ahL p) (mtx q) rfl rfl (.inl rfl)
 .exact(hv (mtx p) (ahL q) rfl rfl (.inl rfl)).symm
 .exact hv (ahL p) (ahL q) rfl rfl (.inl rfl)
 .exact hv (cnd p) (cnd q) rfl rfl (.inl rfl)
theorem acX(h:qX i=0):0<=i.2.2.2.2.2.2.2.1/\i.2.2.2.2.2.2.2.1<=2:=by
 unfold qX pK at h
 repeat' split at h
 all_goals first | (simp at h;done) | skip
 rename_i h1 h2 h3 h4 h5 h6;simp at h4;omega
theorem acY(b:Bool):tC b=0\/tC b=1:=by cases b<;>simp[tC]
theorem acZ(n:Nat):jD 1 n=0\/jD 1 n=1:=by unfold jD;split<;>omega
section
variable {vs:List VD}{ms cs:List ByteArray}{fs:List FD}{ts:List SD}{bound:Int}{z:ZD}
theorem U1(I:Inv vs ms cs fs ts bound z) (hl:z.1.length<=60) (hm:t∈z.1) (hp:dZ (aG vs ms cs fs ts).1 ms fs t=(i,true)):
 jW (labS z.2.1 t i)=true\/((labS z.2.1 t i).2.2.1=17/\(labS z.2.1 t i).2.2.2.1 < 0):=by
 obtain⟨⟨_,hb,hc,hv,hvar,hcnd,hord⟩,hat,hsu,hvl,h0⟩:=lY I hl hm hp;have hz:=fE.1 I.ok;have hf:=fH hvl;obtain⟨k1,k2,k3,k4⟩:=qM (Dy hz.1 (CW hf).1 hat);have ho:=acX k1;have hsz:=tH I.va.1;have hfm:=I.fm;have hco:=(acA (kP hz.1).1).1;have hst:0<=t.2.2.2.2.1:=by
  obtain⟨_,fn,pc,rg,st,ch,ph,su,fa,hd,u⟩:=t;exact hf.2.2.2.2.1.1
 have hrg:∀b:Int,0<=b/\b < 8->-2147483648<=t.2.2.2.1.getD b.toNat 0/\t.2.2.2.1.getD b.toNat 0<=2147483647:=by
  intro b hb;obtain⟨x,fn,pc,rg,st,ch,ph,su,fa,hd,u⟩:=t;exact nK.1 (GI hf.2.2.2.1 hb)
 have hmv:∀x:Int,-2147483648<=z.2.1.1[x.toNat]?.getD 0/\z.2.1.1[x.toNat]?.getD 0<=2147483647:=by
  intro x;cases hx:z.2.1.1[x.toNat]? with
  | none=>simp
  | some v=>
    have:=(dQ.1 hfm);obtain⟨l,⟨mv,mo,mq,mg,⟨⟩⟩,bf,⟨⟩⟩:=z;exact nK.1 (this.2.2.2.2.1 v (iM hx))
 have hap:=nK.1 (Le 1 (z.2.1.1[i.2.2.2.2.1.toNat]?.getD 0) (t.2.2.2.1.getD i.2.2.1.toNat 0));have hbr:=hrg _ hb;have hcr:=hrg _ hc;have hmr:=hmv i.2.2.2.2.1;have hmx:i.1=15\/i.1=16\/i.1=17->0<=i.2.2.2.2.1/\i.2.2.2.2.1 < 4:=by
  intro q;rw[Jw q]at k2;have:=k2 (by omega)
  omega
 have hvx:i.1<=14/\i.1≠13->0<=i.2.2.2.2.1/\i.2.2.2.2.1 < 8:=by
  intro q;have:=hvar q;have e:(z.2.1.1.length:Int)<=8:=by rw[hsz.2.2.1];show(vs.length:Int)<=8;omega
  omega
 have hcx:18<=i.1/\i.1<=20->0<=i.2.2.2.2.1/\i.2.2.2.2.1 < 4:=by
  intro q;have:=hcnd q;have e:(z.2.1.2.2.1.length:Int)<=4:=by rw[hsz.2.2.2.2];show(cs.length:Int)<=4;omega
  omega
 have hnx:i.1=18->0<=i.2.2.2.2.2.1/\i.2.2.2.2.2.1 < 4:=by
  intro q;have:=k3 q;omega
 have hfe:i.1=13->i.2.2.2.2.1=0:=by
  intro q;unfold qX pK at k1
  repeat' split at k1
  all_goals first | (simp at k1;done) | skip
  rename_i h1 h2 h3 h4 h5 h6;simp[q,use,afk]at h2;omega
 have hop:i.1=8\/i.1=9\/i.1=10\/i.1=11\/i.1=12\/i.1=13\/i.1=14\/i.1=15\/i.1=16\/i.1=17\/i.1=18\/i.1=19\/i.1=20\/i.1=21\/i.1=22:=by omega
 have key:∀{k o x r d w:Int},k≠4->1<=k->k<=17->jG k o=true->jH k d=true->(k≠3/\k≠4)->(0<=r/\r<=2)->(jE k || r == 0)=true->(-2147483648<=w/\w<=2147483647)->(jF k || w == 0)=true->(if k=12 then iL x 4 else x == -1)=true ->
  jW (t.1,t.2.2.2.2.1,k,o,x,-1,r,d,w,())=true:=by
  intro k o x r d w a1 a2 a3 a4 a5 a6 a7 a8 a9 a10 a11;show(decide (1<=k) && decide (k<=17) && (decide (t.1 < 0) == (k == 4)) && decide (0<=t.2.2.2.2.1) && jG k o && jH k d && pX k (-1) && decide (0<=r) && decide (r<=2) && (jE k || r == 0) && jO w && (jF k || w == 0) && (if k=12 then iL x 4 else x == -1))=true
  have e1:decide (t.1 < 0)=false:=Dk (by omega)
  have e0:(k == 4)=false:=by simp[a1]
  have e2:pX k (-1)=true:=by
   unfold pX;split
   .rfl
   .rw[if_neg (by omega)];rfl
  have e3:jO w=true:=by unfold jO;simp;omega
  rw[e1,e0,e2,e3,a4,a5,a8,a10,a11];simp;omega
 rcases hop with q | q | q | q | q | q | q | q | q | q | q | q | q | q | q
 .left;have:=hvx (by omega)
  have e:labS z.2.1 t i=(t.1,t.2.2.2.2.1,1,i.2.2.2.2.1,-1,-1,i.2.2.2.2.2.2.2.1,z.2.1.1[i.2.2.2.2.1.toNat]?.getD 0,0,()):=by simp[labS,q]
  rw[e];exact key (by omega) (by omega) (by omega) (by simp[jG,iL];omega) (by simp[jH,jO,kQ];omega) (by omega) ho (by simp[jE]) (by omega) (by simp[jF]) (by simp)
 .left;have:=hvx (by omega)
  have e:labS z.2.1 t i=(t.1,t.2.2.2.2.1,2,i.2.2.2.2.1,-1,-1,i.2.2.2.2.2.2.2.1,0,t.2.2.2.1.getD i.2.2.1.toNat 0,()):=by simp[labS,q]
  rw[e];exact key (by omega) (by omega) (by omega) (by simp[jG,iL];omega) (by simp[jH,jO,kQ]) (by omega) ho (by simp[jE]) hbr (by simp[jF]) (by simp)
 .left;have:=hvx (by omega)
  have e:labS z.2.1 t i=(t.1,t.2.2.2.2.1,5,i.2.2.2.2.1,-1,-1,i.2.2.2.2.2.2.2.1,z.2.1.1[i.2.2.2.2.1.toNat]?.getD 0,t.2.2.2.1.getD i.2.2.1.toNat 0,()):=by simp[labS,q]
  rw[e];exact key (by omega) (by omega) (by omega) (by simp[jG,iL];omega) (by simp[jH,jO,kQ];omega) (by omega) ho (by simp[jE]) hbr (by simp[jF]) (by simp)
 .left;have:=hvx (by omega)
  have e:labS z.2.1 t i=(t.1,t.2.2.2.2.1,5,i.2.2.2.2.1,-1,-1,i.2.2.2.2.2.2.2.1,z.2.1.1[i.2.2.2.2.1.toNat]?.getD 0,(iE 1 (z.2.1.1[i.2.2.2.2.1.toNat]?.getD 0) (t.2.2.2.1.getD i.2.2.1.toNat 0)).1,()):=by simp[labS,q]
  rw[e];exact key (by omega) (by omega) (by omega) (by simp[jG,iL];omega) (by simp[jH,jO,kQ];omega) (by omega) ho (by simp[jE]) hap (by simp[jF]) (by simp)
 .left;have:=hvx (by omega)
  by_cases g:z.2.1.1[i.2.2.2.2.1.toNat]?.getD 0=t.2.2.2.1.getD i.2.2.1.toNat 0
  .have e:labS z.2.1 t i=(t.1,t.2.2.2.2.1,5,i.2.2.2.2.1,-1,-1,i.2.2.2.2.2.2.2.1,z.2.1.1[i.2.2.2.2.1.toNat]?.getD 0,t.2.2.2.1.getD i.2.2.2.1.toNat 0,()):=by
    rw[oM q,if_pos g]
   rw[e];exact key (by omega) (by omega) (by omega) (by simp[jG,iL];omega) (by simp[jH,jO,kQ];omega) (by omega) ho (by simp[jE]) hcr (by simp[jF]) (by simp)
  .have e:labS z.2.1 t i=(t.1,t.2.2.2.2.1,6,i.2.2.2.2.1,-1,-1,i.2.2.2.2.2.2.2.1,z.2.1.1[i.2.2.2.2.1.toNat]?.getD 0,0,()):=by
    rw[oM q,if_neg g]
   rw[e];exact key (by omega) (by omega) (by omega) (by simp[jG,iL];omega) (by simp[jH,jO,kQ];omega) (by omega) ho (by simp[jE]) (by omega) (by simp[jF]) (by simp)
 .left;have:=hfe q;have e:labS z.2.1 t i=(t.1,t.2.2.2.2.1,7,i.2.2.2.2.1,-1,-1,0,0,0,()):=by simp[labS,q]
  rw[e];exact key (by omega) (by omega) (by omega) (by simp[jG,this]) (by simp[jH,jO,kQ]) (by omega) (by omega) (by simp[jE]) (by omega) (by simp[jF]) (by simp)
 .left;have:=hvx (by omega)
  have e:labS z.2.1 t i=(t.1,t.2.2.2.2.1,8,i.2.2.2.2.1,-1,-1,i.2.2.2.2.2.2.2.1,z.2.1.1[i.2.2.2.2.1.toNat]?.getD 0,0,()):=by simp[labS,q]
  rw[e];exact key (by omega) (by omega) (by omega) (by simp[jG,iL];omega) (by simp[jH,jO,kQ];omega) (by omega) ho (by simp[jE]) (by omega) (by simp[jF]) (by simp)
 .left;have:=hmx (by omega)
  have e:labS z.2.1 t i=(t.1,t.2.2.2.2.1,9,i.2.2.2.2.1,-1,-1,0,0,0,()):=by simp[labS,q]
  rw[e];exact key (by omega) (by omega) (by omega) (by simp[jG,iL];omega) (by simp[jH,jO,kQ]) (by omega) (by omega) (by simp[jE]) (by omega) (by simp[jF]) (by simp)
 .left;have:=hmx (by omega)
  have e:labS z.2.1 t i=(t.1,t.2.2.2.2.1,10,i.2.2.2.2.1,-1,-1,0,0,0,()):=by simp[labS,q]
  rw[e];exact key (by omega) (by omega) (by omega) (by simp[jG,iL];omega) (by simp[jH,jO,kQ]) (by omega) (by omega) (by simp[jE]) (by omega) (by simp[jF]) (by simp)
 .left;have:=hmx (by omega)
  have e:labS z.2.1 t i=(t.1,t.2.2.2.2.1,11,i.2.2.2.2.1,-1,-1,0,tC (lT z.2.1 i.2.2.2.2.1),0,()):=by simp[labS,q]
  rw[e];exact key (by omega) (by omega) (by omega) (by simp[jG,iL];omega) (by have:=acY (lT z.2.1 i.2.2.2.2.1);simp[jH,iL];omega) (by omega) (by omega) (by simp[jE]) (by omega) (by simp[jF]) (by simp)
 .left;have h1:=hcx (by omega)
  have h2:=hnx q;rw[uP q];split
  .exact key (by omega) (by omega) (by omega) (by simp[jG,iL];omega) (by simp[jH,jO,kQ]) (by omega) (by omega) (by simp[jE]) (by omega) (by simp[jF]) (by simp[iL];omega)
  split
  .exact key (by omega) (by omega) (by omega) (by simp[jG,iL];omega) (by simp[jH,jO,kQ]) (by omega) (by omega) (by simp[jE]) (by omega) (by simp[jF]) (by simp)
  .exact key (by omega) (by omega) (by omega) (by simp[jG,iL];omega) (by simp[jH,jO,kQ]) (by omega) (by omega) (by simp[jE]) (by omega) (by simp[jF]) (by simp)
 .left;have h1:=hcx (by omega)
  have e:labS z.2.1 t i=(t.1,t.2.2.2.2.1,14,i.2.2.2.2.1,-1,-1,0,jD 1 ((z.2.1.2.2.1[i.2.2.2.2.1.toNat]?.getD []).length:Int),0,()):=by simp[labS,q]
  rw[e];exact key (by omega) (by omega) (by omega) (by simp[jG,iL];omega) (by have:=acZ (z.2.1.2.2.1[i.2.2.2.2.1.toNat]?.getD []).length;simp[jH,iL];omega) (by omega) (by omega) (by simp[jE]) (by omega) (by simp[jF]) (by simp)
 .left;have h1:=hcx (by omega)
  have e:labS z.2.1 t i=(t.1,t.2.2.2.2.1,15,i.2.2.2.2.1,-1,-1,0,((z.2.1.2.2.1[i.2.2.2.2.1.toNat]?.getD []).length:Int),0,()):=by simp[labS,q]
  rw[e];exact key (by omega) (by omega) (by omega) (by simp[jG,iL];omega) (by simp[jH,iL]) (by omega) (by omega) (by simp[jE]) (by omega) (by simp[jF]) (by simp)
 .left;have hch:=(pW I.ok hvl hsu hat q (I.r8 t hm)).1;obtain⟨_,_,_,_,c5,_⟩:=sV hch;have e:labS z.2.1 t i=(t.1,t.2.2.2.2.1,16,(dJ t.1 t.2.2.2.2.2.1).1,-1,-1,0,0,0,()):=by simp[labS,q]
  rw[e];exact key (by omega) (by omega) (by omega) (by simp[jG];omega) (by simp[jH,jO,kQ]) (by omega) (by omega) (by simp[jE]) (by omega) (by simp[jF]) (by simp)
 .have e:labS z.2.1 t i=(t.1,t.2.2.2.2.1,17,t.2.2.2.1.getD i.2.2.1.toNat 0,-1,-1,0,0,0,()):=by simp[labS,q]
  rw[e]
  by_cases g:0<=t.2.2.2.1.getD i.2.2.1.toNat 0
  .left;exact key (by omega) (by omega) (by omega) (by simp[jG];simpa using g) (by simp[jH,jO,kQ]) (by omega) (by omega) (by simp[jE]) (by omega) (by simp[jF]) (by simp)
  .right;exact⟨rfl,by simpa using g⟩
theorem U2(m:MD) (t:TD) (i:ID):(labS m t i).2.2.2.2.2.1 = -1:=by
 have key:∀(c:Prop) [Decidable c] (a b:ED),a.2.2.2.2.2.1 = -1->b.2.2.2.2.2.1 = -1->(if c then a else b).2.2.2.2.2.1 = -1:=by
  intro c _ a b ha hb;split
  .exact ha
  .exact hb
 unfold labS
 repeat' (first | rfl | (apply key))
theorem ahM(I:Inv vs ms cs fs ts bound z) (hl:z.1.length<=60){ta tb:TD}{ia ib:ID} (ma:ta∈z.1) (mb:tb∈z.1) (pa:dZ (aG vs ms cs fs ts).1 ms fs ta=(ia,true)) (pb:dZ (aG vs ms cs fs ts).1 ms fs tb=(ib,true))
 (ea:uK z.1 z.2.1 ta ia=true) (hne:ta.1≠tb.1) (hd:Hr (labS z.2.1 ta ia) (labS z.2.1 tb ib)=false):Ind (labS z.2.1 ta ia) (labS z.2.1 tb ib):=by
 obtain⟨⟨_,_,_,hv,_⟩,hat,hsu,hvl,h0⟩:=lY I hl ma pa;have h1:=(lY I hl mb pb).2.2.2.2;have hga:=og z.2.1 ta ia;have hgb:=og z.2.1 tb ib;have hju:(labS z.2.1 ta ia).2.2.1=17->∃u∈z.1,u.1=(labS z.2.1 ta ia).2.2.2.1/\(u.2.2.2.2.2.2.2.1=2\/u.2.2.2.2.2.2.2.1=3):=by
  intro g;have q:ia.1=22:=by
   have hop:ia.1=8\/ia.1=9\/ia.1=10\/ia.1=11\/ia.1=12\/ia.1=13\/ia.1=14\/ia.1=15\/ia.1=16\/ia.1=17\/ia.1=18\/ia.1=19\/ia.1=20\/ia.1=21\/ia.1=22:=by omega
   rcases hop with q | q | q | q | q | q | q | q | q | q | q | q | q | q | q
   all_goals first | exact q | (exfalso;simp[labS,q]at g;done) | skip
   .exfalso;rw[oM q]at g;split at g<;>simp at g
   .exfalso;rw[uP q]at g;split at g
    .simp at g
    split at g<;>simp at g
  have e:(labS z.2.1 ta ia).2.2.2.1=ta.2.2.2.1.getD ia.2.2.1.toNat 0:=by simp[labS,q]
  rw[e];unfold uK at ea;rw[if_neg (by omega),if_neg (by omega),if_neg (by omega),if_pos q]at ea
  cases hf:lU z.1 (ta.2.2.2.1.getD ia.2.2.1.toNat 0) with
  | none=>rw[hf]at ea;cases ea
  | some u=>
    obtain⟨hu,e2⟩:=(jL I.va.2.2.2).1 hf;rw[hf]at ea;exact⟨u,hu,e2,by simpa using ea⟩
 have hjn:(labS z.2.1 ta ia).2.2.1=17->0<=(labS z.2.1 ta ia).2.2.2.1:=by
  intro g;obtain⟨u,hu,e2,_⟩:=hju g;rw[<-e2];have:=fH (I.va.2.2.1 u hu).2;obtain⟨_,fn,pc,rg,st,ch,ph,su,fa,hd,_⟩:=u;exact(kZ this.1).1
 have va:jW (labS z.2.1 ta ia)=true:=by
  rcases U1 I hl ma pa with v | ⟨v1,v2⟩
  .exact v
  .have:=hjn v1;omega
 rcases U1 I hl mb pb with vb | ⟨vb,vo⟩
 .exact ahK va vb (by show 0<=(labS z.2.1 ta ia).1;omega) (by show 0<=(labS z.2.1 tb ib).1;omega) (U2 _ _ _) (U2 _ _ _) hd
 .have hso:(labS z.2.1 ta ia).2.2.1=16->0<=(labS z.2.1 ta ia).2.2.2.1:=by
   intro g;have hi:=(xK hv).1 g;have hch:=(pW I.ok hvl hsu hat hi (I.r8 ta ma)).1;rw[uN hi];have:=(sV hch).2.2.2.2.1;omega
  have n1:(labS z.2.1 ta ia).2.2.1=16\/(labS z.2.1 ta ia).2.2.1=17->(labS z.2.1 ta ia).2.2.2.1≠(labS z.2.1 tb ib).1:=by
   intro g q;rw[hgb]at q;rcases g with g | g
   .exact(Ry I hl ma pa ea).2 g tb mb q.symm
   .obtain⟨u,hu,e2,e3⟩:=hju g;have:=lX I.va.2.2.2 hu mb (e2.trans q);subst this;have:=(lY I hl hu pb).2.2.1;omega
  refine⟨by rw[hga,hgb];exact hne,λ_ q=>by omega,λq _=>by omega,λ_ q=>by omega,λ_ q=>by omega,λ_ q=>by omega,λ_ q=>by omega,λ_ q=>by omega,n1,λ_=>by omega,λg _=>by have:=hso g;omega,λq _=>by omega⟩
end
end
end Go.Proofs.YtjhenjhcbcalpaaGreatDoor
