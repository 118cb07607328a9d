/- Part 13 of the proof. Conditions: the rows'. -/
import Derived.Test.YtjhenjhcbcalpaaGreatDoorB12
set_option linter.unusedSimpArgs false
set_option linter.unusedVariables false
set_option maxRecDepth 1000000
set_option maxHeartbeats 8000000
namespace Go.Proofs.YtjhenjhcbcalpaaGreatDoor
open Go Go.l9
noncomputable section
variable {l:List TD}{t u:TD}{ms:List ByteArray}{fs:List FD}{m:MD}{id c bound v:Int}{i:ID}{k:Nat}
theorem mP(h:jZ l) (ht:t∈l):nN l t.1=some t:=by
 have hp:l.Pairwise λa b=>a.1 < b.1:=Xg.1 h
 clear h;unfold nN
 induction l with
 | nil=>cases ht
 | cons a l ih=>
   rw[WL]at hp;rcases lU.1 ht with rfl | ht
   .simp
   .have:=hp.1 t ht;rw[List.find?_cons_of_neg (by simp;omega)]
    exact ih ht hp.2
theorem ahv{vs:List VD}{cs:List ByteArray}{ts:List SD}{b:Int}{bf:List BD} (hs:bQ (aC vs ms cs fs ts).1 b=0) (h:VS vs ms cs fs ts b l m bf):VS vs ms cs fs ts 32 l m bf:=by
 have hz:=fG.1 hs;exact⟨h.1,h.2.1,λt ht=>⟨fG.2 ⟨hz.1,by omega,by omega⟩,abo hz.2.2 (h.2.2.1 t ht).2⟩,h.2.2.2⟩
abbrev WC(a b:ED):Bool:=true && a.1 == b.1 && a.2.1 == b.2.1 && a.2.2.1 == b.2.2.1 && a.2.2.2.1 == b.2.2.2.1 && a.2.2.2.2.1 == b.2.2.2.2.1 && a.2.2.2.2.2.1 == b.2.2.2.2.2.1 && a.2.2.2.2.2.2.1 == b.2.2.2.2.2.2.1 && a.2.2.2.2.2.2.2.1 == b.2.2.2.2.2.2.2.1 && a.2.2.2.2.2.2.2.2.1 == b.2.2.2.2.2.2.2.2.1
theorem acG(a:ED):WC a a=true:=by unfold WC;simp
theorem acH{a b:ED}:WC a b=true↔a=b:=by
 constructor
 .intro h;unfold WC at h;simp only[Hy,bY,Az]at h;obtain⟨a1,a2,a3,a4,a5,a6,a7,a8,a9,a10⟩:=a;obtain⟨b1,b2,b3,b4,b5,b6,b7,b8,b9,b10⟩:=b;simp only at h;obtain⟨⟨⟨⟨⟨⟨⟨⟨h1,h2⟩,h3⟩,h4⟩,h5⟩,h6⟩,h7⟩,h8⟩,h9⟩:=h;subst h1 h2 h3 h4 h5 h6 h7 h8 h9;rfl
 .rintro rfl;exact acG _
theorem jY(h:jZ l){x:Int}:nN l x=some t↔t∈l/\t.1=x:=by
 constructor
 .intro q;exact⟨ais q,by simpa using Lu q⟩
 .rintro⟨a,rfl⟩;exact mP h a
theorem oq(h:jZ l){a b:TD} (ha:a∈l) (hb:b∈l) (e:a.1=b.1):a=b:=by
 have h1:=mP h ha;have h2:=mP h hb;rw[e,h2]at h1;exact(D5 h1).symm
theorem Uy(h:jZ l) (ht:t∈l) (u:TD):∃k,l[k]?=some t/\stT l t.1 u=l.set k u:=by
 have q:0<=gy (λx=>decide (x.1=t.1)) l:=by
  refine Gw.1 λq=>?_
  have:=WY.1 (o8 q) t ht;simp at this
 obtain⟨k,v,q1,q2,q3,q4⟩:=nD q;have ek:(fM (gy (λx=>decide (x.1=t.1)) l) 0).toNat=k:=by rw[q1];unfold fM;split<;>omega
 have hv:v=t:=oq h (gZ q2) ht (by simpa using Lu q3)
 exact⟨k,by rw[q2,hv],by unfold stT;rw[ek]⟩
theorem amw(h:jZ l) (ht:t∈l) (hu:u.1=t.1):jZ (stT l t.1 u):=by
 obtain⟨k,e1,e2⟩:=Uy h ht u;rw[e2];exact acA h e1 hu
theorem Uz(h:jZ l) (ht:t∈l) (hu:u.1=t.1) (x:Int):nN (stT l t.1 u) x=if x=t.1 then some u else nN l x:=by
 have hs:=amw h ht hu;obtain⟨k,e1,e2⟩:=Uy h ht u;have gX:=(A8.1 e1).1
 by_cases q:x=t.1
 .rw[if_pos q];exact(jY hs).2 ⟨by rw[e2];exact gZ (by rw[pq gX]),hu.trans q.symm⟩
 .rw[if_neg q];apply Option.ext;intro y;rw[jY hs,jY h,e2];constructor
  .rintro⟨hy,rfl⟩;rcases Jg hy with hy | rfl
   .exact⟨hy,rfl⟩
   .exact absurd hu q
  .rintro⟨hy,rfl⟩;refine⟨?_,rfl⟩;obtain⟨j,hj⟩:=A90.1 hy;have hne:k≠j:=by rintro rfl;rw[e1]at hj;cases hj;exact q rfl
   exact gZ (by rw[lW hne];exact hj)
theorem Af:t∈insL l id u↔t∈l\/t=u:=by
 constructor
 .intro hx;unfold insL at hx;simp only[CX,WM]at hx;rcases hx with(hx | hx) | hx
  .exact .inl ((List.takeWhile_sublist _).subset hx)
  .exact .inr hx
  .exact .inl ((List.dropWhile_sublist _).subset hx)
 .rintro(h | rfl)
  .exact Ad h
  .unfold insL;simp
theorem acI(h:jZ l) (hu:u.1=c) (hn:∀t∈l,t.1≠c) (x:Int):nN (insL l c u) x=if x=c then some u else nN l x:=by
 have hs:=Q5 h hu hn
 by_cases q:x=c
 .rw[if_pos q];exact(jY hs).2 ⟨Af.2 (.inr rfl),hu.trans q.symm⟩
 .rw[if_neg q];apply Option.ext;intro y;rw[jY hs,jY h,Af];constructor
  .rintro⟨hy | rfl,rfl⟩
   .exact⟨hy,rfl⟩
   .exact absurd hu q
  .rintro⟨hy,rfl⟩;exact⟨.inl hy,rfl⟩
theorem acJ:(0<=gy (λu=>decide (u.1=c)) l)↔∃t∈l,t.1=c:=by
 constructor
 .intro q;obtain⟨k,v,q1,q2,q3,q4⟩:=nD q;exact⟨v,gZ q2,by simpa using Lu q3⟩
 .rintro⟨t,ht,e⟩;refine Gw.1 λq=>?_
  have:=WY.1 (o8 q) t ht;simp[e]at this
theorem Gu{vs:List VD}{cs:List ByteArray}{ts:List SD}{z:ZD} (h8:Ht z.1) (hl:z.1.length<=999999) (hM:bK z.2.1) (h:(fH vs ms cs fs ts bound z id).2.2=0):
 ∃t i,nN z.1 id=some t/\fO (aC vs ms cs fs ts).1 ms fs t=(i,true)/\CG z.1 z.2.1 t i=true/\(jG z.2.1 (labS z.2.1 t i)).2=0 /\
   (fH vs ms cs fs ts bound z id).1.2.1=(jG z.2.1 (labS z.2.1 t i)).1/\(fH vs ms cs fs ts bound z id).2.1=labS z.2.1 t i /\
   ((labS z.2.1 t i).2.2.1=16->∀u∈z.1,u.1≠(labS z.2.1 t i).2.2.2.1) /\
   (fH vs ms cs fs ts bound z id).1.1.length=z.1.length+(if(labS z.2.1 t i).2.2.1=16 then 1 else 0) /\
   ∀x,nN (fH vs ms cs fs ts bound z id).1.1 x=if x=id then some (kE (aC vs ms cs fs ts).1 ms fs bound t (lS i (labS z.2.1 t i))).1
     else if(labS z.2.1 t i).2.2.1=16/\x=(labS z.2.1 t i).2.2.2.1 then some (newS (aC vs ms cs fs ts).1 fs bound (labS z.2.1 t i).2.2.2.1 i.2.2.2.2.1 (t.2.2.2.1.getD i.2.2.1.toNat 0)).1 else nN z.1 x:=by
 obtain⟨hs,hV,t,i,hr,he,hf,hd,e⟩:=BN h;have hT:=KZ hV h8 (by omega)
 obtain⟨hm,hid,hlab,hat,hsu,hvl⟩:=BK hV hM hT hr;have hch:i.1=21->(bW t.1 t.2.2.2.2.2.1).2=true:=λq=>(qG hs hvl hsu hat q (h8 t hm)).1
 have hcz:=Ac hs hvl hsu (Aa (m:=z.2.1) (i:=i) hlab.1.2.1 hch);obtain⟨_,c1,c2,_,c3,_⟩:=QI (h8 t hm) hcz;have hft:nN z.1 id=some t:=(jY hV.2.2.2).2 ⟨hm,hid⟩;have hpn:fO (aC vs ms cs fs ts).1 ms fs t=(i,true):=by
  unfold jo at hr;rw[hft]at hr;simp only[GR,true_and]at hr;exact Prod.ext hr.1 hr.2
 rw[e];subst hid;have hn:(labS z.2.1 t i).2.2.1=16->∀u∈z.1,u.1≠(labS z.2.1 t i).2.2.2.1:=λg u hu q=>hd ⟨g,acJ.2 ⟨u,hu,q⟩⟩
 refine⟨t,i,hft,hpn,he,hf,rfl,rfl,hn,?_,λx=>?_⟩
 .show(stT _ _ _).length=_;unfold stT;rw[wK];split
  .rw[Ov]
  .rfl
 show nN (stT _ _ _) x=_
 by_cases g:(labS z.2.1 t i).2.2.1=16
 .have hi:=(zY hlab.2.2.2.1).1 g;obtain⟨s1,s2⟩:=qG hs hvl hsu hat hi (h8 t hm);rw[<-wB (m:=z.2.1) hi]at s2;have n3:=BM s2;rw[if_pos g,Uz (Q5 hV.2.2.2 n3 (hn g)) (Ad hm) c3,acI hV.2.2.2 n3 (hn g)]
  by_cases q:x=t.1
  .rw[if_pos q,if_pos q]
  .rw[if_neg q,if_neg q]
   by_cases q2:x=(labS z.2.1 t i).2.2.2.1
   .rw[if_pos q2,if_pos ⟨g,q2⟩]
   .rw[if_neg q2,if_neg λp=>q2 p.2]
 .rw[if_neg g,Uz hV.2.2.2 hm c3]
  by_cases q:x=t.1
  .rw[if_pos q,if_pos q]
  .rw[if_neg q,if_neg q,if_neg λp=>g p.1]
theorem amx{vs:List VD}{cs:List ByteArray}{ts:List SD}{z:ZD} (hs:bQ (aC vs ms cs fs ts).1 bound=0) (hV:VS vs ms cs fs ts bound z.1 z.2.1 z.2.2.1)
 (hft:nN z.1 id=some t) (hp:fO (aC vs ms cs fs ts).1 ms fs t=(i,true)) (he:CG z.1 z.2.1 t i=true) (hf:(jG z.2.1 (labS z.2.1 t i)).2=0) (hn:(labS z.2.1 t i).2.2.1=16->∀u∈z.1,u.1≠(labS z.2.1 t i).2.2.2.1):
 (fH vs ms cs fs ts bound z id).2.2=0:=by
 have hr:jo (aC vs ms cs fs ts).1 ms fs z.1 id=(t,i,true):=by
  unfold jo;rw[hft];show(t,(fO _ ms fs t).1,(fO _ ms fs t).2)=_;rw[hp]
 rw[DN hs (iT.2 hV) hr,if_neg (by rw[he];simp),if_neg (by omega),if_neg]
 rintro⟨g,q⟩;obtain⟨u,hu,e⟩:=acJ.1 q;exact hn g u hu e
def vsE(e:ED) (vs:List Int):List Int:=if e.2.2.1=5\/e.2.2.1=2 then vs.set e.2.2.2.1.toNat e.2.2.2.2.2.2.2.2.1 else vs
def GK(e:ED) (os:List Int):List Int:=
 if e.2.2.1=9\/(e.2.2.1=11/\e.2.2.2.2.2.2.2.1≠0) then os.set e.2.2.2.1.toNat e.1 else if e.2.2.1=10 then os.set e.2.2.2.1.toNat (-1) else if e.2.2.1=12 then os.set e.2.2.2.2.1.toNat (-1) else os
def qsE(e:ED) (qs:List (List Int)):List (List Int):=
 if e.2.2.1=12 then qs.set e.2.2.2.1.toNat (qs[e.2.2.2.1.toNat]?.getD []++[e.1]) else if e.2.2.1=14 then qs.set e.2.2.2.1.toNat ((qs[e.2.2.2.1.toNat]?.getD []).drop 1) else if e.2.2.1=15 then qs.set e.2.2.2.1.toNat [] else qs
def sgE(e:ED) (qs:List (List Int)) (sg:List Int):List Int:=
 if e.2.2.1=13 then nM (aY sg) [e.1] false else if e.2.2.1=14 then jR sg ((qs[e.2.2.2.1.toNat]?.getD []).take 1) else if e.2.2.1=15 then jR sg (qs[e.2.2.2.1.toNat]?.getD []) else sg
def YT(e:ED) (m:MD):Prop:=
 (e.2.2.1=5\/e.2.2.1=2->(0<=e.2.2.2.1/\e.2.2.2.1 < (m.1.length:Int))/\bU e.2.2.2.2.2.2.2.2.1=true) /\
 (e.2.2.1=9\/(e.2.2.1=11/\e.2.2.2.2.2.2.2.1≠0)->(0<=e.2.2.2.1/\e.2.2.2.1 < (m.2.1.length:Int))/\m.2.1[e.2.2.2.1.toNat]?.getD 0 = -1) /\
 (e.2.2.1=10->(0<=e.2.2.2.1/\e.2.2.2.1 < (m.2.1.length:Int))/\m.2.1[e.2.2.2.1.toNat]?.getD 0=e.1) /\
 (e.2.2.1=12->((0<=e.2.2.2.2.1/\e.2.2.2.2.1 < (m.2.1.length:Int))/\m.2.1[e.2.2.2.2.1.toNat]?.getD 0=e.1)/\(0<=e.2.2.2.1/\e.2.2.2.1 < (m.2.2.1.length:Int))/\kG m e.1=false) /\
 (e.2.2.1=13->dO m.2.2.2.1 e.1=true)/\(e.2.2.1=14\/e.2.2.1=15->0<=e.2.2.2.1/\e.2.2.2.1 < (m.2.2.1.length:Int))
theorem WE(hf:dK m=true){x:Int}:(writeM m x v).2=0↔(0<=x/\x < (m.1.length:Int))/\bU v=true:=by
 unfold writeM
 by_cases g:jB m x m.1.length=0
 .have g':=(dV.1 g).2;rw[if_pos g]
  by_cases q:bU v=true
  .rw[if_pos q];exact⟨λ_=>⟨g',q⟩,λ_=>rfl⟩
  .rw[if_neg q];exact⟨λh=>(by cases h),λh=>absurd h.2 q⟩
 .rw[if_neg g];exact⟨λh=>absurd h g,λh=>absurd (dV.2 ⟨hf,h.1⟩) g⟩
theorem acK{x:Int} (h:(writeM m x v).2=0):(writeM m x v).1=(m.1.set x.toNat v,m.2):=by
 unfold writeM at h ⊢
 split at h
 .rename_i g;rw[if_pos g];split at h
  .rename_i q;rw[if_pos q]
  .cases h
 .rename_i g;exact absurd h g
theorem DU(hf:dK m=true){x f t:Int} (h0:0<=id):(iL m x id f t).2=0↔(0<=x/\x < (m.2.1.length:Int))/\m.2.1[x.toNat]?.getD 0=f:=by
 unfold iL
 by_cases g:jB m x m.2.1.length=0
 .have g':=(dV.1 g).2;rw[if_pos g,if_neg (by omega)]
  by_cases q:m.2.1[x.toNat]?.getD 0=f
  .rw[if_pos q];exact⟨λ_=>⟨g',q⟩,λ_=>rfl⟩
  .rw[if_neg q];exact⟨λh=>(by cases h),λh=>absurd h.2 q⟩
 .rw[if_neg g];exact⟨λh=>absurd h g,λh=>absurd (dV.2 ⟨hf,h.1⟩) g⟩
theorem Gv{x f t:Int} (h:(iL m x id f t).2=0):(iL m x id f t).1=(m.1,m.2.1.set x.toNat t,m.2.2):=by
 unfold iL at h ⊢
 split at h
 .rename_i g;rw[if_pos g];split at h
  .cases h
  .rename_i g2;rw[if_neg g2];split at h
   .rename_i q;rw[if_pos q]
   .cases h
 .rename_i g;exact absurd h g
theorem UA(hf:dK m=true) (h0:0<=id):(rJ m c id).2=0↔(0<=c/\c < (m.2.2.1.length:Int))/\kG m id=false:=by
 unfold rJ
 by_cases g:jB m c m.2.2.1.length=0
 .have g':=(dV.1 g).2;rw[if_pos g,if_neg (by omega)]
  by_cases q:kG m id=true
  .rw[if_pos q];exact⟨λh=>(by cases h),λh=>by rw[h.2]at q;cases q⟩
  .rw[if_neg q];exact⟨λ_=>⟨g',by simpa using q⟩,λ_=>rfl⟩
 .rw[if_neg g];exact⟨λh=>absurd h g,λh=>absurd (dV.2 ⟨hf,h.1⟩) g⟩
theorem amy(h:(rJ m c id).2=0):(rJ m c id).1=(m.1,m.2.1,m.2.2.1.set c.toNat (m.2.2.1[c.toNat]?.getD []++[id]),m.2.2.2):=by
 unfold rJ at h ⊢
 split at h
 .rename_i g;rw[if_pos g];split at h
  .cases h
  .rename_i g2;rw[if_neg g2];split at h
   .cases h
   .rename_i q;rw[if_neg q]
 .rename_i g;exact absurd h g
theorem acL(hf:dK m=true):(kY m id).2=0↔dO m.2.2.2.1 id=true:=by
 unfold kY;rw[if_neg (by rw[hf];simp)]
 by_cases q:dO m.2.2.2.1 id=false
 .rw[if_pos q,q];simp
 .rw[if_neg q];simpa using q
theorem ahw(h:(kY m id).2=0):(kY m id).1=(m.1,m.2.1,m.2.2.1,nM (aY m.2.2.2.1) [id] false,()):=by
 unfold kY at h ⊢
 split at h
 .cases h
 .rename_i g;rw[if_neg g];split at h
  .cases h
  .rename_i g;rw[if_neg g]
theorem La(hf:dK m=true){n:Int}:(rP m c n).2.2=0↔0<=c/\c < (m.2.2.1.length:Int):=by
 unfold rP
 by_cases g:jB m c m.2.2.1.length=0
 .rw[if_pos g];exact⟨λ_=>(dV.1 g).2,λ_=>rfl⟩
 .rw[if_neg g];exact⟨λh=>absurd h g,λh=>absurd (dV.2 ⟨hf,h⟩) g⟩
theorem aio{n:Int} (h:(rP m c n).2.2=0){q:List Int} (hq:m.2.2.1[c.toNat]?.getD []=q):(rP m c n).1=(m.1,m.2.1,m.2.2.1.set c.toNat (q.drop (kC n q.length).toNat),jR m.2.2.2.1 (q.take (kC n q.length).toNat),()):=by
 subst hq;unfold rP at h ⊢
 split at h
 .rename_i g;rw[if_pos g]
 .rename_i g;exact absurd h g
theorem ahx{qs:List (List Int)}{c:Nat}{q:List Int} (h:qs[c]?.getD []=q):(kC (kZ qs) q.length).toNat=q.length:=by
 have:(q.length:Int)<=kZ qs:=by
  cases hc:qs[c]? with
  | none=>rw[hc]at h;subst h;exact(DJ qs 0).1
  | some r=>rw[hc]at h;subst h;exact(DJ qs 0).2 r (gZ hc)
 unfold kC;split<;>omega
theorem acM(q:List Int):q.drop (kC 1 q.length).toNat=q.drop 1/\q.take (kC 1 q.length).toNat=q.take 1:=by
 cases q with
 | nil=>exact⟨by simp,by simp⟩
 | cons a q=>
   have:(kC 1 (a :: q).length).toNat=1:=by unfold kC;simp only[sV];split<;>omega
   rw[this];exact⟨rfl,rfl⟩
theorem UC{e:ED} (hf:dK m=true) (h0:0<=e.1):(jG m e).2=0↔YT e m:=by
 unfold jG YT
 by_cases k1:e.2.2.1=5\/e.2.2.1=2
 .rw[if_pos k1,WE hf];exact⟨λh=>⟨λ_=>h,λq=>by omega,λq=>by omega,λq=>by omega,λq=>by omega,λq=>by omega⟩,λh=>h.1 k1⟩
 rw[if_neg k1]
 by_cases k2:e.2.2.1=9\/(e.2.2.1=11/\e.2.2.2.2.2.2.2.1≠0)
 .rw[if_pos k2,DU hf h0];exact⟨λh=>⟨λq=>by omega,λ_=>h,λq=>by omega,λq=>by omega,λq=>by omega,λq=>by omega⟩,λh=>h.2.1 k2⟩
 rw[if_neg k2]
 by_cases k3:e.2.2.1=10
 .rw[if_pos k3,DU hf h0];exact⟨λh=>⟨λq=>by omega,λq=>by omega,λ_=>h,λq=>by omega,λq=>by omega,λq=>by omega⟩,λh=>h.2.2.1 k3⟩
 rw[if_neg k3]
 by_cases k4:e.2.2.1=12
 .rw[if_pos k4];constructor
  .intro h;refine⟨λq=>by omega,λq=>by omega,λq=>by omega,λ_=>?_,λq=>by omega,λq=>by omega⟩
   by_cases q:(iL m e.2.2.2.2.1 e.1 e.1 (-1)).2=0
   .rw[if_pos q]at h;have a:=Gq hf (by omega) q
    have b:=(UA a.1 h0).1 h;rw[Gv q]at b;exact⟨(DU hf h0).1 q,b.1,b.2⟩
   .rw[if_neg q]at h;exact absurd h q
  .intro h;obtain⟨a,b,c⟩:=h.2.2.2.1 k4;have q:=(DU hf h0 (t:=-1)).2 a;rw[if_pos q,UA (Gq hf (by omega) q).1 h0,Gv q]
   exact⟨b,c⟩
 rw[if_neg k4]
 by_cases k5:e.2.2.1=13
 .rw[if_pos k5,acL hf];exact⟨λh=>⟨λq=>by omega,λq=>by omega,λq=>by omega,λq=>by omega,λ_=>h,λq=>by omega⟩,λh=>h.2.2.2.2.1 k5⟩
 rw[if_neg k5]
 by_cases k6:e.2.2.1=14
 .rw[if_pos k6];exact⟨λh=>⟨λq=>by omega,λq=>by omega,λq=>by omega,λq=>by omega,λq=>by omega,λ_=>(La hf).1 h⟩,λh=>(La hf).2 (h.2.2.2.2.2 (.inl k6))⟩
 rw[if_neg k6]
 by_cases k7:e.2.2.1=15
 .rw[if_pos k7];exact⟨λh=>⟨λq=>by omega,λq=>by omega,λq=>by omega,λq=>by omega,λq=>by omega,λ_=>(La hf).1 h⟩,λh=>(La hf).2 (h.2.2.2.2.2 (.inr k7))⟩
 rw[if_neg k7];exact⟨λ_=>⟨λq=>by omega,λq=>by omega,λq=>by omega,λq=>by omega,λq=>by omega,λq=>by omega⟩,λ_=>rfl⟩
theorem WG{e:ED} (hf:dK m=true) (h0:0<=e.1) (h:(jG m e).2=0):(jG m e).1=(vsE e m.1,GK e m.2.1,qsE e m.2.2.1,sgE e m.2.2.1 m.2.2.2.1,()):=by
 obtain⟨mv,mo,mq,mg,⟨⟩⟩:=m;unfold jG at h ⊢
 unfold vsE GK qsE sgE
 by_cases k1:(e.2.2.1=5\/e.2.2.1=2)
 .have k2:¬(e.2.2.1=9\/(e.2.2.1=11/\e.2.2.2.2.2.2.2.1≠0)):=by omega
  have k3:¬e.2.2.1=10:=by omega
  have k4:¬e.2.2.1=12:=by omega
  have k5:¬e.2.2.1=13:=by omega
  have k6:¬e.2.2.1=14:=by omega
  have k7:¬e.2.2.1=15:=by omega
  simp only[if_pos k1,if_neg k2,if_neg k3,if_neg k4,if_neg k5,if_neg k6,if_neg k7]at h ⊢
  rw[acK h]
 by_cases k2:(e.2.2.1=9\/(e.2.2.1=11/\e.2.2.2.2.2.2.2.1≠0))
 .have k3:¬e.2.2.1=10:=by omega
  have k4:¬e.2.2.1=12:=by omega
  have k5:¬e.2.2.1=13:=by omega
  have k6:¬e.2.2.1=14:=by omega
  have k7:¬e.2.2.1=15:=by omega
  simp only[if_neg k1,if_pos k2,if_neg k3,if_neg k4,if_neg k5,if_neg k6,if_neg k7]at h ⊢
  rw[Gv h]
 by_cases k3:e.2.2.1=10
 .have k4:¬e.2.2.1=12:=by omega
  have k5:¬e.2.2.1=13:=by omega
  have k6:¬e.2.2.1=14:=by omega
  have k7:¬e.2.2.1=15:=by omega
  simp only[if_neg k1,if_neg k2,if_pos k3,if_neg k4,if_neg k5,if_neg k6,if_neg k7]at h ⊢
  rw[Gv h]
 by_cases k4:e.2.2.1=12
 .have k5:¬e.2.2.1=13:=by omega
  have k6:¬e.2.2.1=14:=by omega
  have k7:¬e.2.2.1=15:=by omega
  simp only[if_neg k1,if_neg k2,if_neg k3,if_pos k4,if_neg k5,if_neg k6,if_neg k7]at h ⊢
  by_cases q:(iL (mv,mo,mq,mg,()) e.2.2.2.2.1 e.1 e.1 (-1)).2=0
  .rw[if_pos q]at h ⊢
   rw[amy h,Gv q]
  .rw[if_neg q]at h;exact absurd h q
 by_cases k5:e.2.2.1=13
 .have k6:¬e.2.2.1=14:=by omega
  have k7:¬e.2.2.1=15:=by omega
  simp only[if_neg k1,if_neg k2,if_neg k3,if_neg k4,if_pos k5,if_neg k6,if_neg k7]at h ⊢
  rw[ahw h]
 by_cases k6:e.2.2.1=14
 .have k7:¬e.2.2.1=15:=by omega
  simp only[if_neg k1,if_neg k2,if_neg k3,if_neg k4,if_neg k5,if_pos k6,if_neg k7]at h ⊢
  rw[aio h rfl,(acM _).1,(acM _).2]
 by_cases k7:e.2.2.1=15
 .skip
  simp only[if_neg k1,if_neg k2,if_neg k3,if_neg k4,if_neg k5,if_neg k6,if_pos k7]at h ⊢
  have e1:=ahx (qs:=mq) (c:=e.2.2.2.1.toNat) rfl;rw[aio h rfl];show(mv,mo,mq.set _ (List.drop (kC (kZ mq) _).toNat _),jR mg (List.take (kC (kZ mq) _).toNat _),())=_;rw[e1,List.drop_length,UW]
 simp only[if_neg k1,if_neg k2,if_neg k3,if_neg k4,if_neg k5,if_neg k6,if_neg k7]
theorem top_more{rest:ID->TD} (hr:∀i,(rest i).2.2.2.2.2.1=t.2.2.2.2.2.1/\(rest i).2.2.2.2.2.2.1=t.2.2.2.2.2.2.1):
 (topS fs bound t rest).2.2.2.2.2.1=t.2.2.2.2.2.1/\(topS fs bound t rest).2.2.2.2.2.2.1=t.2.2.2.2.2.2.1:=by
 obtain⟨id,fn,pc,rg,st,ch,ph,su,fa,hd,u⟩:=t;unfold topS;simp only;split
 .exact⟨rfl,rfl⟩
 split
 .repeat' split
  all_goals exact⟨rfl,rfl⟩
 .exact hr _
theorem acN(fs:List FD) (bound:Int):∀(k:Nat) (t:TD),(eU fs bound k t).2.2.2.2.2.1=t.2.2.2.2.2.1/\(eU fs bound k t).2.2.2.2.2.2.1=t.2.2.2.2.2.2.1:=by
 intro k
 induction k with
 | zero=>
   intro t;rw[eU];refine top_more λi=>?_
   obtain⟨id,fn,pc,rg,st,ch,ph,su,fa,hd,u⟩:=t;exact⟨rfl,rfl⟩
 | succ k ih=>
   intro t;rw[eU];refine top_more λi=>?_
   have hk:=zJ t i;have:=ih (fQ t i).1;split
   .exact⟨this.1.trans hk.2.2.2.1,this.2.trans hk.2.2.2.2.1⟩
   .exact⟨hk.2.2.2.1,hk.2.2.2.2.1⟩
theorem acO(hi:lZ fs t.2.1 t.2.2.1=some i) (hv:je i.1=true) (k:Nat):(eU fs bound k t).2.1=t.2.1/\(eU fs bound k t).2.2.1=t.2.2.1:=by
 obtain⟨id,fn,pc,rg,st,ch,ph,su,fa,hd,u⟩:=t;have hi:lZ fs fn pc=some i:=hi;rw[TK hi hv]
 repeat' split
 all_goals exact⟨rfl,rfl⟩
theorem amA{e r:Int} (hs:bQ e bound=0) (hV:rO ms fs bound t) (h1:t.2.2.2.2.2.2.2.1=1) (hi:lZ fs t.2.1 t.2.2.1=some i) (hr:bU r=true):kE e ms fs bound t r=(eU fs bound 256 (gu t i r),0):=by
 unfold kE;rw[if_neg (by omega),if_neg (by simpa using hV),if_neg (by omega),if_neg (by rw[hr];simp)]
 have ea:(atR fs t.2.1 t.2.2.1).1=i:=by unfold atR;rw[hi]
 rw[ea]
theorem Ag:∀{l k:List Int},l.Nodup->(∀x∈l,x∈k)->l.length<=k.length
 | [],_,_,_=>Ji _
 | a :: l,k,h,g=>by
   rw[OU]at h;have ha:=g a (List.mem_cons_self ..);have:=Ag (l:=l) (k:=k.erase a) h.2 λx hx=>(List.mem_erase_of_ne (by rintro rfl;exact h.1 hx)).2 (g x (List.mem_cons_of_mem _ hx))
   rw[List.length_erase_of_mem ha]at this;have:0 < k.length:=List.length_pos_of_mem ha;simp only[sV];omega
structure Inv (vs:List VD) (ms cs:List ByteArray) (fs:List FD) (ts:List SD) (bound:Int) (z:ZD):Prop where
 ok:bQ (aC vs ms cs fs ts).1 bound=0
 va:VS vs ms cs fs ts bound z.1 z.2.1 z.2.2.1
 r8:Ht z.1
 held:∀t∈z.1,∀x∈t.2.2.2.2.2.2.2.2.2.1,z.2.1.2.1[x.toNat]?=some t.1
 que:∀(c:Nat) q,z.2.1.2.2.1[c]?=some q->∀id∈q,∃t∈z.1,t.1=id/\t.2.2.2.2.2.2.1=1/\∃i,lZ fs t.2.1 t.2.2.1=some i/\i.1=18/\i.2.2.2.2.1.toNat=c
 sig:∀id∈z.2.1.2.2.2.1,∃t∈z.1,t.1=id/\t.2.2.2.2.2.2.1=1
 par:∀t∈z.1,8<=t.1->∃u∈z.1,8 * (u.1+1)<=t.1/\t.1 < 8 * (u.1+1)+u.2.2.2.2.2.1
section
variable {vs:List VD}{ms cs:List ByteArray}{fs:List FD}{ts:List SD}{bound:Int}{z:ZD}
theorem Inv.fm(I:Inv vs ms cs fs ts bound z):dK z.2.1=true:=(wu I.va.1).2.1
theorem Inv.few(I:Inv vs ms cs fs ts bound z) (hl:z.1.length<=60):qF z.2.1=true:=by
 have hf:=I.fm;have hs:=I.sig;have hq:=I.que;obtain⟨l,⟨mv,mo,mq,mg,⟨⟩⟩,bf,⟨⟩⟩:=z;obtain⟨q1,q2,q3,q4,q5,q6,q7,q8⟩:mv.length<=8/\mo.length<=4/\mq.length<=4/\SS mg/\(∀v∈mv,bU v=true)/\(∀o∈mo,-1<=o)/\(∀x∈mg++mq.flatten,0<=x)/\(mg++mq.flatten).Nodup:=dW.1 hf;have hl:l.length<=60:=hl;have a1:mg.length<=(l.map (·.1)).length:=Ag (List.nodup_append.1 q8).1 λx hx=>by
  obtain⟨t,ht,e,_⟩:=hs x hx;exact Jl.2 ⟨t,ht,e⟩
 have a2:∀q∈mq,q.length<=(l.map (·.1)).length:=by
  intro q hm;obtain⟨c,hc⟩:=A90.1 hm;refine Ag ((List.sublist_flatten_of_mem hm).nodup (List.nodup_append.1 q8).2.1) λx hx=>?_
  obtain⟨t,ht,e,_⟩:=hq c q hc x hx;exact Jl.2 ⟨t,ht,e⟩
 rw[WR]at a1 a2;unfold qF;simp only[bY,dN,Q9];exact⟨⟨⟨⟨by omega,by omega⟩,by omega⟩,by omega⟩,λq hq=>by have:=a2 q hq;omega⟩
theorem Inv.bm(I:Inv vs ms cs fs ts bound z) (hl:z.1.length<=60):bK z.2.1:=wz (I.few hl)
theorem Inv.bt(I:Inv vs ms cs fs ts bound z) (hl:z.1.length<=60):iF z.1:=KZ I.va I.r8 (by omega)
theorem UD(hs:bQ (aC vs ms cs fs ts).1 bound=0):Inv vs ms cs fs ts bound (mM (aC vs ms cs fs ts).1 fs bound ts,(pF vs ms cs fs ts).1,[],()):=by
 have hV:=acz hs;have hc:=(fG.1 hs).1;have en:(pF vs ms cs fs ts).1=(vs.map (·.2.1),List.replicate ms.length (-1),List.replicate cs.length [],[],()):=by unfold pF;rw[if_pos hc]
 refine⟨hs,hV.1,hV.2,λt ht x hx=>?_,λc q hq id hid=>?_,λid hid=>?_,λt ht h8=>?_⟩
 .exfalso;obtain⟨k,hk⟩:=A90.1 ht;obtain⟨d,hd,rfl⟩:=Ae hk;have h0:=BL hs hd;unfold newS at h0 hx;split at h0
  .rename_i q;exact q h0
  rename_i q1;rw[if_neg q1]at hx;split at h0
  .cases h0
  rename_i q2;rw[if_neg q2]at hx;split at h0
  .cases h0
  rename_i q3;rw[if_neg q3]at hx;split at h0
  .cases h0
  rename_i q4;rw[if_neg q4]at hx;rw[(uU _ _ _ _).2.2.2]at hx;cases hx
 .exfalso;have hq:(pF vs ms cs fs ts).1.2.2.1[c]?=some q:=hq;rw[en]at hq;have:=gZ hq;rw[List.eq_of_mem_replicate this]at hid;cases hid
 .exfalso;have hid:id∈(pF vs ms cs fs ts).1.2.2.2.1:=hid;rw[en]at hid;cases hid
 .exfalso;obtain⟨k,hk⟩:=A90.1 ht;obtain⟨d,hd,rfl⟩:=Ae hk;rw[BM (BL hs hd)]at h8;have:=(A8.1 hd).1;have:=(DR (lQ hc).2.2).1;omega
theorem DX(I:Inv vs ms cs fs ts bound z) (hl:z.1.length<=60) (hm:t∈z.1) (hp:fO (aC vs ms cs fs ts).1 ms fs t=(i,true)):
 Gm z.2.1 t i/\lZ fs t.2.1 t.2.2.1=some i/\t.2.2.2.2.2.2.2.1=1/\rO ms fs bound t/\0<=t.1:=by
 have hft:=mP I.va.2.2.2 hm;have hr:jo (aC vs ms cs fs ts).1 ms fs z.1 t.1=(t,i,true):=by
  unfold jo;rw[hft];show(t,(fO _ ms fs t).1,(fO _ ms fs t).2)=_;rw[hp]
 obtain⟨_,_,a,b,c,d⟩:=BK I.va (I.bm hl) (I.bt hl) hr;refine⟨a,b,c,d,?_⟩;have:=gY d;obtain⟨x,fn,pc,rg,st,ch,ph,su,fa,hd,u⟩:=t;exact(jX this.1).1
theorem acP(hV:rO ms fs bound t) (hi:lZ fs t.2.1 t.2.2.1=some i) (h1:t.2.2.2.2.2.2.1≠0):i.1=18/\(t.2.2.2.2.2.2.1=1\/t.2.2.2.2.2.2.1=2):=by
 have hf:=gY hV;obtain⟨id,fn,pc,rg,st,ch,ph,su,fa,hd,u⟩:=t;obtain⟨f1,f2,f3,f4,f5,f6,f7,f8,f9⟩:=hf;have h1:ph≠0:=h1;rcases f9 with q | ⟨q,i',q1,q2,_⟩
 .exact absurd q h1
 .have hi:lZ fs fn pc=some i:=hi;rw[hi]at q1;cases q1;exact⟨q2,q⟩
theorem Lc(h:i.1=18):labS m t i=if t.2.2.2.2.2.2.1=0 then(t.1,t.2.2.2.2.1,12,i.2.2.2.2.1,i.2.2.2.2.2.1,-1,0,0,0,())
 else if t.2.2.2.2.2.2.1=1 then(t.1,t.2.2.2.2.1,13,i.2.2.2.2.1,-1,-1,0,0,0,())
 else(t.1,t.2.2.2.2.1,9,i.2.2.2.2.2.1,-1,-1,0,0,0,()):=by
 unfold labS;simp[h]
theorem Ld(h:i.1=12):labS m t i=if m.1[i.2.2.2.2.1.toNat]?.getD 0=t.2.2.2.1.getD i.2.2.1.toNat 0 then(t.1,t.2.2.2.2.1,5,i.2.2.2.2.1,-1,-1,i.2.2.2.2.2.2.2.1,m.1[i.2.2.2.2.1.toNat]?.getD 0,t.2.2.2.1.getD i.2.2.2.1.toNat 0,())
 else(t.1,t.2.2.2.2.1,6,i.2.2.2.2.1,-1,-1,i.2.2.2.2.2.2.2.1,m.1[i.2.2.2.2.1.toNat]?.getD 0,0,()):=by
 unfold labS;rw[if_neg (by omega),if_neg (by omega),if_neg (by omega),if_neg (by omega),if_neg (by omega),if_pos h]
theorem amB(I:Inv vs ms cs fs ts bound z) (hl:z.1.length<=60) (hm:t∈z.1) (hp:fO (aC vs ms cs fs ts).1 ms fs t=(i,true)) (he:CG z.1 z.2.1 t i=true):
 YT (labS z.2.1 t i) z.2.1/\((labS z.2.1 t i).2.2.1=16->∀u∈z.1,u.1≠(labS z.2.1 t i).2.2.2.1):=by
 obtain⟨⟨⟨_,hfm,_,_,h8⟩,hb,hc,hv,hvar,hcnd,hord⟩,hat,hsu,hvl,h0⟩:=DX I hl hm hp;obtain⟨f0,s0,i',ha',vi,oi⟩:=BF hvl hsu;rw[hat]at ha';cases ha';have hrg:∀b:Int,0<=b/\b < 8->bU (t.2.2.2.1.getD b.toNat 0)=true:=by
  intro b hb;have:=gY hvl;obtain⟨x,fn,pc,rg,st,ch,ph,su,fa,hd,u⟩:=t;exact NT this.2.2.2.1 hb
 have hhd:∀x,dO t.2.2.2.2.2.2.2.2.2.1 x=true->(0<=x/\x < (z.2.1.2.1.length:Int))/\z.2.1.2.1[x.toNat]?.getD 0=t.1:=by
  intro x hx;have hx:=jO.1 hx;have h2:=I.held t hm x hx;have gX:=(A8.1 h2).1;have h3:0<=x:=by
   have:=gY hvl;obtain⟨_,fn,pc,rg,st,ch,ph,su,fa,hd,u⟩:=t;exact(this.2.2.2.2.2.2.2.1 x hx).1
  exact⟨⟨h3,by omega⟩,by rw[h2];rfl⟩
 have hfr:∀x,qm z.2.1 x=true->(0<=x/\x < (z.2.1.2.1.length:Int))/\z.2.1.2.1[x.toNat]?.getD 0 = -1:=by
  intro x hx;unfold qm at hx;simp only[bY,dN]at hx;exact⟨(dV.1 hx.1).2,hx.2⟩
 have hph:i.1≠18->t.2.2.2.2.2.2.1=0:=λq=>Gw.1 λp=>q (acP hvl hat p).1
 have hop:i.1=8\/i.1=9\/i.1=10\/i.1=11\/i.1=12\/i.1=13\/i.1=14\/i.1=15\/i.1=16\/i.1=17\/i.1=18\/i.1=19\/i.1=20\/i.1=21\/i.1=22:=by omega
 unfold YT;rcases hop with q | q | q | q | q | q | q | q | q | q | q | q | q | q | q
 .simp[labS,q]
 .have:=hvar (by omega);simp[labS,q];exact⟨this,hrg _ hb⟩
 .have:=hvar (by omega);simp[labS,q];exact⟨this,hrg _ hb⟩
 .have:=hvar (by omega);simp[labS,q];exact⟨this,Tv _ _ _⟩
 .have:=hvar (by omega)
  rw[Ld q];split
  .simp;exact⟨this,hrg _ hc⟩
  .simp
 .simp[labS,q]
 .simp[labS,q]
 .have:=hfr i.2.2.2.2.1 (by simpa[CG,q]using he)
  simp[labS,q];exact this
 .have ho:dO t.2.2.2.2.2.2.2.2.2.1 i.2.2.2.2.1=true:=by
   unfold jm at oi;rw[if_neg (by rw[hph (by omega)];simp),if_neg (by omega),if_pos q]at oi
   split at oi
   .assumption
   .cases oi
  have:=hhd _ ho;simp[labS,q];exact this
 .simp[labS,q,wG];intro g;exact hfr _ g
 .rw[Lc q]
  by_cases p0:t.2.2.2.2.2.2.1=0
  .rw[if_pos p0];have ho:dO t.2.2.2.2.2.2.2.2.2.1 i.2.2.2.2.2.1=true:=by
    unfold jm at oi;rw[if_neg (by rw[p0];simp),if_pos q]at oi
    split at oi
    .assumption
    .cases oi
   have h1:=hhd _ ho;have h2:=hcnd (by omega)
   have h3:kG z.2.1 t.1=false:=by
    unfold kG;rw[l7];constructor
    .rw[A97];intro g;rw[Ls]at g;obtain⟨r,hr,g⟩:=g;obtain⟨c,hc⟩:=A90.1 hr;obtain⟨u,hu,e,hu1,_⟩:=I.que c r hc t.1 (jO.1 g);have:=oq I.va.2.2.2 hu hm e;subst this;omega
    .rw[A97];intro g;obtain⟨u,hu,e,hu1⟩:=I.sig t.1 (jO.1 g);have:=oq I.va.2.2.2 hu hm e;subst this;omega
   simp;exact⟨h1,h2,h3⟩
  .rw[if_neg p0]
   by_cases p1:t.2.2.2.2.2.2.1=1
   .rw[if_pos p1];simp;simpa[CG,q,p1]using he
   .rw[if_neg p1];have p2:t.2.2.2.2.2.2.1=2:=by have:=(acP hvl hat p0).2;omega
    have:=hfr i.2.2.2.2.2.1 (by simpa[CG,q,p2]using he)
    simp;exact this
 .have:=hcnd (by omega);simp[labS,q];exact this
 .have:=hcnd (by omega);simp[labS,q];exact this
 .refine⟨by simp[labS,q],λ_ u hu e=>?_⟩
  rw[wB q]at e;have hc:=(qG I.ok hvl hsu hat q (I.r8 t hm)).1;obtain⟨c1,c2,_,_,c5,_⟩:=zO hc;obtain⟨p,hp,p1,p2⟩:=I.par u hu (by omega)
  have hch:p.2.2.2.2.2.1<=7:=by
   have:=gY (I.va.2.2.1 p hp).2;obtain⟨_,fn,pc,rg,st,ch,ph,su,fa,hd,u⟩:=p;exact this.2.2.2.2.2.1.2.1
  have ep:p.1=t.1:=by omega
  have:=oq I.va.2.2.2 hp hm ep;subst this;omega
 .simp[labS,q]
end
theorem Le{l:List Int}{n:Int} (h:SS l):l.filter (λx=>decide (x≠n))=nM (aY l) [n] false:=FW h
theorem acQ{e:ED} (h:YT e m) (hv:m.2.1[k]?=some v) (h1:v≠-1) (h2:v≠e.1):(GK e m.2.1)[k]?=some v:=by
 unfold GK;have key:∀(x w:Int),(m.2.1[x.toNat]?.getD 0≠v)->(m.2.1.set x.toNat w)[k]?=some v:=by
  intro x w g;rw[lW (by rintro rfl;rw[hv]at g;exact g rfl)];exact hv
 obtain⟨_,o1,o2,o3,_⟩:=h;split
 .rename_i g;exact key _ _ (by rw[(o1 g).2];exact λp=>h1 p.symm)
 split
 .rename_i g;exact key _ _ (by rw[(o2 g).2];exact λp=>h2 p.symm)
 split
 .rename_i g;exact key _ _ (by rw[(o3 g).1.2];exact λp=>h2 p.symm)
 .exact hv
theorem BO{l:List Int}{j:Nat}{a:Int} (h:l[j]?=some a\/(j=k/\k < l.length)):(l.set k a)[j]?=some a:=by
 by_cases q:k=j
 .subst q;rcases h with h | h
  .rw[pq (A8.1 h).1]
  .rw[pq h.2]
 .rw[lW q];rcases h with h | h
  .exact h
  .exact absurd h.1.symm q
theorem UE{l:List Int}{j:Nat}{a:Int} (h:l[j]?=some v) (q:j≠k):(l.set k a)[j]?=some v:=by
 rw[lW (λp=>q p.symm)];exact h
theorem acR(hv:8<=i.1/\i.1<=22) (hok:YT (labS m t i) m) (hh:∀x∈t.2.2.2.2.2.2.2.2.2.1,m.2.1[x.toNat]?=some t.1/\0<=x) (hph:t.2.2.2.2.2.2.1=0\/t.2.2.2.2.2.2.1=1\/t.2.2.2.2.2.2.1=2):
 ∀x∈(gu t i (lS i (labS m t i))).2.2.2.2.2.2.2.2.2.1,(GK (labS m t i) m.2.1)[x.toNat]?=some t.1:=by
 intro x hx;have hop:i.1=8\/i.1=9\/i.1=10\/i.1=11\/i.1=12\/i.1=13\/i.1=14\/i.1=15\/i.1=16\/i.1=17\/i.1=18\/i.1=19\/i.1=20\/i.1=21\/i.1=22:=by omega
 have hno:¬(i.1=15\/i.1=16\/i.1=17\/i.1=18)->(gu t i (lS i (labS m t i))).2.2.2.2.2.2.2.2.2.1=t.2.2.2.2.2.2.2.2.2.1:=by
  intro q;obtain⟨id,fn,pc,rg,st,ch,ph,su,fa,hd,u⟩:=t;unfold gu;simp only;rw[if_neg (by omega)]
  show(if _ then _ else if _ then _ else hd)=hd
  rw[if_neg (by omega),if_neg (by omega)]
 have aql:¬((labS m t i).2.2.1=9\/(labS m t i).2.2.1=10\/(labS m t i).2.2.1=11\/(labS m t i).2.2.1=12)->GK (labS m t i) m.2.1=m.2.1:=by
  intro q;unfold GK;rw[if_neg (by omega),if_neg (by omega),if_neg (by omega)]
 by_cases hA:i.1=15\/i.1=16\/i.1=17\/i.1=18
 .obtain⟨ok1,ok2,ok3,ok4,_⟩:=hok;rcases hA with q | q | q | q
  .have el:labS m t i=(t.1,t.2.2.2.2.1,9,i.2.2.2.2.1,-1,-1,0,0,0,()):=by simp[labS,q]
   rw[el]at ok2 hx ⊢;have o:=ok2 (.inl rfl);have hx:x∈yc t.2.2.2.2.2.2.2.2.2.1 i.2.2.2.2.1:=by
    obtain⟨id,fn,pc,rg,st,ch,ph,su,fa,hd,u⟩:=t;simpa[gu,q]using hx
   have e2:GK (t.1,t.2.2.2.2.1,9,i.2.2.2.2.1,-1,-1,0,0,0,()) m.2.1=m.2.1.set i.2.2.2.2.1.toNat t.1:=by simp[GK]
   rw[e2];rcases DC.1 hx with hx | rfl
   .exact BO (.inl (hh x hx).1)
   .exact BO (.inr ⟨rfl,by have:=o.1;simp only at this;omega⟩)
  .have el:labS m t i=(t.1,t.2.2.2.2.1,10,i.2.2.2.2.1,-1,-1,0,0,0,()):=by simp[labS,q]
   rw[el]at ok3 hx ⊢;have o:=ok3 rfl;have hx:x∈zK t.2.2.2.2.2.2.2.2.2.1 i.2.2.2.2.1:=by
    obtain⟨id,fn,pc,rg,st,ch,ph,su,fa,hd,u⟩:=t;simpa[gu,q]using hx
   obtain⟨hx,hne⟩:=zL.1 hx;have:=hh x hx;have e2:GK (t.1,t.2.2.2.2.1,10,i.2.2.2.2.1,-1,-1,0,0,0,()) m.2.1=m.2.1.set i.2.2.2.2.1.toNat (-1):=by simp[GK]
   rw[e2];exact UE this.1 (by have:=o.1;simp only at this;omega)
  .have el:labS m t i=(t.1,t.2.2.2.2.1,11,i.2.2.2.2.1,-1,-1,0,wG (qm m i.2.2.2.2.1),0,()):=by simp[labS,q]
   rw[el]at ok2 hx ⊢;cases hfr:qm m i.2.2.2.2.1 with
   | true=>
     rw[hfr]at ok2 hx;have o:=ok2 (.inr ⟨rfl,by simp[wG]⟩)
     have hx:x∈yc t.2.2.2.2.2.2.2.2.2.1 i.2.2.2.2.1:=by
      obtain⟨id,fn,pc,rg,st,ch,ph,su,fa,hd,u⟩:=t;simpa[gu,q,lS,wG]using hx
     have e2:GK (t.1,t.2.2.2.2.1,11,i.2.2.2.2.1,-1,-1,0,wG true,0,()) m.2.1=m.2.1.set i.2.2.2.2.1.toNat t.1:=by simp[GK,wG]
     rw[e2];rcases DC.1 hx with hx | rfl
     .exact BO (.inl (hh x hx).1)
     .exact BO (.inr ⟨rfl,by have:=o.1;simp only at this;omega⟩)
   | false=>
     rw[hfr]at hx;have hx:x∈t.2.2.2.2.2.2.2.2.2.1:=by
      obtain⟨id,fn,pc,rg,st,ch,ph,su,fa,hd,u⟩:=t;simpa[gu,q,lS,wG]using hx
     have e2:GK (t.1,t.2.2.2.2.1,11,i.2.2.2.2.1,-1,-1,0,wG false,0,()) m.2.1=m.2.1:=by simp[GK,wG]
     rw[e2];exact(hh x hx).1
  .have el:=Lc (m:=m) (t:=t) q;rcases hph with p | p | p
   .rw[if_pos p]at el;rw[el]at ok4 hx ⊢;have o:=ok4 rfl;have hx:x∈zK t.2.2.2.2.2.2.2.2.2.1 i.2.2.2.2.2.1:=by
     obtain⟨id,fn,pc,rg,st,ch,ph,su,fa,hd,u⟩:=t;have p:ph=0:=p;simpa[gu,q,p]using hx
    obtain⟨hx,hne⟩:=zL.1 hx;have:=hh x hx;have e2:GK (t.1,t.2.2.2.2.1,12,i.2.2.2.2.1,i.2.2.2.2.2.1,-1,0,0,0,()) m.2.1=m.2.1.set i.2.2.2.2.2.1.toNat (-1):=by simp[GK]
    rw[e2];exact UE this.1 (by have:=o.1.1;simp only at this;omega)
   .rw[if_neg (by omega),if_pos p]at el
    rw[el]at hx ⊢;have hx:x∈t.2.2.2.2.2.2.2.2.2.1:=by
     obtain⟨id,fn,pc,rg,st,ch,ph,su,fa,hd,u⟩:=t;have p:ph=1:=p;simpa[gu,q,p]using hx
    have e2:GK (t.1,t.2.2.2.2.1,13,i.2.2.2.2.1,-1,-1,0,0,0,()) m.2.1=m.2.1:=by simp[GK]
    rw[e2];exact(hh x hx).1
   .rw[if_neg (by omega),if_neg (by omega)]at el
    rw[el]at ok2 hx ⊢;have o:=ok2 (.inl rfl);have hx:x∈yc t.2.2.2.2.2.2.2.2.2.1 i.2.2.2.2.2.1:=by
     obtain⟨id,fn,pc,rg,st,ch,ph,su,fa,hd,u⟩:=t;have p:ph=2:=p;simpa[gu,q,p]using hx
    have e2:GK (t.1,t.2.2.2.2.1,9,i.2.2.2.2.2.1,-1,-1,0,0,0,()) m.2.1=m.2.1.set i.2.2.2.2.2.1.toNat t.1:=by simp[GK]
    rw[e2];rcases DC.1 hx with hx | rfl
    .exact BO (.inl (hh x hx).1)
    .exact BO (.inr ⟨rfl,by have:=o.1;simp only at this;omega⟩)
 .rw[hno hA]at hx;rw[aql]
  .exact(hh x hx).1
  .rcases hop with q | q | q | q | q | q | q | q | q | q | q | q | q | q | q
   all_goals first | omega | (simp[labS,q];done) | skip
   rw[Ld q];split<;>simp
theorem ahy(hv:8<=i.1/\i.1<=22) (hph:t.2.2.2.2.2.2.1=0\/t.2.2.2.2.2.2.1=1\/t.2.2.2.2.2.2.1=2):
 ((labS m t i).2.2.1=12->i.1=18/\t.2.2.2.2.2.2.1=0/\(labS m t i).2.2.2.1=i.2.2.2.2.1)/\(i.1=18->t.2.2.2.2.2.2.1=1->(labS m t i).2.2.1=13):=by
 refine⟨λh=>?_,λh1 h2=>by rw[Lc h1,if_neg (by omega),if_pos h2]⟩
 have hop:i.1=8\/i.1=9\/i.1=10\/i.1=11\/i.1=12\/i.1=13\/i.1=14\/i.1=15\/i.1=16\/i.1=17\/i.1=18\/i.1=19\/i.1=20\/i.1=21\/i.1=22:=by omega
 rcases hop with q | q | q | q | q | q | q | q | q | q | q | q | q | q | q
 all_goals first | (exfalso;simp[labS,q]at h;done) | skip
 .exfalso;rw[Ld q]at h;split at h<;>simp at h
 .rw[Lc q]at h ⊢
  by_cases p:t.2.2.2.2.2.2.1=0
  .rw[if_pos p];exact⟨q,p,rfl⟩
  .rw[if_neg p]at h;split at h<;>simp at h
theorem aoX(hf:dK m=true){x:Int} (h:x∈m.2.2.2.1){c:Nat}{q:List Int} (hq:m.2.2.1[c]?=some q) (hx:x∈q):False:=by
 obtain⟨mv,mo,mq,mg,⟨⟩⟩:=m;have q8:(mg++mq.flatten).Nodup:=(dW.1 hf).2.2.2.2.2.2.2;exact(List.nodup_append.1 q8).2.2 x h x (List.mem_flatten.2 ⟨q,gZ hq,hx⟩) rfl
section
variable {vs:List VD}{ms cs:List ByteArray}{fs:List FD}{ts:List SD}{bound:Int}{z:ZD}
theorem amC(hV:rO ms fs bound t):t.2.2.2.2.2.2.1=0\/t.2.2.2.2.2.2.1=1\/t.2.2.2.2.2.2.1=2:=by
 have:=gY hV;obtain⟨id,fn,pc,rg,st,ch,ph,su,fa,hd,u⟩:=t;rcases this.2.2.2.2.2.2.2.2 with q | ⟨q | q,_⟩
 .exact .inl q
 .exact .inr (.inl q)
 .exact .inr (.inr q)
theorem acS(I:Inv vs ms cs fs ts bound z) (hl:z.1.length<=60) (h:(fH vs ms cs fs ts bound z id).2.2=0):Inv vs ms cs fs ts bound (fH vs ms cs fs ts bound z id).1:=by
 obtain⟨t,i,hft,hp,he,hf,em,ee,hn,hlen,hx⟩:=Gu I.r8 (by omega) (I.bm hl) h
 have hVS:=acB h I.r8 (by omega) (I.bm hl)
 obtain⟨hm,hid⟩:=(jY I.va.2.2.2).1 hft;subst hid;obtain⟨hlab,hat,hsu,hvl,h0⟩:=DX I hl hm hp;have hag:=BJ z.2.1 t i;have hok:=(UC I.fm (by rw[hag];exact h0)).1 hf
 have hpt:=WG I.fm (by rw[hag];exact h0) hf
 have hv:=hlab.2.2.2.1;have hph:=amC hvl;have hch:i.1=21->(bW t.1 t.2.2.2.2.2.1).2=true:=λq=>(qG I.ok hvl hsu hat q (I.r8 t hm)).1
 have hce:=amA I.ok hvl hsu hat (Aa (m:=z.2.1) (i:=i) I.fm hch);rw[hpt]at em;rw[hce]at hx;have aqm:je i.1=true:=by unfold je;simpa using hv
 have hcl:=ahy (m:=z.2.1) hv hph;have aoY:=acR hv hok (λx hx=>⟨I.held t hm x hx,by
  have:=gY hvl;obtain⟨_,fn,pc,rg,st,ch,ph,su,fa,hd,u⟩:=t;exact(this.2.2.2.2.2.2.2.1 x hx).1⟩) hph
 have hnew:(labS z.2.1 t i).2.2.1=16->(newS (aC vs ms cs fs ts).1 fs bound (labS z.2.1 t i).2.2.2.1 i.2.2.2.2.1 (t.2.2.2.1.getD i.2.2.1.toNat 0)).1.1=(labS z.2.1 t i).2.2.2.1/\(newS (aC vs ms cs fs ts).1 fs bound (labS z.2.1 t i).2.2.2.1 i.2.2.2.2.1 (t.2.2.2.1.getD i.2.2.1.toNat 0)).1.2.2.2.2.2.2.2.2.2.1=[]:=by
  intro g;have hi:=(zY hv).1 g;obtain⟨s1,s2⟩:=qG I.ok hvl hsu hat hi (I.r8 t hm);rw[<-wB (m:=z.2.1) hi]at s2;refine⟨BM s2,?_⟩;unfold newS at s2 ⊢;split at s2
  .rename_i q;exact absurd s2 q
  rename_i q1;rw[if_neg q1];split at s2
  .cases s2
  rename_i q2;rw[if_neg q2];split at s2
  .cases s2
  rename_i q3;rw[if_neg q3];split at s2
  .cases s2
  rename_i q4;rw[if_neg q4];exact(uU _ _ _ _).2.2.2
 generalize (fH vs ms cs fs ts bound z t.1).1=z' at hVS em hlen hx;have hk:=uU fs bound 256 (gu t i (lS i (labS z.2.1 t i)));have hk2:=acN fs bound 256 (gu t i (lS i (labS z.2.1 t i)));have hc:=NU t i (lS i (labS z.2.1 t i));have hcc:t.2.2.2.2.2.1<=(gu t i (lS i (labS z.2.1 t i))).2.2.2.2.2.1/\(i.1=21->(gu t i (lS i (labS z.2.1 t i))).2.2.2.2.2.1=t.2.2.2.2.2.1+1):=by
  generalize lS i (labS z.2.1 t i)=r;obtain⟨id,fn,pc,rg,st,ch,ph,su,fa,hd,u⟩:=t;unfold gu;simp only;split
  .refine⟨?_,λq=>by omega⟩
   repeat' split
   all_goals exact Int.le_refl _
  .show ch<=(if i.1=21 then ch+1 else ch)/\(i.1=21->(if i.1=21 then ch+1 else ch)=ch+1)
   split
   .exact⟨by omega,λ_=>rfl⟩
   .rename_i q;exact⟨Int.le_refl _,λp=>absurd p q⟩
 have hw:i.1=18->t.2.2.2.2.2.2.1=0->(gu t i (lS i (labS z.2.1 t i))).2.2.2.2.2.2.1=1/\(gu t i (lS i (labS z.2.1 t i))).2.2.1=t.2.2.1:=by
  intro q p;generalize lS i (labS z.2.1 t i)=r;obtain⟨id,fn,pc,rg,st,ch,ph,su,fa,hd,u⟩:=t;have p:ph=0:=p;unfold gu;simp[q,p]
 have hst:i.1=18->t.2.2.2.2.2.2.1=0->(eU fs bound 256 (gu t i (lS i (labS z.2.1 t i)))).2.2.1=t.2.2.1:=by
  intro q p;have h1:=(hw q p).2;rw[(acO (i:=i) (by rw[hc.2.1,h1];exact hat) aqm 256).2,h1]
 generalize hr:lS i (labS z.2.1 t i)=r at *;generalize htn:eU fs bound 256 (gu t i r)=tn at *;generalize hnn:(newS (aC vs ms cs fs ts).1 fs bound (labS z.2.1 t i).2.2.2.1 i.2.2.2.2.1 (t.2.2.2.1.getD i.2.2.1.toNat 0)).1=nw at *;have mtn:tn∈z'.1:=((jY hVS.1.2.2.2).1 (by rw[hx t.1,if_pos rfl])).1
 have etn:tn.1=t.1:=hk.1.trans hc.1;have keep:∀u∈z.1,u.1≠t.1->u∈z'.1:=λu hu hne=>((jY hVS.1.2.2.2 (x:=u.1)).1 (by rw[hx u.1,if_neg hne,if_neg λp=>hn p.1 u hu p.2];exact mP I.va.2.2.2 hu)).1
 have grow:∀p∈z.1,∃p'∈z'.1,p'.1=p.1/\p.2.2.2.2.2.1<=p'.2.2.2.2.2.1:=by
  intro p hp
  by_cases g:p.1=t.1
  .have:=oq I.va.2.2.2 hp hm g;subst this;exact⟨tn,mtn,etn,by rw[hk2.1];exact hcc.1⟩
  .exact⟨p,keep p hp g,rfl,Int.le_refl _⟩
 have mem:∀u∈z'.1,u=tn\/(u∈z.1/\u.1≠t.1)\/((labS z.2.1 t i).2.2.1=16/\u=nw):=by
  intro u hu;have:=mP hVS.1.2.2.2 hu;rw[hx]at this;split at this
  .exact .inl (D5 this).symm
  split at this
  .rename_i g;exact .inr (.inr ⟨g.1,(D5 this).symm⟩)
  .rename_i g1 g2;exact .inr (.inl ⟨((jY I.va.2.2.2).1 this).1,g1⟩)
 have em1:z'.2.1.2.1=GK (labS z.2.1 t i) z.2.1.2.1:=by rw[em]
 have em2:z'.2.1.2.2.1=qsE (labS z.2.1 t i) z.2.1.2.2.1:=by rw[em]
 have em3:z'.2.1.2.2.2.1=sgE (labS z.2.1 t i) z.2.1.2.2.1 z.2.1.2.2.2.1:=by rw[em]
 have ph1:t.2.2.2.2.2.2.1=1->(labS z.2.1 t i).2.2.1=13/\t.1∈z.2.1.2.2.2.1:=by
  intro p;have k:=hcl.2 (acP hvl hat (by omega)).1 p
  have:=hok.2.2.2.2.1 k;rw[hag]at this;exact⟨k,jO.1 this⟩
 have Q7:∀(c:Nat) q0,z.2.1.2.2.1[c]?=some q0->∀x∈q0,∃u∈z'.1,u.1=x/\u.2.2.2.2.2.2.1=1/\∃j,lZ fs u.2.1 u.2.2.1=some j/\j.1=18/\j.2.2.2.2.1.toNat=c:=by
  intro c q0 hq0 x hx0;obtain⟨u,hu,e1,p1,j,hj⟩:=I.que c q0 hq0 x hx0;refine⟨u,keep u hu λg=>?_,e1,p1,j,hj⟩
  have:=oq I.va.2.2.2 hu hm g;subst this;exact aoX I.fm (ph1 p1).2 hq0 (e1▸hx0)
 refine⟨I.ok,hVS.1,hVS.2,λu hu x hxm=>?_,λc q hq x WX=>?_,λx hxs=>?_,λu hu h8=>?_⟩
 .rw[em1];rcases mem u hu with rfl | ⟨hu,hne⟩ | ⟨g,rfl⟩
  .rw[hk.2.2.2]at hxm;rw[etn];exact aoY x hxm
  .refine acQ hok (I.held u hu x hxm) (λg=>?_) (by rw[hag];exact hne)
   have:=gY (I.va.2.2.1 u hu).2;obtain⟨_,fn,pc,rg,st,ch,ph,su,fa,hd,_⟩:=u;have:=(jX this.1).1;simp only at g;omega
  .rw[(hnew g).2]at hxm;cases hxm
 .rw[em2]at hq;unfold qsE at hq;have getD:∀{x:Int}{k:Nat},x∈z.2.1.2.2.1[k]?.getD []->∃q0,z.2.1.2.2.1[k]?=some q0/\x∈q0:=by
   intro x k hx;cases hk:z.2.1.2.2.1[k]? with
   | none=>rw[hk]at hx;cases hx
   | some q0=>rw[hk]at hx;exact⟨q0,rfl,hx⟩
  split at hq
  .rename_i k12;obtain⟨w1,w2,w3⟩:=hcl.1 k12;rw[List.getElem?_set]at hq;split at hq
   .rename_i ec;split at hq
    .rw[WO]at hq;subst hq;rcases CX.1 WX with WX | WX
     .obtain⟨q0,h1,h2⟩:=getD WX;exact Q7 c q0 (ec▸h1) x h2
     .rw[WM]at WX;refine⟨tn,mtn,?_,?_,i,?_,w1,?_⟩
      .rw[etn,WX,hag]
      .rw[hk2.2];exact(hw w1 w2).1
      .rw[hk.2.1,hc.2.1,hst w1 w2];exact hat
      .rw[<-ec,w3]
    .cases hq
   .exact Q7 c q hq x WX
  split at hq
  .rw[List.getElem?_set]at hq;split at hq
   .rename_i ec;split at hq
    .rw[WO]at hq;subst hq;obtain⟨q0,h1,h2⟩:=getD (List.mem_of_mem_drop WX);exact Q7 c q0 (ec▸h1) x h2
    .cases hq
   .exact Q7 c q hq x WX
  split at hq
  .rw[List.getElem?_set]at hq;split at hq
   .split at hq
    .rw[WO]at hq;subst hq;cases WX
    .cases hq
   .exact Q7 c q hq x WX
  .exact Q7 c q hq x WX
 .rw[em3]at hxs;have hss:SS z.2.1.2.2.2.1:=by
   have:=I.fm;obtain⟨l,⟨mv,mo,mq,mg,⟨⟩⟩,bf,⟨⟩⟩:=z;exact(dW.1 this).2.2.2.1
  have sold:∀x∈z.2.1.2.2.2.1,(t.1=x->(labS z.2.1 t i).2.2.1≠13)->∃u∈z'.1,u.1=x/\u.2.2.2.2.2.2.1=1:=by
   intro x hx0 hne;obtain⟨u,hu,e1,p1⟩:=I.sig x hx0;refine⟨u,keep u hu λg=>?_,e1,p1⟩
   have:=oq I.va.2.2.2 hu hm g;subst this;exact hne e1 (ph1 p1).1
  have aoZ:∀x,x∈z.2.1.2.2.1[(labS z.2.1 t i).2.2.2.1.toNat]?.getD []->∃u∈z'.1,u.1=x/\u.2.2.2.2.2.2.1=1:=by
   intro x hx0;cases hk:z.2.1.2.2.1[(labS z.2.1 t i).2.2.2.1.toNat]? with
   | none=>rw[hk]at hx0;cases hx0
   | some q0=>
     rw[hk]at hx0;obtain⟨u,hu,e1,p1,_⟩:=Q7 _ q0 hk x hx0;exact⟨u,hu,e1,p1⟩
  unfold sgE at hxs;split at hxs
  .rename_i k13;rw[<-Le hss]at hxs;rw[Xi]at hxs;exact sold x hxs.1 λg=>by rw[hag]at hxs;simp[g]at hxs
  split at hxs
  .rename_i k13 k14;rcases((DI _ _ hss).2 x).1 hxs with hx0 | hx0
   .exact sold x hx0 λ_=>k13
   .exact aoZ x (List.mem_of_mem_take hx0)
  split at hxs
  .rename_i k13 k14 k15;rcases((DI _ _ hss).2 x).1 hxs with hx0 | hx0
   .exact sold x hx0 λ_=>k13
   .exact aoZ x hx0
  .rename_i k13 k14 k15;exact sold x hxs λ_=>k13
 .rcases mem u hu with rfl | ⟨hu,hne⟩ | ⟨g,rfl⟩
  .rw[etn]at h8 ⊢;obtain⟨p,hp,p1,p2⟩:=I.par t hm h8;obtain⟨p',hp',e1,e2⟩:=grow p hp;exact⟨p',hp',by omega,by omega⟩
  .obtain⟨p,hp,p1,p2⟩:=I.par u hu h8;obtain⟨p',hp',e1,e2⟩:=grow p hp;exact⟨p',hp',by omega,by omega⟩
  .have hi:=(zY hv).1 g;obtain⟨c1,c2,_⟩:=zO (hch hi);rw[(hnew g).1,wB hi];have:=hcc.2 hi;exact⟨tn,mtn,by rw[etn];omega,by rw[etn,hk2.1];omega⟩
end
structure Ind (a b:ED):Prop where
 ag:a.1≠b.1
 v1:(a.2.2.1=5\/a.2.2.1=2)->(b.2.2.1=1\/b.2.2.1=8\/b.2.2.1=6\/b.2.2.1=5\/b.2.2.1=2)->a.2.2.2.1≠b.2.2.2.1
 v2:(b.2.2.1=5\/b.2.2.1=2)->(a.2.2.1=1\/a.2.2.1=8\/a.2.2.1=6\/a.2.2.1=5\/a.2.2.1=2)->b.2.2.2.1≠a.2.2.2.1
 m1:(a.2.2.1=9\/a.2.2.1=10\/a.2.2.1=11)->(b.2.2.1=9\/b.2.2.1=10\/b.2.2.1=11)->a.2.2.2.1≠b.2.2.2.1
 m2:a.2.2.1=12->(b.2.2.1=9\/b.2.2.1=10\/b.2.2.1=11)->a.2.2.2.2.1≠b.2.2.2.1
 m3:(a.2.2.1=9\/a.2.2.1=10\/a.2.2.1=11)->b.2.2.1=12->b.2.2.2.2.1≠a.2.2.2.1
 m4:a.2.2.1=12->b.2.2.1=12->a.2.2.2.2.1≠b.2.2.2.2.1
 cn:(12<=a.2.2.1/\a.2.2.1<=15)->(12<=b.2.2.1/\b.2.2.1<=15)->a.2.2.2.1≠b.2.2.2.1
 s1:(a.2.2.1=16\/a.2.2.1=17)->a.2.2.2.1≠b.1
 s2:(b.2.2.1=16\/b.2.2.1=17)->b.2.2.2.1≠a.1
 s3:a.2.2.1=16->b.2.2.1=17->a.2.2.2.1≠b.2.2.2.1
 s4:b.2.2.1=16->a.2.2.1=17->b.2.2.2.1≠a.2.2.2.1
theorem getD_set_ne{α:Type}{l:List α}{j:Nat}{a:α} (h:k≠j):(l.set k a)[j]?=l[j]?:=lW h
section
variable {vs:List VD}{ms cs:List ByteArray}{fs:List FD}{ts:List SD}{bound:Int}{z:ZD}
end
def eA(e:ED):Int:=e.1
def bE(e:ED):Prop:=-9223372036854775808<=eA e/\eA e<=9223372036854775807
section
variable {vs:List VD}{ms cs:List ByteArray}{fs:List FD}{ts:List SD}{bound:Int}{z:ZD}
end
end
end Go.Proofs.YtjhenjhcbcalpaaGreatDoor
