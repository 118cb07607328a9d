/- Part 15 of the proof. Conditions: the rows'. -/
import Derived.Test.YtjhenjhcbcalpaaGreatDoorB14
set_option linter.unusedSimpArgs false
set_option linter.unusedVariables false
set_option maxRecDepth 1000000
set_option maxHeartbeats 8000000
namespace Go.Proofs.YtjhenjhcbcalpaaGreatDoor
open Go Go.l9
noncomputable section
variable {pk:List Int}{k:Nat}{s:TD}
def rZ(vs:List VD) (ms cs:List ByteArray) (fs:List FD) (ts:List SD) (bound:Int) (pk:List Int):ZD:=(nO vs ms cs fs ts bound pk (pG vs ms cs fs ts bound).1).1
def rEn(vs:List VD) (ms cs:List ByteArray) (fs:List FD) (ts:List SD) (bound:Int) (pk:List Int):List Int:=fZ vs ms cs fs ts (rZ vs ms cs fs ts bound pk).1 (rZ vs ms cs fs ts bound pk).2.1 (rZ vs ms cs fs ts bound pk).2.2.1
def rId(vs:List VD) (ms cs:List ByteArray) (fs:List FD) (ts:List SD) (bound:Int) (pk:List Int) (i:Int):Int:=(rEn vs ms cs fs ts bound pk).getD i.toNat 0
def Hu(vs:List VD) (ms cs:List ByteArray) (fs:List FD) (ts:List SD) (bound:Int) (pk:List Int) (i:Int):ED:=(uY vs ms cs fs ts (rZ vs ms cs fs ts bound pk).1 (rZ vs ms cs fs ts bound pk).2.1 (rZ vs ms cs fs ts bound pk).2.2.1 (rId vs ms cs fs ts bound pk i)).1
def wH(vs:List VD) (ms cs:List ByteArray) (fs:List FD) (ts:List SD) (bound:Int) (pk:List Int) (i:Int):ZD×ED×Int:=fH vs ms cs fs ts bound (rZ vs ms cs fs ts bound pk) (rId vs ms cs fs ts bound pk i)
section
variable {vs:List VD}{ms cs:List ByteArray}{fs:List FD}{ts:List SD}{bound:Int}{z:ZD}
theorem ao1(I:Inv vs ms cs fs ts bound z){i:Int} (h0:0<=i) (hi:i < ((fZ vs ms cs fs ts z.1 z.2.1 z.2.2.1).length:Int)):
 ∃t j,t∈z.1/\t.1=(fZ vs ms cs fs ts z.1 z.2.1 z.2.2.1).getD i.toNat 0/\fO (aC vs ms cs fs ts).1 ms fs t=(j,true)/\CG z.1 z.2.1 t j=true:=by
 have gX:i.toNat < (fZ vs ms cs fs ts z.1 z.2.1 z.2.2.1).length:=by omega
 exact(UG I).1 (by rw[Jf,kQ gX];exact List.getElem_mem gX)
theorem ao2(hs:bQ (aC vs ms cs fs ts).1 bound=0) (hp:pk.length<=40):(nO vs ms cs fs ts bound pk (pG vs ms cs fs ts bound).1).2=true/\Inv vs ms cs fs ts bound (rZ vs ms cs fs ts bound pk)/\(rZ vs ms cs fs ts bound pk).1.length<=48:=by
 have hS:pG vs ms cs fs ts bound=((mM (aC vs ms cs fs ts).1 fs bound ts,(pF vs ms cs fs ts).1,[],()),0):=by unfold pG;rw[if_neg (by omega)]
 have I0:Inv vs ms cs fs ts bound (pG vs ms cs fs ts bound).1:=by rw[hS];exact UD hs
 have hl0:(pG vs ms cs fs ts bound).1.1.length<=8:=by
  rw[hS];show(mM _ _ _ _).length<=8;rw[KY];exact(DR (lQ (fG.1 hs).1).2.2).1.2
 obtain⟨a,b,c⟩:=UJ pk I0 (by omega)
 exact⟨a,b,by unfold rZ;omega⟩
theorem OC{x d:Int} (h:(rEn vs ms cs fs ts bound pk)[x.toNat]?=some d):d=rId vs ms cs fs ts bound pk x:=by
 unfold rId;rw[Jf,h];rfl
theorem acX{x:Int}{C:Int->Prop} (h:C (rId vs ms cs fs ts bound pk x)):∀d,(rEn vs ms cs fs ts bound pk)[x.toNat]?=some d->C d:=λd hd=>by rw[OC hd];exact h
theorem r_at(I:Inv vs ms cs fs ts bound (rZ vs ms cs fs ts bound pk)) (hl:(rZ vs ms cs fs ts bound pk).1.length<=48){x:Int} (h0:0<=x) (hx:x < ((rEn vs ms cs fs ts bound pk).length:Int)):
 ∃t j,t∈(rZ vs ms cs fs ts bound pk).1/\rId vs ms cs fs ts bound pk x=t.1/\fO (aC vs ms cs fs ts).1 ms fs t=(j,true)/\CG (rZ vs ms cs fs ts bound pk).1 (rZ vs ms cs fs ts bound pk).2.1 t j=true/\Hu vs ms cs fs ts bound pk x=labS (rZ vs ms cs fs ts bound pk).2.1 t j /\
   wH vs ms cs fs ts bound pk x=fH vs ms cs fs ts bound (rZ vs ms cs fs ts bound pk) t.1/\bE (Hu vs ms cs fs ts bound pk x)/\Inv vs ms cs fs ts bound (wH vs ms cs fs ts bound pk x).1/\(wH vs ms cs fs ts bound pk x).1.1.length<=49/\(wH vs ms cs fs ts bound pk x).2=(Hu vs ms cs fs ts bound pk x,0):=by
 obtain⟨t,j,m,e,p,n⟩:=ao1 I h0 hx;have e:rId vs ms cs fs ts bound pk x=t.1:=e.symm;have l:Hu vs ms cs fs ts bound pk x=labS (rZ vs ms cs fs ts bound pk).2.1 t j:=by unfold Hu;rw[e,OA I m p]
 have s:wH vs ms cs fs ts bound pk x=fH vs ms cs fs ts bound (rZ vs ms cs fs ts bound pk) t.1:=by unfold wH;rw[e]
 obtain⟨a,b,c⟩:=DY I (by omega) m p n
 have hb:=((I.bt (by omega)).2 t m).2.1
 have h0:=(DX I (by omega) m p).2.2.2.2
 refine⟨t,j,m,e,p,n,l,s,?_,by rw[s];exact b,by rw[s,c];split<;>omega,by rw[s,a,l]⟩
 rw[l];unfold bE eA;rw[BJ];omega
end
theorem Lh:∀{T S:List Int},SS S->SS T->(∀x∈S,x∈T)->∀(k:Nat) x,S[k]?=some x->∃p,T[p]?=some x/\k<=p/\p+S.length<=T.length+k
 | [],S,_,_,h,k,x,e=>by have:=h x (gZ e);simp at this
 | t :: T,[],_,_,_,_,_,e=>by simp at e
 | t :: T,s :: S,hS,hT,h,k,x,e=>by
   have hS':=WL.1 hS;have fP:=WL.1 hT;have nd:∀{l:List Int},SS l->l.Nodup:=λh=>List.Pairwise.imp (λh=>Int.ne_of_lt h) h
   have hlen:=Ag (nd hS) h;simp only[sV]at hlen
   by_cases q:s=t
   .subst q;cases k with
    | zero=>simp at e;subst e;exact⟨0,rfl,o9 _,by simp only[sV];omega⟩
    | succ k=>
      simp at e;obtain⟨p,h1,h2,h3⟩:=Lh (T:=T) hS'.2 fP.2 (λy hy=>by
       rcases lU.1 (h y (List.mem_cons_of_mem _ hy)) with rfl | g
       .have:=hS'.1 _ hy;omega
       .exact g) k x e
      exact⟨p+1,by simpa using h1,by omega,by simp only[sV];omega⟩
   .have hs:s∈T:=(lU.1 (h s (by simp))).resolve_left q
    have gX:=fP.1 s hs;obtain⟨p,h1,h2,h3⟩:=Lh (T:=T) hS fP.2 (λy hy=>by
     rcases lU.1 (h y hy) with rfl | g
     .rcases lU.1 hy with rfl | g2
      .exact absurd rfl q
      .have:=hS'.1 _ g2;omega
     .exact g) k x e
    exact⟨p+1,by simpa using h1,by omega,by simp only[sV]at h3 ⊢;omega⟩
theorem acY{l:List Int} (h:SS l){i j:Nat}{x:Int} (hi:l[i]?=some x) (hj:l[j]?=some x):i=j:=by
 obtain⟨a,ea⟩:=A8.1 hi;obtain⟨b,eb⟩:=A8.1 hj;have h:=Xb.1 h;rcases Nat.lt_trichotomy i j with g | g | g
 .have:=h i j a b g;omega
 .exact g
 .have:=h j i b a g;omega
theorem ahB{l:List Int} (h:SS l){i j:Nat}{x y:Int} (hi:l[i]?=some x) (hj:l[j]?=some y) (g:x < y):i < j:=by
 obtain⟨a,ea⟩:=A8.1 hi;obtain⟨b,eb⟩:=A8.1 hj;have h:=Xb.1 h;rcases Nat.lt_trichotomy i j with k | k | k
 .exact k
 .subst k;omega
 .have:=h j i b a k;omega
def fid(S:List TD) (k:Nat):Int:=(S.map (·.1)).getD k 0
def Hw(T:List TD) (x:Int):Nat:=(T.map (·.1)).findIdx λy=>decide (y=x)
def atT(S T:List TD):Nat->Nat
 | 0=>0
 | k+1=>Hw T (fid S k)+1
theorem amE{T:List TD}{x:Int}{p:Nat} (h:SS (T.map (·.1))) (hp:(T.map (·.1))[p]?=some x):Hw T x=p:=by
 have gX:=(A8.1 hp).1;have g:Hw T x < (T.map (·.1)).length:=List.findIdx_lt_length_of_exists ⟨x,gZ hp,by simp⟩
 have e:(T.map (·.1))[Hw T x]'g=x:=OL (List.findIdx_getElem (p:=λy:Int=>decide (y=x)) (w:=g))
 exact acY h (by rw[kQ g,e]) hp
theorem Q8{S:List TD} (h:S[k]?=some s):fid S k=s.1:=by
 unfold fid;rw[Jf,wJ,h];rfl
structure Look (S T:List TD):Prop where
 s:jZ S
 t:jZ T
 le:T.length<=S.length+1
 sub:∀x∈S.map (·.1),x∈T.map (·.1)
section
variable {S T:List TD}
theorem Look.pos(L:Look S T) (h:S[k]?=some s):∃u,T[Hw T s.1]?=some u/\u.1=s.1/\k<=Hw T s.1/\Hw T s.1<=k+1/\Hw T s.1 < T.length:=by
 obtain⟨p,h1,h2,h3⟩:=Lh L.s L.t L.sub k s.1 (by rw[wJ,h];rfl)
 have hp:=amE L.t h1;rw[hp];rw[wJ]at h1;cases e:T[p]? with
 | none=>rw[e]at h1;cases h1
 | some u=>
   rw[e]at h1;have:=L.le;simp only[WR]at h3;exact⟨u,rfl,D5 h1,h2,by omega,(A8.1 e).1⟩
theorem Look.at(L:Look S T) (h:S[k]?=some s):k<=atT S T k/\atT S T k<=k+1/\atT S T k<=Hw T s.1:=by
 cases k with
 | zero=>exact⟨o9 _,by simp[atT],by simp[atT]⟩
 | succ k=>
   have hk:k < S.length:=by have:=(A8.1 h).1;omega
   have h0:=kQ hk;obtain⟨u,e1,e2,e3,e4,_⟩:=L.pos h0;obtain⟨v,f1,f2,f3,f4,_⟩:=L.pos h;show k+1<=Hw T (fid S k)+1/\Hw T (fid S k)+1<=k+1+1/\Hw T (fid S k)+1<=Hw T s.1;rw[Q8 h0];have gX:S[k].1 < s.1:=QX L.s h0 h;have:=ahB L.t (i:=Hw T S[k].1) (j:=Hw T s.1) (x:=S[k].1) (y:=s.1) (by rw[wJ,e1,<-e2];rfl) (by rw[wJ,f1,<-f2];rfl) gX
   omega
theorem Look.next(L:Look S T){u:TD} (h:S[k]?=some s) (hu:T[atT S T k]?=some u):Hw T s.1=if u.1=s.1 then atT S T k else atT S T k+1:=by
 obtain⟨a,b,c⟩:=L.at h;obtain⟨v,f1,f2,f3,f4,_⟩:=L.pos h;split
 .rename_i q;exact acY L.t (x:=s.1) (by rw[wJ,f1,<-f2];rfl) (by rw[wJ,hu,<-q];rfl)
 .rename_i q;have:Hw T s.1≠atT S T k:=by
   intro e;rw[e,hu]at f1;cases f1;exact q f2
  omega
end
section
variable {vs:List VD}{ms cs:List ByteArray}{fs:List FD}{ts:List SD}{bound:Int}{z:ZD}
theorem amF(m:MD) (t:TD) (i:ID):(labS m t i).2.1=t.2.2.2.2.1:=by
 have key:∀(c:Prop) [Decidable c] (a b:ED),a.2.1=t.2.2.2.2.1->b.2.1=t.2.2.2.2.1->(if c then a else b).2.1=t.2.2.2.2.1:=by
  intro c _ a b ha hb;split
  .exact ha
  .exact hb
 unfold labS
 repeat' (first | rfl | (apply key))
theorem ac0(I:Inv vs ms cs fs ts bound z) (hl:z.1.length<=60){t:TD}{i:ID} (hm:t∈z.1) (hp:fO (aC vs ms cs fs ts).1 ms fs t=(i,true)) (he:CG z.1 z.2.1 t i=true):
 Look z.1 (fH vs ms cs fs ts bound z t.1).1.1/\(0<=t.2.2.2.2.1/\t.2.2.2.2.1 < 32)/\∀(k:Nat) s u,z.1[k]?=some s->(fH vs ms cs fs ts bound z t.1).1.1[Hw (fH vs ms cs fs ts bound z t.1).1.1 s.1]?=some u->u.1=s.1/\(u.1≠t.1->u=s)/\(u.1=t.1->u.2.2.2.2.1=t.2.2.2.2.1+1/\s=t):=by
 have hft:=mP I.va.2.2.2 hm;obtain⟨hst,J,hlen⟩:=DY I hl hm hp he;have h0:(fH vs ms cs fs ts bound z t.1).2.2=0:=by rw[hst]
 obtain⟨t',i',acT,hp',_,_,_,_,hnew,_,hx⟩:=Gu I.r8 (by omega) (I.bm hl) h0
 rw[hft]at acT;cases acT;rw[hp]at hp';cases hp';obtain⟨hs,hV,t2,i2,hr,_,_,_,_⟩:=BN h0;have hrr:t2=t/\i2=i:=by
  unfold jo at hr;rw[hft]at hr;simp only[hp]at hr;cases hr;exact⟨rfl,rfl⟩
 obtain⟨rfl,rfl⟩:=hrr;obtain⟨_,_,hlab,hat,hsu,hvl⟩:=BK hV (I.bm hl) (I.bt hl) hr;have hch:i2.1=21->(bW t2.1 t2.2.2.2.2.2.1).2=true:=λq=>(qG hs hvl hsu hat q (I.r8 t2 hm)).1
 have hcz:=Ac hs hvl hsu (Aa (m:=z.2.1) (i:=i2) hlab.1.2.1 hch);obtain⟨_,c1,c2,cst,cid,_,c32⟩:=QI (I.r8 t2 hm) hcz;generalize hT:fH vs ms cs fs ts bound z t2.1=Z at *;have upT:jZ Z.1.1:=J.va.2.2.2;have find:∀s∈z.1,∃u,nN Z.1.1 s.1=some u/\(s.1≠t2.1->u=s)/\(s.1=t2.1->u.2.2.2.2.1=t2.2.2.2.2.1+1):=by
  intro s hsm;rw[hx]
  by_cases q:s.1=t2.1
  .rw[if_pos q];exact⟨_,rfl,λg=>absurd q g,λ_=>cst⟩
  .rw[if_neg q]
   by_cases q2:(labS z.2.1 t2 i2).2.2.1=16/\s.1=(labS z.2.1 t2 i2).2.2.2.1
   .exact absurd q2.2 (hnew q2.1 s hsm)
   .rw[if_neg q2];exact⟨s,mP I.va.2.2.2 hsm,λ_=>rfl,λg=>absurd g q⟩
 have L:Look z.1 Z.1.1:=⟨I.va.2.2.2,upT,by rw[hlen];split<;>omega,λx hx=>by
  obtain⟨s,hs1,rfl⟩:=Jl.1 hx;obtain⟨u,f,_⟩:=find s hs1;obtain⟨g1,g2⟩:=(jY upT).1 f;exact Jl.2 ⟨u,g1,g2⟩⟩
 refine⟨L,c32,λk s u hk hu=>?_⟩
 have hsm:=gZ hk;obtain⟨v,f1,f2,_⟩:=L.pos hk;rw[hu]at f1;cases f1;obtain⟨w,g,g1,g2⟩:=find s hsm;obtain⟨w1,w2⟩:=(jY upT).1 g;have:u=w:=oq upT (gZ hu) w1 (by rw[f2,w2])
 subst this;exact⟨f2,λq=>g1 (by rw[<-f2];exact q),λq=>⟨g2 (by rw[<-f2];exact q),oq I.va.2.2.2 hsm hm (by rw[<-f2];exact q)⟩⟩
end
end
end Go.Proofs.YtjhenjhcbcalpaaGreatDoor
