/- Part 3 of the proof. Conditions: the rows'. -/
import Derived.Test.YtjhenjhcbcalpaaGreatDoorB2
import Derived.LoopNIn
import Derived.Deep.LoopGhost
import Derived.Laws.IdiomRangeMap
set_option linter.unusedSimpArgs false
set_option linter.unusedVariables false
set_option maxRecDepth 1000000
set_option maxHeartbeats 8000000
namespace Go.jl
open Go Go.RowKit
variable {h:FH}{β:List RV}{w w':World}{i j so g off k n:Nat}{v y:Value}{T:List ay}{r:ay}{t tt ty el:TypeId}{e:Sh}{hs:List Nat}{cs:List Value}{p:Prop}{c:Call}{ops:Array Oper}{a:Act}{Q:Exit->Act->World->Prop}{K:Act->World->Prop}{kk:IntKind}
abbrev SC.amG(i:Nat):SC->Bool
 | .sub j _=>!Nat.beq i j
 | .lM j _ _ _ _=>!Nat.beq i j
 | _=>true
abbrev uH(i:Nat) (x:SC):SC:=match SC.amG i x with
 | true=>x
 | false=>.junk
abbrev mV(f:SC->SC):SV->SV
 | .c x=>.c (f x)
 | .agg xs=>.agg (fA f xs)
 | v=>v
abbrev mE(f:SC->SC):aZ->aZ
 | .one v=>.one (mV f v)
 | .iq vs=>.iq (fA (mV f) vs)
abbrev mR(f:SC->SC):ay->ay
 | .blk t cs=>.blk t (fA f cs)
 | r=>r
abbrev yT(f:SC->SC):List (Nat×Gd×aZ)->List (Nat×Gd×aZ)
 | []=>[]
 | (k,g,e) :: l=>(k,g,mE f e) :: yT f l
abbrev mT(f:SC->SC):List (Gd×ay)->List (Gd×ay)
 | []=>[]
 | (g,r) :: l=>(g,mR f r) :: mT f l
theorem D6{R R':SC->Value->Prop}{f:SC->SC} (hR:∀x y,R x y->R' (f x) y):∀{xs:List SC}{ys:List Value},aU (λx y=>R x y/\dG y) xs ys->aU (λx y=>R' x y/\dG y) (fA f xs) ys
 | [],[],_=>trivial
 | _ :: _,_ :: _,⟨a,b⟩=>⟨⟨hR _ _ a.1,a.2⟩,D6 hR b⟩
theorem dA.map{h':FH}{β':List RV}{f:SC->SC} (le:h.le h') (hR:∀x y,dZ h β x y->dZ h' β' (f x) y):∀{x:SV}{y:Value},dA h β x y->dA h' β' (mV f x) y
 | .c _,_,c=>⟨hR _ _ c.1,c.2⟩
 | .agg _,_,⟨ys,e,a⟩=>⟨ys,e,D6 hR a⟩
 | .dat s _,_,⟨g,cs,e,r⟩=>⟨g,cs,e,r.mono le s⟩
 | .und,_,c=>c
theorem jP.map{h h':FH}{β β':List RV}{f:SC->SC} (le:h.le h') (hR:∀x y,dZ h β x y->dZ h' β' (f x) y):∀{x:aZ}{y:Value},jP h β x y->jP h' β' (mE f x) y
 | .one _,_,c=>dA.map le hR c
 | .iq _,_,⟨ys,e,a⟩=>⟨ys,e,go a⟩
where
 go:∀{xs:List SV}{ys:List Value},aU (dA h β) xs ys->aU (dA h' β') (fA (mV f) xs) ys
  | [],[],_=>trivial
  | _ :: _,_ :: _,⟨a,b⟩=>⟨dA.map le hR a,go b⟩
theorem Holds.map{h':FH}{β':List RV}{f:SC->SC} (le:h.le h') (hR:∀x y,dZ h β x y->dZ h' β' (f x) y):∀{r:ay}{v:RV},Holds h β w r v->(r.live=true->∀b,v.has b->w'.heap[b]?=w.heap[b]?)->Holds h' β' w' (mR f r) v
 | .blk _ _,.blk b,⟨ys,e,a⟩,k=>⟨ys,by rw[k rfl b (kW.2 rfl)];exact e,D6 hR a⟩
 | .row _ _ _,.row v,x,k=>lT.move le x λb hb=>k rfl b (bC.2 hb)
 | .obj _ s _,.blk b,⟨ys,e,r⟩,k=>⟨ys,by rw[k rfl b (kW.2 rfl)];exact e,r.mono le s⟩
 | .deep _ _ _ _ _ _ _ _,.deep _ _,x,k=>eU.move le x (k rfl)
 | .mp k' s l,.row v,x,k=>Holds.move (r:=.mp k' s l) (v:=.row v) (β':=β') (β:=β') le (Ext.refl _) x k
 | .NC k' s l n,.deep v us,x,k=>Holds.move (r:=.NC k' s l n) (v:=.deep v us) (β':=β') (β:=β') le (Ext.refl _) x k
 | .it k' s l dn,.blk v,x,k=>Holds.move (r:=.it k' s l dn) (v:=.blk v) (β':=β') (β:=β') le (Ext.refl _) x k
 | .Ko _ _ _ _,.row v,x,k=>TlH.move x λb hb=>k rfl b (bC.2 hb)
 | .Gj _ _ _ _,.deep _ _,x,k=>Dj.move le x (k rfl)
 | .gone,_,_,_=>trivial
theorem pV(f:SC->SC) (r:ay):(mR f r).live=r.live:=by cases r<;>rfl
theorem Xg{f:SC->SC}:∀{l:List (Nat×Gd×aZ)}{t:Nat}{G:Gd}{e:aZ},iD (yT f l) t=some (G,e)->∃e0,iD l t=some (G,e0)/\e=mE f e0
 | [],_,_,_,h=>by simp[yT,iD]at h
 | (k,g,e0) :: l,t,G,e,h=>by
   simp only[yT]at h;rw[bg]at h ⊢
   split at h
   .rename_i hk;cases h;exact⟨e0,by rw[if_pos hk],rfl⟩
   .rename_i hk;rw[if_neg hk];exact Xg h
theorem Xh{f:SC->SC}:∀{l:List (Nat×Gd×aZ)}{t:Nat}{G:Gd}{e:aZ},iD l t=some (G,e)->iD (yT f l) t=some (G,mE f e)
 | [],_,_,_,h=>by simp[iD]at h
 | (k,g,e0) :: l,t,G,e,h=>by
   simp only[yT];rw[bg]at h ⊢
   split at h
   .rename_i hk;cases h;rw[if_pos hk]
   .rename_i hk;rw[if_neg hk];exact Xh h
theorem D7(gl:List Bool) (f:SC->SC):∀{T:List (Gd×ay)},eff gl (mT f T)=(eff gl T).map (mR f)
 | []=>rfl
 | (g,r) :: l=>by
   simp only[mT,eff,TP,D7 gl f (T:=l)]
   congr 1
   cases gv gl g<;>rfl
theorem D8{f:SC->SC}{p:Gd×ay}:∀{T:List (Gd×ay)},p∈mT f T->∃q∈T,q.1=p.1
 | [],h=>by simp[mT]at h
 | (g,r) :: t,h=>by
   simp only[mT,mY]at h;rcases h with rfl | h
   .exact⟨(g,r),by simp,rfl⟩
   .obtain⟨q,h1,h2⟩:=D8 h;exact⟨q,by simp[h1],h2⟩
section
variable {cx:Cx}{P:Program}{N:Nat}{B:Base}{h0:FH}{s:St}{h:FH}{β:List RV}{w:World}{a:Act}{o:Oper}{K:St->Prop}
theorem Sat.map(aj:Sat N B h0 s h β w a){f:SC->SC}{T':List (Gd×ay)}{h':FH}{β':List RV}{w':World} (le:h.le h') (hf:∀b,f (.v (.bool b))=.v (.bool b)) (hR:∀x y,dZ h β x y->dZ h' β' (f x) y)
 (ok:OK B h0 (eff s.gl T') h' β' w') (gT:∀p∈T',vg s.gl.length p.1=true):Sat N B h0 { s with T:=T',env:=yT f s.env } h' β' w' a:=by
 refine⟨ok,?_,?_,aj.defers,aj.sz,?_,gT⟩
 .intro t G e ht;obtain⟨e0,h1,rfl⟩:=Xg ht;obtain⟨z,q1,q2,q3⟩:=aj.env t G e0 h1;exact⟨z,q1,λhG=>jP.map le hR (q2 hG),q3⟩
 .intro d i hi;obtain⟨G,b,q1,q2⟩:=aj.gs d i hi;have:=Xh (f:=f) q1;simp only[mE,mV,hf]at this;exact⟨G,b,this,q2⟩
 .intro t G e ht;obtain⟨e0,h1,rfl⟩:=Xg ht;exact aj.gb t G e0 h1
theorem dM{u v:RV} (hu:β[i]?=some u):(β.set i v)[j]?=if j=i then some v else β[j]?:=by
 by_cases hj:j=i
 .subst hj;rw[if_pos rfl,qx (A8.1 hu).1]
 .rw[if_neg hj,mO (Ne.symm hj)]
theorem OD(h:(!Nat.beq i j)=true):j≠i:=by
 rintro rfl;simp at h
theorem dZ.js{us us':Nat->Value}{u:RV} (hu:β[i]?=some u) (hd:u=.deep v us\/u=.row v){x:SC} (c:dZ h β x y):dZ h (β.set i (.deep v us')) (uH i x) y:=by
 have hsl:u.sl=some v:=by rcases hd with rfl | rfl<;>rfl
 have hbl:u.block=(RV.deep v us').block:=by rcases hd with rfl | rfl<;>rfl
 have nb:∀b,u≠.blk b:=by rcases hd with rfl | rfl<;>intro b e<;>cases e
 unfold uH;split
 .rename_i hf;cases x with
  | v _=>exact c
  | sl _ _=>exact c
  | fp _ _=>exact c
  | one _ _=>exact c
  | abs _=>exact c
  | junk=>trivial
  | own j off=>
    obtain⟨b,e,e'⟩:=c;refine⟨b,?_,e'⟩;rw[dM hu,if_neg]
    .exact e
    .rintro rfl;rw[hu]at e;cases e;exact nb b rfl
  | row j=>
    obtain⟨z,e,e'⟩:=c
    by_cases hj:j=i
    .subst hj;rw[hu]at e;cases e;exact⟨.deep v us',by rw[dM hu,if_pos rfl],by rw[hsl]at e';exact e'⟩
    .exact⟨z,by rw[dM hu,if_neg hj];exact e,e'⟩
  | jR j k sz off=>
    obtain⟨z,g,e,e',e2⟩:=c
    by_cases hj:j=i
    .subst hj;rw[hu]at e;cases e;exact⟨.deep v us',g,by rw[dM hu,if_pos rfl],by rw[<-hbl];exact e',e2⟩
    .exact⟨z,g,by rw[dM hu,if_neg hj];exact e,e',e2⟩
  | sub j k=>
    obtain⟨z,ug,e,e'⟩:=c;exact⟨z,ug,by rw[dM hu,if_neg (OD hf)];exact e,e'⟩
  | lM j k m sz off=>
    obtain⟨z,ug,g,e,e'⟩:=c;exact⟨z,ug,g,by rw[dM hu,if_neg (OD hf)];exact e,e'⟩
 .trivial
theorem OK.OE(ok:OK B h0 T h β w){r':ay}{u v:RV}{f:SC->SC}
 (hT:T[i]?=some r) (hl:r.live=true) (hu:β[i]?=some u){row:Option Nat} (hg:Gb w w' row) (kT:∀k,row=some k->u.has k){X:Nat->Prop}
 (hX:∀b,X b->B.al b/\b < w.heap.size/\(∀o,h b o=none)/\∀(j:Nat) (rj:ay) (vj:RV),j≠i->T[j]?=some rj->rj.live=true->β[j]?=some vj->¬vj.has b)
 (hv:∀b,v.has b->u.has b\/X b\/(w.heap.size<=b/\b < w'.heap.size)) (hC:∀x y,dZ h β x y->dZ h (β.set i v) (f x) y) (hold:Holds h (β.set i v) w' r' v):
 OK B h0 ((T.map (mR f)).set i r') h (β.set i v) w':=by
 have hi:i < T.length:=(A8.1 hT).1;have hi':i < β.length:=by rw[ok.len];exact hi
 have Dk:∀b,u.has b->B.al b/\b < w.heap.size/\∀o,h b o=none:=λb hb=>ok.own i r u b hT hl hu hb
 have nf:∀b,w.heap.size<=b->∀o,h b o=none:=by
  intro b hb o;cases hh:h b o with
  | none=>rfl
  | some x=>have:=oq (ok.hw b o x hh);omega
 have Wj:∀b,v.has b->B.al b/\b < w'.heap.size/\∀o,h b o=none:=by
  intro b hb;rcases hv b hb with hb' | hb' | ⟨h1,h2⟩
  .obtain⟨a1,a2,a3⟩:=Dk b hb';exact⟨a1,NI a2 hg.size,a3⟩
  .obtain⟨a1,a2,a3,_⟩:=hX b hb';exact⟨a1,NI a2 hg.size,a3⟩
  .exact⟨B.up _ (o8 ok.below.size h1),h2,nf b h1⟩
 have apart:∀j rj vj b,j≠i->T[j]?=some rj->rj.live=true->β[j]?=some vj->vj.has b->v.has b->False:=by
  intro j rj vj b hj ej lj jo hb hb2;rcases hv b hb2 with hb' | hb' | ⟨h1,h2⟩
  .exact hj (ok.inj j i rj r vj u b ej lj hT hl jo hu hb hb')
  .exact(hX b hb').2.2.2 j rj vj hj ej lj jo hb
  .have:=(ok.own j rj vj b ej lj jo hb).2.1;omega
 have get:∀{j:Nat}{rj:ay},j≠i->((T.map (mR f)).set i r')[j]?=some rj->∃r0,T[j]?=some r0/\rj=mR f r0:=by
  intro j rj hj e;rw[mO (Ne.symm hj),Df]at e;cases hh:T[j]? with
  | none=>rw[hh]at e;cases e
  | some r0=>rw[hh]at e;cases e;exact⟨r0,rfl,rfl⟩
 exact {
  below:=ok.below.grown hg.togrownBy λk e=>(Dk k (kT k e)).1
  dr:=o8 ok.dr hg.dr
  len:=by simp[ok.len]
  holds:=by
   intro j rj vj ej jo
   by_cases hj:j=i
   .subst hj;rw[qx (by simpa using hi)]at ej
    rw[qx hi']at jo;cases ej;cases jo;exact hold
   .obtain⟨r0,e0,rfl⟩:=get hj ej;rw[mO (Ne.symm hj)]at jo;refine(ok.holds j r0 vj e0 jo).map (FH.le.refl h) hC λhlj b hb=>hg.block b (ok.own j r0 vj b e0 hlj jo hb).2.1 λe=>hj ?_
    exact ok.inj j i r0 r vj u b e0 hlj hT hl jo hu hb (kT b e.symm)
  own:=by
   intro j rj vj b ej hlj jo hb
   by_cases hj:j=i
   .subst hj;rw[qx hi']at jo;cases jo;exact Wj b hb
   .obtain⟨r0,e0,rfl⟩:=get hj ej;rw[mO (Ne.symm hj)]at jo;obtain⟨a1,a2,a3⟩:=ok.own j r0 vj b e0 (by rw[<-pV f];exact hlj) jo hb
    exact⟨a1,NI a2 hg.size,a3⟩
  inj:=by
   intro j k r1 r2 u1 u2 b e1 l1 e2 l2 e3 e4 b1 b2
   by_cases hj:j=i<;>by_cases hk:k=i
   .rw[hj,hk]
   .exfalso;subst hj;rw[qx hi']at e3;cases e3;obtain⟨r0,e0,rfl⟩:=get hk e2;rw[mO (Ne.symm hk)]at e4;exact apart k r0 u2 b hk e0 (by rw[<-pV f];exact l2) e4 b2 b1
   .exfalso;subst hk;rw[qx hi']at e4;cases e4;obtain⟨r0,e0,rfl⟩:=get hj e1;rw[mO (Ne.symm hj)]at e3;exact apart j r0 u1 b hj e0 (by rw[<-pV f];exact l1) e3 b1 b2
   .obtain⟨r0,e0,rfl⟩:=get hj e1;obtain⟨r0',e0',rfl⟩:=get hk e2;rw[mO (Ne.symm hj)]at e3;rw[mO (Ne.symm hk)]at e4;exact ok.inj j k r0 r0' u1 u2 b e0 (by rw[<-pV f];exact l1) e0' (by rw[<-pV f];exact l2) e3 e4 b1 b2
  hle:=ok.hle
  hw:=frozen_kept ok.hw hg λk e=>(Dk k (kT k e)).2.2
  hg:=ok.hg
  kn:=ok.kept hg λb e=>(ok.holds i r u hT hu).cells hl (kT b e) }
theorem OK.aoZ(ok:OK B h0 T h β w){v:RV}
 (hX:∀b,v.has b->B.al b/\b < w.heap.size/\(∀o,h b o=none)/\∀(j:Nat) (rj:ay) (vj:RV),T[j]?=some rj->rj.live=true->β[j]?=some vj->¬vj.has b) (hold:Holds h (β++[v]) w r v):
 OK B h0 (T++[r]) h (β++[v]) w where
 below:=ok.below
 dr:=ok.dr
 len:=by simp[ok.len]
 holds:=by
  intro i r' v' e e';rcases aC e with⟨hi,e⟩ | ⟨hi,rfl⟩
  .rcases aC e' with⟨_,e'⟩ | ⟨hj,_⟩
   .exact(ok.holds i r' v' e e').move (FH.le.refl h) (Ext.append _ _) λhl b hb=>rfl
   .have:=ok.len;omega
  .rcases aC e' with⟨hj,e'⟩ | ⟨_,rfl⟩
   .have:=ok.len;omega
   .exact hold
 own:=by
  intro i r' v' b e hl e' hb;rcases aC e' with⟨hj,e'⟩ | ⟨hj,rfl⟩
  .rcases aC e with⟨_,e⟩ | ⟨hi,rfl⟩
   .exact ok.own i r' v' b e hl e' hb
   .have:=ok.len;omega
  .obtain⟨h1,h2,h3,_⟩:=hX b hb;exact⟨h1,h2,h3⟩
 inj:=by
  intro i j r1 r2 u v' b ei hl1 ej hl2 eu ev hu hv';have L:=ok.len;rcases aC ei with⟨hi,ei⟩ | ⟨hi,_⟩<;>rcases aC ej with⟨hj,ej⟩ | ⟨hj,_⟩<;>
   rcases aC eu with⟨hi',eu⟩ | ⟨hi',rfl⟩<;>rcases aC ev with⟨hj',ev⟩ | ⟨hj',rfl⟩<;>first
    | omega
    | exact ok.inj i j r1 r2 u v' b ei hl1 ej hl2 eu ev hu hv'
    | exact((hX b hv').2.2.2 i r1 u ei hl1 eu hu).elim
    | exact((hX b hu).2.2.2 j r2 v' ej hl2 ev hv').elim
 hle:=ok.hle
 hw:=ok.hw
 hg:=ok.hg
 kn:=ok.kn
abbrev Gz:Nat->Bool:=λ_=>false
def xE:Nat->Value:=λ_=>mZ
theorem oL(j:Nat):aA (xE j)=none:=rfl
theorem IU{s:Sh}{l:List s.den} (x:lT h w t s l v):eU h w t s l tt e so Gz [] v xE:=by
 refine⟨λj k b hb=>(by rw[oL]at hb;cases hb),λj b hb=>(by rw[oL]at hb;cases hb),?_⟩
 rcases x with x | x | ⟨g,cap,cur,e0,e1,e2,e3,e4,r⟩
 .exact .inl x
 .exact .inr (.inl x)
 .refine .inr (.inr ⟨g,cap,cur,e0,e1,e2,e3,e4,λj=>by rw[oL];simp,λj d hd=>?_⟩)
  obtain⟨g1,g2⟩:=r.get (λ_ _=>Rd.size s) hd
  refine⟨?_,oL j⟩;have hj:=(A8.1 hd).1;have hm:(j+1) * s.size<=l.length * s.size:=x9 _ hj;rw[wW]at hm;have e5:List.take s.size (List.drop (j * s.size) (List.take (l.length * s.size) cur.toList))=List.take s.size (List.drop (j * s.size) cur.toList):=by
   apply H9;intro p;simp only[uX,JY];split
   .rw[if_pos (by omega)]
   .rfl
  rw[e5]at g1;exact g1
abbrev KT(s:St) (i:Nat) (tt:TypeId) (e:Sh) (so:Nat):St:=match eY s.T i with
 | some ([],.row t sh l)=>{ s with T:=dB s.T i ([],.deep t sh l tt e so Gz []) }
 | _=>s
theorem ag8(r:ay):mR (λx=>x) r=r:=by
 have:∀l:List SC,fA (λx=>x) l=l:=by
  intro l
  induction l with
  | nil=>rfl
  | cons x l ih=>simp[fA,ih]
 cases r<;>simp[mR,this]
theorem Sat.KT(aj:Sat N B h0 s h β w a) (i:Nat) (tt:TypeId) (e:Sh) (so:Nat):∃β',Sat N B h0 (KT s i tt e so) h β' w a:=by
 unfold jl.KT;split
 .rename_i t sh l hT;have fQ:=bH hT (show gv s.gl []=true from rfl)
  have iO:i < β.length:=by rw[aj.ok.len];exact(A8.1 fQ).1
  have hu:=lK iO;have hold:=aj.ok.holds i _ _ fQ hu;cases hb:β[i]with
  | blk b=>rw[hb]at hold;cases hold
  | no=>rw[hb]at hold;cases hold
  | deep _ _=>rw[hb]at hold;cases hold
  | row v=>
    rw[hb]at hold hu;have hC:∀x y,dZ h β x y->dZ h (β.set i (.deep v xE)) x y:=by
     intro x y c;have:=dZ.js (us:=xE) (us':=xE) hu (.inr rfl) c;cases x with
     | sub j k=>
       obtain⟨z,ug,e1,e2⟩:=c;refine⟨z,ug,?_,e2⟩;rw[dM hu,if_neg]
       .exact e1
       .rintro rfl;rw[hu]at e1;cases e1
     | lM j k m sz off=>
       obtain⟨z,ug,g,e1,e2⟩:=c;refine⟨z,ug,g,?_,e2⟩;rw[dM hu,if_neg]
       .exact e1
       .rintro rfl;rw[hu]at e1;cases e1
     | _=>exact this
    refine⟨β.set i (.deep v xE),?_,?_,aj.gs,aj.defers,aj.sz,aj.gb,ql aj⟩
    .show OK B h0 (eff s.gl (dB s.T i ([],.deep t sh l tt e so Gz []))) h _ w;rw[xw];have:=aj.ok.OE (f:=λx=>x) (r':=.deep t sh l tt e so Gz []) (v:=.deep v xE) (row:=none) (X:=λ_=>False) fQ rfl hu (cO w none) (λk e=>by cases e) (λb hb=>hb.elim)
      (λb hb=>by
       rw[aX]at hb;rcases hb with hb | ⟨j,hb⟩
       .exact .inl (bC.2 hb)
       .rw[oL]at hb;cases hb) hC (IU hold)
     rwa [show(eff s.gl s.T).map (mR λx=>x)=eff s.gl s.T by rw[show(mR λx=>x)=id from funext ag8];simp]at this
    .intro t' G e' ht;obtain⟨z,q1,q2,q3⟩:=aj.env t' G e' ht;refine⟨z,q1,λhG=>?_,q3⟩
     have:=jP.map (f:=λx=>x) (FH.le.refl h) hC (q2 hG)
     have hid:mE (λx=>x) e'=e':=by
      have m1:∀l:List SC,fA (λx=>x) l=l:=by
       intro l
       induction l with
       | nil=>rfl
       | cons x l ih=>simp[fA,ih]
      have m2:∀x:SV,mV (λx=>x) x=x:=by intro x;cases x<;>simp[mV,m1]
      cases e' with
      | one x=>simp[mE,m2]
      | iq xs=>
        have:∀l:List SV,fA (mV λx=>x) l=l:=by
         intro l
         induction l with
         | nil=>rfl
         | cons x l ih=>simp[fA,ih,m2]
        simp[mE,this]
     rwa [hid]at this
 .exact⟨β,aj⟩
theorem eU.third{sh:Sh}{l:List sh.den}{own:Nat->Bool}{us:Nat->Value} (D:eU h w t sh l tt e so own hs v us) (hj:j < l.length):
 ∃g cap cur,v=.slice (some ⟨g,0,none⟩) l.length cap/\w.heap[g]?=some (.cells cur t (0,0))/\l.length<=cap/\(1<=cap/\cap<=maxLen) /\
   cur.size=cap * sh.size/\(∀j,aA (us j)≠some g)/\∀j d,l[j]?=some d->zX h w sh tt e so (own j) (nJ j hs) (us j) ((cur.toList.drop (j * sh.size)).take sh.size) d:=by
 obtain⟨_,_,D⟩:=D;rcases D with⟨_,e0⟩ | ⟨_,_,e0⟩ | D
 .subst e0;simp at hj
 .subst e0;simp at hj
 .exact D
theorem eU.get{sh:Sh}{l:List sh.den}{own:Nat->Bool}{us:Nat->Value} (D:eU h w t sh l tt e so own hs v us){d:sh.den} (hd:l[j]?=some d) (ho:own j=true) (hh:nJ j hs=false)
 {x:List e.den} (hx:FT sh d so e=some x):lT h w tt e x (us j):=by
 obtain⟨_,_,_,_,_,_,_,_,_,h6⟩:=D.third (A8.1 hd).1;have h7:=h6 j d hd;rw[ho,hh]at h7;obtain⟨d0,x',_,p,_,rw_⟩:=h7;rw[Io p hx];exact rw_
theorem eU.inner{sh:Sh}{l:List sh.den}{own:Nat->Bool}{us:Nat->Value} (D:eU h w t sh l tt e so own hs v us){d d':sh.den} (hd:l[j]?=some d) (ho:own j=true) (hh:nJ j hs=false)
 (fr:∀b,aA (us j)≠some b->(∃o,w.heap[b]?=some o)->w'.heap[b]?=w.heap[b]?) (ce:∀b,aA (us j)=some b->∃o,w'.heap[b]?=some o/\ours o=true){x':List e.den} (hp:FU sh d so e x'=some d') (hr:lT h w' tt e x' (us j)):eU h w' t sh (l.set j d') tt e so own hs v us:=by
 have hj:=(A8.1 hd).1;obtain⟨g,cap,cur,e0,e1,e2,e3,e4,e5,e6⟩:=D.third hj;obtain⟨D1,D2,_⟩:=D;have fr':∀i b,i≠j->aA (us i)=some b->w'.heap[b]?=w.heap[b]?:=by
  intro i b hi hb;obtain⟨_,o,ho,_⟩:=D2 i b hb;exact fr b (λhh=>hi (D1 i j b hb hh)) ⟨o,ho⟩
 refine⟨D1,λi b hb=>?_,.inr (.inr ⟨g,cap,cur,by rw[wU];exact e0,?_,by rw[wU];exact e2,e3,e4,e5,λi di hdi=>?_⟩)⟩
 .rw[wU];obtain⟨q1,o,q2,q3⟩:=D2 i b hb
  by_cases hi:i=j
  .subst hi;exact⟨q1,ce b hb⟩
  .exact⟨q1,o,by rw[fr' i b hi hb];exact q2,q3⟩
 .rw[fr g (e5 j) ⟨_,e1⟩];exact e1
 .by_cases hi:i=j
  .subst hi;rw[qx hj]at hdi;cases hdi;have h7:=e6 i d hd;rw[ho,hh]at h7 ⊢;obtain⟨d0,y,r,p,c,q⟩:=h7;exact⟨d0,x',r,p.trans (Il hp),c,hr⟩
  .rw[mO (Ne.symm hi)]at hdi;exact(e6 i di hdi).move (FH.le.refl h) λb hb=>fr' i b hi hb
theorem eU.write{sh:Sh}{l:List sh.den}{own own':Nat->Bool}{hs':List Nat}{us us':Nat->Value} (D:eU h w t sh l tt e so own hs v us){d d':sh.den} (hd:l[j]?=some d)
 {cap:Nat}{cur:Array Value} (hv:v=.slice (some ⟨g,0,none⟩) l.length cap) (hw:w.heap[g]?=some (.cells cur t (0,0))) (hk:off+k<=sh.size){cs':List Value} (hc:cs'.length=k)
 (same:∀i,i≠j->own' i=own i/\nJ i hs'=nJ i hs/\us' i=us i) (apart:∀i b,i≠j->aA (us i)=some b->aA (us' j)≠some b) (bl:∀b,aA (us' j)=some b->b≠g/\∃o,w.heap[b]?=some o/\ours o=true)
 (el:∀(w':World) cs,(∀b,b≠g->w'.heap[b]?=w.heap[b]?)->cs.length=sh.size->zX h w sh tt e so (own j) (nJ j hs) (us j) cs d->zX h w' sh tt e so (own' j) (nJ j hs') (us' j) (cs.take off++cs'++cs.drop (off+k)) d'):
 j * sh.size+off+k<=cur.size/\eU h (w.setRow g (cur.toList.take (j * sh.size+off)++cs'++cur.toList.drop (j * sh.size+off+k)).toArray) t sh (l.set j d') tt e so own' hs' v us':=by
 have hj:=(A8.1 hd).1;obtain⟨g2,cap2,D9,e0,e1,e2,e3,e4,e5,e6⟩:=D.third hj;rw[hv]at e0;have eg:g=g2/\cap=cap2:=by simpa using e0
 obtain⟨rfl,rfl⟩:=eg;rw[hw]at e1;have ec:cur=D9:=by simpa using e1
 subst ec;obtain⟨D1,D2,_⟩:=D;have lc:cur.toList.length=cap * sh.size:=by simpa using e4
 have hm:(j+1) * sh.size<=cap * sh.size:=x9 _ (by omega)
 rw[wW]at hm;refine⟨by omega,?_⟩
 generalize hw':w.setRow g (cur.toList.take (j * sh.size+off)++cs'++cur.toList.drop (j * sh.size+off+k)).toArray=w';have fr:∀b,b≠g->w'.heap[b]?=w.heap[b]?:=λb hb=>by rw[<-hw'];exact setRow_other w g b _ hb
 have hg':w'.heap[g]?=some (.cells (cur.toList.take (j * sh.size+off)++cs'++cur.toList.drop (j * sh.size+off+k)).toArray t (0,0)):=by rw[<-hw'];exact setRow_heap w g _ _ t (0,0) hw
 have ne:∀i b,aA (us i)=some b->b≠g:=λi b hb hh=>e5 i (by rw[hb,hh])
 refine⟨λi k b h1 h2=>?_,λi b hb=>?_,.inr (.inr ⟨g,cap,_,by rw[wU];exact hv,hg',by rw[wU];exact e2,e3,?_,λi hb=>?_,λi di hdi=>?_⟩)⟩
 .by_cases hi:i=j<;>by_cases hk:k=j
  .rw[hi,hk]
  .subst hi;rw[(same k hk).2.2]at h2;exact(apart k b hk h2 h1).elim
  .subst hk;rw[(same i hi).2.2]at h1;exact(apart i b hi h1 h2).elim
  .rw[(same i hi).2.2]at h1;rw[(same k hk).2.2]at h2;exact D1 i k b h1 h2
 .rw[wU]
  by_cases hi:i=j
  .subst hi;obtain⟨q1,o,q2,q3⟩:=bl b hb;exact⟨hj,o,by rw[fr b q1];exact q2,q3⟩
  .rw[(same i hi).2.2]at hb;obtain⟨q1,o,q2,q3⟩:=D2 i b hb;exact⟨q1,o,by rw[fr b (ne i b hb)];exact q2,q3⟩
 .simp only[FM,ku,kV,yc];omega
 .by_cases hi:i=j
  .subst hi;exact(bl g hb).1 rfl
  .rw[(same i hi).2.2]at hb;exact e5 i hb
 .by_cases hi:i=j
  .subst hi;rw[qx hj]at hdi;cases hdi;have h7:=el w' _ fr (by rw[kV,yc];omega) (e6 i d hd)
   have key:List.take sh.size (List.drop (i * sh.size) (List.take (i * sh.size+off) cur.toList++cs'++List.drop (i * sh.size+off+k) cur.toList))=List.take off (List.take sh.size (List.drop (i * sh.size) cur.toList))++cs'++List.drop (off+k) (List.take sh.size (List.drop (i * sh.size) cur.toList)):=by
    apply H9;intro p;simp only[A91,uX,JY,ku,kV,yc,lc,hc]
    repeat' split
    all_goals first | rfl | omega | (congr 1;omega) | (rw[BH (by omega)]) | (exfalso;omega) | skip
   simp only at key ⊢;rw[key];exact h7
  .rw[mO (Ne.symm hi)]at hdi;obtain⟨q1,q2,q3⟩:=same i hi;rw[q1,q2,q3];have h7:=(e6 i di hdi).move (w':=w') (FH.le.refl h) λb hb=>fr b (ne i b hb)
   have hi2:=(A8.1 hdi).1;have hm2:(i+1) * sh.size<=cap * sh.size:=x9 _ (by omega)
   rw[wW]at hm2;have hne:i * sh.size+sh.size<=j * sh.size\/j * sh.size+sh.size<=i * sh.size:=by
    rcases Nat.lt_or_gt_of_ne hi with hh | hh
    .left;have:(i+1) * sh.size<=j * sh.size:=x9 _ hh
     rwa [wW]at this
    .right;have:(j+1) * sh.size<=i * sh.size:=x9 _ hh
     rwa [wW]at this
   have key:List.take sh.size (List.drop (i * sh.size) (List.take (j * sh.size+off) cur.toList++cs'++List.drop (j * sh.size+off+k) cur.toList))=List.take sh.size (List.drop (i * sh.size) cur.toList):=by
    apply H9;intro p;simp only[A91,uX,JY,ku,kV,yc,lc,hc]
    repeat' split
    all_goals first | rfl | omega | (congr 1;omega) | (rw[BH (by omega)]) | (exfalso;omega) | skip
   simp only at key ⊢;rw[key];exact h7
abbrev qP(us:Nat->Value) (j:Nat):Nat->Value:=λk=>if k=j then mZ else us k
theorem eU.open{sh:Sh}{l:List sh.den}{own:Nat->Bool}{us:Nat->Value} (D:eU h w t sh l tt e so own [] v us){d:sh.den} (hd:l[j]?=some d) (ho:own j=true):eU h w t sh l tt e so own [j] v (qP us j):=by
 have hj:=(A8.1 hd).1;obtain⟨g,cap,cur,e0,e1,e2,e3,e4,e5,e6⟩:=D.third hj;obtain⟨D1,D2,_⟩:=D;have sub:∀i b,aA (qP us j i)=some b->i≠j/\aA (us i)=some b:=by
  intro i b hb;unfold qP at hb;split at hb
  .cases hb
  .rename_i hi;exact⟨hi,hb⟩
 refine⟨λi k b h1 h2=>D1 i k b (sub i b h1).2 (sub k b h2).2,λi b hb=>D2 i b (sub i b hb).2,.inr (.inr ⟨g,cap,cur,e0,e1,e2,e3,e4,λi hb=>e5 i (sub i g hb).2,λi di hdi=>?_⟩)⟩
 have h7:=e6 i di hdi
 by_cases hi:i=j
 .subst hi;rw[ho]at h7;obtain⟨d0,y,r,p,c,q⟩:=h7;have e7:nJ i [i]=true:=by simp[nJ]
  rw[e7];refine⟨by simp[qP,mZ,aA],d0,y,r,p,us i,c,?_⟩
  rcases q with⟨e1,_⟩ | ⟨_,e1,_⟩ | ⟨_,_,_,e1,_⟩<;>rw[e1]<;>exact⟨rfl,rfl⟩
 .have e7:nJ i [j]=false:=by simp[nJ,hi]
  have e8:qP us j i=us i:=by simp[qP,hi]
  rw[e7,e8];exact h7
theorem yU:∀{s:Sh}{so:Nat}{e:Sh}{d0 d d':s.den}{x:List e.den}{off k:Nat}{v:SV},lU s so e d0 x d->off+k<=so\/so+1<=off->yA s d off k v=some d'->∃d0',yA s d0 off k v=some d0'/\lU s so e d0' x d'
 | .sl s,so,e,d0,d,d',x,off,k,v,⟨h1,_,_⟩,hd,h=>by
   exfalso;unfold yA at h;split at h
   .rename_i hh;rw[aB,bV]at hh;have a1:=iw hh.1;have a2:1=k:=iw hh.2;omega
   .cases h
 | .pair a b,so,e,(p0,q0),(p,q),d',x,off,k,v,hp,hd,h=>by
   have iO:so < a.size+b.size:=lU.lt hp;unfold yA at h ⊢
   cases hw:dD (Nat.beq off 0) (Nat.beq (a.size+b.size) k) with
   | true=>
     rw[aB,bV]at hw;have a1:=iw hw.1;have a2:=iw hw.2;omega
   | false=>
     rw[hw]at h;simp only at h ⊢
     cases hle:Nat.ble (off+1) a.size with
     | true=>
       rw[hle]at h;simp only at h ⊢
       have hle:=qj hle;split at h
       .rename_i y hy;cases h;rcases hp with⟨g1,e1,h1⟩ | ⟨g1,e1,h1⟩
        .subst e1;rw[hy];exact⟨_,rfl,.inl ⟨g1,rfl,h1⟩⟩
        .obtain⟨z,hz,h2⟩:=yU h1 hd hy;rw[hz];exact⟨_,rfl,.inr ⟨g1,e1,h2⟩⟩
       .cases h
     | false=>
       rw[hle]at h;simp only at h ⊢
       have hle:=vw hle;split at h
       .rename_i y hy;cases h;rcases hp with⟨g1,e1,h1⟩ | ⟨g1,e1,h1⟩
        .obtain⟨z,hz,h2⟩:=yU h1 (by omega) hy
         rw[hz];exact⟨_,rfl,.inl ⟨g1,e1,h2⟩⟩
        .subst e1;rw[hy];exact⟨_,rfl,.inr ⟨g1,rfl,h1⟩⟩
       .cases h
 | .int _,_,_,_,_,_,_,_,_,_,h,_,_=>h.elim
 | .bool,_,_,_,_,_,_,_,_,_,h,_,_=>h.elim
 | .str,_,_,_,_,_,_,_,_,_,h,_,_=>h.elim
 | .any,_,_,_,_,_,_,_,_,_,h,_,_=>h.elim
 | .unit,_,_,_,_,_,_,_,_,_,h,_,_=>h.elim
 | .arr _ _,_,_,_,_,_,_,_,_,_,h,_,_=>h.elim
theorem set_mid{cs':List Value}{z:Value} (hk:cs'.length=k) (hl:off+k<=cs.length) (hd:off+k<=so\/so+1<=off):
 (cs.set so z).take off++cs'++(cs.set so z).drop (off+k)=(cs.take off++cs'++cs.drop (off+k)).set so z:=by
 apply H9;intro p;simp only[A91,uX,JY,ku,kV,yc,List.getElem?_set,wU,hk]
 repeat' split
 all_goals first | rfl | omega | (congr 1;omega) | (exfalso;omega) | skip
theorem zX.upd{s:Sh}{own hole:Bool}{u:Value}{d d':s.den}{v:SV} (x:zX h w s tt e so own hole u cs d) (dis:off+k<=so\/so+1<=off)
 (hu:yA s d off k v=some d') (c:dA h β v y):∃cs',y.cells=cs'.toArray/\cs'.length=k/\(∀u∈cs',dG u)/\off+k<=cs.length/\zX h w s tt e so own hole u (cs.take off++cs'++cs.drop (off+k)) d':=by
 have ag9:∀{cs':List Value}{z:Value},cs'.length=k->off+k<=cs.length->cs[so]?=some z->(cs.take off++cs'++cs.drop (off+k))[so]?=some z:=by
  intro cs' z hk hl hz;have iO:=(A8.1 hz).1;rcases dis with dis | dis
  .rw[NH (by simp only[ku,kV];omega),JY,<-hz]
   congr 1
   simp only[ku,kV];omega
  .rw[VE (by simp only[ku,kV];omega),VE (by simp only[kV];omega),uX,if_pos (by omega)]
   exact hz
 unfold zX at x ⊢;cases hole with
 | false=>
   cases own with
   | false=>
     obtain⟨cs',e1,e2,e3,e4,e5⟩:=nM s hu x.1 c;exact⟨cs',e1,e2,e3,e4,e5,x.2⟩
   | true=>
     obtain⟨d0,z,r,p,cu,q⟩:=x;obtain⟨d0',h1,h2⟩:=yU p dis hu;obtain⟨cs',e1,e2,e3,e4,e5⟩:=nM s h1 r c;rw[wU]at e4;rw[set_mid e2 e4 dis]at e5;exact⟨cs',e1,e2,e3,e4,d0',z,e5,h2,ag9 e2 e4 cu,q⟩
 | true=>
   obtain⟨x0,d0,z,r,p,y0,cu,q⟩:=x;obtain⟨d0',h1,h2⟩:=yU p dis hu;obtain⟨cs',e1,e2,e3,e4,e5⟩:=nM s h1 r c;rw[wU]at e4;rw[set_mid e2 e4 dis]at e5;exact⟨cs',e1,e2,e3,e4,x0,d0',z,e5,h2,y0,ag9 e2 e4 cu,q⟩
abbrev tu(own:Nat->Bool) (j:Nat):Nat->Bool:=λk=>cnd (decide (k=j)) true (own k)
abbrev rowOf:SV->Option Nat
 | .c (.row q)=>some q
 | _=>none
abbrev aha(hs:List Nat) (j:Nat) (K:Prop):Prop:=match hs with
 | []=>K
 | [k]=>j=k/\K
 | _=>False
abbrev QO(s:St) (d:Option Nat) (i:TI) (r j sz off:Nat) (tt:TypeId) (sh:Sh) (l:List sh.den) (t2:TypeId) (e:Sh) (so:Nat) (own:Nat->Bool) (hs:List Nat) (v:SV) (K:St->Prop):Prop:=match Nat.beq sz sh.size with
 | false=>False
 | true=>match acJ (Nat.ble (off+i.size) so) (Nat.ble (so+1) off) with
   | true=>(j < l.length)/\∀e0:sh.den,l[j]?=some e0->match yA sh e0 off i.size v with
     | some dd=>K ({ s with T:=dB s.T r ([],.deep tt sh (l.set j dd) t2 e so own hs) }.put d [] (.one .und))
     | none=>False
   | false=>match rowOf v with
     | some q=>match eY s.T q with
       | some ([],.row tq eq x)=>match dD (Nat.beq tq t2) (dD (Nat.beq off so) (Nat.beq i.size 1)) with
         | true=>match jA (.sl eq) x (.sl e) with
           | some x=>(j < l.length)/\aha hs j (∀e0:sh.den,l[j]?=some e0->match FU sh e0 so e x with
             | some dd=>K ({ s with T:=dB (mT (uH r) (dB s.T q ([],.gone))) r ([],.deep tt sh (l.set j dd) t2 e so (tu own j) []),env:=yT (uH r) s.env }.put d [] (.one .und))
             | none=>False)
           | none=>False
         | false=>False
       | _=>False
     | none=>False
abbrev acY(cx:Cx) (s:St) (d:Option Nat) (t:TypeId) (p x:Operand) (K:St->Prop):Option Prop:=match pO cx.ti t with
 | none=>none
 | some i=>match bM cx s [] p with
   | some (.one (.c (.jR r j sz off)))=>match eY s.T r with
     | some ([],.deep tt sh l t2 e so own hs)=>match bM cx s [] x with
       | some (.one v)=>some (QO s d i r j sz off tt sh l t2 e so own hs v K)
       | _=>none
     | _=>none
   | some (.one (.c (.lM r j k sz off)))=>match eY s.T r with
     | some ([],.deep tt sh l t2 e so own hs)=>match bM cx s [] x with
       | some (.one v)=>some (match Nat.beq sz e.size with
         | false=>False
         | true=>(own j=true/\nJ j hs=false/\j < l.length)/\∀d0:sh.den,l[j]?=some d0->match FT sh d0 so e with
           | some xs=>(k < xs.length)/\∀y:e.den,xs[k]?=some y->match yA e y off i.size v with
             | some y'=>match FU sh d0 so e (xs.set k y') with
               | some dd=>K ({ s with T:=dB s.T r ([],.deep tt sh (l.set j dd) t2 e so own hs) }.put d [] (.one .und))
               | none=>False
             | none=>False
           | none=>False)
       | _=>none
     | _=>none
   | _=>none
theorem lT.write{sh:Sh}{l:List sh.den}{u:Value} (x:lT h w t sh l u){d dd:sh.den} (hg:aA u=some g) (hd:l[j]?=some d) (up:∀{cs:List Value},Rd h sh cs d->Upd h sh cs off k y dd):
 ∃cur,w.heap[g]?=some (.cells cur t (0,0))/\j * sh.size+off+k<=cur.size/\y.cells.size=k/\(∀z∈y.cells.toList,dG z)/\lT h (w.setRow g (cur.toList.take (j * sh.size+off)++y.cells.toList++cur.toList.drop (j * sh.size+off+k)).toArray) t sh (l.set j dd) u:=by
 have hj:=(A8.1 hd).1;rcases x with⟨hv0,_⟩ | ⟨_,hv0,_⟩ | ⟨g',cap,cur,hv0,he,q2,q3,q4,q5⟩
 .subst hv0;simp[aA]at hg
 .subst hv0;simp[aA]at hg
 .have hgg:g'=g:=by rw[hv0,aY q3.1]at hg;exact Ia hg
  subst hgg;have hm:(j+1) * sh.size<=l.length * sh.size:=x9 _ hj;have hm2:l.length * sh.size<=cap * sh.size:=x9 _ q2;rw[wW]at hm;obtain⟨g1,g2⟩:=q5.get (λ_ _=>Rd.size sh) hd
  have gl:=Rd.size sh g1;obtain⟨cs',ec,e2,e3,e4,e5⟩:=up g1;rw[gl]at e4;have lc:cur.toList.length=cap * sh.size:=by simpa using q4
  refine⟨cur,he,by omega,by rw[ec];simpa using e2,λz hz=>e3 z (by rw[ec]at hz;simpa using hz),.inr (.inr ⟨g',cap,_,by rw[wU];exact hv0,setRow_heap w g' _ _ t (0,0) he,by rw[wU];exact q2,q3,?_,?_⟩)⟩
  .rw[ec];simp only[FM,ku,kV,yc,TM];omega
  .rw[wU,ec];show fV (Rd h sh) ((List.take (j * sh.size+off) cur.toList++cs'++List.drop (j * sh.size+off+k) cur.toList).take (l.length * sh.size)) (l.set j dd);have e:=fV.set (λ_ _=>Rd.size sh) q5 hj e5
   have key:(List.take (j * sh.size+off) cur.toList++cs'++List.drop (j * sh.size+off+k) cur.toList).take (l.length * sh.size) =
    List.take (j * sh.size) (List.take (l.length * sh.size) cur.toList)++(List.take off (List.take sh.size (List.drop (j * sh.size) (List.take (l.length * sh.size) cur.toList)))++cs'++List.drop (off+k) (List.take sh.size (List.drop (j * sh.size) (List.take (l.length * sh.size) cur.toList))))++List.drop (j * sh.size+sh.size) (List.take (l.length * sh.size) cur.toList):=by
    apply H9;intro p;simp only[A91,uX,JY,ku,kV,yc,lc,e2]
    repeat' split
    all_goals first | rfl | omega | (congr 1;omega) | (rw[BH (by omega)]) | (exfalso;omega) | skip
   rw[key];exact e
theorem take_set{o:Nat} (h:o < cs.length):cs.take o++[y]++cs.drop (o+1)=cs.set o y:=by
 rw[List.set_eq_take_append_cons_drop,if_pos h];simp
theorem Xi(hc:bQ P cx.ti) (aj:Sat N B h0 s h β w a) (hg:aK cx.gd h) (hd:lJ N o.dst=true){p x:Operand} (ho:o.op=.store t p x){q:Prop} (hq:acY cx s o.dst t p x K=some q) (k:q):
 gq P N B h0 h w a o (gv s.gl []) K:=by
 have tr:gv s.gl []=true:=rfl;unfold acY at hq;split at hq
 .cases hq
 rename_i i hi;have ti:=hc.get hi;have exec:∀{w':World}{v pv:Value},a.eval x=v->a.eval p=pv->(Instr.storeAt t pv v).run P w=.ok () w'->(execOp a.eval o).run P w=.ok .skip w':=by
  intro w' v pv e1 e2 r;simp only[execOp,ho,e1,e2,Sem.run_bind,r,Result.andThen_ok,Sem.run_pure]
 split at hq
 .rename_i r j sz off hp;obtain⟨⟨v0,g,hb,hgb,ep⟩,_⟩:=aP aj hg tr hp;split at hq
  .rename_i tt sh l t2 e so own hs hT;have fQ:=bH hT tr;have hold:=aj.ok.holds r _ _ fQ hb;split at hq
   .rename_i v hv;have cv:=aP aj hg tr hv;cases hq
    match v0,hold,hgb,hb with
    | .deep vv us,D,hgb,hb=>
      have D:eU h w tt sh l t2 e so own hs vv us:=D;have hgb:aA vv=some g:=hgb;have outer:∀{j:Nat},j < l.length->∃cap cur,vv=.slice (some ⟨g,0,none⟩) l.length cap/\w.heap[g]?=some (.cells cur tt (0,0))/\∀d,l[j]?=some d->zX h w sh t2 e so (own j) (nJ j hs) (us j) ((cur.toList.drop (j * sh.size)).take sh.size) d/\(j+1) * sh.size<=cur.size:=by
       intro j hj;obtain⟨g2,cap,cur,e0,e1,e2,e3,e4,e5,e6⟩:=D.third hj;rw[e0,aY e3.1]at hgb;cases hgb;refine⟨cap,cur,e0,e1,λd hd=>⟨e6 j d hd,?_⟩⟩
       rw[e4];exact x9 _ (by omega)
      unfold QO at k;split at k
      .cases k
      rename_i hz;have hz:sz=sh.size:=iw hz;split at k
      .rename_i hdis;have hdis:off+i.size<=so\/so+1<=off:=by
        unfold acJ at hdis;split at hdis
        .rename_i hh;exact .inl (qj hh)
        .exact .inr (qj hdis)
       obtain⟨hj,k⟩:=k;have k:=k _ (lK hj);split at k
       .rename_i dd hdd;obtain⟨cap,cur,e0,e1,e2⟩:=outer hj;obtain⟨el,hsz⟩:=e2 _ (lK hj);obtain⟨cs',ec,c2,c3,c4,c5⟩:=el.upd hdis hdd cv;rw[wW]at hsz;have hcl:((cur.toList.drop (j * sh.size)).take sh.size).length=sh.size:=by rw[kV,yc,TM];omega
        rw[hcl]at c4;obtain⟨f1,f2⟩:=D.write (own':=own) (hs':=hs) (us':=us) (d':=dd) (cs':=cs') (off:=off) (k:=i.size) (lK hj) e0 e1 c4 c2 (λ_ _=>⟨rfl,rfl,rfl⟩) (λi' b hi' hb' hb2=>hi' (D.1 _ _ b hb' hb2)) (λb hb'=>⟨λhh=>(D.third hj).elim λg2 z=>by
         obtain⟨cap2,D9,f0,_,f3,f4,_,f5,_⟩:=z;rw[f0,aY f4.1]at hgb;cases hgb;exact f5 j (by rw[hb',hh]),(D.2.1 j b hb').2⟩) (λw' cs fr hl ex=>by
         obtain⟨cs2,ec2,_,_,_,ex2⟩:=ex.upd hdis hdd cv;have:cs2=cs':=by rw[ec]at ec2;simpa using ec2.symm
         subst this;refine ex2.move (FH.le.refl h) λb hb'=>fr b λhh=>?_
         obtain⟨g2,cap2,D9,f0,_,_,f4,_,f5,_⟩:=D.third hj;rw[f0,aY f4.1]at hgb;cases hgb;exact f5 j (by rw[hb',hh]))
        have r1:=fD (o:=j * sz+off) (v:=a.eval x) ti e1 (by rw[ec];simpa using c2) (by rw[hz];omega) (by rw[ec];intro u hu;exact c3 u (by simpa using hu))
        refine qN aj (by rw[ho];rfl) hd hT rfl hb hgb ?_ (exec rfl ep r1) k
        rw[ec,hz];exact f2
       .cases k
      .split at k
       .rename_i q hq0;split at k
        .rename_i tq eq x0 hTq;have tN:=bH hTq tr;split at k
         .rename_i hcs;rw[aB,aB,bV,bV]at hcs;have a0:tq=t2:=iw hcs.1;have a1:off=so:=iw hcs.2.1;have a2:i.size=1:=iw hcs.2.2;subst a0;subst a1;split at k
          .rename_i x1 hx1;obtain⟨e1,e2⟩:=oG hx1;subst e1;simp only at e2;subst e2;obtain⟨hj,k⟩:=k;have hv1:v=.c (.row q):=by
            unfold rowOf at hq0;split at hq0
            .cases hq0;rfl
            .cases hq0
           subst hv1;have hbq:=aj.ok.row_of tN cv.1;have kT:lT h w tq eq x0 (a.eval x):=aj.ok.holds q _ _ tN hbq;have hone:dG (a.eval x):=cv.2;have hqr:q≠r:=by rintro rfl;rw[tN]at fQ;cases fQ
           have kk:(∀i',i'≠j->nJ i' hs=false)/\∀e0:sh.den,l[j]?=some e0->match FU sh e0 off eq x0 with
            | some dd=>K ({ s with T:=dB (mT (uH r) (dB s.T q ([],.gone))) r ([],.deep tt sh (l.set j dd) tq eq off (tu own j) []),env:=yT (uH r) s.env }.put o.dst [] (.one .und))
            | none=>False:=by
            unfold aha at k;split at k
            .exact⟨λ_ _=>rfl,k⟩
            .exact⟨λi' hi'=>by simp[nJ];rw[<-k.1];exact hi',k.2⟩
            .cases k
           obtain⟨lg,k⟩:=kk;have k:=k _ (lK hj);split at k
           .rename_i dd hdd;have hdd:=Il hdd;have hso:=hdd.lt;obtain⟨cap,cur,e0,e1,e2⟩:=outer hj;obtain⟨_,hsz⟩:=e2 _ (lK hj);rw[wW]at hsz;have gne:∀b,aA (a.eval x)=some b->∀u,(RV.deep vv us).has u->u≠b:=λb hb1 u hu hh=>hqr (aj.ok.inj q r _ _ _ _ b tN rfl fQ rfl hbq hb (bC.2 hb1) (by rw[<-hh];exact hu))
            obtain⟨f1,f2⟩:=D.write (own':=tu own j) (hs':=[]) (us':=λi'=>if i'=j then a.eval x else us i') (d':=dd) (cs':=[a.eval x]) (off:=off) (k:=1) (lK hj) e0 e1 (by omega) rfl
             (λi' hi'=>⟨by simp[tu,hi',cnd],by rw[lg i' hi'],by simp[hi']⟩)
             (λi' b hi' hb' hb2=>by
              rw[if_pos rfl]at hb2;exact gne b hb2 b (aX.2 (.inr ⟨i',hb'⟩)) rfl)
             (λb hb'=>by
              rw[if_pos rfl]at hb';exact⟨λhh=>gne b hb' g (aX.2 (.inl hgb)) hh.symm,(aj.ok.holds q _ _ tN hbq).cells rfl (bC.2 hb')⟩)
             (λw' cs fr hl ex=>by
              rw[if_pos rfl,show tu own j j=true by simp[tu,cnd],take_set (by omega)]
              have emp:∃d0,Rd h sh (cs.set off mZ) d0/\lU sh off eq d0 x0 dd:=by
               unfold zX at ex;cases hh:nJ j hs with
               | false=>
                 rw[hh]at ex;cases hoo:own j with
                 | false=>
                   rw[hoo]at ex;obtain⟨d0,hd0⟩:=hdd.ex [];exact⟨d0,hd0.rd ex.1 (qy.nil _ _),hd0.turn hdd⟩
                 | true=>
                   rw[hoo]at ex;obtain⟨d0,z,r0,p0,_,_⟩:=ex;exact⟨d0,r0,p0.trans hdd⟩
               | true=>
                 rw[hh]at ex;obtain⟨_,d0,z,r0,p0,_⟩:=ex;exact⟨d0,r0,p0.trans hdd⟩
              obtain⟨d0,r0,p0⟩:=emp;refine⟨d0,x0,by rw[List.set_set];exact r0,p0,by rw[qx (by omega)],kT.move (FH.le.refl h) λb hb'=>fr b λhh=>gne b hb' g (aX.2 (.inl hgb)) hh.symm⟩)
            have r1:=fD (o:=j * sz+off) (v:=a.eval x) ti e1 (by rw[hone.1,a2];rfl) (by rw[hz,a2];omega) (by rw[hone.1];intro u hu;simp at hu;subst hu;exact hone)
            rw[hone.1,a2,hz]at r1;rw[hz]at ep;have ok1:=aj.ok.forget tN;have hT1:((eff s.gl s.T).set q .gone)[r]?=some (.deep tt sh l tq eq off own hs):=by rw[mO hqr];exact fQ
            have ok2:=ok1.OE (f:=uH r) (r':=.deep tt sh (l.set j dd) tq eq off (tu own j) []) (v:=.deep vv λi'=>if i'=j then a.eval x else us i') (row:=some g) (X:=λb=>aA (a.eval x)=some b) hT1 rfl hb (iZ w g _) (λk e=>by cases e;exact .inl hgb)
             (λb hb'=>by
              obtain⟨o1,o2,o3⟩:=aj.ok.own q _ _ b tN rfl hbq (bC.2 hb');refine⟨o1,o2,o3,λj' rj vj hj' ej lj jo hbj=>?_⟩
              have hjq:j'≠q:=by
               rintro rfl;rw[qx (A8.1 tN).1]at ej;cases ej;cases lj
              rw[mO (Ne.symm hjq)]at ej;exact hjq (aj.ok.inj j' q _ _ _ _ b ej lj tN rfl jo hbq hbj (bC.2 hb')))
             (λb hb'=>by
              rw[aX]at hb';rcases hb' with hb' | ⟨i',hb'⟩
              .exact .inl (aX.2 (.inl hb'))
              .by_cases hi':i'=j
               .rw[if_pos hi']at hb';exact .inr (.inl hb')
               .rw[if_neg hi']at hb';exact .inl (aX.2 (.inr ⟨i',hb'⟩)))
             (λx y c=>dZ.js hb (.inl rfl) c) f2
            refine l7 aj k rfl (by rw[ho];rfl) (.inr ⟨exec rfl ep r1,rfl⟩) (FH.le.refl h) ((aj.map (f:=uH r) (T':=dB (mT (uH r) (dB s.T q ([],.gone))) r ([],.deep tt sh (l.set j dd) tq eq off (tu own j) [])) (β':=β.set r (.deep vv λi'=>if i'=j then a.eval x else us i')) (FH.le.refl h) (λ_=>rfl) (λx y c=>dZ.js hb (.inl rfl) c) ?_ ?_).put (dW hd) rfl (λ_=>rfl) λhh=>by cases hh)
            .rw[fO,D7,fO];exact ok2
            .intro p' hp';rw[fZ]at hp';rcases JW hp' with hp' | hp'
             .obtain⟨p2,h1,h2⟩:=D8 hp';rw[<-h2];exact ql aj p2 h1
             .subst hp';rfl
           .cases k
          .cases k
         .cases k
        .cases k
       .cases k
   .cases hq
  .cases hq
 .rename_i r j k0 sz off hp;obtain⟨⟨vv,us,g,hb,hgb,ep⟩,_⟩:=aP aj hg tr hp;split at hq
  .rename_i tt sh l t2 e so own hs hT;have fQ:=bH hT tr;have D:eU h w tt sh l t2 e so own hs vv us:=aj.ok.holds r _ _ fQ hb;split at hq
   .rename_i v hv;have cv:=aP aj hg tr hv;cases hq;split at k
    .cases k
    rename_i hz;have hz:sz=e.size:=iw hz;obtain⟨⟨o1,o2,o3⟩,k⟩:=k;have hdj:=lK o3;have k:=k _ hdj;split at k
    .rename_i xs hxs;obtain⟨hk,k⟩:=k;have k:=k _ (lK hk);split at k
     .rename_i y' hy';split at k
      .rename_i dd hdd;have kT:=D.get hdj o1 o2 hxs;obtain⟨cur,he,f1,f2,f3,f4⟩:=kT.write hgb (lK hk) (λhr=>nM e hy' hr cv)
       have r1:=fD (o:=k0 * sz+off) (v:=a.eval x) ti he f2 (by rw[hz];omega) f3
       rw[hz]at ep r1;have D':=D.inner (w':=w.setRow g (cur.toList.take (k0 * e.size+off)++(a.eval x).cells.toList++cur.toList.drop (k0 * e.size+off+i.size)).toArray) hdj o1 o2 (λb hb' _=>setRow_other w g b _ λhh=>hb' (by rw[hh];exact hgb)) (λb hb'=>by
        rw[hgb]at hb';cases hb';exact⟨_,setRow_heap w g _ _ t2 (0,0) he,rfl⟩) hdd f4
       have ok:OK B h0 (eff s.gl (dB s.T r ([],.deep tt sh (l.set j dd) t2 e so own hs))) h β (w.setRow g (cur.toList.take (k0 * e.size+off)++(a.eval x).cells.toList++cur.toList.drop (k0 * e.size+off+i.size)).toArray):=by
        rw[xw];have:=aj.ok.upd (r':=.deep tt sh (l.set j dd) t2 e so own hs) (v:=.deep vv us) fQ rfl hb (row:=some g) (iZ w g _) (λk e=>by cases e;exact aX.2 (.inr ⟨j,hgb⟩)) (λb hb=>.inl hb) (.inl rfl) (by rw[gV hb];exact D')
        rwa [gV hb]at this
       exact l7 aj k rfl (by rw[ho];rfl) (.inr ⟨exec rfl ep r1,rfl⟩) (FH.le.refl h) ((aj.mem ok (FH.le.refl h) (Ext.refl β) (ql aj)).put (dW hd) rfl (λ_=>rfl) λhh=>by cases hh)
      .cases k
     .cases k
    .cases k
   .cases hq
  .cases hq
 .cases hq
abbrev QS(s:St) (x:Operand) (K:St->Prop):Option Prop:=match x with
 | .tmp t=>match iD s.env t with
   | some ([],.one (.c (.sub r j)))=>match eY s.T r with
     | some ([],.deep tt sh l t2 e so own [])=>some ((own j=true/\j < l.length)/\∀d:sh.den,l[j]?=some d->match FT sh d so e with
       | some x=>K { s with T:=snoc (dB (mT (uH r) s.T) r ([],.deep tt sh l t2 e so own [j])) ([],.row t2 e x),env:=(t,[],.one (.c (.row (aQ s.T)))) :: yT (uH r) s.env,gs:=rmG s.gs t }
       | none=>False)
     | _=>none
   | _=>none
 | _=>none
theorem acZ(aj:Sat N B h0 s h β w a){x:Operand}{q:Prop} (hq:QS s x K=some q) (k:q):∃s' β',K s'/\Sat N B h0 s' h β' w a/\s'.gl=s.gl:=by
 have tr:gv s.gl []=true:=rfl;unfold QS at hq;split at hq
 .rename_i t;split at hq
  .rename_i r j hlk;split at hq
   .rename_i tt sh l t2 e so own hT;cases hq;have fQ:=bH hT tr;obtain⟨⟨o1,o2⟩,k⟩:=k;have hdj:=lK o2;have k:=k _ hdj;split at k
    .rename_i xs hxs;obtain⟨z,z1,z2,_⟩:=aj.env t [] _ hlk;obtain⟨⟨vv,us,hb,hus⟩,hone⟩:dA h β (.c (.sub r j)) z:=z2 rfl;have D:eU h w tt sh l t2 e so own [] vv us:=aj.ok.holds r _ _ fQ hb;have kT:=D.get hdj o1 rfl hxs;have ok2:=aj.ok.OE (f:=uH r) (r':=.deep tt sh l t2 e so own [j]) (v:=.deep vv (qP us j)) (row:=none) (X:=λ_=>False) fQ rfl hb (cO w none) (λk e=>by cases e) (λb hb=>hb.elim)
      (λb hb'=>by
       rw[aX]at hb';rcases hb' with hb' | ⟨i',hb'⟩
       .exact .inl (aX.2 (.inl hb'))
       .unfold qP at hb';split at hb'
        .cases hb'
        .exact .inl (aX.2 (.inr ⟨i',hb'⟩)))
      (λx y c=>dZ.js hb (.inl rfl) c) (D.open hdj o1)
     have ok3:=ok2.aoZ (r:=.row t2 e xs) (v:=.row z) (λb hb'=>by
      rw[bC]at hb';rw[<-hus]at hb';have hu:(RV.deep vv us).has b:=aX.2 (.inr ⟨j,hb'⟩);obtain⟨p1,p2,p3⟩:=aj.ok.own r _ _ b fQ rfl hb hu;refine⟨p1,p2,p3,λj' rj vj ej lj jo hbj=>?_⟩
      by_cases hj':j'=r
      .subst hj';rw[qx (by have:=(A8.1 hb).1;exact this)]at jo
       cases jo;rw[aX]at hbj;rcases hbj with hbj | ⟨i',hbj⟩
       .obtain⟨g,cap,cur,e0,_,_,e3,_,e5,_⟩:=D.third o2;rw[e0,aY (n:=l.length) e3.1]at hbj;cases hbj;exact e5 j hb'
       .unfold qP at hbj;split at hbj
        .cases hbj
        .rename_i hi';exact hi' (D.1 i' j b hbj hb')
      .rw[mO (Ne.symm hj')]at jo;rw[mO (Ne.symm hj'),Df]at ej;cases hh:(eff s.gl s.T)[j']? with
       | none=>rw[hh]at ej;cases ej
       | some r0=>
         rw[hh]at ej;cases ej;exact hj' (aj.ok.inj j' r _ _ _ _ b hh (by rw[<-pV (uH r)];exact lj) fQ rfl jo hb hbj hu)) (by rw[<-hus];exact kT)
     have hlen:aQ s.T=(β.set r (.deep vv (qP us j))).length:=by rw[wU,aj.ok.len,iY,bF]
     refine⟨_,(β.set r (.deep vv (qP us j)))++[.row z],k,?_,rfl⟩;have hC:∀x y,dZ h β x y->dZ h ((β.set r (.deep vv (qP us j)))++[.row z]) (uH r x) y:=λx y c=>(dZ.js hb (.inl rfl) c).mono (FH.le.refl h) (Ext.append _ _)
     have sm:=aj.map (f:=uH r) (T':=snoc (dB (mT (uH r) s.T) r ([],.deep tt sh l t2 e so own [j])) ([],.row t2 e xs)) (h':=h) (β':=(β.set r (.deep vv (qP us j)))++[.row z]) (w':=w) (FH.le.refl h) (λ_=>rfl) hC (by
      rw[iM,fO,D7];exact ok3) (λp hp=>by
      rw[iI,Fv]at hp;rcases hp with hp | hp
      .rw[fZ]at hp;rcases JW hp with hp | hp
       .obtain⟨p2,h1,h2⟩:=D8 hp;rw[<-h2];exact aj.gT p2 h1
       .subst hp;rfl
      .simp at hp;subst hp;rfl)
     refine⟨sm.ok,?_,?_,sm.defers,sm.sz,?_,sm.gT⟩
     .intro t' G e' ht;rw[bg]at ht;split at ht
      .rename_i hkt;subst hkt;cases ht;refine⟨z,z1,λ_=>⟨⟨.row z,?_,rfl⟩,hone⟩,λhh=>by cases hh⟩
       rw[hlen];simp
      .exact sm.env t' G e' ht
     .intro d i hi;obtain⟨hne,hi⟩:=zY _ _ _ _ hi;obtain⟨G,b,q1,q2⟩:=sm.gs d i hi;exact⟨G,b,by rw[bg,if_neg (Ne.symm hne)];exact q1,q2⟩
     .intro t' G e' ht;rw[bg]at ht;split at ht
      .cases ht;rfl
      .exact sm.gb _ _ _ ht
    .cases k
   .cases hq
  .cases hq
 .cases hq
abbrev Xj(s:St) (i j:Nat):List SV->(List SV->Prop)->Prop
 | [],K=>K []
 | .c (.sub i' k) :: l,K=>match Nat.beq i i' with
   | true=>k≠j/\Ul s [] i' k λe x=>Xj s i j l λr=>K (.c (.sl e x) :: r)
   | false=>False
 | v :: l,K=>match noRow v with
   | true=>match acQ s [] v with
     | some v'=>Xj s i j l λr=>K (v' :: r)
     | none=>False
   | false=>False
abbrev aii(cx:Cx) (ip:IP) (s:St) (d:Option Nat) (args:List Operand) (K:St->Prop):Prop:=match args with
 | []=>False
 | x :: r=>match bM cx s [] x with
   | some (.one (.c (.sub i j)))=>match eY s.T i with
     | some ([],.deep tt sh l t2 e so own hs)=>match dD (rM e ip.sh) (dD (iQ ip.sh) (!ip.back)) with
       | false=>False
       | true=>match uG cx s [] r with
         | none=>False
         | some vs=>(own j=true/\nJ j hs=false/\j < l.length)/\∀d0:sh.den,l[j]?=some d0->match FT sh d0 so ip.sh with
           | none=>False
           | some xs=>Xj s i j vs λbs=>match yL ip.ps bs with
             | none=>False
             | some dd=>ip.pre xs dd/\match FU sh d0 so ip.sh (ip.res xs dd) with
               | some d1=>K ({ s with T:=dB s.T i ([],.deep tt sh (l.set j d1) t2 e so own hs) }.put d [] (.iq []))
               | none=>False
     | _=>False
   | _=>False
open Classical in
noncomputable def FH.but (w:World) (u:Value):FH:=λb o=>if aA u=some b then none else vis w b o
theorem aij(aj:Sat N B h0 s h β w a){vv:Value}{us:Nat->Value} (hT:(eff s.gl s.T)[i]?=some r) (hl:r.live=true) (hb:β[i]?=some (.deep vv us)):h.le (FH.but w (us j)):=by
 intro b o v hv;unfold FH.but;rw[if_neg]
 .exact aj.ok.hw b o v hv
 .intro hh;rw[(aj.ok.own i r _ b hT hl hb (aX.2 (.inr ⟨j,hh⟩))).2.2 o]at hv;cases hv
theorem IV(aj:Sat N B h0 s h β w a){i j:Nat}{vv:Value}{us:Nat->Value} (hb:β[i]?=some (.deep vv us)) (inj:∀j k b,aA (us j)=some b->aA (us k)=some b->j=k) (le:h.le (FH.but w (us j))):
 ∀{vs:List SV}{ys:List Value}{K:List SV->Prop},aU (dA h β) vs ys->Xj s i j vs K->∃bs,K bs/\aU (dA (FH.but w (us j)) []) bs ys
 | [],[],K,_,k=>⟨[],k,trivial⟩
 | x :: l,y :: ys,K,⟨c,r⟩,k=>by
   have tr:gv s.gl []=true:=rfl;unfold Xj at k;split at k
   .rename_i he;cases he
   .rename_i i' k' l' K' he;cases he;split at k
    .rename_i hi;have hi:=iw hi;subst hi;obtain⟨hk,k⟩:=k;obtain⟨e,xs,k1,k2⟩:=BU aj k;obtain⟨bs,k3,c3⟩:=IV aj hb inj le r k1;obtain⟨⟨vv2,ug,hb2,rfl⟩,hone⟩:=c;rw[hb]at hb2;cases hb2;obtain⟨tt,kT⟩:=k2 tr vv us hb;refine⟨_,k3,⟨?_,hone⟩,c3⟩;refine kT.sl le λb hb3 o z hz=>?_
     unfold FH.but;rw[if_neg]
     .exact hz
     .exact λhh=>hk (inj _ _ b hb3 hh)
    .cases k
   .rename_i v' l' K' hne he;cases he;split at k
    .rename_i hnr;split at k
     .rename_i v1 hv1;obtain⟨bs,k3,c3⟩:=IV aj hb inj le r k;exact⟨_,k3,(((QF aj tr hv1 c).2 hnr).mono le (Ext.refl [])),c3⟩
     .cases k
    .cases k
theorem Xk{f:FuncId}{ip:IP} (QH:UA P cx.gd f ip) (hf:∃fn,P.funcs[f]?=some fn/\fn.body.isSome=true/\(fn.name == "runtime.NumGoroutine")=false)
 (aj:Sat N B h0 s h β w a) (hg:aK cx.gd h) (hd:lJ N o.dst=true) (ho:o.op=.call c) (bW:c.callee=.value (.func f))
 (k:aii cx ip s o.dst (tl c.args) K):Bg P N B h0 h w a o true K:=by
 have tr:gv s.gl []=true:=rfl;unfold aii at k;split at k
 .cases k
 rename_i x r hargs0;split at k
 .rename_i i j hx;split at k
  .rename_i tt sh l t2 e so own hs hT;split at k
   .cases k
   rename_i hck;rw[aB,aB,bV,bV]at hck;have he:e=ip.sh:=pJ hck.1;subst he;have hfl:=hck.2.1;have hbk:ip.back=false:=by simpa using hck.2.2
   split at k
   .cases k
   rename_i vs hvs;obtain⟨⟨o1,o2,o3⟩,k⟩:=k;have hdj:=lK o3;have k:=k _ hdj;split at k
   .cases k
   rename_i xs hxs;have fQ:=bH hT tr;obtain⟨⟨vv,us,hb,hus⟩,_⟩:dA h β (.c (.sub i j)) (a.eval x):=aP aj hg tr hx;have D:eU h w tt sh l t2 ip.sh so own hs vv us:=aj.ok.holds i _ _ fQ hb;have kT:=D.get hdj o1 o2 hxs;have le:h.le (FH.but w (us j)):=aij aj fQ rfl hb;have hav:=qO aj hg tr hvs;obtain⟨bs,k,cb⟩:=IV aj hb D.1 le hav k;split at k
   .cases k
   rename_i dd hdd;obtain⟨aF,k⟩:=k;split at k
   .rename_i d1 hd1;intro Nx Q next
    rw[if_pos rfl];obtain⟨fn,hfn,hbody,hname⟩:=hf;have exec:(execOp a.eval o).run P w=.ok (.enter f (c.args.map a.eval)) w:=by
     simp only[execOp,ho,resolve,bW,Act.eval,Deferred.ofValue,invoke,Sem.run_bind,Sem.run_pure,Result.andThen_ok,callFunc,run_program,hfn,hname];simp[hbody];cases hb:fn.body with
     | none=>rw[hb]at hbody;cases hbody
     | some _=>simp
    have hargs:(c.args.map a.eval)=(a.eval x :: r.map a.eval).toArray:=by
     have:c.args=(x :: r).toArray:=by
      cases hc:c.args with
      | mk q=>rw[hc]at hargs0;simp only[tl]at hargs0;rw[hargs0]
     rw[this];simp
    unfold Oper.wp;rw[exec];simp only[Oper.upon];rw[hargs];refine(QH t2 xs dd (a.eval x) _ (FH.but w (us j)) w (λb o u hu=>?_) (hg.mono le) (show Holds (FH.but w (us j)) [] w (.row t2 ip.sh xs) (.row (a.eval x)) by rw[<-hus];exact kT.move le λ_ _=>rfl) (λb hb' o=>?_) (yM hdd cb) aF).mono ?_
    .unfold FH.but at hu;split at hu
     .cases hu
     .exact hu
    .unfold FH.but;rw[hus,if_pos hb']
    rintro en w' ⟨v',y,rfl,hgr,hv,hold',_,hb2⟩;obtain⟨rfl,rfl⟩:=hb2 hbk;have hrow':lT h w' t2 ip.sh (ip.res xs dd) (us j):=by
     have:=Holds.flat (h':=h) (show vH (.row t2 ip.sh (ip.res xs dd))=true from hfl) hold'
     rw[hus];exact this
    have D':eU h w' tt sh (l.set j d1) t2 ip.sh so own hs vv us:=D.inner hdj o1 o2 (λb hb' hx'=>by
     obtain⟨o',ho'⟩:=hx';exact hgr.block b (C9.1 ho').1 (λhh=>hb' (by rw[hus];exact hh.symm))) (λb hb'=>by
     exact Holds.cells (h:=h) (β:=[]) (r:=.row t2 ip.sh (ip.res xs dd)) (v:=.row (us j)) hrow' rfl (bC.2 hb')) hd1 hrow'
    have ok:OK B h0 (eff s.gl (dB s.T i ([],.deep tt sh (l.set j d1) t2 ip.sh so own hs))) h β w':=by
     rw[xw];have:=aj.ok.upd (r':=.deep tt sh (l.set j d1) t2 ip.sh so own hs) (v:=.deep vv us) fQ rfl hb hgr (λk e=>aX.2 (.inr ⟨j,by rw[hus];exact e⟩)) (λb hb=>.inl hb) (.inl rfl) (by rw[gV hb];exact D')
     rwa [gV hb]at this
    exact next _ _ _ _ _ k (FH.le.refl h) ((aj.mem ok (FH.le.refl h) (Ext.refl β) (ql aj)).put (dW hd) rfl (λ_=>⟨[],rfl,trivial⟩) λhh=>by cases hh)
   .cases k
  .cases k
 .cases k
theorem dZ.us{us:Nat->Value} (hu:β[i]?=some (.deep v us)){x:SC} (c:dZ h β x y):dZ h (β.set i (.row v)) (uH i x) y:=by
 unfold uH;split
 .rename_i hf;cases x with
  | v _=>exact c
  | sl _ _=>exact c
  | fp _ _=>exact c
  | one _ _=>exact c
  | abs _=>exact c
  | junk=>trivial
  | own j off=>
    obtain⟨b,e,e'⟩:=c;refine⟨b,?_,e'⟩;rw[dM hu,if_neg]
    .exact e
    .rintro rfl;rw[hu]at e;cases e
  | row j=>
    obtain⟨z,e,e'⟩:=c
    by_cases hj:j=i
    .subst hj;rw[hu]at e;cases e;exact⟨.row v,by rw[dM hu,if_pos rfl],e'⟩
    .exact⟨z,by rw[dM hu,if_neg hj];exact e,e'⟩
  | jR j k sz off=>
    obtain⟨z,g,e,e',e2⟩:=c
    by_cases hj:j=i
    .subst hj;rw[hu]at e;cases e;exact⟨.row v,g,by rw[dM hu,if_pos rfl],e',e2⟩
    .exact⟨z,g,by rw[dM hu,if_neg hj];exact e,e',e2⟩
  | sub j k=>
    obtain⟨z,ug,e,e'⟩:=c;exact⟨z,ug,by rw[dM hu,if_neg (OD hf)];exact e,e'⟩
  | lM j k m sz off=>
    obtain⟨z,ug,g,e,e'⟩:=c;exact⟨z,ug,g,by rw[dM hu,if_neg (OD hf)];exact e,e'⟩
 .trivial
theorem eU.row{h':FH}{s:Sh}{l:List s.den}{own:Nat->Bool}{us:Nat->Value} (x:eU h w t s l tt e so own [] v us) (le:h.le h')
 (hb:∀b,(∃j,aA (us j)=some b)->∀o z,vis w b o=some z->h' b o=some z):lT h' w t s l v/\∀g,aA v=some g->∀j,aA (us j)≠some g:=by
 obtain⟨_,_,x⟩:=x;rcases x with⟨e1,e2⟩ | ⟨ra,e1,e2⟩ | ⟨g,cap,cur,e1,q1,q2,q3,q4,q5,q6⟩
 .exact⟨.inl ⟨e1,e2⟩,λg hg=>by subst e1;simp[aA]at hg⟩
 .exact⟨.inr (.inl ⟨ra,e1,e2⟩),λg hg=>by subst e1;simp[aA]at hg⟩
 .have lc:cur.toList.length=cap * s.size:=by simpa using q4
  have hm:l.length * s.size<=cap * s.size:=x9 _ q2;refine⟨.inr (.inr ⟨g,cap,cur,e1,q1,q2,q3,q4,?_⟩),λg' hg'=>?_⟩
  .refine fV.Om (k:=s.size) (by rw[kV];omega) λj d hd=>?_
   have hj:=(A8.1 hd).1;have hm:(j+1) * s.size<=l.length * s.size:=x9 _ hj;rw[wW]at hm;have e5:List.take s.size (List.drop (j * s.size) (List.take (l.length * s.size) cur.toList))=List.take s.size (List.drop (j * s.size) cur.toList):=by
    apply H9;intro p;simp only[uX,JY];split
    .rw[if_pos (by omega)]
    .rfl
   rw[e5];exact(q6 j d hd).rd le λb hu=>hb b ⟨j,hu⟩
  .rw[e1,aY q3.1]at hg';cases hg';exact q5
theorem OK.aik(ok:OK B h0 T h β w){s:Sh}{l:List s.den}{own:Nat->Bool}{us:Nat->Value}
 (hT:T[i]?=some (.deep t s l tt e so own [])) (hu:β[i]?=some (.deep v us)):
 h.le (h.lQ w λb=>∃j,aA (us j)=some b)/\OK B h0 ((T.map (mR (uH i))).set i (.row t s l)) (h.lQ w λb=>∃j,aA (us j)=some b) (β.set i (.row v)) w:=by
 have hi:i < T.length:=(A8.1 hT).1;have hi':i < β.length:=by rw[ok.len];exact hi
 have hl:(ay.deep t s l tt e so own []).live=true:=rfl;have own':=λg hv=>ok.own i _ _ g hT hl hu hv
 have sub:∀{b:Nat},(∃j,aA (us j)=some b)->(RV.deep v us).has b:=λhb=>aX.2 (.inr hb)
 have le:h.le (h.lQ w λb=>∃j,aA (us j)=some b):=by
  intro b o x hb;unfold FH.lQ
  by_cases hbg:∃j,aA (us j)=some b
  .rw[(own' b (sub hbg)).2.2 o]at hb;cases hb
  .rw[if_neg hbg];exact hb
 have hold:eU h w t s l tt e so own [] v us:=ok.holds i _ _ hT hu;obtain⟨rh,rn⟩:=hold.row le λb hb o z hz=>by
  unfold FH.lQ;rw[if_pos hb];exact hz
 have get:∀{j:Nat}{rj:ay},j≠i->((T.map (mR (uH i))).set i (.row t s l))[j]?=some rj->∃r0,T[j]?=some r0/\rj=mR (uH i) r0:=by
  intro j rj hj e;rw[mO (Ne.symm hj),Df]at e;cases hh:T[j]? with
  | none=>rw[hh]at e;cases e
  | some r0=>rw[hh]at e;cases e;exact⟨r0,rfl,rfl⟩
 have amI:∀{b:Nat},(RV.row v).has b->(RV.deep v us).has b:=λhb=>aX.2 (.inl (bC.1 hb))
 refine⟨le,{
  below:=ok.below
  dr:=ok.dr
  len:=by simp[ok.len]
  holds:=?_
  own:=?_
  inj:=?_
  hle:=ok.hle.trans le
  hw:=?_
  hg:=?_
  kn:=ok.kn }⟩
 .intro j rj vj ej jo
  by_cases hj:j=i
  .subst hj;rw[qx (by simpa using hi)]at ej
   rw[qx hi']at jo;cases ej;cases jo;exact rh
  .obtain⟨r0,e0,rfl⟩:=get hj ej;rw[mO (Ne.symm hj)]at jo;exact(ok.holds j r0 vj e0 jo).map le (λx y c=>(dZ.us hu c).mono le (Ext.refl _)) λ_ _ _=>rfl
 .intro j rj vj b ej hlj jo hb
  by_cases hj:j=i
  .subst hj;rw[qx hi']at jo;cases jo;obtain⟨a1,a2,a3⟩:=own' b (amI hb);refine⟨a1,a2,λo=>?_⟩
   unfold FH.lQ;rw[if_neg,a3 o];rintro⟨j',hj'⟩;exact rn b (bC.1 hb) j' hj'
  .obtain⟨r0,e0,rfl⟩:=get hj ej;rw[mO (Ne.symm hj)]at jo;have amJ:r0.live=true:=by rw[<-pV (uH i)];exact hlj
   obtain⟨a1,a2,a3⟩:=ok.own j r0 vj b e0 amJ jo hb;refine⟨a1,a2,λo=>?_⟩
   unfold FH.lQ;rw[if_neg,a3 o];exact λhg=>hj (ok.inj j i _ _ _ _ _ e0 amJ hT hl jo hu hb (sub hg))
 .intro j k r1 r2 u1 u2 b e1 l1 e2 l2 e3 e4 b1 b2;have look:∀{m:Nat}{rm:ay}{um:RV},((T.map (mR (uH i))).set i (.row t s l))[m]?=some rm->rm.live=true->(β.set i (.row v))[m]?=some um->um.has b->∃r0 u0,T[m]?=some r0/\r0.live=true/\β[m]?=some u0/\u0.has b:=by
   intro m rm um e l e' hb
   by_cases hm:m=i
   .subst hm;rw[qx hi']at e';cases e';exact⟨_,_,hT,hl,hu,amI hb⟩
   .obtain⟨r0,e0,rfl⟩:=get hm e;rw[mO (Ne.symm hm)]at e';exact⟨r0,um,e0,by rw[<-pV (uH i)];exact l,e',hb⟩
  obtain⟨p1,p2,p3,p4,p5,p6⟩:=look e1 l1 e3 b1;obtain⟨q1,q2,q3,q4,q5,q6⟩:=look e2 l2 e4 b2;exact ok.inj j k p1 q1 p2 q2 b p3 p4 q3 q4 p5 q5 p6 q6
 .intro b o x hb;unfold FH.lQ at hb;split at hb
  .exact hb
  .exact ok.hw b o x hb
 .intro b o x hb;unfold FH.lQ at hb;split at hb
  .rename_i hbg;exact .inr (own' b (sub hbg)).1
  .exact ok.hg b o x hb
abbrev Ip(s:St) (i:Nat):St:=match eY s.T i with
 | some ([],.deep t sh l _ _ _ _ [])=>{ s with T:=dB (mT (uH i) s.T) i ([],.row t sh l),env:=yT (uH i) s.env }
 | _=>s
theorem Sat.Ip(aj:Sat N B h0 s h β w a) (i:Nat):∃h' β',h.le h'/\Sat N B h0 (Ip s i) h' β' w a:=by
 unfold Go.jl.Ip;split
 .rename_i t sh l t2 e so own hT;have fQ:(eff s.gl s.T)[i]?=some (.deep t sh l t2 e so own []):=by rw[jy,<-fJ,hT];rfl
  have iO:i < β.length:=by rw[aj.ok.len];exact(A8.1 fQ).1
  have hu:=lK iO;have hold:=aj.ok.holds i _ _ fQ hu;cases hb:β[i]with
  | blk b=>rw[hb]at hold;cases hold
  | no=>rw[hb]at hold;cases hold
  | row _=>rw[hb]at hold;cases hold
  | deep v us=>
    rw[hb]at hu;obtain⟨le,ok'⟩:=aj.ok.aik fQ hu;refine⟨_,_,le,aj.map (f:=uH i) le (λ_=>rfl) (λx y c=>(dZ.us hu c).mono le (Ext.refl _)) ?_ ?_⟩
    .rw[fO,D7];exact ok'
    .intro p hp;rw[fZ]at hp;rcases JW hp with hp | hp
     .obtain⟨q,h1,h2⟩:=D8 hp;rw[<-h2];exact aj.gT q h1
     .subst hp;rfl
 .exact⟨h,β,FH.le.refl h,aj⟩
abbrev ac0(s:St) (i:Nat):St:=match Nat.ble 1000 i with
 | true=>Ip s (i - 1000)
 | false=>KP s i
abbrev KU(s:St):List Nat->St
 | []=>s
 | i :: r=>KU (ac0 s i) r
theorem Sat.KU:∀{l:List Nat}{s:St}{h:FH}{β:List RV},Sat N B h0 s h β w a->∃h' β',h.le h'/\Sat N B h0 (KU s l) h' β' w a
 | [],s,h,β,aj=>⟨h,β,FH.le.refl h,aj⟩
 | i :: r,s,h,β,aj=>by
   have h1:∃h' β',h.le h'/\Sat N B h0 (ac0 s i) h' β' w a:=by
    unfold ac0;split
    .exact aj.Ip _
    .obtain⟨h',le,aW⟩:=aj.aie i;exact⟨h',β,le,aW⟩
   obtain⟨h1,β1,le1,jf⟩:=h1;obtain⟨h2,β2,iy,bI⟩:=Sat.KU (l:=r) jf;exact⟨h2,β2,le1.trans iy,bI⟩
abbrev vN(s:St):List (Nat×TypeId×Sh×Nat)->St
 | []=>s
 | (i,tt,e,so) :: l=>vN (KT s i tt e so) l
theorem Sat.vN:∀(l:List (Nat×TypeId×Sh×Nat)){s:St}{β:List RV},Sat N B h0 s h β w a->∃β',Sat N B h0 (vN s l) h β' w a
 | [],s,β,aj=>⟨β,aj⟩
 | (i,tt,e,so) :: l,s,β,aj=>by
   obtain⟨β1,jf⟩:=aj.KT i tt e so;exact Sat.vN l jf
theorem OK.OG(ok:OK B h0 T h β w){r':ay} (hT:T[i]?=some r) (hl:r.live=true) (hold:∀v,Holds h β w r v->Holds h β w r' v):OK B h0 (T.set i r') h β w:=by
 have hi:i < T.length:=(A8.1 hT).1;have key:∀{m:Nat}{rm:ay},(T.set i r')[m]?=some rm->rm.live=true->∃rm',T[m]?=some rm'/\rm'.live=true:=by
  intro m rm e l
  by_cases hm:m=i
  .subst hm;exact⟨r,hT,hl⟩
  .rw[mO (Ne.symm hm)]at e;exact⟨rm,e,l⟩
 exact {
  below:=ok.below
  dr:=ok.dr
  len:=by simp[ok.len]
  holds:=by
   intro j rj vj ej jo
   by_cases hj:j=i
   .subst hj;rw[qx hi]at ej;cases ej;exact hold vj (ok.holds j r vj hT jo)
   .rw[mO (Ne.symm hj)]at ej;exact ok.holds j rj vj ej jo
  own:=by
   intro j rj vj b ej l jo hb;obtain⟨rm,e1,e2⟩:=key ej l;exact ok.own j rm vj b e1 e2 jo hb
  inj:=by
   intro j k r1 r2 u v b e1 l1 e2 l2 e3 e4 b1 b2;obtain⟨q1,f1,f2⟩:=key e1 l1;obtain⟨q2,g1,g2⟩:=key e2 l2;exact ok.inj j k q1 q2 u v b f1 f2 g1 g2 e3 e4 b1 b2
  hle:=ok.hle
  hw:=ok.hw
  hg:=ok.hg
  kn:=ok.kn }
abbrev KW(s:St) (i c:Nat) (t:TypeId) (sh:Sh):St:=match eY s.T i with
 | some ([],.blk t' cs)=>match eY cs c with
   | some (.v (.slice none 0 0))=>{ s with T:=snoc (dB s.T i ([],.blk t' (dB cs c (.row (aQ s.T))))) ([],.row t sh []) }
   | _=>s
 | _=>s
theorem aU.dB{α β:Type}{R:α->β->Prop}{y:α}{z:β} (hR:R y z):∀{l:List α}{m:List β}{c:Nat},m[c]?=some z->aU R l m->aU R (jl.dB l c y) m
 | [],[],_,h,_=>by simp at h
 | _ :: _,_ :: _,0,h,⟨_,b⟩=>by simp at h;subst h;exact⟨hR,b⟩
 | _ :: _,_ :: _,c+1,h,⟨a,b⟩=>⟨a,aU.dB hR (by simpa using h) b⟩
theorem Sat.KW(aj:Sat N B h0 s h β w a) (i c:Nat) (t:TypeId) (sh:Sh):∃β',Sat N B h0 (KW s i c t sh) h β' w a:=by
 unfold jl.KW;split
 .rename_i t' cs hT;split
  .rename_i hc;have fQ:=bH hT (show gv s.gl []=true from rfl)
   have ok1:OK B h0 (eff s.gl s.T++[.row t sh []]) h (β++[.row (.slice none 0 0)]) w:=aj.ok.add (r:=.row t sh []) (v:=.row (.slice none 0 0)) (cO w none) (λb hb=>by rw[bC]at hb;simp[aA]at hb) (.inl ⟨rfl,rfl⟩)
   have hi:=(A8.1 fQ).1;have hlen:aQ s.T=β.length:=by rw[aj.ok.len,iY,bF]
   have hT1:(eff s.gl s.T++[.row t sh []])[i]?=some (.blk t' cs):=by rw[VE hi];exact fQ
   have ok2:=ok1.OG (r':=.blk t' (jl.dB cs c (.row (aQ s.T)))) hT1 rfl λv hv=>by
    cases v with
    | blk b=>
      obtain⟨ys,e1,al⟩:=hv;refine⟨ys,e1,?_⟩;obtain⟨y,hy,hcn⟩:=al.get (show cs[c]?=some (.v (.slice none 0 0)) by rw[<-fJ];exact hc)
      obtain rfl:y=.slice none 0 0:=hcn.1.1;refine aU.dB ?_ hy al;refine⟨⟨.row (.slice none 0 0),?_,rfl⟩,rfl,rfl⟩;rw[hlen];simp
    | row _=>exact hv.elim
    | deep _ _=>exact hv.elim
    | no=>exact hv.elim
   refine⟨β++[.row (.slice none 0 0)],aj.mem ?_ (FH.le.refl h) (Ext.append _ _) λp hp=>?_⟩
   .rw[iM,fO];have e:((eff s.gl s.T)++[ay.row t sh []]).set i (.blk t' (jl.dB cs c (.row (aQ s.T))))=(eff s.gl s.T).set i (.blk t' (jl.dB cs c (.row (aQ s.T))))++[.row t sh []]:=by rw[List.set_append_left _ _ hi]
    rw[e]at ok2;exact ok2
   .rw[iI,Fv]at hp;rcases hp with hp | hp
    .rw[fZ]at hp;rcases JW hp with hp | hp
     .exact aj.gT p hp
     .subst hp;rfl
    .simp at hp;subst hp;rfl
  .exact⟨β,aj⟩
 .exact⟨β,aj⟩
abbrev GH(s:St):List (Nat×Nat×TypeId×Sh)->St
 | []=>s
 | (i,c,t,sh) :: l=>GH (KW s i c t sh) l
theorem Sat.GH:∀(l:List (Nat×Nat×TypeId×Sh)){s:St}{β:List RV},Sat N B h0 s h β w a->∃β',Sat N B h0 (GH s l) h β' w a
 | [],s,β,aj=>⟨β,aj⟩
 | (i,c,t,sh) :: l,s,β,aj=>by
   obtain⟨β1,jf⟩:=aj.KW i c t sh;exact Sat.GH l jf
theorem GI{dT sT:TypeId}{i:TI} (k:aN P el i) (hu:P.underlying dT=some (.slice el)){d b:Option Addr}{dLen dCap sLen sCap:Nat} (hn:Nat.min sLen dLen=0):
 (Builtin.copy_ #[dT,sT] ty #[.slice d dLen dCap,.slice b sLen sCap]).run P w=.ok (goInt 0) w:=by
 have hl:∀(x:Addr),(loadCells x 0).run P w=.ok #[] w:=λx=>by simpa using run_loadCells_list (P:=P) w x [] (by simp)
 cases d<;>cases b<;>simp[Builtin.copy_,run_underlying hu,Builtin.lenOf,Builtin.firstCells,run_sizeOf k,hn,storeCells,hl]
theorem UJ{dT sT:TypeId}{i:TI} (k:aN P el i) (hu:P.underlying dT=some (.slice el)){dLen dCap:Nat}{b:Addr}{sLen sCap:Nat}{cur:Array Value}
 (hg:w.heap[g]?=some (.cells cur t (0,0))) (hn:cs.length=Nat.min sLen dLen * i.size) (hsrc:∀j v,cs[j]?=some v->w.cell? (b.add j)=some v) (hfit:cs.length<=cur.size) (h1:∀v∈cs,v.oneCell'=true):
 (Builtin.copy_ #[dT,sT] ty #[.slice (some ⟨g,0,none⟩) dLen dCap,.slice (some b) sLen sCap]).run P w=.ok (goInt (Nat.min sLen dLen)) (w.setRow g (cs++cur.toList.drop cs.length).toArray):=by
 have hl:=run_loadCells_list (P:=P) w b cs hsrc;have hst:=run_storeCells_at P g 0 t cs 0 cur w hg (by simpa using hfit) h1
 simp only[Uc,Dh,TY,TN]at hst;simp[Builtin.copy_,run_underlying hu,Builtin.lenOf,Builtin.firstCells,run_sizeOf k,<-hn,hl,hst]
abbrev QT(cx:Cx) (s:St) (d:Option Nat) (t:TypeId) (x y:Operand) (K:St->Prop):Prop:=iK cx t λel ie sh=>match bM cx s [] x with
 | some (.one (.c (.row r)))=>match eY s.T r with
   | some ([],.row tt fC l1)=>match jA (.sl fC) l1 (.sl sh) with
     | some l=>match bM cx s [] y with
       | some (.one v)=>match Oj s sh v with
         | some l2=>K ({ s with T:=dB s.T r ([],.row tt sh (l2.take l.length++l.drop l2.length)) }.put d [] (vI .i64 (Nat.min l2.length l.length)))
         | none=>False
       | _=>False
     | none=>False
   | _=>False
 | _=>False
def jT(a b:Int):Int:=if b < a then b else a
abbrev ac1(cx:Cx) (s:St) (d:Option Nat) (x y:Operand) (K:St->Prop):Prop:=match bM cx s [] x with
 | some (.one (.c (.v (.int .i64 a))))=>match bM cx s [] y with
   | some (.one (.c (.v (.int .i64 b))))=>K (s.put d [] (vI .i64 (jT a b)))
   | _=>False
 | _=>False
theorem Xl(aj:Sat N B h0 s h β w a) (hg:aK cx.gd h) (hd:lJ N o.dst=true){x y:Operand} (ho:o.op=.call c) (bW:c.callee=.builtin .min) (ha:c.args=#[x,y])
 (k:ac1 cx s o.dst x y K):gq P N B h0 h w a o (gv s.gl []) K:=by
 have tr:gv s.gl []=true:=rfl;unfold ac1 at k;split at k
 .rename_i n hx;have ex:a.eval x=.int .i64 n:=(aP aj hg tr hx:dA h β (.c (.v (.int .i64 n))) (a.eval x)).1.1;split at k
  .rename_i m hy;have ey:a.eval y=.int .i64 m:=(aP aj hg tr hy:dA h β (.c (.v (.int .i64 m))) (a.eval y)).1.1;refine l7 aj k rfl (by rw[ho];simp[quietly,bW]) (.inl ?_) (FH.le.refl h) (aj.put (G:=[]) (e:=vI .i64 (jT n m)) (z:=.int .i64 (jT n m)) (dW hd) rfl (λ_=>⟨⟨rfl,bK _ _⟩,bK _ _⟩) λhh=>by cases hh)
   simp[execOp,ho,resolve,bW,ha,invoke,builtin,ex,ey,Builtin.min_,Builtin.min2,jT]
  .cases k
 .cases k
theorem UK(aj:Sat N B h0 s h β w a) (hg:aK cx.gd h) (hd:lJ N o.dst=true){x y:Operand} (ho:o.op=.call c) (bW:c.callee=.builtin .max) (ha:c.args=#[x,y])
 (k:Ou cx s o.dst x y K):gq P N B h0 h w a o (gv s.gl []) K:=by
 have tr:gv s.gl []=true:=rfl;unfold Ou at k;split at k
 .rename_i n hx;have ex:a.eval x=.int .i64 n:=(aP aj hg tr hx:dA h β (.c (.v (.int .i64 n))) (a.eval x)).1.1;split at k
  .rename_i m hy;have ey:a.eval y=.int .i64 m:=(aP aj hg tr hy:dA h β (.c (.v (.int .i64 m))) (a.eval y)).1.1;refine l7 aj k rfl (by rw[ho];simp[quietly,bW]) (.inl ?_) (FH.le.refl h) (aj.put (G:=[]) (e:=vI .i64 (dO n m)) (z:=.int .i64 (dO n m)) (dW hd) rfl (λ_=>⟨⟨rfl,bK _ _⟩,bK _ _⟩) λhh=>by cases hh)
   simp[execOp,ho,resolve,bW,ha,invoke,builtin,ex,ey,Builtin.max_,Builtin.max2,dO]
  .cases k
 .cases k
theorem UL(hc:bQ P cx.ti) (aj:Sat N B h0 s h β w a) (hg:aK cx.gd h) (hd:lJ N o.dst=true){t':TypeId}{x y:Operand} (ho:o.op=.call c) (bW:c.callee=.builtin .copy) (ha:c.args=#[x,y]) (hat:c.argTypes=#[t,t'])
 (k:QT cx s o.dst t x y K):gq P N B h0 h w a o (gv s.gl []) K:=by
 have tr:gv s.gl []=true:=rfl;unfold QT at k;unfold iK at k;split at k
 .rename_i el hde;have hu:=bJ hc hde (by simp)
  split at k
  .cases k
  rename_i ie hie;have tie:=hc.get hie;split at k
  .cases k
  rename_i sh hsh;split at k
  .rename_i hz;rw[aB,aB,bV,bV]at hz;have hz1:sh.size=ie.size:=iw hz.1;split at k
   .rename_i r hx;split at k
    .rename_i tt fC l1 hT;split at k
     .rename_i l hl;obtain⟨e1,e2⟩:=oG hl;subst e1;simp only at e2;subst e2;split at k
      .rename_i v hv;split at k
       .rename_i l2 hl2;have Gv:=(aP aj hg tr hx:dA h β (.c (.row r)) (a.eval x));have cv:=aP aj hg tr hv;have fQ:=bH hT tr;have hb:=aj.ok.row_of fQ Gv.1;have kT:lT h w tt fC l1 (a.eval x):=aj.ok.holds r _ _ fQ hb;have src:=BZ aj hl2 cv;have exec:∀{w':World},(Builtin.copy_ #[t,t'] o.type #[a.eval x,a.eval y]).run P w=.ok (goInt (Nat.min l2.length l1.length)) w'->(execOp a.eval o).run P w=.ok (.value (goInt (Nat.min l2.length l1.length))) w':=by
         intro w' r0;simp only[execOp,ho,resolve,bW,ha,hat,invoke,builtin,Sem.run_bind,Sem.run_pure,Result.andThen_ok];simp[r0]
        have fin:∀{w':World}{row:Option Nat},Gb w w' row->(∀k,row=some k->aA (a.eval x)=some k)->(Builtin.copy_ #[t,t'] o.type #[a.eval x,a.eval y]).run P w=.ok (goInt (Nat.min l2.length l1.length)) w' ->
         lT h w' tt fC (l2.take l1.length++l1.drop l2.length) (a.eval x)->gq P N B h0 h w a o (gv s.gl []) K:=by
         intro w' row hgr hrw r0 hr;have ok:OK B h0 (eff s.gl (dB s.T r ([],.row tt fC (l2.take l1.length++l1.drop l2.length)))) h β w':=by
          rw[xw];have:=aj.ok.upd (r':=.row tt fC (l2.take l1.length++l1.drop l2.length)) (v:=.row (a.eval x)) fQ rfl hb hgr (λk e=>bC.2 (hrw k e)) (λb hb=>.inl hb) (.inl rfl) hr
          rwa [gV hb]at this
         exact l7 aj k rfl (by rw[ho];simp[quietly,bW]) (.inl (exec r0)) (FH.le.refl h) ((aj.mem ok (FH.le.refl h) (Ext.refl β) (ql aj)).put (G:=[]) (e:=vI .i64 (Nat.min l2.length l1.length)) (dW hd) rfl (λ_=>⟨⟨rfl,bK _ _⟩,bK _ _⟩) λhh=>by cases hh)
        have zero:∀(ad ab:Option Addr) (dC sC:Nat),a.eval x=.slice ad l1.length dC->a.eval y=.slice ab l2.length sC->(l1=[]\/l2=[])->gq P N B h0 h w a o (gv s.gl []) K:=by
         intro ad ab dC sC ex ey h0';have hm:Nat.min l2.length l1.length=0:=by rcases h0' with rfl | rfl<;>simp
         refine fin (cO w none) (λk e=>by cases e) ?_ ?_
         .rw[hm,ex,ey];exact GI tie hu hm
         .have:l2.take l1.length++l1.drop l2.length=l1:=by rcases h0' with rfl | rfl<;>simp
          rw[this];exact kT
        rcases kT with⟨e1,e2⟩ | ⟨ra,e1,e2⟩ | ⟨g,cap,cur,e1,q1,q2,q3,q4,q5⟩
        .rcases src with⟨s1,s2⟩ | ⟨sa,sc,s1,s2⟩ | ⟨sb,so,sc,cs,s1,s2,s3⟩
         .exact zero none none 0 0 (by rw[e1,e2];rfl) (by rw[s1,s2];rfl) (.inl e2)
         .exact zero none (some sa) 0 sc (by rw[e1,e2];rfl) (by rw[s1,s2];rfl) (.inl e2)
         .exact zero none _ 0 sc (by rw[e1,e2];rfl) s1 (.inl e2)
        .rcases src with⟨s1,s2⟩ | ⟨sa,sc,s1,s2⟩ | ⟨sb,so,sc,cs,s1,s2,s3⟩
         .exact zero (some ra) none 0 0 (by rw[e1,e2];rfl) (by rw[s1,s2];rfl) (.inl e2)
         .exact zero (some ra) (some sa) 0 sc (by rw[e1,e2];rfl) (by rw[s1,s2];rfl) (.inl e2)
         .exact zero (some ra) _ 0 sc (by rw[e1,e2];rfl) s1 (.inl e2)
        .rcases src with⟨s1,s2⟩ | ⟨sa,sc,s1,s2⟩ | ⟨sb,so,sc,cs,s1,s2,s3⟩
         .exact zero _ none cap 0 e1 (by rw[s1,s2];rfl) (.inr s2)
         .exact zero _ (some sa) cap sc e1 (by rw[s1,s2];rfl) (.inr s2)
         .have hcs:=fV.size (λ_ _=>Rd.size fC) s2
          have lc:cur.toList.length=cap * fC.size:=by simpa using q4
          have hm1:l1.length * fC.size<=cap * fC.size:=x9 _ q2;generalize hm:Nat.min l2.length l1.length=m at *;have hm2:m<=l2.length:=by rw[<-hm];exact Nat.min_le_left _ _
          have hm3:m<=l1.length:=by rw[<-hm];exact Nat.min_le_right _ _
          have hm4:m * fC.size<=l2.length * fC.size:=x9 _ hm2;have hm5:m * fC.size<=l1.length * fC.size:=x9 _ hm3;have ht:=fV.uj (λ_ _=>Rd.size fC) s2 (a:=0) (b:=m) (J4 _) hm2
          simp only[NS,NK]at ht;have hlen:(cs.take (m * fC.size)).length=m * fC.size:=by rw[kV];omega
          have r0:=UJ (P:=P) (w:=w) (dT:=t) (sT:=t') (ty:=o.type) tie hu (g:=g) (dLen:=l1.length) (dCap:=cap) (b:=⟨sb,so,none⟩) (sLen:=l2.length) (sCap:=sc) (cs:=cs.take (m * fC.size)) q1 (by rw[hlen,hm,hz1]) (λj v hj=>by
           rw[uX]at hj;split at hj
           .have:=s3 j v hj;have ea:(⟨sb,so,none⟩:Addr).add j=⟨sb,so+j,none⟩:=by unfold Addr.add;split<;>simp_all
            rw[ea];exact this
           .cases hj) (by rw[hlen];rw[<-TM,lc];omega) (λv hv=>(fV.all (λ_ _=>Rd.one fC) ht v hv).2)
          rw[hm]at r0;refine fin (row:=some g) (iZ w g _) (λk e=>by cases e;rw[e1];exact aY q3.1) (by rw[e1,s1];exact r0) ?_
          have el:(l2.take l1.length++l1.drop l2.length)=l2.take m++l1.drop m:=by
           rcases Nat.le_total l2.length l1.length with hh | hh
           .have:m=l2.length:=by rw[<-hm];exact Ib hh
            rw[this,wu hh,wu (o9 _)]
           .have:m=l1.length:=by rw[<-hm];exact Nat.min_eq_right hh
            rw[this,VF hh,VF (o9 _)]
          rw[el];have ll:(l2.take m++l1.drop m).length=l1.length:=by rw[ku,kV,yc];omega
          refine .inr (.inr ⟨g,cap,_,by rw[ll];exact e1,setRow_heap w g _ _ tt (0,0) q1,by rw[ll];exact q2,q3,?_,?_⟩)
          .simp only[FM,ku,yc,hlen];omega
          .rw[ll];have h2:=fV.split (λ_ _=>Rd.size fC) (l:=l1.take m) (l':=l1.drop m) (by rw[VG];exact q5)
           have h3:=ht.append h2.2;have e3:List.take (l1.length * fC.size) (cs.take (m * fC.size)++List.drop (cs.take (m * fC.size)).length cur.toList)=cs.take (m * fC.size)++List.drop ((l1.take m).length * fC.size) (List.take (l1.length * fC.size) cur.toList):=by
            rw[hlen,kV,Ib hm3];apply H9;intro p;simp only[A91,uX,JY,kV,lc]
            repeat' split
            all_goals first | rfl | omega | (congr 1;omega) | (exfalso;omega) | skip
           simp only at e3 ⊢;rw[e3];exact h3
       .cases k
      .cases k
     .cases k
    .cases k
   .cases k
  .cases k
 .cases k
end
abbrev tlS(s:St) (i:Nat):St:=match eY s.T i with
 | some ([],.row t (.int k) l)=>{ s with T:=dB s.T i ([],.Ko t k l 0) }
 | _=>s
abbrev tlP(cx:Cx) (s:St) (o:Oper) (K:St->Prop):Option Prop:=none
section
variable {cx:Cx}{P:Program}{N:Nat}{B:Base}{h0:FH}{s:St}{h:FH}{β:List RV}{w:World}{a:Act}{o:Oper}{K:St->Prop}
theorem ail{k:IntKind}{l:List Int} (x:lT h w t (.int k) l v):TlH w t k l 0 v:=by
 rcases x with x | x | ⟨g,cap,cur,e0,e1,e2,e3,e4,e5⟩
 .exact .inl x
 .exact .inr (.inl x)
 .refine .inr (.inr ⟨g,cap,cur,e0,e1,e2,e3,by simpa using e4,λj n hj=>?_⟩)
  have:=(e5.get (λ_ _=>Rd.size (.int k)) hj).1
  simp only[Sh.size,V5]at this;have h2:((List.take l.length cur.toList).drop j).take 1=[.int k n]:=this;have hj':=(A8.1 hj).1;have h3:(((List.take l.length cur.toList).drop j).take 1)[0]?=some (.int k n):=by rw[h2];rfl
  rw[uX,if_pos (by omega),JY,uX,if_pos (by omega)]at h3
  simpa using h3
theorem Sat.tlS(aj:Sat N B h0 s h β w a) (i:Nat):Sat N B h0 (tlS s i) h β w a:=by
 unfold Go.jl.tlS;split
 .rename_i t k l hT;have fQ:=bH hT (show gv s.gl []=true from rfl)
  refine aj.mem ?_ (FH.le.refl h) (Ext.refl β) λp hp=>?_
  .rw[fO];refine aj.ok.OG fQ rfl λv hv=>?_
   cases v with
   | row v=>exact ail hv
   | blk _=>exact hv.elim
   | deep _ _=>exact hv.elim
   | no=>exact hv.elim
  .rw[fZ]at hp;rcases JW hp with hp | hp
   .exact aj.gT p hp
   .subst hp;rfl
 .exact aj
abbrev Xm(s:St) (i:Nat):St:=match Nat.ble 2000 i with
 | true=>tlS s (i - 2000)
 | false=>ac0 s i
abbrev Aj(s:St):List Nat->St
 | []=>s
 | i :: r=>Aj (Xm s i) r
theorem Sat.Aj:∀{l:List Nat}{s:St}{h:FH}{β:List RV},Sat N B h0 s h β w a->∃h' β',h.le h'/\Sat N B h0 (Aj s l) h' β' w a
 | [],s,h,β,aj=>⟨h,β,FH.le.refl h,aj⟩
 | i :: r,s,h,β,aj=>by
   have h1:∃h' β',h.le h'/\Sat N B h0 (Xm s i) h' β' w a:=by
    unfold Xm;split
    .exact⟨h,β,FH.le.refl h,aj.tlS _⟩
    .exact Sat.KU (l:=[i]) aj
   obtain⟨h1,β1,le1,jf⟩:=h1;obtain⟨h2,β2,iy,bI⟩:=Sat.Aj (l:=r) jf;exact⟨h2,β2,le1.trans iy,bI⟩
theorem ain(hc:bQ P cx.ti) (aj:Sat N B h0 s h β w a) (hg:aK cx.gd h) (hd:lJ N o.dst=true) (e:tlP cx s o K=some p) (k:p):Bg P N B h0 h w a o (Region.wanted o (yielded ops a.tmps)) K:=by
 unfold tlP at e;cases e
end
abbrev UM:Nat->Bool:=λj=>decide (j=0)
abbrev pW(n:Nat) (p q:Nat->Bool):Nat->Bool:=λj=>cnd (decide (j < n)) (p j) (q (j - n))
abbrev amL(sh eq:Sh):Bool:=match sh with
 | .sl e=>decide (e=eq)
 | _=>false
abbrev Xn(cx:Cx) (s:St) (d:Option Nat) (t:TypeId) (q:Nat) (tq:TypeId) (eq:Sh) (l:List eq.den) (parts:List (Nat×Operand)) (K:St->Prop):Prop:=match descOf cx t with
 | .slice el=>match pO cx.ti el with
   | none=>False
   | some ie=>match ie.iJ with
     | none=>False
     | some sh=>match xq cx s [] parts with
       | none=>False
       | some ps=>match dD (amL sh eq) (dD (Nat.beq ie.size 1) (Nat.ble 1 ie.bytes)) with
         | false=>False
         | true=>match uo (λj=>some (j * ie.size,ie.size)) (iG 1 (fA SC.v ie.zero)) ps with
           | some [.row q']=>match Nat.beq q q' with
             | true=>K ({ s with T:=snoc (mT (BX (aQ s.T)) (dB s.T q ([],.gone))) ([],.deep el (.sl eq) [l] tq eq 0 UM []),env:=yT (BX (aQ s.T)) s.env }.put d [] (.one (.c (.row (aQ s.T)))))
             | false=>False
           | _=>False
 | _=>False
abbrev Xo(cx:Cx) (s:St) (d:Option Nat) (t:TypeId) (r:Nat) (tt:TypeId) (fC:Sh) (l1:List fC.den) (t1:TypeId) (e1:Sh) (QU:Nat) (xG:Nat->Bool) (r2:Nat) (UN:TypeId) (oD:Sh) (l2:List oD.den) (t2:TypeId) (e2:Sh) (so2:Nat) (yV:Nat->Bool) (K:St->Prop):Prop:=iK cx t λel ie sh=>
 match dD (Nat.beq tt el) (dD (Nat.beq UN el) (dD (Nat.beq t1 t2) (dD (decide (e1=e2)) (dD (Nat.beq QU so2) (!(Nat.beq r r2)))))) with
 | true=>match jA (.sl fC) l1 (.sl sh) with
   | some l1=>match jA (.sl oD) l2 (.sl sh) with
     | some l2=>(1<=l2.length/\nO (l1.length+l2.length) ie.bytes)/\K ({ s with T:=dB (mT (BX r) (dB s.T r2 ([],.gone))) r ([],.deep el sh (l1++l2) t1 e1 QU (pW l1.length xG yV) []),env:=yT (BX r) s.env }.put d [] (.one (.c (.row r))))
     | none=>False
   | none=>False
 | false=>False
abbrev apP(cx:Cx) (s:St) (o:Oper) (K:St->Prop):Option Prop:=match cx.dm with
 | false=>none
 | true=>match o.guard with
   | some _=>none
   | none=>match o.op with
     | .buildSlice t 1 ps=>match tl ps with
       | [(0,x)]=>match bM cx s [] x with
         | some (.one (.c (.row q)))=>match eY s.T q with
           | some ([],.row tq eq l)=>some (Xn cx s o.dst t q tq eq l (tl ps) K)
           | _=>none
         | _=>none
       | _=>none
     | .call c=>match c.callee with
       | .builtin .append=>match tl c.args with
         | [x,y]=>match bM cx s [] x with
           | some (.one (.c (.row r)))=>match eY s.T r with
             | some ([],.deep tt fC l1 t1 e1 QU xG [])=>match bM cx s [] y with
               | some (.one (.c (.row r2)))=>match eY s.T r2 with
                 | some ([],.deep UN oD l2 t2 e2 so2 yV [])=>match tl c.argTypes with
                   | [t,t']=>match Nat.beq t t' with
                     | true=>some (Xo cx s o.dst t r tt fC l1 t1 e1 QU xG r2 UN oD l2 t2 e2 so2 yV K)
                     | false=>none
                   | _=>none
                 | _=>none
               | _=>none
             | _=>none
           | _=>none
         | _=>none
       | _=>none
     | _=>none
section
variable {cx:Cx}{P:Program}{N:Nat}{B:Base}{h0:FH}{s:St}{h:FH}{β:List RV}{w:World}{a:Act}{o:Oper}{K:St->Prop}
theorem UO(hc:bQ P cx.ti) (aj:Sat N B h0 s h β w a) (hg:aK cx.gd h) (hd:lJ N o.dst=true){parts:Array (Nat×Operand)} (ho:o.op=.buildSlice t 1 parts){q:Nat}{tq:TypeId}{eq:Sh}{l:List eq.den}
 (hTq:eY s.T q=some ([],.row tq eq l)) (k:Xn cx s o.dst t q tq eq l (tl parts) K):gq P N B h0 h w a o true K:=by
 have tr:gv s.gl []=true:=rfl;unfold Xn at k;split at k
 .rename_i el hde;have hu:=bJ hc hde (by simp)
  split at k
  .cases k
  rename_i ie hie;have tie:=hc.get hie;split at k
  .cases k
  rename_i sh hsh;split at k
  .cases k
  rename_i ps hps;split at k
  .cases k
  rename_i hz;rw[aB,aB,bV,bV]at hz;have hz1:ie.size=1:=iw hz.2.1;split at k
  .rename_i q' hxs;split at k
   .rename_i hqq;have hqq:=iw hqq;subst hqq;have htl:(parts.map λ(p:Nat×Operand)=>(p.1,a.eval p.2)).toList=(tl parts).map λp=>(p.1,a.eval p.2):=by cases parts;simp
    rw[DK]at hxs;obtain⟨zs,g1,g2⟩:=qK (qL aj hg tr hps) (gW λv hv=>tie.zone v (yK hv)) hxs
    obtain⟨y,rfl,cy⟩:∃y,zs=[y]/\dZ h β (.row q) y/\dG y:=by
     cases zs with
     | nil=>exact g2.elim
     | cons y zs=>
       cases zs with
       | nil=>exact⟨y,rfl,g2.1⟩
       | cons _ _=>exact g2.2.elim
    have hz0:0 < ie.zero.length:=by rw[tie.pq];omega
    obtain⟨z,hz1',hz2⟩:=uq tie w;have hc1:((Array.range (1 * ie.size)).map (λi=>z.cells[i % z.cells.size]!))=(iG 1 ie.zero).toArray:=by
     rw[hz2,<-tie.pq];exact qM hz0
    have run:(execOp a.eval o).run P w=.ok (.value (.slice (some ⟨w.heap.size,0,none⟩) 1 1)) (w.alloc (.cells #[y] el)):=by
     have hbig:¬(1 * ie.size > 2 ^ 24):=by omega
     have h0:¬1 * ie.size=0:=by omega
     simp only[execOp,ho,Instr.buildSlice,Sem.run_bind,run_underlying hu,Result.andThen_ok,run_sizeOf tie,hbig,NU,Sem.run_ite,Sem.run_pure,h0,hz1'];rw[htl,hc1,g1];simp only[Sem.run_bind,newRow,run_newObj,Result.andThen_ok,Sem.run_pure];rfl
    have tN:=bH hTq tr;have hbq:=aj.ok.row_of tN cy.1;have kT:lT h w tq eq l y:=aj.ok.holds q _ _ tN hbq;have hlen:aQ s.T=β.length:=by rw[aj.ok.len,iY,bF]
    have hTl:(eff s.gl s.T).length=β.length:=aj.ok.len.symm;have hql:q < β.length:=(A8.1 hbq).1;have gb:=ou w (.cells #[y] el) none;have ok1:=aj.ok.forget tN;have ok2:=ok1.add (r:=.row el (.sl eq) []) (v:=.row (.slice (some ⟨w.heap.size,0,none⟩) 0 1)) gb
     (λb hb=>by rw[bC]at hb;simp[aA]at hb;subst hb;simp)
     (.inr (.inr ⟨w.heap.size,1,#[y],rfl,l9 _ _,J4 _,⟨o9 _,by simp[maxLen]⟩,rfl,rfl⟩))
    have hTn:((eff s.gl s.T).set q .gone++[ay.row el (.sl eq) []])[β.length]?=some (.row el (.sl eq) []):=by
     rw[NH (by simp[hTl])];simp[hTl]
    have hbn:(β++[RV.row (.slice (some ⟨w.heap.size,0,none⟩) 0 1)])[β.length]?=some (.row (.slice (some ⟨w.heap.size,0,none⟩) 0 1)):=by simp
    have old:∀b,aA y=some b->b < w.heap.size:=λb hb=>(aj.ok.own q _ _ b tN rfl hbq (bC.2 hb)).2.1
    have fr:∀b,b < w.heap.size->(w.alloc (.cells #[y] el)).heap[b]?=w.heap[b]?:=λb hb=>gb.block b hb (by simp)
    have hold:eU h (w.alloc (.cells #[y] el)) el (.sl eq) [l] tq eq 0 UM [] (.slice (some ⟨w.heap.size,0,none⟩) 1 1) (λj=>if j=0 then y else mZ):=by
     have bn:∀b,aA mZ≠some b:=λb hh=>by simp[mZ,aA]at hh
     have z0:∀{j b},aA (if j=0 then y else mZ)=some b->j=0/\aA y=some b:=by
      intro j b hb
      by_cases hj:j=0
      .rw[if_pos hj]at hb;exact⟨hj,hb⟩
      .rw[if_neg hj]at hb;exact(bn b hb).elim
     refine⟨λj k b h1 h2=>by rw[(z0 h1).1,(z0 h2).1],λj b hb=>⟨by rw[(z0 hb).1];simp,?_⟩,.inr (.inr ⟨w.heap.size,1,#[y],rfl,l9 _ _,by simp,⟨o9 _,by simp[maxLen]⟩,rfl,λj hb=>?_,λj d hj=>?_⟩)⟩
     .rw[fr b (old b (z0 hb).2)];exact(aj.ok.holds q _ _ tN hbq).cells rfl (bC.2 (z0 hb).2)
     .have:=old _ (z0 hb).2;omega
     .have hj0:j=0:=by
       have:=(A8.1 hj).1;simp at this;exact this
      subst hj0;simp at hj;subst hj;show zX h _ (.sl eq) tq eq 0 true false y ((([y]:List Value).drop (0 * 1)).take 1) l;exact⟨[],l,⟨mZ,rfl,.inl ⟨rfl,rfl⟩⟩,⟨rfl,rfl,rfl⟩,rfl,kT.move (FH.le.refl h) λb hb=>fr b (old b hb)⟩
    have ok3:=ok2.OE (f:=BX β.length) (r':=.deep el (.sl eq) [l] tq eq 0 UM []) (v:=.deep (.slice (some ⟨w.heap.size,0,none⟩) 1 1) (λj=>if j=0 then y else mZ)) (row:=none) (X:=λb=>aA y=some b) hTn rfl hbn (cO _ none) (λk e=>by cases e)
     (λb hb=>by
      obtain⟨o1,o2,o3⟩:=aj.ok.own q _ _ b tN rfl hbq (bC.2 hb);refine⟨o1,NI o2 gb.size,o3,λj' rj vj hj' ej lj jo hbj=>?_⟩
      have hjl:j' < β.length:=by
       have h1:=(A8.1 jo).1;simp at h1;omega
      rw[VE (by simp[hTl];exact hjl)]at ej
      rw[VE hjl]at jo;have hjq:j'≠q:=by
       rintro rfl;rw[qx (A8.1 tN).1]at ej;cases ej;cases lj
      rw[mO (Ne.symm hjq)]at ej;exact hjq (aj.ok.inj j' q _ _ _ _ b ej lj tN rfl jo hbq hbj (bC.2 hb)))
     (λb hb=>by
      rw[aX]at hb;rcases hb with hb | ⟨j,hb⟩
      .refine .inl (bC.2 ?_);simp[aA]at hb ⊢;exact hb
      .by_cases hj:j=0
       .rw[if_pos hj]at hb;exact .inr (.inl hb)
       .rw[if_neg hj]at hb;simp[mZ,aA]at hb)
     (λx y c=>c.jk _) hold
    intro Nx Q next
    rw[if_pos rfl];refine kD run (next _ _ _ _ _ k (FH.le.refl h) (λ_=>mQ.KF gb) ((aj.map (f:=BX (aQ s.T)) (T':=snoc (mT (BX (aQ s.T)) (dB s.T q ([],.gone))) ([],.deep el (.sl eq) [l] tq eq 0 UM [])) (β':=(β++[RV.row (.slice (some ⟨w.heap.size,0,none⟩) 0 1)]).set β.length (.deep (.slice (some ⟨w.heap.size,0,none⟩) 1 1) (λj=>if j=0 then y else mZ))) (FH.le.refl h) (λ_=>rfl) (λx y c=>?_) ?_ ?_).put (dW hd) rfl (λ_=>⟨⟨.deep (.slice (some ⟨w.heap.size,0,none⟩) 1 1) (λj=>if j=0 then y else mZ),?_,rfl⟩,rfl,rfl⟩) λhh=>by cases hh))
    .rw[hlen];exact(c.mono (FH.le.refl h) (Ext.append _ _)).jk _
    .rw[iM,D7,fO,hlen];have:(((eff s.gl s.T).set q .gone++[ay.row el (.sl eq) []]).map (mR (BX β.length))).set β.length (.deep el (.sl eq) [l] tq eq 0 UM [])=((eff s.gl s.T).set q .gone).map (mR (BX β.length))++[.deep el (.sl eq) [l] tq eq 0 UM []]:=by
      rw[NP,acr _ _ (by simp[hTl])]
      simp[hTl]
     rw[<-this];exact ok3
    .intro p' hp';rw[iI,Fv]at hp';rcases hp' with hp' | hp'
     .obtain⟨p2,h1,h2⟩:=D8 hp';rw[<-h2];exact ql aj p2 h1
     .simp at hp';subst hp';rfl
    .rw[hlen];rw[qx (by simp)]
   .cases k
  .cases k
 .cases k
theorem FZ{i:TI}{m c b o:Nat} (hu:P.underlying t=some (.slice el)) (ki:aN P el i) (hs1:1<=i.size) (hb1:1<=i.bytes) (hm:1<=m) (room:nO (n+m) i.bytes)
 (hcs:cs.length=m * i.size) (hnews:∀j u,cs[j]?=some u->w.cell? ⟨b,o+j,none⟩=some u) (h1:∀u∈cs,u.oneCell'=true){old:List Value} (hol:old.length=n * i.size)
 (row:(v=.slice none 0 0/\n=0)\/(∃a,v=.slice (some a) 0 0/\n=0)\/∃g cap cur,v=.slice (some ⟨g,0,none⟩) n cap/\w.heap[g]?=some (.cells cur el (0,0))/\n<=cap/\(1<=cap/\cap<=maxLen)/\cur.size=cap * i.size/\cur.toList.take (n * i.size)=old):
 ∃w' g' jH cur',(Builtin.append_ #[t,t] ty #[v,.slice (some ⟨b,o,none⟩) m c]).run P w=.ok (.slice (some ⟨g',0,none⟩) (n+m) jH) w'/\Gb w w' (aA v)/\w'.heap[g']?=some (.cells cur' el (0,0))/\n+m<=jH/\(1<=jH/\jH<=maxLen) /\
   cur'.size=jH * i.size/\(aA v=some g'\/(w.heap.size<=g'/\g' < w'.heap.size))/\cur'.toList.take ((n+m) * i.size)=old++cs:=by
 obtain⟨inf,z,i1,i2,i3,i4,i5⟩:=ki.info;unfold nO at room;have hn:n+m<=140737488355328:=o8 (A80 _ hb1) room;have WM:z.cells.size=i.size:=by rw[i5];simpa using ki.pq
 have hcs':cs.length=m * inf.size:=by rw[i2];exact hcs
 have hnews':∀j u,cs[j]?=some u->w.cell? ((⟨b,o,none⟩:Addr).add j)=some u:=λj u e=>by rw[add_lit];exact hnews j u e
 have grown:∀(scap:Nat),∃w' g' jH cur',w'=w.drew.alloc (.cells (old.toArray++cs.toArray++Builtin.zeroCells z.cells (grownCap w (n+m) scap el - (n+m))) el)/\g'=w.heap.size/\jH=grownCap w (n+m) scap el/\Gb w w' (aA v)/\w'.heap[g']?=some (.cells cur' el (0,0))/\n+m<=jH/\(1<=jH/\jH<=maxLen) /\
  cur'.size=jH * i.size/\(aA v=some g'\/(w.heap.size<=g'/\g' < w'.heap.size))/\cur'.toList.take ((n+m) * i.size)=old++cs:=by
  intro scap;have hge:=grownCap_ge w (n+m) scap el;refine⟨_,_,_,_,rfl,rfl,rfl,⟨⟨rfl,rfl,rfl,by simp,λk hk _=>(World.grownBy_alloc w.drew _ none).block k hk (by simp)⟩,TQ _⟩,heap_alloc_new w.drew _,hge,⟨by omega,grownCap_le_maxLen w _ scap el (by simp only[maxLen];omega)⟩,?_,.inr ⟨o9 _,by simp⟩,?_⟩
  .simp only[A85,FM,size_zeroCells,WM,hcs,hol,<-J5]
   congr 1;omega
  .simp only[A96];rw[show(n+m) * i.size=(old++cs).length by rw[ku,hol,hcs,J5],VQ]
 rcases row with⟨rfl,hn0⟩ | ⟨ra,rfl,hn0⟩ | ⟨g,cap,cur,rfl,q1,q2,q3,q4,q5⟩
 .subst hn0;have ho0:old=[]:=VB (by simpa using hol)
  subst ho0;have r:=run_append_nil (P:=P) w t ty el inf z hu i1 i4 ⟨b,o,none⟩ m c cs hcs' hnews' (by omega) (by omega) (by rw[i3];simp at room;omega)
  obtain⟨w',g',jH,cur',rfl,rfl,rfl,rest⟩:=grown 0;refine⟨_,_,_,cur',?_,rest⟩;simpa using r
 .subst hn0;have ho0:old=[]:=VB (by simpa using hol)
  subst ho0;have r:=run_append_grow (P:=P) w t ty el inf z hu i1 i4 ra 0 0 [] (by simp) (λj u e=>by simp at e) ⟨b,o,none⟩ m c cs hcs' hnews' (by omega) (by omega) (growslice_fits (by omega) (by rw[i3];simpa using room))
  obtain⟨w',g',jH,cur',rfl,rfl,rfl,rest⟩:=grown 0;exact⟨_,_,_,cur',r,rest⟩
 .by_cases hroom:n+m<=cap
  .have hfit:n * inf.size+cs.length<=cur.size:=by rw[hcs,q4,i2,<-J5];exact x9 _ hroom
   have r:=run_append_room (P:=P) w t ty el inf hu i1 g n cap cur q1 ⟨b,o,none⟩ m c cs hcs' hnews' h1 hroom hfit;have e1:(List.take (n * i.size) cur.toList++cs).length=(n+m) * i.size:=by rw[ku,q5,hol,hcs,J5]
   refine⟨_,g,cap,_,r,by rw[aY q3.1];exact iZ w g _,setRow_heap w g cur _ el _ q1,hroom,q3,?_,.inl (aY q3.1),?_⟩
   .have apQ:n * i.size+cs.length<=cur.size:=by rw[<-i2];exact hfit
    simp only[i2,FM,ku,kV,yc,TM (xs:=cur)];rw[<-q4];omega
   .show(List.take (n * inf.size) cur.toList++cs++List.drop (n * inf.size+cs.length) cur.toList).take ((n+m) * i.size)=old++cs;rw[i2,<-e1,VQ,q5]
  .have holds:∀j u,old[j]?=some u->w.cell? ((⟨g,0,none⟩:Addr).add j)=some u:=by
    intro j u e;rw[add_lit,Dh,cell_of_row w g j cur el (0,0) q1];rw[<-q5,uX]at e;split at e
    .simpa using e
    .cases e
   have r:=run_append_grow (P:=P) w t ty el inf z hu i1 i4 ⟨g,0,none⟩ n cap old (by rw[hol,i2]) holds ⟨b,o,none⟩ m c cs hcs' hnews' (by omega) (by omega) (growslice_fits (by omega) (by rw[i3];exact room))
   obtain⟨w',g',jH,cur',rfl,rfl,rfl,rest⟩:=grown cap;exact⟨_,_,_,cur',r,rest⟩
theorem OH{p q:Nat->Bool} (h:j < n):pW n p q j=p j:=by simp[pW,h,cnd]
theorem OI{p q:Nat->Bool} (h:¬j < n):pW n p q j=q (j - n):=by simp[pW,h,cnd]
abbrev Ak(n:Nat) (p q:Nat->Value):Nat->Value:=λj=>if j < n then p j else q (j - n)
theorem kN{p q:Nat->Value} (h:j < n):Ak n p q j=p j:=if_pos h
theorem kP{p q:Nat->Value} (h:¬j < n):Ak n p q j=q (j - n):=if_neg h
theorem Ea{L:List Value}{M a:Nat} (h:a+k<=M):((L.take M).drop a).take k=(L.drop a).take k:=by
 apply H9;intro p;simp only[uX,JY]
 by_cases hp:p < k
 .rw[if_pos hp,if_pos hp,if_pos (by omega)]
 .rw[if_neg hp,if_neg hp]
theorem zX.one{sh:Sh}{tt:TypeId}{e:Sh}{so:Nat}{own:Bool}{u:Value}{cs:List Value}{d:sh.den} (x:zX h w sh tt e so own false u cs d):∀z∈cs,dG z:=by
 intro z hz;cases own with
 | false=>exact Rd.one sh x.1 z hz
 | true=>
   obtain⟨d0,y,r,_,c,q⟩:=x;obtain⟨p,hp⟩:=yg hz
   by_cases hps:p=so
   .subst hps;rw[hp]at c;cases c;rcases q with⟨e,_⟩ | ⟨_,e,_⟩ | ⟨_,_,_,e,_⟩<;>subst e<;>exact⟨rfl,rfl⟩
   .refine Rd.one sh r z (ig (i:=p) ?_);rw[mO (Ne.symm hps)];exact hp
theorem eU.join{sh:Sh}{l1 l2:List sh.den}{xG yV:Nat->Bool}{v1 v2:Value}{QV ug:Nat->Value}{g' jH:Nat}{cur':Array Value}{old:List Value}
 (D1:eU h w t sh l1 tt e so xG [] v1 QV) (D2:eU h w t sh l2 tt e so yV [] v2 ug) (h2:1<=l2.length)
 (dis:∀i j b,aA (QV i)=some b->aA (ug j)=some b->False)
 (fr:∀b,(∃i,aA (QV i)=some b)\/(∃j,aA (ug j)=some b)->w'.heap[b]?=w.heap[b]?/\b≠g')
 (c1:w'.heap[g']?=some (.cells cur' t (0,0))) (c2:l1.length+l2.length<=jH) (c3:1<=jH/\jH<=maxLen) (c4:cur'.size=jH * sh.size) (hol:old.length=l1.length * sh.size)
 (c5:cur'.toList.take ((l1.length+l2.length) * sh.size)=old++cs)
 (e1:∀j d,l1[j]?=some d->zX h w sh tt e so (xG j) false (QV j) ((old.drop (j * sh.size)).take sh.size) d)
 (e2:∀j d,l2[j]?=some d->zX h w sh tt e so (yV j) false (ug j) ((cs.drop (j * sh.size)).take sh.size) d):
 eU h w' t sh (l1++l2) tt e so (pW l1.length xG yV) [] (.slice (some ⟨g',0,none⟩) (l1.length+l2.length) jH) (Ak l1.length QV ug):=by
 refine⟨λj k b hj hk=>?_,λj b hj=>?_,.inr (.inr ⟨g',jH,cur',by rw[ku],c1,by rw[ku];exact c2,c3,c4,λj hj=>?_,λj d hj=>?_⟩)⟩
 .by_cases a1:j < l1.length<;>by_cases a2:k < l1.length
  .rw[kN a1]at hj;rw[kN a2]at hk;exact D1.1 j k b hj hk
  .rw[kN a1]at hj;rw[kP a2]at hk;exact(dis _ _ b hj hk).elim
  .rw[kP a1]at hj;rw[kN a2]at hk;exact(dis _ _ b hk hj).elim
  .rw[kP a1]at hj;rw[kP a2]at hk;have:=D2.1 _ _ b hj hk;omega
 .by_cases a1:j < l1.length
  .rw[kN a1]at hj;rw[(fr b (.inl ⟨j,hj⟩)).1];exact⟨by rw[ku];omega,(D1.2.1 j b hj).2⟩
  .rw[kP a1]at hj;rw[(fr b (.inr ⟨_,hj⟩)).1];have:=D2.2.1 _ b hj;exact⟨by rw[ku];omega,this.2⟩
 .by_cases a1:j < l1.length
  .rw[kN a1]at hj;exact(fr g' (.inl ⟨j,hj⟩)).2 rfl
  .rw[kP a1]at hj;exact(fr g' (.inr ⟨_,hj⟩)).2 rfl
 .have hjl:=(A8.1 hj).1;rw[ku]at hjl;have hm:(j+1) * sh.size<=(l1.length+l2.length) * sh.size:=x9 _ hjl;rw[wW]at hm;have cut:(cur'.toList.drop (j * sh.size)).take sh.size=((old++cs).drop (j * sh.size)).take sh.size:=by
   rw[<-c5,Ea hm]
  rw[cut,show nJ j []=false from rfl]
  rw[A91]at hj;split at hj
  .rename_i a1;rw[kN a1,OH a1];have hm1:(j+1) * sh.size<=l1.length * sh.size:=x9 _ a1;rw[wW]at hm1;have:((old++cs).drop (j * sh.size)).take sh.size=(old.drop (j * sh.size)).take sh.size:=by
    rw[A97 (by omega),A83 (by rw[yc];omega)]
   rw[this];exact(e1 j d hj).move (FH.le.refl h) λb hb=>(fr b (.inl ⟨j,hb⟩)).1
  .rename_i a1;rw[kP a1,OI a1];have hjj:j * sh.size=l1.length * sh.size+(j - l1.length) * sh.size:=by rw[<-J5];congr 1;omega
   have:(old++cs).drop (j * sh.size)=cs.drop ((j - l1.length) * sh.size):=by
    rw[hjj,<-hol,A78]
   rw[this];exact(e2 _ d hj).move (FH.le.refl h) λb hb=>(fr b (.inr ⟨_,hb⟩)).1
theorem UQ(hc:bQ P cx.ti) (aj:Sat N B h0 s h β w a) (hg:aK cx.gd h) (hd:lJ N o.dst=true){x y:Operand} (ho:o.op=.call c) (bW:c.callee=.builtin .append) (ha:c.args=#[x,y]) (ht:c.argTypes=#[t,t])
 {r:Nat} (hx:bM cx s [] x=some (.one (.c (.row r)))){fC:Sh}{l1:List fC.den}{t1:TypeId}{e1:Sh}{QU:Nat}{xG:Nat->Bool} (hT:eY s.T r=some ([],.deep tt fC l1 t1 e1 QU xG []))
 {r2:Nat} (hy:bM cx s [] y=some (.one (.c (.row r2)))){UN:TypeId}{oD:Sh}{l2:List oD.den}{t2:TypeId}{e2:Sh}{so2:Nat}{yV:Nat->Bool} (hT2:eY s.T r2=some ([],.deep UN oD l2 t2 e2 so2 yV []))
 (k:Xo cx s o.dst t r tt fC l1 t1 e1 QU xG r2 UN oD l2 t2 e2 so2 yV K):gq P N B h0 h w a o true K:=by
 have tr:gv s.gl []=true:=rfl;unfold Xo iK at k;split at k
 .rename_i el hde;have hu:=bJ hc hde (by simp)
  split at k
  .cases k
  rename_i ie hie;have tie:=hc.get hie;split at k
  .cases k
  rename_i sh hsh;split at k
  .rename_i hz;rw[aB,aB,bV,bV]at hz;have hz1:sh.size=ie.size:=iw hz.1;have hz2:1<=ie.bytes:=qj hz.2.1;have hz3:1<=ie.size:=qj hz.2.2;split at k
   .rename_i hq;rw[aB,aB,aB,aB,aB,bV,bV,bV,bV,bV,dH]at hq;obtain⟨q1,q2,q3,q4,q5,q6⟩:=hq;have q1:tt=el:=iw q1;have q2:UN=el:=iw q2;have q3:t1=t2:=iw q3;have q5:QU=so2:=iw q5;have hrr:r2≠r:=OD q6;subst q1;subst q2;subst q3;subst q4;subst q5;split at k
    .rename_i m1 hm1;obtain⟨f1,f2⟩:=oG hm1;subst f1;simp only at f2;subst f2;split at k
     .rename_i m2 hm2;obtain⟨f1,f2⟩:=oG hm2;subst f1;simp only at f2;subst f2;obtain⟨⟨k1,k2⟩,k⟩:=k;have fQ:=bH hT tr;have UR:=bH hT2 tr;have cx1:=(aP aj hg tr hx:dA h β (.c (.row r)) (a.eval x));have cy1:=(aP aj hg tr hy:dA h β (.c (.row r2)) (a.eval y));obtain⟨QV,hb1,D1⟩:=aj.ok.vC fQ cx1.1;obtain⟨ug,hb2,D2⟩:=aj.ok.vC UR cy1.1;have amM:∀b,(RV.deep (a.eval x) QV).has b->B.al b/\b < w.heap.size/\∀o,h b o=none:=λb hb=>aj.ok.own r _ _ b fQ rfl hb1 hb
      have ahc:∀b,(RV.deep (a.eval y) ug).has b->B.al b/\b < w.heap.size/\∀o,h b o=none:=λb hb=>aj.ok.own r2 _ _ b UR rfl hb2 hb
      have apart:∀b,(RV.deep (a.eval x) QV).has b->(RV.deep (a.eval y) ug).has b->False:=λb p q=>hrr (aj.ok.inj r2 r _ _ _ _ b UR rfl fQ rfl hb2 hb1 q p)
      obtain⟨g2,cap2,D9,v0,v1,v2,v3,v4,v5,v6⟩:=D2.third (j:=0) (by omega)
      have hsz2:l2.length * oD.size<=cap2 * oD.size:=x9 _ v2;have hcs:(D9.toList.take (l2.length * oD.size)).length=l2.length * oD.size:=by rw[kV,TM (xs:=D9)];omega
      have el2:∀j d,l2[j]?=some d->zX h w oD t1 e1 QU (yV j) false (ug j) (((D9.toList.take (l2.length * oD.size)).drop (j * oD.size)).take oD.size) d:=by
       intro j d hj;have hjl:=(A8.1 hj).1;have hm:(j+1) * oD.size<=l2.length * oD.size:=x9 _ hjl;rw[wW]at hm;rw[Ea hm];exact v6 j d hj
      have ao4:∀u∈D9.toList.take (l2.length * oD.size),u.oneCell'=true:=by
       intro u hu;obtain⟨p,hp⟩:=yg hu;have hpl:=(A8.1 hp).1;rw[hcs]at hpl;have hs0:0 < oD.size:=by rw[hz1];exact hz3
       have hjl:p / oD.size < l2.length:=by rw[Nat.div_lt_iff_lt_mul hs0];exact hpl
       have hdm:p / oD.size * oD.size+p % oD.size=p:=by rw[Nat.mul_comm];exact Nat.div_add_mod p oD.size
       refine((el2 _ _ (lK hjl)).one u (ig (i:=p % oD.size) ?_)).2;rw[uX,if_pos (Nat.mod_lt _ hs0),JY,hdm];exact hp
      obtain⟨old,hol,row,el1,nb1⟩:∃old:List Value,old.length=l1.length * oD.size/\((a.eval x=.slice none 0 0/\l1.length=0)\/(∃ad,a.eval x=.slice (some ad) 0 0/\l1.length=0)\/∃g cap cur,a.eval x=.slice (some ⟨g,0,none⟩) l1.length cap/\w.heap[g]?=some (.cells cur UN (0,0))/\l1.length<=cap/\(1<=cap/\cap<=maxLen)/\cur.size=cap * ie.size/\cur.toList.take (l1.length * ie.size)=old) /\
       (∀j d,l1[j]?=some d->zX h w oD t1 e1 QU (xG j) false (QV j) ((old.drop (j * oD.size)).take oD.size) d)/\∀i b,aA (QV i)=some b->aA (a.eval x)≠some b:=by
       rcases D1.2.2 with⟨e,rfl⟩ | ⟨ad,e,rfl⟩ | ⟨g,cap,cur,u0,u1,u2,u3,u4,u5,u6⟩
       .exact⟨[],by simp,.inl ⟨e,rfl⟩,λj d hj=>by simp at hj,λi b _=>by rw[e];simp[aA]⟩
       .exact⟨[],by simp,.inr (.inl ⟨ad,e,rfl⟩),λj d hj=>by simp at hj,λi b _=>by rw[e];simp[aA]⟩
       .have hsz1:l1.length * oD.size<=cap * oD.size:=x9 _ u2;refine⟨cur.toList.take (l1.length * oD.size),by rw[kV,TM (xs:=cur)];omega,.inr (.inr ⟨g,cap,cur,u0,u1,u2,u3,by rw[<-hz1];exact u4,by rw[hz1]⟩),λj d hj=>?_,λi b hb=>by rw[u0,aY u3.1];intro hh;cases hh;exact u5 i hb⟩
        have hjl:=(A8.1 hj).1;have hm:(j+1) * oD.size<=l1.length * oD.size:=x9 _ hjl;rw[wW]at hm;rw[Ea hm];exact u6 j d hj
      obtain⟨w',g',jH,cur',r1,gb,c1,c2,c3,c4,c6,c5⟩:=FZ (ty:=o.type) (b:=g2) (o:=0) (c:=cap2) (m:=l2.length) (n:=l1.length) (cs:=D9.toList.take (l2.length * oD.size)) (old:=old) hu tie hz3 hz2 k1 k2 (by rw[hcs,hz1]) (λj u hj=>by
       rw[Dh,cell_of_row w g2 j D9 UN (0,0) v1];rw[uX]at hj;split at hj
       .simpa using hj
       .cases hj) ao4 (by rw[hol,hz1]) row
      have fr:∀b,(∃i,aA (QV i)=some b)\/(∃j,aA (ug j)=some b)->w'.heap[b]?=w.heap[b]?/\b≠g':=by
       rintro b (⟨i,hb⟩ | ⟨j,hb⟩)
       .have o1:=(amM b (aX.2 (.inr ⟨i,hb⟩))).2.1;refine⟨gb.block b o1 λhh=>nb1 i b hb hh.symm,?_⟩
        rintro rfl;rcases c6 with c6 | c6
        .exact nb1 i b hb c6
        .omega
       .have o1:=(ahc b (aX.2 (.inr ⟨j,hb⟩))).2.1;refine⟨gb.block b o1 λhh=>apart b (aX.2 (.inl hh.symm)) (aX.2 (.inr ⟨j,hb⟩)),?_⟩
        rintro rfl;rcases c6 with c6 | c6
        .exact apart b (aX.2 (.inl c6)) (aX.2 (.inr ⟨j,hb⟩))
        .omega
      have J:=eU.join (w':=w') (g':=g') (jH:=jH) (cur':=cur') (old:=old) (cs:=D9.toList.take (l2.length * oD.size)) D1 D2 k1 (λi j b p q=>apart b (aX.2 (.inr ⟨i,p⟩)) (aX.2 (.inr ⟨j,q⟩))) fr c1 c2 c3 (by rw[hz1];exact c4) hol (by rw[hz1];rw[hz1]at c5;exact c5) el1 el2
      have run:(execOp a.eval o).run P w=.ok (.value (.slice (some ⟨g',0,none⟩) (l1.length+l2.length) jH)) w':=by
       rw[<-v0]at r1;simp[execOp,ho,resolve,bW,ha,ht,invoke,builtin,r1]
      have ok1:=aj.ok.forget UR;have hT1:((eff s.gl s.T).set r2 .gone)[r]?=some (.deep UN oD l1 t1 e1 QU xG []):=by rw[mO hrr];exact fQ
      have hrl:r < β.length:=(A8.1 hb1).1;have ok2:=ok1.OE (f:=BX r) (r':=.deep UN oD (l1++l2) t1 e1 QU (pW l1.length xG yV) []) (v:=.deep (.slice (some ⟨g',0,none⟩) (l1.length+l2.length) jH) (Ak l1.length QV ug)) (row:=aA (a.eval x)) (X:=λb=>∃j,aA (ug j)=some b) hT1 rfl hb1 gb (λk e=>aX.2 (.inl e))
       (λb hb=>by
        have hb:(RV.deep (a.eval y) ug).has b:=aX.2 (.inr hb);obtain⟨o1,o2,o3⟩:=ahc b hb;refine⟨o1,o2,o3,λj' rj vj hj' ej lj jo hbj=>?_⟩
        have hjq:j'≠r2:=by
         rintro rfl;rw[qx (A8.1 UR).1]at ej;cases ej;cases lj
        rw[mO (Ne.symm hjq)]at ej;exact hjq (aj.ok.inj j' r2 _ _ _ _ b ej lj UR rfl jo hb2 hbj hb))
       (λb hb=>by
        rw[aX]at hb;rcases hb with hb | ⟨j,hb⟩
        .rw[aY c3.1]at hb;cases hb;exact c6.elim (λq=>.inl (aX.2 (.inl q))) λq=>.inr (.inr q)
        .by_cases a1:j < l1.length
         .rw[kN a1]at hb;exact .inl (aX.2 (.inr ⟨j,hb⟩))
         .rw[kP a1]at hb;exact .inr (.inl ⟨_,hb⟩))
       (λx y c=>c.jk _) J
      intro Nx Q next
      rw[if_pos rfl];refine kD run (next _ _ _ _ _ k (FH.le.refl h) (λhh=>by rw[ho]at hh;simp[quietly,bW]at hh) ((aj.map (f:=BX r) (T':=dB (mT (BX r) (dB s.T r2 ([],.gone))) r ([],.deep UN oD (l1++l2) t1 e1 QU (pW l1.length xG yV) [])) (β':=β.set r (.deep (.slice (some ⟨g',0,none⟩) (l1.length+l2.length) jH) (Ak l1.length QV ug))) (FH.le.refl h) (λ_=>rfl) (λx y c=>c.jk _) ?_ ?_).put (dW hd) rfl (λ_=>⟨⟨.deep (.slice (some ⟨g',0,none⟩) (l1.length+l2.length) jH) (Ak l1.length QV ug),?_,rfl⟩,rfl,rfl⟩) λhh=>by cases hh))
      .rw[fO,D7,fO];exact ok2
      .intro p' hp';rw[fZ]at hp';rcases JW hp' with hp' | hp'
       .obtain⟨p2,h1,h2⟩:=D8 hp';rw[<-h2];exact ql aj p2 h1
       .subst hp';rfl
      .rw[qx hrl]
     .cases k
    .cases k
   .cases k
  .cases k
 .cases k
theorem Xp(hc:bQ P cx.ti) (aj:Sat N B h0 s h β w a) (hg:aK cx.gd h) (hd:lJ N o.dst=true) (e:apP cx s o K=some p) (k:p):gq P N B h0 h w a o (Region.wanted o (yielded ops a.tmps)) K:=by
 unfold apP at e;split at e
 .cases e
 split at e
 .cases e
 rename_i hgd;rw[show Region.wanted o (yielded ops a.tmps)=true by simp[Region.wanted,hgd]]
 split at e
 .rename_i t ps ho;split at e
  .rename_i x hps;split at e
   .rename_i q hx;split at e
    .rename_i tq eq l hTq;cases e;exact UO hc aj hg hd ho hTq k
    .cases e
   .cases e
  .cases e
 .rename_i c ho;split at e
  .rename_i bW;split at e
   .rename_i x y ha;split at e
    .rename_i r hx;split at e
     .rename_i tt fC l1 t1 e1 QU xG hT;split at e
      .rename_i r2 hy;split at e
       .rename_i UN oD l2 t2 e2 so2 yV hT2;split at e
        .rename_i t t' ht;split at e
         .rename_i hb;have hb:t=t':=iw hb;subst hb;cases e;exact UQ hc aj hg hd ho bW (iF ha) (iF ht) hx hT hy hT2 k
         .cases e
        .cases e
       .cases e
      .cases e
     .cases e
    .cases e
   .cases e
  .cases e
 .cases e
theorem Xq(h1:∀t n ps,o.op≠.buildSlice t n ps) (h2:∀c,o.op=.call c->c.callee≠.builtin .append):apP cx s o K=none:=by
 cases hp:apP cx s o K with
 | none=>rfl
 | some p=>
   exfalso;unfold apP at hp;split at hp
   .cases hp
   split at hp
   .cases hp
   split at hp
   .rename_i t ps ho;exact h1 _ _ _ ho
   .rename_i c ho;split at hp
    .rename_i bW;exact h2 c ho bW
    .cases hp
   .cases hp
abbrev aip(cx:Cx) (s:St) (o:Oper) (K:St->Prop):Option Prop:=match apP cx s o K with
 | some p=>some p
 | none=>match tlP cx s o K with
   | some p=>some p
   | none=>aic cx s o K
theorem ac2(hc:bQ P cx.ti) (aj:Sat N B h0 s h β w a) (hg:aK cx.gd h) (hd:lJ N o.dst=true) (e:aip cx s o K=some p) (k:p):Bg P N B h0 h w a o (Region.wanted o (yielded ops a.tmps)) K:=by
 unfold aip at e;split at e
 .rename_i p' hp;cases e;exact(Xp hc aj hg hd hp k).weak
 .split at e
  .rename_i p' hp;cases e;exact ain hc aj hg hd hp k
  .exact acX hc aj hg hd e k
end
abbrev Xr(cx:Cx) (s:St) (d:Option Nat) (t:TypeId) (i:Nat) (lo:Operand) (K:St->Prop):Prop:=iK cx t λel ie sh=>match eY s.T i with
 | some ([],.row tt fC l1)=>match jA (.sl fC) l1 (.sl sh) with
   | some l=>match bM cx s [] lo with
     | some (.one (.c (.v (.int _ n))))=>(0<=n/\n<=l.length)/\K ({ s with T:=dB s.T i ([],.Gj tt sh l n.toNat) }.put d [] (.one (.c (.sub i 0))))
     | _=>False
   | none=>False
 | _=>False
abbrev Xt(cx:Cx) (s:St) (d:Option Nat) (t:TypeId) (i:Nat) (y:Operand) (K:St->Prop):Prop:=iK cx t λel ie sh=>match eY s.T i with
 | some ([],.Gj tt fC l1 off)=>match jA (.sl fC) l1 (.sl sh) with
   | some l=>match bM cx s [] y with
     | some (.one v)=>match Oj s sh v with
       | some l2=>K ({ s with T:=dB (mT (uH i) s.T) i ([],.row tt sh (l.take off++(l2.take (l.length - off)++(l.drop off).drop l2.length))),env:=yT (uH i) s.env }.put d [] (vI .i64 (Nat.min l2.length (l.length - off))))
       | none=>False
     | _=>False
   | none=>False
 | _=>False
abbrev Xu(cx:Cx) (s:St) (d:Option Nat) (t:TypeId) (fC:Sh) (x1:fC.den) (K:St->Prop):Prop:=iK cx t λel ie sh=>match jA fC x1 sh with
 | some x=>match Nat.ble ie.size 16777216 with
   | true=>K ({ s with T:=snoc s.T ([],.row el sh [x]) }.put d [] (.one (.c (.row (aQ s.T)))))
   | false=>False
 | none=>False
abbrev rtP(cx:Cx) (s:St) (o:Oper) (K:St->Prop):Option Prop:=match cx.rt with
 | false=>none
 | true=>match o.guard with
   | some _=>none
   | none=>match o.op with
     | .buildSlice t 1 ps=>match tl ps with
       | [(0,x)]=>match bM cx s [] x with
         | some (.one (.dat fC x1))=>some (Xu cx s o.dst t fC x1 K)
         | _=>none
       | _=>none
     | .slice t x (some lo) none none=>match bM cx s [] x with
       | some (.one (.c (.row i)))=>match eY s.T i with
         | some ([],.row _ _ _)=>some (Xr cx s o.dst t i lo K)
         | _=>none
       | _=>none
     | .call c=>match c.callee with
       | .builtin .copy=>match tl c.args with
         | [x,y]=>match bM cx s [] x with
           | some (.one (.c (.sub i 0)))=>match eY s.T i with
             | some ([],.Gj _ _ _ _)=>match tl c.argTypes with
               | [t,_]=>some (Xt cx s o.dst t i y K)
               | _=>none
             | _=>none
           | _=>none
         | _=>none
       | _=>none
     | _=>none
section
variable {cx:Cx}{P:Program}{N:Nat}{B:Base}{h0:FH}{s:St}{h:FH}{β:List RV}{w:World}{a:Act}{o:Oper}{K:St->Prop}
theorem dZ.js2{us:Nat->Value} (hu:β[i]?=some (.deep v us)){x:SC} (c:dZ h β x y):dZ h (β.set i (.row v)) (uH i x) y:=by
 unfold uH;split
 .rename_i hf;cases x with
  | v _=>exact c
  | sl _ _=>exact c
  | fp _ _=>exact c
  | one _ _=>exact c
  | abs _=>exact c
  | junk=>trivial
  | own j off=>
    obtain⟨b,e,e'⟩:=c;refine⟨b,?_,e'⟩;rw[dM hu,if_neg]
    .exact e
    .rintro rfl;rw[hu]at e;cases e
  | row j=>
    obtain⟨z,e,e'⟩:=c
    by_cases hj:j=i
    .subst hj;rw[hu]at e;cases e;exact⟨.row v,by rw[dM hu,if_pos rfl],e'⟩
    .exact⟨z,by rw[dM hu,if_neg hj];exact e,e'⟩
  | jR j k sz off=>
    obtain⟨z,g,e,e',e2⟩:=c
    by_cases hj:j=i
    .subst hj;rw[hu]at e;cases e;exact⟨.row v,g,by rw[dM hu,if_pos rfl],e',e2⟩
    .exact⟨z,g,by rw[dM hu,if_neg hj];exact e,e',e2⟩
  | sub j k=>
    obtain⟨z,ug,e,e'⟩:=c;exact⟨z,ug,by rw[dM hu,if_neg (OD hf)];exact e,e'⟩
  | lM j k m sz off=>
    obtain⟨z,ug,g,e,e'⟩:=c;exact⟨z,ug,g,by rw[dM hu,if_neg (OD hf)];exact e,e'⟩
 .trivial
theorem dZ.js3{us:Nat->Value} (hu:β[i]?=some (.row v)){x:SC} (c:dZ h β x y):dZ h (β.set i (.deep v us)) x y:=by
 cases x with
 | v _=>exact c
 | sl _ _=>exact c
 | fp _ _=>exact c
 | one _ _=>exact c
 | abs _=>exact c
 | junk=>trivial
 | own j off=>
   obtain⟨b,e,e'⟩:=c;refine⟨b,?_,e'⟩;rw[dM hu,if_neg]
   .exact e
   .rintro rfl;rw[hu]at e;cases e
 | row j=>
   obtain⟨z,e,e'⟩:=c
   by_cases hj:j=i
   .subst hj;rw[hu]at e;cases e;exact⟨.deep v us,by rw[dM hu,if_pos rfl],e'⟩
   .exact⟨z,by rw[dM hu,if_neg hj];exact e,e'⟩
 | jR j k sz off=>
   obtain⟨z,g,e,e',e2⟩:=c
   by_cases hj:j=i
   .subst hj;rw[hu]at e;cases e;exact⟨.deep v us,g,by rw[dM hu,if_pos rfl],e',e2⟩
   .exact⟨z,g,by rw[dM hu,if_neg hj];exact e,e',e2⟩
 | sub j k=>
   obtain⟨z,ug,e,e'⟩:=c;refine⟨z,ug,?_,e'⟩;rw[dM hu,if_neg]
   .exact e
   .rintro rfl;rw[hu]at e;cases e
 | lM j k m sz off=>
   obtain⟨z,ug,g,e,e'⟩:=c;refine⟨z,ug,g,?_,e'⟩;rw[dM hu,if_neg]
   .exact e
   .rintro rfl;rw[hu]at e;cases e
theorem mid(l:List SC):fA (λx=>x) l=l:=by
 induction l with
 | nil=>rfl
 | cons x l ih=>simp[fA,ih]
theorem ao5(e:aZ):mE (λx=>x) e=e:=by
 have m2:∀x:SV,mV (λx=>x) x=x:=by intro x;cases x<;>simp[mV,mid]
 cases e with
 | one x=>simp[mE,m2]
 | iq xs=>
   have:∀l:List SV,fA (mV λx=>x) l=l:=by
    intro l
    induction l with
    | nil=>rfl
    | cons x l ih=>simp[fA,ih,m2]
   simp[mE,this]
theorem UU(hc:bQ P cx.ti) (aj:Sat N B h0 s h β w a) (hg:aK cx.gd h) (hd:lJ N o.dst=true){x lo:Operand} (ho:o.op=.slice t x (some lo) none none)
 (hx:bM cx s [] x=some (.one (.c (.row i)))) (k:Xr cx s o.dst t i lo K):gq P N B h0 h w a o (gv s.gl []) K:=by
 have tr:gv s.gl []=true:=rfl;unfold Xr iK at k;split at k
 .rename_i el hde;have hu:=bJ hc hde (by simp)
  split at k
  .cases k
  rename_i ie hie;have tie:=hc.get hie;split at k
  .cases k
  rename_i sh hsh;split at k
  .rename_i hz;rw[aB,aB,bV,bV]at hz;have hz1:sh.size=ie.size:=iw hz.1;split at k
   .rename_i tt fC l1 hT;split at k
    .rename_i l hl;obtain⟨e1,e2⟩:=oG hl;subst e1;simp only at e2;subst e2;split at k
     .rename_i ik n hn;have eh:a.eval lo=.int ik n:=(aP aj hg tr hn:dA h β (.c (.v (.int ik n))) (a.eval lo)).1.1;obtain⟨⟨b1,b2⟩,q⟩:=k;have cr:=(aP aj hg tr hx:dA h β (.c (.row i)) (a.eval x));have fQ:=bH hT tr;have hβ:=aj.ok.row_of fQ cr.1;have kT:lT h w tt fC l1 (a.eval x):=aj.ok.holds i _ _ fQ hβ;have hi':i < β.length:=(A8.1 hβ).1;obtain⟨ad,cap,ev,hle⟩:∃(ad:Option Addr) (cap:Nat),a.eval x=.slice ad l1.length cap/\l1.length<=cap:=by
       rcases kT with⟨e,e0⟩ | ⟨ra,e,e0⟩ | ⟨g,cap,cur,e,q1,q2,_⟩
       .exact⟨none,0,by rw[e,e0];rfl,by rw[e0];simp⟩
       .exact⟨some ra,0,by rw[e,e0];rfl,by rw[e0];simp⟩
       .exact⟨_,cap,e,q2⟩
      have run:(execOp a.eval o).run P w=.ok (.value (.slice (if cap=n.toNat then ad else ad.map (·.add (n.toNat * ie.size))) (l1.length - n.toNat) (cap - n.toNat))) w:=by
       have:=oC (P:=P) (w:=w) (isS:=true) (len:=l1.length) (cap:=cap) (lo:=some (.int ik n)) (hi:=none) (a:=n) (b:=l1.length) (.inr ⟨ik,rfl⟩) (.inl ⟨rfl,rfl⟩) (by omega) hle
       have r2:(Instr.sliceAt t (a.eval x) (some (.int ik n)) none none).run P w=.ok (.slice (if cap=n.toNat then ad else ad.map (·.add (n.toNat * ie.size))) (l1.length - n.toNat) (cap - n.toNat)) w:=by
        rw[ev];simp only[Instr.sliceAt,Instr.slice,Sem.run_bind,run_underlying hu,Result.andThen_ok,this,run_sizeOf tie,Sem.run_pure,A95]
       simp only[execOp,ho,Sem.run_bind,acy,VI,eh];rw[r2];rfl
      rw[<-hz1]at run;have hold:Dj h w tt fC l1 n.toNat (a.eval x) (λ_=>.slice (if cap=n.toNat then ad else ad.map (·.add (n.toNat * fC.size))) (l1.length - n.toNat) (cap - n.toNat)):=⟨kT,by omega,ad,cap,ev,hle,rfl⟩
      generalize hus:(λ_:Nat=>Value.slice (if cap=n.toNat then ad else ad.map (·.add (n.toNat * fC.size))) (l1.length - n.toNat) (cap - n.toNat))=us at hold
      have h0':us 0=.slice (if cap=n.toNat then ad else ad.map (·.add (n.toNat * fC.size))) (l1.length - n.toNat) (cap - n.toNat):=by rw[<-hus]
      rw[<-h0']at run;have ao6:dG (us 0):=by rw[h0'];exact⟨rfl,rfl⟩
      have hC:∀x' y,dZ h β x' y->dZ h (β.set i (.deep (a.eval x) us)) x' y:=λ_ _ c=>c.js3 hβ
      have aW:Sat N B h0 { s with T:=dB s.T i ([],.Gj tt fC l1 n.toNat) } h (β.set i (.deep (a.eval x) us)) w a:=by
       refine⟨?_,?_,aj.gs,aj.defers,aj.sz,aj.gb,ql aj⟩
       .show OK B h0 (eff s.gl (dB s.T i ([],.Gj tt fC l1 n.toNat))) h _ w;rw[xw];have:=aj.ok.OE (f:=λx=>x) (r':=.Gj tt fC l1 n.toNat) (v:=.deep (a.eval x) us) (row:=none) (X:=λ_=>False) fQ rfl hβ (cO w none) (λk e=>by cases e) (λb hb=>hb.elim)
         (λb hb=>by
          rw[aX]at hb;rcases hb with hb | ⟨j,hb⟩
          .exact .inl (bC.2 hb)
          .exact .inl (bC.2 (hold.blk hb))) hC hold
        rwa [show(eff s.gl s.T).map (mR λx=>x)=eff s.gl s.T by rw[show(mR λx=>x)=id from funext ag8];simp]at this
       .intro t' G e' ht;obtain⟨z,q1,q2,q3⟩:=aj.env t' G e' ht;refine⟨z,q1,λhG=>?_,q3⟩
        have:=jP.map (f:=λx=>x) (FH.le.refl h) hC (q2 hG)
        rwa [ao5]at this
      intro Nx Q next
      rw[if_pos tr];refine kD run (next _ _ _ _ _ q (FH.le.refl h) (λ_=>mQ.refl w) (aW.put (G:=[]) (e:=.one (.c (.sub i 0))) (dW hd) rfl (λ_=>⟨?_,ao6⟩) λhh=>by cases hh))
      refine⟨a.eval x,us,?_,rfl⟩;rw[qx hi']
     .cases k
    .cases k
   .cases k
  .cases k
 .cases k
theorem UW{dT sT:TypeId}{i:TI} (k:aN P el i) (hu:P.underlying dT=some (.slice el)){go dLen dCap:Nat}{b:Addr}{sLen sCap:Nat}{cur:Array Value}
 (hg:w.heap[g]?=some (.cells cur t (0,0))) (hn:cs.length=Nat.min sLen dLen * i.size) (hsrc:∀j v,cs[j]?=some v->w.cell? (b.add j)=some v) (hfit:go+cs.length<=cur.size) (h1:∀v∈cs,v.oneCell'=true):
 (Builtin.copy_ #[dT,sT] ty #[.slice (some ⟨g,go,none⟩) dLen dCap,.slice (some b) sLen sCap]).run P w=.ok (goInt (Nat.min sLen dLen)) (w.setRow g (cur.toList.take go++cs++cur.toList.drop (go+cs.length)).toArray):=by
 have hl:=run_loadCells_list (P:=P) w b cs hsrc;have hst:=run_storeCells_at P g go t cs 0 cur w hg (by simpa using hfit) h1
 simp only[Uc,Dh]at hst;simp[Builtin.copy_,run_underlying hu,Builtin.lenOf,Builtin.firstCells,run_sizeOf k,<-hn,hl,hst]
theorem UY(hc:bQ P cx.ti) (aj:Sat N B h0 s h β w a) (hg:aK cx.gd h) (hd:lJ N o.dst=true){t':TypeId}{x y:Operand} (ho:o.op=.call c) (bW:c.callee=.builtin .copy) (ha:c.args=#[x,y]) (hat:c.argTypes=#[t,t'])
 (hx:bM cx s [] x=some (.one (.c (.sub i 0)))) (k:Xt cx s o.dst t i y K):gq P N B h0 h w a o (gv s.gl []) K:=by
 have tr:gv s.gl []=true:=rfl;unfold Xt iK at k;split at k
 .rename_i el hde;have hu:=bJ hc hde (by simp)
  split at k
  .cases k
  rename_i ie hie;have tie:=hc.get hie;split at k
  .cases k
  rename_i sh hsh;split at k
  .rename_i hz;rw[aB,aB,bV,bV]at hz;have hz1:sh.size=ie.size:=iw hz.1;split at k
   .rename_i tt fC l1 off hT;split at k
    .rename_i l hl;obtain⟨e1,e2⟩:=oG hl;subst e1;simp only at e2;subst e2;split at k
     .rename_i v hv;split at k
      .rename_i l2 hl2;obtain⟨⟨v0,us,hb,e0⟩,_⟩:=(aP aj hg tr hx:dA h β (.c (.sub i 0)) (a.eval x));have cv:=aP aj hg tr hv;have fQ:=bH hT tr;have hold:Dj h w tt fC l1 off v0 us:=aj.ok.holds i _ _ fQ hb;have src:=BZ aj hl2 cv;obtain⟨kT,hoff,ad,cap,ev,hle,eus⟩:=hold;have ex:a.eval x=.slice (if cap=off then ad else ad.map (·.add (off * fC.size))) (l1.length - off) (cap - off):=by rw[<-e0,eus]
       generalize hR:(l1.take off++(l2.take (l1.length - off)++(l1.drop off).drop l2.length))=l' at k;have exec:∀{w':World},(Builtin.copy_ #[t,t'] o.type #[a.eval x,a.eval y]).run P w=.ok (goInt (Nat.min l2.length (l1.length - off))) w'->(execOp a.eval o).run P w=.ok (.value (goInt (Nat.min l2.length (l1.length - off)))) w':=by
        intro w' r0;simp only[execOp,ho,resolve,bW,ha,hat,invoke,builtin,Sem.run_bind,Sem.run_pure,Result.andThen_ok];simp[r0]
       have fin:∀{w':World}{row:Option Nat},Gb w w' row->(∀k,row=some k->aA v0=some k)->(Builtin.copy_ #[t,t'] o.type #[a.eval x,a.eval y]).run P w=.ok (goInt (Nat.min l2.length (l1.length - off))) w' ->
        lT h w' tt fC l' v0->gq P N B h0 h w a o (gv s.gl []) K:=by
        intro w' row hgr hrw r0 hr;have hC:∀x' y',dZ h β x' y'->dZ h (β.set i (.row v0)) (uH i x') y':=λ_ _ c=>c.js2 hb
        have ok:OK B h0 (eff s.gl (dB (mT (uH i) s.T) i ([],.row tt fC l'))) h (β.set i (.row v0)) w':=by
         rw[fO,D7];exact aj.ok.OE (f:=uH i) (r':=.row tt fC l') (v:=.row v0) (X:=λ_=>False) fQ rfl hb hgr (λk e=>aX.2 (.inl (hrw k e))) (λb hb=>hb.elim) (λb hb=>.inl (aX.2 (.inl (bC.1 hb)))) hC hr
        have gT:∀p∈dB (mT (uH i) s.T) i ([],ay.row tt fC l'),vg s.gl.length p.1=true:=by
         intro p hp;rw[fZ]at hp;rcases JW hp with hp | hp
         .obtain⟨q,q1,q2⟩:=D8 hp;rw[<-q2];exact aj.gT q q1
         .subst hp;rfl
        exact l7 aj k rfl (by rw[ho];simp[quietly,bW]) (.inl (exec r0)) (FH.le.refl h) ((aj.map (FH.le.refl h) (λ_=>by rfl) hC ok gT).put (G:=[]) (e:=vI .i64 (Nat.min l2.length (l1.length - off))) (dW hd) rfl (λ_=>⟨⟨rfl,bK _ _⟩,bK _ _⟩) λhh=>by cases hh)
       have zero:∀(ab:Option Addr) (sC:Nat),a.eval y=.slice ab l2.length sC->(l1.length - off=0\/l2=[])->gq P N B h0 h w a o (gv s.gl []) K:=by
        intro ab sC ey h0';have hm:Nat.min l2.length (l1.length - off)=0:=by rcases h0' with e | e<;>simp[e]
        refine fin (cO w none) (λk e=>by cases e) ?_ ?_
        .rw[hm,ex,ey];exact GI tie hu hm
        .have:l'=l1:=by
          rw[<-hR];rcases h0' with e | e
          .rw[e,TY,VF (by omega:l1.length<=off),wu (by omega)];simp
          .subst e;simp
         rw[this];exact kT
       have ey0:∃(ab:Option Addr) (sC:Nat),a.eval y=.slice ab l2.length sC:=by
        rcases src with⟨s1,s2⟩ | ⟨sa,sc,s1,s2⟩ | ⟨sb,so,sc,cs,s1,s2,s3⟩
        .exact⟨none,0,by rw[s1,s2];rfl⟩
        .exact⟨some sa,sc,by rw[s1,s2];rfl⟩
        .exact⟨_,sc,s1⟩
       obtain⟨ab0,sC0,ey0⟩:=ey0
       by_cases hz0:l1.length - off=0
       .exact zero _ _ ey0 (.inl hz0)
       by_cases hz2:l2=[]
       .exact zero _ _ ey0 (.inr hz2)
       rcases kT with⟨e1,e2⟩ | ⟨ra,e1,e2⟩ | ⟨g,jH,cur,e1,q1,q2,q3,q4,q5⟩
       .rw[e2]at hz0;simp at hz0
       .rw[e2]at hz0;simp at hz0
       rcases src with⟨s1,s2⟩ | ⟨sa,sc,s1,s2⟩ | ⟨sb,so,sc,cs,s1,s2,s3⟩
       .exact absurd s2 hz2
       .exact absurd s2 hz2
       rw[e1]at ev;injection ev with ev1 ev2 ev3
       subst ev1;subst ev3;rw[if_neg (by omega)]at ex
       simp only[VI,add_lit,Dh]at ex;have hcs:=fV.size (λ_ _=>Rd.size fC) s2
       have lc:cur.toList.length=jH * fC.size:=by simpa using q4
       have hm1:l1.length * fC.size<=jH * fC.size:=x9 _ q2;generalize hm:Nat.min l2.length (l1.length - off)=m at *;have hm2:m<=l2.length:=by rw[<-hm];exact Nat.min_le_left _ _
       have hm3:m<=l1.length - off:=by rw[<-hm];exact Nat.min_le_right _ _
       have hm4:m * fC.size<=l2.length * fC.size:=x9 _ hm2;have hm5:(off+m) * fC.size<=l1.length * fC.size:=x9 _ (by omega)
       rw[J5]at hm5;have ht:=fV.uj (λ_ _=>Rd.size fC) s2 (a:=0) (b:=m) (J4 _) hm2
       simp only[NS,NK]at ht;have hlen:(cs.take (m * fC.size)).length=m * fC.size:=by rw[kV];omega
       have r0:=UW (P:=P) (w:=w) (dT:=t) (sT:=t') (ty:=o.type) tie hu (g:=g) (go:=off * fC.size) (dLen:=l1.length - off) (dCap:=jH - off) (b:=⟨sb,so,none⟩) (sLen:=l2.length) (sCap:=sc) (cs:=cs.take (m * fC.size)) q1 (by rw[hlen,hm,hz1]) (λj v hj=>by
        rw[uX]at hj;split at hj
        .have:=s3 j v hj;have ea:(⟨sb,so,none⟩:Addr).add j=⟨sb,so+j,none⟩:=by unfold Addr.add;split<;>simp_all
         rw[ea];exact this
        .cases hj) (by rw[hlen];rw[<-TM,lc];omega) (λv hv=>(fV.all (λ_ _=>Rd.one fC) ht v hv).2)
       rw[hm]at r0;refine fin (row:=some g) (iZ w g _) (λk e=>by cases e;rw[e1];exact aY q3.1) (by rw[ex,s1];exact r0) ?_
       have el:l'=l1.take off++l2.take m++l1.drop (off+m):=by
        rw[<-hR,zW]
        congr 1
        rcases Nat.le_total l2.length (l1.length - off) with hh | hh
        .have:m=l2.length:=by rw[<-hm];exact Ib hh
         rw[this,wu hh,wu (o9 _),Ua]
        .have:m=l1.length - off:=by rw[<-hm];exact Nat.min_eq_right hh
         rw[this,Ua,VF (by omega),VF (by omega)]
       rw[el];have ll:(l1.take off++l2.take m++l1.drop (off+m)).length=l1.length:=by simp only[ku,kV,yc];omega
       refine .inr (.inr ⟨g,jH,_,by rw[ll];exact e1,setRow_heap w g _ _ tt (0,0) q1,by rw[ll];exact q2,q3,?_,?_⟩)
       .simp only[FM,ku,kV,yc,lc,hlen];omega
       .rw[ll];have p1:=(fV.split (λ_ _=>Rd.size fC) (l:=l1.take off) (l':=l1.drop off) (by rw[VG];exact q5)).1
        have p2:=(fV.split (λ_ _=>Rd.size fC) (l:=l1.take (off+m)) (l':=l1.drop (off+m)) (by rw[VG];exact q5)).2
        have h3:=(p1.append ht).append p2;have k1:(l1.take off).length=off:=by rw[kV];omega
        have k2:(l1.take (off+m)).length=off+m:=by rw[kV];omega
        rw[k1,k2,J5]at h3;have e3:List.take (l1.length * fC.size) (List.take (off * fC.size) cur.toList++cs.take (m * fC.size)++List.drop (off * fC.size+(cs.take (m * fC.size)).length) cur.toList)=List.take (off * fC.size) (List.take (l1.length * fC.size) cur.toList)++cs.take (m * fC.size)++List.drop (off * fC.size+m * fC.size) (List.take (l1.length * fC.size) cur.toList):=by
         rw[hlen];apply H9;intro p;simp only[A91,uX,JY,kV,ku,lc]
         repeat' split
         all_goals first | rfl | omega | (congr 1;omega) | (exfalso;omega) | skip
        simp only at e3 ⊢;rw[e3];exact h3
      .cases k
     .cases k
    .cases k
   .cases k
  .cases k
 .cases k
theorem KX{h:FH}{β:List RV}:∀{cs:List Value},(∀v∈cs,dG v)->aU (λx y=>dZ h β x y/\dG y) (cs.map SC.v) cs
 | [],_=>trivial
 | c :: cs,f=>⟨⟨⟨rfl,f c (by simp)⟩,f c (by simp)⟩,KX λv hv=>f v (by simp[hv])⟩
theorem KY{h:FH}{β:List RV}:∀{cs zs:List Value},aU (λx y=>dZ h β x y/\dG y) (cs.map SC.v) zs->zs=cs
 | [],[],_=>rfl
 | c :: cs,z :: zs,⟨⟨c1,_⟩,a⟩=>by rw[KY a,c1.1]
theorem UZ(hc:bQ P cx.ti) (aj:Sat N B h0 s h β w a) (hg:aK cx.gd h) (hd:lJ N o.dst=true){parts:Array (Nat×Operand)} (ho:o.op=.buildSlice t 1 parts)
 {x:Operand} (hp:tl parts=[(0,x)]){fC:Sh}{x1:fC.den} (hx:bM cx s [] x=some (.one (.dat fC x1))) (k:Xu cx s o.dst t fC x1 K):gq P N B h0 h w a o (gv s.gl []) K:=by
 have tr:gv s.gl []=true:=rfl;unfold Xu iK at k;split at k
 .rename_i el hde;have hu:=bJ hc hde (by simp)
  split at k
  .cases k
  rename_i ie hie;have tie:=hc.get hie;split at k
  .cases k
  rename_i sh hsh;split at k
  .rename_i hz;rw[aB,aB,bV,bV]at hz;have hz1:sh.size=ie.size:=iw hz.1;have hz2:1<=ie.size:=qj hz.2.2;split at k
   .rename_i y hy;obtain⟨e1,e2⟩:=kC hy;subst e1;simp only at e2;subst e2;split at k
    .rename_i hbl;have hsz1:ie.size<=16777216:=qj hbl;refine kY aj (G:=[]) rfl hd k λhgv=>?_
     obtain⟨_,cs,ey,rd⟩:=(aP aj hg tr hx:dA h β (.dat fC x1) (a.eval x));have hl:cs.length=fC.size:=Rd.size fC rd;have h1:=Rd.one fC rd;have htl:(parts.map λ(p:Nat×Operand)=>(p.1,a.eval p.2)).toList=[(0,a.eval x)]:=by
      have:(parts.map λ(p:Nat×Operand)=>(p.1,a.eval p.2)).toList=(tl parts).map λp=>(p.1,a.eval p.2):=by cases parts;simp
      rw[this,hp];rfl
     have hf:uo (λj=>some (j * ie.size,ie.size)) ((iG 1 ie.zero).map SC.v) [(0,.agg (cs.map SC.v))]=some (cs.map SC.v):=by
      have e1:(iG 1 ie.zero)=ie.zero:=by simp[iG,fM]
      rw[e1];unfold uo yG nK;simp only[NS,aB,bF,VP,Dh];rw[show Nat.beq cs.length ie.size=true by rw[hl,hz1];exact Nat.beq_refl _,show Nat.ble ie.size ie.zero.length=true by rw[tie.pq];exact A79 (o9 _)]
      simp only[Bool.and_self];unfold uo Ur;rw[show qC 0 (ie.zero.map SC.v)=[] by simp[jF],fM,fM,bF,qF,VP]
      rw[VF (by rw[VP,tie.pq];omega)]
      simp
     rw[<-BQ SC.v (iG 1 ie.zero)]at hf;obtain⟨zs,g1,g2⟩:=qK (h:=h) (β:=β) (parts:=[(0,.agg (cs.map SC.v))]) (vals:=[(0,a.eval x)]) ⟨⟨rfl,cs,ey,KX h1⟩,trivial⟩ (gW λv hv=>tie.zone v (yK hv)) hf
     have ez:=KY g2;subst ez;have hz0:0 < ie.zero.length:=by rw[tie.pq];omega
     obtain⟨z,hz1',hz2'⟩:=uq tie w;have hc1:((Array.range (1 * ie.size)).map (λi=>z.cells[i % z.cells.size]!))=(iG 1 ie.zero).toArray:=by
      rw[hz2',<-tie.pq];exact qM hz0
     refine⟨.slice (some ⟨w.heap.size,0,none⟩) 1 1,w.alloc (.cells zs.toArray el),.row (.slice (some ⟨w.heap.size,0,none⟩) 1 1),?_,ou _ _ _,?_,?_,?_⟩
     .have hbig:¬(1 * ie.size > 2 ^ 24):=by omega
      have h0:¬1 * ie.size=0:=by omega
      simp only[execOp,ho,Instr.buildSlice,Sem.run_bind,run_underlying hu,Result.andThen_ok,run_sizeOf tie,hbig,NU,Sem.run_ite,Sem.run_pure,h0,hz1'];rw[htl,hc1,g1];simp only[Sem.run_bind,newRow,run_newObj,Result.andThen_ok,Sem.run_pure];rfl
     .intro b hb;rw[bC]at hb;simp[aA]at hb;obtain⟨_,rfl⟩:=hb;simp
     .refine .inr (.inr ⟨w.heap.size,1,zs.toArray,rfl,l9 _ _,o9 _,⟨o9 _,by simp[maxLen]⟩,by simp only[FM];omega,?_⟩)
      rw[wu (by simp;omega)]
      exact⟨zs,[],by simp,rd,rfl⟩
     .exact⟨⟨_,kE (kZ aj) _,rfl⟩,rfl,rfl⟩
    .cases k
   .cases k
  .cases k
 .cases k
theorem Xv(hc:bQ P cx.ti) (aj:Sat N B h0 s h β w a) (hg:aK cx.gd h) (hd:lJ N o.dst=true) (e:rtP cx s o K=some p) (k:p):gq P N B h0 h w a o (Region.wanted o (yielded ops a.tmps)) K:=by
 have hw:∀{b:Bool},o.guard=none->gq P N B h0 h w a o (gv s.gl []) K->gq P N B h0 h w a o (Region.wanted o (yielded ops a.tmps)) K:=by
  intro b hgd x;have:Region.wanted o (yielded ops a.tmps)=true:=by unfold Region.wanted;rw[hgd]
  rw[this];exact x
 unfold rtP at e;split at e
 .cases e
 split at e
 .cases e
 rename_i hgd;split at e
 .rename_i t ps ho;split at e
  .rename_i x hps;split at e
   .rename_i fC x1 hx;cases e;exact hw (b:=true) hgd (UZ hc aj hg hd ho hps hx k)
   .cases e
  .cases e
 .rename_i t x lo ho;split at e
  .rename_i i hx;split at e
   .cases e;exact hw (b:=true) hgd (UU hc aj hg hd ho hx k)
   .cases e
  .cases e
 .rename_i c ho;split at e
  .rename_i bW;split at e
   .rename_i x y ha;split at e
    .rename_i i hx;split at e
     .split at e
      .rename_i t t' ht;cases e;exact hw (b:=true) hgd (UY hc aj hg hd ho bW (iF ha) (iF ht) hx k)
      .cases e
     .cases e
    .cases e
   .cases e
  .cases e
 .cases e
end
def Wd(F:Fence):Prop:=F=Fence.wide\/∃l,F=Fence.wide.inRound l
theorem Wd.fn{F:Fence} (h:Wd F) (f:FuncId):F.fn f:=by rcases h with rfl | ⟨l,rfl⟩<;>trivial
theorem Wd.depth{F:Fence} (h:Wd F):F.depth=none:=by rcases h with rfl | ⟨l,rfl⟩<;>rfl
theorem Wd.calls{F:Fence} (hF:Wd F){P:Program}{f:FuncId}{args:Array Value}{R:Ending->World->Prop} (h:Calls P f args w R):CallsIn F n P f args w R:=by
 rcases hF with rfl | ⟨l,rfl⟩
 .exact callsIn_wide.2 h
 .exact(callsIn_wide.2 h:CallsIn Fence.wide n P f args w R).inRound l
abbrev IW:Op->Bool
 | .defer _=>false
 | _=>true
abbrev Cc:List Oper->Bool
 | []=>true
 | o :: l=>dD (IW o.op) (Cc l)
section
variable {F:Fence}{n:Nat}{P:Program}{ops:Array Oper}{md:Region.Mode}
theorem KZ(hF:Wd F){o:Oper} (hd:IW o.op=true){Nx:Act->World->Prop}{Q Q':Exit->Act->World->Prop} (h:o.wp P a w Nx IC):o.wpIn F n P a w Nx Q':=by
 refine⟨λf _=>hF.fn f,?_⟩
 rw[Oper.semAt_eq _ _ _ (λc hc=>by rw[hc]at hd;cases hd)]
 unfold Oper.wp at h;generalize (execOp a.eval o).run P w=r at *;cases r with
 | ok m w'=>
   cases m<;>simp only[Oper.upon]at h<;>simp only[Oper.uponIn]
   case enter f args=>
    refine⟨λhh=>(by rw[hF.depth]at hh;cases hh),hF.calls (h.mono λe w'' he=>?_)⟩
    cases e with
    | returned v=>exact he
    | panicked c=>exact False.elim he
    | outgrown=>exact xB he
   case row row args=>
    refine⟨λhh=>(by rw[hF.depth]at hh;cases hh),λc cs _=>?_⟩
    obtain⟨v,w'',hr,hs⟩:=h c cs;refine⟨v,w'',hr,?_⟩;have:StepsIn (Machine.fenced P Fence.wide) P (lone (Frame.ofRow P row args .normal) (c :: cs) w') (lone (c.finish v) cs w''):=stepsIn_wide.2 hs;rcases hF with rfl | ⟨l,rfl⟩
    .exact this
    .exact this
   all_goals first | exact h | exact h.elim
 | halt x w'=>cases x<;>simp only[Oper.upon]at h<;>first | exact h.elim | exact False.elim h
def wpL(P:Program) (ops:Array Oper) (R:Act->World->Prop):List Oper->Act->World->Prop
 | [],a,w=>R a w
 | o :: rest,a,w=>if Region.wanted o (yielded ops a.tmps)=true then o.wp P a w (wpL P ops R rest) IC else wpL P ops R rest (a.put o.dst undef) w
theorem OJ(hF:Wd F){R:Act->World->Prop}{Q:Exit->Act->World->Prop} (hR:∀a w,R a w->Q .normal a w):∀(l:List Oper) (k:Nat) (a:Act) (w:World),(∀j,l[j]?=ops[k+j]?)->Cc l=true->wpL P ops R l a w ->
 wpOpsIn F n P ops Q (List.range' k l.length) a w
 | [],k,a,w,_,_,h=>hR _ _ h
 | o :: l,k,a,w,hl,hn,h=>by
   have h0:ops[k]?=some o:=by simpa using(hl 0).symm
   simp only[Cc,aB,bV]at hn;have ih:∀a w,wpL P ops R l a w->wpOpsIn F n P ops Q (List.range' (k+1) l.length) a w:=λa w=>OJ hF hR l (k+1) a w (λj=>by have:=hl (j+1);simpa[FN,V4 1 j]using this) hn.2
   simp only[wS,List.range'_succ,wpOpsIn,h0];unfold wpL at h;split
   .rename_i hw;rw[if_pos hw]at h;exact Oper.wpIn_mono ih (KZ (Q:=Q) hF hn.1 h)
   .rename_i hw;rw[if_neg hw]at h;exact⟨λf _=>hF.fn f,ih _ _ h⟩
theorem OL(hF:Wd F){R:Act->World->Prop} (hR:∀a w,R a w->Q .normal a w){id:Nat} (hn:Cc ops.toList=true) (h:wpL P ops R ops.toList a w):(Code.region id ops false).wpIn F n P Q a w:=
 wpIn_region (by
  have:=OJ (n:=n) hF hR ops.toList 0 a w (λj=>by simp) hn h
  rw[List.range_eq_range'];simpa using this)
theorem Eb(hn:Cc ops.toList=true){o:Oper} (h:ops[i]?=some o):IW o.op=true:=by
 have key:∀{l:List Oper},Cc l=true->o∈l->IW o.op=true:=by
  intro l
  induction l with
  | nil=>intro _ hm;cases hm
  | cons x l ih=>
    intro hh hm;simp only[Cc,aB,bV]at hh;rcases mY.1 hm with rfl | hm
    .exact hh.1
    .exact ih hh.2 hm
 exact key hn (ig (i:=i) (by simpa using h))
theorem aiq(hF:Wd F) (hn:Cc ops.toList=true) (h:zS P ops i K a w):wpOpIn F n P ops Q i K a w:=by
 unfold zS at h;unfold wpOpIn;split
 .rename_i ho;simpa[ho]using h
 .rename_i o ho;simp only[ho]at h;split
  .rename_i hw;rw[if_pos hw]at h;exact KZ (Q:=Q) hF (Eb hn ho) h
  .rename_i hw;rw[if_neg hw]at h;exact⟨λf _=>hF.fn f,h⟩
theorem IX{sf:Nat->Bool} (hF:Wd F) (hn:Cc ops.toList=true){R:Act->World->Prop}{Q:Exit->Act->World->Prop} (hR:∀a w,R a w->Q .normal a w):∀(fuel:Nat) (listed:Array Bool) (a:Act) (w:World),
 anyI P md ops sf R fuel listed a w->wpAnyIn F n P md ops Q fuel listed a w
 | 0,_,_,_,h=>⟨h.1,hR _ _ h.2⟩
 | fuel+1,_,_,_,h=>⟨λe=>hR _ _ (h.1 e),λi hi=>aiq hF hn (KO (λa w hh=>IX hF hn hR fuel _ a w hh.2) (h.2 i hi))⟩
theorem ac4(hF:Wd F) (hn:Cc ops.toList=true){K:Act->Prop}{K':Act->World->Prop} (hK:∀a,K a->K' a w) (h:stOp P ops w i K a):wpOpIn F n P ops Q i K' a w:=by
 unfold stOp at h;unfold wpOpIn;split
 .rename_i ho;simp only[ho]at h;exact hK _ h
 .rename_i o ho;simp only[ho]at h;split
  .rename_i hw;rw[if_pos hw]at h;exact KZ (Q:=Q) hF (Eb hn ho) (Oper.wp_of_still hK h)
  .rename_i hw;rw[if_neg hw]at h;exact⟨λf _=>hF.fn f,hK _ h⟩
theorem QW(hF:Wd F) (hn:Cc ops.toList=true){w:World}{R:Act->Prop}{Q:Exit->Act->World->Prop} (hR:∀a,R a->Q .normal a w):∀(fuel:Nat) (listed:Array Bool) (a:Act),
 wpAnyS P md ops w R fuel listed a->wpAnyIn F n P md ops Q fuel listed a w
 | 0,_,_,h=>⟨h.1,hR _ h.2⟩
 | fuel+1,_,_,h=>⟨λe=>hR _ (h.1 e),λi hi=>ac4 hF hn (λa hh=>QW hF hn hR fuel _ a hh) (h.2 i hi)⟩
theorem yX(hF:Wd F) (hn:Cc ops.toList=true){id:Nat} (hm:P.follows .mixedOrders=true) (hB:Region.lexB .any ops=true)
 (h:wpStill P ops { w with drawn:=w.drawn+1 } (λa'=>Q .normal a' { w with drawn:=w.drawn+1 }) ops.toList a):(Code.region id ops true).wpIn F n P Q a w:=by
 simp only[Region.lexB,bV]at hB;refine wpIn_region_any hm (QW (R:=λa'=>Q .normal a' { w with drawn:=w.drawn+1 }) hF hn (λ_ h=>h) _ _ _ ?_)
 have:=wpAnyS_lex (md:=.any) hB.1 ops.toList 0 (Array.replicate ops.size false) a (by simp) (by simpa using hB.2) h
 simpa using this
theorem wpIn_loop_ghost{c:Code} (I:Nat->Act->World->Prop) (n₀:Nat) (h₀:I n₀ a w)
 (round:∀m a w,I m a w->c.wpIn F n P (Exit.then (λa' w'=>∃n',n' < m/\I n' a' w') Q) a w):(Code.loop c).wpIn F n P Q a w:=by
 refine wpIn_loop (λa w=>∃m,I m a w) (λa w=>leastOf (λm=>I m a w)) ⟨n₀,h₀⟩ ?_
 intro a w hI;refine wpIn_mono (round _ a w (leastOf_spec hI).1) ?_;intro e a' w' hq;cases e with
 | normal=>
   obtain⟨n',iO,hI'⟩:=hq;exact show(∃m,I m a' w')/\leastOf (λm=>I m a' w') < leastOf (λm=>I m a w) from⟨⟨n',hI'⟩,Nat.lt_of_le_of_lt ((leastOf_spec ⟨n',hI'⟩).2 n' hI') iO⟩
 | exit id=>exact hq
 | goto l=>exact hq
 | ret=>exact hq
 | panic ch=>exact hq
 | outgrown=>exact hq
end
section
variable {P:Program}{ops:Array Oper}{md:Region.Mode}{n:Nat}{sf:Nat->Bool}
def qm(P:Program) (n:Nat) (ops:Array Oper) (i:Nat) (K:Act->World->Prop) (a:Act) (w:World):Prop:=
 match ops[i]? with
 | none=>K a w
 | some o=>if Region.wanted o (yielded ops a.tmps)=true then o.uponIn Fence.wide n P a K IC ((execOp a.eval o).run P w) else K (a.put o.dst undef) w
theorem GK{o:Oper}{K':Act->World->Prop}{Q':Exit->Act->World->Prop} (h:∀a w,K a w->K' a w){r:Result Next} (hh:o.uponIn Fence.wide n P a K IC r):o.uponIn Fence.wide n P a K' Q' r:=by
 cases r with
 | ok x w'=>
   cases x<;>simp only[Oper.uponIn]at hh ⊢
   case enter f args=>
    refine⟨hh.1,hh.2.mono λe w'' he=>?_⟩
    cases e with
    | returned v=>exact h _ _ he
    | panicked c=>exact False.elim he
    | outgrown=>exact xB he
   case row r args=>
    exact⟨hh.1,RowsIn.mono hh.2 λv w'' he=>h _ _ he⟩
   case round l f tmps FK body=>
    refine⟨hh.1,RoundIn.mono hh.2 λe w'' he=>?_⟩
    cases e with
    | returned v=>exact h _ _ he
    | panicked c=>exact False.elim he
    | outgrown=>exact xB he
   all_goals first | exact h _ _ hh | exact hh.elim
 | halt x w'=>cases x<;>simp only[Oper.uponIn]at hh ⊢<;>exact False.elim hh
theorem GL{K':Act->World->Prop} (h:∀a w,K a w->K' a w) (hh:qm P n ops i K a w):qm P n ops i K' a w:=by
 unfold qm at *;split
 .exact h _ _ (by simpa[*]using hh)
 .rename_i o ho;simp only[ho]at hh;split
  .rename_i hw;rw[if_pos hw]at hh;exact GK h hh
  .rename_i hw;rw[if_neg hw]at hh;exact h _ _ hh
theorem ac5(hn:Cc ops.toList=true) (h:qm P n ops i K a w):wpOpIn Fence.wide n P ops Q i K a w:=by
 unfold qm at h;unfold wpOpIn;split
 .rename_i ho;simpa[ho]using h
 .rename_i o ho;simp only[ho]at h;split
  .rename_i hw;rw[if_pos hw]at h;refine⟨λf _=>trivial,?_⟩
   rw[Oper.semAt_eq _ _ _ (λc hc=>by have:=Eb hn ho;rw[hc]at this;cases this)]
   exact GK (λ_ _ hh=>hh) h
  .rename_i hw;rw[if_neg hw]at h;exact⟨λf _=>trivial,h⟩
theorem ahd(hn:Cc ops.toList=true) (h:zS P ops i K a w):qm P n ops i K a w:=by
 unfold zS at h;unfold qm;split
 .rename_i ho;simpa[ho]using h
 .rename_i o ho;simp only[ho]at h;split
  .rename_i hw;rw[if_pos hw]at h;have h2:=(KZ (n:=n) (Q:=IC) (Q':=IC) (.inl rfl:Wd Fence.wide) (Eb hn ho) h).2
   rwa [Oper.semAt_eq _ _ _ (λc hc=>by have:=Eb hn ho;rw[hc]at this;cases this)]at h2
  .rename_i hw;rw[if_neg hw]at h;exact h
def IY(P:Program) (n:Nat) (md:Region.Mode) (ops:Array Oper) (sf:Nat->Bool) (R:Act->World->Prop):Nat->Array Bool->Act->World->Prop
 | 0,listed,a,w=>Region.ready md ops listed=[]/\R a w
 | fuel+1,listed,a,w=>(Region.ready md ops listed=[]->R a w) /\
   ∀i∈Region.ready md ops listed,qm P n ops i (λa' w'=>(sf i=true->mQ w w')/\IY P n md ops sf R fuel (listed.setIfInBounds i true) a' w') a w
theorem QX(hn:Cc ops.toList=true){R:Act->World->Prop}{Q:Exit->Act->World->Prop} (hR:∀a w,R a w->Q .normal a w):∀(fuel:Nat) (listed:Array Bool) (a:Act) (w:World),
 IY P n md ops sf R fuel listed a w->wpAnyIn Fence.wide n P md ops Q fuel listed a w
 | 0,_,_,_,h=>⟨h.1,hR _ _ h.2⟩
 | fuel+1,_,_,_,h=>⟨λe=>hR _ _ (h.1 e),λi hi=>ac5 hn (GL (λa w hh=>QX hn hR fuel _ a w hh.2) (h.2 i hi))⟩
theorem YI.qm{ld:Bool}{w0:World}{i:Nat}{o:Oper}{v:Value}{a:Act} (hi:ops[i]?=some o) (hy:YI P ops ld w0 o v a){K:Act->World->Prop}{w:World} (hg:ld=true->mQ w0 w)
 (h:K (a.put o.dst v) w):qm P n ops i K a w:=by
 unfold Go.jl.qm;simp only[hi];rcases hy with⟨hw,hv⟩ | ⟨hw,rfl⟩
 .rw[if_pos hw,hv w hg];exact h
 .rw[if_neg (by rw[hw];simp)];exact h
theorem Xw{ld:Bool}{w0:World}{oi oj:Oper} (hj:ops[j]?=some oj) (hap:oi.apart ops oj=true)
 (hsi:∀cs b,oi.op≠.select cs b) (hsj:∀cs b,oj.op≠.select cs b)
 (hy:YI P ops ld w0 oi v a) (h:qm P n ops j K (a.put oi.dst v) w):
 qm P n ops j (λa' w'=>YI P ops ld w0 oi v a'/\K (a'.put oi.dst v) w') a w:=by
 obtain⟨h1,h2,h3⟩:=Oper.apart_spec hap;have keep:∀(a:Act),YI P ops ld w0 oi v a->∀u,YI P ops ld w0 oi v (a.put oj.dst u):=λa hy u=>
  hy.of_same (execOp_put oi hsi a oj.dst u h3) (wanted_put oi a oj.dst u h3)
 have keepD:∀d,YI P ops ld w0 oi v { a with defers:=d :: a.defers }:=λd=>hy.of_same rfl rfl
 unfold qm at *;simp only[hj]at *;rw[wanted_put oj a oi.dst v h1]at h;split
 .rename_i hw;rw[if_pos hw]at h;rw[execOp_put oj hsj a oi.dst v h1]at h;generalize (execOp a.eval oj).run P w=r at *;cases r with
  | ok m w'=>
    cases m<;>simp only[Oper.uponIn]at h ⊢
    case value u=>exact⟨keep a hy u,by rw[<-Act.put_comm a v u h2];exact h⟩
    case skip=>exact⟨keep a hy _,by rw[<-Act.put_comm a v undef h2];exact h⟩
    case defer d=>
     refine⟨(keep _ (keepD d) _),?_⟩;rw[<-Act.put_comm _ v undef h2,<-Act.put_defers];exact h
    case enter f args=>
     refine⟨h.1,h.2.mono λe w'' he=>?_⟩
     cases e with
     | returned u=>exact⟨keep a hy u,by rw[<-Act.put_comm a v u h2];exact he⟩
     | panicked c=>exact he
     | outgrown=>exact he
    case row r args=>
     refine⟨h.1,RowsIn.mono h.2 λu w'' he=>?_⟩
     exact⟨keep a hy u,by rw[<-Act.put_comm a v u h2];exact he⟩
    case round l f tmps FK body=>
     refine⟨h.1,RoundIn.mono h.2 λe w'' he=>?_⟩
     cases e with
     | returned u=>exact⟨keep a hy u,by rw[<-Act.put_comm a v u h2];exact he⟩
     | panicked c=>exact he
     | outgrown=>exact he
    all_goals exact h
  | halt x w'=>cases x<;>simp only[Oper.uponIn]at h ⊢<;>exact h
 .rename_i hw;rw[if_neg hw]at h;exact⟨keep a hy _,by rw[<-Act.put_comm a v undef h2];exact h⟩
theorem OM{R:Act->World->Prop}{ld:Bool}{w0:World}{oi:Oper}{bl:List Nat} (hi:ops[i]?=some oi) (hsel:∀(j:Nat) (o:Oper) cs b,ops[j]?=some o->o.op≠.select cs b)
 (hq:sf i=true):
 ∀(fuel:Nat) (listed:Array Bool) (a:Act) (w:World),
   (∀j oj,ops[j]?=some oj->j≠i->listed.getD j true=false->(∀e∈oj.after,Region.binds md e=true->e.on≠i)->oi.apart ops oj=true) ->
   (ld=true->Waits md ops listed i bl/\∀j,j≠i->listed.getD j true=false->sf j=false->j∈bl) ->
   i∈Region.ready md ops listed->YI P ops ld w0 oi v a->(ld=true->mQ w0 w) ->
   IY P n md ops sf R fuel (listed.setIfInBounds i true) (a.put oi.dst v) w->IY P n md ops sf R (fuel+1) listed a w:=by
 intro fuel
 induction fuel with
 | zero=>
   intro listed a w _ _ hr hy hg H;refine⟨λh=>(by rw[h]at hr;cases hr),λj hj=>?_⟩
   by_cases hji:j=i
   .subst hji;exact hy.qm hi hg ⟨λ_=>mQ.refl w,H⟩
   .have:=ready_mono hj hji;rw[H.1]at this;cases this
 | succ fuel ih=>
   intro listed a w hfree hbl hr hy hg H;refine⟨λh=>(by rw[h]at hr;cases hr),λj hj=>?_⟩
   by_cases hji:j=i
   .subst hji;exact hy.qm hi hg ⟨λ_=>mQ.refl w,H⟩
   .have h1:=H.2 j (ready_mono hj hji);obtain⟨hjun,oj,hoj,hall⟩:=mem_ready.1 hj;have WS:=(mem_ready.1 hr).1;have hnot:∀e∈oj.after,Region.binds md e=true->e.on≠i:=λe he hb heq=>by
     have h1:=hall e he hb;rw[heq,vJ WS]at h1;cases h1
    have h2:=Xw hoj (hfree j oj hoj hji hjun hnot) (λcs b=>hsel i oi cs b hi) (λcs b=>hsel j oj cs b hoj) hy h1
    have hfree':∀k ok,ops[k]?=some ok->k≠i->(listed.setIfInBounds j true).getD k true=false ->
     (∀e∈ok.after,Region.binds md e=true->e.on≠i)->oi.apart ops ok=true:=λk ok hk hki hun hno=>by
     refine hfree k ok hk hki ?_ hno
     by_cases gQ:j=k
     .subst gQ;exact hjun
     .rw[getD_set_ne true gQ]at hun;exact hun
    have WT:ld=true->j∉bl:=λe hm=>Gx WS (hbl e).1 hm hj
    have hsj:ld=true->sf j=true:=λe=>by
     cases hs:sf j with
     | true=>rfl
     | false=>exact absurd ((hbl e).2 j hji hjun hs) (WT e)
    have ah2:ld=true->Waits md ops (listed.setIfInBounds j true) i bl/\∀k,k≠i->(listed.setIfInBounds j true).getD k true=false->sf k=false->k∈bl:=λe=>by
     refine⟨λk hk=>?_,λk hki hun hs=>?_⟩
     .obtain⟨g1,g2⟩:=(hbl e).1 k hk;refine⟨?_,g2⟩;rw[getD_set_ne true (λhh=>WT e (by rw[hh];exact hk))];exact g1
     .refine(hbl e).2 k hki ?_ hs
      by_cases gQ:j=k
      .subst gQ;exact hjun
      .rw[getD_set_ne true gQ]at hun;exact hun
    refine GL (λa' w' h3=>⟨h3.2.1,ih (listed.setIfInBounds j true) a' w' hfree' ah2 (ready_mono hr (Ne.symm hji)) h3.1 (λe=>(hg e).trans (h3.2.1 (hsj e))) ?_⟩) h2
    rw[Array.setIfInBounds_comm _ _ hji];exact h3.2.2
end
abbrev Ce(cx:Cx) (t:TypeId) (K:IntKind->TypeId->TI->Sh->Prop):Prop:=match pO cx.ti t with
 | some i=>match i.desc with
   | .map kt et=>match pO cx.ti kt with
     | some ik=>match ik.desc with
       | .int kk=>match pO cx.ti et with
         | some ie=>match ie.iJ with
           | some sh=>K kk et ie sh
           | none=>False
         | none=>False
       | _=>False
     | none=>False
   | _=>False
 | none=>False
abbrev Xx(cx:Cx) (t:TypeId):Bool:=match pO cx.ti t with
 | some i=>match i.desc with
   | .map _ _=>true
   | _=>false
 | none=>false
abbrev QY(cx:Cx) (s:St) (x:Operand) (kk:IntKind) (sh:Sh):Option (List (Int×sh.den)):=match bM cx s [] x with
 | some (.one (.c (.one s' d)))=>jA s' d (.mp kk sh)
 | some (.one (.c (.row i)))=>match eY s.T i with
   | some ([],.mp kk' sh' l)=>jA (.mp kk' sh') l (.mp kk sh)
   | _=>none
 | some (.one (.c (.v (.map none))))=>some []
 | _=>none
abbrev Xy(cx:Cx) (s:St) (x:Operand) (kk:IntKind):Option Int:=match bM cx s [] x with
 | some (.one (.c (.v (.int k n))))=>match Nat.beq (Dp k) (Dp kk) with
   | true=>some n
   | false=>none
 | _=>none
def Ec{α:Type} (l:List (Int×α)) (n:Int) (z:α):α:=(BI l n).getD z
def OO{α:Type} (l:List (Int×α)) (n:Int):Bool:=(BI l n).isSome
abbrev IZ(cx:Cx) (s:St) (o:Op) (K:aZ->Prop):Option Prop:=match o with
 | .lookup t m x ok=>some (Ce cx t λkk _ _ sh=>match QY cx s m kk sh with
   | none=>False
   | some l=>match Xy cx s x kk with
     | none=>False
     | some n=>match ok with
       | false=>K (.one (iE sh (Ec l n (qJ sh))))
       | true=>K (.iq [iE sh (Ec l n (qJ sh)),.c (.v (.bool (OO l n)))]))
 | .call c=>match c.callee with
   | .builtin .len=>match tl c.argTypes with
     | [t]=>match Xx cx t with
       | false=>none
       | true=>some (Ce cx t λkk _ _ sh=>match tl c.args with
         | [m]=>match QY cx s m kk sh with
           | none=>False
           | some l=>K (.one (.c (.v (.int .i64 l.length))))
         | _=>False)
     | _=>none
   | _=>none
 | _=>none
abbrev air(cx:Cx) (s:St) (o:Oper) (K:St->Prop):Option Prop:=none
section
variable {cx:Cx}{P:Program}{N:Nat}{B:Base}{h0:FH}{s:St}{h:FH}{β:List RV}{w:World}{a:Act}{o:Oper}{K:St->Prop}
structure ais (P:Program) (t:TypeId) (kk:IntKind) (et:TypeId) (ie:TI) (sh:Sh):Prop where
 und:∃kt,P.underlying t=some (.map kt et)/\P.underlying kt=some (.int kk)
 ei:aN P et ie
 es:ie.iJ=some sh
theorem Ed(hc:bQ P cx.ti){K:IntKind->TypeId->TI->Sh->Prop} (k:Ce cx t K):∃kk et ie sh,K kk et ie sh/\ais P t kk et ie sh:=by
 unfold Ce at k;split at k
 .rename_i i hi;split at k
  .rename_i kt et hd;split at k
   .rename_i ik hik;split at k
    .rename_i kk hkk;split at k
     .rename_i ie hie;split at k
      .rename_i sh hsh;exact⟨kk,et,ie,sh,k,⟨kt,(hc.get hi).FV hd rfl,(hc.get hik).FV hkk rfl⟩,hc.get hie,hsh⟩
      .cases k
     .cases k
    .cases k
   .cases k
  .cases k
 .cases k
theorem ac6{et:TypeId}{ie:TI}{sh:Sh} (k:aN P et ie) (hs:ie.iJ=some sh) (h:FH) (w:World):∃z,(zeroValue et).run P w=.ok z w/\DW h sh z (qJ sh):=by
 obtain⟨inf,z,h1,h2,h3,h4,h5⟩:=k.info;obtain⟨r,ha⟩:=k.Wp sh hs;refine⟨z,by simp[zeroValue,typeInfo,h1,h4],ie.zero,?_,yJ r⟩
 have hz:=k.amA inf z h1 h4;rw[<-ha]at hz;unfold mkV;cases z with
 | agg cs=>
   have hz:sh.isAgg=true:=hz.symm;rw[hz,if_pos rfl];simp[Value.cells]at h5;rw[h5]
 | _=>
   have hz:sh.isAgg=false:=hz.symm;rw[hz,if_neg (by simp)]
   have h6:=rG Array.toList h5;simp only[Value.cells]at h6;rw[show ie.zero=_ from h6.symm];rfl
theorem DW.cn{sh:Sh}{d:sh.den} (x:DW h sh y d):dA h β (iE sh d) y:=by
 obtain⟨cs,rfl,r⟩:=x;exact jG sh r
def Xz(h:FH) (w:World) (kk:IntKind) (sh:Sh) (y:Value) (l:List (Int×sh.den)):Prop:=
 (y=.map none/\l=[])\/∃b es c,y=.map (some b)/\w.heap[b]?=some (.map es c)/\wX kk (DW h sh) es c l
theorem ait{k1:IntKind}{s1 sh:Sh}{l1:List (Int×s1.den)}{l:List (Int×sh.den)} (e:jA (.mp k1 s1) l1 (.mp kk sh)=some l):k1=kk/\∃e':s1=sh,(e'▸l1:List (Int×sh.den))=l:=by
 obtain⟨e1,e2⟩:=kC e;cases e1;exact⟨rfl,rfl,e2⟩
theorem La(aj:Sat N B h0 s h β w a) (hg:aK cx.gd h){x:Operand}{sh:Sh}{l:List (Int×sh.den)} (e:QY cx s x kk sh=some l):Xz h w kk sh (a.eval x) l:=by
 have tr:gv s.gl []=true:=rfl;unfold QY at e;split at e
 .rename_i s' d hx;have c:dA h β (.c (.one s' d)) (a.eval x):=aP aj hg tr hx;obtain⟨e1,e2⟩:=kC e;subst e1;simp only at e2;subst e2;obtain⟨v,hv,r⟩:=c.1;have hv:a.eval x=v:=by simpa using hv
  rw[hv];rcases r with r | ⟨b,es,cc,r1,r2,r3⟩
  .exact .inl r
  .exact .inr ⟨b,es,cc,r1,acA (aj.ok.hw b 0 _ r2),r3⟩
 .rename_i i hx;have c:dA h β (.c (.row i)) (a.eval x):=aP aj hg tr hx;split at e
  .rename_i kk' sh' l' hT;obtain⟨e1,e2,e3⟩:=ait e;subst e1;subst e2;simp only at e3;subst e3;exact .inr (aj.ok.ag4 (bH hT tr) c.1)
  .cases e
 .rename_i hx;have c:dA h β (.c (.v (.map none))) (a.eval x):=aP aj hg tr hx;cases e;exact .inl ⟨c.1.1,rfl⟩
 .cases e
theorem XA(aj:Sat N B h0 s h β w a) (hg:aK cx.gd h){x:Operand}{n:Int} (e:Xy cx s x kk=some n):a.eval x=.int kk n:=by
 unfold Xy at e;split at e
 .rename_i k m hx;have c:dA h β (.c (.v (.int k m))) (a.eval x):=aP aj hg (show gv s.gl []=true from rfl) hx
  split at e
  .rename_i hk;cases e;rw[c.1.1,pI hk]
  .cases e
 .cases e
theorem I4{kt:TypeId}{n:Int} (hk:P.underlying kt=some (.int kk)) (b:Bool) (w:World):(Instr.checkKey b 10000 kt (.int kk n)).run P w=.ok () w:=
 MapKept.run_checkKey (n:=9999) (k:=.int kk n) hk (show kk=kk from rfl) b
theorem XB{et:TypeId}{ie:TI}{sh:Sh} (mt:ais P t kk et ie sh){l:List (Int×sh.den)} (m:Xz h w kk sh y l) (n:Int) (ok:Bool):
 ∃v,DW h sh v (Ec l n (qJ sh))/\(Instr.lookup t y (.int kk n) ok).run P w=.ok (if ok then .tuple #[v,.bool (OO l n)] else v) w:=by
 obtain⟨kt,hu,hk⟩:=mt.und;obtain⟨z,hz,dz⟩:=ac6 mt.ei mt.es h w;rcases m with⟨rfl,rfl⟩ | ⟨b,es,c,rfl,hb,m⟩
 .refine⟨z,dz,?_⟩;have hf:=MapKept.run_findKey (P:=P) (w:=w) (k:=.int kk n) (l:=[]) hk rfl;simp[Instr.lookup,run_underlying hu,I4 hk,hf,hz,OO,BI,Result.andThen]
 .rcases m.find kk n with⟨j,e,d,e1,e2,e3,e4,e5⟩ | ⟨e1,e2⟩
  .refine⟨e.val,by rw[show Ec l n (qJ sh)=d by simp[Ec,e2]];exact e3,?_⟩
   have hf:=MapKept.run_findKey (P:=P) (w:=w) hk e5;simp[Instr.lookup,run_underlying hu,I4 hk,MapKept.run_getObj_map hb,hf,OO,e2,Result.andThen]
  .refine⟨z,by rw[show Ec l n (qJ sh)=qJ sh by simp[Ec,e1]];exact dz,?_⟩
   have hf:=MapKept.run_findKey (P:=P) (w:=w) hk e2;simp[Instr.lookup,run_underlying hu,I4 hk,MapKept.run_getObj_map hb,hf,hz,OO,e1,Result.andThen]
theorem XC{et:TypeId}{ie:TI}{sh:Sh} (mt:ais P t kk et ie sh){l:List (Int×sh.den)} (m:Xz h w kk sh y l){ts:Array TypeId} (ht:ts=#[t]):
 (Builtin.len_ ts ty #[y]).run P w=.ok (.int .i64 l.length) w:=by
 obtain⟨kt,hu,hk⟩:=mt.und;subst ht;rcases m with⟨rfl,rfl⟩ | ⟨b,es,c,rfl,hb,m⟩
 .simp[Builtin.len_,run_underlying hu,goInt]
 .simp[Builtin.len_,run_underlying hu,MapKept.run_getObj_map hb,goInt,m.len]
theorem Lc(hc:bQ P cx.ti) (aj:Sat N B h0 s h β w a) (hg:aK cx.gd h){K:aZ->Prop} (hp:IZ cx s o.op K=some p) (k:p):
 ∃e v,K e/\(execOp a.eval o).run P w=.ok (.value v) w/\jP h β e v:=by
 unfold IZ at hp;split at hp
 .rename_i t m x okb ho;cases hp;obtain⟨kk,et,ie,sh,k,mt⟩:=Ed hc k;split at k
  .cases k
  rename_i l hl;split at k
  .cases k
  rename_i n hn;have hm:=La aj hg hl;have hx:=XA aj hg hn;obtain⟨v,dv,run⟩:=XB mt hm n okb;have amN:(execOp a.eval o).run P w=.ok (.value (if okb then .tuple #[v,.bool (OO l n)] else v)) w:=by
   simp only[execOp,ho,hx,Sem.run_bind,run,Result.andThen_ok,Sem.run_pure]
  split at k
  .exact⟨_,_,k,amN,dv.cn⟩
  .exact⟨_,_,k,amN,[v,.bool (OO l n)],rfl,dv.cn,⟨⟨rfl,rfl,rfl⟩,rfl,rfl⟩,trivial⟩
 .rename_i c ho;split at hp
  .rename_i bW;split at hp
   .rename_i t ht;split at hp
    .cases hp
    .cases hp;obtain⟨kk,et,ie,sh,k,mt⟩:=Ed hc k;split at k
     .rename_i m hm0;split at k
      .cases k
      rename_i l hl;have hm:=La aj hg hl;refine⟨_,_,k,?_,⟨⟨rfl,rfl,rfl⟩,rfl,rfl⟩⟩;simp[execOp,ho,resolve,bW,invoke,builtin,iF hm0,XC mt hm (iF ht)]
     .cases k
   .cases hp
  .cases hp
 .cases hp
theorem aU.acK{α β:Type}{R:α->β->Prop}:∀{l:List α}{m:List β}{a:α},aU R l m->a∈l->∃b∈m,R a b
 | [],_,_,_,ha=>by cases ha
 | x :: l,y :: m,a,⟨h1,h2⟩,ha=>by
   rcases mY.1 ha with rfl | ha
   .exact⟨y,by simp,h1⟩
   .obtain⟨b,hb,r⟩:=aU.acK h2 ha;exact⟨b,by simp[hb],r⟩
theorem ac7(hc:bQ P cx.ti) (aj:Sat N B h0 s h β w a) (hg:aK cx.gd h) (hd:lJ N o.dst=true) (hp:air cx s o K=some p) (k:p):o.guard=none/\Bg P N B h0 h w a o true K:=by
 unfold air at hp;cases hp
end
end Go.jl
