/- Part 3 of the proof. Conditions: the rows'. -/
import Derived.Test.YtjhenjhcbcalpaaGreatDoorB2
import Derived.LoopNIn
import Derived.Deep.LoopGhost
import Derived.Laws.IdiomRangeMap
set_option linter.unusedSimpArgs false
set_option linter.unusedVariables false
set_option maxRecDepth 1000000
set_option maxHeartbeats 8000000
namespace Go.l9
open Go Go.RowKit
variable {h:FH}{β:List RV}{w w':World}{i j so g off k n:Nat}{v y:Value}{T:List ak}{r:ak}{t tt ty el:TypeId}{e:Sh}{hs:List Nat}{cs:List Value}{p:Prop}{c:Call}{ops:Array Oper}{a:Act}{Q:Exit->Act->World->Prop}{K:Act->World->Prop}{kk:IntKind}
abbrev SC.ani(i:Nat):SC->Bool
 | .sub j _=>!Nat.beq i j
 | .lX j _ _ _ _=>!Nat.beq i j
 | _=>true
abbrev uM(i:Nat) (x:SC):SC:=match SC.ani i x with
 | true=>x
 | false=>.junk
abbrev mV(f:SC->SC):SV->SV
 | .c x=>.c (f x)
 | .agg xs=>.agg (eY f xs)
 | v=>v
abbrev mE(f:SC->SC):bg->bg
 | .one v=>.one (mV f v)
 | .iJ vs=>.iJ (eY (mV f) vs)
abbrev mR(f:SC->SC):ak->ak
 | .blk t cs=>.blk t (eY f cs)
 | r=>r
abbrev yU(f:SC->SC):List (Nat×Gd×bg)->List (Nat×Gd×bg)
 | []=>[]
 | (k,g,e) :: l=>(k,g,mE f e) :: yU f l
abbrev mT(f:SC->SC):List (Gd×ak)->List (Gd×ak)
 | []=>[]
 | (g,r) :: l=>(g,mR f r) :: mT f l
theorem EK{R R':SC->Value->Prop}{f:SC->SC} (hR:∀x y,R x y->R' (f x) y):∀{xs:List SC}{ys:List Value},aO (λx y=>R x y/\dH y) xs ys->aO (λx y=>R' x y/\dH y) (eY f xs) ys
 | [],[],_=>trivial
 | _ :: _,_ :: _,⟨a,b⟩=>⟨⟨hR _ _ a.1,a.2⟩,EK hR b⟩
theorem dD.map{h':FH}{β':List RV}{f:SC->SC} (le:h.le h') (hR:∀x y,dX h β x y->dX h' β' (f x) y):∀{x:SV}{y:Value},dD h β x y->dD h' β' (mV f x) y
 | .c _,_,c=>⟨hR _ _ c.1,c.2⟩
 | .agg _,_,⟨ys,e,a⟩=>⟨ys,e,EK hR a⟩
 | .dat s _,_,⟨g,cs,e,r⟩=>⟨g,cs,e,r.mono le s⟩
 | .und,_,c=>c
theorem jS.map{h h':FH}{β β':List RV}{f:SC->SC} (le:h.le h') (hR:∀x y,dX h β x y->dX h' β' (f x) y):∀{x:bg}{y:Value},jS h β x y->jS h' β' (mE f x) y
 | .one _,_,c=>dD.map le hR c
 | .iJ _,_,⟨ys,e,a⟩=>⟨ys,e,go a⟩
where
 go:∀{xs:List SV}{ys:List Value},aO (dD h β) xs ys->aO (dD h' β') (eY (mV f) xs) ys
  | [],[],_=>trivial
  | _ :: _,_ :: _,⟨a,b⟩=>⟨dD.map le hR a,go b⟩
theorem Holds.map{h':FH}{β':List RV}{f:SC->SC} (le:h.le h') (hR:∀x y,dX h β x y->dX h' β' (f x) y):∀{r:ak}{v:RV},Holds h β w r v->(r.live=true->∀b,v.has b->w'.heap[b]?=w.heap[b]?)->Holds h' β' w' (mR f r) v
 | .blk _ _,.blk b,⟨ys,e,a⟩,k=>⟨ys,by rw[k rfl b (lC.2 rfl)];exact e,EK hR a⟩
 | .row _ _ _,.row v,x,k=>mF.move le x λb hb=>k rfl b (aZ.2 hb)
 | .obj _ s _,.blk b,⟨ys,e,r⟩,k=>⟨ys,by rw[k rfl b (lC.2 rfl)];exact e,r.mono le s⟩
 | .deep _ _ _ _ _ _ _ _,.deep _ _,x,k=>eF.move le x (k rfl)
 | .mp k' s l,.row v,x,k=>Holds.move (r:=.mp k' s l) (v:=.row v) (β':=β') (β:=β') le (Ext.refl _) x k
 | .OD k' s l n,.deep v us,x,k=>Holds.move (r:=.OD k' s l n) (v:=.deep v us) (β':=β') (β:=β') le (Ext.refl _) x k
 | .it k' s l dn,.blk v,x,k=>Holds.move (r:=.it k' s l dn) (v:=.blk v) (β':=β') (β:=β') le (Ext.refl _) x k
 | .LC _ _ _ _,.row v,x,k=>TlH.move x λb hb=>k rfl b (aZ.2 hb)
 | .Hz _ _ _ _,.deep _ _,x,k=>D8.move le x (k rfl)
 | .gone,_,_,_=>trivial
theorem pX(f:SC->SC) (r:ak):(mR f r).live=r.live:=by cases r<;>rfl
theorem X9{f:SC->SC}:∀{l:List (Nat×Gd×bg)}{t:Nat}{G:Gd}{e:bg},iG (yU f l) t=some (G,e)->∃e0,iG l t=some (G,e0)/\e=mE f e0
 | [],_,_,_,h=>by simp[yU,iG]at h
 | (k,g,e0) :: l,t,G,e,h=>by
   simp only[yU]at h;rw[aX]at h ⊢
   split at h
   .rename_i hk;cases h;exact⟨e0,by rw[if_pos hk],rfl⟩
   .rename_i hk;rw[if_neg hk];exact X9 h
theorem Ya{f:SC->SC}:∀{l:List (Nat×Gd×bg)}{t:Nat}{G:Gd}{e:bg},iG l t=some (G,e)->iG (yU f l) t=some (G,mE f e)
 | [],_,_,_,h=>by simp[iG]at h
 | (k,g,e0) :: l,t,G,e,h=>by
   simp only[yU];rw[aX]at h ⊢
   split at h
   .rename_i hk;cases h;rw[if_pos hk]
   .rename_i hk;rw[if_neg hk];exact Ya h
theorem EL(gl:List Bool) (f:SC->SC):∀{T:List (Gd×ak)},eff gl (mT f T)=(eff gl T).map (mR f)
 | []=>rfl
 | (g,r) :: l=>by
   simp only[mT,eff,UO,EL gl f (T:=l)]
   congr 1
   cases gv gl g<;>rfl
theorem EM{f:SC->SC}{p:Gd×ak}:∀{T:List (Gd×ak)},p∈mT f T->∃q∈T,q.1=p.1
 | [],h=>by simp[mT]at h
 | (g,r) :: t,h=>by
   simp only[mT,lU]at h;rcases h with rfl | h
   .exact⟨(g,r),by simp,rfl⟩
   .obtain⟨q,h1,h2⟩:=EM h;exact⟨q,by simp[h1],h2⟩
section
variable {cx:Cx}{P:Program}{N:Nat}{B:Base}{h0:FH}{s:St}{h:FH}{β:List RV}{w:World}{a:Act}{o:Oper}{K:St->Prop}
theorem Sat.map(aj:Sat N B h0 s h β w a){f:SC->SC}{T':List (Gd×ak)}{h':FH}{β':List RV}{w':World} (le:h.le h') (hf:∀b,f (.v (.bool b))=.v (.bool b)) (hR:∀x y,dX h β x y->dX h' β' (f x) y)
 (ok:OK B h0 (eff s.gl T') h' β' w') (gT:∀p∈T',vF s.gl.length p.1=true):Sat N B h0 { s with T:=T',env:=yU f s.env } h' β' w' a:=by
 refine⟨ok,?_,?_,aj.defers,aj.sz,?_,gT⟩
 .intro t G e ht;obtain⟨e0,h1,rfl⟩:=X9 ht;obtain⟨z,q1,q2,q3⟩:=aj.env t G e0 h1;exact⟨z,q1,λhG=>jS.map le hR (q2 hG),q3⟩
 .intro d i hi;obtain⟨G,b,q1,q2⟩:=aj.gs d i hi;have:=Ya (f:=f) q1;simp only[mE,mV,hf]at this;exact⟨G,b,this,q2⟩
 .intro t G e ht;obtain⟨e0,h1,rfl⟩:=X9 ht;exact aj.gb t G e0 h1
theorem dL{u v:RV} (hu:β[i]?=some u):(β.set i v)[j]?=if j=i then some v else β[j]?:=by
 by_cases hj:j=i
 .subst hj;rw[if_pos rfl,pq (A8.1 hu).1]
 .rw[if_neg hj,lW (Ne.symm hj)]
theorem PS(h:(!Nat.beq i j)=true):j≠i:=by
 rintro rfl;simp at h
theorem dX.js{us us':Nat->Value}{u:RV} (hu:β[i]?=some u) (hd:u=.deep v us\/u=.row v){x:SC} (c:dX h β x y):dX h (β.set i (.deep v us')) (uM i x) y:=by
 have hsl:u.sl=some v:=by rcases hd with rfl | rfl<;>rfl
 have hbl:u.block=(RV.deep v us').block:=by rcases hd with rfl | rfl<;>rfl
 have nb:∀b,u≠.blk b:=by rcases hd with rfl | rfl<;>intro b e<;>cases e
 unfold uM;split
 .rename_i hf;cases x with
  | v _=>exact c
  | sl _ _=>exact c
  | fp _ _=>exact c
  | one _ _=>exact c
  | abs _=>exact c
  | junk=>trivial
  | own j off=>
    obtain⟨b,e,e'⟩:=c;refine⟨b,?_,e'⟩;rw[dL hu,if_neg]
    .exact e
    .rintro rfl;rw[hu]at e;cases e;exact nb b rfl
  | row j=>
    obtain⟨z,e,e'⟩:=c
    by_cases hj:j=i
    .subst hj;rw[hu]at e;cases e;exact⟨.deep v us',by rw[dL hu,if_pos rfl],by rw[hsl]at e';exact e'⟩
    .exact⟨z,by rw[dL hu,if_neg hj];exact e,e'⟩
  | jU j k sz off=>
    obtain⟨z,g,e,e',e2⟩:=c
    by_cases hj:j=i
    .subst hj;rw[hu]at e;cases e;exact⟨.deep v us',g,by rw[dL hu,if_pos rfl],by rw[<-hbl];exact e',e2⟩
    .exact⟨z,g,by rw[dL hu,if_neg hj];exact e,e',e2⟩
  | sub j k=>
    obtain⟨z,uq,e,e'⟩:=c;exact⟨z,uq,by rw[dL hu,if_neg (PS hf)];exact e,e'⟩
  | lX j k m sz off=>
    obtain⟨z,uq,g,e,e'⟩:=c;exact⟨z,uq,g,by rw[dL hu,if_neg (PS hf)];exact e,e'⟩
 .trivial
theorem OK.PU(ok:OK B h0 T h β w){r':ak}{u v:RV}{f:SC->SC}
 (hT:T[i]?=some r) (hl:r.live=true) (hu:β[i]?=some u){row:Option Nat} (hg:Gb w w' row) (lq:∀k,row=some k->u.has k){X:Nat->Prop}
 (hX:∀b,X b->B.al b/\b < w.heap.size/\(∀o,h b o=none)/\∀(j:Nat) (rj:ak) (vj:RV),j≠i->T[j]?=some rj->rj.live=true->β[j]?=some vj->¬vj.has b)
 (hv:∀b,v.has b->u.has b\/X b\/(w.heap.size<=b/\b < w'.heap.size)) (hC:∀x y,dX h β x y->dX h (β.set i v) (f x) y) (hold:Holds h (β.set i v) w' r' v):
 OK B h0 ((T.map (mR f)).set i r') h (β.set i v) w':=by
 have hi:i < T.length:=(A8.1 hT).1;have hi':i < β.length:=by rw[ok.len];exact hi
 have Ea:∀b,u.has b->B.al b/\b < w.heap.size/\∀o,h b o=none:=λb hb=>ok.own i r u b hT hl hu hb
 have nf:∀b,w.heap.size<=b->∀o,h b o=none:=by
  intro b hb o;cases hh:h b o with
  | none=>rfl
  | some x=>have:=oH (ok.hw b o x hh);omega
 have Xu:∀b,v.has b->B.al b/\b < w'.heap.size/\∀o,h b o=none:=by
  intro b hb;rcases hv b hb with hb' | hb' | ⟨h1,h2⟩
  .obtain⟨a1,a2,a3⟩:=Ea b hb';exact⟨a1,OI a2 hg.size,a3⟩
  .obtain⟨a1,a2,a3,_⟩:=hX b hb';exact⟨a1,OI a2 hg.size,a3⟩
  .exact⟨B.up _ (pI ok.below.size h1),h2,nf b h1⟩
 have apart:∀j rj vj b,j≠i->T[j]?=some rj->rj.live=true->β[j]?=some vj->vj.has b->v.has b->False:=by
  intro j rj vj b hj ej lj jA hb hb2;rcases hv b hb2 with hb' | hb' | ⟨h1,h2⟩
  .exact hj (ok.inj j i rj r vj u b ej lj hT hl jA hu hb hb')
  .exact(hX b hb').2.2.2 j rj vj hj ej lj jA hb
  .have:=(ok.own j rj vj b ej lj jA hb).2.1;omega
 have get:∀{j:Nat}{rj:ak},j≠i->((T.map (mR f)).set i r')[j]?=some rj->∃r0,T[j]?=some r0/\rj=mR f r0:=by
  intro j rj hj e;rw[lW (Ne.symm hj),wJ]at e;cases hh:T[j]? with
  | none=>rw[hh]at e;cases e
  | some r0=>rw[hh]at e;cases e;exact⟨r0,rfl,rfl⟩
 exact {
  below:=ok.below.grown hg.togrownBy λk e=>(Ea k (lq k e)).1
  dr:=pI ok.dr hg.dr
  len:=by simp[ok.len]
  holds:=by
   intro j rj vj ej jA
   by_cases hj:j=i
   .subst hj;rw[pq (by simpa using hi)]at ej
    rw[pq hi']at jA;cases ej;cases jA;exact hold
   .obtain⟨r0,e0,rfl⟩:=get hj ej;rw[lW (Ne.symm hj)]at jA;refine(ok.holds j r0 vj e0 jA).map (FH.le.refl h) hC λhlj b hb=>hg.block b (ok.own j r0 vj b e0 hlj jA hb).2.1 λe=>hj ?_
    exact ok.inj j i r0 r vj u b e0 hlj hT hl jA hu hb (lq b e.symm)
  own:=by
   intro j rj vj b ej hlj jA hb
   by_cases hj:j=i
   .subst hj;rw[pq hi']at jA;cases jA;exact Xu b hb
   .obtain⟨r0,e0,rfl⟩:=get hj ej;rw[lW (Ne.symm hj)]at jA;obtain⟨a1,a2,a3⟩:=ok.own j r0 vj b e0 (by rw[<-pX f];exact hlj) jA hb
    exact⟨a1,OI a2 hg.size,a3⟩
  inj:=by
   intro j k r1 r2 u1 u2 b e1 l1 e2 l2 e3 e4 b1 b2
   by_cases hj:j=i<;>by_cases hk:k=i
   .rw[hj,hk]
   .exfalso;subst hj;rw[pq hi']at e3;cases e3;obtain⟨r0,e0,rfl⟩:=get hk e2;rw[lW (Ne.symm hk)]at e4;exact apart k r0 u2 b hk e0 (by rw[<-pX f];exact l2) e4 b2 b1
   .exfalso;subst hk;rw[pq hi']at e4;cases e4;obtain⟨r0,e0,rfl⟩:=get hj e1;rw[lW (Ne.symm hj)]at e3;exact apart j r0 u1 b hj e0 (by rw[<-pX f];exact l1) e3 b1 b2
   .obtain⟨r0,e0,rfl⟩:=get hj e1;obtain⟨r0',e0',rfl⟩:=get hk e2;rw[lW (Ne.symm hj)]at e3;rw[lW (Ne.symm hk)]at e4;exact ok.inj j k r0 r0' u1 u2 b e0 (by rw[<-pX f];exact l1) e0' (by rw[<-pX f];exact l2) e3 e4 b1 b2
  hle:=ok.hle
  hw:=frozen_kept ok.hw hg λk e=>(Ea k (lq k e)).2.2
  hg:=ok.hg
  kn:=ok.kept hg λb e=>(ok.holds i r u hT hu).cells hl (lq b e) }
theorem OK.apF(ok:OK B h0 T h β w){v:RV}
 (hX:∀b,v.has b->B.al b/\b < w.heap.size/\(∀o,h b o=none)/\∀(j:Nat) (rj:ak) (vj:RV),T[j]?=some rj->rj.live=true->β[j]?=some vj->¬vj.has b) (hold:Holds h (β++[v]) w r v):
 OK B h0 (T++[r]) h (β++[v]) w where
 below:=ok.below
 dr:=ok.dr
 len:=by simp[ok.len]
 holds:=by
  intro i r' v' e e';rcases aF e with⟨hi,e⟩ | ⟨hi,rfl⟩
  .rcases aF e' with⟨_,e'⟩ | ⟨hj,_⟩
   .exact(ok.holds i r' v' e e').move (FH.le.refl h) (Ext.append _ _) λhl b hb=>rfl
   .have:=ok.len;omega
  .rcases aF e' with⟨hj,e'⟩ | ⟨_,rfl⟩
   .have:=ok.len;omega
   .exact hold
 own:=by
  intro i r' v' b e hl e' hb;rcases aF e' with⟨hj,e'⟩ | ⟨hj,rfl⟩
  .rcases aF e with⟨_,e⟩ | ⟨hi,rfl⟩
   .exact ok.own i r' v' b e hl e' hb
   .have:=ok.len;omega
  .obtain⟨h1,h2,h3,_⟩:=hX b hb;exact⟨h1,h2,h3⟩
 inj:=by
  intro i j r1 r2 u v' b ei hl1 ej hl2 eu ev hu hv';have L:=ok.len;rcases aF ei with⟨hi,ei⟩ | ⟨hi,_⟩<;>rcases aF ej with⟨hj,ej⟩ | ⟨hj,_⟩<;>
   rcases aF eu with⟨hi',eu⟩ | ⟨hi',rfl⟩<;>rcases aF ev with⟨hj',ev⟩ | ⟨hj',rfl⟩<;>first
    | omega
    | exact ok.inj i j r1 r2 u v' b ei hl1 ej hl2 eu ev hu hv'
    | exact((hX b hv').2.2.2 i r1 u ei hl1 eu hu).elim
    | exact((hX b hu).2.2.2 j r2 v' ej hl2 ev hv').elim
 hle:=ok.hle
 hw:=ok.hw
 hg:=ok.hg
 kn:=ok.kn
abbrev Ih:Nat->Bool:=λ_=>false
def xM:Nat->Value:=λ_=>nH
theorem oU(j:Nat):aA (xM j)=none:=rfl
theorem JK{s:Sh}{l:List s.den} (x:mF h w t s l v):eF h w t s l tt e so Ih [] v xM:=by
 refine⟨λj k b hb=>(by rw[oU]at hb;cases hb),λj b hb=>(by rw[oU]at hb;cases hb),?_⟩
 rcases x with x | x | ⟨g,cap,cur,e0,e1,e2,e3,e4,r⟩
 .exact .inl x
 .exact .inr (.inl x)
 .refine .inr (.inr ⟨g,cap,cur,e0,e1,e2,e3,e4,λj=>by rw[oU];simp,λj d hd=>?_⟩)
  obtain⟨g1,g2⟩:=r.get (λ_ _=>Rd.size s) hd
  refine⟨?_,oU j⟩;have hj:=(A8.1 hd).1;have hm:(j+1) * s.size<=l.length * s.size:=yh _ hj;rw[xw]at hm;have e5:List.take s.size (List.drop (j * s.size) (List.take (l.length * s.size) cur.toList))=List.take s.size (List.drop (j * s.size) cur.toList):=by
   apply Jh;intro p;simp only[vk,Ll];split
   .rw[if_pos (by omega)]
   .rfl
  rw[e5]at g1;exact g1
abbrev MI(s:St) (i:Nat) (tt:TypeId) (e:Sh) (so:Nat):St:=match eX s.T i with
 | some ([],.row t sh l)=>{ s with T:=dF s.T i ([],.deep t sh l tt e so Ih []) }
 | _=>s
theorem ahR(r:ak):mR (λx=>x) r=r:=by
 have:∀l:List SC,eY (λx=>x) l=l:=by
  intro l
  induction l with
  | nil=>rfl
  | cons x l ih=>simp[eY,ih]
 cases r<;>simp[mR,this]
theorem Sat.MI(aj:Sat N B h0 s h β w a) (i:Nat) (tt:TypeId) (e:Sh) (so:Nat):∃β',Sat N B h0 (MI s i tt e so) h β' w a:=by
 unfold l9.MI;split
 .rename_i t sh l hT;have fP:=bG hT (show gv s.gl []=true from rfl)
  have gX:i < β.length:=by rw[aj.ok.len];exact(A8.1 fP).1
  have hu:=kQ gX;have hold:=aj.ok.holds i _ _ fP hu;cases hb:β[i]with
  | blk b=>rw[hb]at hold;cases hold
  | no=>rw[hb]at hold;cases hold
  | deep _ _=>rw[hb]at hold;cases hold
  | row v=>
    rw[hb]at hold hu;have hC:∀x y,dX h β x y->dX h (β.set i (.deep v xM)) x y:=by
     intro x y c;have:=dX.js (us:=xM) (us':=xM) hu (.inr rfl) c;cases x with
     | sub j k=>
       obtain⟨z,uq,e1,e2⟩:=c;refine⟨z,uq,?_,e2⟩;rw[dL hu,if_neg]
       .exact e1
       .rintro rfl;rw[hu]at e1;cases e1
     | lX j k m sz off=>
       obtain⟨z,uq,g,e1,e2⟩:=c;refine⟨z,uq,g,?_,e2⟩;rw[dL hu,if_neg]
       .exact e1
       .rintro rfl;rw[hu]at e1;cases e1
     | _=>exact this
    refine⟨β.set i (.deep v xM),?_,?_,aj.gs,aj.defers,aj.sz,aj.gb,qw aj⟩
    .show OK B h0 (eff s.gl (dF s.T i ([],.deep t sh l tt e so Ih []))) h _ w;rw[xH];have:=aj.ok.PU (f:=λx=>x) (r':=.deep t sh l tt e so Ih []) (v:=.deep v xM) (row:=none) (X:=λ_=>False) fP rfl hu (dh w none) (λk e=>by cases e) (λb hb=>hb.elim)
      (λb hb=>by
       rw[aV]at hb;rcases hb with hb | ⟨j,hb⟩
       .exact .inl (aZ.2 hb)
       .rw[oU]at hb;cases hb) hC (JK hold)
     rwa [show(eff s.gl s.T).map (mR λx=>x)=eff s.gl s.T by rw[show(mR λx=>x)=id from funext ahR];simp]at this
    .intro t' G e' ht;obtain⟨z,q1,q2,q3⟩:=aj.env t' G e' ht;refine⟨z,q1,λhG=>?_,q3⟩
     have:=jS.map (f:=λx=>x) (FH.le.refl h) hC (q2 hG)
     have hid:mE (λx=>x) e'=e':=by
      have m1:∀l:List SC,eY (λx=>x) l=l:=by
       intro l
       induction l with
       | nil=>rfl
       | cons x l ih=>simp[eY,ih]
      have m2:∀x:SV,mV (λx=>x) x=x:=by intro x;cases x<;>simp[mV,m1]
      cases e' with
      | one x=>simp[mE,m2]
      | iJ xs=>
        have:∀l:List SV,eY (mV λx=>x) l=l:=by
         intro l
         induction l with
         | nil=>rfl
         | cons x l ih=>simp[eY,ih,m2]
        simp[mE,this]
     rwa [hid]at this
 .exact⟨β,aj⟩
theorem eF.third{sh:Sh}{l:List sh.den}{own:Nat->Bool}{us:Nat->Value} (D:eF h w t sh l tt e so own hs v us) (hj:j < l.length):
 ∃g cap cur,v=.slice (some ⟨g,0,none⟩) l.length cap/\w.heap[g]?=some (.cells cur t (0,0))/\l.length<=cap/\(1<=cap/\cap<=maxLen) /\
   cur.size=cap * sh.size/\(∀j,aA (us j)≠some g)/\∀j d,l[j]?=some d->AB h w sh tt e so (own j) (nT j hs) (us j) ((cur.toList.drop (j * sh.size)).take sh.size) d:=by
 obtain⟨_,_,D⟩:=D;rcases D with⟨_,e0⟩ | ⟨_,_,e0⟩ | D
 .subst e0;simp at hj
 .subst e0;simp at hj
 .exact D
theorem eF.get{sh:Sh}{l:List sh.den}{own:Nat->Bool}{us:Nat->Value} (D:eF h w t sh l tt e so own hs v us){d:sh.den} (hd:l[j]?=some d) (ho:own j=true) (hh:nT j hs=false)
 {x:List e.den} (hx:GX sh d so e=some x):mF h w tt e x (us j):=by
 obtain⟨_,_,_,_,_,_,_,_,_,h6⟩:=D.third (A8.1 hd).1;have h7:=h6 j d hd;rw[ho,hh]at h7;obtain⟨d0,x',_,p,_,rw_⟩:=h7;rw[Js p hx];exact rw_
theorem eF.inner{sh:Sh}{l:List sh.den}{own:Nat->Bool}{us:Nat->Value} (D:eF h w t sh l tt e so own hs v us){d d':sh.den} (hd:l[j]?=some d) (ho:own j=true) (hh:nT j hs=false)
 (fr:∀b,aA (us j)≠some b->(∃o,w.heap[b]?=some o)->w'.heap[b]?=w.heap[b]?) (ce:∀b,aA (us j)=some b->∃o,w'.heap[b]?=some o/\ours o=true){x':List e.den} (hp:GY sh d so e x'=some d') (hr:mF h w' tt e x' (us j)):eF h w' t sh (l.set j d') tt e so own hs v us:=by
 have hj:=(A8.1 hd).1;obtain⟨g,cap,cur,e0,e1,e2,e3,e4,e5,e6⟩:=D.third hj;obtain⟨D1,D2,_⟩:=D;have fr':∀i b,i≠j->aA (us i)=some b->w'.heap[b]?=w.heap[b]?:=by
  intro i b hi hb;obtain⟨_,o,ho,_⟩:=D2 i b hb;exact fr b (λhh=>hi (D1 i j b hb hh)) ⟨o,ho⟩
 refine⟨D1,λi b hb=>?_,.inr (.inr ⟨g,cap,cur,by rw[wK];exact e0,?_,by rw[wK];exact e2,e3,e4,e5,λi di hdi=>?_⟩)⟩
 .rw[wK];obtain⟨q1,o,q2,q3⟩:=D2 i b hb
  by_cases hi:i=j
  .subst hi;exact⟨q1,ce b hb⟩
  .exact⟨q1,o,by rw[fr' i b hi hb];exact q2,q3⟩
 .rw[fr g (e5 j) ⟨_,e1⟩];exact e1
 .by_cases hi:i=j
  .subst hi;rw[pq hj]at hdi;cases hdi;have h7:=e6 i d hd;rw[ho,hh]at h7 ⊢;obtain⟨d0,y,r,p,c,q⟩:=h7;exact⟨d0,x',r,p.trans (Jr hp),c,hr⟩
  .rw[lW (Ne.symm hi)]at hdi;exact(e6 i di hdi).move (FH.le.refl h) λb hb=>fr' i b hi hb
theorem eF.write{sh:Sh}{l:List sh.den}{own own':Nat->Bool}{hs':List Nat}{us us':Nat->Value} (D:eF h w t sh l tt e so own hs v us){d d':sh.den} (hd:l[j]?=some d)
 {cap:Nat}{cur:Array Value} (hv:v=.slice (some ⟨g,0,none⟩) l.length cap) (hw:w.heap[g]?=some (.cells cur t (0,0))) (hk:off+k<=sh.size){cs':List Value} (hc:cs'.length=k)
 (same:∀i,i≠j->own' i=own i/\nT i hs'=nT i hs/\us' i=us i) (apart:∀i b,i≠j->aA (us i)=some b->aA (us' j)≠some b) (bl:∀b,aA (us' j)=some b->b≠g/\∃o,w.heap[b]?=some o/\ours o=true)
 (el:∀(w':World) cs,(∀b,b≠g->w'.heap[b]?=w.heap[b]?)->cs.length=sh.size->AB h w sh tt e so (own j) (nT j hs) (us j) cs d->AB h w' sh tt e so (own' j) (nT j hs') (us' j) (cs.take off++cs'++cs.drop (off+k)) d'):
 j * sh.size+off+k<=cur.size/\eF h (w.setRow g (cur.toList.take (j * sh.size+off)++cs'++cur.toList.drop (j * sh.size+off+k)).toArray) t sh (l.set j d') tt e so own' hs' v us':=by
 have hj:=(A8.1 hd).1;obtain⟨g2,cap2,EN,e0,e1,e2,e3,e4,e5,e6⟩:=D.third hj;rw[hv]at e0;have eg:g=g2/\cap=cap2:=by simpa using e0
 obtain⟨rfl,rfl⟩:=eg;rw[hw]at e1;have ec:cur=EN:=by simpa using e1
 subst ec;obtain⟨D1,D2,_⟩:=D;have lc:cur.toList.length=cap * sh.size:=by simpa using e4
 have hm:(j+1) * sh.size<=cap * sh.size:=yh _ (by omega)
 rw[xw]at hm;refine⟨by omega,?_⟩
 generalize hw':w.setRow g (cur.toList.take (j * sh.size+off)++cs'++cur.toList.drop (j * sh.size+off+k)).toArray=w';have fr:∀b,b≠g->w'.heap[b]?=w.heap[b]?:=λb hb=>by rw[<-hw'];exact setRow_other w g b _ hb
 have hg':w'.heap[g]?=some (.cells (cur.toList.take (j * sh.size+off)++cs'++cur.toList.drop (j * sh.size+off+k)).toArray t (0,0)):=by rw[<-hw'];exact setRow_heap w g _ _ t (0,0) hw
 have ne:∀i b,aA (us i)=some b->b≠g:=λi b hb hh=>e5 i (by rw[hb,hh])
 refine⟨λi k b h1 h2=>?_,λi b hb=>?_,.inr (.inr ⟨g,cap,_,by rw[wK];exact hv,hg',by rw[wK];exact e2,e3,?_,λi hb=>?_,λi di hdi=>?_⟩)⟩
 .by_cases hi:i=j<;>by_cases hk:k=j
  .rw[hi,hk]
  .subst hi;rw[(same k hk).2.2]at h2;exact(apart k b hk h2 h1).elim
  .subst hk;rw[(same i hi).2.2]at h1;exact(apart i b hi h1 h2).elim
  .rw[(same i hi).2.2]at h1;rw[(same k hk).2.2]at h2;exact D1 i k b h1 h2
 .rw[wK]
  by_cases hi:i=j
  .subst hi;obtain⟨q1,o,q2,q3⟩:=bl b hb;exact⟨hj,o,by rw[fr b q1];exact q2,q3⟩
  .rw[(same i hi).2.2]at hb;obtain⟨q1,o,q2,q3⟩:=D2 i b hb;exact⟨q1,o,by rw[fr b (ne i b hb)];exact q2,q3⟩
 .simp only[GL,kH,lu,yj];omega
 .by_cases hi:i=j
  .subst hi;exact(bl g hb).1 rfl
  .rw[(same i hi).2.2]at hb;exact e5 i hb
 .by_cases hi:i=j
  .subst hi;rw[pq hj]at hdi;cases hdi;have h7:=el w' _ fr (by rw[lu,yj];omega) (e6 i d hd)
   have key:List.take sh.size (List.drop (i * sh.size) (List.take (i * sh.size+off) cur.toList++cs'++List.drop (i * sh.size+off+k) cur.toList))=List.take off (List.take sh.size (List.drop (i * sh.size) cur.toList))++cs'++List.drop (off+k) (List.take sh.size (List.drop (i * sh.size) cur.toList)):=by
    apply Jh;intro p;simp only[A93,vk,Ll,kH,lu,yj,lc,hc]
    repeat' split
    all_goals first | rfl | omega | (congr 1;omega) | (rw[CJ (by omega)]) | (exfalso;omega) | skip
   simp only at key ⊢;rw[key];exact h7
  .rw[lW (Ne.symm hi)]at hdi;obtain⟨q1,q2,q3⟩:=same i hi;rw[q1,q2,q3];have h7:=(e6 i di hdi).move (w':=w') (FH.le.refl h) λb hb=>fr b (ne i b hb)
   have hi2:=(A8.1 hdi).1;have hm2:(i+1) * sh.size<=cap * sh.size:=yh _ (by omega)
   rw[xw]at hm2;have hne:i * sh.size+sh.size<=j * sh.size\/j * sh.size+sh.size<=i * sh.size:=by
    rcases Nat.lt_or_gt_of_ne hi with hh | hh
    .left;have:(i+1) * sh.size<=j * sh.size:=yh _ hh
     rwa [xw]at this
    .right;have:(j+1) * sh.size<=i * sh.size:=yh _ hh
     rwa [xw]at this
   have key:List.take sh.size (List.drop (i * sh.size) (List.take (j * sh.size+off) cur.toList++cs'++List.drop (j * sh.size+off+k) cur.toList))=List.take sh.size (List.drop (i * sh.size) cur.toList):=by
    apply Jh;intro p;simp only[A93,vk,Ll,kH,lu,yj,lc,hc]
    repeat' split
    all_goals first | rfl | omega | (congr 1;omega) | (rw[CJ (by omega)]) | (exfalso;omega) | skip
   simp only at key ⊢;rw[key];exact h7
abbrev qW(us:Nat->Value) (j:Nat):Nat->Value:=λk=>if k=j then nH else us k
theorem eF.open{sh:Sh}{l:List sh.den}{own:Nat->Bool}{us:Nat->Value} (D:eF h w t sh l tt e so own [] v us){d:sh.den} (hd:l[j]?=some d) (ho:own j=true):eF h w t sh l tt e so own [j] v (qW us j):=by
 have hj:=(A8.1 hd).1;obtain⟨g,cap,cur,e0,e1,e2,e3,e4,e5,e6⟩:=D.third hj;obtain⟨D1,D2,_⟩:=D;have sub:∀i b,aA (qW us j i)=some b->i≠j/\aA (us i)=some b:=by
  intro i b hb;unfold qW at hb;split at hb
  .cases hb
  .rename_i hi;exact⟨hi,hb⟩
 refine⟨λi k b h1 h2=>D1 i k b (sub i b h1).2 (sub k b h2).2,λi b hb=>D2 i b (sub i b hb).2,.inr (.inr ⟨g,cap,cur,e0,e1,e2,e3,e4,λi hb=>e5 i (sub i g hb).2,λi di hdi=>?_⟩)⟩
 have h7:=e6 i di hdi
 by_cases hi:i=j
 .subst hi;rw[ho]at h7;obtain⟨d0,y,r,p,c,q⟩:=h7;have e7:nT i [i]=true:=by simp[nT]
  rw[e7];refine⟨by simp[qW,nH,aA],d0,y,r,p,us i,c,?_⟩
  rcases q with⟨e1,_⟩ | ⟨_,e1,_⟩ | ⟨_,_,_,e1,_⟩<;>rw[e1]<;>exact⟨rfl,rfl⟩
 .have e7:nT i [j]=false:=by simp[nT,hi]
  have e8:qW us j i=us i:=by simp[qW,hi]
  rw[e7,e8];exact h7
theorem yV:∀{s:Sh}{so:Nat}{e:Sh}{d0 d d':s.den}{x:List e.den}{off k:Nat}{v:SV},mG s so e d0 x d->off+k<=so\/so+1<=off->yB s d off k v=some d'->∃d0',yB s d0 off k v=some d0'/\mG s so e d0' x d'
 | .sl s,so,e,d0,d,d',x,off,k,v,⟨h1,_,_⟩,hd,h=>by
   exfalso;unfold yB at h;split at h
   .rename_i hh;rw[aB,bY]at hh;have a1:=iC hh.1;have a2:1=k:=iC hh.2;omega
   .cases h
 | .pair a b,so,e,(p0,q0),(p,q),d',x,off,k,v,hp,hd,h=>by
   have gX:so < a.size+b.size:=mG.lt hp;unfold yB at h ⊢
   cases hw:dG (Nat.beq off 0) (Nat.beq (a.size+b.size) k) with
   | true=>
     rw[aB,bY]at hw;have a1:=iC hw.1;have a2:=iC hw.2;omega
   | false=>
     rw[hw]at h;simp only at h ⊢
     cases hle:Nat.ble (off+1) a.size with
     | true=>
       rw[hle]at h;simp only at h ⊢
       have hle:=qo hle;split at h
       .rename_i y hy;cases h;rcases hp with⟨g1,e1,h1⟩ | ⟨g1,e1,h1⟩
        .subst e1;rw[hy];exact⟨_,rfl,.inl ⟨g1,rfl,h1⟩⟩
        .obtain⟨z,hz,h2⟩:=yV h1 hd hy;rw[hz];exact⟨_,rfl,.inr ⟨g1,e1,h2⟩⟩
       .cases h
     | false=>
       rw[hle]at h;simp only at h ⊢
       have hle:=vH hle;split at h
       .rename_i y hy;cases h;rcases hp with⟨g1,e1,h1⟩ | ⟨g1,e1,h1⟩
        .obtain⟨z,hz,h2⟩:=yV h1 (by omega) hy
         rw[hz];exact⟨_,rfl,.inl ⟨g1,e1,h2⟩⟩
        .subst e1;rw[hy];exact⟨_,rfl,.inr ⟨g1,rfl,h1⟩⟩
       .cases h
 | .int _,_,_,_,_,_,_,_,_,_,h,_,_=>h.elim
 | .bool,_,_,_,_,_,_,_,_,_,h,_,_=>h.elim
 | .str,_,_,_,_,_,_,_,_,_,h,_,_=>h.elim
 | .any,_,_,_,_,_,_,_,_,_,h,_,_=>h.elim
 | .unit,_,_,_,_,_,_,_,_,_,h,_,_=>h.elim
 | .arr _ _,_,_,_,_,_,_,_,_,_,h,_,_=>h.elim
theorem set_mid{cs':List Value}{z:Value} (hk:cs'.length=k) (hl:off+k<=cs.length) (hd:off+k<=so\/so+1<=off):
 (cs.set so z).take off++cs'++(cs.set so z).drop (off+k)=(cs.take off++cs'++cs.drop (off+k)).set so z:=by
 apply Jh;intro p;simp only[A93,vk,Ll,kH,lu,yj,List.getElem?_set,wK,hk]
 repeat' split
 all_goals first | rfl | omega | (congr 1;omega) | (exfalso;omega) | skip
theorem AB.upd{s:Sh}{own hole:Bool}{u:Value}{d d':s.den}{v:SV} (x:AB h w s tt e so own hole u cs d) (dis:off+k<=so\/so+1<=off)
 (hu:yB s d off k v=some d') (c:dD h β v y):∃cs',y.cells=cs'.toArray/\cs'.length=k/\(∀u∈cs',dH u)/\off+k<=cs.length/\AB h w s tt e so own hole u (cs.take off++cs'++cs.drop (off+k)) d':=by
 have ahS:∀{cs':List Value}{z:Value},cs'.length=k->off+k<=cs.length->cs[so]?=some z->(cs.take off++cs'++cs.drop (off+k))[so]?=some z:=by
  intro cs' z hk hl hz;have gX:=(A8.1 hz).1;rcases dis with dis | dis
  .rw[OH (by simp only[kH,lu];omega),Ll,<-hz]
   congr 1
   simp only[kH,lu];omega
  .rw[WI (by simp only[kH,lu];omega),WI (by simp only[lu];omega),vk,if_pos (by omega)]
   exact hz
 unfold AB at x ⊢;cases hole with
 | false=>
   cases own with
   | false=>
     obtain⟨cs',e1,e2,e3,e4,e5⟩:=nV s hu x.1 c;exact⟨cs',e1,e2,e3,e4,e5,x.2⟩
   | true=>
     obtain⟨d0,z,r,p,cu,q⟩:=x;obtain⟨d0',h1,h2⟩:=yV p dis hu;obtain⟨cs',e1,e2,e3,e4,e5⟩:=nV s h1 r c;rw[wK]at e4;rw[set_mid e2 e4 dis]at e5;exact⟨cs',e1,e2,e3,e4,d0',z,e5,h2,ahS e2 e4 cu,q⟩
 | true=>
   obtain⟨x0,d0,z,r,p,y0,cu,q⟩:=x;obtain⟨d0',h1,h2⟩:=yV p dis hu;obtain⟨cs',e1,e2,e3,e4,e5⟩:=nV s h1 r c;rw[wK]at e4;rw[set_mid e2 e4 dis]at e5;exact⟨cs',e1,e2,e3,e4,x0,d0',z,e5,h2,y0,ahS e2 e4 cu,q⟩
abbrev tH(own:Nat->Bool) (j:Nat):Nat->Bool:=λk=>cnd (decide (k=j)) true (own k)
abbrev rowOf:SV->Option Nat
 | .c (.row q)=>some q
 | _=>none
abbrev ahT(hs:List Nat) (j:Nat) (K:Prop):Prop:=match hs with
 | []=>K
 | [k]=>j=k/\K
 | _=>False
abbrev Sj(s:St) (d:Option Nat) (i:TI) (r j sz off:Nat) (tt:TypeId) (sh:Sh) (l:List sh.den) (t2:TypeId) (e:Sh) (so:Nat) (own:Nat->Bool) (hs:List Nat) (v:SV) (K:St->Prop):Prop:=match Nat.beq sz sh.size with
 | false=>False
 | true=>match adF (Nat.ble (off+i.size) so) (Nat.ble (so+1) off) with
   | true=>(j < l.length)/\∀e0:sh.den,l[j]?=some e0->match yB sh e0 off i.size v with
     | some dd=>K ({ s with T:=dF s.T r ([],.deep tt sh (l.set j dd) t2 e so own hs) }.put d [] (.one .und))
     | none=>False
   | false=>match rowOf v with
     | some q=>match eX s.T q with
       | some ([],.row tq eq x)=>match dG (Nat.beq tq t2) (dG (Nat.beq off so) (Nat.beq i.size 1)) with
         | true=>match jE (.sl eq) x (.sl e) with
           | some x=>(j < l.length)/\ahT hs j (∀e0:sh.den,l[j]?=some e0->match GY sh e0 so e x with
             | some dd=>K ({ s with T:=dF (mT (uM r) (dF s.T q ([],.gone))) r ([],.deep tt sh (l.set j dd) t2 e so (tH own j) []),env:=yU (uM r) s.env }.put d [] (.one .und))
             | none=>False)
           | none=>False
         | false=>False
       | _=>False
     | none=>False
abbrev adU(cx:Cx) (s:St) (d:Option Nat) (t:TypeId) (p x:Operand) (K:St->Prop):Option Prop:=match pR cx.ti t with
 | none=>none
 | some i=>match bT cx s [] p with
   | some (.one (.c (.jU r j sz off)))=>match eX s.T r with
     | some ([],.deep tt sh l t2 e so own hs)=>match bT cx s [] x with
       | some (.one v)=>some (Sj s d i r j sz off tt sh l t2 e so own hs v K)
       | _=>none
     | _=>none
   | some (.one (.c (.lX r j k sz off)))=>match eX s.T r with
     | some ([],.deep tt sh l t2 e so own hs)=>match bT cx s [] x with
       | some (.one v)=>some (match Nat.beq sz e.size with
         | false=>False
         | true=>(own j=true/\nT j hs=false/\j < l.length)/\∀d0:sh.den,l[j]?=some d0->match GX sh d0 so e with
           | some xs=>(k < xs.length)/\∀y:e.den,xs[k]?=some y->match yB e y off i.size v with
             | some y'=>match GY sh d0 so e (xs.set k y') with
               | some dd=>K ({ s with T:=dF s.T r ([],.deep tt sh (l.set j dd) t2 e so own hs) }.put d [] (.one .und))
               | none=>False
             | none=>False
           | none=>False)
       | _=>none
     | _=>none
   | _=>none
theorem mF.write{sh:Sh}{l:List sh.den}{u:Value} (x:mF h w t sh l u){d dd:sh.den} (hg:aA u=some g) (hd:l[j]?=some d) (up:∀{cs:List Value},Rd h sh cs d->Upd h sh cs off k y dd):
 ∃cur,w.heap[g]?=some (.cells cur t (0,0))/\j * sh.size+off+k<=cur.size/\y.cells.size=k/\(∀z∈y.cells.toList,dH z)/\mF h (w.setRow g (cur.toList.take (j * sh.size+off)++y.cells.toList++cur.toList.drop (j * sh.size+off+k)).toArray) t sh (l.set j dd) u:=by
 have hj:=(A8.1 hd).1;rcases x with⟨hv0,_⟩ | ⟨_,hv0,_⟩ | ⟨g',cap,cur,hv0,he,q2,q3,q4,q5⟩
 .subst hv0;simp[aA]at hg
 .subst hv0;simp[aA]at hg
 .have hgg:g'=g:=by rw[hv0,aW q3.1]at hg;exact D5 hg
  subst hgg;have hm:(j+1) * sh.size<=l.length * sh.size:=yh _ hj;have hm2:l.length * sh.size<=cap * sh.size:=yh _ q2;rw[xw]at hm;obtain⟨g1,g2⟩:=q5.get (λ_ _=>Rd.size sh) hd
  have gl:=Rd.size sh g1;obtain⟨cs',ec,e2,e3,e4,e5⟩:=up g1;rw[gl]at e4;have lc:cur.toList.length=cap * sh.size:=by simpa using q4
  refine⟨cur,he,by omega,by rw[ec];simpa using e2,λz hz=>e3 z (by rw[ec]at hz;simpa using hz),.inr (.inr ⟨g',cap,_,by rw[wK];exact hv0,setRow_heap w g' _ _ t (0,0) he,by rw[wK];exact q2,q3,?_,?_⟩)⟩
  .rw[ec];simp only[GL,kH,lu,yj,UM];omega
  .rw[wK,ec];show gG (Rd h sh) ((List.take (j * sh.size+off) cur.toList++cs'++List.drop (j * sh.size+off+k) cur.toList).take (l.length * sh.size)) (l.set j dd);have e:=gG.set (λ_ _=>Rd.size sh) q5 hj e5
   have key:(List.take (j * sh.size+off) cur.toList++cs'++List.drop (j * sh.size+off+k) cur.toList).take (l.length * sh.size) =
    List.take (j * sh.size) (List.take (l.length * sh.size) cur.toList)++(List.take off (List.take sh.size (List.drop (j * sh.size) (List.take (l.length * sh.size) cur.toList)))++cs'++List.drop (off+k) (List.take sh.size (List.drop (j * sh.size) (List.take (l.length * sh.size) cur.toList))))++List.drop (j * sh.size+sh.size) (List.take (l.length * sh.size) cur.toList):=by
    apply Jh;intro p;simp only[A93,vk,Ll,kH,lu,yj,lc,e2]
    repeat' split
    all_goals first | rfl | omega | (congr 1;omega) | (rw[CJ (by omega)]) | (exfalso;omega) | skip
   rw[key];exact e
theorem take_set{o:Nat} (h:o < cs.length):cs.take o++[y]++cs.drop (o+1)=cs.set o y:=by
 rw[List.set_eq_take_append_cons_drop,if_pos h];simp
theorem Yb(hc:bV P cx.ti) (aj:Sat N B h0 s h β w a) (hg:aI cx.gd h) (hd:lV N o.dst=true){p x:Operand} (ho:o.op=.store t p x){q:Prop} (hq:adU cx s o.dst t p x K=some q) (k:q):
 gJ P N B h0 h w a o (gv s.gl []) K:=by
 have tr:gv s.gl []=true:=rfl;unfold adU at hq;split at hq
 .cases hq
 rename_i i hi;have ti:=hc.get hi;have exec:∀{w':World}{v pv:Value},a.eval x=v->a.eval p=pv->(Instr.storeAt t pv v).run P w=.ok () w'->(execOp a.eval o).run P w=.ok .skip w':=by
  intro w' v pv e1 e2 r;simp only[execOp,ho,e1,e2,Sem.run_bind,r,Result.andThen_ok,Sem.run_pure]
 split at hq
 .rename_i r j sz off hp;obtain⟨⟨v0,g,hb,hgb,ep⟩,_⟩:=aK aj hg tr hp;split at hq
  .rename_i tt sh l t2 e so own hs hT;have fP:=bG hT tr;have hold:=aj.ok.holds r _ _ fP hb;split at hq
   .rename_i v hv;have cv:=aK aj hg tr hv;cases hq
    match v0,hold,hgb,hb with
    | .deep vv us,D,hgb,hb=>
      have D:eF h w tt sh l t2 e so own hs vv us:=D;have hgb:aA vv=some g:=hgb;have outer:∀{j:Nat},j < l.length->∃cap cur,vv=.slice (some ⟨g,0,none⟩) l.length cap/\w.heap[g]?=some (.cells cur tt (0,0))/\∀d,l[j]?=some d->AB h w sh t2 e so (own j) (nT j hs) (us j) ((cur.toList.drop (j * sh.size)).take sh.size) d/\(j+1) * sh.size<=cur.size:=by
       intro j hj;obtain⟨g2,cap,cur,e0,e1,e2,e3,e4,e5,e6⟩:=D.third hj;rw[e0,aW e3.1]at hgb;cases hgb;refine⟨cap,cur,e0,e1,λd hd=>⟨e6 j d hd,?_⟩⟩
       rw[e4];exact yh _ (by omega)
      unfold Sj at k;split at k
      .cases k
      rename_i hz;have hz:sz=sh.size:=iC hz;split at k
      .rename_i hdis;have hdis:off+i.size<=so\/so+1<=off:=by
        unfold adF at hdis;split at hdis
        .rename_i hh;exact .inl (qo hh)
        .exact .inr (qo hdis)
       obtain⟨hj,k⟩:=k;have k:=k _ (kQ hj);split at k
       .rename_i dd hdd;obtain⟨cap,cur,e0,e1,e2⟩:=outer hj;obtain⟨el,hsz⟩:=e2 _ (kQ hj);obtain⟨cs',ec,c2,c3,c4,c5⟩:=el.upd hdis hdd cv;rw[xw]at hsz;have hcl:((cur.toList.drop (j * sh.size)).take sh.size).length=sh.size:=by rw[lu,yj,UM];omega
        rw[hcl]at c4;obtain⟨f1,f2⟩:=D.write (own':=own) (hs':=hs) (us':=us) (d':=dd) (cs':=cs') (off:=off) (k:=i.size) (kQ hj) e0 e1 c4 c2 (λ_ _=>⟨rfl,rfl,rfl⟩) (λi' b hi' hb' hb2=>hi' (D.1 _ _ b hb' hb2)) (λb hb'=>⟨λhh=>(D.third hj).elim λg2 z=>by
         obtain⟨cap2,EN,f0,_,f3,f4,_,f5,_⟩:=z;rw[f0,aW f4.1]at hgb;cases hgb;exact f5 j (by rw[hb',hh]),(D.2.1 j b hb').2⟩) (λw' cs fr hl ex=>by
         obtain⟨cs2,ec2,_,_,_,ex2⟩:=ex.upd hdis hdd cv;have:cs2=cs':=by rw[ec]at ec2;simpa using ec2.symm
         subst this;refine ex2.move (FH.le.refl h) λb hb'=>fr b λhh=>?_
         obtain⟨g2,cap2,EN,f0,_,_,f4,_,f5,_⟩:=D.third hj;rw[f0,aW f4.1]at hgb;cases hgb;exact f5 j (by rw[hb',hh]))
        have r1:=fC (o:=j * sz+off) (v:=a.eval x) ti e1 (by rw[ec];simpa using c2) (by rw[hz];omega) (by rw[ec];intro u hu;exact c3 u (by simpa using hu))
        refine qU aj (by rw[ho];rfl) hd hT rfl hb hgb ?_ (exec rfl ep r1) k
        rw[ec,hz];exact f2
       .cases k
      .split at k
       .rename_i q hq0;split at k
        .rename_i tq eq x0 hTq;have uf:=bG hTq tr;split at k
         .rename_i hcs;rw[aB,aB,bY,bY]at hcs;have a0:tq=t2:=iC hcs.1;have a1:off=so:=iC hcs.2.1;have a2:i.size=1:=iC hcs.2.2;subst a0;subst a1;split at k
          .rename_i x1 hx1;obtain⟨e1,e2⟩:=oM hx1;subst e1;simp only at e2;subst e2;obtain⟨hj,k⟩:=k;have hv1:v=.c (.row q):=by
            unfold rowOf at hq0;split at hq0
            .cases hq0;rfl
            .cases hq0
           subst hv1;have hbq:=aj.ok.row_of uf cv.1;have lq:mF h w tq eq x0 (a.eval x):=aj.ok.holds q _ _ uf hbq;have hone:dH (a.eval x):=cv.2;have hqr:q≠r:=by rintro rfl;rw[uf]at fP;cases fP
           have kk:(∀i',i'≠j->nT i' hs=false)/\∀e0:sh.den,l[j]?=some e0->match GY sh e0 off eq x0 with
            | some dd=>K ({ s with T:=dF (mT (uM r) (dF s.T q ([],.gone))) r ([],.deep tt sh (l.set j dd) tq eq off (tH own j) []),env:=yU (uM r) s.env }.put o.dst [] (.one .und))
            | none=>False:=by
            unfold ahT at k;split at k
            .exact⟨λ_ _=>rfl,k⟩
            .exact⟨λi' hi'=>by simp[nT];rw[<-k.1];exact hi',k.2⟩
            .cases k
           obtain⟨lH,k⟩:=kk;have k:=k _ (kQ hj);split at k
           .rename_i dd hdd;have hdd:=Jr hdd;have hso:=hdd.lt;obtain⟨cap,cur,e0,e1,e2⟩:=outer hj;obtain⟨_,hsz⟩:=e2 _ (kQ hj);rw[xw]at hsz;have gne:∀b,aA (a.eval x)=some b->∀u,(RV.deep vv us).has u->u≠b:=λb hb1 u hu hh=>hqr (aj.ok.inj q r _ _ _ _ b uf rfl fP rfl hbq hb (aZ.2 hb1) (by rw[<-hh];exact hu))
            obtain⟨f1,f2⟩:=D.write (own':=tH own j) (hs':=[]) (us':=λi'=>if i'=j then a.eval x else us i') (d':=dd) (cs':=[a.eval x]) (off:=off) (k:=1) (kQ hj) e0 e1 (by omega) rfl
             (λi' hi'=>⟨by simp[tH,hi',cnd],by rw[lH i' hi'],by simp[hi']⟩)
             (λi' b hi' hb' hb2=>by
              rw[if_pos rfl]at hb2;exact gne b hb2 b (aV.2 (.inr ⟨i',hb'⟩)) rfl)
             (λb hb'=>by
              rw[if_pos rfl]at hb';exact⟨λhh=>gne b hb' g (aV.2 (.inl hgb)) hh.symm,(aj.ok.holds q _ _ uf hbq).cells rfl (aZ.2 hb')⟩)
             (λw' cs fr hl ex=>by
              rw[if_pos rfl,show tH own j j=true by simp[tH,cnd],take_set (by omega)]
              have emp:∃d0,Rd h sh (cs.set off nH) d0/\mG sh off eq d0 x0 dd:=by
               unfold AB at ex;cases hh:nT j hs with
               | false=>
                 rw[hh]at ex;cases hoo:own j with
                 | false=>
                   rw[hoo]at ex;obtain⟨d0,hd0⟩:=hdd.ex [];exact⟨d0,hd0.rd ex.1 (qH.nil _ _),hd0.turn hdd⟩
                 | true=>
                   rw[hoo]at ex;obtain⟨d0,z,r0,p0,_,_⟩:=ex;exact⟨d0,r0,p0.trans hdd⟩
               | true=>
                 rw[hh]at ex;obtain⟨_,d0,z,r0,p0,_⟩:=ex;exact⟨d0,r0,p0.trans hdd⟩
              obtain⟨d0,r0,p0⟩:=emp;refine⟨d0,x0,by rw[List.set_set];exact r0,p0,by rw[pq (by omega)],lq.move (FH.le.refl h) λb hb'=>fr b λhh=>gne b hb' g (aV.2 (.inl hgb)) hh.symm⟩)
            have r1:=fC (o:=j * sz+off) (v:=a.eval x) ti e1 (by rw[hone.1,a2];rfl) (by rw[hz,a2];omega) (by rw[hone.1];intro u hu;simp at hu;subst hu;exact hone)
            rw[hone.1,a2,hz]at r1;rw[hz]at ep;have ok1:=aj.ok.forget uf;have hT1:((eff s.gl s.T).set q .gone)[r]?=some (.deep tt sh l tq eq off own hs):=by rw[lW hqr];exact fP
            have ok2:=ok1.PU (f:=uM r) (r':=.deep tt sh (l.set j dd) tq eq off (tH own j) []) (v:=.deep vv λi'=>if i'=j then a.eval x else us i') (row:=some g) (X:=λb=>aA (a.eval x)=some b) hT1 rfl hb (ji w g _) (λk e=>by cases e;exact .inl hgb)
             (λb hb'=>by
              obtain⟨o1,o2,o3⟩:=aj.ok.own q _ _ b uf rfl hbq (aZ.2 hb');refine⟨o1,o2,o3,λj' rj vj hj' ej lj jA hbj=>?_⟩
              have hjq:j'≠q:=by
               rintro rfl;rw[pq (A8.1 uf).1]at ej;cases ej;cases lj
              rw[lW (Ne.symm hjq)]at ej;exact hjq (aj.ok.inj j' q _ _ _ _ b ej lj uf rfl jA hbq hbj (aZ.2 hb')))
             (λb hb'=>by
              rw[aV]at hb';rcases hb' with hb' | ⟨i',hb'⟩
              .exact .inl (aV.2 (.inl hb'))
              .by_cases hi':i'=j
               .rw[if_pos hi']at hb';exact .inr (.inl hb')
               .rw[if_neg hi']at hb';exact .inl (aV.2 (.inr ⟨i',hb'⟩)))
             (λx y c=>dX.js hb (.inl rfl) c) f2
            refine mX aj k rfl (by rw[ho];rfl) (.inr ⟨exec rfl ep r1,rfl⟩) (FH.le.refl h) ((aj.map (f:=uM r) (T':=dF (mT (uM r) (dF s.T q ([],.gone))) r ([],.deep tt sh (l.set j dd) tq eq off (tH own j) [])) (β':=β.set r (.deep vv λi'=>if i'=j then a.eval x else us i')) (FH.le.refl h) (λ_=>rfl) (λx y c=>dX.js hb (.inl rfl) c) ?_ ?_).put (dU hd) rfl (λ_=>rfl) λhh=>by cases hh)
            .rw[fV,EL,fV];exact ok2
            .intro p' hp';rw[gI]at hp';rcases Jg hp' with hp' | hp'
             .obtain⟨p2,h1,h2⟩:=EM hp';rw[<-h2];exact qw aj p2 h1
             .subst hp';rfl
           .cases k
          .cases k
         .cases k
        .cases k
       .cases k
   .cases hq
  .cases hq
 .rename_i r j k0 sz off hp;obtain⟨⟨vv,us,g,hb,hgb,ep⟩,_⟩:=aK aj hg tr hp;split at hq
  .rename_i tt sh l t2 e so own hs hT;have fP:=bG hT tr;have D:eF h w tt sh l t2 e so own hs vv us:=aj.ok.holds r _ _ fP hb;split at hq
   .rename_i v hv;have cv:=aK aj hg tr hv;cases hq;split at k
    .cases k
    rename_i hz;have hz:sz=e.size:=iC hz;obtain⟨⟨o1,o2,o3⟩,k⟩:=k;have hdj:=kQ o3;have k:=k _ hdj;split at k
    .rename_i xs hxs;obtain⟨hk,k⟩:=k;have k:=k _ (kQ hk);split at k
     .rename_i y' hy';split at k
      .rename_i dd hdd;have lq:=D.get hdj o1 o2 hxs;obtain⟨cur,he,f1,f2,f3,f4⟩:=lq.write hgb (kQ hk) (λhr=>nV e hy' hr cv)
       have r1:=fC (o:=k0 * sz+off) (v:=a.eval x) ti he f2 (by rw[hz];omega) f3
       rw[hz]at ep r1;have D':=D.inner (w':=w.setRow g (cur.toList.take (k0 * e.size+off)++(a.eval x).cells.toList++cur.toList.drop (k0 * e.size+off+i.size)).toArray) hdj o1 o2 (λb hb' _=>setRow_other w g b _ λhh=>hb' (by rw[hh];exact hgb)) (λb hb'=>by
        rw[hgb]at hb';cases hb';exact⟨_,setRow_heap w g _ _ t2 (0,0) he,rfl⟩) hdd f4
       have ok:OK B h0 (eff s.gl (dF s.T r ([],.deep tt sh (l.set j dd) t2 e so own hs))) h β (w.setRow g (cur.toList.take (k0 * e.size+off)++(a.eval x).cells.toList++cur.toList.drop (k0 * e.size+off+i.size)).toArray):=by
        rw[xH];have:=aj.ok.upd (r':=.deep tt sh (l.set j dd) t2 e so own hs) (v:=.deep vv us) fP rfl hb (row:=some g) (ji w g _) (λk e=>by cases e;exact aV.2 (.inr ⟨j,hgb⟩)) (λb hb=>.inl hb) (.inl rfl) (by rw[ig hb];exact D')
        rwa [ig hb]at this
       exact mX aj k rfl (by rw[ho];rfl) (.inr ⟨exec rfl ep r1,rfl⟩) (FH.le.refl h) ((aj.mem ok (FH.le.refl h) (Ext.refl β) (qw aj)).put (dU hd) rfl (λ_=>rfl) λhh=>by cases hh)
      .cases k
     .cases k
    .cases k
   .cases hq
  .cases hq
 .cases hq
abbrev Sl(s:St) (x:Operand) (K:St->Prop):Option Prop:=match x with
 | .tmp t=>match iG s.env t with
   | some ([],.one (.c (.sub r j)))=>match eX s.T r with
     | some ([],.deep tt sh l t2 e so own [])=>some ((own j=true/\j < l.length)/\∀d:sh.den,l[j]?=some d->match GX sh d so e with
       | some x=>K { s with T:=snoc (dF (mT (uM r) s.T) r ([],.deep tt sh l t2 e so own [j])) ([],.row t2 e x),env:=(t,[],.one (.c (.row (aN s.T)))) :: yU (uM r) s.env,gs:=rmG s.gs t }
       | none=>False)
     | _=>none
   | _=>none
 | _=>none
theorem adV(aj:Sat N B h0 s h β w a){x:Operand}{q:Prop} (hq:Sl s x K=some q) (k:q):∃s' β',K s'/\Sat N B h0 s' h β' w a/\s'.gl=s.gl:=by
 have tr:gv s.gl []=true:=rfl;unfold Sl at hq;split at hq
 .rename_i t;split at hq
  .rename_i r j hlk;split at hq
   .rename_i tt sh l t2 e so own hT;cases hq;have fP:=bG hT tr;obtain⟨⟨o1,o2⟩,k⟩:=k;have hdj:=kQ o2;have k:=k _ hdj;split at k
    .rename_i xs hxs;obtain⟨z,z1,z2,_⟩:=aj.env t [] _ hlk;obtain⟨⟨vv,us,hb,hus⟩,hone⟩:dD h β (.c (.sub r j)) z:=z2 rfl;have D:eF h w tt sh l t2 e so own [] vv us:=aj.ok.holds r _ _ fP hb;have lq:=D.get hdj o1 rfl hxs;have ok2:=aj.ok.PU (f:=uM r) (r':=.deep tt sh l t2 e so own [j]) (v:=.deep vv (qW us j)) (row:=none) (X:=λ_=>False) fP rfl hb (dh w none) (λk e=>by cases e) (λb hb=>hb.elim)
      (λb hb'=>by
       rw[aV]at hb';rcases hb' with hb' | ⟨i',hb'⟩
       .exact .inl (aV.2 (.inl hb'))
       .unfold qW at hb';split at hb'
        .cases hb'
        .exact .inl (aV.2 (.inr ⟨i',hb'⟩)))
      (λx y c=>dX.js hb (.inl rfl) c) (D.open hdj o1)
     have ok3:=ok2.apF (r:=.row t2 e xs) (v:=.row z) (λb hb'=>by
      rw[aZ]at hb';rw[<-hus]at hb';have hu:(RV.deep vv us).has b:=aV.2 (.inr ⟨j,hb'⟩);obtain⟨p1,p2,p3⟩:=aj.ok.own r _ _ b fP rfl hb hu;refine⟨p1,p2,p3,λj' rj vj ej lj jA hbj=>?_⟩
      by_cases hj':j'=r
      .subst hj';rw[pq (by have:=(A8.1 hb).1;exact this)]at jA
       cases jA;rw[aV]at hbj;rcases hbj with hbj | ⟨i',hbj⟩
       .obtain⟨g,cap,cur,e0,_,_,e3,_,e5,_⟩:=D.third o2;rw[e0,aW (n:=l.length) e3.1]at hbj;cases hbj;exact e5 j hb'
       .unfold qW at hbj;split at hbj
        .cases hbj
        .rename_i hi';exact hi' (D.1 i' j b hbj hb')
      .rw[lW (Ne.symm hj')]at jA;rw[lW (Ne.symm hj'),wJ]at ej;cases hh:(eff s.gl s.T)[j']? with
       | none=>rw[hh]at ej;cases ej
       | some r0=>
         rw[hh]at ej;cases ej;exact hj' (aj.ok.inj j' r _ _ _ _ b hh (by rw[<-pX (uM r)];exact lj) fP rfl jA hb hbj hu)) (by rw[<-hus];exact lq)
     have hlen:aN s.T=(β.set r (.deep vv (qW us j))).length:=by rw[wK,aj.ok.len,jh,bF]
     refine⟨_,(β.set r (.deep vv (qW us j)))++[.row z],k,?_,rfl⟩;have hC:∀x y,dX h β x y->dX h ((β.set r (.deep vv (qW us j)))++[.row z]) (uM r x) y:=λx y c=>(dX.js hb (.inl rfl) c).mono (FH.le.refl h) (Ext.append _ _)
     have sm:=aj.map (f:=uM r) (T':=snoc (dF (mT (uM r) s.T) r ([],.deep tt sh l t2 e so own [j])) ([],.row t2 e xs)) (h':=h) (β':=(β.set r (.deep vv (qW us j)))++[.row z]) (w':=w) (FH.le.refl h) (λ_=>rfl) hC (by
      rw[iU,fV,EL];exact ok3) (λp hp=>by
      rw[iM,CX]at hp;rcases hp with hp | hp
      .rw[gI]at hp;rcases Jg hp with hp | hp
       .obtain⟨p2,h1,h2⟩:=EM hp;rw[<-h2];exact aj.gT p2 h1
       .subst hp;rfl
      .simp at hp;subst hp;rfl)
     refine⟨sm.ok,?_,?_,sm.defers,sm.sz,?_,sm.gT⟩
     .intro t' G e' ht;rw[aX]at ht;split at ht
      .rename_i hkt;subst hkt;cases ht;refine⟨z,z1,λ_=>⟨⟨.row z,?_,rfl⟩,hone⟩,λhh=>by cases hh⟩
       rw[hlen];simp
      .exact sm.env t' G e' ht
     .intro d i hi;obtain⟨hne,hi⟩:=AO _ _ _ _ hi;obtain⟨G,b,q1,q2⟩:=sm.gs d i hi;exact⟨G,b,by rw[aX,if_neg (Ne.symm hne)];exact q1,q2⟩
     .intro t' G e' ht;rw[aX]at ht;split at ht
      .cases ht;rfl
      .exact sm.gb _ _ _ ht
    .cases k
   .cases hq
  .cases hq
 .cases hq
abbrev Yc(s:St) (i j:Nat):List SV->(List SV->Prop)->Prop
 | [],K=>K []
 | .c (.sub i' k) :: l,K=>match Nat.beq i i' with
   | true=>k≠j/\Vd s [] i' k λe x=>Yc s i j l λr=>K (.c (.sl e x) :: r)
   | false=>False
 | v :: l,K=>match noRow v with
   | true=>match adM s [] v with
     | some v'=>Yc s i j l λr=>K (v' :: r)
     | none=>False
   | false=>False
abbrev ai0(cx:Cx) (ip:IP) (s:St) (d:Option Nat) (args:List Operand) (K:St->Prop):Prop:=match args with
 | []=>False
 | x :: r=>match bT cx s [] x with
   | some (.one (.c (.sub i j)))=>match eX s.T i with
     | some ([],.deep tt sh l t2 e so own hs)=>match dG (rU e ip.sh) (dG (iW ip.sh) (!ip.back)) with
       | false=>False
       | true=>match uK cx s [] r with
         | none=>False
         | some vs=>(own j=true/\nT j hs=false/\j < l.length)/\∀d0:sh.den,l[j]?=some d0->match GX sh d0 so ip.sh with
           | none=>False
           | some xs=>Yc s i j vs λbs=>match yM ip.ps bs with
             | none=>False
             | some dd=>ip.pre xs dd/\match GY sh d0 so ip.sh (ip.res xs dd) with
               | some d1=>K ({ s with T:=dF s.T i ([],.deep tt sh (l.set j d1) t2 e so own hs) }.put d [] (.iJ []))
               | none=>False
     | _=>False
   | _=>False
open Classical in
noncomputable def FH.but (w:World) (u:Value):FH:=λb o=>if aA u=some b then none else vis w b o
theorem ai1(aj:Sat N B h0 s h β w a){vv:Value}{us:Nat->Value} (hT:(eff s.gl s.T)[i]?=some r) (hl:r.live=true) (hb:β[i]?=some (.deep vv us)):h.le (FH.but w (us j)):=by
 intro b o v hv;unfold FH.but;rw[if_neg]
 .exact aj.ok.hw b o v hv
 .intro hh;rw[(aj.ok.own i r _ b hT hl hb (aV.2 (.inr ⟨j,hh⟩))).2.2 o]at hv;cases hv
theorem JL(aj:Sat N B h0 s h β w a){i j:Nat}{vv:Value}{us:Nat->Value} (hb:β[i]?=some (.deep vv us)) (inj:∀j k b,aA (us j)=some b->aA (us k)=some b->j=k) (le:h.le (FH.but w (us j))):
 ∀{vs:List SV}{ys:List Value}{K:List SV->Prop},aO (dD h β) vs ys->Yc s i j vs K->∃bs,K bs/\aO (dD (FH.but w (us j)) []) bs ys
 | [],[],K,_,k=>⟨[],k,trivial⟩
 | x :: l,y :: ys,K,⟨c,r⟩,k=>by
   have tr:gv s.gl []=true:=rfl;unfold Yc at k;split at k
   .rename_i he;cases he
   .rename_i i' k' l' K' he;cases he;split at k
    .rename_i hi;have hi:=iC hi;subst hi;obtain⟨hk,k⟩:=k;obtain⟨e,xs,k1,k2⟩:=Dc aj k;obtain⟨bs,k3,c3⟩:=JL aj hb inj le r k1;obtain⟨⟨vv2,uq,hb2,rfl⟩,hone⟩:=c;rw[hb]at hb2;cases hb2;obtain⟨tt,lq⟩:=k2 tr vv us hb;refine⟨_,k3,⟨?_,hone⟩,c3⟩;refine lq.sl le λb hb3 o z hz=>?_
     unfold FH.but;rw[if_neg]
     .exact hz
     .exact λhh=>hk (inj _ _ b hb3 hh)
    .cases k
   .rename_i v' l' K' hne he;cases he;split at k
    .rename_i hnr;split at k
     .rename_i v1 hv1;obtain⟨bs,k3,c3⟩:=JL aj hb inj le r k;exact⟨_,k3,(((RN aj tr hv1 c).2 hnr).mono le (Ext.refl [])),c3⟩
     .cases k
    .cases k
theorem Yd{f:FuncId}{ip:IP} (RQ:Vr P cx.gd f ip) (hf:∃fn,P.funcs[f]?=some fn/\fn.body.isSome=true/\(fn.name == "runtime.NumGoroutine")=false)
 (aj:Sat N B h0 s h β w a) (hg:aI cx.gd h) (hd:lV N o.dst=true) (ho:o.op=.call c) (cZ:c.callee=.value (.func f))
 (k:ai0 cx ip s o.dst (tl c.args) K):BU P N B h0 h w a o true K:=by
 have tr:gv s.gl []=true:=rfl;unfold ai0 at k;split at k
 .cases k
 rename_i x r hargs0;split at k
 .rename_i i j hx;split at k
  .rename_i tt sh l t2 e so own hs hT;split at k
   .cases k
   rename_i hck;rw[aB,aB,bY,bY]at hck;have he:e=ip.sh:=pK hck.1;subst he;have hfl:=hck.2.1;have hbk:ip.back=false:=by simpa using hck.2.2
   split at k
   .cases k
   rename_i vs hvs;obtain⟨⟨o1,o2,o3⟩,k⟩:=k;have hdj:=kQ o3;have k:=k _ hdj;split at k
   .cases k
   rename_i xs hxs;have fP:=bG hT tr;obtain⟨⟨vv,us,hb,hus⟩,_⟩:dD h β (.c (.sub i j)) (a.eval x):=aK aj hg tr hx;have D:eF h w tt sh l t2 ip.sh so own hs vv us:=aj.ok.holds i _ _ fP hb;have lq:=D.get hdj o1 o2 hxs;have le:h.le (FH.but w (us j)):=ai1 aj fP rfl hb;have hav:=qV aj hg tr hvs;obtain⟨bs,k,cb⟩:=JL aj hb D.1 le hav k;split at k
   .cases k
   rename_i dd hdd;obtain⟨aG,k⟩:=k;split at k
   .rename_i d1 hd1;intro Nx Q next
    rw[if_pos rfl];obtain⟨fn,hfn,hbody,hname⟩:=hf;have exec:(execOp a.eval o).run P w=.ok (.enter f (c.args.map a.eval)) w:=by
     simp only[execOp,ho,resolve,cZ,Act.eval,Deferred.ofValue,invoke,Sem.run_bind,Sem.run_pure,Result.andThen_ok,callFunc,run_program,hfn,hname];simp[hbody];cases hb:fn.body with
     | none=>rw[hb]at hbody;cases hbody
     | some _=>simp
    have hargs:(c.args.map a.eval)=(a.eval x :: r.map a.eval).toArray:=by
     have:c.args=(x :: r).toArray:=by
      cases hc:c.args with
      | mk q=>rw[hc]at hargs0;simp only[tl]at hargs0;rw[hargs0]
     rw[this];simp
    unfold Oper.wp;rw[exec];simp only[Oper.upon];rw[hargs];refine(RQ t2 xs dd (a.eval x) _ (FH.but w (us j)) w (λb o u hu=>?_) (hg.mono le) (show Holds (FH.but w (us j)) [] w (.row t2 ip.sh xs) (.row (a.eval x)) by rw[<-hus];exact lq.move le λ_ _=>rfl) (λb hb' o=>?_) (yN hdd cb) aG).mono ?_
    .unfold FH.but at hu;split at hu
     .cases hu
     .exact hu
    .unfold FH.but;rw[hus,if_pos hb']
    rintro en w' ⟨v',y,rfl,hgr,hv,hold',_,hb2⟩;obtain⟨rfl,rfl⟩:=hb2 hbk;have hrow':mF h w' t2 ip.sh (ip.res xs dd) (us j):=by
     have:=Holds.flat (h':=h) (show vN (.row t2 ip.sh (ip.res xs dd))=true from hfl) hold'
     rw[hus];exact this
    have D':eF h w' tt sh (l.set j d1) t2 ip.sh so own hs vv us:=D.inner hdj o1 o2 (λb hb' hx'=>by
     obtain⟨o',ho'⟩:=hx';exact hgr.block b (DZ.1 ho').1 (λhh=>hb' (by rw[hus];exact hh.symm))) (λb hb'=>by
     exact Holds.cells (h:=h) (β:=[]) (r:=.row t2 ip.sh (ip.res xs dd)) (v:=.row (us j)) hrow' rfl (aZ.2 hb')) hd1 hrow'
    have ok:OK B h0 (eff s.gl (dF s.T i ([],.deep tt sh (l.set j d1) t2 ip.sh so own hs))) h β w':=by
     rw[xH];have:=aj.ok.upd (r':=.deep tt sh (l.set j d1) t2 ip.sh so own hs) (v:=.deep vv us) fP rfl hb hgr (λk e=>aV.2 (.inr ⟨j,by rw[hus];exact e⟩)) (λb hb=>.inl hb) (.inl rfl) (by rw[ig hb];exact D')
     rwa [ig hb]at this
    exact next _ _ _ _ _ k (FH.le.refl h) ((aj.mem ok (FH.le.refl h) (Ext.refl β) (qw aj)).put (dU hd) rfl (λ_=>⟨[],rfl,trivial⟩) λhh=>by cases hh)
   .cases k
  .cases k
 .cases k
theorem dX.us{us:Nat->Value} (hu:β[i]?=some (.deep v us)){x:SC} (c:dX h β x y):dX h (β.set i (.row v)) (uM i x) y:=by
 unfold uM;split
 .rename_i hf;cases x with
  | v _=>exact c
  | sl _ _=>exact c
  | fp _ _=>exact c
  | one _ _=>exact c
  | abs _=>exact c
  | junk=>trivial
  | own j off=>
    obtain⟨b,e,e'⟩:=c;refine⟨b,?_,e'⟩;rw[dL hu,if_neg]
    .exact e
    .rintro rfl;rw[hu]at e;cases e
  | row j=>
    obtain⟨z,e,e'⟩:=c
    by_cases hj:j=i
    .subst hj;rw[hu]at e;cases e;exact⟨.row v,by rw[dL hu,if_pos rfl],e'⟩
    .exact⟨z,by rw[dL hu,if_neg hj];exact e,e'⟩
  | jU j k sz off=>
    obtain⟨z,g,e,e',e2⟩:=c
    by_cases hj:j=i
    .subst hj;rw[hu]at e;cases e;exact⟨.row v,g,by rw[dL hu,if_pos rfl],e',e2⟩
    .exact⟨z,g,by rw[dL hu,if_neg hj];exact e,e',e2⟩
  | sub j k=>
    obtain⟨z,uq,e,e'⟩:=c;exact⟨z,uq,by rw[dL hu,if_neg (PS hf)];exact e,e'⟩
  | lX j k m sz off=>
    obtain⟨z,uq,g,e,e'⟩:=c;exact⟨z,uq,g,by rw[dL hu,if_neg (PS hf)];exact e,e'⟩
 .trivial
theorem eF.row{h':FH}{s:Sh}{l:List s.den}{own:Nat->Bool}{us:Nat->Value} (x:eF h w t s l tt e so own [] v us) (le:h.le h')
 (hb:∀b,(∃j,aA (us j)=some b)->∀o z,vis w b o=some z->h' b o=some z):mF h' w t s l v/\∀g,aA v=some g->∀j,aA (us j)≠some g:=by
 obtain⟨_,_,x⟩:=x;rcases x with⟨e1,e2⟩ | ⟨ra,e1,e2⟩ | ⟨g,cap,cur,e1,q1,q2,q3,q4,q5,q6⟩
 .exact⟨.inl ⟨e1,e2⟩,λg hg=>by subst e1;simp[aA]at hg⟩
 .exact⟨.inr (.inl ⟨ra,e1,e2⟩),λg hg=>by subst e1;simp[aA]at hg⟩
 .have lc:cur.toList.length=cap * s.size:=by simpa using q4
  have hm:l.length * s.size<=cap * s.size:=yh _ q2;refine⟨.inr (.inr ⟨g,cap,cur,e1,q1,q2,q3,q4,?_⟩),λg' hg'=>?_⟩
  .refine gG.Pq (k:=s.size) (by rw[lu];omega) λj d hd=>?_
   have hj:=(A8.1 hd).1;have hm:(j+1) * s.size<=l.length * s.size:=yh _ hj;rw[xw]at hm;have e5:List.take s.size (List.drop (j * s.size) (List.take (l.length * s.size) cur.toList))=List.take s.size (List.drop (j * s.size) cur.toList):=by
    apply Jh;intro p;simp only[vk,Ll];split
    .rw[if_pos (by omega)]
    .rfl
   rw[e5];exact(q6 j d hd).rd le λb hu=>hb b ⟨j,hu⟩
  .rw[e1,aW q3.1]at hg';cases hg';exact q5
theorem OK.ai2(ok:OK B h0 T h β w){s:Sh}{l:List s.den}{own:Nat->Bool}{us:Nat->Value}
 (hT:T[i]?=some (.deep t s l tt e so own [])) (hu:β[i]?=some (.deep v us)):
 h.le (h.mD w λb=>∃j,aA (us j)=some b)/\OK B h0 ((T.map (mR (uM i))).set i (.row t s l)) (h.mD w λb=>∃j,aA (us j)=some b) (β.set i (.row v)) w:=by
 have hi:i < T.length:=(A8.1 hT).1;have hi':i < β.length:=by rw[ok.len];exact hi
 have hl:(ak.deep t s l tt e so own []).live=true:=rfl;have own':=λg hv=>ok.own i _ _ g hT hl hu hv
 have sub:∀{b:Nat},(∃j,aA (us j)=some b)->(RV.deep v us).has b:=λhb=>aV.2 (.inr hb)
 have le:h.le (h.mD w λb=>∃j,aA (us j)=some b):=by
  intro b o x hb;unfold FH.mD
  by_cases hbg:∃j,aA (us j)=some b
  .rw[(own' b (sub hbg)).2.2 o]at hb;cases hb
  .rw[if_neg hbg];exact hb
 have hold:eF h w t s l tt e so own [] v us:=ok.holds i _ _ hT hu;obtain⟨rh,rn⟩:=hold.row le λb hb o z hz=>by
  unfold FH.mD;rw[if_pos hb];exact hz
 have get:∀{j:Nat}{rj:ak},j≠i->((T.map (mR (uM i))).set i (.row t s l))[j]?=some rj->∃r0,T[j]?=some r0/\rj=mR (uM i) r0:=by
  intro j rj hj e;rw[lW (Ne.symm hj),wJ]at e;cases hh:T[j]? with
  | none=>rw[hh]at e;cases e
  | some r0=>rw[hh]at e;cases e;exact⟨r0,rfl,rfl⟩
 have ank:∀{b:Nat},(RV.row v).has b->(RV.deep v us).has b:=λhb=>aV.2 (.inl (aZ.1 hb))
 refine⟨le,{
  below:=ok.below
  dr:=ok.dr
  len:=by simp[ok.len]
  holds:=?_
  own:=?_
  inj:=?_
  hle:=ok.hle.trans le
  hw:=?_
  hg:=?_
  kn:=ok.kn }⟩
 .intro j rj vj ej jA
  by_cases hj:j=i
  .subst hj;rw[pq (by simpa using hi)]at ej
   rw[pq hi']at jA;cases ej;cases jA;exact rh
  .obtain⟨r0,e0,rfl⟩:=get hj ej;rw[lW (Ne.symm hj)]at jA;exact(ok.holds j r0 vj e0 jA).map le (λx y c=>(dX.us hu c).mono le (Ext.refl _)) λ_ _ _=>rfl
 .intro j rj vj b ej hlj jA hb
  by_cases hj:j=i
  .subst hj;rw[pq hi']at jA;cases jA;obtain⟨a1,a2,a3⟩:=own' b (ank hb);refine⟨a1,a2,λo=>?_⟩
   unfold FH.mD;rw[if_neg,a3 o];rintro⟨j',hj'⟩;exact rn b (aZ.1 hb) j' hj'
  .obtain⟨r0,e0,rfl⟩:=get hj ej;rw[lW (Ne.symm hj)]at jA;have anl:r0.live=true:=by rw[<-pX (uM i)];exact hlj
   obtain⟨a1,a2,a3⟩:=ok.own j r0 vj b e0 anl jA hb;refine⟨a1,a2,λo=>?_⟩
   unfold FH.mD;rw[if_neg,a3 o];exact λhg=>hj (ok.inj j i _ _ _ _ _ e0 anl hT hl jA hu hb (sub hg))
 .intro j k r1 r2 u1 u2 b e1 l1 e2 l2 e3 e4 b1 b2;have look:∀{m:Nat}{rm:ak}{um:RV},((T.map (mR (uM i))).set i (.row t s l))[m]?=some rm->rm.live=true->(β.set i (.row v))[m]?=some um->um.has b->∃r0 u0,T[m]?=some r0/\r0.live=true/\β[m]?=some u0/\u0.has b:=by
   intro m rm um e l e' hb
   by_cases hm:m=i
   .subst hm;rw[pq hi']at e';cases e';exact⟨_,_,hT,hl,hu,ank hb⟩
   .obtain⟨r0,e0,rfl⟩:=get hm e;rw[lW (Ne.symm hm)]at e';exact⟨r0,um,e0,by rw[<-pX (uM i)];exact l,e',hb⟩
  obtain⟨p1,p2,p3,p4,p5,p6⟩:=look e1 l1 e3 b1;obtain⟨q1,q2,q3,q4,q5,q6⟩:=look e2 l2 e4 b2;exact ok.inj j k p1 q1 p2 q2 b p3 p4 q3 q4 p5 q5 p6 q6
 .intro b o x hb;unfold FH.mD at hb;split at hb
  .exact hb
  .exact ok.hw b o x hb
 .intro b o x hb;unfold FH.mD at hb;split at hb
  .rename_i hbg;exact .inr (own' b (sub hbg)).1
  .exact ok.hg b o x hb
abbrev Jt(s:St) (i:Nat):St:=match eX s.T i with
 | some ([],.deep t sh l _ _ _ _ [])=>{ s with T:=dF (mT (uM i) s.T) i ([],.row t sh l),env:=yU (uM i) s.env }
 | _=>s
theorem Sat.Jt(aj:Sat N B h0 s h β w a) (i:Nat):∃h' β',h.le h'/\Sat N B h0 (Jt s i) h' β' w a:=by
 unfold Go.l9.Jt;split
 .rename_i t sh l t2 e so own hT;have fP:(eff s.gl s.T)[i]?=some (.deep t sh l t2 e so own []):=by rw[jD,<-fJ,hT];rfl
  have gX:i < β.length:=by rw[aj.ok.len];exact(A8.1 fP).1
  have hu:=kQ gX;have hold:=aj.ok.holds i _ _ fP hu;cases hb:β[i]with
  | blk b=>rw[hb]at hold;cases hold
  | no=>rw[hb]at hold;cases hold
  | row _=>rw[hb]at hold;cases hold
  | deep v us=>
    rw[hb]at hu;obtain⟨le,ok'⟩:=aj.ok.ai2 fP hu;refine⟨_,_,le,aj.map (f:=uM i) le (λ_=>rfl) (λx y c=>(dX.us hu c).mono le (Ext.refl _)) ?_ ?_⟩
    .rw[fV,EL];exact ok'
    .intro p hp;rw[gI]at hp;rcases Jg hp with hp | hp
     .obtain⟨q,h1,h2⟩:=EM hp;rw[<-h2];exact aj.gT q h1
     .subst hp;rfl
 .exact⟨h,β,FH.le.refl h,aj⟩
abbrev adW(s:St) (i:Nat):St:=match Nat.ble 1000 i with
 | true=>Jt s (i - 1000)
 | false=>MF s i
abbrev MJ(s:St):List Nat->St
 | []=>s
 | i :: r=>MJ (adW s i) r
theorem Sat.MJ:∀{l:List Nat}{s:St}{h:FH}{β:List RV},Sat N B h0 s h β w a->∃h' β',h.le h'/\Sat N B h0 (MJ s l) h' β' w a
 | [],s,h,β,aj=>⟨h,β,FH.le.refl h,aj⟩
 | i :: r,s,h,β,aj=>by
   have h1:∃h' β',h.le h'/\Sat N B h0 (adW s i) h' β' w a:=by
    unfold adW;split
    .exact aj.Jt _
    .obtain⟨h',le,aT⟩:=aj.aiY i;exact⟨h',β,le,aT⟩
   obtain⟨h1,β1,le1,jr⟩:=h1;obtain⟨h2,β2,iD,bH⟩:=Sat.MJ (l:=r) jr;exact⟨h2,β2,le1.trans iD,bH⟩
abbrev vU(s:St):List (Nat×TypeId×Sh×Nat)->St
 | []=>s
 | (i,tt,e,so) :: l=>vU (MI s i tt e so) l
theorem Sat.vU:∀(l:List (Nat×TypeId×Sh×Nat)){s:St}{β:List RV},Sat N B h0 s h β w a->∃β',Sat N B h0 (vU s l) h β' w a
 | [],s,β,aj=>⟨β,aj⟩
 | (i,tt,e,so) :: l,s,β,aj=>by
   obtain⟨β1,jr⟩:=aj.MI i tt e so;exact Sat.vU l jr
theorem OK.PV(ok:OK B h0 T h β w){r':ak} (hT:T[i]?=some r) (hl:r.live=true) (hold:∀v,Holds h β w r v->Holds h β w r' v):OK B h0 (T.set i r') h β w:=by
 have hi:i < T.length:=(A8.1 hT).1;have key:∀{m:Nat}{rm:ak},(T.set i r')[m]?=some rm->rm.live=true->∃rm',T[m]?=some rm'/\rm'.live=true:=by
  intro m rm e l
  by_cases hm:m=i
  .subst hm;exact⟨r,hT,hl⟩
  .rw[lW (Ne.symm hm)]at e;exact⟨rm,e,l⟩
 exact {
  below:=ok.below
  dr:=ok.dr
  len:=by simp[ok.len]
  holds:=by
   intro j rj vj ej jA
   by_cases hj:j=i
   .subst hj;rw[pq hi]at ej;cases ej;exact hold vj (ok.holds j r vj hT jA)
   .rw[lW (Ne.symm hj)]at ej;exact ok.holds j rj vj ej jA
  own:=by
   intro j rj vj b ej l jA hb;obtain⟨rm,e1,e2⟩:=key ej l;exact ok.own j rm vj b e1 e2 jA hb
  inj:=by
   intro j k r1 r2 u v b e1 l1 e2 l2 e3 e4 b1 b2;obtain⟨q1,f1,f2⟩:=key e1 l1;obtain⟨q2,g1,g2⟩:=key e2 l2;exact ok.inj j k q1 q2 u v b f1 f2 g1 g2 e3 e4 b1 b2
  hle:=ok.hle
  hw:=ok.hw
  hg:=ok.hg
  kn:=ok.kn }
abbrev ML(s:St) (i c:Nat) (t:TypeId) (sh:Sh):St:=match eX s.T i with
 | some ([],.blk t' cs)=>match eX cs c with
   | some (.v (.slice none 0 0))=>{ s with T:=snoc (dF s.T i ([],.blk t' (dF cs c (.row (aN s.T))))) ([],.row t sh []) }
   | _=>s
 | _=>s
theorem aO.dF{α β:Type}{R:α->β->Prop}{y:α}{z:β} (hR:R y z):∀{l:List α}{m:List β}{c:Nat},m[c]?=some z->aO R l m->aO R (l9.dF l c y) m
 | [],[],_,h,_=>by simp at h
 | _ :: _,_ :: _,0,h,⟨_,b⟩=>by simp at h;subst h;exact⟨hR,b⟩
 | _ :: _,_ :: _,c+1,h,⟨a,b⟩=>⟨a,aO.dF hR (by simpa using h) b⟩
theorem Sat.ML(aj:Sat N B h0 s h β w a) (i c:Nat) (t:TypeId) (sh:Sh):∃β',Sat N B h0 (ML s i c t sh) h β' w a:=by
 unfold l9.ML;split
 .rename_i t' cs hT;split
  .rename_i hc;have fP:=bG hT (show gv s.gl []=true from rfl)
   have ok1:OK B h0 (eff s.gl s.T++[.row t sh []]) h (β++[.row (.slice none 0 0)]) w:=aj.ok.add (r:=.row t sh []) (v:=.row (.slice none 0 0)) (dh w none) (λb hb=>by rw[aZ]at hb;simp[aA]at hb) (.inl ⟨rfl,rfl⟩)
   have hi:=(A8.1 fP).1;have hlen:aN s.T=β.length:=by rw[aj.ok.len,jh,bF]
   have hT1:(eff s.gl s.T++[.row t sh []])[i]?=some (.blk t' cs):=by rw[WI hi];exact fP
   have ok2:=ok1.PV (r':=.blk t' (l9.dF cs c (.row (aN s.T)))) hT1 rfl λv hv=>by
    cases v with
    | blk b=>
      obtain⟨ys,e1,al⟩:=hv;refine⟨ys,e1,?_⟩;obtain⟨y,hy,hcn⟩:=al.get (show cs[c]?=some (.v (.slice none 0 0)) by rw[<-fJ];exact hc)
      obtain rfl:y=.slice none 0 0:=hcn.1.1;refine aO.dF ?_ hy al;refine⟨⟨.row (.slice none 0 0),?_,rfl⟩,rfl,rfl⟩;rw[hlen];simp
    | row _=>exact hv.elim
    | deep _ _=>exact hv.elim
    | no=>exact hv.elim
   refine⟨β++[.row (.slice none 0 0)],aj.mem ?_ (FH.le.refl h) (Ext.append _ _) λp hp=>?_⟩
   .rw[iU,fV];have e:((eff s.gl s.T)++[ak.row t sh []]).set i (.blk t' (l9.dF cs c (.row (aN s.T))))=(eff s.gl s.T).set i (.blk t' (l9.dF cs c (.row (aN s.T))))++[.row t sh []]:=by rw[List.set_append_left _ _ hi]
    rw[e]at ok2;exact ok2
   .rw[iM,CX]at hp;rcases hp with hp | hp
    .rw[gI]at hp;rcases Jg hp with hp | hp
     .exact aj.gT p hp
     .subst hp;rfl
    .simp at hp;subst hp;rfl
  .exact⟨β,aj⟩
 .exact⟨β,aj⟩
abbrev Ii(s:St):List (Nat×Nat×TypeId×Sh)->St
 | []=>s
 | (i,c,t,sh) :: l=>Ii (ML s i c t sh) l
theorem Sat.Ii:∀(l:List (Nat×Nat×TypeId×Sh)){s:St}{β:List RV},Sat N B h0 s h β w a->∃β',Sat N B h0 (Ii s l) h β' w a
 | [],s,β,aj=>⟨β,aj⟩
 | (i,c,t,sh) :: l,s,β,aj=>by
   obtain⟨β1,jr⟩:=aj.ML i c t sh;exact Sat.Ii l jr
theorem Ij{dT sT:TypeId}{i:TI} (k:aJ P el i) (hu:P.underlying dT=some (.slice el)){d b:Option Addr}{dLen dCap sLen sCap:Nat} (hn:Nat.min sLen dLen=0):
 (Builtin.copy_ #[dT,sT] ty #[.slice d dLen dCap,.slice b sLen sCap]).run P w=.ok (goInt 0) w:=by
 have hl:∀(x:Addr),(loadCells x 0).run P w=.ok #[] w:=λx=>by simpa using run_loadCells_list (P:=P) w x [] (by simp)
 cases d<;>cases b<;>simp[Builtin.copy_,run_underlying hu,Builtin.lenOf,Builtin.firstCells,run_sizeOf k,hn,storeCells,hl]
theorem Vz{dT sT:TypeId}{i:TI} (k:aJ P el i) (hu:P.underlying dT=some (.slice el)){dLen dCap:Nat}{b:Addr}{sLen sCap:Nat}{cur:Array Value}
 (hg:w.heap[g]?=some (.cells cur t (0,0))) (hn:cs.length=Nat.min sLen dLen * i.size) (hsrc:∀j v,cs[j]?=some v->w.cell? (b.add j)=some v) (hfit:cs.length<=cur.size) (h1:∀v∈cs,v.oneCell'=true):
 (Builtin.copy_ #[dT,sT] ty #[.slice (some ⟨g,0,none⟩) dLen dCap,.slice (some b) sLen sCap]).run P w=.ok (goInt (Nat.min sLen dLen)) (w.setRow g (cs++cur.toList.drop cs.length).toArray):=by
 have hl:=run_loadCells_list (P:=P) w b cs hsrc;have hst:=run_storeCells_at P g 0 t cs 0 cur w hg (by simpa using hfit) h1
 simp only[U2,D6,UY,UN]at hst;simp[Builtin.copy_,run_underlying hu,Builtin.lenOf,Builtin.firstCells,run_sizeOf k,<-hn,hl,hst]
abbrev Sm(cx:Cx) (s:St) (d:Option Nat) (t:TypeId) (x y:Operand) (K:St->Prop):Prop:=iP cx t λel ie sh=>match bT cx s [] x with
 | some (.one (.c (.row r)))=>match eX s.T r with
   | some ([],.row tt fA l1)=>match jE (.sl fA) l1 (.sl sh) with
     | some l=>match bT cx s [] y with
       | some (.one v)=>match Pn s sh v with
         | some l2=>K ({ s with T:=dF s.T r ([],.row tt sh (l2.take l.length++l.drop l2.length)) }.put d [] (vI .i64 (Nat.min l2.length l.length)))
         | none=>False
       | _=>False
     | none=>False
   | _=>False
 | _=>False
def kC(a b:Int):Int:=if b < a then b else a
abbrev adX(cx:Cx) (s:St) (d:Option Nat) (x y:Operand) (K:St->Prop):Prop:=match bT cx s [] x with
 | some (.one (.c (.v (.int .i64 a))))=>match bT cx s [] y with
   | some (.one (.c (.v (.int .i64 b))))=>K (s.put d [] (vI .i64 (kC a b)))
   | _=>False
 | _=>False
theorem Ye(aj:Sat N B h0 s h β w a) (hg:aI cx.gd h) (hd:lV N o.dst=true){x y:Operand} (ho:o.op=.call c) (cZ:c.callee=.builtin .min) (ha:c.args=#[x,y])
 (k:adX cx s o.dst x y K):gJ P N B h0 h w a o (gv s.gl []) K:=by
 have tr:gv s.gl []=true:=rfl;unfold adX at k;split at k
 .rename_i n hx;have ex:a.eval x=.int .i64 n:=(aK aj hg tr hx:dD h β (.c (.v (.int .i64 n))) (a.eval x)).1.1;split at k
  .rename_i m hy;have ey:a.eval y=.int .i64 m:=(aK aj hg tr hy:dD h β (.c (.v (.int .i64 m))) (a.eval y)).1.1;refine mX aj k rfl (by rw[ho];simp[quietly,cZ]) (.inl ?_) (FH.le.refl h) (aj.put (G:=[]) (e:=vI .i64 (kC n m)) (z:=.int .i64 (kC n m)) (dU hd) rfl (λ_=>⟨⟨rfl,bM _ _⟩,bM _ _⟩) λhh=>by cases hh)
   simp[execOp,ho,resolve,cZ,ha,invoke,builtin,ex,ey,Builtin.min_,Builtin.min2,kC]
  .cases k
 .cases k
theorem VA(aj:Sat N B h0 s h β w a) (hg:aI cx.gd h) (hd:lV N o.dst=true){x y:Operand} (ho:o.op=.call c) (cZ:c.callee=.builtin .max) (ha:c.args=#[x,y])
 (k:Pz cx s o.dst x y K):gJ P N B h0 h w a o (gv s.gl []) K:=by
 have tr:gv s.gl []=true:=rfl;unfold Pz at k;split at k
 .rename_i n hx;have ex:a.eval x=.int .i64 n:=(aK aj hg tr hx:dD h β (.c (.v (.int .i64 n))) (a.eval x)).1.1;split at k
  .rename_i m hy;have ey:a.eval y=.int .i64 m:=(aK aj hg tr hy:dD h β (.c (.v (.int .i64 m))) (a.eval y)).1.1;refine mX aj k rfl (by rw[ho];simp[quietly,cZ]) (.inl ?_) (FH.le.refl h) (aj.put (G:=[]) (e:=vI .i64 (fM n m)) (z:=.int .i64 (fM n m)) (dU hd) rfl (λ_=>⟨⟨rfl,bM _ _⟩,bM _ _⟩) λhh=>by cases hh)
   simp[execOp,ho,resolve,cZ,ha,invoke,builtin,ex,ey,Builtin.max_,Builtin.max2,fM]
  .cases k
 .cases k
theorem VB(hc:bV P cx.ti) (aj:Sat N B h0 s h β w a) (hg:aI cx.gd h) (hd:lV N o.dst=true){t':TypeId}{x y:Operand} (ho:o.op=.call c) (cZ:c.callee=.builtin .copy) (ha:c.args=#[x,y]) (hat:c.argTypes=#[t,t'])
 (k:Sm cx s o.dst t x y K):gJ P N B h0 h w a o (gv s.gl []) K:=by
 have tr:gv s.gl []=true:=rfl;unfold Sm at k;unfold iP at k;split at k
 .rename_i el hde;have hu:=bI hc hde (by simp)
  split at k
  .cases k
  rename_i ie hie;have tie:=hc.get hie;split at k
  .cases k
  rename_i sh hsh;split at k
  .rename_i hz;rw[aB,aB,bY,bY]at hz;have hz1:sh.size=ie.size:=iC hz.1;split at k
   .rename_i r hx;split at k
    .rename_i tt fA l1 hT;split at k
     .rename_i l hl;obtain⟨e1,e2⟩:=oM hl;subst e1;simp only at e2;subst e2;split at k
      .rename_i v hv;split at k
       .rename_i l2 hl2;have Ib:=(aK aj hg tr hx:dD h β (.c (.row r)) (a.eval x));have cv:=aK aj hg tr hv;have fP:=bG hT tr;have hb:=aj.ok.row_of fP Ib.1;have lq:mF h w tt fA l1 (a.eval x):=aj.ok.holds r _ _ fP hb;have src:=Dh aj hl2 cv;have exec:∀{w':World},(Builtin.copy_ #[t,t'] o.type #[a.eval x,a.eval y]).run P w=.ok (goInt (Nat.min l2.length l1.length)) w'->(execOp a.eval o).run P w=.ok (.value (goInt (Nat.min l2.length l1.length))) w':=by
         intro w' r0;simp only[execOp,ho,resolve,cZ,ha,hat,invoke,builtin,Sem.run_bind,Sem.run_pure,Result.andThen_ok];simp[r0]
        have fin:∀{w':World}{row:Option Nat},Gb w w' row->(∀k,row=some k->aA (a.eval x)=some k)->(Builtin.copy_ #[t,t'] o.type #[a.eval x,a.eval y]).run P w=.ok (goInt (Nat.min l2.length l1.length)) w' ->
         mF h w' tt fA (l2.take l1.length++l1.drop l2.length) (a.eval x)->gJ P N B h0 h w a o (gv s.gl []) K:=by
         intro w' row hgr hrw r0 hr;have ok:OK B h0 (eff s.gl (dF s.T r ([],.row tt fA (l2.take l1.length++l1.drop l2.length)))) h β w':=by
          rw[xH];have:=aj.ok.upd (r':=.row tt fA (l2.take l1.length++l1.drop l2.length)) (v:=.row (a.eval x)) fP rfl hb hgr (λk e=>aZ.2 (hrw k e)) (λb hb=>.inl hb) (.inl rfl) hr
          rwa [ig hb]at this
         exact mX aj k rfl (by rw[ho];simp[quietly,cZ]) (.inl (exec r0)) (FH.le.refl h) ((aj.mem ok (FH.le.refl h) (Ext.refl β) (qw aj)).put (G:=[]) (e:=vI .i64 (Nat.min l2.length l1.length)) (dU hd) rfl (λ_=>⟨⟨rfl,bM _ _⟩,bM _ _⟩) λhh=>by cases hh)
        have zero:∀(ad ab:Option Addr) (dC sC:Nat),a.eval x=.slice ad l1.length dC->a.eval y=.slice ab l2.length sC->(l1=[]\/l2=[])->gJ P N B h0 h w a o (gv s.gl []) K:=by
         intro ad ab dC sC ex ey h0';have hm:Nat.min l2.length l1.length=0:=by rcases h0' with rfl | rfl<;>simp
         refine fin (dh w none) (λk e=>by cases e) ?_ ?_
         .rw[hm,ex,ey];exact Ij tie hu hm
         .have:l2.take l1.length++l1.drop l2.length=l1:=by rcases h0' with rfl | rfl<;>simp
          rw[this];exact lq
        rcases lq with⟨e1,e2⟩ | ⟨ra,e1,e2⟩ | ⟨g,cap,cur,e1,q1,q2,q3,q4,q5⟩
        .rcases src with⟨s1,s2⟩ | ⟨sa,sc,s1,s2⟩ | ⟨sb,so,sc,cs,s1,s2,s3⟩
         .exact zero none none 0 0 (by rw[e1,e2];rfl) (by rw[s1,s2];rfl) (.inl e2)
         .exact zero none (some sa) 0 sc (by rw[e1,e2];rfl) (by rw[s1,s2];rfl) (.inl e2)
         .exact zero none _ 0 sc (by rw[e1,e2];rfl) s1 (.inl e2)
        .rcases src with⟨s1,s2⟩ | ⟨sa,sc,s1,s2⟩ | ⟨sb,so,sc,cs,s1,s2,s3⟩
         .exact zero (some ra) none 0 0 (by rw[e1,e2];rfl) (by rw[s1,s2];rfl) (.inl e2)
         .exact zero (some ra) (some sa) 0 sc (by rw[e1,e2];rfl) (by rw[s1,s2];rfl) (.inl e2)
         .exact zero (some ra) _ 0 sc (by rw[e1,e2];rfl) s1 (.inl e2)
        .rcases src with⟨s1,s2⟩ | ⟨sa,sc,s1,s2⟩ | ⟨sb,so,sc,cs,s1,s2,s3⟩
         .exact zero _ none cap 0 e1 (by rw[s1,s2];rfl) (.inr s2)
         .exact zero _ (some sa) cap sc e1 (by rw[s1,s2];rfl) (.inr s2)
         .have hcs:=gG.size (λ_ _=>Rd.size fA) s2
          have lc:cur.toList.length=cap * fA.size:=by simpa using q4
          have hm1:l1.length * fA.size<=cap * fA.size:=yh _ q2;generalize hm:Nat.min l2.length l1.length=m at *;have hm2:m<=l2.length:=by rw[<-hm];exact Nat.min_le_left _ _
          have hm3:m<=l1.length:=by rw[<-hm];exact Nat.min_le_right _ _
          have hm4:m * fA.size<=l2.length * fA.size:=yh _ hm2;have hm5:m * fA.size<=l1.length * fA.size:=yh _ hm3;have ht:=gG.uy (λ_ _=>Rd.size fA) s2 (a:=0) (b:=m) (Ji _) hm2
          simp only[OW,OM]at ht;have hlen:(cs.take (m * fA.size)).length=m * fA.size:=by rw[lu];omega
          have r0:=Vz (P:=P) (w:=w) (dT:=t) (sT:=t') (ty:=o.type) tie hu (g:=g) (dLen:=l1.length) (dCap:=cap) (b:=⟨sb,so,none⟩) (sLen:=l2.length) (sCap:=sc) (cs:=cs.take (m * fA.size)) q1 (by rw[hlen,hm,hz1]) (λj v hj=>by
           rw[vk]at hj;split at hj
           .have:=s3 j v hj;have ea:(⟨sb,so,none⟩:Addr).add j=⟨sb,so+j,none⟩:=by unfold Addr.add;split<;>simp_all
            rw[ea];exact this
           .cases hj) (by rw[hlen];rw[<-UM,lc];omega) (λv hv=>(gG.all (λ_ _=>Rd.one fA) ht v hv).2)
          rw[hm]at r0;refine fin (row:=some g) (ji w g _) (λk e=>by cases e;rw[e1];exact aW q3.1) (by rw[e1,s1];exact r0) ?_
          have el:(l2.take l1.length++l1.drop l2.length)=l2.take m++l1.drop m:=by
           rcases Nat.le_total l2.length l1.length with hh | hh
           .have:m=l2.length:=by rw[<-hm];exact Jj hh
            rw[this,xg hh,xg (o9 _)]
           .have:m=l1.length:=by rw[<-hm];exact Nat.min_eq_right hh
            rw[this,UL hh,UL (o9 _)]
          rw[el];have ll:(l2.take m++l1.drop m).length=l1.length:=by rw[kH,lu,yj];omega
          refine .inr (.inr ⟨g,cap,_,by rw[ll];exact e1,setRow_heap w g _ _ tt (0,0) q1,by rw[ll];exact q2,q3,?_,?_⟩)
          .simp only[GL,kH,yj,hlen];omega
          .rw[ll];have h2:=gG.split (λ_ _=>Rd.size fA) (l:=l1.take m) (l':=l1.drop m) (by rw[WJ];exact q5)
           have h3:=ht.append h2.2;have e3:List.take (l1.length * fA.size) (cs.take (m * fA.size)++List.drop (cs.take (m * fA.size)).length cur.toList)=cs.take (m * fA.size)++List.drop ((l1.take m).length * fA.size) (List.take (l1.length * fA.size) cur.toList):=by
            rw[hlen,lu,Jj hm3];apply Jh;intro p;simp only[A93,vk,Ll,lu,lc]
            repeat' split
            all_goals first | rfl | omega | (congr 1;omega) | (exfalso;omega) | skip
           simp only at e3 ⊢;rw[e3];exact h3
       .cases k
      .cases k
     .cases k
    .cases k
   .cases k
  .cases k
 .cases k
end
abbrev tlS(s:St) (i:Nat):St:=match eX s.T i with
 | some ([],.row t (.int k) l)=>{ s with T:=dF s.T i ([],.LC t k l 0) }
 | _=>s
abbrev tlP(cx:Cx) (s:St) (o:Oper) (K:St->Prop):Option Prop:=none
section
variable {cx:Cx}{P:Program}{N:Nat}{B:Base}{h0:FH}{s:St}{h:FH}{β:List RV}{w:World}{a:Act}{o:Oper}{K:St->Prop}
theorem ai3{k:IntKind}{l:List Int} (x:mF h w t (.int k) l v):TlH w t k l 0 v:=by
 rcases x with x | x | ⟨g,cap,cur,e0,e1,e2,e3,e4,e5⟩
 .exact .inl x
 .exact .inr (.inl x)
 .refine .inr (.inr ⟨g,cap,cur,e0,e1,e2,e3,by simpa using e4,λj n hj=>?_⟩)
  have:=(e5.get (λ_ _=>Rd.size (.int k)) hj).1
  simp only[Sh.size,Xm]at this;have h2:((List.take l.length cur.toList).drop j).take 1=[.int k n]:=this;have hj':=(A8.1 hj).1;have h3:(((List.take l.length cur.toList).drop j).take 1)[0]?=some (.int k n):=by rw[h2];rfl
  rw[vk,if_pos (by omega),Ll,vk,if_pos (by omega)]at h3
  simpa using h3
theorem Sat.tlS(aj:Sat N B h0 s h β w a) (i:Nat):Sat N B h0 (tlS s i) h β w a:=by
 unfold Go.l9.tlS;split
 .rename_i t k l hT;have fP:=bG hT (show gv s.gl []=true from rfl)
  refine aj.mem ?_ (FH.le.refl h) (Ext.refl β) λp hp=>?_
  .rw[fV];refine aj.ok.PV fP rfl λv hv=>?_
   cases v with
   | row v=>exact ai3 hv
   | blk _=>exact hv.elim
   | deep _ _=>exact hv.elim
   | no=>exact hv.elim
  .rw[gI]at hp;rcases Jg hp with hp | hp
   .exact aj.gT p hp
   .subst hp;rfl
 .exact aj
abbrev Yf(s:St) (i:Nat):St:=match Nat.ble 2000 i with
 | true=>tlS s (i - 2000)
 | false=>adW s i
abbrev Bc(s:St):List Nat->St
 | []=>s
 | i :: r=>Bc (Yf s i) r
theorem Sat.Bc:∀{l:List Nat}{s:St}{h:FH}{β:List RV},Sat N B h0 s h β w a->∃h' β',h.le h'/\Sat N B h0 (Bc s l) h' β' w a
 | [],s,h,β,aj=>⟨h,β,FH.le.refl h,aj⟩
 | i :: r,s,h,β,aj=>by
   have h1:∃h' β',h.le h'/\Sat N B h0 (Yf s i) h' β' w a:=by
    unfold Yf;split
    .exact⟨h,β,FH.le.refl h,aj.tlS _⟩
    .exact Sat.MJ (l:=[i]) aj
   obtain⟨h1,β1,le1,jr⟩:=h1;obtain⟨h2,β2,iD,bH⟩:=Sat.Bc (l:=r) jr;exact⟨h2,β2,le1.trans iD,bH⟩
theorem ai4(hc:bV P cx.ti) (aj:Sat N B h0 s h β w a) (hg:aI cx.gd h) (hd:lV N o.dst=true) (e:tlP cx s o K=some p) (k:p):BU P N B h0 h w a o (Region.wanted o (yielded ops a.tmps)) K:=by
 unfold tlP at e;cases e
end
abbrev VE:Nat->Bool:=λj=>decide (j=0)
abbrev pY(n:Nat) (p q:Nat->Bool):Nat->Bool:=λj=>cnd (decide (j < n)) (p j) (q (j - n))
abbrev ano(sh eq:Sh):Bool:=match sh with
 | .sl e=>decide (e=eq)
 | _=>false
abbrev Yg(cx:Cx) (s:St) (d:Option Nat) (t:TypeId) (q:Nat) (tq:TypeId) (eq:Sh) (l:List eq.den) (parts:List (Nat×Operand)) (K:St->Prop):Prop:=match descOf cx t with
 | .slice el=>match pR cx.ti el with
   | none=>False
   | some ie=>match ie.iO with
     | none=>False
     | some sh=>match xG cx s [] parts with
       | none=>False
       | some ps=>match dG (ano sh eq) (dG (Nat.beq ie.size 1) (Nat.ble 1 ie.bytes)) with
         | false=>False
         | true=>match uz (λj=>some (j * ie.size,ie.size)) (iK 1 (eY SC.v ie.zero)) ps with
           | some [.row q']=>match Nat.beq q q' with
             | true=>K ({ s with T:=snoc (mT (Df (aN s.T)) (dF s.T q ([],.gone))) ([],.deep el (.sl eq) [l] tq eq 0 VE []),env:=yU (Df (aN s.T)) s.env }.put d [] (.one (.c (.row (aN s.T)))))
             | false=>False
           | _=>False
 | _=>False
abbrev Yh(cx:Cx) (s:St) (d:Option Nat) (t:TypeId) (r:Nat) (tt:TypeId) (fA:Sh) (l1:List fA.den) (t1:TypeId) (e1:Sh) (Sr:Nat) (xO:Nat->Bool) (r2:Nat) (VF:TypeId) (oL:Sh) (l2:List oL.den) (t2:TypeId) (e2:Sh) (so2:Nat) (yX:Nat->Bool) (K:St->Prop):Prop:=iP cx t λel ie sh=>
 match dG (Nat.beq tt el) (dG (Nat.beq VF el) (dG (Nat.beq t1 t2) (dG (decide (e1=e2)) (dG (Nat.beq Sr so2) (!(Nat.beq r r2)))))) with
 | true=>match jE (.sl fA) l1 (.sl sh) with
   | some l1=>match jE (.sl oL) l2 (.sl sh) with
     | some l2=>(1<=l2.length/\oz (l1.length+l2.length) ie.bytes)/\K ({ s with T:=dF (mT (Df r) (dF s.T r2 ([],.gone))) r ([],.deep el sh (l1++l2) t1 e1 Sr (pY l1.length xO yX) []),env:=yU (Df r) s.env }.put d [] (.one (.c (.row r))))
     | none=>False
   | none=>False
 | false=>False
abbrev apP(cx:Cx) (s:St) (o:Oper) (K:St->Prop):Option Prop:=match cx.dm with
 | false=>none
 | true=>match o.guard with
   | some _=>none
   | none=>match o.op with
     | .buildSlice t 1 ps=>match tl ps with
       | [(0,x)]=>match bT cx s [] x with
         | some (.one (.c (.row q)))=>match eX s.T q with
           | some ([],.row tq eq l)=>some (Yg cx s o.dst t q tq eq l (tl ps) K)
           | _=>none
         | _=>none
       | _=>none
     | .call c=>match c.callee with
       | .builtin .append=>match tl c.args with
         | [x,y]=>match bT cx s [] x with
           | some (.one (.c (.row r)))=>match eX s.T r with
             | some ([],.deep tt fA l1 t1 e1 Sr xO [])=>match bT cx s [] y with
               | some (.one (.c (.row r2)))=>match eX s.T r2 with
                 | some ([],.deep VF oL l2 t2 e2 so2 yX [])=>match tl c.argTypes with
                   | [t,t']=>match Nat.beq t t' with
                     | true=>some (Yh cx s o.dst t r tt fA l1 t1 e1 Sr xO r2 VF oL l2 t2 e2 so2 yX K)
                     | false=>none
                   | _=>none
                 | _=>none
               | _=>none
             | _=>none
           | _=>none
         | _=>none
       | _=>none
     | _=>none
section
variable {cx:Cx}{P:Program}{N:Nat}{B:Base}{h0:FH}{s:St}{h:FH}{β:List RV}{w:World}{a:Act}{o:Oper}{K:St->Prop}
theorem VG(hc:bV P cx.ti) (aj:Sat N B h0 s h β w a) (hg:aI cx.gd h) (hd:lV N o.dst=true){parts:Array (Nat×Operand)} (ho:o.op=.buildSlice t 1 parts){q:Nat}{tq:TypeId}{eq:Sh}{l:List eq.den}
 (hTq:eX s.T q=some ([],.row tq eq l)) (k:Yg cx s o.dst t q tq eq l (tl parts) K):gJ P N B h0 h w a o true K:=by
 have tr:gv s.gl []=true:=rfl;unfold Yg at k;split at k
 .rename_i el hde;have hu:=bI hc hde (by simp)
  split at k
  .cases k
  rename_i ie hie;have tie:=hc.get hie;split at k
  .cases k
  rename_i sh hsh;split at k
  .cases k
  rename_i ps hps;split at k
  .cases k
  rename_i hz;rw[aB,aB,bY,bY]at hz;have hz1:ie.size=1:=iC hz.2.1;split at k
  .rename_i q' hxs;split at k
   .rename_i hqq;have hqq:=iC hqq;subst hqq;have htl:(parts.map λ(p:Nat×Operand)=>(p.1,a.eval p.2)).toList=(tl parts).map λp=>(p.1,a.eval p.2):=by cases parts;simp
    rw[Ew]at hxs;obtain⟨zs,g1,g2⟩:=qP (qQ aj hg tr hps) (iq λv hv=>tie.zone v (yL hv)) hxs
    obtain⟨y,rfl,cy⟩:∃y,zs=[y]/\dX h β (.row q) y/\dH y:=by
     cases zs with
     | nil=>exact g2.elim
     | cons y zs=>
       cases zs with
       | nil=>exact⟨y,rfl,g2.1⟩
       | cons _ _=>exact g2.2.elim
    have hz0:0 < ie.zero.length:=by rw[tie.pz];omega
    obtain⟨z,hz1',hz2⟩:=uD tie w;have hc1:((Array.range (1 * ie.size)).map (λi=>z.cells[i % z.cells.size]!))=(iK 1 ie.zero).toArray:=by
     rw[hz2,<-tie.pz];exact qR hz0
    have run:(execOp a.eval o).run P w=.ok (.value (.slice (some ⟨w.heap.size,0,none⟩) 1 1)) (w.alloc (.cells #[y] el)):=by
     have hbig:¬(1 * ie.size > 2 ^ 24):=by omega
     have h0:¬1 * ie.size=0:=by omega
     simp only[execOp,ho,Instr.buildSlice,Sem.run_bind,run_underlying hu,Result.andThen_ok,run_sizeOf tie,hbig,OX,Sem.run_ite,Sem.run_pure,h0,hz1'];rw[htl,hc1,g1];simp only[Sem.run_bind,newRow,run_newObj,Result.andThen_ok,Sem.run_pure];rfl
    have uf:=bG hTq tr;have hbq:=aj.ok.row_of uf cy.1;have lq:mF h w tq eq l y:=aj.ok.holds q _ _ uf hbq;have hlen:aN s.T=β.length:=by rw[aj.ok.len,jh,bF]
    have hTl:(eff s.gl s.T).length=β.length:=aj.ok.len.symm;have hql:q < β.length:=(A8.1 hbq).1;have gb:=oI w (.cells #[y] el) none;have ok1:=aj.ok.forget uf;have ok2:=ok1.add (r:=.row el (.sl eq) []) (v:=.row (.slice (some ⟨w.heap.size,0,none⟩) 0 1)) gb
     (λb hb=>by rw[aZ]at hb;simp[aA]at hb;subst hb;simp)
     (.inr (.inr ⟨w.heap.size,1,#[y],rfl,mY _ _,Ji _,⟨o9 _,by simp[maxLen]⟩,rfl,rfl⟩))
    have hTn:((eff s.gl s.T).set q .gone++[ak.row el (.sl eq) []])[β.length]?=some (.row el (.sl eq) []):=by
     rw[OH (by simp[hTl])];simp[hTl]
    have hbn:(β++[RV.row (.slice (some ⟨w.heap.size,0,none⟩) 0 1)])[β.length]?=some (.row (.slice (some ⟨w.heap.size,0,none⟩) 0 1)):=by simp
    have old:∀b,aA y=some b->b < w.heap.size:=λb hb=>(aj.ok.own q _ _ b uf rfl hbq (aZ.2 hb)).2.1
    have fr:∀b,b < w.heap.size->(w.alloc (.cells #[y] el)).heap[b]?=w.heap[b]?:=λb hb=>gb.block b hb (by simp)
    have hold:eF h (w.alloc (.cells #[y] el)) el (.sl eq) [l] tq eq 0 VE [] (.slice (some ⟨w.heap.size,0,none⟩) 1 1) (λj=>if j=0 then y else nH):=by
     have bn:∀b,aA nH≠some b:=λb hh=>by simp[nH,aA]at hh
     have z0:∀{j b},aA (if j=0 then y else nH)=some b->j=0/\aA y=some b:=by
      intro j b hb
      by_cases hj:j=0
      .rw[if_pos hj]at hb;exact⟨hj,hb⟩
      .rw[if_neg hj]at hb;exact(bn b hb).elim
     refine⟨λj k b h1 h2=>by rw[(z0 h1).1,(z0 h2).1],λj b hb=>⟨by rw[(z0 hb).1];simp,?_⟩,.inr (.inr ⟨w.heap.size,1,#[y],rfl,mY _ _,by simp,⟨o9 _,by simp[maxLen]⟩,rfl,λj hb=>?_,λj d hj=>?_⟩)⟩
     .rw[fr b (old b (z0 hb).2)];exact(aj.ok.holds q _ _ uf hbq).cells rfl (aZ.2 (z0 hb).2)
     .have:=old _ (z0 hb).2;omega
     .have hj0:j=0:=by
       have:=(A8.1 hj).1;simp at this;exact this
      subst hj0;simp at hj;subst hj;show AB h _ (.sl eq) tq eq 0 true false y ((([y]:List Value).drop (0 * 1)).take 1) l;exact⟨[],l,⟨nH,rfl,.inl ⟨rfl,rfl⟩⟩,⟨rfl,rfl,rfl⟩,rfl,lq.move (FH.le.refl h) λb hb=>fr b (old b hb)⟩
    have ok3:=ok2.PU (f:=Df β.length) (r':=.deep el (.sl eq) [l] tq eq 0 VE []) (v:=.deep (.slice (some ⟨w.heap.size,0,none⟩) 1 1) (λj=>if j=0 then y else nH)) (row:=none) (X:=λb=>aA y=some b) hTn rfl hbn (dh _ none) (λk e=>by cases e)
     (λb hb=>by
      obtain⟨o1,o2,o3⟩:=aj.ok.own q _ _ b uf rfl hbq (aZ.2 hb);refine⟨o1,OI o2 gb.size,o3,λj' rj vj hj' ej lj jA hbj=>?_⟩
      have hjl:j' < β.length:=by
       have h1:=(A8.1 jA).1;simp at h1;omega
      rw[WI (by simp[hTl];exact hjl)]at ej
      rw[WI hjl]at jA;have hjq:j'≠q:=by
       rintro rfl;rw[pq (A8.1 uf).1]at ej;cases ej;cases lj
      rw[lW (Ne.symm hjq)]at ej;exact hjq (aj.ok.inj j' q _ _ _ _ b ej lj uf rfl jA hbq hbj (aZ.2 hb)))
     (λb hb=>by
      rw[aV]at hb;rcases hb with hb | ⟨j,hb⟩
      .refine .inl (aZ.2 ?_);simp[aA]at hb ⊢;exact hb
      .by_cases hj:j=0
       .rw[if_pos hj]at hb;exact .inr (.inl hb)
       .rw[if_neg hj]at hb;simp[nH,aA]at hb)
     (λx y c=>c.jk _) hold
    intro Nx Q next
    rw[if_pos rfl];refine kK run (next _ _ _ _ _ k (FH.le.refl h) (λ_=>nG.L6 gb) ((aj.map (f:=Df (aN s.T)) (T':=snoc (mT (Df (aN s.T)) (dF s.T q ([],.gone))) ([],.deep el (.sl eq) [l] tq eq 0 VE [])) (β':=(β++[RV.row (.slice (some ⟨w.heap.size,0,none⟩) 0 1)]).set β.length (.deep (.slice (some ⟨w.heap.size,0,none⟩) 1 1) (λj=>if j=0 then y else nH))) (FH.le.refl h) (λ_=>rfl) (λx y c=>?_) ?_ ?_).put (dU hd) rfl (λ_=>⟨⟨.deep (.slice (some ⟨w.heap.size,0,none⟩) 1 1) (λj=>if j=0 then y else nH),?_,rfl⟩,rfl,rfl⟩) λhh=>by cases hh))
    .rw[hlen];exact(c.mono (FH.le.refl h) (Ext.append _ _)).jk _
    .rw[iU,EL,fV,hlen];have:(((eff s.gl s.T).set q .gone++[ak.row el (.sl eq) []]).map (mR (Df β.length))).set β.length (.deep el (.sl eq) [l] tq eq 0 VE [])=((eff s.gl s.T).set q .gone).map (mR (Df β.length))++[.deep el (.sl eq) [l] tq eq 0 VE []]:=by
      rw[OQ,adq _ _ (by simp[hTl])]
      simp[hTl]
     rw[<-this];exact ok3
    .intro p' hp';rw[iM,CX]at hp';rcases hp' with hp' | hp'
     .obtain⟨p2,h1,h2⟩:=EM hp';rw[<-h2];exact qw aj p2 h1
     .simp at hp';subst hp';rfl
    .rw[hlen];rw[pq (by simp)]
   .cases k
  .cases k
 .cases k
theorem G8{i:TI}{m c b o:Nat} (hu:P.underlying t=some (.slice el)) (ki:aJ P el i) (hs1:1<=i.size) (hb1:1<=i.bytes) (hm:1<=m) (room:oz (n+m) i.bytes)
 (hcs:cs.length=m * i.size) (hnews:∀j u,cs[j]?=some u->w.cell? ⟨b,o+j,none⟩=some u) (h1:∀u∈cs,u.oneCell'=true){old:List Value} (hol:old.length=n * i.size)
 (row:(v=.slice none 0 0/\n=0)\/(∃a,v=.slice (some a) 0 0/\n=0)\/∃g cap cur,v=.slice (some ⟨g,0,none⟩) n cap/\w.heap[g]?=some (.cells cur el (0,0))/\n<=cap/\(1<=cap/\cap<=maxLen)/\cur.size=cap * i.size/\cur.toList.take (n * i.size)=old):
 ∃w' g' jJ cur',(Builtin.append_ #[t,t] ty #[v,.slice (some ⟨b,o,none⟩) m c]).run P w=.ok (.slice (some ⟨g',0,none⟩) (n+m) jJ) w'/\Gb w w' (aA v)/\w'.heap[g']?=some (.cells cur' el (0,0))/\n+m<=jJ/\(1<=jJ/\jJ<=maxLen) /\
   cur'.size=jJ * i.size/\(aA v=some g'\/(w.heap.size<=g'/\g' < w'.heap.size))/\cur'.toList.take ((n+m) * i.size)=old++cs:=by
 obtain⟨inf,z,i1,i2,i3,i4,i5⟩:=ki.info;unfold oz at room;have hn:n+m<=140737488355328:=pI (A83 _ hb1) room;have XM:z.cells.size=i.size:=by rw[i5];simpa using ki.pz
 have hcs':cs.length=m * inf.size:=by rw[i2];exact hcs
 have hnews':∀j u,cs[j]?=some u->w.cell? ((⟨b,o,none⟩:Addr).add j)=some u:=λj u e=>by rw[add_lit];exact hnews j u e
 have grown:∀(scap:Nat),∃w' g' jJ cur',w'=w.drew.alloc (.cells (old.toArray++cs.toArray++Builtin.zeroCells z.cells (grownCap w (n+m) scap el - (n+m))) el)/\g'=w.heap.size/\jJ=grownCap w (n+m) scap el/\Gb w w' (aA v)/\w'.heap[g']?=some (.cells cur' el (0,0))/\n+m<=jJ/\(1<=jJ/\jJ<=maxLen) /\
  cur'.size=jJ * i.size/\(aA v=some g'\/(w.heap.size<=g'/\g' < w'.heap.size))/\cur'.toList.take ((n+m) * i.size)=old++cs:=by
  intro scap;have hge:=grownCap_ge w (n+m) scap el;refine⟨_,_,_,_,rfl,rfl,rfl,⟨⟨rfl,rfl,rfl,by simp,λk hk _=>(World.grownBy_alloc w.drew _ none).block k hk (by simp)⟩,AA _⟩,heap_alloc_new w.drew _,hge,⟨by omega,grownCap_le_maxLen w _ scap el (by simp only[maxLen];omega)⟩,?_,.inr ⟨o9 _,by simp⟩,?_⟩
  .simp only[A88,GL,size_zeroCells,XM,hcs,hol,<-Lm]
   congr 1;omega
  .simp only[A98];rw[show(n+m) * i.size=(old++cs).length by rw[kH,hol,hcs,Lm],Xa]
 rcases row with⟨rfl,hn0⟩ | ⟨ra,rfl,hn0⟩ | ⟨g,cap,cur,rfl,q1,q2,q3,q4,q5⟩
 .subst hn0;have ho0:old=[]:=WH (by simpa using hol)
  subst ho0;have r:=run_append_nil (P:=P) w t ty el inf z hu i1 i4 ⟨b,o,none⟩ m c cs hcs' hnews' (by omega) (by omega) (by rw[i3];simp at room;omega)
  obtain⟨w',g',jJ,cur',rfl,rfl,rfl,rest⟩:=grown 0;refine⟨_,_,_,cur',?_,rest⟩;simpa using r
 .subst hn0;have ho0:old=[]:=WH (by simpa using hol)
  subst ho0;have r:=run_append_grow (P:=P) w t ty el inf z hu i1 i4 ra 0 0 [] (by simp) (λj u e=>by simp at e) ⟨b,o,none⟩ m c cs hcs' hnews' (by omega) (by omega) (growslice_fits (by omega) (by rw[i3];simpa using room))
  obtain⟨w',g',jJ,cur',rfl,rfl,rfl,rest⟩:=grown 0;exact⟨_,_,_,cur',r,rest⟩
 .by_cases hroom:n+m<=cap
  .have hfit:n * inf.size+cs.length<=cur.size:=by rw[hcs,q4,i2,<-Lm];exact yh _ hroom
   have r:=run_append_room (P:=P) w t ty el inf hu i1 g n cap cur q1 ⟨b,o,none⟩ m c cs hcs' hnews' h1 hroom hfit;have e1:(List.take (n * i.size) cur.toList++cs).length=(n+m) * i.size:=by rw[kH,q5,hol,hcs,Lm]
   refine⟨_,g,cap,_,r,by rw[aW q3.1];exact ji w g _,setRow_heap w g cur _ el _ q1,hroom,q3,?_,.inl (aW q3.1),?_⟩
   .have aqy:n * i.size+cs.length<=cur.size:=by rw[<-i2];exact hfit
    simp only[i2,GL,kH,lu,yj,UM (xs:=cur)];rw[<-q4];omega
   .show(List.take (n * inf.size) cur.toList++cs++List.drop (n * inf.size+cs.length) cur.toList).take ((n+m) * i.size)=old++cs;rw[i2,<-e1,Xa,q5]
  .have holds:∀j u,old[j]?=some u->w.cell? ((⟨g,0,none⟩:Addr).add j)=some u:=by
    intro j u e;rw[add_lit,D6,cell_of_row w g j cur el (0,0) q1];rw[<-q5,vk]at e;split at e
    .simpa using e
    .cases e
   have r:=run_append_grow (P:=P) w t ty el inf z hu i1 i4 ⟨g,0,none⟩ n cap old (by rw[hol,i2]) holds ⟨b,o,none⟩ m c cs hcs' hnews' (by omega) (by omega) (growslice_fits (by omega) (by rw[i3];exact room))
   obtain⟨w',g',jJ,cur',rfl,rfl,rfl,rest⟩:=grown cap;exact⟨_,_,_,cur',r,rest⟩
theorem PW{p q:Nat->Bool} (h:j < n):pY n p q j=p j:=by simp[pY,h,cnd]
theorem PX{p q:Nat->Bool} (h:¬j < n):pY n p q j=q (j - n):=by simp[pY,h,cnd]
abbrev Bd(n:Nat) (p q:Nat->Value):Nat->Value:=λj=>if j < n then p j else q (j - n)
theorem kS{p q:Nat->Value} (h:j < n):Bd n p q j=p j:=if_pos h
theorem kT{p q:Nat->Value} (h:¬j < n):Bd n p q j=q (j - n):=if_neg h
theorem EO{L:List Value}{M a:Nat} (h:a+k<=M):((L.take M).drop a).take k=(L.drop a).take k:=by
 apply Jh;intro p;simp only[vk,Ll]
 by_cases hp:p < k
 .rw[if_pos hp,if_pos hp,if_pos (by omega)]
 .rw[if_neg hp,if_neg hp]
theorem AB.one{sh:Sh}{tt:TypeId}{e:Sh}{so:Nat}{own:Bool}{u:Value}{cs:List Value}{d:sh.den} (x:AB h w sh tt e so own false u cs d):∀z∈cs,dH z:=by
 intro z hz;cases own with
 | false=>exact Rd.one sh x.1 z hz
 | true=>
   obtain⟨d0,y,r,_,c,q⟩:=x;obtain⟨p,hp⟩:=Ai hz
   by_cases hps:p=so
   .subst hps;rw[hp]at c;cases c;rcases q with⟨e,_⟩ | ⟨_,e,_⟩ | ⟨_,_,_,e,_⟩<;>subst e<;>exact⟨rfl,rfl⟩
   .refine Rd.one sh r z (gZ (i:=p) ?_);rw[lW (Ne.symm hps)];exact hp
theorem eF.join{sh:Sh}{l1 l2:List sh.den}{xO yX:Nat->Bool}{v1 v2:Value}{Sv uq:Nat->Value}{g' jJ:Nat}{cur':Array Value}{old:List Value}
 (D1:eF h w t sh l1 tt e so xO [] v1 Sv) (D2:eF h w t sh l2 tt e so yX [] v2 uq) (h2:1<=l2.length)
 (dis:∀i j b,aA (Sv i)=some b->aA (uq j)=some b->False)
 (fr:∀b,(∃i,aA (Sv i)=some b)\/(∃j,aA (uq j)=some b)->w'.heap[b]?=w.heap[b]?/\b≠g')
 (c1:w'.heap[g']?=some (.cells cur' t (0,0))) (c2:l1.length+l2.length<=jJ) (c3:1<=jJ/\jJ<=maxLen) (c4:cur'.size=jJ * sh.size) (hol:old.length=l1.length * sh.size)
 (c5:cur'.toList.take ((l1.length+l2.length) * sh.size)=old++cs)
 (e1:∀j d,l1[j]?=some d->AB h w sh tt e so (xO j) false (Sv j) ((old.drop (j * sh.size)).take sh.size) d)
 (e2:∀j d,l2[j]?=some d->AB h w sh tt e so (yX j) false (uq j) ((cs.drop (j * sh.size)).take sh.size) d):
 eF h w' t sh (l1++l2) tt e so (pY l1.length xO yX) [] (.slice (some ⟨g',0,none⟩) (l1.length+l2.length) jJ) (Bd l1.length Sv uq):=by
 refine⟨λj k b hj hk=>?_,λj b hj=>?_,.inr (.inr ⟨g',jJ,cur',by rw[kH],c1,by rw[kH];exact c2,c3,c4,λj hj=>?_,λj d hj=>?_⟩)⟩
 .by_cases a1:j < l1.length<;>by_cases a2:k < l1.length
  .rw[kS a1]at hj;rw[kS a2]at hk;exact D1.1 j k b hj hk
  .rw[kS a1]at hj;rw[kT a2]at hk;exact(dis _ _ b hj hk).elim
  .rw[kT a1]at hj;rw[kS a2]at hk;exact(dis _ _ b hk hj).elim
  .rw[kT a1]at hj;rw[kT a2]at hk;have:=D2.1 _ _ b hj hk;omega
 .by_cases a1:j < l1.length
  .rw[kS a1]at hj;rw[(fr b (.inl ⟨j,hj⟩)).1];exact⟨by rw[kH];omega,(D1.2.1 j b hj).2⟩
  .rw[kT a1]at hj;rw[(fr b (.inr ⟨_,hj⟩)).1];have:=D2.2.1 _ b hj;exact⟨by rw[kH];omega,this.2⟩
 .by_cases a1:j < l1.length
  .rw[kS a1]at hj;exact(fr g' (.inl ⟨j,hj⟩)).2 rfl
  .rw[kT a1]at hj;exact(fr g' (.inr ⟨_,hj⟩)).2 rfl
 .have hjl:=(A8.1 hj).1;rw[kH]at hjl;have hm:(j+1) * sh.size<=(l1.length+l2.length) * sh.size:=yh _ hjl;rw[xw]at hm;have cut:(cur'.toList.drop (j * sh.size)).take sh.size=((old++cs).drop (j * sh.size)).take sh.size:=by
   rw[<-c5,EO hm]
  rw[cut,show nT j []=false from rfl]
  rw[A93]at hj;split at hj
  .rename_i a1;rw[kS a1,PW a1];have hm1:(j+1) * sh.size<=l1.length * sh.size:=yh _ a1;rw[xw]at hm1;have:((old++cs).drop (j * sh.size)).take sh.size=(old.drop (j * sh.size)).take sh.size:=by
    rw[A99 (by omega),A86 (by rw[yj];omega)]
   rw[this];exact(e1 j d hj).move (FH.le.refl h) λb hb=>(fr b (.inl ⟨j,hb⟩)).1
  .rename_i a1;rw[kT a1,PX a1];have hjj:j * sh.size=l1.length * sh.size+(j - l1.length) * sh.size:=by rw[<-Lm];congr 1;omega
   have:(old++cs).drop (j * sh.size)=cs.drop ((j - l1.length) * sh.size):=by
    rw[hjj,<-hol,A80]
   rw[this];exact(e2 _ d hj).move (FH.le.refl h) λb hb=>(fr b (.inr ⟨_,hb⟩)).1
theorem VH(hc:bV P cx.ti) (aj:Sat N B h0 s h β w a) (hg:aI cx.gd h) (hd:lV N o.dst=true){x y:Operand} (ho:o.op=.call c) (cZ:c.callee=.builtin .append) (ha:c.args=#[x,y]) (ht:c.argTypes=#[t,t])
 {r:Nat} (hx:bT cx s [] x=some (.one (.c (.row r)))){fA:Sh}{l1:List fA.den}{t1:TypeId}{e1:Sh}{Sr:Nat}{xO:Nat->Bool} (hT:eX s.T r=some ([],.deep tt fA l1 t1 e1 Sr xO []))
 {r2:Nat} (hy:bT cx s [] y=some (.one (.c (.row r2)))){VF:TypeId}{oL:Sh}{l2:List oL.den}{t2:TypeId}{e2:Sh}{so2:Nat}{yX:Nat->Bool} (hT2:eX s.T r2=some ([],.deep VF oL l2 t2 e2 so2 yX []))
 (k:Yh cx s o.dst t r tt fA l1 t1 e1 Sr xO r2 VF oL l2 t2 e2 so2 yX K):gJ P N B h0 h w a o true K:=by
 have tr:gv s.gl []=true:=rfl;unfold Yh iP at k;split at k
 .rename_i el hde;have hu:=bI hc hde (by simp)
  split at k
  .cases k
  rename_i ie hie;have tie:=hc.get hie;split at k
  .cases k
  rename_i sh hsh;split at k
  .rename_i hz;rw[aB,aB,bY,bY]at hz;have hz1:sh.size=ie.size:=iC hz.1;have hz2:1<=ie.bytes:=qo hz.2.1;have hz3:1<=ie.size:=qo hz.2.2;split at k
   .rename_i hq;rw[aB,aB,aB,aB,aB,bY,bY,bY,bY,bY,dN]at hq;obtain⟨q1,q2,q3,q4,q5,q6⟩:=hq;have q1:tt=el:=iC q1;have q2:VF=el:=iC q2;have q3:t1=t2:=iC q3;have q5:Sr=so2:=iC q5;have hrr:r2≠r:=PS q6;subst q1;subst q2;subst q3;subst q4;subst q5;split at k
    .rename_i m1 hm1;obtain⟨f1,f2⟩:=oM hm1;subst f1;simp only at f2;subst f2;split at k
     .rename_i m2 hm2;obtain⟨f1,f2⟩:=oM hm2;subst f1;simp only at f2;subst f2;obtain⟨⟨k1,k2⟩,k⟩:=k;have fP:=bG hT tr;have VI:=bG hT2 tr;have cx1:=(aK aj hg tr hx:dD h β (.c (.row r)) (a.eval x));have cy1:=(aK aj hg tr hy:dD h β (.c (.row r2)) (a.eval y));obtain⟨Sv,hb1,D1⟩:=aj.ok.vJ fP cx1.1;obtain⟨uq,hb2,D2⟩:=aj.ok.vJ VI cy1.1;have anp:∀b,(RV.deep (a.eval x) Sv).has b->B.al b/\b < w.heap.size/\∀o,h b o=none:=λb hb=>aj.ok.own r _ _ b fP rfl hb1 hb
      have ahV:∀b,(RV.deep (a.eval y) uq).has b->B.al b/\b < w.heap.size/\∀o,h b o=none:=λb hb=>aj.ok.own r2 _ _ b VI rfl hb2 hb
      have apart:∀b,(RV.deep (a.eval x) Sv).has b->(RV.deep (a.eval y) uq).has b->False:=λb p q=>hrr (aj.ok.inj r2 r _ _ _ _ b VI rfl fP rfl hb2 hb1 q p)
      obtain⟨g2,cap2,EN,v0,v1,v2,v3,v4,v5,v6⟩:=D2.third (j:=0) (by omega)
      have hsz2:l2.length * oL.size<=cap2 * oL.size:=yh _ v2;have hcs:(EN.toList.take (l2.length * oL.size)).length=l2.length * oL.size:=by rw[lu,UM (xs:=EN)];omega
      have el2:∀j d,l2[j]?=some d->AB h w oL t1 e1 Sr (yX j) false (uq j) (((EN.toList.take (l2.length * oL.size)).drop (j * oL.size)).take oL.size) d:=by
       intro j d hj;have hjl:=(A8.1 hj).1;have hm:(j+1) * oL.size<=l2.length * oL.size:=yh _ hjl;rw[xw]at hm;rw[EO hm];exact v6 j d hj
      have apK:∀u∈EN.toList.take (l2.length * oL.size),u.oneCell'=true:=by
       intro u hu;obtain⟨p,hp⟩:=Ai hu;have hpl:=(A8.1 hp).1;rw[hcs]at hpl;have hs0:0 < oL.size:=by rw[hz1];exact hz3
       have hjl:p / oL.size < l2.length:=by rw[Nat.div_lt_iff_lt_mul hs0];exact hpl
       have hdm:p / oL.size * oL.size+p % oL.size=p:=by rw[Nat.mul_comm];exact Nat.div_add_mod p oL.size
       refine((el2 _ _ (kQ hjl)).one u (gZ (i:=p % oL.size) ?_)).2;rw[vk,if_pos (Nat.mod_lt _ hs0),Ll,hdm];exact hp
      obtain⟨old,hol,row,el1,nb1⟩:∃old:List Value,old.length=l1.length * oL.size/\((a.eval x=.slice none 0 0/\l1.length=0)\/(∃ad,a.eval x=.slice (some ad) 0 0/\l1.length=0)\/∃g cap cur,a.eval x=.slice (some ⟨g,0,none⟩) l1.length cap/\w.heap[g]?=some (.cells cur VF (0,0))/\l1.length<=cap/\(1<=cap/\cap<=maxLen)/\cur.size=cap * ie.size/\cur.toList.take (l1.length * ie.size)=old) /\
       (∀j d,l1[j]?=some d->AB h w oL t1 e1 Sr (xO j) false (Sv j) ((old.drop (j * oL.size)).take oL.size) d)/\∀i b,aA (Sv i)=some b->aA (a.eval x)≠some b:=by
       rcases D1.2.2 with⟨e,rfl⟩ | ⟨ad,e,rfl⟩ | ⟨g,cap,cur,u0,u1,u2,u3,u4,u5,u6⟩
       .exact⟨[],by simp,.inl ⟨e,rfl⟩,λj d hj=>by simp at hj,λi b _=>by rw[e];simp[aA]⟩
       .exact⟨[],by simp,.inr (.inl ⟨ad,e,rfl⟩),λj d hj=>by simp at hj,λi b _=>by rw[e];simp[aA]⟩
       .have hsz1:l1.length * oL.size<=cap * oL.size:=yh _ u2;refine⟨cur.toList.take (l1.length * oL.size),by rw[lu,UM (xs:=cur)];omega,.inr (.inr ⟨g,cap,cur,u0,u1,u2,u3,by rw[<-hz1];exact u4,by rw[hz1]⟩),λj d hj=>?_,λi b hb=>by rw[u0,aW u3.1];intro hh;cases hh;exact u5 i hb⟩
        have hjl:=(A8.1 hj).1;have hm:(j+1) * oL.size<=l1.length * oL.size:=yh _ hjl;rw[xw]at hm;rw[EO hm];exact u6 j d hj
      obtain⟨w',g',jJ,cur',r1,gb,c1,c2,c3,c4,c6,c5⟩:=G8 (ty:=o.type) (b:=g2) (o:=0) (c:=cap2) (m:=l2.length) (n:=l1.length) (cs:=EN.toList.take (l2.length * oL.size)) (old:=old) hu tie hz3 hz2 k1 k2 (by rw[hcs,hz1]) (λj u hj=>by
       rw[D6,cell_of_row w g2 j EN VF (0,0) v1];rw[vk]at hj;split at hj
       .simpa using hj
       .cases hj) apK (by rw[hol,hz1]) row
      have fr:∀b,(∃i,aA (Sv i)=some b)\/(∃j,aA (uq j)=some b)->w'.heap[b]?=w.heap[b]?/\b≠g':=by
       rintro b (⟨i,hb⟩ | ⟨j,hb⟩)
       .have o1:=(anp b (aV.2 (.inr ⟨i,hb⟩))).2.1;refine⟨gb.block b o1 λhh=>nb1 i b hb hh.symm,?_⟩
        rintro rfl;rcases c6 with c6 | c6
        .exact nb1 i b hb c6
        .omega
       .have o1:=(ahV b (aV.2 (.inr ⟨j,hb⟩))).2.1;refine⟨gb.block b o1 λhh=>apart b (aV.2 (.inl hh.symm)) (aV.2 (.inr ⟨j,hb⟩)),?_⟩
        rintro rfl;rcases c6 with c6 | c6
        .exact apart b (aV.2 (.inl c6)) (aV.2 (.inr ⟨j,hb⟩))
        .omega
      have J:=eF.join (w':=w') (g':=g') (jJ:=jJ) (cur':=cur') (old:=old) (cs:=EN.toList.take (l2.length * oL.size)) D1 D2 k1 (λi j b p q=>apart b (aV.2 (.inr ⟨i,p⟩)) (aV.2 (.inr ⟨j,q⟩))) fr c1 c2 c3 (by rw[hz1];exact c4) hol (by rw[hz1];rw[hz1]at c5;exact c5) el1 el2
      have run:(execOp a.eval o).run P w=.ok (.value (.slice (some ⟨g',0,none⟩) (l1.length+l2.length) jJ)) w':=by
       rw[<-v0]at r1;simp[execOp,ho,resolve,cZ,ha,ht,invoke,builtin,r1]
      have ok1:=aj.ok.forget VI;have hT1:((eff s.gl s.T).set r2 .gone)[r]?=some (.deep VF oL l1 t1 e1 Sr xO []):=by rw[lW hrr];exact fP
      have hrl:r < β.length:=(A8.1 hb1).1;have ok2:=ok1.PU (f:=Df r) (r':=.deep VF oL (l1++l2) t1 e1 Sr (pY l1.length xO yX) []) (v:=.deep (.slice (some ⟨g',0,none⟩) (l1.length+l2.length) jJ) (Bd l1.length Sv uq)) (row:=aA (a.eval x)) (X:=λb=>∃j,aA (uq j)=some b) hT1 rfl hb1 gb (λk e=>aV.2 (.inl e))
       (λb hb=>by
        have hb:(RV.deep (a.eval y) uq).has b:=aV.2 (.inr hb);obtain⟨o1,o2,o3⟩:=ahV b hb;refine⟨o1,o2,o3,λj' rj vj hj' ej lj jA hbj=>?_⟩
        have hjq:j'≠r2:=by
         rintro rfl;rw[pq (A8.1 VI).1]at ej;cases ej;cases lj
        rw[lW (Ne.symm hjq)]at ej;exact hjq (aj.ok.inj j' r2 _ _ _ _ b ej lj VI rfl jA hb2 hbj hb))
       (λb hb=>by
        rw[aV]at hb;rcases hb with hb | ⟨j,hb⟩
        .rw[aW c3.1]at hb;cases hb;exact c6.elim (λq=>.inl (aV.2 (.inl q))) λq=>.inr (.inr q)
        .by_cases a1:j < l1.length
         .rw[kS a1]at hb;exact .inl (aV.2 (.inr ⟨j,hb⟩))
         .rw[kT a1]at hb;exact .inr (.inl ⟨_,hb⟩))
       (λx y c=>c.jk _) J
      intro Nx Q next
      rw[if_pos rfl];refine kK run (next _ _ _ _ _ k (FH.le.refl h) (λhh=>by rw[ho]at hh;simp[quietly,cZ]at hh) ((aj.map (f:=Df r) (T':=dF (mT (Df r) (dF s.T r2 ([],.gone))) r ([],.deep VF oL (l1++l2) t1 e1 Sr (pY l1.length xO yX) [])) (β':=β.set r (.deep (.slice (some ⟨g',0,none⟩) (l1.length+l2.length) jJ) (Bd l1.length Sv uq))) (FH.le.refl h) (λ_=>rfl) (λx y c=>c.jk _) ?_ ?_).put (dU hd) rfl (λ_=>⟨⟨.deep (.slice (some ⟨g',0,none⟩) (l1.length+l2.length) jJ) (Bd l1.length Sv uq),?_,rfl⟩,rfl,rfl⟩) λhh=>by cases hh))
      .rw[fV,EL,fV];exact ok2
      .intro p' hp';rw[gI]at hp';rcases Jg hp' with hp' | hp'
       .obtain⟨p2,h1,h2⟩:=EM hp';rw[<-h2];exact qw aj p2 h1
       .subst hp';rfl
      .rw[pq hrl]
     .cases k
    .cases k
   .cases k
  .cases k
 .cases k
theorem Yi(hc:bV P cx.ti) (aj:Sat N B h0 s h β w a) (hg:aI cx.gd h) (hd:lV N o.dst=true) (e:apP cx s o K=some p) (k:p):gJ P N B h0 h w a o (Region.wanted o (yielded ops a.tmps)) K:=by
 unfold apP at e;split at e
 .cases e
 split at e
 .cases e
 rename_i hgd;rw[show Region.wanted o (yielded ops a.tmps)=true by simp[Region.wanted,hgd]]
 split at e
 .rename_i t ps ho;split at e
  .rename_i x hps;split at e
   .rename_i q hx;split at e
    .rename_i tq eq l hTq;cases e;exact VG hc aj hg hd ho hTq k
    .cases e
   .cases e
  .cases e
 .rename_i c ho;split at e
  .rename_i cZ;split at e
   .rename_i x y ha;split at e
    .rename_i r hx;split at e
     .rename_i tt fA l1 t1 e1 Sr xO hT;split at e
      .rename_i r2 hy;split at e
       .rename_i VF oL l2 t2 e2 so2 yX hT2;split at e
        .rename_i t t' ht;split at e
         .rename_i hb;have hb:t=t':=iC hb;subst hb;cases e;exact VH hc aj hg hd ho cZ (iI ha) (iI ht) hx hT hy hT2 k
         .cases e
        .cases e
       .cases e
      .cases e
     .cases e
    .cases e
   .cases e
  .cases e
 .cases e
theorem Yj(h1:∀t n ps,o.op≠.buildSlice t n ps) (h2:∀c,o.op=.call c->c.callee≠.builtin .append):apP cx s o K=none:=by
 cases hp:apP cx s o K with
 | none=>rfl
 | some p=>
   exfalso;unfold apP at hp;split at hp
   .cases hp
   split at hp
   .cases hp
   split at hp
   .rename_i t ps ho;exact h1 _ _ _ ho
   .rename_i c ho;split at hp
    .rename_i cZ;exact h2 c ho cZ
    .cases hp
   .cases hp
abbrev ai6(cx:Cx) (s:St) (o:Oper) (K:St->Prop):Option Prop:=match apP cx s o K with
 | some p=>some p
 | none=>match tlP cx s o K with
   | some p=>some p
   | none=>aiX cx s o K
theorem adY(hc:bV P cx.ti) (aj:Sat N B h0 s h β w a) (hg:aI cx.gd h) (hd:lV N o.dst=true) (e:ai6 cx s o K=some p) (k:p):BU P N B h0 h w a o (Region.wanted o (yielded ops a.tmps)) K:=by
 unfold ai6 at e;split at e
 .rename_i p' hp;cases e;exact(Yi hc aj hg hd hp k).weak
 .split at e
  .rename_i p' hp;cases e;exact ai4 hc aj hg hd hp k
  .exact adT hc aj hg hd e k
end
abbrev Yk(cx:Cx) (s:St) (d:Option Nat) (t:TypeId) (i:Nat) (lo:Operand) (K:St->Prop):Prop:=iP cx t λel ie sh=>match eX s.T i with
 | some ([],.row tt fA l1)=>match jE (.sl fA) l1 (.sl sh) with
   | some l=>match bT cx s [] lo with
     | some (.one (.c (.v (.int _ n))))=>(0<=n/\n<=l.length)/\K ({ s with T:=dF s.T i ([],.Hz tt sh l n.toNat) }.put d [] (.one (.c (.sub i 0))))
     | _=>False
   | none=>False
 | _=>False
abbrev Ym(cx:Cx) (s:St) (d:Option Nat) (t:TypeId) (i:Nat) (y:Operand) (K:St->Prop):Prop:=iP cx t λel ie sh=>match eX s.T i with
 | some ([],.Hz tt fA l1 off)=>match jE (.sl fA) l1 (.sl sh) with
   | some l=>match bT cx s [] y with
     | some (.one v)=>match Pn s sh v with
       | some l2=>K ({ s with T:=dF (mT (uM i) s.T) i ([],.row tt sh (l.take off++(l2.take (l.length - off)++(l.drop off).drop l2.length))),env:=yU (uM i) s.env }.put d [] (vI .i64 (Nat.min l2.length (l.length - off))))
       | none=>False
     | _=>False
   | none=>False
 | _=>False
abbrev Yn(cx:Cx) (s:St) (d:Option Nat) (t:TypeId) (fA:Sh) (x1:fA.den) (K:St->Prop):Prop:=iP cx t λel ie sh=>match jE fA x1 sh with
 | some x=>match Nat.ble ie.size 16777216 with
   | true=>K ({ s with T:=snoc s.T ([],.row el sh [x]) }.put d [] (.one (.c (.row (aN s.T)))))
   | false=>False
 | none=>False
abbrev rtP(cx:Cx) (s:St) (o:Oper) (K:St->Prop):Option Prop:=match cx.rt with
 | false=>none
 | true=>match o.guard with
   | some _=>none
   | none=>match o.op with
     | .buildSlice t 1 ps=>match tl ps with
       | [(0,x)]=>match bT cx s [] x with
         | some (.one (.dat fA x1))=>some (Yn cx s o.dst t fA x1 K)
         | _=>none
       | _=>none
     | .slice t x (some lo) none none=>match bT cx s [] x with
       | some (.one (.c (.row i)))=>match eX s.T i with
         | some ([],.row _ _ _)=>some (Yk cx s o.dst t i lo K)
         | _=>none
       | _=>none
     | .call c=>match c.callee with
       | .builtin .copy=>match tl c.args with
         | [x,y]=>match bT cx s [] x with
           | some (.one (.c (.sub i 0)))=>match eX s.T i with
             | some ([],.Hz _ _ _ _)=>match tl c.argTypes with
               | [t,_]=>some (Ym cx s o.dst t i y K)
               | _=>none
             | _=>none
           | _=>none
         | _=>none
       | _=>none
     | _=>none
section
variable {cx:Cx}{P:Program}{N:Nat}{B:Base}{h0:FH}{s:St}{h:FH}{β:List RV}{w:World}{a:Act}{o:Oper}{K:St->Prop}
theorem dX.js2{us:Nat->Value} (hu:β[i]?=some (.deep v us)){x:SC} (c:dX h β x y):dX h (β.set i (.row v)) (uM i x) y:=by
 unfold uM;split
 .rename_i hf;cases x with
  | v _=>exact c
  | sl _ _=>exact c
  | fp _ _=>exact c
  | one _ _=>exact c
  | abs _=>exact c
  | junk=>trivial
  | own j off=>
    obtain⟨b,e,e'⟩:=c;refine⟨b,?_,e'⟩;rw[dL hu,if_neg]
    .exact e
    .rintro rfl;rw[hu]at e;cases e
  | row j=>
    obtain⟨z,e,e'⟩:=c
    by_cases hj:j=i
    .subst hj;rw[hu]at e;cases e;exact⟨.row v,by rw[dL hu,if_pos rfl],e'⟩
    .exact⟨z,by rw[dL hu,if_neg hj];exact e,e'⟩
  | jU j k sz off=>
    obtain⟨z,g,e,e',e2⟩:=c
    by_cases hj:j=i
    .subst hj;rw[hu]at e;cases e;exact⟨.row v,g,by rw[dL hu,if_pos rfl],e',e2⟩
    .exact⟨z,g,by rw[dL hu,if_neg hj];exact e,e',e2⟩
  | sub j k=>
    obtain⟨z,uq,e,e'⟩:=c;exact⟨z,uq,by rw[dL hu,if_neg (PS hf)];exact e,e'⟩
  | lX j k m sz off=>
    obtain⟨z,uq,g,e,e'⟩:=c;exact⟨z,uq,g,by rw[dL hu,if_neg (PS hf)];exact e,e'⟩
 .trivial
theorem dX.js3{us:Nat->Value} (hu:β[i]?=some (.row v)){x:SC} (c:dX h β x y):dX h (β.set i (.deep v us)) x y:=by
 cases x with
 | v _=>exact c
 | sl _ _=>exact c
 | fp _ _=>exact c
 | one _ _=>exact c
 | abs _=>exact c
 | junk=>trivial
 | own j off=>
   obtain⟨b,e,e'⟩:=c;refine⟨b,?_,e'⟩;rw[dL hu,if_neg]
   .exact e
   .rintro rfl;rw[hu]at e;cases e
 | row j=>
   obtain⟨z,e,e'⟩:=c
   by_cases hj:j=i
   .subst hj;rw[hu]at e;cases e;exact⟨.deep v us,by rw[dL hu,if_pos rfl],e'⟩
   .exact⟨z,by rw[dL hu,if_neg hj];exact e,e'⟩
 | jU j k sz off=>
   obtain⟨z,g,e,e',e2⟩:=c
   by_cases hj:j=i
   .subst hj;rw[hu]at e;cases e;exact⟨.deep v us,g,by rw[dL hu,if_pos rfl],e',e2⟩
   .exact⟨z,g,by rw[dL hu,if_neg hj];exact e,e',e2⟩
 | sub j k=>
   obtain⟨z,uq,e,e'⟩:=c;refine⟨z,uq,?_,e'⟩;rw[dL hu,if_neg]
   .exact e
   .rintro rfl;rw[hu]at e;cases e
 | lX j k m sz off=>
   obtain⟨z,uq,g,e,e'⟩:=c;refine⟨z,uq,g,?_,e'⟩;rw[dL hu,if_neg]
   .exact e
   .rintro rfl;rw[hu]at e;cases e
theorem mid(l:List SC):eY (λx=>x) l=l:=by
 induction l with
 | nil=>rfl
 | cons x l ih=>simp[eY,ih]
theorem apL(e:bg):mE (λx=>x) e=e:=by
 have m2:∀x:SV,mV (λx=>x) x=x:=by intro x;cases x<;>simp[mV,mid]
 cases e with
 | one x=>simp[mE,m2]
 | iJ xs=>
   have:∀l:List SV,eY (mV λx=>x) l=l:=by
    intro l
    induction l with
    | nil=>rfl
    | cons x l ih=>simp[eY,ih,m2]
   simp[mE,this]
theorem VJ(hc:bV P cx.ti) (aj:Sat N B h0 s h β w a) (hg:aI cx.gd h) (hd:lV N o.dst=true){x lo:Operand} (ho:o.op=.slice t x (some lo) none none)
 (hx:bT cx s [] x=some (.one (.c (.row i)))) (k:Yk cx s o.dst t i lo K):gJ P N B h0 h w a o (gv s.gl []) K:=by
 have tr:gv s.gl []=true:=rfl;unfold Yk iP at k;split at k
 .rename_i el hde;have hu:=bI hc hde (by simp)
  split at k
  .cases k
  rename_i ie hie;have tie:=hc.get hie;split at k
  .cases k
  rename_i sh hsh;split at k
  .rename_i hz;rw[aB,aB,bY,bY]at hz;have hz1:sh.size=ie.size:=iC hz.1;split at k
   .rename_i tt fA l1 hT;split at k
    .rename_i l hl;obtain⟨e1,e2⟩:=oM hl;subst e1;simp only at e2;subst e2;split at k
     .rename_i ik n hn;have eh:a.eval lo=.int ik n:=(aK aj hg tr hn:dD h β (.c (.v (.int ik n))) (a.eval lo)).1.1;obtain⟨⟨b1,b2⟩,q⟩:=k;have cr:=(aK aj hg tr hx:dD h β (.c (.row i)) (a.eval x));have fP:=bG hT tr;have hβ:=aj.ok.row_of fP cr.1;have lq:mF h w tt fA l1 (a.eval x):=aj.ok.holds i _ _ fP hβ;have hi':i < β.length:=(A8.1 hβ).1;obtain⟨ad,cap,ev,hle⟩:∃(ad:Option Addr) (cap:Nat),a.eval x=.slice ad l1.length cap/\l1.length<=cap:=by
       rcases lq with⟨e,e0⟩ | ⟨ra,e,e0⟩ | ⟨g,cap,cur,e,q1,q2,_⟩
       .exact⟨none,0,by rw[e,e0];rfl,by rw[e0];simp⟩
       .exact⟨some ra,0,by rw[e,e0];rfl,by rw[e0];simp⟩
       .exact⟨_,cap,e,q2⟩
      have run:(execOp a.eval o).run P w=.ok (.value (.slice (if cap=n.toNat then ad else ad.map (·.add (n.toNat * ie.size))) (l1.length - n.toNat) (cap - n.toNat))) w:=by
       have:=oK (P:=P) (w:=w) (isS:=true) (len:=l1.length) (cap:=cap) (lo:=some (.int ik n)) (hi:=none) (a:=n) (b:=l1.length) (.inr ⟨ik,rfl⟩) (.inl ⟨rfl,rfl⟩) (by omega) hle
       have r2:(Instr.sliceAt t (a.eval x) (some (.int ik n)) none none).run P w=.ok (.slice (if cap=n.toNat then ad else ad.map (·.add (n.toNat * ie.size))) (l1.length - n.toNat) (cap - n.toNat)) w:=by
        rw[ev];simp only[Instr.sliceAt,Instr.slice,Sem.run_bind,run_underlying hu,Result.andThen_ok,this,run_sizeOf tie,Sem.run_pure,W9]
       simp only[execOp,ho,Sem.run_bind,adv,WQ,eh];rw[r2];rfl
      rw[<-hz1]at run;have hold:D8 h w tt fA l1 n.toNat (a.eval x) (λ_=>.slice (if cap=n.toNat then ad else ad.map (·.add (n.toNat * fA.size))) (l1.length - n.toNat) (cap - n.toNat)):=⟨lq,by omega,ad,cap,ev,hle,rfl⟩
      generalize hus:(λ_:Nat=>Value.slice (if cap=n.toNat then ad else ad.map (·.add (n.toNat * fA.size))) (l1.length - n.toNat) (cap - n.toNat))=us at hold
      have h0':us 0=.slice (if cap=n.toNat then ad else ad.map (·.add (n.toNat * fA.size))) (l1.length - n.toNat) (cap - n.toNat):=by rw[<-hus]
      rw[<-h0']at run;have apM:dH (us 0):=by rw[h0'];exact⟨rfl,rfl⟩
      have hC:∀x' y,dX h β x' y->dX h (β.set i (.deep (a.eval x) us)) x' y:=λ_ _ c=>c.js3 hβ
      have aT:Sat N B h0 { s with T:=dF s.T i ([],.Hz tt fA l1 n.toNat) } h (β.set i (.deep (a.eval x) us)) w a:=by
       refine⟨?_,?_,aj.gs,aj.defers,aj.sz,aj.gb,qw aj⟩
       .show OK B h0 (eff s.gl (dF s.T i ([],.Hz tt fA l1 n.toNat))) h _ w;rw[xH];have:=aj.ok.PU (f:=λx=>x) (r':=.Hz tt fA l1 n.toNat) (v:=.deep (a.eval x) us) (row:=none) (X:=λ_=>False) fP rfl hβ (dh w none) (λk e=>by cases e) (λb hb=>hb.elim)
         (λb hb=>by
          rw[aV]at hb;rcases hb with hb | ⟨j,hb⟩
          .exact .inl (aZ.2 hb)
          .exact .inl (aZ.2 (hold.blk hb))) hC hold
        rwa [show(eff s.gl s.T).map (mR λx=>x)=eff s.gl s.T by rw[show(mR λx=>x)=id from funext ahR];simp]at this
       .intro t' G e' ht;obtain⟨z,q1,q2,q3⟩:=aj.env t' G e' ht;refine⟨z,q1,λhG=>?_,q3⟩
        have:=jS.map (f:=λx=>x) (FH.le.refl h) hC (q2 hG)
        rwa [apL]at this
      intro Nx Q next
      rw[if_pos tr];refine kK run (next _ _ _ _ _ q (FH.le.refl h) (λ_=>nG.refl w) (aT.put (G:=[]) (e:=.one (.c (.sub i 0))) (dU hd) rfl (λ_=>⟨?_,apM⟩) λhh=>by cases hh))
      refine⟨a.eval x,us,?_,rfl⟩;rw[pq hi']
     .cases k
    .cases k
   .cases k
  .cases k
 .cases k
theorem VK{dT sT:TypeId}{i:TI} (k:aJ P el i) (hu:P.underlying dT=some (.slice el)){go dLen dCap:Nat}{b:Addr}{sLen sCap:Nat}{cur:Array Value}
 (hg:w.heap[g]?=some (.cells cur t (0,0))) (hn:cs.length=Nat.min sLen dLen * i.size) (hsrc:∀j v,cs[j]?=some v->w.cell? (b.add j)=some v) (hfit:go+cs.length<=cur.size) (h1:∀v∈cs,v.oneCell'=true):
 (Builtin.copy_ #[dT,sT] ty #[.slice (some ⟨g,go,none⟩) dLen dCap,.slice (some b) sLen sCap]).run P w=.ok (goInt (Nat.min sLen dLen)) (w.setRow g (cur.toList.take go++cs++cur.toList.drop (go+cs.length)).toArray):=by
 have hl:=run_loadCells_list (P:=P) w b cs hsrc;have hst:=run_storeCells_at P g go t cs 0 cur w hg (by simpa using hfit) h1
 simp only[U2,D6]at hst;simp[Builtin.copy_,run_underlying hu,Builtin.lenOf,Builtin.firstCells,run_sizeOf k,<-hn,hl,hst]
theorem VL(hc:bV P cx.ti) (aj:Sat N B h0 s h β w a) (hg:aI cx.gd h) (hd:lV N o.dst=true){t':TypeId}{x y:Operand} (ho:o.op=.call c) (cZ:c.callee=.builtin .copy) (ha:c.args=#[x,y]) (hat:c.argTypes=#[t,t'])
 (hx:bT cx s [] x=some (.one (.c (.sub i 0)))) (k:Ym cx s o.dst t i y K):gJ P N B h0 h w a o (gv s.gl []) K:=by
 have tr:gv s.gl []=true:=rfl;unfold Ym iP at k;split at k
 .rename_i el hde;have hu:=bI hc hde (by simp)
  split at k
  .cases k
  rename_i ie hie;have tie:=hc.get hie;split at k
  .cases k
  rename_i sh hsh;split at k
  .rename_i hz;rw[aB,aB,bY,bY]at hz;have hz1:sh.size=ie.size:=iC hz.1;split at k
   .rename_i tt fA l1 off hT;split at k
    .rename_i l hl;obtain⟨e1,e2⟩:=oM hl;subst e1;simp only at e2;subst e2;split at k
     .rename_i v hv;split at k
      .rename_i l2 hl2;obtain⟨⟨v0,us,hb,e0⟩,_⟩:=(aK aj hg tr hx:dD h β (.c (.sub i 0)) (a.eval x));have cv:=aK aj hg tr hv;have fP:=bG hT tr;have hold:D8 h w tt fA l1 off v0 us:=aj.ok.holds i _ _ fP hb;have src:=Dh aj hl2 cv;obtain⟨lq,hoff,ad,cap,ev,hle,eus⟩:=hold;have ex:a.eval x=.slice (if cap=off then ad else ad.map (·.add (off * fA.size))) (l1.length - off) (cap - off):=by rw[<-e0,eus]
       generalize hR:(l1.take off++(l2.take (l1.length - off)++(l1.drop off).drop l2.length))=l' at k;have exec:∀{w':World},(Builtin.copy_ #[t,t'] o.type #[a.eval x,a.eval y]).run P w=.ok (goInt (Nat.min l2.length (l1.length - off))) w'->(execOp a.eval o).run P w=.ok (.value (goInt (Nat.min l2.length (l1.length - off)))) w':=by
        intro w' r0;simp only[execOp,ho,resolve,cZ,ha,hat,invoke,builtin,Sem.run_bind,Sem.run_pure,Result.andThen_ok];simp[r0]
       have fin:∀{w':World}{row:Option Nat},Gb w w' row->(∀k,row=some k->aA v0=some k)->(Builtin.copy_ #[t,t'] o.type #[a.eval x,a.eval y]).run P w=.ok (goInt (Nat.min l2.length (l1.length - off))) w' ->
        mF h w' tt fA l' v0->gJ P N B h0 h w a o (gv s.gl []) K:=by
        intro w' row hgr hrw r0 hr;have hC:∀x' y',dX h β x' y'->dX h (β.set i (.row v0)) (uM i x') y':=λ_ _ c=>c.js2 hb
        have ok:OK B h0 (eff s.gl (dF (mT (uM i) s.T) i ([],.row tt fA l'))) h (β.set i (.row v0)) w':=by
         rw[fV,EL];exact aj.ok.PU (f:=uM i) (r':=.row tt fA l') (v:=.row v0) (X:=λ_=>False) fP rfl hb hgr (λk e=>aV.2 (.inl (hrw k e))) (λb hb=>hb.elim) (λb hb=>.inl (aV.2 (.inl (aZ.1 hb)))) hC hr
        have gT:∀p∈dF (mT (uM i) s.T) i ([],ak.row tt fA l'),vF s.gl.length p.1=true:=by
         intro p hp;rw[gI]at hp;rcases Jg hp with hp | hp
         .obtain⟨q,q1,q2⟩:=EM hp;rw[<-q2];exact aj.gT q q1
         .subst hp;rfl
        exact mX aj k rfl (by rw[ho];simp[quietly,cZ]) (.inl (exec r0)) (FH.le.refl h) ((aj.map (FH.le.refl h) (λ_=>by rfl) hC ok gT).put (G:=[]) (e:=vI .i64 (Nat.min l2.length (l1.length - off))) (dU hd) rfl (λ_=>⟨⟨rfl,bM _ _⟩,bM _ _⟩) λhh=>by cases hh)
       have zero:∀(ab:Option Addr) (sC:Nat),a.eval y=.slice ab l2.length sC->(l1.length - off=0\/l2=[])->gJ P N B h0 h w a o (gv s.gl []) K:=by
        intro ab sC ey h0';have hm:Nat.min l2.length (l1.length - off)=0:=by rcases h0' with e | e<;>simp[e]
        refine fin (dh w none) (λk e=>by cases e) ?_ ?_
        .rw[hm,ex,ey];exact Ij tie hu hm
        .have:l'=l1:=by
          rw[<-hR];rcases h0' with e | e
          .rw[e,UY,UL (by omega:l1.length<=off),xg (by omega)];simp
          .subst e;simp
         rw[this];exact lq
       have ey0:∃(ab:Option Addr) (sC:Nat),a.eval y=.slice ab l2.length sC:=by
        rcases src with⟨s1,s2⟩ | ⟨sa,sc,s1,s2⟩ | ⟨sb,so,sc,cs,s1,s2,s3⟩
        .exact⟨none,0,by rw[s1,s2];rfl⟩
        .exact⟨some sa,sc,by rw[s1,s2];rfl⟩
        .exact⟨_,sc,s1⟩
       obtain⟨ab0,sC0,ey0⟩:=ey0
       by_cases hz0:l1.length - off=0
       .exact zero _ _ ey0 (.inl hz0)
       by_cases hz2:l2=[]
       .exact zero _ _ ey0 (.inr hz2)
       rcases lq with⟨e1,e2⟩ | ⟨ra,e1,e2⟩ | ⟨g,jJ,cur,e1,q1,q2,q3,q4,q5⟩
       .rw[e2]at hz0;simp at hz0
       .rw[e2]at hz0;simp at hz0
       rcases src with⟨s1,s2⟩ | ⟨sa,sc,s1,s2⟩ | ⟨sb,so,sc,cs,s1,s2,s3⟩
       .exact absurd s2 hz2
       .exact absurd s2 hz2
       rw[e1]at ev;injection ev with ev1 ev2 ev3
       subst ev1;subst ev3;rw[if_neg (by omega)]at ex
       simp only[WQ,add_lit,D6]at ex;have hcs:=gG.size (λ_ _=>Rd.size fA) s2
       have lc:cur.toList.length=jJ * fA.size:=by simpa using q4
       have hm1:l1.length * fA.size<=jJ * fA.size:=yh _ q2;generalize hm:Nat.min l2.length (l1.length - off)=m at *;have hm2:m<=l2.length:=by rw[<-hm];exact Nat.min_le_left _ _
       have hm3:m<=l1.length - off:=by rw[<-hm];exact Nat.min_le_right _ _
       have hm4:m * fA.size<=l2.length * fA.size:=yh _ hm2;have hm5:(off+m) * fA.size<=l1.length * fA.size:=yh _ (by omega)
       rw[Lm]at hm5;have ht:=gG.uy (λ_ _=>Rd.size fA) s2 (a:=0) (b:=m) (Ji _) hm2
       simp only[OW,OM]at ht;have hlen:(cs.take (m * fA.size)).length=m * fA.size:=by rw[lu];omega
       have r0:=VK (P:=P) (w:=w) (dT:=t) (sT:=t') (ty:=o.type) tie hu (g:=g) (go:=off * fA.size) (dLen:=l1.length - off) (dCap:=jJ - off) (b:=⟨sb,so,none⟩) (sLen:=l2.length) (sCap:=sc) (cs:=cs.take (m * fA.size)) q1 (by rw[hlen,hm,hz1]) (λj v hj=>by
        rw[vk]at hj;split at hj
        .have:=s3 j v hj;have ea:(⟨sb,so,none⟩:Addr).add j=⟨sb,so+j,none⟩:=by unfold Addr.add;split<;>simp_all
         rw[ea];exact this
        .cases hj) (by rw[hlen];rw[<-UM,lc];omega) (λv hv=>(gG.all (λ_ _=>Rd.one fA) ht v hv).2)
       rw[hm]at r0;refine fin (row:=some g) (ji w g _) (λk e=>by cases e;rw[e1];exact aW q3.1) (by rw[ex,s1];exact r0) ?_
       have el:l'=l1.take off++l2.take m++l1.drop (off+m):=by
        rw[<-hR,Au]
        congr 1
        rcases Nat.le_total l2.length (l1.length - off) with hh | hh
        .have:m=l2.length:=by rw[<-hm];exact Jj hh
         rw[this,xg hh,xg (o9 _),UZ]
        .have:m=l1.length - off:=by rw[<-hm];exact Nat.min_eq_right hh
         rw[this,UZ,UL (by omega),UL (by omega)]
       rw[el];have ll:(l1.take off++l2.take m++l1.drop (off+m)).length=l1.length:=by simp only[kH,lu,yj];omega
       refine .inr (.inr ⟨g,jJ,_,by rw[ll];exact e1,setRow_heap w g _ _ tt (0,0) q1,by rw[ll];exact q2,q3,?_,?_⟩)
       .simp only[GL,kH,lu,yj,lc,hlen];omega
       .rw[ll];have p1:=(gG.split (λ_ _=>Rd.size fA) (l:=l1.take off) (l':=l1.drop off) (by rw[WJ];exact q5)).1
        have p2:=(gG.split (λ_ _=>Rd.size fA) (l:=l1.take (off+m)) (l':=l1.drop (off+m)) (by rw[WJ];exact q5)).2
        have h3:=(p1.append ht).append p2;have k1:(l1.take off).length=off:=by rw[lu];omega
        have k2:(l1.take (off+m)).length=off+m:=by rw[lu];omega
        rw[k1,k2,Lm]at h3;have e3:List.take (l1.length * fA.size) (List.take (off * fA.size) cur.toList++cs.take (m * fA.size)++List.drop (off * fA.size+(cs.take (m * fA.size)).length) cur.toList)=List.take (off * fA.size) (List.take (l1.length * fA.size) cur.toList)++cs.take (m * fA.size)++List.drop (off * fA.size+m * fA.size) (List.take (l1.length * fA.size) cur.toList):=by
         rw[hlen];apply Jh;intro p;simp only[A93,vk,Ll,lu,kH,lc]
         repeat' split
         all_goals first | rfl | omega | (congr 1;omega) | (exfalso;omega) | skip
        simp only at e3 ⊢;rw[e3];exact h3
      .cases k
     .cases k
    .cases k
   .cases k
  .cases k
 .cases k
theorem MN{h:FH}{β:List RV}:∀{cs:List Value},(∀v∈cs,dH v)->aO (λx y=>dX h β x y/\dH y) (cs.map SC.v) cs
 | [],_=>trivial
 | c :: cs,f=>⟨⟨⟨rfl,f c (by simp)⟩,f c (by simp)⟩,MN λv hv=>f v (by simp[hv])⟩
theorem MO{h:FH}{β:List RV}:∀{cs zs:List Value},aO (λx y=>dX h β x y/\dH y) (cs.map SC.v) zs->zs=cs
 | [],[],_=>rfl
 | c :: cs,z :: zs,⟨⟨c1,_⟩,a⟩=>by rw[MO a,c1.1]
theorem VN(hc:bV P cx.ti) (aj:Sat N B h0 s h β w a) (hg:aI cx.gd h) (hd:lV N o.dst=true){parts:Array (Nat×Operand)} (ho:o.op=.buildSlice t 1 parts)
 {x:Operand} (hp:tl parts=[(0,x)]){fA:Sh}{x1:fA.den} (hx:bT cx s [] x=some (.one (.dat fA x1))) (k:Yn cx s o.dst t fA x1 K):gJ P N B h0 h w a o (gv s.gl []) K:=by
 have tr:gv s.gl []=true:=rfl;unfold Yn iP at k;split at k
 .rename_i el hde;have hu:=bI hc hde (by simp)
  split at k
  .cases k
  rename_i ie hie;have tie:=hc.get hie;split at k
  .cases k
  rename_i sh hsh;split at k
  .rename_i hz;rw[aB,aB,bY,bY]at hz;have hz1:sh.size=ie.size:=iC hz.1;have hz2:1<=ie.size:=qo hz.2.2;split at k
   .rename_i y hy;obtain⟨e1,e2⟩:=kJ hy;subst e1;simp only at e2;subst e2;split at k
    .rename_i hbl;have hsz1:ie.size<=16777216:=qo hbl;refine lF aj (G:=[]) rfl hd k λhgv=>?_
     obtain⟨_,cs,ey,rd⟩:=(aK aj hg tr hx:dD h β (.dat fA x1) (a.eval x));have hl:cs.length=fA.size:=Rd.size fA rd;have h1:=Rd.one fA rd;have htl:(parts.map λ(p:Nat×Operand)=>(p.1,a.eval p.2)).toList=[(0,a.eval x)]:=by
      have:(parts.map λ(p:Nat×Operand)=>(p.1,a.eval p.2)).toList=(tl parts).map λp=>(p.1,a.eval p.2):=by cases parts;simp
      rw[this,hp];rfl
     have hf:uz (λj=>some (j * ie.size,ie.size)) ((iK 1 ie.zero).map SC.v) [(0,.agg (cs.map SC.v))]=some (cs.map SC.v):=by
      have e1:(iK 1 ie.zero)=ie.zero:=by simp[iK,fU]
      rw[e1];unfold uz yH nU;simp only[OW,aB,bF,WR,D6];rw[show Nat.beq cs.length ie.size=true by rw[hl,hz1];exact Nat.beq_refl _,show Nat.ble ie.size ie.zero.length=true by rw[tie.pz];exact A81 (o9 _)]
      simp only[Bool.and_self];unfold uz Vh;rw[show qK 0 (ie.zero.map SC.v)=[] by simp[jH],fU,fU,bF,qL,WR]
      rw[UL (by rw[WR,tie.pz];omega)]
      simp
     rw[<-CZ SC.v (iK 1 ie.zero)]at hf;obtain⟨zs,g1,g2⟩:=qP (h:=h) (β:=β) (parts:=[(0,.agg (cs.map SC.v))]) (vals:=[(0,a.eval x)]) ⟨⟨rfl,cs,ey,MN h1⟩,trivial⟩ (iq λv hv=>tie.zone v (yL hv)) hf
     have ez:=MO g2;subst ez;have hz0:0 < ie.zero.length:=by rw[tie.pz];omega
     obtain⟨z,hz1',hz2'⟩:=uD tie w;have hc1:((Array.range (1 * ie.size)).map (λi=>z.cells[i % z.cells.size]!))=(iK 1 ie.zero).toArray:=by
      rw[hz2',<-tie.pz];exact qR hz0
     refine⟨.slice (some ⟨w.heap.size,0,none⟩) 1 1,w.alloc (.cells zs.toArray el),.row (.slice (some ⟨w.heap.size,0,none⟩) 1 1),?_,oI _ _ _,?_,?_,?_⟩
     .have hbig:¬(1 * ie.size > 2 ^ 24):=by omega
      have h0:¬1 * ie.size=0:=by omega
      simp only[execOp,ho,Instr.buildSlice,Sem.run_bind,run_underlying hu,Result.andThen_ok,run_sizeOf tie,hbig,OX,Sem.run_ite,Sem.run_pure,h0,hz1'];rw[htl,hc1,g1];simp only[Sem.run_bind,newRow,run_newObj,Result.andThen_ok,Sem.run_pure];rfl
     .intro b hb;rw[aZ]at hb;simp[aA]at hb;obtain⟨_,rfl⟩:=hb;simp
     .refine .inr (.inr ⟨w.heap.size,1,zs.toArray,rfl,mY _ _,o9 _,⟨o9 _,by simp[maxLen]⟩,by simp only[GL];omega,?_⟩)
      rw[xg (by simp;omega)]
      exact⟨zs,[],by simp,rd,rfl⟩
     .exact⟨⟨_,kL (lG aj) _,rfl⟩,rfl,rfl⟩
    .cases k
   .cases k
  .cases k
 .cases k
theorem Yo(hc:bV P cx.ti) (aj:Sat N B h0 s h β w a) (hg:aI cx.gd h) (hd:lV N o.dst=true) (e:rtP cx s o K=some p) (k:p):gJ P N B h0 h w a o (Region.wanted o (yielded ops a.tmps)) K:=by
 have hw:∀{b:Bool},o.guard=none->gJ P N B h0 h w a o (gv s.gl []) K->gJ P N B h0 h w a o (Region.wanted o (yielded ops a.tmps)) K:=by
  intro b hgd x;have:Region.wanted o (yielded ops a.tmps)=true:=by unfold Region.wanted;rw[hgd]
  rw[this];exact x
 unfold rtP at e;split at e
 .cases e
 split at e
 .cases e
 rename_i hgd;split at e
 .rename_i t ps ho;split at e
  .rename_i x hps;split at e
   .rename_i fA x1 hx;cases e;exact hw (b:=true) hgd (VN hc aj hg hd ho hps hx k)
   .cases e
  .cases e
 .rename_i t x lo ho;split at e
  .rename_i i hx;split at e
   .cases e;exact hw (b:=true) hgd (VJ hc aj hg hd ho hx k)
   .cases e
  .cases e
 .rename_i c ho;split at e
  .rename_i cZ;split at e
   .rename_i x y ha;split at e
    .rename_i i hx;split at e
     .split at e
      .rename_i t t' ht;cases e;exact hw (b:=true) hgd (VL hc aj hg hd ho cZ (iI ha) (iI ht) hx k)
      .cases e
     .cases e
    .cases e
   .cases e
  .cases e
 .cases e
end
def Wd(F:Fence):Prop:=F=Fence.wide\/∃l,F=Fence.wide.inRound l
theorem Wd.fn{F:Fence} (h:Wd F) (f:FuncId):F.fn f:=by rcases h with rfl | ⟨l,rfl⟩<;>trivial
theorem Wd.depth{F:Fence} (h:Wd F):F.depth=none:=by rcases h with rfl | ⟨l,rfl⟩<;>rfl
theorem Wd.calls{F:Fence} (hF:Wd F){P:Program}{f:FuncId}{args:Array Value}{R:Ending->World->Prop} (h:Calls P f args w R):CallsIn F n P f args w R:=by
 rcases hF with rfl | ⟨l,rfl⟩
 .exact callsIn_wide.2 h
 .exact(callsIn_wide.2 h:CallsIn Fence.wide n P f args w R).inRound l
abbrev JM:Op->Bool
 | .defer _=>false
 | _=>true
abbrev Dj:List Oper->Bool
 | []=>true
 | o :: l=>dG (JM o.op) (Dj l)
section
variable {F:Fence}{n:Nat}{P:Program}{ops:Array Oper}{md:Region.Mode}
theorem MP(hF:Wd F){o:Oper} (hd:JM o.op=true){Nx:Act->World->Prop}{Q Q':Exit->Act->World->Prop} (h:o.wp P a w Nx JC):o.wpIn F n P a w Nx Q':=by
 refine⟨λf _=>hF.fn f,?_⟩
 rw[Oper.semAt_eq _ _ _ (λc hc=>by rw[hc]at hd;cases hd)]
 unfold Oper.wp at h;generalize (execOp a.eval o).run P w=r at *;cases r with
 | ok m w'=>
   cases m<;>simp only[Oper.upon]at h<;>simp only[Oper.uponIn]
   case enter f args=>
    refine⟨λhh=>(by rw[hF.depth]at hh;cases hh),hF.calls (h.mono λe w'' he=>?_)⟩
    cases e with
    | returned v=>exact he
    | panicked c=>exact False.elim he
    | outgrown=>exact xJ he
   case row row args=>
    refine⟨λhh=>(by rw[hF.depth]at hh;cases hh),λc cs _=>?_⟩
    obtain⟨v,w'',hr,hs⟩:=h c cs;refine⟨v,w'',hr,?_⟩;have:StepsIn (Machine.fenced P Fence.wide) P (lone (Frame.ofRow P row args .normal) (c :: cs) w') (lone (c.finish v) cs w''):=stepsIn_wide.2 hs;rcases hF with rfl | ⟨l,rfl⟩
    .exact this
    .exact this
   all_goals first | exact h | exact h.elim
 | halt x w'=>cases x<;>simp only[Oper.upon]at h<;>first | exact h.elim | exact False.elim h
def wpL(P:Program) (ops:Array Oper) (R:Act->World->Prop):List Oper->Act->World->Prop
 | [],a,w=>R a w
 | o :: rest,a,w=>if Region.wanted o (yielded ops a.tmps)=true then o.wp P a w (wpL P ops R rest) JC else wpL P ops R rest (a.put o.dst undef) w
theorem PY(hF:Wd F){R:Act->World->Prop}{Q:Exit->Act->World->Prop} (hR:∀a w,R a w->Q .normal a w):∀(l:List Oper) (k:Nat) (a:Act) (w:World),(∀j,l[j]?=ops[k+j]?)->Dj l=true->wpL P ops R l a w ->
 wpOpsIn F n P ops Q (List.range' k l.length) a w
 | [],k,a,w,_,_,h=>hR _ _ h
 | o :: l,k,a,w,hl,hn,h=>by
   have h0:ops[k]?=some o:=by simpa using(hl 0).symm
   simp only[Dj,aB,bY]at hn;have ih:∀a w,wpL P ops R l a w->wpOpsIn F n P ops Q (List.range' (k+1) l.length) a w:=λa w=>PY hF hR l (k+1) a w (λj=>by have:=hl (j+1);simpa[GN,Xl 1 j]using this) hn.2
   simp only[sV,List.range'_succ,wpOpsIn,h0];unfold wpL at h;split
   .rename_i hw;rw[if_pos hw]at h;exact Oper.wpIn_mono ih (MP (Q:=Q) hF hn.1 h)
   .rename_i hw;rw[if_neg hw]at h;exact⟨λf _=>hF.fn f,ih _ _ h⟩
theorem PZ(hF:Wd F){R:Act->World->Prop} (hR:∀a w,R a w->Q .normal a w){id:Nat} (hn:Dj ops.toList=true) (h:wpL P ops R ops.toList a w):(Code.region id ops false).wpIn F n P Q a w:=
 wpIn_region (by
  have:=PY (n:=n) hF hR ops.toList 0 a w (λj=>by simp) hn h
  rw[List.range_eq_range'];simpa using this)
theorem EP(hn:Dj ops.toList=true){o:Oper} (h:ops[i]?=some o):JM o.op=true:=by
 have key:∀{l:List Oper},Dj l=true->o∈l->JM o.op=true:=by
  intro l
  induction l with
  | nil=>intro _ hm;cases hm
  | cons x l ih=>
    intro hh hm;simp only[Dj,aB,bY]at hh;rcases lU.1 hm with rfl | hm
    .exact hh.1
    .exact ih hh.2 hm
 exact key hn (gZ (i:=i) (by simpa using h))
theorem ai7(hF:Wd F) (hn:Dj ops.toList=true) (h:Ak P ops i K a w):wpOpIn F n P ops Q i K a w:=by
 unfold Ak at h;unfold wpOpIn;split
 .rename_i ho;simpa[ho]using h
 .rename_i o ho;simp only[ho]at h;split
  .rename_i hw;rw[if_pos hw]at h;exact MP (Q:=Q) hF (EP hn ho) h
  .rename_i hw;rw[if_neg hw]at h;exact⟨λf _=>hF.fn f,h⟩
theorem JO{sf:Nat->Bool} (hF:Wd F) (hn:Dj ops.toList=true){R:Act->World->Prop}{Q:Exit->Act->World->Prop} (hR:∀a w,R a w->Q .normal a w):∀(fuel:Nat) (listed:Array Bool) (a:Act) (w:World),
 anyI P md ops sf R fuel listed a w->wpAnyIn F n P md ops Q fuel listed a w
 | 0,_,_,_,h=>⟨h.1,hR _ _ h.2⟩
 | fuel+1,_,_,_,h=>⟨λe=>hR _ _ (h.1 e),λi hi=>ai7 hF hn (MC (λa w hh=>JO hF hn hR fuel _ a w hh.2) (h.2 i hi))⟩
theorem ad1(hF:Wd F) (hn:Dj ops.toList=true){K:Act->Prop}{K':Act->World->Prop} (hK:∀a,K a->K' a w) (h:stOp P ops w i K a):wpOpIn F n P ops Q i K' a w:=by
 unfold stOp at h;unfold wpOpIn;split
 .rename_i ho;simp only[ho]at h;exact hK _ h
 .rename_i o ho;simp only[ho]at h;split
  .rename_i hw;rw[if_pos hw]at h;exact MP (Q:=Q) hF (EP hn ho) (Oper.wp_of_still hK h)
  .rename_i hw;rw[if_neg hw]at h;exact⟨λf _=>hF.fn f,hK _ h⟩
theorem Sz(hF:Wd F) (hn:Dj ops.toList=true){w:World}{R:Act->Prop}{Q:Exit->Act->World->Prop} (hR:∀a,R a->Q .normal a w):∀(fuel:Nat) (listed:Array Bool) (a:Act),
 wpAnyS P md ops w R fuel listed a->wpAnyIn F n P md ops Q fuel listed a w
 | 0,_,_,h=>⟨h.1,hR _ h.2⟩
 | fuel+1,_,_,h=>⟨λe=>hR _ (h.1 e),λi hi=>ad1 hF hn (λa hh=>Sz hF hn hR fuel _ a hh) (h.2 i hi)⟩
theorem yY(hF:Wd F) (hn:Dj ops.toList=true){id:Nat} (hm:P.follows .mixedOrders=true) (hB:Region.lexB .any ops=true)
 (h:wpStill P ops { w with drawn:=w.drawn+1 } (λa'=>Q .normal a' { w with drawn:=w.drawn+1 }) ops.toList a):(Code.region id ops true).wpIn F n P Q a w:=by
 simp only[Region.lexB,bY]at hB;refine wpIn_region_any hm (Sz (R:=λa'=>Q .normal a' { w with drawn:=w.drawn+1 }) hF hn (λ_ h=>h) _ _ _ ?_)
 have:=wpAnyS_lex (md:=.any) hB.1 ops.toList 0 (Array.replicate ops.size false) a (by simp) (by simpa using hB.2) h
 simpa using this
theorem wpIn_loop_ghost{c:Code} (I:Nat->Act->World->Prop) (n₀:Nat) (h₀:I n₀ a w)
 (round:∀m a w,I m a w->c.wpIn F n P (Exit.then (λa' w'=>∃n',n' < m/\I n' a' w') Q) a w):(Code.loop c).wpIn F n P Q a w:=by
 refine wpIn_loop (λa w=>∃m,I m a w) (λa w=>leastOf (λm=>I m a w)) ⟨n₀,h₀⟩ ?_
 intro a w hI;refine wpIn_mono (round _ a w (leastOf_spec hI).1) ?_;intro e a' w' hq;cases e with
 | normal=>
   obtain⟨n',gX,hI'⟩:=hq;exact show(∃m,I m a' w')/\leastOf (λm=>I m a' w') < leastOf (λm=>I m a w) from⟨⟨n',hI'⟩,Nat.lt_of_le_of_lt ((leastOf_spec ⟨n',hI'⟩).2 n' hI') gX⟩
 | exit id=>exact hq
 | goto l=>exact hq
 | ret=>exact hq
 | panic ch=>exact hq
 | outgrown=>exact hq
end
section
variable {P:Program}{ops:Array Oper}{md:Region.Mode}{n:Nat}{sf:Nat->Bool}
def qx(P:Program) (n:Nat) (ops:Array Oper) (i:Nat) (K:Act->World->Prop) (a:Act) (w:World):Prop:=
 match ops[i]? with
 | none=>K a w
 | some o=>if Region.wanted o (yielded ops a.tmps)=true then o.uponIn Fence.wide n P a K JC ((execOp a.eval o).run P w) else K (a.put o.dst undef) w
theorem Ik{o:Oper}{K':Act->World->Prop}{Q':Exit->Act->World->Prop} (h:∀a w,K a w->K' a w){r:Result Next} (hh:o.uponIn Fence.wide n P a K JC r):o.uponIn Fence.wide n P a K' Q' r:=by
 cases r with
 | ok x w'=>
   cases x<;>simp only[Oper.uponIn]at hh ⊢
   case enter f args=>
    refine⟨hh.1,hh.2.mono λe w'' he=>?_⟩
    cases e with
    | returned v=>exact h _ _ he
    | panicked c=>exact False.elim he
    | outgrown=>exact xJ he
   case row r args=>
    exact⟨hh.1,RowsIn.mono hh.2 λv w'' he=>h _ _ he⟩
   case round l f tmps GI body=>
    refine⟨hh.1,RoundIn.mono hh.2 λe w'' he=>?_⟩
    cases e with
    | returned v=>exact h _ _ he
    | panicked c=>exact False.elim he
    | outgrown=>exact xJ he
   all_goals first | exact h _ _ hh | exact hh.elim
 | halt x w'=>cases x<;>simp only[Oper.uponIn]at hh ⊢<;>exact False.elim hh
theorem Il{K':Act->World->Prop} (h:∀a w,K a w->K' a w) (hh:qx P n ops i K a w):qx P n ops i K' a w:=by
 unfold qx at *;split
 .exact h _ _ (by simpa[*]using hh)
 .rename_i o ho;simp only[ho]at hh;split
  .rename_i hw;rw[if_pos hw]at hh;exact Ik h hh
  .rename_i hw;rw[if_neg hw]at hh;exact h _ _ hh
theorem ad2(hn:Dj ops.toList=true) (h:qx P n ops i K a w):wpOpIn Fence.wide n P ops Q i K a w:=by
 unfold qx at h;unfold wpOpIn;split
 .rename_i ho;simpa[ho]using h
 .rename_i o ho;simp only[ho]at h;split
  .rename_i hw;rw[if_pos hw]at h;refine⟨λf _=>trivial,?_⟩
   rw[Oper.semAt_eq _ _ _ (λc hc=>by have:=EP hn ho;rw[hc]at this;cases this)]
   exact Ik (λ_ _ hh=>hh) h
  .rename_i hw;rw[if_neg hw]at h;exact⟨λf _=>trivial,h⟩
theorem ahW(hn:Dj ops.toList=true) (h:Ak P ops i K a w):qx P n ops i K a w:=by
 unfold Ak at h;unfold qx;split
 .rename_i ho;simpa[ho]using h
 .rename_i o ho;simp only[ho]at h;split
  .rename_i hw;rw[if_pos hw]at h;have h2:=(MP (n:=n) (Q:=JC) (Q':=JC) (.inl rfl:Wd Fence.wide) (EP hn ho) h).2
   rwa [Oper.semAt_eq _ _ _ (λc hc=>by have:=EP hn ho;rw[hc]at this;cases this)]at h2
  .rename_i hw;rw[if_neg hw]at h;exact h
def JQ(P:Program) (n:Nat) (md:Region.Mode) (ops:Array Oper) (sf:Nat->Bool) (R:Act->World->Prop):Nat->Array Bool->Act->World->Prop
 | 0,listed,a,w=>Region.ready md ops listed=[]/\R a w
 | fuel+1,listed,a,w=>(Region.ready md ops listed=[]->R a w) /\
   ∀i∈Region.ready md ops listed,qx P n ops i (λa' w'=>(sf i=true->nG w w')/\JQ P n md ops sf R fuel (listed.setIfInBounds i true) a' w') a w
theorem SA(hn:Dj ops.toList=true){R:Act->World->Prop}{Q:Exit->Act->World->Prop} (hR:∀a w,R a w->Q .normal a w):∀(fuel:Nat) (listed:Array Bool) (a:Act) (w:World),
 JQ P n md ops sf R fuel listed a w->wpAnyIn Fence.wide n P md ops Q fuel listed a w
 | 0,_,_,_,h=>⟨h.1,hR _ _ h.2⟩
 | fuel+1,_,_,_,h=>⟨λe=>hR _ _ (h.1 e),λi hi=>ad2 hn (Il (λa w hh=>SA hn hR fuel _ a w hh.2) (h.2 i hi))⟩
theorem YI.qx{ld:Bool}{w0:World}{i:Nat}{o:Oper}{v:Value}{a:Act} (hi:ops[i]?=some o) (hy:YI P ops ld w0 o v a){K:Act->World->Prop}{w:World} (hg:ld=true->nG w0 w)
 (h:K (a.put o.dst v) w):qx P n ops i K a w:=by
 unfold Go.l9.qx;simp only[hi];rcases hy with⟨hw,hv⟩ | ⟨hw,rfl⟩
 .rw[if_pos hw,hv w hg];exact h
 .rw[if_neg (by rw[hw];simp)];exact h
theorem Yp{ld:Bool}{w0:World}{oi oj:Oper} (hj:ops[j]?=some oj) (hap:oi.apart ops oj=true)
 (hsi:∀cs b,oi.op≠.select cs b) (hsj:∀cs b,oj.op≠.select cs b)
 (hy:YI P ops ld w0 oi v a) (h:qx P n ops j K (a.put oi.dst v) w):
 qx P n ops j (λa' w'=>YI P ops ld w0 oi v a'/\K (a'.put oi.dst v) w') a w:=by
 obtain⟨h1,h2,h3⟩:=Oper.apart_spec hap;have keep:∀(a:Act),YI P ops ld w0 oi v a->∀u,YI P ops ld w0 oi v (a.put oj.dst u):=λa hy u=>
  hy.of_same (execOp_put oi hsi a oj.dst u h3) (wanted_put oi a oj.dst u h3)
 have keepD:∀d,YI P ops ld w0 oi v { a with defers:=d :: a.defers }:=λd=>hy.of_same rfl rfl
 unfold qx at *;simp only[hj]at *;rw[wanted_put oj a oi.dst v h1]at h;split
 .rename_i hw;rw[if_pos hw]at h;rw[execOp_put oj hsj a oi.dst v h1]at h;generalize (execOp a.eval oj).run P w=r at *;cases r with
  | ok m w'=>
    cases m<;>simp only[Oper.uponIn]at h ⊢
    case value u=>exact⟨keep a hy u,by rw[<-Act.put_comm a v u h2];exact h⟩
    case skip=>exact⟨keep a hy _,by rw[<-Act.put_comm a v undef h2];exact h⟩
    case defer d=>
     refine⟨(keep _ (keepD d) _),?_⟩;rw[<-Act.put_comm _ v undef h2,<-Act.put_defers];exact h
    case enter f args=>
     refine⟨h.1,h.2.mono λe w'' he=>?_⟩
     cases e with
     | returned u=>exact⟨keep a hy u,by rw[<-Act.put_comm a v u h2];exact he⟩
     | panicked c=>exact he
     | outgrown=>exact he
    case row r args=>
     refine⟨h.1,RowsIn.mono h.2 λu w'' he=>?_⟩
     exact⟨keep a hy u,by rw[<-Act.put_comm a v u h2];exact he⟩
    case round l f tmps GI body=>
     refine⟨h.1,RoundIn.mono h.2 λe w'' he=>?_⟩
     cases e with
     | returned u=>exact⟨keep a hy u,by rw[<-Act.put_comm a v u h2];exact he⟩
     | panicked c=>exact he
     | outgrown=>exact he
    all_goals exact h
  | halt x w'=>cases x<;>simp only[Oper.uponIn]at h ⊢<;>exact h
 .rename_i hw;rw[if_neg hw]at h;exact⟨keep a hy _,by rw[<-Act.put_comm a v undef h2];exact h⟩
theorem P5{R:Act->World->Prop}{ld:Bool}{w0:World}{oi:Oper}{bl:List Nat} (hi:ops[i]?=some oi) (hsel:∀(j:Nat) (o:Oper) cs b,ops[j]?=some o->o.op≠.select cs b)
 (hq:sf i=true):
 ∀(fuel:Nat) (listed:Array Bool) (a:Act) (w:World),
   (∀j oj,ops[j]?=some oj->j≠i->listed.getD j true=false->(∀e∈oj.after,Region.binds md e=true->e.on≠i)->oi.apart ops oj=true) ->
   (ld=true->Waits md ops listed i bl/\∀j,j≠i->listed.getD j true=false->sf j=false->j∈bl) ->
   i∈Region.ready md ops listed->YI P ops ld w0 oi v a->(ld=true->nG w0 w) ->
   JQ P n md ops sf R fuel (listed.setIfInBounds i true) (a.put oi.dst v) w->JQ P n md ops sf R (fuel+1) listed a w:=by
 intro fuel
 induction fuel with
 | zero=>
   intro listed a w _ _ hr hy hg H;refine⟨λh=>(by rw[h]at hr;cases hr),λj hj=>?_⟩
   by_cases hji:j=i
   .subst hji;exact hy.qx hi hg ⟨λ_=>nG.refl w,H⟩
   .have:=ready_mono hj hji;rw[H.1]at this;cases this
 | succ fuel ih=>
   intro listed a w hfree hbl hr hy hg H;refine⟨λh=>(by rw[h]at hr;cases hr),λj hj=>?_⟩
   by_cases hji:j=i
   .subst hji;exact hy.qx hi hg ⟨λ_=>nG.refl w,H⟩
   .have h1:=H.2 j (ready_mono hj hji);obtain⟨hjun,oj,hoj,hall⟩:=mem_ready.1 hj;have XQ:=(mem_ready.1 hr).1;have hnot:∀e∈oj.after,Region.binds md e=true->e.on≠i:=λe he hb heq=>by
     have h1:=hall e he hb;rw[heq,vO XQ]at h1;cases h1
    have h2:=Yp hoj (hfree j oj hoj hji hjun hnot) (λcs b=>hsel i oi cs b hi) (λcs b=>hsel j oj cs b hoj) hy h1
    have hfree':∀k ok,ops[k]?=some ok->k≠i->(listed.setIfInBounds j true).getD k true=false ->
     (∀e∈ok.after,Region.binds md e=true->e.on≠i)->oi.apart ops ok=true:=λk ok hk hki hun hno=>by
     refine hfree k ok hk hki ?_ hno
     by_cases iY:j=k
     .subst iY;exact hjun
     .rw[getD_set_ne true iY]at hun;exact hun
    have XR:ld=true->j∉bl:=λe hm=>Ie XQ (hbl e).1 hm hj
    have hsj:ld=true->sf j=true:=λe=>by
     cases hs:sf j with
     | true=>rfl
     | false=>exact absurd ((hbl e).2 j hji hjun hs) (XR e)
    have aiN:ld=true->Waits md ops (listed.setIfInBounds j true) i bl/\∀k,k≠i->(listed.setIfInBounds j true).getD k true=false->sf k=false->k∈bl:=λe=>by
     refine⟨λk hk=>?_,λk hki hun hs=>?_⟩
     .obtain⟨g1,g2⟩:=(hbl e).1 k hk;refine⟨?_,g2⟩;rw[getD_set_ne true (λhh=>XR e (by rw[hh];exact hk))];exact g1
     .refine(hbl e).2 k hki ?_ hs
      by_cases iY:j=k
      .subst iY;exact hjun
      .rw[getD_set_ne true iY]at hun;exact hun
    refine Il (λa' w' h3=>⟨h3.2.1,ih (listed.setIfInBounds j true) a' w' hfree' aiN (ready_mono hr (Ne.symm hji)) h3.1 (λe=>(hg e).trans (h3.2.1 (hsj e))) ?_⟩) h2
    rw[Array.setIfInBounds_comm _ _ hji];exact h3.2.2
end
abbrev Dk(cx:Cx) (t:TypeId) (K:IntKind->TypeId->TI->Sh->Prop):Prop:=match pR cx.ti t with
 | some i=>match i.desc with
   | .map kt et=>match pR cx.ti kt with
     | some ik=>match ik.desc with
       | .int kk=>match pR cx.ti et with
         | some ie=>match ie.iO with
           | some sh=>K kk et ie sh
           | none=>False
         | none=>False
       | _=>False
     | none=>False
   | _=>False
 | none=>False
abbrev Yq(cx:Cx) (t:TypeId):Bool:=match pR cx.ti t with
 | some i=>match i.desc with
   | .map _ _=>true
   | _=>false
 | none=>false
abbrev SB(cx:Cx) (s:St) (x:Operand) (kk:IntKind) (sh:Sh):Option (List (Int×sh.den)):=match bT cx s [] x with
 | some (.one (.c (.one s' d)))=>jE s' d (.mp kk sh)
 | some (.one (.c (.row i)))=>match eX s.T i with
   | some ([],.mp kk' sh' l)=>jE (.mp kk' sh') l (.mp kk sh)
   | _=>none
 | some (.one (.c (.v (.map none))))=>some []
 | _=>none
abbrev Yr(cx:Cx) (s:St) (x:Operand) (kk:IntKind):Option Int:=match bT cx s [] x with
 | some (.one (.c (.v (.int k n))))=>match Nat.beq (Ed k) (Ed kk) with
   | true=>some n
   | false=>none
 | _=>none
def ER{α:Type} (l:List (Int×α)) (n:Int) (z:α):α:=(CP l n).getD z
def P6{α:Type} (l:List (Int×α)) (n:Int):Bool:=(CP l n).isSome
abbrev JR(cx:Cx) (s:St) (o:Op) (K:bg->Prop):Option Prop:=match o with
 | .lookup t m x ok=>some (Dk cx t λkk _ _ sh=>match SB cx s m kk sh with
   | none=>False
   | some l=>match Yr cx s x kk with
     | none=>False
     | some n=>match ok with
       | false=>K (.one (iH sh (ER l n (qO sh))))
       | true=>K (.iJ [iH sh (ER l n (qO sh)),.c (.v (.bool (P6 l n)))]))
 | .call c=>match c.callee with
   | .builtin .len=>match tl c.argTypes with
     | [t]=>match Yq cx t with
       | false=>none
       | true=>some (Dk cx t λkk _ _ sh=>match tl c.args with
         | [m]=>match SB cx s m kk sh with
           | none=>False
           | some l=>K (.one (.c (.v (.int .i64 l.length))))
         | _=>False)
     | _=>none
   | _=>none
 | _=>none
abbrev ai8(cx:Cx) (s:St) (o:Oper) (K:St->Prop):Option Prop:=none
section
variable {cx:Cx}{P:Program}{N:Nat}{B:Base}{h0:FH}{s:St}{h:FH}{β:List RV}{w:World}{a:Act}{o:Oper}{K:St->Prop}
structure ai9 (P:Program) (t:TypeId) (kk:IntKind) (et:TypeId) (ie:TI) (sh:Sh):Prop where
 und:∃kt,P.underlying t=some (.map kt et)/\P.underlying kt=some (.int kk)
 ei:aJ P et ie
 es:ie.iO=some sh
theorem ES(hc:bV P cx.ti){K:IntKind->TypeId->TI->Sh->Prop} (k:Dk cx t K):∃kk et ie sh,K kk et ie sh/\ai9 P t kk et ie sh:=by
 unfold Dk at k;split at k
 .rename_i i hi;split at k
  .rename_i kt et hd;split at k
   .rename_i ik hik;split at k
    .rename_i kk hkk;split at k
     .rename_i ie hie;split at k
      .rename_i sh hsh;exact⟨kk,et,ie,sh,k,⟨kt,(hc.get hi).GZ hd rfl,(hc.get hik).GZ hkk rfl⟩,hc.get hie,hsh⟩
      .cases k
     .cases k
    .cases k
   .cases k
  .cases k
 .cases k
theorem ad3{et:TypeId}{ie:TI}{sh:Sh} (k:aJ P et ie) (hs:ie.iO=some sh) (h:FH) (w:World):∃z,(zeroValue et).run P w=.ok z w/\DW h sh z (qO sh):=by
 obtain⟨inf,z,h1,h2,h3,h4,h5⟩:=k.info;obtain⟨r,ha⟩:=k.Xw sh hs;refine⟨z,by simp[zeroValue,typeInfo,h1,h4],ie.zero,?_,yK r⟩
 have hz:=k.anb inf z h1 h4;rw[<-ha]at hz;unfold mkV;cases z with
 | agg cs=>
   have hz:sh.isAgg=true:=hz.symm;rw[hz,if_pos rfl];simp[Value.cells]at h5;rw[h5]
 | _=>
   have hz:sh.isAgg=false:=hz.symm;rw[hz,if_neg (by simp)]
   have h6:=tX Array.toList h5;simp only[Value.cells]at h6;rw[show ie.zero=_ from h6.symm];rfl
theorem DW.cn{sh:Sh}{d:sh.den} (x:DW h sh y d):dD h β (iH sh d) y:=by
 obtain⟨cs,rfl,r⟩:=x;exact jI sh r
def Yt(h:FH) (w:World) (kk:IntKind) (sh:Sh) (y:Value) (l:List (Int×sh.den)):Prop:=
 (y=.map none/\l=[])\/∃b es c,y=.map (some b)/\w.heap[b]?=some (.map es c)/\tY kk (DW h sh) es c l
theorem aja{k1:IntKind}{s1 sh:Sh}{l1:List (Int×s1.den)}{l:List (Int×sh.den)} (e:jE (.mp k1 s1) l1 (.mp kk sh)=some l):k1=kk/\∃e':s1=sh,(e'▸l1:List (Int×sh.den))=l:=by
 obtain⟨e1,e2⟩:=kJ e;cases e1;exact⟨rfl,rfl,e2⟩
theorem MQ(aj:Sat N B h0 s h β w a) (hg:aI cx.gd h){x:Operand}{sh:Sh}{l:List (Int×sh.den)} (e:SB cx s x kk sh=some l):Yt h w kk sh (a.eval x) l:=by
 have tr:gv s.gl []=true:=rfl;unfold SB at e;split at e
 .rename_i s' d hx;have c:dD h β (.c (.one s' d)) (a.eval x):=aK aj hg tr hx;obtain⟨e1,e2⟩:=kJ e;subst e1;simp only at e2;subst e2;obtain⟨v,hv,r⟩:=c.1;have hv:a.eval x=v:=by simpa using hv
  rw[hv];rcases r with r | ⟨b,es,cc,r1,r2,r3⟩
  .exact .inl r
  .exact .inr ⟨b,es,cc,r1,adx (aj.ok.hw b 0 _ r2),r3⟩
 .rename_i i hx;have c:dD h β (.c (.row i)) (a.eval x):=aK aj hg tr hx;split at e
  .rename_i kk' sh' l' hT;obtain⟨e1,e2,e3⟩:=aja e;subst e1;subst e2;simp only at e3;subst e3;exact .inr (aj.ok.ahN (bG hT tr) c.1)
  .cases e
 .rename_i hx;have c:dD h β (.c (.v (.map none))) (a.eval x):=aK aj hg tr hx;cases e;exact .inl ⟨c.1.1,rfl⟩
 .cases e
theorem Yu(aj:Sat N B h0 s h β w a) (hg:aI cx.gd h){x:Operand}{n:Int} (e:Yr cx s x kk=some n):a.eval x=.int kk n:=by
 unfold Yr at e;split at e
 .rename_i k m hx;have c:dD h β (.c (.v (.int k m))) (a.eval x):=aK aj hg (show gv s.gl []=true from rfl) hx
  split at e
  .rename_i hk;cases e;rw[c.1.1,pJ hk]
  .cases e
 .cases e
theorem JU{kt:TypeId}{n:Int} (hk:P.underlying kt=some (.int kk)) (b:Bool) (w:World):(Instr.checkKey b 10000 kt (.int kk n)).run P w=.ok () w:=
 MapKept.run_checkKey (n:=9999) (k:=.int kk n) hk (show kk=kk from rfl) b
theorem Yv{et:TypeId}{ie:TI}{sh:Sh} (mt:ai9 P t kk et ie sh){l:List (Int×sh.den)} (m:Yt h w kk sh y l) (n:Int) (ok:Bool):
 ∃v,DW h sh v (ER l n (qO sh))/\(Instr.lookup t y (.int kk n) ok).run P w=.ok (if ok then .tuple #[v,.bool (P6 l n)] else v) w:=by
 obtain⟨kt,hu,hk⟩:=mt.und;obtain⟨z,hz,dz⟩:=ad3 mt.ei mt.es h w;rcases m with⟨rfl,rfl⟩ | ⟨b,es,c,rfl,hb,m⟩
 .refine⟨z,dz,?_⟩;have hf:=MapKept.run_findKey (P:=P) (w:=w) (k:=.int kk n) (l:=[]) hk rfl;simp[Instr.lookup,run_underlying hu,JU hk,hf,hz,P6,CP,Result.andThen]
 .rcases m.find kk n with⟨j,e,d,e1,e2,e3,e4,e5⟩ | ⟨e1,e2⟩
  .refine⟨e.val,by rw[show ER l n (qO sh)=d by simp[ER,e2]];exact e3,?_⟩
   have hf:=MapKept.run_findKey (P:=P) (w:=w) hk e5;simp[Instr.lookup,run_underlying hu,JU hk,MapKept.run_getObj_map hb,hf,P6,e2,Result.andThen]
  .refine⟨z,by rw[show ER l n (qO sh)=qO sh by simp[ER,e1]];exact dz,?_⟩
   have hf:=MapKept.run_findKey (P:=P) (w:=w) hk e2;simp[Instr.lookup,run_underlying hu,JU hk,MapKept.run_getObj_map hb,hf,hz,P6,e1,Result.andThen]
theorem Yw{et:TypeId}{ie:TI}{sh:Sh} (mt:ai9 P t kk et ie sh){l:List (Int×sh.den)} (m:Yt h w kk sh y l){ts:Array TypeId} (ht:ts=#[t]):
 (Builtin.len_ ts ty #[y]).run P w=.ok (.int .i64 l.length) w:=by
 obtain⟨kt,hu,hk⟩:=mt.und;subst ht;rcases m with⟨rfl,rfl⟩ | ⟨b,es,c,rfl,hb,m⟩
 .simp[Builtin.len_,run_underlying hu,goInt]
 .simp[Builtin.len_,run_underlying hu,MapKept.run_getObj_map hb,goInt,m.len]
theorem MR(hc:bV P cx.ti) (aj:Sat N B h0 s h β w a) (hg:aI cx.gd h){K:bg->Prop} (hp:JR cx s o.op K=some p) (k:p):
 ∃e v,K e/\(execOp a.eval o).run P w=.ok (.value v) w/\jS h β e v:=by
 unfold JR at hp;split at hp
 .rename_i t m x okb ho;cases hp;obtain⟨kk,et,ie,sh,k,mt⟩:=ES hc k;split at k
  .cases k
  rename_i l hl;split at k
  .cases k
  rename_i n hn;have hm:=MQ aj hg hl;have hx:=Yu aj hg hn;obtain⟨v,dv,run⟩:=Yv mt hm n okb;have anq:(execOp a.eval o).run P w=.ok (.value (if okb then .tuple #[v,.bool (P6 l n)] else v)) w:=by
   simp only[execOp,ho,hx,Sem.run_bind,run,Result.andThen_ok,Sem.run_pure]
  split at k
  .exact⟨_,_,k,anq,dv.cn⟩
  .exact⟨_,_,k,anq,[v,.bool (P6 l n)],rfl,dv.cn,⟨⟨rfl,rfl,rfl⟩,rfl,rfl⟩,trivial⟩
 .rename_i c ho;split at hp
  .rename_i cZ;split at hp
   .rename_i t ht;split at hp
    .cases hp
    .cases hp;obtain⟨kk,et,ie,sh,k,mt⟩:=ES hc k;split at k
     .rename_i m hm0;split at k
      .cases k
      rename_i l hl;have hm:=MQ aj hg hl;refine⟨_,_,k,?_,⟨⟨rfl,rfl,rfl⟩,rfl,rfl⟩⟩;simp[execOp,ho,resolve,cZ,invoke,builtin,iI hm0,Yw mt hm (iI ht)]
     .cases k
   .cases hp
  .cases hp
 .cases hp
theorem aO.adG{α β:Type}{R:α->β->Prop}:∀{l:List α}{m:List β}{a:α},aO R l m->a∈l->∃b∈m,R a b
 | [],_,_,_,ha=>by cases ha
 | x :: l,y :: m,a,⟨h1,h2⟩,ha=>by
   rcases lU.1 ha with rfl | ha
   .exact⟨y,by simp,h1⟩
   .obtain⟨b,hb,r⟩:=aO.adG h2 ha;exact⟨b,by simp[hb],r⟩
theorem ad4(hc:bV P cx.ti) (aj:Sat N B h0 s h β w a) (hg:aI cx.gd h) (hd:lV N o.dst=true) (hp:ai8 cx s o K=some p) (k:p):o.guard=none/\BU P N B h0 h w a o true K:=by
 unfold ai8 at hp;cases hp
end
end Go.l9
