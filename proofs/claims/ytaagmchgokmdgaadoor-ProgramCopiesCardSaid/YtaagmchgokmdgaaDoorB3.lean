/- Part 3 of the proof. Conditions: the rows'. -/
import Derived.Test.YtaagmchgokmdgaaDoorB2
import Derived.LoopNIn
import Derived.Deep.LoopGhost
set_option linter.unusedSimpArgs false
set_option linter.unusedVariables false
set_option maxRecDepth 1000000
set_option maxHeartbeats 8000000
namespace Go.lZ
open Go Go.RowKit
variable {h h':FH}{β:List RV}{w w':World}{i j so g off k b n:Nat}{v y:Value}{T:List ay}{r:ay}{t tt ty el:TypeId}{e:Sh}{hs d:List Nat}{cs:List Value}{c:Call}{l:Array Bool}{ops:Array Oper}{P:Program}{o:Oper}{a:Act}{Q:Exit->Act->World->Prop}{K:Act->World->Prop}
abbrev SC.aa9(i:Nat):SC->Bool
 | .sub j _=>!Nat.beq i j
 | .jC j _ _ _ _=>!Nat.beq i j
 | _=>true
abbrev pX(i:Nat) (x:SC):SC:=match SC.aa9 i x with
 | true=>x
 | false=>.junk
abbrev mV(f:SC->SC):SV->SV
 | .c x=>.c (f x)
 | .agg xs=>.agg (dB f xs)
 | v=>v
abbrev mE(f:SC->SC):bK->bK
 | .one v=>.one (mV f v)
 | .l7 vs=>.l7 (dB (mV f) vs)
abbrev mR(f:SC->SC):ay->ay
 | .blk t cs=>.blk t (dB f cs)
 | r=>r
abbrev uI(f:SC->SC):List (Nat×Gd×bK)->List (Nat×Gd×bK)
 | []=>[]
 | (k,g,e) :: l=>(k,g,mE f e) :: uI f l
abbrev mT(f:SC->SC):List (Gd×ay)->List (Gd×ay)
 | []=>[]
 | (g,r) :: l=>(g,mR f r) :: mT f l
theorem yL{R R':SC->Value->Prop}{f:SC->SC} (hR:∀x y,R x y->R' (f x) y):∀{xs:List SC}{ys:List Value},aG (λx y=>R x y/\bM y) xs ys->aG (λx y=>R' x y/\bM y) (dB f xs) ys
 | [],[],_=>trivial
 | _ :: _,_ :: _,⟨a,b⟩=>⟨⟨hR _ _ a.1,a.2⟩,yL hR b⟩
theorem bI.map{β':List RV}{f:SC->SC} (le:h.le h') (hR:∀x y,bU h β x y->bU h' β' (f x) y):∀{x:SV}{y:Value},bI h β x y->bI h' β' (mV f x) y
 | .c _,_,c=>⟨hR _ _ c.1,c.2⟩
 | .agg _,_,⟨ys,e,a⟩=>⟨ys,e,yL hR a⟩
 | .dat s _,_,⟨g,cs,e,r⟩=>⟨g,cs,e,r.mono le s⟩
 | .und,_,c=>c
theorem gJ.map{h h':FH}{β β':List RV}{f:SC->SC} (le:h.le h') (hR:∀x y,bU h β x y->bU h' β' (f x) y):∀{x:bK}{y:Value},gJ h β x y->gJ h' β' (mE f x) y
 | .one _,_,c=>bI.map le hR c
 | .l7 _,_,⟨ys,e,a⟩=>⟨ys,e,go a⟩
where
 go:∀{xs:List SV}{ys:List Value},aG (bI h β) xs ys->aG (bI h' β') (dB (mV f) xs) ys
  | [],[],_=>trivial
  | _ :: _,_ :: _,⟨a,b⟩=>⟨bI.map le hR a,go b⟩
theorem Holds.map{β':List RV}{f:SC->SC} (le:h.le h') (hR:∀x y,bU h β x y->bU h' β' (f x) y):∀{r:ay}{v:RV},Holds h β w r v->(r.live=true->∀b,v.has b->w'.heap[b]?=w.heap[b]?)->Holds h' β' w' (mR f r) v
 | .blk _ _,.blk b,⟨ys,e,a⟩,k=>⟨ys,by rw[k rfl b (iy.2 rfl)];exact e,yL hR a⟩
 | .row _ _ _,.row v,x,k=>jG.move le x λb hb=>k rfl b (aN.2 hb)
 | .obj _ s _,.blk b,⟨ys,e,r⟩,k=>⟨ys,by rw[k rfl b (iy.2 rfl)];exact e,r.mono le s⟩
 | .deep _ _ _ _ _ _ _ _,.deep _ _,x,k=>dh.move le x (k rfl)
 | .mp k' s l,.row v,x,k=>Holds.move (r:=.mp k' s l) (v:=.row v) (β':=β') (β:=β') le (Ext.refl _) x k
 | .Gj k' s l n,.deep v us,x,k=>Holds.move (r:=.Gj k' s l n) (v:=.deep v us) (β':=β') (β:=β') le (Ext.refl _) x k
 | .it k' s l dn,.blk v,x,k=>Holds.move (r:=.it k' s l dn) (v:=.blk v) (β':=β') (β:=β') le (Ext.refl _) x k
 | .Ei _ _ _ _,.row v,x,k=>Xn.move x λb hb=>k rfl b (aN.2 hb)
 | .Aw _ _ _ _,.deep _ _,x,k=>xR.move le x (k rfl)
 | .gone,_,_,_=>trivial
theorem lS(f:SC->SC) (r:ay):(mR f r).live=r.live:=by cases r<;>rfl
theorem OG{f:SC->SC}:∀{l:List (Nat×Gd×bK)}{t:Nat}{G:Gd}{e:bK},dZ (uI f l) t=some (G,e)->∃e0,dZ l t=some (G,e0)/\e=mE f e0
 | [],_,_,_,h=>by simp[uI,dZ]at h
 | (k,g,e0) :: l,t,G,e,h=>by
   simp only[uI]at h;rw[aP]at h ⊢
   split at h
   .rename_i hk;cases h;exact⟨e0,by rw[if_pos hk],rfl⟩
   .rename_i hk;rw[if_neg hk];exact OG h
theorem OH{f:SC->SC}:∀{l:List (Nat×Gd×bK)}{t:Nat}{G:Gd}{e:bK},dZ l t=some (G,e)->dZ (uI f l) t=some (G,mE f e)
 | [],_,_,_,h=>by simp[dZ]at h
 | (k,g,e0) :: l,t,G,e,h=>by
   simp only[uI];rw[aP]at h ⊢
   split at h
   .rename_i hk;cases h;rw[if_pos hk]
   .rename_i hk;rw[if_neg hk];exact OH h
theorem yM(gl:List Bool) (f:SC->SC):∀{T:List (Gd×ay)},eff gl (mT f T)=(eff gl T).map (mR f)
 | []=>rfl
 | (g,r) :: l=>by
   simp only[mT,eff,Eb,yM gl f (T:=l)]
   congr 1
   cases gv gl g<;>rfl
theorem yN{f:SC->SC}{p:Gd×ay}:∀{T:List (Gd×ay)},p∈mT f T->∃q∈T,q.1=p.1
 | [],h=>by simp[mT]at h
 | (g,r) :: t,h=>by
   simp only[mT,iV]at h;rcases h with rfl | h
   .exact⟨(g,r),by simp,rfl⟩
   .obtain⟨q,h1,h2⟩:=yN h;exact⟨q,by simp[h1],h2⟩
section
variable {cx:Cx}{P:Program}{N:Nat}{B:Base}{h0:FH}{s:St}{h:FH}{β:List RV}{w:World}{a:Act}{o:Oper}{K:St->Prop}
theorem Sat.map(ah:Sat N B h0 s h β w a){f:SC->SC}{T':List (Gd×ay)}{h':FH}{β':List RV}{w':World} (le:h.le h') (hf:∀b,f (.v (.bool b))=.v (.bool b)) (hR:∀x y,bU h β x y->bU h' β' (f x) y)
 (ok:OK B h0 (eff s.gl T') h' β' w') (gT:∀p∈T',pz s.gl.length p.1=true):Sat N B h0 { s with T:=T',env:=uI f s.env } h' β' w' a:=by
 refine⟨ok,?_,?_,ah.defers,ah.sz,?_,gT⟩
 .intro t G e ht;obtain⟨e0,h1,rfl⟩:=OG ht;obtain⟨z,q1,q2,q3⟩:=ah.env t G e0 h1;exact⟨z,q1,λhG=>gJ.map le hR (q2 hG),q3⟩
 .intro d i hi;obtain⟨G,b,q1,q2⟩:=ah.gs d i hi;have:=OH (f:=f) q1;simp only[mE,mV,hf]at this;exact⟨G,b,this,q2⟩
 .intro t G e ht;obtain⟨e0,h1,rfl⟩:=OG ht;exact ah.gb t G e0 h1
theorem bT{u v:RV} (hu:β[i]?=some u):(β.set i v)[j]?=if j=i then some v else β[j]?:=by
 by_cases hj:j=i
 .subst hj;rw[if_pos rfl,mJ (fM.1 hu).1]
 .rw[if_neg hj,jU (Ne.symm hj)]
theorem Ht(h:(!Nat.beq i j)=true):j≠i:=by
 rintro rfl;simp at h
theorem bU.js{us us':Nat->Value}{u:RV} (hu:β[i]?=some u) (hd:u=.deep v us\/u=.row v){x:SC} (c:bU h β x y):bU h (β.set i (.deep v us')) (pX i x) y:=by
 have hsl:u.sl=some v:=by rcases hd with rfl | rfl<;>rfl
 have hbl:u.block=(RV.deep v us').block:=by rcases hd with rfl | rfl<;>rfl
 have nb:∀b,u≠.blk b:=by rcases hd with rfl | rfl<;>intro b e<;>cases e
 unfold pX;split
 .rename_i hf;cases x with
  | v _=>exact c
  | sl _ _=>exact c
  | fp _ _=>exact c
  | one _ _=>exact c
  | abs _=>exact c
  | junk=>trivial
  | own j off=>
    obtain⟨b,e,e'⟩:=c;refine⟨b,?_,e'⟩;rw[bT hu,if_neg]
    .exact e
    .rintro rfl;rw[hu]at e;cases e;exact nb b rfl
  | row j=>
    obtain⟨z,e,e'⟩:=c
    by_cases hj:j=i
    .subst hj;rw[hu]at e;cases e;exact⟨.deep v us',by rw[bT hu,if_pos rfl],by rw[hsl]at e';exact e'⟩
    .exact⟨z,by rw[bT hu,if_neg hj];exact e,e'⟩
  | iw j k sz off=>
    obtain⟨z,g,e,e',e2⟩:=c
    by_cases hj:j=i
    .subst hj;rw[hu]at e;cases e;exact⟨.deep v us',g,by rw[bT hu,if_pos rfl],by rw[<-hbl];exact e',e2⟩
    .exact⟨z,g,by rw[bT hu,if_neg hj];exact e,e',e2⟩
  | sub j k=>
    obtain⟨z,o7,e,e'⟩:=c;exact⟨z,o7,by rw[bT hu,if_neg (Ht hf)];exact e,e'⟩
  | jC j k m sz off=>
    obtain⟨z,o7,g,e,e'⟩:=c;exact⟨z,o7,g,by rw[bT hu,if_neg (Ht hf)];exact e,e'⟩
 .trivial
theorem OK.Hu(ok:OK B h0 T h β w){r':ay}{u v:RV}{f:SC->SC}
 (hT:T[i]?=some r) (hl:r.live=true) (hu:β[i]?=some u){row:Option Nat} (hg:Gb w w' row) (iI:∀k,row=some k->u.has k){X:Nat->Prop}
 (hX:∀b,X b->B.al b/\b < w.heap.size/\(∀o,h b o=none)/\∀(j:Nat) (rj:ay) (vj:RV),j≠i->T[j]?=some rj->rj.live=true->β[j]?=some vj->¬vj.has b)
 (hv:∀b,v.has b->u.has b\/X b\/(w.heap.size<=b/\b < w'.heap.size)) (hC:∀x y,bU h β x y->bU h (β.set i v) (f x) y) (hold:Holds h (β.set i v) w' r' v):
 OK B h0 ((T.map (mR f)).set i r') h (β.set i v) w':=by
 have hi:i < T.length:=(fM.1 hT).1;have hi':i < β.length:=by rw[ok.len];exact hi
 have xU:∀b,u.has b->B.al b/\b < w.heap.size/\∀o,h b o=none:=λb hb=>ok.own i r u b hT hl hu hb
 have nf:∀b,w.heap.size<=b->∀o,h b o=none:=by
  intro b hb o;cases hh:h b o with
  | none=>rfl
  | some x=>have:=jV (ok.hw b o x hh);omega
 have NQ:∀b,v.has b->B.al b/\b < w'.heap.size/\∀o,h b o=none:=by
  intro b hb;rcases hv b hb with hb' | hb' | ⟨h1,h2⟩
  .obtain⟨a1,a2,a3⟩:=xU b hb';exact⟨a1,Ee a2 hg.size,a3⟩
  .obtain⟨a1,a2,a3,_⟩:=hX b hb';exact⟨a1,Ee a2 hg.size,a3⟩
  .exact⟨B.up _ (nV ok.below.size h1),h2,nf b h1⟩
 have apart:∀j rj vj b,j≠i->T[j]?=some rj->rj.live=true->β[j]?=some vj->vj.has b->v.has b->False:=by
  intro j rj vj b hj ej lj gK hb hb2;rcases hv b hb2 with hb' | hb' | ⟨h1,h2⟩
  .exact hj (ok.inj j i rj r vj u b ej lj hT hl gK hu hb hb')
  .exact(hX b hb').2.2.2 j rj vj hj ej lj gK hb
  .have:=(ok.own j rj vj b ej lj gK hb).2.1;omega
 have get:∀{j:Nat}{rj:ay},j≠i->((T.map (mR f)).set i r')[j]?=some rj->∃r0,T[j]?=some r0/\rj=mR f r0:=by
  intro j rj hj e;rw[jU (Ne.symm hj),Ef]at e;cases hh:T[j]? with
  | none=>rw[hh]at e;cases e
  | some r0=>rw[hh]at e;cases e;exact⟨r0,rfl,rfl⟩
 exact {
  below:=ok.below.grown hg.togrownBy λk e=>(xU k (iI k e)).1
  dr:=nV ok.dr hg.dr
  len:=by simp[ok.len]
  holds:=by
   intro j rj vj ej gK
   by_cases hj:j=i
   .subst hj;rw[mJ (by simpa using hi)]at ej
    rw[mJ hi']at gK;cases ej;cases gK;exact hold
   .obtain⟨r0,e0,rfl⟩:=get hj ej;rw[jU (Ne.symm hj)]at gK;refine(ok.holds j r0 vj e0 gK).map (FH.le.refl h) hC λhlj b hb=>hg.block b (ok.own j r0 vj b e0 hlj gK hb).2.1 λe=>hj ?_
    exact ok.inj j i r0 r vj u b e0 hlj hT hl gK hu hb (iI b e.symm)
  own:=by
   intro j rj vj b ej hlj gK hb
   by_cases hj:j=i
   .subst hj;rw[mJ hi']at gK;cases gK;exact NQ b hb
   .obtain⟨r0,e0,rfl⟩:=get hj ej;rw[jU (Ne.symm hj)]at gK;obtain⟨a1,a2,a3⟩:=ok.own j r0 vj b e0 (by rw[<-lS f];exact hlj) gK hb
    exact⟨a1,Ee a2 hg.size,a3⟩
  inj:=by
   intro j k r1 r2 u1 u2 b e1 l1 e2 l2 e3 e4 b1 b2
   by_cases hj:j=i<;>by_cases hk:k=i
   .rw[hj,hk]
   .exfalso;subst hj;rw[mJ hi']at e3;cases e3;obtain⟨r0,e0,rfl⟩:=get hk e2;rw[jU (Ne.symm hk)]at e4;exact apart k r0 u2 b hk e0 (by rw[<-lS f];exact l2) e4 b2 b1
   .exfalso;subst hk;rw[mJ hi']at e4;cases e4;obtain⟨r0,e0,rfl⟩:=get hj e1;rw[jU (Ne.symm hj)]at e3;exact apart j r0 u1 b hj e0 (by rw[<-lS f];exact l1) e3 b1 b2
   .obtain⟨r0,e0,rfl⟩:=get hj e1;obtain⟨r0',e0',rfl⟩:=get hk e2;rw[jU (Ne.symm hj)]at e3;rw[jU (Ne.symm hk)]at e4;exact ok.inj j k r0 r0' u1 u2 b e0 (by rw[<-lS f];exact l1) e0' (by rw[<-lS f];exact l2) e3 e4 b1 b2
  hle:=ok.hle
  hw:=frozen_kept ok.hw hg λk e=>(xU k (iI k e)).2.2
  hg:=ok.hg
  kn:=ok.kept hg λb e=>(ok.holds i r u hT hu).cells hl (iI b e) }
theorem OK.adv(ok:OK B h0 T h β w){v:RV}
 (hX:∀b,v.has b->B.al b/\b < w.heap.size/\(∀o,h b o=none)/\∀(j:Nat) (rj:ay) (vj:RV),T[j]?=some rj->rj.live=true->β[j]?=some vj->¬vj.has b) (hold:Holds h (β++[v]) w r v):
 OK B h0 (T++[r]) h (β++[v]) w where
 below:=ok.below
 dr:=ok.dr
 len:=by simp[ok.len]
 holds:=by
  intro i r' v' e e';rcases aj e with⟨hi,e⟩ | ⟨hi,rfl⟩
  .rcases aj e' with⟨_,e'⟩ | ⟨hj,_⟩
   .exact(ok.holds i r' v' e e').move (FH.le.refl h) (Ext.append _ _) λhl b hb=>rfl
   .have:=ok.len;omega
  .rcases aj e' with⟨hj,e'⟩ | ⟨_,rfl⟩
   .have:=ok.len;omega
   .exact hold
 own:=by
  intro i r' v' b e hl e' hb;rcases aj e' with⟨hj,e'⟩ | ⟨hj,rfl⟩
  .rcases aj e with⟨_,e⟩ | ⟨hi,rfl⟩
   .exact ok.own i r' v' b e hl e' hb
   .have:=ok.len;omega
  .obtain⟨h1,h2,h3,_⟩:=hX b hb;exact⟨h1,h2,h3⟩
 inj:=by
  intro i j r1 r2 u v' b ei hl1 ej hl2 eu ev hu hv';have L:=ok.len;rcases aj ei with⟨hi,ei⟩ | ⟨hi,_⟩<;>rcases aj ej with⟨hj,ej⟩ | ⟨hj,_⟩<;>
   rcases aj eu with⟨hi',eu⟩ | ⟨hi',rfl⟩<;>rcases aj ev with⟨hj',ev⟩ | ⟨hj',rfl⟩<;>first
    | omega
    | exact ok.inj i j r1 r2 u v' b ei hl1 ej hl2 eu ev hu hv'
    | exact((hX b hv').2.2.2 i r1 u ei hl1 eu hu).elim
    | exact((hX b hu).2.2.2 j r2 v' ej hl2 ev hv').elim
 hle:=ok.hle
 hw:=ok.hw
 hg:=ok.hg
 kn:=ok.kn
abbrev yO:Nat->Bool:=λ_=>false
def sJ:Nat->Value:=λ_=>jW
theorem lq(j:Nat):ak (sJ j)=none:=rfl
theorem Dj{s:Sh}{l:List s.den} (x:jG h w t s l v):dh h w t s l tt e so yO [] v sJ:=by
 refine⟨λj k b hb=>(by rw[lq]at hb;cases hb),λj b hb=>(by rw[lq]at hb;cases hb),?_⟩
 rcases x with x | x | ⟨g,cap,cur,e0,e1,e2,e3,e4,r⟩
 .exact .inl x
 .exact .inr (.inl x)
 .refine .inr (.inr ⟨g,cap,cur,e0,e1,e2,e3,e4,λj=>by rw[lq];simp,λj d hd=>?_⟩)
  obtain⟨g1,g2⟩:=r.get (λ_ _=>Rd.size s) hd
  refine⟨?_,lq j⟩;have hj:=(fM.1 hd).1;have hm:(j+1) * s.size<=l.length * s.size:=tC _ hj;rw[rP]at hm;have e5:List.take s.size (List.drop (j * s.size) (List.take (l.length * s.size) cur.toList))=List.take s.size (List.drop (j * s.size) cur.toList):=by
   apply zT;intro p;simp only[qU,Ea];split
   .rw[if_pos (by omega)]
   .rfl
  rw[e5]at g1;exact g1
abbrev EM(s:St) (i:Nat) (tt:TypeId) (e:Sh) (so:Nat):St:=match bW s.T i with
 | some ([],.row t sh l)=>{ s with T:=bF s.T i ([],.deep t sh l tt e so yO []) }
 | _=>s
theorem Wy(r:ay):mR (λx=>x) r=r:=by
 have:∀l:List SC,dB (λx=>x) l=l:=by
  intro l
  induction l with
  | nil=>rfl
  | cons x l ih=>simp[dB,ih]
 cases r<;>simp[mR,this]
theorem Sat.EM(ah:Sat N B h0 s h β w a) (i:Nat) (tt:TypeId) (e:Sh) (so:Nat):∃β',Sat N B h0 (EM s i tt e so) h β' w a:=by
 unfold lZ.EM;split
 .rename_i t sh l hT;have dM:=aU hT (show gv s.gl []=true from rfl)
  have gX:i < β.length:=by rw[ah.ok.len];exact(fM.1 dM).1
  have hu:=lH gX;have hold:=ah.ok.holds i _ _ dM hu;cases hb:β[i]with
  | blk b=>rw[hb]at hold;cases hold
  | no=>rw[hb]at hold;cases hold
  | deep _ _=>rw[hb]at hold;cases hold
  | row v=>
    rw[hb]at hold hu;have hC:∀x y,bU h β x y->bU h (β.set i (.deep v sJ)) x y:=by
     intro x y c;have:=bU.js (us:=sJ) (us':=sJ) hu (.inr rfl) c;cases x with
     | sub j k=>
       obtain⟨z,o7,e1,e2⟩:=c;refine⟨z,o7,?_,e2⟩;rw[bT hu,if_neg]
       .exact e1
       .rintro rfl;rw[hu]at e1;cases e1
     | jC j k m sz off=>
       obtain⟨z,o7,g,e1,e2⟩:=c;refine⟨z,o7,g,?_,e2⟩;rw[bT hu,if_neg]
       .exact e1
       .rintro rfl;rw[hu]at e1;cases e1
     | _=>exact this
    refine⟨β.set i (.deep v sJ),?_,?_,ah.gs,ah.defers,ah.sz,ah.gb,l9 ah⟩
    .show OK B h0 (eff s.gl (bF s.T i ([],.deep t sh l tt e so yO []))) h _ w;rw[rZ];have:=ah.ok.Hu (f:=λx=>x) (r':=.deep t sh l tt e so yO []) (v:=.deep v sJ) (row:=none) (X:=λ_=>False) dM rfl hu (bC w none) (λk e=>by cases e) (λb hb=>hb.elim)
      (λb hb=>by
       rw[aI]at hb;rcases hb with hb | ⟨j,hb⟩
       .exact .inl (aN.2 hb)
       .rw[lq]at hb;cases hb) hC (Dj hold)
     rwa [show(eff s.gl s.T).map (mR λx=>x)=eff s.gl s.T by rw[show(mR λx=>x)=id from funext Wy];simp]at this
    .intro t' G e' ht;obtain⟨z,q1,q2,q3⟩:=ah.env t' G e' ht;refine⟨z,q1,λhG=>?_,q3⟩
     have:=gJ.map (f:=λx=>x) (FH.le.refl h) hC (q2 hG)
     have hid:mE (λx=>x) e'=e':=by
      have m1:∀l:List SC,dB (λx=>x) l=l:=by
       intro l
       induction l with
       | nil=>rfl
       | cons x l ih=>simp[dB,ih]
      have m2:∀x:SV,mV (λx=>x) x=x:=by intro x;cases x<;>simp[mV,m1]
      cases e' with
      | one x=>simp[mE,m2]
      | l7 xs=>
        have:∀l:List SV,dB (mV λx=>x) l=l:=by
         intro l
         induction l with
         | nil=>rfl
         | cons x l ih=>simp[dB,ih,m2]
        simp[mE,this]
     rwa [hid]at this
 .exact⟨β,ah⟩
theorem dh.third{sh:Sh}{l:List sh.den}{own:Nat->Bool}{us:Nat->Value} (D:dh h w t sh l tt e so own hs v us) (hj:j < l.length):
 ∃g cap cur,v=.slice (some ⟨g,0,none⟩) l.length cap/\w.heap[g]?=some (.cells cur t (0,0))/\l.length<=cap/\(1<=cap/\cap<=maxLen) /\
   cur.size=cap * sh.size/\(∀j,ak (us j)≠some g)/\∀j d,l[j]?=some d->vF h w sh tt e so (own j) (kE j hs) (us j) ((cur.toList.drop (j * sh.size)).take sh.size) d:=by
 obtain⟨_,_,D⟩:=D;rcases D with⟨_,e0⟩ | ⟨_,_,e0⟩ | D
 .subst e0;simp at hj
 .subst e0;simp at hj
 .exact D
theorem dh.get{sh:Sh}{l:List sh.den}{own:Nat->Bool}{us:Nat->Value} (D:dh h w t sh l tt e so own hs v us){d:sh.den} (hd:l[j]?=some d) (ho:own j=true) (hh:kE j hs=false)
 {x:List e.den} (hx:zX sh d so e=some x):jG h w tt e x (us j):=by
 obtain⟨_,_,_,_,_,_,_,_,_,h6⟩:=D.third (fM.1 hd).1;have h7:=h6 j d hd;rw[ho,hh]at h7;obtain⟨d0,x',_,p,_,rw_⟩:=h7;rw[Cj p hx];exact rw_
theorem dh.inner{sh:Sh}{l:List sh.den}{own:Nat->Bool}{us:Nat->Value} (D:dh h w t sh l tt e so own hs v us){d d':sh.den} (hd:l[j]?=some d) (ho:own j=true) (hh:kE j hs=false)
 (fr:∀b,ak (us j)≠some b->(∃o,w.heap[b]?=some o)->w'.heap[b]?=w.heap[b]?) (ce:∀b,ak (us j)=some b->∃o,w'.heap[b]?=some o/\ours o=true){x':List e.den} (hp:zY sh d so e x'=some d') (hr:jG h w' tt e x' (us j)):dh h w' t sh (l.set j d') tt e so own hs v us:=by
 have hj:=(fM.1 hd).1;obtain⟨g,cap,cur,e0,e1,e2,e3,e4,e5,e6⟩:=D.third hj;obtain⟨D1,D2,_⟩:=D;have fr':∀i b,i≠j->ak (us i)=some b->w'.heap[b]?=w.heap[b]?:=by
  intro i b hi hb;obtain⟨_,o,ho,_⟩:=D2 i b hb;exact fr b (λhh=>hi (D1 i j b hb hh)) ⟨o,ho⟩
 refine⟨D1,λi b hb=>?_,.inr (.inr ⟨g,cap,cur,by rw[xu];exact e0,?_,by rw[xu];exact e2,e3,e4,e5,λi di hdi=>?_⟩)⟩
 .rw[xu];obtain⟨q1,o,q2,q3⟩:=D2 i b hb
  by_cases hi:i=j
  .subst hi;exact⟨q1,ce b hb⟩
  .exact⟨q1,o,by rw[fr' i b hi hb];exact q2,q3⟩
 .rw[fr g (e5 j) ⟨_,e1⟩];exact e1
 .by_cases hi:i=j
  .subst hi;rw[mJ hj]at hdi;cases hdi;have h7:=e6 i d hd;rw[ho,hh]at h7 ⊢;obtain⟨d0,y,r,p,c,q⟩:=h7;exact⟨d0,x',r,p.trans (Ci hp),c,hr⟩
  .rw[jU (Ne.symm hi)]at hdi;exact(e6 i di hdi).move (FH.le.refl h) λb hb=>fr' i b hi hb
theorem dh.write{sh:Sh}{l:List sh.den}{own own':Nat->Bool}{hs':List Nat}{us us':Nat->Value} (D:dh h w t sh l tt e so own hs v us){d d':sh.den} (hd:l[j]?=some d)
 {cap:Nat}{cur:Array Value} (hv:v=.slice (some ⟨g,0,none⟩) l.length cap) (hw:w.heap[g]?=some (.cells cur t (0,0))) (hk:off+k<=sh.size){cs':List Value} (hc:cs'.length=k)
 (same:∀i,i≠j->own' i=own i/\kE i hs'=kE i hs/\us' i=us i) (apart:∀i b,i≠j->ak (us i)=some b->ak (us' j)≠some b) (bl:∀b,ak (us' j)=some b->b≠g/\∃o,w.heap[b]?=some o/\ours o=true)
 (el:∀(w':World) cs,(∀b,b≠g->w'.heap[b]?=w.heap[b]?)->cs.length=sh.size->vF h w sh tt e so (own j) (kE j hs) (us j) cs d->vF h w' sh tt e so (own' j) (kE j hs') (us' j) (cs.take off++cs'++cs.drop (off+k)) d'):
 j * sh.size+off+k<=cur.size/\dh h (w.setRow g (cur.toList.take (j * sh.size+off)++cs'++cur.toList.drop (j * sh.size+off+k)).toArray) t sh (l.set j d') tt e so own' hs' v us':=by
 have hj:=(fM.1 hd).1;obtain⟨g2,cap2,yP,e0,e1,e2,e3,e4,e5,e6⟩:=D.third hj;rw[hv]at e0;have eg:g=g2/\cap=cap2:=by simpa using e0
 obtain⟨rfl,rfl⟩:=eg;rw[hw]at e1;have ec:cur=yP:=by simpa using e1
 subst ec;obtain⟨D1,D2,_⟩:=D;have lc:cur.toList.length=cap * sh.size:=by simpa using e4
 have hm:(j+1) * sh.size<=cap * sh.size:=tC _ (by omega)
 rw[rP]at hm;refine⟨by omega,?_⟩
 generalize hw':w.setRow g (cur.toList.take (j * sh.size+off)++cs'++cur.toList.drop (j * sh.size+off+k)).toArray=w';have fr:∀b,b≠g->w'.heap[b]?=w.heap[b]?:=λb hb=>by rw[<-hw'];exact setRow_other w g b _ hb
 have hg':w'.heap[g]?=some (.cells (cur.toList.take (j * sh.size+off)++cs'++cur.toList.drop (j * sh.size+off+k)).toArray t (0,0)):=by rw[<-hw'];exact setRow_heap w g _ _ t (0,0) hw
 have ne:∀i b,ak (us i)=some b->b≠g:=λi b hb hh=>e5 i (by rw[hb,hh])
 refine⟨λi k b h1 h2=>?_,λi b hb=>?_,.inr (.inr ⟨g,cap,_,by rw[xu];exact hv,hg',by rw[xu];exact e2,e3,?_,λi hb=>?_,λi di hdi=>?_⟩)⟩
 .by_cases hi:i=j<;>by_cases hk:k=j
  .rw[hi,hk]
  .subst hi;rw[(same k hk).2.2]at h2;exact(apart k b hk h2 h1).elim
  .subst hk;rw[(same i hi).2.2]at h1;exact(apart i b hi h1 h2).elim
  .rw[(same i hi).2.2]at h1;rw[(same k hk).2.2]at h2;exact D1 i k b h1 h2
 .rw[xu]
  by_cases hi:i=j
  .subst hi;obtain⟨q1,o,q2,q3⟩:=bl b hb;exact⟨hj,o,by rw[fr b q1];exact q2,q3⟩
  .rw[(same i hi).2.2]at hb;obtain⟨q1,o,q2,q3⟩:=D2 i b hb;exact⟨q1,o,by rw[fr b (ne i b hb)];exact q2,q3⟩
 .simp only[zU,jA,lY,xq];omega
 .by_cases hi:i=j
  .subst hi;exact(bl g hb).1 rfl
  .rw[(same i hi).2.2]at hb;exact e5 i hb
 .by_cases hi:i=j
  .subst hi;rw[mJ hj]at hdi;cases hdi;have h7:=el w' _ fr (by rw[lY,xq];omega) (e6 i d hd)
   have key:List.take sh.size (List.drop (i * sh.size) (List.take (i * sh.size+off) cur.toList++cs'++List.drop (i * sh.size+off+k) cur.toList))=List.take off (List.take sh.size (List.drop (i * sh.size) cur.toList))++cs'++List.drop (off+k) (List.take sh.size (List.drop (i * sh.size) cur.toList)):=by
    apply zT;intro p;simp only[V6,qU,Ea,jA,lY,xq,lc,hc]
    repeat' split
    all_goals first | rfl | omega | (congr 1;omega) | (rw[wV (by omega)]) | (exfalso;omega) | skip
   simp only at key ⊢;rw[key];exact h7
  .rw[jU (Ne.symm hi)]at hdi;obtain⟨q1,q2,q3⟩:=same i hi;rw[q1,q2,q3];have h7:=(e6 i di hdi).move (w':=w') (FH.le.refl h) λb hb=>fr b (ne i b hb)
   have hi2:=(fM.1 hdi).1;have hm2:(i+1) * sh.size<=cap * sh.size:=tC _ (by omega)
   rw[rP]at hm2;have hne:i * sh.size+sh.size<=j * sh.size\/j * sh.size+sh.size<=i * sh.size:=by
    rcases Nat.lt_or_gt_of_ne hi with hh | hh
    .left;have:(i+1) * sh.size<=j * sh.size:=tC _ hh
     rwa [rP]at this
    .right;have:(j+1) * sh.size<=i * sh.size:=tC _ hh
     rwa [rP]at this
   have key:List.take sh.size (List.drop (i * sh.size) (List.take (j * sh.size+off) cur.toList++cs'++List.drop (j * sh.size+off+k) cur.toList))=List.take sh.size (List.drop (i * sh.size) cur.toList):=by
    apply zT;intro p;simp only[V6,qU,Ea,jA,lY,xq,lc,hc]
    repeat' split
    all_goals first | rfl | omega | (congr 1;omega) | (rw[wV (by omega)]) | (exfalso;omega) | skip
   simp only at key ⊢;rw[key];exact h7
abbrev nH(us:Nat->Value) (j:Nat):Nat->Value:=λk=>if k=j then jW else us k
theorem dh.open{sh:Sh}{l:List sh.den}{own:Nat->Bool}{us:Nat->Value} (D:dh h w t sh l tt e so own [] v us){d:sh.den} (hd:l[j]?=some d) (ho:own j=true):dh h w t sh l tt e so own [j] v (nH us j):=by
 have hj:=(fM.1 hd).1;obtain⟨g,cap,cur,e0,e1,e2,e3,e4,e5,e6⟩:=D.third hj;obtain⟨D1,D2,_⟩:=D;have sub:∀i b,ak (nH us j i)=some b->i≠j/\ak (us i)=some b:=by
  intro i b hb;unfold nH at hb;split at hb
  .cases hb
  .rename_i hi;exact⟨hi,hb⟩
 refine⟨λi k b h1 h2=>D1 i k b (sub i b h1).2 (sub k b h2).2,λi b hb=>D2 i b (sub i b hb).2,.inr (.inr ⟨g,cap,cur,e0,e1,e2,e3,e4,λi hb=>e5 i (sub i g hb).2,λi di hdi=>?_⟩)⟩
 have h7:=e6 i di hdi
 by_cases hi:i=j
 .subst hi;rw[ho]at h7;obtain⟨d0,y,r,p,c,q⟩:=h7;have e7:kE i [i]=true:=by simp[kE]
  rw[e7];refine⟨by simp[nH,jW,ak],d0,y,r,p,us i,c,?_⟩
  rcases q with⟨e1,_⟩ | ⟨_,e1,_⟩ | ⟨_,_,_,e1,_⟩<;>rw[e1]<;>exact⟨rfl,rfl⟩
 .have e7:kE i [j]=false:=by simp[kE,hi]
  have e8:nH us j i=us i:=by simp[nH,hi]
  rw[e7,e8];exact h7
theorem uJ:∀{s:Sh}{so:Nat}{e:Sh}{d0 d d':s.den}{x:List e.den}{off k:Nat}{v:SV},jH s so e d0 x d->off+k<=so\/so+1<=off->tN s d off k v=some d'->∃d0',tN s d0 off k v=some d0'/\jH s so e d0' x d'
 | .sl s,so,e,d0,d,d',x,off,k,v,⟨h1,_,_⟩,hd,h=>by
   exfalso;unfold tN at h;split at h
   .rename_i hh;rw[au,A8]at hh;have a1:=fC hh.1;have a2:1=k:=fC hh.2;omega
   .cases h
 | .pair a b,so,e,(p0,q0),(p,q),d',x,off,k,v,hp,hd,h=>by
   have gX:so < a.size+b.size:=jH.lt hp;unfold tN at h ⊢
   cases hw:bJ (Nat.beq off 0) (Nat.beq (a.size+b.size) k) with
   | true=>
     rw[au,A8]at hw;have a1:=fC hw.1;have a2:=fC hw.2;omega
   | false=>
     rw[hw]at h;simp only at h ⊢
     cases hle:Nat.ble (off+1) a.size with
     | true=>
       rw[hle]at h;simp only at h ⊢
       have hle:=kM hle;split at h
       .rename_i y hy;cases h;rcases hp with⟨g1,e1,h1⟩ | ⟨g1,e1,h1⟩
        .subst e1;rw[hy];exact⟨_,rfl,.inl ⟨g1,rfl,h1⟩⟩
        .obtain⟨z,hz,h2⟩:=uJ h1 hd hy;rw[hz];exact⟨_,rfl,.inr ⟨g1,e1,h2⟩⟩
       .cases h
     | false=>
       rw[hle]at h;simp only at h ⊢
       have hle:=qF hle;split at h
       .rename_i y hy;cases h;rcases hp with⟨g1,e1,h1⟩ | ⟨g1,e1,h1⟩
        .obtain⟨z,hz,h2⟩:=uJ h1 (by omega) hy
         rw[hz];exact⟨_,rfl,.inl ⟨g1,e1,h2⟩⟩
        .subst e1;rw[hy];exact⟨_,rfl,.inr ⟨g1,rfl,h1⟩⟩
       .cases h
 | .int _,_,_,_,_,_,_,_,_,_,h,_,_=>h.elim
 | .bool,_,_,_,_,_,_,_,_,_,h,_,_=>h.elim
 | .str,_,_,_,_,_,_,_,_,_,h,_,_=>h.elim
 | .any,_,_,_,_,_,_,_,_,_,h,_,_=>h.elim
 | .unit,_,_,_,_,_,_,_,_,_,h,_,_=>h.elim
 | .arr _ _,_,_,_,_,_,_,_,_,_,h,_,_=>h.elim
theorem set_mid{cs':List Value}{z:Value} (hk:cs'.length=k) (hl:off+k<=cs.length) (hd:off+k<=so\/so+1<=off):
 (cs.set so z).take off++cs'++(cs.set so z).drop (off+k)=(cs.take off++cs'++cs.drop (off+k)).set so z:=by
 apply zT;intro p;simp only[V6,qU,Ea,jA,lY,xq,List.getElem?_set,xu,hk]
 repeat' split
 all_goals first | rfl | omega | (congr 1;omega) | (exfalso;omega) | skip
theorem vF.upd{s:Sh}{own hole:Bool}{u:Value}{d d':s.den}{v:SV} (x:vF h w s tt e so own hole u cs d) (o8:off+k<=so\/so+1<=off)
 (hu:tN s d off k v=some d') (c:bI h β v y):∃cs',y.cells=cs'.toArray/\cs'.length=k/\(∀u∈cs',bM u)/\off+k<=cs.length/\vF h w s tt e so own hole u (cs.take off++cs'++cs.drop (off+k)) d':=by
 have WA:∀{cs':List Value}{z:Value},cs'.length=k->off+k<=cs.length->cs[so]?=some z->(cs.take off++cs'++cs.drop (off+k))[so]?=some z:=by
  intro cs' z hk hl hz;have gX:=(fM.1 hz).1;rcases o8 with o8 | o8
  .rw[Gp (by simp only[jA,lY];omega),Ea,<-hz]
   congr 1
   simp only[jA,lY];omega
  .rw[Nq (by simp only[jA,lY];omega),Nq (by simp only[lY];omega),qU,if_pos (by omega)]
   exact hz
 unfold vF at x ⊢;cases hole with
 | false=>
   cases own with
   | false=>
     obtain⟨cs',e1,e2,e3,e4,e5⟩:=kG s hu x.1 c;exact⟨cs',e1,e2,e3,e4,e5,x.2⟩
   | true=>
     obtain⟨d0,z,r,p,cu,q⟩:=x;obtain⟨d0',h1,h2⟩:=uJ p o8 hu;obtain⟨cs',e1,e2,e3,e4,e5⟩:=kG s h1 r c;rw[xu]at e4;rw[set_mid e2 e4 o8]at e5;exact⟨cs',e1,e2,e3,e4,d0',z,e5,h2,WA e2 e4 cu,q⟩
 | true=>
   obtain⟨x0,d0,z,r,p,y0,cu,q⟩:=x;obtain⟨d0',h1,h2⟩:=uJ p o8 hu;obtain⟨cs',e1,e2,e3,e4,e5⟩:=kG s h1 r c;rw[xu]at e4;rw[set_mid e2 e4 o8]at e5;exact⟨cs',e1,e2,e3,e4,x0,d0',z,e5,h2,y0,WA e2 e4 cu,q⟩
abbrev oN(own:Nat->Bool) (j:Nat):Nat->Bool:=λk=>cnd (decide (k=j)) true (own k)
abbrev rowOf:SV->Option Nat
 | .c (.row q)=>some q
 | _=>none
abbrev WB(hs:List Nat) (j:Nat) (K:Prop):Prop:=match hs with
 | []=>K
 | [k]=>j=k/\K
 | _=>False
abbrev JB(s:St) (d:Option Nat) (i:TI) (r j sz off:Nat) (tt:TypeId) (sh:Sh) (l:List sh.den) (t2:TypeId) (e:Sh) (so:Nat) (own:Nat->Bool) (hs:List Nat) (v:SV) (K:St->Prop):Prop:=match Nat.beq sz sh.size with
 | false=>False
 | true=>match SI (Nat.ble (off+i.size) so) (Nat.ble (so+1) off) with
   | true=>(j < l.length)/\∀e0:sh.den,l[j]?=some e0->match tN sh e0 off i.size v with
     | some dd=>K ({ s with T:=bF s.T r ([],.deep tt sh (l.set j dd) t2 e so own hs) }.put d [] (.one .und))
     | none=>False
   | false=>match rowOf v with
     | some q=>match bW s.T q with
       | some ([],.row tq eq x)=>match bJ (Nat.beq tq t2) (bJ (Nat.beq off so) (Nat.beq i.size 1)) with
         | true=>match gU (.sl eq) x (.sl e) with
           | some x=>(j < l.length)/\WB hs j (∀e0:sh.den,l[j]?=some e0->match zY sh e0 so e x with
             | some dd=>K ({ s with T:=bF (mT (pX r) (bF s.T q ([],.gone))) r ([],.deep tt sh (l.set j dd) t2 e so (oN own j) []),env:=uI (pX r) s.env }.put d [] (.one .und))
             | none=>False)
           | none=>False
         | false=>False
       | _=>False
     | none=>False
abbrev Tv(cx:Cx) (s:St) (d:Option Nat) (t:TypeId) (p x:Operand) (K:St->Prop):Option Prop:=match lG cx.ti t with
 | none=>none
 | some i=>match bf cx s [] p with
   | some (.one (.c (.iw r j sz off)))=>match bW s.T r with
     | some ([],.deep tt sh l t2 e so own hs)=>match bf cx s [] x with
       | some (.one v)=>some (JB s d i r j sz off tt sh l t2 e so own hs v K)
       | _=>none
     | _=>none
   | some (.one (.c (.jC r j k sz off)))=>match bW s.T r with
     | some ([],.deep tt sh l t2 e so own hs)=>match bf cx s [] x with
       | some (.one v)=>some (match Nat.beq sz e.size with
         | false=>False
         | true=>(own j=true/\kE j hs=false/\j < l.length)/\∀d0:sh.den,l[j]?=some d0->match zX sh d0 so e with
           | some xs=>(k < xs.length)/\∀y:e.den,xs[k]?=some y->match tN e y off i.size v with
             | some y'=>match zY sh d0 so e (xs.set k y') with
               | some dd=>K ({ s with T:=bF s.T r ([],.deep tt sh (l.set j dd) t2 e so own hs) }.put d [] (.one .und))
               | none=>False
             | none=>False
           | none=>False)
       | _=>none
     | _=>none
   | _=>none
theorem jG.write{sh:Sh}{l:List sh.den}{u:Value} (x:jG h w t sh l u){d dd:sh.den} (hg:ak u=some g) (hd:l[j]?=some d) (up:∀{cs:List Value},Rd h sh cs d->RD h sh cs off k y dd):
 ∃cur,w.heap[g]?=some (.cells cur t (0,0))/\j * sh.size+off+k<=cur.size/\y.cells.size=k/\(∀z∈y.cells.toList,bM z)/\jG h (w.setRow g (cur.toList.take (j * sh.size+off)++y.cells.toList++cur.toList.drop (j * sh.size+off+k)).toArray) t sh (l.set j dd) u:=by
 have hj:=(fM.1 hd).1;rcases x with⟨hv0,_⟩ | ⟨_,hv0,_⟩ | ⟨g',cap,cur,hv0,he,q2,q3,q4,q5⟩
 .subst hv0;simp[ak]at hg
 .subst hv0;simp[ak]at hg
 .have hgg:g'=g:=by rw[hv0,aJ q3.1]at hg;exact Rw hg
  subst hgg;have hm:(j+1) * sh.size<=l.length * sh.size:=tC _ hj;have hm2:l.length * sh.size<=cap * sh.size:=tC _ q2;rw[rP]at hm;obtain⟨g1,g2⟩:=q5.get (λ_ _=>Rd.size sh) hd
  have gl:=Rd.size sh g1;obtain⟨cs',ec,e2,e3,e4,e5⟩:=up g1;rw[gl]at e4;have lc:cur.toList.length=cap * sh.size:=by simpa using q4
  refine⟨cur,he,by omega,by rw[ec];simpa using e2,λz hz=>e3 z (by rw[ec]at hz;simpa using hz),.inr (.inr ⟨g',cap,_,by rw[xu];exact hv0,setRow_heap w g' _ _ t (0,0) he,by rw[xu];exact q2,q3,?_,?_⟩)⟩
  .rw[ec];simp only[zU,jA,lY,xq,KD];omega
  .rw[xu,ec];show dQ (Rd h sh) ((List.take (j * sh.size+off) cur.toList++cs'++List.drop (j * sh.size+off+k) cur.toList).take (l.length * sh.size)) (l.set j dd);have e:=dQ.set (λ_ _=>Rd.size sh) q5 hj e5
   have key:(List.take (j * sh.size+off) cur.toList++cs'++List.drop (j * sh.size+off+k) cur.toList).take (l.length * sh.size) =
    List.take (j * sh.size) (List.take (l.length * sh.size) cur.toList)++(List.take off (List.take sh.size (List.drop (j * sh.size) (List.take (l.length * sh.size) cur.toList)))++cs'++List.drop (off+k) (List.take sh.size (List.drop (j * sh.size) (List.take (l.length * sh.size) cur.toList))))++List.drop (j * sh.size+sh.size) (List.take (l.length * sh.size) cur.toList):=by
    apply zT;intro p;simp only[V6,qU,Ea,jA,lY,xq,lc,e2]
    repeat' split
    all_goals first | rfl | omega | (congr 1;omega) | (rw[wV (by omega)]) | (exfalso;omega) | skip
   rw[key];exact e
theorem take_set{o:Nat} (h:o < cs.length):cs.take o++[y]++cs.drop (o+1)=cs.set o y:=by
 rw[List.set_eq_take_append_cons_drop,if_pos h];simp
theorem OI(hc:bG P cx.ti) (ah:Sat N B h0 s h β w a) (hg:aB cx.gd h) (hd:iP N o.dst=true){p x:Operand} (ho:o.op=.store t p x){q:Prop} (hq:Tv cx s o.dst t p x K=some q) (k:q):
 dO P N B h0 h w a o (gv s.gl []) K:=by
 have tr:gv s.gl []=true:=rfl;unfold Tv at hq;split at hq
 .cases hq
 rename_i i hi;have ti:=hc.get hi;have exec:∀{w':World}{v pv:Value},a.eval x=v->a.eval p=pv->(Instr.storeAt t pv v).run P w=.ok () w'->(execOp a.eval o).run P w=.ok .skip w':=by
  intro w' v pv e1 e2 r;simp only[execOp,ho,e1,e2,Sem.run_bind,r,Result.andThen_ok,Sem.run_pure]
 split at hq
 .rename_i r j sz off hp;obtain⟨⟨v0,g,hb,hgb,ep⟩,_⟩:=aF ah hg tr hp;split at hq
  .rename_i tt sh l t2 e so own hs hT;have dM:=aU hT tr;have hold:=ah.ok.holds r _ _ dM hb;split at hq
   .rename_i v hv;have cv:=aF ah hg tr hv;cases hq
    match v0,hold,hgb,hb with
    | .deep vv us,D,hgb,hb=>
      have D:dh h w tt sh l t2 e so own hs vv us:=D;have hgb:ak vv=some g:=hgb;have outer:∀{j:Nat},j < l.length->∃cap cur,vv=.slice (some ⟨g,0,none⟩) l.length cap/\w.heap[g]?=some (.cells cur tt (0,0))/\∀d,l[j]?=some d->vF h w sh t2 e so (own j) (kE j hs) (us j) ((cur.toList.drop (j * sh.size)).take sh.size) d/\(j+1) * sh.size<=cur.size:=by
       intro j hj;obtain⟨g2,cap,cur,e0,e1,e2,e3,e4,e5,e6⟩:=D.third hj;rw[e0,aJ e3.1]at hgb;cases hgb;refine⟨cap,cur,e0,e1,λd hd=>⟨e6 j d hd,?_⟩⟩
       rw[e4];exact tC _ (by omega)
      unfold JB at k;split at k
      .cases k
      rename_i hz;have hz:sz=sh.size:=fC hz;split at k
      .rename_i hdis;have hdis:off+i.size<=so\/so+1<=off:=by
        unfold SI at hdis;split at hdis
        .rename_i hh;exact .inl (kM hh)
        .exact .inr (kM hdis)
       obtain⟨hj,k⟩:=k;have k:=k _ (lH hj);split at k
       .rename_i dd hdd;obtain⟨cap,cur,e0,e1,e2⟩:=outer hj;obtain⟨el,hsz⟩:=e2 _ (lH hj);obtain⟨cs',ec,c2,c3,c4,c5⟩:=el.upd hdis hdd cv;rw[rP]at hsz;have hcl:((cur.toList.drop (j * sh.size)).take sh.size).length=sh.size:=by rw[lY,xq,KD];omega
        rw[hcl]at c4;obtain⟨f1,f2⟩:=D.write (own':=own) (hs':=hs) (us':=us) (d':=dd) (cs':=cs') (off:=off) (k:=i.size) (lH hj) e0 e1 c4 c2 (λ_ _=>⟨rfl,rfl,rfl⟩) (λi' b hi' hb' hb2=>hi' (D.1 _ _ b hb' hb2)) (λb hb'=>⟨λhh=>(D.third hj).elim λg2 z=>by
         obtain⟨cap2,yP,f0,_,f3,f4,_,f5,_⟩:=z;rw[f0,aJ f4.1]at hgb;cases hgb;exact f5 j (by rw[hb',hh]),(D.2.1 j b hb').2⟩) (λw' cs fr hl ex=>by
         obtain⟨cs2,ec2,_,_,_,ex2⟩:=ex.upd hdis hdd cv;have:cs2=cs':=by rw[ec]at ec2;simpa using ec2.symm
         subst this;refine ex2.move (FH.le.refl h) λb hb'=>fr b λhh=>?_
         obtain⟨g2,cap2,yP,f0,_,_,f4,_,f5,_⟩:=D.third hj;rw[f0,aJ f4.1]at hgb;cases hgb;exact f5 j (by rw[hb',hh]))
        have r1:=dF (o:=j * sz+off) (v:=a.eval x) ti e1 (by rw[ec];simpa using c2) (by rw[hz];omega) (by rw[ec];intro u hu;exact c3 u (by simpa using hu))
        refine nC ah (by rw[ho];rfl) hd hT rfl hb hgb ?_ (exec rfl ep r1) k
        rw[ec,hz];exact f2
       .cases k
      .split at k
       .rename_i q hq0;split at k
        .rename_i tq eq x0 hTq;have oV:=aU hTq tr;split at k
         .rename_i hcs;rw[au,au,A8,A8]at hcs;have a0:tq=t2:=fC hcs.1;have a1:off=so:=fC hcs.2.1;have a2:i.size=1:=fC hcs.2.2;subst a0;subst a1;split at k
          .rename_i x1 hx1;obtain⟨e1,e2⟩:=kW hx1;subst e1;simp only at e2;subst e2;obtain⟨hj,k⟩:=k;have hv1:v=.c (.row q):=by
            unfold rowOf at hq0;split at hq0
            .cases hq0;rfl
            .cases hq0
           subst hv1;have hbq:=ah.ok.row_of oV cv.1;have iI:jG h w tq eq x0 (a.eval x):=ah.ok.holds q _ _ oV hbq;have hone:bM (a.eval x):=cv.2;have hqr:q≠r:=by rintro rfl;rw[oV]at dM;cases dM
           have kk:(∀i',i'≠j->kE i' hs=false)/\∀e0:sh.den,l[j]?=some e0->match zY sh e0 off eq x0 with
            | some dd=>K ({ s with T:=bF (mT (pX r) (bF s.T q ([],.gone))) r ([],.deep tt sh (l.set j dd) tq eq off (oN own j) []),env:=uI (pX r) s.env }.put o.dst [] (.one .und))
            | none=>False:=by
            unfold WB at k;split at k
            .exact⟨λ_ _=>rfl,k⟩
            .exact⟨λi' hi'=>by simp[kE];rw[<-k.1];exact hi',k.2⟩
            .cases k
           obtain⟨kK,k⟩:=kk;have k:=k _ (lH hj);split at k
           .rename_i dd hdd;have hdd:=Ci hdd;have hso:=hdd.lt;obtain⟨cap,cur,e0,e1,e2⟩:=outer hj;obtain⟨_,hsz⟩:=e2 _ (lH hj);rw[rP]at hsz;have gne:∀b,ak (a.eval x)=some b->∀u,(RV.deep vv us).has u->u≠b:=λb hb1 u hu hh=>hqr (ah.ok.inj q r _ _ _ _ b oV rfl dM rfl hbq hb (aN.2 hb1) (by rw[<-hh];exact hu))
            obtain⟨f1,f2⟩:=D.write (own':=oN own j) (hs':=[]) (us':=λi'=>if i'=j then a.eval x else us i') (d':=dd) (cs':=[a.eval x]) (off:=off) (k:=1) (lH hj) e0 e1 (by omega) rfl
             (λi' hi'=>⟨by simp[oN,hi',cnd],by rw[kK i' hi'],by simp[hi']⟩)
             (λi' b hi' hb' hb2=>by
              rw[if_pos rfl]at hb2;exact gne b hb2 b (aI.2 (.inr ⟨i',hb'⟩)) rfl)
             (λb hb'=>by
              rw[if_pos rfl]at hb';exact⟨λhh=>gne b hb' g (aI.2 (.inl hgb)) hh.symm,(ah.ok.holds q _ _ oV hbq).cells rfl (aN.2 hb')⟩)
             (λw' cs fr hl ex=>by
              rw[if_pos rfl,show oN own j j=true by simp[oN,cnd],take_set (by omega)]
              have emp:∃d0,Rd h sh (cs.set off jW) d0/\jH sh off eq d0 x0 dd:=by
               unfold vF at ex;cases hh:kE j hs with
               | false=>
                 rw[hh]at ex;cases hoo:own j with
                 | false=>
                   rw[hoo]at ex;obtain⟨d0,hd0⟩:=hdd.ex [];exact⟨d0,hd0.rd ex.1 (mM.nil _ _),hd0.turn hdd⟩
                 | true=>
                   rw[hoo]at ex;obtain⟨d0,z,r0,p0,_,_⟩:=ex;exact⟨d0,r0,p0.trans hdd⟩
               | true=>
                 rw[hh]at ex;obtain⟨_,d0,z,r0,p0,_⟩:=ex;exact⟨d0,r0,p0.trans hdd⟩
              obtain⟨d0,r0,p0⟩:=emp;refine⟨d0,x0,by rw[List.set_set];exact r0,p0,by rw[mJ (by omega)],iI.move (FH.le.refl h) λb hb'=>fr b λhh=>gne b hb' g (aI.2 (.inl hgb)) hh.symm⟩)
            have r1:=dF (o:=j * sz+off) (v:=a.eval x) ti e1 (by rw[hone.1,a2];rfl) (by rw[hz,a2];omega) (by rw[hone.1];intro u hu;simp at hu;subst hu;exact hone)
            rw[hone.1,a2,hz]at r1;rw[hz]at ep;have ok1:=ah.ok.forget oV;have hT1:((eff s.gl s.T).set q .gone)[r]?=some (.deep tt sh l tq eq off own hs):=by rw[jU hqr];exact dM
            have ok2:=ok1.Hu (f:=pX r) (r':=.deep tt sh (l.set j dd) tq eq off (oN own j) []) (v:=.deep vv λi'=>if i'=j then a.eval x else us i') (row:=some g) (X:=λb=>ak (a.eval x)=some b) hT1 rfl hb (fU w g _) (λk e=>by cases e;exact .inl hgb)
             (λb hb'=>by
              obtain⟨o1,o2,o3⟩:=ah.ok.own q _ _ b oV rfl hbq (aN.2 hb');refine⟨o1,o2,o3,λj' rj vj hj' ej lj gK hbj=>?_⟩
              have hjq:j'≠q:=by
               rintro rfl;rw[mJ (fM.1 oV).1]at ej;cases ej;cases lj
              rw[jU (Ne.symm hjq)]at ej;exact hjq (ah.ok.inj j' q _ _ _ _ b ej lj oV rfl gK hbq hbj (aN.2 hb')))
             (λb hb'=>by
              rw[aI]at hb';rcases hb' with hb' | ⟨i',hb'⟩
              .exact .inl (aI.2 (.inl hb'))
              .by_cases hi':i'=j
               .rw[if_pos hi']at hb';exact .inr (.inl hb')
               .rw[if_neg hi']at hb';exact .inl (aI.2 (.inr ⟨i',hb'⟩)))
             (λx y c=>bU.js hb (.inl rfl) c) f2
            refine jP ah k rfl (by rw[ho];rfl) (.inr ⟨exec rfl ep r1,rfl⟩) (FH.le.refl h) ((ah.map (f:=pX r) (T':=bF (mT (pX r) (bF s.T q ([],.gone))) r ([],.deep tt sh (l.set j dd) tq eq off (oN own j) [])) (β':=β.set r (.deep vv λi'=>if i'=j then a.eval x else us i')) (FH.le.refl h) (λ_=>rfl) (λx y c=>bU.js hb (.inl rfl) c) ?_ ?_).put (bQ hd) rfl (λ_=>rfl) λhh=>by cases hh)
            .rw[dK,yM,dK];exact ok2
            .intro p' hp';rw[cO]at hp';rcases Gq hp' with hp' | hp'
             .obtain⟨p2,h1,h2⟩:=yN hp';rw[<-h2];exact l9 ah p2 h1
             .subst hp';rfl
           .cases k
          .cases k
         .cases k
        .cases k
       .cases k
   .cases hq
  .cases hq
 .rename_i r j k0 sz off hp;obtain⟨⟨vv,us,g,hb,hgb,ep⟩,_⟩:=aF ah hg tr hp;split at hq
  .rename_i tt sh l t2 e so own hs hT;have dM:=aU hT tr;have D:dh h w tt sh l t2 e so own hs vv us:=ah.ok.holds r _ _ dM hb;split at hq
   .rename_i v hv;have cv:=aF ah hg tr hv;cases hq;split at k
    .cases k
    rename_i hz;have hz:sz=e.size:=fC hz;obtain⟨⟨o1,o2,o3⟩,k⟩:=k;have hdj:=lH o3;have k:=k _ hdj;split at k
    .rename_i xs hxs;obtain⟨hk,k⟩:=k;have k:=k _ (lH hk);split at k
     .rename_i y' hy';split at k
      .rename_i dd hdd;have iI:=D.get hdj o1 o2 hxs;obtain⟨cur,he,f1,f2,f3,f4⟩:=iI.write hgb (lH hk) (λhr=>kG e hy' hr cv)
       have r1:=dF (o:=k0 * sz+off) (v:=a.eval x) ti he f2 (by rw[hz];omega) f3
       rw[hz]at ep r1;have D':=D.inner (w':=w.setRow g (cur.toList.take (k0 * e.size+off)++(a.eval x).cells.toList++cur.toList.drop (k0 * e.size+off+i.size)).toArray) hdj o1 o2 (λb hb' _=>setRow_other w g b _ λhh=>hb' (by rw[hh];exact hgb)) (λb hb'=>by
        rw[hgb]at hb';cases hb';exact⟨_,setRow_heap w g _ _ t2 (0,0) he,rfl⟩) hdd f4
       have ok:OK B h0 (eff s.gl (bF s.T r ([],.deep tt sh (l.set j dd) t2 e so own hs))) h β (w.setRow g (cur.toList.take (k0 * e.size+off)++(a.eval x).cells.toList++cur.toList.drop (k0 * e.size+off+i.size)).toArray):=by
        rw[rZ];have:=ah.ok.upd (r':=.deep tt sh (l.set j dd) t2 e so own hs) (v:=.deep vv us) dM rfl hb (row:=some g) (fU w g _) (λk e=>by cases e;exact aI.2 (.inr ⟨j,hgb⟩)) (λb hb=>.inl hb) (.inl rfl) (by rw[fH hb];exact D')
        rwa [fH hb]at this
       exact jP ah k rfl (by rw[ho];rfl) (.inr ⟨exec rfl ep r1,rfl⟩) (FH.le.refl h) ((ah.mem ok (FH.le.refl h) (Ext.refl β) (l9 ah)).put (bQ hd) rfl (λ_=>rfl) λhh=>by cases hh)
      .cases k
     .cases k
    .cases k
   .cases hq
  .cases hq
 .cases hq
abbrev JC(s:St) (x:Operand) (K:St->Prop):Option Prop:=match x with
 | .tmp t=>match dZ s.env t with
   | some ([],.one (.c (.sub r j)))=>match bW s.T r with
     | some ([],.deep tt sh l t2 e so own [])=>some ((own j=true/\j < l.length)/\∀d:sh.den,l[j]?=some d->match zX sh d so e with
       | some x=>K { s with T:=snoc (bF (mT (pX r) s.T) r ([],.deep tt sh l t2 e so own [j])) ([],.row t2 e x),env:=(t,[],.one (.c (.row (aC s.T)))) :: uI (pX r) s.env,gs:=SA s.gs t }
       | none=>False)
     | _=>none
   | _=>none
 | _=>none
theorem Tz(ah:Sat N B h0 s h β w a){x:Operand}{q:Prop} (hq:JC s x K=some q) (k:q):∃s' β',K s'/\Sat N B h0 s' h β' w a/\s'.gl=s.gl:=by
 have tr:gv s.gl []=true:=rfl;unfold JC at hq;split at hq
 .rename_i t;split at hq
  .rename_i r j hlk;split at hq
   .rename_i tt sh l t2 e so own hT;cases hq;have dM:=aU hT tr;obtain⟨⟨o1,o2⟩,k⟩:=k;have hdj:=lH o2;have k:=k _ hdj;split at k
    .rename_i xs hxs;obtain⟨z,z1,z2,_⟩:=ah.env t [] _ hlk;obtain⟨⟨vv,us,hb,hus⟩,hone⟩:bI h β (.c (.sub r j)) z:=z2 rfl;have D:dh h w tt sh l t2 e so own [] vv us:=ah.ok.holds r _ _ dM hb;have iI:=D.get hdj o1 rfl hxs;have ok2:=ah.ok.Hu (f:=pX r) (r':=.deep tt sh l t2 e so own [j]) (v:=.deep vv (nH us j)) (row:=none) (X:=λ_=>False) dM rfl hb (bC w none) (λk e=>by cases e) (λb hb=>hb.elim)
      (λb hb'=>by
       rw[aI]at hb';rcases hb' with hb' | ⟨i',hb'⟩
       .exact .inl (aI.2 (.inl hb'))
       .unfold nH at hb';split at hb'
        .cases hb'
        .exact .inl (aI.2 (.inr ⟨i',hb'⟩)))
      (λx y c=>bU.js hb (.inl rfl) c) (D.open hdj o1)
     have ok3:=ok2.adv (r:=.row t2 e xs) (v:=.row z) (λb hb'=>by
      rw[aN]at hb';rw[<-hus]at hb';have hu:(RV.deep vv us).has b:=aI.2 (.inr ⟨j,hb'⟩);obtain⟨p1,p2,p3⟩:=ah.ok.own r _ _ b dM rfl hb hu;refine⟨p1,p2,p3,λj' rj vj ej lj gK hbj=>?_⟩
      by_cases hj':j'=r
      .subst hj';rw[mJ (by have:=(fM.1 hb).1;exact this)]at gK
       cases gK;rw[aI]at hbj;rcases hbj with hbj | ⟨i',hbj⟩
       .obtain⟨g,cap,cur,e0,_,_,e3,_,e5,_⟩:=D.third o2;rw[e0,aJ (n:=l.length) e3.1]at hbj;cases hbj;exact e5 j hb'
       .unfold nH at hbj;split at hbj
        .cases hbj
        .rename_i hi';exact hi' (D.1 i' j b hbj hb')
      .rw[jU (Ne.symm hj')]at gK;rw[jU (Ne.symm hj'),Ef]at ej;cases hh:(eff s.gl s.T)[j']? with
       | none=>rw[hh]at ej;cases ej
       | some r0=>
         rw[hh]at ej;cases ej;exact hj' (ah.ok.inj j' r _ _ _ _ b hh (by rw[<-lS (pX r)];exact lj) dM rfl gK hb hbj hu)) (by rw[<-hus];exact iI)
     have hlen:aC s.T=(β.set r (.deep vv (nH us j))).length:=by rw[xu,ah.ok.len,eF,aK]
     refine⟨_,(β.set r (.deep vv (nH us j)))++[.row z],k,?_,rfl⟩;have hC:∀x y,bU h β x y->bU h ((β.set r (.deep vv (nH us j)))++[.row z]) (pX r x) y:=λx y c=>(bU.js hb (.inl rfl) c).mono (FH.le.refl h) (Ext.append _ _)
     have sm:=ah.map (f:=pX r) (T':=snoc (bF (mT (pX r) s.T) r ([],.deep tt sh l t2 e so own [j])) ([],.row t2 e xs)) (h':=h) (β':=(β.set r (.deep vv (nH us j)))++[.row z]) (w':=w) (FH.le.refl h) (λ_=>rfl) hC (by
      rw[dW,dK,yM];exact ok3) (λp hp=>by
      rw[dY,zO]at hp;rcases hp with hp | hp
      .rw[cO]at hp;rcases Gq hp with hp | hp
       .obtain⟨p2,h1,h2⟩:=yN hp;rw[<-h2];exact ah.gT p2 h1
       .subst hp;rfl
      .simp at hp;subst hp;rfl)
     refine⟨sm.ok,?_,?_,sm.defers,sm.sz,?_,sm.gT⟩
     .intro t' G e' ht;rw[aP]at ht;split at ht
      .rename_i hkt;subst hkt;cases ht;refine⟨z,z1,λ_=>⟨⟨.row z,?_,rfl⟩,hone⟩,λhh=>by cases hh⟩
       rw[hlen];simp
      .exact sm.env t' G e' ht
     .intro d i hi;obtain⟨hne,hi⟩:=vG _ _ _ _ hi;obtain⟨G,b,q1,q2⟩:=sm.gs d i hi;exact⟨G,b,by rw[aP,if_neg (Ne.symm hne)];exact q1,q2⟩
     .intro t' G e' ht;rw[aP]at ht;split at ht
      .cases ht;rfl
      .exact sm.gb _ _ _ ht
    .cases k
   .cases hq
  .cases hq
 .cases hq
abbrev OJ(s:St) (i j:Nat):List SV->(List SV->Prop)->Prop
 | [],K=>K []
 | .c (.sub i' k) :: l,K=>match Nat.beq i i' with
   | true=>k≠j/\KZ s [] i' k λe x=>OJ s i j l λr=>K (.c (.sl e x) :: r)
   | false=>False
 | v :: l,K=>match noRow v with
   | true=>match Tc s [] v with
     | some v'=>OJ s i j l λr=>K (v' :: r)
     | none=>False
   | false=>False
abbrev XO(cx:Cx) (ip:IP) (s:St) (d:Option Nat) (args:List Operand) (K:St->Prop):Prop:=match args with
 | []=>False
 | x :: r=>match bf cx s [] x with
   | some (.one (.c (.sub i j)))=>match bW s.T i with
     | some ([],.deep tt sh l t2 e so own hs)=>match bJ (nY e ip.sh) (bJ (fV ip.sh) (!ip.back)) with
       | false=>False
       | true=>match nD cx s [] r with
         | none=>False
         | some vs=>(own j=true/\kE j hs=false/\j < l.length)/\∀d0:sh.den,l[j]?=some d0->match zX sh d0 so ip.sh with
           | none=>False
           | some xs=>OJ s i j vs λbs=>match su ip.ps bs with
             | none=>False
             | some dd=>ip.pre xs dd/\match zY sh d0 so ip.sh (ip.res xs dd) with
               | some d1=>K ({ s with T:=bF s.T i ([],.deep tt sh (l.set j d1) t2 e so own hs) }.put d [] (.l7 []))
               | none=>False
     | _=>False
   | _=>False
open Classical in
noncomputable def FH.but (w:World) (u:Value):FH:=λb o=>if ak u=some b then none else vis w b o
theorem XP(ah:Sat N B h0 s h β w a){vv:Value}{us:Nat->Value} (hT:(eff s.gl s.T)[i]?=some r) (hl:r.live=true) (hb:β[i]?=some (.deep vv us)):h.le (FH.but w (us j)):=by
 intro b o v hv;unfold FH.but;rw[if_neg]
 .exact ah.ok.hw b o v hv
 .intro hh;rw[(ah.ok.own i r _ b hT hl hb (aI.2 (.inr ⟨j,hh⟩))).2.2 o]at hv;cases hv
theorem Dk(ah:Sat N B h0 s h β w a){i j:Nat}{vv:Value}{us:Nat->Value} (hb:β[i]?=some (.deep vv us)) (inj:∀j k b,ak (us j)=some b->ak (us k)=some b->j=k) (le:h.le (FH.but w (us j))):
 ∀{vs:List SV}{ys:List Value}{K:List SV->Prop},aG (bI h β) vs ys->OJ s i j vs K->∃bs,K bs/\aG (bI (FH.but w (us j)) []) bs ys
 | [],[],K,_,k=>⟨[],k,trivial⟩
 | x :: l,y :: ys,K,⟨c,r⟩,k=>by
   have tr:gv s.gl []=true:=rfl;unfold OJ at k;split at k
   .rename_i he;cases he
   .rename_i i' k' l' K' he;cases he;split at k
    .rename_i hi;have hi:=fC hi;subst hi;obtain⟨hk,k⟩:=k;obtain⟨e,xs,k1,k2⟩:=xC ah k;obtain⟨bs,k3,c3⟩:=Dk ah hb inj le r k1;obtain⟨⟨vv2,o7,hb2,rfl⟩,hone⟩:=c;rw[hb]at hb2;cases hb2;obtain⟨tt,iI⟩:=k2 tr vv us hb;refine⟨_,k3,⟨?_,hone⟩,c3⟩;refine iI.sl le λb hb3 o z hz=>?_
     unfold FH.but;rw[if_neg]
     .exact hz
     .exact λhh=>hk (inj _ _ b hb3 hh)
    .cases k
   .rename_i v' l' K' hne he;cases he;split at k
    .rename_i hnr;split at k
     .rename_i v1 hv1;obtain⟨bs,k3,c3⟩:=Dk ah hb inj le r k;exact⟨_,k3,(((Jr ah tr hv1 c).2 hnr).mono le (Ext.refl [])),c3⟩
     .cases k
    .cases k
theorem OL{f:FuncId}{ip:IP} (Jt:Lu P cx.gd f ip) (hf:∃fn,P.funcs[f]?=some fn/\fn.body.isSome=true/\(fn.name == "runtime.NumGoroutine")=false)
 (ah:Sat N B h0 s h β w a) (hg:aB cx.gd h) (hd:iP N o.dst=true) (ho:o.op=.call c) (aY:c.callee=.value (.func f))
 (k:XO cx ip s o.dst (tl c.args) K):wK P N B h0 h w a o true K:=by
 have tr:gv s.gl []=true:=rfl;unfold XO at k;split at k
 .cases k
 rename_i x r hargs0;split at k
 .rename_i i j hx;split at k
  .rename_i tt sh l t2 e so own hs hT;split at k
   .cases k
   rename_i hck;rw[au,au,A8,A8]at hck;have he:e=ip.sh:=lK hck.1;subst he;have hfl:=hck.2.1;have hbk:ip.back=false:=by simpa using hck.2.2
   split at k
   .cases k
   rename_i vs hvs;obtain⟨⟨o1,o2,o3⟩,k⟩:=k;have hdj:=lH o3;have k:=k _ hdj;split at k
   .cases k
   rename_i xs hxs;have dM:=aU hT tr;obtain⟨⟨vv,us,hb,hus⟩,_⟩:bI h β (.c (.sub i j)) (a.eval x):=aF ah hg tr hx;have D:dh h w tt sh l t2 ip.sh so own hs vv us:=ah.ok.holds i _ _ dM hb;have iI:=D.get hdj o1 o2 hxs;have le:h.le (FH.but w (us j)):=XP ah dM rfl hb;have hav:=kY ah hg tr hvs;obtain⟨bs,k,cb⟩:=Dk ah hb D.1 le hav k;split at k
   .cases k
   rename_i dd hdd;obtain⟨bD,k⟩:=k;split at k
   .rename_i d1 hd1;intro Nx Q next
    rw[if_pos rfl];obtain⟨fn,hfn,hbody,hname⟩:=hf;have exec:(execOp a.eval o).run P w=.ok (.enter f (c.args.map a.eval)) w:=by
     simp only[execOp,ho,resolve,aY,Act.eval,Deferred.ofValue,invoke,Sem.run_bind,Sem.run_pure,Result.andThen_ok,callFunc,run_program,hfn,hname];simp[hbody];cases hb:fn.body with
     | none=>rw[hb]at hbody;cases hbody
     | some _=>simp
    have hargs:(c.args.map a.eval)=(a.eval x :: r.map a.eval).toArray:=by
     have:c.args=(x :: r).toArray:=by
      cases hc:c.args with
      | mk q=>rw[hc]at hargs0;simp only[tl]at hargs0;rw[hargs0]
     rw[this];simp
    unfold Oper.wp;rw[exec];simp only[Oper.upon];rw[hargs];refine(Jt t2 xs dd (a.eval x) _ (FH.but w (us j)) w (λb o u hu=>?_) (hg.mono le) (show Holds (FH.but w (us j)) [] w (.row t2 ip.sh xs) (.row (a.eval x)) by rw[<-hus];exact iI.move le λ_ _=>rfl) (λb hb' o=>?_) (qK hdd cb) bD).mono ?_
    .unfold FH.but at hu;split at hu
     .cases hu
     .exact hu
    .unfold FH.but;rw[hus,if_pos hb']
    rintro en w' ⟨v',y,rfl,hgr,hv,hold',_,hb2⟩;obtain⟨rfl,rfl⟩:=hb2 hbk;have hrow':jG h w' t2 ip.sh (ip.res xs dd) (us j):=by
     have:=Holds.flat (h':=h) (show qL (.row t2 ip.sh (ip.res xs dd))=true from hfl) hold'
     rw[hus];exact this
    have D':dh h w' tt sh (l.set j d1) t2 ip.sh so own hs vv us:=D.inner hdj o1 o2 (λb hb' hx'=>by
     obtain⟨o',ho'⟩:=hx';exact hgr.block b (xk.1 ho').1 (λhh=>hb' (by rw[hus];exact hh.symm))) (λb hb'=>by
     exact Holds.cells (h:=h) (β:=[]) (r:=.row t2 ip.sh (ip.res xs dd)) (v:=.row (us j)) hrow' rfl (aN.2 hb')) hd1 hrow'
    have ok:OK B h0 (eff s.gl (bF s.T i ([],.deep tt sh (l.set j d1) t2 ip.sh so own hs))) h β w':=by
     rw[rZ];have:=ah.ok.upd (r':=.deep tt sh (l.set j d1) t2 ip.sh so own hs) (v:=.deep vv us) dM rfl hb hgr (λk e=>aI.2 (.inr ⟨j,by rw[hus];exact e⟩)) (λb hb=>.inl hb) (.inl rfl) (by rw[fH hb];exact D')
     rwa [fH hb]at this
    exact next _ _ _ _ _ k (FH.le.refl h) ((ah.mem ok (FH.le.refl h) (Ext.refl β) (l9 ah)).put (bQ hd) rfl (λ_=>⟨[],rfl,trivial⟩) λhh=>by cases hh)
   .cases k
  .cases k
 .cases k
theorem bU.us{us:Nat->Value} (hu:β[i]?=some (.deep v us)){x:SC} (c:bU h β x y):bU h (β.set i (.row v)) (pX i x) y:=by
 unfold pX;split
 .rename_i hf;cases x with
  | v _=>exact c
  | sl _ _=>exact c
  | fp _ _=>exact c
  | one _ _=>exact c
  | abs _=>exact c
  | junk=>trivial
  | own j off=>
    obtain⟨b,e,e'⟩:=c;refine⟨b,?_,e'⟩;rw[bT hu,if_neg]
    .exact e
    .rintro rfl;rw[hu]at e;cases e
  | row j=>
    obtain⟨z,e,e'⟩:=c
    by_cases hj:j=i
    .subst hj;rw[hu]at e;cases e;exact⟨.row v,by rw[bT hu,if_pos rfl],e'⟩
    .exact⟨z,by rw[bT hu,if_neg hj];exact e,e'⟩
  | iw j k sz off=>
    obtain⟨z,g,e,e',e2⟩:=c
    by_cases hj:j=i
    .subst hj;rw[hu]at e;cases e;exact⟨.row v,g,by rw[bT hu,if_pos rfl],e',e2⟩
    .exact⟨z,g,by rw[bT hu,if_neg hj];exact e,e',e2⟩
  | sub j k=>
    obtain⟨z,o7,e,e'⟩:=c;exact⟨z,o7,by rw[bT hu,if_neg (Ht hf)];exact e,e'⟩
  | jC j k m sz off=>
    obtain⟨z,o7,g,e,e'⟩:=c;exact⟨z,o7,g,by rw[bT hu,if_neg (Ht hf)];exact e,e'⟩
 .trivial
theorem dh.row{s:Sh}{l:List s.den}{own:Nat->Bool}{us:Nat->Value} (x:dh h w t s l tt e so own [] v us) (le:h.le h')
 (hb:∀b,(∃j,ak (us j)=some b)->∀o z,vis w b o=some z->h' b o=some z):jG h' w t s l v/\∀g,ak v=some g->∀j,ak (us j)≠some g:=by
 obtain⟨_,_,x⟩:=x;rcases x with⟨e1,e2⟩ | ⟨ra,e1,e2⟩ | ⟨g,cap,cur,e1,q1,q2,q3,q4,q5,q6⟩
 .exact⟨.inl ⟨e1,e2⟩,λg hg=>by subst e1;simp[ak]at hg⟩
 .exact⟨.inr (.inl ⟨ra,e1,e2⟩),λg hg=>by subst e1;simp[ak]at hg⟩
 .have lc:cur.toList.length=cap * s.size:=by simpa using q4
  have hm:l.length * s.size<=cap * s.size:=tC _ q2;refine⟨.inr (.inr ⟨g,cap,cur,e1,q1,q2,q3,q4,?_⟩),λg' hg'=>?_⟩
  .refine dQ.GZ (k:=s.size) (by rw[lY];omega) λj d hd=>?_
   have hj:=(fM.1 hd).1;have hm:(j+1) * s.size<=l.length * s.size:=tC _ hj;rw[rP]at hm;have e5:List.take s.size (List.drop (j * s.size) (List.take (l.length * s.size) cur.toList))=List.take s.size (List.drop (j * s.size) cur.toList):=by
    apply zT;intro p;simp only[qU,Ea];split
    .rw[if_pos (by omega)]
    .rfl
   rw[e5];exact(q6 j d hd).rd le λb hu=>hb b ⟨j,hu⟩
  .rw[e1,aJ q3.1]at hg';cases hg';exact q5
theorem OK.XQ(ok:OK B h0 T h β w){s:Sh}{l:List s.den}{own:Nat->Bool}{us:Nat->Value}
 (hT:T[i]?=some (.deep t s l tt e so own [])) (hu:β[i]?=some (.deep v us)):
 h.le (h.jE w λb=>∃j,ak (us j)=some b)/\OK B h0 ((T.map (mR (pX i))).set i (.row t s l)) (h.jE w λb=>∃j,ak (us j)=some b) (β.set i (.row v)) w:=by
 have hi:i < T.length:=(fM.1 hT).1;have hi':i < β.length:=by rw[ok.len];exact hi
 have hl:(ay.deep t s l tt e so own []).live=true:=rfl;have own':=λg hv=>ok.own i _ _ g hT hl hu hv
 have sub:∀{b:Nat},(∃j,ak (us j)=some b)->(RV.deep v us).has b:=λhb=>aI.2 (.inr hb)
 have le:h.le (h.jE w λb=>∃j,ak (us j)=some b):=by
  intro b o x hb;unfold FH.jE
  by_cases hbg:∃j,ak (us j)=some b
  .rw[(own' b (sub hbg)).2.2 o]at hb;cases hb
  .rw[if_neg hbg];exact hb
 have hold:dh h w t s l tt e so own [] v us:=ok.holds i _ _ hT hu;obtain⟨rh,rn⟩:=hold.row le λb hb o z hz=>by
  unfold FH.jE;rw[if_pos hb];exact hz
 have get:∀{j:Nat}{rj:ay},j≠i->((T.map (mR (pX i))).set i (.row t s l))[j]?=some rj->∃r0,T[j]?=some r0/\rj=mR (pX i) r0:=by
  intro j rj hj e;rw[jU (Ne.symm hj),Ef]at e;cases hh:T[j]? with
  | none=>rw[hh]at e;cases e
  | some r0=>rw[hh]at e;cases e;exact⟨r0,rfl,rfl⟩
 have abd:∀{b:Nat},(RV.row v).has b->(RV.deep v us).has b:=λhb=>aI.2 (.inl (aN.1 hb))
 refine⟨le,{
  below:=ok.below
  dr:=ok.dr
  len:=by simp[ok.len]
  holds:=?_
  own:=?_
  inj:=?_
  hle:=ok.hle.trans le
  hw:=?_
  hg:=?_
  kn:=ok.kn }⟩
 .intro j rj vj ej gK
  by_cases hj:j=i
  .subst hj;rw[mJ (by simpa using hi)]at ej
   rw[mJ hi']at gK;cases ej;cases gK;exact rh
  .obtain⟨r0,e0,rfl⟩:=get hj ej;rw[jU (Ne.symm hj)]at gK;exact(ok.holds j r0 vj e0 gK).map le (λx y c=>(bU.us hu c).mono le (Ext.refl _)) λ_ _ _=>rfl
 .intro j rj vj b ej hlj gK hb
  by_cases hj:j=i
  .subst hj;rw[mJ hi']at gK;cases gK;obtain⟨a1,a2,a3⟩:=own' b (abd hb);refine⟨a1,a2,λo=>?_⟩
   unfold FH.jE;rw[if_neg,a3 o];rintro⟨j',hj'⟩;exact rn b (aN.1 hb) j' hj'
  .obtain⟨r0,e0,rfl⟩:=get hj ej;rw[jU (Ne.symm hj)]at gK;have abe:r0.live=true:=by rw[<-lS (pX i)];exact hlj
   obtain⟨a1,a2,a3⟩:=ok.own j r0 vj b e0 abe gK hb;refine⟨a1,a2,λo=>?_⟩
   unfold FH.jE;rw[if_neg,a3 o];exact λhg=>hj (ok.inj j i _ _ _ _ _ e0 abe hT hl gK hu hb (sub hg))
 .intro j k r1 r2 u1 u2 b e1 l1 e2 l2 e3 e4 b1 b2;have look:∀{m:Nat}{rm:ay}{um:RV},((T.map (mR (pX i))).set i (.row t s l))[m]?=some rm->rm.live=true->(β.set i (.row v))[m]?=some um->um.has b->∃r0 u0,T[m]?=some r0/\r0.live=true/\β[m]?=some u0/\u0.has b:=by
   intro m rm um e l e' hb
   by_cases hm:m=i
   .subst hm;rw[mJ hi']at e';cases e';exact⟨_,_,hT,hl,hu,abd hb⟩
   .obtain⟨r0,e0,rfl⟩:=get hm e;rw[jU (Ne.symm hm)]at e';exact⟨r0,um,e0,by rw[<-lS (pX i)];exact l,e',hb⟩
  obtain⟨p1,p2,p3,p4,p5,p6⟩:=look e1 l1 e3 b1;obtain⟨q1,q2,q3,q4,q5,q6⟩:=look e2 l2 e4 b2;exact ok.inj j k p1 q1 p2 q2 b p3 p4 q3 q4 p5 q5 p6 q6
 .intro b o x hb;unfold FH.jE at hb;split at hb
  .exact hb
  .exact ok.hw b o x hb
 .intro b o x hb;unfold FH.jE at hb;split at hb
  .rename_i hbg;exact .inr (own' b (sub hbg)).1
  .exact ok.hg b o x hb
abbrev Cm(s:St) (i:Nat):St:=match bW s.T i with
 | some ([],.deep t sh l _ _ _ _ [])=>{ s with T:=bF (mT (pX i) s.T) i ([],.row t sh l),env:=uI (pX i) s.env }
 | _=>s
theorem Sat.Cm(ah:Sat N B h0 s h β w a) (i:Nat):∃h' β',h.le h'/\Sat N B h0 (Cm s i) h' β' w a:=by
 unfold Go.lZ.Cm;split
 .rename_i t sh l t2 e so own hT;have dM:(eff s.gl s.T)[i]?=some (.deep t sh l t2 e so own []):=by rw[gQ,<-bY,hT];rfl
  have gX:i < β.length:=by rw[ah.ok.len];exact(fM.1 dM).1
  have hu:=lH gX;have hold:=ah.ok.holds i _ _ dM hu;cases hb:β[i]with
  | blk b=>rw[hb]at hold;cases hold
  | no=>rw[hb]at hold;cases hold
  | row _=>rw[hb]at hold;cases hold
  | deep v us=>
    rw[hb]at hu;obtain⟨le,ok'⟩:=ah.ok.XQ dM hu;refine⟨_,_,le,ah.map (f:=pX i) le (λ_=>rfl) (λx y c=>(bU.us hu c).mono le (Ext.refl _)) ?_ ?_⟩
    .rw[dK,yM];exact ok'
    .intro p hp;rw[cO]at hp;rcases Gq hp with hp | hp
     .obtain⟨q,h1,h2⟩:=yN hp;rw[<-h2];exact ah.gT q h1
     .subst hp;rfl
 .exact⟨h,β,FH.le.refl h,ah⟩
abbrev TA(s:St) (i:Nat):St:=match Nat.ble 1000 i with
 | true=>Cm s (i - 1000)
 | false=>EJ s i
abbrev EN(s:St):List Nat->St
 | []=>s
 | i :: r=>EN (TA s i) r
theorem Sat.EN:∀{l:List Nat}{s:St}{h:FH}{β:List RV},Sat N B h0 s h β w a->∃h' β',h.le h'/\Sat N B h0 (EN s l) h' β' w a
 | [],s,h,β,ah=>⟨h,β,FH.le.refl h,ah⟩
 | i :: r,s,h,β,ah=>by
   have h1:∃h' β',h.le h'/\Sat N B h0 (TA s i) h' β' w a:=by
    unfold TA;split
    .exact ah.Cm _
    .obtain⟨h',le,aH⟩:=ah.XM i;exact⟨h',β,le,aH⟩
   obtain⟨h1,β1,le1,eH⟩:=h1;obtain⟨h2,β2,eX,aQ⟩:=Sat.EN (l:=r) eH;exact⟨h2,β2,le1.trans eX,aQ⟩
abbrev qP(s:St):List (Nat×TypeId×Sh×Nat)->St
 | []=>s
 | (i,tt,e,so) :: l=>qP (EM s i tt e so) l
theorem Sat.qP:∀(l:List (Nat×TypeId×Sh×Nat)){s:St}{β:List RV},Sat N B h0 s h β w a->∃β',Sat N B h0 (qP s l) h β' w a
 | [],s,β,ah=>⟨β,ah⟩
 | (i,tt,e,so) :: l,s,β,ah=>by
   obtain⟨β1,eH⟩:=ah.EM i tt e so;exact Sat.qP l eH
theorem OK.Dl(ok:OK B h0 T h β w){r':ay} (hT:T[i]?=some r) (hl:r.live=true) (hold:∀v,Holds h β w r v->Holds h β w r' v):OK B h0 (T.set i r') h β w:=by
 have hi:i < T.length:=(fM.1 hT).1;have key:∀{m:Nat}{rm:ay},(T.set i r')[m]?=some rm->rm.live=true->∃rm',T[m]?=some rm'/\rm'.live=true:=by
  intro m rm e l
  by_cases hm:m=i
  .subst hm;exact⟨r,hT,hl⟩
  .rw[jU (Ne.symm hm)]at e;exact⟨rm,e,l⟩
 exact {
  below:=ok.below
  dr:=ok.dr
  len:=by simp[ok.len]
  holds:=by
   intro j rj vj ej gK
   by_cases hj:j=i
   .subst hj;rw[mJ hi]at ej;cases ej;exact hold vj (ok.holds j r vj hT gK)
   .rw[jU (Ne.symm hj)]at ej;exact ok.holds j rj vj ej gK
  own:=by
   intro j rj vj b ej l gK hb;obtain⟨rm,e1,e2⟩:=key ej l;exact ok.own j rm vj b e1 e2 gK hb
  inj:=by
   intro j k r1 r2 u v b e1 l1 e2 l2 e3 e4 b1 b2;obtain⟨q1,f1,f2⟩:=key e1 l1;obtain⟨q2,g1,g2⟩:=key e2 l2;exact ok.inj j k q1 q2 u v b f1 f2 g1 g2 e3 e4 b1 b2
  hle:=ok.hle
  hw:=ok.hw
  hg:=ok.hg
  kn:=ok.kn }
abbrev EO(s:St) (i c:Nat) (t:TypeId) (sh:Sh):St:=match bW s.T i with
 | some ([],.blk t' cs)=>match bW cs c with
   | some (.v (.slice none 0 0))=>{ s with T:=snoc (bF s.T i ([],.blk t' (bF cs c (.row (aC s.T))))) ([],.row t sh []) }
   | _=>s
 | _=>s
theorem aG.bF{α β:Type}{R:α->β->Prop}{y:α}{z:β} (hR:R y z):∀{l:List α}{m:List β}{c:Nat},m[c]?=some z->aG R l m->aG R (lZ.bF l c y) m
 | [],[],_,h,_=>by simp at h
 | _ :: _,_ :: _,0,h,⟨_,b⟩=>by simp at h;subst h;exact⟨hR,b⟩
 | _ :: _,_ :: _,c+1,h,⟨a,b⟩=>⟨a,aG.bF hR (by simpa using h) b⟩
theorem Sat.EO(ah:Sat N B h0 s h β w a) (i c:Nat) (t:TypeId) (sh:Sh):∃β',Sat N B h0 (EO s i c t sh) h β' w a:=by
 unfold lZ.EO;split
 .rename_i t' cs hT;split
  .rename_i hc;have dM:=aU hT (show gv s.gl []=true from rfl)
   have ok1:OK B h0 (eff s.gl s.T++[.row t sh []]) h (β++[.row (.slice none 0 0)]) w:=ah.ok.add (r:=.row t sh []) (v:=.row (.slice none 0 0)) (bC w none) (λb hb=>by rw[aN]at hb;simp[ak]at hb) (.inl ⟨rfl,rfl⟩)
   have hi:=(fM.1 dM).1;have hlen:aC s.T=β.length:=by rw[ah.ok.len,eF,aK]
   have hT1:(eff s.gl s.T++[.row t sh []])[i]?=some (.blk t' cs):=by rw[Nq hi];exact dM
   have ok2:=ok1.Dl (r':=.blk t' (lZ.bF cs c (.row (aC s.T)))) hT1 rfl λv hv=>by
    cases v with
    | blk b=>
      obtain⟨ys,e1,al⟩:=hv;refine⟨ys,e1,?_⟩;obtain⟨y,hy,hcn⟩:=al.get (show cs[c]?=some (.v (.slice none 0 0)) by rw[<-bY];exact hc)
      obtain rfl:y=.slice none 0 0:=hcn.1.1;refine aG.bF ?_ hy al;refine⟨⟨.row (.slice none 0 0),?_,rfl⟩,rfl,rfl⟩;rw[hlen];simp
    | row _=>exact hv.elim
    | deep _ _=>exact hv.elim
    | no=>exact hv.elim
   refine⟨β++[.row (.slice none 0 0)],ah.mem ?_ (FH.le.refl h) (Ext.append _ _) λp hp=>?_⟩
   .rw[dW,dK];have e:((eff s.gl s.T)++[ay.row t sh []]).set i (.blk t' (lZ.bF cs c (.row (aC s.T))))=(eff s.gl s.T).set i (.blk t' (lZ.bF cs c (.row (aC s.T))))++[.row t sh []]:=by rw[List.set_append_left _ _ hi]
    rw[e]at ok2;exact ok2
   .rw[dY,zO]at hp;rcases hp with hp | hp
    .rw[cO]at hp;rcases Gq hp with hp | hp
     .exact ah.gT p hp
     .subst hp;rfl
    .simp at hp;subst hp;rfl
  .exact⟨β,ah⟩
 .exact⟨β,ah⟩
abbrev AZ(s:St):List (Nat×Nat×TypeId×Sh)->St
 | []=>s
 | (i,c,t,sh) :: l=>AZ (EO s i c t sh) l
theorem Sat.AZ:∀(l:List (Nat×Nat×TypeId×Sh)){s:St}{β:List RV},Sat N B h0 s h β w a->∃β',Sat N B h0 (AZ s l) h β' w a
 | [],s,β,ah=>⟨β,ah⟩
 | (i,c,t,sh) :: l,s,β,ah=>by
   obtain⟨β1,eH⟩:=ah.EO i c t sh;exact Sat.AZ l eH
theorem Ba{dT sT:TypeId}{i:TI} (k:aS P el i) (hu:P.underlying dT=some (.slice el)){d b:Option Addr}{dLen dCap sLen sCap:Nat} (hn:Nat.min sLen dLen=0):
 (Builtin.copy_ #[dT,sT] ty #[.slice d dLen dCap,.slice b sLen sCap]).run P w=.ok (goInt 0) w:=by
 have hl:∀(x:Addr),(loadCells x 0).run P w=.ok #[] w:=λx=>by simpa using run_loadCells_list (P:=P) w x [] (by simp)
 cases d<;>cases b<;>simp[Builtin.copy_,run_underlying hu,Builtin.lenOf,Builtin.firstCells,run_sizeOf k,hn,storeCells,hl]
theorem LM{dT sT:TypeId}{i:TI} (k:aS P el i) (hu:P.underlying dT=some (.slice el)){dLen dCap:Nat}{b:Addr}{sLen sCap:Nat}{cur:Array Value}
 (hg:w.heap[g]?=some (.cells cur t (0,0))) (hn:cs.length=Nat.min sLen dLen * i.size) (hsrc:∀j v,cs[j]?=some v->w.cell? (b.add j)=some v) (hfit:cs.length<=cur.size) (h1:∀v∈cs,v.oneCell'=true):
 (Builtin.copy_ #[dT,sT] ty #[.slice (some ⟨g,0,none⟩) dLen dCap,.slice (some b) sLen sCap]).run P w=.ok (goInt (Nat.min sLen dLen)) (w.setRow g (cs++cur.toList.drop cs.length).toArray):=by
 have hl:=run_loadCells_list (P:=P) w b cs hsrc;have hst:=run_storeCells_at P g 0 t cs 0 cur w hg (by simpa using hfit) h1
 simp only[KN,xw,KG,IZ]at hst;simp[Builtin.copy_,run_underlying hu,Builtin.lenOf,Builtin.firstCells,run_sizeOf k,<-hn,hl,hst]
abbrev JD(cx:Cx) (s:St) (d:Option Nat) (t:TypeId) (x y:Operand) (K:St->Prop):Prop:=eG cx t λel ie sh=>match bf cx s [] x with
 | some (.one (.c (.row r)))=>match bW s.T r with
   | some ([],.row tt dD l1)=>match gU (.sl dD) l1 (.sl sh) with
     | some l=>match bf cx s [] y with
       | some (.one v)=>match CQ s sh v with
         | some l2=>K ({ s with T:=bF s.T r ([],.row tt sh (l2.take l.length++l.drop l2.length)) }.put d [] (vI .i64 (Nat.min l2.length l.length)))
         | none=>False
       | _=>False
     | none=>False
   | _=>False
 | _=>False
def TB(a b:Int):Int:=if b < a then b else a
abbrev TD(cx:Cx) (s:St) (d:Option Nat) (x y:Operand) (K:St->Prop):Prop:=match bf cx s [] x with
 | some (.one (.c (.v (.int .i64 a))))=>match bf cx s [] y with
   | some (.one (.c (.v (.int .i64 b))))=>K (s.put d [] (vI .i64 (TB a b)))
   | _=>False
 | _=>False
theorem OM(ah:Sat N B h0 s h β w a) (hg:aB cx.gd h) (hd:iP N o.dst=true){x y:Operand} (ho:o.op=.call c) (aY:c.callee=.builtin .min) (ha:c.args=#[x,y])
 (k:TD cx s o.dst x y K):dO P N B h0 h w a o (gv s.gl []) K:=by
 have tr:gv s.gl []=true:=rfl;unfold TD at k;split at k
 .rename_i n hx;have ex:a.eval x=.int .i64 n:=(aF ah hg tr hx:bI h β (.c (.v (.int .i64 n))) (a.eval x)).1.1;split at k
  .rename_i m hy;have ey:a.eval y=.int .i64 m:=(aF ah hg tr hy:bI h β (.c (.v (.int .i64 m))) (a.eval y)).1.1;refine jP ah k rfl (by rw[ho];simp[quietly,aY]) (.inl ?_) (FH.le.refl h) (ah.put (G:=[]) (e:=vI .i64 (TB n m)) (z:=.int .i64 (TB n m)) (bQ hd) rfl (λ_=>⟨⟨rfl,aW _ _⟩,aW _ _⟩) λhh=>by cases hh)
   simp[execOp,ho,resolve,aY,ha,invoke,builtin,ex,ey,Builtin.min_,Builtin.min2,TB]
  .cases k
 .cases k
theorem LP(ah:Sat N B h0 s h β w a) (hg:aB cx.gd h) (hd:iP N o.dst=true){x y:Operand} (ho:o.op=.call c) (aY:c.callee=.builtin .max) (ha:c.args=#[x,y])
 (k:G9 cx s o.dst x y K):dO P N B h0 h w a o (gv s.gl []) K:=by
 have tr:gv s.gl []=true:=rfl;unfold G9 at k;split at k
 .rename_i n hx;have ex:a.eval x=.int .i64 n:=(aF ah hg tr hx:bI h β (.c (.v (.int .i64 n))) (a.eval x)).1.1;split at k
  .rename_i m hy;have ey:a.eval y=.int .i64 m:=(aF ah hg tr hy:bI h β (.c (.v (.int .i64 m))) (a.eval y)).1.1;refine jP ah k rfl (by rw[ho];simp[quietly,aY]) (.inl ?_) (FH.le.refl h) (ah.put (G:=[]) (e:=vI .i64 (G8 n m)) (z:=.int .i64 (G8 n m)) (bQ hd) rfl (λ_=>⟨⟨rfl,aW _ _⟩,aW _ _⟩) λhh=>by cases hh)
   simp[execOp,ho,resolve,aY,ha,invoke,builtin,ex,ey,Builtin.max_,Builtin.max2,G8]
  .cases k
 .cases k
theorem LQ(hc:bG P cx.ti) (ah:Sat N B h0 s h β w a) (hg:aB cx.gd h) (hd:iP N o.dst=true){t':TypeId}{x y:Operand} (ho:o.op=.call c) (aY:c.callee=.builtin .copy) (ha:c.args=#[x,y]) (hat:c.argTypes=#[t,t'])
 (k:JD cx s o.dst t x y K):dO P N B h0 h w a o (gv s.gl []) K:=by
 have tr:gv s.gl []=true:=rfl;unfold JD at k;unfold eG at k;split at k
 .rename_i el hde;have hu:=aV hc hde (by simp)
  split at k
  .cases k
  rename_i ie hie;have tie:=hc.get hie;split at k
  .cases k
  rename_i sh hsh;split at k
  .rename_i hz;rw[au,au,A8,A8]at hz;have hz1:sh.size=ie.size:=fC hz.1;split at k
   .rename_i r hx;split at k
    .rename_i tt dD l1 hT;split at k
     .rename_i l hl;obtain⟨e1,e2⟩:=kW hl;subst e1;simp only at e2;subst e2;split at k
      .rename_i v hv;split at k
       .rename_i l2 hl2;have AU:=(aF ah hg tr hx:bI h β (.c (.row r)) (a.eval x));have cv:=aF ah hg tr hv;have dM:=aU hT tr;have hb:=ah.ok.row_of dM AU.1;have iI:jG h w tt dD l1 (a.eval x):=ah.ok.holds r _ _ dM hb;have src:=uw ah hl2 cv;have exec:∀{w':World},(Builtin.copy_ #[t,t'] o.type #[a.eval x,a.eval y]).run P w=.ok (goInt (Nat.min l2.length l1.length)) w'->(execOp a.eval o).run P w=.ok (.value (goInt (Nat.min l2.length l1.length))) w':=by
         intro w' r0;simp only[execOp,ho,resolve,aY,ha,hat,invoke,builtin,Sem.run_bind,Sem.run_pure,Result.andThen_ok];simp[r0]
        have fin:∀{w':World}{row:Option Nat},Gb w w' row->(∀k,row=some k->ak (a.eval x)=some k)->(Builtin.copy_ #[t,t'] o.type #[a.eval x,a.eval y]).run P w=.ok (goInt (Nat.min l2.length l1.length)) w' ->
         jG h w' tt dD (l2.take l1.length++l1.drop l2.length) (a.eval x)->dO P N B h0 h w a o (gv s.gl []) K:=by
         intro w' row hgr hrw r0 hr;have ok:OK B h0 (eff s.gl (bF s.T r ([],.row tt dD (l2.take l1.length++l1.drop l2.length)))) h β w':=by
          rw[rZ];have:=ah.ok.upd (r':=.row tt dD (l2.take l1.length++l1.drop l2.length)) (v:=.row (a.eval x)) dM rfl hb hgr (λk e=>aN.2 (hrw k e)) (λb hb=>.inl hb) (.inl rfl) hr
          rwa [fH hb]at this
         exact jP ah k rfl (by rw[ho];simp[quietly,aY]) (.inl (exec r0)) (FH.le.refl h) ((ah.mem ok (FH.le.refl h) (Ext.refl β) (l9 ah)).put (G:=[]) (e:=vI .i64 (Nat.min l2.length l1.length)) (bQ hd) rfl (λ_=>⟨⟨rfl,aW _ _⟩,aW _ _⟩) λhh=>by cases hh)
        have zero:∀(ad ab:Option Addr) (dC sC:Nat),a.eval x=.slice ad l1.length dC->a.eval y=.slice ab l2.length sC->(l1=[]\/l2=[])->dO P N B h0 h w a o (gv s.gl []) K:=by
         intro ad ab dC sC ex ey h0';have hm:Nat.min l2.length l1.length=0:=by rcases h0' with rfl | rfl<;>simp
         refine fin (bC w none) (λk e=>by cases e) ?_ ?_
         .rw[hm,ex,ey];exact Ba tie hu hm
         .have:l2.take l1.length++l1.drop l2.length=l1:=by rcases h0' with rfl | rfl<;>simp
          rw[this];exact iI
        rcases iI with⟨e1,e2⟩ | ⟨ra,e1,e2⟩ | ⟨g,cap,cur,e1,q1,q2,q3,q4,q5⟩
        .rcases src with⟨s1,s2⟩ | ⟨sa,sc,s1,s2⟩ | ⟨sb,so,sc,cs,s1,s2,s3⟩
         .exact zero none none 0 0 (by rw[e1,e2];rfl) (by rw[s1,s2];rfl) (.inl e2)
         .exact zero none (some sa) 0 sc (by rw[e1,e2];rfl) (by rw[s1,s2];rfl) (.inl e2)
         .exact zero none _ 0 sc (by rw[e1,e2];rfl) s1 (.inl e2)
        .rcases src with⟨s1,s2⟩ | ⟨sa,sc,s1,s2⟩ | ⟨sb,so,sc,cs,s1,s2,s3⟩
         .exact zero (some ra) none 0 0 (by rw[e1,e2];rfl) (by rw[s1,s2];rfl) (.inl e2)
         .exact zero (some ra) (some sa) 0 sc (by rw[e1,e2];rfl) (by rw[s1,s2];rfl) (.inl e2)
         .exact zero (some ra) _ 0 sc (by rw[e1,e2];rfl) s1 (.inl e2)
        .rcases src with⟨s1,s2⟩ | ⟨sa,sc,s1,s2⟩ | ⟨sb,so,sc,cs,s1,s2,s3⟩
         .exact zero _ none cap 0 e1 (by rw[s1,s2];rfl) (.inr s2)
         .exact zero _ (some sa) cap sc e1 (by rw[s1,s2];rfl) (.inr s2)
         .have hcs:=dQ.size (λ_ _=>Rd.size dD) s2
          have lc:cur.toList.length=cap * dD.size:=by simpa using q4
          have hm1:l1.length * dD.size<=cap * dD.size:=tC _ q2;generalize hm:Nat.min l2.length l1.length=m at *;have hm2:m<=l2.length:=by rw[<-hm];exact Nat.min_le_left _ _
          have hm3:m<=l1.length:=by rw[<-hm];exact Nat.min_le_right _ _
          have hm4:m * dD.size<=l2.length * dD.size:=tC _ hm2;have hm5:m * dD.size<=l1.length * dD.size:=tC _ hm3;have ht:=dQ.pG (λ_ _=>Rd.size dD) s2 (a:=0) (b:=m) (BU _) hm2
          simp only[Wh,RS]at ht;have hlen:(cs.take (m * dD.size)).length=m * dD.size:=by rw[lY];omega
          have r0:=LM (P:=P) (w:=w) (dT:=t) (sT:=t') (ty:=o.type) tie hu (g:=g) (dLen:=l1.length) (dCap:=cap) (b:=⟨sb,so,none⟩) (sLen:=l2.length) (sCap:=sc) (cs:=cs.take (m * dD.size)) q1 (by rw[hlen,hm,hz1]) (λj v hj=>by
           rw[qU]at hj;split at hj
           .have:=s3 j v hj;have ea:(⟨sb,so,none⟩:Addr).add j=⟨sb,so+j,none⟩:=by unfold Addr.add;split<;>simp_all
            rw[ea];exact this
           .cases hj) (by rw[hlen];rw[<-KD,lc];omega) (λv hv=>(dQ.all (λ_ _=>Rd.one dD) ht v hv).2)
          rw[hm]at r0;refine fin (row:=some g) (fU w g _) (λk e=>by cases e;rw[e1];exact aJ q3.1) (by rw[e1,s1];exact r0) ?_
          have el:(l2.take l1.length++l1.drop l2.length)=l2.take m++l1.drop m:=by
           rcases Nat.le_total l2.length l1.length with hh | hh
           .have:m=l2.length:=by rw[<-hm];exact Xd hh
            rw[this,Gh hh,Gh (lD _)]
           .have:m=l1.length:=by rw[<-hm];exact Nat.min_eq_right hh
            rw[this,RI hh,RI (lD _)]
          rw[el];have ll:(l2.take m++l1.drop m).length=l1.length:=by rw[jA,lY,xq];omega
          refine .inr (.inr ⟨g,cap,_,by rw[ll];exact e1,setRow_heap w g _ _ tt (0,0) q1,by rw[ll];exact q2,q3,?_,?_⟩)
          .simp only[zU,jA,xq,hlen];omega
          .rw[ll];have h2:=dQ.split (λ_ _=>Rd.size dD) (l:=l1.take m) (l':=l1.drop m) (by rw[Rt];exact q5)
           have h3:=ht.append h2.2;have e3:List.take (l1.length * dD.size) (cs.take (m * dD.size)++List.drop (cs.take (m * dD.size)).length cur.toList)=cs.take (m * dD.size)++List.drop ((l1.take m).length * dD.size) (List.take (l1.length * dD.size) cur.toList):=by
            rw[hlen,lY,Xd hm3];apply zT;intro p;simp only[V6,qU,Ea,lY,lc]
            repeat' split
            all_goals first | rfl | omega | (congr 1;omega) | (exfalso;omega) | skip
           simp only at e3 ⊢;rw[e3];exact h3
       .cases k
      .cases k
     .cases k
    .cases k
   .cases k
  .cases k
 .cases k
end
abbrev gets(k:IntKind) (l:List Int):Nat->Nat->List SC
 | _,0=>[]
 | j,m+1=>.v (.int k (l.getD j 0)) :: gets k l (j+1) m
abbrev wL:(s:Sh)->s.den->Option (List SC)
 | .any,v=>some [.v v]
 | .pair a b,d=>match wL a d.1 with
   | some x=>match wL b d.2 with
     | some y=>some (dw x y)
     | none=>none
   | none=>none
 | .arr n (.int k),l=>some (gets k l 0 n)
 | s,d=>flat s d
theorem JE{h:FH}{β:List RV}{k:IntKind}{l0:List Int}:∀{l:List Int}{cs:List Value}{j:Nat},dQ (Rd h (.int k)) cs l->l0.drop j=l->aG (λx y=>bU h β x y/\bM y) (gets k l0 j l.length) cs
 | [],cs,j,r,e=>by rw[show cs=[] from r];trivial
 | x :: l,cs,j,⟨c,cs',e1,r1,r2⟩,e=>by
   have hx:l0[j]?=some x:=by
    have:(l0.drop j)[0]?=some x:=by rw[e];rfl
    simpa using this
   have hd:l0.drop (j+1)=l:=by
    have:(l0.drop j).drop 1=l:=by rw[e];rfl
    simpa using this
   have e2:c=[.int k x]:=r1;subst e2;subst e1;have hg:l0.getD j 0=x:=by rw[Xh,hx];rfl
   show aG _ (SC.v (.int k (l0.getD j 0)) :: gets k l0 (j+1) l.length) (.int k x :: cs');rw[hg];exact⟨⟨⟨rfl,aW _ _⟩,aW _ _⟩,JE r2 hd⟩
theorem uK{h:FH}{β:List RV}:∀(s:Sh){d:s.den}{cs:List Value}{xs:List SC},wL s d=some xs->Rd h s cs d->aG (λx y=>bU h β x y/\bM y) xs cs
 | .any,v,cs,xs,e,r=>by simp[wL]at e;subst e;rw[show cs=[_] from r.1];exact⟨⟨⟨rfl,r.2⟩,r.2⟩,trivial⟩
 | .pair a b,(x,y),cs,xs,e,r=>by
   obtain⟨c1,c2,rfl,r1,r2⟩:=r;unfold wL at e;split at e
   .rename_i p hp;split at e
    .rename_i q hq;cases e;rw[dI];exact aG.cat (uK a hp r1) (uK b hq r2)
    .cases e
   .cases e
 | .arr n (.int k),l,cs,xs,e,⟨r1,r2⟩=>by
   simp[wL]at e;subst e;have hl:List.length l=n:=r1;have:=JE (β:=β) (j:=0) r2 rfl
   rwa [hl]at this
 | .int k,d,cs,xs,e,r=>dR _ e r
 | .bool,d,cs,xs,e,r=>dR _ e r
 | .str,d,cs,xs,e,r=>dR _ e r
 | .sl s,d,cs,xs,e,r=>dR _ e r
 | .unit,d,cs,xs,e,r=>dR _ e r
 | .mp k s,d,cs,xs,e,r=>dR _ e r
 | .arr n .bool,d,cs,xs,e,r=>dR _ e r
 | .arr n .str,d,cs,xs,e,r=>dR _ e r
 | .arr n .any,d,cs,xs,e,r=>dR _ e r
 | .arr n (.sl s),d,cs,xs,e,r=>dR _ e r
 | .arr n .unit,d,cs,xs,e,r=>dR _ e r
 | .arr n (.mp k s),d,cs,xs,e,r=>dR _ e r
 | .arr n (.pair a b),d,cs,xs,e,r=>dR _ e r
 | .arr n (.arr m s),d,cs,xs,e,r=>dR _ e r
abbrev cellS(s:St) (i:Nat):St:=match bW s.T i with
 | some ([],.obj t sh d)=>match wL sh d with
   | some cs=>{ s with T:=bF s.T i ([],.blk t cs) }
   | none=>s
 | _=>s
abbrev XR:SV->Option (List SC)
 | .agg xs=>some xs
 | .dat s d=>wL s d
 | _=>none
theorem TF{v:SV}{xs:List SC} (e:XR v=some xs) (c:bI h β v y):bI h β (.agg xs) y:=by
 unfold XR at e;split at e
 .cases e;exact c
 .obtain⟨_,cs,ey,r⟩:=c;exact⟨cs,ey,uK _ e r⟩
 .cases e
abbrev XT:Sh->Nat->Option Nat
 | .any,n=>some n
 | .pair a b,n=>match XT a n with
   | some m=>some m
   | none=>XT b (n+a.size)
 | _,_=>none
abbrev ptA(c:Nat) (ss:List Sh) (vs:List SV) (x:Value):Option (bg ss):=match vs with
 | .agg xs :: r=>su ss (.agg (bF xs c (.v x)) :: r)
 | _=>none
abbrev ptR(c r:Nat) (x:Value) (e:bK) (K:bK->Prop):Prop:=match e with
 | .one (.agg zs)=>match bW zs c with
   | some (.v z)=>z=x/\K (.one (.agg (bF zs c (.row r))))
   | _=>False
 | .l7 (.agg zs :: us)=>match bW zs c with
   | some (.v z)=>z=x/\K (.l7 (.agg (bF zs c (.row r)) :: us))
   | _=>False
 | _=>False
abbrev ptK(cx:Cx) (ct:CT) (c:Nat) (s:St) (d:Option Nat) (args:List Operand) (K:St->Prop):Prop:=match nD cx s [] args with
 | some vs=>match vs with
   | .agg xs :: _=>match bW xs c with
     | some (.row r)=>∀x:Value,match ptA c ct.ps vs x with
       | some dd=>match(ct.res dd).1 with
         | []=>ct.pre dd/\ptR c r x (ct.res dd).2 λe=>K (s.put d [] e)
         | _=>False
       | none=>False
     | _=>False
   | _=>False
 | none=>False
section
variable {cx:Cx}{P:Program}{N:Nat}{B:Base}{h0:FH}{s:St}{h:FH}{β:List RV}{w:World}{a:Act}{o:Oper}{K:St->Prop}
theorem Sat.cellS(ah:Sat N B h0 s h β w a) (i:Nat):Sat N B h0 (cellS s i) h β w a:=by
 unfold Go.lZ.cellS;split
 .rename_i t sh d hT;split
  .rename_i cs hcs;have dM:=aU hT (show gv s.gl []=true from rfl)
   refine ah.mem ?_ (FH.le.refl h) (Ext.refl β) λp hp=>?_
   .rw[dK];refine ah.ok.Dl dM rfl λv hv=>?_
    cases v with
    | blk b=>
      obtain⟨ys,e,r⟩:=hv;exact⟨ys,e,uK sh hcs r⟩
    | row _=>exact hv.elim
    | deep _ _=>exact hv.elim
    | no=>exact hv.elim
   .rw[cO]at hp;rcases Gq hp with hp | hp
    .exact ah.gT p hp
    .subst hp;rfl
  .exact ah
 .exact ah
theorem yQ{h h':FH}{β β':List RV} (le:h.le h'):∀{ss:List Sh}{d:bg ss}{ys:List Value},aG (bI h β) (dH ss d) ys->aG (bI h' β') (dH ss d) ys
 | [],_,[],_=>trivial
 | [],_,_ :: _,x=>x.elim
 | _ :: _,_,[],x=>x.elim
 | s :: l,d,y :: ys,⟨x,r⟩=>by
   obtain⟨cs,rfl,rd⟩:=AV s x;exact⟨gq s (rd.mono le),yQ le r⟩
theorem aG.set1{α β:Type}{R:α->β->Prop}{x:α}{y:β}:∀{l:List α}{m:List β}{c:Nat},aG R l m->m[c]?=some y->R x y->aG R (l.set c x) m
 | [],[],_,_,e,_=>by simp at e
 | _ :: _,z :: m,0,⟨_,r⟩,e,hx=>by simp at e;subst e;exact⟨hx,r⟩
 | _ :: _,_ :: _,c+1,⟨p,r⟩,e,hx=>⟨p,aG.set1 r (by simpa using e) hx⟩
theorem XU{c r:Nat}{x:Value}{e:bK}{K:bK->Prop}{β':List RV} (k:ptR c r x e K) (he:gJ h' β' e y) (hr:bU h' β' (.row r) x) (hx:bM x):∃e',K e'/\gJ h' β' e' y:=by
 unfold ptR at k;split at k
 .rename_i zs;split at k
  .rename_i z hz;obtain⟨ez,k⟩:=k;subst ez;obtain⟨ys,ey,al⟩:=(he:bI h' β' (.agg zs) y);obtain⟨u,hu,hc⟩:=al.get (show zs[c]?=some (.v z) by rw[<-bY];exact hz)
   obtain⟨⟨rfl,_⟩,_⟩:=hc;exact⟨_,k,ys,ey,by rw[cO];exact al.set1 hu ⟨hr,hx⟩⟩
  .cases k
 .rename_i zs us;split at k
  .rename_i z hz;obtain⟨ez,k⟩:=k;subst ez;obtain⟨ys,ey,al⟩:=(he:∃ys,y=.tuple ys.toArray/\aG (bI h' β') (.agg zs :: us) ys);cases ys with
   | nil=>exact al.elim
   | cons y1 ys=>
     obtain⟨⟨ys1,ey1,al1⟩,al2⟩:=al;obtain⟨u,hu,hc⟩:=al1.get (show zs[c]?=some (.v z) by rw[<-bY];exact hz)
     obtain⟨⟨rfl,_⟩,_⟩:=hc;exact⟨_,k,y1 :: ys,ey,⟨ys1,ey1,by rw[cO];exact al1.set1 hu ⟨hr,hx⟩⟩,al2⟩
  .cases k
 .cases k
theorem TG{ct:CT}{f:FuncId}{cc:Nat} (hct:CV P cx.gd f ct) (ah:Sat N B h0 s h β w a) (hg:aB cx.gd h) (hd:iP N o.dst=true) (ho:o.op=.call c) (aY:c.callee=.value (.func f))
 (hf:∃fn,P.funcs[f]?=some fn/\fn.body.isSome=true/\(fn.name == "runtime.NumGoroutine")=false)
 (k:ptK cx ct cc s o.dst (tl c.args) K):dO P N B h0 h w a o true K:=by
 have tr:gv s.gl []=true:=rfl;unfold ptK at k;split at k
 .rename_i vs hvs;have hav:=kY ah hg tr hvs;split at k
  .rename_i xs rest;split at k
   .rename_i r hr;generalize hl:(tl c.args).map a.eval=ys at hav;cases ys with
    | nil=>exact hav.elim
    | cons y0 ys=>
      obtain⟨⟨zs,ey,al⟩,hrest⟩:=hav;obtain⟨x,hx,cx1,ox⟩:=al.get (show xs[cc]?=some (.row r) by rw[<-bY];exact hr)
      have k:=k x;unfold ptA at k;split at k
      .rename_i dd hdd;simp only at hdd;have args:aG (bI h β) (.agg (bF xs cc (.v x)) :: rest) (y0 :: ys):=⟨⟨zs,ey,by rw[cO];exact al.set1 hx ⟨⟨rfl,ox⟩,ox⟩⟩,hrest⟩
       have args:=yQ (β':=[]) (FH.le.refl h) (qK hdd args);split at k
       .rename_i hres;obtain⟨fn,hfn,hbody,hname⟩:=hf;intro Nx Q next
        rw[if_pos rfl];have exec:(execOp a.eval o).run P w=.ok (.enter f (c.args.map a.eval)) w:=by
         simp only[execOp,ho,resolve,aY,Act.eval,Deferred.ofValue,invoke,Sem.run_bind,Sem.run_pure,Result.andThen_ok,callFunc,run_program,hfn,hname];simp[hbody];cases hb:fn.body with
         | none=>rw[hb]at hbody;cases hbody
         | some _=>simp
        have hargs:c.args.map a.eval=(y0 :: ys).toArray:=by
         rw[<-hl];cases c.args with
         | mk l=>simp[tl]
        unfold Oper.wp;rw[exec];simp only[Oper.upon];rw[hargs];refine(hct dd _ h w ah.ok.hw hg args k.1).mono ?_;rintro en w' ⟨h',β',y,rfl,ok',he⟩;rw[hres]at ok';have ok:=ah.ok.call ok' ok'.hle (λj r v _ hh=>hh.shift) ok'.hw λb o v hh=>by
         rcases ok'.hg b o v hh with h1 | h1
         .exact .inl h1
         .exact .inr ⟨h1,hh⟩
        have iI:bU h' (β++β') (.row r) x:=bU.mono ok'.hle (Ext.append _ _) cx1;have he0:gJ h' (β++β') (ct.res dd).2 y:=by
         have lenb:β'=[]:=by simpa using ok'.len
         subst lenb;exact he.mono (FH.le.refl h') λi v e=>by simp at e
        obtain⟨e',k',c'⟩:=XU k.2 he0 iI ox;refine next _ h' (β++β') _ _ k' ok'.hle (λ_=>jf.of_below (Bw.bel ok'.below)) ?_
        have okT:OK B h0 (eff s.gl s.T) h' (β++β') w':=by simpa using ok
        exact(ah.mem okT ok'.hle (Ext.append _ _) ah.gT).put (bQ hd) rfl (λ_=>c') λhh=>by cases hh
       .cases k
      .cases k
   .cases k
  .cases k
 .cases k
end
abbrev tlS(s:St) (i:Nat):St:=match bW s.T i with
 | some ([],.row t (.int k) l)=>{ s with T:=bF s.T i ([],.Ei t k l 0) }
 | _=>s
abbrev tlP(cx:Cx) (s:St) (o:Oper) (K:St->Prop):Option Prop:=none
section
variable {cx:Cx}{P:Program}{N:Nat}{B:Base}{h0:FH}{s:St}{h:FH}{β:List RV}{w:World}{a:Act}{o:Oper}{K:St->Prop}
theorem XV{k:IntKind}{l:List Int} (x:jG h w t (.int k) l v):Xn w t k l 0 v:=by
 rcases x with x | x | ⟨g,cap,cur,e0,e1,e2,e3,e4,e5⟩
 .exact .inl x
 .exact .inr (.inl x)
 .refine .inr (.inr ⟨g,cap,cur,e0,e1,e2,e3,by simpa using e4,λj n hj=>?_⟩)
  have:=(e5.get (λ_ _=>Rd.size (.int k)) hj).1
  simp only[Sh.size,NG]at this;have h2:((List.take l.length cur.toList).drop j).take 1=[.int k n]:=this;have hj':=(fM.1 hj).1;have h3:(((List.take l.length cur.toList).drop j).take 1)[0]?=some (.int k n):=by rw[h2];rfl
  rw[qU,if_pos (by omega),Ea,qU,if_pos (by omega)]at h3
  simpa using h3
theorem Sat.tlS(ah:Sat N B h0 s h β w a) (i:Nat):Sat N B h0 (tlS s i) h β w a:=by
 unfold Go.lZ.tlS;split
 .rename_i t k l hT;have dM:=aU hT (show gv s.gl []=true from rfl)
  refine ah.mem ?_ (FH.le.refl h) (Ext.refl β) λp hp=>?_
  .rw[dK];refine ah.ok.Dl dM rfl λv hv=>?_
   cases v with
   | row v=>exact XV hv
   | blk _=>exact hv.elim
   | deep _ _=>exact hv.elim
   | no=>exact hv.elim
  .rw[cO]at hp;rcases Gq hp with hp | hp
   .exact ah.gT p hp
   .subst hp;rfl
 .exact ah
abbrev OO(s:St) (i:Nat):St:=match Nat.ble 2000 i with
 | true=>match Nat.ble 3000 i with
   | true=>cellS s (i - 3000)
   | false=>tlS s (i - 2000)
 | false=>TA s i
abbrev vU(s:St):List Nat->St
 | []=>s
 | i :: r=>vU (OO s i) r
theorem Sat.vU:∀{l:List Nat}{s:St}{h:FH}{β:List RV},Sat N B h0 s h β w a->∃h' β',h.le h'/\Sat N B h0 (vU s l) h' β' w a
 | [],s,h,β,ah=>⟨h,β,FH.le.refl h,ah⟩
 | i :: r,s,h,β,ah=>by
   have h1:∃h' β',h.le h'/\Sat N B h0 (OO s i) h' β' w a:=by
    unfold OO;split
    .split
     .exact⟨h,β,FH.le.refl h,ah.cellS _⟩
     .exact⟨h,β,FH.le.refl h,ah.tlS _⟩
    .exact Sat.EN (l:=[i]) ah
   obtain⟨h1,β1,le1,eH⟩:=h1;obtain⟨h2,β2,eX,aQ⟩:=Sat.vU (l:=r) eH;exact⟨h2,β2,le1.trans eX,aQ⟩
theorem XW(hc:bG P cx.ti) (ah:Sat N B h0 s h β w a) (hg:aB cx.gd h) (hd:iP N o.dst=true){p:Prop} (e:tlP cx s o K=some p) (k:p):wK P N B h0 h w a o (Region.wanted o (yielded ops a.tmps)) K:=by
 unfold tlP at e;cases e
end
abbrev LU:Nat->Bool:=λj=>decide (j=0)
abbrev lT(n:Nat) (p q:Nat->Bool):Nat->Bool:=λj=>cnd (decide (j < n)) (p j) (q (j - n))
abbrev abg(sh eq:Sh):Bool:=match sh with
 | .sl e=>decide (e=eq)
 | _=>false
abbrev OQ(cx:Cx) (s:St) (d:Option Nat) (t:TypeId) (q:Nat) (tq:TypeId) (eq:Sh) (l:List eq.den) (parts:List (Nat×Operand)) (K:St->Prop):Prop:=match descOf cx t with
 | .slice el=>match lG cx.ti el with
   | none=>False
   | some ie=>match ie.jF with
     | none=>False
     | some sh=>match rY cx s [] parts with
       | none=>False
       | some ps=>match bJ (abg sh eq) (bJ (Nat.beq ie.size 1) (Nat.ble 1 ie.bytes)) with
         | false=>False
         | true=>match pI (λj=>some (j * ie.size,ie.size)) (fG 1 (dB SC.v ie.zero)) ps with
           | some [.row q']=>match Nat.beq q q' with
             | true=>K ({ s with T:=snoc (mT (xE (aC s.T)) (bF s.T q ([],.gone))) ([],.deep el (.sl eq) [l] tq eq 0 LU []),env:=uI (xE (aC s.T)) s.env }.put d [] (.one (.c (.row (aC s.T)))))
             | false=>False
           | _=>False
 | _=>False
abbrev OU(cx:Cx) (s:St) (d:Option Nat) (t:TypeId) (r:Nat) (tt:TypeId) (dD:Sh) (l1:List dD.den) (t1:TypeId) (e1:Sh) (JF:Nat) (sK:Nat->Bool) (r2:Nat) (LV:TypeId) (kV:Sh) (l2:List kV.den) (t2:TypeId) (e2:Sh) (WC:Nat) (uM:Nat->Bool) (K:St->Prop):Prop:=eG cx t λel ie sh=>
 match bJ (Nat.beq tt el) (bJ (Nat.beq LV el) (bJ (Nat.beq t1 t2) (bJ (decide (e1=e2)) (bJ (Nat.beq JF WC) (!(Nat.beq r r2)))))) with
 | true=>match gU (.sl dD) l1 (.sl sh) with
   | some l1=>match gU (.sl kV) l2 (.sl sh) with
     | some l2=>(1<=l2.length/\jK (l1.length+l2.length) ie.bytes)/\K ({ s with T:=bF (mT (xE r) (bF s.T r2 ([],.gone))) r ([],.deep el sh (l1++l2) t1 e1 JF (lT l1.length sK uM) []),env:=uI (xE r) s.env }.put d [] (.one (.c (.row r))))
     | none=>False
   | none=>False
 | false=>False
abbrev XY(cx:Cx) (s:St) (o:Oper) (K:St->Prop):Option Prop:=match cx.dm with
 | false=>none
 | true=>match o.guard with
   | some _=>none
   | none=>match o.op with
     | .buildSlice t 1 ps=>match tl ps with
       | [(0,x)]=>match bf cx s [] x with
         | some (.one (.c (.row q)))=>match bW s.T q with
           | some ([],.row tq eq l)=>some (OQ cx s o.dst t q tq eq l (tl ps) K)
           | _=>none
         | _=>none
       | _=>none
     | .call c=>match c.callee with
       | .builtin .append=>match tl c.args with
         | [x,y]=>match bf cx s [] x with
           | some (.one (.c (.row r)))=>match bW s.T r with
             | some ([],.deep tt dD l1 t1 e1 JF sK [])=>match bf cx s [] y with
               | some (.one (.c (.row r2)))=>match bW s.T r2 with
                 | some ([],.deep LV kV l2 t2 e2 WC uM [])=>match tl c.argTypes with
                   | [t,t']=>match Nat.beq t t' with
                     | true=>some (OU cx s o.dst t r tt dD l1 t1 e1 JF sK r2 LV kV l2 t2 e2 WC uM K)
                     | false=>none
                   | _=>none
                 | _=>none
               | _=>none
             | _=>none
           | _=>none
         | _=>none
       | _=>none
     | _=>none
section
variable {cx:Cx}{P:Program}{N:Nat}{B:Base}{h0:FH}{s:St}{h:FH}{β:List RV}{w:World}{a:Act}{o:Oper}{K:St->Prop}
theorem LW(hc:bG P cx.ti) (ah:Sat N B h0 s h β w a) (hg:aB cx.gd h) (hd:iP N o.dst=true){parts:Array (Nat×Operand)} (ho:o.op=.buildSlice t 1 parts){q:Nat}{tq:TypeId}{eq:Sh}{l:List eq.den}
 (hTq:bW s.T q=some ([],.row tq eq l)) (k:OQ cx s o.dst t q tq eq l (tl parts) K):dO P N B h0 h w a o true K:=by
 have tr:gv s.gl []=true:=rfl;unfold OQ at k;split at k
 .rename_i el hde;have hu:=aV hc hde (by simp)
  split at k
  .cases k
  rename_i ie hie;have tie:=hc.get hie;split at k
  .cases k
  rename_i sh hsh;split at k
  .cases k
  rename_i ps hps;split at k
  .cases k
  rename_i hz;rw[au,au,A8,A8]at hz;have hz1:ie.size=1:=fC hz.2.1;split at k
  .rename_i q' hxs;split at k
   .rename_i hqq;have hqq:=fC hqq;subst hqq;have htl:(parts.map λ(p:Nat×Operand)=>(p.1,a.eval p.2)).toList=(tl parts).map λp=>(p.1,a.eval p.2):=by cases parts;simp
    rw[yD]at hxs;obtain⟨zs,g1,g2⟩:=mZ (ng ah hg tr hps) (dL λv hv=>tie.zone v (uq hv)) hxs
    obtain⟨y,rfl,cy⟩:∃y,zs=[y]/\bU h β (.row q) y/\bM y:=by
     cases zs with
     | nil=>exact g2.elim
     | cons y zs=>
       cases zs with
       | nil=>exact⟨y,rfl,g2.1⟩
       | cons _ _=>exact g2.2.elim
    have hz0:0 < ie.zero.length:=by rw[tie.lF];omega
    obtain⟨z,hz1',hz2⟩:=ni tie w;have hc1:((Array.range (1 * ie.size)).map (λi=>z.cells[i % z.cells.size]!))=(fG 1 ie.zero).toArray:=by
     rw[hz2,<-tie.lF];exact ny hz0
    have run:(execOp a.eval o).run P w=.ok (.value (.slice (some ⟨w.heap.size,0,none⟩) 1 1)) (w.alloc (.cells #[y] el)):=by
     have hbig:¬(1 * ie.size > 2 ^ 24):=by omega
     have h0:¬1 * ie.size=0:=by omega
     simp only[execOp,ho,Instr.buildSlice,Sem.run_bind,run_underlying hu,Result.andThen_ok,run_sizeOf tie,hbig,Eh,Sem.run_ite,Sem.run_pure,h0,hz1'];rw[htl,hc1,g1];simp only[Sem.run_bind,newRow,run_newObj,Result.andThen_ok,Sem.run_pure];rfl
    have oV:=aU hTq tr;have hbq:=ah.ok.row_of oV cy.1;have iI:jG h w tq eq l y:=ah.ok.holds q _ _ oV hbq;have hlen:aC s.T=β.length:=by rw[ah.ok.len,eF,aK]
    have hTl:(eff s.gl s.T).length=β.length:=ah.ok.len.symm;have hql:q < β.length:=(fM.1 hbq).1;have gb:=jh w (.cells #[y] el) none;have ok1:=ah.ok.forget oV;have ok2:=ok1.add (r:=.row el (.sl eq) []) (v:=.row (.slice (some ⟨w.heap.size,0,none⟩) 0 1)) gb
     (λb hb=>by rw[aN]at hb;simp[ak]at hb;subst hb;simp)
     (.inr (.inr ⟨w.heap.size,1,#[y],rfl,jm _ _,BU _,⟨lD _,by simp[maxLen]⟩,rfl,rfl⟩))
    have hTn:((eff s.gl s.T).set q .gone++[ay.row el (.sl eq) []])[β.length]?=some (.row el (.sl eq) []):=by
     rw[Gp (by simp[hTl])];simp[hTl]
    have hbn:(β++[RV.row (.slice (some ⟨w.heap.size,0,none⟩) 0 1)])[β.length]?=some (.row (.slice (some ⟨w.heap.size,0,none⟩) 0 1)):=by simp
    have old:∀b,ak y=some b->b < w.heap.size:=λb hb=>(ah.ok.own q _ _ b oV rfl hbq (aN.2 hb)).2.1
    have fr:∀b,b < w.heap.size->(w.alloc (.cells #[y] el)).heap[b]?=w.heap[b]?:=λb hb=>gb.block b hb (by simp)
    have hold:dh h (w.alloc (.cells #[y] el)) el (.sl eq) [l] tq eq 0 LU [] (.slice (some ⟨w.heap.size,0,none⟩) 1 1) (λj=>if j=0 then y else jW):=by
     have bn:∀b,ak jW≠some b:=λb hh=>by simp[jW,ak]at hh
     have z0:∀{j b},ak (if j=0 then y else jW)=some b->j=0/\ak y=some b:=by
      intro j b hb
      by_cases hj:j=0
      .rw[if_pos hj]at hb;exact⟨hj,hb⟩
      .rw[if_neg hj]at hb;exact(bn b hb).elim
     refine⟨λj k b h1 h2=>by rw[(z0 h1).1,(z0 h2).1],λj b hb=>⟨by rw[(z0 hb).1];simp,?_⟩,.inr (.inr ⟨w.heap.size,1,#[y],rfl,jm _ _,by simp,⟨lD _,by simp[maxLen]⟩,rfl,λj hb=>?_,λj d hj=>?_⟩)⟩
     .rw[fr b (old b (z0 hb).2)];exact(ah.ok.holds q _ _ oV hbq).cells rfl (aN.2 (z0 hb).2)
     .have:=old _ (z0 hb).2;omega
     .have hj0:j=0:=by
       have:=(fM.1 hj).1;simp at this;exact this
      subst hj0;simp at hj;subst hj;show vF h _ (.sl eq) tq eq 0 true false y ((([y]:List Value).drop (0 * 1)).take 1) l;exact⟨[],l,⟨jW,rfl,.inl ⟨rfl,rfl⟩⟩,⟨rfl,rfl,rfl⟩,rfl,iI.move (FH.le.refl h) λb hb=>fr b (old b hb)⟩
    have ok3:=ok2.Hu (f:=xE β.length) (r':=.deep el (.sl eq) [l] tq eq 0 LU []) (v:=.deep (.slice (some ⟨w.heap.size,0,none⟩) 1 1) (λj=>if j=0 then y else jW)) (row:=none) (X:=λb=>ak y=some b) hTn rfl hbn (bC _ none) (λk e=>by cases e)
     (λb hb=>by
      obtain⟨o1,o2,o3⟩:=ah.ok.own q _ _ b oV rfl hbq (aN.2 hb);refine⟨o1,Ee o2 gb.size,o3,λj' rj vj hj' ej lj gK hbj=>?_⟩
      have hjl:j' < β.length:=by
       have h1:=(fM.1 gK).1;simp at h1;omega
      rw[Nq (by simp[hTl];exact hjl)]at ej
      rw[Nq hjl]at gK;have hjq:j'≠q:=by
       rintro rfl;rw[mJ (fM.1 oV).1]at ej;cases ej;cases lj
      rw[jU (Ne.symm hjq)]at ej;exact hjq (ah.ok.inj j' q _ _ _ _ b ej lj oV rfl gK hbq hbj (aN.2 hb)))
     (λb hb=>by
      rw[aI]at hb;rcases hb with hb | ⟨j,hb⟩
      .refine .inl (aN.2 ?_);simp[ak]at hb ⊢;exact hb
      .by_cases hj:j=0
       .rw[if_pos hj]at hb;exact .inr (.inl hb)
       .rw[if_neg hj]at hb;simp[jW,ak]at hb)
     (λx y c=>c.jk _) hold
    intro Nx Q next
    rw[if_pos rfl];refine fJ run (next _ _ _ _ _ k (FH.le.refl h) (λ_=>jf.pO gb) ((ah.map (f:=xE (aC s.T)) (T':=snoc (mT (xE (aC s.T)) (bF s.T q ([],.gone))) ([],.deep el (.sl eq) [l] tq eq 0 LU [])) (β':=(β++[RV.row (.slice (some ⟨w.heap.size,0,none⟩) 0 1)]).set β.length (.deep (.slice (some ⟨w.heap.size,0,none⟩) 1 1) (λj=>if j=0 then y else jW))) (FH.le.refl h) (λ_=>rfl) (λx y c=>?_) ?_ ?_).put (bQ hd) rfl (λ_=>⟨⟨.deep (.slice (some ⟨w.heap.size,0,none⟩) 1 1) (λj=>if j=0 then y else jW),?_,rfl⟩,rfl,rfl⟩) λhh=>by cases hh))
    .rw[hlen];exact(c.mono (FH.le.refl h) (Ext.append _ _)).jk _
    .rw[dW,yM,dK,hlen];have:(((eff s.gl s.T).set q .gone++[ay.row el (.sl eq) []]).map (mR (xE β.length))).set β.length (.deep el (.sl eq) [l] tq eq 0 LU [])=((eff s.gl s.T).set q .gone).map (mR (xE β.length))++[.deep el (.sl eq) [l] tq eq 0 LU []]:=by
      rw[NC,List.set_append_right _ _ (by simp[hTl])]
      simp[hTl]
     rw[<-this];exact ok3
    .intro p' hp';rw[dY,zO]at hp';rcases hp' with hp' | hp'
     .obtain⟨p2,h1,h2⟩:=yN hp';rw[<-h2];exact l9 ah p2 h1
     .simp at hp';subst hp';rfl
    .rw[hlen];rw[mJ (by simp)]
   .cases k
  .cases k
 .cases k
theorem Ae{i:TI}{m c o:Nat} (hu:P.underlying t=some (.slice el)) (ki:aS P el i) (hs1:1<=i.size) (hb1:1<=i.bytes) (hm:1<=m) (room:jK (n+m) i.bytes)
 (hcs:cs.length=m * i.size) (hnews:∀j u,cs[j]?=some u->w.cell? ⟨b,o+j,none⟩=some u) (h1:∀u∈cs,u.oneCell'=true){old:List Value} (hol:old.length=n * i.size)
 (row:(v=.slice none 0 0/\n=0)\/(∃a,v=.slice (some a) 0 0/\n=0)\/∃g cap cur,v=.slice (some ⟨g,0,none⟩) n cap/\w.heap[g]?=some (.cells cur el (0,0))/\n<=cap/\(1<=cap/\cap<=maxLen)/\cur.size=cap * i.size/\cur.toList.take (n * i.size)=old):
 ∃w' g' gZ cur',(Builtin.append_ #[t,t] ty #[v,.slice (some ⟨b,o,none⟩) m c]).run P w=.ok (.slice (some ⟨g',0,none⟩) (n+m) gZ) w'/\Gb w w' (ak v)/\w'.heap[g']?=some (.cells cur' el (0,0))/\n+m<=gZ/\(1<=gZ/\gZ<=maxLen) /\
   cur'.size=gZ * i.size/\(ak v=some g'\/(w.heap.size<=g'/\g' < w'.heap.size))/\cur'.toList.take ((n+m) * i.size)=old++cs:=by
 obtain⟨inf,z,i1,i2,i3,i4,i5⟩:=ki.info;unfold jK at room;have hn:n+m<=140737488355328:=nV (V5 _ hb1) room;have Og:z.cells.size=i.size:=by rw[i5];simpa using ki.lF
 have hcs':cs.length=m * inf.size:=by rw[i2];exact hcs
 have hnews':∀j u,cs[j]?=some u->w.cell? ((⟨b,o,none⟩:Addr).add j)=some u:=λj u e=>by rw[add_lit];exact hnews j u e
 have grown:∀(scap:Nat),∃w' g' gZ cur',w'=w.drew.alloc (.cells (old.toArray++cs.toArray++Builtin.zeroCells z.cells (grownCap w (n+m) scap el - (n+m))) el)/\g'=w.heap.size/\gZ=grownCap w (n+m) scap el/\Gb w w' (ak v)/\w'.heap[g']?=some (.cells cur' el (0,0))/\n+m<=gZ/\(1<=gZ/\gZ<=maxLen) /\
  cur'.size=gZ * i.size/\(ak v=some g'\/(w.heap.size<=g'/\g' < w'.heap.size))/\cur'.toList.take ((n+m) * i.size)=old++cs:=by
  intro scap;have hge:=grownCap_ge w (n+m) scap el;refine⟨_,_,_,_,rfl,rfl,rfl,⟨⟨rfl,rfl,rfl,by simp,λk hk _=>(World.grownBy_alloc w.drew _ none).block k hk (by simp)⟩,I5 _⟩,heap_alloc_new w.drew _,hge,⟨by omega,grownCap_le_maxLen w _ scap el (by simp only[maxLen];omega)⟩,?_,.inr ⟨lD _,by simp⟩,?_⟩
  .simp only[Ru,zU,size_zeroCells,Og,hcs,hol,<-Ec]
   congr 1;omega
  .simp only[V7];rw[show(n+m) * i.size=(old++cs).length by rw[jA,hol,hcs,Ec],Nv]
 rcases row with⟨rfl,hn0⟩ | ⟨ra,rfl,hn0⟩ | ⟨g,cap,cur,rfl,q1,q2,q3,q4,q5⟩
 .subst hn0;have ho0:old=[]:=Np (by simpa using hol)
  subst ho0;have r:=run_append_nil (P:=P) w t ty el inf z hu i1 i4 ⟨b,o,none⟩ m c cs hcs' hnews' (by omega) (by omega) (by rw[i3];simp at room;omega)
  obtain⟨w',g',gZ,cur',rfl,rfl,rfl,rest⟩:=grown 0;refine⟨_,_,_,cur',?_,rest⟩;simpa using r
 .subst hn0;have ho0:old=[]:=Np (by simpa using hol)
  subst ho0;have r:=run_append_grow (P:=P) w t ty el inf z hu i1 i4 ra 0 0 [] (by simp) (λj u e=>by simp at e) ⟨b,o,none⟩ m c cs hcs' hnews' (by omega) (by omega) (growslice_fits (by omega) (by rw[i3];simpa using room))
  obtain⟨w',g',gZ,cur',rfl,rfl,rfl,rest⟩:=grown 0;exact⟨_,_,_,cur',r,rest⟩
 .by_cases hroom:n+m<=cap
  .have hfit:n * inf.size+cs.length<=cur.size:=by rw[hcs,q4,i2,<-Ec];exact tC _ hroom
   have r:=run_append_room (P:=P) w t ty el inf hu i1 g n cap cur q1 ⟨b,o,none⟩ m c cs hcs' hnews' h1 hroom hfit;have e1:(List.take (n * i.size) cur.toList++cs).length=(n+m) * i.size:=by rw[jA,q5,hol,hcs,Ec]
   refine⟨_,g,cap,_,r,by rw[aJ q3.1];exact fU w g _,setRow_heap w g cur _ el _ q1,hroom,q3,?_,.inl (aJ q3.1),?_⟩
   .have aey:n * i.size+cs.length<=cur.size:=by rw[<-i2];exact hfit
    simp only[i2,zU,jA,lY,xq,KD (xs:=cur)];rw[<-q4];omega
   .show(List.take (n * inf.size) cur.toList++cs++List.drop (n * inf.size+cs.length) cur.toList).take ((n+m) * i.size)=old++cs;rw[i2,<-e1,Nv,q5]
  .have holds:∀j u,old[j]?=some u->w.cell? ((⟨g,0,none⟩:Addr).add j)=some u:=by
    intro j u e;rw[add_lit,xw,cell_of_row w g j cur el (0,0) q1];rw[<-q5,qU]at e;split at e
    .simpa using e
    .cases e
   have r:=run_append_grow (P:=P) w t ty el inf z hu i1 i4 ⟨g,0,none⟩ n cap old (by rw[hol,i2]) holds ⟨b,o,none⟩ m c cs hcs' hnews' (by omega) (by omega) (growslice_fits (by omega) (by rw[i3];exact room))
   obtain⟨w',g',gZ,cur',rfl,rfl,rfl,rest⟩:=grown cap;exact⟨_,_,_,cur',r,rest⟩
theorem Hw{p q:Nat->Bool} (h:j < n):lT n p q j=p j:=by simp[lT,h,cnd]
theorem Hy{p q:Nat->Bool} (h:¬j < n):lT n p q j=q (j - n):=by simp[lT,h,cnd]
abbrev vV(n:Nat) (p q:Nat->Value):Nat->Value:=λj=>if j < n then p j else q (j - n)
theorem iW{p q:Nat->Value} (h:j < n):vV n p q j=p j:=if_pos h
theorem iY{p q:Nat->Value} (h:¬j < n):vV n p q j=q (j - n):=if_neg h
theorem yR{L:List Value}{M a:Nat} (h:a+k<=M):((L.take M).drop a).take k=(L.drop a).take k:=by
 apply zT;intro p;simp only[qU,Ea]
 by_cases hp:p < k
 .rw[if_pos hp,if_pos hp,if_pos (by omega)]
 .rw[if_neg hp,if_neg hp]
theorem vF.one{sh:Sh}{tt:TypeId}{e:Sh}{so:Nat}{own:Bool}{u:Value}{cs:List Value}{d:sh.den} (x:vF h w sh tt e so own false u cs d):∀z∈cs,bM z:=by
 intro z hz;cases own with
 | false=>exact Rd.one sh x.1 z hz
 | true=>
   obtain⟨d0,y,r,_,c,q⟩:=x;obtain⟨p,hp⟩:=RP hz
   by_cases hps:p=so
   .subst hps;rw[hp]at c;cases c;rcases q with⟨e,_⟩ | ⟨_,e,_⟩ | ⟨_,_,_,e,_⟩<;>subst e<;>exact⟨rfl,rfl⟩
   .refine Rd.one sh r z (lI (i:=p) ?_);rw[jU (Ne.symm hps)];exact hp
theorem dh.join{sh:Sh}{l1 l2:List sh.den}{sK uM:Nat->Bool}{v1 v2:Value}{JG o7:Nat->Value}{g' gZ:Nat}{cur':Array Value}{old:List Value}
 (D1:dh h w t sh l1 tt e so sK [] v1 JG) (D2:dh h w t sh l2 tt e so uM [] v2 o7) (h2:1<=l2.length)
 (o8:∀i j b,ak (JG i)=some b->ak (o7 j)=some b->False)
 (fr:∀b,(∃i,ak (JG i)=some b)\/(∃j,ak (o7 j)=some b)->w'.heap[b]?=w.heap[b]?/\b≠g')
 (c1:w'.heap[g']?=some (.cells cur' t (0,0))) (c2:l1.length+l2.length<=gZ) (c3:1<=gZ/\gZ<=maxLen) (c4:cur'.size=gZ * sh.size) (hol:old.length=l1.length * sh.size)
 (c5:cur'.toList.take ((l1.length+l2.length) * sh.size)=old++cs)
 (e1:∀j d,l1[j]?=some d->vF h w sh tt e so (sK j) false (JG j) ((old.drop (j * sh.size)).take sh.size) d)
 (e2:∀j d,l2[j]?=some d->vF h w sh tt e so (uM j) false (o7 j) ((cs.drop (j * sh.size)).take sh.size) d):
 dh h w' t sh (l1++l2) tt e so (lT l1.length sK uM) [] (.slice (some ⟨g',0,none⟩) (l1.length+l2.length) gZ) (vV l1.length JG o7):=by
 refine⟨λj k b hj hk=>?_,λj b hj=>?_,.inr (.inr ⟨g',gZ,cur',by rw[jA],c1,by rw[jA];exact c2,c3,c4,λj hj=>?_,λj d hj=>?_⟩)⟩
 .by_cases a1:j < l1.length<;>by_cases a2:k < l1.length
  .rw[iW a1]at hj;rw[iW a2]at hk;exact D1.1 j k b hj hk
  .rw[iW a1]at hj;rw[iY a2]at hk;exact(o8 _ _ b hj hk).elim
  .rw[iY a1]at hj;rw[iW a2]at hk;exact(o8 _ _ b hk hj).elim
  .rw[iY a1]at hj;rw[iY a2]at hk;have:=D2.1 _ _ b hj hk;omega
 .by_cases a1:j < l1.length
  .rw[iW a1]at hj;rw[(fr b (.inl ⟨j,hj⟩)).1];exact⟨by rw[jA];omega,(D1.2.1 j b hj).2⟩
  .rw[iY a1]at hj;rw[(fr b (.inr ⟨_,hj⟩)).1];have:=D2.2.1 _ b hj;exact⟨by rw[jA];omega,this.2⟩
 .by_cases a1:j < l1.length
  .rw[iW a1]at hj;exact(fr g' (.inl ⟨j,hj⟩)).2 rfl
  .rw[iY a1]at hj;exact(fr g' (.inr ⟨_,hj⟩)).2 rfl
 .have hjl:=(fM.1 hj).1;rw[jA]at hjl;have hm:(j+1) * sh.size<=(l1.length+l2.length) * sh.size:=tC _ hjl;rw[rP]at hm;have cut:(cur'.toList.drop (j * sh.size)).take sh.size=((old++cs).drop (j * sh.size)).take sh.size:=by
   rw[<-c5,yR hm]
  rw[cut,show kE j []=false from rfl]
  rw[V6]at hj;split at hj
  .rename_i a1;rw[iW a1,Hw a1];have hm1:(j+1) * sh.size<=l1.length * sh.size:=tC _ a1;rw[rP]at hm1;have:((old++cs).drop (j * sh.size)).take sh.size=(old.drop (j * sh.size)).take sh.size:=by
    rw[A88 (by omega),A80 (by rw[xq];omega)]
   rw[this];exact(e1 j d hj).move (FH.le.refl h) λb hb=>(fr b (.inl ⟨j,hb⟩)).1
  .rename_i a1;rw[iY a1,Hy a1];have hjj:j * sh.size=l1.length * sh.size+(j - l1.length) * sh.size:=by rw[<-Ec];congr 1;omega
   have:(old++cs).drop (j * sh.size)=cs.drop ((j - l1.length) * sh.size):=by
    rw[hjj,<-hol,Xb]
   rw[this];exact(e2 _ d hj).move (FH.le.refl h) λb hb=>(fr b (.inr ⟨_,hb⟩)).1
theorem LX(hc:bG P cx.ti) (ah:Sat N B h0 s h β w a) (hg:aB cx.gd h) (hd:iP N o.dst=true){x y:Operand} (ho:o.op=.call c) (aY:c.callee=.builtin .append) (ha:c.args=#[x,y]) (ht:c.argTypes=#[t,t])
 {r:Nat} (hx:bf cx s [] x=some (.one (.c (.row r)))){dD:Sh}{l1:List dD.den}{t1:TypeId}{e1:Sh}{JF:Nat}{sK:Nat->Bool} (hT:bW s.T r=some ([],.deep tt dD l1 t1 e1 JF sK []))
 {r2:Nat} (hy:bf cx s [] y=some (.one (.c (.row r2)))){LV:TypeId}{kV:Sh}{l2:List kV.den}{t2:TypeId}{e2:Sh}{WC:Nat}{uM:Nat->Bool} (hT2:bW s.T r2=some ([],.deep LV kV l2 t2 e2 WC uM []))
 (k:OU cx s o.dst t r tt dD l1 t1 e1 JF sK r2 LV kV l2 t2 e2 WC uM K):dO P N B h0 h w a o true K:=by
 have tr:gv s.gl []=true:=rfl;unfold OU eG at k;split at k
 .rename_i el hde;have hu:=aV hc hde (by simp)
  split at k
  .cases k
  rename_i ie hie;have tie:=hc.get hie;split at k
  .cases k
  rename_i sh hsh;split at k
  .rename_i hz;rw[au,au,A8,A8]at hz;have hz1:sh.size=ie.size:=fC hz.1;have hz2:1<=ie.bytes:=kM hz.2.1;have hz3:1<=ie.size:=kM hz.2.2;split at k
   .rename_i hq;rw[au,au,au,au,au,A8,A8,A8,A8,A8,jB]at hq;obtain⟨q1,q2,q3,q4,q5,q6⟩:=hq;have q1:tt=el:=fC q1;have q2:LV=el:=fC q2;have q3:t1=t2:=fC q3;have q5:JF=WC:=fC q5;have hrr:r2≠r:=Ht q6;subst q1;subst q2;subst q3;subst q4;subst q5;split at k
    .rename_i m1 hm1;obtain⟨f1,f2⟩:=kW hm1;subst f1;simp only at f2;subst f2;split at k
     .rename_i m2 hm2;obtain⟨f1,f2⟩:=kW hm2;subst f1;simp only at f2;subst f2;obtain⟨⟨k1,k2⟩,k⟩:=k;have dM:=aU hT tr;have LY:=aU hT2 tr;have cx1:=(aF ah hg tr hx:bI h β (.c (.row r)) (a.eval x));have cy1:=(aF ah hg tr hy:bI h β (.c (.row r2)) (a.eval y));obtain⟨JG,hb1,D1⟩:=ah.ok.qG dM cx1.1;obtain⟨o7,hb2,D2⟩:=ah.ok.qG LY cy1.1;have abh:∀b,(RV.deep (a.eval x) JG).has b->B.al b/\b < w.heap.size/\∀o,h b o=none:=λb hb=>ah.ok.own r _ _ b dM rfl hb1 hb
      have WE:∀b,(RV.deep (a.eval y) o7).has b->B.al b/\b < w.heap.size/\∀o,h b o=none:=λb hb=>ah.ok.own r2 _ _ b LY rfl hb2 hb
      have apart:∀b,(RV.deep (a.eval x) JG).has b->(RV.deep (a.eval y) o7).has b->False:=λb p q=>hrr (ah.ok.inj r2 r _ _ _ _ b LY rfl dM rfl hb2 hb1 q p)
      obtain⟨g2,cap2,yP,v0,v1,v2,v3,v4,v5,v6⟩:=D2.third (j:=0) (by omega)
      have hsz2:l2.length * kV.size<=cap2 * kV.size:=tC _ v2;have hcs:(yP.toList.take (l2.length * kV.size)).length=l2.length * kV.size:=by rw[lY,KD (xs:=yP)];omega
      have el2:∀j d,l2[j]?=some d->vF h w kV t1 e1 JF (uM j) false (o7 j) (((yP.toList.take (l2.length * kV.size)).drop (j * kV.size)).take kV.size) d:=by
       intro j d hj;have hjl:=(fM.1 hj).1;have hm:(j+1) * kV.size<=l2.length * kV.size:=tC _ hjl;rw[rP]at hm;rw[yR hm];exact v6 j d hj
      have adD:∀u∈yP.toList.take (l2.length * kV.size),u.oneCell'=true:=by
       intro u hu;obtain⟨p,hp⟩:=RP hu;have hpl:=(fM.1 hp).1;rw[hcs]at hpl;have hs0:0 < kV.size:=by rw[hz1];exact hz3
       have hjl:p / kV.size < l2.length:=by rw[Nat.div_lt_iff_lt_mul hs0];exact hpl
       have hdm:p / kV.size * kV.size+p % kV.size=p:=by rw[Nat.mul_comm];exact Nat.div_add_mod p kV.size
       refine((el2 _ _ (lH hjl)).one u (lI (i:=p % kV.size) ?_)).2;rw[qU,if_pos (Nat.mod_lt _ hs0),Ea,hdm];exact hp
      obtain⟨old,hol,row,el1,nb1⟩:∃old:List Value,old.length=l1.length * kV.size/\((a.eval x=.slice none 0 0/\l1.length=0)\/(∃ad,a.eval x=.slice (some ad) 0 0/\l1.length=0)\/∃g cap cur,a.eval x=.slice (some ⟨g,0,none⟩) l1.length cap/\w.heap[g]?=some (.cells cur LV (0,0))/\l1.length<=cap/\(1<=cap/\cap<=maxLen)/\cur.size=cap * ie.size/\cur.toList.take (l1.length * ie.size)=old) /\
       (∀j d,l1[j]?=some d->vF h w kV t1 e1 JF (sK j) false (JG j) ((old.drop (j * kV.size)).take kV.size) d)/\∀i b,ak (JG i)=some b->ak (a.eval x)≠some b:=by
       rcases D1.2.2 with⟨e,rfl⟩ | ⟨ad,e,rfl⟩ | ⟨g,cap,cur,u0,u1,u2,u3,u4,u5,u6⟩
       .exact⟨[],by simp,.inl ⟨e,rfl⟩,λj d hj=>by simp at hj,λi b _=>by rw[e];simp[ak]⟩
       .exact⟨[],by simp,.inr (.inl ⟨ad,e,rfl⟩),λj d hj=>by simp at hj,λi b _=>by rw[e];simp[ak]⟩
       .have hsz1:l1.length * kV.size<=cap * kV.size:=tC _ u2;refine⟨cur.toList.take (l1.length * kV.size),by rw[lY,KD (xs:=cur)];omega,.inr (.inr ⟨g,cap,cur,u0,u1,u2,u3,by rw[<-hz1];exact u4,by rw[hz1]⟩),λj d hj=>?_,λi b hb=>by rw[u0,aJ u3.1];intro hh;cases hh;exact u5 i hb⟩
        have hjl:=(fM.1 hj).1;have hm:(j+1) * kV.size<=l1.length * kV.size:=tC _ hjl;rw[rP]at hm;rw[yR hm];exact u6 j d hj
      obtain⟨w',g',gZ,cur',r1,gb,c1,c2,c3,c4,c6,c5⟩:=Ae (ty:=o.type) (b:=g2) (o:=0) (c:=cap2) (m:=l2.length) (n:=l1.length) (cs:=yP.toList.take (l2.length * kV.size)) (old:=old) hu tie hz3 hz2 k1 k2 (by rw[hcs,hz1]) (λj u hj=>by
       rw[xw,cell_of_row w g2 j yP LV (0,0) v1];rw[qU]at hj;split at hj
       .simpa using hj
       .cases hj) adD (by rw[hol,hz1]) row
      have fr:∀b,(∃i,ak (JG i)=some b)\/(∃j,ak (o7 j)=some b)->w'.heap[b]?=w.heap[b]?/\b≠g':=by
       rintro b (⟨i,hb⟩ | ⟨j,hb⟩)
       .have o1:=(abh b (aI.2 (.inr ⟨i,hb⟩))).2.1;refine⟨gb.block b o1 λhh=>nb1 i b hb hh.symm,?_⟩
        rintro rfl;rcases c6 with c6 | c6
        .exact nb1 i b hb c6
        .omega
       .have o1:=(WE b (aI.2 (.inr ⟨j,hb⟩))).2.1;refine⟨gb.block b o1 λhh=>apart b (aI.2 (.inl hh.symm)) (aI.2 (.inr ⟨j,hb⟩)),?_⟩
        rintro rfl;rcases c6 with c6 | c6
        .exact apart b (aI.2 (.inl c6)) (aI.2 (.inr ⟨j,hb⟩))
        .omega
      have J:=dh.join (w':=w') (g':=g') (gZ:=gZ) (cur':=cur') (old:=old) (cs:=yP.toList.take (l2.length * kV.size)) D1 D2 k1 (λi j b p q=>apart b (aI.2 (.inr ⟨i,p⟩)) (aI.2 (.inr ⟨j,q⟩))) fr c1 c2 c3 (by rw[hz1];exact c4) hol (by rw[hz1];rw[hz1]at c5;exact c5) el1 el2
      have run:(execOp a.eval o).run P w=.ok (.value (.slice (some ⟨g',0,none⟩) (l1.length+l2.length) gZ)) w':=by
       rw[<-v0]at r1;simp[execOp,ho,resolve,aY,ha,ht,invoke,builtin,r1]
      have ok1:=ah.ok.forget LY;have hT1:((eff s.gl s.T).set r2 .gone)[r]?=some (.deep LV kV l1 t1 e1 JF sK []):=by rw[jU hrr];exact dM
      have hrl:r < β.length:=(fM.1 hb1).1;have ok2:=ok1.Hu (f:=xE r) (r':=.deep LV kV (l1++l2) t1 e1 JF (lT l1.length sK uM) []) (v:=.deep (.slice (some ⟨g',0,none⟩) (l1.length+l2.length) gZ) (vV l1.length JG o7)) (row:=ak (a.eval x)) (X:=λb=>∃j,ak (o7 j)=some b) hT1 rfl hb1 gb (λk e=>aI.2 (.inl e))
       (λb hb=>by
        have hb:(RV.deep (a.eval y) o7).has b:=aI.2 (.inr hb);obtain⟨o1,o2,o3⟩:=WE b hb;refine⟨o1,o2,o3,λj' rj vj hj' ej lj gK hbj=>?_⟩
        have hjq:j'≠r2:=by
         rintro rfl;rw[mJ (fM.1 LY).1]at ej;cases ej;cases lj
        rw[jU (Ne.symm hjq)]at ej;exact hjq (ah.ok.inj j' r2 _ _ _ _ b ej lj LY rfl gK hb2 hbj hb))
       (λb hb=>by
        rw[aI]at hb;rcases hb with hb | ⟨j,hb⟩
        .rw[aJ c3.1]at hb;cases hb;exact c6.elim (λq=>.inl (aI.2 (.inl q))) λq=>.inr (.inr q)
        .by_cases a1:j < l1.length
         .rw[iW a1]at hb;exact .inl (aI.2 (.inr ⟨j,hb⟩))
         .rw[iY a1]at hb;exact .inr (.inl ⟨_,hb⟩))
       (λx y c=>c.jk _) J
      intro Nx Q next
      rw[if_pos rfl];refine fJ run (next _ _ _ _ _ k (FH.le.refl h) (λhh=>by rw[ho]at hh;simp[quietly,aY]at hh) ((ah.map (f:=xE r) (T':=bF (mT (xE r) (bF s.T r2 ([],.gone))) r ([],.deep LV kV (l1++l2) t1 e1 JF (lT l1.length sK uM) [])) (β':=β.set r (.deep (.slice (some ⟨g',0,none⟩) (l1.length+l2.length) gZ) (vV l1.length JG o7))) (FH.le.refl h) (λ_=>rfl) (λx y c=>c.jk _) ?_ ?_).put (bQ hd) rfl (λ_=>⟨⟨.deep (.slice (some ⟨g',0,none⟩) (l1.length+l2.length) gZ) (vV l1.length JG o7),?_,rfl⟩,rfl,rfl⟩) λhh=>by cases hh))
      .rw[dK,yM,dK];exact ok2
      .intro p' hp';rw[cO]at hp';rcases Gq hp' with hp' | hp'
       .obtain⟨p2,h1,h2⟩:=yN hp';rw[<-h2];exact l9 ah p2 h1
       .subst hp';rfl
      .rw[mJ hrl]
     .cases k
    .cases k
   .cases k
  .cases k
 .cases k
theorem OV(hc:bG P cx.ti) (ah:Sat N B h0 s h β w a) (hg:aB cx.gd h) (hd:iP N o.dst=true){p:Prop} (e:XY cx s o K=some p) (k:p):dO P N B h0 h w a o (Region.wanted o (yielded ops a.tmps)) K:=by
 unfold XY at e;split at e
 .cases e
 split at e
 .cases e
 rename_i hgd;rw[show Region.wanted o (yielded ops a.tmps)=true by simp[Region.wanted,hgd]]
 split at e
 .rename_i t ps ho;split at e
  .rename_i x hps;split at e
   .rename_i q hx;split at e
    .rename_i tq eq l hTq;cases e;exact LW hc ah hg hd ho hTq k
    .cases e
   .cases e
  .cases e
 .rename_i c ho;split at e
  .rename_i aY;split at e
   .rename_i x y ha;split at e
    .rename_i r hx;split at e
     .rename_i tt dD l1 t1 e1 JF sK hT;split at e
      .rename_i r2 hy;split at e
       .rename_i LV kV l2 t2 e2 WC uM hT2;split at e
        .rename_i t t' ht;split at e
         .rename_i hb;have hb:t=t':=fC hb;subst hb;cases e;exact LX hc ah hg hd ho aY (fE ha) (fE ht) hx hT hy hT2 k
         .cases e
        .cases e
       .cases e
      .cases e
     .cases e
    .cases e
   .cases e
  .cases e
 .cases e
theorem OW(h1:∀t n ps,o.op≠.buildSlice t n ps) (h2:∀c,o.op=.call c->c.callee≠.builtin .append):XY cx s o K=none:=by
 cases hp:XY cx s o K with
 | none=>rfl
 | some p=>
   exfalso;unfold XY at hp;split at hp
   .cases hp
   split at hp
   .cases hp
   split at hp
   .rename_i t ps ho;exact h1 _ _ _ ho
   .rename_i c ho;split at hp
    .rename_i aY;exact h2 c ho aY
    .cases hp
   .cases hp
abbrev XZ(cx:Cx) (s:St) (o:Oper) (K:St->Prop):Option Prop:=match XY cx s o K with
 | some p=>some p
 | none=>match tlP cx s o K with
   | some p=>some p
   | none=>XL cx s o K
theorem TJ(hc:bG P cx.ti) (ah:Sat N B h0 s h β w a) (hg:aB cx.gd h) (hd:iP N o.dst=true){p:Prop} (e:XZ cx s o K=some p) (k:p):wK P N B h0 h w a o (Region.wanted o (yielded ops a.tmps)) K:=by
 unfold XZ at e;split at e
 .rename_i p' hp;cases e;exact(OV hc ah hg hd hp k).weak
 .split at e
  .rename_i p' hp;cases e;exact XW hc ah hg hd hp k
  .exact Tt hc ah hg hd e k
end
abbrev OX(cx:Cx) (s:St) (d:Option Nat) (t:TypeId) (i:Nat) (lo:Operand) (K:St->Prop):Prop:=eG cx t λel ie sh=>match bW s.T i with
 | some ([],.row tt dD l1)=>match gU (.sl dD) l1 (.sl sh) with
   | some l=>match bf cx s [] lo with
     | some (.one (.c (.v (.int _ n))))=>(0<=n/\n<=l.length)/\K ({ s with T:=bF s.T i ([],.Aw tt sh l n.toNat) }.put d [] (.one (.c (.sub i 0))))
     | _=>False
   | none=>False
 | _=>False
abbrev OY(cx:Cx) (s:St) (d:Option Nat) (t:TypeId) (i:Nat) (y:Operand) (K:St->Prop):Prop:=eG cx t λel ie sh=>match bW s.T i with
 | some ([],.Aw tt dD l1 off)=>match gU (.sl dD) l1 (.sl sh) with
   | some l=>match bf cx s [] y with
     | some (.one v)=>match CQ s sh v with
       | some l2=>K ({ s with T:=bF (mT (pX i) s.T) i ([],.row tt sh (l.take off++(l2.take (l.length - off)++(l.drop off).drop l2.length))),env:=uI (pX i) s.env }.put d [] (vI .i64 (Nat.min l2.length (l.length - off))))
       | none=>False
     | _=>False
   | none=>False
 | _=>False
abbrev OZ(cx:Cx) (s:St) (d:Option Nat) (t:TypeId) (dD:Sh) (x1:dD.den) (K:St->Prop):Prop:=eG cx t λel ie sh=>match gU dD x1 sh with
 | some x=>match Nat.ble ie.size 16777216 with
   | true=>K ({ s with T:=snoc s.T ([],.row el sh [x]) }.put d [] (.one (.c (.row (aC s.T)))))
   | false=>False
 | none=>False
abbrev rtP(cx:Cx) (s:St) (o:Oper) (K:St->Prop):Option Prop:=match cx.rt with
 | false=>none
 | true=>match o.guard with
   | some _=>none
   | none=>match o.op with
     | .buildSlice t 1 ps=>match tl ps with
       | [(0,x)]=>match bf cx s [] x with
         | some (.one (.dat dD x1))=>some (OZ cx s o.dst t dD x1 K)
         | _=>none
       | _=>none
     | .slice t x (some lo) none none=>match bf cx s [] x with
       | some (.one (.c (.row i)))=>match bW s.T i with
         | some ([],.row _ _ _)=>some (OX cx s o.dst t i lo K)
         | _=>none
       | _=>none
     | .call c=>match c.callee with
       | .builtin .copy=>match tl c.args with
         | [x,y]=>match bf cx s [] x with
           | some (.one (.c (.sub i 0)))=>match bW s.T i with
             | some ([],.Aw _ _ _ _)=>match tl c.argTypes with
               | [t,_]=>some (OY cx s o.dst t i y K)
               | _=>none
             | _=>none
           | _=>none
         | _=>none
       | _=>none
     | _=>none
section
variable {cx:Cx}{P:Program}{N:Nat}{B:Base}{h0:FH}{s:St}{h:FH}{β:List RV}{w:World}{a:Act}{o:Oper}{K:St->Prop}
theorem bU.js2{us:Nat->Value} (hu:β[i]?=some (.deep v us)){x:SC} (c:bU h β x y):bU h (β.set i (.row v)) (pX i x) y:=by
 unfold pX;split
 .rename_i hf;cases x with
  | v _=>exact c
  | sl _ _=>exact c
  | fp _ _=>exact c
  | one _ _=>exact c
  | abs _=>exact c
  | junk=>trivial
  | own j off=>
    obtain⟨b,e,e'⟩:=c;refine⟨b,?_,e'⟩;rw[bT hu,if_neg]
    .exact e
    .rintro rfl;rw[hu]at e;cases e
  | row j=>
    obtain⟨z,e,e'⟩:=c
    by_cases hj:j=i
    .subst hj;rw[hu]at e;cases e;exact⟨.row v,by rw[bT hu,if_pos rfl],e'⟩
    .exact⟨z,by rw[bT hu,if_neg hj];exact e,e'⟩
  | iw j k sz off=>
    obtain⟨z,g,e,e',e2⟩:=c
    by_cases hj:j=i
    .subst hj;rw[hu]at e;cases e;exact⟨.row v,g,by rw[bT hu,if_pos rfl],e',e2⟩
    .exact⟨z,g,by rw[bT hu,if_neg hj];exact e,e',e2⟩
  | sub j k=>
    obtain⟨z,o7,e,e'⟩:=c;exact⟨z,o7,by rw[bT hu,if_neg (Ht hf)];exact e,e'⟩
  | jC j k m sz off=>
    obtain⟨z,o7,g,e,e'⟩:=c;exact⟨z,o7,g,by rw[bT hu,if_neg (Ht hf)];exact e,e'⟩
 .trivial
theorem bU.js3{us:Nat->Value} (hu:β[i]?=some (.row v)){x:SC} (c:bU h β x y):bU h (β.set i (.deep v us)) x y:=by
 cases x with
 | v _=>exact c
 | sl _ _=>exact c
 | fp _ _=>exact c
 | one _ _=>exact c
 | abs _=>exact c
 | junk=>trivial
 | own j off=>
   obtain⟨b,e,e'⟩:=c;refine⟨b,?_,e'⟩;rw[bT hu,if_neg]
   .exact e
   .rintro rfl;rw[hu]at e;cases e
 | row j=>
   obtain⟨z,e,e'⟩:=c
   by_cases hj:j=i
   .subst hj;rw[hu]at e;cases e;exact⟨.deep v us,by rw[bT hu,if_pos rfl],e'⟩
   .exact⟨z,by rw[bT hu,if_neg hj];exact e,e'⟩
 | iw j k sz off=>
   obtain⟨z,g,e,e',e2⟩:=c
   by_cases hj:j=i
   .subst hj;rw[hu]at e;cases e;exact⟨.deep v us,g,by rw[bT hu,if_pos rfl],e',e2⟩
   .exact⟨z,g,by rw[bT hu,if_neg hj];exact e,e',e2⟩
 | sub j k=>
   obtain⟨z,o7,e,e'⟩:=c;refine⟨z,o7,?_,e'⟩;rw[bT hu,if_neg]
   .exact e
   .rintro rfl;rw[hu]at e;cases e
 | jC j k m sz off=>
   obtain⟨z,o7,g,e,e'⟩:=c;refine⟨z,o7,g,?_,e'⟩;rw[bT hu,if_neg]
   .exact e
   .rintro rfl;rw[hu]at e;cases e
theorem mid(l:List SC):dB (λx=>x) l=l:=by
 induction l with
 | nil=>rfl
 | cons x l ih=>simp[dB,ih]
theorem adE(e:bK):mE (λx=>x) e=e:=by
 have m2:∀x:SV,mV (λx=>x) x=x:=by intro x;cases x<;>simp[mV,mid]
 cases e with
 | one x=>simp[mE,m2]
 | l7 xs=>
   have:∀l:List SV,dB (mV λx=>x) l=l:=by
    intro l
    induction l with
    | nil=>rfl
    | cons x l ih=>simp[dB,ih,m2]
   simp[mE,this]
theorem LZ(hc:bG P cx.ti) (ah:Sat N B h0 s h β w a) (hg:aB cx.gd h) (hd:iP N o.dst=true){x lo:Operand} (ho:o.op=.slice t x (some lo) none none)
 (hx:bf cx s [] x=some (.one (.c (.row i)))) (k:OX cx s o.dst t i lo K):dO P N B h0 h w a o (gv s.gl []) K:=by
 have tr:gv s.gl []=true:=rfl;unfold OX eG at k;split at k
 .rename_i el hde;have hu:=aV hc hde (by simp)
  split at k
  .cases k
  rename_i ie hie;have tie:=hc.get hie;split at k
  .cases k
  rename_i sh hsh;split at k
  .rename_i hz;rw[au,au,A8,A8]at hz;have hz1:sh.size=ie.size:=fC hz.1;split at k
   .rename_i tt dD l1 hT;split at k
    .rename_i l hl;obtain⟨e1,e2⟩:=kW hl;subst e1;simp only at e2;subst e2;split at k
     .rename_i ik n hn;have eh:a.eval lo=.int ik n:=(aF ah hg tr hn:bI h β (.c (.v (.int ik n))) (a.eval lo)).1.1;obtain⟨⟨b1,b2⟩,q⟩:=k;have cr:=(aF ah hg tr hx:bI h β (.c (.row i)) (a.eval x));have dM:=aU hT tr;have hβ:=ah.ok.row_of dM cr.1;have iI:jG h w tt dD l1 (a.eval x):=ah.ok.holds i _ _ dM hβ;have hi':i < β.length:=(fM.1 hβ).1;obtain⟨ad,cap,ev,hle⟩:∃(ad:Option Addr) (cap:Nat),a.eval x=.slice ad l1.length cap/\l1.length<=cap:=by
       rcases iI with⟨e,e0⟩ | ⟨ra,e,e0⟩ | ⟨g,cap,cur,e,q1,q2,_⟩
       .exact⟨none,0,by rw[e,e0];rfl,by rw[e0];simp⟩
       .exact⟨some ra,0,by rw[e,e0];rfl,by rw[e0];simp⟩
       .exact⟨_,cap,e,q2⟩
      have run:(execOp a.eval o).run P w=.ok (.value (.slice (if cap=n.toNat then ad else ad.map (·.add (n.toNat * ie.size))) (l1.length - n.toNat) (cap - n.toNat))) w:=by
       have:=kT (P:=P) (w:=w) (isS:=true) (len:=l1.length) (cap:=cap) (lo:=some (.int ik n)) (hi:=none) (a:=n) (b:=l1.length) (.inr ⟨ik,rfl⟩) (.inl ⟨rfl,rfl⟩) (by omega) hle
       have r2:(Instr.sliceAt t (a.eval x) (some (.int ik n)) none none).run P w=.ok (.slice (if cap=n.toNat then ad else ad.map (·.add (n.toNat * ie.size))) (l1.length - n.toNat) (cap - n.toNat)) w:=by
        rw[ev];simp only[Instr.sliceAt,Instr.slice,Sem.run_bind,run_underlying hu,Result.andThen_ok,this,run_sizeOf tie,Sem.run_pure,Int.toNat_natCast]
       simp only[execOp,ho,Sem.run_bind,Si,Nu,eh];rw[r2];rfl
      rw[<-hz1]at run;have hold:xR h w tt dD l1 n.toNat (a.eval x) (λ_=>.slice (if cap=n.toNat then ad else ad.map (·.add (n.toNat * dD.size))) (l1.length - n.toNat) (cap - n.toNat)):=⟨iI,by omega,ad,cap,ev,hle,rfl⟩
      generalize hus:(λ_:Nat=>Value.slice (if cap=n.toNat then ad else ad.map (·.add (n.toNat * dD.size))) (l1.length - n.toNat) (cap - n.toNat))=us at hold
      have h0':us 0=.slice (if cap=n.toNat then ad else ad.map (·.add (n.toNat * dD.size))) (l1.length - n.toNat) (cap - n.toNat):=by rw[<-hus]
      rw[<-h0']at run;have adF:bM (us 0):=by rw[h0'];exact⟨rfl,rfl⟩
      have hC:∀x' y,bU h β x' y->bU h (β.set i (.deep (a.eval x) us)) x' y:=λ_ _ c=>c.js3 hβ
      have aH:Sat N B h0 { s with T:=bF s.T i ([],.Aw tt dD l1 n.toNat) } h (β.set i (.deep (a.eval x) us)) w a:=by
       refine⟨?_,?_,ah.gs,ah.defers,ah.sz,ah.gb,l9 ah⟩
       .show OK B h0 (eff s.gl (bF s.T i ([],.Aw tt dD l1 n.toNat))) h _ w;rw[rZ];have:=ah.ok.Hu (f:=λx=>x) (r':=.Aw tt dD l1 n.toNat) (v:=.deep (a.eval x) us) (row:=none) (X:=λ_=>False) dM rfl hβ (bC w none) (λk e=>by cases e) (λb hb=>hb.elim)
         (λb hb=>by
          rw[aI]at hb;rcases hb with hb | ⟨j,hb⟩
          .exact .inl (aN.2 hb)
          .exact .inl (aN.2 (hold.blk hb))) hC hold
        rwa [show(eff s.gl s.T).map (mR λx=>x)=eff s.gl s.T by rw[show(mR λx=>x)=id from funext Wy];simp]at this
       .intro t' G e' ht;obtain⟨z,q1,q2,q3⟩:=ah.env t' G e' ht;refine⟨z,q1,λhG=>?_,q3⟩
        have:=gJ.map (f:=λx=>x) (FH.le.refl h) hC (q2 hG)
        rwa [adE]at this
      intro Nx Q next
      rw[if_pos tr];refine fJ run (next _ _ _ _ _ q (FH.le.refl h) (λ_=>jf.refl w) (aH.put (G:=[]) (e:=.one (.c (.sub i 0))) (bQ hd) rfl (λ_=>⟨?_,adF⟩) λhh=>by cases hh))
      refine⟨a.eval x,us,?_,rfl⟩;rw[mJ hi']
     .cases k
    .cases k
   .cases k
  .cases k
 .cases k
theorem L6{dT sT:TypeId}{i:TI} (k:aS P el i) (hu:P.underlying dT=some (.slice el)){go dLen dCap:Nat}{b:Addr}{sLen sCap:Nat}{cur:Array Value}
 (hg:w.heap[g]?=some (.cells cur t (0,0))) (hn:cs.length=Nat.min sLen dLen * i.size) (hsrc:∀j v,cs[j]?=some v->w.cell? (b.add j)=some v) (hfit:go+cs.length<=cur.size) (h1:∀v∈cs,v.oneCell'=true):
 (Builtin.copy_ #[dT,sT] ty #[.slice (some ⟨g,go,none⟩) dLen dCap,.slice (some b) sLen sCap]).run P w=.ok (goInt (Nat.min sLen dLen)) (w.setRow g (cur.toList.take go++cs++cur.toList.drop (go+cs.length)).toArray):=by
 have hl:=run_loadCells_list (P:=P) w b cs hsrc;have hst:=run_storeCells_at P g go t cs 0 cur w hg (by simpa using hfit) h1
 simp only[KN,xw]at hst;simp[Builtin.copy_,run_underlying hu,Builtin.lenOf,Builtin.firstCells,run_sizeOf k,<-hn,hl,hst]
theorem L8(hc:bG P cx.ti) (ah:Sat N B h0 s h β w a) (hg:aB cx.gd h) (hd:iP N o.dst=true){t':TypeId}{x y:Operand} (ho:o.op=.call c) (aY:c.callee=.builtin .copy) (ha:c.args=#[x,y]) (hat:c.argTypes=#[t,t'])
 (hx:bf cx s [] x=some (.one (.c (.sub i 0)))) (k:OY cx s o.dst t i y K):dO P N B h0 h w a o (gv s.gl []) K:=by
 have tr:gv s.gl []=true:=rfl;unfold OY eG at k;split at k
 .rename_i el hde;have hu:=aV hc hde (by simp)
  split at k
  .cases k
  rename_i ie hie;have tie:=hc.get hie;split at k
  .cases k
  rename_i sh hsh;split at k
  .rename_i hz;rw[au,au,A8,A8]at hz;have hz1:sh.size=ie.size:=fC hz.1;split at k
   .rename_i tt dD l1 off hT;split at k
    .rename_i l hl;obtain⟨e1,e2⟩:=kW hl;subst e1;simp only at e2;subst e2;split at k
     .rename_i v hv;split at k
      .rename_i l2 hl2;obtain⟨⟨v0,us,hb,e0⟩,_⟩:=(aF ah hg tr hx:bI h β (.c (.sub i 0)) (a.eval x));have cv:=aF ah hg tr hv;have dM:=aU hT tr;have hold:xR h w tt dD l1 off v0 us:=ah.ok.holds i _ _ dM hb;have src:=uw ah hl2 cv;obtain⟨iI,hoff,ad,cap,ev,hle,eus⟩:=hold;have ex:a.eval x=.slice (if cap=off then ad else ad.map (·.add (off * dD.size))) (l1.length - off) (cap - off):=by rw[<-e0,eus]
       generalize hR:(l1.take off++(l2.take (l1.length - off)++(l1.drop off).drop l2.length))=l' at k;have exec:∀{w':World},(Builtin.copy_ #[t,t'] o.type #[a.eval x,a.eval y]).run P w=.ok (goInt (Nat.min l2.length (l1.length - off))) w'->(execOp a.eval o).run P w=.ok (.value (goInt (Nat.min l2.length (l1.length - off)))) w':=by
        intro w' r0;simp only[execOp,ho,resolve,aY,ha,hat,invoke,builtin,Sem.run_bind,Sem.run_pure,Result.andThen_ok];simp[r0]
       have fin:∀{w':World}{row:Option Nat},Gb w w' row->(∀k,row=some k->ak v0=some k)->(Builtin.copy_ #[t,t'] o.type #[a.eval x,a.eval y]).run P w=.ok (goInt (Nat.min l2.length (l1.length - off))) w' ->
        jG h w' tt dD l' v0->dO P N B h0 h w a o (gv s.gl []) K:=by
        intro w' row hgr hrw r0 hr;have hC:∀x' y',bU h β x' y'->bU h (β.set i (.row v0)) (pX i x') y':=λ_ _ c=>c.js2 hb
        have ok:OK B h0 (eff s.gl (bF (mT (pX i) s.T) i ([],.row tt dD l'))) h (β.set i (.row v0)) w':=by
         rw[dK,yM];exact ah.ok.Hu (f:=pX i) (r':=.row tt dD l') (v:=.row v0) (X:=λ_=>False) dM rfl hb hgr (λk e=>aI.2 (.inl (hrw k e))) (λb hb=>hb.elim) (λb hb=>.inl (aI.2 (.inl (aN.1 hb)))) hC hr
        have gT:∀p∈bF (mT (pX i) s.T) i ([],ay.row tt dD l'),pz s.gl.length p.1=true:=by
         intro p hp;rw[cO]at hp;rcases Gq hp with hp | hp
         .obtain⟨q,q1,q2⟩:=yN hp;rw[<-q2];exact ah.gT q q1
         .subst hp;rfl
        exact jP ah k rfl (by rw[ho];simp[quietly,aY]) (.inl (exec r0)) (FH.le.refl h) ((ah.map (FH.le.refl h) (λ_=>by rfl) hC ok gT).put (G:=[]) (e:=vI .i64 (Nat.min l2.length (l1.length - off))) (bQ hd) rfl (λ_=>⟨⟨rfl,aW _ _⟩,aW _ _⟩) λhh=>by cases hh)
       have zero:∀(ab:Option Addr) (sC:Nat),a.eval y=.slice ab l2.length sC->(l1.length - off=0\/l2=[])->dO P N B h0 h w a o (gv s.gl []) K:=by
        intro ab sC ey h0';have hm:Nat.min l2.length (l1.length - off)=0:=by rcases h0' with e | e<;>simp[e]
        refine fin (bC w none) (λk e=>by cases e) ?_ ?_
        .rw[hm,ex,ey];exact Ba tie hu hm
        .have:l'=l1:=by
          rw[<-hR];rcases h0' with e | e
          .rw[e,KG,RI (by omega:l1.length<=off),Gh (by omega)];simp
          .subst e;simp
         rw[this];exact iI
       have ey0:∃(ab:Option Addr) (sC:Nat),a.eval y=.slice ab l2.length sC:=by
        rcases src with⟨s1,s2⟩ | ⟨sa,sc,s1,s2⟩ | ⟨sb,so,sc,cs,s1,s2,s3⟩
        .exact⟨none,0,by rw[s1,s2];rfl⟩
        .exact⟨some sa,sc,by rw[s1,s2];rfl⟩
        .exact⟨_,sc,s1⟩
       obtain⟨ab0,sC0,ey0⟩:=ey0
       by_cases hz0:l1.length - off=0
       .exact zero _ _ ey0 (.inl hz0)
       by_cases hz2:l2=[]
       .exact zero _ _ ey0 (.inr hz2)
       rcases iI with⟨e1,e2⟩ | ⟨ra,e1,e2⟩ | ⟨g,gZ,cur,e1,q1,q2,q3,q4,q5⟩
       .rw[e2]at hz0;simp at hz0
       .rw[e2]at hz0;simp at hz0
       rcases src with⟨s1,s2⟩ | ⟨sa,sc,s1,s2⟩ | ⟨sb,so,sc,cs,s1,s2,s3⟩
       .exact absurd s2 hz2
       .exact absurd s2 hz2
       rw[e1]at ev;injection ev with ev1 ev2 ev3
       subst ev1;subst ev3;rw[if_neg (by omega)]at ex
       simp only[Nu,add_lit,xw]at ex;have hcs:=dQ.size (λ_ _=>Rd.size dD) s2
       have lc:cur.toList.length=gZ * dD.size:=by simpa using q4
       have hm1:l1.length * dD.size<=gZ * dD.size:=tC _ q2;generalize hm:Nat.min l2.length (l1.length - off)=m at *;have hm2:m<=l2.length:=by rw[<-hm];exact Nat.min_le_left _ _
       have hm3:m<=l1.length - off:=by rw[<-hm];exact Nat.min_le_right _ _
       have hm4:m * dD.size<=l2.length * dD.size:=tC _ hm2;have hm5:(off+m) * dD.size<=l1.length * dD.size:=tC _ (by omega)
       rw[Ec]at hm5;have ht:=dQ.pG (λ_ _=>Rd.size dD) s2 (a:=0) (b:=m) (BU _) hm2
       simp only[Wh,RS]at ht;have hlen:(cs.take (m * dD.size)).length=m * dD.size:=by rw[lY];omega
       have r0:=L6 (P:=P) (w:=w) (dT:=t) (sT:=t') (ty:=o.type) tie hu (g:=g) (go:=off * dD.size) (dLen:=l1.length - off) (dCap:=gZ - off) (b:=⟨sb,so,none⟩) (sLen:=l2.length) (sCap:=sc) (cs:=cs.take (m * dD.size)) q1 (by rw[hlen,hm,hz1]) (λj v hj=>by
        rw[qU]at hj;split at hj
        .have:=s3 j v hj;have ea:(⟨sb,so,none⟩:Addr).add j=⟨sb,so+j,none⟩:=by unfold Addr.add;split<;>simp_all
         rw[ea];exact this
        .cases hj) (by rw[hlen];rw[<-KD,lc];omega) (λv hv=>(dQ.all (λ_ _=>Rd.one dD) ht v hv).2)
       rw[hm]at r0;refine fin (row:=some g) (fU w g _) (λk e=>by cases e;rw[e1];exact aJ q3.1) (by rw[ex,s1];exact r0) ?_
       have el:l'=l1.take off++l2.take m++l1.drop (off+m):=by
        rw[<-hR,Am]
        congr 1
        rcases Nat.le_total l2.length (l1.length - off) with hh | hh
        .have:m=l2.length:=by rw[<-hm];exact Xd hh
         rw[this,Gh hh,Gh (lD _),KH]
        .have:m=l1.length - off:=by rw[<-hm];exact Nat.min_eq_right hh
         rw[this,KH,RI (by omega),RI (by omega)]
       rw[el];have ll:(l1.take off++l2.take m++l1.drop (off+m)).length=l1.length:=by simp only[jA,lY,xq];omega
       refine .inr (.inr ⟨g,gZ,_,by rw[ll];exact e1,setRow_heap w g _ _ tt (0,0) q1,by rw[ll];exact q2,q3,?_,?_⟩)
       .simp only[zU,jA,lY,xq,lc,hlen];omega
       .rw[ll];have p1:=(dQ.split (λ_ _=>Rd.size dD) (l:=l1.take off) (l':=l1.drop off) (by rw[Rt];exact q5)).1
        have p2:=(dQ.split (λ_ _=>Rd.size dD) (l:=l1.take (off+m)) (l':=l1.drop (off+m)) (by rw[Rt];exact q5)).2
        have h3:=(p1.append ht).append p2;have k1:(l1.take off).length=off:=by rw[lY];omega
        have k2:(l1.take (off+m)).length=off+m:=by rw[lY];omega
        rw[k1,k2,Ec]at h3;have e3:List.take (l1.length * dD.size) (List.take (off * dD.size) cur.toList++cs.take (m * dD.size)++List.drop (off * dD.size+(cs.take (m * dD.size)).length) cur.toList)=List.take (off * dD.size) (List.take (l1.length * dD.size) cur.toList)++cs.take (m * dD.size)++List.drop (off * dD.size+m * dD.size) (List.take (l1.length * dD.size) cur.toList):=by
         rw[hlen];apply zT;intro p;simp only[V6,qU,Ea,lY,jA,lc]
         repeat' split
         all_goals first | rfl | omega | (congr 1;omega) | (exfalso;omega) | skip
        simp only at e3 ⊢;rw[e3];exact h3
      .cases k
     .cases k
    .cases k
   .cases k
  .cases k
 .cases k
theorem EP{h:FH}{β:List RV}:∀{cs:List Value},(∀v∈cs,bM v)->aG (λx y=>bU h β x y/\bM y) (cs.map SC.v) cs
 | [],_=>trivial
 | c :: cs,f=>⟨⟨⟨rfl,f c (by simp)⟩,f c (by simp)⟩,EP λv hv=>f v (by simp[hv])⟩
theorem ER{h:FH}{β:List RV}:∀{cs zs:List Value},aG (λx y=>bU h β x y/\bM y) (cs.map SC.v) zs->zs=cs
 | [],[],_=>rfl
 | c :: cs,z :: zs,⟨⟨c1,_⟩,a⟩=>by rw[ER a,c1.1]
theorem L9(hc:bG P cx.ti) (ah:Sat N B h0 s h β w a) (hg:aB cx.gd h) (hd:iP N o.dst=true){parts:Array (Nat×Operand)} (ho:o.op=.buildSlice t 1 parts)
 {x:Operand} (hp:tl parts=[(0,x)]){dD:Sh}{x1:dD.den} (hx:bf cx s [] x=some (.one (.dat dD x1))) (k:OZ cx s o.dst t dD x1 K):dO P N B h0 h w a o (gv s.gl []) K:=by
 have tr:gv s.gl []=true:=rfl;unfold OZ eG at k;split at k
 .rename_i el hde;have hu:=aV hc hde (by simp)
  split at k
  .cases k
  rename_i ie hie;have tie:=hc.get hie;split at k
  .cases k
  rename_i sh hsh;split at k
  .rename_i hz;rw[au,au,A8,A8]at hz;have hz1:sh.size=ie.size:=fC hz.1;have hz2:1<=ie.size:=kM hz.2.2;split at k
   .rename_i y hy;obtain⟨e1,e2⟩:=iJ hy;subst e1;simp only at e2;subst e2;split at k
    .rename_i hbl;have hsz1:ie.size<=16777216:=kM hbl;refine jl ah (G:=[]) rfl hd k λhgv=>?_
     obtain⟨_,cs,ey,rd⟩:=(aF ah hg tr hx:bI h β (.dat dD x1) (a.eval x));have hl:cs.length=dD.size:=Rd.size dD rd;have h1:=Rd.one dD rd;have htl:(parts.map λ(p:Nat×Operand)=>(p.1,a.eval p.2)).toList=[(0,a.eval x)]:=by
      have:(parts.map λ(p:Nat×Operand)=>(p.1,a.eval p.2)).toList=(tl parts).map λp=>(p.1,a.eval p.2):=by cases parts;simp
      rw[this,hp];rfl
     have hf:pI (λj=>some (j * ie.size,ie.size)) ((fG 1 ie.zero).map SC.v) [(0,.agg (cs.map SC.v))]=some (cs.map SC.v):=by
      have e1:(fG 1 ie.zero)=ie.zero:=by simp[fG,dI]
      rw[e1];unfold pI ug kF;simp only[Wh,au,aK,Sj,xw];rw[show Nat.beq cs.length ie.size=true by rw[hl,hz1];exact Nat.beq_refl _,show Nat.ble ie.size ie.zero.length=true by rw[tie.lF];exact RJ (lD _)]
      simp only[Bool.and_self];unfold pI Le;rw[show mP 0 (ie.zero.map SC.v)=[] by simp[gY],dI,dI,aK,mQ,Sj]
      rw[RI (by rw[Sj,tie.lF];omega)]
      simp
     rw[<-xA SC.v (fG 1 ie.zero)]at hf;obtain⟨zs,g1,g2⟩:=mZ (h:=h) (β:=β) (parts:=[(0,.agg (cs.map SC.v))]) (vals:=[(0,a.eval x)]) ⟨⟨rfl,cs,ey,EP h1⟩,trivial⟩ (dL λv hv=>tie.zone v (uq hv)) hf
     have ez:=ER g2;subst ez;have hz0:0 < ie.zero.length:=by rw[tie.lF];omega
     obtain⟨z,hz1',hz2'⟩:=ni tie w;have hc1:((Array.range (1 * ie.size)).map (λi=>z.cells[i % z.cells.size]!))=(fG 1 ie.zero).toArray:=by
      rw[hz2',<-tie.lF];exact ny hz0
     refine⟨.slice (some ⟨w.heap.size,0,none⟩) 1 1,w.alloc (.cells zs.toArray el),.row (.slice (some ⟨w.heap.size,0,none⟩) 1 1),?_,jh _ _ _,?_,?_,?_⟩
     .have hbig:¬(1 * ie.size > 2 ^ 24):=by omega
      have h0:¬1 * ie.size=0:=by omega
      simp only[execOp,ho,Instr.buildSlice,Sem.run_bind,run_underlying hu,Result.andThen_ok,run_sizeOf tie,hbig,Eh,Sem.run_ite,Sem.run_pure,h0,hz1'];rw[htl,hc1,g1];simp only[Sem.run_bind,newRow,run_newObj,Result.andThen_ok,Sem.run_pure];rfl
     .intro b hb;rw[aN]at hb;simp[ak]at hb;obtain⟨_,rfl⟩:=hb;simp
     .refine .inr (.inr ⟨w.heap.size,1,zs.toArray,rfl,jm _ _,lD _,⟨lD _,by simp[maxLen]⟩,by simp only[zU];omega,?_⟩)
      rw[Gh (by simp;omega)]
      exact⟨zs,[],by simp,rd,rfl⟩
     .exact⟨⟨_,iK (jo ah) _,rfl⟩,rfl,rfl⟩
    .cases k
   .cases k
  .cases k
 .cases k
theorem O1(hc:bG P cx.ti) (ah:Sat N B h0 s h β w a) (hg:aB cx.gd h) (hd:iP N o.dst=true){p:Prop} (e:rtP cx s o K=some p) (k:p):dO P N B h0 h w a o (Region.wanted o (yielded ops a.tmps)) K:=by
 have hw:∀{b:Bool},o.guard=none->dO P N B h0 h w a o (gv s.gl []) K->dO P N B h0 h w a o (Region.wanted o (yielded ops a.tmps)) K:=by
  intro b hgd x;have:Region.wanted o (yielded ops a.tmps)=true:=by unfold Region.wanted;rw[hgd]
  rw[this];exact x
 unfold rtP at e;split at e
 .cases e
 split at e
 .cases e
 rename_i hgd;split at e
 .rename_i t ps ho;split at e
  .rename_i x hps;split at e
   .rename_i dD x1 hx;cases e;exact hw (b:=true) hgd (L9 hc ah hg hd ho hps hx k)
   .cases e
  .cases e
 .rename_i t x lo ho;split at e
  .rename_i i hx;split at e
   .cases e;exact hw (b:=true) hgd (LZ hc ah hg hd ho hx k)
   .cases e
  .cases e
 .rename_i c ho;split at e
  .rename_i aY;split at e
   .rename_i x y ha;split at e
    .rename_i i hx;split at e
     .split at e
      .rename_i t t' ht;cases e;exact hw (b:=true) hgd (L8 hc ah hg hd ho aY (fE ha) (fE ht) hx k)
      .cases e
     .cases e
    .cases e
   .cases e
  .cases e
 .cases e
end
structure Ch where
 i:Nat
 j:Nat
 t:TypeId
 di:Nat
 dj:Nat
 y:Operand
structure CD where
 c:Ch
 el:TypeId
 ie:TI
 sh:Sh
 l:List sh.den
theorem OK.abj{B:Base}{h0:FH} (ok:OK B h0 T h β w){v:RV}
 (hv:∀b,v.has b->B.al b/\b < w.heap.size/\(∀o,h b o=none)/\∀(i:Nat) (r':ay) (u:RV),T[i]?=some r'->r'.live=true->β[i]?=some u->¬u.has b) (hold:Holds h (β++[v]) w r v):
 OK B h0 (T++[r]) h (β++[v]) w where
 below:=ok.below
 dr:=ok.dr
 len:=by simp[ok.len]
 holds:=by
  intro i r' v' e e';rcases aj e with⟨hi,e⟩ | ⟨hi,rfl⟩
  .rcases aj e' with⟨_,e'⟩ | ⟨hj,_⟩
   .exact(ok.holds i r' v' e e').move (FH.le.refl h) (Ext.append _ _) λhl b hb=>rfl
   .have:=ok.len;omega
  .rcases aj e' with⟨hj,e'⟩ | ⟨_,rfl⟩
   .have:=ok.len;omega
   .exact hold
 own:=by
  intro i r' v' b e hl e' hb;rcases aj e' with⟨hj,e'⟩ | ⟨hj,rfl⟩
  .rcases aj e with⟨_,e⟩ | ⟨hi,rfl⟩
   .exact ok.own i r' v' b e hl e' hb
   .have:=ok.len;omega
  .obtain⟨h1,h2,h3,_⟩:=hv b hb;exact⟨h1,h2,h3⟩
 inj:=by
  intro i j r1 r2 u v' b ei hl1 ej hl2 eu ev hu hv';have L:=ok.len;rcases aj ei with⟨hi,ei⟩ | ⟨hi,_⟩<;>rcases aj ej with⟨hj,ej⟩ | ⟨hj,_⟩<;>
   rcases aj eu with⟨hi',eu⟩ | ⟨hi',rfl⟩<;>rcases aj ev with⟨hj',ev⟩ | ⟨hj',rfl⟩<;>first
    | omega
    | exact ok.inj i j r1 r2 u v' b ei hl1 ej hl2 eu ev hu hv'
    | exact absurd hu ((hv b hv').2.2.2 i r1 _ ei hl1 eu)
    | exact absurd hv' ((hv b hu).2.2.2 j r2 _ ej hl2 ev)
 hle:=ok.hle
 hw:=ok.hw
 hg:=ok.hg
 kn:=ok.kn
theorem OK.grown{B:Base}{h0:FH}{T:List ay}{h:FH}{β:List RV}{w w':World} (ok:OK B h0 T h β w) (hg:Gb w w' none):OK B h0 T h β w' where
 below:=ok.below.grown hg.togrownBy (by intro k e;cases e)
 dr:=nV ok.dr hg.dr
 len:=ok.len
 holds:=λi r v e e'=>(ok.holds i r v e e').move (FH.le.refl h) (Ext.refl _) λhl b hb=>hg.block b (ok.own i r v b e hl e' hb).2.1 (by simp)
 own:=λi r v b e hl e' hb=>by
  obtain⟨h1,h2,h3⟩:=ok.own i r v b e hl e' hb;exact⟨h1,Ee h2 hg.size,h3⟩
 inj:=ok.inj
 hle:=ok.hle
 hw:=frozen_kept ok.hw hg (by intro k e;cases e)
 hg:=ok.hg
 kn:=ok.kept hg (by intro b e;cases e)
section
variable {P:Program}{N:Nat}{B:Base}{h0 h:FH}{β:List RV}{s:St}{w w':World}{a:Act}
theorem Sat.yS(ah:Sat N B h0 s h β w a) (hg:Gb w w' none){d:Nat} (hd:dZ s.env d=none) (v:Value):Sat N B h0 s h β w' (a.put (some d) v):=by
 refine⟨ah.ok.grown hg,λt G e ht=>?_,ah.gs,ah.defers.same rfl,by simp[Act.put,ah.sz],ah.gb,ah.gT⟩
 obtain⟨z,q1,q2⟩:=ah.env t G e ht;have hne:d≠t:=by rintro rfl;rw[hd]at ht;cases ht
 exact⟨z,by simp only[Act.put];rw[V4 hne];exact q1,q2⟩
def Free(B:Base) (s:St) (h:FH) (β:List RV) (w:World) (b:Nat):Prop:=
 B.al b/\b < w.heap.size/\(∀o,h b o=none)/\∀(i:Nat) (r:ay) (u:RV),(eff s.gl s.T)[i]?=some r->r.live=true->β[i]?=some u->¬u.has b
theorem Free.grown(f:Free B s h β w b) (hg:Gb w w' none):Free B s h β w' b:=⟨f.1,Ee f.2.1 hg.size,f.2.2⟩
theorem Free.new(ah:Sat N B h0 s h β w a) (h1:w.heap.size<=b) (h2:b < w'.heap.size):Free B s h β w' b:=by
 refine⟨B.up _ (nV ah.ok.below.size h1),h2,λo=>?_,λi r u e hl eu hb=>?_⟩
 .cases hh:h b o with
  | none=>rfl
  | some v=>have:=jV (ah.ok.hw b o v hh);omega
 .have:=(ah.ok.own i r u b e hl eu hb).2.1;omega
end
def Fact(B:Base) (s:St) (h:FH) (β:List RV) (own:Nat->Nat) (listed:Array Bool) (a:Act) (w:World) (x:CD):Prop:=
 (listed.getD x.c.i true=true->listed.getD x.c.j true=false->∃ad,a.tmps[x.c.di]?=some (.slice (some ad) 0 0)) /\
 (listed.getD x.c.j true=true->∃v,a.tmps[x.c.dj]?=some v/\Holds h [] w (.row x.el x.sh x.l) (.row v)/\∀b,ak v=some b->Free B s h β w b/\own b=x.c.j)
def JH(B:Base) (s:St) (h:FH) (β:List RV) (own:Nat->Nat) (listed:Array Bool) (a:Act) (w:World) (i d:Nat) (r:ay):Prop:=
 listed.getD i true=true->∃g,a.tmps[d]?=some (.pointer (some ⟨g,0,none⟩))/\Holds h [] w r (.blk g)/\Free B s h β w g/\own g=i
section
variable {P:Program}{N:Nat}{B:Base}{h0 h:FH}{β:List RV}{s:St}{w w':World}{a:Act}{own own':Nat->Nat}{listed:Array Bool}{x:CD}
theorem Fact.keep(f:Fact B s h β own listed a w x) (hg:Gb w w' none) (ho:∀b,b < w.heap.size->own' b=own b){d:Nat} (hk1:k≠x.c.i) (hk2:k≠x.c.j) (hd1:d≠x.c.di) (hd2:d≠x.c.dj) (v:Value):
 Fact B s h β own' (listed.setIfInBounds k true) (a.put (some d) v) w' x:=by
 refine⟨λh1 h2=>?_,λh1=>?_⟩
 .rw[getD_set_ne true hk1]at h1;rw[getD_set_ne true hk2]at h2;obtain⟨ad,e⟩:=f.1 h1 h2;exact⟨ad,by simp only[Act.put];rw[V4 hd1];exact e⟩
 .rw[getD_set_ne true hk2]at h1;obtain⟨u,e,hu,hb⟩:=f.2 h1;refine⟨u,by simp only[Act.put];rw[V4 hd2];exact e,hu.move (FH.le.refl h) (Ext.refl _) λ_ b hb'=>?_,λb hb'=>?_⟩
  .exact hg.block b (hb b (aN.1 hb')).1.2.1 (by simp)
  .obtain⟨q1,q2⟩:=hb b hb';exact⟨q1.grown hg,by rw[ho b q1.2.1];exact q2⟩
theorem JH.keep{e:Nat} (f:JH B s h β own listed a w i e r) (hg:Gb w w' none) (ho:∀b,b < w.heap.size->own' b=own b){d:Nat} (hk:k≠i) (hd:d≠e) (v:Value):
 JH B s h β own' (listed.setIfInBounds k true) (a.put (some d) v) w' i e r:=by
 intro h1;rw[getD_set_ne true hk]at h1;obtain⟨g,e1,e2,e3,e4⟩:=f h1;refine⟨g,by simp only[Act.put];rw[V4 hd];exact e1,e2.move (FH.le.refl h) (Ext.refl _) λ_ b hb=>?_,e3.grown hg,by rw[ho g e3.2.1];exact e4⟩
 rw[iy]at hb;subst hb;exact hg.block g e3.2.1 (by simp)
end
theorem X0{ie:TI} (ho:o.op=.buildSlice t 0 #[]) (hu:P.underlying t=some (.slice el)) (tie:aS P el ie):
 (execOp a.eval o).run P w=.ok (.value (.slice (some ⟨w.heap.size,0,none⟩) 0 0)) (w.alloc (.cells #[] el)):=by
 have hbig:¬(0 * ie.size > 2 ^ 24):=by omega
 simp only[execOp,ho,Instr.buildSlice,Sem.run_bind,run_underlying hu,Result.andThen_ok,run_sizeOf tie,hbig,Eh,Sem.run_ite,Sem.run_pure,Wh,if_true];rw[show(Array.map (λx=>(#[]:Array Value)[x % (#[]:Array Value).size]!) (Array.range 0))=#[] from by simp]
 rw[if_neg (by decide)]
 have g1:Instr.fill (λi=>some (i * ie.size,ie.size)) #[] (Array.map (λx:Nat×Operand=>(x.1,a.eval x.2)) #[]).toList=some #[]:=by simp[Instr.fill]
 rw[g1];simp only[Sem.run_bind,newRow,run_newObj,Result.andThen_ok,Sem.run_pure];rfl
theorem X3{ie:TI}{sh:Sh}{l:List sh.den}{x y:Operand}{ad:Addr} (ho:o.op=.call c) (aY:c.callee=.builtin .append) (ha:c.args=#[x,y]) (ht:c.argTypes=#[t,t])
 (hx:a.eval x=.slice (some ad) 0 0) (hu:P.underlying t=some (.slice el)) (tie:aS P el ie) (z1:sh.size=ie.size) (z2:1<=ie.bytes) (z3:1<=ie.size) (src:Jj h w sh (a.eval y) l) (room:jK l.length ie.bytes)
 (hw:∀b o u,h b o=some u->vis w b o=some u):
 ∃v w',(execOp a.eval o).run P w=.ok (.value v) w'/\Gb w w' none/\(∀b,ak v=some b->w.heap.size<=b/\b < w'.heap.size)/\Holds h [] w' (.row el sh l) (.row v):=by
 obtain⟨v',w',r1,r2,r3,r4⟩:=kU (ty:=o.type) (l:=[]) (v:=.slice (some ad) 0 0) hu tie z1 z2 z3 (.inr (.inl ⟨ad,rfl,rfl⟩)) src (by simpa using room) hw
 have e0:ak (.slice (some ad) 0 0)=none:=rfl;refine⟨v',w',?_,by rw[e0]at r2;exact r2,λb hb=>?_,by rw[IZ]at r4;exact r4⟩
 .simp[execOp,ho,resolve,aY,ha,ht,invoke,builtin,hx,r1]
 .rcases r3 b hb with hh | hh
  .rw[e0]at hh;cases hh
  .exact hh
theorem X4{i:TI} (ho:o.op=.alloc t) (ti:aS P t i) (cz:Bool):
 ∃w',(execOp a.eval o).run P w=.ok (.value (.pointer (some ⟨w.heap.size,0,none⟩))) w'/\Gb w w' none/\w.heap.size < w'.heap.size/\Holds h [] w' (oh cz t i) (.blk w.heap.size):=by
 obtain⟨z,hz1,hz2⟩:=ni ti w;refine⟨w.alloc (.cells z.cells t),?_,jh _ _ _,by simp,?_⟩
 .simp only[execOp,ho,Instr.alloc,newVar,newRow,Sem.run_bind,hz1,Result.andThen_ok,run_newObj,Sem.run_pure];rfl
 .have hn:=jm w (.cells z.cells t);unfold oh;split
  .rename_i sh hs;split
   .exact⟨i.zero,by rw[hn,hz2],pR (ti.KX _ hs).1⟩
   .exact⟨i.zero,by rw[hn,hz2],dL ti.zone⟩
  .exact⟨i.zero,by rw[hn,hz2],dL ti.zone⟩
structure TK (P:Program) (cx:Cx) (ops:Array Oper) (s:St) (x:CD):Prop where
 bs:∃o,ops[x.c.i]?=some o/\o.guard=none/\o.dst=some x.c.di/\o.op=.buildSlice x.c.t 0 #[]
 ap:∃o c,ops[x.c.j]?=some o/\o.guard=none/\o.dst=some x.c.dj/\o.op=.call c/\c.callee=.builtin .append/\c.args=#[.tmp x.c.di,x.c.y]/\c.argTypes=#[x.c.t,x.c.t]/\∃e∈o.after,Region.binds .any e=true/\e.on=x.c.i
 und:P.underlying x.c.t=some (.slice x.el)
 tie:aS P x.el x.ie
 z1:x.sh.size=x.ie.size
 z2:1<=x.ie.bytes
 z3:1<=x.ie.size
 src:∃v,bf cx s [] x.c.y=some (.one v)/\CQ s x.sh v=some x.l
 room:jK x.l.length x.ie.bytes
 fi:dZ s.env x.c.di=none
 fj:dZ s.env x.c.dj=none
structure Al where
 i:Nat
 d:Nat
 t:TypeId
 ti:TI
structure WG (xs:List CD) (al:List Al):Prop where
 self:∀x∈xs,x.c.i≠x.c.j/\x.c.di≠x.c.dj
 two:∀x∈xs,∀y∈xs,x≠y->(x.c.i≠y.c.i/\x.c.i≠y.c.j/\x.c.j≠y.c.i/\x.c.j≠y.c.j)/\x.c.di≠y.c.di/\x.c.di≠y.c.dj/\x.c.dj≠y.c.di/\x.c.dj≠y.c.dj
 ca:∀x∈xs,∀q∈al,(x.c.i≠q.i/\x.c.j≠q.i)/\x.c.di≠q.d/\x.c.dj≠q.d
 aa:∀p∈al,∀q∈al,p≠q->p.i≠q.i/\p.d≠q.d
structure Jm (cz:Bool) (N:Nat) (B:Base) (h0:FH) (s:St) (h:FH) (β:List RV) (xs:List CD) (al:List Al) (listed:Array Bool) (a:Act) (w:World):Prop where
 ah:Sat N B h0 s h β w a
 own:∃own:Nat->Nat,(∀x∈xs,Fact B s h β own listed a w x)/\∀q∈al,JH B s h β own listed a w q.i q.d (oh cz q.t q.ti)
 ord:∀x∈xs,listed.getD x.c.j true=true->listed.getD x.c.i true=true
section
variable {P:Program}{cx:Cx}{cz:Bool}{N:Nat}{B:Base}{h0 h:FH}{β:List RV}{s:St}{ops:Array Oper}{xs:List CD}{al:List Al}{listed:Array Bool}{a:Act}{w:World}
theorem Bc(l:Array Bool) (i:Nat):(l.setIfInBounds i true).getD i true=true:=by
 rcases RX i l.size with h | h
 .simp[h]
 .simp[Rq h]
theorem yT{d:Nat} (v:Value) (h:d < a.tmps.size):(a.put (some d) v).tmps[d]?=some v:=by simp[Act.put,h]
theorem Jm.bs(j:Jm cz N B h0 s h β xs al listed a w) (o8:WG xs al){x:CD} (hx:x∈xs) (ok:TK P cx ops s x) (hn:x.c.di < N) (hi:listed.getD x.c.i true=false):
 qM P ops x.c.i (λa' w'=>jf w w'/\(∃v,a'=a.put (some x.c.di) v)/\Jm cz N B h0 s h β xs al (listed.setIfInBounds x.c.i true) a' w') a w:=by
 obtain⟨o,ho,hg,hd,hop⟩:=ok.bs;unfold qM;simp only[ho];rw[if_pos (by simp[Region.wanted,hg])]
 have gb:Gb w (w.alloc (.cells #[] x.el)) none:=jh _ _ _;refine fJ (X0 hop ok.und ok.tie) ⟨jf.pO gb,?_⟩;rw[hd];refine⟨⟨_,rfl⟩,?_⟩;obtain⟨own,f1,f2⟩:=j.own;refine⟨j.ah.yS gb ok.fi _,⟨own,λy hy=>?_,λq hq=>?_⟩,λy hy h1=>?_⟩
 .by_cases hyx:y=x
  .subst hyx;refine⟨λ_ _=>⟨_,yT _ (by rw[j.ah.sz];exact hn)⟩,λh1=>?_⟩
   rw[getD_set_ne true (o8.self y hx).1]at h1;have:=j.ord y hx h1;rw[hi]at this;cases this
  .obtain⟨⟨d1,d2,d3,d4⟩,e1,e2,e3,e4⟩:=o8.two x hx y hy (Ne.symm hyx);exact(f1 y hy).keep gb (λ_ _=>rfl) d1 d2 e1 e2 _
 .obtain⟨⟨d1,d2⟩,e1,e2⟩:=o8.ca x hx q hq;exact(f2 q hq).keep gb (λ_ _=>rfl) d1 e1 _
 .by_cases hyx:y=x
  .subst hyx;exact Bc _ _
  .obtain⟨⟨d1,d2,d3,d4⟩,_⟩:=o8.two x hx y hy (Ne.symm hyx);rw[getD_set_ne true d2]at h1;rw[getD_set_ne true d1];exact j.ord y hy h1
end
section
variable {P:Program}{cx:Cx}{cz:Bool}{N:Nat}{B:Base}{h0 h:FH}{β:List RV}{s:St}{ops:Array Oper}{xs:List CD}{al:List Al}{listed:Array Bool}{a:Act}{w:World}
theorem Jm.ap(j:Jm cz N B h0 s h β xs al listed a w) (hgd:aB cx.gd h) (o8:WG xs al){x:CD} (hx:x∈xs) (ok:TK P cx ops s x) (hn:x.c.dj < N) (hi:listed.getD x.c.i true=true) (hj:listed.getD x.c.j true=false):
 qM P ops x.c.j (λa' w'=>jf w w'/\(∃v,a'=a.put (some x.c.dj) v)/\Jm cz N B h0 s h β xs al (listed.setIfInBounds x.c.j true) a' w') a w:=by
 obtain⟨o,c,ho,hg,hd,hop,aY,hargs,hat,_⟩:=ok.ap;unfold qM;simp only[ho];rw[if_pos (by simp[Region.wanted,hg])]
 obtain⟨own,f1,f2⟩:=j.own;obtain⟨ad,had⟩:=(f1 x hx).1 hi hj;obtain⟨v2,hv2,hl⟩:=ok.src;have src:=uw j.ah hl (aF j.ah hgd (show gv s.gl []=true from rfl) hv2)
 obtain⟨v,w',r1,gb,fr,hold⟩:=X3 (h:=h) (ad:=ad) hop aY hargs hat (by simp[Act.eval,had]) ok.und ok.tie ok.z1 ok.z2 ok.z3 src ok.room j.ah.ok.hw
 refine fJ r1 ⟨jf.pO gb,?_⟩;rw[hd];refine⟨⟨_,rfl⟩,?_⟩;have hown:∀b,b < w.heap.size->(λb=>if w.heap.size<=b then x.c.j else own b) b=own b:=λb hb=>if_neg (by omega)
 refine⟨j.ah.yS gb ok.fj _,⟨λb=>if w.heap.size<=b then x.c.j else own b,λy hy=>?_,λq hq=>?_⟩,λy hy h1=>?_⟩
 .by_cases hyx:y=x
  .subst hyx;refine⟨λ_ h2=>?_,λ_=>⟨v,yT _ (by rw[j.ah.sz];exact hn),hold,λb hb=>?_⟩⟩
   .rw[Bc]at h2;cases h2
   .obtain⟨q1,q2⟩:=fr b hb;exact⟨Free.new j.ah q1 q2,if_pos q1⟩
  .obtain⟨⟨d1,d2,d3,d4⟩,e1,e2,e3,e4⟩:=o8.two x hx y hy (Ne.symm hyx);exact(f1 y hy).keep gb hown d3 d4 e3 e4 _
 .obtain⟨⟨d1,d2⟩,e1,e2⟩:=o8.ca x hx q hq;exact(f2 q hq).keep gb hown d2 e2 _
 .by_cases hyx:y=x
  .subst hyx;rw[getD_set_ne true (Ne.symm (o8.self y hx).1)];exact hi
  .obtain⟨⟨d1,d2,d3,d4⟩,_⟩:=o8.two x hx y hy (Ne.symm hyx);rw[getD_set_ne true d4]at h1;rw[getD_set_ne true d3];exact j.ord y hy h1
theorem Jm.new(j:Jm cz N B h0 s h β xs al listed a w) (o8:WG xs al){p:Al} (hp:p∈al){o:Oper} (ho:ops[p.i]?=some o) (hg:o.guard=none) (hd:o.dst=some p.d) (hop:o.op=.alloc p.t) (ti:aS P p.t p.ti) (hn:p.d < N) (hf:dZ s.env p.d=none):
 qM P ops p.i (λa' w'=>jf w w'/\(∃v,a'=a.put (some p.d) v)/\Jm cz N B h0 s h β xs al (listed.setIfInBounds p.i true) a' w') a w:=by
 unfold qM;simp only[ho];rw[if_pos (by simp[Region.wanted,hg])]
 obtain⟨own,f1,f2⟩:=j.own;obtain⟨w',r1,gb,lt,hold⟩:=X4 (w:=w) (h:=h) (a:=a) hop ti cz;refine fJ r1 ⟨jf.pO gb,?_⟩;rw[hd];refine⟨⟨_,rfl⟩,?_⟩;have hown:∀b,b < w.heap.size->(λb=>if w.heap.size<=b then p.i else own b) b=own b:=λb hb=>if_neg (by omega)
 refine⟨j.ah.yS gb hf _,⟨λb=>if w.heap.size<=b then p.i else own b,λy hy=>?_,λq hq=>?_⟩,λy hy h1=>?_⟩
 .obtain⟨⟨d1,d2⟩,e1,e2⟩:=o8.ca y hy p hp;exact(f1 y hy).keep gb hown (Ne.symm d1) (Ne.symm d2) (Ne.symm e1) (Ne.symm e2) _
 .by_cases hqp:q=p
  .subst hqp;exact λ_=>⟨w.heap.size,yT _ (by rw[j.ah.sz];exact hn),hold,Free.new j.ah (lD _) lt,if_pos (lD _)⟩
  .obtain⟨d1,e1⟩:=o8.aa p hp q hq (Ne.symm hqp);exact(f2 q hq).keep gb hown d1 e1 _
 .obtain⟨⟨d1,d2⟩,_⟩:=o8.ca y hy p hp;rw[getD_set_ne true (Ne.symm d2)]at h1;rw[getD_set_ne true (Ne.symm d1)];exact j.ord y hy h1
end
abbrev X5(s:St) (d:Nat) (el:TypeId) (sh:Sh) (l:List sh.den):St:={ s with T:=snoc s.T ([],.row el sh l) }.put (some d) [] (.one (.c (.row (aC s.T))))
def wM:List CD->St->St
 | [],s=>s
 | x :: r,s=>wM r (X5 s x.c.dj x.el x.sh x.l)
theorem pY{d:Nat} (h:a.tmps[d]?=some v):a.put (some d) v=a:=by
 obtain⟨t,df⟩:=a;simp only[Act.put]at *
 congr 1
 apply Array.ext_getElem?;intro i;rw[Array.getElem?_setIfInBounds];split
 .rename_i hi;subst hi;split
  .exact h.symm
  .rename_i hn;rw[Rq (by omega)]
 .rfl
section
variable {P:Program}{N:Nat}{B:Base}{h0 h:FH}{β:List RV}{s:St}{w:World}{a:Act}
theorem Sat.more(ah:Sat N B h0 s h β w a){rv:RV}{e:bK}{d:Nat} (hd:d < N) (ht:a.tmps[d]?=some v)
 (fr:∀b,rv.has b->Free B s h β w b) (hold:Holds h [] w r rv) (ce:gJ h (β++[rv]) e v):
 Sat N B h0 ({ s with T:=snoc s.T ([],r) }.put (some d) [] e) h (β++[rv]) w a:=by
 have ok:OK B h0 (eff s.gl (snoc s.T ([],r))) h (β++[rv]) w:=by
  rw[dW];exact ah.ok.abj (λb hb=>by
   obtain⟨q1,q2,q3,q4⟩:=fr b hb;exact⟨q1,q2,q3,q4⟩) (hold.move (FH.le.refl h) (λi v e=>by simp at e) λ_ _ _=>rfl)
 have gT:∀p∈snoc s.T ([],r),pz s.gl.length p.1=true:=by
  intro p hp;rw[dY,zO]at hp;rcases hp with hp | hp
  .exact ah.gT p hp
  .simp at hp;subst hp;rfl
 have:=(ah.mem ok (FH.le.refl h) (Ext.append _ _) gT).put (d:=some d) (G:=[]) (e:=e) (z:=v) (λk hk=>by cases hk;exact hd) rfl (λ_=>ce) (λhh=>by cases hh)
 rwa [pY ht]at this
theorem Free.more{rv:RV}{e:bK}{d:Nat} (L:(eff s.gl s.T).length=β.length) (f:Free B s h β w b) (hb:¬rv.has b):Free B ({ s with T:=snoc s.T ([],r) }.put (some d) [] e) h (β++[rv]) w b:=by
 refine⟨f.1,f.2.1,f.2.2.1,λi r' u e' hl eu=>?_⟩
 simp only[St.put]at e';rw[dW]at e';rcases aj e' with⟨_,e'⟩ | ⟨hi,_⟩
 .rcases aj eu with⟨_,eu⟩ | ⟨hj,_⟩
  .exact f.2.2.2 i r' u e' hl eu
  .have:=(fM.1 e').1;omega
 .rcases aj eu with⟨hj,_⟩ | ⟨_,rfl⟩
  .omega
  .exact hb
end
section
variable {P:Program}{N:Nat}{B:Base}{h0 h:FH}{w:World}{a:Act}{own:Nat->Nat}
def Made(B:Base) (N:Nat) (s:St) (h:FH) (β:List RV) (own:Nat->Nat) (a:Act) (w:World) (x:CD):Prop:=
 ∃v,a.tmps[x.c.dj]?=some v/\x.c.dj < N/\Holds h [] w (.row x.el x.sh x.l) (.row v)/\∀b,ak v=some b->Free B s h β w b/\own b=x.c.j
theorem ES:∀(xs:List CD){s:St}{β:List RV},Sat N B h0 s h β w a->(∀x∈xs,Made B N s h β own a w x)->(xs.map λx=>x.c.j).Nodup ->
 ∃β',Sat N B h0 (wM xs s) h β' w a/\∀b,Free B s h β w b->own b∉(xs.map λx=>x.c.j)->Free B (wM xs s) h β' w b
 | [],s,β,ah,_,_=>⟨β,ah,λb f _=>f⟩
 | x :: r,s,β,ah,md,nd=>by
   obtain⟨v,t1,t2,t3,t4⟩:=md x (by simp)
   have L:(eff s.gl s.T).length=β.length:=ah.ok.len.symm▸rfl;have L2:aC s.T=β.length:=by rw[aK,<-eF s.gl s.T];exact L
   simp only[Eb,Ry]at nd;have ce:gJ h (β++[.row v]) (.one (.c (.row (aC s.T)))) v:=by
    refine⟨⟨.row v,?_,rfl⟩,?_⟩
    .rw[L2];simp
    .rcases t3 with⟨rfl,_⟩ | ⟨_,rfl,_⟩ | ⟨g,cap,cur,rfl,_⟩<;>exact⟨rfl,rfl⟩
   have eH:=ah.more (r:=.row x.el x.sh x.l) (rv:=.row v) t2 t1 (λb hb=>(t4 b (aN.1 hb)).1) t3 ce
   have step:∀b,Free B s h β w b->own b≠x.c.j->Free B (X5 s x.c.dj x.el x.sh x.l) h (β++[.row v]) w b:=λb f hne=>by
    refine f.more L λhb=>hne (t4 b (aN.1 hb)).2
   obtain⟨β',aQ,fr2⟩:=ES r eH (λy hy=>by
    obtain⟨v',u1,u2,u3,u4⟩:=md y (by simp[hy])
    refine⟨v',u1,u2,u3,λb hb=>⟨step b (u4 b hb).1 ?_,(u4 b hb).2⟩⟩
    rw[(u4 b hb).2];intro hh;exact nd.1 (by rw[<-hh];exact Nw.2 ⟨y,hy,rfl⟩)) nd.2
   refine⟨β',aQ,λb f hb=>?_⟩
   simp only[Eb,iV,not_or]at hb;exact fr2 b (step b f hb.1) hb.2
abbrev alS(s:St) (d:Nat) (r:ay):St:={ s with T:=snoc s.T ([],r) }.put (some d) [] (.one (.c (.own (aC s.T) 0)))
theorem X6{s:St} (ah:Sat N B h0 s h β w a){d:Nat} (hd:d < N) (e1:a.tmps[d]?=some (.pointer (some ⟨g,0,none⟩))) (e2:Holds h [] w r (.blk g)) (e3:Free B s h β w g):
 Sat N B h0 (alS s d r) h (β++[.blk g]) w a:=by
 have L:(eff s.gl s.T).length=β.length:=ah.ok.len.symm▸rfl;have L2:aC s.T=β.length:=by rw[aK,<-eF s.gl s.T];exact L
 exact ah.more hd e1 (λb hb=>by rw[iy]at hb;subst hb;exact e3) e2 ⟨⟨_,by rw[L2];simp,rfl⟩,fA _⟩
end
abbrev dV(k:Nat):List Nat->Bool
 | []=>false
 | j :: l=>match Nat.beq k j with
   | true=>true
   | false=>dV k l
theorem gI{l:List Nat}:dV k (j :: l)=(Nat.beq k j || dV k l):=by
 simp only[dV];cases Nat.beq k j<;>rfl
theorem jq{k:Nat}{m:List Nat}:∀{l:List Nat},dV k (dw l m)=(dV k l || dV k m)
 | []=>rfl
 | j :: l=>by rw[show dw (j :: l) m=j :: dw l m from rfl,gI,gI,jq,Bool.or_assoc]
def Same(ws:List Nat) (a a':Act):Prop:=∀t,dV t ws=false->a'.tmps[t]?=a.tmps[t]?
theorem Same.refl(ws:List Nat) (a:Act):Same ws a a:=λ_ _=>rfl
theorem Same.trans{ws:List Nat}{a b c:Act} (x:Same ws a b) (y:Same ws b c):Same ws a c:=λt h=>(y t h).trans (x t h)
theorem Same.left{l m:List Nat}{b:Act} (x:Same l a b):Same (dw l m) a b:=λt h=>x t (by rw[jq,xP]at h;exact h.1)
theorem Same.right{l m:List Nat}{b:Act} (x:Same m a b):Same (dw l m) a b:=λt h=>x t (by rw[jq,xP]at h;exact h.2)
def bZ:List Nat->Array Bool->Array Bool
 | [],l=>l
 | k :: r,l=>(bZ r l).setIfInBounds k true
theorem iQ{l:Array Bool}{k:Nat}:∀{d:List Nat},(bZ d l)[k]?=if k∈d then(l[k]?).map (λ_=>true) else l[k]?
 | []=>by simp[bZ]
 | i :: d=>by
   unfold bZ;rw[Array.getElem?_setIfInBounds];have ih:=iQ (l:=l) (k:=k) (d:=d)
   by_cases hik:i=k
   .subst hik;simp only[if_true,iV,true_or];split
    .rename_i gX;have:i < l.size:=by
      rcases RX i l.size with h | h
      .exact h
      .have e:l[i]?=none:=Rq h;rw[e]at ih;have:(bZ d l)[i]?=none:=by rw[ih];simp
       rw[Array.getElem?_eq_getElem gX]at this;cases this
     simp[this]
    .rename_i gX;have e0:(bZ d l)[i]?=none:=Rq (by omega)
     rw[e0]at ih;split at ih
     .exact ih
     .rw[<-ih];rfl
   .rw[if_neg hik,ih];simp[iV,Ne.symm hik]
theorem qc{e:List Nat} (h:∀k,k∈d↔k∈e):bZ d l=bZ e l:=by
 apply Array.ext_getElem?;intro k;rw[iQ,iQ];simp only[h k]
theorem Dn(h:l.getD k true=false):l[k]?=some false:=by
 simp only[Array.getD_eq_getD_getElem?]at h;cases hk:l[k]? with
 | none=>rw[hk]at h;cases h
 | some b=>rw[hk]at h;simp at h;rw[h]
theorem JI(h:l.getD k false=true):l[k]?=some true:=by
 simp only[Array.getD_eq_getD_getElem?]at h;cases hk:l[k]? with
 | none=>rw[hk]at h;cases h
 | some b=>rw[hk]at h;simp at h;rw[h]
theorem nI(hk:k∉d) (h:l.getD k true=false):(bZ d l).getD k true=false:=by
 rw[Array.getD_eq_getD_getElem?,iQ,if_neg hk,Dn h];rfl
theorem nJ(hk:k∈d) (h:l.getD k true=false) (b:Bool):(bZ d l).getD k b=true:=by
 rw[Array.getD_eq_getD_getElem?,iQ,if_pos hk,Dn h];rfl
theorem Bd(h:l.getD k false=true):(bZ d l).getD k false=true:=by
 rw[Array.getD_eq_getD_getElem?,iQ,JI h];split<;>rfl
theorem yU(h:(bZ d l).getD k true=false):l.getD k true=false/\k∉d:=by
 have:=Dn h;rw[iQ]at this;split at this
 .cases hl:l[k]? with
  | none=>rw[hl]at this;cases this
  | some b=>rw[hl]at this;cases this
 .rename_i hn;exact⟨by rw[Array.getD_eq_getD_getElem?,this];rfl,hn⟩
structure X7 (ops:Array Oper) (cp:Nat->Bool) (l0:Array Bool) (c:Ch):Prop where
 bs:∃o,ops[c.i]?=some o/\o.guard=none/\o.dst=some c.di/\o.op=.buildSlice c.t 0 #[]/\∀e∈o.after,Region.binds .any e=true->l0.getD e.on false=true
 ap:∃o k,ops[c.j]?=some o/\o.guard=none/\o.dst=some c.dj/\o.op=.call k/\k.callee=.builtin .append/\k.args=#[.tmp c.di,c.y]/\k.argTypes=#[c.t,c.t] /\
  (∃e∈o.after,Region.binds .any e=true/\e.on=c.i)/\∀e∈o.after,Region.binds .any e=true->e.on=c.i\/l0.getD e.on false=true\/(e.on < c.j/\cp e.on=true)
 ui:l0.getD c.i true=false
 uj:l0.getD c.j true=false
structure AlT (ops:Array Oper) (l0:Array Bool) (i d:Nat) (t:TypeId):Prop where
 op:∃o,ops[i]?=some o/\o.guard=none/\o.dst=some d/\o.op=.alloc t/\∀e∈o.after,Region.binds .any e=true->l0.getD e.on false=true
 u:l0.getD i true=false
abbrev qg(xs:List CD) (al:List Al):List Nat:=(xs.flatMap λx=>[x.c.i,x.c.j])++al.map λq=>q.i
structure BlT (ops:Array Oper) (l0:Array Bool) (xs:List CD) (al:List Al) (bl:List Nat):Prop where
 all:∀k o,ops[k]?=some o->l0.getD k true=false->k∈qg xs al\/k∈bl
 bl:∀k∈bl,k∉qg xs al/\l0.getD k true=false/\∃o,ops[k]?=some o/\((∀x∈xs,∃e∈o.after,Region.binds .any e=true/\e.on=x.c.j)\/∃e∈o.after,Region.binds .any e=true/\e.on∈bl)
theorem Dp{P:Program}{md:Region.Mode}{ops:Array Oper}{sf sf':Nat->Bool}{R:Act->World->Prop}:∀(n:Nat) (listed:Array Bool) (a:Act) (w:World),(∀i,listed.getD i true=false->sf' i=true->sf i=true) ->
 anyI P md ops sf R n listed a w->anyI P md ops sf' R n listed a w
 | 0,_,_,_,_,h=>h
 | n+1,listed,a,w,hs,h=>⟨h.1,λi hi=>nG (λa' w' hh=>⟨λe=>hh.1 (hs i (mem_ready.1 hi).1 e),Dp n _ a' w' (λk hk=>hs k (by
     by_cases hki:i=k
     .subst hki;rw[Array.getD_eq_getD_getElem?,Array.getElem?_setIfInBounds]at hk;simp only[if_true]at hk;split at hk
      .simp at hk
      .simp at hk
     .rw[getD_set_ne true hki]at hk;exact hk)) hh.2⟩) (h.2 i hi)⟩
theorem Dq{xs:List CD}{al:List Al}:k∈qg xs al↔(∃x∈xs,k=x.c.i\/k=x.c.j)\/∃q∈al,k=q.i:=by
 simp only[qg,zO,List.mem_flatMap,Nw,iV,List.not_mem_nil,or_false];constructor
 .rintro(h | ⟨q,h1,h2⟩)
  .exact .inl h
  .exact .inr ⟨q,h1,h2.symm⟩
 .rintro(h | ⟨q,h1,h2⟩)
  .exact .inl h
  .exact .inr ⟨q,h1,h2.symm⟩
section
variable {P:Program}{cx:Cx}{cz:Bool}{N:Nat}{B:Base}{h0 h:FH}{β:List RV}{s:St}{ops:Array Oper}{xs:List CD}{al:List Al}{bl:List Nat}{l0:Array Bool}{sf:Nat->Bool}{R:Act->World->Prop}{a0:Act}{D:List Nat}{rest:Nat}{cp:Nat->Bool}
theorem ET(hcp:∀j,cp j=true->∃x∈xs,x.c.j=j) (hgd:aB cx.gd h) (o8:WG xs al) (ct:∀x∈xs,X7 ops cp l0 x.c) (co:∀x∈xs,TK P cx ops s x/\x.c.di < N/\x.c.dj < N)
 (at_:∀q∈al,AlT ops l0 q.i q.d q.t/\aS P q.t q.ti/\q.d < N/\dZ s.env q.d=none) (bt:BlT ops l0 xs al bl) (nd:(qg xs al).Nodup)
 (hD:∀x∈xs,dV x.c.di D=true/\dV x.c.dj D=true) (hA:∀q∈al,dV q.d D=true)
 (fin:∀(done:List Nat) (m:Nat) (a:Act) (w:World),done.Nodup->(∀k∈done,k∈qg xs al)->(qg xs al).length=done.length+m->Jm cz N B h0 s h β xs al (bZ done l0) a w->Same D a0 a->(∀x∈xs,x.c.i∈done/\x.c.j∈done)->anyI P .any ops sf R (m+rest) (bZ done l0) a w):
 ∀(m:Nat) (done:List Nat) (a:Act) (w:World),done.Nodup->(∀k∈done,k∈qg xs al)->(qg xs al).length=done.length+m->Jm cz N B h0 s h β xs al (bZ done l0) a w->Same D a0 a->(∃x∈xs,x.c.j∉done)->anyI P .any ops sf R (m+rest) (bZ done l0) a w:=by
 intro m
 induction m with
 | zero=>
   intro done a w dn sub len j sm ⟨x,hx,hj⟩;exfalso;have hsub:(x.c.j :: done).Nodup:=Ry.2 ⟨hj,dn⟩;have:=List.Nodup.length_le_of_subset (l₂:=qg xs al) hsub (λk hk=>by
    rcases iV.1 hk with rfl | hk
    .exact Dq.2 (.inl ⟨x,hx,.inr rfl⟩)
    .exact sub k hk)
   rw[Aq]at this;omega
 | succ m ih=>
   intro done a w dn sub len j sm ⟨x,hx,hj⟩;have pY:∀{a':Act}{d:Nat},dV d D=true->(∃v,a'=a.put (some d) v)->Same D a0 a':=by
    rintro a' d hd ⟨v,rfl⟩ t ht;have hne:d≠t:=by rintro rfl;rw[hd]at ht;cases ht
    rw[<-sm t ht];simp[Act.put,V4 hne]
   have go:∀(i:Nat) (a':Act) (w':World),i∉done->i∈qg xs al->Jm cz N B h0 s h β xs al ((bZ done l0).setIfInBounds i true) a' w'->Same D a0 a'->anyI P .any ops sf R (m+rest) ((bZ done l0).setIfInBounds i true) a' w':=by
    intro i a' w' hi hm j' sm';have dn':(i :: done).Nodup:=Ry.2 ⟨hi,dn⟩;have sub':∀k∈i :: done,k∈qg xs al:=λk hk=>by
     rcases iV.1 hk with rfl | hk
     .exact hm
     .exact sub k hk
    have len':(qg xs al).length=(i :: done).length+m:=by rw[Aq];omega
    by_cases hu:∃y∈xs,y.c.j∉i :: done
    .exact ih (i :: done) a' w' dn' sub' len' j' sm' hu
    .have hall:∀y∈xs,y.c.j∈i :: done:=λy hy=>Classical.byContradiction λh=>hu ⟨y,hy,h⟩
     refine fin (i :: done) m a' w' dn' sub' len' j' sm' λy hy=>⟨?_,hall y hy⟩
     have h1:(bZ (i :: done) l0).getD y.c.i true=true:=j'.ord y hy (nJ (hall y hy) (ct y hy).uj true);refine Classical.byContradiction λhn=>?_
     rw[nI hn (ct y hy).ui]at h1;cases h1
   have e1:m+1+rest=(m+rest)+1:=by omega
   rw[e1];refine⟨λhr=>?_,λi hi=>?_⟩
   .exfalso;have all:∀(n:Nat) (y:CD),y∈xs->y.c.j=n->y.c.j∈done:=by
     intro n
     induction n using Nat.strongRecOn with
     | ind n ihn=>
       intro y hy hn;refine Classical.byContradiction λhj=>?_
       by_cases hi:y.c.i∈done
       .obtain⟨o,k,o1,_,_,_,_,_,_,_,o2⟩:=(ct y hy).ap;have:y.c.j∈Region.ready .any ops (bZ done l0):=mem_ready.2 ⟨nI hj (ct y hy).uj,o,o1,λe he hb=>by
         rcases o2 e he hb with h1 | h1 | ⟨h1,h2⟩
         .rw[h1];exact nJ hi (ct y hy).ui false
         .exact Bd h1
         .obtain⟨z,hz,ez⟩:=hcp _ h2;rw[<-ez];exact nJ (ihn z.c.j (by omega) z hz rfl) (ct z hz).uj false⟩
        rw[hr]at this;cases this
       .obtain⟨o,o1,_,_,_,o2⟩:=(ct y hy).bs;have:y.c.i∈Region.ready .any ops (bZ done l0):=mem_ready.2 ⟨nI hi (ct y hy).ui,o,o1,λe he hb=>Bd (o2 e he hb)⟩
        rw[hr]at this;cases this
    exact hj (all _ x hx rfl)
   .obtain⟨i1,o,i2,i3⟩:=mem_ready.1 hi;obtain⟨i4,i5⟩:=yU i1;have hmk:i∈qg xs al:=by
     rcases bt.all i o i2 i4 with h1 | h1
     .exact h1
     .exfalso;obtain⟨b1,b2,o',b3,b4⟩:=bt.bl i h1;rw[i2]at b3;cases b3;rcases b4 with b4 | ⟨e,he,hb,hm⟩
      .obtain⟨e,he,hb,hm⟩:=b4 x hx;have:=i3 e he hb;rw[hm,kQ (nI hj (ct x hx).uj)]at this;cases this
      .have:=i3 e he hb;obtain⟨b5,b6,_⟩:=bt.bl e.on hm;rw[kQ (nI (λhh=>b5 (sub _ hh)) b6)]at this;cases this
    rcases Dq.1 hmk with⟨y,hy,rfl | rfl⟩ | ⟨q,hq,rfl⟩
    .obtain⟨c1,c2,c3⟩:=co y hy;exact nG (λa' w' hh=>⟨λ_=>hh.1,go _ a' w' i5 hmk hh.2.2 (pY (hD y hy).1 hh.2.1)⟩) (j.bs o8 hy c1 c2 i1)
    .obtain⟨c1,c2,c3⟩:=co y hy;obtain⟨o',k,o1,_,_,_,_,_,_,⟨e,he,hb,hm⟩,_⟩:=(ct y hy).ap;rw[i2]at o1;cases o1;have hl:(bZ done l0).getD y.c.i true=true:=by
      have h1:=i3 e he hb;rw[hm]at h1;rw[Array.getD_eq_getD_getElem?,JI h1];rfl
     exact nG (λa' w' hh=>⟨λ_=>hh.1,go _ a' w' i5 hmk hh.2.2 (pY (hD y hy).2 hh.2.1)⟩) (j.ap hgd o8 hy c1 c3 hl i1)
    .obtain⟨⟨⟨o',o1,o2,o3,o4,o5⟩,u⟩,a2,a3,a4⟩:=at_ q hq;exact nG (λa' w' hh=>⟨λ_=>hh.1,go _ a' w' i5 hmk hh.2.2 (pY (hA q hq) hh.2.1)⟩) (j.new o8 hq o1 o2 o3 o4 a2 a3 a4)
theorem Jm.start(ah:Sat N B h0 s h β w a) (ct:∀x∈xs,X7 ops cp l0 x.c) (at_:∀q∈al,AlT ops l0 q.i q.d q.t):Jm cz N B h0 s h β xs al l0 a w:=by
 refine⟨ah,⟨λ_=>0,λx hx=>⟨λh1=>?_,λh1=>?_⟩,λq hq h1=>?_⟩,λx hx h1=>?_⟩
 .rw[(ct x hx).ui]at h1;cases h1
 .rw[(ct x hx).uj]at h1;cases h1
 .rw[(at_ q hq).u]at h1;cases h1
 .rw[(ct x hx).uj]at h1;cases h1
theorem Jm.fin{done:List Nat} (j:Jm cz N B h0 s h β xs al (bZ done l0) a w) (o8:WG xs al) (nd:(xs.map λx=>x.c.j).Nodup) (ct:∀x∈xs,X7 ops cp l0 x.c) (at_:∀q∈al,AlT ops l0 q.i q.d q.t)
 (hn:∀x∈xs,x.c.dj < N) (hd:∀x∈xs,x.c.i∈done/\x.c.j∈done):
 ∃β',Sat N B h0 (wM xs s) h β' w a/\∀q∈al,q.i∈done->q.d < N->∃β2,Sat N B h0 (alS (wM xs s) q.d (oh cz q.t q.ti)) h β2 w a:=by
 obtain⟨own,f1,f2⟩:=j.own;obtain⟨β',aH,fr⟩:=ES (own:=own) xs j.ah (λx hx=>by
  obtain⟨v,e1,e2,e3⟩:=(f1 x hx).2 (nJ (hd x hx).2 (ct x hx).uj true);exact⟨v,e1,hn x hx,e2,e3⟩) nd
 refine⟨β',aH,λq hq hqd hqn=>?_⟩
 obtain⟨g,e1,e2,e3,e4⟩:=f2 q hq (nJ hqd (at_ q hq).u true);refine⟨_,X6 aH hqn e1 e2 (fr g e3 ?_)⟩;rw[e4];intro hh;obtain⟨x,hx,hh⟩:=Nw.1 hh;exact(o8.ca x hx q hq).1.2 hh
end
def Wd(F:Fence):Prop:=F=Fence.wide\/∃l,F=Fence.wide.inRound l
theorem Wd.fn{F:Fence} (h:Wd F) (f:FuncId):F.fn f:=by rcases h with rfl | ⟨l,rfl⟩<;>trivial
theorem Wd.depth{F:Fence} (h:Wd F):F.depth=none:=by rcases h with rfl | ⟨l,rfl⟩<;>rfl
theorem Wd.calls{F:Fence} (hF:Wd F){f:FuncId}{args:Array Value}{R:Ending->World->Prop} (h:Calls P f args w R):CallsIn F n P f args w R:=by
 rcases hF with rfl | ⟨l,rfl⟩
 .exact callsIn_wide.2 h
 .exact(callsIn_wide.2 h:CallsIn Fence.wide n P f args w R).inRound l
abbrev Dt:Op->Bool
 | .defer _=>false
 | _=>true
abbrev wX:List Oper->Bool
 | []=>true
 | o :: l=>bJ (Dt o.op) (wX l)
section
variable {F:Fence}{n:Nat}{P:Program}{ops:Array Oper}{md:Region.Mode}
theorem EU(hF:Wd F) (hd:Dt o.op=true){Nx:Act->World->Prop}{Q Q':Exit->Act->World->Prop} (h:o.wp P a w Nx CX):o.wpIn F n P a w Nx Q':=by
 refine⟨λf _=>hF.fn f,?_⟩
 rw[Oper.semAt_eq _ _ _ (λc hc=>by rw[hc]at hd;cases hd)]
 unfold Oper.wp at h;generalize (execOp a.eval o).run P w=r at *;cases r with
 | ok m w'=>
   cases m<;>simp only[Oper.upon]at h<;>simp only[Oper.uponIn]
   case enter f args=>
    refine⟨λhh=>(by rw[hF.depth]at hh;cases hh),hF.calls (h.mono λe w'' he=>?_)⟩
    cases e with
    | returned v=>exact he
    | panicked c=>exact False.elim he
    | outgrown=>exact sG he
   case row row args=>
    refine⟨λhh=>(by rw[hF.depth]at hh;cases hh),λc cs _=>?_⟩
    obtain⟨v,w'',hr,hs⟩:=h c cs;refine⟨v,w'',hr,?_⟩;have:StepsIn (Machine.fenced P Fence.wide) P (lone (Frame.ofRow P row args .normal) (c :: cs) w') (lone (c.finish v) cs w''):=stepsIn_wide.2 hs;rcases hF with rfl | ⟨l,rfl⟩
    .exact this
    .exact this
   all_goals first | exact h | exact h.elim
 | halt x w'=>cases x<;>simp only[Oper.upon]at h<;>first | exact h.elim | exact False.elim h
def TL(P:Program) (ops:Array Oper) (R:Act->World->Prop):List Oper->Act->World->Prop
 | [],a,w=>R a w
 | o :: rest,a,w=>if Region.wanted o (yielded ops a.tmps)=true then o.wp P a w (TL P ops R rest) CX else TL P ops R rest (a.put o.dst undef) w
theorem Hz(hF:Wd F){R:Act->World->Prop}{Q:Exit->Act->World->Prop} (hR:∀a w,R a w->Q .normal a w):∀(l:List Oper) (k:Nat) (a:Act) (w:World),(∀j,l[j]?=ops[k+j]?)->wX l=true->TL P ops R l a w ->
 wpOpsIn F n P ops Q (List.range' k l.length) a w
 | [],k,a,w,_,_,h=>hR _ _ h
 | o :: l,k,a,w,hl,hn,h=>by
   have h0:ops[k]?=some o:=by simpa using(hl 0).symm
   simp only[wX,au,A8]at hn;have ih:∀a w,TL P ops R l a w->wpOpsIn F n P ops Q (List.range' (k+1) l.length) a w:=λa w=>Hz hF hR l (k+1) a w (λj=>by have:=hl (j+1);simpa[Rz,ND 1 j]using this) hn.2
   simp only[Aq,List.range'_succ,wpOpsIn,h0];unfold TL at h;split
   .rename_i hw;rw[if_pos hw]at h;exact Oper.wpIn_mono ih (EU (Q:=Q) hF hn.1 h)
   .rename_i hw;rw[if_neg hw]at h;exact⟨λf _=>hF.fn f,ih _ _ h⟩
theorem HY(hF:Wd F){R:Act->World->Prop} (hR:∀a w,R a w->Q .normal a w){id:Nat} (hn:wX ops.toList=true) (h:TL P ops R ops.toList a w):(Code.region id ops false).wpIn F n P Q a w:=
 wpIn_region (by
  have:=Hz (n:=n) hF hR ops.toList 0 a w (λj=>by simp) hn h
  rw[List.range_eq_range'];simpa using this)
theorem yV(hn:wX ops.toList=true) (h:ops[i]?=some o):Dt o.op=true:=by
 have key:∀{l:List Oper},wX l=true->o∈l->Dt o.op=true:=by
  intro l
  induction l with
  | nil=>intro _ hm;cases hm
  | cons x l ih=>
    intro hh hm;simp only[wX,au,A8]at hh;rcases iV.1 hm with rfl | hm
    .exact hh.1
    .exact ih hh.2 hm
 exact key hn (lI (i:=i) (by simpa using h))
theorem X8(hF:Wd F) (hn:wX ops.toList=true) (h:qM P ops i K a w):wpOpIn F n P ops Q i K a w:=by
 unfold qM at h;unfold wpOpIn;split
 .rename_i ho;simpa[ho]using h
 .rename_i o ho;simp only[ho]at h;split
  .rename_i hw;rw[if_pos hw]at h;exact EU (Q:=Q) hF (yV hn ho) h
  .rename_i hw;rw[if_neg hw]at h;exact⟨λf _=>hF.fn f,h⟩
theorem xH{sf:Nat->Bool} (hF:Wd F) (hn:wX ops.toList=true){R:Act->World->Prop}{Q:Exit->Act->World->Prop} (hR:∀a w,R a w->Q .normal a w):∀(fuel:Nat) (listed:Array Bool) (a:Act) (w:World),
 anyI P md ops sf R fuel listed a w->wpAnyIn F n P md ops Q fuel listed a w
 | 0,_,_,_,h=>⟨h.1,hR _ _ h.2⟩
 | fuel+1,_,_,_,h=>⟨λe=>hR _ _ (h.1 e),λi hi=>X8 hF hn (nG (λa w hh=>xH hF hn hR fuel _ a w hh.2) (h.2 i hi))⟩
theorem TM(hF:Wd F) (hn:wX ops.toList=true){K:Act->Prop}{K':Act->World->Prop} (hK:∀a,K a->K' a w) (h:stOp P ops w i K a):wpOpIn F n P ops Q i K' a w:=by
 unfold stOp at h;unfold wpOpIn;split
 .rename_i ho;simp only[ho]at h;exact hK _ h
 .rename_i o ho;simp only[ho]at h;split
  .rename_i hw;rw[if_pos hw]at h;exact EU (Q:=Q) hF (yV hn ho) (Oper.wp_of_still hK h)
  .rename_i hw;rw[if_neg hw]at h;exact⟨λf _=>hF.fn f,hK _ h⟩
theorem JJ(hF:Wd F) (hn:wX ops.toList=true){w:World}{R:Act->Prop}{Q:Exit->Act->World->Prop} (hR:∀a,R a->Q .normal a w):∀(fuel:Nat) (listed:Array Bool) (a:Act),
 wpAnyS P md ops w R fuel listed a->wpAnyIn F n P md ops Q fuel listed a w
 | 0,_,_,h=>⟨h.1,hR _ h.2⟩
 | fuel+1,_,_,h=>⟨λe=>hR _ (h.1 e),λi hi=>TM hF hn (λa hh=>JJ hF hn hR fuel _ a hh) (h.2 i hi)⟩
theorem uN(hF:Wd F) (hn:wX ops.toList=true){id:Nat} (hm:P.follows .mixedOrders=true) (hB:Region.lexB .any ops=true)
 (h:wpStill P ops { w with drawn:=w.drawn+1 } (λa'=>Q .normal a' { w with drawn:=w.drawn+1 }) ops.toList a):(Code.region id ops true).wpIn F n P Q a w:=by
 simp only[Region.lexB,A8]at hB;refine wpIn_region_any hm (JJ (R:=λa'=>Q .normal a' { w with drawn:=w.drawn+1 }) hF hn (λ_ h=>h) _ _ _ ?_)
 have:=wpAnyS_lex (md:=.any) hB.1 ops.toList 0 (Array.replicate ops.size false) a (by simp) (by simpa using hB.2) h
 simpa using this
theorem wpIn_loop_ghost{c:Code} (I:Nat->Act->World->Prop) (n₀:Nat) (h₀:I n₀ a w)
 (round:∀m a w,I m a w->c.wpIn F n P (Exit.then (λa' w'=>∃n',n' < m/\I n' a' w') Q) a w):(Code.loop c).wpIn F n P Q a w:=by
 refine wpIn_loop (λa w=>∃m,I m a w) (λa w=>leastOf (λm=>I m a w)) ⟨n₀,h₀⟩ ?_
 intro a w hI;refine wpIn_mono (round _ a w (leastOf_spec hI).1) ?_;intro e a' w' hq;cases e with
 | normal=>
   obtain⟨n',gX,hI'⟩:=hq;exact show(∃m,I m a' w')/\leastOf (λm=>I m a' w') < leastOf (λm=>I m a w) from⟨⟨n',hI'⟩,Nat.lt_of_le_of_lt ((leastOf_spec ⟨n',hI'⟩).2 n' hI') gX⟩
 | exit id=>exact hq
 | goto l=>exact hq
 | ret=>exact hq
 | panic ch=>exact hq
 | outgrown=>exact hq
end
section
variable {P:Program}{ops:Array Oper}{md:Region.Mode}{n:Nat}{sf:Nat->Bool}
def mg(P:Program) (n:Nat) (ops:Array Oper) (i:Nat) (K:Act->World->Prop) (a:Act) (w:World):Prop:=
 match ops[i]? with
 | none=>K a w
 | some o=>if Region.wanted o (yielded ops a.tmps)=true then o.uponIn Fence.wide n P a K CX ((execOp a.eval o).run P w) else K (a.put o.dst undef) w
theorem Bf{K':Act->World->Prop}{Q':Exit->Act->World->Prop} (h:∀a w,K a w->K' a w){r:Result Next} (hh:o.uponIn Fence.wide n P a K CX r):o.uponIn Fence.wide n P a K' Q' r:=by
 cases r with
 | ok x w'=>
   cases x<;>simp only[Oper.uponIn]at hh ⊢
   case enter f args=>
    refine⟨hh.1,hh.2.mono λe w'' he=>?_⟩
    cases e with
    | returned v=>exact h _ _ he
    | panicked c=>exact False.elim he
    | outgrown=>exact sG he
   case row r args=>
    exact⟨hh.1,RowsIn.mono hh.2 λv w'' he=>h _ _ he⟩
   case round l f tmps zS body=>
    refine⟨hh.1,RoundIn.mono hh.2 λe w'' he=>?_⟩
    cases e with
    | returned v=>exact h _ _ he
    | panicked c=>exact False.elim he
    | outgrown=>exact sG he
   all_goals first | exact h _ _ hh | exact hh.elim
 | halt x w'=>cases x<;>simp only[Oper.uponIn]at hh ⊢<;>exact False.elim hh
theorem Bg{K':Act->World->Prop} (h:∀a w,K a w->K' a w) (hh:mg P n ops i K a w):mg P n ops i K' a w:=by
 unfold mg at *;split
 .exact h _ _ (by simpa[*]using hh)
 .rename_i o ho;simp only[ho]at hh;split
  .rename_i hw;rw[if_pos hw]at hh;exact Bf h hh
  .rename_i hw;rw[if_neg hw]at hh;exact h _ _ hh
theorem TN(hn:wX ops.toList=true) (h:mg P n ops i K a w):wpOpIn Fence.wide n P ops Q i K a w:=by
 unfold mg at h;unfold wpOpIn;split
 .rename_i ho;simpa[ho]using h
 .rename_i o ho;simp only[ho]at h;split
  .rename_i hw;rw[if_pos hw]at h;refine⟨λf _=>trivial,?_⟩
   rw[Oper.semAt_eq _ _ _ (λc hc=>by have:=yV hn ho;rw[hc]at this;cases this)]
   exact Bf (λ_ _ hh=>hh) h
  .rename_i hw;rw[if_neg hw]at h;exact⟨λf _=>trivial,h⟩
theorem WH(hn:wX ops.toList=true) (h:qM P ops i K a w):mg P n ops i K a w:=by
 unfold qM at h;unfold mg;split
 .rename_i ho;simpa[ho]using h
 .rename_i o ho;simp only[ho]at h;split
  .rename_i hw;rw[if_pos hw]at h;have h2:=(EU (n:=n) (Q:=CX) (Q':=CX) (.inl rfl:Wd Fence.wide) (yV hn ho) h).2
   rwa [Oper.semAt_eq _ _ _ (λc hc=>by have:=yV hn ho;rw[hc]at this;cases this)]at h2
  .rename_i hw;rw[if_neg hw]at h;exact h
def Du(P:Program) (n:Nat) (md:Region.Mode) (ops:Array Oper) (sf:Nat->Bool) (R:Act->World->Prop):Nat->Array Bool->Act->World->Prop
 | 0,listed,a,w=>Region.ready md ops listed=[]/\R a w
 | fuel+1,listed,a,w=>(Region.ready md ops listed=[]->R a w) /\
   ∀i∈Region.ready md ops listed,mg P n ops i (λa' w'=>(sf i=true->jf w w')/\Du P n md ops sf R fuel (listed.setIfInBounds i true) a' w') a w
theorem JK(hn:wX ops.toList=true){R:Act->World->Prop}{Q:Exit->Act->World->Prop} (hR:∀a w,R a w->Q .normal a w):∀(fuel:Nat) (listed:Array Bool) (a:Act) (w:World),
 Du P n md ops sf R fuel listed a w->wpAnyIn Fence.wide n P md ops Q fuel listed a w
 | 0,_,_,_,h=>⟨h.1,hR _ _ h.2⟩
 | fuel+1,_,_,_,h=>⟨λe=>hR _ _ (h.1 e),λi hi=>TN hn (Bg (λa w hh=>JK hn hR fuel _ a w hh.2) (h.2 i hi))⟩
theorem YI.mg{ld:Bool}{w0:World}{i:Nat}{o:Oper}{v:Value}{a:Act} (hi:ops[i]?=some o) (hy:YI P ops ld w0 o v a){K:Act->World->Prop}{w:World} (hg:ld=true->jf w0 w)
 (h:K (a.put o.dst v) w):mg P n ops i K a w:=by
 unfold Go.lZ.mg;simp only[hi];rcases hy with⟨hw,hv⟩ | ⟨hw,rfl⟩
 .rw[if_pos hw,hv w hg];exact h
 .rw[if_neg (by rw[hw];simp)];exact h
theorem O4{ld:Bool}{w0:World}{oi oj:Oper} (hj:ops[j]?=some oj) (hap:oi.apart ops oj=true)
 (hsi:∀cs b,oi.op≠.select cs b) (hsj:∀cs b,oj.op≠.select cs b)
 (hy:YI P ops ld w0 oi v a) (h:mg P n ops j K (a.put oi.dst v) w):
 mg P n ops j (λa' w'=>YI P ops ld w0 oi v a'/\K (a'.put oi.dst v) w') a w:=by
 obtain⟨h1,h2,h3⟩:=Oper.apart_spec hap;have keep:∀(a:Act),YI P ops ld w0 oi v a->∀u,YI P ops ld w0 oi v (a.put oj.dst u):=λa hy u=>
  hy.of_same (execOp_put oi hsi a oj.dst u h3) (wanted_put oi a oj.dst u h3)
 have keepD:∀d,YI P ops ld w0 oi v { a with defers:=d :: a.defers }:=λd=>hy.of_same rfl rfl
 unfold mg at *;simp only[hj]at *;rw[wanted_put oj a oi.dst v h1]at h;split
 .rename_i hw;rw[if_pos hw]at h;rw[execOp_put oj hsj a oi.dst v h1]at h;generalize (execOp a.eval oj).run P w=r at *;cases r with
  | ok m w'=>
    cases m<;>simp only[Oper.uponIn]at h ⊢
    case value u=>exact⟨keep a hy u,by rw[<-Act.put_comm a v u h2];exact h⟩
    case skip=>exact⟨keep a hy _,by rw[<-Act.put_comm a v undef h2];exact h⟩
    case defer d=>
     refine⟨(keep _ (keepD d) _),?_⟩;rw[<-Act.put_comm _ v undef h2,<-Act.put_defers];exact h
    case enter f args=>
     refine⟨h.1,h.2.mono λe w'' he=>?_⟩
     cases e with
     | returned u=>exact⟨keep a hy u,by rw[<-Act.put_comm a v u h2];exact he⟩
     | panicked c=>exact he
     | outgrown=>exact he
    case row r args=>
     refine⟨h.1,RowsIn.mono h.2 λu w'' he=>?_⟩
     exact⟨keep a hy u,by rw[<-Act.put_comm a v u h2];exact he⟩
    case round l f tmps zS body=>
     refine⟨h.1,RoundIn.mono h.2 λe w'' he=>?_⟩
     cases e with
     | returned u=>exact⟨keep a hy u,by rw[<-Act.put_comm a v u h2];exact he⟩
     | panicked c=>exact he
     | outgrown=>exact he
    all_goals exact h
  | halt x w'=>cases x<;>simp only[Oper.uponIn]at h ⊢<;>exact h
 .rename_i hw;rw[if_neg hw]at h;exact⟨keep a hy _,by rw[<-Act.put_comm a v undef h2];exact h⟩
theorem H6{R:Act->World->Prop}{ld:Bool}{w0:World}{oi:Oper}{bl:List Nat} (hi:ops[i]?=some oi) (hsel:∀(j:Nat) (o:Oper) cs b,ops[j]?=some o->o.op≠.select cs b)
 (hq:sf i=true):
 ∀(fuel:Nat) (listed:Array Bool) (a:Act) (w:World),
   (∀j oj,ops[j]?=some oj->j≠i->listed.getD j true=false->(∀e∈oj.after,Region.binds md e=true->e.on≠i)->oi.apart ops oj=true) ->
   (ld=true->Waits md ops listed i bl/\∀j,j≠i->listed.getD j true=false->sf j=false->j∈bl) ->
   i∈Region.ready md ops listed->YI P ops ld w0 oi v a->(ld=true->jf w0 w) ->
   Du P n md ops sf R fuel (listed.setIfInBounds i true) (a.put oi.dst v) w->Du P n md ops sf R (fuel+1) listed a w:=by
 intro fuel
 induction fuel with
 | zero=>
   intro listed a w _ _ hr hy hg H;refine⟨λh=>(by rw[h]at hr;cases hr),λj hj=>?_⟩
   by_cases hji:j=i
   .subst hji;exact hy.mg hi hg ⟨λ_=>jf.refl w,H⟩
   .have:=ready_mono hj hji;rw[H.1]at this;cases this
 | succ fuel ih=>
   intro listed a w hfree hbl hr hy hg H;refine⟨λh=>(by rw[h]at hr;cases hr),λj hj=>?_⟩
   by_cases hji:j=i
   .subst hji;exact hy.mg hi hg ⟨λ_=>jf.refl w,H⟩
   .have h1:=H.2 j (ready_mono hj hji);obtain⟨hjun,oj,hoj,hall⟩:=mem_ready.1 hj;have Ol:=(mem_ready.1 hr).1;have hnot:∀e∈oj.after,Region.binds md e=true->e.on≠i:=λe he hb heq=>by
     have h1:=hall e he hb;rw[heq,kQ Ol]at h1;cases h1
    have h2:=O4 hoj (hfree j oj hoj hji hjun hnot) (λcs b=>hsel i oi cs b hi) (λcs b=>hsel j oj cs b hoj) hy h1
    have hfree':∀k ok,ops[k]?=some ok->k≠i->(listed.setIfInBounds j true).getD k true=false ->
     (∀e∈ok.after,Region.binds md e=true->e.on≠i)->oi.apart ops ok=true:=λk ok hk hki hun hno=>by
     refine hfree k ok hk hki ?_ hno
     by_cases kJ:j=k
     .subst kJ;exact hjun
     .rw[getD_set_ne true kJ]at hun;exact hun
    have Om:ld=true->j∉bl:=λe hm=>AX Ol (hbl e).1 hm hj
    have hsj:ld=true->sf j=true:=λe=>by
     cases hs:sf j with
     | true=>rfl
     | false=>exact absurd ((hbl e).2 j hji hjun hs) (Om e)
    have XB:ld=true->Waits md ops (listed.setIfInBounds j true) i bl/\∀k,k≠i->(listed.setIfInBounds j true).getD k true=false->sf k=false->k∈bl:=λe=>by
     refine⟨λk hk=>?_,λk hki hun hs=>?_⟩
     .obtain⟨g1,g2⟩:=(hbl e).1 k hk;refine⟨?_,g2⟩;rw[getD_set_ne true (λhh=>Om e (by rw[hh];exact hk))];exact g1
     .refine(hbl e).2 k hki ?_ hs
      by_cases kJ:j=k
      .subst kJ;exact hjun
      .rw[getD_set_ne true kJ]at hun;exact hun
    refine Bg (λa' w' h3=>⟨h3.2.1,ih (listed.setIfInBounds j true) a' w' hfree' XB (ready_mono hr (Ne.symm hji)) h3.1 (λe=>(hg e).trans (h3.2.1 (hsj e))) ?_⟩) h2
    rw[Array.setIfInBounds_comm _ _ hji];exact h3.2.2
end
end Go.lZ
