/- Part 3 of the proof. Conditions: the rows'. -/
import Derived.Test.YtaagmchgokmdgaaGreatDoorB2
import Derived.LoopNIn
import Derived.Deep.LoopGhost
set_option linter.unusedSimpArgs false
set_option linter.unusedVariables false
set_option maxRecDepth 1000000
set_option maxHeartbeats 8000000
namespace Go.lM
open Go Go.RowKit
variable {h h':FH}{β:List RV}{w w':World}{i j so g off k b n:Nat}{v y:Value}{T:List aC}{r:aC}{t tt ty el:TypeId}{e:Sh}{hs d:List Nat}{cs:List Value}{c:Call}{l:Array Bool}{ops:Array Oper}{P:Program}{o:Oper}{a:Act}{Q:Exit->Act->World->Prop}{K:Act->World->Prop}
abbrev SC.afo(i:Nat):SC->Bool
 | .sub j _=>!Nat.beq i j
 | .jX j _ _ _ _=>!Nat.beq i j
 | _=>true
abbrev rO(i:Nat) (x:SC):SC:=match SC.afo i x with
 | true=>x
 | false=>.junk
abbrev mV(f:SC->SC):SV->SV
 | .c x=>.c (f x)
 | .agg xs=>.agg (dQ f xs)
 | v=>v
abbrev mE(f:SC->SC):aW->aW
 | .one v=>.one (mV f v)
 | .iQ vs=>.iQ (dQ (mV f) vs)
abbrev mR(f:SC->SC):aC->aC
 | .blk t cs=>.blk t (dQ f cs)
 | r=>r
abbrev wM(f:SC->SC):List (Nat×Gd×aW)->List (Nat×Gd×aW)
 | []=>[]
 | (k,g,e) :: l=>(k,g,mE f e) :: wM f l
abbrev mT(f:SC->SC):List (Gd×aC)->List (Gd×aC)
 | []=>[]
 | (g,r) :: l=>(g,mR f r) :: mT f l
theorem Au{R R':SC->Value->Prop}{f:SC->SC} (hR:∀x y,R x y->R' (f x) y):∀{xs:List SC}{ys:List Value},aI (λx y=>R x y/\bZ y) xs ys->aI (λx y=>R' x y/\bZ y) (dQ f xs) ys
 | [],[],_=>trivial
 | _ :: _,_ :: _,⟨a,b⟩=>⟨⟨hR _ _ a.1,a.2⟩,Au hR b⟩
theorem bV.map{β':List RV}{f:SC->SC} (le:h.le h') (hR:∀x y,dG h β x y->dG h' β' (f x) y):∀{x:SV}{y:Value},bV h β x y->bV h' β' (mV f x) y
 | .c _,_,c=>⟨hR _ _ c.1,c.2⟩
 | .agg _,_,⟨ys,e,a⟩=>⟨ys,e,Au hR a⟩
 | .dat s _,_,⟨g,cs,e,r⟩=>⟨g,cs,e,r.mono le s⟩
 | .und,_,c=>c
theorem iO.map{h h':FH}{β β':List RV}{f:SC->SC} (le:h.le h') (hR:∀x y,dG h β x y->dG h' β' (f x) y):∀{x:aW}{y:Value},iO h β x y->iO h' β' (mE f x) y
 | .one _,_,c=>bV.map le hR c
 | .iQ _,_,⟨ys,e,a⟩=>⟨ys,e,go a⟩
where
 go:∀{xs:List SV}{ys:List Value},aI (bV h β) xs ys->aI (bV h' β') (dQ (mV f) xs) ys
  | [],[],_=>trivial
  | _ :: _,_ :: _,⟨a,b⟩=>⟨bV.map le hR a,go b⟩
theorem Holds.map{β':List RV}{f:SC->SC} (le:h.le h') (hR:∀x y,dG h β x y->dG h' β' (f x) y):∀{r:aC}{v:RV},Holds h β w r v->(r.live=true->∀b,v.has b->w'.heap[b]?=w.heap[b]?)->Holds h' β' w' (mR f r) v
 | .blk _ _,.blk b,⟨ys,e,a⟩,k=>⟨ys,by rw[k rfl b (ji.2 rfl)];exact e,Au hR a⟩
 | .row _ _ _,.row v,x,k=>kE.move le x λb hb=>k rfl b (aT.2 hb)
 | .obj _ s _,.blk b,⟨ys,e,r⟩,k=>⟨ys,by rw[k rfl b (ji.2 rfl)];exact e,r.mono le s⟩
 | .deep _ _ _ _ _ _ _ _,.deep _ _,x,k=>dN.move le x (k rfl)
 | .mp k' s l,.row v,x,k=>Holds.move (r:=.mp k' s l) (v:=.row v) (β':=β') (β:=β') le (Ext.refl _) x k
 | .Jd k' s l n,.deep v us,x,k=>Holds.move (r:=.Jd k' s l n) (v:=.deep v us) (β':=β') (β:=β') le (Ext.refl _) x k
 | .it k' s l dn,.blk v,x,k=>Holds.move (r:=.it k' s l dn) (v:=.blk v) (β':=β') (β:=β') le (Ext.refl _) x k
 | .GL _ _ _ _,.row v,x,k=>TlH.move x λb hb=>k rfl b (aT.2 hb)
 | .Dk _ _ _ _,.deep _ _,x,k=>zL.move le x (k rfl)
 | .gone,_,_,_=>trivial
theorem nG(f:SC->SC) (r:aC):(mR f r).live=r.live:=by cases r<;>rfl
theorem SK{f:SC->SC}:∀{l:List (Nat×Gd×aW)}{t:Nat}{G:Gd}{e:aW},fH (wM f l) t=some (G,e)->∃e0,fH l t=some (G,e0)/\e=mE f e0
 | [],_,_,_,h=>by simp[wM,fH]at h
 | (k,g,e0) :: l,t,G,e,h=>by
   simp only[wM]at h;rw[aX]at h ⊢
   split at h
   .rename_i hk;cases h;exact⟨e0,by rw[if_pos hk],rfl⟩
   .rename_i hk;rw[if_neg hk];exact SK h
theorem SL{f:SC->SC}:∀{l:List (Nat×Gd×aW)}{t:Nat}{G:Gd}{e:aW},fH l t=some (G,e)->fH (wM f l) t=some (G,mE f e)
 | [],_,_,_,h=>by simp[fH]at h
 | (k,g,e0) :: l,t,G,e,h=>by
   simp only[wM];rw[aX]at h ⊢
   split at h
   .rename_i hk;cases h;rw[if_pos hk]
   .rename_i hk;rw[if_neg hk];exact SL h
theorem Aw(gl:List Bool) (f:SC->SC):∀{T:List (Gd×aC)},eff gl (mT f T)=(eff gl T).map (mR f)
 | []=>rfl
 | (g,r) :: l=>by
   simp only[mT,eff,Es,Aw gl f (T:=l)]
   congr 1
   cases gv gl g<;>rfl
theorem Az{f:SC->SC}{p:Gd×aC}:∀{T:List (Gd×aC)},p∈mT f T->∃q∈T,q.1=p.1
 | [],h=>by simp[mT]at h
 | (g,r) :: t,h=>by
   simp only[mT,jM]at h;rcases h with rfl | h
   .exact⟨(g,r),by simp,rfl⟩
   .obtain⟨q,h1,h2⟩:=Az h;exact⟨q,by simp[h1],h2⟩
section
variable {cx:Cx}{P:Program}{N:Nat}{B:Base}{h0:FH}{s:St}{h:FH}{β:List RV}{w:World}{a:Act}{o:Oper}{K:St->Prop}
theorem Sat.map(ah:Sat N B h0 s h β w a){f:SC->SC}{T':List (Gd×aC)}{h':FH}{β':List RV}{w':World} (le:h.le h') (hf:∀b,f (.v (.bool b))=.v (.bool b)) (hR:∀x y,dG h β x y->dG h' β' (f x) y)
 (ok:OK B h0 (eff s.gl T') h' β' w') (gT:∀p∈T',qX s.gl.length p.1=true):Sat N B h0 { s with T:=T',env:=wM f s.env } h' β' w' a:=by
 refine⟨ok,?_,?_,ah.defers,ah.sz,?_,gT⟩
 .intro t G e ht;obtain⟨e0,h1,rfl⟩:=SK ht;obtain⟨z,q1,q2,q3⟩:=ah.env t G e0 h1;exact⟨z,q1,λhG=>iO.map le hR (q2 hG),q3⟩
 .intro d i hi;obtain⟨G,b,q1,q2⟩:=ah.gs d i hi;have:=SL (f:=f) q1;simp only[mE,mV,hf]at this;exact⟨G,b,this,q2⟩
 .intro t G e ht;obtain⟨e0,h1,rfl⟩:=SK ht;exact ah.gb t G e0 h1
theorem dA{u v:RV} (hu:β[i]?=some u):(β.set i v)[j]?=if j=i then some v else β[j]?:=by
 by_cases hj:j=i
 .subst hj;rw[if_pos rfl,nX (eU.1 hu).1]
 .rw[if_neg hj,kU (Ne.symm hj)]
theorem JW(h:(!Nat.beq i j)=true):j≠i:=by
 rintro rfl;simp at h
theorem dG.js{us us':Nat->Value}{u:RV} (hu:β[i]?=some u) (hd:u=.deep v us\/u=.row v){x:SC} (c:dG h β x y):dG h (β.set i (.deep v us')) (rO i x) y:=by
 have hsl:u.sl=some v:=by rcases hd with rfl | rfl<;>rfl
 have hbl:u.block=(RV.deep v us').block:=by rcases hd with rfl | rfl<;>rfl
 have nb:∀b,u≠.blk b:=by rcases hd with rfl | rfl<;>intro b e<;>cases e
 unfold rO;split
 .rename_i hf;cases x with
  | v _=>exact c
  | sl _ _=>exact c
  | fp _ _=>exact c
  | one _ _=>exact c
  | abs _=>exact c
  | junk=>trivial
  | own j off=>
    obtain⟨b,e,e'⟩:=c;refine⟨b,?_,e'⟩;rw[dA hu,if_neg]
    .exact e
    .rintro rfl;rw[hu]at e;cases e;exact nb b rfl
  | row j=>
    obtain⟨z,e,e'⟩:=c
    by_cases hj:j=i
    .subst hj;rw[hu]at e;cases e;exact⟨.deep v us',by rw[dA hu,if_pos rfl],by rw[hsl]at e';exact e'⟩
    .exact⟨z,by rw[dA hu,if_neg hj];exact e,e'⟩
  | jh j k sz off=>
    obtain⟨z,g,e,e',e2⟩:=c
    by_cases hj:j=i
    .subst hj;rw[hu]at e;cases e;exact⟨.deep v us',g,by rw[dA hu,if_pos rfl],by rw[<-hbl];exact e',e2⟩
    .exact⟨z,g,by rw[dA hu,if_neg hj];exact e,e',e2⟩
  | sub j k=>
    obtain⟨z,qU,e,e'⟩:=c;exact⟨z,qU,by rw[dA hu,if_neg (JW hf)];exact e,e'⟩
  | jX j k m sz off=>
    obtain⟨z,qU,g,e,e'⟩:=c;exact⟨z,qU,g,by rw[dA hu,if_neg (JW hf)];exact e,e'⟩
 .trivial
theorem OK.JX(ok:OK B h0 T h β w){r':aC}{u v:RV}{f:SC->SC}
 (hT:T[i]?=some r) (hl:r.live=true) (hu:β[i]?=some u){row:Option Nat} (hg:Gb w w' row) (jr:∀k,row=some k->u.has k){X:Nat->Prop}
 (hX:∀b,X b->B.al b/\b < w.heap.size/\(∀o,h b o=none)/\∀(j:Nat) (rj:aC) (vj:RV),j≠i->T[j]?=some rj->rj.live=true->β[j]?=some vj->¬vj.has b)
 (hv:∀b,v.has b->u.has b\/X b\/(w.heap.size<=b/\b < w'.heap.size)) (hC:∀x y,dG h β x y->dG h (β.set i v) (f x) y) (hold:Holds h (β.set i v) w' r' v):
 OK B h0 ((T.map (mR f)).set i r') h (β.set i v) w':=by
 have hi:i < T.length:=(eU.1 hT).1;have hi':i < β.length:=by rw[ok.len];exact hi
 have zM:∀b,u.has b->B.al b/\b < w.heap.size/\∀o,h b o=none:=λb hb=>ok.own i r u b hT hl hu hb
 have nf:∀b,w.heap.size<=b->∀o,h b o=none:=by
  intro b hb o;cases hh:h b o with
  | none=>rfl
  | some x=>have:=kX (ok.hw b o x hh);omega
 have Ro:∀b,v.has b->B.al b/\b < w'.heap.size/\∀o,h b o=none:=by
  intro b hb;rcases hv b hb with hb' | hb' | ⟨h1,h2⟩
  .obtain⟨a1,a2,a3⟩:=zM b hb';exact⟨a1,Gz a2 hg.size,a3⟩
  .obtain⟨a1,a2,a3,_⟩:=hX b hb';exact⟨a1,Gz a2 hg.size,a3⟩
  .exact⟨B.up _ (o9 ok.below.size h1),h2,nf b h1⟩
 have apart:∀j rj vj b,j≠i->T[j]?=some rj->rj.live=true->β[j]?=some vj->vj.has b->v.has b->False:=by
  intro j rj vj b hj ej lj iP hb hb2;rcases hv b hb2 with hb' | hb' | ⟨h1,h2⟩
  .exact hj (ok.inj j i rj r vj u b ej lj hT hl iP hu hb hb')
  .exact(hX b hb').2.2.2 j rj vj hj ej lj iP hb
  .have:=(ok.own j rj vj b ej lj iP hb).2.1;omega
 have get:∀{j:Nat}{rj:aC},j≠i->((T.map (mR f)).set i r')[j]?=some rj->∃r0,T[j]?=some r0/\rj=mR f r0:=by
  intro j rj hj e;rw[kU (Ne.symm hj),Gw]at e;cases hh:T[j]? with
  | none=>rw[hh]at e;cases e
  | some r0=>rw[hh]at e;cases e;exact⟨r0,rfl,rfl⟩
 exact {
  below:=ok.below.grown hg.togrownBy λk e=>(zM k (jr k e)).1
  dr:=o9 ok.dr hg.dr
  len:=by simp[ok.len]
  holds:=by
   intro j rj vj ej iP
   by_cases hj:j=i
   .subst hj;rw[nX (by simpa using hi)]at ej
    rw[nX hi']at iP;cases ej;cases iP;exact hold
   .obtain⟨r0,e0,rfl⟩:=get hj ej;rw[kU (Ne.symm hj)]at iP;refine(ok.holds j r0 vj e0 iP).map (FH.le.refl h) hC λhlj b hb=>hg.block b (ok.own j r0 vj b e0 hlj iP hb).2.1 λe=>hj ?_
    exact ok.inj j i r0 r vj u b e0 hlj hT hl iP hu hb (jr b e.symm)
  own:=by
   intro j rj vj b ej hlj iP hb
   by_cases hj:j=i
   .subst hj;rw[nX hi']at iP;cases iP;exact Ro b hb
   .obtain⟨r0,e0,rfl⟩:=get hj ej;rw[kU (Ne.symm hj)]at iP;obtain⟨a1,a2,a3⟩:=ok.own j r0 vj b e0 (by rw[<-nG f];exact hlj) iP hb
    exact⟨a1,Gz a2 hg.size,a3⟩
  inj:=by
   intro j k r1 r2 u1 u2 b e1 l1 e2 l2 e3 e4 b1 b2
   by_cases hj:j=i<;>by_cases hk:k=i
   .rw[hj,hk]
   .exfalso;subst hj;rw[nX hi']at e3;cases e3;obtain⟨r0,e0,rfl⟩:=get hk e2;rw[kU (Ne.symm hk)]at e4;exact apart k r0 u2 b hk e0 (by rw[<-nG f];exact l2) e4 b2 b1
   .exfalso;subst hk;rw[nX hi']at e4;cases e4;obtain⟨r0,e0,rfl⟩:=get hj e1;rw[kU (Ne.symm hj)]at e3;exact apart j r0 u1 b hj e0 (by rw[<-nG f];exact l1) e3 b1 b2
   .obtain⟨r0,e0,rfl⟩:=get hj e1;obtain⟨r0',e0',rfl⟩:=get hk e2;rw[kU (Ne.symm hj)]at e3;rw[kU (Ne.symm hk)]at e4;exact ok.inj j k r0 r0' u1 u2 b e0 (by rw[<-nG f];exact l1) e0' (by rw[<-nG f];exact l2) e3 e4 b1 b2
  hle:=ok.hle
  hw:=frozen_kept ok.hw hg λk e=>(zM k (jr k e)).2.2
  hg:=ok.hg
  kn:=ok.kept hg λb e=>(ok.holds i r u hT hu).cells hl (jr b e) }
theorem OK.ahJ(ok:OK B h0 T h β w){v:RV}
 (hX:∀b,v.has b->B.al b/\b < w.heap.size/\(∀o,h b o=none)/\∀(j:Nat) (rj:aC) (vj:RV),T[j]?=some rj->rj.live=true->β[j]?=some vj->¬vj.has b) (hold:Holds h (β++[v]) w r v):
 OK B h0 (T++[r]) h (β++[v]) w where
 below:=ok.below
 dr:=ok.dr
 len:=by simp[ok.len]
 holds:=by
  intro i r' v' e e';rcases aj e with⟨hi,e⟩ | ⟨hi,rfl⟩
  .rcases aj e' with⟨_,e'⟩ | ⟨hj,_⟩
   .exact(ok.holds i r' v' e e').move (FH.le.refl h) (Ext.append _ _) λhl b hb=>rfl
   .have:=ok.len;omega
  .rcases aj e' with⟨hj,e'⟩ | ⟨_,rfl⟩
   .have:=ok.len;omega
   .exact hold
 own:=by
  intro i r' v' b e hl e' hb;rcases aj e' with⟨hj,e'⟩ | ⟨hj,rfl⟩
  .rcases aj e with⟨_,e⟩ | ⟨hi,rfl⟩
   .exact ok.own i r' v' b e hl e' hb
   .have:=ok.len;omega
  .obtain⟨h1,h2,h3,_⟩:=hX b hb;exact⟨h1,h2,h3⟩
 inj:=by
  intro i j r1 r2 u v' b ei hl1 ej hl2 eu ev hu hv';have L:=ok.len;rcases aj ei with⟨hi,ei⟩ | ⟨hi,_⟩<;>rcases aj ej with⟨hj,ej⟩ | ⟨hj,_⟩<;>
   rcases aj eu with⟨hi',eu⟩ | ⟨hi',rfl⟩<;>rcases aj ev with⟨hj',ev⟩ | ⟨hj',rfl⟩<;>first
    | omega
    | exact ok.inj i j r1 r2 u v' b ei hl1 ej hl2 eu ev hu hv'
    | exact((hX b hv').2.2.2 i r1 u ei hl1 eu hu).elim
    | exact((hX b hu).2.2.2 j r2 v' ej hl2 ev hv').elim
 hle:=ok.hle
 hw:=ok.hw
 hg:=ok.hg
 kn:=ok.kn
abbrev MW:Nat->Bool:=λ_=>false
def vk:Nat->Value:=λ_=>kY
theorem mG(j:Nat):au (vk j)=none:=rfl
theorem EZ{s:Sh}{l:List s.den} (x:kE h w t s l v):dN h w t s l tt e so MW [] v vk:=by
 refine⟨λj k b hb=>(by rw[mG]at hb;cases hb),λj b hb=>(by rw[mG]at hb;cases hb),?_⟩
 rcases x with x | x | ⟨g,cap,cur,e0,e1,e2,e3,e4,r⟩
 .exact .inl x
 .exact .inr (.inl x)
 .refine .inr (.inr ⟨g,cap,cur,e0,e1,e2,e3,e4,λj=>by rw[mG];simp,λj d hd=>?_⟩)
  obtain⟨g1,g2⟩:=r.get (λ_ _=>Rd.size s) hd
  refine⟨?_,mG j⟩;have hj:=(eU.1 hd).1;have hm:(j+1) * s.size<=l.length * s.size:=vO _ hj;rw[uN]at hm;have e5:List.take s.size (List.drop (j * s.size) (List.take (l.length * s.size) cur.toList))=List.take s.size (List.drop (j * s.size) cur.toList):=by
   apply LK;intro p;simp only[uh,Gv];split
   .rw[if_pos (by omega)]
   .rfl
  rw[e5]at g1;exact g1
abbrev Hu(s:St) (i:Nat) (tt:TypeId) (e:Sh) (so:Nat):St:=match dH s.T i with
 | some ([],.row t sh l)=>{ s with T:=bQ s.T i ([],.deep t sh l tt e so MW []) }
 | _=>s
theorem aaf(r:aC):mR (λx=>x) r=r:=by
 have:∀l:List SC,dQ (λx=>x) l=l:=by
  intro l
  induction l with
  | nil=>rfl
  | cons x l ih=>simp[dQ,ih]
 cases r<;>simp[mR,this]
theorem Sat.Hu(ah:Sat N B h0 s h β w a) (i:Nat) (tt:TypeId) (e:Sh) (so:Nat):∃β',Sat N B h0 (Hu s i tt e so) h β' w a:=by
 unfold lM.Hu;split
 .rename_i t sh l hT;have eF:=bf hT (show gv s.gl []=true from rfl)
  have gY:i < β.length:=by rw[ah.ok.len];exact(eU.1 eF).1
  have hu:=kW gY;have hold:=ah.ok.holds i _ _ eF hu;cases hb:β[i]with
  | blk b=>rw[hb]at hold;cases hold
  | no=>rw[hb]at hold;cases hold
  | deep _ _=>rw[hb]at hold;cases hold
  | row v=>
    rw[hb]at hold hu;have hC:∀x y,dG h β x y->dG h (β.set i (.deep v vk)) x y:=by
     intro x y c;have:=dG.js (us:=vk) (us':=vk) hu (.inr rfl) c;cases x with
     | sub j k=>
       obtain⟨z,qU,e1,e2⟩:=c;refine⟨z,qU,?_,e2⟩;rw[dA hu,if_neg]
       .exact e1
       .rintro rfl;rw[hu]at e1;cases e1
     | jX j k m sz off=>
       obtain⟨z,qU,g,e1,e2⟩:=c;refine⟨z,qU,g,?_,e2⟩;rw[dA hu,if_neg]
       .exact e1
       .rintro rfl;rw[hu]at e1;cases e1
     | _=>exact this
    refine⟨β.set i (.deep v vk),?_,?_,ah.gs,ah.defers,ah.sz,ah.gb,nO ah⟩
    .show OK B h0 (eff s.gl (bQ s.T i ([],.deep t sh l tt e so MW []))) h _ w;rw[uV];have:=ah.ok.JX (f:=λx=>x) (r':=.deep t sh l tt e so MW []) (v:=.deep v vk) (row:=none) (X:=λ_=>False) eF rfl hu (bK w none) (λk e=>by cases e) (λb hb=>hb.elim)
      (λb hb=>by
       rw[aN]at hb;rcases hb with hb | ⟨j,hb⟩
       .exact .inl (aT.2 hb)
       .rw[mG]at hb;cases hb) hC (EZ hold)
     rwa [show(eff s.gl s.T).map (mR λx=>x)=eff s.gl s.T by rw[show(mR λx=>x)=id from funext aaf];simp]at this
    .intro t' G e' ht;obtain⟨z,q1,q2,q3⟩:=ah.env t' G e' ht;refine⟨z,q1,λhG=>?_,q3⟩
     have:=iO.map (f:=λx=>x) (FH.le.refl h) hC (q2 hG)
     have hid:mE (λx=>x) e'=e':=by
      have m1:∀l:List SC,dQ (λx=>x) l=l:=by
       intro l
       induction l with
       | nil=>rfl
       | cons x l ih=>simp[dQ,ih]
      have m2:∀x:SV,mV (λx=>x) x=x:=by intro x;cases x<;>simp[mV,m1]
      cases e' with
      | one x=>simp[mE,m2]
      | iQ xs=>
        have:∀l:List SV,dQ (mV λx=>x) l=l:=by
         intro l
         induction l with
         | nil=>rfl
         | cons x l ih=>simp[dQ,ih,m2]
        simp[mE,this]
     rwa [hid]at this
 .exact⟨β,ah⟩
theorem dN.third{sh:Sh}{l:List sh.den}{own:Nat->Bool}{us:Nat->Value} (D:dN h w t sh l tt e so own hs v us) (hj:j < l.length):
 ∃g cap cur,v=.slice (some ⟨g,0,none⟩) l.length cap/\w.heap[g]?=some (.cells cur t (0,0))/\l.length<=cap/\(1<=cap/\cap<=maxLen) /\
   cur.size=cap * sh.size/\(∀j,au (us j)≠some g)/\∀j d,l[j]?=some d->xK h w sh tt e so (own j) (lC j hs) (us j) ((cur.toList.drop (j * sh.size)).take sh.size) d:=by
 obtain⟨_,_,D⟩:=D;rcases D with⟨_,e0⟩ | ⟨_,_,e0⟩ | D
 .subst e0;simp at hj
 .subst e0;simp at hj
 .exact D
theorem dN.get{sh:Sh}{l:List sh.den}{own:Nat->Bool}{us:Nat->Value} (D:dN h w t sh l tt e so own hs v us){d:sh.den} (hd:l[j]?=some d) (ho:own j=true) (hh:lC j hs=false)
 {x:List e.den} (hx:CU sh d so e=some x):kE h w tt e x (us j):=by
 obtain⟨_,_,_,_,_,_,_,_,_,h6⟩:=D.third (eU.1 hd).1;have h7:=h6 j d hd;rw[ho,hh]at h7;obtain⟨d0,x',_,p,_,rw_⟩:=h7;rw[ED p hx];exact rw_
theorem dN.inner{sh:Sh}{l:List sh.den}{own:Nat->Bool}{us:Nat->Value} (D:dN h w t sh l tt e so own hs v us){d d':sh.den} (hd:l[j]?=some d) (ho:own j=true) (hh:lC j hs=false)
 (fr:∀b,au (us j)≠some b->(∃o,w.heap[b]?=some o)->w'.heap[b]?=w.heap[b]?) (ce:∀b,au (us j)=some b->∃o,w'.heap[b]?=some o/\ours o=true){x':List e.den} (hp:CV sh d so e x'=some d') (hr:kE h w' tt e x' (us j)):dN h w' t sh (l.set j d') tt e so own hs v us:=by
 have hj:=(eU.1 hd).1;obtain⟨g,cap,cur,e0,e1,e2,e3,e4,e5,e6⟩:=D.third hj;obtain⟨D1,D2,_⟩:=D;have fr':∀i b,i≠j->au (us i)=some b->w'.heap[b]?=w.heap[b]?:=by
  intro i b hi hb;obtain⟨_,o,ho,_⟩:=D2 i b hb;exact fr b (λhh=>hi (D1 i j b hb hh)) ⟨o,ho⟩
 refine⟨D1,λi b hb=>?_,.inr (.inr ⟨g,cap,cur,by rw[Eo];exact e0,?_,by rw[Eo];exact e2,e3,e4,e5,λi di hdi=>?_⟩)⟩
 .rw[Eo];obtain⟨q1,o,q2,q3⟩:=D2 i b hb
  by_cases hi:i=j
  .subst hi;exact⟨q1,ce b hb⟩
  .exact⟨q1,o,by rw[fr' i b hi hb];exact q2,q3⟩
 .rw[fr g (e5 j) ⟨_,e1⟩];exact e1
 .by_cases hi:i=j
  .subst hi;rw[nX hj]at hdi;cases hdi;have h7:=e6 i d hd;rw[ho,hh]at h7 ⊢;obtain⟨d0,y,r,p,c,q⟩:=h7;exact⟨d0,x',r,p.trans (EC hp),c,hr⟩
  .rw[kU (Ne.symm hi)]at hdi;exact(e6 i di hdi).move (FH.le.refl h) λb hb=>fr' i b hi hb
theorem dN.write{sh:Sh}{l:List sh.den}{own own':Nat->Bool}{hs':List Nat}{us us':Nat->Value} (D:dN h w t sh l tt e so own hs v us){d d':sh.den} (hd:l[j]?=some d)
 {cap:Nat}{cur:Array Value} (hv:v=.slice (some ⟨g,0,none⟩) l.length cap) (hw:w.heap[g]?=some (.cells cur t (0,0))) (hk:off+k<=sh.size){cs':List Value} (hc:cs'.length=k)
 (same:∀i,i≠j->own' i=own i/\lC i hs'=lC i hs/\us' i=us i) (apart:∀i b,i≠j->au (us i)=some b->au (us' j)≠some b) (bl:∀b,au (us' j)=some b->b≠g/\∃o,w.heap[b]?=some o/\ours o=true)
 (el:∀(w':World) cs,(∀b,b≠g->w'.heap[b]?=w.heap[b]?)->cs.length=sh.size->xK h w sh tt e so (own j) (lC j hs) (us j) cs d->xK h w' sh tt e so (own' j) (lC j hs') (us' j) (cs.take off++cs'++cs.drop (off+k)) d'):
 j * sh.size+off+k<=cur.size/\dN h (w.setRow g (cur.toList.take (j * sh.size+off)++cs'++cur.toList.drop (j * sh.size+off+k)).toArray) t sh (l.set j d') tt e so own' hs' v us':=by
 have hj:=(eU.1 hd).1;obtain⟨g2,cap2,AA,e0,e1,e2,e3,e4,e5,e6⟩:=D.third hj;rw[hv]at e0;have eg:g=g2/\cap=cap2:=by simpa using e0
 obtain⟨rfl,rfl⟩:=eg;rw[hw]at e1;have ec:cur=AA:=by simpa using e1
 subst ec;obtain⟨D1,D2,_⟩:=D;have lc:cur.toList.length=cap * sh.size:=by simpa using e4
 have hm:(j+1) * sh.size<=cap * sh.size:=vO _ (by omega)
 rw[uN]at hm;refine⟨by omega,?_⟩
 generalize hw':w.setRow g (cur.toList.take (j * sh.size+off)++cs'++cur.toList.drop (j * sh.size+off+k)).toArray=w';have fr:∀b,b≠g->w'.heap[b]?=w.heap[b]?:=λb hb=>by rw[<-hw'];exact setRow_other w g b _ hb
 have hg':w'.heap[g]?=some (.cells (cur.toList.take (j * sh.size+off)++cs'++cur.toList.drop (j * sh.size+off+k)).toArray t (0,0)):=by rw[<-hw'];exact setRow_heap w g _ _ t (0,0) hw
 have ne:∀i b,au (us i)=some b->b≠g:=λi b hb hh=>e5 i (by rw[hb,hh])
 refine⟨λi k b h1 h2=>?_,λi b hb=>?_,.inr (.inr ⟨g,cap,_,by rw[Eo];exact hv,hg',by rw[Eo];exact e2,e3,?_,λi hb=>?_,λi di hdi=>?_⟩)⟩
 .by_cases hi:i=j<;>by_cases hk:k=j
  .rw[hi,hk]
  .subst hi;rw[(same k hk).2.2]at h2;exact(apart k b hk h2 h1).elim
  .subst hk;rw[(same i hi).2.2]at h1;exact(apart i b hi h1 h2).elim
  .rw[(same i hi).2.2]at h1;rw[(same k hk).2.2]at h2;exact D1 i k b h1 h2
 .rw[Eo]
  by_cases hi:i=j
  .subst hi;obtain⟨q1,o,q2,q3⟩:=bl b hb;exact⟨hj,o,by rw[fr b q1];exact q2,q3⟩
  .rw[(same i hi).2.2]at hb;obtain⟨q1,o,q2,q3⟩:=D2 i b hb;exact⟨q1,o,by rw[fr b (ne i b hb)];exact q2,q3⟩
 .simp only[CO,kD,mY,yT];omega
 .by_cases hi:i=j
  .subst hi;exact(bl g hb).1 rfl
  .rw[(same i hi).2.2]at hb;exact e5 i hb
 .by_cases hi:i=j
  .subst hi;rw[nX hj]at hdi;cases hdi;have h7:=el w' _ fr (by rw[mY,yT];omega) (e6 i d hd)
   have key:List.take sh.size (List.drop (i * sh.size) (List.take (i * sh.size+off) cur.toList++cs'++List.drop (i * sh.size+off+k) cur.toList))=List.take off (List.take sh.size (List.drop (i * sh.size) cur.toList))++cs'++List.drop (off+k) (List.take sh.size (List.drop (i * sh.size) cur.toList)):=by
    apply LK;intro p;simp only[ZU,uh,Gv,kD,mY,yT,lc,hc]
    repeat' split
    all_goals first | rfl | omega | (congr 1;omega) | (rw[LJ (by omega)]) | (exfalso;omega) | skip
   simp only at key ⊢;rw[key];exact h7
  .rw[kU (Ne.symm hi)]at hdi;obtain⟨q1,q2,q3⟩:=same i hi;rw[q1,q2,q3];have h7:=(e6 i di hdi).move (w':=w') (FH.le.refl h) λb hb=>fr b (ne i b hb)
   have hi2:=(eU.1 hdi).1;have hm2:(i+1) * sh.size<=cap * sh.size:=vO _ (by omega)
   rw[uN]at hm2;have hne:i * sh.size+sh.size<=j * sh.size\/j * sh.size+sh.size<=i * sh.size:=by
    rcases Nat.lt_or_gt_of_ne hi with hh | hh
    .left;have:(i+1) * sh.size<=j * sh.size:=vO _ hh
     rwa [uN]at this
    .right;have:(j+1) * sh.size<=i * sh.size:=vO _ hh
     rwa [uN]at this
   have key:List.take sh.size (List.drop (i * sh.size) (List.take (j * sh.size+off) cur.toList++cs'++List.drop (j * sh.size+off+k) cur.toList))=List.take sh.size (List.drop (i * sh.size) cur.toList):=by
    apply LK;intro p;simp only[ZU,uh,Gv,kD,mY,yT,lc,hc]
    repeat' split
    all_goals first | rfl | omega | (congr 1;omega) | (rw[LJ (by omega)]) | (exfalso;omega) | skip
   simp only at key ⊢;rw[key];exact h7
abbrev oL(us:Nat->Value) (j:Nat):Nat->Value:=λk=>if k=j then kY else us k
theorem dN.open{sh:Sh}{l:List sh.den}{own:Nat->Bool}{us:Nat->Value} (D:dN h w t sh l tt e so own [] v us){d:sh.den} (hd:l[j]?=some d) (ho:own j=true):dN h w t sh l tt e so own [j] v (oL us j):=by
 have hj:=(eU.1 hd).1;obtain⟨g,cap,cur,e0,e1,e2,e3,e4,e5,e6⟩:=D.third hj;obtain⟨D1,D2,_⟩:=D;have sub:∀i b,au (oL us j i)=some b->i≠j/\au (us i)=some b:=by
  intro i b hb;unfold oL at hb;split at hb
  .cases hb
  .rename_i hi;exact⟨hi,hb⟩
 refine⟨λi k b h1 h2=>D1 i k b (sub i b h1).2 (sub k b h2).2,λi b hb=>D2 i b (sub i b hb).2,.inr (.inr ⟨g,cap,cur,e0,e1,e2,e3,e4,λi hb=>e5 i (sub i g hb).2,λi di hdi=>?_⟩)⟩
 have h7:=e6 i di hdi
 by_cases hi:i=j
 .subst hi;rw[ho]at h7;obtain⟨d0,y,r,p,c,q⟩:=h7;have e7:lC i [i]=true:=by simp[lC]
  rw[e7];refine⟨by simp[oL,kY,au],d0,y,r,p,us i,c,?_⟩
  rcases q with⟨e1,_⟩ | ⟨_,e1,_⟩ | ⟨_,_,_,e1,_⟩<;>rw[e1]<;>exact⟨rfl,rfl⟩
 .have e7:lC i [j]=false:=by simp[lC,hi]
  have e8:oL us j i=us i:=by simp[oL,hi]
  rw[e7,e8];exact h7
theorem wO:∀{s:Sh}{so:Nat}{e:Sh}{d0 d d':s.den}{x:List e.den}{off k:Nat}{v:SV},kF s so e d0 x d->off+k<=so\/so+1<=off->vV s d off k v=some d'->∃d0',vV s d0 off k v=some d0'/\kF s so e d0' x d'
 | .sl s,so,e,d0,d,d',x,off,k,v,⟨h1,_,_⟩,hd,h=>by
   exfalso;unfold vV at h;split at h
   .rename_i hh;rw[ay,A8]at hh;have a1:=gI hh.1;have a2:1=k:=gI hh.2;omega
   .cases h
 | .pair a b,so,e,(p0,q0),(p,q),d',x,off,k,v,hp,hd,h=>by
   have gY:so < a.size+b.size:=kF.lt hp;unfold vV at h ⊢
   cases hw:bY (Nat.beq off 0) (Nat.beq (a.size+b.size) k) with
   | true=>
     rw[ay,A8]at hw;have a1:=gI hw.1;have a2:=gI hw.2;omega
   | false=>
     rw[hw]at h;simp only at h ⊢
     cases hle:Nat.ble (off+1) a.size with
     | true=>
       rw[hle]at h;simp only at h ⊢
       have hle:=lK hle;split at h
       .rename_i y hy;cases h;rcases hp with⟨g1,e1,h1⟩ | ⟨g1,e1,h1⟩
        .subst e1;rw[hy];exact⟨_,rfl,.inl ⟨g1,rfl,h1⟩⟩
        .obtain⟨z,hz,h2⟩:=wO h1 hd hy;rw[hz];exact⟨_,rfl,.inr ⟨g1,e1,h2⟩⟩
       .cases h
     | false=>
       rw[hle]at h;simp only at h ⊢
       have hle:=sS hle;split at h
       .rename_i y hy;cases h;rcases hp with⟨g1,e1,h1⟩ | ⟨g1,e1,h1⟩
        .obtain⟨z,hz,h2⟩:=wO h1 (by omega) hy
         rw[hz];exact⟨_,rfl,.inl ⟨g1,e1,h2⟩⟩
        .subst e1;rw[hy];exact⟨_,rfl,.inr ⟨g1,rfl,h1⟩⟩
       .cases h
 | .int _,_,_,_,_,_,_,_,_,_,h,_,_=>h.elim
 | .bool,_,_,_,_,_,_,_,_,_,h,_,_=>h.elim
 | .str,_,_,_,_,_,_,_,_,_,h,_,_=>h.elim
 | .any,_,_,_,_,_,_,_,_,_,h,_,_=>h.elim
 | .unit,_,_,_,_,_,_,_,_,_,h,_,_=>h.elim
 | .arr _ _,_,_,_,_,_,_,_,_,_,h,_,_=>h.elim
theorem set_mid{cs':List Value}{z:Value} (hk:cs'.length=k) (hl:off+k<=cs.length) (hd:off+k<=so\/so+1<=off):
 (cs.set so z).take off++cs'++(cs.set so z).drop (off+k)=(cs.take off++cs'++cs.drop (off+k)).set so z:=by
 apply LK;intro p;simp only[ZU,uh,Gv,kD,mY,yT,List.getElem?_set,Eo,hk]
 repeat' split
 all_goals first | rfl | omega | (congr 1;omega) | (exfalso;omega) | skip
theorem xK.upd{s:Sh}{own hole:Bool}{u:Value}{d d':s.den}{v:SV} (x:xK h w s tt e so own hole u cs d) (qV:off+k<=so\/so+1<=off)
 (hu:vV s d off k v=some d') (c:bV h β v y):∃cs',y.cells=cs'.toArray/\cs'.length=k/\(∀u∈cs',bZ u)/\off+k<=cs.length/\xK h w s tt e so own hole u (cs.take off++cs'++cs.drop (off+k)) d':=by
 have aag:∀{cs':List Value}{z:Value},cs'.length=k->off+k<=cs.length->cs[so]?=some z->(cs.take off++cs'++cs.drop (off+k))[so]?=some z:=by
  intro cs' z hk hl hz;have gY:=(eU.1 hz).1;rcases qV with qV | qV
  .rw[Jh (by simp only[kD,mY];omega),Gv,<-hz]
   congr 1
   simp only[kD,mY];omega
  .rw[QM (by simp only[kD,mY];omega),QM (by simp only[mY];omega),uh,if_pos (by omega)]
   exact hz
 unfold xK at x ⊢;cases hole with
 | false=>
   cases own with
   | false=>
     obtain⟨cs',e1,e2,e3,e4,e5⟩:=lF s hu x.1 c;exact⟨cs',e1,e2,e3,e4,e5,x.2⟩
   | true=>
     obtain⟨d0,z,r,p,cu,q⟩:=x;obtain⟨d0',h1,h2⟩:=wO p qV hu;obtain⟨cs',e1,e2,e3,e4,e5⟩:=lF s h1 r c;rw[Eo]at e4;rw[set_mid e2 e4 qV]at e5;exact⟨cs',e1,e2,e3,e4,d0',z,e5,h2,aag e2 e4 cu,q⟩
 | true=>
   obtain⟨x0,d0,z,r,p,y0,cu,q⟩:=x;obtain⟨d0',h1,h2⟩:=wO p qV hu;obtain⟨cs',e1,e2,e3,e4,e5⟩:=lF s h1 r c;rw[Eo]at e4;rw[set_mid e2 e4 qV]at e5;exact⟨cs',e1,e2,e3,e4,x0,d0',z,e5,h2,y0,aag e2 e4 cu,q⟩
abbrev yJ(own:Nat->Bool) (j:Nat):Nat->Bool:=λk=>cnd (decide (k=j)) true (own k)
abbrev rowOf:SV->Option Nat
 | .c (.row q)=>some q
 | _=>none
abbrev aah(hs:List Nat) (j:Nat) (K:Prop):Prop:=match hs with
 | []=>K
 | [k]=>j=k/\K
 | _=>False
abbrev MX(s:St) (d:Option Nat) (i:TI) (r j sz off:Nat) (tt:TypeId) (sh:Sh) (l:List sh.den) (t2:TypeId) (e:Sh) (so:Nat) (own:Nat->Bool) (hs:List Nat) (v:SV) (K:St->Prop):Prop:=match Nat.beq sz sh.size with
 | false=>False
 | true=>match WS (Nat.ble (off+i.size) so) (Nat.ble (so+1) off) with
   | true=>(j < l.length)/\∀e0:sh.den,l[j]?=some e0->match vV sh e0 off i.size v with
     | some dd=>K ({ s with T:=bQ s.T r ([],.deep tt sh (l.set j dd) t2 e so own hs) }.put d [] (.one .und))
     | none=>False
   | false=>match rowOf v with
     | some q=>match dH s.T q with
       | some ([],.row tq eq x)=>match bY (Nat.beq tq t2) (bY (Nat.beq off so) (Nat.beq i.size 1)) with
         | true=>match iV (.sl eq) x (.sl e) with
           | some x=>(j < l.length)/\aah hs j (∀e0:sh.den,l[j]?=some e0->match CV sh e0 so e x with
             | some dd=>K ({ s with T:=bQ (mT (rO r) (bQ s.T q ([],.gone))) r ([],.deep tt sh (l.set j dd) t2 e so (yJ own j) []),env:=wM (rO r) s.env }.put d [] (.one .und))
             | none=>False)
           | none=>False
         | false=>False
       | _=>False
     | none=>False
abbrev Xg(cx:Cx) (s:St) (d:Option Nat) (t:TypeId) (p x:Operand) (K:St->Prop):Option Prop:=match mQ cx.ti t with
 | none=>none
 | some i=>match bI cx s [] p with
   | some (.one (.c (.jh r j sz off)))=>match dH s.T r with
     | some ([],.deep tt sh l t2 e so own hs)=>match bI cx s [] x with
       | some (.one v)=>some (MX s d i r j sz off tt sh l t2 e so own hs v K)
       | _=>none
     | _=>none
   | some (.one (.c (.jX r j k sz off)))=>match dH s.T r with
     | some ([],.deep tt sh l t2 e so own hs)=>match bI cx s [] x with
       | some (.one v)=>some (match Nat.beq sz e.size with
         | false=>False
         | true=>(own j=true/\lC j hs=false/\j < l.length)/\∀d0:sh.den,l[j]?=some d0->match CU sh d0 so e with
           | some xs=>(k < xs.length)/\∀y:e.den,xs[k]?=some y->match vV e y off i.size v with
             | some y'=>match CV sh d0 so e (xs.set k y') with
               | some dd=>K ({ s with T:=bQ s.T r ([],.deep tt sh (l.set j dd) t2 e so own hs) }.put d [] (.one .und))
               | none=>False
             | none=>False
           | none=>False)
       | _=>none
     | _=>none
   | _=>none
theorem kE.write{sh:Sh}{l:List sh.den}{u:Value} (x:kE h w t sh l u){d dd:sh.den} (hg:au u=some g) (hd:l[j]?=some d) (up:∀{cs:List Value},Rd h sh cs d->V5 h sh cs off k y dd):
 ∃cur,w.heap[g]?=some (.cells cur t (0,0))/\j * sh.size+off+k<=cur.size/\y.cells.size=k/\(∀z∈y.cells.toList,bZ z)/\kE h (w.setRow g (cur.toList.take (j * sh.size+off)++y.cells.toList++cur.toList.drop (j * sh.size+off+k)).toArray) t sh (l.set j dd) u:=by
 have hj:=(eU.1 hd).1;rcases x with⟨hv0,_⟩ | ⟨_,hv0,_⟩ | ⟨g',cap,cur,hv0,he,q2,q3,q4,q5⟩
 .subst hv0;simp[au]at hg
 .subst hv0;simp[au]at hg
 .have hgg:g'=g:=by rw[hv0,aO q3.1]at hg;exact VZ hg
  subst hgg;have hm:(j+1) * sh.size<=l.length * sh.size:=vO _ hj;have hm2:l.length * sh.size<=cap * sh.size:=vO _ q2;rw[uN]at hm;obtain⟨g1,g2⟩:=q5.get (λ_ _=>Rd.size sh) hd
  have gl:=Rd.size sh g1;obtain⟨cs',ec,e2,e3,e4,e5⟩:=up g1;rw[gl]at e4;have lc:cur.toList.length=cap * sh.size:=by simpa using q4
  refine⟨cur,he,by omega,by rw[ec];simpa using e2,λz hz=>e3 z (by rw[ec]at hz;simpa using hz),.inr (.inr ⟨g',cap,_,by rw[Eo];exact hv0,setRow_heap w g' _ _ t (0,0) he,by rw[Eo];exact q2,q3,?_,?_⟩)⟩
  .rw[ec];simp only[CO,kD,mY,yT,OL];omega
  .rw[Eo,ec];show eX (Rd h sh) ((List.take (j * sh.size+off) cur.toList++cs'++List.drop (j * sh.size+off+k) cur.toList).take (l.length * sh.size)) (l.set j dd);have e:=eX.set (λ_ _=>Rd.size sh) q5 hj e5
   have key:(List.take (j * sh.size+off) cur.toList++cs'++List.drop (j * sh.size+off+k) cur.toList).take (l.length * sh.size) =
    List.take (j * sh.size) (List.take (l.length * sh.size) cur.toList)++(List.take off (List.take sh.size (List.drop (j * sh.size) (List.take (l.length * sh.size) cur.toList)))++cs'++List.drop (off+k) (List.take sh.size (List.drop (j * sh.size) (List.take (l.length * sh.size) cur.toList))))++List.drop (j * sh.size+sh.size) (List.take (l.length * sh.size) cur.toList):=by
    apply LK;intro p;simp only[ZU,uh,Gv,kD,mY,yT,lc,e2]
    repeat' split
    all_goals first | rfl | omega | (congr 1;omega) | (rw[LJ (by omega)]) | (exfalso;omega) | skip
   rw[key];exact e
theorem take_set{o:Nat} (h:o < cs.length):cs.take o++[y]++cs.drop (o+1)=cs.set o y:=by
 rw[List.set_eq_take_append_cons_drop,if_pos h];simp
theorem SN(hc:bT P cx.ti) (ah:Sat N B h0 s h β w a) (hg:aG cx.gd h) (hd:jC N o.dst=true){p x:Operand} (ho:o.op=.store t p x){q:Prop} (hq:Xg cx s o.dst t p x K=some q) (k:q):
 eG P N B h0 h w a o (gv s.gl []) K:=by
 have tr:gv s.gl []=true:=rfl;unfold Xg at hq;split at hq
 .cases hq
 rename_i i hi;have ti:=hc.get hi;have exec:∀{w':World}{v pv:Value},a.eval x=v->a.eval p=pv->(Instr.storeAt t pv v).run P w=.ok () w'->(execOp a.eval o).run P w=.ok .skip w':=by
  intro w' v pv e1 e2 r;simp only[execOp,ho,e1,e2,Sem.run_bind,r,Result.andThen_ok,Sem.run_pure]
 split at hq
 .rename_i r j sz off hp;obtain⟨⟨v0,g,hb,hgb,ep⟩,_⟩:=aH ah hg tr hp;split at hq
  .rename_i tt sh l t2 e so own hs hT;have eF:=bf hT tr;have hold:=ah.ok.holds r _ _ eF hb;split at hq
   .rename_i v hv;have cv:=aH ah hg tr hv;cases hq
    match v0,hold,hgb,hb with
    | .deep vv us,D,hgb,hb=>
      have D:dN h w tt sh l t2 e so own hs vv us:=D;have hgb:au vv=some g:=hgb;have outer:∀{j:Nat},j < l.length->∃cap cur,vv=.slice (some ⟨g,0,none⟩) l.length cap/\w.heap[g]?=some (.cells cur tt (0,0))/\∀d,l[j]?=some d->xK h w sh t2 e so (own j) (lC j hs) (us j) ((cur.toList.drop (j * sh.size)).take sh.size) d/\(j+1) * sh.size<=cur.size:=by
       intro j hj;obtain⟨g2,cap,cur,e0,e1,e2,e3,e4,e5,e6⟩:=D.third hj;rw[e0,aO e3.1]at hgb;cases hgb;refine⟨cap,cur,e0,e1,λd hd=>⟨e6 j d hd,?_⟩⟩
       rw[e4];exact vO _ (by omega)
      unfold MX at k;split at k
      .cases k
      rename_i hz;have hz:sz=sh.size:=gI hz;split at k
      .rename_i hdis;have hdis:off+i.size<=so\/so+1<=off:=by
        unfold WS at hdis;split at hdis
        .rename_i hh;exact .inl (lK hh)
        .exact .inr (lK hdis)
       obtain⟨hj,k⟩:=k;have k:=k _ (kW hj);split at k
       .rename_i dd hdd;obtain⟨cap,cur,e0,e1,e2⟩:=outer hj;obtain⟨el,hsz⟩:=e2 _ (kW hj);obtain⟨cs',ec,c2,c3,c4,c5⟩:=el.upd hdis hdd cv;rw[uN]at hsz;have hcl:((cur.toList.drop (j * sh.size)).take sh.size).length=sh.size:=by rw[mY,yT,OL];omega
        rw[hcl]at c4;obtain⟨f1,f2⟩:=D.write (own':=own) (hs':=hs) (us':=us) (d':=dd) (cs':=cs') (off:=off) (k:=i.size) (kW hj) e0 e1 c4 c2 (λ_ _=>⟨rfl,rfl,rfl⟩) (λi' b hi' hb' hb2=>hi' (D.1 _ _ b hb' hb2)) (λb hb'=>⟨λhh=>(D.third hj).elim λg2 z=>by
         obtain⟨cap2,AA,f0,_,f3,f4,_,f5,_⟩:=z;rw[f0,aO f4.1]at hgb;cases hgb;exact f5 j (by rw[hb',hh]),(D.2.1 j b hb').2⟩) (λw' cs fr hl ex=>by
         obtain⟨cs2,ec2,_,_,_,ex2⟩:=ex.upd hdis hdd cv;have:cs2=cs':=by rw[ec]at ec2;simpa using ec2.symm
         subst this;refine ex2.move (FH.le.refl h) λb hb'=>fr b λhh=>?_
         obtain⟨g2,cap2,AA,f0,_,_,f4,_,f5,_⟩:=D.third hj;rw[f0,aO f4.1]at hgb;cases hgb;exact f5 j (by rw[hb',hh]))
        have r1:=dS (o:=j * sz+off) (v:=a.eval x) ti e1 (by rw[ec];simpa using c2) (by rw[hz];omega) (by rw[ec];intro u hu;exact c3 u (by simpa using hu))
        refine oI ah (by rw[ho];rfl) hd hT rfl hb hgb ?_ (exec rfl ep r1) k
        rw[ec,hz];exact f2
       .cases k
      .split at k
       .rename_i q hq0;split at k
        .rename_i tq eq x0 hTq;have qL:=bf hTq tr;split at k
         .rename_i hcs;rw[ay,ay,A8,A8]at hcs;have a0:tq=t2:=gI hcs.1;have a1:off=so:=gI hcs.2.1;have a2:i.size=1:=gI hcs.2.2;subst a0;subst a1;split at k
          .rename_i x1 hx1;obtain⟨e1,e2⟩:=l7 hx1;subst e1;simp only at e2;subst e2;obtain⟨hj,k⟩:=k;have hv1:v=.c (.row q):=by
            unfold rowOf at hq0;split at hq0
            .cases hq0;rfl
            .cases hq0
           subst hv1;have hbq:=ah.ok.row_of qL cv.1;have jr:kE h w tq eq x0 (a.eval x):=ah.ok.holds q _ _ qL hbq;have hone:bZ (a.eval x):=cv.2;have hqr:q≠r:=by rintro rfl;rw[qL]at eF;cases eF
           have kk:(∀i',i'≠j->lC i' hs=false)/\∀e0:sh.den,l[j]?=some e0->match CV sh e0 off eq x0 with
            | some dd=>K ({ s with T:=bQ (mT (rO r) (bQ s.T q ([],.gone))) r ([],.deep tt sh (l.set j dd) tq eq off (yJ own j) []),env:=wM (rO r) s.env }.put o.dst [] (.one .und))
            | none=>False:=by
            unfold aah at k;split at k
            .exact⟨λ_ _=>rfl,k⟩
            .exact⟨λi' hi'=>by simp[lC];rw[<-k.1];exact hi',k.2⟩
            .cases k
           obtain⟨lH,k⟩:=kk;have k:=k _ (kW hj);split at k
           .rename_i dd hdd;have hdd:=EC hdd;have hso:=hdd.lt;obtain⟨cap,cur,e0,e1,e2⟩:=outer hj;obtain⟨_,hsz⟩:=e2 _ (kW hj);rw[uN]at hsz;have gne:∀b,au (a.eval x)=some b->∀u,(RV.deep vv us).has u->u≠b:=λb hb1 u hu hh=>hqr (ah.ok.inj q r _ _ _ _ b qL rfl eF rfl hbq hb (aT.2 hb1) (by rw[<-hh];exact hu))
            obtain⟨f1,f2⟩:=D.write (own':=yJ own j) (hs':=[]) (us':=λi'=>if i'=j then a.eval x else us i') (d':=dd) (cs':=[a.eval x]) (off:=off) (k:=1) (kW hj) e0 e1 (by omega) rfl
             (λi' hi'=>⟨by simp[yJ,hi',cnd],by rw[lH i' hi'],by simp[hi']⟩)
             (λi' b hi' hb' hb2=>by
              rw[if_pos rfl]at hb2;exact gne b hb2 b (aN.2 (.inr ⟨i',hb'⟩)) rfl)
             (λb hb'=>by
              rw[if_pos rfl]at hb';exact⟨λhh=>gne b hb' g (aN.2 (.inl hgb)) hh.symm,(ah.ok.holds q _ _ qL hbq).cells rfl (aT.2 hb')⟩)
             (λw' cs fr hl ex=>by
              rw[if_pos rfl,show yJ own j j=true by simp[yJ,cnd],take_set (by omega)]
              have emp:∃d0,Rd h sh (cs.set off kY) d0/\kF sh off eq d0 x0 dd:=by
               unfold xK at ex;cases hh:lC j hs with
               | false=>
                 rw[hh]at ex;cases hoo:own j with
                 | false=>
                   rw[hoo]at ex;obtain⟨d0,hd0⟩:=hdd.ex [];exact⟨d0,hd0.rd ex.1 (nY.nil _ _),hd0.turn hdd⟩
                 | true=>
                   rw[hoo]at ex;obtain⟨d0,z,r0,p0,_,_⟩:=ex;exact⟨d0,r0,p0.trans hdd⟩
               | true=>
                 rw[hh]at ex;obtain⟨_,d0,z,r0,p0,_⟩:=ex;exact⟨d0,r0,p0.trans hdd⟩
              obtain⟨d0,r0,p0⟩:=emp;refine⟨d0,x0,by rw[List.set_set];exact r0,p0,by rw[nX (by omega)],jr.move (FH.le.refl h) λb hb'=>fr b λhh=>gne b hb' g (aN.2 (.inl hgb)) hh.symm⟩)
            have r1:=dS (o:=j * sz+off) (v:=a.eval x) ti e1 (by rw[hone.1,a2];rfl) (by rw[hz,a2];omega) (by rw[hone.1];intro u hu;simp at hu;subst hu;exact hone)
            rw[hone.1,a2,hz]at r1;rw[hz]at ep;have ok1:=ah.ok.forget qL;have hT1:((eff s.gl s.T).set q .gone)[r]?=some (.deep tt sh l tq eq off own hs):=by rw[kU hqr];exact eF
            have ok2:=ok1.JX (f:=rO r) (r':=.deep tt sh (l.set j dd) tq eq off (yJ own j) []) (v:=.deep vv λi'=>if i'=j then a.eval x else us i') (row:=some g) (X:=λb=>au (a.eval x)=some b) hT1 rfl hb (iq w g _) (λk e=>by cases e;exact .inl hgb)
             (λb hb'=>by
              obtain⟨o1,o2,o3⟩:=ah.ok.own q _ _ b qL rfl hbq (aT.2 hb');refine⟨o1,o2,o3,λj' rj vj hj' ej lj iP hbj=>?_⟩
              have hjq:j'≠q:=by
               rintro rfl;rw[nX (eU.1 qL).1]at ej;cases ej;cases lj
              rw[kU (Ne.symm hjq)]at ej;exact hjq (ah.ok.inj j' q _ _ _ _ b ej lj qL rfl iP hbq hbj (aT.2 hb')))
             (λb hb'=>by
              rw[aN]at hb';rcases hb' with hb' | ⟨i',hb'⟩
              .exact .inl (aN.2 (.inl hb'))
              .by_cases hi':i'=j
               .rw[if_pos hi']at hb';exact .inr (.inl hb')
               .rw[if_neg hi']at hb';exact .inl (aN.2 (.inr ⟨i',hb'⟩)))
             (λx y c=>dG.js hb (.inl rfl) c) f2
            refine kN ah k rfl (by rw[ho];rfl) (.inr ⟨exec rfl ep r1,rfl⟩) (FH.le.refl h) ((ah.map (f:=rO r) (T':=bQ (mT (rO r) (bQ s.T q ([],.gone))) r ([],.deep tt sh (l.set j dd) tq eq off (yJ own j) [])) (β':=β.set r (.deep vv λi'=>if i'=j then a.eval x else us i')) (FH.le.refl h) (λ_=>rfl) (λx y c=>dG.js hb (.inl rfl) c) ?_ ?_).put (cZ hd) rfl (λ_=>rfl) λhh=>by cases hh)
            .rw[dY,Aw,dY];exact ok2
            .intro p' hp';rw[dM]at hp';rcases LH hp' with hp' | hp'
             .obtain⟨p2,h1,h2⟩:=Az hp';rw[<-h2];exact nO ah p2 h1
             .subst hp';rfl
           .cases k
          .cases k
         .cases k
        .cases k
       .cases k
   .cases hq
  .cases hq
 .rename_i r j k0 sz off hp;obtain⟨⟨vv,us,g,hb,hgb,ep⟩,_⟩:=aH ah hg tr hp;split at hq
  .rename_i tt sh l t2 e so own hs hT;have eF:=bf hT tr;have D:dN h w tt sh l t2 e so own hs vv us:=ah.ok.holds r _ _ eF hb;split at hq
   .rename_i v hv;have cv:=aH ah hg tr hv;cases hq;split at k
    .cases k
    rename_i hz;have hz:sz=e.size:=gI hz;obtain⟨⟨o1,o2,o3⟩,k⟩:=k;have hdj:=kW o3;have k:=k _ hdj;split at k
    .rename_i xs hxs;obtain⟨hk,k⟩:=k;have k:=k _ (kW hk);split at k
     .rename_i y' hy';split at k
      .rename_i dd hdd;have jr:=D.get hdj o1 o2 hxs;obtain⟨cur,he,f1,f2,f3,f4⟩:=jr.write hgb (kW hk) (λhr=>lF e hy' hr cv)
       have r1:=dS (o:=k0 * sz+off) (v:=a.eval x) ti he f2 (by rw[hz];omega) f3
       rw[hz]at ep r1;have D':=D.inner (w':=w.setRow g (cur.toList.take (k0 * e.size+off)++(a.eval x).cells.toList++cur.toList.drop (k0 * e.size+off+i.size)).toArray) hdj o1 o2 (λb hb' _=>setRow_other w g b _ λhh=>hb' (by rw[hh];exact hgb)) (λb hb'=>by
        rw[hgb]at hb';cases hb';exact⟨_,setRow_heap w g _ _ t2 (0,0) he,rfl⟩) hdd f4
       have ok:OK B h0 (eff s.gl (bQ s.T r ([],.deep tt sh (l.set j dd) t2 e so own hs))) h β (w.setRow g (cur.toList.take (k0 * e.size+off)++(a.eval x).cells.toList++cur.toList.drop (k0 * e.size+off+i.size)).toArray):=by
        rw[uV];have:=ah.ok.upd (r':=.deep tt sh (l.set j dd) t2 e so own hs) (v:=.deep vv us) eF rfl hb (row:=some g) (iq w g _) (λk e=>by cases e;exact aN.2 (.inr ⟨j,hgb⟩)) (λb hb=>.inl hb) (.inl rfl) (by rw[iF hb];exact D')
        rwa [iF hb]at this
       exact kN ah k rfl (by rw[ho];rfl) (.inr ⟨exec rfl ep r1,rfl⟩) (FH.le.refl h) ((ah.mem ok (FH.le.refl h) (Ext.refl β) (nO ah)).put (cZ hd) rfl (λ_=>rfl) λhh=>by cases hh)
      .cases k
     .cases k
    .cases k
   .cases hq
  .cases hq
 .cases hq
abbrev MZ(s:St) (x:Operand) (K:St->Prop):Option Prop:=match x with
 | .tmp t=>match fH s.env t with
   | some ([],.one (.c (.sub r j)))=>match dH s.T r with
     | some ([],.deep tt sh l t2 e so own [])=>some ((own j=true/\j < l.length)/\∀d:sh.den,l[j]?=some d->match CU sh d so e with
       | some x=>K { s with T:=snoc (bQ (mT (rO r) s.T) r ([],.deep tt sh l t2 e so own [j])) ([],.row t2 e x),env:=(t,[],.one (.c (.row (aJ s.T)))) :: wM (rO r) s.env,gs:=WL s.gs t }
       | none=>False)
     | _=>none
   | _=>none
 | _=>none
theorem Xh(ah:Sat N B h0 s h β w a){x:Operand}{q:Prop} (hq:MZ s x K=some q) (k:q):∃s' β',K s'/\Sat N B h0 s' h β' w a/\s'.gl=s.gl:=by
 have tr:gv s.gl []=true:=rfl;unfold MZ at hq;split at hq
 .rename_i t;split at hq
  .rename_i r j hlk;split at hq
   .rename_i tt sh l t2 e so own hT;cases hq;have eF:=bf hT tr;obtain⟨⟨o1,o2⟩,k⟩:=k;have hdj:=kW o2;have k:=k _ hdj;split at k
    .rename_i xs hxs;obtain⟨z,z1,z2,_⟩:=ah.env t [] _ hlk;obtain⟨⟨vv,us,hb,hus⟩,hone⟩:bV h β (.c (.sub r j)) z:=z2 rfl;have D:dN h w tt sh l t2 e so own [] vv us:=ah.ok.holds r _ _ eF hb;have jr:=D.get hdj o1 rfl hxs;have ok2:=ah.ok.JX (f:=rO r) (r':=.deep tt sh l t2 e so own [j]) (v:=.deep vv (oL us j)) (row:=none) (X:=λ_=>False) eF rfl hb (bK w none) (λk e=>by cases e) (λb hb=>hb.elim)
      (λb hb'=>by
       rw[aN]at hb';rcases hb' with hb' | ⟨i',hb'⟩
       .exact .inl (aN.2 (.inl hb'))
       .unfold oL at hb';split at hb'
        .cases hb'
        .exact .inl (aN.2 (.inr ⟨i',hb'⟩)))
      (λx y c=>dG.js hb (.inl rfl) c) (D.open hdj o1)
     have ok3:=ok2.ahJ (r:=.row t2 e xs) (v:=.row z) (λb hb'=>by
      rw[aT]at hb';rw[<-hus]at hb';have hu:(RV.deep vv us).has b:=aN.2 (.inr ⟨j,hb'⟩);obtain⟨p1,p2,p3⟩:=ah.ok.own r _ _ b eF rfl hb hu;refine⟨p1,p2,p3,λj' rj vj ej lj iP hbj=>?_⟩
      by_cases hj':j'=r
      .subst hj';rw[nX (by have:=(eU.1 hb).1;exact this)]at iP
       cases iP;rw[aN]at hbj;rcases hbj with hbj | ⟨i',hbj⟩
       .obtain⟨g,cap,cur,e0,_,_,e3,_,e5,_⟩:=D.third o2;rw[e0,aO (n:=l.length) e3.1]at hbj;cases hbj;exact e5 j hb'
       .unfold oL at hbj;split at hbj
        .cases hbj
        .rename_i hi';exact hi' (D.1 i' j b hbj hb')
      .rw[kU (Ne.symm hj')]at iP;rw[kU (Ne.symm hj'),Gw]at ej;cases hh:(eff s.gl s.T)[j']? with
       | none=>rw[hh]at ej;cases ej
       | some r0=>
         rw[hh]at ej;cases ej;exact hj' (ah.ok.inj j' r _ _ _ _ b hh (by rw[<-nG (rO r)];exact lj) eF rfl iP hb hbj hu)) (by rw[<-hus];exact jr)
     have hlen:aJ s.T=(β.set r (.deep vv (oL us j))).length:=by rw[Eo,ah.ok.len,fO,aV]
     refine⟨_,(β.set r (.deep vv (oL us j)))++[.row z],k,?_,rfl⟩;have hC:∀x y,dG h β x y->dG h ((β.set r (.deep vv (oL us j)))++[.row z]) (rO r x) y:=λx y c=>(dG.js hb (.inl rfl) c).mono (FH.le.refl h) (Ext.append _ _)
     have sm:=ah.map (f:=rO r) (T':=snoc (bQ (mT (rO r) s.T) r ([],.deep tt sh l t2 e so own [j])) ([],.row t2 e xs)) (h':=h) (β':=(β.set r (.deep vv (oL us j)))++[.row z]) (w':=w) (FH.le.refl h) (λ_=>rfl) hC (by
      rw[fJ,dY,Aw];exact ok3) (λp hp=>by
      rw[fM,Cj]at hp;rcases hp with hp | hp
      .rw[dM]at hp;rcases LH hp with hp | hp
       .obtain⟨p2,h1,h2⟩:=Az hp;rw[<-h2];exact ah.gT p2 h1
       .subst hp;rfl
      .simp at hp;subst hp;rfl)
     refine⟨sm.ok,?_,?_,sm.defers,sm.sz,?_,sm.gT⟩
     .intro t' G e' ht;rw[aX]at ht;split at ht
      .rename_i hkt;subst hkt;cases ht;refine⟨z,z1,λ_=>⟨⟨.row z,?_,rfl⟩,hone⟩,λhh=>by cases hh⟩
       rw[hlen];simp
      .exact sm.env t' G e' ht
     .intro d i hi;obtain⟨hne,hi⟩:=xM _ _ _ _ hi;obtain⟨G,b,q1,q2⟩:=sm.gs d i hi;exact⟨G,b,by rw[aX,if_neg (Ne.symm hne)];exact q1,q2⟩
     .intro t' G e' ht;rw[aX]at ht;split at ht
      .cases ht;rfl
      .exact sm.gb _ _ _ ht
    .cases k
   .cases hq
  .cases hq
 .cases hq
abbrev SX(s:St) (i j:Nat):List SV->(List SV->Prop)->Prop
 | [],K=>K []
 | .c (.sub i' k) :: l,K=>match Nat.beq i i' with
   | true=>k≠j/\Pm s [] i' k λe x=>SX s i j l λr=>K (.c (.sl e x) :: r)
   | false=>False
 | v :: l,K=>match noRow v with
   | true=>match WZ s [] v with
     | some v'=>SX s i j l λr=>K (v' :: r)
     | none=>False
   | false=>False
abbrev abo(cx:Cx) (ip:IP) (s:St) (d:Option Nat) (args:List Operand) (K:St->Prop):Prop:=match args with
 | []=>False
 | x :: r=>match bI cx s [] x with
   | some (.one (.c (.sub i j)))=>match dH s.T i with
     | some ([],.deep tt sh l t2 e so own hs)=>match bY (pG e ip.sh) (bY (iw ip.sh) (!ip.back)) with
       | false=>False
       | true=>match oJ cx s [] r with
         | none=>False
         | some vs=>(own j=true/\lC j hs=false/\j < l.length)/\∀d0:sh.den,l[j]?=some d0->match CU sh d0 so ip.sh with
           | none=>False
           | some xs=>SX s i j vs λbs=>match uX ip.ps bs with
             | none=>False
             | some dd=>ip.pre xs dd/\match CV sh d0 so ip.sh (ip.res xs dd) with
               | some d1=>K ({ s with T:=bQ s.T i ([],.deep tt sh (l.set j d1) t2 e so own hs) }.put d [] (.iQ []))
               | none=>False
     | _=>False
   | _=>False
open Classical in
noncomputable def FH.but (w:World) (u:Value):FH:=λb o=>if au u=some b then none else vis w b o
theorem abp(ah:Sat N B h0 s h β w a){vv:Value}{us:Nat->Value} (hT:(eff s.gl s.T)[i]?=some r) (hl:r.live=true) (hb:β[i]?=some (.deep vv us)):h.le (FH.but w (us j)):=by
 intro b o v hv;unfold FH.but;rw[if_neg]
 .exact ah.ok.hw b o v hv
 .intro hh;rw[(ah.ok.own i r _ b hT hl hb (aN.2 (.inr ⟨j,hh⟩))).2.2 o]at hv;cases hv
theorem E5(ah:Sat N B h0 s h β w a){i j:Nat}{vv:Value}{us:Nat->Value} (hb:β[i]?=some (.deep vv us)) (inj:∀j k b,au (us j)=some b->au (us k)=some b->j=k) (le:h.le (FH.but w (us j))):
 ∀{vs:List SV}{ys:List Value}{K:List SV->Prop},aI (bV h β) vs ys->SX s i j vs K->∃bs,K bs/\aI (bV (FH.but w (us j)) []) bs ys
 | [],[],K,_,k=>⟨[],k,trivial⟩
 | x :: l,y :: ys,K,⟨c,r⟩,k=>by
   have tr:gv s.gl []=true:=rfl;unfold SX at k;split at k
   .rename_i he;cases he
   .rename_i i' k' l' K' he;cases he;split at k
    .rename_i hi;have hi:=gI hi;subst hi;obtain⟨hk,k⟩:=k;obtain⟨e,xs,k1,k2⟩:=zl ah k;obtain⟨bs,k3,c3⟩:=E5 ah hb inj le r k1;obtain⟨⟨vv2,qU,hb2,rfl⟩,hone⟩:=c;rw[hb]at hb2;cases hb2;obtain⟨tt,jr⟩:=k2 tr vv us hb;refine⟨_,k3,⟨?_,hone⟩,c3⟩;refine jr.sl le λb hb3 o z hz=>?_
     unfold FH.but;rw[if_neg]
     .exact hz
     .exact λhh=>hk (inj _ _ b hb3 hh)
    .cases k
   .rename_i v' l' K' hne he;cases he;split at k
    .rename_i hnr;split at k
     .rename_i v1 hv1;obtain⟨bs,k3,c3⟩:=E5 ah hb inj le r k;exact⟨_,k3,(((MJ ah tr hv1 c).2 hnr).mono le (Ext.refl [])),c3⟩
     .cases k
    .cases k
theorem SY{f:FuncId}{ip:IP} (MN:PL P cx.gd f ip) (hf:∃fn,P.funcs[f]?=some fn/\fn.body.isSome=true/\(fn.name == "runtime.NumGoroutine")=false)
 (ah:Sat N B h0 s h β w a) (hg:aG cx.gd h) (hd:jC N o.dst=true) (ho:o.op=.call c) (bH:c.callee=.value (.func f))
 (k:abo cx ip s o.dst (tl c.args) K):yI P N B h0 h w a o true K:=by
 have tr:gv s.gl []=true:=rfl;unfold abo at k;split at k
 .cases k
 rename_i x r hargs0;split at k
 .rename_i i j hx;split at k
  .rename_i tt sh l t2 e so own hs hT;split at k
   .cases k
   rename_i hck;rw[ay,ay,A8,A8]at hck;have he:e=ip.sh:=ni hck.1;subst he;have hfl:=hck.2.1;have hbk:ip.back=false:=by simpa using hck.2.2
   split at k
   .cases k
   rename_i vs hvs;obtain⟨⟨o1,o2,o3⟩,k⟩:=k;have hdj:=kW o3;have k:=k _ hdj;split at k
   .cases k
   rename_i xs hxs;have eF:=bf hT tr;obtain⟨⟨vv,us,hb,hus⟩,_⟩:bV h β (.c (.sub i j)) (a.eval x):=aH ah hg tr hx;have D:dN h w tt sh l t2 ip.sh so own hs vv us:=ah.ok.holds i _ _ eF hb;have jr:=D.get hdj o1 o2 hxs;have le:h.le (FH.but w (us j)):=abp ah eF rfl hb;have hav:=mg ah hg tr hvs;obtain⟨bs,k,cb⟩:=E5 ah hb D.1 le hav k;split at k
   .cases k
   rename_i dd hdd;obtain⟨aS,k⟩:=k;split at k
   .rename_i d1 hd1;intro Nx Q next
    rw[if_pos rfl];obtain⟨fn,hfn,hbody,hname⟩:=hf;have exec:(execOp a.eval o).run P w=.ok (.enter f (c.args.map a.eval)) w:=by
     simp only[execOp,ho,resolve,bH,Act.eval,Deferred.ofValue,invoke,Sem.run_bind,Sem.run_pure,Result.andThen_ok,callFunc,run_program,hfn,hname];simp[hbody];cases hb:fn.body with
     | none=>rw[hb]at hbody;cases hbody
     | some _=>simp
    have hargs:(c.args.map a.eval)=(a.eval x :: r.map a.eval).toArray:=by
     have:c.args=(x :: r).toArray:=by
      cases hc:c.args with
      | mk q=>rw[hc]at hargs0;simp only[tl]at hargs0;rw[hargs0]
     rw[this];simp
    unfold Oper.wp;rw[exec];simp only[Oper.upon];rw[hargs];refine(MN t2 xs dd (a.eval x) _ (FH.but w (us j)) w (λb o u hu=>?_) (hg.mono le) (show Holds (FH.but w (us j)) [] w (.row t2 ip.sh xs) (.row (a.eval x)) by rw[<-hus];exact jr.move le λ_ _=>rfl) (λb hb' o=>?_) (sZ hdd cb) aS).mono ?_
    .unfold FH.but at hu;split at hu
     .cases hu
     .exact hu
    .unfold FH.but;rw[hus,if_pos hb']
    rintro en w' ⟨v',y,rfl,hgr,hv,hold',_,hb2⟩;obtain⟨rfl,rfl⟩:=hb2 hbk;have hrow':kE h w' t2 ip.sh (ip.res xs dd) (us j):=by
     have:=Holds.flat (h':=h) (show tu (.row t2 ip.sh (ip.res xs dd))=true from hfl) hold'
     rw[hus];exact this
    have D':dN h w' tt sh (l.set j d1) t2 ip.sh so own hs vv us:=D.inner hdj o1 o2 (λb hb' hx'=>by
     obtain⟨o',ho'⟩:=hx';exact hgr.block b (zh.1 ho').1 (λhh=>hb' (by rw[hus];exact hh.symm))) (λb hb'=>by
     exact Holds.cells (h:=h) (β:=[]) (r:=.row t2 ip.sh (ip.res xs dd)) (v:=.row (us j)) hrow' rfl (aT.2 hb')) hd1 hrow'
    have ok:OK B h0 (eff s.gl (bQ s.T i ([],.deep tt sh (l.set j d1) t2 ip.sh so own hs))) h β w':=by
     rw[uV];have:=ah.ok.upd (r':=.deep tt sh (l.set j d1) t2 ip.sh so own hs) (v:=.deep vv us) eF rfl hb hgr (λk e=>aN.2 (.inr ⟨j,by rw[hus];exact e⟩)) (λb hb=>.inl hb) (.inl rfl) (by rw[iF hb];exact D')
     rwa [iF hb]at this
    exact next _ _ _ _ _ k (FH.le.refl h) ((ah.mem ok (FH.le.refl h) (Ext.refl β) (nO ah)).put (cZ hd) rfl (λ_=>⟨[],rfl,trivial⟩) λhh=>by cases hh)
   .cases k
  .cases k
 .cases k
theorem dG.us{us:Nat->Value} (hu:β[i]?=some (.deep v us)){x:SC} (c:dG h β x y):dG h (β.set i (.row v)) (rO i x) y:=by
 unfold rO;split
 .rename_i hf;cases x with
  | v _=>exact c
  | sl _ _=>exact c
  | fp _ _=>exact c
  | one _ _=>exact c
  | abs _=>exact c
  | junk=>trivial
  | own j off=>
    obtain⟨b,e,e'⟩:=c;refine⟨b,?_,e'⟩;rw[dA hu,if_neg]
    .exact e
    .rintro rfl;rw[hu]at e;cases e
  | row j=>
    obtain⟨z,e,e'⟩:=c
    by_cases hj:j=i
    .subst hj;rw[hu]at e;cases e;exact⟨.row v,by rw[dA hu,if_pos rfl],e'⟩
    .exact⟨z,by rw[dA hu,if_neg hj];exact e,e'⟩
  | jh j k sz off=>
    obtain⟨z,g,e,e',e2⟩:=c
    by_cases hj:j=i
    .subst hj;rw[hu]at e;cases e;exact⟨.row v,g,by rw[dA hu,if_pos rfl],e',e2⟩
    .exact⟨z,g,by rw[dA hu,if_neg hj];exact e,e',e2⟩
  | sub j k=>
    obtain⟨z,qU,e,e'⟩:=c;exact⟨z,qU,by rw[dA hu,if_neg (JW hf)];exact e,e'⟩
  | jX j k m sz off=>
    obtain⟨z,qU,g,e,e'⟩:=c;exact⟨z,qU,g,by rw[dA hu,if_neg (JW hf)];exact e,e'⟩
 .trivial
theorem dN.row{s:Sh}{l:List s.den}{own:Nat->Bool}{us:Nat->Value} (x:dN h w t s l tt e so own [] v us) (le:h.le h')
 (hb:∀b,(∃j,au (us j)=some b)->∀o z,vis w b o=some z->h' b o=some z):kE h' w t s l v/\∀g,au v=some g->∀j,au (us j)≠some g:=by
 obtain⟨_,_,x⟩:=x;rcases x with⟨e1,e2⟩ | ⟨ra,e1,e2⟩ | ⟨g,cap,cur,e1,q1,q2,q3,q4,q5,q6⟩
 .exact⟨.inl ⟨e1,e2⟩,λg hg=>by subst e1;simp[au]at hg⟩
 .exact⟨.inr (.inl ⟨ra,e1,e2⟩),λg hg=>by subst e1;simp[au]at hg⟩
 .have lc:cur.toList.length=cap * s.size:=by simpa using q4
  have hm:l.length * s.size<=cap * s.size:=vO _ q2;refine⟨.inr (.inr ⟨g,cap,cur,e1,q1,q2,q3,q4,?_⟩),λg' hg'=>?_⟩
  .refine eX.JF (k:=s.size) (by rw[mY];omega) λj d hd=>?_
   have hj:=(eU.1 hd).1;have hm:(j+1) * s.size<=l.length * s.size:=vO _ hj;rw[uN]at hm;have e5:List.take s.size (List.drop (j * s.size) (List.take (l.length * s.size) cur.toList))=List.take s.size (List.drop (j * s.size) cur.toList):=by
    apply LK;intro p;simp only[uh,Gv];split
    .rw[if_pos (by omega)]
    .rfl
   rw[e5];exact(q6 j d hd).rd le λb hu=>hb b ⟨j,hu⟩
  .rw[e1,aO q3.1]at hg';cases hg';exact q5
theorem OK.abq(ok:OK B h0 T h β w){s:Sh}{l:List s.den}{own:Nat->Bool}{us:Nat->Value}
 (hT:T[i]?=some (.deep t s l tt e so own [])) (hu:β[i]?=some (.deep v us)):
 h.le (h.jZ w λb=>∃j,au (us j)=some b)/\OK B h0 ((T.map (mR (rO i))).set i (.row t s l)) (h.jZ w λb=>∃j,au (us j)=some b) (β.set i (.row v)) w:=by
 have hi:i < T.length:=(eU.1 hT).1;have hi':i < β.length:=by rw[ok.len];exact hi
 have hl:(aC.deep t s l tt e so own []).live=true:=rfl;have own':=λg hv=>ok.own i _ _ g hT hl hu hv
 have sub:∀{b:Nat},(∃j,au (us j)=some b)->(RV.deep v us).has b:=λhb=>aN.2 (.inr hb)
 have le:h.le (h.jZ w λb=>∃j,au (us j)=some b):=by
  intro b o x hb;unfold FH.jZ
  by_cases hbg:∃j,au (us j)=some b
  .rw[(own' b (sub hbg)).2.2 o]at hb;cases hb
  .rw[if_neg hbg];exact hb
 have hold:dN h w t s l tt e so own [] v us:=ok.holds i _ _ hT hu;obtain⟨rh,rn⟩:=hold.row le λb hb o z hz=>by
  unfold FH.jZ;rw[if_pos hb];exact hz
 have get:∀{j:Nat}{rj:aC},j≠i->((T.map (mR (rO i))).set i (.row t s l))[j]?=some rj->∃r0,T[j]?=some r0/\rj=mR (rO i) r0:=by
  intro j rj hj e;rw[kU (Ne.symm hj),Gw]at e;cases hh:T[j]? with
  | none=>rw[hh]at e;cases e
  | some r0=>rw[hh]at e;cases e;exact⟨r0,rfl,rfl⟩
 have afq:∀{b:Nat},(RV.row v).has b->(RV.deep v us).has b:=λhb=>aN.2 (.inl (aT.1 hb))
 refine⟨le,{
  below:=ok.below
  dr:=ok.dr
  len:=by simp[ok.len]
  holds:=?_
  own:=?_
  inj:=?_
  hle:=ok.hle.trans le
  hw:=?_
  hg:=?_
  kn:=ok.kn }⟩
 .intro j rj vj ej iP
  by_cases hj:j=i
  .subst hj;rw[nX (by simpa using hi)]at ej
   rw[nX hi']at iP;cases ej;cases iP;exact rh
  .obtain⟨r0,e0,rfl⟩:=get hj ej;rw[kU (Ne.symm hj)]at iP;exact(ok.holds j r0 vj e0 iP).map le (λx y c=>(dG.us hu c).mono le (Ext.refl _)) λ_ _ _=>rfl
 .intro j rj vj b ej hlj iP hb
  by_cases hj:j=i
  .subst hj;rw[nX hi']at iP;cases iP;obtain⟨a1,a2,a3⟩:=own' b (afq hb);refine⟨a1,a2,λo=>?_⟩
   unfold FH.jZ;rw[if_neg,a3 o];rintro⟨j',hj'⟩;exact rn b (aT.1 hb) j' hj'
  .obtain⟨r0,e0,rfl⟩:=get hj ej;rw[kU (Ne.symm hj)]at iP;have afr:r0.live=true:=by rw[<-nG (rO i)];exact hlj
   obtain⟨a1,a2,a3⟩:=ok.own j r0 vj b e0 afr iP hb;refine⟨a1,a2,λo=>?_⟩
   unfold FH.jZ;rw[if_neg,a3 o];exact λhg=>hj (ok.inj j i _ _ _ _ _ e0 afr hT hl iP hu hb (sub hg))
 .intro j k r1 r2 u1 u2 b e1 l1 e2 l2 e3 e4 b1 b2;have look:∀{m:Nat}{rm:aC}{um:RV},((T.map (mR (rO i))).set i (.row t s l))[m]?=some rm->rm.live=true->(β.set i (.row v))[m]?=some um->um.has b->∃r0 u0,T[m]?=some r0/\r0.live=true/\β[m]?=some u0/\u0.has b:=by
   intro m rm um e l e' hb
   by_cases hm:m=i
   .subst hm;rw[nX hi']at e';cases e';exact⟨_,_,hT,hl,hu,afq hb⟩
   .obtain⟨r0,e0,rfl⟩:=get hm e;rw[kU (Ne.symm hm)]at e';exact⟨r0,um,e0,by rw[<-nG (rO i)];exact l,e',hb⟩
  obtain⟨p1,p2,p3,p4,p5,p6⟩:=look e1 l1 e3 b1;obtain⟨q1,q2,q3,q4,q5,q6⟩:=look e2 l2 e4 b2;exact ok.inj j k p1 q1 p2 q2 b p3 p4 q3 q4 p5 q5 p6 q6
 .intro b o x hb;unfold FH.jZ at hb;split at hb
  .exact hb
  .exact ok.hw b o x hb
 .intro b o x hb;unfold FH.jZ at hb;split at hb
  .rename_i hbg;exact .inr (own' b (sub hbg)).1
  .exact ok.hg b o x hb
abbrev EF(s:St) (i:Nat):St:=match dH s.T i with
 | some ([],.deep t sh l _ _ _ _ [])=>{ s with T:=bQ (mT (rO i) s.T) i ([],.row t sh l),env:=wM (rO i) s.env }
 | _=>s
theorem Sat.EF(ah:Sat N B h0 s h β w a) (i:Nat):∃h' β',h.le h'/\Sat N B h0 (EF s i) h' β' w a:=by
 unfold Go.lM.EF;split
 .rename_i t sh l t2 e so own hT;have eF:(eff s.gl s.T)[i]?=some (.deep t sh l t2 e so own []):=by rw[iT,<-dI,hT];rfl
  have gY:i < β.length:=by rw[ah.ok.len];exact(eU.1 eF).1
  have hu:=kW gY;have hold:=ah.ok.holds i _ _ eF hu;cases hb:β[i]with
  | blk b=>rw[hb]at hold;cases hold
  | no=>rw[hb]at hold;cases hold
  | row _=>rw[hb]at hold;cases hold
  | deep v us=>
    rw[hb]at hu;obtain⟨le,ok'⟩:=ah.ok.abq eF hu;refine⟨_,_,le,ah.map (f:=rO i) le (λ_=>rfl) (λx y c=>(dG.us hu c).mono le (Ext.refl _)) ?_ ?_⟩
    .rw[dY,Aw];exact ok'
    .intro p hp;rw[dM]at hp;rcases LH hp with hp | hp
     .obtain⟨q,h1,h2⟩:=Az hp;rw[<-h2];exact ah.gT q h1
     .subst hp;rfl
 .exact⟨h,β,FH.le.refl h,ah⟩
abbrev Xi(s:St) (i:Nat):St:=match Nat.ble 1000 i with
 | true=>EF s (i - 1000)
 | false=>Hq s i
abbrev Hw(s:St):List Nat->St
 | []=>s
 | i :: r=>Hw (Xi s i) r
theorem Sat.Hw:∀{l:List Nat}{s:St}{h:FH}{β:List RV},Sat N B h0 s h β w a->∃h' β',h.le h'/\Sat N B h0 (Hw s l) h' β' w a
 | [],s,h,β,ah=>⟨h,β,FH.le.refl h,ah⟩
 | i :: r,s,h,β,ah=>by
   have h1:∃h' β',h.le h'/\Sat N B h0 (Xi s i) h' β' w a:=by
    unfold Xi;split
    .exact ah.EF _
    .obtain⟨h',le,aK⟩:=ah.abm i;exact⟨h',β,le,aK⟩
   obtain⟨h1,β1,le1,fQ⟩:=h1;obtain⟨h2,β2,fU,aY⟩:=Sat.Hw (l:=r) fQ;exact⟨h2,β2,le1.trans fU,aY⟩
abbrev tK(s:St):List (Nat×TypeId×Sh×Nat)->St
 | []=>s
 | (i,tt,e,so) :: l=>tK (Hu s i tt e so) l
theorem Sat.tK:∀(l:List (Nat×TypeId×Sh×Nat)){s:St}{β:List RV},Sat N B h0 s h β w a->∃β',Sat N B h0 (tK s l) h β' w a
 | [],s,β,ah=>⟨β,ah⟩
 | (i,tt,e,so) :: l,s,β,ah=>by
   obtain⟨β1,fQ⟩:=ah.Hu i tt e so;exact Sat.tK l fQ
theorem OK.E8(ok:OK B h0 T h β w){r':aC} (hT:T[i]?=some r) (hl:r.live=true) (hold:∀v,Holds h β w r v->Holds h β w r' v):OK B h0 (T.set i r') h β w:=by
 have hi:i < T.length:=(eU.1 hT).1;have key:∀{m:Nat}{rm:aC},(T.set i r')[m]?=some rm->rm.live=true->∃rm',T[m]?=some rm'/\rm'.live=true:=by
  intro m rm e l
  by_cases hm:m=i
  .subst hm;exact⟨r,hT,hl⟩
  .rw[kU (Ne.symm hm)]at e;exact⟨rm,e,l⟩
 exact {
  below:=ok.below
  dr:=ok.dr
  len:=by simp[ok.len]
  holds:=by
   intro j rj vj ej iP
   by_cases hj:j=i
   .subst hj;rw[nX hi]at ej;cases ej;exact hold vj (ok.holds j r vj hT iP)
   .rw[kU (Ne.symm hj)]at ej;exact ok.holds j rj vj ej iP
  own:=by
   intro j rj vj b ej l iP hb;obtain⟨rm,e1,e2⟩:=key ej l;exact ok.own j rm vj b e1 e2 iP hb
  inj:=by
   intro j k r1 r2 u v b e1 l1 e2 l2 e3 e4 b1 b2;obtain⟨q1,f1,f2⟩:=key e1 l1;obtain⟨q2,g1,g2⟩:=key e2 l2;exact ok.inj j k q1 q2 u v b f1 f2 g1 g2 e3 e4 b1 b2
  hle:=ok.hle
  hw:=ok.hw
  hg:=ok.hg
  kn:=ok.kn }
abbrev Hy(s:St) (i c:Nat) (t:TypeId) (sh:Sh):St:=match dH s.T i with
 | some ([],.blk t' cs)=>match dH cs c with
   | some (.v (.slice none 0 0))=>{ s with T:=snoc (bQ s.T i ([],.blk t' (bQ cs c (.row (aJ s.T))))) ([],.row t sh []) }
   | _=>s
 | _=>s
theorem aI.bQ{α β:Type}{R:α->β->Prop}{y:α}{z:β} (hR:R y z):∀{l:List α}{m:List β}{c:Nat},m[c]?=some z->aI R l m->aI R (lM.bQ l c y) m
 | [],[],_,h,_=>by simp at h
 | _ :: _,_ :: _,0,h,⟨_,b⟩=>by simp at h;subst h;exact⟨hR,b⟩
 | _ :: _,_ :: _,c+1,h,⟨a,b⟩=>⟨a,aI.bQ hR (by simpa using h) b⟩
theorem Sat.Hy(ah:Sat N B h0 s h β w a) (i c:Nat) (t:TypeId) (sh:Sh):∃β',Sat N B h0 (Hy s i c t sh) h β' w a:=by
 unfold lM.Hy;split
 .rename_i t' cs hT;split
  .rename_i hc;have eF:=bf hT (show gv s.gl []=true from rfl)
   have ok1:OK B h0 (eff s.gl s.T++[.row t sh []]) h (β++[.row (.slice none 0 0)]) w:=ah.ok.add (r:=.row t sh []) (v:=.row (.slice none 0 0)) (bK w none) (λb hb=>by rw[aT]at hb;simp[au]at hb) (.inl ⟨rfl,rfl⟩)
   have hi:=(eU.1 eF).1;have hlen:aJ s.T=β.length:=by rw[ah.ok.len,fO,aV]
   have hT1:(eff s.gl s.T++[.row t sh []])[i]?=some (.blk t' cs):=by rw[QM hi];exact eF
   have ok2:=ok1.E8 (r':=.blk t' (lM.bQ cs c (.row (aJ s.T)))) hT1 rfl λv hv=>by
    cases v with
    | blk b=>
      obtain⟨ys,e1,al⟩:=hv;refine⟨ys,e1,?_⟩;obtain⟨y,hy,hcn⟩:=al.get (show cs[c]?=some (.v (.slice none 0 0)) by rw[<-dI];exact hc)
      obtain rfl:y=.slice none 0 0:=hcn.1.1;refine aI.bQ ?_ hy al;refine⟨⟨.row (.slice none 0 0),?_,rfl⟩,rfl,rfl⟩;rw[hlen];simp
    | row _=>exact hv.elim
    | deep _ _=>exact hv.elim
    | no=>exact hv.elim
   refine⟨β++[.row (.slice none 0 0)],ah.mem ?_ (FH.le.refl h) (Ext.append _ _) λp hp=>?_⟩
   .rw[fJ,dY];have e:((eff s.gl s.T)++[aC.row t sh []]).set i (.blk t' (lM.bQ cs c (.row (aJ s.T))))=(eff s.gl s.T).set i (.blk t' (lM.bQ cs c (.row (aJ s.T))))++[.row t sh []]:=by rw[List.set_append_left _ _ hi]
    rw[e]at ok2;exact ok2
   .rw[fM,Cj]at hp;rcases hp with hp | hp
    .rw[dM]at hp;rcases LH hp with hp | hp
     .exact ah.gT p hp
     .subst hp;rfl
    .simp at hp;subst hp;rfl
  .exact⟨β,ah⟩
 .exact⟨β,ah⟩
abbrev DC(s:St):List (Nat×Nat×TypeId×Sh)->St
 | []=>s
 | (i,c,t,sh) :: l=>DC (Hy s i c t sh) l
theorem Sat.DC:∀(l:List (Nat×Nat×TypeId×Sh)){s:St}{β:List RV},Sat N B h0 s h β w a->∃β',Sat N B h0 (DC s l) h β' w a
 | [],s,β,ah=>⟨β,ah⟩
 | (i,c,t,sh) :: l,s,β,ah=>by
   obtain⟨β1,fQ⟩:=ah.Hy i c t sh;exact Sat.DC l fQ
theorem DF{dT sT:TypeId}{i:TI} (k:aU P el i) (hu:P.underlying dT=some (.slice el)){d b:Option Addr}{dLen dCap sLen sCap:Nat} (hn:Nat.min sLen dLen=0):
 (Builtin.copy_ #[dT,sT] ty #[.slice d dLen dCap,.slice b sLen sCap]).run P w=.ok (goInt 0) w:=by
 have hl:∀(x:Addr),(loadCells x 0).run P w=.ok #[] w:=λx=>by simpa using run_loadCells_list (P:=P) w x [] (by simp)
 cases d<;>cases b<;>simp[Builtin.copy_,run_underlying hu,Builtin.lenOf,Builtin.firstCells,run_sizeOf k,hn,storeCells,hl]
theorem PX{dT sT:TypeId}{i:TI} (k:aU P el i) (hu:P.underlying dT=some (.slice el)){dLen dCap:Nat}{b:Addr}{sLen sCap:Nat}{cur:Array Value}
 (hg:w.heap[g]?=some (.cells cur t (0,0))) (hn:cs.length=Nat.min sLen dLen * i.size) (hsrc:∀j v,cs[j]?=some v->w.cell? (b.add j)=some v) (hfit:cs.length<=cur.size) (h1:∀v∈cs,v.oneCell'=true):
 (Builtin.copy_ #[dT,sT] ty #[.slice (some ⟨g,0,none⟩) dLen dCap,.slice (some b) sLen sCap]).run P w=.ok (goInt (Nat.min sLen dLen)) (w.setRow g (cs++cur.toList.drop cs.length).toArray):=by
 have hl:=run_loadCells_list (P:=P) w b cs hsrc;have hst:=run_storeCells_at P g 0 t cs 0 cur w hg (by simpa using hfit) h1
 simp only[O1,yU,OW,LP]at hst;simp[Builtin.copy_,run_underlying hu,Builtin.lenOf,Builtin.firstCells,run_sizeOf k,<-hn,hl,hst]
abbrev Na(cx:Cx) (s:St) (d:Option Nat) (t:TypeId) (x y:Operand) (K:St->Prop):Prop:=fP cx t λel ie sh=>match bI cx s [] x with
 | some (.one (.c (.row r)))=>match dH s.T r with
   | some ([],.row tt dR l1)=>match iV (.sl dR) l1 (.sl sh) with
     | some l=>match bI cx s [] y with
       | some (.one v)=>match EL s sh v with
         | some l2=>K ({ s with T:=bQ s.T r ([],.row tt sh (l2.take l.length++l.drop l2.length)) }.put d [] (vI .i64 (Nat.min l2.length l.length)))
         | none=>False
       | _=>False
     | none=>False
   | _=>False
 | _=>False
def Xj(a b:Int):Int:=if b < a then b else a
abbrev Xk(cx:Cx) (s:St) (d:Option Nat) (x y:Operand) (K:St->Prop):Prop:=match bI cx s [] x with
 | some (.one (.c (.v (.int .i64 a))))=>match bI cx s [] y with
   | some (.one (.c (.v (.int .i64 b))))=>K (s.put d [] (vI .i64 (Xj a b)))
   | _=>False
 | _=>False
theorem S9(ah:Sat N B h0 s h β w a) (hg:aG cx.gd h) (hd:jC N o.dst=true){x y:Operand} (ho:o.op=.call c) (bH:c.callee=.builtin .min) (ha:c.args=#[x,y])
 (k:Xk cx s o.dst x y K):eG P N B h0 h w a o (gv s.gl []) K:=by
 have tr:gv s.gl []=true:=rfl;unfold Xk at k;split at k
 .rename_i n hx;have ex:a.eval x=.int .i64 n:=(aH ah hg tr hx:bV h β (.c (.v (.int .i64 n))) (a.eval x)).1.1;split at k
  .rename_i m hy;have ey:a.eval y=.int .i64 m:=(aH ah hg tr hy:bV h β (.c (.v (.int .i64 m))) (a.eval y)).1.1;refine kN ah k rfl (by rw[ho];simp[quietly,bH]) (.inl ?_) (FH.le.refl h) (ah.put (G:=[]) (e:=vI .i64 (Xj n m)) (z:=.int .i64 (Xj n m)) (cZ hd) rfl (λ_=>⟨⟨rfl,bD _ _⟩,bD _ _⟩) λhh=>by cases hh)
   simp[execOp,ho,resolve,bH,ha,invoke,builtin,ex,ey,Builtin.min_,Builtin.min2,Xj]
  .cases k
 .cases k
theorem PY(ah:Sat N B h0 s h β w a) (hg:aG cx.gd h) (hd:jC N o.dst=true){x y:Operand} (ho:o.op=.call c) (bH:c.callee=.builtin .max) (ha:c.args=#[x,y])
 (k:JK cx s o.dst x y K):eG P N B h0 h w a o (gv s.gl []) K:=by
 have tr:gv s.gl []=true:=rfl;unfold JK at k;split at k
 .rename_i n hx;have ex:a.eval x=.int .i64 n:=(aH ah hg tr hx:bV h β (.c (.v (.int .i64 n))) (a.eval x)).1.1;split at k
  .rename_i m hy;have ey:a.eval y=.int .i64 m:=(aH ah hg tr hy:bV h β (.c (.v (.int .i64 m))) (a.eval y)).1.1;refine kN ah k rfl (by rw[ho];simp[quietly,bH]) (.inl ?_) (FH.le.refl h) (ah.put (G:=[]) (e:=vI .i64 (JJ n m)) (z:=.int .i64 (JJ n m)) (cZ hd) rfl (λ_=>⟨⟨rfl,bD _ _⟩,bD _ _⟩) λhh=>by cases hh)
   simp[execOp,ho,resolve,bH,ha,invoke,builtin,ex,ey,Builtin.max_,Builtin.max2,JJ]
  .cases k
 .cases k
theorem PZ(hc:bT P cx.ti) (ah:Sat N B h0 s h β w a) (hg:aG cx.gd h) (hd:jC N o.dst=true){t':TypeId}{x y:Operand} (ho:o.op=.call c) (bH:c.callee=.builtin .copy) (ha:c.args=#[x,y]) (hat:c.argTypes=#[t,t'])
 (k:Na cx s o.dst t x y K):eG P N B h0 h w a o (gv s.gl []) K:=by
 have tr:gv s.gl []=true:=rfl;unfold Na at k;unfold fP at k;split at k
 .rename_i el hde;have hu:=bg hc hde (by simp)
  split at k
  .cases k
  rename_i ie hie;have tie:=hc.get hie;split at k
  .cases k
  rename_i sh hsh;split at k
  .rename_i hz;rw[ay,ay,A8,A8]at hz;have hz1:sh.size=ie.size:=gI hz.1;split at k
   .rename_i r hx;split at k
    .rename_i tt dR l1 hT;split at k
     .rename_i l hl;obtain⟨e1,e2⟩:=l7 hl;subst e1;simp only at e2;subst e2;split at k
      .rename_i v hv;split at k
       .rename_i l2 hl2;have Dw:=(aH ah hg tr hx:bV h β (.c (.row r)) (a.eval x));have cv:=aH ah hg tr hv;have eF:=bf hT tr;have hb:=ah.ok.row_of eF Dw.1;have jr:kE h w tt dR l1 (a.eval x):=ah.ok.holds r _ _ eF hb;have src:=wF ah hl2 cv;have exec:∀{w':World},(Builtin.copy_ #[t,t'] o.type #[a.eval x,a.eval y]).run P w=.ok (goInt (Nat.min l2.length l1.length)) w'->(execOp a.eval o).run P w=.ok (.value (goInt (Nat.min l2.length l1.length))) w':=by
         intro w' r0;simp only[execOp,ho,resolve,bH,ha,hat,invoke,builtin,Sem.run_bind,Sem.run_pure,Result.andThen_ok];simp[r0]
        have fin:∀{w':World}{row:Option Nat},Gb w w' row->(∀k,row=some k->au (a.eval x)=some k)->(Builtin.copy_ #[t,t'] o.type #[a.eval x,a.eval y]).run P w=.ok (goInt (Nat.min l2.length l1.length)) w' ->
         kE h w' tt dR (l2.take l1.length++l1.drop l2.length) (a.eval x)->eG P N B h0 h w a o (gv s.gl []) K:=by
         intro w' row hgr hrw r0 hr;have ok:OK B h0 (eff s.gl (bQ s.T r ([],.row tt dR (l2.take l1.length++l1.drop l2.length)))) h β w':=by
          rw[uV];have:=ah.ok.upd (r':=.row tt dR (l2.take l1.length++l1.drop l2.length)) (v:=.row (a.eval x)) eF rfl hb hgr (λk e=>aT.2 (hrw k e)) (λb hb=>.inl hb) (.inl rfl) hr
          rwa [iF hb]at this
         exact kN ah k rfl (by rw[ho];simp[quietly,bH]) (.inl (exec r0)) (FH.le.refl h) ((ah.mem ok (FH.le.refl h) (Ext.refl β) (nO ah)).put (G:=[]) (e:=vI .i64 (Nat.min l2.length l1.length)) (cZ hd) rfl (λ_=>⟨⟨rfl,bD _ _⟩,bD _ _⟩) λhh=>by cases hh)
        have zero:∀(ad ab:Option Addr) (dC sC:Nat),a.eval x=.slice ad l1.length dC->a.eval y=.slice ab l2.length sC->(l1=[]\/l2=[])->eG P N B h0 h w a o (gv s.gl []) K:=by
         intro ad ab dC sC ex ey h0';have hm:Nat.min l2.length l1.length=0:=by rcases h0' with rfl | rfl<;>simp
         refine fin (bK w none) (λk e=>by cases e) ?_ ?_
         .rw[hm,ex,ey];exact DF tie hu hm
         .have:l2.take l1.length++l1.drop l2.length=l1:=by rcases h0' with rfl | rfl<;>simp
          rw[this];exact jr
        rcases jr with⟨e1,e2⟩ | ⟨ra,e1,e2⟩ | ⟨g,cap,cur,e1,q1,q2,q3,q4,q5⟩
        .rcases src with⟨s1,s2⟩ | ⟨sa,sc,s1,s2⟩ | ⟨sb,so,sc,cs,s1,s2,s3⟩
         .exact zero none none 0 0 (by rw[e1,e2];rfl) (by rw[s1,s2];rfl) (.inl e2)
         .exact zero none (some sa) 0 sc (by rw[e1,e2];rfl) (by rw[s1,s2];rfl) (.inl e2)
         .exact zero none _ 0 sc (by rw[e1,e2];rfl) s1 (.inl e2)
        .rcases src with⟨s1,s2⟩ | ⟨sa,sc,s1,s2⟩ | ⟨sb,so,sc,cs,s1,s2,s3⟩
         .exact zero (some ra) none 0 0 (by rw[e1,e2];rfl) (by rw[s1,s2];rfl) (.inl e2)
         .exact zero (some ra) (some sa) 0 sc (by rw[e1,e2];rfl) (by rw[s1,s2];rfl) (.inl e2)
         .exact zero (some ra) _ 0 sc (by rw[e1,e2];rfl) s1 (.inl e2)
        .rcases src with⟨s1,s2⟩ | ⟨sa,sc,s1,s2⟩ | ⟨sb,so,sc,cs,s1,s2,s3⟩
         .exact zero _ none cap 0 e1 (by rw[s1,s2];rfl) (.inr s2)
         .exact zero _ (some sa) cap sc e1 (by rw[s1,s2];rfl) (.inr s2)
         .have hcs:=eX.size (λ_ _=>Rd.size dR) s2
          have lc:cur.toList.length=cap * dR.size:=by simpa using q4
          have hm1:l1.length * dR.size<=cap * dR.size:=vO _ q2;generalize hm:Nat.min l2.length l1.length=m at *;have hm2:m<=l2.length:=by rw[<-hm];exact Nat.min_le_left _ _
          have hm3:m<=l1.length:=by rw[<-hm];exact Nat.min_le_right _ _
          have hm4:m * dR.size<=l2.length * dR.size:=vO _ hm2;have hm5:m * dR.size<=l1.length * dR.size:=vO _ hm3;have ht:=eX.qZ (λ_ _=>Rd.size dR) s2 (a:=0) (b:=m) (zJ _) hm2
          simp only[GI,Wv]at ht;have hlen:(cs.take (m * dR.size)).length=m * dR.size:=by rw[mY];omega
          have r0:=PX (P:=P) (w:=w) (dT:=t) (sT:=t') (ty:=o.type) tie hu (g:=g) (dLen:=l1.length) (dCap:=cap) (b:=⟨sb,so,none⟩) (sLen:=l2.length) (sCap:=sc) (cs:=cs.take (m * dR.size)) q1 (by rw[hlen,hm,hz1]) (λj v hj=>by
           rw[uh]at hj;split at hj
           .have:=s3 j v hj;have ea:(⟨sb,so,none⟩:Addr).add j=⟨sb,so+j,none⟩:=by unfold Addr.add;split<;>simp_all
            rw[ea];exact this
           .cases hj) (by rw[hlen];rw[<-OL,lc];omega) (λv hv=>(eX.all (λ_ _=>Rd.one dR) ht v hv).2)
          rw[hm]at r0;refine fin (row:=some g) (iq w g _) (λk e=>by cases e;rw[e1];exact aO q3.1) (by rw[e1,s1];exact r0) ?_
          have el:(l2.take l1.length++l1.drop l2.length)=l2.take m++l1.drop m:=by
           rcases Nat.le_total l2.length l1.length with hh | hh
           .have:m=l2.length:=by rw[<-hm];exact Ji hh
            rw[this,Gy hh,Gy (mZ _)]
           .have:m=l1.length:=by rw[<-hm];exact Nat.min_eq_right hh
            rw[this,Wp hh,Wp (mZ _)]
          rw[el];have ll:(l2.take m++l1.drop m).length=l1.length:=by rw[kD,mY,yT];omega
          refine .inr (.inr ⟨g,cap,_,by rw[ll];exact e1,setRow_heap w g _ _ tt (0,0) q1,by rw[ll];exact q2,q3,?_,?_⟩)
          .simp only[CO,kD,yT,hlen];omega
          .rw[ll];have h2:=eX.split (λ_ _=>Rd.size dR) (l:=l1.take m) (l':=l1.drop m) (by rw[VX];exact q5)
           have h3:=ht.append h2.2;have e3:List.take (l1.length * dR.size) (cs.take (m * dR.size)++List.drop (cs.take (m * dR.size)).length cur.toList)=cs.take (m * dR.size)++List.drop ((l1.take m).length * dR.size) (List.take (l1.length * dR.size) cur.toList):=by
            rw[hlen,mY,Ji hm3];apply LK;intro p;simp only[ZU,uh,Gv,mY,lc]
            repeat' split
            all_goals first | rfl | omega | (congr 1;omega) | (exfalso;omega) | skip
           simp only at e3 ⊢;rw[e3];exact h3
       .cases k
      .cases k
     .cases k
    .cases k
   .cases k
  .cases k
 .cases k
end
abbrev gets(k:IntKind) (l:List Int):Nat->Nat->List SC
 | _,0=>[]
 | j,m+1=>.v (.int k (l.getD j 0)) :: gets k l (j+1) m
abbrev yK:(s:Sh)->s.den->Option (List SC)
 | .any,v=>some [.v v]
 | .pair a b,d=>match yK a d.1 with
   | some x=>match yK b d.2 with
     | some y=>some (dO x y)
     | none=>none
   | none=>none
 | .arr n (.int k),l=>some (gets k l 0 n)
 | s,d=>flat s d
theorem Nb{h:FH}{β:List RV}{k:IntKind}{l0:List Int}:∀{l:List Int}{cs:List Value}{j:Nat},eX (Rd h (.int k)) cs l->l0.drop j=l->aI (λx y=>dG h β x y/\bZ y) (gets k l0 j l.length) cs
 | [],cs,j,r,e=>by rw[show cs=[] from r];trivial
 | x :: l,cs,j,⟨c,cs',e1,r1,r2⟩,e=>by
   have hx:l0[j]?=some x:=by
    have:(l0.drop j)[0]?=some x:=by rw[e];rfl
    simpa using this
   have hd:l0.drop (j+1)=l:=by
    have:(l0.drop j).drop 1=l:=by rw[e];rfl
    simpa using this
   have e2:c=[.int k x]:=r1;subst e2;subst e1;have hg:l0.getD j 0=x:=by rw[Gu,hx];rfl
   show aI _ (SC.v (.int k (l0.getD j 0)) :: gets k l0 (j+1) l.length) (.int k x :: cs');rw[hg];exact⟨⟨⟨rfl,bD _ _⟩,bD _ _⟩,Nb r2 hd⟩
theorem wP{h:FH}{β:List RV}:∀(s:Sh){d:s.den}{cs:List Value}{xs:List SC},yK s d=some xs->Rd h s cs d->aI (λx y=>dG h β x y/\bZ y) xs cs
 | .any,v,cs,xs,e,r=>by simp[yK]at e;subst e;rw[show cs=[_] from r.1];exact⟨⟨⟨rfl,r.2⟩,r.2⟩,trivial⟩
 | .pair a b,(x,y),cs,xs,e,r=>by
   obtain⟨c1,c2,rfl,r1,r2⟩:=r;unfold yK at e;split at e
   .rename_i p hp;split at e
    .rename_i q hq;cases e;rw[dW];exact aI.cat (wP a hp r1) (wP b hq r2)
    .cases e
   .cases e
 | .arr n (.int k),l,cs,xs,e,⟨r1,r2⟩=>by
   simp[yK]at e;subst e;have hl:List.length l=n:=r1;have:=Nb (β:=β) (j:=0) r2 rfl
   rwa [hl]at this
 | .int k,d,cs,xs,e,r=>eY _ e r
 | .bool,d,cs,xs,e,r=>eY _ e r
 | .str,d,cs,xs,e,r=>eY _ e r
 | .sl s,d,cs,xs,e,r=>eY _ e r
 | .unit,d,cs,xs,e,r=>eY _ e r
 | .mp k s,d,cs,xs,e,r=>eY _ e r
 | .arr n .bool,d,cs,xs,e,r=>eY _ e r
 | .arr n .str,d,cs,xs,e,r=>eY _ e r
 | .arr n .any,d,cs,xs,e,r=>eY _ e r
 | .arr n (.sl s),d,cs,xs,e,r=>eY _ e r
 | .arr n .unit,d,cs,xs,e,r=>eY _ e r
 | .arr n (.mp k s),d,cs,xs,e,r=>eY _ e r
 | .arr n (.pair a b),d,cs,xs,e,r=>eY _ e r
 | .arr n (.arr m s),d,cs,xs,e,r=>eY _ e r
abbrev cellS(s:St) (i:Nat):St:=match dH s.T i with
 | some ([],.obj t sh d)=>match yK sh d with
   | some cs=>{ s with T:=bQ s.T i ([],.blk t cs) }
   | none=>s
 | _=>s
abbrev abr:SV->Option (List SC)
 | .agg xs=>some xs
 | .dat s d=>yK s d
 | _=>none
theorem Xl{v:SV}{xs:List SC} (e:abr v=some xs) (c:bV h β v y):bV h β (.agg xs) y:=by
 unfold abr at e;split at e
 .cases e;exact c
 .obtain⟨_,cs,ey,r⟩:=c;exact⟨cs,ey,wP _ e r⟩
 .cases e
abbrev abt:Sh->Nat->Option Nat
 | .any,n=>some n
 | .pair a b,n=>match abt a n with
   | some m=>some m
   | none=>abt b (n+a.size)
 | _,_=>none
abbrev ptA(c:Nat) (ss:List Sh) (vs:List SV) (x:Value):Option (bW ss):=match vs with
 | .agg xs :: r=>uX ss (.agg (bQ xs c (.v x)) :: r)
 | _=>none
abbrev ptR(c r:Nat) (x:Value) (e:aW) (K:aW->Prop):Prop:=match e with
 | .one (.agg zs)=>match dH zs c with
   | some (.v z)=>z=x/\K (.one (.agg (bQ zs c (.row r))))
   | _=>False
 | .iQ (.agg zs :: us)=>match dH zs c with
   | some (.v z)=>z=x/\K (.iQ (.agg (bQ zs c (.row r)) :: us))
   | _=>False
 | _=>False
abbrev ptK(cx:Cx) (ct:CT) (c:Nat) (s:St) (d:Option Nat) (args:List Operand) (K:St->Prop):Prop:=match oJ cx s [] args with
 | some vs=>match vs with
   | .agg xs :: _=>match dH xs c with
     | some (.row r)=>∀x:Value,match ptA c ct.ps vs x with
       | some dd=>match(ct.res dd).1 with
         | []=>ct.pre dd/\ptR c r x (ct.res dd).2 λe=>K (s.put d [] e)
         | _=>False
       | none=>False
     | _=>False
   | _=>False
 | none=>False
section
variable {cx:Cx}{P:Program}{N:Nat}{B:Base}{h0:FH}{s:St}{h:FH}{β:List RV}{w:World}{a:Act}{o:Oper}{K:St->Prop}
theorem Sat.cellS(ah:Sat N B h0 s h β w a) (i:Nat):Sat N B h0 (cellS s i) h β w a:=by
 unfold Go.lM.cellS;split
 .rename_i t sh d hT;split
  .rename_i cs hcs;have eF:=bf hT (show gv s.gl []=true from rfl)
   refine ah.mem ?_ (FH.le.refl h) (Ext.refl β) λp hp=>?_
   .rw[dY];refine ah.ok.E8 eF rfl λv hv=>?_
    cases v with
    | blk b=>
      obtain⟨ys,e,r⟩:=hv;exact⟨ys,e,wP sh hcs r⟩
    | row _=>exact hv.elim
    | deep _ _=>exact hv.elim
    | no=>exact hv.elim
   .rw[dM]at hp;rcases LH hp with hp | hp
    .exact ah.gT p hp
    .subst hp;rfl
  .exact ah
 .exact ah
theorem AB{h h':FH}{β β':List RV} (le:h.le h'):∀{ss:List Sh}{d:bW ss}{ys:List Value},aI (bV h β) (dV ss d) ys->aI (bV h' β') (dV ss d) ys
 | [],_,[],_=>trivial
 | [],_,_ :: _,x=>x.elim
 | _ :: _,_,[],x=>x.elim
 | s :: l,d,y :: ys,⟨x,r⟩=>by
   obtain⟨cs,rfl,rd⟩:=Dx s x;exact⟨iH s (rd.mono le),AB le r⟩
theorem aI.set1{α β:Type}{R:α->β->Prop}{x:α}{y:β}:∀{l:List α}{m:List β}{c:Nat},aI R l m->m[c]?=some y->R x y->aI R (l.set c x) m
 | [],[],_,_,e,_=>by simp at e
 | _ :: _,z :: m,0,⟨_,r⟩,e,hx=>by simp at e;subst e;exact⟨hx,r⟩
 | _ :: _,_ :: _,c+1,⟨p,r⟩,e,hx=>⟨p,aI.set1 r (by simpa using e) hx⟩
theorem abu{c r:Nat}{x:Value}{e:aW}{K:aW->Prop}{β':List RV} (k:ptR c r x e K) (he:iO h' β' e y) (hr:dG h' β' (.row r) x) (hx:bZ x):∃e',K e'/\iO h' β' e' y:=by
 unfold ptR at k;split at k
 .rename_i zs;split at k
  .rename_i z hz;obtain⟨ez,k⟩:=k;subst ez;obtain⟨ys,ey,al⟩:=(he:bV h' β' (.agg zs) y);obtain⟨u,hu,hc⟩:=al.get (show zs[c]?=some (.v z) by rw[<-dI];exact hz)
   obtain⟨⟨rfl,_⟩,_⟩:=hc;exact⟨_,k,ys,ey,by rw[dM];exact al.set1 hu ⟨hr,hx⟩⟩
  .cases k
 .rename_i zs us;split at k
  .rename_i z hz;obtain⟨ez,k⟩:=k;subst ez;obtain⟨ys,ey,al⟩:=(he:∃ys,y=.tuple ys.toArray/\aI (bV h' β') (.agg zs :: us) ys);cases ys with
   | nil=>exact al.elim
   | cons y1 ys=>
     obtain⟨⟨ys1,ey1,al1⟩,al2⟩:=al;obtain⟨u,hu,hc⟩:=al1.get (show zs[c]?=some (.v z) by rw[<-dI];exact hz)
     obtain⟨⟨rfl,_⟩,_⟩:=hc;exact⟨_,k,y1 :: ys,ey,⟨ys1,ey1,by rw[dM];exact al1.set1 hu ⟨hr,hx⟩⟩,al2⟩
  .cases k
 .cases k
theorem Xm{ct:CT}{f:FuncId}{cc:Nat} (hct:EN P cx.gd f ct) (ah:Sat N B h0 s h β w a) (hg:aG cx.gd h) (hd:jC N o.dst=true) (ho:o.op=.call c) (bH:c.callee=.value (.func f))
 (hf:∃fn,P.funcs[f]?=some fn/\fn.body.isSome=true/\(fn.name == "runtime.NumGoroutine")=false)
 (k:ptK cx ct cc s o.dst (tl c.args) K):eG P N B h0 h w a o true K:=by
 have tr:gv s.gl []=true:=rfl;unfold ptK at k;split at k
 .rename_i vs hvs;have hav:=mg ah hg tr hvs;split at k
  .rename_i xs rest;split at k
   .rename_i r hr;generalize hl:(tl c.args).map a.eval=ys at hav;cases ys with
    | nil=>exact hav.elim
    | cons y0 ys=>
      obtain⟨⟨zs,ey,al⟩,hrest⟩:=hav;obtain⟨x,hx,cx1,ox⟩:=al.get (show xs[cc]?=some (.row r) by rw[<-dI];exact hr)
      have k:=k x;unfold ptA at k;split at k
      .rename_i dd hdd;simp only at hdd;have args:aI (bV h β) (.agg (bQ xs cc (.v x)) :: rest) (y0 :: ys):=⟨⟨zs,ey,by rw[dM];exact al.set1 hx ⟨⟨rfl,ox⟩,ox⟩⟩,hrest⟩
       have args:=AB (β':=[]) (FH.le.refl h) (sZ hdd args);split at k
       .rename_i hres;obtain⟨fn,hfn,hbody,hname⟩:=hf;intro Nx Q next
        rw[if_pos rfl];have exec:(execOp a.eval o).run P w=.ok (.enter f (c.args.map a.eval)) w:=by
         simp only[execOp,ho,resolve,bH,Act.eval,Deferred.ofValue,invoke,Sem.run_bind,Sem.run_pure,Result.andThen_ok,callFunc,run_program,hfn,hname];simp[hbody];cases hb:fn.body with
         | none=>rw[hb]at hbody;cases hbody
         | some _=>simp
        have hargs:c.args.map a.eval=(y0 :: ys).toArray:=by
         rw[<-hl];cases c.args with
         | mk l=>simp[tl]
        unfold Oper.wp;rw[exec];simp only[Oper.upon];rw[hargs];refine(hct dd _ h w ah.ok.hw hg args k.1).mono ?_;rintro en w' ⟨h',β',y,rfl,ok',he⟩;rw[hres]at ok';have ok:=ah.ok.call ok' ok'.hle (λj r v _ hh=>hh.shift) ok'.hw λb o v hh=>by
         rcases ok'.hg b o v hh with h1 | h1
         .exact .inl h1
         .exact .inr ⟨h1,hh⟩
        have jr:dG h' (β++β') (.row r) x:=dG.mono ok'.hle (Ext.append _ _) cx1;have he0:iO h' (β++β') (ct.res dd).2 y:=by
         have lenb:β'=[]:=by simpa using ok'.len
         subst lenb;exact he.mono (FH.le.refl h') λi v e=>by simp at e
        obtain⟨e',k',c'⟩:=abu k.2 he0 jr ox;refine next _ h' (β++β') _ _ k' ok'.hle (λ_=>jL.of_below (Bw.bel ok'.below)) ?_
        have okT:OK B h0 (eff s.gl s.T) h' (β++β') w':=by simpa using ok
        exact(ah.mem okT ok'.hle (Ext.append _ _) ah.gT).put (cZ hd) rfl (λ_=>c') λhh=>by cases hh
       .cases k
      .cases k
   .cases k
  .cases k
 .cases k
end
abbrev tlS(s:St) (i:Nat):St:=match dH s.T i with
 | some ([],.row t (.int k) l)=>{ s with T:=bQ s.T i ([],.GL t k l 0) }
 | _=>s
abbrev tlP(cx:Cx) (s:St) (o:Oper) (K:St->Prop):Option Prop:=none
section
variable {cx:Cx}{P:Program}{N:Nat}{B:Base}{h0:FH}{s:St}{h:FH}{β:List RV}{w:World}{a:Act}{o:Oper}{K:St->Prop}
theorem abv{k:IntKind}{l:List Int} (x:kE h w t (.int k) l v):TlH w t k l 0 v:=by
 rcases x with x | x | ⟨g,cap,cur,e0,e1,e2,e3,e4,e5⟩
 .exact .inl x
 .exact .inr (.inl x)
 .refine .inr (.inr ⟨g,cap,cur,e0,e1,e2,e3,by simpa using e4,λj n hj=>?_⟩)
  have:=(e5.get (λ_ _=>Rd.size (.int k)) hj).1
  simp only[Sh.size,Rf]at this;have h2:((List.take l.length cur.toList).drop j).take 1=[.int k n]:=this;have hj':=(eU.1 hj).1;have h3:(((List.take l.length cur.toList).drop j).take 1)[0]?=some (.int k n):=by rw[h2];rfl
  rw[uh,if_pos (by omega),Gv,uh,if_pos (by omega)]at h3
  simpa using h3
theorem Sat.tlS(ah:Sat N B h0 s h β w a) (i:Nat):Sat N B h0 (tlS s i) h β w a:=by
 unfold Go.lM.tlS;split
 .rename_i t k l hT;have eF:=bf hT (show gv s.gl []=true from rfl)
  refine ah.mem ?_ (FH.le.refl h) (Ext.refl β) λp hp=>?_
  .rw[dY];refine ah.ok.E8 eF rfl λv hv=>?_
   cases v with
   | row v=>exact abv hv
   | blk _=>exact hv.elim
   | deep _ _=>exact hv.elim
   | no=>exact hv.elim
  .rw[dM]at hp;rcases LH hp with hp | hp
   .exact ah.gT p hp
   .subst hp;rfl
 .exact ah
abbrev Tc(s:St) (i:Nat):St:=match Nat.ble 2000 i with
 | true=>match Nat.ble 3000 i with
   | true=>cellS s (i - 3000)
   | false=>tlS s (i - 2000)
 | false=>Xi s i
abbrev xZ(s:St):List Nat->St
 | []=>s
 | i :: r=>xZ (Tc s i) r
theorem Sat.xZ:∀{l:List Nat}{s:St}{h:FH}{β:List RV},Sat N B h0 s h β w a->∃h' β',h.le h'/\Sat N B h0 (xZ s l) h' β' w a
 | [],s,h,β,ah=>⟨h,β,FH.le.refl h,ah⟩
 | i :: r,s,h,β,ah=>by
   have h1:∃h' β',h.le h'/\Sat N B h0 (Tc s i) h' β' w a:=by
    unfold Tc;split
    .split
     .exact⟨h,β,FH.le.refl h,ah.cellS _⟩
     .exact⟨h,β,FH.le.refl h,ah.tlS _⟩
    .exact Sat.Hw (l:=[i]) ah
   obtain⟨h1,β1,le1,fQ⟩:=h1;obtain⟨h2,β2,fU,aY⟩:=Sat.xZ (l:=r) fQ;exact⟨h2,β2,le1.trans fU,aY⟩
theorem abw(hc:bT P cx.ti) (ah:Sat N B h0 s h β w a) (hg:aG cx.gd h) (hd:jC N o.dst=true){p:Prop} (e:tlP cx s o K=some p) (k:p):yI P N B h0 h w a o (Region.wanted o (yielded ops a.tmps)) K:=by
 unfold tlP at e;cases e
end
abbrev P5:Nat->Bool:=λj=>decide (j=0)
abbrev nH(n:Nat) (p q:Nat->Bool):Nat->Bool:=λj=>cnd (decide (j < n)) (p j) (q (j - n))
abbrev aft(sh eq:Sh):Bool:=match sh with
 | .sl e=>decide (e=eq)
 | _=>false
abbrev Td(cx:Cx) (s:St) (d:Option Nat) (t:TypeId) (q:Nat) (tq:TypeId) (eq:Sh) (l:List eq.den) (parts:List (Nat×Operand)) (K:St->Prop):Prop:=match descOf cx t with
 | .slice el=>match mQ cx.ti el with
   | none=>False
   | some ie=>match ie.jK with
     | none=>False
     | some sh=>match uU cx s [] parts with
       | none=>False
       | some ps=>match bY (aft sh eq) (bY (Nat.beq ie.size 1) (Nat.ble 1 ie.bytes)) with
         | false=>False
         | true=>match ru (λj=>some (j * ie.size,ie.size)) (gQ 1 (dQ SC.v ie.zero)) ps with
           | some [.row q']=>match Nat.beq q q' with
             | true=>K ({ s with T:=snoc (mT (zn (aJ s.T)) (bQ s.T q ([],.gone))) ([],.deep el (.sl eq) [l] tq eq 0 P5 []),env:=wM (zn (aJ s.T)) s.env }.put d [] (.one (.c (.row (aJ s.T)))))
             | false=>False
           | _=>False
 | _=>False
abbrev Tf(cx:Cx) (s:St) (d:Option Nat) (t:TypeId) (r:Nat) (tt:TypeId) (dR:Sh) (l1:List dR.den) (t1:TypeId) (e1:Sh) (Nc:Nat) (vw:Nat->Bool) (r2:Nat) (P6:TypeId) (lZ:Sh) (l2:List lZ.den) (t2:TypeId) (e2:Sh) (so2:Nat) (wQ:Nat->Bool) (K:St->Prop):Prop:=fP cx t λel ie sh=>
 match bY (Nat.beq tt el) (bY (Nat.beq P6 el) (bY (Nat.beq t1 t2) (bY (decide (e1=e2)) (bY (Nat.beq Nc so2) (!(Nat.beq r r2)))))) with
 | true=>match iV (.sl dR) l1 (.sl sh) with
   | some l1=>match iV (.sl lZ) l2 (.sl sh) with
     | some l2=>(1<=l2.length/\wE (l1.length+l2.length) ie.bytes)/\K ({ s with T:=bQ (mT (zn r) (bQ s.T r2 ([],.gone))) r ([],.deep el sh (l1++l2) t1 e1 Nc (nH l1.length vw wQ) []),env:=wM (zn r) s.env }.put d [] (.one (.c (.row r))))
     | none=>False
   | none=>False
 | false=>False
abbrev apP(cx:Cx) (s:St) (o:Oper) (K:St->Prop):Option Prop:=match cx.dm with
 | false=>none
 | true=>match o.guard with
   | some _=>none
   | none=>match o.op with
     | .buildSlice t 1 ps=>match tl ps with
       | [(0,x)]=>match bI cx s [] x with
         | some (.one (.c (.row q)))=>match dH s.T q with
           | some ([],.row tq eq l)=>some (Td cx s o.dst t q tq eq l (tl ps) K)
           | _=>none
         | _=>none
       | _=>none
     | .call c=>match c.callee with
       | .builtin .append=>match tl c.args with
         | [x,y]=>match bI cx s [] x with
           | some (.one (.c (.row r)))=>match dH s.T r with
             | some ([],.deep tt dR l1 t1 e1 Nc vw [])=>match bI cx s [] y with
               | some (.one (.c (.row r2)))=>match dH s.T r2 with
                 | some ([],.deep P6 lZ l2 t2 e2 so2 wQ [])=>match tl c.argTypes with
                   | [t,t']=>match Nat.beq t t' with
                     | true=>some (Tf cx s o.dst t r tt dR l1 t1 e1 Nc vw r2 P6 lZ l2 t2 e2 so2 wQ K)
                     | false=>none
                   | _=>none
                 | _=>none
               | _=>none
             | _=>none
           | _=>none
         | _=>none
       | _=>none
     | _=>none
section
variable {cx:Cx}{P:Program}{N:Nat}{B:Base}{h0:FH}{s:St}{h:FH}{β:List RV}{w:World}{a:Act}{o:Oper}{K:St->Prop}
theorem P7(hc:bT P cx.ti) (ah:Sat N B h0 s h β w a) (hg:aG cx.gd h) (hd:jC N o.dst=true){parts:Array (Nat×Operand)} (ho:o.op=.buildSlice t 1 parts){q:Nat}{tq:TypeId}{eq:Sh}{l:List eq.den}
 (hTq:dH s.T q=some ([],.row tq eq l)) (k:Td cx s o.dst t q tq eq l (tl parts) K):eG P N B h0 h w a o true K:=by
 have tr:gv s.gl []=true:=rfl;unfold Td at k;split at k
 .rename_i el hde;have hu:=bg hc hde (by simp)
  split at k
  .cases k
  rename_i ie hie;have tie:=hc.get hie;split at k
  .cases k
  rename_i sh hsh;split at k
  .cases k
  rename_i ps hps;split at k
  .cases k
  rename_i hz;rw[ay,ay,A8,A8]at hz;have hz1:ie.size=1:=gI hz.2.1;split at k
  .rename_i q' hxs;split at k
   .rename_i hqq;have hqq:=gI hqq;subst hqq;have htl:(parts.map λ(p:Nat×Operand)=>(p.1,a.eval p.2)).toList=(tl parts).map λp=>(p.1,a.eval p.2):=by cases parts;simp
    rw[Ag]at hxs;obtain⟨zs,g1,g2⟩:=oC (oD ah hg tr hps) (dZ λv hv=>tie.zone v (wC hv)) hxs
    obtain⟨y,rfl,cy⟩:∃y,zs=[y]/\dG h β (.row q) y/\bZ y:=by
     cases zs with
     | nil=>exact g2.elim
     | cons y zs=>
       cases zs with
       | nil=>exact⟨y,rfl,g2.1⟩
       | cons _ _=>exact g2.2.elim
    have hz0:0 < ie.zero.length:=by rw[tie.mP];omega
    obtain⟨z,hz1',hz2⟩:=oG tie w;have hc1:((Array.range (1 * ie.size)).map (λi=>z.cells[i % z.cells.size]!))=(gQ 1 ie.zero).toArray:=by
     rw[hz2,<-tie.mP];exact oH hz0
    have run:(execOp a.eval o).run P w=.ok (.value (.slice (some ⟨w.heap.size,0,none⟩) 1 1)) (w.alloc (.cells #[y] el)):=by
     have hbig:¬(1 * ie.size > 2 ^ 24):=by omega
     have h0:¬1 * ie.size=0:=by omega
     simp only[execOp,ho,Instr.buildSlice,Sem.run_bind,run_underlying hu,Result.andThen_ok,run_sizeOf tie,hbig,GK,Sem.run_ite,Sem.run_pure,h0,hz1'];rw[htl,hc1,g1];simp only[Sem.run_bind,newRow,run_newObj,Result.andThen_ok,Sem.run_pure];rfl
    have qL:=bf hTq tr;have hbq:=ah.ok.row_of qL cy.1;have jr:kE h w tq eq l y:=ah.ok.holds q _ _ qL hbq;have hlen:aJ s.T=β.length:=by rw[ah.ok.len,fO,aV]
    have hTl:(eff s.gl s.T).length=β.length:=ah.ok.len.symm;have hql:q < β.length:=(eU.1 hbq).1;have gb:=jO w (.cells #[y] el) none;have ok1:=ah.ok.forget qL;have ok2:=ok1.add (r:=.row el (.sl eq) []) (v:=.row (.slice (some ⟨w.heap.size,0,none⟩) 0 1)) gb
     (λb hb=>by rw[aT]at hb;simp[au]at hb;subst hb;simp)
     (.inr (.inr ⟨w.heap.size,1,#[y],rfl,jR _ _,zJ _,⟨mZ _,by simp[maxLen]⟩,rfl,rfl⟩))
    have hTn:((eff s.gl s.T).set q .gone++[aC.row el (.sl eq) []])[β.length]?=some (.row el (.sl eq) []):=by
     rw[Jh (by simp[hTl])];simp[hTl]
    have hbn:(β++[RV.row (.slice (some ⟨w.heap.size,0,none⟩) 0 1)])[β.length]?=some (.row (.slice (some ⟨w.heap.size,0,none⟩) 0 1)):=by simp
    have old:∀b,au y=some b->b < w.heap.size:=λb hb=>(ah.ok.own q _ _ b qL rfl hbq (aT.2 hb)).2.1
    have fr:∀b,b < w.heap.size->(w.alloc (.cells #[y] el)).heap[b]?=w.heap[b]?:=λb hb=>gb.block b hb (by simp)
    have hold:dN h (w.alloc (.cells #[y] el)) el (.sl eq) [l] tq eq 0 P5 [] (.slice (some ⟨w.heap.size,0,none⟩) 1 1) (λj=>if j=0 then y else kY):=by
     have bn:∀b,au kY≠some b:=λb hh=>by simp[kY,au]at hh
     have z0:∀{j b},au (if j=0 then y else kY)=some b->j=0/\au y=some b:=by
      intro j b hb
      by_cases hj:j=0
      .rw[if_pos hj]at hb;exact⟨hj,hb⟩
      .rw[if_neg hj]at hb;exact(bn b hb).elim
     refine⟨λj k b h1 h2=>by rw[(z0 h1).1,(z0 h2).1],λj b hb=>⟨by rw[(z0 hb).1];simp,?_⟩,.inr (.inr ⟨w.heap.size,1,#[y],rfl,jR _ _,by simp,⟨mZ _,by simp[maxLen]⟩,rfl,λj hb=>?_,λj d hj=>?_⟩)⟩
     .rw[fr b (old b (z0 hb).2)];exact(ah.ok.holds q _ _ qL hbq).cells rfl (aT.2 (z0 hb).2)
     .have:=old _ (z0 hb).2;omega
     .have hj0:j=0:=by
       have:=(eU.1 hj).1;simp at this;exact this
      subst hj0;simp at hj;subst hj;show xK h _ (.sl eq) tq eq 0 true false y ((([y]:List Value).drop (0 * 1)).take 1) l;exact⟨[],l,⟨kY,rfl,.inl ⟨rfl,rfl⟩⟩,⟨rfl,rfl,rfl⟩,rfl,jr.move (FH.le.refl h) λb hb=>fr b (old b hb)⟩
    have ok3:=ok2.JX (f:=zn β.length) (r':=.deep el (.sl eq) [l] tq eq 0 P5 []) (v:=.deep (.slice (some ⟨w.heap.size,0,none⟩) 1 1) (λj=>if j=0 then y else kY)) (row:=none) (X:=λb=>au y=some b) hTn rfl hbn (bK _ none) (λk e=>by cases e)
     (λb hb=>by
      obtain⟨o1,o2,o3⟩:=ah.ok.own q _ _ b qL rfl hbq (aT.2 hb);refine⟨o1,Gz o2 gb.size,o3,λj' rj vj hj' ej lj iP hbj=>?_⟩
      have hjl:j' < β.length:=by
       have h1:=(eU.1 iP).1;simp at h1;omega
      rw[QM (by simp[hTl];exact hjl)]at ej
      rw[QM hjl]at iP;have hjq:j'≠q:=by
       rintro rfl;rw[nX (eU.1 qL).1]at ej;cases ej;cases lj
      rw[kU (Ne.symm hjq)]at ej;exact hjq (ah.ok.inj j' q _ _ _ _ b ej lj qL rfl iP hbq hbj (aT.2 hb)))
     (λb hb=>by
      rw[aN]at hb;rcases hb with hb | ⟨j,hb⟩
      .refine .inl (aT.2 ?_);simp[au]at hb ⊢;exact hb
      .by_cases hj:j=0
       .rw[if_pos hj]at hb;exact .inr (.inl hb)
       .rw[if_neg hj]at hb;simp[kY,au]at hb)
     (λx y c=>c.jk _) hold
    intro Nx Q next
    rw[if_pos rfl];refine gV run (next _ _ _ _ _ k (FH.le.refl h) (λ_=>jL.rF gb) ((ah.map (f:=zn (aJ s.T)) (T':=snoc (mT (zn (aJ s.T)) (bQ s.T q ([],.gone))) ([],.deep el (.sl eq) [l] tq eq 0 P5 [])) (β':=(β++[RV.row (.slice (some ⟨w.heap.size,0,none⟩) 0 1)]).set β.length (.deep (.slice (some ⟨w.heap.size,0,none⟩) 1 1) (λj=>if j=0 then y else kY))) (FH.le.refl h) (λ_=>rfl) (λx y c=>?_) ?_ ?_).put (cZ hd) rfl (λ_=>⟨⟨.deep (.slice (some ⟨w.heap.size,0,none⟩) 1 1) (λj=>if j=0 then y else kY),?_,rfl⟩,rfl,rfl⟩) λhh=>by cases hh))
    .rw[hlen];exact(c.mono (FH.le.refl h) (Ext.append _ _)).jk _
    .rw[fJ,Aw,dY,hlen];have:(((eff s.gl s.T).set q .gone++[aC.row el (.sl eq) []]).map (mR (zn β.length))).set β.length (.deep el (.sl eq) [l] tq eq 0 P5 [])=((eff s.gl s.T).set q .gone).map (mR (zn β.length))++[.deep el (.sl eq) [l] tq eq 0 P5 []]:=by
      rw[Q7,List.set_append_right _ _ (by simp[hTl])]
      simp[hTl]
     rw[<-this];exact ok3
    .intro p' hp';rw[fM,Cj]at hp';rcases hp' with hp' | hp'
     .obtain⟨p2,h1,h2⟩:=Az hp';rw[<-h2];exact nO ah p2 h1
     .simp at hp';subst hp';rfl
    .rw[hlen];rw[nX (by simp)]
   .cases k
  .cases k
 .cases k
theorem C9{i:TI}{m c o:Nat} (hu:P.underlying t=some (.slice el)) (ki:aU P el i) (hs1:1<=i.size) (hb1:1<=i.bytes) (hm:1<=m) (room:wE (n+m) i.bytes)
 (hcs:cs.length=m * i.size) (hnews:∀j u,cs[j]?=some u->w.cell? ⟨b,o+j,none⟩=some u) (h1:∀u∈cs,u.oneCell'=true){old:List Value} (hol:old.length=n * i.size)
 (row:(v=.slice none 0 0/\n=0)\/(∃a,v=.slice (some a) 0 0/\n=0)\/∃g cap cur,v=.slice (some ⟨g,0,none⟩) n cap/\w.heap[g]?=some (.cells cur el (0,0))/\n<=cap/\(1<=cap/\cap<=maxLen)/\cur.size=cap * i.size/\cur.toList.take (n * i.size)=old):
 ∃w' g' cap' cur',(Builtin.append_ #[t,t] ty #[v,.slice (some ⟨b,o,none⟩) m c]).run P w=.ok (.slice (some ⟨g',0,none⟩) (n+m) cap') w'/\Gb w w' (au v)/\w'.heap[g']?=some (.cells cur' el (0,0))/\n+m<=cap'/\(1<=cap'/\cap'<=maxLen) /\
   cur'.size=cap' * i.size/\(au v=some g'\/(w.heap.size<=g'/\g' < w'.heap.size))/\cur'.toList.take ((n+m) * i.size)=old++cs:=by
 obtain⟨inf,z,i1,i2,i3,i4,i5⟩:=ki.info;unfold wE at room;have hn:n+m<=140737488355328:=o9 (ZT _ hb1) room;have RQ:z.cells.size=i.size:=by rw[i5];simpa using ki.mP
 have hcs':cs.length=m * inf.size:=by rw[i2];exact hcs
 have hnews':∀j u,cs[j]?=some u->w.cell? ((⟨b,o,none⟩:Addr).add j)=some u:=λj u e=>by rw[add_lit];exact hnews j u e
 have grown:∀(scap:Nat),∃w' g' cap' cur',w'=w.drew.alloc (.cells (old.toArray++cs.toArray++Builtin.zeroCells z.cells (grownCap w (n+m) scap el - (n+m))) el)/\g'=w.heap.size/\cap'=grownCap w (n+m) scap el/\Gb w w' (au v)/\w'.heap[g']?=some (.cells cur' el (0,0))/\n+m<=cap'/\(1<=cap'/\cap'<=maxLen) /\
  cur'.size=cap' * i.size/\(au v=some g'\/(w.heap.size<=g'/\g' < w'.heap.size))/\cur'.toList.take ((n+m) * i.size)=old++cs:=by
  intro scap;have hge:=grownCap_ge w (n+m) scap el;refine⟨_,_,_,_,rfl,rfl,rfl,⟨⟨rfl,rfl,rfl,by simp,λk hk _=>(World.grownBy_alloc w.drew _ none).block k hk (by simp)⟩,LQ _⟩,heap_alloc_new w.drew _,hge,⟨by omega,grownCap_le_maxLen w _ scap el (by simp only[maxLen];omega)⟩,?_,.inr ⟨mZ _,by simp⟩,?_⟩
  .simp only[VY,CO,size_zeroCells,RQ,hcs,hol,<-Gx]
   congr 1;omega
  .simp only[ZV];rw[show(n+m) * i.size=(old++cs).length by rw[kD,hol,hcs,Gx],QW]
 rcases row with⟨rfl,hn0⟩ | ⟨ra,rfl,hn0⟩ | ⟨g,cap,cur,rfl,q1,q2,q3,q4,q5⟩
 .subst hn0;have ho0:old=[]:=QL (by simpa using hol)
  subst ho0;have r:=run_append_nil (P:=P) w t ty el inf z hu i1 i4 ⟨b,o,none⟩ m c cs hcs' hnews' (by omega) (by omega) (by rw[i3];simp at room;omega)
  obtain⟨w',g',cap',cur',rfl,rfl,rfl,rest⟩:=grown 0;refine⟨_,_,_,cur',?_,rest⟩;simpa using r
 .subst hn0;have ho0:old=[]:=QL (by simpa using hol)
  subst ho0;have r:=run_append_grow (P:=P) w t ty el inf z hu i1 i4 ra 0 0 [] (by simp) (λj u e=>by simp at e) ⟨b,o,none⟩ m c cs hcs' hnews' (by omega) (by omega) (growslice_fits (by omega) (by rw[i3];simpa using room))
  obtain⟨w',g',cap',cur',rfl,rfl,rfl,rest⟩:=grown 0;exact⟨_,_,_,cur',r,rest⟩
 .by_cases hroom:n+m<=cap
  .have hfit:n * inf.size+cs.length<=cur.size:=by rw[hcs,q4,i2,<-Gx];exact vO _ hroom
   have r:=run_append_room (P:=P) w t ty el inf hu i1 g n cap cur q1 ⟨b,o,none⟩ m c cs hcs' hnews' h1 hroom hfit;have e1:(List.take (n * i.size) cur.toList++cs).length=(n+m) * i.size:=by rw[kD,q5,hol,hcs,Gx]
   refine⟨_,g,cap,_,r,by rw[aO q3.1];exact iq w g _,setRow_heap w g cur _ el _ q1,hroom,q3,?_,.inl (aO q3.1),?_⟩
   .have aiP:n * i.size+cs.length<=cur.size:=by rw[<-i2];exact hfit
    simp only[i2,CO,kD,mY,yT,OL (xs:=cur)];rw[<-q4];omega
   .show(List.take (n * inf.size) cur.toList++cs++List.drop (n * inf.size+cs.length) cur.toList).take ((n+m) * i.size)=old++cs;rw[i2,<-e1,QW,q5]
  .have holds:∀j u,old[j]?=some u->w.cell? ((⟨g,0,none⟩:Addr).add j)=some u:=by
    intro j u e;rw[add_lit,yU,cell_of_row w g j cur el (0,0) q1];rw[<-q5,uh]at e;split at e
    .simpa using e
    .cases e
   have r:=run_append_grow (P:=P) w t ty el inf z hu i1 i4 ⟨g,0,none⟩ n cap old (by rw[hol,i2]) holds ⟨b,o,none⟩ m c cs hcs' hnews' (by omega) (by omega) (growslice_fits (by omega) (by rw[i3];exact room))
   obtain⟨w',g',cap',cur',rfl,rfl,rfl,rest⟩:=grown cap;exact⟨_,_,_,cur',r,rest⟩
theorem JY{p q:Nat->Bool} (h:j < n):nH n p q j=p j:=by simp[nH,h,cnd]
theorem JZ{p q:Nat->Bool} (h:¬j < n):nH n p q j=q (j - n):=by simp[nH,h,cnd]
abbrev x9(n:Nat) (p q:Nat->Value):Nat->Value:=λj=>if j < n then p j else q (j - n)
theorem jG{p q:Nat->Value} (h:j < n):x9 n p q j=p j:=if_pos h
theorem jH{p q:Nat->Value} (h:¬j < n):x9 n p q j=q (j - n):=if_neg h
theorem AL{L:List Value}{M a:Nat} (h:a+k<=M):((L.take M).drop a).take k=(L.drop a).take k:=by
 apply LK;intro p;simp only[uh,Gv]
 by_cases hp:p < k
 .rw[if_pos hp,if_pos hp,if_pos (by omega)]
 .rw[if_neg hp,if_neg hp]
theorem xK.one{sh:Sh}{tt:TypeId}{e:Sh}{so:Nat}{own:Bool}{u:Value}{cs:List Value}{d:sh.den} (x:xK h w sh tt e so own false u cs d):∀z∈cs,bZ z:=by
 intro z hz;cases own with
 | false=>exact Rd.one sh x.1 z hz
 | true=>
   obtain⟨d0,y,r,_,c,q⟩:=x;obtain⟨p,hp⟩:=Ja hz
   by_cases hps:p=so
   .subst hps;rw[hp]at c;cases c;rcases q with⟨e,_⟩ | ⟨_,e,_⟩ | ⟨_,_,_,e,_⟩<;>subst e<;>exact⟨rfl,rfl⟩
   .refine Rd.one sh r z (kT (i:=p) ?_);rw[kU (Ne.symm hps)];exact hp
theorem dN.join{sh:Sh}{l1 l2:List sh.den}{vw wQ:Nat->Bool}{v1 v2:Value}{Nh qU:Nat->Value}{g' cap':Nat}{cur':Array Value}{old:List Value}
 (D1:dN h w t sh l1 tt e so vw [] v1 Nh) (D2:dN h w t sh l2 tt e so wQ [] v2 qU) (h2:1<=l2.length)
 (qV:∀i j b,au (Nh i)=some b->au (qU j)=some b->False)
 (fr:∀b,(∃i,au (Nh i)=some b)\/(∃j,au (qU j)=some b)->w'.heap[b]?=w.heap[b]?/\b≠g')
 (c1:w'.heap[g']?=some (.cells cur' t (0,0))) (c2:l1.length+l2.length<=cap') (c3:1<=cap'/\cap'<=maxLen) (c4:cur'.size=cap' * sh.size) (hol:old.length=l1.length * sh.size)
 (c5:cur'.toList.take ((l1.length+l2.length) * sh.size)=old++cs)
 (e1:∀j d,l1[j]?=some d->xK h w sh tt e so (vw j) false (Nh j) ((old.drop (j * sh.size)).take sh.size) d)
 (e2:∀j d,l2[j]?=some d->xK h w sh tt e so (wQ j) false (qU j) ((cs.drop (j * sh.size)).take sh.size) d):
 dN h w' t sh (l1++l2) tt e so (nH l1.length vw wQ) [] (.slice (some ⟨g',0,none⟩) (l1.length+l2.length) cap') (x9 l1.length Nh qU):=by
 refine⟨λj k b hj hk=>?_,λj b hj=>?_,.inr (.inr ⟨g',cap',cur',by rw[kD],c1,by rw[kD];exact c2,c3,c4,λj hj=>?_,λj d hj=>?_⟩)⟩
 .by_cases a1:j < l1.length<;>by_cases a2:k < l1.length
  .rw[jG a1]at hj;rw[jG a2]at hk;exact D1.1 j k b hj hk
  .rw[jG a1]at hj;rw[jH a2]at hk;exact(qV _ _ b hj hk).elim
  .rw[jH a1]at hj;rw[jG a2]at hk;exact(qV _ _ b hk hj).elim
  .rw[jH a1]at hj;rw[jH a2]at hk;have:=D2.1 _ _ b hj hk;omega
 .by_cases a1:j < l1.length
  .rw[jG a1]at hj;rw[(fr b (.inl ⟨j,hj⟩)).1];exact⟨by rw[kD];omega,(D1.2.1 j b hj).2⟩
  .rw[jH a1]at hj;rw[(fr b (.inr ⟨_,hj⟩)).1];have:=D2.2.1 _ b hj;exact⟨by rw[kD];omega,this.2⟩
 .by_cases a1:j < l1.length
  .rw[jG a1]at hj;exact(fr g' (.inl ⟨j,hj⟩)).2 rfl
  .rw[jH a1]at hj;exact(fr g' (.inr ⟨_,hj⟩)).2 rfl
 .have hjl:=(eU.1 hj).1;rw[kD]at hjl;have hm:(j+1) * sh.size<=(l1.length+l2.length) * sh.size:=vO _ hjl;rw[uN]at hm;have cut:(cur'.toList.drop (j * sh.size)).take sh.size=((old++cs).drop (j * sh.size)).take sh.size:=by
   rw[<-c5,AL hm]
  rw[cut,show lC j []=false from rfl]
  rw[ZU]at hj;split at hj
  .rename_i a1;rw[jG a1,JY a1];have hm1:(j+1) * sh.size<=l1.length * sh.size:=vO _ a1;rw[uN]at hm1;have:((old++cs).drop (j * sh.size)).take sh.size=(old.drop (j * sh.size)).take sh.size:=by
    rw[A96 (by omega),A87 (by rw[yT];omega)]
   rw[this];exact(e1 j d hj).move (FH.le.refl h) λb hb=>(fr b (.inl ⟨j,hb⟩)).1
  .rename_i a1;rw[jH a1,JZ a1];have hjj:j * sh.size=l1.length * sh.size+(j - l1.length) * sh.size:=by rw[<-Gx];congr 1;omega
   have:(old++cs).drop (j * sh.size)=cs.drop ((j - l1.length) * sh.size):=by
    rw[hjj,<-hol,A70]
   rw[this];exact(e2 _ d hj).move (FH.le.refl h) λb hb=>(fr b (.inr ⟨_,hb⟩)).1
theorem P8(hc:bT P cx.ti) (ah:Sat N B h0 s h β w a) (hg:aG cx.gd h) (hd:jC N o.dst=true){x y:Operand} (ho:o.op=.call c) (bH:c.callee=.builtin .append) (ha:c.args=#[x,y]) (ht:c.argTypes=#[t,t])
 {r:Nat} (hx:bI cx s [] x=some (.one (.c (.row r)))){dR:Sh}{l1:List dR.den}{t1:TypeId}{e1:Sh}{Nc:Nat}{vw:Nat->Bool} (hT:dH s.T r=some ([],.deep tt dR l1 t1 e1 Nc vw []))
 {r2:Nat} (hy:bI cx s [] y=some (.one (.c (.row r2)))){P6:TypeId}{lZ:Sh}{l2:List lZ.den}{t2:TypeId}{e2:Sh}{so2:Nat}{wQ:Nat->Bool} (hT2:dH s.T r2=some ([],.deep P6 lZ l2 t2 e2 so2 wQ []))
 (k:Tf cx s o.dst t r tt dR l1 t1 e1 Nc vw r2 P6 lZ l2 t2 e2 so2 wQ K):eG P N B h0 h w a o true K:=by
 have tr:gv s.gl []=true:=rfl;unfold Tf fP at k;split at k
 .rename_i el hde;have hu:=bg hc hde (by simp)
  split at k
  .cases k
  rename_i ie hie;have tie:=hc.get hie;split at k
  .cases k
  rename_i sh hsh;split at k
  .rename_i hz;rw[ay,ay,A8,A8]at hz;have hz1:sh.size=ie.size:=gI hz.1;have hz2:1<=ie.bytes:=lK hz.2.1;have hz3:1<=ie.size:=lK hz.2.2;split at k
   .rename_i hq;rw[ay,ay,ay,ay,ay,A8,A8,A8,A8,A8,iE]at hq;obtain⟨q1,q2,q3,q4,q5,q6⟩:=hq;have q1:tt=el:=gI q1;have q2:P6=el:=gI q2;have q3:t1=t2:=gI q3;have q5:Nc=so2:=gI q5;have hrr:r2≠r:=JW q6;subst q1;subst q2;subst q3;subst q4;subst q5;split at k
    .rename_i m1 hm1;obtain⟨f1,f2⟩:=l7 hm1;subst f1;simp only at f2;subst f2;split at k
     .rename_i m2 hm2;obtain⟨f1,f2⟩:=l7 hm2;subst f1;simp only at f2;subst f2;obtain⟨⟨k1,k2⟩,k⟩:=k;have eF:=bf hT tr;have P9:=bf hT2 tr;have cx1:=(aH ah hg tr hx:bV h β (.c (.row r)) (a.eval x));have cy1:=(aH ah hg tr hy:bV h β (.c (.row r2)) (a.eval y));obtain⟨Nh,hb1,D1⟩:=ah.ok.sU eF cx1.1;obtain⟨qU,hb2,D2⟩:=ah.ok.sU P9 cy1.1;have afu:∀b,(RV.deep (a.eval x) Nh).has b->B.al b/\b < w.heap.size/\∀o,h b o=none:=λb hb=>ah.ok.own r _ _ b eF rfl hb1 hb
      have aaj:∀b,(RV.deep (a.eval y) qU).has b->B.al b/\b < w.heap.size/\∀o,h b o=none:=λb hb=>ah.ok.own r2 _ _ b P9 rfl hb2 hb
      have apart:∀b,(RV.deep (a.eval x) Nh).has b->(RV.deep (a.eval y) qU).has b->False:=λb p q=>hrr (ah.ok.inj r2 r _ _ _ _ b P9 rfl eF rfl hb2 hb1 q p)
      obtain⟨g2,cap2,AA,v0,v1,v2,v3,v4,v5,v6⟩:=D2.third (j:=0) (by omega)
      have hsz2:l2.length * lZ.size<=cap2 * lZ.size:=vO _ v2;have hcs:(AA.toList.take (l2.length * lZ.size)).length=l2.length * lZ.size:=by rw[mY,OL (xs:=AA)];omega
      have el2:∀j d,l2[j]?=some d->xK h w lZ t1 e1 Nc (wQ j) false (qU j) (((AA.toList.take (l2.length * lZ.size)).drop (j * lZ.size)).take lZ.size) d:=by
       intro j d hj;have hjl:=(eU.1 hj).1;have hm:(j+1) * lZ.size<=l2.length * lZ.size:=vO _ hjl;rw[uN]at hm;rw[AL hm];exact v6 j d hj
      have ahR:∀u∈AA.toList.take (l2.length * lZ.size),u.oneCell'=true:=by
       intro u hu;obtain⟨p,hp⟩:=Ja hu;have hpl:=(eU.1 hp).1;rw[hcs]at hpl;have hs0:0 < lZ.size:=by rw[hz1];exact hz3
       have hjl:p / lZ.size < l2.length:=by rw[Nat.div_lt_iff_lt_mul hs0];exact hpl
       have hdm:p / lZ.size * lZ.size+p % lZ.size=p:=by rw[Nat.mul_comm];exact Nat.div_add_mod p lZ.size
       refine((el2 _ _ (kW hjl)).one u (kT (i:=p % lZ.size) ?_)).2;rw[uh,if_pos (Nat.mod_lt _ hs0),Gv,hdm];exact hp
      obtain⟨old,hol,row,el1,nb1⟩:∃old:List Value,old.length=l1.length * lZ.size/\((a.eval x=.slice none 0 0/\l1.length=0)\/(∃ad,a.eval x=.slice (some ad) 0 0/\l1.length=0)\/∃g cap cur,a.eval x=.slice (some ⟨g,0,none⟩) l1.length cap/\w.heap[g]?=some (.cells cur P6 (0,0))/\l1.length<=cap/\(1<=cap/\cap<=maxLen)/\cur.size=cap * ie.size/\cur.toList.take (l1.length * ie.size)=old) /\
       (∀j d,l1[j]?=some d->xK h w lZ t1 e1 Nc (vw j) false (Nh j) ((old.drop (j * lZ.size)).take lZ.size) d)/\∀i b,au (Nh i)=some b->au (a.eval x)≠some b:=by
       rcases D1.2.2 with⟨e,rfl⟩ | ⟨ad,e,rfl⟩ | ⟨g,cap,cur,u0,u1,u2,u3,u4,u5,u6⟩
       .exact⟨[],by simp,.inl ⟨e,rfl⟩,λj d hj=>by simp at hj,λi b _=>by rw[e];simp[au]⟩
       .exact⟨[],by simp,.inr (.inl ⟨ad,e,rfl⟩),λj d hj=>by simp at hj,λi b _=>by rw[e];simp[au]⟩
       .have hsz1:l1.length * lZ.size<=cap * lZ.size:=vO _ u2;refine⟨cur.toList.take (l1.length * lZ.size),by rw[mY,OL (xs:=cur)];omega,.inr (.inr ⟨g,cap,cur,u0,u1,u2,u3,by rw[<-hz1];exact u4,by rw[hz1]⟩),λj d hj=>?_,λi b hb=>by rw[u0,aO u3.1];intro hh;cases hh;exact u5 i hb⟩
        have hjl:=(eU.1 hj).1;have hm:(j+1) * lZ.size<=l1.length * lZ.size:=vO _ hjl;rw[uN]at hm;rw[AL hm];exact u6 j d hj
      obtain⟨w',g',cap',cur',r1,gb,c1,c2,c3,c4,c6,c5⟩:=C9 (ty:=o.type) (b:=g2) (o:=0) (c:=cap2) (m:=l2.length) (n:=l1.length) (cs:=AA.toList.take (l2.length * lZ.size)) (old:=old) hu tie hz3 hz2 k1 k2 (by rw[hcs,hz1]) (λj u hj=>by
       rw[yU,cell_of_row w g2 j AA P6 (0,0) v1];rw[uh]at hj;split at hj
       .simpa using hj
       .cases hj) ahR (by rw[hol,hz1]) row
      have fr:∀b,(∃i,au (Nh i)=some b)\/(∃j,au (qU j)=some b)->w'.heap[b]?=w.heap[b]?/\b≠g':=by
       rintro b (⟨i,hb⟩ | ⟨j,hb⟩)
       .have o1:=(afu b (aN.2 (.inr ⟨i,hb⟩))).2.1;refine⟨gb.block b o1 λhh=>nb1 i b hb hh.symm,?_⟩
        rintro rfl;rcases c6 with c6 | c6
        .exact nb1 i b hb c6
        .omega
       .have o1:=(aaj b (aN.2 (.inr ⟨j,hb⟩))).2.1;refine⟨gb.block b o1 λhh=>apart b (aN.2 (.inl hh.symm)) (aN.2 (.inr ⟨j,hb⟩)),?_⟩
        rintro rfl;rcases c6 with c6 | c6
        .exact apart b (aN.2 (.inl c6)) (aN.2 (.inr ⟨j,hb⟩))
        .omega
      have J:=dN.join (w':=w') (g':=g') (cap':=cap') (cur':=cur') (old:=old) (cs:=AA.toList.take (l2.length * lZ.size)) D1 D2 k1 (λi j b p q=>apart b (aN.2 (.inr ⟨i,p⟩)) (aN.2 (.inr ⟨j,q⟩))) fr c1 c2 c3 (by rw[hz1];exact c4) hol (by rw[hz1];rw[hz1]at c5;exact c5) el1 el2
      have run:(execOp a.eval o).run P w=.ok (.value (.slice (some ⟨g',0,none⟩) (l1.length+l2.length) cap')) w':=by
       rw[<-v0]at r1;simp[execOp,ho,resolve,bH,ha,ht,invoke,builtin,r1]
      have ok1:=ah.ok.forget P9;have hT1:((eff s.gl s.T).set r2 .gone)[r]?=some (.deep P6 lZ l1 t1 e1 Nc vw []):=by rw[kU hrr];exact eF
      have hrl:r < β.length:=(eU.1 hb1).1;have ok2:=ok1.JX (f:=zn r) (r':=.deep P6 lZ (l1++l2) t1 e1 Nc (nH l1.length vw wQ) []) (v:=.deep (.slice (some ⟨g',0,none⟩) (l1.length+l2.length) cap') (x9 l1.length Nh qU)) (row:=au (a.eval x)) (X:=λb=>∃j,au (qU j)=some b) hT1 rfl hb1 gb (λk e=>aN.2 (.inl e))
       (λb hb=>by
        have hb:(RV.deep (a.eval y) qU).has b:=aN.2 (.inr hb);obtain⟨o1,o2,o3⟩:=aaj b hb;refine⟨o1,o2,o3,λj' rj vj hj' ej lj iP hbj=>?_⟩
        have hjq:j'≠r2:=by
         rintro rfl;rw[nX (eU.1 P9).1]at ej;cases ej;cases lj
        rw[kU (Ne.symm hjq)]at ej;exact hjq (ah.ok.inj j' r2 _ _ _ _ b ej lj P9 rfl iP hb2 hbj hb))
       (λb hb=>by
        rw[aN]at hb;rcases hb with hb | ⟨j,hb⟩
        .rw[aO c3.1]at hb;cases hb;exact c6.elim (λq=>.inl (aN.2 (.inl q))) λq=>.inr (.inr q)
        .by_cases a1:j < l1.length
         .rw[jG a1]at hb;exact .inl (aN.2 (.inr ⟨j,hb⟩))
         .rw[jH a1]at hb;exact .inr (.inl ⟨_,hb⟩))
       (λx y c=>c.jk _) J
      intro Nx Q next
      rw[if_pos rfl];refine gV run (next _ _ _ _ _ k (FH.le.refl h) (λhh=>by rw[ho]at hh;simp[quietly,bH]at hh) ((ah.map (f:=zn r) (T':=bQ (mT (zn r) (bQ s.T r2 ([],.gone))) r ([],.deep P6 lZ (l1++l2) t1 e1 Nc (nH l1.length vw wQ) [])) (β':=β.set r (.deep (.slice (some ⟨g',0,none⟩) (l1.length+l2.length) cap') (x9 l1.length Nh qU))) (FH.le.refl h) (λ_=>rfl) (λx y c=>c.jk _) ?_ ?_).put (cZ hd) rfl (λ_=>⟨⟨.deep (.slice (some ⟨g',0,none⟩) (l1.length+l2.length) cap') (x9 l1.length Nh qU),?_,rfl⟩,rfl,rfl⟩) λhh=>by cases hh))
      .rw[dY,Aw,dY];exact ok2
      .intro p' hp';rw[dM]at hp';rcases LH hp' with hp' | hp'
       .obtain⟨p2,h1,h2⟩:=Az hp';rw[<-h2];exact nO ah p2 h1
       .subst hp';rfl
      .rw[nX hrl]
     .cases k
    .cases k
   .cases k
  .cases k
 .cases k
theorem Ti(hc:bT P cx.ti) (ah:Sat N B h0 s h β w a) (hg:aG cx.gd h) (hd:jC N o.dst=true){p:Prop} (e:apP cx s o K=some p) (k:p):eG P N B h0 h w a o (Region.wanted o (yielded ops a.tmps)) K:=by
 unfold apP at e;split at e
 .cases e
 split at e
 .cases e
 rename_i hgd;rw[show Region.wanted o (yielded ops a.tmps)=true by simp[Region.wanted,hgd]]
 split at e
 .rename_i t ps ho;split at e
  .rename_i x hps;split at e
   .rename_i q hx;split at e
    .rename_i tq eq l hTq;cases e;exact P7 hc ah hg hd ho hTq k
    .cases e
   .cases e
  .cases e
 .rename_i c ho;split at e
  .rename_i bH;split at e
   .rename_i x y ha;split at e
    .rename_i r hx;split at e
     .rename_i tt dR l1 t1 e1 Nc vw hT;split at e
      .rename_i r2 hy;split at e
       .rename_i P6 lZ l2 t2 e2 so2 wQ hT2;split at e
        .rename_i t t' ht;split at e
         .rename_i hb;have hb:t=t':=gI hb;subst hb;cases e;exact P8 hc ah hg hd ho bH (gK ha) (gK ht) hx hT hy hT2 k
         .cases e
        .cases e
       .cases e
      .cases e
     .cases e
    .cases e
   .cases e
  .cases e
 .cases e
theorem Tj(h1:∀t n ps,o.op≠.buildSlice t n ps) (h2:∀c,o.op=.call c->c.callee≠.builtin .append):apP cx s o K=none:=by
 cases hp:apP cx s o K with
 | none=>rfl
 | some p=>
   exfalso;unfold apP at hp;split at hp
   .cases hp
   split at hp
   .cases hp
   split at hp
   .rename_i t ps ho;exact h1 _ _ _ ho
   .rename_i c ho;split at hp
    .rename_i bH;exact h2 c ho bH
    .cases hp
   .cases hp
abbrev aby(cx:Cx) (s:St) (o:Oper) (K:St->Prop):Option Prop:=match apP cx s o K with
 | some p=>some p
 | none=>match tlP cx s o K with
   | some p=>some p
   | none=>abl cx s o K
theorem Xn(hc:bT P cx.ti) (ah:Sat N B h0 s h β w a) (hg:aG cx.gd h) (hd:jC N o.dst=true){p:Prop} (e:aby cx s o K=some p) (k:p):yI P N B h0 h w a o (Region.wanted o (yielded ops a.tmps)) K:=by
 unfold aby at e;split at e
 .rename_i p' hp;cases e;exact(Ti hc ah hg hd hp k).weak
 .split at e
  .rename_i p' hp;cases e;exact abw hc ah hg hd hp k
  .exact Xf hc ah hg hd e k
end
abbrev Tn(cx:Cx) (s:St) (d:Option Nat) (t:TypeId) (i:Nat) (lo:Operand) (K:St->Prop):Prop:=fP cx t λel ie sh=>match dH s.T i with
 | some ([],.row tt dR l1)=>match iV (.sl dR) l1 (.sl sh) with
   | some l=>match bI cx s [] lo with
     | some (.one (.c (.v (.int _ n))))=>(0<=n/\n<=l.length)/\K ({ s with T:=bQ s.T i ([],.Dk tt sh l n.toNat) }.put d [] (.one (.c (.sub i 0))))
     | _=>False
   | none=>False
 | _=>False
abbrev Tq(cx:Cx) (s:St) (d:Option Nat) (t:TypeId) (i:Nat) (y:Operand) (K:St->Prop):Prop:=fP cx t λel ie sh=>match dH s.T i with
 | some ([],.Dk tt dR l1 off)=>match iV (.sl dR) l1 (.sl sh) with
   | some l=>match bI cx s [] y with
     | some (.one v)=>match EL s sh v with
       | some l2=>K ({ s with T:=bQ (mT (rO i) s.T) i ([],.row tt sh (l.take off++(l2.take (l.length - off)++(l.drop off).drop l2.length))),env:=wM (rO i) s.env }.put d [] (vI .i64 (Nat.min l2.length (l.length - off))))
       | none=>False
     | _=>False
   | none=>False
 | _=>False
abbrev Tt(cx:Cx) (s:St) (d:Option Nat) (t:TypeId) (dR:Sh) (x1:dR.den) (K:St->Prop):Prop:=fP cx t λel ie sh=>match iV dR x1 sh with
 | some x=>match Nat.ble ie.size 16777216 with
   | true=>K ({ s with T:=snoc s.T ([],.row el sh [x]) }.put d [] (.one (.c (.row (aJ s.T)))))
   | false=>False
 | none=>False
abbrev rtP(cx:Cx) (s:St) (o:Oper) (K:St->Prop):Option Prop:=match cx.rt with
 | false=>none
 | true=>match o.guard with
   | some _=>none
   | none=>match o.op with
     | .buildSlice t 1 ps=>match tl ps with
       | [(0,x)]=>match bI cx s [] x with
         | some (.one (.dat dR x1))=>some (Tt cx s o.dst t dR x1 K)
         | _=>none
       | _=>none
     | .slice t x (some lo) none none=>match bI cx s [] x with
       | some (.one (.c (.row i)))=>match dH s.T i with
         | some ([],.row _ _ _)=>some (Tn cx s o.dst t i lo K)
         | _=>none
       | _=>none
     | .call c=>match c.callee with
       | .builtin .copy=>match tl c.args with
         | [x,y]=>match bI cx s [] x with
           | some (.one (.c (.sub i 0)))=>match dH s.T i with
             | some ([],.Dk _ _ _ _)=>match tl c.argTypes with
               | [t,_]=>some (Tq cx s o.dst t i y K)
               | _=>none
             | _=>none
           | _=>none
         | _=>none
       | _=>none
     | _=>none
section
variable {cx:Cx}{P:Program}{N:Nat}{B:Base}{h0:FH}{s:St}{h:FH}{β:List RV}{w:World}{a:Act}{o:Oper}{K:St->Prop}
theorem dG.js2{us:Nat->Value} (hu:β[i]?=some (.deep v us)){x:SC} (c:dG h β x y):dG h (β.set i (.row v)) (rO i x) y:=by
 unfold rO;split
 .rename_i hf;cases x with
  | v _=>exact c
  | sl _ _=>exact c
  | fp _ _=>exact c
  | one _ _=>exact c
  | abs _=>exact c
  | junk=>trivial
  | own j off=>
    obtain⟨b,e,e'⟩:=c;refine⟨b,?_,e'⟩;rw[dA hu,if_neg]
    .exact e
    .rintro rfl;rw[hu]at e;cases e
  | row j=>
    obtain⟨z,e,e'⟩:=c
    by_cases hj:j=i
    .subst hj;rw[hu]at e;cases e;exact⟨.row v,by rw[dA hu,if_pos rfl],e'⟩
    .exact⟨z,by rw[dA hu,if_neg hj];exact e,e'⟩
  | jh j k sz off=>
    obtain⟨z,g,e,e',e2⟩:=c
    by_cases hj:j=i
    .subst hj;rw[hu]at e;cases e;exact⟨.row v,g,by rw[dA hu,if_pos rfl],e',e2⟩
    .exact⟨z,g,by rw[dA hu,if_neg hj];exact e,e',e2⟩
  | sub j k=>
    obtain⟨z,qU,e,e'⟩:=c;exact⟨z,qU,by rw[dA hu,if_neg (JW hf)];exact e,e'⟩
  | jX j k m sz off=>
    obtain⟨z,qU,g,e,e'⟩:=c;exact⟨z,qU,g,by rw[dA hu,if_neg (JW hf)];exact e,e'⟩
 .trivial
theorem dG.js3{us:Nat->Value} (hu:β[i]?=some (.row v)){x:SC} (c:dG h β x y):dG h (β.set i (.deep v us)) x y:=by
 cases x with
 | v _=>exact c
 | sl _ _=>exact c
 | fp _ _=>exact c
 | one _ _=>exact c
 | abs _=>exact c
 | junk=>trivial
 | own j off=>
   obtain⟨b,e,e'⟩:=c;refine⟨b,?_,e'⟩;rw[dA hu,if_neg]
   .exact e
   .rintro rfl;rw[hu]at e;cases e
 | row j=>
   obtain⟨z,e,e'⟩:=c
   by_cases hj:j=i
   .subst hj;rw[hu]at e;cases e;exact⟨.deep v us,by rw[dA hu,if_pos rfl],e'⟩
   .exact⟨z,by rw[dA hu,if_neg hj];exact e,e'⟩
 | jh j k sz off=>
   obtain⟨z,g,e,e',e2⟩:=c
   by_cases hj:j=i
   .subst hj;rw[hu]at e;cases e;exact⟨.deep v us,g,by rw[dA hu,if_pos rfl],e',e2⟩
   .exact⟨z,g,by rw[dA hu,if_neg hj];exact e,e',e2⟩
 | sub j k=>
   obtain⟨z,qU,e,e'⟩:=c;refine⟨z,qU,?_,e'⟩;rw[dA hu,if_neg]
   .exact e
   .rintro rfl;rw[hu]at e;cases e
 | jX j k m sz off=>
   obtain⟨z,qU,g,e,e'⟩:=c;refine⟨z,qU,g,?_,e'⟩;rw[dA hu,if_neg]
   .exact e
   .rintro rfl;rw[hu]at e;cases e
theorem mid(l:List SC):dQ (λx=>x) l=l:=by
 induction l with
 | nil=>rfl
 | cons x l ih=>simp[dQ,ih]
theorem ahS(e:aW):mE (λx=>x) e=e:=by
 have m2:∀x:SV,mV (λx=>x) x=x:=by intro x;cases x<;>simp[mV,mid]
 cases e with
 | one x=>simp[mE,m2]
 | iQ xs=>
   have:∀l:List SV,dQ (mV λx=>x) l=l:=by
    intro l
    induction l with
    | nil=>rfl
    | cons x l ih=>simp[dQ,ih,m2]
   simp[mE,this]
theorem Qa(hc:bT P cx.ti) (ah:Sat N B h0 s h β w a) (hg:aG cx.gd h) (hd:jC N o.dst=true){x lo:Operand} (ho:o.op=.slice t x (some lo) none none)
 (hx:bI cx s [] x=some (.one (.c (.row i)))) (k:Tn cx s o.dst t i lo K):eG P N B h0 h w a o (gv s.gl []) K:=by
 have tr:gv s.gl []=true:=rfl;unfold Tn fP at k;split at k
 .rename_i el hde;have hu:=bg hc hde (by simp)
  split at k
  .cases k
  rename_i ie hie;have tie:=hc.get hie;split at k
  .cases k
  rename_i sh hsh;split at k
  .rename_i hz;rw[ay,ay,A8,A8]at hz;have hz1:sh.size=ie.size:=gI hz.1;split at k
   .rename_i tt dR l1 hT;split at k
    .rename_i l hl;obtain⟨e1,e2⟩:=l7 hl;subst e1;simp only at e2;subst e2;split at k
     .rename_i ik n hn;have eh:a.eval lo=.int ik n:=(aH ah hg tr hn:bV h β (.c (.v (.int ik n))) (a.eval lo)).1.1;obtain⟨⟨b1,b2⟩,q⟩:=k;have cr:=(aH ah hg tr hx:bV h β (.c (.row i)) (a.eval x));have eF:=bf hT tr;have hβ:=ah.ok.row_of eF cr.1;have jr:kE h w tt dR l1 (a.eval x):=ah.ok.holds i _ _ eF hβ;have hi':i < β.length:=(eU.1 hβ).1;obtain⟨ad,cap,ev,hle⟩:∃(ad:Option Addr) (cap:Nat),a.eval x=.slice ad l1.length cap/\l1.length<=cap:=by
       rcases jr with⟨e,e0⟩ | ⟨ra,e,e0⟩ | ⟨g,cap,cur,e,q1,q2,_⟩
       .exact⟨none,0,by rw[e,e0];rfl,by rw[e0];simp⟩
       .exact⟨some ra,0,by rw[e,e0];rfl,by rw[e0];simp⟩
       .exact⟨_,cap,e,q2⟩
      have run:(execOp a.eval o).run P w=.ok (.value (.slice (if cap=n.toNat then ad else ad.map (·.add (n.toNat * ie.size))) (l1.length - n.toNat) (cap - n.toNat))) w:=by
       have:=lX (P:=P) (w:=w) (isS:=true) (len:=l1.length) (cap:=cap) (lo:=some (.int ik n)) (hi:=none) (a:=n) (b:=l1.length) (.inr ⟨ik,rfl⟩) (.inl ⟨rfl,rfl⟩) (by omega) hle
       have r2:(Instr.sliceAt t (a.eval x) (some (.int ik n)) none none).run P w=.ok (.slice (if cap=n.toNat then ad else ad.map (·.add (n.toNat * ie.size))) (l1.length - n.toNat) (cap - n.toNat)) w:=by
        rw[ev];simp only[Instr.sliceAt,Instr.slice,Sem.run_bind,run_underlying hu,Result.andThen_ok,this,run_sizeOf tie,Sem.run_pure,Int.toNat_natCast]
       simp only[execOp,ho,Sem.run_bind,WC,QO,eh];rw[r2];rfl
      rw[<-hz1]at run;have hold:zL h w tt dR l1 n.toNat (a.eval x) (λ_=>.slice (if cap=n.toNat then ad else ad.map (·.add (n.toNat * dR.size))) (l1.length - n.toNat) (cap - n.toNat)):=⟨jr,by omega,ad,cap,ev,hle,rfl⟩
      generalize hus:(λ_:Nat=>Value.slice (if cap=n.toNat then ad else ad.map (·.add (n.toNat * dR.size))) (l1.length - n.toNat) (cap - n.toNat))=us at hold
      have h0':us 0=.slice (if cap=n.toNat then ad else ad.map (·.add (n.toNat * dR.size))) (l1.length - n.toNat) (cap - n.toNat):=by rw[<-hus]
      rw[<-h0']at run;have ahT:bZ (us 0):=by rw[h0'];exact⟨rfl,rfl⟩
      have hC:∀x' y,dG h β x' y->dG h (β.set i (.deep (a.eval x) us)) x' y:=λ_ _ c=>c.js3 hβ
      have aK:Sat N B h0 { s with T:=bQ s.T i ([],.Dk tt dR l1 n.toNat) } h (β.set i (.deep (a.eval x) us)) w a:=by
       refine⟨?_,?_,ah.gs,ah.defers,ah.sz,ah.gb,nO ah⟩
       .show OK B h0 (eff s.gl (bQ s.T i ([],.Dk tt dR l1 n.toNat))) h _ w;rw[uV];have:=ah.ok.JX (f:=λx=>x) (r':=.Dk tt dR l1 n.toNat) (v:=.deep (a.eval x) us) (row:=none) (X:=λ_=>False) eF rfl hβ (bK w none) (λk e=>by cases e) (λb hb=>hb.elim)
         (λb hb=>by
          rw[aN]at hb;rcases hb with hb | ⟨j,hb⟩
          .exact .inl (aT.2 hb)
          .exact .inl (aT.2 (hold.blk hb))) hC hold
        rwa [show(eff s.gl s.T).map (mR λx=>x)=eff s.gl s.T by rw[show(mR λx=>x)=id from funext aaf];simp]at this
       .intro t' G e' ht;obtain⟨z,q1,q2,q3⟩:=ah.env t' G e' ht;refine⟨z,q1,λhG=>?_,q3⟩
        have:=iO.map (f:=λx=>x) (FH.le.refl h) hC (q2 hG)
        rwa [ahS]at this
      intro Nx Q next
      rw[if_pos tr];refine gV run (next _ _ _ _ _ q (FH.le.refl h) (λ_=>jL.refl w) (aK.put (G:=[]) (e:=.one (.c (.sub i 0))) (cZ hd) rfl (λ_=>⟨?_,ahT⟩) λhh=>by cases hh))
      refine⟨a.eval x,us,?_,rfl⟩;rw[nX hi']
     .cases k
    .cases k
   .cases k
  .cases k
 .cases k
theorem Qb{dT sT:TypeId}{i:TI} (k:aU P el i) (hu:P.underlying dT=some (.slice el)){go dLen dCap:Nat}{b:Addr}{sLen sCap:Nat}{cur:Array Value}
 (hg:w.heap[g]?=some (.cells cur t (0,0))) (hn:cs.length=Nat.min sLen dLen * i.size) (hsrc:∀j v,cs[j]?=some v->w.cell? (b.add j)=some v) (hfit:go+cs.length<=cur.size) (h1:∀v∈cs,v.oneCell'=true):
 (Builtin.copy_ #[dT,sT] ty #[.slice (some ⟨g,go,none⟩) dLen dCap,.slice (some b) sLen sCap]).run P w=.ok (goInt (Nat.min sLen dLen)) (w.setRow g (cur.toList.take go++cs++cur.toList.drop (go+cs.length)).toArray):=by
 have hl:=run_loadCells_list (P:=P) w b cs hsrc;have hst:=run_storeCells_at P g go t cs 0 cur w hg (by simpa using hfit) h1
 simp only[O1,yU]at hst;simp[Builtin.copy_,run_underlying hu,Builtin.lenOf,Builtin.firstCells,run_sizeOf k,<-hn,hl,hst]
theorem Qc(hc:bT P cx.ti) (ah:Sat N B h0 s h β w a) (hg:aG cx.gd h) (hd:jC N o.dst=true){t':TypeId}{x y:Operand} (ho:o.op=.call c) (bH:c.callee=.builtin .copy) (ha:c.args=#[x,y]) (hat:c.argTypes=#[t,t'])
 (hx:bI cx s [] x=some (.one (.c (.sub i 0)))) (k:Tq cx s o.dst t i y K):eG P N B h0 h w a o (gv s.gl []) K:=by
 have tr:gv s.gl []=true:=rfl;unfold Tq fP at k;split at k
 .rename_i el hde;have hu:=bg hc hde (by simp)
  split at k
  .cases k
  rename_i ie hie;have tie:=hc.get hie;split at k
  .cases k
  rename_i sh hsh;split at k
  .rename_i hz;rw[ay,ay,A8,A8]at hz;have hz1:sh.size=ie.size:=gI hz.1;split at k
   .rename_i tt dR l1 off hT;split at k
    .rename_i l hl;obtain⟨e1,e2⟩:=l7 hl;subst e1;simp only at e2;subst e2;split at k
     .rename_i v hv;split at k
      .rename_i l2 hl2;obtain⟨⟨v0,us,hb,e0⟩,_⟩:=(aH ah hg tr hx:bV h β (.c (.sub i 0)) (a.eval x));have cv:=aH ah hg tr hv;have eF:=bf hT tr;have hold:zL h w tt dR l1 off v0 us:=ah.ok.holds i _ _ eF hb;have src:=wF ah hl2 cv;obtain⟨jr,hoff,ad,cap,ev,hle,eus⟩:=hold;have ex:a.eval x=.slice (if cap=off then ad else ad.map (·.add (off * dR.size))) (l1.length - off) (cap - off):=by rw[<-e0,eus]
       generalize hR:(l1.take off++(l2.take (l1.length - off)++(l1.drop off).drop l2.length))=l' at k;have exec:∀{w':World},(Builtin.copy_ #[t,t'] o.type #[a.eval x,a.eval y]).run P w=.ok (goInt (Nat.min l2.length (l1.length - off))) w'->(execOp a.eval o).run P w=.ok (.value (goInt (Nat.min l2.length (l1.length - off)))) w':=by
        intro w' r0;simp only[execOp,ho,resolve,bH,ha,hat,invoke,builtin,Sem.run_bind,Sem.run_pure,Result.andThen_ok];simp[r0]
       have fin:∀{w':World}{row:Option Nat},Gb w w' row->(∀k,row=some k->au v0=some k)->(Builtin.copy_ #[t,t'] o.type #[a.eval x,a.eval y]).run P w=.ok (goInt (Nat.min l2.length (l1.length - off))) w' ->
        kE h w' tt dR l' v0->eG P N B h0 h w a o (gv s.gl []) K:=by
        intro w' row hgr hrw r0 hr;have hC:∀x' y',dG h β x' y'->dG h (β.set i (.row v0)) (rO i x') y':=λ_ _ c=>c.js2 hb
        have ok:OK B h0 (eff s.gl (bQ (mT (rO i) s.T) i ([],.row tt dR l'))) h (β.set i (.row v0)) w':=by
         rw[dY,Aw];exact ah.ok.JX (f:=rO i) (r':=.row tt dR l') (v:=.row v0) (X:=λ_=>False) eF rfl hb hgr (λk e=>aN.2 (.inl (hrw k e))) (λb hb=>hb.elim) (λb hb=>.inl (aN.2 (.inl (aT.1 hb)))) hC hr
        have gT:∀p∈bQ (mT (rO i) s.T) i ([],aC.row tt dR l'),qX s.gl.length p.1=true:=by
         intro p hp;rw[dM]at hp;rcases LH hp with hp | hp
         .obtain⟨q,q1,q2⟩:=Az hp;rw[<-q2];exact ah.gT q q1
         .subst hp;rfl
        exact kN ah k rfl (by rw[ho];simp[quietly,bH]) (.inl (exec r0)) (FH.le.refl h) ((ah.map (FH.le.refl h) (λ_=>by rfl) hC ok gT).put (G:=[]) (e:=vI .i64 (Nat.min l2.length (l1.length - off))) (cZ hd) rfl (λ_=>⟨⟨rfl,bD _ _⟩,bD _ _⟩) λhh=>by cases hh)
       have zero:∀(ab:Option Addr) (sC:Nat),a.eval y=.slice ab l2.length sC->(l1.length - off=0\/l2=[])->eG P N B h0 h w a o (gv s.gl []) K:=by
        intro ab sC ey h0';have hm:Nat.min l2.length (l1.length - off)=0:=by rcases h0' with e | e<;>simp[e]
        refine fin (bK w none) (λk e=>by cases e) ?_ ?_
        .rw[hm,ex,ey];exact DF tie hu hm
        .have:l'=l1:=by
          rw[<-hR];rcases h0' with e | e
          .rw[e,OW,Wp (by omega:l1.length<=off),Gy (by omega)];simp
          .subst e;simp
         rw[this];exact jr
       have ey0:∃(ab:Option Addr) (sC:Nat),a.eval y=.slice ab l2.length sC:=by
        rcases src with⟨s1,s2⟩ | ⟨sa,sc,s1,s2⟩ | ⟨sb,so,sc,cs,s1,s2,s3⟩
        .exact⟨none,0,by rw[s1,s2];rfl⟩
        .exact⟨some sa,sc,by rw[s1,s2];rfl⟩
        .exact⟨_,sc,s1⟩
       obtain⟨ab0,sC0,ey0⟩:=ey0
       by_cases hz0:l1.length - off=0
       .exact zero _ _ ey0 (.inl hz0)
       by_cases hz2:l2=[]
       .exact zero _ _ ey0 (.inr hz2)
       rcases jr with⟨e1,e2⟩ | ⟨ra,e1,e2⟩ | ⟨g,cap',cur,e1,q1,q2,q3,q4,q5⟩
       .rw[e2]at hz0;simp at hz0
       .rw[e2]at hz0;simp at hz0
       rcases src with⟨s1,s2⟩ | ⟨sa,sc,s1,s2⟩ | ⟨sb,so,sc,cs,s1,s2,s3⟩
       .exact absurd s2 hz2
       .exact absurd s2 hz2
       rw[e1]at ev;injection ev with ev1 ev2 ev3
       subst ev1;subst ev3;rw[if_neg (by omega)]at ex
       simp only[QO,add_lit,yU]at ex;have hcs:=eX.size (λ_ _=>Rd.size dR) s2
       have lc:cur.toList.length=cap' * dR.size:=by simpa using q4
       have hm1:l1.length * dR.size<=cap' * dR.size:=vO _ q2;generalize hm:Nat.min l2.length (l1.length - off)=m at *;have hm2:m<=l2.length:=by rw[<-hm];exact Nat.min_le_left _ _
       have hm3:m<=l1.length - off:=by rw[<-hm];exact Nat.min_le_right _ _
       have hm4:m * dR.size<=l2.length * dR.size:=vO _ hm2;have hm5:(off+m) * dR.size<=l1.length * dR.size:=vO _ (by omega)
       rw[Gx]at hm5;have ht:=eX.qZ (λ_ _=>Rd.size dR) s2 (a:=0) (b:=m) (zJ _) hm2
       simp only[GI,Wv]at ht;have hlen:(cs.take (m * dR.size)).length=m * dR.size:=by rw[mY];omega
       have r0:=Qb (P:=P) (w:=w) (dT:=t) (sT:=t') (ty:=o.type) tie hu (g:=g) (go:=off * dR.size) (dLen:=l1.length - off) (dCap:=cap' - off) (b:=⟨sb,so,none⟩) (sLen:=l2.length) (sCap:=sc) (cs:=cs.take (m * dR.size)) q1 (by rw[hlen,hm,hz1]) (λj v hj=>by
        rw[uh]at hj;split at hj
        .have:=s3 j v hj;have ea:(⟨sb,so,none⟩:Addr).add j=⟨sb,so+j,none⟩:=by unfold Addr.add;split<;>simp_all
         rw[ea];exact this
        .cases hj) (by rw[hlen];rw[<-OL,lc];omega) (λv hv=>(eX.all (λ_ _=>Rd.one dR) ht v hv).2)
       rw[hm]at r0;refine fin (row:=some g) (iq w g _) (λk e=>by cases e;rw[e1];exact aO q3.1) (by rw[ex,s1];exact r0) ?_
       have el:l'=l1.take off++l2.take m++l1.drop (off+m):=by
        rw[<-hR,CJ]
        congr 1
        rcases Nat.le_total l2.length (l1.length - off) with hh | hh
        .have:m=l2.length:=by rw[<-hm];exact Ji hh
         rw[this,Gy hh,Gy (mZ _),OX]
        .have:m=l1.length - off:=by rw[<-hm];exact Nat.min_eq_right hh
         rw[this,OX,Wp (by omega),Wp (by omega)]
       rw[el];have ll:(l1.take off++l2.take m++l1.drop (off+m)).length=l1.length:=by simp only[kD,mY,yT];omega
       refine .inr (.inr ⟨g,cap',_,by rw[ll];exact e1,setRow_heap w g _ _ tt (0,0) q1,by rw[ll];exact q2,q3,?_,?_⟩)
       .simp only[CO,kD,mY,yT,lc,hlen];omega
       .rw[ll];have p1:=(eX.split (λ_ _=>Rd.size dR) (l:=l1.take off) (l':=l1.drop off) (by rw[VX];exact q5)).1
        have p2:=(eX.split (λ_ _=>Rd.size dR) (l:=l1.take (off+m)) (l':=l1.drop (off+m)) (by rw[VX];exact q5)).2
        have h3:=(p1.append ht).append p2;have k1:(l1.take off).length=off:=by rw[mY];omega
        have k2:(l1.take (off+m)).length=off+m:=by rw[mY];omega
        rw[k1,k2,Gx]at h3;have e3:List.take (l1.length * dR.size) (List.take (off * dR.size) cur.toList++cs.take (m * dR.size)++List.drop (off * dR.size+(cs.take (m * dR.size)).length) cur.toList)=List.take (off * dR.size) (List.take (l1.length * dR.size) cur.toList)++cs.take (m * dR.size)++List.drop (off * dR.size+m * dR.size) (List.take (l1.length * dR.size) cur.toList):=by
         rw[hlen];apply LK;intro p;simp only[ZU,uh,Gv,mY,kD,lc]
         repeat' split
         all_goals first | rfl | omega | (congr 1;omega) | (exfalso;omega) | skip
        simp only at e3 ⊢;rw[e3];exact h3
      .cases k
     .cases k
    .cases k
   .cases k
  .cases k
 .cases k
theorem Hz{h:FH}{β:List RV}:∀{cs:List Value},(∀v∈cs,bZ v)->aI (λx y=>dG h β x y/\bZ y) (cs.map SC.v) cs
 | [],_=>trivial
 | c :: cs,f=>⟨⟨⟨rfl,f c (by simp)⟩,f c (by simp)⟩,Hz λv hv=>f v (by simp[hv])⟩
theorem HY{h:FH}{β:List RV}:∀{cs zs:List Value},aI (λx y=>dG h β x y/\bZ y) (cs.map SC.v) zs->zs=cs
 | [],[],_=>rfl
 | c :: cs,z :: zs,⟨⟨c1,_⟩,a⟩=>by rw[HY a,c1.1]
theorem Qd(hc:bT P cx.ti) (ah:Sat N B h0 s h β w a) (hg:aG cx.gd h) (hd:jC N o.dst=true){parts:Array (Nat×Operand)} (ho:o.op=.buildSlice t 1 parts)
 {x:Operand} (hp:tl parts=[(0,x)]){dR:Sh}{x1:dR.den} (hx:bI cx s [] x=some (.one (.dat dR x1))) (k:Tt cx s o.dst t dR x1 K):eG P N B h0 h w a o (gv s.gl []) K:=by
 have tr:gv s.gl []=true:=rfl;unfold Tt fP at k;split at k
 .rename_i el hde;have hu:=bg hc hde (by simp)
  split at k
  .cases k
  rename_i ie hie;have tie:=hc.get hie;split at k
  .cases k
  rename_i sh hsh;split at k
  .rename_i hz;rw[ay,ay,A8,A8]at hz;have hz1:sh.size=ie.size:=gI hz.1;have hz2:1<=ie.size:=lK hz.2.2;split at k
   .rename_i y hy;obtain⟨e1,e2⟩:=jv hy;subst e1;simp only at e2;subst e2;split at k
    .rename_i hbl;have hsz1:ie.size<=16777216:=lK hbl;refine jQ ah (G:=[]) rfl hd k λhgv=>?_
     obtain⟨_,cs,ey,rd⟩:=(aH ah hg tr hx:bV h β (.dat dR x1) (a.eval x));have hl:cs.length=dR.size:=Rd.size dR rd;have h1:=Rd.one dR rd;have htl:(parts.map λ(p:Nat×Operand)=>(p.1,a.eval p.2)).toList=[(0,a.eval x)]:=by
      have:(parts.map λ(p:Nat×Operand)=>(p.1,a.eval p.2)).toList=(tl parts).map λp=>(p.1,a.eval p.2):=by cases parts;simp
      rw[this,hp];rfl
     have hf:ru (λj=>some (j * ie.size,ie.size)) ((gQ 1 ie.zero).map SC.v) [(0,.agg (cs.map SC.v))]=some (cs.map SC.v):=by
      have e1:(gQ 1 ie.zero)=ie.zero:=by simp[gQ,dW]
      rw[e1];unfold ru wu lD;simp only[GI,ay,aV,WE,yU];rw[show Nat.beq cs.length ie.size=true by rw[hl,hz1];exact Nat.beq_refl _,show Nat.ble ie.size ie.zero.length=true by rw[tie.mP];exact Wq (mZ _)]
      simp only[Bool.and_self];unfold ru Pv;rw[show og 0 (ie.zero.map SC.v)=[] by simp[jc],dW,dW,aV,oh,WE]
      rw[Wp (by rw[WE,tie.mP];omega)]
      simp
     rw[<-zi SC.v (gQ 1 ie.zero)]at hf;obtain⟨zs,g1,g2⟩:=oC (h:=h) (β:=β) (parts:=[(0,.agg (cs.map SC.v))]) (vals:=[(0,a.eval x)]) ⟨⟨rfl,cs,ey,Hz h1⟩,trivial⟩ (dZ λv hv=>tie.zone v (wC hv)) hf
     have ez:=HY g2;subst ez;have hz0:0 < ie.zero.length:=by rw[tie.mP];omega
     obtain⟨z,hz1',hz2'⟩:=oG tie w;have hc1:((Array.range (1 * ie.size)).map (λi=>z.cells[i % z.cells.size]!))=(gQ 1 ie.zero).toArray:=by
      rw[hz2',<-tie.mP];exact oH hz0
     refine⟨.slice (some ⟨w.heap.size,0,none⟩) 1 1,w.alloc (.cells zs.toArray el),.row (.slice (some ⟨w.heap.size,0,none⟩) 1 1),?_,jO _ _ _,?_,?_,?_⟩
     .have hbig:¬(1 * ie.size > 2 ^ 24):=by omega
      have h0:¬1 * ie.size=0:=by omega
      simp only[execOp,ho,Instr.buildSlice,Sem.run_bind,run_underlying hu,Result.andThen_ok,run_sizeOf tie,hbig,GK,Sem.run_ite,Sem.run_pure,h0,hz1'];rw[htl,hc1,g1];simp only[Sem.run_bind,newRow,run_newObj,Result.andThen_ok,Sem.run_pure];rfl
     .intro b hb;rw[aT]at hb;simp[au]at hb;obtain⟨_,rfl⟩:=hb;simp
     .refine .inr (.inr ⟨w.heap.size,1,zs.toArray,rfl,jR _ _,mZ _,⟨mZ _,by simp[maxLen]⟩,by simp only[CO];omega,?_⟩)
      rw[Gy (by simp;omega)]
      exact⟨zs,[],by simp,rd,rfl⟩
     .exact⟨⟨_,jw (jS ah) _,rfl⟩,rfl,rfl⟩
    .cases k
   .cases k
  .cases k
 .cases k
theorem Tv(hc:bT P cx.ti) (ah:Sat N B h0 s h β w a) (hg:aG cx.gd h) (hd:jC N o.dst=true){p:Prop} (e:rtP cx s o K=some p) (k:p):eG P N B h0 h w a o (Region.wanted o (yielded ops a.tmps)) K:=by
 have hw:∀{b:Bool},o.guard=none->eG P N B h0 h w a o (gv s.gl []) K->eG P N B h0 h w a o (Region.wanted o (yielded ops a.tmps)) K:=by
  intro b hgd x;have:Region.wanted o (yielded ops a.tmps)=true:=by unfold Region.wanted;rw[hgd]
  rw[this];exact x
 unfold rtP at e;split at e
 .cases e
 split at e
 .cases e
 rename_i hgd;split at e
 .rename_i t ps ho;split at e
  .rename_i x hps;split at e
   .rename_i dR x1 hx;cases e;exact hw (b:=true) hgd (Qd hc ah hg hd ho hps hx k)
   .cases e
  .cases e
 .rename_i t x lo ho;split at e
  .rename_i i hx;split at e
   .cases e;exact hw (b:=true) hgd (Qa hc ah hg hd ho hx k)
   .cases e
  .cases e
 .rename_i c ho;split at e
  .rename_i bH;split at e
   .rename_i x y ha;split at e
    .rename_i i hx;split at e
     .split at e
      .rename_i t t' ht;cases e;exact hw (b:=true) hgd (Qc hc ah hg hd ho bH (gK ha) (gK ht) hx k)
      .cases e
     .cases e
    .cases e
   .cases e
  .cases e
 .cases e
end
structure Ch where
 i:Nat
 j:Nat
 t:TypeId
 di:Nat
 dj:Nat
 y:Operand
structure CD where
 c:Ch
 el:TypeId
 ie:TI
 sh:Sh
 l:List sh.den
theorem OK.afv{B:Base}{h0:FH} (ok:OK B h0 T h β w){v:RV}
 (hv:∀b,v.has b->B.al b/\b < w.heap.size/\(∀o,h b o=none)/\∀(i:Nat) (r':aC) (u:RV),T[i]?=some r'->r'.live=true->β[i]?=some u->¬u.has b) (hold:Holds h (β++[v]) w r v):
 OK B h0 (T++[r]) h (β++[v]) w where
 below:=ok.below
 dr:=ok.dr
 len:=by simp[ok.len]
 holds:=by
  intro i r' v' e e';rcases aj e with⟨hi,e⟩ | ⟨hi,rfl⟩
  .rcases aj e' with⟨_,e'⟩ | ⟨hj,_⟩
   .exact(ok.holds i r' v' e e').move (FH.le.refl h) (Ext.append _ _) λhl b hb=>rfl
   .have:=ok.len;omega
  .rcases aj e' with⟨hj,e'⟩ | ⟨_,rfl⟩
   .have:=ok.len;omega
   .exact hold
 own:=by
  intro i r' v' b e hl e' hb;rcases aj e' with⟨hj,e'⟩ | ⟨hj,rfl⟩
  .rcases aj e with⟨_,e⟩ | ⟨hi,rfl⟩
   .exact ok.own i r' v' b e hl e' hb
   .have:=ok.len;omega
  .obtain⟨h1,h2,h3,_⟩:=hv b hb;exact⟨h1,h2,h3⟩
 inj:=by
  intro i j r1 r2 u v' b ei hl1 ej hl2 eu ev hu hv';have L:=ok.len;rcases aj ei with⟨hi,ei⟩ | ⟨hi,_⟩<;>rcases aj ej with⟨hj,ej⟩ | ⟨hj,_⟩<;>
   rcases aj eu with⟨hi',eu⟩ | ⟨hi',rfl⟩<;>rcases aj ev with⟨hj',ev⟩ | ⟨hj',rfl⟩<;>first
    | omega
    | exact ok.inj i j r1 r2 u v' b ei hl1 ej hl2 eu ev hu hv'
    | exact absurd hu ((hv b hv').2.2.2 i r1 _ ei hl1 eu)
    | exact absurd hv' ((hv b hu).2.2.2 j r2 _ ej hl2 ev)
 hle:=ok.hle
 hw:=ok.hw
 hg:=ok.hg
 kn:=ok.kn
theorem OK.grown{B:Base}{h0:FH}{T:List aC}{h:FH}{β:List RV}{w w':World} (ok:OK B h0 T h β w) (hg:Gb w w' none):OK B h0 T h β w' where
 below:=ok.below.grown hg.togrownBy (by intro k e;cases e)
 dr:=o9 ok.dr hg.dr
 len:=ok.len
 holds:=λi r v e e'=>(ok.holds i r v e e').move (FH.le.refl h) (Ext.refl _) λhl b hb=>hg.block b (ok.own i r v b e hl e' hb).2.1 (by simp)
 own:=λi r v b e hl e' hb=>by
  obtain⟨h1,h2,h3⟩:=ok.own i r v b e hl e' hb;exact⟨h1,Gz h2 hg.size,h3⟩
 inj:=ok.inj
 hle:=ok.hle
 hw:=frozen_kept ok.hw hg (by intro k e;cases e)
 hg:=ok.hg
 kn:=ok.kept hg (by intro b e;cases e)
section
variable {P:Program}{N:Nat}{B:Base}{h0 h:FH}{β:List RV}{s:St}{w w':World}{a:Act}
theorem Sat.AO(ah:Sat N B h0 s h β w a) (hg:Gb w w' none){d:Nat} (hd:fH s.env d=none) (v:Value):Sat N B h0 s h β w' (a.put (some d) v):=by
 refine⟨ah.ok.grown hg,λt G e ht=>?_,ah.gs,ah.defers.same rfl,by simp[Act.put,ah.sz],ah.gb,ah.gT⟩
 obtain⟨z,q1,q2⟩:=ah.env t G e ht;have hne:d≠t:=by rintro rfl;rw[hd]at ht;cases ht
 exact⟨z,by simp only[Act.put];rw[ZR hne];exact q1,q2⟩
def Free(B:Base) (s:St) (h:FH) (β:List RV) (w:World) (b:Nat):Prop:=
 B.al b/\b < w.heap.size/\(∀o,h b o=none)/\∀(i:Nat) (r:aC) (u:RV),(eff s.gl s.T)[i]?=some r->r.live=true->β[i]?=some u->¬u.has b
theorem Free.grown(f:Free B s h β w b) (hg:Gb w w' none):Free B s h β w' b:=⟨f.1,Gz f.2.1 hg.size,f.2.2⟩
theorem Free.new(ah:Sat N B h0 s h β w a) (h1:w.heap.size<=b) (h2:b < w'.heap.size):Free B s h β w' b:=by
 refine⟨B.up _ (o9 ah.ok.below.size h1),h2,λo=>?_,λi r u e hl eu hb=>?_⟩
 .cases hh:h b o with
  | none=>rfl
  | some v=>have:=kX (ah.ok.hw b o v hh);omega
 .have:=(ah.ok.own i r u b e hl eu hb).2.1;omega
end
def Fact(B:Base) (s:St) (h:FH) (β:List RV) (own:Nat->Nat) (listed:Array Bool) (a:Act) (w:World) (x:CD):Prop:=
 (listed.getD x.c.i true=true->listed.getD x.c.j true=false->∃ad,a.tmps[x.c.di]?=some (.slice (some ad) 0 0)) /\
 (listed.getD x.c.j true=true->∃v,a.tmps[x.c.dj]?=some v/\Holds h [] w (.row x.el x.sh x.l) (.row v)/\∀b,au v=some b->Free B s h β w b/\own b=x.c.j)
def Nj(B:Base) (s:St) (h:FH) (β:List RV) (own:Nat->Nat) (listed:Array Bool) (a:Act) (w:World) (i d:Nat) (r:aC):Prop:=
 listed.getD i true=true->∃g,a.tmps[d]?=some (.pointer (some ⟨g,0,none⟩))/\Holds h [] w r (.blk g)/\Free B s h β w g/\own g=i
section
variable {P:Program}{N:Nat}{B:Base}{h0 h:FH}{β:List RV}{s:St}{w w':World}{a:Act}{own own':Nat->Nat}{listed:Array Bool}{x:CD}
theorem Fact.keep(f:Fact B s h β own listed a w x) (hg:Gb w w' none) (ho:∀b,b < w.heap.size->own' b=own b){d:Nat} (hk1:k≠x.c.i) (hk2:k≠x.c.j) (hd1:d≠x.c.di) (hd2:d≠x.c.dj) (v:Value):
 Fact B s h β own' (listed.setIfInBounds k true) (a.put (some d) v) w' x:=by
 refine⟨λh1 h2=>?_,λh1=>?_⟩
 .rw[getD_set_ne true hk1]at h1;rw[getD_set_ne true hk2]at h2;obtain⟨ad,e⟩:=f.1 h1 h2;exact⟨ad,by simp only[Act.put];rw[ZR hd1];exact e⟩
 .rw[getD_set_ne true hk2]at h1;obtain⟨u,e,hu,hb⟩:=f.2 h1;refine⟨u,by simp only[Act.put];rw[ZR hd2];exact e,hu.move (FH.le.refl h) (Ext.refl _) λ_ b hb'=>?_,λb hb'=>?_⟩
  .exact hg.block b (hb b (aT.1 hb')).1.2.1 (by simp)
  .obtain⟨q1,q2⟩:=hb b hb';exact⟨q1.grown hg,by rw[ho b q1.2.1];exact q2⟩
theorem Nj.keep{e:Nat} (f:Nj B s h β own listed a w i e r) (hg:Gb w w' none) (ho:∀b,b < w.heap.size->own' b=own b){d:Nat} (hk:k≠i) (hd:d≠e) (v:Value):
 Nj B s h β own' (listed.setIfInBounds k true) (a.put (some d) v) w' i e r:=by
 intro h1;rw[getD_set_ne true hk]at h1;obtain⟨g,e1,e2,e3,e4⟩:=f h1;refine⟨g,by simp only[Act.put];rw[ZR hd];exact e1,e2.move (FH.le.refl h) (Ext.refl _) λ_ b hb=>?_,e3.grown hg,by rw[ho g e3.2.1];exact e4⟩
 rw[ji]at hb;subst hb;exact hg.block g e3.2.1 (by simp)
end
theorem abz{ie:TI} (ho:o.op=.buildSlice t 0 #[]) (hu:P.underlying t=some (.slice el)) (tie:aU P el ie):
 (execOp a.eval o).run P w=.ok (.value (.slice (some ⟨w.heap.size,0,none⟩) 0 0)) (w.alloc (.cells #[] el)):=by
 have hbig:¬(0 * ie.size > 2 ^ 24):=by omega
 simp only[execOp,ho,Instr.buildSlice,Sem.run_bind,run_underlying hu,Result.andThen_ok,run_sizeOf tie,hbig,GK,Sem.run_ite,Sem.run_pure,GI,if_true];rw[show(Array.map (λx=>(#[]:Array Value)[x % (#[]:Array Value).size]!) (Array.range 0))=#[] from by simp]
 rw[if_neg (by decide)]
 have g1:Instr.fill (λi=>some (i * ie.size,ie.size)) #[] (Array.map (λx:Nat×Operand=>(x.1,a.eval x.2)) #[]).toList=some #[]:=by simp[Instr.fill]
 rw[g1];simp only[Sem.run_bind,newRow,run_newObj,Result.andThen_ok,Sem.run_pure];rfl
theorem abA{ie:TI}{sh:Sh}{l:List sh.den}{x y:Operand}{ad:Addr} (ho:o.op=.call c) (bH:c.callee=.builtin .append) (ha:c.args=#[x,y]) (ht:c.argTypes=#[t,t])
 (hx:a.eval x=.slice (some ad) 0 0) (hu:P.underlying t=some (.slice el)) (tie:aU P el ie) (z1:sh.size=ie.size) (z2:1<=ie.bytes) (z3:1<=ie.size) (src:MB h w sh (a.eval y) l) (room:wE l.length ie.bytes)
 (hw:∀b o u,h b o=some u->vis w b o=some u):
 ∃v w',(execOp a.eval o).run P w=.ok (.value v) w'/\Gb w w' none/\(∀b,au v=some b->w.heap.size<=b/\b < w'.heap.size)/\Holds h [] w' (.row el sh l) (.row v):=by
 obtain⟨v',w',r1,r2,r3,r4⟩:=lY (ty:=o.type) (l:=[]) (v:=.slice (some ad) 0 0) hu tie z1 z2 z3 (.inr (.inl ⟨ad,rfl,rfl⟩)) src (by simpa using room) hw
 have e0:au (.slice (some ad) 0 0)=none:=rfl;refine⟨v',w',?_,by rw[e0]at r2;exact r2,λb hb=>?_,by rw[LP]at r4;exact r4⟩
 .simp[execOp,ho,resolve,bH,ha,ht,invoke,builtin,hx,r1]
 .rcases r3 b hb with hh | hh
  .rw[e0]at hh;cases hh
  .exact hh
theorem abB{i:TI} (ho:o.op=.alloc t) (ti:aU P t i) (cz:Bool):
 ∃w',(execOp a.eval o).run P w=.ok (.value (.pointer (some ⟨w.heap.size,0,none⟩))) w'/\Gb w w' none/\w.heap.size < w'.heap.size/\Holds h [] w' (pK cz t i) (.blk w.heap.size):=by
 obtain⟨z,hz1,hz2⟩:=oG ti w;refine⟨w.alloc (.cells z.cells t),?_,jO _ _ _,by simp,?_⟩
 .simp only[execOp,ho,Instr.alloc,newVar,newRow,Sem.run_bind,hz1,Result.andThen_ok,run_newObj,Sem.run_pure];rfl
 .have hn:=jR w (.cells z.cells t);unfold pK;split
  .rename_i sh hs;split
   .exact⟨i.zero,by rw[hn,hz2],rG (ti.Ph _ hs).1⟩
   .exact⟨i.zero,by rw[hn,hz2],dZ ti.zone⟩
  .exact⟨i.zero,by rw[hn,hz2],dZ ti.zone⟩
structure Xo (P:Program) (cx:Cx) (ops:Array Oper) (s:St) (x:CD):Prop where
 bs:∃o,ops[x.c.i]?=some o/\o.guard=none/\o.dst=some x.c.di/\o.op=.buildSlice x.c.t 0 #[]
 ap:∃o c,ops[x.c.j]?=some o/\o.guard=none/\o.dst=some x.c.dj/\o.op=.call c/\c.callee=.builtin .append/\c.args=#[.tmp x.c.di,x.c.y]/\c.argTypes=#[x.c.t,x.c.t]/\∃e∈o.after,Region.binds .any e=true/\e.on=x.c.i
 und:P.underlying x.c.t=some (.slice x.el)
 tie:aU P x.el x.ie
 z1:x.sh.size=x.ie.size
 z2:1<=x.ie.bytes
 z3:1<=x.ie.size
 src:∃v,bI cx s [] x.c.y=some (.one v)/\EL s x.sh v=some x.l
 room:wE x.l.length x.ie.bytes
 fi:fH s.env x.c.di=none
 fj:fH s.env x.c.dj=none
structure Al where
 i:Nat
 d:Nat
 t:TypeId
 ti:TI
structure Dis (xs:List CD) (al:List Al):Prop where
 self:∀x∈xs,x.c.i≠x.c.j/\x.c.di≠x.c.dj
 two:∀x∈xs,∀y∈xs,x≠y->(x.c.i≠y.c.i/\x.c.i≠y.c.j/\x.c.j≠y.c.i/\x.c.j≠y.c.j)/\x.c.di≠y.c.di/\x.c.di≠y.c.dj/\x.c.dj≠y.c.di/\x.c.dj≠y.c.dj
 ca:∀x∈xs,∀q∈al,(x.c.i≠q.i/\x.c.j≠q.i)/\x.c.di≠q.d/\x.c.dj≠q.d
 aa:∀p∈al,∀q∈al,p≠q->p.i≠q.i/\p.d≠q.d
structure Jm (cz:Bool) (N:Nat) (B:Base) (h0:FH) (s:St) (h:FH) (β:List RV) (xs:List CD) (al:List Al) (listed:Array Bool) (a:Act) (w:World):Prop where
 ah:Sat N B h0 s h β w a
 own:∃own:Nat->Nat,(∀x∈xs,Fact B s h β own listed a w x)/\∀q∈al,Nj B s h β own listed a w q.i q.d (pK cz q.t q.ti)
 ord:∀x∈xs,listed.getD x.c.j true=true->listed.getD x.c.i true=true
section
variable {P:Program}{cx:Cx}{cz:Bool}{N:Nat}{B:Base}{h0 h:FH}{β:List RV}{s:St}{ops:Array Oper}{xs:List CD}{al:List Al}{listed:Array Bool}{a:Act}{w:World}
theorem DI(l:Array Bool) (i:Nat):(l.setIfInBounds i true).getD i true=true:=by
 rcases Wy i l.size with h | h
 .simp[h]
 .simp[VW h]
theorem AP{d:Nat} (v:Value) (h:d < a.tmps.size):(a.put (some d) v).tmps[d]?=some v:=by simp[Act.put,h]
theorem Jm.bs(j:Jm cz N B h0 s h β xs al listed a w) (qV:Dis xs al){x:CD} (hx:x∈xs) (ok:Xo P cx ops s x) (hn:x.c.di < N) (hi:listed.getD x.c.i true=false):
 tC P ops x.c.i (λa' w'=>jL w w'/\(∃v,a'=a.put (some x.c.di) v)/\Jm cz N B h0 s h β xs al (listed.setIfInBounds x.c.i true) a' w') a w:=by
 obtain⟨o,ho,hg,hd,hop⟩:=ok.bs;unfold tC;simp only[ho];rw[if_pos (by simp[Region.wanted,hg])]
 have gb:Gb w (w.alloc (.cells #[] x.el)) none:=jO _ _ _;refine gV (abz hop ok.und ok.tie) ⟨jL.rF gb,?_⟩;rw[hd];refine⟨⟨_,rfl⟩,?_⟩;obtain⟨own,f1,f2⟩:=j.own;refine⟨j.ah.AO gb ok.fi _,⟨own,λy hy=>?_,λq hq=>?_⟩,λy hy h1=>?_⟩
 .by_cases hyx:y=x
  .subst hyx;refine⟨λ_ _=>⟨_,AP _ (by rw[j.ah.sz];exact hn)⟩,λh1=>?_⟩
   rw[getD_set_ne true (qV.self y hx).1]at h1;have:=j.ord y hx h1;rw[hi]at this;cases this
  .obtain⟨⟨d1,d2,d3,d4⟩,e1,e2,e3,e4⟩:=qV.two x hx y hy (Ne.symm hyx);exact(f1 y hy).keep gb (λ_ _=>rfl) d1 d2 e1 e2 _
 .obtain⟨⟨d1,d2⟩,e1,e2⟩:=qV.ca x hx q hq;exact(f2 q hq).keep gb (λ_ _=>rfl) d1 e1 _
 .by_cases hyx:y=x
  .subst hyx;exact DI _ _
  .obtain⟨⟨d1,d2,d3,d4⟩,_⟩:=qV.two x hx y hy (Ne.symm hyx);rw[getD_set_ne true d2]at h1;rw[getD_set_ne true d1];exact j.ord y hy h1
end
section
variable {P:Program}{cx:Cx}{cz:Bool}{N:Nat}{B:Base}{h0 h:FH}{β:List RV}{s:St}{ops:Array Oper}{xs:List CD}{al:List Al}{listed:Array Bool}{a:Act}{w:World}
theorem Jm.ap(j:Jm cz N B h0 s h β xs al listed a w) (hgd:aG cx.gd h) (qV:Dis xs al){x:CD} (hx:x∈xs) (ok:Xo P cx ops s x) (hn:x.c.dj < N) (hi:listed.getD x.c.i true=true) (hj:listed.getD x.c.j true=false):
 tC P ops x.c.j (λa' w'=>jL w w'/\(∃v,a'=a.put (some x.c.dj) v)/\Jm cz N B h0 s h β xs al (listed.setIfInBounds x.c.j true) a' w') a w:=by
 obtain⟨o,c,ho,hg,hd,hop,bH,hargs,hat,_⟩:=ok.ap;unfold tC;simp only[ho];rw[if_pos (by simp[Region.wanted,hg])]
 obtain⟨own,f1,f2⟩:=j.own;obtain⟨ad,had⟩:=(f1 x hx).1 hi hj;obtain⟨v2,hv2,hl⟩:=ok.src;have src:=wF j.ah hl (aH j.ah hgd (show gv s.gl []=true from rfl) hv2)
 obtain⟨v,w',r1,gb,fr,hold⟩:=abA (h:=h) (ad:=ad) hop bH hargs hat (by simp[Act.eval,had]) ok.und ok.tie ok.z1 ok.z2 ok.z3 src ok.room j.ah.ok.hw
 refine gV r1 ⟨jL.rF gb,?_⟩;rw[hd];refine⟨⟨_,rfl⟩,?_⟩;have hown:∀b,b < w.heap.size->(λb=>if w.heap.size<=b then x.c.j else own b) b=own b:=λb hb=>if_neg (by omega)
 refine⟨j.ah.AO gb ok.fj _,⟨λb=>if w.heap.size<=b then x.c.j else own b,λy hy=>?_,λq hq=>?_⟩,λy hy h1=>?_⟩
 .by_cases hyx:y=x
  .subst hyx;refine⟨λ_ h2=>?_,λ_=>⟨v,AP _ (by rw[j.ah.sz];exact hn),hold,λb hb=>?_⟩⟩
   .rw[DI]at h2;cases h2
   .obtain⟨q1,q2⟩:=fr b hb;exact⟨Free.new j.ah q1 q2,if_pos q1⟩
  .obtain⟨⟨d1,d2,d3,d4⟩,e1,e2,e3,e4⟩:=qV.two x hx y hy (Ne.symm hyx);exact(f1 y hy).keep gb hown d3 d4 e3 e4 _
 .obtain⟨⟨d1,d2⟩,e1,e2⟩:=qV.ca x hx q hq;exact(f2 q hq).keep gb hown d2 e2 _
 .by_cases hyx:y=x
  .subst hyx;rw[getD_set_ne true (Ne.symm (qV.self y hx).1)];exact hi
  .obtain⟨⟨d1,d2,d3,d4⟩,_⟩:=qV.two x hx y hy (Ne.symm hyx);rw[getD_set_ne true d4]at h1;rw[getD_set_ne true d3];exact j.ord y hy h1
theorem Jm.new(j:Jm cz N B h0 s h β xs al listed a w) (qV:Dis xs al){p:Al} (hp:p∈al){o:Oper} (ho:ops[p.i]?=some o) (hg:o.guard=none) (hd:o.dst=some p.d) (hop:o.op=.alloc p.t) (ti:aU P p.t p.ti) (hn:p.d < N) (hf:fH s.env p.d=none):
 tC P ops p.i (λa' w'=>jL w w'/\(∃v,a'=a.put (some p.d) v)/\Jm cz N B h0 s h β xs al (listed.setIfInBounds p.i true) a' w') a w:=by
 unfold tC;simp only[ho];rw[if_pos (by simp[Region.wanted,hg])]
 obtain⟨own,f1,f2⟩:=j.own;obtain⟨w',r1,gb,lt,hold⟩:=abB (w:=w) (h:=h) (a:=a) hop ti cz;refine gV r1 ⟨jL.rF gb,?_⟩;rw[hd];refine⟨⟨_,rfl⟩,?_⟩;have hown:∀b,b < w.heap.size->(λb=>if w.heap.size<=b then p.i else own b) b=own b:=λb hb=>if_neg (by omega)
 refine⟨j.ah.AO gb hf _,⟨λb=>if w.heap.size<=b then p.i else own b,λy hy=>?_,λq hq=>?_⟩,λy hy h1=>?_⟩
 .obtain⟨⟨d1,d2⟩,e1,e2⟩:=qV.ca y hy p hp;exact(f1 y hy).keep gb hown (Ne.symm d1) (Ne.symm d2) (Ne.symm e1) (Ne.symm e2) _
 .by_cases hqp:q=p
  .subst hqp;exact λ_=>⟨w.heap.size,AP _ (by rw[j.ah.sz];exact hn),hold,Free.new j.ah (mZ _) lt,if_pos (mZ _)⟩
  .obtain⟨d1,e1⟩:=qV.aa p hp q hq (Ne.symm hqp);exact(f2 q hq).keep gb hown d1 e1 _
 .obtain⟨⟨d1,d2⟩,_⟩:=qV.ca y hy p hp;rw[getD_set_ne true (Ne.symm d2)]at h1;rw[getD_set_ne true (Ne.symm d1)];exact j.ord y hy h1
end
abbrev abC(s:St) (d:Nat) (el:TypeId) (sh:Sh) (l:List sh.den):St:={ s with T:=snoc s.T ([],.row el sh l) }.put (some d) [] (.one (.c (.row (aJ s.T))))
def yL:List CD->St->St
 | [],s=>s
 | x :: r,s=>yL r (abC s x.c.dj x.el x.sh x.l)
theorem rP{d:Nat} (h:a.tmps[d]?=some v):a.put (some d) v=a:=by
 obtain⟨t,df⟩:=a;simp only[Act.put]at *
 congr 1
 apply Array.ext_getElem?;intro i;rw[Array.getElem?_setIfInBounds];split
 .rename_i hi;subst hi;split
  .exact h.symm
  .rename_i hn;rw[VW (by omega)]
 .rfl
section
variable {P:Program}{N:Nat}{B:Base}{h0 h:FH}{β:List RV}{s:St}{w:World}{a:Act}
theorem Sat.more(ah:Sat N B h0 s h β w a){rv:RV}{e:aW}{d:Nat} (hd:d < N) (ht:a.tmps[d]?=some v)
 (fr:∀b,rv.has b->Free B s h β w b) (hold:Holds h [] w r rv) (ce:iO h (β++[rv]) e v):
 Sat N B h0 ({ s with T:=snoc s.T ([],r) }.put (some d) [] e) h (β++[rv]) w a:=by
 have ok:OK B h0 (eff s.gl (snoc s.T ([],r))) h (β++[rv]) w:=by
  rw[fJ];exact ah.ok.afv (λb hb=>by
   obtain⟨q1,q2,q3,q4⟩:=fr b hb;exact⟨q1,q2,q3,q4⟩) (hold.move (FH.le.refl h) (λi v e=>by simp at e) λ_ _ _=>rfl)
 have gT:∀p∈snoc s.T ([],r),qX s.gl.length p.1=true:=by
  intro p hp;rw[fM,Cj]at hp;rcases hp with hp | hp
  .exact ah.gT p hp
  .simp at hp;subst hp;rfl
 have:=(ah.mem ok (FH.le.refl h) (Ext.append _ _) gT).put (d:=some d) (G:=[]) (e:=e) (z:=v) (λk hk=>by cases hk;exact hd) rfl (λ_=>ce) (λhh=>by cases hh)
 rwa [rP ht]at this
theorem Free.more{rv:RV}{e:aW}{d:Nat} (L:(eff s.gl s.T).length=β.length) (f:Free B s h β w b) (hb:¬rv.has b):Free B ({ s with T:=snoc s.T ([],r) }.put (some d) [] e) h (β++[rv]) w b:=by
 refine⟨f.1,f.2.1,f.2.2.1,λi r' u e' hl eu=>?_⟩
 simp only[St.put]at e';rw[fJ]at e';rcases aj e' with⟨_,e'⟩ | ⟨hi,_⟩
 .rcases aj eu with⟨_,eu⟩ | ⟨hj,_⟩
  .exact f.2.2.2 i r' u e' hl eu
  .have:=(eU.1 e').1;omega
 .rcases aj eu with⟨hj,_⟩ | ⟨_,rfl⟩
  .omega
  .exact hb
end
section
variable {P:Program}{N:Nat}{B:Base}{h0 h:FH}{w:World}{a:Act}{own:Nat->Nat}
def Made(B:Base) (N:Nat) (s:St) (h:FH) (β:List RV) (own:Nat->Nat) (a:Act) (w:World) (x:CD):Prop:=
 ∃v,a.tmps[x.c.dj]?=some v/\x.c.dj < N/\Holds h [] w (.row x.el x.sh x.l) (.row v)/\∀b,au v=some b->Free B s h β w b/\own b=x.c.j
theorem H6:∀(xs:List CD){s:St}{β:List RV},Sat N B h0 s h β w a->(∀x∈xs,Made B N s h β own a w x)->(xs.map λx=>x.c.j).Nodup ->
 ∃β',Sat N B h0 (yL xs s) h β' w a/\∀b,Free B s h β w b->own b∉(xs.map λx=>x.c.j)->Free B (yL xs s) h β' w b
 | [],s,β,ah,_,_=>⟨β,ah,λb f _=>f⟩
 | x :: r,s,β,ah,md,nd=>by
   obtain⟨v,t1,t2,t3,t4⟩:=md x (by simp)
   have L:(eff s.gl s.T).length=β.length:=ah.ok.len.symm▸rfl;have L2:aJ s.T=β.length:=by rw[aV,<-fO s.gl s.T];exact L
   simp only[Es,V3]at nd;have ce:iO h (β++[.row v]) (.one (.c (.row (aJ s.T)))) v:=by
    refine⟨⟨.row v,?_,rfl⟩,?_⟩
    .rw[L2];simp
    .rcases t3 with⟨rfl,_⟩ | ⟨_,rfl,_⟩ | ⟨g,cap,cur,rfl,_⟩<;>exact⟨rfl,rfl⟩
   have fQ:=ah.more (r:=.row x.el x.sh x.l) (rv:=.row v) t2 t1 (λb hb=>(t4 b (aT.1 hb)).1) t3 ce
   have step:∀b,Free B s h β w b->own b≠x.c.j->Free B (abC s x.c.dj x.el x.sh x.l) h (β++[.row v]) w b:=λb f hne=>by
    refine f.more L λhb=>hne (t4 b (aT.1 hb)).2
   obtain⟨β',aY,fr2⟩:=H6 r fQ (λy hy=>by
    obtain⟨v',u1,u2,u3,u4⟩:=md y (by simp[hy])
    refine⟨v',u1,u2,u3,λb hb=>⟨step b (u4 b hb).1 ?_,(u4 b hb).2⟩⟩
    rw[(u4 b hb).2];intro hh;exact nd.1 (by rw[<-hh];exact QS.2 ⟨y,hy,rfl⟩)) nd.2
   refine⟨β',aY,λb f hb=>?_⟩
   simp only[Es,jM,not_or]at hb;exact fr2 b (step b f hb.1) hb.2
abbrev alS(s:St) (d:Nat) (r:aC):St:={ s with T:=snoc s.T ([],r) }.put (some d) [] (.one (.c (.own (aJ s.T) 0)))
theorem abD{s:St} (ah:Sat N B h0 s h β w a){d:Nat} (hd:d < N) (e1:a.tmps[d]?=some (.pointer (some ⟨g,0,none⟩))) (e2:Holds h [] w r (.blk g)) (e3:Free B s h β w g):
 Sat N B h0 (alS s d r) h (β++[.blk g]) w a:=by
 have L:(eff s.gl s.T).length=β.length:=ah.ok.len.symm▸rfl;have L2:aJ s.T=β.length:=by rw[aV,<-fO s.gl s.T];exact L
 exact ah.more hd e1 (λb hb=>by rw[ji]at hb;subst hb;exact e3) e2 ⟨⟨_,by rw[L2];simp,rfl⟩,gq _⟩
end
abbrev fD(k:Nat):List Nat->Bool
 | []=>false
 | j :: l=>match Nat.beq k j with
   | true=>true
   | false=>fD k l
theorem iM{l:List Nat}:fD k (j :: l)=(Nat.beq k j || fD k l):=by
 simp only[fD];cases Nat.beq k j<;>rfl
theorem jT{k:Nat}{m:List Nat}:∀{l:List Nat},fD k (dO l m)=(fD k l || fD k m)
 | []=>rfl
 | j :: l=>by rw[show dO (j :: l) m=j :: dO l m from rfl,iM,iM,jT,Bool.or_assoc]
def Same(ws:List Nat) (a a':Act):Prop:=∀t,fD t ws=false->a'.tmps[t]?=a.tmps[t]?
theorem Same.refl(ws:List Nat) (a:Act):Same ws a a:=λ_ _=>rfl
theorem Same.trans{ws:List Nat}{a b c:Act} (x:Same ws a b) (y:Same ws b c):Same ws a c:=λt h=>(y t h).trans (x t h)
theorem Same.left{l m:List Nat}{b:Act} (x:Same l a b):Same (dO l m) a b:=λt h=>x t (by rw[jT,pz]at h;exact h.1)
theorem Same.right{l m:List Nat}{b:Act} (x:Same m a b):Same (dO l m) a b:=λt h=>x t (by rw[jT,pz]at h;exact h.2)
def dL:List Nat->Array Bool->Array Bool
 | [],l=>l
 | k :: r,l=>(dL r l).setIfInBounds k true
theorem jD{l:Array Bool}{k:Nat}:∀{d:List Nat},(dL d l)[k]?=if k∈d then(l[k]?).map (λ_=>true) else l[k]?
 | []=>by simp[dL]
 | i :: d=>by
   unfold dL;rw[Array.getElem?_setIfInBounds];have ih:=jD (l:=l) (k:=k) (d:=d)
   by_cases hik:i=k
   .subst hik;simp only[if_true,jM,true_or];split
    .rename_i gY;have:i < l.size:=by
      rcases Wy i l.size with h | h
      .exact h
      .have e:l[i]?=none:=VW h;rw[e]at ih;have:(dL d l)[i]?=none:=by rw[ih];simp
       rw[Array.getElem?_eq_getElem gY]at this;cases this
     simp[this]
    .rename_i gY;have e0:(dL d l)[i]?=none:=VW (by omega)
     rw[e0]at ih;split at ih
     .exact ih
     .rw[<-ih];rfl
   .rw[if_neg hik,ih];simp[jM,Ne.symm hik]
theorem rQ{e:List Nat} (h:∀k,k∈d↔k∈e):dL d l=dL e l:=by
 apply Array.ext_getElem?;intro k;rw[jD,jD];simp only[h k]
theorem Fa(h:l.getD k true=false):l[k]?=some false:=by
 simp only[Array.getD_eq_getD_getElem?]at h;cases hk:l[k]? with
 | none=>rw[hk]at h;cases h
 | some b=>rw[hk]at h;simp at h;rw[h]
theorem Nk(h:l.getD k false=true):l[k]?=some true:=by
 simp only[Array.getD_eq_getD_getElem?]at h;cases hk:l[k]? with
 | none=>rw[hk]at h;cases h
 | some b=>rw[hk]at h;simp at h;rw[h]
theorem oM(hk:k∉d) (h:l.getD k true=false):(dL d l).getD k true=false:=by
 rw[Array.getD_eq_getD_getElem?,jD,if_neg hk,Fa h];rfl
theorem oN(hk:k∈d) (h:l.getD k true=false) (b:Bool):(dL d l).getD k b=true:=by
 rw[Array.getD_eq_getD_getElem?,jD,if_pos hk,Fa h];rfl
theorem DJ(h:l.getD k false=true):(dL d l).getD k false=true:=by
 rw[Array.getD_eq_getD_getElem?,jD,Nk h];split<;>rfl
theorem AQ(h:(dL d l).getD k true=false):l.getD k true=false/\k∉d:=by
 have:=Fa h;rw[jD]at this;split at this
 .cases hl:l[k]? with
  | none=>rw[hl]at this;cases this
  | some b=>rw[hl]at this;cases this
 .rename_i hn;exact⟨by rw[Array.getD_eq_getD_getElem?,this];rfl,hn⟩
structure ChT (ops:Array Oper) (cp:Nat->Bool) (l0:Array Bool) (c:Ch):Prop where
 bs:∃o,ops[c.i]?=some o/\o.guard=none/\o.dst=some c.di/\o.op=.buildSlice c.t 0 #[]/\∀e∈o.after,Region.binds .any e=true->l0.getD e.on false=true
 ap:∃o k,ops[c.j]?=some o/\o.guard=none/\o.dst=some c.dj/\o.op=.call k/\k.callee=.builtin .append/\k.args=#[.tmp c.di,c.y]/\k.argTypes=#[c.t,c.t] /\
  (∃e∈o.after,Region.binds .any e=true/\e.on=c.i)/\∀e∈o.after,Region.binds .any e=true->e.on=c.i\/l0.getD e.on false=true\/(e.on < c.j/\cp e.on=true)
 ui:l0.getD c.i true=false
 uj:l0.getD c.j true=false
structure AlT (ops:Array Oper) (l0:Array Bool) (i d:Nat) (t:TypeId):Prop where
 op:∃o,ops[i]?=some o/\o.guard=none/\o.dst=some d/\o.op=.alloc t/\∀e∈o.after,Region.binds .any e=true->l0.getD e.on false=true
 u:l0.getD i true=false
abbrev rU(xs:List CD) (al:List Al):List Nat:=(xs.flatMap λx=>[x.c.i,x.c.j])++al.map λq=>q.i
structure BlT (ops:Array Oper) (l0:Array Bool) (xs:List CD) (al:List Al) (bl:List Nat):Prop where
 all:∀k o,ops[k]?=some o->l0.getD k true=false->k∈rU xs al\/k∈bl
 bl:∀k∈bl,k∉rU xs al/\l0.getD k true=false/\∃o,ops[k]?=some o/\((∀x∈xs,∃e∈o.after,Region.binds .any e=true/\e.on=x.c.j)\/∃e∈o.after,Region.binds .any e=true/\e.on∈bl)
theorem Fb{P:Program}{md:Region.Mode}{ops:Array Oper}{sf sf':Nat->Bool}{R:Act->World->Prop}:∀(n:Nat) (listed:Array Bool) (a:Act) (w:World),(∀i,listed.getD i true=false->sf' i=true->sf i=true) ->
 anyI P md ops sf R n listed a w->anyI P md ops sf' R n listed a w
 | 0,_,_,_,_,h=>h
 | n+1,listed,a,w,hs,h=>⟨h.1,λi hi=>oK (λa' w' hh=>⟨λe=>hh.1 (hs i (mem_ready.1 hi).1 e),Fb n _ a' w' (λk hk=>hs k (by
     by_cases hki:i=k
     .subst hki;rw[Array.getD_eq_getD_getElem?,Array.getElem?_setIfInBounds]at hk;simp only[if_true]at hk;split at hk
      .simp at hk
      .simp at hk
     .rw[getD_set_ne true hki]at hk;exact hk)) hh.2⟩) (h.2 i hi)⟩
theorem Fe{xs:List CD}{al:List Al}:k∈rU xs al↔(∃x∈xs,k=x.c.i\/k=x.c.j)\/∃q∈al,k=q.i:=by
 simp only[rU,Cj,List.mem_flatMap,QS,jM,List.not_mem_nil,or_false];constructor
 .rintro(h | ⟨q,h1,h2⟩)
  .exact .inl h
  .exact .inr ⟨q,h1,h2.symm⟩
 .rintro(h | ⟨q,h1,h2⟩)
  .exact .inl h
  .exact .inr ⟨q,h1,h2.symm⟩
section
variable {P:Program}{cx:Cx}{cz:Bool}{N:Nat}{B:Base}{h0 h:FH}{β:List RV}{s:St}{ops:Array Oper}{xs:List CD}{al:List Al}{bl:List Nat}{l0:Array Bool}{sf:Nat->Bool}{R:Act->World->Prop}{a0:Act}{D:List Nat}{rest:Nat}{cp:Nat->Bool}
theorem H7(hcp:∀j,cp j=true->∃x∈xs,x.c.j=j) (hgd:aG cx.gd h) (qV:Dis xs al) (ct:∀x∈xs,ChT ops cp l0 x.c) (co:∀x∈xs,Xo P cx ops s x/\x.c.di < N/\x.c.dj < N)
 (at_:∀q∈al,AlT ops l0 q.i q.d q.t/\aU P q.t q.ti/\q.d < N/\fH s.env q.d=none) (bt:BlT ops l0 xs al bl) (nd:(rU xs al).Nodup)
 (hD:∀x∈xs,fD x.c.di D=true/\fD x.c.dj D=true) (hA:∀q∈al,fD q.d D=true)
 (fin:∀(done:List Nat) (m:Nat) (a:Act) (w:World),done.Nodup->(∀k∈done,k∈rU xs al)->(rU xs al).length=done.length+m->Jm cz N B h0 s h β xs al (dL done l0) a w->Same D a0 a->(∀x∈xs,x.c.i∈done/\x.c.j∈done)->anyI P .any ops sf R (m+rest) (dL done l0) a w):
 ∀(m:Nat) (done:List Nat) (a:Act) (w:World),done.Nodup->(∀k∈done,k∈rU xs al)->(rU xs al).length=done.length+m->Jm cz N B h0 s h β xs al (dL done l0) a w->Same D a0 a->(∃x∈xs,x.c.j∉done)->anyI P .any ops sf R (m+rest) (dL done l0) a w:=by
 intro m
 induction m with
 | zero=>
   intro done a w dn sub len j sm ⟨x,hx,hj⟩;exfalso;have hsub:(x.c.j :: done).Nodup:=V3.2 ⟨hj,dn⟩;have:=List.Nodup.length_le_of_subset (l₂:=rU xs al) hsub (λk hk=>by
    rcases jM.1 hk with rfl | hk
    .exact Fe.2 (.inl ⟨x,hx,.inr rfl⟩)
    .exact sub k hk)
   rw[zI]at this;omega
 | succ m ih=>
   intro done a w dn sub len j sm ⟨x,hx,hj⟩;have rP:∀{a':Act}{d:Nat},fD d D=true->(∃v,a'=a.put (some d) v)->Same D a0 a':=by
    rintro a' d hd ⟨v,rfl⟩ t ht;have hne:d≠t:=by rintro rfl;rw[hd]at ht;cases ht
    rw[<-sm t ht];simp[Act.put,ZR hne]
   have go:∀(i:Nat) (a':Act) (w':World),i∉done->i∈rU xs al->Jm cz N B h0 s h β xs al ((dL done l0).setIfInBounds i true) a' w'->Same D a0 a'->anyI P .any ops sf R (m+rest) ((dL done l0).setIfInBounds i true) a' w':=by
    intro i a' w' hi hm j' sm';have dn':(i :: done).Nodup:=V3.2 ⟨hi,dn⟩;have sub':∀k∈i :: done,k∈rU xs al:=λk hk=>by
     rcases jM.1 hk with rfl | hk
     .exact hm
     .exact sub k hk
    have len':(rU xs al).length=(i :: done).length+m:=by rw[zI];omega
    by_cases hu:∃y∈xs,y.c.j∉i :: done
    .exact ih (i :: done) a' w' dn' sub' len' j' sm' hu
    .have hall:∀y∈xs,y.c.j∈i :: done:=λy hy=>Classical.byContradiction λh=>hu ⟨y,hy,h⟩
     refine fin (i :: done) m a' w' dn' sub' len' j' sm' λy hy=>⟨?_,hall y hy⟩
     have h1:(dL (i :: done) l0).getD y.c.i true=true:=j'.ord y hy (oN (hall y hy) (ct y hy).uj true);refine Classical.byContradiction λhn=>?_
     rw[oM hn (ct y hy).ui]at h1;cases h1
   have e1:m+1+rest=(m+rest)+1:=by omega
   rw[e1];refine⟨λhr=>?_,λi hi=>?_⟩
   .exfalso;have all:∀(n:Nat) (y:CD),y∈xs->y.c.j=n->y.c.j∈done:=by
     intro n
     induction n using Nat.strongRecOn with
     | ind n ihn=>
       intro y hy hn;refine Classical.byContradiction λhj=>?_
       by_cases hi:y.c.i∈done
       .obtain⟨o,k,o1,_,_,_,_,_,_,_,o2⟩:=(ct y hy).ap;have:y.c.j∈Region.ready .any ops (dL done l0):=mem_ready.2 ⟨oM hj (ct y hy).uj,o,o1,λe he hb=>by
         rcases o2 e he hb with h1 | h1 | ⟨h1,h2⟩
         .rw[h1];exact oN hi (ct y hy).ui false
         .exact DJ h1
         .obtain⟨z,hz,ez⟩:=hcp _ h2;rw[<-ez];exact oN (ihn z.c.j (by omega) z hz rfl) (ct z hz).uj false⟩
        rw[hr]at this;cases this
       .obtain⟨o,o1,_,_,_,o2⟩:=(ct y hy).bs;have:y.c.i∈Region.ready .any ops (dL done l0):=mem_ready.2 ⟨oM hi (ct y hy).ui,o,o1,λe he hb=>DJ (o2 e he hb)⟩
        rw[hr]at this;cases this
    exact hj (all _ x hx rfl)
   .obtain⟨i1,o,i2,i3⟩:=mem_ready.1 hi;obtain⟨i4,i5⟩:=AQ i1;have hmk:i∈rU xs al:=by
     rcases bt.all i o i2 i4 with h1 | h1
     .exact h1
     .exfalso;obtain⟨b1,b2,o',b3,b4⟩:=bt.bl i h1;rw[i2]at b3;cases b3;rcases b4 with b4 | ⟨e,he,hb,hm⟩
      .obtain⟨e,he,hb,hm⟩:=b4 x hx;have:=i3 e he hb;rw[hm,lQ (oM hj (ct x hx).uj)]at this;cases this
      .have:=i3 e he hb;obtain⟨b5,b6,_⟩:=bt.bl e.on hm;rw[lQ (oM (λhh=>b5 (sub _ hh)) b6)]at this;cases this
    rcases Fe.1 hmk with⟨y,hy,rfl | rfl⟩ | ⟨q,hq,rfl⟩
    .obtain⟨c1,c2,c3⟩:=co y hy;exact oK (λa' w' hh=>⟨λ_=>hh.1,go _ a' w' i5 hmk hh.2.2 (rP (hD y hy).1 hh.2.1)⟩) (j.bs qV hy c1 c2 i1)
    .obtain⟨c1,c2,c3⟩:=co y hy;obtain⟨o',k,o1,_,_,_,_,_,_,⟨e,he,hb,hm⟩,_⟩:=(ct y hy).ap;rw[i2]at o1;cases o1;have hl:(dL done l0).getD y.c.i true=true:=by
      have h1:=i3 e he hb;rw[hm]at h1;rw[Array.getD_eq_getD_getElem?,Nk h1];rfl
     exact oK (λa' w' hh=>⟨λ_=>hh.1,go _ a' w' i5 hmk hh.2.2 (rP (hD y hy).2 hh.2.1)⟩) (j.ap hgd qV hy c1 c3 hl i1)
    .obtain⟨⟨⟨o',o1,o2,o3,o4,o5⟩,u⟩,a2,a3,a4⟩:=at_ q hq;exact oK (λa' w' hh=>⟨λ_=>hh.1,go _ a' w' i5 hmk hh.2.2 (rP (hA q hq) hh.2.1)⟩) (j.new qV hq o1 o2 o3 o4 a2 a3 a4)
theorem Jm.start(ah:Sat N B h0 s h β w a) (ct:∀x∈xs,ChT ops cp l0 x.c) (at_:∀q∈al,AlT ops l0 q.i q.d q.t):Jm cz N B h0 s h β xs al l0 a w:=by
 refine⟨ah,⟨λ_=>0,λx hx=>⟨λh1=>?_,λh1=>?_⟩,λq hq h1=>?_⟩,λx hx h1=>?_⟩
 .rw[(ct x hx).ui]at h1;cases h1
 .rw[(ct x hx).uj]at h1;cases h1
 .rw[(at_ q hq).u]at h1;cases h1
 .rw[(ct x hx).uj]at h1;cases h1
theorem Jm.fin{done:List Nat} (j:Jm cz N B h0 s h β xs al (dL done l0) a w) (qV:Dis xs al) (nd:(xs.map λx=>x.c.j).Nodup) (ct:∀x∈xs,ChT ops cp l0 x.c) (at_:∀q∈al,AlT ops l0 q.i q.d q.t)
 (hn:∀x∈xs,x.c.dj < N) (hd:∀x∈xs,x.c.i∈done/\x.c.j∈done):
 ∃β',Sat N B h0 (yL xs s) h β' w a/\∀q∈al,q.i∈done->q.d < N->∃β2,Sat N B h0 (alS (yL xs s) q.d (pK cz q.t q.ti)) h β2 w a:=by
 obtain⟨own,f1,f2⟩:=j.own;obtain⟨β',aK,fr⟩:=H6 (own:=own) xs j.ah (λx hx=>by
  obtain⟨v,e1,e2,e3⟩:=(f1 x hx).2 (oN (hd x hx).2 (ct x hx).uj true);exact⟨v,e1,hn x hx,e2,e3⟩) nd
 refine⟨β',aK,λq hq hqd hqn=>?_⟩
 obtain⟨g,e1,e2,e3,e4⟩:=f2 q hq (oN hqd (at_ q hq).u true);refine⟨_,abD aK hqn e1 e2 (fr g e3 ?_)⟩;rw[e4];intro hh;obtain⟨x,hx,hh⟩:=QS.1 hh;exact(qV.ca x hx q hq).1.2 hh
end
def Wd(F:Fence):Prop:=F=Fence.wide\/∃l,F=Fence.wide.inRound l
theorem Wd.fn{F:Fence} (h:Wd F) (f:FuncId):F.fn f:=by rcases h with rfl | ⟨l,rfl⟩<;>trivial
theorem Wd.depth{F:Fence} (h:Wd F):F.depth=none:=by rcases h with rfl | ⟨l,rfl⟩<;>rfl
theorem Wd.calls{F:Fence} (hF:Wd F){f:FuncId}{args:Array Value}{R:Ending->World->Prop} (h:Calls P f args w R):CallsIn F n P f args w R:=by
 rcases hF with rfl | ⟨l,rfl⟩
 .exact callsIn_wide.2 h
 .exact(callsIn_wide.2 h:CallsIn Fence.wide n P f args w R).inRound l
abbrev Fg:Op->Bool
 | .defer _=>false
 | _=>true
abbrev yX:List Oper->Bool
 | []=>true
 | o :: l=>bY (Fg o.op) (yX l)
section
variable {F:Fence}{n:Nat}{P:Program}{ops:Array Oper}{md:Region.Mode}
theorem H8(hF:Wd F) (hd:Fg o.op=true){Nx:Act->World->Prop}{Q Q':Exit->Act->World->Prop} (h:o.wp P a w Nx EP):o.wpIn F n P a w Nx Q':=by
 refine⟨λf _=>hF.fn f,?_⟩
 rw[Oper.semAt_eq _ _ _ (λc hc=>by rw[hc]at hd;cases hd)]
 unfold Oper.wp at h;generalize (execOp a.eval o).run P w=r at *;cases r with
 | ok m w'=>
   cases m<;>simp only[Oper.upon]at h<;>simp only[Oper.uponIn]
   case enter f args=>
    refine⟨λhh=>(by rw[hF.depth]at hh;cases hh),hF.calls (h.mono λe w'' he=>?_)⟩
    cases e with
    | returned v=>exact he
    | panicked c=>exact False.elim he
    | outgrown=>exact uZ he
   case row row args=>
    refine⟨λhh=>(by rw[hF.depth]at hh;cases hh),λc cs _=>?_⟩
    obtain⟨v,w'',hr,hs⟩:=h c cs;refine⟨v,w'',hr,?_⟩;have:StepsIn (Machine.fenced P Fence.wide) P (lone (Frame.ofRow P row args .normal) (c :: cs) w') (lone (c.finish v) cs w''):=stepsIn_wide.2 hs;rcases hF with rfl | ⟨l,rfl⟩
    .exact this
    .exact this
   all_goals first | exact h | exact h.elim
 | halt x w'=>cases x<;>simp only[Oper.upon]at h<;>first | exact h.elim | exact False.elim h
def Xp(P:Program) (ops:Array Oper) (R:Act->World->Prop):List Oper->Act->World->Prop
 | [],a,w=>R a w
 | o :: rest,a,w=>if Region.wanted o (yielded ops a.tmps)=true then o.wp P a w (Xp P ops R rest) EP else Xp P ops R rest (a.put o.dst undef) w
theorem J3(hF:Wd F){R:Act->World->Prop}{Q:Exit->Act->World->Prop} (hR:∀a w,R a w->Q .normal a w):∀(l:List Oper) (k:Nat) (a:Act) (w:World),(∀j,l[j]?=ops[k+j]?)->yX l=true->Xp P ops R l a w ->
 wpOpsIn F n P ops Q (List.range' k l.length) a w
 | [],k,a,w,_,_,h=>hR _ _ h
 | o :: l,k,a,w,hl,hn,h=>by
   have h0:ops[k]?=some o:=by simpa using(hl 0).symm
   simp only[yX,ay,A8]at hn;have ih:∀a w,Xp P ops R l a w->wpOpsIn F n P ops Q (List.range' (k+1) l.length) a w:=λa w=>J3 hF hR l (k+1) a w (λj=>by have:=hl (j+1);simpa[V4,Q9 1 j]using this) hn.2
   simp only[zI,List.range'_succ,wpOpsIn,h0];unfold Xp at h;split
   .rename_i hw;rw[if_pos hw]at h;exact Oper.wpIn_mono ih (H8 (Q:=Q) hF hn.1 h)
   .rename_i hw;rw[if_neg hw]at h;exact⟨λf _=>hF.fn f,ih _ _ h⟩
theorem J4(hF:Wd F){R:Act->World->Prop} (hR:∀a w,R a w->Q .normal a w){id:Nat} (hn:yX ops.toList=true) (h:Xp P ops R ops.toList a w):(Code.region id ops false).wpIn F n P Q a w:=
 wpIn_region (by
  have:=J3 (n:=n) hF hR ops.toList 0 a w (λj=>by simp) hn h
  rw[List.range_eq_range'];simpa using this)
theorem AU(hn:yX ops.toList=true) (h:ops[i]?=some o):Fg o.op=true:=by
 have key:∀{l:List Oper},yX l=true->o∈l->Fg o.op=true:=by
  intro l
  induction l with
  | nil=>intro _ hm;cases hm
  | cons x l ih=>
    intro hh hm;simp only[yX,ay,A8]at hh;rcases jM.1 hm with rfl | hm
    .exact hh.1
    .exact ih hh.2 hm
 exact key hn (kT (i:=i) (by simpa using h))
theorem abG(hF:Wd F) (hn:yX ops.toList=true) (h:tC P ops i K a w):wpOpIn F n P ops Q i K a w:=by
 unfold tC at h;unfold wpOpIn;split
 .rename_i ho;simpa[ho]using h
 .rename_i o ho;simp only[ho]at h;split
  .rename_i hw;rw[if_pos hw]at h;exact H8 (Q:=Q) hF (AU hn ho) h
  .rename_i hw;rw[if_neg hw]at h;exact⟨λf _=>hF.fn f,h⟩
theorem zq{sf:Nat->Bool} (hF:Wd F) (hn:yX ops.toList=true){R:Act->World->Prop}{Q:Exit->Act->World->Prop} (hR:∀a w,R a w->Q .normal a w):∀(fuel:Nat) (listed:Array Bool) (a:Act) (w:World),
 anyI P md ops sf R fuel listed a w->wpAnyIn F n P md ops Q fuel listed a w
 | 0,_,_,_,h=>⟨h.1,hR _ _ h.2⟩
 | fuel+1,_,_,_,h=>⟨λe=>hR _ _ (h.1 e),λi hi=>abG hF hn (oK (λa w hh=>zq hF hn hR fuel _ a w hh.2) (h.2 i hi))⟩
theorem Xq(hF:Wd F) (hn:yX ops.toList=true){K:Act->Prop}{K':Act->World->Prop} (hK:∀a,K a->K' a w) (h:stOp P ops w i K a):wpOpIn F n P ops Q i K' a w:=by
 unfold stOp at h;unfold wpOpIn;split
 .rename_i ho;simp only[ho]at h;exact hK _ h
 .rename_i o ho;simp only[ho]at h;split
  .rename_i hw;rw[if_pos hw]at h;exact H8 (Q:=Q) hF (AU hn ho) (Oper.wp_of_still hK h)
  .rename_i hw;rw[if_neg hw]at h;exact⟨λf _=>hF.fn f,hK _ h⟩
theorem Nl(hF:Wd F) (hn:yX ops.toList=true){w:World}{R:Act->Prop}{Q:Exit->Act->World->Prop} (hR:∀a,R a->Q .normal a w):∀(fuel:Nat) (listed:Array Bool) (a:Act),
 wpAnyS P md ops w R fuel listed a->wpAnyIn F n P md ops Q fuel listed a w
 | 0,_,_,h=>⟨h.1,hR _ h.2⟩
 | fuel+1,_,_,h=>⟨λe=>hR _ (h.1 e),λi hi=>Xq hF hn (λa hh=>Nl hF hn hR fuel _ a hh) (h.2 i hi)⟩
theorem wR(hF:Wd F) (hn:yX ops.toList=true){id:Nat} (hm:P.follows .mixedOrders=true) (hB:Region.lexB .any ops=true)
 (h:wpStill P ops { w with drawn:=w.drawn+1 } (λa'=>Q .normal a' { w with drawn:=w.drawn+1 }) ops.toList a):(Code.region id ops true).wpIn F n P Q a w:=by
 simp only[Region.lexB,A8]at hB;refine wpIn_region_any hm (Nl (R:=λa'=>Q .normal a' { w with drawn:=w.drawn+1 }) hF hn (λ_ h=>h) _ _ _ ?_)
 have:=wpAnyS_lex (md:=.any) hB.1 ops.toList 0 (Array.replicate ops.size false) a (by simp) (by simpa using hB.2) h
 simpa using this
theorem wpIn_loop_ghost{c:Code} (I:Nat->Act->World->Prop) (n₀:Nat) (h₀:I n₀ a w)
 (round:∀m a w,I m a w->c.wpIn F n P (Exit.then (λa' w'=>∃n',n' < m/\I n' a' w') Q) a w):(Code.loop c).wpIn F n P Q a w:=by
 refine wpIn_loop (λa w=>∃m,I m a w) (λa w=>leastOf (λm=>I m a w)) ⟨n₀,h₀⟩ ?_
 intro a w hI;refine wpIn_mono (round _ a w (leastOf_spec hI).1) ?_;intro e a' w' hq;cases e with
 | normal=>
   obtain⟨n',gY,hI'⟩:=hq;exact show(∃m,I m a' w')/\leastOf (λm=>I m a' w') < leastOf (λm=>I m a w) from⟨⟨n',hI'⟩,Nat.lt_of_le_of_lt ((leastOf_spec ⟨n',hI'⟩).2 n' hI') gY⟩
 | exit id=>exact hq
 | goto l=>exact hq
 | ret=>exact hq
 | panic ch=>exact hq
 | outgrown=>exact hq
end
section
variable {P:Program}{ops:Array Oper}{md:Region.Mode}{n:Nat}{sf:Nat->Bool}
def nP(P:Program) (n:Nat) (ops:Array Oper) (i:Nat) (K:Act->World->Prop) (a:Act) (w:World):Prop:=
 match ops[i]? with
 | none=>K a w
 | some o=>if Region.wanted o (yielded ops a.tmps)=true then o.uponIn Fence.wide n P a K EP ((execOp a.eval o).run P w) else K (a.put o.dst undef) w
theorem DK{K':Act->World->Prop}{Q':Exit->Act->World->Prop} (h:∀a w,K a w->K' a w){r:Result Next} (hh:o.uponIn Fence.wide n P a K EP r):o.uponIn Fence.wide n P a K' Q' r:=by
 cases r with
 | ok x w'=>
   cases x<;>simp only[Oper.uponIn]at hh ⊢
   case enter f args=>
    refine⟨hh.1,hh.2.mono λe w'' he=>?_⟩
    cases e with
    | returned v=>exact h _ _ he
    | panicked c=>exact False.elim he
    | outgrown=>exact uZ he
   case row r args=>
    exact⟨hh.1,RowsIn.mono hh.2 λv w'' he=>h _ _ he⟩
   case round l f tmps CB body=>
    refine⟨hh.1,RoundIn.mono hh.2 λe w'' he=>?_⟩
    cases e with
    | returned v=>exact h _ _ he
    | panicked c=>exact False.elim he
    | outgrown=>exact uZ he
   all_goals first | exact h _ _ hh | exact hh.elim
 | halt x w'=>cases x<;>simp only[Oper.uponIn]at hh ⊢<;>exact False.elim hh
theorem DL{K':Act->World->Prop} (h:∀a w,K a w->K' a w) (hh:nP P n ops i K a w):nP P n ops i K' a w:=by
 unfold nP at *;split
 .exact h _ _ (by simpa[*]using hh)
 .rename_i o ho;simp only[ho]at hh;split
  .rename_i hw;rw[if_pos hw]at hh;exact DK h hh
  .rename_i hw;rw[if_neg hw]at hh;exact h _ _ hh
theorem Xr(hn:yX ops.toList=true) (h:nP P n ops i K a w):wpOpIn Fence.wide n P ops Q i K a w:=by
 unfold nP at h;unfold wpOpIn;split
 .rename_i ho;simpa[ho]using h
 .rename_i o ho;simp only[ho]at h;split
  .rename_i hw;rw[if_pos hw]at h;refine⟨λf _=>trivial,?_⟩
   rw[Oper.semAt_eq _ _ _ (λc hc=>by have:=AU hn ho;rw[hc]at this;cases this)]
   exact DK (λ_ _ hh=>hh) h
  .rename_i hw;rw[if_neg hw]at h;exact⟨λf _=>trivial,h⟩
theorem aal(hn:yX ops.toList=true) (h:tC P ops i K a w):nP P n ops i K a w:=by
 unfold tC at h;unfold nP;split
 .rename_i ho;simpa[ho]using h
 .rename_i o ho;simp only[ho]at h;split
  .rename_i hw;rw[if_pos hw]at h;have h2:=(H8 (n:=n) (Q:=EP) (Q':=EP) (.inl rfl:Wd Fence.wide) (AU hn ho) h).2
   rwa [Oper.semAt_eq _ _ _ (λc hc=>by have:=AU hn ho;rw[hc]at this;cases this)]at h2
  .rename_i hw;rw[if_neg hw]at h;exact h
def Fh(P:Program) (n:Nat) (md:Region.Mode) (ops:Array Oper) (sf:Nat->Bool) (R:Act->World->Prop):Nat->Array Bool->Act->World->Prop
 | 0,listed,a,w=>Region.ready md ops listed=[]/\R a w
 | fuel+1,listed,a,w=>(Region.ready md ops listed=[]->R a w) /\
   ∀i∈Region.ready md ops listed,nP P n ops i (λa' w'=>(sf i=true->jL w w')/\Fh P n md ops sf R fuel (listed.setIfInBounds i true) a' w') a w
theorem Np(hn:yX ops.toList=true){R:Act->World->Prop}{Q:Exit->Act->World->Prop} (hR:∀a w,R a w->Q .normal a w):∀(fuel:Nat) (listed:Array Bool) (a:Act) (w:World),
 Fh P n md ops sf R fuel listed a w->wpAnyIn Fence.wide n P md ops Q fuel listed a w
 | 0,_,_,_,h=>⟨h.1,hR _ _ h.2⟩
 | fuel+1,_,_,_,h=>⟨λe=>hR _ _ (h.1 e),λi hi=>Xr hn (DL (λa w hh=>Np hn hR fuel _ a w hh.2) (h.2 i hi))⟩
theorem YI.nP{ld:Bool}{w0:World}{i:Nat}{o:Oper}{v:Value}{a:Act} (hi:ops[i]?=some o) (hy:YI P ops ld w0 o v a){K:Act->World->Prop}{w:World} (hg:ld=true->jL w0 w)
 (h:K (a.put o.dst v) w):nP P n ops i K a w:=by
 unfold Go.lM.nP;simp only[hi];rcases hy with⟨hw,hv⟩ | ⟨hw,rfl⟩
 .rw[if_pos hw,hv w hg];exact h
 .rw[if_neg (by rw[hw];simp)];exact h
theorem Tz{ld:Bool}{w0:World}{oi oj:Oper} (hj:ops[j]?=some oj) (hap:oi.apart ops oj=true)
 (hsi:∀cs b,oi.op≠.select cs b) (hsj:∀cs b,oj.op≠.select cs b)
 (hy:YI P ops ld w0 oi v a) (h:nP P n ops j K (a.put oi.dst v) w):
 nP P n ops j (λa' w'=>YI P ops ld w0 oi v a'/\K (a'.put oi.dst v) w') a w:=by
 obtain⟨h1,h2,h3⟩:=Oper.apart_spec hap;have keep:∀(a:Act),YI P ops ld w0 oi v a->∀u,YI P ops ld w0 oi v (a.put oj.dst u):=λa hy u=>
  hy.of_same (execOp_put oi hsi a oj.dst u h3) (wanted_put oi a oj.dst u h3)
 have keepD:∀d,YI P ops ld w0 oi v { a with defers:=d :: a.defers }:=λd=>hy.of_same rfl rfl
 unfold nP at *;simp only[hj]at *;rw[wanted_put oj a oi.dst v h1]at h;split
 .rename_i hw;rw[if_pos hw]at h;rw[execOp_put oj hsj a oi.dst v h1]at h;generalize (execOp a.eval oj).run P w=r at *;cases r with
  | ok m w'=>
    cases m<;>simp only[Oper.uponIn]at h ⊢
    case value u=>exact⟨keep a hy u,by rw[<-Act.put_comm a v u h2];exact h⟩
    case skip=>exact⟨keep a hy _,by rw[<-Act.put_comm a v undef h2];exact h⟩
    case defer d=>
     refine⟨(keep _ (keepD d) _),?_⟩;rw[<-Act.put_comm _ v undef h2,<-Act.put_defers];exact h
    case enter f args=>
     refine⟨h.1,h.2.mono λe w'' he=>?_⟩
     cases e with
     | returned u=>exact⟨keep a hy u,by rw[<-Act.put_comm a v u h2];exact he⟩
     | panicked c=>exact he
     | outgrown=>exact he
    case row r args=>
     refine⟨h.1,RowsIn.mono h.2 λu w'' he=>?_⟩
     exact⟨keep a hy u,by rw[<-Act.put_comm a v u h2];exact he⟩
    case round l f tmps CB body=>
     refine⟨h.1,RoundIn.mono h.2 λe w'' he=>?_⟩
     cases e with
     | returned u=>exact⟨keep a hy u,by rw[<-Act.put_comm a v u h2];exact he⟩
     | panicked c=>exact he
     | outgrown=>exact he
    all_goals exact h
  | halt x w'=>cases x<;>simp only[Oper.uponIn]at h ⊢<;>exact h
 .rename_i hw;rw[if_neg hw]at h;exact⟨keep a hy _,by rw[<-Act.put_comm a v undef h2];exact h⟩
theorem J5{R:Act->World->Prop}{ld:Bool}{w0:World}{oi:Oper}{bl:List Nat} (hi:ops[i]?=some oi) (hsel:∀(j:Nat) (o:Oper) cs b,ops[j]?=some o->o.op≠.select cs b)
 (hq:sf i=true):
 ∀(fuel:Nat) (listed:Array Bool) (a:Act) (w:World),
   (∀j oj,ops[j]?=some oj->j≠i->listed.getD j true=false->(∀e∈oj.after,Region.binds md e=true->e.on≠i)->oi.apart ops oj=true) ->
   (ld=true->Waits md ops listed i bl/\∀j,j≠i->listed.getD j true=false->sf j=false->j∈bl) ->
   i∈Region.ready md ops listed->YI P ops ld w0 oi v a->(ld=true->jL w0 w) ->
   Fh P n md ops sf R fuel (listed.setIfInBounds i true) (a.put oi.dst v) w->Fh P n md ops sf R (fuel+1) listed a w:=by
 intro fuel
 induction fuel with
 | zero=>
   intro listed a w _ _ hr hy hg H;refine⟨λh=>(by rw[h]at hr;cases hr),λj hj=>?_⟩
   by_cases hji:j=i
   .subst hji;exact hy.nP hi hg ⟨λ_=>jL.refl w,H⟩
   .have:=ready_mono hj hji;rw[H.1]at this;cases this
 | succ fuel ih=>
   intro listed a w hfree hbl hr hy hg H;refine⟨λh=>(by rw[h]at hr;cases hr),λj hj=>?_⟩
   by_cases hji:j=i
   .subst hji;exact hy.nP hi hg ⟨λ_=>jL.refl w,H⟩
   .have h1:=H.2 j (ready_mono hj hji);obtain⟨hjun,oj,hoj,hall⟩:=mem_ready.1 hj;have RY:=(mem_ready.1 hr).1;have hnot:∀e∈oj.after,Region.binds md e=true->e.on≠i:=λe he hb heq=>by
     have h1:=hall e he hb;rw[heq,lQ RY]at h1;cases h1
    have h2:=Tz hoj (hfree j oj hoj hji hjun hnot) (λcs b=>hsel i oi cs b hi) (λcs b=>hsel j oj cs b hoj) hy h1
    have hfree':∀k ok,ops[k]?=some ok->k≠i->(listed.setIfInBounds j true).getD k true=false ->
     (∀e∈ok.after,Region.binds md e=true->e.on≠i)->oi.apart ops ok=true:=λk ok hk hki hun hno=>by
     refine hfree k ok hk hki ?_ hno
     by_cases ku:j=k
     .subst ku;exact hjun
     .rw[getD_set_ne true ku]at hun;exact hun
    have RZ:ld=true->j∉bl:=λe hm=>Dy RY (hbl e).1 hm hj
    have hsj:ld=true->sf j=true:=λe=>by
     cases hs:sf j with
     | true=>rfl
     | false=>exact absurd ((hbl e).2 j hji hjun hs) (RZ e)
    have aa8:ld=true->Waits md ops (listed.setIfInBounds j true) i bl/\∀k,k≠i->(listed.setIfInBounds j true).getD k true=false->sf k=false->k∈bl:=λe=>by
     refine⟨λk hk=>?_,λk hki hun hs=>?_⟩
     .obtain⟨g1,g2⟩:=(hbl e).1 k hk;refine⟨?_,g2⟩;rw[getD_set_ne true (λhh=>RZ e (by rw[hh];exact hk))];exact g1
     .refine(hbl e).2 k hki ?_ hs
      by_cases ku:j=k
      .subst ku;exact hjun
      .rw[getD_set_ne true ku]at hun;exact hun
    refine DL (λa' w' h3=>⟨h3.2.1,ih (listed.setIfInBounds j true) a' w' hfree' aa8 (ready_mono hr (Ne.symm hji)) h3.1 (λe=>(hg e).trans (h3.2.1 (hsj e))) ?_⟩) h2
    rw[Array.setIfInBounds_comm _ _ hji];exact h3.2.2
end
end Go.lM
