/- Part 3 of the proof. Conditions: the rows'. -/
import Derived.Test.YtjhenjhcbcalpaaGreatDoorB2
import Derived.LoopNIn
import Derived.Deep.LoopGhost
import Derived.Laws.IdiomRangeMap
set_option linter.unusedSimpArgs false
set_option linter.unusedVariables false
set_option maxRecDepth 1000000
set_option maxHeartbeats 8000000
namespace Go.lH
open Go Go.RowKit
variable {h:FH}{β:List RV}{w w':World}{i j so g off k n:Nat}{v y:Value}{T:List ak}{r:ak}{t tt ty el:TypeId}{e:Sh}{hs:List Nat}{cs:List Value}{p:Prop}{c:Call}{ops:Array Oper}{a:Act}{Q:Exit->Act->World->Prop}{K:Act->World->Prop}{kk:IntKind}
abbrev SC.ajW(i:Nat):SC->Bool
 | .sub j _=>!Nat.beq i j
 | .kV j _ _ _ _=>!Nat.beq i j
 | _=>true
abbrev tH(i:Nat) (x:SC):SC:=match SC.ajW i x with
 | true=>x
 | false=>.junk
abbrev mV(f:SC->SC):SV->SV
 | .c x=>.c (f x)
 | .agg xs=>.agg (dV f xs)
 | v=>v
abbrev mE(f:SC->SC):bF->bF
 | .one v=>.one (mV f v)
 | .iO vs=>.iO (dV (mV f) vs)
abbrev mR(f:SC->SC):ak->ak
 | .blk t cs=>.blk t (dV f cs)
 | r=>r
abbrev yu(f:SC->SC):List (Nat×Gd×bF)->List (Nat×Gd×bF)
 | []=>[]
 | (k,g,e) :: l=>(k,g,mE f e) :: yu f l
abbrev mT(f:SC->SC):List (Gd×ak)->List (Gd×ak)
 | []=>[]
 | (g,r) :: l=>(g,mR f r) :: mT f l
theorem CY{R R':SC->Value->Prop}{f:SC->SC} (hR:∀x y,R x y->R' (f x) y):∀{xs:List SC}{ys:List Value},aO (λx y=>R x y/\dD y) xs ys->aO (λx y=>R' x y/\dD y) (dV f xs) ys
 | [],[],_=>trivial
 | _ :: _,_ :: _,⟨a,b⟩=>⟨⟨hR _ _ a.1,a.2⟩,CY hR b⟩
theorem cZ.map{h':FH}{β':List RV}{f:SC->SC} (le:h.le h') (hR:∀x y,dN h β x y->dN h' β' (f x) y):∀{x:SV}{y:Value},cZ h β x y->cZ h' β' (mV f x) y
 | .c _,_,c=>⟨hR _ _ c.1,c.2⟩
 | .agg _,_,⟨ys,e,a⟩=>⟨ys,e,CY hR a⟩
 | .dat s _,_,⟨g,cs,e,r⟩=>⟨g,cs,e,r.mono le s⟩
 | .und,_,c=>c
theorem jw.map{h h':FH}{β β':List RV}{f:SC->SC} (le:h.le h') (hR:∀x y,dN h β x y->dN h' β' (f x) y):∀{x:bF}{y:Value},jw h β x y->jw h' β' (mE f x) y
 | .one _,_,c=>cZ.map le hR c
 | .iO _,_,⟨ys,e,a⟩=>⟨ys,e,go a⟩
where
 go:∀{xs:List SV}{ys:List Value},aO (cZ h β) xs ys->aO (cZ h' β') (dV (mV f) xs) ys
  | [],[],_=>trivial
  | _ :: _,_ :: _,⟨a,b⟩=>⟨cZ.map le hR a,go b⟩
theorem Holds.map{h':FH}{β':List RV}{f:SC->SC} (le:h.le h') (hR:∀x y,dN h β x y->dN h' β' (f x) y):∀{r:ak}{v:RV},Holds h β w r v->(r.live=true->∀b,v.has b->w'.heap[b]?=w.heap[b]?)->Holds h' β' w' (mR f r) v
 | .blk _ _,.blk b,⟨ys,e,a⟩,k=>⟨ys,by rw[k rfl b (kE.2 rfl)];exact e,CY hR a⟩
 | .row _ _ _,.row v,x,k=>lq.move le x λb hb=>k rfl b (aW.2 hb)
 | .obj _ s _,.blk b,⟨ys,e,r⟩,k=>⟨ys,by rw[k rfl b (kE.2 rfl)];exact e,r.mono le s⟩
 | .deep _ _ _ _ _ _ _ _,.deep _ _,x,k=>dQ.move le x (k rfl)
 | .mp k' s l,.row v,x,k=>Holds.move (r:=.mp k' s l) (v:=.row v) (β':=β') (β:=β') le (Ext.refl _) x k
 | .LQ k' s l n,.deep v us,x,k=>Holds.move (r:=.LQ k' s l n) (v:=.deep v us) (β':=β') (β:=β') le (Ext.refl _) x k
 | .it k' s l dn,.blk v,x,k=>Holds.move (r:=.it k' s l dn) (v:=.blk v) (β':=β') (β:=β') le (Ext.refl _) x k
 | .Jj _ _ _ _,.row v,x,k=>TlH.move x λb hb=>k rfl b (aW.2 hb)
 | .Fe _ _ _ _,.deep _ _,x,k=>BL.move le x (k rfl)
 | .gone,_,_,_=>trivial
theorem oN(f:SC->SC) (r:ak):(mR f r).live=r.live:=by cases r<;>rfl
theorem VO{f:SC->SC}:∀{l:List (Nat×Gd×bF)}{t:Nat}{G:Gd}{e:bF},gX (yu f l) t=some (G,e)->∃e0,gX l t=some (G,e0)/\e=mE f e0
 | [],_,_,_,h=>by simp[yu,gX]at h
 | (k,g,e0) :: l,t,G,e,h=>by
   simp only[yu]at h;rw[aU]at h ⊢
   split at h
   .rename_i hk;cases h;exact⟨e0,by rw[if_pos hk],rfl⟩
   .rename_i hk;rw[if_neg hk];exact VO h
theorem VP{f:SC->SC}:∀{l:List (Nat×Gd×bF)}{t:Nat}{G:Gd}{e:bF},gX l t=some (G,e)->gX (yu f l) t=some (G,mE f e)
 | [],_,_,_,h=>by simp[gX]at h
 | (k,g,e0) :: l,t,G,e,h=>by
   simp only[yu];rw[aU]at h ⊢
   split at h
   .rename_i hk;cases h;rw[if_pos hk]
   .rename_i hk;rw[if_neg hk];exact VP h
theorem CZ(gl:List Bool) (f:SC->SC):∀{T:List (Gd×ak)},eff gl (mT f T)=(eff gl T).map (mR f)
 | []=>rfl
 | (g,r) :: l=>by
   simp only[mT,eff,Uu,CZ gl f (T:=l)]
   congr 1
   cases gv gl g<;>rfl
theorem C9{f:SC->SC}{p:Gd×ak}:∀{T:List (Gd×ak)},p∈mT f T->∃q∈T,q.1=p.1
 | [],h=>by simp[mT]at h
 | (g,r) :: t,h=>by
   simp only[mT,mF]at h;rcases h with rfl | h
   .exact⟨(g,r),by simp,rfl⟩
   .obtain⟨q,h1,h2⟩:=C9 h;exact⟨q,by simp[h1],h2⟩
section
variable {cx:Cx}{P:Program}{N:Nat}{B:Base}{h0:FH}{s:St}{h:FH}{β:List RV}{w:World}{a:Act}{o:Oper}{K:St->Prop}
theorem Sat.map(aj:Sat N B h0 s h β w a){f:SC->SC}{T':List (Gd×ak)}{h':FH}{β':List RV}{w':World} (le:h.le h') (hf:∀b,f (.v (.bool b))=.v (.bool b)) (hR:∀x y,dN h β x y->dN h' β' (f x) y)
 (ok:OK B h0 (eff s.gl T') h' β' w') (gT:∀p∈T',uK s.gl.length p.1=true):Sat N B h0 { s with T:=T',env:=yu f s.env } h' β' w' a:=by
 refine⟨ok,?_,?_,aj.defers,aj.sz,?_,gT⟩
 .intro t G e ht;obtain⟨e0,h1,rfl⟩:=VO ht;obtain⟨z,q1,q2,q3⟩:=aj.env t G e0 h1;exact⟨z,q1,λhG=>jw.map le hR (q2 hG),q3⟩
 .intro d i hi;obtain⟨G,b,q1,q2⟩:=aj.gs d i hi;have:=VP (f:=f) q1;simp only[mE,mV,hf]at this;exact⟨G,b,this,q2⟩
 .intro t G e ht;obtain⟨e0,h1,rfl⟩:=VO ht;exact aj.gb t G e0 h1
theorem dF{u v:RV} (hu:β[i]?=some u):(β.set i v)[j]?=if j=i then some v else β[j]?:=by
 by_cases hj:j=i
 .subst hj;rw[if_pos rfl,pG (fH.1 hu).1]
 .rw[if_neg hj,lW (Ne.symm hj)]
theorem Nv(h:(!Nat.beq i j)=true):j≠i:=by
 rintro rfl;simp at h
theorem dN.js{us us':Nat->Value}{u:RV} (hu:β[i]?=some u) (hd:u=.deep v us\/u=.row v){x:SC} (c:dN h β x y):dN h (β.set i (.deep v us')) (tH i x) y:=by
 have hsl:u.sl=some v:=by rcases hd with rfl | rfl<;>rfl
 have hbl:u.block=(RV.deep v us').block:=by rcases hd with rfl | rfl<;>rfl
 have nb:∀b,u≠.blk b:=by rcases hd with rfl | rfl<;>intro b e<;>cases e
 unfold tH;split
 .rename_i hf;cases x with
  | v _=>exact c
  | sl _ _=>exact c
  | fp _ _=>exact c
  | one _ _=>exact c
  | abs _=>exact c
  | junk=>trivial
  | own j off=>
    obtain⟨b,e,e'⟩:=c;refine⟨b,?_,e'⟩;rw[dF hu,if_neg]
    .exact e
    .rintro rfl;rw[hu]at e;cases e;exact nb b rfl
  | row j=>
    obtain⟨z,e,e'⟩:=c
    by_cases hj:j=i
    .subst hj;rw[hu]at e;cases e;exact⟨.deep v us',by rw[dF hu,if_pos rfl],by rw[hsl]at e';exact e'⟩
    .exact⟨z,by rw[dF hu,if_neg hj];exact e,e'⟩
  | jA j k sz off=>
    obtain⟨z,g,e,e',e2⟩:=c
    by_cases hj:j=i
    .subst hj;rw[hu]at e;cases e;exact⟨.deep v us',g,by rw[dF hu,if_pos rfl],by rw[<-hbl];exact e',e2⟩
    .exact⟨z,g,by rw[dF hu,if_neg hj];exact e,e',e2⟩
  | sub j k=>
    obtain⟨z,sJ,e,e'⟩:=c;exact⟨z,sJ,by rw[dF hu,if_neg (Nv hf)];exact e,e'⟩
  | kV j k m sz off=>
    obtain⟨z,sJ,g,e,e'⟩:=c;exact⟨z,sJ,g,by rw[dF hu,if_neg (Nv hf)];exact e,e'⟩
 .trivial
theorem OK.Nw(ok:OK B h0 T h β w){r':ak}{u v:RV}{f:SC->SC}
 (hT:T[i]?=some r) (hl:r.live=true) (hu:β[i]?=some u){row:Option Nat} (hg:Gb w w' row) (jZ:∀k,row=some k->u.has k){X:Nat->Prop}
 (hX:∀b,X b->B.al b/\b < w.heap.size/\(∀o,h b o=none)/\∀(j:Nat) (rj:ak) (vj:RV),j≠i->T[j]?=some rj->rj.live=true->β[j]?=some vj->¬vj.has b)
 (hv:∀b,v.has b->u.has b\/X b\/(w.heap.size<=b/\b < w'.heap.size)) (hC:∀x y,dN h β x y->dN h (β.set i v) (f x) y) (hold:Holds h (β.set i v) w' r' v):
 OK B h0 ((T.map (mR f)).set i r') h (β.set i v) w':=by
 have hi:i < T.length:=(fH.1 hT).1;have hi':i < β.length:=by rw[ok.len];exact hi
 have BM:∀b,u.has b->B.al b/\b < w.heap.size/\∀o,h b o=none:=λb hb=>ok.own i r u b hT hl hu hb
 have nf:∀b,w.heap.size<=b->∀o,h b o=none:=by
  intro b hb o;cases hh:h b o with
  | none=>rfl
  | some x=>have:=nD (ok.hw b o x hh);omega
 have U6:∀b,v.has b->B.al b/\b < w'.heap.size/\∀o,h b o=none:=by
  intro b hb;rcases hv b hb with hb' | hb' | ⟨h1,h2⟩
  .obtain⟨a1,a2,a3⟩:=BM b hb';exact⟨a1,L8 a2 hg.size,a3⟩
  .obtain⟨a1,a2,a3,_⟩:=hX b hb';exact⟨a1,L8 a2 hg.size,a3⟩
  .exact⟨B.up _ (pI ok.below.size h1),h2,nf b h1⟩
 have apart:∀j rj vj b,j≠i->T[j]?=some rj->rj.live=true->β[j]?=some vj->vj.has b->v.has b->False:=by
  intro j rj vj b hj ej lj iZ hb hb2;rcases hv b hb2 with hb' | hb' | ⟨h1,h2⟩
  .exact hj (ok.inj j i rj r vj u b ej lj hT hl iZ hu hb hb')
  .exact(hX b hb').2.2.2 j rj vj hj ej lj iZ hb
  .have:=(ok.own j rj vj b ej lj iZ hb).2.1;omega
 have get:∀{j:Nat}{rj:ak},j≠i->((T.map (mR f)).set i r')[j]?=some rj->∃r0,T[j]?=some r0/\rj=mR f r0:=by
  intro j rj hj e;rw[lW (Ne.symm hj),Es]at e;cases hh:T[j]? with
  | none=>rw[hh]at e;cases e
  | some r0=>rw[hh]at e;cases e;exact⟨r0,rfl,rfl⟩
 exact {
  below:=ok.below.grown hg.togrownBy λk e=>(BM k (jZ k e)).1
  dr:=pI ok.dr hg.dr
  len:=by simp[ok.len]
  holds:=by
   intro j rj vj ej iZ
   by_cases hj:j=i
   .subst hj;rw[pG (by simpa using hi)]at ej
    rw[pG hi']at iZ;cases ej;cases iZ;exact hold
   .obtain⟨r0,e0,rfl⟩:=get hj ej;rw[lW (Ne.symm hj)]at iZ;refine(ok.holds j r0 vj e0 iZ).map (FH.le.refl h) hC λhlj b hb=>hg.block b (ok.own j r0 vj b e0 hlj iZ hb).2.1 λe=>hj ?_
    exact ok.inj j i r0 r vj u b e0 hlj hT hl iZ hu hb (jZ b e.symm)
  own:=by
   intro j rj vj b ej hlj iZ hb
   by_cases hj:j=i
   .subst hj;rw[pG hi']at iZ;cases iZ;exact U6 b hb
   .obtain⟨r0,e0,rfl⟩:=get hj ej;rw[lW (Ne.symm hj)]at iZ;obtain⟨a1,a2,a3⟩:=ok.own j r0 vj b e0 (by rw[<-oN f];exact hlj) iZ hb
    exact⟨a1,L8 a2 hg.size,a3⟩
  inj:=by
   intro j k r1 r2 u1 u2 b e1 l1 e2 l2 e3 e4 b1 b2
   by_cases hj:j=i<;>by_cases hk:k=i
   .rw[hj,hk]
   .exfalso;subst hj;rw[pG hi']at e3;cases e3;obtain⟨r0,e0,rfl⟩:=get hk e2;rw[lW (Ne.symm hk)]at e4;exact apart k r0 u2 b hk e0 (by rw[<-oN f];exact l2) e4 b2 b1
   .exfalso;subst hk;rw[pG hi']at e4;cases e4;obtain⟨r0,e0,rfl⟩:=get hj e1;rw[lW (Ne.symm hj)]at e3;exact apart j r0 u1 b hj e0 (by rw[<-oN f];exact l1) e3 b1 b2
   .obtain⟨r0,e0,rfl⟩:=get hj e1;obtain⟨r0',e0',rfl⟩:=get hk e2;rw[lW (Ne.symm hj)]at e3;rw[lW (Ne.symm hk)]at e4;exact ok.inj j k r0 r0' u1 u2 b e0 (by rw[<-oN f];exact l1) e0' (by rw[<-oN f];exact l2) e3 e4 b1 b2
  hle:=ok.hle
  hw:=frozen_kept ok.hw hg λk e=>(BM k (jZ k e)).2.2
  hg:=ok.hg
  kn:=ok.kept hg λb e=>(ok.holds i r u hT hu).cells hl (jZ b e) }
theorem OK.al3(ok:OK B h0 T h β w){v:RV}
 (hX:∀b,v.has b->B.al b/\b < w.heap.size/\(∀o,h b o=none)/\∀(j:Nat) (rj:ak) (vj:RV),T[j]?=some rj->rj.live=true->β[j]?=some vj->¬vj.has b) (hold:Holds h (β++[v]) w r v):
 OK B h0 (T++[r]) h (β++[v]) w where
 below:=ok.below
 dr:=ok.dr
 len:=by simp[ok.len]
 holds:=by
  intro i r' v' e e';rcases aA e with⟨hi,e⟩ | ⟨hi,rfl⟩
  .rcases aA e' with⟨_,e'⟩ | ⟨hj,_⟩
   .exact(ok.holds i r' v' e e').move (FH.le.refl h) (Ext.append _ _) λhl b hb=>rfl
   .have:=ok.len;omega
  .rcases aA e' with⟨hj,e'⟩ | ⟨_,rfl⟩
   .have:=ok.len;omega
   .exact hold
 own:=by
  intro i r' v' b e hl e' hb;rcases aA e' with⟨hj,e'⟩ | ⟨hj,rfl⟩
  .rcases aA e with⟨_,e⟩ | ⟨hi,rfl⟩
   .exact ok.own i r' v' b e hl e' hb
   .have:=ok.len;omega
  .obtain⟨h1,h2,h3,_⟩:=hX b hb;exact⟨h1,h2,h3⟩
 inj:=by
  intro i j r1 r2 u v' b ei hl1 ej hl2 eu ev hu hv';have L:=ok.len;rcases aA ei with⟨hi,ei⟩ | ⟨hi,_⟩<;>rcases aA ej with⟨hj,ej⟩ | ⟨hj,_⟩<;>
   rcases aA eu with⟨hi',eu⟩ | ⟨hi',rfl⟩<;>rcases aA ev with⟨hj',ev⟩ | ⟨hj',rfl⟩<;>first
    | omega
    | exact ok.inj i j r1 r2 u v' b ei hl1 ej hl2 eu ev hu hv'
    | exact((hX b hv').2.2.2 i r1 u ei hl1 eu hu).elim
    | exact((hX b hu).2.2.2 j r2 v' ej hl2 ev hv').elim
 hle:=ok.hle
 hw:=ok.hw
 hg:=ok.hg
 kn:=ok.kn
abbrev vN:Nat->Bool:=λ_=>false
def wK:Nat->Value:=λ_=>lZ
theorem nR(j:Nat):au (wK j)=none:=rfl
theorem Hw{s:Sh}{l:List s.den} (x:lq h w t s l v):dQ h w t s l tt e so vN [] v wK:=by
 refine⟨λj k b hb=>(by rw[nR]at hb;cases hb),λj b hb=>(by rw[nR]at hb;cases hb),?_⟩
 rcases x with x | x | ⟨g,cap,cur,e0,e1,e2,e3,e4,r⟩
 .exact .inl x
 .exact .inr (.inl x)
 .refine .inr (.inr ⟨g,cap,cur,e0,e1,e2,e3,e4,λj=>by rw[nR];simp,λj d hd=>?_⟩)
  obtain⟨g1,g2⟩:=r.get (λ_ _=>Rd.size s) hd
  refine⟨?_,nR j⟩;have hj:=(fH.1 hd).1;have hm:(j+1) * s.size<=l.length * s.size:=xg _ hj;rw[xk]at hm;have e5:List.take s.size (List.drop (j * s.size) (List.take (l.length * s.size) cur.toList))=List.take s.size (List.drop (j * s.size) cur.toList):=by
   apply Ar;intro p;simp only[uH,I9];split
   .rw[if_pos (by omega)]
   .rfl
  rw[e5]at g1;exact g1
abbrev JJ(s:St) (i:Nat) (tt:TypeId) (e:Sh) (so:Nat):St:=match dU s.T i with
 | some ([],.row t sh l)=>{ s with T:=dh s.T i ([],.deep t sh l tt e so vN []) }
 | _=>s
theorem ae3(r:ak):mR (λx=>x) r=r:=by
 have:∀l:List SC,dV (λx=>x) l=l:=by
  intro l
  induction l with
  | nil=>rfl
  | cons x l ih=>simp[dV,ih]
 cases r<;>simp[mR,this]
theorem Sat.JJ(aj:Sat N B h0 s h β w a) (i:Nat) (tt:TypeId) (e:Sh) (so:Nat):∃β',Sat N B h0 (JJ s i tt e so) h β' w a:=by
 unfold lH.JJ;split
 .rename_i t sh l hT;have fG:=bg hT (show gv s.gl []=true from rfl)
  have iV:i < β.length:=by rw[aj.ok.len];exact(fH.1 fG).1
  have hu:=lY iV;have hold:=aj.ok.holds i _ _ fG hu;cases hb:β[i]with
  | blk b=>rw[hb]at hold;cases hold
  | no=>rw[hb]at hold;cases hold
  | deep _ _=>rw[hb]at hold;cases hold
  | row v=>
    rw[hb]at hold hu;have hC:∀x y,dN h β x y->dN h (β.set i (.deep v wK)) x y:=by
     intro x y c;have:=dN.js (us:=wK) (us':=wK) hu (.inr rfl) c;cases x with
     | sub j k=>
       obtain⟨z,sJ,e1,e2⟩:=c;refine⟨z,sJ,?_,e2⟩;rw[dF hu,if_neg]
       .exact e1
       .rintro rfl;rw[hu]at e1;cases e1
     | kV j k m sz off=>
       obtain⟨z,sJ,g,e1,e2⟩:=c;refine⟨z,sJ,g,?_,e2⟩;rw[dF hu,if_neg]
       .exact e1
       .rintro rfl;rw[hu]at e1;cases e1
     | _=>exact this
    refine⟨β.set i (.deep v wK),?_,?_,aj.gs,aj.defers,aj.sz,aj.gb,o7 aj⟩
    .show OK B h0 (eff s.gl (dh s.T i ([],.deep t sh l tt e so vN []))) h _ w;rw[wG];have:=aj.ok.Nw (f:=λx=>x) (r':=.deep t sh l tt e so vN []) (v:=.deep v wK) (row:=none) (X:=λ_=>False) fG rfl hu (bW w none) (λk e=>by cases e) (λb hb=>hb.elim)
      (λb hb=>by
       rw[aQ]at hb;rcases hb with hb | ⟨j,hb⟩
       .exact .inl (aW.2 hb)
       .rw[nR]at hb;cases hb) hC (Hw hold)
     rwa [show(eff s.gl s.T).map (mR λx=>x)=eff s.gl s.T by rw[show(mR λx=>x)=id from funext ae3];simp]at this
    .intro t' G e' ht;obtain⟨z,q1,q2,q3⟩:=aj.env t' G e' ht;refine⟨z,q1,λhG=>?_,q3⟩
     have:=jw.map (f:=λx=>x) (FH.le.refl h) hC (q2 hG)
     have hid:mE (λx=>x) e'=e':=by
      have m1:∀l:List SC,dV (λx=>x) l=l:=by
       intro l
       induction l with
       | nil=>rfl
       | cons x l ih=>simp[dV,ih]
      have m2:∀x:SV,mV (λx=>x) x=x:=by intro x;cases x<;>simp[mV,m1]
      cases e' with
      | one x=>simp[mE,m2]
      | iO xs=>
        have:∀l:List SV,dV (mV λx=>x) l=l:=by
         intro l
         induction l with
         | nil=>rfl
         | cons x l ih=>simp[dV,ih,m2]
        simp[mE,this]
     rwa [hid]at this
 .exact⟨β,aj⟩
theorem dQ.third{sh:Sh}{l:List sh.den}{own:Nat->Bool}{us:Nat->Value} (D:dQ h w t sh l tt e so own hs v us) (hj:j < l.length):
 ∃g cap cur,v=.slice (some ⟨g,0,none⟩) l.length cap/\w.heap[g]?=some (.cells cur t (0,0))/\l.length<=cap/\(1<=cap/\cap<=maxLen) /\
   cur.size=cap * sh.size/\(∀j,au (us j)≠some g)/\∀j d,l[j]?=some d->zf h w sh tt e so (own j) (mP j hs) (us j) ((cur.toList.drop (j * sh.size)).take sh.size) d:=by
 obtain⟨_,_,D⟩:=D;rcases D with⟨_,e0⟩ | ⟨_,_,e0⟩ | D
 .subst e0;simp at hj
 .subst e0;simp at hj
 .exact D
theorem dQ.get{sh:Sh}{l:List sh.den}{own:Nat->Bool}{us:Nat->Value} (D:dQ h w t sh l tt e so own hs v us){d:sh.den} (hd:l[j]?=some d) (ho:own j=true) (hh:mP j hs=false)
 {x:List e.den} (hx:EI sh d so e=some x):lq h w tt e x (us j):=by
 obtain⟨_,_,_,_,_,_,_,_,_,h6⟩:=D.third (fH.1 hd).1;have h7:=h6 j d hd;rw[ho,hh]at h7;obtain⟨d0,x',_,p,_,rw_⟩:=h7;rw[GX p hx];exact rw_
theorem dQ.inner{sh:Sh}{l:List sh.den}{own:Nat->Bool}{us:Nat->Value} (D:dQ h w t sh l tt e so own hs v us){d d':sh.den} (hd:l[j]?=some d) (ho:own j=true) (hh:mP j hs=false)
 (fr:∀b,au (us j)≠some b->(∃o,w.heap[b]?=some o)->w'.heap[b]?=w.heap[b]?) (ce:∀b,au (us j)=some b->∃o,w'.heap[b]?=some o/\ours o=true){x':List e.den} (hp:EJ sh d so e x'=some d') (hr:lq h w' tt e x' (us j)):dQ h w' t sh (l.set j d') tt e so own hs v us:=by
 have hj:=(fH.1 hd).1;obtain⟨g,cap,cur,e0,e1,e2,e3,e4,e5,e6⟩:=D.third hj;obtain⟨D1,D2,_⟩:=D;have fr':∀i b,i≠j->au (us i)=some b->w'.heap[b]?=w.heap[b]?:=by
  intro i b hi hb;obtain⟨_,o,ho,_⟩:=D2 i b hb;exact fr b (λhh=>hi (D1 i j b hb hh)) ⟨o,ho⟩
 refine⟨D1,λi b hb=>?_,.inr (.inr ⟨g,cap,cur,by rw[qN];exact e0,?_,by rw[qN];exact e2,e3,e4,e5,λi di hdi=>?_⟩)⟩
 .rw[qN];obtain⟨q1,o,q2,q3⟩:=D2 i b hb
  by_cases hi:i=j
  .subst hi;exact⟨q1,ce b hb⟩
  .exact⟨q1,o,by rw[fr' i b hi hb];exact q2,q3⟩
 .rw[fr g (e5 j) ⟨_,e1⟩];exact e1
 .by_cases hi:i=j
  .subst hi;rw[pG hj]at hdi;cases hdi;have h7:=e6 i d hd;rw[ho,hh]at h7 ⊢;obtain⟨d0,y,r,p,c,q⟩:=h7;exact⟨d0,x',r,p.trans (GV hp),c,hr⟩
  .rw[lW (Ne.symm hi)]at hdi;exact(e6 i di hdi).move (FH.le.refl h) λb hb=>fr' i b hi hb
theorem dQ.write{sh:Sh}{l:List sh.den}{own own':Nat->Bool}{hs':List Nat}{us us':Nat->Value} (D:dQ h w t sh l tt e so own hs v us){d d':sh.den} (hd:l[j]?=some d)
 {cap:Nat}{cur:Array Value} (hv:v=.slice (some ⟨g,0,none⟩) l.length cap) (hw:w.heap[g]?=some (.cells cur t (0,0))) (hk:off+k<=sh.size){cs':List Value} (hc:cs'.length=k)
 (same:∀i,i≠j->own' i=own i/\mP i hs'=mP i hs/\us' i=us i) (apart:∀i b,i≠j->au (us i)=some b->au (us' j)≠some b) (bl:∀b,au (us' j)=some b->b≠g/\∃o,w.heap[b]?=some o/\ours o=true)
 (el:∀(w':World) cs,(∀b,b≠g->w'.heap[b]?=w.heap[b]?)->cs.length=sh.size->zf h w sh tt e so (own j) (mP j hs) (us j) cs d->zf h w' sh tt e so (own' j) (mP j hs') (us' j) (cs.take off++cs'++cs.drop (off+k)) d'):
 j * sh.size+off+k<=cur.size/\dQ h (w.setRow g (cur.toList.take (j * sh.size+off)++cs'++cur.toList.drop (j * sh.size+off+k)).toArray) t sh (l.set j d') tt e so own' hs' v us':=by
 have hj:=(fH.1 hd).1;obtain⟨g2,cap2,Dc,e0,e1,e2,e3,e4,e5,e6⟩:=D.third hj;rw[hv]at e0;have eg:g=g2/\cap=cap2:=by simpa using e0
 obtain⟨rfl,rfl⟩:=eg;rw[hw]at e1;have ec:cur=Dc:=by simpa using e1
 subst ec;obtain⟨D1,D2,_⟩:=D;have lc:cur.toList.length=cap * sh.size:=by simpa using e4
 have hm:(j+1) * sh.size<=cap * sh.size:=xg _ (by omega)
 rw[xk]at hm;refine⟨by omega,?_⟩
 generalize hw':w.setRow g (cur.toList.take (j * sh.size+off)++cs'++cur.toList.drop (j * sh.size+off+k)).toArray=w';have fr:∀b,b≠g->w'.heap[b]?=w.heap[b]?:=λb hb=>by rw[<-hw'];exact setRow_other w g b _ hb
 have hg':w'.heap[g]?=some (.cells (cur.toList.take (j * sh.size+off)++cs'++cur.toList.drop (j * sh.size+off+k)).toArray t (0,0)):=by rw[<-hw'];exact setRow_heap w g _ _ t (0,0) hw
 have ne:∀i b,au (us i)=some b->b≠g:=λi b hb hh=>e5 i (by rw[hb,hh])
 refine⟨λi k b h1 h2=>?_,λi b hb=>?_,.inr (.inr ⟨g,cap,_,by rw[qN];exact hv,hg',by rw[qN];exact e2,e3,?_,λi hb=>?_,λi di hdi=>?_⟩)⟩
 .by_cases hi:i=j<;>by_cases hk:k=j
  .rw[hi,hk]
  .subst hi;rw[(same k hk).2.2]at h2;exact(apart k b hk h2 h1).elim
  .subst hk;rw[(same i hi).2.2]at h1;exact(apart i b hi h1 h2).elim
  .rw[(same i hi).2.2]at h1;rw[(same k hk).2.2]at h2;exact D1 i k b h1 h2
 .rw[qN]
  by_cases hi:i=j
  .subst hi;obtain⟨q1,o,q2,q3⟩:=bl b hb;exact⟨hj,o,by rw[fr b q1];exact q2,q3⟩
  .rw[(same i hi).2.2]at hb;obtain⟨q1,o,q2,q3⟩:=D2 i b hb;exact⟨q1,o,by rw[fr b (ne i b hb)];exact q2,q3⟩
 .simp only[EC,jR,jY,xw];omega
 .by_cases hi:i=j
  .subst hi;exact(bl g hb).1 rfl
  .rw[(same i hi).2.2]at hb;exact e5 i hb
 .by_cases hi:i=j
  .subst hi;rw[pG hj]at hdi;cases hdi;have h7:=el w' _ fr (by rw[jY,xw];omega) (e6 i d hd)
   have key:List.take sh.size (List.drop (i * sh.size) (List.take (i * sh.size+off) cur.toList++cs'++List.drop (i * sh.size+off+k) cur.toList))=List.take off (List.take sh.size (List.drop (i * sh.size) cur.toList))++cs'++List.drop (off+k) (List.take sh.size (List.drop (i * sh.size) cur.toList)):=by
    apply Ar;intro p;simp only[A86,uH,I9,jR,jY,xw,lc,hc]
    repeat' split
    all_goals first | rfl | omega | (congr 1;omega) | (rw[uG (by omega)]) | (exfalso;omega) | skip
   simp only at key ⊢;rw[key];exact h7
  .rw[lW (Ne.symm hi)]at hdi;obtain⟨q1,q2,q3⟩:=same i hi;rw[q1,q2,q3];have h7:=(e6 i di hdi).move (w':=w') (FH.le.refl h) λb hb=>fr b (ne i b hb)
   have hi2:=(fH.1 hdi).1;have hm2:(i+1) * sh.size<=cap * sh.size:=xg _ (by omega)
   rw[xk]at hm2;have hne:i * sh.size+sh.size<=j * sh.size\/j * sh.size+sh.size<=i * sh.size:=by
    rcases Nat.lt_or_gt_of_ne hi with hh | hh
    .left;have:(i+1) * sh.size<=j * sh.size:=xg _ hh
     rwa [xk]at this
    .right;have:(j+1) * sh.size<=i * sh.size:=xg _ hh
     rwa [xk]at this
   have key:List.take sh.size (List.drop (i * sh.size) (List.take (j * sh.size+off) cur.toList++cs'++List.drop (j * sh.size+off+k) cur.toList))=List.take sh.size (List.drop (i * sh.size) cur.toList):=by
    apply Ar;intro p;simp only[A86,uH,I9,jR,jY,xw,lc,hc]
    repeat' split
    all_goals first | rfl | omega | (congr 1;omega) | (rw[uG (by omega)]) | (exfalso;omega) | skip
   simp only at key ⊢;rw[key];exact h7
abbrev ql(us:Nat->Value) (j:Nat):Nat->Value:=λk=>if k=j then lZ else us k
theorem dQ.open{sh:Sh}{l:List sh.den}{own:Nat->Bool}{us:Nat->Value} (D:dQ h w t sh l tt e so own [] v us){d:sh.den} (hd:l[j]?=some d) (ho:own j=true):dQ h w t sh l tt e so own [j] v (ql us j):=by
 have hj:=(fH.1 hd).1;obtain⟨g,cap,cur,e0,e1,e2,e3,e4,e5,e6⟩:=D.third hj;obtain⟨D1,D2,_⟩:=D;have sub:∀i b,au (ql us j i)=some b->i≠j/\au (us i)=some b:=by
  intro i b hb;unfold ql at hb;split at hb
  .cases hb
  .rename_i hi;exact⟨hi,hb⟩
 refine⟨λi k b h1 h2=>D1 i k b (sub i b h1).2 (sub k b h2).2,λi b hb=>D2 i b (sub i b hb).2,.inr (.inr ⟨g,cap,cur,e0,e1,e2,e3,e4,λi hb=>e5 i (sub i g hb).2,λi di hdi=>?_⟩)⟩
 have h7:=e6 i di hdi
 by_cases hi:i=j
 .subst hi;rw[ho]at h7;obtain⟨d0,y,r,p,c,q⟩:=h7;have e7:mP i [i]=true:=by simp[mP]
  rw[e7];refine⟨by simp[ql,lZ,au],d0,y,r,p,us i,c,?_⟩
  rcases q with⟨e1,_⟩ | ⟨_,e1,_⟩ | ⟨_,_,_,e1,_⟩<;>rw[e1]<;>exact⟨rfl,rfl⟩
 .have e7:mP i [j]=false:=by simp[mP,hi]
  have e8:ql us j i=us i:=by simp[ql,hi]
  rw[e7,e8];exact h7
theorem yw:∀{s:Sh}{so:Nat}{e:Sh}{d0 d d':s.den}{x:List e.den}{off k:Nat}{v:SV},lu s so e d0 x d->off+k<=so\/so+1<=off->xG s d off k v=some d'->∃d0',xG s d0 off k v=some d0'/\lu s so e d0' x d'
 | .sl s,so,e,d0,d,d',x,off,k,v,⟨h1,_,_⟩,hd,h=>by
   exfalso;unfold xG at h;split at h
   .rename_i hh;rw[ay,A8]at hh;have a1:=gJ hh.1;have a2:1=k:=gJ hh.2;omega
   .cases h
 | .pair a b,so,e,(p0,q0),(p,q),d',x,off,k,v,hp,hd,h=>by
   have iV:so < a.size+b.size:=lu.lt hp;unfold xG at h ⊢
   cases hw:dA (Nat.beq off 0) (Nat.beq (a.size+b.size) k) with
   | true=>
     rw[ay,A8]at hw;have a1:=gJ hw.1;have a2:=gJ hw.2;omega
   | false=>
     rw[hw]at h;simp only at h ⊢
     cases hle:Nat.ble (off+1) a.size with
     | true=>
       rw[hle]at h;simp only at h ⊢
       have hle:=oZ hle;split at h
       .rename_i y hy;cases h;rcases hp with⟨g1,e1,h1⟩ | ⟨g1,e1,h1⟩
        .subst e1;rw[hy];exact⟨_,rfl,.inl ⟨g1,rfl,h1⟩⟩
        .obtain⟨z,hz,h2⟩:=yw h1 hd hy;rw[hz];exact⟨_,rfl,.inr ⟨g1,e1,h2⟩⟩
       .cases h
     | false=>
       rw[hle]at h;simp only at h ⊢
       have hle:=uN hle;split at h
       .rename_i y hy;cases h;rcases hp with⟨g1,e1,h1⟩ | ⟨g1,e1,h1⟩
        .obtain⟨z,hz,h2⟩:=yw h1 (by omega) hy
         rw[hz];exact⟨_,rfl,.inl ⟨g1,e1,h2⟩⟩
        .subst e1;rw[hy];exact⟨_,rfl,.inr ⟨g1,rfl,h1⟩⟩
       .cases h
 | .int _,_,_,_,_,_,_,_,_,_,h,_,_=>h.elim
 | .bool,_,_,_,_,_,_,_,_,_,h,_,_=>h.elim
 | .str,_,_,_,_,_,_,_,_,_,h,_,_=>h.elim
 | .any,_,_,_,_,_,_,_,_,_,h,_,_=>h.elim
 | .unit,_,_,_,_,_,_,_,_,_,h,_,_=>h.elim
 | .arr _ _,_,_,_,_,_,_,_,_,_,h,_,_=>h.elim
theorem set_mid{cs':List Value}{z:Value} (hk:cs'.length=k) (hl:off+k<=cs.length) (hd:off+k<=so\/so+1<=off):
 (cs.set so z).take off++cs'++(cs.set so z).drop (off+k)=(cs.take off++cs'++cs.drop (off+k)).set so z:=by
 apply Ar;intro p;simp only[A86,uH,I9,jR,jY,xw,List.getElem?_set,qN,hk]
 repeat' split
 all_goals first | rfl | omega | (congr 1;omega) | (exfalso;omega) | skip
theorem zf.upd{s:Sh}{own hole:Bool}{u:Value}{d d':s.den}{v:SV} (x:zf h w s tt e so own hole u cs d) (dis:off+k<=so\/so+1<=off)
 (hu:xG s d off k v=some d') (c:cZ h β v y):∃cs',y.cells=cs'.toArray/\cs'.length=k/\(∀u∈cs',dD u)/\off+k<=cs.length/\zf h w s tt e so own hole u (cs.take off++cs'++cs.drop (off+k)) d':=by
 have ae4:∀{cs':List Value}{z:Value},cs'.length=k->off+k<=cs.length->cs[so]?=some z->(cs.take off++cs'++cs.drop (off+k))[so]?=some z:=by
  intro cs' z hk hl hz;have iV:=(fH.1 hz).1;rcases dis with dis | dis
  .rw[L6 (by simp only[jR,jY];omega),I9,<-hz]
   congr 1
   simp only[jR,jY];omega
  .rw[Uo (by simp only[jR,jY];omega),Uo (by simp only[jY];omega),uH,if_pos (by omega)]
   exact hz
 unfold zf at x ⊢;cases hole with
 | false=>
   cases own with
   | false=>
     obtain⟨cs',e1,e2,e3,e4,e5⟩:=mW s hu x.1 c;exact⟨cs',e1,e2,e3,e4,e5,x.2⟩
   | true=>
     obtain⟨d0,z,r,p,cu,q⟩:=x;obtain⟨d0',h1,h2⟩:=yw p dis hu;obtain⟨cs',e1,e2,e3,e4,e5⟩:=mW s h1 r c;rw[qN]at e4;rw[set_mid e2 e4 dis]at e5;exact⟨cs',e1,e2,e3,e4,d0',z,e5,h2,ae4 e2 e4 cu,q⟩
 | true=>
   obtain⟨x0,d0,z,r,p,y0,cu,q⟩:=x;obtain⟨d0',h1,h2⟩:=yw p dis hu;obtain⟨cs',e1,e2,e3,e4,e5⟩:=mW s h1 r c;rw[qN]at e4;rw[set_mid e2 e4 dis]at e5;exact⟨cs',e1,e2,e3,e4,x0,d0',z,e5,h2,y0,ae4 e2 e4 cu,q⟩
abbrev nS(own:Nat->Bool) (j:Nat):Nat->Bool:=λk=>cnd (decide (k=j)) true (own k)
abbrev rowOf:SV->Option Nat
 | .c (.row q)=>some q
 | _=>none
abbrev ae5(hs:List Nat) (j:Nat) (K:Prop):Prop:=match hs with
 | []=>K
 | [k]=>j=k/\K
 | _=>False
abbrev PU(s:St) (d:Option Nat) (i:TI) (r j sz off:Nat) (tt:TypeId) (sh:Sh) (l:List sh.den) (t2:TypeId) (e:Sh) (so:Nat) (own:Nat->Bool) (hs:List Nat) (v:SV) (K:St->Prop):Prop:=match Nat.beq sz sh.size with
 | false=>False
 | true=>match aa1 (Nat.ble (off+i.size) so) (Nat.ble (so+1) off) with
   | true=>(j < l.length)/\∀e0:sh.den,l[j]?=some e0->match xG sh e0 off i.size v with
     | some dd=>K ({ s with T:=dh s.T r ([],.deep tt sh (l.set j dd) t2 e so own hs) }.put d [] (.one .und))
     | none=>False
   | false=>match rowOf v with
     | some q=>match dU s.T q with
       | some ([],.row tq eq x)=>match dA (Nat.beq tq t2) (dA (Nat.beq off so) (Nat.beq i.size 1)) with
         | true=>match jd (.sl eq) x (.sl e) with
           | some x=>(j < l.length)/\ae5 hs j (∀e0:sh.den,l[j]?=some e0->match EJ sh e0 so e x with
             | some dd=>K ({ s with T:=dh (mT (tH r) (dh s.T q ([],.gone))) r ([],.deep tt sh (l.set j dd) t2 e so (nS own j) []),env:=yu (tH r) s.env }.put d [] (.one .und))
             | none=>False)
           | none=>False
         | false=>False
       | _=>False
     | none=>False
abbrev abk(cx:Cx) (s:St) (d:Option Nat) (t:TypeId) (p x:Operand) (K:St->Prop):Option Prop:=match oJ cx.ti t with
 | none=>none
 | some i=>match bH cx s [] p with
   | some (.one (.c (.jA r j sz off)))=>match dU s.T r with
     | some ([],.deep tt sh l t2 e so own hs)=>match bH cx s [] x with
       | some (.one v)=>some (PU s d i r j sz off tt sh l t2 e so own hs v K)
       | _=>none
     | _=>none
   | some (.one (.c (.kV r j k sz off)))=>match dU s.T r with
     | some ([],.deep tt sh l t2 e so own hs)=>match bH cx s [] x with
       | some (.one v)=>some (match Nat.beq sz e.size with
         | false=>False
         | true=>(own j=true/\mP j hs=false/\j < l.length)/\∀d0:sh.den,l[j]?=some d0->match EI sh d0 so e with
           | some xs=>(k < xs.length)/\∀y:e.den,xs[k]?=some y->match xG e y off i.size v with
             | some y'=>match EJ sh d0 so e (xs.set k y') with
               | some dd=>K ({ s with T:=dh s.T r ([],.deep tt sh (l.set j dd) t2 e so own hs) }.put d [] (.one .und))
               | none=>False
             | none=>False
           | none=>False)
       | _=>none
     | _=>none
   | _=>none
theorem lq.write{sh:Sh}{l:List sh.den}{u:Value} (x:lq h w t sh l u){d dd:sh.den} (hg:au u=some g) (hd:l[j]?=some d) (up:∀{cs:List Value},Rd h sh cs d->Upd h sh cs off k y dd):
 ∃cur,w.heap[g]?=some (.cells cur t (0,0))/\j * sh.size+off+k<=cur.size/\y.cells.size=k/\(∀z∈y.cells.toList,dD z)/\lq h (w.setRow g (cur.toList.take (j * sh.size+off)++y.cells.toList++cur.toList.drop (j * sh.size+off+k)).toArray) t sh (l.set j dd) u:=by
 have hj:=(fH.1 hd).1;rcases x with⟨hv0,_⟩ | ⟨_,hv0,_⟩ | ⟨g',cap,cur,hv0,he,q2,q3,q4,q5⟩
 .subst hv0;simp[au]at hg
 .subst hv0;simp[au]at hg
 .have hgg:g'=g:=by rw[hv0,aS q3.1]at hg;exact LM hg
  subst hgg;have hm:(j+1) * sh.size<=l.length * sh.size:=xg _ hj;have hm2:l.length * sh.size<=cap * sh.size:=xg _ q2;rw[xk]at hm;obtain⟨g1,g2⟩:=q5.get (λ_ _=>Rd.size sh) hd
  have gl:=Rd.size sh g1;obtain⟨cs',ec,e2,e3,e4,e5⟩:=up g1;rw[gl]at e4;have lc:cur.toList.length=cap * sh.size:=by simpa using q4
  refine⟨cur,he,by omega,by rw[ec];simpa using e2,λz hz=>e3 z (by rw[ec]at hz;simpa using hz),.inr (.inr ⟨g',cap,_,by rw[qN];exact hv0,setRow_heap w g' _ _ t (0,0) he,by rw[qN];exact q2,q3,?_,?_⟩)⟩
  .rw[ec];simp only[EC,jR,jY,xw,Ro];omega
  .rw[qN,ec];show fK (Rd h sh) ((List.take (j * sh.size+off) cur.toList++cs'++List.drop (j * sh.size+off+k) cur.toList).take (l.length * sh.size)) (l.set j dd);have e:=fK.set (λ_ _=>Rd.size sh) q5 hj e5
   have key:(List.take (j * sh.size+off) cur.toList++cs'++List.drop (j * sh.size+off+k) cur.toList).take (l.length * sh.size) =
    List.take (j * sh.size) (List.take (l.length * sh.size) cur.toList)++(List.take off (List.take sh.size (List.drop (j * sh.size) (List.take (l.length * sh.size) cur.toList)))++cs'++List.drop (off+k) (List.take sh.size (List.drop (j * sh.size) (List.take (l.length * sh.size) cur.toList))))++List.drop (j * sh.size+sh.size) (List.take (l.length * sh.size) cur.toList):=by
    apply Ar;intro p;simp only[A86,uH,I9,jR,jY,xw,lc,e2]
    repeat' split
    all_goals first | rfl | omega | (congr 1;omega) | (rw[uG (by omega)]) | (exfalso;omega) | skip
   rw[key];exact e
theorem take_set{o:Nat} (h:o < cs.length):cs.take o++[y]++cs.drop (o+1)=cs.set o y:=by
 rw[List.set_eq_take_append_cons_drop,if_pos h];simp
theorem VQ(hc:bJ P cx.ti) (aj:Sat N B h0 s h β w a) (hg:aI cx.gd h) (hd:kU N o.dst=true){p x:Operand} (ho:o.op=.store t p x){q:Prop} (hq:abk cx s o.dst t p x K=some q) (k:q):
 fO P N B h0 h w a o (gv s.gl []) K:=by
 have tr:gv s.gl []=true:=rfl;unfold abk at hq;split at hq
 .cases hq
 rename_i i hi;have ti:=hc.get hi;have exec:∀{w':World}{v pv:Value},a.eval x=v->a.eval p=pv->(Instr.storeAt t pv v).run P w=.ok () w'->(execOp a.eval o).run P w=.ok .skip w':=by
  intro w' v pv e1 e2 r;simp only[execOp,ho,e1,e2,Sem.run_bind,r,Result.andThen_ok,Sem.run_pure]
 split at hq
 .rename_i r j sz off hp;obtain⟨⟨v0,g,hb,hgb,ep⟩,_⟩:=aK aj hg tr hp;split at hq
  .rename_i tt sh l t2 e so own hs hT;have fG:=bg hT tr;have hold:=aj.ok.holds r _ _ fG hb;split at hq
   .rename_i v hv;have cv:=aK aj hg tr hv;cases hq
    match v0,hold,hgb,hb with
    | .deep vv us,D,hgb,hb=>
      have D:dQ h w tt sh l t2 e so own hs vv us:=D;have hgb:au vv=some g:=hgb;have outer:∀{j:Nat},j < l.length->∃cap cur,vv=.slice (some ⟨g,0,none⟩) l.length cap/\w.heap[g]?=some (.cells cur tt (0,0))/\∀d,l[j]?=some d->zf h w sh t2 e so (own j) (mP j hs) (us j) ((cur.toList.drop (j * sh.size)).take sh.size) d/\(j+1) * sh.size<=cur.size:=by
       intro j hj;obtain⟨g2,cap,cur,e0,e1,e2,e3,e4,e5,e6⟩:=D.third hj;rw[e0,aS e3.1]at hgb;cases hgb;refine⟨cap,cur,e0,e1,λd hd=>⟨e6 j d hd,?_⟩⟩
       rw[e4];exact xg _ (by omega)
      unfold PU at k;split at k
      .cases k
      rename_i hz;have hz:sz=sh.size:=gJ hz;split at k
      .rename_i hdis;have hdis:off+i.size<=so\/so+1<=off:=by
        unfold aa1 at hdis;split at hdis
        .rename_i hh;exact .inl (oZ hh)
        .exact .inr (oZ hdis)
       obtain⟨hj,k⟩:=k;have k:=k _ (lY hj);split at k
       .rename_i dd hdd;obtain⟨cap,cur,e0,e1,e2⟩:=outer hj;obtain⟨el,hsz⟩:=e2 _ (lY hj);obtain⟨cs',ec,c2,c3,c4,c5⟩:=el.upd hdis hdd cv;rw[xk]at hsz;have hcl:((cur.toList.drop (j * sh.size)).take sh.size).length=sh.size:=by rw[jY,xw,Ro];omega
        rw[hcl]at c4;obtain⟨f1,f2⟩:=D.write (own':=own) (hs':=hs) (us':=us) (d':=dd) (cs':=cs') (off:=off) (k:=i.size) (lY hj) e0 e1 c4 c2 (λ_ _=>⟨rfl,rfl,rfl⟩) (λi' b hi' hb' hb2=>hi' (D.1 _ _ b hb' hb2)) (λb hb'=>⟨λhh=>(D.third hj).elim λg2 z=>by
         obtain⟨cap2,Dc,f0,_,f3,f4,_,f5,_⟩:=z;rw[f0,aS f4.1]at hgb;cases hgb;exact f5 j (by rw[hb',hh]),(D.2.1 j b hb').2⟩) (λw' cs fr hl ex=>by
         obtain⟨cs2,ec2,_,_,_,ex2⟩:=ex.upd hdis hdd cv;have:cs2=cs':=by rw[ec]at ec2;simpa using ec2.symm
         subst this;refine ex2.move (FH.le.refl h) λb hb'=>fr b λhh=>?_
         obtain⟨g2,cap2,Dc,f0,_,_,f4,_,f5,_⟩:=D.third hj;rw[f0,aS f4.1]at hgb;cases hgb;exact f5 j (by rw[hb',hh]))
        have r1:=dX (o:=j * sz+off) (v:=a.eval x) ti e1 (by rw[ec];simpa using c2) (by rw[hz];omega) (by rw[ec];intro u hu;exact c3 u (by simpa using hu))
        refine qh aj (by rw[ho];rfl) hd hT rfl hb hgb ?_ (exec rfl ep r1) k
        rw[ec,hz];exact f2
       .cases k
      .split at k
       .rename_i q hq0;split at k
        .rename_i tq eq x0 hTq;have rZ:=bg hTq tr;split at k
         .rename_i hcs;rw[ay,ay,A8,A8]at hcs;have a0:tq=t2:=gJ hcs.1;have a1:off=so:=gJ hcs.2.1;have a2:i.size=1:=gJ hcs.2.2;subst a0;subst a1;split at k
          .rename_i x1 hx1;obtain⟨e1,e2⟩:=nK hx1;subst e1;simp only at e2;subst e2;obtain⟨hj,k⟩:=k;have hv1:v=.c (.row q):=by
            unfold rowOf at hq0;split at hq0
            .cases hq0;rfl
            .cases hq0
           subst hv1;have hbq:=aj.ok.row_of rZ cv.1;have jZ:lq h w tq eq x0 (a.eval x):=aj.ok.holds q _ _ rZ hbq;have hone:dD (a.eval x):=cv.2;have hqr:q≠r:=by rintro rfl;rw[rZ]at fG;cases fG
           have kk:(∀i',i'≠j->mP i' hs=false)/\∀e0:sh.den,l[j]?=some e0->match EJ sh e0 off eq x0 with
            | some dd=>K ({ s with T:=dh (mT (tH r) (dh s.T q ([],.gone))) r ([],.deep tt sh (l.set j dd) tq eq off (nS own j) []),env:=yu (tH r) s.env }.put o.dst [] (.one .und))
            | none=>False:=by
            unfold ae5 at k;split at k
            .exact⟨λ_ _=>rfl,k⟩
            .exact⟨λi' hi'=>by simp[mP];rw[<-k.1];exact hi',k.2⟩
            .cases k
           obtain⟨kJ,k⟩:=kk;have k:=k _ (lY hj);split at k
           .rename_i dd hdd;have hdd:=GV hdd;have hso:=hdd.lt;obtain⟨cap,cur,e0,e1,e2⟩:=outer hj;obtain⟨_,hsz⟩:=e2 _ (lY hj);rw[xk]at hsz;have gne:∀b,au (a.eval x)=some b->∀u,(RV.deep vv us).has u->u≠b:=λb hb1 u hu hh=>hqr (aj.ok.inj q r _ _ _ _ b rZ rfl fG rfl hbq hb (aW.2 hb1) (by rw[<-hh];exact hu))
            obtain⟨f1,f2⟩:=D.write (own':=nS own j) (hs':=[]) (us':=λi'=>if i'=j then a.eval x else us i') (d':=dd) (cs':=[a.eval x]) (off:=off) (k:=1) (lY hj) e0 e1 (by omega) rfl
             (λi' hi'=>⟨by simp[nS,hi',cnd],by rw[kJ i' hi'],by simp[hi']⟩)
             (λi' b hi' hb' hb2=>by
              rw[if_pos rfl]at hb2;exact gne b hb2 b (aQ.2 (.inr ⟨i',hb'⟩)) rfl)
             (λb hb'=>by
              rw[if_pos rfl]at hb';exact⟨λhh=>gne b hb' g (aQ.2 (.inl hgb)) hh.symm,(aj.ok.holds q _ _ rZ hbq).cells rfl (aW.2 hb')⟩)
             (λw' cs fr hl ex=>by
              rw[if_pos rfl,show nS own j j=true by simp[nS,cnd],take_set (by omega)]
              have emp:∃d0,Rd h sh (cs.set off lZ) d0/\lu sh off eq d0 x0 dd:=by
               unfold zf at ex;cases hh:mP j hs with
               | false=>
                 rw[hh]at ex;cases hoo:own j with
                 | false=>
                   rw[hoo]at ex;obtain⟨d0,hd0⟩:=hdd.ex [];exact⟨d0,hd0.rd ex.1 (pK.nil _ _),hd0.turn hdd⟩
                 | true=>
                   rw[hoo]at ex;obtain⟨d0,z,r0,p0,_,_⟩:=ex;exact⟨d0,r0,p0.trans hdd⟩
               | true=>
                 rw[hh]at ex;obtain⟨_,d0,z,r0,p0,_⟩:=ex;exact⟨d0,r0,p0.trans hdd⟩
              obtain⟨d0,r0,p0⟩:=emp;refine⟨d0,x0,by rw[List.set_set];exact r0,p0,by rw[pG (by omega)],jZ.move (FH.le.refl h) λb hb'=>fr b λhh=>gne b hb' g (aQ.2 (.inl hgb)) hh.symm⟩)
            have r1:=dX (o:=j * sz+off) (v:=a.eval x) ti e1 (by rw[hone.1,a2];rfl) (by rw[hz,a2];omega) (by rw[hone.1];intro u hu;simp at hu;subst hu;exact hone)
            rw[hone.1,a2,hz]at r1;rw[hz]at ep;have ok1:=aj.ok.forget rZ;have hT1:((eff s.gl s.T).set q .gone)[r]?=some (.deep tt sh l tq eq off own hs):=by rw[lW hqr];exact fG
            have ok2:=ok1.Nw (f:=tH r) (r':=.deep tt sh (l.set j dd) tq eq off (nS own j) []) (v:=.deep vv λi'=>if i'=j then a.eval x else us i') (row:=some g) (X:=λb=>au (a.eval x)=some b) hT1 rfl hb (iL w g _) (λk e=>by cases e;exact .inl hgb)
             (λb hb'=>by
              obtain⟨o1,o2,o3⟩:=aj.ok.own q _ _ b rZ rfl hbq (aW.2 hb');refine⟨o1,o2,o3,λj' rj vj hj' ej lj iZ hbj=>?_⟩
              have hjq:j'≠q:=by
               rintro rfl;rw[pG (fH.1 rZ).1]at ej;cases ej;cases lj
              rw[lW (Ne.symm hjq)]at ej;exact hjq (aj.ok.inj j' q _ _ _ _ b ej lj rZ rfl iZ hbq hbj (aW.2 hb')))
             (λb hb'=>by
              rw[aQ]at hb';rcases hb' with hb' | ⟨i',hb'⟩
              .exact .inl (aQ.2 (.inl hb'))
              .by_cases hi':i'=j
               .rw[if_pos hi']at hb';exact .inr (.inl hb')
               .rw[if_neg hi']at hb';exact .inl (aQ.2 (.inr ⟨i',hb'⟩)))
             (λx y c=>dN.js hb (.inl rfl) c) f2
            refine lQ aj k rfl (by rw[ho];rfl) (.inr ⟨exec rfl ep r1,rfl⟩) (FH.le.refl h) ((aj.map (f:=tH r) (T':=dh (mT (tH r) (dh s.T q ([],.gone))) r ([],.deep tt sh (l.set j dd) tq eq off (nS own j) [])) (β':=β.set r (.deep vv λi'=>if i'=j then a.eval x else us i')) (FH.le.refl h) (λ_=>rfl) (λx y c=>dN.js hb (.inl rfl) c) ?_ ?_).put (dI hd) rfl (λ_=>rfl) λhh=>by cases hh)
            .rw[fC,CZ,fC];exact ok2
            .intro p' hp';rw[fM]at hp';rcases GH hp' with hp' | hp'
             .obtain⟨p2,h1,h2⟩:=C9 hp';rw[<-h2];exact o7 aj p2 h1
             .subst hp';rfl
           .cases k
          .cases k
         .cases k
        .cases k
       .cases k
   .cases hq
  .cases hq
 .rename_i r j k0 sz off hp;obtain⟨⟨vv,us,g,hb,hgb,ep⟩,_⟩:=aK aj hg tr hp;split at hq
  .rename_i tt sh l t2 e so own hs hT;have fG:=bg hT tr;have D:dQ h w tt sh l t2 e so own hs vv us:=aj.ok.holds r _ _ fG hb;split at hq
   .rename_i v hv;have cv:=aK aj hg tr hv;cases hq;split at k
    .cases k
    rename_i hz;have hz:sz=e.size:=gJ hz;obtain⟨⟨o1,o2,o3⟩,k⟩:=k;have hdj:=lY o3;have k:=k _ hdj;split at k
    .rename_i xs hxs;obtain⟨hk,k⟩:=k;have k:=k _ (lY hk);split at k
     .rename_i y' hy';split at k
      .rename_i dd hdd;have jZ:=D.get hdj o1 o2 hxs;obtain⟨cur,he,f1,f2,f3,f4⟩:=jZ.write hgb (lY hk) (λhr=>mW e hy' hr cv)
       have r1:=dX (o:=k0 * sz+off) (v:=a.eval x) ti he f2 (by rw[hz];omega) f3
       rw[hz]at ep r1;have D':=D.inner (w':=w.setRow g (cur.toList.take (k0 * e.size+off)++(a.eval x).cells.toList++cur.toList.drop (k0 * e.size+off+i.size)).toArray) hdj o1 o2 (λb hb' _=>setRow_other w g b _ λhh=>hb' (by rw[hh];exact hgb)) (λb hb'=>by
        rw[hgb]at hb';cases hb';exact⟨_,setRow_heap w g _ _ t2 (0,0) he,rfl⟩) hdd f4
       have ok:OK B h0 (eff s.gl (dh s.T r ([],.deep tt sh (l.set j dd) t2 e so own hs))) h β (w.setRow g (cur.toList.take (k0 * e.size+off)++(a.eval x).cells.toList++cur.toList.drop (k0 * e.size+off+i.size)).toArray):=by
        rw[wG];have:=aj.ok.upd (r':=.deep tt sh (l.set j dd) t2 e so own hs) (v:=.deep vv us) fG rfl hb (row:=some g) (iL w g _) (λk e=>by cases e;exact aQ.2 (.inr ⟨j,hgb⟩)) (λb hb=>.inl hb) (.inl rfl) (by rw[fZ hb];exact D')
        rwa [fZ hb]at this
       exact lQ aj k rfl (by rw[ho];rfl) (.inr ⟨exec rfl ep r1,rfl⟩) (FH.le.refl h) ((aj.mem ok (FH.le.refl h) (Ext.refl β) (o7 aj)).put (dI hd) rfl (λ_=>rfl) λhh=>by cases hh)
      .cases k
     .cases k
    .cases k
   .cases hq
  .cases hq
 .cases hq
abbrev PV(s:St) (x:Operand) (K:St->Prop):Option Prop:=match x with
 | .tmp t=>match gX s.env t with
   | some ([],.one (.c (.sub r j)))=>match dU s.T r with
     | some ([],.deep tt sh l t2 e so own [])=>some ((own j=true/\j < l.length)/\∀d:sh.den,l[j]?=some d->match EI sh d so e with
       | some x=>K { s with T:=snoc (dh (mT (tH r) s.T) r ([],.deep tt sh l t2 e so own [j])) ([],.row t2 e x),env:=(t,[],.one (.c (.row (aN s.T)))) :: yu (tH r) s.env,gs:=rmG s.gs t }
       | none=>False)
     | _=>none
   | _=>none
 | _=>none
theorem abl(aj:Sat N B h0 s h β w a){x:Operand}{q:Prop} (hq:PV s x K=some q) (k:q):∃s' β',K s'/\Sat N B h0 s' h β' w a/\s'.gl=s.gl:=by
 have tr:gv s.gl []=true:=rfl;unfold PV at hq;split at hq
 .rename_i t;split at hq
  .rename_i r j hlk;split at hq
   .rename_i tt sh l t2 e so own hT;cases hq;have fG:=bg hT tr;obtain⟨⟨o1,o2⟩,k⟩:=k;have hdj:=lY o2;have k:=k _ hdj;split at k
    .rename_i xs hxs;obtain⟨z,z1,z2,_⟩:=aj.env t [] _ hlk;obtain⟨⟨vv,us,hb,hus⟩,hone⟩:cZ h β (.c (.sub r j)) z:=z2 rfl;have D:dQ h w tt sh l t2 e so own [] vv us:=aj.ok.holds r _ _ fG hb;have jZ:=D.get hdj o1 rfl hxs;have ok2:=aj.ok.Nw (f:=tH r) (r':=.deep tt sh l t2 e so own [j]) (v:=.deep vv (ql us j)) (row:=none) (X:=λ_=>False) fG rfl hb (bW w none) (λk e=>by cases e) (λb hb=>hb.elim)
      (λb hb'=>by
       rw[aQ]at hb';rcases hb' with hb' | ⟨i',hb'⟩
       .exact .inl (aQ.2 (.inl hb'))
       .unfold ql at hb';split at hb'
        .cases hb'
        .exact .inl (aQ.2 (.inr ⟨i',hb'⟩)))
      (λx y c=>dN.js hb (.inl rfl) c) (D.open hdj o1)
     have ok3:=ok2.al3 (r:=.row t2 e xs) (v:=.row z) (λb hb'=>by
      rw[aW]at hb';rw[<-hus]at hb';have hu:(RV.deep vv us).has b:=aQ.2 (.inr ⟨j,hb'⟩);obtain⟨p1,p2,p3⟩:=aj.ok.own r _ _ b fG rfl hb hu;refine⟨p1,p2,p3,λj' rj vj ej lj iZ hbj=>?_⟩
      by_cases hj':j'=r
      .subst hj';rw[pG (by have:=(fH.1 hb).1;exact this)]at iZ
       cases iZ;rw[aQ]at hbj;rcases hbj with hbj | ⟨i',hbj⟩
       .obtain⟨g,cap,cur,e0,_,_,e3,_,e5,_⟩:=D.third o2;rw[e0,aS (n:=l.length) e3.1]at hbj;cases hbj;exact e5 j hb'
       .unfold ql at hbj;split at hbj
        .cases hbj
        .rename_i hi';exact hi' (D.1 i' j b hbj hb')
      .rw[lW (Ne.symm hj')]at iZ;rw[lW (Ne.symm hj'),Es]at ej;cases hh:(eff s.gl s.T)[j']? with
       | none=>rw[hh]at ej;cases ej
       | some r0=>
         rw[hh]at ej;cases ej;exact hj' (aj.ok.inj j' r _ _ _ _ b hh (by rw[<-oN (tH r)];exact lj) fG rfl iZ hb hbj hu)) (by rw[<-hus];exact jZ)
     have hlen:aN s.T=(β.set r (.deep vv (ql us j))).length:=by rw[qN,aj.ok.len,iK,aZ]
     refine⟨_,(β.set r (.deep vv (ql us j)))++[.row z],k,?_,rfl⟩;have hC:∀x y,dN h β x y->dN h ((β.set r (.deep vv (ql us j)))++[.row z]) (tH r x) y:=λx y c=>(dN.js hb (.inl rfl) c).mono (FH.le.refl h) (Ext.append _ _)
     have sm:=aj.map (f:=tH r) (T':=snoc (dh (mT (tH r) s.T) r ([],.deep tt sh l t2 e so own [j])) ([],.row t2 e xs)) (h':=h) (β':=(β.set r (.deep vv (ql us j)))++[.row z]) (w':=w) (FH.le.refl h) (λ_=>rfl) hC (by
      rw[iw,fC,CZ];exact ok3) (λp hp=>by
      rw[gZ,Et]at hp;rcases hp with hp | hp
      .rw[fM]at hp;rcases GH hp with hp | hp
       .obtain⟨p2,h1,h2⟩:=C9 hp;rw[<-h2];exact aj.gT p2 h1
       .subst hp;rfl
      .simp at hp;subst hp;rfl)
     refine⟨sm.ok,?_,?_,sm.defers,sm.sz,?_,sm.gT⟩
     .intro t' G e' ht;rw[aU]at ht;split at ht
      .rename_i hkt;subst hkt;cases ht;refine⟨z,z1,λ_=>⟨⟨.row z,?_,rfl⟩,hone⟩,λhh=>by cases hh⟩
       rw[hlen];simp
      .exact sm.env t' G e' ht
     .intro d i hi;obtain⟨hne,hi⟩:=zh _ _ _ _ hi;obtain⟨G,b,q1,q2⟩:=sm.gs d i hi;exact⟨G,b,by rw[aU,if_neg (Ne.symm hne)];exact q1,q2⟩
     .intro t' G e' ht;rw[aU]at ht;split at ht
      .cases ht;rfl
      .exact sm.gb _ _ _ ht
    .cases k
   .cases hq
  .cases hq
 .cases hq
abbrev VR(s:St) (i j:Nat):List SV->(List SV->Prop)->Prop
 | [],K=>K []
 | .c (.sub i' k) :: l,K=>match Nat.beq i i' with
   | true=>k≠j/\RX s [] i' k λe x=>VR s i j l λr=>K (.c (.sl e x) :: r)
   | false=>False
 | v :: l,K=>match noRow v with
   | true=>match aa8 s [] v with
     | some v'=>VR s i j l λr=>K (v' :: r)
     | none=>False
   | false=>False
abbrev af6(cx:Cx) (ip:IP) (s:St) (d:Option Nat) (args:List Operand) (K:St->Prop):Prop:=match args with
 | []=>False
 | x :: r=>match bH cx s [] x with
   | some (.one (.c (.sub i j)))=>match dU s.T i with
     | some ([],.deep tt sh l t2 e so own hs)=>match dA (qR e ip.sh) (dA (iC ip.sh) (!ip.back)) with
       | false=>False
       | true=>match tC cx s [] r with
         | none=>False
         | some vs=>(own j=true/\mP j hs=false/\j < l.length)/\∀d0:sh.den,l[j]?=some d0->match EI sh d0 so ip.sh with
           | none=>False
           | some xs=>VR s i j vs λbs=>match xX ip.ps bs with
             | none=>False
             | some dd=>ip.pre xs dd/\match EJ sh d0 so ip.sh (ip.res xs dd) with
               | some d1=>K ({ s with T:=dh s.T i ([],.deep tt sh (l.set j d1) t2 e so own hs) }.put d [] (.iO []))
               | none=>False
     | _=>False
   | _=>False
open Classical in
noncomputable def FH.but (w:World) (u:Value):FH:=λb o=>if au u=some b then none else vis w b o
theorem af7(aj:Sat N B h0 s h β w a){vv:Value}{us:Nat->Value} (hT:(eff s.gl s.T)[i]?=some r) (hl:r.live=true) (hb:β[i]?=some (.deep vv us)):h.le (FH.but w (us j)):=by
 intro b o v hv;unfold FH.but;rw[if_neg]
 .exact aj.ok.hw b o v hv
 .intro hh;rw[(aj.ok.own i r _ b hT hl hb (aQ.2 (.inr ⟨j,hh⟩))).2.2 o]at hv;cases hv
theorem Hy(aj:Sat N B h0 s h β w a){i j:Nat}{vv:Value}{us:Nat->Value} (hb:β[i]?=some (.deep vv us)) (inj:∀j k b,au (us j)=some b->au (us k)=some b->j=k) (le:h.le (FH.but w (us j))):
 ∀{vs:List SV}{ys:List Value}{K:List SV->Prop},aO (cZ h β) vs ys->VR s i j vs K->∃bs,K bs/\aO (cZ (FH.but w (us j)) []) bs ys
 | [],[],K,_,k=>⟨[],k,trivial⟩
 | x :: l,y :: ys,K,⟨c,r⟩,k=>by
   have tr:gv s.gl []=true:=rfl;unfold VR at k;split at k
   .rename_i he;cases he
   .rename_i i' k' l' K' he;cases he;split at k
    .rename_i hi;have hi:=gJ hi;subst hi;obtain⟨hk,k⟩:=k;obtain⟨e,xs,k1,k2⟩:=Ba aj k;obtain⟨bs,k3,c3⟩:=Hy aj hb inj le r k1;obtain⟨⟨vv2,sJ,hb2,rfl⟩,hone⟩:=c;rw[hb]at hb2;cases hb2;obtain⟨tt,jZ⟩:=k2 tr vv us hb;refine⟨_,k3,⟨?_,hone⟩,c3⟩;refine jZ.sl le λb hb3 o z hz=>?_
     unfold FH.but;rw[if_neg]
     .exact hz
     .exact λhh=>hk (inj _ _ b hb3 hh)
    .cases k
   .rename_i v' l' K' hne he;cases he;split at k
    .rename_i hnr;split at k
     .rename_i v1 hv1;obtain⟨bs,k3,c3⟩:=Hy aj hb inj le r k;exact⟨_,k3,(((Pz aj tr hv1 c).2 hnr).mono le (Ext.refl [])),c3⟩
     .cases k
    .cases k
theorem VT{f:FuncId}{ip:IP} (PG:SE P cx.gd f ip) (hf:∃fn,P.funcs[f]?=some fn/\fn.body.isSome=true/\(fn.name == "runtime.NumGoroutine")=false)
 (aj:Sat N B h0 s h β w a) (hg:aI cx.gd h) (hd:kU N o.dst=true) (ho:o.op=.call c) (bU:c.callee=.value (.func f))
 (k:af6 cx ip s o.dst (tl c.args) K):Af P N B h0 h w a o true K:=by
 have tr:gv s.gl []=true:=rfl;unfold af6 at k;split at k
 .cases k
 rename_i x r hargs0;split at k
 .rename_i i j hx;split at k
  .rename_i tt sh l t2 e so own hs hT;split at k
   .cases k
   rename_i hck;rw[ay,ay,A8,A8]at hck;have he:e=ip.sh:=oH hck.1;subst he;have hfl:=hck.2.1;have hbk:ip.back=false:=by simpa using hck.2.2
   split at k
   .cases k
   rename_i vs hvs;obtain⟨⟨o1,o2,o3⟩,k⟩:=k;have hdj:=lY o3;have k:=k _ hdj;split at k
   .cases k
   rename_i xs hxs;have fG:=bg hT tr;obtain⟨⟨vv,us,hb,hus⟩,_⟩:cZ h β (.c (.sub i j)) (a.eval x):=aK aj hg tr hx;have D:dQ h w tt sh l t2 ip.sh so own hs vv us:=aj.ok.holds i _ _ fG hb;have jZ:=D.get hdj o1 o2 hxs;have le:h.le (FH.but w (us j)):=af7 aj fG rfl hb;have hav:=qj aj hg tr hvs;obtain⟨bs,k,cb⟩:=Hy aj hb D.1 le hav k;split at k
   .cases k
   rename_i dd hdd;obtain⟨aF,k⟩:=k;split at k
   .rename_i d1 hd1;intro Nx Q next
    rw[if_pos rfl];obtain⟨fn,hfn,hbody,hname⟩:=hf;have exec:(execOp a.eval o).run P w=.ok (.enter f (c.args.map a.eval)) w:=by
     simp only[execOp,ho,resolve,bU,Act.eval,Deferred.ofValue,invoke,Sem.run_bind,Sem.run_pure,Result.andThen_ok,callFunc,run_program,hfn,hname];simp[hbody];cases hb:fn.body with
     | none=>rw[hb]at hbody;cases hbody
     | some _=>simp
    have hargs:(c.args.map a.eval)=(a.eval x :: r.map a.eval).toArray:=by
     have:c.args=(x :: r).toArray:=by
      cases hc:c.args with
      | mk q=>rw[hc]at hargs0;simp only[tl]at hargs0;rw[hargs0]
     rw[this];simp
    unfold Oper.wp;rw[exec];simp only[Oper.upon];rw[hargs];refine(PG t2 xs dd (a.eval x) _ (FH.but w (us j)) w (λb o u hu=>?_) (hg.mono le) (show Holds (FH.but w (us j)) [] w (.row t2 ip.sh xs) (.row (a.eval x)) by rw[<-hus];exact jZ.move le λ_ _=>rfl) (λb hb' o=>?_) (xY hdd cb) aF).mono ?_
    .unfold FH.but at hu;split at hu
     .cases hu
     .exact hu
    .unfold FH.but;rw[hus,if_pos hb']
    rintro en w' ⟨v',y,rfl,hgr,hv,hold',_,hb2⟩;obtain⟨rfl,rfl⟩:=hb2 hbk;have hrow':lq h w' t2 ip.sh (ip.res xs dd) (us j):=by
     have:=Holds.flat (h':=h) (show uS (.row t2 ip.sh (ip.res xs dd))=true from hfl) hold'
     rw[hus];exact this
    have D':dQ h w' tt sh (l.set j d1) t2 ip.sh so own hs vv us:=D.inner hdj o1 o2 (λb hb' hx'=>by
     obtain⟨o',ho'⟩:=hx';exact hgr.block b (BI.1 ho').1 (λhh=>hb' (by rw[hus];exact hh.symm))) (λb hb'=>by
     exact Holds.cells (h:=h) (β:=[]) (r:=.row t2 ip.sh (ip.res xs dd)) (v:=.row (us j)) hrow' rfl (aW.2 hb')) hd1 hrow'
    have ok:OK B h0 (eff s.gl (dh s.T i ([],.deep tt sh (l.set j d1) t2 ip.sh so own hs))) h β w':=by
     rw[wG];have:=aj.ok.upd (r':=.deep tt sh (l.set j d1) t2 ip.sh so own hs) (v:=.deep vv us) fG rfl hb hgr (λk e=>aQ.2 (.inr ⟨j,by rw[hus];exact e⟩)) (λb hb=>.inl hb) (.inl rfl) (by rw[fZ hb];exact D')
     rwa [fZ hb]at this
    exact next _ _ _ _ _ k (FH.le.refl h) ((aj.mem ok (FH.le.refl h) (Ext.refl β) (o7 aj)).put (dI hd) rfl (λ_=>⟨[],rfl,trivial⟩) λhh=>by cases hh)
   .cases k
  .cases k
 .cases k
theorem dN.us{us:Nat->Value} (hu:β[i]?=some (.deep v us)){x:SC} (c:dN h β x y):dN h (β.set i (.row v)) (tH i x) y:=by
 unfold tH;split
 .rename_i hf;cases x with
  | v _=>exact c
  | sl _ _=>exact c
  | fp _ _=>exact c
  | one _ _=>exact c
  | abs _=>exact c
  | junk=>trivial
  | own j off=>
    obtain⟨b,e,e'⟩:=c;refine⟨b,?_,e'⟩;rw[dF hu,if_neg]
    .exact e
    .rintro rfl;rw[hu]at e;cases e
  | row j=>
    obtain⟨z,e,e'⟩:=c
    by_cases hj:j=i
    .subst hj;rw[hu]at e;cases e;exact⟨.row v,by rw[dF hu,if_pos rfl],e'⟩
    .exact⟨z,by rw[dF hu,if_neg hj];exact e,e'⟩
  | jA j k sz off=>
    obtain⟨z,g,e,e',e2⟩:=c
    by_cases hj:j=i
    .subst hj;rw[hu]at e;cases e;exact⟨.row v,g,by rw[dF hu,if_pos rfl],e',e2⟩
    .exact⟨z,g,by rw[dF hu,if_neg hj];exact e,e',e2⟩
  | sub j k=>
    obtain⟨z,sJ,e,e'⟩:=c;exact⟨z,sJ,by rw[dF hu,if_neg (Nv hf)];exact e,e'⟩
  | kV j k m sz off=>
    obtain⟨z,sJ,g,e,e'⟩:=c;exact⟨z,sJ,g,by rw[dF hu,if_neg (Nv hf)];exact e,e'⟩
 .trivial
theorem dQ.row{h':FH}{s:Sh}{l:List s.den}{own:Nat->Bool}{us:Nat->Value} (x:dQ h w t s l tt e so own [] v us) (le:h.le h')
 (hb:∀b,(∃j,au (us j)=some b)->∀o z,vis w b o=some z->h' b o=some z):lq h' w t s l v/\∀g,au v=some g->∀j,au (us j)≠some g:=by
 obtain⟨_,_,x⟩:=x;rcases x with⟨e1,e2⟩ | ⟨ra,e1,e2⟩ | ⟨g,cap,cur,e1,q1,q2,q3,q4,q5,q6⟩
 .exact⟨.inl ⟨e1,e2⟩,λg hg=>by subst e1;simp[au]at hg⟩
 .exact⟨.inr (.inl ⟨ra,e1,e2⟩),λg hg=>by subst e1;simp[au]at hg⟩
 .have lc:cur.toList.length=cap * s.size:=by simpa using q4
  have hm:l.length * s.size<=cap * s.size:=xg _ q2;refine⟨.inr (.inr ⟨g,cap,cur,e1,q1,q2,q3,q4,?_⟩),λg' hg'=>?_⟩
  .refine fK.Na (k:=s.size) (by rw[jY];omega) λj d hd=>?_
   have hj:=(fH.1 hd).1;have hm:(j+1) * s.size<=l.length * s.size:=xg _ hj;rw[xk]at hm;have e5:List.take s.size (List.drop (j * s.size) (List.take (l.length * s.size) cur.toList))=List.take s.size (List.drop (j * s.size) cur.toList):=by
    apply Ar;intro p;simp only[uH,I9];split
    .rw[if_pos (by omega)]
    .rfl
   rw[e5];exact(q6 j d hd).rd le λb hu=>hb b ⟨j,hu⟩
  .rw[e1,aS q3.1]at hg';cases hg';exact q5
theorem OK.af8(ok:OK B h0 T h β w){s:Sh}{l:List s.den}{own:Nat->Bool}{us:Nat->Value}
 (hT:T[i]?=some (.deep t s l tt e so own [])) (hu:β[i]?=some (.deep v us)):
 h.le (h.kZ w λb=>∃j,au (us j)=some b)/\OK B h0 ((T.map (mR (tH i))).set i (.row t s l)) (h.kZ w λb=>∃j,au (us j)=some b) (β.set i (.row v)) w:=by
 have hi:i < T.length:=(fH.1 hT).1;have hi':i < β.length:=by rw[ok.len];exact hi
 have hl:(ak.deep t s l tt e so own []).live=true:=rfl;have own':=λg hv=>ok.own i _ _ g hT hl hu hv
 have sub:∀{b:Nat},(∃j,au (us j)=some b)->(RV.deep v us).has b:=λhb=>aQ.2 (.inr hb)
 have le:h.le (h.kZ w λb=>∃j,au (us j)=some b):=by
  intro b o x hb;unfold FH.kZ
  by_cases hbg:∃j,au (us j)=some b
  .rw[(own' b (sub hbg)).2.2 o]at hb;cases hb
  .rw[if_neg hbg];exact hb
 have hold:dQ h w t s l tt e so own [] v us:=ok.holds i _ _ hT hu;obtain⟨rh,rn⟩:=hold.row le λb hb o z hz=>by
  unfold FH.kZ;rw[if_pos hb];exact hz
 have get:∀{j:Nat}{rj:ak},j≠i->((T.map (mR (tH i))).set i (.row t s l))[j]?=some rj->∃r0,T[j]?=some r0/\rj=mR (tH i) r0:=by
  intro j rj hj e;rw[lW (Ne.symm hj),Es]at e;cases hh:T[j]? with
  | none=>rw[hh]at e;cases e
  | some r0=>rw[hh]at e;cases e;exact⟨r0,rfl,rfl⟩
 have ajY:∀{b:Nat},(RV.row v).has b->(RV.deep v us).has b:=λhb=>aQ.2 (.inl (aW.1 hb))
 refine⟨le,{
  below:=ok.below
  dr:=ok.dr
  len:=by simp[ok.len]
  holds:=?_
  own:=?_
  inj:=?_
  hle:=ok.hle.trans le
  hw:=?_
  hg:=?_
  kn:=ok.kn }⟩
 .intro j rj vj ej iZ
  by_cases hj:j=i
  .subst hj;rw[pG (by simpa using hi)]at ej
   rw[pG hi']at iZ;cases ej;cases iZ;exact rh
  .obtain⟨r0,e0,rfl⟩:=get hj ej;rw[lW (Ne.symm hj)]at iZ;exact(ok.holds j r0 vj e0 iZ).map le (λx y c=>(dN.us hu c).mono le (Ext.refl _)) λ_ _ _=>rfl
 .intro j rj vj b ej hlj iZ hb
  by_cases hj:j=i
  .subst hj;rw[pG hi']at iZ;cases iZ;obtain⟨a1,a2,a3⟩:=own' b (ajY hb);refine⟨a1,a2,λo=>?_⟩
   unfold FH.kZ;rw[if_neg,a3 o];rintro⟨j',hj'⟩;exact rn b (aW.1 hb) j' hj'
  .obtain⟨r0,e0,rfl⟩:=get hj ej;rw[lW (Ne.symm hj)]at iZ;have ajZ:r0.live=true:=by rw[<-oN (tH i)];exact hlj
   obtain⟨a1,a2,a3⟩:=ok.own j r0 vj b e0 ajZ iZ hb;refine⟨a1,a2,λo=>?_⟩
   unfold FH.kZ;rw[if_neg,a3 o];exact λhg=>hj (ok.inj j i _ _ _ _ _ e0 ajZ hT hl iZ hu hb (sub hg))
 .intro j k r1 r2 u1 u2 b e1 l1 e2 l2 e3 e4 b1 b2;have look:∀{m:Nat}{rm:ak}{um:RV},((T.map (mR (tH i))).set i (.row t s l))[m]?=some rm->rm.live=true->(β.set i (.row v))[m]?=some um->um.has b->∃r0 u0,T[m]?=some r0/\r0.live=true/\β[m]?=some u0/\u0.has b:=by
   intro m rm um e l e' hb
   by_cases hm:m=i
   .subst hm;rw[pG hi']at e';cases e';exact⟨_,_,hT,hl,hu,ajY hb⟩
   .obtain⟨r0,e0,rfl⟩:=get hm e;rw[lW (Ne.symm hm)]at e';exact⟨r0,um,e0,by rw[<-oN (tH i)];exact l,e',hb⟩
  obtain⟨p1,p2,p3,p4,p5,p6⟩:=look e1 l1 e3 b1;obtain⟨q1,q2,q3,q4,q5,q6⟩:=look e2 l2 e4 b2;exact ok.inj j k p1 q1 p2 q2 b p3 p4 q3 q4 p5 q5 p6 q6
 .intro b o x hb;unfold FH.kZ at hb;split at hb
  .exact hb
  .exact ok.hw b o x hb
 .intro b o x hb;unfold FH.kZ at hb;split at hb
  .rename_i hbg;exact .inr (own' b (sub hbg)).1
  .exact ok.hg b o x hb
abbrev GY(s:St) (i:Nat):St:=match dU s.T i with
 | some ([],.deep t sh l _ _ _ _ [])=>{ s with T:=dh (mT (tH i) s.T) i ([],.row t sh l),env:=yu (tH i) s.env }
 | _=>s
theorem Sat.GY(aj:Sat N B h0 s h β w a) (i:Nat):∃h' β',h.le h'/\Sat N B h0 (GY s i) h' β' w a:=by
 unfold Go.lH.GY;split
 .rename_i t sh l t2 e so own hT;have fG:(eff s.gl s.T)[i]?=some (.deep t sh l t2 e so own []):=by rw[jc,<-eU,hT];rfl
  have iV:i < β.length:=by rw[aj.ok.len];exact(fH.1 fG).1
  have hu:=lY iV;have hold:=aj.ok.holds i _ _ fG hu;cases hb:β[i]with
  | blk b=>rw[hb]at hold;cases hold
  | no=>rw[hb]at hold;cases hold
  | row _=>rw[hb]at hold;cases hold
  | deep v us=>
    rw[hb]at hu;obtain⟨le,ok'⟩:=aj.ok.af8 fG hu;refine⟨_,_,le,aj.map (f:=tH i) le (λ_=>rfl) (λx y c=>(dN.us hu c).mono le (Ext.refl _)) ?_ ?_⟩
    .rw[fC,CZ];exact ok'
    .intro p hp;rw[fM]at hp;rcases GH hp with hp | hp
     .obtain⟨q,h1,h2⟩:=C9 hp;rw[<-h2];exact aj.gT q h1
     .subst hp;rfl
 .exact⟨h,β,FH.le.refl h,aj⟩
abbrev abm(s:St) (i:Nat):St:=match Nat.ble 1000 i with
 | true=>GY s (i - 1000)
 | false=>JG s i
abbrev JK(s:St):List Nat->St
 | []=>s
 | i :: r=>JK (abm s i) r
theorem Sat.JK:∀{l:List Nat}{s:St}{h:FH}{β:List RV},Sat N B h0 s h β w a->∃h' β',h.le h'/\Sat N B h0 (JK s l) h' β' w a
 | [],s,h,β,aj=>⟨h,β,FH.le.refl h,aj⟩
 | i :: r,s,h,β,aj=>by
   have h1:∃h' β',h.le h'/\Sat N B h0 (abm s i) h' β' w a:=by
    unfold abm;split
    .exact aj.GY _
    .obtain⟨h',le,aP⟩:=aj.af4 i;exact⟨h',β,le,aP⟩
   obtain⟨h1,β1,le1,iQ⟩:=h1;obtain⟨h2,β2,gK,bC⟩:=Sat.JK (l:=r) iQ;exact⟨h2,β2,le1.trans gK,bC⟩
abbrev uX(s:St):List (Nat×TypeId×Sh×Nat)->St
 | []=>s
 | (i,tt,e,so) :: l=>uX (JJ s i tt e so) l
theorem Sat.uX:∀(l:List (Nat×TypeId×Sh×Nat)){s:St}{β:List RV},Sat N B h0 s h β w a->∃β',Sat N B h0 (uX s l) h β' w a
 | [],s,β,aj=>⟨β,aj⟩
 | (i,tt,e,so) :: l,s,β,aj=>by
   obtain⟨β1,iQ⟩:=aj.JJ i tt e so;exact Sat.uX l iQ
theorem OK.Ny(ok:OK B h0 T h β w){r':ak} (hT:T[i]?=some r) (hl:r.live=true) (hold:∀v,Holds h β w r v->Holds h β w r' v):OK B h0 (T.set i r') h β w:=by
 have hi:i < T.length:=(fH.1 hT).1;have key:∀{m:Nat}{rm:ak},(T.set i r')[m]?=some rm->rm.live=true->∃rm',T[m]?=some rm'/\rm'.live=true:=by
  intro m rm e l
  by_cases hm:m=i
  .subst hm;exact⟨r,hT,hl⟩
  .rw[lW (Ne.symm hm)]at e;exact⟨rm,e,l⟩
 exact {
  below:=ok.below
  dr:=ok.dr
  len:=by simp[ok.len]
  holds:=by
   intro j rj vj ej iZ
   by_cases hj:j=i
   .subst hj;rw[pG hi]at ej;cases ej;exact hold vj (ok.holds j r vj hT iZ)
   .rw[lW (Ne.symm hj)]at ej;exact ok.holds j rj vj ej iZ
  own:=by
   intro j rj vj b ej l iZ hb;obtain⟨rm,e1,e2⟩:=key ej l;exact ok.own j rm vj b e1 e2 iZ hb
  inj:=by
   intro j k r1 r2 u v b e1 l1 e2 l2 e3 e4 b1 b2;obtain⟨q1,f1,f2⟩:=key e1 l1;obtain⟨q2,g1,g2⟩:=key e2 l2;exact ok.inj j k q1 q2 u v b f1 f2 g1 g2 e3 e4 b1 b2
  hle:=ok.hle
  hw:=ok.hw
  hg:=ok.hg
  kn:=ok.kn }
abbrev JL(s:St) (i c:Nat) (t:TypeId) (sh:Sh):St:=match dU s.T i with
 | some ([],.blk t' cs)=>match dU cs c with
   | some (.v (.slice none 0 0))=>{ s with T:=snoc (dh s.T i ([],.blk t' (dh cs c (.row (aN s.T))))) ([],.row t sh []) }
   | _=>s
 | _=>s
theorem aO.dh{α β:Type}{R:α->β->Prop}{y:α}{z:β} (hR:R y z):∀{l:List α}{m:List β}{c:Nat},m[c]?=some z->aO R l m->aO R (lH.dh l c y) m
 | [],[],_,h,_=>by simp at h
 | _ :: _,_ :: _,0,h,⟨_,b⟩=>by simp at h;subst h;exact⟨hR,b⟩
 | _ :: _,_ :: _,c+1,h,⟨a,b⟩=>⟨a,aO.dh hR (by simpa using h) b⟩
theorem Sat.JL(aj:Sat N B h0 s h β w a) (i c:Nat) (t:TypeId) (sh:Sh):∃β',Sat N B h0 (JL s i c t sh) h β' w a:=by
 unfold lH.JL;split
 .rename_i t' cs hT;split
  .rename_i hc;have fG:=bg hT (show gv s.gl []=true from rfl)
   have ok1:OK B h0 (eff s.gl s.T++[.row t sh []]) h (β++[.row (.slice none 0 0)]) w:=aj.ok.add (r:=.row t sh []) (v:=.row (.slice none 0 0)) (bW w none) (λb hb=>by rw[aW]at hb;simp[au]at hb) (.inl ⟨rfl,rfl⟩)
   have hi:=(fH.1 fG).1;have hlen:aN s.T=β.length:=by rw[aj.ok.len,iK,aZ]
   have hT1:(eff s.gl s.T++[.row t sh []])[i]?=some (.blk t' cs):=by rw[Uo hi];exact fG
   have ok2:=ok1.Ny (r':=.blk t' (lH.dh cs c (.row (aN s.T)))) hT1 rfl λv hv=>by
    cases v with
    | blk b=>
      obtain⟨ys,e1,al⟩:=hv;refine⟨ys,e1,?_⟩;obtain⟨y,hy,hcn⟩:=al.get (show cs[c]?=some (.v (.slice none 0 0)) by rw[<-eU];exact hc)
      obtain rfl:y=.slice none 0 0:=hcn.1.1;refine aO.dh ?_ hy al;refine⟨⟨.row (.slice none 0 0),?_,rfl⟩,rfl,rfl⟩;rw[hlen];simp
    | row _=>exact hv.elim
    | deep _ _=>exact hv.elim
    | no=>exact hv.elim
   refine⟨β++[.row (.slice none 0 0)],aj.mem ?_ (FH.le.refl h) (Ext.append _ _) λp hp=>?_⟩
   .rw[iw,fC];have e:((eff s.gl s.T)++[ak.row t sh []]).set i (.blk t' (lH.dh cs c (.row (aN s.T))))=(eff s.gl s.T).set i (.blk t' (lH.dh cs c (.row (aN s.T))))++[.row t sh []]:=by rw[List.set_append_left _ _ hi]
    rw[e]at ok2;exact ok2
   .rw[gZ,Et]at hp;rcases hp with hp | hp
    .rw[fM]at hp;rcases GH hp with hp | hp
     .exact aj.gT p hp
     .subst hp;rfl
    .simp at hp;subst hp;rfl
  .exact⟨β,aj⟩
 .exact⟨β,aj⟩
abbrev FK(s:St):List (Nat×Nat×TypeId×Sh)->St
 | []=>s
 | (i,c,t,sh) :: l=>FK (JL s i c t sh) l
theorem Sat.FK:∀(l:List (Nat×Nat×TypeId×Sh)){s:St}{β:List RV},Sat N B h0 s h β w a->∃β',Sat N B h0 (FK s l) h β' w a
 | [],s,β,aj=>⟨β,aj⟩
 | (i,c,t,sh) :: l,s,β,aj=>by
   obtain⟨β1,iQ⟩:=aj.JL i c t sh;exact Sat.FK l iQ
theorem FM{dT sT:TypeId}{i:TI} (k:aJ P el i) (hu:P.underlying dT=some (.slice el)){d b:Option Addr}{dLen dCap sLen sCap:Nat} (hn:Nat.min sLen dLen=0):
 (Builtin.copy_ #[dT,sT] ty #[.slice d dLen dCap,.slice b sLen sCap]).run P w=.ok (goInt 0) w:=by
 have hl:∀(x:Addr),(loadCells x 0).run P w=.ok #[] w:=λx=>by simpa using run_loadCells_list (P:=P) w x [] (by simp)
 cases d<;>cases b<;>simp[Builtin.copy_,run_underlying hu,Builtin.lenOf,Builtin.firstCells,run_sizeOf k,hn,storeCells,hl]
theorem SX{dT sT:TypeId}{i:TI} (k:aJ P el i) (hu:P.underlying dT=some (.slice el)){dLen dCap:Nat}{b:Addr}{sLen sCap:Nat}{cur:Array Value}
 (hg:w.heap[g]?=some (.cells cur t (0,0))) (hn:cs.length=Nat.min sLen dLen * i.size) (hsrc:∀j v,cs[j]?=some v->w.cell? (b.add j)=some v) (hfit:cs.length<=cur.size) (h1:∀v∈cs,v.oneCell'=true):
 (Builtin.copy_ #[dT,sT] ty #[.slice (some ⟨g,0,none⟩) dLen dCap,.slice (some b) sLen sCap]).run P w=.ok (goInt (Nat.min sLen dLen)) (w.setRow g (cs++cur.toList.drop cs.length).toArray):=by
 have hl:=run_loadCells_list (P:=P) w b cs hsrc;have hst:=run_storeCells_at P g 0 t cs 0 cur w hg (by simpa using hfit) h1
 simp only[RF,Eu,Rw,Ut]at hst;simp[Builtin.copy_,run_underlying hu,Builtin.lenOf,Builtin.firstCells,run_sizeOf k,<-hn,hl,hst]
abbrev PW(cx:Cx) (s:St) (d:Option Nat) (t:TypeId) (x y:Operand) (K:St->Prop):Prop:=iq cx t λel ie sh=>match bH cx s [] x with
 | some (.one (.c (.row r)))=>match dU s.T r with
   | some ([],.row tt dW l1)=>match jd (.sl dW) l1 (.sl sh) with
     | some l=>match bH cx s [] y with
       | some (.one v)=>match MX s sh v with
         | some l2=>K ({ s with T:=dh s.T r ([],.row tt sh (l2.take l.length++l.drop l2.length)) }.put d [] (vI .i64 (Nat.min l2.length l.length)))
         | none=>False
       | _=>False
     | none=>False
   | _=>False
 | _=>False
def nT(a b:Int):Int:=if b < a then b else a
abbrev abn(cx:Cx) (s:St) (d:Option Nat) (x y:Operand) (K:St->Prop):Prop:=match bH cx s [] x with
 | some (.one (.c (.v (.int .i64 a))))=>match bH cx s [] y with
   | some (.one (.c (.v (.int .i64 b))))=>K (s.put d [] (vI .i64 (nT a b)))
   | _=>False
 | _=>False
theorem VU(aj:Sat N B h0 s h β w a) (hg:aI cx.gd h) (hd:kU N o.dst=true){x y:Operand} (ho:o.op=.call c) (bU:c.callee=.builtin .min) (ha:c.args=#[x,y])
 (k:abn cx s o.dst x y K):fO P N B h0 h w a o (gv s.gl []) K:=by
 have tr:gv s.gl []=true:=rfl;unfold abn at k;split at k
 .rename_i n hx;have ex:a.eval x=.int .i64 n:=(aK aj hg tr hx:cZ h β (.c (.v (.int .i64 n))) (a.eval x)).1.1;split at k
  .rename_i m hy;have ey:a.eval y=.int .i64 m:=(aK aj hg tr hy:cZ h β (.c (.v (.int .i64 m))) (a.eval y)).1.1;refine lQ aj k rfl (by rw[ho];simp[quietly,bU]) (.inl ?_) (FH.le.refl h) (aj.put (G:=[]) (e:=vI .i64 (nT n m)) (z:=.int .i64 (nT n m)) (dI hd) rfl (λ_=>⟨⟨rfl,bG _ _⟩,bG _ _⟩) λhh=>by cases hh)
   simp[execOp,ho,resolve,bU,ha,invoke,builtin,ex,ey,Builtin.min_,Builtin.min2,nT]
  .cases k
 .cases k
theorem SY(aj:Sat N B h0 s h β w a) (hg:aI cx.gd h) (hd:kU N o.dst=true){x y:Operand} (ho:o.op=.call c) (bU:c.callee=.builtin .max) (ha:c.args=#[x,y])
 (k:Nj cx s o.dst x y K):fO P N B h0 h w a o (gv s.gl []) K:=by
 have tr:gv s.gl []=true:=rfl;unfold Nj at k;split at k
 .rename_i n hx;have ex:a.eval x=.int .i64 n:=(aK aj hg tr hx:cZ h β (.c (.v (.int .i64 n))) (a.eval x)).1.1;split at k
  .rename_i m hy;have ey:a.eval y=.int .i64 m:=(aK aj hg tr hy:cZ h β (.c (.v (.int .i64 m))) (a.eval y)).1.1;refine lQ aj k rfl (by rw[ho];simp[quietly,bU]) (.inl ?_) (FH.le.refl h) (aj.put (G:=[]) (e:=vI .i64 (eY n m)) (z:=.int .i64 (eY n m)) (dI hd) rfl (λ_=>⟨⟨rfl,bG _ _⟩,bG _ _⟩) λhh=>by cases hh)
   simp[execOp,ho,resolve,bU,ha,invoke,builtin,ex,ey,Builtin.max_,Builtin.max2,eY]
  .cases k
 .cases k
theorem S9(hc:bJ P cx.ti) (aj:Sat N B h0 s h β w a) (hg:aI cx.gd h) (hd:kU N o.dst=true){t':TypeId}{x y:Operand} (ho:o.op=.call c) (bU:c.callee=.builtin .copy) (ha:c.args=#[x,y]) (hat:c.argTypes=#[t,t'])
 (k:PW cx s o.dst t x y K):fO P N B h0 h w a o (gv s.gl []) K:=by
 have tr:gv s.gl []=true:=rfl;unfold PW at k;unfold iq at k;split at k
 .rename_i el hde;have hu:=bD hc hde (by simp)
  split at k
  .cases k
  rename_i ie hie;have tie:=hc.get hie;split at k
  .cases k
  rename_i sh hsh;split at k
  .rename_i hz;rw[ay,ay,A8,A8]at hz;have hz1:sh.size=ie.size:=gJ hz.1;split at k
   .rename_i r hx;split at k
    .rename_i tt dW l1 hT;split at k
     .rename_i l hl;obtain⟨e1,e2⟩:=nK hl;subst e1;simp only at e2;subst e2;split at k
      .rename_i v hv;split at k
       .rename_i l2 hl2;have Fz:=(aK aj hg tr hx:cZ h β (.c (.row r)) (a.eval x));have cv:=aK aj hg tr hv;have fG:=bg hT tr;have hb:=aj.ok.row_of fG Fz.1;have jZ:lq h w tt dW l1 (a.eval x):=aj.ok.holds r _ _ fG hb;have src:=Bd aj hl2 cv;have exec:∀{w':World},(Builtin.copy_ #[t,t'] o.type #[a.eval x,a.eval y]).run P w=.ok (goInt (Nat.min l2.length l1.length)) w'->(execOp a.eval o).run P w=.ok (.value (goInt (Nat.min l2.length l1.length))) w':=by
         intro w' r0;simp only[execOp,ho,resolve,bU,ha,hat,invoke,builtin,Sem.run_bind,Sem.run_pure,Result.andThen_ok];simp[r0]
        have fin:∀{w':World}{row:Option Nat},Gb w w' row->(∀k,row=some k->au (a.eval x)=some k)->(Builtin.copy_ #[t,t'] o.type #[a.eval x,a.eval y]).run P w=.ok (goInt (Nat.min l2.length l1.length)) w' ->
         lq h w' tt dW (l2.take l1.length++l1.drop l2.length) (a.eval x)->fO P N B h0 h w a o (gv s.gl []) K:=by
         intro w' row hgr hrw r0 hr;have ok:OK B h0 (eff s.gl (dh s.T r ([],.row tt dW (l2.take l1.length++l1.drop l2.length)))) h β w':=by
          rw[wG];have:=aj.ok.upd (r':=.row tt dW (l2.take l1.length++l1.drop l2.length)) (v:=.row (a.eval x)) fG rfl hb hgr (λk e=>aW.2 (hrw k e)) (λb hb=>.inl hb) (.inl rfl) hr
          rwa [fZ hb]at this
         exact lQ aj k rfl (by rw[ho];simp[quietly,bU]) (.inl (exec r0)) (FH.le.refl h) ((aj.mem ok (FH.le.refl h) (Ext.refl β) (o7 aj)).put (G:=[]) (e:=vI .i64 (Nat.min l2.length l1.length)) (dI hd) rfl (λ_=>⟨⟨rfl,bG _ _⟩,bG _ _⟩) λhh=>by cases hh)
        have zero:∀(ad ab:Option Addr) (dC sC:Nat),a.eval x=.slice ad l1.length dC->a.eval y=.slice ab l2.length sC->(l1=[]\/l2=[])->fO P N B h0 h w a o (gv s.gl []) K:=by
         intro ad ab dC sC ex ey h0';have hm:Nat.min l2.length l1.length=0:=by rcases h0' with rfl | rfl<;>simp
         refine fin (bW w none) (λk e=>by cases e) ?_ ?_
         .rw[hm,ex,ey];exact FM tie hu hm
         .have:l2.take l1.length++l1.drop l2.length=l1:=by rcases h0' with rfl | rfl<;>simp
          rw[this];exact jZ
        rcases jZ with⟨e1,e2⟩ | ⟨ra,e1,e2⟩ | ⟨g,cap,cur,e1,q1,q2,q3,q4,q5⟩
        .rcases src with⟨s1,s2⟩ | ⟨sa,sc,s1,s2⟩ | ⟨sb,so,sc,cs,s1,s2,s3⟩
         .exact zero none none 0 0 (by rw[e1,e2];rfl) (by rw[s1,s2];rfl) (.inl e2)
         .exact zero none (some sa) 0 sc (by rw[e1,e2];rfl) (by rw[s1,s2];rfl) (.inl e2)
         .exact zero none _ 0 sc (by rw[e1,e2];rfl) s1 (.inl e2)
        .rcases src with⟨s1,s2⟩ | ⟨sa,sc,s1,s2⟩ | ⟨sb,so,sc,cs,s1,s2,s3⟩
         .exact zero (some ra) none 0 0 (by rw[e1,e2];rfl) (by rw[s1,s2];rfl) (.inl e2)
         .exact zero (some ra) (some sa) 0 sc (by rw[e1,e2];rfl) (by rw[s1,s2];rfl) (.inl e2)
         .exact zero (some ra) _ 0 sc (by rw[e1,e2];rfl) s1 (.inl e2)
        .rcases src with⟨s1,s2⟩ | ⟨sa,sc,s1,s2⟩ | ⟨sb,so,sc,cs,s1,s2,s3⟩
         .exact zero _ none cap 0 e1 (by rw[s1,s2];rfl) (.inr s2)
         .exact zero _ (some sa) cap sc e1 (by rw[s1,s2];rfl) (.inr s2)
         .have hcs:=fK.size (λ_ _=>Rd.size dW) s2
          have lc:cur.toList.length=cap * dW.size:=by simpa using q4
          have hm1:l1.length * dW.size<=cap * dW.size:=xg _ q2;generalize hm:Nat.min l2.length l1.length=m at *;have hm2:m<=l2.length:=by rw[<-hm];exact Nat.min_le_left _ _
          have hm3:m<=l1.length:=by rw[<-hm];exact Nat.min_le_right _ _
          have hm4:m * dW.size<=l2.length * dW.size:=xg _ hm2;have hm5:m * dW.size<=l1.length * dW.size:=xg _ hm3;have ht:=fK.sN (λ_ _=>Rd.size dW) s2 (a:=0) (b:=m) (Ja _) hm2
          simp only[MB,OY]at ht;have hlen:(cs.take (m * dW.size)).length=m * dW.size:=by rw[jY];omega
          have r0:=SX (P:=P) (w:=w) (dT:=t) (sT:=t') (ty:=o.type) tie hu (g:=g) (dLen:=l1.length) (dCap:=cap) (b:=⟨sb,so,none⟩) (sLen:=l2.length) (sCap:=sc) (cs:=cs.take (m * dW.size)) q1 (by rw[hlen,hm,hz1]) (λj v hj=>by
           rw[uH]at hj;split at hj
           .have:=s3 j v hj;have ea:(⟨sb,so,none⟩:Addr).add j=⟨sb,so+j,none⟩:=by unfold Addr.add;split<;>simp_all
            rw[ea];exact this
           .cases hj) (by rw[hlen];rw[<-Ro,lc];omega) (λv hv=>(fK.all (λ_ _=>Rd.one dW) ht v hv).2)
          rw[hm]at r0;refine fin (row:=some g) (iL w g _) (λk e=>by cases e;rw[e1];exact aS q3.1) (by rw[e1,s1];exact r0) ?_
          have el:(l2.take l1.length++l1.drop l2.length)=l2.take m++l1.drop m:=by
           rcases Nat.le_total l2.length l1.length with hh | hh
           .have:m=l2.length:=by rw[<-hm];exact A98 hh
            rw[this,wo hh,wo (oq _)]
           .have:m=l1.length:=by rw[<-hm];exact Nat.min_eq_right hh
            rw[this,Rn hh,Rn (oq _)]
          rw[el];have ll:(l2.take m++l1.drop m).length=l1.length:=by rw[jR,jY,xw];omega
          refine .inr (.inr ⟨g,cap,_,by rw[ll];exact e1,setRow_heap w g _ _ tt (0,0) q1,by rw[ll];exact q2,q3,?_,?_⟩)
          .simp only[EC,jR,xw,hlen];omega
          .rw[ll];have h2:=fK.split (λ_ _=>Rd.size dW) (l:=l1.take m) (l':=l1.drop m) (by rw[Ur];exact q5)
           have h3:=ht.append h2.2;have e3:List.take (l1.length * dW.size) (cs.take (m * dW.size)++List.drop (cs.take (m * dW.size)).length cur.toList)=cs.take (m * dW.size)++List.drop ((l1.take m).length * dW.size) (List.take (l1.length * dW.size) cur.toList):=by
            rw[hlen,jY,A98 hm3];apply Ar;intro p;simp only[A86,uH,I9,jY,lc]
            repeat' split
            all_goals first | rfl | omega | (congr 1;omega) | (exfalso;omega) | skip
           simp only at e3 ⊢;rw[e3];exact h3
       .cases k
      .cases k
     .cases k
    .cases k
   .cases k
  .cases k
 .cases k
end
abbrev tlS(s:St) (i:Nat):St:=match dU s.T i with
 | some ([],.row t (.int k) l)=>{ s with T:=dh s.T i ([],.Jj t k l 0) }
 | _=>s
abbrev tlP(cx:Cx) (s:St) (o:Oper) (K:St->Prop):Option Prop:=none
section
variable {cx:Cx}{P:Program}{N:Nat}{B:Base}{h0:FH}{s:St}{h:FH}{β:List RV}{w:World}{a:Act}{o:Oper}{K:St->Prop}
theorem af9{k:IntKind}{l:List Int} (x:lq h w t (.int k) l v):TlH w t k l 0 v:=by
 rcases x with x | x | ⟨g,cap,cur,e0,e1,e2,e3,e4,e5⟩
 .exact .inl x
 .exact .inr (.inl x)
 .refine .inr (.inr ⟨g,cap,cur,e0,e1,e2,e3,by simpa using e4,λj n hj=>?_⟩)
  have:=(e5.get (λ_ _=>Rd.size (.int k)) hj).1
  simp only[Sh.size,UZ]at this;have h2:((List.take l.length cur.toList).drop j).take 1=[.int k n]:=this;have hj':=(fH.1 hj).1;have h3:(((List.take l.length cur.toList).drop j).take 1)[0]?=some (.int k n):=by rw[h2];rfl
  rw[uH,if_pos (by omega),I9,uH,if_pos (by omega)]at h3
  simpa using h3
theorem Sat.tlS(aj:Sat N B h0 s h β w a) (i:Nat):Sat N B h0 (tlS s i) h β w a:=by
 unfold Go.lH.tlS;split
 .rename_i t k l hT;have fG:=bg hT (show gv s.gl []=true from rfl)
  refine aj.mem ?_ (FH.le.refl h) (Ext.refl β) λp hp=>?_
  .rw[fC];refine aj.ok.Ny fG rfl λv hv=>?_
   cases v with
   | row v=>exact af9 hv
   | blk _=>exact hv.elim
   | deep _ _=>exact hv.elim
   | no=>exact hv.elim
  .rw[fM]at hp;rcases GH hp with hp | hp
   .exact aj.gT p hp
   .subst hp;rfl
 .exact aj
abbrev VW(s:St) (i:Nat):St:=match Nat.ble 2000 i with
 | true=>tlS s (i - 2000)
 | false=>abm s i
abbrev zy(s:St):List Nat->St
 | []=>s
 | i :: r=>zy (VW s i) r
theorem Sat.zy:∀{l:List Nat}{s:St}{h:FH}{β:List RV},Sat N B h0 s h β w a->∃h' β',h.le h'/\Sat N B h0 (zy s l) h' β' w a
 | [],s,h,β,aj=>⟨h,β,FH.le.refl h,aj⟩
 | i :: r,s,h,β,aj=>by
   have h1:∃h' β',h.le h'/\Sat N B h0 (VW s i) h' β' w a:=by
    unfold VW;split
    .exact⟨h,β,FH.le.refl h,aj.tlS _⟩
    .exact Sat.JK (l:=[i]) aj
   obtain⟨h1,β1,le1,iQ⟩:=h1;obtain⟨h2,β2,gK,bC⟩:=Sat.zy (l:=r) iQ;exact⟨h2,β2,le1.trans gK,bC⟩
theorem aga(hc:bJ P cx.ti) (aj:Sat N B h0 s h β w a) (hg:aI cx.gd h) (hd:kU N o.dst=true) (e:tlP cx s o K=some p) (k:p):Af P N B h0 h w a o (Region.wanted o (yielded ops a.tmps)) K:=by
 unfold tlP at e;cases e
end
abbrev Tc:Nat->Bool:=λj=>decide (j=0)
abbrev oO(n:Nat) (p q:Nat->Bool):Nat->Bool:=λj=>cnd (decide (j < n)) (p j) (q (j - n))
abbrev aj1(sh eq:Sh):Bool:=match sh with
 | .sl e=>decide (e=eq)
 | _=>false
abbrev VX(cx:Cx) (s:St) (d:Option Nat) (t:TypeId) (q:Nat) (tq:TypeId) (eq:Sh) (l:List eq.den) (parts:List (Nat×Operand)) (K:St->Prop):Prop:=match descOf cx t with
 | .slice el=>match oJ cx.ti el with
   | none=>False
   | some ie=>match ie.ig with
     | none=>False
     | some sh=>match wF cx s [] parts with
       | none=>False
       | some ps=>match dA (aj1 sh eq) (dA (Nat.beq ie.size 1) (Nat.ble 1 ie.bytes)) with
         | false=>False
         | true=>match sO (λj=>some (j * ie.size,ie.size)) (gY 1 (dV SC.v ie.zero)) ps with
           | some [.row q']=>match Nat.beq q q' with
             | true=>K ({ s with T:=snoc (mT (Bc (aN s.T)) (dh s.T q ([],.gone))) ([],.deep el (.sl eq) [l] tq eq 0 Tc []),env:=yu (Bc (aN s.T)) s.env }.put d [] (.one (.c (.row (aN s.T)))))
             | false=>False
           | _=>False
 | _=>False
abbrev VY(cx:Cx) (s:St) (d:Option Nat) (t:TypeId) (r:Nat) (tt:TypeId) (dW:Sh) (l1:List dW.den) (t1:TypeId) (e1:Sh) (PX:Nat) (wL:Nat->Bool) (r2:Nat) (Td:TypeId) (nJ:Sh) (l2:List nJ.den) (t2:TypeId) (e2:Sh) (so2:Nat) (yx:Nat->Bool) (K:St->Prop):Prop:=iq cx t λel ie sh=>
 match dA (Nat.beq tt el) (dA (Nat.beq Td el) (dA (Nat.beq t1 t2) (dA (decide (e1=e2)) (dA (Nat.beq PX so2) (!(Nat.beq r r2)))))) with
 | true=>match jd (.sl dW) l1 (.sl sh) with
   | some l1=>match jd (.sl nJ) l2 (.sl sh) with
     | some l2=>(1<=l2.length/\mY (l1.length+l2.length) ie.bytes)/\K ({ s with T:=dh (mT (Bc r) (dh s.T r2 ([],.gone))) r ([],.deep el sh (l1++l2) t1 e1 PX (oO l1.length wL yx) []),env:=yu (Bc r) s.env }.put d [] (.one (.c (.row r))))
     | none=>False
   | none=>False
 | false=>False
abbrev apP(cx:Cx) (s:St) (o:Oper) (K:St->Prop):Option Prop:=match cx.dm with
 | false=>none
 | true=>match o.guard with
   | some _=>none
   | none=>match o.op with
     | .buildSlice t 1 ps=>match tl ps with
       | [(0,x)]=>match bH cx s [] x with
         | some (.one (.c (.row q)))=>match dU s.T q with
           | some ([],.row tq eq l)=>some (VX cx s o.dst t q tq eq l (tl ps) K)
           | _=>none
         | _=>none
       | _=>none
     | .call c=>match c.callee with
       | .builtin .append=>match tl c.args with
         | [x,y]=>match bH cx s [] x with
           | some (.one (.c (.row r)))=>match dU s.T r with
             | some ([],.deep tt dW l1 t1 e1 PX wL [])=>match bH cx s [] y with
               | some (.one (.c (.row r2)))=>match dU s.T r2 with
                 | some ([],.deep Td nJ l2 t2 e2 so2 yx [])=>match tl c.argTypes with
                   | [t,t']=>match Nat.beq t t' with
                     | true=>some (VY cx s o.dst t r tt dW l1 t1 e1 PX wL r2 Td nJ l2 t2 e2 so2 yx K)
                     | false=>none
                   | _=>none
                 | _=>none
               | _=>none
             | _=>none
           | _=>none
         | _=>none
       | _=>none
     | _=>none
section
variable {cx:Cx}{P:Program}{N:Nat}{B:Base}{h0:FH}{s:St}{h:FH}{β:List RV}{w:World}{a:Act}{o:Oper}{K:St->Prop}
theorem Tf(hc:bJ P cx.ti) (aj:Sat N B h0 s h β w a) (hg:aI cx.gd h) (hd:kU N o.dst=true){parts:Array (Nat×Operand)} (ho:o.op=.buildSlice t 1 parts){q:Nat}{tq:TypeId}{eq:Sh}{l:List eq.den}
 (hTq:dU s.T q=some ([],.row tq eq l)) (k:VX cx s o.dst t q tq eq l (tl parts) K):fO P N B h0 h w a o true K:=by
 have tr:gv s.gl []=true:=rfl;unfold VX at k;split at k
 .rename_i el hde;have hu:=bD hc hde (by simp)
  split at k
  .cases k
  rename_i ie hie;have tie:=hc.get hie;split at k
  .cases k
  rename_i sh hsh;split at k
  .cases k
  rename_i ps hps;split at k
  .cases k
  rename_i hz;rw[ay,ay,A8,A8]at hz;have hz1:ie.size=1:=gJ hz.2.1;split at k
  .rename_i q' hxs;split at k
   .rename_i hqq;have hqq:=gJ hqq;subst hqq;have htl:(parts.map λ(p:Nat×Operand)=>(p.1,a.eval p.2)).toList=(tl parts).map λp=>(p.1,a.eval p.2):=by cases parts;simp
    rw[CG]at hxs;obtain⟨zs,g1,g2⟩:=pY (qc aj hg tr hps) (gy λv hv=>tie.zone v (xW hv)) hxs
    obtain⟨y,rfl,cy⟩:∃y,zs=[y]/\dN h β (.row q) y/\dD y:=by
     cases zs with
     | nil=>exact g2.elim
     | cons y zs=>
       cases zs with
       | nil=>exact⟨y,rfl,g2.1⟩
       | cons _ _=>exact g2.2.elim
    have hz0:0 < ie.zero.length:=by rw[tie.ou];omega
    obtain⟨z,hz1',hz2⟩:=sS tie w;have hc1:((Array.range (1 * ie.size)).map (λi=>z.cells[i % z.cells.size]!))=(gY 1 ie.zero).toArray:=by
     rw[hz2,<-tie.ou];exact qg hz0
    have run:(execOp a.eval o).run P w=.ok (.value (.slice (some ⟨w.heap.size,0,none⟩) 1 1)) (w.alloc (.cells #[y] el)):=by
     have hbig:¬(1 * ie.size > 2 ^ 24):=by omega
     have h0:¬1 * ie.size=0:=by omega
     simp only[execOp,ho,Instr.buildSlice,Sem.run_bind,run_underlying hu,Result.andThen_ok,run_sizeOf tie,hbig,MC,Sem.run_ite,Sem.run_pure,h0,hz1'];rw[htl,hc1,g1];simp only[Sem.run_bind,newRow,run_newObj,Result.andThen_ok,Sem.run_pure];rfl
    have rZ:=bg hTq tr;have hbq:=aj.ok.row_of rZ cy.1;have jZ:lq h w tq eq l y:=aj.ok.holds q _ _ rZ hbq;have hlen:aN s.T=β.length:=by rw[aj.ok.len,iK,aZ]
    have hTl:(eff s.gl s.T).length=β.length:=aj.ok.len.symm;have hql:q < β.length:=(fH.1 hbq).1;have gb:=nG w (.cells #[y] el) none;have ok1:=aj.ok.forget rZ;have ok2:=ok1.add (r:=.row el (.sl eq) []) (v:=.row (.slice (some ⟨w.heap.size,0,none⟩) 0 1)) gb
     (λb hb=>by rw[aW]at hb;simp[au]at hb;subst hb;simp)
     (.inr (.inr ⟨w.heap.size,1,#[y],rfl,lS _ _,Ja _,⟨oq _,by simp[maxLen]⟩,rfl,rfl⟩))
    have hTn:((eff s.gl s.T).set q .gone++[ak.row el (.sl eq) []])[β.length]?=some (.row el (.sl eq) []):=by
     rw[L6 (by simp[hTl])];simp[hTl]
    have hbn:(β++[RV.row (.slice (some ⟨w.heap.size,0,none⟩) 0 1)])[β.length]?=some (.row (.slice (some ⟨w.heap.size,0,none⟩) 0 1)):=by simp
    have old:∀b,au y=some b->b < w.heap.size:=λb hb=>(aj.ok.own q _ _ b rZ rfl hbq (aW.2 hb)).2.1
    have fr:∀b,b < w.heap.size->(w.alloc (.cells #[y] el)).heap[b]?=w.heap[b]?:=λb hb=>gb.block b hb (by simp)
    have hold:dQ h (w.alloc (.cells #[y] el)) el (.sl eq) [l] tq eq 0 Tc [] (.slice (some ⟨w.heap.size,0,none⟩) 1 1) (λj=>if j=0 then y else lZ):=by
     have bn:∀b,au lZ≠some b:=λb hh=>by simp[lZ,au]at hh
     have z0:∀{j b},au (if j=0 then y else lZ)=some b->j=0/\au y=some b:=by
      intro j b hb
      by_cases hj:j=0
      .rw[if_pos hj]at hb;exact⟨hj,hb⟩
      .rw[if_neg hj]at hb;exact(bn b hb).elim
     refine⟨λj k b h1 h2=>by rw[(z0 h1).1,(z0 h2).1],λj b hb=>⟨by rw[(z0 hb).1];simp,?_⟩,.inr (.inr ⟨w.heap.size,1,#[y],rfl,lS _ _,by simp,⟨oq _,by simp[maxLen]⟩,rfl,λj hb=>?_,λj d hj=>?_⟩)⟩
     .rw[fr b (old b (z0 hb).2)];exact(aj.ok.holds q _ _ rZ hbq).cells rfl (aW.2 (z0 hb).2)
     .have:=old _ (z0 hb).2;omega
     .have hj0:j=0:=by
       have:=(fH.1 hj).1;simp at this;exact this
      subst hj0;simp at hj;subst hj;show zf h _ (.sl eq) tq eq 0 true false y ((([y]:List Value).drop (0 * 1)).take 1) l;exact⟨[],l,⟨lZ,rfl,.inl ⟨rfl,rfl⟩⟩,⟨rfl,rfl,rfl⟩,rfl,jZ.move (FH.le.refl h) λb hb=>fr b (old b hb)⟩
    have ok3:=ok2.Nw (f:=Bc β.length) (r':=.deep el (.sl eq) [l] tq eq 0 Tc []) (v:=.deep (.slice (some ⟨w.heap.size,0,none⟩) 1 1) (λj=>if j=0 then y else lZ)) (row:=none) (X:=λb=>au y=some b) hTn rfl hbn (bW _ none) (λk e=>by cases e)
     (λb hb=>by
      obtain⟨o1,o2,o3⟩:=aj.ok.own q _ _ b rZ rfl hbq (aW.2 hb);refine⟨o1,L8 o2 gb.size,o3,λj' rj vj hj' ej lj iZ hbj=>?_⟩
      have hjl:j' < β.length:=by
       have h1:=(fH.1 iZ).1;simp at h1;omega
      rw[Uo (by simp[hTl];exact hjl)]at ej
      rw[Uo hjl]at iZ;have hjq:j'≠q:=by
       rintro rfl;rw[pG (fH.1 rZ).1]at ej;cases ej;cases lj
      rw[lW (Ne.symm hjq)]at ej;exact hjq (aj.ok.inj j' q _ _ _ _ b ej lj rZ rfl iZ hbq hbj (aW.2 hb)))
     (λb hb=>by
      rw[aQ]at hb;rcases hb with hb | ⟨j,hb⟩
      .refine .inl (aW.2 ?_);simp[au]at hb ⊢;exact hb
      .by_cases hj:j=0
       .rw[if_pos hj]at hb;exact .inr (.inl hb)
       .rw[if_neg hj]at hb;simp[lZ,au]at hb)
     (λx y c=>c.jk _) hold
    intro Nx Q next
    rw[if_pos rfl];refine jI run (next _ _ _ _ _ k (FH.le.refl h) (λ_=>lX.Jy gb) ((aj.map (f:=Bc (aN s.T)) (T':=snoc (mT (Bc (aN s.T)) (dh s.T q ([],.gone))) ([],.deep el (.sl eq) [l] tq eq 0 Tc [])) (β':=(β++[RV.row (.slice (some ⟨w.heap.size,0,none⟩) 0 1)]).set β.length (.deep (.slice (some ⟨w.heap.size,0,none⟩) 1 1) (λj=>if j=0 then y else lZ))) (FH.le.refl h) (λ_=>rfl) (λx y c=>?_) ?_ ?_).put (dI hd) rfl (λ_=>⟨⟨.deep (.slice (some ⟨w.heap.size,0,none⟩) 1 1) (λj=>if j=0 then y else lZ),?_,rfl⟩,rfl,rfl⟩) λhh=>by cases hh))
    .rw[hlen];exact(c.mono (FH.le.refl h) (Ext.append _ _)).jk _
    .rw[iw,CZ,fC,hlen];have:(((eff s.gl s.T).set q .gone++[ak.row el (.sl eq) []]).map (mR (Bc β.length))).set β.length (.deep el (.sl eq) [l] tq eq 0 Tc [])=((eff s.gl s.T).set q .gone).map (mR (Bc β.length))++[.deep el (.sl eq) [l] tq eq 0 Tc []]:=by
      rw[Me,aaJ _ _ (by simp[hTl])]
      simp[hTl]
     rw[<-this];exact ok3
    .intro p' hp';rw[gZ,Et]at hp';rcases hp' with hp' | hp'
     .obtain⟨p2,h1,h2⟩:=C9 hp';rw[<-h2];exact o7 aj p2 h1
     .simp at hp';subst hp';rfl
    .rw[hlen];rw[pG (by simp)]
   .cases k
  .cases k
 .cases k
theorem EO{i:TI}{m c b o:Nat} (hu:P.underlying t=some (.slice el)) (ki:aJ P el i) (hs1:1<=i.size) (hb1:1<=i.bytes) (hm:1<=m) (room:mY (n+m) i.bytes)
 (hcs:cs.length=m * i.size) (hnews:∀j u,cs[j]?=some u->w.cell? ⟨b,o+j,none⟩=some u) (h1:∀u∈cs,u.oneCell'=true){old:List Value} (hol:old.length=n * i.size)
 (row:(v=.slice none 0 0/\n=0)\/(∃a,v=.slice (some a) 0 0/\n=0)\/∃g cap cur,v=.slice (some ⟨g,0,none⟩) n cap/\w.heap[g]?=some (.cells cur el (0,0))/\n<=cap/\(1<=cap/\cap<=maxLen)/\cur.size=cap * i.size/\cur.toList.take (n * i.size)=old):
 ∃w' g' jo cur',(Builtin.append_ #[t,t] ty #[v,.slice (some ⟨b,o,none⟩) m c]).run P w=.ok (.slice (some ⟨g',0,none⟩) (n+m) jo) w'/\Gb w w' (au v)/\w'.heap[g']?=some (.cells cur' el (0,0))/\n+m<=jo/\(1<=jo/\jo<=maxLen) /\
   cur'.size=jo * i.size/\(au v=some g'\/(w.heap.size<=g'/\g' < w'.heap.size))/\cur'.toList.take ((n+m) * i.size)=old++cs:=by
 obtain⟨inf,z,i1,i2,i3,i4,i5⟩:=ki.info;unfold mY at room;have hn:n+m<=140737488355328:=pI (A72 _ hb1) room;have Vr:z.cells.size=i.size:=by rw[i5];simpa using ki.ou
 have hcs':cs.length=m * inf.size:=by rw[i2];exact hcs
 have hnews':∀j u,cs[j]?=some u->w.cell? ((⟨b,o,none⟩:Addr).add j)=some u:=λj u e=>by rw[add_lit];exact hnews j u e
 have grown:∀(scap:Nat),∃w' g' jo cur',w'=w.drew.alloc (.cells (old.toArray++cs.toArray++Builtin.zeroCells z.cells (grownCap w (n+m) scap el - (n+m))) el)/\g'=w.heap.size/\jo=grownCap w (n+m) scap el/\Gb w w' (au v)/\w'.heap[g']?=some (.cells cur' el (0,0))/\n+m<=jo/\(1<=jo/\jo<=maxLen) /\
  cur'.size=jo * i.size/\(au v=some g'\/(w.heap.size<=g'/\g' < w'.heap.size))/\cur'.toList.take ((n+m) * i.size)=old++cs:=by
  intro scap;have hge:=grownCap_ge w (n+m) scap el;refine⟨_,_,_,_,rfl,rfl,rfl,⟨⟨rfl,rfl,rfl,by simp,λk hk _=>(World.grownBy_alloc w.drew _ none).block k hk (by simp)⟩,Rq _⟩,heap_alloc_new w.drew _,hge,⟨by omega,grownCap_le_maxLen w _ scap el (by simp only[maxLen];omega)⟩,?_,.inr ⟨oq _,by simp⟩,?_⟩
  .simp only[A80,EC,size_zeroCells,Vr,hcs,hol,<-Jb]
   congr 1;omega
  .simp only[A91];rw[show(n+m) * i.size=(old++cs).length by rw[jR,hol,hcs,Jb],UK]
 rcases row with⟨rfl,hn0⟩ | ⟨ra,rfl,hn0⟩ | ⟨g,cap,cur,rfl,q1,q2,q3,q4,q5⟩
 .subst hn0;have ho0:old=[]:=Un (by simpa using hol)
  subst ho0;have r:=run_append_nil (P:=P) w t ty el inf z hu i1 i4 ⟨b,o,none⟩ m c cs hcs' hnews' (by omega) (by omega) (by rw[i3];simp at room;omega)
  obtain⟨w',g',jo,cur',rfl,rfl,rfl,rest⟩:=grown 0;refine⟨_,_,_,cur',?_,rest⟩;simpa using r
 .subst hn0;have ho0:old=[]:=Un (by simpa using hol)
  subst ho0;have r:=run_append_grow (P:=P) w t ty el inf z hu i1 i4 ra 0 0 [] (by simp) (λj u e=>by simp at e) ⟨b,o,none⟩ m c cs hcs' hnews' (by omega) (by omega) (growslice_fits (by omega) (by rw[i3];simpa using room))
  obtain⟨w',g',jo,cur',rfl,rfl,rfl,rest⟩:=grown 0;exact⟨_,_,_,cur',r,rest⟩
 .by_cases hroom:n+m<=cap
  .have hfit:n * inf.size+cs.length<=cur.size:=by rw[hcs,q4,i2,<-Jb];exact xg _ hroom
   have r:=run_append_room (P:=P) w t ty el inf hu i1 g n cap cur q1 ⟨b,o,none⟩ m c cs hcs' hnews' h1 hroom hfit;have e1:(List.take (n * i.size) cur.toList++cs).length=(n+m) * i.size:=by rw[jR,q5,hol,hcs,Jb]
   refine⟨_,g,cap,_,r,by rw[aS q3.1];exact iL w g _,setRow_heap w g cur _ el _ q1,hroom,q3,?_,.inl (aS q3.1),?_⟩
   .have amS:n * i.size+cs.length<=cur.size:=by rw[<-i2];exact hfit
    simp only[i2,EC,jR,jY,xw,Ro (xs:=cur)];rw[<-q4];omega
   .show(List.take (n * inf.size) cur.toList++cs++List.drop (n * inf.size+cs.length) cur.toList).take ((n+m) * i.size)=old++cs;rw[i2,<-e1,UK,q5]
  .have holds:∀j u,old[j]?=some u->w.cell? ((⟨g,0,none⟩:Addr).add j)=some u:=by
    intro j u e;rw[add_lit,Eu,cell_of_row w g j cur el (0,0) q1];rw[<-q5,uH]at e;split at e
    .simpa using e
    .cases e
   have r:=run_append_grow (P:=P) w t ty el inf z hu i1 i4 ⟨g,0,none⟩ n cap old (by rw[hol,i2]) holds ⟨b,o,none⟩ m c cs hcs' hnews' (by omega) (by omega) (growslice_fits (by omega) (by rw[i3];exact room))
   obtain⟨w',g',jo,cur',rfl,rfl,rfl,rest⟩:=grown cap;exact⟨_,_,_,cur',r,rest⟩
theorem Nz{p q:Nat->Bool} (h:j < n):oO n p q j=p j:=by simp[oO,h,cnd]
theorem NC{p q:Nat->Bool} (h:¬j < n):oO n p q j=q (j - n):=by simp[oO,h,cnd]
abbrev zA(n:Nat) (p q:Nat->Value):Nat->Value:=λj=>if j < n then p j else q (j - n)
theorem jS{p q:Nat->Value} (h:j < n):zA n p q j=p j:=if_pos h
theorem jT{p q:Nat->Value} (h:¬j < n):zA n p q j=q (j - n):=if_neg h
theorem Df{L:List Value}{M a:Nat} (h:a+k<=M):((L.take M).drop a).take k=(L.drop a).take k:=by
 apply Ar;intro p;simp only[uH,I9]
 by_cases hp:p < k
 .rw[if_pos hp,if_pos hp,if_pos (by omega)]
 .rw[if_neg hp,if_neg hp]
theorem zf.one{sh:Sh}{tt:TypeId}{e:Sh}{so:Nat}{own:Bool}{u:Value}{cs:List Value}{d:sh.den} (x:zf h w sh tt e so own false u cs d):∀z∈cs,dD z:=by
 intro z hz;cases own with
 | false=>exact Rd.one sh x.1 z hz
 | true=>
   obtain⟨d0,y,r,_,c,q⟩:=x;obtain⟨p,hp⟩:=LK hz
   by_cases hps:p=so
   .subst hps;rw[hp]at c;cases c;rcases q with⟨e,_⟩ | ⟨_,e,_⟩ | ⟨_,_,_,e,_⟩<;>subst e<;>exact⟨rfl,rfl⟩
   .refine Rd.one sh r z (iJ (i:=p) ?_);rw[lW (Ne.symm hps)];exact hp
theorem dQ.join{sh:Sh}{l1 l2:List sh.den}{wL yx:Nat->Bool}{v1 v2:Value}{PY sJ:Nat->Value}{g' jo:Nat}{cur':Array Value}{old:List Value}
 (D1:dQ h w t sh l1 tt e so wL [] v1 PY) (D2:dQ h w t sh l2 tt e so yx [] v2 sJ) (h2:1<=l2.length)
 (dis:∀i j b,au (PY i)=some b->au (sJ j)=some b->False)
 (fr:∀b,(∃i,au (PY i)=some b)\/(∃j,au (sJ j)=some b)->w'.heap[b]?=w.heap[b]?/\b≠g')
 (c1:w'.heap[g']?=some (.cells cur' t (0,0))) (c2:l1.length+l2.length<=jo) (c3:1<=jo/\jo<=maxLen) (c4:cur'.size=jo * sh.size) (hol:old.length=l1.length * sh.size)
 (c5:cur'.toList.take ((l1.length+l2.length) * sh.size)=old++cs)
 (e1:∀j d,l1[j]?=some d->zf h w sh tt e so (wL j) false (PY j) ((old.drop (j * sh.size)).take sh.size) d)
 (e2:∀j d,l2[j]?=some d->zf h w sh tt e so (yx j) false (sJ j) ((cs.drop (j * sh.size)).take sh.size) d):
 dQ h w' t sh (l1++l2) tt e so (oO l1.length wL yx) [] (.slice (some ⟨g',0,none⟩) (l1.length+l2.length) jo) (zA l1.length PY sJ):=by
 refine⟨λj k b hj hk=>?_,λj b hj=>?_,.inr (.inr ⟨g',jo,cur',by rw[jR],c1,by rw[jR];exact c2,c3,c4,λj hj=>?_,λj d hj=>?_⟩)⟩
 .by_cases a1:j < l1.length<;>by_cases a2:k < l1.length
  .rw[jS a1]at hj;rw[jS a2]at hk;exact D1.1 j k b hj hk
  .rw[jS a1]at hj;rw[jT a2]at hk;exact(dis _ _ b hj hk).elim
  .rw[jT a1]at hj;rw[jS a2]at hk;exact(dis _ _ b hk hj).elim
  .rw[jT a1]at hj;rw[jT a2]at hk;have:=D2.1 _ _ b hj hk;omega
 .by_cases a1:j < l1.length
  .rw[jS a1]at hj;rw[(fr b (.inl ⟨j,hj⟩)).1];exact⟨by rw[jR];omega,(D1.2.1 j b hj).2⟩
  .rw[jT a1]at hj;rw[(fr b (.inr ⟨_,hj⟩)).1];have:=D2.2.1 _ b hj;exact⟨by rw[jR];omega,this.2⟩
 .by_cases a1:j < l1.length
  .rw[jS a1]at hj;exact(fr g' (.inl ⟨j,hj⟩)).2 rfl
  .rw[jT a1]at hj;exact(fr g' (.inr ⟨_,hj⟩)).2 rfl
 .have hjl:=(fH.1 hj).1;rw[jR]at hjl;have hm:(j+1) * sh.size<=(l1.length+l2.length) * sh.size:=xg _ hjl;rw[xk]at hm;have cut:(cur'.toList.drop (j * sh.size)).take sh.size=((old++cs).drop (j * sh.size)).take sh.size:=by
   rw[<-c5,Df hm]
  rw[cut,show mP j []=false from rfl]
  rw[A86]at hj;split at hj
  .rename_i a1;rw[jS a1,Nz a1];have hm1:(j+1) * sh.size<=l1.length * sh.size:=xg _ a1;rw[xk]at hm1;have:((old++cs).drop (j * sh.size)).take sh.size=(old.drop (j * sh.size)).take sh.size:=by
    rw[A93 (by omega),A78 (by rw[xw];omega)]
   rw[this];exact(e1 j d hj).move (FH.le.refl h) λb hb=>(fr b (.inl ⟨j,hb⟩)).1
  .rename_i a1;rw[jT a1,NC a1];have hjj:j * sh.size=l1.length * sh.size+(j - l1.length) * sh.size:=by rw[<-Jb];congr 1;omega
   have:(old++cs).drop (j * sh.size)=cs.drop ((j - l1.length) * sh.size):=by
    rw[hjj,<-hol,A68]
   rw[this];exact(e2 _ d hj).move (FH.le.refl h) λb hb=>(fr b (.inr ⟨_,hb⟩)).1
theorem Ti(hc:bJ P cx.ti) (aj:Sat N B h0 s h β w a) (hg:aI cx.gd h) (hd:kU N o.dst=true){x y:Operand} (ho:o.op=.call c) (bU:c.callee=.builtin .append) (ha:c.args=#[x,y]) (ht:c.argTypes=#[t,t])
 {r:Nat} (hx:bH cx s [] x=some (.one (.c (.row r)))){dW:Sh}{l1:List dW.den}{t1:TypeId}{e1:Sh}{PX:Nat}{wL:Nat->Bool} (hT:dU s.T r=some ([],.deep tt dW l1 t1 e1 PX wL []))
 {r2:Nat} (hy:bH cx s [] y=some (.one (.c (.row r2)))){Td:TypeId}{nJ:Sh}{l2:List nJ.den}{t2:TypeId}{e2:Sh}{so2:Nat}{yx:Nat->Bool} (hT2:dU s.T r2=some ([],.deep Td nJ l2 t2 e2 so2 yx []))
 (k:VY cx s o.dst t r tt dW l1 t1 e1 PX wL r2 Td nJ l2 t2 e2 so2 yx K):fO P N B h0 h w a o true K:=by
 have tr:gv s.gl []=true:=rfl;unfold VY iq at k;split at k
 .rename_i el hde;have hu:=bD hc hde (by simp)
  split at k
  .cases k
  rename_i ie hie;have tie:=hc.get hie;split at k
  .cases k
  rename_i sh hsh;split at k
  .rename_i hz;rw[ay,ay,A8,A8]at hz;have hz1:sh.size=ie.size:=gJ hz.1;have hz2:1<=ie.bytes:=oZ hz.2.1;have hz3:1<=ie.size:=oZ hz.2.2;split at k
   .rename_i hq;rw[ay,ay,ay,ay,ay,A8,A8,A8,A8,A8,eH]at hq;obtain⟨q1,q2,q3,q4,q5,q6⟩:=hq;have q1:tt=el:=gJ q1;have q2:Td=el:=gJ q2;have q3:t1=t2:=gJ q3;have q5:PX=so2:=gJ q5;have hrr:r2≠r:=Nv q6;subst q1;subst q2;subst q3;subst q4;subst q5;split at k
    .rename_i m1 hm1;obtain⟨f1,f2⟩:=nK hm1;subst f1;simp only at f2;subst f2;split at k
     .rename_i m2 hm2;obtain⟨f1,f2⟩:=nK hm2;subst f1;simp only at f2;subst f2;obtain⟨⟨k1,k2⟩,k⟩:=k;have fG:=bg hT tr;have Tj:=bg hT2 tr;have cx1:=(aK aj hg tr hx:cZ h β (.c (.row r)) (a.eval x));have cy1:=(aK aj hg tr hy:cZ h β (.c (.row r2)) (a.eval y));obtain⟨PY,hb1,D1⟩:=aj.ok.uO fG cx1.1;obtain⟨sJ,hb2,D2⟩:=aj.ok.uO Tj cy1.1;have aj2:∀b,(RV.deep (a.eval x) PY).has b->B.al b/\b < w.heap.size/\∀o,h b o=none:=λb hb=>aj.ok.own r _ _ b fG rfl hb1 hb
      have ae7:∀b,(RV.deep (a.eval y) sJ).has b->B.al b/\b < w.heap.size/\∀o,h b o=none:=λb hb=>aj.ok.own r2 _ _ b Tj rfl hb2 hb
      have apart:∀b,(RV.deep (a.eval x) PY).has b->(RV.deep (a.eval y) sJ).has b->False:=λb p q=>hrr (aj.ok.inj r2 r _ _ _ _ b Tj rfl fG rfl hb2 hb1 q p)
      obtain⟨g2,cap2,Dc,v0,v1,v2,v3,v4,v5,v6⟩:=D2.third (j:=0) (by omega)
      have hsz2:l2.length * nJ.size<=cap2 * nJ.size:=xg _ v2;have hcs:(Dc.toList.take (l2.length * nJ.size)).length=l2.length * nJ.size:=by rw[jY,Ro (xs:=Dc)];omega
      have el2:∀j d,l2[j]?=some d->zf h w nJ t1 e1 PX (yx j) false (sJ j) (((Dc.toList.take (l2.length * nJ.size)).drop (j * nJ.size)).take nJ.size) d:=by
       intro j d hj;have hjl:=(fH.1 hj).1;have hm:(j+1) * nJ.size<=l2.length * nJ.size:=xg _ hjl;rw[xk]at hm;rw[Df hm];exact v6 j d hj
      have al8:∀u∈Dc.toList.take (l2.length * nJ.size),u.oneCell'=true:=by
       intro u hu;obtain⟨p,hp⟩:=LK hu;have hpl:=(fH.1 hp).1;rw[hcs]at hpl;have hs0:0 < nJ.size:=by rw[hz1];exact hz3
       have hjl:p / nJ.size < l2.length:=by rw[Nat.div_lt_iff_lt_mul hs0];exact hpl
       have hdm:p / nJ.size * nJ.size+p % nJ.size=p:=by rw[Nat.mul_comm];exact Nat.div_add_mod p nJ.size
       refine((el2 _ _ (lY hjl)).one u (iJ (i:=p % nJ.size) ?_)).2;rw[uH,if_pos (Nat.mod_lt _ hs0),I9,hdm];exact hp
      obtain⟨old,hol,row,el1,nb1⟩:∃old:List Value,old.length=l1.length * nJ.size/\((a.eval x=.slice none 0 0/\l1.length=0)\/(∃ad,a.eval x=.slice (some ad) 0 0/\l1.length=0)\/∃g cap cur,a.eval x=.slice (some ⟨g,0,none⟩) l1.length cap/\w.heap[g]?=some (.cells cur Td (0,0))/\l1.length<=cap/\(1<=cap/\cap<=maxLen)/\cur.size=cap * ie.size/\cur.toList.take (l1.length * ie.size)=old) /\
       (∀j d,l1[j]?=some d->zf h w nJ t1 e1 PX (wL j) false (PY j) ((old.drop (j * nJ.size)).take nJ.size) d)/\∀i b,au (PY i)=some b->au (a.eval x)≠some b:=by
       rcases D1.2.2 with⟨e,rfl⟩ | ⟨ad,e,rfl⟩ | ⟨g,cap,cur,u0,u1,u2,u3,u4,u5,u6⟩
       .exact⟨[],by simp,.inl ⟨e,rfl⟩,λj d hj=>by simp at hj,λi b _=>by rw[e];simp[au]⟩
       .exact⟨[],by simp,.inr (.inl ⟨ad,e,rfl⟩),λj d hj=>by simp at hj,λi b _=>by rw[e];simp[au]⟩
       .have hsz1:l1.length * nJ.size<=cap * nJ.size:=xg _ u2;refine⟨cur.toList.take (l1.length * nJ.size),by rw[jY,Ro (xs:=cur)];omega,.inr (.inr ⟨g,cap,cur,u0,u1,u2,u3,by rw[<-hz1];exact u4,by rw[hz1]⟩),λj d hj=>?_,λi b hb=>by rw[u0,aS u3.1];intro hh;cases hh;exact u5 i hb⟩
        have hjl:=(fH.1 hj).1;have hm:(j+1) * nJ.size<=l1.length * nJ.size:=xg _ hjl;rw[xk]at hm;rw[Df hm];exact u6 j d hj
      obtain⟨w',g',jo,cur',r1,gb,c1,c2,c3,c4,c6,c5⟩:=EO (ty:=o.type) (b:=g2) (o:=0) (c:=cap2) (m:=l2.length) (n:=l1.length) (cs:=Dc.toList.take (l2.length * nJ.size)) (old:=old) hu tie hz3 hz2 k1 k2 (by rw[hcs,hz1]) (λj u hj=>by
       rw[Eu,cell_of_row w g2 j Dc Td (0,0) v1];rw[uH]at hj;split at hj
       .simpa using hj
       .cases hj) al8 (by rw[hol,hz1]) row
      have fr:∀b,(∃i,au (PY i)=some b)\/(∃j,au (sJ j)=some b)->w'.heap[b]?=w.heap[b]?/\b≠g':=by
       rintro b (⟨i,hb⟩ | ⟨j,hb⟩)
       .have o1:=(aj2 b (aQ.2 (.inr ⟨i,hb⟩))).2.1;refine⟨gb.block b o1 λhh=>nb1 i b hb hh.symm,?_⟩
        rintro rfl;rcases c6 with c6 | c6
        .exact nb1 i b hb c6
        .omega
       .have o1:=(ae7 b (aQ.2 (.inr ⟨j,hb⟩))).2.1;refine⟨gb.block b o1 λhh=>apart b (aQ.2 (.inl hh.symm)) (aQ.2 (.inr ⟨j,hb⟩)),?_⟩
        rintro rfl;rcases c6 with c6 | c6
        .exact apart b (aQ.2 (.inl c6)) (aQ.2 (.inr ⟨j,hb⟩))
        .omega
      have J:=dQ.join (w':=w') (g':=g') (jo:=jo) (cur':=cur') (old:=old) (cs:=Dc.toList.take (l2.length * nJ.size)) D1 D2 k1 (λi j b p q=>apart b (aQ.2 (.inr ⟨i,p⟩)) (aQ.2 (.inr ⟨j,q⟩))) fr c1 c2 c3 (by rw[hz1];exact c4) hol (by rw[hz1];rw[hz1]at c5;exact c5) el1 el2
      have run:(execOp a.eval o).run P w=.ok (.value (.slice (some ⟨g',0,none⟩) (l1.length+l2.length) jo)) w':=by
       rw[<-v0]at r1;simp[execOp,ho,resolve,bU,ha,ht,invoke,builtin,r1]
      have ok1:=aj.ok.forget Tj;have hT1:((eff s.gl s.T).set r2 .gone)[r]?=some (.deep Td nJ l1 t1 e1 PX wL []):=by rw[lW hrr];exact fG
      have hrl:r < β.length:=(fH.1 hb1).1;have ok2:=ok1.Nw (f:=Bc r) (r':=.deep Td nJ (l1++l2) t1 e1 PX (oO l1.length wL yx) []) (v:=.deep (.slice (some ⟨g',0,none⟩) (l1.length+l2.length) jo) (zA l1.length PY sJ)) (row:=au (a.eval x)) (X:=λb=>∃j,au (sJ j)=some b) hT1 rfl hb1 gb (λk e=>aQ.2 (.inl e))
       (λb hb=>by
        have hb:(RV.deep (a.eval y) sJ).has b:=aQ.2 (.inr hb);obtain⟨o1,o2,o3⟩:=ae7 b hb;refine⟨o1,o2,o3,λj' rj vj hj' ej lj iZ hbj=>?_⟩
        have hjq:j'≠r2:=by
         rintro rfl;rw[pG (fH.1 Tj).1]at ej;cases ej;cases lj
        rw[lW (Ne.symm hjq)]at ej;exact hjq (aj.ok.inj j' r2 _ _ _ _ b ej lj Tj rfl iZ hb2 hbj hb))
       (λb hb=>by
        rw[aQ]at hb;rcases hb with hb | ⟨j,hb⟩
        .rw[aS c3.1]at hb;cases hb;exact c6.elim (λq=>.inl (aQ.2 (.inl q))) λq=>.inr (.inr q)
        .by_cases a1:j < l1.length
         .rw[jS a1]at hb;exact .inl (aQ.2 (.inr ⟨j,hb⟩))
         .rw[jT a1]at hb;exact .inr (.inl ⟨_,hb⟩))
       (λx y c=>c.jk _) J
      intro Nx Q next
      rw[if_pos rfl];refine jI run (next _ _ _ _ _ k (FH.le.refl h) (λhh=>by rw[ho]at hh;simp[quietly,bU]at hh) ((aj.map (f:=Bc r) (T':=dh (mT (Bc r) (dh s.T r2 ([],.gone))) r ([],.deep Td nJ (l1++l2) t1 e1 PX (oO l1.length wL yx) [])) (β':=β.set r (.deep (.slice (some ⟨g',0,none⟩) (l1.length+l2.length) jo) (zA l1.length PY sJ))) (FH.le.refl h) (λ_=>rfl) (λx y c=>c.jk _) ?_ ?_).put (dI hd) rfl (λ_=>⟨⟨.deep (.slice (some ⟨g',0,none⟩) (l1.length+l2.length) jo) (zA l1.length PY sJ),?_,rfl⟩,rfl,rfl⟩) λhh=>by cases hh))
      .rw[fC,CZ,fC];exact ok2
      .intro p' hp';rw[fM]at hp';rcases GH hp' with hp' | hp'
       .obtain⟨p2,h1,h2⟩:=C9 hp';rw[<-h2];exact o7 aj p2 h1
       .subst hp';rfl
      .rw[pG hrl]
     .cases k
    .cases k
   .cases k
  .cases k
 .cases k
theorem VZ(hc:bJ P cx.ti) (aj:Sat N B h0 s h β w a) (hg:aI cx.gd h) (hd:kU N o.dst=true) (e:apP cx s o K=some p) (k:p):fO P N B h0 h w a o (Region.wanted o (yielded ops a.tmps)) K:=by
 unfold apP at e;split at e
 .cases e
 split at e
 .cases e
 rename_i hgd;rw[show Region.wanted o (yielded ops a.tmps)=true by simp[Region.wanted,hgd]]
 split at e
 .rename_i t ps ho;split at e
  .rename_i x hps;split at e
   .rename_i q hx;split at e
    .rename_i tq eq l hTq;cases e;exact Tf hc aj hg hd ho hTq k
    .cases e
   .cases e
  .cases e
 .rename_i c ho;split at e
  .rename_i bU;split at e
   .rename_i x y ha;split at e
    .rename_i r hx;split at e
     .rename_i tt dW l1 t1 e1 PX wL hT;split at e
      .rename_i r2 hy;split at e
       .rename_i Td nJ l2 t2 e2 so2 yx hT2;split at e
        .rename_i t t' ht;split at e
         .rename_i hb;have hb:t=t':=gJ hb;subst hb;cases e;exact Ti hc aj hg hd ho bU (gW ha) (gW ht) hx hT hy hT2 k
         .cases e
        .cases e
       .cases e
      .cases e
     .cases e
    .cases e
   .cases e
  .cases e
 .cases e
theorem V3(h1:∀t n ps,o.op≠.buildSlice t n ps) (h2:∀c,o.op=.call c->c.callee≠.builtin .append):apP cx s o K=none:=by
 cases hp:apP cx s o K with
 | none=>rfl
 | some p=>
   exfalso;unfold apP at hp;split at hp
   .cases hp
   split at hp
   .cases hp
   split at hp
   .rename_i t ps ho;exact h1 _ _ _ ho
   .rename_i c ho;split at hp
    .rename_i bU;exact h2 c ho bU
    .cases hp
   .cases hp
abbrev agc(cx:Cx) (s:St) (o:Oper) (K:St->Prop):Option Prop:=match apP cx s o K with
 | some p=>some p
 | none=>match tlP cx s o K with
   | some p=>some p
   | none=>af2 cx s o K
theorem abo(hc:bJ P cx.ti) (aj:Sat N B h0 s h β w a) (hg:aI cx.gd h) (hd:kU N o.dst=true) (e:agc cx s o K=some p) (k:p):Af P N B h0 h w a o (Region.wanted o (yielded ops a.tmps)) K:=by
 unfold agc at e;split at e
 .rename_i p' hp;cases e;exact(VZ hc aj hg hd hp k).weak
 .split at e
  .rename_i p' hp;cases e;exact aga hc aj hg hd hp k
  .exact abj hc aj hg hd e k
end
abbrev V4(cx:Cx) (s:St) (d:Option Nat) (t:TypeId) (i:Nat) (lo:Operand) (K:St->Prop):Prop:=iq cx t λel ie sh=>match dU s.T i with
 | some ([],.row tt dW l1)=>match jd (.sl dW) l1 (.sl sh) with
   | some l=>match bH cx s [] lo with
     | some (.one (.c (.v (.int _ n))))=>(0<=n/\n<=l.length)/\K ({ s with T:=dh s.T i ([],.Fe tt sh l n.toNat) }.put d [] (.one (.c (.sub i 0))))
     | _=>False
   | none=>False
 | _=>False
abbrev V5(cx:Cx) (s:St) (d:Option Nat) (t:TypeId) (i:Nat) (y:Operand) (K:St->Prop):Prop:=iq cx t λel ie sh=>match dU s.T i with
 | some ([],.Fe tt dW l1 off)=>match jd (.sl dW) l1 (.sl sh) with
   | some l=>match bH cx s [] y with
     | some (.one v)=>match MX s sh v with
       | some l2=>K ({ s with T:=dh (mT (tH i) s.T) i ([],.row tt sh (l.take off++(l2.take (l.length - off)++(l.drop off).drop l2.length))),env:=yu (tH i) s.env }.put d [] (vI .i64 (Nat.min l2.length (l.length - off))))
       | none=>False
     | _=>False
   | none=>False
 | _=>False
abbrev V6(cx:Cx) (s:St) (d:Option Nat) (t:TypeId) (dW:Sh) (x1:dW.den) (K:St->Prop):Prop:=iq cx t λel ie sh=>match jd dW x1 sh with
 | some x=>match Nat.ble ie.size 16777216 with
   | true=>K ({ s with T:=snoc s.T ([],.row el sh [x]) }.put d [] (.one (.c (.row (aN s.T)))))
   | false=>False
 | none=>False
abbrev rtP(cx:Cx) (s:St) (o:Oper) (K:St->Prop):Option Prop:=match cx.rt with
 | false=>none
 | true=>match o.guard with
   | some _=>none
   | none=>match o.op with
     | .buildSlice t 1 ps=>match tl ps with
       | [(0,x)]=>match bH cx s [] x with
         | some (.one (.dat dW x1))=>some (V6 cx s o.dst t dW x1 K)
         | _=>none
       | _=>none
     | .slice t x (some lo) none none=>match bH cx s [] x with
       | some (.one (.c (.row i)))=>match dU s.T i with
         | some ([],.row _ _ _)=>some (V4 cx s o.dst t i lo K)
         | _=>none
       | _=>none
     | .call c=>match c.callee with
       | .builtin .copy=>match tl c.args with
         | [x,y]=>match bH cx s [] x with
           | some (.one (.c (.sub i 0)))=>match dU s.T i with
             | some ([],.Fe _ _ _ _)=>match tl c.argTypes with
               | [t,_]=>some (V5 cx s o.dst t i y K)
               | _=>none
             | _=>none
           | _=>none
         | _=>none
       | _=>none
     | _=>none
section
variable {cx:Cx}{P:Program}{N:Nat}{B:Base}{h0:FH}{s:St}{h:FH}{β:List RV}{w:World}{a:Act}{o:Oper}{K:St->Prop}
theorem dN.js2{us:Nat->Value} (hu:β[i]?=some (.deep v us)){x:SC} (c:dN h β x y):dN h (β.set i (.row v)) (tH i x) y:=by
 unfold tH;split
 .rename_i hf;cases x with
  | v _=>exact c
  | sl _ _=>exact c
  | fp _ _=>exact c
  | one _ _=>exact c
  | abs _=>exact c
  | junk=>trivial
  | own j off=>
    obtain⟨b,e,e'⟩:=c;refine⟨b,?_,e'⟩;rw[dF hu,if_neg]
    .exact e
    .rintro rfl;rw[hu]at e;cases e
  | row j=>
    obtain⟨z,e,e'⟩:=c
    by_cases hj:j=i
    .subst hj;rw[hu]at e;cases e;exact⟨.row v,by rw[dF hu,if_pos rfl],e'⟩
    .exact⟨z,by rw[dF hu,if_neg hj];exact e,e'⟩
  | jA j k sz off=>
    obtain⟨z,g,e,e',e2⟩:=c
    by_cases hj:j=i
    .subst hj;rw[hu]at e;cases e;exact⟨.row v,g,by rw[dF hu,if_pos rfl],e',e2⟩
    .exact⟨z,g,by rw[dF hu,if_neg hj];exact e,e',e2⟩
  | sub j k=>
    obtain⟨z,sJ,e,e'⟩:=c;exact⟨z,sJ,by rw[dF hu,if_neg (Nv hf)];exact e,e'⟩
  | kV j k m sz off=>
    obtain⟨z,sJ,g,e,e'⟩:=c;exact⟨z,sJ,g,by rw[dF hu,if_neg (Nv hf)];exact e,e'⟩
 .trivial
theorem dN.js3{us:Nat->Value} (hu:β[i]?=some (.row v)){x:SC} (c:dN h β x y):dN h (β.set i (.deep v us)) x y:=by
 cases x with
 | v _=>exact c
 | sl _ _=>exact c
 | fp _ _=>exact c
 | one _ _=>exact c
 | abs _=>exact c
 | junk=>trivial
 | own j off=>
   obtain⟨b,e,e'⟩:=c;refine⟨b,?_,e'⟩;rw[dF hu,if_neg]
   .exact e
   .rintro rfl;rw[hu]at e;cases e
 | row j=>
   obtain⟨z,e,e'⟩:=c
   by_cases hj:j=i
   .subst hj;rw[hu]at e;cases e;exact⟨.deep v us,by rw[dF hu,if_pos rfl],e'⟩
   .exact⟨z,by rw[dF hu,if_neg hj];exact e,e'⟩
 | jA j k sz off=>
   obtain⟨z,g,e,e',e2⟩:=c
   by_cases hj:j=i
   .subst hj;rw[hu]at e;cases e;exact⟨.deep v us,g,by rw[dF hu,if_pos rfl],e',e2⟩
   .exact⟨z,g,by rw[dF hu,if_neg hj];exact e,e',e2⟩
 | sub j k=>
   obtain⟨z,sJ,e,e'⟩:=c;refine⟨z,sJ,?_,e'⟩;rw[dF hu,if_neg]
   .exact e
   .rintro rfl;rw[hu]at e;cases e
 | kV j k m sz off=>
   obtain⟨z,sJ,g,e,e'⟩:=c;refine⟨z,sJ,g,?_,e'⟩;rw[dF hu,if_neg]
   .exact e
   .rintro rfl;rw[hu]at e;cases e
theorem mid(l:List SC):dV (λx=>x) l=l:=by
 induction l with
 | nil=>rfl
 | cons x l ih=>simp[dV,ih]
theorem al9(e:bF):mE (λx=>x) e=e:=by
 have m2:∀x:SV,mV (λx=>x) x=x:=by intro x;cases x<;>simp[mV,mid]
 cases e with
 | one x=>simp[mE,m2]
 | iO xs=>
   have:∀l:List SV,dV (mV λx=>x) l=l:=by
    intro l
    induction l with
    | nil=>rfl
    | cons x l ih=>simp[dV,ih,m2]
   simp[mE,this]
theorem Tn(hc:bJ P cx.ti) (aj:Sat N B h0 s h β w a) (hg:aI cx.gd h) (hd:kU N o.dst=true){x lo:Operand} (ho:o.op=.slice t x (some lo) none none)
 (hx:bH cx s [] x=some (.one (.c (.row i)))) (k:V4 cx s o.dst t i lo K):fO P N B h0 h w a o (gv s.gl []) K:=by
 have tr:gv s.gl []=true:=rfl;unfold V4 iq at k;split at k
 .rename_i el hde;have hu:=bD hc hde (by simp)
  split at k
  .cases k
  rename_i ie hie;have tie:=hc.get hie;split at k
  .cases k
  rename_i sh hsh;split at k
  .rename_i hz;rw[ay,ay,A8,A8]at hz;have hz1:sh.size=ie.size:=gJ hz.1;split at k
   .rename_i tt dW l1 hT;split at k
    .rename_i l hl;obtain⟨e1,e2⟩:=nK hl;subst e1;simp only at e2;subst e2;split at k
     .rename_i ik n hn;have eh:a.eval lo=.int ik n:=(aK aj hg tr hn:cZ h β (.c (.v (.int ik n))) (a.eval lo)).1.1;obtain⟨⟨b1,b2⟩,q⟩:=k;have cr:=(aK aj hg tr hx:cZ h β (.c (.row i)) (a.eval x));have fG:=bg hT tr;have hβ:=aj.ok.row_of fG cr.1;have jZ:lq h w tt dW l1 (a.eval x):=aj.ok.holds i _ _ fG hβ;have hi':i < β.length:=(fH.1 hβ).1;obtain⟨ad,cap,ev,hle⟩:∃(ad:Option Addr) (cap:Nat),a.eval x=.slice ad l1.length cap/\l1.length<=cap:=by
       rcases jZ with⟨e,e0⟩ | ⟨ra,e,e0⟩ | ⟨g,cap,cur,e,q1,q2,_⟩
       .exact⟨none,0,by rw[e,e0];rfl,by rw[e0];simp⟩
       .exact⟨some ra,0,by rw[e,e0];rfl,by rw[e0];simp⟩
       .exact⟨_,cap,e,q2⟩
      have run:(execOp a.eval o).run P w=.ok (.value (.slice (if cap=n.toNat then ad else ad.map (·.add (n.toNat * ie.size))) (l1.length - n.toNat) (cap - n.toNat))) w:=by
       have:=nI (P:=P) (w:=w) (isS:=true) (len:=l1.length) (cap:=cap) (lo:=some (.int ik n)) (hi:=none) (a:=n) (b:=l1.length) (.inr ⟨ik,rfl⟩) (.inl ⟨rfl,rfl⟩) (by omega) hle
       have r2:(Instr.sliceAt t (a.eval x) (some (.int ik n)) none none).run P w=.ok (.slice (if cap=n.toNat then ad else ad.map (·.add (n.toNat * ie.size))) (l1.length - n.toNat) (cap - n.toNat)) w:=by
        rw[ev];simp only[Instr.sliceAt,Instr.slice,Sem.run_bind,run_underlying hu,Result.andThen_ok,this,run_sizeOf tie,Sem.run_pure,A81]
       simp only[execOp,ho,Sem.run_bind,aaQ,Us,eh];rw[r2];rfl
      rw[<-hz1]at run;have hold:BL h w tt dW l1 n.toNat (a.eval x) (λ_=>.slice (if cap=n.toNat then ad else ad.map (·.add (n.toNat * dW.size))) (l1.length - n.toNat) (cap - n.toNat)):=⟨jZ,by omega,ad,cap,ev,hle,rfl⟩
      generalize hus:(λ_:Nat=>Value.slice (if cap=n.toNat then ad else ad.map (·.add (n.toNat * dW.size))) (l1.length - n.toNat) (cap - n.toNat))=us at hold
      have h0':us 0=.slice (if cap=n.toNat then ad else ad.map (·.add (n.toNat * dW.size))) (l1.length - n.toNat) (cap - n.toNat):=by rw[<-hus]
      rw[<-h0']at run;have ama:dD (us 0):=by rw[h0'];exact⟨rfl,rfl⟩
      have hC:∀x' y,dN h β x' y->dN h (β.set i (.deep (a.eval x) us)) x' y:=λ_ _ c=>c.js3 hβ
      have aP:Sat N B h0 { s with T:=dh s.T i ([],.Fe tt dW l1 n.toNat) } h (β.set i (.deep (a.eval x) us)) w a:=by
       refine⟨?_,?_,aj.gs,aj.defers,aj.sz,aj.gb,o7 aj⟩
       .show OK B h0 (eff s.gl (dh s.T i ([],.Fe tt dW l1 n.toNat))) h _ w;rw[wG];have:=aj.ok.Nw (f:=λx=>x) (r':=.Fe tt dW l1 n.toNat) (v:=.deep (a.eval x) us) (row:=none) (X:=λ_=>False) fG rfl hβ (bW w none) (λk e=>by cases e) (λb hb=>hb.elim)
         (λb hb=>by
          rw[aQ]at hb;rcases hb with hb | ⟨j,hb⟩
          .exact .inl (aW.2 hb)
          .exact .inl (aW.2 (hold.blk hb))) hC hold
        rwa [show(eff s.gl s.T).map (mR λx=>x)=eff s.gl s.T by rw[show(mR λx=>x)=id from funext ae3];simp]at this
       .intro t' G e' ht;obtain⟨z,q1,q2,q3⟩:=aj.env t' G e' ht;refine⟨z,q1,λhG=>?_,q3⟩
        have:=jw.map (f:=λx=>x) (FH.le.refl h) hC (q2 hG)
        rwa [al9]at this
      intro Nx Q next
      rw[if_pos tr];refine jI run (next _ _ _ _ _ q (FH.le.refl h) (λ_=>lX.refl w) (aP.put (G:=[]) (e:=.one (.c (.sub i 0))) (dI hd) rfl (λ_=>⟨?_,ama⟩) λhh=>by cases hh))
      refine⟨a.eval x,us,?_,rfl⟩;rw[pG hi']
     .cases k
    .cases k
   .cases k
  .cases k
 .cases k
theorem Tq{dT sT:TypeId}{i:TI} (k:aJ P el i) (hu:P.underlying dT=some (.slice el)){go dLen dCap:Nat}{b:Addr}{sLen sCap:Nat}{cur:Array Value}
 (hg:w.heap[g]?=some (.cells cur t (0,0))) (hn:cs.length=Nat.min sLen dLen * i.size) (hsrc:∀j v,cs[j]?=some v->w.cell? (b.add j)=some v) (hfit:go+cs.length<=cur.size) (h1:∀v∈cs,v.oneCell'=true):
 (Builtin.copy_ #[dT,sT] ty #[.slice (some ⟨g,go,none⟩) dLen dCap,.slice (some b) sLen sCap]).run P w=.ok (goInt (Nat.min sLen dLen)) (w.setRow g (cur.toList.take go++cs++cur.toList.drop (go+cs.length)).toArray):=by
 have hl:=run_loadCells_list (P:=P) w b cs hsrc;have hst:=run_storeCells_at P g go t cs 0 cur w hg (by simpa using hfit) h1
 simp only[RF,Eu]at hst;simp[Builtin.copy_,run_underlying hu,Builtin.lenOf,Builtin.firstCells,run_sizeOf k,<-hn,hl,hst]
theorem Tt(hc:bJ P cx.ti) (aj:Sat N B h0 s h β w a) (hg:aI cx.gd h) (hd:kU N o.dst=true){t':TypeId}{x y:Operand} (ho:o.op=.call c) (bU:c.callee=.builtin .copy) (ha:c.args=#[x,y]) (hat:c.argTypes=#[t,t'])
 (hx:bH cx s [] x=some (.one (.c (.sub i 0)))) (k:V5 cx s o.dst t i y K):fO P N B h0 h w a o (gv s.gl []) K:=by
 have tr:gv s.gl []=true:=rfl;unfold V5 iq at k;split at k
 .rename_i el hde;have hu:=bD hc hde (by simp)
  split at k
  .cases k
  rename_i ie hie;have tie:=hc.get hie;split at k
  .cases k
  rename_i sh hsh;split at k
  .rename_i hz;rw[ay,ay,A8,A8]at hz;have hz1:sh.size=ie.size:=gJ hz.1;split at k
   .rename_i tt dW l1 off hT;split at k
    .rename_i l hl;obtain⟨e1,e2⟩:=nK hl;subst e1;simp only at e2;subst e2;split at k
     .rename_i v hv;split at k
      .rename_i l2 hl2;obtain⟨⟨v0,us,hb,e0⟩,_⟩:=(aK aj hg tr hx:cZ h β (.c (.sub i 0)) (a.eval x));have cv:=aK aj hg tr hv;have fG:=bg hT tr;have hold:BL h w tt dW l1 off v0 us:=aj.ok.holds i _ _ fG hb;have src:=Bd aj hl2 cv;obtain⟨jZ,hoff,ad,cap,ev,hle,eus⟩:=hold;have ex:a.eval x=.slice (if cap=off then ad else ad.map (·.add (off * dW.size))) (l1.length - off) (cap - off):=by rw[<-e0,eus]
       generalize hR:(l1.take off++(l2.take (l1.length - off)++(l1.drop off).drop l2.length))=l' at k;have exec:∀{w':World},(Builtin.copy_ #[t,t'] o.type #[a.eval x,a.eval y]).run P w=.ok (goInt (Nat.min l2.length (l1.length - off))) w'->(execOp a.eval o).run P w=.ok (.value (goInt (Nat.min l2.length (l1.length - off)))) w':=by
        intro w' r0;simp only[execOp,ho,resolve,bU,ha,hat,invoke,builtin,Sem.run_bind,Sem.run_pure,Result.andThen_ok];simp[r0]
       have fin:∀{w':World}{row:Option Nat},Gb w w' row->(∀k,row=some k->au v0=some k)->(Builtin.copy_ #[t,t'] o.type #[a.eval x,a.eval y]).run P w=.ok (goInt (Nat.min l2.length (l1.length - off))) w' ->
        lq h w' tt dW l' v0->fO P N B h0 h w a o (gv s.gl []) K:=by
        intro w' row hgr hrw r0 hr;have hC:∀x' y',dN h β x' y'->dN h (β.set i (.row v0)) (tH i x') y':=λ_ _ c=>c.js2 hb
        have ok:OK B h0 (eff s.gl (dh (mT (tH i) s.T) i ([],.row tt dW l'))) h (β.set i (.row v0)) w':=by
         rw[fC,CZ];exact aj.ok.Nw (f:=tH i) (r':=.row tt dW l') (v:=.row v0) (X:=λ_=>False) fG rfl hb hgr (λk e=>aQ.2 (.inl (hrw k e))) (λb hb=>hb.elim) (λb hb=>.inl (aQ.2 (.inl (aW.1 hb)))) hC hr
        have gT:∀p∈dh (mT (tH i) s.T) i ([],ak.row tt dW l'),uK s.gl.length p.1=true:=by
         intro p hp;rw[fM]at hp;rcases GH hp with hp | hp
         .obtain⟨q,q1,q2⟩:=C9 hp;rw[<-q2];exact aj.gT q q1
         .subst hp;rfl
        exact lQ aj k rfl (by rw[ho];simp[quietly,bU]) (.inl (exec r0)) (FH.le.refl h) ((aj.map (FH.le.refl h) (λ_=>by rfl) hC ok gT).put (G:=[]) (e:=vI .i64 (Nat.min l2.length (l1.length - off))) (dI hd) rfl (λ_=>⟨⟨rfl,bG _ _⟩,bG _ _⟩) λhh=>by cases hh)
       have zero:∀(ab:Option Addr) (sC:Nat),a.eval y=.slice ab l2.length sC->(l1.length - off=0\/l2=[])->fO P N B h0 h w a o (gv s.gl []) K:=by
        intro ab sC ey h0';have hm:Nat.min l2.length (l1.length - off)=0:=by rcases h0' with e | e<;>simp[e]
        refine fin (bW w none) (λk e=>by cases e) ?_ ?_
        .rw[hm,ex,ey];exact FM tie hu hm
        .have:l'=l1:=by
          rw[<-hR];rcases h0' with e | e
          .rw[e,Rw,Rn (by omega:l1.length<=off),wo (by omega)];simp
          .subst e;simp
         rw[this];exact jZ
       have ey0:∃(ab:Option Addr) (sC:Nat),a.eval y=.slice ab l2.length sC:=by
        rcases src with⟨s1,s2⟩ | ⟨sa,sc,s1,s2⟩ | ⟨sb,so,sc,cs,s1,s2,s3⟩
        .exact⟨none,0,by rw[s1,s2];rfl⟩
        .exact⟨some sa,sc,by rw[s1,s2];rfl⟩
        .exact⟨_,sc,s1⟩
       obtain⟨ab0,sC0,ey0⟩:=ey0
       by_cases hz0:l1.length - off=0
       .exact zero _ _ ey0 (.inl hz0)
       by_cases hz2:l2=[]
       .exact zero _ _ ey0 (.inr hz2)
       rcases jZ with⟨e1,e2⟩ | ⟨ra,e1,e2⟩ | ⟨g,jo,cur,e1,q1,q2,q3,q4,q5⟩
       .rw[e2]at hz0;simp at hz0
       .rw[e2]at hz0;simp at hz0
       rcases src with⟨s1,s2⟩ | ⟨sa,sc,s1,s2⟩ | ⟨sb,so,sc,cs,s1,s2,s3⟩
       .exact absurd s2 hz2
       .exact absurd s2 hz2
       rw[e1]at ev;injection ev with ev1 ev2 ev3
       subst ev1;subst ev3;rw[if_neg (by omega)]at ex
       simp only[Us,add_lit,Eu]at ex;have hcs:=fK.size (λ_ _=>Rd.size dW) s2
       have lc:cur.toList.length=jo * dW.size:=by simpa using q4
       have hm1:l1.length * dW.size<=jo * dW.size:=xg _ q2;generalize hm:Nat.min l2.length (l1.length - off)=m at *;have hm2:m<=l2.length:=by rw[<-hm];exact Nat.min_le_left _ _
       have hm3:m<=l1.length - off:=by rw[<-hm];exact Nat.min_le_right _ _
       have hm4:m * dW.size<=l2.length * dW.size:=xg _ hm2;have hm5:(off+m) * dW.size<=l1.length * dW.size:=xg _ (by omega)
       rw[Jb]at hm5;have ht:=fK.sN (λ_ _=>Rd.size dW) s2 (a:=0) (b:=m) (Ja _) hm2
       simp only[MB,OY]at ht;have hlen:(cs.take (m * dW.size)).length=m * dW.size:=by rw[jY];omega
       have r0:=Tq (P:=P) (w:=w) (dT:=t) (sT:=t') (ty:=o.type) tie hu (g:=g) (go:=off * dW.size) (dLen:=l1.length - off) (dCap:=jo - off) (b:=⟨sb,so,none⟩) (sLen:=l2.length) (sCap:=sc) (cs:=cs.take (m * dW.size)) q1 (by rw[hlen,hm,hz1]) (λj v hj=>by
        rw[uH]at hj;split at hj
        .have:=s3 j v hj;have ea:(⟨sb,so,none⟩:Addr).add j=⟨sb,so+j,none⟩:=by unfold Addr.add;split<;>simp_all
         rw[ea];exact this
        .cases hj) (by rw[hlen];rw[<-Ro,lc];omega) (λv hv=>(fK.all (λ_ _=>Rd.one dW) ht v hv).2)
       rw[hm]at r0;refine fin (row:=some g) (iL w g _) (λk e=>by cases e;rw[e1];exact aS q3.1) (by rw[ex,s1];exact r0) ?_
       have el:l'=l1.take off++l2.take m++l1.drop (off+m):=by
        rw[<-hR,zY]
        congr 1
        rcases Nat.le_total l2.length (l1.length - off) with hh | hh
        .have:m=l2.length:=by rw[<-hm];exact A98 hh
         rw[this,wo hh,wo (oq _),Rx]
        .have:m=l1.length - off:=by rw[<-hm];exact Nat.min_eq_right hh
         rw[this,Rx,Rn (by omega),Rn (by omega)]
       rw[el];have ll:(l1.take off++l2.take m++l1.drop (off+m)).length=l1.length:=by simp only[jR,jY,xw];omega
       refine .inr (.inr ⟨g,jo,_,by rw[ll];exact e1,setRow_heap w g _ _ tt (0,0) q1,by rw[ll];exact q2,q3,?_,?_⟩)
       .simp only[EC,jR,jY,xw,lc,hlen];omega
       .rw[ll];have p1:=(fK.split (λ_ _=>Rd.size dW) (l:=l1.take off) (l':=l1.drop off) (by rw[Ur];exact q5)).1
        have p2:=(fK.split (λ_ _=>Rd.size dW) (l:=l1.take (off+m)) (l':=l1.drop (off+m)) (by rw[Ur];exact q5)).2
        have h3:=(p1.append ht).append p2;have k1:(l1.take off).length=off:=by rw[jY];omega
        have k2:(l1.take (off+m)).length=off+m:=by rw[jY];omega
        rw[k1,k2,Jb]at h3;have e3:List.take (l1.length * dW.size) (List.take (off * dW.size) cur.toList++cs.take (m * dW.size)++List.drop (off * dW.size+(cs.take (m * dW.size)).length) cur.toList)=List.take (off * dW.size) (List.take (l1.length * dW.size) cur.toList)++cs.take (m * dW.size)++List.drop (off * dW.size+m * dW.size) (List.take (l1.length * dW.size) cur.toList):=by
         rw[hlen];apply Ar;intro p;simp only[A86,uH,I9,jY,jR,lc]
         repeat' split
         all_goals first | rfl | omega | (congr 1;omega) | (exfalso;omega) | skip
        simp only at e3 ⊢;rw[e3];exact h3
      .cases k
     .cases k
    .cases k
   .cases k
  .cases k
 .cases k
theorem JM{h:FH}{β:List RV}:∀{cs:List Value},(∀v∈cs,dD v)->aO (λx y=>dN h β x y/\dD y) (cs.map SC.v) cs
 | [],_=>trivial
 | c :: cs,f=>⟨⟨⟨rfl,f c (by simp)⟩,f c (by simp)⟩,JM λv hv=>f v (by simp[hv])⟩
theorem JO{h:FH}{β:List RV}:∀{cs zs:List Value},aO (λx y=>dN h β x y/\dD y) (cs.map SC.v) zs->zs=cs
 | [],[],_=>rfl
 | c :: cs,z :: zs,⟨⟨c1,_⟩,a⟩=>by rw[JO a,c1.1]
theorem Tv(hc:bJ P cx.ti) (aj:Sat N B h0 s h β w a) (hg:aI cx.gd h) (hd:kU N o.dst=true){parts:Array (Nat×Operand)} (ho:o.op=.buildSlice t 1 parts)
 {x:Operand} (hp:tl parts=[(0,x)]){dW:Sh}{x1:dW.den} (hx:bH cx s [] x=some (.one (.dat dW x1))) (k:V6 cx s o.dst t dW x1 K):fO P N B h0 h w a o (gv s.gl []) K:=by
 have tr:gv s.gl []=true:=rfl;unfold V6 iq at k;split at k
 .rename_i el hde;have hu:=bD hc hde (by simp)
  split at k
  .cases k
  rename_i ie hie;have tie:=hc.get hie;split at k
  .cases k
  rename_i sh hsh;split at k
  .rename_i hz;rw[ay,ay,A8,A8]at hz;have hz1:sh.size=ie.size:=gJ hz.1;have hz2:1<=ie.size:=oZ hz.2.2;split at k
   .rename_i y hy;obtain⟨e1,e2⟩:=jH hy;subst e1;simp only at e2;subst e2;split at k
    .rename_i hbl;have hsz1:ie.size<=16777216:=oZ hbl;refine kG aj (G:=[]) rfl hd k λhgv=>?_
     obtain⟨_,cs,ey,rd⟩:=(aK aj hg tr hx:cZ h β (.dat dW x1) (a.eval x));have hl:cs.length=dW.size:=Rd.size dW rd;have h1:=Rd.one dW rd;have htl:(parts.map λ(p:Nat×Operand)=>(p.1,a.eval p.2)).toList=[(0,a.eval x)]:=by
      have:(parts.map λ(p:Nat×Operand)=>(p.1,a.eval p.2)).toList=(tl parts).map λp=>(p.1,a.eval p.2):=by cases parts;simp
      rw[this,hp];rfl
     have hf:sO (λj=>some (j * ie.size,ie.size)) ((gY 1 ie.zero).map SC.v) [(0,.agg (cs.map SC.v))]=some (cs.map SC.v):=by
      have e1:(gY 1 ie.zero)=ie.zero:=by simp[gY,fA]
      rw[e1];unfold sO xO mQ;simp only[MB,ay,aZ,A99,Eu];rw[show Nat.beq cs.length ie.size=true by rw[hl,hz1];exact Nat.beq_refl _,show Nat.ble ie.size ie.zero.length=true by rw[tie.ou];exact A69 (oq _)]
      simp only[Bool.and_self];unfold sO Sj;rw[show pR 0 (ie.zero.map SC.v)=[] by simp[jl],fA,fA,aZ,pU,A99]
      rw[Rn (by rw[A99,tie.ou];omega)]
      simp
     rw[<-AY SC.v (gY 1 ie.zero)]at hf;obtain⟨zs,g1,g2⟩:=pY (h:=h) (β:=β) (parts:=[(0,.agg (cs.map SC.v))]) (vals:=[(0,a.eval x)]) ⟨⟨rfl,cs,ey,JM h1⟩,trivial⟩ (gy λv hv=>tie.zone v (xW hv)) hf
     have ez:=JO g2;subst ez;have hz0:0 < ie.zero.length:=by rw[tie.ou];omega
     obtain⟨z,hz1',hz2'⟩:=sS tie w;have hc1:((Array.range (1 * ie.size)).map (λi=>z.cells[i % z.cells.size]!))=(gY 1 ie.zero).toArray:=by
      rw[hz2',<-tie.ou];exact qg hz0
     refine⟨.slice (some ⟨w.heap.size,0,none⟩) 1 1,w.alloc (.cells zs.toArray el),.row (.slice (some ⟨w.heap.size,0,none⟩) 1 1),?_,nG _ _ _,?_,?_,?_⟩
     .have hbig:¬(1 * ie.size > 2 ^ 24):=by omega
      have h0:¬1 * ie.size=0:=by omega
      simp only[execOp,ho,Instr.buildSlice,Sem.run_bind,run_underlying hu,Result.andThen_ok,run_sizeOf tie,hbig,MC,Sem.run_ite,Sem.run_pure,h0,hz1'];rw[htl,hc1,g1];simp only[Sem.run_bind,newRow,run_newObj,Result.andThen_ok,Sem.run_pure];rfl
     .intro b hb;rw[aW]at hb;simp[au]at hb;obtain⟨_,rfl⟩:=hb;simp
     .refine .inr (.inr ⟨w.heap.size,1,zs.toArray,rfl,lS _ _,oq _,⟨oq _,by simp[maxLen]⟩,by simp only[EC];omega,?_⟩)
      rw[wo (by simp;omega)]
      exact⟨zs,[],by simp,rd,rfl⟩
     .exact⟨⟨_,jJ (kH aj) _,rfl⟩,rfl,rfl⟩
    .cases k
   .cases k
  .cases k
 .cases k
theorem V7(hc:bJ P cx.ti) (aj:Sat N B h0 s h β w a) (hg:aI cx.gd h) (hd:kU N o.dst=true) (e:rtP cx s o K=some p) (k:p):fO P N B h0 h w a o (Region.wanted o (yielded ops a.tmps)) K:=by
 have hw:∀{b:Bool},o.guard=none->fO P N B h0 h w a o (gv s.gl []) K->fO P N B h0 h w a o (Region.wanted o (yielded ops a.tmps)) K:=by
  intro b hgd x;have:Region.wanted o (yielded ops a.tmps)=true:=by unfold Region.wanted;rw[hgd]
  rw[this];exact x
 unfold rtP at e;split at e
 .cases e
 split at e
 .cases e
 rename_i hgd;split at e
 .rename_i t ps ho;split at e
  .rename_i x hps;split at e
   .rename_i dW x1 hx;cases e;exact hw (b:=true) hgd (Tv hc aj hg hd ho hps hx k)
   .cases e
  .cases e
 .rename_i t x lo ho;split at e
  .rename_i i hx;split at e
   .cases e;exact hw (b:=true) hgd (Tn hc aj hg hd ho hx k)
   .cases e
  .cases e
 .rename_i c ho;split at e
  .rename_i bU;split at e
   .rename_i x y ha;split at e
    .rename_i i hx;split at e
     .split at e
      .rename_i t t' ht;cases e;exact hw (b:=true) hgd (Tt hc aj hg hd ho bU (gW ha) (gW ht) hx k)
      .cases e
     .cases e
    .cases e
   .cases e
  .cases e
 .cases e
end
def Wd(F:Fence):Prop:=F=Fence.wide\/∃l,F=Fence.wide.inRound l
theorem Wd.fn{F:Fence} (h:Wd F) (f:FuncId):F.fn f:=by rcases h with rfl | ⟨l,rfl⟩<;>trivial
theorem Wd.depth{F:Fence} (h:Wd F):F.depth=none:=by rcases h with rfl | ⟨l,rfl⟩<;>rfl
theorem Wd.calls{F:Fence} (hF:Wd F){P:Program}{f:FuncId}{args:Array Value}{R:Ending->World->Prop} (h:Calls P f args w R):CallsIn F n P f args w R:=by
 rcases hF with rfl | ⟨l,rfl⟩
 .exact callsIn_wide.2 h
 .exact(callsIn_wide.2 h:CallsIn Fence.wide n P f args w R).inRound l
abbrev Hz:Op->Bool
 | .defer _=>false
 | _=>true
abbrev Bg:List Oper->Bool
 | []=>true
 | o :: l=>dA (Hz o.op) (Bg l)
section
variable {F:Fence}{n:Nat}{P:Program}{ops:Array Oper}{md:Region.Mode}
theorem JQ(hF:Wd F){o:Oper} (hd:Hz o.op=true){Nx:Act->World->Prop}{Q Q':Exit->Act->World->Prop} (h:o.wp P a w Nx Hf):o.wpIn F n P a w Nx Q':=by
 refine⟨λf _=>hF.fn f,?_⟩
 rw[Oper.semAt_eq _ _ _ (λc hc=>by rw[hc]at hd;cases hd)]
 unfold Oper.wp at h;generalize (execOp a.eval o).run P w=r at *;cases r with
 | ok m w'=>
   cases m<;>simp only[Oper.upon]at h<;>simp only[Oper.uponIn]
   case enter f args=>
    refine⟨λhh=>(by rw[hF.depth]at hh;cases hh),hF.calls (h.mono λe w'' he=>?_)⟩
    cases e with
    | returned v=>exact he
    | panicked c=>exact False.elim he
    | outgrown=>exact wI he
   case row row args=>
    refine⟨λhh=>(by rw[hF.depth]at hh;cases hh),λc cs _=>?_⟩
    obtain⟨v,w'',hr,hs⟩:=h c cs;refine⟨v,w'',hr,?_⟩;have:StepsIn (Machine.fenced P Fence.wide) P (lone (Frame.ofRow P row args .normal) (c :: cs) w') (lone (c.finish v) cs w''):=stepsIn_wide.2 hs;rcases hF with rfl | ⟨l,rfl⟩
    .exact this
    .exact this
   all_goals first | exact h | exact h.elim
 | halt x w'=>cases x<;>simp only[Oper.upon]at h<;>first | exact h.elim | exact False.elim h
def wpL(P:Program) (ops:Array Oper) (R:Act->World->Prop):List Oper->Act->World->Prop
 | [],a,w=>R a w
 | o :: rest,a,w=>if Region.wanted o (yielded ops a.tmps)=true then o.wp P a w (wpL P ops R rest) Hf else wpL P ops R rest (a.put o.dst undef) w
theorem ND(hF:Wd F){R:Act->World->Prop}{Q:Exit->Act->World->Prop} (hR:∀a w,R a w->Q .normal a w):∀(l:List Oper) (k:Nat) (a:Act) (w:World),(∀j,l[j]?=ops[k+j]?)->Bg l=true->wpL P ops R l a w ->
 wpOpsIn F n P ops Q (List.range' k l.length) a w
 | [],k,a,w,_,_,h=>hR _ _ h
 | o :: l,k,a,w,hl,hn,h=>by
   have h0:ops[k]?=some o:=by simpa using(hl 0).symm
   simp only[Bg,ay,A8]at hn;have ih:∀a w,wpL P ops R l a w->wpOpsIn F n P ops Q (List.range' (k+1) l.length) a w:=λa w=>ND hF hR l (k+1) a w (λj=>by have:=hl (j+1);simpa[EF,UY 1 j]using this) hn.2
   simp only[y9,List.range'_succ,wpOpsIn,h0];unfold wpL at h;split
   .rename_i hw;rw[if_pos hw]at h;exact Oper.wpIn_mono ih (JQ (Q:=Q) hF hn.1 h)
   .rename_i hw;rw[if_neg hw]at h;exact⟨λf _=>hF.fn f,ih _ _ h⟩
theorem NG(hF:Wd F){R:Act->World->Prop} (hR:∀a w,R a w->Q .normal a w){id:Nat} (hn:Bg ops.toList=true) (h:wpL P ops R ops.toList a w):(Code.region id ops false).wpIn F n P Q a w:=
 wpIn_region (by
  have:=ND (n:=n) hF hR ops.toList 0 a w (λj=>by simp) hn h
  rw[List.range_eq_range'];simpa using this)
theorem Dh(hn:Bg ops.toList=true){o:Oper} (h:ops[i]?=some o):Hz o.op=true:=by
 have key:∀{l:List Oper},Bg l=true->o∈l->Hz o.op=true:=by
  intro l
  induction l with
  | nil=>intro _ hm;cases hm
  | cons x l ih=>
    intro hh hm;simp only[Bg,ay,A8]at hh;rcases mF.1 hm with rfl | hm
    .exact hh.1
    .exact ih hh.2 hm
 exact key hn (iJ (i:=i) (by simpa using h))
theorem agd(hF:Wd F) (hn:Bg ops.toList=true) (h:y7 P ops i K a w):wpOpIn F n P ops Q i K a w:=by
 unfold y7 at h;unfold wpOpIn;split
 .rename_i ho;simpa[ho]using h
 .rename_i o ho;simp only[ho]at h;split
  .rename_i hw;rw[if_pos hw]at h;exact JQ (Q:=Q) hF (Dh hn ho) h
  .rename_i hw;rw[if_neg hw]at h;exact⟨λf _=>hF.fn f,h⟩
theorem HY{sf:Nat->Bool} (hF:Wd F) (hn:Bg ops.toList=true){R:Act->World->Prop}{Q:Exit->Act->World->Prop} (hR:∀a w,R a w->Q .normal a w):∀(fuel:Nat) (listed:Array Bool) (a:Act) (w:World),
 anyI P md ops sf R fuel listed a w->wpAnyIn F n P md ops Q fuel listed a w
 | 0,_,_,_,h=>⟨h.1,hR _ _ h.2⟩
 | fuel+1,_,_,_,h=>⟨λe=>hR _ _ (h.1 e),λi hi=>agd hF hn (JF (λa w hh=>HY hF hn hR fuel _ a w hh.2) (h.2 i hi))⟩
theorem abq(hF:Wd F) (hn:Bg ops.toList=true){K:Act->Prop}{K':Act->World->Prop} (hK:∀a,K a->K' a w) (h:stOp P ops w i K a):wpOpIn F n P ops Q i K' a w:=by
 unfold stOp at h;unfold wpOpIn;split
 .rename_i ho;simp only[ho]at h;exact hK _ h
 .rename_i o ho;simp only[ho]at h;split
  .rename_i hw;rw[if_pos hw]at h;exact JQ (Q:=Q) hF (Dh hn ho) (Oper.wp_of_still hK h)
  .rename_i hw;rw[if_neg hw]at h;exact⟨λf _=>hF.fn f,hK _ h⟩
theorem PZ(hF:Wd F) (hn:Bg ops.toList=true){w:World}{R:Act->Prop}{Q:Exit->Act->World->Prop} (hR:∀a,R a->Q .normal a w):∀(fuel:Nat) (listed:Array Bool) (a:Act),
 wpAnyS P md ops w R fuel listed a->wpAnyIn F n P md ops Q fuel listed a w
 | 0,_,_,h=>⟨h.1,hR _ h.2⟩
 | fuel+1,_,_,h=>⟨λe=>hR _ (h.1 e),λi hi=>abq hF hn (λa hh=>PZ hF hn hR fuel _ a hh) (h.2 i hi)⟩
theorem yA(hF:Wd F) (hn:Bg ops.toList=true){id:Nat} (hm:P.follows .mixedOrders=true) (hB:Region.lexB .any ops=true)
 (h:wpStill P ops { w with drawn:=w.drawn+1 } (λa'=>Q .normal a' { w with drawn:=w.drawn+1 }) ops.toList a):(Code.region id ops true).wpIn F n P Q a w:=by
 simp only[Region.lexB,A8]at hB;refine wpIn_region_any hm (PZ (R:=λa'=>Q .normal a' { w with drawn:=w.drawn+1 }) hF hn (λ_ h=>h) _ _ _ ?_)
 have:=wpAnyS_lex (md:=.any) hB.1 ops.toList 0 (Array.replicate ops.size false) a (by simp) (by simpa using hB.2) h
 simpa using this
theorem wpIn_loop_ghost{c:Code} (I:Nat->Act->World->Prop) (n₀:Nat) (h₀:I n₀ a w)
 (round:∀m a w,I m a w->c.wpIn F n P (Exit.then (λa' w'=>∃n',n' < m/\I n' a' w') Q) a w):(Code.loop c).wpIn F n P Q a w:=by
 refine wpIn_loop (λa w=>∃m,I m a w) (λa w=>leastOf (λm=>I m a w)) ⟨n₀,h₀⟩ ?_
 intro a w hI;refine wpIn_mono (round _ a w (leastOf_spec hI).1) ?_;intro e a' w' hq;cases e with
 | normal=>
   obtain⟨n',iV,hI'⟩:=hq;exact show(∃m,I m a' w')/\leastOf (λm=>I m a' w') < leastOf (λm=>I m a w) from⟨⟨n',hI'⟩,Nat.lt_of_le_of_lt ((leastOf_spec ⟨n',hI'⟩).2 n' hI') iV⟩
 | exit id=>exact hq
 | goto l=>exact hq
 | ret=>exact hq
 | panic ch=>exact hq
 | outgrown=>exact hq
end
section
variable {P:Program}{ops:Array Oper}{md:Region.Mode}{n:Nat}{sf:Nat->Bool}
def o8(P:Program) (n:Nat) (ops:Array Oper) (i:Nat) (K:Act->World->Prop) (a:Act) (w:World):Prop:=
 match ops[i]? with
 | none=>K a w
 | some o=>if Region.wanted o (yielded ops a.tmps)=true then o.uponIn Fence.wide n P a K Hf ((execOp a.eval o).run P w) else K (a.put o.dst undef) w
theorem FN{o:Oper}{K':Act->World->Prop}{Q':Exit->Act->World->Prop} (h:∀a w,K a w->K' a w){r:Result Next} (hh:o.uponIn Fence.wide n P a K Hf r):o.uponIn Fence.wide n P a K' Q' r:=by
 cases r with
 | ok x w'=>
   cases x<;>simp only[Oper.uponIn]at hh ⊢
   case enter f args=>
    refine⟨hh.1,hh.2.mono λe w'' he=>?_⟩
    cases e with
    | returned v=>exact h _ _ he
    | panicked c=>exact False.elim he
    | outgrown=>exact wI he
   case row r args=>
    exact⟨hh.1,RowsIn.mono hh.2 λv w'' he=>h _ _ he⟩
   case round l f tmps Ez body=>
    refine⟨hh.1,RoundIn.mono hh.2 λe w'' he=>?_⟩
    cases e with
    | returned v=>exact h _ _ he
    | panicked c=>exact False.elim he
    | outgrown=>exact wI he
   all_goals first | exact h _ _ hh | exact hh.elim
 | halt x w'=>cases x<;>simp only[Oper.uponIn]at hh ⊢<;>exact False.elim hh
theorem FP{K':Act->World->Prop} (h:∀a w,K a w->K' a w) (hh:o8 P n ops i K a w):o8 P n ops i K' a w:=by
 unfold o8 at *;split
 .exact h _ _ (by simpa[*]using hh)
 .rename_i o ho;simp only[ho]at hh;split
  .rename_i hw;rw[if_pos hw]at hh;exact FN h hh
  .rename_i hw;rw[if_neg hw]at hh;exact h _ _ hh
theorem abr(hn:Bg ops.toList=true) (h:o8 P n ops i K a w):wpOpIn Fence.wide n P ops Q i K a w:=by
 unfold o8 at h;unfold wpOpIn;split
 .rename_i ho;simpa[ho]using h
 .rename_i o ho;simp only[ho]at h;split
  .rename_i hw;rw[if_pos hw]at h;refine⟨λf _=>trivial,?_⟩
   rw[Oper.semAt_eq _ _ _ (λc hc=>by have:=Dh hn ho;rw[hc]at this;cases this)]
   exact FN (λ_ _ hh=>hh) h
  .rename_i hw;rw[if_neg hw]at h;exact⟨λf _=>trivial,h⟩
theorem ae8(hn:Bg ops.toList=true) (h:y7 P ops i K a w):o8 P n ops i K a w:=by
 unfold y7 at h;unfold o8;split
 .rename_i ho;simpa[ho]using h
 .rename_i o ho;simp only[ho]at h;split
  .rename_i hw;rw[if_pos hw]at h;have h2:=(JQ (n:=n) (Q:=Hf) (Q':=Hf) (.inl rfl:Wd Fence.wide) (Dh hn ho) h).2
   rwa [Oper.semAt_eq _ _ _ (λc hc=>by have:=Dh hn ho;rw[hc]at this;cases this)]at h2
  .rename_i hw;rw[if_neg hw]at h;exact h
def H6(P:Program) (n:Nat) (md:Region.Mode) (ops:Array Oper) (sf:Nat->Bool) (R:Act->World->Prop):Nat->Array Bool->Act->World->Prop
 | 0,listed,a,w=>Region.ready md ops listed=[]/\R a w
 | fuel+1,listed,a,w=>(Region.ready md ops listed=[]->R a w) /\
   ∀i∈Region.ready md ops listed,o8 P n ops i (λa' w'=>(sf i=true->lX w w')/\H6 P n md ops sf R fuel (listed.setIfInBounds i true) a' w') a w
theorem P5(hn:Bg ops.toList=true){R:Act->World->Prop}{Q:Exit->Act->World->Prop} (hR:∀a w,R a w->Q .normal a w):∀(fuel:Nat) (listed:Array Bool) (a:Act) (w:World),
 H6 P n md ops sf R fuel listed a w->wpAnyIn Fence.wide n P md ops Q fuel listed a w
 | 0,_,_,_,h=>⟨h.1,hR _ _ h.2⟩
 | fuel+1,_,_,_,h=>⟨λe=>hR _ _ (h.1 e),λi hi=>abr hn (FP (λa w hh=>P5 hn hR fuel _ a w hh.2) (h.2 i hi))⟩
theorem YI.o8{ld:Bool}{w0:World}{i:Nat}{o:Oper}{v:Value}{a:Act} (hi:ops[i]?=some o) (hy:YI P ops ld w0 o v a){K:Act->World->Prop}{w:World} (hg:ld=true->lX w0 w)
 (h:K (a.put o.dst v) w):o8 P n ops i K a w:=by
 unfold Go.lH.o8;simp only[hi];rcases hy with⟨hw,hv⟩ | ⟨hw,rfl⟩
 .rw[if_pos hw,hv w hg];exact h
 .rw[if_neg (by rw[hw];simp)];exact h
theorem V8{ld:Bool}{w0:World}{oi oj:Oper} (hj:ops[j]?=some oj) (hap:oi.apart ops oj=true)
 (hsi:∀cs b,oi.op≠.select cs b) (hsj:∀cs b,oj.op≠.select cs b)
 (hy:YI P ops ld w0 oi v a) (h:o8 P n ops j K (a.put oi.dst v) w):
 o8 P n ops j (λa' w'=>YI P ops ld w0 oi v a'/\K (a'.put oi.dst v) w') a w:=by
 obtain⟨h1,h2,h3⟩:=Oper.apart_spec hap;have keep:∀(a:Act),YI P ops ld w0 oi v a->∀u,YI P ops ld w0 oi v (a.put oj.dst u):=λa hy u=>
  hy.of_same (execOp_put oi hsi a oj.dst u h3) (wanted_put oi a oj.dst u h3)
 have keepD:∀d,YI P ops ld w0 oi v { a with defers:=d :: a.defers }:=λd=>hy.of_same rfl rfl
 unfold o8 at *;simp only[hj]at *;rw[wanted_put oj a oi.dst v h1]at h;split
 .rename_i hw;rw[if_pos hw]at h;rw[execOp_put oj hsj a oi.dst v h1]at h;generalize (execOp a.eval oj).run P w=r at *;cases r with
  | ok m w'=>
    cases m<;>simp only[Oper.uponIn]at h ⊢
    case value u=>exact⟨keep a hy u,by rw[<-Act.put_comm a v u h2];exact h⟩
    case skip=>exact⟨keep a hy _,by rw[<-Act.put_comm a v undef h2];exact h⟩
    case defer d=>
     refine⟨(keep _ (keepD d) _),?_⟩;rw[<-Act.put_comm _ v undef h2,<-Act.put_defers];exact h
    case enter f args=>
     refine⟨h.1,h.2.mono λe w'' he=>?_⟩
     cases e with
     | returned u=>exact⟨keep a hy u,by rw[<-Act.put_comm a v u h2];exact he⟩
     | panicked c=>exact he
     | outgrown=>exact he
    case row r args=>
     refine⟨h.1,RowsIn.mono h.2 λu w'' he=>?_⟩
     exact⟨keep a hy u,by rw[<-Act.put_comm a v u h2];exact he⟩
    case round l f tmps Ez body=>
     refine⟨h.1,RoundIn.mono h.2 λe w'' he=>?_⟩
     cases e with
     | returned u=>exact⟨keep a hy u,by rw[<-Act.put_comm a v u h2];exact he⟩
     | panicked c=>exact he
     | outgrown=>exact he
    all_goals exact h
  | halt x w'=>cases x<;>simp only[Oper.uponIn]at h ⊢<;>exact h
 .rename_i hw;rw[if_neg hw]at h;exact⟨keep a hy _,by rw[<-Act.put_comm a v undef h2];exact h⟩
theorem NH{R:Act->World->Prop}{ld:Bool}{w0:World}{oi:Oper}{bl:List Nat} (hi:ops[i]?=some oi) (hsel:∀(j:Nat) (o:Oper) cs b,ops[j]?=some o->o.op≠.select cs b)
 (hq:sf i=true):
 ∀(fuel:Nat) (listed:Array Bool) (a:Act) (w:World),
   (∀j oj,ops[j]?=some oj->j≠i->listed.getD j true=false->(∀e∈oj.after,Region.binds md e=true->e.on≠i)->oi.apart ops oj=true) ->
   (ld=true->Waits md ops listed i bl/\∀j,j≠i->listed.getD j true=false->sf j=false->j∈bl) ->
   i∈Region.ready md ops listed->YI P ops ld w0 oi v a->(ld=true->lX w0 w) ->
   H6 P n md ops sf R fuel (listed.setIfInBounds i true) (a.put oi.dst v) w->H6 P n md ops sf R (fuel+1) listed a w:=by
 intro fuel
 induction fuel with
 | zero=>
   intro listed a w _ _ hr hy hg H;refine⟨λh=>(by rw[h]at hr;cases hr),λj hj=>?_⟩
   by_cases hji:j=i
   .subst hji;exact hy.o8 hi hg ⟨λ_=>lX.refl w,H⟩
   .have:=ready_mono hj hji;rw[H.1]at this;cases this
 | succ fuel ih=>
   intro listed a w hfree hbl hr hy hg H;refine⟨λh=>(by rw[h]at hr;cases hr),λj hj=>?_⟩
   by_cases hji:j=i
   .subst hji;exact hy.o8 hi hg ⟨λ_=>lX.refl w,H⟩
   .have h1:=H.2 j (ready_mono hj hji);obtain⟨hjun,oj,hoj,hall⟩:=mem_ready.1 hj;have Vw:=(mem_ready.1 hr).1;have hnot:∀e∈oj.after,Region.binds md e=true->e.on≠i:=λe he hb heq=>by
     have h1:=hall e he hb;rw[heq,uT Vw]at h1;cases h1
    have h2:=V8 hoj (hfree j oj hoj hji hjun hnot) (λcs b=>hsel i oi cs b hi) (λcs b=>hsel j oj cs b hoj) hy h1
    have hfree':∀k ok,ops[k]?=some ok->k≠i->(listed.setIfInBounds j true).getD k true=false ->
     (∀e∈ok.after,Region.binds md e=true->e.on≠i)->oi.apart ops ok=true:=λk ok hk hki hun hno=>by
     refine hfree k ok hk hki ?_ hno
     by_cases jh:j=k
     .subst jh;exact hjun
     .rw[getD_set_ne true jh]at hun;exact hun
    have Vx:ld=true->j∉bl:=λe hm=>FC Vw (hbl e).1 hm hj
    have hsj:ld=true->sf j=true:=λe=>by
     cases hs:sf j with
     | true=>rfl
     | false=>exact absurd ((hbl e).2 j hji hjun hs) (Vx e)
    have afR:ld=true->Waits md ops (listed.setIfInBounds j true) i bl/\∀k,k≠i->(listed.setIfInBounds j true).getD k true=false->sf k=false->k∈bl:=λe=>by
     refine⟨λk hk=>?_,λk hki hun hs=>?_⟩
     .obtain⟨g1,g2⟩:=(hbl e).1 k hk;refine⟨?_,g2⟩;rw[getD_set_ne true (λhh=>Vx e (by rw[hh];exact hk))];exact g1
     .refine(hbl e).2 k hki ?_ hs
      by_cases jh:j=k
      .subst jh;exact hjun
      .rw[getD_set_ne true jh]at hun;exact hun
    refine FP (λa' w' h3=>⟨h3.2.1,ih (listed.setIfInBounds j true) a' w' hfree' afR (ready_mono hr (Ne.symm hji)) h3.1 (λe=>(hg e).trans (h3.2.1 (hsj e))) ?_⟩) h2
    rw[Array.setIfInBounds_comm _ _ hji];exact h3.2.2
end
abbrev Bh(cx:Cx) (t:TypeId) (K:IntKind->TypeId->TI->Sh->Prop):Prop:=match oJ cx.ti t with
 | some i=>match i.desc with
   | .map kt et=>match oJ cx.ti kt with
     | some ik=>match ik.desc with
       | .int kk=>match oJ cx.ti et with
         | some ie=>match ie.ig with
           | some sh=>K kk et ie sh
           | none=>False
         | none=>False
       | _=>False
     | none=>False
   | _=>False
 | none=>False
abbrev V9(cx:Cx) (t:TypeId):Bool:=match oJ cx.ti t with
 | some i=>match i.desc with
   | .map _ _=>true
   | _=>false
 | none=>false
abbrev P6(cx:Cx) (s:St) (x:Operand) (kk:IntKind) (sh:Sh):Option (List (Int×sh.den)):=match bH cx s [] x with
 | some (.one (.c (.one s' d)))=>jd s' d (.mp kk sh)
 | some (.one (.c (.row i)))=>match dU s.T i with
   | some ([],.mp kk' sh' l)=>jd (.mp kk' sh') l (.mp kk sh)
   | _=>none
 | some (.one (.c (.v (.map none))))=>some []
 | _=>none
abbrev Wh(cx:Cx) (s:St) (x:Operand) (kk:IntKind):Option Int:=match bH cx s [] x with
 | some (.one (.c (.v (.int k n))))=>match Nat.beq (BP k) (BP kk) with
   | true=>some n
   | false=>none
 | _=>none
def Di{α:Type} (l:List (Int×α)) (n:Int) (z:α):α:=(Au l n).getD z
def NI{α:Type} (l:List (Int×α)) (n:Int):Bool:=(Au l n).isSome
abbrev H7(cx:Cx) (s:St) (o:Op) (K:bF->Prop):Option Prop:=match o with
 | .lookup t m x ok=>some (Bh cx t λkk _ _ sh=>match P6 cx s m kk sh with
   | none=>False
   | some l=>match Wh cx s x kk with
     | none=>False
     | some n=>match ok with
       | false=>K (.one (gV sh (Di l n (pX sh))))
       | true=>K (.iO [gV sh (Di l n (pX sh)),.c (.v (.bool (NI l n)))]))
 | .call c=>match c.callee with
   | .builtin .len=>match tl c.argTypes with
     | [t]=>match V9 cx t with
       | false=>none
       | true=>some (Bh cx t λkk _ _ sh=>match tl c.args with
         | [m]=>match P6 cx s m kk sh with
           | none=>False
           | some l=>K (.one (.c (.v (.int .i64 l.length))))
         | _=>False)
     | _=>none
   | _=>none
 | _=>none
abbrev agf(cx:Cx) (s:St) (o:Oper) (K:St->Prop):Option Prop:=none
section
variable {cx:Cx}{P:Program}{N:Nat}{B:Base}{h0:FH}{s:St}{h:FH}{β:List RV}{w:World}{a:Act}{o:Oper}{K:St->Prop}
structure agh (P:Program) (t:TypeId) (kk:IntKind) (et:TypeId) (ie:TI) (sh:Sh):Prop where
 und:∃kt,P.underlying t=some (.map kt et)/\P.underlying kt=some (.int kk)
 ei:aJ P et ie
 es:ie.ig=some sh
theorem Dj(hc:bJ P cx.ti){K:IntKind->TypeId->TI->Sh->Prop} (k:Bh cx t K):∃kk et ie sh,K kk et ie sh/\agh P t kk et ie sh:=by
 unfold Bh at k;split at k
 .rename_i i hi;split at k
  .rename_i kt et hd;split at k
   .rename_i ik hik;split at k
    .rename_i kk hkk;split at k
     .rename_i ie hie;split at k
      .rename_i sh hsh;exact⟨kk,et,ie,sh,k,⟨kt,(hc.get hi).EK hd rfl,(hc.get hik).EK hkk rfl⟩,hc.get hie,hsh⟩
      .cases k
     .cases k
    .cases k
   .cases k
  .cases k
 .cases k
theorem abt{et:TypeId}{ie:TI}{sh:Sh} (k:aJ P et ie) (hs:ie.ig=some sh) (h:FH) (w:World):∃z,(zeroValue et).run P w=.ok z w/\DW h sh z (pX sh):=by
 obtain⟨inf,z,h1,h2,h3,h4,h5⟩:=k.info;obtain⟨r,ha⟩:=k.U8 sh hs;refine⟨z,by simp[zeroValue,typeInfo,h1,h4],ie.zero,?_,xU r⟩
 have hz:=k.ajQ inf z h1 h4;rw[<-ha]at hz;unfold mkV;cases z with
 | agg cs=>
   have hz:sh.isAgg=true:=hz.symm;rw[hz,if_pos rfl];simp[Value.cells]at h5;rw[h5]
 | _=>
   have hz:sh.isAgg=false:=hz.symm;rw[hz,if_neg (by simp)]
   have h6:=oh Array.toList h5;simp only[Value.cells]at h6;rw[show ie.zero=_ from h6.symm];rfl
theorem DW.cn{sh:Sh}{d:sh.den} (x:DW h sh y d):cZ h β (gV sh d) y:=by
 obtain⟨cs,rfl,r⟩:=x;exact jm sh r
def Wi(h:FH) (w:World) (kk:IntKind) (sh:Sh) (y:Value) (l:List (Int×sh.den)):Prop:=
 (y=.map none/\l=[])\/∃b es c,y=.map (some b)/\w.heap[b]?=some (.map es c)/\wu kk (DW h sh) es c l
theorem agi{k1:IntKind}{s1 sh:Sh}{l1:List (Int×s1.den)}{l:List (Int×sh.den)} (e:jd (.mp k1 s1) l1 (.mp kk sh)=some l):k1=kk/\∃e':s1=sh,(e'▸l1:List (Int×sh.den))=l:=by
 obtain⟨e1,e2⟩:=jH e;cases e1;exact⟨rfl,rfl,e2⟩
theorem JR(aj:Sat N B h0 s h β w a) (hg:aI cx.gd h){x:Operand}{sh:Sh}{l:List (Int×sh.den)} (e:P6 cx s x kk sh=some l):Wi h w kk sh (a.eval x) l:=by
 have tr:gv s.gl []=true:=rfl;unfold P6 at e;split at e
 .rename_i s' d hx;have c:cZ h β (.c (.one s' d)) (a.eval x):=aK aj hg tr hx;obtain⟨e1,e2⟩:=jH e;subst e1;simp only at e2;subst e2;obtain⟨v,hv,r⟩:=c.1;have hv:a.eval x=v:=by simpa using hv
  rw[hv];rcases r with r | ⟨b,es,cc,r1,r2,r3⟩
  .exact .inl r
  .exact .inr ⟨b,es,cc,r1,aaS (aj.ok.hw b 0 _ r2),r3⟩
 .rename_i i hx;have c:cZ h β (.c (.row i)) (a.eval x):=aK aj hg tr hx;split at e
  .rename_i kk' sh' l' hT;obtain⟨e1,e2,e3⟩:=agi e;subst e1;subst e2;simp only at e3;subst e3;exact .inr (aj.ok.aeZ (bg hT tr) c.1)
  .cases e
 .rename_i hx;have c:cZ h β (.c (.v (.map none))) (a.eval x):=aK aj hg tr hx;cases e;exact .inl ⟨c.1.1,rfl⟩
 .cases e
theorem Wj(aj:Sat N B h0 s h β w a) (hg:aI cx.gd h){x:Operand}{n:Int} (e:Wh cx s x kk=some n):a.eval x=.int kk n:=by
 unfold Wh at e;split at e
 .rename_i k m hx;have c:cZ h β (.c (.v (.int k m))) (a.eval x):=aK aj hg (show gv s.gl []=true from rfl) hx
  split at e
  .rename_i hk;cases e;rw[c.1.1,oG hk]
  .cases e
 .cases e
theorem H8{kt:TypeId}{n:Int} (hk:P.underlying kt=some (.int kk)) (b:Bool) (w:World):(Instr.checkKey b 10000 kt (.int kk n)).run P w=.ok () w:=
 MapKept.run_checkKey (n:=9999) (k:=.int kk n) hk (show kk=kk from rfl) b
theorem Wn{et:TypeId}{ie:TI}{sh:Sh} (mt:agh P t kk et ie sh){l:List (Int×sh.den)} (m:Wi h w kk sh y l) (n:Int) (ok:Bool):
 ∃v,DW h sh v (Di l n (pX sh))/\(Instr.lookup t y (.int kk n) ok).run P w=.ok (if ok then .tuple #[v,.bool (NI l n)] else v) w:=by
 obtain⟨kt,hu,hk⟩:=mt.und;obtain⟨z,hz,dz⟩:=abt mt.ei mt.es h w;rcases m with⟨rfl,rfl⟩ | ⟨b,es,c,rfl,hb,m⟩
 .refine⟨z,dz,?_⟩;have hf:=MapKept.run_findKey (P:=P) (w:=w) (k:=.int kk n) (l:=[]) hk rfl;simp[Instr.lookup,run_underlying hu,H8 hk,hf,hz,NI,Au,Result.andThen]
 .rcases m.find kk n with⟨j,e,d,e1,e2,e3,e4,e5⟩ | ⟨e1,e2⟩
  .refine⟨e.val,by rw[show Di l n (pX sh)=d by simp[Di,e2]];exact e3,?_⟩
   have hf:=MapKept.run_findKey (P:=P) (w:=w) hk e5;simp[Instr.lookup,run_underlying hu,H8 hk,MapKept.run_getObj_map hb,hf,NI,e2,Result.andThen]
  .refine⟨z,by rw[show Di l n (pX sh)=pX sh by simp[Di,e1]];exact dz,?_⟩
   have hf:=MapKept.run_findKey (P:=P) (w:=w) hk e2;simp[Instr.lookup,run_underlying hu,H8 hk,MapKept.run_getObj_map hb,hf,hz,NI,e1,Result.andThen]
theorem Wp{et:TypeId}{ie:TI}{sh:Sh} (mt:agh P t kk et ie sh){l:List (Int×sh.den)} (m:Wi h w kk sh y l){ts:Array TypeId} (ht:ts=#[t]):
 (Builtin.len_ ts ty #[y]).run P w=.ok (.int .i64 l.length) w:=by
 obtain⟨kt,hu,hk⟩:=mt.und;subst ht;rcases m with⟨rfl,rfl⟩ | ⟨b,es,c,rfl,hb,m⟩
 .simp[Builtin.len_,run_underlying hu,goInt]
 .simp[Builtin.len_,run_underlying hu,MapKept.run_getObj_map hb,goInt,m.len]
theorem JU(hc:bJ P cx.ti) (aj:Sat N B h0 s h β w a) (hg:aI cx.gd h){K:bF->Prop} (hp:H7 cx s o.op K=some p) (k:p):
 ∃e v,K e/\(execOp a.eval o).run P w=.ok (.value v) w/\jw h β e v:=by
 unfold H7 at hp;split at hp
 .rename_i t m x okb ho;cases hp;obtain⟨kk,et,ie,sh,k,mt⟩:=Dj hc k;split at k
  .cases k
  rename_i l hl;split at k
  .cases k
  rename_i n hn;have hm:=JR aj hg hl;have hx:=Wj aj hg hn;obtain⟨v,dv,run⟩:=Wn mt hm n okb;have aj3:(execOp a.eval o).run P w=.ok (.value (if okb then .tuple #[v,.bool (NI l n)] else v)) w:=by
   simp only[execOp,ho,hx,Sem.run_bind,run,Result.andThen_ok,Sem.run_pure]
  split at k
  .exact⟨_,_,k,aj3,dv.cn⟩
  .exact⟨_,_,k,aj3,[v,.bool (NI l n)],rfl,dv.cn,⟨⟨rfl,rfl,rfl⟩,rfl,rfl⟩,trivial⟩
 .rename_i c ho;split at hp
  .rename_i bU;split at hp
   .rename_i t ht;split at hp
    .cases hp
    .cases hp;obtain⟨kk,et,ie,sh,k,mt⟩:=Dj hc k;split at k
     .rename_i m hm0;split at k
      .cases k
      rename_i l hl;have hm:=JR aj hg hl;refine⟨_,_,k,?_,⟨⟨rfl,rfl,rfl⟩,rfl,rfl⟩⟩;simp[execOp,ho,resolve,bU,invoke,builtin,gW hm0,Wp mt hm (gW ht)]
     .cases k
   .cases hp
  .cases hp
 .cases hp
theorem aO.aa2{α β:Type}{R:α->β->Prop}:∀{l:List α}{m:List β}{a:α},aO R l m->a∈l->∃b∈m,R a b
 | [],_,_,_,ha=>by cases ha
 | x :: l,y :: m,a,⟨h1,h2⟩,ha=>by
   rcases mF.1 ha with rfl | ha
   .exact⟨y,by simp,h1⟩
   .obtain⟨b,hb,r⟩:=aO.aa2 h2 ha;exact⟨b,by simp[hb],r⟩
theorem abu(hc:bJ P cx.ti) (aj:Sat N B h0 s h β w a) (hg:aI cx.gd h) (hd:kU N o.dst=true) (hp:agf cx s o K=some p) (k:p):o.guard=none/\Af P N B h0 h w a o true K:=by
 unfold agf at hp;cases hp
end
end Go.lH
