/- Part 3 of the proof. Conditions: the rows'. -/
import Derived.Test.YtjhenjhcbcalpaaGreatDoorB2
import Derived.LoopNIn
import Derived.Deep.LoopGhost
import Derived.Laws.IdiomRangeMap
set_option linter.unusedSimpArgs false
set_option linter.unusedVariables false
set_option maxRecDepth 1000000
set_option maxHeartbeats 8000000
namespace Go.jf
open Go Go.RowKit
variable {h h':FH}{β:List RV}{w w':World}{i j so g off k n:Nat}{v y:Value}{T:List ay}{r:ay}{t tt ty el:TypeId}{e:Sh}{hs:List Nat}{cs:List Value}{p:Prop}{c:Call}{ops:Array Oper}{a:Act}{Q:Exit->Act->World->Prop}{K:Act->World->Prop}{kk:IntKind}
abbrev SC.amU(i:Nat):SC->Bool
 | .sub j _=>!Nat.beq i j
 | .lQ j _ _ _ _=>!Nat.beq i j
 | _=>true
abbrev uI(i:Nat) (x:SC):SC:=match SC.amU i x with
 | true=>x
 | false=>.junk
abbrev mV(f:SC->SC):SV->SV
 | .c x=>.c (f x)
 | .agg xs=>.agg (fE f xs)
 | v=>v
abbrev mE(f:SC->SC):aZ->aZ
 | .one v=>.one (mV f v)
 | .gV vs=>.gV (fE (mV f) vs)
abbrev mR(f:SC->SC):ay->ay
 | .blk t cs=>.blk t (fE f cs)
 | r=>r
abbrev yT(f:SC->SC):List (Nat×Gd×aZ)->List (Nat×Gd×aZ)
 | []=>[]
 | (k,g,e) :: l=>(k,g,mE f e) :: yT f l
abbrev mT(f:SC->SC):List (Gd×ay)->List (Gd×ay)
 | []=>[]
 | (g,r) :: l=>(g,mR f r) :: mT f l
theorem D9{R R':SC->Value->Prop}{f:SC->SC} (hR:∀x y,R x y->R' (f x) y):∀{xs:List SC}{ys:List Value},aS (λx y=>R x y/\dF y) xs ys->aS (λx y=>R' x y/\dF y) (fE f xs) ys
 | [],[],_=>trivial
 | _ :: _,_ :: _,⟨a,b⟩=>⟨⟨hR _ _ a.1,a.2⟩,D9 hR b⟩
theorem dh.map{β':List RV}{f:SC->SC} (le:h.le h') (hR:∀x y,dY h β x y->dY h' β' (f x) y):∀{x:SV}{y:Value},dh h β x y->dh h' β' (mV f x) y
 | .c _,_,c=>⟨hR _ _ c.1,c.2⟩
 | .agg _,_,⟨ys,e,a⟩=>⟨ys,e,D9 hR a⟩
 | .dat s _,_,⟨g,cs,e,r⟩=>⟨g,cs,e,r.mono le s⟩
 | .und,_,c=>c
theorem jF.map{h h':FH}{β β':List RV}{f:SC->SC} (le:h.le h') (hR:∀x y,dY h β x y->dY h' β' (f x) y):∀{x:aZ}{y:Value},jF h β x y->jF h' β' (mE f x) y
 | .one _,_,c=>dh.map le hR c
 | .gV _,_,⟨ys,e,a⟩=>⟨ys,e,go a⟩
where
 go:∀{xs:List SV}{ys:List Value},aS (dh h β) xs ys->aS (dh h' β') (fE (mV f) xs) ys
  | [],[],_=>trivial
  | _ :: _,_ :: _,⟨a,b⟩=>⟨dh.map le hR a,go b⟩
theorem Holds.map{β':List RV}{f:SC->SC} (le:h.le h') (hR:∀x y,dY h β x y->dY h' β' (f x) y):∀{r:ay}{v:RV},Holds h β w r v->(r.live=true->∀b,v.has b->w'.heap[b]?=w.heap[b]?)->Holds h' β' w' (mR f r) v
 | .blk _ _,.blk b,⟨ys,e,a⟩,k=>⟨ys,by rw[k rfl b (kZ.2 rfl)];exact e,D9 hR a⟩
 | .row _ _ _,.row v,x,k=>lV.move le x λb hb=>k rfl b (bg.2 hb)
 | .obj _ s _,.blk b,⟨ys,e,r⟩,k=>⟨ys,by rw[k rfl b (kZ.2 rfl)];exact e,r.mono le s⟩
 | .deep _ _ _ _ _ _ _ _,.deep _ _,x,k=>fD.move le x (k rfl)
 | .mp k' s l,.row v,x,k=>Holds.move (r:=.mp k' s l) (v:=.row v) (β':=β') (β:=β') le (Ext.refl _) x k
 | .NI k' s l n,.deep v us,x,k=>Holds.move (r:=.NI k' s l n) (v:=.deep v us) (β':=β') (β:=β') le (Ext.refl _) x k
 | .it k' s l dn,.blk v,x,k=>Holds.move (r:=.it k' s l dn) (v:=.blk v) (β':=β') (β:=β') le (Ext.refl _) x k
 | .Kv _ _ _ _,.row v,x,k=>TlH.move x λb hb=>k rfl b (bg.2 hb)
 | .Gp _ _ _ _,.deep _ _,x,k=>Dn.move le x (k rfl)
 | .gone,_,_,_=>trivial
theorem pX(f:SC->SC) (r:ay):(mR f r).live=r.live:=by cases r<;>rfl
theorem Xl{f:SC->SC}:∀{l:List (Nat×Gd×aZ)}{t:Nat}{G:Gd}{e:aZ},iF (yT f l) t=some (G,e)->∃e0,iF l t=some (G,e0)/\e=mE f e0
 | [],_,_,_,h=>by simp[yT,iF]at h
 | (k,g,e0) :: l,t,G,e,h=>by
   simp only[yT]at h;rw[bC]at h ⊢
   split at h
   .rename_i hk;cases h;exact⟨e0,by rw[if_pos hk],rfl⟩
   .rename_i hk;rw[if_neg hk];exact Xl h
theorem Xm{f:SC->SC}:∀{l:List (Nat×Gd×aZ)}{t:Nat}{G:Gd}{e:aZ},iF l t=some (G,e)->iF (yT f l) t=some (G,mE f e)
 | [],_,_,_,h=>by simp[iF]at h
 | (k,g,e0) :: l,t,G,e,h=>by
   simp only[yT];rw[bC]at h ⊢
   split at h
   .rename_i hk;cases h;rw[if_pos hk]
   .rename_i hk;rw[if_neg hk];exact Xm h
theorem Ea(gl:List Bool) (f:SC->SC):∀{T:List (Gd×ay)},eff gl (mT f T)=(eff gl T).map (mR f)
 | []=>rfl
 | (g,r) :: l=>by
   simp only[mT,eff,TT,Ea gl f (T:=l)]
   congr 1
   cases gv gl g<;>rfl
theorem Eb{f:SC->SC}{p:Gd×ay}:∀{T:List (Gd×ay)},p∈mT f T->∃q∈T,q.1=p.1
 | [],h=>by simp[mT]at h
 | (g,r) :: t,h=>by
   simp only[mT,ni]at h;rcases h with rfl | h
   .exact⟨(g,r),by simp,rfl⟩
   .obtain⟨q,h1,h2⟩:=Eb h;exact⟨q,by simp[h1],h2⟩
section
variable {cx:Cx}{P:Program}{N:Nat}{B:Base}{h0:FH}{s:St}{h:FH}{β:List RV}{w:World}{a:Act}{o:Oper}{K:St->Prop}
theorem Sat.map(aj:Sat N B h0 s h β w a){f:SC->SC}{T':List (Gd×ay)}{h':FH}{β':List RV}{w':World} (le:h.le h') (hf:∀b,f (.v (.bool b))=.v (.bool b)) (hR:∀x y,dY h β x y->dY h' β' (f x) y)
 (ok:OK B h0 (eff s.gl T') h' β' w') (gT:∀p∈T',vk s.gl.length p.1=true):Sat N B h0 { s with T:=T',env:=yT f s.env } h' β' w' a:=by
 refine⟨ok,?_,?_,aj.defers,aj.sz,?_,gT⟩
 .intro t G e ht;obtain⟨e0,h1,rfl⟩:=Xl ht;obtain⟨z,q1,q2,q3⟩:=aj.env t G e0 h1;exact⟨z,q1,λhG=>jF.map le hR (q2 hG),q3⟩
 .intro d i hi;obtain⟨G,b,q1,q2⟩:=aj.gs d i hi;have:=Xm (f:=f) q1;simp only[mE,mV,hf]at this;exact⟨G,b,this,q2⟩
 .intro t G e ht;obtain⟨e0,h1,rfl⟩:=Xl ht;exact aj.gb t G e0 h1
theorem dM{u v:RV} (hu:β[i]?=some u):(β.set i v)[j]?=if j=i then some v else β[j]?:=by
 by_cases hj:j=i
 .subst hj;rw[if_pos rfl,qA (A8.1 hu).1]
 .rw[if_neg hj,mX (Ne.symm hj)]
theorem OI(h:(!Nat.beq i j)=true):j≠i:=by
 rintro rfl;simp at h
theorem dY.js{us us':Nat->Value}{u:RV} (hu:β[i]?=some u) (hd:u=.deep v us\/u=.row v){x:SC} (c:dY h β x y):dY h (β.set i (.deep v us')) (uI i x) y:=by
 have hsl:u.sl=some v:=by rcases hd with rfl | rfl<;>rfl
 have hbl:u.block=(RV.deep v us').block:=by rcases hd with rfl | rfl<;>rfl
 have nb:∀b,u≠.blk b:=by rcases hd with rfl | rfl<;>intro b e<;>cases e
 unfold uI;split
 .rename_i hf;cases x with
  | v _=>exact c
  | sl _ _=>exact c
  | fp _ _=>exact c
  | one _ _=>exact c
  | abs _=>exact c
  | junk=>trivial
  | own j off=>
    obtain⟨b,e,e'⟩:=c;refine⟨b,?_,e'⟩;rw[dM hu,if_neg]
    .exact e
    .rintro rfl;rw[hu]at e;cases e;exact nb b rfl
  | row j=>
    obtain⟨z,e,e'⟩:=c
    by_cases hj:j=i
    .subst hj;rw[hu]at e;cases e;exact⟨.deep v us',by rw[dM hu,if_pos rfl],by rw[hsl]at e';exact e'⟩
    .exact⟨z,by rw[dM hu,if_neg hj];exact e,e'⟩
  | jS j k sz off=>
    obtain⟨z,g,e,e',e2⟩:=c
    by_cases hj:j=i
    .subst hj;rw[hu]at e;cases e;exact⟨.deep v us',g,by rw[dM hu,if_pos rfl],by rw[<-hbl];exact e',e2⟩
    .exact⟨z,g,by rw[dM hu,if_neg hj];exact e,e',e2⟩
  | sub j k=>
    obtain⟨z,uj,e,e'⟩:=c;exact⟨z,uj,by rw[dM hu,if_neg (OI hf)];exact e,e'⟩
  | lQ j k m sz off=>
    obtain⟨z,uj,g,e,e'⟩:=c;exact⟨z,uj,g,by rw[dM hu,if_neg (OI hf)];exact e,e'⟩
 .trivial
theorem OK.OJ(ok:OK B h0 T h β w){r':ay}{u v:RV}{f:SC->SC}
 (hT:T[i]?=some r) (hl:r.live=true) (hu:β[i]?=some u){row:Option Nat} (hg:Gb w w' row) (kD:∀k,row=some k->u.has k){X:Nat->Prop}
 (hX:∀b,X b->B.al b/\b < w.heap.size/\(∀o,h b o=none)/\∀(j:Nat) (rj:ay) (vj:RV),j≠i->T[j]?=some rj->rj.live=true->β[j]?=some vj->¬vj.has b)
 (hv:∀b,v.has b->u.has b\/X b\/(w.heap.size<=b/\b < w'.heap.size)) (hC:∀x y,dY h β x y->dY h (β.set i v) (f x) y) (hold:Holds h (β.set i v) w' r' v):
 OK B h0 ((T.map (mR f)).set i r') h (β.set i v) w':=by
 have hi:i < T.length:=(A8.1 hT).1;have hi':i < β.length:=by rw[ok.len];exact hi
 have Dp:∀b,u.has b->B.al b/\b < w.heap.size/\∀o,h b o=none:=λb hb=>ok.own i r u b hT hl hu hb
 have nf:∀b,w.heap.size<=b->∀o,h b o=none:=by
  intro b hb o;cases hh:h b o with
  | none=>rfl
  | some x=>have:=oz (ok.hw b o x hh);omega
 have Wu:∀b,v.has b->B.al b/\b < w'.heap.size/\∀o,h b o=none:=by
  intro b hb;rcases hv b hb with hb' | hb' | ⟨h1,h2⟩
  .obtain⟨a1,a2,a3⟩:=Dp b hb';exact⟨a1,NP a2 hg.size,a3⟩
  .obtain⟨a1,a2,a3,_⟩:=hX b hb';exact⟨a1,NP a2 hg.size,a3⟩
  .exact⟨B.up _ (pq ok.below.size h1),h2,nf b h1⟩
 have apart:∀j rj vj b,j≠i->T[j]?=some rj->rj.live=true->β[j]?=some vj->vj.has b->v.has b->False:=by
  intro j rj vj b hj ej lj jr hb hb2;rcases hv b hb2 with hb' | hb' | ⟨h1,h2⟩
  .exact hj (ok.inj j i rj r vj u b ej lj hT hl jr hu hb hb')
  .exact(hX b hb').2.2.2 j rj vj hj ej lj jr hb
  .have:=(ok.own j rj vj b ej lj jr hb).2.1;omega
 have get:∀{j:Nat}{rj:ay},j≠i->((T.map (mR f)).set i r')[j]?=some rj->∃r0,T[j]?=some r0/\rj=mR f r0:=by
  intro j rj hj e;rw[mX (Ne.symm hj),Dj]at e;cases hh:T[j]? with
  | none=>rw[hh]at e;cases e
  | some r0=>rw[hh]at e;cases e;exact⟨r0,rfl,rfl⟩
 exact {
  below:=ok.below.grown hg.togrownBy λk e=>(Dp k (kD k e)).1
  dr:=pq ok.dr hg.dr
  len:=by simp[ok.len]
  holds:=by
   intro j rj vj ej jr
   by_cases hj:j=i
   .subst hj;rw[qA (by simpa using hi)]at ej
    rw[qA hi']at jr;cases ej;cases jr;exact hold
   .obtain⟨r0,e0,rfl⟩:=get hj ej;rw[mX (Ne.symm hj)]at jr;refine(ok.holds j r0 vj e0 jr).map (FH.le.refl h) hC λhlj b hb=>hg.block b (ok.own j r0 vj b e0 hlj jr hb).2.1 λe=>hj ?_
    exact ok.inj j i r0 r vj u b e0 hlj hT hl jr hu hb (kD b e.symm)
  own:=by
   intro j rj vj b ej hlj jr hb
   by_cases hj:j=i
   .subst hj;rw[qA hi']at jr;cases jr;exact Wu b hb
   .obtain⟨r0,e0,rfl⟩:=get hj ej;rw[mX (Ne.symm hj)]at jr;obtain⟨a1,a2,a3⟩:=ok.own j r0 vj b e0 (by rw[<-pX f];exact hlj) jr hb
    exact⟨a1,NP a2 hg.size,a3⟩
  inj:=by
   intro j k r1 r2 u1 u2 b e1 l1 e2 l2 e3 e4 b1 b2
   by_cases hj:j=i<;>by_cases hk:k=i
   .rw[hj,hk]
   .exfalso;subst hj;rw[qA hi']at e3;cases e3;obtain⟨r0,e0,rfl⟩:=get hk e2;rw[mX (Ne.symm hk)]at e4;exact apart k r0 u2 b hk e0 (by rw[<-pX f];exact l2) e4 b2 b1
   .exfalso;subst hk;rw[qA hi']at e4;cases e4;obtain⟨r0,e0,rfl⟩:=get hj e1;rw[mX (Ne.symm hj)]at e3;exact apart j r0 u1 b hj e0 (by rw[<-pX f];exact l1) e3 b1 b2
   .obtain⟨r0,e0,rfl⟩:=get hj e1;obtain⟨r0',e0',rfl⟩:=get hk e2;rw[mX (Ne.symm hj)]at e3;rw[mX (Ne.symm hk)]at e4;exact ok.inj j k r0 r0' u1 u2 b e0 (by rw[<-pX f];exact l1) e0' (by rw[<-pX f];exact l2) e3 e4 b1 b2
  hle:=ok.hle
  hw:=frozen_kept ok.hw hg λk e=>(Dp k (kD k e)).2.2
  hg:=ok.hg
  kn:=ok.kept hg λb e=>(ok.holds i r u hT hu).cells hl (kD b e) }
theorem OK.apf(ok:OK B h0 T h β w){v:RV}
 (hX:∀b,v.has b->B.al b/\b < w.heap.size/\(∀o,h b o=none)/\∀(j:Nat) (rj:ay) (vj:RV),T[j]?=some rj->rj.live=true->β[j]?=some vj->¬vj.has b) (hold:Holds h (β++[v]) w r v):
 OK B h0 (T++[r]) h (β++[v]) w where
 below:=ok.below
 dr:=ok.dr
 len:=by simp[ok.len]
 holds:=by
  intro i r' v' e e';rcases aC e with⟨hi,e⟩ | ⟨hi,rfl⟩
  .rcases aC e' with⟨_,e'⟩ | ⟨hj,_⟩
   .exact(ok.holds i r' v' e e').move (FH.le.refl h) (Ext.append _ _) λhl b hb=>rfl
   .have:=ok.len;omega
  .rcases aC e' with⟨hj,e'⟩ | ⟨_,rfl⟩
   .have:=ok.len;omega
   .exact hold
 own:=by
  intro i r' v' b e hl e' hb;rcases aC e' with⟨hj,e'⟩ | ⟨hj,rfl⟩
  .rcases aC e with⟨_,e⟩ | ⟨hi,rfl⟩
   .exact ok.own i r' v' b e hl e' hb
   .have:=ok.len;omega
  .obtain⟨h1,h2,h3,_⟩:=hX b hb;exact⟨h1,h2,h3⟩
 inj:=by
  intro i j r1 r2 u v' b ei hl1 ej hl2 eu ev hu hv';have L:=ok.len;rcases aC ei with⟨hi,ei⟩ | ⟨hi,_⟩<;>rcases aC ej with⟨hj,ej⟩ | ⟨hj,_⟩<;>
   rcases aC eu with⟨hi',eu⟩ | ⟨hi',rfl⟩<;>rcases aC ev with⟨hj',ev⟩ | ⟨hj',rfl⟩<;>first
    | omega
    | exact ok.inj i j r1 r2 u v' b ei hl1 ej hl2 eu ev hu hv'
    | exact((hX b hv').2.2.2 i r1 u ei hl1 eu hu).elim
    | exact((hX b hu).2.2.2 j r2 v' ej hl2 ev hv').elim
 hle:=ok.hle
 hw:=ok.hw
 hg:=ok.hg
 kn:=ok.kn
abbrev GK:Nat->Bool:=λ_=>false
def xI:Nat->Value:=λ_=>ny
theorem oN(j:Nat):aA (xI j)=none:=rfl
theorem IZ{s:Sh}{l:List s.den} (x:lV h w t s l v):fD h w t s l tt e so GK [] v xI:=by
 refine⟨λj k b hb=>(by rw[oN]at hb;cases hb),λj b hb=>(by rw[oN]at hb;cases hb),?_⟩
 rcases x with x | x | ⟨g,cap,cur,e0,e1,e2,e3,e4,r⟩
 .exact .inl x
 .exact .inr (.inl x)
 .refine .inr (.inr ⟨g,cap,cur,e0,e1,e2,e3,e4,λj=>by rw[oN];simp,λj d hd=>?_⟩)
  obtain⟨g1,g2⟩:=r.get (λ_ _=>Rd.size s) hd
  refine⟨?_,oN j⟩;have hj:=(A8.1 hd).1;have hm:(j+1) * s.size<=l.length * s.size:=yh _ hj;rw[wY]at hm;have e5:List.take s.size (List.drop (j * s.size) (List.take (l.length * s.size) cur.toList))=List.take s.size (List.drop (j * s.size) cur.toList):=by
   apply Ie;intro p;simp only[uY,J7];split
   .rw[if_pos (by omega)]
   .rfl
  rw[e5]at g1;exact g1
abbrev KY(s:St) (i:Nat) (tt:TypeId) (e:Sh) (so:Nat):St:=match eF s.T i with
 | some ([],.row t sh l)=>{ s with T:=cZ s.T i ([],.deep t sh l tt e so GK []) }
 | _=>s
theorem ahf(r:ay):mR (λx=>x) r=r:=by
 have:∀l:List SC,fE (λx=>x) l=l:=by
  intro l
  induction l with
  | nil=>rfl
  | cons x l ih=>simp[fE,ih]
 cases r<;>simp[mR,this]
theorem Sat.KY(aj:Sat N B h0 s h β w a) (i:Nat) (tt:TypeId) (e:Sh) (so:Nat):∃β',Sat N B h0 (KY s i tt e so) h β' w a:=by
 unfold jf.KY;split
 .rename_i t sh l hT;have fQ:=bG hT (show gv s.gl []=true from rfl)
  have iQ:i < β.length:=by rw[aj.ok.len];exact(A8.1 fQ).1
  have hu:=lN iQ;have hold:=aj.ok.holds i _ _ fQ hu;cases hb:β[i]with
  | blk b=>rw[hb]at hold;cases hold
  | no=>rw[hb]at hold;cases hold
  | deep _ _=>rw[hb]at hold;cases hold
  | row v=>
    rw[hb]at hold hu;have hC:∀x y,dY h β x y->dY h (β.set i (.deep v xI)) x y:=by
     intro x y c;have:=dY.js (us:=xI) (us':=xI) hu (.inr rfl) c;cases x with
     | sub j k=>
       obtain⟨z,uj,e1,e2⟩:=c;refine⟨z,uj,?_,e2⟩;rw[dM hu,if_neg]
       .exact e1
       .rintro rfl;rw[hu]at e1;cases e1
     | lQ j k m sz off=>
       obtain⟨z,uj,g,e1,e2⟩:=c;refine⟨z,uj,g,?_,e2⟩;rw[dM hu,if_neg]
       .exact e1
       .rintro rfl;rw[hu]at e1;cases e1
     | _=>exact this
    refine⟨β.set i (.deep v xI),?_,?_,aj.gs,aj.defers,aj.sz,aj.gb,qo aj⟩
    .show OK B h0 (eff s.gl (cZ s.T i ([],.deep t sh l tt e so GK []))) h _ w;rw[xB];have:=aj.ok.OJ (f:=λx=>x) (r':=.deep t sh l tt e so GK []) (v:=.deep v xI) (row:=none) (X:=λ_=>False) fQ rfl hu (bV w none) (λk e=>by cases e) (λb hb=>hb.elim)
      (λb hb=>by
       rw[aX]at hb;rcases hb with hb | ⟨j,hb⟩
       .exact .inl (bg.2 hb)
       .rw[oN]at hb;cases hb) hC (IZ hold)
     rwa [show(eff s.gl s.T).map (mR λx=>x)=eff s.gl s.T by rw[show(mR λx=>x)=id from funext ahf];simp]at this
    .intro t' G e' ht;obtain⟨z,q1,q2,q3⟩:=aj.env t' G e' ht;refine⟨z,q1,λhG=>?_,q3⟩
     have:=jF.map (f:=λx=>x) (FH.le.refl h) hC (q2 hG)
     have hid:mE (λx=>x) e'=e':=by
      have m1:∀l:List SC,fE (λx=>x) l=l:=by
       intro l
       induction l with
       | nil=>rfl
       | cons x l ih=>simp[fE,ih]
      have m2:∀x:SV,mV (λx=>x) x=x:=by intro x;cases x<;>simp[mV,m1]
      cases e' with
      | one x=>simp[mE,m2]
      | gV xs=>
        have:∀l:List SV,fE (mV λx=>x) l=l:=by
         intro l
         induction l with
         | nil=>rfl
         | cons x l ih=>simp[fE,ih,m2]
        simp[mE,this]
     rwa [hid]at this
 .exact⟨β,aj⟩
theorem fD.third{sh:Sh}{l:List sh.den}{own:Nat->Bool}{us:Nat->Value} (D:fD h w t sh l tt e so own hs v us) (hj:j < l.length):
 ∃g cap cur,v=.slice (some ⟨g,0,none⟩) l.length cap/\w.heap[g]?=some (.cells cur t (0,0))/\l.length<=cap/\(1<=cap/\cap<=maxLen) /\
   cur.size=cap * sh.size/\(∀j,aA (us j)≠some g)/\∀j d,l[j]?=some d->zY h w sh tt e so (own j) (nM j hs) (us j) ((cur.toList.drop (j * sh.size)).take sh.size) d:=by
 obtain⟨_,_,D⟩:=D;rcases D with⟨_,e0⟩ | ⟨_,_,e0⟩ | D
 .subst e0;simp at hj
 .subst e0;simp at hj
 .exact D
theorem fD.get{sh:Sh}{l:List sh.den}{own:Nat->Bool}{us:Nat->Value} (D:fD h w t sh l tt e so own hs v us){d:sh.den} (hd:l[j]?=some d) (ho:own j=true) (hh:nM j hs=false)
 {x:List e.den} (hx:FX sh d so e=some x):lV h w tt e x (us j):=by
 obtain⟨_,_,_,_,_,_,_,_,_,h6⟩:=D.third (A8.1 hd).1;have h7:=h6 j d hd;rw[ho,hh]at h7;obtain⟨d0,x',_,p,_,rw_⟩:=h7;rw[Iu p hx];exact rw_
theorem fD.inner{sh:Sh}{l:List sh.den}{own:Nat->Bool}{us:Nat->Value} (D:fD h w t sh l tt e so own hs v us){d d':sh.den} (hd:l[j]?=some d) (ho:own j=true) (hh:nM j hs=false)
 (fr:∀b,aA (us j)≠some b->(∃o,w.heap[b]?=some o)->w'.heap[b]?=w.heap[b]?) (ce:∀b,aA (us j)=some b->∃o,w'.heap[b]?=some o/\ours o=true){x':List e.den} (hp:FY sh d so e x'=some d') (hr:lV h w' tt e x' (us j)):fD h w' t sh (l.set j d') tt e so own hs v us:=by
 have hj:=(A8.1 hd).1;obtain⟨g,cap,cur,e0,e1,e2,e3,e4,e5,e6⟩:=D.third hj;obtain⟨D1,D2,_⟩:=D;have fr':∀i b,i≠j->aA (us i)=some b->w'.heap[b]?=w.heap[b]?:=by
  intro i b hi hb;obtain⟨_,o,ho,_⟩:=D2 i b hb;exact fr b (λhh=>hi (D1 i j b hb hh)) ⟨o,ho⟩
 refine⟨D1,λi b hb=>?_,.inr (.inr ⟨g,cap,cur,by rw[wW];exact e0,?_,by rw[wW];exact e2,e3,e4,e5,λi di hdi=>?_⟩)⟩
 .rw[wW];obtain⟨q1,o,q2,q3⟩:=D2 i b hb
  by_cases hi:i=j
  .subst hi;exact⟨q1,ce b hb⟩
  .exact⟨q1,o,by rw[fr' i b hi hb];exact q2,q3⟩
 .rw[fr g (e5 j) ⟨_,e1⟩];exact e1
 .by_cases hi:i=j
  .subst hi;rw[qA hj]at hdi;cases hdi;have h7:=e6 i d hd;rw[ho,hh]at h7 ⊢;obtain⟨d0,y,r,p,c,q⟩:=h7;exact⟨d0,x',r,p.trans (Ir hp),c,hr⟩
  .rw[mX (Ne.symm hi)]at hdi;exact(e6 i di hdi).move (FH.le.refl h) λb hb=>fr' i b hi hb
theorem fD.write{sh:Sh}{l:List sh.den}{own own':Nat->Bool}{hs':List Nat}{us us':Nat->Value} (D:fD h w t sh l tt e so own hs v us){d d':sh.den} (hd:l[j]?=some d)
 {cap:Nat}{cur:Array Value} (hv:v=.slice (some ⟨g,0,none⟩) l.length cap) (hw:w.heap[g]?=some (.cells cur t (0,0))) (hk:off+k<=sh.size){cs':List Value} (hc:cs'.length=k)
 (same:∀i,i≠j->own' i=own i/\nM i hs'=nM i hs/\us' i=us i) (apart:∀i b,i≠j->aA (us i)=some b->aA (us' j)≠some b) (bl:∀b,aA (us' j)=some b->b≠g/\∃o,w.heap[b]?=some o/\ours o=true)
 (el:∀(w':World) cs,(∀b,b≠g->w'.heap[b]?=w.heap[b]?)->cs.length=sh.size->zY h w sh tt e so (own j) (nM j hs) (us j) cs d->zY h w' sh tt e so (own' j) (nM j hs') (us' j) (cs.take off++cs'++cs.drop (off+k)) d'):
 j * sh.size+off+k<=cur.size/\fD h (w.setRow g (cur.toList.take (j * sh.size+off)++cs'++cur.toList.drop (j * sh.size+off+k)).toArray) t sh (l.set j d') tt e so own' hs' v us':=by
 have hj:=(A8.1 hd).1;obtain⟨g2,cap2,Ec,e0,e1,e2,e3,e4,e5,e6⟩:=D.third hj;rw[hv]at e0;have eg:g=g2/\cap=cap2:=by simpa using e0
 obtain⟨rfl,rfl⟩:=eg;rw[hw]at e1;have ec:cur=Ec:=by simpa using e1
 subst ec;obtain⟨D1,D2,_⟩:=D;have lc:cur.toList.length=cap * sh.size:=by simpa using e4
 have hm:(j+1) * sh.size<=cap * sh.size:=yh _ (by omega)
 rw[wY]at hm;refine⟨by omega,?_⟩
 generalize hw':w.setRow g (cur.toList.take (j * sh.size+off)++cs'++cur.toList.drop (j * sh.size+off+k)).toArray=w';have fr:∀b,b≠g->w'.heap[b]?=w.heap[b]?:=λb hb=>by rw[<-hw'];exact setRow_other w g b _ hb
 have hg':w'.heap[g]?=some (.cells (cur.toList.take (j * sh.size+off)++cs'++cur.toList.drop (j * sh.size+off+k)).toArray t (0,0)):=by rw[<-hw'];exact setRow_heap w g _ _ t (0,0) hw
 have ne:∀i b,aA (us i)=some b->b≠g:=λi b hb hh=>e5 i (by rw[hb,hh])
 refine⟨λi k b h1 h2=>?_,λi b hb=>?_,.inr (.inr ⟨g,cap,_,by rw[wW];exact hv,hg',by rw[wW];exact e2,e3,?_,λi hb=>?_,λi di hdi=>?_⟩)⟩
 .by_cases hi:i=j<;>by_cases hk:k=j
  .rw[hi,hk]
  .subst hi;rw[(same k hk).2.2]at h2;exact(apart k b hk h2 h1).elim
  .subst hk;rw[(same i hi).2.2]at h1;exact(apart i b hi h1 h2).elim
  .rw[(same i hi).2.2]at h1;rw[(same k hk).2.2]at h2;exact D1 i k b h1 h2
 .rw[wW]
  by_cases hi:i=j
  .subst hi;obtain⟨q1,o,q2,q3⟩:=bl b hb;exact⟨hj,o,by rw[fr b q1];exact q2,q3⟩
  .rw[(same i hi).2.2]at hb;obtain⟨q1,o,q2,q3⟩:=D2 i b hb;exact⟨q1,o,by rw[fr b (ne i b hb)];exact q2,q3⟩
 .simp only[FT,kC,kX,yj];omega
 .by_cases hi:i=j
  .subst hi;exact(bl g hb).1 rfl
  .rw[(same i hi).2.2]at hb;exact e5 i hb
 .by_cases hi:i=j
  .subst hi;rw[qA hj]at hdi;cases hdi;have h7:=el w' _ fr (by rw[kX,yj];omega) (e6 i d hd)
   have key:List.take sh.size (List.drop (i * sh.size) (List.take (i * sh.size+off) cur.toList++cs'++List.drop (i * sh.size+off+k) cur.toList))=List.take off (List.take sh.size (List.drop (i * sh.size) cur.toList))++cs'++List.drop (off+k) (List.take sh.size (List.drop (i * sh.size) cur.toList)):=by
    apply Ie;intro p;simp only[A91,uY,J7,kC,kX,yj,lc,hc]
    repeat' split
    all_goals first | rfl | omega | (congr 1;omega) | (rw[BL (by omega)]) | (exfalso;omega) | skip
   simp only at key ⊢;rw[key];exact h7
  .rw[mX (Ne.symm hi)]at hdi;obtain⟨q1,q2,q3⟩:=same i hi;rw[q1,q2,q3];have h7:=(e6 i di hdi).move (w':=w') (FH.le.refl h) λb hb=>fr b (ne i b hb)
   have hi2:=(A8.1 hdi).1;have hm2:(i+1) * sh.size<=cap * sh.size:=yh _ (by omega)
   rw[wY]at hm2;have hne:i * sh.size+sh.size<=j * sh.size\/j * sh.size+sh.size<=i * sh.size:=by
    rcases Nat.lt_or_gt_of_ne hi with hh | hh
    .left;have:(i+1) * sh.size<=j * sh.size:=yh _ hh
     rwa [wY]at this
    .right;have:(j+1) * sh.size<=i * sh.size:=yh _ hh
     rwa [wY]at this
   have key:List.take sh.size (List.drop (i * sh.size) (List.take (j * sh.size+off) cur.toList++cs'++List.drop (j * sh.size+off+k) cur.toList))=List.take sh.size (List.drop (i * sh.size) cur.toList):=by
    apply Ie;intro p;simp only[A91,uY,J7,kC,kX,yj,lc,hc]
    repeat' split
    all_goals first | rfl | omega | (congr 1;omega) | (rw[BL (by omega)]) | (exfalso;omega) | skip
   simp only at key ⊢;rw[key];exact h7
abbrev qR(us:Nat->Value) (j:Nat):Nat->Value:=λk=>if k=j then ny else us k
theorem fD.open{sh:Sh}{l:List sh.den}{own:Nat->Bool}{us:Nat->Value} (D:fD h w t sh l tt e so own [] v us){d:sh.den} (hd:l[j]?=some d) (ho:own j=true):fD h w t sh l tt e so own [j] v (qR us j):=by
 have hj:=(A8.1 hd).1;obtain⟨g,cap,cur,e0,e1,e2,e3,e4,e5,e6⟩:=D.third hj;obtain⟨D1,D2,_⟩:=D;have sub:∀i b,aA (qR us j i)=some b->i≠j/\aA (us i)=some b:=by
  intro i b hb;unfold qR at hb;split at hb
  .cases hb
  .rename_i hi;exact⟨hi,hb⟩
 refine⟨λi k b h1 h2=>D1 i k b (sub i b h1).2 (sub k b h2).2,λi b hb=>D2 i b (sub i b hb).2,.inr (.inr ⟨g,cap,cur,e0,e1,e2,e3,e4,λi hb=>e5 i (sub i g hb).2,λi di hdi=>?_⟩)⟩
 have h7:=e6 i di hdi
 by_cases hi:i=j
 .subst hi;rw[ho]at h7;obtain⟨d0,y,r,p,c,q⟩:=h7;have e7:nM i [i]=true:=by simp[nM]
  rw[e7];refine⟨by simp[qR,ny,aA],d0,y,r,p,us i,c,?_⟩
  rcases q with⟨e1,_⟩ | ⟨_,e1,_⟩ | ⟨_,_,_,e1,_⟩<;>rw[e1]<;>exact⟨rfl,rfl⟩
 .have e7:nM i [j]=false:=by simp[nM,hi]
  have e8:qR us j i=us i:=by simp[qR,hi]
  rw[e7,e8];exact h7
theorem yU:∀{s:Sh}{so:Nat}{e:Sh}{d0 d d':s.den}{x:List e.den}{off k:Nat}{v:SV},lW s so e d0 x d->off+k<=so\/so+1<=off->yC s d off k v=some d'->∃d0',yC s d0 off k v=some d0'/\lW s so e d0' x d'
 | .sl s,so,e,d0,d,d',x,off,k,v,⟨h1,_,_⟩,hd,h=>by
   exfalso;unfold yC at h;split at h
   .rename_i hh;rw[aB,bY]at hh;have a1:=iC hh.1;have a2:1=k:=iC hh.2;omega
   .cases h
 | .pair a b,so,e,(p0,q0),(p,q),d',x,off,k,v,hp,hd,h=>by
   have iQ:so < a.size+b.size:=lW.lt hp;unfold yC at h ⊢
   cases hw:dD (Nat.beq off 0) (Nat.beq (a.size+b.size) k) with
   | true=>
     rw[aB,bY]at hw;have a1:=iC hw.1;have a2:=iC hw.2;omega
   | false=>
     rw[hw]at h;simp only at h ⊢
     cases hle:Nat.ble (off+1) a.size with
     | true=>
       rw[hle]at h;simp only at h ⊢
       have hle:=qm hle;split at h
       .rename_i y hy;cases h;rcases hp with⟨g1,e1,h1⟩ | ⟨g1,e1,h1⟩
        .subst e1;rw[hy];exact⟨_,rfl,.inl ⟨g1,rfl,h1⟩⟩
        .obtain⟨z,hz,h2⟩:=yU h1 hd hy;rw[hz];exact⟨_,rfl,.inr ⟨g1,e1,h2⟩⟩
       .cases h
     | false=>
       rw[hle]at h;simp only at h ⊢
       have hle:=vC hle;split at h
       .rename_i y hy;cases h;rcases hp with⟨g1,e1,h1⟩ | ⟨g1,e1,h1⟩
        .obtain⟨z,hz,h2⟩:=yU h1 (by omega) hy
         rw[hz];exact⟨_,rfl,.inl ⟨g1,e1,h2⟩⟩
        .subst e1;rw[hy];exact⟨_,rfl,.inr ⟨g1,rfl,h1⟩⟩
       .cases h
 | .int _,_,_,_,_,_,_,_,_,_,h,_,_=>h.elim
 | .bool,_,_,_,_,_,_,_,_,_,h,_,_=>h.elim
 | .str,_,_,_,_,_,_,_,_,_,h,_,_=>h.elim
 | .any,_,_,_,_,_,_,_,_,_,h,_,_=>h.elim
 | .unit,_,_,_,_,_,_,_,_,_,h,_,_=>h.elim
 | .arr _ _,_,_,_,_,_,_,_,_,_,h,_,_=>h.elim
theorem set_mid{cs':List Value}{z:Value} (hk:cs'.length=k) (hl:off+k<=cs.length) (hd:off+k<=so\/so+1<=off):
 (cs.set so z).take off++cs'++(cs.set so z).drop (off+k)=(cs.take off++cs'++cs.drop (off+k)).set so z:=by
 apply Ie;intro p;simp only[A91,uY,J7,kC,kX,yj,List.getElem?_set,wW,hk]
 repeat' split
 all_goals first | rfl | omega | (congr 1;omega) | (exfalso;omega) | skip
theorem zY.upd{s:Sh}{own hole:Bool}{u:Value}{d d':s.den}{v:SV} (x:zY h w s tt e so own hole u cs d) (dis:off+k<=so\/so+1<=off)
 (hu:yC s d off k v=some d') (c:dh h β v y):∃cs',y.cells=cs'.toArray/\cs'.length=k/\(∀u∈cs',dF u)/\off+k<=cs.length/\zY h w s tt e so own hole u (cs.take off++cs'++cs.drop (off+k)) d':=by
 have ahg:∀{cs':List Value}{z:Value},cs'.length=k->off+k<=cs.length->cs[so]?=some z->(cs.take off++cs'++cs.drop (off+k))[so]?=some z:=by
  intro cs' z hk hl hz;have iQ:=(A8.1 hz).1;rcases dis with dis | dis
  .rw[NM (by simp only[kC,kX];omega),J7,<-hz]
   congr 1
   simp only[kC,kX];omega
  .rw[VJ (by simp only[kC,kX];omega),VJ (by simp only[kX];omega),uY,if_pos (by omega)]
   exact hz
 unfold zY at x ⊢;cases hole with
 | false=>
   cases own with
   | false=>
     obtain⟨cs',e1,e2,e3,e4,e5⟩:=nO s hu x.1 c;exact⟨cs',e1,e2,e3,e4,e5,x.2⟩
   | true=>
     obtain⟨d0,z,r,p,cu,q⟩:=x;obtain⟨d0',h1,h2⟩:=yU p dis hu;obtain⟨cs',e1,e2,e3,e4,e5⟩:=nO s h1 r c;rw[wW]at e4;rw[set_mid e2 e4 dis]at e5;exact⟨cs',e1,e2,e3,e4,d0',z,e5,h2,ahg e2 e4 cu,q⟩
 | true=>
   obtain⟨x0,d0,z,r,p,y0,cu,q⟩:=x;obtain⟨d0',h1,h2⟩:=yU p dis hu;obtain⟨cs',e1,e2,e3,e4,e5⟩:=nO s h1 r c;rw[wW]at e4;rw[set_mid e2 e4 dis]at e5;exact⟨cs',e1,e2,e3,e4,x0,d0',z,e5,h2,y0,ahg e2 e4 cu,q⟩
abbrev tH(own:Nat->Bool) (j:Nat):Nat->Bool:=λk=>cnd (decide (k=j)) true (own k)
abbrev rowOf:SV->Option Nat
 | .c (.row q)=>some q
 | _=>none
abbrev ahh(hs:List Nat) (j:Nat) (K:Prop):Prop:=match hs with
 | []=>K
 | [k]=>j=k/\K
 | _=>False
abbrev QU(s:St) (d:Option Nat) (i:TI) (r j sz off:Nat) (tt:TypeId) (sh:Sh) (l:List sh.den) (t2:TypeId) (e:Sh) (so:Nat) (own:Nat->Bool) (hs:List Nat) (v:SV) (K:St->Prop):Prop:=match Nat.beq sz sh.size with
 | false=>False
 | true=>match acO (Nat.ble (off+i.size) so) (Nat.ble (so+1) off) with
   | true=>(j < l.length)/\∀e0:sh.den,l[j]?=some e0->match yC sh e0 off i.size v with
     | some dd=>K ({ s with T:=cZ s.T r ([],.deep tt sh (l.set j dd) t2 e so own hs) }.put d [] (.one .und))
     | none=>False
   | false=>match rowOf v with
     | some q=>match eF s.T q with
       | some ([],.row tq eq x)=>match dD (Nat.beq tq t2) (dD (Nat.beq off so) (Nat.beq i.size 1)) with
         | true=>match jC (.sl eq) x (.sl e) with
           | some x=>(j < l.length)/\ahh hs j (∀e0:sh.den,l[j]?=some e0->match FY sh e0 so e x with
             | some dd=>K ({ s with T:=cZ (mT (uI r) (cZ s.T q ([],.gone))) r ([],.deep tt sh (l.set j dd) t2 e so (tH own j) []),env:=yT (uI r) s.env }.put d [] (.one .und))
             | none=>False)
           | none=>False
         | false=>False
       | _=>False
     | none=>False
abbrev ac3(cx:Cx) (s:St) (d:Option Nat) (t:TypeId) (p x:Operand) (K:St->Prop):Option Prop:=match pU cx.ti t with
 | none=>none
 | some i=>match bM cx s [] p with
   | some (.one (.c (.jS r j sz off)))=>match eF s.T r with
     | some ([],.deep tt sh l t2 e so own hs)=>match bM cx s [] x with
       | some (.one v)=>some (QU s d i r j sz off tt sh l t2 e so own hs v K)
       | _=>none
     | _=>none
   | some (.one (.c (.lQ r j k sz off)))=>match eF s.T r with
     | some ([],.deep tt sh l t2 e so own hs)=>match bM cx s [] x with
       | some (.one v)=>some (match Nat.beq sz e.size with
         | false=>False
         | true=>(own j=true/\nM j hs=false/\j < l.length)/\∀d0:sh.den,l[j]?=some d0->match FX sh d0 so e with
           | some xs=>(k < xs.length)/\∀y:e.den,xs[k]?=some y->match yC e y off i.size v with
             | some y'=>match FY sh d0 so e (xs.set k y') with
               | some dd=>K ({ s with T:=cZ s.T r ([],.deep tt sh (l.set j dd) t2 e so own hs) }.put d [] (.one .und))
               | none=>False
             | none=>False
           | none=>False)
       | _=>none
     | _=>none
   | _=>none
theorem lV.write{sh:Sh}{l:List sh.den}{u:Value} (x:lV h w t sh l u){d dd:sh.den} (hg:aA u=some g) (hd:l[j]?=some d) (up:∀{cs:List Value},Rd h sh cs d->Upd h sh cs off k y dd):
 ∃cur,w.heap[g]?=some (.cells cur t (0,0))/\j * sh.size+off+k<=cur.size/\y.cells.size=k/\(∀z∈y.cells.toList,dF z)/\lV h (w.setRow g (cur.toList.take (j * sh.size+off)++y.cells.toList++cur.toList.drop (j * sh.size+off+k)).toArray) t sh (l.set j dd) u:=by
 have hj:=(A8.1 hd).1;rcases x with⟨hv0,_⟩ | ⟨_,hv0,_⟩ | ⟨g',cap,cur,hv0,he,q2,q3,q4,q5⟩
 .subst hv0;simp[aA]at hg
 .subst hv0;simp[aA]at hg
 .have hgg:g'=g:=by rw[hv0,aY q3.1]at hg;exact Ig hg
  subst hgg;have hm:(j+1) * sh.size<=l.length * sh.size:=yh _ hj;have hm2:l.length * sh.size<=cap * sh.size:=yh _ q2;rw[wY]at hm;obtain⟨g1,g2⟩:=q5.get (λ_ _=>Rd.size sh) hd
  have gl:=Rd.size sh g1;obtain⟨cs',ec,e2,e3,e4,e5⟩:=up g1;rw[gl]at e4;have lc:cur.toList.length=cap * sh.size:=by simpa using q4
  refine⟨cur,he,by omega,by rw[ec];simpa using e2,λz hz=>e3 z (by rw[ec]at hz;simpa using hz),.inr (.inr ⟨g',cap,_,by rw[wW];exact hv0,setRow_heap w g' _ _ t (0,0) he,by rw[wW];exact q2,q3,?_,?_⟩)⟩
  .rw[ec];simp only[FT,kC,kX,yj,TR];omega
  .rw[wW,ec];show gq (Rd h sh) ((List.take (j * sh.size+off) cur.toList++cs'++List.drop (j * sh.size+off+k) cur.toList).take (l.length * sh.size)) (l.set j dd);have e:=gq.set (λ_ _=>Rd.size sh) q5 hj e5
   have key:(List.take (j * sh.size+off) cur.toList++cs'++List.drop (j * sh.size+off+k) cur.toList).take (l.length * sh.size) =
    List.take (j * sh.size) (List.take (l.length * sh.size) cur.toList)++(List.take off (List.take sh.size (List.drop (j * sh.size) (List.take (l.length * sh.size) cur.toList)))++cs'++List.drop (off+k) (List.take sh.size (List.drop (j * sh.size) (List.take (l.length * sh.size) cur.toList))))++List.drop (j * sh.size+sh.size) (List.take (l.length * sh.size) cur.toList):=by
    apply Ie;intro p;simp only[A91,uY,J7,kC,kX,yj,lc,e2]
    repeat' split
    all_goals first | rfl | omega | (congr 1;omega) | (rw[BL (by omega)]) | (exfalso;omega) | skip
   rw[key];exact e
theorem take_set{o:Nat} (h:o < cs.length):cs.take o++[y]++cs.drop (o+1)=cs.set o y:=by
 rw[List.set_eq_take_append_cons_drop,if_pos h];simp
theorem Xn(hc:bT P cx.ti) (aj:Sat N B h0 s h β w a) (hg:aI cx.gd h) (hd:kY N o.dst=true){p x:Operand} (ho:o.op=.store t p x){q:Prop} (hq:ac3 cx s o.dst t p x K=some q) (k:q):
 fV P N B h0 h w a o (gv s.gl []) K:=by
 have tr:gv s.gl []=true:=rfl;unfold ac3 at hq;split at hq
 .cases hq
 rename_i i hi;have ti:=hc.get hi;have exec:∀{w':World}{v pv:Value},a.eval x=v->a.eval p=pv->(Instr.storeAt t pv v).run P w=.ok () w'->(execOp a.eval o).run P w=.ok .skip w':=by
  intro w' v pv e1 e2 r;simp only[execOp,ho,e1,e2,Sem.run_bind,r,Result.andThen_ok,Sem.run_pure]
 split at hq
 .rename_i r j sz off hp;obtain⟨⟨v0,g,hb,hgb,ep⟩,_⟩:=aP aj hg tr hp;split at hq
  .rename_i tt sh l t2 e so own hs hT;have fQ:=bG hT tr;have hold:=aj.ok.holds r _ _ fQ hb;split at hq
   .rename_i v hv;have cv:=aP aj hg tr hv;cases hq
    match v0,hold,hgb,hb with
    | .deep vv us,D,hgb,hb=>
      have D:fD h w tt sh l t2 e so own hs vv us:=D;have hgb:aA vv=some g:=hgb;have outer:∀{j:Nat},j < l.length->∃cap cur,vv=.slice (some ⟨g,0,none⟩) l.length cap/\w.heap[g]?=some (.cells cur tt (0,0))/\∀d,l[j]?=some d->zY h w sh t2 e so (own j) (nM j hs) (us j) ((cur.toList.drop (j * sh.size)).take sh.size) d/\(j+1) * sh.size<=cur.size:=by
       intro j hj;obtain⟨g2,cap,cur,e0,e1,e2,e3,e4,e5,e6⟩:=D.third hj;rw[e0,aY e3.1]at hgb;cases hgb;refine⟨cap,cur,e0,e1,λd hd=>⟨e6 j d hd,?_⟩⟩
       rw[e4];exact yh _ (by omega)
      unfold QU at k;split at k
      .cases k
      rename_i hz;have hz:sz=sh.size:=iC hz;split at k
      .rename_i hdis;have hdis:off+i.size<=so\/so+1<=off:=by
        unfold acO at hdis;split at hdis
        .rename_i hh;exact .inl (qm hh)
        .exact .inr (qm hdis)
       obtain⟨hj,k⟩:=k;have k:=k _ (lN hj);split at k
       .rename_i dd hdd;obtain⟨cap,cur,e0,e1,e2⟩:=outer hj;obtain⟨el,hsz⟩:=e2 _ (lN hj);obtain⟨cs',ec,c2,c3,c4,c5⟩:=el.upd hdis hdd cv;rw[wY]at hsz;have hcl:((cur.toList.drop (j * sh.size)).take sh.size).length=sh.size:=by rw[kX,yj,TR];omega
        rw[hcl]at c4;obtain⟨f1,f2⟩:=D.write (own':=own) (hs':=hs) (us':=us) (d':=dd) (cs':=cs') (off:=off) (k:=i.size) (lN hj) e0 e1 c4 c2 (λ_ _=>⟨rfl,rfl,rfl⟩) (λi' b hi' hb' hb2=>hi' (D.1 _ _ b hb' hb2)) (λb hb'=>⟨λhh=>(D.third hj).elim λg2 z=>by
         obtain⟨cap2,Ec,f0,_,f3,f4,_,f5,_⟩:=z;rw[f0,aY f4.1]at hgb;cases hgb;exact f5 j (by rw[hb',hh]),(D.2.1 j b hb').2⟩) (λw' cs fr hl ex=>by
         obtain⟨cs2,ec2,_,_,_,ex2⟩:=ex.upd hdis hdd cv;have:cs2=cs':=by rw[ec]at ec2;simpa using ec2.symm
         subst this;refine ex2.move (FH.le.refl h) λb hb'=>fr b λhh=>?_
         obtain⟨g2,cap2,Ec,f0,_,_,f4,_,f5,_⟩:=D.third hj;rw[f0,aY f4.1]at hgb;cases hgb;exact f5 j (by rw[hb',hh]))
        have r1:=fH (o:=j * sz+off) (v:=a.eval x) ti e1 (by rw[ec];simpa using c2) (by rw[hz];omega) (by rw[ec];intro u hu;exact c3 u (by simpa using hu))
        refine qP aj (by rw[ho];rfl) hd hT rfl hb hgb ?_ (exec rfl ep r1) k
        rw[ec,hz];exact f2
       .cases k
      .split at k
       .rename_i q hq0;split at k
        .rename_i tq eq x0 hTq;have tX:=bG hTq tr;split at k
         .rename_i hcs;rw[aB,aB,bY,bY]at hcs;have a0:tq=t2:=iC hcs.1;have a1:off=so:=iC hcs.2.1;have a2:i.size=1:=iC hcs.2.2;subst a0;subst a1;split at k
          .rename_i x1 hx1;obtain⟨e1,e2⟩:=oI hx1;subst e1;simp only at e2;subst e2;obtain⟨hj,k⟩:=k;have hv1:v=.c (.row q):=by
            unfold rowOf at hq0;split at hq0
            .cases hq0;rfl
            .cases hq0
           subst hv1;have hbq:=aj.ok.row_of tX cv.1;have kD:lV h w tq eq x0 (a.eval x):=aj.ok.holds q _ _ tX hbq;have hone:dF (a.eval x):=cv.2;have hqr:q≠r:=by rintro rfl;rw[tX]at fQ;cases fQ
           have kk:(∀i',i'≠j->nM i' hs=false)/\∀e0:sh.den,l[j]?=some e0->match FY sh e0 off eq x0 with
            | some dd=>K ({ s with T:=cZ (mT (uI r) (cZ s.T q ([],.gone))) r ([],.deep tt sh (l.set j dd) tq eq off (tH own j) []),env:=yT (uI r) s.env }.put o.dst [] (.one .und))
            | none=>False:=by
            unfold ahh at k;split at k
            .exact⟨λ_ _=>rfl,k⟩
            .exact⟨λi' hi'=>by simp[nM];rw[<-k.1];exact hi',k.2⟩
            .cases k
           obtain⟨lC,k⟩:=kk;have k:=k _ (lN hj);split at k
           .rename_i dd hdd;have hdd:=Ir hdd;have hso:=hdd.lt;obtain⟨cap,cur,e0,e1,e2⟩:=outer hj;obtain⟨_,hsz⟩:=e2 _ (lN hj);rw[wY]at hsz;have gne:∀b,aA (a.eval x)=some b->∀u,(RV.deep vv us).has u->u≠b:=λb hb1 u hu hh=>hqr (aj.ok.inj q r _ _ _ _ b tX rfl fQ rfl hbq hb (bg.2 hb1) (by rw[<-hh];exact hu))
            obtain⟨f1,f2⟩:=D.write (own':=tH own j) (hs':=[]) (us':=λi'=>if i'=j then a.eval x else us i') (d':=dd) (cs':=[a.eval x]) (off:=off) (k:=1) (lN hj) e0 e1 (by omega) rfl
             (λi' hi'=>⟨by simp[tH,hi',cnd],by rw[lC i' hi'],by simp[hi']⟩)
             (λi' b hi' hb' hb2=>by
              rw[if_pos rfl]at hb2;exact gne b hb2 b (aX.2 (.inr ⟨i',hb'⟩)) rfl)
             (λb hb'=>by
              rw[if_pos rfl]at hb';exact⟨λhh=>gne b hb' g (aX.2 (.inl hgb)) hh.symm,(aj.ok.holds q _ _ tX hbq).cells rfl (bg.2 hb')⟩)
             (λw' cs fr hl ex=>by
              rw[if_pos rfl,show tH own j j=true by simp[tH,cnd],take_set (by omega)]
              have emp:∃d0,Rd h sh (cs.set off ny) d0/\lW sh off eq d0 x0 dd:=by
               unfold zY at ex;cases hh:nM j hs with
               | false=>
                 rw[hh]at ex;cases hoo:own j with
                 | false=>
                   rw[hoo]at ex;obtain⟨d0,hd0⟩:=hdd.ex [];exact⟨d0,hd0.rd ex.1 (qC.nil _ _),hd0.turn hdd⟩
                 | true=>
                   rw[hoo]at ex;obtain⟨d0,z,r0,p0,_,_⟩:=ex;exact⟨d0,r0,p0.trans hdd⟩
               | true=>
                 rw[hh]at ex;obtain⟨_,d0,z,r0,p0,_⟩:=ex;exact⟨d0,r0,p0.trans hdd⟩
              obtain⟨d0,r0,p0⟩:=emp;refine⟨d0,x0,by rw[List.set_set];exact r0,p0,by rw[qA (by omega)],kD.move (FH.le.refl h) λb hb'=>fr b λhh=>gne b hb' g (aX.2 (.inl hgb)) hh.symm⟩)
            have r1:=fH (o:=j * sz+off) (v:=a.eval x) ti e1 (by rw[hone.1,a2];rfl) (by rw[hz,a2];omega) (by rw[hone.1];intro u hu;simp at hu;subst hu;exact hone)
            rw[hone.1,a2,hz]at r1;rw[hz]at ep;have ok1:=aj.ok.forget tX;have hT1:((eff s.gl s.T).set q .gone)[r]?=some (.deep tt sh l tq eq off own hs):=by rw[mX hqr];exact fQ
            have ok2:=ok1.OJ (f:=uI r) (r':=.deep tt sh (l.set j dd) tq eq off (tH own j) []) (v:=.deep vv λi'=>if i'=j then a.eval x else us i') (row:=some g) (X:=λb=>aA (a.eval x)=some b) hT1 rfl hb (jc w g _) (λk e=>by cases e;exact .inl hgb)
             (λb hb'=>by
              obtain⟨o1,o2,o3⟩:=aj.ok.own q _ _ b tX rfl hbq (bg.2 hb');refine⟨o1,o2,o3,λj' rj vj hj' ej lj jr hbj=>?_⟩
              have hjq:j'≠q:=by
               rintro rfl;rw[qA (A8.1 tX).1]at ej;cases ej;cases lj
              rw[mX (Ne.symm hjq)]at ej;exact hjq (aj.ok.inj j' q _ _ _ _ b ej lj tX rfl jr hbq hbj (bg.2 hb')))
             (λb hb'=>by
              rw[aX]at hb';rcases hb' with hb' | ⟨i',hb'⟩
              .exact .inl (aX.2 (.inl hb'))
              .by_cases hi':i'=j
               .rw[if_pos hi']at hb';exact .inr (.inl hb')
               .rw[if_neg hi']at hb';exact .inl (aX.2 (.inr ⟨i',hb'⟩)))
             (λx y c=>dY.js hb (.inl rfl) c) f2
            refine mG aj k rfl (by rw[ho];rfl) (.inr ⟨exec rfl ep r1,rfl⟩) (FH.le.refl h) ((aj.map (f:=uI r) (T':=cZ (mT (uI r) (cZ s.T q ([],.gone))) r ([],.deep tt sh (l.set j dd) tq eq off (tH own j) [])) (β':=β.set r (.deep vv λi'=>if i'=j then a.eval x else us i')) (FH.le.refl h) (λ_=>rfl) (λx y c=>dY.js hb (.inl rfl) c) ?_ ?_).put (dR hd) rfl (λ_=>rfl) λhh=>by cases hh)
            .rw[fP,Ea,fP];exact ok2
            .intro p' hp';rw[eY]at hp';rcases Ic hp' with hp' | hp'
             .obtain⟨p2,h1,h2⟩:=Eb hp';rw[<-h2];exact qo aj p2 h1
             .subst hp';rfl
           .cases k
          .cases k
         .cases k
        .cases k
       .cases k
   .cases hq
  .cases hq
 .rename_i r j k0 sz off hp;obtain⟨⟨vv,us,g,hb,hgb,ep⟩,_⟩:=aP aj hg tr hp;split at hq
  .rename_i tt sh l t2 e so own hs hT;have fQ:=bG hT tr;have D:fD h w tt sh l t2 e so own hs vv us:=aj.ok.holds r _ _ fQ hb;split at hq
   .rename_i v hv;have cv:=aP aj hg tr hv;cases hq;split at k
    .cases k
    rename_i hz;have hz:sz=e.size:=iC hz;obtain⟨⟨o1,o2,o3⟩,k⟩:=k;have hdj:=lN o3;have k:=k _ hdj;split at k
    .rename_i xs hxs;obtain⟨hk,k⟩:=k;have k:=k _ (lN hk);split at k
     .rename_i y' hy';split at k
      .rename_i dd hdd;have kD:=D.get hdj o1 o2 hxs;obtain⟨cur,he,f1,f2,f3,f4⟩:=kD.write hgb (lN hk) (λhr=>nO e hy' hr cv)
       have r1:=fH (o:=k0 * sz+off) (v:=a.eval x) ti he f2 (by rw[hz];omega) f3
       rw[hz]at ep r1;have D':=D.inner (w':=w.setRow g (cur.toList.take (k0 * e.size+off)++(a.eval x).cells.toList++cur.toList.drop (k0 * e.size+off+i.size)).toArray) hdj o1 o2 (λb hb' _=>setRow_other w g b _ λhh=>hb' (by rw[hh];exact hgb)) (λb hb'=>by
        rw[hgb]at hb';cases hb';exact⟨_,setRow_heap w g _ _ t2 (0,0) he,rfl⟩) hdd f4
       have ok:OK B h0 (eff s.gl (cZ s.T r ([],.deep tt sh (l.set j dd) t2 e so own hs))) h β (w.setRow g (cur.toList.take (k0 * e.size+off)++(a.eval x).cells.toList++cur.toList.drop (k0 * e.size+off+i.size)).toArray):=by
        rw[xB];have:=aj.ok.upd (r':=.deep tt sh (l.set j dd) t2 e so own hs) (v:=.deep vv us) fQ rfl hb (row:=some g) (jc w g _) (λk e=>by cases e;exact aX.2 (.inr ⟨j,hgb⟩)) (λb hb=>.inl hb) (.inl rfl) (by rw[gX hb];exact D')
        rwa [gX hb]at this
       exact mG aj k rfl (by rw[ho];rfl) (.inr ⟨exec rfl ep r1,rfl⟩) (FH.le.refl h) ((aj.mem ok (FH.le.refl h) (Ext.refl β) (qo aj)).put (dR hd) rfl (λ_=>rfl) λhh=>by cases hh)
      .cases k
     .cases k
    .cases k
   .cases hq
  .cases hq
 .cases hq
abbrev QV(s:St) (x:Operand) (K:St->Prop):Option Prop:=match x with
 | .tmp t=>match iF s.env t with
   | some ([],.one (.c (.sub r j)))=>match eF s.T r with
     | some ([],.deep tt sh l t2 e so own [])=>some ((own j=true/\j < l.length)/\∀d:sh.den,l[j]?=some d->match FX sh d so e with
       | some x=>K { s with T:=snoc (cZ (mT (uI r) s.T) r ([],.deep tt sh l t2 e so own [j])) ([],.row t2 e x),env:=(t,[],.one (.c (.row (aQ s.T)))) :: yT (uI r) s.env,gs:=rmG s.gs t }
       | none=>False)
     | _=>none
   | _=>none
 | _=>none
theorem ac4(aj:Sat N B h0 s h β w a){x:Operand}{q:Prop} (hq:QV s x K=some q) (k:q):∃s' β',K s'/\Sat N B h0 s' h β' w a/\s'.gl=s.gl:=by
 have tr:gv s.gl []=true:=rfl;unfold QV at hq;split at hq
 .rename_i t;split at hq
  .rename_i r j hlk;split at hq
   .rename_i tt sh l t2 e so own hT;cases hq;have fQ:=bG hT tr;obtain⟨⟨o1,o2⟩,k⟩:=k;have hdj:=lN o2;have k:=k _ hdj;split at k
    .rename_i xs hxs;obtain⟨z,z1,z2,_⟩:=aj.env t [] _ hlk;obtain⟨⟨vv,us,hb,hus⟩,hone⟩:dh h β (.c (.sub r j)) z:=z2 rfl;have D:fD h w tt sh l t2 e so own [] vv us:=aj.ok.holds r _ _ fQ hb;have kD:=D.get hdj o1 rfl hxs;have ok2:=aj.ok.OJ (f:=uI r) (r':=.deep tt sh l t2 e so own [j]) (v:=.deep vv (qR us j)) (row:=none) (X:=λ_=>False) fQ rfl hb (bV w none) (λk e=>by cases e) (λb hb=>hb.elim)
      (λb hb'=>by
       rw[aX]at hb';rcases hb' with hb' | ⟨i',hb'⟩
       .exact .inl (aX.2 (.inl hb'))
       .unfold qR at hb';split at hb'
        .cases hb'
        .exact .inl (aX.2 (.inr ⟨i',hb'⟩)))
      (λx y c=>dY.js hb (.inl rfl) c) (D.open hdj o1)
     have ok3:=ok2.apf (r:=.row t2 e xs) (v:=.row z) (λb hb'=>by
      rw[bg]at hb';rw[<-hus]at hb';have hu:(RV.deep vv us).has b:=aX.2 (.inr ⟨j,hb'⟩);obtain⟨p1,p2,p3⟩:=aj.ok.own r _ _ b fQ rfl hb hu;refine⟨p1,p2,p3,λj' rj vj ej lj jr hbj=>?_⟩
      by_cases hj':j'=r
      .subst hj';rw[qA (by have:=(A8.1 hb).1;exact this)]at jr
       cases jr;rw[aX]at hbj;rcases hbj with hbj | ⟨i',hbj⟩
       .obtain⟨g,cap,cur,e0,_,_,e3,_,e5,_⟩:=D.third o2;rw[e0,aY (n:=l.length) e3.1]at hbj;cases hbj;exact e5 j hb'
       .unfold qR at hbj;split at hbj
        .cases hbj
        .rename_i hi';exact hi' (D.1 i' j b hbj hb')
      .rw[mX (Ne.symm hj')]at jr;rw[mX (Ne.symm hj'),Dj]at ej;cases hh:(eff s.gl s.T)[j']? with
       | none=>rw[hh]at ej;cases ej
       | some r0=>
         rw[hh]at ej;cases ej;exact hj' (aj.ok.inj j' r _ _ _ _ b hh (by rw[<-pX (uI r)];exact lj) fQ rfl jr hb hbj hu)) (by rw[<-hus];exact kD)
     have hlen:aQ s.T=(β.set r (.deep vv (qR us j))).length:=by rw[wW,aj.ok.len,iK,bF]
     refine⟨_,(β.set r (.deep vv (qR us j)))++[.row z],k,?_,rfl⟩;have hC:∀x y,dY h β x y->dY h ((β.set r (.deep vv (qR us j)))++[.row z]) (uI r x) y:=λx y c=>(dY.js hb (.inl rfl) c).mono (FH.le.refl h) (Ext.append _ _)
     have sm:=aj.map (f:=uI r) (T':=snoc (cZ (mT (uI r) s.T) r ([],.deep tt sh l t2 e so own [j])) ([],.row t2 e xs)) (h':=h) (β':=(β.set r (.deep vv (qR us j)))++[.row z]) (w':=w) (FH.le.refl h) (λ_=>rfl) hC (by
      rw[iP,fP,Ea];exact ok3) (λp hp=>by
      rw[gY,FI]at hp;rcases hp with hp | hp
      .rw[eY]at hp;rcases Ic hp with hp | hp
       .obtain⟨p2,h1,h2⟩:=Eb hp;rw[<-h2];exact aj.gT p2 h1
       .subst hp;rfl
      .simp at hp;subst hp;rfl)
     refine⟨sm.ok,?_,?_,sm.defers,sm.sz,?_,sm.gT⟩
     .intro t' G e' ht;rw[bC]at ht;split at ht
      .rename_i hkt;subst hkt;cases ht;refine⟨z,z1,λ_=>⟨⟨.row z,?_,rfl⟩,hone⟩,λhh=>by cases hh⟩
       rw[hlen];simp
      .exact sm.env t' G e' ht
     .intro d i hi;obtain⟨hne,hi⟩:=Aa _ _ _ _ hi;obtain⟨G,b,q1,q2⟩:=sm.gs d i hi;exact⟨G,b,by rw[bC,if_neg (Ne.symm hne)];exact q1,q2⟩
     .intro t' G e' ht;rw[bC]at ht;split at ht
      .cases ht;rfl
      .exact sm.gb _ _ _ ht
    .cases k
   .cases hq
  .cases hq
 .cases hq
abbrev Xo(s:St) (i j:Nat):List SV->(List SV->Prop)->Prop
 | [],K=>K []
 | .c (.sub i' k) :: l,K=>match Nat.beq i i' with
   | true=>k≠j/\Ur s [] i' k λe x=>Xo s i j l λr=>K (.c (.sl e x) :: r)
   | false=>False
 | v :: l,K=>match noRow v with
   | true=>match acV s [] v with
     | some v'=>Xo s i j l λr=>K (v' :: r)
     | none=>False
   | false=>False
abbrev aiq(cx:Cx) (ip:IP) (s:St) (d:Option Nat) (args:List Operand) (K:St->Prop):Prop:=match args with
 | []=>False
 | x :: r=>match bM cx s [] x with
   | some (.one (.c (.sub i j)))=>match eF s.T i with
     | some ([],.deep tt sh l t2 e so own hs)=>match dD (rP e ip.sh) (dD (iV ip.sh) (!ip.back)) with
       | false=>False
       | true=>match qQ cx s [] r with
         | none=>False
         | some vs=>(own j=true/\nM j hs=false/\j < l.length)/\∀d0:sh.den,l[j]?=some d0->match FX sh d0 so ip.sh with
           | none=>False
           | some xs=>Xo s i j vs λbs=>match xC ip.ps bs with
             | none=>False
             | some dd=>ip.pre xs dd/\match FY sh d0 so ip.sh (ip.res xs dd) with
               | some d1=>K ({ s with T:=cZ s.T i ([],.deep tt sh (l.set j d1) t2 e so own hs) }.put d [] (.gV []))
               | none=>False
     | _=>False
   | _=>False
open Classical in
noncomputable def FH.but (w:World) (u:Value):FH:=λb o=>if aA u=some b then none else vis w b o
theorem air(aj:Sat N B h0 s h β w a){vv:Value}{us:Nat->Value} (hT:(eff s.gl s.T)[i]?=some r) (hl:r.live=true) (hb:β[i]?=some (.deep vv us)):h.le (FH.but w (us j)):=by
 intro b o v hv;unfold FH.but;rw[if_neg]
 .exact aj.ok.hw b o v hv
 .intro hh;rw[(aj.ok.own i r _ b hT hl hb (aX.2 (.inr ⟨j,hh⟩))).2.2 o]at hv;cases hv
theorem I4(aj:Sat N B h0 s h β w a){i j:Nat}{vv:Value}{us:Nat->Value} (hb:β[i]?=some (.deep vv us)) (inj:∀j k b,aA (us j)=some b->aA (us k)=some b->j=k) (le:h.le (FH.but w (us j))):
 ∀{vs:List SV}{ys:List Value}{K:List SV->Prop},aS (dh h β) vs ys->Xo s i j vs K->∃bs,K bs/\aS (dh (FH.but w (us j)) []) bs ys
 | [],[],K,_,k=>⟨[],k,trivial⟩
 | x :: l,y :: ys,K,⟨c,r⟩,k=>by
   have tr:gv s.gl []=true:=rfl;unfold Xo at k;split at k
   .rename_i he;cases he
   .rename_i i' k' l' K' he;cases he;split at k
    .rename_i hi;have hi:=iC hi;subst hi;obtain⟨hk,k⟩:=k;obtain⟨e,xs,k1,k2⟩:=Cb aj k;obtain⟨bs,k3,c3⟩:=I4 aj hb inj le r k1;obtain⟨⟨vv2,uj,hb2,rfl⟩,hone⟩:=c;rw[hb]at hb2;cases hb2;obtain⟨tt,kD⟩:=k2 tr vv us hb;refine⟨_,k3,⟨?_,hone⟩,c3⟩;refine kD.sl le λb hb3 o z hz=>?_
     unfold FH.but;rw[if_neg]
     .exact hz
     .exact λhh=>hk (inj _ _ b hb3 hh)
    .cases k
   .rename_i v' l' K' hne he;cases he;split at k
    .rename_i hnr;split at k
     .rename_i v1 hv1;obtain⟨bs,k3,c3⟩:=I4 aj hb inj le r k;exact⟨_,k3,(((QI aj tr hv1 c).2 hnr).mono le (Ext.refl [])),c3⟩
     .cases k
    .cases k
theorem Xp{f:FuncId}{ip:IP} (QK:UF P cx.gd f ip) (hf:∃fn,P.funcs[f]?=some fn/\fn.body.isSome=true/\(fn.name == "runtime.NumGoroutine")=false)
 (aj:Sat N B h0 s h β w a) (hg:aI cx.gd h) (hd:kY N o.dst=true) (ho:o.op=.call c) (bQ:c.callee=.value (.func f))
 (k:aiq cx ip s o.dst (tl c.args) K):Bj P N B h0 h w a o true K:=by
 have tr:gv s.gl []=true:=rfl;unfold aiq at k;split at k
 .cases k
 rename_i x r hargs0;split at k
 .rename_i i j hx;split at k
  .rename_i tt sh l t2 e so own hs hT;split at k
   .cases k
   rename_i hck;rw[aB,aB,bY,bY]at hck;have he:e=ip.sh:=pO hck.1;subst he;have hfl:=hck.2.1;have hbk:ip.back=false:=by simpa using hck.2.2
   split at k
   .cases k
   rename_i vs hvs;obtain⟨⟨o1,o2,o3⟩,k⟩:=k;have hdj:=lN o3;have k:=k _ hdj;split at k
   .cases k
   rename_i xs hxs;have fQ:=bG hT tr;obtain⟨⟨vv,us,hb,hus⟩,_⟩:dh h β (.c (.sub i j)) (a.eval x):=aP aj hg tr hx;have D:fD h w tt sh l t2 ip.sh so own hs vv us:=aj.ok.holds i _ _ fQ hb;have kD:=D.get hdj o1 o2 hxs;have le:h.le (FH.but w (us j)):=air aj fQ rfl hb;have hav:=oK aj hg tr hvs;obtain⟨bs,k,cb⟩:=I4 aj hb D.1 le hav k;split at k
   .cases k
   rename_i dd hdd;obtain⟨aF,k⟩:=k;split at k
   .rename_i d1 hd1;intro Nx Q next
    rw[if_pos rfl];obtain⟨fn,hfn,hbody,hname⟩:=hf;have exec:(execOp a.eval o).run P w=.ok (.enter f (c.args.map a.eval)) w:=by
     simp only[execOp,ho,resolve,bQ,Act.eval,Deferred.ofValue,invoke,Sem.run_bind,Sem.run_pure,Result.andThen_ok,callFunc,run_program,hfn,hname];simp[hbody];cases hb:fn.body with
     | none=>rw[hb]at hbody;cases hbody
     | some _=>simp
    have hargs:(c.args.map a.eval)=(a.eval x :: r.map a.eval).toArray:=by
     have:c.args=(x :: r).toArray:=by
      cases hc:c.args with
      | mk q=>rw[hc]at hargs0;simp only[tl]at hargs0;rw[hargs0]
     rw[this];simp
    unfold Oper.wp;rw[exec];simp only[Oper.upon];rw[hargs];refine(QK t2 xs dd (a.eval x) _ (FH.but w (us j)) w (λb o u hu=>?_) (hg.mono le) (show Holds (FH.but w (us j)) [] w (.row t2 ip.sh xs) (.row (a.eval x)) by rw[<-hus];exact kD.move le λ_ _=>rfl) (λb hb' o=>?_) (vJ hdd cb) aF).mono ?_
    .unfold FH.but at hu;split at hu
     .cases hu
     .exact hu
    .unfold FH.but;rw[hus,if_pos hb']
    rintro en w' ⟨v',y,rfl,hgr,hv,hold',_,hb2⟩;obtain⟨rfl,rfl⟩:=hb2 hbk;have hrow':lV h w' t2 ip.sh (ip.res xs dd) (us j):=by
     have:=Holds.flat (h':=h) (show vK (.row t2 ip.sh (ip.res xs dd))=true from hfl) hold'
     rw[hus];exact this
    have D':fD h w' tt sh (l.set j d1) t2 ip.sh so own hs vv us:=D.inner hdj o1 o2 (λb hb' hx'=>by
     obtain⟨o',ho'⟩:=hx';exact hgr.block b (Dh.1 ho').1 (λhh=>hb' (by rw[hus];exact hh.symm))) (λb hb'=>by
     exact Holds.cells (h:=h) (β:=[]) (r:=.row t2 ip.sh (ip.res xs dd)) (v:=.row (us j)) hrow' rfl (bg.2 hb')) hd1 hrow'
    have ok:OK B h0 (eff s.gl (cZ s.T i ([],.deep tt sh (l.set j d1) t2 ip.sh so own hs))) h β w':=by
     rw[xB];have:=aj.ok.upd (r':=.deep tt sh (l.set j d1) t2 ip.sh so own hs) (v:=.deep vv us) fQ rfl hb hgr (λk e=>aX.2 (.inr ⟨j,by rw[hus];exact e⟩)) (λb hb=>.inl hb) (.inl rfl) (by rw[gX hb];exact D')
     rwa [gX hb]at this
    exact next _ _ _ _ _ k (FH.le.refl h) ((aj.mem ok (FH.le.refl h) (Ext.refl β) (qo aj)).put (dR hd) rfl (λ_=>⟨[],rfl,trivial⟩) λhh=>by cases hh)
   .cases k
  .cases k
 .cases k
theorem dY.us{us:Nat->Value} (hu:β[i]?=some (.deep v us)){x:SC} (c:dY h β x y):dY h (β.set i (.row v)) (uI i x) y:=by
 unfold uI;split
 .rename_i hf;cases x with
  | v _=>exact c
  | sl _ _=>exact c
  | fp _ _=>exact c
  | one _ _=>exact c
  | abs _=>exact c
  | junk=>trivial
  | own j off=>
    obtain⟨b,e,e'⟩:=c;refine⟨b,?_,e'⟩;rw[dM hu,if_neg]
    .exact e
    .rintro rfl;rw[hu]at e;cases e
  | row j=>
    obtain⟨z,e,e'⟩:=c
    by_cases hj:j=i
    .subst hj;rw[hu]at e;cases e;exact⟨.row v,by rw[dM hu,if_pos rfl],e'⟩
    .exact⟨z,by rw[dM hu,if_neg hj];exact e,e'⟩
  | jS j k sz off=>
    obtain⟨z,g,e,e',e2⟩:=c
    by_cases hj:j=i
    .subst hj;rw[hu]at e;cases e;exact⟨.row v,g,by rw[dM hu,if_pos rfl],e',e2⟩
    .exact⟨z,g,by rw[dM hu,if_neg hj];exact e,e',e2⟩
  | sub j k=>
    obtain⟨z,uj,e,e'⟩:=c;exact⟨z,uj,by rw[dM hu,if_neg (OI hf)];exact e,e'⟩
  | lQ j k m sz off=>
    obtain⟨z,uj,g,e,e'⟩:=c;exact⟨z,uj,g,by rw[dM hu,if_neg (OI hf)];exact e,e'⟩
 .trivial
theorem fD.row{s:Sh}{l:List s.den}{own:Nat->Bool}{us:Nat->Value} (x:fD h w t s l tt e so own [] v us) (le:h.le h')
 (hb:∀b,(∃j,aA (us j)=some b)->∀o z,vis w b o=some z->h' b o=some z):lV h' w t s l v/\∀g,aA v=some g->∀j,aA (us j)≠some g:=by
 obtain⟨_,_,x⟩:=x;rcases x with⟨e1,e2⟩ | ⟨ra,e1,e2⟩ | ⟨g,cap,cur,e1,q1,q2,q3,q4,q5,q6⟩
 .exact⟨.inl ⟨e1,e2⟩,λg hg=>by subst e1;simp[aA]at hg⟩
 .exact⟨.inr (.inl ⟨ra,e1,e2⟩),λg hg=>by subst e1;simp[aA]at hg⟩
 .have lc:cur.toList.length=cap * s.size:=by simpa using q4
  have hm:l.length * s.size<=cap * s.size:=yh _ q2;refine⟨.inr (.inr ⟨g,cap,cur,e1,q1,q2,q3,q4,?_⟩),λg' hg'=>?_⟩
  .refine gq.Ou (k:=s.size) (by rw[kX];omega) λj d hd=>?_
   have hj:=(A8.1 hd).1;have hm:(j+1) * s.size<=l.length * s.size:=yh _ hj;rw[wY]at hm;have e5:List.take s.size (List.drop (j * s.size) (List.take (l.length * s.size) cur.toList))=List.take s.size (List.drop (j * s.size) cur.toList):=by
    apply Ie;intro p;simp only[uY,J7];split
    .rw[if_pos (by omega)]
    .rfl
   rw[e5];exact(q6 j d hd).rd le λb hu=>hb b ⟨j,hu⟩
  .rw[e1,aY q3.1]at hg';cases hg';exact q5
theorem OK.ais(ok:OK B h0 T h β w){s:Sh}{l:List s.den}{own:Nat->Bool}{us:Nat->Value}
 (hT:T[i]?=some (.deep t s l tt e so own [])) (hu:β[i]?=some (.deep v us)):
 h.le (h.lT w λb=>∃j,aA (us j)=some b)/\OK B h0 ((T.map (mR (uI i))).set i (.row t s l)) (h.lT w λb=>∃j,aA (us j)=some b) (β.set i (.row v)) w:=by
 have hi:i < T.length:=(A8.1 hT).1;have hi':i < β.length:=by rw[ok.len];exact hi
 have hl:(ay.deep t s l tt e so own []).live=true:=rfl;have own':=λg hv=>ok.own i _ _ g hT hl hu hv
 have sub:∀{b:Nat},(∃j,aA (us j)=some b)->(RV.deep v us).has b:=λhb=>aX.2 (.inr hb)
 have le:h.le (h.lT w λb=>∃j,aA (us j)=some b):=by
  intro b o x hb;unfold FH.lT
  by_cases hbg:∃j,aA (us j)=some b
  .rw[(own' b (sub hbg)).2.2 o]at hb;cases hb
  .rw[if_neg hbg];exact hb
 have hold:fD h w t s l tt e so own [] v us:=ok.holds i _ _ hT hu;obtain⟨rh,rn⟩:=hold.row le λb hb o z hz=>by
  unfold FH.lT;rw[if_pos hb];exact hz
 have get:∀{j:Nat}{rj:ay},j≠i->((T.map (mR (uI i))).set i (.row t s l))[j]?=some rj->∃r0,T[j]?=some r0/\rj=mR (uI i) r0:=by
  intro j rj hj e;rw[mX (Ne.symm hj),Dj]at e;cases hh:T[j]? with
  | none=>rw[hh]at e;cases e
  | some r0=>rw[hh]at e;cases e;exact⟨r0,rfl,rfl⟩
 have amW:∀{b:Nat},(RV.row v).has b->(RV.deep v us).has b:=λhb=>aX.2 (.inl (bg.1 hb))
 refine⟨le,{
  below:=ok.below
  dr:=ok.dr
  len:=by simp[ok.len]
  holds:=?_
  own:=?_
  inj:=?_
  hle:=ok.hle.trans le
  hw:=?_
  hg:=?_
  kn:=ok.kn }⟩
 .intro j rj vj ej jr
  by_cases hj:j=i
  .subst hj;rw[qA (by simpa using hi)]at ej
   rw[qA hi']at jr;cases ej;cases jr;exact rh
  .obtain⟨r0,e0,rfl⟩:=get hj ej;rw[mX (Ne.symm hj)]at jr;exact(ok.holds j r0 vj e0 jr).map le (λx y c=>(dY.us hu c).mono le (Ext.refl _)) λ_ _ _=>rfl
 .intro j rj vj b ej hlj jr hb
  by_cases hj:j=i
  .subst hj;rw[qA hi']at jr;cases jr;obtain⟨a1,a2,a3⟩:=own' b (amW hb);refine⟨a1,a2,λo=>?_⟩
   unfold FH.lT;rw[if_neg,a3 o];rintro⟨j',hj'⟩;exact rn b (bg.1 hb) j' hj'
  .obtain⟨r0,e0,rfl⟩:=get hj ej;rw[mX (Ne.symm hj)]at jr;have amX:r0.live=true:=by rw[<-pX (uI i)];exact hlj
   obtain⟨a1,a2,a3⟩:=ok.own j r0 vj b e0 amX jr hb;refine⟨a1,a2,λo=>?_⟩
   unfold FH.lT;rw[if_neg,a3 o];exact λhg=>hj (ok.inj j i _ _ _ _ _ e0 amX hT hl jr hu hb (sub hg))
 .intro j k r1 r2 u1 u2 b e1 l1 e2 l2 e3 e4 b1 b2;have look:∀{m:Nat}{rm:ay}{um:RV},((T.map (mR (uI i))).set i (.row t s l))[m]?=some rm->rm.live=true->(β.set i (.row v))[m]?=some um->um.has b->∃r0 u0,T[m]?=some r0/\r0.live=true/\β[m]?=some u0/\u0.has b:=by
   intro m rm um e l e' hb
   by_cases hm:m=i
   .subst hm;rw[qA hi']at e';cases e';exact⟨_,_,hT,hl,hu,amW hb⟩
   .obtain⟨r0,e0,rfl⟩:=get hm e;rw[mX (Ne.symm hm)]at e';exact⟨r0,um,e0,by rw[<-pX (uI i)];exact l,e',hb⟩
  obtain⟨p1,p2,p3,p4,p5,p6⟩:=look e1 l1 e3 b1;obtain⟨q1,q2,q3,q4,q5,q6⟩:=look e2 l2 e4 b2;exact ok.inj j k p1 q1 p2 q2 b p3 p4 q3 q4 p5 q5 p6 q6
 .intro b o x hb;unfold FH.lT at hb;split at hb
  .exact hb
  .exact ok.hw b o x hb
 .intro b o x hb;unfold FH.lT at hb;split at hb
  .rename_i hbg;exact .inr (own' b (sub hbg)).1
  .exact ok.hg b o x hb
abbrev Iw(s:St) (i:Nat):St:=match eF s.T i with
 | some ([],.deep t sh l _ _ _ _ [])=>{ s with T:=cZ (mT (uI i) s.T) i ([],.row t sh l),env:=yT (uI i) s.env }
 | _=>s
theorem Sat.Iw(aj:Sat N B h0 s h β w a) (i:Nat):∃h' β',h.le h'/\Sat N B h0 (Iw s i) h' β' w a:=by
 unfold Go.jf.Iw;split
 .rename_i t sh l t2 e so own hT;have fQ:(eff s.gl s.T)[i]?=some (.deep t sh l t2 e so own []):=by rw[jB,<-eG,hT];rfl
  have iQ:i < β.length:=by rw[aj.ok.len];exact(A8.1 fQ).1
  have hu:=lN iQ;have hold:=aj.ok.holds i _ _ fQ hu;cases hb:β[i]with
  | blk b=>rw[hb]at hold;cases hold
  | no=>rw[hb]at hold;cases hold
  | row _=>rw[hb]at hold;cases hold
  | deep v us=>
    rw[hb]at hu;obtain⟨le,ok'⟩:=aj.ok.ais fQ hu;refine⟨_,_,le,aj.map (f:=uI i) le (λ_=>rfl) (λx y c=>(dY.us hu c).mono le (Ext.refl _)) ?_ ?_⟩
    .rw[fP,Ea];exact ok'
    .intro p hp;rw[eY]at hp;rcases Ic hp with hp | hp
     .obtain⟨q,h1,h2⟩:=Eb hp;rw[<-h2];exact aj.gT q h1
     .subst hp;rfl
 .exact⟨h,β,FH.le.refl h,aj⟩
abbrev ac5(s:St) (i:Nat):St:=match Nat.ble 1000 i with
 | true=>Iw s (i - 1000)
 | false=>KU s i
abbrev KZ(s:St):List Nat->St
 | []=>s
 | i :: r=>KZ (ac5 s i) r
theorem Sat.KZ:∀{l:List Nat}{s:St}{h:FH}{β:List RV},Sat N B h0 s h β w a->∃h' β',h.le h'/\Sat N B h0 (KZ s l) h' β' w a
 | [],s,h,β,aj=>⟨h,β,FH.le.refl h,aj⟩
 | i :: r,s,h,β,aj=>by
   have h1:∃h' β',h.le h'/\Sat N B h0 (ac5 s i) h' β' w a:=by
    unfold ac5;split
    .exact aj.Iw _
    .obtain⟨h',le,aW⟩:=aj.aio i;exact⟨h',β,le,aW⟩
   obtain⟨h1,β1,le1,jl⟩:=h1;obtain⟨h2,β2,iD,bJ⟩:=Sat.KZ (l:=r) jl;exact⟨h2,β2,le1.trans iD,bJ⟩
abbrev vP(s:St):List (Nat×TypeId×Sh×Nat)->St
 | []=>s
 | (i,tt,e,so) :: l=>vP (KY s i tt e so) l
theorem Sat.vP:∀(l:List (Nat×TypeId×Sh×Nat)){s:St}{β:List RV},Sat N B h0 s h β w a->∃β',Sat N B h0 (vP s l) h β' w a
 | [],s,β,aj=>⟨β,aj⟩
 | (i,tt,e,so) :: l,s,β,aj=>by
   obtain⟨β1,jl⟩:=aj.KY i tt e so;exact Sat.vP l jl
theorem OK.I5(ok:OK B h0 T h β w){r':ay} (hT:T[i]?=some r) (hl:r.live=true) (hold:∀v,Holds h β w r v->Holds h β w r' v):OK B h0 (T.set i r') h β w:=by
 have hi:i < T.length:=(A8.1 hT).1;have key:∀{m:Nat}{rm:ay},(T.set i r')[m]?=some rm->rm.live=true->∃rm',T[m]?=some rm'/\rm'.live=true:=by
  intro m rm e l
  by_cases hm:m=i
  .subst hm;exact⟨r,hT,hl⟩
  .rw[mX (Ne.symm hm)]at e;exact⟨rm,e,l⟩
 exact {
  below:=ok.below
  dr:=ok.dr
  len:=by simp[ok.len]
  holds:=by
   intro j rj vj ej jr
   by_cases hj:j=i
   .subst hj;rw[qA hi]at ej;cases ej;exact hold vj (ok.holds j r vj hT jr)
   .rw[mX (Ne.symm hj)]at ej;exact ok.holds j rj vj ej jr
  own:=by
   intro j rj vj b ej l jr hb;obtain⟨rm,e1,e2⟩:=key ej l;exact ok.own j rm vj b e1 e2 jr hb
  inj:=by
   intro j k r1 r2 u v b e1 l1 e2 l2 e3 e4 b1 b2;obtain⟨q1,f1,f2⟩:=key e1 l1;obtain⟨q2,g1,g2⟩:=key e2 l2;exact ok.inj j k q1 q2 u v b f1 f2 g1 g2 e3 e4 b1 b2
  hle:=ok.hle
  hw:=ok.hw
  hg:=ok.hg
  kn:=ok.kn }
abbrev La(s:St) (i c:Nat) (t:TypeId) (sh:Sh):St:=match eF s.T i with
 | some ([],.blk t' cs)=>match eF cs c with
   | some (.v (.slice none 0 0))=>{ s with T:=snoc (cZ s.T i ([],.blk t' (cZ cs c (.row (aQ s.T))))) ([],.row t sh []) }
   | _=>s
 | _=>s
theorem aS.cZ{α β:Type}{R:α->β->Prop}{y:α}{z:β} (hR:R y z):∀{l:List α}{m:List β}{c:Nat},m[c]?=some z->aS R l m->aS R (jf.cZ l c y) m
 | [],[],_,h,_=>by simp at h
 | _ :: _,_ :: _,0,h,⟨_,b⟩=>by simp at h;subst h;exact⟨hR,b⟩
 | _ :: _,_ :: _,c+1,h,⟨a,b⟩=>⟨a,aS.cZ hR (by simpa using h) b⟩
theorem Sat.La(aj:Sat N B h0 s h β w a) (i c:Nat) (t:TypeId) (sh:Sh):∃β',Sat N B h0 (La s i c t sh) h β' w a:=by
 unfold jf.La;split
 .rename_i t' cs hT;split
  .rename_i hc;have fQ:=bG hT (show gv s.gl []=true from rfl)
   have ok1:OK B h0 (eff s.gl s.T++[.row t sh []]) h (β++[.row (.slice none 0 0)]) w:=aj.ok.add (r:=.row t sh []) (v:=.row (.slice none 0 0)) (bV w none) (λb hb=>by rw[bg]at hb;simp[aA]at hb) (.inl ⟨rfl,rfl⟩)
   have hi:=(A8.1 fQ).1;have hlen:aQ s.T=β.length:=by rw[aj.ok.len,iK,bF]
   have hT1:(eff s.gl s.T++[.row t sh []])[i]?=some (.blk t' cs):=by rw[VJ hi];exact fQ
   have ok2:=ok1.I5 (r':=.blk t' (jf.cZ cs c (.row (aQ s.T)))) hT1 rfl λv hv=>by
    cases v with
    | blk b=>
      obtain⟨ys,e1,al⟩:=hv;refine⟨ys,e1,?_⟩;obtain⟨y,hy,hcn⟩:=al.get (show cs[c]?=some (.v (.slice none 0 0)) by rw[<-eG];exact hc)
      obtain rfl:y=.slice none 0 0:=hcn.1.1;refine aS.cZ ?_ hy al;refine⟨⟨.row (.slice none 0 0),?_,rfl⟩,rfl,rfl⟩;rw[hlen];simp
    | row _=>exact hv.elim
    | deep _ _=>exact hv.elim
    | no=>exact hv.elim
   refine⟨β++[.row (.slice none 0 0)],aj.mem ?_ (FH.le.refl h) (Ext.append _ _) λp hp=>?_⟩
   .rw[iP,fP];have e:((eff s.gl s.T)++[ay.row t sh []]).set i (.blk t' (jf.cZ cs c (.row (aQ s.T))))=(eff s.gl s.T).set i (.blk t' (jf.cZ cs c (.row (aQ s.T))))++[.row t sh []]:=by rw[List.set_append_left _ _ hi]
    rw[e]at ok2;exact ok2
   .rw[gY,FI]at hp;rcases hp with hp | hp
    .rw[eY]at hp;rcases Ic hp with hp | hp
     .exact aj.gT p hp
     .subst hp;rfl
    .simp at hp;subst hp;rfl
  .exact⟨β,aj⟩
 .exact⟨β,aj⟩
abbrev GL(s:St):List (Nat×Nat×TypeId×Sh)->St
 | []=>s
 | (i,c,t,sh) :: l=>GL (La s i c t sh) l
theorem Sat.GL:∀(l:List (Nat×Nat×TypeId×Sh)){s:St}{β:List RV},Sat N B h0 s h β w a->∃β',Sat N B h0 (GL s l) h β' w a
 | [],s,β,aj=>⟨β,aj⟩
 | (i,c,t,sh) :: l,s,β,aj=>by
   obtain⟨β1,jl⟩:=aj.La i c t sh;exact Sat.GL l jl
theorem GN{dT sT:TypeId}{i:TI} (k:aN P el i) (hu:P.underlying dT=some (.slice el)){d b:Option Addr}{dLen dCap sLen sCap:Nat} (hn:Nat.min sLen dLen=0):
 (Builtin.copy_ #[dT,sT] ty #[.slice d dLen dCap,.slice b sLen sCap]).run P w=.ok (goInt 0) w:=by
 have hl:∀(x:Addr),(loadCells x 0).run P w=.ok #[] w:=λx=>by simpa using run_loadCells_list (P:=P) w x [] (by simp)
 cases d<;>cases b<;>simp[Builtin.copy_,run_underlying hu,Builtin.lenOf,Builtin.firstCells,run_sizeOf k,hn,storeCells,hl]
theorem UN{dT sT:TypeId}{i:TI} (k:aN P el i) (hu:P.underlying dT=some (.slice el)){dLen dCap:Nat}{b:Addr}{sLen sCap:Nat}{cur:Array Value}
 (hg:w.heap[g]?=some (.cells cur t (0,0))) (hn:cs.length=Nat.min sLen dLen * i.size) (hsrc:∀j v,cs[j]?=some v->w.cell? (b.add j)=some v) (hfit:cs.length<=cur.size) (h1:∀v∈cs,v.oneCell'=true):
 (Builtin.copy_ #[dT,sT] ty #[.slice (some ⟨g,0,none⟩) dLen dCap,.slice (some b) sLen sCap]).run P w=.ok (goInt (Nat.min sLen dLen)) (w.setRow g (cs++cur.toList.drop cs.length).toArray):=by
 have hl:=run_loadCells_list (P:=P) w b cs hsrc;have hst:=run_storeCells_at P g 0 t cs 0 cur w hg (by simpa using hfit) h1
 simp only[Ug,Dk,Ud,TS]at hst;simp[Builtin.copy_,run_underlying hu,Builtin.lenOf,Builtin.firstCells,run_sizeOf k,<-hn,hl,hst]
abbrev QW(cx:Cx) (s:St) (d:Option Nat) (t:TypeId) (x y:Operand) (K:St->Prop):Prop:=iM cx t λel ie sh=>match bM cx s [] x with
 | some (.one (.c (.row r)))=>match eF s.T r with
   | some ([],.row tt fG l1)=>match jC (.sl fG) l1 (.sl sh) with
     | some l=>match bM cx s [] y with
       | some (.one v)=>match Oq s sh v with
         | some l2=>K ({ s with T:=cZ s.T r ([],.row tt sh (l2.take l.length++l.drop l2.length)) }.put d [] (vI .i64 (Nat.min l2.length l.length)))
         | none=>False
       | _=>False
     | none=>False
   | _=>False
 | _=>False
def jU(a b:Int):Int:=if b < a then b else a
abbrev ac6(cx:Cx) (s:St) (d:Option Nat) (x y:Operand) (K:St->Prop):Prop:=match bM cx s [] x with
 | some (.one (.c (.v (.int .i64 a))))=>match bM cx s [] y with
   | some (.one (.c (.v (.int .i64 b))))=>K (s.put d [] (vI .i64 (jU a b)))
   | _=>False
 | _=>False
theorem Xq(aj:Sat N B h0 s h β w a) (hg:aI cx.gd h) (hd:kY N o.dst=true){x y:Operand} (ho:o.op=.call c) (bQ:c.callee=.builtin .min) (ha:c.args=#[x,y])
 (k:ac6 cx s o.dst x y K):fV P N B h0 h w a o (gv s.gl []) K:=by
 have tr:gv s.gl []=true:=rfl;unfold ac6 at k;split at k
 .rename_i n hx;have ex:a.eval x=.int .i64 n:=(aP aj hg tr hx:dh h β (.c (.v (.int .i64 n))) (a.eval x)).1.1;split at k
  .rename_i m hy;have ey:a.eval y=.int .i64 m:=(aP aj hg tr hy:dh h β (.c (.v (.int .i64 m))) (a.eval y)).1.1;refine mG aj k rfl (by rw[ho];simp[quietly,bQ]) (.inl ?_) (FH.le.refl h) (aj.put (G:=[]) (e:=vI .i64 (jU n m)) (z:=.int .i64 (jU n m)) (dR hd) rfl (λ_=>⟨⟨rfl,bH _ _⟩,bH _ _⟩) λhh=>by cases hh)
   simp[execOp,ho,resolve,bQ,ha,invoke,builtin,ex,ey,Builtin.min_,Builtin.min2,jU]
  .cases k
 .cases k
theorem UO(aj:Sat N B h0 s h β w a) (hg:aI cx.gd h) (hd:kY N o.dst=true){x y:Operand} (ho:o.op=.call c) (bQ:c.callee=.builtin .max) (ha:c.args=#[x,y])
 (k:Oz cx s o.dst x y K):fV P N B h0 h w a o (gv s.gl []) K:=by
 have tr:gv s.gl []=true:=rfl;unfold Oz at k;split at k
 .rename_i n hx;have ex:a.eval x=.int .i64 n:=(aP aj hg tr hx:dh h β (.c (.v (.int .i64 n))) (a.eval x)).1.1;split at k
  .rename_i m hy;have ey:a.eval y=.int .i64 m:=(aP aj hg tr hy:dh h β (.c (.v (.int .i64 m))) (a.eval y)).1.1;refine mG aj k rfl (by rw[ho];simp[quietly,bQ]) (.inl ?_) (FH.le.refl h) (aj.put (G:=[]) (e:=vI .i64 (dO n m)) (z:=.int .i64 (dO n m)) (dR hd) rfl (λ_=>⟨⟨rfl,bH _ _⟩,bH _ _⟩) λhh=>by cases hh)
   simp[execOp,ho,resolve,bQ,ha,invoke,builtin,ex,ey,Builtin.max_,Builtin.max2,dO]
  .cases k
 .cases k
theorem UQ(hc:bT P cx.ti) (aj:Sat N B h0 s h β w a) (hg:aI cx.gd h) (hd:kY N o.dst=true){t':TypeId}{x y:Operand} (ho:o.op=.call c) (bQ:c.callee=.builtin .copy) (ha:c.args=#[x,y]) (hat:c.argTypes=#[t,t'])
 (k:QW cx s o.dst t x y K):fV P N B h0 h w a o (gv s.gl []) K:=by
 have tr:gv s.gl []=true:=rfl;unfold QW at k;unfold iM at k;split at k
 .rename_i el hde;have hu:=bK hc hde (by simp)
  split at k
  .cases k
  rename_i ie hie;have tie:=hc.get hie;split at k
  .cases k
  rename_i sh hsh;split at k
  .rename_i hz;rw[aB,aB,bY,bY]at hz;have hz1:sh.size=ie.size:=iC hz.1;split at k
   .rename_i r hx;split at k
    .rename_i tt fG l1 hT;split at k
     .rename_i l hl;obtain⟨e1,e2⟩:=oI hl;subst e1;simp only at e2;subst e2;split at k
      .rename_i v hv;split at k
       .rename_i l2 hl2;have Gz:=(aP aj hg tr hx:dh h β (.c (.row r)) (a.eval x));have cv:=aP aj hg tr hv;have fQ:=bG hT tr;have hb:=aj.ok.row_of fQ Gz.1;have kD:lV h w tt fG l1 (a.eval x):=aj.ok.holds r _ _ fQ hb;have src:=Ce aj hl2 cv;have exec:∀{w':World},(Builtin.copy_ #[t,t'] o.type #[a.eval x,a.eval y]).run P w=.ok (goInt (Nat.min l2.length l1.length)) w'->(execOp a.eval o).run P w=.ok (.value (goInt (Nat.min l2.length l1.length))) w':=by
         intro w' r0;simp only[execOp,ho,resolve,bQ,ha,hat,invoke,builtin,Sem.run_bind,Sem.run_pure,Result.andThen_ok];simp[r0]
        have fin:∀{w':World}{row:Option Nat},Gb w w' row->(∀k,row=some k->aA (a.eval x)=some k)->(Builtin.copy_ #[t,t'] o.type #[a.eval x,a.eval y]).run P w=.ok (goInt (Nat.min l2.length l1.length)) w' ->
         lV h w' tt fG (l2.take l1.length++l1.drop l2.length) (a.eval x)->fV P N B h0 h w a o (gv s.gl []) K:=by
         intro w' row hgr hrw r0 hr;have ok:OK B h0 (eff s.gl (cZ s.T r ([],.row tt fG (l2.take l1.length++l1.drop l2.length)))) h β w':=by
          rw[xB];have:=aj.ok.upd (r':=.row tt fG (l2.take l1.length++l1.drop l2.length)) (v:=.row (a.eval x)) fQ rfl hb hgr (λk e=>bg.2 (hrw k e)) (λb hb=>.inl hb) (.inl rfl) hr
          rwa [gX hb]at this
         exact mG aj k rfl (by rw[ho];simp[quietly,bQ]) (.inl (exec r0)) (FH.le.refl h) ((aj.mem ok (FH.le.refl h) (Ext.refl β) (qo aj)).put (G:=[]) (e:=vI .i64 (Nat.min l2.length l1.length)) (dR hd) rfl (λ_=>⟨⟨rfl,bH _ _⟩,bH _ _⟩) λhh=>by cases hh)
        have zero:∀(ad ab:Option Addr) (dC sC:Nat),a.eval x=.slice ad l1.length dC->a.eval y=.slice ab l2.length sC->(l1=[]\/l2=[])->fV P N B h0 h w a o (gv s.gl []) K:=by
         intro ad ab dC sC ex ey h0';have hm:Nat.min l2.length l1.length=0:=by rcases h0' with rfl | rfl<;>simp
         refine fin (bV w none) (λk e=>by cases e) ?_ ?_
         .rw[hm,ex,ey];exact GN tie hu hm
         .have:l2.take l1.length++l1.drop l2.length=l1:=by rcases h0' with rfl | rfl<;>simp
          rw[this];exact kD
        rcases kD with⟨e1,e2⟩ | ⟨ra,e1,e2⟩ | ⟨g,cap,cur,e1,q1,q2,q3,q4,q5⟩
        .rcases src with⟨s1,s2⟩ | ⟨sa,sc,s1,s2⟩ | ⟨sb,so,sc,cs,s1,s2,s3⟩
         .exact zero none none 0 0 (by rw[e1,e2];rfl) (by rw[s1,s2];rfl) (.inl e2)
         .exact zero none (some sa) 0 sc (by rw[e1,e2];rfl) (by rw[s1,s2];rfl) (.inl e2)
         .exact zero none _ 0 sc (by rw[e1,e2];rfl) s1 (.inl e2)
        .rcases src with⟨s1,s2⟩ | ⟨sa,sc,s1,s2⟩ | ⟨sb,so,sc,cs,s1,s2,s3⟩
         .exact zero (some ra) none 0 0 (by rw[e1,e2];rfl) (by rw[s1,s2];rfl) (.inl e2)
         .exact zero (some ra) (some sa) 0 sc (by rw[e1,e2];rfl) (by rw[s1,s2];rfl) (.inl e2)
         .exact zero (some ra) _ 0 sc (by rw[e1,e2];rfl) s1 (.inl e2)
        .rcases src with⟨s1,s2⟩ | ⟨sa,sc,s1,s2⟩ | ⟨sb,so,sc,cs,s1,s2,s3⟩
         .exact zero _ none cap 0 e1 (by rw[s1,s2];rfl) (.inr s2)
         .exact zero _ (some sa) cap sc e1 (by rw[s1,s2];rfl) (.inr s2)
         .have hcs:=gq.size (λ_ _=>Rd.size fG) s2
          have lc:cur.toList.length=cap * fG.size:=by simpa using q4
          have hm1:l1.length * fG.size<=cap * fG.size:=yh _ q2;generalize hm:Nat.min l2.length l1.length=m at *;have hm2:m<=l2.length:=by rw[<-hm];exact Nat.min_le_left _ _
          have hm3:m<=l1.length:=by rw[<-hm];exact Nat.min_le_right _ _
          have hm4:m * fG.size<=l2.length * fG.size:=yh _ hm2;have hm5:m * fG.size<=l1.length * fG.size:=yh _ hm3;have ht:=gq.uq (λ_ _=>Rd.size fG) s2 (a:=0) (b:=m) (Ko _) hm2
          simp only[NW,NR]at ht;have hlen:(cs.take (m * fG.size)).length=m * fG.size:=by rw[kX];omega
          have r0:=UN (P:=P) (w:=w) (dT:=t) (sT:=t') (ty:=o.type) tie hu (g:=g) (dLen:=l1.length) (dCap:=cap) (b:=⟨sb,so,none⟩) (sLen:=l2.length) (sCap:=sc) (cs:=cs.take (m * fG.size)) q1 (by rw[hlen,hm,hz1]) (λj v hj=>by
           rw[uY]at hj;split at hj
           .have:=s3 j v hj;have ea:(⟨sb,so,none⟩:Addr).add j=⟨sb,so+j,none⟩:=by unfold Addr.add;split<;>simp_all
            rw[ea];exact this
           .cases hj) (by rw[hlen];rw[<-TR,lc];omega) (λv hv=>(gq.all (λ_ _=>Rd.one fG) ht v hv).2)
          rw[hm]at r0;refine fin (row:=some g) (jc w g _) (λk e=>by cases e;rw[e1];exact aY q3.1) (by rw[e1,s1];exact r0) ?_
          have el:(l2.take l1.length++l1.drop l2.length)=l2.take m++l1.drop m:=by
           rcases Nat.le_total l2.length l1.length with hh | hh
           .have:m=l2.length:=by rw[<-hm];exact Ih hh
            rw[this,wB hh,wB (pz _)]
           .have:m=l1.length:=by rw[<-hm];exact Nat.min_eq_right hh
            rw[this,VK hh,VK (pz _)]
          rw[el];have ll:(l2.take m++l1.drop m).length=l1.length:=by rw[kC,kX,yj];omega
          refine .inr (.inr ⟨g,cap,_,by rw[ll];exact e1,setRow_heap w g _ _ tt (0,0) q1,by rw[ll];exact q2,q3,?_,?_⟩)
          .simp only[FT,kC,yj,hlen];omega
          .rw[ll];have h2:=gq.split (λ_ _=>Rd.size fG) (l:=l1.take m) (l':=l1.drop m) (by rw[VL];exact q5)
           have h3:=ht.append h2.2;have e3:List.take (l1.length * fG.size) (cs.take (m * fG.size)++List.drop (cs.take (m * fG.size)).length cur.toList)=cs.take (m * fG.size)++List.drop ((l1.take m).length * fG.size) (List.take (l1.length * fG.size) cur.toList):=by
            rw[hlen,kX,Ih hm3];apply Ie;intro p;simp only[A91,uY,J7,kX,lc]
            repeat' split
            all_goals first | rfl | omega | (congr 1;omega) | (exfalso;omega) | skip
           simp only at e3 ⊢;rw[e3];exact h3
       .cases k
      .cases k
     .cases k
    .cases k
   .cases k
  .cases k
 .cases k
end
abbrev gets(k:IntKind) (l:List Int):Nat->Nat->List SC
 | _,0=>[]
 | j,m+1=>.v (.int k (l.getD j 0)) :: gets k l (j+1) m
abbrev Bl:(s:Sh)->s.den->Option (List SC)
 | .any,v=>some [.v v]
 | .pair a b,d=>match Bl a d.1 with
   | some x=>match Bl b d.2 with
     | some y=>some (fA x y)
     | none=>none
   | none=>none
 | .arr n (.int k),l=>some (gets k l 0 n)
 | s,d=>flat s d
theorem QX{h:FH}{β:List RV}{k:IntKind}{l0:List Int}:∀{l:List Int}{cs:List Value}{j:Nat},gq (Rd h (.int k)) cs l->l0.drop j=l->aS (λx y=>dY h β x y/\dF y) (gets k l0 j l.length) cs
 | [],cs,j,r,e=>by rw[show cs=[] from r];trivial
 | x :: l,cs,j,⟨c,cs',e1,r1,r2⟩,e=>by
   have hx:l0[j]?=some x:=by
    have:(l0.drop j)[0]?=some x:=by rw[e];rfl
    simpa using this
   have hd:l0.drop (j+1)=l:=by
    have:(l0.drop j).drop 1=l:=by rw[e];rfl
    simpa using this
   have e2:c=[.int k x]:=r1;subst e2;subst e1;have hg:l0.getD j 0=x:=by rw[J5,hx];rfl
   show aS _ (SC.v (.int k (l0.getD j 0)) :: gets k l0 (j+1) l.length) (.int k x :: cs');rw[hg];exact⟨⟨⟨rfl,bH _ _⟩,bH _ _⟩,QX r2 hd⟩
theorem yV{h:FH}{β:List RV}:∀(s:Sh){d:s.den}{cs:List Value}{xs:List SC},Bl s d=some xs->Rd h s cs d->aS (λx y=>dY h β x y/\dF y) xs cs
 | .any,v,cs,xs,e,r=>by simp[Bl]at e;subst e;rw[show cs=[_] from r.1];exact⟨⟨⟨rfl,r.2⟩,r.2⟩,trivial⟩
 | .pair a b,(x,y),cs,xs,e,r=>by
   obtain⟨c1,c2,rfl,r1,r2⟩:=r;unfold Bl at e;split at e
   .rename_i p hp;split at e
    .rename_i q hq;cases e;rw[fM];exact aS.cat (yV a hp r1) (yV b hq r2)
    .cases e
   .cases e
 | .arr n (.int k),l,cs,xs,e,⟨r1,r2⟩=>by
   simp[Bl]at e;subst e;have hl:List.length l=n:=r1;have:=QX (β:=β) (j:=0) r2 rfl
   rwa [hl]at this
 | .int k,d,cs,xs,e,r=>gu _ e r
 | .bool,d,cs,xs,e,r=>gu _ e r
 | .str,d,cs,xs,e,r=>gu _ e r
 | .sl s,d,cs,xs,e,r=>gu _ e r
 | .unit,d,cs,xs,e,r=>gu _ e r
 | .mp k s,d,cs,xs,e,r=>gu _ e r
 | .arr n .bool,d,cs,xs,e,r=>gu _ e r
 | .arr n .str,d,cs,xs,e,r=>gu _ e r
 | .arr n .any,d,cs,xs,e,r=>gu _ e r
 | .arr n (.sl s),d,cs,xs,e,r=>gu _ e r
 | .arr n .unit,d,cs,xs,e,r=>gu _ e r
 | .arr n (.mp k s),d,cs,xs,e,r=>gu _ e r
 | .arr n (.pair a b),d,cs,xs,e,r=>gu _ e r
 | .arr n (.arr m s),d,cs,xs,e,r=>gu _ e r
abbrev cellS(s:St) (i:Nat):St:=match eF s.T i with
 | some ([],.obj t sh d)=>match Bl sh d with
   | some cs=>{ s with T:=cZ s.T i ([],.blk t cs) }
   | none=>s
 | _=>s
abbrev ait:SV->Option (List SC)
 | .agg xs=>some xs
 | .dat s d=>Bl s d
 | _=>none
theorem ac7{v:SV}{xs:List SC} (e:ait v=some xs) (c:dh h β v y):dh h β (.agg xs) y:=by
 unfold ait at e;split at e
 .cases e;exact c
 .obtain⟨_,cs,ey,r⟩:=c;exact⟨cs,ey,yV _ e r⟩
 .cases e
abbrev aiu:Sh->Nat->Option Nat
 | .any,n=>some n
 | .pair a b,n=>match aiu a n with
   | some m=>some m
   | none=>aiu b (n+a.size)
 | _,_=>none
abbrev ptA(c:Nat) (ss:List Sh) (vs:List SV) (x:Value):Option (bU ss):=match vs with
 | .agg xs :: r=>xC ss (.agg (cZ xs c (.v x)) :: r)
 | _=>none
abbrev ptR(c r:Nat) (x:Value) (e:aZ) (K:aZ->Prop):Prop:=match e with
 | .one (.agg zs)=>match eF zs c with
   | some (.v z)=>z=x/\K (.one (.agg (cZ zs c (.row r))))
   | _=>False
 | .gV (.agg zs :: us)=>match eF zs c with
   | some (.v z)=>z=x/\K (.gV (.agg (cZ zs c (.row r)) :: us))
   | _=>False
 | _=>False
abbrev ptK(cx:Cx) (ct:CT) (c:Nat) (s:St) (d:Option Nat) (args:List Operand) (K:St->Prop):Prop:=match qQ cx s [] args with
 | some vs=>match vs with
   | .agg xs :: _=>match eF xs c with
     | some (.row r)=>∀x:Value,match ptA c ct.ps vs x with
       | some dd=>match(ct.res dd).1 with
         | []=>ct.pre dd/\ptR c r x (ct.res dd).2 λe=>K (s.put d [] e)
         | _=>False
       | none=>False
     | _=>False
   | _=>False
 | none=>False
section
variable {cx:Cx}{P:Program}{N:Nat}{B:Base}{h0:FH}{s:St}{h:FH}{β:List RV}{w:World}{a:Act}{o:Oper}{K:St->Prop}
theorem Sat.cellS(aj:Sat N B h0 s h β w a) (i:Nat):Sat N B h0 (cellS s i) h β w a:=by
 unfold Go.jf.cellS;split
 .rename_i t sh d hT;split
  .rename_i cs hcs;have fQ:=bG hT (show gv s.gl []=true from rfl)
   refine aj.mem ?_ (FH.le.refl h) (Ext.refl β) λp hp=>?_
   .rw[fP];refine aj.ok.I5 fQ rfl λv hv=>?_
    cases v with
    | blk b=>
      obtain⟨ys,e,r⟩:=hv;exact⟨ys,e,yV sh hcs r⟩
    | row _=>exact hv.elim
    | deep _ _=>exact hv.elim
    | no=>exact hv.elim
   .rw[eY]at hp;rcases Ic hp with hp | hp
    .exact aj.gT p hp
    .subst hp;rfl
  .exact aj
 .exact aj
theorem Ed{h h':FH}{β β':List RV} (le:h.le h'):∀{ss:List Sh}{d:bU ss}{ys:List Value},aS (dh h β) (fC ss d) ys->aS (dh h' β') (fC ss d) ys
 | [],_,[],_=>trivial
 | [],_,_ :: _,x=>x.elim
 | _ :: _,_,[],x=>x.elim
 | s :: l,d,y :: ys,⟨x,r⟩=>by
   obtain⟨cs,rfl,rd⟩:=Aj s x;exact⟨jh s (rd.mono le),Ed le r⟩
theorem aS.set1{α β:Type}{R:α->β->Prop}{x:α}{y:β}:∀{l:List α}{m:List β}{c:Nat},aS R l m->m[c]?=some y->R x y->aS R (l.set c x) m
 | [],[],_,_,e,_=>by simp at e
 | _ :: _,z :: m,0,⟨_,r⟩,e,hx=>by simp at e;subst e;exact⟨hx,r⟩
 | _ :: _,_ :: _,c+1,⟨p,r⟩,e,hx=>⟨p,aS.set1 r (by simpa using e) hx⟩
theorem aiv{c r:Nat}{x:Value}{e:aZ}{K:aZ->Prop}{β':List RV} (k:ptR c r x e K) (he:jF h' β' e y) (hr:dY h' β' (.row r) x) (hx:dF x):∃e',K e'/\jF h' β' e' y:=by
 unfold ptR at k;split at k
 .rename_i zs;split at k
  .rename_i z hz;obtain⟨ez,k⟩:=k;subst ez;obtain⟨ys,ey,al⟩:=(he:dh h' β' (.agg zs) y);obtain⟨u,hu,hc⟩:=al.get (show zs[c]?=some (.v z) by rw[<-eG];exact hz)
   obtain⟨⟨rfl,_⟩,_⟩:=hc;exact⟨_,k,ys,ey,by rw[eY];exact al.set1 hu ⟨hr,hx⟩⟩
  .cases k
 .rename_i zs us;split at k
  .rename_i z hz;obtain⟨ez,k⟩:=k;subst ez;obtain⟨ys,ey,al⟩:=(he:∃ys,y=.tuple ys.toArray/\aS (dh h' β') (.agg zs :: us) ys);cases ys with
   | nil=>exact al.elim
   | cons y1 ys=>
     obtain⟨⟨ys1,ey1,al1⟩,al2⟩:=al;obtain⟨u,hu,hc⟩:=al1.get (show zs[c]?=some (.v z) by rw[<-eG];exact hz)
     obtain⟨⟨rfl,_⟩,_⟩:=hc;exact⟨_,k,y1 :: ys,ey,⟨ys1,ey1,by rw[eY];exact al1.set1 hu ⟨hr,hx⟩⟩,al2⟩
  .cases k
 .cases k
theorem ac8{ct:CT}{f:FuncId}{cc:Nat} (hct:II P cx.gd f ct) (aj:Sat N B h0 s h β w a) (hg:aI cx.gd h) (hd:kY N o.dst=true) (ho:o.op=.call c) (bQ:c.callee=.value (.func f))
 (hf:∃fn,P.funcs[f]?=some fn/\fn.body.isSome=true/\(fn.name == "runtime.NumGoroutine")=false)
 (k:ptK cx ct cc s o.dst (tl c.args) K):fV P N B h0 h w a o true K:=by
 have tr:gv s.gl []=true:=rfl;unfold ptK at k;split at k
 .rename_i vs hvs;have hav:=oK aj hg tr hvs;split at k
  .rename_i xs rest;split at k
   .rename_i r hr;generalize hl:(tl c.args).map a.eval=ys at hav;cases ys with
    | nil=>exact hav.elim
    | cons y0 ys=>
      obtain⟨⟨zs,ey,al⟩,hrest⟩:=hav;obtain⟨x,hx,cx1,ox⟩:=al.get (show xs[cc]?=some (.row r) by rw[<-eG];exact hr)
      have k:=k x;unfold ptA at k;split at k
      .rename_i dd hdd;simp only at hdd;have args:aS (dh h β) (.agg (cZ xs cc (.v x)) :: rest) (y0 :: ys):=⟨⟨zs,ey,by rw[eY];exact al.set1 hx ⟨⟨rfl,ox⟩,ox⟩⟩,hrest⟩
       have args:=Ed (β':=[]) (FH.le.refl h) (vJ hdd args);split at k
       .rename_i hres;obtain⟨fn,hfn,hbody,hname⟩:=hf;intro Nx Q next
        rw[if_pos rfl];have exec:(execOp a.eval o).run P w=.ok (.enter f (c.args.map a.eval)) w:=by
         simp only[execOp,ho,resolve,bQ,Act.eval,Deferred.ofValue,invoke,Sem.run_bind,Sem.run_pure,Result.andThen_ok,callFunc,run_program,hfn,hname];simp[hbody];cases hb:fn.body with
         | none=>rw[hb]at hbody;cases hbody
         | some _=>simp
        have hargs:c.args.map a.eval=(y0 :: ys).toArray:=by
         rw[<-hl];cases c.args with
         | mk l=>simp[tl]
        unfold Oper.wp;rw[exec];simp only[Oper.upon];rw[hargs];refine(hct dd _ h w aj.ok.hw hg args k.1).mono ?_;rintro en w' ⟨h',β',y,rfl,ok',he⟩;rw[hres]at ok';have ok:=aj.ok.call ok' ok'.hle (λj r v _ hh=>hh.shift) ok'.hw λb o v hh=>by
         rcases ok'.hg b o v hh with h1 | h1
         .exact .inl h1
         .exact .inr ⟨h1,hh⟩
        have kD:dY h' (β++β') (.row r) x:=dY.mono ok'.hle (Ext.append _ _) cx1;have he0:jF h' (β++β') (ct.res dd).2 y:=by
         have lenb:β'=[]:=by simpa using ok'.len
         subst lenb;exact he.mono (FH.le.refl h') λi v e=>by simp at e
        obtain⟨e',k',c'⟩:=aiv k.2 he0 kD ox;refine next _ h' (β++β') _ _ k' ok'.hle (λ_=>mD.of_below (Bw.bel ok'.below)) ?_
        have okT:OK B h0 (eff s.gl s.T) h' (β++β') w':=by simpa using ok
        exact(aj.mem okT ok'.hle (Ext.append _ _) aj.gT).put (dR hd) rfl (λ_=>c') λhh=>by cases hh
       .cases k
      .cases k
   .cases k
  .cases k
 .cases k
end
abbrev tlS(s:St) (i:Nat):St:=match eF s.T i with
 | some ([],.row t (.int k) l)=>{ s with T:=cZ s.T i ([],.Kv t k l 0) }
 | _=>s
abbrev tlP(cx:Cx) (s:St) (o:Oper) (K:St->Prop):Option Prop:=none
section
variable {cx:Cx}{P:Program}{N:Nat}{B:Base}{h0:FH}{s:St}{h:FH}{β:List RV}{w:World}{a:Act}{o:Oper}{K:St->Prop}
theorem aiw{k:IntKind}{l:List Int} (x:lV h w t (.int k) l v):TlH w t k l 0 v:=by
 rcases x with x | x | ⟨g,cap,cur,e0,e1,e2,e3,e4,e5⟩
 .exact .inl x
 .exact .inr (.inl x)
 .refine .inr (.inr ⟨g,cap,cur,e0,e1,e2,e3,by simpa using e4,λj n hj=>?_⟩)
  have:=(e5.get (λ_ _=>Rd.size (.int k)) hj).1
  simp only[Sh.size,Wh]at this;have h2:((List.take l.length cur.toList).drop j).take 1=[.int k n]:=this;have hj':=(A8.1 hj).1;have h3:(((List.take l.length cur.toList).drop j).take 1)[0]?=some (.int k n):=by rw[h2];rfl
  rw[uY,if_pos (by omega),J7,uY,if_pos (by omega)]at h3
  simpa using h3
theorem Sat.tlS(aj:Sat N B h0 s h β w a) (i:Nat):Sat N B h0 (tlS s i) h β w a:=by
 unfold Go.jf.tlS;split
 .rename_i t k l hT;have fQ:=bG hT (show gv s.gl []=true from rfl)
  refine aj.mem ?_ (FH.le.refl h) (Ext.refl β) λp hp=>?_
  .rw[fP];refine aj.ok.I5 fQ rfl λv hv=>?_
   cases v with
   | row v=>exact aiw hv
   | blk _=>exact hv.elim
   | deep _ _=>exact hv.elim
   | no=>exact hv.elim
  .rw[eY]at hp;rcases Ic hp with hp | hp
   .exact aj.gT p hp
   .subst hp;rfl
 .exact aj
abbrev Xr(s:St) (i:Nat):St:=match Nat.ble 2000 i with
 | true=>match Nat.ble 3000 i with
   | true=>cellS s (i - 3000)
   | false=>tlS s (i - 2000)
 | false=>ac5 s i
abbrev Am(s:St):List Nat->St
 | []=>s
 | i :: r=>Am (Xr s i) r
theorem Sat.Am:∀{l:List Nat}{s:St}{h:FH}{β:List RV},Sat N B h0 s h β w a->∃h' β',h.le h'/\Sat N B h0 (Am s l) h' β' w a
 | [],s,h,β,aj=>⟨h,β,FH.le.refl h,aj⟩
 | i :: r,s,h,β,aj=>by
   have h1:∃h' β',h.le h'/\Sat N B h0 (Xr s i) h' β' w a:=by
    unfold Xr;split
    .split
     .exact⟨h,β,FH.le.refl h,aj.cellS _⟩
     .exact⟨h,β,FH.le.refl h,aj.tlS _⟩
    .exact Sat.KZ (l:=[i]) aj
   obtain⟨h1,β1,le1,jl⟩:=h1;obtain⟨h2,β2,iD,bJ⟩:=Sat.Am (l:=r) jl;exact⟨h2,β2,le1.trans iD,bJ⟩
theorem aix(hc:bT P cx.ti) (aj:Sat N B h0 s h β w a) (hg:aI cx.gd h) (hd:kY N o.dst=true) (e:tlP cx s o K=some p) (k:p):Bj P N B h0 h w a o (Region.wanted o (yielded ops a.tmps)) K:=by
 unfold tlP at e;cases e
end
abbrev UR:Nat->Bool:=λj=>decide (j=0)
abbrev pY(n:Nat) (p q:Nat->Bool):Nat->Bool:=λj=>cnd (decide (j < n)) (p j) (q (j - n))
abbrev amZ(sh eq:Sh):Bool:=match sh with
 | .sl e=>decide (e=eq)
 | _=>false
abbrev Xt(cx:Cx) (s:St) (d:Option Nat) (t:TypeId) (q:Nat) (tq:TypeId) (eq:Sh) (l:List eq.den) (parts:List (Nat×Operand)) (K:St->Prop):Prop:=match descOf cx t with
 | .slice el=>match pU cx.ti el with
   | none=>False
   | some ie=>match ie.iL with
     | none=>False
     | some sh=>match xA cx s [] parts with
       | none=>False
       | some ps=>match dD (amZ sh eq) (dD (Nat.beq ie.size 1) (Nat.ble 1 ie.bytes)) with
         | false=>False
         | true=>match uw (λj=>some (j * ie.size,ie.size)) (iI 1 (fE SC.v ie.zero)) ps with
           | some [.row q']=>match Nat.beq q q' with
             | true=>K ({ s with T:=snoc (mT (Cc (aQ s.T)) (cZ s.T q ([],.gone))) ([],.deep el (.sl eq) [l] tq eq 0 UR []),env:=yT (Cc (aQ s.T)) s.env }.put d [] (.one (.c (.row (aQ s.T)))))
             | false=>False
           | _=>False
 | _=>False
abbrev Xu(cx:Cx) (s:St) (d:Option Nat) (t:TypeId) (r:Nat) (tt:TypeId) (fG:Sh) (l1:List fG.den) (t1:TypeId) (e1:Sh) (QY:Nat) (xJ:Nat->Bool) (r2:Nat) (UU:TypeId) (oH:Sh) (l2:List oH.den) (t2:TypeId) (e2:Sh) (so2:Nat) (yX:Nat->Bool) (K:St->Prop):Prop:=iM cx t λel ie sh=>
 match dD (Nat.beq tt el) (dD (Nat.beq UU el) (dD (Nat.beq t1 t2) (dD (decide (e1=e2)) (dD (Nat.beq QY so2) (!(Nat.beq r r2)))))) with
 | true=>match jC (.sl fG) l1 (.sl sh) with
   | some l1=>match jC (.sl oH) l2 (.sl sh) with
     | some l2=>(1<=l2.length/\nR (l1.length+l2.length) ie.bytes)/\K ({ s with T:=cZ (mT (Cc r) (cZ s.T r2 ([],.gone))) r ([],.deep el sh (l1++l2) t1 e1 QY (pY l1.length xJ yX) []),env:=yT (Cc r) s.env }.put d [] (.one (.c (.row r))))
     | none=>False
   | none=>False
 | false=>False
abbrev apP(cx:Cx) (s:St) (o:Oper) (K:St->Prop):Option Prop:=match cx.dm with
 | false=>none
 | true=>match o.guard with
   | some _=>none
   | none=>match o.op with
     | .buildSlice t 1 ps=>match tl ps with
       | [(0,x)]=>match bM cx s [] x with
         | some (.one (.c (.row q)))=>match eF s.T q with
           | some ([],.row tq eq l)=>some (Xt cx s o.dst t q tq eq l (tl ps) K)
           | _=>none
         | _=>none
       | _=>none
     | .call c=>match c.callee with
       | .builtin .append=>match tl c.args with
         | [x,y]=>match bM cx s [] x with
           | some (.one (.c (.row r)))=>match eF s.T r with
             | some ([],.deep tt fG l1 t1 e1 QY xJ [])=>match bM cx s [] y with
               | some (.one (.c (.row r2)))=>match eF s.T r2 with
                 | some ([],.deep UU oH l2 t2 e2 so2 yX [])=>match tl c.argTypes with
                   | [t,t']=>match Nat.beq t t' with
                     | true=>some (Xu cx s o.dst t r tt fG l1 t1 e1 QY xJ r2 UU oH l2 t2 e2 so2 yX K)
                     | false=>none
                   | _=>none
                 | _=>none
               | _=>none
             | _=>none
           | _=>none
         | _=>none
       | _=>none
     | _=>none
section
variable {cx:Cx}{P:Program}{N:Nat}{B:Base}{h0:FH}{s:St}{h:FH}{β:List RV}{w:World}{a:Act}{o:Oper}{K:St->Prop}
theorem UW(hc:bT P cx.ti) (aj:Sat N B h0 s h β w a) (hg:aI cx.gd h) (hd:kY N o.dst=true){parts:Array (Nat×Operand)} (ho:o.op=.buildSlice t 1 parts){q:Nat}{tq:TypeId}{eq:Sh}{l:List eq.den}
 (hTq:eF s.T q=some ([],.row tq eq l)) (k:Xt cx s o.dst t q tq eq l (tl parts) K):fV P N B h0 h w a o true K:=by
 have tr:gv s.gl []=true:=rfl;unfold Xt at k;split at k
 .rename_i el hde;have hu:=bK hc hde (by simp)
  split at k
  .cases k
  rename_i ie hie;have tie:=hc.get hie;split at k
  .cases k
  rename_i sh hsh;split at k
  .cases k
  rename_i ps hps;split at k
  .cases k
  rename_i hz;rw[aB,aB,bY,bY]at hz;have hz1:ie.size=1:=iC hz.2.1;split at k
  .rename_i q' hxs;split at k
   .rename_i hqq;have hqq:=iC hqq;subst hqq;have htl:(parts.map λ(p:Nat×Operand)=>(p.1,a.eval p.2)).toList=(tl parts).map λp=>(p.1,a.eval p.2):=by cases parts;simp
    rw[DR]at hxs;obtain⟨zs,g1,g2⟩:=qM (qN aj hg tr hps) (gZ λv hv=>tie.zone v (yM hv)) hxs
    obtain⟨y,rfl,cy⟩:∃y,zs=[y]/\dY h β (.row q) y/\dF y:=by
     cases zs with
     | nil=>exact g2.elim
     | cons y zs=>
       cases zs with
       | nil=>exact⟨y,rfl,g2.1⟩
       | cons _ _=>exact g2.2.elim
    have hz0:0 < ie.zero.length:=by rw[tie.pF];omega
    obtain⟨z,hz1',hz2⟩:=uy tie w;have hc1:((Array.range (1 * ie.size)).map (λi=>z.cells[i % z.cells.size]!))=(iI 1 ie.zero).toArray:=by
     rw[hz2,<-tie.pF];exact qO hz0
    have run:(execOp a.eval o).run P w=.ok (.value (.slice (some ⟨w.heap.size,0,none⟩) 1 1)) (w.alloc (.cells #[y] el)):=by
     have hbig:¬(1 * ie.size > 2 ^ 24):=by omega
     have h0:¬1 * ie.size=0:=by omega
     simp only[execOp,ho,Instr.buildSlice,Sem.run_bind,run_underlying hu,Result.andThen_ok,run_sizeOf tie,hbig,NZ,Sem.run_ite,Sem.run_pure,h0,hz1'];rw[htl,hc1,g1];simp only[Sem.run_bind,newRow,run_newObj,Result.andThen_ok,Sem.run_pure];rfl
    have tX:=bG hTq tr;have hbq:=aj.ok.row_of tX cy.1;have kD:lV h w tq eq l y:=aj.ok.holds q _ _ tX hbq;have hlen:aQ s.T=β.length:=by rw[aj.ok.len,iK,bF]
    have hTl:(eff s.gl s.T).length=β.length:=aj.ok.len.symm;have hql:q < β.length:=(A8.1 hbq).1;have gb:=oC w (.cells #[y] el) none;have ok1:=aj.ok.forget tX;have ok2:=ok1.add (r:=.row el (.sl eq) []) (v:=.row (.slice (some ⟨w.heap.size,0,none⟩) 0 1)) gb
     (λb hb=>by rw[bg]at hb;simp[aA]at hb;subst hb;simp)
     (.inr (.inr ⟨w.heap.size,1,#[y],rfl,mJ _ _,Ko _,⟨pz _,by simp[maxLen]⟩,rfl,rfl⟩))
    have hTn:((eff s.gl s.T).set q .gone++[ay.row el (.sl eq) []])[β.length]?=some (.row el (.sl eq) []):=by
     rw[NM (by simp[hTl])];simp[hTl]
    have hbn:(β++[RV.row (.slice (some ⟨w.heap.size,0,none⟩) 0 1)])[β.length]?=some (.row (.slice (some ⟨w.heap.size,0,none⟩) 0 1)):=by simp
    have old:∀b,aA y=some b->b < w.heap.size:=λb hb=>(aj.ok.own q _ _ b tX rfl hbq (bg.2 hb)).2.1
    have fr:∀b,b < w.heap.size->(w.alloc (.cells #[y] el)).heap[b]?=w.heap[b]?:=λb hb=>gb.block b hb (by simp)
    have hold:fD h (w.alloc (.cells #[y] el)) el (.sl eq) [l] tq eq 0 UR [] (.slice (some ⟨w.heap.size,0,none⟩) 1 1) (λj=>if j=0 then y else ny):=by
     have bn:∀b,aA ny≠some b:=λb hh=>by simp[ny,aA]at hh
     have z0:∀{j b},aA (if j=0 then y else ny)=some b->j=0/\aA y=some b:=by
      intro j b hb
      by_cases hj:j=0
      .rw[if_pos hj]at hb;exact⟨hj,hb⟩
      .rw[if_neg hj]at hb;exact(bn b hb).elim
     refine⟨λj k b h1 h2=>by rw[(z0 h1).1,(z0 h2).1],λj b hb=>⟨by rw[(z0 hb).1];simp,?_⟩,.inr (.inr ⟨w.heap.size,1,#[y],rfl,mJ _ _,by simp,⟨pz _,by simp[maxLen]⟩,rfl,λj hb=>?_,λj d hj=>?_⟩)⟩
     .rw[fr b (old b (z0 hb).2)];exact(aj.ok.holds q _ _ tX hbq).cells rfl (bg.2 (z0 hb).2)
     .have:=old _ (z0 hb).2;omega
     .have hj0:j=0:=by
       have:=(A8.1 hj).1;simp at this;exact this
      subst hj0;simp at hj;subst hj;show zY h _ (.sl eq) tq eq 0 true false y ((([y]:List Value).drop (0 * 1)).take 1) l;exact⟨[],l,⟨ny,rfl,.inl ⟨rfl,rfl⟩⟩,⟨rfl,rfl,rfl⟩,rfl,kD.move (FH.le.refl h) λb hb=>fr b (old b hb)⟩
    have ok3:=ok2.OJ (f:=Cc β.length) (r':=.deep el (.sl eq) [l] tq eq 0 UR []) (v:=.deep (.slice (some ⟨w.heap.size,0,none⟩) 1 1) (λj=>if j=0 then y else ny)) (row:=none) (X:=λb=>aA y=some b) hTn rfl hbn (bV _ none) (λk e=>by cases e)
     (λb hb=>by
      obtain⟨o1,o2,o3⟩:=aj.ok.own q _ _ b tX rfl hbq (bg.2 hb);refine⟨o1,NP o2 gb.size,o3,λj' rj vj hj' ej lj jr hbj=>?_⟩
      have hjl:j' < β.length:=by
       have h1:=(A8.1 jr).1;simp at h1;omega
      rw[VJ (by simp[hTl];exact hjl)]at ej
      rw[VJ hjl]at jr;have hjq:j'≠q:=by
       rintro rfl;rw[qA (A8.1 tX).1]at ej;cases ej;cases lj
      rw[mX (Ne.symm hjq)]at ej;exact hjq (aj.ok.inj j' q _ _ _ _ b ej lj tX rfl jr hbq hbj (bg.2 hb)))
     (λb hb=>by
      rw[aX]at hb;rcases hb with hb | ⟨j,hb⟩
      .refine .inl (bg.2 ?_);simp[aA]at hb ⊢;exact hb
      .by_cases hj:j=0
       .rw[if_pos hj]at hb;exact .inr (.inl hb)
       .rw[if_neg hj]at hb;simp[ny,aA]at hb)
     (λx y c=>c.jk _) hold
    intro Nx Q next
    rw[if_pos rfl];refine kF run (next _ _ _ _ _ k (FH.le.refl h) (λ_=>mD.KL gb) ((aj.map (f:=Cc (aQ s.T)) (T':=snoc (mT (Cc (aQ s.T)) (cZ s.T q ([],.gone))) ([],.deep el (.sl eq) [l] tq eq 0 UR [])) (β':=(β++[RV.row (.slice (some ⟨w.heap.size,0,none⟩) 0 1)]).set β.length (.deep (.slice (some ⟨w.heap.size,0,none⟩) 1 1) (λj=>if j=0 then y else ny))) (FH.le.refl h) (λ_=>rfl) (λx y c=>?_) ?_ ?_).put (dR hd) rfl (λ_=>⟨⟨.deep (.slice (some ⟨w.heap.size,0,none⟩) 1 1) (λj=>if j=0 then y else ny),?_,rfl⟩,rfl,rfl⟩) λhh=>by cases hh))
    .rw[hlen];exact(c.mono (FH.le.refl h) (Ext.append _ _)).jk _
    .rw[iP,Ea,fP,hlen];have:(((eff s.gl s.T).set q .gone++[ay.row el (.sl eq) []]).map (mR (Cc β.length))).set β.length (.deep el (.sl eq) [l] tq eq 0 UR [])=((eff s.gl s.T).set q .gone).map (mR (Cc β.length))++[.deep el (.sl eq) [l] tq eq 0 UR []]:=by
      rw[NT,acy _ _ (by simp[hTl])]
      simp[hTl]
     rw[<-this];exact ok3
    .intro p' hp';rw[gY,FI]at hp';rcases hp' with hp' | hp'
     .obtain⟨p2,h1,h2⟩:=Eb hp';rw[<-h2];exact qo aj p2 h1
     .simp at hp';subst hp';rfl
    .rw[hlen];rw[qA (by simp)]
   .cases k
  .cases k
 .cases k
theorem F8{i:TI}{m c b o:Nat} (hu:P.underlying t=some (.slice el)) (ki:aN P el i) (hs1:1<=i.size) (hb1:1<=i.bytes) (hm:1<=m) (room:nR (n+m) i.bytes)
 (hcs:cs.length=m * i.size) (hnews:∀j u,cs[j]?=some u->w.cell? ⟨b,o+j,none⟩=some u) (h1:∀u∈cs,u.oneCell'=true){old:List Value} (hol:old.length=n * i.size)
 (row:(v=.slice none 0 0/\n=0)\/(∃a,v=.slice (some a) 0 0/\n=0)\/∃g cap cur,v=.slice (some ⟨g,0,none⟩) n cap/\w.heap[g]?=some (.cells cur el (0,0))/\n<=cap/\(1<=cap/\cap<=maxLen)/\cur.size=cap * i.size/\cur.toList.take (n * i.size)=old):
 ∃w' g' jJ cur',(Builtin.append_ #[t,t] ty #[v,.slice (some ⟨b,o,none⟩) m c]).run P w=.ok (.slice (some ⟨g',0,none⟩) (n+m) jJ) w'/\Gb w w' (aA v)/\w'.heap[g']?=some (.cells cur' el (0,0))/\n+m<=jJ/\(1<=jJ/\jJ<=maxLen) /\
   cur'.size=jJ * i.size/\(aA v=some g'\/(w.heap.size<=g'/\g' < w'.heap.size))/\cur'.toList.take ((n+m) * i.size)=old++cs:=by
 obtain⟨inf,z,i1,i2,i3,i4,i5⟩:=ki.info;unfold nR at room;have hn:n+m<=140737488355328:=pq (A80 _ hb1) room;have WT:z.cells.size=i.size:=by rw[i5];simpa using ki.pF
 have hcs':cs.length=m * inf.size:=by rw[i2];exact hcs
 have hnews':∀j u,cs[j]?=some u->w.cell? ((⟨b,o,none⟩:Addr).add j)=some u:=λj u e=>by rw[add_lit];exact hnews j u e
 have grown:∀(scap:Nat),∃w' g' jJ cur',w'=w.drew.alloc (.cells (old.toArray++cs.toArray++Builtin.zeroCells z.cells (grownCap w (n+m) scap el - (n+m))) el)/\g'=w.heap.size/\jJ=grownCap w (n+m) scap el/\Gb w w' (aA v)/\w'.heap[g']?=some (.cells cur' el (0,0))/\n+m<=jJ/\(1<=jJ/\jJ<=maxLen) /\
  cur'.size=jJ * i.size/\(aA v=some g'\/(w.heap.size<=g'/\g' < w'.heap.size))/\cur'.toList.take ((n+m) * i.size)=old++cs:=by
  intro scap;have hge:=grownCap_ge w (n+m) scap el;refine⟨_,_,_,_,rfl,rfl,rfl,⟨⟨rfl,rfl,rfl,by simp,λk hk _=>(World.grownBy_alloc w.drew _ none).block k hk (by simp)⟩,TU _⟩,heap_alloc_new w.drew _,hge,⟨by omega,grownCap_le_maxLen w _ scap el (by simp only[maxLen];omega)⟩,?_,.inr ⟨pz _,by simp⟩,?_⟩
  .simp only[A85,FT,size_zeroCells,WT,hcs,hol,<-Kq]
   congr 1;omega
  .simp only[A96];rw[show(n+m) * i.size=(old++cs).length by rw[kC,hol,hcs,Kq],VX]
 rcases row with⟨rfl,hn0⟩ | ⟨ra,rfl,hn0⟩ | ⟨g,cap,cur,rfl,q1,q2,q3,q4,q5⟩
 .subst hn0;have ho0:old=[]:=VI (by simpa using hol)
  subst ho0;have r:=run_append_nil (P:=P) w t ty el inf z hu i1 i4 ⟨b,o,none⟩ m c cs hcs' hnews' (by omega) (by omega) (by rw[i3];simp at room;omega)
  obtain⟨w',g',jJ,cur',rfl,rfl,rfl,rest⟩:=grown 0;refine⟨_,_,_,cur',?_,rest⟩;simpa using r
 .subst hn0;have ho0:old=[]:=VI (by simpa using hol)
  subst ho0;have r:=run_append_grow (P:=P) w t ty el inf z hu i1 i4 ra 0 0 [] (by simp) (λj u e=>by simp at e) ⟨b,o,none⟩ m c cs hcs' hnews' (by omega) (by omega) (growslice_fits (by omega) (by rw[i3];simpa using room))
  obtain⟨w',g',jJ,cur',rfl,rfl,rfl,rest⟩:=grown 0;exact⟨_,_,_,cur',r,rest⟩
 .by_cases hroom:n+m<=cap
  .have hfit:n * inf.size+cs.length<=cur.size:=by rw[hcs,q4,i2,<-Kq];exact yh _ hroom
   have r:=run_append_room (P:=P) w t ty el inf hu i1 g n cap cur q1 ⟨b,o,none⟩ m c cs hcs' hnews' h1 hroom hfit;have e1:(List.take (n * i.size) cur.toList++cs).length=(n+m) * i.size:=by rw[kC,q5,hol,hcs,Kq]
   refine⟨_,g,cap,_,r,by rw[aY q3.1];exact jc w g _,setRow_heap w g cur _ el _ q1,hroom,q3,?_,.inl (aY q3.1),?_⟩
   .have aqc:n * i.size+cs.length<=cur.size:=by rw[<-i2];exact hfit
    simp only[i2,FT,kC,kX,yj,TR (xs:=cur)];rw[<-q4];omega
   .show(List.take (n * inf.size) cur.toList++cs++List.drop (n * inf.size+cs.length) cur.toList).take ((n+m) * i.size)=old++cs;rw[i2,<-e1,VX,q5]
  .have holds:∀j u,old[j]?=some u->w.cell? ((⟨g,0,none⟩:Addr).add j)=some u:=by
    intro j u e;rw[add_lit,Dk,cell_of_row w g j cur el (0,0) q1];rw[<-q5,uY]at e;split at e
    .simpa using e
    .cases e
   have r:=run_append_grow (P:=P) w t ty el inf z hu i1 i4 ⟨g,0,none⟩ n cap old (by rw[hol,i2]) holds ⟨b,o,none⟩ m c cs hcs' hnews' (by omega) (by omega) (growslice_fits (by omega) (by rw[i3];exact room))
   obtain⟨w',g',jJ,cur',rfl,rfl,rfl,rest⟩:=grown cap;exact⟨_,_,_,cur',r,rest⟩
theorem OL{p q:Nat->Bool} (h:j < n):pY n p q j=p j:=by simp[pY,h,cnd]
theorem OM{p q:Nat->Bool} (h:¬j < n):pY n p q j=q (j - n):=by simp[pY,h,cnd]
abbrev Aq(n:Nat) (p q:Nat->Value):Nat->Value:=λj=>if j < n then p j else q (j - n)
theorem kR{p q:Nat->Value} (h:j < n):Aq n p q j=p j:=if_pos h
theorem kS{p q:Nat->Value} (h:¬j < n):Aq n p q j=q (j - n):=if_neg h
theorem Ee{L:List Value}{M a:Nat} (h:a+k<=M):((L.take M).drop a).take k=(L.drop a).take k:=by
 apply Ie;intro p;simp only[uY,J7]
 by_cases hp:p < k
 .rw[if_pos hp,if_pos hp,if_pos (by omega)]
 .rw[if_neg hp,if_neg hp]
theorem zY.one{sh:Sh}{tt:TypeId}{e:Sh}{so:Nat}{own:Bool}{u:Value}{cs:List Value}{d:sh.den} (x:zY h w sh tt e so own false u cs d):∀z∈cs,dF z:=by
 intro z hz;cases own with
 | false=>exact Rd.one sh x.1 z hz
 | true=>
   obtain⟨d0,y,r,_,c,q⟩:=x;obtain⟨p,hp⟩:=yu hz
   by_cases hps:p=so
   .subst hps;rw[hp]at c;cases c;rcases q with⟨e,_⟩ | ⟨_,e,_⟩ | ⟨_,_,_,e,_⟩<;>subst e<;>exact⟨rfl,rfl⟩
   .refine Rd.one sh r z (iy (i:=p) ?_);rw[mX (Ne.symm hps)];exact hp
theorem fD.join{sh:Sh}{l1 l2:List sh.den}{xJ yX:Nat->Bool}{v1 v2:Value}{QZ uj:Nat->Value}{g' jJ:Nat}{cur':Array Value}{old:List Value}
 (D1:fD h w t sh l1 tt e so xJ [] v1 QZ) (D2:fD h w t sh l2 tt e so yX [] v2 uj) (h2:1<=l2.length)
 (dis:∀i j b,aA (QZ i)=some b->aA (uj j)=some b->False)
 (fr:∀b,(∃i,aA (QZ i)=some b)\/(∃j,aA (uj j)=some b)->w'.heap[b]?=w.heap[b]?/\b≠g')
 (c1:w'.heap[g']?=some (.cells cur' t (0,0))) (c2:l1.length+l2.length<=jJ) (c3:1<=jJ/\jJ<=maxLen) (c4:cur'.size=jJ * sh.size) (hol:old.length=l1.length * sh.size)
 (c5:cur'.toList.take ((l1.length+l2.length) * sh.size)=old++cs)
 (e1:∀j d,l1[j]?=some d->zY h w sh tt e so (xJ j) false (QZ j) ((old.drop (j * sh.size)).take sh.size) d)
 (e2:∀j d,l2[j]?=some d->zY h w sh tt e so (yX j) false (uj j) ((cs.drop (j * sh.size)).take sh.size) d):
 fD h w' t sh (l1++l2) tt e so (pY l1.length xJ yX) [] (.slice (some ⟨g',0,none⟩) (l1.length+l2.length) jJ) (Aq l1.length QZ uj):=by
 refine⟨λj k b hj hk=>?_,λj b hj=>?_,.inr (.inr ⟨g',jJ,cur',by rw[kC],c1,by rw[kC];exact c2,c3,c4,λj hj=>?_,λj d hj=>?_⟩)⟩
 .by_cases a1:j < l1.length<;>by_cases a2:k < l1.length
  .rw[kR a1]at hj;rw[kR a2]at hk;exact D1.1 j k b hj hk
  .rw[kR a1]at hj;rw[kS a2]at hk;exact(dis _ _ b hj hk).elim
  .rw[kS a1]at hj;rw[kR a2]at hk;exact(dis _ _ b hk hj).elim
  .rw[kS a1]at hj;rw[kS a2]at hk;have:=D2.1 _ _ b hj hk;omega
 .by_cases a1:j < l1.length
  .rw[kR a1]at hj;rw[(fr b (.inl ⟨j,hj⟩)).1];exact⟨by rw[kC];omega,(D1.2.1 j b hj).2⟩
  .rw[kS a1]at hj;rw[(fr b (.inr ⟨_,hj⟩)).1];have:=D2.2.1 _ b hj;exact⟨by rw[kC];omega,this.2⟩
 .by_cases a1:j < l1.length
  .rw[kR a1]at hj;exact(fr g' (.inl ⟨j,hj⟩)).2 rfl
  .rw[kS a1]at hj;exact(fr g' (.inr ⟨_,hj⟩)).2 rfl
 .have hjl:=(A8.1 hj).1;rw[kC]at hjl;have hm:(j+1) * sh.size<=(l1.length+l2.length) * sh.size:=yh _ hjl;rw[wY]at hm;have cut:(cur'.toList.drop (j * sh.size)).take sh.size=((old++cs).drop (j * sh.size)).take sh.size:=by
   rw[<-c5,Ee hm]
  rw[cut,show nM j []=false from rfl]
  rw[A91]at hj;split at hj
  .rename_i a1;rw[kR a1,OL a1];have hm1:(j+1) * sh.size<=l1.length * sh.size:=yh _ a1;rw[wY]at hm1;have:((old++cs).drop (j * sh.size)).take sh.size=(old.drop (j * sh.size)).take sh.size:=by
    rw[A97 (by omega),A83 (by rw[yj];omega)]
   rw[this];exact(e1 j d hj).move (FH.le.refl h) λb hb=>(fr b (.inl ⟨j,hb⟩)).1
  .rename_i a1;rw[kS a1,OM a1];have hjj:j * sh.size=l1.length * sh.size+(j - l1.length) * sh.size:=by rw[<-Kq];congr 1;omega
   have:(old++cs).drop (j * sh.size)=cs.drop ((j - l1.length) * sh.size):=by
    rw[hjj,<-hol,A78]
   rw[this];exact(e2 _ d hj).move (FH.le.refl h) λb hb=>(fr b (.inr ⟨_,hb⟩)).1
theorem UY(hc:bT P cx.ti) (aj:Sat N B h0 s h β w a) (hg:aI cx.gd h) (hd:kY N o.dst=true){x y:Operand} (ho:o.op=.call c) (bQ:c.callee=.builtin .append) (ha:c.args=#[x,y]) (ht:c.argTypes=#[t,t])
 {r:Nat} (hx:bM cx s [] x=some (.one (.c (.row r)))){fG:Sh}{l1:List fG.den}{t1:TypeId}{e1:Sh}{QY:Nat}{xJ:Nat->Bool} (hT:eF s.T r=some ([],.deep tt fG l1 t1 e1 QY xJ []))
 {r2:Nat} (hy:bM cx s [] y=some (.one (.c (.row r2)))){UU:TypeId}{oH:Sh}{l2:List oH.den}{t2:TypeId}{e2:Sh}{so2:Nat}{yX:Nat->Bool} (hT2:eF s.T r2=some ([],.deep UU oH l2 t2 e2 so2 yX []))
 (k:Xu cx s o.dst t r tt fG l1 t1 e1 QY xJ r2 UU oH l2 t2 e2 so2 yX K):fV P N B h0 h w a o true K:=by
 have tr:gv s.gl []=true:=rfl;unfold Xu iM at k;split at k
 .rename_i el hde;have hu:=bK hc hde (by simp)
  split at k
  .cases k
  rename_i ie hie;have tie:=hc.get hie;split at k
  .cases k
  rename_i sh hsh;split at k
  .rename_i hz;rw[aB,aB,bY,bY]at hz;have hz1:sh.size=ie.size:=iC hz.1;have hz2:1<=ie.bytes:=qm hz.2.1;have hz3:1<=ie.size:=qm hz.2.2;split at k
   .rename_i hq;rw[aB,aB,aB,aB,aB,bY,bY,bY,bY,bY,dH]at hq;obtain⟨q1,q2,q3,q4,q5,q6⟩:=hq;have q1:tt=el:=iC q1;have q2:UU=el:=iC q2;have q3:t1=t2:=iC q3;have q5:QY=so2:=iC q5;have hrr:r2≠r:=OI q6;subst q1;subst q2;subst q3;subst q4;subst q5;split at k
    .rename_i m1 hm1;obtain⟨f1,f2⟩:=oI hm1;subst f1;simp only at f2;subst f2;split at k
     .rename_i m2 hm2;obtain⟨f1,f2⟩:=oI hm2;subst f1;simp only at f2;subst f2;obtain⟨⟨k1,k2⟩,k⟩:=k;have fQ:=bG hT tr;have UZ:=bG hT2 tr;have cx1:=(aP aj hg tr hx:dh h β (.c (.row r)) (a.eval x));have cy1:=(aP aj hg tr hy:dh h β (.c (.row r2)) (a.eval y));obtain⟨QZ,hb1,D1⟩:=aj.ok.vF fQ cx1.1;obtain⟨uj,hb2,D2⟩:=aj.ok.vF UZ cy1.1;have am0:∀b,(RV.deep (a.eval x) QZ).has b->B.al b/\b < w.heap.size/\∀o,h b o=none:=λb hb=>aj.ok.own r _ _ b fQ rfl hb1 hb
      have ahj:∀b,(RV.deep (a.eval y) uj).has b->B.al b/\b < w.heap.size/\∀o,h b o=none:=λb hb=>aj.ok.own r2 _ _ b UZ rfl hb2 hb
      have apart:∀b,(RV.deep (a.eval x) QZ).has b->(RV.deep (a.eval y) uj).has b->False:=λb p q=>hrr (aj.ok.inj r2 r _ _ _ _ b UZ rfl fQ rfl hb2 hb1 q p)
      obtain⟨g2,cap2,Ec,v0,v1,v2,v3,v4,v5,v6⟩:=D2.third (j:=0) (by omega)
      have hsz2:l2.length * oH.size<=cap2 * oH.size:=yh _ v2;have hcs:(Ec.toList.take (l2.length * oH.size)).length=l2.length * oH.size:=by rw[kX,TR (xs:=Ec)];omega
      have el2:∀j d,l2[j]?=some d->zY h w oH t1 e1 QY (yX j) false (uj j) (((Ec.toList.take (l2.length * oH.size)).drop (j * oH.size)).take oH.size) d:=by
       intro j d hj;have hjl:=(A8.1 hj).1;have hm:(j+1) * oH.size<=l2.length * oH.size:=yh _ hjl;rw[wY]at hm;rw[Ee hm];exact v6 j d hj
      have apo:∀u∈Ec.toList.take (l2.length * oH.size),u.oneCell'=true:=by
       intro u hu;obtain⟨p,hp⟩:=yu hu;have hpl:=(A8.1 hp).1;rw[hcs]at hpl;have hs0:0 < oH.size:=by rw[hz1];exact hz3
       have hjl:p / oH.size < l2.length:=by rw[Nat.div_lt_iff_lt_mul hs0];exact hpl
       have hdm:p / oH.size * oH.size+p % oH.size=p:=by rw[Nat.mul_comm];exact Nat.div_add_mod p oH.size
       refine((el2 _ _ (lN hjl)).one u (iy (i:=p % oH.size) ?_)).2;rw[uY,if_pos (Nat.mod_lt _ hs0),J7,hdm];exact hp
      obtain⟨old,hol,row,el1,nb1⟩:∃old:List Value,old.length=l1.length * oH.size/\((a.eval x=.slice none 0 0/\l1.length=0)\/(∃ad,a.eval x=.slice (some ad) 0 0/\l1.length=0)\/∃g cap cur,a.eval x=.slice (some ⟨g,0,none⟩) l1.length cap/\w.heap[g]?=some (.cells cur UU (0,0))/\l1.length<=cap/\(1<=cap/\cap<=maxLen)/\cur.size=cap * ie.size/\cur.toList.take (l1.length * ie.size)=old) /\
       (∀j d,l1[j]?=some d->zY h w oH t1 e1 QY (xJ j) false (QZ j) ((old.drop (j * oH.size)).take oH.size) d)/\∀i b,aA (QZ i)=some b->aA (a.eval x)≠some b:=by
       rcases D1.2.2 with⟨e,rfl⟩ | ⟨ad,e,rfl⟩ | ⟨g,cap,cur,u0,u1,u2,u3,u4,u5,u6⟩
       .exact⟨[],by simp,.inl ⟨e,rfl⟩,λj d hj=>by simp at hj,λi b _=>by rw[e];simp[aA]⟩
       .exact⟨[],by simp,.inr (.inl ⟨ad,e,rfl⟩),λj d hj=>by simp at hj,λi b _=>by rw[e];simp[aA]⟩
       .have hsz1:l1.length * oH.size<=cap * oH.size:=yh _ u2;refine⟨cur.toList.take (l1.length * oH.size),by rw[kX,TR (xs:=cur)];omega,.inr (.inr ⟨g,cap,cur,u0,u1,u2,u3,by rw[<-hz1];exact u4,by rw[hz1]⟩),λj d hj=>?_,λi b hb=>by rw[u0,aY u3.1];intro hh;cases hh;exact u5 i hb⟩
        have hjl:=(A8.1 hj).1;have hm:(j+1) * oH.size<=l1.length * oH.size:=yh _ hjl;rw[wY]at hm;rw[Ee hm];exact u6 j d hj
      obtain⟨w',g',jJ,cur',r1,gb,c1,c2,c3,c4,c6,c5⟩:=F8 (ty:=o.type) (b:=g2) (o:=0) (c:=cap2) (m:=l2.length) (n:=l1.length) (cs:=Ec.toList.take (l2.length * oH.size)) (old:=old) hu tie hz3 hz2 k1 k2 (by rw[hcs,hz1]) (λj u hj=>by
       rw[Dk,cell_of_row w g2 j Ec UU (0,0) v1];rw[uY]at hj;split at hj
       .simpa using hj
       .cases hj) apo (by rw[hol,hz1]) row
      have fr:∀b,(∃i,aA (QZ i)=some b)\/(∃j,aA (uj j)=some b)->w'.heap[b]?=w.heap[b]?/\b≠g':=by
       rintro b (⟨i,hb⟩ | ⟨j,hb⟩)
       .have o1:=(am0 b (aX.2 (.inr ⟨i,hb⟩))).2.1;refine⟨gb.block b o1 λhh=>nb1 i b hb hh.symm,?_⟩
        rintro rfl;rcases c6 with c6 | c6
        .exact nb1 i b hb c6
        .omega
       .have o1:=(ahj b (aX.2 (.inr ⟨j,hb⟩))).2.1;refine⟨gb.block b o1 λhh=>apart b (aX.2 (.inl hh.symm)) (aX.2 (.inr ⟨j,hb⟩)),?_⟩
        rintro rfl;rcases c6 with c6 | c6
        .exact apart b (aX.2 (.inl c6)) (aX.2 (.inr ⟨j,hb⟩))
        .omega
      have J:=fD.join (w':=w') (g':=g') (jJ:=jJ) (cur':=cur') (old:=old) (cs:=Ec.toList.take (l2.length * oH.size)) D1 D2 k1 (λi j b p q=>apart b (aX.2 (.inr ⟨i,p⟩)) (aX.2 (.inr ⟨j,q⟩))) fr c1 c2 c3 (by rw[hz1];exact c4) hol (by rw[hz1];rw[hz1]at c5;exact c5) el1 el2
      have run:(execOp a.eval o).run P w=.ok (.value (.slice (some ⟨g',0,none⟩) (l1.length+l2.length) jJ)) w':=by
       rw[<-v0]at r1;simp[execOp,ho,resolve,bQ,ha,ht,invoke,builtin,r1]
      have ok1:=aj.ok.forget UZ;have hT1:((eff s.gl s.T).set r2 .gone)[r]?=some (.deep UU oH l1 t1 e1 QY xJ []):=by rw[mX hrr];exact fQ
      have hrl:r < β.length:=(A8.1 hb1).1;have ok2:=ok1.OJ (f:=Cc r) (r':=.deep UU oH (l1++l2) t1 e1 QY (pY l1.length xJ yX) []) (v:=.deep (.slice (some ⟨g',0,none⟩) (l1.length+l2.length) jJ) (Aq l1.length QZ uj)) (row:=aA (a.eval x)) (X:=λb=>∃j,aA (uj j)=some b) hT1 rfl hb1 gb (λk e=>aX.2 (.inl e))
       (λb hb=>by
        have hb:(RV.deep (a.eval y) uj).has b:=aX.2 (.inr hb);obtain⟨o1,o2,o3⟩:=ahj b hb;refine⟨o1,o2,o3,λj' rj vj hj' ej lj jr hbj=>?_⟩
        have hjq:j'≠r2:=by
         rintro rfl;rw[qA (A8.1 UZ).1]at ej;cases ej;cases lj
        rw[mX (Ne.symm hjq)]at ej;exact hjq (aj.ok.inj j' r2 _ _ _ _ b ej lj UZ rfl jr hb2 hbj hb))
       (λb hb=>by
        rw[aX]at hb;rcases hb with hb | ⟨j,hb⟩
        .rw[aY c3.1]at hb;cases hb;exact c6.elim (λq=>.inl (aX.2 (.inl q))) λq=>.inr (.inr q)
        .by_cases a1:j < l1.length
         .rw[kR a1]at hb;exact .inl (aX.2 (.inr ⟨j,hb⟩))
         .rw[kS a1]at hb;exact .inr (.inl ⟨_,hb⟩))
       (λx y c=>c.jk _) J
      intro Nx Q next
      rw[if_pos rfl];refine kF run (next _ _ _ _ _ k (FH.le.refl h) (λhh=>by rw[ho]at hh;simp[quietly,bQ]at hh) ((aj.map (f:=Cc r) (T':=cZ (mT (Cc r) (cZ s.T r2 ([],.gone))) r ([],.deep UU oH (l1++l2) t1 e1 QY (pY l1.length xJ yX) [])) (β':=β.set r (.deep (.slice (some ⟨g',0,none⟩) (l1.length+l2.length) jJ) (Aq l1.length QZ uj))) (FH.le.refl h) (λ_=>rfl) (λx y c=>c.jk _) ?_ ?_).put (dR hd) rfl (λ_=>⟨⟨.deep (.slice (some ⟨g',0,none⟩) (l1.length+l2.length) jJ) (Aq l1.length QZ uj),?_,rfl⟩,rfl,rfl⟩) λhh=>by cases hh))
      .rw[fP,Ea,fP];exact ok2
      .intro p' hp';rw[eY]at hp';rcases Ic hp' with hp' | hp'
       .obtain⟨p2,h1,h2⟩:=Eb hp';rw[<-h2];exact qo aj p2 h1
       .subst hp';rfl
      .rw[qA hrl]
     .cases k
    .cases k
   .cases k
  .cases k
 .cases k
theorem Xv(hc:bT P cx.ti) (aj:Sat N B h0 s h β w a) (hg:aI cx.gd h) (hd:kY N o.dst=true) (e:apP cx s o K=some p) (k:p):fV P N B h0 h w a o (Region.wanted o (yielded ops a.tmps)) K:=by
 unfold apP at e;split at e
 .cases e
 split at e
 .cases e
 rename_i hgd;rw[show Region.wanted o (yielded ops a.tmps)=true by simp[Region.wanted,hgd]]
 split at e
 .rename_i t ps ho;split at e
  .rename_i x hps;split at e
   .rename_i q hx;split at e
    .rename_i tq eq l hTq;cases e;exact UW hc aj hg hd ho hTq k
    .cases e
   .cases e
  .cases e
 .rename_i c ho;split at e
  .rename_i bQ;split at e
   .rename_i x y ha;split at e
    .rename_i r hx;split at e
     .rename_i tt fG l1 t1 e1 QY xJ hT;split at e
      .rename_i r2 hy;split at e
       .rename_i UU oH l2 t2 e2 so2 yX hT2;split at e
        .rename_i t t' ht;split at e
         .rename_i hb;have hb:t=t':=iC hb;subst hb;cases e;exact UY hc aj hg hd ho bQ (iH ha) (iH ht) hx hT hy hT2 k
         .cases e
        .cases e
       .cases e
      .cases e
     .cases e
    .cases e
   .cases e
  .cases e
 .cases e
theorem Xw(h1:∀t n ps,o.op≠.buildSlice t n ps) (h2:∀c,o.op=.call c->c.callee≠.builtin .append):apP cx s o K=none:=by
 cases hp:apP cx s o K with
 | none=>rfl
 | some p=>
   exfalso;unfold apP at hp;split at hp
   .cases hp
   split at hp
   .cases hp
   split at hp
   .rename_i t ps ho;exact h1 _ _ _ ho
   .rename_i c ho;split at hp
    .rename_i bQ;exact h2 c ho bQ
    .cases hp
   .cases hp
abbrev aiz(cx:Cx) (s:St) (o:Oper) (K:St->Prop):Option Prop:=match apP cx s o K with
 | some p=>some p
 | none=>match tlP cx s o K with
   | some p=>some p
   | none=>ain cx s o K
theorem ac9(hc:bT P cx.ti) (aj:Sat N B h0 s h β w a) (hg:aI cx.gd h) (hd:kY N o.dst=true) (e:aiz cx s o K=some p) (k:p):Bj P N B h0 h w a o (Region.wanted o (yielded ops a.tmps)) K:=by
 unfold aiz at e;split at e
 .rename_i p' hp;cases e;exact(Xv hc aj hg hd hp k).weak
 .split at e
  .rename_i p' hp;cases e;exact aix hc aj hg hd hp k
  .exact ac2 hc aj hg hd e k
end
abbrev Xx(cx:Cx) (s:St) (d:Option Nat) (t:TypeId) (i:Nat) (lo:Operand) (K:St->Prop):Prop:=iM cx t λel ie sh=>match eF s.T i with
 | some ([],.row tt fG l1)=>match jC (.sl fG) l1 (.sl sh) with
   | some l=>match bM cx s [] lo with
     | some (.one (.c (.v (.int _ n))))=>(0<=n/\n<=l.length)/\K ({ s with T:=cZ s.T i ([],.Gp tt sh l n.toNat) }.put d [] (.one (.c (.sub i 0))))
     | _=>False
   | none=>False
 | _=>False
abbrev Xy(cx:Cx) (s:St) (d:Option Nat) (t:TypeId) (i:Nat) (y:Operand) (K:St->Prop):Prop:=iM cx t λel ie sh=>match eF s.T i with
 | some ([],.Gp tt fG l1 off)=>match jC (.sl fG) l1 (.sl sh) with
   | some l=>match bM cx s [] y with
     | some (.one v)=>match Oq s sh v with
       | some l2=>K ({ s with T:=cZ (mT (uI i) s.T) i ([],.row tt sh (l.take off++(l2.take (l.length - off)++(l.drop off).drop l2.length))),env:=yT (uI i) s.env }.put d [] (vI .i64 (Nat.min l2.length (l.length - off))))
       | none=>False
     | _=>False
   | none=>False
 | _=>False
abbrev Xz(cx:Cx) (s:St) (d:Option Nat) (t:TypeId) (fG:Sh) (x1:fG.den) (K:St->Prop):Prop:=iM cx t λel ie sh=>match jC fG x1 sh with
 | some x=>match Nat.ble ie.size 16777216 with
   | true=>K ({ s with T:=snoc s.T ([],.row el sh [x]) }.put d [] (.one (.c (.row (aQ s.T)))))
   | false=>False
 | none=>False
abbrev rtP(cx:Cx) (s:St) (o:Oper) (K:St->Prop):Option Prop:=match cx.rt with
 | false=>none
 | true=>match o.guard with
   | some _=>none
   | none=>match o.op with
     | .buildSlice t 1 ps=>match tl ps with
       | [(0,x)]=>match bM cx s [] x with
         | some (.one (.dat fG x1))=>some (Xz cx s o.dst t fG x1 K)
         | _=>none
       | _=>none
     | .slice t x (some lo) none none=>match bM cx s [] x with
       | some (.one (.c (.row i)))=>match eF s.T i with
         | some ([],.row _ _ _)=>some (Xx cx s o.dst t i lo K)
         | _=>none
       | _=>none
     | .call c=>match c.callee with
       | .builtin .copy=>match tl c.args with
         | [x,y]=>match bM cx s [] x with
           | some (.one (.c (.sub i 0)))=>match eF s.T i with
             | some ([],.Gp _ _ _ _)=>match tl c.argTypes with
               | [t,_]=>some (Xy cx s o.dst t i y K)
               | _=>none
             | _=>none
           | _=>none
         | _=>none
       | _=>none
     | _=>none
section
variable {cx:Cx}{P:Program}{N:Nat}{B:Base}{h0:FH}{s:St}{h:FH}{β:List RV}{w:World}{a:Act}{o:Oper}{K:St->Prop}
theorem dY.js2{us:Nat->Value} (hu:β[i]?=some (.deep v us)){x:SC} (c:dY h β x y):dY h (β.set i (.row v)) (uI i x) y:=by
 unfold uI;split
 .rename_i hf;cases x with
  | v _=>exact c
  | sl _ _=>exact c
  | fp _ _=>exact c
  | one _ _=>exact c
  | abs _=>exact c
  | junk=>trivial
  | own j off=>
    obtain⟨b,e,e'⟩:=c;refine⟨b,?_,e'⟩;rw[dM hu,if_neg]
    .exact e
    .rintro rfl;rw[hu]at e;cases e
  | row j=>
    obtain⟨z,e,e'⟩:=c
    by_cases hj:j=i
    .subst hj;rw[hu]at e;cases e;exact⟨.row v,by rw[dM hu,if_pos rfl],e'⟩
    .exact⟨z,by rw[dM hu,if_neg hj];exact e,e'⟩
  | jS j k sz off=>
    obtain⟨z,g,e,e',e2⟩:=c
    by_cases hj:j=i
    .subst hj;rw[hu]at e;cases e;exact⟨.row v,g,by rw[dM hu,if_pos rfl],e',e2⟩
    .exact⟨z,g,by rw[dM hu,if_neg hj];exact e,e',e2⟩
  | sub j k=>
    obtain⟨z,uj,e,e'⟩:=c;exact⟨z,uj,by rw[dM hu,if_neg (OI hf)];exact e,e'⟩
  | lQ j k m sz off=>
    obtain⟨z,uj,g,e,e'⟩:=c;exact⟨z,uj,g,by rw[dM hu,if_neg (OI hf)];exact e,e'⟩
 .trivial
theorem dY.js3{us:Nat->Value} (hu:β[i]?=some (.row v)){x:SC} (c:dY h β x y):dY h (β.set i (.deep v us)) x y:=by
 cases x with
 | v _=>exact c
 | sl _ _=>exact c
 | fp _ _=>exact c
 | one _ _=>exact c
 | abs _=>exact c
 | junk=>trivial
 | own j off=>
   obtain⟨b,e,e'⟩:=c;refine⟨b,?_,e'⟩;rw[dM hu,if_neg]
   .exact e
   .rintro rfl;rw[hu]at e;cases e
 | row j=>
   obtain⟨z,e,e'⟩:=c
   by_cases hj:j=i
   .subst hj;rw[hu]at e;cases e;exact⟨.deep v us,by rw[dM hu,if_pos rfl],e'⟩
   .exact⟨z,by rw[dM hu,if_neg hj];exact e,e'⟩
 | jS j k sz off=>
   obtain⟨z,g,e,e',e2⟩:=c
   by_cases hj:j=i
   .subst hj;rw[hu]at e;cases e;exact⟨.deep v us,g,by rw[dM hu,if_pos rfl],e',e2⟩
   .exact⟨z,g,by rw[dM hu,if_neg hj];exact e,e',e2⟩
 | sub j k=>
   obtain⟨z,uj,e,e'⟩:=c;refine⟨z,uj,?_,e'⟩;rw[dM hu,if_neg]
   .exact e
   .rintro rfl;rw[hu]at e;cases e
 | lQ j k m sz off=>
   obtain⟨z,uj,g,e,e'⟩:=c;refine⟨z,uj,g,?_,e'⟩;rw[dM hu,if_neg]
   .exact e
   .rintro rfl;rw[hu]at e;cases e
theorem mid(l:List SC):fE (λx=>x) l=l:=by
 induction l with
 | nil=>rfl
 | cons x l ih=>simp[fE,ih]
theorem apq(e:aZ):mE (λx=>x) e=e:=by
 have m2:∀x:SV,mV (λx=>x) x=x:=by intro x;cases x<;>simp[mV,mid]
 cases e with
 | one x=>simp[mE,m2]
 | gV xs=>
   have:∀l:List SV,fE (mV λx=>x) l=l:=by
    intro l
    induction l with
    | nil=>rfl
    | cons x l ih=>simp[fE,ih,m2]
   simp[mE,this]
theorem U0(hc:bT P cx.ti) (aj:Sat N B h0 s h β w a) (hg:aI cx.gd h) (hd:kY N o.dst=true){x lo:Operand} (ho:o.op=.slice t x (some lo) none none)
 (hx:bM cx s [] x=some (.one (.c (.row i)))) (k:Xx cx s o.dst t i lo K):fV P N B h0 h w a o (gv s.gl []) K:=by
 have tr:gv s.gl []=true:=rfl;unfold Xx iM at k;split at k
 .rename_i el hde;have hu:=bK hc hde (by simp)
  split at k
  .cases k
  rename_i ie hie;have tie:=hc.get hie;split at k
  .cases k
  rename_i sh hsh;split at k
  .rename_i hz;rw[aB,aB,bY,bY]at hz;have hz1:sh.size=ie.size:=iC hz.1;split at k
   .rename_i tt fG l1 hT;split at k
    .rename_i l hl;obtain⟨e1,e2⟩:=oI hl;subst e1;simp only at e2;subst e2;split at k
     .rename_i ik n hn;have eh:a.eval lo=.int ik n:=(aP aj hg tr hn:dh h β (.c (.v (.int ik n))) (a.eval lo)).1.1;obtain⟨⟨b1,b2⟩,q⟩:=k;have cr:=(aP aj hg tr hx:dh h β (.c (.row i)) (a.eval x));have fQ:=bG hT tr;have hβ:=aj.ok.row_of fQ cr.1;have kD:lV h w tt fG l1 (a.eval x):=aj.ok.holds i _ _ fQ hβ;have hi':i < β.length:=(A8.1 hβ).1;obtain⟨ad,cap,ev,hle⟩:∃(ad:Option Addr) (cap:Nat),a.eval x=.slice ad l1.length cap/\l1.length<=cap:=by
       rcases kD with⟨e,e0⟩ | ⟨ra,e,e0⟩ | ⟨g,cap,cur,e,q1,q2,_⟩
       .exact⟨none,0,by rw[e,e0];rfl,by rw[e0];simp⟩
       .exact⟨some ra,0,by rw[e,e0];rfl,by rw[e0];simp⟩
       .exact⟨_,cap,e,q2⟩
      have run:(execOp a.eval o).run P w=.ok (.value (.slice (if cap=n.toNat then ad else ad.map (·.add (n.toNat * ie.size))) (l1.length - n.toNat) (cap - n.toNat))) w:=by
       have:=oG (P:=P) (w:=w) (isS:=true) (len:=l1.length) (cap:=cap) (lo:=some (.int ik n)) (hi:=none) (a:=n) (b:=l1.length) (.inr ⟨ik,rfl⟩) (.inl ⟨rfl,rfl⟩) (by omega) hle
       have r2:(Instr.sliceAt t (a.eval x) (some (.int ik n)) none none).run P w=.ok (.slice (if cap=n.toNat then ad else ad.map (·.add (n.toNat * ie.size))) (l1.length - n.toNat) (cap - n.toNat)) w:=by
        rw[ev];simp only[Instr.sliceAt,Instr.slice,Sem.run_bind,run_underlying hu,Result.andThen_ok,this,run_sizeOf tie,Sem.run_pure,A95]
       simp only[execOp,ho,Sem.run_bind,acD,VO,eh];rw[r2];rfl
      rw[<-hz1]at run;have hold:Dn h w tt fG l1 n.toNat (a.eval x) (λ_=>.slice (if cap=n.toNat then ad else ad.map (·.add (n.toNat * fG.size))) (l1.length - n.toNat) (cap - n.toNat)):=⟨kD,by omega,ad,cap,ev,hle,rfl⟩
      generalize hus:(λ_:Nat=>Value.slice (if cap=n.toNat then ad else ad.map (·.add (n.toNat * fG.size))) (l1.length - n.toNat) (cap - n.toNat))=us at hold
      have h0':us 0=.slice (if cap=n.toNat then ad else ad.map (·.add (n.toNat * fG.size))) (l1.length - n.toNat) (cap - n.toNat):=by rw[<-hus]
      rw[<-h0']at run;have apr:dF (us 0):=by rw[h0'];exact⟨rfl,rfl⟩
      have hC:∀x' y,dY h β x' y->dY h (β.set i (.deep (a.eval x) us)) x' y:=λ_ _ c=>c.js3 hβ
      have aW:Sat N B h0 { s with T:=cZ s.T i ([],.Gp tt fG l1 n.toNat) } h (β.set i (.deep (a.eval x) us)) w a:=by
       refine⟨?_,?_,aj.gs,aj.defers,aj.sz,aj.gb,qo aj⟩
       .show OK B h0 (eff s.gl (cZ s.T i ([],.Gp tt fG l1 n.toNat))) h _ w;rw[xB];have:=aj.ok.OJ (f:=λx=>x) (r':=.Gp tt fG l1 n.toNat) (v:=.deep (a.eval x) us) (row:=none) (X:=λ_=>False) fQ rfl hβ (bV w none) (λk e=>by cases e) (λb hb=>hb.elim)
         (λb hb=>by
          rw[aX]at hb;rcases hb with hb | ⟨j,hb⟩
          .exact .inl (bg.2 hb)
          .exact .inl (bg.2 (hold.blk hb))) hC hold
        rwa [show(eff s.gl s.T).map (mR λx=>x)=eff s.gl s.T by rw[show(mR λx=>x)=id from funext ahf];simp]at this
       .intro t' G e' ht;obtain⟨z,q1,q2,q3⟩:=aj.env t' G e' ht;refine⟨z,q1,λhG=>?_,q3⟩
        have:=jF.map (f:=λx=>x) (FH.le.refl h) hC (q2 hG)
        rwa [apq]at this
      intro Nx Q next
      rw[if_pos tr];refine kF run (next _ _ _ _ _ q (FH.le.refl h) (λ_=>mD.refl w) (aW.put (G:=[]) (e:=.one (.c (.sub i 0))) (dR hd) rfl (λ_=>⟨?_,apr⟩) λhh=>by cases hh))
      refine⟨a.eval x,us,?_,rfl⟩;rw[qA hi']
     .cases k
    .cases k
   .cases k
  .cases k
 .cases k
theorem U1{dT sT:TypeId}{i:TI} (k:aN P el i) (hu:P.underlying dT=some (.slice el)){go dLen dCap:Nat}{b:Addr}{sLen sCap:Nat}{cur:Array Value}
 (hg:w.heap[g]?=some (.cells cur t (0,0))) (hn:cs.length=Nat.min sLen dLen * i.size) (hsrc:∀j v,cs[j]?=some v->w.cell? (b.add j)=some v) (hfit:go+cs.length<=cur.size) (h1:∀v∈cs,v.oneCell'=true):
 (Builtin.copy_ #[dT,sT] ty #[.slice (some ⟨g,go,none⟩) dLen dCap,.slice (some b) sLen sCap]).run P w=.ok (goInt (Nat.min sLen dLen)) (w.setRow g (cur.toList.take go++cs++cur.toList.drop (go+cs.length)).toArray):=by
 have hl:=run_loadCells_list (P:=P) w b cs hsrc;have hst:=run_storeCells_at P g go t cs 0 cur w hg (by simpa using hfit) h1
 simp only[Ug,Dk]at hst;simp[Builtin.copy_,run_underlying hu,Builtin.lenOf,Builtin.firstCells,run_sizeOf k,<-hn,hl,hst]
theorem U2(hc:bT P cx.ti) (aj:Sat N B h0 s h β w a) (hg:aI cx.gd h) (hd:kY N o.dst=true){t':TypeId}{x y:Operand} (ho:o.op=.call c) (bQ:c.callee=.builtin .copy) (ha:c.args=#[x,y]) (hat:c.argTypes=#[t,t'])
 (hx:bM cx s [] x=some (.one (.c (.sub i 0)))) (k:Xy cx s o.dst t i y K):fV P N B h0 h w a o (gv s.gl []) K:=by
 have tr:gv s.gl []=true:=rfl;unfold Xy iM at k;split at k
 .rename_i el hde;have hu:=bK hc hde (by simp)
  split at k
  .cases k
  rename_i ie hie;have tie:=hc.get hie;split at k
  .cases k
  rename_i sh hsh;split at k
  .rename_i hz;rw[aB,aB,bY,bY]at hz;have hz1:sh.size=ie.size:=iC hz.1;split at k
   .rename_i tt fG l1 off hT;split at k
    .rename_i l hl;obtain⟨e1,e2⟩:=oI hl;subst e1;simp only at e2;subst e2;split at k
     .rename_i v hv;split at k
      .rename_i l2 hl2;obtain⟨⟨v0,us,hb,e0⟩,_⟩:=(aP aj hg tr hx:dh h β (.c (.sub i 0)) (a.eval x));have cv:=aP aj hg tr hv;have fQ:=bG hT tr;have hold:Dn h w tt fG l1 off v0 us:=aj.ok.holds i _ _ fQ hb;have src:=Ce aj hl2 cv;obtain⟨kD,hoff,ad,cap,ev,hle,eus⟩:=hold;have ex:a.eval x=.slice (if cap=off then ad else ad.map (·.add (off * fG.size))) (l1.length - off) (cap - off):=by rw[<-e0,eus]
       generalize hR:(l1.take off++(l2.take (l1.length - off)++(l1.drop off).drop l2.length))=l' at k;have exec:∀{w':World},(Builtin.copy_ #[t,t'] o.type #[a.eval x,a.eval y]).run P w=.ok (goInt (Nat.min l2.length (l1.length - off))) w'->(execOp a.eval o).run P w=.ok (.value (goInt (Nat.min l2.length (l1.length - off)))) w':=by
        intro w' r0;simp only[execOp,ho,resolve,bQ,ha,hat,invoke,builtin,Sem.run_bind,Sem.run_pure,Result.andThen_ok];simp[r0]
       have fin:∀{w':World}{row:Option Nat},Gb w w' row->(∀k,row=some k->aA v0=some k)->(Builtin.copy_ #[t,t'] o.type #[a.eval x,a.eval y]).run P w=.ok (goInt (Nat.min l2.length (l1.length - off))) w' ->
        lV h w' tt fG l' v0->fV P N B h0 h w a o (gv s.gl []) K:=by
        intro w' row hgr hrw r0 hr;have hC:∀x' y',dY h β x' y'->dY h (β.set i (.row v0)) (uI i x') y':=λ_ _ c=>c.js2 hb
        have ok:OK B h0 (eff s.gl (cZ (mT (uI i) s.T) i ([],.row tt fG l'))) h (β.set i (.row v0)) w':=by
         rw[fP,Ea];exact aj.ok.OJ (f:=uI i) (r':=.row tt fG l') (v:=.row v0) (X:=λ_=>False) fQ rfl hb hgr (λk e=>aX.2 (.inl (hrw k e))) (λb hb=>hb.elim) (λb hb=>.inl (aX.2 (.inl (bg.1 hb)))) hC hr
        have gT:∀p∈cZ (mT (uI i) s.T) i ([],ay.row tt fG l'),vk s.gl.length p.1=true:=by
         intro p hp;rw[eY]at hp;rcases Ic hp with hp | hp
         .obtain⟨q,q1,q2⟩:=Eb hp;rw[<-q2];exact aj.gT q q1
         .subst hp;rfl
        exact mG aj k rfl (by rw[ho];simp[quietly,bQ]) (.inl (exec r0)) (FH.le.refl h) ((aj.map (FH.le.refl h) (λ_=>by rfl) hC ok gT).put (G:=[]) (e:=vI .i64 (Nat.min l2.length (l1.length - off))) (dR hd) rfl (λ_=>⟨⟨rfl,bH _ _⟩,bH _ _⟩) λhh=>by cases hh)
       have zero:∀(ab:Option Addr) (sC:Nat),a.eval y=.slice ab l2.length sC->(l1.length - off=0\/l2=[])->fV P N B h0 h w a o (gv s.gl []) K:=by
        intro ab sC ey h0';have hm:Nat.min l2.length (l1.length - off)=0:=by rcases h0' with e | e<;>simp[e]
        refine fin (bV w none) (λk e=>by cases e) ?_ ?_
        .rw[hm,ex,ey];exact GN tie hu hm
        .have:l'=l1:=by
          rw[<-hR];rcases h0' with e | e
          .rw[e,Ud,VK (by omega:l1.length<=off),wB (by omega)];simp
          .subst e;simp
         rw[this];exact kD
       have ey0:∃(ab:Option Addr) (sC:Nat),a.eval y=.slice ab l2.length sC:=by
        rcases src with⟨s1,s2⟩ | ⟨sa,sc,s1,s2⟩ | ⟨sb,so,sc,cs,s1,s2,s3⟩
        .exact⟨none,0,by rw[s1,s2];rfl⟩
        .exact⟨some sa,sc,by rw[s1,s2];rfl⟩
        .exact⟨_,sc,s1⟩
       obtain⟨ab0,sC0,ey0⟩:=ey0
       by_cases hz0:l1.length - off=0
       .exact zero _ _ ey0 (.inl hz0)
       by_cases hz2:l2=[]
       .exact zero _ _ ey0 (.inr hz2)
       rcases kD with⟨e1,e2⟩ | ⟨ra,e1,e2⟩ | ⟨g,jJ,cur,e1,q1,q2,q3,q4,q5⟩
       .rw[e2]at hz0;simp at hz0
       .rw[e2]at hz0;simp at hz0
       rcases src with⟨s1,s2⟩ | ⟨sa,sc,s1,s2⟩ | ⟨sb,so,sc,cs,s1,s2,s3⟩
       .exact absurd s2 hz2
       .exact absurd s2 hz2
       rw[e1]at ev;injection ev with ev1 ev2 ev3
       subst ev1;subst ev3;rw[if_neg (by omega)]at ex
       simp only[VO,add_lit,Dk]at ex;have hcs:=gq.size (λ_ _=>Rd.size fG) s2
       have lc:cur.toList.length=jJ * fG.size:=by simpa using q4
       have hm1:l1.length * fG.size<=jJ * fG.size:=yh _ q2;generalize hm:Nat.min l2.length (l1.length - off)=m at *;have hm2:m<=l2.length:=by rw[<-hm];exact Nat.min_le_left _ _
       have hm3:m<=l1.length - off:=by rw[<-hm];exact Nat.min_le_right _ _
       have hm4:m * fG.size<=l2.length * fG.size:=yh _ hm2;have hm5:(off+m) * fG.size<=l1.length * fG.size:=yh _ (by omega)
       rw[Kq]at hm5;have ht:=gq.uq (λ_ _=>Rd.size fG) s2 (a:=0) (b:=m) (Ko _) hm2
       simp only[NW,NR]at ht;have hlen:(cs.take (m * fG.size)).length=m * fG.size:=by rw[kX];omega
       have r0:=U1 (P:=P) (w:=w) (dT:=t) (sT:=t') (ty:=o.type) tie hu (g:=g) (go:=off * fG.size) (dLen:=l1.length - off) (dCap:=jJ - off) (b:=⟨sb,so,none⟩) (sLen:=l2.length) (sCap:=sc) (cs:=cs.take (m * fG.size)) q1 (by rw[hlen,hm,hz1]) (λj v hj=>by
        rw[uY]at hj;split at hj
        .have:=s3 j v hj;have ea:(⟨sb,so,none⟩:Addr).add j=⟨sb,so+j,none⟩:=by unfold Addr.add;split<;>simp_all
         rw[ea];exact this
        .cases hj) (by rw[hlen];rw[<-TR,lc];omega) (λv hv=>(gq.all (λ_ _=>Rd.one fG) ht v hv).2)
       rw[hm]at r0;refine fin (row:=some g) (jc w g _) (λk e=>by cases e;rw[e1];exact aY q3.1) (by rw[ex,s1];exact r0) ?_
       have el:l'=l1.take off++l2.take m++l1.drop (off+m):=by
        rw[<-hR,zX]
        congr 1
        rcases Nat.le_total l2.length (l1.length - off) with hh | hh
        .have:m=l2.length:=by rw[<-hm];exact Ih hh
         rw[this,wB hh,wB (pz _),Ue]
        .have:m=l1.length - off:=by rw[<-hm];exact Nat.min_eq_right hh
         rw[this,Ue,VK (by omega),VK (by omega)]
       rw[el];have ll:(l1.take off++l2.take m++l1.drop (off+m)).length=l1.length:=by simp only[kC,kX,yj];omega
       refine .inr (.inr ⟨g,jJ,_,by rw[ll];exact e1,setRow_heap w g _ _ tt (0,0) q1,by rw[ll];exact q2,q3,?_,?_⟩)
       .simp only[FT,kC,kX,yj,lc,hlen];omega
       .rw[ll];have p1:=(gq.split (λ_ _=>Rd.size fG) (l:=l1.take off) (l':=l1.drop off) (by rw[VL];exact q5)).1
        have p2:=(gq.split (λ_ _=>Rd.size fG) (l:=l1.take (off+m)) (l':=l1.drop (off+m)) (by rw[VL];exact q5)).2
        have h3:=(p1.append ht).append p2;have k1:(l1.take off).length=off:=by rw[kX];omega
        have k2:(l1.take (off+m)).length=off+m:=by rw[kX];omega
        rw[k1,k2,Kq]at h3;have e3:List.take (l1.length * fG.size) (List.take (off * fG.size) cur.toList++cs.take (m * fG.size)++List.drop (off * fG.size+(cs.take (m * fG.size)).length) cur.toList)=List.take (off * fG.size) (List.take (l1.length * fG.size) cur.toList)++cs.take (m * fG.size)++List.drop (off * fG.size+m * fG.size) (List.take (l1.length * fG.size) cur.toList):=by
         rw[hlen];apply Ie;intro p;simp only[A91,uY,J7,kX,kC,lc]
         repeat' split
         all_goals first | rfl | omega | (congr 1;omega) | (exfalso;omega) | skip
        simp only at e3 ⊢;rw[e3];exact h3
      .cases k
     .cases k
    .cases k
   .cases k
  .cases k
 .cases k
theorem Lc{h:FH}{β:List RV}:∀{cs:List Value},(∀v∈cs,dF v)->aS (λx y=>dY h β x y/\dF y) (cs.map SC.v) cs
 | [],_=>trivial
 | c :: cs,f=>⟨⟨⟨rfl,f c (by simp)⟩,f c (by simp)⟩,Lc λv hv=>f v (by simp[hv])⟩
theorem Ld{h:FH}{β:List RV}:∀{cs zs:List Value},aS (λx y=>dY h β x y/\dF y) (cs.map SC.v) zs->zs=cs
 | [],[],_=>rfl
 | c :: cs,z :: zs,⟨⟨c1,_⟩,a⟩=>by rw[Ld a,c1.1]
theorem U3(hc:bT P cx.ti) (aj:Sat N B h0 s h β w a) (hg:aI cx.gd h) (hd:kY N o.dst=true){parts:Array (Nat×Operand)} (ho:o.op=.buildSlice t 1 parts)
 {x:Operand} (hp:tl parts=[(0,x)]){fG:Sh}{x1:fG.den} (hx:bM cx s [] x=some (.one (.dat fG x1))) (k:Xz cx s o.dst t fG x1 K):fV P N B h0 h w a o (gv s.gl []) K:=by
 have tr:gv s.gl []=true:=rfl;unfold Xz iM at k;split at k
 .rename_i el hde;have hu:=bK hc hde (by simp)
  split at k
  .cases k
  rename_i ie hie;have tie:=hc.get hie;split at k
  .cases k
  rename_i sh hsh;split at k
  .rename_i hz;rw[aB,aB,bY,bY]at hz;have hz1:sh.size=ie.size:=iC hz.1;have hz2:1<=ie.size:=qm hz.2.2;split at k
   .rename_i y hy;obtain⟨e1,e2⟩:=kE hy;subst e1;simp only at e2;subst e2;split at k
    .rename_i hbl;have hsz1:ie.size<=16777216:=qm hbl;refine lq aj (G:=[]) rfl hd k λhgv=>?_
     obtain⟨_,cs,ey,rd⟩:=(aP aj hg tr hx:dh h β (.dat fG x1) (a.eval x));have hl:cs.length=fG.size:=Rd.size fG rd;have h1:=Rd.one fG rd;have htl:(parts.map λ(p:Nat×Operand)=>(p.1,a.eval p.2)).toList=[(0,a.eval x)]:=by
      have:(parts.map λ(p:Nat×Operand)=>(p.1,a.eval p.2)).toList=(tl parts).map λp=>(p.1,a.eval p.2):=by cases parts;simp
      rw[this,hp];rfl
     have hf:uw (λj=>some (j * ie.size,ie.size)) ((iI 1 ie.zero).map SC.v) [(0,.agg (cs.map SC.v))]=some (cs.map SC.v):=by
      have e1:(iI 1 ie.zero)=ie.zero:=by simp[iI,fM]
      rw[e1];unfold uw yI nN;simp only[NW,aB,bF,VW,Dk];rw[show Nat.beq cs.length ie.size=true by rw[hl,hz1];exact Nat.beq_refl _,show Nat.ble ie.size ie.zero.length=true by rw[tie.pF];exact A79 (pz _)]
      simp only[Bool.and_self];unfold uw Uw;rw[show qG 0 (ie.zero.map SC.v)=[] by simp[jI],fM,fM,bF,qH,VW]
      rw[VK (by rw[VW,tie.pF];omega)]
      simp
     rw[<-BX SC.v (iI 1 ie.zero)]at hf;obtain⟨zs,g1,g2⟩:=qM (h:=h) (β:=β) (parts:=[(0,.agg (cs.map SC.v))]) (vals:=[(0,a.eval x)]) ⟨⟨rfl,cs,ey,Lc h1⟩,trivial⟩ (gZ λv hv=>tie.zone v (yM hv)) hf
     have ez:=Ld g2;subst ez;have hz0:0 < ie.zero.length:=by rw[tie.pF];omega
     obtain⟨z,hz1',hz2'⟩:=uy tie w;have hc1:((Array.range (1 * ie.size)).map (λi=>z.cells[i % z.cells.size]!))=(iI 1 ie.zero).toArray:=by
      rw[hz2',<-tie.pF];exact qO hz0
     refine⟨.slice (some ⟨w.heap.size,0,none⟩) 1 1,w.alloc (.cells zs.toArray el),.row (.slice (some ⟨w.heap.size,0,none⟩) 1 1),?_,oC _ _ _,?_,?_,?_⟩
     .have hbig:¬(1 * ie.size > 2 ^ 24):=by omega
      have h0:¬1 * ie.size=0:=by omega
      simp only[execOp,ho,Instr.buildSlice,Sem.run_bind,run_underlying hu,Result.andThen_ok,run_sizeOf tie,hbig,NZ,Sem.run_ite,Sem.run_pure,h0,hz1'];rw[htl,hc1,g1];simp only[Sem.run_bind,newRow,run_newObj,Result.andThen_ok,Sem.run_pure];rfl
     .intro b hb;rw[bg]at hb;simp[aA]at hb;obtain⟨_,rfl⟩:=hb;simp
     .refine .inr (.inr ⟨w.heap.size,1,zs.toArray,rfl,mJ _ _,pz _,⟨pz _,by simp[maxLen]⟩,by simp only[FT];omega,?_⟩)
      rw[wB (by simp;omega)]
      exact⟨zs,[],by simp,rd,rfl⟩
     .exact⟨⟨_,kG (lu aj) _,rfl⟩,rfl,rfl⟩
    .cases k
   .cases k
  .cases k
 .cases k
theorem XA(hc:bT P cx.ti) (aj:Sat N B h0 s h β w a) (hg:aI cx.gd h) (hd:kY N o.dst=true) (e:rtP cx s o K=some p) (k:p):fV P N B h0 h w a o (Region.wanted o (yielded ops a.tmps)) K:=by
 have hw:∀{b:Bool},o.guard=none->fV P N B h0 h w a o (gv s.gl []) K->fV P N B h0 h w a o (Region.wanted o (yielded ops a.tmps)) K:=by
  intro b hgd x;have:Region.wanted o (yielded ops a.tmps)=true:=by unfold Region.wanted;rw[hgd]
  rw[this];exact x
 unfold rtP at e;split at e
 .cases e
 split at e
 .cases e
 rename_i hgd;split at e
 .rename_i t ps ho;split at e
  .rename_i x hps;split at e
   .rename_i fG x1 hx;cases e;exact hw (b:=true) hgd (U3 hc aj hg hd ho hps hx k)
   .cases e
  .cases e
 .rename_i t x lo ho;split at e
  .rename_i i hx;split at e
   .cases e;exact hw (b:=true) hgd (U0 hc aj hg hd ho hx k)
   .cases e
  .cases e
 .rename_i c ho;split at e
  .rename_i bQ;split at e
   .rename_i x y ha;split at e
    .rename_i i hx;split at e
     .split at e
      .rename_i t t' ht;cases e;exact hw (b:=true) hgd (U2 hc aj hg hd ho bQ (iH ha) (iH ht) hx k)
      .cases e
     .cases e
    .cases e
   .cases e
  .cases e
 .cases e
end
def Wd(F:Fence):Prop:=F=Fence.wide\/∃l,F=Fence.wide.inRound l
theorem Wd.fn{F:Fence} (h:Wd F) (f:FuncId):F.fn f:=by rcases h with rfl | ⟨l,rfl⟩<;>trivial
theorem Wd.depth{F:Fence} (h:Wd F):F.depth=none:=by rcases h with rfl | ⟨l,rfl⟩<;>rfl
theorem Wd.calls{F:Fence} (hF:Wd F){P:Program}{f:FuncId}{args:Array Value}{R:Ending->World->Prop} (h:Calls P f args w R):CallsIn F n P f args w R:=by
 rcases hF with rfl | ⟨l,rfl⟩
 .exact callsIn_wide.2 h
 .exact(callsIn_wide.2 h:CallsIn Fence.wide n P f args w R).inRound l
abbrev I7:Op->Bool
 | .defer _=>false
 | _=>true
abbrev Cj:List Oper->Bool
 | []=>true
 | o :: l=>dD (I7 o.op) (Cj l)
section
variable {F:Fence}{n:Nat}{P:Program}{ops:Array Oper}{md:Region.Mode}
theorem Le(hF:Wd F){o:Oper} (hd:I7 o.op=true){Nx:Act->World->Prop}{Q Q':Exit->Act->World->Prop} (h:o.wp P a w Nx IK):o.wpIn F n P a w Nx Q':=by
 refine⟨λf _=>hF.fn f,?_⟩
 rw[Oper.semAt_eq _ _ _ (λc hc=>by rw[hc]at hd;cases hd)]
 unfold Oper.wp at h;generalize (execOp a.eval o).run P w=r at *;cases r with
 | ok m w'=>
   cases m<;>simp only[Oper.upon]at h<;>simp only[Oper.uponIn]
   case enter f args=>
    refine⟨λhh=>(by rw[hF.depth]at hh;cases hh),hF.calls (h.mono λe w'' he=>?_)⟩
    cases e with
    | returned v=>exact he
    | panicked c=>exact False.elim he
    | outgrown=>exact xG he
   case row row args=>
    refine⟨λhh=>(by rw[hF.depth]at hh;cases hh),λc cs _=>?_⟩
    obtain⟨v,w'',hr,hs⟩:=h c cs;refine⟨v,w'',hr,?_⟩;have:StepsIn (Machine.fenced P Fence.wide) P (lone (Frame.ofRow P row args .normal) (c :: cs) w') (lone (c.finish v) cs w''):=stepsIn_wide.2 hs;rcases hF with rfl | ⟨l,rfl⟩
    .exact this
    .exact this
   all_goals first | exact h | exact h.elim
 | halt x w'=>cases x<;>simp only[Oper.upon]at h<;>first | exact h.elim | exact False.elim h
def wpL(P:Program) (ops:Array Oper) (R:Act->World->Prop):List Oper->Act->World->Prop
 | [],a,w=>R a w
 | o :: rest,a,w=>if Region.wanted o (yielded ops a.tmps)=true then o.wp P a w (wpL P ops R rest) IK else wpL P ops R rest (a.put o.dst undef) w
theorem OO(hF:Wd F){R:Act->World->Prop}{Q:Exit->Act->World->Prop} (hR:∀a w,R a w->Q .normal a w):∀(l:List Oper) (k:Nat) (a:Act) (w:World),(∀j,l[j]?=ops[k+j]?)->Cj l=true->wpL P ops R l a w ->
 wpOpsIn F n P ops Q (List.range' k l.length) a w
 | [],k,a,w,_,_,h=>hR _ _ h
 | o :: l,k,a,w,hl,hn,h=>by
   have h0:ops[k]?=some o:=by simpa using(hl 0).symm
   simp only[Cj,aB,bY]at hn;have ih:∀a w,wpL P ops R l a w->wpOpsIn F n P ops Q (List.range' (k+1) l.length) a w:=λa w=>OO hF hR l (k+1) a w (λj=>by have:=hl (j+1);simpa[FU,V9 1 j]using this) hn.2
   simp only[wV,List.range'_succ,wpOpsIn,h0];unfold wpL at h;split
   .rename_i hw;rw[if_pos hw]at h;exact Oper.wpIn_mono ih (Le (Q:=Q) hF hn.1 h)
   .rename_i hw;rw[if_neg hw]at h;exact⟨λf _=>hF.fn f,ih _ _ h⟩
theorem OQ(hF:Wd F){R:Act->World->Prop} (hR:∀a w,R a w->Q .normal a w){id:Nat} (hn:Cj ops.toList=true) (h:wpL P ops R ops.toList a w):(Code.region id ops false).wpIn F n P Q a w:=
 wpIn_region (by
  have:=OO (n:=n) hF hR ops.toList 0 a w (λj=>by simp) hn h
  rw[List.range_eq_range'];simpa using this)
theorem Ef(hn:Cj ops.toList=true){o:Oper} (h:ops[i]?=some o):I7 o.op=true:=by
 have key:∀{l:List Oper},Cj l=true->o∈l->I7 o.op=true:=by
  intro l
  induction l with
  | nil=>intro _ hm;cases hm
  | cons x l ih=>
    intro hh hm;simp only[Cj,aB,bY]at hh;rcases ni.1 hm with rfl | hm
    .exact hh.1
    .exact ih hh.2 hm
 exact key hn (iy (i:=i) (by simpa using h))
theorem aiA(hF:Wd F) (hn:Cj ops.toList=true) (h:zU P ops i K a w):wpOpIn F n P ops Q i K a w:=by
 unfold zU at h;unfold wpOpIn;split
 .rename_i ho;simpa[ho]using h
 .rename_i o ho;simp only[ho]at h;split
  .rename_i hw;rw[if_pos hw]at h;exact Le (Q:=Q) hF (Ef hn ho) h
  .rename_i hw;rw[if_neg hw]at h;exact⟨λf _=>hF.fn f,h⟩
theorem I8{sf:Nat->Bool} (hF:Wd F) (hn:Cj ops.toList=true){R:Act->World->Prop}{Q:Exit->Act->World->Prop} (hR:∀a w,R a w->Q .normal a w):∀(fuel:Nat) (listed:Array Bool) (a:Act) (w:World),
 anyI P md ops sf R fuel listed a w->wpAnyIn F n P md ops Q fuel listed a w
 | 0,_,_,_,h=>⟨h.1,hR _ _ h.2⟩
 | fuel+1,_,_,_,h=>⟨λe=>hR _ _ (h.1 e),λi hi=>aiA hF hn (KT (λa w hh=>I8 hF hn hR fuel _ a w hh.2) (h.2 i hi))⟩
theorem adb(hF:Wd F) (hn:Cj ops.toList=true){K:Act->Prop}{K':Act->World->Prop} (hK:∀a,K a->K' a w) (h:stOp P ops w i K a):wpOpIn F n P ops Q i K' a w:=by
 unfold stOp at h;unfold wpOpIn;split
 .rename_i ho;simp only[ho]at h;exact hK _ h
 .rename_i o ho;simp only[ho]at h;split
  .rename_i hw;rw[if_pos hw]at h;exact Le (Q:=Q) hF (Ef hn ho) (Oper.wp_of_still hK h)
  .rename_i hw;rw[if_neg hw]at h;exact⟨λf _=>hF.fn f,hK _ h⟩
theorem Q5(hF:Wd F) (hn:Cj ops.toList=true){w:World}{R:Act->Prop}{Q:Exit->Act->World->Prop} (hR:∀a,R a->Q .normal a w):∀(fuel:Nat) (listed:Array Bool) (a:Act),
 wpAnyS P md ops w R fuel listed a->wpAnyIn F n P md ops Q fuel listed a w
 | 0,_,_,h=>⟨h.1,hR _ h.2⟩
 | fuel+1,_,_,h=>⟨λe=>hR _ (h.1 e),λi hi=>adb hF hn (λa hh=>Q5 hF hn hR fuel _ a hh) (h.2 i hi)⟩
theorem yY(hF:Wd F) (hn:Cj ops.toList=true){id:Nat} (hm:P.follows .mixedOrders=true) (hB:Region.lexB .any ops=true)
 (h:wpStill P ops { w with drawn:=w.drawn+1 } (λa'=>Q .normal a' { w with drawn:=w.drawn+1 }) ops.toList a):(Code.region id ops true).wpIn F n P Q a w:=by
 simp only[Region.lexB,bY]at hB;refine wpIn_region_any hm (Q5 (R:=λa'=>Q .normal a' { w with drawn:=w.drawn+1 }) hF hn (λ_ h=>h) _ _ _ ?_)
 have:=wpAnyS_lex (md:=.any) hB.1 ops.toList 0 (Array.replicate ops.size false) a (by simp) (by simpa using hB.2) h
 simpa using this
theorem wpIn_loop_ghost{c:Code} (I:Nat->Act->World->Prop) (n₀:Nat) (h₀:I n₀ a w)
 (round:∀m a w,I m a w->c.wpIn F n P (Exit.then (λa' w'=>∃n',n' < m/\I n' a' w') Q) a w):(Code.loop c).wpIn F n P Q a w:=by
 refine wpIn_loop (λa w=>∃m,I m a w) (λa w=>leastOf (λm=>I m a w)) ⟨n₀,h₀⟩ ?_
 intro a w hI;refine wpIn_mono (round _ a w (leastOf_spec hI).1) ?_;intro e a' w' hq;cases e with
 | normal=>
   obtain⟨n',iQ,hI'⟩:=hq;exact show(∃m,I m a' w')/\leastOf (λm=>I m a' w') < leastOf (λm=>I m a w) from⟨⟨n',hI'⟩,Nat.lt_of_le_of_lt ((leastOf_spec ⟨n',hI'⟩).2 n' hI') iQ⟩
 | exit id=>exact hq
 | goto l=>exact hq
 | ret=>exact hq
 | panic ch=>exact hq
 | outgrown=>exact hq
end
section
variable {P:Program}{ops:Array Oper}{md:Region.Mode}{n:Nat}{sf:Nat->Bool}
def qp(P:Program) (n:Nat) (ops:Array Oper) (i:Nat) (K:Act->World->Prop) (a:Act) (w:World):Prop:=
 match ops[i]? with
 | none=>K a w
 | some o=>if Region.wanted o (yielded ops a.tmps)=true then o.uponIn Fence.wide n P a K IK ((execOp a.eval o).run P w) else K (a.put o.dst undef) w
theorem GR{o:Oper}{K':Act->World->Prop}{Q':Exit->Act->World->Prop} (h:∀a w,K a w->K' a w){r:Result Next} (hh:o.uponIn Fence.wide n P a K IK r):o.uponIn Fence.wide n P a K' Q' r:=by
 cases r with
 | ok x w'=>
   cases x<;>simp only[Oper.uponIn]at hh ⊢
   case enter f args=>
    refine⟨hh.1,hh.2.mono λe w'' he=>?_⟩
    cases e with
    | returned v=>exact h _ _ he
    | panicked c=>exact False.elim he
    | outgrown=>exact xG he
   case row r args=>
    exact⟨hh.1,RowsIn.mono hh.2 λv w'' he=>h _ _ he⟩
   case round l f tmps FQ body=>
    refine⟨hh.1,RoundIn.mono hh.2 λe w'' he=>?_⟩
    cases e with
    | returned v=>exact h _ _ he
    | panicked c=>exact False.elim he
    | outgrown=>exact xG he
   all_goals first | exact h _ _ hh | exact hh.elim
 | halt x w'=>cases x<;>simp only[Oper.uponIn]at hh ⊢<;>exact False.elim hh
theorem GU{K':Act->World->Prop} (h:∀a w,K a w->K' a w) (hh:qp P n ops i K a w):qp P n ops i K' a w:=by
 unfold qp at *;split
 .exact h _ _ (by simpa[*]using hh)
 .rename_i o ho;simp only[ho]at hh;split
  .rename_i hw;rw[if_pos hw]at hh;exact GR h hh
  .rename_i hw;rw[if_neg hw]at hh;exact h _ _ hh
theorem ade(hn:Cj ops.toList=true) (h:qp P n ops i K a w):wpOpIn Fence.wide n P ops Q i K a w:=by
 unfold qp at h;unfold wpOpIn;split
 .rename_i ho;simpa[ho]using h
 .rename_i o ho;simp only[ho]at h;split
  .rename_i hw;rw[if_pos hw]at h;refine⟨λf _=>trivial,?_⟩
   rw[Oper.semAt_eq _ _ _ (λc hc=>by have:=Ef hn ho;rw[hc]at this;cases this)]
   exact GR (λ_ _ hh=>hh) h
  .rename_i hw;rw[if_neg hw]at h;exact⟨λf _=>trivial,h⟩
theorem ahk(hn:Cj ops.toList=true) (h:zU P ops i K a w):qp P n ops i K a w:=by
 unfold zU at h;unfold qp;split
 .rename_i ho;simpa[ho]using h
 .rename_i o ho;simp only[ho]at h;split
  .rename_i hw;rw[if_pos hw]at h;have h2:=(Le (n:=n) (Q:=IK) (Q':=IK) (.inl rfl:Wd Fence.wide) (Ef hn ho) h).2
   rwa [Oper.semAt_eq _ _ _ (λc hc=>by have:=Ef hn ho;rw[hc]at this;cases this)]at h2
  .rename_i hw;rw[if_neg hw]at h;exact h
def I9(P:Program) (n:Nat) (md:Region.Mode) (ops:Array Oper) (sf:Nat->Bool) (R:Act->World->Prop):Nat->Array Bool->Act->World->Prop
 | 0,listed,a,w=>Region.ready md ops listed=[]/\R a w
 | fuel+1,listed,a,w=>(Region.ready md ops listed=[]->R a w) /\
   ∀i∈Region.ready md ops listed,qp P n ops i (λa' w'=>(sf i=true->mD w w')/\I9 P n md ops sf R fuel (listed.setIfInBounds i true) a' w') a w
theorem Q7(hn:Cj ops.toList=true){R:Act->World->Prop}{Q:Exit->Act->World->Prop} (hR:∀a w,R a w->Q .normal a w):∀(fuel:Nat) (listed:Array Bool) (a:Act) (w:World),
 I9 P n md ops sf R fuel listed a w->wpAnyIn Fence.wide n P md ops Q fuel listed a w
 | 0,_,_,_,h=>⟨h.1,hR _ _ h.2⟩
 | fuel+1,_,_,_,h=>⟨λe=>hR _ _ (h.1 e),λi hi=>ade hn (GU (λa w hh=>Q7 hn hR fuel _ a w hh.2) (h.2 i hi))⟩
theorem YI.qp{ld:Bool}{w0:World}{i:Nat}{o:Oper}{v:Value}{a:Act} (hi:ops[i]?=some o) (hy:YI P ops ld w0 o v a){K:Act->World->Prop}{w:World} (hg:ld=true->mD w0 w)
 (h:K (a.put o.dst v) w):qp P n ops i K a w:=by
 unfold Go.jf.qp;simp only[hi];rcases hy with⟨hw,hv⟩ | ⟨hw,rfl⟩
 .rw[if_pos hw,hv w hg];exact h
 .rw[if_neg (by rw[hw];simp)];exact h
theorem XB{ld:Bool}{w0:World}{oi oj:Oper} (hj:ops[j]?=some oj) (hap:oi.apart ops oj=true)
 (hsi:∀cs b,oi.op≠.select cs b) (hsj:∀cs b,oj.op≠.select cs b)
 (hy:YI P ops ld w0 oi v a) (h:qp P n ops j K (a.put oi.dst v) w):
 qp P n ops j (λa' w'=>YI P ops ld w0 oi v a'/\K (a'.put oi.dst v) w') a w:=by
 obtain⟨h1,h2,h3⟩:=Oper.apart_spec hap;have keep:∀(a:Act),YI P ops ld w0 oi v a->∀u,YI P ops ld w0 oi v (a.put oj.dst u):=λa hy u=>
  hy.of_same (execOp_put oi hsi a oj.dst u h3) (wanted_put oi a oj.dst u h3)
 have keepD:∀d,YI P ops ld w0 oi v { a with defers:=d :: a.defers }:=λd=>hy.of_same rfl rfl
 unfold qp at *;simp only[hj]at *;rw[wanted_put oj a oi.dst v h1]at h;split
 .rename_i hw;rw[if_pos hw]at h;rw[execOp_put oj hsj a oi.dst v h1]at h;generalize (execOp a.eval oj).run P w=r at *;cases r with
  | ok m w'=>
    cases m<;>simp only[Oper.uponIn]at h ⊢
    case value u=>exact⟨keep a hy u,by rw[<-Act.put_comm a v u h2];exact h⟩
    case skip=>exact⟨keep a hy _,by rw[<-Act.put_comm a v undef h2];exact h⟩
    case defer d=>
     refine⟨(keep _ (keepD d) _),?_⟩;rw[<-Act.put_comm _ v undef h2,<-Act.put_defers];exact h
    case enter f args=>
     refine⟨h.1,h.2.mono λe w'' he=>?_⟩
     cases e with
     | returned u=>exact⟨keep a hy u,by rw[<-Act.put_comm a v u h2];exact he⟩
     | panicked c=>exact he
     | outgrown=>exact he
    case row r args=>
     refine⟨h.1,RowsIn.mono h.2 λu w'' he=>?_⟩
     exact⟨keep a hy u,by rw[<-Act.put_comm a v u h2];exact he⟩
    case round l f tmps FQ body=>
     refine⟨h.1,RoundIn.mono h.2 λe w'' he=>?_⟩
     cases e with
     | returned u=>exact⟨keep a hy u,by rw[<-Act.put_comm a v u h2];exact he⟩
     | panicked c=>exact he
     | outgrown=>exact he
    all_goals exact h
  | halt x w'=>cases x<;>simp only[Oper.uponIn]at h ⊢<;>exact h
 .rename_i hw;rw[if_neg hw]at h;exact⟨keep a hy _,by rw[<-Act.put_comm a v undef h2];exact h⟩
theorem OU{R:Act->World->Prop}{ld:Bool}{w0:World}{oi:Oper}{bl:List Nat} (hi:ops[i]?=some oi) (hsel:∀(j:Nat) (o:Oper) cs b,ops[j]?=some o->o.op≠.select cs b)
 (hq:sf i=true):
 ∀(fuel:Nat) (listed:Array Bool) (a:Act) (w:World),
   (∀j oj,ops[j]?=some oj->j≠i->listed.getD j true=false->(∀e∈oj.after,Region.binds md e=true->e.on≠i)->oi.apart ops oj=true) ->
   (ld=true->Waits md ops listed i bl/\∀j,j≠i->listed.getD j true=false->sf j=false->j∈bl) ->
   i∈Region.ready md ops listed->YI P ops ld w0 oi v a->(ld=true->mD w0 w) ->
   I9 P n md ops sf R fuel (listed.setIfInBounds i true) (a.put oi.dst v) w->I9 P n md ops sf R (fuel+1) listed a w:=by
 intro fuel
 induction fuel with
 | zero=>
   intro listed a w _ _ hr hy hg H;refine⟨λh=>(by rw[h]at hr;cases hr),λj hj=>?_⟩
   by_cases hji:j=i
   .subst hji;exact hy.qp hi hg ⟨λ_=>mD.refl w,H⟩
   .have:=ready_mono hj hji;rw[H.1]at this;cases this
 | succ fuel ih=>
   intro listed a w hfree hbl hr hy hg H;refine⟨λh=>(by rw[h]at hr;cases hr),λj hj=>?_⟩
   by_cases hji:j=i
   .subst hji;exact hy.qp hi hg ⟨λ_=>mD.refl w,H⟩
   .have h1:=H.2 j (ready_mono hj hji);obtain⟨hjun,oj,hoj,hall⟩:=mem_ready.1 hj;have WX:=(mem_ready.1 hr).1;have hnot:∀e∈oj.after,Region.binds md e=true->e.on≠i:=λe he hb heq=>by
     have h1:=hall e he hb;rw[heq,vM WX]at h1;cases h1
    have h2:=XB hoj (hfree j oj hoj hji hjun hnot) (λcs b=>hsel i oi cs b hi) (λcs b=>hsel j oj cs b hoj) hy h1
    have hfree':∀k ok,ops[k]?=some ok->k≠i->(listed.setIfInBounds j true).getD k true=false ->
     (∀e∈ok.after,Region.binds md e=true->e.on≠i)->oi.apart ops ok=true:=λk ok hk hki hun hno=>by
     refine hfree k ok hk hki ?_ hno
     by_cases gU:j=k
     .subst gU;exact hjun
     .rw[getD_set_ne true gU]at hun;exact hun
    have WY:ld=true->j∉bl:=λe hm=>GH WX (hbl e).1 hm hj
    have hsj:ld=true->sf j=true:=λe=>by
     cases hs:sf j with
     | true=>rfl
     | false=>exact absurd ((hbl e).2 j hji hjun hs) (WY e)
    have ah9:ld=true->Waits md ops (listed.setIfInBounds j true) i bl/\∀k,k≠i->(listed.setIfInBounds j true).getD k true=false->sf k=false->k∈bl:=λe=>by
     refine⟨λk hk=>?_,λk hki hun hs=>?_⟩
     .obtain⟨g1,g2⟩:=(hbl e).1 k hk;refine⟨?_,g2⟩;rw[getD_set_ne true (λhh=>WY e (by rw[hh];exact hk))];exact g1
     .refine(hbl e).2 k hki ?_ hs
      by_cases gU:j=k
      .subst gU;exact hjun
      .rw[getD_set_ne true gU]at hun;exact hun
    refine GU (λa' w' h3=>⟨h3.2.1,ih (listed.setIfInBounds j true) a' w' hfree' ah9 (ready_mono hr (Ne.symm hji)) h3.1 (λe=>(hg e).trans (h3.2.1 (hsj e))) ?_⟩) h2
    rw[Array.setIfInBounds_comm _ _ hji];exact h3.2.2
end
abbrev Cm(cx:Cx) (t:TypeId) (K:IntKind->TypeId->TI->Sh->Prop):Prop:=match pU cx.ti t with
 | some i=>match i.desc with
   | .map kt et=>match pU cx.ti kt with
     | some ik=>match ik.desc with
       | .int kk=>match pU cx.ti et with
         | some ie=>match ie.iL with
           | some sh=>K kk et ie sh
           | none=>False
         | none=>False
       | _=>False
     | none=>False
   | _=>False
 | none=>False
abbrev XC(cx:Cx) (t:TypeId):Bool:=match pU cx.ti t with
 | some i=>match i.desc with
   | .map _ _=>true
   | _=>false
 | none=>false
abbrev Q8(cx:Cx) (s:St) (x:Operand) (kk:IntKind) (sh:Sh):Option (List (Int×sh.den)):=match bM cx s [] x with
 | some (.one (.c (.one s' d)))=>jC s' d (.mp kk sh)
 | some (.one (.c (.row i)))=>match eF s.T i with
   | some ([],.mp kk' sh' l)=>jC (.mp kk' sh') l (.mp kk sh)
   | _=>none
 | some (.one (.c (.v (.map none))))=>some []
 | _=>none
abbrev XD(cx:Cx) (s:St) (x:Operand) (kk:IntKind):Option Int:=match bM cx s [] x with
 | some (.one (.c (.v (.int k n))))=>match Nat.beq (Du k) (Du kk) with
   | true=>some n
   | false=>none
 | _=>none
def Eh{α:Type} (l:List (Int×α)) (n:Int) (z:α):α:=(BM l n).getD z
def OV{α:Type} (l:List (Int×α)) (n:Int):Bool:=(BM l n).isSome
abbrev Ja(cx:Cx) (s:St) (o:Op) (K:aZ->Prop):Option Prop:=match o with
 | .lookup t m x ok=>some (Cm cx t λkk _ _ sh=>match Q8 cx s m kk sh with
   | none=>False
   | some l=>match XD cx s x kk with
     | none=>False
     | some n=>match ok with
       | false=>K (.one (iG sh (Eh l n (qL sh))))
       | true=>K (.gV [iG sh (Eh l n (qL sh)),.c (.v (.bool (OV l n)))]))
 | .call c=>match c.callee with
   | .builtin .len=>match tl c.argTypes with
     | [t]=>match XC cx t with
       | false=>none
       | true=>some (Cm cx t λkk _ _ sh=>match tl c.args with
         | [m]=>match Q8 cx s m kk sh with
           | none=>False
           | some l=>K (.one (.c (.v (.int .i64 l.length))))
         | _=>False)
     | _=>none
   | _=>none
 | _=>none
abbrev aiB(cx:Cx) (s:St) (o:Oper) (K:St->Prop):Option Prop:=none
section
variable {cx:Cx}{P:Program}{N:Nat}{B:Base}{h0:FH}{s:St}{h:FH}{β:List RV}{w:World}{a:Act}{o:Oper}{K:St->Prop}
structure aiC (P:Program) (t:TypeId) (kk:IntKind) (et:TypeId) (ie:TI) (sh:Sh):Prop where
 und:∃kt,P.underlying t=some (.map kt et)/\P.underlying kt=some (.int kk)
 ei:aN P et ie
 es:ie.iL=some sh
theorem Ei(hc:bT P cx.ti){K:IntKind->TypeId->TI->Sh->Prop} (k:Cm cx t K):∃kk et ie sh,K kk et ie sh/\aiC P t kk et ie sh:=by
 unfold Cm at k;split at k
 .rename_i i hi;split at k
  .rename_i kt et hd;split at k
   .rename_i ik hik;split at k
    .rename_i kk hkk;split at k
     .rename_i ie hie;split at k
      .rename_i sh hsh;exact⟨kk,et,ie,sh,k,⟨kt,(hc.get hi).FZ hd rfl,(hc.get hik).FZ hkk rfl⟩,hc.get hie,hsh⟩
      .cases k
     .cases k
    .cases k
   .cases k
  .cases k
 .cases k
theorem adf{et:TypeId}{ie:TI}{sh:Sh} (k:aN P et ie) (hs:ie.iL=some sh) (h:FH) (w:World):∃z,(zeroValue et).run P w=.ok z w/\DW h sh z (qL sh):=by
 obtain⟨inf,z,h1,h2,h3,h4,h5⟩:=k.info;obtain⟨r,ha⟩:=k.Wx sh hs;refine⟨z,by simp[zeroValue,typeInfo,h1,h4],ie.zero,?_,yL r⟩
 have hz:=k.amO inf z h1 h4;rw[<-ha]at hz;unfold mkV;cases z with
 | agg cs=>
   have hz:sh.isAgg=true:=hz.symm;rw[hz,if_pos rfl];simp[Value.cells]at h5;rw[h5]
 | _=>
   have hz:sh.isAgg=false:=hz.symm;rw[hz,if_neg (by simp)]
   have h6:=rJ Array.toList h5;simp only[Value.cells]at h6;rw[show ie.zero=_ from h6.symm];rfl
theorem DW.cn{sh:Sh}{d:sh.den} (x:DW h sh y d):dh h β (iG sh d) y:=by
 obtain⟨cs,rfl,r⟩:=x;exact jh sh r
def XE(h:FH) (w:World) (kk:IntKind) (sh:Sh) (y:Value) (l:List (Int×sh.den)):Prop:=
 (y=.map none/\l=[])\/∃b es c,y=.map (some b)/\w.heap[b]?=some (.map es c)/\wZ kk (DW h sh) es c l
theorem aiD{k1:IntKind}{s1 sh:Sh}{l1:List (Int×s1.den)}{l:List (Int×sh.den)} (e:jC (.mp k1 s1) l1 (.mp kk sh)=some l):k1=kk/\∃e':s1=sh,(e'▸l1:List (Int×sh.den))=l:=by
 obtain⟨e1,e2⟩:=kE e;cases e1;exact⟨rfl,rfl,e2⟩
theorem Lh(aj:Sat N B h0 s h β w a) (hg:aI cx.gd h){x:Operand}{sh:Sh}{l:List (Int×sh.den)} (e:Q8 cx s x kk sh=some l):XE h w kk sh (a.eval x) l:=by
 have tr:gv s.gl []=true:=rfl;unfold Q8 at e;split at e
 .rename_i s' d hx;have c:dh h β (.c (.one s' d)) (a.eval x):=aP aj hg tr hx;obtain⟨e1,e2⟩:=kE e;subst e1;simp only at e2;subst e2;obtain⟨v,hv,r⟩:=c.1;have hv:a.eval x=v:=by simpa using hv
  rw[hv];rcases r with r | ⟨b,es,cc,r1,r2,r3⟩
  .exact .inl r
  .exact .inr ⟨b,es,cc,r1,acF (aj.ok.hw b 0 _ r2),r3⟩
 .rename_i i hx;have c:dh h β (.c (.row i)) (a.eval x):=aP aj hg tr hx;split at e
  .rename_i kk' sh' l' hT;obtain⟨e1,e2,e3⟩:=aiD e;subst e1;subst e2;simp only at e3;subst e3;exact .inr (aj.ok.ahb (bG hT tr) c.1)
  .cases e
 .rename_i hx;have c:dh h β (.c (.v (.map none))) (a.eval x):=aP aj hg tr hx;cases e;exact .inl ⟨c.1.1,rfl⟩
 .cases e
theorem XF(aj:Sat N B h0 s h β w a) (hg:aI cx.gd h){x:Operand}{n:Int} (e:XD cx s x kk=some n):a.eval x=.int kk n:=by
 unfold XD at e;split at e
 .rename_i k m hx;have c:dh h β (.c (.v (.int k m))) (a.eval x):=aP aj hg (show gv s.gl []=true from rfl) hx
  split at e
  .rename_i hk;cases e;rw[c.1.1,pK hk]
  .cases e
 .cases e
theorem Jb{kt:TypeId}{n:Int} (hk:P.underlying kt=some (.int kk)) (b:Bool) (w:World):(Instr.checkKey b 10000 kt (.int kk n)).run P w=.ok () w:=
 MapKept.run_checkKey (n:=9999) (k:=.int kk n) hk (show kk=kk from rfl) b
theorem XG{et:TypeId}{ie:TI}{sh:Sh} (mt:aiC P t kk et ie sh){l:List (Int×sh.den)} (m:XE h w kk sh y l) (n:Int) (ok:Bool):
 ∃v,DW h sh v (Eh l n (qL sh))/\(Instr.lookup t y (.int kk n) ok).run P w=.ok (if ok then .tuple #[v,.bool (OV l n)] else v) w:=by
 obtain⟨kt,hu,hk⟩:=mt.und;obtain⟨z,hz,dz⟩:=adf mt.ei mt.es h w;rcases m with⟨rfl,rfl⟩ | ⟨b,es,c,rfl,hb,m⟩
 .refine⟨z,dz,?_⟩;have hf:=MapKept.run_findKey (P:=P) (w:=w) (k:=.int kk n) (l:=[]) hk rfl;simp[Instr.lookup,run_underlying hu,Jb hk,hf,hz,OV,BM,Result.andThen]
 .rcases m.find kk n with⟨j,e,d,e1,e2,e3,e4,e5⟩ | ⟨e1,e2⟩
  .refine⟨e.val,by rw[show Eh l n (qL sh)=d by simp[Eh,e2]];exact e3,?_⟩
   have hf:=MapKept.run_findKey (P:=P) (w:=w) hk e5;simp[Instr.lookup,run_underlying hu,Jb hk,MapKept.run_getObj_map hb,hf,OV,e2,Result.andThen]
  .refine⟨z,by rw[show Eh l n (qL sh)=qL sh by simp[Eh,e1]];exact dz,?_⟩
   have hf:=MapKept.run_findKey (P:=P) (w:=w) hk e2;simp[Instr.lookup,run_underlying hu,Jb hk,MapKept.run_getObj_map hb,hf,hz,OV,e1,Result.andThen]
theorem XH{et:TypeId}{ie:TI}{sh:Sh} (mt:aiC P t kk et ie sh){l:List (Int×sh.den)} (m:XE h w kk sh y l){ts:Array TypeId} (ht:ts=#[t]):
 (Builtin.len_ ts ty #[y]).run P w=.ok (.int .i64 l.length) w:=by
 obtain⟨kt,hu,hk⟩:=mt.und;subst ht;rcases m with⟨rfl,rfl⟩ | ⟨b,es,c,rfl,hb,m⟩
 .simp[Builtin.len_,run_underlying hu,goInt]
 .simp[Builtin.len_,run_underlying hu,MapKept.run_getObj_map hb,goInt,m.len]
theorem Lj(hc:bT P cx.ti) (aj:Sat N B h0 s h β w a) (hg:aI cx.gd h){K:aZ->Prop} (hp:Ja cx s o.op K=some p) (k:p):
 ∃e v,K e/\(execOp a.eval o).run P w=.ok (.value v) w/\jF h β e v:=by
 unfold Ja at hp;split at hp
 .rename_i t m x okb ho;cases hp;obtain⟨kk,et,ie,sh,k,mt⟩:=Ei hc k;split at k
  .cases k
  rename_i l hl;split at k
  .cases k
  rename_i n hn;have hm:=Lh aj hg hl;have hx:=XF aj hg hn;obtain⟨v,dv,run⟩:=XG mt hm n okb;have am1:(execOp a.eval o).run P w=.ok (.value (if okb then .tuple #[v,.bool (OV l n)] else v)) w:=by
   simp only[execOp,ho,hx,Sem.run_bind,run,Result.andThen_ok,Sem.run_pure]
  split at k
  .exact⟨_,_,k,am1,dv.cn⟩
  .exact⟨_,_,k,am1,[v,.bool (OV l n)],rfl,dv.cn,⟨⟨rfl,rfl,rfl⟩,rfl,rfl⟩,trivial⟩
 .rename_i c ho;split at hp
  .rename_i bQ;split at hp
   .rename_i t ht;split at hp
    .cases hp
    .cases hp;obtain⟨kk,et,ie,sh,k,mt⟩:=Ei hc k;split at k
     .rename_i m hm0;split at k
      .cases k
      rename_i l hl;have hm:=Lh aj hg hl;refine⟨_,_,k,?_,⟨⟨rfl,rfl,rfl⟩,rfl,rfl⟩⟩;simp[execOp,ho,resolve,bQ,invoke,builtin,iH hm0,XH mt hm (iH ht)]
     .cases k
   .cases hp
  .cases hp
 .cases hp
theorem aS.acP{α β:Type}{R:α->β->Prop}:∀{l:List α}{m:List β}{a:α},aS R l m->a∈l->∃b∈m,R a b
 | [],_,_,_,ha=>by cases ha
 | x :: l,y :: m,a,⟨h1,h2⟩,ha=>by
   rcases ni.1 ha with rfl | ha
   .exact⟨y,by simp,h1⟩
   .obtain⟨b,hb,r⟩:=aS.acP h2 ha;exact⟨b,by simp[hb],r⟩
theorem adg(hc:bT P cx.ti) (aj:Sat N B h0 s h β w a) (hg:aI cx.gd h) (hd:kY N o.dst=true) (hp:aiB cx s o K=some p) (k:p):o.guard=none/\Bj P N B h0 h w a o true K:=by
 unfold aiB at hp;cases hp
end
end Go.jf
