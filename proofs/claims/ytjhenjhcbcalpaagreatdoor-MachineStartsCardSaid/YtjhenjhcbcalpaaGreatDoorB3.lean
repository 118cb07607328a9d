/- Texts of this claim, part 3: EngDp, EngTl, EngAp, EngRt, EngBr, EngWg, EngMp. Conditions: those of the given rows. -/
import Derived.Test.YtjhenjhcbcalpaaGreatDoorB2
import Derived.LoopNIn
import Derived.Deep.LoopGhost
import Derived.Laws.IdiomRangeMap
set_option linter.unusedSimpArgs false
set_option linter.unusedVariables false
set_option maxRecDepth 1000000
set_option maxHeartbeats 8000000
namespace Go.aV
open Go Go.RowKit
@[reducible] def SC.ap0 (i:Nat):SC→Bool
  | .sub j _=>!Nat.beq i j
  | .l9 j _ _ _ _=>!Nat.beq i j
  | _=>true
@[reducible] def vk (i:Nat) (x:SC):SC:=match SC.ap0 i x with
  | true=>x
  | false=>.junk
@[reducible] def mV (f:SC→SC):SV→SV
  | .c x=>.c (f x)
  | .agg xs=>.agg (fE f xs)
  | v=>v
@[reducible] def mE (f:SC→SC):aT→aT
  | .one v=>.one (mV f v)
  | .gX vs=>.gX (fE (mV f) vs)
@[reducible] def mR (f:SC→SC):aj→aj
  | .blk t cs=>.blk t (fE f cs)
  | r=>r
@[reducible] def zo (f:SC→SC):List (Nat×Gd×aT)→List (Nat×Gd×aT)
  | []=>[]
  | (k,g,e) :: l=>(k,g,mE f e) :: zo f l
@[reducible] def mT (f:SC→SC):List (Gd×aj)→List (Gd×aj)
  | []=>[]
  | (g,r) :: l=>(g,mR f r) :: mT f l
theorem ET{R R':SC→Value→Prop}{f:SC→SC} (hR:∀x y,R x y→R' (f x) y):∀{xs:List SC}{ys:List Value},aW (λx y=>R x y∧dO y) xs ys→aW (λx y=>R' x y∧dO y) (fE f xs) ys
 | [],[],_=>trivial
 | _ :: _,_ :: _,⟨a,b⟩=>⟨⟨hR _ _ a.1,a.2⟩,ET hR b⟩
theorem dJ.map{h h':FH}{β β':List RV}{f:SC→SC} (le:h.le h') (hR:∀x y,eH h β x y→eH h' β' (f x) y):∀{x:SV}{y:Value},dJ h β x y→dJ h' β' (mV f x) y
 | .c _,_,c=>⟨hR _ _ c.1,c.2⟩
 | .agg _,_,⟨ys,e,a⟩=>⟨ys,e,ET hR a⟩
 | .dat s _,_,⟨g,cs,e,r⟩=>⟨g,cs,e,r.mono le s⟩
 | .und,_,c=>c
theorem kC.map{h h':FH}{β β':List RV}{f:SC→SC} (le:h.le h') (hR:∀x y,eH h β x y→eH h' β' (f x) y):∀{x:aT}{y:Value},kC h β x y→kC h' β' (mE f x) y
 | .one _,_,c=>dJ.map le hR c
 | .gX _,_,⟨ys,e,a⟩=>⟨ys,e,go a⟩
where
 go:∀{xs:List SV}{ys:List Value},aW (dJ h β) xs ys→aW (dJ h' β') (fE (mV f) xs) ys
  | [],[],_=>trivial
  | _ :: _,_ :: _,⟨a,b⟩=>⟨dJ.map le hR a,go b⟩
theorem Holds.map{h h':FH}{β β':List RV}{w w':World}{f:SC→SC} (le:h.le h') (hR:∀x y,eH h β x y→eH h' β' (f x) y):∀{r:aj}{v:RV},Holds h β w r v→(r.live=true→∀b,v.has b→w'.heap[b]?=w.heap[b]?)→Holds h' β' w' (mR f r) v
 | .blk _ _,.blk b,⟨ys,e,a⟩,k=>⟨ys,by rw[k rfl b (lI.2 rfl)];exact e,ET hR a⟩
 | .row _ _ _,.row v,x,k=>mM.move le x λb hb=>k rfl b (bF.2 hb)
 | .obj _ s _,.blk b,⟨ys,e,r⟩,k=>⟨ys,by rw[k rfl b (lI.2 rfl)];exact e,r.mono le s⟩
 | .deep _ _ _ _ _ _ _ _,.deep _ _,x,k=>fA.move le x (k rfl)
 | .mp k' s l,.row v,x,k=>Holds.move (r:=.mp k' s l) (v:=.row v) (β':=β') (β:=β') le (Ext.refl _) x k
 | .PN k' s l n,.deep v us,x,k=>Holds.move (r:=.PN k' s l n) (v:=.deep v us) (β':=β') (β:=β') le (Ext.refl _) x k
 | .it k' s l dn,.blk v,x,k=>Holds.move (r:=.it k' s l dn) (v:=.blk v) (β':=β') (β:=β') le (Ext.refl _) x k
 | .MG _ _ _ _,.row v,x,k=>TlH.move x λb hb=>k rfl b (bF.2 hb)
 | .Ia _ _ _ _,.deep _ _,x,k=>Ei.move le x (k rfl)
 | .gone,_,_,_=>trivial
theorem qx(f:SC→SC) (r:aj):(mR f r).live=r.live:=by cases r<;>rfl
theorem Zn{f:SC→SC}:∀{l:List (Nat×Gd×aT)}{t:Nat}{G:Gd}{e:aT},iG (zo f l) t=some (G,e)→∃e0,iG l t=some (G,e0)∧e=mE f e0
 | [],_,_,_,h=>by simp[zo,iG]at h
 | (k,g,e0) :: l,t,G,e,h=>by
   simp only[zo]at h;rw[bD]at h ⊢
   split at h
   ·rename_i hk;cases h;exact⟨e0,by rw[if_pos hk],rfl⟩
   ·rename_i hk;rw[if_neg hk];exact Zn h
theorem Zo{f:SC→SC}:∀{l:List (Nat×Gd×aT)}{t:Nat}{G:Gd}{e:aT},iG l t=some (G,e)→iG (zo f l) t=some (G,mE f e)
 | [],_,_,_,h=>by simp[iG]at h
 | (k,g,e0) :: l,t,G,e,h=>by
   simp only[zo];rw[bD]at h ⊢
   split at h
   ·rename_i hk;cases h;rw[if_pos hk]
   ·rename_i hk;rw[if_neg hk];exact Zo h
theorem EU(gl:List Bool) (f:SC→SC):∀{T:List (Gd×aj)},eff gl (mT f T)=(eff gl T).map (mR f)
 | []=>rfl
 | (g,r) :: l=>by
   simp only[mT,eff,X9,EU gl f (T:=l)]
   congr 1
   cases gv gl g<;>rfl
theorem EW{f:SC→SC}{p:Gd×aj}:∀{T:List (Gd×aj)},p∈mT f T→∃q∈T,q.1=p.1
 | [],h=>by simp[mT]at h
 | (g,r) :: t,h=>by
   simp only[mT,mX]at h;rcases h with rfl | h
   ·exact⟨(g,r),by simp,rfl⟩
   ·obtain⟨q,h1,h2⟩:=EW h;exact⟨q,by simp[h1],h2⟩
section
variable {cx:Cx}{P:Program}{N:Nat}{B:Base}{h0:FH}{s:St}{h:FH}{β:List RV}{w:World}{a:Act}{o:Oper}{K:St→Prop}
theorem Sat.map(ak:Sat N B h0 s h β w a){f:SC→SC}{T':List (Gd×aj)}{h':FH}{β':List RV}{w':World} (le:h.le h') (hf:∀b,f (.v (.bool b))=.v (.bool b)) (hR:∀x y,eH h β x y→eH h' β' (f x) y)
 (ok:OK B h0 (eff s.gl T') h' β' w') (gT:∀p∈T',vU s.gl.length p.1=true):Sat N B h0 { s with T:=T',env:=zo f s.env } h' β' w' a:=by
 refine⟨ok,?_,?_,ak.defers,ak.sz,?_,gT⟩
 ·intro t G e ht;obtain⟨e0,h1,rfl⟩:=Zn ht;obtain⟨z,q1,q2,q3⟩:=ak.env t G e0 h1;exact⟨z,q1,λhG=>kC.map le hR (q2 hG),q3⟩
 ·intro d i hi;obtain⟨G,b,q1,q2⟩:=ak.gs d i hi;have:=Zo (f:=f) q1;simp only[mE,mV,hf]at this;exact⟨G,b,this,q2⟩
 ·intro t G e ht;obtain⟨e0,h1,rfl⟩:=Zn ht;exact ak.gb t G e0 h1
theorem dV{β:List RV}{i j:Nat}{u v:RV} (hu:β[i]?=some u):(β.set i v)[j]?=if j=i then some v else β[j]?:=by
 by_cases hj:j=i
 ·subst hj;rw[if_pos rfl,nP (eU.1 hu).1]
 ·rw[if_neg hj,lD (Ne.symm hj)]
theorem QF{i j:Nat} (h:(!Nat.beq i j)=true):j≠i:=by
 rintro rfl;simp at h
theorem eH.js{h:FH}{β:List RV}{i:Nat}{v:Value}{us us':Nat→Value}{u:RV} (hu:β[i]?=some u) (hd:u=.deep v us∨u=.row v){x:SC}{y:Value} (c:eH h β x y):eH h (β.set i (.deep v us')) (vk i x) y:=by
 have hsl:u.sl=some v:=by rcases hd with rfl | rfl<;>rfl
 have hbl:u.block=(RV.deep v us').block:=by rcases hd with rfl | rfl<;>rfl
 have nb:∀b,u≠.blk b:=by rcases hd with rfl | rfl<;>intro b e<;>cases e
 unfold vk;split
 ·rename_i hf;cases x with
  | v _=>exact c
  | sl _ _=>exact c
  | fp _ _=>exact c
  | one _ _=>exact c
  | abs _=>exact c
  | junk=>trivial
  | own j off=>
    obtain⟨b,e,e'⟩:=c;refine⟨b,?_,e'⟩;rw[dV hu,if_neg]
    ·exact e
    ·rintro rfl;rw[hu]at e;cases e;exact nb b rfl
  | row j=>
    obtain⟨z,e,e'⟩:=c
    by_cases hj:j=i
    ·subst hj;rw[hu]at e;cases e;exact⟨.deep v us',by rw[dV hu,if_pos rfl],by rw[hsl]at e';exact e'⟩
    ·exact⟨z,by rw[dV hu,if_neg hj];exact e,e'⟩
  | kF j k sz off=>
    obtain⟨z,g,e,e',e2⟩:=c
    by_cases hj:j=i
    ·subst hj;rw[hu]at e;cases e;exact⟨.deep v us',g,by rw[dV hu,if_pos rfl],by rw[←hbl];exact e',e2⟩
    ·exact⟨z,g,by rw[dV hu,if_neg hj];exact e,e',e2⟩
  | sub j k=>
    obtain⟨z,uN,e,e'⟩:=c;exact⟨z,uN,by rw[dV hu,if_neg (QF hf)];exact e,e'⟩
  | l9 j k m sz off=>
    obtain⟨z,uN,g,e,e'⟩:=c;exact⟨z,uN,g,by rw[dV hu,if_neg (QF hf)];exact e,e'⟩
 ·trivial
theorem OK.QG{T:List aj} (ok:OK B h0 T h β w){w':World}{i:Nat}{r r':aj}{u v:RV}{f:SC→SC}
 (hT:T[i]?=some r) (hl:r.live=true) (hu:β[i]?=some u){row:Option Nat} (hg:Gb w w' row) (lF:∀k,row=some k→u.has k){X:Nat→Prop}
 (hX:∀b,X b→B.al b∧b < w.heap.size∧(∀o,h b o=none)∧∀(j:Nat) (rj:aj) (vj:RV),j≠i→T[j]?=some rj→rj.live=true→β[j]?=some vj→¬vj.has b)
 (hv:∀b,v.has b→u.has b∨X b∨(w.heap.size≤b∧b < w'.heap.size)) (hC:∀x y,eH h β x y→eH h (β.set i v) (f x) y) (hold:Holds h (β.set i v) w' r' v):
 OK B h0 ((T.map (mR f)).set i r') h (β.set i v) w':=by
 have hi:i < T.length:=(eU.1 hT).1;have hi':i < β.length:=by rw[ok.len];exact hi
 have Ej:∀b,u.has b→B.al b∧b < w.heap.size∧∀o,h b o=none:=λb hb=>ok.own i r u b hT hl hu hb
 have nf:∀b,w.heap.size≤b→∀o,h b o=none:=by
  intro b hb o;cases hh:h b o with
  | none=>rfl
  | some x=>have:=oP (ok.hw b o x hh);omega
 have YA:∀b,v.has b→B.al b∧b < w'.heap.size∧∀o,h b o=none:=by
  intro b hb;rcases hv b hb with hb' | hb' | ⟨h1,h2⟩
  ·obtain⟨a1,a2,a3⟩:=Ej b hb';exact⟨a1,A55 a2 hg.size,a3⟩
  ·obtain⟨a1,a2,a3,_⟩:=hX b hb';exact⟨a1,A55 a2 hg.size,a3⟩
  ·exact⟨B.up _ (vO ok.below.size h1),h2,nf b h1⟩
 have apart:∀j rj vj b,j≠i→T[j]?=some rj→rj.live=true→β[j]?=some vj→vj.has b→v.has b→False:=by
  intro j rj vj b hj ej lj jH hb hb2;rcases hv b hb2 with hb' | hb' | ⟨h1,h2⟩
  ·exact hj (ok.inj j i rj r vj u b ej lj hT hl jH hu hb hb')
  ·exact(hX b hb').2.2.2 j rj vj hj ej lj jH hb
  ·have:=(ok.own j rj vj b ej lj jH hb).2.1;omega
 have get:∀{j:Nat}{rj:aj},j≠i→((T.map (mR f)).set i r')[j]?=some rj→∃r0,T[j]?=some r0∧rj=mR f r0:=by
  intro j rj hj e;rw[lD (Ne.symm hj),LX]at e;cases hh:T[j]? with
  | none=>rw[hh]at e;cases e
  | some r0=>rw[hh]at e;cases e;exact⟨r0,rfl,rfl⟩
 exact {
  below:=ok.below.grown hg.togrownBy λk e=>(Ej k (lF k e)).1
  dr:=vO ok.dr hg.dr
  len:=by simp[ok.len]
  holds:=by
   intro j rj vj ej jH
   by_cases hj:j=i
   ·subst hj;rw[nP (by simpa using hi)]at ej
    rw[nP hi']at jH;cases ej;cases jH;exact hold
   ·obtain⟨r0,e0,rfl⟩:=get hj ej;rw[lD (Ne.symm hj)]at jH;refine(ok.holds j r0 vj e0 jH).map (FH.le.refl h) hC λhlj b hb=>hg.block b (ok.own j r0 vj b e0 hlj jH hb).2.1 λe=>hj ?_
    exact ok.inj j i r0 r vj u b e0 hlj hT hl jH hu hb (lF b e.symm)
  own:=by
   intro j rj vj b ej hlj jH hb
   by_cases hj:j=i
   ·subst hj;rw[nP hi']at jH;cases jH;exact YA b hb
   ·obtain⟨r0,e0,rfl⟩:=get hj ej;rw[lD (Ne.symm hj)]at jH;obtain⟨a1,a2,a3⟩:=ok.own j r0 vj b e0 (by rw[←qx f];exact hlj) jH hb
    exact⟨a1,A55 a2 hg.size,a3⟩
  inj:=by
   intro j k r1 r2 u1 u2 b e1 l1 e2 l2 e3 e4 b1 b2
   by_cases hj:j=i<;>by_cases hk:k=i
   ·rw[hj,hk]
   ·exfalso;subst hj;rw[nP hi']at e3;cases e3;obtain⟨r0,e0,rfl⟩:=get hk e2;rw[lD (Ne.symm hk)]at e4;exact apart k r0 u2 b hk e0 (by rw[←qx f];exact l2) e4 b2 b1
   ·exfalso;subst hk;rw[nP hi']at e4;cases e4;obtain⟨r0,e0,rfl⟩:=get hj e1;rw[lD (Ne.symm hj)]at e3;exact apart j r0 u1 b hj e0 (by rw[←qx f];exact l1) e3 b1 b2
   ·obtain⟨r0,e0,rfl⟩:=get hj e1;obtain⟨r0',e0',rfl⟩:=get hk e2;rw[lD (Ne.symm hj)]at e3;rw[lD (Ne.symm hk)]at e4;exact ok.inj j k r0 r0' u1 u2 b e0 (by rw[←qx f];exact l1) e0' (by rw[←qx f];exact l2) e3 e4 b1 b2
  hle:=ok.hle
  hw:=frozen_kept ok.hw hg λk e=>(Ej k (lF k e)).2.2
  hg:=ok.hg
  kn:=ok.kept hg λb e=>(ok.holds i r u hT hu).cells hl (lF b e) }
theorem OK.asI{T:List aj} (ok:OK B h0 T h β w){r:aj}{v:RV}
 (hX:∀b,v.has b→B.al b∧b < w.heap.size∧(∀o,h b o=none)∧∀(j:Nat) (rj:aj) (vj:RV),T[j]?=some rj→rj.live=true→β[j]?=some vj→¬vj.has b) (hold:Holds h (β++[v]) w r v):
 OK B h0 (T++[r]) h (β++[v]) w where
 below:=ok.below
 dr:=ok.dr
 len:=by simp[ok.len]
 holds:=by
  intro i r' v' e e';rcases aG e with⟨hi,e⟩ | ⟨hi,rfl⟩
  ·rcases aG e' with⟨_,e'⟩ | ⟨hj,_⟩
   ·exact(ok.holds i r' v' e e').move (FH.le.refl h) (Ext.append _ _) λhl b hb=>rfl
   ·have:=ok.len;omega
  ·rcases aG e' with⟨hj,e'⟩ | ⟨_,rfl⟩
   ·have:=ok.len;omega
   ·exact hold
 own:=by
  intro i r' v' b e hl e' hb;rcases aG e' with⟨hj,e'⟩ | ⟨hj,rfl⟩
  ·rcases aG e with⟨_,e⟩ | ⟨hi,rfl⟩
   ·exact ok.own i r' v' b e hl e' hb
   ·have:=ok.len;omega
  ·obtain⟨h1,h2,h3,_⟩:=hX b hb;exact⟨h1,h2,h3⟩
 inj:=by
  intro i j r1 r2 u v' b ei hl1 ej hl2 eu ev hu hv';have L:=ok.len;rcases aG ei with⟨hi,ei⟩ | ⟨hi,_⟩<;>rcases aG ej with⟨hj,ej⟩ | ⟨hj,_⟩<;>
   rcases aG eu with⟨hi',eu⟩ | ⟨hi',rfl⟩<;>rcases aG ev with⟨hj',ev⟩ | ⟨hj',rfl⟩<;>first
    | omega
    | exact ok.inj i j r1 r2 u v' b ei hl1 ej hl2 eu ev hu hv'
    | exact((hX b hv').2.2.2 i r1 u ei hl1 eu hu).elim
    | exact((hX b hu).2.2.2 j r2 v' ej hl2 ev hv').elim
 hle:=ok.hle
 hw:=ok.hw
 hg:=ok.hg
 kn:=ok.kn
abbrev Cb:Nat→Bool:=λ_=>false
def xU:Nat→Value:=λ_=>nT
theorem pz(j:Nat):aC (xU j)=none:=rfl
theorem JY{t:TypeId}{s:Sh}{l:List s.den}{tt:TypeId}{e:Sh}{so:Nat}{v:Value} (x:mM h w t s l v):fA h w t s l tt e so Cb [] v xU:=by
 refine⟨λj k b hb=>(by rw[pz]at hb;cases hb),λj b hb=>(by rw[pz]at hb;cases hb),?_⟩
 rcases x with x | x | ⟨g,cap,cur,e0,e1,e2,e3,e4,r⟩
 ·exact .inl x
 ·exact .inr (.inl x)
 ·refine .inr (.inr ⟨g,cap,cur,e0,e1,e2,e3,e4,λj=>by rw[pz];simp,λj d hd=>?_⟩)
  obtain⟨g1,g2⟩:=r.get (λ_ _=>Rd.size s) hd
  refine⟨?_,pz j⟩;have hj:=(eU.1 hd).1;have hm:(j+1) * s.size≤l.length * s.size:=sH _ hj;rw[PU]at hm;have e5:List.take s.size (List.drop (j * s.size) (List.take (l.length * s.size) cur.toList))=List.take s.size (List.drop (j * s.size) cur.toList):=by
   apply yJ;intro p;simp only[uD,Dc];split
   ·rw[if_pos (by omega)]
   ·rfl
  rw[e5]at g1;exact g1
@[reducible] def Nr (s:St) (i:Nat) (tt:TypeId) (e:Sh) (so:Nat):St:=match fD s.T i with
  | some ([],.row t sh l)=>{ s with T:=dK s.T i ([],.deep t sh l tt e so Cb []) }
  | _=>s
theorem ajZ(r:aj):mR (λx=>x) r=r:=by
 have:∀l:List SC,fE (λx=>x) l=l:=by
  intro l
  induction l with
  | nil=>rfl
  | cons x l ih=>simp[fE,ih]
 cases r<;>simp[mR,this]
theorem Sat.Nr(ak:Sat N B h0 s h β w a) (i:Nat) (tt:TypeId) (e:Sh) (so:Nat):∃β',Sat N B h0 (Nr s i tt e so) h β' w a:=by
 unfold aV.Nr;split
 ·rename_i t sh l hT;have gu:=bJ hT (show gv s.gl []=true from rfl)
  have iO:i < β.length:=by rw[ak.ok.len];exact(eU.1 gu).1
  have hu:=l7 iO;have hold:=ak.ok.holds i _ _ gu hu;cases hb:β[i]with
  | blk b=>rw[hb]at hold;exact hold.elim
  | no=>rw[hb]at hold;exact hold.elim
  | deep _ _=>rw[hb]at hold;exact hold.elim
  | row v=>
    rw[hb]at hold hu;have hC:∀x y,eH h β x y→eH h (β.set i (.deep v xU)) x y:=by
     intro x y c;have:=eH.js (us:=xU) (us':=xU) hu (.inr rfl) c;cases x with
     | sub j k=>
       obtain⟨z,uN,e1,e2⟩:=c;refine⟨z,uN,?_,e2⟩;rw[dV hu,if_neg]
       ·exact e1
       ·rintro rfl;rw[hu]at e1;cases e1
     | l9 j k m sz off=>
       obtain⟨z,uN,g,e1,e2⟩:=c;refine⟨z,uN,g,?_,e2⟩;rw[dV hu,if_neg]
       ·exact e1
       ·rintro rfl;rw[hu]at e1;cases e1
     | _=>exact this
    refine⟨β.set i (.deep v xU),?_,?_,ak.gs,ak.defers,ak.sz,ak.gb,qK ak⟩
    ·show OK B h0 (eff s.gl (dK s.T i ([],.deep t sh l tt e so Cb []))) h _ w;rw[xM];have:=ak.ok.QG (f:=λx=>x) (r':=.deep t sh l tt e so Cb []) (v:=.deep v xU) (row:=none) (X:=λ_=>False) gu rfl hu (dD w none) (λk e=>by cases e) (λb hb=>hb.elim)
      (λb hb=>by
       rw[bg]at hb;rcases hb with hb | ⟨j,hb⟩
       ·exact .inl (bF.2 hb)
       ·rw[pz]at hb;cases hb) hC (JY hold)
     rwa [show(eff s.gl s.T).map (mR λx=>x)=eff s.gl s.T by rw[show(mR λx=>x)=id from funext ajZ];simp]at this
    ·intro t' G e' ht;obtain⟨z,q1,q2,q3⟩:=ak.env t' G e' ht;refine⟨z,q1,λhG=>?_,q3⟩
     have:=kC.map (f:=λx=>x) (FH.le.refl h) hC (q2 hG)
     have hid:mE (λx=>x) e'=e':=by
      have m1:∀l:List SC,fE (λx=>x) l=l:=by
       intro l
       induction l with
       | nil=>rfl
       | cons x l ih=>simp[fE,ih]
      have m2:∀x:SV,mV (λx=>x) x=x:=by intro x;cases x<;>simp[mV,m1]
      cases e' with
      | one x=>simp[mE,m2]
      | gX xs=>
        have:∀l:List SV,fE (mV λx=>x) l=l:=by
         intro l
         induction l with
         | nil=>rfl
         | cons x l ih=>simp[fE,ih,m2]
        simp[mE,this]
     rwa [hid]at this
 ·exact⟨β,ak⟩
theorem fA.third{t:TypeId}{sh:Sh}{l:List sh.den}{tt:TypeId}{e:Sh}{so:Nat}{own:Nat→Bool}{hs:List Nat}{v:Value}{us:Nat→Value} (D:fA h w t sh l tt e so own hs v us){j:Nat} (hj:j < l.length):
 ∃g cap cur,v=.slice (some ⟨g,0,none⟩) l.length cap∧w.heap[g]?=some (.cells cur t (0,0))∧l.length≤cap∧(1≤cap∧cap≤maxLen) ∧
   cur.size=cap * sh.size∧(∀j,aC (us j)≠some g)∧∀j d,l[j]?=some d→AL h w sh tt e so (own j) (oq j hs) (us j) ((cur.toList.drop (j * sh.size)).take sh.size) d:=by
 obtain⟨_,_,D⟩:=D;rcases D with⟨_,e0⟩ | ⟨_,_,e0⟩ | D
 ·subst e0;simp at hj
 ·subst e0;simp at hj
 ·exact D
theorem fA.get{t:TypeId}{sh:Sh}{l:List sh.den}{tt:TypeId}{e:Sh}{so:Nat}{own:Nat→Bool}{hs:List Nat}{v:Value}{us:Nat→Value} (D:fA h w t sh l tt e so own hs v us){j:Nat}{d:sh.den} (hd:l[j]?=some d) (ho:own j=true) (hh:oq j hs=false)
 {x:List e.den} (hx:He sh d so e=some x):mM h w tt e x (us j):=by
 obtain⟨_,_,_,_,_,_,_,_,_,h6⟩:=D.third (eU.1 hd).1;have h7:=h6 j d hd;rw[ho,hh]at h7;obtain⟨d0,x',_,p,_,rw_⟩:=h7;rw[JD p hx];exact rw_
theorem fA.inner{t:TypeId}{sh:Sh}{l:List sh.den}{tt:TypeId}{e:Sh}{so:Nat}{own:Nat→Bool}{hs:List Nat}{v:Value}{us:Nat→Value} (D:fA h w t sh l tt e so own hs v us){j:Nat}{d d':sh.den} (hd:l[j]?=some d) (ho:own j=true) (hh:oq j hs=false)
 {w':World} (fr:∀b,aC (us j)≠some b→(∃o,w.heap[b]?=some o)→w'.heap[b]?=w.heap[b]?) (ce:∀b,aC (us j)=some b→∃o,w'.heap[b]?=some o∧ours o=true){x':List e.den} (hp:Hf sh d so e x'=some d') (hr:mM h w' tt e x' (us j)):fA h w' t sh (l.set j d') tt e so own hs v us:=by
 have hj:=(eU.1 hd).1;obtain⟨g,cap,cur,e0,e1,e2,e3,e4,e5,e6⟩:=D.third hj;obtain⟨D1,D2,_⟩:=D;have fr':∀i b,i≠j→aC (us i)=some b→w'.heap[b]?=w.heap[b]?:=by
  intro i b hi hb;obtain⟨_,o,ho,_⟩:=D2 i b hb;exact fr b (λhh=>hi (D1 i j b hb hh)) ⟨o,ho⟩
 refine⟨D1,λi b hb=>?_,.inr (.inr ⟨g,cap,cur,by rw[pX];exact e0,?_,by rw[pX];exact e2,e3,e4,e5,λi di hdi=>?_⟩)⟩
 ·rw[pX];obtain⟨q1,o,q2,q3⟩:=D2 i b hb
  by_cases hi:i=j
  ·subst hi;exact⟨q1,ce b hb⟩
  ·exact⟨q1,o,by rw[fr' i b hi hb];exact q2,q3⟩
 ·rw[fr g (e5 j) ⟨_,e1⟩];exact e1
 ·by_cases hi:i=j
  ·subst hi;rw[nP hj]at hdi;cases hdi;have h7:=e6 i d hd;rw[ho,hh]at h7 ⊢;obtain⟨d0,y,r,p,c,q⟩:=h7;exact⟨d0,x',r,p.trans (JC hp),c,hr⟩
  ·rw[lD (Ne.symm hi)]at hdi;exact(e6 i di hdi).move (FH.le.refl h) λb hb=>fr' i b hi hb
theorem fA.write{t:TypeId}{sh:Sh}{l:List sh.den}{tt:TypeId}{e:Sh}{so:Nat}{own own':Nat→Bool}{hs hs':List Nat}{v:Value}{us us':Nat→Value} (D:fA h w t sh l tt e so own hs v us){j:Nat}{d d':sh.den} (hd:l[j]?=some d)
 {g cap:Nat}{cur:Array Value} (hv:v=.slice (some ⟨g,0,none⟩) l.length cap) (hw:w.heap[g]?=some (.cells cur t (0,0))){off k:Nat} (hk:off+k≤sh.size){cs':List Value} (hc:cs'.length=k)
 (same:∀i,i≠j→own' i=own i∧oq i hs'=oq i hs∧us' i=us i) (apart:∀i b,i≠j→aC (us i)=some b→aC (us' j)≠some b) (bl:∀b,aC (us' j)=some b→b≠g∧∃o,w.heap[b]?=some o∧ours o=true)
 (el:∀(w':World) cs,(∀b,b≠g→w'.heap[b]?=w.heap[b]?)→cs.length=sh.size→AL h w sh tt e so (own j) (oq j hs) (us j) cs d→AL h w' sh tt e so (own' j) (oq j hs') (us' j) (cs.take off++cs'++cs.drop (off+k)) d'):
 j * sh.size+off+k≤cur.size∧fA h (w.setRow g (cur.toList.take (j * sh.size+off)++cs'++cur.toList.drop (j * sh.size+off+k)).toArray) t sh (l.set j d') tt e so own' hs' v us':=by
 have hj:=(eU.1 hd).1;obtain⟨g2,cap2,EX,e0,e1,e2,e3,e4,e5,e6⟩:=D.third hj;rw[hv]at e0;have eg:g=g2∧cap=cap2:=by simpa using e0
 obtain⟨rfl,rfl⟩:=eg;rw[hw]at e1;have ec:cur=EX:=by simpa using e1
 subst ec;obtain⟨D1,D2,_⟩:=D;have lc:cur.toList.length=cap * sh.size:=by simpa using e4
 have hm:(j+1) * sh.size≤cap * sh.size:=sH _ (by omega)
 rw[PU]at hm;refine⟨by omega,?_⟩
 generalize hw':w.setRow g (cur.toList.take (j * sh.size+off)++cs'++cur.toList.drop (j * sh.size+off+k)).toArray=w';have fr:∀b,b≠g→w'.heap[b]?=w.heap[b]?:=λb hb=>by rw[←hw'];exact setRow_other w g b _ hb
 have hg':w'.heap[g]?=some (.cells (cur.toList.take (j * sh.size+off)++cs'++cur.toList.drop (j * sh.size+off+k)).toArray t (0,0)):=by rw[←hw'];exact setRow_heap w g _ _ t (0,0) hw
 have ne:∀i b,aC (us i)=some b→b≠g:=λi b hb hh=>e5 i (by rw[hb,hh])
 refine⟨λi k b h1 h2=>?_,λi b hb=>?_,.inr (.inr ⟨g,cap,_,by rw[pX];exact hv,hg',by rw[pX];exact e2,e3,?_,λi hb=>?_,λi di hdi=>?_⟩)⟩
 ·by_cases hi:i=j<;>by_cases hk:k=j
  ·rw[hi,hk]
  ·subst hi;rw[(same k hk).2.2]at h2;exact(apart k b hk h2 h1).elim
  ·subst hk;rw[(same i hi).2.2]at h1;exact(apart i b hi h1 h2).elim
  ·rw[(same i hi).2.2]at h1;rw[(same k hk).2.2]at h2;exact D1 i k b h1 h2
 ·rw[pX]
  by_cases hi:i=j
  ·subst hi;obtain⟨q1,o,q2,q3⟩:=bl b hb;exact⟨hj,o,by rw[fr b q1];exact q2,q3⟩
  ·rw[(same i hi).2.2]at hb;obtain⟨q1,o,q2,q3⟩:=D2 i b hb;exact⟨q1,o,by rw[fr b (ne i b hb)];exact q2,q3⟩
 ·simp only[oI,kD,ku,xB];omega
 ·by_cases hi:i=j
  ·subst hi;exact(bl g hb).1 rfl
  ·rw[(same i hi).2.2]at hb;exact e5 i hb
 ·by_cases hi:i=j
  ·subst hi;rw[nP hj]at hdi;cases hdi;have h7:=el w' _ fr (by rw[ku,xB];omega) (e6 i d hd)
   have key:List.take sh.size (List.drop (i * sh.size) (List.take (i * sh.size+off) cur.toList++cs'++List.drop (i * sh.size+off+k) cur.toList))=List.take off (List.take sh.size (List.drop (i * sh.size) cur.toList))++cs'++List.drop (off+k) (List.take sh.size (List.drop (i * sh.size) cur.toList)):=by
    apply yJ;intro p;simp only[VO,uD,Dc,kD,ku,xB,lc,hc]
    repeat' split
    all_goals first | rfl | omega | (congr 1;omega) | (rw[qJ (by omega)]) | (exfalso;omega) | skip
   simp only at key ⊢;rw[key];exact h7
  ·rw[lD (Ne.symm hi)]at hdi;obtain⟨q1,q2,q3⟩:=same i hi;rw[q1,q2,q3];have h7:=(e6 i di hdi).move (w':=w') (FH.le.refl h) λb hb=>fr b (ne i b hb)
   have hi2:=(eU.1 hdi).1;have hm2:(i+1) * sh.size≤cap * sh.size:=sH _ (by omega)
   rw[PU]at hm2;have hne:i * sh.size+sh.size≤j * sh.size∨j * sh.size+sh.size≤i * sh.size:=by
    rcases Nat.lt_or_gt_of_ne hi with hh | hh
    ·left;have:(i+1) * sh.size≤j * sh.size:=sH _ hh
     rwa [PU]at this
    ·right;have:(j+1) * sh.size≤i * sh.size:=sH _ hh
     rwa [PU]at this
   have key:List.take sh.size (List.drop (i * sh.size) (List.take (j * sh.size+off) cur.toList++cs'++List.drop (j * sh.size+off+k) cur.toList))=List.take sh.size (List.drop (i * sh.size) cur.toList):=by
    apply yJ;intro p;simp only[VO,uD,Dc,kD,ku,xB,lc,hc]
    repeat' split
    all_goals first | rfl | omega | (congr 1;omega) | (rw[qJ (by omega)]) | (exfalso;omega) | skip
   simp only at key ⊢;rw[key];exact h7
abbrev rH(us:Nat→Value) (j:Nat):Nat→Value:=λk=>if k=j then nT else us k
theorem fA.open{t:TypeId}{sh:Sh}{l:List sh.den}{tt:TypeId}{e:Sh}{so:Nat}{own:Nat→Bool}{v:Value}{us:Nat→Value} (D:fA h w t sh l tt e so own [] v us){j:Nat}{d:sh.den} (hd:l[j]?=some d) (ho:own j=true):fA h w t sh l tt e so own [j] v (rH us j):=by
 have hj:=(eU.1 hd).1;obtain⟨g,cap,cur,e0,e1,e2,e3,e4,e5,e6⟩:=D.third hj;obtain⟨D1,D2,_⟩:=D;have sub:∀i b,aC (rH us j i)=some b→i≠j∧aC (us i)=some b:=by
  intro i b hb;unfold rH at hb;split at hb
  ·cases hb
  ·rename_i hi;exact⟨hi,hb⟩
 refine⟨λi k b h1 h2=>D1 i k b (sub i b h1).2 (sub k b h2).2,λi b hb=>D2 i b (sub i b hb).2,.inr (.inr ⟨g,cap,cur,e0,e1,e2,e3,e4,λi hb=>e5 i (sub i g hb).2,λi di hdi=>?_⟩)⟩
 have h7:=e6 i di hdi
 by_cases hi:i=j
 ·subst hi;rw[ho]at h7;obtain⟨d0,y,r,p,c,q⟩:=h7;have e7:oq i [i]=true:=by simp[oq]
  rw[e7];refine⟨by simp[rH,nT,aC],d0,y,r,p,us i,c,?_⟩
  rcases q with⟨e1,_⟩ | ⟨_,e1,_⟩ | ⟨_,_,_,e1,_⟩<;>rw[e1]<;>exact⟨rfl,rfl⟩
 ·have e7:oq i [j]=false:=by simp[oq,hi]
  have e8:rH us j i=us i:=by simp[rH,hi]
  rw[e7,e8];exact h7
theorem zq:∀{s:Sh}{so:Nat}{e:Sh}{d0 d d':s.den}{x:List e.den}{off k:Nat}{v:SV},mO s so e d0 x d→off+k≤so∨so+1≤off→yQ s d off k v=some d'→∃d0',yQ s d0 off k v=some d0'∧mO s so e d0' x d'
 | .sl s,so,e,d0,d,d',x,off,k,v,⟨h1,_,_⟩,hd,h=>by
   exfalso;unfold yQ at h;split at h
   ·rename_i hh;rw[aF,A8]at hh;have a1:=gK hh.1;have a2:1=k:=gK hh.2;omega
   ·cases h
 | .pair a b,so,e,(p0,q0),(p,q),d',x,off,k,v,hp,hd,h=>by
   have iO:so < a.size+b.size:=mO.lt hp;unfold yQ at h ⊢
   cases hw:dL (Nat.beq off 0) (Nat.beq (a.size+b.size) k) with
   | true=>
     rw[aF,A8]at hw;have a1:=gK hw.1;have a2:=gK hw.2;omega
   | false=>
     rw[hw]at h;simp only at h ⊢
     cases hle:Nat.ble (off+1) a.size with
     | true=>
       rw[hle]at h;simp only at h ⊢
       have hle:=qP hle;split at h
       ·rename_i y hy;cases h;rcases hp with⟨g1,e1,h1⟩ | ⟨g1,e1,h1⟩
        ·subst e1;rw[hy];exact⟨_,rfl,.inl ⟨g1,rfl,h1⟩⟩
        ·obtain⟨z,hz,h2⟩:=zq h1 hd hy;rw[hz];exact⟨_,rfl,.inr ⟨g1,e1,h2⟩⟩
       ·cases h
     | false=>
       rw[hle]at h;simp only at h ⊢
       have hle:=vW hle;split at h
       ·rename_i y hy;cases h;rcases hp with⟨g1,e1,h1⟩ | ⟨g1,e1,h1⟩
        ·obtain⟨z,hz,h2⟩:=zq h1 (by omega) hy
         rw[hz];exact⟨_,rfl,.inl ⟨g1,e1,h2⟩⟩
        ·subst e1;rw[hy];exact⟨_,rfl,.inr ⟨g1,rfl,h1⟩⟩
       ·cases h
 | .int _,_,_,_,_,_,_,_,_,_,h,_,_=>h.elim
 | .bool,_,_,_,_,_,_,_,_,_,h,_,_=>h.elim
 | .str,_,_,_,_,_,_,_,_,_,h,_,_=>h.elim
 | .any,_,_,_,_,_,_,_,_,_,h,_,_=>h.elim
 | .unit,_,_,_,_,_,_,_,_,_,h,_,_=>h.elim
 | .arr _ _,_,_,_,_,_,_,_,_,_,h,_,_=>h.elim
theorem set_mid{cs cs':List Value}{off k so:Nat}{z:Value} (hk:cs'.length=k) (hl:off+k≤cs.length) (hd:off+k≤so∨so+1≤off):
 (cs.set so z).take off++cs'++(cs.set so z).drop (off+k)=(cs.take off++cs'++cs.drop (off+k)).set so z:=by
 apply yJ;intro p;simp only[VO,uD,Dc,kD,ku,xB,List.getElem?_set,pX,hk]
 repeat' split
 all_goals first | rfl | omega | (congr 1;omega) | (exfalso;omega) | skip
theorem AL.upd{s:Sh}{tt:TypeId}{e:Sh}{so:Nat}{own hole:Bool}{u:Value}{cs:List Value}{d d':s.den}{off k:Nat}{v:SV}{y:Value} (x:AL h w s tt e so own hole u cs d) (dis:off+k≤so∨so+1≤off)
 (hu:yQ s d off k v=some d') (c:dJ h β v y):∃cs',y.cells=cs'.toArray∧cs'.length=k∧(∀u∈cs',dO u)∧off+k≤cs.length∧AL h w s tt e so own hole u (cs.take off++cs'++cs.drop (off+k)) d':=by
 have aj0:∀{cs':List Value}{z:Value},cs'.length=k→off+k≤cs.length→cs[so]?=some z→(cs.take off++cs'++cs.drop (off+k))[so]?=some z:=by
  intro cs' z hk hl hz;have iO:=(eU.1 hz).1;rcases dis with dis | dis
  ·rw[CP (by simp only[kD,ku];omega),Dc,←hz]
   congr 1
   simp only[kD,ku];omega
  ·rw[XV (by simp only[kD,ku];omega),XV (by simp only[ku];omega),uD,if_pos (by omega)]
   exact hz
 unfold AL at x ⊢;cases hole with
 | false=>
   cases own with
   | false=>
     obtain⟨cs',e1,e2,e3,e4,e5⟩:=oz s hu x.1 c;exact⟨cs',e1,e2,e3,e4,e5,x.2⟩
   | true=>
     obtain⟨d0,z,r,p,cu,q⟩:=x;obtain⟨d0',h1,h2⟩:=zq p dis hu;obtain⟨cs',e1,e2,e3,e4,e5⟩:=oz s h1 r c;rw[pX]at e4;rw[set_mid e2 e4 dis]at e5;exact⟨cs',e1,e2,e3,e4,d0',z,e5,h2,aj0 e2 e4 cu,q⟩
 | true=>
   obtain⟨x0,d0,z,r,p,y0,cu,q⟩:=x;obtain⟨d0',h1,h2⟩:=zq p dis hu;obtain⟨cs',e1,e2,e3,e4,e5⟩:=oz s h1 r c;rw[pX]at e4;rw[set_mid e2 e4 dis]at e5;exact⟨cs',e1,e2,e3,e4,x0,d0',z,e5,h2,y0,aj0 e2 e4 cu,q⟩
abbrev uo(own:Nat→Bool) (j:Nat):Nat→Bool:=λk=>cnd (decide (k=j)) true (own k)
@[reducible] def rowOf:SV→Option Nat
  | .c (.row q)=>some q
  | _=>none
@[reducible] def aj1 (hs:List Nat) (j:Nat) (K:Prop):Prop:=match hs with
  | []=>K
  | [k]=>j=k∧K
  | _=>False
@[reducible] def Ub (s:St) (d:Option Nat) (i:TI) (r j sz off:Nat) (tt:TypeId) (sh:Sh) (l:List sh.den) (t2:TypeId) (e:Sh) (so:Nat) (own:Nat→Bool) (hs:List Nat) (v:SV) (K:St→Prop):Prop:=match Nat.beq sz sh.size with
  | false=>False
  | true=>match aeW (Nat.ble (off+i.size) so) (Nat.ble (so+1) off) with
    | true=>(j < l.length)∧∀e0:sh.den,l[j]?=some e0→match yQ sh e0 off i.size v with
      | some dd=>K ({ s with T:=dK s.T r ([],.deep tt sh (l.set j dd) t2 e so own hs) }.put d [] (.one .und))
      | none=>False
    | false=>match rowOf v with
      | some q=>match fD s.T q with
        | some ([],.row tq eq x)=>match dL (Nat.beq tq t2) (dL (Nat.beq off so) (Nat.beq i.size 1)) with
          | true=>match jK (.sl eq) x (.sl e) with
            | some x=>(j < l.length)∧aj1 hs j (∀e0:sh.den,l[j]?=some e0→match Hf sh e0 so e x with
              | some dd=>K ({ s with T:=dK (mT (vk r) (dK s.T q ([],.gone))) r ([],.deep tt sh (l.set j dd) t2 e so (uo own j) []),env:=zo (vk r) s.env }.put d [] (.one .und))
              | none=>False)
            | none=>False
          | false=>False
        | _=>False
      | none=>False
@[reducible] def afb (cx:Cx) (s:St) (d:Option Nat) (t:TypeId) (p x:Operand) (K:St→Prop):Option Prop:=match qo cx.ti t with
  | none=>none
  | some i=>match bU cx s [] p with
    | some (.one (.c (.kF r j sz off)))=>match fD s.T r with
      | some ([],.deep tt sh l t2 e so own hs)=>match bU cx s [] x with
        | some (.one v)=>some (Ub s d i r j sz off tt sh l t2 e so own hs v K)
        | _=>none
      | _=>none
    | some (.one (.c (.l9 r j k sz off)))=>match fD s.T r with
      | some ([],.deep tt sh l t2 e so own hs)=>match bU cx s [] x with
        | some (.one v)=>some (match Nat.beq sz e.size with
          | false=>False
          | true=>(own j=true∧oq j hs=false∧j < l.length)∧∀d0:sh.den,l[j]?=some d0→match He sh d0 so e with
            | some xs=>(k < xs.length)∧∀y:e.den,xs[k]?=some y→match yQ e y off i.size v with
              | some y'=>match Hf sh d0 so e (xs.set k y') with
                | some dd=>K ({ s with T:=dK s.T r ([],.deep tt sh (l.set j dd) t2 e so own hs) }.put d [] (.one .und))
                | none=>False
              | none=>False
            | none=>False)
        | _=>none
      | _=>none
    | _=>none
theorem mM.write{t:TypeId}{sh:Sh}{l:List sh.den}{u:Value} (x:mM h w t sh l u){g j off k:Nat}{d dd:sh.den} (hg:aC u=some g) (hd:l[j]?=some d){y:Value} (up:∀{cs:List Value},Rd h sh cs d→Upd h sh cs off k y dd):
 ∃cur,w.heap[g]?=some (.cells cur t (0,0))∧j * sh.size+off+k≤cur.size∧y.cells.size=k∧(∀z∈y.cells.toList,dO z)∧mM h (w.setRow g (cur.toList.take (j * sh.size+off)++y.cells.toList++cur.toList.drop (j * sh.size+off+k)).toArray) t sh (l.set j dd) u:=by
 have hj:=(eU.1 hd).1;rcases x with⟨hv0,_⟩ | ⟨_,hv0,_⟩ | ⟨g',cap,cur,hv0,he,q2,q3,q4,q5⟩
 ·subst hv0;simp[aC]at hg
 ·subst hv0;simp[aC]at hg
 ·have hgg:g'=g:=by rw[hv0,bC q3.1]at hg;exact PL hg
  subst hgg;have hm:(j+1) * sh.size≤l.length * sh.size:=sH _ hj;have hm2:l.length * sh.size≤cap * sh.size:=sH _ q2;rw[PU]at hm;obtain⟨g1,g2⟩:=q5.get (λ_ _=>Rd.size sh) hd
  have gl:=Rd.size sh g1;obtain⟨cs',ec,e2,e3,e4,e5⟩:=up g1;rw[gl]at e4;have lc:cur.toList.length=cap * sh.size:=by simpa using q4
  refine⟨cur,he,by omega,by rw[ec];simpa using e2,λz hz=>e3 z (by rw[ec]at hz;simpa using hz),.inr (.inr ⟨g',cap,_,by rw[pX];exact hv0,setRow_heap w g' _ _ t (0,0) he,by rw[pX];exact q2,q3,?_,?_⟩)⟩
  ·rw[ec];simp only[oI,kD,ku,xB,PV];omega
  ·rw[pX,ec];show gy (Rd h sh) ((List.take (j * sh.size+off) cur.toList++cs'++List.drop (j * sh.size+off+k) cur.toList).take (l.length * sh.size)) (l.set j dd);have e:=gy.set (λ_ _=>Rd.size sh) q5 hj e5
   have key:(List.take (j * sh.size+off) cur.toList++cs'++List.drop (j * sh.size+off+k) cur.toList).take (l.length * sh.size) =
    List.take (j * sh.size) (List.take (l.length * sh.size) cur.toList)++(List.take off (List.take sh.size (List.drop (j * sh.size) (List.take (l.length * sh.size) cur.toList)))++cs'++List.drop (off+k) (List.take sh.size (List.drop (j * sh.size) (List.take (l.length * sh.size) cur.toList))))++List.drop (j * sh.size+sh.size) (List.take (l.length * sh.size) cur.toList):=by
    apply yJ;intro p;simp only[VO,uD,Dc,kD,ku,xB,lc,e2]
    repeat' split
    all_goals first | rfl | omega | (congr 1;omega) | (rw[qJ (by omega)]) | (exfalso;omega) | skip
   rw[key];exact e
theorem take_set{cs:List Value}{o:Nat}{y:Value} (h:o < cs.length):cs.take o++[y]++cs.drop (o+1)=cs.set o y:=by
 rw[List.set_eq_take_append_cons_drop,if_pos h];simp
theorem Zp(hc:cO P cx.ti) (ak:Sat N B h0 s h β w a) (hg:aO cx.gd h) (hd:lZ N o.dst=true){t:TypeId}{p x:Operand} (ho:o.op=.store t p x){q:Prop} (hq:afb cx s o.dst t p x K=some q) (k:q):
 gI P N B h0 h w a o (gv s.gl []) K:=by
 have tr:gv s.gl []=true:=rfl;unfold afb at hq;split at hq
 ·cases hq
 rename_i i hi;have ti:=hc.get hi;have exec:∀{w':World}{v pv:Value},a.eval x=v→a.eval p=pv→(Instr.storeAt t pv v).run P w=.ok () w'→(execOp a.eval o).run P w=.ok .skip w':=by
  intro w' v pv e1 e2 r;simp only[execOp,ho,e1,e2,Sem.run_bind,r,Result.andThen_ok,Sem.run_pure]
 split at hq
 ·rename_i r j sz off hp;obtain⟨⟨v0,g,hb,hgb,ep⟩,_⟩:=aQ ak hg tr hp;split at hq
  ·rename_i tt sh l t2 e so own hs hT;have gu:=bJ hT tr;have hold:=ak.ok.holds r _ _ gu hb;split at hq
   ·rename_i v hv;have cv:=aQ ak hg tr hv;cases hq
    match v0,hold,hgb,hb with
    | .deep vv us,D,hgb,hb=>
      have D:fA h w tt sh l t2 e so own hs vv us:=D;have hgb:aC vv=some g:=hgb;have outer:∀{j:Nat},j < l.length→∃cap cur,vv=.slice (some ⟨g,0,none⟩) l.length cap∧w.heap[g]?=some (.cells cur tt (0,0))∧∀d,l[j]?=some d→AL h w sh t2 e so (own j) (oq j hs) (us j) ((cur.toList.drop (j * sh.size)).take sh.size) d∧(j+1) * sh.size≤cur.size:=by
       intro j hj;obtain⟨g2,cap,cur,e0,e1,e2,e3,e4,e5,e6⟩:=D.third hj;rw[e0,bC e3.1]at hgb;cases hgb;refine⟨cap,cur,e0,e1,λd hd=>⟨e6 j d hd,?_⟩⟩
       rw[e4];exact sH _ (by omega)
      unfold Ub at k;split at k
      ·exact k.elim
      rename_i hz;have hz:sz=sh.size:=gK hz;split at k
      ·rename_i hdis;have hdis:off+i.size≤so∨so+1≤off:=by
        unfold aeW at hdis;split at hdis
        ·rename_i hh;exact .inl (qP hh)
        ·exact .inr (qP hdis)
       obtain⟨hj,k⟩:=k;have k:=k _ (l7 hj);split at k
       ·rename_i dd hdd;obtain⟨cap,cur,e0,e1,e2⟩:=outer hj;obtain⟨el,hsz⟩:=e2 _ (l7 hj);obtain⟨cs',ec,c2,c3,c4,c5⟩:=el.upd hdis hdd cv;rw[PU]at hsz;have hcl:((cur.toList.drop (j * sh.size)).take sh.size).length=sh.size:=by rw[ku,xB,PV];omega
        rw[hcl]at c4;obtain⟨f1,f2⟩:=D.write (own':=own) (hs':=hs) (us':=us) (d':=dd) (cs':=cs') (off:=off) (k:=i.size) (l7 hj) e0 e1 c4 c2 (λ_ _=>⟨rfl,rfl,rfl⟩) (λi' b hi' hb' hb2=>hi' (D.1 _ _ b hb' hb2)) (λb hb'=>⟨λhh=>(D.third hj).elim λg2 z=>by
         obtain⟨cap2,EX,f0,_,f3,f4,_,f5,_⟩:=z;rw[f0,bC f4.1]at hgb;cases hgb;exact f5 j (by rw[hb',hh]),(D.2.1 j b hb').2⟩) (λw' cs fr hl ex=>by
         obtain⟨cs2,ec2,_,_,_,ex2⟩:=ex.upd hdis hdd cv;have:cs2=cs':=by rw[ec]at ec2;simpa using ec2.symm
         subst this;refine ex2.move (FH.le.refl h) λb hb'=>fr b λhh=>?_
         obtain⟨g2,cap2,EX,f0,_,_,f4,_,f5,_⟩:=D.third hj;rw[f0,bC f4.1]at hgb;cases hgb;exact f5 j (by rw[hb',hh]))
        have r1:=fH (o:=j * sz+off) (v:=a.eval x) ti e1 (by rw[ec];simpa using c2) (by rw[hz];omega) (by rw[ec];intro u hu;exact c3 u (by simpa using hu))
        refine rF ak (by rw[ho];rfl) hd hT rfl hb hgb ?_ (exec rfl ep r1) k
        rw[ec,hz];exact f2
       ·exact k.elim
      ·split at k
       ·rename_i q hq0;split at k
        ·rename_i tq eq x0 hTq;have uG:=bJ hTq tr;split at k
         ·rename_i hcs;rw[aF,aF,A8,A8]at hcs;have a0:tq=t2:=gK hcs.1;have a1:off=so:=gK hcs.2.1;have a2:i.size=1:=gK hcs.2.2;subst a0;subst a1;split at k
          ·rename_i x1 hx1;obtain⟨e1,e2⟩:=oZ hx1;subst e1;simp only at e2;subst e2;obtain⟨hj,k⟩:=k;have hv1:v=.c (.row q):=by
            unfold rowOf at hq0;split at hq0
            ·cases hq0;rfl
            ·cases hq0
           subst hv1;have hbq:=ak.ok.row_of uG cv.1;have lF:mM h w tq eq x0 (a.eval x):=ak.ok.holds q _ _ uG hbq;have hone:dO (a.eval x):=cv.2;have hqr:q≠r:=by rintro rfl;rw[uG]at gu;cases gu
           have kk:(∀i',i'≠j→oq i' hs=false)∧∀e0:sh.den,l[j]?=some e0→match Hf sh e0 off eq x0 with
            | some dd=>K ({ s with T:=dK (mT (vk r) (dK s.T q ([],.gone))) r ([],.deep tt sh (l.set j dd) tq eq off (uo own j) []),env:=zo (vk r) s.env }.put o.dst [] (.one .und))
            | none=>False:=by
            unfold aj1 at k;split at k
            ·exact⟨λ_ _=>rfl,k⟩
            ·exact⟨λi' hi'=>by simp[oq];rw[←k.1];exact hi',k.2⟩
            ·exact k.elim
           obtain⟨jT,k⟩:=kk;have k:=k _ (l7 hj);split at k
           ·rename_i dd hdd;have hdd:=JC hdd;have hso:=hdd.lt;obtain⟨cap,cur,e0,e1,e2⟩:=outer hj;obtain⟨_,hsz⟩:=e2 _ (l7 hj);rw[PU]at hsz;have gne:∀b,aC (a.eval x)=some b→∀u,(RV.deep vv us).has u→u≠b:=λb hb1 u hu hh=>hqr (ak.ok.inj q r _ _ _ _ b uG rfl gu rfl hbq hb (bF.2 hb1) (by rw[←hh];exact hu))
            obtain⟨f1,f2⟩:=D.write (own':=uo own j) (hs':=[]) (us':=λi'=>if i'=j then a.eval x else us i') (d':=dd) (cs':=[a.eval x]) (off:=off) (k:=1) (l7 hj) e0 e1 (by omega) rfl
             (λi' hi'=>⟨by simp[uo,hi',cnd],by rw[jT i' hi'],by simp[hi']⟩)
             (λi' b hi' hb' hb2=>by
              rw[if_pos rfl]at hb2;exact gne b hb2 b (bg.2 (.inr ⟨i',hb'⟩)) rfl)
             (λb hb'=>by
              rw[if_pos rfl]at hb';exact⟨λhh=>gne b hb' g (bg.2 (.inl hgb)) hh.symm,(ak.ok.holds q _ _ uG hbq).cells rfl (bF.2 hb')⟩)
             (λw' cs fr hl ex=>by
              rw[if_pos rfl,show uo own j j=true by simp[uo,cnd],take_set (by omega)]
              have emp:∃d0,Rd h sh (cs.set off nT) d0∧mO sh off eq d0 x0 dd:=by
               unfold AL at ex;cases hh:oq j hs with
               | false=>
                 rw[hh]at ex;cases hoo:own j with
                 | false=>
                   rw[hoo]at ex;obtain⟨d0,hd0⟩:=hdd.ex [];exact⟨d0,hd0.rd ex.1 (qR.nil _ _),hd0.turn hdd⟩
                 | true=>
                   rw[hoo]at ex;obtain⟨d0,z,r0,p0,_,_⟩:=ex;exact⟨d0,r0,p0.trans hdd⟩
               | true=>
                 rw[hh]at ex;obtain⟨_,d0,z,r0,p0,_⟩:=ex;exact⟨d0,r0,p0.trans hdd⟩
              obtain⟨d0,r0,p0⟩:=emp;refine⟨d0,x0,by rw[List.set_set];exact r0,p0,by rw[nP (by omega)],lF.move (FH.le.refl h) λb hb'=>fr b λhh=>gne b hb' g (bg.2 (.inl hgb)) hh.symm⟩)
            have r1:=fH (o:=j * sz+off) (v:=a.eval x) ti e1 (by rw[hone.1,a2];rfl) (by rw[hz,a2];omega) (by rw[hone.1];intro u hu;simp at hu;subst hu;exact hone)
            rw[hone.1,a2,hz]at r1;rw[hz]at ep;have ok1:=ak.ok.forget uG;have hT1:((eff s.gl s.T).set q .gone)[r]?=some (.deep tt sh l tq eq off own hs):=by rw[lD hqr];exact gu
            have ok2:=ok1.QG (f:=vk r) (r':=.deep tt sh (l.set j dd) tq eq off (uo own j) []) (v:=.deep vv λi'=>if i'=j then a.eval x else us i') (row:=some g) (X:=λb=>aC (a.eval x)=some b) hT1 rfl hb (jv w g _) (λk e=>by cases e;exact .inl hgb)
             (λb hb'=>by
              obtain⟨o1,o2,o3⟩:=ak.ok.own q _ _ b uG rfl hbq (bF.2 hb');refine⟨o1,o2,o3,λj' rj vj hj' ej lj jH hbj=>?_⟩
              have hjq:j'≠q:=by
               rintro rfl;rw[nP (eU.1 uG).1]at ej;cases ej;cases lj
              rw[lD (Ne.symm hjq)]at ej;exact hjq (ak.ok.inj j' q _ _ _ _ b ej lj uG rfl jH hbq hbj (bF.2 hb')))
             (λb hb'=>by
              rw[bg]at hb';rcases hb' with hb' | ⟨i',hb'⟩
              ·exact .inl (bg.2 (.inl hb'))
              ·by_cases hi':i'=j
               ·rw[if_pos hi']at hb';exact .inr (.inl hb')
               ·rw[if_neg hi']at hb';exact .inl (bg.2 (.inr ⟨i',hb'⟩)))
             (λx y c=>eH.js hb (.inl rfl) c) f2
            refine nC ak k rfl (by rw[ho];rfl) (.inr ⟨exec rfl ep r1,rfl⟩) (FH.le.refl h) ((ak.map (f:=vk r) (T':=dK (mT (vk r) (dK s.T q ([],.gone))) r ([],.deep tt sh (l.set j dd) tq eq off (uo own j) [])) (β':=β.set r (.deep vv λi'=>if i'=j then a.eval x else us i')) (FH.le.refl h) (λ_=>rfl) (λx y c=>eH.js hb (.inl rfl) c) ?_ ?_).put (eG hd) rfl (λ_=>rfl) λhh=>by cases hh)
            ·rw[fZ,EU,fZ];exact ok2
            ·intro p' hp';rw[gG]at hp';rcases yL hp' with hp' | hp'
             ·obtain⟨p2,h1,h2⟩:=EW hp';rw[←h2];exact qK ak p2 h1
             ·subst hp';rfl
           ·exact k.elim
          ·exact k.elim
         ·exact k.elim
        ·exact k.elim
       ·exact k.elim
   ·cases hq
  ·cases hq
 ·rename_i r j k0 sz off hp;obtain⟨⟨vv,us,g,hb,hgb,ep⟩,_⟩:=aQ ak hg tr hp;split at hq
  ·rename_i tt sh l t2 e so own hs hT;have gu:=bJ hT tr;have D:fA h w tt sh l t2 e so own hs vv us:=ak.ok.holds r _ _ gu hb;split at hq
   ·rename_i v hv;have cv:=aQ ak hg tr hv;cases hq;split at k
    ·exact k.elim
    rename_i hz;have hz:sz=e.size:=gK hz;obtain⟨⟨o1,o2,o3⟩,k⟩:=k;have hdj:=l7 o3;have k:=k _ hdj;split at k
    ·rename_i xs hxs;obtain⟨hk,k⟩:=k;have k:=k _ (l7 hk);split at k
     ·rename_i y' hy';split at k
      ·rename_i dd hdd;have lF:=D.get hdj o1 o2 hxs;obtain⟨cur,he,f1,f2,f3,f4⟩:=lF.write hgb (l7 hk) (λhr=>oz e hy' hr cv)
       have r1:=fH (o:=k0 * sz+off) (v:=a.eval x) ti he f2 (by rw[hz];omega) f3
       rw[hz]at ep r1;have D':=D.inner (w':=w.setRow g (cur.toList.take (k0 * e.size+off)++(a.eval x).cells.toList++cur.toList.drop (k0 * e.size+off+i.size)).toArray) hdj o1 o2 (λb hb' _=>setRow_other w g b _ λhh=>hb' (by rw[hh];exact hgb)) (λb hb'=>by
        rw[hgb]at hb';cases hb';exact⟨_,setRow_heap w g _ _ t2 (0,0) he,rfl⟩) hdd f4
       have ok:OK B h0 (eff s.gl (dK s.T r ([],.deep tt sh (l.set j dd) t2 e so own hs))) h β (w.setRow g (cur.toList.take (k0 * e.size+off)++(a.eval x).cells.toList++cur.toList.drop (k0 * e.size+off+i.size)).toArray):=by
        rw[xM];have:=ak.ok.upd (r':=.deep tt sh (l.set j dd) t2 e so own hs) (v:=.deep vv us) gu rfl hb (row:=some g) (jv w g _) (λk e=>by cases e;exact bg.2 (.inr ⟨j,hgb⟩)) (λb hb=>.inl hb) (.inl rfl) (by rw[iq hb];exact D')
        rwa [iq hb]at this
       exact nC ak k rfl (by rw[ho];rfl) (.inr ⟨exec rfl ep r1,rfl⟩) (FH.le.refl h) ((ak.mem ok (FH.le.refl h) (Ext.refl β) (qK ak)).put (eG hd) rfl (λ_=>rfl) λhh=>by cases hh)
      ·exact k.elim
     ·exact k.elim
    ·exact k.elim
   ·cases hq
  ·cases hq
 ·cases hq
@[reducible] def Uc (s:St) (x:Operand) (K:St→Prop):Option Prop:=match x with
  | .tmp t=>match iG s.env t with
    | some ([],.one (.c (.sub r j)))=>match fD s.T r with
      | some ([],.deep tt sh l t2 e so own [])=>some ((own j=true∧j < l.length)∧∀d:sh.den,l[j]?=some d→match He sh d so e with
        | some x=>K { s with T:=snoc (dK (mT (vk r) s.T) r ([],.deep tt sh l t2 e so own [j])) ([],.row t2 e x),env:=(t,[],.one (.c (.row (aS s.T)))) :: zo (vk r) s.env,gs:=rmG s.gs t }
        | none=>False)
      | _=>none
    | _=>none
  | _=>none
theorem afc(ak:Sat N B h0 s h β w a){x:Operand}{q:Prop} (hq:Uc s x K=some q) (k:q):∃s' β',K s'∧Sat N B h0 s' h β' w a∧s'.gl=s.gl:=by
 have tr:gv s.gl []=true:=rfl;unfold Uc at hq;split at hq
 ·rename_i t;split at hq
  ·rename_i r j hlk;split at hq
   ·rename_i tt sh l t2 e so own hT;cases hq;have gu:=bJ hT tr;obtain⟨⟨o1,o2⟩,k⟩:=k;have hdj:=l7 o2;have k:=k _ hdj;split at k
    ·rename_i xs hxs;obtain⟨z,z1,z2,_⟩:=ak.env t [] _ hlk;obtain⟨⟨vv,us,hb,hus⟩,hone⟩:dJ h β (.c (.sub r j)) z:=z2 rfl;have D:fA h w tt sh l t2 e so own [] vv us:=ak.ok.holds r _ _ gu hb;have lF:=D.get hdj o1 rfl hxs;have ok2:=ak.ok.QG (f:=vk r) (r':=.deep tt sh l t2 e so own [j]) (v:=.deep vv (rH us j)) (row:=none) (X:=λ_=>False) gu rfl hb (dD w none) (λk e=>by cases e) (λb hb=>hb.elim)
      (λb hb'=>by
       rw[bg]at hb';rcases hb' with hb' | ⟨i',hb'⟩
       ·exact .inl (bg.2 (.inl hb'))
       ·unfold rH at hb';split at hb'
        ·cases hb'
        ·exact .inl (bg.2 (.inr ⟨i',hb'⟩)))
      (λx y c=>eH.js hb (.inl rfl) c) (D.open hdj o1)
     have ok3:=ok2.asI (r:=.row t2 e xs) (v:=.row z) (λb hb'=>by
      rw[bF]at hb';rw[←hus]at hb';have hu:(RV.deep vv us).has b:=bg.2 (.inr ⟨j,hb'⟩);obtain⟨p1,p2,p3⟩:=ak.ok.own r _ _ b gu rfl hb hu;refine⟨p1,p2,p3,λj' rj vj ej lj jH hbj=>?_⟩
      by_cases hj':j'=r
      ·subst hj';rw[nP (by have:=(eU.1 hb).1;exact this)]at jH
       cases jH;rw[bg]at hbj;rcases hbj with hbj | ⟨i',hbj⟩
       ·obtain⟨g,cap,cur,e0,_,_,e3,_,e5,_⟩:=D.third o2;rw[e0,bC (n:=l.length) e3.1]at hbj;cases hbj;exact e5 j hb'
       ·unfold rH at hbj;split at hbj
        ·cases hbj
        ·rename_i hi';exact hi' (D.1 i' j b hbj hb')
      ·rw[lD (Ne.symm hj')]at jH;rw[lD (Ne.symm hj'),LX]at ej;cases hh:(eff s.gl s.T)[j']? with
       | none=>rw[hh]at ej;cases ej
       | some r0=>
         rw[hh]at ej;cases ej;exact hj' (ak.ok.inj j' r _ _ _ _ b hh (by rw[←qx (vk r)];exact lj) gu rfl jH hb hbj hu)) (by rw[←hus];exact lF)
     have hlen:aS s.T=(β.set r (.deep vv (rH us j))).length:=by rw[pX,ak.ok.len,jr,bH]
     refine⟨_,(β.set r (.deep vv (rH us j)))++[.row z],k,?_,rfl⟩;have hC:∀x y,eH h β x y→eH h ((β.set r (.deep vv (rH us j)))++[.row z]) (vk r x) y:=λx y c=>(eH.js hb (.inl rfl) c).mono (FH.le.refl h) (Ext.append _ _)
     have sm:=ak.map (f:=vk r) (T':=snoc (dK (mT (vk r) s.T) r ([],.deep tt sh l t2 e so own [j])) ([],.row t2 e xs)) (h':=h) (β':=(β.set r (.deep vv (rH us j)))++[.row z]) (w':=w) (FH.le.refl h) (λ_=>rfl) hC (by
      rw[iW,fZ,EU];exact ok3) (λp hp=>by
      rw[iR,GV]at hp;rcases hp with hp | hp
      ·rw[gG]at hp;rcases yL hp with hp | hp
       ·obtain⟨p2,h1,h2⟩:=EW hp;rw[←h2];exact ak.gT p2 h1
       ·subst hp;rfl
      ·simp at hp;subst hp;rfl)
     refine⟨sm.ok,?_,?_,sm.defers,sm.sz,?_,sm.gT⟩
     ·intro t' G e' ht;rw[bD]at ht;split at ht
      ·rename_i hkt;subst hkt;cases ht;refine⟨z,z1,λ_=>⟨⟨.row z,?_,rfl⟩,hone⟩,λhh=>by cases hh⟩
       rw[hlen];simp
      ·exact sm.env t' G e' ht
     ·intro d i hi;obtain⟨hne,hi⟩:=AO _ _ _ _ hi;obtain⟨G,b,q1,q2⟩:=sm.gs d i hi;exact⟨G,b,by rw[bD,if_neg (Ne.symm hne)];exact q1,q2⟩
     ·intro t' G e' ht;rw[bD]at ht;split at ht
      ·cases ht;rfl
      ·exact sm.gb _ _ _ ht
    ·exact k.elim
   ·cases hq
  ·cases hq
 ·cases hq
@[reducible] def Zq (s:St) (i j:Nat):List SV→(List SV→Prop)→Prop
  | [],K=>K []
  | .c (.sub i' k) :: l,K=>match Nat.beq i i' with
    | true=>k≠j∧Wy s [] i' k λe x=>Zq s i j l λr=>K (.c (.sl e x) :: r)
    | false=>False
  | v :: l,K=>match noRow v with
    | true=>match ae3 s [] v with
      | some v'=>Zq s i j l λr=>K (v' :: r)
      | none=>False
    | false=>False
@[reducible] def alb (cx:Cx) (ip:IP) (s:St) (d:Option Nat) (args:List Operand) (K:St→Prop):Prop:=match args with
  | []=>False
  | x :: r=>match bU cx s [] x with
    | some (.one (.c (.sub i j)))=>match fD s.T i with
      | some ([],.deep tt sh l t2 e so own hs)=>match dL (sN e ip.sh) (dL (iZ ip.sh) (!ip.back)) with
        | false=>False
        | true=>match vg cx s [] r with
          | none=>False
          | some vs=>(own j=true∧oq j hs=false∧j < l.length)∧∀d0:sh.den,l[j]?=some d0→match He sh d0 so ip.sh with
            | none=>False
            | some xs=>Zq s i j vs λbs=>match y8 ip.ps bs with
              | none=>False
              | some dd=>ip.pre xs dd∧match Hf sh d0 so ip.sh (ip.res xs dd) with
                | some d1=>K ({ s with T:=dK s.T i ([],.deep tt sh (l.set j d1) t2 e so own hs) }.put d [] (.gX []))
                | none=>False
      | _=>False
    | _=>False
open Classical in
noncomputable def FH.but (w:World) (u:Value):FH:=λb o=>if aC u=some b then none else vis w b o
theorem alc(ak:Sat N B h0 s h β w a){i j:Nat}{r:aj}{vv:Value}{us:Nat→Value} (hT:(eff s.gl s.T)[i]?=some r) (hl:r.live=true) (hb:β[i]?=some (.deep vv us)):h.le (FH.but w (us j)):=by
 intro b o v hv;unfold FH.but;rw[if_neg]
 ·exact ak.ok.hw b o v hv
 ·intro hh;rw[(ak.ok.own i r _ b hT hl hb (bg.2 (.inr ⟨j,hh⟩))).2.2 o]at hv;cases hv
theorem JZ(ak:Sat N B h0 s h β w a){i j:Nat}{vv:Value}{us:Nat→Value} (hb:β[i]?=some (.deep vv us)) (inj:∀j k b,aC (us j)=some b→aC (us k)=some b→j=k) (le:h.le (FH.but w (us j))):
 ∀{vs:List SV}{ys:List Value}{K:List SV→Prop},aW (dJ h β) vs ys→Zq s i j vs K→∃bs,K bs∧aW (dJ (FH.but w (us j)) []) bs ys
 | [],[],K,_,k=>⟨[],k,trivial⟩
 | x :: l,y :: ys,K,⟨c,r⟩,k=>by
   have tr:gv s.gl []=true:=rfl;unfold Zq at k;split at k
   ·rename_i he;cases he
   ·rename_i i' k' l' K' he;cases he;split at k
    ·rename_i hi;have hi:=gK hi;subst hi;obtain⟨hk,k⟩:=k;obtain⟨e,xs,k1,k2⟩:=Di ak k;obtain⟨bs,k3,c3⟩:=JZ ak hb inj le r k1;obtain⟨⟨vv2,uN,hb2,rfl⟩,hone⟩:=c;rw[hb]at hb2;cases hb2;obtain⟨tt,lF⟩:=k2 tr vv us hb;refine⟨_,k3,⟨?_,hone⟩,c3⟩;refine lF.sl le λb hb3 o z hz=>?_
     unfold FH.but;rw[if_neg]
     ·exact hz
     ·exact λhh=>hk (inj _ _ b hb3 hh)
    ·exact k.elim
   ·rename_i v' l' K' hne he;cases he;split at k
    ·rename_i hnr;split at k
     ·rename_i v1 hv1;obtain⟨bs,k3,c3⟩:=JZ ak hb inj le r k;exact⟨_,k3,(((TQ ak tr hv1 c).2 hnr).mono le (Ext.refl [])),c3⟩
     ·exact k.elim
    ·exact k.elim
theorem Zr{f:FuncId}{ip:IP} (TS:WQ P cx.gd f ip) (hf:∃fn,P.funcs[f]?=some fn∧fn.body.isSome=true∧(fn.name == "runtime.NumGoroutine")=false)
 (ak:Sat N B h0 s h β w a) (hg:aO cx.gd h) (hd:lZ N o.dst=true){c:Call} (ho:o.op=.call c) (dA:c.callee=.value (.func f))
 (k:alb cx ip s o.dst (tl c.args) K):BZ P N B h0 h w a o true K:=by
 have tr:gv s.gl []=true:=rfl;unfold alb at k;split at k
 ·exact k.elim
 rename_i x r hargs0;split at k
 ·rename_i i j hx;split at k
  ·rename_i tt sh l t2 e so own hs hT;split at k
   ·exact k.elim
   rename_i hck;rw[aF,aF,A8,A8]at hck;have he:e=ip.sh:=ql hck.1;subst he;have hfl:=hck.2.1;have hbk:ip.back=false:=by simpa using hck.2.2
   split at k
   ·exact k.elim
   rename_i vs hvs;obtain⟨⟨o1,o2,o3⟩,k⟩:=k;have hdj:=l7 o3;have k:=k _ hdj;split at k
   ·exact k.elim
   rename_i xs hxs;have gu:=bJ hT tr;obtain⟨⟨vv,us,hb,hus⟩,_⟩:dJ h β (.c (.sub i j)) (a.eval x):=aQ ak hg tr hx;have D:fA h w tt sh l t2 ip.sh so own hs vv us:=ak.ok.holds i _ _ gu hb;have lF:=D.get hdj o1 o2 hxs;have le:h.le (FH.but w (us j)):=alc ak gu rfl hb;have hav:=rG ak hg tr hvs;obtain⟨bs,k,cb⟩:=JZ ak hb D.1 le hav k;split at k
   ·exact k.elim
   rename_i dd hdd;obtain⟨aA,k⟩:=k;split at k
   ·rename_i d1 hd1;intro Nx Q next
    rw[if_pos rfl];obtain⟨fn,hfn,hbody,hname⟩:=hf;have exec:(execOp a.eval o).run P w=.ok (.enter f (c.args.map a.eval)) w:=by
     simp only[execOp,ho,resolve,dA,Act.eval,Deferred.ofValue,invoke,Sem.run_bind,Sem.run_pure,Result.andThen_ok,callFunc,run_program,hfn,hname];simp[hbody];cases hb:fn.body with
     | none=>rw[hb]at hbody;cases hbody
     | some _=>simp
    have hargs:(c.args.map a.eval)=(a.eval x :: r.map a.eval).toArray:=by
     have:c.args=(x :: r).toArray:=by
      cases hc:c.args with
      | mk q=>rw[hc]at hargs0;simp only[tl]at hargs0;rw[hargs0]
     rw[this];simp
    unfold Oper.wp;rw[exec];simp only[Oper.upon];rw[hargs];refine(TS t2 xs dd (a.eval x) _ (FH.but w (us j)) w (λb o u hu=>?_) (hg.mono le) (show Holds (FH.but w (us j)) [] w (.row t2 ip.sh xs) (.row (a.eval x)) by rw[←hus];exact lF.move le λ_ _=>rfl) (λb hb' o=>?_) (y9 hdd cb) aA).mono ?_
    ·unfold FH.but at hu;split at hu
     ·cases hu
     ·exact hu
    ·unfold FH.but;rw[hus,if_pos hb']
    rintro en w' ⟨v',y,rfl,hgr,hv,hold',_,hb2⟩;obtain⟨rfl,rfl⟩:=hb2 hbk;have hrow':mM h w' t2 ip.sh (ip.res xs dd) (us j):=by
     have:=Holds.flat (h':=h) (show wo (.row t2 ip.sh (ip.res xs dd))=true from hfl) hold'
     rw[hus];exact this
    have D':fA h w' tt sh (l.set j d1) t2 ip.sh so own hs vv us:=D.inner hdj o1 o2 (λb hb' hx'=>by
     obtain⟨o',ho'⟩:=hx';exact hgr.block b (nR.1 ho').1 (λhh=>hb' (by rw[hus];exact hh.symm))) (λb hb'=>by
     exact Holds.cells (h:=h) (β:=[]) (r:=.row t2 ip.sh (ip.res xs dd)) (v:=.row (us j)) hrow' rfl (bF.2 hb')) hd1 hrow'
    have ok:OK B h0 (eff s.gl (dK s.T i ([],.deep tt sh (l.set j d1) t2 ip.sh so own hs))) h β w':=by
     rw[xM];have:=ak.ok.upd (r':=.deep tt sh (l.set j d1) t2 ip.sh so own hs) (v:=.deep vv us) gu rfl hb hgr (λk e=>bg.2 (.inr ⟨j,by rw[hus];exact e⟩)) (λb hb=>.inl hb) (.inl rfl) (by rw[iq hb];exact D')
     rwa [iq hb]at this
    exact next _ _ _ _ _ k (FH.le.refl h) ((ak.mem ok (FH.le.refl h) (Ext.refl β) (qK ak)).put (eG hd) rfl (λ_=>⟨[],rfl,trivial⟩) λhh=>by cases hh)
   ·exact k.elim
  ·exact k.elim
 ·exact k.elim
theorem eH.us{h:FH}{β:List RV}{i:Nat}{v:Value}{us:Nat→Value} (hu:β[i]?=some (.deep v us)){x:SC}{y:Value} (c:eH h β x y):eH h (β.set i (.row v)) (vk i x) y:=by
 unfold vk;split
 ·rename_i hf;cases x with
  | v _=>exact c
  | sl _ _=>exact c
  | fp _ _=>exact c
  | one _ _=>exact c
  | abs _=>exact c
  | junk=>trivial
  | own j off=>
    obtain⟨b,e,e'⟩:=c;refine⟨b,?_,e'⟩;rw[dV hu,if_neg]
    ·exact e
    ·rintro rfl;rw[hu]at e;cases e
  | row j=>
    obtain⟨z,e,e'⟩:=c
    by_cases hj:j=i
    ·subst hj;rw[hu]at e;cases e;exact⟨.row v,by rw[dV hu,if_pos rfl],e'⟩
    ·exact⟨z,by rw[dV hu,if_neg hj];exact e,e'⟩
  | kF j k sz off=>
    obtain⟨z,g,e,e',e2⟩:=c
    by_cases hj:j=i
    ·subst hj;rw[hu]at e;cases e;exact⟨.row v,g,by rw[dV hu,if_pos rfl],e',e2⟩
    ·exact⟨z,g,by rw[dV hu,if_neg hj];exact e,e',e2⟩
  | sub j k=>
    obtain⟨z,uN,e,e'⟩:=c;exact⟨z,uN,by rw[dV hu,if_neg (QF hf)];exact e,e'⟩
  | l9 j k m sz off=>
    obtain⟨z,uN,g,e,e'⟩:=c;exact⟨z,uN,g,by rw[dV hu,if_neg (QF hf)];exact e,e'⟩
 ·trivial
theorem fA.row{h h':FH}{w:World}{t:TypeId}{s:Sh}{l:List s.den}{tt:TypeId}{e:Sh}{so:Nat}{own:Nat→Bool}{v:Value}{us:Nat→Value} (x:fA h w t s l tt e so own [] v us) (le:h.le h')
 (hb:∀b,(∃j,aC (us j)=some b)→∀o z,vis w b o=some z→h' b o=some z):mM h' w t s l v∧∀g,aC v=some g→∀j,aC (us j)≠some g:=by
 obtain⟨_,_,x⟩:=x;rcases x with⟨e1,e2⟩ | ⟨ra,e1,e2⟩ | ⟨g,cap,cur,e1,q1,q2,q3,q4,q5,q6⟩
 ·exact⟨.inl ⟨e1,e2⟩,λg hg=>by subst e1;simp[aC]at hg⟩
 ·exact⟨.inr (.inl ⟨ra,e1,e2⟩),λg hg=>by subst e1;simp[aC]at hg⟩
 ·have lc:cur.toList.length=cap * s.size:=by simpa using q4
  have hm:l.length * s.size≤cap * s.size:=sH _ q2;refine⟨.inr (.inr ⟨g,cap,cur,e1,q1,q2,q3,q4,?_⟩),λg' hg'=>?_⟩
  ·refine gy.Qs (k:=s.size) (by rw[ku];omega) λj d hd=>?_
   have hj:=(eU.1 hd).1;have hm:(j+1) * s.size≤l.length * s.size:=sH _ hj;rw[PU]at hm;have e5:List.take s.size (List.drop (j * s.size) (List.take (l.length * s.size) cur.toList))=List.take s.size (List.drop (j * s.size) cur.toList):=by
    apply yJ;intro p;simp only[uD,Dc];split
    ·rw[if_pos (by omega)]
    ·rfl
   rw[e5];exact(q6 j d hd).rd le λb hu=>hb b ⟨j,hu⟩
  ·rw[e1,bC q3.1]at hg';cases hg';exact q5
theorem OK.ald{T:List aj} (ok:OK B h0 T h β w){i:Nat}{t:TypeId}{s:Sh}{l:List s.den}{tt:TypeId}{e:Sh}{so:Nat}{own:Nat→Bool}{v:Value}{us:Nat→Value}
 (hT:T[i]?=some (.deep t s l tt e so own [])) (hu:β[i]?=some (.deep v us)):
 h.le (h.mD w λb=>∃j,aC (us j)=some b)∧OK B h0 ((T.map (mR (vk i))).set i (.row t s l)) (h.mD w λb=>∃j,aC (us j)=some b) (β.set i (.row v)) w:=by
 have hi:i < T.length:=(eU.1 hT).1;have hi':i < β.length:=by rw[ok.len];exact hi
 have hl:(aj.deep t s l tt e so own []).live=true:=rfl;have own':=λg hv=>ok.own i _ _ g hT hl hu hv
 have sub:∀{b:Nat},(∃j,aC (us j)=some b)→(RV.deep v us).has b:=λhb=>bg.2 (.inr hb)
 have le:h.le (h.mD w λb=>∃j,aC (us j)=some b):=by
  intro b o x hb;unfold FH.mD
  by_cases hbg:∃j,aC (us j)=some b
  ·rw[(own' b (sub hbg)).2.2 o]at hb;cases hb
  ·rw[if_neg hbg];exact hb
 have hold:fA h w t s l tt e so own [] v us:=ok.holds i _ _ hT hu;obtain⟨rh,rn⟩:=hold.row le λb hb o z hz=>by
  unfold FH.mD;rw[if_pos hb];exact hz
 have get:∀{j:Nat}{rj:aj},j≠i→((T.map (mR (vk i))).set i (.row t s l))[j]?=some rj→∃r0,T[j]?=some r0∧rj=mR (vk i) r0:=by
  intro j rj hj e;rw[lD (Ne.symm hj),LX]at e;cases hh:T[j]? with
  | none=>rw[hh]at e;cases e
  | some r0=>rw[hh]at e;cases e;exact⟨r0,rfl,rfl⟩
 have ap3:∀{b:Nat},(RV.row v).has b→(RV.deep v us).has b:=λhb=>bg.2 (.inl (bF.1 hb))
 refine⟨le,{
  below:=ok.below
  dr:=ok.dr
  len:=by simp[ok.len]
  holds:=?_
  own:=?_
  inj:=?_
  hle:=ok.hle.trans le
  hw:=?_
  hg:=?_
  kn:=ok.kn }⟩
 ·intro j rj vj ej jH
  by_cases hj:j=i
  ·subst hj;rw[nP (by simpa using hi)]at ej
   rw[nP hi']at jH;cases ej;cases jH;exact rh
  ·obtain⟨r0,e0,rfl⟩:=get hj ej;rw[lD (Ne.symm hj)]at jH;exact(ok.holds j r0 vj e0 jH).map le (λx y c=>(eH.us hu c).mono le (Ext.refl _)) λ_ _ _=>rfl
 ·intro j rj vj b ej hlj jH hb
  by_cases hj:j=i
  ·subst hj;rw[nP hi']at jH;cases jH;obtain⟨a1,a2,a3⟩:=own' b (ap3 hb);refine⟨a1,a2,λo=>?_⟩
   unfold FH.mD;rw[if_neg,a3 o];rintro⟨j',hj'⟩;exact rn b (bF.1 hb) j' hj'
  ·obtain⟨r0,e0,rfl⟩:=get hj ej;rw[lD (Ne.symm hj)]at jH;have ap4:r0.live=true:=by rw[←qx (vk i)];exact hlj
   obtain⟨a1,a2,a3⟩:=ok.own j r0 vj b e0 ap4 jH hb;refine⟨a1,a2,λo=>?_⟩
   unfold FH.mD;rw[if_neg,a3 o];exact λhg=>hj (ok.inj j i _ _ _ _ _ e0 ap4 hT hl jH hu hb (sub hg))
 ·intro j k r1 r2 u1 u2 b e1 l1 e2 l2 e3 e4 b1 b2;have look:∀{m:Nat}{rm:aj}{um:RV},((T.map (mR (vk i))).set i (.row t s l))[m]?=some rm→rm.live=true→(β.set i (.row v))[m]?=some um→um.has b→∃r0 u0,T[m]?=some r0∧r0.live=true∧β[m]?=some u0∧u0.has b:=by
   intro m rm um e l e' hb
   by_cases hm:m=i
   ·subst hm;rw[nP hi']at e';cases e';exact⟨_,_,hT,hl,hu,ap3 hb⟩
   ·obtain⟨r0,e0,rfl⟩:=get hm e;rw[lD (Ne.symm hm)]at e';exact⟨r0,um,e0,by rw[←qx (vk i)];exact l,e',hb⟩
  obtain⟨p1,p2,p3,p4,p5,p6⟩:=look e1 l1 e3 b1;obtain⟨q1,q2,q3,q4,q5,q6⟩:=look e2 l2 e4 b2;exact ok.inj j k p1 q1 p2 q2 b p3 p4 q3 q4 p5 q5 p6 q6
 ·intro b o x hb;unfold FH.mD at hb;split at hb
  ·exact hb
  ·exact ok.hw b o x hb
 ·intro b o x hb;unfold FH.mD at hb;split at hb
  ·rename_i hbg;exact .inr (own' b (sub hbg)).1
  ·exact ok.hg b o x hb
@[reducible] def JE (s:St) (i:Nat):St:=match fD s.T i with
  | some ([],.deep t sh l _ _ _ _ [])=>{ s with T:=dK (mT (vk i) s.T) i ([],.row t sh l),env:=zo (vk i) s.env }
  | _=>s
theorem Sat.JE(ak:Sat N B h0 s h β w a) (i:Nat):∃h' β',h.le h'∧Sat N B h0 (JE s i) h' β' w a:=by
 unfold Go.aV.JE;split
 ·rename_i t sh l t2 e so own hT;have gu:(eff s.gl s.T)[i]?=some (.deep t sh l t2 e so own []):=by rw[jJ,←fP,hT];rfl
  have iO:i < β.length:=by rw[ak.ok.len];exact(eU.1 gu).1
  have hu:=l7 iO;have hold:=ak.ok.holds i _ _ gu hu;cases hb:β[i]with
  | blk b=>rw[hb]at hold;exact hold.elim
  | no=>rw[hb]at hold;exact hold.elim
  | row _=>rw[hb]at hold;exact hold.elim
  | deep v us=>
    rw[hb]at hu;obtain⟨le,ok'⟩:=ak.ok.ald gu hu;refine⟨_,_,le,ak.map (f:=vk i) le (λ_=>rfl) (λx y c=>(eH.us hu c).mono le (Ext.refl _)) ?_ ?_⟩
    ·rw[fZ,EU];exact ok'
    ·intro p hp;rw[gG]at hp;rcases yL hp with hp | hp
     ·obtain⟨q,h1,h2⟩:=EW hp;rw[←h2];exact ak.gT q h1
     ·subst hp;rfl
 ·exact⟨h,β,FH.le.refl h,ak⟩
@[reducible] def afd (s:St) (i:Nat):St:=match Nat.ble 1000 i with
  | true=>JE s (i - 1000)
  | false=>Nl s i
@[reducible] def Ns (s:St):List Nat→St
  | []=>s
  | i :: r=>Ns (afd s i) r
theorem Sat.Ns:∀{l:List Nat}{s:St}{h:FH}{β:List RV},Sat N B h0 s h β w a→∃h' β',h.le h'∧Sat N B h0 (Ns s l) h' β' w a
 | [],s,h,β,ak=>⟨h,β,FH.le.refl h,ak⟩
 | i :: r,s,h,β,ak=>by
   have h1:∃h' β',h.le h'∧Sat N B h0 (afd s i) h' β' w a:=by
    unfold afd;split
    ·exact ak.JE _
    ·obtain⟨h',le,aY⟩:=ak.ak9 i;exact⟨h',β,le,aY⟩
   obtain⟨h1,β1,le1,jA⟩:=h1;obtain⟨h2,β2,iH,bK⟩:=Sat.Ns (l:=r) jA;exact⟨h2,β2,le1.trans iH,bK⟩
@[reducible] def wC (s:St):List (Nat×TypeId×Sh×Nat)→St
  | []=>s
  | (i,tt,e,so) :: l=>wC (Nr s i tt e so) l
theorem Sat.wC:∀(l:List (Nat×TypeId×Sh×Nat)){s:St}{β:List RV},Sat N B h0 s h β w a→∃β',Sat N B h0 (wC s l) h β' w a
 | [],s,β,ak=>⟨β,ak⟩
 | (i,tt,e,so) :: l,s,β,ak=>by
   obtain⟨β1,jA⟩:=ak.Nr i tt e so;exact Sat.wC l jA
theorem OK.QH{T:List aj} (ok:OK B h0 T h β w){i:Nat}{r r':aj} (hT:T[i]?=some r) (hl:r.live=true) (hold:∀v,Holds h β w r v→Holds h β w r' v):OK B h0 (T.set i r') h β w:=by
 have hi:i < T.length:=(eU.1 hT).1;have key:∀{m:Nat}{rm:aj},(T.set i r')[m]?=some rm→rm.live=true→∃rm',T[m]?=some rm'∧rm'.live=true:=by
  intro m rm e l
  by_cases hm:m=i
  ·subst hm;exact⟨r,hT,hl⟩
  ·rw[lD (Ne.symm hm)]at e;exact⟨rm,e,l⟩
 exact {
  below:=ok.below
  dr:=ok.dr
  len:=by simp[ok.len]
  holds:=by
   intro j rj vj ej jH
   by_cases hj:j=i
   ·subst hj;rw[nP hi]at ej;cases ej;exact hold vj (ok.holds j r vj hT jH)
   ·rw[lD (Ne.symm hj)]at ej;exact ok.holds j rj vj ej jH
  own:=by
   intro j rj vj b ej l jH hb;obtain⟨rm,e1,e2⟩:=key ej l;exact ok.own j rm vj b e1 e2 jH hb
  inj:=by
   intro j k r1 r2 u v b e1 l1 e2 l2 e3 e4 b1 b2;obtain⟨q1,f1,f2⟩:=key e1 l1;obtain⟨q2,g1,g2⟩:=key e2 l2;exact ok.inj j k q1 q2 u v b f1 f2 g1 g2 e3 e4 b1 b2
  hle:=ok.hle
  hw:=ok.hw
  hg:=ok.hg
  kn:=ok.kn }
@[reducible] def Nu (s:St) (i c:Nat) (t:TypeId) (sh:Sh):St:=match fD s.T i with
  | some ([],.blk t' cs)=>match fD cs c with
    | some (.v (.slice none 0 0))=>{ s with T:=snoc (dK s.T i ([],.blk t' (dK cs c (.row (aS s.T))))) ([],.row t sh []) }
    | _=>s
  | _=>s
theorem aW.dK{α β:Type}{R:α→β→Prop}{y:α}{z:β} (hR:R y z):∀{l:List α}{m:List β}{c:Nat},m[c]?=some z→aW R l m→aW R (aV.dK l c y) m
 | [],[],_,h,_=>by simp at h
 | _ :: _,_ :: _,0,h,⟨_,b⟩=>by simp at h;subst h;exact⟨hR,b⟩
 | _ :: _,_ :: _,c+1,h,⟨a,b⟩=>⟨a,aW.dK hR (by simpa using h) b⟩
theorem Sat.Nu(ak:Sat N B h0 s h β w a) (i c:Nat) (t:TypeId) (sh:Sh):∃β',Sat N B h0 (Nu s i c t sh) h β' w a:=by
 unfold aV.Nu;split
 ·rename_i t' cs hT;split
  ·rename_i hc;have gu:=bJ hT (show gv s.gl []=true from rfl)
   have ok1:OK B h0 (eff s.gl s.T++[.row t sh []]) h (β++[.row (.slice none 0 0)]) w:=ak.ok.add (r:=.row t sh []) (v:=.row (.slice none 0 0)) (dD w none) (λb hb=>by rw[bF]at hb;simp[aC]at hb) (.inl ⟨rfl,rfl⟩)
   have hi:=(eU.1 gu).1;have hlen:aS s.T=β.length:=by rw[ak.ok.len,jr,bH]
   have hT1:(eff s.gl s.T++[.row t sh []])[i]?=some (.blk t' cs):=by rw[XV hi];exact gu
   have ok2:=ok1.QH (r':=.blk t' (aV.dK cs c (.row (aS s.T)))) hT1 rfl λv hv=>by
    cases v with
    | blk b=>
      obtain⟨ys,e1,al⟩:=hv;refine⟨ys,e1,?_⟩;obtain⟨y,hy,hcn⟩:=al.get (show cs[c]?=some (.v (.slice none 0 0)) by rw[←fP];exact hc)
      obtain rfl:y=.slice none 0 0:=hcn.1.1;refine aW.dK ?_ hy al;refine⟨⟨.row (.slice none 0 0),?_,rfl⟩,rfl,rfl⟩;rw[hlen];simp
    | row _=>exact hv.elim
    | deep _ _=>exact hv.elim
    | no=>exact hv.elim
   refine⟨β++[.row (.slice none 0 0)],ak.mem ?_ (FH.le.refl h) (Ext.append _ _) λp hp=>?_⟩
   ·rw[iW,fZ];have e:((eff s.gl s.T)++[aj.row t sh []]).set i (.blk t' (aV.dK cs c (.row (aS s.T))))=(eff s.gl s.T).set i (.blk t' (aV.dK cs c (.row (aS s.T))))++[.row t sh []]:=by rw[List.set_append_left _ _ hi]
    rw[e]at ok2;exact ok2
   ·rw[iR,GV]at hp;rcases hp with hp | hp
    ·rw[gG]at hp;rcases yL hp with hp | hp
     ·exact ak.gT p hp
     ·subst hp;rfl
    ·simp at hp;subst hp;rfl
  ·exact⟨β,ak⟩
 ·exact⟨β,ak⟩
@[reducible] def Ip (s:St):List (Nat×Nat×TypeId×Sh)→St
  | []=>s
  | (i,c,t,sh) :: l=>Ip (Nu s i c t sh) l
theorem Sat.Ip:∀(l:List (Nat×Nat×TypeId×Sh)){s:St}{β:List RV},Sat N B h0 s h β w a→∃β',Sat N B h0 (Ip s l) h β' w a
 | [],s,β,ak=>⟨β,ak⟩
 | (i,c,t,sh) :: l,s,β,ak=>by
   obtain⟨β1,jA⟩:=ak.Nu i c t sh;exact Sat.Ip l jA
theorem Iq{dT sT ty el:TypeId}{i:TI} (k:aP P el i) (hu:P.underlying dT=some (.slice el)){d b:Option Addr}{dLen dCap sLen sCap:Nat} (hn:Nat.min sLen dLen=0):
 (Builtin.copy_ #[dT,sT] ty #[.slice d dLen dCap,.slice b sLen sCap]).run P w=.ok (goInt 0) w:=by
 have hl:∀(x:Addr),(loadCells x 0).run P w=.ok #[] w:=λx=>by simpa using run_loadCells_list (P:=P) w x [] (by simp)
 cases d<;>cases b<;>simp[Builtin.copy_,run_underlying hu,Builtin.lenOf,Builtin.firstCells,run_sizeOf k,hn,storeCells,hl]
theorem WX{dT sT ty el:TypeId}{i:TI} (k:aP P el i) (hu:P.underlying dT=some (.slice el)){g dLen dCap:Nat}{b:Addr}{sLen sCap:Nat}{cur:Array Value}{t:TypeId}{cs:List Value}
 (hg:w.heap[g]?=some (.cells cur t (0,0))) (hn:cs.length=Nat.min sLen dLen * i.size) (hsrc:∀j v,cs[j]?=some v→w.cell? (b.add j)=some v) (hfit:cs.length≤cur.size) (h1:∀v∈cs,v.oneCell'=true):
 (Builtin.copy_ #[dT,sT] ty #[.slice (some ⟨g,0,none⟩) dLen dCap,.slice (some b) sLen sCap]).run P w=.ok (goInt (Nat.min sLen dLen)) (w.setRow g (cs++cur.toList.drop cs.length).toArray):=by
 have hl:=run_loadCells_list (P:=P) w b cs hsrc;have hst:=run_storeCells_at P g 0 t cs 0 cur w hg (by simpa using hfit) h1
 simp only[P8,XW,Yj,L9]at hst;simp[Builtin.copy_,run_underlying hu,Builtin.lenOf,Builtin.firstCells,run_sizeOf k,←hn,hl,hst]
@[reducible] def Ud (cx:Cx) (s:St) (d:Option Nat) (t:TypeId) (x y:Operand) (K:St→Prop):Prop:=iU cx t λel ie sh=>match bU cx s [] x with
  | some (.one (.c (.row r)))=>match fD s.T r with
    | some ([],.row tt fG l1)=>match jK (.sl fG) l1 (.sl sh) with
      | some l=>match bU cx s [] y with
        | some (.one v)=>match Qq s sh v with
          | some l2=>K ({ s with T:=dK s.T r ([],.row tt sh (l2.take l.length++l.drop l2.length)) }.put d [] (vI .i64 (Nat.min l2.length l.length)))
          | none=>False
        | _=>False
      | none=>False
    | _=>False
  | _=>False
def fU(a b:Int):Int:=if b < a then b else a
@[reducible] def afe (cx:Cx) (s:St) (d:Option Nat) (x y:Operand) (K:St→Prop):Prop:=match bU cx s [] x with
  | some (.one (.c (.v (.int .i64 a))))=>match bU cx s [] y with
    | some (.one (.c (.v (.int .i64 b))))=>K (s.put d [] (vI .i64 (fU a b)))
    | _=>False
  | _=>False
theorem Zt(ak:Sat N B h0 s h β w a) (hg:aO cx.gd h) (hd:lZ N o.dst=true){x y:Operand}{c:Call} (ho:o.op=.call c) (dA:c.callee=.builtin .min) (ha:c.args=#[x,y])
 (k:afe cx s o.dst x y K):gI P N B h0 h w a o (gv s.gl []) K:=by
 have tr:gv s.gl []=true:=rfl;unfold afe at k;split at k
 ·rename_i n hx;have ex:a.eval x=.int .i64 n:=(aQ ak hg tr hx:dJ h β (.c (.v (.int .i64 n))) (a.eval x)).1.1;split at k
  ·rename_i m hy;have ey:a.eval y=.int .i64 m:=(aQ ak hg tr hy:dJ h β (.c (.v (.int .i64 m))) (a.eval y)).1.1;refine nC ak k rfl (by rw[ho];simp[quietly,dA]) (.inl ?_) (FH.le.refl h) (ak.put (G:=[]) (e:=vI .i64 (fU n m)) (z:=.int .i64 (fU n m)) (eG hd) rfl (λ_=>⟨⟨rfl,bT _ _⟩,bT _ _⟩) λhh=>by cases hh)
   simp[execOp,ho,resolve,dA,ha,invoke,builtin,ex,ey,Builtin.min_,Builtin.min2,fU]
  ·exact k.elim
 ·exact k.elim
theorem WY(ak:Sat N B h0 s h β w a) (hg:aO cx.gd h) (hd:lZ N o.dst=true){x y:Operand}{c:Call} (ho:o.op=.call c) (dA:c.callee=.builtin .max) (ha:c.args=#[x,y])
 (k:Qx cx s o.dst x y K):gI P N B h0 h w a o (gv s.gl []) K:=by
 have tr:gv s.gl []=true:=rfl;unfold Qx at k;split at k
 ·rename_i n hx;have ex:a.eval x=.int .i64 n:=(aQ ak hg tr hx:dJ h β (.c (.v (.int .i64 n))) (a.eval x)).1.1;split at k
  ·rename_i m hy;have ey:a.eval y=.int .i64 m:=(aQ ak hg tr hy:dJ h β (.c (.v (.int .i64 m))) (a.eval y)).1.1;refine nC ak k rfl (by rw[ho];simp[quietly,dA]) (.inl ?_) (FH.le.refl h) (ak.put (G:=[]) (e:=vI .i64 (dX n m)) (z:=.int .i64 (dX n m)) (eG hd) rfl (λ_=>⟨⟨rfl,bT _ _⟩,bT _ _⟩) λhh=>by cases hh)
   simp[execOp,ho,resolve,dA,ha,invoke,builtin,ex,ey,Builtin.max_,Builtin.max2,dX]
  ·exact k.elim
 ·exact k.elim
theorem WZ(hc:cO P cx.ti) (ak:Sat N B h0 s h β w a) (hg:aO cx.gd h) (hd:lZ N o.dst=true){t t':TypeId}{x y:Operand}{c:Call} (ho:o.op=.call c) (dA:c.callee=.builtin .copy) (ha:c.args=#[x,y]) (hat:c.argTypes=#[t,t'])
 (k:Ud cx s o.dst t x y K):gI P N B h0 h w a o (gv s.gl []) K:=by
 have tr:gv s.gl []=true:=rfl;unfold Ud at k;unfold iU at k;split at k
 ·rename_i el hde;have hu:=bQ hc hde (by simp)
  split at k
  ·exact k.elim
  rename_i ie hie;have tie:=hc.get hie;split at k
  ·exact k.elim
  rename_i sh hsh;split at k
  ·rename_i hz;rw[aF,aF,A8,A8]at hz;have hz1:sh.size=ie.size:=gK hz.1;split at k
   ·rename_i r hx;split at k
    ·rename_i tt fG l1 hT;split at k
     ·rename_i l hl;obtain⟨e1,e2⟩:=oZ hl;subst e1;simp only at e2;subst e2;split at k
      ·rename_i v hv;split at k
       ·rename_i l2 hl2;have Ij:=(aQ ak hg tr hx:dJ h β (.c (.row r)) (a.eval x));have cv:=aQ ak hg tr hv;have gu:=bJ hT tr;have hb:=ak.ok.row_of gu Ij.1;have lF:mM h w tt fG l1 (a.eval x):=ak.ok.holds r _ _ gu hb;have src:=Dk ak hl2 cv;have exec:∀{w':World},(Builtin.copy_ #[t,t'] o.type #[a.eval x,a.eval y]).run P w=.ok (goInt (Nat.min l2.length l1.length)) w'→(execOp a.eval o).run P w=.ok (.value (goInt (Nat.min l2.length l1.length))) w':=by
         intro w' r0;simp only[execOp,ho,resolve,dA,ha,hat,invoke,builtin,Sem.run_bind,Sem.run_pure,Result.andThen_ok];simp[r0]
        have fin:∀{w':World}{row:Option Nat},Gb w w' row→(∀k,row=some k→aC (a.eval x)=some k)→(Builtin.copy_ #[t,t'] o.type #[a.eval x,a.eval y]).run P w=.ok (goInt (Nat.min l2.length l1.length)) w' →
         mM h w' tt fG (l2.take l1.length++l1.drop l2.length) (a.eval x)→gI P N B h0 h w a o (gv s.gl []) K:=by
         intro w' row hgr hrw r0 hr;have ok:OK B h0 (eff s.gl (dK s.T r ([],.row tt fG (l2.take l1.length++l1.drop l2.length)))) h β w':=by
          rw[xM];have:=ak.ok.upd (r':=.row tt fG (l2.take l1.length++l1.drop l2.length)) (v:=.row (a.eval x)) gu rfl hb hgr (λk e=>bF.2 (hrw k e)) (λb hb=>.inl hb) (.inl rfl) hr
          rwa [iq hb]at this
         exact nC ak k rfl (by rw[ho];simp[quietly,dA]) (.inl (exec r0)) (FH.le.refl h) ((ak.mem ok (FH.le.refl h) (Ext.refl β) (qK ak)).put (G:=[]) (e:=vI .i64 (Nat.min l2.length l1.length)) (eG hd) rfl (λ_=>⟨⟨rfl,bT _ _⟩,bT _ _⟩) λhh=>by cases hh)
        have zero:∀(ad ab:Option Addr) (dC sC:Nat),a.eval x=.slice ad l1.length dC→a.eval y=.slice ab l2.length sC→(l1=[]∨l2=[])→gI P N B h0 h w a o (gv s.gl []) K:=by
         intro ad ab dC sC ex ey h0';have hm:Nat.min l2.length l1.length=0:=by rcases h0' with rfl | rfl<;>simp
         refine fin (dD w none) (λk e=>by cases e) ?_ ?_
         ·rw[hm,ex,ey];exact Iq tie hu hm
         ·have:l2.take l1.length++l1.drop l2.length=l1:=by rcases h0' with rfl | rfl<;>simp
          rw[this];exact lF
        rcases lF with⟨e1,e2⟩ | ⟨ra,e1,e2⟩ | ⟨g,cap,cur,e1,q1,q2,q3,q4,q5⟩
        ·rcases src with⟨s1,s2⟩ | ⟨sa,sc,s1,s2⟩ | ⟨sb,so,sc,cs,s1,s2,s3⟩
         ·exact zero none none 0 0 (by rw[e1,e2];rfl) (by rw[s1,s2];rfl) (.inl e2)
         ·exact zero none (some sa) 0 sc (by rw[e1,e2];rfl) (by rw[s1,s2];rfl) (.inl e2)
         ·exact zero none _ 0 sc (by rw[e1,e2];rfl) s1 (.inl e2)
        ·rcases src with⟨s1,s2⟩ | ⟨sa,sc,s1,s2⟩ | ⟨sb,so,sc,cs,s1,s2,s3⟩
         ·exact zero (some ra) none 0 0 (by rw[e1,e2];rfl) (by rw[s1,s2];rfl) (.inl e2)
         ·exact zero (some ra) (some sa) 0 sc (by rw[e1,e2];rfl) (by rw[s1,s2];rfl) (.inl e2)
         ·exact zero (some ra) _ 0 sc (by rw[e1,e2];rfl) s1 (.inl e2)
        ·rcases src with⟨s1,s2⟩ | ⟨sa,sc,s1,s2⟩ | ⟨sb,so,sc,cs,s1,s2,s3⟩
         ·exact zero _ none cap 0 e1 (by rw[s1,s2];rfl) (.inr s2)
         ·exact zero _ (some sa) cap sc e1 (by rw[s1,s2];rfl) (.inr s2)
         ·have hcs:=gy.size (λ_ _=>Rd.size fG) s2
          have lc:cur.toList.length=cap * fG.size:=by simpa using q4
          have hm1:l1.length * fG.size≤cap * fG.size:=sH _ q2;generalize hm:Nat.min l2.length l1.length=m at *;have hm2:m≤l2.length:=by rw[←hm];exact Nat.min_le_left _ _
          have hm3:m≤l1.length:=by rw[←hm];exact Nat.min_le_right _ _
          have hm4:m * fG.size≤l2.length * fG.size:=sH _ hm2;have hm5:m * fG.size≤l1.length * fG.size:=sH _ hm3;have ht:=gy.uQ (λ_ _=>Rd.size fG) s2 (a:=0) (b:=m) (XY _) hm2
          simp only[P5,X7]at ht;have hlen:(cs.take (m * fG.size)).length=m * fG.size:=by rw[ku];omega
          have r0:=WX (P:=P) (w:=w) (dT:=t) (sT:=t') (ty:=o.type) tie hu (g:=g) (dLen:=l1.length) (dCap:=cap) (b:=⟨sb,so,none⟩) (sLen:=l2.length) (sCap:=sc) (cs:=cs.take (m * fG.size)) q1 (by rw[hlen,hm,hz1]) (λj v hj=>by
           rw[uD]at hj;split at hj
           ·have:=s3 j v hj;have ea:(⟨sb,so,none⟩:Addr).add j=⟨sb,so+j,none⟩:=by unfold Addr.add;split<;>simp_all
            rw[ea];exact this
           ·cases hj) (by rw[hlen];rw[←PV,lc];omega) (λv hv=>(gy.all (λ_ _=>Rd.one fG) ht v hv).2)
          rw[hm]at r0;refine fin (row:=some g) (jv w g _) (λk e=>by cases e;rw[e1];exact bC q3.1) (by rw[e1,s1];exact r0) ?_
          have el:(l2.take l1.length++l1.drop l2.length)=l2.take m++l1.drop m:=by
           rcases Nat.le_total l2.length l1.length with hh | hh
           ·have:m=l2.length:=by rw[←hm];exact AB hh
            rw[this,tZ hh,tZ (Eb _)]
           ·have:m=l1.length:=by rw[←hm];exact Nat.min_eq_right hh
            rw[this,H9 hh,H9 (Eb _)]
          rw[el];have ll:(l2.take m++l1.drop m).length=l1.length:=by rw[kD,ku,xB];omega
          refine .inr (.inr ⟨g,cap,_,by rw[ll];exact e1,setRow_heap w g _ _ tt (0,0) q1,by rw[ll];exact q2,q3,?_,?_⟩)
          ·simp only[oI,kD,xB,hlen];omega
          ·rw[ll];have h2:=gy.split (λ_ _=>Rd.size fG) (l:=l1.take m) (l':=l1.drop m) (by rw[Ef];exact q5)
           have h3:=ht.append h2.2;have e3:List.take (l1.length * fG.size) (cs.take (m * fG.size)++List.drop (cs.take (m * fG.size)).length cur.toList)=cs.take (m * fG.size)++List.drop ((l1.take m).length * fG.size) (List.take (l1.length * fG.size) cur.toList):=by
            rw[hlen,ku,AB hm3];apply yJ;intro p;simp only[VO,uD,Dc,ku,lc]
            repeat' split
            all_goals first | rfl | omega | (congr 1;omega) | (exfalso;omega) | skip
           simp only at e3 ⊢;rw[e3];exact h3
       ·exact k.elim
      ·exact k.elim
     ·exact k.elim
    ·exact k.elim
   ·exact k.elim
  ·exact k.elim
 ·exact k.elim
end
end Go.aV
namespace Go.aV
open Go Go.RowKit
@[reducible] def tlS (s:St) (i:Nat):St:=match fD s.T i with
  | some ([],.row t (.int k) l)=>{ s with T:=dK s.T i ([],.MG t k l 0) }
  | _=>s
abbrev tlP(cx:Cx) (s:St) (o:Oper) (K:St→Prop):Option Prop:=none
section
variable {cx:Cx}{P:Program}{N:Nat}{B:Base}{h0:FH}{s:St}{h:FH}{β:List RV}{w:World}{a:Act}{o:Oper}{K:St→Prop}
theorem ale{t:TypeId}{k:IntKind}{l:List Int}{v:Value} (x:mM h w t (.int k) l v):TlH w t k l 0 v:=by
 rcases x with x | x | ⟨g,cap,cur,e0,e1,e2,e3,e4,e5⟩
 ·exact .inl x
 ·exact .inr (.inl x)
 ·refine .inr (.inr ⟨g,cap,cur,e0,e1,e2,e3,by simpa using e4,λj n hj=>?_⟩)
  have:=(e5.get (λ_ _=>Rd.size (.int k)) hj).1
  simp only[Sh.size,akH]at this;have h2:((List.take l.length cur.toList).drop j).take 1=[.int k n]:=this;have hj':=(eU.1 hj).1;have h3:(((List.take l.length cur.toList).drop j).take 1)[0]?=some (.int k n):=by rw[h2];rfl
  rw[uD,if_pos (by omega),Dc,uD,if_pos (by omega)]at h3
  simpa using h3
theorem Sat.tlS(ak:Sat N B h0 s h β w a) (i:Nat):Sat N B h0 (tlS s i) h β w a:=by
 unfold Go.aV.tlS;split
 ·rename_i t k l hT;have gu:=bJ hT (show gv s.gl []=true from rfl)
  refine ak.mem ?_ (FH.le.refl h) (Ext.refl β) λp hp=>?_
  ·rw[fZ];refine ak.ok.QH gu rfl λv hv=>?_
   cases v with
   | row v=>exact ale hv
   | blk _=>exact hv.elim
   | deep _ _=>exact hv.elim
   | no=>exact hv.elim
  ·rw[gG]at hp;rcases yL hp with hp | hp
   ·exact ak.gT p hp
   ·subst hp;rfl
 ·exact ak
@[reducible] def Zu (s:St) (i:Nat):St:=match Nat.ble 2000 i with
  | true=>tlS s (i - 2000)
  | false=>afd s i
@[reducible] def Bc (s:St):List Nat→St
  | []=>s
  | i :: r=>Bc (Zu s i) r
theorem Sat.Bc:∀{l:List Nat}{s:St}{h:FH}{β:List RV},Sat N B h0 s h β w a→∃h' β',h.le h'∧Sat N B h0 (Bc s l) h' β' w a
 | [],s,h,β,ak=>⟨h,β,FH.le.refl h,ak⟩
 | i :: r,s,h,β,ak=>by
   have h1:∃h' β',h.le h'∧Sat N B h0 (Zu s i) h' β' w a:=by
    unfold Zu;split
    ·exact⟨h,β,FH.le.refl h,ak.tlS _⟩
    ·exact Sat.Ns (l:=[i]) ak
   obtain⟨h1,β1,le1,jA⟩:=h1;obtain⟨h2,β2,iH,bK⟩:=Sat.Bc (l:=r) jA;exact⟨h2,β2,le1.trans iH,bK⟩
theorem alf(hc:cO P cx.ti) (ak:Sat N B h0 s h β w a) (hg:aO cx.gd h) (hd:lZ N o.dst=true){ops:Array Oper}{p:Prop} (e:tlP cx s o K=some p) (k:p):BZ P N B h0 h w a o (Region.wanted o (yielded ops a.tmps)) K:=by
 unfold tlP at e;cases e
end
end Go.aV
namespace Go.aV
open Go Go.RowKit
abbrev J3:Nat→Bool:=λj=>decide (j=0)
abbrev kV(n:Nat) (p q:Nat→Bool):Nat→Bool:=λj=>cnd (decide (j < n)) (p j) (q (j - n))
@[reducible] def ap6 (sh eq:Sh):Bool:=match sh with
  | .sl e=>decide (e=eq)
  | _=>false
@[reducible] def Zv (cx:Cx) (s:St) (d:Option Nat) (t:TypeId) (q:Nat) (tq:TypeId) (eq:Sh) (l:List eq.den) (parts:List (Nat×Operand)) (K:St→Prop):Prop:=match descOf cx t with
  | .slice el=>match qo cx.ti el with
    | none=>False
    | some ie=>match ie.iT with
      | none=>False
      | some sh=>match xK cx s [] parts with
        | none=>False
        | some ps=>match dL (ap6 sh eq) (dL (Nat.beq ie.size 1) (Nat.ble 1 ie.bytes)) with
          | false=>False
          | true=>match uS (λj=>some (j * ie.size,ie.size)) (iP 1 (fE SC.v ie.zero)) ps with
            | some [.row q']=>match Nat.beq q q' with
              | true=>K ({ s with T:=snoc (mT (Dj (aS s.T)) (dK s.T q ([],.gone))) ([],.deep el (.sl eq) [l] tq eq 0 J3 []),env:=zo (Dj (aS s.T)) s.env }.put d [] (.one (.c (.row (aS s.T)))))
              | false=>False
            | _=>False
  | _=>False
@[reducible] def Zw (cx:Cx) (s:St) (d:Option Nat) (t:TypeId) (r:Nat) (tt:TypeId) (fG:Sh) (l1:List fG.den) (t1:TypeId) (e1:Sh) (Ue:Nat) (xW:Nat→Bool) (r2:Nat) (Xa:TypeId) (oW:Sh) (l2:List oW.den) (t2:TypeId) (e2:Sh) (so2:Nat) (zu:Nat→Bool) (K:St→Prop):Prop:=iU cx t λel ie sh=>
  match dL (Nat.beq tt el) (dL (Nat.beq Xa el) (dL (Nat.beq t1 t2) (dL (decide (e1=e2)) (dL (Nat.beq Ue so2) (!(Nat.beq r r2)))))) with
  | true=>match jK (.sl fG) l1 (.sl sh) with
    | some l1=>match jK (.sl oW) l2 (.sl sh) with
      | some l2=>(1≤l2.length∧jS (l1.length+l2.length) ie.bytes)∧K ({ s with T:=dK (mT (Dj r) (dK s.T r2 ([],.gone))) r ([],.deep el sh (l1++l2) t1 e1 Ue (kV l1.length xW zu) []),env:=zo (Dj r) s.env }.put d [] (.one (.c (.row r))))
      | none=>False
    | none=>False
  | false=>False
@[reducible] def apP (cx:Cx) (s:St) (o:Oper) (K:St→Prop):Option Prop:=match cx.dm with
  | false=>none
  | true=>match o.guard with
    | some _=>none
    | none=>match o.op with
      | .buildSlice t 1 ps=>match tl ps with
        | [(0,x)]=>match bU cx s [] x with
          | some (.one (.c (.row q)))=>match fD s.T q with
            | some ([],.row tq eq l)=>some (Zv cx s o.dst t q tq eq l (tl ps) K)
            | _=>none
          | _=>none
        | _=>none
      | .call c=>match c.callee with
        | .builtin .append=>match tl c.args with
          | [x,y]=>match bU cx s [] x with
            | some (.one (.c (.row r)))=>match fD s.T r with
              | some ([],.deep tt fG l1 t1 e1 Ue xW [])=>match bU cx s [] y with
                | some (.one (.c (.row r2)))=>match fD s.T r2 with
                  | some ([],.deep Xa oW l2 t2 e2 so2 zu [])=>match tl c.argTypes with
                    | [t,t']=>match Nat.beq t t' with
                      | true=>some (Zw cx s o.dst t r tt fG l1 t1 e1 Ue xW r2 Xa oW l2 t2 e2 so2 zu K)
                      | false=>none
                    | _=>none
                  | _=>none
                | _=>none
              | _=>none
            | _=>none
          | _=>none
        | _=>none
      | _=>none
section
variable {cx:Cx}{P:Program}{N:Nat}{B:Base}{h0:FH}{s:St}{h:FH}{β:List RV}{w:World}{a:Act}{o:Oper}{K:St→Prop}
theorem Xb(hc:cO P cx.ti) (ak:Sat N B h0 s h β w a) (hg:aO cx.gd h) (hd:lZ N o.dst=true){t:TypeId}{parts:Array (Nat×Operand)} (ho:o.op=.buildSlice t 1 parts){q:Nat}{tq:TypeId}{eq:Sh}{l:List eq.den}
 (hTq:fD s.T q=some ([],.row tq eq l)) (k:Zv cx s o.dst t q tq eq l (tl parts) K):gI P N B h0 h w a o true K:=by
 have tr:gv s.gl []=true:=rfl;unfold Zv at k;split at k
 ·rename_i el hde;have hu:=bQ hc hde (by simp)
  split at k
  ·exact k.elim
  rename_i ie hie;have tie:=hc.get hie;split at k
  ·exact k.elim
  rename_i sh hsh;split at k
  ·exact k.elim
  rename_i ps hps;split at k
  ·exact k.elim
  rename_i hz;rw[aF,aF,A8,A8]at hz;have hz1:ie.size=1:=gK hz.2.1;split at k
  ·rename_i q' hxs;split at k
   ·rename_i hqq;have hqq:=gK hqq;subst hqq;have htl:(parts.map λ(p:Nat×Operand)=>(p.1,a.eval p.2)).toList=(tl parts).map λp=>(p.1,a.eval p.2):=by cases parts;simp
    rw[EJ]at hxs;obtain⟨zs,g1,g2⟩:=ru (rC ak hg tr hps) (iw λv hv=>tie.zone v (y7 hv)) hxs
    obtain⟨y,rfl,cy⟩:∃y,zs=[y]∧eH h β (.row q) y∧dO y:=by
     cases zs with
     | nil=>exact g2.elim
     | cons y zs=>
       cases zs with
       | nil=>exact⟨y,rfl,g2.1⟩
       | cons _ _=>exact g2.2.elim
    have hz0:0 < ie.zero.length:=by rw[tie.qc];omega
    obtain⟨z,hz1',hz2⟩:=uT tie w;have hc1:((Array.range (1 * ie.size)).map (λi=>z.cells[i % z.cells.size]!))=(iP 1 ie.zero).toArray:=by
     rw[hz2,←tie.qc];exact rD hz0
    have run:(execOp a.eval o).run P w=.ok (.value (.slice (some ⟨w.heap.size,0,none⟩) 1 1)) (w.alloc (.cells #[y] el)):=by
     have hbig:¬(1 * ie.size > 2 ^ 24):=by omega
     have h0:¬1 * ie.size=0:=by omega
     simp only[execOp,ho,Instr.buildSlice,Sem.run_bind,run_underlying hu,Result.andThen_ok,run_sizeOf tie,hbig,aeJ,Sem.run_ite,Sem.run_pure,h0,hz1'];rw[htl,hc1,g1];simp only[Sem.run_bind,newRow,run_newObj,Result.andThen_ok,Sem.run_pure];rfl
    have uG:=bJ hTq tr;have hbq:=ak.ok.row_of uG cy.1;have lF:mM h w tq eq l y:=ak.ok.holds q _ _ uG hbq;have hlen:aS s.T=β.length:=by rw[ak.ok.len,jr,bH]
    have hTl:(eff s.gl s.T).length=β.length:=ak.ok.len.symm;have hql:q < β.length:=(eU.1 hbq).1;have gb:=oQ w (.cells #[y] el) none;have ok1:=ak.ok.forget uG;have ok2:=ok1.add (r:=.row el (.sl eq) []) (v:=.row (.slice (some ⟨w.heap.size,0,none⟩) 0 1)) gb
     (λb hb=>by rw[bF]at hb;simp[aC]at hb;subst hb;simp)
     (.inr (.inr ⟨w.heap.size,1,#[y],rfl,nD _ _,XY _,⟨Eb _,by simp[maxLen]⟩,rfl,rfl⟩))
    have hTn:((eff s.gl s.T).set q .gone++[aj.row el (.sl eq) []])[β.length]?=some (.row el (.sl eq) []):=by
     rw[CP (by simp[hTl])];simp[hTl]
    have hbn:(β++[RV.row (.slice (some ⟨w.heap.size,0,none⟩) 0 1)])[β.length]?=some (.row (.slice (some ⟨w.heap.size,0,none⟩) 0 1)):=by simp
    have old:∀b,aC y=some b→b < w.heap.size:=λb hb=>(ak.ok.own q _ _ b uG rfl hbq (bF.2 hb)).2.1
    have fr:∀b,b < w.heap.size→(w.alloc (.cells #[y] el)).heap[b]?=w.heap[b]?:=λb hb=>gb.block b hb (by simp)
    have hold:fA h (w.alloc (.cells #[y] el)) el (.sl eq) [l] tq eq 0 J3 [] (.slice (some ⟨w.heap.size,0,none⟩) 1 1) (λj=>if j=0 then y else nT):=by
     have bn:∀b,aC nT≠some b:=λb hh=>by simp[nT,aC]at hh
     have z0:∀{j b},aC (if j=0 then y else nT)=some b→j=0∧aC y=some b:=by
      intro j b hb
      by_cases hj:j=0
      ·rw[if_pos hj]at hb;exact⟨hj,hb⟩
      ·rw[if_neg hj]at hb;exact(bn b hb).elim
     refine⟨λj k b h1 h2=>by rw[(z0 h1).1,(z0 h2).1],λj b hb=>⟨by rw[(z0 hb).1];simp,?_⟩,.inr (.inr ⟨w.heap.size,1,#[y],rfl,nD _ _,by simp,⟨Eb _,by simp[maxLen]⟩,rfl,λj hb=>?_,λj d hj=>?_⟩)⟩
     ·rw[fr b (old b (z0 hb).2)];exact(ak.ok.holds q _ _ uG hbq).cells rfl (bF.2 (z0 hb).2)
     ·have:=old _ (z0 hb).2;omega
     ·have hj0:j=0:=by
       have:=(eU.1 hj).1;simp at this;exact this
      subst hj0;simp at hj;subst hj;show AL h _ (.sl eq) tq eq 0 true false y ((([y]:List Value).drop (0 * 1)).take 1) l;exact⟨[],l,⟨nT,rfl,.inl ⟨rfl,rfl⟩⟩,⟨rfl,rfl,rfl⟩,rfl,lF.move (FH.le.refl h) λb hb=>fr b (old b hb)⟩
    have ok3:=ok2.QG (f:=Dj β.length) (r':=.deep el (.sl eq) [l] tq eq 0 J3 []) (v:=.deep (.slice (some ⟨w.heap.size,0,none⟩) 1 1) (λj=>if j=0 then y else nT)) (row:=none) (X:=λb=>aC y=some b) hTn rfl hbn (dD _ none) (λk e=>by cases e)
     (λb hb=>by
      obtain⟨o1,o2,o3⟩:=ak.ok.own q _ _ b uG rfl hbq (bF.2 hb);refine⟨o1,A55 o2 gb.size,o3,λj' rj vj hj' ej lj jH hbj=>?_⟩
      have hjl:j' < β.length:=by
       have h1:=(eU.1 jH).1;simp at h1;omega
      rw[XV (by simp[hTl];exact hjl)]at ej
      rw[XV hjl]at jH;have hjq:j'≠q:=by
       rintro rfl;rw[nP (eU.1 uG).1]at ej;cases ej;cases lj
      rw[lD (Ne.symm hjq)]at ej;exact hjq (ak.ok.inj j' q _ _ _ _ b ej lj uG rfl jH hbq hbj (bF.2 hb)))
     (λb hb=>by
      rw[bg]at hb;rcases hb with hb | ⟨j,hb⟩
      ·refine .inl (bF.2 ?_);simp[aC]at hb ⊢;exact hb
      ·by_cases hj:j=0
       ·rw[if_pos hj]at hb;exact .inr (.inl hb)
       ·rw[if_neg hj]at hb;simp[nT,aC]at hb)
     (λx y c=>c.jk _) hold
    intro Nx Q next
    rw[if_pos rfl];refine kQ run (next _ _ _ _ _ k (FH.le.refl h) (λ_=>nS.MX gb) ((ak.map (f:=Dj (aS s.T)) (T':=snoc (mT (Dj (aS s.T)) (dK s.T q ([],.gone))) ([],.deep el (.sl eq) [l] tq eq 0 J3 [])) (β':=(β++[RV.row (.slice (some ⟨w.heap.size,0,none⟩) 0 1)]).set β.length (.deep (.slice (some ⟨w.heap.size,0,none⟩) 1 1) (λj=>if j=0 then y else nT))) (FH.le.refl h) (λ_=>rfl) (λx y c=>?_) ?_ ?_).put (eG hd) rfl (λ_=>⟨⟨.deep (.slice (some ⟨w.heap.size,0,none⟩) 1 1) (λj=>if j=0 then y else nT),?_,rfl⟩,rfl,rfl⟩) λhh=>by cases hh))
    ·rw[hlen];exact(c.mono (FH.le.refl h) (Ext.append _ _)).jk _
    ·rw[iW,EU,fZ,hlen];have:(((eff s.gl s.T).set q .gone++[aj.row el (.sl eq) []]).map (mR (Dj β.length))).set β.length (.deep el (.sl eq) [l] tq eq 0 J3 [])=((eff s.gl s.T).set q .gone).map (mR (Dj β.length))++[.deep el (.sl eq) [l] tq eq 0 J3 []]:=by
      rw[MF,VU _ _ (by simp[hTl])]
      simp[hTl]
     rw[←this];exact ok3
    ·intro p' hp';rw[iR,GV]at hp';rcases hp' with hp' | hp'
     ·obtain⟨p2,h1,h2⟩:=EW hp';rw[←h2];exact qK ak p2 h1
     ·simp at hp';subst hp';rfl
    ·rw[hlen];rw[nP (by simp)]
   ·exact k.elim
  ·exact k.elim
 ·exact k.elim
theorem Hr{t ty el:TypeId}{i:TI}{v:Value}{n m c b o:Nat}{cs:List Value} (hu:P.underlying t=some (.slice el)) (ki:aP P el i) (hs1:1≤i.size) (hb1:1≤i.bytes) (hm:1≤m) (room:jS (n+m) i.bytes)
 (hcs:cs.length=m * i.size) (hnews:∀j u,cs[j]?=some u→w.cell? ⟨b,o+j,none⟩=some u) (h1:∀u∈cs,u.oneCell'=true){old:List Value} (hol:old.length=n * i.size)
 (row:(v=.slice none 0 0∧n=0)∨(∃a,v=.slice (some a) 0 0∧n=0)∨∃g cap cur,v=.slice (some ⟨g,0,none⟩) n cap∧w.heap[g]?=some (.cells cur el (0,0))∧n≤cap∧(1≤cap∧cap≤maxLen)∧cur.size=cap * i.size∧cur.toList.take (n * i.size)=old):
 ∃w' g' jU cur',(Builtin.append_ #[t,t] ty #[v,.slice (some ⟨b,o,none⟩) m c]).run P w=.ok (.slice (some ⟨g',0,none⟩) (n+m) jU) w'∧Gb w w' (aC v)∧w'.heap[g']?=some (.cells cur' el (0,0))∧n+m≤jU∧(1≤jU∧jU≤maxLen) ∧
   cur'.size=jU * i.size∧(aC v=some g'∨(w.heap.size≤g'∧g' < w'.heap.size))∧cur'.toList.take ((n+m) * i.size)=old++cs:=by
 obtain⟨inf,z,i1,i2,i3,i4,i5⟩:=ki.info;unfold jS at room;have hn:n+m≤140737488355328:=vO (A76 _ hb1) room;have YU:z.cells.size=i.size:=by rw[i5];simpa using ki.qc
 have hcs':cs.length=m * inf.size:=by rw[i2];exact hcs
 have hnews':∀j u,cs[j]?=some u→w.cell? ((⟨b,o,none⟩:Addr).add j)=some u:=λj u e=>by rw[add_lit];exact hnews j u e
 have grown:∀(scap:Nat),∃w' g' jU cur',w'=w.drew.alloc (.cells (old.toArray++cs.toArray++Builtin.zeroCells z.cells (grownCap w (n+m) scap el - (n+m))) el)∧g'=w.heap.size∧jU=grownCap w (n+m) scap el∧Gb w w' (aC v)∧w'.heap[g']?=some (.cells cur' el (0,0))∧n+m≤jU∧(1≤jU∧jU≤maxLen) ∧
  cur'.size=jU * i.size∧(aC v=some g'∨(w.heap.size≤g'∧g' < w'.heap.size))∧cur'.toList.take ((n+m) * i.size)=old++cs:=by
  intro scap;have hge:=grownCap_ge w (n+m) scap el;refine⟨_,_,_,_,rfl,rfl,rfl,⟨⟨rfl,rfl,rfl,by simp,λk hk _=>(World.grownBy_alloc w.drew _ none).block k hk (by simp)⟩,A98 _⟩,heap_alloc_new w.drew _,hge,⟨by omega,grownCap_le_maxLen w _ scap el (by simp only[maxLen];omega)⟩,?_,.inr ⟨Eb _,by simp⟩,?_⟩
  ·simp only[A82,oI,size_zeroCells,YU,hcs,hol,←Td]
   congr 1;omega
  ·simp only[A95];rw[show(n+m) * i.size=(old++cs).length by rw[kD,hol,hcs,Td],A93]
 rcases row with⟨rfl,hn0⟩ | ⟨ra,rfl,hn0⟩ | ⟨g,cap,cur,rfl,q1,q2,q3,q4,q5⟩
 ·subst hn0;have ho0:old=[]:=LY (by simpa using hol)
  subst ho0;have r:=run_append_nil (P:=P) w t ty el inf z hu i1 i4 ⟨b,o,none⟩ m c cs hcs' hnews' (by omega) (by omega) (by rw[i3];simp at room;omega)
  obtain⟨w',g',jU,cur',rfl,rfl,rfl,rest⟩:=grown 0;refine⟨_,_,_,cur',?_,rest⟩;simpa using r
 ·subst hn0;have ho0:old=[]:=LY (by simpa using hol)
  subst ho0;have r:=run_append_grow (P:=P) w t ty el inf z hu i1 i4 ra 0 0 [] (by simp) (λj u e=>by simp at e) ⟨b,o,none⟩ m c cs hcs' hnews' (by omega) (by omega) (growslice_fits (by omega) (by rw[i3];simpa using room))
  obtain⟨w',g',jU,cur',rfl,rfl,rfl,rest⟩:=grown 0;exact⟨_,_,_,cur',r,rest⟩
 ·by_cases hroom:n+m≤cap
  ·have hfit:n * inf.size+cs.length≤cur.size:=by rw[hcs,q4,i2,←Td];exact sH _ hroom
   have r:=run_append_room (P:=P) w t ty el inf hu i1 g n cap cur q1 ⟨b,o,none⟩ m c cs hcs' hnews' h1 hroom hfit;have e1:(List.take (n * i.size) cur.toList++cs).length=(n+m) * i.size:=by rw[kD,q5,hol,hcs,Td]
   refine⟨_,g,cap,_,r,by rw[bC q3.1];exact jv w g _,setRow_heap w g cur _ el _ q1,hroom,q3,?_,.inl (bC q3.1),?_⟩
   ·have atz:n * i.size+cs.length≤cur.size:=by rw[←i2];exact hfit
    simp only[i2,oI,kD,ku,xB,PV (xs:=cur)];rw[←q4];omega
   ·show(List.take (n * inf.size) cur.toList++cs++List.drop (n * inf.size+cs.length) cur.toList).take ((n+m) * i.size)=old++cs;rw[i2,←e1,A93,q5]
  ·have holds:∀j u,old[j]?=some u→w.cell? ((⟨g,0,none⟩:Addr).add j)=some u:=by
    intro j u e;rw[add_lit,XW,cell_of_row w g j cur el (0,0) q1];rw[←q5,uD]at e;split at e
    ·simpa using e
    ·cases e
   have r:=run_append_grow (P:=P) w t ty el inf z hu i1 i4 ⟨g,0,none⟩ n cap old (by rw[hol,i2]) holds ⟨b,o,none⟩ m c cs hcs' hnews' (by omega) (by omega) (growslice_fits (by omega) (by rw[i3];exact room))
   obtain⟨w',g',jU,cur',rfl,rfl,rfl,rest⟩:=grown cap;exact⟨_,_,_,cur',r,rest⟩
theorem QI{n j:Nat}{p q:Nat→Bool} (h:j < n):kV n p q j=p j:=by simp[kV,h,cnd]
theorem QJ{n j:Nat}{p q:Nat→Bool} (h:¬j < n):kV n p q j=q (j - n):=by simp[kV,h,cnd]
abbrev Bd(n:Nat) (p q:Nat→Value):Nat→Value:=λj=>if j < n then p j else q (j - n)
theorem kY{n j:Nat}{p q:Nat→Value} (h:j < n):Bd n p q j=p j:=if_pos h
theorem kZ{n j:Nat}{p q:Nat→Value} (h:¬j < n):Bd n p q j=q (j - n):=if_neg h
theorem EY{L:List Value}{M a k:Nat} (h:a+k≤M):((L.take M).drop a).take k=(L.drop a).take k:=by
 apply yJ;intro p;simp only[uD,Dc]
 by_cases hp:p < k
 ·rw[if_pos hp,if_pos hp,if_pos (by omega)]
 ·rw[if_neg hp,if_neg hp]
theorem AL.one{sh:Sh}{tt:TypeId}{e:Sh}{so:Nat}{own:Bool}{u:Value}{cs:List Value}{d:sh.den} (x:AL h w sh tt e so own false u cs d):∀z∈cs,dO z:=by
 intro z hz;cases own with
 | false=>exact Rd.one sh x.1 z hz
 | true=>
   obtain⟨d0,y,r,_,c,q⟩:=x;obtain⟨p,hp⟩:=wQ hz
   by_cases hps:p=so
   ·subst hps;rw[hp]at c;cases c;rcases q with⟨e,_⟩ | ⟨_,e,_⟩ | ⟨_,_,_,e,_⟩<;>subst e<;>exact⟨rfl,rfl⟩
   ·refine Rd.one sh r z (iF (i:=p) ?_);rw[lD (Ne.symm hps)];exact hp
theorem fA.join{w':World}{t:TypeId}{sh:Sh}{l1 l2:List sh.den}{tt:TypeId}{e:Sh}{so:Nat}{xW zu:Nat→Bool}{v1 v2:Value}{Uf uN:Nat→Value}{g' jU:Nat}{cur':Array Value}{old cs:List Value}
 (D1:fA h w t sh l1 tt e so xW [] v1 Uf) (D2:fA h w t sh l2 tt e so zu [] v2 uN) (h2:1≤l2.length)
 (dis:∀i j b,aC (Uf i)=some b→aC (uN j)=some b→False)
 (fr:∀b,(∃i,aC (Uf i)=some b)∨(∃j,aC (uN j)=some b)→w'.heap[b]?=w.heap[b]?∧b≠g')
 (c1:w'.heap[g']?=some (.cells cur' t (0,0))) (c2:l1.length+l2.length≤jU) (c3:1≤jU∧jU≤maxLen) (c4:cur'.size=jU * sh.size) (hol:old.length=l1.length * sh.size)
 (c5:cur'.toList.take ((l1.length+l2.length) * sh.size)=old++cs)
 (e1:∀j d,l1[j]?=some d→AL h w sh tt e so (xW j) false (Uf j) ((old.drop (j * sh.size)).take sh.size) d)
 (e2:∀j d,l2[j]?=some d→AL h w sh tt e so (zu j) false (uN j) ((cs.drop (j * sh.size)).take sh.size) d):
 fA h w' t sh (l1++l2) tt e so (kV l1.length xW zu) [] (.slice (some ⟨g',0,none⟩) (l1.length+l2.length) jU) (Bd l1.length Uf uN):=by
 refine⟨λj k b hj hk=>?_,λj b hj=>?_,.inr (.inr ⟨g',jU,cur',by rw[kD],c1,by rw[kD];exact c2,c3,c4,λj hj=>?_,λj d hj=>?_⟩)⟩
 ·by_cases a1:j < l1.length<;>by_cases a2:k < l1.length
  ·rw[kY a1]at hj;rw[kY a2]at hk;exact D1.1 j k b hj hk
  ·rw[kY a1]at hj;rw[kZ a2]at hk;exact(dis _ _ b hj hk).elim
  ·rw[kZ a1]at hj;rw[kY a2]at hk;exact(dis _ _ b hk hj).elim
  ·rw[kZ a1]at hj;rw[kZ a2]at hk;have:=D2.1 _ _ b hj hk;omega
 ·by_cases a1:j < l1.length
  ·rw[kY a1]at hj;rw[(fr b (.inl ⟨j,hj⟩)).1];exact⟨by rw[kD];omega,(D1.2.1 j b hj).2⟩
  ·rw[kZ a1]at hj;rw[(fr b (.inr ⟨_,hj⟩)).1];have:=D2.2.1 _ b hj;exact⟨by rw[kD];omega,this.2⟩
 ·by_cases a1:j < l1.length
  ·rw[kY a1]at hj;exact(fr g' (.inl ⟨j,hj⟩)).2 rfl
  ·rw[kZ a1]at hj;exact(fr g' (.inr ⟨_,hj⟩)).2 rfl
 ·have hjl:=(eU.1 hj).1;rw[kD]at hjl;have hm:(j+1) * sh.size≤(l1.length+l2.length) * sh.size:=sH _ hjl;rw[PU]at hm;have cut:(cur'.toList.drop (j * sh.size)).take sh.size=((old++cs).drop (j * sh.size)).take sh.size:=by
   rw[←c5,EY hm]
  rw[cut,show oq j []=false from rfl]
  rw[VO]at hj;split at hj
  ·rename_i a1;rw[kY a1,QI a1];have hm1:(j+1) * sh.size≤l1.length * sh.size:=sH _ a1;rw[PU]at hm1;have:((old++cs).drop (j * sh.size)).take sh.size=(old.drop (j * sh.size)).take sh.size:=by
    rw[Yg (by omega),VN (by rw[xB];omega)]
   rw[this];exact(e1 j d hj).move (FH.le.refl h) λb hb=>(fr b (.inl ⟨j,hb⟩)).1
  ·rename_i a1;rw[kZ a1,QJ a1];have hjj:j * sh.size=l1.length * sh.size+(j - l1.length) * sh.size:=by rw[←Td];congr 1;omega
   have:(old++cs).drop (j * sh.size)=cs.drop ((j - l1.length) * sh.size):=by
    rw[hjj,←hol,X8]
   rw[this];exact(e2 _ d hj).move (FH.le.refl h) λb hb=>(fr b (.inr ⟨_,hb⟩)).1
theorem Xc(hc:cO P cx.ti) (ak:Sat N B h0 s h β w a) (hg:aO cx.gd h) (hd:lZ N o.dst=true){t:TypeId}{x y:Operand}{c:Call} (ho:o.op=.call c) (dA:c.callee=.builtin .append) (ha:c.args=#[x,y]) (ht:c.argTypes=#[t,t])
 {r:Nat} (hx:bU cx s [] x=some (.one (.c (.row r)))){tt:TypeId}{fG:Sh}{l1:List fG.den}{t1:TypeId}{e1:Sh}{Ue:Nat}{xW:Nat→Bool} (hT:fD s.T r=some ([],.deep tt fG l1 t1 e1 Ue xW []))
 {r2:Nat} (hy:bU cx s [] y=some (.one (.c (.row r2)))){Xa:TypeId}{oW:Sh}{l2:List oW.den}{t2:TypeId}{e2:Sh}{so2:Nat}{zu:Nat→Bool} (hT2:fD s.T r2=some ([],.deep Xa oW l2 t2 e2 so2 zu []))
 (k:Zw cx s o.dst t r tt fG l1 t1 e1 Ue xW r2 Xa oW l2 t2 e2 so2 zu K):gI P N B h0 h w a o true K:=by
 have tr:gv s.gl []=true:=rfl;unfold Zw iU at k;split at k
 ·rename_i el hde;have hu:=bQ hc hde (by simp)
  split at k
  ·exact k.elim
  rename_i ie hie;have tie:=hc.get hie;split at k
  ·exact k.elim
  rename_i sh hsh;split at k
  ·rename_i hz;rw[aF,aF,A8,A8]at hz;have hz1:sh.size=ie.size:=gK hz.1;have hz2:1≤ie.bytes:=qP hz.2.1;have hz3:1≤ie.size:=qP hz.2.2;split at k
   ·rename_i hq;rw[aF,aF,aF,aF,aF,A8,A8,A8,A8,A8,dG]at hq;obtain⟨q1,q2,q3,q4,q5,q6⟩:=hq;have q1:tt=el:=gK q1;have q2:Xa=el:=gK q2;have q3:t1=t2:=gK q3;have q5:Ue=so2:=gK q5;have hrr:r2≠r:=QF q6;subst q1;subst q2;subst q3;subst q4;subst q5;split at k
    ·rename_i m1 hm1;obtain⟨f1,f2⟩:=oZ hm1;subst f1;simp only at f2;subst f2;split at k
     ·rename_i m2 hm2;obtain⟨f1,f2⟩:=oZ hm2;subst f1;simp only at f2;subst f2;obtain⟨⟨k1,k2⟩,k⟩:=k;have gu:=bJ hT tr;have Xd:=bJ hT2 tr;have cx1:=(aQ ak hg tr hx:dJ h β (.c (.row r)) (a.eval x));have cy1:=(aQ ak hg tr hy:dJ h β (.c (.row r2)) (a.eval y));obtain⟨Uf,hb1,D1⟩:=ak.ok.vX gu cx1.1;obtain⟨uN,hb2,D2⟩:=ak.ok.vX Xd cy1.1;have ap7:∀b,(RV.deep (a.eval x) Uf).has b→B.al b∧b < w.heap.size∧∀o,h b o=none:=λb hb=>ak.ok.own r _ _ b gu rfl hb1 hb
      have aj3:∀b,(RV.deep (a.eval y) uN).has b→B.al b∧b < w.heap.size∧∀o,h b o=none:=λb hb=>ak.ok.own r2 _ _ b Xd rfl hb2 hb
      have apart:∀b,(RV.deep (a.eval x) Uf).has b→(RV.deep (a.eval y) uN).has b→False:=λb p q=>hrr (ak.ok.inj r2 r _ _ _ _ b Xd rfl gu rfl hb2 hb1 q p)
      obtain⟨g2,cap2,EX,v0,v1,v2,v3,v4,v5,v6⟩:=D2.third (j:=0) (by omega)
      have hsz2:l2.length * oW.size≤cap2 * oW.size:=sH _ v2;have hcs:(EX.toList.take (l2.length * oW.size)).length=l2.length * oW.size:=by rw[ku,PV (xs:=EX)];omega
      have el2:∀j d,l2[j]?=some d→AL h w oW t1 e1 Ue (zu j) false (uN j) (((EX.toList.take (l2.length * oW.size)).drop (j * oW.size)).take oW.size) d:=by
       intro j d hj;have hjl:=(eU.1 hj).1;have hm:(j+1) * oW.size≤l2.length * oW.size:=sH _ hjl;rw[PU]at hm;rw[EY hm];exact v6 j d hj
      have asN:∀u∈EX.toList.take (l2.length * oW.size),u.oneCell'=true:=by
       intro u hu;obtain⟨p,hp⟩:=wQ hu;have hpl:=(eU.1 hp).1;rw[hcs]at hpl;have hs0:0 < oW.size:=by rw[hz1];exact hz3
       have hjl:p / oW.size < l2.length:=by rw[Nat.div_lt_iff_lt_mul hs0];exact hpl
       have hdm:p / oW.size * oW.size+p % oW.size=p:=by rw[Nat.mul_comm];exact Nat.div_add_mod p oW.size
       refine((el2 _ _ (l7 hjl)).one u (iF (i:=p % oW.size) ?_)).2;rw[uD,if_pos (Nat.mod_lt _ hs0),Dc,hdm];exact hp
      obtain⟨old,hol,row,el1,nb1⟩:∃old:List Value,old.length=l1.length * oW.size∧((a.eval x=.slice none 0 0∧l1.length=0)∨(∃ad,a.eval x=.slice (some ad) 0 0∧l1.length=0)∨∃g cap cur,a.eval x=.slice (some ⟨g,0,none⟩) l1.length cap∧w.heap[g]?=some (.cells cur Xa (0,0))∧l1.length≤cap∧(1≤cap∧cap≤maxLen)∧cur.size=cap * ie.size∧cur.toList.take (l1.length * ie.size)=old) ∧
       (∀j d,l1[j]?=some d→AL h w oW t1 e1 Ue (xW j) false (Uf j) ((old.drop (j * oW.size)).take oW.size) d)∧∀i b,aC (Uf i)=some b→aC (a.eval x)≠some b:=by
       rcases D1.2.2 with⟨e,rfl⟩ | ⟨ad,e,rfl⟩ | ⟨g,cap,cur,u0,u1,u2,u3,u4,u5,u6⟩
       ·exact⟨[],by simp,.inl ⟨e,rfl⟩,λj d hj=>by simp at hj,λi b _=>by rw[e];simp[aC]⟩
       ·exact⟨[],by simp,.inr (.inl ⟨ad,e,rfl⟩),λj d hj=>by simp at hj,λi b _=>by rw[e];simp[aC]⟩
       ·have hsz1:l1.length * oW.size≤cap * oW.size:=sH _ u2;refine⟨cur.toList.take (l1.length * oW.size),by rw[ku,PV (xs:=cur)];omega,.inr (.inr ⟨g,cap,cur,u0,u1,u2,u3,by rw[←hz1];exact u4,by rw[hz1]⟩),λj d hj=>?_,λi b hb=>by rw[u0,bC u3.1];intro hh;cases hh;exact u5 i hb⟩
        have hjl:=(eU.1 hj).1;have hm:(j+1) * oW.size≤l1.length * oW.size:=sH _ hjl;rw[PU]at hm;rw[EY hm];exact u6 j d hj
      obtain⟨w',g',jU,cur',r1,gb,c1,c2,c3,c4,c6,c5⟩:=Hr (ty:=o.type) (b:=g2) (o:=0) (c:=cap2) (m:=l2.length) (n:=l1.length) (cs:=EX.toList.take (l2.length * oW.size)) (old:=old) hu tie hz3 hz2 k1 k2 (by rw[hcs,hz1]) (λj u hj=>by
       rw[XW,cell_of_row w g2 j EX Xa (0,0) v1];rw[uD]at hj;split at hj
       ·simpa using hj
       ·cases hj) asN (by rw[hol,hz1]) row
      have fr:∀b,(∃i,aC (Uf i)=some b)∨(∃j,aC (uN j)=some b)→w'.heap[b]?=w.heap[b]?∧b≠g':=by
       rintro b (⟨i,hb⟩ | ⟨j,hb⟩)
       ·have o1:=(ap7 b (bg.2 (.inr ⟨i,hb⟩))).2.1;refine⟨gb.block b o1 λhh=>nb1 i b hb hh.symm,?_⟩
        rintro rfl;rcases c6 with c6 | c6
        ·exact nb1 i b hb c6
        ·omega
       ·have o1:=(aj3 b (bg.2 (.inr ⟨j,hb⟩))).2.1;refine⟨gb.block b o1 λhh=>apart b (bg.2 (.inl hh.symm)) (bg.2 (.inr ⟨j,hb⟩)),?_⟩
        rintro rfl;rcases c6 with c6 | c6
        ·exact apart b (bg.2 (.inl c6)) (bg.2 (.inr ⟨j,hb⟩))
        ·omega
      have J:=fA.join (w':=w') (g':=g') (jU:=jU) (cur':=cur') (old:=old) (cs:=EX.toList.take (l2.length * oW.size)) D1 D2 k1 (λi j b p q=>apart b (bg.2 (.inr ⟨i,p⟩)) (bg.2 (.inr ⟨j,q⟩))) fr c1 c2 c3 (by rw[hz1];exact c4) hol (by rw[hz1];rw[hz1]at c5;exact c5) el1 el2
      have run:(execOp a.eval o).run P w=.ok (.value (.slice (some ⟨g',0,none⟩) (l1.length+l2.length) jU)) w':=by
       rw[←v0]at r1;simp[execOp,ho,resolve,dA,ha,ht,invoke,builtin,r1]
      have ok1:=ak.ok.forget Xd;have hT1:((eff s.gl s.T).set r2 .gone)[r]?=some (.deep Xa oW l1 t1 e1 Ue xW []):=by rw[lD hrr];exact gu
      have hrl:r < β.length:=(eU.1 hb1).1;have ok2:=ok1.QG (f:=Dj r) (r':=.deep Xa oW (l1++l2) t1 e1 Ue (kV l1.length xW zu) []) (v:=.deep (.slice (some ⟨g',0,none⟩) (l1.length+l2.length) jU) (Bd l1.length Uf uN)) (row:=aC (a.eval x)) (X:=λb=>∃j,aC (uN j)=some b) hT1 rfl hb1 gb (λk e=>bg.2 (.inl e))
       (λb hb=>by
        have hb:(RV.deep (a.eval y) uN).has b:=bg.2 (.inr hb);obtain⟨o1,o2,o3⟩:=aj3 b hb;refine⟨o1,o2,o3,λj' rj vj hj' ej lj jH hbj=>?_⟩
        have hjq:j'≠r2:=by
         rintro rfl;rw[nP (eU.1 Xd).1]at ej;cases ej;cases lj
        rw[lD (Ne.symm hjq)]at ej;exact hjq (ak.ok.inj j' r2 _ _ _ _ b ej lj Xd rfl jH hb2 hbj hb))
       (λb hb=>by
        rw[bg]at hb;rcases hb with hb | ⟨j,hb⟩
        ·rw[bC c3.1]at hb;cases hb;exact c6.elim (λq=>.inl (bg.2 (.inl q))) λq=>.inr (.inr q)
        ·by_cases a1:j < l1.length
         ·rw[kY a1]at hb;exact .inl (bg.2 (.inr ⟨j,hb⟩))
         ·rw[kZ a1]at hb;exact .inr (.inl ⟨_,hb⟩))
       (λx y c=>c.jk _) J
      intro Nx Q next
      rw[if_pos rfl];refine kQ run (next _ _ _ _ _ k (FH.le.refl h) (λhh=>by rw[ho]at hh;simp[quietly,dA]at hh) ((ak.map (f:=Dj r) (T':=dK (mT (Dj r) (dK s.T r2 ([],.gone))) r ([],.deep Xa oW (l1++l2) t1 e1 Ue (kV l1.length xW zu) [])) (β':=β.set r (.deep (.slice (some ⟨g',0,none⟩) (l1.length+l2.length) jU) (Bd l1.length Uf uN))) (FH.le.refl h) (λ_=>rfl) (λx y c=>c.jk _) ?_ ?_).put (eG hd) rfl (λ_=>⟨⟨.deep (.slice (some ⟨g',0,none⟩) (l1.length+l2.length) jU) (Bd l1.length Uf uN),?_,rfl⟩,rfl,rfl⟩) λhh=>by cases hh))
      ·rw[fZ,EU,fZ];exact ok2
      ·intro p' hp';rw[gG]at hp';rcases yL hp' with hp' | hp'
       ·obtain⟨p2,h1,h2⟩:=EW hp';rw[←h2];exact qK ak p2 h1
       ·subst hp';rfl
      ·rw[nP hrl]
     ·exact k.elim
    ·exact k.elim
   ·exact k.elim
  ·exact k.elim
 ·exact k.elim
theorem Zx(hc:cO P cx.ti) (ak:Sat N B h0 s h β w a) (hg:aO cx.gd h) (hd:lZ N o.dst=true){ops:Array Oper}{p:Prop} (e:apP cx s o K=some p) (k:p):gI P N B h0 h w a o (Region.wanted o (yielded ops a.tmps)) K:=by
 unfold apP at e;split at e
 ·cases e
 split at e
 ·cases e
 rename_i hgd;rw[show Region.wanted o (yielded ops a.tmps)=true by simp[Region.wanted,hgd]]
 split at e
 ·rename_i t ps ho;split at e
  ·rename_i x hps;split at e
   ·rename_i q hx;split at e
    ·rename_i tq eq l hTq;cases e;exact Xb hc ak hg hd ho hTq k
    ·cases e
   ·cases e
  ·cases e
 ·rename_i c ho;split at e
  ·rename_i dA;split at e
   ·rename_i x y ha;split at e
    ·rename_i r hx;split at e
     ·rename_i tt fG l1 t1 e1 Ue xW hT;split at e
      ·rename_i r2 hy;split at e
       ·rename_i Xa oW l2 t2 e2 so2 zu hT2;split at e
        ·rename_i t t' ht;split at e
         ·rename_i hb;have hb:t=t':=gK hb;subst hb;cases e;exact Xc hc ak hg hd ho dA (iM ha) (iM ht) hx hT hy hT2 k
         ·cases e
        ·cases e
       ·cases e
      ·cases e
     ·cases e
    ·cases e
   ·cases e
  ·cases e
 ·cases e
theorem Zy(h1:∀t n ps,o.op≠.buildSlice t n ps) (h2:∀c,o.op=.call c→c.callee≠.builtin .append):apP cx s o K=none:=by
 cases hp:apP cx s o K with
 | none=>rfl
 | some p=>
   exfalso;unfold apP at hp;split at hp
   ·cases hp
   split at hp
   ·cases hp
   split at hp
   ·rename_i t ps ho;exact h1 _ _ _ ho
   ·rename_i c ho;split at hp
    ·rename_i dA;exact h2 c ho dA
    ·cases hp
   ·cases hp
@[reducible] def alh (cx:Cx) (s:St) (o:Oper) (K:St→Prop):Option Prop:=match apP cx s o K with
  | some p=>some p
  | none=>match tlP cx s o K with
    | some p=>some p
    | none=>ak8 cx s o K
theorem aff(hc:cO P cx.ti) (ak:Sat N B h0 s h β w a) (hg:aO cx.gd h) (hd:lZ N o.dst=true){ops:Array Oper}{p:Prop} (e:alh cx s o K=some p) (k:p):BZ P N B h0 h w a o (Region.wanted o (yielded ops a.tmps)) K:=by
 unfold alh at e;split at e
 ·rename_i p' hp;cases e;exact(Zx hc ak hg hd hp k).weak
 ·split at e
  ·rename_i p' hp;cases e;exact alf hc ak hg hd hp k
  ·exact afa hc ak hg hd e k
end
end Go.aV
namespace Go.aV
open Go Go.RowKit
@[reducible] def Zz (cx:Cx) (s:St) (d:Option Nat) (t:TypeId) (i:Nat) (lo:Operand) (K:St→Prop):Prop:=iU cx t λel ie sh=>match fD s.T i with
  | some ([],.row tt fG l1)=>match jK (.sl fG) l1 (.sl sh) with
    | some l=>match bU cx s [] lo with
      | some (.one (.c (.v (.int _ n))))=>(0≤n∧n≤l.length)∧K ({ s with T:=dK s.T i ([],.Ia tt sh l n.toNat) }.put d [] (.one (.c (.sub i 0))))
      | _=>False
    | none=>False
  | _=>False
@[reducible] def ZA (cx:Cx) (s:St) (d:Option Nat) (t:TypeId) (i:Nat) (y:Operand) (K:St→Prop):Prop:=iU cx t λel ie sh=>match fD s.T i with
  | some ([],.Ia tt fG l1 off)=>match jK (.sl fG) l1 (.sl sh) with
    | some l=>match bU cx s [] y with
      | some (.one v)=>match Qq s sh v with
        | some l2=>K ({ s with T:=dK (mT (vk i) s.T) i ([],.row tt sh (l.take off++(l2.take (l.length - off)++(l.drop off).drop l2.length))),env:=zo (vk i) s.env }.put d [] (vI .i64 (Nat.min l2.length (l.length - off))))
        | none=>False
      | _=>False
    | none=>False
  | _=>False
@[reducible] def ZB (cx:Cx) (s:St) (d:Option Nat) (t:TypeId) (fG:Sh) (x1:fG.den) (K:St→Prop):Prop:=iU cx t λel ie sh=>match jK fG x1 sh with
  | some x=>match Nat.ble ie.size 16777216 with
    | true=>K ({ s with T:=snoc s.T ([],.row el sh [x]) }.put d [] (.one (.c (.row (aS s.T)))))
    | false=>False
  | none=>False
@[reducible] def rtP (cx:Cx) (s:St) (o:Oper) (K:St→Prop):Option Prop:=match cx.rt with
  | false=>none
  | true=>match o.guard with
    | some _=>none
    | none=>match o.op with
      | .buildSlice t 1 ps=>match tl ps with
        | [(0,x)]=>match bU cx s [] x with
          | some (.one (.dat fG x1))=>some (ZB cx s o.dst t fG x1 K)
          | _=>none
        | _=>none
      | .slice t x (some lo) none none=>match bU cx s [] x with
        | some (.one (.c (.row i)))=>match fD s.T i with
          | some ([],.row _ _ _)=>some (Zz cx s o.dst t i lo K)
          | _=>none
        | _=>none
      | .call c=>match c.callee with
        | .builtin .copy=>match tl c.args with
          | [x,y]=>match bU cx s [] x with
            | some (.one (.c (.sub i 0)))=>match fD s.T i with
              | some ([],.Ia _ _ _ _)=>match tl c.argTypes with
                | [t,_]=>some (ZA cx s o.dst t i y K)
                | _=>none
              | _=>none
            | _=>none
          | _=>none
        | _=>none
      | _=>none
section
variable {cx:Cx}{P:Program}{N:Nat}{B:Base}{h0:FH}{s:St}{h:FH}{β:List RV}{w:World}{a:Act}{o:Oper}{K:St→Prop}
theorem eH.js2{h:FH}{β:List RV}{i:Nat}{v:Value}{us:Nat→Value} (hu:β[i]?=some (.deep v us)){x:SC}{y:Value} (c:eH h β x y):eH h (β.set i (.row v)) (vk i x) y:=by
 unfold vk;split
 ·rename_i hf;cases x with
  | v _=>exact c
  | sl _ _=>exact c
  | fp _ _=>exact c
  | one _ _=>exact c
  | abs _=>exact c
  | junk=>trivial
  | own j off=>
    obtain⟨b,e,e'⟩:=c;refine⟨b,?_,e'⟩;rw[dV hu,if_neg]
    ·exact e
    ·rintro rfl;rw[hu]at e;cases e
  | row j=>
    obtain⟨z,e,e'⟩:=c
    by_cases hj:j=i
    ·subst hj;rw[hu]at e;cases e;exact⟨.row v,by rw[dV hu,if_pos rfl],e'⟩
    ·exact⟨z,by rw[dV hu,if_neg hj];exact e,e'⟩
  | kF j k sz off=>
    obtain⟨z,g,e,e',e2⟩:=c
    by_cases hj:j=i
    ·subst hj;rw[hu]at e;cases e;exact⟨.row v,g,by rw[dV hu,if_pos rfl],e',e2⟩
    ·exact⟨z,g,by rw[dV hu,if_neg hj];exact e,e',e2⟩
  | sub j k=>
    obtain⟨z,uN,e,e'⟩:=c;exact⟨z,uN,by rw[dV hu,if_neg (QF hf)];exact e,e'⟩
  | l9 j k m sz off=>
    obtain⟨z,uN,g,e,e'⟩:=c;exact⟨z,uN,g,by rw[dV hu,if_neg (QF hf)];exact e,e'⟩
 ·trivial
theorem eH.js3{h:FH}{β:List RV}{i:Nat}{v:Value}{us:Nat→Value} (hu:β[i]?=some (.row v)){x:SC}{y:Value} (c:eH h β x y):eH h (β.set i (.deep v us)) x y:=by
 cases x with
 | v _=>exact c
 | sl _ _=>exact c
 | fp _ _=>exact c
 | one _ _=>exact c
 | abs _=>exact c
 | junk=>trivial
 | own j off=>
   obtain⟨b,e,e'⟩:=c;refine⟨b,?_,e'⟩;rw[dV hu,if_neg]
   ·exact e
   ·rintro rfl;rw[hu]at e;cases e
 | row j=>
   obtain⟨z,e,e'⟩:=c
   by_cases hj:j=i
   ·subst hj;rw[hu]at e;cases e;exact⟨.deep v us,by rw[dV hu,if_pos rfl],e'⟩
   ·exact⟨z,by rw[dV hu,if_neg hj];exact e,e'⟩
 | kF j k sz off=>
   obtain⟨z,g,e,e',e2⟩:=c
   by_cases hj:j=i
   ·subst hj;rw[hu]at e;cases e;exact⟨.deep v us,g,by rw[dV hu,if_pos rfl],e',e2⟩
   ·exact⟨z,g,by rw[dV hu,if_neg hj];exact e,e',e2⟩
 | sub j k=>
   obtain⟨z,uN,e,e'⟩:=c;refine⟨z,uN,?_,e'⟩;rw[dV hu,if_neg]
   ·exact e
   ·rintro rfl;rw[hu]at e;cases e
 | l9 j k m sz off=>
   obtain⟨z,uN,g,e,e'⟩:=c;refine⟨z,uN,g,?_,e'⟩;rw[dV hu,if_neg]
   ·exact e
   ·rintro rfl;rw[hu]at e;cases e
theorem mid(l:List SC):fE (λx=>x) l=l:=by
 induction l with
 | nil=>rfl
 | cons x l ih=>simp[fE,ih]
theorem asO(e:aT):mE (λx=>x) e=e:=by
 have m2:∀x:SV,mV (λx=>x) x=x:=by intro x;cases x<;>simp[mV,mid]
 cases e with
 | one x=>simp[mE,m2]
 | gX xs=>
   have:∀l:List SV,fE (mV λx=>x) l=l:=by
    intro l
    induction l with
    | nil=>rfl
    | cons x l ih=>simp[fE,ih,m2]
   simp[mE,this]
theorem Xe(hc:cO P cx.ti) (ak:Sat N B h0 s h β w a) (hg:aO cx.gd h) (hd:lZ N o.dst=true){t:TypeId}{x lo:Operand} (ho:o.op=.slice t x (some lo) none none)
 {i:Nat} (hx:bU cx s [] x=some (.one (.c (.row i)))) (k:Zz cx s o.dst t i lo K):gI P N B h0 h w a o (gv s.gl []) K:=by
 have tr:gv s.gl []=true:=rfl;unfold Zz iU at k;split at k
 ·rename_i el hde;have hu:=bQ hc hde (by simp)
  split at k
  ·exact k.elim
  rename_i ie hie;have tie:=hc.get hie;split at k
  ·exact k.elim
  rename_i sh hsh;split at k
  ·rename_i hz;rw[aF,aF,A8,A8]at hz;have hz1:sh.size=ie.size:=gK hz.1;split at k
   ·rename_i tt fG l1 hT;split at k
    ·rename_i l hl;obtain⟨e1,e2⟩:=oZ hl;subst e1;simp only at e2;subst e2;split at k
     ·rename_i ik n hn;have eh:a.eval lo=.int ik n:=(aQ ak hg tr hn:dJ h β (.c (.v (.int ik n))) (a.eval lo)).1.1;obtain⟨⟨b1,b2⟩,q⟩:=k;have cr:=(aQ ak hg tr hx:dJ h β (.c (.row i)) (a.eval x));have gu:=bJ hT tr;have hβ:=ak.ok.row_of gu cr.1;have lF:mM h w tt fG l1 (a.eval x):=ak.ok.holds i _ _ gu hβ;have hi':i < β.length:=(eU.1 hβ).1;obtain⟨ad,cap,ev,hle⟩:∃(ad:Option Addr) (cap:Nat),a.eval x=.slice ad l1.length cap∧l1.length≤cap:=by
       rcases lF with⟨e,e0⟩ | ⟨ra,e,e0⟩ | ⟨g,cap,cur,e,q1,q2,_⟩
       ·exact⟨none,0,by rw[e,e0];rfl,by rw[e0];simp⟩
       ·exact⟨some ra,0,by rw[e,e0];rfl,by rw[e0];simp⟩
       ·exact⟨_,cap,e,q2⟩
      have run:(execOp a.eval o).run P w=.ok (.value (.slice (if cap=n.toNat then ad else ad.map (·.add (n.toNat * ie.size))) (l1.length - n.toNat) (cap - n.toNat))) w:=by
       have:=oV (P:=P) (w:=w) (isS:=true) (len:=l1.length) (cap:=cap) (lo:=some (.int ik n)) (hi:=none) (a:=n) (b:=l1.length) (.inr ⟨ik,rfl⟩) (.inl ⟨rfl,rfl⟩) (by omega) hle
       have r2:(Instr.sliceAt t (a.eval x) (some (.int ik n)) none none).run P w=.ok (.slice (if cap=n.toNat then ad else ad.map (·.add (n.toNat * ie.size))) (l1.length - n.toNat) (cap - n.toNat)) w:=by
        rw[ev];simp only[Instr.sliceAt,Instr.slice,Sem.run_bind,run_underlying hu,Result.andThen_ok,this,run_sizeOf tie,Sem.run_pure,Ya]
       simp only[execOp,ho,Sem.run_bind,aeH,L8,eh];rw[r2];rfl
      rw[←hz1]at run;have hold:Ei h w tt fG l1 n.toNat (a.eval x) (λ_=>.slice (if cap=n.toNat then ad else ad.map (·.add (n.toNat * fG.size))) (l1.length - n.toNat) (cap - n.toNat)):=⟨lF,by omega,ad,cap,ev,hle,rfl⟩
      generalize hus:(λ_:Nat=>Value.slice (if cap=n.toNat then ad else ad.map (·.add (n.toNat * fG.size))) (l1.length - n.toNat) (cap - n.toNat))=us at hold
      have h0':us 0=.slice (if cap=n.toNat then ad else ad.map (·.add (n.toNat * fG.size))) (l1.length - n.toNat) (cap - n.toNat):=by rw[←hus]
      rw[←h0']at run;have asP:dO (us 0):=by rw[h0'];exact⟨rfl,rfl⟩
      have hC:∀x' y,eH h β x' y→eH h (β.set i (.deep (a.eval x) us)) x' y:=λ_ _ c=>c.js3 hβ
      have aY:Sat N B h0 { s with T:=dK s.T i ([],.Ia tt fG l1 n.toNat) } h (β.set i (.deep (a.eval x) us)) w a:=by
       refine⟨?_,?_,ak.gs,ak.defers,ak.sz,ak.gb,qK ak⟩
       ·show OK B h0 (eff s.gl (dK s.T i ([],.Ia tt fG l1 n.toNat))) h _ w;rw[xM];have:=ak.ok.QG (f:=λx=>x) (r':=.Ia tt fG l1 n.toNat) (v:=.deep (a.eval x) us) (row:=none) (X:=λ_=>False) gu rfl hβ (dD w none) (λk e=>by cases e) (λb hb=>hb.elim)
         (λb hb=>by
          rw[bg]at hb;rcases hb with hb | ⟨j,hb⟩
          ·exact .inl (bF.2 hb)
          ·exact .inl (bF.2 (hold.blk hb))) hC hold
        rwa [show(eff s.gl s.T).map (mR λx=>x)=eff s.gl s.T by rw[show(mR λx=>x)=id from funext ajZ];simp]at this
       ·intro t' G e' ht;obtain⟨z,q1,q2,q3⟩:=ak.env t' G e' ht;refine⟨z,q1,λhG=>?_,q3⟩
        have:=kC.map (f:=λx=>x) (FH.le.refl h) hC (q2 hG)
        rwa [asO]at this
      intro Nx Q next
      rw[if_pos tr];refine kQ run (next _ _ _ _ _ q (FH.le.refl h) (λ_=>nS.refl w) (aY.put (G:=[]) (e:=.one (.c (.sub i 0))) (eG hd) rfl (λ_=>⟨?_,asP⟩) λhh=>by cases hh))
      refine⟨a.eval x,us,?_,rfl⟩;rw[nP hi']
     ·exact k.elim
    ·exact k.elim
   ·exact k.elim
  ·exact k.elim
 ·exact k.elim
theorem Xf{dT sT ty el:TypeId}{i:TI} (k:aP P el i) (hu:P.underlying dT=some (.slice el)){g go dLen dCap:Nat}{b:Addr}{sLen sCap:Nat}{cur:Array Value}{t:TypeId}{cs:List Value}
 (hg:w.heap[g]?=some (.cells cur t (0,0))) (hn:cs.length=Nat.min sLen dLen * i.size) (hsrc:∀j v,cs[j]?=some v→w.cell? (b.add j)=some v) (hfit:go+cs.length≤cur.size) (h1:∀v∈cs,v.oneCell'=true):
 (Builtin.copy_ #[dT,sT] ty #[.slice (some ⟨g,go,none⟩) dLen dCap,.slice (some b) sLen sCap]).run P w=.ok (goInt (Nat.min sLen dLen)) (w.setRow g (cur.toList.take go++cs++cur.toList.drop (go+cs.length)).toArray):=by
 have hl:=run_loadCells_list (P:=P) w b cs hsrc;have hst:=run_storeCells_at P g go t cs 0 cur w hg (by simpa using hfit) h1
 simp only[P8,XW]at hst;simp[Builtin.copy_,run_underlying hu,Builtin.lenOf,Builtin.firstCells,run_sizeOf k,←hn,hl,hst]
theorem Xg(hc:cO P cx.ti) (ak:Sat N B h0 s h β w a) (hg:aO cx.gd h) (hd:lZ N o.dst=true){t t':TypeId}{x y:Operand}{c:Call} (ho:o.op=.call c) (dA:c.callee=.builtin .copy) (ha:c.args=#[x,y]) (hat:c.argTypes=#[t,t'])
 {i:Nat} (hx:bU cx s [] x=some (.one (.c (.sub i 0)))) (k:ZA cx s o.dst t i y K):gI P N B h0 h w a o (gv s.gl []) K:=by
 have tr:gv s.gl []=true:=rfl;unfold ZA iU at k;split at k
 ·rename_i el hde;have hu:=bQ hc hde (by simp)
  split at k
  ·exact k.elim
  rename_i ie hie;have tie:=hc.get hie;split at k
  ·exact k.elim
  rename_i sh hsh;split at k
  ·rename_i hz;rw[aF,aF,A8,A8]at hz;have hz1:sh.size=ie.size:=gK hz.1;split at k
   ·rename_i tt fG l1 off hT;split at k
    ·rename_i l hl;obtain⟨e1,e2⟩:=oZ hl;subst e1;simp only at e2;subst e2;split at k
     ·rename_i v hv;split at k
      ·rename_i l2 hl2;obtain⟨⟨v0,us,hb,e0⟩,_⟩:=(aQ ak hg tr hx:dJ h β (.c (.sub i 0)) (a.eval x));have cv:=aQ ak hg tr hv;have gu:=bJ hT tr;have hold:Ei h w tt fG l1 off v0 us:=ak.ok.holds i _ _ gu hb;have src:=Dk ak hl2 cv;obtain⟨lF,hoff,ad,cap,ev,hle,eus⟩:=hold;have ex:a.eval x=.slice (if cap=off then ad else ad.map (·.add (off * fG.size))) (l1.length - off) (cap - off):=by rw[←e0,eus]
       generalize hR:(l1.take off++(l2.take (l1.length - off)++(l1.drop off).drop l2.length))=l' at k;have exec:∀{w':World},(Builtin.copy_ #[t,t'] o.type #[a.eval x,a.eval y]).run P w=.ok (goInt (Nat.min l2.length (l1.length - off))) w'→(execOp a.eval o).run P w=.ok (.value (goInt (Nat.min l2.length (l1.length - off)))) w':=by
        intro w' r0;simp only[execOp,ho,resolve,dA,ha,hat,invoke,builtin,Sem.run_bind,Sem.run_pure,Result.andThen_ok];simp[r0]
       have fin:∀{w':World}{row:Option Nat},Gb w w' row→(∀k,row=some k→aC v0=some k)→(Builtin.copy_ #[t,t'] o.type #[a.eval x,a.eval y]).run P w=.ok (goInt (Nat.min l2.length (l1.length - off))) w' →
        mM h w' tt fG l' v0→gI P N B h0 h w a o (gv s.gl []) K:=by
        intro w' row hgr hrw r0 hr;have hC:∀x' y',eH h β x' y'→eH h (β.set i (.row v0)) (vk i x') y':=λ_ _ c=>c.js2 hb
        have ok:OK B h0 (eff s.gl (dK (mT (vk i) s.T) i ([],.row tt fG l'))) h (β.set i (.row v0)) w':=by
         rw[fZ,EU];exact ak.ok.QG (f:=vk i) (r':=.row tt fG l') (v:=.row v0) (X:=λ_=>False) gu rfl hb hgr (λk e=>bg.2 (.inl (hrw k e))) (λb hb=>hb.elim) (λb hb=>.inl (bg.2 (.inl (bF.1 hb)))) hC hr
        have gT:∀p∈dK (mT (vk i) s.T) i ([],aj.row tt fG l'),vU s.gl.length p.1=true:=by
         intro p hp;rw[gG]at hp;rcases yL hp with hp | hp
         ·obtain⟨q,q1,q2⟩:=EW hp;rw[←q2];exact ak.gT q q1
         ·subst hp;rfl
        exact nC ak k rfl (by rw[ho];simp[quietly,dA]) (.inl (exec r0)) (FH.le.refl h) ((ak.map (FH.le.refl h) (λ_=>by rfl) hC ok gT).put (G:=[]) (e:=vI .i64 (Nat.min l2.length (l1.length - off))) (eG hd) rfl (λ_=>⟨⟨rfl,bT _ _⟩,bT _ _⟩) λhh=>by cases hh)
       have zero:∀(ab:Option Addr) (sC:Nat),a.eval y=.slice ab l2.length sC→(l1.length - off=0∨l2=[])→gI P N B h0 h w a o (gv s.gl []) K:=by
        intro ab sC ey h0';have hm:Nat.min l2.length (l1.length - off)=0:=by rcases h0' with e | e<;>simp[e]
        refine fin (dD w none) (λk e=>by cases e) ?_ ?_
        ·rw[hm,ex,ey];exact Iq tie hu hm
        ·have:l'=l1:=by
          rw[←hR];rcases h0' with e | e
          ·rw[e,Yj,H9 (by omega:l1.length≤off),tZ (by omega)];simp
          ·subst e;simp
         rw[this];exact lF
       have ey0:∃(ab:Option Addr) (sC:Nat),a.eval y=.slice ab l2.length sC:=by
        rcases src with⟨s1,s2⟩ | ⟨sa,sc,s1,s2⟩ | ⟨sb,so,sc,cs,s1,s2,s3⟩
        ·exact⟨none,0,by rw[s1,s2];rfl⟩
        ·exact⟨some sa,sc,by rw[s1,s2];rfl⟩
        ·exact⟨_,sc,s1⟩
       obtain⟨ab0,sC0,ey0⟩:=ey0
       by_cases hz0:l1.length - off=0
       ·exact zero _ _ ey0 (.inl hz0)
       by_cases hz2:l2=[]
       ·exact zero _ _ ey0 (.inr hz2)
       rcases lF with⟨e1,e2⟩ | ⟨ra,e1,e2⟩ | ⟨g,jU,cur,e1,q1,q2,q3,q4,q5⟩
       ·rw[e2]at hz0;simp at hz0
       ·rw[e2]at hz0;simp at hz0
       rcases src with⟨s1,s2⟩ | ⟨sa,sc,s1,s2⟩ | ⟨sb,so,sc,cs,s1,s2,s3⟩
       ·exact absurd s2 hz2
       ·exact absurd s2 hz2
       rw[e1]at ev;injection ev with ev1 ev2 ev3
       subst ev1;subst ev3;rw[if_neg (by omega)]at ex
       simp only[L8,add_lit,XW]at ex;have hcs:=gy.size (λ_ _=>Rd.size fG) s2
       have lc:cur.toList.length=jU * fG.size:=by simpa using q4
       have hm1:l1.length * fG.size≤jU * fG.size:=sH _ q2;generalize hm:Nat.min l2.length (l1.length - off)=m at *;have hm2:m≤l2.length:=by rw[←hm];exact Nat.min_le_left _ _
       have hm3:m≤l1.length - off:=by rw[←hm];exact Nat.min_le_right _ _
       have hm4:m * fG.size≤l2.length * fG.size:=sH _ hm2;have hm5:(off+m) * fG.size≤l1.length * fG.size:=sH _ (by omega)
       rw[Td]at hm5;have ht:=gy.uQ (λ_ _=>Rd.size fG) s2 (a:=0) (b:=m) (XY _) hm2
       simp only[P5,X7]at ht;have hlen:(cs.take (m * fG.size)).length=m * fG.size:=by rw[ku];omega
       have r0:=Xf (P:=P) (w:=w) (dT:=t) (sT:=t') (ty:=o.type) tie hu (g:=g) (go:=off * fG.size) (dLen:=l1.length - off) (dCap:=jU - off) (b:=⟨sb,so,none⟩) (sLen:=l2.length) (sCap:=sc) (cs:=cs.take (m * fG.size)) q1 (by rw[hlen,hm,hz1]) (λj v hj=>by
        rw[uD]at hj;split at hj
        ·have:=s3 j v hj;have ea:(⟨sb,so,none⟩:Addr).add j=⟨sb,so+j,none⟩:=by unfold Addr.add;split<;>simp_all
         rw[ea];exact this
        ·cases hj) (by rw[hlen];rw[←PV,lc];omega) (λv hv=>(gy.all (λ_ _=>Rd.one fG) ht v hv).2)
       rw[hm]at r0;refine fin (row:=some g) (jv w g _) (λk e=>by cases e;rw[e1];exact bC q3.1) (by rw[ex,s1];exact r0) ?_
       have el:l'=l1.take off++l2.take m++l1.drop (off+m):=by
        rw[←hR,uO]
        congr 1
        rcases Nat.le_total l2.length (l1.length - off) with hh | hh
        ·have:m=l2.length:=by rw[←hm];exact AB hh
         rw[this,tZ hh,tZ (Eb _),Yk]
        ·have:m=l1.length - off:=by rw[←hm];exact Nat.min_eq_right hh
         rw[this,Yk,H9 (by omega),H9 (by omega)]
       rw[el];have ll:(l1.take off++l2.take m++l1.drop (off+m)).length=l1.length:=by simp only[kD,ku,xB];omega
       refine .inr (.inr ⟨g,jU,_,by rw[ll];exact e1,setRow_heap w g _ _ tt (0,0) q1,by rw[ll];exact q2,q3,?_,?_⟩)
       ·simp only[oI,kD,ku,xB,lc,hlen];omega
       ·rw[ll];have p1:=(gy.split (λ_ _=>Rd.size fG) (l:=l1.take off) (l':=l1.drop off) (by rw[Ef];exact q5)).1
        have p2:=(gy.split (λ_ _=>Rd.size fG) (l:=l1.take (off+m)) (l':=l1.drop (off+m)) (by rw[Ef];exact q5)).2
        have h3:=(p1.append ht).append p2;have k1:(l1.take off).length=off:=by rw[ku];omega
        have k2:(l1.take (off+m)).length=off+m:=by rw[ku];omega
        rw[k1,k2,Td]at h3;have e3:List.take (l1.length * fG.size) (List.take (off * fG.size) cur.toList++cs.take (m * fG.size)++List.drop (off * fG.size+(cs.take (m * fG.size)).length) cur.toList)=List.take (off * fG.size) (List.take (l1.length * fG.size) cur.toList)++cs.take (m * fG.size)++List.drop (off * fG.size+m * fG.size) (List.take (l1.length * fG.size) cur.toList):=by
         rw[hlen];apply yJ;intro p;simp only[VO,uD,Dc,ku,kD,lc]
         repeat' split
         all_goals first | rfl | omega | (congr 1;omega) | (exfalso;omega) | skip
        simp only at e3 ⊢;rw[e3];exact h3
      ·exact k.elim
     ·exact k.elim
    ·exact k.elim
   ·exact k.elim
  ·exact k.elim
 ·exact k.elim
theorem Nv{h:FH}{β:List RV}:∀{cs:List Value},(∀v∈cs,dO v)→aW (λx y=>eH h β x y∧dO y) (cs.map SC.v) cs
 | [],_=>trivial
 | c :: cs,f=>⟨⟨⟨rfl,f c (by simp)⟩,f c (by simp)⟩,Nv λv hv=>f v (by simp[hv])⟩
theorem Nw{h:FH}{β:List RV}:∀{cs zs:List Value},aW (λx y=>eH h β x y∧dO y) (cs.map SC.v) zs→zs=cs
 | [],[],_=>rfl
 | c :: cs,z :: zs,⟨⟨c1,_⟩,a⟩=>by rw[Nw a,c1.1]
theorem Xh(hc:cO P cx.ti) (ak:Sat N B h0 s h β w a) (hg:aO cx.gd h) (hd:lZ N o.dst=true){t:TypeId}{parts:Array (Nat×Operand)} (ho:o.op=.buildSlice t 1 parts)
 {x:Operand} (hp:tl parts=[(0,x)]){fG:Sh}{x1:fG.den} (hx:bU cx s [] x=some (.one (.dat fG x1))) (k:ZB cx s o.dst t fG x1 K):gI P N B h0 h w a o (gv s.gl []) K:=by
 have tr:gv s.gl []=true:=rfl;unfold ZB iU at k;split at k
 ·rename_i el hde;have hu:=bQ hc hde (by simp)
  split at k
  ·exact k.elim
  rename_i ie hie;have tie:=hc.get hie;split at k
  ·exact k.elim
  rename_i sh hsh;split at k
  ·rename_i hz;rw[aF,aF,A8,A8]at hz;have hz1:sh.size=ie.size:=gK hz.1;have hz2:1≤ie.size:=qP hz.2.2;split at k
   ·rename_i y hy;obtain⟨e1,e2⟩:=kP hy;subst e1;simp only at e2;subst e2;split at k
    ·rename_i hbl;have hsz1:ie.size≤16777216:=qP hbl;refine lK ak (G:=[]) rfl hd k λhgv=>?_
     obtain⟨_,cs,ey,rd⟩:=(aQ ak hg tr hx:dJ h β (.dat fG x1) (a.eval x));have hl:cs.length=fG.size:=Rd.size fG rd;have h1:=Rd.one fG rd;have htl:(parts.map λ(p:Nat×Operand)=>(p.1,a.eval p.2)).toList=[(0,a.eval x)]:=by
      have:(parts.map λ(p:Nat×Operand)=>(p.1,a.eval p.2)).toList=(tl parts).map λp=>(p.1,a.eval p.2):=by cases parts;simp
      rw[this,hp];rfl
     have hf:uS (λj=>some (j * ie.size,ie.size)) ((iP 1 ie.zero).map SC.v) [(0,.agg (cs.map SC.v))]=some (cs.map SC.v):=by
      have e1:(iP 1 ie.zero)=ie.zero:=by simp[iP,fV]
      rw[e1];unfold uS yX ou;simp only[P5,aF,bH,A87,XW];rw[show Nat.beq cs.length ie.size=true by rw[hl,hz1];exact Nat.beq_refl _,show Nat.ble ie.size ie.zero.length=true by rw[tie.qc];exact A75 (Eb _)]
      simp only[Bool.and_self];unfold uS WE;rw[show qV 0 (ie.zero.map SC.v)=[] by simp[jQ],fV,fV,bH,qW,A87]
      rw[H9 (by rw[A87,tie.qc];omega)]
      simp
     rw[←Df SC.v (iP 1 ie.zero)]at hf;obtain⟨zs,g1,g2⟩:=ru (h:=h) (β:=β) (parts:=[(0,.agg (cs.map SC.v))]) (vals:=[(0,a.eval x)]) ⟨⟨rfl,cs,ey,Nv h1⟩,trivial⟩ (iw λv hv=>tie.zone v (y7 hv)) hf
     have ez:=Nw g2;subst ez;have hz0:0 < ie.zero.length:=by rw[tie.qc];omega
     obtain⟨z,hz1',hz2'⟩:=uT tie w;have hc1:((Array.range (1 * ie.size)).map (λi=>z.cells[i % z.cells.size]!))=(iP 1 ie.zero).toArray:=by
      rw[hz2',←tie.qc];exact rD hz0
     refine⟨.slice (some ⟨w.heap.size,0,none⟩) 1 1,w.alloc (.cells zs.toArray el),.row (.slice (some ⟨w.heap.size,0,none⟩) 1 1),?_,oQ _ _ _,?_,?_,?_⟩
     ·have hbig:¬(1 * ie.size > 2 ^ 24):=by omega
      have h0:¬1 * ie.size=0:=by omega
      simp only[execOp,ho,Instr.buildSlice,Sem.run_bind,run_underlying hu,Result.andThen_ok,run_sizeOf tie,hbig,aeJ,Sem.run_ite,Sem.run_pure,h0,hz1'];rw[htl,hc1,g1];simp only[Sem.run_bind,newRow,run_newObj,Result.andThen_ok,Sem.run_pure];rfl
     ·intro b hb;rw[bF]at hb;simp[aC]at hb;obtain⟨_,rfl⟩:=hb;simp
     ·refine .inr (.inr ⟨w.heap.size,1,zs.toArray,rfl,nD _ _,Eb _,⟨Eb _,by simp[maxLen]⟩,by simp only[oI];omega,?_⟩)
      rw[tZ (by simp;omega)]
      exact⟨zs,[],by simp,rd,rfl⟩
     ·exact⟨⟨_,kR (lM ak) _,rfl⟩,rfl,rfl⟩
    ·exact k.elim
   ·exact k.elim
  ·exact k.elim
 ·exact k.elim
theorem ZC(hc:cO P cx.ti) (ak:Sat N B h0 s h β w a) (hg:aO cx.gd h) (hd:lZ N o.dst=true){ops:Array Oper}{p:Prop} (e:rtP cx s o K=some p) (k:p):gI P N B h0 h w a o (Region.wanted o (yielded ops a.tmps)) K:=by
 have hw:∀{b:Bool},o.guard=none→gI P N B h0 h w a o (gv s.gl []) K→gI P N B h0 h w a o (Region.wanted o (yielded ops a.tmps)) K:=by
  intro b hgd x;have:Region.wanted o (yielded ops a.tmps)=true:=by unfold Region.wanted;rw[hgd]
  rw[this];exact x
 unfold rtP at e;split at e
 ·cases e
 split at e
 ·cases e
 rename_i hgd;split at e
 ·rename_i t ps ho;split at e
  ·rename_i x hps;split at e
   ·rename_i fG x1 hx;cases e;exact hw (b:=true) hgd (Xh hc ak hg hd ho hps hx k)
   ·cases e
  ·cases e
 ·rename_i t x lo ho;split at e
  ·rename_i i hx;split at e
   ·cases e;exact hw (b:=true) hgd (Xe hc ak hg hd ho hx k)
   ·cases e
  ·cases e
 ·rename_i c ho;split at e
  ·rename_i dA;split at e
   ·rename_i x y ha;split at e
    ·rename_i i hx;split at e
     ·split at e
      ·rename_i t t' ht;cases e;exact hw (b:=true) hgd (Xg hc ak hg hd ho dA (iM ha) (iM ht) hx k)
      ·cases e
     ·cases e
    ·cases e
   ·cases e
  ·cases e
 ·cases e
end
end Go.aV
namespace Go.aV
open Go Go.RowKit
def Wd(F:Fence):Prop:=F=Fence.wide∨∃l,F=Fence.wide.inRound l
theorem Wd.fn{F:Fence} (h:Wd F) (f:FuncId):F.fn f:=by rcases h with rfl | ⟨l,rfl⟩<;>trivial
theorem Wd.depth{F:Fence} (h:Wd F):F.depth=none:=by rcases h with rfl | ⟨l,rfl⟩<;>rfl
theorem Wd.calls{F:Fence} (hF:Wd F){n:Nat}{P:Program}{f:FuncId}{args:Array Value}{w:World}{R:Ending→World→Prop} (h:Calls P f args w R):CallsIn F n P f args w R:=by
 rcases hF with rfl | ⟨l,rfl⟩
 ·exact callsIn_wide.2 h
 ·exact(callsIn_wide.2 h:CallsIn Fence.wide n P f args w R).inRound l
@[reducible] def J4:Op→Bool
  | .defer _=>false
  | _=>true
@[reducible] def Dn:List Oper→Bool
  | []=>true
  | o :: l=>dL (J4 o.op) (Dn l)
section
variable {F:Fence}{n:Nat}{P:Program}{ops:Array Oper}{md:Region.Mode}
theorem Ny(hF:Wd F){o:Oper} (hd:J4 o.op=true){a:Act}{w:World}{Nx:Act→World→Prop}{Q Q':Exit→Act→World→Prop} (h:o.wp P a w Nx JM):o.wpIn F n P a w Nx Q':=by
 refine⟨λf _=>hF.fn f,?_⟩
 rw[Oper.semAt_eq _ _ _ (λc hc=>by rw[hc]at hd;cases hd)]
 unfold Oper.wp at h;generalize (execOp a.eval o).run P w=r at *;cases r with
 | ok m w'=>
   cases m<;>simp only[Oper.upon]at h<;>simp only[Oper.uponIn]
   case enter f args=>
    refine⟨λhh=>(by rw[hF.depth]at hh;cases hh),hF.calls (h.mono λe w'' he=>?_)⟩
    cases e with
    | returned v=>exact he
    | panicked c=>exact False.elim he
    | outgrown=>exact xQ he
   case row row args=>
    refine⟨λhh=>(by rw[hF.depth]at hh;cases hh),λc cs _=>?_⟩
    obtain⟨v,w'',hr,hs⟩:=h c cs;refine⟨v,w'',hr,?_⟩;have:StepsIn (Machine.fenced P Fence.wide) P (lone (Frame.ofRow P row args .normal) (c :: cs) w') (lone (c.finish v) cs w''):=stepsIn_wide.2 hs;rcases hF with rfl | ⟨l,rfl⟩
    ·exact this
    ·exact this
   all_goals first | exact h | exact h.elim
 | halt x w'=>cases x<;>simp only[Oper.upon]at h<;>first | exact h.elim | exact False.elim h
def wpL(P:Program) (ops:Array Oper) (R:Act→World→Prop):List Oper→Act→World→Prop
 | [],a,w=>R a w
 | o :: rest,a,w=>if Region.wanted o (yielded ops a.tmps)=true then o.wp P a w (wpL P ops R rest) JM else wpL P ops R rest (a.put o.dst undef) w
theorem QK(hF:Wd F){R:Act→World→Prop}{Q:Exit→Act→World→Prop} (hR:∀a w,R a w→Q .normal a w):∀(l:List Oper) (k:Nat) (a:Act) (w:World),(∀j,l[j]?=ops[k+j]?)→Dn l=true→wpL P ops R l a w →
 wpOpsIn F n P ops Q (List.range' k l.length) a w
 | [],k,a,w,_,_,h=>hR _ _ h
 | o :: l,k,a,w,hl,hn,h=>by
   have h0:ops[k]?=some o:=by simpa using(hl 0).symm
   simp only[Dn,aF,A8]at hn;have ih:∀a w,wpL P ops R l a w→wpOpsIn F n P ops Q (List.range' (k+1) l.length) a w:=λa w=>QK hF hR l (k+1) a w (λj=>by have:=hl (j+1);simpa[PW,Wi 1 j]using this) hn.2
   simp only[yK,List.range'_succ,wpOpsIn,h0];unfold wpL at h;split
   ·rename_i hw;rw[if_pos hw]at h;exact Oper.wpIn_mono ih (Ny (Q:=Q) hF hn.1 h)
   ·rename_i hw;rw[if_neg hw]at h;exact⟨λf _=>hF.fn f,ih _ _ h⟩
theorem QL(hF:Wd F){R:Act→World→Prop}{Q:Exit→Act→World→Prop} (hR:∀a w,R a w→Q .normal a w){id:Nat}{a:Act}{w:World} (hn:Dn ops.toList=true) (h:wpL P ops R ops.toList a w):(Code.region id ops false).wpIn F n P Q a w:=
 wpIn_region (by
  have:=QK (n:=n) hF hR ops.toList 0 a w (λj=>by simp) hn h
  rw[List.range_eq_range'];simpa using this)
theorem EZ(hn:Dn ops.toList=true){i:Nat}{o:Oper} (h:ops[i]?=some o):J4 o.op=true:=by
 have key:∀{l:List Oper},Dn l=true→o∈l→J4 o.op=true:=by
  intro l
  induction l with
  | nil=>intro _ hm;cases hm
  | cons x l ih=>
    intro hh hm;simp only[Dn,aF,A8]at hh;rcases mX.1 hm with rfl | hm
    ·exact hh.1
    ·exact ih hh.2 hm
 exact key hn (iF (i:=i) (by simpa using h))
theorem ali(hF:Wd F) (hn:Dn ops.toList=true){i:Nat}{K:Act→World→Prop}{Q:Exit→Act→World→Prop}{a:Act}{w:World} (h:Au P ops i K a w):wpOpIn F n P ops Q i K a w:=by
 unfold Au at h;unfold wpOpIn;split
 ·rename_i ho;simpa[ho]using h
 ·rename_i o ho;simp only[ho]at h;split
  ·rename_i hw;rw[if_pos hw]at h;exact Ny (Q:=Q) hF (EZ hn ho) h
  ·rename_i hw;rw[if_neg hw]at h;exact⟨λf _=>hF.fn f,h⟩
theorem J5{sf:Nat→Bool} (hF:Wd F) (hn:Dn ops.toList=true){R:Act→World→Prop}{Q:Exit→Act→World→Prop} (hR:∀a w,R a w→Q .normal a w):∀(fuel:Nat) (listed:Array Bool) (a:Act) (w:World),
 anyI P md ops sf R fuel listed a w→wpAnyIn F n P md ops Q fuel listed a w
 | 0,_,_,_,h=>⟨h.1,hR _ _ h.2⟩
 | fuel+1,_,_,_,h=>⟨λe=>hR _ _ (h.1 e),λi hi=>ali hF hn (Nk (λa w hh=>J5 hF hn hR fuel _ a w hh.2) (h.2 i hi))⟩
theorem afh(hF:Wd F) (hn:Dn ops.toList=true){i:Nat}{w:World}{K:Act→Prop}{K':Act→World→Prop} (hK:∀a,K a→K' a w){Q:Exit→Act→World→Prop}{a:Act} (h:stOp P ops w i K a):wpOpIn F n P ops Q i K' a w:=by
 unfold stOp at h;unfold wpOpIn;split
 ·rename_i ho;simp only[ho]at h;exact hK _ h
 ·rename_i o ho;simp only[ho]at h;split
  ·rename_i hw;rw[if_pos hw]at h;exact Ny (Q:=Q) hF (EZ hn ho) (Oper.wp_of_still hK h)
  ·rename_i hw;rw[if_neg hw]at h;exact⟨λf _=>hF.fn f,hK _ h⟩
theorem Ug(hF:Wd F) (hn:Dn ops.toList=true){w:World}{R:Act→Prop}{Q:Exit→Act→World→Prop} (hR:∀a,R a→Q .normal a w):∀(fuel:Nat) (listed:Array Bool) (a:Act),
 wpAnyS P md ops w R fuel listed a→wpAnyIn F n P md ops Q fuel listed a w
 | 0,_,_,h=>⟨h.1,hR _ h.2⟩
 | fuel+1,_,_,h=>⟨λe=>hR _ (h.1 e),λi hi=>afh hF hn (λa hh=>Ug hF hn hR fuel _ a hh) (h.2 i hi)⟩
theorem zx(hF:Wd F) (hn:Dn ops.toList=true){id:Nat}{Q:Exit→Act→World→Prop}{a:Act}{w:World} (hm:P.follows .mixedOrders=true) (hB:Region.lexB .any ops=true)
 (h:wpStill P ops { w with drawn:=w.drawn+1 } (λa'=>Q .normal a' { w with drawn:=w.drawn+1 }) ops.toList a):(Code.region id ops true).wpIn F n P Q a w:=by
 simp only[Region.lexB,A8]at hB;refine wpIn_region_any hm (Ug (R:=λa'=>Q .normal a' { w with drawn:=w.drawn+1 }) hF hn (λ_ h=>h) _ _ _ ?_)
 have:=wpAnyS_lex (md:=.any) hB.1 ops.toList 0 (Array.replicate ops.size false) a (by simp) (by simpa using hB.2) h
 simpa using this
theorem wpIn_loop_ghost{Q:Exit→Act→World→Prop}{a:Act}{w:World}{c:Code} (I:Nat→Act→World→Prop) (n₀:Nat) (h₀:I n₀ a w)
 (round:∀m a w,I m a w→c.wpIn F n P (Exit.then (λa' w'=>∃n',n' < m∧I n' a' w') Q) a w):(Code.loop c).wpIn F n P Q a w:=by
 refine wpIn_loop (λa w=>∃m,I m a w) (λa w=>leastOf (λm=>I m a w)) ⟨n₀,h₀⟩ ?_
 intro a w hI;refine wpIn_mono (round _ a w (leastOf_spec hI).1) ?_;intro e a' w' hq;cases e with
 | normal=>
   obtain⟨n',iO,hI'⟩:=hq;exact show(∃m,I m a' w')∧leastOf (λm=>I m a' w') < leastOf (λm=>I m a w) from⟨⟨n',hI'⟩,Nat.lt_of_le_of_lt ((leastOf_spec ⟨n',hI'⟩).2 n' hI') iO⟩
 | exit id=>exact hq
 | goto l=>exact hq
 | ret=>exact hq
 | panic ch=>exact hq
 | outgrown=>exact hq
end
end Go.aV
namespace Go.aV
open Go Go.RowKit
section
variable {P:Program}{ops:Array Oper}{md:Region.Mode}{n:Nat}{sf:Nat→Bool}
def qL(P:Program) (n:Nat) (ops:Array Oper) (i:Nat) (K:Act→World→Prop) (a:Act) (w:World):Prop:=
 match ops[i]? with
 | none=>K a w
 | some o=>if Region.wanted o (yielded ops a.tmps)=true then o.uponIn Fence.wide n P a K JM ((execOp a.eval o).run P w) else K (a.put o.dst undef) w
theorem Ir{o:Oper}{a:Act}{K K':Act→World→Prop}{Q':Exit→Act→World→Prop} (h:∀a w,K a w→K' a w){r:Result Next} (hh:o.uponIn Fence.wide n P a K JM r):o.uponIn Fence.wide n P a K' Q' r:=by
 cases r with
 | ok x w'=>
   cases x<;>simp only[Oper.uponIn]at hh ⊢
   case enter f args=>
    refine⟨hh.1,hh.2.mono λe w'' he=>?_⟩
    cases e with
    | returned v=>exact h _ _ he
    | panicked c=>exact False.elim he
    | outgrown=>exact xQ he
   case row r args=>
    exact⟨hh.1,RowsIn.mono hh.2 λv w'' he=>h _ _ he⟩
   case round l f tmps G5 body=>
    refine⟨hh.1,RoundIn.mono hh.2 λe w'' he=>?_⟩
    cases e with
    | returned v=>exact h _ _ he
    | panicked c=>exact False.elim he
    | outgrown=>exact xQ he
   all_goals first | exact h _ _ hh | exact hh.elim
 | halt x w'=>cases x<;>simp only[Oper.uponIn]at hh ⊢<;>exact False.elim hh
theorem Iu{i:Nat}{K K':Act→World→Prop}{a:Act}{w:World} (h:∀a w,K a w→K' a w) (hh:qL P n ops i K a w):qL P n ops i K' a w:=by
 unfold qL at *;split
 ·exact h _ _ (by simpa[*]using hh)
 ·rename_i o ho;simp only[ho]at hh;split
  ·rename_i hw;rw[if_pos hw]at hh;exact Ir h hh
  ·rename_i hw;rw[if_neg hw]at hh;exact h _ _ hh
theorem afi(hn:Dn ops.toList=true){i:Nat}{K:Act→World→Prop}{Q:Exit→Act→World→Prop}{a:Act}{w:World} (h:qL P n ops i K a w):wpOpIn Fence.wide n P ops Q i K a w:=by
 unfold qL at h;unfold wpOpIn;split
 ·rename_i ho;simpa[ho]using h
 ·rename_i o ho;simp only[ho]at h;split
  ·rename_i hw;rw[if_pos hw]at h;refine⟨λf _=>trivial,?_⟩
   rw[Oper.semAt_eq _ _ _ (λc hc=>by have:=EZ hn ho;rw[hc]at this;cases this)]
   exact Ir (λ_ _ hh=>hh) h
  ·rename_i hw;rw[if_neg hw]at h;exact⟨λf _=>trivial,h⟩
theorem aj6(hn:Dn ops.toList=true){i:Nat}{K:Act→World→Prop}{a:Act}{w:World} (h:Au P ops i K a w):qL P n ops i K a w:=by
 unfold Au at h;unfold qL;split
 ·rename_i ho;simpa[ho]using h
 ·rename_i o ho;simp only[ho]at h;split
  ·rename_i hw;rw[if_pos hw]at h;have h2:=(Ny (n:=n) (Q:=JM) (Q':=JM) (.inl rfl:Wd Fence.wide) (EZ hn ho) h).2
   rwa [Oper.semAt_eq _ _ _ (λc hc=>by have:=EZ hn ho;rw[hc]at this;cases this)]at h2
  ·rename_i hw;rw[if_neg hw]at h;exact h
def J6(P:Program) (n:Nat) (md:Region.Mode) (ops:Array Oper) (sf:Nat→Bool) (R:Act→World→Prop):Nat→Array Bool→Act→World→Prop
 | 0,listed,a,w=>Region.ready md ops listed=[]∧R a w
 | fuel+1,listed,a,w=>(Region.ready md ops listed=[]→R a w) ∧
   ∀i∈Region.ready md ops listed,qL P n ops i (λa' w'=>(sf i=true→nS w w')∧J6 P n md ops sf R fuel (listed.setIfInBounds i true) a' w') a w
theorem Uh(hn:Dn ops.toList=true){R:Act→World→Prop}{Q:Exit→Act→World→Prop} (hR:∀a w,R a w→Q .normal a w):∀(fuel:Nat) (listed:Array Bool) (a:Act) (w:World),
 J6 P n md ops sf R fuel listed a w→wpAnyIn Fence.wide n P md ops Q fuel listed a w
 | 0,_,_,_,h=>⟨h.1,hR _ _ h.2⟩
 | fuel+1,_,_,_,h=>⟨λe=>hR _ _ (h.1 e),λi hi=>afi hn (Iu (λa w hh=>Uh hn hR fuel _ a w hh.2) (h.2 i hi))⟩
theorem YI.qL{ld:Bool}{w0:World}{i:Nat}{o:Oper}{v:Value}{a:Act} (hi:ops[i]?=some o) (hy:YI P ops ld w0 o v a){K:Act→World→Prop}{w:World} (hg:ld=true→nS w0 w)
 (h:K (a.put o.dst v) w):qL P n ops i K a w:=by
 unfold Go.aV.qL;simp only[hi];rcases hy with⟨hw,hv⟩ | ⟨hw,rfl⟩
 ·rw[if_pos hw,hv w hg];exact h
 ·rw[if_neg (by rw[hw];simp)];exact h
theorem ZE{ld:Bool}{w0:World}{j:Nat}{oi oj:Oper}{v:Value} (hj:ops[j]?=some oj) (hap:oi.apart ops oj=true)
 (hsi:∀cs b,oi.op≠.select cs b) (hsj:∀cs b,oj.op≠.select cs b){K:Act→World→Prop}{a:Act}{w:World}
 (hy:YI P ops ld w0 oi v a) (h:qL P n ops j K (a.put oi.dst v) w):
 qL P n ops j (λa' w'=>YI P ops ld w0 oi v a'∧K (a'.put oi.dst v) w') a w:=by
 obtain⟨h1,h2,h3⟩:=Oper.apart_spec hap;have keep:∀(a:Act),YI P ops ld w0 oi v a→∀u,YI P ops ld w0 oi v (a.put oj.dst u):=λa hy u=>
  hy.of_same (execOp_put oi hsi a oj.dst u h3) (wanted_put oi a oj.dst u h3)
 have keepD:∀d,YI P ops ld w0 oi v { a with defers:=d :: a.defers }:=λd=>hy.of_same rfl rfl
 unfold qL at *;simp only[hj]at *;rw[wanted_put oj a oi.dst v h1]at h;split
 ·rename_i hw;rw[if_pos hw]at h;rw[execOp_put oj hsj a oi.dst v h1]at h;generalize (execOp a.eval oj).run P w=r at *;cases r with
  | ok m w'=>
    cases m<;>simp only[Oper.uponIn]at h ⊢
    case value u=>exact⟨keep a hy u,by rw[←Act.put_comm a v u h2];exact h⟩
    case skip=>exact⟨keep a hy _,by rw[←Act.put_comm a v undef h2];exact h⟩
    case defer d=>
     refine⟨(keep _ (keepD d) _),?_⟩;rw[←Act.put_comm _ v undef h2,←Act.put_defers];exact h
    case enter f args=>
     refine⟨h.1,h.2.mono λe w'' he=>?_⟩
     cases e with
     | returned u=>exact⟨keep a hy u,by rw[←Act.put_comm a v u h2];exact he⟩
     | panicked c=>exact he
     | outgrown=>exact he
    case row r args=>
     refine⟨h.1,RowsIn.mono h.2 λu w'' he=>?_⟩
     exact⟨keep a hy u,by rw[←Act.put_comm a v u h2];exact he⟩
    case round l f tmps G5 body=>
     refine⟨h.1,RoundIn.mono h.2 λe w'' he=>?_⟩
     cases e with
     | returned u=>exact⟨keep a hy u,by rw[←Act.put_comm a v u h2];exact he⟩
     | panicked c=>exact he
     | outgrown=>exact he
    all_goals exact h
  | halt x w'=>cases x<;>simp only[Oper.uponIn]at h ⊢<;>exact h
 ·rename_i hw;rw[if_neg hw]at h;exact⟨keep a hy _,by rw[←Act.put_comm a v undef h2];exact h⟩
theorem QM{R:Act→World→Prop}{ld:Bool}{w0:World}{i:Nat}{oi:Oper}{v:Value}{bl:List Nat} (hi:ops[i]?=some oi) (hsel:∀(j:Nat) (o:Oper) cs b,ops[j]?=some o→o.op≠.select cs b)
 (hq:sf i=true):
 ∀(fuel:Nat) (listed:Array Bool) (a:Act) (w:World),
   (∀j oj,ops[j]?=some oj→j≠i→listed.getD j true=false→(∀e∈oj.after,Region.binds md e=true→e.on≠i)→oi.apart ops oj=true) →
   (ld=true→Waits md ops listed i bl∧∀j,j≠i→listed.getD j true=false→sf j=false→j∈bl) →
   i∈Region.ready md ops listed→YI P ops ld w0 oi v a→(ld=true→nS w0 w) →
   J6 P n md ops sf R fuel (listed.setIfInBounds i true) (a.put oi.dst v) w→J6 P n md ops sf R (fuel+1) listed a w:=by
 intro fuel
 induction fuel with
 | zero=>
   intro listed a w _ _ hr hy hg H;refine⟨λh=>(by rw[h]at hr;cases hr),λj hj=>?_⟩
   by_cases hji:j=i
   ·subst hji;exact hy.qL hi hg ⟨λ_=>nS.refl w,H⟩
   ·have:=ready_mono hj hji;rw[H.1]at this;cases this
 | succ fuel ih=>
   intro listed a w hfree hbl hr hy hg H;refine⟨λh=>(by rw[h]at hr;cases hr),λj hj=>?_⟩
   by_cases hji:j=i
   ·subst hji;exact hy.qL hi hg ⟨λ_=>nS.refl w,H⟩
   ·have h1:=H.2 j (ready_mono hj hji);obtain⟨hjun,oj,hoj,hall⟩:=mem_ready.1 hj;have YZ:=(mem_ready.1 hr).1;have hnot:∀e∈oj.after,Region.binds md e=true→e.on≠i:=λe he hb heq=>by
     have h1:=hall e he hb;rw[heq,wu YZ]at h1;cases h1
    have h2:=ZE hoj (hfree j oj hoj hji hjun hnot) (λcs b=>hsel i oi cs b hi) (λcs b=>hsel j oj cs b hoj) hy h1
    have hfree':∀k ok,ops[k]?=some ok→k≠i→(listed.setIfInBounds j true).getD k true=false →
     (∀e∈ok.after,Region.binds md e=true→e.on≠i)→oi.apart ops ok=true:=λk ok hk hki hun hno=>by
     refine hfree k ok hk hki ?_ hno
     by_cases gq:j=k
     ·subst gq;exact hjun
     ·rw[getD_set_ne true gq]at hun;exact hun
    have Y0:ld=true→j∉bl:=λe hm=>Il YZ (hbl e).1 hm hj
    have hsj:ld=true→sf j=true:=λe=>by
     cases hs:sf j with
     | true=>rfl
     | false=>exact absurd ((hbl e).2 j hji hjun hs) (Y0 e)
    have akY:ld=true→Waits md ops (listed.setIfInBounds j true) i bl∧∀k,k≠i→(listed.setIfInBounds j true).getD k true=false→sf k=false→k∈bl:=λe=>by
     refine⟨λk hk=>?_,λk hki hun hs=>?_⟩
     ·obtain⟨g1,g2⟩:=(hbl e).1 k hk;refine⟨?_,g2⟩;rw[getD_set_ne true (λhh=>Y0 e (by rw[hh];exact hk))];exact g1
     ·refine(hbl e).2 k hki ?_ hs
      by_cases gq:j=k
      ·subst gq;exact hjun
      ·rw[getD_set_ne true gq]at hun;exact hun
    refine Iu (λa' w' h3=>⟨h3.2.1,ih (listed.setIfInBounds j true) a' w' hfree' akY (ready_mono hr (Ne.symm hji)) h3.1 (λe=>(hg e).trans (h3.2.1 (hsj e))) ?_⟩) h2
    rw[Array.setIfInBounds_comm _ _ hji];exact h3.2.2
end
end Go.aV
namespace Go.aV
open Go Go.RowKit
@[reducible] def Dp (cx:Cx) (t:TypeId) (K:IntKind→TypeId→TI→Sh→Prop):Prop:=match qo cx.ti t with
  | some i=>match i.desc with
    | .map kt et=>match qo cx.ti kt with
      | some ik=>match ik.desc with
        | .int kk=>match qo cx.ti et with
          | some ie=>match ie.iT with
            | some sh=>K kk et ie sh
            | none=>False
          | none=>False
        | _=>False
      | none=>False
    | _=>False
  | none=>False
@[reducible] def ZF (cx:Cx) (t:TypeId):Bool:=match qo cx.ti t with
  | some i=>match i.desc with
    | .map _ _=>true
    | _=>false
  | none=>false
@[reducible] def Ui (cx:Cx) (s:St) (x:Operand) (kk:IntKind) (sh:Sh):Option (List (Int×sh.den)):=match bU cx s [] x with
  | some (.one (.c (.one s' d)))=>jK s' d (.mp kk sh)
  | some (.one (.c (.row i)))=>match fD s.T i with
    | some ([],.mp kk' sh' l)=>jK (.mp kk' sh') l (.mp kk sh)
    | _=>none
  | some (.one (.c (.v (.map none))))=>some []
  | _=>none
@[reducible] def ZG (cx:Cx) (s:St) (x:Operand) (kk:IntKind):Option Int:=match bU cx s [] x with
  | some (.one (.c (.v (.int k n))))=>match Nat.beq (Eo k) (Eo kk) with
    | true=>some n
    | false=>none
  | _=>none
def E5{α:Type} (l:List (Int×α)) (n:Int) (z:α):α:=(CQ l n).getD z
def QN{α:Type} (l:List (Int×α)) (n:Int):Bool:=(CQ l n).isSome
@[reducible] def J7 (cx:Cx) (s:St) (o:Op) (K:aT→Prop):Option Prop:=match o with
  | .lookup t m x ok=>some (Dp cx t λkk _ _ sh=>match Ui cx s m kk sh with
    | none=>False
    | some l=>match ZG cx s x kk with
      | none=>False
      | some n=>match ok with
        | false=>K (.one (iL sh (E5 l n (qZ sh))))
        | true=>K (.gX [iL sh (E5 l n (qZ sh)),.c (.v (.bool (QN l n)))]))
  | .call c=>match c.callee with
    | .builtin .len=>match tl c.argTypes with
      | [t]=>match ZF cx t with
        | false=>none
        | true=>some (Dp cx t λkk _ _ sh=>match tl c.args with
          | [m]=>match Ui cx s m kk sh with
            | none=>False
            | some l=>K (.one (.c (.v (.int .i64 l.length))))
          | _=>False)
      | _=>none
    | _=>none
  | _=>none
abbrev alj(cx:Cx) (s:St) (o:Oper) (K:St→Prop):Option Prop:=none
section
variable {cx:Cx}{P:Program}{N:Nat}{B:Base}{h0:FH}{s:St}{h:FH}{β:List RV}{w:World}{a:Act}{o:Oper}{K:St→Prop}
structure alk (P:Program) (t:TypeId) (kk:IntKind) (et:TypeId) (ie:TI) (sh:Sh):Prop where
 und:∃kt,P.underlying t=some (.map kt et)∧P.underlying kt=some (.int kk)
 ei:aP P et ie
 es:ie.iT=some sh
theorem E8(hc:cO P cx.ti){t:TypeId}{K:IntKind→TypeId→TI→Sh→Prop} (k:Dp cx t K):∃kk et ie sh,K kk et ie sh∧alk P t kk et ie sh:=by
 unfold Dp at k;split at k
 ·rename_i i hi;split at k
  ·rename_i kt et hd;split at k
   ·rename_i ik hik;split at k
    ·rename_i kk hkk;split at k
     ·rename_i ie hie;split at k
      ·rename_i sh hsh;exact⟨kk,et,ie,sh,k,⟨kt,(hc.get hi).Hg hd rfl,(hc.get hik).Hg hkk rfl⟩,hc.get hie,hsh⟩
      ·exact k.elim
     ·exact k.elim
    ·exact k.elim
   ·exact k.elim
  ·exact k.elim
 ·exact k.elim
theorem afj{et:TypeId}{ie:TI}{sh:Sh} (k:aP P et ie) (hs:ie.iT=some sh) (h:FH) (w:World):∃z,(zeroValue et).run P w=.ok z w∧DW h sh z (qZ sh):=by
 obtain⟨inf,z,h1,h2,h3,h4,h5⟩:=k.info;obtain⟨r,ha⟩:=k.YC sh hs;refine⟨z,by simp[zeroValue,typeInfo,h1,h4],ie.zero,?_,y5 r⟩
 have hz:=k.apU inf z h1 h4;rw[←ha]at hz;unfold mkV;cases z with
 | agg cs=>
   have hz:sh.isAgg=true:=hz.symm;rw[hz,if_pos rfl];simp[Value.cells]at h5;rw[h5]
 | _=>
   have hz:sh.isAgg=false:=hz.symm;rw[hz,if_neg (by simp)]
   have h6:=Ec Array.toList h5;simp only[Value.cells]at h6;rw[show ie.zero=_ from h6.symm];rfl
theorem DW.cn{sh:Sh}{y:Value}{d:sh.den} (x:DW h sh y d):dJ h β (iL sh d) y:=by
 obtain⟨cs,rfl,r⟩:=x;exact jR sh r
def ZH(h:FH) (w:World) (kk:IntKind) (sh:Sh) (y:Value) (l:List (Int×sh.den)):Prop:=
 (y=.map none∧l=[])∨∃b es c,y=.map (some b)∧w.heap[b]?=some (.map es c)∧xE kk (DW h sh) es c l
theorem alm{k1 kk:IntKind}{s1 sh:Sh}{l1:List (Int×s1.den)}{l:List (Int×sh.den)} (e:jK (.mp k1 s1) l1 (.mp kk sh)=some l):k1=kk∧∃e':s1=sh,(e'▸l1:List (Int×sh.den))=l:=by
 obtain⟨e1,e2⟩:=kP e;cases e1;exact⟨rfl,rfl,e2⟩
theorem Nz(ak:Sat N B h0 s h β w a) (hg:aO cx.gd h){x:Operand}{kk:IntKind}{sh:Sh}{l:List (Int×sh.den)} (e:Ui cx s x kk sh=some l):ZH h w kk sh (a.eval x) l:=by
 have tr:gv s.gl []=true:=rfl;unfold Ui at e;split at e
 ·rename_i s' d hx;have c:dJ h β (.c (.one s' d)) (a.eval x):=aQ ak hg tr hx;obtain⟨e1,e2⟩:=kP e;subst e1;simp only at e2;subst e2;obtain⟨v,hv,r⟩:=c.1;have hv:a.eval x=v:=by simpa using hv
  rw[hv];rcases r with r | ⟨b,es,cc,r1,r2,r3⟩
  ·exact .inl r
  ·exact .inr ⟨b,es,cc,r1,aeN (ak.ok.hw b 0 _ r2),r3⟩
 ·rename_i i hx;have c:dJ h β (.c (.row i)) (a.eval x):=aQ ak hg tr hx;split at e
  ·rename_i kk' sh' l' hT;obtain⟨e1,e2,e3⟩:=alm e;subst e1;subst e2;simp only at e3;subst e3;exact .inr (ak.ok.ajV (bJ hT tr) c.1)
  ·cases e
 ·rename_i hx;have c:dJ h β (.c (.v (.map none))) (a.eval x):=aQ ak hg tr hx;cases e;exact .inl ⟨c.1.1,rfl⟩
 ·cases e
theorem ZI(ak:Sat N B h0 s h β w a) (hg:aO cx.gd h){x:Operand}{kk:IntKind}{n:Int} (e:ZG cx s x kk=some n):a.eval x=.int kk n:=by
 unfold ZG at e;split at e
 ·rename_i k m hx;have c:dJ h β (.c (.v (.int k m))) (a.eval x):=aQ ak hg (show gv s.gl []=true from rfl) hx
  split at e
  ·rename_i hk;cases e;rw[c.1.1,qj hk]
  ·cases e
 ·cases e
theorem J8{kt:TypeId}{kk:IntKind}{n:Int} (hk:P.underlying kt=some (.int kk)) (b:Bool) (w:World):(Instr.checkKey b 10000 kt (.int kk n)).run P w=.ok () w:=
 MapKept.run_checkKey (n:=9999) (k:=.int kk n) hk (show kk=kk from rfl) b
theorem ZJ{t et:TypeId}{kk:IntKind}{ie:TI}{sh:Sh} (mt:alk P t kk et ie sh){y:Value}{l:List (Int×sh.den)} (m:ZH h w kk sh y l) (n:Int) (ok:Bool):
 ∃v,DW h sh v (E5 l n (qZ sh))∧(Instr.lookup t y (.int kk n) ok).run P w=.ok (if ok then .tuple #[v,.bool (QN l n)] else v) w:=by
 obtain⟨kt,hu,hk⟩:=mt.und;obtain⟨z,hz,dz⟩:=afj mt.ei mt.es h w;rcases m with⟨rfl,rfl⟩ | ⟨b,es,c,rfl,hb,m⟩
 ·refine⟨z,dz,?_⟩;have hf:=MapKept.run_findKey (P:=P) (w:=w) (k:=.int kk n) (l:=[]) hk rfl;simp[Instr.lookup,run_underlying hu,J8 hk,hf,hz,QN,CQ,Result.andThen]
 ·rcases m.find kk n with⟨j,e,d,e1,e2,e3,e4,e5⟩ | ⟨e1,e2⟩
  ·refine⟨e.val,by rw[show E5 l n (qZ sh)=d by simp[E5,e2]];exact e3,?_⟩
   have hf:=MapKept.run_findKey (P:=P) (w:=w) hk e5;simp[Instr.lookup,run_underlying hu,J8 hk,MapKept.run_getObj_map hb,hf,QN,e2,Result.andThen]
  ·refine⟨z,by rw[show E5 l n (qZ sh)=qZ sh by simp[E5,e1]];exact dz,?_⟩
   have hf:=MapKept.run_findKey (P:=P) (w:=w) hk e2;simp[Instr.lookup,run_underlying hu,J8 hk,MapKept.run_getObj_map hb,hf,hz,QN,e1,Result.andThen]
theorem ZK{t et:TypeId}{kk:IntKind}{ie:TI}{sh:Sh} (mt:alk P t kk et ie sh){y:Value}{l:List (Int×sh.den)} (m:ZH h w kk sh y l){ts:Array TypeId} (ht:ts=#[t]){ty:TypeId}:
 (Builtin.len_ ts ty #[y]).run P w=.ok (.int .i64 l.length) w:=by
 obtain⟨kt,hu,hk⟩:=mt.und;subst ht;rcases m with⟨rfl,rfl⟩ | ⟨b,es,c,rfl,hb,m⟩
 ·simp[Builtin.len_,run_underlying hu,goInt]
 ·simp[Builtin.len_,run_underlying hu,MapKept.run_getObj_map hb,goInt,m.len]
theorem NC(hc:cO P cx.ti) (ak:Sat N B h0 s h β w a) (hg:aO cx.gd h){K:aT→Prop}{p:Prop} (hp:J7 cx s o.op K=some p) (k:p):
 ∃e v,K e∧(execOp a.eval o).run P w=.ok (.value v) w∧kC h β e v:=by
 unfold J7 at hp;split at hp
 ·rename_i t m x okb ho;cases hp;obtain⟨kk,et,ie,sh,k,mt⟩:=E8 hc k;split at k
  ·exact k.elim
  rename_i l hl;split at k
  ·exact k.elim
  rename_i n hn;have hm:=Nz ak hg hl;have hx:=ZI ak hg hn;obtain⟨v,dv,run⟩:=ZJ mt hm n okb;have ap8:(execOp a.eval o).run P w=.ok (.value (if okb then .tuple #[v,.bool (QN l n)] else v)) w:=by
   simp only[execOp,ho,hx,Sem.run_bind,run,Result.andThen_ok,Sem.run_pure]
  split at k
  ·exact⟨_,_,k,ap8,dv.cn⟩
  ·exact⟨_,_,k,ap8,[v,.bool (QN l n)],rfl,dv.cn,⟨⟨rfl,rfl,rfl⟩,rfl,rfl⟩,trivial⟩
 ·rename_i c ho;split at hp
  ·rename_i dA;split at hp
   ·rename_i t ht;split at hp
    ·cases hp
    ·cases hp;obtain⟨kk,et,ie,sh,k,mt⟩:=E8 hc k;split at k
     ·rename_i m hm0;split at k
      ·exact k.elim
      rename_i l hl;have hm:=Nz ak hg hl;refine⟨_,_,k,?_,⟨⟨rfl,rfl,rfl⟩,rfl,rfl⟩⟩;simp[execOp,ho,resolve,dA,invoke,builtin,iM hm0,ZK mt hm (iM ht)]
     ·exact k.elim
   ·cases hp
  ·cases hp
 ·cases hp
theorem aW.aeX{α β:Type}{R:α→β→Prop}:∀{l:List α}{m:List β}{a:α},aW R l m→a∈l→∃b∈m,R a b
 | [],_,_,_,ha=>by cases ha
 | x :: l,y :: m,a,⟨h1,h2⟩,ha=>by
   rcases mX.1 ha with rfl | ha
   ·exact⟨y,by simp,h1⟩
   ·obtain⟨b,hb,r⟩:=aW.aeX h2 ha;exact⟨b,by simp[hb],r⟩
theorem afk(hc:cO P cx.ti) (ak:Sat N B h0 s h β w a) (hg:aO cx.gd h) (hd:lZ N o.dst=true){p:Prop} (hp:alj cx s o K=some p) (k:p):o.guard=none∧BZ P N B h0 h w a o true K:=by
 unfold alj at hp;cases hp
end
end Go.aV
