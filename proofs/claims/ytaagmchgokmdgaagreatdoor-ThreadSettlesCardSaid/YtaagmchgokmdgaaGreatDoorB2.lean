/- Part 2 of the proof. Conditions: the rows'. -/
import Derived.Test.YtaagmchgokmdgaaGreatDoorB1
import Derived.Still
set_option linter.unusedSimpArgs false
set_option linter.unusedVariables false
set_option maxRecDepth 1000000
set_option maxHeartbeats 8000000
namespace Go.lM
open Go Go.RowKit
variable {w w':World}{P:Program}{o:Oper}{a:Act}{v:Value}{n r i:Nat}{h' h h0:FH}{β' β:List RV}{t el:TypeId}{y:Operand}{u:RV}{T:List aC}{c:Call}{f:FuncId}{B:Base}{z:SC}{lo hi:Option Operand}
theorem jL.rF(h:Gb w w' none):jL w w':=⟨h.size,λk hk=>h.block k hk (by simp)⟩
theorem jL.of_below(h:Below w.heap.size w w'):jL w w':=⟨h.size,h.block⟩
def quietly:Op->Bool
 | .store ..=>false
 | .call c=>match c.callee with
   | .builtin .len=>true
   | .builtin _=>false
   | .value (.tmp _)=>false
   | _=>true
 | _=>true
def eG(P:Program) (N:Nat) (B:Base) (h0 h:FH) (w:World) (a:Act) (o:Oper) (wanted:Bool) (K:St->Prop):Prop:=
 ∀(Nx:Act->World->Prop) (Q:Exit->Act->World->Prop),
   (∀s' h' β' w' v,K s'->h.le h'->(quietly o.op=true->jL w w')->Sat N B h0 s' h' β' w' (a.put o.dst v)->Nx (a.put o.dst v) w') ->
   if wanted=true then o.wp P a w Nx Q else Nx (a.put o.dst undef) w
theorem gV{Nx:Act->World->Prop}{Q:Exit->Act->World->Prop} (h:(execOp a.eval o).run P w=.ok (.value v) w') (k:Nx (a.put o.dst v) w'):o.wp P a w Nx Q:=by
 unfold Oper.wp;rw[h];exact k
theorem RJ{Nx:Act->World->Prop}{Q:Exit->Act->World->Prop} (h:(execOp a.eval o).run P w=.ok .skip w') (k:Nx (a.put o.dst undef) w'):o.wp P a w Nx Q:=by
 unfold Oper.wp;rw[h];exact k
abbrev jC(n:Nat):Option Nat->Bool
 | none=>true
 | some d=>Nat.ble (d+1) n
theorem cZ{d:Option Nat} (h:jC n d=true):∀k,d=some k->k < n:=by
 intro k hk;subst hk;have:=lK h;omega
section
variable {cx:Cx}{P:Program}{N:Nat}{B:Base}{h0:FH}{s:St}{h:FH}{β:List RV}{w:World}{a:Act}{G:Gd}{o:Oper}{K:St->Prop}
theorem Dv(hc:bT P cx.ti) (ah:Sat N B h0 s h β w a) (hg:aG cx.gd h) (hG:qX s.gl.length G=true) (hd:jC N o.dst=true) (k:lq cx s G o λe=>K (s.put o.dst G e)):
 eG P N B h0 h w a o (gv s.gl G) K:=by
 intro Nx Q next
 obtain⟨e,k1,k2⟩:=Af hc ah hg k;cases hgv:gv s.gl G with
 | true=>
   obtain⟨v,r,c⟩:=k2 hgv;rw[if_pos rfl];exact gV r (next _ _ _ _ _ k1 (FH.le.refl h) (λ_=>jL.refl w) (ah.put (cZ hd) hG (λ_=>c) λhh=>by rw[hgv]at hh;cases hh))
 | false=>
   rw[if_neg (by simp)]
   exact next _ _ _ _ _ k1 (FH.le.refl h) (λ_=>jL.refl w) (ah.put (cZ hd) hG (λhh=>by rw[hgv]at hh;cases hh) λ_=>rfl)
theorem bK(w:World) (r:Option Nat):Gb w w r:=⟨⟨rfl,rfl,rfl,mZ _,λ_ _ _=>rfl⟩,mZ _⟩
theorem jQ(ah:Sat N B h0 s h β w a) (hG:qX s.gl.length G=true) (hd:jC N o.dst=true){r:aC}{e:aW} (k:K ({ s with T:=snoc s.T (G,r) }.put o.dst G e))
 (run:gv s.gl G=true->∃v w' rv,(execOp a.eval o).run P w=.ok (.value v) w'/\Gb w w' none/\(∀b,rv.has b->w.heap.size<=b/\b < w'.heap.size) /\
  Holds h (β++[rv]) w' r rv/\iO h (β++[rv]) e v):
 eG P N B h0 h w a o (gv s.gl G) K:=by
 intro Nx Q next
 have gT:∀p∈snoc s.T (G,r),qX s.gl.length p.1=true:=by
  intro p hp;rw[fM,Cj]at hp;rcases hp with hp | hp
  .exact ah.gT p hp
  .simp at hp;subst hp;exact hG
 cases hgv:gv s.gl G with
 | true=>
   obtain⟨v,w',rv,h1,h2,h3,h4,h5⟩:=run hgv;rw[if_pos rfl];refine gV h1 (next _ h (β++[rv]) _ _ k (FH.le.refl h) (λ_=>jL.rF h2) ?_)
   have ok:OK B h0 (eff s.gl (snoc s.T (G,r))) h (β++[rv]) w':=by
    rw[fJ,hgv];exact ah.ok.add h2 h3 h4
   exact(ah.mem ok (FH.le.refl h) (Ext.append _ _) gT).put (cZ hd) hG (λ_=>h5) λhh=>by simp only at hh;rw[hgv]at hh;cases hh
 | false=>
   rw[if_neg (by simp)]
   refine next _ h (β++[.no]) _ _ k (FH.le.refl h) (λ_=>jL.refl w) ?_
   have ok:OK B h0 (eff s.gl (snoc s.T (G,r))) h (β++[.no]) w:=by
    rw[fJ,hgv];exact ah.ok.add (bK w none) (λb hb=>(Jp hb).elim) trivial
   exact(ah.mem ok (FH.le.refl h) (Ext.append _ _) gT).put (cZ hd) hG (λhh=>by simp only at hh;rw[hgv]at hh;cases hh) λ_=>rfl
theorem kN(ah:Sat N B h0 s h β w a){s':St} (k:K s') (hgv:gv s.gl G=true) (hq:quietly o.op=false)
 (run:(execOp a.eval o).run P w=.ok (.value v) w'\/((execOp a.eval o).run P w=.ok .skip w'/\v=undef)) (le:h.le h') (aK:Sat N B h0 s' h' β' w' (a.put o.dst v)):
 eG P N B h0 h w a o (gv s.gl G) K:=by
 intro Nx Q next
 rw[if_pos hgv];rcases run with run | ⟨run,rfl⟩
 .exact gV run (next _ _ _ _ _ k le (λhh=>by rw[hq]at hh;cases hh) aK)
 .exact RJ run (next _ _ _ _ _ k le (λhh=>by rw[hq]at hh;cases hh) aK)
end
abbrev Jz:Sh->Bool
 | .arr _ _=>true
 | .pair a b=>match Jz a with
   | true=>true
   | false=>Jz b
 | _=>false
abbrev pK(cz:Bool) (t:TypeId) (i:TI):aC:=match i.jK with
 | some s=>match bY (Jz s) (!cz) with
   | true=>.obj t s (oz s)
   | false=>.blk t (dQ SC.v i.zero)
 | none=>.blk t (dQ SC.v i.zero)
abbrev EI(cx:Cx) (s:St) (G:Gd) (d:Option Nat) (t:TypeId) (K:St->Prop):Prop:=match mQ cx.ti t with
 | none=>False
 | some i=>K ({ s with T:=snoc s.T (G,pK cx.cz t i) }.put d G (.one (.c (.own (aJ s.T) 0))))
abbrev JA(t:TypeId) (v:SV):Option aC:=match v with
 | .dat sh d=>some (.obj t sh d)
 | v=>match lD v with
   | some xs=>some (.blk t xs)
   | none=>none
abbrev WU(cx:Cx) (s:St) (G:Gd) (d:Option Nat) (t:TypeId) (x:Operand) (K:St->Prop):Prop:=match bI cx s G x with
 | some (.one v)=>match JA t v with
   | some r=>K ({ s with T:=snoc s.T (G,r) }.put d G (.one (.c (.own (aJ s.T) 0))))
   | none=>False
 | _=>False
theorem jR(w:World) (o:Obj):(w.alloc o).heap[w.heap.size]?=some o:=heap_alloc_new w o
theorem PE{v:SV}{r:aC}{y:Value}{b:Nat} (e:JA t v=some r) (c:bV h β v y) (eb:Ext β β')
 (hw:w.heap[b]?=some (.cells y.cells t (0,0))):Holds h β' w r (.blk b):=by
 unfold JA at e;split at e
 .cases e;obtain⟨_,cs,rfl,rd⟩:=c;exact⟨cs,hw,rd⟩
 .split at e
  .rename_i xs hx;cases e;refine⟨y.cells.toList,by simpa using hw,(uT hx c).mono λ_ _ ⟨p,q⟩=>⟨p.mono (FH.le.refl h) eb,q⟩⟩
  .cases e
section
variable {cx:Cx}{P:Program}{N:Nat}{B:Base}{h0:FH}{s:St}{h:FH}{β:List RV}{w:World}{a:Act}{G:Gd}{o:Oper}{K:St->Prop}
theorem jw(hn:β.length=n) (v:RV):(β++[v])[n]?=some v:=by
 subst hn;simp
theorem jS(ah:Sat N B h0 s h β w a):β.length=aJ s.T:=by
 rw[ah.ok.len,fO,aV]
theorem rG{s:Sh}{cs:List Value}{d:s.den} (r:Rd (λ_ _=>none) s cs d):Rd h s cs d:=r.mono (λ_ _ _ e=>by cases e) s
theorem JB(hc:bT P cx.ti) (ah:Sat N B h0 s h β w a) (hG:qX s.gl.length G=true) (hd:jC N o.dst=true) (ho:o.op=.alloc t) (k:EI cx s G o.dst t K):
 eG P N B h0 h w a o (gv s.gl G) K:=by
 unfold EI at k;split at k
 .cases k
 rename_i i hi;have ti:=hc.get hi;refine jQ ah hG hd k λhgv=>?_
 obtain⟨z,hz1,hz2⟩:=oG ti w;refine⟨.pointer (some ⟨w.heap.size,0,none⟩),w.alloc (.cells z.cells t),.blk w.heap.size,?_,jO _ _ _,?_,?_,?_⟩
 .simp only[execOp,ho,Instr.alloc,newVar,newRow,Sem.run_bind,hz1,Result.andThen_ok,run_newObj,Sem.run_pure];rfl
 .intro b hb;rw[ji]at hb;subst hb;simp
 .have hn:=jR w (.cells z.cells t);unfold pK;split
  .rename_i sh hs;split
   .exact⟨i.zero,by rw[hn,hz2],rG (ti.Ph _ hs).1⟩
   .exact⟨i.zero,by rw[hn,hz2],dZ ti.zone⟩
  .exact⟨i.zero,by rw[hn,hz2],dZ ti.zone⟩
 .exact⟨⟨_,jw (jS ah) _,rfl⟩,gq _⟩
theorem RN(hc:bT P cx.ti) (ah:Sat N B h0 s h β w a) (hg:aG cx.gd h) (hG:qX s.gl.length G=true) (hd:jC N o.dst=true){x:Operand} (ho:o.op=.box t x) (k:WU cx s G o.dst t x K):
 eG P N B h0 h w a o (gv s.gl G) K:=by
 unfold WU at k;split at k
 .rename_i v hv;split at k
  .rename_i r hr;refine jQ ah hG hd k λhgv=>?_
   have hx:=aH ah hg hgv hv;refine⟨.pointer (some ⟨w.heap.size,0,none⟩),w.alloc (.cells (a.eval x).cells t),.blk w.heap.size,?_,jO _ _ _,?_,?_,?_⟩
   .simp only[execOp,ho,Instr.box,newVar,newRow,Sem.run_bind,Result.andThen_ok,run_newObj,Sem.run_pure];rfl
   .intro b hb;rw[ji]at hb;subst hb;simp
   .exact PE hr hx (Ext.append _ _) (jR _ _)
   .exact⟨⟨_,jw (jS ah) _,rfl⟩,gq _⟩
  .cases k
 .cases k
end
abbrev gQ{α:Type}:Nat->List α->List α
 | 0,_=>[]
 | n+1,l=>dO l (gQ n l)
abbrev kP(cx:Cx) (s:St) (G:Gd) (d:Option Nat) (t:TypeId) (n:Nat) (parts:List (Nat×Operand)) (K:St->Prop):Prop:=match descOf cx t with
 | .slice el=>match mQ cx.ti el with
   | none=>False
   | some ie=>match ie.jK with
     | none=>False
     | some sh=>match uU cx s G parts with
       | none=>False
       | some ps=>match bY (Nat.ble (n * ie.size) 16777216) (Nat.ble 1 ie.size) with
         | false=>False
         | true=>match ru (λj=>some (j * ie.size,ie.size)) (gQ n (dQ SC.v ie.zero)) ps with
           | none=>False
           | some xs=>match bY (Nat.beq sh.size ie.size) (Nat.beq (aJ xs) (n * ie.size)) with
             | false=>False
             | true=>match takeN sh n xs with
               | some (l,[])=>K ({ s with T:=snoc s.T (G,.row el sh l) }.put d G (.one (.c (.row (aJ s.T)))))
               | _=>False
 | _=>False
theorem Ag{α β:Type} (f:α->β):∀(n:Nat) (l:List α),gQ n (dQ f l)=dQ f (gQ n l)
 | 0,_=>rfl
 | n+1,l=>by
   simp only[gQ];rw[Ag f n l];simp[dW,zi]
theorem wC{α:Type}{x:α}{l:List α}:∀{n:Nat},x∈gQ n l->x∈l
 | 0,h=>by simp[gQ]at h
 | n+1,h=>by
   simp only[gQ,dW,Cj]at h;exact h.elim id wC
theorem rH{α:Type}{l:List α}:∀{n:Nat},(gQ n l).length=n * l.length
 | 0=>by simp[gQ]
 | n+1=>by simp only[gQ,dW,kD,rH,uN];omega
theorem He{l:List Value}:∀{n j:Nat},j < n * l.length->(gQ n l)[j]?=l[j % l.length]?
 | 0,j,h=>by omega
 | n+1,j,h=>by
   simp only[gQ,dW];rw[uN]at h
   by_cases hj:j < l.length
   .rw[QM hj,Nat.mod_eq_of_lt hj]
   .rw[Jh (by omega),He (by omega)]
    congr 1
    exact(Nat.mod_eq_sub_mod (by omega)).symm
theorem oH{zero:List Value} (hz:0 < zero.length):((Array.range (n * zero.length)).map (λi=>zero.toArray[i % zero.toArray.size]!))=(gQ n zero).toArray:=by
 apply Array.ext';apply LK;intro j;simp only[Array.toList_map,Array.toList_range,CO]
 by_cases hj:j < n * zero.length
 .rw[Gw,List.getElem?_range hj,He hj];have hm:j % zero.length < zero.length:=Nat.mod_lt _ hz;simp[hm]
 .rw[LJ (by simp;omega),LJ (by simp[rH];omega)]
section
variable {cx:Cx}{P:Program}{N:Nat}{B:Base}{h0:FH}{s:St}{h:FH}{β:List RV}{w:World}{a:Act}{G:Gd}{o:Oper}{K:St->Prop}
theorem qE(hc:bT P cx.ti) (ah:Sat N B h0 s h β w a) (hg:aG cx.gd h) (hG:qX s.gl.length G=true) (hd:jC N o.dst=true){parts:Array (Nat×Operand)} (ho:o.op=.buildSlice t n parts)
 (k:kP cx s G o.dst t n (tl parts) K):eG P N B h0 h w a o (gv s.gl G) K:=by
 unfold kP at k;split at k
 .rename_i el hde;have hu:=bg hc hde (by simp)
  split at k
  .cases k
  rename_i ie hie;have tie:=hc.get hie;split at k
  .cases k
  rename_i sh hsh;split at k
  .cases k
  rename_i ps hps;split at k
  .cases k
  rename_i hsz;rw[ay,A8]at hsz;have hsz1:n * ie.size<=16777216:=lK hsz.1;have hsz2:1<=ie.size:=lK hsz.2;split at k
  .cases k
  rename_i xs hxs;split at k
  .cases k
  rename_i hlen;rw[ay,A8]at hlen;have hl1:sh.size=ie.size:=gI hlen.1;have hl2:xs.length=n * ie.size:=by have:=gI hlen.2;rwa [aV]at this
  split at k
  .rename_i l hl;refine jQ ah hG hd k λhgv=>?_
   have htl:(parts.map λ(p:Nat×Operand)=>(p.1,a.eval p.2)).toList=(tl parts).map λp=>(p.1,a.eval p.2):=by cases parts;simp
   rw[Ag]at hxs;obtain⟨zs,g1,g2⟩:=oC (oD ah hg hgv hps) (dZ λv hv=>tie.zone v (wC hv)) hxs
   obtain⟨c1,c2,rfl,q1,q2,q3⟩:=Ac hl g2;have hc2:c2=[]:=by cases c2 with | nil=>rfl | cons _ _=>exact q3.elim
   subst hc2;rw[OO]at g1 g2;have hz0:0 < ie.zero.length:=by rw[tie.mP];omega
   obtain⟨z,hz1,hz2⟩:=oG tie w;have hc0:n * ie.size=0->(gQ n ie.zero).toArray=#[]:=by
    intro h0;have:n=0:=by rcases Nat.mul_eq_zero.1 h0 with h0 | h0<;>omega
    subst this;simp[gQ]
   have hc1:((Array.range (n * ie.size)).map (λi=>z.cells[i % z.cells.size]!))=(gQ n ie.zero).toArray:=by
    rw[hz2,<-tie.mP];exact oH hz0
   refine⟨.slice (some ⟨w.heap.size,0,none⟩) n n,w.alloc (.cells c1.toArray el),.row (.slice (some ⟨w.heap.size,0,none⟩) n n),?_,jO _ _ _,?_,?_,?_⟩
   .have hbig:¬(n * ie.size > 2 ^ 24):=by omega
    by_cases h0:n * ie.size=0
    .have e0:=hc0 h0;rw[e0]at g1;simp only[execOp,ho,Instr.buildSlice,Sem.run_bind,run_underlying hu,Result.andThen_ok,run_sizeOf tie,hbig,GK,Sem.run_ite,Sem.run_pure,h0,if_true];rw[htl];rw[show(Array.map (λx=>(#[]:Array Value)[x % (#[]:Array Value).size]!) (Array.range 0))=#[] from by simp]
     rw[g1];simp only[Sem.run_bind,newRow,run_newObj,Result.andThen_ok,Sem.run_pure];rfl
    .simp only[execOp,ho,Instr.buildSlice,Sem.run_bind,run_underlying hu,Result.andThen_ok,run_sizeOf tie,hbig,GK,Sem.run_ite,Sem.run_pure,h0,hz1];rw[htl,hc1,g1];simp only[Sem.run_bind,newRow,run_newObj,Result.andThen_ok,Sem.run_pure];rfl
   .intro b hb;rw[aT]at hb;simp[au]at hb;obtain⟨_,rfl⟩:=hb;simp
   .by_cases hn0:n=0
    .exact .inr (.inl ⟨⟨w.heap.size,0,none⟩,by rw[hn0],QL (by rw[q1,hn0])⟩)
    refine .inr (.inr ⟨w.heap.size,n,c1.toArray,by rw[q1],jR _ _,by omega,⟨by omega,?_⟩,?_,?_⟩)
    .have:n<=n * ie.size:=ZT n (by omega)
     simp only[maxLen];omega
    .have e:=g2.length;rw[hl2]at e;simp only[CO];rw[hl1];omega
    .have e:=g2.length;rw[hl2]at e;rw[q1,hl1,Gy (by simp;omega)];exact q2
   .exact⟨⟨_,jw (jS ah) _,rfl⟩,rfl,rfl⟩
  .cases k
 .cases k
end
theorem iq(w:World) (g:Nat) (cs:Array Value):Gb w (w.setRow g cs) (some g):=
 ⟨⟨rfl,rfl,rfl,by simp,λk _ hk=>setRow_other w g k cs λe=>hk (by rw[e])⟩,mZ _⟩
theorem dS{i:TI} (k:aU P t i){g o:Nat}{tt:TypeId}{cur:Array Value} (hg:w.heap[g]?=some (.cells cur tt (0,0)))
 (hs:v.cells.size=i.size) (hfit:o+i.size<=cur.size) (h1:∀u∈v.cells.toList,bZ u):
 (Instr.storeAt t (.pointer (some ⟨g,o,none⟩)) v).run P w=.ok () (w.setRow g (cur.toList.take o++v.cells.toList++cur.toList.drop (o+i.size)).toArray):=by
 have:=run_storeCells_at P g o tt v.cells.toList 0 cur w hg (by simp;omega) (λu hu=>(h1 u hu).2)
 simp only[O1,OL]at this;simp only[Instr.storeAt,Instr.sureAddr,Sem.run_bind,Sem.run_pure,Result.andThen_ok,storeVar,run_sizeOf k,hs,ne_eq,not_true_eq_false,GK,Sem.run_ite];rw[<-hs];exact this
theorem aI.one{xs:List SC}{ys:List Value} (a:aI (λx y=>dG h β x y/\bZ y) xs ys):∀u∈ys,bZ u:=by
 induction xs generalizing ys with
 | nil=>cases ys with
   | nil=>intro u hu;simp at hu
   | cons _ _=>exact a.elim
 | cons x xs ih=>cases ys with
   | nil=>exact a.elim
   | cons y ys=>
     intro u hu;rcases jM.1 hu with rfl | hu
     .exact a.1.2
     .exact ih a.2 u hu
abbrev EJ(cx:Cx) (s:St) (d:Option Nat) (t:TypeId) (p x:Operand) (K:St->Prop):Prop:=match mQ cx.ti t with
 | none=>False
 | some i=>match bI cx s [] p with
   | some (.one (.c (.own r off)))=>match bI cx s [] x with
     | some (.one v)=>match dH s.T r with
       | some ([],.blk tt cs)=>match v with
         | .dat sh dd=>match bY (Nat.beq off 0) (bY (Nat.beq (aJ cs) i.size) (Nat.beq sh.size i.size)) with
           | true=>K ({ s with T:=bQ s.T r ([],.obj tt sh dd) }.put d [] (.one .und))
           | false=>False
         | v=>match lD v with
           | some xs=>match bY (Nat.beq (aJ xs) i.size) (Nat.ble (off+i.size) (aJ cs)) with
             | true=>K ({ s with T:=bQ s.T r ([],.blk tt (Pv off xs cs)) }.put d [] (.one .und))
             | false=>False
           | none=>False
       | some ([],.obj tt sh d0)=>match vV sh d0 off i.size v with
         | some dd=>K ({ s with T:=bQ s.T r ([],.obj tt sh dd) }.put d [] (.one .und))
         | none=>False
       | _=>False
     | _=>False
   | some (.one (.c (.jh r j sz off)))=>match bI cx s [] x with
     | some (.one v)=>match dH s.T r with
       | some ([],.row tt sh l)=>match bY (Nat.beq sz sh.size) (bY (Nat.beq off 0) (Nat.beq sh.size i.size)) with
         | true=>match toDat sh v with
           | some dd=>(j < l.length)/\K ({ s with T:=bQ s.T r ([],.row tt sh (l.set j dd)) }.put d [] (.one .und))
           | none=>False
         | false=>match Nat.beq sz sh.size with
           | true=>(j < l.length)/\∀e:sh.den,l[j]?=some e->match vV sh e off i.size v with
             | some dd=>K ({ s with T:=bQ s.T r ([],.row tt sh (l.set j dd)) }.put d [] (.one .und))
             | none=>False
           | false=>False
       | some ([],.obj tt sh d0)=>match xP sh d0 off j sz i.size v with
         | some p=>(j < p.1)/\K ({ s with T:=bQ s.T r ([],.obj tt sh p.2) }.put d [] (.one .und))
         | none=>False
       | _=>False
     | _=>False
   | _=>False
section
variable {cx:Cx}{P:Program}{N:Nat}{B:Base}{h0:FH}{s:St}{h:FH}{β:List RV}{w:World}{a:Act}{o:Oper}{K:St->Prop}
theorem uV{s:St}{x:aC}:eff s.gl (bQ s.T r ([],x))=(eff s.gl s.T).set r x:=by rw[dY]
theorem nO(ah:Sat N B h0 s h β w a){x:aC}:∀p∈bQ s.T r ([],x),qX s.gl.length p.1=true:=by
 intro p hp;rw[dM]at hp;rcases LH hp with hp | hp
 .exact ah.gT p hp
 .subst hp;rfl
theorem oI(ah:Sat N B h0 s h β w a) (hq:quietly o.op=false) (hd:jC N o.dst=true){g:Nat}{x x':aC} (hT:dH s.T r=some ([],x)) (hl:x.live=true) (hu:β[r]?=some u) (hub:u.block=some g){cs:Array Value}
 (hold:Holds h β (w.setRow g cs) x' u) (run:(execOp a.eval o).run P w=.ok .skip (w.setRow g cs)) (k:K ({ s with T:=bQ s.T r ([],x') }.put o.dst [] (.one .und))):
 eG P N B h0 h w a o (gv s.gl []) K:=by
 have eF:=bf hT (show gv s.gl []=true from rfl)
 have ok:OK B h0 (eff s.gl (bQ s.T r ([],x'))) h β (w.setRow g cs):=by
  rw[uV];have:=ah.ok.upd (r':=x') (v:=u) eF hl hu (row:=some g) (iq w g cs) (λk e=>by cases e;exact .inl hub) (λb hb=>.inl hb) (.inl rfl) (by rw[iF hu];exact hold)
  rwa [iF hu]at this
 refine kN ah k rfl hq (.inr ⟨run,rfl⟩) (FH.le.refl h) ((ah.mem ok (FH.le.refl h) (Ext.refl β) (nO ah)).put (cZ hd) rfl (λ_=>rfl) λhh=>by cases hh)
theorem JC(hc:bT P cx.ti) (ah:Sat N B h0 s h β w a) (hg:aG cx.gd h) (hd:jC N o.dst=true){p x:Operand} (ho:o.op=.store t p x) (k:EJ cx s o.dst t p x K):
 eG P N B h0 h w a o (gv s.gl []) K:=by
 have tr:gv s.gl []=true:=rfl;unfold EJ at k;split at k
 .cases k
 rename_i i hi;have ti:=hc.get hi;have exec:∀{w':World}{v pv:Value},a.eval x=v->a.eval p=pv->(Instr.storeAt t pv v).run P w=.ok () w'->(execOp a.eval o).run P w=.ok .skip w':=by
  intro w' v pv e1 e2 r;simp only[execOp,ho,e1,e2,Sem.run_bind,r,Result.andThen_ok,Sem.run_pure]
 split at k
 .rename_i r off hp;obtain⟨⟨b,hb,ep⟩,_⟩:=aH ah hg tr hp;split at k
  .rename_i v hv;have cv:=aH ah hg tr hv;split at k
   .rename_i tt cs hT;obtain⟨ys,he,hall⟩:=ah.ok.holds r _ _ (bf hT tr) hb;have hlen:=hall.length;split at k
    .rename_i sh dd;split at k
     .rename_i hz;rw[ay,ay,A8,A8]at hz;have hz1:off=0:=gI hz.1;have hz2:cs.length=i.size:=by have:=gI hz.2.1;rwa [aV]at this
      have hz3:sh.size=i.size:=gI hz.2.2;subst hz1;obtain⟨_,cs',ev,rd⟩:=cv;have hsz:=Rd.size sh rd;have r1:=dS (o:=0) (v:=a.eval x) ti he (by rw[ev];simp[Value.cells];omega) (by simp;omega) (by rw[ev];intro u hu;exact Rd.one sh rd u (by simpa[Value.cells]using hu))
      refine oI ah (by rw[ho];rfl) hd hT rfl hb rfl ?_ (exec rfl ep r1) k
      refine⟨_,setRow_heap w b _ _ tt (0,0) he,?_⟩;simp only[OW,LP,yU];rw[Wp (by first | omega | (simp;omega)),OO,ev]
      exact rd
     .cases k
    .split at k
     .rename_i xs hxs;split at k
      .rename_i hz;rw[ay,A8]at hz;have hz1:xs.length=i.size:=by have:=gI hz.1;rwa [aV]at this
       have hz2:off+i.size<=cs.length:=by have:=lK hz.2;rwa [aV]at this
       have hall':=uT hxs cv;have hl':=hall'.length;simp only[OL]at hl';have r1:=dS (o:=off) (v:=a.eval x) ti he (by omega) (by simp;omega) hall'.one
       refine oI ah (by rw[ho];rfl) hd hT rfl hb rfl ?_ (exec rfl ep r1) k
       refine⟨_,setRow_heap w b _ _ tt (0,0) he,?_⟩;unfold Pv;rw[dW,dW,jc,oh,aV,hz1];simp only[];rw[CJ];exact(hall.take off).cat (hall'.cat (hall.drop _))
      .cases k
     .cases k
   .rename_i tt sh d0 hT;obtain⟨ys,he,rd0⟩:=ah.ok.holds r _ _ (bf hT tr) hb;split at k
    .rename_i dd hdd;obtain⟨cs',ec,e2,e3,e4,e5⟩:=lF sh hdd rd0 cv;have r1:=dS (o:=off) (v:=a.eval x) ti he (by rw[ec];simp;omega) (by simp;omega) (by rw[ec];intro u hu;exact e3 u (by simpa using hu))
     refine oI ah (by rw[ho];rfl) hd hT rfl hb rfl ?_ (exec rfl ep r1) k
     refine⟨_,setRow_heap w b _ _ tt (0,0) he,?_⟩;rw[ec];exact e5
    .cases k
   .cases k
  .cases k
 .rename_i r j sz off hp;obtain⟨⟨v0,g,hb,hgb,ep⟩,_⟩:=aH ah hg tr hp;split at k
  .rename_i v hv;have cv:=aH ah hg tr hv;split at k
   .rename_i tt sh l hT
    -- a store of k cells at a place of the j-th element
    have part:∀{e dd:sh.den},sz=sh.size->l[j]?=some e->(∀{cs:List Value},Rd h sh cs e->V5 h sh cs off i.size (a.eval x) dd) ->
     K ({ s with T:=bQ s.T r ([],.row tt sh (l.set j dd)) }.put o.dst [] (.one .und))->eG P N B h0 h w a o (gv s.gl []) K:=by
     intro e dd hz1 hej hu k;have hj:=(eU.1 hej).1;have hold:=ah.ok.holds r _ _ (bf hT tr) hb
     match v0,hold with
     | .row vv,hold=>
       rcases hold with⟨hv0,_⟩ | ⟨_,hv0,_⟩ | ⟨g',cap,cur,hv0,he,q2,q3,q4,q5⟩
       .subst hv0;simp[RV.block,au]at hgb
       .subst hv0;simp[RV.block,au]at hgb
       .have hgg:g'=g:=by rw[hv0]at hgb;exact VZ ((nZ q3.1).symm.trans hgb)
        subst hgg;have hm:(j+1) * sh.size<=l.length * sh.size:=vO _ hj;have hm2:l.length * sh.size<=cap * sh.size:=vO _ q2;rw[uN]at hm;obtain⟨g1,g2⟩:=q5.get (λ_ _=>Rd.size sh) hej
        have gl:=Rd.size sh g1;obtain⟨cs',ec,e2,e3,e4,e5⟩:=hu g1;rw[gl]at e4;have r1:=dS (o:=j * sz+off) (v:=a.eval x) ti he (by rw[ec];simp;omega) (by rw[hz1];omega) (by rw[ec];intro u hu;exact e3 u (by simpa using hu))
        refine oI ah (by rw[ho];rfl) hd hT rfl hb hgb ?_ (exec rfl ep r1) k
        rw[ec,hz1];refine .inr (.inr ⟨g',cap,_,by rw[hv0,Eo],setRow_heap w g' _ _ tt (0,0) he,by rw[Eo];exact q2,q3,?_,?_⟩)
        .simp only[CO,kD,mY,yT,OL];omega
        .rw[Eo];show eX (Rd h sh) ((List.take (j * sh.size+off) cur.toList++cs'++List.drop (j * sh.size+off+i.size) cur.toList).take (l.length * sh.size)) (l.set j dd);have e:=eX.set (λ_ _=>Rd.size sh) q5 hj e5
         have lc:cur.toList.length=cap * sh.size:=by simpa using q4
         have key:(List.take (j * sh.size+off) cur.toList++cs'++List.drop (j * sh.size+off+i.size) cur.toList).take (l.length * sh.size) =
          List.take (j * sh.size) (List.take (l.length * sh.size) cur.toList)++(List.take off (List.take sh.size (List.drop (j * sh.size) (List.take (l.length * sh.size) cur.toList)))++cs'++List.drop (off+i.size) (List.take sh.size (List.drop (j * sh.size) (List.take (l.length * sh.size) cur.toList))))++List.drop (j * sh.size+sh.size) (List.take (l.length * sh.size) cur.toList):=by
          apply LK;intro p;simp only[ZU,uh,Gv,kD,mY,yT,lc,e2]
          repeat' split
          all_goals first | rfl | omega | (congr 1;omega) | (rw[LJ (by omega)]) | (exfalso;omega) | skip
         rw[key];exact e
    split at k
    .rename_i hz;rw[ay,ay,A8,A8]at hz;have hz1:sz=sh.size:=gI hz.1;have hz2:off=0:=gI hz.2.1;have hz3:sh.size=i.size:=gI hz.2.2;split at k
     .rename_i dd hdd;obtain⟨hj,k⟩:=k;refine part hz1 (kW hj) (λhr=>?_) k
      subst hz2;exact xO hz3 hdd hr cv
     .cases k
    .split at k
     .rename_i hz;have hz1:sz=sh.size:=gI hz;obtain⟨hj,k⟩:=k;have k:=k _ (kW hj);split at k
      .rename_i dd hdd;exact part hz1 (kW hj) (λhr=>lF sh hdd hr cv) k
      .cases k
     .cases k
   .rename_i tt sh d0 hT;split at k
    .rename_i p hp0;obtain⟨hj,k⟩:=k;have hold:=ah.ok.holds r _ _ (bf hT tr) hb
     match v0,hold with
     | .blk b,⟨ys,he,rd0⟩=>
       have hgg:b=g:=by simpa[RV.block]using hgb
       subst hgg;obtain⟨cs',ec,e2,e3,e4,e5⟩:=Ez sh hp0 rd0 cv hj;have r1:=dS (o:=j * sz+off) (v:=a.eval x) ti he (by rw[ec];simp;omega) (by simp;omega) (by rw[ec];intro u hu;exact e3 u (by simpa using hu))
       refine oI ah (by rw[ho];rfl) hd hT rfl hb hgb ?_ (exec rfl ep r1) k
       refine⟨_,setRow_heap w b _ _ tt (0,0) he,?_⟩;rw[ec];exact e5
    .cases k
   .cases k
  .cases k
 .cases k
end
def wE(n bytes:Nat):Prop:=n * bytes<=140737488355328
abbrev zn(i:Nat) (x:SC):SC:=match SC.free i x with
 | true=>x
 | false=>.junk
abbrev jkV(i:Nat):SV->SV
 | .c x=>.c (zn i x)
 | .agg xs=>.agg (dQ (zn i) xs)
 | v=>v
abbrev jkE(i:Nat):aW->aW
 | .one v=>.one (jkV i v)
 | .iQ vs=>.iQ (dQ (jkV i) vs)
abbrev V6(i:Nat):aC->aC
 | .blk t cs=>.blk t (dQ (zn i) cs)
 | r=>r
abbrev qF(i:Nat):List (Nat×Gd×aW)->List (Nat×Gd×aW)
 | []=>[]
 | (k,g,e) :: l=>(k,g,jkE i e) :: qF i l
abbrev Hf(i:Nat):List (Gd×aC)->List (Gd×aC)
 | []=>[]
 | (g,r) :: l=>(g,V6 i r) :: Hf i l
theorem dG.jk{x:SC}{y:Value} (v:RV) (c:dG h β x y):dG h (β.set i v) (zn i x) y:=by
 unfold zn;split
 .rename_i hf;exact c.set hf
 .trivial
theorem dG.jk0{x:SC}{y:Value} (c:dG h β x y):dG h β (zn i x) y:=by
 unfold zn;split
 .exact c
 .trivial
theorem aI.jk{h:FH}{β:List RV}{i:Nat} (v:RV):∀{xs:List SC}{ys:List Value},aI (λx y=>dG h β x y/\bZ y) xs ys->aI (λx y=>dG h (β.set i v) x y/\bZ y) (dQ (zn i) xs) ys
 | [],[],_=>trivial
 | _ :: _,_ :: _,⟨a,b⟩=>⟨⟨a.1.jk v,a.2⟩,aI.jk v b⟩
theorem aI.jk0{h:FH}{β:List RV}{i:Nat}:∀{xs:List SC}{ys:List Value},aI (λx y=>dG h β x y/\bZ y) xs ys->aI (λx y=>dG h β x y/\bZ y) (dQ (zn i) xs) ys
 | [],[],_=>trivial
 | _ :: _,_ :: _,⟨a,b⟩=>⟨⟨a.1.jk0,a.2⟩,aI.jk0 b⟩
theorem bV.jk{h:FH}{β:List RV}{i:Nat} (v:RV):∀{x:SV}{y:Value},bV h β x y->bV h (β.set i v) (jkV i x) y
 | .c _,_,c=>⟨c.1.jk v,c.2⟩
 | .agg _,_,⟨ys,e,a⟩=>⟨ys,e,a.jk v⟩
 | .dat _ _,_,c=>c
 | .und,_,c=>c
theorem iO.jk{h:FH}{β:List RV}{i:Nat} (v:RV):∀{x:aW}{y:Value},iO h β x y->iO h (β.set i v) (jkE i x) y
 | .one _,_,c=>bV.jk v c
 | .iQ _,_,⟨ys,e,a⟩=>⟨ys,e,go a⟩
where
 go:∀{xs:List SV}{ys:List Value},aI (bV h β) xs ys->aI (bV h (β.set i v)) (dQ (jkV i) xs) ys
  | [],[],_=>trivial
  | _ :: _,_ :: _,⟨a,b⟩=>⟨a.jk v,go b⟩
theorem Holds.jk0{h:FH}{β:List RV}{w:World}{i:Nat}:∀{r:aC}{v:RV},Holds h β w r v->Holds h β w (V6 i r) v
 | .blk _ _,.blk _,⟨ys,e,a⟩=>⟨ys,e,a.jk0⟩
 | .row _ _ _,.row _,e=>e
 | .obj _ _ _,.blk _,e=>e
 | .deep _ _ _ _ _ _ _ _,.deep _ _,e=>e
 | .mp _ _ _,.row _,e=>e
 | .Jd _ _ _ _,.deep _ _,e=>e
 | .it _ _ _ _,.blk _,e=>e
 | .GL _ _ _ _,.row _,e=>e
 | .Dk _ _ _ _,.deep _ _,e=>e
 | .gone,_,_=>trivial
theorem RP(i:Nat) (x:SC):SC.free i (zn i x)=true:=by
 unfold zn;split
 .assumption
 .rfl
theorem Ah(i:Nat):∀xs:List SC,sN i (dQ (zn i) xs)=true
 | []=>rfl
 | x :: l=>by simp only[dQ,sN,RP,Ah i l,Bool.and_self]
theorem Hg(i:Nat) (r:aC):aC.free i (V6 i r)=true:=by
 cases r with
 | blk t cs=>exact Ah i cs
 | _=>rfl
theorem rJ(i:Nat) (r:aC):(V6 i r).live=r.live:=by cases r<;>rfl
theorem Ai(i:Nat):∀{l:List (Nat×Gd×aW)}{t:Nat}{G:Gd}{e:aW},fH (qF i l) t=some (G,e)->∃e0,fH l t=some (G,e0)/\e=jkE i e0
 | [],_,_,_,h=>by simp[qF,fH]at h
 | (k,g,e0) :: l,t,G,e,h=>by
   simp only[qF]at h;rw[aX]at h ⊢
   split at h
   .rename_i hk;cases h;exact⟨e0,by rw[if_pos hk],rfl⟩
   .rename_i hk;rw[if_neg hk];exact Ai i h
theorem EK(i:Nat):∀{l:List (Nat×Gd×aW)}{t:Nat}{G:Gd}{e:aW},fH l t=some (G,e)->fH (qF i l) t=some (G,jkE i e)
 | [],_,_,_,h=>by simp[fH]at h
 | (k,g,e0) :: l,t,G,e,h=>by
   simp only[qF];rw[aX]at h ⊢
   split at h
   .rename_i hk;cases h;rw[if_pos hk]
   .rename_i hk;rw[if_neg hk];exact EK i h
theorem JD(gl:List Bool) (i:Nat):∀{T:List (Gd×aC)},eff gl (Hf i T)=(eff gl T).map (V6 i)
 | []=>rfl
 | (g,r) :: l=>by
   simp only[Hf,eff,Es,JD gl i (T:=l)]
   congr 1
   cases gv gl g<;>rfl
section
variable {cx:Cx}{P:Program}{N:Nat}{B:Base}{h0:FH}{s:St}{h:FH}{β:List RV}{w:World}{a:Act}{o:Oper}{K:St->Prop}
theorem OK.jk(ok:OK B h0 T h β w) (i:Nat):OK B h0 (T.map (V6 i)) h β w where
 below:=ok.below
 dr:=ok.dr
 len:=by simp[ok.len]
 holds:=by
  intro j r v e e';rw[Gw]at e;cases hj:T[j]? with
  | none=>rw[hj]at e;cases e
  | some r0=>rw[hj]at e;cases e;exact(ok.holds j r0 v hj e').jk0
 own:=by
  intro j r v b e hl e' hb;rw[Gw]at e;cases hj:T[j]? with
  | none=>rw[hj]at e;cases e
  | some r0=>rw[hj]at e;cases e;exact ok.own j r0 v b hj (by rw[<-rJ i];exact hl) e' hb
 inj:=by
  intro j k r1 r2 u v b e1 l1 e2 l2 e3 e4 b1 b2;rw[Gw]at e1 e2;cases hj:T[j]? with
  | none=>rw[hj]at e1;cases e1
  | some q1=>
    cases hk:T[k]? with
    | none=>rw[hk]at e2;cases e2
    | some q2=>
      rw[hj]at e1;rw[hk]at e2;cases e1;cases e2;exact ok.inj j k q1 q2 u v b hj (by rw[<-rJ i];exact l1) hk (by rw[<-rJ i];exact l2) e3 e4 b1 b2
 hle:=ok.hle
 hw:=ok.hw
 hg:=ok.hg
 kn:=ok.kn
theorem PG(ah:Sat N B h0 s h β w a) (hq:quietly o.op=false) (hd:jC N o.dst=true){x x':aC}{v:RV} (hT:dH s.T r=some ([],x)) (hl:x.live=true) (hu:β[r]?=some u){y:Value}
 (hg:Gb w w' u.block) (hv:∀b,v.block=some b->u.block=some b\/(w.heap.size<=b/\b < w'.heap.size)) (hvs:∀b,¬v.sub b:=by exact λ_ h=>h) (hold:Holds h (β.set r v) w' x' v)
 (run:(execOp a.eval o).run P w=.ok (.value y) w'){e:aW} (he:iO h (β.set r v) e y)
 (k:K ({ s with T:=bQ (Hf r s.T) r ([],x'),env:=qF r s.env }.put o.dst [] e)):
 eG P N B h0 h w a o (gv s.gl []) K:=by
 have tr:gv s.gl []=true:=rfl;have eF:=bf hT tr;have okj:=ah.ok.jk r;have hTj:((eff s.gl s.T).map (V6 r))[r]?=some (V6 r x):=by rw[Gw,eF];rfl
 have ok:OK B h0 (eff s.gl (bQ (Hf r s.T) r ([],x'))) h (β.set r v) w':=by
  rw[dY,JD];refine okj.upd hTj (by rw[rJ];exact hl) hu hg (λk e=>.inl e) (λb hb=>hb.elim (λq=>(hv b q).imp .inl id) λq=>(hvs b q).elim) (.inr λj rj _ ej=>?_) hold
  rw[Gw]at ej;cases hj:(eff s.gl s.T)[j]? with
  | none=>rw[hj]at ej;cases ej
  | some q=>rw[hj]at ej;cases ej;exact Hg r q
 have aK:Sat N B h0 { s with T:=bQ (Hf r s.T) r ([],x'),env:=qF r s.env } h (β.set r v) w' a:=by
  refine⟨ok,?_,?_,ah.defers,ah.sz,?_,?_⟩
  .intro t G e ht;obtain⟨e0,h1,rfl⟩:=Ai r ht;obtain⟨z,q1,q2,q3⟩:=ah.env t G e0 h1;exact⟨z,q1,λhG=>(q2 hG).jk v,q3⟩
  .intro d i hi;obtain⟨G,b,q1,q2⟩:=ah.gs d i hi;exact⟨G,b,EK r q1,q2⟩
  .intro t G e ht;obtain⟨e0,h1,rfl⟩:=Ai r ht;exact ah.gb t G e0 h1
  .intro p hp;simp only at hp;rw[dM]at hp;rcases LH hp with hp | hp
   .have:∀{l:List (Gd×aC)},p∈Hf r l->∃q∈l,q.1=p.1:=by
     intro l
     induction l with
     | nil=>intro hh;simp[Hf]at hh
     | cons q l ih=>
       obtain⟨g,q⟩:=q;intro hh;simp only[Hf,jM]at hh;rcases hh with rfl | hh
       .exact⟨(g,q),by simp,rfl⟩
       .obtain⟨q',h1,h2⟩:=ih hh;exact⟨q',by simp[h1],h2⟩
    obtain⟨q,h1,h2⟩:=this hp;rw[<-h2];exact ah.gT q h1
   .subst hp;rfl
 exact kN ah k tr hq (.inl run) (FH.le.refl h) (aK.put (cZ hd) rfl (λ_=>he) λhh=>by cases hh)
end
def MB(h:FH) (w:World) (sh:Sh) (v:Value) (l:List sh.den):Prop:=
 (v=.slice none 0 0/\l=[])\/(∃a c,v=.slice (some a) 0 c/\l=[])\/∃b o c cs,v=.slice (some ⟨b,o,none⟩) l.length c/\eX (Rd h sh) cs l/\∀j u,cs[j]?=some u->w.cell? ⟨b,o+j,none⟩=some u
def MC(h:FH) (w:World) (t:TypeId) (sh:Sh) (v:Value) (l:List sh.den):Prop:=Holds h [] w (.row t sh l) (.row v)
theorem lY{ty:TypeId}{i:TI}{sh:Sh}{sv:Value}{l l2:List sh.den} (hu:P.underlying t=some (.slice el)) (k:aU P el i) (hs:sh.size=i.size)
 (hb1:1<=i.bytes) (hs1:1<=i.size) (row:MC h w el sh v l) (src:MB h w sh sv l2) (room:wE (l.length+l2.length) i.bytes)
 (hw:∀b o u,h b o=some u->vis w b o=some u):
 ∃v' w',(Builtin.append_ #[t,t] ty #[v,sv]).run P w=.ok v' w'/\Gb w w' (au v)/\(∀b,au v'=some b->au v=some b\/(w.heap.size<=b/\b < w'.heap.size))/\MC h w' el sh v' (l++l2):=by
 obtain⟨inf,z,i1,i2,i3,i4,i5⟩:=k.info;unfold wE at room;have hn:l.length+l2.length<=140737488355328:=o9 (ZT _ hb1) room;have RQ:z.cells.size=i.size:=by rw[i5];simpa using k.mP
 rcases src with⟨rfl,rfl⟩ | ⟨sa,sc,rfl,rfl⟩ | ⟨b,o,c,cs,rfl,rd,at_⟩
 .refine⟨v,w,?_,bK _ _,λb hb=>.inl hb,by rw[OO];exact row⟩
  rcases row with⟨rfl,rfl⟩ | ⟨_,rfl,rfl⟩ | ⟨g,cap,cur,rfl,q1,q2,q3,q4,q5⟩
  .simp[Builtin.append_,run_underlying hu,sizeOf,typeInfo,i1,Builtin.lenOf,Builtin.firstCells]
  .simp[Builtin.append_,run_underlying hu,sizeOf,typeInfo,i1,Builtin.lenOf,Builtin.firstCells,storeCells]
  .simp[Builtin.append_,run_underlying hu,sizeOf,typeInfo,i1,Builtin.lenOf,Builtin.firstCells,q2,storeCells]
 .refine⟨v,w,?_,bK _ _,λb hb=>.inl hb,by rw[OO];exact row⟩
  rcases row with⟨rfl,rfl⟩ | ⟨_,rfl,rfl⟩ | ⟨g,cap,cur,rfl,q1,q2,q3,q4,q5⟩
  .simp[Builtin.append_,run_underlying hu,sizeOf,typeInfo,i1,Builtin.lenOf,Builtin.firstCells,loadCells,loadCellsFrom]
  .simp[Builtin.append_,run_underlying hu,sizeOf,typeInfo,i1,Builtin.lenOf,Builtin.firstCells,storeCells,loadCells,loadCellsFrom]
  .simp[Builtin.append_,run_underlying hu,sizeOf,typeInfo,i1,Builtin.lenOf,Builtin.firstCells,q2,storeCells,loadCells,loadCellsFrom]
 .have hcs:cs.length=l2.length * inf.size:=by rw[eX.size (λ_ _=>Rd.size sh) rd,i2,hs]
  have hnews:∀j u,cs[j]?=some u->w.cell? ((⟨b,o,none⟩:Addr).add j)=some u:=λj u e=>by rw[add_lit];exact at_ j u e
  have h1:∀u∈cs,u.oneCell'=true:=λu hu'=>(eX.all (λ_ _ r=>Rd.one sh r) rd u hu').2
  rcases row with⟨rfl,rfl⟩ | ⟨ra,rfl,rfl⟩ | ⟨g,cap,cur,rfl,q1,q2,q3,q4,q5⟩
  .by_cases hm:l2.length=0
   .have:l2=[]:=QL hm;subst this;refine⟨.slice none 0 0,w,?_,bK _ _,λb hb=>.inl hb,.inl ⟨rfl,rfl⟩⟩
    simp[Builtin.append_,run_underlying hu,sizeOf,typeInfo,i1,Builtin.lenOf,Builtin.firstCells,loadCells,loadCellsFrom]
   .have r:=run_append_nil (P:=P) w t ty el inf z hu i1 i4 ⟨b,o,none⟩ l2.length c cs hcs hnews (by omega) (by simp at hn;omega) (by rw[i3];simp at room;omega)
    have hge:=grownCap_ge w l2.length 0 el;refine⟨_,_,r,⟨⟨rfl,rfl,rfl,by simp,λk hk _=>(World.grownBy_alloc w.drew _ none).block k hk (by simp)⟩,LQ _⟩,?_,?_⟩
    .intro b' hb';simp[au]at hb';obtain⟨_,rfl⟩:=hb';right;simp
    .refine .inr (.inr ⟨w.heap.size,_,_,rfl,heap_alloc_new w.drew _,by simpa using hge,⟨by omega,grownCap_le_maxLen w l2.length 0 el (by simp only[maxLen];simp at hn;omega)⟩,?_,?_⟩)
     .simp only[VY,CO,size_zeroCells,RQ,hcs,i2,hs,<-Gx]
      congr 1;omega
     .simp only[ZV,LP];rw[show l2.length * sh.size=cs.length by rw[hcs,i2,hs],QW]
      exact rd
  .by_cases hm:l2.length=0
   .have:l2=[]:=QL hm;subst this;refine⟨.slice (some ra) 0 0,w,?_,bK _ _,λb hb=>.inl hb,.inr (.inl ⟨ra,rfl,rfl⟩)⟩
    simp[Builtin.append_,run_underlying hu,sizeOf,typeInfo,i1,Builtin.lenOf,Builtin.firstCells,storeCells,loadCells,loadCellsFrom]
   .have r:=run_append_grow (P:=P) w t ty el inf z hu i1 i4 ra 0 0 [] (by simp) (λj u e=>by simp at e) ⟨b,o,none⟩ l2.length c cs hcs hnews (by omega) (by simp at hn;omega) (growslice_fits (by omega) (by rw[i3];simpa using room))
    rw[yU]at r;have hge:=grownCap_ge w l2.length 0 el;refine⟨_,_,r,⟨⟨rfl,rfl,rfl,by simp,λk hk _=>(World.grownBy_alloc w.drew _ none).block k hk (by simp)⟩,LQ _⟩,?_,?_⟩
    .intro b' hb';simp[au]at hb';obtain⟨_,rfl⟩:=hb';right;simp
    .refine .inr (.inr ⟨w.heap.size,_,_,rfl,heap_alloc_new w.drew _,by simpa using hge,⟨by omega,grownCap_le_maxLen w l2.length 0 el (by simp only[maxLen];simp at hn;omega)⟩,?_,?_⟩)
     .simp only[VY,CO,size_zeroCells,RQ,LP,hcs,i2,hs,yU,OQ,<-Gx]
      congr 1;omega
     .simp only[ZV,LP];rw[show l2.length * sh.size=cs.length by rw[hcs,i2,hs],QW]
      exact rd
  .by_cases hroom:l.length+l2.length<=cap
   .have hfit:l.length * inf.size+cs.length<=cur.size:=by rw[hcs,q4,i2,hs,<-Gx];exact vO _ hroom
    have r:=run_append_room (P:=P) w t ty el inf hu i1 g l.length cap cur q1 ⟨b,o,none⟩ l2.length c cs hcs hnews h1 hroom hfit;refine⟨_,_,r,by rw[aO q3.1];exact iq w g _,λb' hb'=>.inl (by rw[aO q3.1]at hb' ⊢;exact hb'),.inr (.inr ⟨g,cap,_,by rw[kD],setRow_heap w g cur _ el _ q1,by rw[kD];exact hroom,q3,?_,?_⟩)⟩
    .simp only[CO,kD,mY,yT,OL];omega
    .have e1:(List.take (l.length * sh.size) cur.toList++cs).length=(l++l2).length * sh.size:=by
      rw[kD,kD,Gx,hcs,i2,eX.size (λ_ _=>Rd.size sh) q5,hs]
     show eX (Rd h sh) ((List.take (l.length * inf.size) cur.toList++cs++List.drop (l.length * inf.size+cs.length) cur.toList).take ((l++l2).length * sh.size)) (l++l2);rw[i2,<-hs,<-e1,QW];exact q5.append rd
   .have lsz:=eX.size (λ_ _=>Rd.size sh) q5
    have hol:(cur.toList.take (l.length * sh.size)).length=l.length * inf.size:=by rw[lsz,i2,hs]
    have holds:∀j u,(cur.toList.take (l.length * sh.size))[j]?=some u->w.cell? ((⟨g,0,none⟩:Addr).add j)=some u:=by
     intro j u e;rw[add_lit,yU,cell_of_row w g j cur el (0,0) q1];rw[uh]at e;split at e
     .simpa using e
     .cases e
    have r:=run_append_grow (P:=P) w t ty el inf z hu i1 i4 ⟨g,0,none⟩ l.length cap _ hol holds ⟨b,o,none⟩ l2.length c cs hcs hnews (by omega) (by omega) (growslice_fits (by omega) (by rw[i3];exact room))
    have hge:=grownCap_ge w (l.length+l2.length) cap el;refine⟨_,_,r,⟨⟨rfl,rfl,rfl,by simp,λk hk _=>(World.grownBy_alloc w.drew _ none).block k hk (by simp)⟩,LQ _⟩,?_,?_⟩
    .intro b' hb';simp[au]at hb';obtain⟨_,rfl⟩:=hb';right;simp
    .refine .inr (.inr ⟨w.heap.size,_,_,by rw[kD],heap_alloc_new w.drew _,by rw[kD];exact hge,⟨by omega,grownCap_le_maxLen w _ cap el (by simp only[maxLen];omega)⟩,?_,?_⟩)
     .have aa5:(cur.toList.take (l.length * i.size)).length=l.length * i.size:=by rw[<-hs];exact lsz
      simp only[VY,CO,size_zeroCells,RQ,hcs,i2,hs,aa5,<-Gx]
      congr 1
      omega
     .simp only[ZV,CJ];rw[<-CJ,show(l++l2).length * sh.size=(List.take (l.length * sh.size) cur.toList++cs).length by rw[kD,kD,Gx,hcs,lsz,i2,hs],QW]
      exact q5.append rd
abbrev fP(cx:Cx) (t:TypeId) (K:TypeId->TI->Sh->Prop):Prop:=match descOf cx t with
 | .slice el=>match mQ cx.ti el with
   | none=>False
   | some ie=>match ie.jK with
     | none=>False
     | some sh=>match bY (Nat.beq sh.size ie.size) (bY (Nat.ble 1 ie.bytes) (Nat.ble 1 ie.size)) with
       | true=>K el ie sh
       | false=>False
 | _=>False
abbrev EL(s:St) (sh:Sh) (v:SV):Option (List sh.den):=match v with
 | .c (.sl lZ l2)=>iV (.sl lZ) l2 (.sl sh)
 | .c (.v (.slice none 0 0))=>some []
 | .c (.row r)=>match dH s.T r with
   | some ([],.row _ lZ l2)=>iV (.sl lZ) l2 (.sl sh)
   | _=>none
 | _=>none
abbrev sW(cx:Cx) (s:St) (d:Option Nat) (t:TypeId) (x y:Operand) (K:St->Prop):Prop:=fP cx t λel ie sh=>
 match bI cx s [] y with
 | some (.one v2)=>match EL s sh v2 with
   | none=>False
   | some l2=>match bI cx s [] x with
     | some (.one (.c (.row r)))=>match dH s.T r with
       | some ([],.row tt dR l1)=>match Nat.beq tt el with
         | true=>match iV (.sl dR) l1 (.sl sh) with
           | some l=>wE (l.length+l2.length) ie.bytes/\K ({ s with T:=bQ (Hf r s.T) r ([],.row el sh (l++l2)),env:=qF r s.env }.put d [] (.one (.c (.row r))))
           | none=>False
         | false=>False
       | _=>False
     | some (.one (.c (.v (.slice none 0 0))))=>wE l2.length ie.bytes/\K ({ s with T:=snoc s.T ([],.row el sh l2) }.put d [] (.one (.c (.row (aJ s.T)))))
     | _=>False
 | _=>False
section
variable {cx:Cx}{P:Program}{N:Nat}{B:Base}{h0:FH}{s:St}{h:FH}{β:List RV}{w:World}{a:Act}{o:Oper}{K:St->Prop}
theorem l7{dR sh:Sh}{l1:List dR.den}{l:List sh.den} (e:iV (.sl dR) l1 (.sl sh)=some l):∃e':dR=sh,(e'▸l1:List sh.den)=l:=by
 obtain⟨e1,e2⟩:=jv e;cases e1;exact⟨rfl,e2⟩
theorem wF(ah:Sat N B h0 s h β w a){sh:Sh}{v:SV}{l:List sh.den}{y:Value} (e:EL s sh v=some l) (c:bV h β v y):MB h w sh y l:=by
 unfold EL at e;split at e
 .rename_i lZ l2;obtain⟨e1,e2⟩:=l7 e;subst e1;simp only at e2;subst e2;rcases c.1 with⟨e1,e2⟩ | ⟨ad,cap,e1,e2,_⟩ | ⟨b,off,cap,e1,q1,q2,cs,rd,at_⟩
  .exact .inl ⟨e1,e2⟩
  .exact .inr (.inl ⟨ad,cap,e1,e2⟩)
  .exact .inr (.inr ⟨b,off,cap,cs,e1,rd,λj u hj=>zK (ah.ok.hw _ _ _ (at_ j u hj)) (eX.all (λ_ _=>Rd.one _) rd u (kT hj)).2⟩)
 .cases e;exact .inl ⟨c.1.1,rfl⟩
 .rename_i r;split at e
  .rename_i tt lZ l2 hT;obtain⟨e1,e2⟩:=l7 e;subst e1;simp only at e2;subst e2;rcases ah.ok.holds r _ _ (bf hT rfl) (ah.ok.row_of (bf hT rfl) c.1) with⟨e1,e2⟩ | ⟨ra,e1,e2⟩ | ⟨g,cap,cur,e1,q1,q2,q3,q4,rd⟩
   .exact .inl ⟨e1,e2⟩
   .exact .inr (.inl ⟨ra,0,e1,e2⟩)
   .refine .inr (.inr ⟨g,0,cap,_,e1,rd,λj u hj=>?_⟩)
    rw[yU,cell_of_row w g j cur tt (0,0) q1];rw[uh]at hj;split at hj
    .simpa using hj
    .cases hj
  .cases e
 .cases e
theorem yH(hc:bT P cx.ti) (ah:Sat N B h0 s h β w a) (hg:aG cx.gd h) (hd:jC N o.dst=true){x:Operand} (ho:o.op=.call c) (bH:c.callee=.builtin .append) (ha:c.args=#[x,y]) (ht:c.argTypes=#[t,t])
 (k:sW cx s o.dst t x y K):eG P N B h0 h w a o (gv s.gl []) K:=by
 have tr:gv s.gl []=true:=rfl;unfold sW fP at k;split at k
 .rename_i el hde;have hu:=bg hc hde (by simp)
  split at k
  .cases k
  rename_i ie hie;have tie:=hc.get hie;split at k
  .cases k
  rename_i sh hsh;split at k
  .rename_i hz;rw[ay,ay,A8,A8]at hz;have hz1:sh.size=ie.size:=gI hz.1;have hz2:1<=ie.bytes:=lK hz.2.1;have hz3:1<=ie.size:=lK hz.2.2;split at k
   .rename_i v2 hv2;have c2:=aH ah hg tr hv2;split at k
    .cases k
    rename_i l2 hl2;have src:=wF ah hl2 c2;have exec:∀{u u':Value}{w':World},a.eval x=u->(Builtin.append_ #[t,t] o.type #[u,a.eval y]).run P w=.ok u' w'->(execOp a.eval o).run P w=.ok (.value u') w':=by
     intro u u' w' e r;simp[execOp,ho,resolve,bH,ha,ht,invoke,builtin,e,r]
    split at k
    .rename_i r hr;have cr:=aH ah hg tr hr;split at k
     .rename_i tt dR l1 hT;split at k
      .rename_i htt;have htt:tt=el:=gI htt;subst htt;split at k
       .rename_i l hl;obtain⟨e1,e2⟩:=l7 hl;subst e1;simp only at e2;subst e2;have cr1:=ah.ok.row_of (bf hT tr) cr.1;have row:MC h w tt dR (a.eval x) l1:=ah.ok.holds r _ _ (bf hT tr) cr1;obtain⟨v',w',r1,r2,r3,r4⟩:=lY (ty:=o.type) hu tie hz1 hz2 hz3 row src k.1 ah.ok.hw;have gY:r < β.length:=(eU.1 cr1).1;refine PG ah (by rw[ho];simp only[quietly,bH]) hd (v:=.row v') hT rfl cr1 r2 r3 (hold:=show Holds h (β.set r (.row v')) w' (.row tt dR (l1++l2)) (.row v') from r4) (run:=exec rfl r1) (he:=?_) (k:=k.2)
        refine⟨?_,?_⟩
        .refine⟨.row v',?_,rfl⟩;rw[nX gY]
        .rcases r4 with⟨rfl,_⟩ | ⟨_,rfl,_⟩ | ⟨g,cap,cur,rfl,_⟩<;>exact⟨rfl,rfl⟩
       .cases k
      .cases k
     .cases k
    .rename_i hx;have Dw:=aH ah hg tr hx;obtain⟨v',w',r1,r2,r3,r4⟩:=lY (ty:=o.type) (l:=[]) hu tie hz1 hz2 hz3 (.inl ⟨Dw.1.1,rfl⟩) src (by simpa using k.1) ah.ok.hw
     refine jQ ah rfl hd k.2 λ_=>⟨v',w',.row v',exec rfl r1,?_,?_,?_,?_⟩
     .rw[Dw.1.1]at r2;exact r2
     .intro b hb;rcases r3 b (aT.1 hb) with hh | hh
      .rw[Dw.1.1]at hh;cases hh
      .exact hh
     .exact r4
     .refine⟨⟨_,jw (jS ah) _,rfl⟩,?_⟩;rcases r4 with⟨rfl,_⟩ | ⟨_,rfl,_⟩ | ⟨g,cap,cur,rfl,_⟩<;>exact⟨rfl,rfl⟩
    .cases k
   .cases k
  .cases k
 .cases k
end
abbrev MF(cx:Cx) (s:St) (G:Gd) (d:Option Nat) (t:TypeId) (ln cp:Operand) (K:St->Prop):Prop:=fP cx t λel ie sh=>
 match bI cx s G ln with
 | some (.one (.c (.v (.int _ n))))=>match bI cx s G cp with
   | some (.one (.c (.v (.int _ c))))=>side s.gl G (0<=n/\n<=c/\wE c.toNat ie.bytes)/\K ({ s with T:=snoc s.T (G,.row el sh (List.replicate n.toNat (oz sh))) }.put d G (.one (.c (.row (aJ s.T)))))
   | _=>False
 | _=>False
theorem EM{α:Type}{R:List Value->α->Prop}{cs:List Value}{d:α} (r:R cs d):∀n:Nat,eX R (gQ n cs) (List.replicate n d)
 | 0=>rfl
 | n+1=>⟨cs,gQ n cs,by simp only[gQ,dW],r,EM r n⟩
theorem xX{l:List Value}:∀{n m:Nat},n<=m->(gQ m l).take (n * l.length)=gQ n l
 | 0,m,_=>by simp[gQ]
 | n+1,0,h=>by omega
 | n+1,m+1,h=>by
   simp only[gQ,dW];rw[uN,Q9,A99,xX (by omega)]
section
variable {cx:Cx}{P:Program}{N:Nat}{B:Base}{h0:FH}{s:St}{h:FH}{β:List RV}{w:World}{a:Act}{G:Gd}{o:Oper}{K:St->Prop}
theorem PI(hc:bT P cx.ti) (ah:Sat N B h0 s h β w a) (hg:aG cx.gd h) (hG:qX s.gl.length G=true) (hd:jC N o.dst=true){x:Operand} (ho:o.op=.makeSlice t x y)
 (k:MF cx s G o.dst t x y K):eG P N B h0 h w a o (gv s.gl G) K:=by
 unfold MF fP at k;split at k
 .rename_i el hde;have hu:=bg hc hde (by simp)
  split at k
  .cases k
  rename_i ie hie;have tie:=hc.get hie;split at k
  .cases k
  rename_i sh hsh;split at k
  .rename_i hz;rw[ay,ay,A8,A8]at hz;have hz1:sh.size=ie.size:=gI hz.1;have hz2:1<=ie.bytes:=lK hz.2.1;have hz3:1<=ie.size:=lK hz.2.2;split at k
   .rename_i ik n hn;split at k
    .rename_i WV c hcp;refine jQ ah hG hd k.2 λhgv=>?_
     obtain⟨s1,s2,s3⟩:=dU k.1 hgv;have e1:a.eval x=.int ik n:=(aH ah hg hgv hn).1.1;have e2:a.eval y=.int WV c:=(aH ah hg hgv hcp).1.1;obtain⟨inf,z,i1,i2,i3,i4,i5⟩:=tie.info;unfold wE at s3;have hcb:c.toNat<=140737488355328:=o9 (ZT _ hz2) s3;have hb:(inf.bytes:Int) * c<=281474976710656:=by
      rw[i3];have:((c.toNat * ie.bytes:Nat):Int)<=140737488355328:=by omega
      rw[Int.natCast_mul,Int.toNat_of_nonneg (by omega),Int.mul_comm]at this
      omega
     have r:=run_make (P:=P) w t el inf z hu i1 i4 ik WV n c s1 s2 hb (by omega)
     have RS:madeCells z.cells (c.toNat * inf.size)=(gQ c.toNat ie.zero).toArray:=by
      unfold madeCells;rw[i5,i2,<-tie.mP];exact oH (by rw[tie.mP];omega)
     rw[RS]at r;refine⟨.slice (some ⟨w.heap.size,0,none⟩) n.toNat c.toNat,w.alloc (.cells (gQ c.toNat ie.zero).toArray el),.row (.slice (some ⟨w.heap.size,0,none⟩) n.toNat c.toNat),?_,jO _ _ _,?_,?_,?_⟩
     .simp only[execOp,ho,e1,e2,Sem.run_bind,r,Result.andThen_ok,Sem.run_pure]
     .intro b hb';rw[aT]at hb';simp[au]at hb';obtain⟨_,rfl⟩:=hb';simp
     .by_cases hc0:c.toNat=0
      .have hn0:n.toNat=0:=by omega
       exact .inr (.inl ⟨⟨w.heap.size,0,none⟩,by rw[hc0,hn0],by rw[hn0];rfl⟩)
      refine .inr (.inr ⟨w.heap.size,c.toNat,_,by rw[Ws],jR _ _,by rw[Ws];omega,⟨by omega,by simp only[maxLen];omega⟩,?_,?_⟩)
      .simp only[CO,rH,tie.mP,hz1]
      .rw[Ws];show eX (Rd h sh) ((gQ c.toNat ie.zero).take (n.toNat * sh.size)) _;rw[hz1,<-tie.mP,xX (by omega)]
       exact EM (rG (tie.Ph sh hsh).1) _
     .exact⟨⟨_,jw (jS ah) _,rfl⟩,rfl,rfl⟩
    .cases k
   .cases k
  .cases k
 .cases k
end
abbrev dV:(ss:List Sh)->bW ss->List SV
 | [],_=>[]
 | s :: l,d=>iG s d.1 :: dV l d.2
abbrev uX:(ss:List Sh)->List SV->Option (bW ss)
 | [],vs=>match vs with
   | []=>some ()
   | _=>none
 | s :: l,vs=>match vs with
   | v :: r=>match toDat s v with
     | some d=>match uX l r with
       | some e=>some (d,e)
       | none=>none
     | none=>none
   | _=>none
theorem sZ{h:FH}{β:List RV}:∀{ss:List Sh}{vs:List SV}{ys:List Value}{d:bW ss},uX ss vs=some d->aI (bV h β) vs ys->aI (bV h β) (dV ss d) ys
 | [],vs,ys,d,e,a=>by
   unfold uX at e;split at e
   .cases ys with
    | nil=>trivial
    | cons _ _=>exact a.elim
   .cases e
 | s :: l,vs,ys,d,e,a=>by
   unfold uX at e;split at e
   .rename_i v r;cases ys with
    | nil=>exact a.elim
    | cons y ys=>
      split at e
      .rename_i d1 hd;split at e
       .rename_i d2 hr;cases e;obtain⟨cs,e1,rd⟩:=toDat_ok hd a.1;rw[e1];exact⟨iH s rd,sZ hr a.2⟩
       .cases e
      .cases e
   .cases e
structure CT where
 ps:List Sh
 pre:bW ps->Prop
 res:bW ps->List aC×aW
variable {ct:Nat->Option CT}
def EN(P:Program) (gd:Nat->Option (Sigma Sh.den)) (f:FuncId) (ct:CT):Prop:=
 ∀(d:bW ct.ps) (vs:List Value) (h:FH) (B:World),(∀b o v,h b o=some v->vis B b o=some v)->aG gd h->aI (bV h []) (dV ct.ps d) vs->ct.pre d ->
   Calls P f vs.toArray B (λen w'=>∃h' β y,en=.returned y/\OK (Base.of B) h (ct.res d).1 h' β w'/\iO h' β (ct.res d).2 y)
def CTX(P:Program) (gd:Nat->Option (Sigma Sh.den)) (f:FuncId) (suf:List Value) (ct:CT):Prop:=
 ∀(d:bW ct.ps) (vs:List Value) (h:FH) (B:World),(∀b o v,h b o=some v->vis B b o=some v)->aG gd h->aI (bV h []) (dV ct.ps d) vs->ct.pre d ->
   Calls P f (vs++suf).toArray B (λen w'=>∃h' β y,en=.returned y/\OK (Base.of B) h (ct.res d).1 h' β w'/\iO h' β (ct.res d).2 y)
def CTS(P:Program) (gd:Nat->Option (Sigma Sh.den)) (f:FuncId) (sv:List SV) (ct:CT):Prop:=
 ∀(d:bW ct.ps) (vs ys:List Value) (h:FH) (B:World),(∀b o v,h b o=some v->vis B b o=some v)->aG gd h->aI (bV h []) (dV ct.ps d) vs->aI (bV h []) sv ys->ct.pre d ->
   Calls P f (vs++ys).toArray B (λen w'=>∃h' β y,en=.returned y/\OK (Base.of B) h (ct.res d).1 h' β w'/\iO h' β (ct.res d).2 y)
theorem EN.x{gd:Nat->Option (Sigma Sh.den)}{ct:CT} (h:EN P gd f ct):CTX P gd f [] ct:=by
 intro d vs h' B;simpa using h d vs h' B
theorem CTX.ok{gd:Nat->Option (Sigma Sh.den)}{ct:CT} (h:CTX P gd f [] ct):EN P gd f ct:=by
 intro d vs h' B;simpa using h d vs h' B
abbrev SC.sh(n:Nat):SC->SC
 | .own i off=>.own (n+i) off
 | .row i=>.row (n+i)
 | .jh i j sz off=>.jh (n+i) j sz off
 | .sub i j=>.sub (n+i) j
 | .jX i j k sz off=>.jX (n+i) j k sz off
 | x=>x
abbrev SV.sh(n:Nat):SV->SV
 | .c x=>.c (x.sh n)
 | .agg xs=>.agg (dQ (SC.sh n) xs)
 | v=>v
abbrev aW.sh(n:Nat):aW->aW
 | .one v=>.one (v.sh n)
 | .iQ vs=>.iQ (dQ (SV.sh n) vs)
abbrev aC.sh(n:Nat):aC->aC
 | .blk t cs=>.blk t (dQ (SC.sh n) cs)
 | r=>r
abbrev iw:Sh->Bool
 | .int _=>true
 | .bool=>true
 | .str=>true
 | .unit=>true
 | .pair a b=>bY (iw a) (iw b)
 | .arr _ s=>iw s
 | _=>false
abbrev kZ:SC->Bool
 | .v _=>true
 | .own _ _=>true
 | .row _=>true
 | _=>false
abbrev allL{α:Type} (p:α->Bool):List α->Bool
 | []=>true
 | x :: l=>bY (p x) (allL p l)
abbrev JE:SV->Bool
 | .c x=>kZ x
 | .agg xs=>allL kZ xs
 | .dat s _=>iw s
 | .und=>true
abbrev EO:aW->Bool
 | .one v=>JE v
 | .iQ vs=>allL JE vs
abbrev tu:aC->Bool
 | .blk _ cs=>allL kZ cs
 | .row _ s _=>iw s
 | .obj _ s _=>iw s
 | .deep _ _ _ _ _ _ _ _=>false
 | .mp _ s _=>iw s
 | .Jd _ _ _ _=>false
 | .it _ _ _ _=>false
 | .GL _ _ _ _=>true
 | .Dk _ _ _ _=>false
 | .gone=>true
theorem Rd.flat{h h':FH}:∀(s:Sh){cs:List Value}{d:s.den},iw s=true->Rd h s cs d->Rd h' s cs d
 | .int _,_,_,_,r=>r
 | .bool,_,_,_,r=>r
 | .str,_,_,_,r=>r
 | .unit,_,_,_,r=>r
 | .any,_,_,f,_=>by simp[iw]at f
 | .sl _,_,_,f,_=>by simp[iw]at f
 | .pair a b,_,(_,_),f,⟨c1,c2,e,r1,r2⟩=>by
   simp only[iw,ay,A8]at f;exact⟨c1,c2,e,r1.flat a f.1,r2.flat b f.2⟩
 | .arr _ s,_,_,f,⟨e,r⟩=>⟨e,r.mono λ_ _=>Rd.flat s f⟩
theorem l9{v:RV} (e:β'[i]?=some v):(β++β')[β.length+i]?=some v:=by
 rw[Jh (by omega)];simpa using e
theorem dG.shift:∀{x:SC}{y:Value},dG h β' x y->dG h (β++β') (x.sh β.length) y
 | .v _,_,c=>c
 | .sl _ _,_,c=>c
 | .fp _ _,_,c=>c
 | .one _ _,_,c=>c
 | .own _ _,_,⟨b,e,e'⟩=>⟨b,l9 e,e'⟩
 | .row _,_,⟨v,e,e'⟩=>⟨v,l9 e,e'⟩
 | .jh _ _ _ _,_,⟨v,g,e,e'⟩=>⟨v,g,l9 e,e'⟩
 | .sub _ _,_,⟨v,us,e,e'⟩=>⟨v,us,l9 e,e'⟩
 | .jX _ _ _ _ _,_,⟨v,us,g,e,e'⟩=>⟨v,us,g,l9 e,e'⟩
 | .abs _,_,c=>c
 | .junk,_,_=>trivial
theorem dG.flat:∀{x:SC}{y:Value},kZ x=true->dG h β x y->dG h' β x y
 | .v _,_,_,c=>c
 | .own _ _,_,_,c=>c
 | .row _,_,_,c=>c
 | .sl _ _,_,f,_=>by simp[kZ]at f
 | .fp _ _,_,f,_=>by simp[kZ]at f
 | .one _ _,_,f,_=>by simp[kZ]at f
 | .jh _ _ _ _,_,f,_=>by simp[kZ]at f
 | .sub _ _,_,f,_=>by simp[kZ]at f
 | .jX _ _ _ _ _,_,f,_=>by simp[kZ]at f
 | .abs _,_,f,_=>by simp[kZ]at f
 | .junk,_,f,_=>by simp[kZ]at f
theorem aI.dQ{α β:Type}{R R':α->β->Prop}{f:α->α} (hR:∀a b,R a b->R' (f a) b):∀{l:List α}{m:List β},aI R l m->aI R' (dQ f l) m
 | [],[],_=>trivial
 | _ :: _,_ :: _,⟨a,b⟩=>⟨hR _ _ a,aI.dQ hR b⟩
theorem aI.allL{α β:Type}{R R':α->β->Prop}{p:α->Bool} (hR:∀a b,p a=true->R a b->R' a b):∀{l:List α}{m:List β},allL p l=true->aI R l m->aI R' l m
 | [],[],_,_=>trivial
 | _ :: _,_ :: _,f,⟨a,b⟩=>by
   simp only[lM.allL,ay,A8]at f;exact⟨hR _ _ f.1 a,aI.allL hR f.2 b⟩
theorem bV.shift{h:FH}{β β':List RV}:∀{x:SV}{y:Value},bV h β' x y->bV h (β++β') (x.sh β.length) y
 | .c _,_,c=>⟨c.1.shift,c.2⟩
 | .agg _,_,⟨ys,e,a⟩=>⟨ys,e,a.dQ λ_ _ ⟨p,q⟩=>⟨p.shift,q⟩⟩
 | .dat _ _,_,c=>c
 | .und,_,c=>c
theorem bV.flat{h h':FH}{β:List RV}:∀{x:SV}{y:Value},JE x=true->bV h β x y->bV h' β x y
 | .c _,_,f,c=>⟨c.1.flat f,c.2⟩
 | .agg _,_,f,⟨ys,e,a⟩=>⟨ys,e,a.allL (λ_ _ f ⟨p,q⟩=>⟨p.flat f,q⟩) f⟩
 | .dat s _,_,f,⟨g,cs,e,r⟩=>⟨g,cs,e,r.flat s f⟩
 | .und,_,_,c=>c
theorem iO.shift{h:FH}{β β':List RV}:∀{x:aW}{y:Value},iO h β' x y->iO h (β++β') (x.sh β.length) y
 | .one _,_,c=>bV.shift c
 | .iQ _,_,⟨ys,e,a⟩=>⟨ys,e,a.dQ (f:=SV.sh β.length) λ_ _ c=>bV.shift c⟩
theorem iO.flat{h h':FH}{β:List RV}:∀{x:aW}{y:Value},EO x=true->iO h β x y->iO h' β x y
 | .one _,_,f,c=>bV.flat f c
 | .iQ _,_,f,⟨ys,e,a⟩=>⟨ys,e,a.allL (λ_ _=>bV.flat) f⟩
theorem Holds.shift{h:FH}{β β':List RV}{w:World}:∀{r:aC}{v:RV},Holds h β' w r v->Holds h (β++β') w (r.sh β.length) v
 | .blk _ _,.blk _,⟨ys,e,a⟩=>⟨ys,e,a.dQ λ_ _ ⟨p,q⟩=>⟨p.shift,q⟩⟩
 | .row _ _ _,.row _,c=>c
 | .obj _ _ _,.blk _,c=>c
 | .deep _ _ _ _ _ _ _ _,.deep _ _,c=>c
 | .mp _ _ _,.row _,c=>c
 | .Jd _ _ _ _,.deep _ _,c=>c
 | .it _ _ _ _,.blk _,c=>c
 | .GL _ _ _ _,.row _,c=>c
 | .Dk _ _ _ _,.deep _ _,c=>c
 | .gone,_,_=>trivial
theorem Holds.flat{h h':FH}{β:List RV}{w:World}:∀{r:aC}{v:RV},tu r=true->Holds h β w r v->Holds h' β w r v
 | .blk _ _,.blk _,f,⟨ys,e,a⟩=>⟨ys,e,a.allL (λ_ _ f ⟨p,q⟩=>⟨p.flat f,q⟩) f⟩
 | .row _ s _,.row _,f,c=>c.elim .inl λc=>c.elim (λc=>.inr (.inl c)) λ⟨g,cap,cur,e,q1,q2,q3,q4,q5⟩=>.inr (.inr ⟨g,cap,cur,e,q1,q2,q3,q4,q5.mono λ_ _=>Rd.flat s f⟩)
 | .obj _ s _,.blk _,f,⟨ys,e,r⟩=>⟨ys,e,r.flat s f⟩
 | .deep _ _ _ _ _ _ _ _,.deep _ _,f,_=>by cases f
 | .mp _ s _,.row _,f,⟨b,es,c,e,e1,m⟩=>⟨b,es,c,e,e1,m.mono λ_ _ ⟨cs,q,r⟩=>⟨cs,q,r.flat s f⟩⟩
 | .Jd _ _ _ _,.deep _ _,f,_=>by cases f
 | .it _ _ _ _,.blk _,f,_=>by cases f
 | .GL _ _ _ _,.row _,_,c=>c
 | .Dk _ _ _ _,.deep _ _,f,_=>by cases f
 | .gone,_,_,_=>trivial
theorem aC.wG(n:Nat) (r:aC):(r.sh n).live=r.live:=by cases r<;>rfl
theorem OK.call(ok:OK B h0 T h β w){hb:FH}{T':List aC} (ok':OK (Base.of w) hb T' h' β' w'){hn:FH} (le:h.le hn)
 (conv:∀(j:Nat) r v,T'[j]?=some r->Holds h' β' w' r v->Holds hn (β++β') w' (r.sh β.length) v)
 (hnw:∀b o v,hn b o=some v->vis w' b o=some v) (hng:∀b o v,hn b o=some v->h b o=some v\/(w.heap.size<=b/\h' b o=some v)):
 OK B h0 (T++T'.map (aC.sh β.length)) hn (β++β') w':=by
 have L:=ok.len;have L':=ok'.len;have own':∀(i:Nat) r v b,T'[i]?=some r->r.live=true->β'[i]?=some v->v.has b->w.heap.size<=b/\b < w'.heap.size/\∀o,h' b o=none:=ok'.own;have below':Below w.heap.size w w':=Bw.bel ok'.below;have dr':w.drawn<=w'.drawn:=ok'.dr;have split:∀{i:Nat}{r:aC}{v:RV},(T++T'.map (aC.sh β.length))[i]?=some r->(β++β')[i]?=some v ->
  (T[i]?=some r/\β[i]?=some v)\/∃j r',i=β.length+j/\T'[j]?=some r'/\r=r'.sh β.length/\β'[j]?=some v:=by
  intro i r v e e'
  by_cases hi:i < T.length
  .rw[QM hi]at e;rw[QM (by omega)]at e'
   exact .inl ⟨e,e'⟩
  .rw[Jh (by omega),Gw]at e
   rw[Jh (by omega)]at e'
   cases hj:T'[i - T.length]? with
   | none=>rw[hj]at e;cases e
   | some r'=>rw[hj]at e;cases e;exact .inr ⟨i - T.length,r',by omega,hj,rfl,by rw[show i - T.length=i - β.length by omega];exact e'⟩
 have WW:∀{i:Nat}{r:aC}{v:RV}{b:Nat},T[i]?=some r->r.live=true->β[i]?=some v->v.has b->∀o,hn b o=none:=by
  intro i r v b e1 e2 e3 e4 o;obtain⟨a1,a2,a3⟩:=ok.own i r v b e1 e2 e3 e4;cases hh:hn b o with
  | none=>rfl
  | some u=>
    rcases hng b o u hh with h1 | h1
    .rw[a3 o]at h1;cases h1
    .omega
 have WX:∀{i:Nat}{r:aC}{v:RV}{b:Nat},T'[i]?=some r->r.live=true->β'[i]?=some v->v.has b->∀o,hn b o=none:=by
  intro i r v b e1 e2 e3 e4 o;obtain⟨a1,a2,a3⟩:=own' i r v b e1 e2 e3 e4;cases hh:hn b o with
  | none=>rfl
  | some u=>
    rcases hng b o u hh with h1 | h1
    .have:=kX (ok.hw b o u h1);omega
    .rw[a3 o]at h1;cases h1.2
 exact {
  below:=ok.below.below below'
  dr:=o9 ok.dr dr'
  len:=by simp[L,L']
  holds:=by
   intro i r v e e';rcases split e e' with⟨f1,f2⟩ | ⟨j,r',hi,f1,hr,f2⟩
   .exact(ok.holds i r v f1 f2).move le (Ext.append _ _) λhl b hb=>below'.block b (ok.own i r v b f1 hl f2 hb).2.1
   .rw[hr];exact conv j r' v f1 (ok'.holds j r' v f1 f2)
  own:=by
   intro i r v b e hl e' hb';rcases split e e' with⟨f1,f2⟩ | ⟨j,r',hi,f1,hr,f2⟩
   .obtain⟨a1,a2,a3⟩:=ok.own i r v b f1 hl f2 hb';exact⟨a1,Gz a2 below'.size,WW f1 hl f2 hb'⟩
   .rw[hr,aC.wG]at hl;obtain⟨a1,a2,a3⟩:=own' j r' v b f1 hl f2 hb';exact⟨B.up _ (o9 ok.below.size a1),a2,WX f1 hl f2 hb'⟩
  inj:=by
   intro i j r1 r2 u v b e1 l1 e2 l2 e3 e4 b1 b2;rcases split e1 e3 with⟨f1,f3⟩ | ⟨i',r1',hi,f1,hr1,f3⟩<;>rcases split e2 e4 with⟨f2,f4⟩ | ⟨j',r2',hj,f2,hr2,f4⟩
   .exact ok.inj i j r1 r2 u v b f1 l1 f2 l2 f3 f4 b1 b2
   .rw[hr2,aC.wG]at l2;have a1:=ok.own i r1 u b f1 l1 f3 b1;have a2:=own' j' r2' v b f2 l2 f4 b2;omega
   .rw[hr1,aC.wG]at l1;have a1:=ok.own j r2 v b f2 l2 f4 b2;have a2:=own' i' r1' u b f1 l1 f3 b1;omega
   .rw[hr1,aC.wG]at l1;rw[hr2,aC.wG]at l2;rw[hi,hj,ok'.inj i' j' r1' r2' u v b f1 l1 f2 l2 f3 f4 b1 b2]
  hle:=ok.hle.trans le
  hw:=hnw
  hg:=by
   intro b o v hh;rcases hng b o v hh with h1 | h1
   .exact ok.hg b o v h1
   .exact .inr (B.up _ (o9 ok.below.size h1.1))
  kn:=λk o hk=>by
   have h1:=ok.kn k o hk;exact(below'.block k (zh.1 h1).1).trans h1 }
theorem OK.MG{B:Base}{h0 h:FH}{w:World}:∀(m:Nat){T:List aC}{β:List RV},OK B h0 T h β w->OK B h0 (T++List.replicate m .gone) h (β++List.replicate m .no) w
 | 0,T,β,ok=>by simpa using ok
 | m+1,T,β,ok=>by
   have:=OK.MG m (ok.add (r:=.gone) (v:=.no) (bK w none) (λb hb=>(Jp hb).elim) trivial)
   simpa[aaR]using this
abbrev Hl(G:Gd) (n:Nat):List (Gd×aC)->List aC->List (Gd×aC)
 | T,[]=>T
 | T,r :: l=>Hl G n (snoc T (G,r.sh n)) l
theorem zo(G:Gd) (n:Nat):∀(l:List aC) (T:List (Gd×aC)),Hl G n T l=T++l.map λr=>(G,r.sh n)
 | [],T=>by simp[Hl]
 | r :: l,T=>by simp[Hl,zo G n l,fM]
theorem kG(gl:List Bool):∀(T U:List (Gd×aC)),eff gl (T++U)=eff gl T++eff gl U
 | [],_=>rfl
 | (g,r) :: l,U=>by simp[eff,kG gl l U]
theorem wH{gl:List Bool}{G:Gd}{n:Nat} (hG:gv gl G=true):∀(l:List aC),eff gl (l.map λr=>(G,r.sh n))=l.map (aC.sh n)
 | []=>rfl
 | r :: l=>by simp[eff,hG,jo,wH hG l]
theorem uD{gl:List Bool}{G:Gd}{n:Nat} (hG:gv gl G=false):∀(l:List aC),eff gl (l.map λr=>(G,r.sh n))=List.replicate l.length .gone
 | []=>rfl
 | r :: l=>by simp[eff,hG,jo,uD hG l,aaR]
theorem eX.JF{α:Type}{R:List Value->α->Prop}{k:Nat}:∀{l:List α}{cs:List Value},cs.length=l.length * k->(∀j d,l[j]?=some d->R ((cs.drop (j * k)).take k) d)->eX R cs l
 | [],cs,h,_=>QL (by simpa using h)
 | d :: l,cs,h,hR=>by
   rw[zI,uN]at h;refine⟨cs.take k,cs.drop k,(VX k cs).symm,?_,eX.JF (k:=k) (by rw[yT];omega) λj d' hd=>?_⟩
   .have:=hR 0 d rfl;simpa using this
   .have:=hR (j+1) d' (by simpa using hd)
    rw[OX]
    rwa [show k+j * k=(j+1) * k by rw[uN];omega]
theorem kE.sl{s:Sh}{l:List s.den} (x:kE h w t s l v) (le:h.le h') (hb:∀b,au v=some b->∀o u,vis w b o=some u->h' b o=some u):nY h' (Rd h' s) v l:=by
 rcases x with⟨e1,e2⟩ | ⟨ra,e1,e2⟩ | ⟨g,cap,cur,e1,q1,q2,q3,q4,q5⟩
 .exact .inl ⟨e1,e2⟩
 .exact .inr (.inl ⟨ra,0,e1,e2,zJ _⟩)
 .refine .inr (.inr ⟨g,0,cap,e1,q2,q3.2,_,q5.mono λ_ _=>Rd.mono le s,λj u hj=>?_⟩)
  refine hb g (by rw[e1];exact aO q3.1) _ _ ?_
  rw[yU];have h1:=eX.all (λ_ _=>Rd.one s) q5 u (kT hj)
  rw[uh]at hj;split at hj
  .exact lN q1 (by simpa using hj) h1.2
  .cases hj
theorem RU{cs:List Value}{o:Nat}{u:Value} (h:cs[o]?=some u) (x:Value):(cs.set o x).set o u=cs:=by
 rw[List.set_set];exact iF h
theorem xK.rd{h h':FH}{w:World}{s:Sh}{tt:TypeId}{e:Sh}{so:Nat}{own:Bool}{u:Value}{cs:List Value}{d:s.den} (x:xK h w s tt e so own false u cs d) (le:h.le h') (hb:∀b,au u=some b->∀o z,vis w b o=some z->h' b o=some z):Rd h' s cs d:=by
 unfold xK at x;cases own with
 | false=>exact x.1.mono le s
 | true=>
   obtain⟨d0,y,r,p,c,q⟩:=x;have:=p.rd (r.mono le s) (q.sl le hb)
   rwa [RU c]at this
theorem dN.data{s:Sh}{l:List s.den}{tt:TypeId}{e:Sh}{so:Nat}{own:Nat->Bool}{us:Nat->Value} (x:dN h w t s l tt e so own [] v us) (le:h.le h')
 (hb:∀b,(RV.deep v us).has b->∀o z,vis w b o=some z->h' b o=some z):nY h' (Rd h' s) v l:=by
 obtain⟨_,_,x⟩:=x;rcases x with⟨e1,e2⟩ | ⟨ra,e1,e2⟩ | ⟨g,cap,cur,e1,q1,q2,q3,q4,q5,q6⟩
 .exact .inl ⟨e1,e2⟩
 .exact .inr (.inl ⟨ra,0,e1,e2,zJ _⟩)
 .have hm:l.length * s.size<=cap * s.size:=vO _ q2;have lc:cur.toList.length=cap * s.size:=by simpa using q4
  have rdl:eX (Rd h' s) (cur.toList.take (l.length * s.size)) l:=by
   refine eX.JF (k:=s.size) (by rw[mY];omega) λj d hd=>?_
   have hj:=(eU.1 hd).1;have hm:(j+1) * s.size<=l.length * s.size:=vO _ hj;rw[uN]at hm;have e5:List.take s.size (List.drop (j * s.size) (List.take (l.length * s.size) cur.toList))=List.take s.size (List.drop (j * s.size) cur.toList):=by
    apply LK;intro p;simp only[uh,Gv];split
    .rw[if_pos (by omega)]
    .rfl
   rw[e5];exact(q6 j d hd).rd le λb hu=>hb b (aN.2 (.inr ⟨j,hu⟩))
  refine .inr (.inr ⟨g,0,cap,e1,q2,q3.2,cur.toList.take (l.length * s.size),rdl,λj u hj=>?_⟩)
  .refine hb g (aN.2 (.inl (by rw[e1];exact aO (n:=l.length) q3.1))) _ _ ?_
   rw[yU];have h1:=eX.all (λ_ _=>Rd.one s) rdl u (kT hj)
   rw[uh]at hj;split at hj
   .exact lN q1 (by simpa using hj) h1.2
   .cases hj
abbrev WY(s:St) (G:Gd) (x:SC):Option SC:=match x with
 | .v u=>some (.v u)
 | .sl sh l=>some (.sl sh l)
 | .fp sh d=>some (.fp sh d)
 | .one sh d=>some (.one sh d)
 | .row r=>match dH s.T r with
   | some (Gr,.row _ sh l)=>match oq Gr G with
     | true=>some (.sl sh l)
     | false=>none
   | some (Gr,.deep _ sh l _ _ _ _ [])=>match oq Gr G with
     | true=>some (.sl sh l)
     | false=>none
   | some (Gr,.mp k sh l)=>match oq Gr G with
     | true=>some (.one (.mp k sh) l)
     | false=>none
   | _=>none
 | _=>none
abbrev RX(s:St) (G:Gd):List SC->Option (List SC)
 | []=>some []
 | x :: l=>match WY s G x with
   | some y=>match RX s G l with
     | some m=>some (y :: m)
     | none=>none
   | none=>none
abbrev WZ(s:St) (G:Gd) (v:SV):Option SV:=match v with
 | .c x=>match WY s G x with
   | some y=>some (.c y)
   | none=>none
 | .agg xs=>match RX s G xs with
   | some ys=>some (.agg ys)
   | none=>none
 | .dat sh d=>some (.dat sh d)
 | .und=>none
abbrev isRow:SC->Bool
 | .row _=>true
 | _=>false
abbrev noRow:SV->Bool
 | .c x=>!(isRow x)
 | .agg xs=>allL (λx=>!(isRow x)) xs
 | _=>true
abbrev oJ(cx:Cx) (s:St) (G:Gd):List Operand->Option (List SV)
 | []=>some []
 | x :: l=>match bI cx s G x with
   | some (.one v)=>match oJ cx s G l with
     | some r=>some (v :: r)
     | none=>none
   | _=>none
abbrev CY(s:St) (G:Gd):List SV->Option (List SV)
 | []=>some []
 | x :: l=>match WZ s G x with
   | some v=>match CY s G l with
     | some r=>some (v :: r)
     | none=>none
   | none=>none
abbrev orB:Bool->Bool->Bool
 | true,_=>true
 | false,b=>b
abbrev iI(cx:Cx) (ct:Nat->Option CT) (s:St) (G:Gd) (d:Option Nat) (f:Nat) (args:List Operand) (K:St->Prop):Prop:=match ct f with
 | none=>False
 | some c=>match oJ cx s G args with
   | none=>False
   | some vs=>match CY s G vs with
     | none=>False
     | some bs=>match uX c.ps bs with
       | none=>False
       | some dd=>match orB (allL noRow vs) (bY (EO (c.res dd).2) (allL tu (c.res dd).1)) with
         | true=>side s.gl G (c.pre dd)/\K ({ s with T:=Hl G (aJ s.T) s.T (c.res dd).1 }.put d G ((c.res dd).2.sh (aJ s.T)))
         | false=>False
theorem aI.Z7{α β:Type}{R:α->β->Prop}:∀{a c:List α}{l:List β},aI R (a++c) l->∃b d,l=b++d/\aI R a b/\aI R c d
 | [],c,l,h=>⟨[],l,rfl,trivial,h⟩
 | x :: a,c,[],h=>h.elim
 | x :: a,c,y :: l,⟨h1,h2⟩=>by
   obtain⟨b,d,e,p,q⟩:=aI.Z7 (a:=a) h2;exact⟨y :: b,d,by rw[e];rfl,⟨h1,p⟩,q⟩
theorem aI.wI{α β:Type}{R:α->β->Prop}{x:α}:∀{l:List β},aI R [x] l->∃y,l=[y]/\R x y
 | [],h=>h.elim
 | [y],h=>⟨y,rfl,h.1⟩
 | _ :: _ :: _,h=>h.2.elim
theorem Aj{h:FH}{β:List RV}:∀(s:Sh){d:s.den}{xs:List SC}{ys:List Value},flat s d=some xs->aI (λx y=>dG h β x y/\bZ y) xs ys->Rd h s ys d
 | .int k,n,xs,ys,e,a=>by simp[flat]at e;subst e;obtain⟨y,rfl,r⟩:=a.wI;rw[r.1.1];rfl
 | .bool,n,xs,ys,e,a=>by simp[flat]at e;subst e;obtain⟨y,rfl,r⟩:=a.wI;rw[r.1.1];rfl
 | .str,n,xs,ys,e,a=>by simp[flat]at e;subst e;obtain⟨y,rfl,r⟩:=a.wI;rw[r.1.1];rfl
 | .any,n,xs,ys,e,a=>by simp[flat]at e
 | .sl s,l,xs,ys,e,a=>by simp[flat]at e;subst e;obtain⟨y,rfl,r⟩:=a.wI;exact⟨y,rfl,r.1⟩
 | .unit,n,xs,ys,e,a=>by
   simp[flat]at e;subst e;cases ys with
   | nil=>rfl
   | cons _ _=>exact a.elim
 | .arr _ _,n,xs,ys,e,a=>by simp[flat]at e
 | .mp k s,l,xs,ys,e,a=>by simp[flat]at e;subst e;obtain⟨y,rfl,r⟩:=a.wI;exact r.1
 | .pair a b,(x,y),xs,ys,e,al=>by
   unfold flat at e;split at e
   .rename_i p hp;split at e
    .rename_i q hq;cases e;rw[dW]at al;obtain⟨c1,c2,rfl,r1,r2⟩:=al.Z7;exact⟨c1,c2,rfl,Aj a hp r1,Aj b hq r2⟩
    .cases e
   .cases e
theorem Dx:∀(s:Sh){d:s.den}{y:Value},bV h β (iG s d) y->DV h s d y
 | .int k,n,y,c=>⟨[y],rfl,by rw[c.1.1];rfl⟩
 | .bool,n,y,c=>⟨[y],rfl,by rw[c.1.1];rfl⟩
 | .str,n,y,c=>⟨[y],rfl,by rw[c.1.1];rfl⟩
 | .any,n,y,c=>⟨[y],rfl,by rw[c.1.1];exact⟨rfl,c.1.2⟩⟩
 | .sl s,l,y,c=>⟨[y],rfl,y,rfl,c.1⟩
 | .unit,n,y,⟨ys,e,a⟩=>by
   cases ys with
   | nil=>exact⟨[],e,rfl⟩
   | cons _ _=>exact a.elim
 | .arr n s,l,y,⟨_,cs,e,r⟩=>⟨cs,e,r⟩
 | .mp k s,l,y,c=>⟨[y],rfl,c.1⟩
 | .pair a b,d,y,c=>by
   have e:iG (.pair a b) d=match flat (.pair a b) d with
    | some xs=>.agg xs
    | none=>.dat (.pair a b) d:=rfl
   rw[e]at c;cases hx:flat (.pair a b) d with
   | some xs=>
     rw[hx]at c;obtain⟨ys,e,al⟩:=c;exact⟨ys,e,Aj (.pair a b) hx al⟩
   | none=>
     rw[hx]at c;obtain⟨_,cs,e,r⟩:=c;exact⟨cs,e,r⟩
theorem Ak{h:FH}:∀{ss:List Sh}{d:bW ss}{ys:List Value},aI (bV h []) (dV ss d) ys->yF h ss d ys
 | [],_,[],_=>trivial
 | [],_,_ :: _,x=>x.elim
 | _ :: _,_,[],x=>x.elim
 | s :: l,d,y :: ys,⟨a,b⟩=>⟨Dx s a,Ak b⟩
section
variable {cx:Cx}{P:Program}{N:Nat}{B:Base}{h0:FH}{s:St}{h:FH}{β:List RV}{w:World}{a:Act}{G:Gd}{o:Oper}{K:St->Prop}
theorem mg(ah:Sat N B h0 s h β w a) (hg:aG cx.gd h) (hG:gv s.gl G=true):∀{l:List Operand}{vs:List SV},oJ cx s G l=some vs->aI (bV h β) vs (l.map a.eval)
 | [],vs,e=>by simp[oJ]at e;subst e;trivial
 | x :: l,vs,e=>by
   unfold oJ at e;split at e
   .rename_i v hv;split at e
    .rename_i r hr;cases e;exact⟨aH ah hg hG hv,mg ah hg hG hr⟩
    .cases e
   .cases e
def FH.all(w:World):FH:=λb o=>vis w b o
theorem OK.Z8(ok:OK B h0 T h β w){k:IntKind}{s:Sh}{l:List (Int×s.den)}{y:Value} (hT:T[i]?=some (.mp k s l)) (hx:dG h β (.row i) y):β[i]?=some (.row y):=by
 obtain⟨v,e,es⟩:=hx;have hold:=ok.holds i _ _ hT e
 match v,hold,es with
 | .row v,_,es=>cases es;exact e
theorem OK.Z9(ok:OK B h0 T h β w){k:IntKind}{s:Sh}{l:List (Int×s.den)}{y:Value} (hT:T[i]?=some (.mp k s l)) (hx:dG h β (.row i) y):
 ∃b es c,y=.map (some b)/\w.heap[b]?=some (.map es c)/\uO k (DW h s) es c l:=ok.holds i _ _ hT (ok.Z8 hT hx)
theorem MH(ah:Sat N B h0 s h β w a) (hG:gv s.gl G=true){x y:SC} (e:WY s G x=some y) (c:dG h β x v):
 dG (FH.all w) [] y v/\(isRow x=false->dG h [] y v):=by
 have le:h.le (FH.all w):=ah.ok.hw;unfold WY at e;split at e
 .cases e;exact⟨c,λ_=>c⟩
 .cases e;exact⟨nY.mono le (λ_ _=>Rd.mono le _) c,λ_=>c⟩
 .cases e;obtain⟨b,o,cs,e,r,at_⟩:=c;exact⟨⟨b,o,cs,e,r.mono le _,at_.mono le⟩,λ_=>⟨b,o,cs,e,r,at_⟩⟩
 .cases e;exact⟨Rd.mono le _ c,λ_=>c⟩
 .rename_i r;split at e
  .rename_i Gr tt sh l hT;split at e
   .rename_i hs;cases e;refine⟨?_,λhh=>by cases hh⟩
    rcases ah.ok.holds r _ _ (bf hT (dX hs hG)) (ah.ok.row_of (bf hT (dX hs hG)) c) with⟨e1,e2⟩ | ⟨ra,e1,e2⟩ | ⟨g,cap,cur,e1,q1,q2,q3,q4,q5⟩
    .exact .inl ⟨e1,e2⟩
    .exact .inr (.inl ⟨ra,0,e1,e2,zJ _⟩)
    .refine .inr (.inr ⟨g,0,cap,e1,q2,q3.2,_,q5.mono λ_ _=>Rd.mono le sh,λj u hj=>?_⟩)
     show vis w g (0+j)=some u;rw[yU];have h1:=eX.all (λ_ _=>Rd.one sh) q5 u (kT hj)
     rw[uh]at hj;split at hj
     .exact lN q1 (by simpa using hj) h1.2
     .cases hj
   .cases e
  .rename_i Gr tt sh l t2 e2 so own hT;split at e
   .rename_i hs;cases e;refine⟨?_,λhh=>by cases hh⟩
    obtain⟨us,_,hd⟩:=ah.ok.sU (bf hT (dX hs hG)) c;exact hd.data le λb _ o z hz=>hz
   .cases e
  .rename_i Gr k sh l hT;split at e
   .rename_i hs;cases e;refine⟨?_,λhh=>by cases hh⟩
    obtain⟨b,es,cl,hb,hw,m⟩:=ah.ok.Z9 (bf hT (dX hs hG)) c;exact⟨_,rfl,.inr ⟨b,es,cl,hb,LU hw,m.mono λ_ _=>DW.mono le⟩⟩
   .cases e
  .cases e
 .cases e
theorem MI(ah:Sat N B h0 s h β w a) (hG:gv s.gl G=true):∀{xs ys:List SC}{vs:List Value},RX s G xs=some ys->aI (λx y=>dG h β x y/\bZ y) xs vs ->
 aI (λx y=>dG (FH.all w) [] x y/\bZ y) ys vs/\(allL (λx=>!(isRow x)) xs=true->aI (λx y=>dG h [] x y/\bZ y) ys vs)
 | [],ys,[],e,_=>by simp[RX]at e;subst e;exact⟨trivial,λ_=>trivial⟩
 | x :: l,ys,v :: vs,e,⟨c,r⟩=>by
   unfold RX at e;split at e
   .rename_i y hy;split at e
    .rename_i m hm;cases e;obtain⟨h1,h2⟩:=MH ah hG hy c.1;obtain⟨h3,h4⟩:=MI ah hG hm r;refine⟨⟨⟨h1,c.2⟩,h3⟩,λhh=>?_⟩
     simp only[allL,ay,A8]at hh;exact⟨⟨h2 (by simpa using hh.1),c.2⟩,h4 hh.2⟩
    .cases e
   .cases e
theorem MJ(ah:Sat N B h0 s h β w a) (hG:gv s.gl G=true){x y:SV} (e:WZ s G x=some y) (c:bV h β x v):
 bV (FH.all w) [] y v/\(noRow x=true->bV h [] y v):=by
 have le:h.le (FH.all w):=ah.ok.hw;unfold WZ at e;split at e
 .split at e
  .rename_i y hy;cases e;obtain⟨h1,h2⟩:=MH ah hG hy c.1;exact⟨⟨h1,c.2⟩,λhh=>⟨h2 (by simpa[noRow]using hh),c.2⟩⟩
  .cases e
 .split at e
  .rename_i ys hy;cases e;obtain⟨vs,e1,e2⟩:=c;obtain⟨h1,h2⟩:=MI ah hG hy e2;exact⟨⟨vs,e1,h1⟩,λhh=>⟨vs,e1,h2 hh⟩⟩
  .cases e
 .cases e;obtain⟨g,cs,e1,r⟩:=c;exact⟨⟨g,cs,e1,r.mono le _⟩,λ_=>⟨g,cs,e1,r⟩⟩
 .cases e
theorem wJ(ah:Sat N B h0 s h β w a) (hG:gv s.gl G=true):∀{xs ys:List SV}{vs:List Value},CY s G xs=some ys->aI (bV h β) xs vs ->
 aI (bV (FH.all w) []) ys vs/\(allL noRow xs=true->aI (bV h []) ys vs)
 | [],ys,[],e,_=>by simp[CY]at e;subst e;exact⟨trivial,λ_=>trivial⟩
 | x :: l,ys,v :: vs,e,⟨c,r⟩=>by
   unfold CY at e;split at e
   .rename_i y hy;split at e
    .rename_i m hm;cases e;obtain⟨h1,h2⟩:=MJ ah hG hy c;obtain⟨h3,h4⟩:=wJ ah hG hm r;refine⟨⟨h1,h3⟩,λhh=>?_⟩
     simp only[allL,ay,A8]at hh;exact⟨h2 hh.1,h4 hh.2⟩
    .cases e
   .cases e
theorem Am{lb:Array Value}{suf:List Value} (hct:∀c,ct f=some c->∀(d:bW c.ps) (vs:List Value) (h':FH),h.le h'->(∀b o v,h' b o=some v->vis w b o=some v)->aG cx.gd h'->aI (bV h' []) (dV c.ps d) vs->c.pre d->Calls P f (vs++suf).toArray w (λen w'=>∃h'' β y,en=.returned y/\OK (Base.of w) h' (c.res d).1 h'' β w'/\iO h'' β (c.res d).2 y)) (ah:Sat N B h0 s h β w a) (hg:aG cx.gd h) (hG:qX s.gl.length G=true) (hd:jC N o.dst=true) (ho:o.op=.call c)
 {x:Operand}{xs:List Operand} (bH:c.callee=.value x) (hx:gv s.gl G=true->a.eval x=.func (.func f) #[] lb) (hxs:c.args.map a.eval++lb=(xs.map a.eval++suf).toArray)
 (hf:∃fn,P.funcs[f]?=some fn/\fn.body.isSome=true/\(fn.name == "runtime.NumGoroutine")=false)
 (k:iI cx ct s G o.dst f xs K):eG P N B h0 h w a o (gv s.gl G) K:=by
 unfold iI at k;split at k
 .cases k
 rename_i cc hcc;split at k
 .cases k
 rename_i vs hvs;split at k
 .cases k
 rename_i bs hbs;split at k
 .cases k
 rename_i dd hdd;split at k
 .rename_i Ho;obtain⟨T',eF⟩:∃T',T'=(cc.res dd).1:=⟨_,rfl⟩;obtain⟨e,he0⟩:∃e,e=(cc.res dd).2:=⟨_,rfl⟩;rw[<-eF,<-he0]at k Ho;have gT:∀p∈Hl G (aJ s.T) s.T T',qX s.gl.length p.1=true:=by
   intro p hp;rw[zo,Cj]at hp;rcases hp with hp | hp
   .exact ah.gT p hp
   .simp only[QS]at hp;obtain⟨r,_,rfl⟩:=hp;exact hG
  have hlen:=jS ah;intro Nx Q next
  cases hgv:gv s.gl G with
  | false=>
    rw[if_neg (by simp)]
    refine next _ h (β++List.replicate T'.length .no) _ _ k.2 (FH.le.refl h) (λ_=>jL.refl w) ?_
    have ok:OK B h0 (eff s.gl (Hl G (aJ s.T) s.T T')) h (β++List.replicate T'.length .no) w:=by
     rw[zo,kG,uD hgv];exact ah.ok.MG _
    exact(ah.mem ok (FH.le.refl h) (Ext.append _ _) gT).put (cZ hd) hG (λhh=>by simp only at hh;rw[hgv]at hh;cases hh) λ_=>rfl
  | true=>
    rw[if_pos rfl];obtain⟨fn,hfn,hbody,hname⟩:=hf;have hav:=mg ah hg hgv hvs;have aS:=dU k.1 hgv;have exec:(execOp a.eval o).run P w=.ok (.enter f (c.args.map a.eval++lb)) w:=by
     simp only[execOp,ho,resolve,bH,hx hgv,Deferred.ofValue,invoke,Sem.run_bind,Sem.run_pure,Result.andThen_ok,callFunc,run_program,aaU,Array.append_empty,hfn,hname];simp[hbody];cases hb:fn.body with
     | none=>rw[hb]at hbody;cases hbody
     | some _=>simp
    have hargs:=hxs;unfold Oper.wp;rw[exec];simp only[Oper.upon];rw[hargs];obtain⟨b1,b2⟩:=wJ ah hgv hbs hav;have fin:∀{hb:FH}{h':FH}{β':List RV}{w':World}{y:Value}{hn:FH},OK (Base.of w) hb T' h' β' w'->h.le hn ->
     (∀(j:Nat) r v,T'[j]?=some r->Holds h' β' w' r v->Holds hn (β++β') w' (r.sh β.length) v)->(∀b o v,hn b o=some v->vis w' b o=some v) ->
     (∀b o v,hn b o=some v->h b o=some v\/(w.heap.size<=b/\h' b o=some v))->iO hn (β++β') (e.sh β.length) y->Nx (a.put o.dst y) w':=by
     intro hb h' β' w' y hn ok' le conv hnw hng he;have ok:=ah.ok.call ok' le conv hnw hng;refine next _ hn (β++β') _ _ k.2 le (λ_=>jL.of_below (Bw.bel ok'.below)) ?_
     have okT:OK B h0 (eff s.gl (Hl G (aJ s.T) s.T T')) hn (β++β') w':=by
      rw[zo,kG,wH hgv,<-hlen];exact ok
     rw[hlen]at he;exact(ah.mem okT le (Ext.append _ _) gT).put (cZ hd) hG (λ_=>he) λhh=>by simp only at hh;rw[hgv]at hh;cases hh
    have keep:∀{hb h':FH}{β':List RV}{w':World},OK (Base.of w) hb T' h' β' w'->∀b o v,h b o=some v->vis w' b o=some v:=by
     intro hb h' β' w' ok' b o v hh;have h1:=ah.ok.hw b o v hh;exact(jf ((Bw.bel ok'.below).block b (kX h1))).trans h1
    cases hnr:allL noRow vs with
    | true=>
      refine(hct cc hcc dd _ h (FH.le.refl h) ah.ok.hw hg (sZ hdd (b2 hnr)) aS).mono ?_;rintro en w' ⟨h',β',y,rfl,ok',he⟩;rw[<-eF]at ok';rw[<-he0]at he;refine fin ok' ok'.hle (λj r v _ hh=>hh.shift) ok'.hw (λb o v hh=>?_) he.shift
      rcases ok'.hg b o v hh with h1 | h1
      .exact .inl h1
      .exact .inr ⟨h1,hh⟩
    | false=>
      rw[hnr]at Ho;simp only[orB,ay,A8]at Ho;refine(hct cc hcc dd _ (FH.all w) ah.ok.hw (λ_ _ _ hh=>hh) (hg.mono ah.ok.hw) (sZ hdd b1) aS).mono ?_
      rintro en w' ⟨h',β',y,rfl,ok',he⟩;rw[<-eF]at ok';rw[<-he0]at he;refine fin ok' (FH.le.refl h) (λj r v hj hh=>(hh.flat ?_).shift) (keep ok') (λb o v hh=>.inl hh) (he.flat Ho.1).shift
      have:∀{l:List aC}{j:Nat}{r:aC},allL tu l=true->l[j]?=some r->tu r=true:=by
       intro l
       induction l with
       | nil=>intro j r _ e;simp at e
       | cons x l ih=>
         intro j r hh e;simp only[allL,ay,A8]at hh;cases j with
         | zero=>simp at e;subst e;exact hh.1
         | succ j=>exact ih hh.2 (by simpa using e)
      exact this Ho.2 hj
 .cases k
theorem uY{suf:List Value} (hct:∀c,ct f=some c->∀(d:bW c.ps) (vs:List Value) (h':FH),h.le h'->(∀b o v,h' b o=some v->vis w b o=some v)->aG cx.gd h'->aI (bV h' []) (dV c.ps d) vs->c.pre d->Calls P f (vs++suf).toArray w (λen w'=>∃h'' β y,en=.returned y/\OK (Base.of w) h' (c.res d).1 h'' β w'/\iO h'' β (c.res d).2 y)) (ah:Sat N B h0 s h β w a) (hg:aG cx.gd h) (hG:qX s.gl.length G=true) (hd:jC N o.dst=true) (ho:o.op=.call c)
 {x:Operand}{xs:List Operand} (bH:c.callee=.value x) (hx:gv s.gl G=true->a.eval x=.func (.func f) #[] #[]) (hxs:c.args.map a.eval=(xs.map a.eval++suf).toArray)
 (hf:∃fn,P.funcs[f]?=some fn/\fn.body.isSome=true/\(fn.name == "runtime.NumGoroutine")=false)
 (k:iI cx ct s G o.dst f xs K):eG P N B h0 h w a o (gv s.gl G) K:=
 Am hct ah hg hG hd ho bH hx (by rw[Array.append_empty];exact hxs) hf k
theorem pO{suf:List Value} (hct:∀f c,ct f=some c->CTX P cx.gd f suf c) (ah:Sat N B h0 s h β w a) (hg:aG cx.gd h) (hG:qX s.gl.length G=true) (hd:jC N o.dst=true) (ho:o.op=.call c)
 {x:Operand}{xs:List Operand} (bH:c.callee=.value x) (hx:gv s.gl G=true->a.eval x=.func (.func f) #[] #[]) (hxs:c.args.map a.eval=(xs.map a.eval++suf).toArray)
 (hf:∃fn,P.funcs[f]?=some fn/\fn.body.isSome=true/\(fn.name == "runtime.NumGoroutine")=false)
 (k:iI cx ct s G o.dst f xs K):eG P N B h0 h w a o (gv s.gl G) K:=
 uY (λc e d vs h' _ hw hg' ha hp=>hct f c e d vs h' w hw hg' ha hp) ah hg hG hd ho bH hx hxs hf k
theorem PK(hct:∀f c,ct f=some c->EN P cx.gd f c) (ah:Sat N B h0 s h β w a) (hg:aG cx.gd h) (hG:qX s.gl.length G=true) (hd:jC N o.dst=true) (ho:o.op=.call c) (bH:c.callee=.value (.func f))
 (hf:∃fn,P.funcs[f]?=some fn/\fn.body.isSome=true/\(fn.name == "runtime.NumGoroutine")=false)
 (k:iI cx ct s G o.dst f (tl c.args) K):eG P N B h0 h w a o (gv s.gl G) K:=
 pO (suf:=[]) (λf c e=>(hct f c e).x) ah hg hG hd ho bH (λ_=>rfl) (by cases c.args;simp) hf k
end
section
variable {P:Program}{ops:Array Oper}{md:Region.Mode}{sf:Nat->Bool}
abbrev EP:Exit->Act->World->Prop:=λ_ _ _=>False
def tC(P:Program) (ops:Array Oper) (i:Nat) (K:Act->World->Prop) (a:Act) (w:World):Prop:=
 match ops[i]? with
 | none=>K a w
 | some o=>if Region.wanted o (yielded ops a.tmps)=true then o.wp P a w K EP else K (a.put o.dst undef) w
theorem uZ{Q:Exit->Act->World->Prop} (h:LetsOut EP):LetsOut Q:=by
 unfold LetsOut at *;obtain⟨_,_,hh⟩:=h;exact False.elim hh
theorem oK{K K':Act->World->Prop} (h:∀a w,K a w->K' a w) (hh:tC P ops i K a w):tC P ops i K' a w:=by
 unfold tC at *;split
 .exact h _ _ (by simpa[*]using hh)
 .rename_i o ho;simp only[ho]at hh;split
  .rename_i hw;rw[if_pos hw]at hh;exact Oper.wp_mono h hh
  .rename_i hw;rw[if_neg hw]at hh;exact h _ _ hh
abbrev rM(ops:Array Oper) (i:Nat):Bool:=match ops[i]? with
 | some o=>quietly o.op
 | none=>true
def anyI(P:Program) (md:Region.Mode) (ops:Array Oper) (sf:Nat->Bool) (R:Act->World->Prop):Nat->Array Bool->Act->World->Prop
 | 0,listed,a,w=>Region.ready md ops listed=[]/\R a w
 | fuel+1,listed,a,w=>(Region.ready md ops listed=[]->R a w) /\
   ∀i∈Region.ready md ops listed,tC P ops i (λa' w'=>(sf i=true->jL w w')/\anyI P md ops sf R fuel (listed.setIfInBounds i true) a' w') a w
def YI(P:Program) (ops:Array Oper) (ld:Bool) (w0:World) (o:Oper) (v:Value) (a:Act):Prop:=
 (Region.wanted o (yielded ops a.tmps)=true/\∀w,(ld=true->jL w0 w)->(execOp a.eval o).run P w=.ok (.value v) w) \/
 (Region.wanted o (yielded ops a.tmps)=false/\v=undef)
theorem YI.of_same{ld:Bool}{w0:World}{a':Act} (hy:YI P ops ld w0 o v a) (he:execOp a'.eval o=execOp a.eval o)
 (hw:Region.wanted o (yielded ops a'.tmps)=Region.wanted o (yielded ops a.tmps)):YI P ops ld w0 o v a':=by
 unfold YI at *;rw[he,hw];exact hy
theorem YI.tC{ld:Bool}{w0:World}{i:Nat}{o:Oper}{v:Value}{a:Act} (hi:ops[i]?=some o) (hy:YI P ops ld w0 o v a){K:Act->World->Prop}{w:World} (hg:ld=true->jL w0 w)
 (h:K (a.put o.dst v) w):tC P ops i K a w:=by
 unfold Go.lM.tC;simp only[hi];rcases hy with⟨hw,hv⟩ | ⟨hw,rfl⟩
 .rw[if_pos hw];unfold Oper.wp;rw[hv w hg];exact h
 .rw[if_neg (by rw[hw];simp)];exact h
theorem W9{ld:Bool}{w0:World}{j:Nat}{oi oj:Oper} (hj:ops[j]?=some oj) (hap:oi.apart ops oj=true)
 (hsi:∀cs b,oi.op≠.select cs b) (hsj:∀cs b,oj.op≠.select cs b){K:Act->World->Prop}
 (hy:YI P ops ld w0 oi v a) (h:tC P ops j K (a.put oi.dst v) w):
 tC P ops j (λa' w'=>YI P ops ld w0 oi v a'/\K (a'.put oi.dst v) w') a w:=by
 obtain⟨h1,h2,h3⟩:=Oper.apart_spec hap;have keep:∀(a:Act),YI P ops ld w0 oi v a->∀u,YI P ops ld w0 oi v (a.put oj.dst u):=λa hy u=>
  hy.of_same (execOp_put oi hsi a oj.dst u h3) (wanted_put oi a oj.dst u h3)
 have keepD:∀d,YI P ops ld w0 oi v { a with defers:=d :: a.defers }:=λd=>hy.of_same rfl rfl
 unfold tC at *;simp only[hj]at *;rw[wanted_put oj a oi.dst v h1]at h;split
 .rename_i hw;rw[if_pos hw]at h;unfold Oper.wp at *;rw[execOp_put oj hsj a oi.dst v h1]at h;generalize (execOp a.eval oj).run P w=r at *;cases r with
  | ok n w'=>
    cases n<;>simp only[Oper.upon]at h ⊢
    case value u=>exact⟨keep a hy u,by rw[<-Act.put_comm a v u h2];exact h⟩
    case skip=>exact⟨keep a hy _,by rw[<-Act.put_comm a v undef h2];exact h⟩
    case defer d=>
     refine⟨(keep _ (keepD d) _),?_⟩;rw[<-Act.put_comm _ v undef h2,<-Act.put_defers];exact h
    case enter f args=>
     refine h.mono λe w'' he=>?_
     cases e with
     | returned u=>exact⟨keep a hy u,by rw[<-Act.put_comm a v u h2];exact he⟩
     | panicked c=>exact he
     | outgrown=>exact he
    case row r args=>
     refine Rows.mono h λu w'' he=>?_
     exact⟨keep a hy u,by rw[<-Act.put_comm a v u h2];exact he⟩
    all_goals exact h
  | halt x w'=>cases x<;>simp only[Oper.upon]at h ⊢<;>exact h
 .rename_i hw;rw[if_neg hw]at h;exact⟨keep a hy _,by rw[<-Act.put_comm a v undef h2];exact h⟩
def Waits(md:Region.Mode) (ops:Array Oper) (listed:Array Bool) (i:Nat) (bl:List Nat):Prop:=
 ∀j∈bl,listed.getD j true=false/\∃o,ops[j]?=some o/\∃e∈o.after,Region.binds md e=true/\(e.on=i\/e.on∈bl)
theorem lQ{listed:Array Bool} (h:listed.getD i true=false):listed.getD i false=false:=by
 rcases Wy i listed.size with h' | h'
 .simp[h']at h ⊢;exact h
 .simp[VW h']at h
theorem Dy{listed:Array Bool}{j:Nat}{bl:List Nat} (hi:listed.getD i true=false) (hw:Waits md ops listed i bl) (hj:j∈bl):j∉Region.ready md ops listed:=by
 intro hr;obtain⟨_,oj,hoj,hall⟩:=mem_ready.1 hr;obtain⟨_,o,ho,e,he,hb,hh⟩:=hw j hj;rw[hoj]at ho;cases ho;have h1:=hall e he hb;rcases hh with hh | hh
 .rw[hh,lQ hi]at h1;cases h1
 .rw[lQ (hw _ hh).1]at h1;cases h1
theorem vg{R:Act->World->Prop}{ld:Bool}{w0:World}{oi:Oper}{bl:List Nat} (hi:ops[i]?=some oi) (hsel:∀(j:Nat) (o:Oper) cs b,ops[j]?=some o->o.op≠.select cs b)
 (hq:sf i=true):
 ∀(fuel:Nat) (listed:Array Bool) (a:Act) (w:World),
   (∀j oj,ops[j]?=some oj->j≠i->listed.getD j true=false->(∀e∈oj.after,Region.binds md e=true->e.on≠i)->oi.apart ops oj=true) ->
   (ld=true->Waits md ops listed i bl/\∀j,j≠i->listed.getD j true=false->sf j=false->j∈bl) ->
   i∈Region.ready md ops listed->YI P ops ld w0 oi v a->(ld=true->jL w0 w) ->
   anyI P md ops sf R fuel (listed.setIfInBounds i true) (a.put oi.dst v) w->anyI P md ops sf R (fuel+1) listed a w:=by
 intro fuel
 induction fuel with
 | zero=>
   intro listed a w _ _ hr hy hg H;refine⟨λh=>(by rw[h]at hr;cases hr),λj hj=>?_⟩
   by_cases hji:j=i
   .subst hji;exact hy.tC hi hg ⟨λ_=>jL.refl w,H⟩
   .have:=ready_mono hj hji;rw[H.1]at this;cases this
 | succ fuel ih=>
   intro listed a w hfree hbl hr hy hg H;refine⟨λh=>(by rw[h]at hr;cases hr),λj hj=>?_⟩
   by_cases hji:j=i
   .subst hji;exact hy.tC hi hg ⟨λ_=>jL.refl w,H⟩
   .have h1:=H.2 j (ready_mono hj hji);obtain⟨hjun,oj,hoj,hall⟩:=mem_ready.1 hj;have RY:=(mem_ready.1 hr).1;have hnot:∀e∈oj.after,Region.binds md e=true->e.on≠i:=λe he hb heq=>by
     have h1:=hall e he hb;rw[heq,lQ RY]at h1;cases h1
    have h2:=W9 hoj (hfree j oj hoj hji hjun hnot) (λcs b=>hsel i oi cs b hi) (λcs b=>hsel j oj cs b hoj) hy h1
    have hfree':∀k ok,ops[k]?=some ok->k≠i->(listed.setIfInBounds j true).getD k true=false ->
     (∀e∈ok.after,Region.binds md e=true->e.on≠i)->oi.apart ops ok=true:=λk ok hk hki hun hno=>by
     refine hfree k ok hk hki ?_ hno
     by_cases ku:j=k
     .subst ku;exact hjun
     .rw[getD_set_ne true ku]at hun;exact hun
    have RZ:ld=true->j∉bl:=λe hm=>Dy RY (hbl e).1 hm hj
    have hsj:ld=true->sf j=true:=λe=>by
     cases hs:sf j with
     | true=>rfl
     | false=>exact absurd ((hbl e).2 j hji hjun hs) (RZ e)
    have aa8:ld=true->Waits md ops (listed.setIfInBounds j true) i bl/\∀k,k≠i->(listed.setIfInBounds j true).getD k true=false->sf k=false->k∈bl:=λe=>by
     refine⟨λk hk=>?_,λk hki hun hs=>?_⟩
     .obtain⟨g1,g2⟩:=(hbl e).1 k hk;refine⟨?_,g2⟩;rw[getD_set_ne true (λhh=>RZ e (by rw[hh];exact hk))];exact g1
     .refine(hbl e).2 k hki ?_ hs
      by_cases ku:j=k
      .subst ku;exact hjun
      .rw[getD_set_ne true ku]at hun;exact hun
    refine oK (λa' w' h3=>⟨h3.2.1,ih (listed.setIfInBounds j true) a' w' hfree' aa8 (ready_mono hr (Ne.symm hji)) h3.1 (λe=>(hg e).trans (h3.2.1 (hsj e))) ?_⟩) h2
    rw[Array.setIfInBounds_comm _ _ hji];exact h3.2.2
end
abbrev Dz(i k n:Nat):Nat:=match Nat.beq n i with
 | true=>k
 | false=>match Nat.beq n k with
   | true=>i
   | false=>n
theorem Si(h:¬n=i):Nat.beq n i=false:=by
 cases hb:Nat.beq n i with
 | true=>exact absurd (gI hb) h
 | false=>rfl
theorem JG(i k n:Nat):Dz i k n=if n=i then k else if n=k then i else n:=by
 unfold Dz
 by_cases h:n=i
 .subst h;simp
 .rw[if_neg h,Si h]
  by_cases h2:n=k
  .subst h2;simp
  .rw[if_neg h2,Si h2]
theorem wK(i k n:Nat):Dz i k (Dz i k n)=n:=by
 simp only[JG];split<;>split<;>simp_all<;>omega
abbrev SC.sw(i k:Nat):SC->SC
 | .own a o=>.own (Dz i k a) o
 | .row a=>.row (Dz i k a)
 | .jh a j sz o=>.jh (Dz i k a) j sz o
 | .sub a j=>.sub (Dz i k a) j
 | .jX a j m sz o=>.jX (Dz i k a) j m sz o
 | x=>x
abbrev SV.sw(i k:Nat):SV->SV
 | .c x=>.c (x.sw i k)
 | .agg xs=>.agg (dQ (SC.sw i k) xs)
 | v=>v
abbrev aW.sw(i k:Nat):aW->aW
 | .one x=>.one (x.sw i k)
 | .iQ xs=>.iQ (dQ (SV.sw i k) xs)
abbrev aC.sw(i k:Nat):aC->aC
 | .blk t cs=>.blk t (dQ (SC.sw i k) cs)
 | r=>r
def tH(i k:Nat) (β β':List RV):Prop:=∀j,β'[Dz i k j]?=β[j]?
theorem dG.sw{h:FH}{β β':List RV}{i k:Nat} (sb:tH i k β β'):∀{x:SC}{y:Value},dG h β x y->dG h β' (x.sw i k) y
 | .v _,_,e=>e
 | .sl _ _,_,e=>e
 | .fp _ _,_,e=>e
 | .one _ _,_,e=>e
 | .own a o,_,⟨b,e,e'⟩=>⟨b,by rw[sb];exact e,e'⟩
 | .row a,y,⟨v,e,e'⟩=>⟨v,by rw[sb];exact e,e'⟩
 | .sub _ _,_,⟨v,us,e,e'⟩=>⟨v,us,by rw[sb];exact e,e'⟩
 | .jX _ _ _ _ _,_,⟨v,us,g,e,e'⟩=>⟨v,us,g,by rw[sb];exact e,e'⟩
 | .jh _ _ _ _,_,⟨v,g,e,e'⟩=>⟨v,g,by rw[sb];exact e,e'⟩
 | .abs _,_,e=>e
 | .junk,_,_=>trivial
theorem tJ{α β:Type}{R R':α->β->Prop}{f:α->α} (hR:∀a b,R a b->R' (f a) b):∀{l:List α}{m:List β},aI R l m->aI R' (dQ f l) m
 | [],[],_=>trivial
 | _ :: _,_ :: _,⟨a,b⟩=>⟨hR _ _ a,tJ hR b⟩
theorem bV.sw{h:FH}{β β':List RV}{i k:Nat} (sb:tH i k β β'):∀{x:SV}{y:Value},bV h β x y->bV h β' (x.sw i k) y
 | .c _,_,⟨e,o⟩=>⟨e.sw sb,o⟩
 | .agg _,_,⟨ys,e,a⟩=>⟨ys,e,tJ (λ_ _ ⟨p,q⟩=>⟨p.sw sb,q⟩) a⟩
 | .dat _ _,_,e=>e
 | .und,_,e=>e
theorem iO.sw{h:FH}{β β':List RV}{i k:Nat} (sb:tH i k β β'):∀{x:aW}{y:Value},iO h β x y->iO h β' (x.sw i k) y
 | .one _,_,e=>bV.sw sb e
 | .iQ _,_,⟨ys,e,a⟩=>⟨ys,e,tJ (λ_ _ p=>bV.sw sb p) a⟩
theorem Holds.sw{h:FH}{β β':List RV}{w:World}{i k:Nat} (sb:tH i k β β'):∀{r:aC}{v:RV},Holds h β w r v->Holds h β' w (r.sw i k) v
 | .blk _ _,.blk _,⟨ys,e,a⟩=>⟨ys,e,tJ (λ_ _ ⟨p,q⟩=>⟨p.sw sb,q⟩) a⟩
 | .row _ _ _,.row _,e=>e
 | .obj _ _ _,.blk _,e=>e
 | .deep _ _ _ _ _ _ _ _,.deep _ _,e=>e
 | .mp _ _ _,.row _,e=>e
 | .Jd _ _ _ _,.deep _ _,e=>e
 | .it _ _ _ _,.blk _,e=>e
 | .GL _ _ _ _,.row _,e=>e
 | .Dk _ _ _ _,.deep _ _,e=>e
 | .gone,_,_=>trivial
theorem aC.ER{k:Nat} (r:aC):(r.sw i k).live=r.live:=by cases r<;>rfl
theorem OK.sw{B:Base}{h0:FH}{T T':List aC}{h:FH}{β β':List RV}{w:World}{i k:Nat} (ok:OK B h0 T h β w) (sb:tH i k β β') (hl:β'.length=T'.length)
 (sT:∀j,T'[Dz i k j]?=(T[j]?).map (aC.sw i k)):OK B h0 T' h β' w:=by
 have gT:∀{j:Nat}{r:aC},T'[j]?=some r->∃r0,T[Dz i k j]?=some r0/\r=r0.sw i k:=by
  intro j r e;have:=sT (Dz i k j);rw[wK,e]at this;cases hT:T[Dz i k j]? with
  | none=>rw[hT]at this;cases this
  | some r0=>rw[hT]at this;exact⟨r0,rfl,by simpa using this⟩
 have gB:∀{j:Nat}{v:RV},β'[j]?=some v->β[Dz i k j]?=some v:=by
  intro j v e;have:=sb (Dz i k j);rw[wK,e]at this;exact this.symm
 refine⟨ok.below,ok.dr,hl,λj r v e1 e2=>?_,λj r v b e1 l1 e2 e3=>?_,λj j' r r' u v b e1 l1 e2 l2 e3 e4 e5 e6=>?_,ok.hle,ok.hw,ok.hg,ok.kn⟩
 .obtain⟨r0,f1,rfl⟩:=gT e1;exact(ok.holds _ _ _ f1 (gB e2)).sw sb
 .obtain⟨r0,f1,rfl⟩:=gT e1;exact ok.own _ _ _ _ f1 (by rw[<-aC.ER];exact l1) (gB e2) e3
 .obtain⟨r0,f1,rfl⟩:=gT e1;obtain⟨r1,f2,rfl⟩:=gT e2;have:=ok.inj _ _ _ _ _ _ _ f1 (by rw[<-aC.ER];exact l1) f2 (by rw[<-aC.ER];exact l2) (gB e3) (gB e4) e5 e6
  have h2:=qy (Dz i k) this
  rwa [wK,wK]at h2
abbrev swE(i k:Nat):List (Nat×Gd×aW)->List (Nat×Gd×aW)
 | []=>[]
 | (t,g,e) :: l=>(t,g,e.sw i k) :: swE i k l
abbrev swT(i k:Nat) (T:List (Gd×aC)):List (Gd×aC):=match dH T i with
 | some a=>match dH T k with
   | some b=>dQ (λp=>(p.1,p.2.sw i k)) (bQ (bQ T i b) k a)
   | none=>T
 | none=>T
abbrev swS(i k:Nat) (s:St):St:={ s with T:=swT i k s.T,env:=swE i k s.env }
theorem ES{i k:Nat}:∀{l:List (Nat×Gd×aW)}{t:Nat},fH (swE i k l) t=(fH l t).map λp=>(p.1,p.2.sw i k)
 | [],_=>rfl
 | (u,g,e) :: l,t=>by
   rw[show swE i k ((u,g,e) :: l)=(u,g,e.sw i k) :: swE i k l from rfl,aX,aX]
   split
   .rfl
   .exact ES
theorem Aq{α β:Type} (f:α->β):∀l:List α,dQ f l=l.map f
 | []=>rfl
 | _ :: l=>by simp[dQ,Aq f l]
theorem ML{k:Nat}{T:List (Gd×aC)} (hi:i < T.length) (hk:k < T.length) (j:Nat):(swT i k T)[Dz i k j]?=(T[j]?).map λp=>(p.1,p.2.sw i k):=by
 unfold swT;rw[dI,kW hi];simp only;rw[dI,kW hk];simp only;rw[Aq,Gw,dM,dM]
 congr 1
 rw[JG]
 by_cases h1:j=i
 .subst h1;rw[if_pos rfl,nX (by simpa using hk),kW hi]
 .rw[if_neg h1]
  by_cases h2:j=k
  .subst h2;rw[if_pos rfl,kU (by omega),nX hi,kW hk]
  .rw[if_neg h2,kU (by omega),kU (by omega)]
theorem Xa{k:Nat}{T:List (Gd×aC)}:(swT i k T).length=T.length:=by
 unfold swT;split
 .split
  .rw[Aq,dM,dM];simp
  .rfl
 .rfl
theorem JH{k:Nat} (hi:i < β.length) (hk:k < β.length):∃β',β'.length=β.length/\tH i k β β':=by
 refine⟨(β.set i β[k]).set k β[i],by simp,λj=>?_⟩
 rw[JG]
 by_cases h1:j=i
 .subst h1;rw[if_pos rfl,nX (by simpa using hk),kW hi]
 .rw[if_neg h1]
  by_cases h2:j=k
  .subst h2;rw[if_pos rfl,kU (by omega),nX hi,kW hk]
  .rw[if_neg h2,kU (by omega),kU (by omega)]
theorem Sat.sw{N:Nat}{B:Base}{h0:FH}{s:St}{h:FH}{β:List RV}{w:World}{a:Act} (ah:Sat N B h0 s h β w a){i k:Nat} (hi:i < s.T.length) (hk:k < s.T.length):
 ∃β',Sat N B h0 (swS i k s) h β' w a:=by
 have hlen:β.length=s.T.length:=by rw[ah.ok.len,fO]
 obtain⟨β',hl,sb⟩:=JH (β:=β) (i:=i) (k:=k) (by omega) (by omega)
 refine⟨β',?_,?_,?_,ah.defers,ah.sz,?_,?_⟩
 .refine ah.ok.sw sb (by rw[hl,fO,Xa,hlen]) λj=>?_
  rw[iT,iT,ML hi hk];cases s.T[j]? with
  | none=>rfl
  | some p=>
    simp only[QO];cases gv s.gl p.1<;>rfl
 .intro t G e ht;rw[show(swS i k s).env=swE i k s.env from rfl,ES]at ht
  cases hl:fH s.env t with
  | none=>rw[hl]at ht;cases ht
  | some p=>
    rw[hl]at ht;cases ht;obtain⟨z,q1,q2,q3⟩:=ah.env t p.1 p.2 hl;exact⟨z,q1,λhh=>(q2 hh).sw sb,q3⟩
 .intro d j hd;obtain⟨G,b,q1,q2⟩:=ah.gs d j hd;exact⟨G,b,by rw[show(swS i k s).env=swE i k s.env from rfl,ES,q1];rfl,q2⟩
 .intro t G e ht;rw[show(swS i k s).env=swE i k s.env from rfl,ES]at ht
  cases hl:fH s.env t with
  | none=>rw[hl]at ht;cases ht
  | some p=>
    rw[hl]at ht;cases ht;exact ah.gb t p.1 p.2 hl
 .intro p hp;obtain⟨j,hj⟩:=Ja hp;have h1:=ML hi hk (Dz i k j);rw[wK]at h1;rw[show(swS i k s).T=swT i k s.T from rfl,h1]at hj
  cases hT:s.T[Dz i k j]? with
  | none=>rw[hT]at hj;cases hj
  | some q=>
    rw[hT]at hj;cases hj;exact ah.gT q (kT hT)
abbrev lu:List (Nat×Nat)->St->St
 | [],s=>s
 | (i,k) :: l,s=>match bY (Nat.ble (i+1) (aJ s.T)) (Nat.ble (k+1) (aJ s.T)) with
   | true=>lu l (swS i k s)
   | false=>s
theorem Sat.lu{N:Nat}{B:Base}{h0 h:FH}{w:World}{a:Act}:∀(l:List (Nat×Nat)){s:St}{β:List RV},Sat N B h0 s h β w a->∃β',Sat N B h0 (lu l s) h β' w a
 | [],s,β,ah=>⟨β,ah⟩
 | (i,k) :: l,s,β,ah=>by
   unfold Go.lM.lu;split
   .rename_i hc;rw[ay,A8,aV]at hc;have h1:=lK hc.1;have h2:=lK hc.2;obtain⟨β',aK⟩:=ah.sw (i:=i) (k:=k) (by omega) (by omega)
    exact Sat.lu l aK
   .exact⟨β,ah⟩
inductive Loc where
 | slot (t:Nat)
 | cell (i c:Nat)
abbrev aad:SC->Option Nat
 | .own i _=>some i
 | .row i=>some i
 | _=>none
abbrev ahD(s:St):Loc->Option Nat
 | .slot t=>match fH s.env t with
   | some ([],.one (.c x))=>aad x
   | _=>none
 | .cell i c=>match dH s.T i with
   | some ([],.blk _ cs)=>match dH cs c with
     | some x=>aad x
     | none=>none
   | _=>none
abbrev qK:List (Nat×Loc)->St->St
 | [],s=>s
 | (k,loc) :: l,s=>match ahD s loc with
   | none=>qK l s
   | some i=>match bY (Nat.ble (i+1) (aJ s.T)) (Nat.ble (k+1) (aJ s.T)) with
     | true=>qK l (swS i k s)
     | false=>s
theorem Sat.qK{N:Nat}{B:Base}{h0 h:FH}{w:World}{a:Act}:∀(l:List (Nat×Loc)){s:St}{β:List RV},Sat N B h0 s h β w a->∃β',Sat N B h0 (qK l s) h β' w a
 | [],s,β,ah=>⟨β,ah⟩
 | (k,loc) :: l,s,β,ah=>by
   unfold Go.lM.qK;split
   .exact Sat.qK l ah
   .rename_i i _;split
    .rename_i hc;rw[ay,A8,aV]at hc;have h1:=lK hc.1;have h2:=lK hc.2;obtain⟨β',aK⟩:=ah.sw (i:=i) (k:=k) (by omega) (by omega)
     exact Sat.qK l aK
    .exact⟨β,ah⟩
structure IP where
 sh:Sh
 ps:List Sh
 pre:List sh.den->bW ps->Prop
 res:List sh.den->bW ps->List sh.den
 back:Bool
def PL(P:Program) (gd:Nat->Option (Sigma Sh.den)) (f:FuncId) (ip:IP):Prop:=
 ∀(t:TypeId) (l:List ip.sh.den) (d:bW ip.ps) (v:Value) (vs:List Value) (h:FH) (w:World),(∀b o u,h b o=some u->vis w b o=some u)->aG gd h ->
   Holds h [] w (.row t ip.sh l) (.row v)->(∀b,au v=some b->∀o,h b o=none)->aI (bV h []) (dV ip.ps d) vs->ip.pre l d ->
   Calls P f (v :: vs).toArray w (λen w'=>∃v' y,en=.returned y/\Gb w w' (au v)/\(∀b,au v'=some b->au v=some b\/(w.heap.size<=b/\b < w'.heap.size)) /\
    Holds h [] w' (.row t ip.sh (ip.res l d)) (.row v')/\(ip.back=true->y=v')/\(ip.back=false->y=.tuple #[]/\v'=v))
abbrev ipK(cx:Cx) (ip:IP) (s:St) (d:Option Nat) (args:List Operand) (K:St->Prop):Prop:=match args with
 | []=>False
 | x :: r=>match bI cx s [] x with
   | some (.one (.c (.row i)))=>match dH s.T i with
     | some ([],.row t sh l)=>match iV (.sl sh) l (.sl ip.sh) with
       | none=>False
       | some l=>match oJ cx s [] r with
         | none=>False
         | some vs=>match allL noRow vs with
           | false=>False
           | true=>match CY s [] vs with
             | none=>False
             | some bs=>match uX ip.ps bs with
               | none=>False
               | some dd=>ip.pre l dd/\(match ip.back with
                 | false=>K ({ s with T:=bQ s.T i ([],.row t ip.sh (ip.res l dd)) }.put d [] (.iQ []))
                 | true=>K ({ s with T:=bQ (Hf i s.T) i ([],.row t ip.sh (ip.res l dd)),env:=qF i s.env }.put d [] (.one (.c (.row i)))))
     | _=>False
   | _=>False
def yI(P:Program) (N:Nat) (B:Base) (h0 h:FH) (w:World) (a:Act) (o:Oper) (wanted:Bool) (K:St->Prop):Prop:=
 ∀(Nx:Act->World->Prop) (Q:Exit->Act->World->Prop),
   (∀s' h' β' w' v,K s'->h.le h'->Sat N B h0 s' h' β' w' (a.put o.dst v)->Nx (a.put o.dst v) w') ->
   if wanted=true then o.wp P a w Nx Q else Nx (a.put o.dst undef) w
theorem eG.weak{N:Nat}{b:Bool}{K:St->Prop} (k:eG P N B h0 h w a o b K):yI P N B h0 h w a o b K:=
 λNx Q next=>k Nx Q λs' h' β' w' v k' le _ ah=>next s' h' β' w' v k' le ah
section
variable {cx:Cx}{P:Program}{N:Nat}{B:Base}{h0:FH}{s:St}{h:FH}{β:List RV}{w:World}{a:Act}{o:Oper}{K:St->Prop}
theorem Sj(ah:Sat N B h0 s h β w a){x x':aC}{v:RV} (hT:dH s.T r=some ([],x)) (hl:x.live=true) (hu:β[r]?=some u)
 (hg:Gb w w' u.block) (hv:∀b,v.block=some b->u.block=some b\/(w.heap.size<=b/\b < w'.heap.size)) (hvs:∀b,¬v.sub b:=by exact λ_ h=>h) (hold:Holds h (β.set r v) w' x' v):
 Sat N B h0 { s with T:=bQ (Hf r s.T) r ([],x'),env:=qF r s.env } h (β.set r v) w' a:=by
 have tr:gv s.gl []=true:=rfl;have eF:=bf hT tr;have okj:=ah.ok.jk r;have hTj:((eff s.gl s.T).map (V6 r))[r]?=some (V6 r x):=by rw[Gw,eF];rfl
 have ok:OK B h0 (eff s.gl (bQ (Hf r s.T) r ([],x'))) h (β.set r v) w':=by
  rw[dY,JD];refine okj.upd hTj (by rw[rJ];exact hl) hu hg (λk e=>.inl e) (λb hb=>hb.elim (λq=>(hv b q).imp .inl id) λq=>(hvs b q).elim) (.inr λj rj _ ej=>?_) hold
  rw[Gw]at ej;cases hj:(eff s.gl s.T)[j]? with
  | none=>rw[hj]at ej;cases ej
  | some q=>rw[hj]at ej;cases ej;exact Hg r q
 refine⟨ok,?_,?_,ah.defers,ah.sz,?_,?_⟩
 .intro t G e ht;obtain⟨e0,h1,rfl⟩:=Ai r ht;obtain⟨z,q1,q2,q3⟩:=ah.env t G e0 h1;exact⟨z,q1,λhG=>(q2 hG).jk v,q3⟩
 .intro d i hi;obtain⟨G,b,q1,q2⟩:=ah.gs d i hi;exact⟨G,b,EK r q1,q2⟩
 .intro t G e ht;obtain⟨e0,h1,rfl⟩:=Ai r ht;exact ah.gb t G e0 h1
 .intro p hp;simp only at hp;rw[dM]at hp;rcases LH hp with hp | hp
  .have:∀{l:List (Gd×aC)},p∈Hf r l->∃q∈l,q.1=p.1:=by
    intro l
    induction l with
    | nil=>intro hh;simp[Hf]at hh
    | cons q l ih=>
      obtain⟨g,q⟩:=q;intro hh;simp only[Hf,jM]at hh;rcases hh with rfl | hh
      .exact⟨(g,q),by simp,rfl⟩
      .obtain⟨q',h1,h2⟩:=ih hh;exact⟨q',by simp[h1],h2⟩
   obtain⟨q,h1,h2⟩:=this hp;rw[<-h2];exact ah.gT q h1
  .subst hp;rfl
theorem Holds.abb{s:Sh}{l:List s.den}{v:RV} (x:Holds h β w (.row t s l) v):Holds h β' w (.row t s l) v:=by
 cases v<;>exact x
theorem Xb{ip:IP} (MN:PL P cx.gd f ip) (hf:∃fn,P.funcs[f]?=some fn/\fn.body.isSome=true/\(fn.name == "runtime.NumGoroutine")=false)
 (ah:Sat N B h0 s h β w a) (hg:aG cx.gd h) (hd:jC N o.dst=true) (ho:o.op=.call c) (bH:c.callee=.value (.func f))
 (k:ipK cx ip s o.dst (tl c.args) K):yI P N B h0 h w a o true K:=by
 have tr:gv s.gl []=true:=rfl;unfold ipK at k;split at k
 .cases k
 rename_i x r hargs0;split at k
 .rename_i i hx;split at k
  .rename_i t sh l0 hT;split at k
   .cases k
   rename_i l hl;split at k
   .cases k
   rename_i vs hvs;split at k
   .cases k
   rename_i hnr;split at k
   .cases k
   rename_i bs hbs;split at k
   .cases k
   rename_i dd hdd;obtain⟨aS,k⟩:=k;obtain⟨e1,e2⟩:=l7 hl;subst e1;simp only at e2;subst e2;have cr:bV h β (.c (.row i)) (a.eval x):=aH ah hg tr hx;have hu:β[i]?=some (.row (a.eval x)):=ah.ok.row_of (bf hT tr) cr.1;have hold:=ah.ok.holds i _ _ (bf hT tr) hu;have hav:=mg ah hg tr hvs;obtain⟨_,b2⟩:=wJ ah tr hbs hav;intro Nx Q next
   rw[if_pos rfl];obtain⟨fn,hfn,hbody,hname⟩:=hf;have exec:(execOp a.eval o).run P w=.ok (.enter f (c.args.map a.eval)) w:=by
    simp only[execOp,ho,resolve,bH,Act.eval,Deferred.ofValue,invoke,Sem.run_bind,Sem.run_pure,Result.andThen_ok,callFunc,run_program,hfn,hname];simp[hbody];cases hb:fn.body with
    | none=>rw[hb]at hbody;cases hbody
    | some _=>simp
   have hargs:(c.args.map a.eval)=(a.eval x :: r.map a.eval).toArray:=by
    have:c.args=(x :: r).toArray:=by
     cases hc:c.args with
     | mk q=>rw[hc]at hargs0;simp only[tl]at hargs0;rw[hargs0]
    rw[this];simp
   unfold Oper.wp;rw[exec];simp only[Oper.upon];rw[hargs];refine(MN t l0 dd (a.eval x) _ h w ah.ok.hw hg hold.abb (λb hb=>(ah.ok.own i _ _ b (bf hT tr) rfl hu (aT.2 hb)).2.2) (sZ hdd (b2 hnr)) aS).mono ?_
   rintro en w' ⟨v',y,rfl,hgr,hv,hold',hb1,hb2⟩;have hi:i < β.length:=(eU.1 hu).1;cases hb:ip.back with
   | false=>
     rw[hb]at k;obtain⟨rfl,rfl⟩:=hb2 hb;have eF:=bf hT tr;have ok:OK B h0 (eff s.gl (bQ s.T i ([],.row t ip.sh (ip.res l0 dd)))) h β w':=by
      rw[uV];have:=ah.ok.upd (r':=.row t ip.sh (ip.res l0 dd)) (v:=.row (a.eval x)) eF rfl hu hgr (λk e=>aT.2 e) (λb hb=>.inl hb) (.inl rfl) hold'.abb
      rwa [iF hu]at this
     exact next _ _ _ _ _ k (FH.le.refl h) ((ah.mem ok (FH.le.refl h) (Ext.refl β) (nO ah)).put (cZ hd) rfl (λ_=>⟨[],rfl,trivial⟩) λhh=>by cases hh)
   | true=>
     rw[hb]at k;obtain rfl:=hb1 hb;refine next _ _ _ _ _ k (FH.le.refl h) ((Sj ah hT rfl hu hgr hv (x':=.row t ip.sh (ip.res l0 dd)) (v:=.row y) (hold:=hold'.abb)).put (cZ hd) rfl (λ_=>?_) λhh=>by cases hh)
     refine⟨?_,?_⟩
     .refine⟨.row y,?_,rfl⟩;rw[nX hi]
     .rcases hold' with⟨rfl,_⟩ | ⟨_,rfl,_⟩ | ⟨g,cap,cur,rfl,_⟩<;>exact⟨rfl,rfl⟩
  .cases k
 .cases k
end
def abd:Int->Bool
 | .ofNat 0=>true
 | _=>false
theorem Xc{n:Int} (h:abd n=true):n=0:=by
 unfold abd at h;split at h
 .rfl
 .cases h
abbrev CZ:Operand->Bool
 | .const v=>match v with
   | .int _ n=>abd n
   | _=>false
 | _=>false
theorem wL{x:Operand} (h:CZ x=true):∃k,x=.const (.int k 0):=by
 unfold CZ at h;split at h
 .split at h
  .rename_i k n;rw[Xc h];exact⟨k,rfl⟩
  .cases h
 .cases h
abbrev abe:Option Operand->Bool
 | none=>true
 | some x=>CZ x
abbrev afm:Option Operand->Bool
 | none=>false
 | some x=>CZ x
abbrev Sl:SC->Bool
 | .sl _ _=>true
 | .v v=>match v with
   | .slice none 0 0=>true
   | _=>false
 | _=>false
abbrev abf(cx:Cx) (s:St) (d:Option Nat) (t:TypeId) (x:Operand) (lo hi:Option Operand) (K:St->Prop):Prop:=match descOf cx t with
 | .slice el=>match mQ cx.ti el with
   | none=>False
   | some ie=>match ie.jK with
     | none=>False
     | some sh=>match bI cx s [] x with
       | some (.one (.c y))=>match bY (Sl y) (bY (abe lo) (afm hi)) with
         | true=>K ({ s with T:=snoc s.T ([],.row el sh []) }.put d [] (.one (.c (.row (aJ s.T)))))
         | false=>False
       | _=>False
 | _=>False
abbrev JI(cx:Cx) (s:St) (d:Option Nat) (t:TypeId) (i:Nat) (lo hi:Option Operand) (K:St->Prop):Prop:=match descOf cx t with
 | .slice el=>match mQ cx.ti el with
   | none=>False
   | some _=>match abe lo with
     | false=>False
     | true=>match hi with
       | none=>False
       | some h=>match bI cx s [] h with
         | some (.one (.c (.v (.int _ n))))=>match dH s.T i with
           | some ([],.row el' sh l)=>(0<=n/\n<=l.length)/\K ({ s with T:=bQ (Hf i s.T) i ([],.row el' sh (l.take n.toNat)),env:=qF i s.env }.put d [] (.one (.c (.row i))))
           | _=>False
         | _=>False
 | _=>False
abbrev abg(cx:Cx) (s:St) (d:Option Nat) (t:TypeId) (lo hi:Option Operand) (K:St->Prop):Prop:=match descOf cx t with
 | .slice el=>match mQ cx.ti el with
   | none=>False
   | some _=>match CX cx s [] lo 0 with
     | none=>False
     | some a=>match CX cx s [] hi 0 with
       | none=>False
       | some b=>(0<=a/\a<=b/\b<=0)/\K (s.put d [] (.one (.c (.v (.slice none 0 0)))))
 | _=>False
def JJ(a b:Int):Int:=if b > a then b else a
abbrev JK(cx:Cx) (s:St) (d:Option Nat) (x y:Operand) (K:St->Prop):Prop:=match bI cx s [] x with
 | some (.one (.c (.v (.int .i64 a))))=>match bI cx s [] y with
   | some (.one (.c (.v (.int .i64 b))))=>K (s.put d [] (vI .i64 (JJ a b)))
   | _=>False
 | _=>False
abbrev abh(cx:Cx) (s:St) (d:Option Nat) (t:TypeId) (x:Operand) (K:St->Prop):Prop:=match descOf cx t with
 | .slice _=>match bI cx s [] x with
   | some (.one (.c (.v (.slice none 0 0))))=>K (s.put d [] (vI .i64 0))
   | _=>False
 | _=>False
abbrev abj(cx:Cx) (s:St) (d:Option Nat) (t:TypeId) (x:Operand) (lo hi:Option Operand) (m:Operand) (K:St->Prop):Prop:=match descOf cx t with
 | .slice el=>match mQ cx.ti el with
   | none=>False
   | some ie=>match abe lo with
     | false=>False
     | true=>match hi with
       | none=>False
       | some h=>match bI cx s [] h with
         | some (.one (.c (.v (.int _ n))))=>match bI cx s [] m with
           | some (.one (.c (.v (.int _ n'))))=>match bI cx s [] x with
             | some (.one (.c (.sl sh l)))=>match Nat.beq ie.size sh.size with
               | true=>(0<=n/\n<=l.length/\n=n')/\K (s.put d [] (.one (.c (.abs (.O6 sh (l.take n.toNat))))))
               | false=>False
             | _=>False
           | _=>False
         | _=>False
 | _=>False
abbrev JL(s:St) (d:Option Nat) (eq:Bool) (x:SC) (K:St->Prop):Prop:=match x with
 | .v _=>K (s.put d [] (vB eq))
 | .sl _ l=>∀b:Bool,(b=true->l=[])->K (s.put d [] (vB (cnd eq b (!b))))
 | .row i=>match dH s.T i with
   | some ([],.row _ _ l)=>∀b:Bool,(b=true->l=[])->K (s.put d [] (vB (cnd eq b (!b))))
   | _=>False
 | _=>False
abbrev ET:BinOp->Option Bool
 | .eql=>some true
 | .neq=>some false
 | _=>none
abbrev Sm(cx:Cx) (t:TypeId):Bool:=match descOf cx t with
 | .slice _=>true
 | _=>false
abbrev JM:SC->Bool
 | .sl _ _=>true
 | .row _=>true
 | .v v=>match v with
   | .slice none 0 0=>true
   | _=>false
 | _=>false
abbrev Sr(cx:Cx) (s:St) (d:Option Nat) (t t':TypeId) (y:Operand) (K:St->Prop):Prop:=match descOf cx t' with
 | .int .i64=>match descOf cx t with
   | .slice el=>match mQ cx.ti el with
     | none=>False
     | some ie=>match ie.jK with
       | none=>False
       | some sh=>match bY (Nat.beq sh.size ie.size) (bY (Nat.ble 1 ie.bytes) (Nat.ble 1 ie.size)) with
         | true=>match bI cx s [] y with
           | some (.one (.c (.v (.int .i64 n))))=>(0<=n/\wE n.toNat ie.bytes)/\K ({ s with T:=snoc s.T ([],.row el sh (List.replicate n.toNat (oz sh))) }.put d [] (.one (.c (.row (aJ s.T)))))
           | _=>False
         | false=>False
   | _=>False
 | _=>False
abbrev PN(i:Nat) (z x:SC):SC:=match x with
 | .row j=>match Nat.beq i j with
   | true=>z
   | false=>.row j
 | .jh j k sz off=>match Nat.beq i j with
   | true=>.junk
   | false=>.jh j k sz off
 | .own j off=>match Nat.beq i j with
   | true=>.junk
   | false=>.own j off
 | .sub j k=>match Nat.beq i j with
   | true=>.junk
   | false=>.sub j k
 | .jX j k m sz off=>match Nat.beq i j with
   | true=>.junk
   | false=>.jX j k m sz off
 | x=>x
abbrev Xd(i:Nat) (z:SC):SV->SV
 | .c x=>.c (PN i z x)
 | .agg xs=>.agg (dQ (PN i z) xs)
 | v=>v
abbrev Xe(i:Nat) (z:SC):aW->aW
 | .one v=>.one (Xd i z v)
 | .iQ vs=>.iQ (dQ (Xd i z) vs)
abbrev PO(i:Nat) (z:SC):aC->aC
 | .blk t cs=>.blk t (dQ (PN i z) cs)
 | r=>r
abbrev mD(i:Nat) (z:SC):List (Nat×Gd×aW)->List (Nat×Gd×aW)
 | []=>[]
 | (k,g,e) :: r=>(k,g,Xe i z e) :: mD i z r
abbrev pR(i:Nat) (z:SC):List (Gd×aC)->List (Gd×aC)
 | []=>[]
 | (g,r) :: t=>(g,PO i z r) :: pR i z t
abbrev Hq(s:St) (i:Nat):St:=match dH s.T i with
 | some ([],.row _ sh l)=>{ s with T:=bQ (pR i (.sl sh l) s.T) i ([],.gone),env:=mD i (.sl sh l) s.env }
 | some ([],.deep _ sh l _ _ _ _ [])=>{ s with T:=bQ (pR i (.sl sh l) s.T) i ([],.gone),env:=mD i (.sl sh l) s.env }
 | some ([],.mp k sh l)=>{ s with T:=bQ (pR i (.one (.mp k sh) l) s.T) i ([],.gone),env:=mD i (.one (.mp k sh) l) s.env }
 | _=>s
abbrev lg(s:St):List Nat->St
 | []=>s
 | i :: r=>lg (Hq s i) r
abbrev MO:List SC->List Nat->List Nat
 | [],r=>r
 | x :: xs,r=>match x with
   | .row i=>i :: MO xs r
   | _=>MO xs r
abbrev rowsOf(cx:Cx) (s:St):List (Nat×Operand)->List Nat
 | []=>[]
 | (_,x) :: r=>match bI cx s [] x with
   | some (.one (.c (.row i)))=>i :: rowsOf cx s r
   | some (.one (.agg xs))=>MO xs (rowsOf cx s r)
   | _=>rowsOf cx s r
abbrev EU(cx:Cx) (s:St) (d:Option Nat) (t:TypeId) (x y:Operand) (K:St->Prop):Prop:=fP cx t λel ie sh=>
 match bI cx s [] x with
 | some (.one (.c (.abs (.O6 dR l1))))=>match iV (.sl dR) l1 (.sl sh) with
   | some l=>match bI cx s [] y with
     | some (.one v2)=>match EL s sh v2 with
       | some l2=>wE (l.length+l2.length) ie.bytes/\K ({ s with T:=snoc (pR (aJ s.T) (.sl sh (l++l2)) s.T) ([],.gone),env:=mD (aJ s.T) (.sl sh (l++l2)) s.env }.put d [] (.one (.c (.sl sh (l++l2)))))
       | none=>False
     | _=>False
   | none=>False
 | _=>False
abbrev JO:List Value->Bool
 | []=>false
 | v :: l=>match l with
   | []=>match v with
     | .slice none 0 0=>true
     | _=>false
   | _ :: _=>false
theorem PS{l:List Value} (h:JO l=true):l=[kY]:=by
 unfold JO at h;split at h
 .cases h
 .split at h
  .split at h
   .rfl
   .cases h
  .cases h
abbrev abk:Nat->Bool:=λ_=>true
abbrev JQ(cx:Cx) (s:St) (d:Option Nat) (t:TypeId) (ln cp:Operand) (K:St->Prop):Option Prop:=match descOf cx t with
 | .slice el=>match mQ cx.ti el with
   | none=>none
   | some ie=>match ie.jK with
     | some (.sl e)=>match descOf cx el with
       | .slice tt=>match bY (Nat.beq 1 ie.size) (bY (Nat.ble 1 ie.bytes) (JO ie.zero)) with
         | true=>match bI cx s [] ln with
           | some (.one (.c (.v (.int _ n))))=>match bI cx s [] cp with
             | some (.one (.c (.v (.int _ c))))=>some ((0<=n/\n<=c/\wE c.toNat ie.bytes)/\K ({ s with T:=snoc s.T ([],.deep el (.sl e) (List.replicate n.toNat []) tt e 0 abk []) }.put d [] (.one (.c (.row (aJ s.T))))))
             | _=>none
           | _=>none
         | false=>none
       | _=>none
     | _=>none
 | _=>none
abbrev abl(cx:Cx) (s:St) (o:Oper) (K:St->Prop):Option Prop:=match o.guard with
 | some _=>none
 | none=>match o.op with
   | .slice t x lo hi mx=>match mx with
     | some m=>match CZ m with
       | true=>some (abf cx s o.dst t x lo hi K)
       | false=>some (abj cx s o.dst t x lo hi m K)
     | none=>match bI cx s [] x with
       | some (.one (.c (.row i)))=>some (JI cx s o.dst t i lo hi K)
       | some (.one (.c (.v (.slice none 0 0))))=>some (abg cx s o.dst t lo hi K)
       | _=>none
   | .binOp op t x y t'=>match ET op with
     | none=>none
     | some eq=>match bI cx s [] y with
       | some (.one (.c (.v (.slice none 0 0))))=>match bI cx s [] x with
         | some (.one (.c z))=>match bY (JM z) (Sm cx t) with
           | true=>some (JL s o.dst eq z K)
           | false=>none
         | _=>none
       | _=>none
   | .call c=>match c.callee with
     | .builtin .append=>match tl c.args with
       | [x,y]=>match tl c.argTypes with
         | [t,t']=>match Nat.beq t t' with
           | true=>match bI cx s [] x with
             | some (.one (.c (.abs (.O6 _ _))))=>some (EU cx s o.dst t x y K)
             | _=>none
           | false=>match bI cx s [] x with
             | some (.one (.c (.v (.slice none 0 0))))=>some (Sr cx s o.dst t t' y K)
             | _=>none
         | _=>none
       | _=>none
     | .builtin .cap=>match tl c.args with
       | [x]=>match tl c.argTypes with
         | [t]=>some (abh cx s o.dst t x K)
         | _=>none
       | _=>none
     | .builtin .max=>match tl c.args with
       | [x,y]=>some (JK cx s o.dst x y K)
       | _=>none
     | _=>none
   | .makeSlice t ln cp=>match cx.dm with
     | true=>JQ cx s o.dst t ln cp K
     | false=>none
   | .buildSlice t n ps=>match rowsOf cx s (tl ps) with
     | []=>none
     | i :: r=>some (kP cx (lg s (i :: r)) [] o.dst t n (tl ps) K)
   | _=>none
section
variable {cx:Cx}{P:Program}{N:Nat}{B:Base}{h0:FH}{s:St}{h:FH}{β:List RV}{w:World}{a:Act}{o:Oper}{K:St->Prop}
theorem MP(le:h.le h') (hu:∃u,β[i]?=some u/\u.sl=some v) (sl:dG h' β z v){x:SC}{y:Value} (c:dG h β x y):dG h' β (PN i z x) y:=by
 unfold PN;split
 .rename_i j;split
  .rename_i hj;have:=gI hj;subst this;obtain⟨u,e,es⟩:=c;obtain⟨u',e',es'⟩:=hu;rw[e']at e;cases e;rw[es']at es;cases es;exact sl
  .exact dG.mono (x:=.row j) le (Ext.refl β) c
 .split
  .trivial
  .exact c.mono le (Ext.refl β)
 .split
  .trivial
  .exact c.mono le (Ext.refl β)
 .split
  .trivial
  .exact c.mono le (Ext.refl β)
 .split
  .trivial
  .exact c.mono le (Ext.refl β)
 .exact c.mono le (Ext.refl β)
theorem EW{h h':FH}{β:List RV}{i:Nat}{z:SC}{v:Value} (le:h.le h') (hu:∃u,β[i]?=some u/\u.sl=some v) (sl:dG h' β z v):∀{xs:List SC}{ys:List Value},
 aI (λx y=>dG h β x y/\bZ y) xs ys->aI (λx y=>dG h' β x y/\bZ y) (dQ (PN i z) xs) ys
 | [],[],_=>trivial
 | _ :: _,_ :: _,⟨a,b⟩=>⟨⟨MP le hu sl a.1,a.2⟩,EW le hu sl b⟩
theorem aae(le:h.le h') (hu:∃u,β[i]?=some u/\u.sl=some v) (sl:dG h' β z v):∀{x:SV}{y:Value},bV h β x y->bV h' β (Xd i z x) y
 | .c _,_,c=>⟨MP le hu sl c.1,c.2⟩
 | .agg _,_,⟨ys,e,a⟩=>⟨ys,e,EW le hu sl a⟩
 | .dat s _,_,⟨g,cs,e,r⟩=>⟨g,cs,e,r.mono le s⟩
 | .und,_,c=>c
theorem afn(le:h.le h') (hu:∃u,β[i]?=some u/\u.sl=some v) (sl:dG h' β z v):∀{x:aW}{y:Value},iO h β x y->iO h' β (Xe i z x) y
 | .one _,_,c=>aae le hu sl c
 | .iQ _,_,⟨ys,e,a⟩=>⟨ys,e,go a⟩
where
 go:∀{xs:List SV}{ys:List Value},aI (bV h β) xs ys->aI (bV h' β) (dQ (Xd i z) xs) ys
  | [],[],_=>trivial
  | _ :: _,_ :: _,⟨a,b⟩=>⟨aae le hu sl a,go b⟩
theorem PU(le:h.le h') (hu:∃u,β[i]?=some u/\u.sl=some v) (sl:dG h' β z v):∀{r:aC}{u:RV},Holds h β w r u->Holds h' β w (PO i z r) u
 | .blk _ _,.blk _,⟨ys,e,a⟩=>⟨ys,e,EW le hu sl a⟩
 | .row _ s _,.row _,x=>kE.move le x λ_ _=>rfl
 | .deep _ _ _ _ _ _ _ _,.deep _ _,x=>dN.move le x λ_ _=>rfl
 | .mp k s l,.row v,x=>Holds.move (r:=.mp k s l) (v:=.row v) le (Ext.refl β) x λ_ _ _=>rfl
 | .Jd k s l n,.deep v us,x=>Holds.move (r:=.Jd k s l n) (v:=.deep v us) le (Ext.refl β) x λ_ _ _=>rfl
 | .GL _ _ _ _,.row _,x=>x
 | .Dk _ _ _ _,.deep _ _,x=>zL.move le x λ_ _=>rfl
 | .it k s l dn,.blk v,x=>Holds.move (r:=.it k s l dn) (v:=.blk v) le (Ext.refl β) x λ_ _ _=>rfl
 | .obj _ s _,.blk _,⟨ys,e,r⟩=>⟨ys,e,r.mono le s⟩
 | .gone,_,_=>trivial
theorem xY(i:Nat) (z:SC) (r:aC):(PO i z r).live=r.live:=by cases r<;>rfl
theorem EX{i:Nat}{z:SC}:∀{env:List (Nat×Gd×aW)}{t:Nat}{G:Gd}{e:aW},fH (mD i z env) t=some (G,e)->∃e0,fH env t=some (G,e0)/\e=Xe i z e0
 | [],_,_,_,h=>by simp[mD,fH]at h
 | (k,g,e0) :: r,t,G,e,h=>by
   simp only[mD]at h;rw[aX]at h ⊢
   split at h
   .rename_i hk;cases h;exact⟨e0,by rw[if_pos hk],rfl⟩
   .rename_i hk;rw[if_neg hk];exact EX h
theorem Hr{i:Nat}{z:SC}:∀{env:List (Nat×Gd×aW)}{t:Nat}{G:Gd}{e:aW},fH env t=some (G,e)->fH (mD i z env) t=some (G,Xe i z e)
 | [],_,_,_,h=>by simp[fH]at h
 | (k,g,e0) :: r,t,G,e,h=>by
   simp only[mD];rw[aX]at h ⊢
   split at h
   .rename_i hk;cases h;rw[if_pos hk]
   .rename_i hk;rw[if_neg hk];exact Hr h
theorem MQ(gl:List Bool) (i:Nat) (z:SC):∀{T:List (Gd×aC)},eff gl (pR i z T)=(eff gl T).map (PO i z)
 | []=>rfl
 | (g,r) :: t=>by
   simp only[pR,eff,Es,MQ gl i z (T:=t)]
   congr 1
   cases gv gl g<;>rfl
theorem MR{i:Nat}{z:SC}{p:Gd×aC}:∀{T:List (Gd×aC)},p∈pR i z T->∃q∈T,q.1=p.1
 | [],h=>by simp[pR]at h
 | (g,r) :: t,h=>by
   simp only[pR,jM]at h;rcases h with rfl | h
   .exact⟨(g,r),by simp,rfl⟩
   .obtain⟨q,h1,h2⟩:=MR h;exact⟨q,by simp[h1],h2⟩
theorem Sat.EY(ah:Sat N B h0 s h β w a){r:aC} (eF:(eff s.gl s.T)[i]?=some r) (hu:β[i]?=some u) (hus:u.sl=some v) (le:h.le h') (ok':OK B h0 ((eff s.gl s.T).set i .gone) h' β w) (sl:dG h' β z v):
 Sat N B h0 { s with T:=bQ (pR i z s.T) i ([],.gone),env:=mD i z s.env } h' β w a:=by
 have hu:∃u,β[i]?=some u/\u.sl=some v:=⟨u,hu,hus⟩;refine⟨?_,?_,?_,ah.defers,ah.sz,?_,?_⟩
 .show OK B h0 (eff s.gl (bQ (pR i z s.T) i ([],.gone))) h' β w;rw[dY,MQ];have key:∀{j:Nat}{r:aC},(((eff s.gl s.T).map (PO i z)).set i .gone)[j]?=some r->∃r0,((eff s.gl s.T).set i .gone)[j]?=some r0/\r=PO i z r0:=by
   intro j r e
   by_cases hj:j=i
   .subst hj;have gY:j < (eff s.gl s.T).length:=(eU.1 eF).1;rw[nX (by simpa using gY)]at e
    cases e;exact⟨.gone,by rw[nX gY],rfl⟩
   .rw[kU (Ne.symm hj),Gw]at e;cases hj':(eff s.gl s.T)[j]? with
    | none=>rw[hj']at e;cases e
    | some r0=>rw[hj']at e;cases e;exact⟨r0,by rw[kU (Ne.symm hj)];exact hj',rfl⟩
  exact {
   below:=ok'.below
   dr:=ok'.dr
   len:=by have:=ok'.len;simpa using this
   holds:=λj r v' e e'=>by
    obtain⟨r0,e0,rfl⟩:=key e
    by_cases hj:j=i
    .subst hj;have gY:j < (eff s.gl s.T).length:=(eU.1 eF).1;rw[nX gY]at e0;cases e0;cases v'<;>trivial
    .rw[kU (Ne.symm hj)]at e0;exact PU le hu sl (ah.ok.holds j r0 v' e0 e')
   own:=λj r v' b e hl e' hb=>by
    obtain⟨r0,e0,rfl⟩:=key e;exact ok'.own j r0 v' b e0 (by rw[<-xY i z];exact hl) e' hb
   inj:=λj k r1 r2 u v' b e1 l1 e2 l2 e3 e4 b1 b2=>by
    obtain⟨r0,f1,rfl⟩:=key e1;obtain⟨r0',f2,rfl⟩:=key e2;exact ok'.inj j k r0 r0' u v' b f1 (by rw[<-xY i z];exact l1) f2 (by rw[<-xY i z];exact l2) e3 e4 b1 b2
   hle:=ok'.hle
   hw:=ok'.hw
   hg:=ok'.hg
   kn:=ok'.kn }
 .intro t' G e ht;obtain⟨e0,h1,rfl⟩:=EX ht;obtain⟨z,q1,q2,q3⟩:=ah.env t' G e0 h1;exact⟨z,q1,λhG=>afn le hu sl (q2 hG),q3⟩
 .intro d j hj;obtain⟨G,b,q1,q2⟩:=ah.gs d j hj;exact⟨G,b,Hr q1,q2⟩
 .intro t' G e ht;obtain⟨e0,h1,rfl⟩:=EX ht;exact ah.gb t' G e0 h1
 .intro p hp;simp only at hp;rw[dM]at hp;rcases LH hp with hp | hp
  .obtain⟨q,h1,h2⟩:=MR hp;rw[<-h2];exact ah.gT q h1
  .subst hp;rfl
theorem MS{k:IntKind}{sh:Sh}{l:List (Int×sh.den)} (x:Holds h β w (.mp k sh l) (.row v)) (le:h.le h') (hb:∀b,(RV.row v).has b->∀o z,vis w b o=some z->h' b o=some z):Rd h' (.mp k sh) [v] l:=by
 obtain⟨b,es,c,e,e1,m⟩:=x;exact⟨v,rfl,.inr ⟨b,es,c,e,hb b (aT.2 (by rw[e];rfl)) _ _ (LU e1),m.mono λ_ _=>DW.mono le⟩⟩
theorem Sat.abm(ah:Sat N B h0 s h β w a) (i:Nat):∃h',h.le h'/\Sat N B h0 (Hq s i) h' β w a:=by
 unfold Hq;split
 .rename_i t sh l hT;have eF:(eff s.gl s.T)[i]?=some (.row t sh l):=by rw[iT,<-dI,hT];rfl
  have gY:i < β.length:=by rw[ah.ok.len];exact(eU.1 eF).1
  have hu:=kW gY;have hold:=ah.ok.holds i _ _ eF hu;cases hb:β[i]with
  | blk b=>rw[hb]at hold;cases hold
  | no=>rw[hb]at hold;cases hold
  | deep _ _=>rw[hb]at hold;cases hold
  | row v=>
    rw[hb]at hold hu;obtain⟨h',le,ok',sl⟩:=ah.ok.freeze eF hu;exact⟨h',le,ah.EY (z:=.sl sh l) eF hu rfl le ok' sl⟩
 .rename_i t sh l t2 e so own hT;have eF:(eff s.gl s.T)[i]?=some (.deep t sh l t2 e so own []):=by rw[iT,<-dI,hT];rfl
  have gY:i < β.length:=by rw[ah.ok.len];exact(eU.1 eF).1
  have hu:=kW gY;have hold:=ah.ok.holds i _ _ eF hu;cases hb:β[i]with
  | blk b=>rw[hb]at hold;cases hold
  | no=>rw[hb]at hold;cases hold
  | row _=>rw[hb]at hold;cases hold
  | deep v us=>
    rw[hb]at hold hu;obtain⟨le,ok',vis⟩:=ah.ok.sO eF rfl hu;exact⟨_,le,ah.EY (z:=.sl sh l) eF hu rfl le ok' (dN.data hold le λb hb o z hz=>vis b hb o z hz)⟩
 .rename_i k sh l hT;have eF:(eff s.gl s.T)[i]?=some (.mp k sh l):=by rw[iT,<-dI,hT];rfl
  have gY:i < β.length:=by rw[ah.ok.len];exact(eU.1 eF).1
  have hu:=kW gY;have hold:=ah.ok.holds i _ _ eF hu;cases hb:β[i]with
  | blk b=>rw[hb]at hold;cases hold
  | no=>rw[hb]at hold;cases hold
  | deep _ _=>rw[hb]at hold;cases hold
  | row v=>
    rw[hb]at hold hu;obtain⟨le,ok',vs⟩:=ah.ok.sO eF rfl hu;exact⟨_,le,ah.EY (z:=.one (.mp k sh) l) eF hu rfl le ok' (MS hold le λb hb o z hz=>vs b hb o z hz)⟩
 .exact⟨h,FH.le.refl h,ah⟩
theorem Sat.Cm:∀{l:List Nat}{s:St}{h:FH},Sat N B h0 s h β w a->∃h',h.le h'/\Sat N B h0 (lg s l) h' β w a
 | [],s,h,ah=>⟨h,FH.le.refl h,ah⟩
 | i :: r,s,h,ah=>by
   obtain⟨h1,le1,fQ⟩:=ah.abm i;obtain⟨h2,fU,aY⟩:=Sat.Cm (l:=r) fQ;exact⟨h2,le1.trans fU,aY⟩
theorem yI.le{h h':FH}{b:Bool} (le:h.le h') (k:yI P N B h0 h' w a o b K):yI P N B h0 h w a o b K:=λNx Q next=>k Nx Q λs' h2 β' w' v k' le' ah=>next s' h2 β' w' v k' (le.trans le') ah
theorem Sv{y:SC} (hy:Sl y=true) (c:dG h β y v):∃ad len cap,v=.slice ad len cap/\len<=cap/\(ad=none->len=0/\cap=0):=by
 unfold Sl at hy;split at hy
 .rcases c with⟨rfl,_⟩ | ⟨ad,cap,rfl,_⟩ | ⟨b,off,cap,rfl,h1,_⟩
  .exact⟨none,0,0,rfl,mZ _,λ_=>⟨rfl,rfl⟩⟩
  .exact⟨some ad,0,cap,rfl,zJ _,λh=>by cases h⟩
  .exact⟨_,_,cap,rfl,h1,λh=>by cases h⟩
 .split at hy
  .obtain⟨rfl,_⟩:=c;exact⟨none,0,0,rfl,mZ _,λ_=>⟨rfl,rfl⟩⟩
  .cases hy
 .cases hy
theorem Sz(hc:bT P cx.ti) (ah:Sat N B h0 s h β w a) (hg:aG cx.gd h) (hd:jC N o.dst=true){x m:Operand} (ho:o.op=.slice t x lo hi (some m)) (hm:CZ m=true)
 (k:abf cx s o.dst t x lo hi K):yI P N B h0 h w a o true K:=by
 have tr:gv s.gl []=true:=rfl;unfold abf at k;split at k
 .rename_i el hde;have hu:=bg hc hde (by simp)
  split at k
  .cases k
  rename_i ie hie;have tie:=hc.get hie;split at k
  .cases k
  rename_i sh hsh;split at k
  .rename_i y hy;split at k
   .rename_i hz;rw[ay,ay,A8,A8]at hz;obtain⟨hz1,hz2,hz3⟩:=hz;have cy:=(aH ah hg tr hy:bV h β (.c y) (a.eval x));obtain⟨ad,len,cap,ev,hle,hnil⟩:=Sv hz1 cy.1;obtain⟨km,rfl⟩:=wL hm;obtain⟨hx,rfl⟩:∃x,hi=some x:=by cases hi with | none=>simp[afm]at hz3 | some x=>exact⟨x,rfl⟩
    obtain⟨kh,rfl⟩:=wL (show CZ hx=true from hz3)
    have run:(Instr.sliceAt t (a.eval x) (lo.map a.eval) ((some (Operand.const (.int kh 0))).map a.eval) ((some (Operand.const (.int km 0))).map a.eval)).run P w=.ok (.slice ad 0 0) w:=by
     rw[ev];have e1:(Instr.sliceBounds true len cap (lo.map a.eval) (some (.int kh 0)) (some (.int km 0))).run P w=.ok (0,0,0) w:=by
      cases lo with
      | none=>simp[Instr.sliceBounds,Instr.sliceBound,asIntOf]
      | some z=>
        obtain⟨kz,rfl⟩:=wL (show CZ z=true from hz2)
        simp[Instr.sliceBounds,Instr.sliceBound,asIntOf,Act.eval]
     simp only[Instr.sliceAt,Instr.slice,Sem.run_bind,run_underlying hu,Result.andThen_ok,QO,Act.eval,e1,run_sizeOf tie,Sem.run_pure];simp
    have nw:=jQ (P:=P) ah (o:=o) (G:=[]) rfl hd (r:=.row el sh []) (e:=.one (.c (.row (aJ s.T)))) (K:=K) k λ_=>
     ⟨.slice ad 0 0,w,.row (.slice ad 0 0),by simp only[execOp,ho,Sem.run_bind];rw[run];rfl,bK _ _,λb hb=>by rw[aT]at hb;cases ad<;>simp[au]at hb,by
      cases ad with
      | none=>exact .inl ⟨rfl,rfl⟩
      | some ad=>exact .inr (.inl ⟨ad,rfl,rfl⟩),by
      refine⟨⟨_,jw (jS ah) _,rfl⟩,rfl,rfl⟩⟩
    exact nw.weak
   .cases k
  .cases k
 .cases k
theorem mF(ah:Sat N B h0 s h β w a) (hd:jC N o.dst=true){e:aW} (run:(execOp a.eval o).run P w=.ok (.value v) w) (c:iO h β e v) (k:K (s.put o.dst [] e)):yI P N B h0 h w a o true K:=by
 intro Nx Q next
 rw[if_pos rfl];exact gV run (next _ _ _ _ _ k (FH.le.refl h) (ah.put (cZ hd) rfl (λ_=>c) λhh=>by cases hh))
theorem JR(hc:bT P cx.ti) (ah:Sat N B h0 s h β w a) (hg:aG cx.gd h) (hd:jC N o.dst=true){x:Operand} (ho:o.op=.slice t x lo hi none)
 (hx:bI cx s [] x=some (.one (.c (.row i)))) (k:JI cx s o.dst t i lo hi K):yI P N B h0 h w a o true K:=by
 have tr:gv s.gl []=true:=rfl;unfold JI at k;split at k
 .rename_i el hde;have hu:=bg hc hde (by simp)
  split at k
  .cases k
  rename_i ie hie;have tie:=hc.get hie;split at k
  .cases k
  rename_i hlo;split at k
  .cases k
  rename_i hh;split at k
  .rename_i ik n hn;split at k
   .rename_i el' sh l hT;obtain⟨hb,k⟩:=k;have ch:=(aH ah hg tr hn:bV h β (.c (.v (.int ik n))) (a.eval hh));have eh:a.eval hh=.int ik n:=ch.1.1;have cr:=(aH ah hg tr hx:bV h β (.c (.row i)) (a.eval x));have hβ:β[i]?=some (.row (a.eval x)):=ah.ok.row_of (bf hT tr) cr.1;have hold:=ah.ok.holds i _ _ (bf hT tr) hβ;have hi':i < β.length:=(eU.1 hβ).1;have abn:(lo.map a.eval=none/\(0:Int)=0)\/∃k,lo.map a.eval=some (.int k 0):=by
     cases lo with
     | none=>exact .inl ⟨rfl,rfl⟩
     | some z=>
       obtain⟨kz,rfl⟩:=wL (show CZ z=true from hlo)
       exact .inr ⟨kz,rfl⟩
    have run:∀(ad:Option Addr) (cap:Nat),a.eval x=.slice ad l.length cap->l.length<=cap->(execOp a.eval o).run P w=.ok (.value (.slice ad n.toNat cap)) w:=by
     intro ad cap ev hle;have:=lX (P:=P) (w:=w) (isS:=true) (len:=l.length) (cap:=cap) (lo:=lo.map a.eval) (hi:=some (.int ik n)) (a:=0) (b:=n) abn (.inr ⟨ik,rfl⟩) (by omega) hle
     have r2:(Instr.sliceAt t (a.eval x) (lo.map a.eval) ((some hh).map a.eval) none).run P w=.ok (.slice ad n.toNat cap) w:=by
      rw[ev];simp only[Instr.sliceAt,Instr.slice,Sem.run_bind,run_underlying hu,Result.andThen_ok,QO,eh,this,run_sizeOf tie,Sem.run_pure];cases ad<;>simp[Addr.add]
     simp only[execOp,ho,Sem.run_bind,WC];rw[r2];rfl
    have fin:∀(v':Value),(execOp a.eval o).run P w=.ok (.value v') w->(∀b,au v'=some b->au (a.eval x)=some b)->Holds h (β.set i (.row v')) w (.row el' sh (l.take n.toNat)) (.row v')->bZ v'->yI P N B h0 h w a o true K:=by
     intro v' r hv hold' h1;intro Nx Q next
     rw[if_pos rfl];refine gV r (next _ _ _ _ _ k (FH.le.refl h) ((Sj ah hT rfl hβ (bK _ _) (v:=.row v') (λb hb=>.inl (hv b hb)) (hold:=hold')).put (cZ hd) rfl (λ_=>⟨?_,h1⟩) λhh=>by cases hh))
     refine⟨.row v',?_,rfl⟩;rw[nX hi']
    rcases hold with⟨ev,hl⟩ | ⟨ra,ev,hl⟩ | ⟨g,cap,cur,ev,q1,q2,q3,q4,q5⟩
    .have hn0:n.toNat=0:=by rw[hl]at hb;simp at hb;omega
     refine fin _ (run none 0 (by rw[ev,hl];rfl) (by rw[hl];exact mZ _)) (λb hb=>by simp[au]at hb) (.inl ⟨by rw[hn0],by rw[hl];simp⟩) ⟨rfl,rfl⟩
    .have hn0:n.toNat=0:=by rw[hl]at hb;simp at hb;omega
     refine fin _ (run (some ra) 0 (by rw[ev,hl];rfl) (by rw[hl];exact mZ _)) (λb hb=>by simp[au]at hb) (.inr (.inl ⟨ra,by rw[hn0],by rw[hl];simp⟩)) ⟨rfl,rfl⟩
    .have hlen:(l.take n.toNat).length=n.toNat:=by rw[mY];omega
     refine fin _ (run (some ⟨g,0,none⟩) cap ev q2) (λb hb=>by rw[ev,aO q3.1];rw[aO q3.1]at hb;exact hb) (.inr (.inr ⟨g,cap,cur,by rw[hlen],q1,by rw[hlen];omega,q3,q4,?_⟩)) ⟨rfl,rfl⟩
     have:=eX.qZ (λ_ _=>Rd.size sh) q5 (a:=0) (b:=n.toNat) (zJ _) (by omega)
     simp only[GI,Wv]at this;rw[hlen];rw[List.take_take,Ji (vO _ (by omega))]at this
     exact this
   .cases k
  .cases k
 .cases k
theorem SA(hc:bT P cx.ti) (ah:Sat N B h0 s h β w a) (hg:aG cx.gd h) (hd:jC N o.dst=true){x:Operand} (ho:o.op=.slice t x lo hi none)
 (hx:bI cx s [] x=some (.one (.c (.v (.slice none 0 0))))) (k:abg cx s o.dst t lo hi K):yI P N B h0 h w a o true K:=by
 have tr:gv s.gl []=true:=rfl;unfold abg at k;split at k
 .rename_i el hde;have hu:=bg hc hde (by simp)
  split at k
  .cases k
  rename_i ie hie;have tie:=hc.get hie;split at k
  .cases k
  rename_i p hp;split at k
  .cases k
  rename_i q hq;obtain⟨hb,k⟩:=k;have Dw:=(aH ah hg tr hx:bV h β (.c (.v (.slice none 0 0))) (a.eval x));have ev:a.eval x=.slice none 0 0:=Dw.1.1;have bnd:∀{o:Option Operand}{n:Int},CX cx s [] o 0=some n->(o.map a.eval=none/\n=0)\/∃k,o.map a.eval=some (.int k n):=by
   intro o n e;rcases Md ah hg tr e with⟨rfl,rfl⟩ | ⟨x,ik,rfl,e'⟩
   .exact .inl ⟨rfl,rfl⟩
   .exact .inr ⟨ik,by simp[e']⟩
  have:=lX (P:=P) (w:=w) (isS:=true) (len:=0) (cap:=0) (bnd hp) (bnd hq) (by simpa using hb) (mZ _)
  refine mF ah hd (v:=.slice none 0 0) (e:=.one (.c (.v (.slice none 0 0)))) ?_ ⟨⟨rfl,rfl,rfl⟩,rfl,rfl⟩ k;have h1:p.toNat=0:=by omega
  have h2:q.toNat=0:=by omega
  have r2:(Instr.sliceAt t (a.eval x) (lo.map a.eval) (hi.map a.eval) none).run P w=.ok (.slice none 0 0) w:=by
   rw[ev];simp only[Instr.sliceAt,Instr.slice,Sem.run_bind,run_underlying hu,Result.andThen_ok,this,run_sizeOf tie,Sem.run_pure,h1,h2];simp
  simp only[execOp,ho,Sem.run_bind,WC];rw[r2];rfl
 .cases k
theorem SB(hc:bT P cx.ti) (ah:Sat N B h0 s h β w a) (hg:aG cx.gd h) (hd:jC N o.dst=true){x:Operand} (ho:o.op=.call c) (bH:c.callee=.builtin .cap) (ha:c.args=#[x]) (ht:c.argTypes=#[t])
 (k:abh cx s o.dst t x K):yI P N B h0 h w a o true K:=by
 have tr:gv s.gl []=true:=rfl;unfold abh at k;split at k
 .rename_i el hde;have hu:=bg hc hde (by simp)
  split at k
  .rename_i hx;have Dw:=(aH ah hg tr hx:bV h β (.c (.v (.slice none 0 0))) (a.eval x));have ev:a.eval x=.slice none 0 0:=Dw.1.1;refine mF ah hd (v:=goInt 0) (e:=vI .i64 0) ?_ ⟨⟨rfl,bD _ _⟩,bD _ _⟩ k;simp[execOp,ho,resolve,bH,ha,ht,invoke,builtin,ev,Builtin.cap_,run_underlying hu]
  .cases k
 .cases k
theorem SE(ah:Sat N B h0 s h β w a) (hg:aG cx.gd h) (hd:jC N o.dst=true){x:Operand} (ho:o.op=.call c) (bH:c.callee=.builtin .max) (ha:c.args=#[x,y])
 (k:JK cx s o.dst x y K):yI P N B h0 h w a o true K:=by
 have tr:gv s.gl []=true:=rfl;unfold JK at k;split at k
 .rename_i n hx;have ex:a.eval x=.int .i64 n:=(aH ah hg tr hx:bV h β (.c (.v (.int .i64 n))) (a.eval x)).1.1;split at k
  .rename_i m hy;have ey:a.eval y=.int .i64 m:=(aH ah hg tr hy:bV h β (.c (.v (.int .i64 m))) (a.eval y)).1.1;refine mF ah hd (v:=.int .i64 (JJ n m)) (e:=vI .i64 (JJ n m)) ?_ ⟨⟨rfl,bD _ _⟩,bD _ _⟩ k;simp[execOp,ho,resolve,bH,ha,invoke,builtin,ex,ey,Builtin.max_,Builtin.max2,JJ]
  .cases k
 .cases k
theorem PV(hu:P.underlying t=some (.slice el)) (ad:Option Addr) (n c:Nat) (op:BinOp) (eq:Bool) (he:ET op=some eq) (x y:Operand):
 (eqGuard op t x y (.slice ad n c) (.slice none 0 0)).run P w=.ok () w/\(binOp op t (.slice ad n c) (.slice none 0 0)).run P w=.ok (.bool (cnd eq ad.isNone (!ad.isNone))) w:=by
 refine⟨pJ P op t x y (by rfl) w,?_⟩
 have key:∀d,(Op.equalIn (d+1) t (.slice ad n c) (.slice none 0 0)).run P w=.ok ad.isNone w:=by
  intro d;cases ad<;>simp[Op.equalIn,run_underlying hu]
 have k2:=key 9999;have hq2:Op.equal t (.slice ad n c) (.slice none 0 0)=Op.equalIn (9999+1) t (.slice ad n c) (.slice none 0 0):=rfl;unfold ET at he;split at he
 .cases he;have e:(binOp .eql t (.slice ad n c) (.slice none 0 0)).run P w=((Op.equal t (.slice ad n c) (.slice none 0 0)).run P w).andThen λb w=>.ok (.bool b) w:=by
   simp only[binOp];generalize Op.equal t (.slice ad n c) (.slice none 0 0)=q;simp
  rw[e,hq2,k2];rfl
 .cases he;have e:(binOp .neq t (.slice ad n c) (.slice none 0 0)).run P w=((Op.equal t (.slice ad n c) (.slice none 0 0)).run P w).andThen λb w=>.ok (.bool (!b)) w:=by
   simp only[binOp];generalize Op.equal t (.slice ad n c) (.slice none 0 0)=q;simp
  rw[e,hq2,k2];rfl
 .cases he
theorem JU(hc:bT P cx.ti) (ah:Sat N B h0 s h β w a) (hg:aG cx.gd h) (hd:jC N o.dst=true){t':TypeId}{x:Operand}{op:BinOp}{eq:Bool} (ho:o.op=.binOp op t x y t') (he:ET op=some eq)
 (hy:bI cx s [] y=some (.one (.c (.v (.slice none 0 0))))) (hx:bI cx s [] x=some (.one (.c z))) (hz:JM z=true) (ht:Sm cx t=true) (k:JL s o.dst eq z K):yI P N B h0 h w a o true K:=by
 have tr:gv s.gl []=true:=rfl;obtain⟨el,hu⟩:∃el,P.underlying t=some (.slice el):=by
  unfold Sm at ht;split at ht
  .rename_i el hde;exact⟨el,bg hc hde (by simp)⟩
  .cases ht
 have cy:=(aH ah hg tr hy:bV h β (.c (.v (.slice none 0 0))) (a.eval y));have ey:a.eval y=.slice none 0 0:=cy.1.1;have cz:=(aH ah hg tr hx:bV h β (.c z) (a.eval x));have exec:∀ad n c,a.eval x=.slice ad n c->(execOp a.eval o).run P w=.ok (.value (.bool (cnd eq ad.isNone (!ad.isNone)))) w:=by
  intro ad n c e;obtain⟨g1,g2⟩:=PV (P:=P) (w:=w) hu ad n c op eq he x y;simp only[execOp,ho,Sem.run_bind,e,ey,g1,g2,Result.andThen_ok,Sem.run_pure]
 have fin:∀ad n c (b:Bool),a.eval x=.slice ad n c->K (s.put o.dst [] (vB (cnd eq ad.isNone (!ad.isNone))))->yI P N B h0 h w a o true K:=λad n c b e k=>
  mF ah hd (e:=vB (cnd eq ad.isNone (!ad.isNone))) (exec ad n c e) ⟨⟨rfl,bU _⟩,bU _⟩ k
 unfold JL at k;split at k
 .rename_i v;unfold JM at hz;have ev:a.eval x=.slice none 0 0:=by
   simp only at hz;split at hz
   .exact cz.1.1
   .cases hz
  refine fin none 0 0 true ev ?_;cases eq<;>exact k
 .rename_i sh l;rcases cz.1 with⟨e,hl⟩ | ⟨ad,cap,e,hl,_⟩ | ⟨b,off,cap,e,_⟩
  .exact fin _ _ _ true e (k true λ_=>hl)
  .exact fin _ _ _ true e (k false λhh=>by cases hh)
  .exact fin _ _ _ true e (k false λhh=>by cases hh)
 .rename_i i;split at k
  .rename_i t2 sh l hT;have hβ:β[i]?=some (.row (a.eval x)):=ah.ok.row_of (bf hT tr) cz.1;rcases ah.ok.holds i _ _ (bf hT tr) hβ with⟨e,hl⟩ | ⟨ra,e,hl⟩ | ⟨g,cap,cur,e,_⟩
   .exact fin _ _ _ true e (k true λ_=>hl)
   .exact fin _ _ _ true e (k false λhh=>by cases hh)
   .exact fin _ _ _ true e (k false λhh=>by cases hh)
  .cases k
 .cases k
theorem SG{t' ty:TypeId}{i:TypeInfo}{z:Value} (ht:P.underlying t=some (.slice el)) (ht':P.underlying t'=some (.int .i64)) (hi:P.info? el=some i) (hz:i.zero=some z) (hs:1<=i.size) (n:Nat) (h0:0 < n) (h48:n * i.bytes<=140737488355328) (hb:1<=i.bytes):
 (Builtin.append_ #[t,t'] ty #[.slice none 0 0,.int .i64 n]).run P w =
  .ok (.slice (some ⟨w.heap.size,0,none⟩) n (grownCap w n 0 el)) (w.drew.alloc (.cells (Builtin.zeroCells z.cells n++Builtin.zeroCells z.cells (grownCap w n 0 el - n)) el)):=by
 have hn63:n<=140737488355328:=o9 (ZT _ hb) h48;have hn:n≠0:=by omega
 have hw:IntKind.i64.wrap (n:Int)=n:=by simp[IntKind.wrap,IntKind.bits,IntKind.signed];omega
 have hneg:¬((n:Int) < 0):=by omega
 have h48i:¬((281474976710656:Int) < (n:Int) * (i.bytes:Int)):=by
  have:((n * i.bytes:Nat):Int)<=140737488355328:=by omega
  rw[Int.natCast_mul]at this;omega
 have h63':¬(9223372036854775807 < (n:Int)):=by omega
 have h48':¬(281474976710656 < Builtin.nextslicecap n 0 * i.bytes):=by rw[nextslicecap_zero h0];omega
 have hns:¬(n * i.size=0):=by
  intro hh;rcases Nat.mul_eq_zero.1 hh with h | h<;>omega
 have ahG:¬(i.size=0):=by omega
 simp[Builtin.append_,run_underlying ht,run_underlying ht',sizeOf,typeInfo,zeroValue,hi,hz,Builtin.lenOf,hn,hw,hneg,h48i,h63',h48',Question.forced,run_firstCells_none,newRow,grownCap,asInt,asIntOf,hns,ahG]
theorem PW(hc:bT P cx.ti) (ah:Sat N B h0 s h β w a) (hg:aG cx.gd h) (hd:jC N o.dst=true){t':TypeId}{x:Operand} (ho:o.op=.call c) (bH:c.callee=.builtin .append) (ha:c.args=#[x,y]) (ht:c.argTypes=#[t,t'])
 (hx:bI cx s [] x=some (.one (.c (.v (.slice none 0 0))))) (k:Sr cx s o.dst t t' y K):yI P N B h0 h w a o true K:=by
 have tr:gv s.gl []=true:=rfl;unfold Sr at k;split at k
 .rename_i hdi;have hui:=bg hc hdi (by simp)
  split at k
  .rename_i el hde;have hu:=bg hc hde (by simp)
   split at k
   .cases k
   rename_i ie hie;have tie:=hc.get hie;split at k
   .cases k
   rename_i sh hsh;split at k
   .rename_i hz;rw[ay,ay,A8,A8]at hz;have hz1:sh.size=ie.size:=gI hz.1;have hz2:1<=ie.bytes:=lK hz.2.1;have hz3:1<=ie.size:=lK hz.2.2;split at k
    .rename_i n hn;obtain⟨⟨hn0,hroom⟩,k⟩:=k;have ex:a.eval x=.slice none 0 0:=(aH ah hg tr hx:bV h β (.c (.v (.slice none 0 0))) (a.eval x)).1.1;have ey:a.eval y=.int .i64 n:=(aH ah hg tr hn:bV h β (.c (.v (.int .i64 n))) (a.eval y)).1.1;obtain⟨inf,z,i1,i2,i3,i4,i5⟩:=tie.info;obtain⟨m,rfl⟩:∃m:Nat,n=m:=⟨n.toNat,by omega⟩
     rw[Int.toNat_natCast]at hroom k;unfold wE at hroom;refine eG.weak (jQ (P:=P) ah (o:=o) (G:=[]) rfl hd (r:=.row el sh (List.replicate m (oz sh))) (e:=.one (.c (.row (aJ s.T)))) (K:=K) k λ_=>?_)
     by_cases hm:m=0
     .subst hm;refine⟨.slice none 0 0,w,.row (.slice none 0 0),?_,bK _ _,λb hb=>by rw[aT]at hb;simp[au]at hb,.inl ⟨rfl,rfl⟩,⟨_,jw (jS ah) _,rfl⟩,rfl,rfl⟩
      simp[execOp,ho,resolve,bH,ha,ht,invoke,builtin,ex,ey,Builtin.append_,run_underlying hu,run_underlying hui,sizeOf,typeInfo,i1,asInt,asIntOf,IntKind.wrap,IntKind.bits,IntKind.signed]
     .have r:=SG (P:=P) (w:=w) (ty:=o.type) hu hui i1 i4 (by omega) m (by omega) (by rw[i3];exact hroom) (by omega)
      have hge:=grownCap_ge w m 0 el;have hle:m<=140737488355328:=o9 (ZT _ hz2) hroom;refine⟨.slice (some ⟨w.heap.size,0,none⟩) m (grownCap w m 0 el),w.drew.alloc (.cells (Builtin.zeroCells z.cells m++Builtin.zeroCells z.cells (grownCap w m 0 el - m)) el),.row (.slice (some ⟨w.heap.size,0,none⟩) m (grownCap w m 0 el)),?_,⟨⟨rfl,rfl,rfl,by simp,λk hk _=>(World.grownBy_alloc w.drew _ none).block k hk (by simp)⟩,LQ _⟩,?_,?_,⟨_,jw (jS ah) _,rfl⟩,rfl,rfl⟩
      .simp only[execOp,ho,resolve,bH,ha,ht,invoke,builtin,Sem.run_bind,Sem.run_pure,Result.andThen_ok];simp[ex,ey,r]
      .intro b hb;rw[aT]at hb;simp[au]at hb;obtain⟨_,rfl⟩:=hb;simp
      .have RQ:z.cells.size=ie.size:=by rw[i5];simpa using tie.mP
       have hzz:∀q,Builtin.zeroCells z.cells q=(gQ q ie.zero).toArray:=by
        intro q;unfold Builtin.zeroCells;rw[i5];have:=oH (zero:=ie.zero) (n:=q) (by rw[tie.mP];omega)
        simpa using this
       refine .inr (.inr ⟨w.heap.size,_,_,by rw[Ws],heap_alloc_new w.drew _,by rw[Ws];omega,⟨by omega,grownCap_le_maxLen w m 0 el (by simp only[maxLen];omega)⟩,?_,?_⟩)
       .simp only[VY,size_zeroCells,RQ,hz1,<-Gx];congr 1;omega
       .rw[Ws,hzz,hzz];simp only[ZV,List.toList_toArray];rw[A87 (by rw[rH,tie.mP,hz1];exact mZ _),hz1,<-tie.mP,xX (mZ _)]
        exact EM (rG (tie.Ph sh hsh).1) _
    .cases k
   .cases k
  .cases k
 .cases k
theorem MV{l:List Value}:∀{m j:Nat},j < m->((gQ m l).drop (j * l.length)).take l.length=l
 | m+1,0,_=>by simp[gQ,dW]
 | m+1,j+1,h=>by
   simp only[gQ,dW];rw[uN,Q9,A70];exact MV (by omega)
theorem JV(hc:bT P cx.ti) (ah:Sat N B h0 s h β w a) (hg:aG cx.gd h) (hd:jC N o.dst=true){x:Operand} (ho:o.op=.makeSlice t x y){p:Prop}
 (hp:JQ cx s o.dst t x y K=some p) (k:p):yI P N B h0 h w a o true K:=by
 have tr:gv s.gl []=true:=rfl;unfold JQ at hp;split at hp
 .rename_i el hde;have hu:=bg hc hde (by simp)
  split at hp
  .cases hp
  rename_i ie hie;have tie:=hc.get hie;split at hp
  .rename_i e hsh;split at hp
   .rename_i tt hte;split at hp
    .rename_i hz;rw[ay,ay,A8,A8]at hz;have hz1:1=ie.size:=gI hz.1;have hz2:1<=ie.bytes:=lK hz.2.1;have hz3:ie.zero=[kY]:=PS hz.2.2;split at hp
     .rename_i ik n hn;split at hp
      .rename_i WV c hcp;cases hp;refine(jQ (G:=[]) ah rfl hd k.2 λhgv=>?_).weak
       obtain⟨s1,s2,s3⟩:=k.1;have e1:a.eval x=.int ik n:=(aH ah hg hgv hn).1.1;have e2:a.eval y=.int WV c:=(aH ah hg hgv hcp).1.1;obtain⟨inf,z,i1,i2,i3,i4,i5⟩:=tie.info;unfold wE at s3;have hcb:c.toNat<=140737488355328:=o9 (ZT _ hz2) s3;have hb:(inf.bytes:Int) * c<=281474976710656:=by
        rw[i3];have:((c.toNat * ie.bytes:Nat):Int)<=140737488355328:=by omega
        rw[Int.natCast_mul,Int.toNat_of_nonneg (by omega),Int.mul_comm]at this
        omega
       have r:=run_make (P:=P) w t el inf z hu i1 i4 ik WV n c s1 s2 hb (by omega)
       have RS:madeCells z.cells (c.toNat * inf.size)=(gQ c.toNat ie.zero).toArray:=by
        unfold madeCells;rw[i5,i2,<-tie.mP];exact oH (by rw[tie.mP];omega)
       rw[RS]at r;have hbn:∀{b:Nat},¬au kY=some b:=by intro b hb';simp[kY,au]at hb'
       refine⟨.slice (some ⟨w.heap.size,0,none⟩) n.toNat c.toNat,w.alloc (.cells (gQ c.toNat ie.zero).toArray el),.deep (.slice (some ⟨w.heap.size,0,none⟩) n.toNat c.toNat) (λ_=>kY),?_,jO _ _ _,?_,?_,?_⟩
       .simp only[execOp,ho,e1,e2,Sem.run_bind,r,Result.andThen_ok,Sem.run_pure]
       .intro b hb';rw[aN]at hb';rcases hb' with hb' | ⟨j,hb'⟩
        .simp[au]at hb';obtain⟨_,rfl⟩:=hb';simp
        .exact absurd hb' hbn
       .refine⟨λj k b hb'=>absurd hb' hbn,λj b hb'=>absurd hb' hbn,?_⟩
        by_cases hc0:c.toNat=0
        .have hn0:n.toNat=0:=by omega
         exact .inr (.inl ⟨⟨w.heap.size,0,none⟩,by rw[hc0,hn0],by rw[hn0];rfl⟩)
        refine .inr (.inr ⟨w.heap.size,c.toNat,_,by rw[Ws],jR _ _,by rw[Ws];omega,⟨by omega,by simp only[maxLen];omega⟩,?_,λj=>hbn,λj dd hj=>?_⟩)
        .simp only[CO,rH,hz3];rfl
        .have hj':=(eU.1 hj).1;rw[Ws]at hj';have ed:dd=[]:=by
          have:=kT hj;exact List.eq_of_mem_replicate this
         subst ed;have ecs:((gQ c.toNat ie.zero).drop (j * 1)).take 1=[kY]:=by
          have:=MV (l:=ie.zero) (m:=c.toNat) (j:=j) (by omega)
          rw[hz3]at this ⊢;exact this
         show xK h _ (.sl e) tt e 0 true false kY (((gQ c.toNat ie.zero).drop (j * 1)).take 1) [];rw[ecs];exact⟨[],[],⟨kY,rfl,.inl ⟨rfl,rfl⟩⟩,⟨rfl,rfl,rfl⟩,rfl,.inl ⟨rfl,rfl⟩⟩
       .exact⟨⟨_,jw (jS ah) _,rfl⟩,rfl,rfl⟩
      .cases hp
     .cases hp
    .cases hp
   .cases hp
  .cases hp
 .cases hp
theorem OK.SH(ok:OK B h0 T h β w) (v:RV):OK B h0 (T++[.gone]) h (β++[v]) w where
 below:=ok.below
 dr:=ok.dr
 len:=by simp[ok.len]
 holds:=by
  intro i r' v' e e';rcases aj e with⟨hi,e⟩ | ⟨hi,rfl⟩
  .rcases aj e' with⟨_,e'⟩ | ⟨hj,_⟩
   .exact(ok.holds i r' v' e e').move (FH.le.refl h) (Ext.append _ _) λhl b hb=>rfl
   .have:=ok.len;omega
  .cases v'<;>trivial
 own:=by
  intro i r' v' b e hl e' hb;rcases aj e with⟨hi,e⟩ | ⟨hi,rfl⟩
  .rcases aj e' with⟨_,e'⟩ | ⟨hj,_⟩
   .exact ok.own i r' v' b e hl e' hb
   .have:=ok.len;omega
  .cases hl
 inj:=by
  intro i j r1 r2 u v' b ei hl1 ej hl2 eu ev hu hv';have L:=ok.len;rcases aj ei with⟨hi,ei⟩ | ⟨hi,rfl⟩
  .rcases aj ej with⟨hj,ej⟩ | ⟨hj,rfl⟩
   .rcases aj eu with⟨_,eu⟩ | ⟨hi',_⟩
    .rcases aj ev with⟨_,ev⟩ | ⟨hj',_⟩
     .exact ok.inj i j r1 r2 u v' b ei hl1 ej hl2 eu ev hu hv'
     .omega
    .omega
   .cases hl2
  .cases hl1
 hle:=ok.hle
 hw:=ok.hw
 hg:=ok.hg
 kn:=ok.kn
theorem uF{i:Nat}{z:SC}{g g':Gd×aC}:∀{T:List (Gd×aC)},bQ (pR i z (snoc T g)) (aJ T) g'=snoc (pR i z T) g'
 | []=>rfl
 | x :: T=>by
   show bQ (_ :: pR i z (snoc T g)) (aJ T+1) g'=_ :: snoc (pR i z T) g';show _ :: bQ (pR i z (snoc T g)) (aJ T) g'=_;rw[uF]
theorem SI(hc:bT P cx.ti) (ah:Sat N B h0 s h β w a) (hg:aG cx.gd h) (hd:jC N o.dst=true){x m:Operand} (ho:o.op=.slice t x lo hi (some m))
 (k:abj cx s o.dst t x lo hi m K):yI P N B h0 h w a o true K:=by
 have tr:gv s.gl []=true:=rfl;unfold abj at k;split at k
 .rename_i el hde;have hu:=bg hc hde (by simp)
  split at k
  .cases k
  rename_i ie hie;have tie:=hc.get hie;split at k
  .cases k
  rename_i hlo;split at k
  .cases k
  rename_i hh;split at k
  .rename_i ik n hn;split at k
   .rename_i WV n' hn';split at k
    .rename_i sh l hx;split at k
     .rename_i hz;have hz:ie.size=sh.size:=gI hz;obtain⟨⟨b1,b2,b3⟩,k⟩:=k;subst b3;have eh:a.eval hh=.int ik n:=(aH ah hg tr hn:bV h β (.c (.v (.int ik n))) (a.eval hh)).1.1;have em:a.eval m=.int WV n:=(aH ah hg tr hn':bV h β (.c (.v (.int WV n))) (a.eval m)).1.1;have Dw:=(aH ah hg tr hx:bV h β (.c (.sl sh l)) (a.eval x));have abn:lo.map a.eval=none\/∃k,lo.map a.eval=some (.int k 0):=by
       cases lo with
       | none=>exact .inl rfl
       | some z=>
         obtain⟨kz,rfl⟩:=wL (show CZ z=true from hlo)
         exact .inr ⟨kz,rfl⟩
      have run:∀(ad:Option Addr) (len cap:Nat),a.eval x=.slice ad len cap->n<=len->len<=cap->(execOp a.eval o).run P w=.ok (.value (.slice ad n.toNat n.toNat)) w:=by
       intro ad len cap ev h1 h2;have hb:(0:Int)<=n/\n<=cap:=by omega
       have ahH:(Instr.sliceBounds true len cap (lo.map a.eval) (some (.int ik n)) (some (.int WV n))).run P w=.ok (0,n.toNat,n.toNat) w:=by
        unfold Instr.sliceBounds;rcases abn with e | ⟨k,e⟩
        .rw[e];simp[Instr.sliceBound,asIntOf,hb];omega
        .rw[e];simp[Instr.sliceBound,asIntOf,hb];omega
       have r2:(Instr.sliceAt t (a.eval x) (lo.map a.eval) ((some hh).map a.eval) ((some m).map a.eval)).run P w=.ok (.slice ad n.toNat n.toNat) w:=by
        rw[ev];simp only[Instr.sliceAt,Instr.slice,Sem.run_bind,run_underlying hu,Result.andThen_ok,QO,eh,em,ahH,run_sizeOf tie,Sem.run_pure];cases ad<;>simp[Addr.add]
       simp only[execOp,ho,Sem.run_bind];rw[r2];rfl
      rcases Dw.1 with⟨ev,hl⟩ | ⟨ra,cap,ev,hl,hc'⟩ | ⟨b,off,cap,ev,q1,q2,cs,rd,at_⟩
      .have hn0:n.toNat=0:=by rw[hl]at b2;simp at b2;omega
       refine mF ah hd (e:=.one (.c (.abs (.O6 sh (l.take n.toNat))))) (run none 0 0 ev (by rw[hl]at b2;simpa using b2) (mZ _)) ⟨⟨?_,none,_,rfl⟩,rfl,rfl⟩ k
       rw[hn0,hl];exact .inl ⟨rfl,rfl⟩
      .have hn0:n.toNat=0:=by rw[hl]at b2;simp at b2;omega
       refine mF ah hd (e:=.one (.c (.abs (.O6 sh (l.take n.toNat))))) (run (some ra) 0 cap ev (by rw[hl]at b2;simpa using b2) (zJ _)) ⟨⟨?_,some ra,_,rfl⟩,rfl,rfl⟩ k
       rw[hn0,hl];exact .inr (.inl ⟨ra,0,rfl,rfl,zJ _⟩)
      .have hlen:(l.take n.toNat).length=n.toNat:=by rw[mY];omega
       refine mF ah hd (e:=.one (.c (.abs (.O6 sh (l.take n.toNat))))) (run (some ⟨b,off,none⟩) l.length cap ev b2 q1) ⟨⟨.inr (.inr ⟨b,off,n.toNat,by rw[hlen],by rw[hlen];exact mZ _,by omega,cs.take (n.toNat * sh.size),?_,?_⟩),_,_,rfl⟩,rfl,rfl⟩ k
       .have:=eX.qZ (λ_ _=>Rd.size sh) rd (a:=0) (b:=n.toNat) (zJ _) (by omega)
        simpa using this
       .have:=at_.shift (n.toNat * sh.size) 0;simpa using this
     .cases k
    .cases k
   .cases k
  .cases k
 .cases k
theorem Ar{ty:TypeId}{i:TI}{sh:Sh}{sv:Value}{l l2:List sh.den} (hu:P.underlying t=some (.slice el)) (k:aU P el i) (hs:sh.size=i.size)
 (hb1:1<=i.bytes) (hs1:1<=i.size) (row:nY h (Rd h sh) v l/\∃a n,v=.slice a n n) (src:MB h w sh sv l2) (room:wE (l.length+l2.length) i.bytes)
 (hw:∀b o u,h b o=some u->vis w b o=some u):
 ∃v' w',(Builtin.append_ #[t,t] ty #[v,sv]).run P w=.ok v' w'/\((l2=[]/\v'=v/\w'=w)\/(Gb w w' none/\(∀b,au v'=some b->w.heap.size<=b/\b < w'.heap.size)/\MC h w' el sh v' (l++l2))):=by
 obtain⟨inf,z,i1,i2,i3,i4,i5⟩:=k.info;unfold wE at room;obtain⟨row,va,vn,ve⟩:=row;have hn:l.length+l2.length<=140737488355328:=o9 (ZT _ hb1) room;have RQ:z.cells.size=i.size:=by rw[i5];simpa using k.mP
 rcases src with⟨rfl,rfl⟩ | ⟨sa,sc,rfl,rfl⟩ | ⟨b,o,c,cs,rfl,rd,at_⟩
 .refine⟨v,w,?_,.inl ⟨rfl,rfl,rfl⟩⟩;rcases row with⟨rfl,rfl⟩ | ⟨_,cp,rfl,rfl,_⟩ | ⟨g,off,cap,rfl,q1,q2,q3⟩
  .simp[Builtin.append_,run_underlying hu,sizeOf,typeInfo,i1,Builtin.lenOf,Builtin.firstCells]
  .simp[Builtin.append_,run_underlying hu,sizeOf,typeInfo,i1,Builtin.lenOf,Builtin.firstCells,storeCells]
  .simp[Builtin.append_,run_underlying hu,sizeOf,typeInfo,i1,Builtin.lenOf,Builtin.firstCells,q1,storeCells]
 .refine⟨v,w,?_,.inl ⟨rfl,rfl,rfl⟩⟩;rcases row with⟨rfl,rfl⟩ | ⟨_,cp,rfl,rfl,_⟩ | ⟨g,off,cap,rfl,q1,q2,q3⟩
  .simp[Builtin.append_,run_underlying hu,sizeOf,typeInfo,i1,Builtin.lenOf,Builtin.firstCells,loadCells,loadCellsFrom]
  .simp[Builtin.append_,run_underlying hu,sizeOf,typeInfo,i1,Builtin.lenOf,Builtin.firstCells,storeCells,loadCells,loadCellsFrom]
  .simp[Builtin.append_,run_underlying hu,sizeOf,typeInfo,i1,Builtin.lenOf,Builtin.firstCells,q1,storeCells,loadCells,loadCellsFrom]
 .have hcs:cs.length=l2.length * inf.size:=by rw[eX.size (λ_ _=>Rd.size sh) rd,i2,hs]
  have hnews:∀j u,cs[j]?=some u->w.cell? ((⟨b,o,none⟩:Addr).add j)=some u:=λj u e=>by rw[add_lit];exact at_ j u e
  by_cases hm:l2.length=0
  .have:l2=[]:=QL hm;subst this;refine⟨v,w,?_,.inl ⟨rfl,rfl,rfl⟩⟩;rcases row with⟨rfl,rfl⟩ | ⟨_,cp,rfl,rfl,_⟩ | ⟨g,off,cap,rfl,q1,q2,q3⟩
   .simp[Builtin.append_,run_underlying hu,sizeOf,typeInfo,i1,Builtin.lenOf,Builtin.firstCells,loadCells,loadCellsFrom]
   .simp[Builtin.append_,run_underlying hu,sizeOf,typeInfo,i1,Builtin.lenOf,Builtin.firstCells,storeCells,loadCells,loadCellsFrom]
   .simp[Builtin.append_,run_underlying hu,sizeOf,typeInfo,i1,Builtin.lenOf,Builtin.firstCells,q1,storeCells,loadCells,loadCellsFrom]
  .rcases row with⟨rfl,rfl⟩ | ⟨ra,cp,rfl,rfl,hcp⟩ | ⟨g,off,cap,rfl,q1,q2,c0,q3,q4⟩
   .have r:=run_append_nil (P:=P) w t ty el inf z hu i1 i4 ⟨b,o,none⟩ l2.length c cs hcs hnews (by omega) (by simp at hn;omega) (by rw[i3];simp at room;omega)
    have hge:=grownCap_ge w l2.length 0 el;refine⟨_,_,r,.inr ⟨⟨⟨rfl,rfl,rfl,by simp,λk hk _=>(World.grownBy_alloc w.drew _ none).block k hk (by simp)⟩,LQ _⟩,?_,?_⟩⟩
    .intro b' hb';simp[au]at hb';obtain⟨_,rfl⟩:=hb';simp
    .refine .inr (.inr ⟨w.heap.size,_,_,rfl,heap_alloc_new w.drew _,by simpa using hge,⟨by omega,grownCap_le_maxLen w l2.length 0 el (by simp only[maxLen];simp at hn;omega)⟩,?_,?_⟩)
     .simp only[VY,CO,size_zeroCells,RQ,hcs,i2,hs,<-Gx]
      congr 1;omega
     .simp only[ZV,LP];rw[show l2.length * sh.size=cs.length by rw[hcs,i2,hs],QW]
      exact rd
   .have ahI:cp=0:=by cases ve;rfl
    subst ahI;have r:=run_append_grow (P:=P) w t ty el inf z hu i1 i4 ra 0 0 [] (by simp) (λj u e=>by simp at e) ⟨b,o,none⟩ l2.length c cs hcs hnews (by omega) (by simp at hn;omega) (growslice_fits (by omega) (by rw[i3];simpa using room))
    rw[yU]at r;have hge:=grownCap_ge w l2.length 0 el;refine⟨_,_,r,.inr ⟨⟨⟨rfl,rfl,rfl,by simp,λk hk _=>(World.grownBy_alloc w.drew _ none).block k hk (by simp)⟩,LQ _⟩,?_,?_⟩⟩
    .intro b' hb';simp[au]at hb';obtain⟨_,rfl⟩:=hb';simp
    .refine .inr (.inr ⟨w.heap.size,_,_,rfl,heap_alloc_new w.drew _,by simpa using hge,⟨by omega,grownCap_le_maxLen w l2.length 0 el (by simp only[maxLen];simp at hn;omega)⟩,?_,?_⟩)
     .simp only[VY,CO,size_zeroCells,RQ,LP,hcs,i2,hs,yU,OQ,<-Gx]
      congr 1;omega
     .simp only[ZV,LP];rw[show l2.length * sh.size=cs.length by rw[hcs,i2,hs],QW]
      exact rd
   .have hcap:cap=l.length:=by injection ve with e1 e2 e3;omega
    subst hcap;have lsz:=eX.size (λ_ _=>Rd.size sh) q3
    have hol:c0.length=l.length * inf.size:=by rw[lsz,i2,hs]
    have holds:∀j u,c0[j]?=some u->w.cell? ((⟨g,off,none⟩:Addr).add j)=some u:=by
     intro j u e;rw[add_lit];exact zK (hw _ _ _ (q4 j u e)) (eX.all (λ_ _=>Rd.one _) q3 u (kT e)).2
    have r:=run_append_grow (P:=P) w t ty el inf z hu i1 i4 ⟨g,off,none⟩ l.length l.length _ hol holds ⟨b,o,none⟩ l2.length c cs hcs hnews (by omega) (by omega) (growslice_fits (by omega) (by rw[i3];exact room))
    have hge:=grownCap_ge w (l.length+l2.length) l.length el;refine⟨_,_,r,.inr ⟨⟨⟨rfl,rfl,rfl,by simp,λk hk _=>(World.grownBy_alloc w.drew _ none).block k hk (by simp)⟩,LQ _⟩,?_,?_⟩⟩
    .intro b' hb';simp[au]at hb';obtain⟨_,rfl⟩:=hb';simp
    .refine .inr (.inr ⟨w.heap.size,_,_,by rw[kD],heap_alloc_new w.drew _,by rw[kD];exact hge,⟨by omega,grownCap_le_maxLen w _ l.length el (by simp only[maxLen];omega)⟩,?_,?_⟩)
     .have aa5:c0.length=l.length * i.size:=by rw[<-hs];exact lsz
      simp only[VY,CO,size_zeroCells,RQ,hcs,i2,hs,aa5,<-Gx]
      congr 1
      omega
     .simp only[ZV,CJ];rw[<-CJ,show(l++l2).length * sh.size=(c0++cs).length by rw[kD,kD,Gx,hcs,lsz,i2,hs],QW]
      exact q3.append rd
theorem Ht(hc:bT P cx.ti) (ah:Sat N B h0 s h β w a) (hg:aG cx.gd h) (hd:jC N o.dst=true){x:Operand} (ho:o.op=.call c) (bH:c.callee=.builtin .append) (ha:c.args=#[x,y]) (ht:c.argTypes=#[t,t])
 (k:EU cx s o.dst t x y K):yI P N B h0 h w a o true K:=by
 have tr:gv s.gl []=true:=rfl;unfold EU fP at k;split at k
 .rename_i el hde;have hu:=bg hc hde (by simp)
  split at k
  .cases k
  rename_i ie hie;have tie:=hc.get hie;split at k
  .cases k
  rename_i sh hsh;split at k
  .rename_i hz;rw[ay,ay,A8,A8]at hz;have hz1:sh.size=ie.size:=gI hz.1;have hz2:1<=ie.bytes:=lK hz.2.1;have hz3:1<=ie.size:=lK hz.2.2;split at k
   .rename_i dR l1 hx;split at k
    .rename_i l hl;obtain⟨e1,e2⟩:=l7 hl;subst e1;simp only at e2;subst e2;split at k
     .rename_i v2 hv2;have c2:=aH ah hg tr hv2;split at k
      .rename_i l2 hl2;obtain⟨k1,k⟩:=k;have src:=wF ah hl2 c2;have Dw:=(aH ah hg tr hx:bV h β (.c (.abs (.O6 dR l1))) (a.eval x));obtain⟨v',w',r1,r2⟩:=Ar (P:=P) (ty:=o.type) hu tie hz1 hz2 hz3 Dw.1 src k1 ah.ok.hw;have exec:(execOp a.eval o).run P w=.ok (.value v') w':=by
        have r1':=r1;simp[execOp,ho,resolve,bH,ha,ht,invoke,builtin,r1']
       have hlen:aJ s.T=β.length:=by rw[ah.ok.len,fO,aV]
       have gT:∀(r:aC),∀p∈snoc s.T (([]:Gd),r),qX s.gl.length p.1=true:=by
        intro r p hp;rw[fM,Cj]at hp;rcases hp with hp | hp
        .exact ah.gT p hp
        .simp at hp;subst hp;rfl
       have fin:∀(r:aC) (h':FH) (s1:Sat N B h0 { s with T:=snoc s.T ([],r) } h (β++[.row v']) w' a),h.le h'->OK B h0 ((eff s.gl (snoc s.T ([],r))).set (aJ s.T) .gone) h' (β++[.row v']) w'->nY h' (Rd h' dR) v' (l1++l2)->yI P N B h0 h w a o true K:=by
        intro r h' s1 le ok' sl;have eF:(eff s.gl (snoc s.T (([]:Gd),r)))[aJ s.T]?=some r:=by
         rw[fJ,hlen,ah.ok.len,Jh (mZ _),Nat.sub_self];rfl
        have aY:=s1.EY (z:=.sl dR (l1++l2)) (i:=aJ s.T) (u:=.row v') (v:=v') eF (by rw[hlen];simp) rfl le ok' sl
        rw[show bQ (pR (aJ s.T) (.sl dR (l1++l2)) (snoc s.T (([]:Gd),r))) (aJ s.T) (([]:Gd),aC.gone)=snoc (pR (aJ s.T) (.sl dR (l1++l2)) s.T) (([]:Gd),aC.gone) from uF]at aY
        intro Nx Q next
        rw[if_pos rfl];exact gV exec (next _ _ _ _ _ k le (aY.put (cZ hd) rfl (λ_=>⟨sl,sl.bZ⟩) λhh=>by cases hh))
       rcases r2 with⟨e1,e2,e3⟩ | ⟨r2,r3,r4⟩
       .have hw':w=w':=e3.symm;subst hw';subst e2;subst e1;have ok:OK B h0 (eff s.gl (snoc s.T (([]:Gd),aC.gone))) h (β++[.row (a.eval x)]) w:=by rw[fJ];exact ah.ok.SH _
        have s1:=ah.mem ok (FH.le.refl h) (Ext.append _ _) (gT .gone);refine fin .gone h s1 (FH.le.refl h) ?_ (by rw[OO];exact Dw.1.1)
        rw[iF]
        .exact ok
        .rw[fJ,hlen,ah.ok.len,Jh (mZ _),Nat.sub_self];rfl
       .have ok:OK B h0 (eff s.gl (snoc s.T (([]:Gd),aC.row el dR (l1++l2)))) h (β++[.row v']) w':=by
         rw[fJ];exact ah.ok.add r2 (λb hb=>r3 b (aT.1 hb)) r4
        have s1:=ah.mem ok (FH.le.refl h) (Ext.append _ _) (gT _);have eF:(eff s.gl (snoc s.T (([]:Gd),aC.row el dR (l1++l2))))[aJ s.T]?=some (.row el dR (l1++l2)):=by
         rw[fJ,hlen,ah.ok.len,Jh (mZ _),Nat.sub_self];rfl
        obtain⟨h',le,ok',sl⟩:=ok.freeze eF (show(β++[.row v'])[aJ s.T]?=some (.row v') by rw[hlen];simp)
        exact fin _ h' s1 le ok' sl
      .cases k
     .cases k
    .cases k
   .cases k
  .cases k
 .cases k
theorem Xf(hc:bT P cx.ti) (ah:Sat N B h0 s h β w a) (hg:aG cx.gd h) (hd:jC N o.dst=true){ops:Array Oper}{p:Prop} (e:abl cx s o K=some p) (k:p):yI P N B h0 h w a o (Region.wanted o (yielded ops a.tmps)) K:=by
 unfold abl at e;split at e
 .cases e
 rename_i hgd;rw[show Region.wanted o (yielded ops a.tmps)=true by simp[Region.wanted,hgd]]
 split at e
 .rename_i t x lo hi mx ho;split at e
  .rename_i m;split at e
   .rename_i hm;cases e;exact Sz hc ah hg hd ho hm k
   .cases e;exact SI hc ah hg hd ho k
  .split at e
   .rename_i i hx;cases e;exact JR hc ah hg hd ho hx k
   .rename_i hx;cases e;exact SA hc ah hg hd ho hx k
   .cases e
 .rename_i op t x y t' ho;split at e
  .cases e
  .rename_i eq he;split at e
   .rename_i hy;split at e
    .rename_i z hx;split at e
     .rename_i hz;rw[ay,A8]at hz;cases e;exact JU hc ah hg hd ho he hy hx hz.1 hz.2 k
     .cases e
    .cases e
   .cases e
 .rename_i c ho;split at e
  .rename_i bH;split at e
   .rename_i x y ha;split at e
    .rename_i t t' ht;split at e
     .rename_i hb;have hb:t=t':=gI hb;subst hb;split at e
      .cases e;exact Ht hc ah hg hd ho bH (gK ha) (gK ht) k
      .cases e
     .split at e
      .rename_i hx;cases e;exact PW hc ah hg hd ho bH (gK ha) (gK ht) hx k
      .cases e
    .cases e
   .cases e
  .rename_i bH;split at e
   .rename_i x ha;split at e
    .rename_i t ht;cases e;exact SB hc ah hg hd ho bH (gK ha) (gK ht) k
    .cases e
   .cases e
  .rename_i bH;split at e
   .rename_i x y ha;cases e;exact SE ah hg hd ho bH (gK ha) k
   .cases e
  .cases e
 .rename_i t ln cp ho;split at e
  .exact JV hc ah hg hd ho e k
  .cases e
 .rename_i t n ps ho;split at e
  .cases e
  .rename_i i r hr;cases e;obtain⟨h',le,aK⟩:=ah.Cm (l:=i :: r);have:=qE hc aK (hg.mono le) (G:=[]) rfl hd ho k;exact yI.le le this.weak
 .cases e
end
end Go.lM
