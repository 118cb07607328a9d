/- Part 2 of the proof. Conditions: the rows'. -/
import Derived.Test.YtjhenjhcbcalpaaGreatDoorB1
import Derived.Still
set_option linter.unusedSimpArgs false
set_option linter.unusedVariables false
set_option maxRecDepth 1000000
set_option maxHeartbeats 8000000
namespace Go.jf
open Go Go.RowKit
variable {w w':World}{P:Program}{o:Oper}{a:Act}{v:Value}{n r i:Nat}{h' h h0:FH}{β' β:List RV}{t el:TypeId}{y:Operand}{u:RV}{T:List ay}{c:Call}{f:FuncId}{B:Base}{z:SC}{lo hi:Option Operand}
theorem mD.KL(h:Gb w w' none):mD w w':=⟨h.size,λk hk=>h.block k hk (by simp)⟩
theorem mD.of_below(h:Below w.heap.size w w'):mD w w':=⟨h.size,h.block⟩
def quietly:Op->Bool
 | .store ..=>false
 | .call c=>match c.callee with
   | .builtin .len=>true
   | .builtin _=>false
   | .value (.tmp _)=>false
   | _=>true
 | _=>true
def fV(P:Program) (N:Nat) (B:Base) (h0 h:FH) (w:World) (a:Act) (o:Oper) (wanted:Bool) (K:St->Prop):Prop:=
 ∀(Nx:Act->World->Prop) (Q:Exit->Act->World->Prop),
   (∀s' h' β' w' v,K s'->h.le h'->(quietly o.op=true->mD w w')->Sat N B h0 s' h' β' w' (a.put o.dst v)->Nx (a.put o.dst v) w') ->
   if wanted=true then o.wp P a w Nx Q else Nx (a.put o.dst undef) w
theorem kF{Nx:Act->World->Prop}{Q:Exit->Act->World->Prop} (h:(execOp a.eval o).run P w=.ok (.value v) w') (k:Nx (a.put o.dst v) w'):o.wp P a w Nx Q:=by
 unfold Oper.wp;rw[h];exact k
theorem WO{Nx:Act->World->Prop}{Q:Exit->Act->World->Prop} (h:(execOp a.eval o).run P w=.ok .skip w') (k:Nx (a.put o.dst undef) w'):o.wp P a w Nx Q:=by
 unfold Oper.wp;rw[h];exact k
abbrev kY(n:Nat):Option Nat->Bool
 | none=>true
 | some d=>Nat.ble (d+1) n
theorem dR{d:Option Nat} (h:kY n d=true):∀k,d=some k->k < n:=by
 intro k hk;subst hk;have:=qm h;omega
section
variable {cx:Cx}{P:Program}{N:Nat}{B:Base}{h0:FH}{s:St}{h:FH}{β:List RV}{w:World}{a:Act}{G:Gd}{o:Oper}{K:St->Prop}
theorem Gy(hc:bT P cx.ti) (aj:Sat N B h0 s h β w a) (hg:aI cx.gd h) (hG:vk s.gl.length G=true) (hd:kY N o.dst=true) (k:nH cx s G o λe=>K (s.put o.dst G e)):
 fV P N B h0 h w a o (gv s.gl G) K:=by
 intro Nx Q next
 obtain⟨e,k1,k2⟩:=DN hc aj hg k;cases hgv:gv s.gl G with
 | true=>
   obtain⟨v,r,c⟩:=k2 hgv;rw[if_pos rfl];exact kF r (next _ _ _ _ _ k1 (FH.le.refl h) (λ_=>mD.refl w) (aj.put (dR hd) hG (λ_=>c) λhh=>by rw[hgv]at hh;cases hh))
 | false=>
   rw[if_neg (by simp)]
   exact next _ _ _ _ _ k1 (FH.le.refl h) (λ_=>mD.refl w) (aj.put (dR hd) hG (λhh=>by rw[hgv]at hh;cases hh) λ_=>rfl)
theorem bV(w:World) (r:Option Nat):Gb w w r:=⟨⟨rfl,rfl,rfl,pz _,λ_ _ _=>rfl⟩,pz _⟩
theorem lq(aj:Sat N B h0 s h β w a) (hG:vk s.gl.length G=true) (hd:kY N o.dst=true){r:ay}{e:aZ} (k:K ({ s with T:=snoc s.T (G,r) }.put o.dst G e))
 (run:gv s.gl G=true->∃v w' rv,(execOp a.eval o).run P w=.ok (.value v) w'/\Gb w w' none/\(∀b,rv.has b->w.heap.size<=b/\b < w'.heap.size) /\
  Holds h (β++[rv]) w' r rv/\jF h (β++[rv]) e v):
 fV P N B h0 h w a o (gv s.gl G) K:=by
 intro Nx Q next
 have gT:∀p∈snoc s.T (G,r),vk s.gl.length p.1=true:=by
  intro p hp;rw[gY,FI]at hp;rcases hp with hp | hp
  .exact aj.gT p hp
  .simp at hp;subst hp;exact hG
 cases hgv:gv s.gl G with
 | true=>
   obtain⟨v,w',rv,h1,h2,h3,h4,h5⟩:=run hgv;rw[if_pos rfl];refine kF h1 (next _ h (β++[rv]) _ _ k (FH.le.refl h) (λ_=>mD.KL h2) ?_)
   have ok:OK B h0 (eff s.gl (snoc s.T (G,r))) h (β++[rv]) w':=by
    rw[iP,hgv];exact aj.ok.add h2 h3 h4
   exact(aj.mem ok (FH.le.refl h) (Ext.append _ _) gT).put (dR hd) hG (λ_=>h5) λhh=>by simp only at hh;rw[hgv]at hh;cases hh
 | false=>
   rw[if_neg (by simp)]
   refine next _ h (β++[.no]) _ _ k (FH.le.refl h) (λ_=>mD.refl w) ?_
   have ok:OK B h0 (eff s.gl (snoc s.T (G,r))) h (β++[.no]) w:=by
    rw[iP,hgv];exact aj.ok.add (bV w none) (λb hb=>(N7 hb).elim) trivial
   exact(aj.mem ok (FH.le.refl h) (Ext.append _ _) gT).put (dR hd) hG (λhh=>by simp only at hh;rw[hgv]at hh;cases hh) λ_=>rfl
theorem mG(aj:Sat N B h0 s h β w a){s':St} (k:K s') (hgv:gv s.gl G=true) (hq:quietly o.op=false)
 (run:(execOp a.eval o).run P w=.ok (.value v) w'\/((execOp a.eval o).run P w=.ok .skip w'/\v=undef)) (le:h.le h') (aW:Sat N B h0 s' h' β' w' (a.put o.dst v)):
 fV P N B h0 h w a o (gv s.gl G) K:=by
 intro Nx Q next
 rw[if_pos hgv];rcases run with run | ⟨run,rfl⟩
 .exact kF run (next _ _ _ _ _ k le (λhh=>by rw[hq]at hh;cases hh) aW)
 .exact WO run (next _ _ _ _ _ k le (λhh=>by rw[hq]at hh;cases hh) aW)
end
abbrev Oi:Sh->Bool
 | .arr _ _=>true
 | .pair a b=>match Oi a with
   | true=>true
   | false=>Oi b
 | _=>false
abbrev QC(cz:Bool) (t:TypeId) (i:TI):ay:=match i.iL with
 | some s=>match dD (Oi s) (!cz) with
   | true=>.obj t s (qL s)
   | false=>.blk t (fE SC.v i.zero)
 | none=>.blk t (fE SC.v i.zero)
abbrev IB(cx:Cx) (s:St) (G:Gd) (d:Option Nat) (t:TypeId) (K:St->Prop):Prop:=match pU cx.ti t with
 | none=>False
 | some i=>K ({ s with T:=snoc s.T (G,QC cx.cz t i) }.put d G (.one (.c (.own (aQ s.T) 0))))
abbrev Oj(t:TypeId) (v:SV):Option ay:=match v with
 | .dat sh d=>some (.obj t sh d)
 | v=>match nN v with
   | some xs=>some (.blk t xs)
   | none=>none
abbrev acQ(cx:Cx) (s:St) (G:Gd) (d:Option Nat) (t:TypeId) (x:Operand) (K:St->Prop):Prop:=match bM cx s G x with
 | some (.one v)=>match Oj t v with
   | some r=>K ({ s with T:=snoc s.T (G,r) }.put d G (.one (.c (.own (aQ s.T) 0))))
   | none=>False
 | _=>False
theorem mJ(w:World) (o:Obj):(w.alloc o).heap[w.heap.size]?=some o:=heap_alloc_new w o
theorem UA{v:SV}{r:ay}{y:Value}{b:Nat} (e:Oj t v=some r) (c:dh h β v y) (eb:Ext β β')
 (hw:w.heap[b]?=some (.cells y.cells t (0,0))):Holds h β' w r (.blk b):=by
 unfold Oj at e;split at e
 .cases e;obtain⟨_,cs,rfl,rd⟩:=c;exact⟨cs,hw,rd⟩
 .split at e
  .rename_i xs hx;cases e;refine⟨y.cells.toList,by simpa using hw,(xw hx c).mono λ_ _ ⟨p,q⟩=>⟨p.mono (FH.le.refl h) eb,q⟩⟩
  .cases e
section
variable {cx:Cx}{P:Program}{N:Nat}{B:Base}{h0:FH}{s:St}{h:FH}{β:List RV}{w:World}{a:Act}{G:Gd}{o:Oper}{K:St->Prop}
theorem kG(hn:β.length=n) (v:RV):(β++[v])[n]?=some v:=by
 subst hn;simp
theorem lu(aj:Sat N B h0 s h β w a):β.length=aQ s.T:=by
 rw[aj.ok.len,iK,bF]
theorem yL{s:Sh}{cs:List Value}{d:s.den} (r:Rd (λ_ _=>none) s cs d):Rd h s cs d:=r.mono (λ_ _ _ e=>by cases e) s
theorem Ol(hc:bT P cx.ti) (aj:Sat N B h0 s h β w a) (hG:vk s.gl.length G=true) (hd:kY N o.dst=true) (ho:o.op=.alloc t) (k:IB cx s G o.dst t K):
 fV P N B h0 h w a o (gv s.gl G) K:=by
 unfold IB at k;split at k
 .cases k
 rename_i i hi;have ti:=hc.get hi;refine lq aj hG hd k λhgv=>?_
 obtain⟨z,hz1,hz2⟩:=uy ti w;refine⟨.pointer (some ⟨w.heap.size,0,none⟩),w.alloc (.cells z.cells t),.blk w.heap.size,?_,oC _ _ _,?_,?_,?_⟩
 .simp only[execOp,ho,Instr.alloc,newVar,newRow,Sem.run_bind,hz1,Result.andThen_ok,run_newObj,Sem.run_pure];rfl
 .intro b hb;rw[kZ]at hb;subst hb;simp
 .have hn:=mJ w (.cells z.cells t);unfold QC;split
  .rename_i sh hs;split
   .exact⟨i.zero,by rw[hn,hz2],yL (ti.Wx _ hs).1⟩
   .exact⟨i.zero,by rw[hn,hz2],gZ ti.zone⟩
  .exact⟨i.zero,by rw[hn,hz2],gZ ti.zone⟩
 .exact⟨⟨_,kG (lu aj) _,rfl⟩,iT _⟩
theorem WQ(hc:bT P cx.ti) (aj:Sat N B h0 s h β w a) (hg:aI cx.gd h) (hG:vk s.gl.length G=true) (hd:kY N o.dst=true){x:Operand} (ho:o.op=.box t x) (k:acQ cx s G o.dst t x K):
 fV P N B h0 h w a o (gv s.gl G) K:=by
 unfold acQ at k;split at k
 .rename_i v hv;split at k
  .rename_i r hr;refine lq aj hG hd k λhgv=>?_
   have hx:=aP aj hg hgv hv;refine⟨.pointer (some ⟨w.heap.size,0,none⟩),w.alloc (.cells (a.eval x).cells t),.blk w.heap.size,?_,oC _ _ _,?_,?_,?_⟩
   .simp only[execOp,ho,Instr.box,newVar,newRow,Sem.run_bind,Result.andThen_ok,run_newObj,Sem.run_pure];rfl
   .intro b hb;rw[kZ]at hb;subst hb;simp
   .exact UA hr hx (Ext.append _ _) (mJ _ _)
   .exact⟨⟨_,kG (lu aj) _,rfl⟩,iT _⟩
  .cases k
 .cases k
end
abbrev iI{α:Type}:Nat->List α->List α
 | 0,_=>[]
 | n+1,l=>fA l (iI n l)
abbrev mM(cx:Cx) (s:St) (G:Gd) (d:Option Nat) (t:TypeId) (n:Nat) (parts:List (Nat×Operand)) (K:St->Prop):Prop:=match descOf cx t with
 | .slice el=>match pU cx.ti el with
   | none=>False
   | some ie=>match ie.iL with
     | none=>False
     | some sh=>match xA cx s G parts with
       | none=>False
       | some ps=>match dD (Nat.ble (n * ie.size) 16777216) (Nat.ble 1 ie.size) with
         | false=>False
         | true=>match uw (λj=>some (j * ie.size,ie.size)) (iI n (fE SC.v ie.zero)) ps with
           | none=>False
           | some xs=>match dD (Nat.beq sh.size ie.size) (Nat.beq (aQ xs) (n * ie.size)) with
             | false=>False
             | true=>match takeN sh n xs with
               | some (l,[])=>K ({ s with T:=snoc s.T (G,.row el sh l) }.put d G (.one (.c (.row (aQ s.T)))))
               | _=>False
 | _=>False
theorem DR{α β:Type} (f:α->β):∀(n:Nat) (l:List α),iI n (fE f l)=fE f (iI n l)
 | 0,_=>rfl
 | n+1,l=>by
   simp only[iI];rw[DR f n l];simp[fM,BX]
theorem yM{α:Type}{x:α}{l:List α}:∀{n:Nat},x∈iI n l->x∈l
 | 0,h=>by simp[iI]at h
 | n+1,h=>by
   simp only[iI,fM,FI]at h;exact h.elim id yM
theorem uF{α:Type}{l:List α}:∀{n:Nat},(iI n l).length=n * l.length
 | 0=>by simp[iI]
 | n+1=>by simp only[iI,fM,kC,uF,wY];omega
theorem KN{l:List Value}:∀{n j:Nat},j < n * l.length->(iI n l)[j]?=l[j % l.length]?
 | 0,j,h=>by omega
 | n+1,j,h=>by
   simp only[iI,fM];rw[wY]at h
   by_cases hj:j < l.length
   .rw[VJ hj,Nat.mod_eq_of_lt hj]
   .rw[NM (by omega),KN (by omega)]
    congr 1
    exact(Nat.mod_eq_sub_mod (by omega)).symm
theorem qO{zero:List Value} (hz:0 < zero.length):((Array.range (n * zero.length)).map (λi=>zero.toArray[i % zero.toArray.size]!))=(iI n zero).toArray:=by
 apply Array.ext';apply Ie;intro j;simp only[Array.toList_map,Array.toList_range,FT]
 by_cases hj:j < n * zero.length
 .rw[Dj,List.getElem?_range hj,KN hj];have hm:j % zero.length < zero.length:=Nat.mod_lt _ hz;simp[hm]
 .rw[BL (by simp;omega),BL (by simp[uF];omega)]
section
variable {cx:Cx}{P:Program}{N:Nat}{B:Base}{h0:FH}{s:St}{h:FH}{β:List RV}{w:World}{a:Act}{G:Gd}{o:Oper}{K:St->Prop}
theorem tu(hc:bT P cx.ti) (aj:Sat N B h0 s h β w a) (hg:aI cx.gd h) (hG:vk s.gl.length G=true) (hd:kY N o.dst=true){parts:Array (Nat×Operand)} (ho:o.op=.buildSlice t n parts)
 (k:mM cx s G o.dst t n (tl parts) K):fV P N B h0 h w a o (gv s.gl G) K:=by
 unfold mM at k;split at k
 .rename_i el hde;have hu:=bK hc hde (by simp)
  split at k
  .cases k
  rename_i ie hie;have tie:=hc.get hie;split at k
  .cases k
  rename_i sh hsh;split at k
  .cases k
  rename_i ps hps;split at k
  .cases k
  rename_i hsz;rw[aB,bY]at hsz;have hsz1:n * ie.size<=16777216:=qm hsz.1;have hsz2:1<=ie.size:=qm hsz.2;split at k
  .cases k
  rename_i xs hxs;split at k
  .cases k
  rename_i hlen;rw[aB,bY]at hlen;have hl1:sh.size=ie.size:=iC hlen.1;have hl2:xs.length=n * ie.size:=by have:=iC hlen.2;rwa [bF]at this
  split at k
  .rename_i l hl;refine lq aj hG hd k λhgv=>?_
   have htl:(parts.map λ(p:Nat×Operand)=>(p.1,a.eval p.2)).toList=(tl parts).map λp=>(p.1,a.eval p.2):=by cases parts;simp
   rw[DR]at hxs;obtain⟨zs,g1,g2⟩:=qM (qN aj hg hgv hps) (gZ λv hv=>tie.zone v (yM hv)) hxs
   obtain⟨c1,c2,rfl,q1,q2,q3⟩:=DJ hl g2;have hc2:c2=[]:=by cases c2 with | nil=>rfl | cons _ _=>exact q3.elim
   subst hc2;rw[Qo]at g1 g2;have hz0:0 < ie.zero.length:=by rw[tie.pF];omega
   obtain⟨z,hz1,hz2⟩:=uy tie w;have hc0:n * ie.size=0->(iI n ie.zero).toArray=#[]:=by
    intro h0;have:n=0:=by rcases Nat.mul_eq_zero.1 h0 with h0 | h0<;>omega
    subst this;simp[iI]
   have hc1:((Array.range (n * ie.size)).map (λi=>z.cells[i % z.cells.size]!))=(iI n ie.zero).toArray:=by
    rw[hz2,<-tie.pF];exact qO hz0
   refine⟨.slice (some ⟨w.heap.size,0,none⟩) n n,w.alloc (.cells c1.toArray el),.row (.slice (some ⟨w.heap.size,0,none⟩) n n),?_,oC _ _ _,?_,?_,?_⟩
   .have hbig:¬(n * ie.size > 2 ^ 24):=by omega
    by_cases h0:n * ie.size=0
    .have e0:=hc0 h0;rw[e0]at g1;simp only[execOp,ho,Instr.buildSlice,Sem.run_bind,run_underlying hu,Result.andThen_ok,run_sizeOf tie,hbig,NZ,Sem.run_ite,Sem.run_pure,h0,if_true];rw[htl];rw[show(Array.map (λx=>(#[]:Array Value)[x % (#[]:Array Value).size]!) (Array.range 0))=#[] from by simp]
     rw[g1];simp only[Sem.run_bind,newRow,run_newObj,Result.andThen_ok,Sem.run_pure];rfl
    .simp only[execOp,ho,Instr.buildSlice,Sem.run_bind,run_underlying hu,Result.andThen_ok,run_sizeOf tie,hbig,NZ,Sem.run_ite,Sem.run_pure,h0,hz1];rw[htl,hc1,g1];simp only[Sem.run_bind,newRow,run_newObj,Result.andThen_ok,Sem.run_pure];rfl
   .intro b hb;rw[bg]at hb;simp[aA]at hb;obtain⟨_,rfl⟩:=hb;simp
   .by_cases hn0:n=0
    .exact .inr (.inl ⟨⟨w.heap.size,0,none⟩,by rw[hn0],VI (by rw[q1,hn0])⟩)
    refine .inr (.inr ⟨w.heap.size,n,c1.toArray,by rw[q1],mJ _ _,by omega,⟨by omega,?_⟩,?_,?_⟩)
    .have:n<=n * ie.size:=A80 n (by omega)
     simp only[maxLen];omega
    .have e:=g2.length;rw[hl2]at e;simp only[FT];rw[hl1];omega
    .have e:=g2.length;rw[hl2]at e;rw[q1,hl1,wB (by simp;omega)];exact q2
   .exact⟨⟨_,kG (lu aj) _,rfl⟩,rfl,rfl⟩
  .cases k
 .cases k
end
theorem jc(w:World) (g:Nat) (cs:Array Value):Gb w (w.setRow g cs) (some g):=
 ⟨⟨rfl,rfl,rfl,by simp,λk _ hk=>setRow_other w g k cs λe=>hk (by rw[e])⟩,pz _⟩
theorem fH{i:TI} (k:aN P t i){g o:Nat}{tt:TypeId}{cur:Array Value} (hg:w.heap[g]?=some (.cells cur tt (0,0)))
 (hs:v.cells.size=i.size) (hfit:o+i.size<=cur.size) (h1:∀u∈v.cells.toList,dF u):
 (Instr.storeAt t (.pointer (some ⟨g,o,none⟩)) v).run P w=.ok () (w.setRow g (cur.toList.take o++v.cells.toList++cur.toList.drop (o+i.size)).toArray):=by
 have:=run_storeCells_at P g o tt v.cells.toList 0 cur w hg (by simp;omega) (λu hu=>(h1 u hu).2)
 simp only[Ug,TR]at this;simp only[Instr.storeAt,Instr.sureAddr,Sem.run_bind,Sem.run_pure,Result.andThen_ok,storeVar,run_sizeOf k,hs,ne_eq,not_true_eq_false,NZ,Sem.run_ite];rw[<-hs];exact this
theorem aS.one{xs:List SC}{ys:List Value} (a:aS (λx y=>dY h β x y/\dF y) xs ys):∀u∈ys,dF u:=by
 induction xs generalizing ys with
 | nil=>cases ys with
   | nil=>intro u hu;simp at hu
   | cons _ _=>exact a.elim
 | cons x xs ih=>cases ys with
   | nil=>exact a.elim
   | cons y ys=>
     intro u hu;rcases ni.1 hu with rfl | hu
     .exact a.1.2
     .exact ih a.2 u hu
abbrev IC(cx:Cx) (s:St) (d:Option Nat) (t:TypeId) (p x:Operand) (K:St->Prop):Prop:=match pU cx.ti t with
 | none=>False
 | some i=>match bM cx s [] p with
   | some (.one (.c (.own r off)))=>match bM cx s [] x with
     | some (.one v)=>match eF s.T r with
       | some ([],.blk tt cs)=>match v with
         | .dat sh dd=>match dD (Nat.beq off 0) (dD (Nat.beq (aQ cs) i.size) (Nat.beq sh.size i.size)) with
           | true=>K ({ s with T:=cZ s.T r ([],.obj tt sh dd) }.put d [] (.one .und))
           | false=>False
         | v=>match nN v with
           | some xs=>match dD (Nat.beq (aQ xs) i.size) (Nat.ble (off+i.size) (aQ cs)) with
             | true=>K ({ s with T:=cZ s.T r ([],.blk tt (Uw off xs cs)) }.put d [] (.one .und))
             | false=>False
           | none=>False
       | some ([],.obj tt sh d0)=>match yC sh d0 off i.size v with
         | some dd=>K ({ s with T:=cZ s.T r ([],.obj tt sh dd) }.put d [] (.one .und))
         | none=>False
       | _=>False
     | _=>False
   | some (.one (.c (.jS r j sz off)))=>match bM cx s [] x with
     | some (.one v)=>match eF s.T r with
       | some ([],.row tt sh l)=>match dD (Nat.beq sz sh.size) (dD (Nat.beq off 0) (Nat.beq sh.size i.size)) with
         | true=>match toDat sh v with
           | some dd=>(j < l.length)/\K ({ s with T:=cZ s.T r ([],.row tt sh (l.set j dd)) }.put d [] (.one .und))
           | none=>False
         | false=>match Nat.beq sz sh.size with
           | true=>(j < l.length)/\∀e:sh.den,l[j]?=some e->match yC sh e off i.size v with
             | some dd=>K ({ s with T:=cZ s.T r ([],.row tt sh (l.set j dd)) }.put d [] (.one .und))
             | none=>False
           | false=>False
       | some ([],.obj tt sh d0)=>match Ad sh d0 off j sz i.size v with
         | some p=>(j < p.1)/\K ({ s with T:=cZ s.T r ([],.obj tt sh p.2) }.put d [] (.one .und))
         | none=>False
       | _=>False
     | _=>False
   | _=>False
section
variable {cx:Cx}{P:Program}{N:Nat}{B:Base}{h0:FH}{s:St}{h:FH}{β:List RV}{w:World}{a:Act}{o:Oper}{K:St->Prop}
theorem xB{s:St}{x:ay}:eff s.gl (cZ s.T r ([],x))=(eff s.gl s.T).set r x:=by rw[fP]
theorem qo(aj:Sat N B h0 s h β w a){x:ay}:∀p∈cZ s.T r ([],x),vk s.gl.length p.1=true:=by
 intro p hp;rw[eY]at hp;rcases Ic hp with hp | hp
 .exact aj.gT p hp
 .subst hp;rfl
theorem qP(aj:Sat N B h0 s h β w a) (hq:quietly o.op=false) (hd:kY N o.dst=true){g:Nat}{x x':ay} (hT:eF s.T r=some ([],x)) (hl:x.live=true) (hu:β[r]?=some u) (hub:u.block=some g){cs:Array Value}
 (hold:Holds h β (w.setRow g cs) x' u) (run:(execOp a.eval o).run P w=.ok .skip (w.setRow g cs)) (k:K ({ s with T:=cZ s.T r ([],x') }.put o.dst [] (.one .und))):
 fV P N B h0 h w a o (gv s.gl []) K:=by
 have fQ:=bG hT (show gv s.gl []=true from rfl)
 have ok:OK B h0 (eff s.gl (cZ s.T r ([],x'))) h β (w.setRow g cs):=by
  rw[xB];have:=aj.ok.upd (r':=x') (v:=u) fQ hl hu (row:=some g) (jc w g cs) (λk e=>by cases e;exact .inl hub) (λb hb=>.inl hb) (.inl rfl) (by rw[gX hu];exact hold)
  rwa [gX hu]at this
 refine mG aj k rfl hq (.inr ⟨run,rfl⟩) (FH.le.refl h) ((aj.mem ok (FH.le.refl h) (Ext.refl β) (qo aj)).put (dR hd) rfl (λ_=>rfl) λhh=>by cases hh)
theorem Om(hc:bT P cx.ti) (aj:Sat N B h0 s h β w a) (hg:aI cx.gd h) (hd:kY N o.dst=true){p x:Operand} (ho:o.op=.store t p x) (k:IC cx s o.dst t p x K):
 fV P N B h0 h w a o (gv s.gl []) K:=by
 have tr:gv s.gl []=true:=rfl;unfold IC at k;split at k
 .cases k
 rename_i i hi;have ti:=hc.get hi;have exec:∀{w':World}{v pv:Value},a.eval x=v->a.eval p=pv->(Instr.storeAt t pv v).run P w=.ok () w'->(execOp a.eval o).run P w=.ok .skip w':=by
  intro w' v pv e1 e2 r;simp only[execOp,ho,e1,e2,Sem.run_bind,r,Result.andThen_ok,Sem.run_pure]
 split at k
 .rename_i r off hp;obtain⟨⟨b,hb,ep⟩,_⟩:=aP aj hg tr hp;split at k
  .rename_i v hv;have cv:=aP aj hg tr hv;split at k
   .rename_i tt cs hT;obtain⟨ys,he,hall⟩:=aj.ok.holds r _ _ (bG hT tr) hb;have hlen:=hall.length;split at k
    .rename_i sh dd;split at k
     .rename_i hz;rw[aB,aB,bY,bY]at hz;have hz1:off=0:=iC hz.1;have hz2:cs.length=i.size:=by have:=iC hz.2.1;rwa [bF]at this
      have hz3:sh.size=i.size:=iC hz.2.2;subst hz1;obtain⟨_,cs',ev,rd⟩:=cv;have hsz:=Rd.size sh rd;have r1:=fH (o:=0) (v:=a.eval x) ti he (by rw[ev];simp[Value.cells];omega) (by simp;omega) (by rw[ev];intro u hu;exact Rd.one sh rd u (by simpa[Value.cells]using hu))
      refine qP aj (by rw[ho];rfl) hd hT rfl hb rfl ?_ (exec rfl ep r1) k
      refine⟨_,setRow_heap w b _ _ tt (0,0) he,?_⟩;simp only[Ud,TS,Dk];rw[VK (by first | omega | (simp;omega)),Qo,ev]
      exact rd
     .cases k
    .split at k
     .rename_i xs hxs;split at k
      .rename_i hz;rw[aB,bY]at hz;have hz1:xs.length=i.size:=by have:=iC hz.1;rwa [bF]at this
       have hz2:off+i.size<=cs.length:=by have:=qm hz.2;rwa [bF]at this
       have hall':=xw hxs cv;have hl':=hall'.length;simp only[TR]at hl';have r1:=fH (o:=off) (v:=a.eval x) ti he (by omega) (by simp;omega) hall'.one
       refine qP aj (by rw[ho];rfl) hd hT rfl hb rfl ?_ (exec rfl ep r1) k
       refine⟨_,setRow_heap w b _ _ tt (0,0) he,?_⟩;unfold Uw;rw[fM,fM,jI,qH,bF,hz1];simp only[];rw[zX];exact(hall.take off).cat (hall'.cat (hall.drop _))
      .cases k
     .cases k
   .rename_i tt sh d0 hT;obtain⟨ys,he,rd0⟩:=aj.ok.holds r _ _ (bG hT tr) hb;split at k
    .rename_i dd hdd;obtain⟨cs',ec,e2,e3,e4,e5⟩:=nO sh hdd rd0 cv;have r1:=fH (o:=off) (v:=a.eval x) ti he (by rw[ec];simp;omega) (by simp;omega) (by rw[ec];intro u hu;exact e3 u (by simpa using hu))
     refine qP aj (by rw[ho];rfl) hd hT rfl hb rfl ?_ (exec rfl ep r1) k
     refine⟨_,setRow_heap w b _ _ tt (0,0) he,?_⟩;rw[ec];exact e5
    .cases k
   .cases k
  .cases k
 .rename_i r j sz off hp;obtain⟨⟨v0,g,hb,hgb,ep⟩,_⟩:=aP aj hg tr hp;split at k
  .rename_i v hv;have cv:=aP aj hg tr hv;split at k
   .rename_i tt sh l hT
    -- a store of k cells at a place of the j-th element
    have part:∀{e dd:sh.den},sz=sh.size->l[j]?=some e->(∀{cs:List Value},Rd h sh cs e->Upd h sh cs off i.size (a.eval x) dd) ->
     K ({ s with T:=cZ s.T r ([],.row tt sh (l.set j dd)) }.put o.dst [] (.one .und))->fV P N B h0 h w a o (gv s.gl []) K:=by
     intro e dd hz1 hej hu k;have hj:=(A8.1 hej).1;have hold:=aj.ok.holds r _ _ (bG hT tr) hb
     match v0,hold with
     | .row vv,hold=>
       rcases hold with⟨hv0,_⟩ | ⟨_,hv0,_⟩ | ⟨g',cap,cur,hv0,he,q2,q3,q4,q5⟩
       .subst hv0;simp[RV.block,aA]at hgb
       .subst hv0;simp[RV.block,aA]at hgb
       .have hgg:g'=g:=by rw[hv0]at hgb;exact Ig ((qF q3.1).symm.trans hgb)
        subst hgg;have hm:(j+1) * sh.size<=l.length * sh.size:=yh _ hj;have hm2:l.length * sh.size<=cap * sh.size:=yh _ q2;rw[wY]at hm;obtain⟨g1,g2⟩:=q5.get (λ_ _=>Rd.size sh) hej
        have gl:=Rd.size sh g1;obtain⟨cs',ec,e2,e3,e4,e5⟩:=hu g1;rw[gl]at e4;have r1:=fH (o:=j * sz+off) (v:=a.eval x) ti he (by rw[ec];simp;omega) (by rw[hz1];omega) (by rw[ec];intro u hu;exact e3 u (by simpa using hu))
        refine qP aj (by rw[ho];rfl) hd hT rfl hb hgb ?_ (exec rfl ep r1) k
        rw[ec,hz1];refine .inr (.inr ⟨g',cap,_,by rw[hv0,wW],setRow_heap w g' _ _ tt (0,0) he,by rw[wW];exact q2,q3,?_,?_⟩)
        .simp only[FT,kC,kX,yj,TR];omega
        .rw[wW];show gq (Rd h sh) ((List.take (j * sh.size+off) cur.toList++cs'++List.drop (j * sh.size+off+i.size) cur.toList).take (l.length * sh.size)) (l.set j dd);have e:=gq.set (λ_ _=>Rd.size sh) q5 hj e5
         have lc:cur.toList.length=cap * sh.size:=by simpa using q4
         have key:(List.take (j * sh.size+off) cur.toList++cs'++List.drop (j * sh.size+off+i.size) cur.toList).take (l.length * sh.size) =
          List.take (j * sh.size) (List.take (l.length * sh.size) cur.toList)++(List.take off (List.take sh.size (List.drop (j * sh.size) (List.take (l.length * sh.size) cur.toList)))++cs'++List.drop (off+i.size) (List.take sh.size (List.drop (j * sh.size) (List.take (l.length * sh.size) cur.toList))))++List.drop (j * sh.size+sh.size) (List.take (l.length * sh.size) cur.toList):=by
          apply Ie;intro p;simp only[A91,uY,J7,kC,kX,yj,lc,e2]
          repeat' split
          all_goals first | rfl | omega | (congr 1;omega) | (rw[BL (by omega)]) | (exfalso;omega) | skip
         rw[key];exact e
    split at k
    .rename_i hz;rw[aB,aB,bY,bY]at hz;have hz1:sz=sh.size:=iC hz.1;have hz2:off=0:=iC hz.2.1;have hz3:sh.size=i.size:=iC hz.2.2;split at k
     .rename_i dd hdd;obtain⟨hj,k⟩:=k;refine part hz1 (lN hj) (λhr=>?_) k
      subst hz2;exact Ac hz3 hdd hr cv
     .cases k
    .split at k
     .rename_i hz;have hz1:sz=sh.size:=iC hz;obtain⟨hj,k⟩:=k;have k:=k _ (lN hj);split at k
      .rename_i dd hdd;exact part hz1 (lN hj) (λhr=>nO sh hdd hr cv) k
      .cases k
     .cases k
   .rename_i tt sh d0 hT;split at k
    .rename_i p hp0;obtain⟨hj,k⟩:=k;have hold:=aj.ok.holds r _ _ (bG hT tr) hb
     match v0,hold with
     | .blk b,⟨ys,he,rd0⟩=>
       have hgg:b=g:=by simpa[RV.block]using hgb
       subst hgg;obtain⟨cs',ec,e2,e3,e4,e5⟩:=Iq sh hp0 rd0 cv hj;have r1:=fH (o:=j * sz+off) (v:=a.eval x) ti he (by rw[ec];simp;omega) (by simp;omega) (by rw[ec];intro u hu;exact e3 u (by simpa using hu))
       refine qP aj (by rw[ho];rfl) hd hT rfl hb hgb ?_ (exec rfl ep r1) k
       refine⟨_,setRow_heap w b _ _ tt (0,0) he,?_⟩;rw[ec];exact e5
    .cases k
   .cases k
  .cases k
 .cases k
end
def nR(n bytes:Nat):Prop:=n * bytes<=140737488355328
abbrev Cc(i:Nat) (x:SC):SC:=match SC.free i x with
 | true=>x
 | false=>.junk
abbrev jkV(i:Nat):SV->SV
 | .c x=>.c (Cc i x)
 | .agg xs=>.agg (fE (Cc i) xs)
 | v=>v
abbrev jkE(i:Nat):aZ->aZ
 | .one v=>.one (jkV i v)
 | .gV vs=>.gV (fE (jkV i) vs)
abbrev jkR(i:Nat):ay->ay
 | .blk t cs=>.blk t (fE (Cc i) cs)
 | r=>r
abbrev tC(i:Nat):List (Nat×Gd×aZ)->List (Nat×Gd×aZ)
 | []=>[]
 | (k,g,e) :: l=>(k,g,jkE i e) :: tC i l
abbrev KO(i:Nat):List (Gd×ay)->List (Gd×ay)
 | []=>[]
 | (g,r) :: l=>(g,jkR i r) :: KO i l
theorem dY.jk{x:SC}{y:Value} (v:RV) (c:dY h β x y):dY h (β.set i v) (Cc i x) y:=by
 unfold Cc;split
 .rename_i hf;exact c.set hf
 .trivial
theorem dY.jk0{x:SC}{y:Value} (c:dY h β x y):dY h β (Cc i x) y:=by
 unfold Cc;split
 .exact c
 .trivial
theorem aS.jk{h:FH}{β:List RV}{i:Nat} (v:RV):∀{xs:List SC}{ys:List Value},aS (λx y=>dY h β x y/\dF y) xs ys->aS (λx y=>dY h (β.set i v) x y/\dF y) (fE (Cc i) xs) ys
 | [],[],_=>trivial
 | _ :: _,_ :: _,⟨a,b⟩=>⟨⟨a.1.jk v,a.2⟩,aS.jk v b⟩
theorem aS.jk0{h:FH}{β:List RV}{i:Nat}:∀{xs:List SC}{ys:List Value},aS (λx y=>dY h β x y/\dF y) xs ys->aS (λx y=>dY h β x y/\dF y) (fE (Cc i) xs) ys
 | [],[],_=>trivial
 | _ :: _,_ :: _,⟨a,b⟩=>⟨⟨a.1.jk0,a.2⟩,aS.jk0 b⟩
theorem dh.jk{h:FH}{β:List RV}{i:Nat} (v:RV):∀{x:SV}{y:Value},dh h β x y->dh h (β.set i v) (jkV i x) y
 | .c _,_,c=>⟨c.1.jk v,c.2⟩
 | .agg _,_,⟨ys,e,a⟩=>⟨ys,e,a.jk v⟩
 | .dat _ _,_,c=>c
 | .und,_,c=>c
theorem jF.jk{h:FH}{β:List RV}{i:Nat} (v:RV):∀{x:aZ}{y:Value},jF h β x y->jF h (β.set i v) (jkE i x) y
 | .one _,_,c=>dh.jk v c
 | .gV _,_,⟨ys,e,a⟩=>⟨ys,e,go a⟩
where
 go:∀{xs:List SV}{ys:List Value},aS (dh h β) xs ys->aS (dh h (β.set i v)) (fE (jkV i) xs) ys
  | [],[],_=>trivial
  | _ :: _,_ :: _,⟨a,b⟩=>⟨a.jk v,go b⟩
theorem Holds.jk0{h:FH}{β:List RV}{w:World}{i:Nat}:∀{r:ay}{v:RV},Holds h β w r v->Holds h β w (jkR i r) v
 | .blk _ _,.blk _,⟨ys,e,a⟩=>⟨ys,e,a.jk0⟩
 | .row _ _ _,.row _,e=>e
 | .obj _ _ _,.blk _,e=>e
 | .deep _ _ _ _ _ _ _ _,.deep _ _,e=>e
 | .mp _ _ _,.row _,e=>e
 | .NI _ _ _ _,.deep _ _,e=>e
 | .it _ _ _ _,.blk _,e=>e
 | .Kv _ _ _ _,.row _,e=>e
 | .Gp _ _ _ _,.deep _ _,e=>e
 | .gone,_,_=>trivial
theorem WR(i:Nat) (x:SC):SC.free i (Cc i x)=true:=by
 unfold Cc;split
 .assumption
 .rfl
theorem DU(i:Nat):∀xs:List SC,uZ i (fE (Cc i) xs)=true
 | []=>rfl
 | x :: l=>by simp only[fE,uZ,WR,DU i l,Bool.and_self]
theorem KP(i:Nat) (r:ay):ay.free i (jkR i r)=true:=by
 cases r with
 | blk t cs=>exact DU i cs
 | _=>rfl
theorem uG(i:Nat) (r:ay):(jkR i r).live=r.live:=by cases r<;>rfl
theorem DX(i:Nat):∀{l:List (Nat×Gd×aZ)}{t:Nat}{G:Gd}{e:aZ},iF (tC i l) t=some (G,e)->∃e0,iF l t=some (G,e0)/\e=jkE i e0
 | [],_,_,_,h=>by simp[tC,iF]at h
 | (k,g,e0) :: l,t,G,e,h=>by
   simp only[tC]at h;rw[bC]at h ⊢
   split at h
   .rename_i hk;cases h;exact⟨e0,by rw[if_pos hk],rfl⟩
   .rename_i hk;rw[if_neg hk];exact DX i h
theorem IE(i:Nat):∀{l:List (Nat×Gd×aZ)}{t:Nat}{G:Gd}{e:aZ},iF l t=some (G,e)->iF (tC i l) t=some (G,jkE i e)
 | [],_,_,_,h=>by simp[iF]at h
 | (k,g,e0) :: l,t,G,e,h=>by
   simp only[tC];rw[bC]at h ⊢
   split at h
   .rename_i hk;cases h;rw[if_pos hk]
   .rename_i hk;rw[if_neg hk];exact IE i h
theorem Oo(gl:List Bool) (i:Nat):∀{T:List (Gd×ay)},eff gl (KO i T)=(eff gl T).map (jkR i)
 | []=>rfl
 | (g,r) :: l=>by
   simp only[KO,eff,TT,Oo gl i (T:=l)]
   congr 1
   cases gv gl g<;>rfl
section
variable {cx:Cx}{P:Program}{N:Nat}{B:Base}{h0:FH}{s:St}{h:FH}{β:List RV}{w:World}{a:Act}{o:Oper}{K:St->Prop}
theorem OK.jk(ok:OK B h0 T h β w) (i:Nat):OK B h0 (T.map (jkR i)) h β w where
 below:=ok.below
 dr:=ok.dr
 len:=by simp[ok.len]
 holds:=by
  intro j r v e e';rw[Dj]at e;cases hj:T[j]? with
  | none=>rw[hj]at e;cases e
  | some r0=>rw[hj]at e;cases e;exact(ok.holds j r0 v hj e').jk0
 own:=by
  intro j r v b e hl e' hb;rw[Dj]at e;cases hj:T[j]? with
  | none=>rw[hj]at e;cases e
  | some r0=>rw[hj]at e;cases e;exact ok.own j r0 v b hj (by rw[<-uG i];exact hl) e' hb
 inj:=by
  intro j k r1 r2 u v b e1 l1 e2 l2 e3 e4 b1 b2;rw[Dj]at e1 e2;cases hj:T[j]? with
  | none=>rw[hj]at e1;cases e1
  | some q1=>
    cases hk:T[k]? with
    | none=>rw[hk]at e2;cases e2
    | some q2=>
      rw[hj]at e1;rw[hk]at e2;cases e1;cases e2;exact ok.inj j k q1 q2 u v b hj (by rw[<-uG i];exact l1) hk (by rw[<-uG i];exact l2) e3 e4 b1 b2
 hle:=ok.hle
 hw:=ok.hw
 hg:=ok.hg
 kn:=ok.kn
theorem UC(aj:Sat N B h0 s h β w a) (hq:quietly o.op=false) (hd:kY N o.dst=true){x x':ay}{v:RV} (hT:eF s.T r=some ([],x)) (hl:x.live=true) (hu:β[r]?=some u){y:Value}
 (hg:Gb w w' u.block) (hv:∀b,v.block=some b->u.block=some b\/(w.heap.size<=b/\b < w'.heap.size)) (hvs:∀b,¬v.sub b:=by exact λ_ h=>h) (hold:Holds h (β.set r v) w' x' v)
 (run:(execOp a.eval o).run P w=.ok (.value y) w'){e:aZ} (he:jF h (β.set r v) e y)
 (k:K ({ s with T:=cZ (KO r s.T) r ([],x'),env:=tC r s.env }.put o.dst [] e)):
 fV P N B h0 h w a o (gv s.gl []) K:=by
 have tr:gv s.gl []=true:=rfl;have fQ:=bG hT tr;have okj:=aj.ok.jk r;have hTj:((eff s.gl s.T).map (jkR r))[r]?=some (jkR r x):=by rw[Dj,fQ];rfl
 have ok:OK B h0 (eff s.gl (cZ (KO r s.T) r ([],x'))) h (β.set r v) w':=by
  rw[fP,Oo];refine okj.upd hTj (by rw[uG];exact hl) hu hg (λk e=>.inl e) (λb hb=>hb.elim (λq=>(hv b q).imp .inl id) λq=>(hvs b q).elim) (.inr λj rj _ ej=>?_) hold
  rw[Dj]at ej;cases hj:(eff s.gl s.T)[j]? with
  | none=>rw[hj]at ej;cases ej
  | some q=>rw[hj]at ej;cases ej;exact KP r q
 have aW:Sat N B h0 { s with T:=cZ (KO r s.T) r ([],x'),env:=tC r s.env } h (β.set r v) w' a:=by
  refine⟨ok,?_,?_,aj.defers,aj.sz,?_,?_⟩
  .intro t G e ht;obtain⟨e0,h1,rfl⟩:=DX r ht;obtain⟨z,q1,q2,q3⟩:=aj.env t G e0 h1;exact⟨z,q1,λhG=>(q2 hG).jk v,q3⟩
  .intro d i hi;obtain⟨G,b,q1,q2⟩:=aj.gs d i hi;exact⟨G,b,IE r q1,q2⟩
  .intro t G e ht;obtain⟨e0,h1,rfl⟩:=DX r ht;exact aj.gb t G e0 h1
  .intro p hp;simp only at hp;rw[eY]at hp;rcases Ic hp with hp | hp
   .have:∀{l:List (Gd×ay)},p∈KO r l->∃q∈l,q.1=p.1:=by
     intro l
     induction l with
     | nil=>intro hh;simp[KO]at hh
     | cons q l ih=>
       obtain⟨g,q⟩:=q;intro hh;simp only[KO,ni]at hh;rcases hh with rfl | hh
       .exact⟨(g,q),by simp,rfl⟩
       .obtain⟨q',h1,h2⟩:=ih hh;exact⟨q',by simp[h1],h2⟩
    obtain⟨q,h1,h2⟩:=this hp;rw[<-h2];exact aj.gT q h1
   .subst hp;rfl
 exact mG aj k tr hq (.inl run) (FH.le.refl h) (aW.put (dR hd) rfl (λ_=>he) λhh=>by cases hh)
end
def WS(h:FH) (w:World) (sh:Sh) (v:Value) (l:List sh.den):Prop:=
 (v=.slice none 0 0/\l=[])\/(∃a c,v=.slice (some a) 0 c/\l=[])\/∃b o c cs,v=.slice (some ⟨b,o,none⟩) l.length c/\gq (Rd h sh) cs l/\∀j u,cs[j]?=some u->w.cell? ⟨b,o+j,none⟩=some u
def QD(h:FH) (w:World) (t:TypeId) (sh:Sh) (v:Value) (l:List sh.den):Prop:=Holds h [] w (.row t sh l) (.row v)
theorem uH{ty:TypeId}{i:TI}{sh:Sh}{sv:Value}{l l2:List sh.den} (hu:P.underlying t=some (.slice el)) (k:aN P el i) (hs:sh.size=i.size)
 (hb1:1<=i.bytes) (hs1:1<=i.size) (row:QD h w el sh v l) (src:WS h w sh sv l2) (room:nR (l.length+l2.length) i.bytes)
 (hw:∀b o u,h b o=some u->vis w b o=some u):
 ∃v' w',(Builtin.append_ #[t,t] ty #[v,sv]).run P w=.ok v' w'/\Gb w w' (aA v)/\(∀b,aA v'=some b->aA v=some b\/(w.heap.size<=b/\b < w'.heap.size))/\QD h w' el sh v' (l++l2):=by
 obtain⟨inf,z,i1,i2,i3,i4,i5⟩:=k.info;unfold nR at room;have hn:l.length+l2.length<=140737488355328:=pq (A80 _ hb1) room;have WT:z.cells.size=i.size:=by rw[i5];simpa using k.pF
 rcases src with⟨rfl,rfl⟩ | ⟨sa,sc,rfl,rfl⟩ | ⟨b,o,c,cs,rfl,rd,at_⟩
 .refine⟨v,w,?_,bV _ _,λb hb=>.inl hb,by rw[Qo];exact row⟩
  rcases row with⟨rfl,rfl⟩ | ⟨_,rfl,rfl⟩ | ⟨g,cap,cur,rfl,q1,q2,q3,q4,q5⟩
  .simp[Builtin.append_,run_underlying hu,sizeOf,typeInfo,i1,Builtin.lenOf,Builtin.firstCells]
  .simp[Builtin.append_,run_underlying hu,sizeOf,typeInfo,i1,Builtin.lenOf,Builtin.firstCells,storeCells]
  .simp[Builtin.append_,run_underlying hu,sizeOf,typeInfo,i1,Builtin.lenOf,Builtin.firstCells,q2,storeCells]
 .refine⟨v,w,?_,bV _ _,λb hb=>.inl hb,by rw[Qo];exact row⟩
  rcases row with⟨rfl,rfl⟩ | ⟨_,rfl,rfl⟩ | ⟨g,cap,cur,rfl,q1,q2,q3,q4,q5⟩
  .simp[Builtin.append_,run_underlying hu,sizeOf,typeInfo,i1,Builtin.lenOf,Builtin.firstCells,loadCells,loadCellsFrom]
  .simp[Builtin.append_,run_underlying hu,sizeOf,typeInfo,i1,Builtin.lenOf,Builtin.firstCells,storeCells,loadCells,loadCellsFrom]
  .simp[Builtin.append_,run_underlying hu,sizeOf,typeInfo,i1,Builtin.lenOf,Builtin.firstCells,q2,storeCells,loadCells,loadCellsFrom]
 .have hcs:cs.length=l2.length * inf.size:=by rw[gq.size (λ_ _=>Rd.size sh) rd,i2,hs]
  have hnews:∀j u,cs[j]?=some u->w.cell? ((⟨b,o,none⟩:Addr).add j)=some u:=λj u e=>by rw[add_lit];exact at_ j u e
  have h1:∀u∈cs,u.oneCell'=true:=λu hu'=>(gq.all (λ_ _ r=>Rd.one sh r) rd u hu').2
  rcases row with⟨rfl,rfl⟩ | ⟨ra,rfl,rfl⟩ | ⟨g,cap,cur,rfl,q1,q2,q3,q4,q5⟩
  .by_cases hm:l2.length=0
   .have:l2=[]:=VI hm;subst this;refine⟨.slice none 0 0,w,?_,bV _ _,λb hb=>.inl hb,.inl ⟨rfl,rfl⟩⟩
    simp[Builtin.append_,run_underlying hu,sizeOf,typeInfo,i1,Builtin.lenOf,Builtin.firstCells,loadCells,loadCellsFrom]
   .have r:=run_append_nil (P:=P) w t ty el inf z hu i1 i4 ⟨b,o,none⟩ l2.length c cs hcs hnews (by omega) (by simp at hn;omega) (by rw[i3];simp at room;omega)
    have hge:=grownCap_ge w l2.length 0 el;refine⟨_,_,r,⟨⟨rfl,rfl,rfl,by simp,λk hk _=>(World.grownBy_alloc w.drew _ none).block k hk (by simp)⟩,TU _⟩,?_,?_⟩
    .intro b' hb';simp[aA]at hb';obtain⟨_,rfl⟩:=hb';right;simp
    .refine .inr (.inr ⟨w.heap.size,_,_,rfl,heap_alloc_new w.drew _,by simpa using hge,⟨by omega,grownCap_le_maxLen w l2.length 0 el (by simp only[maxLen];simp at hn;omega)⟩,?_,?_⟩)
     .simp only[A85,FT,size_zeroCells,WT,hcs,i2,hs,<-Kq]
      congr 1;omega
     .simp only[A96,TS];rw[show l2.length * sh.size=cs.length by rw[hcs,i2,hs],VX]
      exact rd
  .by_cases hm:l2.length=0
   .have:l2=[]:=VI hm;subst this;refine⟨.slice (some ra) 0 0,w,?_,bV _ _,λb hb=>.inl hb,.inr (.inl ⟨ra,rfl,rfl⟩)⟩
    simp[Builtin.append_,run_underlying hu,sizeOf,typeInfo,i1,Builtin.lenOf,Builtin.firstCells,storeCells,loadCells,loadCellsFrom]
   .have r:=run_append_grow (P:=P) w t ty el inf z hu i1 i4 ra 0 0 [] (by simp) (λj u e=>by simp at e) ⟨b,o,none⟩ l2.length c cs hcs hnews (by omega) (by simp at hn;omega) (growslice_fits (by omega) (by rw[i3];simpa using room))
    rw[Dk]at r;have hge:=grownCap_ge w l2.length 0 el;refine⟨_,_,r,⟨⟨rfl,rfl,rfl,by simp,λk hk _=>(World.grownBy_alloc w.drew _ none).block k hk (by simp)⟩,TU _⟩,?_,?_⟩
    .intro b' hb';simp[aA]at hb';obtain⟨_,rfl⟩:=hb';right;simp
    .refine .inr (.inr ⟨w.heap.size,_,_,rfl,heap_alloc_new w.drew _,by simpa using hge,⟨by omega,grownCap_le_maxLen w l2.length 0 el (by simp only[maxLen];simp at hn;omega)⟩,?_,?_⟩)
     .simp only[A85,FT,size_zeroCells,WT,TS,hcs,i2,hs,Dk,J9,<-Kq]
      congr 1;omega
     .simp only[A96,TS];rw[show l2.length * sh.size=cs.length by rw[hcs,i2,hs],VX]
      exact rd
  .by_cases hroom:l.length+l2.length<=cap
   .have hfit:l.length * inf.size+cs.length<=cur.size:=by rw[hcs,q4,i2,hs,<-Kq];exact yh _ hroom
    have r:=run_append_room (P:=P) w t ty el inf hu i1 g l.length cap cur q1 ⟨b,o,none⟩ l2.length c cs hcs hnews h1 hroom hfit;refine⟨_,_,r,by rw[aY q3.1];exact jc w g _,λb' hb'=>.inl (by rw[aY q3.1]at hb' ⊢;exact hb'),.inr (.inr ⟨g,cap,_,by rw[kC],setRow_heap w g cur _ el _ q1,by rw[kC];exact hroom,q3,?_,?_⟩)⟩
    .simp only[FT,kC,kX,yj,TR];omega
    .have e1:(List.take (l.length * sh.size) cur.toList++cs).length=(l++l2).length * sh.size:=by
      rw[kC,kC,Kq,hcs,i2,gq.size (λ_ _=>Rd.size sh) q5,hs]
     show gq (Rd h sh) ((List.take (l.length * inf.size) cur.toList++cs++List.drop (l.length * inf.size+cs.length) cur.toList).take ((l++l2).length * sh.size)) (l++l2);rw[i2,<-hs,<-e1,VX];exact q5.append rd
   .have lsz:=gq.size (λ_ _=>Rd.size sh) q5
    have hol:(cur.toList.take (l.length * sh.size)).length=l.length * inf.size:=by rw[lsz,i2,hs]
    have holds:∀j u,(cur.toList.take (l.length * sh.size))[j]?=some u->w.cell? ((⟨g,0,none⟩:Addr).add j)=some u:=by
     intro j u e;rw[add_lit,Dk,cell_of_row w g j cur el (0,0) q1];rw[uY]at e;split at e
     .simpa using e
     .cases e
    have r:=run_append_grow (P:=P) w t ty el inf z hu i1 i4 ⟨g,0,none⟩ l.length cap _ hol holds ⟨b,o,none⟩ l2.length c cs hcs hnews (by omega) (by omega) (growslice_fits (by omega) (by rw[i3];exact room))
    have hge:=grownCap_ge w (l.length+l2.length) cap el;refine⟨_,_,r,⟨⟨rfl,rfl,rfl,by simp,λk hk _=>(World.grownBy_alloc w.drew _ none).block k hk (by simp)⟩,TU _⟩,?_,?_⟩
    .intro b' hb';simp[aA]at hb';obtain⟨_,rfl⟩:=hb';right;simp
    .refine .inr (.inr ⟨w.heap.size,_,_,by rw[kC],heap_alloc_new w.drew _,by rw[kC];exact hge,⟨by omega,grownCap_le_maxLen w _ cap el (by simp only[maxLen];omega)⟩,?_,?_⟩)
     .have ah6:(cur.toList.take (l.length * i.size)).length=l.length * i.size:=by rw[<-hs];exact lsz
      simp only[A85,FT,size_zeroCells,WT,hcs,i2,hs,ah6,<-Kq]
      congr 1
      omega
     .simp only[A96,zX];rw[<-zX,show(l++l2).length * sh.size=(List.take (l.length * sh.size) cur.toList++cs).length by rw[kC,kC,Kq,hcs,lsz,i2,hs],VX]
      exact q5.append rd
abbrev iM(cx:Cx) (t:TypeId) (K:TypeId->TI->Sh->Prop):Prop:=match descOf cx t with
 | .slice el=>match pU cx.ti el with
   | none=>False
   | some ie=>match ie.iL with
     | none=>False
     | some sh=>match dD (Nat.beq sh.size ie.size) (dD (Nat.ble 1 ie.bytes) (Nat.ble 1 ie.size)) with
       | true=>K el ie sh
       | false=>False
 | _=>False
abbrev Oq(s:St) (sh:Sh) (v:SV):Option (List sh.den):=match v with
 | .c (.sl oH l2)=>jC (.sl oH) l2 (.sl sh)
 | .c (.v (.slice none 0 0))=>some []
 | .c (.row r)=>match eF s.T r with
   | some ([],.row _ oH l2)=>jC (.sl oH) l2 (.sl sh)
   | _=>none
 | _=>none
abbrev vH(cx:Cx) (s:St) (d:Option Nat) (t:TypeId) (x y:Operand) (K:St->Prop):Prop:=iM cx t λel ie sh=>
 match bM cx s [] y with
 | some (.one v2)=>match Oq s sh v2 with
   | none=>False
   | some l2=>match bM cx s [] x with
     | some (.one (.c (.row r)))=>match eF s.T r with
       | some ([],.row tt fG l1)=>match Nat.beq tt el with
         | true=>match jC (.sl fG) l1 (.sl sh) with
           | some l=>nR (l.length+l2.length) ie.bytes/\K ({ s with T:=cZ (KO r s.T) r ([],.row el sh (l++l2)),env:=tC r s.env }.put d [] (.one (.c (.row r))))
           | none=>False
         | false=>False
       | _=>False
     | some (.one (.c (.v (.slice none 0 0))))=>nR l2.length ie.bytes/\K ({ s with T:=snoc s.T ([],.row el sh l2) }.put d [] (.one (.c (.row (aQ s.T)))))
     | _=>False
 | _=>False
section
variable {cx:Cx}{P:Program}{N:Nat}{B:Base}{h0:FH}{s:St}{h:FH}{β:List RV}{w:World}{a:Act}{o:Oper}{K:St->Prop}
theorem oI{fG sh:Sh}{l1:List fG.den}{l:List sh.den} (e:jC (.sl fG) l1 (.sl sh)=some l):∃e':fG=sh,(e'▸l1:List sh.den)=l:=by
 obtain⟨e1,e2⟩:=kE e;cases e1;exact⟨rfl,e2⟩
theorem Ce(aj:Sat N B h0 s h β w a){sh:Sh}{v:SV}{l:List sh.den}{y:Value} (e:Oq s sh v=some l) (c:dh h β v y):WS h w sh y l:=by
 unfold Oq at e;split at e
 .rename_i oH l2;obtain⟨e1,e2⟩:=oI e;subst e1;simp only at e2;subst e2;rcases c.1 with⟨e1,e2⟩ | ⟨ad,cap,e1,e2,_⟩ | ⟨b,off,cap,e1,q1,q2,cs,rd,at_⟩
  .exact .inl ⟨e1,e2⟩
  .exact .inr (.inl ⟨ad,cap,e1,e2⟩)
  .exact .inr (.inr ⟨b,off,cap,cs,e1,rd,λj u hj=>Dl (aj.ok.hw _ _ _ (at_ j u hj)) (gq.all (λ_ _=>Rd.one _) rd u (iy hj)).2⟩)
 .cases e;exact .inl ⟨c.1.1,rfl⟩
 .rename_i r;split at e
  .rename_i tt oH l2 hT;obtain⟨e1,e2⟩:=oI e;subst e1;simp only at e2;subst e2;rcases aj.ok.holds r _ _ (bG hT rfl) (aj.ok.row_of (bG hT rfl) c.1) with⟨e1,e2⟩ | ⟨ra,e1,e2⟩ | ⟨g,cap,cur,e1,q1,q2,q3,q4,rd⟩
   .exact .inl ⟨e1,e2⟩
   .exact .inr (.inl ⟨ra,0,e1,e2⟩)
   .refine .inr (.inr ⟨g,0,cap,_,e1,rd,λj u hj=>?_⟩)
    rw[Dk,cell_of_row w g j cur tt (0,0) q1];rw[uY]at hj;split at hj
    .simpa using hj
    .cases hj
  .cases e
 .cases e
theorem Bh(hc:bT P cx.ti) (aj:Sat N B h0 s h β w a) (hg:aI cx.gd h) (hd:kY N o.dst=true){x:Operand} (ho:o.op=.call c) (bQ:c.callee=.builtin .append) (ha:c.args=#[x,y]) (ht:c.argTypes=#[t,t])
 (k:vH cx s o.dst t x y K):fV P N B h0 h w a o (gv s.gl []) K:=by
 have tr:gv s.gl []=true:=rfl;unfold vH iM at k;split at k
 .rename_i el hde;have hu:=bK hc hde (by simp)
  split at k
  .cases k
  rename_i ie hie;have tie:=hc.get hie;split at k
  .cases k
  rename_i sh hsh;split at k
  .rename_i hz;rw[aB,aB,bY,bY]at hz;have hz1:sh.size=ie.size:=iC hz.1;have hz2:1<=ie.bytes:=qm hz.2.1;have hz3:1<=ie.size:=qm hz.2.2;split at k
   .rename_i v2 hv2;have c2:=aP aj hg tr hv2;split at k
    .cases k
    rename_i l2 hl2;have src:=Ce aj hl2 c2;have exec:∀{u u':Value}{w':World},a.eval x=u->(Builtin.append_ #[t,t] o.type #[u,a.eval y]).run P w=.ok u' w'->(execOp a.eval o).run P w=.ok (.value u') w':=by
     intro u u' w' e r;simp[execOp,ho,resolve,bQ,ha,ht,invoke,builtin,e,r]
    split at k
    .rename_i r hr;have cr:=aP aj hg tr hr;split at k
     .rename_i tt fG l1 hT;split at k
      .rename_i htt;have htt:tt=el:=iC htt;subst htt;split at k
       .rename_i l hl;obtain⟨e1,e2⟩:=oI hl;subst e1;simp only at e2;subst e2;have cr1:=aj.ok.row_of (bG hT tr) cr.1;have row:QD h w tt fG (a.eval x) l1:=aj.ok.holds r _ _ (bG hT tr) cr1;obtain⟨v',w',r1,r2,r3,r4⟩:=uH (ty:=o.type) hu tie hz1 hz2 hz3 row src k.1 aj.ok.hw;have iQ:r < β.length:=(A8.1 cr1).1;refine UC aj (by rw[ho];simp only[quietly,bQ]) hd (v:=.row v') hT rfl cr1 r2 r3 (hold:=show Holds h (β.set r (.row v')) w' (.row tt fG (l1++l2)) (.row v') from r4) (run:=exec rfl r1) (he:=?_) (k:=k.2)
        refine⟨?_,?_⟩
        .refine⟨.row v',?_,rfl⟩;rw[qA iQ]
        .rcases r4 with⟨rfl,_⟩ | ⟨_,rfl,_⟩ | ⟨g,cap,cur,rfl,_⟩<;>exact⟨rfl,rfl⟩
       .cases k
      .cases k
     .cases k
    .rename_i hx;have Gz:=aP aj hg tr hx;obtain⟨v',w',r1,r2,r3,r4⟩:=uH (ty:=o.type) (l:=[]) hu tie hz1 hz2 hz3 (.inl ⟨Gz.1.1,rfl⟩) src (by simpa using k.1) aj.ok.hw
     refine lq aj rfl hd k.2 λ_=>⟨v',w',.row v',exec rfl r1,?_,?_,?_,?_⟩
     .rw[Gz.1.1]at r2;exact r2
     .intro b hb;rcases r3 b (bg.1 hb) with hh | hh
      .rw[Gz.1.1]at hh;cases hh
      .exact hh
     .exact r4
     .refine⟨⟨_,kG (lu aj) _,rfl⟩,?_⟩;rcases r4 with⟨rfl,_⟩ | ⟨_,rfl,_⟩ | ⟨g,cap,cur,rfl,_⟩<;>exact⟨rfl,rfl⟩
    .cases k
   .cases k
  .cases k
 .cases k
end
abbrev QE(cx:Cx) (s:St) (G:Gd) (d:Option Nat) (t:TypeId) (ln cp:Operand) (K:St->Prop):Prop:=iM cx t λel ie sh=>
 match bM cx s G ln with
 | some (.one (.c (.v (.int _ n))))=>match bM cx s G cp with
   | some (.one (.c (.v (.int _ c))))=>side s.gl G (0<=n/\n<=c/\nR c.toNat ie.bytes)/\K ({ s with T:=snoc s.T (G,.row el sh (List.replicate n.toNat (qL sh))) }.put d G (.one (.c (.row (aQ s.T)))))
   | _=>False
 | _=>False
theorem IG{α:Type}{R:List Value->α->Prop}{cs:List Value}{d:α} (r:R cs d):∀n:Nat,gq R (iI n cs) (List.replicate n d)
 | 0=>rfl
 | n+1=>⟨cs,iI n cs,by simp only[iI,fM],r,IG r n⟩
theorem Ai{l:List Value}:∀{n m:Nat},n<=m->(iI m l).take (n * l.length)=iI n l
 | 0,m,_=>by simp[iI]
 | n+1,0,h=>by omega
 | n+1,m+1,h=>by
   simp only[iI,fM];rw[wY,V9,acs,Ai (by omega)]
section
variable {cx:Cx}{P:Program}{N:Nat}{B:Base}{h0:FH}{s:St}{h:FH}{β:List RV}{w:World}{a:Act}{G:Gd}{o:Oper}{K:St->Prop}
theorem UD(hc:bT P cx.ti) (aj:Sat N B h0 s h β w a) (hg:aI cx.gd h) (hG:vk s.gl.length G=true) (hd:kY N o.dst=true){x:Operand} (ho:o.op=.makeSlice t x y)
 (k:QE cx s G o.dst t x y K):fV P N B h0 h w a o (gv s.gl G) K:=by
 unfold QE iM at k;split at k
 .rename_i el hde;have hu:=bK hc hde (by simp)
  split at k
  .cases k
  rename_i ie hie;have tie:=hc.get hie;split at k
  .cases k
  rename_i sh hsh;split at k
  .rename_i hz;rw[aB,aB,bY,bY]at hz;have hz1:sh.size=ie.size:=iC hz.1;have hz2:1<=ie.bytes:=qm hz.2.1;have hz3:1<=ie.size:=qm hz.2.2;split at k
   .rename_i ik n hn;split at k
    .rename_i ik' c hcp;refine lq aj hG hd k.2 λhgv=>?_
     obtain⟨s1,s2,s3⟩:=fJ k.1 hgv;have e1:a.eval x=.int ik n:=(aP aj hg hgv hn).1.1;have e2:a.eval y=.int ik' c:=(aP aj hg hgv hcp).1.1;obtain⟨inf,z,i1,i2,i3,i4,i5⟩:=tie.info;unfold nR at s3;have hcb:c.toNat<=140737488355328:=pq (A80 _ hz2) s3;have hb:(inf.bytes:Int) * c<=281474976710656:=by
      rw[i3];have:((c.toNat * ie.bytes:Nat):Int)<=140737488355328:=by omega
      rw[Int.natCast_mul,Int.toNat_of_nonneg (by omega),Int.mul_comm]at this
      omega
     have r:=run_make (P:=P) w t el inf z hu i1 i4 ik ik' n c s1 s2 hb (by omega)
     have WU:madeCells z.cells (c.toNat * inf.size)=(iI c.toNat ie.zero).toArray:=by
      unfold madeCells;rw[i5,i2,<-tie.pF];exact qO (by rw[tie.pF];omega)
     rw[WU]at r;refine⟨.slice (some ⟨w.heap.size,0,none⟩) n.toNat c.toNat,w.alloc (.cells (iI c.toNat ie.zero).toArray el),.row (.slice (some ⟨w.heap.size,0,none⟩) n.toNat c.toNat),?_,oC _ _ _,?_,?_,?_⟩
     .simp only[execOp,ho,e1,e2,Sem.run_bind,r,Result.andThen_ok,Sem.run_pure]
     .intro b hb';rw[bg]at hb';simp[aA]at hb';obtain⟨_,rfl⟩:=hb';simp
     .by_cases hc0:c.toNat=0
      .have hn0:n.toNat=0:=by omega
       exact .inr (.inl ⟨⟨w.heap.size,0,none⟩,by rw[hc0,hn0],by rw[hn0];rfl⟩)
      refine .inr (.inr ⟨w.heap.size,c.toNat,_,by rw[J6],mJ _ _,by rw[J6];omega,⟨by omega,by simp only[maxLen];omega⟩,?_,?_⟩)
      .simp only[FT,uF,tie.pF,hz1]
      .rw[J6];show gq (Rd h sh) ((iI c.toNat ie.zero).take (n.toNat * sh.size)) _;rw[hz1,<-tie.pF,Ai (by omega)]
       exact IG (yL (tie.Wx sh hsh).1) _
     .exact⟨⟨_,kG (lu aj) _,rfl⟩,rfl,rfl⟩
    .cases k
   .cases k
  .cases k
 .cases k
end
abbrev fC:(ss:List Sh)->bU ss->List SV
 | [],_=>[]
 | s :: l,d=>iG s d.1 :: fC l d.2
abbrev xC:(ss:List Sh)->List SV->Option (bU ss)
 | [],vs=>match vs with
   | []=>some ()
   | _=>none
 | s :: l,vs=>match vs with
   | v :: r=>match toDat s v with
     | some d=>match xC l r with
       | some e=>some (d,e)
       | none=>none
     | none=>none
   | _=>none
theorem vJ{h:FH}{β:List RV}:∀{ss:List Sh}{vs:List SV}{ys:List Value}{d:bU ss},xC ss vs=some d->aS (dh h β) vs ys->aS (dh h β) (fC ss d) ys
 | [],vs,ys,d,e,a=>by
   unfold xC at e;split at e
   .cases ys with
    | nil=>trivial
    | cons _ _=>exact a.elim
   .cases e
 | s :: l,vs,ys,d,e,a=>by
   unfold xC at e;split at e
   .rename_i v r;cases ys with
    | nil=>exact a.elim
    | cons y ys=>
      split at e
      .rename_i d1 hd;split at e
       .rename_i d2 hr;cases e;obtain⟨cs,e1,rd⟩:=toDat_ok hd a.1;rw[e1];exact⟨jh s rd,vJ hr a.2⟩
       .cases e
      .cases e
   .cases e
structure CT where
 ps:List Sh
 pre:bU ps->Prop
 res:bU ps->List ay×aZ
variable {ct:Nat->Option CT}
def II(P:Program) (gd:Nat->Option (Sigma Sh.den)) (f:FuncId) (ct:CT):Prop:=
 ∀(d:bU ct.ps) (vs:List Value) (h:FH) (B:World),(∀b o v,h b o=some v->vis B b o=some v)->aI gd h->aS (dh h []) (fC ct.ps d) vs->ct.pre d ->
   Calls P f vs.toArray B (λen w'=>∃h' β y,en=.returned y/\OK (Base.of B) h (ct.res d).1 h' β w'/\jF h' β (ct.res d).2 y)
def CTX(P:Program) (gd:Nat->Option (Sigma Sh.den)) (f:FuncId) (suf:List Value) (ct:CT):Prop:=
 ∀(d:bU ct.ps) (vs:List Value) (h:FH) (B:World),(∀b o v,h b o=some v->vis B b o=some v)->aI gd h->aS (dh h []) (fC ct.ps d) vs->ct.pre d ->
   Calls P f (vs++suf).toArray B (λen w'=>∃h' β y,en=.returned y/\OK (Base.of B) h (ct.res d).1 h' β w'/\jF h' β (ct.res d).2 y)
def CTS(P:Program) (gd:Nat->Option (Sigma Sh.den)) (f:FuncId) (sv:List SV) (ct:CT):Prop:=
 ∀(d:bU ct.ps) (vs ys:List Value) (h:FH) (B:World),(∀b o v,h b o=some v->vis B b o=some v)->aI gd h->aS (dh h []) (fC ct.ps d) vs->aS (dh h []) sv ys->ct.pre d ->
   Calls P f (vs++ys).toArray B (λen w'=>∃h' β y,en=.returned y/\OK (Base.of B) h (ct.res d).1 h' β w'/\jF h' β (ct.res d).2 y)
theorem II.x{gd:Nat->Option (Sigma Sh.den)}{ct:CT} (h:II P gd f ct):CTX P gd f [] ct:=by
 intro d vs h' B;simpa using h d vs h' B
theorem CTX.ok{gd:Nat->Option (Sigma Sh.den)}{ct:CT} (h:CTX P gd f [] ct):II P gd f ct:=by
 intro d vs h' B;simpa using h d vs h' B
abbrev SC.sh(n:Nat):SC->SC
 | .own i off=>.own (n+i) off
 | .row i=>.row (n+i)
 | .jS i j sz off=>.jS (n+i) j sz off
 | .sub i j=>.sub (n+i) j
 | .lQ i j k sz off=>.lQ (n+i) j k sz off
 | x=>x
abbrev SV.sh(n:Nat):SV->SV
 | .c x=>.c (x.sh n)
 | .agg xs=>.agg (fE (SC.sh n) xs)
 | v=>v
abbrev aZ.sh(n:Nat):aZ->aZ
 | .one v=>.one (v.sh n)
 | .gV vs=>.gV (fE (SV.sh n) vs)
abbrev ay.sh(n:Nat):ay->ay
 | .blk t cs=>.blk t (fE (SC.sh n) cs)
 | r=>r
abbrev iV:Sh->Bool
 | .int _=>true
 | .bool=>true
 | .str=>true
 | .unit=>true
 | .pair a b=>dD (iV a) (iV b)
 | .arr _ s=>iV s
 | _=>false
abbrev nC:SC->Bool
 | .v _=>true
 | .own _ _=>true
 | .row _=>true
 | _=>false
abbrev allL{α:Type} (p:α->Bool):List α->Bool
 | []=>true
 | x :: l=>dD (p x) (allL p l)
abbrev Ot:SV->Bool
 | .c x=>nC x
 | .agg xs=>allL nC xs
 | .dat s _=>iV s
 | .und=>true
abbrev IJ:aZ->Bool
 | .one v=>Ot v
 | .gV vs=>allL Ot vs
abbrev vK:ay->Bool
 | .blk _ cs=>allL nC cs
 | .row _ s _=>iV s
 | .obj _ s _=>iV s
 | .deep _ _ _ _ _ _ _ _=>false
 | .mp _ s _=>iV s
 | .NI _ _ _ _=>false
 | .it _ _ _ _=>false
 | .Kv _ _ _ _=>true
 | .Gp _ _ _ _=>false
 | .gone=>true
theorem Rd.flat{h h':FH}:∀(s:Sh){cs:List Value}{d:s.den},iV s=true->Rd h s cs d->Rd h' s cs d
 | .int _,_,_,_,r=>r
 | .bool,_,_,_,r=>r
 | .str,_,_,_,r=>r
 | .unit,_,_,_,r=>r
 | .any,_,_,f,_=>by simp[iV]at f
 | .sl _,_,_,f,_=>by simp[iV]at f
 | .pair a b,_,(_,_),f,⟨c1,c2,e,r1,r2⟩=>by
   simp only[iV,aB,bY]at f;exact⟨c1,c2,e,r1.flat a f.1,r2.flat b f.2⟩
 | .arr _ s,_,_,f,⟨e,r⟩=>⟨e,r.mono λ_ _=>Rd.flat s f⟩
theorem oJ{v:RV} (e:β'[i]?=some v):(β++β')[β.length+i]?=some v:=by
 rw[NM (by omega)];simpa using e
theorem dY.shift:∀{x:SC}{y:Value},dY h β' x y->dY h (β++β') (x.sh β.length) y
 | .v _,_,c=>c
 | .sl _ _,_,c=>c
 | .fp _ _,_,c=>c
 | .one _ _,_,c=>c
 | .own _ _,_,⟨b,e,e'⟩=>⟨b,oJ e,e'⟩
 | .row _,_,⟨v,e,e'⟩=>⟨v,oJ e,e'⟩
 | .jS _ _ _ _,_,⟨v,g,e,e'⟩=>⟨v,g,oJ e,e'⟩
 | .sub _ _,_,⟨v,us,e,e'⟩=>⟨v,us,oJ e,e'⟩
 | .lQ _ _ _ _ _,_,⟨v,us,g,e,e'⟩=>⟨v,us,g,oJ e,e'⟩
 | .abs _,_,c=>c
 | .junk,_,_=>trivial
theorem dY.flat:∀{x:SC}{y:Value},nC x=true->dY h β x y->dY h' β x y
 | .v _,_,_,c=>c
 | .own _ _,_,_,c=>c
 | .row _,_,_,c=>c
 | .sl _ _,_,f,_=>by simp[nC]at f
 | .fp _ _,_,f,_=>by simp[nC]at f
 | .one _ _,_,f,_=>by simp[nC]at f
 | .jS _ _ _ _,_,f,_=>by simp[nC]at f
 | .sub _ _,_,f,_=>by simp[nC]at f
 | .lQ _ _ _ _ _,_,f,_=>by simp[nC]at f
 | .abs _,_,f,_=>by simp[nC]at f
 | .junk,_,f,_=>by simp[nC]at f
theorem aS.fE{α β:Type}{R R':α->β->Prop}{f:α->α} (hR:∀a b,R a b->R' (f a) b):∀{l:List α}{m:List β},aS R l m->aS R' (fE f l) m
 | [],[],_=>trivial
 | _ :: _,_ :: _,⟨a,b⟩=>⟨hR _ _ a,aS.fE hR b⟩
theorem aS.allL{α β:Type}{R R':α->β->Prop}{p:α->Bool} (hR:∀a b,p a=true->R a b->R' a b):∀{l:List α}{m:List β},allL p l=true->aS R l m->aS R' l m
 | [],[],_,_=>trivial
 | _ :: _,_ :: _,f,⟨a,b⟩=>by
   simp only[jf.allL,aB,bY]at f;exact⟨hR _ _ f.1 a,aS.allL hR f.2 b⟩
theorem dh.shift{h:FH}{β β':List RV}:∀{x:SV}{y:Value},dh h β' x y->dh h (β++β') (x.sh β.length) y
 | .c _,_,c=>⟨c.1.shift,c.2⟩
 | .agg _,_,⟨ys,e,a⟩=>⟨ys,e,a.fE λ_ _ ⟨p,q⟩=>⟨p.shift,q⟩⟩
 | .dat _ _,_,c=>c
 | .und,_,c=>c
theorem dh.flat{h h':FH}{β:List RV}:∀{x:SV}{y:Value},Ot x=true->dh h β x y->dh h' β x y
 | .c _,_,f,c=>⟨c.1.flat f,c.2⟩
 | .agg _,_,f,⟨ys,e,a⟩=>⟨ys,e,a.allL (λ_ _ f ⟨p,q⟩=>⟨p.flat f,q⟩) f⟩
 | .dat s _,_,f,⟨g,cs,e,r⟩=>⟨g,cs,e,r.flat s f⟩
 | .und,_,_,c=>c
theorem jF.shift{h:FH}{β β':List RV}:∀{x:aZ}{y:Value},jF h β' x y->jF h (β++β') (x.sh β.length) y
 | .one _,_,c=>dh.shift c
 | .gV _,_,⟨ys,e,a⟩=>⟨ys,e,a.fE (f:=SV.sh β.length) λ_ _ c=>dh.shift c⟩
theorem jF.flat{h h':FH}{β:List RV}:∀{x:aZ}{y:Value},IJ x=true->jF h β x y->jF h' β x y
 | .one _,_,f,c=>dh.flat f c
 | .gV _,_,f,⟨ys,e,a⟩=>⟨ys,e,a.allL (λ_ _=>dh.flat) f⟩
theorem Holds.shift{h:FH}{β β':List RV}{w:World}:∀{r:ay}{v:RV},Holds h β' w r v->Holds h (β++β') w (r.sh β.length) v
 | .blk _ _,.blk _,⟨ys,e,a⟩=>⟨ys,e,a.fE λ_ _ ⟨p,q⟩=>⟨p.shift,q⟩⟩
 | .row _ _ _,.row _,c=>c
 | .obj _ _ _,.blk _,c=>c
 | .deep _ _ _ _ _ _ _ _,.deep _ _,c=>c
 | .mp _ _ _,.row _,c=>c
 | .NI _ _ _ _,.deep _ _,c=>c
 | .it _ _ _ _,.blk _,c=>c
 | .Kv _ _ _ _,.row _,c=>c
 | .Gp _ _ _ _,.deep _ _,c=>c
 | .gone,_,_=>trivial
theorem Holds.flat{h h':FH}{β:List RV}{w:World}:∀{r:ay}{v:RV},vK r=true->Holds h β w r v->Holds h' β w r v
 | .blk _ _,.blk _,f,⟨ys,e,a⟩=>⟨ys,e,a.allL (λ_ _ f ⟨p,q⟩=>⟨p.flat f,q⟩) f⟩
 | .row _ s _,.row _,f,c=>c.elim .inl λc=>c.elim (λc=>.inr (.inl c)) λ⟨g,cap,cur,e,q1,q2,q3,q4,q5⟩=>.inr (.inr ⟨g,cap,cur,e,q1,q2,q3,q4,q5.mono λ_ _=>Rd.flat s f⟩)
 | .obj _ s _,.blk _,f,⟨ys,e,r⟩=>⟨ys,e,r.flat s f⟩
 | .deep _ _ _ _ _ _ _ _,.deep _ _,f,_=>by cases f
 | .mp _ s _,.row _,f,⟨b,es,c,e,e1,m⟩=>⟨b,es,c,e,e1,m.mono λ_ _ ⟨cs,q,r⟩=>⟨cs,q,r.flat s f⟩⟩
 | .NI _ _ _ _,.deep _ _,f,_=>by cases f
 | .it _ _ _ _,.blk _,f,_=>by cases f
 | .Kv _ _ _ _,.row _,_,c=>c
 | .Gp _ _ _ _,.deep _ _,f,_=>by cases f
 | .gone,_,_,_=>trivial
theorem ay.yN(n:Nat) (r:ay):(r.sh n).live=r.live:=by cases r<;>rfl
theorem OK.call(ok:OK B h0 T h β w){hb:FH}{T':List ay} (ok':OK (Base.of w) hb T' h' β' w'){hn:FH} (le:h.le hn)
 (conv:∀(j:Nat) r v,T'[j]?=some r->Holds h' β' w' r v->Holds hn (β++β') w' (r.sh β.length) v)
 (hnw:∀b o v,hn b o=some v->vis w' b o=some v) (hng:∀b o v,hn b o=some v->h b o=some v\/(w.heap.size<=b/\h' b o=some v)):
 OK B h0 (T++T'.map (ay.sh β.length)) hn (β++β') w':=by
 have L:=ok.len;have L':=ok'.len;have own':∀(i:Nat) r v b,T'[i]?=some r->r.live=true->β'[i]?=some v->v.has b->w.heap.size<=b/\b < w'.heap.size/\∀o,h' b o=none:=ok'.own;have below':Below w.heap.size w w':=Bw.bel ok'.below;have dr':w.drawn<=w'.drawn:=ok'.dr;have split:∀{i:Nat}{r:ay}{v:RV},(T++T'.map (ay.sh β.length))[i]?=some r->(β++β')[i]?=some v ->
  (T[i]?=some r/\β[i]?=some v)\/∃j r',i=β.length+j/\T'[j]?=some r'/\r=r'.sh β.length/\β'[j]?=some v:=by
  intro i r v e e'
  by_cases hi:i < T.length
  .rw[VJ hi]at e;rw[VJ (by omega)]at e'
   exact .inl ⟨e,e'⟩
  .rw[NM (by omega),Dj]at e
   rw[NM (by omega)]at e'
   cases hj:T'[i - T.length]? with
   | none=>rw[hj]at e;cases e
   | some r'=>rw[hj]at e;cases e;exact .inr ⟨i - T.length,r',by omega,hj,rfl,by rw[show i - T.length=i - β.length by omega];exact e'⟩
 have acS:∀{i:Nat}{r:ay}{v:RV}{b:Nat},T[i]?=some r->r.live=true->β[i]?=some v->v.has b->∀o,hn b o=none:=by
  intro i r v b e1 e2 e3 e4 o;obtain⟨a1,a2,a3⟩:=ok.own i r v b e1 e2 e3 e4;cases hh:hn b o with
  | none=>rfl
  | some u=>
    rcases hng b o u hh with h1 | h1
    .rw[a3 o]at h1;cases h1
    .omega
 have acT:∀{i:Nat}{r:ay}{v:RV}{b:Nat},T'[i]?=some r->r.live=true->β'[i]?=some v->v.has b->∀o,hn b o=none:=by
  intro i r v b e1 e2 e3 e4 o;obtain⟨a1,a2,a3⟩:=own' i r v b e1 e2 e3 e4;cases hh:hn b o with
  | none=>rfl
  | some u=>
    rcases hng b o u hh with h1 | h1
    .have:=oz (ok.hw b o u h1);omega
    .rw[a3 o]at h1;cases h1.2
 exact {
  below:=ok.below.below below'
  dr:=pq ok.dr dr'
  len:=by simp[L,L']
  holds:=by
   intro i r v e e';rcases split e e' with⟨f1,f2⟩ | ⟨j,r',hi,f1,hr,f2⟩
   .exact(ok.holds i r v f1 f2).move le (Ext.append _ _) λhl b hb=>below'.block b (ok.own i r v b f1 hl f2 hb).2.1
   .rw[hr];exact conv j r' v f1 (ok'.holds j r' v f1 f2)
  own:=by
   intro i r v b e hl e' hb';rcases split e e' with⟨f1,f2⟩ | ⟨j,r',hi,f1,hr,f2⟩
   .obtain⟨a1,a2,a3⟩:=ok.own i r v b f1 hl f2 hb';exact⟨a1,NP a2 below'.size,acS f1 hl f2 hb'⟩
   .rw[hr,ay.yN]at hl;obtain⟨a1,a2,a3⟩:=own' j r' v b f1 hl f2 hb';exact⟨B.up _ (pq ok.below.size a1),a2,acT f1 hl f2 hb'⟩
  inj:=by
   intro i j r1 r2 u v b e1 l1 e2 l2 e3 e4 b1 b2;rcases split e1 e3 with⟨f1,f3⟩ | ⟨i',r1',hi,f1,hr1,f3⟩<;>rcases split e2 e4 with⟨f2,f4⟩ | ⟨j',r2',hj,f2,hr2,f4⟩
   .exact ok.inj i j r1 r2 u v b f1 l1 f2 l2 f3 f4 b1 b2
   .rw[hr2,ay.yN]at l2;have a1:=ok.own i r1 u b f1 l1 f3 b1;have a2:=own' j' r2' v b f2 l2 f4 b2;omega
   .rw[hr1,ay.yN]at l1;have a1:=ok.own j r2 v b f2 l2 f4 b2;have a2:=own' i' r1' u b f1 l1 f3 b1;omega
   .rw[hr1,ay.yN]at l1;rw[hr2,ay.yN]at l2;rw[hi,hj,ok'.inj i' j' r1' r2' u v b f1 l1 f2 l2 f3 f4 b1 b2]
  hle:=ok.hle.trans le
  hw:=hnw
  hg:=by
   intro b o v hh;rcases hng b o v hh with h1 | h1
   .exact ok.hg b o v h1
   .exact .inr (B.up _ (pq ok.below.size h1.1))
  kn:=λk o hk=>by
   have h1:=ok.kn k o hk;exact(below'.block k (Dh.1 h1).1).trans h1 }
theorem OK.QF{B:Base}{h0 h:FH}{w:World}:∀(m:Nat){T:List ay}{β:List RV},OK B h0 T h β w->OK B h0 (T++List.replicate m .gone) h (β++List.replicate m .no) w
 | 0,T,β,ok=>by simpa using ok
 | m+1,T,β,ok=>by
   have:=OK.QF m (ok.add (r:=.gone) (v:=.no) (bV w none) (λb hb=>(N7 hb).elim) trivial)
   simpa[V3]using this
abbrev KQ(G:Gd) (n:Nat):List (Gd×ay)->List ay->List (Gd×ay)
 | T,[]=>T
 | T,r :: l=>KQ G n (snoc T (G,r.sh n)) l
theorem Ci(G:Gd) (n:Nat):∀(l:List ay) (T:List (Gd×ay)),KQ G n T l=T++l.map λr=>(G,r.sh n)
 | [],T=>by simp[KQ]
 | r :: l,T=>by simp[KQ,Ci G n l,gY]
theorem lX(gl:List Bool):∀(T U:List (Gd×ay)),eff gl (T++U)=eff gl T++eff gl U
 | [],_=>rfl
 | (g,r) :: l,U=>by simp[eff,lX gl l U]
theorem yO{gl:List Bool}{G:Gd}{n:Nat} (hG:gv gl G=true):∀(l:List ay),eff gl (l.map λr=>(G,r.sh n))=l.map (ay.sh n)
 | []=>rfl
 | r :: l=>by simp[eff,hG,jY,yO hG l]
theorem wH{gl:List Bool}{G:Gd}{n:Nat} (hG:gv gl G=false):∀(l:List ay),eff gl (l.map λr=>(G,r.sh n))=List.replicate l.length .gone
 | []=>rfl
 | r :: l=>by simp[eff,hG,jY,wH hG l,V3]
theorem gq.Ou{α:Type}{R:List Value->α->Prop}{k:Nat}:∀{l:List α}{cs:List Value},cs.length=l.length * k->(∀j d,l[j]?=some d->R ((cs.drop (j * k)).take k) d)->gq R cs l
 | [],cs,h,_=>VI (by simpa using h)
 | d :: l,cs,h,hR=>by
   rw[wV,wY]at h;refine⟨cs.take k,cs.drop k,(VL k cs).symm,?_,gq.Ou (k:=k) (by rw[yj];omega) λj d' hd=>?_⟩
   .have:=hR 0 d rfl;simpa using this
   .have:=hR (j+1) d' (by simpa using hd)
    rw[Ue]
    rwa [show k+j * k=(j+1) * k by rw[wY];omega]
theorem lV.sl{s:Sh}{l:List s.den} (x:lV h w t s l v) (le:h.le h') (hb:∀b,aA v=some b->∀o u,vis w b o=some u->h' b o=some u):qC h' (Rd h' s) v l:=by
 rcases x with⟨e1,e2⟩ | ⟨ra,e1,e2⟩ | ⟨g,cap,cur,e1,q1,q2,q3,q4,q5⟩
 .exact .inl ⟨e1,e2⟩
 .exact .inr (.inl ⟨ra,0,e1,e2,Ko _⟩)
 .refine .inr (.inr ⟨g,0,cap,e1,q2,q3.2,_,q5.mono λ_ _=>Rd.mono le s,λj u hj=>?_⟩)
  refine hb g (by rw[e1];exact aY q3.1) _ _ ?_
  rw[Dk];have h1:=gq.all (λ_ _=>Rd.one s) q5 u (iy hj)
  rw[uY]at hj;split at hj
  .exact nY q1 (by simpa using hj) h1.2
  .cases hj
theorem WV{cs:List Value}{o:Nat}{u:Value} (h:cs[o]?=some u) (x:Value):(cs.set o x).set o u=cs:=by
 rw[List.set_set];exact gX h
theorem zY.rd{h h':FH}{w:World}{s:Sh}{tt:TypeId}{e:Sh}{so:Nat}{own:Bool}{u:Value}{cs:List Value}{d:s.den} (x:zY h w s tt e so own false u cs d) (le:h.le h') (hb:∀b,aA u=some b->∀o z,vis w b o=some z->h' b o=some z):Rd h' s cs d:=by
 unfold zY at x;cases own with
 | false=>exact x.1.mono le s
 | true=>
   obtain⟨d0,y,r,p,c,q⟩:=x;have:=p.rd (r.mono le s) (q.sl le hb)
   rwa [WV c]at this
theorem fD.data{s:Sh}{l:List s.den}{tt:TypeId}{e:Sh}{so:Nat}{own:Nat->Bool}{us:Nat->Value} (x:fD h w t s l tt e so own [] v us) (le:h.le h')
 (hb:∀b,(RV.deep v us).has b->∀o z,vis w b o=some z->h' b o=some z):qC h' (Rd h' s) v l:=by
 obtain⟨_,_,x⟩:=x;rcases x with⟨e1,e2⟩ | ⟨ra,e1,e2⟩ | ⟨g,cap,cur,e1,q1,q2,q3,q4,q5,q6⟩
 .exact .inl ⟨e1,e2⟩
 .exact .inr (.inl ⟨ra,0,e1,e2,Ko _⟩)
 .have hm:l.length * s.size<=cap * s.size:=yh _ q2;have lc:cur.toList.length=cap * s.size:=by simpa using q4
  have rdl:gq (Rd h' s) (cur.toList.take (l.length * s.size)) l:=by
   refine gq.Ou (k:=s.size) (by rw[kX];omega) λj d hd=>?_
   have hj:=(A8.1 hd).1;have hm:(j+1) * s.size<=l.length * s.size:=yh _ hj;rw[wY]at hm;have e5:List.take s.size (List.drop (j * s.size) (List.take (l.length * s.size) cur.toList))=List.take s.size (List.drop (j * s.size) cur.toList):=by
    apply Ie;intro p;simp only[uY,J7];split
    .rw[if_pos (by omega)]
    .rfl
   rw[e5];exact(q6 j d hd).rd le λb hu=>hb b (aX.2 (.inr ⟨j,hu⟩))
  refine .inr (.inr ⟨g,0,cap,e1,q2,q3.2,cur.toList.take (l.length * s.size),rdl,λj u hj=>?_⟩)
  .refine hb g (aX.2 (.inl (by rw[e1];exact aY (n:=l.length) q3.1))) _ _ ?_
   rw[Dk];have h1:=gq.all (λ_ _=>Rd.one s) rdl u (iy hj)
   rw[uY]at hj;split at hj
   .exact nY q1 (by simpa using hj) h1.2
   .cases hj
abbrev acU(s:St) (G:Gd) (x:SC):Option SC:=match x with
 | .v u=>some (.v u)
 | .sl sh l=>some (.sl sh l)
 | .fp sh d=>some (.fp sh d)
 | .one sh d=>some (.one sh d)
 | .row r=>match eF s.T r with
   | some (Gr,.row _ sh l)=>match qJ Gr G with
     | true=>some (.sl sh l)
     | false=>none
   | some (Gr,.deep _ sh l _ _ _ _ [])=>match qJ Gr G with
     | true=>some (.sl sh l)
     | false=>none
   | some (Gr,.mp k sh l)=>match qJ Gr G with
     | true=>some (.one (.mp k sh) l)
     | false=>none
   | _=>none
 | _=>none
abbrev WW(s:St) (G:Gd):List SC->Option (List SC)
 | []=>some []
 | x :: l=>match acU s G x with
   | some y=>match WW s G l with
     | some m=>some (y :: m)
     | none=>none
   | none=>none
abbrev acV(s:St) (G:Gd) (v:SV):Option SV:=match v with
 | .c x=>match acU s G x with
   | some y=>some (.c y)
   | none=>none
 | .agg xs=>match WW s G xs with
   | some ys=>some (.agg ys)
   | none=>none
 | .dat sh d=>some (.dat sh d)
 | .und=>none
abbrev isRow:SC->Bool
 | .row _=>true
 | _=>false
abbrev noRow:SV->Bool
 | .c x=>!(isRow x)
 | .agg xs=>allL (λx=>!(isRow x)) xs
 | _=>true
abbrev qQ(cx:Cx) (s:St) (G:Gd):List Operand->Option (List SV)
 | []=>some []
 | x :: l=>match bM cx s G x with
   | some (.one v)=>match qQ cx s G l with
     | some r=>some (v :: r)
     | none=>none
   | _=>none
abbrev F6(s:St) (G:Gd):List SV->Option (List SV)
 | []=>some []
 | x :: l=>match acV s G x with
   | some v=>match F6 s G l with
     | some r=>some (v :: r)
     | none=>none
   | none=>none
abbrev orB:Bool->Bool->Bool
 | true,_=>true
 | false,b=>b
abbrev ji(cx:Cx) (ct:Nat->Option CT) (s:St) (G:Gd) (d:Option Nat) (f:Nat) (args:List Operand) (K:St->Prop):Prop:=match ct f with
 | none=>False
 | some c=>match qQ cx s G args with
   | none=>False
   | some vs=>match F6 s G vs with
     | none=>False
     | some bs=>match xC c.ps bs with
       | none=>False
       | some dd=>match orB (allL noRow vs) (dD (IJ (c.res dd).2) (allL vK (c.res dd).1)) with
         | true=>side s.gl G (c.pre dd)/\K ({ s with T:=KQ G (aQ s.T) s.T (c.res dd).1 }.put d G ((c.res dd).2.sh (aQ s.T)))
         | false=>False
theorem aS.ag9{α β:Type}{R:α->β->Prop}:∀{a c:List α}{l:List β},aS R (a++c) l->∃b d,l=b++d/\aS R a b/\aS R c d
 | [],c,l,h=>⟨[],l,rfl,trivial,h⟩
 | x :: a,c,[],h=>h.elim
 | x :: a,c,y :: l,⟨h1,h2⟩=>by
   obtain⟨b,d,e,p,q⟩:=aS.ag9 (a:=a) h2;exact⟨y :: b,d,by rw[e];rfl,⟨h1,p⟩,q⟩
theorem aS.yP{α β:Type}{R:α->β->Prop}{x:α}:∀{l:List β},aS R [x] l->∃y,l=[y]/\R x y
 | [],h=>h.elim
 | [y],h=>⟨y,rfl,h.1⟩
 | _ :: _ :: _,h=>h.2.elim
theorem DY{h:FH}{β:List RV}:∀(s:Sh){d:s.den}{xs:List SC}{ys:List Value},flat s d=some xs->aS (λx y=>dY h β x y/\dF y) xs ys->Rd h s ys d
 | .int k,n,xs,ys,e,a=>by simp[flat]at e;subst e;obtain⟨y,rfl,r⟩:=a.yP;rw[r.1.1];rfl
 | .bool,n,xs,ys,e,a=>by simp[flat]at e;subst e;obtain⟨y,rfl,r⟩:=a.yP;rw[r.1.1];rfl
 | .str,n,xs,ys,e,a=>by simp[flat]at e;subst e;obtain⟨y,rfl,r⟩:=a.yP;rw[r.1.1];rfl
 | .any,n,xs,ys,e,a=>by simp[flat]at e
 | .sl s,l,xs,ys,e,a=>by simp[flat]at e;subst e;obtain⟨y,rfl,r⟩:=a.yP;exact⟨y,rfl,r.1⟩
 | .unit,n,xs,ys,e,a=>by
   simp[flat]at e;subst e;cases ys with
   | nil=>rfl
   | cons _ _=>exact a.elim
 | .arr _ _,n,xs,ys,e,a=>by simp[flat]at e
 | .mp k s,l,xs,ys,e,a=>by simp[flat]at e;subst e;obtain⟨y,rfl,r⟩:=a.yP;exact r.1
 | .pair a b,(x,y),xs,ys,e,al=>by
   unfold flat at e;split at e
   .rename_i p hp;split at e
    .rename_i q hq;cases e;rw[fM]at al;obtain⟨c1,c2,rfl,r1,r2⟩:=al.ag9;exact⟨c1,c2,rfl,DY a hp r1,DY b hq r2⟩
    .cases e
   .cases e
theorem Aj:∀(s:Sh){d:s.den}{y:Value},dh h β (iG s d) y->DV h s d y
 | .int k,n,y,c=>⟨[y],rfl,by rw[c.1.1];rfl⟩
 | .bool,n,y,c=>⟨[y],rfl,by rw[c.1.1];rfl⟩
 | .str,n,y,c=>⟨[y],rfl,by rw[c.1.1];rfl⟩
 | .any,n,y,c=>⟨[y],rfl,by rw[c.1.1];exact⟨rfl,c.1.2⟩⟩
 | .sl s,l,y,c=>⟨[y],rfl,y,rfl,c.1⟩
 | .unit,n,y,⟨ys,e,a⟩=>by
   cases ys with
   | nil=>exact⟨[],e,rfl⟩
   | cons _ _=>exact a.elim
 | .arr n s,l,y,⟨_,cs,e,r⟩=>⟨cs,e,r⟩
 | .mp k s,l,y,c=>⟨[y],rfl,c.1⟩
 | .pair a b,d,y,c=>by
   have e:iG (.pair a b) d=match flat (.pair a b) d with
    | some xs=>.agg xs
    | none=>.dat (.pair a b) d:=rfl
   rw[e]at c;cases hx:flat (.pair a b) d with
   | some xs=>
     rw[hx]at c;obtain⟨ys,e,al⟩:=c;exact⟨ys,e,DY (.pair a b) hx al⟩
   | none=>
     rw[hx]at c;obtain⟨_,cs,e,r⟩:=c;exact⟨cs,e,r⟩
theorem DZ{h:FH}:∀{ss:List Sh}{d:bU ss}{ys:List Value},aS (dh h []) (fC ss d) ys->Bf h ss d ys
 | [],_,[],_=>trivial
 | [],_,_ :: _,x=>x.elim
 | _ :: _,_,[],x=>x.elim
 | s :: l,d,y :: ys,⟨a,b⟩=>⟨Aj s a,DZ b⟩
section
variable {cx:Cx}{P:Program}{N:Nat}{B:Base}{h0:FH}{s:St}{h:FH}{β:List RV}{w:World}{a:Act}{G:Gd}{o:Oper}{K:St->Prop}
theorem oK(aj:Sat N B h0 s h β w a) (hg:aI cx.gd h) (hG:gv s.gl G=true):∀{l:List Operand}{vs:List SV},qQ cx s G l=some vs->aS (dh h β) vs (l.map a.eval)
 | [],vs,e=>by simp[qQ]at e;subst e;trivial
 | x :: l,vs,e=>by
   unfold qQ at e;split at e
   .rename_i v hv;split at e
    .rename_i r hr;cases e;exact⟨aP aj hg hG hv,oK aj hg hG hr⟩
    .cases e
   .cases e
def FH.all(w:World):FH:=λb o=>vis w b o
theorem OK.aha(ok:OK B h0 T h β w){k:IntKind}{s:Sh}{l:List (Int×s.den)}{y:Value} (hT:T[i]?=some (.mp k s l)) (hx:dY h β (.row i) y):β[i]?=some (.row y):=by
 obtain⟨v,e,es⟩:=hx;have hold:=ok.holds i _ _ hT e
 match v,hold,es with
 | .row v,_,es=>cases es;exact e
theorem OK.ahb(ok:OK B h0 T h β w){k:IntKind}{s:Sh}{l:List (Int×s.den)}{y:Value} (hT:T[i]?=some (.mp k s l)) (hx:dY h β (.row i) y):
 ∃b es c,y=.map (some b)/\w.heap[b]?=some (.map es c)/\wZ k (DW h s) es c l:=ok.holds i _ _ hT (ok.aha hT hx)
theorem QG(aj:Sat N B h0 s h β w a) (hG:gv s.gl G=true){x y:SC} (e:acU s G x=some y) (c:dY h β x v):
 dY (FH.all w) [] y v/\(isRow x=false->dY h [] y v):=by
 have le:h.le (FH.all w):=aj.ok.hw;unfold acU at e;split at e
 .cases e;exact⟨c,λ_=>c⟩
 .cases e;exact⟨qC.mono le (λ_ _=>Rd.mono le _) c,λ_=>c⟩
 .cases e;obtain⟨b,o,cs,e,r,at_⟩:=c;exact⟨⟨b,o,cs,e,r.mono le _,at_.mono le⟩,λ_=>⟨b,o,cs,e,r,at_⟩⟩
 .cases e;exact⟨Rd.mono le _ c,λ_=>c⟩
 .rename_i r;split at e
  .rename_i Gr tt sh l hT;split at e
   .rename_i hs;cases e;refine⟨?_,λhh=>by cases hh⟩
    rcases aj.ok.holds r _ _ (bG hT (fO hs hG)) (aj.ok.row_of (bG hT (fO hs hG)) c) with⟨e1,e2⟩ | ⟨ra,e1,e2⟩ | ⟨g,cap,cur,e1,q1,q2,q3,q4,q5⟩
    .exact .inl ⟨e1,e2⟩
    .exact .inr (.inl ⟨ra,0,e1,e2,Ko _⟩)
    .refine .inr (.inr ⟨g,0,cap,e1,q2,q3.2,_,q5.mono λ_ _=>Rd.mono le sh,λj u hj=>?_⟩)
     show vis w g (0+j)=some u;rw[Dk];have h1:=gq.all (λ_ _=>Rd.one sh) q5 u (iy hj)
     rw[uY]at hj;split at hj
     .exact nY q1 (by simpa using hj) h1.2
     .cases hj
   .cases e
  .rename_i Gr tt sh l t2 e2 so own hT;split at e
   .rename_i hs;cases e;refine⟨?_,λhh=>by cases hh⟩
    obtain⟨us,_,hd⟩:=aj.ok.vF (bG hT (fO hs hG)) c;exact hd.data le λb _ o z hz=>hz
   .cases e
  .rename_i Gr k sh l hT;split at e
   .rename_i hs;cases e;refine⟨?_,λhh=>by cases hh⟩
    obtain⟨b,es,cl,hb,hw,m⟩:=aj.ok.ahb (bG hT (fO hs hG)) c;exact⟨_,rfl,.inr ⟨b,es,cl,hb,Qp hw,m.mono λ_ _=>DW.mono le⟩⟩
   .cases e
  .cases e
 .cases e
theorem QH(aj:Sat N B h0 s h β w a) (hG:gv s.gl G=true):∀{xs ys:List SC}{vs:List Value},WW s G xs=some ys->aS (λx y=>dY h β x y/\dF y) xs vs ->
 aS (λx y=>dY (FH.all w) [] x y/\dF y) ys vs/\(allL (λx=>!(isRow x)) xs=true->aS (λx y=>dY h [] x y/\dF y) ys vs)
 | [],ys,[],e,_=>by simp[WW]at e;subst e;exact⟨trivial,λ_=>trivial⟩
 | x :: l,ys,v :: vs,e,⟨c,r⟩=>by
   unfold WW at e;split at e
   .rename_i y hy;split at e
    .rename_i m hm;cases e;obtain⟨h1,h2⟩:=QG aj hG hy c.1;obtain⟨h3,h4⟩:=QH aj hG hm r;refine⟨⟨⟨h1,c.2⟩,h3⟩,λhh=>?_⟩
     simp only[allL,aB,bY]at hh;exact⟨⟨h2 (by simpa using hh.1),c.2⟩,h4 hh.2⟩
    .cases e
   .cases e
theorem QI(aj:Sat N B h0 s h β w a) (hG:gv s.gl G=true){x y:SV} (e:acV s G x=some y) (c:dh h β x v):
 dh (FH.all w) [] y v/\(noRow x=true->dh h [] y v):=by
 have le:h.le (FH.all w):=aj.ok.hw;unfold acV at e;split at e
 .split at e
  .rename_i y hy;cases e;obtain⟨h1,h2⟩:=QG aj hG hy c.1;exact⟨⟨h1,c.2⟩,λhh=>⟨h2 (by simpa[noRow]using hh),c.2⟩⟩
  .cases e
 .split at e
  .rename_i ys hy;cases e;obtain⟨vs,e1,e2⟩:=c;obtain⟨h1,h2⟩:=QH aj hG hy e2;exact⟨⟨vs,e1,h1⟩,λhh=>⟨vs,e1,h2 hh⟩⟩
  .cases e
 .cases e;obtain⟨g,cs,e1,r⟩:=c;exact⟨⟨g,cs,e1,r.mono le _⟩,λ_=>⟨g,cs,e1,r⟩⟩
 .cases e
theorem yQ(aj:Sat N B h0 s h β w a) (hG:gv s.gl G=true):∀{xs ys:List SV}{vs:List Value},F6 s G xs=some ys->aS (dh h β) xs vs ->
 aS (dh (FH.all w) []) ys vs/\(allL noRow xs=true->aS (dh h []) ys vs)
 | [],ys,[],e,_=>by simp[F6]at e;subst e;exact⟨trivial,λ_=>trivial⟩
 | x :: l,ys,v :: vs,e,⟨c,r⟩=>by
   unfold F6 at e;split at e
   .rename_i y hy;split at e
    .rename_i m hm;cases e;obtain⟨h1,h2⟩:=QI aj hG hy c;obtain⟨h3,h4⟩:=yQ aj hG hm r;refine⟨⟨h1,h3⟩,λhh=>?_⟩
     simp only[allL,aB,bY]at hh;exact⟨h2 hh.1,h4 hh.2⟩
    .cases e
   .cases e
theorem D5{lb:Array Value}{suf:List Value} (hct:∀c,ct f=some c->∀(d:bU c.ps) (vs:List Value) (h':FH),h.le h'->(∀b o v,h' b o=some v->vis w b o=some v)->aI cx.gd h'->aS (dh h' []) (fC c.ps d) vs->c.pre d->Calls P f (vs++suf).toArray w (λen w'=>∃h'' β y,en=.returned y/\OK (Base.of w) h' (c.res d).1 h'' β w'/\jF h'' β (c.res d).2 y)) (aj:Sat N B h0 s h β w a) (hg:aI cx.gd h) (hG:vk s.gl.length G=true) (hd:kY N o.dst=true) (ho:o.op=.call c)
 {x:Operand}{xs:List Operand} (bQ:c.callee=.value x) (hx:gv s.gl G=true->a.eval x=.func (.func f) #[] lb) (hxs:c.args.map a.eval++lb=(xs.map a.eval++suf).toArray)
 (hf:∃fn,P.funcs[f]?=some fn/\fn.body.isSome=true/\(fn.name == "runtime.NumGoroutine")=false)
 (k:ji cx ct s G o.dst f xs K):fV P N B h0 h w a o (gv s.gl G) K:=by
 unfold ji at k;split at k
 .cases k
 rename_i cc hcc;split at k
 .cases k
 rename_i vs hvs;split at k
 .cases k
 rename_i bs hbs;split at k
 .cases k
 rename_i dd hdd;split at k
 .rename_i KR;obtain⟨T',fQ⟩:∃T',T'=(cc.res dd).1:=⟨_,rfl⟩;obtain⟨e,he0⟩:∃e,e=(cc.res dd).2:=⟨_,rfl⟩;rw[<-fQ,<-he0]at k KR;have gT:∀p∈KQ G (aQ s.T) s.T T',vk s.gl.length p.1=true:=by
   intro p hp;rw[Ci,FI]at hp;rcases hp with hp | hp
   .exact aj.gT p hp
   .simp only[List.mem_map]at hp;obtain⟨r,_,rfl⟩:=hp;exact hG
  have hlen:=lu aj;intro Nx Q next
  cases hgv:gv s.gl G with
  | false=>
    rw[if_neg (by simp)]
    refine next _ h (β++List.replicate T'.length .no) _ _ k.2 (FH.le.refl h) (λ_=>mD.refl w) ?_
    have ok:OK B h0 (eff s.gl (KQ G (aQ s.T) s.T T')) h (β++List.replicate T'.length .no) w:=by
     rw[Ci,lX,wH hgv];exact aj.ok.QF _
    exact(aj.mem ok (FH.le.refl h) (Ext.append _ _) gT).put (dR hd) hG (λhh=>by simp only at hh;rw[hgv]at hh;cases hh) λ_=>rfl
  | true=>
    rw[if_pos rfl];obtain⟨fn,hfn,hbody,hname⟩:=hf;have hav:=oK aj hg hgv hvs;have aF:=fJ k.1 hgv;have exec:(execOp a.eval o).run P w=.ok (.enter f (c.args.map a.eval++lb)) w:=by
     simp only[execOp,ho,resolve,bQ,hx hgv,Deferred.ofValue,invoke,Sem.run_bind,Sem.run_pure,Result.andThen_ok,callFunc,run_program,ahV,Array.append_empty,hfn,hname];simp[hbody];cases hb:fn.body with
     | none=>rw[hb]at hbody;cases hbody
     | some _=>simp
    have hargs:=hxs;unfold Oper.wp;rw[exec];simp only[Oper.upon];rw[hargs];obtain⟨b1,b2⟩:=yQ aj hgv hbs hav;have fin:∀{hb:FH}{h':FH}{β':List RV}{w':World}{y:Value}{hn:FH},OK (Base.of w) hb T' h' β' w'->h.le hn ->
     (∀(j:Nat) r v,T'[j]?=some r->Holds h' β' w' r v->Holds hn (β++β') w' (r.sh β.length) v)->(∀b o v,hn b o=some v->vis w' b o=some v) ->
     (∀b o v,hn b o=some v->h b o=some v\/(w.heap.size<=b/\h' b o=some v))->jF hn (β++β') (e.sh β.length) y->Nx (a.put o.dst y) w':=by
     intro hb h' β' w' y hn ok' le conv hnw hng he;have ok:=aj.ok.call ok' le conv hnw hng;refine next _ hn (β++β') _ _ k.2 le (λ_=>mD.of_below (Bw.bel ok'.below)) ?_
     have okT:OK B h0 (eff s.gl (KQ G (aQ s.T) s.T T')) hn (β++β') w':=by
      rw[Ci,lX,yO hgv,<-hlen];exact ok
     rw[hlen]at he;exact(aj.mem okT le (Ext.append _ _) gT).put (dR hd) hG (λ_=>he) λhh=>by simp only at hh;rw[hgv]at hh;cases hh
    have keep:∀{hb h':FH}{β':List RV}{w':World},OK (Base.of w) hb T' h' β' w'->∀b o v,h b o=some v->vis w' b o=some v:=by
     intro hb h' β' w' ok' b o v hh;have h1:=aj.ok.hw b o v hh;exact(jR ((Bw.bel ok'.below).block b (oz h1))).trans h1
    cases hnr:allL noRow vs with
    | true=>
      refine(hct cc hcc dd _ h (FH.le.refl h) aj.ok.hw hg (vJ hdd (b2 hnr)) aF).mono ?_;rintro en w' ⟨h',β',y,rfl,ok',he⟩;rw[<-fQ]at ok';rw[<-he0]at he;refine fin ok' ok'.hle (λj r v _ hh=>hh.shift) ok'.hw (λb o v hh=>?_) he.shift
      rcases ok'.hg b o v hh with h1 | h1
      .exact .inl h1
      .exact .inr ⟨h1,hh⟩
    | false=>
      rw[hnr]at KR;simp only[orB,aB,bY]at KR;refine(hct cc hcc dd _ (FH.all w) aj.ok.hw (λ_ _ _ hh=>hh) (hg.mono aj.ok.hw) (vJ hdd b1) aF).mono ?_
      rintro en w' ⟨h',β',y,rfl,ok',he⟩;rw[<-fQ]at ok';rw[<-he0]at he;refine fin ok' (FH.le.refl h) (λj r v hj hh=>(hh.flat ?_).shift) (keep ok') (λb o v hh=>.inl hh) (he.flat KR.1).shift
      have:∀{l:List ay}{j:Nat}{r:ay},allL vK l=true->l[j]?=some r->vK r=true:=by
       intro l
       induction l with
       | nil=>intro j r _ e;simp at e
       | cons x l ih=>
         intro j r hh e;simp only[allL,aB,bY]at hh;cases j with
         | zero=>simp at e;subst e;exact hh.1
         | succ j=>exact ih hh.2 (by simpa using e)
      exact this KR.2 hj
 .cases k
theorem xE{suf:List Value} (hct:∀c,ct f=some c->∀(d:bU c.ps) (vs:List Value) (h':FH),h.le h'->(∀b o v,h' b o=some v->vis w b o=some v)->aI cx.gd h'->aS (dh h' []) (fC c.ps d) vs->c.pre d->Calls P f (vs++suf).toArray w (λen w'=>∃h'' β y,en=.returned y/\OK (Base.of w) h' (c.res d).1 h'' β w'/\jF h'' β (c.res d).2 y)) (aj:Sat N B h0 s h β w a) (hg:aI cx.gd h) (hG:vk s.gl.length G=true) (hd:kY N o.dst=true) (ho:o.op=.call c)
 {x:Operand}{xs:List Operand} (bQ:c.callee=.value x) (hx:gv s.gl G=true->a.eval x=.func (.func f) #[] #[]) (hxs:c.args.map a.eval=(xs.map a.eval++suf).toArray)
 (hf:∃fn,P.funcs[f]?=some fn/\fn.body.isSome=true/\(fn.name == "runtime.NumGoroutine")=false)
 (k:ji cx ct s G o.dst f xs K):fV P N B h0 h w a o (gv s.gl G) K:=
 D5 hct aj hg hG hd ho bQ hx (by rw[Array.append_empty];exact hxs) hf k
theorem rV{suf:List Value} (hct:∀f c,ct f=some c->CTX P cx.gd f suf c) (aj:Sat N B h0 s h β w a) (hg:aI cx.gd h) (hG:vk s.gl.length G=true) (hd:kY N o.dst=true) (ho:o.op=.call c)
 {x:Operand}{xs:List Operand} (bQ:c.callee=.value x) (hx:gv s.gl G=true->a.eval x=.func (.func f) #[] #[]) (hxs:c.args.map a.eval=(xs.map a.eval++suf).toArray)
 (hf:∃fn,P.funcs[f]?=some fn/\fn.body.isSome=true/\(fn.name == "runtime.NumGoroutine")=false)
 (k:ji cx ct s G o.dst f xs K):fV P N B h0 h w a o (gv s.gl G) K:=
 xE (λc e d vs h' _ hw hg' ha hp=>hct f c e d vs h' w hw hg' ha hp) aj hg hG hd ho bQ hx hxs hf k
theorem UE(hct:∀f c,ct f=some c->II P cx.gd f c) (aj:Sat N B h0 s h β w a) (hg:aI cx.gd h) (hG:vk s.gl.length G=true) (hd:kY N o.dst=true) (ho:o.op=.call c) (bQ:c.callee=.value (.func f))
 (hf:∃fn,P.funcs[f]?=some fn/\fn.body.isSome=true/\(fn.name == "runtime.NumGoroutine")=false)
 (k:ji cx ct s G o.dst f (tl c.args) K):fV P N B h0 h w a o (gv s.gl G) K:=
 rV (suf:=[]) (λf c e=>(hct f c e).x) aj hg hG hd ho bQ (λ_=>rfl) (by cases c.args;simp) hf k
end
section
variable {P:Program}{ops:Array Oper}{md:Region.Mode}{sf:Nat->Bool}
abbrev IK:Exit->Act->World->Prop:=λ_ _ _=>False
def zU(P:Program) (ops:Array Oper) (i:Nat) (K:Act->World->Prop) (a:Act) (w:World):Prop:=
 match ops[i]? with
 | none=>K a w
 | some o=>if Region.wanted o (yielded ops a.tmps)=true then o.wp P a w K IK else K (a.put o.dst undef) w
theorem xG{Q:Exit->Act->World->Prop} (h:LetsOut IK):LetsOut Q:=by
 unfold LetsOut at *;obtain⟨_,_,hh⟩:=h;exact False.elim hh
theorem KT{K K':Act->World->Prop} (h:∀a w,K a w->K' a w) (hh:zU P ops i K a w):zU P ops i K' a w:=by
 unfold zU at *;split
 .exact h _ _ (by simpa[*]using hh)
 .rename_i o ho;simp only[ho]at hh;split
  .rename_i hw;rw[if_pos hw]at hh;exact Oper.wp_mono h hh
  .rename_i hw;rw[if_neg hw]at hh;exact h _ _ hh
abbrev xH(ops:Array Oper) (i:Nat):Bool:=match ops[i]? with
 | some o=>quietly o.op
 | none=>true
def anyI(P:Program) (md:Region.Mode) (ops:Array Oper) (sf:Nat->Bool) (R:Act->World->Prop):Nat->Array Bool->Act->World->Prop
 | 0,listed,a,w=>Region.ready md ops listed=[]/\R a w
 | fuel+1,listed,a,w=>(Region.ready md ops listed=[]->R a w) /\
   ∀i∈Region.ready md ops listed,zU P ops i (λa' w'=>(sf i=true->mD w w')/\anyI P md ops sf R fuel (listed.setIfInBounds i true) a' w') a w
def YI(P:Program) (ops:Array Oper) (ld:Bool) (w0:World) (o:Oper) (v:Value) (a:Act):Prop:=
 (Region.wanted o (yielded ops a.tmps)=true/\∀w,(ld=true->mD w0 w)->(execOp a.eval o).run P w=.ok (.value v) w) \/
 (Region.wanted o (yielded ops a.tmps)=false/\v=undef)
theorem YI.of_same{ld:Bool}{w0:World}{a':Act} (hy:YI P ops ld w0 o v a) (he:execOp a'.eval o=execOp a.eval o)
 (hw:Region.wanted o (yielded ops a'.tmps)=Region.wanted o (yielded ops a.tmps)):YI P ops ld w0 o v a':=by
 unfold YI at *;rw[he,hw];exact hy
theorem YI.zU{ld:Bool}{w0:World}{i:Nat}{o:Oper}{v:Value}{a:Act} (hi:ops[i]?=some o) (hy:YI P ops ld w0 o v a){K:Act->World->Prop}{w:World} (hg:ld=true->mD w0 w)
 (h:K (a.put o.dst v) w):zU P ops i K a w:=by
 unfold Go.jf.zU;simp only[hi];rcases hy with⟨hw,hv⟩ | ⟨hw,rfl⟩
 .rw[if_pos hw];unfold Oper.wp;rw[hv w hg];exact h
 .rw[if_neg (by rw[hw];simp)];exact h
theorem acW{ld:Bool}{w0:World}{j:Nat}{oi oj:Oper} (hj:ops[j]?=some oj) (hap:oi.apart ops oj=true)
 (hsi:∀cs b,oi.op≠.select cs b) (hsj:∀cs b,oj.op≠.select cs b){K:Act->World->Prop}
 (hy:YI P ops ld w0 oi v a) (h:zU P ops j K (a.put oi.dst v) w):
 zU P ops j (λa' w'=>YI P ops ld w0 oi v a'/\K (a'.put oi.dst v) w') a w:=by
 obtain⟨h1,h2,h3⟩:=Oper.apart_spec hap;have keep:∀(a:Act),YI P ops ld w0 oi v a->∀u,YI P ops ld w0 oi v (a.put oj.dst u):=λa hy u=>
  hy.of_same (execOp_put oi hsi a oj.dst u h3) (wanted_put oi a oj.dst u h3)
 have keepD:∀d,YI P ops ld w0 oi v { a with defers:=d :: a.defers }:=λd=>hy.of_same rfl rfl
 unfold zU at *;simp only[hj]at *;rw[wanted_put oj a oi.dst v h1]at h;split
 .rename_i hw;rw[if_pos hw]at h;unfold Oper.wp at *;rw[execOp_put oj hsj a oi.dst v h1]at h;generalize (execOp a.eval oj).run P w=r at *;cases r with
  | ok n w'=>
    cases n<;>simp only[Oper.upon]at h ⊢
    case value u=>exact⟨keep a hy u,by rw[<-Act.put_comm a v u h2];exact h⟩
    case skip=>exact⟨keep a hy _,by rw[<-Act.put_comm a v undef h2];exact h⟩
    case defer d=>
     refine⟨(keep _ (keepD d) _),?_⟩;rw[<-Act.put_comm _ v undef h2,<-Act.put_defers];exact h
    case enter f args=>
     refine h.mono λe w'' he=>?_
     cases e with
     | returned u=>exact⟨keep a hy u,by rw[<-Act.put_comm a v u h2];exact he⟩
     | panicked c=>exact he
     | outgrown=>exact he
    case row r args=>
     refine Rows.mono h λu w'' he=>?_
     exact⟨keep a hy u,by rw[<-Act.put_comm a v u h2];exact he⟩
    all_goals exact h
  | halt x w'=>cases x<;>simp only[Oper.upon]at h ⊢<;>exact h
 .rename_i hw;rw[if_neg hw]at h;exact⟨keep a hy _,by rw[<-Act.put_comm a v undef h2];exact h⟩
def Waits(md:Region.Mode) (ops:Array Oper) (listed:Array Bool) (i:Nat) (bl:List Nat):Prop:=
 ∀j∈bl,listed.getD j true=false/\∃o,ops[j]?=some o/\∃e∈o.after,Region.binds md e=true/\(e.on=i\/e.on∈bl)
theorem vM{listed:Array Bool} (h:listed.getD i true=false):listed.getD i false=false:=by
 rcases V7 i listed.size with h' | h'
 .simp[h']at h ⊢;exact h
 .simp[acw h']at h
theorem GH{listed:Array Bool}{j:Nat}{bl:List Nat} (hi:listed.getD i true=false) (hw:Waits md ops listed i bl) (hj:j∈bl):j∉Region.ready md ops listed:=by
 intro hr;obtain⟨_,oj,hoj,hall⟩:=mem_ready.1 hr;obtain⟨_,o,ho,e,he,hb,hh⟩:=hw j hj;rw[hoj]at ho;cases ho;have h1:=hall e he hb;rcases hh with hh | hh
 .rw[hh,vM hi]at h1;cases h1
 .rw[vM (hw _ hh).1]at h1;cases h1
theorem D6{R:Act->World->Prop}{ld:Bool}{w0:World}{oi:Oper}{bl:List Nat} (hi:ops[i]?=some oi) (hsel:∀(j:Nat) (o:Oper) cs b,ops[j]?=some o->o.op≠.select cs b)
 (hq:sf i=true):
 ∀(fuel:Nat) (listed:Array Bool) (a:Act) (w:World),
   (∀j oj,ops[j]?=some oj->j≠i->listed.getD j true=false->(∀e∈oj.after,Region.binds md e=true->e.on≠i)->oi.apart ops oj=true) ->
   (ld=true->Waits md ops listed i bl/\∀j,j≠i->listed.getD j true=false->sf j=false->j∈bl) ->
   i∈Region.ready md ops listed->YI P ops ld w0 oi v a->(ld=true->mD w0 w) ->
   anyI P md ops sf R fuel (listed.setIfInBounds i true) (a.put oi.dst v) w->anyI P md ops sf R (fuel+1) listed a w:=by
 intro fuel
 induction fuel with
 | zero=>
   intro listed a w _ _ hr hy hg H;refine⟨λh=>(by rw[h]at hr;cases hr),λj hj=>?_⟩
   by_cases hji:j=i
   .subst hji;exact hy.zU hi hg ⟨λ_=>mD.refl w,H⟩
   .have:=ready_mono hj hji;rw[H.1]at this;cases this
 | succ fuel ih=>
   intro listed a w hfree hbl hr hy hg H;refine⟨λh=>(by rw[h]at hr;cases hr),λj hj=>?_⟩
   by_cases hji:j=i
   .subst hji;exact hy.zU hi hg ⟨λ_=>mD.refl w,H⟩
   .have h1:=H.2 j (ready_mono hj hji);obtain⟨hjun,oj,hoj,hall⟩:=mem_ready.1 hj;have WX:=(mem_ready.1 hr).1;have hnot:∀e∈oj.after,Region.binds md e=true->e.on≠i:=λe he hb heq=>by
     have h1:=hall e he hb;rw[heq,vM WX]at h1;cases h1
    have h2:=acW hoj (hfree j oj hoj hji hjun hnot) (λcs b=>hsel i oi cs b hi) (λcs b=>hsel j oj cs b hoj) hy h1
    have hfree':∀k ok,ops[k]?=some ok->k≠i->(listed.setIfInBounds j true).getD k true=false ->
     (∀e∈ok.after,Region.binds md e=true->e.on≠i)->oi.apart ops ok=true:=λk ok hk hki hun hno=>by
     refine hfree k ok hk hki ?_ hno
     by_cases gU:j=k
     .subst gU;exact hjun
     .rw[getD_set_ne true gU]at hun;exact hun
    have WY:ld=true->j∉bl:=λe hm=>GH WX (hbl e).1 hm hj
    have hsj:ld=true->sf j=true:=λe=>by
     cases hs:sf j with
     | true=>rfl
     | false=>exact absurd ((hbl e).2 j hji hjun hs) (WY e)
    have ah9:ld=true->Waits md ops (listed.setIfInBounds j true) i bl/\∀k,k≠i->(listed.setIfInBounds j true).getD k true=false->sf k=false->k∈bl:=λe=>by
     refine⟨λk hk=>?_,λk hki hun hs=>?_⟩
     .obtain⟨g1,g2⟩:=(hbl e).1 k hk;refine⟨?_,g2⟩;rw[getD_set_ne true (λhh=>WY e (by rw[hh];exact hk))];exact g1
     .refine(hbl e).2 k hki ?_ hs
      by_cases gU:j=k
      .subst gU;exact hjun
      .rw[getD_set_ne true gU]at hun;exact hun
    refine KT (λa' w' h3=>⟨h3.2.1,ih (listed.setIfInBounds j true) a' w' hfree' ah9 (ready_mono hr (Ne.symm hji)) h3.1 (λe=>(hg e).trans (h3.2.1 (hsj e))) ?_⟩) h2
    rw[Array.setIfInBounds_comm _ _ hji];exact h3.2.2
end
abbrev GI(i k n:Nat):Nat:=match Nat.beq n i with
 | true=>k
 | false=>match Nat.beq n k with
   | true=>i
   | false=>n
theorem WZ(h:¬n=i):Nat.beq n i=false:=by
 cases hb:Nat.beq n i with
 | true=>exact absurd (iC hb) h
 | false=>rfl
theorem Ov(i k n:Nat):GI i k n=if n=i then k else if n=k then i else n:=by
 unfold GI
 by_cases h:n=i
 .subst h;simp
 .rw[if_neg h,WZ h]
  by_cases h2:n=k
  .subst h2;simp
  .rw[if_neg h2,WZ h2]
theorem yR(i k n:Nat):GI i k (GI i k n)=n:=by
 simp only[Ov];split<;>split<;>simp_all<;>omega
abbrev SC.sw(i k:Nat):SC->SC
 | .own a o=>.own (GI i k a) o
 | .row a=>.row (GI i k a)
 | .jS a j sz o=>.jS (GI i k a) j sz o
 | .sub a j=>.sub (GI i k a) j
 | .lQ a j m sz o=>.lQ (GI i k a) j m sz o
 | x=>x
abbrev SV.sw(i k:Nat):SV->SV
 | .c x=>.c (x.sw i k)
 | .agg xs=>.agg (fE (SC.sw i k) xs)
 | v=>v
abbrev aZ.sw(i k:Nat):aZ->aZ
 | .one x=>.one (x.sw i k)
 | .gV xs=>.gV (fE (SV.sw i k) xs)
abbrev ay.sw(i k:Nat):ay->ay
 | .blk t cs=>.blk t (fE (SC.sw i k) cs)
 | r=>r
def vN(i k:Nat) (β β':List RV):Prop:=∀j,β'[GI i k j]?=β[j]?
theorem dY.sw{h:FH}{β β':List RV}{i k:Nat} (sb:vN i k β β'):∀{x:SC}{y:Value},dY h β x y->dY h β' (x.sw i k) y
 | .v _,_,e=>e
 | .sl _ _,_,e=>e
 | .fp _ _,_,e=>e
 | .one _ _,_,e=>e
 | .own a o,_,⟨b,e,e'⟩=>⟨b,by rw[sb];exact e,e'⟩
 | .row a,y,⟨v,e,e'⟩=>⟨v,by rw[sb];exact e,e'⟩
 | .sub _ _,_,⟨v,us,e,e'⟩=>⟨v,us,by rw[sb];exact e,e'⟩
 | .lQ _ _ _ _ _,_,⟨v,us,g,e,e'⟩=>⟨v,us,g,by rw[sb];exact e,e'⟩
 | .jS _ _ _ _,_,⟨v,g,e,e'⟩=>⟨v,g,by rw[sb];exact e,e'⟩
 | .abs _,_,e=>e
 | .junk,_,_=>trivial
theorem vO{α β:Type}{R R':α->β->Prop}{f:α->α} (hR:∀a b,R a b->R' (f a) b):∀{l:List α}{m:List β},aS R l m->aS R' (fE f l) m
 | [],[],_=>trivial
 | _ :: _,_ :: _,⟨a,b⟩=>⟨hR _ _ a,vO hR b⟩
theorem dh.sw{h:FH}{β β':List RV}{i k:Nat} (sb:vN i k β β'):∀{x:SV}{y:Value},dh h β x y->dh h β' (x.sw i k) y
 | .c _,_,⟨e,o⟩=>⟨e.sw sb,o⟩
 | .agg _,_,⟨ys,e,a⟩=>⟨ys,e,vO (λ_ _ ⟨p,q⟩=>⟨p.sw sb,q⟩) a⟩
 | .dat _ _,_,e=>e
 | .und,_,e=>e
theorem jF.sw{h:FH}{β β':List RV}{i k:Nat} (sb:vN i k β β'):∀{x:aZ}{y:Value},jF h β x y->jF h β' (x.sw i k) y
 | .one _,_,e=>dh.sw sb e
 | .gV _,_,⟨ys,e,a⟩=>⟨ys,e,vO (λ_ _ p=>dh.sw sb p) a⟩
theorem Holds.sw{h:FH}{β β':List RV}{w:World}{i k:Nat} (sb:vN i k β β'):∀{r:ay}{v:RV},Holds h β w r v->Holds h β' w (r.sw i k) v
 | .blk _ _,.blk _,⟨ys,e,a⟩=>⟨ys,e,vO (λ_ _ ⟨p,q⟩=>⟨p.sw sb,q⟩) a⟩
 | .row _ _ _,.row _,e=>e
 | .obj _ _ _,.blk _,e=>e
 | .deep _ _ _ _ _ _ _ _,.deep _ _,e=>e
 | .mp _ _ _,.row _,e=>e
 | .NI _ _ _ _,.deep _ _,e=>e
 | .it _ _ _ _,.blk _,e=>e
 | .Kv _ _ _ _,.row _,e=>e
 | .Gp _ _ _ _,.deep _ _,e=>e
 | .gone,_,_=>trivial
theorem ay.IL{k:Nat} (r:ay):(r.sw i k).live=r.live:=by cases r<;>rfl
theorem OK.sw{B:Base}{h0:FH}{T T':List ay}{h:FH}{β β':List RV}{w:World}{i k:Nat} (ok:OK B h0 T h β w) (sb:vN i k β β') (hl:β'.length=T'.length)
 (sT:∀j,T'[GI i k j]?=(T[j]?).map (ay.sw i k)):OK B h0 T' h β' w:=by
 have gT:∀{j:Nat}{r:ay},T'[j]?=some r->∃r0,T[GI i k j]?=some r0/\r=r0.sw i k:=by
  intro j r e;have:=sT (GI i k j);rw[yR,e]at this;cases hT:T[GI i k j]? with
  | none=>rw[hT]at this;cases this
  | some r0=>rw[hT]at this;exact⟨r0,rfl,by simpa using this⟩
 have gB:∀{j:Nat}{v:RV},β'[j]?=some v->β[GI i k j]?=some v:=by
  intro j v e;have:=sb (GI i k j);rw[yR,e]at this;exact this.symm
 refine⟨ok.below,ok.dr,hl,λj r v e1 e2=>?_,λj r v b e1 l1 e2 e3=>?_,λj j' r r' u v b e1 l1 e2 l2 e3 e4 e5 e6=>?_,ok.hle,ok.hw,ok.hg,ok.kn⟩
 .obtain⟨r0,f1,rfl⟩:=gT e1;exact(ok.holds _ _ _ f1 (gB e2)).sw sb
 .obtain⟨r0,f1,rfl⟩:=gT e1;exact ok.own _ _ _ _ f1 (by rw[<-ay.IL];exact l1) (gB e2) e3
 .obtain⟨r0,f1,rfl⟩:=gT e1;obtain⟨r1,f2,rfl⟩:=gT e2;have:=ok.inj _ _ _ _ _ _ _ f1 (by rw[<-ay.IL];exact l1) f2 (by rw[<-ay.IL];exact l2) (gB e3) (gB e4) e5 e6
  have h2:=rJ (GI i k) this
  rwa [yR,yR]at h2
abbrev swE(i k:Nat):List (Nat×Gd×aZ)->List (Nat×Gd×aZ)
 | []=>[]
 | (t,g,e) :: l=>(t,g,e.sw i k) :: swE i k l
abbrev swT(i k:Nat) (T:List (Gd×ay)):List (Gd×ay):=match eF T i with
 | some a=>match eF T k with
   | some b=>fE (λp=>(p.1,p.2.sw i k)) (cZ (cZ T i b) k a)
   | none=>T
 | none=>T
abbrev swS(i k:Nat) (s:St):St:={ s with T:=swT i k s.T,env:=swE i k s.env }
theorem IQ{i k:Nat}:∀{l:List (Nat×Gd×aZ)}{t:Nat},iF (swE i k l) t=(iF l t).map λp=>(p.1,p.2.sw i k)
 | [],_=>rfl
 | (u,g,e) :: l,t=>by
   rw[show swE i k ((u,g,e) :: l)=(u,g,e.sw i k) :: swE i k l from rfl,bC,bC]
   split
   .rfl
   .exact IQ
theorem D7{α β:Type} (f:α->β):∀l:List α,fE f l=l.map f
 | []=>rfl
 | _ :: l=>by simp[fE,D7 f l]
theorem QJ{k:Nat}{T:List (Gd×ay)} (hi:i < T.length) (hk:k < T.length) (j:Nat):(swT i k T)[GI i k j]?=(T[j]?).map λp=>(p.1,p.2.sw i k):=by
 unfold swT;rw[eG,lN hi];simp only;rw[eG,lN hk];simp only;rw[D7,Dj,eY,eY]
 congr 1
 rw[Ov]
 by_cases h1:j=i
 .subst h1;rw[if_pos rfl,qA (by simpa using hk),lN hi]
 .rw[if_neg h1]
  by_cases h2:j=k
  .subst h2;rw[if_pos rfl,mX (by omega),qA hi,lN hk]
  .rw[if_neg h2,mX (by omega),mX (by omega)]
theorem acX{k:Nat}{T:List (Gd×ay)}:(swT i k T).length=T.length:=by
 unfold swT;split
 .split
  .rw[D7,eY,eY];simp
  .rfl
 .rfl
theorem Ox{k:Nat} (hi:i < β.length) (hk:k < β.length):∃β',β'.length=β.length/\vN i k β β':=by
 refine⟨(β.set i β[k]).set k β[i],by simp,λj=>?_⟩
 rw[Ov]
 by_cases h1:j=i
 .subst h1;rw[if_pos rfl,qA (by simpa using hk),lN hi]
 .rw[if_neg h1]
  by_cases h2:j=k
  .subst h2;rw[if_pos rfl,mX (by omega),qA hi,lN hk]
  .rw[if_neg h2,mX (by omega),mX (by omega)]
theorem Sat.sw{N:Nat}{B:Base}{h0:FH}{s:St}{h:FH}{β:List RV}{w:World}{a:Act} (aj:Sat N B h0 s h β w a){i k:Nat} (hi:i < s.T.length) (hk:k < s.T.length):
 ∃β',Sat N B h0 (swS i k s) h β' w a:=by
 have hlen:β.length=s.T.length:=by rw[aj.ok.len,iK]
 obtain⟨β',hl,sb⟩:=Ox (β:=β) (i:=i) (k:=k) (by omega) (by omega)
 refine⟨β',?_,?_,?_,aj.defers,aj.sz,?_,?_⟩
 .refine aj.ok.sw sb (by rw[hl,iK,acX,hlen]) λj=>?_
  rw[jB,jB,QJ hi hk];cases s.T[j]? with
  | none=>rfl
  | some p=>
    simp only[VO];cases gv s.gl p.1<;>rfl
 .intro t G e ht;rw[show(swS i k s).env=swE i k s.env from rfl,IQ]at ht
  cases hl:iF s.env t with
  | none=>rw[hl]at ht;cases ht
  | some p=>
    rw[hl]at ht;cases ht;obtain⟨z,q1,q2,q3⟩:=aj.env t p.1 p.2 hl;exact⟨z,q1,λhh=>(q2 hh).sw sb,q3⟩
 .intro d j hd;obtain⟨G,b,q1,q2⟩:=aj.gs d j hd;exact⟨G,b,by rw[show(swS i k s).env=swE i k s.env from rfl,IQ,q1];rfl,q2⟩
 .intro t G e ht;rw[show(swS i k s).env=swE i k s.env from rfl,IQ]at ht
  cases hl:iF s.env t with
  | none=>rw[hl]at ht;cases ht
  | some p=>
    rw[hl]at ht;cases ht;exact aj.gb t p.1 p.2 hl
 .intro p hp;obtain⟨j,hj⟩:=yu hp;have h1:=QJ hi hk (GI i k j);rw[yR]at h1;rw[show(swS i k s).T=swT i k s.T from rfl,h1]at hj
  cases hT:s.T[GI i k j]? with
  | none=>rw[hT]at hj;cases hj
  | some q=>
    rw[hT]at hj;cases hj;exact aj.gT q (iy hT)
abbrev nI:List (Nat×Nat)->St->St
 | [],s=>s
 | (i,k) :: l,s=>match dD (Nat.ble (i+1) (aQ s.T)) (Nat.ble (k+1) (aQ s.T)) with
   | true=>nI l (swS i k s)
   | false=>s
theorem Sat.nI{N:Nat}{B:Base}{h0 h:FH}{w:World}{a:Act}:∀(l:List (Nat×Nat)){s:St}{β:List RV},Sat N B h0 s h β w a->∃β',Sat N B h0 (nI l s) h β' w a
 | [],s,β,aj=>⟨β,aj⟩
 | (i,k) :: l,s,β,aj=>by
   unfold Go.jf.nI;split
   .rename_i hc;rw[aB,bY,bF]at hc;have h1:=qm hc.1;have h2:=qm hc.2;obtain⟨β',aW⟩:=aj.sw (i:=i) (k:=k) (by omega) (by omega)
    exact Sat.nI l aW
   .exact⟨β,aj⟩
inductive Loc where
 | slot (t:Nat)
 | cell (i c:Nat)
abbrev ahd:SC->Option Nat
 | .own i _=>some i
 | .row i=>some i
 | _=>none
abbrev ao8(s:St):Loc->Option Nat
 | .slot t=>match iF s.env t with
   | some ([],.one (.c x))=>ahd x
   | _=>none
 | .cell i c=>match eF s.T i with
   | some ([],.blk _ cs)=>match eF cs c with
     | some x=>ahd x
     | none=>none
   | _=>none
abbrev tV:List (Nat×Loc)->St->St
 | [],s=>s
 | (k,loc) :: l,s=>match ao8 s loc with
   | none=>tV l s
   | some i=>match dD (Nat.ble (i+1) (aQ s.T)) (Nat.ble (k+1) (aQ s.T)) with
     | true=>tV l (swS i k s)
     | false=>s
theorem Sat.tV{N:Nat}{B:Base}{h0 h:FH}{w:World}{a:Act}:∀(l:List (Nat×Loc)){s:St}{β:List RV},Sat N B h0 s h β w a->∃β',Sat N B h0 (tV l s) h β' w a
 | [],s,β,aj=>⟨β,aj⟩
 | (k,loc) :: l,s,β,aj=>by
   unfold Go.jf.tV;split
   .exact Sat.tV l aj
   .rename_i i _;split
    .rename_i hc;rw[aB,bY,bF]at hc;have h1:=qm hc.1;have h2:=qm hc.2;obtain⟨β',aW⟩:=aj.sw (i:=i) (k:=k) (by omega) (by omega)
     exact Sat.tV l aW
    .exact⟨β,aj⟩
structure IP where
 sh:Sh
 ps:List Sh
 pre:List sh.den->bU ps->Prop
 res:List sh.den->bU ps->List sh.den
 back:Bool
def UF(P:Program) (gd:Nat->Option (Sigma Sh.den)) (f:FuncId) (ip:IP):Prop:=
 ∀(t:TypeId) (l:List ip.sh.den) (d:bU ip.ps) (v:Value) (vs:List Value) (h:FH) (w:World),(∀b o u,h b o=some u->vis w b o=some u)->aI gd h ->
   Holds h [] w (.row t ip.sh l) (.row v)->(∀b,aA v=some b->∀o,h b o=none)->aS (dh h []) (fC ip.ps d) vs->ip.pre l d ->
   Calls P f (v :: vs).toArray w (λen w'=>∃v' y,en=.returned y/\Gb w w' (aA v)/\(∀b,aA v'=some b->aA v=some b\/(w.heap.size<=b/\b < w'.heap.size)) /\
    Holds h [] w' (.row t ip.sh (ip.res l d)) (.row v')/\(ip.back=true->y=v')/\(ip.back=false->y=.tuple #[]/\v'=v))
abbrev ipK(cx:Cx) (ip:IP) (s:St) (d:Option Nat) (args:List Operand) (K:St->Prop):Prop:=match args with
 | []=>False
 | x :: r=>match bM cx s [] x with
   | some (.one (.c (.row i)))=>match eF s.T i with
     | some ([],.row t sh l)=>match jC (.sl sh) l (.sl ip.sh) with
       | none=>False
       | some l=>match qQ cx s [] r with
         | none=>False
         | some vs=>match allL noRow vs with
           | false=>False
           | true=>match F6 s [] vs with
             | none=>False
             | some bs=>match xC ip.ps bs with
               | none=>False
               | some dd=>ip.pre l dd/\(match ip.back with
                 | false=>K ({ s with T:=cZ s.T i ([],.row t ip.sh (ip.res l dd)) }.put d [] (.gV []))
                 | true=>K ({ s with T:=cZ (KO i s.T) i ([],.row t ip.sh (ip.res l dd)),env:=tC i s.env }.put d [] (.one (.c (.row i)))))
     | _=>False
   | _=>False
def Bj(P:Program) (N:Nat) (B:Base) (h0 h:FH) (w:World) (a:Act) (o:Oper) (wanted:Bool) (K:St->Prop):Prop:=
 ∀(Nx:Act->World->Prop) (Q:Exit->Act->World->Prop),
   (∀s' h' β' w' v,K s'->h.le h'->Sat N B h0 s' h' β' w' (a.put o.dst v)->Nx (a.put o.dst v) w') ->
   if wanted=true then o.wp P a w Nx Q else Nx (a.put o.dst undef) w
theorem fV.weak{N:Nat}{b:Bool}{K:St->Prop} (k:fV P N B h0 h w a o b K):Bj P N B h0 h w a o b K:=
 λNx Q next=>k Nx Q λs' h' β' w' v k' le _ aj=>next s' h' β' w' v k' le aj
section
variable {cx:Cx}{P:Program}{N:Nat}{B:Base}{h0:FH}{s:St}{h:FH}{β:List RV}{w:World}{a:Act}{o:Oper}{K:St->Prop}
theorem W9(aj:Sat N B h0 s h β w a){x x':ay}{v:RV} (hT:eF s.T r=some ([],x)) (hl:x.live=true) (hu:β[r]?=some u)
 (hg:Gb w w' u.block) (hv:∀b,v.block=some b->u.block=some b\/(w.heap.size<=b/\b < w'.heap.size)) (hvs:∀b,¬v.sub b:=by exact λ_ h=>h) (hold:Holds h (β.set r v) w' x' v):
 Sat N B h0 { s with T:=cZ (KO r s.T) r ([],x'),env:=tC r s.env } h (β.set r v) w' a:=by
 have tr:gv s.gl []=true:=rfl;have fQ:=bG hT tr;have okj:=aj.ok.jk r;have hTj:((eff s.gl s.T).map (jkR r))[r]?=some (jkR r x):=by rw[Dj,fQ];rfl
 have ok:OK B h0 (eff s.gl (cZ (KO r s.T) r ([],x'))) h (β.set r v) w':=by
  rw[fP,Oo];refine okj.upd hTj (by rw[uG];exact hl) hu hg (λk e=>.inl e) (λb hb=>hb.elim (λq=>(hv b q).imp .inl id) λq=>(hvs b q).elim) (.inr λj rj _ ej=>?_) hold
  rw[Dj]at ej;cases hj:(eff s.gl s.T)[j]? with
  | none=>rw[hj]at ej;cases ej
  | some q=>rw[hj]at ej;cases ej;exact KP r q
 refine⟨ok,?_,?_,aj.defers,aj.sz,?_,?_⟩
 .intro t G e ht;obtain⟨e0,h1,rfl⟩:=DX r ht;obtain⟨z,q1,q2,q3⟩:=aj.env t G e0 h1;exact⟨z,q1,λhG=>(q2 hG).jk v,q3⟩
 .intro d i hi;obtain⟨G,b,q1,q2⟩:=aj.gs d i hi;exact⟨G,b,IE r q1,q2⟩
 .intro t G e ht;obtain⟨e0,h1,rfl⟩:=DX r ht;exact aj.gb t G e0 h1
 .intro p hp;simp only at hp;rw[eY]at hp;rcases Ic hp with hp | hp
  .have:∀{l:List (Gd×ay)},p∈KO r l->∃q∈l,q.1=p.1:=by
    intro l
    induction l with
    | nil=>intro hh;simp[KO]at hh
    | cons q l ih=>
      obtain⟨g,q⟩:=q;intro hh;simp only[KO,ni]at hh;rcases hh with rfl | hh
      .exact⟨(g,q),by simp,rfl⟩
      .obtain⟨q',h1,h2⟩:=ih hh;exact⟨q',by simp[h1],h2⟩
   obtain⟨q,h1,h2⟩:=this hp;rw[<-h2];exact aj.gT q h1
  .subst hp;rfl
theorem Holds.aib{s:Sh}{l:List s.den}{v:RV} (x:Holds h β w (.row t s l) v):Holds h β' w (.row t s l) v:=by
 cases v<;>exact x
theorem acY{ip:IP} (QK:UF P cx.gd f ip) (hf:∃fn,P.funcs[f]?=some fn/\fn.body.isSome=true/\(fn.name == "runtime.NumGoroutine")=false)
 (aj:Sat N B h0 s h β w a) (hg:aI cx.gd h) (hd:kY N o.dst=true) (ho:o.op=.call c) (bQ:c.callee=.value (.func f))
 (k:ipK cx ip s o.dst (tl c.args) K):Bj P N B h0 h w a o true K:=by
 have tr:gv s.gl []=true:=rfl;unfold ipK at k;split at k
 .cases k
 rename_i x r hargs0;split at k
 .rename_i i hx;split at k
  .rename_i t sh l0 hT;split at k
   .cases k
   rename_i l hl;split at k
   .cases k
   rename_i vs hvs;split at k
   .cases k
   rename_i hnr;split at k
   .cases k
   rename_i bs hbs;split at k
   .cases k
   rename_i dd hdd;obtain⟨aF,k⟩:=k;obtain⟨e1,e2⟩:=oI hl;subst e1;simp only at e2;subst e2;have cr:dh h β (.c (.row i)) (a.eval x):=aP aj hg tr hx;have hu:β[i]?=some (.row (a.eval x)):=aj.ok.row_of (bG hT tr) cr.1;have hold:=aj.ok.holds i _ _ (bG hT tr) hu;have hav:=oK aj hg tr hvs;obtain⟨_,b2⟩:=yQ aj tr hbs hav;intro Nx Q next
   rw[if_pos rfl];obtain⟨fn,hfn,hbody,hname⟩:=hf;have exec:(execOp a.eval o).run P w=.ok (.enter f (c.args.map a.eval)) w:=by
    simp only[execOp,ho,resolve,bQ,Act.eval,Deferred.ofValue,invoke,Sem.run_bind,Sem.run_pure,Result.andThen_ok,callFunc,run_program,hfn,hname];simp[hbody];cases hb:fn.body with
    | none=>rw[hb]at hbody;cases hbody
    | some _=>simp
   have hargs:(c.args.map a.eval)=(a.eval x :: r.map a.eval).toArray:=by
    have:c.args=(x :: r).toArray:=by
     cases hc:c.args with
     | mk q=>rw[hc]at hargs0;simp only[tl]at hargs0;rw[hargs0]
    rw[this];simp
   unfold Oper.wp;rw[exec];simp only[Oper.upon];rw[hargs];refine(QK t l0 dd (a.eval x) _ h w aj.ok.hw hg hold.aib (λb hb=>(aj.ok.own i _ _ b (bG hT tr) rfl hu (bg.2 hb)).2.2) (vJ hdd (b2 hnr)) aF).mono ?_
   rintro en w' ⟨v',y,rfl,hgr,hv,hold',hb1,hb2⟩;have hi:i < β.length:=(A8.1 hu).1;cases hb:ip.back with
   | false=>
     rw[hb]at k;obtain⟨rfl,rfl⟩:=hb2 hb;have fQ:=bG hT tr;have ok:OK B h0 (eff s.gl (cZ s.T i ([],.row t ip.sh (ip.res l0 dd)))) h β w':=by
      rw[xB];have:=aj.ok.upd (r':=.row t ip.sh (ip.res l0 dd)) (v:=.row (a.eval x)) fQ rfl hu hgr (λk e=>bg.2 e) (λb hb=>.inl hb) (.inl rfl) hold'.aib
      rwa [gX hu]at this
     exact next _ _ _ _ _ k (FH.le.refl h) ((aj.mem ok (FH.le.refl h) (Ext.refl β) (qo aj)).put (dR hd) rfl (λ_=>⟨[],rfl,trivial⟩) λhh=>by cases hh)
   | true=>
     rw[hb]at k;obtain rfl:=hb1 hb;refine next _ _ _ _ _ k (FH.le.refl h) ((W9 aj hT rfl hu hgr hv (x':=.row t ip.sh (ip.res l0 dd)) (v:=.row y) (hold:=hold'.aib)).put (dR hd) rfl (λ_=>?_) λhh=>by cases hh)
     refine⟨?_,?_⟩
     .refine⟨.row y,?_,rfl⟩;rw[qA hi]
     .rcases hold' with⟨rfl,_⟩ | ⟨_,rfl,_⟩ | ⟨g,cap,cur,rfl,_⟩<;>exact⟨rfl,rfl⟩
  .cases k
 .cases k
end
def aic:Int->Bool
 | .ofNat 0=>true
 | _=>false
theorem acZ{n:Int} (h:aic n=true):n=0:=by
 unfold aic at h;split at h
 .rfl
 .cases h
abbrev F7:Operand->Bool
 | .const v=>match v with
   | .int _ n=>aic n
   | _=>false
 | _=>false
theorem yS{x:Operand} (h:F7 x=true):∃k,x=.const (.int k 0):=by
 unfold F7 at h;split at h
 .split at h
  .rename_i k n;rw[acZ h];exact⟨k,rfl⟩
  .cases h
 .cases h
abbrev aie:Option Operand->Bool
 | none=>true
 | some x=>F7 x
abbrev amS:Option Operand->Bool
 | none=>false
 | some x=>F7 x
abbrev Xa:SC->Bool
 | .sl _ _=>true
 | .v v=>match v with
   | .slice none 0 0=>true
   | _=>false
 | _=>false
abbrev aif(cx:Cx) (s:St) (d:Option Nat) (t:TypeId) (x:Operand) (lo hi:Option Operand) (K:St->Prop):Prop:=match descOf cx t with
 | .slice el=>match pU cx.ti el with
   | none=>False
   | some ie=>match ie.iL with
     | none=>False
     | some sh=>match bM cx s [] x with
       | some (.one (.c y))=>match dD (Xa y) (dD (aie lo) (amS hi)) with
         | true=>K ({ s with T:=snoc s.T ([],.row el sh []) }.put d [] (.one (.c (.row (aQ s.T)))))
         | false=>False
       | _=>False
 | _=>False
abbrev Oy(cx:Cx) (s:St) (d:Option Nat) (t:TypeId) (i:Nat) (lo hi:Option Operand) (K:St->Prop):Prop:=match descOf cx t with
 | .slice el=>match pU cx.ti el with
   | none=>False
   | some _=>match aie lo with
     | false=>False
     | true=>match hi with
       | none=>False
       | some h=>match bM cx s [] h with
         | some (.one (.c (.v (.int _ n))))=>match eF s.T i with
           | some ([],.row el' sh l)=>(0<=n/\n<=l.length)/\K ({ s with T:=cZ (KO i s.T) i ([],.row el' sh (l.take n.toNat)),env:=tC i s.env }.put d [] (.one (.c (.row i))))
           | _=>False
         | _=>False
 | _=>False
abbrev aii(cx:Cx) (s:St) (d:Option Nat) (t:TypeId) (lo hi:Option Operand) (K:St->Prop):Prop:=match descOf cx t with
 | .slice el=>match pU cx.ti el with
   | none=>False
   | some _=>match F5 cx s [] lo 0 with
     | none=>False
     | some a=>match F5 cx s [] hi 0 with
       | none=>False
       | some b=>(0<=a/\a<=b/\b<=0)/\K (s.put d [] (.one (.c (.v (.slice none 0 0)))))
 | _=>False
def dO(a b:Int):Int:=if b > a then b else a
abbrev Oz(cx:Cx) (s:St) (d:Option Nat) (x y:Operand) (K:St->Prop):Prop:=match bM cx s [] x with
 | some (.one (.c (.v (.int .i64 a))))=>match bM cx s [] y with
   | some (.one (.c (.v (.int .i64 b))))=>K (s.put d [] (vI .i64 (dO a b)))
   | _=>False
 | _=>False
abbrev aij(cx:Cx) (s:St) (d:Option Nat) (t:TypeId) (x:Operand) (K:St->Prop):Prop:=match descOf cx t with
 | .slice _=>match bM cx s [] x with
   | some (.one (.c (.v (.slice none 0 0))))=>K (s.put d [] (vI .i64 0))
   | _=>False
 | _=>False
abbrev aik(cx:Cx) (s:St) (d:Option Nat) (t:TypeId) (x:Operand) (lo hi:Option Operand) (m:Operand) (K:St->Prop):Prop:=match descOf cx t with
 | .slice el=>match pU cx.ti el with
   | none=>False
   | some ie=>match aie lo with
     | false=>False
     | true=>match hi with
       | none=>False
       | some h=>match bM cx s [] h with
         | some (.one (.c (.v (.int _ n))))=>match bM cx s [] m with
           | some (.one (.c (.v (.int _ n'))))=>match bM cx s [] x with
             | some (.one (.c (.sl sh l)))=>match Nat.beq ie.size sh.size with
               | true=>(0<=n/\n<=l.length/\n=n')/\K (s.put d [] (.one (.c (.abs (.Uj sh (l.take n.toNat))))))
               | false=>False
             | _=>False
           | _=>False
         | _=>False
 | _=>False
abbrev OA(s:St) (d:Option Nat) (eq:Bool) (x:SC) (K:St->Prop):Prop:=match x with
 | .v _=>K (s.put d [] (vB eq))
 | .sl _ l=>∀b:Bool,(b=true->l=[])->K (s.put d [] (vB (cnd eq b (!b))))
 | .row i=>match eF s.T i with
   | some ([],.row _ _ l)=>∀b:Bool,(b=true->l=[])->K (s.put d [] (vB (cnd eq b (!b))))
   | _=>False
 | _=>False
abbrev IU:BinOp->Option Bool
 | .eql=>some true
 | .neq=>some false
 | _=>none
abbrev Xb(cx:Cx) (t:TypeId):Bool:=match descOf cx t with
 | .slice _=>true
 | _=>false
abbrev OB:SC->Bool
 | .sl _ _=>true
 | .row _=>true
 | .v v=>match v with
   | .slice none 0 0=>true
   | _=>false
 | _=>false
abbrev Xc(cx:Cx) (s:St) (d:Option Nat) (t t':TypeId) (y:Operand) (K:St->Prop):Prop:=match descOf cx t' with
 | .int .i64=>match descOf cx t with
   | .slice el=>match pU cx.ti el with
     | none=>False
     | some ie=>match ie.iL with
       | none=>False
       | some sh=>match dD (Nat.beq sh.size ie.size) (dD (Nat.ble 1 ie.bytes) (Nat.ble 1 ie.size)) with
         | true=>match bM cx s [] y with
           | some (.one (.c (.v (.int .i64 n))))=>(0<=n/\nR n.toNat ie.bytes)/\K ({ s with T:=snoc s.T ([],.row el sh (List.replicate n.toNat (qL sh))) }.put d [] (.one (.c (.row (aQ s.T)))))
           | _=>False
         | false=>False
   | _=>False
 | _=>False
abbrev UG(i:Nat) (z x:SC):SC:=match x with
 | .row j=>match Nat.beq i j with
   | true=>z
   | false=>.row j
 | .jS j k sz off=>match Nat.beq i j with
   | true=>.junk
   | false=>.jS j k sz off
 | .own j off=>match Nat.beq i j with
   | true=>.junk
   | false=>.own j off
 | .sub j k=>match Nat.beq i j with
   | true=>.junk
   | false=>.sub j k
 | .lQ j k m sz off=>match Nat.beq i j with
   | true=>.junk
   | false=>.lQ j k m sz off
 | x=>x
abbrev ac0(i:Nat) (z:SC):SV->SV
 | .c x=>.c (UG i z x)
 | .agg xs=>.agg (fE (UG i z) xs)
 | v=>v
abbrev ac1(i:Nat) (z:SC):aZ->aZ
 | .one v=>.one (ac0 i z v)
 | .gV vs=>.gV (fE (ac0 i z) vs)
abbrev UH(i:Nat) (z:SC):ay->ay
 | .blk t cs=>.blk t (fE (UG i z) cs)
 | r=>r
abbrev oL(i:Nat) (z:SC):List (Nat×Gd×aZ)->List (Nat×Gd×aZ)
 | []=>[]
 | (k,g,e) :: r=>(k,g,ac1 i z e) :: oL i z r
abbrev rW(i:Nat) (z:SC):List (Gd×ay)->List (Gd×ay)
 | []=>[]
 | (g,r) :: t=>(g,UH i z r) :: rW i z t
abbrev KU(s:St) (i:Nat):St:=match eF s.T i with
 | some ([],.row _ sh l)=>{ s with T:=cZ (rW i (.sl sh l) s.T) i ([],.gone),env:=oL i (.sl sh l) s.env }
 | some ([],.deep _ sh l _ _ _ _ [])=>{ s with T:=cZ (rW i (.sl sh l) s.T) i ([],.gone),env:=oL i (.sl sh l) s.env }
 | some ([],.mp k sh l)=>{ s with T:=cZ (rW i (.one (.mp k sh) l) s.T) i ([],.gone),env:=oL i (.one (.mp k sh) l) s.env }
 | _=>s
abbrev nD(s:St):List Nat->St
 | []=>s
 | i :: r=>nD (KU s i) r
abbrev QL:List SC->List Nat->List Nat
 | [],r=>r
 | x :: xs,r=>match x with
   | .row i=>i :: QL xs r
   | _=>QL xs r
abbrev rowsOf(cx:Cx) (s:St):List (Nat×Operand)->List Nat
 | []=>[]
 | (_,x) :: r=>match bM cx s [] x with
   | some (.one (.c (.row i)))=>i :: rowsOf cx s r
   | some (.one (.agg xs))=>QL xs (rowsOf cx s r)
   | _=>rowsOf cx s r
abbrev IV(cx:Cx) (s:St) (d:Option Nat) (t:TypeId) (x y:Operand) (K:St->Prop):Prop:=iM cx t λel ie sh=>
 match bM cx s [] x with
 | some (.one (.c (.abs (.Uj fG l1))))=>match jC (.sl fG) l1 (.sl sh) with
   | some l=>match bM cx s [] y with
     | some (.one v2)=>match Oq s sh v2 with
       | some l2=>nR (l.length+l2.length) ie.bytes/\K ({ s with T:=snoc (rW (aQ s.T) (.sl sh (l++l2)) s.T) ([],.gone),env:=oL (aQ s.T) (.sl sh (l++l2)) s.env }.put d [] (.one (.c (.sl sh (l++l2)))))
       | none=>False
     | _=>False
   | none=>False
 | _=>False
abbrev OC:List Value->Bool
 | []=>false
 | v :: l=>match l with
   | []=>match v with
     | .slice none 0 0=>true
     | _=>false
   | _ :: _=>false
theorem UJ{l:List Value} (h:OC l=true):l=[ny]:=by
 unfold OC at h;split at h
 .cases h
 .split at h
  .split at h
   .rfl
   .cases h
  .cases h
abbrev ail:Nat->Bool:=λ_=>true
abbrev OD(cx:Cx) (s:St) (d:Option Nat) (t:TypeId) (ln cp:Operand) (K:St->Prop):Option Prop:=match descOf cx t with
 | .slice el=>match pU cx.ti el with
   | none=>none
   | some ie=>match ie.iL with
     | some (.sl e)=>match descOf cx el with
       | .slice tt=>match dD (Nat.beq 1 ie.size) (dD (Nat.ble 1 ie.bytes) (OC ie.zero)) with
         | true=>match bM cx s [] ln with
           | some (.one (.c (.v (.int _ n))))=>match bM cx s [] cp with
             | some (.one (.c (.v (.int _ c))))=>some ((0<=n/\n<=c/\nR c.toNat ie.bytes)/\K ({ s with T:=snoc s.T ([],.deep el (.sl e) (List.replicate n.toNat []) tt e 0 ail []) }.put d [] (.one (.c (.row (aQ s.T))))))
             | _=>none
           | _=>none
         | false=>none
       | _=>none
     | _=>none
 | _=>none
abbrev ain(cx:Cx) (s:St) (o:Oper) (K:St->Prop):Option Prop:=match o.guard with
 | some _=>none
 | none=>match o.op with
   | .slice t x lo hi mx=>match mx with
     | some m=>match F7 m with
       | true=>some (aif cx s o.dst t x lo hi K)
       | false=>some (aik cx s o.dst t x lo hi m K)
     | none=>match bM cx s [] x with
       | some (.one (.c (.row i)))=>some (Oy cx s o.dst t i lo hi K)
       | some (.one (.c (.v (.slice none 0 0))))=>some (aii cx s o.dst t lo hi K)
       | _=>none
   | .binOp op t x y t'=>match IU op with
     | none=>none
     | some eq=>match bM cx s [] y with
       | some (.one (.c (.v (.slice none 0 0))))=>match bM cx s [] x with
         | some (.one (.c z))=>match dD (OB z) (Xb cx t) with
           | true=>some (OA s o.dst eq z K)
           | false=>none
         | _=>none
       | _=>none
   | .call c=>match c.callee with
     | .builtin .append=>match tl c.args with
       | [x,y]=>match tl c.argTypes with
         | [t,t']=>match Nat.beq t t' with
           | true=>match bM cx s [] x with
             | some (.one (.c (.abs (.Uj _ _))))=>some (IV cx s o.dst t x y K)
             | _=>none
           | false=>match bM cx s [] x with
             | some (.one (.c (.v (.slice none 0 0))))=>some (Xc cx s o.dst t t' y K)
             | _=>none
         | _=>none
       | _=>none
     | .builtin .cap=>match tl c.args with
       | [x]=>match tl c.argTypes with
         | [t]=>some (aij cx s o.dst t x K)
         | _=>none
       | _=>none
     | .builtin .max=>match tl c.args with
       | [x,y]=>some (Oz cx s o.dst x y K)
       | _=>none
     | _=>none
   | .makeSlice t ln cp=>match cx.dm with
     | true=>OD cx s o.dst t ln cp K
     | false=>none
   | .buildSlice t n ps=>match rowsOf cx s (tl ps) with
     | []=>none
     | i :: r=>some (mM cx (nD s (i :: r)) [] o.dst t n (tl ps) K)
   | _=>none
section
variable {cx:Cx}{P:Program}{N:Nat}{B:Base}{h0:FH}{s:St}{h:FH}{β:List RV}{w:World}{a:Act}{o:Oper}{K:St->Prop}
theorem QM(le:h.le h') (hu:∃u,β[i]?=some u/\u.sl=some v) (sl:dY h' β z v){x:SC}{y:Value} (c:dY h β x y):dY h' β (UG i z x) y:=by
 unfold UG;split
 .rename_i j;split
  .rename_i hj;have:=iC hj;subst this;obtain⟨u,e,es⟩:=c;obtain⟨u',e',es'⟩:=hu;rw[e']at e;cases e;rw[es']at es;cases es;exact sl
  .exact dY.mono (x:=.row j) le (Ext.refl β) c
 .split
  .trivial
  .exact c.mono le (Ext.refl β)
 .split
  .trivial
  .exact c.mono le (Ext.refl β)
 .split
  .trivial
  .exact c.mono le (Ext.refl β)
 .split
  .trivial
  .exact c.mono le (Ext.refl β)
 .exact c.mono le (Ext.refl β)
theorem IW{h h':FH}{β:List RV}{i:Nat}{z:SC}{v:Value} (le:h.le h') (hu:∃u,β[i]?=some u/\u.sl=some v) (sl:dY h' β z v):∀{xs:List SC}{ys:List Value},
 aS (λx y=>dY h β x y/\dF y) xs ys->aS (λx y=>dY h' β x y/\dF y) (fE (UG i z) xs) ys
 | [],[],_=>trivial
 | _ :: _,_ :: _,⟨a,b⟩=>⟨⟨QM le hu sl a.1,a.2⟩,IW le hu sl b⟩
theorem ahe(le:h.le h') (hu:∃u,β[i]?=some u/\u.sl=some v) (sl:dY h' β z v):∀{x:SV}{y:Value},dh h β x y->dh h' β (ac0 i z x) y
 | .c _,_,c=>⟨QM le hu sl c.1,c.2⟩
 | .agg _,_,⟨ys,e,a⟩=>⟨ys,e,IW le hu sl a⟩
 | .dat s _,_,⟨g,cs,e,r⟩=>⟨g,cs,e,r.mono le s⟩
 | .und,_,c=>c
theorem amT(le:h.le h') (hu:∃u,β[i]?=some u/\u.sl=some v) (sl:dY h' β z v):∀{x:aZ}{y:Value},jF h β x y->jF h' β (ac1 i z x) y
 | .one _,_,c=>ahe le hu sl c
 | .gV _,_,⟨ys,e,a⟩=>⟨ys,e,go a⟩
where
 go:∀{xs:List SV}{ys:List Value},aS (dh h β) xs ys->aS (dh h' β) (fE (ac0 i z) xs) ys
  | [],[],_=>trivial
  | _ :: _,_ :: _,⟨a,b⟩=>⟨ahe le hu sl a,go b⟩
theorem UK(le:h.le h') (hu:∃u,β[i]?=some u/\u.sl=some v) (sl:dY h' β z v):∀{r:ay}{u:RV},Holds h β w r u->Holds h' β w (UH i z r) u
 | .blk _ _,.blk _,⟨ys,e,a⟩=>⟨ys,e,IW le hu sl a⟩
 | .row _ s _,.row _,x=>lV.move le x λ_ _=>rfl
 | .deep _ _ _ _ _ _ _ _,.deep _ _,x=>fD.move le x λ_ _=>rfl
 | .mp k s l,.row v,x=>Holds.move (r:=.mp k s l) (v:=.row v) le (Ext.refl β) x λ_ _ _=>rfl
 | .NI k s l n,.deep v us,x=>Holds.move (r:=.NI k s l n) (v:=.deep v us) le (Ext.refl β) x λ_ _ _=>rfl
 | .Kv _ _ _ _,.row _,x=>x
 | .Gp _ _ _ _,.deep _ _,x=>Dn.move le x λ_ _=>rfl
 | .it k s l dn,.blk v,x=>Holds.move (r:=.it k s l dn) (v:=.blk v) le (Ext.refl β) x λ_ _ _=>rfl
 | .obj _ s _,.blk _,⟨ys,e,r⟩=>⟨ys,e,r.mono le s⟩
 | .gone,_,_=>trivial
theorem Ak(i:Nat) (z:SC) (r:ay):(UH i z r).live=r.live:=by cases r<;>rfl
theorem IX{i:Nat}{z:SC}:∀{env:List (Nat×Gd×aZ)}{t:Nat}{G:Gd}{e:aZ},iF (oL i z env) t=some (G,e)->∃e0,iF env t=some (G,e0)/\e=ac1 i z e0
 | [],_,_,_,h=>by simp[oL,iF]at h
 | (k,g,e0) :: r,t,G,e,h=>by
   simp only[oL]at h;rw[bC]at h ⊢
   split at h
   .rename_i hk;cases h;exact⟨e0,by rw[if_pos hk],rfl⟩
   .rename_i hk;rw[if_neg hk];exact IX h
theorem KW{i:Nat}{z:SC}:∀{env:List (Nat×Gd×aZ)}{t:Nat}{G:Gd}{e:aZ},iF env t=some (G,e)->iF (oL i z env) t=some (G,ac1 i z e)
 | [],_,_,_,h=>by simp[iF]at h
 | (k,g,e0) :: r,t,G,e,h=>by
   simp only[oL];rw[bC]at h ⊢
   split at h
   .rename_i hk;cases h;rw[if_pos hk]
   .rename_i hk;rw[if_neg hk];exact KW h
theorem QN(gl:List Bool) (i:Nat) (z:SC):∀{T:List (Gd×ay)},eff gl (rW i z T)=(eff gl T).map (UH i z)
 | []=>rfl
 | (g,r) :: t=>by
   simp only[rW,eff,TT,QN gl i z (T:=t)]
   congr 1
   cases gv gl g<;>rfl
theorem QO{i:Nat}{z:SC}{p:Gd×ay}:∀{T:List (Gd×ay)},p∈rW i z T->∃q∈T,q.1=p.1
 | [],h=>by simp[rW]at h
 | (g,r) :: t,h=>by
   simp only[rW,ni]at h;rcases h with rfl | h
   .exact⟨(g,r),by simp,rfl⟩
   .obtain⟨q,h1,h2⟩:=QO h;exact⟨q,by simp[h1],h2⟩
theorem Sat.IY(aj:Sat N B h0 s h β w a){r:ay} (fQ:(eff s.gl s.T)[i]?=some r) (hu:β[i]?=some u) (hus:u.sl=some v) (le:h.le h') (ok':OK B h0 ((eff s.gl s.T).set i .gone) h' β w) (sl:dY h' β z v):
 Sat N B h0 { s with T:=cZ (rW i z s.T) i ([],.gone),env:=oL i z s.env } h' β w a:=by
 have hu:∃u,β[i]?=some u/\u.sl=some v:=⟨u,hu,hus⟩;refine⟨?_,?_,?_,aj.defers,aj.sz,?_,?_⟩
 .show OK B h0 (eff s.gl (cZ (rW i z s.T) i ([],.gone))) h' β w;rw[fP,QN];have key:∀{j:Nat}{r:ay},(((eff s.gl s.T).map (UH i z)).set i .gone)[j]?=some r->∃r0,((eff s.gl s.T).set i .gone)[j]?=some r0/\r=UH i z r0:=by
   intro j r e
   by_cases hj:j=i
   .subst hj;have iQ:j < (eff s.gl s.T).length:=(A8.1 fQ).1;rw[qA (by simpa using iQ)]at e
    cases e;exact⟨.gone,by rw[qA iQ],rfl⟩
   .rw[mX (Ne.symm hj),Dj]at e;cases hj':(eff s.gl s.T)[j]? with
    | none=>rw[hj']at e;cases e
    | some r0=>rw[hj']at e;cases e;exact⟨r0,by rw[mX (Ne.symm hj)];exact hj',rfl⟩
  exact {
   below:=ok'.below
   dr:=ok'.dr
   len:=by have:=ok'.len;simpa using this
   holds:=λj r v' e e'=>by
    obtain⟨r0,e0,rfl⟩:=key e
    by_cases hj:j=i
    .subst hj;have iQ:j < (eff s.gl s.T).length:=(A8.1 fQ).1;rw[qA iQ]at e0;cases e0;cases v'<;>trivial
    .rw[mX (Ne.symm hj)]at e0;exact UK le hu sl (aj.ok.holds j r0 v' e0 e')
   own:=λj r v' b e hl e' hb=>by
    obtain⟨r0,e0,rfl⟩:=key e;exact ok'.own j r0 v' b e0 (by rw[<-Ak i z];exact hl) e' hb
   inj:=λj k r1 r2 u v' b e1 l1 e2 l2 e3 e4 b1 b2=>by
    obtain⟨r0,f1,rfl⟩:=key e1;obtain⟨r0',f2,rfl⟩:=key e2;exact ok'.inj j k r0 r0' u v' b f1 (by rw[<-Ak i z];exact l1) f2 (by rw[<-Ak i z];exact l2) e3 e4 b1 b2
   hle:=ok'.hle
   hw:=ok'.hw
   hg:=ok'.hg
   kn:=ok'.kn }
 .intro t' G e ht;obtain⟨e0,h1,rfl⟩:=IX ht;obtain⟨z,q1,q2,q3⟩:=aj.env t' G e0 h1;exact⟨z,q1,λhG=>amT le hu sl (q2 hG),q3⟩
 .intro d j hj;obtain⟨G,b,q1,q2⟩:=aj.gs d j hj;exact⟨G,b,KW q1,q2⟩
 .intro t' G e ht;obtain⟨e0,h1,rfl⟩:=IX ht;exact aj.gb t' G e0 h1
 .intro p hp;simp only at hp;rw[eY]at hp;rcases Ic hp with hp | hp
  .obtain⟨q,h1,h2⟩:=QO hp;rw[<-h2];exact aj.gT q h1
  .subst hp;rfl
theorem QS{k:IntKind}{sh:Sh}{l:List (Int×sh.den)} (x:Holds h β w (.mp k sh l) (.row v)) (le:h.le h') (hb:∀b,(RV.row v).has b->∀o z,vis w b o=some z->h' b o=some z):Rd h' (.mp k sh) [v] l:=by
 obtain⟨b,es,c,e,e1,m⟩:=x;exact⟨v,rfl,.inr ⟨b,es,c,e,hb b (bg.2 (by rw[e];rfl)) _ _ (Qp e1),m.mono λ_ _=>DW.mono le⟩⟩
theorem Sat.aio(aj:Sat N B h0 s h β w a) (i:Nat):∃h',h.le h'/\Sat N B h0 (KU s i) h' β w a:=by
 unfold KU;split
 .rename_i t sh l hT;have fQ:(eff s.gl s.T)[i]?=some (.row t sh l):=by rw[jB,<-eG,hT];rfl
  have iQ:i < β.length:=by rw[aj.ok.len];exact(A8.1 fQ).1
  have hu:=lN iQ;have hold:=aj.ok.holds i _ _ fQ hu;cases hb:β[i]with
  | blk b=>rw[hb]at hold;cases hold
  | no=>rw[hb]at hold;cases hold
  | deep _ _=>rw[hb]at hold;cases hold
  | row v=>
    rw[hb]at hold hu;obtain⟨h',le,ok',sl⟩:=aj.ok.freeze fQ hu;exact⟨h',le,aj.IY (z:=.sl sh l) fQ hu rfl le ok' sl⟩
 .rename_i t sh l t2 e so own hT;have fQ:(eff s.gl s.T)[i]?=some (.deep t sh l t2 e so own []):=by rw[jB,<-eG,hT];rfl
  have iQ:i < β.length:=by rw[aj.ok.len];exact(A8.1 fQ).1
  have hu:=lN iQ;have hold:=aj.ok.holds i _ _ fQ hu;cases hb:β[i]with
  | blk b=>rw[hb]at hold;cases hold
  | no=>rw[hb]at hold;cases hold
  | row _=>rw[hb]at hold;cases hold
  | deep v us=>
    rw[hb]at hold hu;obtain⟨le,ok',vis⟩:=aj.ok.vg fQ rfl hu;exact⟨_,le,aj.IY (z:=.sl sh l) fQ hu rfl le ok' (fD.data hold le λb hb o z hz=>vis b hb o z hz)⟩
 .rename_i k sh l hT;have fQ:(eff s.gl s.T)[i]?=some (.mp k sh l):=by rw[jB,<-eG,hT];rfl
  have iQ:i < β.length:=by rw[aj.ok.len];exact(A8.1 fQ).1
  have hu:=lN iQ;have hold:=aj.ok.holds i _ _ fQ hu;cases hb:β[i]with
  | blk b=>rw[hb]at hold;cases hold
  | no=>rw[hb]at hold;cases hold
  | deep _ _=>rw[hb]at hold;cases hold
  | row v=>
    rw[hb]at hold hu;obtain⟨le,ok',vs⟩:=aj.ok.vg fQ rfl hu;exact⟨_,le,aj.IY (z:=.one (.mp k sh) l) fQ hu rfl le ok' (QS hold le λb hb o z hz=>vs b hb o z hz)⟩
 .exact⟨h,FH.le.refl h,aj⟩
theorem Sat.FP:∀{l:List Nat}{s:St}{h:FH},Sat N B h0 s h β w a->∃h',h.le h'/\Sat N B h0 (nD s l) h' β w a
 | [],s,h,aj=>⟨h,FH.le.refl h,aj⟩
 | i :: r,s,h,aj=>by
   obtain⟨h1,le1,jl⟩:=aj.aio i;obtain⟨h2,iD,bJ⟩:=Sat.FP (l:=r) jl;exact⟨h2,le1.trans iD,bJ⟩
theorem Bj.le{h h':FH}{b:Bool} (le:h.le h') (k:Bj P N B h0 h' w a o b K):Bj P N B h0 h w a o b K:=λNx Q next=>k Nx Q λs' h2 β' w' v k' le' aj=>next s' h2 β' w' v k' (le.trans le') aj
theorem Xd{y:SC} (hy:Xa y=true) (c:dY h β y v):∃ad len cap,v=.slice ad len cap/\len<=cap/\(ad=none->len=0/\cap=0):=by
 unfold Xa at hy;split at hy
 .rcases c with⟨rfl,_⟩ | ⟨ad,cap,rfl,_⟩ | ⟨b,off,cap,rfl,h1,_⟩
  .exact⟨none,0,0,rfl,pz _,λ_=>⟨rfl,rfl⟩⟩
  .exact⟨some ad,0,cap,rfl,Ko _,λh=>by cases h⟩
  .exact⟨_,_,cap,rfl,h1,λh=>by cases h⟩
 .split at hy
  .obtain⟨rfl,_⟩:=c;exact⟨none,0,0,rfl,pz _,λ_=>⟨rfl,rfl⟩⟩
  .cases hy
 .cases hy
theorem Xe(hc:bT P cx.ti) (aj:Sat N B h0 s h β w a) (hg:aI cx.gd h) (hd:kY N o.dst=true){x m:Operand} (ho:o.op=.slice t x lo hi (some m)) (hm:F7 m=true)
 (k:aif cx s o.dst t x lo hi K):Bj P N B h0 h w a o true K:=by
 have tr:gv s.gl []=true:=rfl;unfold aif at k;split at k
 .rename_i el hde;have hu:=bK hc hde (by simp)
  split at k
  .cases k
  rename_i ie hie;have tie:=hc.get hie;split at k
  .cases k
  rename_i sh hsh;split at k
  .rename_i y hy;split at k
   .rename_i hz;rw[aB,aB,bY,bY]at hz;obtain⟨hz1,hz2,hz3⟩:=hz;have cy:=(aP aj hg tr hy:dh h β (.c y) (a.eval x));obtain⟨ad,len,cap,ev,hle,hnil⟩:=Xd hz1 cy.1;obtain⟨km,rfl⟩:=yS hm;obtain⟨hx,rfl⟩:∃x,hi=some x:=by cases hi with | none=>simp[amS]at hz3 | some x=>exact⟨x,rfl⟩
    obtain⟨kh,rfl⟩:=yS (show F7 hx=true from hz3)
    have run:(Instr.sliceAt t (a.eval x) (lo.map a.eval) ((some (Operand.const (.int kh 0))).map a.eval) ((some (Operand.const (.int km 0))).map a.eval)).run P w=.ok (.slice ad 0 0) w:=by
     rw[ev];have e1:(Instr.sliceBounds true len cap (lo.map a.eval) (some (.int kh 0)) (some (.int km 0))).run P w=.ok (0,0,0) w:=by
      cases lo with
      | none=>simp[Instr.sliceBounds,Instr.sliceBound,asIntOf]
      | some z=>
        obtain⟨kz,rfl⟩:=yS (show F7 z=true from hz2)
        simp[Instr.sliceBounds,Instr.sliceBound,asIntOf,Act.eval]
     simp only[Instr.sliceAt,Instr.slice,Sem.run_bind,run_underlying hu,Result.andThen_ok,VO,Act.eval,e1,run_sizeOf tie,Sem.run_pure];simp
    have nw:=lq (P:=P) aj (o:=o) (G:=[]) rfl hd (r:=.row el sh []) (e:=.one (.c (.row (aQ s.T)))) (K:=K) k λ_=>
     ⟨.slice ad 0 0,w,.row (.slice ad 0 0),by simp only[execOp,ho,Sem.run_bind];rw[run];rfl,bV _ _,λb hb=>by rw[bg]at hb;cases ad<;>simp[aA]at hb,by
      cases ad with
      | none=>exact .inl ⟨rfl,rfl⟩
      | some ad=>exact .inr (.inl ⟨ad,rfl,rfl⟩),by
      refine⟨⟨_,kG (lu aj) _,rfl⟩,rfl,rfl⟩⟩
    exact nw.weak
   .cases k
  .cases k
 .cases k
theorem oM(aj:Sat N B h0 s h β w a) (hd:kY N o.dst=true){e:aZ} (run:(execOp a.eval o).run P w=.ok (.value v) w) (c:jF h β e v) (k:K (s.put o.dst [] e)):Bj P N B h0 h w a o true K:=by
 intro Nx Q next
 rw[if_pos rfl];exact kF run (next _ _ _ _ _ k (FH.le.refl h) (aj.put (dR hd) rfl (λ_=>c) λhh=>by cases hh))
theorem OE(hc:bT P cx.ti) (aj:Sat N B h0 s h β w a) (hg:aI cx.gd h) (hd:kY N o.dst=true){x:Operand} (ho:o.op=.slice t x lo hi none)
 (hx:bM cx s [] x=some (.one (.c (.row i)))) (k:Oy cx s o.dst t i lo hi K):Bj P N B h0 h w a o true K:=by
 have tr:gv s.gl []=true:=rfl;unfold Oy at k;split at k
 .rename_i el hde;have hu:=bK hc hde (by simp)
  split at k
  .cases k
  rename_i ie hie;have tie:=hc.get hie;split at k
  .cases k
  rename_i hlo;split at k
  .cases k
  rename_i hh;split at k
  .rename_i ik n hn;split at k
   .rename_i el' sh l hT;obtain⟨hb,k⟩:=k;have ch:=(aP aj hg tr hn:dh h β (.c (.v (.int ik n))) (a.eval hh));have eh:a.eval hh=.int ik n:=ch.1.1;have cr:=(aP aj hg tr hx:dh h β (.c (.row i)) (a.eval x));have hβ:β[i]?=some (.row (a.eval x)):=aj.ok.row_of (bG hT tr) cr.1;have hold:=aj.ok.holds i _ _ (bG hT tr) hβ;have hi':i < β.length:=(A8.1 hβ).1;have aip:(lo.map a.eval=none/\(0:Int)=0)\/∃k,lo.map a.eval=some (.int k 0):=by
     cases lo with
     | none=>exact .inl ⟨rfl,rfl⟩
     | some z=>
       obtain⟨kz,rfl⟩:=yS (show F7 z=true from hlo)
       exact .inr ⟨kz,rfl⟩
    have run:∀(ad:Option Addr) (cap:Nat),a.eval x=.slice ad l.length cap->l.length<=cap->(execOp a.eval o).run P w=.ok (.value (.slice ad n.toNat cap)) w:=by
     intro ad cap ev hle;have:=oG (P:=P) (w:=w) (isS:=true) (len:=l.length) (cap:=cap) (lo:=lo.map a.eval) (hi:=some (.int ik n)) (a:=0) (b:=n) aip (.inr ⟨ik,rfl⟩) (by omega) hle
     have r2:(Instr.sliceAt t (a.eval x) (lo.map a.eval) ((some hh).map a.eval) none).run P w=.ok (.slice ad n.toNat cap) w:=by
      rw[ev];simp only[Instr.sliceAt,Instr.slice,Sem.run_bind,run_underlying hu,Result.andThen_ok,VO,eh,this,run_sizeOf tie,Sem.run_pure];cases ad<;>simp[Addr.add]
     simp only[execOp,ho,Sem.run_bind,acD];rw[r2];rfl
    have fin:∀(v':Value),(execOp a.eval o).run P w=.ok (.value v') w->(∀b,aA v'=some b->aA (a.eval x)=some b)->Holds h (β.set i (.row v')) w (.row el' sh (l.take n.toNat)) (.row v')->dF v'->Bj P N B h0 h w a o true K:=by
     intro v' r hv hold' h1;intro Nx Q next
     rw[if_pos rfl];refine kF r (next _ _ _ _ _ k (FH.le.refl h) ((W9 aj hT rfl hβ (bV _ _) (v:=.row v') (λb hb=>.inl (hv b hb)) (hold:=hold')).put (dR hd) rfl (λ_=>⟨?_,h1⟩) λhh=>by cases hh))
     refine⟨.row v',?_,rfl⟩;rw[qA hi']
    rcases hold with⟨ev,hl⟩ | ⟨ra,ev,hl⟩ | ⟨g,cap,cur,ev,q1,q2,q3,q4,q5⟩
    .have hn0:n.toNat=0:=by rw[hl]at hb;simp at hb;omega
     refine fin _ (run none 0 (by rw[ev,hl];rfl) (by rw[hl];exact pz _)) (λb hb=>by simp[aA]at hb) (.inl ⟨by rw[hn0],by rw[hl];simp⟩) ⟨rfl,rfl⟩
    .have hn0:n.toNat=0:=by rw[hl]at hb;simp at hb;omega
     refine fin _ (run (some ra) 0 (by rw[ev,hl];rfl) (by rw[hl];exact pz _)) (λb hb=>by simp[aA]at hb) (.inr (.inl ⟨ra,by rw[hn0],by rw[hl];simp⟩)) ⟨rfl,rfl⟩
    .have hlen:(l.take n.toNat).length=n.toNat:=by rw[kX];omega
     refine fin _ (run (some ⟨g,0,none⟩) cap ev q2) (λb hb=>by rw[ev,aY q3.1];rw[aY q3.1]at hb;exact hb) (.inr (.inr ⟨g,cap,cur,by rw[hlen],q1,by rw[hlen];omega,q3,q4,?_⟩)) ⟨rfl,rfl⟩
     have:=gq.uq (λ_ _=>Rd.size sh) q5 (a:=0) (b:=n.toNat) (Ko _) (by omega)
     simp only[NW,NR]at this;rw[hlen];rw[List.take_take,Ih (yh _ (by omega))]at this
     exact this
   .cases k
  .cases k
 .cases k
theorem Xf(hc:bT P cx.ti) (aj:Sat N B h0 s h β w a) (hg:aI cx.gd h) (hd:kY N o.dst=true){x:Operand} (ho:o.op=.slice t x lo hi none)
 (hx:bM cx s [] x=some (.one (.c (.v (.slice none 0 0))))) (k:aii cx s o.dst t lo hi K):Bj P N B h0 h w a o true K:=by
 have tr:gv s.gl []=true:=rfl;unfold aii at k;split at k
 .rename_i el hde;have hu:=bK hc hde (by simp)
  split at k
  .cases k
  rename_i ie hie;have tie:=hc.get hie;split at k
  .cases k
  rename_i p hp;split at k
  .cases k
  rename_i q hq;obtain⟨hb,k⟩:=k;have Gz:=(aP aj hg tr hx:dh h β (.c (.v (.slice none 0 0))) (a.eval x));have ev:a.eval x=.slice none 0 0:=Gz.1.1;have bnd:∀{o:Option Operand}{n:Int},F5 cx s [] o 0=some n->(o.map a.eval=none/\n=0)\/∃k,o.map a.eval=some (.int k n):=by
   intro o n e;rcases QA aj hg tr e with⟨rfl,rfl⟩ | ⟨x,ik,rfl,e'⟩
   .exact .inl ⟨rfl,rfl⟩
   .exact .inr ⟨ik,by simp[e']⟩
  have:=oG (P:=P) (w:=w) (isS:=true) (len:=0) (cap:=0) (bnd hp) (bnd hq) (by simpa using hb) (pz _)
  refine oM aj hd (v:=.slice none 0 0) (e:=.one (.c (.v (.slice none 0 0)))) ?_ ⟨⟨rfl,rfl,rfl⟩,rfl,rfl⟩ k;have h1:p.toNat=0:=by omega
  have h2:q.toNat=0:=by omega
  have r2:(Instr.sliceAt t (a.eval x) (lo.map a.eval) (hi.map a.eval) none).run P w=.ok (.slice none 0 0) w:=by
   rw[ev];simp only[Instr.sliceAt,Instr.slice,Sem.run_bind,run_underlying hu,Result.andThen_ok,this,run_sizeOf tie,Sem.run_pure,h1,h2];simp
  simp only[execOp,ho,Sem.run_bind,acD];rw[r2];rfl
 .cases k
theorem Xg(hc:bT P cx.ti) (aj:Sat N B h0 s h β w a) (hg:aI cx.gd h) (hd:kY N o.dst=true){x:Operand} (ho:o.op=.call c) (bQ:c.callee=.builtin .cap) (ha:c.args=#[x]) (ht:c.argTypes=#[t])
 (k:aij cx s o.dst t x K):Bj P N B h0 h w a o true K:=by
 have tr:gv s.gl []=true:=rfl;unfold aij at k;split at k
 .rename_i el hde;have hu:=bK hc hde (by simp)
  split at k
  .rename_i hx;have Gz:=(aP aj hg tr hx:dh h β (.c (.v (.slice none 0 0))) (a.eval x));have ev:a.eval x=.slice none 0 0:=Gz.1.1;refine oM aj hd (v:=goInt 0) (e:=vI .i64 0) ?_ ⟨⟨rfl,bH _ _⟩,bH _ _⟩ k;simp[execOp,ho,resolve,bQ,ha,ht,invoke,builtin,ev,Builtin.cap_,run_underlying hu]
  .cases k
 .cases k
theorem Xh(aj:Sat N B h0 s h β w a) (hg:aI cx.gd h) (hd:kY N o.dst=true){x:Operand} (ho:o.op=.call c) (bQ:c.callee=.builtin .max) (ha:c.args=#[x,y])
 (k:Oz cx s o.dst x y K):Bj P N B h0 h w a o true K:=by
 have tr:gv s.gl []=true:=rfl;unfold Oz at k;split at k
 .rename_i n hx;have ex:a.eval x=.int .i64 n:=(aP aj hg tr hx:dh h β (.c (.v (.int .i64 n))) (a.eval x)).1.1;split at k
  .rename_i m hy;have ey:a.eval y=.int .i64 m:=(aP aj hg tr hy:dh h β (.c (.v (.int .i64 m))) (a.eval y)).1.1;refine oM aj hd (v:=.int .i64 (dO n m)) (e:=vI .i64 (dO n m)) ?_ ⟨⟨rfl,bH _ _⟩,bH _ _⟩ k;simp[execOp,ho,resolve,bQ,ha,invoke,builtin,ex,ey,Builtin.max_,Builtin.max2,dO]
  .cases k
 .cases k
theorem UL(hu:P.underlying t=some (.slice el)) (ad:Option Addr) (n c:Nat) (op:BinOp) (eq:Bool) (he:IU op=some eq) (x y:Operand):
 (eqGuard op t x y (.slice ad n c) (.slice none 0 0)).run P w=.ok () w/\(binOp op t (.slice ad n c) (.slice none 0 0)).run P w=.ok (.bool (cnd eq ad.isNone (!ad.isNone))) w:=by
 refine⟨rU P op t x y (by rfl) w,?_⟩
 have key:∀d,(Op.equalIn (d+1) t (.slice ad n c) (.slice none 0 0)).run P w=.ok ad.isNone w:=by
  intro d;cases ad<;>simp[Op.equalIn,run_underlying hu]
 have k2:=key 9999;have hq2:Op.equal t (.slice ad n c) (.slice none 0 0)=Op.equalIn (9999+1) t (.slice ad n c) (.slice none 0 0):=rfl;unfold IU at he;split at he
 .cases he;have e:(binOp .eql t (.slice ad n c) (.slice none 0 0)).run P w=((Op.equal t (.slice ad n c) (.slice none 0 0)).run P w).andThen λb w=>.ok (.bool b) w:=by
   simp only[binOp];generalize Op.equal t (.slice ad n c) (.slice none 0 0)=q;simp
  rw[e,hq2,k2];rfl
 .cases he;have e:(binOp .neq t (.slice ad n c) (.slice none 0 0)).run P w=((Op.equal t (.slice ad n c) (.slice none 0 0)).run P w).andThen λb w=>.ok (.bool (!b)) w:=by
   simp only[binOp];generalize Op.equal t (.slice ad n c) (.slice none 0 0)=q;simp
  rw[e,hq2,k2];rfl
 .cases he
theorem OG(hc:bT P cx.ti) (aj:Sat N B h0 s h β w a) (hg:aI cx.gd h) (hd:kY N o.dst=true){t':TypeId}{x:Operand}{op:BinOp}{eq:Bool} (ho:o.op=.binOp op t x y t') (he:IU op=some eq)
 (hy:bM cx s [] y=some (.one (.c (.v (.slice none 0 0))))) (hx:bM cx s [] x=some (.one (.c z))) (hz:OB z=true) (ht:Xb cx t=true) (k:OA s o.dst eq z K):Bj P N B h0 h w a o true K:=by
 have tr:gv s.gl []=true:=rfl;obtain⟨el,hu⟩:∃el,P.underlying t=some (.slice el):=by
  unfold Xb at ht;split at ht
  .rename_i el hde;exact⟨el,bK hc hde (by simp)⟩
  .cases ht
 have cy:=(aP aj hg tr hy:dh h β (.c (.v (.slice none 0 0))) (a.eval y));have ey:a.eval y=.slice none 0 0:=cy.1.1;have cz:=(aP aj hg tr hx:dh h β (.c z) (a.eval x));have exec:∀ad n c,a.eval x=.slice ad n c->(execOp a.eval o).run P w=.ok (.value (.bool (cnd eq ad.isNone (!ad.isNone)))) w:=by
  intro ad n c e;obtain⟨g1,g2⟩:=UL (P:=P) (w:=w) hu ad n c op eq he x y;simp only[execOp,ho,Sem.run_bind,e,ey,g1,g2,Result.andThen_ok,Sem.run_pure]
 have fin:∀ad n c (b:Bool),a.eval x=.slice ad n c->K (s.put o.dst [] (vB (cnd eq ad.isNone (!ad.isNone))))->Bj P N B h0 h w a o true K:=λad n c b e k=>
  oM aj hd (e:=vB (cnd eq ad.isNone (!ad.isNone))) (exec ad n c e) ⟨⟨rfl,dA _⟩,dA _⟩ k
 unfold OA at k;split at k
 .rename_i v;unfold OB at hz;have ev:a.eval x=.slice none 0 0:=by
   simp only at hz;split at hz
   .exact cz.1.1
   .cases hz
  refine fin none 0 0 true ev ?_;cases eq<;>exact k
 .rename_i sh l;rcases cz.1 with⟨e,hl⟩ | ⟨ad,cap,e,hl,_⟩ | ⟨b,off,cap,e,_⟩
  .exact fin _ _ _ true e (k true λ_=>hl)
  .exact fin _ _ _ true e (k false λhh=>by cases hh)
  .exact fin _ _ _ true e (k false λhh=>by cases hh)
 .rename_i i;split at k
  .rename_i t2 sh l hT;have hβ:β[i]?=some (.row (a.eval x)):=aj.ok.row_of (bG hT tr) cz.1;rcases aj.ok.holds i _ _ (bG hT tr) hβ with⟨e,hl⟩ | ⟨ra,e,hl⟩ | ⟨g,cap,cur,e,_⟩
   .exact fin _ _ _ true e (k true λ_=>hl)
   .exact fin _ _ _ true e (k false λhh=>by cases hh)
   .exact fin _ _ _ true e (k false λhh=>by cases hh)
  .cases k
 .cases k
theorem Xi{t' ty:TypeId}{i:TypeInfo}{z:Value} (ht:P.underlying t=some (.slice el)) (ht':P.underlying t'=some (.int .i64)) (hi:P.info? el=some i) (hz:i.zero=some z) (hs:1<=i.size) (n:Nat) (h0:0 < n) (h48:n * i.bytes<=140737488355328) (hb:1<=i.bytes):
 (Builtin.append_ #[t,t'] ty #[.slice none 0 0,.int .i64 n]).run P w =
  .ok (.slice (some ⟨w.heap.size,0,none⟩) n (grownCap w n 0 el)) (w.drew.alloc (.cells (Builtin.zeroCells z.cells n++Builtin.zeroCells z.cells (grownCap w n 0 el - n)) el)):=by
 have hn63:n<=140737488355328:=pq (A80 _ hb) h48;have hn:n≠0:=by omega
 have hw:IntKind.i64.wrap (n:Int)=n:=by simp[IntKind.wrap,IntKind.bits,IntKind.signed];omega
 have hneg:¬((n:Int) < 0):=by omega
 have h48i:¬((281474976710656:Int) < (n:Int) * (i.bytes:Int)):=by
  have:((n * i.bytes:Nat):Int)<=140737488355328:=by omega
  rw[Int.natCast_mul]at this;omega
 have h63':¬(9223372036854775807 < (n:Int)):=by omega
 have h48':¬(281474976710656 < Builtin.nextslicecap n 0 * i.bytes):=by rw[nextslicecap_zero h0];omega
 have hns:¬(n * i.size=0):=by
  intro hh;rcases Nat.mul_eq_zero.1 hh with h | h<;>omega
 have apc:¬(i.size=0):=by omega
 simp[Builtin.append_,run_underlying ht,run_underlying ht',sizeOf,typeInfo,zeroValue,hi,hz,Builtin.lenOf,hn,hw,hneg,h48i,h63',h48',Question.forced,run_firstCells_none,newRow,grownCap,asInt,asIntOf,hns,apc]
theorem UM(hc:bT P cx.ti) (aj:Sat N B h0 s h β w a) (hg:aI cx.gd h) (hd:kY N o.dst=true){t':TypeId}{x:Operand} (ho:o.op=.call c) (bQ:c.callee=.builtin .append) (ha:c.args=#[x,y]) (ht:c.argTypes=#[t,t'])
 (hx:bM cx s [] x=some (.one (.c (.v (.slice none 0 0))))) (k:Xc cx s o.dst t t' y K):Bj P N B h0 h w a o true K:=by
 have tr:gv s.gl []=true:=rfl;unfold Xc at k;split at k
 .rename_i hdi;have hui:=bK hc hdi (by simp)
  split at k
  .rename_i el hde;have hu:=bK hc hde (by simp)
   split at k
   .cases k
   rename_i ie hie;have tie:=hc.get hie;split at k
   .cases k
   rename_i sh hsh;split at k
   .rename_i hz;rw[aB,aB,bY,bY]at hz;have hz1:sh.size=ie.size:=iC hz.1;have hz2:1<=ie.bytes:=qm hz.2.1;have hz3:1<=ie.size:=qm hz.2.2;split at k
    .rename_i n hn;obtain⟨⟨hn0,hroom⟩,k⟩:=k;have ex:a.eval x=.slice none 0 0:=(aP aj hg tr hx:dh h β (.c (.v (.slice none 0 0))) (a.eval x)).1.1;have ey:a.eval y=.int .i64 n:=(aP aj hg tr hn:dh h β (.c (.v (.int .i64 n))) (a.eval y)).1.1;obtain⟨inf,z,i1,i2,i3,i4,i5⟩:=tie.info;obtain⟨m,rfl⟩:∃m:Nat,n=m:=⟨n.toNat,by omega⟩
     rw[A95]at hroom k;unfold nR at hroom;refine fV.weak (lq (P:=P) aj (o:=o) (G:=[]) rfl hd (r:=.row el sh (List.replicate m (qL sh))) (e:=.one (.c (.row (aQ s.T)))) (K:=K) k λ_=>?_)
     by_cases hm:m=0
     .subst hm;refine⟨.slice none 0 0,w,.row (.slice none 0 0),?_,bV _ _,λb hb=>by rw[bg]at hb;simp[aA]at hb,.inl ⟨rfl,rfl⟩,⟨_,kG (lu aj) _,rfl⟩,rfl,rfl⟩
      simp[execOp,ho,resolve,bQ,ha,ht,invoke,builtin,ex,ey,Builtin.append_,run_underlying hu,run_underlying hui,sizeOf,typeInfo,i1,asInt,asIntOf,IntKind.wrap,IntKind.bits,IntKind.signed]
     .have r:=Xi (P:=P) (w:=w) (ty:=o.type) hu hui i1 i4 (by omega) m (by omega) (by rw[i3];exact hroom) (by omega)
      have hge:=grownCap_ge w m 0 el;have hle:m<=140737488355328:=pq (A80 _ hz2) hroom;refine⟨.slice (some ⟨w.heap.size,0,none⟩) m (grownCap w m 0 el),w.drew.alloc (.cells (Builtin.zeroCells z.cells m++Builtin.zeroCells z.cells (grownCap w m 0 el - m)) el),.row (.slice (some ⟨w.heap.size,0,none⟩) m (grownCap w m 0 el)),?_,⟨⟨rfl,rfl,rfl,by simp,λk hk _=>(World.grownBy_alloc w.drew _ none).block k hk (by simp)⟩,TU _⟩,?_,?_,⟨_,kG (lu aj) _,rfl⟩,rfl,rfl⟩
      .simp only[execOp,ho,resolve,bQ,ha,ht,invoke,builtin,Sem.run_bind,Sem.run_pure,Result.andThen_ok];simp[ex,ey,r]
      .intro b hb;rw[bg]at hb;simp[aA]at hb;obtain⟨_,rfl⟩:=hb;simp
      .have WT:z.cells.size=ie.size:=by rw[i5];simpa using tie.pF
       have hzz:∀q,Builtin.zeroCells z.cells q=(iI q ie.zero).toArray:=by
        intro q;unfold Builtin.zeroCells;rw[i5];have:=qO (zero:=ie.zero) (n:=q) (by rw[tie.pF];omega)
        simpa using this
       refine .inr (.inr ⟨w.heap.size,_,_,by rw[J6],heap_alloc_new w.drew _,by rw[J6];omega,⟨by omega,grownCap_le_maxLen w m 0 el (by simp only[maxLen];omega)⟩,?_,?_⟩)
       .simp only[A85,size_zeroCells,WT,hz1,<-Kq];congr 1;omega
       .rw[J6,hzz,hzz];simp only[A96,List.toList_toArray];rw[A83 (by rw[uF,tie.pF,hz1];exact pz _),hz1,<-tie.pF,Ai (pz _)]
        exact IG (yL (tie.Wx sh hsh).1) _
    .cases k
   .cases k
  .cases k
 .cases k
theorem QT{l:List Value}:∀{m j:Nat},j < m->((iI m l).drop (j * l.length)).take l.length=l
 | m+1,0,_=>by simp[iI,fM]
 | m+1,j+1,h=>by
   simp only[iI,fM];rw[wY,V9,A78];exact QT (by omega)
theorem OH(hc:bT P cx.ti) (aj:Sat N B h0 s h β w a) (hg:aI cx.gd h) (hd:kY N o.dst=true){x:Operand} (ho:o.op=.makeSlice t x y){p:Prop}
 (hp:OD cx s o.dst t x y K=some p) (k:p):Bj P N B h0 h w a o true K:=by
 have tr:gv s.gl []=true:=rfl;unfold OD at hp;split at hp
 .rename_i el hde;have hu:=bK hc hde (by simp)
  split at hp
  .cases hp
  rename_i ie hie;have tie:=hc.get hie;split at hp
  .rename_i e hsh;split at hp
   .rename_i tt hte;split at hp
    .rename_i hz;rw[aB,aB,bY,bY]at hz;have hz1:1=ie.size:=iC hz.1;have hz2:1<=ie.bytes:=qm hz.2.1;have hz3:ie.zero=[ny]:=UJ hz.2.2;split at hp
     .rename_i ik n hn;split at hp
      .rename_i ik' c hcp;cases hp;refine(lq (G:=[]) aj rfl hd k.2 λhgv=>?_).weak
       obtain⟨s1,s2,s3⟩:=k.1;have e1:a.eval x=.int ik n:=(aP aj hg hgv hn).1.1;have e2:a.eval y=.int ik' c:=(aP aj hg hgv hcp).1.1;obtain⟨inf,z,i1,i2,i3,i4,i5⟩:=tie.info;unfold nR at s3;have hcb:c.toNat<=140737488355328:=pq (A80 _ hz2) s3;have hb:(inf.bytes:Int) * c<=281474976710656:=by
        rw[i3];have:((c.toNat * ie.bytes:Nat):Int)<=140737488355328:=by omega
        rw[Int.natCast_mul,Int.toNat_of_nonneg (by omega),Int.mul_comm]at this
        omega
       have r:=run_make (P:=P) w t el inf z hu i1 i4 ik ik' n c s1 s2 hb (by omega)
       have WU:madeCells z.cells (c.toNat * inf.size)=(iI c.toNat ie.zero).toArray:=by
        unfold madeCells;rw[i5,i2,<-tie.pF];exact qO (by rw[tie.pF];omega)
       rw[WU]at r;have hbn:∀{b:Nat},¬aA ny=some b:=by intro b hb';simp[ny,aA]at hb'
       refine⟨.slice (some ⟨w.heap.size,0,none⟩) n.toNat c.toNat,w.alloc (.cells (iI c.toNat ie.zero).toArray el),.deep (.slice (some ⟨w.heap.size,0,none⟩) n.toNat c.toNat) (λ_=>ny),?_,oC _ _ _,?_,?_,?_⟩
       .simp only[execOp,ho,e1,e2,Sem.run_bind,r,Result.andThen_ok,Sem.run_pure]
       .intro b hb';rw[aX]at hb';rcases hb' with hb' | ⟨j,hb'⟩
        .simp[aA]at hb';obtain⟨_,rfl⟩:=hb';simp
        .exact absurd hb' hbn
       .refine⟨λj k b hb'=>absurd hb' hbn,λj b hb'=>absurd hb' hbn,?_⟩
        by_cases hc0:c.toNat=0
        .have hn0:n.toNat=0:=by omega
         exact .inr (.inl ⟨⟨w.heap.size,0,none⟩,by rw[hc0,hn0],by rw[hn0];rfl⟩)
        refine .inr (.inr ⟨w.heap.size,c.toNat,_,by rw[J6],mJ _ _,by rw[J6];omega,⟨by omega,by simp only[maxLen];omega⟩,?_,λj=>hbn,λj dd hj=>?_⟩)
        .simp only[FT,uF,hz3];rfl
        .have hj':=(A8.1 hj).1;rw[J6]at hj';have ed:dd=[]:=by
          have:=iy hj;exact List.eq_of_mem_replicate this
         subst ed;have ecs:((iI c.toNat ie.zero).drop (j * 1)).take 1=[ny]:=by
          have:=QT (l:=ie.zero) (m:=c.toNat) (j:=j) (by omega)
          rw[hz3]at this ⊢;exact this
         show zY h _ (.sl e) tt e 0 true false ny (((iI c.toNat ie.zero).drop (j * 1)).take 1) [];rw[ecs];exact⟨[],[],⟨ny,rfl,.inl ⟨rfl,rfl⟩⟩,⟨rfl,rfl,rfl⟩,rfl,.inl ⟨rfl,rfl⟩⟩
       .exact⟨⟨_,kG (lu aj) _,rfl⟩,rfl,rfl⟩
      .cases hp
     .cases hp
    .cases hp
   .cases hp
  .cases hp
 .cases hp
theorem OK.Xj(ok:OK B h0 T h β w) (v:RV):OK B h0 (T++[.gone]) h (β++[v]) w where
 below:=ok.below
 dr:=ok.dr
 len:=by simp[ok.len]
 holds:=by
  intro i r' v' e e';rcases aC e with⟨hi,e⟩ | ⟨hi,rfl⟩
  .rcases aC e' with⟨_,e'⟩ | ⟨hj,_⟩
   .exact(ok.holds i r' v' e e').move (FH.le.refl h) (Ext.append _ _) λhl b hb=>rfl
   .have:=ok.len;omega
  .cases v'<;>trivial
 own:=by
  intro i r' v' b e hl e' hb;rcases aC e with⟨hi,e⟩ | ⟨hi,rfl⟩
  .rcases aC e' with⟨_,e'⟩ | ⟨hj,_⟩
   .exact ok.own i r' v' b e hl e' hb
   .have:=ok.len;omega
  .cases hl
 inj:=by
  intro i j r1 r2 u v' b ei hl1 ej hl2 eu ev hu hv';have L:=ok.len;rcases aC ei with⟨hi,ei⟩ | ⟨hi,rfl⟩
  .rcases aC ej with⟨hj,ej⟩ | ⟨hj,rfl⟩
   .rcases aC eu with⟨_,eu⟩ | ⟨hi',_⟩
    .rcases aC ev with⟨_,ev⟩ | ⟨hj',_⟩
     .exact ok.inj i j r1 r2 u v' b ei hl1 ej hl2 eu ev hu hv'
     .omega
    .omega
   .cases hl2
  .cases hl1
 hle:=ok.hle
 hw:=ok.hw
 hg:=ok.hg
 kn:=ok.kn
theorem wI{i:Nat}{z:SC}{g g':Gd×ay}:∀{T:List (Gd×ay)},cZ (rW i z (snoc T g)) (aQ T) g'=snoc (rW i z T) g'
 | []=>rfl
 | x :: T=>by
   show cZ (_ :: rW i z (snoc T g)) (aQ T+1) g'=_ :: snoc (rW i z T) g';show _ :: cZ (rW i z (snoc T g)) (aQ T) g'=_;rw[wI]
theorem Xk(hc:bT P cx.ti) (aj:Sat N B h0 s h β w a) (hg:aI cx.gd h) (hd:kY N o.dst=true){x m:Operand} (ho:o.op=.slice t x lo hi (some m))
 (k:aik cx s o.dst t x lo hi m K):Bj P N B h0 h w a o true K:=by
 have tr:gv s.gl []=true:=rfl;unfold aik at k;split at k
 .rename_i el hde;have hu:=bK hc hde (by simp)
  split at k
  .cases k
  rename_i ie hie;have tie:=hc.get hie;split at k
  .cases k
  rename_i hlo;split at k
  .cases k
  rename_i hh;split at k
  .rename_i ik n hn;split at k
   .rename_i ik' n' hn';split at k
    .rename_i sh l hx;split at k
     .rename_i hz;have hz:ie.size=sh.size:=iC hz;obtain⟨⟨b1,b2,b3⟩,k⟩:=k;subst b3;have eh:a.eval hh=.int ik n:=(aP aj hg tr hn:dh h β (.c (.v (.int ik n))) (a.eval hh)).1.1;have em:a.eval m=.int ik' n:=(aP aj hg tr hn':dh h β (.c (.v (.int ik' n))) (a.eval m)).1.1;have Gz:=(aP aj hg tr hx:dh h β (.c (.sl sh l)) (a.eval x));have aip:lo.map a.eval=none\/∃k,lo.map a.eval=some (.int k 0):=by
       cases lo with
       | none=>exact .inl rfl
       | some z=>
         obtain⟨kz,rfl⟩:=yS (show F7 z=true from hlo)
         exact .inr ⟨kz,rfl⟩
      have run:∀(ad:Option Addr) (len cap:Nat),a.eval x=.slice ad len cap->n<=len->len<=cap->(execOp a.eval o).run P w=.ok (.value (.slice ad n.toNat n.toNat)) w:=by
       intro ad len cap ev h1 h2;have hb:(0:Int)<=n/\n<=cap:=by omega
       have apd:(Instr.sliceBounds true len cap (lo.map a.eval) (some (.int ik n)) (some (.int ik' n))).run P w=.ok (0,n.toNat,n.toNat) w:=by
        unfold Instr.sliceBounds;rcases aip with e | ⟨k,e⟩
        .rw[e];simp[Instr.sliceBound,asIntOf,hb];omega
        .rw[e];simp[Instr.sliceBound,asIntOf,hb];omega
       have r2:(Instr.sliceAt t (a.eval x) (lo.map a.eval) ((some hh).map a.eval) ((some m).map a.eval)).run P w=.ok (.slice ad n.toNat n.toNat) w:=by
        rw[ev];simp only[Instr.sliceAt,Instr.slice,Sem.run_bind,run_underlying hu,Result.andThen_ok,VO,eh,em,apd,run_sizeOf tie,Sem.run_pure];cases ad<;>simp[Addr.add]
       simp only[execOp,ho,Sem.run_bind];rw[r2];rfl
      rcases Gz.1 with⟨ev,hl⟩ | ⟨ra,cap,ev,hl,hc'⟩ | ⟨b,off,cap,ev,q1,q2,cs,rd,at_⟩
      .have hn0:n.toNat=0:=by rw[hl]at b2;simp at b2;omega
       refine oM aj hd (e:=.one (.c (.abs (.Uj sh (l.take n.toNat))))) (run none 0 0 ev (by rw[hl]at b2;simpa using b2) (pz _)) ⟨⟨?_,none,_,rfl⟩,rfl,rfl⟩ k
       rw[hn0,hl];exact .inl ⟨rfl,rfl⟩
      .have hn0:n.toNat=0:=by rw[hl]at b2;simp at b2;omega
       refine oM aj hd (e:=.one (.c (.abs (.Uj sh (l.take n.toNat))))) (run (some ra) 0 cap ev (by rw[hl]at b2;simpa using b2) (Ko _)) ⟨⟨?_,some ra,_,rfl⟩,rfl,rfl⟩ k
       rw[hn0,hl];exact .inr (.inl ⟨ra,0,rfl,rfl,Ko _⟩)
      .have hlen:(l.take n.toNat).length=n.toNat:=by rw[kX];omega
       refine oM aj hd (e:=.one (.c (.abs (.Uj sh (l.take n.toNat))))) (run (some ⟨b,off,none⟩) l.length cap ev b2 q1) ⟨⟨.inr (.inr ⟨b,off,n.toNat,by rw[hlen],by rw[hlen];exact pz _,by omega,cs.take (n.toNat * sh.size),?_,?_⟩),_,_,rfl⟩,rfl,rfl⟩ k
       .have:=gq.uq (λ_ _=>Rd.size sh) rd (a:=0) (b:=n.toNat) (Ko _) (by omega)
        simpa using this
       .have:=at_.shift (n.toNat * sh.size) 0;simpa using this
     .cases k
    .cases k
   .cases k
  .cases k
 .cases k
theorem D8{ty:TypeId}{i:TI}{sh:Sh}{sv:Value}{l l2:List sh.den} (hu:P.underlying t=some (.slice el)) (k:aN P el i) (hs:sh.size=i.size)
 (hb1:1<=i.bytes) (hs1:1<=i.size) (row:qC h (Rd h sh) v l/\∃a n,v=.slice a n n) (src:WS h w sh sv l2) (room:nR (l.length+l2.length) i.bytes)
 (hw:∀b o u,h b o=some u->vis w b o=some u):
 ∃v' w',(Builtin.append_ #[t,t] ty #[v,sv]).run P w=.ok v' w'/\((l2=[]/\v'=v/\w'=w)\/(Gb w w' none/\(∀b,aA v'=some b->w.heap.size<=b/\b < w'.heap.size)/\QD h w' el sh v' (l++l2))):=by
 obtain⟨inf,z,i1,i2,i3,i4,i5⟩:=k.info;unfold nR at room;obtain⟨row,va,vn,ve⟩:=row;have hn:l.length+l2.length<=140737488355328:=pq (A80 _ hb1) room;have WT:z.cells.size=i.size:=by rw[i5];simpa using k.pF
 rcases src with⟨rfl,rfl⟩ | ⟨sa,sc,rfl,rfl⟩ | ⟨b,o,c,cs,rfl,rd,at_⟩
 .refine⟨v,w,?_,.inl ⟨rfl,rfl,rfl⟩⟩;rcases row with⟨rfl,rfl⟩ | ⟨_,cp,rfl,rfl,_⟩ | ⟨g,off,cap,rfl,q1,q2,q3⟩
  .simp[Builtin.append_,run_underlying hu,sizeOf,typeInfo,i1,Builtin.lenOf,Builtin.firstCells]
  .simp[Builtin.append_,run_underlying hu,sizeOf,typeInfo,i1,Builtin.lenOf,Builtin.firstCells,storeCells]
  .simp[Builtin.append_,run_underlying hu,sizeOf,typeInfo,i1,Builtin.lenOf,Builtin.firstCells,q1,storeCells]
 .refine⟨v,w,?_,.inl ⟨rfl,rfl,rfl⟩⟩;rcases row with⟨rfl,rfl⟩ | ⟨_,cp,rfl,rfl,_⟩ | ⟨g,off,cap,rfl,q1,q2,q3⟩
  .simp[Builtin.append_,run_underlying hu,sizeOf,typeInfo,i1,Builtin.lenOf,Builtin.firstCells,loadCells,loadCellsFrom]
  .simp[Builtin.append_,run_underlying hu,sizeOf,typeInfo,i1,Builtin.lenOf,Builtin.firstCells,storeCells,loadCells,loadCellsFrom]
  .simp[Builtin.append_,run_underlying hu,sizeOf,typeInfo,i1,Builtin.lenOf,Builtin.firstCells,q1,storeCells,loadCells,loadCellsFrom]
 .have hcs:cs.length=l2.length * inf.size:=by rw[gq.size (λ_ _=>Rd.size sh) rd,i2,hs]
  have hnews:∀j u,cs[j]?=some u->w.cell? ((⟨b,o,none⟩:Addr).add j)=some u:=λj u e=>by rw[add_lit];exact at_ j u e
  by_cases hm:l2.length=0
  .have:l2=[]:=VI hm;subst this;refine⟨v,w,?_,.inl ⟨rfl,rfl,rfl⟩⟩;rcases row with⟨rfl,rfl⟩ | ⟨_,cp,rfl,rfl,_⟩ | ⟨g,off,cap,rfl,q1,q2,q3⟩
   .simp[Builtin.append_,run_underlying hu,sizeOf,typeInfo,i1,Builtin.lenOf,Builtin.firstCells,loadCells,loadCellsFrom]
   .simp[Builtin.append_,run_underlying hu,sizeOf,typeInfo,i1,Builtin.lenOf,Builtin.firstCells,storeCells,loadCells,loadCellsFrom]
   .simp[Builtin.append_,run_underlying hu,sizeOf,typeInfo,i1,Builtin.lenOf,Builtin.firstCells,q1,storeCells,loadCells,loadCellsFrom]
  .rcases row with⟨rfl,rfl⟩ | ⟨ra,cp,rfl,rfl,hcp⟩ | ⟨g,off,cap,rfl,q1,q2,c0,q3,q4⟩
   .have r:=run_append_nil (P:=P) w t ty el inf z hu i1 i4 ⟨b,o,none⟩ l2.length c cs hcs hnews (by omega) (by simp at hn;omega) (by rw[i3];simp at room;omega)
    have hge:=grownCap_ge w l2.length 0 el;refine⟨_,_,r,.inr ⟨⟨⟨rfl,rfl,rfl,by simp,λk hk _=>(World.grownBy_alloc w.drew _ none).block k hk (by simp)⟩,TU _⟩,?_,?_⟩⟩
    .intro b' hb';simp[aA]at hb';obtain⟨_,rfl⟩:=hb';simp
    .refine .inr (.inr ⟨w.heap.size,_,_,rfl,heap_alloc_new w.drew _,by simpa using hge,⟨by omega,grownCap_le_maxLen w l2.length 0 el (by simp only[maxLen];simp at hn;omega)⟩,?_,?_⟩)
     .simp only[A85,FT,size_zeroCells,WT,hcs,i2,hs,<-Kq]
      congr 1;omega
     .simp only[A96,TS];rw[show l2.length * sh.size=cs.length by rw[hcs,i2,hs],VX]
      exact rd
   .have ape:cp=0:=by cases ve;rfl
    subst ape;have r:=run_append_grow (P:=P) w t ty el inf z hu i1 i4 ra 0 0 [] (by simp) (λj u e=>by simp at e) ⟨b,o,none⟩ l2.length c cs hcs hnews (by omega) (by simp at hn;omega) (growslice_fits (by omega) (by rw[i3];simpa using room))
    rw[Dk]at r;have hge:=grownCap_ge w l2.length 0 el;refine⟨_,_,r,.inr ⟨⟨⟨rfl,rfl,rfl,by simp,λk hk _=>(World.grownBy_alloc w.drew _ none).block k hk (by simp)⟩,TU _⟩,?_,?_⟩⟩
    .intro b' hb';simp[aA]at hb';obtain⟨_,rfl⟩:=hb';simp
    .refine .inr (.inr ⟨w.heap.size,_,_,rfl,heap_alloc_new w.drew _,by simpa using hge,⟨by omega,grownCap_le_maxLen w l2.length 0 el (by simp only[maxLen];simp at hn;omega)⟩,?_,?_⟩)
     .simp only[A85,FT,size_zeroCells,WT,TS,hcs,i2,hs,Dk,J9,<-Kq]
      congr 1;omega
     .simp only[A96,TS];rw[show l2.length * sh.size=cs.length by rw[hcs,i2,hs],VX]
      exact rd
   .have hcap:cap=l.length:=by injection ve with e1 e2 e3;omega
    subst hcap;have lsz:=gq.size (λ_ _=>Rd.size sh) q3
    have hol:c0.length=l.length * inf.size:=by rw[lsz,i2,hs]
    have holds:∀j u,c0[j]?=some u->w.cell? ((⟨g,off,none⟩:Addr).add j)=some u:=by
     intro j u e;rw[add_lit];exact Dl (hw _ _ _ (q4 j u e)) (gq.all (λ_ _=>Rd.one _) q3 u (iy e)).2
    have r:=run_append_grow (P:=P) w t ty el inf z hu i1 i4 ⟨g,off,none⟩ l.length l.length _ hol holds ⟨b,o,none⟩ l2.length c cs hcs hnews (by omega) (by omega) (growslice_fits (by omega) (by rw[i3];exact room))
    have hge:=grownCap_ge w (l.length+l2.length) l.length el;refine⟨_,_,r,.inr ⟨⟨⟨rfl,rfl,rfl,by simp,λk hk _=>(World.grownBy_alloc w.drew _ none).block k hk (by simp)⟩,TU _⟩,?_,?_⟩⟩
    .intro b' hb';simp[aA]at hb';obtain⟨_,rfl⟩:=hb';simp
    .refine .inr (.inr ⟨w.heap.size,_,_,by rw[kC],heap_alloc_new w.drew _,by rw[kC];exact hge,⟨by omega,grownCap_le_maxLen w _ l.length el (by simp only[maxLen];omega)⟩,?_,?_⟩)
     .have ah6:c0.length=l.length * i.size:=by rw[<-hs];exact lsz
      simp only[A85,FT,size_zeroCells,WT,hcs,i2,hs,ah6,<-Kq]
      congr 1
      omega
     .simp only[A96,zX];rw[<-zX,show(l++l2).length * sh.size=(c0++cs).length by rw[kC,kC,Kq,hcs,lsz,i2,hs],VX]
      exact q3.append rd
theorem KX(hc:bT P cx.ti) (aj:Sat N B h0 s h β w a) (hg:aI cx.gd h) (hd:kY N o.dst=true){x:Operand} (ho:o.op=.call c) (bQ:c.callee=.builtin .append) (ha:c.args=#[x,y]) (ht:c.argTypes=#[t,t])
 (k:IV cx s o.dst t x y K):Bj P N B h0 h w a o true K:=by
 have tr:gv s.gl []=true:=rfl;unfold IV iM at k;split at k
 .rename_i el hde;have hu:=bK hc hde (by simp)
  split at k
  .cases k
  rename_i ie hie;have tie:=hc.get hie;split at k
  .cases k
  rename_i sh hsh;split at k
  .rename_i hz;rw[aB,aB,bY,bY]at hz;have hz1:sh.size=ie.size:=iC hz.1;have hz2:1<=ie.bytes:=qm hz.2.1;have hz3:1<=ie.size:=qm hz.2.2;split at k
   .rename_i fG l1 hx;split at k
    .rename_i l hl;obtain⟨e1,e2⟩:=oI hl;subst e1;simp only at e2;subst e2;split at k
     .rename_i v2 hv2;have c2:=aP aj hg tr hv2;split at k
      .rename_i l2 hl2;obtain⟨k1,k⟩:=k;have src:=Ce aj hl2 c2;have Gz:=(aP aj hg tr hx:dh h β (.c (.abs (.Uj fG l1))) (a.eval x));obtain⟨v',w',r1,r2⟩:=D8 (P:=P) (ty:=o.type) hu tie hz1 hz2 hz3 Gz.1 src k1 aj.ok.hw;have exec:(execOp a.eval o).run P w=.ok (.value v') w':=by
        have r1':=r1;simp[execOp,ho,resolve,bQ,ha,ht,invoke,builtin,r1']
       have hlen:aQ s.T=β.length:=by rw[aj.ok.len,iK,bF]
       have gT:∀(r:ay),∀p∈snoc s.T (([]:Gd),r),vk s.gl.length p.1=true:=by
        intro r p hp;rw[gY,FI]at hp;rcases hp with hp | hp
        .exact aj.gT p hp
        .simp at hp;subst hp;rfl
       have fin:∀(r:ay) (h':FH) (s1:Sat N B h0 { s with T:=snoc s.T ([],r) } h (β++[.row v']) w' a),h.le h'->OK B h0 ((eff s.gl (snoc s.T ([],r))).set (aQ s.T) .gone) h' (β++[.row v']) w'->qC h' (Rd h' fG) v' (l1++l2)->Bj P N B h0 h w a o true K:=by
        intro r h' s1 le ok' sl;have fQ:(eff s.gl (snoc s.T (([]:Gd),r)))[aQ s.T]?=some r:=by
         rw[iP,hlen,aj.ok.len,NM (pz _),V8];rfl
        have bJ:=s1.IY (z:=.sl fG (l1++l2)) (i:=aQ s.T) (u:=.row v') (v:=v') fQ (by rw[hlen];simp) rfl le ok' sl
        rw[show cZ (rW (aQ s.T) (.sl fG (l1++l2)) (snoc s.T (([]:Gd),r))) (aQ s.T) (([]:Gd),ay.gone)=snoc (rW (aQ s.T) (.sl fG (l1++l2)) s.T) (([]:Gd),ay.gone) from wI]at bJ
        intro Nx Q next
        rw[if_pos rfl];exact kF exec (next _ _ _ _ _ k le (bJ.put (dR hd) rfl (λ_=>⟨sl,sl.dF⟩) λhh=>by cases hh))
       rcases r2 with⟨e1,e2,e3⟩ | ⟨r2,r3,r4⟩
       .have hw':w=w':=e3.symm;subst hw';subst e2;subst e1;have ok:OK B h0 (eff s.gl (snoc s.T (([]:Gd),ay.gone))) h (β++[.row (a.eval x)]) w:=by rw[iP];exact aj.ok.Xj _
        have s1:=aj.mem ok (FH.le.refl h) (Ext.append _ _) (gT .gone);refine fin .gone h s1 (FH.le.refl h) ?_ (by rw[Qo];exact Gz.1.1)
        rw[gX]
        .exact ok
        .rw[iP,hlen,aj.ok.len,NM (pz _),V8];rfl
       .have ok:OK B h0 (eff s.gl (snoc s.T (([]:Gd),ay.row el fG (l1++l2)))) h (β++[.row v']) w':=by
         rw[iP];exact aj.ok.add r2 (λb hb=>r3 b (bg.1 hb)) r4
        have s1:=aj.mem ok (FH.le.refl h) (Ext.append _ _) (gT _);have fQ:(eff s.gl (snoc s.T (([]:Gd),ay.row el fG (l1++l2))))[aQ s.T]?=some (.row el fG (l1++l2)):=by
         rw[iP,hlen,aj.ok.len,NM (pz _),V8];rfl
        obtain⟨h',le,ok',sl⟩:=ok.freeze fQ (show(β++[.row v'])[aQ s.T]?=some (.row v') by rw[hlen];simp)
        exact fin _ h' s1 le ok' sl
      .cases k
     .cases k
    .cases k
   .cases k
  .cases k
 .cases k
theorem ac2(hc:bT P cx.ti) (aj:Sat N B h0 s h β w a) (hg:aI cx.gd h) (hd:kY N o.dst=true){ops:Array Oper}{p:Prop} (e:ain cx s o K=some p) (k:p):Bj P N B h0 h w a o (Region.wanted o (yielded ops a.tmps)) K:=by
 unfold ain at e;split at e
 .cases e
 rename_i hgd;rw[show Region.wanted o (yielded ops a.tmps)=true by simp[Region.wanted,hgd]]
 split at e
 .rename_i t x lo hi mx ho;split at e
  .rename_i m;split at e
   .rename_i hm;cases e;exact Xe hc aj hg hd ho hm k
   .cases e;exact Xk hc aj hg hd ho k
  .split at e
   .rename_i i hx;cases e;exact OE hc aj hg hd ho hx k
   .rename_i hx;cases e;exact Xf hc aj hg hd ho hx k
   .cases e
 .rename_i op t x y t' ho;split at e
  .cases e
  .rename_i eq he;split at e
   .rename_i hy;split at e
    .rename_i z hx;split at e
     .rename_i hz;rw[aB,bY]at hz;cases e;exact OG hc aj hg hd ho he hy hx hz.1 hz.2 k
     .cases e
    .cases e
   .cases e
 .rename_i c ho;split at e
  .rename_i bQ;split at e
   .rename_i x y ha;split at e
    .rename_i t t' ht;split at e
     .rename_i hb;have hb:t=t':=iC hb;subst hb;split at e
      .cases e;exact KX hc aj hg hd ho bQ (iH ha) (iH ht) k
      .cases e
     .split at e
      .rename_i hx;cases e;exact UM hc aj hg hd ho bQ (iH ha) (iH ht) hx k
      .cases e
    .cases e
   .cases e
  .rename_i bQ;split at e
   .rename_i x ha;split at e
    .rename_i t ht;cases e;exact Xg hc aj hg hd ho bQ (iH ha) (iH ht) k
    .cases e
   .cases e
  .rename_i bQ;split at e
   .rename_i x y ha;cases e;exact Xh aj hg hd ho bQ (iH ha) k
   .cases e
  .cases e
 .rename_i t ln cp ho;split at e
  .exact OH hc aj hg hd ho e k
  .cases e
 .rename_i t n ps ho;split at e
  .cases e
  .rename_i i r hr;cases e;obtain⟨h',le,aW⟩:=aj.FP (l:=i :: r);have:=tu hc aW (hg.mono le) (G:=[]) rfl hd ho k;exact Bj.le le this.weak
 .cases e
end
end Go.jf
