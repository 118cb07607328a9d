/- Part 2 of the proof. Conditions: the rows'. -/
import Derived.Test.YtjhenjhcbcalpaaGreatDoorB1
import Derived.Still
set_option linter.unusedSimpArgs false
set_option linter.unusedVariables false
set_option maxRecDepth 1000000
set_option maxHeartbeats 8000000
namespace Go.lH
open Go Go.RowKit
variable {w w':World}{P:Program}{o:Oper}{a:Act}{v:Value}{n r i:Nat}{h' h h0:FH}{β' β:List RV}{t el:TypeId}{y:Operand}{u:RV}{T:List ak}{c:Call}{f:FuncId}{B:Base}{z:SC}{lo hi:Option Operand}
theorem lX.Jy(h:Gb w w' none):lX w w':=⟨h.size,λk hk=>h.block k hk (by simp)⟩
theorem lX.of_below(h:Below w.heap.size w w'):lX w w':=⟨h.size,h.block⟩
def quietly:Op->Bool
 | .store ..=>false
 | .call c=>match c.callee with
   | .builtin .len=>true
   | .builtin _=>false
   | .value (.tmp _)=>false
   | _=>true
 | _=>true
def fO(P:Program) (N:Nat) (B:Base) (h0 h:FH) (w:World) (a:Act) (o:Oper) (wanted:Bool) (K:St->Prop):Prop:=
 ∀(Nx:Act->World->Prop) (Q:Exit->Act->World->Prop),
   (∀s' h' β' w' v,K s'->h.le h'->(quietly o.op=true->lX w w')->Sat N B h0 s' h' β' w' (a.put o.dst v)->Nx (a.put o.dst v) w') ->
   if wanted=true then o.wp P a w Nx Q else Nx (a.put o.dst undef) w
theorem jI{Nx:Act->World->Prop}{Q:Exit->Act->World->Prop} (h:(execOp a.eval o).run P w=.ok (.value v) w') (k:Nx (a.put o.dst v) w'):o.wp P a w Nx Q:=by
 unfold Oper.wp;rw[h];exact k
theorem Vm{Nx:Act->World->Prop}{Q:Exit->Act->World->Prop} (h:(execOp a.eval o).run P w=.ok .skip w') (k:Nx (a.put o.dst undef) w'):o.wp P a w Nx Q:=by
 unfold Oper.wp;rw[h];exact k
abbrev kU(n:Nat):Option Nat->Bool
 | none=>true
 | some d=>Nat.ble (d+1) n
theorem dI{d:Option Nat} (h:kU n d=true):∀k,d=some k->k < n:=by
 intro k hk;subst hk;have:=oZ h;omega
section
variable {cx:Cx}{P:Program}{N:Nat}{B:Base}{h0:FH}{s:St}{h:FH}{β:List RV}{w:World}{a:Act}{G:Gd}{o:Oper}{K:St->Prop}
theorem Fv(hc:bJ P cx.ti) (aj:Sat N B h0 s h β w a) (hg:aI cx.gd h) (hG:uK s.gl.length G=true) (hd:kU N o.dst=true) (k:mG cx s G o λe=>K (s.put o.dst G e)):
 fO P N B h0 h w a o (gv s.gl G) K:=by
 intro Nx Q next
 obtain⟨e,k1,k2⟩:=CB hc aj hg k;cases hgv:gv s.gl G with
 | true=>
   obtain⟨v,r,c⟩:=k2 hgv;rw[if_pos rfl];exact jI r (next _ _ _ _ _ k1 (FH.le.refl h) (λ_=>lX.refl w) (aj.put (dI hd) hG (λ_=>c) λhh=>by rw[hgv]at hh;cases hh))
 | false=>
   rw[if_neg (by simp)]
   exact next _ _ _ _ _ k1 (FH.le.refl h) (λ_=>lX.refl w) (aj.put (dI hd) hG (λhh=>by rw[hgv]at hh;cases hh) λ_=>rfl)
theorem bW(w:World) (r:Option Nat):Gb w w r:=⟨⟨rfl,rfl,rfl,oq _,λ_ _ _=>rfl⟩,oq _⟩
theorem kG(aj:Sat N B h0 s h β w a) (hG:uK s.gl.length G=true) (hd:kU N o.dst=true){r:ak}{e:bF} (k:K ({ s with T:=snoc s.T (G,r) }.put o.dst G e))
 (run:gv s.gl G=true->∃v w' rv,(execOp a.eval o).run P w=.ok (.value v) w'/\Gb w w' none/\(∀b,rv.has b->w.heap.size<=b/\b < w'.heap.size) /\
  Holds h (β++[rv]) w' r rv/\jw h (β++[rv]) e v):
 fO P N B h0 h w a o (gv s.gl G) K:=by
 intro Nx Q next
 have gT:∀p∈snoc s.T (G,r),uK s.gl.length p.1=true:=by
  intro p hp;rw[gZ,Et]at hp;rcases hp with hp | hp
  .exact aj.gT p hp
  .simp at hp;subst hp;exact hG
 cases hgv:gv s.gl G with
 | true=>
   obtain⟨v,w',rv,h1,h2,h3,h4,h5⟩:=run hgv;rw[if_pos rfl];refine jI h1 (next _ h (β++[rv]) _ _ k (FH.le.refl h) (λ_=>lX.Jy h2) ?_)
   have ok:OK B h0 (eff s.gl (snoc s.T (G,r))) h (β++[rv]) w':=by
    rw[iw,hgv];exact aj.ok.add h2 h3 h4
   exact(aj.mem ok (FH.le.refl h) (Ext.append _ _) gT).put (dI hd) hG (λ_=>h5) λhh=>by simp only at hh;rw[hgv]at hh;cases hh
 | false=>
   rw[if_neg (by simp)]
   refine next _ h (β++[.no]) _ _ k (FH.le.refl h) (λ_=>lX.refl w) ?_
   have ok:OK B h0 (eff s.gl (snoc s.T (G,r))) h (β++[.no]) w:=by
    rw[iw,hgv];exact aj.ok.add (bW w none) (λb hb=>(MF hb).elim) trivial
   exact(aj.mem ok (FH.le.refl h) (Ext.append _ _) gT).put (dI hd) hG (λhh=>by simp only at hh;rw[hgv]at hh;cases hh) λ_=>rfl
theorem lQ(aj:Sat N B h0 s h β w a){s':St} (k:K s') (hgv:gv s.gl G=true) (hq:quietly o.op=false)
 (run:(execOp a.eval o).run P w=.ok (.value v) w'\/((execOp a.eval o).run P w=.ok .skip w'/\v=undef)) (le:h.le h') (aP:Sat N B h0 s' h' β' w' (a.put o.dst v)):
 fO P N B h0 h w a o (gv s.gl G) K:=by
 intro Nx Q next
 rw[if_pos hgv];rcases run with run | ⟨run,rfl⟩
 .exact jI run (next _ _ _ _ _ k le (λhh=>by rw[hq]at hh;cases hh) aP)
 .exact Vm run (next _ _ _ _ _ k le (λhh=>by rw[hq]at hh;cases hh) aP)
end
abbrev MQ:Sh->Bool
 | .arr _ _=>true
 | .pair a b=>match MQ a with
   | true=>true
   | false=>MQ b
 | _=>false
abbrev Pn(t:TypeId) (i:TI):ak:=match i.ig with
 | some s=>match MQ s with
   | true=>.obj t s (pX s)
   | false=>.blk t (dV SC.v i.zero)
 | none=>.blk t (dV SC.v i.zero)
abbrev G6(cx:Cx) (s:St) (G:Gd) (d:Option Nat) (t:TypeId) (K:St->Prop):Prop:=match oJ cx.ti t with
 | none=>False
 | some i=>K ({ s with T:=snoc s.T (G,Pn t i) }.put d G (.one (.c (.own (aN s.T) 0))))
abbrev MR(t:TypeId) (v:SV):Option ak:=match v with
 | .dat sh d=>some (.obj t sh d)
 | v=>match mQ v with
   | some xs=>some (.blk t xs)
   | none=>none
abbrev aa3(cx:Cx) (s:St) (G:Gd) (d:Option Nat) (t:TypeId) (x:Operand) (K:St->Prop):Prop:=match bH cx s G x with
 | some (.one v)=>match MR t v with
   | some r=>K ({ s with T:=snoc s.T (G,r) }.put d G (.one (.c (.own (aN s.T) 0))))
   | none=>False
 | _=>False
theorem lS(w:World) (o:Obj):(w.alloc o).heap[w.heap.size]?=some o:=heap_alloc_new w o
theorem Sv{v:SV}{r:ak}{y:Value}{b:Nat} (e:MR t v=some r) (c:cZ h β v y) (eb:Ext β β')
 (hw:w.heap[b]?=some (.cells y.cells t (0,0))):Holds h β' w r (.blk b):=by
 unfold MR at e;split at e
 .cases e;obtain⟨_,cs,rfl,rd⟩:=c;exact⟨cs,hw,rd⟩
 .split at e
  .rename_i xs hx;cases e;refine⟨y.cells.toList,by simpa using hw,(wE hx c).mono λ_ _ ⟨p,q⟩=>⟨p.mono (FH.le.refl h) eb,q⟩⟩
  .cases e
section
variable {cx:Cx}{P:Program}{N:Nat}{B:Base}{h0:FH}{s:St}{h:FH}{β:List RV}{w:World}{a:Act}{G:Gd}{o:Oper}{K:St->Prop}
theorem jJ(hn:β.length=n) (v:RV):(β++[v])[n]?=some v:=by
 subst hn;simp
theorem kH(aj:Sat N B h0 s h β w a):β.length=aN s.T:=by
 rw[aj.ok.len,iK,aZ]
theorem xU{s:Sh}{cs:List Value}{d:s.den} (r:Rd (λ_ _=>none) s cs d):Rd h s cs d:=r.mono (λ_ _ _ e=>by cases e) s
theorem MS(hc:bJ P cx.ti) (aj:Sat N B h0 s h β w a) (hG:uK s.gl.length G=true) (hd:kU N o.dst=true) (ho:o.op=.alloc t) (k:G6 cx s G o.dst t K):
 fO P N B h0 h w a o (gv s.gl G) K:=by
 unfold G6 at k;split at k
 .cases k
 rename_i i hi;have ti:=hc.get hi;refine kG aj hG hd k λhgv=>?_
 obtain⟨z,hz1,hz2⟩:=sS ti w;refine⟨.pointer (some ⟨w.heap.size,0,none⟩),w.alloc (.cells z.cells t),.blk w.heap.size,?_,nG _ _ _,?_,?_,?_⟩
 .simp only[execOp,ho,Instr.alloc,newVar,newRow,Sem.run_bind,hz1,Result.andThen_ok,run_newObj,Sem.run_pure];rfl
 .intro b hb;rw[kE]at hb;subst hb;simp
 .have hn:=lS w (.cells z.cells t);unfold Pn;split
  .rename_i sh hs;split
   .exact⟨i.zero,by rw[hn,hz2],xU (ti.U8 _ hs).1⟩
   .exact⟨i.zero,by rw[hn,hz2],gy ti.zone⟩
  .exact⟨i.zero,by rw[hn,hz2],gy ti.zone⟩
 .exact⟨⟨_,jJ (kH aj) _,rfl⟩,iy _⟩
theorem Vo(hc:bJ P cx.ti) (aj:Sat N B h0 s h β w a) (hg:aI cx.gd h) (hG:uK s.gl.length G=true) (hd:kU N o.dst=true){x:Operand} (ho:o.op=.box t x) (k:aa3 cx s G o.dst t x K):
 fO P N B h0 h w a o (gv s.gl G) K:=by
 unfold aa3 at k;split at k
 .rename_i v hv;split at k
  .rename_i r hr;refine kG aj hG hd k λhgv=>?_
   have hx:=aK aj hg hgv hv;refine⟨.pointer (some ⟨w.heap.size,0,none⟩),w.alloc (.cells (a.eval x).cells t),.blk w.heap.size,?_,nG _ _ _,?_,?_,?_⟩
   .simp only[execOp,ho,Instr.box,newVar,newRow,Sem.run_bind,Result.andThen_ok,run_newObj,Sem.run_pure];rfl
   .intro b hb;rw[kE]at hb;subst hb;simp
   .exact Sv hr hx (Ext.append _ _) (lS _ _)
   .exact⟨⟨_,jJ (kH aj) _,rfl⟩,iy _⟩
  .cases k
 .cases k
end
abbrev gY{α:Type}:Nat->List α->List α
 | 0,_=>[]
 | n+1,l=>dS l (gY n l)
abbrev lT(cx:Cx) (s:St) (G:Gd) (d:Option Nat) (t:TypeId) (n:Nat) (parts:List (Nat×Operand)) (K:St->Prop):Prop:=match descOf cx t with
 | .slice el=>match oJ cx.ti el with
   | none=>False
   | some ie=>match ie.ig with
     | none=>False
     | some sh=>match wF cx s G parts with
       | none=>False
       | some ps=>match dA (Nat.ble (n * ie.size) 16777216) (Nat.ble 1 ie.size) with
         | false=>False
         | true=>match sO (λj=>some (j * ie.size,ie.size)) (gY n (dV SC.v ie.zero)) ps with
           | none=>False
           | some xs=>match dA (Nat.beq sh.size ie.size) (Nat.beq (aN xs) (n * ie.size)) with
             | false=>False
             | true=>match takeN sh n xs with
               | some (l,[])=>K ({ s with T:=snoc s.T (G,.row el sh l) }.put d G (.one (.c (.row (aN s.T)))))
               | _=>False
 | _=>False
theorem CG{α β:Type} (f:α->β):∀(n:Nat) (l:List α),gY n (dV f l)=dV f (gY n l)
 | 0,_=>rfl
 | n+1,l=>by
   simp only[gY];rw[CG f n l];simp[fA,AY]
theorem xW{α:Type}{x:α}{l:List α}:∀{n:Nat},x∈gY n l->x∈l
 | 0,h=>by simp[gY]at h
 | n+1,h=>by
   simp only[gY,fA,Et]at h;exact h.elim id xW
theorem sW{α:Type}{l:List α}:∀{n:Nat},(gY n l).length=n * l.length
 | 0=>by simp[gY]
 | n+1=>by simp only[gY,fA,jR,sW,xk];omega
theorem Jz{l:List Value}:∀{n j:Nat},j < n * l.length->(gY n l)[j]?=l[j % l.length]?
 | 0,j,h=>by omega
 | n+1,j,h=>by
   simp only[gY,fA];rw[xk]at h
   by_cases hj:j < l.length
   .rw[Uo hj,Nat.mod_eq_of_lt hj]
   .rw[L6 (by omega),Jz (by omega)]
    congr 1
    exact(Nat.mod_eq_sub_mod (by omega)).symm
theorem qg{zero:List Value} (hz:0 < zero.length):((Array.range (n * zero.length)).map (λi=>zero.toArray[i % zero.toArray.size]!))=(gY n zero).toArray:=by
 apply Array.ext';apply Ar;intro j;simp only[Array.toList_map,Array.toList_range,EC]
 by_cases hj:j < n * zero.length
 .rw[Es,List.getElem?_range hj,Jz hj];have hm:j % zero.length < zero.length:=Nat.mod_lt _ hz;simp[hm]
 .rw[uG (by simp;omega),uG (by simp[sW];omega)]
section
variable {cx:Cx}{P:Program}{N:Nat}{B:Base}{h0:FH}{s:St}{h:FH}{β:List RV}{w:World}{a:Act}{G:Gd}{o:Oper}{K:St->Prop}
theorem rQ(hc:bJ P cx.ti) (aj:Sat N B h0 s h β w a) (hg:aI cx.gd h) (hG:uK s.gl.length G=true) (hd:kU N o.dst=true){parts:Array (Nat×Operand)} (ho:o.op=.buildSlice t n parts)
 (k:lT cx s G o.dst t n (tl parts) K):fO P N B h0 h w a o (gv s.gl G) K:=by
 unfold lT at k;split at k
 .rename_i el hde;have hu:=bD hc hde (by simp)
  split at k
  .cases k
  rename_i ie hie;have tie:=hc.get hie;split at k
  .cases k
  rename_i sh hsh;split at k
  .cases k
  rename_i ps hps;split at k
  .cases k
  rename_i hsz;rw[ay,A8]at hsz;have hsz1:n * ie.size<=16777216:=oZ hsz.1;have hsz2:1<=ie.size:=oZ hsz.2;split at k
  .cases k
  rename_i xs hxs;split at k
  .cases k
  rename_i hlen;rw[ay,A8]at hlen;have hl1:sh.size=ie.size:=gJ hlen.1;have hl2:xs.length=n * ie.size:=by have:=gJ hlen.2;rwa [aZ]at this
  split at k
  .rename_i l hl;refine kG aj hG hd k λhgv=>?_
   have htl:(parts.map λ(p:Nat×Operand)=>(p.1,a.eval p.2)).toList=(tl parts).map λp=>(p.1,a.eval p.2):=by cases parts;simp
   rw[CG]at hxs;obtain⟨zs,g1,g2⟩:=pY (qc aj hg hgv hps) (gy λv hv=>tie.zone v (xW hv)) hxs
   obtain⟨c1,c2,rfl,q1,q2,q3⟩:=Ci hl g2;have hc2:c2=[]:=by cases c2 with | nil=>rfl | cons _ _=>exact q3.elim
   subst hc2;rw[Mc]at g1 g2;have hz0:0 < ie.zero.length:=by rw[tie.ou];omega
   obtain⟨z,hz1,hz2⟩:=sS tie w;have hc0:n * ie.size=0->(gY n ie.zero).toArray=#[]:=by
    intro h0;have:n=0:=by rcases Nat.mul_eq_zero.1 h0 with h0 | h0<;>omega
    subst this;simp[gY]
   have hc1:((Array.range (n * ie.size)).map (λi=>z.cells[i % z.cells.size]!))=(gY n ie.zero).toArray:=by
    rw[hz2,<-tie.ou];exact qg hz0
   refine⟨.slice (some ⟨w.heap.size,0,none⟩) n n,w.alloc (.cells c1.toArray el),.row (.slice (some ⟨w.heap.size,0,none⟩) n n),?_,nG _ _ _,?_,?_,?_⟩
   .have hbig:¬(n * ie.size > 2 ^ 24):=by omega
    by_cases h0:n * ie.size=0
    .have e0:=hc0 h0;rw[e0]at g1;simp only[execOp,ho,Instr.buildSlice,Sem.run_bind,run_underlying hu,Result.andThen_ok,run_sizeOf tie,hbig,MC,Sem.run_ite,Sem.run_pure,h0,if_true];rw[htl];rw[show(Array.map (λx=>(#[]:Array Value)[x % (#[]:Array Value).size]!) (Array.range 0))=#[] from by simp]
     rw[g1];simp only[Sem.run_bind,newRow,run_newObj,Result.andThen_ok,Sem.run_pure];rfl
    .simp only[execOp,ho,Instr.buildSlice,Sem.run_bind,run_underlying hu,Result.andThen_ok,run_sizeOf tie,hbig,MC,Sem.run_ite,Sem.run_pure,h0,hz1];rw[htl,hc1,g1];simp only[Sem.run_bind,newRow,run_newObj,Result.andThen_ok,Sem.run_pure];rfl
   .intro b hb;rw[aW]at hb;simp[au]at hb;obtain⟨_,rfl⟩:=hb;simp
   .by_cases hn0:n=0
    .exact .inr (.inl ⟨⟨w.heap.size,0,none⟩,by rw[hn0],Un (by rw[q1,hn0])⟩)
    refine .inr (.inr ⟨w.heap.size,n,c1.toArray,by rw[q1],lS _ _,by omega,⟨by omega,?_⟩,?_,?_⟩)
    .have:n<=n * ie.size:=A72 n (by omega)
     simp only[maxLen];omega
    .have e:=g2.length;rw[hl2]at e;simp only[EC];rw[hl1];omega
    .have e:=g2.length;rw[hl2]at e;rw[q1,hl1,wo (by simp;omega)];exact q2
   .exact⟨⟨_,jJ (kH aj) _,rfl⟩,rfl,rfl⟩
  .cases k
 .cases k
end
theorem iL(w:World) (g:Nat) (cs:Array Value):Gb w (w.setRow g cs) (some g):=
 ⟨⟨rfl,rfl,rfl,by simp,λk _ hk=>setRow_other w g k cs λe=>hk (by rw[e])⟩,oq _⟩
theorem dX{i:TI} (k:aJ P t i){g o:Nat}{tt:TypeId}{cur:Array Value} (hg:w.heap[g]?=some (.cells cur tt (0,0)))
 (hs:v.cells.size=i.size) (hfit:o+i.size<=cur.size) (h1:∀u∈v.cells.toList,dD u):
 (Instr.storeAt t (.pointer (some ⟨g,o,none⟩)) v).run P w=.ok () (w.setRow g (cur.toList.take o++v.cells.toList++cur.toList.drop (o+i.size)).toArray):=by
 have:=run_storeCells_at P g o tt v.cells.toList 0 cur w hg (by simp;omega) (λu hu=>(h1 u hu).2)
 simp only[RF,Ro]at this;simp only[Instr.storeAt,Instr.sureAddr,Sem.run_bind,Sem.run_pure,Result.andThen_ok,storeVar,run_sizeOf k,hs,ne_eq,not_true_eq_false,MC,Sem.run_ite];rw[<-hs];exact this
theorem aO.one{xs:List SC}{ys:List Value} (a:aO (λx y=>dN h β x y/\dD y) xs ys):∀u∈ys,dD u:=by
 induction xs generalizing ys with
 | nil=>cases ys with
   | nil=>intro u hu;simp at hu
   | cons _ _=>exact a.elim
 | cons x xs ih=>cases ys with
   | nil=>exact a.elim
   | cons y ys=>
     intro u hu;rcases mF.1 hu with rfl | hu
     .exact a.1.2
     .exact ih a.2 u hu
abbrev G7(cx:Cx) (s:St) (d:Option Nat) (t:TypeId) (p x:Operand) (K:St->Prop):Prop:=match oJ cx.ti t with
 | none=>False
 | some i=>match bH cx s [] p with
   | some (.one (.c (.own r off)))=>match bH cx s [] x with
     | some (.one v)=>match dU s.T r with
       | some ([],.blk tt cs)=>match v with
         | .dat sh dd=>match dA (Nat.beq off 0) (dA (Nat.beq (aN cs) i.size) (Nat.beq sh.size i.size)) with
           | true=>K ({ s with T:=dh s.T r ([],.obj tt sh dd) }.put d [] (.one .und))
           | false=>False
         | v=>match mQ v with
           | some xs=>match dA (Nat.beq (aN xs) i.size) (Nat.ble (off+i.size) (aN cs)) with
             | true=>K ({ s with T:=dh s.T r ([],.blk tt (Sj off xs cs)) }.put d [] (.one .und))
             | false=>False
           | none=>False
       | some ([],.obj tt sh d0)=>match xG sh d0 off i.size v with
         | some dd=>K ({ s with T:=dh s.T r ([],.obj tt sh dd) }.put d [] (.one .und))
         | none=>False
       | _=>False
     | _=>False
   | some (.one (.c (.jA r j sz off)))=>match bH cx s [] x with
     | some (.one v)=>match dU s.T r with
       | some ([],.row tt sh l)=>match dA (Nat.beq sz sh.size) (dA (Nat.beq off 0) (Nat.beq sh.size i.size)) with
         | true=>match toDat sh v with
           | some dd=>(j < l.length)/\K ({ s with T:=dh s.T r ([],.row tt sh (l.set j dd)) }.put d [] (.one .und))
           | none=>False
         | false=>match Nat.beq sz sh.size with
           | true=>(j < l.length)/\∀e:sh.den,l[j]?=some e->match xG sh e off i.size v with
             | some dd=>K ({ s with T:=dh s.T r ([],.row tt sh (l.set j dd)) }.put d [] (.one .und))
             | none=>False
           | false=>False
       | some ([],.obj tt sh d0)=>match zk sh d0 off j sz i.size v with
         | some p=>(j < p.1)/\K ({ s with T:=dh s.T r ([],.obj tt sh p.2) }.put d [] (.one .und))
         | none=>False
       | _=>False
     | _=>False
   | _=>False
section
variable {cx:Cx}{P:Program}{N:Nat}{B:Base}{h0:FH}{s:St}{h:FH}{β:List RV}{w:World}{a:Act}{o:Oper}{K:St->Prop}
theorem wG{s:St}{x:ak}:eff s.gl (dh s.T r ([],x))=(eff s.gl s.T).set r x:=by rw[fC]
theorem o7(aj:Sat N B h0 s h β w a){x:ak}:∀p∈dh s.T r ([],x),uK s.gl.length p.1=true:=by
 intro p hp;rw[fM]at hp;rcases GH hp with hp | hp
 .exact aj.gT p hp
 .subst hp;rfl
theorem qh(aj:Sat N B h0 s h β w a) (hq:quietly o.op=false) (hd:kU N o.dst=true){g:Nat}{x x':ak} (hT:dU s.T r=some ([],x)) (hl:x.live=true) (hu:β[r]?=some u) (hub:u.block=some g){cs:Array Value}
 (hold:Holds h β (w.setRow g cs) x' u) (run:(execOp a.eval o).run P w=.ok .skip (w.setRow g cs)) (k:K ({ s with T:=dh s.T r ([],x') }.put o.dst [] (.one .und))):
 fO P N B h0 h w a o (gv s.gl []) K:=by
 have fG:=bg hT (show gv s.gl []=true from rfl)
 have ok:OK B h0 (eff s.gl (dh s.T r ([],x'))) h β (w.setRow g cs):=by
  rw[wG];have:=aj.ok.upd (r':=x') (v:=u) fG hl hu (row:=some g) (iL w g cs) (λk e=>by cases e;exact .inl hub) (λb hb=>.inl hb) (.inl rfl) (by rw[fZ hu];exact hold)
  rwa [fZ hu]at this
 refine lQ aj k rfl hq (.inr ⟨run,rfl⟩) (FH.le.refl h) ((aj.mem ok (FH.le.refl h) (Ext.refl β) (o7 aj)).put (dI hd) rfl (λ_=>rfl) λhh=>by cases hh)
theorem MV(hc:bJ P cx.ti) (aj:Sat N B h0 s h β w a) (hg:aI cx.gd h) (hd:kU N o.dst=true){p x:Operand} (ho:o.op=.store t p x) (k:G7 cx s o.dst t p x K):
 fO P N B h0 h w a o (gv s.gl []) K:=by
 have tr:gv s.gl []=true:=rfl;unfold G7 at k;split at k
 .cases k
 rename_i i hi;have ti:=hc.get hi;have exec:∀{w':World}{v pv:Value},a.eval x=v->a.eval p=pv->(Instr.storeAt t pv v).run P w=.ok () w'->(execOp a.eval o).run P w=.ok .skip w':=by
  intro w' v pv e1 e2 r;simp only[execOp,ho,e1,e2,Sem.run_bind,r,Result.andThen_ok,Sem.run_pure]
 split at k
 .rename_i r off hp;obtain⟨⟨b,hb,ep⟩,_⟩:=aK aj hg tr hp;split at k
  .rename_i v hv;have cv:=aK aj hg tr hv;split at k
   .rename_i tt cs hT;obtain⟨ys,he,hall⟩:=aj.ok.holds r _ _ (bg hT tr) hb;have hlen:=hall.length;split at k
    .rename_i sh dd;split at k
     .rename_i hz;rw[ay,ay,A8,A8]at hz;have hz1:off=0:=gJ hz.1;have hz2:cs.length=i.size:=by have:=gJ hz.2.1;rwa [aZ]at this
      have hz3:sh.size=i.size:=gJ hz.2.2;subst hz1;obtain⟨_,cs',ev,rd⟩:=cv;have hsz:=Rd.size sh rd;have r1:=dX (o:=0) (v:=a.eval x) ti he (by rw[ev];simp[Value.cells];omega) (by simp;omega) (by rw[ev];intro u hu;exact Rd.one sh rd u (by simpa[Value.cells]using hu))
      refine qh aj (by rw[ho];rfl) hd hT rfl hb rfl ?_ (exec rfl ep r1) k
      refine⟨_,setRow_heap w b _ _ tt (0,0) he,?_⟩;simp only[Rw,Ut,Eu];rw[Rn (by first | omega | (simp;omega)),Mc,ev]
      exact rd
     .cases k
    .split at k
     .rename_i xs hxs;split at k
      .rename_i hz;rw[ay,A8]at hz;have hz1:xs.length=i.size:=by have:=gJ hz.1;rwa [aZ]at this
       have hz2:off+i.size<=cs.length:=by have:=oZ hz.2;rwa [aZ]at this
       have hall':=wE hxs cv;have hl':=hall'.length;simp only[Ro]at hl';have r1:=dX (o:=off) (v:=a.eval x) ti he (by omega) (by simp;omega) hall'.one
       refine qh aj (by rw[ho];rfl) hd hT rfl hb rfl ?_ (exec rfl ep r1) k
       refine⟨_,setRow_heap w b _ _ tt (0,0) he,?_⟩;unfold Sj;rw[fA,fA,jl,pU,aZ,hz1];simp only[];rw[zY];exact(hall.take off).cat (hall'.cat (hall.drop _))
      .cases k
     .cases k
   .rename_i tt sh d0 hT;obtain⟨ys,he,rd0⟩:=aj.ok.holds r _ _ (bg hT tr) hb;split at k
    .rename_i dd hdd;obtain⟨cs',ec,e2,e3,e4,e5⟩:=mW sh hdd rd0 cv;have r1:=dX (o:=off) (v:=a.eval x) ti he (by rw[ec];simp;omega) (by simp;omega) (by rw[ec];intro u hu;exact e3 u (by simpa using hu))
     refine qh aj (by rw[ho];rfl) hd hT rfl hb rfl ?_ (exec rfl ep r1) k
     refine⟨_,setRow_heap w b _ _ tt (0,0) he,?_⟩;rw[ec];exact e5
    .cases k
   .cases k
  .cases k
 .rename_i r j sz off hp;obtain⟨⟨v0,g,hb,hgb,ep⟩,_⟩:=aK aj hg tr hp;split at k
  .rename_i v hv;have cv:=aK aj hg tr hv;split at k
   .rename_i tt sh l hT
    -- a store of k cells at a place of the j-th element
    have part:∀{e dd:sh.den},sz=sh.size->l[j]?=some e->(∀{cs:List Value},Rd h sh cs e->Upd h sh cs off i.size (a.eval x) dd) ->
     K ({ s with T:=dh s.T r ([],.row tt sh (l.set j dd)) }.put o.dst [] (.one .und))->fO P N B h0 h w a o (gv s.gl []) K:=by
     intro e dd hz1 hej hu k;have hj:=(fH.1 hej).1;have hold:=aj.ok.holds r _ _ (bg hT tr) hb
     match v0,hold with
     | .row vv,hold=>
       rcases hold with⟨hv0,_⟩ | ⟨_,hv0,_⟩ | ⟨g',cap,cur,hv0,he,q2,q3,q4,q5⟩
       .subst hv0;simp[RV.block,au]at hgb
       .subst hv0;simp[RV.block,au]at hgb
       .have hgg:g'=g:=by rw[hv0]at hgb;exact LM ((pO q3.1).symm.trans hgb)
        subst hgg;have hm:(j+1) * sh.size<=l.length * sh.size:=xg _ hj;have hm2:l.length * sh.size<=cap * sh.size:=xg _ q2;rw[xk]at hm;obtain⟨g1,g2⟩:=q5.get (λ_ _=>Rd.size sh) hej
        have gl:=Rd.size sh g1;obtain⟨cs',ec,e2,e3,e4,e5⟩:=hu g1;rw[gl]at e4;have r1:=dX (o:=j * sz+off) (v:=a.eval x) ti he (by rw[ec];simp;omega) (by rw[hz1];omega) (by rw[ec];intro u hu;exact e3 u (by simpa using hu))
        refine qh aj (by rw[ho];rfl) hd hT rfl hb hgb ?_ (exec rfl ep r1) k
        rw[ec,hz1];refine .inr (.inr ⟨g',cap,_,by rw[hv0,qN],setRow_heap w g' _ _ tt (0,0) he,by rw[qN];exact q2,q3,?_,?_⟩)
        .simp only[EC,jR,jY,xw,Ro];omega
        .rw[qN];show fK (Rd h sh) ((List.take (j * sh.size+off) cur.toList++cs'++List.drop (j * sh.size+off+i.size) cur.toList).take (l.length * sh.size)) (l.set j dd);have e:=fK.set (λ_ _=>Rd.size sh) q5 hj e5
         have lc:cur.toList.length=cap * sh.size:=by simpa using q4
         have key:(List.take (j * sh.size+off) cur.toList++cs'++List.drop (j * sh.size+off+i.size) cur.toList).take (l.length * sh.size) =
          List.take (j * sh.size) (List.take (l.length * sh.size) cur.toList)++(List.take off (List.take sh.size (List.drop (j * sh.size) (List.take (l.length * sh.size) cur.toList)))++cs'++List.drop (off+i.size) (List.take sh.size (List.drop (j * sh.size) (List.take (l.length * sh.size) cur.toList))))++List.drop (j * sh.size+sh.size) (List.take (l.length * sh.size) cur.toList):=by
          apply Ar;intro p;simp only[A86,uH,I9,jR,jY,xw,lc,e2]
          repeat' split
          all_goals first | rfl | omega | (congr 1;omega) | (rw[uG (by omega)]) | (exfalso;omega) | skip
         rw[key];exact e
    split at k
    .rename_i hz;rw[ay,ay,A8,A8]at hz;have hz1:sz=sh.size:=gJ hz.1;have hz2:off=0:=gJ hz.2.1;have hz3:sh.size=i.size:=gJ hz.2.2;split at k
     .rename_i dd hdd;obtain⟨hj,k⟩:=k;refine part hz1 (lY hj) (λhr=>?_) k
      subst hz2;exact zi hz3 hdd hr cv
     .cases k
    .split at k
     .rename_i hz;have hz1:sz=sh.size:=gJ hz;obtain⟨hj,k⟩:=k;have k:=k _ (lY hj);split at k
      .rename_i dd hdd;exact part hz1 (lY hj) (λhr=>mW sh hdd hr cv) k
      .cases k
     .cases k
   .rename_i tt sh d0 hT;split at k
    .rename_i p hp0;obtain⟨hj,k⟩:=k;have hold:=aj.ok.holds r _ _ (bg hT tr) hb
     match v0,hold with
     | .blk b,⟨ys,he,rd0⟩=>
       have hgg:b=g:=by simpa[RV.block]using hgb
       subst hgg;obtain⟨cs',ec,e2,e3,e4,e5⟩:=GU sh hp0 rd0 cv hj;have r1:=dX (o:=j * sz+off) (v:=a.eval x) ti he (by rw[ec];simp;omega) (by simp;omega) (by rw[ec];intro u hu;exact e3 u (by simpa using hu))
       refine qh aj (by rw[ho];rfl) hd hT rfl hb hgb ?_ (exec rfl ep r1) k
       refine⟨_,setRow_heap w b _ _ tt (0,0) he,?_⟩;rw[ec];exact e5
    .cases k
   .cases k
  .cases k
 .cases k
end
def mY(n bytes:Nat):Prop:=n * bytes<=140737488355328
abbrev Bc(i:Nat) (x:SC):SC:=match SC.free i x with
 | true=>x
 | false=>.junk
abbrev jkV(i:Nat):SV->SV
 | .c x=>.c (Bc i x)
 | .agg xs=>.agg (dV (Bc i) xs)
 | v=>v
abbrev jkE(i:Nat):bF->bF
 | .one v=>.one (jkV i v)
 | .iO vs=>.iO (dV (jkV i) vs)
abbrev jkR(i:Nat):ak->ak
 | .blk t cs=>.blk t (dV (Bc i) cs)
 | r=>r
abbrev rU(i:Nat):List (Nat×Gd×bF)->List (Nat×Gd×bF)
 | []=>[]
 | (k,g,e) :: l=>(k,g,jkE i e) :: rU i l
abbrev JA(i:Nat):List (Gd×ak)->List (Gd×ak)
 | []=>[]
 | (g,r) :: l=>(g,jkR i r) :: JA i l
theorem dN.jk{x:SC}{y:Value} (v:RV) (c:dN h β x y):dN h (β.set i v) (Bc i x) y:=by
 unfold Bc;split
 .rename_i hf;exact c.set hf
 .trivial
theorem dN.jk0{x:SC}{y:Value} (c:dN h β x y):dN h β (Bc i x) y:=by
 unfold Bc;split
 .exact c
 .trivial
theorem aO.jk{h:FH}{β:List RV}{i:Nat} (v:RV):∀{xs:List SC}{ys:List Value},aO (λx y=>dN h β x y/\dD y) xs ys->aO (λx y=>dN h (β.set i v) x y/\dD y) (dV (Bc i) xs) ys
 | [],[],_=>trivial
 | _ :: _,_ :: _,⟨a,b⟩=>⟨⟨a.1.jk v,a.2⟩,aO.jk v b⟩
theorem aO.jk0{h:FH}{β:List RV}{i:Nat}:∀{xs:List SC}{ys:List Value},aO (λx y=>dN h β x y/\dD y) xs ys->aO (λx y=>dN h β x y/\dD y) (dV (Bc i) xs) ys
 | [],[],_=>trivial
 | _ :: _,_ :: _,⟨a,b⟩=>⟨⟨a.1.jk0,a.2⟩,aO.jk0 b⟩
theorem cZ.jk{h:FH}{β:List RV}{i:Nat} (v:RV):∀{x:SV}{y:Value},cZ h β x y->cZ h (β.set i v) (jkV i x) y
 | .c _,_,c=>⟨c.1.jk v,c.2⟩
 | .agg _,_,⟨ys,e,a⟩=>⟨ys,e,a.jk v⟩
 | .dat _ _,_,c=>c
 | .und,_,c=>c
theorem jw.jk{h:FH}{β:List RV}{i:Nat} (v:RV):∀{x:bF}{y:Value},jw h β x y->jw h (β.set i v) (jkE i x) y
 | .one _,_,c=>cZ.jk v c
 | .iO _,_,⟨ys,e,a⟩=>⟨ys,e,go a⟩
where
 go:∀{xs:List SV}{ys:List Value},aO (cZ h β) xs ys->aO (cZ h (β.set i v)) (dV (jkV i) xs) ys
  | [],[],_=>trivial
  | _ :: _,_ :: _,⟨a,b⟩=>⟨a.jk v,go b⟩
theorem Holds.jk0{h:FH}{β:List RV}{w:World}{i:Nat}:∀{r:ak}{v:RV},Holds h β w r v->Holds h β w (jkR i r) v
 | .blk _ _,.blk _,⟨ys,e,a⟩=>⟨ys,e,a.jk0⟩
 | .row _ _ _,.row _,e=>e
 | .obj _ _ _,.blk _,e=>e
 | .deep _ _ _ _ _ _ _ _,.deep _ _,e=>e
 | .mp _ _ _,.row _,e=>e
 | .LQ _ _ _ _,.deep _ _,e=>e
 | .it _ _ _ _,.blk _,e=>e
 | .Jj _ _ _ _,.row _,e=>e
 | .Fe _ _ _ _,.deep _ _,e=>e
 | .gone,_,_=>trivial
theorem Vp(i:Nat) (x:SC):SC.free i (Bc i x)=true:=by
 unfold Bc;split
 .assumption
 .rfl
theorem CJ(i:Nat):∀xs:List SC,uI i (dV (Bc i) xs)=true
 | []=>rfl
 | x :: l=>by simp only[dV,uI,Vp,CJ i l,Bool.and_self]
theorem JB(i:Nat) (r:ak):ak.free i (jkR i r)=true:=by
 cases r with
 | blk t cs=>exact CJ i cs
 | _=>rfl
theorem sZ(i:Nat) (r:ak):(jkR i r).live=r.live:=by cases r<;>rfl
theorem CO(i:Nat):∀{l:List (Nat×Gd×bF)}{t:Nat}{G:Gd}{e:bF},gX (rU i l) t=some (G,e)->∃e0,gX l t=some (G,e0)/\e=jkE i e0
 | [],_,_,_,h=>by simp[rU,gX]at h
 | (k,g,e0) :: l,t,G,e,h=>by
   simp only[rU]at h;rw[aU]at h ⊢
   split at h
   .rename_i hk;cases h;exact⟨e0,by rw[if_pos hk],rfl⟩
   .rename_i hk;rw[if_neg hk];exact CO i h
theorem G8(i:Nat):∀{l:List (Nat×Gd×bF)}{t:Nat}{G:Gd}{e:bF},gX l t=some (G,e)->gX (rU i l) t=some (G,jkE i e)
 | [],_,_,_,h=>by simp[gX]at h
 | (k,g,e0) :: l,t,G,e,h=>by
   simp only[rU];rw[aU]at h ⊢
   split at h
   .rename_i hk;cases h;rw[if_pos hk]
   .rename_i hk;rw[if_neg hk];exact G8 i h
theorem MW(gl:List Bool) (i:Nat):∀{T:List (Gd×ak)},eff gl (JA i T)=(eff gl T).map (jkR i)
 | []=>rfl
 | (g,r) :: l=>by
   simp only[JA,eff,Uu,MW gl i (T:=l)]
   congr 1
   cases gv gl g<;>rfl
section
variable {cx:Cx}{P:Program}{N:Nat}{B:Base}{h0:FH}{s:St}{h:FH}{β:List RV}{w:World}{a:Act}{o:Oper}{K:St->Prop}
theorem OK.jk(ok:OK B h0 T h β w) (i:Nat):OK B h0 (T.map (jkR i)) h β w where
 below:=ok.below
 dr:=ok.dr
 len:=by simp[ok.len]
 holds:=by
  intro j r v e e';rw[Es]at e;cases hj:T[j]? with
  | none=>rw[hj]at e;cases e
  | some r0=>rw[hj]at e;cases e;exact(ok.holds j r0 v hj e').jk0
 own:=by
  intro j r v b e hl e' hb;rw[Es]at e;cases hj:T[j]? with
  | none=>rw[hj]at e;cases e
  | some r0=>rw[hj]at e;cases e;exact ok.own j r0 v b hj (by rw[<-sZ i];exact hl) e' hb
 inj:=by
  intro j k r1 r2 u v b e1 l1 e2 l2 e3 e4 b1 b2;rw[Es]at e1 e2;cases hj:T[j]? with
  | none=>rw[hj]at e1;cases e1
  | some q1=>
    cases hk:T[k]? with
    | none=>rw[hk]at e2;cases e2
    | some q2=>
      rw[hj]at e1;rw[hk]at e2;cases e1;cases e2;exact ok.inj j k q1 q2 u v b hj (by rw[<-sZ i];exact l1) hk (by rw[<-sZ i];exact l2) e3 e4 b1 b2
 hle:=ok.hle
 hw:=ok.hw
 hg:=ok.hg
 kn:=ok.kn
theorem Sz(aj:Sat N B h0 s h β w a) (hq:quietly o.op=false) (hd:kU N o.dst=true){x x':ak}{v:RV} (hT:dU s.T r=some ([],x)) (hl:x.live=true) (hu:β[r]?=some u){y:Value}
 (hg:Gb w w' u.block) (hv:∀b,v.block=some b->u.block=some b\/(w.heap.size<=b/\b < w'.heap.size)) (hvs:∀b,¬v.sub b:=by exact λ_ h=>h) (hold:Holds h (β.set r v) w' x' v)
 (run:(execOp a.eval o).run P w=.ok (.value y) w'){e:bF} (he:jw h (β.set r v) e y)
 (k:K ({ s with T:=dh (JA r s.T) r ([],x'),env:=rU r s.env }.put o.dst [] e)):
 fO P N B h0 h w a o (gv s.gl []) K:=by
 have tr:gv s.gl []=true:=rfl;have fG:=bg hT tr;have okj:=aj.ok.jk r;have hTj:((eff s.gl s.T).map (jkR r))[r]?=some (jkR r x):=by rw[Es,fG];rfl
 have ok:OK B h0 (eff s.gl (dh (JA r s.T) r ([],x'))) h (β.set r v) w':=by
  rw[fC,MW];refine okj.upd hTj (by rw[sZ];exact hl) hu hg (λk e=>.inl e) (λb hb=>hb.elim (λq=>(hv b q).imp .inl id) λq=>(hvs b q).elim) (.inr λj rj _ ej=>?_) hold
  rw[Es]at ej;cases hj:(eff s.gl s.T)[j]? with
  | none=>rw[hj]at ej;cases ej
  | some q=>rw[hj]at ej;cases ej;exact JB r q
 have aP:Sat N B h0 { s with T:=dh (JA r s.T) r ([],x'),env:=rU r s.env } h (β.set r v) w' a:=by
  refine⟨ok,?_,?_,aj.defers,aj.sz,?_,?_⟩
  .intro t G e ht;obtain⟨e0,h1,rfl⟩:=CO r ht;obtain⟨z,q1,q2,q3⟩:=aj.env t G e0 h1;exact⟨z,q1,λhG=>(q2 hG).jk v,q3⟩
  .intro d i hi;obtain⟨G,b,q1,q2⟩:=aj.gs d i hi;exact⟨G,b,G8 r q1,q2⟩
  .intro t G e ht;obtain⟨e0,h1,rfl⟩:=CO r ht;exact aj.gb t G e0 h1
  .intro p hp;simp only at hp;rw[fM]at hp;rcases GH hp with hp | hp
   .have:∀{l:List (Gd×ak)},p∈JA r l->∃q∈l,q.1=p.1:=by
     intro l
     induction l with
     | nil=>intro hh;simp[JA]at hh
     | cons q l ih=>
       obtain⟨g,q⟩:=q;intro hh;simp only[JA,mF]at hh;rcases hh with rfl | hh
       .exact⟨(g,q),by simp,rfl⟩
       .obtain⟨q',h1,h2⟩:=ih hh;exact⟨q',by simp[h1],h2⟩
    obtain⟨q,h1,h2⟩:=this hp;rw[<-h2];exact aj.gT q h1
   .subst hp;rfl
 exact lQ aj k tr hq (.inl run) (FH.le.refl h) (aP.put (dI hd) rfl (λ_=>he) λhh=>by cases hh)
end
def Vq(h:FH) (w:World) (sh:Sh) (v:Value) (l:List sh.den):Prop:=
 (v=.slice none 0 0/\l=[])\/(∃a c,v=.slice (some a) 0 c/\l=[])\/∃b o c cs,v=.slice (some ⟨b,o,none⟩) l.length c/\fK (Rd h sh) cs l/\∀j u,cs[j]?=some u->w.cell? ⟨b,o+j,none⟩=some u
def Po(h:FH) (w:World) (t:TypeId) (sh:Sh) (v:Value) (l:List sh.den):Prop:=Holds h [] w (.row t sh l) (.row v)
theorem tu{ty:TypeId}{i:TI}{sh:Sh}{sv:Value}{l l2:List sh.den} (hu:P.underlying t=some (.slice el)) (k:aJ P el i) (hs:sh.size=i.size)
 (hb1:1<=i.bytes) (hs1:1<=i.size) (row:Po h w el sh v l) (src:Vq h w sh sv l2) (room:mY (l.length+l2.length) i.bytes)
 (hw:∀b o u,h b o=some u->vis w b o=some u):
 ∃v' w',(Builtin.append_ #[t,t] ty #[v,sv]).run P w=.ok v' w'/\Gb w w' (au v)/\(∀b,au v'=some b->au v=some b\/(w.heap.size<=b/\b < w'.heap.size))/\Po h w' el sh v' (l++l2):=by
 obtain⟨inf,z,i1,i2,i3,i4,i5⟩:=k.info;unfold mY at room;have hn:l.length+l2.length<=140737488355328:=pI (A72 _ hb1) room;have Vr:z.cells.size=i.size:=by rw[i5];simpa using k.ou
 rcases src with⟨rfl,rfl⟩ | ⟨sa,sc,rfl,rfl⟩ | ⟨b,o,c,cs,rfl,rd,at_⟩
 .refine⟨v,w,?_,bW _ _,λb hb=>.inl hb,by rw[Mc];exact row⟩
  rcases row with⟨rfl,rfl⟩ | ⟨_,rfl,rfl⟩ | ⟨g,cap,cur,rfl,q1,q2,q3,q4,q5⟩
  .simp[Builtin.append_,run_underlying hu,sizeOf,typeInfo,i1,Builtin.lenOf,Builtin.firstCells]
  .simp[Builtin.append_,run_underlying hu,sizeOf,typeInfo,i1,Builtin.lenOf,Builtin.firstCells,storeCells]
  .simp[Builtin.append_,run_underlying hu,sizeOf,typeInfo,i1,Builtin.lenOf,Builtin.firstCells,q2,storeCells]
 .refine⟨v,w,?_,bW _ _,λb hb=>.inl hb,by rw[Mc];exact row⟩
  rcases row with⟨rfl,rfl⟩ | ⟨_,rfl,rfl⟩ | ⟨g,cap,cur,rfl,q1,q2,q3,q4,q5⟩
  .simp[Builtin.append_,run_underlying hu,sizeOf,typeInfo,i1,Builtin.lenOf,Builtin.firstCells,loadCells,loadCellsFrom]
  .simp[Builtin.append_,run_underlying hu,sizeOf,typeInfo,i1,Builtin.lenOf,Builtin.firstCells,storeCells,loadCells,loadCellsFrom]
  .simp[Builtin.append_,run_underlying hu,sizeOf,typeInfo,i1,Builtin.lenOf,Builtin.firstCells,q2,storeCells,loadCells,loadCellsFrom]
 .have hcs:cs.length=l2.length * inf.size:=by rw[fK.size (λ_ _=>Rd.size sh) rd,i2,hs]
  have hnews:∀j u,cs[j]?=some u->w.cell? ((⟨b,o,none⟩:Addr).add j)=some u:=λj u e=>by rw[add_lit];exact at_ j u e
  have h1:∀u∈cs,u.oneCell'=true:=λu hu'=>(fK.all (λ_ _ r=>Rd.one sh r) rd u hu').2
  rcases row with⟨rfl,rfl⟩ | ⟨ra,rfl,rfl⟩ | ⟨g,cap,cur,rfl,q1,q2,q3,q4,q5⟩
  .by_cases hm:l2.length=0
   .have:l2=[]:=Un hm;subst this;refine⟨.slice none 0 0,w,?_,bW _ _,λb hb=>.inl hb,.inl ⟨rfl,rfl⟩⟩
    simp[Builtin.append_,run_underlying hu,sizeOf,typeInfo,i1,Builtin.lenOf,Builtin.firstCells,loadCells,loadCellsFrom]
   .have r:=run_append_nil (P:=P) w t ty el inf z hu i1 i4 ⟨b,o,none⟩ l2.length c cs hcs hnews (by omega) (by simp at hn;omega) (by rw[i3];simp at room;omega)
    have hge:=grownCap_ge w l2.length 0 el;refine⟨_,_,r,⟨⟨rfl,rfl,rfl,by simp,λk hk _=>(World.grownBy_alloc w.drew _ none).block k hk (by simp)⟩,Rq _⟩,?_,?_⟩
    .intro b' hb';simp[au]at hb';obtain⟨_,rfl⟩:=hb';right;simp
    .refine .inr (.inr ⟨w.heap.size,_,_,rfl,heap_alloc_new w.drew _,by simpa using hge,⟨by omega,grownCap_le_maxLen w l2.length 0 el (by simp only[maxLen];simp at hn;omega)⟩,?_,?_⟩)
     .simp only[A80,EC,size_zeroCells,Vr,hcs,i2,hs,<-Jb]
      congr 1;omega
     .simp only[A91,Ut];rw[show l2.length * sh.size=cs.length by rw[hcs,i2,hs],UK]
      exact rd
  .by_cases hm:l2.length=0
   .have:l2=[]:=Un hm;subst this;refine⟨.slice (some ra) 0 0,w,?_,bW _ _,λb hb=>.inl hb,.inr (.inl ⟨ra,rfl,rfl⟩)⟩
    simp[Builtin.append_,run_underlying hu,sizeOf,typeInfo,i1,Builtin.lenOf,Builtin.firstCells,storeCells,loadCells,loadCellsFrom]
   .have r:=run_append_grow (P:=P) w t ty el inf z hu i1 i4 ra 0 0 [] (by simp) (λj u e=>by simp at e) ⟨b,o,none⟩ l2.length c cs hcs hnews (by omega) (by simp at hn;omega) (growslice_fits (by omega) (by rw[i3];simpa using room))
    rw[Eu]at r;have hge:=grownCap_ge w l2.length 0 el;refine⟨_,_,r,⟨⟨rfl,rfl,rfl,by simp,λk hk _=>(World.grownBy_alloc w.drew _ none).block k hk (by simp)⟩,Rq _⟩,?_,?_⟩
    .intro b' hb';simp[au]at hb';obtain⟨_,rfl⟩:=hb';right;simp
    .refine .inr (.inr ⟨w.heap.size,_,_,rfl,heap_alloc_new w.drew _,by simpa using hge,⟨by omega,grownCap_le_maxLen w l2.length 0 el (by simp only[maxLen];simp at hn;omega)⟩,?_,?_⟩)
     .simp only[A80,EC,size_zeroCells,Vr,Ut,hcs,i2,hs,Eu,LP,<-Jb]
      congr 1;omega
     .simp only[A91,Ut];rw[show l2.length * sh.size=cs.length by rw[hcs,i2,hs],UK]
      exact rd
  .by_cases hroom:l.length+l2.length<=cap
   .have hfit:l.length * inf.size+cs.length<=cur.size:=by rw[hcs,q4,i2,hs,<-Jb];exact xg _ hroom
    have r:=run_append_room (P:=P) w t ty el inf hu i1 g l.length cap cur q1 ⟨b,o,none⟩ l2.length c cs hcs hnews h1 hroom hfit;refine⟨_,_,r,by rw[aS q3.1];exact iL w g _,λb' hb'=>.inl (by rw[aS q3.1]at hb' ⊢;exact hb'),.inr (.inr ⟨g,cap,_,by rw[jR],setRow_heap w g cur _ el _ q1,by rw[jR];exact hroom,q3,?_,?_⟩)⟩
    .simp only[EC,jR,jY,xw,Ro];omega
    .have e1:(List.take (l.length * sh.size) cur.toList++cs).length=(l++l2).length * sh.size:=by
      rw[jR,jR,Jb,hcs,i2,fK.size (λ_ _=>Rd.size sh) q5,hs]
     show fK (Rd h sh) ((List.take (l.length * inf.size) cur.toList++cs++List.drop (l.length * inf.size+cs.length) cur.toList).take ((l++l2).length * sh.size)) (l++l2);rw[i2,<-hs,<-e1,UK];exact q5.append rd
   .have lsz:=fK.size (λ_ _=>Rd.size sh) q5
    have hol:(cur.toList.take (l.length * sh.size)).length=l.length * inf.size:=by rw[lsz,i2,hs]
    have holds:∀j u,(cur.toList.take (l.length * sh.size))[j]?=some u->w.cell? ((⟨g,0,none⟩:Addr).add j)=some u:=by
     intro j u e;rw[add_lit,Eu,cell_of_row w g j cur el (0,0) q1];rw[uH]at e;split at e
     .simpa using e
     .cases e
    have r:=run_append_grow (P:=P) w t ty el inf z hu i1 i4 ⟨g,0,none⟩ l.length cap _ hol holds ⟨b,o,none⟩ l2.length c cs hcs hnews (by omega) (by omega) (growslice_fits (by omega) (by rw[i3];exact room))
    have hge:=grownCap_ge w (l.length+l2.length) cap el;refine⟨_,_,r,⟨⟨rfl,rfl,rfl,by simp,λk hk _=>(World.grownBy_alloc w.drew _ none).block k hk (by simp)⟩,Rq _⟩,?_,?_⟩
    .intro b' hb';simp[au]at hb';obtain⟨_,rfl⟩:=hb';right;simp
    .refine .inr (.inr ⟨w.heap.size,_,_,by rw[jR],heap_alloc_new w.drew _,by rw[jR];exact hge,⟨by omega,grownCap_le_maxLen w _ cap el (by simp only[maxLen];omega)⟩,?_,?_⟩)
     .have afO:(cur.toList.take (l.length * i.size)).length=l.length * i.size:=by rw[<-hs];exact lsz
      simp only[A80,EC,size_zeroCells,Vr,hcs,i2,hs,afO,<-Jb]
      congr 1
      omega
     .simp only[A91,zY];rw[<-zY,show(l++l2).length * sh.size=(List.take (l.length * sh.size) cur.toList++cs).length by rw[jR,jR,Jb,hcs,lsz,i2,hs],UK]
      exact q5.append rd
abbrev iq(cx:Cx) (t:TypeId) (K:TypeId->TI->Sh->Prop):Prop:=match descOf cx t with
 | .slice el=>match oJ cx.ti el with
   | none=>False
   | some ie=>match ie.ig with
     | none=>False
     | some sh=>match dA (Nat.beq sh.size ie.size) (dA (Nat.ble 1 ie.bytes) (Nat.ble 1 ie.size)) with
       | true=>K el ie sh
       | false=>False
 | _=>False
abbrev MX(s:St) (sh:Sh) (v:SV):Option (List sh.den):=match v with
 | .c (.sl nJ l2)=>jd (.sl nJ) l2 (.sl sh)
 | .c (.v (.slice none 0 0))=>some []
 | .c (.row r)=>match dU s.T r with
   | some ([],.row _ nJ l2)=>jd (.sl nJ) l2 (.sl sh)
   | _=>none
 | _=>none
abbrev uQ(cx:Cx) (s:St) (d:Option Nat) (t:TypeId) (x y:Operand) (K:St->Prop):Prop:=iq cx t λel ie sh=>
 match bH cx s [] y with
 | some (.one v2)=>match MX s sh v2 with
   | none=>False
   | some l2=>match bH cx s [] x with
     | some (.one (.c (.row r)))=>match dU s.T r with
       | some ([],.row tt dW l1)=>match Nat.beq tt el with
         | true=>match jd (.sl dW) l1 (.sl sh) with
           | some l=>mY (l.length+l2.length) ie.bytes/\K ({ s with T:=dh (JA r s.T) r ([],.row el sh (l++l2)),env:=rU r s.env }.put d [] (.one (.c (.row r))))
           | none=>False
         | false=>False
       | _=>False
     | some (.one (.c (.v (.slice none 0 0))))=>mY l2.length ie.bytes/\K ({ s with T:=snoc s.T ([],.row el sh l2) }.put d [] (.one (.c (.row (aN s.T)))))
     | _=>False
 | _=>False
section
variable {cx:Cx}{P:Program}{N:Nat}{B:Base}{h0:FH}{s:St}{h:FH}{β:List RV}{w:World}{a:Act}{o:Oper}{K:St->Prop}
theorem nK{dW sh:Sh}{l1:List dW.den}{l:List sh.den} (e:jd (.sl dW) l1 (.sl sh)=some l):∃e':dW=sh,(e'▸l1:List sh.den)=l:=by
 obtain⟨e1,e2⟩:=jH e;cases e1;exact⟨rfl,e2⟩
theorem Bd(aj:Sat N B h0 s h β w a){sh:Sh}{v:SV}{l:List sh.den}{y:Value} (e:MX s sh v=some l) (c:cZ h β v y):Vq h w sh y l:=by
 unfold MX at e;split at e
 .rename_i nJ l2;obtain⟨e1,e2⟩:=nK e;subst e1;simp only at e2;subst e2;rcases c.1 with⟨e1,e2⟩ | ⟨ad,cap,e1,e2,_⟩ | ⟨b,off,cap,e1,q1,q2,cs,rd,at_⟩
  .exact .inl ⟨e1,e2⟩
  .exact .inr (.inl ⟨ad,cap,e1,e2⟩)
  .exact .inr (.inr ⟨b,off,cap,cs,e1,rd,λj u hj=>BK (aj.ok.hw _ _ _ (at_ j u hj)) (fK.all (λ_ _=>Rd.one _) rd u (iJ hj)).2⟩)
 .cases e;exact .inl ⟨c.1.1,rfl⟩
 .rename_i r;split at e
  .rename_i tt nJ l2 hT;obtain⟨e1,e2⟩:=nK e;subst e1;simp only at e2;subst e2;rcases aj.ok.holds r _ _ (bg hT rfl) (aj.ok.row_of (bg hT rfl) c.1) with⟨e1,e2⟩ | ⟨ra,e1,e2⟩ | ⟨g,cap,cur,e1,q1,q2,q3,q4,rd⟩
   .exact .inl ⟨e1,e2⟩
   .exact .inr (.inl ⟨ra,0,e1,e2⟩)
   .refine .inr (.inr ⟨g,0,cap,_,e1,rd,λj u hj=>?_⟩)
    rw[Eu,cell_of_row w g j cur tt (0,0) q1];rw[uH]at hj;split at hj
    .simpa using hj
    .cases hj
  .cases e
 .cases e
theorem Ae(hc:bJ P cx.ti) (aj:Sat N B h0 s h β w a) (hg:aI cx.gd h) (hd:kU N o.dst=true){x:Operand} (ho:o.op=.call c) (bU:c.callee=.builtin .append) (ha:c.args=#[x,y]) (ht:c.argTypes=#[t,t])
 (k:uQ cx s o.dst t x y K):fO P N B h0 h w a o (gv s.gl []) K:=by
 have tr:gv s.gl []=true:=rfl;unfold uQ iq at k;split at k
 .rename_i el hde;have hu:=bD hc hde (by simp)
  split at k
  .cases k
  rename_i ie hie;have tie:=hc.get hie;split at k
  .cases k
  rename_i sh hsh;split at k
  .rename_i hz;rw[ay,ay,A8,A8]at hz;have hz1:sh.size=ie.size:=gJ hz.1;have hz2:1<=ie.bytes:=oZ hz.2.1;have hz3:1<=ie.size:=oZ hz.2.2;split at k
   .rename_i v2 hv2;have c2:=aK aj hg tr hv2;split at k
    .cases k
    rename_i l2 hl2;have src:=Bd aj hl2 c2;have exec:∀{u u':Value}{w':World},a.eval x=u->(Builtin.append_ #[t,t] o.type #[u,a.eval y]).run P w=.ok u' w'->(execOp a.eval o).run P w=.ok (.value u') w':=by
     intro u u' w' e r;simp[execOp,ho,resolve,bU,ha,ht,invoke,builtin,e,r]
    split at k
    .rename_i r hr;have cr:=aK aj hg tr hr;split at k
     .rename_i tt dW l1 hT;split at k
      .rename_i htt;have htt:tt=el:=gJ htt;subst htt;split at k
       .rename_i l hl;obtain⟨e1,e2⟩:=nK hl;subst e1;simp only at e2;subst e2;have cr1:=aj.ok.row_of (bg hT tr) cr.1;have row:Po h w tt dW (a.eval x) l1:=aj.ok.holds r _ _ (bg hT tr) cr1;obtain⟨v',w',r1,r2,r3,r4⟩:=tu (ty:=o.type) hu tie hz1 hz2 hz3 row src k.1 aj.ok.hw;have iV:r < β.length:=(fH.1 cr1).1;refine Sz aj (by rw[ho];simp only[quietly,bU]) hd (v:=.row v') hT rfl cr1 r2 r3 (hold:=show Holds h (β.set r (.row v')) w' (.row tt dW (l1++l2)) (.row v') from r4) (run:=exec rfl r1) (he:=?_) (k:=k.2)
        refine⟨?_,?_⟩
        .refine⟨.row v',?_,rfl⟩;rw[pG iV]
        .rcases r4 with⟨rfl,_⟩ | ⟨_,rfl,_⟩ | ⟨g,cap,cur,rfl,_⟩<;>exact⟨rfl,rfl⟩
       .cases k
      .cases k
     .cases k
    .rename_i hx;have Fz:=aK aj hg tr hx;obtain⟨v',w',r1,r2,r3,r4⟩:=tu (ty:=o.type) (l:=[]) hu tie hz1 hz2 hz3 (.inl ⟨Fz.1.1,rfl⟩) src (by simpa using k.1) aj.ok.hw
     refine kG aj rfl hd k.2 λ_=>⟨v',w',.row v',exec rfl r1,?_,?_,?_,?_⟩
     .rw[Fz.1.1]at r2;exact r2
     .intro b hb;rcases r3 b (aW.1 hb) with hh | hh
      .rw[Fz.1.1]at hh;cases hh
      .exact hh
     .exact r4
     .refine⟨⟨_,jJ (kH aj) _,rfl⟩,?_⟩;rcases r4 with⟨rfl,_⟩ | ⟨_,rfl,_⟩ | ⟨g,cap,cur,rfl,_⟩<;>exact⟨rfl,rfl⟩
    .cases k
   .cases k
  .cases k
 .cases k
end
abbrev Pq(cx:Cx) (s:St) (G:Gd) (d:Option Nat) (t:TypeId) (ln cp:Operand) (K:St->Prop):Prop:=iq cx t λel ie sh=>
 match bH cx s G ln with
 | some (.one (.c (.v (.int _ n))))=>match bH cx s G cp with
   | some (.one (.c (.v (.int _ c))))=>side s.gl G (0<=n/\n<=c/\mY c.toNat ie.bytes)/\K ({ s with T:=snoc s.T (G,.row el sh (List.replicate n.toNat (pX sh))) }.put d G (.one (.c (.row (aN s.T)))))
   | _=>False
 | _=>False
theorem G9{α:Type}{R:List Value->α->Prop}{cs:List Value}{d:α} (r:R cs d):∀n:Nat,fK R (gY n cs) (List.replicate n d)
 | 0=>rfl
 | n+1=>⟨cs,gY n cs,by simp only[gY,fA],r,G9 r n⟩
theorem zu{l:List Value}:∀{n m:Nat},n<=m->(gY m l).take (n * l.length)=gY n l
 | 0,m,_=>by simp[gY]
 | n+1,0,h=>by omega
 | n+1,m+1,h=>by
   simp only[gY,fA];rw[xk,UY,aaE,zu (by omega)]
section
variable {cx:Cx}{P:Program}{N:Nat}{B:Base}{h0:FH}{s:St}{h:FH}{β:List RV}{w:World}{a:Act}{G:Gd}{o:Oper}{K:St->Prop}
theorem SA(hc:bJ P cx.ti) (aj:Sat N B h0 s h β w a) (hg:aI cx.gd h) (hG:uK s.gl.length G=true) (hd:kU N o.dst=true){x:Operand} (ho:o.op=.makeSlice t x y)
 (k:Pq cx s G o.dst t x y K):fO P N B h0 h w a o (gv s.gl G) K:=by
 unfold Pq iq at k;split at k
 .rename_i el hde;have hu:=bD hc hde (by simp)
  split at k
  .cases k
  rename_i ie hie;have tie:=hc.get hie;split at k
  .cases k
  rename_i sh hsh;split at k
  .rename_i hz;rw[ay,ay,A8,A8]at hz;have hz1:sh.size=ie.size:=gJ hz.1;have hz2:1<=ie.bytes:=oZ hz.2.1;have hz3:1<=ie.size:=oZ hz.2.2;split at k
   .rename_i ik n hn;split at k
    .rename_i ik' c hcp;refine kG aj hG hd k.2 λhgv=>?_
     obtain⟨s1,s2,s3⟩:=dZ k.1 hgv;have e1:a.eval x=.int ik n:=(aK aj hg hgv hn).1.1;have e2:a.eval y=.int ik' c:=(aK aj hg hgv hcp).1.1;obtain⟨inf,z,i1,i2,i3,i4,i5⟩:=tie.info;unfold mY at s3;have hcb:c.toNat<=140737488355328:=pI (A72 _ hz2) s3;have hb:(inf.bytes:Int) * c<=281474976710656:=by
      rw[i3];have:((c.toNat * ie.bytes:Nat):Int)<=140737488355328:=by omega
      rw[Int.natCast_mul,Int.toNat_of_nonneg (by omega),Int.mul_comm]at this
      omega
     have r:=run_make (P:=P) w t el inf z hu i1 i4 ik ik' n c s1 s2 hb (by omega)
     have Vs:madeCells z.cells (c.toNat * inf.size)=(gY c.toNat ie.zero).toArray:=by
      unfold madeCells;rw[i5,i2,<-tie.ou];exact qg (by rw[tie.ou];omega)
     rw[Vs]at r;refine⟨.slice (some ⟨w.heap.size,0,none⟩) n.toNat c.toNat,w.alloc (.cells (gY c.toNat ie.zero).toArray el),.row (.slice (some ⟨w.heap.size,0,none⟩) n.toNat c.toNat),?_,nG _ _ _,?_,?_,?_⟩
     .simp only[execOp,ho,e1,e2,Sem.run_bind,r,Result.andThen_ok,Sem.run_pure]
     .intro b hb';rw[aW]at hb';simp[au]at hb';obtain⟨_,rfl⟩:=hb';simp
     .by_cases hc0:c.toNat=0
      .have hn0:n.toNat=0:=by omega
       exact .inr (.inl ⟨⟨w.heap.size,0,none⟩,by rw[hc0,hn0],by rw[hn0];rfl⟩)
      refine .inr (.inr ⟨w.heap.size,c.toNat,_,by rw[Fa],lS _ _,by rw[Fa];omega,⟨by omega,by simp only[maxLen];omega⟩,?_,?_⟩)
      .simp only[EC,sW,tie.ou,hz1]
      .rw[Fa];show fK (Rd h sh) ((gY c.toNat ie.zero).take (n.toNat * sh.size)) _;rw[hz1,<-tie.ou,zu (by omega)]
       exact G9 (xU (tie.U8 sh hsh).1) _
     .exact⟨⟨_,jJ (kH aj) _,rfl⟩,rfl,rfl⟩
    .cases k
   .cases k
  .cases k
 .cases k
end
abbrev dY:(ss:List Sh)->bK ss->List SV
 | [],_=>[]
 | s :: l,d=>gV s d.1 :: dY l d.2
abbrev xX:(ss:List Sh)->List SV->Option (bK ss)
 | [],vs=>match vs with
   | []=>some ()
   | _=>none
 | s :: l,vs=>match vs with
   | v :: r=>match toDat s v with
     | some d=>match xX l r with
       | some e=>some (d,e)
       | none=>none
     | none=>none
   | _=>none
theorem xY{h:FH}{β:List RV}:∀{ss:List Sh}{vs:List SV}{ys:List Value}{d:bK ss},xX ss vs=some d->aO (cZ h β) vs ys->aO (cZ h β) (dY ss d) ys
 | [],vs,ys,d,e,a=>by
   unfold xX at e;split at e
   .cases ys with
    | nil=>trivial
    | cons _ _=>exact a.elim
   .cases e
 | s :: l,vs,ys,d,e,a=>by
   unfold xX at e;split at e
   .rename_i v r;cases ys with
    | nil=>exact a.elim
    | cons y ys=>
      split at e
      .rename_i d1 hd;split at e
       .rename_i d2 hr;cases e;obtain⟨cs,e1,rd⟩:=toDat_ok hd a.1;rw[e1];exact⟨jm s rd,xY hr a.2⟩
       .cases e
      .cases e
   .cases e
structure CT where
 ps:List Sh
 pre:bK ps->Prop
 res:bK ps->List ak×bF
variable {ct:Nat->Option CT}
def JC(P:Program) (gd:Nat->Option (Sigma Sh.den)) (f:FuncId) (ct:CT):Prop:=
 ∀(d:bK ct.ps) (vs:List Value) (h:FH) (B:World),(∀b o v,h b o=some v->vis B b o=some v)->aI gd h->aO (cZ h []) (dY ct.ps d) vs->ct.pre d ->
   Calls P f vs.toArray B (λen w'=>∃h' β y,en=.returned y/\OK (Base.of B) h (ct.res d).1 h' β w'/\jw h' β (ct.res d).2 y)
def CTX(P:Program) (gd:Nat->Option (Sigma Sh.den)) (f:FuncId) (suf:List Value) (ct:CT):Prop:=
 ∀(d:bK ct.ps) (vs:List Value) (h:FH) (B:World),(∀b o v,h b o=some v->vis B b o=some v)->aI gd h->aO (cZ h []) (dY ct.ps d) vs->ct.pre d ->
   Calls P f (vs++suf).toArray B (λen w'=>∃h' β y,en=.returned y/\OK (Base.of B) h (ct.res d).1 h' β w'/\jw h' β (ct.res d).2 y)
def CTS(P:Program) (gd:Nat->Option (Sigma Sh.den)) (f:FuncId) (sv:List SV) (ct:CT):Prop:=
 ∀(d:bK ct.ps) (vs ys:List Value) (h:FH) (B:World),(∀b o v,h b o=some v->vis B b o=some v)->aI gd h->aO (cZ h []) (dY ct.ps d) vs->aO (cZ h []) sv ys->ct.pre d ->
   Calls P f (vs++ys).toArray B (λen w'=>∃h' β y,en=.returned y/\OK (Base.of B) h (ct.res d).1 h' β w'/\jw h' β (ct.res d).2 y)
theorem JC.x{gd:Nat->Option (Sigma Sh.den)}{ct:CT} (h:JC P gd f ct):CTX P gd f [] ct:=by
 intro d vs h' B;simpa using h d vs h' B
theorem CTX.ok{gd:Nat->Option (Sigma Sh.den)}{ct:CT} (h:CTX P gd f [] ct):JC P gd f ct:=by
 intro d vs h' B;simpa using h d vs h' B
abbrev SC.sh(n:Nat):SC->SC
 | .own i off=>.own (n+i) off
 | .row i=>.row (n+i)
 | .jA i j sz off=>.jA (n+i) j sz off
 | .sub i j=>.sub (n+i) j
 | .kV i j k sz off=>.kV (n+i) j k sz off
 | x=>x
abbrev SV.sh(n:Nat):SV->SV
 | .c x=>.c (x.sh n)
 | .agg xs=>.agg (dV (SC.sh n) xs)
 | v=>v
abbrev bF.sh(n:Nat):bF->bF
 | .one v=>.one (v.sh n)
 | .iO vs=>.iO (dV (SV.sh n) vs)
abbrev ak.sh(n:Nat):ak->ak
 | .blk t cs=>.blk t (dV (SC.sh n) cs)
 | r=>r
abbrev iC:Sh->Bool
 | .int _=>true
 | .bool=>true
 | .str=>true
 | .unit=>true
 | .pair a b=>dA (iC a) (iC b)
 | .arr _ s=>iC s
 | _=>false
abbrev l7:SC->Bool
 | .v _=>true
 | .own _ _=>true
 | .row _=>true
 | _=>false
abbrev allL{α:Type} (p:α->Bool):List α->Bool
 | []=>true
 | x :: l=>dA (p x) (allL p l)
abbrev MZ:SV->Bool
 | .c x=>l7 x
 | .agg xs=>allL l7 xs
 | .dat s _=>iC s
 | .und=>true
abbrev He:bF->Bool
 | .one v=>MZ v
 | .iO vs=>allL MZ vs
abbrev uS:ak->Bool
 | .blk _ cs=>allL l7 cs
 | .row _ s _=>iC s
 | .obj _ s _=>iC s
 | .deep _ _ _ _ _ _ _ _=>false
 | .mp _ s _=>iC s
 | .LQ _ _ _ _=>false
 | .it _ _ _ _=>false
 | .Jj _ _ _ _=>true
 | .Fe _ _ _ _=>false
 | .gone=>true
theorem Rd.flat{h h':FH}:∀(s:Sh){cs:List Value}{d:s.den},iC s=true->Rd h s cs d->Rd h' s cs d
 | .int _,_,_,_,r=>r
 | .bool,_,_,_,r=>r
 | .str,_,_,_,r=>r
 | .unit,_,_,_,r=>r
 | .any,_,_,f,_=>by simp[iC]at f
 | .sl _,_,_,f,_=>by simp[iC]at f
 | .pair a b,_,(_,_),f,⟨c1,c2,e,r1,r2⟩=>by
   simp only[iC,ay,A8]at f;exact⟨c1,c2,e,r1.flat a f.1,r2.flat b f.2⟩
 | .arr _ s,_,_,f,⟨e,r⟩=>⟨e,r.mono λ_ _=>Rd.flat s f⟩
theorem nM{v:RV} (e:β'[i]?=some v):(β++β')[β.length+i]?=some v:=by
 rw[L6 (by omega)];simpa using e
theorem dN.shift:∀{x:SC}{y:Value},dN h β' x y->dN h (β++β') (x.sh β.length) y
 | .v _,_,c=>c
 | .sl _ _,_,c=>c
 | .fp _ _,_,c=>c
 | .one _ _,_,c=>c
 | .own _ _,_,⟨b,e,e'⟩=>⟨b,nM e,e'⟩
 | .row _,_,⟨v,e,e'⟩=>⟨v,nM e,e'⟩
 | .jA _ _ _ _,_,⟨v,g,e,e'⟩=>⟨v,g,nM e,e'⟩
 | .sub _ _,_,⟨v,us,e,e'⟩=>⟨v,us,nM e,e'⟩
 | .kV _ _ _ _ _,_,⟨v,us,g,e,e'⟩=>⟨v,us,g,nM e,e'⟩
 | .abs _,_,c=>c
 | .junk,_,_=>trivial
theorem dN.flat:∀{x:SC}{y:Value},l7 x=true->dN h β x y->dN h' β x y
 | .v _,_,_,c=>c
 | .own _ _,_,_,c=>c
 | .row _,_,_,c=>c
 | .sl _ _,_,f,_=>by simp[l7]at f
 | .fp _ _,_,f,_=>by simp[l7]at f
 | .one _ _,_,f,_=>by simp[l7]at f
 | .jA _ _ _ _,_,f,_=>by simp[l7]at f
 | .sub _ _,_,f,_=>by simp[l7]at f
 | .kV _ _ _ _ _,_,f,_=>by simp[l7]at f
 | .abs _,_,f,_=>by simp[l7]at f
 | .junk,_,f,_=>by simp[l7]at f
theorem aO.dV{α β:Type}{R R':α->β->Prop}{f:α->α} (hR:∀a b,R a b->R' (f a) b):∀{l:List α}{m:List β},aO R l m->aO R' (dV f l) m
 | [],[],_=>trivial
 | _ :: _,_ :: _,⟨a,b⟩=>⟨hR _ _ a,aO.dV hR b⟩
theorem aO.allL{α β:Type}{R R':α->β->Prop}{p:α->Bool} (hR:∀a b,p a=true->R a b->R' a b):∀{l:List α}{m:List β},allL p l=true->aO R l m->aO R' l m
 | [],[],_,_=>trivial
 | _ :: _,_ :: _,f,⟨a,b⟩=>by
   simp only[lH.allL,ay,A8]at f;exact⟨hR _ _ f.1 a,aO.allL hR f.2 b⟩
theorem cZ.shift{h:FH}{β β':List RV}:∀{x:SV}{y:Value},cZ h β' x y->cZ h (β++β') (x.sh β.length) y
 | .c _,_,c=>⟨c.1.shift,c.2⟩
 | .agg _,_,⟨ys,e,a⟩=>⟨ys,e,a.dV λ_ _ ⟨p,q⟩=>⟨p.shift,q⟩⟩
 | .dat _ _,_,c=>c
 | .und,_,c=>c
theorem cZ.flat{h h':FH}{β:List RV}:∀{x:SV}{y:Value},MZ x=true->cZ h β x y->cZ h' β x y
 | .c _,_,f,c=>⟨c.1.flat f,c.2⟩
 | .agg _,_,f,⟨ys,e,a⟩=>⟨ys,e,a.allL (λ_ _ f ⟨p,q⟩=>⟨p.flat f,q⟩) f⟩
 | .dat s _,_,f,⟨g,cs,e,r⟩=>⟨g,cs,e,r.flat s f⟩
 | .und,_,_,c=>c
theorem jw.shift{h:FH}{β β':List RV}:∀{x:bF}{y:Value},jw h β' x y->jw h (β++β') (x.sh β.length) y
 | .one _,_,c=>cZ.shift c
 | .iO _,_,⟨ys,e,a⟩=>⟨ys,e,a.dV (f:=SV.sh β.length) λ_ _ c=>cZ.shift c⟩
theorem jw.flat{h h':FH}{β:List RV}:∀{x:bF}{y:Value},He x=true->jw h β x y->jw h' β x y
 | .one _,_,f,c=>cZ.flat f c
 | .iO _,_,f,⟨ys,e,a⟩=>⟨ys,e,a.allL (λ_ _=>cZ.flat) f⟩
theorem Holds.shift{h:FH}{β β':List RV}{w:World}:∀{r:ak}{v:RV},Holds h β' w r v->Holds h (β++β') w (r.sh β.length) v
 | .blk _ _,.blk _,⟨ys,e,a⟩=>⟨ys,e,a.dV λ_ _ ⟨p,q⟩=>⟨p.shift,q⟩⟩
 | .row _ _ _,.row _,c=>c
 | .obj _ _ _,.blk _,c=>c
 | .deep _ _ _ _ _ _ _ _,.deep _ _,c=>c
 | .mp _ _ _,.row _,c=>c
 | .LQ _ _ _ _,.deep _ _,c=>c
 | .it _ _ _ _,.blk _,c=>c
 | .Jj _ _ _ _,.row _,c=>c
 | .Fe _ _ _ _,.deep _ _,c=>c
 | .gone,_,_=>trivial
theorem Holds.flat{h h':FH}{β:List RV}{w:World}:∀{r:ak}{v:RV},uS r=true->Holds h β w r v->Holds h' β w r v
 | .blk _ _,.blk _,f,⟨ys,e,a⟩=>⟨ys,e,a.allL (λ_ _ f ⟨p,q⟩=>⟨p.flat f,q⟩) f⟩
 | .row _ s _,.row _,f,c=>c.elim .inl λc=>c.elim (λc=>.inr (.inl c)) λ⟨g,cap,cur,e,q1,q2,q3,q4,q5⟩=>.inr (.inr ⟨g,cap,cur,e,q1,q2,q3,q4,q5.mono λ_ _=>Rd.flat s f⟩)
 | .obj _ s _,.blk _,f,⟨ys,e,r⟩=>⟨ys,e,r.flat s f⟩
 | .deep _ _ _ _ _ _ _ _,.deep _ _,f,_=>by cases f
 | .mp _ s _,.row _,f,⟨b,es,c,e,e1,m⟩=>⟨b,es,c,e,e1,m.mono λ_ _ ⟨cs,q,r⟩=>⟨cs,q,r.flat s f⟩⟩
 | .LQ _ _ _ _,.deep _ _,f,_=>by cases f
 | .it _ _ _ _,.blk _,f,_=>by cases f
 | .Jj _ _ _ _,.row _,_,c=>c
 | .Fe _ _ _ _,.deep _ _,f,_=>by cases f
 | .gone,_,_,_=>trivial
theorem ak.xZ(n:Nat) (r:ak):(r.sh n).live=r.live:=by cases r<;>rfl
theorem OK.call(ok:OK B h0 T h β w){hb:FH}{T':List ak} (ok':OK (Base.of w) hb T' h' β' w'){hn:FH} (le:h.le hn)
 (conv:∀(j:Nat) r v,T'[j]?=some r->Holds h' β' w' r v->Holds hn (β++β') w' (r.sh β.length) v)
 (hnw:∀b o v,hn b o=some v->vis w' b o=some v) (hng:∀b o v,hn b o=some v->h b o=some v\/(w.heap.size<=b/\h' b o=some v)):
 OK B h0 (T++T'.map (ak.sh β.length)) hn (β++β') w':=by
 have L:=ok.len;have L':=ok'.len;have own':∀(i:Nat) r v b,T'[i]?=some r->r.live=true->β'[i]?=some v->v.has b->w.heap.size<=b/\b < w'.heap.size/\∀o,h' b o=none:=ok'.own;have below':Below w.heap.size w w':=Bw.bel ok'.below;have dr':w.drawn<=w'.drawn:=ok'.dr;have split:∀{i:Nat}{r:ak}{v:RV},(T++T'.map (ak.sh β.length))[i]?=some r->(β++β')[i]?=some v ->
  (T[i]?=some r/\β[i]?=some v)\/∃j r',i=β.length+j/\T'[j]?=some r'/\r=r'.sh β.length/\β'[j]?=some v:=by
  intro i r v e e'
  by_cases hi:i < T.length
  .rw[Uo hi]at e;rw[Uo (by omega)]at e'
   exact .inl ⟨e,e'⟩
  .rw[L6 (by omega),Es]at e
   rw[L6 (by omega)]at e'
   cases hj:T'[i - T.length]? with
   | none=>rw[hj]at e;cases e
   | some r'=>rw[hj]at e;cases e;exact .inr ⟨i - T.length,r',by omega,hj,rfl,by rw[show i - T.length=i - β.length by omega];exact e'⟩
 have aa5:∀{i:Nat}{r:ak}{v:RV}{b:Nat},T[i]?=some r->r.live=true->β[i]?=some v->v.has b->∀o,hn b o=none:=by
  intro i r v b e1 e2 e3 e4 o;obtain⟨a1,a2,a3⟩:=ok.own i r v b e1 e2 e3 e4;cases hh:hn b o with
  | none=>rfl
  | some u=>
    rcases hng b o u hh with h1 | h1
    .rw[a3 o]at h1;cases h1
    .omega
 have aa6:∀{i:Nat}{r:ak}{v:RV}{b:Nat},T'[i]?=some r->r.live=true->β'[i]?=some v->v.has b->∀o,hn b o=none:=by
  intro i r v b e1 e2 e3 e4 o;obtain⟨a1,a2,a3⟩:=own' i r v b e1 e2 e3 e4;cases hh:hn b o with
  | none=>rfl
  | some u=>
    rcases hng b o u hh with h1 | h1
    .have:=nD (ok.hw b o u h1);omega
    .rw[a3 o]at h1;cases h1.2
 exact {
  below:=ok.below.below below'
  dr:=pI ok.dr dr'
  len:=by simp[L,L']
  holds:=by
   intro i r v e e';rcases split e e' with⟨f1,f2⟩ | ⟨j,r',hi,f1,hr,f2⟩
   .exact(ok.holds i r v f1 f2).move le (Ext.append _ _) λhl b hb=>below'.block b (ok.own i r v b f1 hl f2 hb).2.1
   .rw[hr];exact conv j r' v f1 (ok'.holds j r' v f1 f2)
  own:=by
   intro i r v b e hl e' hb';rcases split e e' with⟨f1,f2⟩ | ⟨j,r',hi,f1,hr,f2⟩
   .obtain⟨a1,a2,a3⟩:=ok.own i r v b f1 hl f2 hb';exact⟨a1,L8 a2 below'.size,aa5 f1 hl f2 hb'⟩
   .rw[hr,ak.xZ]at hl;obtain⟨a1,a2,a3⟩:=own' j r' v b f1 hl f2 hb';exact⟨B.up _ (pI ok.below.size a1),a2,aa6 f1 hl f2 hb'⟩
  inj:=by
   intro i j r1 r2 u v b e1 l1 e2 l2 e3 e4 b1 b2;rcases split e1 e3 with⟨f1,f3⟩ | ⟨i',r1',hi,f1,hr1,f3⟩<;>rcases split e2 e4 with⟨f2,f4⟩ | ⟨j',r2',hj,f2,hr2,f4⟩
   .exact ok.inj i j r1 r2 u v b f1 l1 f2 l2 f3 f4 b1 b2
   .rw[hr2,ak.xZ]at l2;have a1:=ok.own i r1 u b f1 l1 f3 b1;have a2:=own' j' r2' v b f2 l2 f4 b2;omega
   .rw[hr1,ak.xZ]at l1;have a1:=ok.own j r2 v b f2 l2 f4 b2;have a2:=own' i' r1' u b f1 l1 f3 b1;omega
   .rw[hr1,ak.xZ]at l1;rw[hr2,ak.xZ]at l2;rw[hi,hj,ok'.inj i' j' r1' r2' u v b f1 l1 f2 l2 f3 f4 b1 b2]
  hle:=ok.hle.trans le
  hw:=hnw
  hg:=by
   intro b o v hh;rcases hng b o v hh with h1 | h1
   .exact ok.hg b o v h1
   .exact .inr (B.up _ (pI ok.below.size h1.1))
  kn:=λk o hk=>by
   have h1:=ok.kn k o hk;exact(below'.block k (BI.1 h1).1).trans h1 }
theorem OK.Pv{B:Base}{h0 h:FH}{w:World}:∀(m:Nat){T:List ak}{β:List RV},OK B h0 T h β w->OK B h0 (T++List.replicate m .gone) h (β++List.replicate m .no) w
 | 0,T,β,ok=>by simpa using ok
 | m+1,T,β,ok=>by
   have:=OK.Pv m (ok.add (r:=.gone) (v:=.no) (bW w none) (λb hb=>(MF hb).elim) trivial)
   simpa[UN]using this
abbrev JD(G:Gd) (n:Nat):List (Gd×ak)->List ak->List (Gd×ak)
 | T,[]=>T
 | T,r :: l=>JD G n (snoc T (G,r.sh n)) l
theorem Bf(G:Gd) (n:Nat):∀(l:List ak) (T:List (Gd×ak)),JD G n T l=T++l.map λr=>(G,r.sh n)
 | [],T=>by simp[JD]
 | r :: l,T=>by simp[JD,Bf G n l,gZ]
theorem nN(gl:List Bool):∀(T U:List (Gd×ak)),eff gl (T++U)=eff gl T++eff gl U
 | [],_=>rfl
 | (g,r) :: l,U=>by simp[eff,nN gl l U]
theorem x9{gl:List Bool}{G:Gd}{n:Nat} (hG:gv gl G=true):∀(l:List ak),eff gl (l.map λr=>(G,r.sh n))=l.map (ak.sh n)
 | []=>rfl
 | r :: l=>by simp[eff,hG,jD,x9 hG l]
theorem vK{gl:List Bool}{G:Gd}{n:Nat} (hG:gv gl G=false):∀(l:List ak),eff gl (l.map λr=>(G,r.sh n))=List.replicate l.length .gone
 | []=>rfl
 | r :: l=>by simp[eff,hG,jD,vK hG l,UN]
theorem fK.Na{α:Type}{R:List Value->α->Prop}{k:Nat}:∀{l:List α}{cs:List Value},cs.length=l.length * k->(∀j d,l[j]?=some d->R ((cs.drop (j * k)).take k) d)->fK R cs l
 | [],cs,h,_=>Un (by simpa using h)
 | d :: l,cs,h,hR=>by
   rw[y9,xk]at h;refine⟨cs.take k,cs.drop k,(Ur k cs).symm,?_,fK.Na (k:=k) (by rw[xw];omega) λj d' hd=>?_⟩
   .have:=hR 0 d rfl;simpa using this
   .have:=hR (j+1) d' (by simpa using hd)
    rw[Rx]
    rwa [show k+j * k=(j+1) * k by rw[xk];omega]
theorem lq.sl{s:Sh}{l:List s.den} (x:lq h w t s l v) (le:h.le h') (hb:∀b,au v=some b->∀o u,vis w b o=some u->h' b o=some u):pK h' (Rd h' s) v l:=by
 rcases x with⟨e1,e2⟩ | ⟨ra,e1,e2⟩ | ⟨g,cap,cur,e1,q1,q2,q3,q4,q5⟩
 .exact .inl ⟨e1,e2⟩
 .exact .inr (.inl ⟨ra,0,e1,e2,Ja _⟩)
 .refine .inr (.inr ⟨g,0,cap,e1,q2,q3.2,_,q5.mono λ_ _=>Rd.mono le s,λj u hj=>?_⟩)
  refine hb g (by rw[e1];exact aS q3.1) _ _ ?_
  rw[Eu];have h1:=fK.all (λ_ _=>Rd.one s) q5 u (iJ hj)
  rw[uH]at hj;split at hj
  .exact ny q1 (by simpa using hj) h1.2
  .cases hj
theorem Vt{cs:List Value}{o:Nat}{u:Value} (h:cs[o]?=some u) (x:Value):(cs.set o x).set o u=cs:=by
 rw[List.set_set];exact fZ h
theorem zf.rd{h h':FH}{w:World}{s:Sh}{tt:TypeId}{e:Sh}{so:Nat}{own:Bool}{u:Value}{cs:List Value}{d:s.den} (x:zf h w s tt e so own false u cs d) (le:h.le h') (hb:∀b,au u=some b->∀o z,vis w b o=some z->h' b o=some z):Rd h' s cs d:=by
 unfold zf at x;cases own with
 | false=>exact x.1.mono le s
 | true=>
   obtain⟨d0,y,r,p,c,q⟩:=x;have:=p.rd (r.mono le s) (q.sl le hb)
   rwa [Vt c]at this
theorem dQ.data{s:Sh}{l:List s.den}{tt:TypeId}{e:Sh}{so:Nat}{own:Nat->Bool}{us:Nat->Value} (x:dQ h w t s l tt e so own [] v us) (le:h.le h')
 (hb:∀b,(RV.deep v us).has b->∀o z,vis w b o=some z->h' b o=some z):pK h' (Rd h' s) v l:=by
 obtain⟨_,_,x⟩:=x;rcases x with⟨e1,e2⟩ | ⟨ra,e1,e2⟩ | ⟨g,cap,cur,e1,q1,q2,q3,q4,q5,q6⟩
 .exact .inl ⟨e1,e2⟩
 .exact .inr (.inl ⟨ra,0,e1,e2,Ja _⟩)
 .have hm:l.length * s.size<=cap * s.size:=xg _ q2;have lc:cur.toList.length=cap * s.size:=by simpa using q4
  have rdl:fK (Rd h' s) (cur.toList.take (l.length * s.size)) l:=by
   refine fK.Na (k:=s.size) (by rw[jY];omega) λj d hd=>?_
   have hj:=(fH.1 hd).1;have hm:(j+1) * s.size<=l.length * s.size:=xg _ hj;rw[xk]at hm;have e5:List.take s.size (List.drop (j * s.size) (List.take (l.length * s.size) cur.toList))=List.take s.size (List.drop (j * s.size) cur.toList):=by
    apply Ar;intro p;simp only[uH,I9];split
    .rw[if_pos (by omega)]
    .rfl
   rw[e5];exact(q6 j d hd).rd le λb hu=>hb b (aQ.2 (.inr ⟨j,hu⟩))
  refine .inr (.inr ⟨g,0,cap,e1,q2,q3.2,cur.toList.take (l.length * s.size),rdl,λj u hj=>?_⟩)
  .refine hb g (aQ.2 (.inl (by rw[e1];exact aS (n:=l.length) q3.1))) _ _ ?_
   rw[Eu];have h1:=fK.all (λ_ _=>Rd.one s) rdl u (iJ hj)
   rw[uH]at hj;split at hj
   .exact ny q1 (by simpa using hj) h1.2
   .cases hj
abbrev aa7(s:St) (G:Gd) (x:SC):Option SC:=match x with
 | .v u=>some (.v u)
 | .sl sh l=>some (.sl sh l)
 | .fp sh d=>some (.fp sh d)
 | .one sh d=>some (.one sh d)
 | .row r=>match dU s.T r with
   | some (Gr,.row _ sh l)=>match pV Gr G with
     | true=>some (.sl sh l)
     | false=>none
   | some (Gr,.deep _ sh l _ _ _ _ [])=>match pV Gr G with
     | true=>some (.sl sh l)
     | false=>none
   | some (Gr,.mp k sh l)=>match pV Gr G with
     | true=>some (.one (.mp k sh) l)
     | false=>none
   | _=>none
 | _=>none
abbrev Vu(s:St) (G:Gd):List SC->Option (List SC)
 | []=>some []
 | x :: l=>match aa7 s G x with
   | some y=>match Vu s G l with
     | some m=>some (y :: m)
     | none=>none
   | none=>none
abbrev aa8(s:St) (G:Gd) (v:SV):Option SV:=match v with
 | .c x=>match aa7 s G x with
   | some y=>some (.c y)
   | none=>none
 | .agg xs=>match Vu s G xs with
   | some ys=>some (.agg ys)
   | none=>none
 | .dat sh d=>some (.dat sh d)
 | .und=>none
abbrev isRow:SC->Bool
 | .row _=>true
 | _=>false
abbrev noRow:SV->Bool
 | .c x=>!(isRow x)
 | .agg xs=>allL (λx=>!(isRow x)) xs
 | _=>true
abbrev tC(cx:Cx) (s:St) (G:Gd):List Operand->Option (List SV)
 | []=>some []
 | x :: l=>match bH cx s G x with
   | some (.one v)=>match tC cx s G l with
     | some r=>some (v :: r)
     | none=>none
   | _=>none
abbrev EM(s:St) (G:Gd):List SV->Option (List SV)
 | []=>some []
 | x :: l=>match aa8 s G x with
   | some v=>match EM s G l with
     | some r=>some (v :: r)
     | none=>none
   | none=>none
abbrev orB:Bool->Bool->Bool
 | true,_=>true
 | false,b=>b
abbrev iP(cx:Cx) (ct:Nat->Option CT) (s:St) (G:Gd) (d:Option Nat) (f:Nat) (args:List Operand) (K:St->Prop):Prop:=match ct f with
 | none=>False
 | some c=>match tC cx s G args with
   | none=>False
   | some vs=>match EM s G vs with
     | none=>False
     | some bs=>match xX c.ps bs with
       | none=>False
       | some dd=>match orB (allL noRow vs) (dA (He (c.res dd).2) (allL uS (c.res dd).1)) with
         | true=>side s.gl G (c.pre dd)/\K ({ s with T:=JD G (aN s.T) s.T (c.res dd).1 }.put d G ((c.res dd).2.sh (aN s.T)))
         | false=>False
theorem aO.aeX{α β:Type}{R:α->β->Prop}:∀{a c:List α}{l:List β},aO R (a++c) l->∃b d,l=b++d/\aO R a b/\aO R c d
 | [],c,l,h=>⟨[],l,rfl,trivial,h⟩
 | x :: a,c,[],h=>h.elim
 | x :: a,c,y :: l,⟨h1,h2⟩=>by
   obtain⟨b,d,e,p,q⟩:=aO.aeX (a:=a) h2;exact⟨y :: b,d,by rw[e];rfl,⟨h1,p⟩,q⟩
theorem aO.yc{α β:Type}{R:α->β->Prop}{x:α}:∀{l:List β},aO R [x] l->∃y,l=[y]/\R x y
 | [],h=>h.elim
 | [y],h=>⟨y,rfl,h.1⟩
 | _ :: _ :: _,h=>h.2.elim
theorem CP{h:FH}{β:List RV}:∀(s:Sh){d:s.den}{xs:List SC}{ys:List Value},flat s d=some xs->aO (λx y=>dN h β x y/\dD y) xs ys->Rd h s ys d
 | .int k,n,xs,ys,e,a=>by simp[flat]at e;subst e;obtain⟨y,rfl,r⟩:=a.yc;rw[r.1.1];rfl
 | .bool,n,xs,ys,e,a=>by simp[flat]at e;subst e;obtain⟨y,rfl,r⟩:=a.yc;rw[r.1.1];rfl
 | .str,n,xs,ys,e,a=>by simp[flat]at e;subst e;obtain⟨y,rfl,r⟩:=a.yc;rw[r.1.1];rfl
 | .any,n,xs,ys,e,a=>by simp[flat]at e
 | .sl s,l,xs,ys,e,a=>by simp[flat]at e;subst e;obtain⟨y,rfl,r⟩:=a.yc;exact⟨y,rfl,r.1⟩
 | .unit,n,xs,ys,e,a=>by
   simp[flat]at e;subst e;cases ys with
   | nil=>rfl
   | cons _ _=>exact a.elim
 | .arr _ _,n,xs,ys,e,a=>by simp[flat]at e
 | .mp k s,l,xs,ys,e,a=>by simp[flat]at e;subst e;obtain⟨y,rfl,r⟩:=a.yc;exact r.1
 | .pair a b,(x,y),xs,ys,e,al=>by
   unfold flat at e;split at e
   .rename_i p hp;split at e
    .rename_i q hq;cases e;rw[fA]at al;obtain⟨c1,c2,rfl,r1,r2⟩:=al.aeX;exact⟨c1,c2,rfl,CP a hp r1,CP b hq r2⟩
    .cases e
   .cases e
theorem FB:∀(s:Sh){d:s.den}{y:Value},cZ h β (gV s d) y->DV h s d y
 | .int k,n,y,c=>⟨[y],rfl,by rw[c.1.1];rfl⟩
 | .bool,n,y,c=>⟨[y],rfl,by rw[c.1.1];rfl⟩
 | .str,n,y,c=>⟨[y],rfl,by rw[c.1.1];rfl⟩
 | .any,n,y,c=>⟨[y],rfl,by rw[c.1.1];exact⟨rfl,c.1.2⟩⟩
 | .sl s,l,y,c=>⟨[y],rfl,y,rfl,c.1⟩
 | .unit,n,y,⟨ys,e,a⟩=>by
   cases ys with
   | nil=>exact⟨[],e,rfl⟩
   | cons _ _=>exact a.elim
 | .arr n s,l,y,⟨_,cs,e,r⟩=>⟨cs,e,r⟩
 | .mp k s,l,y,c=>⟨[y],rfl,c.1⟩
 | .pair a b,d,y,c=>by
   have e:gV (.pair a b) d=match flat (.pair a b) d with
    | some xs=>.agg xs
    | none=>.dat (.pair a b) d:=rfl
   rw[e]at c;cases hx:flat (.pair a b) d with
   | some xs=>
     rw[hx]at c;obtain⟨ys,e,al⟩:=c;exact⟨ys,e,CP (.pair a b) hx al⟩
   | none=>
     rw[hx]at c;obtain⟨_,cs,e,r⟩:=c;exact⟨cs,e,r⟩
theorem CQ{h:FH}:∀{ss:List Sh}{d:bK ss}{ys:List Value},aO (cZ h []) (dY ss d) ys->Ac h ss d ys
 | [],_,[],_=>trivial
 | [],_,_ :: _,x=>x.elim
 | _ :: _,_,[],x=>x.elim
 | s :: l,d,y :: ys,⟨a,b⟩=>⟨FB s a,CQ b⟩
section
variable {cx:Cx}{P:Program}{N:Nat}{B:Base}{h0:FH}{s:St}{h:FH}{β:List RV}{w:World}{a:Act}{G:Gd}{o:Oper}{K:St->Prop}
theorem qj(aj:Sat N B h0 s h β w a) (hg:aI cx.gd h) (hG:gv s.gl G=true):∀{l:List Operand}{vs:List SV},tC cx s G l=some vs->aO (cZ h β) vs (l.map a.eval)
 | [],vs,e=>by simp[tC]at e;subst e;trivial
 | x :: l,vs,e=>by
   unfold tC at e;split at e
   .rename_i v hv;split at e
    .rename_i r hr;cases e;exact⟨aK aj hg hG hv,qj aj hg hG hr⟩
    .cases e
   .cases e
def FH.all(w:World):FH:=λb o=>vis w b o
theorem OK.aeY(ok:OK B h0 T h β w){k:IntKind}{s:Sh}{l:List (Int×s.den)}{y:Value} (hT:T[i]?=some (.mp k s l)) (hx:dN h β (.row i) y):β[i]?=some (.row y):=by
 obtain⟨v,e,es⟩:=hx;have hold:=ok.holds i _ _ hT e
 match v,hold,es with
 | .row v,_,es=>cases es;exact e
theorem OK.aeZ(ok:OK B h0 T h β w){k:IntKind}{s:Sh}{l:List (Int×s.den)}{y:Value} (hT:T[i]?=some (.mp k s l)) (hx:dN h β (.row i) y):
 ∃b es c,y=.map (some b)/\w.heap[b]?=some (.map es c)/\wu k (DW h s) es c l:=ok.holds i _ _ hT (ok.aeY hT hx)
theorem Px(aj:Sat N B h0 s h β w a) (hG:gv s.gl G=true){x y:SC} (e:aa7 s G x=some y) (c:dN h β x v):
 dN (FH.all w) [] y v/\(isRow x=false->dN h [] y v):=by
 have le:h.le (FH.all w):=aj.ok.hw;unfold aa7 at e;split at e
 .cases e;exact⟨c,λ_=>c⟩
 .cases e;exact⟨pK.mono le (λ_ _=>Rd.mono le _) c,λ_=>c⟩
 .cases e;obtain⟨b,o,cs,e,r,at_⟩:=c;exact⟨⟨b,o,cs,e,r.mono le _,at_.mono le⟩,λ_=>⟨b,o,cs,e,r,at_⟩⟩
 .cases e;exact⟨Rd.mono le _ c,λ_=>c⟩
 .rename_i r;split at e
  .rename_i Gr tt sh l hT;split at e
   .rename_i hs;cases e;refine⟨?_,λhh=>by cases hh⟩
    rcases aj.ok.holds r _ _ (bg hT (eX hs hG)) (aj.ok.row_of (bg hT (eX hs hG)) c) with⟨e1,e2⟩ | ⟨ra,e1,e2⟩ | ⟨g,cap,cur,e1,q1,q2,q3,q4,q5⟩
    .exact .inl ⟨e1,e2⟩
    .exact .inr (.inl ⟨ra,0,e1,e2,Ja _⟩)
    .refine .inr (.inr ⟨g,0,cap,e1,q2,q3.2,_,q5.mono λ_ _=>Rd.mono le sh,λj u hj=>?_⟩)
     show vis w g (0+j)=some u;rw[Eu];have h1:=fK.all (λ_ _=>Rd.one sh) q5 u (iJ hj)
     rw[uH]at hj;split at hj
     .exact ny q1 (by simpa using hj) h1.2
     .cases hj
   .cases e
  .rename_i Gr tt sh l t2 e2 so own hT;split at e
   .rename_i hs;cases e;refine⟨?_,λhh=>by cases hh⟩
    obtain⟨us,_,hd⟩:=aj.ok.uO (bg hT (eX hs hG)) c;exact hd.data le λb _ o z hz=>hz
   .cases e
  .rename_i Gr k sh l hT;split at e
   .rename_i hs;cases e;refine⟨?_,λhh=>by cases hh⟩
    obtain⟨b,es,cl,hb,hw,m⟩:=aj.ok.aeZ (bg hT (eX hs hG)) c;exact⟨_,rfl,.inr ⟨b,es,cl,hb,O1 hw,m.mono λ_ _=>DW.mono le⟩⟩
   .cases e
  .cases e
 .cases e
theorem Py(aj:Sat N B h0 s h β w a) (hG:gv s.gl G=true):∀{xs ys:List SC}{vs:List Value},Vu s G xs=some ys->aO (λx y=>dN h β x y/\dD y) xs vs ->
 aO (λx y=>dN (FH.all w) [] x y/\dD y) ys vs/\(allL (λx=>!(isRow x)) xs=true->aO (λx y=>dN h [] x y/\dD y) ys vs)
 | [],ys,[],e,_=>by simp[Vu]at e;subst e;exact⟨trivial,λ_=>trivial⟩
 | x :: l,ys,v :: vs,e,⟨c,r⟩=>by
   unfold Vu at e;split at e
   .rename_i y hy;split at e
    .rename_i m hm;cases e;obtain⟨h1,h2⟩:=Px aj hG hy c.1;obtain⟨h3,h4⟩:=Py aj hG hm r;refine⟨⟨⟨h1,c.2⟩,h3⟩,λhh=>?_⟩
     simp only[allL,ay,A8]at hh;exact⟨⟨h2 (by simpa using hh.1),c.2⟩,h4 hh.2⟩
    .cases e
   .cases e
theorem Pz(aj:Sat N B h0 s h β w a) (hG:gv s.gl G=true){x y:SV} (e:aa8 s G x=some y) (c:cZ h β x v):
 cZ (FH.all w) [] y v/\(noRow x=true->cZ h [] y v):=by
 have le:h.le (FH.all w):=aj.ok.hw;unfold aa8 at e;split at e
 .split at e
  .rename_i y hy;cases e;obtain⟨h1,h2⟩:=Px aj hG hy c.1;exact⟨⟨h1,c.2⟩,λhh=>⟨h2 (by simpa[noRow]using hh),c.2⟩⟩
  .cases e
 .split at e
  .rename_i ys hy;cases e;obtain⟨vs,e1,e2⟩:=c;obtain⟨h1,h2⟩:=Py aj hG hy e2;exact⟨⟨vs,e1,h1⟩,λhh=>⟨vs,e1,h2 hh⟩⟩
  .cases e
 .cases e;obtain⟨g,cs,e1,r⟩:=c;exact⟨⟨g,cs,e1,r.mono le _⟩,λ_=>⟨g,cs,e1,r⟩⟩
 .cases e
theorem yg(aj:Sat N B h0 s h β w a) (hG:gv s.gl G=true):∀{xs ys:List SV}{vs:List Value},EM s G xs=some ys->aO (cZ h β) xs vs ->
 aO (cZ (FH.all w) []) ys vs/\(allL noRow xs=true->aO (cZ h []) ys vs)
 | [],ys,[],e,_=>by simp[EM]at e;subst e;exact⟨trivial,λ_=>trivial⟩
 | x :: l,ys,v :: vs,e,⟨c,r⟩=>by
   unfold EM at e;split at e
   .rename_i y hy;split at e
    .rename_i m hm;cases e;obtain⟨h1,h2⟩:=Pz aj hG hy c;obtain⟨h3,h4⟩:=yg aj hG hm r;refine⟨⟨h1,h3⟩,λhh=>?_⟩
     simp only[allL,ay,A8]at hh;exact⟨h2 hh.1,h4 hh.2⟩
    .cases e
   .cases e
theorem CU{lb:Array Value}{suf:List Value} (hct:∀c,ct f=some c->∀(d:bK c.ps) (vs:List Value) (h':FH),h.le h'->(∀b o v,h' b o=some v->vis w b o=some v)->aI cx.gd h'->aO (cZ h' []) (dY c.ps d) vs->c.pre d->Calls P f (vs++suf).toArray w (λen w'=>∃h'' β y,en=.returned y/\OK (Base.of w) h' (c.res d).1 h'' β w'/\jw h'' β (c.res d).2 y)) (aj:Sat N B h0 s h β w a) (hg:aI cx.gd h) (hG:uK s.gl.length G=true) (hd:kU N o.dst=true) (ho:o.op=.call c)
 {x:Operand}{xs:List Operand} (bU:c.callee=.value x) (hx:gv s.gl G=true->a.eval x=.func (.func f) #[] lb) (hxs:c.args.map a.eval++lb=(xs.map a.eval++suf).toArray)
 (hf:∃fn,P.funcs[f]?=some fn/\fn.body.isSome=true/\(fn.name == "runtime.NumGoroutine")=false)
 (k:iP cx ct s G o.dst f xs K):fO P N B h0 h w a o (gv s.gl G) K:=by
 unfold iP at k;split at k
 .cases k
 rename_i cc hcc;split at k
 .cases k
 rename_i vs hvs;split at k
 .cases k
 rename_i bs hbs;split at k
 .cases k
 rename_i dd hdd;split at k
 .rename_i JE;obtain⟨T',fG⟩:∃T',T'=(cc.res dd).1:=⟨_,rfl⟩;obtain⟨e,he0⟩:∃e,e=(cc.res dd).2:=⟨_,rfl⟩;rw[<-fG,<-he0]at k JE;have gT:∀p∈JD G (aN s.T) s.T T',uK s.gl.length p.1=true:=by
   intro p hp;rw[Bf,Et]at hp;rcases hp with hp | hp
   .exact aj.gT p hp
   .simp only[List.mem_map]at hp;obtain⟨r,_,rfl⟩:=hp;exact hG
  have hlen:=kH aj;intro Nx Q next
  cases hgv:gv s.gl G with
  | false=>
    rw[if_neg (by simp)]
    refine next _ h (β++List.replicate T'.length .no) _ _ k.2 (FH.le.refl h) (λ_=>lX.refl w) ?_
    have ok:OK B h0 (eff s.gl (JD G (aN s.T) s.T T')) h (β++List.replicate T'.length .no) w:=by
     rw[Bf,nN,vK hgv];exact aj.ok.Pv _
    exact(aj.mem ok (FH.le.refl h) (Ext.append _ _) gT).put (dI hd) hG (λhh=>by simp only at hh;rw[hgv]at hh;cases hh) λ_=>rfl
  | true=>
    rw[if_pos rfl];obtain⟨fn,hfn,hbody,hname⟩:=hf;have hav:=qj aj hg hgv hvs;have aF:=dZ k.1 hgv;have exec:(execOp a.eval o).run P w=.ok (.enter f (c.args.map a.eval++lb)) w:=by
     simp only[execOp,ho,resolve,bU,hx hgv,Deferred.ofValue,invoke,Sem.run_bind,Sem.run_pure,Result.andThen_ok,callFunc,run_program,afC,Array.append_empty,hfn,hname];simp[hbody];cases hb:fn.body with
     | none=>rw[hb]at hbody;cases hbody
     | some _=>simp
    have hargs:=hxs;unfold Oper.wp;rw[exec];simp only[Oper.upon];rw[hargs];obtain⟨b1,b2⟩:=yg aj hgv hbs hav;have fin:∀{hb:FH}{h':FH}{β':List RV}{w':World}{y:Value}{hn:FH},OK (Base.of w) hb T' h' β' w'->h.le hn ->
     (∀(j:Nat) r v,T'[j]?=some r->Holds h' β' w' r v->Holds hn (β++β') w' (r.sh β.length) v)->(∀b o v,hn b o=some v->vis w' b o=some v) ->
     (∀b o v,hn b o=some v->h b o=some v\/(w.heap.size<=b/\h' b o=some v))->jw hn (β++β') (e.sh β.length) y->Nx (a.put o.dst y) w':=by
     intro hb h' β' w' y hn ok' le conv hnw hng he;have ok:=aj.ok.call ok' le conv hnw hng;refine next _ hn (β++β') _ _ k.2 le (λ_=>lX.of_below (Bw.bel ok'.below)) ?_
     have okT:OK B h0 (eff s.gl (JD G (aN s.T) s.T T')) hn (β++β') w':=by
      rw[Bf,nN,x9 hgv,<-hlen];exact ok
     rw[hlen]at he;exact(aj.mem okT le (Ext.append _ _) gT).put (dI hd) hG (λ_=>he) λhh=>by simp only at hh;rw[hgv]at hh;cases hh
    have keep:∀{hb h':FH}{β':List RV}{w':World},OK (Base.of w) hb T' h' β' w'->∀b o v,h b o=some v->vis w' b o=some v:=by
     intro hb h' β' w' ok' b o v hh;have h1:=aj.ok.hw b o v hh;exact(jy ((Bw.bel ok'.below).block b (nD h1))).trans h1
    cases hnr:allL noRow vs with
    | true=>
      refine(hct cc hcc dd _ h (FH.le.refl h) aj.ok.hw hg (xY hdd (b2 hnr)) aF).mono ?_;rintro en w' ⟨h',β',y,rfl,ok',he⟩;rw[<-fG]at ok';rw[<-he0]at he;refine fin ok' ok'.hle (λj r v _ hh=>hh.shift) ok'.hw (λb o v hh=>?_) he.shift
      rcases ok'.hg b o v hh with h1 | h1
      .exact .inl h1
      .exact .inr ⟨h1,hh⟩
    | false=>
      rw[hnr]at JE;simp only[orB,ay,A8]at JE;refine(hct cc hcc dd _ (FH.all w) aj.ok.hw (λ_ _ _ hh=>hh) (hg.mono aj.ok.hw) (xY hdd b1) aF).mono ?_
      rintro en w' ⟨h',β',y,rfl,ok',he⟩;rw[<-fG]at ok';rw[<-he0]at he;refine fin ok' (FH.le.refl h) (λj r v hj hh=>(hh.flat ?_).shift) (keep ok') (λb o v hh=>.inl hh) (he.flat JE.1).shift
      have:∀{l:List ak}{j:Nat}{r:ak},allL uS l=true->l[j]?=some r->uS r=true:=by
       intro l
       induction l with
       | nil=>intro j r _ e;simp at e
       | cons x l ih=>
         intro j r hh e;simp only[allL,ay,A8]at hh;cases j with
         | zero=>simp at e;subst e;exact hh.1
         | succ j=>exact ih hh.2 (by simpa using e)
      exact this JE.2 hj
 .cases k
theorem wH{suf:List Value} (hct:∀c,ct f=some c->∀(d:bK c.ps) (vs:List Value) (h':FH),h.le h'->(∀b o v,h' b o=some v->vis w b o=some v)->aI cx.gd h'->aO (cZ h' []) (dY c.ps d) vs->c.pre d->Calls P f (vs++suf).toArray w (λen w'=>∃h'' β y,en=.returned y/\OK (Base.of w) h' (c.res d).1 h'' β w'/\jw h'' β (c.res d).2 y)) (aj:Sat N B h0 s h β w a) (hg:aI cx.gd h) (hG:uK s.gl.length G=true) (hd:kU N o.dst=true) (ho:o.op=.call c)
 {x:Operand}{xs:List Operand} (bU:c.callee=.value x) (hx:gv s.gl G=true->a.eval x=.func (.func f) #[] #[]) (hxs:c.args.map a.eval=(xs.map a.eval++suf).toArray)
 (hf:∃fn,P.funcs[f]?=some fn/\fn.body.isSome=true/\(fn.name == "runtime.NumGoroutine")=false)
 (k:iP cx ct s G o.dst f xs K):fO P N B h0 h w a o (gv s.gl G) K:=
 CU hct aj hg hG hd ho bU hx (by rw[Array.append_empty];exact hxs) hf k
theorem qW{suf:List Value} (hct:∀f c,ct f=some c->CTX P cx.gd f suf c) (aj:Sat N B h0 s h β w a) (hg:aI cx.gd h) (hG:uK s.gl.length G=true) (hd:kU N o.dst=true) (ho:o.op=.call c)
 {x:Operand}{xs:List Operand} (bU:c.callee=.value x) (hx:gv s.gl G=true->a.eval x=.func (.func f) #[] #[]) (hxs:c.args.map a.eval=(xs.map a.eval++suf).toArray)
 (hf:∃fn,P.funcs[f]?=some fn/\fn.body.isSome=true/\(fn.name == "runtime.NumGoroutine")=false)
 (k:iP cx ct s G o.dst f xs K):fO P N B h0 h w a o (gv s.gl G) K:=
 wH (λc e d vs h' _ hw hg' ha hp=>hct f c e d vs h' w hw hg' ha hp) aj hg hG hd ho bU hx hxs hf k
theorem SB(hct:∀f c,ct f=some c->JC P cx.gd f c) (aj:Sat N B h0 s h β w a) (hg:aI cx.gd h) (hG:uK s.gl.length G=true) (hd:kU N o.dst=true) (ho:o.op=.call c) (bU:c.callee=.value (.func f))
 (hf:∃fn,P.funcs[f]?=some fn/\fn.body.isSome=true/\(fn.name == "runtime.NumGoroutine")=false)
 (k:iP cx ct s G o.dst f (tl c.args) K):fO P N B h0 h w a o (gv s.gl G) K:=
 qW (suf:=[]) (λf c e=>(hct f c e).x) aj hg hG hd ho bU (λ_=>rfl) (by cases c.args;simp) hf k
end
section
variable {P:Program}{ops:Array Oper}{md:Region.Mode}{sf:Nat->Bool}
abbrev Hf:Exit->Act->World->Prop:=λ_ _ _=>False
def y7(P:Program) (ops:Array Oper) (i:Nat) (K:Act->World->Prop) (a:Act) (w:World):Prop:=
 match ops[i]? with
 | none=>K a w
 | some o=>if Region.wanted o (yielded ops a.tmps)=true then o.wp P a w K Hf else K (a.put o.dst undef) w
theorem wI{Q:Exit->Act->World->Prop} (h:LetsOut Hf):LetsOut Q:=by
 unfold LetsOut at *;obtain⟨_,_,hh⟩:=h;exact False.elim hh
theorem JF{K K':Act->World->Prop} (h:∀a w,K a w->K' a w) (hh:y7 P ops i K a w):y7 P ops i K' a w:=by
 unfold y7 at *;split
 .exact h _ _ (by simpa[*]using hh)
 .rename_i o ho;simp only[ho]at hh;split
  .rename_i hw;rw[if_pos hw]at hh;exact Oper.wp_mono h hh
  .rename_i hw;rw[if_neg hw]at hh;exact h _ _ hh
abbrev wJ(ops:Array Oper) (i:Nat):Bool:=match ops[i]? with
 | some o=>quietly o.op
 | none=>true
def anyI(P:Program) (md:Region.Mode) (ops:Array Oper) (sf:Nat->Bool) (R:Act->World->Prop):Nat->Array Bool->Act->World->Prop
 | 0,listed,a,w=>Region.ready md ops listed=[]/\R a w
 | fuel+1,listed,a,w=>(Region.ready md ops listed=[]->R a w) /\
   ∀i∈Region.ready md ops listed,y7 P ops i (λa' w'=>(sf i=true->lX w w')/\anyI P md ops sf R fuel (listed.setIfInBounds i true) a' w') a w
def YI(P:Program) (ops:Array Oper) (ld:Bool) (w0:World) (o:Oper) (v:Value) (a:Act):Prop:=
 (Region.wanted o (yielded ops a.tmps)=true/\∀w,(ld=true->lX w0 w)->(execOp a.eval o).run P w=.ok (.value v) w) \/
 (Region.wanted o (yielded ops a.tmps)=false/\v=undef)
theorem YI.of_same{ld:Bool}{w0:World}{a':Act} (hy:YI P ops ld w0 o v a) (he:execOp a'.eval o=execOp a.eval o)
 (hw:Region.wanted o (yielded ops a'.tmps)=Region.wanted o (yielded ops a.tmps)):YI P ops ld w0 o v a':=by
 unfold YI at *;rw[he,hw];exact hy
theorem YI.y7{ld:Bool}{w0:World}{i:Nat}{o:Oper}{v:Value}{a:Act} (hi:ops[i]?=some o) (hy:YI P ops ld w0 o v a){K:Act->World->Prop}{w:World} (hg:ld=true->lX w0 w)
 (h:K (a.put o.dst v) w):y7 P ops i K a w:=by
 unfold Go.lH.y7;simp only[hi];rcases hy with⟨hw,hv⟩ | ⟨hw,rfl⟩
 .rw[if_pos hw];unfold Oper.wp;rw[hv w hg];exact h
 .rw[if_neg (by rw[hw];simp)];exact h
theorem aa9{ld:Bool}{w0:World}{j:Nat}{oi oj:Oper} (hj:ops[j]?=some oj) (hap:oi.apart ops oj=true)
 (hsi:∀cs b,oi.op≠.select cs b) (hsj:∀cs b,oj.op≠.select cs b){K:Act->World->Prop}
 (hy:YI P ops ld w0 oi v a) (h:y7 P ops j K (a.put oi.dst v) w):
 y7 P ops j (λa' w'=>YI P ops ld w0 oi v a'/\K (a'.put oi.dst v) w') a w:=by
 obtain⟨h1,h2,h3⟩:=Oper.apart_spec hap;have keep:∀(a:Act),YI P ops ld w0 oi v a->∀u,YI P ops ld w0 oi v (a.put oj.dst u):=λa hy u=>
  hy.of_same (execOp_put oi hsi a oj.dst u h3) (wanted_put oi a oj.dst u h3)
 have keepD:∀d,YI P ops ld w0 oi v { a with defers:=d :: a.defers }:=λd=>hy.of_same rfl rfl
 unfold y7 at *;simp only[hj]at *;rw[wanted_put oj a oi.dst v h1]at h;split
 .rename_i hw;rw[if_pos hw]at h;unfold Oper.wp at *;rw[execOp_put oj hsj a oi.dst v h1]at h;generalize (execOp a.eval oj).run P w=r at *;cases r with
  | ok n w'=>
    cases n<;>simp only[Oper.upon]at h ⊢
    case value u=>exact⟨keep a hy u,by rw[<-Act.put_comm a v u h2];exact h⟩
    case skip=>exact⟨keep a hy _,by rw[<-Act.put_comm a v undef h2];exact h⟩
    case defer d=>
     refine⟨(keep _ (keepD d) _),?_⟩;rw[<-Act.put_comm _ v undef h2,<-Act.put_defers];exact h
    case enter f args=>
     refine h.mono λe w'' he=>?_
     cases e with
     | returned u=>exact⟨keep a hy u,by rw[<-Act.put_comm a v u h2];exact he⟩
     | panicked c=>exact he
     | outgrown=>exact he
    case row r args=>
     refine Rows.mono h λu w'' he=>?_
     exact⟨keep a hy u,by rw[<-Act.put_comm a v u h2];exact he⟩
    all_goals exact h
  | halt x w'=>cases x<;>simp only[Oper.upon]at h ⊢<;>exact h
 .rename_i hw;rw[if_neg hw]at h;exact⟨keep a hy _,by rw[<-Act.put_comm a v undef h2];exact h⟩
def Waits(md:Region.Mode) (ops:Array Oper) (listed:Array Bool) (i:Nat) (bl:List Nat):Prop:=
 ∀j∈bl,listed.getD j true=false/\∃o,ops[j]?=some o/\∃e∈o.after,Region.binds md e=true/\(e.on=i\/e.on∈bl)
theorem uT{listed:Array Bool} (h:listed.getD i true=false):listed.getD i false=false:=by
 rcases UU i listed.size with h' | h'
 .simp[h']at h ⊢;exact h
 .simp[aaI h']at h
theorem FC{listed:Array Bool}{j:Nat}{bl:List Nat} (hi:listed.getD i true=false) (hw:Waits md ops listed i bl) (hj:j∈bl):j∉Region.ready md ops listed:=by
 intro hr;obtain⟨_,oj,hoj,hall⟩:=mem_ready.1 hr;obtain⟨_,o,ho,e,he,hb,hh⟩:=hw j hj;rw[hoj]at ho;cases ho;have h1:=hall e he hb;rcases hh with hh | hh
 .rw[hh,uT hi]at h1;cases h1
 .rw[uT (hw _ hh).1]at h1;cases h1
theorem CV{R:Act->World->Prop}{ld:Bool}{w0:World}{oi:Oper}{bl:List Nat} (hi:ops[i]?=some oi) (hsel:∀(j:Nat) (o:Oper) cs b,ops[j]?=some o->o.op≠.select cs b)
 (hq:sf i=true):
 ∀(fuel:Nat) (listed:Array Bool) (a:Act) (w:World),
   (∀j oj,ops[j]?=some oj->j≠i->listed.getD j true=false->(∀e∈oj.after,Region.binds md e=true->e.on≠i)->oi.apart ops oj=true) ->
   (ld=true->Waits md ops listed i bl/\∀j,j≠i->listed.getD j true=false->sf j=false->j∈bl) ->
   i∈Region.ready md ops listed->YI P ops ld w0 oi v a->(ld=true->lX w0 w) ->
   anyI P md ops sf R fuel (listed.setIfInBounds i true) (a.put oi.dst v) w->anyI P md ops sf R (fuel+1) listed a w:=by
 intro fuel
 induction fuel with
 | zero=>
   intro listed a w _ _ hr hy hg H;refine⟨λh=>(by rw[h]at hr;cases hr),λj hj=>?_⟩
   by_cases hji:j=i
   .subst hji;exact hy.y7 hi hg ⟨λ_=>lX.refl w,H⟩
   .have:=ready_mono hj hji;rw[H.1]at this;cases this
 | succ fuel ih=>
   intro listed a w hfree hbl hr hy hg H;refine⟨λh=>(by rw[h]at hr;cases hr),λj hj=>?_⟩
   by_cases hji:j=i
   .subst hji;exact hy.y7 hi hg ⟨λ_=>lX.refl w,H⟩
   .have h1:=H.2 j (ready_mono hj hji);obtain⟨hjun,oj,hoj,hall⟩:=mem_ready.1 hj;have Vw:=(mem_ready.1 hr).1;have hnot:∀e∈oj.after,Region.binds md e=true->e.on≠i:=λe he hb heq=>by
     have h1:=hall e he hb;rw[heq,uT Vw]at h1;cases h1
    have h2:=aa9 hoj (hfree j oj hoj hji hjun hnot) (λcs b=>hsel i oi cs b hi) (λcs b=>hsel j oj cs b hoj) hy h1
    have hfree':∀k ok,ops[k]?=some ok->k≠i->(listed.setIfInBounds j true).getD k true=false ->
     (∀e∈ok.after,Region.binds md e=true->e.on≠i)->oi.apart ops ok=true:=λk ok hk hki hun hno=>by
     refine hfree k ok hk hki ?_ hno
     by_cases jh:j=k
     .subst jh;exact hjun
     .rw[getD_set_ne true jh]at hun;exact hun
    have Vx:ld=true->j∉bl:=λe hm=>FC Vw (hbl e).1 hm hj
    have hsj:ld=true->sf j=true:=λe=>by
     cases hs:sf j with
     | true=>rfl
     | false=>exact absurd ((hbl e).2 j hji hjun hs) (Vx e)
    have afR:ld=true->Waits md ops (listed.setIfInBounds j true) i bl/\∀k,k≠i->(listed.setIfInBounds j true).getD k true=false->sf k=false->k∈bl:=λe=>by
     refine⟨λk hk=>?_,λk hki hun hs=>?_⟩
     .obtain⟨g1,g2⟩:=(hbl e).1 k hk;refine⟨?_,g2⟩;rw[getD_set_ne true (λhh=>Vx e (by rw[hh];exact hk))];exact g1
     .refine(hbl e).2 k hki ?_ hs
      by_cases jh:j=k
      .subst jh;exact hjun
      .rw[getD_set_ne true jh]at hun;exact hun
    refine JF (λa' w' h3=>⟨h3.2.1,ih (listed.setIfInBounds j true) a' w' hfree' afR (ready_mono hr (Ne.symm hji)) h3.1 (λe=>(hg e).trans (h3.2.1 (hsj e))) ?_⟩) h2
    rw[Array.setIfInBounds_comm _ _ hji];exact h3.2.2
end
abbrev FI(i k n:Nat):Nat:=match Nat.beq n i with
 | true=>k
 | false=>match Nat.beq n k with
   | true=>i
   | false=>n
theorem Vy(h:¬n=i):Nat.beq n i=false:=by
 cases hb:Nat.beq n i with
 | true=>exact absurd (gJ hb) h
 | false=>rfl
theorem Nb(i k n:Nat):FI i k n=if n=i then k else if n=k then i else n:=by
 unfold FI
 by_cases h:n=i
 .subst h;simp
 .rw[if_neg h,Vy h]
  by_cases h2:n=k
  .subst h2;simp
  .rw[if_neg h2,Vy h2]
theorem yh(i k n:Nat):FI i k (FI i k n)=n:=by
 simp only[Nb];split<;>split<;>simp_all<;>omega
abbrev SC.sw(i k:Nat):SC->SC
 | .own a o=>.own (FI i k a) o
 | .row a=>.row (FI i k a)
 | .jA a j sz o=>.jA (FI i k a) j sz o
 | .sub a j=>.sub (FI i k a) j
 | .kV a j m sz o=>.kV (FI i k a) j m sz o
 | x=>x
abbrev SV.sw(i k:Nat):SV->SV
 | .c x=>.c (x.sw i k)
 | .agg xs=>.agg (dV (SC.sw i k) xs)
 | v=>v
abbrev bF.sw(i k:Nat):bF->bF
 | .one x=>.one (x.sw i k)
 | .iO xs=>.iO (dV (SV.sw i k) xs)
abbrev ak.sw(i k:Nat):ak->ak
 | .blk t cs=>.blk t (dV (SC.sw i k) cs)
 | r=>r
def uU(i k:Nat) (β β':List RV):Prop:=∀j,β'[FI i k j]?=β[j]?
theorem dN.sw{h:FH}{β β':List RV}{i k:Nat} (sb:uU i k β β'):∀{x:SC}{y:Value},dN h β x y->dN h β' (x.sw i k) y
 | .v _,_,e=>e
 | .sl _ _,_,e=>e
 | .fp _ _,_,e=>e
 | .one _ _,_,e=>e
 | .own a o,_,⟨b,e,e'⟩=>⟨b,by rw[sb];exact e,e'⟩
 | .row a,y,⟨v,e,e'⟩=>⟨v,by rw[sb];exact e,e'⟩
 | .sub _ _,_,⟨v,us,e,e'⟩=>⟨v,us,by rw[sb];exact e,e'⟩
 | .kV _ _ _ _ _,_,⟨v,us,g,e,e'⟩=>⟨v,us,g,by rw[sb];exact e,e'⟩
 | .jA _ _ _ _,_,⟨v,g,e,e'⟩=>⟨v,g,by rw[sb];exact e,e'⟩
 | .abs _,_,e=>e
 | .junk,_,_=>trivial
theorem uV{α β:Type}{R R':α->β->Prop}{f:α->α} (hR:∀a b,R a b->R' (f a) b):∀{l:List α}{m:List β},aO R l m->aO R' (dV f l) m
 | [],[],_=>trivial
 | _ :: _,_ :: _,⟨a,b⟩=>⟨hR _ _ a,uV hR b⟩
theorem cZ.sw{h:FH}{β β':List RV}{i k:Nat} (sb:uU i k β β'):∀{x:SV}{y:Value},cZ h β x y->cZ h β' (x.sw i k) y
 | .c _,_,⟨e,o⟩=>⟨e.sw sb,o⟩
 | .agg _,_,⟨ys,e,a⟩=>⟨ys,e,uV (λ_ _ ⟨p,q⟩=>⟨p.sw sb,q⟩) a⟩
 | .dat _ _,_,e=>e
 | .und,_,e=>e
theorem jw.sw{h:FH}{β β':List RV}{i k:Nat} (sb:uU i k β β'):∀{x:bF}{y:Value},jw h β x y->jw h β' (x.sw i k) y
 | .one _,_,e=>cZ.sw sb e
 | .iO _,_,⟨ys,e,a⟩=>⟨ys,e,uV (λ_ _ p=>cZ.sw sb p) a⟩
theorem Holds.sw{h:FH}{β β':List RV}{w:World}{i k:Nat} (sb:uU i k β β'):∀{r:ak}{v:RV},Holds h β w r v->Holds h β' w (r.sw i k) v
 | .blk _ _,.blk _,⟨ys,e,a⟩=>⟨ys,e,uV (λ_ _ ⟨p,q⟩=>⟨p.sw sb,q⟩) a⟩
 | .row _ _ _,.row _,e=>e
 | .obj _ _ _,.blk _,e=>e
 | .deep _ _ _ _ _ _ _ _,.deep _ _,e=>e
 | .mp _ _ _,.row _,e=>e
 | .LQ _ _ _ _,.deep _ _,e=>e
 | .it _ _ _ _,.blk _,e=>e
 | .Jj _ _ _ _,.row _,e=>e
 | .Fe _ _ _ _,.deep _ _,e=>e
 | .gone,_,_=>trivial
theorem ak.Hg{k:Nat} (r:ak):(r.sw i k).live=r.live:=by cases r<;>rfl
theorem OK.sw{B:Base}{h0:FH}{T T':List ak}{h:FH}{β β':List RV}{w:World}{i k:Nat} (ok:OK B h0 T h β w) (sb:uU i k β β') (hl:β'.length=T'.length)
 (sT:∀j,T'[FI i k j]?=(T[j]?).map (ak.sw i k)):OK B h0 T' h β' w:=by
 have gT:∀{j:Nat}{r:ak},T'[j]?=some r->∃r0,T[FI i k j]?=some r0/\r=r0.sw i k:=by
  intro j r e;have:=sT (FI i k j);rw[yh,e]at this;cases hT:T[FI i k j]? with
  | none=>rw[hT]at this;cases this
  | some r0=>rw[hT]at this;exact⟨r0,rfl,by simpa using this⟩
 have gB:∀{j:Nat}{v:RV},β'[j]?=some v->β[FI i k j]?=some v:=by
  intro j v e;have:=sb (FI i k j);rw[yh,e]at this;exact this.symm
 refine⟨ok.below,ok.dr,hl,λj r v e1 e2=>?_,λj r v b e1 l1 e2 e3=>?_,λj j' r r' u v b e1 l1 e2 l2 e3 e4 e5 e6=>?_,ok.hle,ok.hw,ok.hg,ok.kn⟩
 .obtain⟨r0,f1,rfl⟩:=gT e1;exact(ok.holds _ _ _ f1 (gB e2)).sw sb
 .obtain⟨r0,f1,rfl⟩:=gT e1;exact ok.own _ _ _ _ f1 (by rw[<-ak.Hg];exact l1) (gB e2) e3
 .obtain⟨r0,f1,rfl⟩:=gT e1;obtain⟨r1,f2,rfl⟩:=gT e2;have:=ok.inj _ _ _ _ _ _ _ f1 (by rw[<-ak.Hg];exact l1) f2 (by rw[<-ak.Hg];exact l2) (gB e3) (gB e4) e5 e6
  have h2:=oh (FI i k) this
  rwa [yh,yh]at h2
abbrev swE(i k:Nat):List (Nat×Gd×bF)->List (Nat×Gd×bF)
 | []=>[]
 | (t,g,e) :: l=>(t,g,e.sw i k) :: swE i k l
abbrev swT(i k:Nat) (T:List (Gd×ak)):List (Gd×ak):=match dU T i with
 | some a=>match dU T k with
   | some b=>dV (λp=>(p.1,p.2.sw i k)) (dh (dh T i b) k a)
   | none=>T
 | none=>T
abbrev swS(i k:Nat) (s:St):St:={ s with T:=swT i k s.T,env:=swE i k s.env }
theorem Hl{i k:Nat}:∀{l:List (Nat×Gd×bF)}{t:Nat},gX (swE i k l) t=(gX l t).map λp=>(p.1,p.2.sw i k)
 | [],_=>rfl
 | (u,g,e) :: l,t=>by
   rw[show swE i k ((u,g,e) :: l)=(u,g,e.sw i k) :: swE i k l from rfl,aU,aU]
   split
   .rfl
   .exact Hl
theorem CW{α β:Type} (f:α->β):∀l:List α,dV f l=l.map f
 | []=>rfl
 | _ :: l=>by simp[dV,CW f l]
theorem PE{k:Nat}{T:List (Gd×ak)} (hi:i < T.length) (hk:k < T.length) (j:Nat):(swT i k T)[FI i k j]?=(T[j]?).map λp=>(p.1,p.2.sw i k):=by
 unfold swT;rw[eU,lY hi];simp only;rw[eU,lY hk];simp only;rw[CW,Es,fM,fM]
 congr 1
 rw[Nb]
 by_cases h1:j=i
 .subst h1;rw[if_pos rfl,pG (by simpa using hk),lY hi]
 .rw[if_neg h1]
  by_cases h2:j=k
  .subst h2;rw[if_pos rfl,lW (by omega),pG hi,lY hk]
  .rw[if_neg h2,lW (by omega),lW (by omega)]
theorem abb{k:Nat}{T:List (Gd×ak)}:(swT i k T).length=T.length:=by
 unfold swT;split
 .split
  .rw[CW,fM,fM];simp
  .rfl
 .rfl
theorem Nc{k:Nat} (hi:i < β.length) (hk:k < β.length):∃β',β'.length=β.length/\uU i k β β':=by
 refine⟨(β.set i β[k]).set k β[i],by simp,λj=>?_⟩
 rw[Nb]
 by_cases h1:j=i
 .subst h1;rw[if_pos rfl,pG (by simpa using hk),lY hi]
 .rw[if_neg h1]
  by_cases h2:j=k
  .subst h2;rw[if_pos rfl,lW (by omega),pG hi,lY hk]
  .rw[if_neg h2,lW (by omega),lW (by omega)]
theorem Sat.sw{N:Nat}{B:Base}{h0:FH}{s:St}{h:FH}{β:List RV}{w:World}{a:Act} (aj:Sat N B h0 s h β w a){i k:Nat} (hi:i < s.T.length) (hk:k < s.T.length):
 ∃β',Sat N B h0 (swS i k s) h β' w a:=by
 have hlen:β.length=s.T.length:=by rw[aj.ok.len,iK]
 obtain⟨β',hl,sb⟩:=Nc (β:=β) (i:=i) (k:=k) (by omega) (by omega)
 refine⟨β',?_,?_,?_,aj.defers,aj.sz,?_,?_⟩
 .refine aj.ok.sw sb (by rw[hl,iK,abb,hlen]) λj=>?_
  rw[jc,jc,PE hi hk];cases s.T[j]? with
  | none=>rfl
  | some p=>
    simp only[Us];cases gv s.gl p.1<;>rfl
 .intro t G e ht;rw[show(swS i k s).env=swE i k s.env from rfl,Hl]at ht
  cases hl:gX s.env t with
  | none=>rw[hl]at ht;cases ht
  | some p=>
    rw[hl]at ht;cases ht;obtain⟨z,q1,q2,q3⟩:=aj.env t p.1 p.2 hl;exact⟨z,q1,λhh=>(q2 hh).sw sb,q3⟩
 .intro d j hd;obtain⟨G,b,q1,q2⟩:=aj.gs d j hd;exact⟨G,b,by rw[show(swS i k s).env=swE i k s.env from rfl,Hl,q1];rfl,q2⟩
 .intro t G e ht;rw[show(swS i k s).env=swE i k s.env from rfl,Hl]at ht
  cases hl:gX s.env t with
  | none=>rw[hl]at ht;cases ht
  | some p=>
    rw[hl]at ht;cases ht;exact aj.gb t p.1 p.2 hl
 .intro p hp;obtain⟨j,hj⟩:=LK hp;have h1:=PE hi hk (FI i k j);rw[yh]at h1;rw[show(swS i k s).T=swT i k s.T from rfl,h1]at hj
  cases hT:s.T[FI i k j]? with
  | none=>rw[hT]at hj;cases hj
  | some q=>
    rw[hT]at hj;cases hj;exact aj.gT q (iJ hT)
abbrev mJ:List (Nat×Nat)->St->St
 | [],s=>s
 | (i,k) :: l,s=>match dA (Nat.ble (i+1) (aN s.T)) (Nat.ble (k+1) (aN s.T)) with
   | true=>mJ l (swS i k s)
   | false=>s
theorem Sat.mJ{N:Nat}{B:Base}{h0 h:FH}{w:World}{a:Act}:∀(l:List (Nat×Nat)){s:St}{β:List RV},Sat N B h0 s h β w a->∃β',Sat N B h0 (mJ l s) h β' w a
 | [],s,β,aj=>⟨β,aj⟩
 | (i,k) :: l,s,β,aj=>by
   unfold Go.lH.mJ;split
   .rename_i hc;rw[ay,A8,aZ]at hc;have h1:=oZ hc.1;have h2:=oZ hc.2;obtain⟨β',aP⟩:=aj.sw (i:=i) (k:=k) (by omega) (by omega)
    exact Sat.mJ l aP
   .exact⟨β,aj⟩
inductive Loc where
 | slot (t:Nat)
 | cell (i c:Nat)
abbrev ae1:SC->Option Nat
 | .own i _=>some i
 | .row i=>some i
 | _=>none
abbrev alX(s:St):Loc->Option Nat
 | .slot t=>match gX s.env t with
   | some ([],.one (.c x))=>ae1 x
   | _=>none
 | .cell i c=>match dU s.T i with
   | some ([],.blk _ cs)=>match dU cs c with
     | some x=>ae1 x
     | none=>none
   | _=>none
abbrev rY:List (Nat×Loc)->St->St
 | [],s=>s
 | (k,loc) :: l,s=>match alX s loc with
   | none=>rY l s
   | some i=>match dA (Nat.ble (i+1) (aN s.T)) (Nat.ble (k+1) (aN s.T)) with
     | true=>rY l (swS i k s)
     | false=>s
theorem Sat.rY{N:Nat}{B:Base}{h0 h:FH}{w:World}{a:Act}:∀(l:List (Nat×Loc)){s:St}{β:List RV},Sat N B h0 s h β w a->∃β',Sat N B h0 (rY l s) h β' w a
 | [],s,β,aj=>⟨β,aj⟩
 | (k,loc) :: l,s,β,aj=>by
   unfold Go.lH.rY;split
   .exact Sat.rY l aj
   .rename_i i _;split
    .rename_i hc;rw[ay,A8,aZ]at hc;have h1:=oZ hc.1;have h2:=oZ hc.2;obtain⟨β',aP⟩:=aj.sw (i:=i) (k:=k) (by omega) (by omega)
     exact Sat.rY l aP
    .exact⟨β,aj⟩
structure IP where
 sh:Sh
 ps:List Sh
 pre:List sh.den->bK ps->Prop
 res:List sh.den->bK ps->List sh.den
 back:Bool
def SE(P:Program) (gd:Nat->Option (Sigma Sh.den)) (f:FuncId) (ip:IP):Prop:=
 ∀(t:TypeId) (l:List ip.sh.den) (d:bK ip.ps) (v:Value) (vs:List Value) (h:FH) (w:World),(∀b o u,h b o=some u->vis w b o=some u)->aI gd h ->
   Holds h [] w (.row t ip.sh l) (.row v)->(∀b,au v=some b->∀o,h b o=none)->aO (cZ h []) (dY ip.ps d) vs->ip.pre l d ->
   Calls P f (v :: vs).toArray w (λen w'=>∃v' y,en=.returned y/\Gb w w' (au v)/\(∀b,au v'=some b->au v=some b\/(w.heap.size<=b/\b < w'.heap.size)) /\
    Holds h [] w' (.row t ip.sh (ip.res l d)) (.row v')/\(ip.back=true->y=v')/\(ip.back=false->y=.tuple #[]/\v'=v))
abbrev ipK(cx:Cx) (ip:IP) (s:St) (d:Option Nat) (args:List Operand) (K:St->Prop):Prop:=match args with
 | []=>False
 | x :: r=>match bH cx s [] x with
   | some (.one (.c (.row i)))=>match dU s.T i with
     | some ([],.row t sh l)=>match jd (.sl sh) l (.sl ip.sh) with
       | none=>False
       | some l=>match tC cx s [] r with
         | none=>False
         | some vs=>match allL noRow vs with
           | false=>False
           | true=>match EM s [] vs with
             | none=>False
             | some bs=>match xX ip.ps bs with
               | none=>False
               | some dd=>ip.pre l dd/\(match ip.back with
                 | false=>K ({ s with T:=dh s.T i ([],.row t ip.sh (ip.res l dd)) }.put d [] (.iO []))
                 | true=>K ({ s with T:=dh (JA i s.T) i ([],.row t ip.sh (ip.res l dd)),env:=rU i s.env }.put d [] (.one (.c (.row i)))))
     | _=>False
   | _=>False
def Af(P:Program) (N:Nat) (B:Base) (h0 h:FH) (w:World) (a:Act) (o:Oper) (wanted:Bool) (K:St->Prop):Prop:=
 ∀(Nx:Act->World->Prop) (Q:Exit->Act->World->Prop),
   (∀s' h' β' w' v,K s'->h.le h'->Sat N B h0 s' h' β' w' (a.put o.dst v)->Nx (a.put o.dst v) w') ->
   if wanted=true then o.wp P a w Nx Q else Nx (a.put o.dst undef) w
theorem fO.weak{N:Nat}{b:Bool}{K:St->Prop} (k:fO P N B h0 h w a o b K):Af P N B h0 h w a o b K:=
 λNx Q next=>k Nx Q λs' h' β' w' v k' le _ aj=>next s' h' β' w' v k' le aj
section
variable {cx:Cx}{P:Program}{N:Nat}{B:Base}{h0:FH}{s:St}{h:FH}{β:List RV}{w:World}{a:Act}{o:Oper}{K:St->Prop}
theorem Vz(aj:Sat N B h0 s h β w a){x x':ak}{v:RV} (hT:dU s.T r=some ([],x)) (hl:x.live=true) (hu:β[r]?=some u)
 (hg:Gb w w' u.block) (hv:∀b,v.block=some b->u.block=some b\/(w.heap.size<=b/\b < w'.heap.size)) (hvs:∀b,¬v.sub b:=by exact λ_ h=>h) (hold:Holds h (β.set r v) w' x' v):
 Sat N B h0 { s with T:=dh (JA r s.T) r ([],x'),env:=rU r s.env } h (β.set r v) w' a:=by
 have tr:gv s.gl []=true:=rfl;have fG:=bg hT tr;have okj:=aj.ok.jk r;have hTj:((eff s.gl s.T).map (jkR r))[r]?=some (jkR r x):=by rw[Es,fG];rfl
 have ok:OK B h0 (eff s.gl (dh (JA r s.T) r ([],x'))) h (β.set r v) w':=by
  rw[fC,MW];refine okj.upd hTj (by rw[sZ];exact hl) hu hg (λk e=>.inl e) (λb hb=>hb.elim (λq=>(hv b q).imp .inl id) λq=>(hvs b q).elim) (.inr λj rj _ ej=>?_) hold
  rw[Es]at ej;cases hj:(eff s.gl s.T)[j]? with
  | none=>rw[hj]at ej;cases ej
  | some q=>rw[hj]at ej;cases ej;exact JB r q
 refine⟨ok,?_,?_,aj.defers,aj.sz,?_,?_⟩
 .intro t G e ht;obtain⟨e0,h1,rfl⟩:=CO r ht;obtain⟨z,q1,q2,q3⟩:=aj.env t G e0 h1;exact⟨z,q1,λhG=>(q2 hG).jk v,q3⟩
 .intro d i hi;obtain⟨G,b,q1,q2⟩:=aj.gs d i hi;exact⟨G,b,G8 r q1,q2⟩
 .intro t G e ht;obtain⟨e0,h1,rfl⟩:=CO r ht;exact aj.gb t G e0 h1
 .intro p hp;simp only at hp;rw[fM]at hp;rcases GH hp with hp | hp
  .have:∀{l:List (Gd×ak)},p∈JA r l->∃q∈l,q.1=p.1:=by
    intro l
    induction l with
    | nil=>intro hh;simp[JA]at hh
    | cons q l ih=>
      obtain⟨g,q⟩:=q;intro hh;simp only[JA,mF]at hh;rcases hh with rfl | hh
      .exact⟨(g,q),by simp,rfl⟩
      .obtain⟨q',h1,h2⟩:=ih hh;exact⟨q',by simp[h1],h2⟩
   obtain⟨q,h1,h2⟩:=this hp;rw[<-h2];exact aj.gT q h1
  .subst hp;rfl
theorem Holds.afT{s:Sh}{l:List s.den}{v:RV} (x:Holds h β w (.row t s l) v):Holds h β' w (.row t s l) v:=by
 cases v<;>exact x
theorem abd{ip:IP} (PG:SE P cx.gd f ip) (hf:∃fn,P.funcs[f]?=some fn/\fn.body.isSome=true/\(fn.name == "runtime.NumGoroutine")=false)
 (aj:Sat N B h0 s h β w a) (hg:aI cx.gd h) (hd:kU N o.dst=true) (ho:o.op=.call c) (bU:c.callee=.value (.func f))
 (k:ipK cx ip s o.dst (tl c.args) K):Af P N B h0 h w a o true K:=by
 have tr:gv s.gl []=true:=rfl;unfold ipK at k;split at k
 .cases k
 rename_i x r hargs0;split at k
 .rename_i i hx;split at k
  .rename_i t sh l0 hT;split at k
   .cases k
   rename_i l hl;split at k
   .cases k
   rename_i vs hvs;split at k
   .cases k
   rename_i hnr;split at k
   .cases k
   rename_i bs hbs;split at k
   .cases k
   rename_i dd hdd;obtain⟨aF,k⟩:=k;obtain⟨e1,e2⟩:=nK hl;subst e1;simp only at e2;subst e2;have cr:cZ h β (.c (.row i)) (a.eval x):=aK aj hg tr hx;have hu:β[i]?=some (.row (a.eval x)):=aj.ok.row_of (bg hT tr) cr.1;have hold:=aj.ok.holds i _ _ (bg hT tr) hu;have hav:=qj aj hg tr hvs;obtain⟨_,b2⟩:=yg aj tr hbs hav;intro Nx Q next
   rw[if_pos rfl];obtain⟨fn,hfn,hbody,hname⟩:=hf;have exec:(execOp a.eval o).run P w=.ok (.enter f (c.args.map a.eval)) w:=by
    simp only[execOp,ho,resolve,bU,Act.eval,Deferred.ofValue,invoke,Sem.run_bind,Sem.run_pure,Result.andThen_ok,callFunc,run_program,hfn,hname];simp[hbody];cases hb:fn.body with
    | none=>rw[hb]at hbody;cases hbody
    | some _=>simp
   have hargs:(c.args.map a.eval)=(a.eval x :: r.map a.eval).toArray:=by
    have:c.args=(x :: r).toArray:=by
     cases hc:c.args with
     | mk q=>rw[hc]at hargs0;simp only[tl]at hargs0;rw[hargs0]
    rw[this];simp
   unfold Oper.wp;rw[exec];simp only[Oper.upon];rw[hargs];refine(PG t l0 dd (a.eval x) _ h w aj.ok.hw hg hold.afT (λb hb=>(aj.ok.own i _ _ b (bg hT tr) rfl hu (aW.2 hb)).2.2) (xY hdd (b2 hnr)) aF).mono ?_
   rintro en w' ⟨v',y,rfl,hgr,hv,hold',hb1,hb2⟩;have hi:i < β.length:=(fH.1 hu).1;cases hb:ip.back with
   | false=>
     rw[hb]at k;obtain⟨rfl,rfl⟩:=hb2 hb;have fG:=bg hT tr;have ok:OK B h0 (eff s.gl (dh s.T i ([],.row t ip.sh (ip.res l0 dd)))) h β w':=by
      rw[wG];have:=aj.ok.upd (r':=.row t ip.sh (ip.res l0 dd)) (v:=.row (a.eval x)) fG rfl hu hgr (λk e=>aW.2 e) (λb hb=>.inl hb) (.inl rfl) hold'.afT
      rwa [fZ hu]at this
     exact next _ _ _ _ _ k (FH.le.refl h) ((aj.mem ok (FH.le.refl h) (Ext.refl β) (o7 aj)).put (dI hd) rfl (λ_=>⟨[],rfl,trivial⟩) λhh=>by cases hh)
   | true=>
     rw[hb]at k;obtain rfl:=hb1 hb;refine next _ _ _ _ _ k (FH.le.refl h) ((Vz aj hT rfl hu hgr hv (x':=.row t ip.sh (ip.res l0 dd)) (v:=.row y) (hold:=hold'.afT)).put (dI hd) rfl (λ_=>?_) λhh=>by cases hh)
     refine⟨?_,?_⟩
     .refine⟨.row y,?_,rfl⟩;rw[pG hi]
     .rcases hold' with⟨rfl,_⟩ | ⟨_,rfl,_⟩ | ⟨g,cap,cur,rfl,_⟩<;>exact⟨rfl,rfl⟩
  .cases k
 .cases k
end
def afU:Int->Bool
 | .ofNat 0=>true
 | _=>false
theorem abe{n:Int} (h:afU n=true):n=0:=by
 unfold afU at h;split at h
 .rfl
 .cases h
abbrev EN:Operand->Bool
 | .const v=>match v with
   | .int _ n=>afU n
   | _=>false
 | _=>false
theorem yj{x:Operand} (h:EN x=true):∃k,x=.const (.int k 0):=by
 unfold EN at h;split at h
 .split at h
  .rename_i k n;rw[abe h];exact⟨k,rfl⟩
  .cases h
 .cases h
abbrev afV:Option Operand->Bool
 | none=>true
 | some x=>EN x
abbrev ajU:Option Operand->Bool
 | none=>false
 | some x=>EN x
abbrev VA:SC->Bool
 | .sl _ _=>true
 | .v v=>match v with
   | .slice none 0 0=>true
   | _=>false
 | _=>false
abbrev afW(cx:Cx) (s:St) (d:Option Nat) (t:TypeId) (x:Operand) (lo hi:Option Operand) (K:St->Prop):Prop:=match descOf cx t with
 | .slice el=>match oJ cx.ti el with
   | none=>False
   | some ie=>match ie.ig with
     | none=>False
     | some sh=>match bH cx s [] x with
       | some (.one (.c y))=>match dA (VA y) (dA (afV lo) (ajU hi)) with
         | true=>K ({ s with T:=snoc s.T ([],.row el sh []) }.put d [] (.one (.c (.row (aN s.T)))))
         | false=>False
       | _=>False
 | _=>False
abbrev Nh(cx:Cx) (s:St) (d:Option Nat) (t:TypeId) (i:Nat) (lo hi:Option Operand) (K:St->Prop):Prop:=match descOf cx t with
 | .slice el=>match oJ cx.ti el with
   | none=>False
   | some _=>match afV lo with
     | false=>False
     | true=>match hi with
       | none=>False
       | some h=>match bH cx s [] h with
         | some (.one (.c (.v (.int _ n))))=>match dU s.T i with
           | some ([],.row el' sh l)=>(0<=n/\n<=l.length)/\K ({ s with T:=dh (JA i s.T) i ([],.row el' sh (l.take n.toNat)),env:=rU i s.env }.put d [] (.one (.c (.row i))))
           | _=>False
         | _=>False
 | _=>False
abbrev afX(cx:Cx) (s:St) (d:Option Nat) (t:TypeId) (lo hi:Option Operand) (K:St->Prop):Prop:=match descOf cx t with
 | .slice el=>match oJ cx.ti el with
   | none=>False
   | some _=>match EL cx s [] lo 0 with
     | none=>False
     | some a=>match EL cx s [] hi 0 with
       | none=>False
       | some b=>(0<=a/\a<=b/\b<=0)/\K (s.put d [] (.one (.c (.v (.slice none 0 0)))))
 | _=>False
def eY(a b:Int):Int:=if b > a then b else a
abbrev Nj(cx:Cx) (s:St) (d:Option Nat) (x y:Operand) (K:St->Prop):Prop:=match bH cx s [] x with
 | some (.one (.c (.v (.int .i64 a))))=>match bH cx s [] y with
   | some (.one (.c (.v (.int .i64 b))))=>K (s.put d [] (vI .i64 (eY a b)))
   | _=>False
 | _=>False
abbrev afY(cx:Cx) (s:St) (d:Option Nat) (t:TypeId) (x:Operand) (K:St->Prop):Prop:=match descOf cx t with
 | .slice _=>match bH cx s [] x with
   | some (.one (.c (.v (.slice none 0 0))))=>K (s.put d [] (vI .i64 0))
   | _=>False
 | _=>False
abbrev afZ(cx:Cx) (s:St) (d:Option Nat) (t:TypeId) (x:Operand) (lo hi:Option Operand) (m:Operand) (K:St->Prop):Prop:=match descOf cx t with
 | .slice el=>match oJ cx.ti el with
   | none=>False
   | some ie=>match afV lo with
     | false=>False
     | true=>match hi with
       | none=>False
       | some h=>match bH cx s [] h with
         | some (.one (.c (.v (.int _ n))))=>match bH cx s [] m with
           | some (.one (.c (.v (.int _ n'))))=>match bH cx s [] x with
             | some (.one (.c (.sl sh l)))=>match Nat.beq ie.size sh.size with
               | true=>(0<=n/\n<=l.length/\n=n')/\K (s.put d [] (.one (.c (.abs (.RJ sh (l.take n.toNat))))))
               | false=>False
             | _=>False
           | _=>False
         | _=>False
 | _=>False
abbrev Nk(s:St) (d:Option Nat) (eq:Bool) (x:SC) (K:St->Prop):Prop:=match x with
 | .v _=>K (s.put d [] (vB eq))
 | .sl _ l=>∀b:Bool,(b=true->l=[])->K (s.put d [] (vB (cnd eq b (!b))))
 | .row i=>match dU s.T i with
   | some ([],.row _ _ l)=>∀b:Bool,(b=true->l=[])->K (s.put d [] (vB (cnd eq b (!b))))
   | _=>False
 | _=>False
abbrev Ho:BinOp->Option Bool
 | .eql=>some true
 | .neq=>some false
 | _=>none
abbrev VB(cx:Cx) (t:TypeId):Bool:=match descOf cx t with
 | .slice _=>true
 | _=>false
abbrev Nl:SC->Bool
 | .sl _ _=>true
 | .row _=>true
 | .v v=>match v with
   | .slice none 0 0=>true
   | _=>false
 | _=>false
abbrev VE(cx:Cx) (s:St) (d:Option Nat) (t t':TypeId) (y:Operand) (K:St->Prop):Prop:=match descOf cx t' with
 | .int .i64=>match descOf cx t with
   | .slice el=>match oJ cx.ti el with
     | none=>False
     | some ie=>match ie.ig with
       | none=>False
       | some sh=>match dA (Nat.beq sh.size ie.size) (dA (Nat.ble 1 ie.bytes) (Nat.ble 1 ie.size)) with
         | true=>match bH cx s [] y with
           | some (.one (.c (.v (.int .i64 n))))=>(0<=n/\mY n.toNat ie.bytes)/\K ({ s with T:=snoc s.T ([],.row el sh (List.replicate n.toNat (pX sh))) }.put d [] (.one (.c (.row (aN s.T)))))
           | _=>False
         | false=>False
   | _=>False
 | _=>False
abbrev SG(i:Nat) (z x:SC):SC:=match x with
 | .row j=>match Nat.beq i j with
   | true=>z
   | false=>.row j
 | .jA j k sz off=>match Nat.beq i j with
   | true=>.junk
   | false=>.jA j k sz off
 | .own j off=>match Nat.beq i j with
   | true=>.junk
   | false=>.own j off
 | .sub j k=>match Nat.beq i j with
   | true=>.junk
   | false=>.sub j k
 | .kV j k m sz off=>match Nat.beq i j with
   | true=>.junk
   | false=>.kV j k m sz off
 | x=>x
abbrev abg(i:Nat) (z:SC):SV->SV
 | .c x=>.c (SG i z x)
 | .agg xs=>.agg (dV (SG i z) xs)
 | v=>v
abbrev abh(i:Nat) (z:SC):bF->bF
 | .one v=>.one (abg i z v)
 | .iO vs=>.iO (dV (abg i z) vs)
abbrev SH(i:Nat) (z:SC):ak->ak
 | .blk t cs=>.blk t (dV (SG i z) cs)
 | r=>r
abbrev nO(i:Nat) (z:SC):List (Nat×Gd×bF)->List (Nat×Gd×bF)
 | []=>[]
 | (k,g,e) :: r=>(k,g,abh i z e) :: nO i z r
abbrev qX(i:Nat) (z:SC):List (Gd×ak)->List (Gd×ak)
 | []=>[]
 | (g,r) :: t=>(g,SH i z r) :: qX i z t
abbrev JG(s:St) (i:Nat):St:=match dU s.T i with
 | some ([],.row _ sh l)=>{ s with T:=dh (qX i (.sl sh l) s.T) i ([],.gone),env:=nO i (.sl sh l) s.env }
 | some ([],.deep _ sh l _ _ _ _ [])=>{ s with T:=dh (qX i (.sl sh l) s.T) i ([],.gone),env:=nO i (.sl sh l) s.env }
 | some ([],.mp k sh l)=>{ s with T:=dh (qX i (.one (.mp k sh) l) s.T) i ([],.gone),env:=nO i (.one (.mp k sh) l) s.env }
 | _=>s
abbrev l9(s:St):List Nat->St
 | []=>s
 | i :: r=>l9 (JG s i) r
abbrev PI:List SC->List Nat->List Nat
 | [],r=>r
 | x :: xs,r=>match x with
   | .row i=>i :: PI xs r
   | _=>PI xs r
abbrev rowsOf(cx:Cx) (s:St):List (Nat×Operand)->List Nat
 | []=>[]
 | (_,x) :: r=>match bH cx s [] x with
   | some (.one (.c (.row i)))=>i :: rowsOf cx s r
   | some (.one (.agg xs))=>PI xs (rowsOf cx s r)
   | _=>rowsOf cx s r
abbrev Hq(cx:Cx) (s:St) (d:Option Nat) (t:TypeId) (x y:Operand) (K:St->Prop):Prop:=iq cx t λel ie sh=>
 match bH cx s [] x with
 | some (.one (.c (.abs (.RJ dW l1))))=>match jd (.sl dW) l1 (.sl sh) with
   | some l=>match bH cx s [] y with
     | some (.one v2)=>match MX s sh v2 with
       | some l2=>mY (l.length+l2.length) ie.bytes/\K ({ s with T:=snoc (qX (aN s.T) (.sl sh (l++l2)) s.T) ([],.gone),env:=nO (aN s.T) (.sl sh (l++l2)) s.env }.put d [] (.one (.c (.sl sh (l++l2)))))
       | none=>False
     | _=>False
   | none=>False
 | _=>False
abbrev Np:List Value->Bool
 | []=>false
 | v :: l=>match l with
   | []=>match v with
     | .slice none 0 0=>true
     | _=>false
   | _ :: _=>false
theorem SI{l:List Value} (h:Np l=true):l=[lZ]:=by
 unfold Np at h;split at h
 .cases h
 .split at h
  .split at h
   .rfl
   .cases h
  .cases h
abbrev af0:Nat->Bool:=λ_=>true
abbrev Nq(cx:Cx) (s:St) (d:Option Nat) (t:TypeId) (ln cp:Operand) (K:St->Prop):Option Prop:=match descOf cx t with
 | .slice el=>match oJ cx.ti el with
   | none=>none
   | some ie=>match ie.ig with
     | some (.sl e)=>match descOf cx el with
       | .slice tt=>match dA (Nat.beq 1 ie.size) (dA (Nat.ble 1 ie.bytes) (Np ie.zero)) with
         | true=>match bH cx s [] ln with
           | some (.one (.c (.v (.int _ n))))=>match bH cx s [] cp with
             | some (.one (.c (.v (.int _ c))))=>some ((0<=n/\n<=c/\mY c.toNat ie.bytes)/\K ({ s with T:=snoc s.T ([],.deep el (.sl e) (List.replicate n.toNat []) tt e 0 af0 []) }.put d [] (.one (.c (.row (aN s.T))))))
             | _=>none
           | _=>none
         | false=>none
       | _=>none
     | _=>none
 | _=>none
abbrev af2(cx:Cx) (s:St) (o:Oper) (K:St->Prop):Option Prop:=match o.guard with
 | some _=>none
 | none=>match o.op with
   | .slice t x lo hi mx=>match mx with
     | some m=>match EN m with
       | true=>some (afW cx s o.dst t x lo hi K)
       | false=>some (afZ cx s o.dst t x lo hi m K)
     | none=>match bH cx s [] x with
       | some (.one (.c (.row i)))=>some (Nh cx s o.dst t i lo hi K)
       | some (.one (.c (.v (.slice none 0 0))))=>some (afX cx s o.dst t lo hi K)
       | _=>none
   | .binOp op t x y t'=>match Ho op with
     | none=>none
     | some eq=>match bH cx s [] y with
       | some (.one (.c (.v (.slice none 0 0))))=>match bH cx s [] x with
         | some (.one (.c z))=>match dA (Nl z) (VB cx t) with
           | true=>some (Nk s o.dst eq z K)
           | false=>none
         | _=>none
       | _=>none
   | .call c=>match c.callee with
     | .builtin .append=>match tl c.args with
       | [x,y]=>match tl c.argTypes with
         | [t,t']=>match Nat.beq t t' with
           | true=>match bH cx s [] x with
             | some (.one (.c (.abs (.RJ _ _))))=>some (Hq cx s o.dst t x y K)
             | _=>none
           | false=>match bH cx s [] x with
             | some (.one (.c (.v (.slice none 0 0))))=>some (VE cx s o.dst t t' y K)
             | _=>none
         | _=>none
       | _=>none
     | .builtin .cap=>match tl c.args with
       | [x]=>match tl c.argTypes with
         | [t]=>some (afY cx s o.dst t x K)
         | _=>none
       | _=>none
     | .builtin .max=>match tl c.args with
       | [x,y]=>some (Nj cx s o.dst x y K)
       | _=>none
     | _=>none
   | .makeSlice t ln cp=>match cx.dm with
     | true=>Nq cx s o.dst t ln cp K
     | false=>none
   | .buildSlice t n ps=>match rowsOf cx s (tl ps) with
     | []=>none
     | i :: r=>some (lT cx (l9 s (i :: r)) [] o.dst t n (tl ps) K)
   | _=>none
section
variable {cx:Cx}{P:Program}{N:Nat}{B:Base}{h0:FH}{s:St}{h:FH}{β:List RV}{w:World}{a:Act}{o:Oper}{K:St->Prop}
theorem PK(le:h.le h') (hu:∃u,β[i]?=some u/\u.sl=some v) (sl:dN h' β z v){x:SC}{y:Value} (c:dN h β x y):dN h' β (SG i z x) y:=by
 unfold SG;split
 .rename_i j;split
  .rename_i hj;have:=gJ hj;subst this;obtain⟨u,e,es⟩:=c;obtain⟨u',e',es'⟩:=hu;rw[e']at e;cases e;rw[es']at es;cases es;exact sl
  .exact dN.mono (x:=.row j) le (Ext.refl β) c
 .split
  .trivial
  .exact c.mono le (Ext.refl β)
 .split
  .trivial
  .exact c.mono le (Ext.refl β)
 .split
  .trivial
  .exact c.mono le (Ext.refl β)
 .split
  .trivial
  .exact c.mono le (Ext.refl β)
 .exact c.mono le (Ext.refl β)
theorem Hr{h h':FH}{β:List RV}{i:Nat}{z:SC}{v:Value} (le:h.le h') (hu:∃u,β[i]?=some u/\u.sl=some v) (sl:dN h' β z v):∀{xs:List SC}{ys:List Value},
 aO (λx y=>dN h β x y/\dD y) xs ys->aO (λx y=>dN h' β x y/\dD y) (dV (SG i z) xs) ys
 | [],[],_=>trivial
 | _ :: _,_ :: _,⟨a,b⟩=>⟨⟨PK le hu sl a.1,a.2⟩,Hr le hu sl b⟩
theorem ae2(le:h.le h') (hu:∃u,β[i]?=some u/\u.sl=some v) (sl:dN h' β z v):∀{x:SV}{y:Value},cZ h β x y->cZ h' β (abg i z x) y
 | .c _,_,c=>⟨PK le hu sl c.1,c.2⟩
 | .agg _,_,⟨ys,e,a⟩=>⟨ys,e,Hr le hu sl a⟩
 | .dat s _,_,⟨g,cs,e,r⟩=>⟨g,cs,e,r.mono le s⟩
 | .und,_,c=>c
theorem ajV(le:h.le h') (hu:∃u,β[i]?=some u/\u.sl=some v) (sl:dN h' β z v):∀{x:bF}{y:Value},jw h β x y->jw h' β (abh i z x) y
 | .one _,_,c=>ae2 le hu sl c
 | .iO _,_,⟨ys,e,a⟩=>⟨ys,e,go a⟩
where
 go:∀{xs:List SV}{ys:List Value},aO (cZ h β) xs ys->aO (cZ h' β) (dV (abg i z) xs) ys
  | [],[],_=>trivial
  | _ :: _,_ :: _,⟨a,b⟩=>⟨ae2 le hu sl a,go b⟩
theorem SK(le:h.le h') (hu:∃u,β[i]?=some u/\u.sl=some v) (sl:dN h' β z v):∀{r:ak}{u:RV},Holds h β w r u->Holds h' β w (SH i z r) u
 | .blk _ _,.blk _,⟨ys,e,a⟩=>⟨ys,e,Hr le hu sl a⟩
 | .row _ s _,.row _,x=>lq.move le x λ_ _=>rfl
 | .deep _ _ _ _ _ _ _ _,.deep _ _,x=>dQ.move le x λ_ _=>rfl
 | .mp k s l,.row v,x=>Holds.move (r:=.mp k s l) (v:=.row v) le (Ext.refl β) x λ_ _ _=>rfl
 | .LQ k s l n,.deep v us,x=>Holds.move (r:=.LQ k s l n) (v:=.deep v us) le (Ext.refl β) x λ_ _ _=>rfl
 | .Jj _ _ _ _,.row _,x=>x
 | .Fe _ _ _ _,.deep _ _,x=>BL.move le x λ_ _=>rfl
 | .it k s l dn,.blk v,x=>Holds.move (r:=.it k s l dn) (v:=.blk v) le (Ext.refl β) x λ_ _ _=>rfl
 | .obj _ s _,.blk _,⟨ys,e,r⟩=>⟨ys,e,r.mono le s⟩
 | .gone,_,_=>trivial
theorem zx(i:Nat) (z:SC) (r:ak):(SH i z r).live=r.live:=by cases r<;>rfl
theorem Ht{i:Nat}{z:SC}:∀{env:List (Nat×Gd×bF)}{t:Nat}{G:Gd}{e:bF},gX (nO i z env) t=some (G,e)->∃e0,gX env t=some (G,e0)/\e=abh i z e0
 | [],_,_,_,h=>by simp[nO,gX]at h
 | (k,g,e0) :: r,t,G,e,h=>by
   simp only[nO]at h;rw[aU]at h ⊢
   split at h
   .rename_i hk;cases h;exact⟨e0,by rw[if_pos hk],rfl⟩
   .rename_i hk;rw[if_neg hk];exact Ht h
theorem JH{i:Nat}{z:SC}:∀{env:List (Nat×Gd×bF)}{t:Nat}{G:Gd}{e:bF},gX env t=some (G,e)->gX (nO i z env) t=some (G,abh i z e)
 | [],_,_,_,h=>by simp[gX]at h
 | (k,g,e0) :: r,t,G,e,h=>by
   simp only[nO];rw[aU]at h ⊢
   split at h
   .rename_i hk;cases h;rw[if_pos hk]
   .rename_i hk;rw[if_neg hk];exact JH h
theorem PL(gl:List Bool) (i:Nat) (z:SC):∀{T:List (Gd×ak)},eff gl (qX i z T)=(eff gl T).map (SH i z)
 | []=>rfl
 | (g,r) :: t=>by
   simp only[qX,eff,Uu,PL gl i z (T:=t)]
   congr 1
   cases gv gl g<;>rfl
theorem PN{i:Nat}{z:SC}{p:Gd×ak}:∀{T:List (Gd×ak)},p∈qX i z T->∃q∈T,q.1=p.1
 | [],h=>by simp[qX]at h
 | (g,r) :: t,h=>by
   simp only[qX,mF]at h;rcases h with rfl | h
   .exact⟨(g,r),by simp,rfl⟩
   .obtain⟨q,h1,h2⟩:=PN h;exact⟨q,by simp[h1],h2⟩
theorem Sat.Hu(aj:Sat N B h0 s h β w a){r:ak} (fG:(eff s.gl s.T)[i]?=some r) (hu:β[i]?=some u) (hus:u.sl=some v) (le:h.le h') (ok':OK B h0 ((eff s.gl s.T).set i .gone) h' β w) (sl:dN h' β z v):
 Sat N B h0 { s with T:=dh (qX i z s.T) i ([],.gone),env:=nO i z s.env } h' β w a:=by
 have hu:∃u,β[i]?=some u/\u.sl=some v:=⟨u,hu,hus⟩;refine⟨?_,?_,?_,aj.defers,aj.sz,?_,?_⟩
 .show OK B h0 (eff s.gl (dh (qX i z s.T) i ([],.gone))) h' β w;rw[fC,PL];have key:∀{j:Nat}{r:ak},(((eff s.gl s.T).map (SH i z)).set i .gone)[j]?=some r->∃r0,((eff s.gl s.T).set i .gone)[j]?=some r0/\r=SH i z r0:=by
   intro j r e
   by_cases hj:j=i
   .subst hj;have iV:j < (eff s.gl s.T).length:=(fH.1 fG).1;rw[pG (by simpa using iV)]at e
    cases e;exact⟨.gone,by rw[pG iV],rfl⟩
   .rw[lW (Ne.symm hj),Es]at e;cases hj':(eff s.gl s.T)[j]? with
    | none=>rw[hj']at e;cases e
    | some r0=>rw[hj']at e;cases e;exact⟨r0,by rw[lW (Ne.symm hj)];exact hj',rfl⟩
  exact {
   below:=ok'.below
   dr:=ok'.dr
   len:=by have:=ok'.len;simpa using this
   holds:=λj r v' e e'=>by
    obtain⟨r0,e0,rfl⟩:=key e
    by_cases hj:j=i
    .subst hj;have iV:j < (eff s.gl s.T).length:=(fH.1 fG).1;rw[pG iV]at e0;cases e0;cases v'<;>trivial
    .rw[lW (Ne.symm hj)]at e0;exact SK le hu sl (aj.ok.holds j r0 v' e0 e')
   own:=λj r v' b e hl e' hb=>by
    obtain⟨r0,e0,rfl⟩:=key e;exact ok'.own j r0 v' b e0 (by rw[<-zx i z];exact hl) e' hb
   inj:=λj k r1 r2 u v' b e1 l1 e2 l2 e3 e4 b1 b2=>by
    obtain⟨r0,f1,rfl⟩:=key e1;obtain⟨r0',f2,rfl⟩:=key e2;exact ok'.inj j k r0 r0' u v' b f1 (by rw[<-zx i z];exact l1) f2 (by rw[<-zx i z];exact l2) e3 e4 b1 b2
   hle:=ok'.hle
   hw:=ok'.hw
   hg:=ok'.hg
   kn:=ok'.kn }
 .intro t' G e ht;obtain⟨e0,h1,rfl⟩:=Ht ht;obtain⟨z,q1,q2,q3⟩:=aj.env t' G e0 h1;exact⟨z,q1,λhG=>ajV le hu sl (q2 hG),q3⟩
 .intro d j hj;obtain⟨G,b,q1,q2⟩:=aj.gs d j hj;exact⟨G,b,JH q1,q2⟩
 .intro t' G e ht;obtain⟨e0,h1,rfl⟩:=Ht ht;exact aj.gb t' G e0 h1
 .intro p hp;simp only at hp;rw[fM]at hp;rcases GH hp with hp | hp
  .obtain⟨q,h1,h2⟩:=PN hp;rw[<-h2];exact aj.gT q h1
  .subst hp;rfl
theorem PO{k:IntKind}{sh:Sh}{l:List (Int×sh.den)} (x:Holds h β w (.mp k sh l) (.row v)) (le:h.le h') (hb:∀b,(RV.row v).has b->∀o z,vis w b o=some z->h' b o=some z):Rd h' (.mp k sh) [v] l:=by
 obtain⟨b,es,c,e,e1,m⟩:=x;exact⟨v,rfl,.inr ⟨b,es,c,e,hb b (aW.2 (by rw[e];rfl)) _ _ (O1 e1),m.mono λ_ _=>DW.mono le⟩⟩
theorem Sat.af4(aj:Sat N B h0 s h β w a) (i:Nat):∃h',h.le h'/\Sat N B h0 (JG s i) h' β w a:=by
 unfold JG;split
 .rename_i t sh l hT;have fG:(eff s.gl s.T)[i]?=some (.row t sh l):=by rw[jc,<-eU,hT];rfl
  have iV:i < β.length:=by rw[aj.ok.len];exact(fH.1 fG).1
  have hu:=lY iV;have hold:=aj.ok.holds i _ _ fG hu;cases hb:β[i]with
  | blk b=>rw[hb]at hold;cases hold
  | no=>rw[hb]at hold;cases hold
  | deep _ _=>rw[hb]at hold;cases hold
  | row v=>
    rw[hb]at hold hu;obtain⟨h',le,ok',sl⟩:=aj.ok.freeze fG hu;exact⟨h',le,aj.Hu (z:=.sl sh l) fG hu rfl le ok' sl⟩
 .rename_i t sh l t2 e so own hT;have fG:(eff s.gl s.T)[i]?=some (.deep t sh l t2 e so own []):=by rw[jc,<-eU,hT];rfl
  have iV:i < β.length:=by rw[aj.ok.len];exact(fH.1 fG).1
  have hu:=lY iV;have hold:=aj.ok.holds i _ _ fG hu;cases hb:β[i]with
  | blk b=>rw[hb]at hold;cases hold
  | no=>rw[hb]at hold;cases hold
  | row _=>rw[hb]at hold;cases hold
  | deep v us=>
    rw[hb]at hold hu;obtain⟨le,ok',vis⟩:=aj.ok.uJ fG rfl hu;exact⟨_,le,aj.Hu (z:=.sl sh l) fG hu rfl le ok' (dQ.data hold le λb hb o z hz=>vis b hb o z hz)⟩
 .rename_i k sh l hT;have fG:(eff s.gl s.T)[i]?=some (.mp k sh l):=by rw[jc,<-eU,hT];rfl
  have iV:i < β.length:=by rw[aj.ok.len];exact(fH.1 fG).1
  have hu:=lY iV;have hold:=aj.ok.holds i _ _ fG hu;cases hb:β[i]with
  | blk b=>rw[hb]at hold;cases hold
  | no=>rw[hb]at hold;cases hold
  | deep _ _=>rw[hb]at hold;cases hold
  | row v=>
    rw[hb]at hold hu;obtain⟨le,ok',vs⟩:=aj.ok.uJ fG rfl hu;exact⟨_,le,aj.Hu (z:=.one (.mp k sh) l) fG hu rfl le ok' (PO hold le λb hb o z hz=>vs b hb o z hz)⟩
 .exact⟨h,FH.le.refl h,aj⟩
theorem Sat.Ey:∀{l:List Nat}{s:St}{h:FH},Sat N B h0 s h β w a->∃h',h.le h'/\Sat N B h0 (l9 s l) h' β w a
 | [],s,h,aj=>⟨h,FH.le.refl h,aj⟩
 | i :: r,s,h,aj=>by
   obtain⟨h1,le1,iQ⟩:=aj.af4 i;obtain⟨h2,gK,bC⟩:=Sat.Ey (l:=r) iQ;exact⟨h2,le1.trans gK,bC⟩
theorem Af.le{h h':FH}{b:Bool} (le:h.le h') (k:Af P N B h0 h' w a o b K):Af P N B h0 h w a o b K:=λNx Q next=>k Nx Q λs' h2 β' w' v k' le' aj=>next s' h2 β' w' v k' (le.trans le') aj
theorem VF{y:SC} (hy:VA y=true) (c:dN h β y v):∃ad len cap,v=.slice ad len cap/\len<=cap/\(ad=none->len=0/\cap=0):=by
 unfold VA at hy;split at hy
 .rcases c with⟨rfl,_⟩ | ⟨ad,cap,rfl,_⟩ | ⟨b,off,cap,rfl,h1,_⟩
  .exact⟨none,0,0,rfl,oq _,λ_=>⟨rfl,rfl⟩⟩
  .exact⟨some ad,0,cap,rfl,Ja _,λh=>by cases h⟩
  .exact⟨_,_,cap,rfl,h1,λh=>by cases h⟩
 .split at hy
  .obtain⟨rfl,_⟩:=c;exact⟨none,0,0,rfl,oq _,λ_=>⟨rfl,rfl⟩⟩
  .cases hy
 .cases hy
theorem VG(hc:bJ P cx.ti) (aj:Sat N B h0 s h β w a) (hg:aI cx.gd h) (hd:kU N o.dst=true){x m:Operand} (ho:o.op=.slice t x lo hi (some m)) (hm:EN m=true)
 (k:afW cx s o.dst t x lo hi K):Af P N B h0 h w a o true K:=by
 have tr:gv s.gl []=true:=rfl;unfold afW at k;split at k
 .rename_i el hde;have hu:=bD hc hde (by simp)
  split at k
  .cases k
  rename_i ie hie;have tie:=hc.get hie;split at k
  .cases k
  rename_i sh hsh;split at k
  .rename_i y hy;split at k
   .rename_i hz;rw[ay,ay,A8,A8]at hz;obtain⟨hz1,hz2,hz3⟩:=hz;have cy:=(aK aj hg tr hy:cZ h β (.c y) (a.eval x));obtain⟨ad,len,cap,ev,hle,hnil⟩:=VF hz1 cy.1;obtain⟨km,rfl⟩:=yj hm;obtain⟨hx,rfl⟩:∃x,hi=some x:=by cases hi with | none=>simp[ajU]at hz3 | some x=>exact⟨x,rfl⟩
    obtain⟨kh,rfl⟩:=yj (show EN hx=true from hz3)
    have run:(Instr.sliceAt t (a.eval x) (lo.map a.eval) ((some (Operand.const (.int kh 0))).map a.eval) ((some (Operand.const (.int km 0))).map a.eval)).run P w=.ok (.slice ad 0 0) w:=by
     rw[ev];have e1:(Instr.sliceBounds true len cap (lo.map a.eval) (some (.int kh 0)) (some (.int km 0))).run P w=.ok (0,0,0) w:=by
      cases lo with
      | none=>simp[Instr.sliceBounds,Instr.sliceBound,asIntOf]
      | some z=>
        obtain⟨kz,rfl⟩:=yj (show EN z=true from hz2)
        simp[Instr.sliceBounds,Instr.sliceBound,asIntOf,Act.eval]
     simp only[Instr.sliceAt,Instr.slice,Sem.run_bind,run_underlying hu,Result.andThen_ok,Us,Act.eval,e1,run_sizeOf tie,Sem.run_pure];simp
    have nw:=kG (P:=P) aj (o:=o) (G:=[]) rfl hd (r:=.row el sh []) (e:=.one (.c (.row (aN s.T)))) (K:=K) k λ_=>
     ⟨.slice ad 0 0,w,.row (.slice ad 0 0),by simp only[execOp,ho,Sem.run_bind];rw[run];rfl,bW _ _,λb hb=>by rw[aW]at hb;cases ad<;>simp[au]at hb,by
      cases ad with
      | none=>exact .inl ⟨rfl,rfl⟩
      | some ad=>exact .inr (.inl ⟨ad,rfl,rfl⟩),by
      refine⟨⟨_,jJ (kH aj) _,rfl⟩,rfl,rfl⟩⟩
    exact nw.weak
   .cases k
  .cases k
 .cases k
theorem nP(aj:Sat N B h0 s h β w a) (hd:kU N o.dst=true){e:bF} (run:(execOp a.eval o).run P w=.ok (.value v) w) (c:jw h β e v) (k:K (s.put o.dst [] e)):Af P N B h0 h w a o true K:=by
 intro Nx Q next
 rw[if_pos rfl];exact jI run (next _ _ _ _ _ k (FH.le.refl h) (aj.put (dI hd) rfl (λ_=>c) λhh=>by cases hh))
theorem Nr(hc:bJ P cx.ti) (aj:Sat N B h0 s h β w a) (hg:aI cx.gd h) (hd:kU N o.dst=true){x:Operand} (ho:o.op=.slice t x lo hi none)
 (hx:bH cx s [] x=some (.one (.c (.row i)))) (k:Nh cx s o.dst t i lo hi K):Af P N B h0 h w a o true K:=by
 have tr:gv s.gl []=true:=rfl;unfold Nh at k;split at k
 .rename_i el hde;have hu:=bD hc hde (by simp)
  split at k
  .cases k
  rename_i ie hie;have tie:=hc.get hie;split at k
  .cases k
  rename_i hlo;split at k
  .cases k
  rename_i hh;split at k
  .rename_i ik n hn;split at k
   .rename_i el' sh l hT;obtain⟨hb,k⟩:=k;have ch:=(aK aj hg tr hn:cZ h β (.c (.v (.int ik n))) (a.eval hh));have eh:a.eval hh=.int ik n:=ch.1.1;have cr:=(aK aj hg tr hx:cZ h β (.c (.row i)) (a.eval x));have hβ:β[i]?=some (.row (a.eval x)):=aj.ok.row_of (bg hT tr) cr.1;have hold:=aj.ok.holds i _ _ (bg hT tr) hβ;have hi':i < β.length:=(fH.1 hβ).1;have af5:(lo.map a.eval=none/\(0:Int)=0)\/∃k,lo.map a.eval=some (.int k 0):=by
     cases lo with
     | none=>exact .inl ⟨rfl,rfl⟩
     | some z=>
       obtain⟨kz,rfl⟩:=yj (show EN z=true from hlo)
       exact .inr ⟨kz,rfl⟩
    have run:∀(ad:Option Addr) (cap:Nat),a.eval x=.slice ad l.length cap->l.length<=cap->(execOp a.eval o).run P w=.ok (.value (.slice ad n.toNat cap)) w:=by
     intro ad cap ev hle;have:=nI (P:=P) (w:=w) (isS:=true) (len:=l.length) (cap:=cap) (lo:=lo.map a.eval) (hi:=some (.int ik n)) (a:=0) (b:=n) af5 (.inr ⟨ik,rfl⟩) (by omega) hle
     have r2:(Instr.sliceAt t (a.eval x) (lo.map a.eval) ((some hh).map a.eval) none).run P w=.ok (.slice ad n.toNat cap) w:=by
      rw[ev];simp only[Instr.sliceAt,Instr.slice,Sem.run_bind,run_underlying hu,Result.andThen_ok,Us,eh,this,run_sizeOf tie,Sem.run_pure];cases ad<;>simp[Addr.add]
     simp only[execOp,ho,Sem.run_bind,aaQ];rw[r2];rfl
    have fin:∀(v':Value),(execOp a.eval o).run P w=.ok (.value v') w->(∀b,au v'=some b->au (a.eval x)=some b)->Holds h (β.set i (.row v')) w (.row el' sh (l.take n.toNat)) (.row v')->dD v'->Af P N B h0 h w a o true K:=by
     intro v' r hv hold' h1;intro Nx Q next
     rw[if_pos rfl];refine jI r (next _ _ _ _ _ k (FH.le.refl h) ((Vz aj hT rfl hβ (bW _ _) (v:=.row v') (λb hb=>.inl (hv b hb)) (hold:=hold')).put (dI hd) rfl (λ_=>⟨?_,h1⟩) λhh=>by cases hh))
     refine⟨.row v',?_,rfl⟩;rw[pG hi']
    rcases hold with⟨ev,hl⟩ | ⟨ra,ev,hl⟩ | ⟨g,cap,cur,ev,q1,q2,q3,q4,q5⟩
    .have hn0:n.toNat=0:=by rw[hl]at hb;simp at hb;omega
     refine fin _ (run none 0 (by rw[ev,hl];rfl) (by rw[hl];exact oq _)) (λb hb=>by simp[au]at hb) (.inl ⟨by rw[hn0],by rw[hl];simp⟩) ⟨rfl,rfl⟩
    .have hn0:n.toNat=0:=by rw[hl]at hb;simp at hb;omega
     refine fin _ (run (some ra) 0 (by rw[ev,hl];rfl) (by rw[hl];exact oq _)) (λb hb=>by simp[au]at hb) (.inr (.inl ⟨ra,by rw[hn0],by rw[hl];simp⟩)) ⟨rfl,rfl⟩
    .have hlen:(l.take n.toNat).length=n.toNat:=by rw[jY];omega
     refine fin _ (run (some ⟨g,0,none⟩) cap ev q2) (λb hb=>by rw[ev,aS q3.1];rw[aS q3.1]at hb;exact hb) (.inr (.inr ⟨g,cap,cur,by rw[hlen],q1,by rw[hlen];omega,q3,q4,?_⟩)) ⟨rfl,rfl⟩
     have:=fK.sN (λ_ _=>Rd.size sh) q5 (a:=0) (b:=n.toNat) (Ja _) (by omega)
     simp only[MB,OY]at this;rw[hlen];rw[List.take_take,A98 (xg _ (by omega))]at this
     exact this
   .cases k
  .cases k
 .cases k
theorem VH(hc:bJ P cx.ti) (aj:Sat N B h0 s h β w a) (hg:aI cx.gd h) (hd:kU N o.dst=true){x:Operand} (ho:o.op=.slice t x lo hi none)
 (hx:bH cx s [] x=some (.one (.c (.v (.slice none 0 0))))) (k:afX cx s o.dst t lo hi K):Af P N B h0 h w a o true K:=by
 have tr:gv s.gl []=true:=rfl;unfold afX at k;split at k
 .rename_i el hde;have hu:=bD hc hde (by simp)
  split at k
  .cases k
  rename_i ie hie;have tie:=hc.get hie;split at k
  .cases k
  rename_i p hp;split at k
  .cases k
  rename_i q hq;obtain⟨hb,k⟩:=k;have Fz:=(aK aj hg tr hx:cZ h β (.c (.v (.slice none 0 0))) (a.eval x));have ev:a.eval x=.slice none 0 0:=Fz.1.1;have bnd:∀{o:Option Operand}{n:Int},EL cx s [] o 0=some n->(o.map a.eval=none/\n=0)\/∃k,o.map a.eval=some (.int k n):=by
   intro o n e;rcases Pj aj hg tr e with⟨rfl,rfl⟩ | ⟨x,ik,rfl,e'⟩
   .exact .inl ⟨rfl,rfl⟩
   .exact .inr ⟨ik,by simp[e']⟩
  have:=nI (P:=P) (w:=w) (isS:=true) (len:=0) (cap:=0) (bnd hp) (bnd hq) (by simpa using hb) (oq _)
  refine nP aj hd (v:=.slice none 0 0) (e:=.one (.c (.v (.slice none 0 0)))) ?_ ⟨⟨rfl,rfl,rfl⟩,rfl,rfl⟩ k;have h1:p.toNat=0:=by omega
  have h2:q.toNat=0:=by omega
  have r2:(Instr.sliceAt t (a.eval x) (lo.map a.eval) (hi.map a.eval) none).run P w=.ok (.slice none 0 0) w:=by
   rw[ev];simp only[Instr.sliceAt,Instr.slice,Sem.run_bind,run_underlying hu,Result.andThen_ok,this,run_sizeOf tie,Sem.run_pure,h1,h2];simp
  simp only[execOp,ho,Sem.run_bind,aaQ];rw[r2];rfl
 .cases k
theorem VI(hc:bJ P cx.ti) (aj:Sat N B h0 s h β w a) (hg:aI cx.gd h) (hd:kU N o.dst=true){x:Operand} (ho:o.op=.call c) (bU:c.callee=.builtin .cap) (ha:c.args=#[x]) (ht:c.argTypes=#[t])
 (k:afY cx s o.dst t x K):Af P N B h0 h w a o true K:=by
 have tr:gv s.gl []=true:=rfl;unfold afY at k;split at k
 .rename_i el hde;have hu:=bD hc hde (by simp)
  split at k
  .rename_i hx;have Fz:=(aK aj hg tr hx:cZ h β (.c (.v (.slice none 0 0))) (a.eval x));have ev:a.eval x=.slice none 0 0:=Fz.1.1;refine nP aj hd (v:=goInt 0) (e:=vI .i64 0) ?_ ⟨⟨rfl,bG _ _⟩,bG _ _⟩ k;simp[execOp,ho,resolve,bU,ha,ht,invoke,builtin,ev,Builtin.cap_,run_underlying hu]
  .cases k
 .cases k
theorem VJ(aj:Sat N B h0 s h β w a) (hg:aI cx.gd h) (hd:kU N o.dst=true){x:Operand} (ho:o.op=.call c) (bU:c.callee=.builtin .max) (ha:c.args=#[x,y])
 (k:Nj cx s o.dst x y K):Af P N B h0 h w a o true K:=by
 have tr:gv s.gl []=true:=rfl;unfold Nj at k;split at k
 .rename_i n hx;have ex:a.eval x=.int .i64 n:=(aK aj hg tr hx:cZ h β (.c (.v (.int .i64 n))) (a.eval x)).1.1;split at k
  .rename_i m hy;have ey:a.eval y=.int .i64 m:=(aK aj hg tr hy:cZ h β (.c (.v (.int .i64 m))) (a.eval y)).1.1;refine nP aj hd (v:=.int .i64 (eY n m)) (e:=vI .i64 (eY n m)) ?_ ⟨⟨rfl,bG _ _⟩,bG _ _⟩ k;simp[execOp,ho,resolve,bU,ha,invoke,builtin,ex,ey,Builtin.max_,Builtin.max2,eY]
  .cases k
 .cases k
theorem SL(hu:P.underlying t=some (.slice el)) (ad:Option Addr) (n c:Nat) (op:BinOp) (eq:Bool) (he:Ho op=some eq) (x y:Operand):
 (eqGuard op t x y (.slice ad n c) (.slice none 0 0)).run P w=.ok () w/\(binOp op t (.slice ad n c) (.slice none 0 0)).run P w=.ok (.bool (cnd eq ad.isNone (!ad.isNone))) w:=by
 refine⟨qV P op t x y (by rfl) w,?_⟩
 have key:∀d,(Op.equalIn (d+1) t (.slice ad n c) (.slice none 0 0)).run P w=.ok ad.isNone w:=by
  intro d;cases ad<;>simp[Op.equalIn,run_underlying hu]
 have k2:=key 9999;have hq2:Op.equal t (.slice ad n c) (.slice none 0 0)=Op.equalIn (9999+1) t (.slice ad n c) (.slice none 0 0):=rfl;unfold Ho at he;split at he
 .cases he;have e:(binOp .eql t (.slice ad n c) (.slice none 0 0)).run P w=((Op.equal t (.slice ad n c) (.slice none 0 0)).run P w).andThen λb w=>.ok (.bool b) w:=by
   simp only[binOp];generalize Op.equal t (.slice ad n c) (.slice none 0 0)=q;simp
  rw[e,hq2,k2];rfl
 .cases he;have e:(binOp .neq t (.slice ad n c) (.slice none 0 0)).run P w=((Op.equal t (.slice ad n c) (.slice none 0 0)).run P w).andThen λb w=>.ok (.bool (!b)) w:=by
   simp only[binOp];generalize Op.equal t (.slice ad n c) (.slice none 0 0)=q;simp
  rw[e,hq2,k2];rfl
 .cases he
theorem Ns(hc:bJ P cx.ti) (aj:Sat N B h0 s h β w a) (hg:aI cx.gd h) (hd:kU N o.dst=true){t':TypeId}{x:Operand}{op:BinOp}{eq:Bool} (ho:o.op=.binOp op t x y t') (he:Ho op=some eq)
 (hy:bH cx s [] y=some (.one (.c (.v (.slice none 0 0))))) (hx:bH cx s [] x=some (.one (.c z))) (hz:Nl z=true) (ht:VB cx t=true) (k:Nk s o.dst eq z K):Af P N B h0 h w a o true K:=by
 have tr:gv s.gl []=true:=rfl;obtain⟨el,hu⟩:∃el,P.underlying t=some (.slice el):=by
  unfold VB at ht;split at ht
  .rename_i el hde;exact⟨el,bD hc hde (by simp)⟩
  .cases ht
 have cy:=(aK aj hg tr hy:cZ h β (.c (.v (.slice none 0 0))) (a.eval y));have ey:a.eval y=.slice none 0 0:=cy.1.1;have cz:=(aK aj hg tr hx:cZ h β (.c z) (a.eval x));have exec:∀ad n c,a.eval x=.slice ad n c->(execOp a.eval o).run P w=.ok (.value (.bool (cnd eq ad.isNone (!ad.isNone)))) w:=by
  intro ad n c e;obtain⟨g1,g2⟩:=SL (P:=P) (w:=w) hu ad n c op eq he x y;simp only[execOp,ho,Sem.run_bind,e,ey,g1,g2,Result.andThen_ok,Sem.run_pure]
 have fin:∀ad n c (b:Bool),a.eval x=.slice ad n c->K (s.put o.dst [] (vB (cnd eq ad.isNone (!ad.isNone))))->Af P N B h0 h w a o true K:=λad n c b e k=>
  nP aj hd (e:=vB (cnd eq ad.isNone (!ad.isNone))) (exec ad n c e) ⟨⟨rfl,cO _⟩,cO _⟩ k
 unfold Nk at k;split at k
 .rename_i v;unfold Nl at hz;have ev:a.eval x=.slice none 0 0:=by
   simp only at hz;split at hz
   .exact cz.1.1
   .cases hz
  refine fin none 0 0 true ev ?_;cases eq<;>exact k
 .rename_i sh l;rcases cz.1 with⟨e,hl⟩ | ⟨ad,cap,e,hl,_⟩ | ⟨b,off,cap,e,_⟩
  .exact fin _ _ _ true e (k true λ_=>hl)
  .exact fin _ _ _ true e (k false λhh=>by cases hh)
  .exact fin _ _ _ true e (k false λhh=>by cases hh)
 .rename_i i;split at k
  .rename_i t2 sh l hT;have hβ:β[i]?=some (.row (a.eval x)):=aj.ok.row_of (bg hT tr) cz.1;rcases aj.ok.holds i _ _ (bg hT tr) hβ with⟨e,hl⟩ | ⟨ra,e,hl⟩ | ⟨g,cap,cur,e,_⟩
   .exact fin _ _ _ true e (k true λ_=>hl)
   .exact fin _ _ _ true e (k false λhh=>by cases hh)
   .exact fin _ _ _ true e (k false λhh=>by cases hh)
  .cases k
 .cases k
theorem VK{t' ty:TypeId}{i:TypeInfo}{z:Value} (ht:P.underlying t=some (.slice el)) (ht':P.underlying t'=some (.int .i64)) (hi:P.info? el=some i) (hz:i.zero=some z) (hs:1<=i.size) (n:Nat) (h0:0 < n) (h48:n * i.bytes<=140737488355328) (hb:1<=i.bytes):
 (Builtin.append_ #[t,t'] ty #[.slice none 0 0,.int .i64 n]).run P w =
  .ok (.slice (some ⟨w.heap.size,0,none⟩) n (grownCap w n 0 el)) (w.drew.alloc (.cells (Builtin.zeroCells z.cells n++Builtin.zeroCells z.cells (grownCap w n 0 el - n)) el)):=by
 have hn63:n<=140737488355328:=pI (A72 _ hb) h48;have hn:n≠0:=by omega
 have hw:IntKind.i64.wrap (n:Int)=n:=by simp[IntKind.wrap,IntKind.bits,IntKind.signed];omega
 have hneg:¬((n:Int) < 0):=by omega
 have h48i:¬((281474976710656:Int) < (n:Int) * (i.bytes:Int)):=by
  have:((n * i.bytes:Nat):Int)<=140737488355328:=by omega
  rw[Int.natCast_mul]at this;omega
 have h63':¬(9223372036854775807 < (n:Int)):=by omega
 have h48':¬(281474976710656 < Builtin.nextslicecap n 0 * i.bytes):=by rw[nextslicecap_zero h0];omega
 have hns:¬(n * i.size=0):=by
  intro hh;rcases Nat.mul_eq_zero.1 hh with h | h<;>omega
 have al0:¬(i.size=0):=by omega
 simp[Builtin.append_,run_underlying ht,run_underlying ht',sizeOf,typeInfo,zeroValue,hi,hz,Builtin.lenOf,hn,hw,hneg,h48i,h63',h48',Question.forced,run_firstCells_none,newRow,grownCap,asInt,asIntOf,hns,al0]
theorem SN(hc:bJ P cx.ti) (aj:Sat N B h0 s h β w a) (hg:aI cx.gd h) (hd:kU N o.dst=true){t':TypeId}{x:Operand} (ho:o.op=.call c) (bU:c.callee=.builtin .append) (ha:c.args=#[x,y]) (ht:c.argTypes=#[t,t'])
 (hx:bH cx s [] x=some (.one (.c (.v (.slice none 0 0))))) (k:VE cx s o.dst t t' y K):Af P N B h0 h w a o true K:=by
 have tr:gv s.gl []=true:=rfl;unfold VE at k;split at k
 .rename_i hdi;have hui:=bD hc hdi (by simp)
  split at k
  .rename_i el hde;have hu:=bD hc hde (by simp)
   split at k
   .cases k
   rename_i ie hie;have tie:=hc.get hie;split at k
   .cases k
   rename_i sh hsh;split at k
   .rename_i hz;rw[ay,ay,A8,A8]at hz;have hz1:sh.size=ie.size:=gJ hz.1;have hz2:1<=ie.bytes:=oZ hz.2.1;have hz3:1<=ie.size:=oZ hz.2.2;split at k
    .rename_i n hn;obtain⟨⟨hn0,hroom⟩,k⟩:=k;have ex:a.eval x=.slice none 0 0:=(aK aj hg tr hx:cZ h β (.c (.v (.slice none 0 0))) (a.eval x)).1.1;have ey:a.eval y=.int .i64 n:=(aK aj hg tr hn:cZ h β (.c (.v (.int .i64 n))) (a.eval y)).1.1;obtain⟨inf,z,i1,i2,i3,i4,i5⟩:=tie.info;obtain⟨m,rfl⟩:∃m:Nat,n=m:=⟨n.toNat,by omega⟩
     rw[A81]at hroom k;unfold mY at hroom;refine fO.weak (kG (P:=P) aj (o:=o) (G:=[]) rfl hd (r:=.row el sh (List.replicate m (pX sh))) (e:=.one (.c (.row (aN s.T)))) (K:=K) k λ_=>?_)
     by_cases hm:m=0
     .subst hm;refine⟨.slice none 0 0,w,.row (.slice none 0 0),?_,bW _ _,λb hb=>by rw[aW]at hb;simp[au]at hb,.inl ⟨rfl,rfl⟩,⟨_,jJ (kH aj) _,rfl⟩,rfl,rfl⟩
      simp[execOp,ho,resolve,bU,ha,ht,invoke,builtin,ex,ey,Builtin.append_,run_underlying hu,run_underlying hui,sizeOf,typeInfo,i1,asInt,asIntOf,IntKind.wrap,IntKind.bits,IntKind.signed]
     .have r:=VK (P:=P) (w:=w) (ty:=o.type) hu hui i1 i4 (by omega) m (by omega) (by rw[i3];exact hroom) (by omega)
      have hge:=grownCap_ge w m 0 el;have hle:m<=140737488355328:=pI (A72 _ hz2) hroom;refine⟨.slice (some ⟨w.heap.size,0,none⟩) m (grownCap w m 0 el),w.drew.alloc (.cells (Builtin.zeroCells z.cells m++Builtin.zeroCells z.cells (grownCap w m 0 el - m)) el),.row (.slice (some ⟨w.heap.size,0,none⟩) m (grownCap w m 0 el)),?_,⟨⟨rfl,rfl,rfl,by simp,λk hk _=>(World.grownBy_alloc w.drew _ none).block k hk (by simp)⟩,Rq _⟩,?_,?_,⟨_,jJ (kH aj) _,rfl⟩,rfl,rfl⟩
      .simp only[execOp,ho,resolve,bU,ha,ht,invoke,builtin,Sem.run_bind,Sem.run_pure,Result.andThen_ok];simp[ex,ey,r]
      .intro b hb;rw[aW]at hb;simp[au]at hb;obtain⟨_,rfl⟩:=hb;simp
      .have Vr:z.cells.size=ie.size:=by rw[i5];simpa using tie.ou
       have hzz:∀q,Builtin.zeroCells z.cells q=(gY q ie.zero).toArray:=by
        intro q;unfold Builtin.zeroCells;rw[i5];have:=qg (zero:=ie.zero) (n:=q) (by rw[tie.ou];omega)
        simpa using this
       refine .inr (.inr ⟨w.heap.size,_,_,by rw[Fa],heap_alloc_new w.drew _,by rw[Fa];omega,⟨by omega,grownCap_le_maxLen w m 0 el (by simp only[maxLen];omega)⟩,?_,?_⟩)
       .simp only[A80,size_zeroCells,Vr,hz1,<-Jb];congr 1;omega
       .rw[Fa,hzz,hzz];simp only[A91,List.toList_toArray];rw[A78 (by rw[sW,tie.ou,hz1];exact oq _),hz1,<-tie.ou,zu (oq _)]
        exact G9 (xU (tie.U8 sh hsh).1) _
    .cases k
   .cases k
  .cases k
 .cases k
theorem PS{l:List Value}:∀{m j:Nat},j < m->((gY m l).drop (j * l.length)).take l.length=l
 | m+1,0,_=>by simp[gY,fA]
 | m+1,j+1,h=>by
   simp only[gY,fA];rw[xk,UY,A68];exact PS (by omega)
theorem Nu(hc:bJ P cx.ti) (aj:Sat N B h0 s h β w a) (hg:aI cx.gd h) (hd:kU N o.dst=true){x:Operand} (ho:o.op=.makeSlice t x y){p:Prop}
 (hp:Nq cx s o.dst t x y K=some p) (k:p):Af P N B h0 h w a o true K:=by
 have tr:gv s.gl []=true:=rfl;unfold Nq at hp;split at hp
 .rename_i el hde;have hu:=bD hc hde (by simp)
  split at hp
  .cases hp
  rename_i ie hie;have tie:=hc.get hie;split at hp
  .rename_i e hsh;split at hp
   .rename_i tt hte;split at hp
    .rename_i hz;rw[ay,ay,A8,A8]at hz;have hz1:1=ie.size:=gJ hz.1;have hz2:1<=ie.bytes:=oZ hz.2.1;have hz3:ie.zero=[lZ]:=SI hz.2.2;split at hp
     .rename_i ik n hn;split at hp
      .rename_i ik' c hcp;cases hp;refine(kG (G:=[]) aj rfl hd k.2 λhgv=>?_).weak
       obtain⟨s1,s2,s3⟩:=k.1;have e1:a.eval x=.int ik n:=(aK aj hg hgv hn).1.1;have e2:a.eval y=.int ik' c:=(aK aj hg hgv hcp).1.1;obtain⟨inf,z,i1,i2,i3,i4,i5⟩:=tie.info;unfold mY at s3;have hcb:c.toNat<=140737488355328:=pI (A72 _ hz2) s3;have hb:(inf.bytes:Int) * c<=281474976710656:=by
        rw[i3];have:((c.toNat * ie.bytes:Nat):Int)<=140737488355328:=by omega
        rw[Int.natCast_mul,Int.toNat_of_nonneg (by omega),Int.mul_comm]at this
        omega
       have r:=run_make (P:=P) w t el inf z hu i1 i4 ik ik' n c s1 s2 hb (by omega)
       have Vs:madeCells z.cells (c.toNat * inf.size)=(gY c.toNat ie.zero).toArray:=by
        unfold madeCells;rw[i5,i2,<-tie.ou];exact qg (by rw[tie.ou];omega)
       rw[Vs]at r;have hbn:∀{b:Nat},¬au lZ=some b:=by intro b hb';simp[lZ,au]at hb'
       refine⟨.slice (some ⟨w.heap.size,0,none⟩) n.toNat c.toNat,w.alloc (.cells (gY c.toNat ie.zero).toArray el),.deep (.slice (some ⟨w.heap.size,0,none⟩) n.toNat c.toNat) (λ_=>lZ),?_,nG _ _ _,?_,?_,?_⟩
       .simp only[execOp,ho,e1,e2,Sem.run_bind,r,Result.andThen_ok,Sem.run_pure]
       .intro b hb';rw[aQ]at hb';rcases hb' with hb' | ⟨j,hb'⟩
        .simp[au]at hb';obtain⟨_,rfl⟩:=hb';simp
        .exact absurd hb' hbn
       .refine⟨λj k b hb'=>absurd hb' hbn,λj b hb'=>absurd hb' hbn,?_⟩
        by_cases hc0:c.toNat=0
        .have hn0:n.toNat=0:=by omega
         exact .inr (.inl ⟨⟨w.heap.size,0,none⟩,by rw[hc0,hn0],by rw[hn0];rfl⟩)
        refine .inr (.inr ⟨w.heap.size,c.toNat,_,by rw[Fa],lS _ _,by rw[Fa];omega,⟨by omega,by simp only[maxLen];omega⟩,?_,λj=>hbn,λj dd hj=>?_⟩)
        .simp only[EC,sW,hz3];rfl
        .have hj':=(fH.1 hj).1;rw[Fa]at hj';have ed:dd=[]:=by
          have:=iJ hj;exact List.eq_of_mem_replicate this
         subst ed;have ecs:((gY c.toNat ie.zero).drop (j * 1)).take 1=[lZ]:=by
          have:=PS (l:=ie.zero) (m:=c.toNat) (j:=j) (by omega)
          rw[hz3]at this ⊢;exact this
         show zf h _ (.sl e) tt e 0 true false lZ (((gY c.toNat ie.zero).drop (j * 1)).take 1) [];rw[ecs];exact⟨[],[],⟨lZ,rfl,.inl ⟨rfl,rfl⟩⟩,⟨rfl,rfl,rfl⟩,rfl,.inl ⟨rfl,rfl⟩⟩
       .exact⟨⟨_,jJ (kH aj) _,rfl⟩,rfl,rfl⟩
      .cases hp
     .cases hp
    .cases hp
   .cases hp
  .cases hp
 .cases hp
theorem OK.VL(ok:OK B h0 T h β w) (v:RV):OK B h0 (T++[.gone]) h (β++[v]) w where
 below:=ok.below
 dr:=ok.dr
 len:=by simp[ok.len]
 holds:=by
  intro i r' v' e e';rcases aA e with⟨hi,e⟩ | ⟨hi,rfl⟩
  .rcases aA e' with⟨_,e'⟩ | ⟨hj,_⟩
   .exact(ok.holds i r' v' e e').move (FH.le.refl h) (Ext.append _ _) λhl b hb=>rfl
   .have:=ok.len;omega
  .cases v'<;>trivial
 own:=by
  intro i r' v' b e hl e' hb;rcases aA e with⟨hi,e⟩ | ⟨hi,rfl⟩
  .rcases aA e' with⟨_,e'⟩ | ⟨hj,_⟩
   .exact ok.own i r' v' b e hl e' hb
   .have:=ok.len;omega
  .cases hl
 inj:=by
  intro i j r1 r2 u v' b ei hl1 ej hl2 eu ev hu hv';have L:=ok.len;rcases aA ei with⟨hi,ei⟩ | ⟨hi,rfl⟩
  .rcases aA ej with⟨hj,ej⟩ | ⟨hj,rfl⟩
   .rcases aA eu with⟨_,eu⟩ | ⟨hi',_⟩
    .rcases aA ev with⟨_,ev⟩ | ⟨hj',_⟩
     .exact ok.inj i j r1 r2 u v' b ei hl1 ej hl2 eu ev hu hv'
     .omega
    .omega
   .cases hl2
  .cases hl1
 hle:=ok.hle
 hw:=ok.hw
 hg:=ok.hg
 kn:=ok.kn
theorem vM{i:Nat}{z:SC}{g g':Gd×ak}:∀{T:List (Gd×ak)},dh (qX i z (snoc T g)) (aN T) g'=snoc (qX i z T) g'
 | []=>rfl
 | x :: T=>by
   show dh (_ :: qX i z (snoc T g)) (aN T+1) g'=_ :: snoc (qX i z T) g';show _ :: dh (qX i z (snoc T g)) (aN T) g'=_;rw[vM]
theorem VN(hc:bJ P cx.ti) (aj:Sat N B h0 s h β w a) (hg:aI cx.gd h) (hd:kU N o.dst=true){x m:Operand} (ho:o.op=.slice t x lo hi (some m))
 (k:afZ cx s o.dst t x lo hi m K):Af P N B h0 h w a o true K:=by
 have tr:gv s.gl []=true:=rfl;unfold afZ at k;split at k
 .rename_i el hde;have hu:=bD hc hde (by simp)
  split at k
  .cases k
  rename_i ie hie;have tie:=hc.get hie;split at k
  .cases k
  rename_i hlo;split at k
  .cases k
  rename_i hh;split at k
  .rename_i ik n hn;split at k
   .rename_i ik' n' hn';split at k
    .rename_i sh l hx;split at k
     .rename_i hz;have hz:ie.size=sh.size:=gJ hz;obtain⟨⟨b1,b2,b3⟩,k⟩:=k;subst b3;have eh:a.eval hh=.int ik n:=(aK aj hg tr hn:cZ h β (.c (.v (.int ik n))) (a.eval hh)).1.1;have em:a.eval m=.int ik' n:=(aK aj hg tr hn':cZ h β (.c (.v (.int ik' n))) (a.eval m)).1.1;have Fz:=(aK aj hg tr hx:cZ h β (.c (.sl sh l)) (a.eval x));have af5:lo.map a.eval=none\/∃k,lo.map a.eval=some (.int k 0):=by
       cases lo with
       | none=>exact .inl rfl
       | some z=>
         obtain⟨kz,rfl⟩:=yj (show EN z=true from hlo)
         exact .inr ⟨kz,rfl⟩
      have run:∀(ad:Option Addr) (len cap:Nat),a.eval x=.slice ad len cap->n<=len->len<=cap->(execOp a.eval o).run P w=.ok (.value (.slice ad n.toNat n.toNat)) w:=by
       intro ad len cap ev h1 h2;have hb:(0:Int)<=n/\n<=cap:=by omega
       have al1:(Instr.sliceBounds true len cap (lo.map a.eval) (some (.int ik n)) (some (.int ik' n))).run P w=.ok (0,n.toNat,n.toNat) w:=by
        unfold Instr.sliceBounds;rcases af5 with e | ⟨k,e⟩
        .rw[e];simp[Instr.sliceBound,asIntOf,hb];omega
        .rw[e];simp[Instr.sliceBound,asIntOf,hb];omega
       have r2:(Instr.sliceAt t (a.eval x) (lo.map a.eval) ((some hh).map a.eval) ((some m).map a.eval)).run P w=.ok (.slice ad n.toNat n.toNat) w:=by
        rw[ev];simp only[Instr.sliceAt,Instr.slice,Sem.run_bind,run_underlying hu,Result.andThen_ok,Us,eh,em,al1,run_sizeOf tie,Sem.run_pure];cases ad<;>simp[Addr.add]
       simp only[execOp,ho,Sem.run_bind];rw[r2];rfl
      rcases Fz.1 with⟨ev,hl⟩ | ⟨ra,cap,ev,hl,hc'⟩ | ⟨b,off,cap,ev,q1,q2,cs,rd,at_⟩
      .have hn0:n.toNat=0:=by rw[hl]at b2;simp at b2;omega
       refine nP aj hd (e:=.one (.c (.abs (.RJ sh (l.take n.toNat))))) (run none 0 0 ev (by rw[hl]at b2;simpa using b2) (oq _)) ⟨⟨?_,none,_,rfl⟩,rfl,rfl⟩ k
       rw[hn0,hl];exact .inl ⟨rfl,rfl⟩
      .have hn0:n.toNat=0:=by rw[hl]at b2;simp at b2;omega
       refine nP aj hd (e:=.one (.c (.abs (.RJ sh (l.take n.toNat))))) (run (some ra) 0 cap ev (by rw[hl]at b2;simpa using b2) (Ja _)) ⟨⟨?_,some ra,_,rfl⟩,rfl,rfl⟩ k
       rw[hn0,hl];exact .inr (.inl ⟨ra,0,rfl,rfl,Ja _⟩)
      .have hlen:(l.take n.toNat).length=n.toNat:=by rw[jY];omega
       refine nP aj hd (e:=.one (.c (.abs (.RJ sh (l.take n.toNat))))) (run (some ⟨b,off,none⟩) l.length cap ev b2 q1) ⟨⟨.inr (.inr ⟨b,off,n.toNat,by rw[hlen],by rw[hlen];exact oq _,by omega,cs.take (n.toNat * sh.size),?_,?_⟩),_,_,rfl⟩,rfl,rfl⟩ k
       .have:=fK.sN (λ_ _=>Rd.size sh) rd (a:=0) (b:=n.toNat) (Ja _) (by omega)
        simpa using this
       .have:=at_.shift (n.toNat * sh.size) 0;simpa using this
     .cases k
    .cases k
   .cases k
  .cases k
 .cases k
theorem CX{ty:TypeId}{i:TI}{sh:Sh}{sv:Value}{l l2:List sh.den} (hu:P.underlying t=some (.slice el)) (k:aJ P el i) (hs:sh.size=i.size)
 (hb1:1<=i.bytes) (hs1:1<=i.size) (row:pK h (Rd h sh) v l/\∃a n,v=.slice a n n) (src:Vq h w sh sv l2) (room:mY (l.length+l2.length) i.bytes)
 (hw:∀b o u,h b o=some u->vis w b o=some u):
 ∃v' w',(Builtin.append_ #[t,t] ty #[v,sv]).run P w=.ok v' w'/\((l2=[]/\v'=v/\w'=w)\/(Gb w w' none/\(∀b,au v'=some b->w.heap.size<=b/\b < w'.heap.size)/\Po h w' el sh v' (l++l2))):=by
 obtain⟨inf,z,i1,i2,i3,i4,i5⟩:=k.info;unfold mY at room;obtain⟨row,va,vn,ve⟩:=row;have hn:l.length+l2.length<=140737488355328:=pI (A72 _ hb1) room;have Vr:z.cells.size=i.size:=by rw[i5];simpa using k.ou
 rcases src with⟨rfl,rfl⟩ | ⟨sa,sc,rfl,rfl⟩ | ⟨b,o,c,cs,rfl,rd,at_⟩
 .refine⟨v,w,?_,.inl ⟨rfl,rfl,rfl⟩⟩;rcases row with⟨rfl,rfl⟩ | ⟨_,cp,rfl,rfl,_⟩ | ⟨g,off,cap,rfl,q1,q2,q3⟩
  .simp[Builtin.append_,run_underlying hu,sizeOf,typeInfo,i1,Builtin.lenOf,Builtin.firstCells]
  .simp[Builtin.append_,run_underlying hu,sizeOf,typeInfo,i1,Builtin.lenOf,Builtin.firstCells,storeCells]
  .simp[Builtin.append_,run_underlying hu,sizeOf,typeInfo,i1,Builtin.lenOf,Builtin.firstCells,q1,storeCells]
 .refine⟨v,w,?_,.inl ⟨rfl,rfl,rfl⟩⟩;rcases row with⟨rfl,rfl⟩ | ⟨_,cp,rfl,rfl,_⟩ | ⟨g,off,cap,rfl,q1,q2,q3⟩
  .simp[Builtin.append_,run_underlying hu,sizeOf,typeInfo,i1,Builtin.lenOf,Builtin.firstCells,loadCells,loadCellsFrom]
  .simp[Builtin.append_,run_underlying hu,sizeOf,typeInfo,i1,Builtin.lenOf,Builtin.firstCells,storeCells,loadCells,loadCellsFrom]
  .simp[Builtin.append_,run_underlying hu,sizeOf,typeInfo,i1,Builtin.lenOf,Builtin.firstCells,q1,storeCells,loadCells,loadCellsFrom]
 .have hcs:cs.length=l2.length * inf.size:=by rw[fK.size (λ_ _=>Rd.size sh) rd,i2,hs]
  have hnews:∀j u,cs[j]?=some u->w.cell? ((⟨b,o,none⟩:Addr).add j)=some u:=λj u e=>by rw[add_lit];exact at_ j u e
  by_cases hm:l2.length=0
  .have:l2=[]:=Un hm;subst this;refine⟨v,w,?_,.inl ⟨rfl,rfl,rfl⟩⟩;rcases row with⟨rfl,rfl⟩ | ⟨_,cp,rfl,rfl,_⟩ | ⟨g,off,cap,rfl,q1,q2,q3⟩
   .simp[Builtin.append_,run_underlying hu,sizeOf,typeInfo,i1,Builtin.lenOf,Builtin.firstCells,loadCells,loadCellsFrom]
   .simp[Builtin.append_,run_underlying hu,sizeOf,typeInfo,i1,Builtin.lenOf,Builtin.firstCells,storeCells,loadCells,loadCellsFrom]
   .simp[Builtin.append_,run_underlying hu,sizeOf,typeInfo,i1,Builtin.lenOf,Builtin.firstCells,q1,storeCells,loadCells,loadCellsFrom]
  .rcases row with⟨rfl,rfl⟩ | ⟨ra,cp,rfl,rfl,hcp⟩ | ⟨g,off,cap,rfl,q1,q2,c0,q3,q4⟩
   .have r:=run_append_nil (P:=P) w t ty el inf z hu i1 i4 ⟨b,o,none⟩ l2.length c cs hcs hnews (by omega) (by simp at hn;omega) (by rw[i3];simp at room;omega)
    have hge:=grownCap_ge w l2.length 0 el;refine⟨_,_,r,.inr ⟨⟨⟨rfl,rfl,rfl,by simp,λk hk _=>(World.grownBy_alloc w.drew _ none).block k hk (by simp)⟩,Rq _⟩,?_,?_⟩⟩
    .intro b' hb';simp[au]at hb';obtain⟨_,rfl⟩:=hb';simp
    .refine .inr (.inr ⟨w.heap.size,_,_,rfl,heap_alloc_new w.drew _,by simpa using hge,⟨by omega,grownCap_le_maxLen w l2.length 0 el (by simp only[maxLen];simp at hn;omega)⟩,?_,?_⟩)
     .simp only[A80,EC,size_zeroCells,Vr,hcs,i2,hs,<-Jb]
      congr 1;omega
     .simp only[A91,Ut];rw[show l2.length * sh.size=cs.length by rw[hcs,i2,hs],UK]
      exact rd
   .have al2:cp=0:=by cases ve;rfl
    subst al2;have r:=run_append_grow (P:=P) w t ty el inf z hu i1 i4 ra 0 0 [] (by simp) (λj u e=>by simp at e) ⟨b,o,none⟩ l2.length c cs hcs hnews (by omega) (by simp at hn;omega) (growslice_fits (by omega) (by rw[i3];simpa using room))
    rw[Eu]at r;have hge:=grownCap_ge w l2.length 0 el;refine⟨_,_,r,.inr ⟨⟨⟨rfl,rfl,rfl,by simp,λk hk _=>(World.grownBy_alloc w.drew _ none).block k hk (by simp)⟩,Rq _⟩,?_,?_⟩⟩
    .intro b' hb';simp[au]at hb';obtain⟨_,rfl⟩:=hb';simp
    .refine .inr (.inr ⟨w.heap.size,_,_,rfl,heap_alloc_new w.drew _,by simpa using hge,⟨by omega,grownCap_le_maxLen w l2.length 0 el (by simp only[maxLen];simp at hn;omega)⟩,?_,?_⟩)
     .simp only[A80,EC,size_zeroCells,Vr,Ut,hcs,i2,hs,Eu,LP,<-Jb]
      congr 1;omega
     .simp only[A91,Ut];rw[show l2.length * sh.size=cs.length by rw[hcs,i2,hs],UK]
      exact rd
   .have hcap:cap=l.length:=by injection ve with e1 e2 e3;omega
    subst hcap;have lsz:=fK.size (λ_ _=>Rd.size sh) q3
    have hol:c0.length=l.length * inf.size:=by rw[lsz,i2,hs]
    have holds:∀j u,c0[j]?=some u->w.cell? ((⟨g,off,none⟩:Addr).add j)=some u:=by
     intro j u e;rw[add_lit];exact BK (hw _ _ _ (q4 j u e)) (fK.all (λ_ _=>Rd.one _) q3 u (iJ e)).2
    have r:=run_append_grow (P:=P) w t ty el inf z hu i1 i4 ⟨g,off,none⟩ l.length l.length _ hol holds ⟨b,o,none⟩ l2.length c cs hcs hnews (by omega) (by omega) (growslice_fits (by omega) (by rw[i3];exact room))
    have hge:=grownCap_ge w (l.length+l2.length) l.length el;refine⟨_,_,r,.inr ⟨⟨⟨rfl,rfl,rfl,by simp,λk hk _=>(World.grownBy_alloc w.drew _ none).block k hk (by simp)⟩,Rq _⟩,?_,?_⟩⟩
    .intro b' hb';simp[au]at hb';obtain⟨_,rfl⟩:=hb';simp
    .refine .inr (.inr ⟨w.heap.size,_,_,by rw[jR],heap_alloc_new w.drew _,by rw[jR];exact hge,⟨by omega,grownCap_le_maxLen w _ l.length el (by simp only[maxLen];omega)⟩,?_,?_⟩)
     .have afO:c0.length=l.length * i.size:=by rw[<-hs];exact lsz
      simp only[A80,EC,size_zeroCells,Vr,hcs,i2,hs,afO,<-Jb]
      congr 1
      omega
     .simp only[A91,zY];rw[<-zY,show(l++l2).length * sh.size=(c0++cs).length by rw[jR,jR,Jb,hcs,lsz,i2,hs],UK]
      exact q3.append rd
theorem JI(hc:bJ P cx.ti) (aj:Sat N B h0 s h β w a) (hg:aI cx.gd h) (hd:kU N o.dst=true){x:Operand} (ho:o.op=.call c) (bU:c.callee=.builtin .append) (ha:c.args=#[x,y]) (ht:c.argTypes=#[t,t])
 (k:Hq cx s o.dst t x y K):Af P N B h0 h w a o true K:=by
 have tr:gv s.gl []=true:=rfl;unfold Hq iq at k;split at k
 .rename_i el hde;have hu:=bD hc hde (by simp)
  split at k
  .cases k
  rename_i ie hie;have tie:=hc.get hie;split at k
  .cases k
  rename_i sh hsh;split at k
  .rename_i hz;rw[ay,ay,A8,A8]at hz;have hz1:sh.size=ie.size:=gJ hz.1;have hz2:1<=ie.bytes:=oZ hz.2.1;have hz3:1<=ie.size:=oZ hz.2.2;split at k
   .rename_i dW l1 hx;split at k
    .rename_i l hl;obtain⟨e1,e2⟩:=nK hl;subst e1;simp only at e2;subst e2;split at k
     .rename_i v2 hv2;have c2:=aK aj hg tr hv2;split at k
      .rename_i l2 hl2;obtain⟨k1,k⟩:=k;have src:=Bd aj hl2 c2;have Fz:=(aK aj hg tr hx:cZ h β (.c (.abs (.RJ dW l1))) (a.eval x));obtain⟨v',w',r1,r2⟩:=CX (P:=P) (ty:=o.type) hu tie hz1 hz2 hz3 Fz.1 src k1 aj.ok.hw;have exec:(execOp a.eval o).run P w=.ok (.value v') w':=by
        have r1':=r1;simp[execOp,ho,resolve,bU,ha,ht,invoke,builtin,r1']
       have hlen:aN s.T=β.length:=by rw[aj.ok.len,iK,aZ]
       have gT:∀(r:ak),∀p∈snoc s.T (([]:Gd),r),uK s.gl.length p.1=true:=by
        intro r p hp;rw[gZ,Et]at hp;rcases hp with hp | hp
        .exact aj.gT p hp
        .simp at hp;subst hp;rfl
       have fin:∀(r:ak) (h':FH) (s1:Sat N B h0 { s with T:=snoc s.T ([],r) } h (β++[.row v']) w' a),h.le h'->OK B h0 ((eff s.gl (snoc s.T ([],r))).set (aN s.T) .gone) h' (β++[.row v']) w'->pK h' (Rd h' dW) v' (l1++l2)->Af P N B h0 h w a o true K:=by
        intro r h' s1 le ok' sl;have fG:(eff s.gl (snoc s.T (([]:Gd),r)))[aN s.T]?=some r:=by
         rw[iw,hlen,aj.ok.len,L6 (oq _),UW];rfl
        have bC:=s1.Hu (z:=.sl dW (l1++l2)) (i:=aN s.T) (u:=.row v') (v:=v') fG (by rw[hlen];simp) rfl le ok' sl
        rw[show dh (qX (aN s.T) (.sl dW (l1++l2)) (snoc s.T (([]:Gd),r))) (aN s.T) (([]:Gd),ak.gone)=snoc (qX (aN s.T) (.sl dW (l1++l2)) s.T) (([]:Gd),ak.gone) from vM]at bC
        intro Nx Q next
        rw[if_pos rfl];exact jI exec (next _ _ _ _ _ k le (bC.put (dI hd) rfl (λ_=>⟨sl,sl.dD⟩) λhh=>by cases hh))
       rcases r2 with⟨e1,e2,e3⟩ | ⟨r2,r3,r4⟩
       .have hw':w=w':=e3.symm;subst hw';subst e2;subst e1;have ok:OK B h0 (eff s.gl (snoc s.T (([]:Gd),ak.gone))) h (β++[.row (a.eval x)]) w:=by rw[iw];exact aj.ok.VL _
        have s1:=aj.mem ok (FH.le.refl h) (Ext.append _ _) (gT .gone);refine fin .gone h s1 (FH.le.refl h) ?_ (by rw[Mc];exact Fz.1.1)
        rw[fZ]
        .exact ok
        .rw[iw,hlen,aj.ok.len,L6 (oq _),UW];rfl
       .have ok:OK B h0 (eff s.gl (snoc s.T (([]:Gd),ak.row el dW (l1++l2)))) h (β++[.row v']) w':=by
         rw[iw];exact aj.ok.add r2 (λb hb=>r3 b (aW.1 hb)) r4
        have s1:=aj.mem ok (FH.le.refl h) (Ext.append _ _) (gT _);have fG:(eff s.gl (snoc s.T (([]:Gd),ak.row el dW (l1++l2))))[aN s.T]?=some (.row el dW (l1++l2)):=by
         rw[iw,hlen,aj.ok.len,L6 (oq _),UW];rfl
        obtain⟨h',le,ok',sl⟩:=ok.freeze fG (show(β++[.row v'])[aN s.T]?=some (.row v') by rw[hlen];simp)
        exact fin _ h' s1 le ok' sl
      .cases k
     .cases k
    .cases k
   .cases k
  .cases k
 .cases k
theorem abj(hc:bJ P cx.ti) (aj:Sat N B h0 s h β w a) (hg:aI cx.gd h) (hd:kU N o.dst=true){ops:Array Oper}{p:Prop} (e:af2 cx s o K=some p) (k:p):Af P N B h0 h w a o (Region.wanted o (yielded ops a.tmps)) K:=by
 unfold af2 at e;split at e
 .cases e
 rename_i hgd;rw[show Region.wanted o (yielded ops a.tmps)=true by simp[Region.wanted,hgd]]
 split at e
 .rename_i t x lo hi mx ho;split at e
  .rename_i m;split at e
   .rename_i hm;cases e;exact VG hc aj hg hd ho hm k
   .cases e;exact VN hc aj hg hd ho k
  .split at e
   .rename_i i hx;cases e;exact Nr hc aj hg hd ho hx k
   .rename_i hx;cases e;exact VH hc aj hg hd ho hx k
   .cases e
 .rename_i op t x y t' ho;split at e
  .cases e
  .rename_i eq he;split at e
   .rename_i hy;split at e
    .rename_i z hx;split at e
     .rename_i hz;rw[ay,A8]at hz;cases e;exact Ns hc aj hg hd ho he hy hx hz.1 hz.2 k
     .cases e
    .cases e
   .cases e
 .rename_i c ho;split at e
  .rename_i bU;split at e
   .rename_i x y ha;split at e
    .rename_i t t' ht;split at e
     .rename_i hb;have hb:t=t':=gJ hb;subst hb;split at e
      .cases e;exact JI hc aj hg hd ho bU (gW ha) (gW ht) k
      .cases e
     .split at e
      .rename_i hx;cases e;exact SN hc aj hg hd ho bU (gW ha) (gW ht) hx k
      .cases e
    .cases e
   .cases e
  .rename_i bU;split at e
   .rename_i x ha;split at e
    .rename_i t ht;cases e;exact VI hc aj hg hd ho bU (gW ha) (gW ht) k
    .cases e
   .cases e
  .rename_i bU;split at e
   .rename_i x y ha;cases e;exact VJ aj hg hd ho bU (gW ha) k
   .cases e
  .cases e
 .rename_i t ln cp ho;split at e
  .exact Nu hc aj hg hd ho e k
  .cases e
 .rename_i t n ps ho;split at e
  .cases e
  .rename_i i r hr;cases e;obtain⟨h',le,aP⟩:=aj.Ey (l:=i :: r);have:=rQ hc aP (hg.mono le) (G:=[]) rfl hd ho k;exact Af.le le this.weak
 .cases e
end
end Go.lH
