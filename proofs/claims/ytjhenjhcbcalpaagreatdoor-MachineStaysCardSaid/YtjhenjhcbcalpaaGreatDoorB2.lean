/- Part 2 of the proof. Conditions: the rows'. -/
import Derived.Test.YtjhenjhcbcalpaaGreatDoorB1
import Derived.Still
set_option linter.unusedSimpArgs false
set_option linter.unusedVariables false
set_option maxRecDepth 1000000
set_option maxHeartbeats 8000000
namespace Go.ni
open Go Go.RowKit
variable {w w':World}{P:Program}{o:Oper}{a:Act}{v:Value}{n r i:Nat}{h' h h0:FH}{β' β:List RV}{t el:TypeId}{y:Operand}{u:RV}{T:List au}{c:Call}{f:FuncId}{B:Base}{z:SC}{lo hi:Option Operand}
theorem nR.MQ(h:Gb w w' none):nR w w':=⟨h.size,λk hk=>h.block k hk (by simp)⟩
theorem nR.of_below(h:Below w.heap.size w w'):nR w w':=⟨h.size,h.block⟩
def quietly:Op->Bool
 | .store ..=>false
 | .call c=>match c.callee with
   | .builtin .len=>true
   | .builtin _=>false
   | .value (.tmp _)=>false
   | _=>true
 | _=>true
def gK(P:Program) (N:Nat) (B:Base) (h0 h:FH) (w:World) (a:Act) (o:Oper) (wanted:Bool) (K:St->Prop):Prop:=
 ∀(Nx:Act->World->Prop) (Q:Exit->Act->World->Prop),
   (∀s' h' β' w' v,K s'->h.le h'->(quietly o.op=true->nR w w')->Sat N B h0 s' h' β' w' (a.put o.dst v)->Nx (a.put o.dst v) w') ->
   if wanted=true then o.wp P a w Nx Q else Nx (a.put o.dst undef) w
theorem kK{Nx:Act->World->Prop}{Q:Exit->Act->World->Prop} (h:(execOp a.eval o).run P w=.ok (.value v) w') (k:Nx (a.put o.dst v) w'):o.wp P a w Nx Q:=by
 unfold Oper.wp;rw[h];exact k
theorem X0{Nx:Act->World->Prop}{Q:Exit->Act->World->Prop} (h:(execOp a.eval o).run P w=.ok .skip w') (k:Nx (a.put o.dst undef) w'):o.wp P a w Nx Q:=by
 unfold Oper.wp;rw[h];exact k
abbrev l7(n:Nat):Option Nat->Bool
 | none=>true
 | some d=>Nat.ble (d+1) n
theorem dP{d:Option Nat} (h:l7 n d=true):∀k,d=some k->k < n:=by
 intro k hk;subst hk;have:=qO h;omega
section
variable {cx:Cx}{P:Program}{N:Nat}{B:Base}{h0:FH}{s:St}{h:FH}{β:List RV}{w:World}{a:Act}{G:Gd}{o:Oper}{K:St->Prop}
theorem IW(hc:bK P cx.ti) (aj:Sat N B h0 s h β w a) (hg:aJ cx.gd h) (hG:wS s.gl.length G=true) (hd:l7 N o.dst=true) (k:oq cx s G o λe=>K (s.put o.dst G e)):
 gK P N B h0 h w a o (gv s.gl G) K:=by
 intro Nx Q next
 obtain⟨e,k1,k2⟩:=Fa hc aj hg k;cases hgv:gv s.gl G with
 | true=>
   obtain⟨v,r,c⟩:=k2 hgv;rw[if_pos rfl];exact kK r (next _ _ _ _ _ k1 (FH.le.refl h) (λ_=>nR.refl w) (aj.put (dP hd) hG (λ_=>c) λhh=>by rw[hgv]at hh;cases hh))
 | false=>
   rw[if_neg (by simp)]
   exact next _ _ _ _ _ k1 (FH.le.refl h) (λ_=>nR.refl w) (aj.put (dP hd) hG (λhh=>by rw[hgv]at hh;cases hh) λ_=>rfl)
theorem bW(w:World) (r:Option Nat):Gb w w r:=⟨⟨rfl,rfl,rfl,qm _,λ_ _ _=>rfl⟩,qm _⟩
theorem lH(aj:Sat N B h0 s h β w a) (hG:wS s.gl.length G=true) (hd:l7 N o.dst=true){r:au}{e:bg} (k:K ({ s with T:=snoc s.T (G,r) }.put o.dst G e))
 (run:gv s.gl G=true->∃v w' rv,(execOp a.eval o).run P w=.ok (.value v) w'/\Gb w w' none/\(∀b,rv.has b->w.heap.size<=b/\b < w'.heap.size) /\
  Holds h (β++[rv]) w' r rv/\jX h (β++[rv]) e v):
 gK P N B h0 h w a o (gv s.gl G) K:=by
 intro Nx Q next
 have gT:∀p∈snoc s.T (G,r),wS s.gl.length p.1=true:=by
  intro p hp;rw[iP,DY]at hp;rcases hp with hp | hp
  .exact aj.gT p hp
  .simp at hp;subst hp;exact hG
 cases hgv:gv s.gl G with
 | true=>
   obtain⟨v,w',rv,h1,h2,h3,h4,h5⟩:=run hgv;rw[if_pos rfl];refine kK h1 (next _ h (β++[rv]) _ _ k (FH.le.refl h) (λ_=>nR.MQ h2) ?_)
   have ok:OK B h0 (eff s.gl (snoc s.T (G,r))) h (β++[rv]) w':=by
    rw[iU,hgv];exact aj.ok.add h2 h3 h4
   exact(aj.mem ok (FH.le.refl h) (Ext.append _ _) gT).put (dP hd) hG (λ_=>h5) λhh=>by simp only at hh;rw[hgv]at hh;cases hh
 | false=>
   rw[if_neg (by simp)]
   refine next _ h (β++[.no]) _ _ k (FH.le.refl h) (λ_=>nR.refl w) ?_
   have ok:OK B h0 (eff s.gl (snoc s.T (G,r))) h (β++[.no]) w:=by
    rw[iU,hgv];exact aj.ok.add (bW w none) (λb hb=>(Px hb).elim) trivial
   exact(aj.mem ok (FH.le.refl h) (Ext.append _ _) gT).put (dP hd) hG (λhh=>by simp only at hh;rw[hgv]at hh;cases hh) λ_=>rfl
theorem nD(aj:Sat N B h0 s h β w a){s':St} (k:K s') (hgv:gv s.gl G=true) (hq:quietly o.op=false)
 (run:(execOp a.eval o).run P w=.ok (.value v) w'\/((execOp a.eval o).run P w=.ok .skip w'/\v=undef)) (le:h.le h') (aS:Sat N B h0 s' h' β' w' (a.put o.dst v)):
 gK P N B h0 h w a o (gv s.gl G) K:=by
 intro Nx Q next
 rw[if_pos hgv];rcases run with run | ⟨run,rfl⟩
 .exact kK run (next _ _ _ _ _ k le (λhh=>by rw[hq]at hh;cases hh) aS)
 .exact X0 run (next _ _ _ _ _ k le (λhh=>by rw[hq]at hh;cases hh) aS)
end
abbrev PO:Sh->Bool
 | .arr _ _=>true
 | .pair a b=>match PO a with
   | true=>true
   | false=>PO b
 | _=>false
abbrev Sv(t:TypeId) (i:TI):au:=match i.iQ with
 | some s=>match PO s with
   | true=>.obj t s (rQ s)
   | false=>.blk t (eU SC.v i.zero)
 | none=>.blk t (eU SC.v i.zero)
abbrev JV(cx:Cx) (s:St) (G:Gd) (d:Option Nat) (t:TypeId) (K:St->Prop):Prop:=match qx cx.ti t with
 | none=>False
 | some i=>K ({ s with T:=snoc s.T (G,Sv t i) }.put d G (.one (.c (.own (aO s.T) 0))))
abbrev PS(t:TypeId) (v:SV):Option au:=match v with
 | .dat sh d=>some (.obj t sh d)
 | v=>match oC v with
   | some xs=>some (.blk t xs)
   | none=>none
abbrev adY(cx:Cx) (s:St) (G:Gd) (d:Option Nat) (t:TypeId) (x:Operand) (K:St->Prop):Prop:=match bJ cx s G x with
 | some (.one v)=>match PS t v with
   | some r=>K ({ s with T:=snoc s.T (G,r) }.put d G (.one (.c (.own (aO s.T) 0))))
   | none=>False
 | _=>False
theorem nG(w:World) (o:Obj):(w.alloc o).heap[w.heap.size]?=some o:=heap_alloc_new w o
theorem VK{v:SV}{r:au}{y:Value}{b:Nat} (e:PS t v=some r) (c:cZ h β v y) (eb:Ext β β')
 (hw:w.heap[b]?=some (.cells y.cells t (0,0))):Holds h β' w r (.blk b):=by
 unfold PS at e;split at e
 .cases e;obtain⟨_,cs,rfl,rd⟩:=c;exact⟨cs,hw,rd⟩
 .split at e
  .rename_i xs hx;cases e;refine⟨y.cells.toList,by simpa using hw,(yJ hx c).mono λ_ _ ⟨p,q⟩=>⟨p.mono (FH.le.refl h) eb,q⟩⟩
  .cases e
section
variable {cx:Cx}{P:Program}{N:Nat}{B:Base}{h0:FH}{s:St}{h:FH}{β:List RV}{w:World}{a:Act}{G:Gd}{o:Oper}{K:St->Prop}
theorem kL(hn:β.length=n) (v:RV):(β++[v])[n]?=some v:=by
 subst hn;simp
theorem lI(aj:Sat N B h0 s h β w a):β.length=aO s.T:=by
 rw[aj.ok.len,ji,bC]
theorem zH{s:Sh}{cs:List Value}{d:s.den} (r:Rd (λ_ _=>none) s cs d):Rd h s cs d:=r.mono (λ_ _ _ e=>by cases e) s
theorem PU(hc:bK P cx.ti) (aj:Sat N B h0 s h β w a) (hG:wS s.gl.length G=true) (hd:l7 N o.dst=true) (ho:o.op=.alloc t) (k:JV cx s G o.dst t K):
 gK P N B h0 h w a o (gv s.gl G) K:=by
 unfold JV at k;split at k
 .cases k
 rename_i i hi;have ti:=hc.get hi;refine lH aj hG hd k λhgv=>?_
 obtain⟨z,hz1,hz2⟩:=vT ti w;refine⟨.pointer (some ⟨w.heap.size,0,none⟩),w.alloc (.cells z.cells t),.blk w.heap.size,?_,oZ _ _ _,?_,?_,?_⟩
 .simp only[execOp,ho,Instr.alloc,newVar,newRow,Sem.run_bind,hz1,Result.andThen_ok,run_newObj,Sem.run_pure];rfl
 .intro b hb;rw[lF]at hb;subst hb;simp
 .have hn:=nG w (.cells z.cells t);unfold Sv;split
  .rename_i sh hs;split
   .exact⟨i.zero,by rw[hn,hz2],zH (ti.XM _ hs).1⟩
   .exact⟨i.zero,by rw[hn,hz2],iq ti.zone⟩
  .exact⟨i.zero,by rw[hn,hz2],iq ti.zone⟩
 .exact⟨⟨_,kL (lI aj) _,rfl⟩,iV _⟩
theorem X3(hc:bK P cx.ti) (aj:Sat N B h0 s h β w a) (hg:aJ cx.gd h) (hG:wS s.gl.length G=true) (hd:l7 N o.dst=true){x:Operand} (ho:o.op=.box t x) (k:adY cx s G o.dst t x K):
 gK P N B h0 h w a o (gv s.gl G) K:=by
 unfold adY at k;split at k
 .rename_i v hv;split at k
  .rename_i r hr;refine lH aj hG hd k λhgv=>?_
   have hx:=aN aj hg hgv hv;refine⟨.pointer (some ⟨w.heap.size,0,none⟩),w.alloc (.cells (a.eval x).cells t),.blk w.heap.size,?_,oZ _ _ _,?_,?_,?_⟩
   .simp only[execOp,ho,Instr.box,newVar,newRow,Sem.run_bind,Result.andThen_ok,run_newObj,Sem.run_pure];rfl
   .intro b hb;rw[lF]at hb;subst hb;simp
   .exact VK hr hx (Ext.append _ _) (nG _ _)
   .exact⟨⟨_,kL (lI aj) _,rfl⟩,iV _⟩
  .cases k
 .cases k
end
abbrev iJ{α:Type}:Nat->List α->List α
 | 0,_=>[]
 | n+1,l=>dY l (iJ n l)
abbrev nH(cx:Cx) (s:St) (G:Gd) (d:Option Nat) (t:TypeId) (n:Nat) (parts:List (Nat×Operand)) (K:St->Prop):Prop:=match descOf cx t with
 | .slice el=>match qx cx.ti el with
   | none=>False
   | some ie=>match ie.iQ with
     | none=>False
     | some sh=>match yK cx s G parts with
       | none=>False
       | some ps=>match dA (Nat.ble (n * ie.size) 16777216) (Nat.ble 1 ie.size) with
         | false=>False
         | true=>match vP (λj=>some (j * ie.size,ie.size)) (iJ n (eU SC.v ie.zero)) ps with
           | none=>False
           | some xs=>match dA (Nat.beq sh.size ie.size) (Nat.beq (aO xs) (n * ie.size)) with
             | false=>False
             | true=>match takeN sh n xs with
               | some (l,[])=>K ({ s with T:=snoc s.T (G,.row el sh l) }.put d G (.one (.c (.row (aO s.T)))))
               | _=>False
 | _=>False
theorem Fb{α β:Type} (f:α->β):∀(n:Nat) (l:List α),iJ n (eU f l)=eU f (iJ n l)
 | 0,_=>rfl
 | n+1,l=>by
   simp only[iJ];rw[Fb f n l];simp[fU,D5]
theorem zJ{α:Type}{x:α}{l:List α}:∀{n:Nat},x∈iJ n l->x∈l
 | 0,h=>by simp[iJ]at h
 | n+1,h=>by
   simp only[iJ,fU,DY]at h;exact h.elim id zJ
theorem vW{α:Type}{l:List α}:∀{n:Nat},(iJ n l).length=n * l.length
 | 0=>by simp[iJ]
 | n+1=>by simp only[iJ,fU,kT,vW,yF];omega
theorem MR{l:List Value}:∀{n j:Nat},j < n * l.length->(iJ n l)[j]?=l[j % l.length]?
 | 0,j,h=>by omega
 | n+1,j,h=>by
   simp only[iJ,fU];rw[yF]at h
   by_cases hj:j < l.length
   .rw[Xe hj,Nat.mod_eq_of_lt hj]
   .rw[O9 (by omega),MR (by omega)]
    congr 1
    exact(Nat.mod_eq_sub_mod (by omega)).symm
theorem rW{zero:List Value} (hz:0 < zero.length):((Array.range (n * zero.length)).map (λi=>zero.toArray[i % zero.toArray.size]!))=(iJ n zero).toArray:=by
 apply Array.ext';apply JG;intro j;simp only[Array.toList_map,Array.toList_range,H9]
 by_cases hj:j < n * zero.length
 .rw[DI,List.getElem?_range hj,MR hj];have hm:j % zero.length < zero.length:=Nat.mod_lt _ hz;simp[hm]
 .rw[Ht (by simp;omega),Ht (by simp[vW];omega)]
section
variable {cx:Cx}{P:Program}{N:Nat}{B:Base}{h0:FH}{s:St}{h:FH}{β:List RV}{w:World}{a:Act}{G:Gd}{o:Oper}{K:St->Prop}
theorem uU(hc:bK P cx.ti) (aj:Sat N B h0 s h β w a) (hg:aJ cx.gd h) (hG:wS s.gl.length G=true) (hd:l7 N o.dst=true){parts:Array (Nat×Operand)} (ho:o.op=.buildSlice t n parts)
 (k:nH cx s G o.dst t n (tl parts) K):gK P N B h0 h w a o (gv s.gl G) K:=by
 unfold nH at k;split at k
 .rename_i el hde;have hu:=bG hc hde (by simp)
  split at k
  .cases k
  rename_i ie hie;have tie:=hc.get hie;split at k
  .cases k
  rename_i sh hsh;split at k
  .cases k
  rename_i ps hps;split at k
  .cases k
  rename_i hsz;rw[aC,A8]at hsz;have hsz1:n * ie.size<=16777216:=qO hsz.1;have hsz2:1<=ie.size:=qO hsz.2;split at k
  .cases k
  rename_i xs hxs;split at k
  .cases k
  rename_i hlen;rw[aC,A8]at hlen;have hl1:sh.size=ie.size:=iC hlen.1;have hl2:xs.length=n * ie.size:=by have:=iC hlen.2;rwa [bC]at this
  split at k
  .rename_i l hl;refine lH aj hG hd k λhgv=>?_
   have htl:(parts.map λ(p:Nat×Operand)=>(p.1,a.eval p.2)).toList=(tl parts).map λp=>(p.1,a.eval p.2):=by cases parts;simp
   rw[Fb]at hxs;obtain⟨zs,g1,g2⟩:=rU (rV aj hg hgv hps) (iq λv hv=>tie.zone v (zJ hv)) hxs
   obtain⟨c1,c2,rfl,q1,q2,q3⟩:=EZ hl g2;have hc2:c2=[]:=by cases c2 with | nil=>rfl | cons _ _=>exact q3.elim
   subst hc2;rw[RH]at g1 g2;have hz0:0 < ie.zero.length:=by rw[tie.qg];omega
   obtain⟨z,hz1,hz2⟩:=vT tie w;have hc0:n * ie.size=0->(iJ n ie.zero).toArray=#[]:=by
    intro h0;have:n=0:=by rcases Nat.mul_eq_zero.1 h0 with h0 | h0<;>omega
    subst this;simp[iJ]
   have hc1:((Array.range (n * ie.size)).map (λi=>z.cells[i % z.cells.size]!))=(iJ n ie.zero).toArray:=by
    rw[hz2,<-tie.qg];exact rW hz0
   refine⟨.slice (some ⟨w.heap.size,0,none⟩) n n,w.alloc (.cells c1.toArray el),.row (.slice (some ⟨w.heap.size,0,none⟩) n n),?_,oZ _ _ _,?_,?_,?_⟩
   .have hbig:¬(n * ie.size > 2 ^ 24):=by omega
    by_cases h0:n * ie.size=0
    .have e0:=hc0 h0;rw[e0]at g1;simp only[execOp,ho,Instr.buildSlice,Sem.run_bind,run_underlying hu,Result.andThen_ok,run_sizeOf tie,hbig,Pv,Sem.run_ite,Sem.run_pure,h0,if_true];rw[htl];rw[show(Array.map (λx=>(#[]:Array Value)[x % (#[]:Array Value).size]!) (Array.range 0))=#[] from by simp]
     rw[g1];simp only[Sem.run_bind,newRow,run_newObj,Result.andThen_ok,Sem.run_pure];rfl
    .simp only[execOp,ho,Instr.buildSlice,Sem.run_bind,run_underlying hu,Result.andThen_ok,run_sizeOf tie,hbig,Pv,Sem.run_ite,Sem.run_pure,h0,hz1];rw[htl,hc1,g1];simp only[Sem.run_bind,newRow,run_newObj,Result.andThen_ok,Sem.run_pure];rfl
   .intro b hb;rw[aY]at hb;simp[aA]at hb;obtain⟨_,rfl⟩:=hb;simp
   .by_cases hn0:n=0
    .exact .inr (.inl ⟨⟨w.heap.size,0,none⟩,by rw[hn0],Xd (by rw[q1,hn0])⟩)
    refine .inr (.inr ⟨w.heap.size,n,c1.toArray,by rw[q1],nG _ _,by omega,⟨by omega,?_⟩,?_,?_⟩)
    .have:n<=n * ie.size:=A78 n (by omega)
     simp only[maxLen];omega
    .have e:=g2.length;rw[hl2]at e;simp only[H9];rw[hl1];omega
    .have e:=g2.length;rw[hl2]at e;rw[q1,hl1,zi (by simp;omega)];exact q2
   .exact⟨⟨_,kL (lI aj) _,rfl⟩,rfl,rfl⟩
  .cases k
 .cases k
end
theorem jl(w:World) (g:Nat) (cs:Array Value):Gb w (w.setRow g cs) (some g):=
 ⟨⟨rfl,rfl,rfl,by simp,λk _ hk=>setRow_other w g k cs λe=>hk (by rw[e])⟩,qm _⟩
theorem eY{i:TI} (k:aK P t i){g o:Nat}{tt:TypeId}{cur:Array Value} (hg:w.heap[g]?=some (.cells cur tt (0,0)))
 (hs:v.cells.size=i.size) (hfit:o+i.size<=cur.size) (h1:∀u∈v.cells.toList,dF u):
 (Instr.storeAt t (.pointer (some ⟨g,o,none⟩)) v).run P w=.ok () (w.setRow g (cur.toList.take o++v.cells.toList++cur.toList.drop (o+i.size)).toArray):=by
 have:=run_storeCells_at P g o tt v.cells.toList 0 cur w hg (by simp;omega) (λu hu=>(h1 u hu).2)
 simp only[Vp,Vb]at this;simp only[Instr.storeAt,Instr.sureAddr,Sem.run_bind,Sem.run_pure,Result.andThen_ok,storeVar,run_sizeOf k,hs,ne_eq,not_true_eq_false,Pv,Sem.run_ite];rw[<-hs];exact this
theorem aP.one{xs:List SC}{ys:List Value} (a:aP (λx y=>dS h β x y/\dF y) xs ys):∀u∈ys,dF u:=by
 induction xs generalizing ys with
 | nil=>cases ys with
   | nil=>intro u hu;simp at hu
   | cons _ _=>exact a.elim
 | cons x xs ih=>cases ys with
   | nil=>exact a.elim
   | cons y ys=>
     intro u hu;rcases ng.1 hu with rfl | hu
     .exact a.1.2
     .exact ih a.2 u hu
abbrev JW(cx:Cx) (s:St) (d:Option Nat) (t:TypeId) (p x:Operand) (K:St->Prop):Prop:=match qx cx.ti t with
 | none=>False
 | some i=>match bJ cx s [] p with
   | some (.one (.c (.own r off)))=>match bJ cx s [] x with
     | some (.one v)=>match eH s.T r with
       | some ([],.blk tt cs)=>match v with
         | .dat sh dd=>match dA (Nat.beq off 0) (dA (Nat.beq (aO cs) i.size) (Nat.beq sh.size i.size)) with
           | true=>K ({ s with T:=dh s.T r ([],.obj tt sh dd) }.put d [] (.one .und))
           | false=>False
         | v=>match oC v with
           | some xs=>match dA (Nat.beq (aO xs) i.size) (Nat.ble (off+i.size) (aO cs)) with
             | true=>K ({ s with T:=dh s.T r ([],.blk tt (VG off xs cs)) }.put d [] (.one .und))
             | false=>False
           | none=>False
       | some ([],.obj tt sh d0)=>match zu sh d0 off i.size v with
         | some dd=>K ({ s with T:=dh s.T r ([],.obj tt sh dd) }.put d [] (.one .und))
         | none=>False
       | _=>False
     | _=>False
   | some (.one (.c (.ku r j sz off)))=>match bJ cx s [] x with
     | some (.one v)=>match eH s.T r with
       | some ([],.row tt sh l)=>match dA (Nat.beq sz sh.size) (dA (Nat.beq off 0) (Nat.beq sh.size i.size)) with
         | true=>match toDat sh v with
           | some dd=>(j < l.length)/\K ({ s with T:=dh s.T r ([],.row tt sh (l.set j dd)) }.put d [] (.one .und))
           | none=>False
         | false=>match Nat.beq sz sh.size with
           | true=>(j < l.length)/\∀e:sh.den,l[j]?=some e->match zu sh e off i.size v with
             | some dd=>K ({ s with T:=dh s.T r ([],.row tt sh (l.set j dd)) }.put d [] (.one .und))
             | none=>False
           | false=>False
       | some ([],.obj tt sh d0)=>match BN sh d0 off j sz i.size v with
         | some p=>(j < p.1)/\K ({ s with T:=dh s.T r ([],.obj tt sh p.2) }.put d [] (.one .und))
         | none=>False
       | _=>False
     | _=>False
   | _=>False
section
variable {cx:Cx}{P:Program}{N:Nat}{B:Base}{h0:FH}{s:St}{h:FH}{β:List RV}{w:World}{a:Act}{o:Oper}{K:St->Prop}
theorem yL{s:St}{x:au}:eff s.gl (dh s.T r ([],x))=(eff s.gl s.T).set r x:=by rw[fV]
theorem qR(aj:Sat N B h0 s h β w a){x:au}:∀p∈dh s.T r ([],x),wS s.gl.length p.1=true:=by
 intro p hp;rw[gJ]at hp;rcases JF hp with hp | hp
 .exact aj.gT p hp
 .subst hp;rfl
theorem rX(aj:Sat N B h0 s h β w a) (hq:quietly o.op=false) (hd:l7 N o.dst=true){g:Nat}{x x':au} (hT:eH s.T r=some ([],x)) (hl:x.live=true) (hu:β[r]?=some u) (hub:u.block=some g){cs:Array Value}
 (hold:Holds h β (w.setRow g cs) x' u) (run:(execOp a.eval o).run P w=.ok .skip (w.setRow g cs)) (k:K ({ s with T:=dh s.T r ([],x') }.put o.dst [] (.one .und))):
 gK P N B h0 h w a o (gv s.gl []) K:=by
 have fZ:=bD hT (show gv s.gl []=true from rfl)
 have ok:OK B h0 (eff s.gl (dh s.T r ([],x'))) h β (w.setRow g cs):=by
  rw[yL];have:=aj.ok.upd (r':=x') (v:=u) fZ hl hu (row:=some g) (jl w g cs) (λk e=>by cases e;exact .inl hub) (λb hb=>.inl hb) (.inl rfl) (by rw[ig hu];exact hold)
  rwa [ig hu]at this
 refine nD aj k rfl hq (.inr ⟨run,rfl⟩) (FH.le.refl h) ((aj.mem ok (FH.le.refl h) (Ext.refl β) (qR aj)).put (dP hd) rfl (λ_=>rfl) λhh=>by cases hh)
theorem PV(hc:bK P cx.ti) (aj:Sat N B h0 s h β w a) (hg:aJ cx.gd h) (hd:l7 N o.dst=true){p x:Operand} (ho:o.op=.store t p x) (k:JW cx s o.dst t p x K):
 gK P N B h0 h w a o (gv s.gl []) K:=by
 have tr:gv s.gl []=true:=rfl;unfold JW at k;split at k
 .cases k
 rename_i i hi;have ti:=hc.get hi;have exec:∀{w':World}{v pv:Value},a.eval x=v->a.eval p=pv->(Instr.storeAt t pv v).run P w=.ok () w'->(execOp a.eval o).run P w=.ok .skip w':=by
  intro w' v pv e1 e2 r;simp only[execOp,ho,e1,e2,Sem.run_bind,r,Result.andThen_ok,Sem.run_pure]
 split at k
 .rename_i r off hp;obtain⟨⟨b,hb,ep⟩,_⟩:=aN aj hg tr hp;split at k
  .rename_i v hv;have cv:=aN aj hg tr hv;split at k
   .rename_i tt cs hT;obtain⟨ys,he,hall⟩:=aj.ok.holds r _ _ (bD hT tr) hb;have hlen:=hall.length;split at k
    .rename_i sh dd;split at k
     .rename_i hz;rw[aC,aC,A8,A8]at hz;have hz1:off=0:=iC hz.1;have hz2:cs.length=i.size:=by have:=iC hz.2.1;rwa [bC]at this
      have hz3:sh.size=i.size:=iC hz.2.2;subst hz1;obtain⟨_,cs',ev,rd⟩:=cv;have hsz:=Rd.size sh rd;have r1:=eY (o:=0) (v:=a.eval x) ti he (by rw[ev];simp[Value.cells];omega) (by simp;omega) (by rw[ev];intro u hu;exact Rd.one sh rd u (by simpa[Value.cells]using hu))
      refine rX aj (by rw[ho];rfl) hd hT rfl hb rfl ?_ (exec rfl ep r1) k
      refine⟨_,setRow_heap w b _ _ tt (0,0) he,?_⟩;simp only[Vk,Xi,Hy];rw[Va (by first | omega | (simp;omega)),RH,ev]
      exact rd
     .cases k
    .split at k
     .rename_i xs hxs;split at k
      .rename_i hz;rw[aC,A8]at hz;have hz1:xs.length=i.size:=by have:=iC hz.1;rwa [bC]at this
       have hz2:off+i.size<=cs.length:=by have:=qO hz.2;rwa [bC]at this
       have hall':=yJ hxs cv;have hl':=hall'.length;simp only[Vb]at hl';have r1:=eY (o:=off) (v:=a.eval x) ti he (by omega) (by simp;omega) hall'.one
       refine rX aj (by rw[ho];rfl) hd hT rfl hb rfl ?_ (exec rfl ep r1) k
       refine⟨_,setRow_heap w b _ _ tt (0,0) he,?_⟩;unfold VG;rw[fU,fU,jP,rM,bC,hz1];simp only[];rw[Dj];exact(hall.take off).cat (hall'.cat (hall.drop _))
      .cases k
     .cases k
   .rename_i tt sh d0 hT;obtain⟨ys,he,rd0⟩:=aj.ok.holds r _ _ (bD hT tr) hb;split at k
    .rename_i dd hdd;obtain⟨cs',ec,e2,e3,e4,e5⟩:=oD sh hdd rd0 cv;have r1:=eY (o:=off) (v:=a.eval x) ti he (by rw[ec];simp;omega) (by simp;omega) (by rw[ec];intro u hu;exact e3 u (by simpa using hu))
     refine rX aj (by rw[ho];rfl) hd hT rfl hb rfl ?_ (exec rfl ep r1) k
     refine⟨_,setRow_heap w b _ _ tt (0,0) he,?_⟩;rw[ec];exact e5
    .cases k
   .cases k
  .cases k
 .rename_i r j sz off hp;obtain⟨⟨v0,g,hb,hgb,ep⟩,_⟩:=aN aj hg tr hp;split at k
  .rename_i v hv;have cv:=aN aj hg tr hv;split at k
   .rename_i tt sh l hT
    -- a store of k cells at a place of the j-th element
    have part:∀{e dd:sh.den},sz=sh.size->l[j]?=some e->(∀{cs:List Value},Rd h sh cs e->Upd h sh cs off i.size (a.eval x) dd) ->
     K ({ s with T:=dh s.T r ([],.row tt sh (l.set j dd)) }.put o.dst [] (.one .und))->gK P N B h0 h w a o (gv s.gl []) K:=by
     intro e dd hz1 hej hu k;have hj:=(eG.1 hej).1;have hold:=aj.ok.holds r _ _ (bD hT tr) hb
     match v0,hold with
     | .row vv,hold=>
       rcases hold with⟨hv0,_⟩ | ⟨_,hv0,_⟩ | ⟨g',cap,cur,hv0,he,q2,q3,q4,q5⟩
       .subst hv0;simp[RV.block,aA]at hgb
       .subst hv0;simp[RV.block,aA]at hgb
       .have hgg:g'=g:=by rw[hv0]at hgb;exact LW ((rH q3.1).symm.trans hgb)
        subst hgg;have hm:(j+1) * sh.size<=l.length * sh.size:=zf _ hj;have hm2:l.length * sh.size<=cap * sh.size:=zf _ q2;rw[yF]at hm;obtain⟨g1,g2⟩:=q5.get (λ_ _=>Rd.size sh) hej
        have gl:=Rd.size sh g1;obtain⟨cs',ec,e2,e3,e4,e5⟩:=hu g1;rw[gl]at e4;have r1:=eY (o:=j * sz+off) (v:=a.eval x) ti he (by rw[ec];simp;omega) (by rw[hz1];omega) (by rw[ec];intro u hu;exact e3 u (by simpa using hu))
        refine rX aj (by rw[ho];rfl) hd hT rfl hb hgb ?_ (exec rfl ep r1) k
        rw[ec,hz1];refine .inr (.inr ⟨g',cap,_,by rw[hv0,xY],setRow_heap w g' _ _ tt (0,0) he,by rw[xY];exact q2,q3,?_,?_⟩)
        .simp only[H9,kT,lZ,zk,Vb];omega
        .rw[xY];show gI (Rd h sh) ((List.take (j * sh.size+off) cur.toList++cs'++List.drop (j * sh.size+off+i.size) cur.toList).take (l.length * sh.size)) (l.set j dd);have e:=gI.set (λ_ _=>Rd.size sh) q5 hj e5
         have lc:cur.toList.length=cap * sh.size:=by simpa using q4
         have key:(List.take (j * sh.size+off) cur.toList++cs'++List.drop (j * sh.size+off+i.size) cur.toList).take (l.length * sh.size) =
          List.take (j * sh.size) (List.take (l.length * sh.size) cur.toList)++(List.take off (List.take sh.size (List.drop (j * sh.size) (List.take (l.length * sh.size) cur.toList)))++cs'++List.drop (off+i.size) (List.take sh.size (List.drop (j * sh.size) (List.take (l.length * sh.size) cur.toList))))++List.drop (j * sh.size+sh.size) (List.take (l.length * sh.size) cur.toList):=by
          apply JG;intro p;simp only[A92,wP,LV,kT,lZ,zk,lc,e2]
          repeat' split
          all_goals first | rfl | omega | (congr 1;omega) | (rw[Ht (by omega)]) | (exfalso;omega) | skip
         rw[key];exact e
    split at k
    .rename_i hz;rw[aC,aC,A8,A8]at hz;have hz1:sz=sh.size:=iC hz.1;have hz2:off=0:=iC hz.2.1;have hz3:sh.size=i.size:=iC hz.2.2;split at k
     .rename_i dd hdd;obtain⟨hj,k⟩:=k;refine part hz1 (kR hj) (λhr=>?_) k
      subst hz2;exact BM hz3 hdd hr cv
     .cases k
    .split at k
     .rename_i hz;have hz1:sz=sh.size:=iC hz;obtain⟨hj,k⟩:=k;have k:=k _ (kR hj);split at k
      .rename_i dd hdd;exact part hz1 (kR hj) (λhr=>oD sh hdd hr cv) k
      .cases k
     .cases k
   .rename_i tt sh d0 hT;split at k
    .rename_i p hp0;obtain⟨hj,k⟩:=k;have hold:=aj.ok.holds r _ _ (bD hT tr) hb
     match v0,hold with
     | .blk b,⟨ys,he,rd0⟩=>
       have hgg:b=g:=by simpa[RV.block]using hgb
       subst hgg;obtain⟨cs',ec,e2,e3,e4,e5⟩:=JL sh hp0 rd0 cv hj;have r1:=eY (o:=j * sz+off) (v:=a.eval x) ti he (by rw[ec];simp;omega) (by simp;omega) (by rw[ec];intro u hu;exact e3 u (by simpa using hu))
       refine rX aj (by rw[ho];rfl) hd hT rfl hb hgb ?_ (exec rfl ep r1) k
       refine⟨_,setRow_heap w b _ _ tt (0,0) he,?_⟩;rw[ec];exact e5
    .cases k
   .cases k
  .cases k
 .cases k
end
def oH(n bytes:Nat):Prop:=n * bytes<=140737488355328
abbrev D8(i:Nat) (x:SC):SC:=match SC.free i x with
 | true=>x
 | false=>.junk
abbrev jkV(i:Nat):SV->SV
 | .c x=>.c (D8 i x)
 | .agg xs=>.agg (eU (D8 i) xs)
 | v=>v
abbrev jkE(i:Nat):bg->bg
 | .one v=>.one (jkV i v)
 | .iO vs=>.iO (eU (jkV i) vs)
abbrev jkR(i:Nat):au->au
 | .blk t cs=>.blk t (eU (D8 i) cs)
 | r=>r
abbrev uV(i:Nat):List (Nat×Gd×bg)->List (Nat×Gd×bg)
 | []=>[]
 | (k,g,e) :: l=>(k,g,jkE i e) :: uV i l
abbrev MS(i:Nat):List (Gd×au)->List (Gd×au)
 | []=>[]
 | (g,r) :: l=>(g,jkR i r) :: MS i l
theorem dS.jk{x:SC}{y:Value} (v:RV) (c:dS h β x y):dS h (β.set i v) (D8 i x) y:=by
 unfold D8;split
 .rename_i hf;exact c.set hf
 .trivial
theorem dS.jk0{x:SC}{y:Value} (c:dS h β x y):dS h β (D8 i x) y:=by
 unfold D8;split
 .exact c
 .trivial
theorem aP.jk{h:FH}{β:List RV}{i:Nat} (v:RV):∀{xs:List SC}{ys:List Value},aP (λx y=>dS h β x y/\dF y) xs ys->aP (λx y=>dS h (β.set i v) x y/\dF y) (eU (D8 i) xs) ys
 | [],[],_=>trivial
 | _ :: _,_ :: _,⟨a,b⟩=>⟨⟨a.1.jk v,a.2⟩,aP.jk v b⟩
theorem aP.jk0{h:FH}{β:List RV}{i:Nat}:∀{xs:List SC}{ys:List Value},aP (λx y=>dS h β x y/\dF y) xs ys->aP (λx y=>dS h β x y/\dF y) (eU (D8 i) xs) ys
 | [],[],_=>trivial
 | _ :: _,_ :: _,⟨a,b⟩=>⟨⟨a.1.jk0,a.2⟩,aP.jk0 b⟩
theorem cZ.jk{h:FH}{β:List RV}{i:Nat} (v:RV):∀{x:SV}{y:Value},cZ h β x y->cZ h (β.set i v) (jkV i x) y
 | .c _,_,c=>⟨c.1.jk v,c.2⟩
 | .agg _,_,⟨ys,e,a⟩=>⟨ys,e,a.jk v⟩
 | .dat _ _,_,c=>c
 | .und,_,c=>c
theorem jX.jk{h:FH}{β:List RV}{i:Nat} (v:RV):∀{x:bg}{y:Value},jX h β x y->jX h (β.set i v) (jkE i x) y
 | .one _,_,c=>cZ.jk v c
 | .iO _,_,⟨ys,e,a⟩=>⟨ys,e,go a⟩
where
 go:∀{xs:List SV}{ys:List Value},aP (cZ h β) xs ys->aP (cZ h (β.set i v)) (eU (jkV i) xs) ys
  | [],[],_=>trivial
  | _ :: _,_ :: _,⟨a,b⟩=>⟨a.jk v,go b⟩
theorem Holds.jk0{h:FH}{β:List RV}{w:World}{i:Nat}:∀{r:au}{v:RV},Holds h β w r v->Holds h β w (jkR i r) v
 | .blk _ _,.blk _,⟨ys,e,a⟩=>⟨ys,e,a.jk0⟩
 | .row _ _ _,.row _,e=>e
 | .obj _ _ _,.blk _,e=>e
 | .deep _ _ _ _ _ _ _ _,.deep _ _,e=>e
 | .mp _ _ _,.row _,e=>e
 | .O5 _ _ _ _,.deep _ _,e=>e
 | .it _ _ _ _,.blk _,e=>e
 | .L9 _ _ _ _,.row _,e=>e
 | .IJ _ _ _ _,.deep _ _,e=>e
 | .gone,_,_=>trivial
theorem X4(i:Nat) (x:SC):SC.free i (D8 i x)=true:=by
 unfold D8;split
 .assumption
 .rfl
theorem Fe(i:Nat):∀xs:List SC,wQ i (eU (D8 i) xs)=true
 | []=>rfl
 | x :: l=>by simp only[eU,wQ,X4,Fe i l,Bool.and_self]
theorem MV(i:Nat) (r:au):au.free i (jkR i r)=true:=by
 cases r with
 | blk t cs=>exact Fe i cs
 | _=>rfl
theorem vX(i:Nat) (r:au):(jkR i r).live=r.live:=by cases r<;>rfl
theorem Fg(i:Nat):∀{l:List (Nat×Gd×bg)}{t:Nat}{G:Gd}{e:bg},iG (uV i l) t=some (G,e)->∃e0,iG l t=some (G,e0)/\e=jkE i e0
 | [],_,_,_,h=>by simp[uV,iG]at h
 | (k,g,e0) :: l,t,G,e,h=>by
   simp only[uV]at h;rw[aX]at h ⊢
   split at h
   .rename_i hk;cases h;exact⟨e0,by rw[if_pos hk],rfl⟩
   .rename_i hk;rw[if_neg hk];exact Fg i h
theorem JX(i:Nat):∀{l:List (Nat×Gd×bg)}{t:Nat}{G:Gd}{e:bg},iG l t=some (G,e)->iG (uV i l) t=some (G,jkE i e)
 | [],_,_,_,h=>by simp[iG]at h
 | (k,g,e0) :: l,t,G,e,h=>by
   simp only[uV];rw[aX]at h ⊢
   split at h
   .rename_i hk;cases h;rw[if_pos hk]
   .rename_i hk;rw[if_neg hk];exact JX i h
theorem PW(gl:List Bool) (i:Nat):∀{T:List (Gd×au)},eff gl (MS i T)=(eff gl T).map (jkR i)
 | []=>rfl
 | (g,r) :: l=>by
   simp only[MS,eff,Vd,PW gl i (T:=l)]
   congr 1
   cases gv gl g<;>rfl
section
variable {cx:Cx}{P:Program}{N:Nat}{B:Base}{h0:FH}{s:St}{h:FH}{β:List RV}{w:World}{a:Act}{o:Oper}{K:St->Prop}
theorem OK.jk(ok:OK B h0 T h β w) (i:Nat):OK B h0 (T.map (jkR i)) h β w where
 below:=ok.below
 dr:=ok.dr
 len:=by simp[ok.len]
 holds:=by
  intro j r v e e';rw[DI]at e;cases hj:T[j]? with
  | none=>rw[hj]at e;cases e
  | some r0=>rw[hj]at e;cases e;exact(ok.holds j r0 v hj e').jk0
 own:=by
  intro j r v b e hl e' hb;rw[DI]at e;cases hj:T[j]? with
  | none=>rw[hj]at e;cases e
  | some r0=>rw[hj]at e;cases e;exact ok.own j r0 v b hj (by rw[<-vX i];exact hl) e' hb
 inj:=by
  intro j k r1 r2 u v b e1 l1 e2 l2 e3 e4 b1 b2;rw[DI]at e1 e2;cases hj:T[j]? with
  | none=>rw[hj]at e1;cases e1
  | some q1=>
    cases hk:T[k]? with
    | none=>rw[hk]at e2;cases e2
    | some q2=>
      rw[hj]at e1;rw[hk]at e2;cases e1;cases e2;exact ok.inj j k q1 q2 u v b hj (by rw[<-vX i];exact l1) hk (by rw[<-vX i];exact l2) e3 e4 b1 b2
 hle:=ok.hle
 hw:=ok.hw
 hg:=ok.hg
 kn:=ok.kn
theorem VL(aj:Sat N B h0 s h β w a) (hq:quietly o.op=false) (hd:l7 N o.dst=true){x x':au}{v:RV} (hT:eH s.T r=some ([],x)) (hl:x.live=true) (hu:β[r]?=some u){y:Value}
 (hg:Gb w w' u.block) (hv:∀b,v.block=some b->u.block=some b\/(w.heap.size<=b/\b < w'.heap.size)) (hvs:∀b,¬v.sub b:=by exact λ_ h=>h) (hold:Holds h (β.set r v) w' x' v)
 (run:(execOp a.eval o).run P w=.ok (.value y) w'){e:bg} (he:jX h (β.set r v) e y)
 (k:K ({ s with T:=dh (MS r s.T) r ([],x'),env:=uV r s.env }.put o.dst [] e)):
 gK P N B h0 h w a o (gv s.gl []) K:=by
 have tr:gv s.gl []=true:=rfl;have fZ:=bD hT tr;have okj:=aj.ok.jk r;have hTj:((eff s.gl s.T).map (jkR r))[r]?=some (jkR r x):=by rw[DI,fZ];rfl
 have ok:OK B h0 (eff s.gl (dh (MS r s.T) r ([],x'))) h (β.set r v) w':=by
  rw[fV,PW];refine okj.upd hTj (by rw[vX];exact hl) hu hg (λk e=>.inl e) (λb hb=>hb.elim (λq=>(hv b q).imp .inl id) λq=>(hvs b q).elim) (.inr λj rj _ ej=>?_) hold
  rw[DI]at ej;cases hj:(eff s.gl s.T)[j]? with
  | none=>rw[hj]at ej;cases ej
  | some q=>rw[hj]at ej;cases ej;exact MV r q
 have aS:Sat N B h0 { s with T:=dh (MS r s.T) r ([],x'),env:=uV r s.env } h (β.set r v) w' a:=by
  refine⟨ok,?_,?_,aj.defers,aj.sz,?_,?_⟩
  .intro t G e ht;obtain⟨e0,h1,rfl⟩:=Fg r ht;obtain⟨z,q1,q2,q3⟩:=aj.env t G e0 h1;exact⟨z,q1,λhG=>(q2 hG).jk v,q3⟩
  .intro d i hi;obtain⟨G,b,q1,q2⟩:=aj.gs d i hi;exact⟨G,b,JX r q1,q2⟩
  .intro t G e ht;obtain⟨e0,h1,rfl⟩:=Fg r ht;exact aj.gb t G e0 h1
  .intro p hp;simp only at hp;rw[gJ]at hp;rcases JF hp with hp | hp
   .have:∀{l:List (Gd×au)},p∈MS r l->∃q∈l,q.1=p.1:=by
     intro l
     induction l with
     | nil=>intro hh;simp[MS]at hh
     | cons q l ih=>
       obtain⟨g,q⟩:=q;intro hh;simp only[MS,ng]at hh;rcases hh with rfl | hh
       .exact⟨(g,q),by simp,rfl⟩
       .obtain⟨q',h1,h2⟩:=ih hh;exact⟨q',by simp[h1],h2⟩
    obtain⟨q,h1,h2⟩:=this hp;rw[<-h2];exact aj.gT q h1
   .subst hp;rfl
 exact nD aj k tr hq (.inl run) (FH.le.refl h) (aS.put (dP hd) rfl (λ_=>he) λhh=>by cases hh)
end
def X5(h:FH) (w:World) (sh:Sh) (v:Value) (l:List sh.den):Prop:=
 (v=.slice none 0 0/\l=[])\/(∃a c,v=.slice (some a) 0 c/\l=[])\/∃b o c cs,v=.slice (some ⟨b,o,none⟩) l.length c/\gI (Rd h sh) cs l/\∀j u,cs[j]?=some u->w.cell? ⟨b,o+j,none⟩=some u
def Sz(h:FH) (w:World) (t:TypeId) (sh:Sh) (v:Value) (l:List sh.den):Prop:=Holds h [] w (.row t sh l) (.row v)
theorem vY{ty:TypeId}{i:TI}{sh:Sh}{sv:Value}{l l2:List sh.den} (hu:P.underlying t=some (.slice el)) (k:aK P el i) (hs:sh.size=i.size)
 (hb1:1<=i.bytes) (hs1:1<=i.size) (row:Sz h w el sh v l) (src:X5 h w sh sv l2) (room:oH (l.length+l2.length) i.bytes)
 (hw:∀b o u,h b o=some u->vis w b o=some u):
 ∃v' w',(Builtin.append_ #[t,t] ty #[v,sv]).run P w=.ok v' w'/\Gb w w' (aA v)/\(∀b,aA v'=some b->aA v=some b\/(w.heap.size<=b/\b < w'.heap.size))/\Sz h w' el sh v' (l++l2):=by
 obtain⟨inf,z,i1,i2,i3,i4,i5⟩:=k.info;unfold oH at room;have hn:l.length+l2.length<=140737488355328:=qP (A78 _ hb1) room;have X6:z.cells.size=i.size:=by rw[i5];simpa using k.qg
 rcases src with⟨rfl,rfl⟩ | ⟨sa,sc,rfl,rfl⟩ | ⟨b,o,c,cs,rfl,rd,at_⟩
 .refine⟨v,w,?_,bW _ _,λb hb=>.inl hb,by rw[RH];exact row⟩
  rcases row with⟨rfl,rfl⟩ | ⟨_,rfl,rfl⟩ | ⟨g,cap,cur,rfl,q1,q2,q3,q4,q5⟩
  .simp[Builtin.append_,run_underlying hu,sizeOf,typeInfo,i1,Builtin.lenOf,Builtin.firstCells]
  .simp[Builtin.append_,run_underlying hu,sizeOf,typeInfo,i1,Builtin.lenOf,Builtin.firstCells,storeCells]
  .simp[Builtin.append_,run_underlying hu,sizeOf,typeInfo,i1,Builtin.lenOf,Builtin.firstCells,q2,storeCells]
 .refine⟨v,w,?_,bW _ _,λb hb=>.inl hb,by rw[RH];exact row⟩
  rcases row with⟨rfl,rfl⟩ | ⟨_,rfl,rfl⟩ | ⟨g,cap,cur,rfl,q1,q2,q3,q4,q5⟩
  .simp[Builtin.append_,run_underlying hu,sizeOf,typeInfo,i1,Builtin.lenOf,Builtin.firstCells,loadCells,loadCellsFrom]
  .simp[Builtin.append_,run_underlying hu,sizeOf,typeInfo,i1,Builtin.lenOf,Builtin.firstCells,storeCells,loadCells,loadCellsFrom]
  .simp[Builtin.append_,run_underlying hu,sizeOf,typeInfo,i1,Builtin.lenOf,Builtin.firstCells,q2,storeCells,loadCells,loadCellsFrom]
 .have hcs:cs.length=l2.length * inf.size:=by rw[gI.size (λ_ _=>Rd.size sh) rd,i2,hs]
  have hnews:∀j u,cs[j]?=some u->w.cell? ((⟨b,o,none⟩:Addr).add j)=some u:=λj u e=>by rw[add_lit];exact at_ j u e
  have h1:∀u∈cs,u.oneCell'=true:=λu hu'=>(gI.all (λ_ _ r=>Rd.one sh r) rd u hu').2
  rcases row with⟨rfl,rfl⟩ | ⟨ra,rfl,rfl⟩ | ⟨g,cap,cur,rfl,q1,q2,q3,q4,q5⟩
  .by_cases hm:l2.length=0
   .have:l2=[]:=Xd hm;subst this;refine⟨.slice none 0 0,w,?_,bW _ _,λb hb=>.inl hb,.inl ⟨rfl,rfl⟩⟩
    simp[Builtin.append_,run_underlying hu,sizeOf,typeInfo,i1,Builtin.lenOf,Builtin.firstCells,loadCells,loadCellsFrom]
   .have r:=run_append_nil (P:=P) w t ty el inf z hu i1 i4 ⟨b,o,none⟩ l2.length c cs hcs hnews (by omega) (by simp at hn;omega) (by rw[i3];simp at room;omega)
    have hge:=grownCap_ge w l2.length 0 el;refine⟨_,_,r,⟨⟨rfl,rfl,rfl,by simp,λk hk _=>(World.grownBy_alloc w.drew _ none).block k hk (by simp)⟩,BI _⟩,?_,?_⟩
    .intro b' hb';simp[aA]at hb';obtain⟨_,rfl⟩:=hb';right;simp
    .refine .inr (.inr ⟨w.heap.size,_,_,rfl,heap_alloc_new w.drew _,by simpa using hge,⟨by omega,grownCap_le_maxLen w l2.length 0 el (by simp only[maxLen];simp at hn;omega)⟩,?_,?_⟩)
     .simp only[A86,H9,size_zeroCells,X6,hcs,i2,hs,<-LY]
      congr 1;omega
     .simp only[A97,Xi];rw[show l2.length * sh.size=cs.length by rw[hcs,i2,hs],Xt]
      exact rd
  .by_cases hm:l2.length=0
   .have:l2=[]:=Xd hm;subst this;refine⟨.slice (some ra) 0 0,w,?_,bW _ _,λb hb=>.inl hb,.inr (.inl ⟨ra,rfl,rfl⟩)⟩
    simp[Builtin.append_,run_underlying hu,sizeOf,typeInfo,i1,Builtin.lenOf,Builtin.firstCells,storeCells,loadCells,loadCellsFrom]
   .have r:=run_append_grow (P:=P) w t ty el inf z hu i1 i4 ra 0 0 [] (by simp) (λj u e=>by simp at e) ⟨b,o,none⟩ l2.length c cs hcs hnews (by omega) (by simp at hn;omega) (growslice_fits (by omega) (by rw[i3];simpa using room))
    rw[Hy]at r;have hge:=grownCap_ge w l2.length 0 el;refine⟨_,_,r,⟨⟨rfl,rfl,rfl,by simp,λk hk _=>(World.grownBy_alloc w.drew _ none).block k hk (by simp)⟩,BI _⟩,?_,?_⟩
    .intro b' hb';simp[aA]at hb';obtain⟨_,rfl⟩:=hb';right;simp
    .refine .inr (.inr ⟨w.heap.size,_,_,rfl,heap_alloc_new w.drew _,by simpa using hge,⟨by omega,grownCap_le_maxLen w l2.length 0 el (by simp only[maxLen];simp at hn;omega)⟩,?_,?_⟩)
     .simp only[A86,H9,size_zeroCells,X6,Xi,hcs,i2,hs,Hy,Pg,<-LY]
      congr 1;omega
     .simp only[A97,Xi];rw[show l2.length * sh.size=cs.length by rw[hcs,i2,hs],Xt]
      exact rd
  .by_cases hroom:l.length+l2.length<=cap
   .have hfit:l.length * inf.size+cs.length<=cur.size:=by rw[hcs,q4,i2,hs,<-LY];exact zf _ hroom
    have r:=run_append_room (P:=P) w t ty el inf hu i1 g l.length cap cur q1 ⟨b,o,none⟩ l2.length c cs hcs hnews h1 hroom hfit;refine⟨_,_,r,by rw[aV q3.1];exact jl w g _,λb' hb'=>.inl (by rw[aV q3.1]at hb' ⊢;exact hb'),.inr (.inr ⟨g,cap,_,by rw[kT],setRow_heap w g cur _ el _ q1,by rw[kT];exact hroom,q3,?_,?_⟩)⟩
    .simp only[H9,kT,lZ,zk,Vb];omega
    .have e1:(List.take (l.length * sh.size) cur.toList++cs).length=(l++l2).length * sh.size:=by
      rw[kT,kT,LY,hcs,i2,gI.size (λ_ _=>Rd.size sh) q5,hs]
     show gI (Rd h sh) ((List.take (l.length * inf.size) cur.toList++cs++List.drop (l.length * inf.size+cs.length) cur.toList).take ((l++l2).length * sh.size)) (l++l2);rw[i2,<-hs,<-e1,Xt];exact q5.append rd
   .have lsz:=gI.size (λ_ _=>Rd.size sh) q5
    have hol:(cur.toList.take (l.length * sh.size)).length=l.length * inf.size:=by rw[lsz,i2,hs]
    have holds:∀j u,(cur.toList.take (l.length * sh.size))[j]?=some u->w.cell? ((⟨g,0,none⟩:Addr).add j)=some u:=by
     intro j u e;rw[add_lit,Hy,cell_of_row w g j cur el (0,0) q1];rw[wP]at e;split at e
     .simpa using e
     .cases e
    have r:=run_append_grow (P:=P) w t ty el inf z hu i1 i4 ⟨g,0,none⟩ l.length cap _ hol holds ⟨b,o,none⟩ l2.length c cs hcs hnews (by omega) (by omega) (growslice_fits (by omega) (by rw[i3];exact room))
    have hge:=grownCap_ge w (l.length+l2.length) cap el;refine⟨_,_,r,⟨⟨rfl,rfl,rfl,by simp,λk hk _=>(World.grownBy_alloc w.drew _ none).block k hk (by simp)⟩,BI _⟩,?_,?_⟩
    .intro b' hb';simp[aA]at hb';obtain⟨_,rfl⟩:=hb';right;simp
    .refine .inr (.inr ⟨w.heap.size,_,_,by rw[kT],heap_alloc_new w.drew _,by rw[kT];exact hge,⟨by omega,grownCap_le_maxLen w _ cap el (by simp only[maxLen];omega)⟩,?_,?_⟩)
     .have ajb:(cur.toList.take (l.length * i.size)).length=l.length * i.size:=by rw[<-hs];exact lsz
      simp only[A86,H9,size_zeroCells,X6,hcs,i2,hs,ajb,<-LY]
      congr 1
      omega
     .simp only[A97,Dj];rw[<-Dj,show(l++l2).length * sh.size=(List.take (l.length * sh.size) cur.toList++cs).length by rw[kT,kT,LY,hcs,lsz,i2,hs],Xt]
      exact q5.append rd
abbrev iT(cx:Cx) (t:TypeId) (K:TypeId->TI->Sh->Prop):Prop:=match descOf cx t with
 | .slice el=>match qx cx.ti el with
   | none=>False
   | some ie=>match ie.iQ with
     | none=>False
     | some sh=>match dA (Nat.beq sh.size ie.size) (dA (Nat.ble 1 ie.bytes) (Nat.ble 1 ie.size)) with
       | true=>K el ie sh
       | false=>False
 | _=>False
abbrev PX(s:St) (sh:Sh) (v:SV):Option (List sh.den):=match v with
 | .c (.sl o9 l2)=>jJ (.sl o9) l2 (.sl sh)
 | .c (.v (.slice none 0 0))=>some []
 | .c (.row r)=>match eH s.T r with
   | some ([],.row _ o9 l2)=>jJ (.sl o9) l2 (.sl sh)
   | _=>none
 | _=>none
abbrev wY(cx:Cx) (s:St) (d:Option Nat) (t:TypeId) (x y:Operand) (K:St->Prop):Prop:=iT cx t λel ie sh=>
 match bJ cx s [] y with
 | some (.one v2)=>match PX s sh v2 with
   | none=>False
   | some l2=>match bJ cx s [] x with
     | some (.one (.c (.row r)))=>match eH s.T r with
       | some ([],.row tt eX l1)=>match Nat.beq tt el with
         | true=>match jJ (.sl eX) l1 (.sl sh) with
           | some l=>oH (l.length+l2.length) ie.bytes/\K ({ s with T:=dh (MS r s.T) r ([],.row el sh (l++l2)),env:=uV r s.env }.put d [] (.one (.c (.row r))))
           | none=>False
         | false=>False
       | _=>False
     | some (.one (.c (.v (.slice none 0 0))))=>oH l2.length ie.bytes/\K ({ s with T:=snoc s.T ([],.row el sh l2) }.put d [] (.one (.c (.row (aO s.T)))))
     | _=>False
 | _=>False
section
variable {cx:Cx}{P:Program}{N:Nat}{B:Base}{h0:FH}{s:St}{h:FH}{β:List RV}{w:World}{a:Act}{o:Oper}{K:St->Prop}
theorem pq{eX sh:Sh}{l1:List eX.den}{l:List sh.den} (e:jJ (.sl eX) l1 (.sl sh)=some l):∃e':eX=sh,(e'▸l1:List sh.den)=l:=by
 obtain⟨e1,e2⟩:=kJ e;cases e1;exact⟨rfl,e2⟩
theorem D9(aj:Sat N B h0 s h β w a){sh:Sh}{v:SV}{l:List sh.den}{y:Value} (e:PX s sh v=some l) (c:cZ h β v y):X5 h w sh y l:=by
 unfold PX at e;split at e
 .rename_i o9 l2;obtain⟨e1,e2⟩:=pq e;subst e1;simp only at e2;subst e2;rcases c.1 with⟨e1,e2⟩ | ⟨ad,cap,e1,e2,_⟩ | ⟨b,off,cap,e1,q1,q2,cs,rd,at_⟩
  .exact .inl ⟨e1,e2⟩
  .exact .inr (.inl ⟨ad,cap,e1,e2⟩)
  .exact .inr (.inr ⟨b,off,cap,cs,e1,rd,λj u hj=>EI (aj.ok.hw _ _ _ (at_ j u hj)) (gI.all (λ_ _=>Rd.one _) rd u (iM hj)).2⟩)
 .cases e;exact .inl ⟨c.1.1,rfl⟩
 .rename_i r;split at e
  .rename_i tt o9 l2 hT;obtain⟨e1,e2⟩:=pq e;subst e1;simp only at e2;subst e2;rcases aj.ok.holds r _ _ (bD hT rfl) (aj.ok.row_of (bD hT rfl) c.1) with⟨e1,e2⟩ | ⟨ra,e1,e2⟩ | ⟨g,cap,cur,e1,q1,q2,q3,q4,rd⟩
   .exact .inl ⟨e1,e2⟩
   .exact .inr (.inl ⟨ra,0,e1,e2⟩)
   .refine .inr (.inr ⟨g,0,cap,_,e1,rd,λj u hj=>?_⟩)
    rw[Hy,cell_of_row w g j cur tt (0,0) q1];rw[wP]at hj;split at hj
    .simpa using hj
    .cases hj
  .cases e
 .cases e
theorem Dp(hc:bK P cx.ti) (aj:Sat N B h0 s h β w a) (hg:aJ cx.gd h) (hd:l7 N o.dst=true){x:Operand} (ho:o.op=.call c) (bU:c.callee=.builtin .append) (ha:c.args=#[x,y]) (ht:c.argTypes=#[t,t])
 (k:wY cx s o.dst t x y K):gK P N B h0 h w a o (gv s.gl []) K:=by
 have tr:gv s.gl []=true:=rfl;unfold wY iT at k;split at k
 .rename_i el hde;have hu:=bG hc hde (by simp)
  split at k
  .cases k
  rename_i ie hie;have tie:=hc.get hie;split at k
  .cases k
  rename_i sh hsh;split at k
  .rename_i hz;rw[aC,aC,A8,A8]at hz;have hz1:sh.size=ie.size:=iC hz.1;have hz2:1<=ie.bytes:=qO hz.2.1;have hz3:1<=ie.size:=qO hz.2.2;split at k
   .rename_i v2 hv2;have c2:=aN aj hg tr hv2;split at k
    .cases k
    rename_i l2 hl2;have src:=D9 aj hl2 c2;have exec:∀{u u':Value}{w':World},a.eval x=u->(Builtin.append_ #[t,t] o.type #[u,a.eval y]).run P w=.ok u' w'->(execOp a.eval o).run P w=.ok (.value u') w':=by
     intro u u' w' e r;simp[execOp,ho,resolve,bU,ha,ht,invoke,builtin,e,r]
    split at k
    .rename_i r hr;have cr:=aN aj hg tr hr;split at k
     .rename_i tt eX l1 hT;split at k
      .rename_i htt;have htt:tt=el:=iC htt;subst htt;split at k
       .rename_i l hl;obtain⟨e1,e2⟩:=pq hl;subst e1;simp only at e2;subst e2;have cr1:=aj.ok.row_of (bD hT tr) cr.1;have row:Sz h w tt eX (a.eval x) l1:=aj.ok.holds r _ _ (bD hT tr) cr1;obtain⟨v',w',r1,r2,r3,r4⟩:=vY (ty:=o.type) hu tie hz1 hz2 hz3 row src k.1 aj.ok.hw;have gZ:r < β.length:=(eG.1 cr1).1;refine VL aj (by rw[ho];simp only[quietly,bU]) hd (v:=.row v') hT rfl cr1 r2 r3 (hold:=show Holds h (β.set r (.row v')) w' (.row tt eX (l1++l2)) (.row v') from r4) (run:=exec rfl r1) (he:=?_) (k:=k.2)
        refine⟨?_,?_⟩
        .refine⟨.row v',?_,rfl⟩;rw[qc gZ]
        .rcases r4 with⟨rfl,_⟩ | ⟨_,rfl,_⟩ | ⟨g,cap,cur,rfl,_⟩<;>exact⟨rfl,rfl⟩
       .cases k
      .cases k
     .cases k
    .rename_i hx;have IX:=aN aj hg tr hx;obtain⟨v',w',r1,r2,r3,r4⟩:=vY (ty:=o.type) (l:=[]) hu tie hz1 hz2 hz3 (.inl ⟨IX.1.1,rfl⟩) src (by simpa using k.1) aj.ok.hw
     refine lH aj rfl hd k.2 λ_=>⟨v',w',.row v',exec rfl r1,?_,?_,?_,?_⟩
     .rw[IX.1.1]at r2;exact r2
     .intro b hb;rcases r3 b (aY.1 hb) with hh | hh
      .rw[IX.1.1]at hh;cases hh
      .exact hh
     .exact r4
     .refine⟨⟨_,kL (lI aj) _,rfl⟩,?_⟩;rcases r4 with⟨rfl,_⟩ | ⟨_,rfl,_⟩ | ⟨g,cap,cur,rfl,_⟩<;>exact⟨rfl,rfl⟩
    .cases k
   .cases k
  .cases k
 .cases k
end
abbrev SA(cx:Cx) (s:St) (G:Gd) (d:Option Nat) (t:TypeId) (ln cp:Operand) (K:St->Prop):Prop:=iT cx t λel ie sh=>
 match bJ cx s G ln with
 | some (.one (.c (.v (.int _ n))))=>match bJ cx s G cp with
   | some (.one (.c (.v (.int _ c))))=>side s.gl G (0<=n/\n<=c/\oH c.toNat ie.bytes)/\K ({ s with T:=snoc s.T (G,.row el sh (List.replicate n.toNat (rQ sh))) }.put d G (.one (.c (.row (aO s.T)))))
   | _=>False
 | _=>False
theorem JY{α:Type}{R:List Value->α->Prop}{cs:List Value}{d:α} (r:R cs d):∀n:Nat,gI R (iJ n cs) (List.replicate n d)
 | 0=>rfl
 | n+1=>⟨cs,iJ n cs,by simp only[iJ,fU],r,JY r n⟩
theorem BU{l:List Value}:∀{n m:Nat},n<=m->(iJ m l).take (n * l.length)=iJ n l
 | 0,m,_=>by simp[iJ]
 | n+1,0,h=>by omega
 | n+1,m+1,h=>by
   simp only[iJ,fU];rw[yF,XC,adC,BU (by omega)]
section
variable {cx:Cx}{P:Program}{N:Nat}{B:Base}{h0:FH}{s:St}{h:FH}{β:List RV}{w:World}{a:Act}{G:Gd}{o:Oper}{K:St->Prop}
theorem VN(hc:bK P cx.ti) (aj:Sat N B h0 s h β w a) (hg:aJ cx.gd h) (hG:wS s.gl.length G=true) (hd:l7 N o.dst=true){x:Operand} (ho:o.op=.makeSlice t x y)
 (k:SA cx s G o.dst t x y K):gK P N B h0 h w a o (gv s.gl G) K:=by
 unfold SA iT at k;split at k
 .rename_i el hde;have hu:=bG hc hde (by simp)
  split at k
  .cases k
  rename_i ie hie;have tie:=hc.get hie;split at k
  .cases k
  rename_i sh hsh;split at k
  .rename_i hz;rw[aC,aC,A8,A8]at hz;have hz1:sh.size=ie.size:=iC hz.1;have hz2:1<=ie.bytes:=qO hz.2.1;have hz3:1<=ie.size:=qO hz.2.2;split at k
   .rename_i ik n hn;split at k
    .rename_i ik' c hcp;refine lH aj hG hd k.2 λhgv=>?_
     obtain⟨s1,s2,s3⟩:=fC k.1 hgv;have e1:a.eval x=.int ik n:=(aN aj hg hgv hn).1.1;have e2:a.eval y=.int ik' c:=(aN aj hg hgv hcp).1.1;obtain⟨inf,z,i1,i2,i3,i4,i5⟩:=tie.info;unfold oH at s3;have hcb:c.toNat<=140737488355328:=qP (A78 _ hz2) s3;have hb:(inf.bytes:Int) * c<=281474976710656:=by
      rw[i3];have:((c.toNat * ie.bytes:Nat):Int)<=140737488355328:=by omega
      rw[Int.natCast_mul,Int.toNat_of_nonneg (by omega),Int.mul_comm]at this
      omega
     have r:=run_make (P:=P) w t el inf z hu i1 i4 ik ik' n c s1 s2 hb (by omega)
     have X7:madeCells z.cells (c.toNat * inf.size)=(iJ c.toNat ie.zero).toArray:=by
      unfold madeCells;rw[i5,i2,<-tie.qg];exact rW (by rw[tie.qg];omega)
     rw[X7]at r;refine⟨.slice (some ⟨w.heap.size,0,none⟩) n.toNat c.toNat,w.alloc (.cells (iJ c.toNat ie.zero).toArray el),.row (.slice (some ⟨w.heap.size,0,none⟩) n.toNat c.toNat),?_,oZ _ _ _,?_,?_,?_⟩
     .simp only[execOp,ho,e1,e2,Sem.run_bind,r,Result.andThen_ok,Sem.run_pure]
     .intro b hb';rw[aY]at hb';simp[aA]at hb';obtain⟨_,rfl⟩:=hb';simp
     .by_cases hc0:c.toNat=0
      .have hn0:n.toNat=0:=by omega
       exact .inr (.inl ⟨⟨w.heap.size,0,none⟩,by rw[hc0,hn0],by rw[hn0];rfl⟩)
      refine .inr (.inr ⟨w.heap.size,c.toNat,_,by rw[LU],nG _ _,by rw[LU];omega,⟨by omega,by simp only[maxLen];omega⟩,?_,?_⟩)
      .simp only[H9,vW,tie.qg,hz1]
      .rw[LU];show gI (Rd h sh) ((iJ c.toNat ie.zero).take (n.toNat * sh.size)) _;rw[hz1,<-tie.qg,BU (by omega)]
       exact JY (zH (tie.XM sh hsh).1) _
     .exact⟨⟨_,kL (lI aj) _,rfl⟩,rfl,rfl⟩
    .cases k
   .cases k
  .cases k
 .cases k
end
abbrev fA:(ss:List Sh)->bT ss->List SV
 | [],_=>[]
 | s :: l,d=>iH s d.1 :: fA l d.2
abbrev zK:(ss:List Sh)->List SV->Option (bT ss)
 | [],vs=>match vs with
   | []=>some ()
   | _=>none
 | s :: l,vs=>match vs with
   | v :: r=>match toDat s v with
     | some d=>match zK l r with
       | some e=>some (d,e)
       | none=>none
     | none=>none
   | _=>none
theorem zL{h:FH}{β:List RV}:∀{ss:List Sh}{vs:List SV}{ys:List Value}{d:bT ss},zK ss vs=some d->aP (cZ h β) vs ys->aP (cZ h β) (fA ss d) ys
 | [],vs,ys,d,e,a=>by
   unfold zK at e;split at e
   .cases ys with
    | nil=>trivial
    | cons _ _=>exact a.elim
   .cases e
 | s :: l,vs,ys,d,e,a=>by
   unfold zK at e;split at e
   .rename_i v r;cases ys with
    | nil=>exact a.elim
    | cons y ys=>
      split at e
      .rename_i d1 hd;split at e
       .rename_i d2 hr;cases e;obtain⟨cs,e1,rd⟩:=toDat_ok hd a.1;rw[e1];exact⟨jQ s rd,zL hr a.2⟩
       .cases e
      .cases e
   .cases e
structure CT where
 ps:List Sh
 pre:bT ps->Prop
 res:bT ps->List au×bg
variable {ct:Nat->Option CT}
def MW(P:Program) (gd:Nat->Option (Sigma Sh.den)) (f:FuncId) (ct:CT):Prop:=
 ∀(d:bT ct.ps) (vs:List Value) (h:FH) (B:World),(∀b o v,h b o=some v->vis B b o=some v)->aJ gd h->aP (cZ h []) (fA ct.ps d) vs->ct.pre d ->
   Calls P f vs.toArray B (λen w'=>∃h' β y,en=.returned y/\OK (Base.of B) h (ct.res d).1 h' β w'/\jX h' β (ct.res d).2 y)
def CTX(P:Program) (gd:Nat->Option (Sigma Sh.den)) (f:FuncId) (suf:List Value) (ct:CT):Prop:=
 ∀(d:bT ct.ps) (vs:List Value) (h:FH) (B:World),(∀b o v,h b o=some v->vis B b o=some v)->aJ gd h->aP (cZ h []) (fA ct.ps d) vs->ct.pre d ->
   Calls P f (vs++suf).toArray B (λen w'=>∃h' β y,en=.returned y/\OK (Base.of B) h (ct.res d).1 h' β w'/\jX h' β (ct.res d).2 y)
def CTS(P:Program) (gd:Nat->Option (Sigma Sh.den)) (f:FuncId) (sv:List SV) (ct:CT):Prop:=
 ∀(d:bT ct.ps) (vs ys:List Value) (h:FH) (B:World),(∀b o v,h b o=some v->vis B b o=some v)->aJ gd h->aP (cZ h []) (fA ct.ps d) vs->aP (cZ h []) sv ys->ct.pre d ->
   Calls P f (vs++ys).toArray B (λen w'=>∃h' β y,en=.returned y/\OK (Base.of B) h (ct.res d).1 h' β w'/\jX h' β (ct.res d).2 y)
theorem MW.x{gd:Nat->Option (Sigma Sh.den)}{ct:CT} (h:MW P gd f ct):CTX P gd f [] ct:=by
 intro d vs h' B;simpa using h d vs h' B
theorem CTX.ok{gd:Nat->Option (Sigma Sh.den)}{ct:CT} (h:CTX P gd f [] ct):MW P gd f ct:=by
 intro d vs h' B;simpa using h d vs h' B
abbrev SC.sh(n:Nat):SC->SC
 | .own i off=>.own (n+i) off
 | .row i=>.row (n+i)
 | .ku i j sz off=>.ku (n+i) j sz off
 | .sub i j=>.sub (n+i) j
 | .mD i j k sz off=>.mD (n+i) j k sz off
 | x=>x
abbrev SV.sh(n:Nat):SV->SV
 | .c x=>.c (x.sh n)
 | .agg xs=>.agg (eU (SC.sh n) xs)
 | v=>v
abbrev bg.sh(n:Nat):bg->bg
 | .one v=>.one (v.sh n)
 | .iO vs=>.iO (eU (SV.sh n) vs)
abbrev au.sh(n:Nat):au->au
 | .blk t cs=>.blk t (eU (SC.sh n) cs)
 | r=>r
abbrev iW:Sh->Bool
 | .int _=>true
 | .bool=>true
 | .str=>true
 | .unit=>true
 | .pair a b=>dA (iW a) (iW b)
 | .arr _ s=>iW s
 | _=>false
abbrev nV:SC->Bool
 | .v _=>true
 | .own _ _=>true
 | .row _=>true
 | _=>false
abbrev allL{α:Type} (p:α->Bool):List α->Bool
 | []=>true
 | x :: l=>dA (p x) (allL p l)
abbrev PY:SV->Bool
 | .c x=>nV x
 | .agg xs=>allL nV xs
 | .dat s _=>iW s
 | .und=>true
abbrev JZ:bg->Bool
 | .one v=>PY v
 | .iO vs=>allL PY vs
abbrev wZ:au->Bool
 | .blk _ cs=>allL nV cs
 | .row _ s _=>iW s
 | .obj _ s _=>iW s
 | .deep _ _ _ _ _ _ _ _=>false
 | .mp _ s _=>iW s
 | .O5 _ _ _ _=>false
 | .it _ _ _ _=>false
 | .L9 _ _ _ _=>true
 | .IJ _ _ _ _=>false
 | .gone=>true
theorem Rd.flat{h h':FH}:∀(s:Sh){cs:List Value}{d:s.den},iW s=true->Rd h s cs d->Rd h' s cs d
 | .int _,_,_,_,r=>r
 | .bool,_,_,_,r=>r
 | .str,_,_,_,r=>r
 | .unit,_,_,_,r=>r
 | .any,_,_,f,_=>by simp[iW]at f
 | .sl _,_,_,f,_=>by simp[iW]at f
 | .pair a b,_,(_,_),f,⟨c1,c2,e,r1,r2⟩=>by
   simp only[iW,aC,A8]at f;exact⟨c1,c2,e,r1.flat a f.1,r2.flat b f.2⟩
 | .arr _ s,_,_,f,⟨e,r⟩=>⟨e,r.mono λ_ _=>Rd.flat s f⟩
theorem pz{v:RV} (e:β'[i]?=some v):(β++β')[β.length+i]?=some v:=by
 rw[O9 (by omega)];simpa using e
theorem dS.shift:∀{x:SC}{y:Value},dS h β' x y->dS h (β++β') (x.sh β.length) y
 | .v _,_,c=>c
 | .sl _ _,_,c=>c
 | .fp _ _,_,c=>c
 | .one _ _,_,c=>c
 | .own _ _,_,⟨b,e,e'⟩=>⟨b,pz e,e'⟩
 | .row _,_,⟨v,e,e'⟩=>⟨v,pz e,e'⟩
 | .ku _ _ _ _,_,⟨v,g,e,e'⟩=>⟨v,g,pz e,e'⟩
 | .sub _ _,_,⟨v,us,e,e'⟩=>⟨v,us,pz e,e'⟩
 | .mD _ _ _ _ _,_,⟨v,us,g,e,e'⟩=>⟨v,us,g,pz e,e'⟩
 | .abs _,_,c=>c
 | .junk,_,_=>trivial
theorem dS.flat:∀{x:SC}{y:Value},nV x=true->dS h β x y->dS h' β x y
 | .v _,_,_,c=>c
 | .own _ _,_,_,c=>c
 | .row _,_,_,c=>c
 | .sl _ _,_,f,_=>by simp[nV]at f
 | .fp _ _,_,f,_=>by simp[nV]at f
 | .one _ _,_,f,_=>by simp[nV]at f
 | .ku _ _ _ _,_,f,_=>by simp[nV]at f
 | .sub _ _,_,f,_=>by simp[nV]at f
 | .mD _ _ _ _ _,_,f,_=>by simp[nV]at f
 | .abs _,_,f,_=>by simp[nV]at f
 | .junk,_,f,_=>by simp[nV]at f
theorem aP.eU{α β:Type}{R R':α->β->Prop}{f:α->α} (hR:∀a b,R a b->R' (f a) b):∀{l:List α}{m:List β},aP R l m->aP R' (eU f l) m
 | [],[],_=>trivial
 | _ :: _,_ :: _,⟨a,b⟩=>⟨hR _ _ a,aP.eU hR b⟩
theorem aP.allL{α β:Type}{R R':α->β->Prop}{p:α->Bool} (hR:∀a b,p a=true->R a b->R' a b):∀{l:List α}{m:List β},allL p l=true->aP R l m->aP R' l m
 | [],[],_,_=>trivial
 | _ :: _,_ :: _,f,⟨a,b⟩=>by
   simp only[ni.allL,aC,A8]at f;exact⟨hR _ _ f.1 a,aP.allL hR f.2 b⟩
theorem cZ.shift{h:FH}{β β':List RV}:∀{x:SV}{y:Value},cZ h β' x y->cZ h (β++β') (x.sh β.length) y
 | .c _,_,c=>⟨c.1.shift,c.2⟩
 | .agg _,_,⟨ys,e,a⟩=>⟨ys,e,a.eU λ_ _ ⟨p,q⟩=>⟨p.shift,q⟩⟩
 | .dat _ _,_,c=>c
 | .und,_,c=>c
theorem cZ.flat{h h':FH}{β:List RV}:∀{x:SV}{y:Value},PY x=true->cZ h β x y->cZ h' β x y
 | .c _,_,f,c=>⟨c.1.flat f,c.2⟩
 | .agg _,_,f,⟨ys,e,a⟩=>⟨ys,e,a.allL (λ_ _ f ⟨p,q⟩=>⟨p.flat f,q⟩) f⟩
 | .dat s _,_,f,⟨g,cs,e,r⟩=>⟨g,cs,e,r.flat s f⟩
 | .und,_,_,c=>c
theorem jX.shift{h:FH}{β β':List RV}:∀{x:bg}{y:Value},jX h β' x y->jX h (β++β') (x.sh β.length) y
 | .one _,_,c=>cZ.shift c
 | .iO _,_,⟨ys,e,a⟩=>⟨ys,e,a.eU (f:=SV.sh β.length) λ_ _ c=>cZ.shift c⟩
theorem jX.flat{h h':FH}{β:List RV}:∀{x:bg}{y:Value},JZ x=true->jX h β x y->jX h' β x y
 | .one _,_,f,c=>cZ.flat f c
 | .iO _,_,f,⟨ys,e,a⟩=>⟨ys,e,a.allL (λ_ _=>cZ.flat) f⟩
theorem Holds.shift{h:FH}{β β':List RV}{w:World}:∀{r:au}{v:RV},Holds h β' w r v->Holds h (β++β') w (r.sh β.length) v
 | .blk _ _,.blk _,⟨ys,e,a⟩=>⟨ys,e,a.eU λ_ _ ⟨p,q⟩=>⟨p.shift,q⟩⟩
 | .row _ _ _,.row _,c=>c
 | .obj _ _ _,.blk _,c=>c
 | .deep _ _ _ _ _ _ _ _,.deep _ _,c=>c
 | .mp _ _ _,.row _,c=>c
 | .O5 _ _ _ _,.deep _ _,c=>c
 | .it _ _ _ _,.blk _,c=>c
 | .L9 _ _ _ _,.row _,c=>c
 | .IJ _ _ _ _,.deep _ _,c=>c
 | .gone,_,_=>trivial
theorem Holds.flat{h h':FH}{β:List RV}{w:World}:∀{r:au}{v:RV},wZ r=true->Holds h β w r v->Holds h' β w r v
 | .blk _ _,.blk _,f,⟨ys,e,a⟩=>⟨ys,e,a.allL (λ_ _ f ⟨p,q⟩=>⟨p.flat f,q⟩) f⟩
 | .row _ s _,.row _,f,c=>c.elim .inl λc=>c.elim (λc=>.inr (.inl c)) λ⟨g,cap,cur,e,q1,q2,q3,q4,q5⟩=>.inr (.inr ⟨g,cap,cur,e,q1,q2,q3,q4,q5.mono λ_ _=>Rd.flat s f⟩)
 | .obj _ s _,.blk _,f,⟨ys,e,r⟩=>⟨ys,e,r.flat s f⟩
 | .deep _ _ _ _ _ _ _ _,.deep _ _,f,_=>by cases f
 | .mp _ s _,.row _,f,⟨b,es,c,e,e1,m⟩=>⟨b,es,c,e,e1,m.mono λ_ _ ⟨cs,q,r⟩=>⟨cs,q,r.flat s f⟩⟩
 | .O5 _ _ _ _,.deep _ _,f,_=>by cases f
 | .it _ _ _ _,.blk _,f,_=>by cases f
 | .L9 _ _ _ _,.row _,_,c=>c
 | .IJ _ _ _ _,.deep _ _,f,_=>by cases f
 | .gone,_,_,_=>trivial
theorem au.zN(n:Nat) (r:au):(r.sh n).live=r.live:=by cases r<;>rfl
theorem OK.call(ok:OK B h0 T h β w){hb:FH}{T':List au} (ok':OK (Base.of w) hb T' h' β' w'){hn:FH} (le:h.le hn)
 (conv:∀(j:Nat) r v,T'[j]?=some r->Holds h' β' w' r v->Holds hn (β++β') w' (r.sh β.length) v)
 (hnw:∀b o v,hn b o=some v->vis w' b o=some v) (hng:∀b o v,hn b o=some v->h b o=some v\/(w.heap.size<=b/\h' b o=some v)):
 OK B h0 (T++T'.map (au.sh β.length)) hn (β++β') w':=by
 have L:=ok.len;have L':=ok'.len;have own':∀(i:Nat) r v b,T'[i]?=some r->r.live=true->β'[i]?=some v->v.has b->w.heap.size<=b/\b < w'.heap.size/\∀o,h' b o=none:=ok'.own;have below':Below w.heap.size w w':=Bw.bel ok'.below;have dr':w.drawn<=w'.drawn:=ok'.dr;have split:∀{i:Nat}{r:au}{v:RV},(T++T'.map (au.sh β.length))[i]?=some r->(β++β')[i]?=some v ->
  (T[i]?=some r/\β[i]?=some v)\/∃j r',i=β.length+j/\T'[j]?=some r'/\r=r'.sh β.length/\β'[j]?=some v:=by
  intro i r v e e'
  by_cases hi:i < T.length
  .rw[Xe hi]at e;rw[Xe (by omega)]at e'
   exact .inl ⟨e,e'⟩
  .rw[O9 (by omega),DI]at e
   rw[O9 (by omega)]at e'
   cases hj:T'[i - T.length]? with
   | none=>rw[hj]at e;cases e
   | some r'=>rw[hj]at e;cases e;exact .inr ⟨i - T.length,r',by omega,hj,rfl,by rw[show i - T.length=i - β.length by omega];exact e'⟩
 have ad1:∀{i:Nat}{r:au}{v:RV}{b:Nat},T[i]?=some r->r.live=true->β[i]?=some v->v.has b->∀o,hn b o=none:=by
  intro i r v b e1 e2 e3 e4 o;obtain⟨a1,a2,a3⟩:=ok.own i r v b e1 e2 e3 e4;cases hh:hn b o with
  | none=>rfl
  | some u=>
    rcases hng b o u hh with h1 | h1
    .rw[a3 o]at h1;cases h1
    .omega
 have ad2:∀{i:Nat}{r:au}{v:RV}{b:Nat},T'[i]?=some r->r.live=true->β'[i]?=some v->v.has b->∀o,hn b o=none:=by
  intro i r v b e1 e2 e3 e4 o;obtain⟨a1,a2,a3⟩:=own' i r v b e1 e2 e3 e4;cases hh:hn b o with
  | none=>rfl
  | some u=>
    rcases hng b o u hh with h1 | h1
    .have:=oW (ok.hw b o u h1);omega
    .rw[a3 o]at h1;cases h1.2
 exact {
  below:=ok.below.below below'
  dr:=qP ok.dr dr'
  len:=by simp[L,L']
  holds:=by
   intro i r v e e';rcases split e e' with⟨f1,f2⟩ | ⟨j,r',hi,f1,hr,f2⟩
   .exact(ok.holds i r v f1 f2).move le (Ext.append _ _) λhl b hb=>below'.block b (ok.own i r v b f1 hl f2 hb).2.1
   .rw[hr];exact conv j r' v f1 (ok'.holds j r' v f1 f2)
  own:=by
   intro i r v b e hl e' hb';rcases split e e' with⟨f1,f2⟩ | ⟨j,r',hi,f1,hr,f2⟩
   .obtain⟨a1,a2,a3⟩:=ok.own i r v b f1 hl f2 hb';exact⟨a1,Pe a2 below'.size,ad1 f1 hl f2 hb'⟩
   .rw[hr,au.zN]at hl;obtain⟨a1,a2,a3⟩:=own' j r' v b f1 hl f2 hb';exact⟨B.up _ (qP ok.below.size a1),a2,ad2 f1 hl f2 hb'⟩
  inj:=by
   intro i j r1 r2 u v b e1 l1 e2 l2 e3 e4 b1 b2;rcases split e1 e3 with⟨f1,f3⟩ | ⟨i',r1',hi,f1,hr1,f3⟩<;>rcases split e2 e4 with⟨f2,f4⟩ | ⟨j',r2',hj,f2,hr2,f4⟩
   .exact ok.inj i j r1 r2 u v b f1 l1 f2 l2 f3 f4 b1 b2
   .rw[hr2,au.zN]at l2;have a1:=ok.own i r1 u b f1 l1 f3 b1;have a2:=own' j' r2' v b f2 l2 f4 b2;omega
   .rw[hr1,au.zN]at l1;have a1:=ok.own j r2 v b f2 l2 f4 b2;have a2:=own' i' r1' u b f1 l1 f3 b1;omega
   .rw[hr1,au.zN]at l1;rw[hr2,au.zN]at l2;rw[hi,hj,ok'.inj i' j' r1' r2' u v b f1 l1 f2 l2 f3 f4 b1 b2]
  hle:=ok.hle.trans le
  hw:=hnw
  hg:=by
   intro b o v hh;rcases hng b o v hh with h1 | h1
   .exact ok.hg b o v h1
   .exact .inr (B.up _ (qP ok.below.size h1.1))
  kn:=λk o hk=>by
   have h1:=ok.kn k o hk;exact(below'.block k (EH.1 h1).1).trans h1 }
theorem OK.SB{B:Base}{h0 h:FH}{w:World}:∀(m:Nat){T:List au}{β:List RV},OK B h0 T h β w->OK B h0 (T++List.replicate m .gone) h (β++List.replicate m .no) w
 | 0,T,β,ok=>by simpa using ok
 | m+1,T,β,ok=>by
   have:=OK.SB m (ok.add (r:=.gone) (v:=.no) (bW w none) (λb hb=>(Px hb).elim) trivial)
   simpa[Xw]using this
abbrev MX(G:Gd) (n:Nat):List (Gd×au)->List au->List (Gd×au)
 | T,[]=>T
 | T,r :: l=>MX G n (snoc T (G,r.sh n)) l
theorem Ea(G:Gd) (n:Nat):∀(l:List au) (T:List (Gd×au)),MX G n T l=T++l.map λr=>(G,r.sh n)
 | [],T=>by simp[MX]
 | r :: l,T=>by simp[MX,Ea G n l,iP]
theorem pF(gl:List Bool):∀(T U:List (Gd×au)),eff gl (T++U)=eff gl T++eff gl U
 | [],_=>rfl
 | (g,r) :: l,U=>by simp[eff,pF gl l U]
theorem zO{gl:List Bool}{G:Gd}{n:Nat} (hG:gv gl G=true):∀(l:List au),eff gl (l.map λr=>(G,r.sh n))=l.map (au.sh n)
 | []=>rfl
 | r :: l=>by simp[eff,hG,kE,zO hG l]
theorem yg{gl:List Bool}{G:Gd}{n:Nat} (hG:gv gl G=false):∀(l:List au),eff gl (l.map λr=>(G,r.sh n))=List.replicate l.length .gone
 | []=>rfl
 | r :: l=>by simp[eff,hG,kE,yg hG l,Xw]
theorem gI.PZ{α:Type}{R:List Value->α->Prop}{k:Nat}:∀{l:List α}{cs:List Value},cs.length=l.length * k->(∀j d,l[j]?=some d->R ((cs.drop (j * k)).take k) d)->gI R cs l
 | [],cs,h,_=>Xd (by simpa using h)
 | d :: l,cs,h,hR=>by
   rw[yE,yF]at h;refine⟨cs.take k,cs.drop k,(Xf k cs).symm,?_,gI.PZ (k:=k) (by rw[zk];omega) λj d' hd=>?_⟩
   .have:=hR 0 d rfl;simpa using this
   .have:=hR (j+1) d' (by simpa using hd)
    rw[Vl]
    rwa [show k+j * k=(j+1) * k by rw[yF];omega]
theorem mG.sl{s:Sh}{l:List s.den} (x:mG h w t s l v) (le:h.le h') (hb:∀b,aA v=some b->∀o u,vis w b o=some u->h' b o=some u):rG h' (Rd h' s) v l:=by
 rcases x with⟨e1,e2⟩ | ⟨ra,e1,e2⟩ | ⟨g,cap,cur,e1,q1,q2,q3,q4,q5⟩
 .exact .inl ⟨e1,e2⟩
 .exact .inr (.inl ⟨ra,0,e1,e2,Hz _⟩)
 .refine .inr (.inr ⟨g,0,cap,e1,q2,q3.2,_,q5.mono λ_ _=>Rd.mono le s,λj u hj=>?_⟩)
  refine hb g (by rw[e1];exact aV q3.1) _ _ ?_
  rw[Hy];have h1:=gI.all (λ_ _=>Rd.one s) q5 u (iM hj)
  rw[wP]at hj;split at hj
  .exact oN q1 (by simpa using hj) h1.2
  .cases hj
theorem X8{cs:List Value}{o:Nat}{u:Value} (h:cs[o]?=some u) (x:Value):(cs.set o x).set o u=cs:=by
 rw[List.set_set];exact ig h
theorem BJ.rd{h h':FH}{w:World}{s:Sh}{tt:TypeId}{e:Sh}{so:Nat}{own:Bool}{u:Value}{cs:List Value}{d:s.den} (x:BJ h w s tt e so own false u cs d) (le:h.le h') (hb:∀b,aA u=some b->∀o z,vis w b o=some z->h' b o=some z):Rd h' s cs d:=by
 unfold BJ at x;cases own with
 | false=>exact x.1.mono le s
 | true=>
   obtain⟨d0,y,r,p,c,q⟩:=x;have:=p.rd (r.mono le s) (q.sl le hb)
   rwa [X8 c]at this
theorem dX.data{s:Sh}{l:List s.den}{tt:TypeId}{e:Sh}{so:Nat}{own:Nat->Bool}{us:Nat->Value} (x:dX h w t s l tt e so own [] v us) (le:h.le h')
 (hb:∀b,(RV.deep v us).has b->∀o z,vis w b o=some z->h' b o=some z):rG h' (Rd h' s) v l:=by
 obtain⟨_,_,x⟩:=x;rcases x with⟨e1,e2⟩ | ⟨ra,e1,e2⟩ | ⟨g,cap,cur,e1,q1,q2,q3,q4,q5,q6⟩
 .exact .inl ⟨e1,e2⟩
 .exact .inr (.inl ⟨ra,0,e1,e2,Hz _⟩)
 .have hm:l.length * s.size<=cap * s.size:=zf _ q2;have lc:cur.toList.length=cap * s.size:=by simpa using q4
  have rdl:gI (Rd h' s) (cur.toList.take (l.length * s.size)) l:=by
   refine gI.PZ (k:=s.size) (by rw[lZ];omega) λj d hd=>?_
   have hj:=(eG.1 hd).1;have hm:(j+1) * s.size<=l.length * s.size:=zf _ hj;rw[yF]at hm;have e5:List.take s.size (List.drop (j * s.size) (List.take (l.length * s.size) cur.toList))=List.take s.size (List.drop (j * s.size) cur.toList):=by
    apply JG;intro p;simp only[wP,LV];split
    .rw[if_pos (by omega)]
    .rfl
   rw[e5];exact(q6 j d hd).rd le λb hu=>hb b (aU.2 (.inr ⟨j,hu⟩))
  refine .inr (.inr ⟨g,0,cap,e1,q2,q3.2,cur.toList.take (l.length * s.size),rdl,λj u hj=>?_⟩)
  .refine hb g (aU.2 (.inl (by rw[e1];exact aV (n:=l.length) q3.1))) _ _ ?_
   rw[Hy];have h1:=gI.all (λ_ _=>Rd.one s) rdl u (iM hj)
   rw[wP]at hj;split at hj
   .exact oN q1 (by simpa using hj) h1.2
   .cases hj
abbrev ad3(s:St) (G:Gd) (x:SC):Option SC:=match x with
 | .v u=>some (.v u)
 | .sl sh l=>some (.sl sh l)
 | .fp sh d=>some (.fp sh d)
 | .one sh d=>some (.one sh d)
 | .row r=>match eH s.T r with
   | some (Gr,.row _ sh l)=>match rO Gr G with
     | true=>some (.sl sh l)
     | false=>none
   | some (Gr,.deep _ sh l _ _ _ _ [])=>match rO Gr G with
     | true=>some (.sl sh l)
     | false=>none
   | some (Gr,.mp k sh l)=>match rO Gr G with
     | true=>some (.one (.mp k sh) l)
     | false=>none
   | _=>none
 | _=>none
abbrev X9(s:St) (G:Gd):List SC->Option (List SC)
 | []=>some []
 | x :: l=>match ad3 s G x with
   | some y=>match X9 s G l with
     | some m=>some (y :: m)
     | none=>none
   | none=>none
abbrev ad4(s:St) (G:Gd) (v:SV):Option SV:=match v with
 | .c x=>match ad3 s G x with
   | some y=>some (.c y)
   | none=>none
 | .agg xs=>match X9 s G xs with
   | some ys=>some (.agg ys)
   | none=>none
 | .dat sh d=>some (.dat sh d)
 | .und=>none
abbrev isRow:SC->Bool
 | .row _=>true
 | _=>false
abbrev noRow:SV->Bool
 | .c x=>!(isRow x)
 | .agg xs=>allL (λx=>!(isRow x)) xs
 | _=>true
abbrev vZ(cx:Cx) (s:St) (G:Gd):List Operand->Option (List SV)
 | []=>some []
 | x :: l=>match bJ cx s G x with
   | some (.one v)=>match vZ cx s G l with
     | some r=>some (v :: r)
     | none=>none
   | _=>none
abbrev Il(s:St) (G:Gd):List SV->Option (List SV)
 | []=>some []
 | x :: l=>match ad4 s G x with
   | some v=>match Il s G l with
     | some r=>some (v :: r)
     | none=>none
   | none=>none
abbrev orB:Bool->Bool->Bool
 | true,_=>true
 | false,b=>b
abbrev jr(cx:Cx) (ct:Nat->Option CT) (s:St) (G:Gd) (d:Option Nat) (f:Nat) (args:List Operand) (K:St->Prop):Prop:=match ct f with
 | none=>False
 | some c=>match vZ cx s G args with
   | none=>False
   | some vs=>match Il s G vs with
     | none=>False
     | some bs=>match zK c.ps bs with
       | none=>False
       | some dd=>match orB (allL noRow vs) (dA (JZ (c.res dd).2) (allL wZ (c.res dd).1)) with
         | true=>side s.gl G (c.pre dd)/\K ({ s with T:=MX G (aO s.T) s.T (c.res dd).1 }.put d G ((c.res dd).2.sh (aO s.T)))
         | false=>False
theorem aP.ah8{α β:Type}{R:α->β->Prop}:∀{a c:List α}{l:List β},aP R (a++c) l->∃b d,l=b++d/\aP R a b/\aP R c d
 | [],c,l,h=>⟨[],l,rfl,trivial,h⟩
 | x :: a,c,[],h=>h.elim
 | x :: a,c,y :: l,⟨h1,h2⟩=>by
   obtain⟨b,d,e,p,q⟩:=aP.ah8 (a:=a) h2;exact⟨y :: b,d,by rw[e];rfl,⟨h1,p⟩,q⟩
theorem aP.zQ{α β:Type}{R:α->β->Prop}{x:α}:∀{l:List β},aP R [x] l->∃y,l=[y]/\R x y
 | [],h=>h.elim
 | [y],h=>⟨y,rfl,h.1⟩
 | _ :: _ :: _,h=>h.2.elim
theorem Fh{h:FH}{β:List RV}:∀(s:Sh){d:s.den}{xs:List SC}{ys:List Value},flat s d=some xs->aP (λx y=>dS h β x y/\dF y) xs ys->Rd h s ys d
 | .int k,n,xs,ys,e,a=>by simp[flat]at e;subst e;obtain⟨y,rfl,r⟩:=a.zQ;rw[r.1.1];rfl
 | .bool,n,xs,ys,e,a=>by simp[flat]at e;subst e;obtain⟨y,rfl,r⟩:=a.zQ;rw[r.1.1];rfl
 | .str,n,xs,ys,e,a=>by simp[flat]at e;subst e;obtain⟨y,rfl,r⟩:=a.zQ;rw[r.1.1];rfl
 | .any,n,xs,ys,e,a=>by simp[flat]at e
 | .sl s,l,xs,ys,e,a=>by simp[flat]at e;subst e;obtain⟨y,rfl,r⟩:=a.zQ;exact⟨y,rfl,r.1⟩
 | .unit,n,xs,ys,e,a=>by
   simp[flat]at e;subst e;cases ys with
   | nil=>rfl
   | cons _ _=>exact a.elim
 | .arr _ _,n,xs,ys,e,a=>by simp[flat]at e
 | .mp k s,l,xs,ys,e,a=>by simp[flat]at e;subst e;obtain⟨y,rfl,r⟩:=a.zQ;exact r.1
 | .pair a b,(x,y),xs,ys,e,al=>by
   unfold flat at e;split at e
   .rename_i p hp;split at e
    .rename_i q hq;cases e;rw[fU]at al;obtain⟨c1,c2,rfl,r1,r2⟩:=al.ah8;exact⟨c1,c2,rfl,Fh a hp r1,Fh b hq r2⟩
    .cases e
   .cases e
theorem IY:∀(s:Sh){d:s.den}{y:Value},cZ h β (iH s d) y->DV h s d y
 | .int k,n,y,c=>⟨[y],rfl,by rw[c.1.1];rfl⟩
 | .bool,n,y,c=>⟨[y],rfl,by rw[c.1.1];rfl⟩
 | .str,n,y,c=>⟨[y],rfl,by rw[c.1.1];rfl⟩
 | .any,n,y,c=>⟨[y],rfl,by rw[c.1.1];exact⟨rfl,c.1.2⟩⟩
 | .sl s,l,y,c=>⟨[y],rfl,y,rfl,c.1⟩
 | .unit,n,y,⟨ys,e,a⟩=>by
   cases ys with
   | nil=>exact⟨[],e,rfl⟩
   | cons _ _=>exact a.elim
 | .arr n s,l,y,⟨_,cs,e,r⟩=>⟨cs,e,r⟩
 | .mp k s,l,y,c=>⟨[y],rfl,c.1⟩
 | .pair a b,d,y,c=>by
   have e:iH (.pair a b) d=match flat (.pair a b) d with
    | some xs=>.agg xs
    | none=>.dat (.pair a b) d:=rfl
   rw[e]at c;cases hx:flat (.pair a b) d with
   | some xs=>
     rw[hx]at c;obtain⟨ys,e,al⟩:=c;exact⟨ys,e,Fh (.pair a b) hx al⟩
   | none=>
     rw[hx]at c;obtain⟨_,cs,e,r⟩:=c;exact⟨cs,e,r⟩
theorem Fj{h:FH}:∀{ss:List Sh}{d:bT ss}{ys:List Value},aP (cZ h []) (fA ss d) ys->Dl h ss d ys
 | [],_,[],_=>trivial
 | [],_,_ :: _,x=>x.elim
 | _ :: _,_,[],x=>x.elim
 | s :: l,d,y :: ys,⟨a,b⟩=>⟨IY s a,Fj b⟩
section
variable {cx:Cx}{P:Program}{N:Nat}{B:Base}{h0:FH}{s:St}{h:FH}{β:List RV}{w:World}{a:Act}{G:Gd}{o:Oper}{K:St->Prop}
theorem rY(aj:Sat N B h0 s h β w a) (hg:aJ cx.gd h) (hG:gv s.gl G=true):∀{l:List Operand}{vs:List SV},vZ cx s G l=some vs->aP (cZ h β) vs (l.map a.eval)
 | [],vs,e=>by simp[vZ]at e;subst e;trivial
 | x :: l,vs,e=>by
   unfold vZ at e;split at e
   .rename_i v hv;split at e
    .rename_i r hr;cases e;exact⟨aN aj hg hG hv,rY aj hg hG hr⟩
    .cases e
   .cases e
def FH.all(w:World):FH:=λb o=>vis w b o
theorem OK.ah9(ok:OK B h0 T h β w){k:IntKind}{s:Sh}{l:List (Int×s.den)}{y:Value} (hT:T[i]?=some (.mp k s l)) (hx:dS h β (.row i) y):β[i]?=some (.row y):=by
 obtain⟨v,e,es⟩:=hx;have hold:=ok.holds i _ _ hT e
 match v,hold,es with
 | .row v,_,es=>cases es;exact e
theorem OK.aia(ok:OK B h0 T h β w){k:IntKind}{s:Sh}{l:List (Int×s.den)}{y:Value} (hT:T[i]?=some (.mp k s l)) (hx:dS h β (.row i) y):
 ∃b es c,y=.map (some b)/\w.heap[b]?=some (.map es c)/\vw k (DW h s) es c l:=ok.holds i _ _ hT (ok.ah9 hT hx)
theorem SE(aj:Sat N B h0 s h β w a) (hG:gv s.gl G=true){x y:SC} (e:ad3 s G x=some y) (c:dS h β x v):
 dS (FH.all w) [] y v/\(isRow x=false->dS h [] y v):=by
 have le:h.le (FH.all w):=aj.ok.hw;unfold ad3 at e;split at e
 .cases e;exact⟨c,λ_=>c⟩
 .cases e;exact⟨rG.mono le (λ_ _=>Rd.mono le _) c,λ_=>c⟩
 .cases e;obtain⟨b,o,cs,e,r,at_⟩:=c;exact⟨⟨b,o,cs,e,r.mono le _,at_.mono le⟩,λ_=>⟨b,o,cs,e,r,at_⟩⟩
 .cases e;exact⟨Rd.mono le _ c,λ_=>c⟩
 .rename_i r;split at e
  .rename_i Gr tt sh l hT;split at e
   .rename_i hs;cases e;refine⟨?_,λhh=>by cases hh⟩
    rcases aj.ok.holds r _ _ (bD hT (fK hs hG)) (aj.ok.row_of (bD hT (fK hs hG)) c) with⟨e1,e2⟩ | ⟨ra,e1,e2⟩ | ⟨g,cap,cur,e1,q1,q2,q3,q4,q5⟩
    .exact .inl ⟨e1,e2⟩
    .exact .inr (.inl ⟨ra,0,e1,e2,Hz _⟩)
    .refine .inr (.inr ⟨g,0,cap,e1,q2,q3.2,_,q5.mono λ_ _=>Rd.mono le sh,λj u hj=>?_⟩)
     show vis w g (0+j)=some u;rw[Hy];have h1:=gI.all (λ_ _=>Rd.one sh) q5 u (iM hj)
     rw[wP]at hj;split at hj
     .exact oN q1 (by simpa using hj) h1.2
     .cases hj
   .cases e
  .rename_i Gr tt sh l t2 e2 so own hT;split at e
   .rename_i hs;cases e;refine⟨?_,λhh=>by cases hh⟩
    obtain⟨us,_,hd⟩:=aj.ok.wW (bD hT (fK hs hG)) c;exact hd.data le λb _ o z hz=>hz
   .cases e
  .rename_i Gr k sh l hT;split at e
   .rename_i hs;cases e;refine⟨?_,λhh=>by cases hh⟩
    obtain⟨b,es,cl,hb,hw,m⟩:=aj.ok.aia (bD hT (fK hs hG)) c;exact⟨_,rfl,.inr ⟨b,es,cl,hb,RJ hw,m.mono λ_ _=>DW.mono le⟩⟩
   .cases e
  .cases e
 .cases e
theorem SG(aj:Sat N B h0 s h β w a) (hG:gv s.gl G=true):∀{xs ys:List SC}{vs:List Value},X9 s G xs=some ys->aP (λx y=>dS h β x y/\dF y) xs vs ->
 aP (λx y=>dS (FH.all w) [] x y/\dF y) ys vs/\(allL (λx=>!(isRow x)) xs=true->aP (λx y=>dS h [] x y/\dF y) ys vs)
 | [],ys,[],e,_=>by simp[X9]at e;subst e;exact⟨trivial,λ_=>trivial⟩
 | x :: l,ys,v :: vs,e,⟨c,r⟩=>by
   unfold X9 at e;split at e
   .rename_i y hy;split at e
    .rename_i m hm;cases e;obtain⟨h1,h2⟩:=SE aj hG hy c.1;obtain⟨h3,h4⟩:=SG aj hG hm r;refine⟨⟨⟨h1,c.2⟩,h3⟩,λhh=>?_⟩
     simp only[allL,aC,A8]at hh;exact⟨⟨h2 (by simpa using hh.1),c.2⟩,h4 hh.2⟩
    .cases e
   .cases e
theorem SH(aj:Sat N B h0 s h β w a) (hG:gv s.gl G=true){x y:SV} (e:ad4 s G x=some y) (c:cZ h β x v):
 cZ (FH.all w) [] y v/\(noRow x=true->cZ h [] y v):=by
 have le:h.le (FH.all w):=aj.ok.hw;unfold ad4 at e;split at e
 .split at e
  .rename_i y hy;cases e;obtain⟨h1,h2⟩:=SE aj hG hy c.1;exact⟨⟨h1,c.2⟩,λhh=>⟨h2 (by simpa[noRow]using hh),c.2⟩⟩
  .cases e
 .split at e
  .rename_i ys hy;cases e;obtain⟨vs,e1,e2⟩:=c;obtain⟨h1,h2⟩:=SG aj hG hy e2;exact⟨⟨vs,e1,h1⟩,λhh=>⟨vs,e1,h2 hh⟩⟩
  .cases e
 .cases e;obtain⟨g,cs,e1,r⟩:=c;exact⟨⟨g,cs,e1,r.mono le _⟩,λ_=>⟨g,cs,e1,r⟩⟩
 .cases e
theorem zS(aj:Sat N B h0 s h β w a) (hG:gv s.gl G=true):∀{xs ys:List SV}{vs:List Value},Il s G xs=some ys->aP (cZ h β) xs vs ->
 aP (cZ (FH.all w) []) ys vs/\(allL noRow xs=true->aP (cZ h []) ys vs)
 | [],ys,[],e,_=>by simp[Il]at e;subst e;exact⟨trivial,λ_=>trivial⟩
 | x :: l,ys,v :: vs,e,⟨c,r⟩=>by
   unfold Il at e;split at e
   .rename_i y hy;split at e
    .rename_i m hm;cases e;obtain⟨h1,h2⟩:=SH aj hG hy c;obtain⟨h3,h4⟩:=zS aj hG hm r;refine⟨⟨h1,h3⟩,λhh=>?_⟩
     simp only[allL,aC,A8]at hh;exact⟨h2 hh.1,h4 hh.2⟩
    .cases e
   .cases e
theorem Fp{lb:Array Value}{suf:List Value} (hct:∀c,ct f=some c->∀(d:bT c.ps) (vs:List Value) (h':FH),h.le h'->(∀b o v,h' b o=some v->vis w b o=some v)->aJ cx.gd h'->aP (cZ h' []) (fA c.ps d) vs->c.pre d->Calls P f (vs++suf).toArray w (λen w'=>∃h'' β y,en=.returned y/\OK (Base.of w) h' (c.res d).1 h'' β w'/\jX h'' β (c.res d).2 y)) (aj:Sat N B h0 s h β w a) (hg:aJ cx.gd h) (hG:wS s.gl.length G=true) (hd:l7 N o.dst=true) (ho:o.op=.call c)
 {x:Operand}{xs:List Operand} (bU:c.callee=.value x) (hx:gv s.gl G=true->a.eval x=.func (.func f) #[] lb) (hxs:c.args.map a.eval++lb=(xs.map a.eval++suf).toArray)
 (hf:∃fn,P.funcs[f]?=some fn/\fn.body.isSome=true/\(fn.name == "runtime.NumGoroutine")=false)
 (k:jr cx ct s G o.dst f xs K):gK P N B h0 h w a o (gv s.gl G) K:=by
 unfold jr at k;split at k
 .cases k
 rename_i cc hcc;split at k
 .cases k
 rename_i vs hvs;split at k
 .cases k
 rename_i bs hbs;split at k
 .cases k
 rename_i dd hdd;split at k
 .rename_i MZ;obtain⟨T',fZ⟩:∃T',T'=(cc.res dd).1:=⟨_,rfl⟩;obtain⟨e,he0⟩:∃e,e=(cc.res dd).2:=⟨_,rfl⟩;rw[<-fZ,<-he0]at k MZ;have gT:∀p∈MX G (aO s.T) s.T T',wS s.gl.length p.1=true:=by
   intro p hp;rw[Ea,DY]at hp;rcases hp with hp | hp
   .exact aj.gT p hp
   .simp only[Pq]at hp;obtain⟨r,_,rfl⟩:=hp;exact hG
  have hlen:=lI aj;intro Nx Q next
  cases hgv:gv s.gl G with
  | false=>
    rw[if_neg (by simp)]
    refine next _ h (β++List.replicate T'.length .no) _ _ k.2 (FH.le.refl h) (λ_=>nR.refl w) ?_
    have ok:OK B h0 (eff s.gl (MX G (aO s.T) s.T T')) h (β++List.replicate T'.length .no) w:=by
     rw[Ea,pF,yg hgv];exact aj.ok.SB _
    exact(aj.mem ok (FH.le.refl h) (Ext.append _ _) gT).put (dP hd) hG (λhh=>by simp only at hh;rw[hgv]at hh;cases hh) λ_=>rfl
  | true=>
    rw[if_pos rfl];obtain⟨fn,hfn,hbody,hname⟩:=hf;have hav:=rY aj hg hgv hvs;have aH:=fC k.1 hgv;have exec:(execOp a.eval o).run P w=.ok (.enter f (c.args.map a.eval++lb)) w:=by
     simp only[execOp,ho,resolve,bU,hx hgv,Deferred.ofValue,invoke,Sem.run_bind,Sem.run_pure,Result.andThen_ok,callFunc,run_program,aiZ,Array.append_empty,hfn,hname];simp[hbody];cases hb:fn.body with
     | none=>rw[hb]at hbody;cases hbody
     | some _=>simp
    have hargs:=hxs;unfold Oper.wp;rw[exec];simp only[Oper.upon];rw[hargs];obtain⟨b1,b2⟩:=zS aj hgv hbs hav;have fin:∀{hb:FH}{h':FH}{β':List RV}{w':World}{y:Value}{hn:FH},OK (Base.of w) hb T' h' β' w'->h.le hn ->
     (∀(j:Nat) r v,T'[j]?=some r->Holds h' β' w' r v->Holds hn (β++β') w' (r.sh β.length) v)->(∀b o v,hn b o=some v->vis w' b o=some v) ->
     (∀b o v,hn b o=some v->h b o=some v\/(w.heap.size<=b/\h' b o=some v))->jX hn (β++β') (e.sh β.length) y->Nx (a.put o.dst y) w':=by
     intro hb h' β' w' y hn ok' le conv hnw hng he;have ok:=aj.ok.call ok' le conv hnw hng;refine next _ hn (β++β') _ _ k.2 le (λ_=>nR.of_below (Bw.bel ok'.below)) ?_
     have okT:OK B h0 (eff s.gl (MX G (aO s.T) s.T T')) hn (β++β') w':=by
      rw[Ea,pF,zO hgv,<-hlen];exact ok
     rw[hlen]at he;exact(aj.mem okT le (Ext.append _ _) gT).put (dP hd) hG (λ_=>he) λhh=>by simp only at hh;rw[hgv]at hh;cases hh
    have keep:∀{hb h':FH}{β':List RV}{w':World},OK (Base.of w) hb T' h' β' w'->∀b o v,h b o=some v->vis w' b o=some v:=by
     intro hb h' β' w' ok' b o v hh;have h1:=aj.ok.hw b o v hh;exact(jZ ((Bw.bel ok'.below).block b (oW h1))).trans h1
    cases hnr:allL noRow vs with
    | true=>
      refine(hct cc hcc dd _ h (FH.le.refl h) aj.ok.hw hg (zL hdd (b2 hnr)) aH).mono ?_;rintro en w' ⟨h',β',y,rfl,ok',he⟩;rw[<-fZ]at ok';rw[<-he0]at he;refine fin ok' ok'.hle (λj r v _ hh=>hh.shift) ok'.hw (λb o v hh=>?_) he.shift
      rcases ok'.hg b o v hh with h1 | h1
      .exact .inl h1
      .exact .inr ⟨h1,hh⟩
    | false=>
      rw[hnr]at MZ;simp only[orB,aC,A8]at MZ;refine(hct cc hcc dd _ (FH.all w) aj.ok.hw (λ_ _ _ hh=>hh) (hg.mono aj.ok.hw) (zL hdd b1) aH).mono ?_
      rintro en w' ⟨h',β',y,rfl,ok',he⟩;rw[<-fZ]at ok';rw[<-he0]at he;refine fin ok' (FH.le.refl h) (λj r v hj hh=>(hh.flat ?_).shift) (keep ok') (λb o v hh=>.inl hh) (he.flat MZ.1).shift
      have:∀{l:List au}{j:Nat}{r:au},allL wZ l=true->l[j]?=some r->wZ r=true:=by
       intro l
       induction l with
       | nil=>intro j r _ e;simp at e
       | cons x l ih=>
         intro j r hh e;simp only[allL,aC,A8]at hh;cases j with
         | zero=>simp at e;subst e;exact hh.1
         | succ j=>exact ih hh.2 (by simpa using e)
      exact this MZ.2 hj
 .cases k
theorem yM{suf:List Value} (hct:∀c,ct f=some c->∀(d:bT c.ps) (vs:List Value) (h':FH),h.le h'->(∀b o v,h' b o=some v->vis w b o=some v)->aJ cx.gd h'->aP (cZ h' []) (fA c.ps d) vs->c.pre d->Calls P f (vs++suf).toArray w (λen w'=>∃h'' β y,en=.returned y/\OK (Base.of w) h' (c.res d).1 h'' β w'/\jX h'' β (c.res d).2 y)) (aj:Sat N B h0 s h β w a) (hg:aJ cx.gd h) (hG:wS s.gl.length G=true) (hd:l7 N o.dst=true) (ho:o.op=.call c)
 {x:Operand}{xs:List Operand} (bU:c.callee=.value x) (hx:gv s.gl G=true->a.eval x=.func (.func f) #[] #[]) (hxs:c.args.map a.eval=(xs.map a.eval++suf).toArray)
 (hf:∃fn,P.funcs[f]?=some fn/\fn.body.isSome=true/\(fn.name == "runtime.NumGoroutine")=false)
 (k:jr cx ct s G o.dst f xs K):gK P N B h0 h w a o (gv s.gl G) K:=
 Fp hct aj hg hG hd ho bU hx (by rw[Array.append_empty];exact hxs) hf k
theorem uq{suf:List Value} (hct:∀f c,ct f=some c->CTX P cx.gd f suf c) (aj:Sat N B h0 s h β w a) (hg:aJ cx.gd h) (hG:wS s.gl.length G=true) (hd:l7 N o.dst=true) (ho:o.op=.call c)
 {x:Operand}{xs:List Operand} (bU:c.callee=.value x) (hx:gv s.gl G=true->a.eval x=.func (.func f) #[] #[]) (hxs:c.args.map a.eval=(xs.map a.eval++suf).toArray)
 (hf:∃fn,P.funcs[f]?=some fn/\fn.body.isSome=true/\(fn.name == "runtime.NumGoroutine")=false)
 (k:jr cx ct s G o.dst f xs K):gK P N B h0 h w a o (gv s.gl G) K:=
 yM (λc e d vs h' _ hw hg' ha hp=>hct f c e d vs h' w hw hg' ha hp) aj hg hG hd ho bU hx hxs hf k
theorem VO(hct:∀f c,ct f=some c->MW P cx.gd f c) (aj:Sat N B h0 s h β w a) (hg:aJ cx.gd h) (hG:wS s.gl.length G=true) (hd:l7 N o.dst=true) (ho:o.op=.call c) (bU:c.callee=.value (.func f))
 (hf:∃fn,P.funcs[f]?=some fn/\fn.body.isSome=true/\(fn.name == "runtime.NumGoroutine")=false)
 (k:jr cx ct s G o.dst f (tl c.args) K):gK P N B h0 h w a o (gv s.gl G) K:=
 uq (suf:=[]) (λf c e=>(hct f c e).x) aj hg hG hd ho bU (λ_=>rfl) (by cases c.args;simp) hf k
end
section
variable {P:Program}{ops:Array Oper}{md:Region.Mode}{sf:Nat->Bool}
abbrev J3:Exit->Act->World->Prop:=λ_ _ _=>False
def BA(P:Program) (ops:Array Oper) (i:Nat) (K:Act->World->Prop) (a:Act) (w:World):Prop:=
 match ops[i]? with
 | none=>K a w
 | some o=>if Region.wanted o (yielded ops a.tmps)=true then o.wp P a w K J3 else K (a.put o.dst undef) w
theorem yN{Q:Exit->Act->World->Prop} (h:LetsOut J3):LetsOut Q:=by
 unfold LetsOut at *;obtain⟨_,_,hh⟩:=h;exact False.elim hh
theorem Na{K K':Act->World->Prop} (h:∀a w,K a w->K' a w) (hh:BA P ops i K a w):BA P ops i K' a w:=by
 unfold BA at *;split
 .exact h _ _ (by simpa[*]using hh)
 .rename_i o ho;simp only[ho]at hh;split
  .rename_i hw;rw[if_pos hw]at hh;exact Oper.wp_mono h hh
  .rename_i hw;rw[if_neg hw]at hh;exact h _ _ hh
abbrev yO(ops:Array Oper) (i:Nat):Bool:=match ops[i]? with
 | some o=>quietly o.op
 | none=>true
def anyI(P:Program) (md:Region.Mode) (ops:Array Oper) (sf:Nat->Bool) (R:Act->World->Prop):Nat->Array Bool->Act->World->Prop
 | 0,listed,a,w=>Region.ready md ops listed=[]/\R a w
 | fuel+1,listed,a,w=>(Region.ready md ops listed=[]->R a w) /\
   ∀i∈Region.ready md ops listed,BA P ops i (λa' w'=>(sf i=true->nR w w')/\anyI P md ops sf R fuel (listed.setIfInBounds i true) a' w') a w
def YI(P:Program) (ops:Array Oper) (ld:Bool) (w0:World) (o:Oper) (v:Value) (a:Act):Prop:=
 (Region.wanted o (yielded ops a.tmps)=true/\∀w,(ld=true->nR w0 w)->(execOp a.eval o).run P w=.ok (.value v) w) \/
 (Region.wanted o (yielded ops a.tmps)=false/\v=undef)
theorem YI.of_same{ld:Bool}{w0:World}{a':Act} (hy:YI P ops ld w0 o v a) (he:execOp a'.eval o=execOp a.eval o)
 (hw:Region.wanted o (yielded ops a'.tmps)=Region.wanted o (yielded ops a.tmps)):YI P ops ld w0 o v a':=by
 unfold YI at *;rw[he,hw];exact hy
theorem YI.BA{ld:Bool}{w0:World}{i:Nat}{o:Oper}{v:Value}{a:Act} (hi:ops[i]?=some o) (hy:YI P ops ld w0 o v a){K:Act->World->Prop}{w:World} (hg:ld=true->nR w0 w)
 (h:K (a.put o.dst v) w):BA P ops i K a w:=by
 unfold Go.ni.BA;simp only[hi];rcases hy with⟨hw,hv⟩ | ⟨hw,rfl⟩
 .rw[if_pos hw];unfold Oper.wp;rw[hv w hg];exact h
 .rw[if_neg (by rw[hw];simp)];exact h
theorem ad5{ld:Bool}{w0:World}{j:Nat}{oi oj:Oper} (hj:ops[j]?=some oj) (hap:oi.apart ops oj=true)
 (hsi:∀cs b,oi.op≠.select cs b) (hsj:∀cs b,oj.op≠.select cs b){K:Act->World->Prop}
 (hy:YI P ops ld w0 oi v a) (h:BA P ops j K (a.put oi.dst v) w):
 BA P ops j (λa' w'=>YI P ops ld w0 oi v a'/\K (a'.put oi.dst v) w') a w:=by
 obtain⟨h1,h2,h3⟩:=Oper.apart_spec hap;have keep:∀(a:Act),YI P ops ld w0 oi v a->∀u,YI P ops ld w0 oi v (a.put oj.dst u):=λa hy u=>
  hy.of_same (execOp_put oi hsi a oj.dst u h3) (wanted_put oi a oj.dst u h3)
 have keepD:∀d,YI P ops ld w0 oi v { a with defers:=d :: a.defers }:=λd=>hy.of_same rfl rfl
 unfold BA at *;simp only[hj]at *;rw[wanted_put oj a oi.dst v h1]at h;split
 .rename_i hw;rw[if_pos hw]at h;unfold Oper.wp at *;rw[execOp_put oj hsj a oi.dst v h1]at h;generalize (execOp a.eval oj).run P w=r at *;cases r with
  | ok n w'=>
    cases n<;>simp only[Oper.upon]at h ⊢
    case value u=>exact⟨keep a hy u,by rw[<-Act.put_comm a v u h2];exact h⟩
    case skip=>exact⟨keep a hy _,by rw[<-Act.put_comm a v undef h2];exact h⟩
    case defer d=>
     refine⟨(keep _ (keepD d) _),?_⟩;rw[<-Act.put_comm _ v undef h2,<-Act.put_defers];exact h
    case enter f args=>
     refine h.mono λe w'' he=>?_
     cases e with
     | returned u=>exact⟨keep a hy u,by rw[<-Act.put_comm a v u h2];exact he⟩
     | panicked c=>exact he
     | outgrown=>exact he
    case row r args=>
     refine Rows.mono h λu w'' he=>?_
     exact⟨keep a hy u,by rw[<-Act.put_comm a v u h2];exact he⟩
    all_goals exact h
  | halt x w'=>cases x<;>simp only[Oper.upon]at h ⊢<;>exact h
 .rename_i hw;rw[if_neg hw]at h;exact⟨keep a hy _,by rw[<-Act.put_comm a v undef h2];exact h⟩
def Waits(md:Region.Mode) (ops:Array Oper) (listed:Array Bool) (i:Nat) (bl:List Nat):Prop:=
 ∀j∈bl,listed.getD j true=false/\∃o,ops[j]?=some o/\∃e∈o.after,Region.binds md e=true/\(e.on=i\/e.on∈bl)
theorem xg{listed:Array Bool} (h:listed.getD i true=false):listed.getD i false=false:=by
 rcases XA i listed.size with h' | h'
 .simp[h']at h ⊢;exact h
 .simp[adG h']at h
theorem IZ{listed:Array Bool}{j:Nat}{bl:List Nat} (hi:listed.getD i true=false) (hw:Waits md ops listed i bl) (hj:j∈bl):j∉Region.ready md ops listed:=by
 intro hr;obtain⟨_,oj,hoj,hall⟩:=mem_ready.1 hr;obtain⟨_,o,ho,e,he,hb,hh⟩:=hw j hj;rw[hoj]at ho;cases ho;have h1:=hall e he hb;rcases hh with hh | hh
 .rw[hh,xg hi]at h1;cases h1
 .rw[xg (hw _ hh).1]at h1;cases h1
theorem Fq{R:Act->World->Prop}{ld:Bool}{w0:World}{oi:Oper}{bl:List Nat} (hi:ops[i]?=some oi) (hsel:∀(j:Nat) (o:Oper) cs b,ops[j]?=some o->o.op≠.select cs b)
 (hq:sf i=true):
 ∀(fuel:Nat) (listed:Array Bool) (a:Act) (w:World),
   (∀j oj,ops[j]?=some oj->j≠i->listed.getD j true=false->(∀e∈oj.after,Region.binds md e=true->e.on≠i)->oi.apart ops oj=true) ->
   (ld=true->Waits md ops listed i bl/\∀j,j≠i->listed.getD j true=false->sf j=false->j∈bl) ->
   i∈Region.ready md ops listed->YI P ops ld w0 oi v a->(ld=true->nR w0 w) ->
   anyI P md ops sf R fuel (listed.setIfInBounds i true) (a.put oi.dst v) w->anyI P md ops sf R (fuel+1) listed a w:=by
 intro fuel
 induction fuel with
 | zero=>
   intro listed a w _ _ hr hy hg H;refine⟨λh=>(by rw[h]at hr;cases hr),λj hj=>?_⟩
   by_cases hji:j=i
   .subst hji;exact hy.BA hi hg ⟨λ_=>nR.refl w,H⟩
   .have:=ready_mono hj hji;rw[H.1]at this;cases this
 | succ fuel ih=>
   intro listed a w hfree hbl hr hy hg H;refine⟨λh=>(by rw[h]at hr;cases hr),λj hj=>?_⟩
   by_cases hji:j=i
   .subst hji;exact hy.BA hi hg ⟨λ_=>nR.refl w,H⟩
   .have h1:=H.2 j (ready_mono hj hji);obtain⟨hjun,oj,hoj,hall⟩:=mem_ready.1 hj;have Ya:=(mem_ready.1 hr).1;have hnot:∀e∈oj.after,Region.binds md e=true->e.on≠i:=λe he hb heq=>by
     have h1:=hall e he hb;rw[heq,xg Ya]at h1;cases h1
    have h2:=ad5 hoj (hfree j oj hoj hji hjun hnot) (λcs b=>hsel i oi cs b hi) (λcs b=>hsel j oj cs b hoj) hy h1
    have hfree':∀k ok,ops[k]?=some ok->k≠i->(listed.setIfInBounds j true).getD k true=false ->
     (∀e∈ok.after,Region.binds md e=true->e.on≠i)->oi.apart ops ok=true:=λk ok hk hki hun hno=>by
     refine hfree k ok hk hki ?_ hno
     by_cases jY:j=k
     .subst jY;exact hjun
     .rw[getD_set_ne true jY]at hun;exact hun
    have Yb:ld=true->j∉bl:=λe hm=>IZ Ya (hbl e).1 hm hj
    have hsj:ld=true->sf j=true:=λe=>by
     cases hs:sf j with
     | true=>rfl
     | false=>exact absurd ((hbl e).2 j hji hjun hs) (Yb e)
    have aje:ld=true->Waits md ops (listed.setIfInBounds j true) i bl/\∀k,k≠i->(listed.setIfInBounds j true).getD k true=false->sf k=false->k∈bl:=λe=>by
     refine⟨λk hk=>?_,λk hki hun hs=>?_⟩
     .obtain⟨g1,g2⟩:=(hbl e).1 k hk;refine⟨?_,g2⟩;rw[getD_set_ne true (λhh=>Yb e (by rw[hh];exact hk))];exact g1
     .refine(hbl e).2 k hki ?_ hs
      by_cases jY:j=k
      .subst jY;exact hjun
      .rw[getD_set_ne true jY]at hun;exact hun
    refine Na (λa' w' h3=>⟨h3.2.1,ih (listed.setIfInBounds j true) a' w' hfree' aje (ready_mono hr (Ne.symm hji)) h3.1 (λe=>(hg e).trans (h3.2.1 (hsj e))) ?_⟩) h2
    rw[Array.setIfInBounds_comm _ _ hji];exact h3.2.2
end
abbrev I4(i k n:Nat):Nat:=match Nat.beq n i with
 | true=>k
 | false=>match Nat.beq n k with
   | true=>i
   | false=>n
theorem Yc(h:¬n=i):Nat.beq n i=false:=by
 cases hb:Nat.beq n i with
 | true=>exact absurd (iC hb) h
 | false=>rfl
theorem P5(i k n:Nat):I4 i k n=if n=i then k else if n=k then i else n:=by
 unfold I4
 by_cases h:n=i
 .subst h;simp
 .rw[if_neg h,Yc h]
  by_cases h2:n=k
  .subst h2;simp
  .rw[if_neg h2,Yc h2]
theorem zU(i k n:Nat):I4 i k (I4 i k n)=n:=by
 simp only[P5];split<;>split<;>simp_all<;>omega
abbrev SC.sw(i k:Nat):SC->SC
 | .own a o=>.own (I4 i k a) o
 | .row a=>.row (I4 i k a)
 | .ku a j sz o=>.ku (I4 i k a) j sz o
 | .sub a j=>.sub (I4 i k a) j
 | .mD a j m sz o=>.mD (I4 i k a) j m sz o
 | x=>x
abbrev SV.sw(i k:Nat):SV->SV
 | .c x=>.c (x.sw i k)
 | .agg xs=>.agg (eU (SC.sw i k) xs)
 | v=>v
abbrev bg.sw(i k:Nat):bg->bg
 | .one x=>.one (x.sw i k)
 | .iO xs=>.iO (eU (SV.sw i k) xs)
abbrev au.sw(i k:Nat):au->au
 | .blk t cs=>.blk t (eU (SC.sw i k) cs)
 | r=>r
def xk(i k:Nat) (β β':List RV):Prop:=∀j,β'[I4 i k j]?=β[j]?
theorem dS.sw{h:FH}{β β':List RV}{i k:Nat} (sb:xk i k β β'):∀{x:SC}{y:Value},dS h β x y->dS h β' (x.sw i k) y
 | .v _,_,e=>e
 | .sl _ _,_,e=>e
 | .fp _ _,_,e=>e
 | .one _ _,_,e=>e
 | .own a o,_,⟨b,e,e'⟩=>⟨b,by rw[sb];exact e,e'⟩
 | .row a,y,⟨v,e,e'⟩=>⟨v,by rw[sb];exact e,e'⟩
 | .sub _ _,_,⟨v,us,e,e'⟩=>⟨v,us,by rw[sb];exact e,e'⟩
 | .mD _ _ _ _ _,_,⟨v,us,g,e,e'⟩=>⟨v,us,g,by rw[sb];exact e,e'⟩
 | .ku _ _ _ _,_,⟨v,g,e,e'⟩=>⟨v,g,by rw[sb];exact e,e'⟩
 | .abs _,_,e=>e
 | .junk,_,_=>trivial
theorem xq{α β:Type}{R R':α->β->Prop}{f:α->α} (hR:∀a b,R a b->R' (f a) b):∀{l:List α}{m:List β},aP R l m->aP R' (eU f l) m
 | [],[],_=>trivial
 | _ :: _,_ :: _,⟨a,b⟩=>⟨hR _ _ a,xq hR b⟩
theorem cZ.sw{h:FH}{β β':List RV}{i k:Nat} (sb:xk i k β β'):∀{x:SV}{y:Value},cZ h β x y->cZ h β' (x.sw i k) y
 | .c _,_,⟨e,o⟩=>⟨e.sw sb,o⟩
 | .agg _,_,⟨ys,e,a⟩=>⟨ys,e,xq (λ_ _ ⟨p,q⟩=>⟨p.sw sb,q⟩) a⟩
 | .dat _ _,_,e=>e
 | .und,_,e=>e
theorem jX.sw{h:FH}{β β':List RV}{i k:Nat} (sb:xk i k β β'):∀{x:bg}{y:Value},jX h β x y->jX h β' (x.sw i k) y
 | .one _,_,e=>cZ.sw sb e
 | .iO _,_,⟨ys,e,a⟩=>⟨ys,e,xq (λ_ _ p=>cZ.sw sb p) a⟩
theorem Holds.sw{h:FH}{β β':List RV}{w:World}{i k:Nat} (sb:xk i k β β'):∀{r:au}{v:RV},Holds h β w r v->Holds h β' w (r.sw i k) v
 | .blk _ _,.blk _,⟨ys,e,a⟩=>⟨ys,e,xq (λ_ _ ⟨p,q⟩=>⟨p.sw sb,q⟩) a⟩
 | .row _ _ _,.row _,e=>e
 | .obj _ _ _,.blk _,e=>e
 | .deep _ _ _ _ _ _ _ _,.deep _ _,e=>e
 | .mp _ _ _,.row _,e=>e
 | .O5 _ _ _ _,.deep _ _,e=>e
 | .it _ _ _ _,.blk _,e=>e
 | .L9 _ _ _ _,.row _,e=>e
 | .IJ _ _ _ _,.deep _ _,e=>e
 | .gone,_,_=>trivial
theorem au.J4{k:Nat} (r:au):(r.sw i k).live=r.live:=by cases r<;>rfl
theorem OK.sw{B:Base}{h0:FH}{T T':List au}{h:FH}{β β':List RV}{w:World}{i k:Nat} (ok:OK B h0 T h β w) (sb:xk i k β β') (hl:β'.length=T'.length)
 (sT:∀j,T'[I4 i k j]?=(T[j]?).map (au.sw i k)):OK B h0 T' h β' w:=by
 have gT:∀{j:Nat}{r:au},T'[j]?=some r->∃r0,T[I4 i k j]?=some r0/\r=r0.sw i k:=by
  intro j r e;have:=sT (I4 i k j);rw[zU,e]at this;cases hT:T[I4 i k j]? with
  | none=>rw[hT]at this;cases this
  | some r0=>rw[hT]at this;exact⟨r0,rfl,by simpa using this⟩
 have gB:∀{j:Nat}{v:RV},β'[j]?=some v->β[I4 i k j]?=some v:=by
  intro j v e;have:=sb (I4 i k j);rw[zU,e]at this;exact this.symm
 refine⟨ok.below,ok.dr,hl,λj r v e1 e2=>?_,λj r v b e1 l1 e2 e3=>?_,λj j' r r' u v b e1 l1 e2 l2 e3 e4 e5 e6=>?_,ok.hle,ok.hw,ok.hg,ok.kn⟩
 .obtain⟨r0,f1,rfl⟩:=gT e1;exact(ok.holds _ _ _ f1 (gB e2)).sw sb
 .obtain⟨r0,f1,rfl⟩:=gT e1;exact ok.own _ _ _ _ f1 (by rw[<-au.J4];exact l1) (gB e2) e3
 .obtain⟨r0,f1,rfl⟩:=gT e1;obtain⟨r1,f2,rfl⟩:=gT e2;have:=ok.inj _ _ _ _ _ _ _ f1 (by rw[<-au.J4];exact l1) f2 (by rw[<-au.J4];exact l2) (gB e3) (gB e4) e5 e6
  have h2:=tK (I4 i k) this
  rwa [zU,zU]at h2
abbrev swE(i k:Nat):List (Nat×Gd×bg)->List (Nat×Gd×bg)
 | []=>[]
 | (t,g,e) :: l=>(t,g,e.sw i k) :: swE i k l
abbrev swT(i k:Nat) (T:List (Gd×au)):List (Gd×au):=match eH T i with
 | some a=>match eH T k with
   | some b=>eU (λp=>(p.1,p.2.sw i k)) (dh (dh T i b) k a)
   | none=>T
 | none=>T
abbrev swS(i k:Nat) (s:St):St:={ s with T:=swT i k s.T,env:=swE i k s.env }
theorem J5{i k:Nat}:∀{l:List (Nat×Gd×bg)}{t:Nat},iG (swE i k l) t=(iG l t).map λp=>(p.1,p.2.sw i k)
 | [],_=>rfl
 | (u,g,e) :: l,t=>by
   rw[show swE i k ((u,g,e) :: l)=(u,g,e.sw i k) :: swE i k l from rfl,aX,aX]
   split
   .rfl
   .exact J5
theorem Fv{α β:Type} (f:α->β):∀l:List α,eU f l=l.map f
 | []=>rfl
 | _ :: l=>by simp[eU,Fv f l]
theorem SI{k:Nat}{T:List (Gd×au)} (hi:i < T.length) (hk:k < T.length) (j:Nat):(swT i k T)[I4 i k j]?=(T[j]?).map λp=>(p.1,p.2.sw i k):=by
 unfold swT;rw[fJ,kR hi];simp only;rw[fJ,kR hk];simp only;rw[Fv,DI,gJ,gJ]
 congr 1
 rw[P5]
 by_cases h1:j=i
 .subst h1;rw[if_pos rfl,qc (by simpa using hk),kR hi]
 .rw[if_neg h1]
  by_cases h2:j=k
  .subst h2;rw[if_pos rfl,l9 (by omega),qc hi,kR hk]
  .rw[if_neg h2,l9 (by omega),l9 (by omega)]
theorem ad6{k:Nat}{T:List (Gd×au)}:(swT i k T).length=T.length:=by
 unfold swT;split
 .split
  .rw[Fv,gJ,gJ];simp
  .rfl
 .rfl
theorem P6{k:Nat} (hi:i < β.length) (hk:k < β.length):∃β',β'.length=β.length/\xk i k β β':=by
 refine⟨(β.set i β[k]).set k β[i],by simp,λj=>?_⟩
 rw[P5]
 by_cases h1:j=i
 .subst h1;rw[if_pos rfl,qc (by simpa using hk),kR hi]
 .rw[if_neg h1]
  by_cases h2:j=k
  .subst h2;rw[if_pos rfl,l9 (by omega),qc hi,kR hk]
  .rw[if_neg h2,l9 (by omega),l9 (by omega)]
theorem Sat.sw{N:Nat}{B:Base}{h0:FH}{s:St}{h:FH}{β:List RV}{w:World}{a:Act} (aj:Sat N B h0 s h β w a){i k:Nat} (hi:i < s.T.length) (hk:k < s.T.length):
 ∃β',Sat N B h0 (swS i k s) h β' w a:=by
 have hlen:β.length=s.T.length:=by rw[aj.ok.len,ji]
 obtain⟨β',hl,sb⟩:=P6 (β:=β) (i:=i) (k:=k) (by omega) (by omega)
 refine⟨β',?_,?_,?_,aj.defers,aj.sz,?_,?_⟩
 .refine aj.ok.sw sb (by rw[hl,ji,ad6,hlen]) λj=>?_
  rw[jI,jI,SI hi hk];cases s.T[j]? with
  | none=>rfl
  | some p=>
    simp only[Xh];cases gv s.gl p.1<;>rfl
 .intro t G e ht;rw[show(swS i k s).env=swE i k s.env from rfl,J5]at ht
  cases hl:iG s.env t with
  | none=>rw[hl]at ht;cases ht
  | some p=>
    rw[hl]at ht;cases ht;obtain⟨z,q1,q2,q3⟩:=aj.env t p.1 p.2 hl;exact⟨z,q1,λhh=>(q2 hh).sw sb,q3⟩
 .intro d j hd;obtain⟨G,b,q1,q2⟩:=aj.gs d j hd;exact⟨G,b,by rw[show(swS i k s).env=swE i k s.env from rfl,J5,q1];rfl,q2⟩
 .intro t G e ht;rw[show(swS i k s).env=swE i k s.env from rfl,J5]at ht
  cases hl:iG s.env t with
  | none=>rw[hl]at ht;cases ht
  | some p=>
    rw[hl]at ht;cases ht;exact aj.gb t p.1 p.2 hl
 .intro p hp;obtain⟨j,hj⟩:=Hu hp;have h1:=SI hi hk (I4 i k j);rw[zU]at h1;rw[show(swS i k s).T=swT i k s.T from rfl,h1]at hj
  cases hT:s.T[I4 i k j]? with
  | none=>rw[hT]at hj;cases hj
  | some q=>
    rw[hT]at hj;cases hj;exact aj.gT q (iM hT)
abbrev ou:List (Nat×Nat)->St->St
 | [],s=>s
 | (i,k) :: l,s=>match dA (Nat.ble (i+1) (aO s.T)) (Nat.ble (k+1) (aO s.T)) with
   | true=>ou l (swS i k s)
   | false=>s
theorem Sat.ou{N:Nat}{B:Base}{h0 h:FH}{w:World}{a:Act}:∀(l:List (Nat×Nat)){s:St}{β:List RV},Sat N B h0 s h β w a->∃β',Sat N B h0 (ou l s) h β' w a
 | [],s,β,aj=>⟨β,aj⟩
 | (i,k) :: l,s,β,aj=>by
   unfold Go.ni.ou;split
   .rename_i hc;rw[aC,A8,bC]at hc;have h1:=qO hc.1;have h2:=qO hc.2;obtain⟨β',aS⟩:=aj.sw (i:=i) (k:=k) (by omega) (by omega)
    exact Sat.ou l aS
   .exact⟨β,aj⟩
inductive Loc where
 | slot (t:Nat)
 | cell (i c:Nat)
abbrev aic:SC->Option Nat
 | .own i _=>some i
 | .row i=>some i
 | _=>none
abbrev ap7(s:St):Loc->Option Nat
 | .slot t=>match iG s.env t with
   | some ([],.one (.c x))=>aic x
   | _=>none
 | .cell i c=>match eH s.T i with
   | some ([],.blk _ cs)=>match eH cs c with
     | some x=>aic x
     | none=>none
   | _=>none
abbrev vC:List (Nat×Loc)->St->St
 | [],s=>s
 | (k,loc) :: l,s=>match ap7 s loc with
   | none=>vC l s
   | some i=>match dA (Nat.ble (i+1) (aO s.T)) (Nat.ble (k+1) (aO s.T)) with
     | true=>vC l (swS i k s)
     | false=>s
theorem Sat.vC{N:Nat}{B:Base}{h0 h:FH}{w:World}{a:Act}:∀(l:List (Nat×Loc)){s:St}{β:List RV},Sat N B h0 s h β w a->∃β',Sat N B h0 (vC l s) h β' w a
 | [],s,β,aj=>⟨β,aj⟩
 | (k,loc) :: l,s,β,aj=>by
   unfold Go.ni.vC;split
   .exact Sat.vC l aj
   .rename_i i _;split
    .rename_i hc;rw[aC,A8,bC]at hc;have h1:=qO hc.1;have h2:=qO hc.2;obtain⟨β',aS⟩:=aj.sw (i:=i) (k:=k) (by omega) (by omega)
     exact Sat.vC l aS
    .exact⟨β,aj⟩
structure IP where
 sh:Sh
 ps:List Sh
 pre:List sh.den->bT ps->Prop
 res:List sh.den->bT ps->List sh.den
 back:Bool
def VP(P:Program) (gd:Nat->Option (Sigma Sh.den)) (f:FuncId) (ip:IP):Prop:=
 ∀(t:TypeId) (l:List ip.sh.den) (d:bT ip.ps) (v:Value) (vs:List Value) (h:FH) (w:World),(∀b o u,h b o=some u->vis w b o=some u)->aJ gd h ->
   Holds h [] w (.row t ip.sh l) (.row v)->(∀b,aA v=some b->∀o,h b o=none)->aP (cZ h []) (fA ip.ps d) vs->ip.pre l d ->
   Calls P f (v :: vs).toArray w (λen w'=>∃v' y,en=.returned y/\Gb w w' (aA v)/\(∀b,aA v'=some b->aA v=some b\/(w.heap.size<=b/\b < w'.heap.size)) /\
    Holds h [] w' (.row t ip.sh (ip.res l d)) (.row v')/\(ip.back=true->y=v')/\(ip.back=false->y=.tuple #[]/\v'=v))
abbrev ipK(cx:Cx) (ip:IP) (s:St) (d:Option Nat) (args:List Operand) (K:St->Prop):Prop:=match args with
 | []=>False
 | x :: r=>match bJ cx s [] x with
   | some (.one (.c (.row i)))=>match eH s.T i with
     | some ([],.row t sh l)=>match jJ (.sl sh) l (.sl ip.sh) with
       | none=>False
       | some l=>match vZ cx s [] r with
         | none=>False
         | some vs=>match allL noRow vs with
           | false=>False
           | true=>match Il s [] vs with
             | none=>False
             | some bs=>match zK ip.ps bs with
               | none=>False
               | some dd=>ip.pre l dd/\(match ip.back with
                 | false=>K ({ s with T:=dh s.T i ([],.row t ip.sh (ip.res l dd)) }.put d [] (.iO []))
                 | true=>K ({ s with T:=dh (MS i s.T) i ([],.row t ip.sh (ip.res l dd)),env:=uV i s.env }.put d [] (.one (.c (.row i)))))
     | _=>False
   | _=>False
def Dq(P:Program) (N:Nat) (B:Base) (h0 h:FH) (w:World) (a:Act) (o:Oper) (wanted:Bool) (K:St->Prop):Prop:=
 ∀(Nx:Act->World->Prop) (Q:Exit->Act->World->Prop),
   (∀s' h' β' w' v,K s'->h.le h'->Sat N B h0 s' h' β' w' (a.put o.dst v)->Nx (a.put o.dst v) w') ->
   if wanted=true then o.wp P a w Nx Q else Nx (a.put o.dst undef) w
theorem gK.weak{N:Nat}{b:Bool}{K:St->Prop} (k:gK P N B h0 h w a o b K):Dq P N B h0 h w a o b K:=
 λNx Q next=>k Nx Q λs' h' β' w' v k' le _ aj=>next s' h' β' w' v k' le aj
section
variable {cx:Cx}{P:Program}{N:Nat}{B:Base}{h0:FH}{s:St}{h:FH}{β:List RV}{w:World}{a:Act}{o:Oper}{K:St->Prop}
theorem Yd(aj:Sat N B h0 s h β w a){x x':au}{v:RV} (hT:eH s.T r=some ([],x)) (hl:x.live=true) (hu:β[r]?=some u)
 (hg:Gb w w' u.block) (hv:∀b,v.block=some b->u.block=some b\/(w.heap.size<=b/\b < w'.heap.size)) (hvs:∀b,¬v.sub b:=by exact λ_ h=>h) (hold:Holds h (β.set r v) w' x' v):
 Sat N B h0 { s with T:=dh (MS r s.T) r ([],x'),env:=uV r s.env } h (β.set r v) w' a:=by
 have tr:gv s.gl []=true:=rfl;have fZ:=bD hT tr;have okj:=aj.ok.jk r;have hTj:((eff s.gl s.T).map (jkR r))[r]?=some (jkR r x):=by rw[DI,fZ];rfl
 have ok:OK B h0 (eff s.gl (dh (MS r s.T) r ([],x'))) h (β.set r v) w':=by
  rw[fV,PW];refine okj.upd hTj (by rw[vX];exact hl) hu hg (λk e=>.inl e) (λb hb=>hb.elim (λq=>(hv b q).imp .inl id) λq=>(hvs b q).elim) (.inr λj rj _ ej=>?_) hold
  rw[DI]at ej;cases hj:(eff s.gl s.T)[j]? with
  | none=>rw[hj]at ej;cases ej
  | some q=>rw[hj]at ej;cases ej;exact MV r q
 refine⟨ok,?_,?_,aj.defers,aj.sz,?_,?_⟩
 .intro t G e ht;obtain⟨e0,h1,rfl⟩:=Fg r ht;obtain⟨z,q1,q2,q3⟩:=aj.env t G e0 h1;exact⟨z,q1,λhG=>(q2 hG).jk v,q3⟩
 .intro d i hi;obtain⟨G,b,q1,q2⟩:=aj.gs d i hi;exact⟨G,b,JX r q1,q2⟩
 .intro t G e ht;obtain⟨e0,h1,rfl⟩:=Fg r ht;exact aj.gb t G e0 h1
 .intro p hp;simp only at hp;rw[gJ]at hp;rcases JF hp with hp | hp
  .have:∀{l:List (Gd×au)},p∈MS r l->∃q∈l,q.1=p.1:=by
    intro l
    induction l with
    | nil=>intro hh;simp[MS]at hh
    | cons q l ih=>
      obtain⟨g,q⟩:=q;intro hh;simp only[MS,ng]at hh;rcases hh with rfl | hh
      .exact⟨(g,q),by simp,rfl⟩
      .obtain⟨q',h1,h2⟩:=ih hh;exact⟨q',by simp[h1],h2⟩
   obtain⟨q,h1,h2⟩:=this hp;rw[<-h2];exact aj.gT q h1
  .subst hp;rfl
theorem Holds.ajg{s:Sh}{l:List s.den}{v:RV} (x:Holds h β w (.row t s l) v):Holds h β' w (.row t s l) v:=by
 cases v<;>exact x
theorem ad7{ip:IP} (SK:VP P cx.gd f ip) (hf:∃fn,P.funcs[f]?=some fn/\fn.body.isSome=true/\(fn.name == "runtime.NumGoroutine")=false)
 (aj:Sat N B h0 s h β w a) (hg:aJ cx.gd h) (hd:l7 N o.dst=true) (ho:o.op=.call c) (bU:c.callee=.value (.func f))
 (k:ipK cx ip s o.dst (tl c.args) K):Dq P N B h0 h w a o true K:=by
 have tr:gv s.gl []=true:=rfl;unfold ipK at k;split at k
 .cases k
 rename_i x r hargs0;split at k
 .rename_i i hx;split at k
  .rename_i t sh l0 hT;split at k
   .cases k
   rename_i l hl;split at k
   .cases k
   rename_i vs hvs;split at k
   .cases k
   rename_i hnr;split at k
   .cases k
   rename_i bs hbs;split at k
   .cases k
   rename_i dd hdd;obtain⟨aH,k⟩:=k;obtain⟨e1,e2⟩:=pq hl;subst e1;simp only at e2;subst e2;have cr:cZ h β (.c (.row i)) (a.eval x):=aN aj hg tr hx;have hu:β[i]?=some (.row (a.eval x)):=aj.ok.row_of (bD hT tr) cr.1;have hold:=aj.ok.holds i _ _ (bD hT tr) hu;have hav:=rY aj hg tr hvs;obtain⟨_,b2⟩:=zS aj tr hbs hav;intro Nx Q next
   rw[if_pos rfl];obtain⟨fn,hfn,hbody,hname⟩:=hf;have exec:(execOp a.eval o).run P w=.ok (.enter f (c.args.map a.eval)) w:=by
    simp only[execOp,ho,resolve,bU,Act.eval,Deferred.ofValue,invoke,Sem.run_bind,Sem.run_pure,Result.andThen_ok,callFunc,run_program,hfn,hname];simp[hbody];cases hb:fn.body with
    | none=>rw[hb]at hbody;cases hbody
    | some _=>simp
   have hargs:(c.args.map a.eval)=(a.eval x :: r.map a.eval).toArray:=by
    have:c.args=(x :: r).toArray:=by
     cases hc:c.args with
     | mk q=>rw[hc]at hargs0;simp only[tl]at hargs0;rw[hargs0]
    rw[this];simp
   unfold Oper.wp;rw[exec];simp only[Oper.upon];rw[hargs];refine(SK t l0 dd (a.eval x) _ h w aj.ok.hw hg hold.ajg (λb hb=>(aj.ok.own i _ _ b (bD hT tr) rfl hu (aY.2 hb)).2.2) (zL hdd (b2 hnr)) aH).mono ?_
   rintro en w' ⟨v',y,rfl,hgr,hv,hold',hb1,hb2⟩;have hi:i < β.length:=(eG.1 hu).1;cases hb:ip.back with
   | false=>
     rw[hb]at k;obtain⟨rfl,rfl⟩:=hb2 hb;have fZ:=bD hT tr;have ok:OK B h0 (eff s.gl (dh s.T i ([],.row t ip.sh (ip.res l0 dd)))) h β w':=by
      rw[yL];have:=aj.ok.upd (r':=.row t ip.sh (ip.res l0 dd)) (v:=.row (a.eval x)) fZ rfl hu hgr (λk e=>aY.2 e) (λb hb=>.inl hb) (.inl rfl) hold'.ajg
      rwa [ig hu]at this
     exact next _ _ _ _ _ k (FH.le.refl h) ((aj.mem ok (FH.le.refl h) (Ext.refl β) (qR aj)).put (dP hd) rfl (λ_=>⟨[],rfl,trivial⟩) λhh=>by cases hh)
   | true=>
     rw[hb]at k;obtain rfl:=hb1 hb;refine next _ _ _ _ _ k (FH.le.refl h) ((Yd aj hT rfl hu hgr hv (x':=.row t ip.sh (ip.res l0 dd)) (v:=.row y) (hold:=hold'.ajg)).put (dP hd) rfl (λ_=>?_) λhh=>by cases hh)
     refine⟨?_,?_⟩
     .refine⟨.row y,?_,rfl⟩;rw[qc hi]
     .rcases hold' with⟨rfl,_⟩ | ⟨_,rfl,_⟩ | ⟨g,cap,cur,rfl,_⟩<;>exact⟨rfl,rfl⟩
  .cases k
 .cases k
end
def ajh:Int->Bool
 | .ofNat 0=>true
 | _=>false
theorem ad8{n:Int} (h:ajh n=true):n=0:=by
 unfold ajh at h;split at h
 .rfl
 .cases h
abbrev Io:Operand->Bool
 | .const v=>match v with
   | .int _ n=>ajh n
   | _=>false
 | _=>false
theorem zV{x:Operand} (h:Io x=true):∃k,x=.const (.int k 0):=by
 unfold Io at h;split at h
 .split at h
  .rename_i k n;rw[ad8 h];exact⟨k,rfl⟩
  .cases h
 .cases h
abbrev aji:Option Operand->Bool
 | none=>true
 | some x=>Io x
abbrev anL:Option Operand->Bool
 | none=>false
 | some x=>Io x
abbrev Ye:SC->Bool
 | .sl _ _=>true
 | .v v=>match v with
   | .slice none 0 0=>true
   | _=>false
 | _=>false
abbrev ajj(cx:Cx) (s:St) (d:Option Nat) (t:TypeId) (x:Operand) (lo hi:Option Operand) (K:St->Prop):Prop:=match descOf cx t with
 | .slice el=>match qx cx.ti el with
   | none=>False
   | some ie=>match ie.iQ with
     | none=>False
     | some sh=>match bJ cx s [] x with
       | some (.one (.c y))=>match dA (Ye y) (dA (aji lo) (anL hi)) with
         | true=>K ({ s with T:=snoc s.T ([],.row el sh []) }.put d [] (.one (.c (.row (aO s.T)))))
         | false=>False
       | _=>False
 | _=>False
abbrev P7(cx:Cx) (s:St) (d:Option Nat) (t:TypeId) (i:Nat) (lo hi:Option Operand) (K:St->Prop):Prop:=match descOf cx t with
 | .slice el=>match qx cx.ti el with
   | none=>False
   | some _=>match aji lo with
     | false=>False
     | true=>match hi with
       | none=>False
       | some h=>match bJ cx s [] h with
         | some (.one (.c (.v (.int _ n))))=>match eH s.T i with
           | some ([],.row el' sh l)=>(0<=n/\n<=l.length)/\K ({ s with T:=dh (MS i s.T) i ([],.row el' sh (l.take n.toNat)),env:=uV i s.env }.put d [] (.one (.c (.row i))))
           | _=>False
         | _=>False
 | _=>False
abbrev ajk(cx:Cx) (s:St) (d:Option Nat) (t:TypeId) (lo hi:Option Operand) (K:St->Prop):Prop:=match descOf cx t with
 | .slice el=>match qx cx.ti el with
   | none=>False
   | some _=>match Ik cx s [] lo 0 with
     | none=>False
     | some a=>match Ik cx s [] hi 0 with
       | none=>False
       | some b=>(0<=a/\a<=b/\b<=0)/\K (s.put d [] (.one (.c (.v (.slice none 0 0)))))
 | _=>False
def fM(a b:Int):Int:=if b > a then b else a
abbrev P8(cx:Cx) (s:St) (d:Option Nat) (x y:Operand) (K:St->Prop):Prop:=match bJ cx s [] x with
 | some (.one (.c (.v (.int .i64 a))))=>match bJ cx s [] y with
   | some (.one (.c (.v (.int .i64 b))))=>K (s.put d [] (vI .i64 (fM a b)))
   | _=>False
 | _=>False
abbrev ajl(cx:Cx) (s:St) (d:Option Nat) (t:TypeId) (x:Operand) (K:St->Prop):Prop:=match descOf cx t with
 | .slice _=>match bJ cx s [] x with
   | some (.one (.c (.v (.slice none 0 0))))=>K (s.put d [] (vI .i64 0))
   | _=>False
 | _=>False
abbrev ajm(cx:Cx) (s:St) (d:Option Nat) (t:TypeId) (x:Operand) (lo hi:Option Operand) (m:Operand) (K:St->Prop):Prop:=match descOf cx t with
 | .slice el=>match qx cx.ti el with
   | none=>False
   | some ie=>match aji lo with
     | false=>False
     | true=>match hi with
       | none=>False
       | some h=>match bJ cx s [] h with
         | some (.one (.c (.v (.int _ n))))=>match bJ cx s [] m with
           | some (.one (.c (.v (.int _ n'))))=>match bJ cx s [] x with
             | some (.one (.c (.sl sh l)))=>match Nat.beq ie.size sh.size with
               | true=>(0<=n/\n<=l.length/\n=n')/\K (s.put d [] (.one (.c (.abs (.Vt sh (l.take n.toNat))))))
               | false=>False
             | _=>False
           | _=>False
         | _=>False
 | _=>False
abbrev P9(s:St) (d:Option Nat) (eq:Bool) (x:SC) (K:St->Prop):Prop:=match x with
 | .v _=>K (s.put d [] (vB eq))
 | .sl _ l=>∀b:Bool,(b=true->l=[])->K (s.put d [] (vB (cnd eq b (!b))))
 | .row i=>match eH s.T i with
   | some ([],.row _ _ l)=>∀b:Bool,(b=true->l=[])->K (s.put d [] (vB (cnd eq b (!b))))
   | _=>False
 | _=>False
abbrev J6:BinOp->Option Bool
 | .eql=>some true
 | .neq=>some false
 | _=>none
abbrev Yf(cx:Cx) (t:TypeId):Bool:=match descOf cx t with
 | .slice _=>true
 | _=>false
abbrev Qa:SC->Bool
 | .sl _ _=>true
 | .row _=>true
 | .v v=>match v with
   | .slice none 0 0=>true
   | _=>false
 | _=>false
abbrev Yg(cx:Cx) (s:St) (d:Option Nat) (t t':TypeId) (y:Operand) (K:St->Prop):Prop:=match descOf cx t' with
 | .int .i64=>match descOf cx t with
   | .slice el=>match qx cx.ti el with
     | none=>False
     | some ie=>match ie.iQ with
       | none=>False
       | some sh=>match dA (Nat.beq sh.size ie.size) (dA (Nat.ble 1 ie.bytes) (Nat.ble 1 ie.size)) with
         | true=>match bJ cx s [] y with
           | some (.one (.c (.v (.int .i64 n))))=>(0<=n/\oH n.toNat ie.bytes)/\K ({ s with T:=snoc s.T ([],.row el sh (List.replicate n.toNat (rQ sh))) }.put d [] (.one (.c (.row (aO s.T)))))
           | _=>False
         | false=>False
   | _=>False
 | _=>False
abbrev VQ(i:Nat) (z x:SC):SC:=match x with
 | .row j=>match Nat.beq i j with
   | true=>z
   | false=>.row j
 | .ku j k sz off=>match Nat.beq i j with
   | true=>.junk
   | false=>.ku j k sz off
 | .own j off=>match Nat.beq i j with
   | true=>.junk
   | false=>.own j off
 | .sub j k=>match Nat.beq i j with
   | true=>.junk
   | false=>.sub j k
 | .mD j k m sz off=>match Nat.beq i j with
   | true=>.junk
   | false=>.mD j k m sz off
 | x=>x
abbrev ad9(i:Nat) (z:SC):SV->SV
 | .c x=>.c (VQ i z x)
 | .agg xs=>.agg (eU (VQ i z) xs)
 | v=>v
abbrev aea(i:Nat) (z:SC):bg->bg
 | .one v=>.one (ad9 i z v)
 | .iO vs=>.iO (eU (ad9 i z) vs)
abbrev VR(i:Nat) (z:SC):au->au
 | .blk t cs=>.blk t (eU (VQ i z) cs)
 | r=>r
abbrev pG(i:Nat) (z:SC):List (Nat×Gd×bg)->List (Nat×Gd×bg)
 | []=>[]
 | (k,g,e) :: r=>(k,g,aea i z e) :: pG i z r
abbrev uw(i:Nat) (z:SC):List (Gd×au)->List (Gd×au)
 | []=>[]
 | (g,r) :: t=>(g,VR i z r) :: uw i z t
abbrev Nb(s:St) (i:Nat):St:=match eH s.T i with
 | some ([],.row _ sh l)=>{ s with T:=dh (uw i (.sl sh l) s.T) i ([],.gone),env:=pG i (.sl sh l) s.env }
 | some ([],.deep _ sh l _ _ _ _ [])=>{ s with T:=dh (uw i (.sl sh l) s.T) i ([],.gone),env:=pG i (.sl sh l) s.env }
 | some ([],.mp k sh l)=>{ s with T:=dh (uw i (.one (.mp k sh) l) s.T) i ([],.gone),env:=pG i (.one (.mp k sh) l) s.env }
 | _=>s
abbrev nX(s:St):List Nat->St
 | []=>s
 | i :: r=>nX (Nb s i) r
abbrev SL:List SC->List Nat->List Nat
 | [],r=>r
 | x :: xs,r=>match x with
   | .row i=>i :: SL xs r
   | _=>SL xs r
abbrev rowsOf(cx:Cx) (s:St):List (Nat×Operand)->List Nat
 | []=>[]
 | (_,x) :: r=>match bJ cx s [] x with
   | some (.one (.c (.row i)))=>i :: rowsOf cx s r
   | some (.one (.agg xs))=>SL xs (rowsOf cx s r)
   | _=>rowsOf cx s r
abbrev J7(cx:Cx) (s:St) (d:Option Nat) (t:TypeId) (x y:Operand) (K:St->Prop):Prop:=iT cx t λel ie sh=>
 match bJ cx s [] x with
 | some (.one (.c (.abs (.Vt eX l1))))=>match jJ (.sl eX) l1 (.sl sh) with
   | some l=>match bJ cx s [] y with
     | some (.one v2)=>match PX s sh v2 with
       | some l2=>oH (l.length+l2.length) ie.bytes/\K ({ s with T:=snoc (uw (aO s.T) (.sl sh (l++l2)) s.T) ([],.gone),env:=pG (aO s.T) (.sl sh (l++l2)) s.env }.put d [] (.one (.c (.sl sh (l++l2)))))
       | none=>False
     | _=>False
   | none=>False
 | _=>False
abbrev Qb:List Value->Bool
 | []=>false
 | v :: l=>match l with
   | []=>match v with
     | .slice none 0 0=>true
     | _=>false
   | _ :: _=>false
theorem VT{l:List Value} (h:Qb l=true):l=[nU]:=by
 unfold Qb at h;split at h
 .cases h
 .split at h
  .split at h
   .rfl
   .cases h
  .cases h
abbrev ajn:Nat->Bool:=λ_=>true
abbrev Qc(cx:Cx) (s:St) (d:Option Nat) (t:TypeId) (ln cp:Operand) (K:St->Prop):Option Prop:=match descOf cx t with
 | .slice el=>match qx cx.ti el with
   | none=>none
   | some ie=>match ie.iQ with
     | some (.sl e)=>match descOf cx el with
       | .slice tt=>match dA (Nat.beq 1 ie.size) (dA (Nat.ble 1 ie.bytes) (Qb ie.zero)) with
         | true=>match bJ cx s [] ln with
           | some (.one (.c (.v (.int _ n))))=>match bJ cx s [] cp with
             | some (.one (.c (.v (.int _ c))))=>some ((0<=n/\n<=c/\oH c.toNat ie.bytes)/\K ({ s with T:=snoc s.T ([],.deep el (.sl e) (List.replicate n.toNat []) tt e 0 ajn []) }.put d [] (.one (.c (.row (aO s.T))))))
             | _=>none
           | _=>none
         | false=>none
       | _=>none
     | _=>none
 | _=>none
abbrev ajo(cx:Cx) (s:St) (o:Oper) (K:St->Prop):Option Prop:=match o.guard with
 | some _=>none
 | none=>match o.op with
   | .slice t x lo hi mx=>match mx with
     | some m=>match Io m with
       | true=>some (ajj cx s o.dst t x lo hi K)
       | false=>some (ajm cx s o.dst t x lo hi m K)
     | none=>match bJ cx s [] x with
       | some (.one (.c (.row i)))=>some (P7 cx s o.dst t i lo hi K)
       | some (.one (.c (.v (.slice none 0 0))))=>some (ajk cx s o.dst t lo hi K)
       | _=>none
   | .binOp op t x y t'=>match J6 op with
     | none=>none
     | some eq=>match bJ cx s [] y with
       | some (.one (.c (.v (.slice none 0 0))))=>match bJ cx s [] x with
         | some (.one (.c z))=>match dA (Qa z) (Yf cx t) with
           | true=>some (P9 s o.dst eq z K)
           | false=>none
         | _=>none
       | _=>none
   | .call c=>match c.callee with
     | .builtin .append=>match tl c.args with
       | [x,y]=>match tl c.argTypes with
         | [t,t']=>match Nat.beq t t' with
           | true=>match bJ cx s [] x with
             | some (.one (.c (.abs (.Vt _ _))))=>some (J7 cx s o.dst t x y K)
             | _=>none
           | false=>match bJ cx s [] x with
             | some (.one (.c (.v (.slice none 0 0))))=>some (Yg cx s o.dst t t' y K)
             | _=>none
         | _=>none
       | _=>none
     | .builtin .cap=>match tl c.args with
       | [x]=>match tl c.argTypes with
         | [t]=>some (ajl cx s o.dst t x K)
         | _=>none
       | _=>none
     | .builtin .max=>match tl c.args with
       | [x,y]=>some (P8 cx s o.dst x y K)
       | _=>none
     | _=>none
   | .makeSlice t ln cp=>match cx.dm with
     | true=>Qc cx s o.dst t ln cp K
     | false=>none
   | .buildSlice t n ps=>match rowsOf cx s (tl ps) with
     | []=>none
     | i :: r=>some (nH cx (nX s (i :: r)) [] o.dst t n (tl ps) K)
   | _=>none
section
variable {cx:Cx}{P:Program}{N:Nat}{B:Base}{h0:FH}{s:St}{h:FH}{β:List RV}{w:World}{a:Act}{o:Oper}{K:St->Prop}
theorem SN(le:h.le h') (hu:∃u,β[i]?=some u/\u.sl=some v) (sl:dS h' β z v){x:SC}{y:Value} (c:dS h β x y):dS h' β (VQ i z x) y:=by
 unfold VQ;split
 .rename_i j;split
  .rename_i hj;have:=iC hj;subst this;obtain⟨u,e,es⟩:=c;obtain⟨u',e',es'⟩:=hu;rw[e']at e;cases e;rw[es']at es;cases es;exact sl
  .exact dS.mono (x:=.row j) le (Ext.refl β) c
 .split
  .trivial
  .exact c.mono le (Ext.refl β)
 .split
  .trivial
  .exact c.mono le (Ext.refl β)
 .split
  .trivial
  .exact c.mono le (Ext.refl β)
 .split
  .trivial
  .exact c.mono le (Ext.refl β)
 .exact c.mono le (Ext.refl β)
theorem J8{h h':FH}{β:List RV}{i:Nat}{z:SC}{v:Value} (le:h.le h') (hu:∃u,β[i]?=some u/\u.sl=some v) (sl:dS h' β z v):∀{xs:List SC}{ys:List Value},
 aP (λx y=>dS h β x y/\dF y) xs ys->aP (λx y=>dS h' β x y/\dF y) (eU (VQ i z) xs) ys
 | [],[],_=>trivial
 | _ :: _,_ :: _,⟨a,b⟩=>⟨⟨SN le hu sl a.1,a.2⟩,J8 le hu sl b⟩
theorem aie(le:h.le h') (hu:∃u,β[i]?=some u/\u.sl=some v) (sl:dS h' β z v):∀{x:SV}{y:Value},cZ h β x y->cZ h' β (ad9 i z x) y
 | .c _,_,c=>⟨SN le hu sl c.1,c.2⟩
 | .agg _,_,⟨ys,e,a⟩=>⟨ys,e,J8 le hu sl a⟩
 | .dat s _,_,⟨g,cs,e,r⟩=>⟨g,cs,e,r.mono le s⟩
 | .und,_,c=>c
theorem anM(le:h.le h') (hu:∃u,β[i]?=some u/\u.sl=some v) (sl:dS h' β z v):∀{x:bg}{y:Value},jX h β x y->jX h' β (aea i z x) y
 | .one _,_,c=>aie le hu sl c
 | .iO _,_,⟨ys,e,a⟩=>⟨ys,e,go a⟩
where
 go:∀{xs:List SV}{ys:List Value},aP (cZ h β) xs ys->aP (cZ h' β) (eU (ad9 i z) xs) ys
  | [],[],_=>trivial
  | _ :: _,_ :: _,⟨a,b⟩=>⟨aie le hu sl a,go b⟩
theorem VU(le:h.le h') (hu:∃u,β[i]?=some u/\u.sl=some v) (sl:dS h' β z v):∀{r:au}{u:RV},Holds h β w r u->Holds h' β w (VR i z r) u
 | .blk _ _,.blk _,⟨ys,e,a⟩=>⟨ys,e,J8 le hu sl a⟩
 | .row _ s _,.row _,x=>mG.move le x λ_ _=>rfl
 | .deep _ _ _ _ _ _ _ _,.deep _ _,x=>dX.move le x λ_ _=>rfl
 | .mp k s l,.row v,x=>Holds.move (r:=.mp k s l) (v:=.row v) le (Ext.refl β) x λ_ _ _=>rfl
 | .O5 k s l n,.deep v us,x=>Holds.move (r:=.O5 k s l n) (v:=.deep v us) le (Ext.refl β) x λ_ _ _=>rfl
 | .L9 _ _ _ _,.row _,x=>x
 | .IJ _ _ _ _,.deep _ _,x=>EJ.move le x λ_ _=>rfl
 | .it k s l dn,.blk v,x=>Holds.move (r:=.it k s l dn) (v:=.blk v) le (Ext.refl β) x λ_ _ _=>rfl
 | .obj _ s _,.blk _,⟨ys,e,r⟩=>⟨ys,e,r.mono le s⟩
 | .gone,_,_=>trivial
theorem BX(i:Nat) (z:SC) (r:au):(VR i z r).live=r.live:=by cases r<;>rfl
theorem J9{i:Nat}{z:SC}:∀{env:List (Nat×Gd×bg)}{t:Nat}{G:Gd}{e:bg},iG (pG i z env) t=some (G,e)->∃e0,iG env t=some (G,e0)/\e=aea i z e0
 | [],_,_,_,h=>by simp[pG,iG]at h
 | (k,g,e0) :: r,t,G,e,h=>by
   simp only[pG]at h;rw[aX]at h ⊢
   split at h
   .rename_i hk;cases h;exact⟨e0,by rw[if_pos hk],rfl⟩
   .rename_i hk;rw[if_neg hk];exact J9 h
theorem Nc{i:Nat}{z:SC}:∀{env:List (Nat×Gd×bg)}{t:Nat}{G:Gd}{e:bg},iG env t=some (G,e)->iG (pG i z env) t=some (G,aea i z e)
 | [],_,_,_,h=>by simp[iG]at h
 | (k,g,e0) :: r,t,G,e,h=>by
   simp only[pG];rw[aX]at h ⊢
   split at h
   .rename_i hk;cases h;rw[if_pos hk]
   .rename_i hk;rw[if_neg hk];exact Nc h
theorem SX(gl:List Bool) (i:Nat) (z:SC):∀{T:List (Gd×au)},eff gl (uw i z T)=(eff gl T).map (VR i z)
 | []=>rfl
 | (g,r) :: t=>by
   simp only[uw,eff,Vd,SX gl i z (T:=t)]
   congr 1
   cases gv gl g<;>rfl
theorem SY{i:Nat}{z:SC}{p:Gd×au}:∀{T:List (Gd×au)},p∈uw i z T->∃q∈T,q.1=p.1
 | [],h=>by simp[uw]at h
 | (g,r) :: t,h=>by
   simp only[uw,ng]at h;rcases h with rfl | h
   .exact⟨(g,r),by simp,rfl⟩
   .obtain⟨q,h1,h2⟩:=SY h;exact⟨q,by simp[h1],h2⟩
theorem Sat.Ko(aj:Sat N B h0 s h β w a){r:au} (fZ:(eff s.gl s.T)[i]?=some r) (hu:β[i]?=some u) (hus:u.sl=some v) (le:h.le h') (ok':OK B h0 ((eff s.gl s.T).set i .gone) h' β w) (sl:dS h' β z v):
 Sat N B h0 { s with T:=dh (uw i z s.T) i ([],.gone),env:=pG i z s.env } h' β w a:=by
 have hu:∃u,β[i]?=some u/\u.sl=some v:=⟨u,hu,hus⟩;refine⟨?_,?_,?_,aj.defers,aj.sz,?_,?_⟩
 .show OK B h0 (eff s.gl (dh (uw i z s.T) i ([],.gone))) h' β w;rw[fV,SX];have key:∀{j:Nat}{r:au},(((eff s.gl s.T).map (VR i z)).set i .gone)[j]?=some r->∃r0,((eff s.gl s.T).set i .gone)[j]?=some r0/\r=VR i z r0:=by
   intro j r e
   by_cases hj:j=i
   .subst hj;have gZ:j < (eff s.gl s.T).length:=(eG.1 fZ).1;rw[qc (by simpa using gZ)]at e
    cases e;exact⟨.gone,by rw[qc gZ],rfl⟩
   .rw[l9 (Ne.symm hj),DI]at e;cases hj':(eff s.gl s.T)[j]? with
    | none=>rw[hj']at e;cases e
    | some r0=>rw[hj']at e;cases e;exact⟨r0,by rw[l9 (Ne.symm hj)];exact hj',rfl⟩
  exact {
   below:=ok'.below
   dr:=ok'.dr
   len:=by have:=ok'.len;simpa using this
   holds:=λj r v' e e'=>by
    obtain⟨r0,e0,rfl⟩:=key e
    by_cases hj:j=i
    .subst hj;have gZ:j < (eff s.gl s.T).length:=(eG.1 fZ).1;rw[qc gZ]at e0;cases e0;cases v'<;>trivial
    .rw[l9 (Ne.symm hj)]at e0;exact VU le hu sl (aj.ok.holds j r0 v' e0 e')
   own:=λj r v' b e hl e' hb=>by
    obtain⟨r0,e0,rfl⟩:=key e;exact ok'.own j r0 v' b e0 (by rw[<-BX i z];exact hl) e' hb
   inj:=λj k r1 r2 u v' b e1 l1 e2 l2 e3 e4 b1 b2=>by
    obtain⟨r0,f1,rfl⟩:=key e1;obtain⟨r0',f2,rfl⟩:=key e2;exact ok'.inj j k r0 r0' u v' b f1 (by rw[<-BX i z];exact l1) f2 (by rw[<-BX i z];exact l2) e3 e4 b1 b2
   hle:=ok'.hle
   hw:=ok'.hw
   hg:=ok'.hg
   kn:=ok'.kn }
 .intro t' G e ht;obtain⟨e0,h1,rfl⟩:=J9 ht;obtain⟨z,q1,q2,q3⟩:=aj.env t' G e0 h1;exact⟨z,q1,λhG=>anM le hu sl (q2 hG),q3⟩
 .intro d j hj;obtain⟨G,b,q1,q2⟩:=aj.gs d j hj;exact⟨G,b,Nc q1,q2⟩
 .intro t' G e ht;obtain⟨e0,h1,rfl⟩:=J9 ht;exact aj.gb t' G e0 h1
 .intro p hp;simp only at hp;rw[gJ]at hp;rcases JF hp with hp | hp
  .obtain⟨q,h1,h2⟩:=SY hp;rw[<-h2];exact aj.gT q h1
  .subst hp;rfl
theorem S9{k:IntKind}{sh:Sh}{l:List (Int×sh.den)} (x:Holds h β w (.mp k sh l) (.row v)) (le:h.le h') (hb:∀b,(RV.row v).has b->∀o z,vis w b o=some z->h' b o=some z):Rd h' (.mp k sh) [v] l:=by
 obtain⟨b,es,c,e,e1,m⟩:=x;exact⟨v,rfl,.inr ⟨b,es,c,e,hb b (aY.2 (by rw[e];rfl)) _ _ (RJ e1),m.mono λ_ _=>DW.mono le⟩⟩
theorem Sat.ajp(aj:Sat N B h0 s h β w a) (i:Nat):∃h',h.le h'/\Sat N B h0 (Nb s i) h' β w a:=by
 unfold Nb;split
 .rename_i t sh l hT;have fZ:(eff s.gl s.T)[i]?=some (.row t sh l):=by rw[jI,<-fJ,hT];rfl
  have gZ:i < β.length:=by rw[aj.ok.len];exact(eG.1 fZ).1
  have hu:=kR gZ;have hold:=aj.ok.holds i _ _ fZ hu;cases hb:β[i]with
  | blk b=>rw[hb]at hold;cases hold
  | no=>rw[hb]at hold;cases hold
  | deep _ _=>rw[hb]at hold;cases hold
  | row v=>
    rw[hb]at hold hu;obtain⟨h',le,ok',sl⟩:=aj.ok.freeze fZ hu;exact⟨h',le,aj.Ko (z:=.sl sh l) fZ hu rfl le ok' sl⟩
 .rename_i t sh l t2 e so own hT;have fZ:(eff s.gl s.T)[i]?=some (.deep t sh l t2 e so own []):=by rw[jI,<-fJ,hT];rfl
  have gZ:i < β.length:=by rw[aj.ok.len];exact(eG.1 fZ).1
  have hu:=kR gZ;have hold:=aj.ok.holds i _ _ fZ hu;cases hb:β[i]with
  | blk b=>rw[hb]at hold;cases hold
  | no=>rw[hb]at hold;cases hold
  | row _=>rw[hb]at hold;cases hold
  | deep v us=>
    rw[hb]at hold hu;obtain⟨le,ok',vis⟩:=aj.ok.wR fZ rfl hu;exact⟨_,le,aj.Ko (z:=.sl sh l) fZ hu rfl le ok' (dX.data hold le λb hb o z hz=>vis b hb o z hz)⟩
 .rename_i k sh l hT;have fZ:(eff s.gl s.T)[i]?=some (.mp k sh l):=by rw[jI,<-fJ,hT];rfl
  have gZ:i < β.length:=by rw[aj.ok.len];exact(eG.1 fZ).1
  have hu:=kR gZ;have hold:=aj.ok.holds i _ _ fZ hu;cases hb:β[i]with
  | blk b=>rw[hb]at hold;cases hold
  | no=>rw[hb]at hold;cases hold
  | deep _ _=>rw[hb]at hold;cases hold
  | row v=>
    rw[hb]at hold hu;obtain⟨le,ok',vs⟩:=aj.ok.wR fZ rfl hu;exact⟨_,le,aj.Ko (z:=.one (.mp k sh) l) fZ hu rfl le ok' (S9 hold le λb hb o z hz=>vs b hb o z hz)⟩
 .exact⟨h,FH.le.refl h,aj⟩
theorem Sat.H6:∀{l:List Nat}{s:St}{h:FH},Sat N B h0 s h β w a->∃h',h.le h'/\Sat N B h0 (nX s l) h' β w a
 | [],s,h,aj=>⟨h,FH.le.refl h,aj⟩
 | i :: r,s,h,aj=>by
   obtain⟨h1,le1,jv⟩:=aj.ajp i;obtain⟨h2,iD,bF⟩:=Sat.H6 (l:=r) jv;exact⟨h2,le1.trans iD,bF⟩
theorem Dq.le{h h':FH}{b:Bool} (le:h.le h') (k:Dq P N B h0 h' w a o b K):Dq P N B h0 h w a o b K:=λNx Q next=>k Nx Q λs' h2 β' w' v k' le' aj=>next s' h2 β' w' v k' (le.trans le') aj
theorem Yh{y:SC} (hy:Ye y=true) (c:dS h β y v):∃ad len cap,v=.slice ad len cap/\len<=cap/\(ad=none->len=0/\cap=0):=by
 unfold Ye at hy;split at hy
 .rcases c with⟨rfl,_⟩ | ⟨ad,cap,rfl,_⟩ | ⟨b,off,cap,rfl,h1,_⟩
  .exact⟨none,0,0,rfl,qm _,λ_=>⟨rfl,rfl⟩⟩
  .exact⟨some ad,0,cap,rfl,Hz _,λh=>by cases h⟩
  .exact⟨_,_,cap,rfl,h1,λh=>by cases h⟩
 .split at hy
  .obtain⟨rfl,_⟩:=c;exact⟨none,0,0,rfl,qm _,λ_=>⟨rfl,rfl⟩⟩
  .cases hy
 .cases hy
theorem Yi(hc:bK P cx.ti) (aj:Sat N B h0 s h β w a) (hg:aJ cx.gd h) (hd:l7 N o.dst=true){x m:Operand} (ho:o.op=.slice t x lo hi (some m)) (hm:Io m=true)
 (k:ajj cx s o.dst t x lo hi K):Dq P N B h0 h w a o true K:=by
 have tr:gv s.gl []=true:=rfl;unfold ajj at k;split at k
 .rename_i el hde;have hu:=bG hc hde (by simp)
  split at k
  .cases k
  rename_i ie hie;have tie:=hc.get hie;split at k
  .cases k
  rename_i sh hsh;split at k
  .rename_i y hy;split at k
   .rename_i hz;rw[aC,aC,A8,A8]at hz;obtain⟨hz1,hz2,hz3⟩:=hz;have cy:=(aN aj hg tr hy:cZ h β (.c y) (a.eval x));obtain⟨ad,len,cap,ev,hle,hnil⟩:=Yh hz1 cy.1;obtain⟨km,rfl⟩:=zV hm;obtain⟨hx,rfl⟩:∃x,hi=some x:=by cases hi with | none=>simp[anL]at hz3 | some x=>exact⟨x,rfl⟩
    obtain⟨kh,rfl⟩:=zV (show Io hx=true from hz3)
    have run:(Instr.sliceAt t (a.eval x) (lo.map a.eval) ((some (Operand.const (.int kh 0))).map a.eval) ((some (Operand.const (.int km 0))).map a.eval)).run P w=.ok (.slice ad 0 0) w:=by
     rw[ev];have e1:(Instr.sliceBounds true len cap (lo.map a.eval) (some (.int kh 0)) (some (.int km 0))).run P w=.ok (0,0,0) w:=by
      cases lo with
      | none=>simp[Instr.sliceBounds,Instr.sliceBound,asIntOf]
      | some z=>
        obtain⟨kz,rfl⟩:=zV (show Io z=true from hz2)
        simp[Instr.sliceBounds,Instr.sliceBound,asIntOf,Act.eval]
     simp only[Instr.sliceAt,Instr.slice,Sem.run_bind,run_underlying hu,Result.andThen_ok,Xh,Act.eval,e1,run_sizeOf tie,Sem.run_pure];simp
    have nw:=lH (P:=P) aj (o:=o) (G:=[]) rfl hd (r:=.row el sh []) (e:=.one (.c (.row (aO s.T)))) (K:=K) k λ_=>
     ⟨.slice ad 0 0,w,.row (.slice ad 0 0),by simp only[execOp,ho,Sem.run_bind];rw[run];rfl,bW _ _,λb hb=>by rw[aY]at hb;cases ad<;>simp[aA]at hb,by
      cases ad with
      | none=>exact .inl ⟨rfl,rfl⟩
      | some ad=>exact .inr (.inl ⟨ad,rfl,rfl⟩),by
      refine⟨⟨_,kL (lI aj) _,rfl⟩,rfl,rfl⟩⟩
    exact nw.weak
   .cases k
  .cases k
 .cases k
theorem pI(aj:Sat N B h0 s h β w a) (hd:l7 N o.dst=true){e:bg} (run:(execOp a.eval o).run P w=.ok (.value v) w) (c:jX h β e v) (k:K (s.put o.dst [] e)):Dq P N B h0 h w a o true K:=by
 intro Nx Q next
 rw[if_pos rfl];exact kK run (next _ _ _ _ _ k (FH.le.refl h) (aj.put (dP hd) rfl (λ_=>c) λhh=>by cases hh))
theorem Qd(hc:bK P cx.ti) (aj:Sat N B h0 s h β w a) (hg:aJ cx.gd h) (hd:l7 N o.dst=true){x:Operand} (ho:o.op=.slice t x lo hi none)
 (hx:bJ cx s [] x=some (.one (.c (.row i)))) (k:P7 cx s o.dst t i lo hi K):Dq P N B h0 h w a o true K:=by
 have tr:gv s.gl []=true:=rfl;unfold P7 at k;split at k
 .rename_i el hde;have hu:=bG hc hde (by simp)
  split at k
  .cases k
  rename_i ie hie;have tie:=hc.get hie;split at k
  .cases k
  rename_i hlo;split at k
  .cases k
  rename_i hh;split at k
  .rename_i ik n hn;split at k
   .rename_i el' sh l hT;obtain⟨hb,k⟩:=k;have ch:=(aN aj hg tr hn:cZ h β (.c (.v (.int ik n))) (a.eval hh));have eh:a.eval hh=.int ik n:=ch.1.1;have cr:=(aN aj hg tr hx:cZ h β (.c (.row i)) (a.eval x));have hβ:β[i]?=some (.row (a.eval x)):=aj.ok.row_of (bD hT tr) cr.1;have hold:=aj.ok.holds i _ _ (bD hT tr) hβ;have hi':i < β.length:=(eG.1 hβ).1;have ajq:(lo.map a.eval=none/\(0:Int)=0)\/∃k,lo.map a.eval=some (.int k 0):=by
     cases lo with
     | none=>exact .inl ⟨rfl,rfl⟩
     | some z=>
       obtain⟨kz,rfl⟩:=zV (show Io z=true from hlo)
       exact .inr ⟨kz,rfl⟩
    have run:∀(ad:Option Addr) (cap:Nat),a.eval x=.slice ad l.length cap->l.length<=cap->(execOp a.eval o).run P w=.ok (.value (.slice ad n.toNat cap)) w:=by
     intro ad cap ev hle;have:=o8 (P:=P) (w:=w) (isS:=true) (len:=l.length) (cap:=cap) (lo:=lo.map a.eval) (hi:=some (.int ik n)) (a:=0) (b:=n) ajq (.inr ⟨ik,rfl⟩) (by omega) hle
     have r2:(Instr.sliceAt t (a.eval x) (lo.map a.eval) ((some hh).map a.eval) none).run P w=.ok (.slice ad n.toNat cap) w:=by
      rw[ev];simp only[Instr.sliceAt,Instr.slice,Sem.run_bind,run_underlying hu,Result.andThen_ok,Xh,eh,this,run_sizeOf tie,Sem.run_pure];cases ad<;>simp[Addr.add]
     simp only[execOp,ho,Sem.run_bind,adM];rw[r2];rfl
    have fin:∀(v':Value),(execOp a.eval o).run P w=.ok (.value v') w->(∀b,aA v'=some b->aA (a.eval x)=some b)->Holds h (β.set i (.row v')) w (.row el' sh (l.take n.toNat)) (.row v')->dF v'->Dq P N B h0 h w a o true K:=by
     intro v' r hv hold' h1;intro Nx Q next
     rw[if_pos rfl];refine kK r (next _ _ _ _ _ k (FH.le.refl h) ((Yd aj hT rfl hβ (bW _ _) (v:=.row v') (λb hb=>.inl (hv b hb)) (hold:=hold')).put (dP hd) rfl (λ_=>⟨?_,h1⟩) λhh=>by cases hh))
     refine⟨.row v',?_,rfl⟩;rw[qc hi']
    rcases hold with⟨ev,hl⟩ | ⟨ra,ev,hl⟩ | ⟨g,cap,cur,ev,q1,q2,q3,q4,q5⟩
    .have hn0:n.toNat=0:=by rw[hl]at hb;simp at hb;omega
     refine fin _ (run none 0 (by rw[ev,hl];rfl) (by rw[hl];exact qm _)) (λb hb=>by simp[aA]at hb) (.inl ⟨by rw[hn0],by rw[hl];simp⟩) ⟨rfl,rfl⟩
    .have hn0:n.toNat=0:=by rw[hl]at hb;simp at hb;omega
     refine fin _ (run (some ra) 0 (by rw[ev,hl];rfl) (by rw[hl];exact qm _)) (λb hb=>by simp[aA]at hb) (.inr (.inl ⟨ra,by rw[hn0],by rw[hl];simp⟩)) ⟨rfl,rfl⟩
    .have hlen:(l.take n.toNat).length=n.toNat:=by rw[lZ];omega
     refine fin _ (run (some ⟨g,0,none⟩) cap ev q2) (λb hb=>by rw[ev,aV q3.1];rw[aV q3.1]at hb;exact hb) (.inr (.inr ⟨g,cap,cur,by rw[hlen],q1,by rw[hlen];omega,q3,q4,?_⟩)) ⟨rfl,rfl⟩
     have:=gI.vO (λ_ _=>Rd.size sh) q5 (a:=0) (b:=n.toNat) (Hz _) (by omega)
     simp only[Po,RI]at this;rw[hlen];rw[List.take_take,JH (zf _ (by omega))]at this
     exact this
   .cases k
  .cases k
 .cases k
theorem Yj(hc:bK P cx.ti) (aj:Sat N B h0 s h β w a) (hg:aJ cx.gd h) (hd:l7 N o.dst=true){x:Operand} (ho:o.op=.slice t x lo hi none)
 (hx:bJ cx s [] x=some (.one (.c (.v (.slice none 0 0))))) (k:ajk cx s o.dst t lo hi K):Dq P N B h0 h w a o true K:=by
 have tr:gv s.gl []=true:=rfl;unfold ajk at k;split at k
 .rename_i el hde;have hu:=bG hc hde (by simp)
  split at k
  .cases k
  rename_i ie hie;have tie:=hc.get hie;split at k
  .cases k
  rename_i p hp;split at k
  .cases k
  rename_i q hq;obtain⟨hb,k⟩:=k;have IX:=(aN aj hg tr hx:cZ h β (.c (.v (.slice none 0 0))) (a.eval x));have ev:a.eval x=.slice none 0 0:=IX.1.1;have bnd:∀{o:Option Operand}{n:Int},Ik cx s [] o 0=some n->(o.map a.eval=none/\n=0)\/∃k,o.map a.eval=some (.int k n):=by
   intro o n e;rcases Sm aj hg tr e with⟨rfl,rfl⟩ | ⟨x,ik,rfl,e'⟩
   .exact .inl ⟨rfl,rfl⟩
   .exact .inr ⟨ik,by simp[e']⟩
  have:=o8 (P:=P) (w:=w) (isS:=true) (len:=0) (cap:=0) (bnd hp) (bnd hq) (by simpa using hb) (qm _)
  refine pI aj hd (v:=.slice none 0 0) (e:=.one (.c (.v (.slice none 0 0)))) ?_ ⟨⟨rfl,rfl,rfl⟩,rfl,rfl⟩ k;have h1:p.toNat=0:=by omega
  have h2:q.toNat=0:=by omega
  have r2:(Instr.sliceAt t (a.eval x) (lo.map a.eval) (hi.map a.eval) none).run P w=.ok (.slice none 0 0) w:=by
   rw[ev];simp only[Instr.sliceAt,Instr.slice,Sem.run_bind,run_underlying hu,Result.andThen_ok,this,run_sizeOf tie,Sem.run_pure,h1,h2];simp
  simp only[execOp,ho,Sem.run_bind,adM];rw[r2];rfl
 .cases k
theorem Yk(hc:bK P cx.ti) (aj:Sat N B h0 s h β w a) (hg:aJ cx.gd h) (hd:l7 N o.dst=true){x:Operand} (ho:o.op=.call c) (bU:c.callee=.builtin .cap) (ha:c.args=#[x]) (ht:c.argTypes=#[t])
 (k:ajl cx s o.dst t x K):Dq P N B h0 h w a o true K:=by
 have tr:gv s.gl []=true:=rfl;unfold ajl at k;split at k
 .rename_i el hde;have hu:=bG hc hde (by simp)
  split at k
  .rename_i hx;have IX:=(aN aj hg tr hx:cZ h β (.c (.v (.slice none 0 0))) (a.eval x));have ev:a.eval x=.slice none 0 0:=IX.1.1;refine pI aj hd (v:=goInt 0) (e:=vI .i64 0) ?_ ⟨⟨rfl,bH _ _⟩,bH _ _⟩ k;simp[execOp,ho,resolve,bU,ha,ht,invoke,builtin,ev,Builtin.cap_,run_underlying hu]
  .cases k
 .cases k
theorem Ym(aj:Sat N B h0 s h β w a) (hg:aJ cx.gd h) (hd:l7 N o.dst=true){x:Operand} (ho:o.op=.call c) (bU:c.callee=.builtin .max) (ha:c.args=#[x,y])
 (k:P8 cx s o.dst x y K):Dq P N B h0 h w a o true K:=by
 have tr:gv s.gl []=true:=rfl;unfold P8 at k;split at k
 .rename_i n hx;have ex:a.eval x=.int .i64 n:=(aN aj hg tr hx:cZ h β (.c (.v (.int .i64 n))) (a.eval x)).1.1;split at k
  .rename_i m hy;have ey:a.eval y=.int .i64 m:=(aN aj hg tr hy:cZ h β (.c (.v (.int .i64 m))) (a.eval y)).1.1;refine pI aj hd (v:=.int .i64 (fM n m)) (e:=vI .i64 (fM n m)) ?_ ⟨⟨rfl,bH _ _⟩,bH _ _⟩ k;simp[execOp,ho,resolve,bU,ha,invoke,builtin,ex,ey,Builtin.max_,Builtin.max2,fM]
  .cases k
 .cases k
theorem VW(hu:P.underlying t=some (.slice el)) (ad:Option Addr) (n c:Nat) (op:BinOp) (eq:Bool) (he:J6 op=some eq) (x y:Operand):
 (eqGuard op t x y (.slice ad n c) (.slice none 0 0)).run P w=.ok () w/\(binOp op t (.slice ad n c) (.slice none 0 0)).run P w=.ok (.bool (cnd eq ad.isNone (!ad.isNone))) w:=by
 refine⟨uo P op t x y (by rfl) w,?_⟩
 have key:∀d,(Op.equalIn (d+1) t (.slice ad n c) (.slice none 0 0)).run P w=.ok ad.isNone w:=by
  intro d;cases ad<;>simp[Op.equalIn,run_underlying hu]
 have k2:=key 9999;have hq2:Op.equal t (.slice ad n c) (.slice none 0 0)=Op.equalIn (9999+1) t (.slice ad n c) (.slice none 0 0):=rfl;unfold J6 at he;split at he
 .cases he;have e:(binOp .eql t (.slice ad n c) (.slice none 0 0)).run P w=((Op.equal t (.slice ad n c) (.slice none 0 0)).run P w).andThen λb w=>.ok (.bool b) w:=by
   simp only[binOp];generalize Op.equal t (.slice ad n c) (.slice none 0 0)=q;simp
  rw[e,hq2,k2];rfl
 .cases he;have e:(binOp .neq t (.slice ad n c) (.slice none 0 0)).run P w=((Op.equal t (.slice ad n c) (.slice none 0 0)).run P w).andThen λb w=>.ok (.bool (!b)) w:=by
   simp only[binOp];generalize Op.equal t (.slice ad n c) (.slice none 0 0)=q;simp
  rw[e,hq2,k2];rfl
 .cases he
theorem Qe(hc:bK P cx.ti) (aj:Sat N B h0 s h β w a) (hg:aJ cx.gd h) (hd:l7 N o.dst=true){t':TypeId}{x:Operand}{op:BinOp}{eq:Bool} (ho:o.op=.binOp op t x y t') (he:J6 op=some eq)
 (hy:bJ cx s [] y=some (.one (.c (.v (.slice none 0 0))))) (hx:bJ cx s [] x=some (.one (.c z))) (hz:Qa z=true) (ht:Yf cx t=true) (k:P9 s o.dst eq z K):Dq P N B h0 h w a o true K:=by
 have tr:gv s.gl []=true:=rfl;obtain⟨el,hu⟩:∃el,P.underlying t=some (.slice el):=by
  unfold Yf at ht;split at ht
  .rename_i el hde;exact⟨el,bG hc hde (by simp)⟩
  .cases ht
 have cy:=(aN aj hg tr hy:cZ h β (.c (.v (.slice none 0 0))) (a.eval y));have ey:a.eval y=.slice none 0 0:=cy.1.1;have cz:=(aN aj hg tr hx:cZ h β (.c z) (a.eval x));have exec:∀ad n c,a.eval x=.slice ad n c->(execOp a.eval o).run P w=.ok (.value (.bool (cnd eq ad.isNone (!ad.isNone)))) w:=by
  intro ad n c e;obtain⟨g1,g2⟩:=VW (P:=P) (w:=w) hu ad n c op eq he x y;simp only[execOp,ho,Sem.run_bind,e,ey,g1,g2,Result.andThen_ok,Sem.run_pure]
 have fin:∀ad n c (b:Bool),a.eval x=.slice ad n c->K (s.put o.dst [] (vB (cnd eq ad.isNone (!ad.isNone))))->Dq P N B h0 h w a o true K:=λad n c b e k=>
  pI aj hd (e:=vB (cnd eq ad.isNone (!ad.isNone))) (exec ad n c e) ⟨⟨rfl,bY _⟩,bY _⟩ k
 unfold P9 at k;split at k
 .rename_i v;unfold Qa at hz;have ev:a.eval x=.slice none 0 0:=by
   simp only at hz;split at hz
   .exact cz.1.1
   .cases hz
  refine fin none 0 0 true ev ?_;cases eq<;>exact k
 .rename_i sh l;rcases cz.1 with⟨e,hl⟩ | ⟨ad,cap,e,hl,_⟩ | ⟨b,off,cap,e,_⟩
  .exact fin _ _ _ true e (k true λ_=>hl)
  .exact fin _ _ _ true e (k false λhh=>by cases hh)
  .exact fin _ _ _ true e (k false λhh=>by cases hh)
 .rename_i i;split at k
  .rename_i t2 sh l hT;have hβ:β[i]?=some (.row (a.eval x)):=aj.ok.row_of (bD hT tr) cz.1;rcases aj.ok.holds i _ _ (bD hT tr) hβ with⟨e,hl⟩ | ⟨ra,e,hl⟩ | ⟨g,cap,cur,e,_⟩
   .exact fin _ _ _ true e (k true λ_=>hl)
   .exact fin _ _ _ true e (k false λhh=>by cases hh)
   .exact fin _ _ _ true e (k false λhh=>by cases hh)
  .cases k
 .cases k
theorem Yn{t' ty:TypeId}{i:TypeInfo}{z:Value} (ht:P.underlying t=some (.slice el)) (ht':P.underlying t'=some (.int .i64)) (hi:P.info? el=some i) (hz:i.zero=some z) (hs:1<=i.size) (n:Nat) (h0:0 < n) (h48:n * i.bytes<=140737488355328) (hb:1<=i.bytes):
 (Builtin.append_ #[t,t'] ty #[.slice none 0 0,.int .i64 n]).run P w =
  .ok (.slice (some ⟨w.heap.size,0,none⟩) n (grownCap w n 0 el)) (w.drew.alloc (.cells (Builtin.zeroCells z.cells n++Builtin.zeroCells z.cells (grownCap w n 0 el - n)) el)):=by
 have hn63:n<=140737488355328:=qP (A78 _ hb) h48;have hn:n≠0:=by omega
 have hw:IntKind.i64.wrap (n:Int)=n:=by simp[IntKind.wrap,IntKind.bits,IntKind.signed];omega
 have hneg:¬((n:Int) < 0):=by omega
 have h48i:¬((281474976710656:Int) < (n:Int) * (i.bytes:Int)):=by
  have:((n * i.bytes:Nat):Int)<=140737488355328:=by omega
  rw[Int.natCast_mul]at this;omega
 have h63':¬(9223372036854775807 < (n:Int)):=by omega
 have h48':¬(281474976710656 < Builtin.nextslicecap n 0 * i.bytes):=by rw[nextslicecap_zero h0];omega
 have hns:¬(n * i.size=0):=by
  intro hh;rcases Nat.mul_eq_zero.1 hh with h | h<;>omega
 have aqa:¬(i.size=0):=by omega
 simp[Builtin.append_,run_underlying ht,run_underlying ht',sizeOf,typeInfo,zeroValue,hi,hz,Builtin.lenOf,hn,hw,hneg,h48i,h63',h48',Question.forced,run_firstCells_none,newRow,grownCap,asInt,asIntOf,hns,aqa]
theorem VX(hc:bK P cx.ti) (aj:Sat N B h0 s h β w a) (hg:aJ cx.gd h) (hd:l7 N o.dst=true){t':TypeId}{x:Operand} (ho:o.op=.call c) (bU:c.callee=.builtin .append) (ha:c.args=#[x,y]) (ht:c.argTypes=#[t,t'])
 (hx:bJ cx s [] x=some (.one (.c (.v (.slice none 0 0))))) (k:Yg cx s o.dst t t' y K):Dq P N B h0 h w a o true K:=by
 have tr:gv s.gl []=true:=rfl;unfold Yg at k;split at k
 .rename_i hdi;have hui:=bG hc hdi (by simp)
  split at k
  .rename_i el hde;have hu:=bG hc hde (by simp)
   split at k
   .cases k
   rename_i ie hie;have tie:=hc.get hie;split at k
   .cases k
   rename_i sh hsh;split at k
   .rename_i hz;rw[aC,aC,A8,A8]at hz;have hz1:sh.size=ie.size:=iC hz.1;have hz2:1<=ie.bytes:=qO hz.2.1;have hz3:1<=ie.size:=qO hz.2.2;split at k
    .rename_i n hn;obtain⟨⟨hn0,hroom⟩,k⟩:=k;have ex:a.eval x=.slice none 0 0:=(aN aj hg tr hx:cZ h β (.c (.v (.slice none 0 0))) (a.eval x)).1.1;have ey:a.eval y=.int .i64 n:=(aN aj hg tr hn:cZ h β (.c (.v (.int .i64 n))) (a.eval y)).1.1;obtain⟨inf,z,i1,i2,i3,i4,i5⟩:=tie.info;obtain⟨m,rfl⟩:∃m:Nat,n=m:=⟨n.toNat,by omega⟩
     rw[A95]at hroom k;unfold oH at hroom;refine gK.weak (lH (P:=P) aj (o:=o) (G:=[]) rfl hd (r:=.row el sh (List.replicate m (rQ sh))) (e:=.one (.c (.row (aO s.T)))) (K:=K) k λ_=>?_)
     by_cases hm:m=0
     .subst hm;refine⟨.slice none 0 0,w,.row (.slice none 0 0),?_,bW _ _,λb hb=>by rw[aY]at hb;simp[aA]at hb,.inl ⟨rfl,rfl⟩,⟨_,kL (lI aj) _,rfl⟩,rfl,rfl⟩
      simp[execOp,ho,resolve,bU,ha,ht,invoke,builtin,ex,ey,Builtin.append_,run_underlying hu,run_underlying hui,sizeOf,typeInfo,i1,asInt,asIntOf,IntKind.wrap,IntKind.bits,IntKind.signed]
     .have r:=Yn (P:=P) (w:=w) (ty:=o.type) hu hui i1 i4 (by omega) m (by omega) (by rw[i3];exact hroom) (by omega)
      have hge:=grownCap_ge w m 0 el;have hle:m<=140737488355328:=qP (A78 _ hz2) hroom;refine⟨.slice (some ⟨w.heap.size,0,none⟩) m (grownCap w m 0 el),w.drew.alloc (.cells (Builtin.zeroCells z.cells m++Builtin.zeroCells z.cells (grownCap w m 0 el - m)) el),.row (.slice (some ⟨w.heap.size,0,none⟩) m (grownCap w m 0 el)),?_,⟨⟨rfl,rfl,rfl,by simp,λk hk _=>(World.grownBy_alloc w.drew _ none).block k hk (by simp)⟩,BI _⟩,?_,?_,⟨_,kL (lI aj) _,rfl⟩,rfl,rfl⟩
      .simp only[execOp,ho,resolve,bU,ha,ht,invoke,builtin,Sem.run_bind,Sem.run_pure,Result.andThen_ok];simp[ex,ey,r]
      .intro b hb;rw[aY]at hb;simp[aA]at hb;obtain⟨_,rfl⟩:=hb;simp
      .have X6:z.cells.size=ie.size:=by rw[i5];simpa using tie.qg
       have hzz:∀q,Builtin.zeroCells z.cells q=(iJ q ie.zero).toArray:=by
        intro q;unfold Builtin.zeroCells;rw[i5];have:=rW (zero:=ie.zero) (n:=q) (by rw[tie.qg];omega)
        simpa using this
       refine .inr (.inr ⟨w.heap.size,_,_,by rw[LU],heap_alloc_new w.drew _,by rw[LU];omega,⟨by omega,grownCap_le_maxLen w m 0 el (by simp only[maxLen];omega)⟩,?_,?_⟩)
       .simp only[A86,size_zeroCells,X6,hz1,<-LY];congr 1;omega
       .rw[LU,hzz,hzz];simp only[A97,List.toList_toArray];rw[A84 (by rw[vW,tie.qg,hz1];exact qm _),hz1,<-tie.qg,BU (qm _)]
        exact JY (zH (tie.XM sh hsh).1) _
    .cases k
   .cases k
  .cases k
 .cases k
theorem Tc{l:List Value}:∀{m j:Nat},j < m->((iJ m l).drop (j * l.length)).take l.length=l
 | m+1,0,_=>by simp[iJ,fU]
 | m+1,j+1,h=>by
   simp only[iJ,fU];rw[yF,XC,A75];exact Tc (by omega)
theorem Qg(hc:bK P cx.ti) (aj:Sat N B h0 s h β w a) (hg:aJ cx.gd h) (hd:l7 N o.dst=true){x:Operand} (ho:o.op=.makeSlice t x y){p:Prop}
 (hp:Qc cx s o.dst t x y K=some p) (k:p):Dq P N B h0 h w a o true K:=by
 have tr:gv s.gl []=true:=rfl;unfold Qc at hp;split at hp
 .rename_i el hde;have hu:=bG hc hde (by simp)
  split at hp
  .cases hp
  rename_i ie hie;have tie:=hc.get hie;split at hp
  .rename_i e hsh;split at hp
   .rename_i tt hte;split at hp
    .rename_i hz;rw[aC,aC,A8,A8]at hz;have hz1:1=ie.size:=iC hz.1;have hz2:1<=ie.bytes:=qO hz.2.1;have hz3:ie.zero=[nU]:=VT hz.2.2;split at hp
     .rename_i ik n hn;split at hp
      .rename_i ik' c hcp;cases hp;refine(lH (G:=[]) aj rfl hd k.2 λhgv=>?_).weak
       obtain⟨s1,s2,s3⟩:=k.1;have e1:a.eval x=.int ik n:=(aN aj hg hgv hn).1.1;have e2:a.eval y=.int ik' c:=(aN aj hg hgv hcp).1.1;obtain⟨inf,z,i1,i2,i3,i4,i5⟩:=tie.info;unfold oH at s3;have hcb:c.toNat<=140737488355328:=qP (A78 _ hz2) s3;have hb:(inf.bytes:Int) * c<=281474976710656:=by
        rw[i3];have:((c.toNat * ie.bytes:Nat):Int)<=140737488355328:=by omega
        rw[Int.natCast_mul,Int.toNat_of_nonneg (by omega),Int.mul_comm]at this
        omega
       have r:=run_make (P:=P) w t el inf z hu i1 i4 ik ik' n c s1 s2 hb (by omega)
       have X7:madeCells z.cells (c.toNat * inf.size)=(iJ c.toNat ie.zero).toArray:=by
        unfold madeCells;rw[i5,i2,<-tie.qg];exact rW (by rw[tie.qg];omega)
       rw[X7]at r;have hbn:∀{b:Nat},¬aA nU=some b:=by intro b hb';simp[nU,aA]at hb'
       refine⟨.slice (some ⟨w.heap.size,0,none⟩) n.toNat c.toNat,w.alloc (.cells (iJ c.toNat ie.zero).toArray el),.deep (.slice (some ⟨w.heap.size,0,none⟩) n.toNat c.toNat) (λ_=>nU),?_,oZ _ _ _,?_,?_,?_⟩
       .simp only[execOp,ho,e1,e2,Sem.run_bind,r,Result.andThen_ok,Sem.run_pure]
       .intro b hb';rw[aU]at hb';rcases hb' with hb' | ⟨j,hb'⟩
        .simp[aA]at hb';obtain⟨_,rfl⟩:=hb';simp
        .exact absurd hb' hbn
       .refine⟨λj k b hb'=>absurd hb' hbn,λj b hb'=>absurd hb' hbn,?_⟩
        by_cases hc0:c.toNat=0
        .have hn0:n.toNat=0:=by omega
         exact .inr (.inl ⟨⟨w.heap.size,0,none⟩,by rw[hc0,hn0],by rw[hn0];rfl⟩)
        refine .inr (.inr ⟨w.heap.size,c.toNat,_,by rw[LU],nG _ _,by rw[LU];omega,⟨by omega,by simp only[maxLen];omega⟩,?_,λj=>hbn,λj dd hj=>?_⟩)
        .simp only[H9,vW,hz3];rfl
        .have hj':=(eG.1 hj).1;rw[LU]at hj';have ed:dd=[]:=by
          have:=iM hj;exact List.eq_of_mem_replicate this
         subst ed;have ecs:((iJ c.toNat ie.zero).drop (j * 1)).take 1=[nU]:=by
          have:=Tc (l:=ie.zero) (m:=c.toNat) (j:=j) (by omega)
          rw[hz3]at this ⊢;exact this
         show BJ h _ (.sl e) tt e 0 true false nU (((iJ c.toNat ie.zero).drop (j * 1)).take 1) [];rw[ecs];exact⟨[],[],⟨nU,rfl,.inl ⟨rfl,rfl⟩⟩,⟨rfl,rfl,rfl⟩,rfl,.inl ⟨rfl,rfl⟩⟩
       .exact⟨⟨_,kL (lI aj) _,rfl⟩,rfl,rfl⟩
      .cases hp
     .cases hp
    .cases hp
   .cases hp
  .cases hp
 .cases hp
theorem OK.Yo(ok:OK B h0 T h β w) (v:RV):OK B h0 (T++[.gone]) h (β++[v]) w where
 below:=ok.below
 dr:=ok.dr
 len:=by simp[ok.len]
 holds:=by
  intro i r' v' e e';rcases aF e with⟨hi,e⟩ | ⟨hi,rfl⟩
  .rcases aF e' with⟨_,e'⟩ | ⟨hj,_⟩
   .exact(ok.holds i r' v' e e').move (FH.le.refl h) (Ext.append _ _) λhl b hb=>rfl
   .have:=ok.len;omega
  .cases v'<;>trivial
 own:=by
  intro i r' v' b e hl e' hb;rcases aF e with⟨hi,e⟩ | ⟨hi,rfl⟩
  .rcases aF e' with⟨_,e'⟩ | ⟨hj,_⟩
   .exact ok.own i r' v' b e hl e' hb
   .have:=ok.len;omega
  .cases hl
 inj:=by
  intro i j r1 r2 u v' b ei hl1 ej hl2 eu ev hu hv';have L:=ok.len;rcases aF ei with⟨hi,ei⟩ | ⟨hi,rfl⟩
  .rcases aF ej with⟨hj,ej⟩ | ⟨hj,rfl⟩
   .rcases aF eu with⟨_,eu⟩ | ⟨hi',_⟩
    .rcases aF ev with⟨_,ev⟩ | ⟨hj',_⟩
     .exact ok.inj i j r1 r2 u v' b ei hl1 ej hl2 eu ev hu hv'
     .omega
    .omega
   .cases hl2
  .cases hl1
 hle:=ok.hle
 hw:=ok.hw
 hg:=ok.hg
 kn:=ok.kn
theorem yh{i:Nat}{z:SC}{g g':Gd×au}:∀{T:List (Gd×au)},dh (uw i z (snoc T g)) (aO T) g'=snoc (uw i z T) g'
 | []=>rfl
 | x :: T=>by
   show dh (_ :: uw i z (snoc T g)) (aO T+1) g'=_ :: snoc (uw i z T) g';show _ :: dh (uw i z (snoc T g)) (aO T) g'=_;rw[yh]
theorem Yp(hc:bK P cx.ti) (aj:Sat N B h0 s h β w a) (hg:aJ cx.gd h) (hd:l7 N o.dst=true){x m:Operand} (ho:o.op=.slice t x lo hi (some m))
 (k:ajm cx s o.dst t x lo hi m K):Dq P N B h0 h w a o true K:=by
 have tr:gv s.gl []=true:=rfl;unfold ajm at k;split at k
 .rename_i el hde;have hu:=bG hc hde (by simp)
  split at k
  .cases k
  rename_i ie hie;have tie:=hc.get hie;split at k
  .cases k
  rename_i hlo;split at k
  .cases k
  rename_i hh;split at k
  .rename_i ik n hn;split at k
   .rename_i ik' n' hn';split at k
    .rename_i sh l hx;split at k
     .rename_i hz;have hz:ie.size=sh.size:=iC hz;obtain⟨⟨b1,b2,b3⟩,k⟩:=k;subst b3;have eh:a.eval hh=.int ik n:=(aN aj hg tr hn:cZ h β (.c (.v (.int ik n))) (a.eval hh)).1.1;have em:a.eval m=.int ik' n:=(aN aj hg tr hn':cZ h β (.c (.v (.int ik' n))) (a.eval m)).1.1;have IX:=(aN aj hg tr hx:cZ h β (.c (.sl sh l)) (a.eval x));have ajq:lo.map a.eval=none\/∃k,lo.map a.eval=some (.int k 0):=by
       cases lo with
       | none=>exact .inl rfl
       | some z=>
         obtain⟨kz,rfl⟩:=zV (show Io z=true from hlo)
         exact .inr ⟨kz,rfl⟩
      have run:∀(ad:Option Addr) (len cap:Nat),a.eval x=.slice ad len cap->n<=len->len<=cap->(execOp a.eval o).run P w=.ok (.value (.slice ad n.toNat n.toNat)) w:=by
       intro ad len cap ev h1 h2;have hb:(0:Int)<=n/\n<=cap:=by omega
       have aqb:(Instr.sliceBounds true len cap (lo.map a.eval) (some (.int ik n)) (some (.int ik' n))).run P w=.ok (0,n.toNat,n.toNat) w:=by
        unfold Instr.sliceBounds;rcases ajq with e | ⟨k,e⟩
        .rw[e];simp[Instr.sliceBound,asIntOf,hb];omega
        .rw[e];simp[Instr.sliceBound,asIntOf,hb];omega
       have r2:(Instr.sliceAt t (a.eval x) (lo.map a.eval) ((some hh).map a.eval) ((some m).map a.eval)).run P w=.ok (.slice ad n.toNat n.toNat) w:=by
        rw[ev];simp only[Instr.sliceAt,Instr.slice,Sem.run_bind,run_underlying hu,Result.andThen_ok,Xh,eh,em,aqb,run_sizeOf tie,Sem.run_pure];cases ad<;>simp[Addr.add]
       simp only[execOp,ho,Sem.run_bind];rw[r2];rfl
      rcases IX.1 with⟨ev,hl⟩ | ⟨ra,cap,ev,hl,hc'⟩ | ⟨b,off,cap,ev,q1,q2,cs,rd,at_⟩
      .have hn0:n.toNat=0:=by rw[hl]at b2;simp at b2;omega
       refine pI aj hd (e:=.one (.c (.abs (.Vt sh (l.take n.toNat))))) (run none 0 0 ev (by rw[hl]at b2;simpa using b2) (qm _)) ⟨⟨?_,none,_,rfl⟩,rfl,rfl⟩ k
       rw[hn0,hl];exact .inl ⟨rfl,rfl⟩
      .have hn0:n.toNat=0:=by rw[hl]at b2;simp at b2;omega
       refine pI aj hd (e:=.one (.c (.abs (.Vt sh (l.take n.toNat))))) (run (some ra) 0 cap ev (by rw[hl]at b2;simpa using b2) (Hz _)) ⟨⟨?_,some ra,_,rfl⟩,rfl,rfl⟩ k
       rw[hn0,hl];exact .inr (.inl ⟨ra,0,rfl,rfl,Hz _⟩)
      .have hlen:(l.take n.toNat).length=n.toNat:=by rw[lZ];omega
       refine pI aj hd (e:=.one (.c (.abs (.Vt sh (l.take n.toNat))))) (run (some ⟨b,off,none⟩) l.length cap ev b2 q1) ⟨⟨.inr (.inr ⟨b,off,n.toNat,by rw[hlen],by rw[hlen];exact qm _,by omega,cs.take (n.toNat * sh.size),?_,?_⟩),_,_,rfl⟩,rfl,rfl⟩ k
       .have:=gI.vO (λ_ _=>Rd.size sh) rd (a:=0) (b:=n.toNat) (Hz _) (by omega)
        simpa using this
       .have:=at_.shift (n.toNat * sh.size) 0;simpa using this
     .cases k
    .cases k
   .cases k
  .cases k
 .cases k
theorem Fz{ty:TypeId}{i:TI}{sh:Sh}{sv:Value}{l l2:List sh.den} (hu:P.underlying t=some (.slice el)) (k:aK P el i) (hs:sh.size=i.size)
 (hb1:1<=i.bytes) (hs1:1<=i.size) (row:rG h (Rd h sh) v l/\∃a n,v=.slice a n n) (src:X5 h w sh sv l2) (room:oH (l.length+l2.length) i.bytes)
 (hw:∀b o u,h b o=some u->vis w b o=some u):
 ∃v' w',(Builtin.append_ #[t,t] ty #[v,sv]).run P w=.ok v' w'/\((l2=[]/\v'=v/\w'=w)\/(Gb w w' none/\(∀b,aA v'=some b->w.heap.size<=b/\b < w'.heap.size)/\Sz h w' el sh v' (l++l2))):=by
 obtain⟨inf,z,i1,i2,i3,i4,i5⟩:=k.info;unfold oH at room;obtain⟨row,va,vn,ve⟩:=row;have hn:l.length+l2.length<=140737488355328:=qP (A78 _ hb1) room;have X6:z.cells.size=i.size:=by rw[i5];simpa using k.qg
 rcases src with⟨rfl,rfl⟩ | ⟨sa,sc,rfl,rfl⟩ | ⟨b,o,c,cs,rfl,rd,at_⟩
 .refine⟨v,w,?_,.inl ⟨rfl,rfl,rfl⟩⟩;rcases row with⟨rfl,rfl⟩ | ⟨_,cp,rfl,rfl,_⟩ | ⟨g,off,cap,rfl,q1,q2,q3⟩
  .simp[Builtin.append_,run_underlying hu,sizeOf,typeInfo,i1,Builtin.lenOf,Builtin.firstCells]
  .simp[Builtin.append_,run_underlying hu,sizeOf,typeInfo,i1,Builtin.lenOf,Builtin.firstCells,storeCells]
  .simp[Builtin.append_,run_underlying hu,sizeOf,typeInfo,i1,Builtin.lenOf,Builtin.firstCells,q1,storeCells]
 .refine⟨v,w,?_,.inl ⟨rfl,rfl,rfl⟩⟩;rcases row with⟨rfl,rfl⟩ | ⟨_,cp,rfl,rfl,_⟩ | ⟨g,off,cap,rfl,q1,q2,q3⟩
  .simp[Builtin.append_,run_underlying hu,sizeOf,typeInfo,i1,Builtin.lenOf,Builtin.firstCells,loadCells,loadCellsFrom]
  .simp[Builtin.append_,run_underlying hu,sizeOf,typeInfo,i1,Builtin.lenOf,Builtin.firstCells,storeCells,loadCells,loadCellsFrom]
  .simp[Builtin.append_,run_underlying hu,sizeOf,typeInfo,i1,Builtin.lenOf,Builtin.firstCells,q1,storeCells,loadCells,loadCellsFrom]
 .have hcs:cs.length=l2.length * inf.size:=by rw[gI.size (λ_ _=>Rd.size sh) rd,i2,hs]
  have hnews:∀j u,cs[j]?=some u->w.cell? ((⟨b,o,none⟩:Addr).add j)=some u:=λj u e=>by rw[add_lit];exact at_ j u e
  by_cases hm:l2.length=0
  .have:l2=[]:=Xd hm;subst this;refine⟨v,w,?_,.inl ⟨rfl,rfl,rfl⟩⟩;rcases row with⟨rfl,rfl⟩ | ⟨_,cp,rfl,rfl,_⟩ | ⟨g,off,cap,rfl,q1,q2,q3⟩
   .simp[Builtin.append_,run_underlying hu,sizeOf,typeInfo,i1,Builtin.lenOf,Builtin.firstCells,loadCells,loadCellsFrom]
   .simp[Builtin.append_,run_underlying hu,sizeOf,typeInfo,i1,Builtin.lenOf,Builtin.firstCells,storeCells,loadCells,loadCellsFrom]
   .simp[Builtin.append_,run_underlying hu,sizeOf,typeInfo,i1,Builtin.lenOf,Builtin.firstCells,q1,storeCells,loadCells,loadCellsFrom]
  .rcases row with⟨rfl,rfl⟩ | ⟨ra,cp,rfl,rfl,hcp⟩ | ⟨g,off,cap,rfl,q1,q2,c0,q3,q4⟩
   .have r:=run_append_nil (P:=P) w t ty el inf z hu i1 i4 ⟨b,o,none⟩ l2.length c cs hcs hnews (by omega) (by simp at hn;omega) (by rw[i3];simp at room;omega)
    have hge:=grownCap_ge w l2.length 0 el;refine⟨_,_,r,.inr ⟨⟨⟨rfl,rfl,rfl,by simp,λk hk _=>(World.grownBy_alloc w.drew _ none).block k hk (by simp)⟩,BI _⟩,?_,?_⟩⟩
    .intro b' hb';simp[aA]at hb';obtain⟨_,rfl⟩:=hb';simp
    .refine .inr (.inr ⟨w.heap.size,_,_,rfl,heap_alloc_new w.drew _,by simpa using hge,⟨by omega,grownCap_le_maxLen w l2.length 0 el (by simp only[maxLen];simp at hn;omega)⟩,?_,?_⟩)
     .simp only[A86,H9,size_zeroCells,X6,hcs,i2,hs,<-LY]
      congr 1;omega
     .simp only[A97,Xi];rw[show l2.length * sh.size=cs.length by rw[hcs,i2,hs],Xt]
      exact rd
   .have aqc:cp=0:=by cases ve;rfl
    subst aqc;have r:=run_append_grow (P:=P) w t ty el inf z hu i1 i4 ra 0 0 [] (by simp) (λj u e=>by simp at e) ⟨b,o,none⟩ l2.length c cs hcs hnews (by omega) (by simp at hn;omega) (growslice_fits (by omega) (by rw[i3];simpa using room))
    rw[Hy]at r;have hge:=grownCap_ge w l2.length 0 el;refine⟨_,_,r,.inr ⟨⟨⟨rfl,rfl,rfl,by simp,λk hk _=>(World.grownBy_alloc w.drew _ none).block k hk (by simp)⟩,BI _⟩,?_,?_⟩⟩
    .intro b' hb';simp[aA]at hb';obtain⟨_,rfl⟩:=hb';simp
    .refine .inr (.inr ⟨w.heap.size,_,_,rfl,heap_alloc_new w.drew _,by simpa using hge,⟨by omega,grownCap_le_maxLen w l2.length 0 el (by simp only[maxLen];simp at hn;omega)⟩,?_,?_⟩)
     .simp only[A86,H9,size_zeroCells,X6,Xi,hcs,i2,hs,Hy,Pg,<-LY]
      congr 1;omega
     .simp only[A97,Xi];rw[show l2.length * sh.size=cs.length by rw[hcs,i2,hs],Xt]
      exact rd
   .have hcap:cap=l.length:=by injection ve with e1 e2 e3;omega
    subst hcap;have lsz:=gI.size (λ_ _=>Rd.size sh) q3
    have hol:c0.length=l.length * inf.size:=by rw[lsz,i2,hs]
    have holds:∀j u,c0[j]?=some u->w.cell? ((⟨g,off,none⟩:Addr).add j)=some u:=by
     intro j u e;rw[add_lit];exact EI (hw _ _ _ (q4 j u e)) (gI.all (λ_ _=>Rd.one _) q3 u (iM e)).2
    have r:=run_append_grow (P:=P) w t ty el inf z hu i1 i4 ⟨g,off,none⟩ l.length l.length _ hol holds ⟨b,o,none⟩ l2.length c cs hcs hnews (by omega) (by omega) (growslice_fits (by omega) (by rw[i3];exact room))
    have hge:=grownCap_ge w (l.length+l2.length) l.length el;refine⟨_,_,r,.inr ⟨⟨⟨rfl,rfl,rfl,by simp,λk hk _=>(World.grownBy_alloc w.drew _ none).block k hk (by simp)⟩,BI _⟩,?_,?_⟩⟩
    .intro b' hb';simp[aA]at hb';obtain⟨_,rfl⟩:=hb';simp
    .refine .inr (.inr ⟨w.heap.size,_,_,by rw[kT],heap_alloc_new w.drew _,by rw[kT];exact hge,⟨by omega,grownCap_le_maxLen w _ l.length el (by simp only[maxLen];omega)⟩,?_,?_⟩)
     .have ajb:c0.length=l.length * i.size:=by rw[<-hs];exact lsz
      simp only[A86,H9,size_zeroCells,X6,hcs,i2,hs,ajb,<-LY]
      congr 1
      omega
     .simp only[A97,Dj];rw[<-Dj,show(l++l2).length * sh.size=(c0++cs).length by rw[kT,kT,LY,hcs,lsz,i2,hs],Xt]
      exact q3.append rd
theorem Nh(hc:bK P cx.ti) (aj:Sat N B h0 s h β w a) (hg:aJ cx.gd h) (hd:l7 N o.dst=true){x:Operand} (ho:o.op=.call c) (bU:c.callee=.builtin .append) (ha:c.args=#[x,y]) (ht:c.argTypes=#[t,t])
 (k:J7 cx s o.dst t x y K):Dq P N B h0 h w a o true K:=by
 have tr:gv s.gl []=true:=rfl;unfold J7 iT at k;split at k
 .rename_i el hde;have hu:=bG hc hde (by simp)
  split at k
  .cases k
  rename_i ie hie;have tie:=hc.get hie;split at k
  .cases k
  rename_i sh hsh;split at k
  .rename_i hz;rw[aC,aC,A8,A8]at hz;have hz1:sh.size=ie.size:=iC hz.1;have hz2:1<=ie.bytes:=qO hz.2.1;have hz3:1<=ie.size:=qO hz.2.2;split at k
   .rename_i eX l1 hx;split at k
    .rename_i l hl;obtain⟨e1,e2⟩:=pq hl;subst e1;simp only at e2;subst e2;split at k
     .rename_i v2 hv2;have c2:=aN aj hg tr hv2;split at k
      .rename_i l2 hl2;obtain⟨k1,k⟩:=k;have src:=D9 aj hl2 c2;have IX:=(aN aj hg tr hx:cZ h β (.c (.abs (.Vt eX l1))) (a.eval x));obtain⟨v',w',r1,r2⟩:=Fz (P:=P) (ty:=o.type) hu tie hz1 hz2 hz3 IX.1 src k1 aj.ok.hw;have exec:(execOp a.eval o).run P w=.ok (.value v') w':=by
        have r1':=r1;simp[execOp,ho,resolve,bU,ha,ht,invoke,builtin,r1']
       have hlen:aO s.T=β.length:=by rw[aj.ok.len,ji,bC]
       have gT:∀(r:au),∀p∈snoc s.T (([]:Gd),r),wS s.gl.length p.1=true:=by
        intro r p hp;rw[iP,DY]at hp;rcases hp with hp | hp
        .exact aj.gT p hp
        .simp at hp;subst hp;rfl
       have fin:∀(r:au) (h':FH) (s1:Sat N B h0 { s with T:=snoc s.T ([],r) } h (β++[.row v']) w' a),h.le h'->OK B h0 ((eff s.gl (snoc s.T ([],r))).set (aO s.T) .gone) h' (β++[.row v']) w'->rG h' (Rd h' eX) v' (l1++l2)->Dq P N B h0 h w a o true K:=by
        intro r h' s1 le ok' sl;have fZ:(eff s.gl (snoc s.T (([]:Gd),r)))[aO s.T]?=some r:=by
         rw[iU,hlen,aj.ok.len,O9 (qm _),XB];rfl
        have bF:=s1.Ko (z:=.sl eX (l1++l2)) (i:=aO s.T) (u:=.row v') (v:=v') fZ (by rw[hlen];simp) rfl le ok' sl
        rw[show dh (uw (aO s.T) (.sl eX (l1++l2)) (snoc s.T (([]:Gd),r))) (aO s.T) (([]:Gd),au.gone)=snoc (uw (aO s.T) (.sl eX (l1++l2)) s.T) (([]:Gd),au.gone) from yh]at bF
        intro Nx Q next
        rw[if_pos rfl];exact kK exec (next _ _ _ _ _ k le (bF.put (dP hd) rfl (λ_=>⟨sl,sl.dF⟩) λhh=>by cases hh))
       rcases r2 with⟨e1,e2,e3⟩ | ⟨r2,r3,r4⟩
       .have hw':w=w':=e3.symm;subst hw';subst e2;subst e1;have ok:OK B h0 (eff s.gl (snoc s.T (([]:Gd),au.gone))) h (β++[.row (a.eval x)]) w:=by rw[iU];exact aj.ok.Yo _
        have s1:=aj.mem ok (FH.le.refl h) (Ext.append _ _) (gT .gone);refine fin .gone h s1 (FH.le.refl h) ?_ (by rw[RH];exact IX.1.1)
        rw[ig]
        .exact ok
        .rw[iU,hlen,aj.ok.len,O9 (qm _),XB];rfl
       .have ok:OK B h0 (eff s.gl (snoc s.T (([]:Gd),au.row el eX (l1++l2)))) h (β++[.row v']) w':=by
         rw[iU];exact aj.ok.add r2 (λb hb=>r3 b (aY.1 hb)) r4
        have s1:=aj.mem ok (FH.le.refl h) (Ext.append _ _) (gT _);have fZ:(eff s.gl (snoc s.T (([]:Gd),au.row el eX (l1++l2))))[aO s.T]?=some (.row el eX (l1++l2)):=by
         rw[iU,hlen,aj.ok.len,O9 (qm _),XB];rfl
        obtain⟨h',le,ok',sl⟩:=ok.freeze fZ (show(β++[.row v'])[aO s.T]?=some (.row v') by rw[hlen];simp)
        exact fin _ h' s1 le ok' sl
      .cases k
     .cases k
    .cases k
   .cases k
  .cases k
 .cases k
theorem aeb(hc:bK P cx.ti) (aj:Sat N B h0 s h β w a) (hg:aJ cx.gd h) (hd:l7 N o.dst=true){ops:Array Oper}{p:Prop} (e:ajo cx s o K=some p) (k:p):Dq P N B h0 h w a o (Region.wanted o (yielded ops a.tmps)) K:=by
 unfold ajo at e;split at e
 .cases e
 rename_i hgd;rw[show Region.wanted o (yielded ops a.tmps)=true by simp[Region.wanted,hgd]]
 split at e
 .rename_i t x lo hi mx ho;split at e
  .rename_i m;split at e
   .rename_i hm;cases e;exact Yi hc aj hg hd ho hm k
   .cases e;exact Yp hc aj hg hd ho k
  .split at e
   .rename_i i hx;cases e;exact Qd hc aj hg hd ho hx k
   .rename_i hx;cases e;exact Yj hc aj hg hd ho hx k
   .cases e
 .rename_i op t x y t' ho;split at e
  .cases e
  .rename_i eq he;split at e
   .rename_i hy;split at e
    .rename_i z hx;split at e
     .rename_i hz;rw[aC,A8]at hz;cases e;exact Qe hc aj hg hd ho he hy hx hz.1 hz.2 k
     .cases e
    .cases e
   .cases e
 .rename_i c ho;split at e
  .rename_i bU;split at e
   .rename_i x y ha;split at e
    .rename_i t t' ht;split at e
     .rename_i hb;have hb:t=t':=iC hb;subst hb;split at e
      .cases e;exact Nh hc aj hg hd ho bU (iI ha) (iI ht) k
      .cases e
     .split at e
      .rename_i hx;cases e;exact VX hc aj hg hd ho bU (iI ha) (iI ht) hx k
      .cases e
    .cases e
   .cases e
  .rename_i bU;split at e
   .rename_i x ha;split at e
    .rename_i t ht;cases e;exact Yk hc aj hg hd ho bU (iI ha) (iI ht) k
    .cases e
   .cases e
  .rename_i bU;split at e
   .rename_i x y ha;cases e;exact Ym aj hg hd ho bU (iI ha) k
   .cases e
  .cases e
 .rename_i t ln cp ho;split at e
  .exact Qg hc aj hg hd ho e k
  .cases e
 .rename_i t n ps ho;split at e
  .cases e
  .rename_i i r hr;cases e;obtain⟨h',le,aS⟩:=aj.H6 (l:=i :: r);have:=uU hc aS (hg.mono le) (G:=[]) rfl hd ho k;exact Dq.le le this.weak
 .cases e
end
end Go.ni
