/- Part 2 of the proof. Conditions: the rows'. -/
import Derived.Test.YtjhenjhcbcalpaaGreatDoorB1
import Derived.Still
set_option linter.unusedSimpArgs false
set_option linter.unusedVariables false
set_option maxRecDepth 1000000
set_option maxHeartbeats 8000000
namespace Go.jl
open Go Go.RowKit
variable {w w':World}{P:Program}{o:Oper}{a:Act}{v:Value}{n r i:Nat}{h' h h0:FH}{β' β:List RV}{t el:TypeId}{y:Operand}{u:RV}{T:List ay}{c:Call}{f:FuncId}{B:Base}{z:SC}{lo hi:Option Operand}
theorem mQ.KF(h:Gb w w' none):mQ w w':=⟨h.size,λk hk=>h.block k hk (by simp)⟩
theorem mQ.of_below(h:Below w.heap.size w w'):mQ w w':=⟨h.size,h.block⟩
def quietly:Op->Bool
 | .store ..=>false
 | .call c=>match c.callee with
   | .builtin .len=>true
   | .builtin _=>false
   | .value (.tmp _)=>false
   | _=>true
 | _=>true
def gq(P:Program) (N:Nat) (B:Base) (h0 h:FH) (w:World) (a:Act) (o:Oper) (wanted:Bool) (K:St->Prop):Prop:=
 ∀(Nx:Act->World->Prop) (Q:Exit->Act->World->Prop),
   (∀s' h' β' w' v,K s'->h.le h'->(quietly o.op=true->mQ w w')->Sat N B h0 s' h' β' w' (a.put o.dst v)->Nx (a.put o.dst v) w') ->
   if wanted=true then o.wp P a w Nx Q else Nx (a.put o.dst undef) w
theorem kD{Nx:Act->World->Prop}{Q:Exit->Act->World->Prop} (h:(execOp a.eval o).run P w=.ok (.value v) w') (k:Nx (a.put o.dst v) w'):o.wp P a w Nx Q:=by
 unfold Oper.wp;rw[h];exact k
theorem WH{Nx:Act->World->Prop}{Q:Exit->Act->World->Prop} (h:(execOp a.eval o).run P w=.ok .skip w') (k:Nx (a.put o.dst undef) w'):o.wp P a w Nx Q:=by
 unfold Oper.wp;rw[h];exact k
abbrev lJ(n:Nat):Option Nat->Bool
 | none=>true
 | some d=>Nat.ble (d+1) n
theorem dW{d:Option Nat} (h:lJ n d=true):∀k,d=some k->k < n:=by
 intro k hk;subst hk;have:=qj h;omega
section
variable {cx:Cx}{P:Program}{N:Nat}{B:Base}{h0:FH}{s:St}{h:FH}{β:List RV}{w:World}{a:Act}{G:Gd}{o:Oper}{K:St->Prop}
theorem Gu(hc:bQ P cx.ti) (aj:Sat N B h0 s h β w a) (hg:aK cx.gd h) (hG:vg s.gl.length G=true) (hd:lJ N o.dst=true) (k:nD cx s G o λe=>K (s.put o.dst G e)):
 gq P N B h0 h w a o (gv s.gl G) K:=by
 intro Nx Q next
 obtain⟨e,k1,k2⟩:=DJ hc aj hg k;cases hgv:gv s.gl G with
 | true=>
   obtain⟨v,r,c⟩:=k2 hgv;rw[if_pos rfl];exact kD r (next _ _ _ _ _ k1 (FH.le.refl h) (λ_=>mQ.refl w) (aj.put (dW hd) hG (λ_=>c) λhh=>by rw[hgv]at hh;cases hh))
 | false=>
   rw[if_neg (by simp)]
   exact next _ _ _ _ _ k1 (FH.le.refl h) (λ_=>mQ.refl w) (aj.put (dW hd) hG (λhh=>by rw[hgv]at hh;cases hh) λ_=>rfl)
theorem cO(w:World) (r:Option Nat):Gb w w r:=⟨⟨rfl,rfl,rfl,o9 _,λ_ _ _=>rfl⟩,o9 _⟩
theorem kY(aj:Sat N B h0 s h β w a) (hG:vg s.gl.length G=true) (hd:lJ N o.dst=true){r:ay}{e:aZ} (k:K ({ s with T:=snoc s.T (G,r) }.put o.dst G e))
 (run:gv s.gl G=true->∃v w' rv,(execOp a.eval o).run P w=.ok (.value v) w'/\Gb w w' none/\(∀b,rv.has b->w.heap.size<=b/\b < w'.heap.size) /\
  Holds h (β++[rv]) w' r rv/\jP h (β++[rv]) e v):
 gq P N B h0 h w a o (gv s.gl G) K:=by
 intro Nx Q next
 have gT:∀p∈snoc s.T (G,r),vg s.gl.length p.1=true:=by
  intro p hp;rw[iI,Fv]at hp;rcases hp with hp | hp
  .exact aj.gT p hp
  .simp at hp;subst hp;exact hG
 cases hgv:gv s.gl G with
 | true=>
   obtain⟨v,w',rv,h1,h2,h3,h4,h5⟩:=run hgv;rw[if_pos rfl];refine kD h1 (next _ h (β++[rv]) _ _ k (FH.le.refl h) (λ_=>mQ.KF h2) ?_)
   have ok:OK B h0 (eff s.gl (snoc s.T (G,r))) h (β++[rv]) w':=by
    rw[iM,hgv];exact aj.ok.add h2 h3 h4
   exact(aj.mem ok (FH.le.refl h) (Ext.append _ _) gT).put (dW hd) hG (λ_=>h5) λhh=>by simp only at hh;rw[hgv]at hh;cases hh
 | false=>
   rw[if_neg (by simp)]
   refine next _ h (β++[.no]) _ _ k (FH.le.refl h) (λ_=>mQ.refl w) ?_
   have ok:OK B h0 (eff s.gl (snoc s.T (G,r))) h (β++[.no]) w:=by
    rw[iM,hgv];exact aj.ok.add (cO w none) (λb hb=>(NV hb).elim) trivial
   exact(aj.mem ok (FH.le.refl h) (Ext.append _ _) gT).put (dW hd) hG (λhh=>by simp only at hh;rw[hgv]at hh;cases hh) λ_=>rfl
theorem l7(aj:Sat N B h0 s h β w a){s':St} (k:K s') (hgv:gv s.gl G=true) (hq:quietly o.op=false)
 (run:(execOp a.eval o).run P w=.ok (.value v) w'\/((execOp a.eval o).run P w=.ok .skip w'/\v=undef)) (le:h.le h') (aW:Sat N B h0 s' h' β' w' (a.put o.dst v)):
 gq P N B h0 h w a o (gv s.gl G) K:=by
 intro Nx Q next
 rw[if_pos hgv];rcases run with run | ⟨run,rfl⟩
 .exact kD run (next _ _ _ _ _ k le (λhh=>by rw[hq]at hh;cases hh) aW)
 .exact WH run (next _ _ _ _ _ k le (λhh=>by rw[hq]at hh;cases hh) aW)
end
abbrev Oc:Sh->Bool
 | .arr _ _=>true
 | .pair a b=>match Oc a with
   | true=>true
   | false=>Oc b
 | _=>false
abbrev Qz(t:TypeId) (i:TI):ay:=match i.iJ with
 | some s=>match Oc s with
   | true=>.obj t s (qJ s)
   | false=>.blk t (fA SC.v i.zero)
 | none=>.blk t (fA SC.v i.zero)
abbrev Iu(cx:Cx) (s:St) (G:Gd) (d:Option Nat) (t:TypeId) (K:St->Prop):Prop:=match pO cx.ti t with
 | none=>False
 | some i=>K ({ s with T:=snoc s.T (G,Qz t i) }.put d G (.one (.c (.own (aQ s.T) 0))))
abbrev Oe(t:TypeId) (v:SV):Option ay:=match v with
 | .dat sh d=>some (.obj t sh d)
 | v=>match nK v with
   | some xs=>some (.blk t xs)
   | none=>none
abbrev acL(cx:Cx) (s:St) (G:Gd) (d:Option Nat) (t:TypeId) (x:Operand) (K:St->Prop):Prop:=match bM cx s G x with
 | some (.one v)=>match Oe t v with
   | some r=>K ({ s with T:=snoc s.T (G,r) }.put d G (.one (.c (.own (aQ s.T) 0))))
   | none=>False
 | _=>False
theorem l9(w:World) (o:Obj):(w.alloc o).heap[w.heap.size]?=some o:=heap_alloc_new w o
theorem Uw{v:SV}{r:ay}{y:Value}{b:Nat} (e:Oe t v=some r) (c:dA h β v y) (eb:Ext β β')
 (hw:w.heap[b]?=some (.cells y.cells t (0,0))):Holds h β' w r (.blk b):=by
 unfold Oe at e;split at e
 .cases e;obtain⟨_,cs,rfl,rd⟩:=c;exact⟨cs,hw,rd⟩
 .split at e
  .rename_i xs hx;cases e;refine⟨y.cells.toList,by simpa using hw,(xk hx c).mono λ_ _ ⟨p,q⟩=>⟨p.mono (FH.le.refl h) eb,q⟩⟩
  .cases e
section
variable {cx:Cx}{P:Program}{N:Nat}{B:Base}{h0:FH}{s:St}{h:FH}{β:List RV}{w:World}{a:Act}{G:Gd}{o:Oper}{K:St->Prop}
theorem kE(hn:β.length=n) (v:RV):(β++[v])[n]?=some v:=by
 subst hn;simp
theorem kZ(aj:Sat N B h0 s h β w a):β.length=aQ s.T:=by
 rw[aj.ok.len,iY,bF]
theorem yJ{s:Sh}{cs:List Value}{d:s.den} (r:Rd (λ_ _=>none) s cs d):Rd h s cs d:=r.mono (λ_ _ _ e=>by cases e) s
theorem Og(hc:bQ P cx.ti) (aj:Sat N B h0 s h β w a) (hG:vg s.gl.length G=true) (hd:lJ N o.dst=true) (ho:o.op=.alloc t) (k:Iu cx s G o.dst t K):
 gq P N B h0 h w a o (gv s.gl G) K:=by
 unfold Iu at k;split at k
 .cases k
 rename_i i hi;have ti:=hc.get hi;refine kY aj hG hd k λhgv=>?_
 obtain⟨z,hz1,hz2⟩:=uq ti w;refine⟨.pointer (some ⟨w.heap.size,0,none⟩),w.alloc (.cells z.cells t),.blk w.heap.size,?_,ou _ _ _,?_,?_,?_⟩
 .simp only[execOp,ho,Instr.alloc,newVar,newRow,Sem.run_bind,hz1,Result.andThen_ok,run_newObj,Sem.run_pure];rfl
 .intro b hb;rw[kW]at hb;subst hb;simp
 .have hn:=l9 w (.cells z.cells t);unfold Qz;split
  .rename_i sh hs;split
   .exact⟨i.zero,by rw[hn,hz2],yJ (ti.Wp _ hs).1⟩
   .exact⟨i.zero,by rw[hn,hz2],gW ti.zone⟩
  .exact⟨i.zero,by rw[hn,hz2],gW ti.zone⟩
 .exact⟨⟨_,kE (kZ aj) _,rfl⟩,iP _⟩
theorem WI(hc:bQ P cx.ti) (aj:Sat N B h0 s h β w a) (hg:aK cx.gd h) (hG:vg s.gl.length G=true) (hd:lJ N o.dst=true){x:Operand} (ho:o.op=.box t x) (k:acL cx s G o.dst t x K):
 gq P N B h0 h w a o (gv s.gl G) K:=by
 unfold acL at k;split at k
 .rename_i v hv;split at k
  .rename_i r hr;refine kY aj hG hd k λhgv=>?_
   have hx:=aP aj hg hgv hv;refine⟨.pointer (some ⟨w.heap.size,0,none⟩),w.alloc (.cells (a.eval x).cells t),.blk w.heap.size,?_,ou _ _ _,?_,?_,?_⟩
   .simp only[execOp,ho,Instr.box,newVar,newRow,Sem.run_bind,Result.andThen_ok,run_newObj,Sem.run_pure];rfl
   .intro b hb;rw[kW]at hb;subst hb;simp
   .exact Uw hr hx (Ext.append _ _) (l9 _ _)
   .exact⟨⟨_,kE (kZ aj) _,rfl⟩,iP _⟩
  .cases k
 .cases k
end
abbrev iG{α:Type}:Nat->List α->List α
 | 0,_=>[]
 | n+1,l=>eX l (iG n l)
abbrev mD(cx:Cx) (s:St) (G:Gd) (d:Option Nat) (t:TypeId) (n:Nat) (parts:List (Nat×Operand)) (K:St->Prop):Prop:=match descOf cx t with
 | .slice el=>match pO cx.ti el with
   | none=>False
   | some ie=>match ie.iJ with
     | none=>False
     | some sh=>match xq cx s G parts with
       | none=>False
       | some ps=>match dD (Nat.ble (n * ie.size) 16777216) (Nat.ble 1 ie.size) with
         | false=>False
         | true=>match uo (λj=>some (j * ie.size,ie.size)) (iG n (fA SC.v ie.zero)) ps with
           | none=>False
           | some xs=>match dD (Nat.beq sh.size ie.size) (Nat.beq (aQ xs) (n * ie.size)) with
             | false=>False
             | true=>match takeN sh n xs with
               | some (l,[])=>K ({ s with T:=snoc s.T (G,.row el sh l) }.put d G (.one (.c (.row (aQ s.T)))))
               | _=>False
 | _=>False
theorem DK{α β:Type} (f:α->β):∀(n:Nat) (l:List α),iG n (fA f l)=fA f (iG n l)
 | 0,_=>rfl
 | n+1,l=>by
   simp only[iG];rw[DK f n l];simp[fM,BQ]
theorem yK{α:Type}{x:α}{l:List α}:∀{n:Nat},x∈iG n l->x∈l
 | 0,h=>by simp[iG]at h
 | n+1,h=>by
   simp only[iG,fM,Fv]at h;exact h.elim id yK
theorem uz{α:Type}{l:List α}:∀{n:Nat},(iG n l).length=n * l.length
 | 0=>by simp[iG]
 | n+1=>by simp only[iG,fM,ku,uz,wW];omega
theorem KG{l:List Value}:∀{n j:Nat},j < n * l.length->(iG n l)[j]?=l[j % l.length]?
 | 0,j,h=>by omega
 | n+1,j,h=>by
   simp only[iG,fM];rw[wW]at h
   by_cases hj:j < l.length
   .rw[VE hj,Nat.mod_eq_of_lt hj]
   .rw[NH (by omega),KG (by omega)]
    congr 1
    exact(Nat.mod_eq_sub_mod (by omega)).symm
theorem qM{zero:List Value} (hz:0 < zero.length):((Array.range (n * zero.length)).map (λi=>zero.toArray[i % zero.toArray.size]!))=(iG n zero).toArray:=by
 apply Array.ext';apply H9;intro j;simp only[Array.toList_map,Array.toList_range,FM]
 by_cases hj:j < n * zero.length
 .rw[Df,List.getElem?_range hj,KG hj];have hm:j % zero.length < zero.length:=Nat.mod_lt _ hz;simp[hm]
 .rw[BH (by simp;omega),BH (by simp[uz];omega)]
section
variable {cx:Cx}{P:Program}{N:Nat}{B:Base}{h0:FH}{s:St}{h:FH}{β:List RV}{w:World}{a:Act}{G:Gd}{o:Oper}{K:St->Prop}
theorem sW(hc:bQ P cx.ti) (aj:Sat N B h0 s h β w a) (hg:aK cx.gd h) (hG:vg s.gl.length G=true) (hd:lJ N o.dst=true){parts:Array (Nat×Operand)} (ho:o.op=.buildSlice t n parts)
 (k:mD cx s G o.dst t n (tl parts) K):gq P N B h0 h w a o (gv s.gl G) K:=by
 unfold mD at k;split at k
 .rename_i el hde;have hu:=bJ hc hde (by simp)
  split at k
  .cases k
  rename_i ie hie;have tie:=hc.get hie;split at k
  .cases k
  rename_i sh hsh;split at k
  .cases k
  rename_i ps hps;split at k
  .cases k
  rename_i hsz;rw[aB,bV]at hsz;have hsz1:n * ie.size<=16777216:=qj hsz.1;have hsz2:1<=ie.size:=qj hsz.2;split at k
  .cases k
  rename_i xs hxs;split at k
  .cases k
  rename_i hlen;rw[aB,bV]at hlen;have hl1:sh.size=ie.size:=iw hlen.1;have hl2:xs.length=n * ie.size:=by have:=iw hlen.2;rwa [bF]at this
  split at k
  .rename_i l hl;refine kY aj hG hd k λhgv=>?_
   have htl:(parts.map λ(p:Nat×Operand)=>(p.1,a.eval p.2)).toList=(tl parts).map λp=>(p.1,a.eval p.2):=by cases parts;simp
   rw[DK]at hxs;obtain⟨zs,g1,g2⟩:=qK (qL aj hg hgv hps) (gW λv hv=>tie.zone v (yK hv)) hxs
   obtain⟨c1,c2,rfl,q1,q2,q3⟩:=DC hl g2;have hc2:c2=[]:=by cases c2 with | nil=>rfl | cons _ _=>exact q3.elim
   subst hc2;rw[Ql]at g1 g2;have hz0:0 < ie.zero.length:=by rw[tie.pq];omega
   obtain⟨z,hz1,hz2⟩:=uq tie w;have hc0:n * ie.size=0->(iG n ie.zero).toArray=#[]:=by
    intro h0;have:n=0:=by rcases Nat.mul_eq_zero.1 h0 with h0 | h0<;>omega
    subst this;simp[iG]
   have hc1:((Array.range (n * ie.size)).map (λi=>z.cells[i % z.cells.size]!))=(iG n ie.zero).toArray:=by
    rw[hz2,<-tie.pq];exact qM hz0
   refine⟨.slice (some ⟨w.heap.size,0,none⟩) n n,w.alloc (.cells c1.toArray el),.row (.slice (some ⟨w.heap.size,0,none⟩) n n),?_,ou _ _ _,?_,?_,?_⟩
   .have hbig:¬(n * ie.size > 2 ^ 24):=by omega
    by_cases h0:n * ie.size=0
    .have e0:=hc0 h0;rw[e0]at g1;simp only[execOp,ho,Instr.buildSlice,Sem.run_bind,run_underlying hu,Result.andThen_ok,run_sizeOf tie,hbig,NU,Sem.run_ite,Sem.run_pure,h0,if_true];rw[htl];rw[show(Array.map (λx=>(#[]:Array Value)[x % (#[]:Array Value).size]!) (Array.range 0))=#[] from by simp]
     rw[g1];simp only[Sem.run_bind,newRow,run_newObj,Result.andThen_ok,Sem.run_pure];rfl
    .simp only[execOp,ho,Instr.buildSlice,Sem.run_bind,run_underlying hu,Result.andThen_ok,run_sizeOf tie,hbig,NU,Sem.run_ite,Sem.run_pure,h0,hz1];rw[htl,hc1,g1];simp only[Sem.run_bind,newRow,run_newObj,Result.andThen_ok,Sem.run_pure];rfl
   .intro b hb;rw[bC]at hb;simp[aA]at hb;obtain⟨_,rfl⟩:=hb;simp
   .by_cases hn0:n=0
    .exact .inr (.inl ⟨⟨w.heap.size,0,none⟩,by rw[hn0],VB (by rw[q1,hn0])⟩)
    refine .inr (.inr ⟨w.heap.size,n,c1.toArray,by rw[q1],l9 _ _,by omega,⟨by omega,?_⟩,?_,?_⟩)
    .have:n<=n * ie.size:=A80 n (by omega)
     simp only[maxLen];omega
    .have e:=g2.length;rw[hl2]at e;simp only[FM];rw[hl1];omega
    .have e:=g2.length;rw[hl2]at e;rw[q1,hl1,wu (by simp;omega)];exact q2
   .exact⟨⟨_,kE (kZ aj) _,rfl⟩,rfl,rfl⟩
  .cases k
 .cases k
end
theorem iZ(w:World) (g:Nat) (cs:Array Value):Gb w (w.setRow g cs) (some g):=
 ⟨⟨rfl,rfl,rfl,by simp,λk _ hk=>setRow_other w g k cs λe=>hk (by rw[e])⟩,o9 _⟩
theorem fD{i:TI} (k:aN P t i){g o:Nat}{tt:TypeId}{cur:Array Value} (hg:w.heap[g]?=some (.cells cur tt (0,0)))
 (hs:v.cells.size=i.size) (hfit:o+i.size<=cur.size) (h1:∀u∈v.cells.toList,dG u):
 (Instr.storeAt t (.pointer (some ⟨g,o,none⟩)) v).run P w=.ok () (w.setRow g (cur.toList.take o++v.cells.toList++cur.toList.drop (o+i.size)).toArray):=by
 have:=run_storeCells_at P g o tt v.cells.toList 0 cur w hg (by simp;omega) (λu hu=>(h1 u hu).2)
 simp only[Uc,TM]at this;simp only[Instr.storeAt,Instr.sureAddr,Sem.run_bind,Sem.run_pure,Result.andThen_ok,storeVar,run_sizeOf k,hs,ne_eq,not_true_eq_false,NU,Sem.run_ite];rw[<-hs];exact this
theorem aU.one{xs:List SC}{ys:List Value} (a:aU (λx y=>dZ h β x y/\dG y) xs ys):∀u∈ys,dG u:=by
 induction xs generalizing ys with
 | nil=>cases ys with
   | nil=>intro u hu;simp at hu
   | cons _ _=>exact a.elim
 | cons x xs ih=>cases ys with
   | nil=>exact a.elim
   | cons y ys=>
     intro u hu;rcases mY.1 hu with rfl | hu
     .exact a.1.2
     .exact ih a.2 u hu
abbrev Iw(cx:Cx) (s:St) (d:Option Nat) (t:TypeId) (p x:Operand) (K:St->Prop):Prop:=match pO cx.ti t with
 | none=>False
 | some i=>match bM cx s [] p with
   | some (.one (.c (.own r off)))=>match bM cx s [] x with
     | some (.one v)=>match eY s.T r with
       | some ([],.blk tt cs)=>match v with
         | .dat sh dd=>match dD (Nat.beq off 0) (dD (Nat.beq (aQ cs) i.size) (Nat.beq sh.size i.size)) with
           | true=>K ({ s with T:=dB s.T r ([],.obj tt sh dd) }.put d [] (.one .und))
           | false=>False
         | v=>match nK v with
           | some xs=>match dD (Nat.beq (aQ xs) i.size) (Nat.ble (off+i.size) (aQ cs)) with
             | true=>K ({ s with T:=dB s.T r ([],.blk tt (Ur off xs cs)) }.put d [] (.one .und))
             | false=>False
           | none=>False
       | some ([],.obj tt sh d0)=>match yA sh d0 off i.size v with
         | some dd=>K ({ s with T:=dB s.T r ([],.obj tt sh dd) }.put d [] (.one .und))
         | none=>False
       | _=>False
     | _=>False
   | some (.one (.c (.jR r j sz off)))=>match bM cx s [] x with
     | some (.one v)=>match eY s.T r with
       | some ([],.row tt sh l)=>match dD (Nat.beq sz sh.size) (dD (Nat.beq off 0) (Nat.beq sh.size i.size)) with
         | true=>match toDat sh v with
           | some dd=>(j < l.length)/\K ({ s with T:=dB s.T r ([],.row tt sh (l.set j dd)) }.put d [] (.one .und))
           | none=>False
         | false=>match Nat.beq sz sh.size with
           | true=>(j < l.length)/\∀e:sh.den,l[j]?=some e->match yA sh e off i.size v with
             | some dd=>K ({ s with T:=dB s.T r ([],.row tt sh (l.set j dd)) }.put d [] (.one .und))
             | none=>False
           | false=>False
       | some ([],.obj tt sh d0)=>match Ac sh d0 off j sz i.size v with
         | some p=>(j < p.1)/\K ({ s with T:=dB s.T r ([],.obj tt sh p.2) }.put d [] (.one .und))
         | none=>False
       | _=>False
     | _=>False
   | _=>False
section
variable {cx:Cx}{P:Program}{N:Nat}{B:Base}{h0:FH}{s:St}{h:FH}{β:List RV}{w:World}{a:Act}{o:Oper}{K:St->Prop}
theorem xw{s:St}{x:ay}:eff s.gl (dB s.T r ([],x))=(eff s.gl s.T).set r x:=by rw[fO]
theorem ql(aj:Sat N B h0 s h β w a){x:ay}:∀p∈dB s.T r ([],x),vg s.gl.length p.1=true:=by
 intro p hp;rw[fZ]at hp;rcases JW hp with hp | hp
 .exact aj.gT p hp
 .subst hp;rfl
theorem qN(aj:Sat N B h0 s h β w a) (hq:quietly o.op=false) (hd:lJ N o.dst=true){g:Nat}{x x':ay} (hT:eY s.T r=some ([],x)) (hl:x.live=true) (hu:β[r]?=some u) (hub:u.block=some g){cs:Array Value}
 (hold:Holds h β (w.setRow g cs) x' u) (run:(execOp a.eval o).run P w=.ok .skip (w.setRow g cs)) (k:K ({ s with T:=dB s.T r ([],x') }.put o.dst [] (.one .und))):
 gq P N B h0 h w a o (gv s.gl []) K:=by
 have fQ:=bH hT (show gv s.gl []=true from rfl)
 have ok:OK B h0 (eff s.gl (dB s.T r ([],x'))) h β (w.setRow g cs):=by
  rw[xw];have:=aj.ok.upd (r':=x') (v:=u) fQ hl hu (row:=some g) (iZ w g cs) (λk e=>by cases e;exact .inl hub) (λb hb=>.inl hb) (.inl rfl) (by rw[gV hu];exact hold)
  rwa [gV hu]at this
 refine l7 aj k rfl hq (.inr ⟨run,rfl⟩) (FH.le.refl h) ((aj.mem ok (FH.le.refl h) (Ext.refl β) (ql aj)).put (dW hd) rfl (λ_=>rfl) λhh=>by cases hh)
theorem Oh(hc:bQ P cx.ti) (aj:Sat N B h0 s h β w a) (hg:aK cx.gd h) (hd:lJ N o.dst=true){p x:Operand} (ho:o.op=.store t p x) (k:Iw cx s o.dst t p x K):
 gq P N B h0 h w a o (gv s.gl []) K:=by
 have tr:gv s.gl []=true:=rfl;unfold Iw at k;split at k
 .cases k
 rename_i i hi;have ti:=hc.get hi;have exec:∀{w':World}{v pv:Value},a.eval x=v->a.eval p=pv->(Instr.storeAt t pv v).run P w=.ok () w'->(execOp a.eval o).run P w=.ok .skip w':=by
  intro w' v pv e1 e2 r;simp only[execOp,ho,e1,e2,Sem.run_bind,r,Result.andThen_ok,Sem.run_pure]
 split at k
 .rename_i r off hp;obtain⟨⟨b,hb,ep⟩,_⟩:=aP aj hg tr hp;split at k
  .rename_i v hv;have cv:=aP aj hg tr hv;split at k
   .rename_i tt cs hT;obtain⟨ys,he,hall⟩:=aj.ok.holds r _ _ (bH hT tr) hb;have hlen:=hall.length;split at k
    .rename_i sh dd;split at k
     .rename_i hz;rw[aB,aB,bV,bV]at hz;have hz1:off=0:=iw hz.1;have hz2:cs.length=i.size:=by have:=iw hz.2.1;rwa [bF]at this
      have hz3:sh.size=i.size:=iw hz.2.2;subst hz1;obtain⟨_,cs',ev,rd⟩:=cv;have hsz:=Rd.size sh rd;have r1:=fD (o:=0) (v:=a.eval x) ti he (by rw[ev];simp[Value.cells];omega) (by simp;omega) (by rw[ev];intro u hu;exact Rd.one sh rd u (by simpa[Value.cells]using hu))
      refine qN aj (by rw[ho];rfl) hd hT rfl hb rfl ?_ (exec rfl ep r1) k
      refine⟨_,setRow_heap w b _ _ tt (0,0) he,?_⟩;simp only[TY,TN,Dh];rw[VF (by first | omega | (simp;omega)),Ql,ev]
      exact rd
     .cases k
    .split at k
     .rename_i xs hxs;split at k
      .rename_i hz;rw[aB,bV]at hz;have hz1:xs.length=i.size:=by have:=iw hz.1;rwa [bF]at this
       have hz2:off+i.size<=cs.length:=by have:=qj hz.2;rwa [bF]at this
       have hall':=xk hxs cv;have hl':=hall'.length;simp only[TM]at hl';have r1:=fD (o:=off) (v:=a.eval x) ti he (by omega) (by simp;omega) hall'.one
       refine qN aj (by rw[ho];rfl) hd hT rfl hb rfl ?_ (exec rfl ep r1) k
       refine⟨_,setRow_heap w b _ _ tt (0,0) he,?_⟩;unfold Ur;rw[fM,fM,jF,qF,bF,hz1];simp only[];rw[zW];exact(hall.take off).cat (hall'.cat (hall.drop _))
      .cases k
     .cases k
   .rename_i tt sh d0 hT;obtain⟨ys,he,rd0⟩:=aj.ok.holds r _ _ (bH hT tr) hb;split at k
    .rename_i dd hdd;obtain⟨cs',ec,e2,e3,e4,e5⟩:=nM sh hdd rd0 cv;have r1:=fD (o:=off) (v:=a.eval x) ti he (by rw[ec];simp;omega) (by simp;omega) (by rw[ec];intro u hu;exact e3 u (by simpa using hu))
     refine qN aj (by rw[ho];rfl) hd hT rfl hb rfl ?_ (exec rfl ep r1) k
     refine⟨_,setRow_heap w b _ _ tt (0,0) he,?_⟩;rw[ec];exact e5
    .cases k
   .cases k
  .cases k
 .rename_i r j sz off hp;obtain⟨⟨v0,g,hb,hgb,ep⟩,_⟩:=aP aj hg tr hp;split at k
  .rename_i v hv;have cv:=aP aj hg tr hv;split at k
   .rename_i tt sh l hT
    -- a store of k cells at a place of the j-th element
    have part:∀{e dd:sh.den},sz=sh.size->l[j]?=some e->(∀{cs:List Value},Rd h sh cs e->Upd h sh cs off i.size (a.eval x) dd) ->
     K ({ s with T:=dB s.T r ([],.row tt sh (l.set j dd)) }.put o.dst [] (.one .und))->gq P N B h0 h w a o (gv s.gl []) K:=by
     intro e dd hz1 hej hu k;have hj:=(A8.1 hej).1;have hold:=aj.ok.holds r _ _ (bH hT tr) hb
     match v0,hold with
     | .row vv,hold=>
       rcases hold with⟨hv0,_⟩ | ⟨_,hv0,_⟩ | ⟨g',cap,cur,hv0,he,q2,q3,q4,q5⟩
       .subst hv0;simp[RV.block,aA]at hgb
       .subst hv0;simp[RV.block,aA]at hgb
       .have hgg:g'=g:=by rw[hv0]at hgb;exact Ia ((qA q3.1).symm.trans hgb)
        subst hgg;have hm:(j+1) * sh.size<=l.length * sh.size:=x9 _ hj;have hm2:l.length * sh.size<=cap * sh.size:=x9 _ q2;rw[wW]at hm;obtain⟨g1,g2⟩:=q5.get (λ_ _=>Rd.size sh) hej
        have gl:=Rd.size sh g1;obtain⟨cs',ec,e2,e3,e4,e5⟩:=hu g1;rw[gl]at e4;have r1:=fD (o:=j * sz+off) (v:=a.eval x) ti he (by rw[ec];simp;omega) (by rw[hz1];omega) (by rw[ec];intro u hu;exact e3 u (by simpa using hu))
        refine qN aj (by rw[ho];rfl) hd hT rfl hb hgb ?_ (exec rfl ep r1) k
        rw[ec,hz1];refine .inr (.inr ⟨g',cap,_,by rw[hv0,wU],setRow_heap w g' _ _ tt (0,0) he,by rw[wU];exact q2,q3,?_,?_⟩)
        .simp only[FM,ku,kV,yc,TM];omega
        .rw[wU];show fV (Rd h sh) ((List.take (j * sh.size+off) cur.toList++cs'++List.drop (j * sh.size+off+i.size) cur.toList).take (l.length * sh.size)) (l.set j dd);have e:=fV.set (λ_ _=>Rd.size sh) q5 hj e5
         have lc:cur.toList.length=cap * sh.size:=by simpa using q4
         have key:(List.take (j * sh.size+off) cur.toList++cs'++List.drop (j * sh.size+off+i.size) cur.toList).take (l.length * sh.size) =
          List.take (j * sh.size) (List.take (l.length * sh.size) cur.toList)++(List.take off (List.take sh.size (List.drop (j * sh.size) (List.take (l.length * sh.size) cur.toList)))++cs'++List.drop (off+i.size) (List.take sh.size (List.drop (j * sh.size) (List.take (l.length * sh.size) cur.toList))))++List.drop (j * sh.size+sh.size) (List.take (l.length * sh.size) cur.toList):=by
          apply H9;intro p;simp only[A91,uX,JY,ku,kV,yc,lc,e2]
          repeat' split
          all_goals first | rfl | omega | (congr 1;omega) | (rw[BH (by omega)]) | (exfalso;omega) | skip
         rw[key];exact e
    split at k
    .rename_i hz;rw[aB,aB,bV,bV]at hz;have hz1:sz=sh.size:=iw hz.1;have hz2:off=0:=iw hz.2.1;have hz3:sh.size=i.size:=iw hz.2.2;split at k
     .rename_i dd hdd;obtain⟨hj,k⟩:=k;refine part hz1 (lK hj) (λhr=>?_) k
      subst hz2;exact Aa hz3 hdd hr cv
     .cases k
    .split at k
     .rename_i hz;have hz1:sz=sh.size:=iw hz;obtain⟨hj,k⟩:=k;have k:=k _ (lK hj);split at k
      .rename_i dd hdd;exact part hz1 (lK hj) (λhr=>nM sh hdd hr cv) k
      .cases k
     .cases k
   .rename_i tt sh d0 hT;split at k
    .rename_i p hp0;obtain⟨hj,k⟩:=k;have hold:=aj.ok.holds r _ _ (bH hT tr) hb
     match v0,hold with
     | .blk b,⟨ys,he,rd0⟩=>
       have hgg:b=g:=by simpa[RV.block]using hgb
       subst hgg;obtain⟨cs',ec,e2,e3,e4,e5⟩:=Ik sh hp0 rd0 cv hj;have r1:=fD (o:=j * sz+off) (v:=a.eval x) ti he (by rw[ec];simp;omega) (by simp;omega) (by rw[ec];intro u hu;exact e3 u (by simpa using hu))
       refine qN aj (by rw[ho];rfl) hd hT rfl hb hgb ?_ (exec rfl ep r1) k
       refine⟨_,setRow_heap w b _ _ tt (0,0) he,?_⟩;rw[ec];exact e5
    .cases k
   .cases k
  .cases k
 .cases k
end
def nO(n bytes:Nat):Prop:=n * bytes<=140737488355328
abbrev BX(i:Nat) (x:SC):SC:=match SC.free i x with
 | true=>x
 | false=>.junk
abbrev jkV(i:Nat):SV->SV
 | .c x=>.c (BX i x)
 | .agg xs=>.agg (fA (BX i) xs)
 | v=>v
abbrev jkE(i:Nat):aZ->aZ
 | .one v=>.one (jkV i v)
 | .iq vs=>.iq (fA (jkV i) vs)
abbrev jkR(i:Nat):ay->ay
 | .blk t cs=>.blk t (fA (BX i) cs)
 | r=>r
abbrev sZ(i:Nat):List (Nat×Gd×aZ)->List (Nat×Gd×aZ)
 | []=>[]
 | (k,g,e) :: l=>(k,g,jkE i e) :: sZ i l
abbrev KH(i:Nat):List (Gd×ay)->List (Gd×ay)
 | []=>[]
 | (g,r) :: l=>(g,jkR i r) :: KH i l
theorem dZ.jk{x:SC}{y:Value} (v:RV) (c:dZ h β x y):dZ h (β.set i v) (BX i x) y:=by
 unfold BX;split
 .rename_i hf;exact c.set hf
 .trivial
theorem dZ.jk0{x:SC}{y:Value} (c:dZ h β x y):dZ h β (BX i x) y:=by
 unfold BX;split
 .exact c
 .trivial
theorem aU.jk{h:FH}{β:List RV}{i:Nat} (v:RV):∀{xs:List SC}{ys:List Value},aU (λx y=>dZ h β x y/\dG y) xs ys->aU (λx y=>dZ h (β.set i v) x y/\dG y) (fA (BX i) xs) ys
 | [],[],_=>trivial
 | _ :: _,_ :: _,⟨a,b⟩=>⟨⟨a.1.jk v,a.2⟩,aU.jk v b⟩
theorem aU.jk0{h:FH}{β:List RV}{i:Nat}:∀{xs:List SC}{ys:List Value},aU (λx y=>dZ h β x y/\dG y) xs ys->aU (λx y=>dZ h β x y/\dG y) (fA (BX i) xs) ys
 | [],[],_=>trivial
 | _ :: _,_ :: _,⟨a,b⟩=>⟨⟨a.1.jk0,a.2⟩,aU.jk0 b⟩
theorem dA.jk{h:FH}{β:List RV}{i:Nat} (v:RV):∀{x:SV}{y:Value},dA h β x y->dA h (β.set i v) (jkV i x) y
 | .c _,_,c=>⟨c.1.jk v,c.2⟩
 | .agg _,_,⟨ys,e,a⟩=>⟨ys,e,a.jk v⟩
 | .dat _ _,_,c=>c
 | .und,_,c=>c
theorem jP.jk{h:FH}{β:List RV}{i:Nat} (v:RV):∀{x:aZ}{y:Value},jP h β x y->jP h (β.set i v) (jkE i x) y
 | .one _,_,c=>dA.jk v c
 | .iq _,_,⟨ys,e,a⟩=>⟨ys,e,go a⟩
where
 go:∀{xs:List SV}{ys:List Value},aU (dA h β) xs ys->aU (dA h (β.set i v)) (fA (jkV i) xs) ys
  | [],[],_=>trivial
  | _ :: _,_ :: _,⟨a,b⟩=>⟨a.jk v,go b⟩
theorem Holds.jk0{h:FH}{β:List RV}{w:World}{i:Nat}:∀{r:ay}{v:RV},Holds h β w r v->Holds h β w (jkR i r) v
 | .blk _ _,.blk _,⟨ys,e,a⟩=>⟨ys,e,a.jk0⟩
 | .row _ _ _,.row _,e=>e
 | .obj _ _ _,.blk _,e=>e
 | .deep _ _ _ _ _ _ _ _,.deep _ _,e=>e
 | .mp _ _ _,.row _,e=>e
 | .NC _ _ _ _,.deep _ _,e=>e
 | .it _ _ _ _,.blk _,e=>e
 | .Ko _ _ _ _,.row _,e=>e
 | .Gj _ _ _ _,.deep _ _,e=>e
 | .gone,_,_=>trivial
theorem WJ(i:Nat) (x:SC):SC.free i (BX i x)=true:=by
 unfold BX;split
 .assumption
 .rfl
theorem DL(i:Nat):∀xs:List SC,uY i (fA (BX i) xs)=true
 | []=>rfl
 | x :: l=>by simp only[fA,uY,WJ,DL i l,Bool.and_self]
theorem KI(i:Nat) (r:ay):ay.free i (jkR i r)=true:=by
 cases r with
 | blk t cs=>exact DL i cs
 | _=>rfl
theorem uD(i:Nat) (r:ay):(jkR i r).live=r.live:=by cases r<;>rfl
theorem DN(i:Nat):∀{l:List (Nat×Gd×aZ)}{t:Nat}{G:Gd}{e:aZ},iD (sZ i l) t=some (G,e)->∃e0,iD l t=some (G,e0)/\e=jkE i e0
 | [],_,_,_,h=>by simp[sZ,iD]at h
 | (k,g,e0) :: l,t,G,e,h=>by
   simp only[sZ]at h;rw[bg]at h ⊢
   split at h
   .rename_i hk;cases h;exact⟨e0,by rw[if_pos hk],rfl⟩
   .rename_i hk;rw[if_neg hk];exact DN i h
theorem Iy(i:Nat):∀{l:List (Nat×Gd×aZ)}{t:Nat}{G:Gd}{e:aZ},iD l t=some (G,e)->iD (sZ i l) t=some (G,jkE i e)
 | [],_,_,_,h=>by simp[iD]at h
 | (k,g,e0) :: l,t,G,e,h=>by
   simp only[sZ];rw[bg]at h ⊢
   split at h
   .rename_i hk;cases h;rw[if_pos hk]
   .rename_i hk;rw[if_neg hk];exact Iy i h
theorem Oi(gl:List Bool) (i:Nat):∀{T:List (Gd×ay)},eff gl (KH i T)=(eff gl T).map (jkR i)
 | []=>rfl
 | (g,r) :: l=>by
   simp only[KH,eff,TP,Oi gl i (T:=l)]
   congr 1
   cases gv gl g<;>rfl
section
variable {cx:Cx}{P:Program}{N:Nat}{B:Base}{h0:FH}{s:St}{h:FH}{β:List RV}{w:World}{a:Act}{o:Oper}{K:St->Prop}
theorem OK.jk(ok:OK B h0 T h β w) (i:Nat):OK B h0 (T.map (jkR i)) h β w where
 below:=ok.below
 dr:=ok.dr
 len:=by simp[ok.len]
 holds:=by
  intro j r v e e';rw[Df]at e;cases hj:T[j]? with
  | none=>rw[hj]at e;cases e
  | some r0=>rw[hj]at e;cases e;exact(ok.holds j r0 v hj e').jk0
 own:=by
  intro j r v b e hl e' hb;rw[Df]at e;cases hj:T[j]? with
  | none=>rw[hj]at e;cases e
  | some r0=>rw[hj]at e;cases e;exact ok.own j r0 v b hj (by rw[<-uD i];exact hl) e' hb
 inj:=by
  intro j k r1 r2 u v b e1 l1 e2 l2 e3 e4 b1 b2;rw[Df]at e1 e2;cases hj:T[j]? with
  | none=>rw[hj]at e1;cases e1
  | some q1=>
    cases hk:T[k]? with
    | none=>rw[hk]at e2;cases e2
    | some q2=>
      rw[hj]at e1;rw[hk]at e2;cases e1;cases e2;exact ok.inj j k q1 q2 u v b hj (by rw[<-uD i];exact l1) hk (by rw[<-uD i];exact l2) e3 e4 b1 b2
 hle:=ok.hle
 hw:=ok.hw
 hg:=ok.hg
 kn:=ok.kn
theorem Ux(aj:Sat N B h0 s h β w a) (hq:quietly o.op=false) (hd:lJ N o.dst=true){x x':ay}{v:RV} (hT:eY s.T r=some ([],x)) (hl:x.live=true) (hu:β[r]?=some u){y:Value}
 (hg:Gb w w' u.block) (hv:∀b,v.block=some b->u.block=some b\/(w.heap.size<=b/\b < w'.heap.size)) (hvs:∀b,¬v.sub b:=by exact λ_ h=>h) (hold:Holds h (β.set r v) w' x' v)
 (run:(execOp a.eval o).run P w=.ok (.value y) w'){e:aZ} (he:jP h (β.set r v) e y)
 (k:K ({ s with T:=dB (KH r s.T) r ([],x'),env:=sZ r s.env }.put o.dst [] e)):
 gq P N B h0 h w a o (gv s.gl []) K:=by
 have tr:gv s.gl []=true:=rfl;have fQ:=bH hT tr;have okj:=aj.ok.jk r;have hTj:((eff s.gl s.T).map (jkR r))[r]?=some (jkR r x):=by rw[Df,fQ];rfl
 have ok:OK B h0 (eff s.gl (dB (KH r s.T) r ([],x'))) h (β.set r v) w':=by
  rw[fO,Oi];refine okj.upd hTj (by rw[uD];exact hl) hu hg (λk e=>.inl e) (λb hb=>hb.elim (λq=>(hv b q).imp .inl id) λq=>(hvs b q).elim) (.inr λj rj _ ej=>?_) hold
  rw[Df]at ej;cases hj:(eff s.gl s.T)[j]? with
  | none=>rw[hj]at ej;cases ej
  | some q=>rw[hj]at ej;cases ej;exact KI r q
 have aW:Sat N B h0 { s with T:=dB (KH r s.T) r ([],x'),env:=sZ r s.env } h (β.set r v) w' a:=by
  refine⟨ok,?_,?_,aj.defers,aj.sz,?_,?_⟩
  .intro t G e ht;obtain⟨e0,h1,rfl⟩:=DN r ht;obtain⟨z,q1,q2,q3⟩:=aj.env t G e0 h1;exact⟨z,q1,λhG=>(q2 hG).jk v,q3⟩
  .intro d i hi;obtain⟨G,b,q1,q2⟩:=aj.gs d i hi;exact⟨G,b,Iy r q1,q2⟩
  .intro t G e ht;obtain⟨e0,h1,rfl⟩:=DN r ht;exact aj.gb t G e0 h1
  .intro p hp;simp only at hp;rw[fZ]at hp;rcases JW hp with hp | hp
   .have:∀{l:List (Gd×ay)},p∈KH r l->∃q∈l,q.1=p.1:=by
     intro l
     induction l with
     | nil=>intro hh;simp[KH]at hh
     | cons q l ih=>
       obtain⟨g,q⟩:=q;intro hh;simp only[KH,mY]at hh;rcases hh with rfl | hh
       .exact⟨(g,q),by simp,rfl⟩
       .obtain⟨q',h1,h2⟩:=ih hh;exact⟨q',by simp[h1],h2⟩
    obtain⟨q,h1,h2⟩:=this hp;rw[<-h2];exact aj.gT q h1
   .subst hp;rfl
 exact l7 aj k tr hq (.inl run) (FH.le.refl h) (aW.put (dW hd) rfl (λ_=>he) λhh=>by cases hh)
end
def WL(h:FH) (w:World) (sh:Sh) (v:Value) (l:List sh.den):Prop:=
 (v=.slice none 0 0/\l=[])\/(∃a c,v=.slice (some a) 0 c/\l=[])\/∃b o c cs,v=.slice (some ⟨b,o,none⟩) l.length c/\fV (Rd h sh) cs l/\∀j u,cs[j]?=some u->w.cell? ⟨b,o+j,none⟩=some u
def QA(h:FH) (w:World) (t:TypeId) (sh:Sh) (v:Value) (l:List sh.den):Prop:=Holds h [] w (.row t sh l) (.row v)
theorem uF{ty:TypeId}{i:TI}{sh:Sh}{sv:Value}{l l2:List sh.den} (hu:P.underlying t=some (.slice el)) (k:aN P el i) (hs:sh.size=i.size)
 (hb1:1<=i.bytes) (hs1:1<=i.size) (row:QA h w el sh v l) (src:WL h w sh sv l2) (room:nO (l.length+l2.length) i.bytes)
 (hw:∀b o u,h b o=some u->vis w b o=some u):
 ∃v' w',(Builtin.append_ #[t,t] ty #[v,sv]).run P w=.ok v' w'/\Gb w w' (aA v)/\(∀b,aA v'=some b->aA v=some b\/(w.heap.size<=b/\b < w'.heap.size))/\QA h w' el sh v' (l++l2):=by
 obtain⟨inf,z,i1,i2,i3,i4,i5⟩:=k.info;unfold nO at room;have hn:l.length+l2.length<=140737488355328:=o8 (A80 _ hb1) room;have WM:z.cells.size=i.size:=by rw[i5];simpa using k.pq
 rcases src with⟨rfl,rfl⟩ | ⟨sa,sc,rfl,rfl⟩ | ⟨b,o,c,cs,rfl,rd,at_⟩
 .refine⟨v,w,?_,cO _ _,λb hb=>.inl hb,by rw[Ql];exact row⟩
  rcases row with⟨rfl,rfl⟩ | ⟨_,rfl,rfl⟩ | ⟨g,cap,cur,rfl,q1,q2,q3,q4,q5⟩
  .simp[Builtin.append_,run_underlying hu,sizeOf,typeInfo,i1,Builtin.lenOf,Builtin.firstCells]
  .simp[Builtin.append_,run_underlying hu,sizeOf,typeInfo,i1,Builtin.lenOf,Builtin.firstCells,storeCells]
  .simp[Builtin.append_,run_underlying hu,sizeOf,typeInfo,i1,Builtin.lenOf,Builtin.firstCells,q2,storeCells]
 .refine⟨v,w,?_,cO _ _,λb hb=>.inl hb,by rw[Ql];exact row⟩
  rcases row with⟨rfl,rfl⟩ | ⟨_,rfl,rfl⟩ | ⟨g,cap,cur,rfl,q1,q2,q3,q4,q5⟩
  .simp[Builtin.append_,run_underlying hu,sizeOf,typeInfo,i1,Builtin.lenOf,Builtin.firstCells,loadCells,loadCellsFrom]
  .simp[Builtin.append_,run_underlying hu,sizeOf,typeInfo,i1,Builtin.lenOf,Builtin.firstCells,storeCells,loadCells,loadCellsFrom]
  .simp[Builtin.append_,run_underlying hu,sizeOf,typeInfo,i1,Builtin.lenOf,Builtin.firstCells,q2,storeCells,loadCells,loadCellsFrom]
 .have hcs:cs.length=l2.length * inf.size:=by rw[fV.size (λ_ _=>Rd.size sh) rd,i2,hs]
  have hnews:∀j u,cs[j]?=some u->w.cell? ((⟨b,o,none⟩:Addr).add j)=some u:=λj u e=>by rw[add_lit];exact at_ j u e
  have h1:∀u∈cs,u.oneCell'=true:=λu hu'=>(fV.all (λ_ _ r=>Rd.one sh r) rd u hu').2
  rcases row with⟨rfl,rfl⟩ | ⟨ra,rfl,rfl⟩ | ⟨g,cap,cur,rfl,q1,q2,q3,q4,q5⟩
  .by_cases hm:l2.length=0
   .have:l2=[]:=VB hm;subst this;refine⟨.slice none 0 0,w,?_,cO _ _,λb hb=>.inl hb,.inl ⟨rfl,rfl⟩⟩
    simp[Builtin.append_,run_underlying hu,sizeOf,typeInfo,i1,Builtin.lenOf,Builtin.firstCells,loadCells,loadCellsFrom]
   .have r:=run_append_nil (P:=P) w t ty el inf z hu i1 i4 ⟨b,o,none⟩ l2.length c cs hcs hnews (by omega) (by simp at hn;omega) (by rw[i3];simp at room;omega)
    have hge:=grownCap_ge w l2.length 0 el;refine⟨_,_,r,⟨⟨rfl,rfl,rfl,by simp,λk hk _=>(World.grownBy_alloc w.drew _ none).block k hk (by simp)⟩,TQ _⟩,?_,?_⟩
    .intro b' hb';simp[aA]at hb';obtain⟨_,rfl⟩:=hb';right;simp
    .refine .inr (.inr ⟨w.heap.size,_,_,rfl,heap_alloc_new w.drew _,by simpa using hge,⟨by omega,grownCap_le_maxLen w l2.length 0 el (by simp only[maxLen];simp at hn;omega)⟩,?_,?_⟩)
     .simp only[A85,FM,size_zeroCells,WM,hcs,i2,hs,<-J5]
      congr 1;omega
     .simp only[A96,TN];rw[show l2.length * sh.size=cs.length by rw[hcs,i2,hs],VQ]
      exact rd
  .by_cases hm:l2.length=0
   .have:l2=[]:=VB hm;subst this;refine⟨.slice (some ra) 0 0,w,?_,cO _ _,λb hb=>.inl hb,.inr (.inl ⟨ra,rfl,rfl⟩)⟩
    simp[Builtin.append_,run_underlying hu,sizeOf,typeInfo,i1,Builtin.lenOf,Builtin.firstCells,storeCells,loadCells,loadCellsFrom]
   .have r:=run_append_grow (P:=P) w t ty el inf z hu i1 i4 ra 0 0 [] (by simp) (λj u e=>by simp at e) ⟨b,o,none⟩ l2.length c cs hcs hnews (by omega) (by simp at hn;omega) (growslice_fits (by omega) (by rw[i3];simpa using room))
    rw[Dh]at r;have hge:=grownCap_ge w l2.length 0 el;refine⟨_,_,r,⟨⟨rfl,rfl,rfl,by simp,λk hk _=>(World.grownBy_alloc w.drew _ none).block k hk (by simp)⟩,TQ _⟩,?_,?_⟩
    .intro b' hb';simp[aA]at hb';obtain⟨_,rfl⟩:=hb';right;simp
    .refine .inr (.inr ⟨w.heap.size,_,_,rfl,heap_alloc_new w.drew _,by simpa using hge,⟨by omega,grownCap_le_maxLen w l2.length 0 el (by simp only[maxLen];simp at hn;omega)⟩,?_,?_⟩)
     .simp only[A85,FM,size_zeroCells,WM,TN,hcs,i2,hs,Dh,J3,<-J5]
      congr 1;omega
     .simp only[A96,TN];rw[show l2.length * sh.size=cs.length by rw[hcs,i2,hs],VQ]
      exact rd
  .by_cases hroom:l.length+l2.length<=cap
   .have hfit:l.length * inf.size+cs.length<=cur.size:=by rw[hcs,q4,i2,hs,<-J5];exact x9 _ hroom
    have r:=run_append_room (P:=P) w t ty el inf hu i1 g l.length cap cur q1 ⟨b,o,none⟩ l2.length c cs hcs hnews h1 hroom hfit;refine⟨_,_,r,by rw[aY q3.1];exact iZ w g _,λb' hb'=>.inl (by rw[aY q3.1]at hb' ⊢;exact hb'),.inr (.inr ⟨g,cap,_,by rw[ku],setRow_heap w g cur _ el _ q1,by rw[ku];exact hroom,q3,?_,?_⟩)⟩
    .simp only[FM,ku,kV,yc,TM];omega
    .have e1:(List.take (l.length * sh.size) cur.toList++cs).length=(l++l2).length * sh.size:=by
      rw[ku,ku,J5,hcs,i2,fV.size (λ_ _=>Rd.size sh) q5,hs]
     show fV (Rd h sh) ((List.take (l.length * inf.size) cur.toList++cs++List.drop (l.length * inf.size+cs.length) cur.toList).take ((l++l2).length * sh.size)) (l++l2);rw[i2,<-hs,<-e1,VQ];exact q5.append rd
   .have lsz:=fV.size (λ_ _=>Rd.size sh) q5
    have hol:(cur.toList.take (l.length * sh.size)).length=l.length * inf.size:=by rw[lsz,i2,hs]
    have holds:∀j u,(cur.toList.take (l.length * sh.size))[j]?=some u->w.cell? ((⟨g,0,none⟩:Addr).add j)=some u:=by
     intro j u e;rw[add_lit,Dh,cell_of_row w g j cur el (0,0) q1];rw[uX]at e;split at e
     .simpa using e
     .cases e
    have r:=run_append_grow (P:=P) w t ty el inf z hu i1 i4 ⟨g,0,none⟩ l.length cap _ hol holds ⟨b,o,none⟩ l2.length c cs hcs hnews (by omega) (by omega) (growslice_fits (by omega) (by rw[i3];exact room))
    have hge:=grownCap_ge w (l.length+l2.length) cap el;refine⟨_,_,r,⟨⟨rfl,rfl,rfl,by simp,λk hk _=>(World.grownBy_alloc w.drew _ none).block k hk (by simp)⟩,TQ _⟩,?_,?_⟩
    .intro b' hb';simp[aA]at hb';obtain⟨_,rfl⟩:=hb';right;simp
    .refine .inr (.inr ⟨w.heap.size,_,_,by rw[ku],heap_alloc_new w.drew _,by rw[ku];exact hge,⟨by omega,grownCap_le_maxLen w _ cap el (by simp only[maxLen];omega)⟩,?_,?_⟩)
     .have ahZ:(cur.toList.take (l.length * i.size)).length=l.length * i.size:=by rw[<-hs];exact lsz
      simp only[A85,FM,size_zeroCells,WM,hcs,i2,hs,ahZ,<-J5]
      congr 1
      omega
     .simp only[A96,zW];rw[<-zW,show(l++l2).length * sh.size=(List.take (l.length * sh.size) cur.toList++cs).length by rw[ku,ku,J5,hcs,lsz,i2,hs],VQ]
      exact q5.append rd
abbrev iK(cx:Cx) (t:TypeId) (K:TypeId->TI->Sh->Prop):Prop:=match descOf cx t with
 | .slice el=>match pO cx.ti el with
   | none=>False
   | some ie=>match ie.iJ with
     | none=>False
     | some sh=>match dD (Nat.beq sh.size ie.size) (dD (Nat.ble 1 ie.bytes) (Nat.ble 1 ie.size)) with
       | true=>K el ie sh
       | false=>False
 | _=>False
abbrev Oj(s:St) (sh:Sh) (v:SV):Option (List sh.den):=match v with
 | .c (.sl oD l2)=>jA (.sl oD) l2 (.sl sh)
 | .c (.v (.slice none 0 0))=>some []
 | .c (.row r)=>match eY s.T r with
   | some ([],.row _ oD l2)=>jA (.sl oD) l2 (.sl sh)
   | _=>none
 | _=>none
abbrev vG(cx:Cx) (s:St) (d:Option Nat) (t:TypeId) (x y:Operand) (K:St->Prop):Prop:=iK cx t λel ie sh=>
 match bM cx s [] y with
 | some (.one v2)=>match Oj s sh v2 with
   | none=>False
   | some l2=>match bM cx s [] x with
     | some (.one (.c (.row r)))=>match eY s.T r with
       | some ([],.row tt fC l1)=>match Nat.beq tt el with
         | true=>match jA (.sl fC) l1 (.sl sh) with
           | some l=>nO (l.length+l2.length) ie.bytes/\K ({ s with T:=dB (KH r s.T) r ([],.row el sh (l++l2)),env:=sZ r s.env }.put d [] (.one (.c (.row r))))
           | none=>False
         | false=>False
       | _=>False
     | some (.one (.c (.v (.slice none 0 0))))=>nO l2.length ie.bytes/\K ({ s with T:=snoc s.T ([],.row el sh l2) }.put d [] (.one (.c (.row (aQ s.T)))))
     | _=>False
 | _=>False
section
variable {cx:Cx}{P:Program}{N:Nat}{B:Base}{h0:FH}{s:St}{h:FH}{β:List RV}{w:World}{a:Act}{o:Oper}{K:St->Prop}
theorem oG{fC sh:Sh}{l1:List fC.den}{l:List sh.den} (e:jA (.sl fC) l1 (.sl sh)=some l):∃e':fC=sh,(e'▸l1:List sh.den)=l:=by
 obtain⟨e1,e2⟩:=kC e;cases e1;exact⟨rfl,e2⟩
theorem BZ(aj:Sat N B h0 s h β w a){sh:Sh}{v:SV}{l:List sh.den}{y:Value} (e:Oj s sh v=some l) (c:dA h β v y):WL h w sh y l:=by
 unfold Oj at e;split at e
 .rename_i oD l2;obtain⟨e1,e2⟩:=oG e;subst e1;simp only at e2;subst e2;rcases c.1 with⟨e1,e2⟩ | ⟨ad,cap,e1,e2,_⟩ | ⟨b,off,cap,e1,q1,q2,cs,rd,at_⟩
  .exact .inl ⟨e1,e2⟩
  .exact .inr (.inl ⟨ad,cap,e1,e2⟩)
  .exact .inr (.inr ⟨b,off,cap,cs,e1,rd,λj u hj=>Di (aj.ok.hw _ _ _ (at_ j u hj)) (fV.all (λ_ _=>Rd.one _) rd u (ig hj)).2⟩)
 .cases e;exact .inl ⟨c.1.1,rfl⟩
 .rename_i r;split at e
  .rename_i tt oD l2 hT;obtain⟨e1,e2⟩:=oG e;subst e1;simp only at e2;subst e2;rcases aj.ok.holds r _ _ (bH hT rfl) (aj.ok.row_of (bH hT rfl) c.1) with⟨e1,e2⟩ | ⟨ra,e1,e2⟩ | ⟨g,cap,cur,e1,q1,q2,q3,q4,rd⟩
   .exact .inl ⟨e1,e2⟩
   .exact .inr (.inl ⟨ra,0,e1,e2⟩)
   .refine .inr (.inr ⟨g,0,cap,_,e1,rd,λj u hj=>?_⟩)
    rw[Dh,cell_of_row w g j cur tt (0,0) q1];rw[uX]at hj;split at hj
    .simpa using hj
    .cases hj
  .cases e
 .cases e
theorem Bf(hc:bQ P cx.ti) (aj:Sat N B h0 s h β w a) (hg:aK cx.gd h) (hd:lJ N o.dst=true){x:Operand} (ho:o.op=.call c) (bW:c.callee=.builtin .append) (ha:c.args=#[x,y]) (ht:c.argTypes=#[t,t])
 (k:vG cx s o.dst t x y K):gq P N B h0 h w a o (gv s.gl []) K:=by
 have tr:gv s.gl []=true:=rfl;unfold vG iK at k;split at k
 .rename_i el hde;have hu:=bJ hc hde (by simp)
  split at k
  .cases k
  rename_i ie hie;have tie:=hc.get hie;split at k
  .cases k
  rename_i sh hsh;split at k
  .rename_i hz;rw[aB,aB,bV,bV]at hz;have hz1:sh.size=ie.size:=iw hz.1;have hz2:1<=ie.bytes:=qj hz.2.1;have hz3:1<=ie.size:=qj hz.2.2;split at k
   .rename_i v2 hv2;have c2:=aP aj hg tr hv2;split at k
    .cases k
    rename_i l2 hl2;have src:=BZ aj hl2 c2;have exec:∀{u u':Value}{w':World},a.eval x=u->(Builtin.append_ #[t,t] o.type #[u,a.eval y]).run P w=.ok u' w'->(execOp a.eval o).run P w=.ok (.value u') w':=by
     intro u u' w' e r;simp[execOp,ho,resolve,bW,ha,ht,invoke,builtin,e,r]
    split at k
    .rename_i r hr;have cr:=aP aj hg tr hr;split at k
     .rename_i tt fC l1 hT;split at k
      .rename_i htt;have htt:tt=el:=iw htt;subst htt;split at k
       .rename_i l hl;obtain⟨e1,e2⟩:=oG hl;subst e1;simp only at e2;subst e2;have cr1:=aj.ok.row_of (bH hT tr) cr.1;have row:QA h w tt fC (a.eval x) l1:=aj.ok.holds r _ _ (bH hT tr) cr1;obtain⟨v',w',r1,r2,r3,r4⟩:=uF (ty:=o.type) hu tie hz1 hz2 hz3 row src k.1 aj.ok.hw;have iO:r < β.length:=(A8.1 cr1).1;refine Ux aj (by rw[ho];simp only[quietly,bW]) hd (v:=.row v') hT rfl cr1 r2 r3 (hold:=show Holds h (β.set r (.row v')) w' (.row tt fC (l1++l2)) (.row v') from r4) (run:=exec rfl r1) (he:=?_) (k:=k.2)
        refine⟨?_,?_⟩
        .refine⟨.row v',?_,rfl⟩;rw[qx iO]
        .rcases r4 with⟨rfl,_⟩ | ⟨_,rfl,_⟩ | ⟨g,cap,cur,rfl,_⟩<;>exact⟨rfl,rfl⟩
       .cases k
      .cases k
     .cases k
    .rename_i hx;have Gv:=aP aj hg tr hx;obtain⟨v',w',r1,r2,r3,r4⟩:=uF (ty:=o.type) (l:=[]) hu tie hz1 hz2 hz3 (.inl ⟨Gv.1.1,rfl⟩) src (by simpa using k.1) aj.ok.hw
     refine kY aj rfl hd k.2 λ_=>⟨v',w',.row v',exec rfl r1,?_,?_,?_,?_⟩
     .rw[Gv.1.1]at r2;exact r2
     .intro b hb;rcases r3 b (bC.1 hb) with hh | hh
      .rw[Gv.1.1]at hh;cases hh
      .exact hh
     .exact r4
     .refine⟨⟨_,kE (kZ aj) _,rfl⟩,?_⟩;rcases r4 with⟨rfl,_⟩ | ⟨_,rfl,_⟩ | ⟨g,cap,cur,rfl,_⟩<;>exact⟨rfl,rfl⟩
    .cases k
   .cases k
  .cases k
 .cases k
end
abbrev QB(cx:Cx) (s:St) (G:Gd) (d:Option Nat) (t:TypeId) (ln cp:Operand) (K:St->Prop):Prop:=iK cx t λel ie sh=>
 match bM cx s G ln with
 | some (.one (.c (.v (.int _ n))))=>match bM cx s G cp with
   | some (.one (.c (.v (.int _ c))))=>side s.gl G (0<=n/\n<=c/\nO c.toNat ie.bytes)/\K ({ s with T:=snoc s.T (G,.row el sh (List.replicate n.toNat (qJ sh))) }.put d G (.one (.c (.row (aQ s.T)))))
   | _=>False
 | _=>False
theorem Iz{α:Type}{R:List Value->α->Prop}{cs:List Value}{d:α} (r:R cs d):∀n:Nat,fV R (iG n cs) (List.replicate n d)
 | 0=>rfl
 | n+1=>⟨cs,iG n cs,by simp only[iG,fM],r,Iz r n⟩
theorem Ah{l:List Value}:∀{n m:Nat},n<=m->(iG m l).take (n * l.length)=iG n l
 | 0,m,_=>by simp[iG]
 | n+1,0,h=>by omega
 | n+1,m+1,h=>by
   simp only[iG,fM];rw[wW,V4,acj,Ah (by omega)]
section
variable {cx:Cx}{P:Program}{N:Nat}{B:Base}{h0:FH}{s:St}{h:FH}{β:List RV}{w:World}{a:Act}{G:Gd}{o:Oper}{K:St->Prop}
theorem Uy(hc:bQ P cx.ti) (aj:Sat N B h0 s h β w a) (hg:aK cx.gd h) (hG:vg s.gl.length G=true) (hd:lJ N o.dst=true){x:Operand} (ho:o.op=.makeSlice t x y)
 (k:QB cx s G o.dst t x y K):gq P N B h0 h w a o (gv s.gl G) K:=by
 unfold QB iK at k;split at k
 .rename_i el hde;have hu:=bJ hc hde (by simp)
  split at k
  .cases k
  rename_i ie hie;have tie:=hc.get hie;split at k
  .cases k
  rename_i sh hsh;split at k
  .rename_i hz;rw[aB,aB,bV,bV]at hz;have hz1:sh.size=ie.size:=iw hz.1;have hz2:1<=ie.bytes:=qj hz.2.1;have hz3:1<=ie.size:=qj hz.2.2;split at k
   .rename_i ik n hn;split at k
    .rename_i ik' c hcp;refine kY aj hG hd k.2 λhgv=>?_
     obtain⟨s1,s2,s3⟩:=fG k.1 hgv;have e1:a.eval x=.int ik n:=(aP aj hg hgv hn).1.1;have e2:a.eval y=.int ik' c:=(aP aj hg hgv hcp).1.1;obtain⟨inf,z,i1,i2,i3,i4,i5⟩:=tie.info;unfold nO at s3;have hcb:c.toNat<=140737488355328:=o8 (A80 _ hz2) s3;have hb:(inf.bytes:Int) * c<=281474976710656:=by
      rw[i3];have:((c.toNat * ie.bytes:Nat):Int)<=140737488355328:=by omega
      rw[Int.natCast_mul,Int.toNat_of_nonneg (by omega),Int.mul_comm]at this
      omega
     have r:=run_make (P:=P) w t el inf z hu i1 i4 ik ik' n c s1 s2 hb (by omega)
     have WO:madeCells z.cells (c.toNat * inf.size)=(iG c.toNat ie.zero).toArray:=by
      unfold madeCells;rw[i5,i2,<-tie.pq];exact qM (by rw[tie.pq];omega)
     rw[WO]at r;refine⟨.slice (some ⟨w.heap.size,0,none⟩) n.toNat c.toNat,w.alloc (.cells (iG c.toNat ie.zero).toArray el),.row (.slice (some ⟨w.heap.size,0,none⟩) n.toNat c.toNat),?_,ou _ _ _,?_,?_,?_⟩
     .simp only[execOp,ho,e1,e2,Sem.run_bind,r,Result.andThen_ok,Sem.run_pure]
     .intro b hb';rw[bC]at hb';simp[aA]at hb';obtain⟨_,rfl⟩:=hb';simp
     .by_cases hc0:c.toNat=0
      .have hn0:n.toNat=0:=by omega
       exact .inr (.inl ⟨⟨w.heap.size,0,none⟩,by rw[hc0,hn0],by rw[hn0];rfl⟩)
      refine .inr (.inr ⟨w.heap.size,c.toNat,_,by rw[JX],l9 _ _,by rw[JX];omega,⟨by omega,by simp only[maxLen];omega⟩,?_,?_⟩)
      .simp only[FM,uz,tie.pq,hz1]
      .rw[JX];show fV (Rd h sh) ((iG c.toNat ie.zero).take (n.toNat * sh.size)) _;rw[hz1,<-tie.pq,Ah (by omega)]
       exact Iz (yJ (tie.Wp sh hsh).1) _
     .exact⟨⟨_,kE (kZ aj) _,rfl⟩,rfl,rfl⟩
    .cases k
   .cases k
  .cases k
 .cases k
end
abbrev fE:(ss:List Sh)->bT ss->List SV
 | [],_=>[]
 | s :: l,d=>iE s d.1 :: fE l d.2
abbrev yL:(ss:List Sh)->List SV->Option (bT ss)
 | [],vs=>match vs with
   | []=>some ()
   | _=>none
 | s :: l,vs=>match vs with
   | v :: r=>match toDat s v with
     | some d=>match yL l r with
       | some e=>some (d,e)
       | none=>none
     | none=>none
   | _=>none
theorem yM{h:FH}{β:List RV}:∀{ss:List Sh}{vs:List SV}{ys:List Value}{d:bT ss},yL ss vs=some d->aU (dA h β) vs ys->aU (dA h β) (fE ss d) ys
 | [],vs,ys,d,e,a=>by
   unfold yL at e;split at e
   .cases ys with
    | nil=>trivial
    | cons _ _=>exact a.elim
   .cases e
 | s :: l,vs,ys,d,e,a=>by
   unfold yL at e;split at e
   .rename_i v r;cases ys with
    | nil=>exact a.elim
    | cons y ys=>
      split at e
      .rename_i d1 hd;split at e
       .rename_i d2 hr;cases e;obtain⟨cs,e1,rd⟩:=toDat_ok hd a.1;rw[e1];exact⟨jG s rd,yM hr a.2⟩
       .cases e
      .cases e
   .cases e
structure CT where
 ps:List Sh
 pre:bT ps->Prop
 res:bT ps->List ay×aZ
variable {ct:Nat->Option CT}
def KJ(P:Program) (gd:Nat->Option (Sigma Sh.den)) (f:FuncId) (ct:CT):Prop:=
 ∀(d:bT ct.ps) (vs:List Value) (h:FH) (B:World),(∀b o v,h b o=some v->vis B b o=some v)->aK gd h->aU (dA h []) (fE ct.ps d) vs->ct.pre d ->
   Calls P f vs.toArray B (λen w'=>∃h' β y,en=.returned y/\OK (Base.of B) h (ct.res d).1 h' β w'/\jP h' β (ct.res d).2 y)
def CTX(P:Program) (gd:Nat->Option (Sigma Sh.den)) (f:FuncId) (suf:List Value) (ct:CT):Prop:=
 ∀(d:bT ct.ps) (vs:List Value) (h:FH) (B:World),(∀b o v,h b o=some v->vis B b o=some v)->aK gd h->aU (dA h []) (fE ct.ps d) vs->ct.pre d ->
   Calls P f (vs++suf).toArray B (λen w'=>∃h' β y,en=.returned y/\OK (Base.of B) h (ct.res d).1 h' β w'/\jP h' β (ct.res d).2 y)
def CTS(P:Program) (gd:Nat->Option (Sigma Sh.den)) (f:FuncId) (sv:List SV) (ct:CT):Prop:=
 ∀(d:bT ct.ps) (vs ys:List Value) (h:FH) (B:World),(∀b o v,h b o=some v->vis B b o=some v)->aK gd h->aU (dA h []) (fE ct.ps d) vs->aU (dA h []) sv ys->ct.pre d ->
   Calls P f (vs++ys).toArray B (λen w'=>∃h' β y,en=.returned y/\OK (Base.of B) h (ct.res d).1 h' β w'/\jP h' β (ct.res d).2 y)
theorem KJ.x{gd:Nat->Option (Sigma Sh.den)}{ct:CT} (h:KJ P gd f ct):CTX P gd f [] ct:=by
 intro d vs h' B;simpa using h d vs h' B
theorem CTX.ok{gd:Nat->Option (Sigma Sh.den)}{ct:CT} (h:CTX P gd f [] ct):KJ P gd f ct:=by
 intro d vs h' B;simpa using h d vs h' B
abbrev SC.sh(n:Nat):SC->SC
 | .own i off=>.own (n+i) off
 | .row i=>.row (n+i)
 | .jR i j sz off=>.jR (n+i) j sz off
 | .sub i j=>.sub (n+i) j
 | .lM i j k sz off=>.lM (n+i) j k sz off
 | x=>x
abbrev SV.sh(n:Nat):SV->SV
 | .c x=>.c (x.sh n)
 | .agg xs=>.agg (fA (SC.sh n) xs)
 | v=>v
abbrev aZ.sh(n:Nat):aZ->aZ
 | .one v=>.one (v.sh n)
 | .iq vs=>.iq (fA (SV.sh n) vs)
abbrev ay.sh(n:Nat):ay->ay
 | .blk t cs=>.blk t (fA (SC.sh n) cs)
 | r=>r
abbrev iQ:Sh->Bool
 | .int _=>true
 | .bool=>true
 | .str=>true
 | .unit=>true
 | .pair a b=>dD (iQ a) (iQ b)
 | .arr _ s=>iQ s
 | _=>false
abbrev ng:SC->Bool
 | .v _=>true
 | .own _ _=>true
 | .row _=>true
 | _=>false
abbrev allL{α:Type} (p:α->Bool):List α->Bool
 | []=>true
 | x :: l=>dD (p x) (allL p l)
abbrev Ol:SV->Bool
 | .c x=>ng x
 | .agg xs=>allL ng xs
 | .dat s _=>iQ s
 | .und=>true
abbrev IB:aZ->Bool
 | .one v=>Ol v
 | .iq vs=>allL Ol vs
abbrev vH:ay->Bool
 | .blk _ cs=>allL ng cs
 | .row _ s _=>iQ s
 | .obj _ s _=>iQ s
 | .deep _ _ _ _ _ _ _ _=>false
 | .mp _ s _=>iQ s
 | .NC _ _ _ _=>false
 | .it _ _ _ _=>false
 | .Ko _ _ _ _=>true
 | .Gj _ _ _ _=>false
 | .gone=>true
theorem Rd.flat{h h':FH}:∀(s:Sh){cs:List Value}{d:s.den},iQ s=true->Rd h s cs d->Rd h' s cs d
 | .int _,_,_,_,r=>r
 | .bool,_,_,_,r=>r
 | .str,_,_,_,r=>r
 | .unit,_,_,_,r=>r
 | .any,_,_,f,_=>by simp[iQ]at f
 | .sl _,_,_,f,_=>by simp[iQ]at f
 | .pair a b,_,(_,_),f,⟨c1,c2,e,r1,r2⟩=>by
   simp only[iQ,aB,bV]at f;exact⟨c1,c2,e,r1.flat a f.1,r2.flat b f.2⟩
 | .arr _ s,_,_,f,⟨e,r⟩=>⟨e,r.mono λ_ _=>Rd.flat s f⟩
theorem oH{v:RV} (e:β'[i]?=some v):(β++β')[β.length+i]?=some v:=by
 rw[NH (by omega)];simpa using e
theorem dZ.shift:∀{x:SC}{y:Value},dZ h β' x y->dZ h (β++β') (x.sh β.length) y
 | .v _,_,c=>c
 | .sl _ _,_,c=>c
 | .fp _ _,_,c=>c
 | .one _ _,_,c=>c
 | .own _ _,_,⟨b,e,e'⟩=>⟨b,oH e,e'⟩
 | .row _,_,⟨v,e,e'⟩=>⟨v,oH e,e'⟩
 | .jR _ _ _ _,_,⟨v,g,e,e'⟩=>⟨v,g,oH e,e'⟩
 | .sub _ _,_,⟨v,us,e,e'⟩=>⟨v,us,oH e,e'⟩
 | .lM _ _ _ _ _,_,⟨v,us,g,e,e'⟩=>⟨v,us,g,oH e,e'⟩
 | .abs _,_,c=>c
 | .junk,_,_=>trivial
theorem dZ.flat:∀{x:SC}{y:Value},ng x=true->dZ h β x y->dZ h' β x y
 | .v _,_,_,c=>c
 | .own _ _,_,_,c=>c
 | .row _,_,_,c=>c
 | .sl _ _,_,f,_=>by simp[ng]at f
 | .fp _ _,_,f,_=>by simp[ng]at f
 | .one _ _,_,f,_=>by simp[ng]at f
 | .jR _ _ _ _,_,f,_=>by simp[ng]at f
 | .sub _ _,_,f,_=>by simp[ng]at f
 | .lM _ _ _ _ _,_,f,_=>by simp[ng]at f
 | .abs _,_,f,_=>by simp[ng]at f
 | .junk,_,f,_=>by simp[ng]at f
theorem aU.fA{α β:Type}{R R':α->β->Prop}{f:α->α} (hR:∀a b,R a b->R' (f a) b):∀{l:List α}{m:List β},aU R l m->aU R' (fA f l) m
 | [],[],_=>trivial
 | _ :: _,_ :: _,⟨a,b⟩=>⟨hR _ _ a,aU.fA hR b⟩
theorem aU.allL{α β:Type}{R R':α->β->Prop}{p:α->Bool} (hR:∀a b,p a=true->R a b->R' a b):∀{l:List α}{m:List β},allL p l=true->aU R l m->aU R' l m
 | [],[],_,_=>trivial
 | _ :: _,_ :: _,f,⟨a,b⟩=>by
   simp only[jl.allL,aB,bV]at f;exact⟨hR _ _ f.1 a,aU.allL hR f.2 b⟩
theorem dA.shift{h:FH}{β β':List RV}:∀{x:SV}{y:Value},dA h β' x y->dA h (β++β') (x.sh β.length) y
 | .c _,_,c=>⟨c.1.shift,c.2⟩
 | .agg _,_,⟨ys,e,a⟩=>⟨ys,e,a.fA λ_ _ ⟨p,q⟩=>⟨p.shift,q⟩⟩
 | .dat _ _,_,c=>c
 | .und,_,c=>c
theorem dA.flat{h h':FH}{β:List RV}:∀{x:SV}{y:Value},Ol x=true->dA h β x y->dA h' β x y
 | .c _,_,f,c=>⟨c.1.flat f,c.2⟩
 | .agg _,_,f,⟨ys,e,a⟩=>⟨ys,e,a.allL (λ_ _ f ⟨p,q⟩=>⟨p.flat f,q⟩) f⟩
 | .dat s _,_,f,⟨g,cs,e,r⟩=>⟨g,cs,e,r.flat s f⟩
 | .und,_,_,c=>c
theorem jP.shift{h:FH}{β β':List RV}:∀{x:aZ}{y:Value},jP h β' x y->jP h (β++β') (x.sh β.length) y
 | .one _,_,c=>dA.shift c
 | .iq _,_,⟨ys,e,a⟩=>⟨ys,e,a.fA (f:=SV.sh β.length) λ_ _ c=>dA.shift c⟩
theorem jP.flat{h h':FH}{β:List RV}:∀{x:aZ}{y:Value},IB x=true->jP h β x y->jP h' β x y
 | .one _,_,f,c=>dA.flat f c
 | .iq _,_,f,⟨ys,e,a⟩=>⟨ys,e,a.allL (λ_ _=>dA.flat) f⟩
theorem Holds.shift{h:FH}{β β':List RV}{w:World}:∀{r:ay}{v:RV},Holds h β' w r v->Holds h (β++β') w (r.sh β.length) v
 | .blk _ _,.blk _,⟨ys,e,a⟩=>⟨ys,e,a.fA λ_ _ ⟨p,q⟩=>⟨p.shift,q⟩⟩
 | .row _ _ _,.row _,c=>c
 | .obj _ _ _,.blk _,c=>c
 | .deep _ _ _ _ _ _ _ _,.deep _ _,c=>c
 | .mp _ _ _,.row _,c=>c
 | .NC _ _ _ _,.deep _ _,c=>c
 | .it _ _ _ _,.blk _,c=>c
 | .Ko _ _ _ _,.row _,c=>c
 | .Gj _ _ _ _,.deep _ _,c=>c
 | .gone,_,_=>trivial
theorem Holds.flat{h h':FH}{β:List RV}{w:World}:∀{r:ay}{v:RV},vH r=true->Holds h β w r v->Holds h' β w r v
 | .blk _ _,.blk _,f,⟨ys,e,a⟩=>⟨ys,e,a.allL (λ_ _ f ⟨p,q⟩=>⟨p.flat f,q⟩) f⟩
 | .row _ s _,.row _,f,c=>c.elim .inl λc=>c.elim (λc=>.inr (.inl c)) λ⟨g,cap,cur,e,q1,q2,q3,q4,q5⟩=>.inr (.inr ⟨g,cap,cur,e,q1,q2,q3,q4,q5.mono λ_ _=>Rd.flat s f⟩)
 | .obj _ s _,.blk _,f,⟨ys,e,r⟩=>⟨ys,e,r.flat s f⟩
 | .deep _ _ _ _ _ _ _ _,.deep _ _,f,_=>by cases f
 | .mp _ s _,.row _,f,⟨b,es,c,e,e1,m⟩=>⟨b,es,c,e,e1,m.mono λ_ _ ⟨cs,q,r⟩=>⟨cs,q,r.flat s f⟩⟩
 | .NC _ _ _ _,.deep _ _,f,_=>by cases f
 | .it _ _ _ _,.blk _,f,_=>by cases f
 | .Ko _ _ _ _,.row _,_,c=>c
 | .Gj _ _ _ _,.deep _ _,f,_=>by cases f
 | .gone,_,_,_=>trivial
theorem ay.yN(n:Nat) (r:ay):(r.sh n).live=r.live:=by cases r<;>rfl
theorem OK.call(ok:OK B h0 T h β w){hb:FH}{T':List ay} (ok':OK (Base.of w) hb T' h' β' w'){hn:FH} (le:h.le hn)
 (conv:∀(j:Nat) r v,T'[j]?=some r->Holds h' β' w' r v->Holds hn (β++β') w' (r.sh β.length) v)
 (hnw:∀b o v,hn b o=some v->vis w' b o=some v) (hng:∀b o v,hn b o=some v->h b o=some v\/(w.heap.size<=b/\h' b o=some v)):
 OK B h0 (T++T'.map (ay.sh β.length)) hn (β++β') w':=by
 have L:=ok.len;have L':=ok'.len;have own':∀(i:Nat) r v b,T'[i]?=some r->r.live=true->β'[i]?=some v->v.has b->w.heap.size<=b/\b < w'.heap.size/\∀o,h' b o=none:=ok'.own;have below':Below w.heap.size w w':=Bw.bel ok'.below;have dr':w.drawn<=w'.drawn:=ok'.dr;have split:∀{i:Nat}{r:ay}{v:RV},(T++T'.map (ay.sh β.length))[i]?=some r->(β++β')[i]?=some v ->
  (T[i]?=some r/\β[i]?=some v)\/∃j r',i=β.length+j/\T'[j]?=some r'/\r=r'.sh β.length/\β'[j]?=some v:=by
  intro i r v e e'
  by_cases hi:i < T.length
  .rw[VE hi]at e;rw[VE (by omega)]at e'
   exact .inl ⟨e,e'⟩
  .rw[NH (by omega),Df]at e
   rw[NH (by omega)]at e'
   cases hj:T'[i - T.length]? with
   | none=>rw[hj]at e;cases e
   | some r'=>rw[hj]at e;cases e;exact .inr ⟨i - T.length,r',by omega,hj,rfl,by rw[show i - T.length=i - β.length by omega];exact e'⟩
 have acN:∀{i:Nat}{r:ay}{v:RV}{b:Nat},T[i]?=some r->r.live=true->β[i]?=some v->v.has b->∀o,hn b o=none:=by
  intro i r v b e1 e2 e3 e4 o;obtain⟨a1,a2,a3⟩:=ok.own i r v b e1 e2 e3 e4;cases hh:hn b o with
  | none=>rfl
  | some u=>
    rcases hng b o u hh with h1 | h1
    .rw[a3 o]at h1;cases h1
    .omega
 have acO:∀{i:Nat}{r:ay}{v:RV}{b:Nat},T'[i]?=some r->r.live=true->β'[i]?=some v->v.has b->∀o,hn b o=none:=by
  intro i r v b e1 e2 e3 e4 o;obtain⟨a1,a2,a3⟩:=own' i r v b e1 e2 e3 e4;cases hh:hn b o with
  | none=>rfl
  | some u=>
    rcases hng b o u hh with h1 | h1
    .have:=oq (ok.hw b o u h1);omega
    .rw[a3 o]at h1;cases h1.2
 exact {
  below:=ok.below.below below'
  dr:=o8 ok.dr dr'
  len:=by simp[L,L']
  holds:=by
   intro i r v e e';rcases split e e' with⟨f1,f2⟩ | ⟨j,r',hi,f1,hr,f2⟩
   .exact(ok.holds i r v f1 f2).move le (Ext.append _ _) λhl b hb=>below'.block b (ok.own i r v b f1 hl f2 hb).2.1
   .rw[hr];exact conv j r' v f1 (ok'.holds j r' v f1 f2)
  own:=by
   intro i r v b e hl e' hb';rcases split e e' with⟨f1,f2⟩ | ⟨j,r',hi,f1,hr,f2⟩
   .obtain⟨a1,a2,a3⟩:=ok.own i r v b f1 hl f2 hb';exact⟨a1,NI a2 below'.size,acN f1 hl f2 hb'⟩
   .rw[hr,ay.yN]at hl;obtain⟨a1,a2,a3⟩:=own' j r' v b f1 hl f2 hb';exact⟨B.up _ (o8 ok.below.size a1),a2,acO f1 hl f2 hb'⟩
  inj:=by
   intro i j r1 r2 u v b e1 l1 e2 l2 e3 e4 b1 b2;rcases split e1 e3 with⟨f1,f3⟩ | ⟨i',r1',hi,f1,hr1,f3⟩<;>rcases split e2 e4 with⟨f2,f4⟩ | ⟨j',r2',hj,f2,hr2,f4⟩
   .exact ok.inj i j r1 r2 u v b f1 l1 f2 l2 f3 f4 b1 b2
   .rw[hr2,ay.yN]at l2;have a1:=ok.own i r1 u b f1 l1 f3 b1;have a2:=own' j' r2' v b f2 l2 f4 b2;omega
   .rw[hr1,ay.yN]at l1;have a1:=ok.own j r2 v b f2 l2 f4 b2;have a2:=own' i' r1' u b f1 l1 f3 b1;omega
   .rw[hr1,ay.yN]at l1;rw[hr2,ay.yN]at l2;rw[hi,hj,ok'.inj i' j' r1' r2' u v b f1 l1 f2 l2 f3 f4 b1 b2]
  hle:=ok.hle.trans le
  hw:=hnw
  hg:=by
   intro b o v hh;rcases hng b o v hh with h1 | h1
   .exact ok.hg b o v h1
   .exact .inr (B.up _ (o8 ok.below.size h1.1))
  kn:=λk o hk=>by
   have h1:=ok.kn k o hk;exact(below'.block k (C9.1 h1).1).trans h1 }
theorem OK.QC{B:Base}{h0 h:FH}{w:World}:∀(m:Nat){T:List ay}{β:List RV},OK B h0 T h β w->OK B h0 (T++List.replicate m .gone) h (β++List.replicate m .no) w
 | 0,T,β,ok=>by simpa using ok
 | m+1,T,β,ok=>by
   have:=OK.QC m (ok.add (r:=.gone) (v:=.no) (cO w none) (λb hb=>(NV hb).elim) trivial)
   simpa[VU]using this
abbrev KL(G:Gd) (n:Nat):List (Gd×ay)->List ay->List (Gd×ay)
 | T,[]=>T
 | T,r :: l=>KL G n (snoc T (G,r.sh n)) l
theorem Cb(G:Gd) (n:Nat):∀(l:List ay) (T:List (Gd×ay)),KL G n T l=T++l.map λr=>(G,r.sh n)
 | [],T=>by simp[KL]
 | r :: l,T=>by simp[KL,Cb G n l,iI]
theorem oI(gl:List Bool):∀(T U:List (Gd×ay)),eff gl (T++U)=eff gl T++eff gl U
 | [],_=>rfl
 | (g,r) :: l,U=>by simp[eff,oI gl l U]
theorem yO{gl:List Bool}{G:Gd}{n:Nat} (hG:gv gl G=true):∀(l:List ay),eff gl (l.map λr=>(G,r.sh n))=l.map (ay.sh n)
 | []=>rfl
 | r :: l=>by simp[eff,hG,jX,yO hG l]
theorem wF{gl:List Bool}{G:Gd}{n:Nat} (hG:gv gl G=false):∀(l:List ay),eff gl (l.map λr=>(G,r.sh n))=List.replicate l.length .gone
 | []=>rfl
 | r :: l=>by simp[eff,hG,jX,wF hG l,VU]
theorem fV.Om{α:Type}{R:List Value->α->Prop}{k:Nat}:∀{l:List α}{cs:List Value},cs.length=l.length * k->(∀j d,l[j]?=some d->R ((cs.drop (j * k)).take k) d)->fV R cs l
 | [],cs,h,_=>VB (by simpa using h)
 | d :: l,cs,h,hR=>by
   rw[wS,wW]at h;refine⟨cs.take k,cs.drop k,(VG k cs).symm,?_,fV.Om (k:=k) (by rw[yc];omega) λj d' hd=>?_⟩
   .have:=hR 0 d rfl;simpa using this
   .have:=hR (j+1) d' (by simpa using hd)
    rw[Ua]
    rwa [show k+j * k=(j+1) * k by rw[wW];omega]
theorem lT.sl{s:Sh}{l:List s.den} (x:lT h w t s l v) (le:h.le h') (hb:∀b,aA v=some b->∀o u,vis w b o=some u->h' b o=some u):qy h' (Rd h' s) v l:=by
 rcases x with⟨e1,e2⟩ | ⟨ra,e1,e2⟩ | ⟨g,cap,cur,e1,q1,q2,q3,q4,q5⟩
 .exact .inl ⟨e1,e2⟩
 .exact .inr (.inl ⟨ra,0,e1,e2,J4 _⟩)
 .refine .inr (.inr ⟨g,0,cap,e1,q2,q3.2,_,q5.mono λ_ _=>Rd.mono le s,λj u hj=>?_⟩)
  refine hb g (by rw[e1];exact aY q3.1) _ _ ?_
  rw[Dh];have h1:=fV.all (λ_ _=>Rd.one s) q5 u (ig hj)
  rw[uX]at hj;split at hj
  .exact nV q1 (by simpa using hj) h1.2
  .cases hj
theorem WQ{cs:List Value}{o:Nat}{u:Value} (h:cs[o]?=some u) (x:Value):(cs.set o x).set o u=cs:=by
 rw[List.set_set];exact gV h
theorem zX.rd{h h':FH}{w:World}{s:Sh}{tt:TypeId}{e:Sh}{so:Nat}{own:Bool}{u:Value}{cs:List Value}{d:s.den} (x:zX h w s tt e so own false u cs d) (le:h.le h') (hb:∀b,aA u=some b->∀o z,vis w b o=some z->h' b o=some z):Rd h' s cs d:=by
 unfold zX at x;cases own with
 | false=>exact x.1.mono le s
 | true=>
   obtain⟨d0,y,r,p,c,q⟩:=x;have:=p.rd (r.mono le s) (q.sl le hb)
   rwa [WQ c]at this
theorem eU.data{s:Sh}{l:List s.den}{tt:TypeId}{e:Sh}{so:Nat}{own:Nat->Bool}{us:Nat->Value} (x:eU h w t s l tt e so own [] v us) (le:h.le h')
 (hb:∀b,(RV.deep v us).has b->∀o z,vis w b o=some z->h' b o=some z):qy h' (Rd h' s) v l:=by
 obtain⟨_,_,x⟩:=x;rcases x with⟨e1,e2⟩ | ⟨ra,e1,e2⟩ | ⟨g,cap,cur,e1,q1,q2,q3,q4,q5,q6⟩
 .exact .inl ⟨e1,e2⟩
 .exact .inr (.inl ⟨ra,0,e1,e2,J4 _⟩)
 .have hm:l.length * s.size<=cap * s.size:=x9 _ q2;have lc:cur.toList.length=cap * s.size:=by simpa using q4
  have rdl:fV (Rd h' s) (cur.toList.take (l.length * s.size)) l:=by
   refine fV.Om (k:=s.size) (by rw[kV];omega) λj d hd=>?_
   have hj:=(A8.1 hd).1;have hm:(j+1) * s.size<=l.length * s.size:=x9 _ hj;rw[wW]at hm;have e5:List.take s.size (List.drop (j * s.size) (List.take (l.length * s.size) cur.toList))=List.take s.size (List.drop (j * s.size) cur.toList):=by
    apply H9;intro p;simp only[uX,JY];split
    .rw[if_pos (by omega)]
    .rfl
   rw[e5];exact(q6 j d hd).rd le λb hu=>hb b (aX.2 (.inr ⟨j,hu⟩))
  refine .inr (.inr ⟨g,0,cap,e1,q2,q3.2,cur.toList.take (l.length * s.size),rdl,λj u hj=>?_⟩)
  .refine hb g (aX.2 (.inl (by rw[e1];exact aY (n:=l.length) q3.1))) _ _ ?_
   rw[Dh];have h1:=fV.all (λ_ _=>Rd.one s) rdl u (ig hj)
   rw[uX]at hj;split at hj
   .exact nV q1 (by simpa using hj) h1.2
   .cases hj
abbrev acP(s:St) (G:Gd) (x:SC):Option SC:=match x with
 | .v u=>some (.v u)
 | .sl sh l=>some (.sl sh l)
 | .fp sh d=>some (.fp sh d)
 | .one sh d=>some (.one sh d)
 | .row r=>match eY s.T r with
   | some (Gr,.row _ sh l)=>match qG Gr G with
     | true=>some (.sl sh l)
     | false=>none
   | some (Gr,.deep _ sh l _ _ _ _ [])=>match qG Gr G with
     | true=>some (.sl sh l)
     | false=>none
   | some (Gr,.mp k sh l)=>match qG Gr G with
     | true=>some (.one (.mp k sh) l)
     | false=>none
   | _=>none
 | _=>none
abbrev WR(s:St) (G:Gd):List SC->Option (List SC)
 | []=>some []
 | x :: l=>match acP s G x with
   | some y=>match WR s G l with
     | some m=>some (y :: m)
     | none=>none
   | none=>none
abbrev acQ(s:St) (G:Gd) (v:SV):Option SV:=match v with
 | .c x=>match acP s G x with
   | some y=>some (.c y)
   | none=>none
 | .agg xs=>match WR s G xs with
   | some ys=>some (.agg ys)
   | none=>none
 | .dat sh d=>some (.dat sh d)
 | .und=>none
abbrev isRow:SC->Bool
 | .row _=>true
 | _=>false
abbrev noRow:SV->Bool
 | .c x=>!(isRow x)
 | .agg xs=>allL (λx=>!(isRow x)) xs
 | _=>true
abbrev uG(cx:Cx) (s:St) (G:Gd):List Operand->Option (List SV)
 | []=>some []
 | x :: l=>match bM cx s G x with
   | some (.one v)=>match uG cx s G l with
     | some r=>some (v :: r)
     | none=>none
   | _=>none
abbrev FX(s:St) (G:Gd):List SV->Option (List SV)
 | []=>some []
 | x :: l=>match acQ s G x with
   | some v=>match FX s G l with
     | some r=>some (v :: r)
     | none=>none
   | none=>none
abbrev orB:Bool->Bool->Bool
 | true,_=>true
 | false,b=>b
abbrev je(cx:Cx) (ct:Nat->Option CT) (s:St) (G:Gd) (d:Option Nat) (f:Nat) (args:List Operand) (K:St->Prop):Prop:=match ct f with
 | none=>False
 | some c=>match uG cx s G args with
   | none=>False
   | some vs=>match FX s G vs with
     | none=>False
     | some bs=>match yL c.ps bs with
       | none=>False
       | some dd=>match orB (allL noRow vs) (dD (IB (c.res dd).2) (allL vH (c.res dd).1)) with
         | true=>side s.gl G (c.pre dd)/\K ({ s with T:=KL G (aQ s.T) s.T (c.res dd).1 }.put d G ((c.res dd).2.sh (aQ s.T)))
         | false=>False
theorem aU.ag2{α β:Type}{R:α->β->Prop}:∀{a c:List α}{l:List β},aU R (a++c) l->∃b d,l=b++d/\aU R a b/\aU R c d
 | [],c,l,h=>⟨[],l,rfl,trivial,h⟩
 | x :: a,c,[],h=>h.elim
 | x :: a,c,y :: l,⟨h1,h2⟩=>by
   obtain⟨b,d,e,p,q⟩:=aU.ag2 (a:=a) h2;exact⟨y :: b,d,by rw[e];rfl,⟨h1,p⟩,q⟩
theorem aU.yP{α β:Type}{R:α->β->Prop}{x:α}:∀{l:List β},aU R [x] l->∃y,l=[y]/\R x y
 | [],h=>h.elim
 | [y],h=>⟨y,rfl,h.1⟩
 | _ :: _ :: _,h=>h.2.elim
theorem DR{h:FH}{β:List RV}:∀(s:Sh){d:s.den}{xs:List SC}{ys:List Value},flat s d=some xs->aU (λx y=>dZ h β x y/\dG y) xs ys->Rd h s ys d
 | .int k,n,xs,ys,e,a=>by simp[flat]at e;subst e;obtain⟨y,rfl,r⟩:=a.yP;rw[r.1.1];rfl
 | .bool,n,xs,ys,e,a=>by simp[flat]at e;subst e;obtain⟨y,rfl,r⟩:=a.yP;rw[r.1.1];rfl
 | .str,n,xs,ys,e,a=>by simp[flat]at e;subst e;obtain⟨y,rfl,r⟩:=a.yP;rw[r.1.1];rfl
 | .any,n,xs,ys,e,a=>by simp[flat]at e
 | .sl s,l,xs,ys,e,a=>by simp[flat]at e;subst e;obtain⟨y,rfl,r⟩:=a.yP;exact⟨y,rfl,r.1⟩
 | .unit,n,xs,ys,e,a=>by
   simp[flat]at e;subst e;cases ys with
   | nil=>rfl
   | cons _ _=>exact a.elim
 | .arr _ _,n,xs,ys,e,a=>by simp[flat]at e
 | .mp k s,l,xs,ys,e,a=>by simp[flat]at e;subst e;obtain⟨y,rfl,r⟩:=a.yP;exact r.1
 | .pair a b,(x,y),xs,ys,e,al=>by
   unfold flat at e;split at e
   .rename_i p hp;split at e
    .rename_i q hq;cases e;rw[fM]at al;obtain⟨c1,c2,rfl,r1,r2⟩:=al.ag2;exact⟨c1,c2,rfl,DR a hp r1,DR b hq r2⟩
    .cases e
   .cases e
theorem Gw:∀(s:Sh){d:s.den}{y:Value},dA h β (iE s d) y->DV h s d y
 | .int k,n,y,c=>⟨[y],rfl,by rw[c.1.1];rfl⟩
 | .bool,n,y,c=>⟨[y],rfl,by rw[c.1.1];rfl⟩
 | .str,n,y,c=>⟨[y],rfl,by rw[c.1.1];rfl⟩
 | .any,n,y,c=>⟨[y],rfl,by rw[c.1.1];exact⟨rfl,c.1.2⟩⟩
 | .sl s,l,y,c=>⟨[y],rfl,y,rfl,c.1⟩
 | .unit,n,y,⟨ys,e,a⟩=>by
   cases ys with
   | nil=>exact⟨[],e,rfl⟩
   | cons _ _=>exact a.elim
 | .arr n s,l,y,⟨_,cs,e,r⟩=>⟨cs,e,r⟩
 | .mp k s,l,y,c=>⟨[y],rfl,c.1⟩
 | .pair a b,d,y,c=>by
   have e:iE (.pair a b) d=match flat (.pair a b) d with
    | some xs=>.agg xs
    | none=>.dat (.pair a b) d:=rfl
   rw[e]at c;cases hx:flat (.pair a b) d with
   | some xs=>
     rw[hx]at c;obtain⟨ys,e,al⟩:=c;exact⟨ys,e,DR (.pair a b) hx al⟩
   | none=>
     rw[hx]at c;obtain⟨_,cs,e,r⟩:=c;exact⟨cs,e,r⟩
theorem DU{h:FH}:∀{ss:List Sh}{d:bT ss}{ys:List Value},aU (dA h []) (fE ss d) ys->Bc h ss d ys
 | [],_,[],_=>trivial
 | [],_,_ :: _,x=>x.elim
 | _ :: _,_,[],x=>x.elim
 | s :: l,d,y :: ys,⟨a,b⟩=>⟨Gw s a,DU b⟩
section
variable {cx:Cx}{P:Program}{N:Nat}{B:Base}{h0:FH}{s:St}{h:FH}{β:List RV}{w:World}{a:Act}{G:Gd}{o:Oper}{K:St->Prop}
theorem qO(aj:Sat N B h0 s h β w a) (hg:aK cx.gd h) (hG:gv s.gl G=true):∀{l:List Operand}{vs:List SV},uG cx s G l=some vs->aU (dA h β) vs (l.map a.eval)
 | [],vs,e=>by simp[uG]at e;subst e;trivial
 | x :: l,vs,e=>by
   unfold uG at e;split at e
   .rename_i v hv;split at e
    .rename_i r hr;cases e;exact⟨aP aj hg hG hv,qO aj hg hG hr⟩
    .cases e
   .cases e
def FH.all(w:World):FH:=λb o=>vis w b o
theorem OK.ag3(ok:OK B h0 T h β w){k:IntKind}{s:Sh}{l:List (Int×s.den)}{y:Value} (hT:T[i]?=some (.mp k s l)) (hx:dZ h β (.row i) y):β[i]?=some (.row y):=by
 obtain⟨v,e,es⟩:=hx;have hold:=ok.holds i _ _ hT e
 match v,hold,es with
 | .row v,_,es=>cases es;exact e
theorem OK.ag4(ok:OK B h0 T h β w){k:IntKind}{s:Sh}{l:List (Int×s.den)}{y:Value} (hT:T[i]?=some (.mp k s l)) (hx:dZ h β (.row i) y):
 ∃b es c,y=.map (some b)/\w.heap[b]?=some (.map es c)/\wX k (DW h s) es c l:=ok.holds i _ _ hT (ok.ag3 hT hx)
theorem QD(aj:Sat N B h0 s h β w a) (hG:gv s.gl G=true){x y:SC} (e:acP s G x=some y) (c:dZ h β x v):
 dZ (FH.all w) [] y v/\(isRow x=false->dZ h [] y v):=by
 have le:h.le (FH.all w):=aj.ok.hw;unfold acP at e;split at e
 .cases e;exact⟨c,λ_=>c⟩
 .cases e;exact⟨qy.mono le (λ_ _=>Rd.mono le _) c,λ_=>c⟩
 .cases e;obtain⟨b,o,cs,e,r,at_⟩:=c;exact⟨⟨b,o,cs,e,r.mono le _,at_.mono le⟩,λ_=>⟨b,o,cs,e,r,at_⟩⟩
 .cases e;exact⟨Rd.mono le _ c,λ_=>c⟩
 .rename_i r;split at e
  .rename_i Gr tt sh l hT;split at e
   .rename_i hs;cases e;refine⟨?_,λhh=>by cases hh⟩
    rcases aj.ok.holds r _ _ (bH hT (fK hs hG)) (aj.ok.row_of (bH hT (fK hs hG)) c) with⟨e1,e2⟩ | ⟨ra,e1,e2⟩ | ⟨g,cap,cur,e1,q1,q2,q3,q4,q5⟩
    .exact .inl ⟨e1,e2⟩
    .exact .inr (.inl ⟨ra,0,e1,e2,J4 _⟩)
    .refine .inr (.inr ⟨g,0,cap,e1,q2,q3.2,_,q5.mono λ_ _=>Rd.mono le sh,λj u hj=>?_⟩)
     show vis w g (0+j)=some u;rw[Dh];have h1:=fV.all (λ_ _=>Rd.one sh) q5 u (ig hj)
     rw[uX]at hj;split at hj
     .exact nV q1 (by simpa using hj) h1.2
     .cases hj
   .cases e
  .rename_i Gr tt sh l t2 e2 so own hT;split at e
   .rename_i hs;cases e;refine⟨?_,λhh=>by cases hh⟩
    obtain⟨us,_,hd⟩:=aj.ok.vC (bH hT (fK hs hG)) c;exact hd.data le λb _ o z hz=>hz
   .cases e
  .rename_i Gr k sh l hT;split at e
   .rename_i hs;cases e;refine⟨?_,λhh=>by cases hh⟩
    obtain⟨b,es,cl,hb,hw,m⟩:=aj.ok.ag4 (bH hT (fK hs hG)) c;exact⟨_,rfl,.inr ⟨b,es,cl,hb,Qm hw,m.mono λ_ _=>DW.mono le⟩⟩
   .cases e
  .cases e
 .cases e
theorem QE(aj:Sat N B h0 s h β w a) (hG:gv s.gl G=true):∀{xs ys:List SC}{vs:List Value},WR s G xs=some ys->aU (λx y=>dZ h β x y/\dG y) xs vs ->
 aU (λx y=>dZ (FH.all w) [] x y/\dG y) ys vs/\(allL (λx=>!(isRow x)) xs=true->aU (λx y=>dZ h [] x y/\dG y) ys vs)
 | [],ys,[],e,_=>by simp[WR]at e;subst e;exact⟨trivial,λ_=>trivial⟩
 | x :: l,ys,v :: vs,e,⟨c,r⟩=>by
   unfold WR at e;split at e
   .rename_i y hy;split at e
    .rename_i m hm;cases e;obtain⟨h1,h2⟩:=QD aj hG hy c.1;obtain⟨h3,h4⟩:=QE aj hG hm r;refine⟨⟨⟨h1,c.2⟩,h3⟩,λhh=>?_⟩
     simp only[allL,aB,bV]at hh;exact⟨⟨h2 (by simpa using hh.1),c.2⟩,h4 hh.2⟩
    .cases e
   .cases e
theorem QF(aj:Sat N B h0 s h β w a) (hG:gv s.gl G=true){x y:SV} (e:acQ s G x=some y) (c:dA h β x v):
 dA (FH.all w) [] y v/\(noRow x=true->dA h [] y v):=by
 have le:h.le (FH.all w):=aj.ok.hw;unfold acQ at e;split at e
 .split at e
  .rename_i y hy;cases e;obtain⟨h1,h2⟩:=QD aj hG hy c.1;exact⟨⟨h1,c.2⟩,λhh=>⟨h2 (by simpa[noRow]using hh),c.2⟩⟩
  .cases e
 .split at e
  .rename_i ys hy;cases e;obtain⟨vs,e1,e2⟩:=c;obtain⟨h1,h2⟩:=QE aj hG hy e2;exact⟨⟨vs,e1,h1⟩,λhh=>⟨vs,e1,h2 hh⟩⟩
  .cases e
 .cases e;obtain⟨g,cs,e1,r⟩:=c;exact⟨⟨g,cs,e1,r.mono le _⟩,λ_=>⟨g,cs,e1,r⟩⟩
 .cases e
theorem yQ(aj:Sat N B h0 s h β w a) (hG:gv s.gl G=true):∀{xs ys:List SV}{vs:List Value},FX s G xs=some ys->aU (dA h β) xs vs ->
 aU (dA (FH.all w) []) ys vs/\(allL noRow xs=true->aU (dA h []) ys vs)
 | [],ys,[],e,_=>by simp[FX]at e;subst e;exact⟨trivial,λ_=>trivial⟩
 | x :: l,ys,v :: vs,e,⟨c,r⟩=>by
   unfold FX at e;split at e
   .rename_i y hy;split at e
    .rename_i m hm;cases e;obtain⟨h1,h2⟩:=QF aj hG hy c;obtain⟨h3,h4⟩:=yQ aj hG hm r;refine⟨⟨h1,h3⟩,λhh=>?_⟩
     simp only[allL,aB,bV]at hh;exact⟨h2 hh.1,h4 hh.2⟩
    .cases e
   .cases e
theorem DX{lb:Array Value}{suf:List Value} (hct:∀c,ct f=some c->∀(d:bT c.ps) (vs:List Value) (h':FH),h.le h'->(∀b o v,h' b o=some v->vis w b o=some v)->aK cx.gd h'->aU (dA h' []) (fE c.ps d) vs->c.pre d->Calls P f (vs++suf).toArray w (λen w'=>∃h'' β y,en=.returned y/\OK (Base.of w) h' (c.res d).1 h'' β w'/\jP h'' β (c.res d).2 y)) (aj:Sat N B h0 s h β w a) (hg:aK cx.gd h) (hG:vg s.gl.length G=true) (hd:lJ N o.dst=true) (ho:o.op=.call c)
 {x:Operand}{xs:List Operand} (bW:c.callee=.value x) (hx:gv s.gl G=true->a.eval x=.func (.func f) #[] lb) (hxs:c.args.map a.eval++lb=(xs.map a.eval++suf).toArray)
 (hf:∃fn,P.funcs[f]?=some fn/\fn.body.isSome=true/\(fn.name == "runtime.NumGoroutine")=false)
 (k:je cx ct s G o.dst f xs K):gq P N B h0 h w a o (gv s.gl G) K:=by
 unfold je at k;split at k
 .cases k
 rename_i cc hcc;split at k
 .cases k
 rename_i vs hvs;split at k
 .cases k
 rename_i bs hbs;split at k
 .cases k
 rename_i dd hdd;split at k
 .rename_i KN;obtain⟨T',fQ⟩:∃T',T'=(cc.res dd).1:=⟨_,rfl⟩;obtain⟨e,he0⟩:∃e,e=(cc.res dd).2:=⟨_,rfl⟩;rw[<-fQ,<-he0]at k KN;have gT:∀p∈KL G (aQ s.T) s.T T',vg s.gl.length p.1=true:=by
   intro p hp;rw[Cb,Fv]at hp;rcases hp with hp | hp
   .exact aj.gT p hp
   .simp only[List.mem_map]at hp;obtain⟨r,_,rfl⟩:=hp;exact hG
  have hlen:=kZ aj;intro Nx Q next
  cases hgv:gv s.gl G with
  | false=>
    rw[if_neg (by simp)]
    refine next _ h (β++List.replicate T'.length .no) _ _ k.2 (FH.le.refl h) (λ_=>mQ.refl w) ?_
    have ok:OK B h0 (eff s.gl (KL G (aQ s.T) s.T T')) h (β++List.replicate T'.length .no) w:=by
     rw[Cb,oI,wF hgv];exact aj.ok.QC _
    exact(aj.mem ok (FH.le.refl h) (Ext.append _ _) gT).put (dW hd) hG (λhh=>by simp only at hh;rw[hgv]at hh;cases hh) λ_=>rfl
  | true=>
    rw[if_pos rfl];obtain⟨fn,hfn,hbody,hname⟩:=hf;have hav:=qO aj hg hgv hvs;have aF:=fG k.1 hgv;have exec:(execOp a.eval o).run P w=.ok (.enter f (c.args.map a.eval++lb)) w:=by
     simp only[execOp,ho,resolve,bW,hx hgv,Deferred.ofValue,invoke,Sem.run_bind,Sem.run_pure,Result.andThen_ok,callFunc,run_program,ahO,Array.append_empty,hfn,hname];simp[hbody];cases hb:fn.body with
     | none=>rw[hb]at hbody;cases hbody
     | some _=>simp
    have hargs:=hxs;unfold Oper.wp;rw[exec];simp only[Oper.upon];rw[hargs];obtain⟨b1,b2⟩:=yQ aj hgv hbs hav;have fin:∀{hb:FH}{h':FH}{β':List RV}{w':World}{y:Value}{hn:FH},OK (Base.of w) hb T' h' β' w'->h.le hn ->
     (∀(j:Nat) r v,T'[j]?=some r->Holds h' β' w' r v->Holds hn (β++β') w' (r.sh β.length) v)->(∀b o v,hn b o=some v->vis w' b o=some v) ->
     (∀b o v,hn b o=some v->h b o=some v\/(w.heap.size<=b/\h' b o=some v))->jP hn (β++β') (e.sh β.length) y->Nx (a.put o.dst y) w':=by
     intro hb h' β' w' y hn ok' le conv hnw hng he;have ok:=aj.ok.call ok' le conv hnw hng;refine next _ hn (β++β') _ _ k.2 le (λ_=>mQ.of_below (Bw.bel ok'.below)) ?_
     have okT:OK B h0 (eff s.gl (KL G (aQ s.T) s.T T')) hn (β++β') w':=by
      rw[Cb,oI,yO hgv,<-hlen];exact ok
     rw[hlen]at he;exact(aj.mem okT le (Ext.append _ _) gT).put (dW hd) hG (λ_=>he) λhh=>by simp only at hh;rw[hgv]at hh;cases hh
    have keep:∀{hb h':FH}{β':List RV}{w':World},OK (Base.of w) hb T' h' β' w'->∀b o v,h b o=some v->vis w' b o=some v:=by
     intro hb h' β' w' ok' b o v hh;have h1:=aj.ok.hw b o v hh;exact(jQ ((Bw.bel ok'.below).block b (oq h1))).trans h1
    cases hnr:allL noRow vs with
    | true=>
      refine(hct cc hcc dd _ h (FH.le.refl h) aj.ok.hw hg (yM hdd (b2 hnr)) aF).mono ?_;rintro en w' ⟨h',β',y,rfl,ok',he⟩;rw[<-fQ]at ok';rw[<-he0]at he;refine fin ok' ok'.hle (λj r v _ hh=>hh.shift) ok'.hw (λb o v hh=>?_) he.shift
      rcases ok'.hg b o v hh with h1 | h1
      .exact .inl h1
      .exact .inr ⟨h1,hh⟩
    | false=>
      rw[hnr]at KN;simp only[orB,aB,bV]at KN;refine(hct cc hcc dd _ (FH.all w) aj.ok.hw (λ_ _ _ hh=>hh) (hg.mono aj.ok.hw) (yM hdd b1) aF).mono ?_
      rintro en w' ⟨h',β',y,rfl,ok',he⟩;rw[<-fQ]at ok';rw[<-he0]at he;refine fin ok' (FH.le.refl h) (λj r v hj hh=>(hh.flat ?_).shift) (keep ok') (λb o v hh=>.inl hh) (he.flat KN.1).shift
      have:∀{l:List ay}{j:Nat}{r:ay},allL vH l=true->l[j]?=some r->vH r=true:=by
       intro l
       induction l with
       | nil=>intro j r _ e;simp at e
       | cons x l ih=>
         intro j r hh e;simp only[allL,aB,bV]at hh;cases j with
         | zero=>simp at e;subst e;exact hh.1
         | succ j=>exact ih hh.2 (by simpa using e)
      exact this KN.2 hj
 .cases k
theorem xA{suf:List Value} (hct:∀c,ct f=some c->∀(d:bT c.ps) (vs:List Value) (h':FH),h.le h'->(∀b o v,h' b o=some v->vis w b o=some v)->aK cx.gd h'->aU (dA h' []) (fE c.ps d) vs->c.pre d->Calls P f (vs++suf).toArray w (λen w'=>∃h'' β y,en=.returned y/\OK (Base.of w) h' (c.res d).1 h'' β w'/\jP h'' β (c.res d).2 y)) (aj:Sat N B h0 s h β w a) (hg:aK cx.gd h) (hG:vg s.gl.length G=true) (hd:lJ N o.dst=true) (ho:o.op=.call c)
 {x:Operand}{xs:List Operand} (bW:c.callee=.value x) (hx:gv s.gl G=true->a.eval x=.func (.func f) #[] #[]) (hxs:c.args.map a.eval=(xs.map a.eval++suf).toArray)
 (hf:∃fn,P.funcs[f]?=some fn/\fn.body.isSome=true/\(fn.name == "runtime.NumGoroutine")=false)
 (k:je cx ct s G o.dst f xs K):gq P N B h0 h w a o (gv s.gl G) K:=
 DX hct aj hg hG hd ho bW hx (by rw[Array.append_empty];exact hxs) hf k
theorem rQ{suf:List Value} (hct:∀f c,ct f=some c->CTX P cx.gd f suf c) (aj:Sat N B h0 s h β w a) (hg:aK cx.gd h) (hG:vg s.gl.length G=true) (hd:lJ N o.dst=true) (ho:o.op=.call c)
 {x:Operand}{xs:List Operand} (bW:c.callee=.value x) (hx:gv s.gl G=true->a.eval x=.func (.func f) #[] #[]) (hxs:c.args.map a.eval=(xs.map a.eval++suf).toArray)
 (hf:∃fn,P.funcs[f]?=some fn/\fn.body.isSome=true/\(fn.name == "runtime.NumGoroutine")=false)
 (k:je cx ct s G o.dst f xs K):gq P N B h0 h w a o (gv s.gl G) K:=
 xA (λc e d vs h' _ hw hg' ha hp=>hct f c e d vs h' w hw hg' ha hp) aj hg hG hd ho bW hx hxs hf k
theorem Uz(hct:∀f c,ct f=some c->KJ P cx.gd f c) (aj:Sat N B h0 s h β w a) (hg:aK cx.gd h) (hG:vg s.gl.length G=true) (hd:lJ N o.dst=true) (ho:o.op=.call c) (bW:c.callee=.value (.func f))
 (hf:∃fn,P.funcs[f]?=some fn/\fn.body.isSome=true/\(fn.name == "runtime.NumGoroutine")=false)
 (k:je cx ct s G o.dst f (tl c.args) K):gq P N B h0 h w a o (gv s.gl G) K:=
 rQ (suf:=[]) (λf c e=>(hct f c e).x) aj hg hG hd ho bW (λ_=>rfl) (by cases c.args;simp) hf k
end
section
variable {P:Program}{ops:Array Oper}{md:Region.Mode}{sf:Nat->Bool}
abbrev IC:Exit->Act->World->Prop:=λ_ _ _=>False
def zS(P:Program) (ops:Array Oper) (i:Nat) (K:Act->World->Prop) (a:Act) (w:World):Prop:=
 match ops[i]? with
 | none=>K a w
 | some o=>if Region.wanted o (yielded ops a.tmps)=true then o.wp P a w K IC else K (a.put o.dst undef) w
theorem xB{Q:Exit->Act->World->Prop} (h:LetsOut IC):LetsOut Q:=by
 unfold LetsOut at *;obtain⟨_,_,hh⟩:=h;exact False.elim hh
theorem KO{K K':Act->World->Prop} (h:∀a w,K a w->K' a w) (hh:zS P ops i K a w):zS P ops i K' a w:=by
 unfold zS at *;split
 .exact h _ _ (by simpa[*]using hh)
 .rename_i o ho;simp only[ho]at hh;split
  .rename_i hw;rw[if_pos hw]at hh;exact Oper.wp_mono h hh
  .rename_i hw;rw[if_neg hw]at hh;exact h _ _ hh
abbrev xC(ops:Array Oper) (i:Nat):Bool:=match ops[i]? with
 | some o=>quietly o.op
 | none=>true
def anyI(P:Program) (md:Region.Mode) (ops:Array Oper) (sf:Nat->Bool) (R:Act->World->Prop):Nat->Array Bool->Act->World->Prop
 | 0,listed,a,w=>Region.ready md ops listed=[]/\R a w
 | fuel+1,listed,a,w=>(Region.ready md ops listed=[]->R a w) /\
   ∀i∈Region.ready md ops listed,zS P ops i (λa' w'=>(sf i=true->mQ w w')/\anyI P md ops sf R fuel (listed.setIfInBounds i true) a' w') a w
def YI(P:Program) (ops:Array Oper) (ld:Bool) (w0:World) (o:Oper) (v:Value) (a:Act):Prop:=
 (Region.wanted o (yielded ops a.tmps)=true/\∀w,(ld=true->mQ w0 w)->(execOp a.eval o).run P w=.ok (.value v) w) \/
 (Region.wanted o (yielded ops a.tmps)=false/\v=undef)
theorem YI.of_same{ld:Bool}{w0:World}{a':Act} (hy:YI P ops ld w0 o v a) (he:execOp a'.eval o=execOp a.eval o)
 (hw:Region.wanted o (yielded ops a'.tmps)=Region.wanted o (yielded ops a.tmps)):YI P ops ld w0 o v a':=by
 unfold YI at *;rw[he,hw];exact hy
theorem YI.zS{ld:Bool}{w0:World}{i:Nat}{o:Oper}{v:Value}{a:Act} (hi:ops[i]?=some o) (hy:YI P ops ld w0 o v a){K:Act->World->Prop}{w:World} (hg:ld=true->mQ w0 w)
 (h:K (a.put o.dst v) w):zS P ops i K a w:=by
 unfold Go.jl.zS;simp only[hi];rcases hy with⟨hw,hv⟩ | ⟨hw,rfl⟩
 .rw[if_pos hw];unfold Oper.wp;rw[hv w hg];exact h
 .rw[if_neg (by rw[hw];simp)];exact h
theorem acR{ld:Bool}{w0:World}{j:Nat}{oi oj:Oper} (hj:ops[j]?=some oj) (hap:oi.apart ops oj=true)
 (hsi:∀cs b,oi.op≠.select cs b) (hsj:∀cs b,oj.op≠.select cs b){K:Act->World->Prop}
 (hy:YI P ops ld w0 oi v a) (h:zS P ops j K (a.put oi.dst v) w):
 zS P ops j (λa' w'=>YI P ops ld w0 oi v a'/\K (a'.put oi.dst v) w') a w:=by
 obtain⟨h1,h2,h3⟩:=Oper.apart_spec hap;have keep:∀(a:Act),YI P ops ld w0 oi v a->∀u,YI P ops ld w0 oi v (a.put oj.dst u):=λa hy u=>
  hy.of_same (execOp_put oi hsi a oj.dst u h3) (wanted_put oi a oj.dst u h3)
 have keepD:∀d,YI P ops ld w0 oi v { a with defers:=d :: a.defers }:=λd=>hy.of_same rfl rfl
 unfold zS at *;simp only[hj]at *;rw[wanted_put oj a oi.dst v h1]at h;split
 .rename_i hw;rw[if_pos hw]at h;unfold Oper.wp at *;rw[execOp_put oj hsj a oi.dst v h1]at h;generalize (execOp a.eval oj).run P w=r at *;cases r with
  | ok n w'=>
    cases n<;>simp only[Oper.upon]at h ⊢
    case value u=>exact⟨keep a hy u,by rw[<-Act.put_comm a v u h2];exact h⟩
    case skip=>exact⟨keep a hy _,by rw[<-Act.put_comm a v undef h2];exact h⟩
    case defer d=>
     refine⟨(keep _ (keepD d) _),?_⟩;rw[<-Act.put_comm _ v undef h2,<-Act.put_defers];exact h
    case enter f args=>
     refine h.mono λe w'' he=>?_
     cases e with
     | returned u=>exact⟨keep a hy u,by rw[<-Act.put_comm a v u h2];exact he⟩
     | panicked c=>exact he
     | outgrown=>exact he
    case row r args=>
     refine Rows.mono h λu w'' he=>?_
     exact⟨keep a hy u,by rw[<-Act.put_comm a v u h2];exact he⟩
    all_goals exact h
  | halt x w'=>cases x<;>simp only[Oper.upon]at h ⊢<;>exact h
 .rename_i hw;rw[if_neg hw]at h;exact⟨keep a hy _,by rw[<-Act.put_comm a v undef h2];exact h⟩
def Waits(md:Region.Mode) (ops:Array Oper) (listed:Array Bool) (i:Nat) (bl:List Nat):Prop:=
 ∀j∈bl,listed.getD j true=false/\∃o,ops[j]?=some o/\∃e∈o.after,Region.binds md e=true/\(e.on=i\/e.on∈bl)
theorem vJ{listed:Array Bool} (h:listed.getD i true=false):listed.getD i false=false:=by
 rcases VZ i listed.size with h' | h'
 .simp[h']at h ⊢;exact h
 .simp[acp h']at h
theorem Gx{listed:Array Bool}{j:Nat}{bl:List Nat} (hi:listed.getD i true=false) (hw:Waits md ops listed i bl) (hj:j∈bl):j∉Region.ready md ops listed:=by
 intro hr;obtain⟨_,oj,hoj,hall⟩:=mem_ready.1 hr;obtain⟨_,o,ho,e,he,hb,hh⟩:=hw j hj;rw[hoj]at ho;cases ho;have h1:=hall e he hb;rcases hh with hh | hh
 .rw[hh,vJ hi]at h1;cases h1
 .rw[vJ (hw _ hh).1]at h1;cases h1
theorem DY{R:Act->World->Prop}{ld:Bool}{w0:World}{oi:Oper}{bl:List Nat} (hi:ops[i]?=some oi) (hsel:∀(j:Nat) (o:Oper) cs b,ops[j]?=some o->o.op≠.select cs b)
 (hq:sf i=true):
 ∀(fuel:Nat) (listed:Array Bool) (a:Act) (w:World),
   (∀j oj,ops[j]?=some oj->j≠i->listed.getD j true=false->(∀e∈oj.after,Region.binds md e=true->e.on≠i)->oi.apart ops oj=true) ->
   (ld=true->Waits md ops listed i bl/\∀j,j≠i->listed.getD j true=false->sf j=false->j∈bl) ->
   i∈Region.ready md ops listed->YI P ops ld w0 oi v a->(ld=true->mQ w0 w) ->
   anyI P md ops sf R fuel (listed.setIfInBounds i true) (a.put oi.dst v) w->anyI P md ops sf R (fuel+1) listed a w:=by
 intro fuel
 induction fuel with
 | zero=>
   intro listed a w _ _ hr hy hg H;refine⟨λh=>(by rw[h]at hr;cases hr),λj hj=>?_⟩
   by_cases hji:j=i
   .subst hji;exact hy.zS hi hg ⟨λ_=>mQ.refl w,H⟩
   .have:=ready_mono hj hji;rw[H.1]at this;cases this
 | succ fuel ih=>
   intro listed a w hfree hbl hr hy hg H;refine⟨λh=>(by rw[h]at hr;cases hr),λj hj=>?_⟩
   by_cases hji:j=i
   .subst hji;exact hy.zS hi hg ⟨λ_=>mQ.refl w,H⟩
   .have h1:=H.2 j (ready_mono hj hji);obtain⟨hjun,oj,hoj,hall⟩:=mem_ready.1 hj;have WS:=(mem_ready.1 hr).1;have hnot:∀e∈oj.after,Region.binds md e=true->e.on≠i:=λe he hb heq=>by
     have h1:=hall e he hb;rw[heq,vJ WS]at h1;cases h1
    have h2:=acR hoj (hfree j oj hoj hji hjun hnot) (λcs b=>hsel i oi cs b hi) (λcs b=>hsel j oj cs b hoj) hy h1
    have hfree':∀k ok,ops[k]?=some ok->k≠i->(listed.setIfInBounds j true).getD k true=false ->
     (∀e∈ok.after,Region.binds md e=true->e.on≠i)->oi.apart ops ok=true:=λk ok hk hki hun hno=>by
     refine hfree k ok hk hki ?_ hno
     by_cases gQ:j=k
     .subst gQ;exact hjun
     .rw[getD_set_ne true gQ]at hun;exact hun
    have WT:ld=true->j∉bl:=λe hm=>Gx WS (hbl e).1 hm hj
    have hsj:ld=true->sf j=true:=λe=>by
     cases hs:sf j with
     | true=>rfl
     | false=>exact absurd ((hbl e).2 j hji hjun hs) (WT e)
    have ah2:ld=true->Waits md ops (listed.setIfInBounds j true) i bl/\∀k,k≠i->(listed.setIfInBounds j true).getD k true=false->sf k=false->k∈bl:=λe=>by
     refine⟨λk hk=>?_,λk hki hun hs=>?_⟩
     .obtain⟨g1,g2⟩:=(hbl e).1 k hk;refine⟨?_,g2⟩;rw[getD_set_ne true (λhh=>WT e (by rw[hh];exact hk))];exact g1
     .refine(hbl e).2 k hki ?_ hs
      by_cases gQ:j=k
      .subst gQ;exact hjun
      .rw[getD_set_ne true gQ]at hun;exact hun
    refine KO (λa' w' h3=>⟨h3.2.1,ih (listed.setIfInBounds j true) a' w' hfree' ah2 (ready_mono hr (Ne.symm hji)) h3.1 (λe=>(hg e).trans (h3.2.1 (hsj e))) ?_⟩) h2
    rw[Array.setIfInBounds_comm _ _ hji];exact h3.2.2
end
abbrev Gy(i k n:Nat):Nat:=match Nat.beq n i with
 | true=>k
 | false=>match Nat.beq n k with
   | true=>i
   | false=>n
theorem WU(h:¬n=i):Nat.beq n i=false:=by
 cases hb:Nat.beq n i with
 | true=>exact absurd (iw hb) h
 | false=>rfl
theorem Oo(i k n:Nat):Gy i k n=if n=i then k else if n=k then i else n:=by
 unfold Gy
 by_cases h:n=i
 .subst h;simp
 .rw[if_neg h,WU h]
  by_cases h2:n=k
  .subst h2;simp
  .rw[if_neg h2,WU h2]
theorem yR(i k n:Nat):Gy i k (Gy i k n)=n:=by
 simp only[Oo];split<;>split<;>simp_all<;>omega
abbrev SC.sw(i k:Nat):SC->SC
 | .own a o=>.own (Gy i k a) o
 | .row a=>.row (Gy i k a)
 | .jR a j sz o=>.jR (Gy i k a) j sz o
 | .sub a j=>.sub (Gy i k a) j
 | .lM a j m sz o=>.lM (Gy i k a) j m sz o
 | x=>x
abbrev SV.sw(i k:Nat):SV->SV
 | .c x=>.c (x.sw i k)
 | .agg xs=>.agg (fA (SC.sw i k) xs)
 | v=>v
abbrev aZ.sw(i k:Nat):aZ->aZ
 | .one x=>.one (x.sw i k)
 | .iq xs=>.iq (fA (SV.sw i k) xs)
abbrev ay.sw(i k:Nat):ay->ay
 | .blk t cs=>.blk t (fA (SC.sw i k) cs)
 | r=>r
def vK(i k:Nat) (β β':List RV):Prop:=∀j,β'[Gy i k j]?=β[j]?
theorem dZ.sw{h:FH}{β β':List RV}{i k:Nat} (sb:vK i k β β'):∀{x:SC}{y:Value},dZ h β x y->dZ h β' (x.sw i k) y
 | .v _,_,e=>e
 | .sl _ _,_,e=>e
 | .fp _ _,_,e=>e
 | .one _ _,_,e=>e
 | .own a o,_,⟨b,e,e'⟩=>⟨b,by rw[sb];exact e,e'⟩
 | .row a,y,⟨v,e,e'⟩=>⟨v,by rw[sb];exact e,e'⟩
 | .sub _ _,_,⟨v,us,e,e'⟩=>⟨v,us,by rw[sb];exact e,e'⟩
 | .lM _ _ _ _ _,_,⟨v,us,g,e,e'⟩=>⟨v,us,g,by rw[sb];exact e,e'⟩
 | .jR _ _ _ _,_,⟨v,g,e,e'⟩=>⟨v,g,by rw[sb];exact e,e'⟩
 | .abs _,_,e=>e
 | .junk,_,_=>trivial
theorem vM{α β:Type}{R R':α->β->Prop}{f:α->α} (hR:∀a b,R a b->R' (f a) b):∀{l:List α}{m:List β},aU R l m->aU R' (fA f l) m
 | [],[],_=>trivial
 | _ :: _,_ :: _,⟨a,b⟩=>⟨hR _ _ a,vM hR b⟩
theorem dA.sw{h:FH}{β β':List RV}{i k:Nat} (sb:vK i k β β'):∀{x:SV}{y:Value},dA h β x y->dA h β' (x.sw i k) y
 | .c _,_,⟨e,o⟩=>⟨e.sw sb,o⟩
 | .agg _,_,⟨ys,e,a⟩=>⟨ys,e,vM (λ_ _ ⟨p,q⟩=>⟨p.sw sb,q⟩) a⟩
 | .dat _ _,_,e=>e
 | .und,_,e=>e
theorem jP.sw{h:FH}{β β':List RV}{i k:Nat} (sb:vK i k β β'):∀{x:aZ}{y:Value},jP h β x y->jP h β' (x.sw i k) y
 | .one _,_,e=>dA.sw sb e
 | .iq _,_,⟨ys,e,a⟩=>⟨ys,e,vM (λ_ _ p=>dA.sw sb p) a⟩
theorem Holds.sw{h:FH}{β β':List RV}{w:World}{i k:Nat} (sb:vK i k β β'):∀{r:ay}{v:RV},Holds h β w r v->Holds h β' w (r.sw i k) v
 | .blk _ _,.blk _,⟨ys,e,a⟩=>⟨ys,e,vM (λ_ _ ⟨p,q⟩=>⟨p.sw sb,q⟩) a⟩
 | .row _ _ _,.row _,e=>e
 | .obj _ _ _,.blk _,e=>e
 | .deep _ _ _ _ _ _ _ _,.deep _ _,e=>e
 | .mp _ _ _,.row _,e=>e
 | .NC _ _ _ _,.deep _ _,e=>e
 | .it _ _ _ _,.blk _,e=>e
 | .Ko _ _ _ _,.row _,e=>e
 | .Gj _ _ _ _,.deep _ _,e=>e
 | .gone,_,_=>trivial
theorem ay.IE{k:Nat} (r:ay):(r.sw i k).live=r.live:=by cases r<;>rfl
theorem OK.sw{B:Base}{h0:FH}{T T':List ay}{h:FH}{β β':List RV}{w:World}{i k:Nat} (ok:OK B h0 T h β w) (sb:vK i k β β') (hl:β'.length=T'.length)
 (sT:∀j,T'[Gy i k j]?=(T[j]?).map (ay.sw i k)):OK B h0 T' h β' w:=by
 have gT:∀{j:Nat}{r:ay},T'[j]?=some r->∃r0,T[Gy i k j]?=some r0/\r=r0.sw i k:=by
  intro j r e;have:=sT (Gy i k j);rw[yR,e]at this;cases hT:T[Gy i k j]? with
  | none=>rw[hT]at this;cases this
  | some r0=>rw[hT]at this;exact⟨r0,rfl,by simpa using this⟩
 have gB:∀{j:Nat}{v:RV},β'[j]?=some v->β[Gy i k j]?=some v:=by
  intro j v e;have:=sb (Gy i k j);rw[yR,e]at this;exact this.symm
 refine⟨ok.below,ok.dr,hl,λj r v e1 e2=>?_,λj r v b e1 l1 e2 e3=>?_,λj j' r r' u v b e1 l1 e2 l2 e3 e4 e5 e6=>?_,ok.hle,ok.hw,ok.hg,ok.kn⟩
 .obtain⟨r0,f1,rfl⟩:=gT e1;exact(ok.holds _ _ _ f1 (gB e2)).sw sb
 .obtain⟨r0,f1,rfl⟩:=gT e1;exact ok.own _ _ _ _ f1 (by rw[<-ay.IE];exact l1) (gB e2) e3
 .obtain⟨r0,f1,rfl⟩:=gT e1;obtain⟨r1,f2,rfl⟩:=gT e2;have:=ok.inj _ _ _ _ _ _ _ f1 (by rw[<-ay.IE];exact l1) f2 (by rw[<-ay.IE];exact l2) (gB e3) (gB e4) e5 e6
  have h2:=rG (Gy i k) this
  rwa [yR,yR]at h2
abbrev swE(i k:Nat):List (Nat×Gd×aZ)->List (Nat×Gd×aZ)
 | []=>[]
 | (t,g,e) :: l=>(t,g,e.sw i k) :: swE i k l
abbrev swT(i k:Nat) (T:List (Gd×ay)):List (Gd×ay):=match eY T i with
 | some a=>match eY T k with
   | some b=>fA (λp=>(p.1,p.2.sw i k)) (dB (dB T i b) k a)
   | none=>T
 | none=>T
abbrev swS(i k:Nat) (s:St):St:={ s with T:=swT i k s.T,env:=swE i k s.env }
theorem IG{i k:Nat}:∀{l:List (Nat×Gd×aZ)}{t:Nat},iD (swE i k l) t=(iD l t).map λp=>(p.1,p.2.sw i k)
 | [],_=>rfl
 | (u,g,e) :: l,t=>by
   rw[show swE i k ((u,g,e) :: l)=(u,g,e.sw i k) :: swE i k l from rfl,bg,bg]
   split
   .rfl
   .exact IG
theorem DZ{α β:Type} (f:α->β):∀l:List α,fA f l=l.map f
 | []=>rfl
 | _ :: l=>by simp[fA,DZ f l]
theorem QG{k:Nat}{T:List (Gd×ay)} (hi:i < T.length) (hk:k < T.length) (j:Nat):(swT i k T)[Gy i k j]?=(T[j]?).map λp=>(p.1,p.2.sw i k):=by
 unfold swT;rw[fJ,lK hi];simp only;rw[fJ,lK hk];simp only;rw[DZ,Df,fZ,fZ]
 congr 1
 rw[Oo]
 by_cases h1:j=i
 .subst h1;rw[if_pos rfl,qx (by simpa using hk),lK hi]
 .rw[if_neg h1]
  by_cases h2:j=k
  .subst h2;rw[if_pos rfl,mO (by omega),qx hi,lK hk]
  .rw[if_neg h2,mO (by omega),mO (by omega)]
theorem acS{k:Nat}{T:List (Gd×ay)}:(swT i k T).length=T.length:=by
 unfold swT;split
 .split
  .rw[DZ,fZ,fZ];simp
  .rfl
 .rfl
theorem Oq{k:Nat} (hi:i < β.length) (hk:k < β.length):∃β',β'.length=β.length/\vK i k β β':=by
 refine⟨(β.set i β[k]).set k β[i],by simp,λj=>?_⟩
 rw[Oo]
 by_cases h1:j=i
 .subst h1;rw[if_pos rfl,qx (by simpa using hk),lK hi]
 .rw[if_neg h1]
  by_cases h2:j=k
  .subst h2;rw[if_pos rfl,mO (by omega),qx hi,lK hk]
  .rw[if_neg h2,mO (by omega),mO (by omega)]
theorem Sat.sw{N:Nat}{B:Base}{h0:FH}{s:St}{h:FH}{β:List RV}{w:World}{a:Act} (aj:Sat N B h0 s h β w a){i k:Nat} (hi:i < s.T.length) (hk:k < s.T.length):
 ∃β',Sat N B h0 (swS i k s) h β' w a:=by
 have hlen:β.length=s.T.length:=by rw[aj.ok.len,iY]
 obtain⟨β',hl,sb⟩:=Oq (β:=β) (i:=i) (k:=k) (by omega) (by omega)
 refine⟨β',?_,?_,?_,aj.defers,aj.sz,?_,?_⟩
 .refine aj.ok.sw sb (by rw[hl,iY,acS,hlen]) λj=>?_
  rw[jy,jy,QG hi hk];cases s.T[j]? with
  | none=>rfl
  | some p=>
    simp only[VI];cases gv s.gl p.1<;>rfl
 .intro t G e ht;rw[show(swS i k s).env=swE i k s.env from rfl,IG]at ht
  cases hl:iD s.env t with
  | none=>rw[hl]at ht;cases ht
  | some p=>
    rw[hl]at ht;cases ht;obtain⟨z,q1,q2,q3⟩:=aj.env t p.1 p.2 hl;exact⟨z,q1,λhh=>(q2 hh).sw sb,q3⟩
 .intro d j hd;obtain⟨G,b,q1,q2⟩:=aj.gs d j hd;exact⟨G,b,by rw[show(swS i k s).env=swE i k s.env from rfl,IG,q1];rfl,q2⟩
 .intro t G e ht;rw[show(swS i k s).env=swE i k s.env from rfl,IG]at ht
  cases hl:iD s.env t with
  | none=>rw[hl]at ht;cases ht
  | some p=>
    rw[hl]at ht;cases ht;exact aj.gb t p.1 p.2 hl
 .intro p hp;obtain⟨j,hj⟩:=yg hp;have h1:=QG hi hk (Gy i k j);rw[yR]at h1;rw[show(swS i k s).T=swT i k s.T from rfl,h1]at hj
  cases hT:s.T[Gy i k j]? with
  | none=>rw[hT]at hj;cases hj
  | some q=>
    rw[hT]at hj;cases hj;exact aj.gT q (ig hT)
abbrev nG:List (Nat×Nat)->St->St
 | [],s=>s
 | (i,k) :: l,s=>match dD (Nat.ble (i+1) (aQ s.T)) (Nat.ble (k+1) (aQ s.T)) with
   | true=>nG l (swS i k s)
   | false=>s
theorem Sat.nG{N:Nat}{B:Base}{h0 h:FH}{w:World}{a:Act}:∀(l:List (Nat×Nat)){s:St}{β:List RV},Sat N B h0 s h β w a->∃β',Sat N B h0 (nG l s) h β' w a
 | [],s,β,aj=>⟨β,aj⟩
 | (i,k) :: l,s,β,aj=>by
   unfold Go.jl.nG;split
   .rename_i hc;rw[aB,bV,bF]at hc;have h1:=qj hc.1;have h2:=qj hc.2;obtain⟨β',aW⟩:=aj.sw (i:=i) (k:=k) (by omega) (by omega)
    exact Sat.nG l aW
   .exact⟨β,aj⟩
inductive Loc where
 | slot (t:Nat)
 | cell (i c:Nat)
abbrev ag6:SC->Option Nat
 | .own i _=>some i
 | .row i=>some i
 | _=>none
abbrev aoT(s:St):Loc->Option Nat
 | .slot t=>match iD s.env t with
   | some ([],.one (.c x))=>ag6 x
   | _=>none
 | .cell i c=>match eY s.T i with
   | some ([],.blk _ cs)=>match eY cs c with
     | some x=>ag6 x
     | none=>none
   | _=>none
abbrev tK:List (Nat×Loc)->St->St
 | [],s=>s
 | (k,loc) :: l,s=>match aoT s loc with
   | none=>tK l s
   | some i=>match dD (Nat.ble (i+1) (aQ s.T)) (Nat.ble (k+1) (aQ s.T)) with
     | true=>tK l (swS i k s)
     | false=>s
theorem Sat.tK{N:Nat}{B:Base}{h0 h:FH}{w:World}{a:Act}:∀(l:List (Nat×Loc)){s:St}{β:List RV},Sat N B h0 s h β w a->∃β',Sat N B h0 (tK l s) h β' w a
 | [],s,β,aj=>⟨β,aj⟩
 | (k,loc) :: l,s,β,aj=>by
   unfold Go.jl.tK;split
   .exact Sat.tK l aj
   .rename_i i _;split
    .rename_i hc;rw[aB,bV,bF]at hc;have h1:=qj hc.1;have h2:=qj hc.2;obtain⟨β',aW⟩:=aj.sw (i:=i) (k:=k) (by omega) (by omega)
     exact Sat.tK l aW
    .exact⟨β,aj⟩
structure IP where
 sh:Sh
 ps:List Sh
 pre:List sh.den->bT ps->Prop
 res:List sh.den->bT ps->List sh.den
 back:Bool
def UA(P:Program) (gd:Nat->Option (Sigma Sh.den)) (f:FuncId) (ip:IP):Prop:=
 ∀(t:TypeId) (l:List ip.sh.den) (d:bT ip.ps) (v:Value) (vs:List Value) (h:FH) (w:World),(∀b o u,h b o=some u->vis w b o=some u)->aK gd h ->
   Holds h [] w (.row t ip.sh l) (.row v)->(∀b,aA v=some b->∀o,h b o=none)->aU (dA h []) (fE ip.ps d) vs->ip.pre l d ->
   Calls P f (v :: vs).toArray w (λen w'=>∃v' y,en=.returned y/\Gb w w' (aA v)/\(∀b,aA v'=some b->aA v=some b\/(w.heap.size<=b/\b < w'.heap.size)) /\
    Holds h [] w' (.row t ip.sh (ip.res l d)) (.row v')/\(ip.back=true->y=v')/\(ip.back=false->y=.tuple #[]/\v'=v))
abbrev ipK(cx:Cx) (ip:IP) (s:St) (d:Option Nat) (args:List Operand) (K:St->Prop):Prop:=match args with
 | []=>False
 | x :: r=>match bM cx s [] x with
   | some (.one (.c (.row i)))=>match eY s.T i with
     | some ([],.row t sh l)=>match jA (.sl sh) l (.sl ip.sh) with
       | none=>False
       | some l=>match uG cx s [] r with
         | none=>False
         | some vs=>match allL noRow vs with
           | false=>False
           | true=>match FX s [] vs with
             | none=>False
             | some bs=>match yL ip.ps bs with
               | none=>False
               | some dd=>ip.pre l dd/\(match ip.back with
                 | false=>K ({ s with T:=dB s.T i ([],.row t ip.sh (ip.res l dd)) }.put d [] (.iq []))
                 | true=>K ({ s with T:=dB (KH i s.T) i ([],.row t ip.sh (ip.res l dd)),env:=sZ i s.env }.put d [] (.one (.c (.row i)))))
     | _=>False
   | _=>False
def Bg(P:Program) (N:Nat) (B:Base) (h0 h:FH) (w:World) (a:Act) (o:Oper) (wanted:Bool) (K:St->Prop):Prop:=
 ∀(Nx:Act->World->Prop) (Q:Exit->Act->World->Prop),
   (∀s' h' β' w' v,K s'->h.le h'->Sat N B h0 s' h' β' w' (a.put o.dst v)->Nx (a.put o.dst v) w') ->
   if wanted=true then o.wp P a w Nx Q else Nx (a.put o.dst undef) w
theorem gq.weak{N:Nat}{b:Bool}{K:St->Prop} (k:gq P N B h0 h w a o b K):Bg P N B h0 h w a o b K:=
 λNx Q next=>k Nx Q λs' h' β' w' v k' le _ aj=>next s' h' β' w' v k' le aj
section
variable {cx:Cx}{P:Program}{N:Nat}{B:Base}{h0:FH}{s:St}{h:FH}{β:List RV}{w:World}{a:Act}{o:Oper}{K:St->Prop}
theorem WV(aj:Sat N B h0 s h β w a){x x':ay}{v:RV} (hT:eY s.T r=some ([],x)) (hl:x.live=true) (hu:β[r]?=some u)
 (hg:Gb w w' u.block) (hv:∀b,v.block=some b->u.block=some b\/(w.heap.size<=b/\b < w'.heap.size)) (hvs:∀b,¬v.sub b:=by exact λ_ h=>h) (hold:Holds h (β.set r v) w' x' v):
 Sat N B h0 { s with T:=dB (KH r s.T) r ([],x'),env:=sZ r s.env } h (β.set r v) w' a:=by
 have tr:gv s.gl []=true:=rfl;have fQ:=bH hT tr;have okj:=aj.ok.jk r;have hTj:((eff s.gl s.T).map (jkR r))[r]?=some (jkR r x):=by rw[Df,fQ];rfl
 have ok:OK B h0 (eff s.gl (dB (KH r s.T) r ([],x'))) h (β.set r v) w':=by
  rw[fO,Oi];refine okj.upd hTj (by rw[uD];exact hl) hu hg (λk e=>.inl e) (λb hb=>hb.elim (λq=>(hv b q).imp .inl id) λq=>(hvs b q).elim) (.inr λj rj _ ej=>?_) hold
  rw[Df]at ej;cases hj:(eff s.gl s.T)[j]? with
  | none=>rw[hj]at ej;cases ej
  | some q=>rw[hj]at ej;cases ej;exact KI r q
 refine⟨ok,?_,?_,aj.defers,aj.sz,?_,?_⟩
 .intro t G e ht;obtain⟨e0,h1,rfl⟩:=DN r ht;obtain⟨z,q1,q2,q3⟩:=aj.env t G e0 h1;exact⟨z,q1,λhG=>(q2 hG).jk v,q3⟩
 .intro d i hi;obtain⟨G,b,q1,q2⟩:=aj.gs d i hi;exact⟨G,b,Iy r q1,q2⟩
 .intro t G e ht;obtain⟨e0,h1,rfl⟩:=DN r ht;exact aj.gb t G e0 h1
 .intro p hp;simp only at hp;rw[fZ]at hp;rcases JW hp with hp | hp
  .have:∀{l:List (Gd×ay)},p∈KH r l->∃q∈l,q.1=p.1:=by
    intro l
    induction l with
    | nil=>intro hh;simp[KH]at hh
    | cons q l ih=>
      obtain⟨g,q⟩:=q;intro hh;simp only[KH,mY]at hh;rcases hh with rfl | hh
      .exact⟨(g,q),by simp,rfl⟩
      .obtain⟨q',h1,h2⟩:=ih hh;exact⟨q',by simp[h1],h2⟩
   obtain⟨q,h1,h2⟩:=this hp;rw[<-h2];exact aj.gT q h1
  .subst hp;rfl
theorem Holds.ah4{s:Sh}{l:List s.den}{v:RV} (x:Holds h β w (.row t s l) v):Holds h β' w (.row t s l) v:=by
 cases v<;>exact x
theorem acT{ip:IP} (QH:UA P cx.gd f ip) (hf:∃fn,P.funcs[f]?=some fn/\fn.body.isSome=true/\(fn.name == "runtime.NumGoroutine")=false)
 (aj:Sat N B h0 s h β w a) (hg:aK cx.gd h) (hd:lJ N o.dst=true) (ho:o.op=.call c) (bW:c.callee=.value (.func f))
 (k:ipK cx ip s o.dst (tl c.args) K):Bg P N B h0 h w a o true K:=by
 have tr:gv s.gl []=true:=rfl;unfold ipK at k;split at k
 .cases k
 rename_i x r hargs0;split at k
 .rename_i i hx;split at k
  .rename_i t sh l0 hT;split at k
   .cases k
   rename_i l hl;split at k
   .cases k
   rename_i vs hvs;split at k
   .cases k
   rename_i hnr;split at k
   .cases k
   rename_i bs hbs;split at k
   .cases k
   rename_i dd hdd;obtain⟨aF,k⟩:=k;obtain⟨e1,e2⟩:=oG hl;subst e1;simp only at e2;subst e2;have cr:dA h β (.c (.row i)) (a.eval x):=aP aj hg tr hx;have hu:β[i]?=some (.row (a.eval x)):=aj.ok.row_of (bH hT tr) cr.1;have hold:=aj.ok.holds i _ _ (bH hT tr) hu;have hav:=qO aj hg tr hvs;obtain⟨_,b2⟩:=yQ aj tr hbs hav;intro Nx Q next
   rw[if_pos rfl];obtain⟨fn,hfn,hbody,hname⟩:=hf;have exec:(execOp a.eval o).run P w=.ok (.enter f (c.args.map a.eval)) w:=by
    simp only[execOp,ho,resolve,bW,Act.eval,Deferred.ofValue,invoke,Sem.run_bind,Sem.run_pure,Result.andThen_ok,callFunc,run_program,hfn,hname];simp[hbody];cases hb:fn.body with
    | none=>rw[hb]at hbody;cases hbody
    | some _=>simp
   have hargs:(c.args.map a.eval)=(a.eval x :: r.map a.eval).toArray:=by
    have:c.args=(x :: r).toArray:=by
     cases hc:c.args with
     | mk q=>rw[hc]at hargs0;simp only[tl]at hargs0;rw[hargs0]
    rw[this];simp
   unfold Oper.wp;rw[exec];simp only[Oper.upon];rw[hargs];refine(QH t l0 dd (a.eval x) _ h w aj.ok.hw hg hold.ah4 (λb hb=>(aj.ok.own i _ _ b (bH hT tr) rfl hu (bC.2 hb)).2.2) (yM hdd (b2 hnr)) aF).mono ?_
   rintro en w' ⟨v',y,rfl,hgr,hv,hold',hb1,hb2⟩;have hi:i < β.length:=(A8.1 hu).1;cases hb:ip.back with
   | false=>
     rw[hb]at k;obtain⟨rfl,rfl⟩:=hb2 hb;have fQ:=bH hT tr;have ok:OK B h0 (eff s.gl (dB s.T i ([],.row t ip.sh (ip.res l0 dd)))) h β w':=by
      rw[xw];have:=aj.ok.upd (r':=.row t ip.sh (ip.res l0 dd)) (v:=.row (a.eval x)) fQ rfl hu hgr (λk e=>bC.2 e) (λb hb=>.inl hb) (.inl rfl) hold'.ah4
      rwa [gV hu]at this
     exact next _ _ _ _ _ k (FH.le.refl h) ((aj.mem ok (FH.le.refl h) (Ext.refl β) (ql aj)).put (dW hd) rfl (λ_=>⟨[],rfl,trivial⟩) λhh=>by cases hh)
   | true=>
     rw[hb]at k;obtain rfl:=hb1 hb;refine next _ _ _ _ _ k (FH.le.refl h) ((WV aj hT rfl hu hgr hv (x':=.row t ip.sh (ip.res l0 dd)) (v:=.row y) (hold:=hold'.ah4)).put (dW hd) rfl (λ_=>?_) λhh=>by cases hh)
     refine⟨?_,?_⟩
     .refine⟨.row y,?_,rfl⟩;rw[qx hi]
     .rcases hold' with⟨rfl,_⟩ | ⟨_,rfl,_⟩ | ⟨g,cap,cur,rfl,_⟩<;>exact⟨rfl,rfl⟩
  .cases k
 .cases k
end
def ah5:Int->Bool
 | .ofNat 0=>true
 | _=>false
theorem acU{n:Int} (h:ah5 n=true):n=0:=by
 unfold ah5 at h;split at h
 .rfl
 .cases h
abbrev FY:Operand->Bool
 | .const v=>match v with
   | .int _ n=>ah5 n
   | _=>false
 | _=>false
theorem yS{x:Operand} (h:FY x=true):∃k,x=.const (.int k 0):=by
 unfold FY at h;split at h
 .split at h
  .rename_i k n;rw[acU h];exact⟨k,rfl⟩
  .cases h
 .cases h
abbrev ah6:Option Operand->Bool
 | none=>true
 | some x=>FY x
abbrev amE:Option Operand->Bool
 | none=>false
 | some x=>FY x
abbrev WW:SC->Bool
 | .sl _ _=>true
 | .v v=>match v with
   | .slice none 0 0=>true
   | _=>false
 | _=>false
abbrev ah7(cx:Cx) (s:St) (d:Option Nat) (t:TypeId) (x:Operand) (lo hi:Option Operand) (K:St->Prop):Prop:=match descOf cx t with
 | .slice el=>match pO cx.ti el with
   | none=>False
   | some ie=>match ie.iJ with
     | none=>False
     | some sh=>match bM cx s [] x with
       | some (.one (.c y))=>match dD (WW y) (dD (ah6 lo) (amE hi)) with
         | true=>K ({ s with T:=snoc s.T ([],.row el sh []) }.put d [] (.one (.c (.row (aQ s.T)))))
         | false=>False
       | _=>False
 | _=>False
abbrev Ot(cx:Cx) (s:St) (d:Option Nat) (t:TypeId) (i:Nat) (lo hi:Option Operand) (K:St->Prop):Prop:=match descOf cx t with
 | .slice el=>match pO cx.ti el with
   | none=>False
   | some _=>match ah6 lo with
     | false=>False
     | true=>match hi with
       | none=>False
       | some h=>match bM cx s [] h with
         | some (.one (.c (.v (.int _ n))))=>match eY s.T i with
           | some ([],.row el' sh l)=>(0<=n/\n<=l.length)/\K ({ s with T:=dB (KH i s.T) i ([],.row el' sh (l.take n.toNat)),env:=sZ i s.env }.put d [] (.one (.c (.row i))))
           | _=>False
         | _=>False
 | _=>False
abbrev ah8(cx:Cx) (s:St) (d:Option Nat) (t:TypeId) (lo hi:Option Operand) (K:St->Prop):Prop:=match descOf cx t with
 | .slice el=>match pO cx.ti el with
   | none=>False
   | some _=>match FW cx s [] lo 0 with
     | none=>False
     | some a=>match FW cx s [] hi 0 with
       | none=>False
       | some b=>(0<=a/\a<=b/\b<=0)/\K (s.put d [] (.one (.c (.v (.slice none 0 0)))))
 | _=>False
def dO(a b:Int):Int:=if b > a then b else a
abbrev Ou(cx:Cx) (s:St) (d:Option Nat) (x y:Operand) (K:St->Prop):Prop:=match bM cx s [] x with
 | some (.one (.c (.v (.int .i64 a))))=>match bM cx s [] y with
   | some (.one (.c (.v (.int .i64 b))))=>K (s.put d [] (vI .i64 (dO a b)))
   | _=>False
 | _=>False
abbrev ah9(cx:Cx) (s:St) (d:Option Nat) (t:TypeId) (x:Operand) (K:St->Prop):Prop:=match descOf cx t with
 | .slice _=>match bM cx s [] x with
   | some (.one (.c (.v (.slice none 0 0))))=>K (s.put d [] (vI .i64 0))
   | _=>False
 | _=>False
abbrev aia(cx:Cx) (s:St) (d:Option Nat) (t:TypeId) (x:Operand) (lo hi:Option Operand) (m:Operand) (K:St->Prop):Prop:=match descOf cx t with
 | .slice el=>match pO cx.ti el with
   | none=>False
   | some ie=>match ah6 lo with
     | false=>False
     | true=>match hi with
       | none=>False
       | some h=>match bM cx s [] h with
         | some (.one (.c (.v (.int _ n))))=>match bM cx s [] m with
           | some (.one (.c (.v (.int _ n'))))=>match bM cx s [] x with
             | some (.one (.c (.sl sh l)))=>match Nat.beq ie.size sh.size with
               | true=>(0<=n/\n<=l.length/\n=n')/\K (s.put d [] (.one (.c (.abs (.Uf sh (l.take n.toNat))))))
               | false=>False
             | _=>False
           | _=>False
         | _=>False
 | _=>False
abbrev Ov(s:St) (d:Option Nat) (eq:Bool) (x:SC) (K:St->Prop):Prop:=match x with
 | .v _=>K (s.put d [] (vB eq))
 | .sl _ l=>∀b:Bool,(b=true->l=[])->K (s.put d [] (vB (cnd eq b (!b))))
 | .row i=>match eY s.T i with
   | some ([],.row _ _ l)=>∀b:Bool,(b=true->l=[])->K (s.put d [] (vB (cnd eq b (!b))))
   | _=>False
 | _=>False
abbrev II:BinOp->Option Bool
 | .eql=>some true
 | .neq=>some false
 | _=>none
abbrev WX(cx:Cx) (t:TypeId):Bool:=match descOf cx t with
 | .slice _=>true
 | _=>false
abbrev Ox:SC->Bool
 | .sl _ _=>true
 | .row _=>true
 | .v v=>match v with
   | .slice none 0 0=>true
   | _=>false
 | _=>false
abbrev WY(cx:Cx) (s:St) (d:Option Nat) (t t':TypeId) (y:Operand) (K:St->Prop):Prop:=match descOf cx t' with
 | .int .i64=>match descOf cx t with
   | .slice el=>match pO cx.ti el with
     | none=>False
     | some ie=>match ie.iJ with
       | none=>False
       | some sh=>match dD (Nat.beq sh.size ie.size) (dD (Nat.ble 1 ie.bytes) (Nat.ble 1 ie.size)) with
         | true=>match bM cx s [] y with
           | some (.one (.c (.v (.int .i64 n))))=>(0<=n/\nO n.toNat ie.bytes)/\K ({ s with T:=snoc s.T ([],.row el sh (List.replicate n.toNat (qJ sh))) }.put d [] (.one (.c (.row (aQ s.T)))))
           | _=>False
         | false=>False
   | _=>False
 | _=>False
abbrev UC(i:Nat) (z x:SC):SC:=match x with
 | .row j=>match Nat.beq i j with
   | true=>z
   | false=>.row j
 | .jR j k sz off=>match Nat.beq i j with
   | true=>.junk
   | false=>.jR j k sz off
 | .own j off=>match Nat.beq i j with
   | true=>.junk
   | false=>.own j off
 | .sub j k=>match Nat.beq i j with
   | true=>.junk
   | false=>.sub j k
 | .lM j k m sz off=>match Nat.beq i j with
   | true=>.junk
   | false=>.lM j k m sz off
 | x=>x
abbrev acV(i:Nat) (z:SC):SV->SV
 | .c x=>.c (UC i z x)
 | .agg xs=>.agg (fA (UC i z) xs)
 | v=>v
abbrev acW(i:Nat) (z:SC):aZ->aZ
 | .one v=>.one (acV i z v)
 | .iq vs=>.iq (fA (acV i z) vs)
abbrev UD(i:Nat) (z:SC):ay->ay
 | .blk t cs=>.blk t (fA (UC i z) cs)
 | r=>r
abbrev oJ(i:Nat) (z:SC):List (Nat×Gd×aZ)->List (Nat×Gd×aZ)
 | []=>[]
 | (k,g,e) :: r=>(k,g,acW i z e) :: oJ i z r
abbrev rU(i:Nat) (z:SC):List (Gd×ay)->List (Gd×ay)
 | []=>[]
 | (g,r) :: t=>(g,UD i z r) :: rU i z t
abbrev KP(s:St) (i:Nat):St:=match eY s.T i with
 | some ([],.row _ sh l)=>{ s with T:=dB (rU i (.sl sh l) s.T) i ([],.gone),env:=oJ i (.sl sh l) s.env }
 | some ([],.deep _ sh l _ _ _ _ [])=>{ s with T:=dB (rU i (.sl sh l) s.T) i ([],.gone),env:=oJ i (.sl sh l) s.env }
 | some ([],.mp k sh l)=>{ s with T:=dB (rU i (.one (.mp k sh) l) s.T) i ([],.gone),env:=oJ i (.one (.mp k sh) l) s.env }
 | _=>s
abbrev ni(s:St):List Nat->St
 | []=>s
 | i :: r=>ni (KP s i) r
abbrev QI:List SC->List Nat->List Nat
 | [],r=>r
 | x :: xs,r=>match x with
   | .row i=>i :: QI xs r
   | _=>QI xs r
abbrev rowsOf(cx:Cx) (s:St):List (Nat×Operand)->List Nat
 | []=>[]
 | (_,x) :: r=>match bM cx s [] x with
   | some (.one (.c (.row i)))=>i :: rowsOf cx s r
   | some (.one (.agg xs))=>QI xs (rowsOf cx s r)
   | _=>rowsOf cx s r
abbrev IJ(cx:Cx) (s:St) (d:Option Nat) (t:TypeId) (x y:Operand) (K:St->Prop):Prop:=iK cx t λel ie sh=>
 match bM cx s [] x with
 | some (.one (.c (.abs (.Uf fC l1))))=>match jA (.sl fC) l1 (.sl sh) with
   | some l=>match bM cx s [] y with
     | some (.one v2)=>match Oj s sh v2 with
       | some l2=>nO (l.length+l2.length) ie.bytes/\K ({ s with T:=snoc (rU (aQ s.T) (.sl sh (l++l2)) s.T) ([],.gone),env:=oJ (aQ s.T) (.sl sh (l++l2)) s.env }.put d [] (.one (.c (.sl sh (l++l2)))))
       | none=>False
     | _=>False
   | none=>False
 | _=>False
abbrev Oy:List Value->Bool
 | []=>false
 | v :: l=>match l with
   | []=>match v with
     | .slice none 0 0=>true
     | _=>false
   | _ :: _=>false
theorem UE{l:List Value} (h:Oy l=true):l=[mZ]:=by
 unfold Oy at h;split at h
 .cases h
 .split at h
  .split at h
   .rfl
   .cases h
  .cases h
abbrev aib:Nat->Bool:=λ_=>true
abbrev Oz(cx:Cx) (s:St) (d:Option Nat) (t:TypeId) (ln cp:Operand) (K:St->Prop):Option Prop:=match descOf cx t with
 | .slice el=>match pO cx.ti el with
   | none=>none
   | some ie=>match ie.iJ with
     | some (.sl e)=>match descOf cx el with
       | .slice tt=>match dD (Nat.beq 1 ie.size) (dD (Nat.ble 1 ie.bytes) (Oy ie.zero)) with
         | true=>match bM cx s [] ln with
           | some (.one (.c (.v (.int _ n))))=>match bM cx s [] cp with
             | some (.one (.c (.v (.int _ c))))=>some ((0<=n/\n<=c/\nO c.toNat ie.bytes)/\K ({ s with T:=snoc s.T ([],.deep el (.sl e) (List.replicate n.toNat []) tt e 0 aib []) }.put d [] (.one (.c (.row (aQ s.T))))))
             | _=>none
           | _=>none
         | false=>none
       | _=>none
     | _=>none
 | _=>none
abbrev aic(cx:Cx) (s:St) (o:Oper) (K:St->Prop):Option Prop:=match o.guard with
 | some _=>none
 | none=>match o.op with
   | .slice t x lo hi mx=>match mx with
     | some m=>match FY m with
       | true=>some (ah7 cx s o.dst t x lo hi K)
       | false=>some (aia cx s o.dst t x lo hi m K)
     | none=>match bM cx s [] x with
       | some (.one (.c (.row i)))=>some (Ot cx s o.dst t i lo hi K)
       | some (.one (.c (.v (.slice none 0 0))))=>some (ah8 cx s o.dst t lo hi K)
       | _=>none
   | .binOp op t x y t'=>match II op with
     | none=>none
     | some eq=>match bM cx s [] y with
       | some (.one (.c (.v (.slice none 0 0))))=>match bM cx s [] x with
         | some (.one (.c z))=>match dD (Ox z) (WX cx t) with
           | true=>some (Ov s o.dst eq z K)
           | false=>none
         | _=>none
       | _=>none
   | .call c=>match c.callee with
     | .builtin .append=>match tl c.args with
       | [x,y]=>match tl c.argTypes with
         | [t,t']=>match Nat.beq t t' with
           | true=>match bM cx s [] x with
             | some (.one (.c (.abs (.Uf _ _))))=>some (IJ cx s o.dst t x y K)
             | _=>none
           | false=>match bM cx s [] x with
             | some (.one (.c (.v (.slice none 0 0))))=>some (WY cx s o.dst t t' y K)
             | _=>none
         | _=>none
       | _=>none
     | .builtin .cap=>match tl c.args with
       | [x]=>match tl c.argTypes with
         | [t]=>some (ah9 cx s o.dst t x K)
         | _=>none
       | _=>none
     | .builtin .max=>match tl c.args with
       | [x,y]=>some (Ou cx s o.dst x y K)
       | _=>none
     | _=>none
   | .makeSlice t ln cp=>match cx.dm with
     | true=>Oz cx s o.dst t ln cp K
     | false=>none
   | .buildSlice t n ps=>match rowsOf cx s (tl ps) with
     | []=>none
     | i :: r=>some (mD cx (ni s (i :: r)) [] o.dst t n (tl ps) K)
   | _=>none
section
variable {cx:Cx}{P:Program}{N:Nat}{B:Base}{h0:FH}{s:St}{h:FH}{β:List RV}{w:World}{a:Act}{o:Oper}{K:St->Prop}
theorem QJ(le:h.le h') (hu:∃u,β[i]?=some u/\u.sl=some v) (sl:dZ h' β z v){x:SC}{y:Value} (c:dZ h β x y):dZ h' β (UC i z x) y:=by
 unfold UC;split
 .rename_i j;split
  .rename_i hj;have:=iw hj;subst this;obtain⟨u,e,es⟩:=c;obtain⟨u',e',es'⟩:=hu;rw[e']at e;cases e;rw[es']at es;cases es;exact sl
  .exact dZ.mono (x:=.row j) le (Ext.refl β) c
 .split
  .trivial
  .exact c.mono le (Ext.refl β)
 .split
  .trivial
  .exact c.mono le (Ext.refl β)
 .split
  .trivial
  .exact c.mono le (Ext.refl β)
 .split
  .trivial
  .exact c.mono le (Ext.refl β)
 .exact c.mono le (Ext.refl β)
theorem IK{h h':FH}{β:List RV}{i:Nat}{z:SC}{v:Value} (le:h.le h') (hu:∃u,β[i]?=some u/\u.sl=some v) (sl:dZ h' β z v):∀{xs:List SC}{ys:List Value},
 aU (λx y=>dZ h β x y/\dG y) xs ys->aU (λx y=>dZ h' β x y/\dG y) (fA (UC i z) xs) ys
 | [],[],_=>trivial
 | _ :: _,_ :: _,⟨a,b⟩=>⟨⟨QJ le hu sl a.1,a.2⟩,IK le hu sl b⟩
theorem ag7(le:h.le h') (hu:∃u,β[i]?=some u/\u.sl=some v) (sl:dZ h' β z v):∀{x:SV}{y:Value},dA h β x y->dA h' β (acV i z x) y
 | .c _,_,c=>⟨QJ le hu sl c.1,c.2⟩
 | .agg _,_,⟨ys,e,a⟩=>⟨ys,e,IK le hu sl a⟩
 | .dat s _,_,⟨g,cs,e,r⟩=>⟨g,cs,e,r.mono le s⟩
 | .und,_,c=>c
theorem amF(le:h.le h') (hu:∃u,β[i]?=some u/\u.sl=some v) (sl:dZ h' β z v):∀{x:aZ}{y:Value},jP h β x y->jP h' β (acW i z x) y
 | .one _,_,c=>ag7 le hu sl c
 | .iq _,_,⟨ys,e,a⟩=>⟨ys,e,go a⟩
where
 go:∀{xs:List SV}{ys:List Value},aU (dA h β) xs ys->aU (dA h' β) (fA (acV i z) xs) ys
  | [],[],_=>trivial
  | _ :: _,_ :: _,⟨a,b⟩=>⟨ag7 le hu sl a,go b⟩
theorem UF(le:h.le h') (hu:∃u,β[i]?=some u/\u.sl=some v) (sl:dZ h' β z v):∀{r:ay}{u:RV},Holds h β w r u->Holds h' β w (UD i z r) u
 | .blk _ _,.blk _,⟨ys,e,a⟩=>⟨ys,e,IK le hu sl a⟩
 | .row _ s _,.row _,x=>lT.move le x λ_ _=>rfl
 | .deep _ _ _ _ _ _ _ _,.deep _ _,x=>eU.move le x λ_ _=>rfl
 | .mp k s l,.row v,x=>Holds.move (r:=.mp k s l) (v:=.row v) le (Ext.refl β) x λ_ _ _=>rfl
 | .NC k s l n,.deep v us,x=>Holds.move (r:=.NC k s l n) (v:=.deep v us) le (Ext.refl β) x λ_ _ _=>rfl
 | .Ko _ _ _ _,.row _,x=>x
 | .Gj _ _ _ _,.deep _ _,x=>Dj.move le x λ_ _=>rfl
 | .it k s l dn,.blk v,x=>Holds.move (r:=.it k s l dn) (v:=.blk v) le (Ext.refl β) x λ_ _ _=>rfl
 | .obj _ s _,.blk _,⟨ys,e,r⟩=>⟨ys,e,r.mono le s⟩
 | .gone,_,_=>trivial
theorem Ai(i:Nat) (z:SC) (r:ay):(UD i z r).live=r.live:=by cases r<;>rfl
theorem IL{i:Nat}{z:SC}:∀{env:List (Nat×Gd×aZ)}{t:Nat}{G:Gd}{e:aZ},iD (oJ i z env) t=some (G,e)->∃e0,iD env t=some (G,e0)/\e=acW i z e0
 | [],_,_,_,h=>by simp[oJ,iD]at h
 | (k,g,e0) :: r,t,G,e,h=>by
   simp only[oJ]at h;rw[bg]at h ⊢
   split at h
   .rename_i hk;cases h;exact⟨e0,by rw[if_pos hk],rfl⟩
   .rename_i hk;rw[if_neg hk];exact IL h
theorem KQ{i:Nat}{z:SC}:∀{env:List (Nat×Gd×aZ)}{t:Nat}{G:Gd}{e:aZ},iD env t=some (G,e)->iD (oJ i z env) t=some (G,acW i z e)
 | [],_,_,_,h=>by simp[iD]at h
 | (k,g,e0) :: r,t,G,e,h=>by
   simp only[oJ];rw[bg]at h ⊢
   split at h
   .rename_i hk;cases h;rw[if_pos hk]
   .rename_i hk;rw[if_neg hk];exact KQ h
theorem QK(gl:List Bool) (i:Nat) (z:SC):∀{T:List (Gd×ay)},eff gl (rU i z T)=(eff gl T).map (UD i z)
 | []=>rfl
 | (g,r) :: t=>by
   simp only[rU,eff,TP,QK gl i z (T:=t)]
   congr 1
   cases gv gl g<;>rfl
theorem QL{i:Nat}{z:SC}{p:Gd×ay}:∀{T:List (Gd×ay)},p∈rU i z T->∃q∈T,q.1=p.1
 | [],h=>by simp[rU]at h
 | (g,r) :: t,h=>by
   simp only[rU,mY]at h;rcases h with rfl | h
   .exact⟨(g,r),by simp,rfl⟩
   .obtain⟨q,h1,h2⟩:=QL h;exact⟨q,by simp[h1],h2⟩
theorem Sat.IQ(aj:Sat N B h0 s h β w a){r:ay} (fQ:(eff s.gl s.T)[i]?=some r) (hu:β[i]?=some u) (hus:u.sl=some v) (le:h.le h') (ok':OK B h0 ((eff s.gl s.T).set i .gone) h' β w) (sl:dZ h' β z v):
 Sat N B h0 { s with T:=dB (rU i z s.T) i ([],.gone),env:=oJ i z s.env } h' β w a:=by
 have hu:∃u,β[i]?=some u/\u.sl=some v:=⟨u,hu,hus⟩;refine⟨?_,?_,?_,aj.defers,aj.sz,?_,?_⟩
 .show OK B h0 (eff s.gl (dB (rU i z s.T) i ([],.gone))) h' β w;rw[fO,QK];have key:∀{j:Nat}{r:ay},(((eff s.gl s.T).map (UD i z)).set i .gone)[j]?=some r->∃r0,((eff s.gl s.T).set i .gone)[j]?=some r0/\r=UD i z r0:=by
   intro j r e
   by_cases hj:j=i
   .subst hj;have iO:j < (eff s.gl s.T).length:=(A8.1 fQ).1;rw[qx (by simpa using iO)]at e
    cases e;exact⟨.gone,by rw[qx iO],rfl⟩
   .rw[mO (Ne.symm hj),Df]at e;cases hj':(eff s.gl s.T)[j]? with
    | none=>rw[hj']at e;cases e
    | some r0=>rw[hj']at e;cases e;exact⟨r0,by rw[mO (Ne.symm hj)];exact hj',rfl⟩
  exact {
   below:=ok'.below
   dr:=ok'.dr
   len:=by have:=ok'.len;simpa using this
   holds:=λj r v' e e'=>by
    obtain⟨r0,e0,rfl⟩:=key e
    by_cases hj:j=i
    .subst hj;have iO:j < (eff s.gl s.T).length:=(A8.1 fQ).1;rw[qx iO]at e0;cases e0;cases v'<;>trivial
    .rw[mO (Ne.symm hj)]at e0;exact UF le hu sl (aj.ok.holds j r0 v' e0 e')
   own:=λj r v' b e hl e' hb=>by
    obtain⟨r0,e0,rfl⟩:=key e;exact ok'.own j r0 v' b e0 (by rw[<-Ai i z];exact hl) e' hb
   inj:=λj k r1 r2 u v' b e1 l1 e2 l2 e3 e4 b1 b2=>by
    obtain⟨r0,f1,rfl⟩:=key e1;obtain⟨r0',f2,rfl⟩:=key e2;exact ok'.inj j k r0 r0' u v' b f1 (by rw[<-Ai i z];exact l1) f2 (by rw[<-Ai i z];exact l2) e3 e4 b1 b2
   hle:=ok'.hle
   hw:=ok'.hw
   hg:=ok'.hg
   kn:=ok'.kn }
 .intro t' G e ht;obtain⟨e0,h1,rfl⟩:=IL ht;obtain⟨z,q1,q2,q3⟩:=aj.env t' G e0 h1;exact⟨z,q1,λhG=>amF le hu sl (q2 hG),q3⟩
 .intro d j hj;obtain⟨G,b,q1,q2⟩:=aj.gs d j hj;exact⟨G,b,KQ q1,q2⟩
 .intro t' G e ht;obtain⟨e0,h1,rfl⟩:=IL ht;exact aj.gb t' G e0 h1
 .intro p hp;simp only at hp;rw[fZ]at hp;rcases JW hp with hp | hp
  .obtain⟨q,h1,h2⟩:=QL hp;rw[<-h2];exact aj.gT q h1
  .subst hp;rfl
theorem QM{k:IntKind}{sh:Sh}{l:List (Int×sh.den)} (x:Holds h β w (.mp k sh l) (.row v)) (le:h.le h') (hb:∀b,(RV.row v).has b->∀o z,vis w b o=some z->h' b o=some z):Rd h' (.mp k sh) [v] l:=by
 obtain⟨b,es,c,e,e1,m⟩:=x;exact⟨v,rfl,.inr ⟨b,es,c,e,hb b (bC.2 (by rw[e];rfl)) _ _ (Qm e1),m.mono λ_ _=>DW.mono le⟩⟩
theorem Sat.aie(aj:Sat N B h0 s h β w a) (i:Nat):∃h',h.le h'/\Sat N B h0 (KP s i) h' β w a:=by
 unfold KP;split
 .rename_i t sh l hT;have fQ:(eff s.gl s.T)[i]?=some (.row t sh l):=by rw[jy,<-fJ,hT];rfl
  have iO:i < β.length:=by rw[aj.ok.len];exact(A8.1 fQ).1
  have hu:=lK iO;have hold:=aj.ok.holds i _ _ fQ hu;cases hb:β[i]with
  | blk b=>rw[hb]at hold;cases hold
  | no=>rw[hb]at hold;cases hold
  | deep _ _=>rw[hb]at hold;cases hold
  | row v=>
    rw[hb]at hold hu;obtain⟨h',le,ok',sl⟩:=aj.ok.freeze fQ hu;exact⟨h',le,aj.IQ (z:=.sl sh l) fQ hu rfl le ok' sl⟩
 .rename_i t sh l t2 e so own hT;have fQ:(eff s.gl s.T)[i]?=some (.deep t sh l t2 e so own []):=by rw[jy,<-fJ,hT];rfl
  have iO:i < β.length:=by rw[aj.ok.len];exact(A8.1 fQ).1
  have hu:=lK iO;have hold:=aj.ok.holds i _ _ fQ hu;cases hb:β[i]with
  | blk b=>rw[hb]at hold;cases hold
  | no=>rw[hb]at hold;cases hold
  | row _=>rw[hb]at hold;cases hold
  | deep v us=>
    rw[hb]at hold hu;obtain⟨le,ok',vis⟩:=aj.ok.uZ fQ rfl hu;exact⟨_,le,aj.IQ (z:=.sl sh l) fQ hu rfl le ok' (eU.data hold le λb hb o z hz=>vis b hb o z hz)⟩
 .rename_i k sh l hT;have fQ:(eff s.gl s.T)[i]?=some (.mp k sh l):=by rw[jy,<-fJ,hT];rfl
  have iO:i < β.length:=by rw[aj.ok.len];exact(A8.1 fQ).1
  have hu:=lK iO;have hold:=aj.ok.holds i _ _ fQ hu;cases hb:β[i]with
  | blk b=>rw[hb]at hold;cases hold
  | no=>rw[hb]at hold;cases hold
  | deep _ _=>rw[hb]at hold;cases hold
  | row v=>
    rw[hb]at hold hu;obtain⟨le,ok',vs⟩:=aj.ok.uZ fQ rfl hu;exact⟨_,le,aj.IQ (z:=.one (.mp k sh) l) fQ hu rfl le ok' (QM hold le λb hb o z hz=>vs b hb o z hz)⟩
 .exact⟨h,FH.le.refl h,aj⟩
theorem Sat.FI:∀{l:List Nat}{s:St}{h:FH},Sat N B h0 s h β w a->∃h',h.le h'/\Sat N B h0 (ni s l) h' β w a
 | [],s,h,aj=>⟨h,FH.le.refl h,aj⟩
 | i :: r,s,h,aj=>by
   obtain⟨h1,le1,jf⟩:=aj.aie i;obtain⟨h2,iy,bI⟩:=Sat.FI (l:=r) jf;exact⟨h2,le1.trans iy,bI⟩
theorem Bg.le{h h':FH}{b:Bool} (le:h.le h') (k:Bg P N B h0 h' w a o b K):Bg P N B h0 h w a o b K:=λNx Q next=>k Nx Q λs' h2 β' w' v k' le' aj=>next s' h2 β' w' v k' (le.trans le') aj
theorem WZ{y:SC} (hy:WW y=true) (c:dZ h β y v):∃ad len cap,v=.slice ad len cap/\len<=cap/\(ad=none->len=0/\cap=0):=by
 unfold WW at hy;split at hy
 .rcases c with⟨rfl,_⟩ | ⟨ad,cap,rfl,_⟩ | ⟨b,off,cap,rfl,h1,_⟩
  .exact⟨none,0,0,rfl,o9 _,λ_=>⟨rfl,rfl⟩⟩
  .exact⟨some ad,0,cap,rfl,J4 _,λh=>by cases h⟩
  .exact⟨_,_,cap,rfl,h1,λh=>by cases h⟩
 .split at hy
  .obtain⟨rfl,_⟩:=c;exact⟨none,0,0,rfl,o9 _,λ_=>⟨rfl,rfl⟩⟩
  .cases hy
 .cases hy
theorem W9(hc:bQ P cx.ti) (aj:Sat N B h0 s h β w a) (hg:aK cx.gd h) (hd:lJ N o.dst=true){x m:Operand} (ho:o.op=.slice t x lo hi (some m)) (hm:FY m=true)
 (k:ah7 cx s o.dst t x lo hi K):Bg P N B h0 h w a o true K:=by
 have tr:gv s.gl []=true:=rfl;unfold ah7 at k;split at k
 .rename_i el hde;have hu:=bJ hc hde (by simp)
  split at k
  .cases k
  rename_i ie hie;have tie:=hc.get hie;split at k
  .cases k
  rename_i sh hsh;split at k
  .rename_i y hy;split at k
   .rename_i hz;rw[aB,aB,bV,bV]at hz;obtain⟨hz1,hz2,hz3⟩:=hz;have cy:=(aP aj hg tr hy:dA h β (.c y) (a.eval x));obtain⟨ad,len,cap,ev,hle,hnil⟩:=WZ hz1 cy.1;obtain⟨km,rfl⟩:=yS hm;obtain⟨hx,rfl⟩:∃x,hi=some x:=by cases hi with | none=>simp[amE]at hz3 | some x=>exact⟨x,rfl⟩
    obtain⟨kh,rfl⟩:=yS (show FY hx=true from hz3)
    have run:(Instr.sliceAt t (a.eval x) (lo.map a.eval) ((some (Operand.const (.int kh 0))).map a.eval) ((some (Operand.const (.int km 0))).map a.eval)).run P w=.ok (.slice ad 0 0) w:=by
     rw[ev];have e1:(Instr.sliceBounds true len cap (lo.map a.eval) (some (.int kh 0)) (some (.int km 0))).run P w=.ok (0,0,0) w:=by
      cases lo with
      | none=>simp[Instr.sliceBounds,Instr.sliceBound,asIntOf]
      | some z=>
        obtain⟨kz,rfl⟩:=yS (show FY z=true from hz2)
        simp[Instr.sliceBounds,Instr.sliceBound,asIntOf,Act.eval]
     simp only[Instr.sliceAt,Instr.slice,Sem.run_bind,run_underlying hu,Result.andThen_ok,VI,Act.eval,e1,run_sizeOf tie,Sem.run_pure];simp
    have nw:=kY (P:=P) aj (o:=o) (G:=[]) rfl hd (r:=.row el sh []) (e:=.one (.c (.row (aQ s.T)))) (K:=K) k λ_=>
     ⟨.slice ad 0 0,w,.row (.slice ad 0 0),by simp only[execOp,ho,Sem.run_bind];rw[run];rfl,cO _ _,λb hb=>by rw[bC]at hb;cases ad<;>simp[aA]at hb,by
      cases ad with
      | none=>exact .inl ⟨rfl,rfl⟩
      | some ad=>exact .inr (.inl ⟨ad,rfl,rfl⟩),by
      refine⟨⟨_,kE (kZ aj) _,rfl⟩,rfl,rfl⟩⟩
    exact nw.weak
   .cases k
  .cases k
 .cases k
theorem oK(aj:Sat N B h0 s h β w a) (hd:lJ N o.dst=true){e:aZ} (run:(execOp a.eval o).run P w=.ok (.value v) w) (c:jP h β e v) (k:K (s.put o.dst [] e)):Bg P N B h0 h w a o true K:=by
 intro Nx Q next
 rw[if_pos rfl];exact kD run (next _ _ _ _ _ k (FH.le.refl h) (aj.put (dW hd) rfl (λ_=>c) λhh=>by cases hh))
theorem OA(hc:bQ P cx.ti) (aj:Sat N B h0 s h β w a) (hg:aK cx.gd h) (hd:lJ N o.dst=true){x:Operand} (ho:o.op=.slice t x lo hi none)
 (hx:bM cx s [] x=some (.one (.c (.row i)))) (k:Ot cx s o.dst t i lo hi K):Bg P N B h0 h w a o true K:=by
 have tr:gv s.gl []=true:=rfl;unfold Ot at k;split at k
 .rename_i el hde;have hu:=bJ hc hde (by simp)
  split at k
  .cases k
  rename_i ie hie;have tie:=hc.get hie;split at k
  .cases k
  rename_i hlo;split at k
  .cases k
  rename_i hh;split at k
  .rename_i ik n hn;split at k
   .rename_i el' sh l hT;obtain⟨hb,k⟩:=k;have ch:=(aP aj hg tr hn:dA h β (.c (.v (.int ik n))) (a.eval hh));have eh:a.eval hh=.int ik n:=ch.1.1;have cr:=(aP aj hg tr hx:dA h β (.c (.row i)) (a.eval x));have hβ:β[i]?=some (.row (a.eval x)):=aj.ok.row_of (bH hT tr) cr.1;have hold:=aj.ok.holds i _ _ (bH hT tr) hβ;have hi':i < β.length:=(A8.1 hβ).1;have aif:(lo.map a.eval=none/\(0:Int)=0)\/∃k,lo.map a.eval=some (.int k 0):=by
     cases lo with
     | none=>exact .inl ⟨rfl,rfl⟩
     | some z=>
       obtain⟨kz,rfl⟩:=yS (show FY z=true from hlo)
       exact .inr ⟨kz,rfl⟩
    have run:∀(ad:Option Addr) (cap:Nat),a.eval x=.slice ad l.length cap->l.length<=cap->(execOp a.eval o).run P w=.ok (.value (.slice ad n.toNat cap)) w:=by
     intro ad cap ev hle;have:=oC (P:=P) (w:=w) (isS:=true) (len:=l.length) (cap:=cap) (lo:=lo.map a.eval) (hi:=some (.int ik n)) (a:=0) (b:=n) aif (.inr ⟨ik,rfl⟩) (by omega) hle
     have r2:(Instr.sliceAt t (a.eval x) (lo.map a.eval) ((some hh).map a.eval) none).run P w=.ok (.slice ad n.toNat cap) w:=by
      rw[ev];simp only[Instr.sliceAt,Instr.slice,Sem.run_bind,run_underlying hu,Result.andThen_ok,VI,eh,this,run_sizeOf tie,Sem.run_pure];cases ad<;>simp[Addr.add]
     simp only[execOp,ho,Sem.run_bind,acy];rw[r2];rfl
    have fin:∀(v':Value),(execOp a.eval o).run P w=.ok (.value v') w->(∀b,aA v'=some b->aA (a.eval x)=some b)->Holds h (β.set i (.row v')) w (.row el' sh (l.take n.toNat)) (.row v')->dG v'->Bg P N B h0 h w a o true K:=by
     intro v' r hv hold' h1;intro Nx Q next
     rw[if_pos rfl];refine kD r (next _ _ _ _ _ k (FH.le.refl h) ((WV aj hT rfl hβ (cO _ _) (v:=.row v') (λb hb=>.inl (hv b hb)) (hold:=hold')).put (dW hd) rfl (λ_=>⟨?_,h1⟩) λhh=>by cases hh))
     refine⟨.row v',?_,rfl⟩;rw[qx hi']
    rcases hold with⟨ev,hl⟩ | ⟨ra,ev,hl⟩ | ⟨g,cap,cur,ev,q1,q2,q3,q4,q5⟩
    .have hn0:n.toNat=0:=by rw[hl]at hb;simp at hb;omega
     refine fin _ (run none 0 (by rw[ev,hl];rfl) (by rw[hl];exact o9 _)) (λb hb=>by simp[aA]at hb) (.inl ⟨by rw[hn0],by rw[hl];simp⟩) ⟨rfl,rfl⟩
    .have hn0:n.toNat=0:=by rw[hl]at hb;simp at hb;omega
     refine fin _ (run (some ra) 0 (by rw[ev,hl];rfl) (by rw[hl];exact o9 _)) (λb hb=>by simp[aA]at hb) (.inr (.inl ⟨ra,by rw[hn0],by rw[hl];simp⟩)) ⟨rfl,rfl⟩
    .have hlen:(l.take n.toNat).length=n.toNat:=by rw[kV];omega
     refine fin _ (run (some ⟨g,0,none⟩) cap ev q2) (λb hb=>by rw[ev,aY q3.1];rw[aY q3.1]at hb;exact hb) (.inr (.inr ⟨g,cap,cur,by rw[hlen],q1,by rw[hlen];omega,q3,q4,?_⟩)) ⟨rfl,rfl⟩
     have:=fV.uj (λ_ _=>Rd.size sh) q5 (a:=0) (b:=n.toNat) (J4 _) (by omega)
     simp only[NS,NK]at this;rw[hlen];rw[List.take_take,Ib (x9 _ (by omega))]at this
     exact this
   .cases k
  .cases k
 .cases k
theorem Xa(hc:bQ P cx.ti) (aj:Sat N B h0 s h β w a) (hg:aK cx.gd h) (hd:lJ N o.dst=true){x:Operand} (ho:o.op=.slice t x lo hi none)
 (hx:bM cx s [] x=some (.one (.c (.v (.slice none 0 0))))) (k:ah8 cx s o.dst t lo hi K):Bg P N B h0 h w a o true K:=by
 have tr:gv s.gl []=true:=rfl;unfold ah8 at k;split at k
 .rename_i el hde;have hu:=bJ hc hde (by simp)
  split at k
  .cases k
  rename_i ie hie;have tie:=hc.get hie;split at k
  .cases k
  rename_i p hp;split at k
  .cases k
  rename_i q hq;obtain⟨hb,k⟩:=k;have Gv:=(aP aj hg tr hx:dA h β (.c (.v (.slice none 0 0))) (a.eval x));have ev:a.eval x=.slice none 0 0:=Gv.1.1;have bnd:∀{o:Option Operand}{n:Int},FW cx s [] o 0=some n->(o.map a.eval=none/\n=0)\/∃k,o.map a.eval=some (.int k n):=by
   intro o n e;rcases Qx aj hg tr e with⟨rfl,rfl⟩ | ⟨x,ik,rfl,e'⟩
   .exact .inl ⟨rfl,rfl⟩
   .exact .inr ⟨ik,by simp[e']⟩
  have:=oC (P:=P) (w:=w) (isS:=true) (len:=0) (cap:=0) (bnd hp) (bnd hq) (by simpa using hb) (o9 _)
  refine oK aj hd (v:=.slice none 0 0) (e:=.one (.c (.v (.slice none 0 0)))) ?_ ⟨⟨rfl,rfl,rfl⟩,rfl,rfl⟩ k;have h1:p.toNat=0:=by omega
  have h2:q.toNat=0:=by omega
  have r2:(Instr.sliceAt t (a.eval x) (lo.map a.eval) (hi.map a.eval) none).run P w=.ok (.slice none 0 0) w:=by
   rw[ev];simp only[Instr.sliceAt,Instr.slice,Sem.run_bind,run_underlying hu,Result.andThen_ok,this,run_sizeOf tie,Sem.run_pure,h1,h2];simp
  simp only[execOp,ho,Sem.run_bind,acy];rw[r2];rfl
 .cases k
theorem Xb(hc:bQ P cx.ti) (aj:Sat N B h0 s h β w a) (hg:aK cx.gd h) (hd:lJ N o.dst=true){x:Operand} (ho:o.op=.call c) (bW:c.callee=.builtin .cap) (ha:c.args=#[x]) (ht:c.argTypes=#[t])
 (k:ah9 cx s o.dst t x K):Bg P N B h0 h w a o true K:=by
 have tr:gv s.gl []=true:=rfl;unfold ah9 at k;split at k
 .rename_i el hde;have hu:=bJ hc hde (by simp)
  split at k
  .rename_i hx;have Gv:=(aP aj hg tr hx:dA h β (.c (.v (.slice none 0 0))) (a.eval x));have ev:a.eval x=.slice none 0 0:=Gv.1.1;refine oK aj hd (v:=goInt 0) (e:=vI .i64 0) ?_ ⟨⟨rfl,bK _ _⟩,bK _ _⟩ k;simp[execOp,ho,resolve,bW,ha,ht,invoke,builtin,ev,Builtin.cap_,run_underlying hu]
  .cases k
 .cases k
theorem Xc(aj:Sat N B h0 s h β w a) (hg:aK cx.gd h) (hd:lJ N o.dst=true){x:Operand} (ho:o.op=.call c) (bW:c.callee=.builtin .max) (ha:c.args=#[x,y])
 (k:Ou cx s o.dst x y K):Bg P N B h0 h w a o true K:=by
 have tr:gv s.gl []=true:=rfl;unfold Ou at k;split at k
 .rename_i n hx;have ex:a.eval x=.int .i64 n:=(aP aj hg tr hx:dA h β (.c (.v (.int .i64 n))) (a.eval x)).1.1;split at k
  .rename_i m hy;have ey:a.eval y=.int .i64 m:=(aP aj hg tr hy:dA h β (.c (.v (.int .i64 m))) (a.eval y)).1.1;refine oK aj hd (v:=.int .i64 (dO n m)) (e:=vI .i64 (dO n m)) ?_ ⟨⟨rfl,bK _ _⟩,bK _ _⟩ k;simp[execOp,ho,resolve,bW,ha,invoke,builtin,ex,ey,Builtin.max_,Builtin.max2,dO]
  .cases k
 .cases k
theorem UG(hu:P.underlying t=some (.slice el)) (ad:Option Addr) (n c:Nat) (op:BinOp) (eq:Bool) (he:II op=some eq) (x y:Operand):
 (eqGuard op t x y (.slice ad n c) (.slice none 0 0)).run P w=.ok () w/\(binOp op t (.slice ad n c) (.slice none 0 0)).run P w=.ok (.bool (cnd eq ad.isNone (!ad.isNone))) w:=by
 refine⟨rP P op t x y (by rfl) w,?_⟩
 have key:∀d,(Op.equalIn (d+1) t (.slice ad n c) (.slice none 0 0)).run P w=.ok ad.isNone w:=by
  intro d;cases ad<;>simp[Op.equalIn,run_underlying hu]
 have k2:=key 9999;have hq2:Op.equal t (.slice ad n c) (.slice none 0 0)=Op.equalIn (9999+1) t (.slice ad n c) (.slice none 0 0):=rfl;unfold II at he;split at he
 .cases he;have e:(binOp .eql t (.slice ad n c) (.slice none 0 0)).run P w=((Op.equal t (.slice ad n c) (.slice none 0 0)).run P w).andThen λb w=>.ok (.bool b) w:=by
   simp only[binOp];generalize Op.equal t (.slice ad n c) (.slice none 0 0)=q;simp
  rw[e,hq2,k2];rfl
 .cases he;have e:(binOp .neq t (.slice ad n c) (.slice none 0 0)).run P w=((Op.equal t (.slice ad n c) (.slice none 0 0)).run P w).andThen λb w=>.ok (.bool (!b)) w:=by
   simp only[binOp];generalize Op.equal t (.slice ad n c) (.slice none 0 0)=q;simp
  rw[e,hq2,k2];rfl
 .cases he
theorem OB(hc:bQ P cx.ti) (aj:Sat N B h0 s h β w a) (hg:aK cx.gd h) (hd:lJ N o.dst=true){t':TypeId}{x:Operand}{op:BinOp}{eq:Bool} (ho:o.op=.binOp op t x y t') (he:II op=some eq)
 (hy:bM cx s [] y=some (.one (.c (.v (.slice none 0 0))))) (hx:bM cx s [] x=some (.one (.c z))) (hz:Ox z=true) (ht:WX cx t=true) (k:Ov s o.dst eq z K):Bg P N B h0 h w a o true K:=by
 have tr:gv s.gl []=true:=rfl;obtain⟨el,hu⟩:∃el,P.underlying t=some (.slice el):=by
  unfold WX at ht;split at ht
  .rename_i el hde;exact⟨el,bJ hc hde (by simp)⟩
  .cases ht
 have cy:=(aP aj hg tr hy:dA h β (.c (.v (.slice none 0 0))) (a.eval y));have ey:a.eval y=.slice none 0 0:=cy.1.1;have cz:=(aP aj hg tr hx:dA h β (.c z) (a.eval x));have exec:∀ad n c,a.eval x=.slice ad n c->(execOp a.eval o).run P w=.ok (.value (.bool (cnd eq ad.isNone (!ad.isNone)))) w:=by
  intro ad n c e;obtain⟨g1,g2⟩:=UG (P:=P) (w:=w) hu ad n c op eq he x y;simp only[execOp,ho,Sem.run_bind,e,ey,g1,g2,Result.andThen_ok,Sem.run_pure]
 have fin:∀ad n c (b:Bool),a.eval x=.slice ad n c->K (s.put o.dst [] (vB (cnd eq ad.isNone (!ad.isNone))))->Bg P N B h0 h w a o true K:=λad n c b e k=>
  oK aj hd (e:=vB (cnd eq ad.isNone (!ad.isNone))) (exec ad n c e) ⟨⟨rfl,cZ _⟩,cZ _⟩ k
 unfold Ov at k;split at k
 .rename_i v;unfold Ox at hz;have ev:a.eval x=.slice none 0 0:=by
   simp only at hz;split at hz
   .exact cz.1.1
   .cases hz
  refine fin none 0 0 true ev ?_;cases eq<;>exact k
 .rename_i sh l;rcases cz.1 with⟨e,hl⟩ | ⟨ad,cap,e,hl,_⟩ | ⟨b,off,cap,e,_⟩
  .exact fin _ _ _ true e (k true λ_=>hl)
  .exact fin _ _ _ true e (k false λhh=>by cases hh)
  .exact fin _ _ _ true e (k false λhh=>by cases hh)
 .rename_i i;split at k
  .rename_i t2 sh l hT;have hβ:β[i]?=some (.row (a.eval x)):=aj.ok.row_of (bH hT tr) cz.1;rcases aj.ok.holds i _ _ (bH hT tr) hβ with⟨e,hl⟩ | ⟨ra,e,hl⟩ | ⟨g,cap,cur,e,_⟩
   .exact fin _ _ _ true e (k true λ_=>hl)
   .exact fin _ _ _ true e (k false λhh=>by cases hh)
   .exact fin _ _ _ true e (k false λhh=>by cases hh)
  .cases k
 .cases k
theorem Xd{t' ty:TypeId}{i:TypeInfo}{z:Value} (ht:P.underlying t=some (.slice el)) (ht':P.underlying t'=some (.int .i64)) (hi:P.info? el=some i) (hz:i.zero=some z) (hs:1<=i.size) (n:Nat) (h0:0 < n) (h48:n * i.bytes<=140737488355328) (hb:1<=i.bytes):
 (Builtin.append_ #[t,t'] ty #[.slice none 0 0,.int .i64 n]).run P w =
  .ok (.slice (some ⟨w.heap.size,0,none⟩) n (grownCap w n 0 el)) (w.drew.alloc (.cells (Builtin.zeroCells z.cells n++Builtin.zeroCells z.cells (grownCap w n 0 el - n)) el)):=by
 have hn63:n<=140737488355328:=o8 (A80 _ hb) h48;have hn:n≠0:=by omega
 have hw:IntKind.i64.wrap (n:Int)=n:=by simp[IntKind.wrap,IntKind.bits,IntKind.signed];omega
 have hneg:¬((n:Int) < 0):=by omega
 have h48i:¬((281474976710656:Int) < (n:Int) * (i.bytes:Int)):=by
  have:((n * i.bytes:Nat):Int)<=140737488355328:=by omega
  rw[Int.natCast_mul]at this;omega
 have h63':¬(9223372036854775807 < (n:Int)):=by omega
 have h48':¬(281474976710656 < Builtin.nextslicecap n 0 * i.bytes):=by rw[nextslicecap_zero h0];omega
 have hns:¬(n * i.size=0):=by
  intro hh;rcases Nat.mul_eq_zero.1 hh with h | h<;>omega
 have aoW:¬(i.size=0):=by omega
 simp[Builtin.append_,run_underlying ht,run_underlying ht',sizeOf,typeInfo,zeroValue,hi,hz,Builtin.lenOf,hn,hw,hneg,h48i,h63',h48',Question.forced,run_firstCells_none,newRow,grownCap,asInt,asIntOf,hns,aoW]
theorem UH(hc:bQ P cx.ti) (aj:Sat N B h0 s h β w a) (hg:aK cx.gd h) (hd:lJ N o.dst=true){t':TypeId}{x:Operand} (ho:o.op=.call c) (bW:c.callee=.builtin .append) (ha:c.args=#[x,y]) (ht:c.argTypes=#[t,t'])
 (hx:bM cx s [] x=some (.one (.c (.v (.slice none 0 0))))) (k:WY cx s o.dst t t' y K):Bg P N B h0 h w a o true K:=by
 have tr:gv s.gl []=true:=rfl;unfold WY at k;split at k
 .rename_i hdi;have hui:=bJ hc hdi (by simp)
  split at k
  .rename_i el hde;have hu:=bJ hc hde (by simp)
   split at k
   .cases k
   rename_i ie hie;have tie:=hc.get hie;split at k
   .cases k
   rename_i sh hsh;split at k
   .rename_i hz;rw[aB,aB,bV,bV]at hz;have hz1:sh.size=ie.size:=iw hz.1;have hz2:1<=ie.bytes:=qj hz.2.1;have hz3:1<=ie.size:=qj hz.2.2;split at k
    .rename_i n hn;obtain⟨⟨hn0,hroom⟩,k⟩:=k;have ex:a.eval x=.slice none 0 0:=(aP aj hg tr hx:dA h β (.c (.v (.slice none 0 0))) (a.eval x)).1.1;have ey:a.eval y=.int .i64 n:=(aP aj hg tr hn:dA h β (.c (.v (.int .i64 n))) (a.eval y)).1.1;obtain⟨inf,z,i1,i2,i3,i4,i5⟩:=tie.info;obtain⟨m,rfl⟩:∃m:Nat,n=m:=⟨n.toNat,by omega⟩
     rw[A95]at hroom k;unfold nO at hroom;refine gq.weak (kY (P:=P) aj (o:=o) (G:=[]) rfl hd (r:=.row el sh (List.replicate m (qJ sh))) (e:=.one (.c (.row (aQ s.T)))) (K:=K) k λ_=>?_)
     by_cases hm:m=0
     .subst hm;refine⟨.slice none 0 0,w,.row (.slice none 0 0),?_,cO _ _,λb hb=>by rw[bC]at hb;simp[aA]at hb,.inl ⟨rfl,rfl⟩,⟨_,kE (kZ aj) _,rfl⟩,rfl,rfl⟩
      simp[execOp,ho,resolve,bW,ha,ht,invoke,builtin,ex,ey,Builtin.append_,run_underlying hu,run_underlying hui,sizeOf,typeInfo,i1,asInt,asIntOf,IntKind.wrap,IntKind.bits,IntKind.signed]
     .have r:=Xd (P:=P) (w:=w) (ty:=o.type) hu hui i1 i4 (by omega) m (by omega) (by rw[i3];exact hroom) (by omega)
      have hge:=grownCap_ge w m 0 el;have hle:m<=140737488355328:=o8 (A80 _ hz2) hroom;refine⟨.slice (some ⟨w.heap.size,0,none⟩) m (grownCap w m 0 el),w.drew.alloc (.cells (Builtin.zeroCells z.cells m++Builtin.zeroCells z.cells (grownCap w m 0 el - m)) el),.row (.slice (some ⟨w.heap.size,0,none⟩) m (grownCap w m 0 el)),?_,⟨⟨rfl,rfl,rfl,by simp,λk hk _=>(World.grownBy_alloc w.drew _ none).block k hk (by simp)⟩,TQ _⟩,?_,?_,⟨_,kE (kZ aj) _,rfl⟩,rfl,rfl⟩
      .simp only[execOp,ho,resolve,bW,ha,ht,invoke,builtin,Sem.run_bind,Sem.run_pure,Result.andThen_ok];simp[ex,ey,r]
      .intro b hb;rw[bC]at hb;simp[aA]at hb;obtain⟨_,rfl⟩:=hb;simp
      .have WM:z.cells.size=ie.size:=by rw[i5];simpa using tie.pq
       have hzz:∀q,Builtin.zeroCells z.cells q=(iG q ie.zero).toArray:=by
        intro q;unfold Builtin.zeroCells;rw[i5];have:=qM (zero:=ie.zero) (n:=q) (by rw[tie.pq];omega)
        simpa using this
       refine .inr (.inr ⟨w.heap.size,_,_,by rw[JX],heap_alloc_new w.drew _,by rw[JX];omega,⟨by omega,grownCap_le_maxLen w m 0 el (by simp only[maxLen];omega)⟩,?_,?_⟩)
       .simp only[A85,size_zeroCells,WM,hz1,<-J5];congr 1;omega
       .rw[JX,hzz,hzz];simp only[A96,List.toList_toArray];rw[A83 (by rw[uz,tie.pq,hz1];exact o9 _),hz1,<-tie.pq,Ah (o9 _)]
        exact Iz (yJ (tie.Wp sh hsh).1) _
    .cases k
   .cases k
  .cases k
 .cases k
theorem QN{l:List Value}:∀{m j:Nat},j < m->((iG m l).drop (j * l.length)).take l.length=l
 | m+1,0,_=>by simp[iG,fM]
 | m+1,j+1,h=>by
   simp only[iG,fM];rw[wW,V4,A78];exact QN (by omega)
theorem OC(hc:bQ P cx.ti) (aj:Sat N B h0 s h β w a) (hg:aK cx.gd h) (hd:lJ N o.dst=true){x:Operand} (ho:o.op=.makeSlice t x y){p:Prop}
 (hp:Oz cx s o.dst t x y K=some p) (k:p):Bg P N B h0 h w a o true K:=by
 have tr:gv s.gl []=true:=rfl;unfold Oz at hp;split at hp
 .rename_i el hde;have hu:=bJ hc hde (by simp)
  split at hp
  .cases hp
  rename_i ie hie;have tie:=hc.get hie;split at hp
  .rename_i e hsh;split at hp
   .rename_i tt hte;split at hp
    .rename_i hz;rw[aB,aB,bV,bV]at hz;have hz1:1=ie.size:=iw hz.1;have hz2:1<=ie.bytes:=qj hz.2.1;have hz3:ie.zero=[mZ]:=UE hz.2.2;split at hp
     .rename_i ik n hn;split at hp
      .rename_i ik' c hcp;cases hp;refine(kY (G:=[]) aj rfl hd k.2 λhgv=>?_).weak
       obtain⟨s1,s2,s3⟩:=k.1;have e1:a.eval x=.int ik n:=(aP aj hg hgv hn).1.1;have e2:a.eval y=.int ik' c:=(aP aj hg hgv hcp).1.1;obtain⟨inf,z,i1,i2,i3,i4,i5⟩:=tie.info;unfold nO at s3;have hcb:c.toNat<=140737488355328:=o8 (A80 _ hz2) s3;have hb:(inf.bytes:Int) * c<=281474976710656:=by
        rw[i3];have:((c.toNat * ie.bytes:Nat):Int)<=140737488355328:=by omega
        rw[Int.natCast_mul,Int.toNat_of_nonneg (by omega),Int.mul_comm]at this
        omega
       have r:=run_make (P:=P) w t el inf z hu i1 i4 ik ik' n c s1 s2 hb (by omega)
       have WO:madeCells z.cells (c.toNat * inf.size)=(iG c.toNat ie.zero).toArray:=by
        unfold madeCells;rw[i5,i2,<-tie.pq];exact qM (by rw[tie.pq];omega)
       rw[WO]at r;have hbn:∀{b:Nat},¬aA mZ=some b:=by intro b hb';simp[mZ,aA]at hb'
       refine⟨.slice (some ⟨w.heap.size,0,none⟩) n.toNat c.toNat,w.alloc (.cells (iG c.toNat ie.zero).toArray el),.deep (.slice (some ⟨w.heap.size,0,none⟩) n.toNat c.toNat) (λ_=>mZ),?_,ou _ _ _,?_,?_,?_⟩
       .simp only[execOp,ho,e1,e2,Sem.run_bind,r,Result.andThen_ok,Sem.run_pure]
       .intro b hb';rw[aX]at hb';rcases hb' with hb' | ⟨j,hb'⟩
        .simp[aA]at hb';obtain⟨_,rfl⟩:=hb';simp
        .exact absurd hb' hbn
       .refine⟨λj k b hb'=>absurd hb' hbn,λj b hb'=>absurd hb' hbn,?_⟩
        by_cases hc0:c.toNat=0
        .have hn0:n.toNat=0:=by omega
         exact .inr (.inl ⟨⟨w.heap.size,0,none⟩,by rw[hc0,hn0],by rw[hn0];rfl⟩)
        refine .inr (.inr ⟨w.heap.size,c.toNat,_,by rw[JX],l9 _ _,by rw[JX];omega,⟨by omega,by simp only[maxLen];omega⟩,?_,λj=>hbn,λj dd hj=>?_⟩)
        .simp only[FM,uz,hz3];rfl
        .have hj':=(A8.1 hj).1;rw[JX]at hj';have ed:dd=[]:=by
          have:=ig hj;exact List.eq_of_mem_replicate this
         subst ed;have ecs:((iG c.toNat ie.zero).drop (j * 1)).take 1=[mZ]:=by
          have:=QN (l:=ie.zero) (m:=c.toNat) (j:=j) (by omega)
          rw[hz3]at this ⊢;exact this
         show zX h _ (.sl e) tt e 0 true false mZ (((iG c.toNat ie.zero).drop (j * 1)).take 1) [];rw[ecs];exact⟨[],[],⟨mZ,rfl,.inl ⟨rfl,rfl⟩⟩,⟨rfl,rfl,rfl⟩,rfl,.inl ⟨rfl,rfl⟩⟩
       .exact⟨⟨_,kE (kZ aj) _,rfl⟩,rfl,rfl⟩
      .cases hp
     .cases hp
    .cases hp
   .cases hp
  .cases hp
 .cases hp
theorem OK.Xe(ok:OK B h0 T h β w) (v:RV):OK B h0 (T++[.gone]) h (β++[v]) w where
 below:=ok.below
 dr:=ok.dr
 len:=by simp[ok.len]
 holds:=by
  intro i r' v' e e';rcases aC e with⟨hi,e⟩ | ⟨hi,rfl⟩
  .rcases aC e' with⟨_,e'⟩ | ⟨hj,_⟩
   .exact(ok.holds i r' v' e e').move (FH.le.refl h) (Ext.append _ _) λhl b hb=>rfl
   .have:=ok.len;omega
  .cases v'<;>trivial
 own:=by
  intro i r' v' b e hl e' hb;rcases aC e with⟨hi,e⟩ | ⟨hi,rfl⟩
  .rcases aC e' with⟨_,e'⟩ | ⟨hj,_⟩
   .exact ok.own i r' v' b e hl e' hb
   .have:=ok.len;omega
  .cases hl
 inj:=by
  intro i j r1 r2 u v' b ei hl1 ej hl2 eu ev hu hv';have L:=ok.len;rcases aC ei with⟨hi,ei⟩ | ⟨hi,rfl⟩
  .rcases aC ej with⟨hj,ej⟩ | ⟨hj,rfl⟩
   .rcases aC eu with⟨_,eu⟩ | ⟨hi',_⟩
    .rcases aC ev with⟨_,ev⟩ | ⟨hj',_⟩
     .exact ok.inj i j r1 r2 u v' b ei hl1 ej hl2 eu ev hu hv'
     .omega
    .omega
   .cases hl2
  .cases hl1
 hle:=ok.hle
 hw:=ok.hw
 hg:=ok.hg
 kn:=ok.kn
theorem wG{i:Nat}{z:SC}{g g':Gd×ay}:∀{T:List (Gd×ay)},dB (rU i z (snoc T g)) (aQ T) g'=snoc (rU i z T) g'
 | []=>rfl
 | x :: T=>by
   show dB (_ :: rU i z (snoc T g)) (aQ T+1) g'=_ :: snoc (rU i z T) g';show _ :: dB (rU i z (snoc T g)) (aQ T) g'=_;rw[wG]
theorem Xf(hc:bQ P cx.ti) (aj:Sat N B h0 s h β w a) (hg:aK cx.gd h) (hd:lJ N o.dst=true){x m:Operand} (ho:o.op=.slice t x lo hi (some m))
 (k:aia cx s o.dst t x lo hi m K):Bg P N B h0 h w a o true K:=by
 have tr:gv s.gl []=true:=rfl;unfold aia at k;split at k
 .rename_i el hde;have hu:=bJ hc hde (by simp)
  split at k
  .cases k
  rename_i ie hie;have tie:=hc.get hie;split at k
  .cases k
  rename_i hlo;split at k
  .cases k
  rename_i hh;split at k
  .rename_i ik n hn;split at k
   .rename_i ik' n' hn';split at k
    .rename_i sh l hx;split at k
     .rename_i hz;have hz:ie.size=sh.size:=iw hz;obtain⟨⟨b1,b2,b3⟩,k⟩:=k;subst b3;have eh:a.eval hh=.int ik n:=(aP aj hg tr hn:dA h β (.c (.v (.int ik n))) (a.eval hh)).1.1;have em:a.eval m=.int ik' n:=(aP aj hg tr hn':dA h β (.c (.v (.int ik' n))) (a.eval m)).1.1;have Gv:=(aP aj hg tr hx:dA h β (.c (.sl sh l)) (a.eval x));have aif:lo.map a.eval=none\/∃k,lo.map a.eval=some (.int k 0):=by
       cases lo with
       | none=>exact .inl rfl
       | some z=>
         obtain⟨kz,rfl⟩:=yS (show FY z=true from hlo)
         exact .inr ⟨kz,rfl⟩
      have run:∀(ad:Option Addr) (len cap:Nat),a.eval x=.slice ad len cap->n<=len->len<=cap->(execOp a.eval o).run P w=.ok (.value (.slice ad n.toNat n.toNat)) w:=by
       intro ad len cap ev h1 h2;have hb:(0:Int)<=n/\n<=cap:=by omega
       have aoX:(Instr.sliceBounds true len cap (lo.map a.eval) (some (.int ik n)) (some (.int ik' n))).run P w=.ok (0,n.toNat,n.toNat) w:=by
        unfold Instr.sliceBounds;rcases aif with e | ⟨k,e⟩
        .rw[e];simp[Instr.sliceBound,asIntOf,hb];omega
        .rw[e];simp[Instr.sliceBound,asIntOf,hb];omega
       have r2:(Instr.sliceAt t (a.eval x) (lo.map a.eval) ((some hh).map a.eval) ((some m).map a.eval)).run P w=.ok (.slice ad n.toNat n.toNat) w:=by
        rw[ev];simp only[Instr.sliceAt,Instr.slice,Sem.run_bind,run_underlying hu,Result.andThen_ok,VI,eh,em,aoX,run_sizeOf tie,Sem.run_pure];cases ad<;>simp[Addr.add]
       simp only[execOp,ho,Sem.run_bind];rw[r2];rfl
      rcases Gv.1 with⟨ev,hl⟩ | ⟨ra,cap,ev,hl,hc'⟩ | ⟨b,off,cap,ev,q1,q2,cs,rd,at_⟩
      .have hn0:n.toNat=0:=by rw[hl]at b2;simp at b2;omega
       refine oK aj hd (e:=.one (.c (.abs (.Uf sh (l.take n.toNat))))) (run none 0 0 ev (by rw[hl]at b2;simpa using b2) (o9 _)) ⟨⟨?_,none,_,rfl⟩,rfl,rfl⟩ k
       rw[hn0,hl];exact .inl ⟨rfl,rfl⟩
      .have hn0:n.toNat=0:=by rw[hl]at b2;simp at b2;omega
       refine oK aj hd (e:=.one (.c (.abs (.Uf sh (l.take n.toNat))))) (run (some ra) 0 cap ev (by rw[hl]at b2;simpa using b2) (J4 _)) ⟨⟨?_,some ra,_,rfl⟩,rfl,rfl⟩ k
       rw[hn0,hl];exact .inr (.inl ⟨ra,0,rfl,rfl,J4 _⟩)
      .have hlen:(l.take n.toNat).length=n.toNat:=by rw[kV];omega
       refine oK aj hd (e:=.one (.c (.abs (.Uf sh (l.take n.toNat))))) (run (some ⟨b,off,none⟩) l.length cap ev b2 q1) ⟨⟨.inr (.inr ⟨b,off,n.toNat,by rw[hlen],by rw[hlen];exact o9 _,by omega,cs.take (n.toNat * sh.size),?_,?_⟩),_,_,rfl⟩,rfl,rfl⟩ k
       .have:=fV.uj (λ_ _=>Rd.size sh) rd (a:=0) (b:=n.toNat) (J4 _) (by omega)
        simpa using this
       .have:=at_.shift (n.toNat * sh.size) 0;simpa using this
     .cases k
    .cases k
   .cases k
  .cases k
 .cases k
theorem D5{ty:TypeId}{i:TI}{sh:Sh}{sv:Value}{l l2:List sh.den} (hu:P.underlying t=some (.slice el)) (k:aN P el i) (hs:sh.size=i.size)
 (hb1:1<=i.bytes) (hs1:1<=i.size) (row:qy h (Rd h sh) v l/\∃a n,v=.slice a n n) (src:WL h w sh sv l2) (room:nO (l.length+l2.length) i.bytes)
 (hw:∀b o u,h b o=some u->vis w b o=some u):
 ∃v' w',(Builtin.append_ #[t,t] ty #[v,sv]).run P w=.ok v' w'/\((l2=[]/\v'=v/\w'=w)\/(Gb w w' none/\(∀b,aA v'=some b->w.heap.size<=b/\b < w'.heap.size)/\QA h w' el sh v' (l++l2))):=by
 obtain⟨inf,z,i1,i2,i3,i4,i5⟩:=k.info;unfold nO at room;obtain⟨row,va,vn,ve⟩:=row;have hn:l.length+l2.length<=140737488355328:=o8 (A80 _ hb1) room;have WM:z.cells.size=i.size:=by rw[i5];simpa using k.pq
 rcases src with⟨rfl,rfl⟩ | ⟨sa,sc,rfl,rfl⟩ | ⟨b,o,c,cs,rfl,rd,at_⟩
 .refine⟨v,w,?_,.inl ⟨rfl,rfl,rfl⟩⟩;rcases row with⟨rfl,rfl⟩ | ⟨_,cp,rfl,rfl,_⟩ | ⟨g,off,cap,rfl,q1,q2,q3⟩
  .simp[Builtin.append_,run_underlying hu,sizeOf,typeInfo,i1,Builtin.lenOf,Builtin.firstCells]
  .simp[Builtin.append_,run_underlying hu,sizeOf,typeInfo,i1,Builtin.lenOf,Builtin.firstCells,storeCells]
  .simp[Builtin.append_,run_underlying hu,sizeOf,typeInfo,i1,Builtin.lenOf,Builtin.firstCells,q1,storeCells]
 .refine⟨v,w,?_,.inl ⟨rfl,rfl,rfl⟩⟩;rcases row with⟨rfl,rfl⟩ | ⟨_,cp,rfl,rfl,_⟩ | ⟨g,off,cap,rfl,q1,q2,q3⟩
  .simp[Builtin.append_,run_underlying hu,sizeOf,typeInfo,i1,Builtin.lenOf,Builtin.firstCells,loadCells,loadCellsFrom]
  .simp[Builtin.append_,run_underlying hu,sizeOf,typeInfo,i1,Builtin.lenOf,Builtin.firstCells,storeCells,loadCells,loadCellsFrom]
  .simp[Builtin.append_,run_underlying hu,sizeOf,typeInfo,i1,Builtin.lenOf,Builtin.firstCells,q1,storeCells,loadCells,loadCellsFrom]
 .have hcs:cs.length=l2.length * inf.size:=by rw[fV.size (λ_ _=>Rd.size sh) rd,i2,hs]
  have hnews:∀j u,cs[j]?=some u->w.cell? ((⟨b,o,none⟩:Addr).add j)=some u:=λj u e=>by rw[add_lit];exact at_ j u e
  by_cases hm:l2.length=0
  .have:l2=[]:=VB hm;subst this;refine⟨v,w,?_,.inl ⟨rfl,rfl,rfl⟩⟩;rcases row with⟨rfl,rfl⟩ | ⟨_,cp,rfl,rfl,_⟩ | ⟨g,off,cap,rfl,q1,q2,q3⟩
   .simp[Builtin.append_,run_underlying hu,sizeOf,typeInfo,i1,Builtin.lenOf,Builtin.firstCells,loadCells,loadCellsFrom]
   .simp[Builtin.append_,run_underlying hu,sizeOf,typeInfo,i1,Builtin.lenOf,Builtin.firstCells,storeCells,loadCells,loadCellsFrom]
   .simp[Builtin.append_,run_underlying hu,sizeOf,typeInfo,i1,Builtin.lenOf,Builtin.firstCells,q1,storeCells,loadCells,loadCellsFrom]
  .rcases row with⟨rfl,rfl⟩ | ⟨ra,cp,rfl,rfl,hcp⟩ | ⟨g,off,cap,rfl,q1,q2,c0,q3,q4⟩
   .have r:=run_append_nil (P:=P) w t ty el inf z hu i1 i4 ⟨b,o,none⟩ l2.length c cs hcs hnews (by omega) (by simp at hn;omega) (by rw[i3];simp at room;omega)
    have hge:=grownCap_ge w l2.length 0 el;refine⟨_,_,r,.inr ⟨⟨⟨rfl,rfl,rfl,by simp,λk hk _=>(World.grownBy_alloc w.drew _ none).block k hk (by simp)⟩,TQ _⟩,?_,?_⟩⟩
    .intro b' hb';simp[aA]at hb';obtain⟨_,rfl⟩:=hb';simp
    .refine .inr (.inr ⟨w.heap.size,_,_,rfl,heap_alloc_new w.drew _,by simpa using hge,⟨by omega,grownCap_le_maxLen w l2.length 0 el (by simp only[maxLen];simp at hn;omega)⟩,?_,?_⟩)
     .simp only[A85,FM,size_zeroCells,WM,hcs,i2,hs,<-J5]
      congr 1;omega
     .simp only[A96,TN];rw[show l2.length * sh.size=cs.length by rw[hcs,i2,hs],VQ]
      exact rd
   .have aoY:cp=0:=by cases ve;rfl
    subst aoY;have r:=run_append_grow (P:=P) w t ty el inf z hu i1 i4 ra 0 0 [] (by simp) (λj u e=>by simp at e) ⟨b,o,none⟩ l2.length c cs hcs hnews (by omega) (by simp at hn;omega) (growslice_fits (by omega) (by rw[i3];simpa using room))
    rw[Dh]at r;have hge:=grownCap_ge w l2.length 0 el;refine⟨_,_,r,.inr ⟨⟨⟨rfl,rfl,rfl,by simp,λk hk _=>(World.grownBy_alloc w.drew _ none).block k hk (by simp)⟩,TQ _⟩,?_,?_⟩⟩
    .intro b' hb';simp[aA]at hb';obtain⟨_,rfl⟩:=hb';simp
    .refine .inr (.inr ⟨w.heap.size,_,_,rfl,heap_alloc_new w.drew _,by simpa using hge,⟨by omega,grownCap_le_maxLen w l2.length 0 el (by simp only[maxLen];simp at hn;omega)⟩,?_,?_⟩)
     .simp only[A85,FM,size_zeroCells,WM,TN,hcs,i2,hs,Dh,J3,<-J5]
      congr 1;omega
     .simp only[A96,TN];rw[show l2.length * sh.size=cs.length by rw[hcs,i2,hs],VQ]
      exact rd
   .have hcap:cap=l.length:=by injection ve with e1 e2 e3;omega
    subst hcap;have lsz:=fV.size (λ_ _=>Rd.size sh) q3
    have hol:c0.length=l.length * inf.size:=by rw[lsz,i2,hs]
    have holds:∀j u,c0[j]?=some u->w.cell? ((⟨g,off,none⟩:Addr).add j)=some u:=by
     intro j u e;rw[add_lit];exact Di (hw _ _ _ (q4 j u e)) (fV.all (λ_ _=>Rd.one _) q3 u (ig e)).2
    have r:=run_append_grow (P:=P) w t ty el inf z hu i1 i4 ⟨g,off,none⟩ l.length l.length _ hol holds ⟨b,o,none⟩ l2.length c cs hcs hnews (by omega) (by omega) (growslice_fits (by omega) (by rw[i3];exact room))
    have hge:=grownCap_ge w (l.length+l2.length) l.length el;refine⟨_,_,r,.inr ⟨⟨⟨rfl,rfl,rfl,by simp,λk hk _=>(World.grownBy_alloc w.drew _ none).block k hk (by simp)⟩,TQ _⟩,?_,?_⟩⟩
    .intro b' hb';simp[aA]at hb';obtain⟨_,rfl⟩:=hb';simp
    .refine .inr (.inr ⟨w.heap.size,_,_,by rw[ku],heap_alloc_new w.drew _,by rw[ku];exact hge,⟨by omega,grownCap_le_maxLen w _ l.length el (by simp only[maxLen];omega)⟩,?_,?_⟩)
     .have ahZ:c0.length=l.length * i.size:=by rw[<-hs];exact lsz
      simp only[A85,FM,size_zeroCells,WM,hcs,i2,hs,ahZ,<-J5]
      congr 1
      omega
     .simp only[A96,zW];rw[<-zW,show(l++l2).length * sh.size=(c0++cs).length by rw[ku,ku,J5,hcs,lsz,i2,hs],VQ]
      exact q3.append rd
theorem KR(hc:bQ P cx.ti) (aj:Sat N B h0 s h β w a) (hg:aK cx.gd h) (hd:lJ N o.dst=true){x:Operand} (ho:o.op=.call c) (bW:c.callee=.builtin .append) (ha:c.args=#[x,y]) (ht:c.argTypes=#[t,t])
 (k:IJ cx s o.dst t x y K):Bg P N B h0 h w a o true K:=by
 have tr:gv s.gl []=true:=rfl;unfold IJ iK at k;split at k
 .rename_i el hde;have hu:=bJ hc hde (by simp)
  split at k
  .cases k
  rename_i ie hie;have tie:=hc.get hie;split at k
  .cases k
  rename_i sh hsh;split at k
  .rename_i hz;rw[aB,aB,bV,bV]at hz;have hz1:sh.size=ie.size:=iw hz.1;have hz2:1<=ie.bytes:=qj hz.2.1;have hz3:1<=ie.size:=qj hz.2.2;split at k
   .rename_i fC l1 hx;split at k
    .rename_i l hl;obtain⟨e1,e2⟩:=oG hl;subst e1;simp only at e2;subst e2;split at k
     .rename_i v2 hv2;have c2:=aP aj hg tr hv2;split at k
      .rename_i l2 hl2;obtain⟨k1,k⟩:=k;have src:=BZ aj hl2 c2;have Gv:=(aP aj hg tr hx:dA h β (.c (.abs (.Uf fC l1))) (a.eval x));obtain⟨v',w',r1,r2⟩:=D5 (P:=P) (ty:=o.type) hu tie hz1 hz2 hz3 Gv.1 src k1 aj.ok.hw;have exec:(execOp a.eval o).run P w=.ok (.value v') w':=by
        have r1':=r1;simp[execOp,ho,resolve,bW,ha,ht,invoke,builtin,r1']
       have hlen:aQ s.T=β.length:=by rw[aj.ok.len,iY,bF]
       have gT:∀(r:ay),∀p∈snoc s.T (([]:Gd),r),vg s.gl.length p.1=true:=by
        intro r p hp;rw[iI,Fv]at hp;rcases hp with hp | hp
        .exact aj.gT p hp
        .simp at hp;subst hp;rfl
       have fin:∀(r:ay) (h':FH) (s1:Sat N B h0 { s with T:=snoc s.T ([],r) } h (β++[.row v']) w' a),h.le h'->OK B h0 ((eff s.gl (snoc s.T ([],r))).set (aQ s.T) .gone) h' (β++[.row v']) w'->qy h' (Rd h' fC) v' (l1++l2)->Bg P N B h0 h w a o true K:=by
        intro r h' s1 le ok' sl;have fQ:(eff s.gl (snoc s.T (([]:Gd),r)))[aQ s.T]?=some r:=by
         rw[iM,hlen,aj.ok.len,NH (o9 _),V3];rfl
        have bI:=s1.IQ (z:=.sl fC (l1++l2)) (i:=aQ s.T) (u:=.row v') (v:=v') fQ (by rw[hlen];simp) rfl le ok' sl
        rw[show dB (rU (aQ s.T) (.sl fC (l1++l2)) (snoc s.T (([]:Gd),r))) (aQ s.T) (([]:Gd),ay.gone)=snoc (rU (aQ s.T) (.sl fC (l1++l2)) s.T) (([]:Gd),ay.gone) from wG]at bI
        intro Nx Q next
        rw[if_pos rfl];exact kD exec (next _ _ _ _ _ k le (bI.put (dW hd) rfl (λ_=>⟨sl,sl.dG⟩) λhh=>by cases hh))
       rcases r2 with⟨e1,e2,e3⟩ | ⟨r2,r3,r4⟩
       .have hw':w=w':=e3.symm;subst hw';subst e2;subst e1;have ok:OK B h0 (eff s.gl (snoc s.T (([]:Gd),ay.gone))) h (β++[.row (a.eval x)]) w:=by rw[iM];exact aj.ok.Xe _
        have s1:=aj.mem ok (FH.le.refl h) (Ext.append _ _) (gT .gone);refine fin .gone h s1 (FH.le.refl h) ?_ (by rw[Ql];exact Gv.1.1)
        rw[gV]
        .exact ok
        .rw[iM,hlen,aj.ok.len,NH (o9 _),V3];rfl
       .have ok:OK B h0 (eff s.gl (snoc s.T (([]:Gd),ay.row el fC (l1++l2)))) h (β++[.row v']) w':=by
         rw[iM];exact aj.ok.add r2 (λb hb=>r3 b (bC.1 hb)) r4
        have s1:=aj.mem ok (FH.le.refl h) (Ext.append _ _) (gT _);have fQ:(eff s.gl (snoc s.T (([]:Gd),ay.row el fC (l1++l2))))[aQ s.T]?=some (.row el fC (l1++l2)):=by
         rw[iM,hlen,aj.ok.len,NH (o9 _),V3];rfl
        obtain⟨h',le,ok',sl⟩:=ok.freeze fQ (show(β++[.row v'])[aQ s.T]?=some (.row v') by rw[hlen];simp)
        exact fin _ h' s1 le ok' sl
      .cases k
     .cases k
    .cases k
   .cases k
  .cases k
 .cases k
theorem acX(hc:bQ P cx.ti) (aj:Sat N B h0 s h β w a) (hg:aK cx.gd h) (hd:lJ N o.dst=true){ops:Array Oper}{p:Prop} (e:aic cx s o K=some p) (k:p):Bg P N B h0 h w a o (Region.wanted o (yielded ops a.tmps)) K:=by
 unfold aic at e;split at e
 .cases e
 rename_i hgd;rw[show Region.wanted o (yielded ops a.tmps)=true by simp[Region.wanted,hgd]]
 split at e
 .rename_i t x lo hi mx ho;split at e
  .rename_i m;split at e
   .rename_i hm;cases e;exact W9 hc aj hg hd ho hm k
   .cases e;exact Xf hc aj hg hd ho k
  .split at e
   .rename_i i hx;cases e;exact OA hc aj hg hd ho hx k
   .rename_i hx;cases e;exact Xa hc aj hg hd ho hx k
   .cases e
 .rename_i op t x y t' ho;split at e
  .cases e
  .rename_i eq he;split at e
   .rename_i hy;split at e
    .rename_i z hx;split at e
     .rename_i hz;rw[aB,bV]at hz;cases e;exact OB hc aj hg hd ho he hy hx hz.1 hz.2 k
     .cases e
    .cases e
   .cases e
 .rename_i c ho;split at e
  .rename_i bW;split at e
   .rename_i x y ha;split at e
    .rename_i t t' ht;split at e
     .rename_i hb;have hb:t=t':=iw hb;subst hb;split at e
      .cases e;exact KR hc aj hg hd ho bW (iF ha) (iF ht) k
      .cases e
     .split at e
      .rename_i hx;cases e;exact UH hc aj hg hd ho bW (iF ha) (iF ht) hx k
      .cases e
    .cases e
   .cases e
  .rename_i bW;split at e
   .rename_i x ha;split at e
    .rename_i t ht;cases e;exact Xb hc aj hg hd ho bW (iF ha) (iF ht) k
    .cases e
   .cases e
  .rename_i bW;split at e
   .rename_i x y ha;cases e;exact Xc aj hg hd ho bW (iF ha) k
   .cases e
  .cases e
 .rename_i t ln cp ho;split at e
  .exact OC hc aj hg hd ho e k
  .cases e
 .rename_i t n ps ho;split at e
  .cases e
  .rename_i i r hr;cases e;obtain⟨h',le,aW⟩:=aj.FI (l:=i :: r);have:=sW hc aW (hg.mono le) (G:=[]) rfl hd ho k;exact Bg.le le this.weak
 .cases e
end
end Go.jl
